/-
  Circuits, plain data: what the reference's loops compute.
-/
import Derived.Test.YtifoecfajmnjjaaGreatQNeH
namespace Go.Proofs.YtifoecfajmnjjaaGreat
open Go.RowKit
set_option linter.unusedVariables false
set_option linter.unusedSimpArgs false
theorem zZ {v w : Int} (h : v < 0) : cS v w = false := by unfold cS; rw [decide_eq_false (by omega)]; rfl
theorem z3 {v w : Int} (h : v > ap w) : cS v w = false := by unfold cS; rw [decide_eq_false (show ¬v ≤ ap w by omega), Bool.and_false]
theorem JT {v w : Int} (h : ¬v < 0) (h2 : ¬v > ap w) : cS v w = true := by unfold cS; rw [decide_eq_true (show v ≤ ap w by omega), decide_eq_true (show 0 ≤ v by omega)]; rfl
theorem pU {l : List Int} {w : Int} {i : Nat} (hi : i < l.length) (h : cS (l.getD i 0) w = false) : cg l w = false := ie (f := fun i => cS (l.getD i 0) w) hi h
theorem wR {l : List Int} {w : Int} (h : ∀ i, i < l.length → cS (l.getD i 0) w = true) : cg l w = true := ce.2 h
def EX (a : Ns) : Prop := a.procs.length ≤ 1000000 ∧ a.chans.length ≤ 1000000 ∧ (∀ n, (a.chans.getD n []).length ≤ 1099511627776) ∧ (∀ i, (a.procs.getD i aU).regs.length ≤ 1000000) ∧ (∀ i, (a.procs.getD i aU).mems.length ≤ 1000000) ∧ ∀ i j, ((a.procs.getD i aU).mems.getD j []).length ≤ 1000000
theorem bI {c : Ci} {s : Ns} (hc : bo c) (hs : bN c s) (hm : fY s 4294967296) : EX s := by
 have hp : ∀ i, (s.procs.getD i aU).regs.length ≤ 100 ∧ (s.procs.getD i aU).mems.length ≤ 100 ∧ ∀ j, ((s.procs.getD i aU).mems.getD j []).length ≤ 4 := by
  intro i
  by_cases hi : i < c.procs.length
  ·have h1 := hs.pv i hi
   have h2 := hc.pr i hi
   refine ⟨by rw [h1.rl]; exact h2.rl, by rw [h1.ml]; exact h2.ml, fun j => ?_⟩
   by_cases hj : j < (aB c i).mems.length
   ·have h3 := h1.mn j hj
    have h4 := (h2.mw j hj).2.1
    have h5 : (((s.procs.getD i aU).mems.getD j []).length : Int) = (mK (aB c i) j).words := h3
    omega
   ·have h6 := h1.ml
    rw [show (s.procs.getD i aU).mems.getD j [] = [] from by
     rw [List.getD, List.getElem?_eq_none (by show (xw s i).mems.length ≤ j; omega)]; rfl]
    simp
  ·rw [show s.procs.getD i aU = aU from by rw [List.getD, List.getElem?_eq_none (by rw [hs.pl]; omega)]; rfl]
   simp
 have h1 := hc.nl
 have h2 := hc.cl
 refine ⟨by rw [hs.pl]; omega, by rw [hs.cl]; omega, fun n => Nat.le_trans (hm n) (by omega), fun i => Nat.le_trans (hp i).1 (by omega), fun i => Nat.le_trans (hp i).2.1 (by omega), fun i j => Nat.le_trans ((hp i).2.2 j) (by omega)⟩
theorem Dw : EX Jk := by
 refine ⟨by simp, by simp, fun n => by simp, fun i => by simp, fun i => by simp, fun i j => by simp⟩
def bB (a b : Ns) : Bool := decide (a.procs.length = b.procs.length) && decide (a.chans.length = b.chans.length) && eo (fun i => cf (a.procs.getD i aU) (b.procs.getD i aU)) a.procs.length && decide (a.chans = b.chans)
section
variable {a b : Ns}
theorem kJ (h : ¬a.procs.length = b.procs.length) : bB a b = false := by unfold bB; rw [decide_eq_false h]; rfl
theorem kK (h : ¬a.chans.length = b.chans.length) : bB a b = false := by unfold bB; rw [decide_eq_false h, Bool.and_false]; rfl
theorem kL {i : Nat} (hi : i < a.procs.length) (h : cf (a.procs.getD i aU) (b.procs.getD i aU) = false) : bB a b = false := by unfold bB; rw [ie hi h, Bool.and_false]; rfl
theorem kM {n : Nat} (h : ¬a.chans.getD n [] = b.chans.getD n []) : bB a b = false := by
 unfold bB; rw [decide_eq_false (show ¬a.chans = b.chans from fun e => h (by rw [e])), Bool.and_false]
theorem kN (h1 : a.procs.length = b.procs.length) (h2 : a.chans.length = b.chans.length) (h3 : ∀ i, i < a.procs.length → cf (a.procs.getD i aU) (b.procs.getD i aU) = true) (h4 : ∀ n, n < a.chans.length → a.chans.getD n [] = b.chans.getD n []) : bB a b = true := by
 unfold bB; rw [decide_eq_true h1, decide_eq_true h2, ce.2 h3, decide_eq_true (ky h2 h4)]; rfl
end
theorem Bu (a : Ps) : cf a a = true := by simp [cf]
theorem bu {a b : Ns} : bB a b = true ↔ a = b := by
 constructor
 ·intro h
  unfold bB at h
  simp only [Bool.and_eq_true, decide_eq_true_eq, ce] at h
  obtain ⟨⟨⟨h1, h2⟩, h3⟩, h4⟩ := h
  have : a.procs = b.procs := ky h1 (fun i hi => by have := h3 i hi; exact cx.1 this)
  cases a; cases b; simp_all
 ·rintro rfl
  unfold bB
  simp only [Bool.and_eq_true, decide_eq_true_eq, ce]
  exact ⟨⟨⟨trivial, trivial⟩, fun i hi => Bu _⟩, trivial⟩
def cz (s : Ns) (n : Nat) (l : List Int) : Ns := ⟨s.procs, s.chans.set n l⟩
theorem kd {c : Ci} {s : Ns} {n : Int} {ws : List Int} (h : eV (·.frm) c n = true) (h2 : cg ws (fk c n.toNat).w = true) : am c s n ws = (cz s n.toNat (gj s n.toNat ++ ws), 0) := oV h h2
theorem fA {f : Ch → Int} {c : Ci} {n : Int} (h : ¬f (fk c n.toNat) = -1) : eV f c n = false := by unfold eV; rw [decide_eq_false h, Bool.and_false, Bool.and_false]
theorem dQ {f : Ch → Int} {c : Ci} {n : Int} (h1 : 0 ≤ n) (h2 : n < c.chans.length) (h : f (fk c n.toNat) = -1) : eV f c n = true := by unfold eV; rw [decide_eq_true h1, decide_eq_true h2, decide_eq_true h]; rfl
theorem eN {c : Ci} {s : Ns} {n : Int} {ws : List Int} (h : eV (·.frm) c n = false) : am c s n ws = (Jk, 1) := kC (by rw [h]; simp)
theorem eX {c : Ci} {s : Ns} {n : Int} (h : eV (·.dst) c n = false) : aF c s n = ([], Jk, 1) := mX (by rw [h]; simp)
def wB (l : List Bool) (q : Nat) : Bool := l.getD q false
def MZ : Option Int → V
 | none => .nsl
 | some v => .sl 1 (ah .i64) 0 [v]
def Iw (o : Option Int) : List V := [MZ o]
def xx : Option Int → List Int
 | none => []
 | some v => [v]
theorem Lz (o : Option Int) : (xx o).length ≤ 1 := by cases o <;> simp [xx]
theorem M0 (o : Option Int) : GY (MZ o) (.sl 1 (ah .i64) 0 (xx o)) := by
 cases o
 ·exact rfl
 ·simp [MZ, xx, GY]
section
variable {c : Ci} {s : Ns} {w : Nat → Bool} {i k : Nat}
theorem Bv (l : List Int) (a b : List Nat) : eu (eu l a) b = eu l (a ++ b) := by simp [eu, List.foldl_append]
theorem uN (l : List (Option Int)) (a b : List (Nat × Int)) : ee (ee l a) b = ee l (a ++ b) := by simp [ee, List.foldl_append]
theorem sG (ev : List (Nat × Int)) : ∀ (l : List (Option Int)) (n : Nat), (∀ e ∈ ev, e.1 ≠ n) → (ee l ev).getD n none = l.getD n none := by
 induction ev with
 | nil => intro l n h; rfl
 | cons e r ih =>
  intro l n h
  show (ee (l.set e.1 _) r).getD n none = _
  rw [ih _ n (fun e' he' => h e' (List.mem_cons_of_mem _ he'))]
  have := h e (List.mem_cons_self ..)
  simp [List.getD, List.getElem?_set, this]
theorem Bw (ev : List (Nat × Int)) : ∀ (l : List (Option Int)) (n : Nat), n < l.length → l.getD n none = none → ((ev.filter (fun e => e.1 == n)).map (·.2)).length ≤ 1 → xx ((ee l ev).getD n none) = (ev.filter (fun e => e.1 == n)).map (·.2) := by
 induction ev with
 | nil => intro l n hn h0 h; show xx (l.getD n none) = _; rw [h0]; rfl
 | cons e r ih =>
  intro l n hn h0 h
  show xx ((ee (l.set e.1 (some e.2)) r).getD n none) = _
  by_cases he : e.1 = n
  ·have hf : (e :: r).filter (fun e => e.1 == n) = e :: r.filter (fun e => e.1 == n) := by simp [he]
   rw [hf, List.map_cons] at h ⊢
   have hr : r.filter (fun e => e.1 == n) = [] := by
    simp only [List.length_cons, List.length_map] at h
    exact List.eq_nil_of_length_eq_zero (by omega)
   rw [hr, sG]
   ·subst he
    simp [List.getD, hn, xx]
   ·intro e' he' h1
    have : e' ∈ r.filter (fun e => e.1 == n) := by rw [List.mem_filter]; exact ⟨he', by simp [h1]⟩
    rw [hr] at this; cases this
  ·have hf : (e :: r).filter (fun e => e.1 == n) = r.filter (fun e => e.1 == n) := by simp [he]
   rw [hf] at h ⊢
   refine ih _ n (by simpa using hn) ?_ h
   have : (l.set e.1 (some e.2)).getD n none = l.getD n none := by simp [List.getD, List.getElem?_set, he]
   rw [this]; exact h0
theorem yz (hc : bo c) (n : Nat) : (cL c s w n).length ≤ 1 := by
 unfold cL; split
 ·exact wF hc n
 ·simp
theorem Bx {e : Nat × Int} : ∀ {P : Nat}, e ∈ lf c s w P → ∃ p, p < P ∧ e ∈ iL (aB c p) (ac c s p) (aB c p).puts.length
 | 0, h => by cases h
 | P + 1, h => by
  rw [lf, List.mem_append] at h
  rcases h with h | h
  ·obtain ⟨p, h1, h2⟩ := Bx h; exact ⟨p, by omega, h2⟩
  ·split at h
   ·exact ⟨P, by omega, h⟩
   ·cases h
theorem Gn (hc : bo c) (hi : i < c.procs.length) (hk : k < (aB c i).puts.length) {f : Fi} {m : Nat} : (ee (List.replicate m none) (lf c s w i ++ iL (aB c i) f k)).getD (cC (aB c i) k) none = none := by
 rw [sG _ _ _ (fun e he h => ?_)]
 ·exact ct
 ·rcases List.mem_append.1 he with he | he
  ·obtain ⟨p, h1, h3⟩ := Bx he
   have h4 := (EI hc (show p < c.procs.length by omega) (Nat.le_refl _) h3).2
   rw [h] at h4
   have h5 := (hc.pt i hi k hk).2.2.2
   have h6 : ((p : Nat) : Int) = (i : Int) := h4.symm.trans h5
   omega
  ·obtain ⟨j, h1, _, h3, _⟩ := ss he
   have := hc.pd i hi j k (by omega) hk (h3.trans h)
   omega
theorem EY (hc : bo c) {n : Nat} (hn : n < c.chans.length) : (eu (List.replicate c.chans.length 0) (gO c s w c.procs.length)).getD n 0 = (dc c s w n : Nat) := by
 rw [Be _ _ _ (by simpa using hn), ct]
 have h1 := rf (w := w) (s := s) hc n (Nat.le_refl _)
 rw [zM hc] at h1
 split
 ·rename_i hm
  have := List.count_pos_iff.2 hm
  unfold dc at h1 ⊢
  split at h1
  ·rename_i hh; rw [if_pos hh]; rfl
  ·omega
 ·rename_i hm
  rw [List.count_eq_zero.2 hm] at h1
  rw [← h1]; rfl
theorem EZ (n : Nat) : dc c s w n ≤ (gj s n).length := by
 unfold dc; split
 ·rename_i h
  exact yn (l5 h.1).2 h.2
 ·omega
theorem JU (hc : bo c) {n : Nat} (hn : n < c.chans.length) :
  (gj s n).drop ((eu (List.replicate c.chans.length 0) (gO c s w c.procs.length)).getD n 0).toNat ++ xx ((ee (List.replicate c.chans.length none) (lf c s w c.procs.length)).getD n none) = dp c s w n := by
 rw [EY hc hn, Int.toNat_natCast, Bw]
 ·rw [su hc n (Nat.le_refl _), vn]; rfl
 ·simpa using hn
 ·exact ct
 ·rw [su hc n (Nat.le_refl _), vn]; exact yz hc n
theorem M1 {l : List Bool} (h : ¬l.getD i false = true) : ai c s (wB l) i = false := Ii (by show (!l.getD i false) = true; simpa using h)
theorem LA {l : List Bool} (h : (!(ac c s i).fires) = true) : ai c s (wB l) i = false := Dh (by show (ac c s i).fires = false; simpa using h)
theorem LC {l : List Bool} (h : l.getD i false = true) (h2 : (!(ac c s i).fires) = false) : ai c s (wB l) i = true := Di (by show (!l.getD i false) = false; rw [h]; rfl) (by show (ac c s i).fires = true; simpa using h2)
theorem LD (f : Nat → Bool) (n : Nat) : wB (ao f n) = hJ f n := funext fun q => by
 unfold wB hJ
 by_cases h : q < n
 ·rw [bf h, decide_eq_true h, Bool.and_true]
 ·rw [Ew (by omega), decide_eq_false h, Bool.and_false]
theorem JV (hs : bN c s) (f : Nat → Bool) : ak c s (wB (ao f c.procs.length)) = ak c s f := by rw [LD]; exact (lv hs).symm
theorem Dx (f : Nat → Bool) : ao (ai c s (wB (ao f c.procs.length))) c.procs.length = ao (ai c s f) c.procs.length := iK (fun i hi => by
 unfold ai wB; rw [bf hi])
theorem Ix {n p : Nat} (h : p < n) : wB ((List.replicate n false).set p true) = bz (p : Int) := funext fun q => by
 rw [fx]; unfold wB b4
 rw [b6 (by simpa using h), ct]
 by_cases e : p = q
 ·rw [if_pos e, decide_eq_true e.symm]
 ·rw [if_neg e, decide_eq_false (fun h => e h.symm)]
theorem E1 (hs : bN c s) {p : Int} (h : bp c s p = false) : ak c s (bz p) = s := sx hs (fun q hq => by
 unfold ai bz
 by_cases e : (q : Int) = p
 ·subst e
  rw [dZ hq] at h
  rw [h, Bool.and_false]
 ·rw [decide_eq_false e, Bool.false_and])
end
theorem JW {c : Ci} {s : Ns} {p : Int} (h : bp c s p = true) : 0 ≤ p ∧ p < c.procs.length := by
 unfold bp at h
 simp only [Bool.and_eq_true, decide_eq_true_eq] at h
 exact ⟨h.1, h.2.1⟩
end Go.Proofs.YtifoecfajmnjjaaGreat
