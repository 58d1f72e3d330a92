/-
  Circuits, plain data: what the reference's loops compute.
-/
import Derived.Test.YtnlmlkbaflmgcaaQNeH
namespace Go.Proofs.Ytnlmlkbaflmgcaa
open Go.RowKit
set_option linter.unusedVariables false
set_option linter.unusedSimpArgs false
theorem vS {v w : Int} (h : v < 0) : eV v w = false := by unfold eV; rw [decide_eq_false (by omega)]; rfl
theorem vU {v w : Int} (h : v > aC w) : eV v w = false := by unfold eV; rw [decide_eq_false (show ¬v ≤ aC w by omega), Bool.and_false]
theorem Gd {v w : Int} (h : ¬v < 0) (h2 : ¬v > aC w) : eV v w = true := by unfold eV; rw [decide_eq_true (show v ≤ aC w by omega), decide_eq_true (show 0 ≤ v by omega)]; rfl
theorem lP {l : List Int} {w : Int} {i : Nat} (hi : i < l.length) (h : eV (l.getD i 0) w = false) : fk l w = false := dq (f := fun i => eV (l.getD i 0) w) hi h
theorem sA {l : List Int} {w : Int} (h : ∀ i, i < l.length → eV (l.getD i 0) w = true) : fk l w = true := aR.2 h
def Ig (a : Ns) : Prop := a.procs.length ≤ 1000000 ∧ a.chans.length ≤ 1000000 ∧ (∀ n, (a.chans.getD n []).length ≤ 1099511627776) ∧ (∀ i, (a.procs.getD i aW).regs.length ≤ 1000000) ∧ (∀ i, (a.procs.getD i aW).mems.length ≤ 1000000) ∧ ∀ i j, ((a.procs.getD i aW).mems.getD j []).length ≤ 1000000
theorem Ih {c : Ci} {s : Ns} (hc : bS c) (hs : er c s) (hm : qq s 4294967296) : Ig s := by
 have hp : ∀ i, (s.procs.getD i aW).regs.length ≤ 100 ∧ (s.procs.getD i aW).mems.length ≤ 100 ∧ ∀ j, ((s.procs.getD i aW).mems.getD j []).length ≤ 4 := by
  intro i
  by_cases hi : i < c.procs.length
  ·have h1 := hs.pv i hi
   have h2 := hc.pr i hi
   refine ⟨by rw [h1.rl]; exact h2.rl, by rw [h1.ml]; exact h2.ml, fun j => ?_⟩
   by_cases hj : j < (aZ c i).mems.length
   ·have h3 := h1.mn j hj
    have h4 := (h2.mw j hj).2.1
    have h5 : (((s.procs.getD i aW).mems.getD j []).length : Int) = (dK (aZ c i) j).words := h3
    omega
   ·have h6 := h1.ml
    rw [show (s.procs.getD i aW).mems.getD j [] = [] from by
     rw [List.getD, List.getElem?_eq_none (by show (xZ s i).mems.length ≤ j; omega)]; rfl]
    simp
  ·rw [show s.procs.getD i aW = aW from by rw [List.getD, List.getElem?_eq_none (by rw [hs.pl]; omega)]; rfl]
   simp
 have h1 := hc.nl
 have h2 := hc.cl
 refine ⟨by rw [hs.pl]; omega, by rw [hs.cl]; omega, fun n => Nat.le_trans (hm n) (by omega), fun i => Nat.le_trans (hp i).1 (by omega), fun i => Nat.le_trans (hp i).2.1 (by omega), fun i j => Nat.le_trans ((hp i).2.2 j) (by omega)⟩
def cx (a b : Ns) : Bool := decide (a.procs.length = b.procs.length) && decide (a.chans.length = b.chans.length) && b4 (fun i => de (a.procs.getD i aW) (b.procs.getD i aW)) a.procs.length && decide (a.chans = b.chans)
section
variable {a b : Ns}
theorem io (h : ¬a.procs.length = b.procs.length) : cx a b = false := by unfold cx; rw [decide_eq_false h]; rfl
theorem ip (h : ¬a.chans.length = b.chans.length) : cx a b = false := by unfold cx; rw [decide_eq_false h, Bool.and_false]; rfl
theorem iq {i : Nat} (hi : i < a.procs.length) (h : de (a.procs.getD i aW) (b.procs.getD i aW) = false) : cx a b = false := by unfold cx; rw [dq hi h, Bool.and_false]; rfl
theorem ir {n : Nat} (h : ¬a.chans.getD n [] = b.chans.getD n []) : cx a b = false := by
 unfold cx; rw [decide_eq_false (show ¬a.chans = b.chans from fun e => h (by rw [e])), Bool.and_false]
theorem it (h1 : a.procs.length = b.procs.length) (h2 : a.chans.length = b.chans.length) (h3 : ∀ i, i < a.procs.length → de (a.procs.getD i aW) (b.procs.getD i aW) = true) (h4 : ∀ n, n < a.chans.length → a.chans.getD n [] = b.chans.getD n []) : cx a b = true := by
 unfold cx; rw [decide_eq_true h1, decide_eq_true h2, aR.2 h3, decide_eq_true (kP h2 h4)]; rfl
end
theorem xl (a : Ps) : de a a = true := by simp [de]
theorem y9 {a b : Ns} : cx a b = true ↔ a = b := by
 constructor
 ·intro h
  unfold cx at h
  simp only [Bool.and_eq_true, decide_eq_true_eq, aR] at h
  obtain ⟨⟨⟨h1, h2⟩, h3⟩, h4⟩ := h
  have : a.procs = b.procs := kP h1 (fun i hi => by have := h3 i hi; exact ik.1 this)
  cases a; cases b; simp_all
 ·rintro rfl
  unfold cx
  simp only [Bool.and_eq_true, decide_eq_true_eq, aR]
  exact ⟨⟨⟨trivial, trivial⟩, fun i hi => xl _⟩, trivial⟩
def gv (s : Ns) (n : Nat) (l : List Int) : Ns := ⟨s.procs, s.chans.set n l⟩
def wB (l : List Bool) (q : Nat) : Bool := l.getD q false
def JI : Option Int → V
 | none => .nsl
 | some v => .sl 1 (aa .i64) 0 [v]
def Ei (o : Option Int) : List V := [JI o]
def tj : Option Int → List Int
 | none => []
 | some v => [v]
theorem Ii (o : Option Int) : (tj o).length ≤ 1 := by cases o <;> simp [tj]
theorem JJ (o : Option Int) : Cp (JI o) (.sl 1 (aa .i64) 0 (tj o)) := by
 cases o
 ·exact rfl
 ·simp [JI, tj, Cp]
section
variable {c : Ci} {s : Ns} {w : Nat → Bool} {i k : Nat}
theorem xm (l : List Int) (a b : List Nat) : cH (cH l a) b = cH l (a ++ b) := by simp [cH, List.foldl_append]
theorem qg (l : List (Option Int)) (a b : List (Nat × Int)) : cA (cA l a) b = cA l (a ++ b) := by simp [cA, List.foldl_append]
theorem oA (ev : List (Nat × Int)) : ∀ (l : List (Option Int)) (n : Nat), (∀ e ∈ ev, e.1 ≠ n) → (cA l ev).getD n none = l.getD n none := by
 induction ev with
 | nil => intro l n h; rfl
 | cons e r ih =>
  intro l n h
  show (cA (l.set e.1 _) r).getD n none = _
  rw [ih _ n (fun e' he' => h e' (List.mem_cons_of_mem _ he'))]
  have := h e (List.mem_cons_self ..)
  simp [List.getD, List.getElem?_set, this]
theorem xn (ev : List (Nat × Int)) : ∀ (l : List (Option Int)) (n : Nat), n < l.length → l.getD n none = none → ((ev.filter (fun e => e.1 == n)).map (·.2)).length ≤ 1 → tj ((cA l ev).getD n none) = (ev.filter (fun e => e.1 == n)).map (·.2) := by
 induction ev with
 | nil => intro l n hn h0 h; show tj (l.getD n none) = _; rw [h0]; rfl
 | cons e r ih =>
  intro l n hn h0 h
  show tj ((cA (l.set e.1 (some e.2)) r).getD n none) = _
  by_cases he : e.1 = n
  ·have hf : (e :: r).filter (fun e => e.1 == n) = e :: r.filter (fun e => e.1 == n) := by simp [he]
   rw [hf, List.map_cons] at h ⊢
   have hr : r.filter (fun e => e.1 == n) = [] := by
    simp only [List.length_cons, List.length_map] at h
    exact List.eq_nil_of_length_eq_zero (by omega)
   rw [hr, oA]
   ·subst he
    simp [List.getD, hn, tj]
   ·intro e' he' h1
    have : e' ∈ r.filter (fun e => e.1 == n) := by rw [List.mem_filter]; exact ⟨he', by simp [h1]⟩
    rw [hr] at this; cases this
  ·have hf : (e :: r).filter (fun e => e.1 == n) = r.filter (fun e => e.1 == n) := by simp [he]
   rw [hf] at h ⊢
   refine ih _ n (by simpa using hn) ?_ h
   have : (l.set e.1 (some e.2)).getD n none = l.getD n none := by simp [List.getD, List.getElem?_set, he]
   rw [this]; exact h0
theorem B3 (hc : bS c) (n : Nat) : (gr c s w n).length ≤ 1 := by
 unfold gr; split
 ·exact sj hc n
 ·simp
theorem xo {e : Nat × Int} : ∀ {P : Nat}, e ∈ ng c s w P → ∃ p, p < P ∧ e ∈ sX (aZ c p) (az c s p) (aZ c p).puts.length
 | 0, h => by cases h
 | P + 1, h => by
  rw [ng, List.mem_append] at h
  rcases h with h | h
  ·obtain ⟨p, h1, h2⟩ := xo h; exact ⟨p, by omega, h2⟩
  ·split at h
   ·exact ⟨P, by omega, h⟩
   ·cases h
theorem B4 (hc : bS c) (hi : i < c.procs.length) (hk : k < (aZ c i).puts.length) {f : Fi} {m : Nat} : (cA (List.replicate m none) (ng c s w i ++ sX (aZ c i) f k)).getD (qI (aZ c i) k) none = none := by
 rw [oA _ _ _ (fun e he h => ?_)]
 ·exact cY
 ·rcases List.mem_append.1 he with he | he
  ·obtain ⟨p, h1, h3⟩ := xo he
   have h4 := (Af hc (show p < c.procs.length by omega) (Nat.le_refl _) h3).2
   rw [h] at h4
   have h5 := (hc.pt i hi k hk).2.2.2
   have h6 : ((p : Nat) : Int) = (i : Int) := h4.symm.trans h5
   omega
  ·obtain ⟨j, h1, _, h3, _⟩ := oi he
   have := hc.pd i hi j k (by omega) hk (h3.trans h)
   omega
theorem AM (hc : bS c) {n : Nat} (hn : n < c.chans.length) : (cH (List.replicate c.chans.length 0) (pD c s w c.procs.length)).getD n 0 = (ig c s w n : Nat) := by
 rw [w7 _ _ _ (by simpa using hn), cY]
 have h1 := sf (w := w) (s := s) hc n (Nat.le_refl _)
 rw [FQ hc] at h1
 split
 ·rename_i hm
  have := List.count_pos_iff.2 hm
  unfold ig at h1 ⊢
  split at h1
  ·rename_i hh; rw [if_pos hh]; rfl
  ·omega
 ·rename_i hm
  rw [List.count_eq_zero.2 hm] at h1
  rw [← h1]; rfl
theorem Ge (n : Nat) : ig c s w n ≤ (jL s n).length := by
 unfold ig; split
 ·rename_i h
  exact BS (ut h.1).2 h.2
 ·omega
theorem Gf (hc : bS c) {n : Nat} (hn : n < c.chans.length) :
  (jL s n).drop ((cH (List.replicate c.chans.length 0) (pD c s w c.procs.length)).getD n 0).toNat ++ tj ((cA (List.replicate c.chans.length none) (ng c s w c.procs.length)).getD n none) = ii c s w n := by
 rw [AM hc hn, Int.toNat_natCast, xn]
 ·rw [sg hc n (Nat.le_refl _), Ag]; rfl
 ·simpa using hn
 ·exact cY
 ·rw [sg hc n (Nat.le_refl _), Ag]; exact B3 hc n
theorem JK {l : List Bool} (h : ¬l.getD i false = true) : br c s (wB l) i = false := JH (by show (!l.getD i false) = true; simpa using h)
theorem Ij {l : List Bool} (h : (!(az c s i).fires) = true) : br c s (wB l) i = false := H8 (by show (az c s i).fires = false; simpa using h)
theorem Ik {l : List Bool} (h : l.getD i false = true) (h2 : (!(az c s i).fires) = false) : br c s (wB l) i = true := H9 (by show (!l.getD i false) = false; rw [h]; rfl) (by show (az c s i).fires = true; simpa using h2)
theorem Ej {n p : Nat} (h : p < n) : wB ((List.replicate n false).set p true) = ti (p : Int) := funext fun q => by
 rw [Eg]; unfold wB DR
 rw [fF (by simpa using h), cY]
 by_cases e : p = q
 ·rw [if_pos e, decide_eq_true e.symm]
 ·rw [if_neg e, decide_eq_false (fun h => e h.symm)]
theorem AN (hs : er c s) {p : Int} (h : ie c s p = false) : cF c s (ti p) = s := DQ hs (fun q hq => by
 unfold br ti
 by_cases e : (q : Int) = p
 ·subst e
  rw [Ie hq] at h
  rw [h, Bool.and_false]
 ·rw [decide_eq_false e, Bool.false_and])
end
theorem Gg {c : Ci} {s : Ns} {p : Int} (h : ie c s p = true) : 0 ≤ p ∧ p < c.procs.length := by
 unfold ie at h
 simp only [Bool.and_eq_true, decide_eq_true_eq] at h
 exact ⟨h.1, h.2.1⟩
end Go.Proofs.Ytnlmlkbaflmgcaa
