/-
  Circuits, plain data: what the reference's loops compute.
-/
import Derived.Test.YtifoecfajmnjjaaGreatQNeH
namespace Go.Proofs.YtifoecfajmnjjaaGreat
open Go.RowKit
set_option linter.unusedVariables false
set_option linter.unusedSimpArgs false
theorem vL {v w : Int} (h : v < 0) : cf v w = false := by unfold cf; rw [decide_eq_false (by omega)]; rfl
theorem vM {v w : Int} (h : v > ah w) : cf v w = false := by unfold cf; rw [decide_eq_false (show ¬v ≤ ah w by omega), Bool.and_false]
theorem E9 {v w : Int} (h : ¬v < 0) (h2 : ¬v > ah w) : cf v w = true := by unfold cf; rw [decide_eq_true (show v ≤ ah w by omega), decide_eq_true (show 0 ≤ v by omega)]; rfl
theorem mb {l : List Int} {w : Int} {i : Nat} (hi : i < l.length) (h : cf (l.getD i 0) w = false) : b9 l w = false := fN (f := fun i => cf (l.getD i 0) w) hi h
theorem sL {l : List Int} {w : Int} (h : ∀ i, i < l.length → cf (l.getD i 0) w = true) : b9 l w = true := bP.2 h
def J7 (a : Ns) : Prop := a.procs.length ≤ 1000000 ∧ a.chans.length ≤ 1000000 ∧ (∀ n, (a.chans.getD n []).length ≤ 1099511627776) ∧ (∀ i, (a.procs.getD i bg).regs.length ≤ 1000000) ∧ (∀ i, (a.procs.getD i bg).mems.length ≤ 1000000) ∧ ∀ i j, ((a.procs.getD i bg).mems.getD j []).length ≤ 1000000
theorem qp {c : Ci} {s : Ns} (hc : bM c) (hs : cr c s) (hm : i7 s 4294967296) : J7 s := by
 have hp : ∀ i, (s.procs.getD i bg).regs.length ≤ 100 ∧ (s.procs.getD i bg).mems.length ≤ 100 ∧ ∀ j, ((s.procs.getD i bg).mems.getD j []).length ≤ 4 := by
  intro i
  by_cases hi : i < c.procs.length
  ·have h1 := hs.pv i hi
   have h2 := hc.pr i hi
   refine ⟨by rw [h1.rl]; exact h2.rl, by rw [h1.ml]; exact h2.ml, fun j => ?_⟩
   by_cases hj : j < (bC c i).mems.length
   ·have h3 := h1.mn j hj
    have h4 := (h2.mw j hj).2.1
    have h5 : (((s.procs.getD i bg).mems.getD j []).length : Int) = (ku (bC c i) j).words := h3
    omega
   ·have h6 := h1.ml
    rw [show (s.procs.getD i bg).mems.getD j [] = [] from by
     rw [List.getD, List.getElem?_eq_none (by show (vp s i).mems.length ≤ j; omega)]; rfl]
    simp
  ·rw [show s.procs.getD i bg = bg from by rw [List.getD, List.getElem?_eq_none (by rw [hs.pl]; omega)]; rfl]
   simp
 have h1 := hc.nl
 have h2 := hc.cl
 refine ⟨by rw [hs.pl]; omega, by rw [hs.cl]; omega, fun n => Nat.le_trans (hm n) (by omega), fun i => Nat.le_trans (hp i).1 (by omega), fun i => Nat.le_trans (hp i).2.1 (by omega), fun i j => Nat.le_trans ((hp i).2.2 j) (by omega)⟩
def ct (a b : Ns) : Bool := decide (a.procs.length = b.procs.length) && decide (a.chans.length = b.chans.length) && de (fun i => dF (a.procs.getD i bg) (b.procs.getD i bg)) a.procs.length && decide (a.chans = b.chans)
section
variable {a b : Ns}
theorem il (h : ¬a.procs.length = b.procs.length) : ct a b = false := by unfold ct; rw [decide_eq_false h]; rfl
theorem im (h : ¬a.chans.length = b.chans.length) : ct a b = false := by unfold ct; rw [decide_eq_false h, Bool.and_false]; rfl
theorem io {i : Nat} (hi : i < a.procs.length) (h : dF (a.procs.getD i bg) (b.procs.getD i bg) = false) : ct a b = false := by unfold ct; rw [fN hi h, Bool.and_false]; rfl
theorem ip {n : Nat} (h : ¬a.chans.getD n [] = b.chans.getD n []) : ct a b = false := by
 unfold ct; rw [decide_eq_false (show ¬a.chans = b.chans from fun e => h (by rw [e])), Bool.and_false]
theorem iq (h1 : a.procs.length = b.procs.length) (h2 : a.chans.length = b.chans.length) (h3 : ∀ i, i < a.procs.length → dF (a.procs.getD i bg) (b.procs.getD i bg) = true) (h4 : ∀ n, n < a.chans.length → a.chans.getD n [] = b.chans.getD n []) : ct a b = true := by
 unfold ct; rw [decide_eq_true h1, decide_eq_true h2, bP.2 h3, decide_eq_true (jf h2 h4)]; rfl
end
theorem xk (a : Ps) : dF a a = true := by simp [dF]
theorem fE {a b : Ns} : ct a b = true ↔ a = b := by
 constructor
 ·intro h
  unfold ct at h
  simp only [Bool.and_eq_true, decide_eq_true_eq, bP] at h
  obtain ⟨⟨⟨h1, h2⟩, h3⟩, h4⟩ := h
  have : a.procs = b.procs := jf h1 (fun i hi => by have := h3 i hi; exact hX.1 this)
  cases a; cases b; simp_all
 ·rintro rfl
  unfold ct
  simp only [Bool.and_eq_true, decide_eq_true_eq, bP]
  exact ⟨⟨⟨trivial, trivial⟩, fun i hi => xk _⟩, trivial⟩
def gv (s : Ns) (n : Nat) (l : List Int) : Ns := ⟨s.procs, s.chans.set n l⟩
def wB (l : List Bool) (q : Nat) : Bool := l.getD q false
def HS : Option Int → V
 | none => .nsl
 | some v => .sl 1 (af .i64) 0 [v]
def DQ (o : Option Int) : List V := [HS o]
def tc : Option Int → List Int
 | none => []
 | some v => [v]
theorem GI (o : Option Int) : (tc o).length ≤ 1 := by cases o <;> simp [tc]
theorem HT (o : Option Int) : B9 (HS o) (.sl 1 (af .i64) 0 (tc o)) := by
 cases o
 ·exact rfl
 ·simp [HS, tc, B9]
section
variable {c : Ci} {s : Ns} {w : Nat → Bool} {i k : Nat}
theorem xl (l : List Int) (a b : List Nat) : da (da l a) b = da l (a ++ b) := by simp [da, List.foldl_append]
theorem qK (l : List (Option Int)) (a b : List (Nat × Int)) : cZ (cZ l a) b = cZ l (a ++ b) := by simp [cZ, List.foldl_append]
theorem ph (ev : List (Nat × Int)) : ∀ (l : List (Option Int)) (n : Nat), (∀ e ∈ ev, e.1 ≠ n) → (cZ l ev).getD n none = l.getD n none := by
 induction ev with
 | nil => intro l n h; rfl
 | cons e r ih =>
  intro l n h
  show (cZ (l.set e.1 _) r).getD n none = _
  rw [ih _ n (fun e' he' => h e' (List.mem_cons_of_mem _ he'))]
  have := h e (List.mem_cons_self ..)
  simp [List.getD, List.getElem?_set, this]
theorem xm (ev : List (Nat × Int)) : ∀ (l : List (Option Int)) (n : Nat), n < l.length → l.getD n none = none → ((ev.filter (fun e => e.1 == n)).map (·.2)).length ≤ 1 → tc ((cZ l ev).getD n none) = (ev.filter (fun e => e.1 == n)).map (·.2) := by
 induction ev with
 | nil => intro l n hn h0 h; show tc (l.getD n none) = _; rw [h0]; rfl
 | cons e r ih =>
  intro l n hn h0 h
  show tc ((cZ (l.set e.1 (some e.2)) r).getD n none) = _
  by_cases he : e.1 = n
  ·have hf : (e :: r).filter (fun e => e.1 == n) = e :: r.filter (fun e => e.1 == n) := by simp [he]
   rw [hf, List.map_cons] at h ⊢
   have hr : r.filter (fun e => e.1 == n) = [] := by
    simp only [List.length_cons, List.length_map] at h
    exact List.eq_nil_of_length_eq_zero (by omega)
   rw [hr, ph]
   ·subst he
    simp [List.getD, hn, tc]
   ·intro e' he' h1
    have : e' ∈ r.filter (fun e => e.1 == n) := by rw [List.mem_filter]; exact ⟨he', by simp [h1]⟩
    rw [hr] at this; cases this
  ·have hf : (e :: r).filter (fun e => e.1 == n) = r.filter (fun e => e.1 == n) := by simp [he]
   rw [hf] at h ⊢
   refine ih _ n (by simpa using hn) ?_ h
   have : (l.set e.1 (some e.2)).getD n none = l.getD n none := by simp [List.getD, List.getElem?_set, he]
   rw [this]; exact h0
theorem BC (hc : bM c) (n : Nat) : (cI c s w n).length ≤ 1 := by
 unfold cI; split
 ·exact su hc n
 ·simp
theorem xn {e : Nat × Int} : ∀ {P : Nat}, e ∈ iz c s w P → ∃ p, p < P ∧ e ∈ kE (bC c p) (aa c s p) (bC c p).puts.length
 | 0, h => by cases h
 | P + 1, h => by
  rw [iz, List.mem_append] at h
  rcases h with h | h
  ·obtain ⟨p, h1, h2⟩ := xn h; exact ⟨p, by omega, h2⟩
  ·split at h
   ·exact ⟨P, by omega, h⟩
   ·cases h
theorem BD (hc : bM c) (hi : i < c.procs.length) (hk : k < (bC c i).puts.length) {f : Fi} {m : Nat} : (cZ (List.replicate m none) (iz c s w i ++ kE (bC c i) f k)).getD (sZ (bC c i) k) none = none := by
 rw [ph _ _ _ (fun e he h => ?_)]
 ·exact bQ
 ·rcases List.mem_append.1 he with he | he
  ·obtain ⟨p, h1, h3⟩ := xn he
   have h4 := (z8 hc (show p < c.procs.length by omega) (Nat.le_refl _) h3).2
   rw [h] at h4
   have h5 := (hc.pt i hi k hk).2.2.2
   have h6 : ((p : Nat) : Int) = (i : Int) := h4.symm.trans h5
   omega
  ·obtain ⟨j, h1, _, h3, _⟩ := oV he
   have := hc.pd i hi j k (by omega) hk (h3.trans h)
   omega
theorem Al (hc : bM c) {n : Nat} (hn : n < c.chans.length) : (da (List.replicate c.chans.length 0) (eI c s w c.procs.length)).getD n 0 = (df c s w n : Nat) := by
 rw [wX _ _ _ (by simpa using hn), bQ]
 have h1 := nn (w := w) (s := s) hc n (Nat.le_refl _)
 rw [z9 hc] at h1
 split
 ·rename_i hm
  have := List.count_pos_iff.2 hm
  unfold df at h1 ⊢
  split at h1
  ·rename_i hh; rw [if_pos hh]; rfl
  ·omega
 ·rename_i hm
  rw [List.count_eq_zero.2 hm] at h1
  rw [← h1]; rfl
theorem Fa (n : Nat) : df c s w n ≤ (i4 s n).length := by
 unfold df; split
 ·rename_i h
  exact t2 (lS h.1).2 h.2
 ·omega
theorem Fb (hc : bM c) {n : Nat} (hn : n < c.chans.length) :
  (i4 s n).drop ((da (List.replicate c.chans.length 0) (eI c s w c.procs.length)).getD n 0).toNat ++ tc ((cZ (List.replicate c.chans.length none) (iz c s w c.procs.length)).getD n none) = cB c s w n := by
 rw [Al hc hn, Int.toNat_natCast, xm]
 ·rw [oY hc n (Nat.le_refl _), vw]; rfl
 ·simpa using hn
 ·exact bQ
 ·rw [oY hc n (Nat.le_refl _), vw]; exact BC hc n
theorem HU {l : List Bool} (h : ¬l.getD i false = true) : aq c s (wB l) i = false := DA (by show (!l.getD i false) = true; simpa using h)
theorem GJ {l : List Bool} (h : (!(aa c s i).fires) = true) : aq c s (wB l) i = false := yN (by show (aa c s i).fires = false; simpa using h)
theorem GK {l : List Bool} (h : l.getD i false = true) (h2 : (!(aa c s i).fires) = false) : aq c s (wB l) i = true := yO (by show (!l.getD i false) = false; rw [h]; rfl) (by show (aa c s i).fires = true; simpa using h2)
theorem DR {n p : Nat} (h : p < n) : wB ((List.replicate n false).set p true) = cN (p : Int) := funext fun q => by
 rw [o7]; unfold wB cP
 rw [b5 (by simpa using h), bQ]
 by_cases e : p = q
 ·rw [if_pos e, decide_eq_true e.symm]
 ·rw [if_neg e, decide_eq_false (fun h => e h.symm)]
theorem Am (hs : cr c s) {p : Int} (h : cM c s p = false) : aA c s (cN p) = s := w7 hs (fun q hq => by
 unfold aq cN
 by_cases e : (q : Int) = p
 ·subst e
  rw [ib hq] at h
  rw [h, Bool.and_false]
 ·rw [decide_eq_false e, Bool.false_and])
end
theorem Fc {c : Ci} {s : Ns} {p : Int} (h : cM c s p = true) : 0 ≤ p ∧ p < c.procs.length := by
 unfold cM at h
 simp only [Bool.and_eq_true, decide_eq_true_eq] at h
 exact ⟨h.1, h.2.1⟩
end Go.Proofs.YtifoecfajmnjjaaGreat
