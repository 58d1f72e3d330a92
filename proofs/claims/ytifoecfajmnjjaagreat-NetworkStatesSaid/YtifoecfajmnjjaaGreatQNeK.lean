/-
  Circuits, plain data: what the reference's loops compute.
-/
import Derived.Test.YtifoecfajmnjjaaGreatQNeH
namespace Go.Proofs.YtifoecfajmnjjaaGreat
open Go.RowKit
set_option linter.unusedVariables false
set_option linter.unusedSimpArgs false
theorem vX {v w : Int} (h : v < 0) : cr v w = false := by unfold cr; rw [decide_eq_false (by omega)]; rfl
theorem vY {v w : Int} (h : v > aj w) : cr v w = false := by unfold cr; rw [decide_eq_false (show ¬v ≤ aj w by omega), Bool.and_false]
theorem E8 {v w : Int} (h : ¬v < 0) (h2 : ¬v > aj w) : cr v w = true := by unfold cr; rw [decide_eq_true (show v ≤ aj w by omega), decide_eq_true (show 0 ≤ v by omega)]; rfl
theorem my {l : List Int} {w : Int} {i : Nat} (hi : i < l.length) (h : cr (l.getD i 0) w = false) : cg l w = false := i5 (f := fun i => cr (l.getD i 0) w) hi h
theorem s5 {l : List Int} {w : Int} (h : ∀ i, i < l.length → cr (l.getD i 0) w = true) : cg l w = true := ck.2 h
def JW (a : Ns) : Prop := a.procs.length ≤ 1000000 ∧ a.chans.length ≤ 1000000 ∧ (∀ n, (a.chans.getD n []).length ≤ 1099511627776) ∧ (∀ i, (a.procs.getD i a7).regs.length ≤ 1000000) ∧ (∀ i, (a.procs.getD i a7).mems.length ≤ 1000000) ∧ ∀ i j, ((a.procs.getD i a7).mems.getD j []).length ≤ 1000000
theorem cE {c : Ci} {s : Ns} (hc : bR c) (hs : cT c s) (hm : kO s 4294967296) : JW s := by
 have hp : ∀ i, (s.procs.getD i a7).regs.length ≤ 100 ∧ (s.procs.getD i a7).mems.length ≤ 100 ∧ ∀ j, ((s.procs.getD i a7).mems.getD j []).length ≤ 4 := by
  intro i
  by_cases hi : i < c.procs.length
  ·have h1 := hs.pv i hi
   have h2 := hc.pr i hi
   refine ⟨by rw [h1.rl]; exact h2.rl, by rw [h1.ml]; exact h2.ml, fun j => ?_⟩
   by_cases hj : j < (ay c i).mems.length
   ·have h3 := h1.mn j hj
    have h4 := (h2.mw j hj).2.1
    have h5 : (((s.procs.getD i a7).mems.getD j []).length : Int) = (kN (ay c i) j).words := h3
    omega
   ·have h6 := h1.ml
    rw [show (s.procs.getD i a7).mems.getD j [] = [] from by
     rw [List.getD, List.getElem?_eq_none (by show (yG s i).mems.length ≤ j; omega)]; rfl]
    simp
  ·rw [show s.procs.getD i a7 = a7 from by rw [List.getD, List.getElem?_eq_none (by rw [hs.pl]; omega)]; rfl]
   simp
 have h1 := hc.nl
 have h2 := hc.cl
 refine ⟨by rw [hs.pl]; omega, by rw [hs.cl]; omega, fun n => Nat.le_trans (hm n) (by omega), fun i => Nat.le_trans (hp i).1 (by omega), fun i => Nat.le_trans (hp i).2.1 (by omega), fun i j => Nat.le_trans ((hp i).2.2 j) (by omega)⟩
def gM (s : Ns) (n : Nat) (l : List Int) : Ns := ⟨s.procs, s.chans.set n l⟩
def wB (l : List Bool) (q : Nat) : Bool := l.getD q false
def HM : Option Int → V
 | none => .nsl
 | some v => .sl 1 (ah .i64) 0 [v]
def DR (o : Option Int) : List V := [HM o]
def tz : Option Int → List Int
 | none => []
 | some v => [v]
theorem GI (o : Option Int) : (tz o).length ≤ 1 := by cases o <;> simp [tz]
theorem HN (o : Option Int) : B9 (HM o) (.sl 1 (ah .i64) 0 (tz o)) := by
 cases o
 ·exact rfl
 ·simp [HM, tz, B9]
section
variable {c : Ci} {s : Ns} {w : Nat → Bool} {i k : Nat}
theorem xr (l : List Int) (a b : List Nat) : df (df l a) b = df l (a ++ b) := by simp [df, List.foldl_append]
theorem rb (l : List (Option Int)) (a b : List (Nat × Int)) : c8 (c8 l a) b = c8 l (a ++ b) := by simp [c8, List.foldl_append]
theorem pH (ev : List (Nat × Int)) : ∀ (l : List (Option Int)) (n : Nat), (∀ e ∈ ev, e.1 ≠ n) → (c8 l ev).getD n none = l.getD n none := by
 induction ev with
 | nil => intro l n h; rfl
 | cons e r ih =>
  intro l n h
  show (c8 (l.set e.1 _) r).getD n none = _
  rw [ih _ n (fun e' he' => h e' (List.mem_cons_of_mem _ he'))]
  have := h e (List.mem_cons_self ..)
  simp [List.getD, List.getElem?_set, this]
theorem xt (ev : List (Nat × Int)) : ∀ (l : List (Option Int)) (n : Nat), n < l.length → l.getD n none = none → ((ev.filter (fun e => e.1 == n)).map (·.2)).length ≤ 1 → tz ((c8 l ev).getD n none) = (ev.filter (fun e => e.1 == n)).map (·.2) := by
 induction ev with
 | nil => intro l n hn h0 h; show tz (l.getD n none) = _; rw [h0]; rfl
 | cons e r ih =>
  intro l n hn h0 h
  show tz ((c8 (l.set e.1 (some e.2)) r).getD n none) = _
  by_cases he : e.1 = n
  ·have hf : (e :: r).filter (fun e => e.1 == n) = e :: r.filter (fun e => e.1 == n) := by simp [he]
   rw [hf, List.map_cons] at h ⊢
   have hr : r.filter (fun e => e.1 == n) = [] := by
    simp only [List.length_cons, List.length_map] at h
    exact List.eq_nil_of_length_eq_zero (by omega)
   rw [hr, pH]
   ·subst he
    simp [List.getD, hn, tz]
   ·intro e' he' h1
    have : e' ∈ r.filter (fun e => e.1 == n) := by rw [List.mem_filter]; exact ⟨he', by simp [h1]⟩
    rw [hr] at this; cases this
  ·have hf : (e :: r).filter (fun e => e.1 == n) = r.filter (fun e => e.1 == n) := by simp [he]
   rw [hf] at h ⊢
   refine ih _ n (by simpa using hn) ?_ h
   have : (l.set e.1 (some e.2)).getD n none = l.getD n none := by simp [List.getD, List.getElem?_set, he]
   rw [this]; exact h0
theorem uB (hc : bR c) (n : Nat) : (dk c s w n).length ≤ 1 := by
 unfold dk; split
 ·exact sL hc n
 ·simp
theorem xu {e : Nat × Int} : ∀ {P : Nat}, e ∈ iT c s w P → ∃ p, p < P ∧ e ∈ fT (ay c p) (ab c s p) (ay c p).puts.length
 | 0, h => by cases h
 | P + 1, h => by
  rw [iT, List.mem_append] at h
  rcases h with h | h
  ·obtain ⟨p, h1, h2⟩ := xu h; exact ⟨p, by omega, h2⟩
  ·split at h
   ·exact ⟨P, by omega, h⟩
   ·cases h
theorem BH (hc : bR c) (hi : i < c.procs.length) (hk : k < (ay c i).puts.length) {f : Fi} {m : Nat} : (c8 (List.replicate m none) (iT c s w i ++ fT (ay c i) f k)).getD (bP (ay c i) k) none = none := by
 rw [pH _ _ _ (fun e he h => ?_)]
 ·exact bO
 ·rcases List.mem_append.1 he with he | he
  ·obtain ⟨p, h1, h3⟩ := xu he
   have h4 := (Ae hc (show p < c.procs.length by omega) (Nat.le_refl _) h3).2
   rw [h] at h4
   have h5 := (hc.pt i hi k hk).2.2.2
   have h6 : ((p : Nat) : Int) = (i : Int) := h4.symm.trans h5
   omega
  ·obtain ⟨j, h1, _, h3, _⟩ := py he
   have := hc.pd i hi j k (by omega) hk (h3.trans h)
   omega
theorem Av (hc : bR c) {n : Nat} (hn : n < c.chans.length) : (df (List.replicate c.chans.length 0) (eZ c s w c.procs.length)).getD n 0 = (dt c s w n : Nat) := by
 rw [w9 _ _ _ (by simpa using hn), bO]
 have h1 := nU (w := w) (s := s) hc n (Nat.le_refl _)
 rw [vJ hc] at h1
 split
 ·rename_i hm
  have := List.count_pos_iff.2 hm
  unfold dt at h1 ⊢
  split at h1
  ·rename_i hh; rw [if_pos hh]; rfl
  ·omega
 ·rename_i hm
  rw [List.count_eq_zero.2 hm] at h1
  rw [← h1]; rfl
theorem Aw (n : Nat) : dt c s w n ≤ (ir s n).length := by
 unfold dt; split
 ·rename_i h
  exact Bp (ur h.1).2 h.2
 ·omega
theorem E9 (hc : bR c) {n : Nat} (hn : n < c.chans.length) :
  (ir s n).drop ((df (List.replicate c.chans.length 0) (eZ c s w c.procs.length)).getD n 0).toNat ++ tz ((c8 (List.replicate c.chans.length none) (iT c s w c.procs.length)).getD n none) = ff c s w n := by
 rw [Av hc hn, Int.toNat_natCast, xt]
 ·rw [pz hc n (Nat.le_refl _), rD]; rfl
 ·simpa using hn
 ·exact bO
 ·rw [pz hc n (Nat.le_refl _), rD]; exact uB hc n
theorem HO {l : List Bool} (h : ¬l.getD i false = true) : ai c s (wB l) i = false := DC (by show (!l.getD i false) = true; simpa using h)
theorem GJ {l : List Bool} (h : (!(ab c s i).fires) = true) : ai c s (wB l) i = false := yV (by show (ab c s i).fires = false; simpa using h)
theorem GK {l : List Bool} (h : l.getD i false = true) (h2 : (!(ab c s i).fires) = false) : ai c s (wB l) i = true := yW (by show (!l.getD i false) = false; rw [h]; rfl) (by show (ab c s i).fires = true; simpa using h2)
theorem DS {n p : Nat} (h : p < n) : wB ((List.replicate n false).set p true) = eF (p : Int) := funext fun q => by
 rw [xn]; unfold wB xj
 rw [b6 (by simpa using h), bO]
 by_cases e : p = q
 ·rw [if_pos e, decide_eq_true e.symm]
 ·rw [if_neg e, decide_eq_false (fun h => e h.symm)]
theorem Ax (hs : cT c s) {p : Int} (h : dj c s p = false) : aD c s (eF p) = s := Dw hs (fun q hq => by
 unfold ai eF
 by_cases e : (q : Int) = p
 ·subst e
  rw [vV hq] at h
  rw [h, Bool.and_false]
 ·rw [decide_eq_false e, Bool.false_and])
end
theorem Fa {c : Ci} {s : Ns} {p : Int} (h : dj c s p = true) : 0 ≤ p ∧ p < c.procs.length := by
 unfold dj at h
 simp only [Bool.and_eq_true, decide_eq_true_eq] at h
 exact ⟨h.1, h.2.1⟩
end Go.Proofs.YtifoecfajmnjjaaGreat
