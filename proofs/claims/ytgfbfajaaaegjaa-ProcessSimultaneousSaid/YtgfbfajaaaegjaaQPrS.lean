/-
  Processes, plain law: facts for the walks over steps.
-/
import Derived.Test.YtgfbfajaaaegjaaQNeA
namespace Go.Proofs.Ytgfbfajaaaegjaa
open Go.RowKit
set_option linter.unusedVariables false
set_option linter.unusedSimpArgs false
def dF {α : Type} (f : Nat → α) (l : List α) (i : Nat) : List α := tab f i ++ l.drop i
theorem eh {α : Type} {f : Nat → α} {l : List α} {i : Nat} (h : i ≤ l.length) : (dF f l i).length = l.length := by
 unfold dF; rw [List.length_append, an, List.length_drop]; omega
theorem cm {α : Type} {f : Nat → α} {l : List α} {i : Nat} {v : α} (h : i < l.length) (hv : f i = v) : (dF f l i).set i v = dF f l (i + 1) := by
 rw [← hv]; exact zZ h
theorem fy {α : Type} {f : Nat → α} {l : List α} {i : Nat} {d : α} (h : i < l.length) (hv : f i = l.getD i d) : dF f l i = dF f l (i + 1) := by
 unfold dF
 rw [qM, List.append_assoc, hv]
 congr 1
 rw [List.drop_eq_getElem_cons h, List.getD, List.getElem?_eq_getElem h]; rfl
theorem cQ {α : Type} {f : Nat → α} {l : List α} {i : Nat} (h : l.length ≤ i) : dF f l i = tab f i := y5 h
theorem dT {α : Type} {f : Nat → α} {l : List α} {i j : Nat} {d : α} : (dF f l i).getD j d = if j < i then f j else l.getD j d := by
 unfold dF
 by_cases h : j < i
 ·rw [if_pos h, List.getD, List.getElem?_append_left (by rw [an]; exact h), ← List.getD, aE h]
 ·rw [if_neg h, List.getD, List.getElem?_append_right (by rw [an]; omega), an, List.getElem?_drop, ← List.getD]
  congr 1; omega
theorem pS {α : Type} {f : Nat → α} {enc : α → List V} {i : Nat} (h : i < 137438953472) : (tab f i).length + ([f i].map enc).length ≤ 137438953472 ∧ (tab f i).map enc ++ [f i].map enc = (tab f (i + 1)).map enc := by
 refine ⟨by rw [an]; simp; omega, ?_⟩
 rw [qM, List.map_append]
theorem m3 {α : Type} {n i : Nat} {a : α} : (List.replicate n a).getD i a = a := by
 rw [List.getD, List.getElem?_replicate]; split <;> rfl
section
variable {p : Pr} {s : Ps} {hs : List Hd} {rs : List Bool} {d : List Int} {i : Nat}
theorem qQ : (fW p).getD i 0 = 0 := m3
theorem dU : (fW p).length = p.takes.length := by simp [fW]
theorem Bm (hp : dh p) (hh : jX p hs) (hi : i ≤ p.takes.length) : uD p (dF (jg p s hs) (fW p) i) where
 l := by rw [eh (by rw [dU]; exact hi), dU]
 v := fun j hj => by
  rw [dT]
  split
  ·have := (l6 (s := s) hp hh).v j hj
   rw [aW, aE hj] at this
   exact this
  ·exact (y7 hp).v j hj
theorem fc {e : Ex} (h : ¬(bk p s d e).1 = 1) : co p s d e = false := decide_eq_false h
theorem cM {e : Ex} (h : (bk p s d e).1 = 1) : co p s d e = true := decide_eq_true h
theorem z8 (hp : dh p) (hi : i < p.takes.length) (h : ¬(bk p s d (ir p i).when).1 = 1) : lq p s hs i = false ∧ jg p s hs i = 0 ∧ du p s hs i = true := by
 have h0 := fc h
 have h1 : co p s (fW p) (ir p i).when = false := by rw [← h0]; exact (eT hp hi _ _).1
 have h2 : co p s (aW p s hs) (ir p i).when = false := by rw [← h0]; exact (eT hp hi _ _).1
 refine ⟨h2, ?_, ?_⟩
 ·unfold jg; rw [if_neg (by rw [h1]; simp)]
 ·unfold du; rw [h2]; simp
theorem m4 (hp : dh p) (hi : i < p.takes.length) (h : (bk p s d (ir p i).when).1 = 1) : lq p s hs i = true ∧ (jg p s hs i = if (hs.getD i bo).has = true then (hs.getD i bo).v else 0) ∧ du p s hs i = (hs.getD i bo).has := by
 have h0 := cM h
 have h1 : co p s (fW p) (ir p i).when = true := by rw [← h0]; exact (eT hp hi _ _).1
 have h2 : co p s (aW p s hs) (ir p i).when = true := by rw [← h0]; exact (eT hp hi _ _).1
 refine ⟨h2, ?_, ?_⟩
 ·unfold jg; rw [h1]; simp
 ·unfold du; rw [h2]; simp
theorem Bn (h : ¬(bk p s (aW p s hs) (oC p i).when).1 = 1) : lr p s hs i = bo ∧ d5 p s hs rs i = true := by
 have h0 := fc h
 refine ⟨?_, ?_⟩
 ·unfold lr; rw [h0]; simp
 ·unfold d5; rw [h0]; simp
theorem wL (h : (bk p s (aW p s hs) (oC p i).when).1 = 1) : lr p s hs i = ⟨true, (bk p s (aW p s hs) (oC p i).data).1⟩ ∧ d5 p s hs rs i = rs.getD i false := by
 have h0 := cM h
 refine ⟨?_, ?_⟩
 ·unfold lr; rw [h0]; simp
 ·unfold d5; rw [h0]; simp
theorem pT (h : dQ p s hs rs = false) : ae p s hs rs = ⟨false, s, List.replicate p.takes.length false, List.replicate p.puts.length bo⟩ := if_neg (by rw [h]; simp)
theorem kG (h : dQ p s hs rs = true) : ae p s hs rs = ⟨true, cG p s (aW p s hs), tab (lq p s hs) p.takes.length, tab (lr p s hs) p.puts.length⟩ := if_pos h
theorem sx {a b : Bool} (h1 : a = bE (du p s hs) p.takes.length) (h2 : b = (a && bE (d5 p s hs rs) p.puts.length)) : dQ p s hs rs = b := by
 rw [h2, h1]; rfl
theorem tx (hp : dh p) (hi : i < p.takes.length) : cU (it p) (ir p i).when = some 1 ∧ da (ir p i).when ≤ 3 := ⟨(eT (s := DA) hp hi [] []).2, (hp.tw i hi).2.2⟩
theorem uE (p : Pr) : aR p = ⟨tab (fun i => (pR p i).init) p.regs.length, tab (fun i => List.replicate (ef p i).words.toNat 0) p.mems.length⟩ := by
 unfold aR; rw [mZ (d := aI), mZ (d := aj)]
theorem y8 {l : List Int} {z : List Int} (h : l.length = z.length) : dF (fun j => l.getD j 0) z z.length = l := by
 rw [cQ (Nat.le_refl _), ← h, ← y4]
end
theorem cy {p : Pr} {s : Ps} (h : ¬s.regs.length = p.regs.length) : bt p s = false := by unfold bt; rw [decide_eq_false h]; rfl
theorem cz {p : Pr} {s : Ps} (h : ¬s.mems.length = p.mems.length) : bt p s = false := by unfold bt; rw [decide_eq_false h]; simp
theorem cA {p : Pr} {s : Ps} {i : Nat} (hi : i < s.regs.length) (h : fg (s.regs.getD i 0) (pR p i).w = false) : bt p s = false := by
 unfold bt; rw [tv hi h]; simp
theorem bi {p : Pr} {s : Ps} {i : Nat} (hi : i < s.mems.length) (h : fT p s i = false) : bt p s = false := by
 unfold bt; rw [tv hi h]; simp
theorem ex {p : Pr} {s : Ps} {i : Nat} (h : ¬((s.mems.getD i []).length : Int) = (ef p i).words) : fT p s i = false := by unfold fT; rw [decide_eq_false h]; rfl
theorem ey {p : Pr} {s : Ps} {i j : Nat} (hj : j < (s.mems.getD i []).length) (h : fg ((s.mems.getD i []).getD j 0) (ef p i).w = false) : fT p s i = false := by
 unfold fT; rw [tv hj h]; simp
theorem wM {p : Pr} {s : Ps} {i : Nat} (h1 : ((s.mems.getD i []).length : Int) = (ef p i).words) (h2 : ∀ j, j < (s.mems.getD i []).length → fg ((s.mems.getD i []).getD j 0) (ef p i).w = true) : fT p s i = true := by
 unfold fT; rw [decide_eq_true h1, ee.2 h2]; rfl
theorem cB {p : Pr} {s : Ps} (h1 : s.regs.length = p.regs.length) (h2 : s.mems.length = p.mems.length) (h3 : ∀ i, i < s.regs.length → fg (s.regs.getD i 0) (pR p i).w = true) (h4 : ∀ i, i < s.mems.length → fT p s i = true) : bt p s = true := by
 unfold bt; rw [decide_eq_true h1, decide_eq_true h2, ee.2 h3, ee.2 h4]; rfl
theorem wN {v w : Int} (h0 : 0 ≤ v) (h1 : 0 ≤ w) (h2 : w ≤ 62) : (v / 2 ^ w.toNat == 0) = fg v w := by
 have hp := fM (n := w.toNat) (by omega)
 unfold fg
 rw [decide_eq_true h0, Bool.true_and, gG h1 h2]
 rw [Bool.eq_iff_iff, beq_iff_eq, decide_eq_true_eq]
 generalize (2 : Int) ^ w.toNat = m at hp ⊢
 constructor
 ·intro h
  have h3 := Int.emod_add_mul_ediv v m
  rw [h] at h3
  have h4 := Int.emod_lt_of_pos v (show 0 < m by omega)
  omega
 ·intro h
  exact Int.ediv_eq_zero_of_lt h0 (by omega)
end Go.Proofs.Ytgfbfajaaaegjaa
