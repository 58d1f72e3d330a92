/-
  Processes, plain law: facts for the walks over steps.
-/
import Derived.Test.YtgmpoenfoacofaaGreatQNeA
namespace Go.Proofs.YtgmpoenfoacofaaGreat
open Go.RowKit
set_option linter.unusedVariables false
set_option linter.unusedSimpArgs false
def cr {α : Type} (f : Nat → α) (l : List α) (i : Nat) : List α := tab f i ++ l.drop i
theorem gj {α : Type} {f : Nat → α} {l : List α} {i : Nat} (h : i ≤ l.length) : (cr f l i).length = l.length := by
 unfold cr; rw [List.length_append, aK, List.length_drop]; omega
theorem ck {α : Type} {f : Nat → α} {l : List α} {i : Nat} {v : α} (h : i < l.length) (hv : f i = v) : (cr f l i).set i v = cr f l (i + 1) := by
 rw [← hv]; exact DK h
theorem cX {α : Type} {f : Nat → α} {l : List α} {i : Nat} {d : α} (h : i < l.length) (hv : f i = l.getD i d) : cr f l i = cr f l (i + 1) := by
 unfold cr
 rw [rn, List.append_assoc, hv]
 congr 1
 rw [List.drop_eq_getElem_cons h, List.getD, List.getElem?_eq_getElem h]; rfl
theorem eM {α : Type} {f : Nat → α} {l : List α} {i : Nat} (h : l.length ≤ i) : cr f l i = tab f i := BS h
theorem jZ {α : Type} {f : Nat → α} {l : List α} {i j : Nat} {d : α} : (cr f l i).getD j d = if j < i then f j else l.getD j d := by
 unfold cr
 by_cases h : j < i
 ·rw [if_pos h, List.getD, List.getElem?_append_left (by rw [aK]; exact h), ← List.getD, bf h]
 ·rw [if_neg h, List.getD, List.getElem?_append_right (by rw [aK]; omega), aK, List.getElem?_drop, ← List.getD]
  congr 1; omega
theorem gN {α : Type} {f : Nat → α} {enc : α → List V} {i : Nat} (h : i < 137438953472) : (tab f i).length + ([f i].map enc).length ≤ 137438953472 ∧ (tab f i).map enc ++ [f i].map enc = (tab f (i + 1)).map enc := by
 refine ⟨by rw [aK]; simp; omega, ?_⟩
 rw [rn, List.map_append]
theorem dR {α : Type} {n i : Nat} {a : α} : (List.replicate n a).getD i a = a := by
 rw [List.getD, List.getElem?_replicate]; split <;> rfl
section
variable {p : Pr} {s : Ps} {hs : List Hd} {rs : List Bool} {d : List Int} {i : Nat}
theorem xx : (sm p).getD i 0 = 0 := dR
theorem i4 : (sm p).length = p.takes.length := by simp [sm]
theorem FK (hp : gi p) (hh : xv p hs) (hi : i ≤ p.takes.length) : xu p (cr (m3 p s hs) (sm p) i) where
 l := by rw [gj (by rw [i4]; exact hi), i4]
 v := fun j hj => by
  rw [jZ]
  split
  ·have := (uG (s := s) hp hh).v j hj
   rw [fB, bf hj] at this
   exact this
  ·exact (G8 hp).v j hj
theorem uJ {e : Ex} (h : ¬(bj p s d e).1 = 1) : ik p s d e = false := decide_eq_false h
theorem p8 {e : Ex} (h : (bj p s d e).1 = 1) : ik p s d e = true := decide_eq_true h
theorem DN (hp : gi p) (hi : i < p.takes.length) (h : ¬(bj p s d (jE p i).when).1 = 1) : lX p s hs i = false ∧ m3 p s hs i = 0 ∧ il p s hs i = true := by
 have h0 := uJ h
 have h1 : ik p s (sm p) (jE p i).when = false := by rw [← h0]; exact (io hp hi _ _).1
 have h2 : ik p s (fB p s hs) (jE p i).when = false := by rw [← h0]; exact (io hp hi _ _).1
 refine ⟨h2, ?_, ?_⟩
 ·unfold m3; rw [if_neg (by rw [h1]; simp)]
 ·unfold il; rw [h2]; simp
theorem m4 (hp : gi p) (hi : i < p.takes.length) (h : (bj p s d (jE p i).when).1 = 1) : lX p s hs i = true ∧ (m3 p s hs i = if (hs.getD i aY).has = true then (hs.getD i aY).v else 0) ∧ il p s hs i = (hs.getD i aY).has := by
 have h0 := p8 h
 have h1 : ik p s (sm p) (jE p i).when = true := by rw [← h0]; exact (io hp hi _ _).1
 have h2 : ik p s (fB p s hs) (jE p i).when = true := by rw [← h0]; exact (io hp hi _ _).1
 refine ⟨h2, ?_, ?_⟩
 ·unfold m3; rw [h1]; simp
 ·unfold il; rw [h2]; simp
theorem FL (h : ¬(bj p s (fB p s hs) (fa p i).when).1 = 1) : gg p s hs i = aY ∧ jy p s hs rs i = true := by
 have h0 := uJ h
 refine ⟨?_, ?_⟩
 ·unfold gg; rw [h0]; simp
 ·unfold jy; rw [h0]; simp
theorem yO (h : (bj p s (fB p s hs) (fa p i).when).1 = 1) : gg p s hs i = ⟨true, (bj p s (fB p s hs) (fa p i).data).1⟩ ∧ jy p s hs rs i = rs.getD i false := by
 have h0 := p8 h
 refine ⟨?_, ?_⟩
 ·unfold gg; rw [h0]; simp
 ·unfold jy; rw [h0]; simp
theorem DP (h : eo p s hs rs = false) : a6 p s hs rs = ⟨false, s, List.replicate p.takes.length false, List.replicate p.puts.length aY⟩ := if_neg (by rw [h]; simp)
theorem yP (h : eo p s hs rs = true) : a6 p s hs rs = ⟨true, cS p s (fB p s hs), tab (lX p s hs) p.takes.length, tab (gg p s hs) p.puts.length⟩ := if_pos h
theorem tz {a b : Bool} (h1 : a = bW (il p s hs) p.takes.length) (h2 : b = (a && bW (jy p s hs rs) p.puts.length)) : eo p s hs rs = b := by
 rw [h2, h1]; rfl
theorem DQ (hp : gi p) (hi : i < p.takes.length) : dK (lG p) (jE p i).when = some 1 ∧ df (jE p i).when ≤ 3 := ⟨(io (s := b4) hp hi [] []).2, (hp.tw i hi).2.2⟩
theorem m5 (p : Pr) : aJ p = ⟨tab (fun i => (xt p i).init) p.regs.length, tab (fun i => List.replicate (jx p i).words.toNat 0) p.mems.length⟩ := by
 unfold aJ; rw [yN (d := bJ), yN (d := aX)]
theorem BT {l : List Int} {z : List Int} (h : l.length = z.length) : cr (fun j => l.getD j 0) z z.length = l := by
 rw [eM (Nat.le_refl _), ← h, ← BR]
end
theorem fI {p : Pr} {s : Ps} (h : ¬s.regs.length = p.regs.length) : bC p s = false := by unfold bC; rw [decide_eq_false h]; rfl
theorem fJ {p : Pr} {s : Ps} (h : ¬s.mems.length = p.mems.length) : bC p s = false := by unfold bC; rw [decide_eq_false h]; simp
theorem fK {p : Pr} {s : Ps} {i : Nat} (hi : i < s.regs.length) (h : cj (s.regs.getD i 0) (xt p i).w = false) : bC p s = false := by
 unfold bC; rw [fA hi h]; simp
theorem ce {p : Pr} {s : Ps} {i : Nat} (hi : i < s.mems.length) (h : gh p s i = false) : bC p s = false := by
 unfold bC; rw [fA hi h]; simp
theorem kE {p : Pr} {s : Ps} {i : Nat} (h : ¬((s.mems.getD i []).length : Int) = (jx p i).words) : gh p s i = false := by unfold gh; rw [decide_eq_false h]; rfl
theorem kF {p : Pr} {s : Ps} {i j : Nat} (hj : j < (s.mems.getD i []).length) (h : cj ((s.mems.getD i []).getD j 0) (jx p i).w = false) : gh p s i = false := by
 unfold gh; rw [fA hj h]; simp
theorem DR {p : Pr} {s : Ps} {i : Nat} (h1 : ((s.mems.getD i []).length : Int) = (jx p i).words) (h2 : ∀ j, j < (s.mems.getD i []).length → cj ((s.mems.getD i []).getD j 0) (jx p i).w = true) : gh p s i = true := by
 unfold gh; rw [decide_eq_true h1, bE.2 h2]; rfl
theorem fL {p : Pr} {s : Ps} (h1 : s.regs.length = p.regs.length) (h2 : s.mems.length = p.mems.length) (h3 : ∀ i, i < s.regs.length → cj (s.regs.getD i 0) (xt p i).w = true) (h4 : ∀ i, i < s.mems.length → gh p s i = true) : bC p s = true := by
 unfold bC; rw [decide_eq_true h1, decide_eq_true h2, bE.2 h3, bE.2 h4]; rfl
theorem yQ {v w : Int} (h0 : 0 ≤ v) (h1 : 0 ≤ w) (h2 : w ≤ 62) : (v / 2 ^ w.toNat == 0) = cj v w := by
 have hp := jR (n := w.toNat) (by omega)
 unfold cj
 rw [decide_eq_true h0, Bool.true_and, cR h1 h2]
 rw [Bool.eq_iff_iff, beq_iff_eq, decide_eq_true_eq]
 generalize (2 : Int) ^ w.toNat = m at hp ⊢
 constructor
 ·intro h
  have h3 := Int.emod_add_mul_ediv v m
  rw [h] at h3
  have h4 := Int.emod_lt_of_pos v (show 0 < m by omega)
  omega
 ·intro h
  exact Int.ediv_eq_zero_of_lt h0 (by omega)
end Go.Proofs.YtgmpoenfoacofaaGreat
