/-
  Processes, plain law: facts for the walks over steps.
-/
import Derived.Test.YtgmpoenfoacofaaGreatQNeA
namespace Go.Proofs.YtgmpoenfoacofaaGreat
open Go.RowKit
set_option linter.unusedVariables false
set_option linter.unusedSimpArgs false
def cu {α : Type} (f : Nat → α) (l : List α) (i : Nat) : List α := tab f i ++ l.drop i
theorem dT {α : Type} {f : Nat → α} {l : List α} {i : Nat} (h : i ≤ l.length) : (cu f l i).length = l.length := by
 unfold cu; rw [List.length_append, aQ, List.length_drop]; omega
theorem bX {α : Type} {f : Nat → α} {l : List α} {i : Nat} {v : α} (h : i < l.length) (hv : f i = v) : (cu f l i).set i v = cu f l (i + 1) := by
 rw [← hv]; exact Gu h
theorem bZ {α : Type} {f : Nat → α} {l : List α} {i : Nat} {d : α} (h : i < l.length) (hv : f i = l.getD i d) : cu f l i = cu f l (i + 1) := by
 unfold cu
 rw [tF, List.append_assoc, hv]
 congr 1
 rw [List.drop_eq_getElem_cons h, List.getD, List.getElem?_eq_getElem h]; rfl
theorem cS {α : Type} {f : Nat → α} {l : List α} {i : Nat} (h : l.length ≤ i) : cu f l i = tab f i := EH h
theorem kQ {α : Type} {f : Nat → α} {l : List α} {i j : Nat} {d : α} : (cu f l i).getD j d = if j < i then f j else l.getD j d := by
 unfold cu
 by_cases h : j < i
 ·rw [if_pos h, List.getD, List.getElem?_append_left (by rw [aQ]; exact h), ← List.getD, bp h]
 ·rw [if_neg h, List.getD, List.getElem?_append_right (by rw [aQ]; omega), aQ, List.getElem?_drop, ← List.getD]
  congr 1; omega
theorem fA {α : Type} {f : Nat → α} {enc : α → List V} {i : Nat} (h : i < 137438953472) : (tab f i).length + ([f i].map enc).length ≤ 137438953472 ∧ (tab f i).map enc ++ [f i].map enc = (tab f (i + 1)).map enc := by
 refine ⟨by rw [aQ]; simp; omega, ?_⟩
 rw [tF, List.map_append]
theorem b7 {α : Type} {n i : Nat} {a : α} : (List.replicate n a).getD i a = a := by
 rw [List.getD, List.getElem?_replicate]; split <;> rfl
section
variable {p : Pr} {s : Ps} {hs : List Hd} {rs : List Bool} {d : List Int} {i : Nat}
theorem tH : (il p).getD i 0 = 0 := b7
theorem dU : (il p).length = p.takes.length := by simp [il]
theorem Ii (hp : gv p) (hh : yC p hs) (hi : i ≤ p.takes.length) : yB p (cu (kP p s hs) (il p) i) where
 l := by rw [dT (by rw [dU]; exact hi), dU]
 v := fun j hj => by
  rw [kQ]
  split
  ·have := (tG (s := s) hp hh).v j hj
   rw [bL, bp hj] at this
   exact this
  ·exact (HB hp).v j hj
theorem w8 {e : Ex} (h : ¬(aZ p s d e).1 = 1) : dG p s d e = false := decide_eq_false h
theorem r6 {e : Ex} (h : (aZ p s d e).1 = 1) : dG p s d e = true := decide_eq_true h
theorem Gx (hp : gv p) (hi : i < p.takes.length) (h : ¬(aZ p s d (kO p i).when).1 = 1) : oT p s hs i = false ∧ kP p s hs i = 0 ∧ im p s hs i = true := by
 have h0 := w8 h
 have h1 : dG p s (il p) (kO p i).when = false := by rw [← h0]; exact (jk hp hi _ _).1
 have h2 : dG p s (bL p s hs) (kO p i).when = false := by rw [← h0]; exact (jk hp hi _ _).1
 refine ⟨h2, ?_, ?_⟩
 ·unfold kP; rw [if_neg (by rw [h1]; simp)]
 ·unfold im; rw [h2]; simp
theorem oX (hp : gv p) (hi : i < p.takes.length) (h : (aZ p s d (kO p i).when).1 = 1) : oT p s hs i = true ∧ (kP p s hs i = if (hs.getD i aO).has = true then (hs.getD i aO).v else 0) ∧ im p s hs i = (hs.getD i aO).has := by
 have h0 := r6 h
 have h1 : dG p s (il p) (kO p i).when = true := by rw [← h0]; exact (jk hp hi _ _).1
 have h2 : dG p s (bL p s hs) (kO p i).when = true := by rw [← h0]; exact (jk hp hi _ _).1
 refine ⟨h2, ?_, ?_⟩
 ·unfold kP; rw [h1]; simp
 ·unfold im; rw [h2]; simp
theorem Ij (h : ¬(aZ p s (bL p s hs) (rJ p i).when).1 = 1) : oU p s hs i = aO ∧ jR p s hs rs i = true := by
 have h0 := w8 h
 refine ⟨?_, ?_⟩
 ·unfold oU; rw [h0]; simp
 ·unfold jR; rw [h0]; simp
theorem Bm (h : (aZ p s (bL p s hs) (rJ p i).when).1 = 1) : oU p s hs i = ⟨true, (aZ p s (bL p s hs) (rJ p i).data).1⟩ ∧ jR p s hs rs i = rs.getD i false := by
 have h0 := r6 h
 refine ⟨?_, ?_⟩
 ·unfold oU; rw [h0]; simp
 ·unfold jR; rw [h0]; simp
theorem Bn (h : f9 p s hs rs = false) : aJ p s hs rs = ⟨false, s, List.replicate p.takes.length false, List.replicate p.puts.length aO⟩ := if_neg (by rw [h]; simp)
theorem w9 (h : f9 p s hs rs = true) : aJ p s hs rs = ⟨true, b6 p s (bL p s hs), tab (oT p s hs) p.takes.length, tab (oU p s hs) p.puts.length⟩ := if_pos h
theorem lO {a b : Bool} (h1 : a = cJ (im p s hs) p.takes.length) (h2 : b = (a && cJ (jR p s hs rs) p.puts.length)) : f9 p s hs rs = b := by
 rw [h2, h1]; rfl
theorem r7 (hp : gv p) (hi : i < p.takes.length) : ew (oV p) (kO p i).when = some 1 ∧ fc (kO p i).when ≤ 3 := ⟨(jk (s := a7) hp hi [] []).2, (hp.tw i hi).2.2⟩
theorem oY (p : Pr) : aN p = ⟨tab (fun i => (FY p i).init) p.regs.length, tab (fun i => List.replicate (mN p i).words.toNat 0) p.mems.length⟩ := by
 unfold aN; rw [Bl (d := bG), Bl (d := aI)]
theorem EI {l : List Int} {z : List Int} (h : l.length = z.length) : cu (fun j => l.getD j 0) z z.length = l := by
 rw [cS (Nat.le_refl _), ← h, ← EG]
end
end Go.Proofs.YtgmpoenfoacofaaGreat
