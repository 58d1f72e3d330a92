/-
  Processes, plain law: facts for the walks over steps.
-/
import Derived.Test.YtifoecfajmnjjaaGreatQNeA
namespace Go.Proofs.YtifoecfajmnjjaaGreat
open Go.RowKit
set_option linter.unusedVariables false
set_option linter.unusedSimpArgs false
def b7 {α : Type} (f : Nat → α) (l : List α) (i : Nat) : List α := an f i ++ l.drop i
theorem c7 {α : Type} {f : Nat → α} {l : List α} {i : Nat} (h : i ≤ l.length) : (b7 f l i).length = l.length := by
 unfold b7; rw [List.length_append, aM, List.length_drop]; omega
theorem bK {α : Type} {f : Nat → α} {l : List α} {i : Nat} {v : α} (h : i < l.length) (hv : f i = v) : (b7 f l i).set i v = b7 f l (i + 1) := by
 rw [← hv]; exact EY h
theorem bD {α : Type} {f : Nat → α} {l : List α} {i : Nat} {d : α} (h : i < l.length) (hv : f i = l.getD i d) : b7 f l i = b7 f l (i + 1) := by
 unfold b7
 rw [sI, List.append_assoc, hv]
 congr 1
 rw [List.drop_eq_getElem_cons h, List.getD, List.getElem?_eq_getElem h]; rfl
theorem cK {α : Type} {f : Nat → α} {l : List α} {i : Nat} (h : l.length ≤ i) : b7 f l i = an f i := Dl h
theorem go {α : Type} {f : Nat → α} {l : List α} {i j : Nat} {d : α} : (b7 f l i).getD j d = if j < i then f j else l.getD j d := by
 unfold b7
 by_cases h : j < i
 ·rw [if_pos h, List.getD, List.getElem?_append_left (by rw [aM]; exact h), ← List.getD, bA h]
 ·rw [if_neg h, List.getD, List.getElem?_append_right (by rw [aM]; omega), aM, List.getElem?_drop, ← List.getD]
  congr 1; omega
theorem gW {α : Type} {f : Nat → α} {enc : α → List V} {i : Nat} (h : i < 137438953472) : (an f i).length + ([f i].map enc).length ≤ 137438953472 ∧ (an f i).map enc ++ [f i].map enc = (an f (i + 1)).map enc := by
 refine ⟨by rw [aM]; simp; omega, ?_⟩
 rw [sI, List.map_append]
theorem bO {α : Type} {n i : Nat} {a : α} : (List.replicate n a).getD i a = a := by
 rw [List.getD, List.getElem?_replicate]; split <;> rfl
section
variable {p : Pr} {s : Ps} {hs : List Hd} {rs : List Bool} {d : List Int} {i : Nat}
theorem sK : (iL p).getD i 0 = 0 := bO
theorem d5 : (iL p).length = p.takes.length := by simp [iL]
theorem Gp (hp : fS p) (hh : w4 p hs) (hi : i ≤ p.takes.length) : w3 p (b7 (lu p s hs) (iL p) i) where
 l := by rw [c7 (by rw [d5]; exact hi), d5]
 v := fun j hj => by
  rw [go]
  split
  ·have := (sJ (s := s) hp hh).v j hj
   rw [bV, bA hj] at this
   exact this
  ·exact (FM hp).v j hj
theorem vC {e : Ex} (h : ¬(bc p s d e).1 = 1) : dW p s d e = false := decide_eq_false h
theorem rB {e : Ex} (h : (bc p s d e).1 = 1) : dW p s d e = true := decide_eq_true h
theorem E3 (hp : fS p) (hi : i < p.takes.length) (h : ¬(bc p s d (kS p i).when).1 = 1) : ph p s hs i = false ∧ lu p s hs i = 0 ∧ iQ p s hs i = true := by
 have h0 := vC h
 have h1 : dW p s (iL p) (kS p i).when = false := by rw [← h0]; exact (jx hp hi _ _).1
 have h2 : dW p s (bV p s hs) (kS p i).when = false := by rw [← h0]; exact (jx hp hi _ _).1
 refine ⟨h2, ?_, ?_⟩
 ·unfold lu; rw [if_neg (by rw [h1]; simp)]
 ·unfold iQ; rw [h2]; simp
theorem pk (hp : fS p) (hi : i < p.takes.length) (h : (bc p s d (kS p i).when).1 = 1) : ph p s hs i = true ∧ (lu p s hs i = if (hs.getD i aG).has = true then (hs.getD i aG).v else 0) ∧ iQ p s hs i = (hs.getD i aG).has := by
 have h0 := rB h
 have h1 : dW p s (iL p) (kS p i).when = true := by rw [← h0]; exact (jx hp hi _ _).1
 have h2 : dW p s (bV p s hs) (kS p i).when = true := by rw [← h0]; exact (jx hp hi _ _).1
 refine ⟨h2, ?_, ?_⟩
 ·unfold lu; rw [h1]; simp
 ·unfold iQ; rw [h2]; simp
theorem Gq (h : ¬(bc p s (bV p s hs) (qW p i).when).1 = 1) : pi p s hs i = aG ∧ j9 p s hs rs i = true := by
 have h0 := vC h
 refine ⟨?_, ?_⟩
 ·unfold pi; rw [h0]; simp
 ·unfold j9; rw [h0]; simp
theorem z5 (h : (bc p s (bV p s hs) (qW p i).when).1 = 1) : pi p s hs i = ⟨true, (bc p s (bV p s hs) (qW p i).data).1⟩ ∧ j9 p s hs rs i = rs.getD i false := by
 have h0 := rB h
 refine ⟨?_, ?_⟩
 ·unfold pi; rw [h0]; simp
 ·unfold j9; rw [h0]; simp
theorem z6 (h : gC p s hs rs = false) : aV p s hs rs = ⟨false, s, List.replicate p.takes.length false, List.replicate p.puts.length aG⟩ := if_neg (by rw [h]; simp)
theorem vD (h : gC p s hs rs = true) : aV p s hs rs = ⟨true, co p s (bV p s hs), an (ph p s hs) p.takes.length, an (pi p s hs) p.puts.length⟩ := if_pos h
theorem l8 {a b : Bool} (h1 : a = dq (iQ p s hs) p.takes.length) (h2 : b = (a && dq (j9 p s hs rs) p.puts.length)) : gC p s hs rs = b := by
 rw [h2, h1]; rfl
theorem rC (hp : fS p) (hi : i < p.takes.length) : eH (pj p) (kS p i).when = some 1 ∧ fq (kS p i).when ≤ 3 := ⟨(jx (s := a7) hp hi [] []).2, (hp.tw i hi).2.2⟩
theorem pm (p : Pr) : aX p = ⟨an (fun i => (Bl p i).init) p.regs.length, an (fun i => List.replicate (kN p i).words.toNat 0) p.mems.length⟩ := by
 unfold aX; rw [z4 (d := bG), z4 (d := aR)]
theorem Dm {l : List Int} {z : List Int} (h : l.length = z.length) : b7 (fun j => l.getD j 0) z z.length = l := by
 rw [cK (Nat.le_refl _), ← h, ← Dk]
end
theorem cX {p : Pr} {s : Ps} (h : ¬s.regs.length = p.regs.length) : br p s = false := by unfold br; rw [decide_eq_false h]; rfl
theorem cY {p : Pr} {s : Ps} (h : ¬s.mems.length = p.mems.length) : br p s = false := by unfold br; rw [decide_eq_false h]; simp
theorem cZ {p : Pr} {s : Ps} {i : Nat} (hi : i < s.regs.length) (h : cr (s.regs.getD i 0) (Bl p i).w = false) : br p s = false := by
 unfold br; rw [i5 hi h]; simp
theorem bo {p : Pr} {s : Ps} {i : Nat} (hi : i < s.mems.length) (h : gD p s i = false) : br p s = false := by
 unfold br; rw [i5 hi h]; simp
theorem eV {p : Pr} {s : Ps} {i : Nat} (h : ¬((s.mems.getD i []).length : Int) = (kN p i).words) : gD p s i = false := by unfold gD; rw [decide_eq_false h]; rfl
theorem eW {p : Pr} {s : Ps} {i j : Nat} (hj : j < (s.mems.getD i []).length) (h : cr ((s.mems.getD i []).getD j 0) (kN p i).w = false) : gD p s i = false := by
 unfold gD; rw [i5 hj h]; simp
theorem z7 {p : Pr} {s : Ps} {i : Nat} (h1 : ((s.mems.getD i []).length : Int) = (kN p i).words) (h2 : ∀ j, j < (s.mems.getD i []).length → cr ((s.mems.getD i []).getD j 0) (kN p i).w = true) : gD p s i = true := by
 unfold gD; rw [decide_eq_true h1, ck.2 h2]; rfl
theorem c4 {p : Pr} {s : Ps} (h1 : s.regs.length = p.regs.length) (h2 : s.mems.length = p.mems.length) (h3 : ∀ i, i < s.regs.length → cr (s.regs.getD i 0) (Bl p i).w = true) (h4 : ∀ i, i < s.mems.length → gD p s i = true) : br p s = true := by
 unfold br; rw [decide_eq_true h1, decide_eq_true h2, ck.2 h3, ck.2 h4]; rfl
theorem z8 {v w : Int} (h0 : 0 ≤ v) (h1 : 0 ≤ w) (h2 : w ≤ 62) : (v / 2 ^ w.toNat == 0) = cr v w := by
 have hp := lj (n := w.toNat) (by omega)
 unfold cr
 rw [decide_eq_true h0, Bool.true_and, cC h1 h2]
 rw [Bool.eq_iff_iff, beq_iff_eq, decide_eq_true_eq]
 generalize (2 : Int) ^ w.toNat = m at hp ⊢
 constructor
 ·intro h
  have h3 := Int.emod_add_mul_ediv v m
  rw [h] at h3
  have h4 := Int.emod_lt_of_pos v (show 0 < m by omega)
  omega
 ·intro h
  exact Int.ediv_eq_zero_of_lt h0 (by omega)
end Go.Proofs.YtifoecfajmnjjaaGreat
