/-
  Processes, plain law: facts for the walks over steps.
-/
import Derived.Test.YtckgpflobhpnpaaQNeA
namespace Go.Proofs.Ytckgpflobhpnpaa
open Go.RowKit
set_option linter.unusedVariables false
set_option linter.unusedSimpArgs false
def ct {α : Type} (f : Nat → α) (l : List α) (i : Nat) : List α := tab f i ++ l.drop i
theorem eO {α : Type} {f : Nat → α} {l : List α} {i : Nat} (h : i ≤ l.length) : (ct f l i).length = l.length := by
 unfold ct; rw [List.length_append, au, List.length_drop]; omega
theorem b6 {α : Type} {f : Nat → α} {l : List α} {i : Nat} {v : α} (h : i < l.length) (hv : f i = v) : (ct f l i).set i v = ct f l (i + 1) := by
 rw [← hv]; exact Fb h
theorem b9 {α : Type} {f : Nat → α} {l : List α} {i : Nat} {d : α} (h : i < l.length) (hv : f i = l.getD i d) : ct f l i = ct f l (i + 1) := by
 unfold ct
 rw [sY, List.append_assoc, hv]
 congr 1
 rw [List.drop_eq_getElem_cons h, List.getD, List.getElem?_eq_getElem h]; rfl
theorem dQ {α : Type} {f : Nat → α} {l : List α} {i : Nat} (h : l.length ≤ i) : ct f l i = tab f i := C7 h
theorem po {α : Type} {f : Nat → α} {l : List α} {i j : Nat} {d : α} : (ct f l i).getD j d = if j < i then f j else l.getD j d := by
 unfold ct
 by_cases h : j < i
 ·rw [if_pos h, List.getD, List.getElem?_append_left (by rw [au]; exact h), ← List.getD, aH h]
 ·rw [if_neg h, List.getD, List.getElem?_append_right (by rw [au]; omega), au, List.getElem?_drop, ← List.getD]
  congr 1; omega
theorem pp {α : Type} {f : Nat → α} {enc : α → List V} {i : Nat} (h : i < 137438953472) : (tab f i).length + ([f i].map enc).length ≤ 137438953472 ∧ (tab f i).map enc ++ [f i].map enc = (tab f (i + 1)).map enc := by
 refine ⟨by rw [au]; simp; omega, ?_⟩
 rw [sY, List.map_append]
theorem cu {α : Type} {n i : Nat} {a : α} : (List.replicate n a).getD i a = a := by
 rw [List.getD, List.getElem?_replicate]; split <;> rfl
section
variable {p : Pr} {s : Ps} {hs : List Hd} {rs : List Bool} {d : List Int} {i : Nat}
theorem yE : (sZ p).getD i 0 = 0 := cu
theorem ka : (sZ p).length = p.takes.length := by simp [sZ]
theorem GX (hp : gE p) (hh : yC p hs) (hi : i ≤ p.takes.length) : yB p (ct (pk p s hs) (sZ p) i) where
 l := by rw [eO (by rw [ka]; exact hi), ka]
 v := fun j hj => by
  rw [po]
  split
  ·have := (yD (s := s) hp hh).v j hj
   rw [iB, aH hj] at this
   exact this
  ·exact (Ij hp).v j hj
theorem vX {e : Ex} (h : ¬(bo p s d e).1 = 1) : j8 p s d e = false := decide_eq_false h
theorem rK {e : Ex} (h : (bo p s d e).1 = 1) : j8 p s d e = true := decide_eq_true h
theorem Ff (hp : gE p) (hi : i < p.takes.length) (h : ¬(bo p s d (oB p i).when).1 = 1) : mW p s hs i = false ∧ pk p s hs i = 0 ∧ jr p s hs i = true := by
 have h0 := vX h
 have h1 : j8 p s (sZ p) (oB p i).when = false := by rw [← h0]; exact (gP hp hi _ _).1
 have h2 : j8 p s (iB p s hs) (oB p i).when = false := by rw [← h0]; exact (gP hp hi _ _).1
 refine ⟨h2, ?_, ?_⟩
 ·unfold pk; rw [if_neg (by rw [h1]; simp)]
 ·unfold jr; rw [h2]; simp
theorem pu (hp : gE p) (hi : i < p.takes.length) (h : (bo p s d (oB p i).when).1 = 1) : mW p s hs i = true ∧ (pk p s hs i = if (hs.getD i aK).has = true then (hs.getD i aK).v else 0) ∧ jr p s hs i = (hs.getD i aK).has := by
 have h0 := rK h
 have h1 : j8 p s (sZ p) (oB p i).when = true := by rw [← h0]; exact (gP hp hi _ _).1
 have h2 : j8 p s (iB p s hs) (oB p i).when = true := by rw [← h0]; exact (gP hp hi _ _).1
 refine ⟨h2, ?_, ?_⟩
 ·unfold pk; rw [h1]; simp
 ·unfold jr; rw [h2]; simp
theorem GY (h : ¬(bo p s (iB p s hs) (vV p i).when).1 = 1) : mX p s hs i = aK ∧ mV p s hs rs i = true := by
 have h0 := vX h
 refine ⟨?_, ?_⟩
 ·unfold mX; rw [h0]; simp
 ·unfold mV; rw [h0]; simp
theorem Ae (h : (bo p s (iB p s hs) (vV p i).when).1 = 1) : mX p s hs i = ⟨true, (bo p s (iB p s hs) (vV p i).data).1⟩ ∧ mV p s hs rs i = rs.getD i false := by
 have h0 := rK h
 refine ⟨?_, ?_⟩
 ·unfold mX; rw [h0]; simp
 ·unfold mV; rw [h0]; simp
theorem Fg (h : eN p s hs rs = false) : aG p s hs rs = ⟨false, s, List.replicate p.takes.length false, List.replicate p.puts.length aK⟩ := if_neg (by rw [h]; simp)
theorem Af (h : eN p s hs rs = true) : aG p s hs rs = ⟨true, d5 p s (iB p s hs), tab (mW p s hs) p.takes.length, tab (mX p s hs) p.puts.length⟩ := if_pos h
theorem uJ {a b : Bool} (h1 : a = dP (jr p s hs) p.takes.length) (h2 : b = (a && dP (mV p s hs rs) p.puts.length)) : eN p s hs rs = b := by
 rw [h2, h1]; rfl
theorem Fh (hp : gE p) (hi : i < p.takes.length) : kI (pV p) (oB p i).when = some 1 ∧ mf (oB p i).when ≤ 3 := ⟨(gP (s := bK) hp hi [] []).2, (hp.tw i hi).2.2⟩
theorem xn (p : Pr) : aL p = ⟨tab (fun i => (Fc p i).init) p.regs.length, tab (fun i => List.replicate (oe p i).words.toNat 0) p.mems.length⟩ := by
 unfold aL; rw [Ad (d := eD), Ad (d := bh)]
theorem C9 {l : List Int} {z : List Int} (h : l.length = z.length) : ct (fun j => l.getD j 0) z z.length = l := by
 rw [dQ (Nat.le_refl _), ← h, ← C6]
end
end Go.Proofs.Ytckgpflobhpnpaa
