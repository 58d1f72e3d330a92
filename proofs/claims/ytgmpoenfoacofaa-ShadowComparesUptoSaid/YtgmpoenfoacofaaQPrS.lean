/-
  Processes, plain law: facts for the walks over steps.
-/
import Derived.Test.YtgmpoenfoacofaaQNeA
namespace Go.Proofs.Ytgmpoenfoacofaa
open Go.RowKit
set_option linter.unusedVariables false
set_option linter.unusedSimpArgs false
def ph {α : Type} (f : Nat → α) (l : List α) (i : Nat) : List α := tab f i ++ l.drop i
theorem t4 {α : Type} {f : Nat → α} {l : List α} {i : Nat} (h : i ≤ l.length) : (ph f l i).length = l.length := by
 unfold ph; rw [List.length_append, aY, List.length_drop]; omega
theorem t5 {α : Type} {f : Nat → α} {l : List α} {i : Nat} {v : α} (h : i < l.length) (hv : f i = v) : (ph f l i).set i v = ph f l (i + 1) := by
 rw [← hv]; exact vA h
theorem sG {α : Type} {f : Nat → α} {l : List α} {i : Nat} (h : l.length ≤ i) : ph f l i = tab f i := t2 h
theorem t6 {α : Type} {f : Nat → α} {l : List α} {i j : Nat} {d : α} : (ph f l i).getD j d = if j < i then f j else l.getD j d := by
 unfold ph
 by_cases h : j < i
 ·rw [if_pos h, List.getD, List.getElem?_append_left (by rw [aY]; exact h), ← List.getD, cf h]
 ·rw [if_neg h, List.getD, List.getElem?_append_right (by rw [aY]; omega), aY, List.getElem?_drop, ← List.getD]
  congr 1; omega
theorem jP {α : Type} {f : Nat → α} {enc : α → List V} {i : Nat} (h : i < 137438953472) : (tab f i).length + ([f i].map enc).length ≤ 137438953472 ∧ (tab f i).map enc ++ [f i].map enc = (tab f (i + 1)).map enc := by
 refine ⟨by rw [aY]; simp; omega, ?_⟩
 rw [pc, List.map_append]
theorem kU {α : Type} {n i : Nat} {a : α} : (List.replicate n a).getD i a = a := by
 rw [List.getD, List.getElem?_replicate]; split <;> rfl
section
variable {p : Pr} {s : Ps} {hs : List Hd} {rs : List Bool} {d : List Int} {i : Nat}
theorem pi (p : Pr) : aP p = ⟨tab (fun i => (uZ p i).init) p.regs.length, tab (fun i => List.replicate (nr p i).words.toNat 0) p.mems.length⟩ := by
 unfold aP; rw [rB (d := ce), rB (d := dz)]
end
end Go.Proofs.Ytgmpoenfoacofaa
