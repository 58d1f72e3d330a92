/-
  Opening arguments: bytes in a list, structures with four cells.
-/
import Derived.Test.YtifoecfajmnjjaaGreatQOpenC
import Derived.Test.YtifoecfajmnjjaaGreatQPrG
namespace Go.Proofs.YtifoecfajmnjjaaGreat
open Go.ChangeShapes Go.WideShapes Go.ChangeAt Go.RowKit
set_option linter.unusedVariables false
theorem xm {α : Type} (l : List α) (h : l.length = 4) : ∃ a b c d, l = [a, b, c, d] := by
 match l, h with
 | [a, b, c, d], _ => exact ⟨a, b, c, d, rfl⟩
theorem dT {l : List Int} (h : ∀ n ∈ l, sY .u8 n) : iz l := fun x hx => by
 have := xl (h x hx); omega
theorem lD {x : Int} (h : sY .u8 x) : 0 ≤ x ∧ x ≤ 255 := by have := xl h; omega
theorem ur {S : Nat → Prop} {μ : Nat → Value} {w : World} {x y : D} {u v : Value} (h : aC S μ w x u) (k : aC S μ w y v) : bi S μ w [x, y] #[u, v] := ⟨rfl, fun j a z hy hz => by
 match j with
 | 0 => simp at hy hz; subst hy hz; exact h
 | 1 => simp at hy hz; subst hy hz; exact k
 | j + 2 => simp at hy⟩
end Go.Proofs.YtifoecfajmnjjaaGreat
