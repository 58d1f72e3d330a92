/-
  Opening arguments: bytes in a list, structures with four cells.
-/
import Derived.Test.YtifoecfajmnjjaaGreatQOpenB
import Derived.Test.YtifoecfajmnjjaaGreatQPrG
namespace Go.Proofs.YtifoecfajmnjjaaGreat
open Go.ChangeShapes Go.WideShapes Go.ChangeAt Go.RowKit
set_option linter.unusedVariables false
theorem Iw {α : Type} (l : List α) (h : l.length = 4) : ∃ a b c d, l = [a, b, c, d] := by
 match l, h with
 | [a, b, c, d], _ => exact ⟨a, b, c, d, rfl⟩
theorem v5 {l : List Int} (h : ∀ n ∈ l, BU .u8 n) : kz l := fun x hx => by
 have := sX (h x hx); omega
theorem FT {x : Int} (h : BU .u8 x) : 0 ≤ x ∧ x ≤ 255 := by have := sX h; omega
end Go.Proofs.YtifoecfajmnjjaaGreat
