/-
  Opening arguments: bytes in a list, structures with four cells.
-/
import Derived.Test.YtgmpoenfoacofaaGreatQOpenB
import Derived.Test.YtgmpoenfoacofaaGreatQPrG
namespace Go.Proofs.YtgmpoenfoacofaaGreat
open Go.ChangeShapes Go.WideShapes Go.ChangeAt Go.RowKit
set_option linter.unusedVariables false
set_option linter.unusedSimpArgs false
section
variable {H : Type} {enc : TypeId × Value → H} {P : Program} {W : World}
theorem HC {α : Type} (l : List α) (h : l.length = 2) : ∃ a b, l = [a, b] := by
 match l, h with
 | [a, b], _ => exact ⟨a, b, rfl⟩
end
theorem x9 {l : List Int} (h : ∀ n ∈ l, AF .u8 n) : lW l := fun x hx => by
 have := si (h x hx); omega
theorem E4 {x : Int} (h : AF .u8 x) : 0 ≤ x ∧ x ≤ 255 := by have := si h; omega
end Go.Proofs.YtgmpoenfoacofaaGreat
