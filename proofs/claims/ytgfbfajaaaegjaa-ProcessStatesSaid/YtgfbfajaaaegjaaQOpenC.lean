/-
  What a row's reading of an argument says to the walks on pure data: parts of structs. Over any program.
-/
import Derived.Test.YtgfbfajaaaegjaaQOpenB
namespace Go.Proofs.Ytgfbfajaaaegjaa
open Go.ChangeShapes Go.WideShapes Go.ChangeAt Go.RowKit
set_option linter.unusedVariables false
set_option linter.unusedSimpArgs false
section
variable {H : Type} {enc : TypeId × Value → H} {P : Program} {W : World}
theorem Bd {α : Type} (l : List α) (h : l.length = 2) : ∃ a b, l = [a, b] := by
 match l, h with
 | [a, b], _ => exact ⟨a, b, rfl⟩
end
end Go.Proofs.Ytgfbfajaaaegjaa
