/-
  Opening arguments: bytes in a list, structures with four cells.
-/
import Derived.Test.YtckgpflobhpnpaaGreatQOpenB
import Derived.Test.YtckgpflobhpnpaaGreatQPrG
namespace Go.Proofs.YtckgpflobhpnpaaGreat
open Go.ChangeShapes Go.WideShapes Go.ChangeAt Go.RowKit
set_option linter.unusedVariables false
set_option linter.unusedSimpArgs false
section
variable {H : Type} {enc : TypeId × Value → H} {P : Program} {W : World}
theorem MI {α : Type} (l : List α) (h : l.length = 2) : ∃ a b, l = [a, b] := by
 match l, h with
 | [a, b], _ => exact ⟨a, b, rfl⟩
end
theorem Bt {l : List Int} (h : ∀ n ∈ l, Et .u8 n) : lK l := fun x hx => by
 have := vk (h x hx); omega
theorem JA {x : Int} (h : Et .u8 x) : 0 ≤ x ∧ x ≤ 255 := by have := vk h; omega
end Go.Proofs.YtckgpflobhpnpaaGreat
