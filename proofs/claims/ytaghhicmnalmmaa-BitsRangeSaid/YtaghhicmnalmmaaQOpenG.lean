/-
  What a row's reading of an argument says to the walks on pure data: pairs of slices. Over any program.
-/
import Derived.Test.YtaghhicmnalmmaaQOpenC
import Derived.Test.YtaghhicmnalmmaaQVc
import Derived.Test.YtaghhicmnalmmaaQPrR
import Derived.OpenShut
namespace Go.Proofs.Ytaghhicmnalmmaa
open Go.ChangeShapes Go.WideShapes Go.ChangeAt Go.RowKit
set_option linter.unusedVariables false
set_option linter.unusedSimpArgs false
theorem se {α : Type} (l : List α) (h : l.length = 3) : ∃ a b c, l = [a, b, c] := by
 match l, h with
 | [a, b, c], _ => exact ⟨a, b, c, rfl⟩
section
variable {H : Type} {enc : TypeId × Value → H} {P : Program} {W : World}
theorem gu {r : Reach} {base : Nat} {t e : TypeId} {n : Nat} {v : Value} {m : Nat} (ht : P.underlying t = some (.array n e)) (hm : P.cellsOf t = m) (hv : Value.okWide P W r base t v) : ∃ cs : List Value, v = .agg cs.toArray ∧ cs.length = m := by
 unfold Value.okWide at hv
 rw [ht] at hv
 obtain ⟨cs, rfl, hs, _⟩ := hv
 exact ⟨cs.toList, by simp, by simp [hs, hm]⟩
end
end Go.Proofs.Ytaghhicmnalmmaa
