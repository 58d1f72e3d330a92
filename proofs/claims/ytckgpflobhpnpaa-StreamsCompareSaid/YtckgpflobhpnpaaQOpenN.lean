/-
  Opening arrays of two slices of bytes, and runs' inputs.
-/
import Derived.Test.YtckgpflobhpnpaaQOpenB
import Derived.Test.YtckgpflobhpnpaaQPrQ
namespace Go.Proofs.Ytckgpflobhpnpaa
open Go.ChangeShapes Go.WideShapes Go.ChangeAt Go.RowKit
set_option linter.unusedVariables false
set_option linter.unusedSimpArgs false
theorem IV {n : Nat} (h : n ≤ maxLen) : n ≤ 9223372036854775807 := by unfold maxLen at h; omega
theorem AL {k : IntKind} {l : List (List Int)} (h : ∀ a ∈ l, a.length ≤ maxLen ∧ ∀ n ∈ a, FN k n) (i : Nat) : (l.getD i []).length ≤ 9223372036854775807 := by
 by_cases hi : i < l.length
 ·have := h _ (show l.getD i [] ∈ l by rw [List.getD_eq_getElem?_getD, List.getElem?_eq_getElem hi]; exact List.getElem_mem hi)
  exact IV this.1
 ·rw [List.getD_eq_getElem?_getD, List.getElem?_eq_none (by omega)]; simp
end Go.Proofs.Ytckgpflobhpnpaa
