/-
  Processes, plain law: equality of states and firings; more facts for the walks.
-/
import Derived.Test.YtgmpoenfoacofaaQPrS
namespace Go.Proofs.Ytgmpoenfoacofaa
open Go.RowKit
set_option linter.unusedVariables false
set_option linter.unusedSimpArgs false
theorem cg {α : Type} {f : Nat → α} {x : α} {enc : α → List V} {i : Nat} (h : i < 137438953472) (hx : x = f i) : (tab f i).length + ([x].map enc).length ≤ 137438953472 ∧ (tab f i).map enc ++ [x].map enc = (tab f (i + 1)).map enc := by
 subst hx; exact jP h
end Go.Proofs.Ytgmpoenfoacofaa
