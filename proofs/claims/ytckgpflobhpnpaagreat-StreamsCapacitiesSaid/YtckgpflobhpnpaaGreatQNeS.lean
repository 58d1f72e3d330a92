/-
  The laws of networks, plain data: the circuit of the examples.
-/
import Derived.Test.YtckgpflobhpnpaaGreatQNeQ
namespace Go.Proofs.YtckgpflobhpnpaaGreat
open Go.RowKit
set_option linter.unusedVariables false
set_option linter.unusedSimpArgs false
set_option maxRecDepth 100000
theorem G7 (c : Sc) : e9 c fu = some 1 ∧ fS fu ≤ 3 := by
 constructor
 ·rfl
 ·decide
end Go.Proofs.YtckgpflobhpnpaaGreat
