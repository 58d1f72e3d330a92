/-
  The laws of networks, plain data: the circuit of the examples.
-/
import Derived.Test.YtckgpflobhpnpaaQNeQ
namespace Go.Proofs.Ytckgpflobhpnpaa
open Go.RowKit
set_option linter.unusedVariables false
set_option linter.unusedSimpArgs false
set_option maxRecDepth 100000
theorem D8 (c : Sc) : kI c Fw = some 1 ∧ mf Fw ≤ 3 := by
 constructor
 ·rfl
 ·decide
end Go.Proofs.Ytckgpflobhpnpaa
