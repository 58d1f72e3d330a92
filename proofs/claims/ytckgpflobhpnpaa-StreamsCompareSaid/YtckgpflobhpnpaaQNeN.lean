/-
  Made circuits, plain data.
-/
import Derived.Test.YtckgpflobhpnpaaQNeH
namespace Go.Proofs.Ytckgpflobhpnpaa
open Go.RowKit
set_option linter.unusedVariables false
set_option linter.unusedSimpArgs false
def Fw : Ex := ⟨1, e0, ⟨1, e0⟩, ⟨1, e0⟩, []⟩
end Go.Proofs.Ytckgpflobhpnpaa
