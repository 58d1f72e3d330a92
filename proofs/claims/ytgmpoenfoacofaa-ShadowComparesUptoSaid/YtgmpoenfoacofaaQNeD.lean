/-
  Circuits, plain law: if firing ends, every order ends in the same state.
-/
import Derived.Test.YtgmpoenfoacofaaQNeC
namespace Go.Proofs.Ytgmpoenfoacofaa
open Go.RowKit
set_option linter.unusedVariables false
set_option linter.unusedSimpArgs false
section
variable {c : Ci} {s e : Ns} {w : Nat → Bool}
def xZ (c : Ci) (s : Ns) : List Nat → Ns
 | [] => s
 | p :: r => xZ c (xY c s (wi p)) r
def ub (c : Ci) (s : Ns) : List Nat → Prop
 | [] => True
 | p :: r => p < c.procs.length ∧ xR c s p = true ∧ ub c (xY c s (wi p)) r
end
end Go.Proofs.Ytgmpoenfoacofaa
