/-
  Opening arguments: bytes in a list, structures with four cells.
-/
import Derived.Test.YtckgpflobhpnpaaGreatQOpenB
import Derived.Test.YtckgpflobhpnpaaGreatQPrG
namespace Go.Proofs.YtckgpflobhpnpaaGreat
open Go.ChangeShapes Go.WideShapes Go.ChangeAt Go.RowKit
set_option linter.unusedVariables false
set_option linter.unusedSimpArgs false
section
variable {H:Type} {enc:TypeId×Value→H} {P:Program} {W:World}
theorem MV {α:Type} (l:List α) (h:l.length=2):∃a b, l=[a, b]:=by
 match l, h with
 | [a, b], _=>exact⟨a, b, rfl⟩
end
theorem BS {l:List Int} (h:∀n∈l, EM .u8 n):qe l:=fun x hx=>by
 have:=vz (h x hx);omega
theorem JL {x:Int} (h:EM .u8 x):0≤x∧x≤255:=by have:=vz h;omega
end Go.Proofs.YtckgpflobhpnpaaGreat
