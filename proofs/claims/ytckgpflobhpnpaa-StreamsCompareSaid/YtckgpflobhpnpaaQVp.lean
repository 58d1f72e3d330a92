/-
  Contracts of this program's functions: short words.
-/
import Derived.Test.YtckgpflobhpnpaaQVc
import Derived.Test.YtckgpflobhpnpaaProg
namespace Go.Proofs.Ytckgpflobhpnpaa
open Go.RowKit
abbrev CC (c : Ct) : Prop := ai Try.prog c.f c.as [] c.al c.r []
abbrev CK (c : Ct) : Prop := xP [] c.as c.as ∧ ai Try.prog c.f c.as [] c.al c.r []
abbrev GC (c : Ct) : Prop := gv Try.prog c.f = true ∧ ai Try.prog c.f c.as [] c.al c.r []
abbrev CO (c : tD) : Prop := ai Try.prog c.f c.as [] false c.r [c.B]
end Go.Proofs.Ytckgpflobhpnpaa
