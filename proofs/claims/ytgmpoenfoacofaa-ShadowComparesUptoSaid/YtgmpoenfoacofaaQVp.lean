/-
  Contracts of this program's functions: short words.
-/
import Derived.Test.YtgmpoenfoacofaaQVc
import Derived.Test.YtgmpoenfoacofaaProg
namespace Go.Proofs.Ytgmpoenfoacofaa
open Go.RowKit
abbrev CC (c : Ct) : Prop := ai Try.prog c.f c.as [] c.al c.r []
abbrev CK (c : Ct) : Prop := pK [] c.as c.as ∧ ai Try.prog c.f c.as [] c.al c.r []
abbrev CO (c : rt) : Prop := ai Try.prog c.f c.as [] false c.r [c.B]
end Go.Proofs.Ytgmpoenfoacofaa
