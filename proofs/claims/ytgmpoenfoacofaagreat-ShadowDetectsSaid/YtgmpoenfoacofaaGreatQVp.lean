/-
  Contracts of this program's functions: short words.
-/
import Derived.Test.YtgmpoenfoacofaaGreatQVc
import Derived.Test.YtgmpoenfoacofaaGreatProg
namespace Go.Proofs.YtgmpoenfoacofaaGreat
open Go.RowKit
abbrev CC (c : Ct) : Prop := af Tryz.prog c.f c.as [] c.al c.r []
abbrev CK (c : Ct) : Prop := t4 [] c.as c.as ∧ af Tryz.prog c.f c.as [] c.al c.r []
abbrev GC (c : Ct) : Prop := fU Tryz.prog c.f = true ∧ af Tryz.prog c.f c.as [] c.al c.r []
abbrev CO (c : yB) : Prop := af Tryz.prog c.f c.as [] false c.r [c.B]
end Go.Proofs.YtgmpoenfoacofaaGreat
