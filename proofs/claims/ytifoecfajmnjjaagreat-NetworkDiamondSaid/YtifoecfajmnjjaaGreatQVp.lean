/-
  Contracts of this program's functions: short words.
-/
import Derived.Test.YtifoecfajmnjjaaGreatQVc
import Derived.Test.YtifoecfajmnjjaaGreatProg
namespace Go.Proofs.YtifoecfajmnjjaaGreat
open Go.RowKit
abbrev CC (c : Ct) : Prop := an Tryz.prog c.f c.as [] c.al c.r []
abbrev CK (c : Ct) : Prop := xH [] c.as c.as ∧ an Tryz.prog c.f c.as [] c.al c.r []
abbrev GC (c : Ct) : Prop := nI Tryz.prog c.f = true ∧ an Tryz.prog c.f c.as [] c.al c.r []
abbrev CO (c : Ca) : Prop := an Tryz.prog c.f c.as [] false c.r [c.B]
end Go.Proofs.YtifoecfajmnjjaaGreat
