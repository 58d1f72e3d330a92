/-
  Contracts of this program's functions: short words.
-/
import Derived.Test.YtifoecfajmnjjaaGreatQVc
import Derived.Test.YtifoecfajmnjjaaGreatProg
namespace Go.Proofs.YtifoecfajmnjjaaGreat
open Go.RowKit
abbrev CC (c : Ct) : Prop := ai Tryz.prog c.f c.as [] c.al c.r []
abbrev CK (c : Ct) : Prop := xx [] c.as c.as ∧ ai Tryz.prog c.f c.as [] c.al c.r []
abbrev GC (c : Ct) : Prop := kQ Tryz.prog c.f = true ∧ ai Tryz.prog c.f c.as [] c.al c.r []
abbrev CO (c : yR) : Prop := ai Tryz.prog c.f c.as [] false c.r [c.B]
end Go.Proofs.YtifoecfajmnjjaaGreat
