/-
  Contracts of this program's functions: short words.
-/
import Derived.Test.YtifoecfajmnjjaaGreatQVc
import Derived.Test.YtifoecfajmnjjaaGreatProg
namespace Go.Proofs.YtifoecfajmnjjaaGreat
open Go.RowKit
abbrev CC (c : Ct) : Prop := ak Tryz.prog c.f c.as [] c.al c.r []
abbrev CK (c : Ct) : Prop := xN [] c.as c.as ∧ ak Tryz.prog c.f c.as [] c.al c.r []
abbrev GC (c : Ct) : Prop := kJ Tryz.prog c.f = true ∧ ak Tryz.prog c.f c.as [] c.al c.r []
abbrev CO (c : xO) : Prop := ak Tryz.prog c.f c.as [] false c.r [c.B]
end Go.Proofs.YtifoecfajmnjjaaGreat
