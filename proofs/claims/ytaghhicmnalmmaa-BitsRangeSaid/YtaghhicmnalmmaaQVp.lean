/-
  Contracts of this program's functions: short words.
-/
import Derived.Test.YtaghhicmnalmmaaQVc
import Derived.Test.YtaghhicmnalmmaaProg
namespace Go.Proofs.Ytaghhicmnalmmaa
open Go.RowKit
abbrev CC (c : Ct) : Prop := ai Try.prog c.f c.as [] c.al c.r []
abbrev CK (c : Ct) : Prop := oU [] c.as c.as ∧ ai Try.prog c.f c.as [] c.al c.r []
abbrev GC (c : Ct) : Prop := cT Try.prog c.f = true ∧ ai Try.prog c.f c.as [] c.al c.r []
end Go.Proofs.Ytaghhicmnalmmaa
