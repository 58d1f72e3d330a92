/-
  Contracts of this program's functions: short words.
-/
import Derived.Test.YtgfbfajaaaegjaaQVc
import Derived.Test.YtgfbfajaaaegjaaProg
namespace Go.Proofs.Ytgfbfajaaaegjaa
open Go.RowKit
abbrev CC (c : Ct) : Prop := ai Try.prog c.f c.as [] c.al c.r []
abbrev CK (c : Ct) : Prop := rn [] c.as c.as ∧ ai Try.prog c.f c.as [] c.al c.r []
abbrev GC (c : Ct) : Prop := gv Try.prog c.f = true ∧ ai Try.prog c.f c.as [] c.al c.r []
abbrev CR (c : CI) : Prop := ai Try.prog c.f c.as [c.B] true c.r []
end Go.Proofs.Ytgfbfajaaaegjaa
