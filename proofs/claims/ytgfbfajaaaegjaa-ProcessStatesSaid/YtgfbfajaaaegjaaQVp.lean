/-
  Contracts of this program's functions: short words.
-/
import Derived.Test.YtgfbfajaaaegjaaQVc
import Derived.Test.YtgfbfajaaaegjaaProg
namespace Go.Proofs.Ytgfbfajaaaegjaa
open Go.RowKit
abbrev CC (c : Ct) : Prop := ak Try.prog c.f c.as [] c.al c.r []
abbrev CK (c : Ct) : Prop := rh [] c.as c.as ∧ ak Try.prog c.f c.as [] c.al c.r []
abbrev GC (c : Ct) : Prop := fS Try.prog c.f = true ∧ ak Try.prog c.f c.as [] c.al c.r []
abbrev CR (c : Di) : Prop := ak Try.prog c.f c.as [c.B] true c.r []
end Go.Proofs.Ytgfbfajaaaegjaa
