/-
  Contracts of this program's functions: short words.
-/
import Derived.Test.YtgfbfajaaaegjaaQVc
import Derived.Test.YtgfbfajaaaegjaaProg
namespace Go.Proofs.Ytgfbfajaaaegjaa
open Go.RowKit
abbrev CC (c : Ct) : Prop := ah Try.prog c.f c.as [] c.al c.r []
abbrev CK (c : Ct) : Prop := sa [] c.as c.as ∧ ah Try.prog c.f c.as [] c.al c.r []
abbrev GC (c : Ct) : Prop := gw Try.prog c.f = true ∧ ah Try.prog c.f c.as [] c.al c.r []
abbrev CR (c : Eo) : Prop := ah Try.prog c.f c.as [c.B] true c.r []
end Go.Proofs.Ytgfbfajaaaegjaa
