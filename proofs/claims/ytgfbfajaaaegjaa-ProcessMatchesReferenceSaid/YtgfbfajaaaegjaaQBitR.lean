/-
  Operators on bits, plain law: sums, differences, De Morgan's laws, parts.
-/
import Derived.Test.YtgfbfajaaaegjaaQBitQ
namespace Go.Proofs.Ytgfbfajaaaegjaa
open Go.RowKit
set_option linter.unusedVariables false
set_option linter.unusedSimpArgs false
theorem Bo {n z i : Nat} (hz : z < 2 ^ n) : (2 ^ n - 1 - z).testBit i = (decide (i < n) && !z.testBit i) := by
 rw [show 2 ^ n - 1 - z = 2 ^ n - (z + 1) from by omega, Nat.testBit_two_pow_sub_succ hz]
end Go.Proofs.Ytgfbfajaaaegjaa
