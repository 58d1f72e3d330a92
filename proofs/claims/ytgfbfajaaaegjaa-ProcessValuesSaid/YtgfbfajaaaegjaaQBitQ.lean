/-
  Operators on bits, plain law: what the laws say of them.
-/
import Derived.Test.YtgfbfajaaaegjaaQBitP
namespace Go.Proofs.Ytgfbfajaaaegjaa
open Go.RowKit
set_option linter.unusedVariables false
set_option linter.unusedSimpArgs false
theorem DY {n : Nat} (h : n ≤ 62) : ae (n : Int) = ((2 ^ n - 1 : Nat) : Int) := by
 rw [dp (by omega) (by omega), Int.toNat_natCast]
 have h1 : 1 ≤ (2 : Nat) ^ n := Nat.one_le_two_pow
 have e : ((2 : Int) ^ n) = ((2 ^ n : Nat) : Int) := by simp
 rw [e]
 omega
end Go.Proofs.Ytgfbfajaaaegjaa
