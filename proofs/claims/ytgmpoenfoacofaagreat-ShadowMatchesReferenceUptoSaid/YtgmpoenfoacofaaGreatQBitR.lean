/-
  Operators on bits, plain law: sums, differences, De Morgan's laws, parts.
-/
import Derived.Test.YtgmpoenfoacofaaGreatQBitP
namespace Go.Proofs.YtgmpoenfoacofaaGreat
open Go.RowKit
set_option linter.unusedVariables false
set_option linter.unusedSimpArgs false
theorem JX {n : Nat} (h : n ≤ 62) : ah (n : Int) = ((2 ^ n - 1 : Nat) : Int) := by
 rw [cr (by omega) (by omega), Int.toNat_natCast]
 have h1 : 1 ≤ (2 : Nat) ^ n := Nat.one_le_two_pow
 have e : ((2 : Int) ^ n) = ((2 ^ n : Nat) : Int) := by simp
 rw [e]
 omega
theorem GX {n z i : Nat} (hz : z < 2 ^ n) : (2 ^ n - 1 - z).testBit i = (decide (i < n) && !z.testBit i) := by
 rw [show 2 ^ n - 1 - z = 2 ^ n - (z + 1) from by omega, Nat.testBit_two_pow_sub_succ hz]
end Go.Proofs.YtgmpoenfoacofaaGreat
