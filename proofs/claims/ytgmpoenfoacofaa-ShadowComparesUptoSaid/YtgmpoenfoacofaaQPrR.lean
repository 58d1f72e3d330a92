/-
  The result of a valid operation on values of its arguments' widths is a value of its width.
-/
import Derived.Test.YtgmpoenfoacofaaQBitP
namespace Go.Proofs.Ytgmpoenfoacofaa
open Go.RowKit
set_option linter.unusedVariables false
set_option linter.unusedSimpArgs false
theorem vx {x w : Int} (h0 : 0 ≤ w) (h : w ≤ 62) : x ≤ cb w ↔ x < 2 ^ w.toNat := by
 rw [fw h0 h]; omega
def o8 (v w : Int) : Prop := 0 ≤ v ∧ v ≤ cb w
theorem vy {x w : Int} (h0 : 0 ≤ w) (h : w ≤ 62) : o8 (x % 2 ^ w.toNat) w := by
 have hp := jq (n := w.toNat) (by omega)
 refine ⟨Int.emod_nonneg _ (by omega), ?_⟩
 rw [vx h0 h]
 exact Int.emod_lt_of_pos _ (by omega)
end Go.Proofs.Ytgmpoenfoacofaa
