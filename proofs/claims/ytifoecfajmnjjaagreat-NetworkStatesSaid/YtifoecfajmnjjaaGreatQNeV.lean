/-
  The laws of networks, plain data: what one firing leaves to another.
-/
import Derived.Test.YtifoecfajmnjjaaGreatQNeU
namespace Go.Proofs.YtifoecfajmnjjaaGreat
open Go.RowKit
set_option linter.unusedVariables false
set_option linter.unusedSimpArgs false
section
variable {c : Ci} {s : Ns}
theorem cF (hz : JW s) (i : Nat) : (s.procs.getD i a7).regs.length ≤ 9223372036854775807 ∧ (s.procs.getD i a7).mems.length ≤ 9223372036854775807 ∧ ∀ j, ((s.procs.getD i a7).mems.getD j []).length ≤ 9223372036854775807 := by
 obtain ⟨_, _, _, h4, h5, h6⟩ := hz
 exact ⟨Nat.le_trans (h4 i) (by omega), Nat.le_trans (h5 i) (by omega), fun j => Nat.le_trans (h6 i j) (by omega)⟩
end
end Go.Proofs.YtifoecfajmnjjaaGreat
