/-
  The laws of networks, plain data: the environment.
-/
import Derived.Test.YtifoecfajmnjjaaGreatQNeU
namespace Go.Proofs.YtifoecfajmnjjaaGreat
open Go.RowKit
set_option linter.unusedVariables false
set_option linter.unusedSimpArgs false
theorem La (x : Int) : IntKind.wrap .i64 ((BitVec.ofInt (IntKind.i64).bits x &&& BitVec.ofInt (IntKind.i64).bits 3).toNat : Int) = x % 2 ^ 2 := ir (n := 2) (by omega)
end Go.Proofs.YtifoecfajmnjjaaGreat
