/-
  The laws of shadows, plain data: circuits that have fired in different orders have streams that agree.
-/
import Derived.Test.YtgmpoenfoacofaaGreatQShF
namespace Go.Proofs.YtgmpoenfoacofaaGreat
open Go.RowKit
set_option linter.unusedVariables false
set_option linter.unusedSimpArgs false
def Ep (c : Ci) : Nat → List Nat
 | 0 => []
 | n + 1 => Ep c n ++ (if (dg c n).dst = -1 then [n] else [])
def x4 (c : Ci) : List Nat := Ep c c.chans.length
theorem vj (c : Ci) (s : Ns) : ∀ n, jA c s n = (Ep c n).map (fun m => (⟨(dg c m).name, fk s m⟩ : Sm))
 | 0 => rfl
 | n + 1 => by
  rw [jA, Ep, List.map_append, vj c s n]
  unfold Hh
  split <;> rfl
theorem CU (c : Ci) (s : Ns) : (cU c s).length = (x4 c).length := by unfold cU x4; rw [vj, List.length_map]
theorem Er {c : Ci} {s : Ns} {i : Nat} (hi : i < (x4 c).length) : (cU c s).getD i bP = ⟨(dg c ((x4 c).getD i 0)).name, fk s ((x4 c).getD i 0)⟩ := by
 unfold cU
 rw [vj]
 unfold x4 at hi ⊢
 simp [List.getD, List.getElem?_map, List.getElem?_eq_getElem hi]
theorem Gf {c : Ci} {s : Ns} (hm : l5 s 4294967296) (i : Nat) : ((cU c s).getD i bP).words.length ≤ 9223372036854775807 := by
 by_cases hi : i < (x4 c).length
 ·rw [Er hi]; exact Nat.le_trans (hm _) (by decide)
 ·rw [List.getD, List.getElem?_eq_none (by rw [CU]; omega)]; simp
theorem CV {c : Ci} {s : Ns} (hc : b5 c) : (cU c s).length ≤ 9223372036854775807 := by
 have := D4 (c := c) (s := s)
 have := hc.cl
 omega
end Go.Proofs.YtgmpoenfoacofaaGreat
