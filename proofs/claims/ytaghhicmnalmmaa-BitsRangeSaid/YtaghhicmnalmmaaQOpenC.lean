/-
  What a row's reading of an argument says to the walks on pure data: parts of structs. Over any program.
-/
import Derived.Test.YtaghhicmnalmmaaQOpenB
namespace Go.Proofs.Ytaghhicmnalmmaa
open Go.ChangeShapes Go.WideShapes Go.ChangeAt Go.RowKit
set_option linter.unusedVariables false
set_option linter.unusedSimpArgs false
section
variable {H : Type} {enc : TypeId × Value → H} {P : Program} {W : World}
theorem im {t e : TypeId} {k : IntKind} {n fuel : Nat} {cs : List Value} {x : DataW H × List MemPlace} (ht : P.underlying t = some (.array n e)) (he : P.underlying e = some (.int k)) (hc : P.cellsOf e = 1) (hn : P.cellsOf t = n)
  (h : DataW.trod enc P W 0 (fun _ => true) true fuel t cs = some x) : ∃ xs : List Int, xs.length = n ∧ cs = xs.map (Value.int k) ∧ ∀ y ∈ xs, qv k y := by
 obtain ⟨ys, m, _, _, hcl, hl, hel⟩ := DataW.trod_array ht h
 rw [hn] at hcl
 have each : ∀ i, ∃ x, i < n → cs[i]? = some (.int k x) ∧ qv k x := by
  intro i
  by_cases hi : i < n
  ·have h1 := hel i hi
   rw [List.getElem?_eq_getElem (by omega)] at h1
   simp only [hc, Nat.mul_one] at h1
   rw [List.drop_eq_getElem_cons (by omega)] at h1
   simp only [List.take_succ_cons, List.take_zero] at h1
   obtain ⟨x, e0, _, wf⟩ := DataW.trod_int he h1
   simp only [List.cons.injEq, and_true] at e0
   exact ⟨x, fun _ => ⟨by rw [List.getElem?_eq_getElem (by omega), e0], wf⟩⟩
  ·exact ⟨0, fun h => (hi h).elim⟩
 obtain ⟨f, hf⟩ := Classical.axiomOfChoice each
 refine ⟨(List.range n).map f, by simp, ?_, ?_⟩
 ·refine List.ext_getElem? (fun i => ?_)
  by_cases hi : i < n
  ·rw [(hf i hi).1]; simp [hi]
  ·rw [List.getElem?_eq_none (by omega), List.getElem?_eq_none (by simp; omega)]
 ·intro y hy
  simp only [List.mem_map, List.mem_range] at hy
  obtain ⟨i, hi, rfl⟩ := hy
  exact (hf i hi).2
end
end Go.Proofs.Ytaghhicmnalmmaa
