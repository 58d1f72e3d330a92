/-
  What a row's reading of an argument says to the walks on pure data: pairs of slices. Over any program.
-/
import Derived.Test.YtgfbfajaaaegjaaQOpenD
import Derived.OpenShut
namespace Go.Proofs.Ytgfbfajaaaegjaa
open Go.ChangeShapes Go.WideShapes Go.ChangeAt Go.RowKit
set_option linter.unusedVariables false
set_option linter.unusedSimpArgs false
theorem Db {α : Type} (l : List α) (h : l.length = 1) : ∃ a, l = [a] := by
 match l, h with
 | [a], _ => exact ⟨a, rfl⟩
section
variable {H : Type} {enc : TypeId × Value → H} {P : Program} {W : World}
theorem tR {t e q : TypeId} {k : IntKind} {fuel : Nat} {cs : List Value} {x : DataW H × List MemPlace} (ht : P.underlying t = some (.array 2 e)) (he : P.underlying e = some (.slice q)) (hq : P.underlying q = some (.int k)) (hc : P.cellsOf e = 1) (hc2 : P.cellsOf q = 1) (hn : P.cellsOf t = 2)
  (h : DataW.trod enc P W 0 (fun _ => true) true fuel t cs = some x) : ∃ v0 v1 l0 l1, cs = [v0, v1] ∧ (∀ n ∈ l0, x4 k n) ∧ (∀ n ∈ l1, x4 k n) ∧ l0.length ≤ maxLen ∧ l1.length ≤ maxLen ∧ dy (fun b => b < W.heap.size) W (.sl 1 (ac k) 0 l0) v0 ∧ dy (fun b => b < W.heap.size) W (.sl 1 (ac k) 0 l1) v1 := by
 obtain ⟨ys, m, _, _, hcl, hl, hel⟩ := DataW.trod_array ht h
 rw [hn] at hcl
 obtain ⟨a, b, rfl⟩ := Bd cs hcl
 have h0 := hel 0 (by omega)
 have h1 := hel 1 (by omega)
 rw [List.getElem?_eq_getElem (by omega)] at h0 h1
 simp only [hc, Nat.zero_mul, Nat.one_mul, List.drop_zero, List.drop_succ_cons, List.take_succ_cons, List.take_zero] at h0 h1
 obtain ⟨u0, l0, e0, g0, n0, r0⟩ := jV (k := k) (S := fun b => b < W.heap.size) he hq hc2 (fun _ h => h) h0
 obtain ⟨u1, l1, e1, g1, n1, r1⟩ := jV (k := k) (S := fun b => b < W.heap.size) he hq hc2 (fun _ h => h) h1
 simp only [List.cons.injEq, and_true] at e0 e1
 subst e0
 subst e1
 exact ⟨a, b, l0, l1, rfl, g0, g1, n0, n1, r0, r1⟩
theorem tS {r : Reach} {base : Nat} {t e : TypeId} {n : Nat} {v : Value} {m : Nat} (ht : P.underlying t = some (.array n e)) (hm : P.cellsOf t = m) (hv : Value.okWide P W r base t v) : ∃ cs : List Value, v = .agg cs.toArray ∧ cs.length = m := by
 unfold Value.okWide at hv
 rw [ht] at hv
 obtain ⟨cs, rfl, hs, _⟩ := hv
 exact ⟨cs.toList, by simp, by simp [hs, hm]⟩
end
theorem El {n : Nat} (h : n ≤ maxLen) : n ≤ 9223372036854775807 := by unfold maxLen at h; omega
end Go.Proofs.Ytgfbfajaaaegjaa
