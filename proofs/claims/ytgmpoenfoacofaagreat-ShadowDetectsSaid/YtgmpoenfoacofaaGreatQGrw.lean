/-
  slices.Grow of no slice: a row of the call's own, of length 0.
-/
import Derived.Test.YtgmpoenfoacofaaGreatQVp
import Derived.Test.YtgmpoenfoacofaaGreatQMap
namespace Go.Proofs.YtgmpoenfoacofaaGreat
open Go.RowKit
set_option linter.unusedVariables false
set_option linter.unusedSimpArgs false
theorem af.of_empty {P : Program} {f : FuncId} {ar : List D} {E sz : Nat} {α : Type} {enc : α → List V} {d : α}
  (h : ∀ (S : Nat → Prop) (μ : Nat → Value) (w : World) (us : Array Value), aG S μ w ar us → Calls P f us w (fun e w' => ∃ v, e = .returned v ∧ w'.ownsRow 0 E sz v 0 [] ∧ w.grownBy w' none ∧ ∀ b, ap v = some b → w.heap.size ≤ b)) :
  af P f ar [] false (.own 0) [.arr E sz enc d []] := by
 intro S μ w us hS _ hus
 refine (h S μ w us hus).mono ?_
 rintro e w' ⟨v, rfl, ho, hg, hb⟩
 have hB : aL S (fun _ => v) w' v (.arr E sz enc d []) := ⟨fun i x hx => by simp at hx, [], by simpa using ho, fun i x j y hx => by simp at hx⟩
 refine ⟨v, fun _ => v, S, rfl, hg.os, hg.tape, hg.output, hg.size, fun k hk _ => hg.block k hk (by simp), fun _ h => h, fun _ h => .inl h, fun b hb => Nat.lt_of_lt_of_le (hS b hb) hg.size, ?_, ⟨fun id B hB' => ?_, fun i j A B b hA hB' _ _ _ _ => ?_, fun i A b hA _ hbk hSb => ?_⟩, fun i A b hA _ hbk => .inl (hb b hbk), fun i A hA => by simp at hA⟩
 ·exact ak.own (μ := fun _ => v) 0
 ·cases id with
  | zero => simp at hB'; subst hB'; exact hB
  | succ id => simp at hB'
 ·have h1 : i = 0 := by cases i with | zero => rfl | succ i => simp at hA
  have h2 : j = 0 := by cases j with | zero => rfl | succ j => simp at hB'
  rw [h1, h2]
 ·have := hb b hbk
  have := hS b hSb
  omega
end Go.Proofs.YtgmpoenfoacofaaGreat
