/-
  The contracts of package digest, as contracts on pure data.
-/
import Derived.Test.YtjmfaebimgnblaaKb
import Derived.Test.YtjmfaebimgnblaaDigB
namespace Go.Proofs.Ytjmfaebimgnblaa
open Go.RowKit
set_option linter.unusedVariables false
set_option linter.unusedSimpArgs false

theorem rep_ints {k : IntKind} {S : Nat → Prop} {w : World} {l : List Int} {u : Value} (h : Rep S w (.sl 1 (encI k) 0 l) u) : IsInts k S w u l := by
  obtain ⟨p, c, rfl, h1, h2, h3, h4⟩ := row_inv h
  refine ⟨p, c, rfl, h1, h2, h3, fun h0 => ?_⟩
  obtain ⟨b, off, us, rfl, q1, q2, q3, q4, q5⟩ := h4 h0
  refine ⟨b, off, rfl, q1, q2, fun i x hx => ?_⟩
  have e := q4 i x 0 _ hx rfl
  have r := q5 i x 0 _ hx rfl
  rw [Nat.mul_one, Nat.add_zero] at e
  rw [e]
  generalize us i 0 = z at r
  cases r
  rfl

/-- A contract whose result is a number. -/
theorem CallOk.of_calls {P : Program} {f : FuncId} {ds : List D} {k : IntKind} {n : Int}
    (h : ∀ (S : Nat → Prop) (μ : Nat → Value) (w : World) (us : Array Value), RepsA S μ w ds us → Calls P f us w (fun e w' => e = .returned (.int k n) ∧ Below w.heap.size w w')) : CallOk P f ds [] false (dI k n) [] := by
  intro S μ w us hS hH hus
  refine (h S μ w us hus).mono ?_
  rintro e w' ⟨rfl, hb⟩
  exact ⟨_, μ, S, rfl, hb.os, hb.tape, hb.output, hb.size, fun k hk _ => hb.block k hk, fun _ h => h, fun _ h => .inl h, fun b hb' => Nat.lt_of_lt_of_le (hS b hb') hb.size, .v _ _ (.int _ _), ⟨fun id B hB => by simp at hB, fun i j A B b hA => by simp at hA, fun i A b hA => by simp at hA⟩, fun i A b hA => by simp at hA, fun i A hA => by simp at hA⟩

theorem reps_one {S : Nat → Prop} {μ : Nat → Value} {w : World} {x : V} {us : Array Value} (h : RepsA S μ w [.v x] us) : ∃ u, us = #[u] ∧ Rep S w x u := by
  obtain ⟨h1, h2⟩ := h
  have : us.size = 1 := h1
  refine ⟨us[0], ?_, sl_inv (h2 0 (.v x) us[0] rfl (by simp [this]))⟩
  apply Array.ext
  · simpa using this
  · intro i hi _
    have : i = 0 := by omega
    subst this
    rfl
theorem reps_two {S : Nat → Prop} {μ : Nat → Value} {w : World} {x y : V} {us : Array Value} (h : RepsA S μ w [.v x, .v y] us) : ∃ u v, us = #[u, v] ∧ Rep S w x u ∧ Rep S w y v := by
  obtain ⟨h1, h2⟩ := h
  have : us.size = 2 := h1
  refine ⟨us[0], us[1], ?_, sl_inv (h2 0 (.v x) us[0] rfl (by simp [this])), sl_inv (h2 1 (.v y) us[1] rfl (by simp [this]))⟩
  apply Array.ext
  · simpa using this
  · intro i hi _
    have : i = 0 ∨ i = 1 := by omega
    rcases this with rfl | rfl <;> rfl
theorem rep_int_inv {S : Nat → Prop} {w : World} {k : IntKind} {n : Int} {u : Value} (h : Rep S w (.int k n) u) : u = .int k n := by cases h; rfl
theorem below_of_eq {w w' : World} (h : w = w') : Below w.heap.size w w' := h ▸ Below.refl _ _

theorem words_ok (l : List Int) : CallOk Try.prog 37 [dL 1 (encI .i64) 0 l] [] false (dI .u64 (wordsF l)) [] := CallOk.of_calls fun S μ w us h => by
  obtain ⟨u, rfl, h1⟩ := reps_one h
  exact words_calls u l S w (rep_ints h1)
theorem tag_ok (key : Int) (l : List Int) : CallOk Try.prog 43 [dI .u64 key, dL 1 (encI .i64) 0 l] [] false (dI .u64 (tagF key l)) [] := CallOk.of_calls fun S μ w us h => by
  obtain ⟨u, v, rfl, h1, h2⟩ := reps_two h
  rw [rep_int_inv h1]
  exact tag_calls key v l S w (rep_ints h2)
theorem wordsR_ok (l : List Int) : CallOk Try.prog 38 [dL 1 (encI .i64) 0 l] [] false (dI .u64 (wordsF l)) [] := CallOk.of_calls fun S μ w us h => by
  obtain ⟨u, rfl, h1⟩ := reps_one h
  exact (wordsR_calls u l S w (rep_ints h1)).mono fun e w' h => ⟨h.1, below_of_eq h.2⟩
theorem tagR_ok (key : Int) (l : List Int) : CallOk Try.prog 44 [dI .u64 key, dL 1 (encI .i64) 0 l] [] false (dI .u64 (tagF key l)) [] := CallOk.of_calls fun S μ w us h => by
  obtain ⟨u, v, rfl, h1, h2⟩ := reps_two h
  rw [rep_int_inv h1]
  exact (tagR_calls key v l S w (rep_ints h2)).mono fun e w' h => ⟨h.1, below_of_eq h.2⟩
theorem step_ok (h x : Int) : CallOk Try.prog 48 [dI .u64 h, dI .u64 x] [] false (dI .u64 (stp h x)) [] := CallOk.of_calls fun S μ w us hu => by
  obtain ⟨u, v, rfl, h1, h2⟩ := reps_two hu
  rw [rep_int_inv h1, rep_int_inv h2]
  exact (step_calls h x w).mono fun e w' h => ⟨h.1, below_of_eq h.2⟩
theorem join_ok (x y : Int) : CallOk Try.prog 41 [dI .u64 x, dI .u64 y] [] false (dI .u64 (joinF x y)) [] := CallOk.of_calls fun S μ w us hu => by
  obtain ⟨u, v, rfl, h1, h2⟩ := reps_two hu
  rw [rep_int_inv h1, rep_int_inv h2]
  exact join_calls x y w

end Go.Proofs.Ytjmfaebimgnblaa
