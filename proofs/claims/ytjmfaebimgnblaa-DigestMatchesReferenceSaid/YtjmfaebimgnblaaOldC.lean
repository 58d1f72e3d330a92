/-
  The old contracts of trees and paths, as contracts on pure data.
-/
import Derived.Test.YtjmfaebimgnblaaOldB
import Derived.Test.YtjmfaebimgnblaaDigL
import Derived.Test.YtjmfaebimgnblaaSides
namespace Go.Proofs.Ytjmfaebimgnblaa
open Go.RowKit
set_option linter.unusedVariables false
set_option linter.unusedSimpArgs false

theorem rep_row {α : Type} {e1 : α → Value} {e2 : α → List V} {d : α} {S : Nat → Prop} {w : World} {v : Value} {l : List α} (hv : ∀ x, ∃ y, e2 x = [y] ∧ ∀ (S : Nat → Prop) (w : World), Rep S w y (e1 x)) (h : IsRow e1 S w v l) : Rep S w (.sl 1 e2 d l) v := by
  obtain ⟨p, c, rfl, h1, h2, h3, h4⟩ := h
  rcases Nat.eq_zero_or_pos l.length with h0 | h0
  · have : l = [] := List.eq_nil_of_length_eq_zero h0
    subst this
    exact .nil _ _ _ _ _ h2 h3
  obtain ⟨b, off, rfl, q1, q2, q3⟩ := h4 h0
  refine .row 1 e2 d l b off c l.length (fun i _ => (w.cell? ⟨b, off + i, none⟩).getD undef) q1 q2 rfl h1 h2 ?_ ?_ ?_
  · intro i x hx
    obtain ⟨y, e, _⟩ := hv x
    rw [e]; rfl
  · intro i x j y hx hy
    obtain ⟨y', e, _⟩ := hv x
    rw [e] at hy
    have hj : j = 0 := by
      cases j with
      | zero => rfl
      | succ j => simp at hy
    subst hj
    rw [Nat.mul_one, Nat.add_zero, q3 i x hx]
    rfl
  · intro i x j y hx hy
    obtain ⟨y', e, hr⟩ := hv x
    rw [e] at hy
    have hj : j = 0 := by
      cases j with
      | zero => rfl
      | succ j => simp at hy
    subst hj
    simp only [List.getElem?_cons_zero, Option.some.injEq] at hy
    subst hy
    simp only [q3 i x hx, Option.getD_some]
    exact hr S w
theorem int_row (k : IntKind) : ∀ x : Int, ∃ y, encI k x = [y] ∧ ∀ (S : Nat → Prop) (w : World), Rep S w y (Value.int k x) := fun x => ⟨_, rfl, fun S w => .int _ _⟩
theorem bool_row : ∀ x : Bool, ∃ y, encB x = [y] ∧ ∀ (S : Nat → Prop) (w : World), Rep S w y (Value.bool x) := fun x => ⟨_, rfl, fun S w => .bool _⟩

theorem CallOk.of_own {P : Program} {f : FuncId} {ds : List D} {α : Type} {e1 : α → Value} {e2 : α → List V} {d : α} {t : TypeId} {l : List α} (hv : ∀ x, ∃ y, e2 x = [y] ∧ ∀ (S : Nat → Prop) (w : World), Rep S w y (e1 x))
    (h : ∀ (S : Nat → Prop) (μ : Nat → Value) (w : World) (us : Array Value), RepsA S μ w ds us → Calls P f us w (fun e w' => ∃ r, e = .returned r ∧ Own e1 w.heap.size t w' r l ∧ Below w.heap.size w w')) : CallOk P f ds [] false (dL 1 e2 d l) [] := by
  intro S μ w us hS hH hus
  refine (h S μ w us hus).mono ?_
  rintro e w' ⟨r, rfl, ho, hb⟩
  refine ⟨r, μ, fun b => S b ∨ (w.heap.size ≤ b ∧ b < w'.heap.size), rfl, hb.os, hb.tape, hb.output, hb.size, fun k hk _ => hb.block k hk, fun _ h => .inl h, fun b h => h.imp id (·.1), fun b hb' => hb'.elim (fun h => Nat.lt_of_lt_of_le (hS b h) hb.size) (·.2), .v _ _ ?_, ⟨fun id B hB => by simp at hB, fun i j A B b hA => by simp at hA, fun i A b hA => by simp at hA⟩, fun i A b hA => by simp at hA, fun i A hA => by simp at hA⟩
  exact (rep_row hv ho.toRow).stable (fun b h1 h2 => ⟨.inr ⟨h1, h2⟩, .inr h1⟩) (fun _ _ _ => rfl) (Nat.le_refl _)
/-- .. with a number behind it. -/
theorem CallOk.of_ownE {P : Program} {f : FuncId} {ds : List D} {α : Type} {e1 : α → Value} {e2 : α → List V} {d : α} {t : TypeId} {l : List α} {k : IntKind} {n : Int} (hv : ∀ x, ∃ y, e2 x = [y] ∧ ∀ (S : Nat → Prop) (w : World), Rep S w y (e1 x))
    (h : ∀ (S : Nat → Prop) (μ : Nat → Value) (w : World) (us : Array Value), RepsA S μ w ds us → Calls P f us w (fun e w' => ∃ r, e = .returned (.agg #[r, .int k n]) ∧ Own e1 w.heap.size t w' r l ∧ Below w.heap.size w w')) : CallOk P f ds [] false (.agg [dL 1 e2 d l, dI k n]) [] := by
  intro S μ w us hS hH hus
  refine (h S μ w us hus).mono ?_
  rintro e w' ⟨r, rfl, ho, hb⟩
  refine ⟨_, μ, fun b => S b ∨ (w.heap.size ≤ b ∧ b < w'.heap.size), rfl, hb.os, hb.tape, hb.output, hb.size, fun k hk _ => hb.block k hk, fun _ h => .inl h, fun b h => h.imp id (·.1), fun b hb' => hb'.elim (fun h => Nat.lt_of_lt_of_le (hS b h) hb.size) (·.2), .agg _ _ rfl (fun j y u hy hu => ?_), ⟨fun id B hB => by simp at hB, fun i j A B b hA => by simp at hA, fun i A b hA => by simp at hA⟩, fun i A b hA => by simp at hA, fun i A hA => by simp at hA⟩
  match j with
  | 0 =>
    simp at hy hu
    subst hy hu
    exact .v _ _ ((rep_row hv ho.toRow).stable (fun b h1 h2 => ⟨.inr ⟨h1, h2⟩, .inr h1⟩) (fun _ _ _ => rfl) (Nat.le_refl _))
  | 1 =>
    simp at hy hu
    subst hy hu
    exact .v _ _ (.int _ _)
  | j + 2 => simp at hy
theorem reps_three {S : Nat → Prop} {μ : Nat → Value} {w : World} {x y z : D} {us : Array Value} (h : RepsA S μ w [x, y, z] us) : ∃ u v t, us = #[u, v, t] ∧ DRep S μ w x u ∧ DRep S μ w y v ∧ DRep S μ w z t := by
  obtain ⟨h1, h2⟩ := h
  have : us.size = 3 := h1
  refine ⟨us[0], us[1], us[2], ?_, h2 0 x us[0] rfl (by simp [this]), h2 1 y us[1] rfl (by simp [this]), h2 2 z us[2] rfl (by simp [this])⟩
  apply Array.ext
  · simpa using this
  · intro i hi _
    have : i = 0 ∨ i = 1 ∨ i = 2 := by omega
    rcases this with rfl | rfl | rfl <;> rfl
theorem agg_two {S : Nat → Prop} {μ : Nat → Value} {w : World} {x y : D} {u : Value} (h : DRep S μ w (.agg [x, y]) u) : ∃ a b, u = .agg #[a, b] ∧ DRep S μ w x a ∧ DRep S μ w y b := by
  obtain ⟨us, rfl, h1, h2⟩ := agg_inv h
  have : us.size = 2 := h1
  refine ⟨us[0], us[1], ?_, h2 0 x us[0] rfl (by simp [this]), h2 1 y us[1] rfl (by simp [this])⟩
  congr 1
  apply Array.ext
  · simpa using this
  · intro i hi _
    have : i = 0 ∨ i = 1 := by omega
    rcases this with rfl | rfl <;> rfl

theorem root_ok (l : List Int) (h : l.length ≤ 1099511627776) : CallOk Try.prog 19 [dL 1 (encI .u64) 0 l] [] false (dI .u64 (rootF l)) [] := CallOk.of_calls fun S μ w us hu => by
  obtain ⟨u, rfl, h1⟩ := reps_one hu
  exact root_calls u l S w h (rep_ints h1)
theorem joinR_ok (x y : Int) : CallOk Try.prog 42 [dI .u64 x, dI .u64 y] [] false (dI .u64 (joinF x y)) [] := CallOk.of_calls fun S μ w us hu => by
  obtain ⟨u, v, rfl, h1, h2⟩ := reps_two hu
  rw [rep_int_inv h1, rep_int_inv h2]
  exact (joinR_calls x y w).mono fun e w' h => ⟨h.1, below_of_eq h.2⟩
theorem grown_ok (l : List Int) (n : Nat) (h : n ≤ 1099511627776) : CallOk Try.prog 16 [dL 1 (encI .u64) 0 l, dI .i64 (n : Int)] [] false (dL 1 (encI .u64) 0 (grownF l n)) [] := CallOk.of_own (int_row .u64) fun S μ w us hu => by
  obtain ⟨u, v, rfl, h1, h2⟩ := reps_two hu
  rw [rep_int_inv h2]
  exact Grown_calls u l n S w h (rep_ints h1)
theorem pathOf_ok (l : List Int) (i : Int) (h : l.length ≤ 1099511627776) : CallOk Try.prog 17 [dL 1 (encI .u64) 0 l, dI .i64 i] [] false (.agg [dL 1 (encI .u64) 0 (pathList l i), dI .i64 (pathErr l i)]) [] := CallOk.of_ownE (int_row .u64) fun S μ w us hu => by
  obtain ⟨u, v, rfl, h1, h2⟩ := reps_two hu
  rw [rep_int_inv h2]
  exact pathOf_calls u l i S w h (rep_ints h1)
theorem lcheck_ok (root n i d : Int) (q : List Int) : CallOk Try.prog 18 [dI .u64 root, .agg [dI .i64 n, dL 1 (encI .u64) 0 q], .agg [dI .i64 i, dI .u64 d]] [] false (dI .i64 (checkF root n i d q)) [] := CallOk.of_calls fun S μ w us hu => by
  obtain ⟨u, v, t, rfl, h1, h2, h3⟩ := reps_three hu
  obtain ⟨a, b, rfl, h4, h5⟩ := agg_two h2
  obtain ⟨c, e, rfl, h6, h7⟩ := agg_two h3
  rw [rep_int_inv (sl_inv h1), rep_int_inv (sl_inv h4), rep_int_inv (sl_inv h6), rep_int_inv (sl_inv h7)]
  exact check_calls root n i d b q S w (rep_ints (sl_inv h5))
theorem up_ok (h o : Int) (b : Bool) : CallOk Try.prog 22 [dI .u64 h, dI .u64 o, dB b] [] false (dI .u64 (upF h o b)) [] := CallOk.of_calls fun S μ w us hu => by
  obtain ⟨u, v, t, rfl, h1, h2, h3⟩ := reps_three hu
  rw [rep_int_inv (sl_inv h1), rep_int_inv (sl_inv h2), bool_inv h3]
  exact (Up_calls h o b w).mono fun e w' h => ⟨h.1, below_of_eq h.2⟩
theorem sidesR_ok (n i : Int) (h0 : 0 ≤ i) (h1 : i < n) (h2 : n ≤ 1099511627776) : CallOk Try.prog 21 [dI .i64 n, dI .i64 i] [] false (dL 1 encB false (sidesF n.toNat i.toNat)) [] := CallOk.of_own bool_row fun S μ w us hu => by
  obtain ⟨u, v, rfl, h3, h4⟩ := reps_two hu
  rw [rep_int_inv h3, rep_int_inv h4]
  obtain ⟨m, rfl⟩ := Int.eq_ofNat_of_zero_le (a := n) (by omega)
  obtain ⟨k, rfl⟩ := Int.eq_ofNat_of_zero_le (a := i) (by omega)
  exact Sides_calls m k w (by omega) (by omega)

end Go.Proofs.Ytjmfaebimgnblaa
