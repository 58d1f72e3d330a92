/-
  Opening arrays of two slices of bytes, and runs' inputs.
-/
import Derived.Test.YtckgpflobhpnpaaQOpenB
import Derived.Test.YtckgpflobhpnpaaQPrG
namespace Go.Proofs.Ytckgpflobhpnpaa
open Go.ChangeShapes Go.WideShapes Go.ChangeAt Go.RowKit
set_option linter.unusedVariables false
set_option linter.unusedSimpArgs false
section
variable {H : Type} {enc : TypeId × Value → H} {P : Program} {W : World}
theorem Hj {α : Type} (l : List α) (h : l.length = 2) : ∃ a b, l = [a, b] := by
 match l, h with
 | [a, b], _ => exact ⟨a, b, rfl⟩
end
theorem mY {l : List Int} (h : ∀ n ∈ l, z4 .u8 n) : lL l := fun x hx => by
 have := vt (h x hx); omega
theorem Dt {x : Int} (h : z4 .u8 x) : 0 ≤ x ∧ x ≤ 255 := by have := vt h; omega
section
variable {H : Type} {enc : TypeId × Value → H} {P : Program} {W : World}
theorem sT {S : Nat → Prop} {r : Reach} {base : Nat} {t e n : TypeId} {k : IntKind} {v : Value} {d : DataW H} {p : List MemPlace} (ht : P.underlying t = some (.array 2 e)) (he : P.underlying e = some (.slice n)) (hn : P.underlying n = some (.int k)) (hce : P.cellsOf e = 1) (hcn : P.cellsOf n = 1) (hct : P.cellsOf t = 2) (hS : ∀ b, b < W.heap.size → S b)
  (hv : Value.okWide P W r base t v) (h : DataW.Trod enc P W 0 (fun _ => true) true t v d p) : ∃ (u0 u1 : Value) (l0 l1 : List Int), v = .agg [u0, u1].toArray ∧ (∀ x ∈ l0, z4 k x) ∧ (∀ x ∈ l1, z4 k x) ∧ l0.length ≤ maxLen ∧ l1.length ≤ maxLen ∧ cS S W (.sl 1 (aa k) 0 l0) u0 ∧ cS S W (.sl 1 (aa k) 0 l1) u1 := by
 unfold Value.okWide at hv
 rw [ht] at hv
 obtain ⟨cs, rfl, hs, _⟩ := hv
 obtain ⟨fuel, hf⟩ := h
 obtain ⟨ys, m, _, _, hcl, hl, hel⟩ := DataW.trod_array ht hf
 have hcs : (Value.agg cs).cells.toList = cs.toList := rfl
 rw [hcs] at hcl hel
 rw [hct] at hcl
 obtain ⟨c0, c1, e2⟩ := Hj cs.toList hcl
 rw [e2] at hel
 have h0 := hel 0 (by omega)
 have h1 := hel 1 (by omega)
 rw [List.getElem?_eq_getElem (by omega)] at h0 h1
 simp only [hce, Nat.mul_one, Nat.zero_mul, Nat.one_mul, List.drop_zero, List.drop_succ_cons, List.take_succ_cons, List.take_zero] at h0 h1
 obtain ⟨u0, l0, q0, a0, b0, r0⟩ := gL he hn hcn hS h0
 obtain ⟨u1, l1, q1, a1, b1, r1⟩ := gL he hn hcn hS h1
 simp only [List.cons.injEq, and_true] at q0 q1
 subst q0 q1
 exact ⟨c0, c1, l0, l1, by rw [← e2, Array.toArray_toList], a0, a1, b0, b1, r0, r1⟩
end
end Go.Proofs.Ytckgpflobhpnpaa
