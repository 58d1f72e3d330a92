/-
  DigestOneChange answers true for every input, and leaves its arguments as they were. No condition.
-/
import Derived.Test.YtjmfaebimgnblaaDigH
import Derived.Test.YtjmfaebimgnblaaOpenB
import Derived.Test.YtjmfaebimgnblaaOpen
namespace Go.Proofs.Ytjmfaebimgnblaa.digestOneChangeRow
open Go.ChangeShapes Go.WideShapes Go.ChangeAt Go.RowKit
open Go.ChangeMaps (open_string shut_string)

theorem own : ownKnob Try.prog.godebug = none := by kernel_rfl
theorem laidOut : laidOutB Try.prog = true := by kernel_rfl

set_option maxRecDepth 100000 in
theorem lifted (os : Os) (started : os.Started) (H : Type) (enc : TypeId × Value → H) :
    ReturnsInHanded {} Try.checked os 14 .any (Rows.digestOneChangeSpec.pre6 enc Try.prog Try.f14 Rows.digestOneChangeRow.domain false) (Rows.digestOneChangeSpec.post enc Try.prog Try.f14 false true false false) := by
  refine returnsInHanded_of_change (C := Try.checked) own started (by kernel_rfl) Try.func14
    (ChangeSpec.witness6 (enc := enc) (C := Try.checked) false ⟨#[], #[.slice none 0 0, .slice none 0 0, .agg #[.int .u64 0, .int .u64 0, .int .u64 0, .int .u64 0]], []⟩ 8 (by kernel_rfl) (by kernel_rfl) (by kernel_rfl) (by kernel_rfl)) ?_
  intro W base args ds gs before hval0 hW hcnd _
  have hval : ∀ (j : Nat) t v, Try.f14.params[j]? = some t → args[j]? = some v → Value.okWide Try.prog W .any base t v := hval0
  have hW' := hW
  obtain ⟨p, q, hA0, hV, rfl, hfz, hnd⟩ := hW
  have hA : DataW.TrodAll enc Try.prog W 0 (fun _ => true) true Try.f14.params.toList args.toList ds p := hA0
  rw [Try.params14] at hA hval
  obtain ⟨v0, vs0, d0, ds0, p0, q0, hargs, rfl, rfl, h0, r0⟩ := trodAll_cons hA
  obtain ⟨v1, vs1, d1, ds1, p1, q1, rfl, rfl, rfl, h1, r1⟩ := trodAll_cons r0
  obtain ⟨v2, vs2, d2, ds2, p2, q2, rfl, rfl, rfl, h2, r2⟩ := trodAll_cons r1
  obtain ⟨rfl, rfl, rfl⟩ := trodAll_nil r2
  obtain rfl : args = #[v0, v1, v2] := by cases args; simp_all
  obtain ⟨rfl, rfl⟩ := trodVars_none hV
  have lt0 : ∀ x ∈ p0, x.block < W.heap.size := by obtain ⟨m, hm⟩ := h0; exact DataW.trod_lt m _ _ _ hm
  have lt1 : ∀ x ∈ p1, x.block < W.heap.size := by obtain ⟨m, hm⟩ := h1; exact DataW.trod_lt m _ _ _ hm
  have lt2 : ∀ x ∈ p2, x.block < W.heap.size := by obtain ⟨m, hm⟩ := h2; exact DataW.trod_lt m _ _ _ hm
  have k0 := h0
  have k1 := h1
  have k2 := h2
  have okv0 : Value.okWide Try.prog W .any base 52 v0 := hval 0 52 v0 rfl rfl
  have okv1 : Value.okWide Try.prog W .any base 47 v1 := hval 1 47 v1 rfl rfl
  have okv2 : Value.okWide Try.prog W .any base 78 v2 := hval 2 78 v2 rfl rfl
  clear hA0 hval0 hval
  obtain ⟨l, gl, nl, ol⟩ := rep_ints_of_trod (k := .i64) (S := fun b => b < W.heap.size) Try.underlying52 Try.underlying3 (by kernel_rfl) (fun _ h => h) okv0 h0
  obtain ⟨b, gb, nb, ob⟩ := rep_ints_of_trod (k := .u8) (S := fun b => b < W.heap.size) Try.underlying47 Try.underlying5 (by kernel_rfl) (fun _ h => h) okv1 h1
  obtain ⟨z0, z1, z2, z3, rfl, q0, q1, q2, q3⟩ := arr4_of_trod (k := .u64) rfl Try.underlying78 Try.underlying33 (by kernel_rfl) (by kernel_rfl) okv2 h2
  have emx : IntKind.u64.max = 18446744073709551615 := rfl
  refine (calls_pure (onechange_law l b z0 z1 z2 z3 (by simpa [maxLen] using nl) (fun x hx => i64_of_fits (gl x hx)) (by simpa [maxLen] using nb) (fun x hx => u8_of_fits (gb x hx)) (by omega) (by omega) (by omega) (by omega)) _ W (reps3D (.v _ _ ol) (.v _ _ ob) (rep_agg4 _ _ _ _))).mono fun e W' ⟨he, bel⟩ => ?_
  subst he
  exact ⟨_, rfl, _, _, _, [], _, [], hW', trodAll_mk1 (shut_bool Try.underlying4 _), (trodAll_cons_mk (Below.trod laidOut (by kernel_rfl) (of_decide_eq_true (by kernel_rfl)) k0 bel lt0) (trodAll_cons_mk (Below.trod laidOut (by kernel_rfl) (of_decide_eq_true (by kernel_rfl)) k1 bel lt1) (trodAll_cons_mk (Below.trod laidOut (by kernel_rfl) (of_decide_eq_true (by kernel_rfl)) k2 bel lt2) trodAll_mk0))), rfl, bel.frame _, fun h => by cases h⟩

theorem over : Rows.digestOneChangeRow.holds Try.pinned (OpenSpec.ofChange Rows.digestOneChangeSpec) :=
  OpenClaim.holds_of_wide 14 Try.f14 rfl rfl rfl rfl rfl rfl rfl ⟨rfl, rfl, rfl, rfl, rfl⟩ rfl rfl rfl rfl rfl (by kernel_rfl) Try.func14 (by kernel_rfl)
    (of_decide_eq_true (by kernel_rfl)) (by unfold Func.isWrapper; first | (rw [if_pos (by decide +kernel)]; kernel_rfl) | (rw [if_neg (by decide +kernel)]; exact ⟨rfl, rfl⟩))
    (fun os started H enc _ => lifted os started H enc)

theorem proved : Rows.DigestOneChangeSaid := over

end Go.Proofs.Ytjmfaebimgnblaa.digestOneChangeRow
