/-
  BitsBitwise answers true for every input, and leaves its arguments as they were. No condition.
-/
import Derived.Test.YtaghhicmnalmmaaRows
import Derived.Test.YtaghhicmnalmmaaChecked
import Derived.Test.YtaghhicmnalmmaaBitN
import Derived.Test.YtaghhicmnalmmaaOpenB
import Derived.Test.YtaghhicmnalmmaaOpen
namespace Go.Proofs.Ytaghhicmnalmmaa.bitsBitwiseRow
open Go.ChangeShapes Go.WideShapes Go.ChangeAt Go.RowKit
open Go.ChangeMaps (open_string shut_string)

theorem own : ownKnob Try.prog.godebug = none := by kernel_rfl
theorem laidOut : laidOutB Try.prog = true := by kernel_rfl

set_option maxRecDepth 100000 in
theorem lifted (os : Os) (started : os.Started) (H : Type) (enc : TypeId × Value → H) :
    ReturnsInHanded {} Try.checked os 8 .any (Rows.bitsBitwiseSpec.pre6 enc Try.prog Try.f8 Rows.bitsBitwiseRow.domain false) (Rows.bitsBitwiseSpec.post enc Try.prog Try.f8 false true false false) := by
  refine returnsInHanded_of_change (C := Try.checked) own started (by kernel_rfl) Try.func8
    (ChangeSpec.witness6 (enc := enc) (C := Try.checked) false ⟨#[], #[.int .u8 0, .int .u8 0, .agg #[.int .u8 0, .int .u8 0]], []⟩ 8 (by kernel_rfl) (by kernel_rfl) (by kernel_rfl) (by kernel_rfl)) ?_
  intro W base args ds gs before hval0 hW hcnd _
  have hval : ∀ (j : Nat) t v, Try.f8.params[j]? = some t → args[j]? = some v → Value.okWide Try.prog W .any base t v := hval0
  have hW' := hW
  obtain ⟨p, q, hA0, hV, rfl, hfz, hnd⟩ := hW
  have hA : DataW.TrodAll enc Try.prog W 0 (fun _ => true) true Try.f8.params.toList args.toList ds p := hA0
  rw [Try.params8] at hA hval
  obtain ⟨v0, vs0, d0, ds0, p0, q0, hargs, rfl, rfl, h0, r0⟩ := trodAll_cons hA
  obtain ⟨v1, vs1, d1, ds1, p1, q1, rfl, rfl, rfl, h1, r1⟩ := trodAll_cons r0
  obtain ⟨v2, vs2, d2, ds2, p2, q2, rfl, rfl, rfl, h2, r2⟩ := trodAll_cons r1
  obtain ⟨rfl, rfl, rfl⟩ := trodAll_nil r2
  obtain rfl : args = #[v0, v1, v2] := by cases args; simp_all
  obtain ⟨rfl, rfl⟩ := trodVars_none hV
  have lt0 : ∀ x ∈ p0, x.block < W.heap.size := by obtain ⟨m, hm⟩ := h0; exact DataW.trod_lt m _ _ _ hm
  have lt1 : ∀ x ∈ p1, x.block < W.heap.size := by obtain ⟨m, hm⟩ := h1; exact DataW.trod_lt m _ _ _ hm
  have lt2 : ∀ x ∈ p2, x.block < W.heap.size := by obtain ⟨m, hm⟩ := h2; exact DataW.trod_lt m _ _ _ hm
  have k0 := h0
  have k1 := h1
  have k2 := h2
  have okv0 : Value.okWide Try.prog W .any base 5 v0 := hval 0 5 v0 rfl rfl
  have okv1 : Value.okWide Try.prog W .any base 5 v1 := hval 1 5 v1 rfl rfl
  have okv2 : Value.okWide Try.prog W .any base 53 v2 := hval 2 53 v2 rfl rfl
  clear hA0 hval0 hval
  obtain ⟨a, rfl, ba⟩ := open_u8 Try.underlying5 okv0 h0
  obtain ⟨b, rfl, bb⟩ := open_u8 Try.underlying5 okv1 h1
  obtain ⟨x0, x1, rfl, c0, c1⟩ := arr2_of_trod (k := .u8) rfl Try.underlying53 Try.underlying5 (by kernel_rfl) (by kernel_rfl) okv2 h2
  have emx : IntKind.u8.max = 255 := rfl
  refine (calls_pure (bitwise_law a b x0 x1 ba bb (by omega) (by omega)) _ W (reps3D (.v _ _ (.int _ _)) (.v _ _ (.int _ _)) (rep_agg (us := [.int .u8 (x0 : Int), .int .u8 (x1 : Int)]) ⟨.v _ _ (.int _ _), .v _ _ (.int _ _), trivial⟩))).mono fun e W' ⟨he, bel⟩ => ?_
  subst he
  exact ⟨_, rfl, _, _, _, [], _, [], hW', trodAll_mk1 (shut_bool Try.underlying4 _), (trodAll_cons_mk (Below.trod laidOut (by kernel_rfl) (of_decide_eq_true (by kernel_rfl)) k0 bel lt0) (trodAll_cons_mk (Below.trod laidOut (by kernel_rfl) (of_decide_eq_true (by kernel_rfl)) k1 bel lt1) (trodAll_cons_mk (Below.trod laidOut (by kernel_rfl) (of_decide_eq_true (by kernel_rfl)) k2 bel lt2) trodAll_mk0))), rfl, bel.frame _, fun h => by cases h⟩

theorem over : Rows.bitsBitwiseRow.holds Try.pinned (OpenSpec.ofChange Rows.bitsBitwiseSpec) :=
  OpenClaim.holds_of_wide 8 Try.f8 rfl rfl rfl rfl rfl rfl rfl ⟨rfl, rfl, rfl, rfl, rfl⟩ rfl rfl rfl rfl rfl (by kernel_rfl) Try.func8 (by kernel_rfl)
    (of_decide_eq_true (by kernel_rfl)) (by unfold Func.isWrapper; first | (rw [if_pos (by decide +kernel)]; kernel_rfl) | (rw [if_neg (by decide +kernel)]; exact ⟨rfl, rfl⟩))
    (fun os started H enc _ => lifted os started H enc)

theorem proved : Rows.BitsBitwiseSaid := over

end Go.Proofs.Ytaghhicmnalmmaa.bitsBitwiseRow
