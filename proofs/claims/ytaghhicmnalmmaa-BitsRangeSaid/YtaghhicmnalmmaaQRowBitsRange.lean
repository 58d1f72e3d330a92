/-
  BitsRange answers true for every input, and leaves its arguments as they were. No condition.
-/
import Derived.Test.YtaghhicmnalmmaaRows
import Derived.Test.YtaghhicmnalmmaaChecked
import Derived.Test.YtaghhicmnalmmaaQBjR
import Derived.Test.YtaghhicmnalmmaaQOpenG
namespace Go.Proofs.Ytaghhicmnalmmaa.bitsRangeRow
open Go.ChangeShapes Go.WideShapes Go.ChangeAt Go.RowKit
open Go.ChangeMaps (open_string shut_string)
set_option linter.unusedSimpArgs false
set_option linter.unusedVariables false
theorem own : ownKnob Try.prog.godebug = none := by kernel_rfl
theorem laidOut : laidOutB Try.prog = true := by kernel_rfl
theorem list5 {α : Type} (l : List α) (h : l.length = 5) : ∃ a b c d e, l = [a, b, c, d, e] := by
 match l, h with
 | [a, b, c, d, e], _ => exact ⟨a, b, c, d, e, rfl⟩
set_option maxRecDepth 100000 in
theorem lifted (os : Os) (started : os.Started) (H : Type) (enc : TypeId × Value → H) :
  ReturnsInHanded {} Try.checked os 4 .any (Rows.bitsRangeSpec.pre6 enc Try.prog Try.f4 Rows.bitsRangeRow.domain false) (Rows.bitsRangeSpec.post enc Try.prog Try.f4 false true false false) := by
 refine returnsInHanded_of_change (C := Try.checked) own started (by kernel_rfl) Try.func4
  (ChangeSpec.witness6 (enc := enc) (C := Try.checked) false ⟨#[], #[.int .u8 0, .agg #[.int .i64 0, .int .i64 0, .int .i64 0], .agg #[.int .i64 0, .int .i64 0, .int .i64 0, .int .i64 0, .int .i64 0]], []⟩ 8 (by kernel_rfl) (by kernel_rfl) (by kernel_rfl) (by kernel_rfl)) ?_
 intro W base args ds gs before hval0 hW hcnd _
 have hval : ∀ (j : Nat) t v, Try.f4.params[j]? = some t → args[j]? = some v → Value.okWide Try.prog W .any base t v := hval0
 have hW' := hW
 obtain ⟨p, q, hA0, hV, rfl, hfz, hnd⟩ := hW
 have hA : DataW.TrodAll enc Try.prog W 0 (fun _ => true) true Try.f4.params.toList args.toList ds p := hA0
 rw [Try.params4] at hA hval
 obtain ⟨v0, vs0, d0, ds0, p0, q0, hargs, rfl, rfl, h0, r0⟩ := trodAll_cons hA
 obtain ⟨v1, vs1, d1, ds1, p1, q1, rfl, rfl, rfl, h1, r1⟩ := trodAll_cons r0
 obtain ⟨v2, vs2, d2, ds2, p2, q2, rfl, rfl, rfl, h2, r2⟩ := trodAll_cons r1
 obtain ⟨rfl, rfl, rfl⟩ := trodAll_nil r2
 obtain rfl : args = #[v0, v1, v2] := by cases args; simp_all
 obtain ⟨rfl, rfl⟩ := trodVars_none hV
 have lt0 : ∀ x ∈ p0, x.block < W.heap.size := by obtain ⟨m, hm⟩ := h0; exact DataW.trod_lt m _ _ _ hm
 have lt1 : ∀ x ∈ p1, x.block < W.heap.size := by obtain ⟨m, hm⟩ := h1; exact DataW.trod_lt m _ _ _ hm
 have lt2 : ∀ x ∈ p2, x.block < W.heap.size := by obtain ⟨m, hm⟩ := h2; exact DataW.trod_lt m _ _ _ hm
 have k0 := h0
 have k1 := h1
 have k2 := h2
 have okv0 : Value.okWide Try.prog W .any base 5 v0 := hval 0 5 v0 rfl rfl
 have okv1 : Value.okWide Try.prog W .any base 42 v1 := hval 1 42 v1 rfl rfl
 have okv2 : Value.okWide Try.prog W .any base 43 v2 := hval 2 43 v2 rfl rfl
 clear hA0 hval0 hval
 obtain ⟨a, rfl, ba⟩ := qw Try.underlying5 okv0 h0
 obtain ⟨cs1, rfl, hcs1⟩ := gu Try.underlying42 (show Try.prog.cellsOf 42 = 3 by kernel_rfl) okv1
 obtain ⟨fu1, hf1⟩ := h1
 rw [show (Value.agg cs1.toArray).cells.toList = cs1 from by simp [Value.cells]] at hf1
 obtain ⟨xs1, hx1, ex1, -⟩ := im (k := .i64) Try.underlying42 Try.underlying3 (by kernel_rfl) (by kernel_rfl) hf1
 obtain ⟨w0, w1, w2, rfl⟩ := se xs1 hx1
 simp only [List.map_cons, List.map_nil] at ex1
 subst ex1
 obtain ⟨cs2, rfl, hcs2⟩ := gu Try.underlying43 (show Try.prog.cellsOf 43 = 5 by kernel_rfl) okv2
 obtain ⟨fu2, hf2⟩ := h2
 rw [show (Value.agg cs2.toArray).cells.toList = cs2 from by simp [Value.cells]] at hf2
 obtain ⟨xs2, hx2, ex2, -⟩ := im (k := .i64) Try.underlying43 Try.underlying3 (by kernel_rfl) (by kernel_rfl) hf2
 obtain ⟨z0, z1, z2, z3, z4, rfl⟩ := list5 xs2 hx2
 simp only [List.map_cons, List.map_nil] at ex2
 subst ex2
 refine (mY (oG a w0 w1 w2 z0 z1 z2 z3 z4 (by omega) (by omega)) _ W (rt (.v _ _ (.int _ _)) (nJ (us := [.int .i64 w0, .int .i64 w1, .int .i64 w2]) ⟨.v _ _ (.int _ _), .v _ _ (.int _ _), .v _ _ (.int _ _), trivial⟩) (nJ (us := [.int .i64 z0, .int .i64 z1, .int .i64 z2, .int .i64 z3, .int .i64 z4]) ⟨.v _ _ (.int _ _), .v _ _ (.int _ _), .v _ _ (.int _ _), .v _ _ (.int _ _), .v _ _ (.int _ _), trivial⟩))).mono fun e W' ⟨he, bel⟩ => ?_
 subst he
 exact ⟨_, rfl, _, _, _, [], _, [], hW', trodAll_mk1 (shut_bool Try.underlying4 _), (trodAll_cons_mk (Below.trod laidOut (by kernel_rfl) (of_decide_eq_true (by kernel_rfl)) k0 bel lt0) (trodAll_cons_mk (Below.trod laidOut (by kernel_rfl) (of_decide_eq_true (by kernel_rfl)) k1 bel lt1) (trodAll_cons_mk (Below.trod laidOut (by kernel_rfl) (of_decide_eq_true (by kernel_rfl)) k2 bel lt2) trodAll_mk0))), rfl, bel.frame _, fun h => by cases h⟩
theorem over : Rows.bitsRangeRow.holds Try.pinned (OpenSpec.ofChange Rows.bitsRangeSpec) :=
 OpenClaim.holds_of_wide 4 Try.f4 rfl rfl rfl rfl rfl rfl rfl ⟨rfl, rfl, rfl, rfl, rfl⟩ rfl rfl rfl rfl rfl (by kernel_rfl) Try.func4 (by kernel_rfl)
  (of_decide_eq_true (by kernel_rfl)) (by unfold Func.isWrapper; first | (rw [if_pos (by decide +kernel)]; kernel_rfl) | (rw [if_neg (by decide +kernel)]; exact ⟨rfl, rfl⟩))
  (fun os started H enc _ => lifted os started H enc)
theorem proved : Rows.BitsRangeSaid := over
end Go.Proofs.Ytaghhicmnalmmaa.bitsRangeRow
