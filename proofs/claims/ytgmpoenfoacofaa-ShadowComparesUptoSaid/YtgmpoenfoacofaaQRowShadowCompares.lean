/-
  ShadowCompares answers true for every input, and leaves its arguments as they were. No condition.
-/
import Derived.Test.YtgmpoenfoacofaaRows
import Derived.Test.YtgmpoenfoacofaaChecked
import Derived.Test.YtgmpoenfoacofaaQShJ
import Derived.Test.YtgmpoenfoacofaaQOpenH
import Derived.Test.YtgmpoenfoacofaaQOpen
namespace Go.Proofs.Ytgmpoenfoacofaa.shadowComparesRow
open Go.ChangeShapes Go.WideShapes Go.ChangeAt Go.RowKit
open Go.ChangeMaps (open_string shut_string)
set_option linter.unusedSimpArgs false
set_option linter.unusedVariables false
theorem own : ownKnob Try.prog.godebug = none := by kernel_rfl
theorem laidOut : laidOutB Try.prog = true := by kernel_rfl
set_option maxRecDepth 100000 in
theorem lifted (os : Os) (started : os.Started) (H : Type) (enc : TypeId × Value → H) (F : Stop.Interp) :
  ReturnsInHanded {} Try.checked os 3 .any ((Rows.OpenSpec.upto Rows.shadowComparesSpec).pre6 enc Try.prog Try.f3 Rows.shadowComparesUptoRow.domain false) (((Rows.OpenSpec.upto Rows.shadowComparesSpec).at F).post enc Try.prog Try.f3 false true false false) := by
 refine returnsInHanded_of_cond (C := Try.checked) (s := Rows.OpenSpec.upto Rows.shadowComparesSpec) (k := Rows.uptoSmall) rfl own started (by kernel_rfl) Try.func3
  (OpenSpec.witness (enc := enc) (C := Try.checked) (s := Rows.OpenSpec.upto Rows.shadowComparesSpec) (k := Rows.uptoSmall) rfl false ⟨#[], #[.slice none 0 0, .slice none 0 0, .agg #[.int .u8 0, .int .u8 0]], []⟩ 8 (by kernel_rfl) (by kernel_rfl) (by kernel_rfl) (x := ([.nil, .nil, .agg [.lit (.int .u8 0), .lit (.int .u8 0)]], [], [])) (by kernel_rfl) rfl (by kernel_rfl)) ?_
 intro W base args ds gs before hval0 hW _ hk _
 have hval : ∀ (j : Nat) t v, Try.f3.params[j]? = some t → args[j]? = some v → Value.okWide Try.prog W .any base t v := hval0
 have hW' := hW
 obtain ⟨p, q, hA0, hV, rfl, hfz, hnd⟩ := hW
 have hA : DataW.TrodAll enc Try.prog W 0 (fun _ => true) true Try.f3.params.toList args.toList ds p := hA0
 rw [Try.params3] at hA hval
 obtain ⟨v0, vs0, d0, ds0, p0, q0, hargs, rfl, rfl, h0, r0⟩ := trodAll_cons hA
 obtain ⟨v1, vs1, d1, ds1, p1, q1, rfl, rfl, rfl, h1, r1⟩ := trodAll_cons r0
 obtain ⟨v2, vs2, d2, ds2, p2, q2, rfl, rfl, rfl, h2, r2⟩ := trodAll_cons r1
 obtain ⟨rfl, rfl, rfl⟩ := trodAll_nil r2
 obtain rfl : args = #[v0, v1, v2] := by cases args; simp_all
 obtain ⟨rfl, rfl⟩ := trodVars_none hV
 have lt0 : ∀ x ∈ p0, x.block < W.heap.size := by obtain ⟨m, hm⟩ := h0; exact DataW.trod_lt m _ _ _ hm
 have lt1 : ∀ x ∈ p1, x.block < W.heap.size := by obtain ⟨m, hm⟩ := h1; exact DataW.trod_lt m _ _ _ hm
 have lt2 : ∀ x ∈ p2, x.block < W.heap.size := by obtain ⟨m, hm⟩ := h2; exact DataW.trod_lt m _ _ _ hm
 have k0 := h0
 have k1 := h1
 have k2 := h2
 have okv0 : Value.okWide Try.prog W .any base 22 v0 := hval 0 22 v0 rfl rfl
 have okv1 : Value.okWide Try.prog W .any base 22 v1 := hval 1 22 v1 rfl rfl
 have okv2 : Value.okWide Try.prog W .any base 23 v2 := hval 2 23 v2 rfl rfl
 clear hA0 hval0 hval
 obtain ⟨fula, hfula⟩ := h0
 obtain ⟨ala, nla, cla, rfl⟩ := okWide_slice Try.underlying22 okv0
 obtain ⟨vla, la, eela, bla, wla, ola⟩ := iA hfula (sd hk (by simp))
 simp only [Value.cells, List.cons.injEq, and_true] at eela
 subst eela
 obtain ⟨fulb, hfulb⟩ := h1
 obtain ⟨alb, nlb, clb, rfl⟩ := okWide_slice Try.underlying22 okv1
 obtain ⟨vlb, lb, eelb, blb, wlb, olb⟩ := iA hfulb (sd hk (by simp))
 simp only [Value.cells, List.cons.injEq, and_true] at eelb
 subst eelb
 obtain ⟨x0, x1, rfl, p0, p1⟩ := nZ (k := .u8) rfl Try.underlying23 Try.underlying5 (by kernel_rfl) (by kernel_rfl) okv2 h2
 have emx : IntKind.u8.max = 255 := rfl
 refine (qT (nY la lb x0 x1 bla wla blb wlb (by omega) (by omega) (by omega) (by omega)) _ W (xc (.v _ _ ola) (.v _ _ olb) (vX (us := [.int .u8 (x0 : Int), .int .u8 (x1 : Int)]) ⟨.v _ _ (.int _ _), .v _ _ (.int _ _), trivial⟩))).mono fun e W' ⟨he, bel⟩ => ?_
 subst he
 exact ⟨_, rfl, _, _, _, [], _, [], hW', trodAll_mk1 (shut_bool Try.underlying4 _), (trodAll_cons_mk (Below.trod laidOut (by kernel_rfl) (of_decide_eq_true (by kernel_rfl)) k0 bel lt0) (trodAll_cons_mk (Below.trod laidOut (by kernel_rfl) (of_decide_eq_true (by kernel_rfl)) k1 bel lt1) (trodAll_cons_mk (Below.trod laidOut (by kernel_rfl) (of_decide_eq_true (by kernel_rfl)) k2 bel lt2) trodAll_mk0))), rfl, bel.frame _, fun h => by cases h⟩
theorem over : Rows.shadowComparesUptoRow.holds Try.pinned (Rows.OpenSpec.upto Rows.shadowComparesSpec) :=
 OpenClaim.holds_of_cond 3 Try.f3 rfl rfl rfl rfl rfl rfl rfl ⟨rfl, rfl, rfl, rfl, rfl⟩ rfl rfl rfl rfl rfl (by kernel_rfl) Try.func3 (by kernel_rfl)
  (of_decide_eq_true (by kernel_rfl)) (by unfold Func.isWrapper; first | (rw [if_pos (by decide +kernel)]; kernel_rfl) | (rw [if_neg (by decide +kernel)]; exact ⟨rfl, rfl⟩))
  (fun os started H enc _ F => lifted os started H enc F)
theorem proved : Rows.ShadowComparesUptoSaid := over
end Go.Proofs.Ytgmpoenfoacofaa.shadowComparesRow
