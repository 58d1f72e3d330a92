/-
  ShadowFeeds answers true for every input, and leaves its arguments as they were. No condition.
-/
import Derived.Test.YtgmpoenfoacofaaRows
import Derived.Test.YtgmpoenfoacofaaChecked
import Derived.Test.YtgmpoenfoacofaaQShT
namespace Go.Proofs.Ytgmpoenfoacofaa.shadowFeedsRow
open Go.ChangeShapes Go.WideShapes Go.ChangeAt Go.RowKit
open Go.ChangeMaps (open_string shut_string)
set_option linter.unusedSimpArgs false
set_option linter.unusedVariables false
theorem own : ownKnob Try.prog.godebug = none := by kernel_rfl
theorem laidOut : laidOutB Try.prog = true := by kernel_rfl
set_option maxRecDepth 100000 in
theorem lifted (os : Os) (started : os.Started) (H : Type) (enc : TypeId × Value → H) :
  ReturnsInHanded {} Try.checked os 4 .any (Rows.shadowFeedsSpec.pre6 enc Try.prog Try.f4 Rows.shadowFeedsRow.domain false) (Rows.shadowFeedsSpec.post enc Try.prog Try.f4 false true false false) := by
 refine returnsInHanded_of_change (C := Try.checked) own started (by kernel_rfl) Try.func4
  (ChangeSpec.witness6 (enc := enc) (C := Try.checked) false ⟨#[], #[.agg #[.int .u8 0, .slice none 0 0, .int .u8 0, .slice none 0 0, .slice none 0 0, .slice none 0 0], .int .u8 0, .slice none 0 0], []⟩ 8 (by kernel_rfl) (by kernel_rfl) (by kernel_rfl) (by kernel_rfl)) ?_
 intro W base args ds gs before hval0 hW hcnd _
 have hval : ∀ (j : Nat) t v, Try.f4.params[j]? = some t → args[j]? = some v → Value.okWide Try.prog W .any base t v := hval0
 have hW' := hW
 obtain ⟨p, q, hA0, hV, rfl, hfz, hnd⟩ := hW
 have hA : DataW.TrodAll enc Try.prog W 0 (fun _ => true) true Try.f4.params.toList args.toList ds p := hA0
 rw [Try.params4] at hA hval
 obtain ⟨v0, vs0, d0, ds0, p0, q0, hargs, rfl, rfl, h0, r0⟩ := trodAll_cons hA
 obtain ⟨v1, vs1, d1, ds1, p1, q1, rfl, rfl, rfl, h1, r1⟩ := trodAll_cons r0
 obtain ⟨v2, vs2, d2, ds2, p2, q2, rfl, rfl, rfl, h2, r2⟩ := trodAll_cons r1
 obtain ⟨rfl, rfl, rfl⟩ := trodAll_nil r2
 obtain rfl : args = #[v0, v1, v2] := by cases args; simp_all
 obtain ⟨rfl, rfl⟩ := trodVars_none hV
 have lt0 : ∀ x ∈ p0, x.block < W.heap.size := by obtain ⟨m, hm⟩ := h0; exact DataW.trod_lt m _ _ _ hm
 have lt1 : ∀ x ∈ p1, x.block < W.heap.size := by obtain ⟨m, hm⟩ := h1; exact DataW.trod_lt m _ _ _ hm
 have lt2 : ∀ x ∈ p2, x.block < W.heap.size := by obtain ⟨m, hm⟩ := h2; exact DataW.trod_lt m _ _ _ hm
 have k0 := h0
 have k1 := h1
 have k2 := h2
 have okv0 : Value.okWide Try.prog W .any base 37 v0 := hval 0 37 v0 rfl rfl
 have okv1 : Value.okWide Try.prog W .any base 5 v1 := hval 1 5 v1 rfl rfl
 have okv2 : Value.okWide Try.prog W .any base 38 v2 := hval 2 38 v2 rfl rfl
 clear hA0 hval0 hval
 have e8 : Try.prog.cellsOf 5 = 1 := by kernel_rfl
 have eU : Try.prog.cellsOf 33 = 1 := by kernel_rfl
 have eR : Try.prog.cellsOf 35 = 2 := by kernel_rfl
 obtain ⟨cs, rfl, hcs⟩ := tp Try.underlying37 (show Try.prog.cellsOf 37 = 6 by kernel_rfl) okv0
 obtain ⟨c0, c1, c2, c3, c4, c5, rfl⟩ := IT cs hcs
 obtain ⟨fuel, hf⟩ := h0
 obtain ⟨m, hfld⟩ := sY Try.underlying37 hf
 have hcl : (Value.agg [c0, c1, c2, c3, c4, c5].toArray).cells.toList = [c0, c1, c2, c3, c4, c5] := rfl
 rw [hcl] at hfld
 obtain ⟨y0, f0⟩ := hfld 0 _ rfl
 obtain ⟨y1, f1⟩ := hfld 1 _ rfl
 obtain ⟨y2, f2⟩ := hfld 2 _ rfl
 obtain ⟨y3, f3⟩ := hfld 3 _ rfl
 simp only [List.getElem_toArray, List.getElem_cons_zero, List.getElem_cons_succ, eR, eU, e8, List.drop_zero, List.drop_succ_cons, MJ, List.take_zero] at f0 f1 f2 f3
 obtain ⟨m2a, hfl2a⟩ := sY Try.underlying35 f0
 obtain ⟨z0a, q0a⟩ := hfl2a 0 _ rfl
 obtain ⟨z1a, q1a⟩ := hfl2a 1 _ rfl
 simp only [List.getElem_toArray, List.getElem_cons_zero, List.getElem_cons_succ, eR, eU, e8, List.drop_zero, List.drop_succ_cons, MJ, List.take_zero] at q0a q1a
 obtain ⟨zsa, ezsa, -, wzsa⟩ := DataW.trod_int Try.underlying5 q0a
 simp only [LM, MQ] at ezsa
 subst ezsa
 obtain ⟨m2b, hfl2b⟩ := sY Try.underlying35 f1
 obtain ⟨z0b, q0b⟩ := hfl2b 0 _ rfl
 obtain ⟨z1b, q1b⟩ := hfl2b 1 _ rfl
 simp only [List.getElem_toArray, List.getElem_cons_zero, List.getElem_cons_succ, eR, eU, e8, List.drop_zero, List.drop_succ_cons, MJ, List.take_zero] at q0b q1b
 obtain ⟨zsb, ezsb, -, wzsb⟩ := DataW.trod_int Try.underlying5 q0b
 simp only [LM, MQ] at ezsb
 subst ezsb
 obtain ⟨vba, zzba, eba, gba, nba, oba⟩ := fB (k := .u8) (S := fun b => b < W.heap.size) Try.underlying33 Try.underlying5 (by kernel_rfl) (fun _ h => h) q1a
 simp only [LM, MQ] at eba
 subst eba
 obtain ⟨vbb, zzbb, ebb, gbb, nbb, obb⟩ := fB (k := .u8) (S := fun b => b < W.heap.size) Try.underlying33 Try.underlying5 (by kernel_rfl) (fun _ h => h) q1b
 simp only [LM, MQ] at ebb
 subst ebb
 obtain ⟨vd, zzd, ed, gd, nd, od⟩ := fB (k := .u8) (S := fun b => b < W.heap.size) Try.underlying33 Try.underlying5 (by kernel_rfl) (fun _ h => h) f2
 simp only [LM, MQ] at ed
 subst ed
 obtain ⟨vl, zzl, el, gl, nl, ol⟩ := fB (k := .u8) (S := fun b => b < W.heap.size) Try.underlying33 Try.underlying5 (by kernel_rfl) (fun _ h => h) f3
 simp only [LM, MQ] at el
 subst el
 obtain ⟨zk, rfl, bzk⟩ := F7 Try.underlying5 okv1 h1
 obtain ⟨ws, gws, nws, ows⟩ := pu (k := .i64) (S := fun b => b < W.heap.size) Try.underlying38 Try.underlying3 (by kernel_rfl) (fun _ h => h) okv2 h2
 refine (zf (ze zsa zzba zsb zzbb zzd zzl zk ws (A2 wzsa).1 (A2 wzsa).2 (wa gba) (A2 wzsb).1 (A2 wzsb).2 (wa gbb) (wa gd) (wa gl) (Kc nl) (by omega) (by omega) (Kc nws)) _ W (Ho (F8 (us := [.int .u8 zsa, _, .int .u8 zsb, _, _, _]) ⟨.v _ _ (.int _ _), .v _ _ oba, .v _ _ (.int _ _), .v _ _ obb, .v _ _ od, .v _ _ ol, trivial⟩) (.v _ _ (.int _ _)) (.v _ _ ows))).mono fun e W' ⟨he, bel⟩ => ?_
 subst he
 exact ⟨_, rfl, _, _, _, [], _, [], hW', trodAll_mk1 (shut_bool Try.underlying4 _), (trodAll_cons_mk (Below.trod laidOut (by kernel_rfl) (L8 (by kernel_rfl)) k0 bel lt0) (trodAll_cons_mk (Below.trod laidOut (by kernel_rfl) (L8 (by kernel_rfl)) k1 bel lt1) (trodAll_cons_mk (Below.trod laidOut (by kernel_rfl) (L8 (by kernel_rfl)) k2 bel lt2) trodAll_mk0))), rfl, bel.frame _, fun h => by cases h⟩
theorem over : Rows.shadowFeedsRow.holds Try.pinned (OpenSpec.ofChange Rows.shadowFeedsSpec) :=
 OpenClaim.holds_of_wide 4 Try.f4 rfl rfl rfl rfl rfl rfl rfl ⟨rfl, rfl, rfl, rfl, rfl⟩ rfl rfl rfl rfl rfl (by kernel_rfl) Try.func4 (by kernel_rfl)
  (L8 (by kernel_rfl)) (by unfold Func.isWrapper; first | (rw [KT (by decide +kernel)]; kernel_rfl) | (rw [KK (by decide +kernel)]; exact ⟨rfl, rfl⟩))
  (fun os started H enc _ => lifted os started H enc)
theorem proved : Rows.ShadowFeedsSaid := over
end Go.Proofs.Ytgmpoenfoacofaa.shadowFeedsRow
