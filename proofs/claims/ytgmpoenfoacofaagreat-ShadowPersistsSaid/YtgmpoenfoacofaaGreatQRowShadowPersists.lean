/-
  ShadowPersists answers true for every input, and leaves its arguments as they were. No condition.
-/
import Derived.Test.YtgmpoenfoacofaaGreatRows
import Derived.Test.YtgmpoenfoacofaaGreatChecked
import Derived.Test.YtgmpoenfoacofaaGreatQShI
import Derived.Test.YtgmpoenfoacofaaGreatQOpenG
import Derived.ProofKit
import Derived.OpenShut
import Derived.ShutString
import Derived.ChangeOld
namespace Go.Proofs.YtgmpoenfoacofaaGreat.shadowPersistsRow
open Go.ChangeShapes Go.WideShapes Go.ChangeAt Go.RowKit
open Go.ChangeMaps (open_string shut_string)
set_option linter.unusedSimpArgs false
set_option linter.unusedVariables false
theorem own : ownKnob Tryz.prog.godebug = none := by kernel_rfl
theorem laidOut : laidOutB Tryz.prog = true := by kernel_rfl
set_option maxRecDepth 100000 in
theorem lifted (os : Os) (started : os.Started) (H : Type) (enc : TypeId × Value → H) :
  ReturnsInHanded {} Tryz.checked os 5 .any (Rows.shadowPersistsSpec.pre6 enc Tryz.prog Tryz.f5 Rows.shadowPersistsRow.domain false) (Rows.shadowPersistsSpec.post enc Tryz.prog Tryz.f5 false true false false) := by
 refine returnsInHanded_of_change (C := Tryz.checked) own started (by kernel_rfl) Tryz.func5
  (ChangeSpec.witness6 (enc := enc) (C := Tryz.checked) false ⟨#[], #[.agg #[.int .u8 0, .slice none 0 0, .int .u8 0, .slice none 0 0, .slice none 0 0, .slice none 0 0], .slice none 0 0, .slice none 0 0], []⟩ 8 (by kernel_rfl) (by kernel_rfl) (by kernel_rfl) (by kernel_rfl)) ?_
 intro W base args ds gs before hval0 hW hcnd _
 have hval : ∀ (j : Nat) t v, Tryz.f5.params[j]? = some t → args[j]? = some v → Value.okWide Tryz.prog W .any base t v := hval0
 have hW' := hW
 obtain ⟨p, q, hA0, hV, rfl, hfz, hnd⟩ := hW
 have hA : DataW.TrodAll enc Tryz.prog W 0 (fun _ => true) true Tryz.f5.params.toList args.toList ds p := hA0
 rw [Tryz.params5] at hA hval
 obtain ⟨v0, vs0, d0, ds0, p0, q0, hargs, rfl, rfl, h0, r0⟩ := trodAll_cons hA
 obtain ⟨v1, vs1, d1, ds1, p1, q1, rfl, rfl, rfl, h1, r1⟩ := trodAll_cons r0
 obtain ⟨v2, vs2, d2, ds2, p2, q2, rfl, rfl, rfl, h2, r2⟩ := trodAll_cons r1
 obtain ⟨rfl, rfl, rfl⟩ := trodAll_nil r2
 obtain rfl : args = #[v0, v1, v2] := by cases args; simp_all
 obtain ⟨rfl, rfl⟩ := trodVars_none hV
 have lt0 : ∀ x ∈ p0, x.block < W.heap.size := by obtain ⟨m, hm⟩ := h0; exact DataW.trod_lt m _ _ _ hm
 have lt1 : ∀ x ∈ p1, x.block < W.heap.size := by obtain ⟨m, hm⟩ := h1; exact DataW.trod_lt m _ _ _ hm
 have lt2 : ∀ x ∈ p2, x.block < W.heap.size := by obtain ⟨m, hm⟩ := h2; exact DataW.trod_lt m _ _ _ hm
 have k0 := h0
 have k1 := h1
 have k2 := h2
 have okv0 : Value.okWide Tryz.prog W .any base 26 v0 := hval 0 26 v0 rfl rfl
 have okv1 : Value.okWide Tryz.prog W .any base 22 v1 := hval 1 22 v1 rfl rfl
 have okv2 : Value.okWide Tryz.prog W .any base 22 v2 := hval 2 22 v2 rfl rfl
 clear hA0 hval0 hval
 have e8 : Tryz.prog.cellsOf 5 = 1 := by kernel_rfl
 have eU : Tryz.prog.cellsOf 22 = 1 := by kernel_rfl
 have eR : Tryz.prog.cellsOf 24 = 2 := by kernel_rfl
 obtain ⟨cs, rfl, hcs⟩ := jJ Tryz.underlying26 (show Tryz.prog.cellsOf 26 = 6 by kernel_rfl) okv0
 obtain ⟨c0, c1, c2, c3, c4, c5, rfl⟩ := JI cs hcs
 obtain ⟨fuel, hf⟩ := h0
 obtain ⟨m, hfld⟩ := kr Tryz.underlying26 hf
 have hcl : (Value.agg [c0, c1, c2, c3, c4, c5].toArray).cells.toList = [c0, c1, c2, c3, c4, c5] := rfl
 rw [hcl] at hfld
 obtain ⟨y0, f0⟩ := hfld 0 _ rfl
 simp only [List.getElem_toArray, List.getElem_cons_zero, List.getElem_cons_succ, eR, eU, e8, List.drop_zero, List.drop_succ_cons, List.take_succ_cons, List.take_zero] at f0
 obtain ⟨y1, f1⟩ := hfld 1 _ rfl
 simp only [List.getElem_toArray, List.getElem_cons_zero, List.getElem_cons_succ, eR, eU, e8, List.drop_zero, List.drop_succ_cons, List.take_succ_cons, List.take_zero] at f1
 obtain ⟨y2, f2⟩ := hfld 2 _ rfl
 simp only [List.getElem_toArray, List.getElem_cons_zero, List.getElem_cons_succ, eR, eU, e8, List.drop_zero, List.drop_succ_cons, List.take_succ_cons, List.take_zero] at f2
 obtain ⟨y3, f3⟩ := hfld 3 _ rfl
 simp only [List.getElem_toArray, List.getElem_cons_zero, List.getElem_cons_succ, eR, eU, e8, List.drop_zero, List.drop_succ_cons, List.take_succ_cons, List.take_zero] at f3
 obtain ⟨m2a, hfl2a⟩ := kr Tryz.underlying24 f0
 obtain ⟨z0a, q0a⟩ := hfl2a 0 _ rfl
 simp only [List.getElem_toArray, List.getElem_cons_zero, List.getElem_cons_succ, eR, eU, e8, List.drop_zero, List.drop_succ_cons, List.take_succ_cons, List.take_zero] at q0a
 obtain ⟨z1a, q1a⟩ := hfl2a 1 _ rfl
 simp only [List.getElem_toArray, List.getElem_cons_zero, List.getElem_cons_succ, eR, eU, e8, List.drop_zero, List.drop_succ_cons, List.take_succ_cons, List.take_zero] at q1a
 obtain ⟨zsa, ezsa, -, wzsa⟩ := DataW.trod_int Tryz.underlying5 q0a
 simp only [List.cons.injEq, and_true] at ezsa
 subst ezsa
 obtain ⟨m2b, hfl2b⟩ := kr Tryz.underlying24 f1
 obtain ⟨z0b, q0b⟩ := hfl2b 0 _ rfl
 simp only [List.getElem_toArray, List.getElem_cons_zero, List.getElem_cons_succ, eR, eU, e8, List.drop_zero, List.drop_succ_cons, List.take_succ_cons, List.take_zero] at q0b
 obtain ⟨z1b, q1b⟩ := hfl2b 1 _ rfl
 simp only [List.getElem_toArray, List.getElem_cons_zero, List.getElem_cons_succ, eR, eU, e8, List.drop_zero, List.drop_succ_cons, List.take_succ_cons, List.take_zero] at q1b
 obtain ⟨zsb, ezsb, -, wzsb⟩ := DataW.trod_int Tryz.underlying5 q0b
 simp only [List.cons.injEq, and_true] at ezsb
 subst ezsb
 obtain ⟨vba, zzba, eba, gba, nba, oba⟩ := cZ (k := .u8) (S := fun b => b < W.heap.size) Tryz.underlying22 Tryz.underlying5 (by kernel_rfl) (fun _ h => h) q1a
 simp only [List.cons.injEq, and_true] at eba
 subst eba
 obtain ⟨vbb, zzbb, ebb, gbb, nbb, obb⟩ := cZ (k := .u8) (S := fun b => b < W.heap.size) Tryz.underlying22 Tryz.underlying5 (by kernel_rfl) (fun _ h => h) q1b
 simp only [List.cons.injEq, and_true] at ebb
 subst ebb
 obtain ⟨vd, zzd, ed, gd, nd, od⟩ := cZ (k := .u8) (S := fun b => b < W.heap.size) Tryz.underlying22 Tryz.underlying5 (by kernel_rfl) (fun _ h => h) f2
 simp only [List.cons.injEq, and_true] at ed
 subst ed
 obtain ⟨vl, zzl, el, gl, nl, ol⟩ := cZ (k := .u8) (S := fun b => b < W.heap.size) Tryz.underlying22 Tryz.underlying5 (by kernel_rfl) (fun _ h => h) f3
 simp only [List.cons.injEq, and_true] at el
 subst el
 obtain ⟨ta, gta, nta, ota⟩ := f6 (k := .u8) (S := fun b => b < W.heap.size) Tryz.underlying22 Tryz.underlying5 (by kernel_rfl) (fun _ h => h) okv1 h1
 obtain ⟨ql, gql, nql, oql⟩ := f6 (k := .u8) (S := fun b => b < W.heap.size) Tryz.underlying22 Tryz.underlying5 (by kernel_rfl) (fun _ h => h) okv2 h2
 refine (vY (zb zsa zzba zsb zzbb zzd zzl ta ql (oE wzsa).1 (oE wzsa).2 (i7 gba) (oE wzsb).1 (oE wzsb).2 (i7 gbb) (i7 gd) (i7 gl) (N2 nl) (i7 gta) (i7 gql)) _ W (HM (ze (us := [.int .u8 zsa, _, .int .u8 zsb, _, _, _]) ⟨.v _ _ (.int _ _), .v _ _ oba, .v _ _ (.int _ _), .v _ _ obb, .v _ _ od, .v _ _ ol, trivial⟩) (.v _ _ ota) (.v _ _ oql))).mono fun e W' ⟨he, bel⟩ => ?_
 subst he
 exact ⟨_, rfl, _, _, _, [], _, [], hW', trodAll_mk1 (shut_bool Tryz.underlying4 _), (trodAll_cons_mk (Below.trod laidOut (by kernel_rfl) (of_decide_eq_true (by kernel_rfl)) k0 bel lt0) (trodAll_cons_mk (Below.trod laidOut (by kernel_rfl) (of_decide_eq_true (by kernel_rfl)) k1 bel lt1) (trodAll_cons_mk (Below.trod laidOut (by kernel_rfl) (of_decide_eq_true (by kernel_rfl)) k2 bel lt2) trodAll_mk0))), rfl, bel.frame _, fun h => by cases h⟩
theorem over : Rows.shadowPersistsRow.holds Tryz.pinned (OpenSpec.ofChange Rows.shadowPersistsSpec) :=
 OpenClaim.holds_of_wide 5 Tryz.f5 rfl rfl rfl rfl rfl rfl rfl ⟨rfl, rfl, rfl, rfl, rfl⟩ rfl rfl rfl rfl rfl (by kernel_rfl) Tryz.func5 (by kernel_rfl)
  (of_decide_eq_true (by kernel_rfl)) (by unfold Func.isWrapper; first | (rw [if_pos (by decide +kernel)]; kernel_rfl) | (rw [if_neg (by decide +kernel)]; exact ⟨rfl, rfl⟩))
  (fun os started H enc _ => lifted os started H enc)
theorem proved : Rows.ShadowPersistsSaid := over
end Go.Proofs.YtgmpoenfoacofaaGreat.shadowPersistsRow
