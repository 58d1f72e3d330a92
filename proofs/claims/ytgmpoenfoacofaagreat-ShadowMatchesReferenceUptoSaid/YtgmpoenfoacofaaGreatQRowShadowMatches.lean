/-
  ShadowMatchesReference answers true for every input, and leaves its arguments as they were. No condition.
-/
import Derived.Test.YtgmpoenfoacofaaGreatRows
import Derived.Test.YtgmpoenfoacofaaGreatChecked
import Derived.Test.YtgmpoenfoacofaaGreatQShP
import Derived.Test.YtgmpoenfoacofaaGreatQOpenI
import Derived.ProofKit
import Derived.OpenShut
import Derived.ShutString
import Derived.ChangeOld
namespace Go.Proofs.YtgmpoenfoacofaaGreat.shadowMatchesReferenceRow
open Go.ChangeShapes Go.WideShapes Go.ChangeAt Go.RowKit
open Go.ChangeMaps (open_string shut_string)
set_option linter.unusedSimpArgs false
set_option linter.unusedVariables false
theorem own : ownKnob Tryz.prog.godebug = none := by kernel_rfl
theorem laidOut : laidOutB Tryz.prog = true := by kernel_rfl
set_option maxRecDepth 100000 in
theorem lifted (os : Os) (started : os.Started) (H : Type) (enc : TypeId × Value → H) (F : Stop.Interp) :
  ReturnsInHanded {} Tryz.checked os 3 .any ((Rows.OpenSpec.upto Rows.shadowMatchesReferenceSpec).pre6 enc Tryz.prog Tryz.f3 Rows.shadowMatchesReferenceUptoRow.domain false) (((Rows.OpenSpec.upto Rows.shadowMatchesReferenceSpec).at F).post enc Tryz.prog Tryz.f3 false true false false) := by
 refine returnsInHanded_of_cond (C := Tryz.checked) (s := Rows.OpenSpec.upto Rows.shadowMatchesReferenceSpec) (k := Rows.uptoSmall) rfl own started (by kernel_rfl) Tryz.func3
  (OpenSpec.witness (enc := enc) (C := Tryz.checked) (s := Rows.OpenSpec.upto Rows.shadowMatchesReferenceSpec) (k := Rows.uptoSmall) rfl false ⟨#[], #[.agg #[.int .u8 0, .slice none 0 0, .int .u8 0, .slice none 0 0, .slice none 0 0, .slice none 0 0], .agg #[.slice none 0 0, .slice none 0 0, .string .empty, .slice none 0 0, .int .u8 0], .slice none 0 0], []⟩ 8 (by kernel_rfl) (by kernel_rfl) (by kernel_rfl) (x := ([.agg [.agg [.lit (.int .u8 0), .nil], .agg [.lit (.int .u8 0), .nil], .nil, .nil], .agg [.nil, .nil, .agg [.lit (.string []), .nil], .lit (.int .u8 0)], .nil], [], [])) (by kernel_rfl) rfl (by kernel_rfl)) ?_
 intro W base args ds gs before hval0 hW _ hk _
 have hval : ∀ (j : Nat) t v, Tryz.f3.params[j]? = some t → args[j]? = some v → Value.okWide Tryz.prog W .any base t v := hval0
 have hW' := hW
 obtain ⟨p, q, hA0, hV, rfl, hfz, hnd⟩ := hW
 have hA : DataW.TrodAll enc Tryz.prog W 0 (fun _ => true) true Tryz.f3.params.toList args.toList ds p := hA0
 rw [Tryz.params3] at hA hval
 obtain ⟨v0, vs0, d0, ds0, p0, q0, hargs, rfl, rfl, h0, r0⟩ := trodAll_cons hA
 obtain ⟨v1, vs1, d1, ds1, p1, q1, rfl, rfl, rfl, h1, r1⟩ := trodAll_cons r0
 obtain ⟨v2, vs2, d2, ds2, p2, q2, rfl, rfl, rfl, h2, r2⟩ := trodAll_cons r1
 obtain ⟨rfl, rfl, rfl⟩ := trodAll_nil r2
 obtain rfl : args = #[v0, v1, v2] := by cases args; simp_all
 obtain ⟨rfl, rfl⟩ := trodVars_none hV
 have lt0 : ∀ x ∈ p0, x.block < W.heap.size := by obtain ⟨m, hm⟩ := h0; exact DataW.trod_lt m _ _ _ hm
 have lt1 : ∀ x ∈ p1, x.block < W.heap.size := by obtain ⟨m, hm⟩ := h1; exact DataW.trod_lt m _ _ _ hm
 have lt2 : ∀ x ∈ p2, x.block < W.heap.size := by obtain ⟨m, hm⟩ := h2; exact DataW.trod_lt m _ _ _ hm
 have k0 := h0
 have k1 := h1
 have k2 := h2
 have okv0 : Value.okWide Tryz.prog W .any base 26 v0 := hval 0 26 v0 rfl rfl
 have okv1 : Value.okWide Tryz.prog W .any base 32 v1 := hval 1 32 v1 rfl rfl
 have okv2 : Value.okWide Tryz.prog W .any base 22 v2 := hval 2 22 v2 rfl rfl
 clear hA0 hval0 hval
 have e8 : Tryz.prog.cellsOf 5 = 1 := by kernel_rfl
 have eU : Tryz.prog.cellsOf 22 = 1 := by kernel_rfl
 have eR : Tryz.prog.cellsOf 24 = 2 := by kernel_rfl
 obtain ⟨cs, rfl, hcs⟩ := mS Tryz.underlying26 (show Tryz.prog.cellsOf 26 = 6 by kernel_rfl) okv0
 obtain ⟨c0, c1, c2, c3, c4, c5, rfl⟩ := Kp cs hcs
 obtain ⟨fuel, hf⟩ := h0
 obtain ⟨m, hfld⟩ := uB Tryz.underlying26 hf
 have hcl : (Value.agg [c0, c1, c2, c3, c4, c5].toArray).cells.toList = [c0, c1, c2, c3, c4, c5] := rfl
 rw [hcl] at hfld
 obtain ⟨y0, f0⟩ := hfld 0 _ rfl
 obtain ⟨y1, f1⟩ := hfld 1 _ rfl
 obtain ⟨y2, f2⟩ := hfld 2 _ rfl
 obtain ⟨y3, f3⟩ := hfld 3 _ rfl
 simp only [List.getElem_toArray, List.getElem_cons_zero, List.getElem_cons_succ, eR, eU, e8, List.drop_zero, List.drop_succ_cons, List.take_succ_cons, List.take_zero] at f0 f1 f2 f3
 obtain ⟨m2a, hfl2a⟩ := uB Tryz.underlying24 f0
 obtain ⟨z0a, q0a⟩ := hfl2a 0 _ rfl
 obtain ⟨z1a, q1a⟩ := hfl2a 1 _ rfl
 simp only [List.getElem_toArray, List.getElem_cons_zero, List.getElem_cons_succ, eR, eU, e8, List.drop_zero, List.drop_succ_cons, List.take_succ_cons, List.take_zero] at q0a q1a
 obtain ⟨zsa, ezsa, -, wzsa⟩ := DataW.trod_int Tryz.underlying5 q0a
 simp only [List.cons.injEq, and_true] at ezsa
 subst ezsa
 obtain ⟨m2b, hfl2b⟩ := uB Tryz.underlying24 f1
 obtain ⟨z0b, q0b⟩ := hfl2b 0 _ rfl
 obtain ⟨z1b, q1b⟩ := hfl2b 1 _ rfl
 simp only [List.getElem_toArray, List.getElem_cons_zero, List.getElem_cons_succ, eR, eU, e8, List.drop_zero, List.drop_succ_cons, List.take_succ_cons, List.take_zero] at q0b q1b
 obtain ⟨zsb, ezsb, -, wzsb⟩ := DataW.trod_int Tryz.underlying5 q0b
 simp only [List.cons.injEq, and_true] at ezsb
 subst ezsb
 obtain ⟨vba, zzba, eba, gba, nba, oba⟩ := fY (k := .u8) (S := fun b => b < W.heap.size) Tryz.underlying22 Tryz.underlying5 (by kernel_rfl) (fun _ h => h) q1a
 simp only [List.cons.injEq, and_true] at eba
 subst eba
 obtain ⟨vbb, zzbb, ebb, gbb, nbb, obb⟩ := fY (k := .u8) (S := fun b => b < W.heap.size) Tryz.underlying22 Tryz.underlying5 (by kernel_rfl) (fun _ h => h) q1b
 simp only [List.cons.injEq, and_true] at ebb
 subst ebb
 obtain ⟨vd, zzd, ed, gd, nd, od⟩ := fY (k := .u8) (S := fun b => b < W.heap.size) Tryz.underlying22 Tryz.underlying5 (by kernel_rfl) (fun _ h => h) f2
 simp only [List.cons.injEq, and_true] at ed
 subst ed
 obtain ⟨vl, zzl, el, gl, nl, ol⟩ := fY (k := .u8) (S := fun b => b < W.heap.size) Tryz.underlying22 Tryz.underlying5 (by kernel_rfl) (fun _ h => h) f3
 simp only [List.cons.injEq, and_true] at el
 subst el
 obtain ⟨ds, rfl, hds⟩ := mS Tryz.underlying32 (show Tryz.prog.cellsOf 32 = 5 by kernel_rfl) okv1
 obtain ⟨fuel2, hf2⟩ := h1
 have hcl2 : (Value.agg ds.toArray).cells.toList = ds := by simp [Value.cells]
 rw [hcl2] at hf2
 obtain ⟨va, vb, vw, oa, ob, zn, zw, zk, rfl, oa1, oa2, ob1, ob2, on1, ow1, wzk, ra, rb, rw_⟩ := FX hf2 (Hm hk (by simp))
 obtain ⟨tk, gtk, ntk, otk⟩ := qK (k := .u8) (S := fun b => b < W.heap.size) Tryz.underlying22 Tryz.underlying5 (by kernel_rfl) (fun _ h => h) okv2 h2
 refine (AF (AD zsa zzba zsb zzbb zzd zzl oa ob zn zw zk tk (wh wzsa).1 (wh wzsa).2 (uC gba) (wh wzsb).1 (wh wzsb).2 (uC gbb) (uC gd) (uC gl) (Ms nl) oa1 oa2 ob1 ob2 on1 ow1 (wh wzk).1 (wh wzk).2 (uC gtk)) _ W (I1 (Cg (us := [.int .u8 zsa, _, .int .u8 zsb, _, _, _]) ⟨.v _ _ (.int _ _), .v _ _ oba, .v _ _ (.int _ _), .v _ _ obb, .v _ _ od, .v _ _ ol, trivial⟩) (Cg (us := [_, _, .string zn, _, .int .u8 zk]) ⟨.v _ _ ra, .v _ _ rb, .v _ _ (.str _), .v _ _ rw_, .v _ _ (.int _ _), trivial⟩) (.v _ _ otk))).mono fun e W' ⟨he, bel⟩ => ?_
 subst he
 exact ⟨_, rfl, _, _, _, [], _, [], hW', trodAll_mk1 (shut_bool Tryz.underlying4 _), (trodAll_cons_mk (Below.trod laidOut (by kernel_rfl) (of_decide_eq_true (by kernel_rfl)) k0 bel lt0) (trodAll_cons_mk (Below.trod laidOut (by kernel_rfl) (of_decide_eq_true (by kernel_rfl)) k1 bel lt1) (trodAll_cons_mk (Below.trod laidOut (by kernel_rfl) (of_decide_eq_true (by kernel_rfl)) k2 bel lt2) trodAll_mk0))), rfl, bel.frame _, fun h => by cases h⟩
theorem over : Rows.shadowMatchesReferenceUptoRow.holds Tryz.pinned (Rows.OpenSpec.upto Rows.shadowMatchesReferenceSpec) :=
 OpenClaim.holds_of_cond 3 Tryz.f3 rfl rfl rfl rfl rfl rfl rfl ⟨rfl, rfl, rfl, rfl, rfl⟩ rfl rfl rfl rfl rfl (by kernel_rfl) Tryz.func3 (by kernel_rfl)
  (of_decide_eq_true (by kernel_rfl)) (by unfold Func.isWrapper; first | (rw [if_pos (by decide +kernel)]; kernel_rfl) | (rw [if_neg (by decide +kernel)]; exact ⟨rfl, rfl⟩))
  (fun os started H enc _ F => lifted os started H enc F)
theorem proved : Rows.ShadowMatchesReferenceUptoSaid := over
end Go.Proofs.YtgmpoenfoacofaaGreat.shadowMatchesReferenceRow
