/-
  NetworkMatchesReference answers true for every input, and leaves its arguments as they were. No condition.
-/
import Derived.Test.YtifoecfajmnjjaaGreatRows
import Derived.Test.YtifoecfajmnjjaaGreatChecked
import Derived.Test.YtifoecfajmnjjaaGreatQNfG
import Derived.Test.YtifoecfajmnjjaaGreatQOpenD
import Derived.Test.YtifoecfajmnjjaaGreatQOpenF
import Derived.Test.YtifoecfajmnjjaaGreatQRep
import Derived.ProofKit
import Derived.OpenShut
import Derived.ShutString
import Derived.ChangeOld
namespace Go.Proofs.YtifoecfajmnjjaaGreat.networkMatchesReferenceRow
open Go.ChangeShapes Go.WideShapes Go.ChangeAt Go.RowKit
open Go.ChangeMaps (open_string shut_string)
set_option linter.unusedSimpArgs false
set_option linter.unusedVariables false
theorem own : ownKnob Tryz.prog.godebug = none := by kernel_rfl
theorem laidOut : laidOutB Tryz.prog = true := by kernel_rfl
set_option maxRecDepth 100000 in
theorem lifted (os : Os) (started : os.Started) (H : Type) (enc : TypeId × Value → H) :
  ReturnsInHanded {} Tryz.checked os 7 .any (Rows.networkMatchesReferenceSpec.pre6 enc Tryz.prog Tryz.f7 Rows.networkMatchesReferenceRow.domain false) (Rows.networkMatchesReferenceSpec.post enc Tryz.prog Tryz.f7 false true false false) := by
 refine returnsInHanded_of_change (C := Tryz.checked) own started (by kernel_rfl) Tryz.func7
  (ChangeSpec.witness6 (enc := enc) (C := Tryz.checked) false ⟨#[], #[.agg #[.int .u8 0, .slice none 0 0, .slice none 0 0, .slice none 0 0], .agg #[.slice none 0 0, .slice none 0 0, .int .i64 0, .slice none 0 0, .int .i64 0, .int .i64 0, .slice none 0 0]], []⟩ 8 (by kernel_rfl) (by kernel_rfl) (by kernel_rfl) (by kernel_rfl)) ?_
 intro W base args ds gs before hval0 hW hcnd _
 have hval : ∀ (j : Nat) t v, Tryz.f7.params[j]? = some t → args[j]? = some v → Value.okWide Tryz.prog W .any base t v := hval0
 have hW' := hW
 obtain ⟨p, q, hA0, hV, rfl, hfz, hnd⟩ := hW
 have hA : DataW.TrodAll enc Tryz.prog W 0 (fun _ => true) true Tryz.f7.params.toList args.toList ds p := hA0
 rw [Tryz.params7] at hA hval
 obtain ⟨v0, vs0, d0, ds0, p0, q0, hargs, rfl, rfl, h0, r0⟩ := trodAll_cons hA
 obtain ⟨v1, vs1, d1, ds1, p1, q1, rfl, rfl, rfl, h1, r1⟩ := trodAll_cons r0
 obtain ⟨rfl, rfl, rfl⟩ := trodAll_nil r1
 obtain rfl : args = #[v0, v1] := by cases args; simp_all
 obtain ⟨rfl, rfl⟩ := trodVars_none hV
 have lt0 : ∀ x ∈ p0, x.block < W.heap.size := by obtain ⟨m, hm⟩ := h0; exact DataW.trod_lt m _ _ _ hm
 have lt1 : ∀ x ∈ p1, x.block < W.heap.size := by obtain ⟨m, hm⟩ := h1; exact DataW.trod_lt m _ _ _ hm
 have k0 := h0
 have k1 := h1
 have okv0 : Value.okWide Tryz.prog W .any base 26 v0 := hval 0 26 v0 rfl rfl
 have okv1 : Value.okWide Tryz.prog W .any base 90 v1 := hval 1 90 v1 rfl rfl
 clear hA0 hval0 hval
 have e8 : Tryz.prog.cellsOf 5 = 1 := by kernel_rfl
 have eU : Tryz.prog.cellsOf 22 = 1 := by kernel_rfl
 have eR : Tryz.prog.cellsOf 24 = 2 := by kernel_rfl
 obtain ⟨cs, rfl, hcs⟩ := nz Tryz.underlying26 (show Tryz.prog.cellsOf 26 = 4 by kernel_rfl) okv0
 obtain ⟨c0, c1, c2, c3, rfl⟩ := JQ cs hcs
 obtain ⟨fuel, hf⟩ := h0
 obtain ⟨m, hfld⟩ := jP Tryz.underlying26 hf
 have hcl : (Value.agg [c0, c1, c2, c3].toArray).cells.toList = [c0, c1, c2, c3] := rfl
 rw [hcl] at hfld
 obtain ⟨y0, f0⟩ := hfld 0 _ rfl
 simp only [List.getElem_toArray, List.getElem_cons_zero, List.getElem_cons_succ, eR, eU, e8, List.drop_zero, List.drop_succ_cons, List.take_succ_cons, List.take_zero] at f0
 obtain ⟨y1, f1⟩ := hfld 1 _ rfl
 simp only [List.getElem_toArray, List.getElem_cons_zero, List.getElem_cons_succ, eR, eU, e8, List.drop_zero, List.drop_succ_cons, List.take_succ_cons, List.take_zero] at f1
 obtain ⟨y2, f2⟩ := hfld 2 _ rfl
 simp only [List.getElem_toArray, List.getElem_cons_zero, List.getElem_cons_succ, eR, eU, e8, List.drop_zero, List.drop_succ_cons, List.take_succ_cons, List.take_zero] at f2
 obtain ⟨m2, hfl2⟩ := jP Tryz.underlying24 f0
 obtain ⟨z0, q0⟩ := hfl2 0 _ rfl
 simp only [List.getElem_toArray, List.getElem_cons_zero, List.getElem_cons_succ, eR, eU, e8, List.drop_zero, List.drop_succ_cons, List.take_succ_cons, List.take_zero] at q0
 obtain ⟨z1, q1⟩ := hfl2 1 _ rfl
 simp only [List.getElem_toArray, List.getElem_cons_zero, List.getElem_cons_succ, eR, eU, e8, List.drop_zero, List.drop_succ_cons, List.take_succ_cons, List.take_zero] at q1
 obtain ⟨zs, ezs, -, wzs⟩ := DataW.trod_int Tryz.underlying5 q0
 simp only [List.cons.injEq, and_true] at ezs
 subst ezs
 obtain ⟨vb, zzb, eb, gb, nb, ob⟩ := fe (k := .u8) (S := fun b => b < W.heap.size) Tryz.underlying22 Tryz.underlying5 (by kernel_rfl) (fun _ h => h) q1
 simp only [List.cons.injEq, and_true] at eb
 subst eb
 obtain ⟨vd, zzd, ed, gd, nd, od⟩ := fe (k := .u8) (S := fun b => b < W.heap.size) Tryz.underlying22 Tryz.underlying5 (by kernel_rfl) (fun _ h => h) f1
 simp only [List.cons.injEq, and_true] at ed
 subst ed
 obtain ⟨vl, zzl, el, gl, nl, ol⟩ := fe (k := .u8) (S := fun b => b < W.heap.size) Tryz.underlying22 Tryz.underlying5 (by kernel_rfl) (fun _ h => h) f2
 simp only [List.cons.injEq, and_true] at el
 subst el
 have eI1 : Tryz.prog.cellsOf 3 = 1 := by kernel_rfl
 have eI2 : Tryz.prog.cellsOf 43 = 1 := by kernel_rfl
 have eI3 : Tryz.prog.cellsOf 88 = 1 := by kernel_rfl
 have eI4 : Tryz.prog.cellsOf 36 = 2 := by kernel_rfl
 have eI5 : Tryz.prog.cellsOf 79 = 2 := by kernel_rfl
 obtain ⟨ds, rfl, hds⟩ := nz Tryz.underlying90 (show Tryz.prog.cellsOf 90 = 7 by kernel_rfl) okv1
 obtain ⟨j0, j1, j2, j3, j4, j5, j6, rfl⟩ := JP ds hds
 obtain ⟨fuel2, hf2⟩ := h1
 obtain ⟨m3, hfl3⟩ := jP Tryz.underlying90 hf2
 have hcl2 : (Value.agg [j0, j1, j2, j3, j4, j5, j6].toArray).cells.toList = [j0, j1, j2, j3, j4, j5, j6] := rfl
 rw [hcl2] at hfl3
 obtain ⟨w0, t0⟩ := hfl3 0 _ rfl
 obtain ⟨w1, t1⟩ := hfl3 1 _ rfl
 obtain ⟨w2, t2⟩ := hfl3 2 _ rfl
 obtain ⟨w3, t3⟩ := hfl3 3 _ rfl
 obtain ⟨w4, t4⟩ := hfl3 4 _ rfl
 simp only [List.getElem_toArray, List.getElem_cons_zero, List.getElem_cons_succ, eI1, eI2, eI3, eI4, eI5, List.drop_zero, List.drop_succ_cons, List.take_succ_cons, List.take_zero] at t0 t1 t2 t3 t4
 obtain ⟨ua, ub, os, eab, ob1, ob2, ob3, ob4, or1, or2⟩ := Ax t0
 simp only [List.cons.injEq, and_true] at eab
 obtain ⟨rfl, rfl⟩ := eab
 obtain ⟨m4, hfl4⟩ := jP Tryz.underlying79 t1
 obtain ⟨w5, t5⟩ := hfl4 0 _ rfl
 obtain ⟨w6, t6⟩ := hfl4 1 _ rfl
 simp only [List.getElem_toArray, List.getElem_cons_zero, List.getElem_cons_succ, eI1, eI2, eI3, eI4, eI5, List.drop_zero, List.drop_succ_cons, List.take_succ_cons, List.take_zero] at t5 t6
 obtain ⟨zc, ezc, -, wzc⟩ := DataW.trod_int Tryz.underlying3 t5
 simp only [List.cons.injEq, and_true] at ezc
 subst ezc
 obtain ⟨zp, ezp, -, wzp⟩ := DataW.trod_int Tryz.underlying3 t2
 simp only [List.cons.injEq, and_true] at ezp
 subst ezp
 obtain ⟨zn, ezn, -, wzn⟩ := DataW.trod_int Tryz.underlying3 t3
 simp only [List.cons.injEq, and_true] at ezn
 subst ezn
 obtain ⟨vw, zw, ew, gw, nw, ow⟩ := fe (k := .i64) (S := fun b => b < W.heap.size) Tryz.underlying43 Tryz.underlying3 (by kernel_rfl) (fun _ h => h) t6
 simp only [List.cons.injEq, and_true] at ew
 subst ew
 obtain ⟨vk, zk, ek, gk, nk, ok⟩ := yQ (S := fun b => b < W.heap.size) Tryz.underlying88 Tryz.underlying9 (by kernel_rfl) (fun _ h => h) t4
 simp only [List.cons.injEq, and_true] at ek
 subst ek
 refine (Au (De zs zzb zzd zzl os zc zp zn zw zk (G7 wzs).1 (G7 wzs).2 (Av gb) (Av gd) (Av gl) ob1 ob2 ob3 ob4 (yP wzn).1) _ W (Ik (BZ (us := [.int .u8 zs, _, _, _]) ⟨.v _ _ (.int _ _), .v _ _ ob, .v _ _ od, .v _ _ ol, trivial⟩) (BZ (us := [_, _, .int .i64 zc, _, .int .i64 zp, .int .i64 zn, _]) ⟨.v _ _ or1, .v _ _ or2, .v _ _ (.int _ _), .v _ _ ow, .v _ _ (.int _ _), .v _ _ (.int _ _), .v _ _ ok, trivial⟩))).mono fun e W' ⟨he, bel⟩ => ?_
 subst he
 exact ⟨_, rfl, _, _, _, [], _, [], hW', trodAll_mk1 (shut_bool Tryz.underlying4 _), (trodAll_cons_mk (Below.trod laidOut (by kernel_rfl) (of_decide_eq_true (by kernel_rfl)) k0 bel lt0) (trodAll_cons_mk (Below.trod laidOut (by kernel_rfl) (of_decide_eq_true (by kernel_rfl)) k1 bel lt1) trodAll_mk0)), rfl, bel.frame _, fun h => by cases h⟩
theorem over : Rows.networkMatchesReferenceRow.holds Tryz.pinned (OpenSpec.ofChange Rows.networkMatchesReferenceSpec) :=
 OpenClaim.holds_of_wide 7 Tryz.f7 rfl rfl rfl rfl rfl rfl rfl ⟨rfl, rfl, rfl, rfl, rfl⟩ rfl rfl rfl rfl rfl (by kernel_rfl) Tryz.func7 (by kernel_rfl)
  (of_decide_eq_true (by kernel_rfl)) (by unfold Func.isWrapper; first | (rw [if_pos (by decide +kernel)]; kernel_rfl) | (rw [if_neg (by decide +kernel)]; exact ⟨rfl, rfl⟩))
  (fun os started H enc _ => lifted os started H enc)
theorem proved : Rows.NetworkMatchesReferenceSaid := over
end Go.Proofs.YtifoecfajmnjjaaGreat.networkMatchesReferenceRow
