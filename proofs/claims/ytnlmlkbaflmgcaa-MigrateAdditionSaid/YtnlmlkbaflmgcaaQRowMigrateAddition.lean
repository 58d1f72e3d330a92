/-
  MigrateAddition answers true for every input, and leaves its arguments as they were. No condition.
-/
import Derived.Test.YtnlmlkbaflmgcaaRows
import Derived.Test.YtnlmlkbaflmgcaaChecked
import Derived.Test.YtnlmlkbaflmgcaaQOpenD
namespace Go.Proofs.Ytnlmlkbaflmgcaa.migrateAdditionRow
open Go.ChangeShapes Go.WideShapes Go.ChangeAt Go.RowKit
open Go.ChangeMaps (open_string shut_string)
set_option linter.unusedSimpArgs false
set_option linter.unusedVariables false
theorem own : ownKnob Try.prog.godebug = none := by kernel_rfl
theorem laidOut : laidOutB Try.prog = true := by kernel_rfl
set_option maxRecDepth 100000 in
theorem lifted (os : Os) (started : os.Started) (H : Type) (enc : TypeId × Value → H) :
  ReturnsInHanded {} Try.checked os 6 .any (Rows.migrateAdditionSpec.pre6 enc Try.prog Try.f6 Rows.migrateAdditionRow.domain false) (Rows.migrateAdditionSpec.post enc Try.prog Try.f6 false true false false) := by
 refine returnsInHanded_of_change (C := Try.checked) own started (by kernel_rfl) Try.func6
  (ChangeSpec.witness6 (enc := enc) (C := Try.checked) false ⟨#[], #[.agg #[.int .u8 0, .slice none 0 0, .int .u8 0, .slice none 0 0, .bool false, .slice none 0 0, .slice none 0 0, .slice none 0 0, .slice none 0 0], .int .i64 0, .int .i64 0], []⟩ 8 (by kernel_rfl) (by kernel_rfl) (by kernel_rfl) (by kernel_rfl)) ?_
 intro W base args ds gs before hval0 hW hcnd _
 have hval : ∀ (j : Nat) t v, Try.f6.params[j]? = some t → args[j]? = some v → Value.okWide Try.prog W .any base t v := hval0
 have hW' := hW
 obtain ⟨p, q, hA0, hV, rfl, hfz, hnd⟩ := hW
 have hA : DataW.TrodAll enc Try.prog W 0 (fun _ => true) true Try.f6.params.toList args.toList ds p := hA0
 rw [Try.params6] at hA hval
 obtain ⟨v0, vs0, d0, ds0, p0, q0, hargs, rfl, rfl, h0, r0⟩ := trodAll_cons hA
 obtain ⟨v1, vs1, d1, ds1, p1, q1, rfl, rfl, rfl, h1, r1⟩ := trodAll_cons r0
 obtain ⟨v2, vs2, d2, ds2, p2, q2, rfl, rfl, rfl, h2, r2⟩ := trodAll_cons r1
 obtain ⟨rfl, rfl, rfl⟩ := trodAll_nil r2
 obtain rfl : args = #[v0, v1, v2] := by cases args; simp_all
 obtain ⟨rfl, rfl⟩ := trodVars_none hV
 have lt0 : ∀ x ∈ p0, x.block < W.heap.size := by obtain ⟨m, hm⟩ := h0; exact DataW.trod_lt m _ _ _ hm
 have lt1 : ∀ x ∈ p1, x.block < W.heap.size := by obtain ⟨m, hm⟩ := h1; exact DataW.trod_lt m _ _ _ hm
 have lt2 : ∀ x ∈ p2, x.block < W.heap.size := by obtain ⟨m, hm⟩ := h2; exact DataW.trod_lt m _ _ _ hm
 have k0 := h0
 have k1 := h1
 have k2 := h2
 have okv0 : Value.okWide Try.prog W .any base 26 v0 := hval 0 26 v0 rfl rfl
 have okv1 : Value.okWide Try.prog W .any base 3 v1 := hval 1 3 v1 rfl rfl
 have okv2 : Value.okWide Try.prog W .any base 3 v2 := hval 2 3 v2 rfl rfl
 clear hA0 hval0 hval
 have e8 : Try.prog.cellsOf 5 = 1 := by kernel_rfl
 have eU : Try.prog.cellsOf 22 = 1 := by kernel_rfl
 have eB : Try.prog.cellsOf 4 = 1 := by kernel_rfl
 have eR : Try.prog.cellsOf 24 = 2 := by kernel_rfl
 obtain ⟨cs, rfl, hcs⟩ := uJ Try.underlying26 (show Try.prog.cellsOf 26 = 9 by kernel_rfl) okv0
 obtain ⟨c0, c1, c2, c3, c4, c5, c6, c7, c8, rfl⟩ := MU cs hcs
 obtain ⟨fuel, hf⟩ := h0
 obtain ⟨m, hfld⟩ := ub Try.underlying26 hf
 have hcl : (Value.agg [c0, c1, c2, c3, c4, c5, c6, c7, c8].toArray).cells.toList = [c0, c1, c2, c3, c4, c5, c6, c7, c8] := rfl
 rw [hcl] at hfld
 obtain ⟨y0, f0⟩ := hfld 0 _ rfl
 obtain ⟨y1, f1⟩ := hfld 1 _ rfl
 obtain ⟨y2, f2⟩ := hfld 2 _ rfl
 obtain ⟨y3, f3⟩ := hfld 3 _ rfl
 obtain ⟨y4, f4⟩ := hfld 4 _ rfl
 obtain ⟨y5, f5⟩ := hfld 5 _ rfl
 obtain ⟨y6, f6⟩ := hfld 6 _ rfl
 simp only [List.getElem_toArray, List.getElem_cons_zero, List.getElem_cons_succ, eR, eU, e8, eB, List.drop_zero, List.drop_succ_cons, Rl, List.take_zero] at f0 f1 f2 f3 f4 f5 f6
 obtain ⟨m2a, hfl2a⟩ := ub Try.underlying24 f0
 obtain ⟨z0a, q0a⟩ := hfl2a 0 _ rfl
 obtain ⟨z1a, q1a⟩ := hfl2a 1 _ rfl
 simp only [List.getElem_toArray, List.getElem_cons_zero, List.getElem_cons_succ, eR, eU, e8, eB, List.drop_zero, List.drop_succ_cons, Rl, List.take_zero] at q0a q1a
 obtain ⟨zsa, ezsa, -, wzsa⟩ := DataW.trod_int Try.underlying5 q0a
 simp only [Qj, Rs] at ezsa
 subst ezsa
 obtain ⟨m2b, hfl2b⟩ := ub Try.underlying24 f1
 obtain ⟨z0b, q0b⟩ := hfl2b 0 _ rfl
 obtain ⟨z1b, q1b⟩ := hfl2b 1 _ rfl
 simp only [List.getElem_toArray, List.getElem_cons_zero, List.getElem_cons_succ, eR, eU, e8, eB, List.drop_zero, List.drop_succ_cons, Rl, List.take_zero] at q0b q1b
 obtain ⟨zsb, ezsb, -, wzsb⟩ := DataW.trod_int Try.underlying5 q0b
 simp only [Qj, Rs] at ezsb
 subst ezsb
 obtain ⟨oth, eoth, -⟩ := DataW.trod_bool Try.underlying4 f2
 simp only [Qj, Rs] at eoth
 subst eoth
 obtain ⟨vba, zzba, eba, gba, nba, oba⟩ := fb (k := .u8) (S := fun b => b < W.heap.size) Try.underlying22 Try.underlying5 (by kernel_rfl) (fun _ h => h) q1a
 simp only [Qj, Rs] at eba
 subst eba
 obtain ⟨vbb, zzbb, ebb, gbb, nbb, obb⟩ := fb (k := .u8) (S := fun b => b < W.heap.size) Try.underlying22 Try.underlying5 (by kernel_rfl) (fun _ h => h) q1b
 simp only [Qj, Rs] at ebb
 subst ebb
 obtain ⟨vd, zzd, ed, gd, nd, od⟩ := fb (k := .u8) (S := fun b => b < W.heap.size) Try.underlying22 Try.underlying5 (by kernel_rfl) (fun _ h => h) f3
 simp only [Qj, Rs] at ed
 subst ed
 obtain ⟨ve, zze, ee, ge, ne, oe⟩ := fb (k := .u8) (S := fun b => b < W.heap.size) Try.underlying22 Try.underlying5 (by kernel_rfl) (fun _ h => h) f4
 simp only [Qj, Rs] at ee
 subst ee
 obtain ⟨vl, zzl, el, gl, nl, ol⟩ := fb (k := .u8) (S := fun b => b < W.heap.size) Try.underlying22 Try.underlying5 (by kernel_rfl) (fun _ h => h) f5
 simp only [Qj, Rs] at el
 subst el
 obtain ⟨vn, zzn, en, gn, nn, on⟩ := fb (k := .u8) (S := fun b => b < W.heap.size) Try.underlying22 Try.underlying5 (by kernel_rfl) (fun _ h => h) f6
 simp only [Qj, Rs] at en
 subst en
 obtain ⟨zi, rfl, -, -, gzi⟩ := open_int Try.underlying3 okv1 h1
 obtain ⟨zj, rfl, -, -, gzj⟩ := open_int Try.underlying3 okv2 h2
 refine (A3 (G7 zsa zzba zsb zzbb oth zzd zze zzl zzn zi zj (Db wzsa).1 (Db wzsa).2 (qT gba) (Db wzsb).1 (Db wzsb).2 (qT gbb) (qT gd) (qT ge) (qT gl) (qT gn)) _ W (Lb (I9 (us := [.int .u8 zsa, _, .int .u8 zsb, _, .bool oth, _, _, _, _]) ⟨.v _ _ (.int _ _), .v _ _ oba, .v _ _ (.int _ _), .v _ _ obb, .v _ _ (.bool _), .v _ _ od, .v _ _ oe, .v _ _ ol, .v _ _ on, trivial⟩) (.v _ _ (.int _ _)) (.v _ _ (.int _ _)))).mono fun e W' ⟨he, bel⟩ => ?_
 subst he
 exact ⟨_, rfl, _, _, _, [], _, [], hW', trodAll_mk1 (shut_bool Try.underlying4 _), (trodAll_cons_mk (Below.trod laidOut (by kernel_rfl) (Qt (by kernel_rfl)) k0 bel lt0) (trodAll_cons_mk (Below.trod laidOut (by kernel_rfl) (Qt (by kernel_rfl)) k1 bel lt1) (trodAll_cons_mk (Below.trod laidOut (by kernel_rfl) (Qt (by kernel_rfl)) k2 bel lt2) trodAll_mk0))), rfl, bel.frame _, fun h => by cases h⟩
theorem over : Rows.migrateAdditionRow.holds Try.pinned (OpenSpec.ofChange Rows.migrateAdditionSpec) :=
 OpenClaim.holds_of_wide 6 Try.f6 rfl rfl rfl rfl rfl rfl rfl ⟨rfl, rfl, rfl, rfl, rfl⟩ rfl rfl rfl rfl rfl (by kernel_rfl) Try.func6 (by kernel_rfl)
  (Qt (by kernel_rfl)) (by unfold Func.isWrapper; first | (rw [Pn (by decide +kernel)]; kernel_rfl) | (rw [Pj (by decide +kernel)]; exact ⟨rfl, rfl⟩))
  (fun os started H enc _ => lifted os started H enc)
theorem proved : Rows.MigrateAdditionSaid := over
end Go.Proofs.Ytnlmlkbaflmgcaa.migrateAdditionRow
