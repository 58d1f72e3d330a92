/-
  MigrateRenamed answers true for every input, and leaves its arguments as they were. No condition.
-/
import Derived.Test.YtnlmlkbaflmgcaaGreatRows
import Derived.Test.YtnlmlkbaflmgcaaGreatChecked
import Derived.Test.YtnlmlkbaflmgcaaGreatQOpenD
namespace Go.Proofs.YtnlmlkbaflmgcaaGreat.migrateRenamedRow
open Go.ChangeShapes Go.WideShapes Go.ChangeAt Go.RowKit
open Go.ChangeMaps (open_string shut_string)
set_option linter.unusedSimpArgs false
set_option linter.unusedVariables false
theorem own : ownKnob Tryz.prog.godebug = none := by kernel_rfl
theorem laidOut : laidOutB Tryz.prog = true := by kernel_rfl
set_option maxRecDepth 100000 in
theorem lifted (os : Os) (started : os.Started) (H : Type) (enc : TypeId × Value → H) :
  ReturnsInHanded {} Tryz.checked os 3 .any (Rows.migrateRenamedSpec.pre6 enc Tryz.prog Tryz.f3 Rows.migrateRenamedRow.domain false) (Rows.migrateRenamedSpec.post enc Tryz.prog Tryz.f3 false true false false) := by
 refine returnsInHanded_of_change (C := Tryz.checked) own started (by kernel_rfl) Tryz.func3
  (ChangeSpec.witness6 (enc := enc) (C := Tryz.checked) false ⟨#[], #[.agg #[.int .u8 0, .slice none 0 0, .int .u8 0, .slice none 0 0, .bool false, .slice none 0 0, .slice none 0 0, .slice none 0 0, .slice none 0 0], .slice none 0 0], []⟩ 8 (by kernel_rfl) (by kernel_rfl) (by kernel_rfl) (by kernel_rfl)) ?_
 intro W base args ds gs before hval0 hW hcnd _
 have hval : ∀ (j : Nat) t v, Tryz.f3.params[j]? = some t → args[j]? = some v → Value.okWide Tryz.prog W .any base t v := hval0
 have hW' := hW
 obtain ⟨p, q, hA0, hV, rfl, hfz, hnd⟩ := hW
 have hA : DataW.TrodAll enc Tryz.prog W 0 (fun _ => true) true Tryz.f3.params.toList args.toList ds p := hA0
 rw [Tryz.params3] at hA hval
 obtain ⟨v0, vs0, d0, ds0, p0, q0, hargs, rfl, rfl, h0, r0⟩ := trodAll_cons hA
 obtain ⟨v1, vs1, d1, ds1, p1, q1, rfl, rfl, rfl, h1, r1⟩ := trodAll_cons r0
 obtain ⟨rfl, rfl, rfl⟩ := trodAll_nil r1
 obtain rfl : args = #[v0, v1] := by cases args; simp_all
 obtain ⟨rfl, rfl⟩ := trodVars_none hV
 have lt0 : ∀ x ∈ p0, x.block < W.heap.size := by obtain ⟨m, hm⟩ := h0; exact DataW.trod_lt m _ _ _ hm
 have lt1 : ∀ x ∈ p1, x.block < W.heap.size := by obtain ⟨m, hm⟩ := h1; exact DataW.trod_lt m _ _ _ hm
 have k0 := h0
 have k1 := h1
 have okv0 : Value.okWide Tryz.prog W .any base 26 v0 := hval 0 26 v0 rfl rfl
 have okv1 : Value.okWide Tryz.prog W .any base 27 v1 := hval 1 27 v1 rfl rfl
 clear hA0 hval0 hval
 have e8 : Tryz.prog.cellsOf 5 = 1 := by kernel_rfl
 have eU : Tryz.prog.cellsOf 22 = 1 := by kernel_rfl
 have eB : Tryz.prog.cellsOf 4 = 1 := by kernel_rfl
 have eR : Tryz.prog.cellsOf 24 = 2 := by kernel_rfl
 obtain ⟨cs, rfl, hcs⟩ := xz Tryz.underlying26 (show Tryz.prog.cellsOf 26 = 9 by kernel_rfl) okv0
 obtain ⟨c0, c1, c2, c3, c4, c5, c6, c7, c8, rfl⟩ := Rh cs hcs
 obtain ⟨fuel, hf⟩ := h0
 obtain ⟨m, hfld⟩ := xg Tryz.underlying26 hf
 have hcl : (Value.agg [c0, c1, c2, c3, c4, c5, c6, c7, c8].toArray).cells.toList = [c0, c1, c2, c3, c4, c5, c6, c7, c8] := rfl
 rw [hcl] at hfld
 obtain ⟨y0, f0⟩ := hfld 0 _ rfl
 obtain ⟨y1, f1⟩ := hfld 1 _ rfl
 obtain ⟨y2, f2⟩ := hfld 2 _ rfl
 obtain ⟨y3, f3⟩ := hfld 3 _ rfl
 obtain ⟨y4, f4⟩ := hfld 4 _ rfl
 obtain ⟨y5, f5⟩ := hfld 5 _ rfl
 obtain ⟨y6, f6⟩ := hfld 6 _ rfl
 simp only [List.getElem_toArray, List.getElem_cons_zero, List.getElem_cons_succ, eR, eU, e8, eB, List.drop_zero, List.drop_succ_cons, Wl, List.take_zero] at f0 f1 f2 f3 f4 f5 f6
 obtain ⟨m2a, hfl2a⟩ := xg Tryz.underlying24 f0
 obtain ⟨z0a, q0a⟩ := hfl2a 0 _ rfl
 obtain ⟨z1a, q1a⟩ := hfl2a 1 _ rfl
 simp only [List.getElem_toArray, List.getElem_cons_zero, List.getElem_cons_succ, eR, eU, e8, eB, List.drop_zero, List.drop_succ_cons, Wl, List.take_zero] at q0a q1a
 obtain ⟨zsa, ezsa, -, wzsa⟩ := DataW.trod_int Tryz.underlying5 q0a
 simp only [Vm, Wu] at ezsa
 subst ezsa
 obtain ⟨m2b, hfl2b⟩ := xg Tryz.underlying24 f1
 obtain ⟨z0b, q0b⟩ := hfl2b 0 _ rfl
 obtain ⟨z1b, q1b⟩ := hfl2b 1 _ rfl
 simp only [List.getElem_toArray, List.getElem_cons_zero, List.getElem_cons_succ, eR, eU, e8, eB, List.drop_zero, List.drop_succ_cons, Wl, List.take_zero] at q0b q1b
 obtain ⟨zsb, ezsb, -, wzsb⟩ := DataW.trod_int Tryz.underlying5 q0b
 simp only [Vm, Wu] at ezsb
 subst ezsb
 obtain ⟨oth, eoth, -⟩ := DataW.trod_bool Tryz.underlying4 f2
 simp only [Vm, Wu] at eoth
 subst eoth
 obtain ⟨vba, zzba, eba, gba, nba, oba⟩ := f7 (k := .u8) (S := fun b => b < W.heap.size) Tryz.underlying22 Tryz.underlying5 (by kernel_rfl) (fun _ h => h) q1a
 simp only [Vm, Wu] at eba
 subst eba
 obtain ⟨vbb, zzbb, ebb, gbb, nbb, obb⟩ := f7 (k := .u8) (S := fun b => b < W.heap.size) Tryz.underlying22 Tryz.underlying5 (by kernel_rfl) (fun _ h => h) q1b
 simp only [Vm, Wu] at ebb
 subst ebb
 obtain ⟨vd, zzd, ed, gd, nd, od⟩ := f7 (k := .u8) (S := fun b => b < W.heap.size) Tryz.underlying22 Tryz.underlying5 (by kernel_rfl) (fun _ h => h) f3
 simp only [Vm, Wu] at ed
 subst ed
 obtain ⟨ve, zze, ee, ge, ne, oe⟩ := f7 (k := .u8) (S := fun b => b < W.heap.size) Tryz.underlying22 Tryz.underlying5 (by kernel_rfl) (fun _ h => h) f4
 simp only [Vm, Wu] at ee
 subst ee
 obtain ⟨vl, zzl, el, gl, nl, ol⟩ := f7 (k := .u8) (S := fun b => b < W.heap.size) Tryz.underlying22 Tryz.underlying5 (by kernel_rfl) (fun _ h => h) f5
 simp only [Vm, Wu] at el
 subst el
 obtain ⟨vn, zzn, en, gn, nn, on⟩ := f7 (k := .u8) (S := fun b => b < W.heap.size) Tryz.underlying22 Tryz.underlying5 (by kernel_rfl) (fun _ h => h) f6
 simp only [Vm, Wu] at en
 subst en
 obtain ⟨az, lz, cz, rfl⟩ := okWide_slice Tryz.underlying27 okv1
 obtain ⟨fuelz, hfz9⟩ := h1
 obtain ⟨vz9, lb, ez9, nlb, olb⟩ := AR (S := fun b => b < W.heap.size) Tryz.underlying27 Tryz.underlying4 (by kernel_rfl) (fun _ h => h) hfz9
 simp only [Value.cells, Vm, Wu] at ez9
 subst ez9
 refine (Eu (K4 zsa zzba zsb zzbb oth zzd zze zzl zzn lb (GI wzsa).1 (GI wzsa).2 (ut gba) (GI wzsb).1 (GI wzsb).2 (ut gbb) (ut gd) (ut ge) (ut gl) (ut gn) (U6 nlb (by decide))) _ W (PB (M4 (us := [.int .u8 zsa, _, .int .u8 zsb, _, .bool oth, _, _, _, _]) ⟨.v _ _ (.int _ _), .v _ _ oba, .v _ _ (.int _ _), .v _ _ obb, .v _ _ (.bool _), .v _ _ od, .v _ _ oe, .v _ _ ol, .v _ _ on, trivial⟩) (.v _ _ olb))).mono fun e W' ⟨he, bel⟩ => ?_
 subst he
 exact ⟨_, rfl, _, _, _, [], _, [], hW', trodAll_mk1 (shut_bool Tryz.underlying4 _), (trodAll_cons_mk (Below.trod laidOut (by kernel_rfl) (VF (by kernel_rfl)) k0 bel lt0) (trodAll_cons_mk (Below.trod laidOut (by kernel_rfl) (VF (by kernel_rfl)) k1 bel lt1) trodAll_mk0)), rfl, bel.frame _, fun h => by cases h⟩
theorem over : Rows.migrateRenamedRow.holds Tryz.pinned (OpenSpec.ofChange Rows.migrateRenamedSpec) :=
 OpenClaim.holds_of_wide 3 Tryz.f3 rfl rfl rfl rfl rfl rfl rfl ⟨rfl, rfl, rfl, rfl, rfl⟩ rfl rfl rfl rfl rfl (by kernel_rfl) Tryz.func3 (by kernel_rfl)
  (VF (by kernel_rfl)) (by unfold Func.isWrapper; first | (rw [Uw (by decide +kernel)]; kernel_rfl) | (rw [Ur (by decide +kernel)]; exact ⟨rfl, rfl⟩))
  (fun os started H enc _ => lifted os started H enc)
theorem proved : Rows.MigrateRenamedSaid := over
end Go.Proofs.YtnlmlkbaflmgcaaGreat.migrateRenamedRow
