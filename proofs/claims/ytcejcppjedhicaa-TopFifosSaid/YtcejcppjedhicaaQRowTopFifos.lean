/-
  TopFifos answers true for every input, and leaves its arguments as they were. No condition.
-/
import Derived.Test.YtcejcppjedhicaaRows
import Derived.Test.YtcejcppjedhicaaChecked
import Derived.Test.YtcejcppjedhicaaQTfH
namespace Go.Proofs.Ytcejcppjedhicaa.topFifosRow
open Go.ChangeShapes Go.WideShapes Go.ChangeAt Go.RowKit
open Go.ChangeMaps (open_string shut_string)
set_option linter.unusedSimpArgs false
set_option linter.unusedVariables false
theorem own : ownKnob Try.prog.godebug = none := by kernel_rfl
theorem laidOut : laidOutB Try.prog = true := by kernel_rfl
set_option maxRecDepth 100000 in
theorem lifted (os : Os) (started : os.Started) (H : Type) (enc : TypeId × Value → H) :
  ReturnsInHanded {} Try.checked os 3 .any (Rows.topFifosSpec.pre6 enc Try.prog Try.f3 Rows.topFifosRow.domain false) (Rows.topFifosSpec.post enc Try.prog Try.f3 false true false false) := by
 refine returnsInHanded_of_change (C := Try.checked) own started (by kernel_rfl) Try.func3
  (ChangeSpec.witness6 (enc := enc) (C := Try.checked) false ⟨#[], #[.agg #[.int .u8 0, .slice none 0 0], .slice none 0 0, .slice none 0 0], []⟩ 8 (by kernel_rfl) (by kernel_rfl) (by kernel_rfl) (by kernel_rfl)) ?_
 intro W base args ds gs before hval0 hW hcnd _
 have hval : ∀ (j : Nat) t v, Try.f3.params[j]? = some t → args[j]? = some v → Value.okWide Try.prog W .any base t v := hval0
 have hW' := hW
 obtain ⟨p, q, hA0, hV, rfl, hfz, hnd⟩ := hW
 have hA : DataW.TrodAll enc Try.prog W 0 (fun _ => true) true Try.f3.params.toList args.toList ds p := hA0
 rw [Try.params3] at hA hval
 obtain ⟨v0, vs0, d0, ds0, p0, q0, hargs, rfl, rfl, h0, r0⟩ := trodAll_cons hA
 obtain ⟨v1, vs1, d1, ds1, p1, q1, rfl, rfl, rfl, h1, r1⟩ := trodAll_cons r0
 obtain ⟨v2, vs2, d2, ds2, p2, q2, rfl, rfl, rfl, h2, r2⟩ := trodAll_cons r1
 obtain ⟨rfl, rfl, rfl⟩ := trodAll_nil r2
 obtain rfl : args = #[v0, v1, v2] := by cases args; simp_all
 obtain ⟨rfl, rfl⟩ := trodVars_none hV
 have lt0 : ∀ x ∈ p0, x.block < W.heap.size := by obtain ⟨m, hm⟩ := h0; exact DataW.trod_lt m _ _ _ hm
 have lt1 : ∀ x ∈ p1, x.block < W.heap.size := by obtain ⟨m, hm⟩ := h1; exact DataW.trod_lt m _ _ _ hm
 have lt2 : ∀ x ∈ p2, x.block < W.heap.size := by obtain ⟨m, hm⟩ := h2; exact DataW.trod_lt m _ _ _ hm
 have k0 := h0
 have k1 := h1
 have k2 := h2
 have okv0 : Value.okWide Try.prog W .any base 24 v0 := hval 0 24 v0 rfl rfl
 have okv1 : Value.okWide Try.prog W .any base 22 v1 := hval 1 22 v1 rfl rfl
 have okv2 : Value.okWide Try.prog W .any base 22 v2 := hval 2 22 v2 rfl rfl
 clear hA0 hval0 hval
 have e8 : Try.prog.cellsOf 5 = 1 := by kernel_rfl
 have eU : Try.prog.cellsOf 22 = 1 := by kernel_rfl
 obtain ⟨cs, rfl, hcs⟩ := vj Try.underlying24 (show Try.prog.cellsOf 24 = 2 by kernel_rfl) okv0
 obtain ⟨c0, c1, rfl⟩ := L1 cs hcs
 obtain ⟨fuel, hf⟩ := h0
 obtain ⟨m, hfld⟩ := GT Try.underlying24 hf
 have hcl : (Value.agg [c0, c1].toArray).cells.toList = [c0, c1] := rfl
 rw [hcl] at hfld
 obtain ⟨y0, f0⟩ := hfld 0 _ rfl
 simp only [List.getElem_toArray, List.getElem_cons_zero, List.getElem_cons_succ, e8, eU, List.drop_zero, List.drop_succ_cons, List.take_succ_cons, List.take_zero] at f0
 obtain ⟨y1, f1⟩ := hfld 1 _ rfl
 simp only [List.getElem_toArray, List.getElem_cons_zero, List.getElem_cons_succ, e8, eU, List.drop_zero, List.drop_succ_cons, List.take_succ_cons, List.take_zero] at f1
 obtain ⟨zs, ezs, -, wzs⟩ := DataW.trod_int Try.underlying5 f0
 simp only [Pn, and_true] at ezs
 subst ezs
 obtain ⟨vb, zzb, eb, gb, nb, ob⟩ := r9 (k := .u8) (S := fun b => b < W.heap.size) Try.underlying22 Try.underlying5 (by kernel_rfl) (fun _ h => h) f1
 simp only [Pn, and_true] at eb
 subst eb
 obtain ⟨bb, gbb, nbb, obb⟩ := jA (k := .u8) (S := fun b => b < W.heap.size) Try.underlying22 Try.underlying5 (by kernel_rfl) (fun _ h => h) okv1 h1
 obtain ⟨cl, gcl, ncl, ocl⟩ := jA (k := .u8) (S := fun b => b < W.heap.size) Try.underlying22 Try.underlying5 (by kernel_rfl) (fun _ h => h) okv2 h2
 refine (Bw (Ir zs zzb bb cl (I4 wzs).1 (I4 wzs).2 (Bx gb) (Bx gbb) (Bx gcl)) _ W (Kw (It (us := [.int .u8 zs, _]) ⟨.v _ _ (.int _ _), .v _ _ ob, trivial⟩) (.v _ _ obb) (.v _ _ ocl))).mono fun e W' ⟨he, bel⟩ => ?_
 subst he
 exact ⟨_, rfl, _, _, _, [], _, [], hW', trodAll_mk1 (shut_bool Try.underlying4 _), (trodAll_cons_mk (Below.trod laidOut (by kernel_rfl) (O4 (by kernel_rfl)) k0 bel lt0) (trodAll_cons_mk (Below.trod laidOut (by kernel_rfl) (O4 (by kernel_rfl)) k1 bel lt1) (trodAll_cons_mk (Below.trod laidOut (by kernel_rfl) (O4 (by kernel_rfl)) k2 bel lt2) trodAll_mk0))), rfl, bel.frame _, fun h => by cases h⟩
theorem over : Rows.topFifosRow.holds Try.pinned (OpenSpec.ofChange Rows.topFifosSpec) :=
 OpenClaim.holds_of_wide 3 Try.f3 rfl rfl rfl rfl rfl rfl rfl ⟨rfl, rfl, rfl, rfl, rfl⟩ rfl rfl rfl rfl rfl (by kernel_rfl) Try.func3 (by kernel_rfl)
  (O4 (by kernel_rfl)) (by unfold Func.isWrapper; first | (rw [NT (by decide +kernel)]; kernel_rfl) | (rw [NQ (by decide +kernel)]; exact ⟨rfl, rfl⟩))
  (fun os started H enc _ => lifted os started H enc)
theorem proved : Rows.TopFifosSaid := over
end Go.Proofs.Ytcejcppjedhicaa.topFifosRow
