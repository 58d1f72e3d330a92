/-
  BitsMatchesReference answers true for every input, and leaves its arguments as they were. No condition.
-/
import Derived.Test.YtaghhicmnalmmaaRows
import Derived.Test.YtaghhicmnalmmaaChecked
import Derived.Test.YtaghhicmnalmmaaBitV
import Derived.Test.YtaghhicmnalmmaaOpenC
import Derived.Test.YtaghhicmnalmmaaOpen
namespace Go.Proofs.Ytaghhicmnalmmaa.bitsMatchesReferenceRow
open Go.ChangeShapes Go.WideShapes Go.ChangeAt Go.RowKit
open Go.ChangeMaps (open_string shut_string)

theorem own : ownKnob Try.prog.godebug = none := by kernel_rfl
theorem laidOut : laidOutB Try.prog = true := by kernel_rfl

set_option maxRecDepth 100000 in
theorem lifted (os : Os) (started : os.Started) (H : Type) (enc : TypeId × Value → H) :
    ReturnsInHanded {} Try.checked os 3 .any (Rows.bitsMatchesReferenceSpec.pre6 enc Try.prog Try.f3 Rows.bitsMatchesReferenceRow.domain false) (Rows.bitsMatchesReferenceSpec.post enc Try.prog Try.f3 false true false false) := by
  refine returnsInHanded_of_change (C := Try.checked) own started (by kernel_rfl) Try.func3
    (ChangeSpec.witness6 (enc := enc) (C := Try.checked) false ⟨#[], #[.agg #[.int .i64 0, .int .i64 0, .int .i64 0, .slice none 0 0, .slice none 0 0, .slice none 0 0, .int .i64 0, .int .i64 0, .slice none 0 0]], []⟩ 8 (by kernel_rfl) (by kernel_rfl) (by kernel_rfl) (by kernel_rfl)) ?_
  intro W base args ds gs before hval0 hW hcnd _
  have hval : ∀ (j : Nat) t v, Try.f3.params[j]? = some t → args[j]? = some v → Value.okWide Try.prog W .any base t v := hval0
  have hW' := hW
  obtain ⟨p, q, hA0, hV, rfl, hfz, hnd⟩ := hW
  have hA : DataW.TrodAll enc Try.prog W 0 (fun _ => true) true Try.f3.params.toList args.toList ds p := hA0
  rw [Try.params3] at hA hval
  obtain ⟨v0, vs0, d0, ds0, p0, q0, hargs, rfl, rfl, h0, r0⟩ := trodAll_cons hA
  obtain ⟨rfl, rfl, rfl⟩ := trodAll_nil r0
  obtain rfl : args = #[v0] := by cases args; simp_all
  obtain ⟨rfl, rfl⟩ := trodVars_none hV
  have lt0 : ∀ x ∈ p0, x.block < W.heap.size := by obtain ⟨m, hm⟩ := h0; exact DataW.trod_lt m _ _ _ hm
  have k0 := h0
  have okv0 : Value.okWide Try.prog W .any base 26 v0 := hval 0 26 v0 rfl rfl
  clear hA0 hval0 hval
  have eI : Try.prog.cellsOf 3 = 1 := by kernel_rfl
  have eS : Try.prog.cellsOf 22 = 1 := by kernel_rfl
  have eB : Try.prog.cellsOf 24 = 1 := by kernel_rfl
  have eA : Try.prog.cellsOf 23 = 2 := by kernel_rfl
  obtain ⟨cs, rfl, hcs⟩ := agg_of_struct Try.underlying26 (show Try.prog.cellsOf 26 = 9 by kernel_rfl) okv0
  obtain ⟨c0, c1, c2, c3, c4, c5, c6, c7, c8, rfl⟩ := list9 cs hcs
  obtain ⟨fuel, hf⟩ := h0
  obtain ⟨m, hfld⟩ := field_of Try.underlying26 hf
  have hcl : (Value.agg [c0, c1, c2, c3, c4, c5, c6, c7, c8].toArray).cells.toList = [c0, c1, c2, c3, c4, c5, c6, c7, c8] := rfl
  rw [hcl] at hfld
  obtain ⟨y0, f0⟩ := hfld 0 _ rfl
  simp only [List.getElem_toArray, List.getElem_cons_zero, List.getElem_cons_succ, eI, eS, eB, eA, List.drop_zero, List.drop_succ_cons, List.take_succ_cons, List.take_zero] at f0
  obtain ⟨y1, f1⟩ := hfld 1 _ rfl
  simp only [List.getElem_toArray, List.getElem_cons_zero, List.getElem_cons_succ, eI, eS, eB, eA, List.drop_zero, List.drop_succ_cons, List.take_succ_cons, List.take_zero] at f1
  obtain ⟨y2, f2⟩ := hfld 2 _ rfl
  simp only [List.getElem_toArray, List.getElem_cons_zero, List.getElem_cons_succ, eI, eS, eB, eA, List.drop_zero, List.drop_succ_cons, List.take_succ_cons, List.take_zero] at f2
  obtain ⟨y3, f3⟩ := hfld 3 _ rfl
  simp only [List.getElem_toArray, List.getElem_cons_zero, List.getElem_cons_succ, eI, eS, eB, eA, List.drop_zero, List.drop_succ_cons, List.take_succ_cons, List.take_zero] at f3
  obtain ⟨y4, f4⟩ := hfld 4 _ rfl
  simp only [List.getElem_toArray, List.getElem_cons_zero, List.getElem_cons_succ, eI, eS, eB, eA, List.drop_zero, List.drop_succ_cons, List.take_succ_cons, List.take_zero] at f4
  obtain ⟨y5, f5⟩ := hfld 5 _ rfl
  simp only [List.getElem_toArray, List.getElem_cons_zero, List.getElem_cons_succ, eI, eS, eB, eA, List.drop_zero, List.drop_succ_cons, List.take_succ_cons, List.take_zero] at f5
  obtain ⟨y6, f6⟩ := hfld 6 _ rfl
  simp only [List.getElem_toArray, List.getElem_cons_zero, List.getElem_cons_succ, eI, eS, eB, eA, List.drop_zero, List.drop_succ_cons, List.take_succ_cons, List.take_zero] at f6
  obtain ⟨y7, f7⟩ := hfld 7 _ rfl
  simp only [List.getElem_toArray, List.getElem_cons_zero, List.getElem_cons_succ, eI, eS, eB, eA, List.drop_zero, List.drop_succ_cons, List.take_succ_cons, List.take_zero] at f7
  obtain ⟨zo, ezo, -, wzo⟩ := DataW.trod_int Try.underlying3 f0
  simp only [List.cons.injEq, and_true] at ezo
  subst ezo
  obtain ⟨zv, ezv, -, wzv⟩ := DataW.trod_int Try.underlying3 f1
  simp only [List.cons.injEq, and_true] at ezv
  subst ezv
  obtain ⟨zw, ezw, -, wzw⟩ := DataW.trod_int Try.underlying3 f2
  simp only [List.cons.injEq, and_true] at ezw
  subst ezw
  obtain ⟨va, za, ea, ga, na, oa⟩ := rep_ints_at (k := .i64) (S := fun b => b < W.heap.size) Try.underlying22 Try.underlying3 (by kernel_rfl) (fun _ h => h) f3
  simp only [List.cons.injEq, and_true] at ea
  subst ea
  obtain ⟨vb, zb, eb, gb, nb, ob⟩ := rep_ints_at (k := .i64) (S := fun b => b < W.heap.size) Try.underlying22 Try.underlying3 (by kernel_rfl) (fun _ h => h) f4
  simp only [List.cons.injEq, and_true] at eb
  subst eb
  obtain ⟨vc, zc, ec, gc, nc, oc⟩ := rep_ints_at (k := .i64) (S := fun b => b < W.heap.size) Try.underlying22 Try.underlying3 (by kernel_rfl) (fun _ h => h) f5
  simp only [List.cons.injEq, and_true] at ec
  subst ec
  obtain ⟨xs2, hx2, ex2, -⟩ := ints_arr_at (k := .i64) Try.underlying23 Try.underlying3 (by kernel_rfl) (by kernel_rfl) f6
  obtain ⟨zk, zl, rfl⟩ := list2 xs2 hx2
  simp only [List.map_cons, List.map_nil, List.cons.injEq, and_true] at ex2
  obtain ⟨rfl, rfl⟩ := ex2
  obtain ⟨vl, zL, eL, nL, oL⟩ := rep_bools_at (S := fun b => b < W.heap.size) Try.underlying24 Try.underlying4 (by kernel_rfl) (fun _ h => h) f7
  simp only [List.cons.injEq, and_true] at eL
  subst eL
  refine (calls_pure (matches_law zo zv zw zk zl za zb zc zL (by simpa [maxLen] using na) (by simpa [maxLen] using nb) (by simpa [maxLen] using nc) (by simpa [maxLen] using nL)) _ W (reps1D (rep_agg (us := [.int .i64 zo, .int .i64 zv, .int .i64 zw, _, _, _, .int .i64 zk, .int .i64 zl, _]) ⟨.v _ _ (.int _ _), .v _ _ (.int _ _), .v _ _ (.int _ _), .v _ _ oa, .v _ _ ob, .v _ _ oc, .v _ _ (.int _ _), .v _ _ (.int _ _), .v _ _ oL, trivial⟩))).mono fun e W' ⟨he, bel⟩ => ?_
  subst he
  exact ⟨_, rfl, _, _, _, [], _, [], hW', trodAll_mk1 (shut_bool Try.underlying4 _), (trodAll_cons_mk (Below.trod laidOut (by kernel_rfl) (of_decide_eq_true (by kernel_rfl)) k0 bel lt0) trodAll_mk0), rfl, bel.frame _, fun h => by cases h⟩

theorem over : Rows.bitsMatchesReferenceRow.holds Try.pinned (OpenSpec.ofChange Rows.bitsMatchesReferenceSpec) :=
  OpenClaim.holds_of_wide 3 Try.f3 rfl rfl rfl rfl rfl rfl rfl ⟨rfl, rfl, rfl, rfl, rfl⟩ rfl rfl rfl rfl rfl (by kernel_rfl) Try.func3 (by kernel_rfl)
    (of_decide_eq_true (by kernel_rfl)) (by unfold Func.isWrapper; first | (rw [if_pos (by decide +kernel)]; kernel_rfl) | (rw [if_neg (by decide +kernel)]; exact ⟨rfl, rfl⟩))
    (fun os started H enc _ => lifted os started H enc)

theorem proved : Rows.BitsMatchesReferenceSaid := over

end Go.Proofs.Ytaghhicmnalmmaa.bitsMatchesReferenceRow
