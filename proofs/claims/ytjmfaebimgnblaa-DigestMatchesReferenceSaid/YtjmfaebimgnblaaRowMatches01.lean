/-
  DigestMatchesReference answers true for every input, and leaves its arguments as they were. No condition.
-/
import Derived.Test.YtjmfaebimgnblaaDigJ
import Derived.Test.YtjmfaebimgnblaaOpenB
import Derived.Test.YtjmfaebimgnblaaOpen
namespace Go.Proofs.Ytjmfaebimgnblaa.digestMatchesReferenceRow
open Go.ChangeShapes Go.WideShapes Go.ChangeAt Go.RowKit
open Go.ChangeMaps (open_string shut_string)

theorem own : ownKnob Try.prog.godebug = none := by kernel_rfl
theorem laidOut : laidOutB Try.prog = true := by kernel_rfl

set_option maxRecDepth 100000 in
theorem lifted (os : Os) (started : os.Started) (H : Type) (enc : TypeId × Value → H) :
    ReturnsInHanded {} Try.checked os 13 .any (Rows.digestMatchesReferenceSpec.pre6 enc Try.prog Try.f13 Rows.digestMatchesReferenceRow.domain false) (Rows.digestMatchesReferenceSpec.post enc Try.prog Try.f13 false true false false) := by
  refine returnsInHanded_of_change (C := Try.checked) own started (by kernel_rfl) Try.func13
    (ChangeSpec.witness6 (enc := enc) (C := Try.checked) false ⟨#[], #[.slice none 0 0, .slice none 0 0, .agg #[.int .u64 0, .int .u64 0, .int .i64 0, .slice none 0 0, .int .i64 0, .int .u64 0, .int .u16 0]], []⟩ 8 (by kernel_rfl) (by kernel_rfl) (by kernel_rfl) (by kernel_rfl)) ?_
  intro W base args ds gs before hval0 hW hcnd _
  have hval : ∀ (j : Nat) t v, Try.f13.params[j]? = some t → args[j]? = some v → Value.okWide Try.prog W .any base t v := hval0
  have hW' := hW
  obtain ⟨p, q, hA0, hV, rfl, hfz, hnd⟩ := hW
  have hA : DataW.TrodAll enc Try.prog W 0 (fun _ => true) true Try.f13.params.toList args.toList ds p := hA0
  rw [Try.params13] at hA hval
  obtain ⟨v0, vs0, d0, ds0, p0, q0, hargs, rfl, rfl, h0, r0⟩ := trodAll_cons hA
  obtain ⟨v1, vs1, d1, ds1, p1, q1, rfl, rfl, rfl, h1, r1⟩ := trodAll_cons r0
  obtain ⟨v2, vs2, d2, ds2, p2, q2, rfl, rfl, rfl, h2, r2⟩ := trodAll_cons r1
  obtain ⟨rfl, rfl, rfl⟩ := trodAll_nil r2
  obtain rfl : args = #[v0, v1, v2] := by cases args; simp_all
  obtain ⟨rfl, rfl⟩ := trodVars_none hV
  have lt0 : ∀ x ∈ p0, x.block < W.heap.size := by obtain ⟨m, hm⟩ := h0; exact DataW.trod_lt m _ _ _ hm
  have lt1 : ∀ x ∈ p1, x.block < W.heap.size := by obtain ⟨m, hm⟩ := h1; exact DataW.trod_lt m _ _ _ hm
  have lt2 : ∀ x ∈ p2, x.block < W.heap.size := by obtain ⟨m, hm⟩ := h2; exact DataW.trod_lt m _ _ _ hm
  have k0 := h0
  have k1 := h1
  have k2 := h2
  have okv0 : Value.okWide Try.prog W .any base 52 v0 := hval 0 52 v0 rfl rfl
  have okv1 : Value.okWide Try.prog W .any base 47 v1 := hval 1 47 v1 rfl rfl
  have okv2 : Value.okWide Try.prog W .any base 72 v2 := hval 2 72 v2 rfl rfl
  clear hA0 hval0 hval
  obtain ⟨l, gl, nl, ol⟩ := rep_ints_of_trod (k := .i64) (S := fun b => b < W.heap.size) Try.underlying52 Try.underlying3 (by kernel_rfl) (fun _ h => h) okv0 h0
  obtain ⟨b, gb, nb, ob⟩ := rep_ints_of_trod (k := .u8) (S := fun b => b < W.heap.size) Try.underlying47 Try.underlying5 (by kernel_rfl) (fun _ h => h) okv1 h1
  have e64 : Try.prog.cellsOf 33 = 1 := by kernel_rfl
  have eI : Try.prog.cellsOf 3 = 1 := by kernel_rfl
  have eS : Try.prog.cellsOf 22 = 1 := by kernel_rfl
  have e16 : Try.prog.cellsOf 23 = 1 := by kernel_rfl
  have eT : Try.prog.cellsOf 36 = 2 := by kernel_rfl
  have eL : Try.prog.cellsOf 38 = 2 := by kernel_rfl
  obtain ⟨cs, rfl, hcs⟩ := agg_of_struct Try.underlying72 (show Try.prog.cellsOf 72 = 7 by kernel_rfl) okv2
  obtain ⟨c0, c1, c2, c3, c4, c5, c6, rfl⟩ := list7 cs hcs
  obtain ⟨fuel, hf⟩ := h2
  obtain ⟨m, hfld⟩ := field_of Try.underlying72 hf
  have hcl : (Value.agg [c0, c1, c2, c3, c4, c5, c6].toArray).cells.toList = [c0, c1, c2, c3, c4, c5, c6] := rfl
  rw [hcl] at hfld
  obtain ⟨y0, f0⟩ := hfld 0 _ rfl
  simp only [List.getElem_toArray, List.getElem_cons_zero, List.getElem_cons_succ, e64, eI, eS, eT, eL, e16, List.drop_zero, List.drop_succ_cons, List.take_succ_cons, List.take_zero] at f0
  obtain ⟨y1, f1⟩ := hfld 1 _ rfl
  simp only [List.getElem_toArray, List.getElem_cons_zero, List.getElem_cons_succ, e64, eI, eS, eT, eL, e16, List.drop_zero, List.drop_succ_cons, List.take_succ_cons, List.take_zero] at f1
  obtain ⟨y2, f2⟩ := hfld 2 _ rfl
  simp only [List.getElem_toArray, List.getElem_cons_zero, List.getElem_cons_succ, e64, eI, eS, eT, eL, e16, List.drop_zero, List.drop_succ_cons, List.take_succ_cons, List.take_zero] at f2
  obtain ⟨y3, f3⟩ := hfld 3 _ rfl
  simp only [List.getElem_toArray, List.getElem_cons_zero, List.getElem_cons_succ, e64, eI, eS, eT, eL, e16, List.drop_zero, List.drop_succ_cons, List.take_succ_cons, List.take_zero] at f3
  obtain ⟨y4, f4⟩ := hfld 4 _ rfl
  simp only [List.getElem_toArray, List.getElem_cons_zero, List.getElem_cons_succ, e64, eI, eS, eT, eL, e16, List.drop_zero, List.drop_succ_cons, List.take_succ_cons, List.take_zero] at f4
  obtain ⟨m2, hfld2⟩ := field_of Try.underlying36 f2
  obtain ⟨m3, hfld3⟩ := field_of Try.underlying38 f3
  obtain ⟨ya0, fa0⟩ := hfld2 0 _ rfl
  simp only [List.getElem_toArray, List.getElem_cons_zero, List.getElem_cons_succ, e64, eI, eS, eT, eL, e16, List.drop_zero, List.drop_succ_cons, List.take_succ_cons, List.take_zero] at fa0
  obtain ⟨ya1, fa1⟩ := hfld2 1 _ rfl
  simp only [List.getElem_toArray, List.getElem_cons_zero, List.getElem_cons_succ, e64, eI, eS, eT, eL, e16, List.drop_zero, List.drop_succ_cons, List.take_succ_cons, List.take_zero] at fa1
  obtain ⟨yb0, fb0⟩ := hfld3 0 _ rfl
  simp only [List.getElem_toArray, List.getElem_cons_zero, List.getElem_cons_succ, e64, eI, eS, eT, eL, e16, List.drop_zero, List.drop_succ_cons, List.take_succ_cons, List.take_zero] at fb0
  obtain ⟨yb1, fb1⟩ := hfld3 1 _ rfl
  simp only [List.getElem_toArray, List.getElem_cons_zero, List.getElem_cons_succ, e64, eI, eS, eT, eL, e16, List.drop_zero, List.drop_succ_cons, List.take_succ_cons, List.take_zero] at fb1
  obtain ⟨za, eza, -, wza⟩ := DataW.trod_int Try.underlying33 f0
  simp only [List.cons.injEq, and_true] at eza
  subst eza
  obtain ⟨zb, ezb, -, wzb⟩ := DataW.trod_int Try.underlying33 f1
  simp only [List.cons.injEq, and_true] at ezb
  subst ezb
  obtain ⟨zn, ezn, -, wzn⟩ := DataW.trod_int Try.underlying3 fa0
  simp only [List.cons.injEq, and_true] at ezn
  subst ezn
  obtain ⟨zi, ezi, -, wzi⟩ := DataW.trod_int Try.underlying3 fb0
  simp only [List.cons.injEq, and_true] at ezi
  subst ezi
  obtain ⟨zd, ezd, -, wzd⟩ := DataW.trod_int Try.underlying33 fb1
  simp only [List.cons.injEq, and_true] at ezd
  subst ezd
  obtain ⟨zk, ezk, -, wzk⟩ := DataW.trod_int Try.underlying23 f4
  simp only [List.cons.injEq, and_true] at ezk
  subst ezk
  obtain ⟨vp, zp, ep, gp, np, op⟩ := rep_ints_at (k := .u64) (S := fun b => b < W.heap.size) Try.underlying22 Try.underlying33 (by kernel_rfl) (fun _ h => h) fa1
  simp only [List.cons.injEq, and_true] at ep
  subst ep
  obtain ⟨zk, rfl, bk⟩ := fits_nat (k := .u16) wzk rfl
  have emx : IntKind.u16.max = 65535 := rfl
  refine (calls_pure (matches01_law l b za zb zn zp zi zd zk (by simpa [maxLen] using nl) (by simpa [maxLen] using nb) (fun x hx => u8_of_fits (gb x hx)) (by simpa [maxLen] using np) (by omega)) _ W (reps3D (.v _ _ ol) (.v _ _ ob) (rep_agg (us := [.int .u64 za, .int .u64 zb, .int .i64 zn, _, .int .i64 zi, .int .u64 zd, .int .u16 (zk : Int)]) ⟨.v _ _ (.int _ _), .v _ _ (.int _ _), .v _ _ (.int _ _), .v _ _ op, .v _ _ (.int _ _), .v _ _ (.int _ _), .v _ _ (.int _ _), trivial⟩))).mono fun e W' ⟨he, bel⟩ => ?_
  subst he
  exact ⟨_, rfl, _, _, _, [], _, [], hW', trodAll_mk1 (shut_bool Try.underlying4 _), (trodAll_cons_mk (Below.trod laidOut (by kernel_rfl) (of_decide_eq_true (by kernel_rfl)) k0 bel lt0) (trodAll_cons_mk (Below.trod laidOut (by kernel_rfl) (of_decide_eq_true (by kernel_rfl)) k1 bel lt1) (trodAll_cons_mk (Below.trod laidOut (by kernel_rfl) (of_decide_eq_true (by kernel_rfl)) k2 bel lt2) trodAll_mk0))), rfl, bel.frame _, fun h => by cases h⟩

theorem over : Rows.digestMatchesReferenceRow.holds Try.pinned (OpenSpec.ofChange Rows.digestMatchesReferenceSpec) :=
  OpenClaim.holds_of_wide 13 Try.f13 rfl rfl rfl rfl rfl rfl rfl ⟨rfl, rfl, rfl, rfl, rfl⟩ rfl rfl rfl rfl rfl (by kernel_rfl) Try.func13 (by kernel_rfl)
    (of_decide_eq_true (by kernel_rfl)) (by unfold Func.isWrapper; first | (rw [if_pos (by decide +kernel)]; kernel_rfl) | (rw [if_neg (by decide +kernel)]; exact ⟨rfl, rfl⟩))
    (fun os started H enc _ => lifted os started H enc)

theorem proved : Rows.DigestMatchesReferenceSaid := over

end Go.Proofs.Ytjmfaebimgnblaa.digestMatchesReferenceRow
