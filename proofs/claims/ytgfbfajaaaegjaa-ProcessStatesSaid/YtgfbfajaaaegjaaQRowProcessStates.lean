/-
  ProcessStates answers true for every input, and leaves its arguments as they were. No condition.
-/
import Derived.Test.YtgfbfajaaaegjaaRows
import Derived.Test.YtgfbfajaaaegjaaChecked
import Derived.Test.YtgfbfajaaaegjaaQPcR
import Derived.Test.YtgfbfajaaaegjaaQOpenG
import Derived.ProofKit
import Derived.OpenShut
import Derived.ShutString
import Derived.ChangeOld
namespace Go.Proofs.Ytgfbfajaaaegjaa.processStatesRow
open Go.ChangeShapes Go.WideShapes Go.ChangeAt Go.RowKit
open Go.ChangeMaps (open_string shut_string)
set_option linter.unusedSimpArgs false
set_option linter.unusedVariables false
theorem own : ownKnob Try.prog.godebug = none := by kernel_rfl
theorem laidOut : laidOutB Try.prog = true := by kernel_rfl
set_option maxRecDepth 100000 in
theorem lifted (os : Os) (started : os.Started) (H : Type) (enc : TypeId × Value → H) :
  ReturnsInHanded {} Try.checked os 8 .any (Rows.processStatesSpec.pre6 enc Try.prog Try.f8 Rows.processStatesRow.domain false) (Rows.processStatesSpec.post enc Try.prog Try.f8 false true false false) := by
 refine returnsInHanded_of_change (C := Try.checked) own started (by kernel_rfl) Try.func8
  (ChangeSpec.witness6 (enc := enc) (C := Try.checked) false ⟨#[], #[.agg #[.slice none 0 0], .agg #[.slice none 0 0, .slice none 0 0]], []⟩ 8 (by kernel_rfl) (by kernel_rfl) (by kernel_rfl) (by kernel_rfl)) ?_
 intro W base args ds gs before hval0 hW hcnd _
 have hval : ∀ (j : Nat) t v, Try.f8.params[j]? = some t → args[j]? = some v → Value.okWide Try.prog W .any base t v := hval0
 have hW' := hW
 obtain ⟨p, q, hA0, hV, rfl, hfz, hnd⟩ := hW
 have hA : DataW.TrodAll enc Try.prog W 0 (fun _ => true) true Try.f8.params.toList args.toList ds p := hA0
 rw [Try.params8] at hA hval
 obtain ⟨v0, vs0, d0, ds0, p0, q0, hargs, rfl, rfl, h0, r0⟩ := trodAll_cons hA
 obtain ⟨v1, vs1, d1, ds1, p1, q1, rfl, rfl, rfl, h1, r1⟩ := trodAll_cons r0
 obtain ⟨rfl, rfl, rfl⟩ := trodAll_nil r1
 obtain rfl : args = #[v0, v1] := by cases args; simp_all
 obtain ⟨rfl, rfl⟩ := trodVars_none hV
 have lt0 : ∀ x ∈ p0, x.block < W.heap.size := by obtain ⟨m, hm⟩ := h0; exact DataW.trod_lt m _ _ _ hm
 have lt1 : ∀ x ∈ p1, x.block < W.heap.size := by obtain ⟨m, hm⟩ := h1; exact DataW.trod_lt m _ _ _ hm
 have k0 := h0
 have k1 := h1
 have okv0 : Value.okWide Try.prog W .any base 24 v0 := hval 0 24 v0 rfl rfl
 have okv1 : Value.okWide Try.prog W .any base 75 v1 := hval 1 75 v1 rfl rfl
 clear hA0 hval0 hval
 have e8 : Try.prog.cellsOf 5 = 1 := by kernel_rfl
 have eU : Try.prog.cellsOf 22 = 1 := by kernel_rfl
 obtain ⟨cs, rfl, hcs⟩ := rB Try.underlying24 (show Try.prog.cellsOf 24 = 1 by kernel_rfl) okv0
 obtain ⟨c0, rfl⟩ := Db cs hcs
 obtain ⟨fuel, hf⟩ := h0
 obtain ⟨m, hfld⟩ := zC Try.underlying24 hf
 have hcl : (Value.agg [c0].toArray).cells.toList = [c0] := rfl
 rw [hcl] at hfld
 obtain ⟨y0, f0⟩ := hfld 0 _ rfl
 simp only [List.getElem_toArray, List.getElem_cons_zero, List.getElem_cons_succ, eU, e8, List.drop_zero, List.drop_succ_cons, List.take_succ_cons, List.take_zero] at f0
 obtain ⟨vb, zzb, eb, gb, nb, ob⟩ := jV (k := .u8) (S := fun b => b < W.heap.size) Try.underlying22 Try.underlying5 (by kernel_rfl) (fun _ h => h) f0
 simp only [List.cons.injEq, and_true] at eb
 subst eb
 obtain ⟨ds, rfl, hds⟩ := tS Try.underlying75 (show Try.prog.cellsOf 75 = 2 by kernel_rfl) okv1
 obtain ⟨j0, j1, rfl⟩ := Bd ds hds
 obtain ⟨fuel2, hf2⟩ := h1
 have hcl2 : (Value.agg [j0, j1].toArray).cells.toList = [j0, j1] := rfl
 rw [hcl2] at hf2
 obtain ⟨w0, w1, ka, kb, ek, gka, gkb, nka, nkb, oka, okb⟩ := tR (k := .u8) Try.underlying75 Try.underlying22 Try.underlying5 (by kernel_rfl) (by kernel_rfl) (by kernel_rfl) hf2
 simp only [List.cons.injEq, and_true] at ek
 obtain ⟨rfl, rfl⟩ := ek
 refine (wb (wa zzb ka kb (we gb) (El nb) (we gka) (we gkb)) _ W (B5 (xl (us := [_]) ⟨.v _ _ ob, trivial⟩) (xl (us := [_, _]) ⟨.v _ _ oka, .v _ _ okb, trivial⟩))).mono fun e W' ⟨he, bel⟩ => ?_
 subst he
 exact ⟨_, rfl, _, _, _, [], _, [], hW', trodAll_mk1 (shut_bool Try.underlying4 _), (trodAll_cons_mk (Below.trod laidOut (by kernel_rfl) (of_decide_eq_true (by kernel_rfl)) k0 bel lt0) (trodAll_cons_mk (Below.trod laidOut (by kernel_rfl) (of_decide_eq_true (by kernel_rfl)) k1 bel lt1) trodAll_mk0)), rfl, bel.frame _, fun h => by cases h⟩
theorem over : Rows.processStatesRow.holds Try.pinned (OpenSpec.ofChange Rows.processStatesSpec) :=
 OpenClaim.holds_of_wide 8 Try.f8 rfl rfl rfl rfl rfl rfl rfl ⟨rfl, rfl, rfl, rfl, rfl⟩ rfl rfl rfl rfl rfl (by kernel_rfl) Try.func8 (by kernel_rfl)
  (of_decide_eq_true (by kernel_rfl)) (by unfold Func.isWrapper; first | (rw [if_pos (by decide +kernel)]; kernel_rfl) | (rw [if_neg (by decide +kernel)]; exact ⟨rfl, rfl⟩))
  (fun os started H enc _ => lifted os started H enc)
theorem proved : Rows.ProcessStatesSaid := over
end Go.Proofs.Ytgfbfajaaaegjaa.processStatesRow
