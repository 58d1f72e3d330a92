/-
  JournalMatchesReference answers true for every input, and leaves its arguments as they were. No condition.
-/
import Derived.Test.YtjmfaebimgnblaaJouT
import Derived.Test.YtjmfaebimgnblaaOpenB
import Derived.Test.YtjmfaebimgnblaaOpen
namespace Go.Proofs.Ytjmfaebimgnblaa.journalMatchesReferenceRow
open Go.ChangeShapes Go.WideShapes Go.ChangeAt Go.RowKit
open Go.ChangeMaps (open_string shut_string)

theorem own : ownKnob Try.prog.godebug = none := by kernel_rfl
theorem laidOut : laidOutB Try.prog = true := by kernel_rfl

set_option maxRecDepth 100000 in
theorem lifted (os : Os) (started : os.Started) (H : Type) (enc : TypeId × Value → H) :
    ReturnsInHanded {} Try.checked os 7 .any (Rows.journalMatchesReferenceSpec.pre6 enc Try.prog Try.f7 Rows.journalMatchesReferenceRow.domain false) (Rows.journalMatchesReferenceSpec.post enc Try.prog Try.f7 false true false false) := by
  refine returnsInHanded_of_change (C := Try.checked) own started (by kernel_rfl) Try.func7
    (ChangeSpec.witness6 (enc := enc) (C := Try.checked) false ⟨#[], #[.slice none 0 0, .slice none 0 0, .agg #[.int .u16 0, .int .u16 0, .int .u16 0, .int .u16 0]], []⟩ 8 (by kernel_rfl) (by kernel_rfl) (by kernel_rfl) (by kernel_rfl)) ?_
  intro W base args ds gs before hval0 hW hcnd _
  have hval : ∀ (j : Nat) t v, Try.f7.params[j]? = some t → args[j]? = some v → Value.okWide Try.prog W .any base t v := hval0
  have hW' := hW
  obtain ⟨p, q, hA0, hV, rfl, hfz, hnd⟩ := hW
  have hA : DataW.TrodAll enc Try.prog W 0 (fun _ => true) true Try.f7.params.toList args.toList ds p := hA0
  rw [Try.params7] at hA hval
  obtain ⟨v0, vs0, d0, ds0, p0, q0, hargs, rfl, rfl, h0, r0⟩ := trodAll_cons hA
  obtain ⟨v1, vs1, d1, ds1, p1, q1, rfl, rfl, rfl, h1, r1⟩ := trodAll_cons r0
  obtain ⟨v2, vs2, d2, ds2, p2, q2, rfl, rfl, rfl, h2, r2⟩ := trodAll_cons r1
  obtain ⟨rfl, rfl, rfl⟩ := trodAll_nil r2
  obtain rfl : args = #[v0, v1, v2] := by cases args; simp_all
  obtain ⟨rfl, rfl⟩ := trodVars_none hV
  have lt0 : ∀ x ∈ p0, x.block < W.heap.size := by obtain ⟨m, hm⟩ := h0; exact DataW.trod_lt m _ _ _ hm
  have lt1 : ∀ x ∈ p1, x.block < W.heap.size := by obtain ⟨m, hm⟩ := h1; exact DataW.trod_lt m _ _ _ hm
  have lt2 : ∀ x ∈ p2, x.block < W.heap.size := by obtain ⟨m, hm⟩ := h2; exact DataW.trod_lt m _ _ _ hm
  have k0 := h0
  have k1 := h1
  have k2 := h2
  have okv0 : Value.okWide Try.prog W .any base 47 v0 := hval 0 47 v0 rfl rfl
  have okv1 : Value.okWide Try.prog W .any base 48 v1 := hval 1 48 v1 rfl rfl
  have okv2 : Value.okWide Try.prog W .any base 49 v2 := hval 2 49 v2 rfl rfl
  clear hA0 hval0 hval
  obtain ⟨b, gb, nb, ob⟩ := rep_ints_of_trod (k := .u8) (S := fun b => b < W.heap.size) Try.underlying47 Try.underlying5 (by kernel_rfl) (fun _ h => h) okv0 h0
  obtain ⟨l, gl, nl, ol⟩ := rep_rows_of_trod (S := fun b => b < W.heap.size) Try.underlying48 Try.underlying52 Try.underlying3 (by kernel_rfl) (by kernel_rfl) (fun _ h => h) okv1 h1
  obtain ⟨z0, z1, z2, z3, rfl, y0, y1, y2, y3⟩ := arr4_of_trod (k := .u16) rfl Try.underlying49 Try.underlying23 (by kernel_rfl) (by kernel_rfl) okv2 h2
  have emx : IntKind.u16.max = 65535 := rfl
  refine (calls_pure (jmatch_law b l z0 z1 z2 z3 (fun x hx => u8_of_fits (gb x hx)) (by simpa [maxLen] using nb) ⟨by simpa [maxLen] using nl, fun r hr => by simpa [maxLen] using (gl r hr).1⟩ (fun r hr x hx => i64_of_fits ((gl r hr).2 x hx)) (by omega) (by omega) (by omega) (by omega)) _ W (reps3D (.v _ _ ob) (.v _ _ ol) (rep_agg4 _ _ _ _))).mono fun e W' ⟨he, bel⟩ => ?_
  subst he
  exact ⟨_, rfl, _, _, _, [], _, [], hW', trodAll_mk1 (shut_bool Try.underlying4 _), (trodAll_cons_mk (Below.trod laidOut (by kernel_rfl) (of_decide_eq_true (by kernel_rfl)) k0 bel lt0) (trodAll_cons_mk (Below.trod laidOut (by kernel_rfl) (of_decide_eq_true (by kernel_rfl)) k1 bel lt1) (trodAll_cons_mk (Below.trod laidOut (by kernel_rfl) (of_decide_eq_true (by kernel_rfl)) k2 bel lt2) trodAll_mk0))), rfl, bel.frame _, fun h => by cases h⟩

theorem over : Rows.journalMatchesReferenceRow.holds Try.pinned (OpenSpec.ofChange Rows.journalMatchesReferenceSpec) :=
  OpenClaim.holds_of_wide 7 Try.f7 rfl rfl rfl rfl rfl rfl rfl ⟨rfl, rfl, rfl, rfl, rfl⟩ rfl rfl rfl rfl rfl (by kernel_rfl) Try.func7 (by kernel_rfl)
    (of_decide_eq_true (by kernel_rfl)) (by unfold Func.isWrapper; first | (rw [if_pos (by decide +kernel)]; kernel_rfl) | (rw [if_neg (by decide +kernel)]; exact ⟨rfl, rfl⟩))
    (fun os started H enc _ => lifted os started H enc)

theorem proved : Rows.JournalMatchesReferenceSaid := over

end Go.Proofs.Ytjmfaebimgnblaa.journalMatchesReferenceRow
