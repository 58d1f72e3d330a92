/-
  StreamsCompare answers true for every input, and leaves its arguments as they were. No condition.
-/
import Derived.Test.YtckgpflobhpnpaaRows
import Derived.Test.YtckgpflobhpnpaaChecked
import Derived.Test.YtckgpflobhpnpaaQSuG
import Derived.Test.YtckgpflobhpnpaaQOpenN
import Derived.ProofKit
import Derived.OpenShut
import Derived.ShutString
import Derived.ChangeOld
namespace Go.Proofs.Ytckgpflobhpnpaa.streamsCompareRow
open Go.ChangeShapes Go.WideShapes Go.ChangeAt Go.RowKit
open Go.ChangeMaps (open_string shut_string)
set_option linter.unusedSimpArgs false
set_option linter.unusedVariables false
theorem own : ownKnob Try.prog.godebug = none := by kernel_rfl
theorem laidOut : laidOutB Try.prog = true := by kernel_rfl
set_option maxRecDepth 100000 in
theorem lifted (os : Os) (started : os.Started) (H : Type) (enc : TypeId × Value → H) :
  ReturnsInHanded {} Try.checked os 5 .any (Rows.streamsCompareSpec.pre6 enc Try.prog Try.f5 Rows.streamsCompareRow.domain false) (Rows.streamsCompareSpec.post enc Try.prog Try.f5 false true false false) := by
 refine returnsInHanded_of_change (C := Try.checked) own started (by kernel_rfl) Try.func5
  (ChangeSpec.witness6 (enc := enc) (C := Try.checked) false ⟨#[], #[.slice none 0 0, .slice none 0 0, .slice none 0 0], []⟩ 8 (by kernel_rfl) (by kernel_rfl) (by kernel_rfl) (by kernel_rfl)) ?_
 intro W base args ds gs before hval0 hW hcnd _
 have hval : ∀ (j : Nat) t v, Try.f5.params[j]? = some t → args[j]? = some v → Value.okWide Try.prog W .any base t v := hval0
 have hW' := hW
 obtain ⟨p, q, hA0, hV, rfl, hfz, hnd⟩ := hW
 have hA : DataW.TrodAll enc Try.prog W 0 (fun _ => true) true Try.f5.params.toList args.toList ds p := hA0
 rw [Try.params5] at hA hval
 obtain ⟨v0, vs0, d0, ds0, p0, q0, hargs, rfl, rfl, h0, r0⟩ := trodAll_cons hA
 obtain ⟨v1, vs1, d1, ds1, p1, q1, rfl, rfl, rfl, h1, r1⟩ := trodAll_cons r0
 obtain ⟨v2, vs2, d2, ds2, p2, q2, rfl, rfl, rfl, h2, r2⟩ := trodAll_cons r1
 obtain ⟨rfl, rfl, rfl⟩ := trodAll_nil r2
 obtain rfl : args = #[v0, v1, v2] := by cases args; simp_all
 obtain ⟨rfl, rfl⟩ := trodVars_none hV
 have lt0 : ∀ x ∈ p0, x.block < W.heap.size := by obtain ⟨m, hm⟩ := h0; exact DataW.trod_lt m _ _ _ hm
 have lt1 : ∀ x ∈ p1, x.block < W.heap.size := by obtain ⟨m, hm⟩ := h1; exact DataW.trod_lt m _ _ _ hm
 have lt2 : ∀ x ∈ p2, x.block < W.heap.size := by obtain ⟨m, hm⟩ := h2; exact DataW.trod_lt m _ _ _ hm
 have k0 := h0
 have k1 := h1
 have k2 := h2
 have okv0 : Value.okWide Try.prog W .any base 31 v0 := hval 0 31 v0 rfl rfl
 have okv1 : Value.okWide Try.prog W .any base 31 v1 := hval 1 31 v1 rfl rfl
 have okv2 : Value.okWide Try.prog W .any base 31 v2 := hval 2 31 v2 rfl rfl
 clear hA0 hval0 hval
 obtain ⟨la, gla, nla, ola⟩ := fK (k := .i64) (S := fun b => b < W.heap.size) Try.underlying31 Try.underlying37 Try.underlying3 (by kernel_rfl) (by kernel_rfl) (fun _ h => h) okv0 h0
 obtain ⟨lb, glb, nlb, olb⟩ := fK (k := .i64) (S := fun b => b < W.heap.size) Try.underlying31 Try.underlying37 Try.underlying3 (by kernel_rfl) (by kernel_rfl) (fun _ h => h) okv1 h1
 obtain ⟨lc, glc, nlc, olc⟩ := fK (k := .i64) (S := fun b => b < W.heap.size) Try.underlying31 Try.underlying37 Try.underlying3 (by kernel_rfl) (by kernel_rfl) (fun _ h => h) okv2 h2
 refine (zf (ze la lb lc (IV nla) (AL gla) (IV nlb) (AL glb) (IV nlc)) _ W (Hx (.v _ _ ola) (.v _ _ olb) (.v _ _ olc))).mono fun e W' ⟨he, bel⟩ => ?_
 subst he
 exact ⟨_, rfl, _, _, _, [], _, [], hW', trodAll_mk1 (shut_bool Try.underlying4 _), (trodAll_cons_mk (Below.trod laidOut (by kernel_rfl) (of_decide_eq_true (by kernel_rfl)) k0 bel lt0) (trodAll_cons_mk (Below.trod laidOut (by kernel_rfl) (of_decide_eq_true (by kernel_rfl)) k1 bel lt1) (trodAll_cons_mk (Below.trod laidOut (by kernel_rfl) (of_decide_eq_true (by kernel_rfl)) k2 bel lt2) trodAll_mk0))), rfl, bel.frame _, fun h => by cases h⟩
theorem over : Rows.streamsCompareRow.holds Try.pinned (OpenSpec.ofChange Rows.streamsCompareSpec) :=
 OpenClaim.holds_of_wide 5 Try.f5 rfl rfl rfl rfl rfl rfl rfl ⟨rfl, rfl, rfl, rfl, rfl⟩ rfl rfl rfl rfl rfl (by kernel_rfl) Try.func5 (by kernel_rfl)
  (of_decide_eq_true (by kernel_rfl)) (by unfold Func.isWrapper; first | (rw [if_pos (by decide +kernel)]; kernel_rfl) | (rw [if_neg (by decide +kernel)]; exact ⟨rfl, rfl⟩))
  (fun os started H enc _ => lifted os started H enc)
theorem proved : Rows.StreamsCompareSaid := over
end Go.Proofs.Ytckgpflobhpnpaa.streamsCompareRow
