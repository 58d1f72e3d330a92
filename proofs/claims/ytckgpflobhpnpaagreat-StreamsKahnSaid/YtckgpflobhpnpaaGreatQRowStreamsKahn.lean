/-
  StreamsKahn answers true for every input, and leaves its arguments as they were. No condition.
-/
import Derived.Test.YtckgpflobhpnpaaGreatRows
import Derived.Test.YtckgpflobhpnpaaGreatChecked
import Derived.Test.YtckgpflobhpnpaaGreatQSuK
import Derived.Test.YtckgpflobhpnpaaGreatQOpenD
import Derived.ProofKit
import Derived.OpenShut
import Derived.ShutString
import Derived.ChangeOld
namespace Go.Proofs.YtckgpflobhpnpaaGreat.streamsKahnRow
open Go.ChangeShapes Go.WideShapes Go.ChangeAt Go.RowKit
open Go.ChangeMaps (open_string shut_string)
set_option linter.unusedSimpArgs false
set_option linter.unusedVariables false
theorem own : ownKnob Tryz.prog.godebug = none := by kernel_rfl
theorem laidOut : laidOutB Tryz.prog = true := by kernel_rfl
set_option maxRecDepth 100000 in
theorem lifted (os : Os) (started : os.Started) (H : Type) (enc : TypeId × Value → H) :
  ReturnsInHanded {} Tryz.checked os 4 .any (Rows.streamsKahnSpec.pre6 enc Tryz.prog Tryz.f4 Rows.streamsKahnRow.domain false) (Rows.streamsKahnSpec.post enc Tryz.prog Tryz.f4 false true false false) := by
 refine returnsInHanded_of_change (C := Tryz.checked) own started (by kernel_rfl) Tryz.func4
  (ChangeSpec.witness6 (enc := enc) (C := Tryz.checked) false ⟨#[], #[.agg #[.int .u8 0, .slice none 0 0], .slice none 0 0, .slice none 0 0], []⟩ 8 (by kernel_rfl) (by kernel_rfl) (by kernel_rfl) (by kernel_rfl)) ?_
 intro W base args ds gs before hval0 hW hcnd _
 have hval : ∀ (j : Nat) t v, Tryz.f4.params[j]? = some t → args[j]? = some v → Value.okWide Tryz.prog W .any base t v := hval0
 have hW' := hW
 obtain ⟨p, q, hA0, hV, rfl, hfz, hnd⟩ := hW
 have hA : DataW.TrodAll enc Tryz.prog W 0 (fun _ => true) true Tryz.f4.params.toList args.toList ds p := hA0
 rw [Tryz.params4] at hA hval
 obtain ⟨v0, vs0, d0, ds0, p0, q0, hargs, rfl, rfl, h0, r0⟩ := trodAll_cons hA
 obtain ⟨v1, vs1, d1, ds1, p1, q1, rfl, rfl, rfl, h1, r1⟩ := trodAll_cons r0
 obtain ⟨v2, vs2, d2, ds2, p2, q2, rfl, rfl, rfl, h2, r2⟩ := trodAll_cons r1
 obtain ⟨rfl, rfl, rfl⟩ := trodAll_nil r2
 obtain rfl : args = #[v0, v1, v2] := by cases args; simp_all
 obtain ⟨rfl, rfl⟩ := trodVars_none hV
 have lt0 : ∀ x ∈ p0, x.block < W.heap.size := by obtain ⟨m, hm⟩ := h0; exact DataW.trod_lt m _ _ _ hm
 have lt1 : ∀ x ∈ p1, x.block < W.heap.size := by obtain ⟨m, hm⟩ := h1; exact DataW.trod_lt m _ _ _ hm
 have lt2 : ∀ x ∈ p2, x.block < W.heap.size := by obtain ⟨m, hm⟩ := h2; exact DataW.trod_lt m _ _ _ hm
 have k0 := h0
 have k1 := h1
 have k2 := h2
 have okv0 : Value.okWide Tryz.prog W .any base 24 v0 := hval 0 24 v0 rfl rfl
 have okv1 : Value.okWide Tryz.prog W .any base 22 v1 := hval 1 22 v1 rfl rfl
 have okv2 : Value.okWide Tryz.prog W .any base 22 v2 := hval 2 22 v2 rfl rfl
 clear hA0 hval0 hval
 have e8 : Tryz.prog.cellsOf 5 = 1 := by kernel_rfl
 have eU : Tryz.prog.cellsOf 22 = 1 := by kernel_rfl
 obtain ⟨cs, rfl, hcs⟩ := vP Tryz.underlying24 (show Tryz.prog.cellsOf 24 = 2 by kernel_rfl) okv0
 obtain ⟨c0, c1, rfl⟩ := MV cs hcs
 obtain ⟨fuel, hf⟩ := h0
 obtain ⟨m, hfld⟩ := Hu Tryz.underlying24 hf
 have hcl : (Value.agg [c0, c1].toArray).cells.toList = [c0, c1] := rfl
 rw [hcl] at hfld
 obtain ⟨y0, f0⟩ := hfld 0 _ rfl
 simp only [List.getElem_toArray, List.getElem_cons_zero, List.getElem_cons_succ, e8, eU, List.drop_zero, List.drop_succ_cons, List.take_succ_cons, List.take_zero] at f0
 obtain ⟨y1, f1⟩ := hfld 1 _ rfl
 simp only [List.getElem_toArray, List.getElem_cons_zero, List.getElem_cons_succ, e8, eU, List.drop_zero, List.drop_succ_cons, List.take_succ_cons, List.take_zero] at f1
 obtain ⟨zs, ezs, -, wzs⟩ := DataW.trod_int Tryz.underlying5 f0
 simp only [List.cons.injEq, and_true] at ezs
 subst ezs
 obtain ⟨vb, zzb, eb, gb, nb, ob⟩ := s8 (k := .u8) (S := fun b => b < W.heap.size) Tryz.underlying22 Tryz.underlying5 (by kernel_rfl) (fun _ h => h) f1
 simp only [List.cons.injEq, and_true] at eb
 subst eb
 obtain ⟨bb, gbb, nbb, obb⟩ := kv (k := .u8) (S := fun b => b < W.heap.size) Tryz.underlying22 Tryz.underlying5 (by kernel_rfl) (fun _ h => h) okv1 h1
 obtain ⟨od, god, nod, ood⟩ := kv (k := .u8) (S := fun b => b < W.heap.size) Tryz.underlying22 Tryz.underlying5 (by kernel_rfl) (fun _ h => h) okv2 h2
 refine (BR (Ja zs zzb bb od (JL wzs).1 (JL wzs).2 (BS gb) (BS gbb) (BS god)) _ W (Ll (Jb (us := [.int .u8 zs, _]) ⟨.v _ _ (.int _ _), .v _ _ ob, trivial⟩) (.v _ _ obb) (.v _ _ ood))).mono fun e W' ⟨he, bel⟩ => ?_
 subst he
 exact ⟨_, rfl, _, _, _, [], _, [], hW', trodAll_mk1 (shut_bool Tryz.underlying4 _), (trodAll_cons_mk (Below.trod laidOut (by kernel_rfl) (of_decide_eq_true (by kernel_rfl)) k0 bel lt0) (trodAll_cons_mk (Below.trod laidOut (by kernel_rfl) (of_decide_eq_true (by kernel_rfl)) k1 bel lt1) (trodAll_cons_mk (Below.trod laidOut (by kernel_rfl) (of_decide_eq_true (by kernel_rfl)) k2 bel lt2) trodAll_mk0))), rfl, bel.frame _, fun h => by cases h⟩
theorem over : Rows.streamsKahnRow.holds Tryz.pinned (OpenSpec.ofChange Rows.streamsKahnSpec) :=
 OpenClaim.holds_of_wide 4 Tryz.f4 rfl rfl rfl rfl rfl rfl rfl ⟨rfl, rfl, rfl, rfl, rfl⟩ rfl rfl rfl rfl rfl (by kernel_rfl) Tryz.func4 (by kernel_rfl)
  (of_decide_eq_true (by kernel_rfl)) (by unfold Func.isWrapper; first | (rw [if_pos (by decide +kernel)]; kernel_rfl) | (rw [if_neg (by decide +kernel)]; exact ⟨rfl, rfl⟩))
  (fun os started H enc _ => lifted os started H enc)
theorem proved : Rows.StreamsKahnSaid := over
end Go.Proofs.YtckgpflobhpnpaaGreat.streamsKahnRow
