/-
  StreamsSettles answers true for every input, and leaves its arguments as they were. No condition.
-/
import Derived.Test.YtckgpflobhpnpaaGreatRows
import Derived.Test.YtckgpflobhpnpaaGreatChecked
import Derived.Test.YtckgpflobhpnpaaGreatQSuI
import Derived.Test.YtckgpflobhpnpaaGreatQOpenD
import Derived.ProofKit
import Derived.OpenShut
import Derived.ShutString
import Derived.ChangeOld
namespace Go.Proofs.YtckgpflobhpnpaaGreat.streamsSettlesRow
open Go.ChangeShapes Go.WideShapes Go.ChangeAt Go.RowKit
open Go.ChangeMaps (open_string shut_string)
set_option linter.unusedSimpArgs false
set_option linter.unusedVariables false
theorem own : ownKnob Tryz.prog.godebug = none := by kernel_rfl
theorem laidOut : laidOutB Tryz.prog = true := by kernel_rfl
set_option maxRecDepth 100000 in
theorem lifted (os : Os) (started : os.Started) (H : Type) (enc : TypeId × Value → H) :
  ReturnsInHanded {} Tryz.checked os 6 .any (Rows.streamsSettlesSpec.pre6 enc Tryz.prog Tryz.f6 Rows.streamsSettlesRow.domain false) (Rows.streamsSettlesSpec.post enc Tryz.prog Tryz.f6 false true false false) := by
 refine returnsInHanded_of_change (C := Tryz.checked) own started (by kernel_rfl) Tryz.func6
  (ChangeSpec.witness6 (enc := enc) (C := Tryz.checked) false ⟨#[], #[.agg #[.int .u8 0, .slice none 0 0], .slice none 0 0], []⟩ 8 (by kernel_rfl) (by kernel_rfl) (by kernel_rfl) (by kernel_rfl)) ?_
 intro W base args ds gs before hval0 hW hcnd _
 have hval : ∀ (j : Nat) t v, Tryz.f6.params[j]? = some t → args[j]? = some v → Value.okWide Tryz.prog W .any base t v := hval0
 have hW' := hW
 obtain ⟨p, q, hA0, hV, rfl, hfz, hnd⟩ := hW
 have hA : DataW.TrodAll enc Tryz.prog W 0 (fun _ => true) true Tryz.f6.params.toList args.toList ds p := hA0
 rw [Tryz.params6] at hA hval
 obtain ⟨v0, vs0, d0, ds0, p0, q0, hargs, rfl, rfl, h0, r0⟩ := trodAll_cons hA
 obtain ⟨v1, vs1, d1, ds1, p1, q1, rfl, rfl, rfl, h1, r1⟩ := trodAll_cons r0
 obtain ⟨rfl, rfl, rfl⟩ := trodAll_nil r1
 obtain rfl : args = #[v0, v1] := by cases args; simp_all
 obtain ⟨rfl, rfl⟩ := trodVars_none hV
 have lt0 : ∀ x ∈ p0, x.block < W.heap.size := by obtain ⟨m, hm⟩ := h0; exact DataW.trod_lt m _ _ _ hm
 have lt1 : ∀ x ∈ p1, x.block < W.heap.size := by obtain ⟨m, hm⟩ := h1; exact DataW.trod_lt m _ _ _ hm
 have k0 := h0
 have k1 := h1
 have okv0 : Value.okWide Tryz.prog W .any base 24 v0 := hval 0 24 v0 rfl rfl
 have okv1 : Value.okWide Tryz.prog W .any base 22 v1 := hval 1 22 v1 rfl rfl
 clear hA0 hval0 hval
 have e8 : Tryz.prog.cellsOf 5 = 1 := by kernel_rfl
 have eU : Tryz.prog.cellsOf 22 = 1 := by kernel_rfl
 obtain ⟨cs, rfl, hcs⟩ := xu Tryz.underlying24 (show Tryz.prog.cellsOf 24 = 2 by kernel_rfl) okv0
 obtain ⟨c0, c1, rfl⟩ := Pq cs hcs
 obtain ⟨fuel, hf⟩ := h0
 obtain ⟨m, hfld⟩ := JT Tryz.underlying24 hf
 have hcl : (Value.agg [c0, c1].toArray).cells.toList = [c0, c1] := rfl
 rw [hcl] at hfld
 obtain ⟨y0, f0⟩ := hfld 0 _ rfl
 simp only [List.getElem_toArray, List.getElem_cons_zero, List.getElem_cons_succ, e8, eU, List.drop_zero, List.drop_succ_cons, List.take_succ_cons, List.take_zero] at f0
 obtain ⟨y1, f1⟩ := hfld 1 _ rfl
 simp only [List.getElem_toArray, List.getElem_cons_zero, List.getElem_cons_succ, e8, eU, List.drop_zero, List.drop_succ_cons, List.take_succ_cons, List.take_zero] at f1
 obtain ⟨zs, ezs, -, wzs⟩ := DataW.trod_int Tryz.underlying5 f0
 simp only [List.cons.injEq, and_true] at ezs
 subst ezs
 obtain ⟨vb, zzb, eb, gb, nb, ob⟩ := uA (k := .u8) (S := fun b => b < W.heap.size) Tryz.underlying22 Tryz.underlying5 (by kernel_rfl) (fun _ h => h) f1
 simp only [List.cons.injEq, and_true] at eb
 subst eb
 obtain ⟨bb, gbb, nbb, obb⟩ := tS (k := .u8) (S := fun b => b < W.heap.size) Tryz.underlying22 Tryz.underlying5 (by kernel_rfl) (fun _ h => h) okv1 h1
 refine (DS (DR zs zzb bb (Mc wzs).1 (Mc wzs).2 (JU gb) (JU gbb)) _ W (NS (Ly (us := [.int .u8 zs, _]) ⟨.v _ _ (.int _ _), .v _ _ ob, trivial⟩) (.v _ _ obb))).mono fun e W' ⟨he, bel⟩ => ?_
 subst he
 exact ⟨_, rfl, _, _, _, [], _, [], hW', trodAll_mk1 (shut_bool Tryz.underlying4 _), (trodAll_cons_mk (Below.trod laidOut (by kernel_rfl) (of_decide_eq_true (by kernel_rfl)) k0 bel lt0) (trodAll_cons_mk (Below.trod laidOut (by kernel_rfl) (of_decide_eq_true (by kernel_rfl)) k1 bel lt1) trodAll_mk0)), rfl, bel.frame _, fun h => by cases h⟩
theorem over : Rows.streamsSettlesRow.holds Tryz.pinned (OpenSpec.ofChange Rows.streamsSettlesSpec) :=
 OpenClaim.holds_of_wide 6 Tryz.f6 rfl rfl rfl rfl rfl rfl rfl ⟨rfl, rfl, rfl, rfl, rfl⟩ rfl rfl rfl rfl rfl (by kernel_rfl) Tryz.func6 (by kernel_rfl)
  (of_decide_eq_true (by kernel_rfl)) (by unfold Func.isWrapper; first | (rw [if_pos (by decide +kernel)]; kernel_rfl) | (rw [if_neg (by decide +kernel)]; exact ⟨rfl, rfl⟩))
  (fun os started H enc _ => lifted os started H enc)
theorem proved : Rows.StreamsSettlesSaid := over
end Go.Proofs.YtckgpflobhpnpaaGreat.streamsSettlesRow
