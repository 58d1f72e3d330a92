/-
  StreamsMatchesReference answers true for every input, and leaves its arguments as they were. No condition.
-/
import Derived.Test.YtckgpflobhpnpaaGreatRows
import Derived.Test.YtckgpflobhpnpaaGreatChecked
import Derived.Test.YtckgpflobhpnpaaGreatQSuV
namespace Go.Proofs.YtckgpflobhpnpaaGreat.streamsMatchesReferenceRow
open Go.ChangeShapes Go.WideShapes Go.ChangeAt Go.RowKit
open Go.ChangeMaps (open_string shut_string)
set_option linter.unusedSimpArgs false
set_option linter.unusedVariables false
theorem own : ownKnob Tryz.prog.godebug = none := by kernel_rfl
theorem laidOut : laidOutB Tryz.prog = true := by kernel_rfl
set_option maxRecDepth 100000 in
theorem lifted (os : Os) (started : os.Started) (H : Type) (enc : TypeId × Value → H) :
  ReturnsInHanded {} Tryz.checked os 3 .any (Rows.streamsMatchesReferenceSpec.pre6 enc Tryz.prog Tryz.f3 Rows.streamsMatchesReferenceRow.domain false) (Rows.streamsMatchesReferenceSpec.post enc Tryz.prog Tryz.f3 false true false false) := by
 refine returnsInHanded_of_change (C := Tryz.checked) own started (by kernel_rfl) Tryz.func3
  (ChangeSpec.witness6 (enc := enc) (C := Tryz.checked) false ⟨#[], #[.agg #[.int .u8 0, .slice none 0 0], .slice none 0 0, .agg #[.slice none 0 0, .slice none 0 0, .slice none 0 0, .int .i64 0]], []⟩ 8 (by kernel_rfl) (by kernel_rfl) (by kernel_rfl) (by kernel_rfl)) ?_
 intro W base args ds gs before hval0 hW hcnd _
 have hval : ∀ (j : Nat) t v, Tryz.f3.params[j]? = some t → args[j]? = some v → Value.okWide Tryz.prog W .any base t v := hval0
 have hW' := hW
 obtain ⟨p, q, hA0, hV, rfl, hfz, hnd⟩ := hW
 have hA : DataW.TrodAll enc Tryz.prog W 0 (fun _ => true) true Tryz.f3.params.toList args.toList ds p := hA0
 rw [Tryz.params3] at hA hval
 obtain ⟨v0, vs0, d0, ds0, p0, q0, hargs, rfl, rfl, h0, r0⟩ := trodAll_cons hA
 obtain ⟨v1, vs1, d1, ds1, p1, q1, rfl, rfl, rfl, h1, r1⟩ := trodAll_cons r0
 obtain ⟨v2, vs2, d2, ds2, p2, q2, rfl, rfl, rfl, h2, r2⟩ := trodAll_cons r1
 obtain ⟨rfl, rfl, rfl⟩ := trodAll_nil r2
 obtain rfl : args = #[v0, v1, v2] := by cases args; simp_all
 obtain ⟨rfl, rfl⟩ := trodVars_none hV
 have lt0 : ∀ x ∈ p0, x.block < W.heap.size := by obtain ⟨m, hm⟩ := h0; exact DataW.trod_lt m _ _ _ hm
 have lt1 : ∀ x ∈ p1, x.block < W.heap.size := by obtain ⟨m, hm⟩ := h1; exact DataW.trod_lt m _ _ _ hm
 have lt2 : ∀ x ∈ p2, x.block < W.heap.size := by obtain ⟨m, hm⟩ := h2; exact DataW.trod_lt m _ _ _ hm
 have k0 := h0
 have k1 := h1
 have k2 := h2
 have okv0 : Value.okWide Tryz.prog W .any base 24 v0 := hval 0 24 v0 rfl rfl
 have okv1 : Value.okWide Tryz.prog W .any base 22 v1 := hval 1 22 v1 rfl rfl
 have okv2 : Value.okWide Tryz.prog W .any base 27 v2 := hval 2 27 v2 rfl rfl
 clear hA0 hval0 hval
 have e8 : Tryz.prog.cellsOf 5 = 1 := by kernel_rfl
 have eU : Tryz.prog.cellsOf 22 = 1 := by kernel_rfl
 obtain ⟨cs, rfl, hcs⟩ := pT Tryz.underlying24 (show Tryz.prog.cellsOf 24 = 2 by kernel_rfl) okv0
 obtain ⟨c0, c1, rfl⟩ := Pv cs hcs
 obtain ⟨fuel, hf⟩ := h0
 obtain ⟨m, hfld⟩ := Co Tryz.underlying24 hf
 have hcl : (Value.agg [c0, c1].toArray).cells.toList = [c0, c1] := rfl
 rw [hcl] at hfld
 obtain ⟨y0, f0⟩ := hfld 0 _ rfl
 simp only [Tb, SZ, S4, e8, eU, S8, Tg, S6, TP] at f0
 obtain ⟨y1, f1⟩ := hfld 1 _ rfl
 simp only [Tb, SZ, S4, e8, eU, S8, Tg, S6, TP] at f1
 obtain ⟨zs, ezs, -, wzs⟩ := DataW.trod_int Tryz.underlying5 f0
 simp only [SN, T3] at ezs
 subst ezs
 obtain ⟨vb, zzb, eb, gb, nb, ob⟩ := n9 (k := .u8) (S := fun b => b < W.heap.size) Tryz.underlying22 Tryz.underlying5 (by kernel_rfl) (fun _ h => h) f1
 simp only [SN, T3] at eb
 subst eb
 obtain ⟨bb, gbb, nbb, obb⟩ := tj (k := .u8) (S := fun b => b < W.heap.size) Tryz.underlying22 Tryz.underlying5 (by kernel_rfl) (fun _ h => h) okv1 h1
 obtain ⟨ds, rfl, hds⟩ := pT Tryz.underlying27 (show Tryz.prog.cellsOf 27 = 4 by kernel_rfl) okv2
 obtain ⟨q0, q1, q2, q3, rfl⟩ := Pw ds hds
 obtain ⟨fuel2, hf2⟩ := h2
 obtain ⟨m2, hfld2⟩ := Co Tryz.underlying27 hf2
 have hcl2 : (Value.agg [q0, q1, q2, q3].toArray).cells.toList = [q0, q1, q2, q3] := rfl
 rw [hcl2] at hfld2
 have eL : Tryz.prog.cellsOf 25 = 1 := by kernel_rfl
 have eI : Tryz.prog.cellsOf 3 = 1 := by kernel_rfl
 obtain ⟨w0, g0⟩ := hfld2 0 _ rfl
 simp only [Tb, SZ, S4, eL, eI, S8, Tg, S6, TP] at g0
 obtain ⟨w1, g1⟩ := hfld2 1 _ rfl
 simp only [Tb, SZ, S4, eL, eI, S8, Tg, S6, TP] at g1
 obtain ⟨w2, g2⟩ := hfld2 2 _ rfl
 simp only [Tb, SZ, S4, eL, eI, S8, Tg, S6, TP] at g2
 obtain ⟨w3, g3⟩ := hfld2 3 _ rfl
 simp only [Tb, SZ, S4, eL, eI, S8, Tg, S6, TP] at g3
 obtain ⟨vi, zi, ei, ni, mi, oi⟩ := oc (k := .i64) (S := fun b => b < W.heap.size) Tryz.underlying25 Tryz.underlying42 Tryz.underlying3 (by kernel_rfl) (by kernel_rfl) (fun _ h => h) g0
 simp only [SN, T3] at ei
 subst ei
 obtain ⟨va, za, ea, na, ma, oa⟩ := oc (k := .i64) (S := fun b => b < W.heap.size) Tryz.underlying25 Tryz.underlying42 Tryz.underlying3 (by kernel_rfl) (by kernel_rfl) (fun _ h => h) g1
 simp only [SN, T3] at ea
 subst ea
 obtain ⟨vb2, zb2, eb2, nb2, mb2, ob2⟩ := oc (k := .i64) (S := fun b => b < W.heap.size) Tryz.underlying25 Tryz.underlying42 Tryz.underlying3 (by kernel_rfl) (by kernel_rfl) (fun _ h => h) g2
 simp only [SN, T3] at eb2
 subst eb2
 obtain ⟨zn, ezn, -, wzn⟩ := DataW.trod_int Tryz.underlying3 g3
 simp only [SN, T3] at ezn
 subst ezn
 refine (DU (Cn zs zzb bb zi za zb2 zn (Mg wzs).1 (Mg wzs).2 (JY gb) (JY gbb) (PE mi) (Ay ni) (PE ma) (Ay na) (PE mb2) (Ay nb2)) _ W (NT (FS (us := [.int .u8 zs, _]) ⟨.v _ _ (.int _ _), .v _ _ ob, trivial⟩) (.v _ _ obb) (FS (us := [_, _, _, .int .i64 zn]) ⟨.v _ _ oi, .v _ _ oa, .v _ _ ob2, .v _ _ (.int _ _), trivial⟩))).mono fun e W' ⟨he, bel⟩ => ?_
 subst he
 exact ⟨_, rfl, _, _, _, [], _, [], hW', trodAll_mk1 (shut_bool Tryz.underlying4 _), (trodAll_cons_mk (Below.trod laidOut (by kernel_rfl) (ST (by kernel_rfl)) k0 bel lt0) (trodAll_cons_mk (Below.trod laidOut (by kernel_rfl) (ST (by kernel_rfl)) k1 bel lt1) (trodAll_cons_mk (Below.trod laidOut (by kernel_rfl) (ST (by kernel_rfl)) k2 bel lt2) trodAll_mk0))), rfl, bel.frame _, fun h => by cases h⟩
theorem over : Rows.streamsMatchesReferenceRow.holds Tryz.pinned (OpenSpec.ofChange Rows.streamsMatchesReferenceSpec) :=
 OpenClaim.holds_of_wide 3 Tryz.f3 rfl rfl rfl rfl rfl rfl rfl ⟨rfl, rfl, rfl, rfl, rfl⟩ rfl rfl rfl rfl rfl (by kernel_rfl) Tryz.func3 (by kernel_rfl)
  (ST (by kernel_rfl)) (by unfold Func.isWrapper; first | (rw [RH (by decide +kernel)]; kernel_rfl) | (rw [RE (by decide +kernel)]; exact ⟨rfl, rfl⟩))
  (fun os started H enc _ => lifted os started H enc)
theorem proved : Rows.StreamsMatchesReferenceSaid := over
end Go.Proofs.YtckgpflobhpnpaaGreat.streamsMatchesReferenceRow
