/-
  Package bits: the values of operations.
-/
import Derived.Test.YtckgpflobhpnpaaQVbA
namespace Go.Proofs.Ytckgpflobhpnpaa
open Go.RowKit
set_option linter.unusedVariables false
set_option linter.unusedSimpArgs false
abbrev jf (ws xs : List Int) (k w : Int) : List D := [(.agg [(LI ws),(LI xs),(i6 k),(i6 w)])]
set_option maxRecDepth 100000
structure DZ (ws xs : List Int) (n : Nat) : Prop where
  hl : ws.length = n
  hf : ws.all ay = true
  hx : xs.length = ws.length
  hin : DV ws xs = true
abbrev J1 (ws xs : List Int) (k w : Int) : Ct := ⟨86,(jf ws xs k w),false,(i6 (an (ws.getD 0 0)))⟩
theorem uL (ws xs : List Int) (k w : Int) (hl : 0 < ws.length) : CC (J1 ws xs k w) := by
 refine ai.vc (V := TT 4 (IX 0 ws.length∧TT 1 (CC (H4 (ws.getD 0 0))∧TT 2 ((an (ws.getD 0 0)) = (an (ws.getD 0 0))∧True)))) (.w 1 [(4,(H4 (ws.getD 0 0)).O)] <| .e) Try.func86 rfl rfl rfl (by kernel_rfl) ?_
 exact tt ⟨ix,tt ⟨(tv (ws.getD 0 0)),tt ⟨rfl,oK⟩⟩⟩
abbrev N6 (ws xs : List Int) (k w : Int) : Ct := ⟨85,(jf ws xs k w),false,(i6 (ot 2 ws xs k w))⟩
theorem J2 (ws xs : List Int) (k w : Int) (ho : DZ ws xs 1) : CC (N6 ws xs k w) := by
 obtain ⟨hl,hf,hx,hin⟩ := ho
 have f0 : 0 < ws.length → 1 ≤ ws.getD 0 0∧ws.getD 0 0 ≤ 8 := fun h => aC hf h
 have f1 : 1 < ws.length → 1 ≤ ws.getD 1 0∧ws.getD 1 0 ≤ 8 := fun h => aC hf h
 have f2 : 2 < ws.length → 1 ≤ ws.getD 2 0∧ws.getD 2 0 ≤ 8 := fun h => aC hf h
 have a0 : 0 < ws.length → 0 ≤ xs.getD 0 0∧xs.getD 0 0 ≤ an (ws.getD 0 0) := fun h => a9 hin (by omega)
 have a1 : 1 < ws.length → 0 ≤ xs.getD 1 0∧xs.getD 1 0 ≤ an (ws.getD 1 0) := fun h => a9 hin (by omega)
 have a2 : 2 < ws.length → 0 ≤ xs.getD 2 0∧xs.getD 2 0 ≤ an (ws.getD 2 0) := fun h => a9 hin (by omega)
 have m0 : 0 < ws.length → 0 ≤ an (ws.getD 0 0)∧an (ws.getD 0 0) ≤ 255 := fun h => az (by have := f0 h; omega) (f0 h).2
 have m1 : 1 < ws.length → 0 ≤ an (ws.getD 1 0)∧an (ws.getD 1 0) ≤ 255 := fun h => az (by have := f1 h; omega) (f1 h).2
 have m2 : 2 < ws.length → 0 ≤ an (ws.getD 2 0)∧an (ws.getD 2 0) ≤ 255 := fun h => az (by have := f2 h; omega) (f2 h).2
 have b0 := f0 (by omega); have c0 := a0 (by omega); have d0 := m0 (by omega)
 refine ai.vc (V := TT 4 (IX 0 xs.length∧TT 2 (CC (J1 ws xs k w)∧(True∧(IntKind.wrap .i64 (BitVec.ofInt (IntKind.i64).bits (xs.getD 0 0) ^^^ BitVec.ofInt (IntKind.i64).bits (an (ws.getD 0 0))).toNat) = (((xs.getD 0 0).toNat ^^^ (an (ws.getD 0 0)).toNat : Nat) : Int))∧TT 2 ((((xs.getD 0 0).toNat ^^^ (an (ws.getD 0 0)).toNat : Nat) : Int) = (ot 2 ws xs k w)∧True)))) (.w 1 [(5,(J1 ws xs k w).O),(6,.val (i6 (((xs.getD 0 0).toNat ^^^ (an (ws.getD 0 0)).toNat : Nat) : Int)))] <| .e) Try.func85 rfl rfl rfl (by kernel_rfl) ?_
 refine tt ⟨ix,tt ⟨(uL ws xs k w om),⟨⟨oK,(wv (by omega) (by omega) (by omega) (by omega))⟩,tt ⟨?_,oK⟩⟩⟩⟩
 rfl
abbrev N7 (ws xs : List Int) (k w : Int) : Ct := ⟨88,(jf ws xs k w),false,(i6 (ot 3 ws xs k w))⟩
theorem J3 (ws xs : List Int) (k w : Int) (ho : DZ ws xs 2) : CC (N7 ws xs k w) := by
 obtain ⟨hl,hf,hx,hin⟩ := ho
 have f0 : 0 < ws.length → 1 ≤ ws.getD 0 0∧ws.getD 0 0 ≤ 8 := fun h => aC hf h
 have f1 : 1 < ws.length → 1 ≤ ws.getD 1 0∧ws.getD 1 0 ≤ 8 := fun h => aC hf h
 have f2 : 2 < ws.length → 1 ≤ ws.getD 2 0∧ws.getD 2 0 ≤ 8 := fun h => aC hf h
 have a0 : 0 < ws.length → 0 ≤ xs.getD 0 0∧xs.getD 0 0 ≤ an (ws.getD 0 0) := fun h => a9 hin (by omega)
 have a1 : 1 < ws.length → 0 ≤ xs.getD 1 0∧xs.getD 1 0 ≤ an (ws.getD 1 0) := fun h => a9 hin (by omega)
 have a2 : 2 < ws.length → 0 ≤ xs.getD 2 0∧xs.getD 2 0 ≤ an (ws.getD 2 0) := fun h => a9 hin (by omega)
 have m0 : 0 < ws.length → 0 ≤ an (ws.getD 0 0)∧an (ws.getD 0 0) ≤ 255 := fun h => az (by have := f0 h; omega) (f0 h).2
 have m1 : 1 < ws.length → 0 ≤ an (ws.getD 1 0)∧an (ws.getD 1 0) ≤ 255 := fun h => az (by have := f1 h; omega) (f1 h).2
 have m2 : 2 < ws.length → 0 ≤ an (ws.getD 2 0)∧an (ws.getD 2 0) ≤ 255 := fun h => az (by have := f2 h; omega) (f2 h).2
 have b0 := f0 (by omega); have c0 := a0 (by omega); have d0 := m0 (by omega)
 have b1 := f1 (by omega); have c1 := a1 (by omega); have d1 := m1 (by omega)
 refine ai.vc (V := TT 4 (IX 0 xs.length∧TT 3 (IX 1 xs.length∧TT 1 ((True∧(IntKind.wrap .i64 (BitVec.ofInt (IntKind.i64).bits (xs.getD 0 0) &&& BitVec.ofInt (IntKind.i64).bits (xs.getD 1 0)).toNat) = (((xs.getD 0 0).toNat &&& (xs.getD 1 0).toNat : Nat) : Int))∧TT 2 ((((xs.getD 0 0).toNat &&& (xs.getD 1 0).toNat : Nat) : Int) = (ot 3 ws xs k w)∧True))))) (.w 1 [(8,.val (i6 (((xs.getD 0 0).toNat &&& (xs.getD 1 0).toNat : Nat) : Int)))] <| .e) Try.func88 rfl rfl rfl (by kernel_rfl) ?_
 refine tt ⟨ix,tt ⟨ix,tt ⟨⟨oK,(DW (by omega) (by omega) (by omega) (by omega))⟩,tt ⟨?_,oK⟩⟩⟩⟩
 rfl
abbrev N8 (ws xs : List Int) (k w : Int) : Ct := ⟨89,(jf ws xs k w),false,(i6 (ot 4 ws xs k w))⟩
theorem LG (ws xs : List Int) (k w : Int) (ho : DZ ws xs 2) : CC (N8 ws xs k w) := by
 obtain ⟨hl,hf,hx,hin⟩ := ho
 have f0 : 0 < ws.length → 1 ≤ ws.getD 0 0∧ws.getD 0 0 ≤ 8 := fun h => aC hf h
 have f1 : 1 < ws.length → 1 ≤ ws.getD 1 0∧ws.getD 1 0 ≤ 8 := fun h => aC hf h
 have f2 : 2 < ws.length → 1 ≤ ws.getD 2 0∧ws.getD 2 0 ≤ 8 := fun h => aC hf h
 have a0 : 0 < ws.length → 0 ≤ xs.getD 0 0∧xs.getD 0 0 ≤ an (ws.getD 0 0) := fun h => a9 hin (by omega)
 have a1 : 1 < ws.length → 0 ≤ xs.getD 1 0∧xs.getD 1 0 ≤ an (ws.getD 1 0) := fun h => a9 hin (by omega)
 have a2 : 2 < ws.length → 0 ≤ xs.getD 2 0∧xs.getD 2 0 ≤ an (ws.getD 2 0) := fun h => a9 hin (by omega)
 have m0 : 0 < ws.length → 0 ≤ an (ws.getD 0 0)∧an (ws.getD 0 0) ≤ 255 := fun h => az (by have := f0 h; omega) (f0 h).2
 have m1 : 1 < ws.length → 0 ≤ an (ws.getD 1 0)∧an (ws.getD 1 0) ≤ 255 := fun h => az (by have := f1 h; omega) (f1 h).2
 have m2 : 2 < ws.length → 0 ≤ an (ws.getD 2 0)∧an (ws.getD 2 0) ≤ 255 := fun h => az (by have := f2 h; omega) (f2 h).2
 have b0 := f0 (by omega); have c0 := a0 (by omega); have d0 := m0 (by omega)
 have b1 := f1 (by omega); have c1 := a1 (by omega); have d1 := m1 (by omega)
 refine ai.vc (V := TT 4 (IX 0 xs.length∧TT 3 (IX 1 xs.length∧TT 1 ((True∧(IntKind.wrap .i64 (BitVec.ofInt (IntKind.i64).bits (xs.getD 0 0) ||| BitVec.ofInt (IntKind.i64).bits (xs.getD 1 0)).toNat) = (((xs.getD 0 0).toNat ||| (xs.getD 1 0).toNat : Nat) : Int))∧TT 2 ((((xs.getD 0 0).toNat ||| (xs.getD 1 0).toNat : Nat) : Int) = (ot 4 ws xs k w)∧True))))) (.w 1 [(8,.val (i6 (((xs.getD 0 0).toNat ||| (xs.getD 1 0).toNat : Nat) : Int)))] <| .e) Try.func89 rfl rfl rfl (by kernel_rfl) ?_
 refine tt ⟨ix,tt ⟨ix,tt ⟨⟨oK,(Fv (by omega) (by omega) (by omega) (by omega))⟩,tt ⟨?_,oK⟩⟩⟩⟩
 rfl
abbrev N9 (ws xs : List Int) (k w : Int) : Ct := ⟨90,(jf ws xs k w),false,(i6 (ot 5 ws xs k w))⟩
theorem J4 (ws xs : List Int) (k w : Int) (ho : DZ ws xs 2) : CC (N9 ws xs k w) := by
 obtain ⟨hl,hf,hx,hin⟩ := ho
 have f0 : 0 < ws.length → 1 ≤ ws.getD 0 0∧ws.getD 0 0 ≤ 8 := fun h => aC hf h
 have f1 : 1 < ws.length → 1 ≤ ws.getD 1 0∧ws.getD 1 0 ≤ 8 := fun h => aC hf h
 have f2 : 2 < ws.length → 1 ≤ ws.getD 2 0∧ws.getD 2 0 ≤ 8 := fun h => aC hf h
 have a0 : 0 < ws.length → 0 ≤ xs.getD 0 0∧xs.getD 0 0 ≤ an (ws.getD 0 0) := fun h => a9 hin (by omega)
 have a1 : 1 < ws.length → 0 ≤ xs.getD 1 0∧xs.getD 1 0 ≤ an (ws.getD 1 0) := fun h => a9 hin (by omega)
 have a2 : 2 < ws.length → 0 ≤ xs.getD 2 0∧xs.getD 2 0 ≤ an (ws.getD 2 0) := fun h => a9 hin (by omega)
 have m0 : 0 < ws.length → 0 ≤ an (ws.getD 0 0)∧an (ws.getD 0 0) ≤ 255 := fun h => az (by have := f0 h; omega) (f0 h).2
 have m1 : 1 < ws.length → 0 ≤ an (ws.getD 1 0)∧an (ws.getD 1 0) ≤ 255 := fun h => az (by have := f1 h; omega) (f1 h).2
 have m2 : 2 < ws.length → 0 ≤ an (ws.getD 2 0)∧an (ws.getD 2 0) ≤ 255 := fun h => az (by have := f2 h; omega) (f2 h).2
 have b0 := f0 (by omega); have c0 := a0 (by omega); have d0 := m0 (by omega)
 have b1 := f1 (by omega); have c1 := a1 (by omega); have d1 := m1 (by omega)
 refine ai.vc (V := TT 4 (IX 0 xs.length∧TT 3 (IX 1 xs.length∧TT 1 ((True∧(IntKind.wrap .i64 (BitVec.ofInt (IntKind.i64).bits (xs.getD 0 0) ^^^ BitVec.ofInt (IntKind.i64).bits (xs.getD 1 0)).toNat) = (((xs.getD 0 0).toNat ^^^ (xs.getD 1 0).toNat : Nat) : Int))∧TT 2 ((((xs.getD 0 0).toNat ^^^ (xs.getD 1 0).toNat : Nat) : Int) = (ot 5 ws xs k w)∧True))))) (.w 1 [(8,.val (i6 (((xs.getD 0 0).toNat ^^^ (xs.getD 1 0).toNat : Nat) : Int)))] <| .e) Try.func90 rfl rfl rfl (by kernel_rfl) ?_
 refine tt ⟨ix,tt ⟨ix,tt ⟨⟨oK,(wv (by omega) (by omega) (by omega) (by omega))⟩,tt ⟨?_,oK⟩⟩⟩⟩
 rfl
abbrev Oa (ws xs : List Int) (k w : Int) : Ct := ⟨91,(jf ws xs k w),false,(i6 (ot 6 ws xs k w))⟩
theorem J5 (ws xs : List Int) (k w : Int) (ho : DZ ws xs 2) : CC (Oa ws xs k w) := by
 obtain ⟨hl,hf,hx,hin⟩ := ho
 have f0 : 0 < ws.length → 1 ≤ ws.getD 0 0∧ws.getD 0 0 ≤ 8 := fun h => aC hf h
 have f1 : 1 < ws.length → 1 ≤ ws.getD 1 0∧ws.getD 1 0 ≤ 8 := fun h => aC hf h
 have f2 : 2 < ws.length → 1 ≤ ws.getD 2 0∧ws.getD 2 0 ≤ 8 := fun h => aC hf h
 have a0 : 0 < ws.length → 0 ≤ xs.getD 0 0∧xs.getD 0 0 ≤ an (ws.getD 0 0) := fun h => a9 hin (by omega)
 have a1 : 1 < ws.length → 0 ≤ xs.getD 1 0∧xs.getD 1 0 ≤ an (ws.getD 1 0) := fun h => a9 hin (by omega)
 have a2 : 2 < ws.length → 0 ≤ xs.getD 2 0∧xs.getD 2 0 ≤ an (ws.getD 2 0) := fun h => a9 hin (by omega)
 have m0 : 0 < ws.length → 0 ≤ an (ws.getD 0 0)∧an (ws.getD 0 0) ≤ 255 := fun h => az (by have := f0 h; omega) (f0 h).2
 have m1 : 1 < ws.length → 0 ≤ an (ws.getD 1 0)∧an (ws.getD 1 0) ≤ 255 := fun h => az (by have := f1 h; omega) (f1 h).2
 have m2 : 2 < ws.length → 0 ≤ an (ws.getD 2 0)∧an (ws.getD 2 0) ≤ 255 := fun h => az (by have := f2 h; omega) (f2 h).2
 have b0 := f0 (by omega); have c0 := a0 (by omega); have d0 := m0 (by omega)
 have b1 := f1 (by omega); have c1 := a1 (by omega); have d1 := m1 (by omega)
 refine ai.vc (V := TT 4 (IX 0 xs.length∧TT 3 (IX 1 xs.length∧TT 1 (W6 ((xs.getD 0 0) + (xs.getD 1 0))∧TT 1 (CC (J1 ws xs k w)∧(True∧(IntKind.wrap .i64 (BitVec.ofInt (IntKind.i64).bits ((xs.getD 0 0) + (xs.getD 1 0)) &&& BitVec.ofInt (IntKind.i64).bits (an (ws.getD 0 0))).toNat) = ((xs.getD 0 0 + xs.getD 1 0) % 2 ^ (ws.getD 0 0).toNat))∧TT 2 (((xs.getD 0 0 + xs.getD 1 0) % 2 ^ (ws.getD 0 0).toNat) = (ot 6 ws xs k w)∧True)))))) (.w 1 [(8,.val (i6 ((xs.getD 0 0) + (xs.getD 1 0)))),(10,(J1 ws xs k w).O),(11,.val (i6 ((xs.getD 0 0 + xs.getD 1 0) % 2 ^ (ws.getD 0 0).toNat)))] <| .e) Try.func91 rfl rfl rfl (by kernel_rfl) ?_
 refine tt ⟨ix,tt ⟨ix,tt ⟨w6,tt ⟨(uL ws xs k w om),⟨⟨oK,(by rw [dQ (by omega) (by omega)]; exact mf (by omega))⟩,tt ⟨?_,oK⟩⟩⟩⟩⟩⟩
 rfl
abbrev Ob (ws xs : List Int) (k w : Int) : Ct := ⟨92,(jf ws xs k w),false,(i6 (ot 7 ws xs k w))⟩
theorem J6 (ws xs : List Int) (k w : Int) (ho : DZ ws xs 2) : CC (Ob ws xs k w) := by
 obtain ⟨hl,hf,hx,hin⟩ := ho
 have f0 : 0 < ws.length → 1 ≤ ws.getD 0 0∧ws.getD 0 0 ≤ 8 := fun h => aC hf h
 have f1 : 1 < ws.length → 1 ≤ ws.getD 1 0∧ws.getD 1 0 ≤ 8 := fun h => aC hf h
 have f2 : 2 < ws.length → 1 ≤ ws.getD 2 0∧ws.getD 2 0 ≤ 8 := fun h => aC hf h
 have a0 : 0 < ws.length → 0 ≤ xs.getD 0 0∧xs.getD 0 0 ≤ an (ws.getD 0 0) := fun h => a9 hin (by omega)
 have a1 : 1 < ws.length → 0 ≤ xs.getD 1 0∧xs.getD 1 0 ≤ an (ws.getD 1 0) := fun h => a9 hin (by omega)
 have a2 : 2 < ws.length → 0 ≤ xs.getD 2 0∧xs.getD 2 0 ≤ an (ws.getD 2 0) := fun h => a9 hin (by omega)
 have m0 : 0 < ws.length → 0 ≤ an (ws.getD 0 0)∧an (ws.getD 0 0) ≤ 255 := fun h => az (by have := f0 h; omega) (f0 h).2
 have m1 : 1 < ws.length → 0 ≤ an (ws.getD 1 0)∧an (ws.getD 1 0) ≤ 255 := fun h => az (by have := f1 h; omega) (f1 h).2
 have m2 : 2 < ws.length → 0 ≤ an (ws.getD 2 0)∧an (ws.getD 2 0) ≤ 255 := fun h => az (by have := f2 h; omega) (f2 h).2
 have b0 := f0 (by omega); have c0 := a0 (by omega); have d0 := m0 (by omega)
 have b1 := f1 (by omega); have c1 := a1 (by omega); have d1 := m1 (by omega)
 refine ai.vc (V := TT 4 (IX 0 xs.length∧TT 3 (IX 1 xs.length∧TT 1 (W6 ((xs.getD 0 0) - (xs.getD 1 0))∧TT 1 (CC (J1 ws xs k w)∧(True∧(IntKind.wrap .i64 (BitVec.ofInt (IntKind.i64).bits ((xs.getD 0 0) - (xs.getD 1 0)) &&& BitVec.ofInt (IntKind.i64).bits (an (ws.getD 0 0))).toNat) = ((xs.getD 0 0 - xs.getD 1 0) % 2 ^ (ws.getD 0 0).toNat))∧TT 2 (((xs.getD 0 0 - xs.getD 1 0) % 2 ^ (ws.getD 0 0).toNat) = (ot 7 ws xs k w)∧True)))))) (.w 1 [(8,.val (i6 ((xs.getD 0 0) - (xs.getD 1 0)))),(10,(J1 ws xs k w).O),(11,.val (i6 ((xs.getD 0 0 - xs.getD 1 0) % 2 ^ (ws.getD 0 0).toNat)))] <| .e) Try.func92 rfl rfl rfl (by kernel_rfl) ?_
 refine tt ⟨ix,tt ⟨ix,tt ⟨w6,tt ⟨(uL ws xs k w om),⟨⟨oK,(by rw [dQ (by omega) (by omega)]; exact mf (by omega))⟩,tt ⟨?_,oK⟩⟩⟩⟩⟩⟩
 rfl
abbrev Oc (ws xs : List Int) (k w : Int) : Ct := ⟨94,(jf ws xs k w),false,(i6 (ot 8 ws xs k w))⟩
theorem LH (ws xs : List Int) (k w : Int) (ho : DZ ws xs 2) : CC (Oc ws xs k w) := by
 obtain ⟨hl,hf,hx,hin⟩ := ho
 have f0 : 0 < ws.length → 1 ≤ ws.getD 0 0∧ws.getD 0 0 ≤ 8 := fun h => aC hf h
 have f1 : 1 < ws.length → 1 ≤ ws.getD 1 0∧ws.getD 1 0 ≤ 8 := fun h => aC hf h
 have f2 : 2 < ws.length → 1 ≤ ws.getD 2 0∧ws.getD 2 0 ≤ 8 := fun h => aC hf h
 have a0 : 0 < ws.length → 0 ≤ xs.getD 0 0∧xs.getD 0 0 ≤ an (ws.getD 0 0) := fun h => a9 hin (by omega)
 have a1 : 1 < ws.length → 0 ≤ xs.getD 1 0∧xs.getD 1 0 ≤ an (ws.getD 1 0) := fun h => a9 hin (by omega)
 have a2 : 2 < ws.length → 0 ≤ xs.getD 2 0∧xs.getD 2 0 ≤ an (ws.getD 2 0) := fun h => a9 hin (by omega)
 have m0 : 0 < ws.length → 0 ≤ an (ws.getD 0 0)∧an (ws.getD 0 0) ≤ 255 := fun h => az (by have := f0 h; omega) (f0 h).2
 have m1 : 1 < ws.length → 0 ≤ an (ws.getD 1 0)∧an (ws.getD 1 0) ≤ 255 := fun h => az (by have := f1 h; omega) (f1 h).2
 have m2 : 2 < ws.length → 0 ≤ an (ws.getD 2 0)∧an (ws.getD 2 0) ≤ 255 := fun h => az (by have := f2 h; omega) (f2 h).2
 have b0 := f0 (by omega); have c0 := a0 (by omega); have d0 := m0 (by omega)
 have b1 := f1 (by omega); have c1 := a1 (by omega); have d1 := m1 (by omega)
 refine ai.vc (V := TT 4 (IX 0 xs.length∧TT 3 (IX 1 xs.length∧TT 2 (CC (LF ((xs.getD 0 0) == (xs.getD 1 0)))∧TT 2 ((if ((xs.getD 0 0) == (xs.getD 1 0)) = true then 1 else 0) = (ot 8 ws xs k w)∧True))))) (.w 1 [(9,(LF ((xs.getD 0 0) == (xs.getD 1 0))).O)] <| .e) Try.func94 rfl rfl rfl (by kernel_rfl) ?_
 refine tt ⟨ix,tt ⟨ix,tt ⟨(Fy ((xs.getD 0 0) == (xs.getD 1 0))),tt ⟨?_,oK⟩⟩⟩⟩
 show _ = (if xs.getD 0 0 = xs.getD 1 0 then (1 : Int) else 0)
 by_cases h : xs.getD 0 0 = xs.getD 1 0
 · rw [if_pos h,if_pos (by simpa using h)]
 · rw [if_neg h,if_neg (by simpa using h)]
abbrev Od (ws xs : List Int) (k w : Int) : Ct := ⟨96,(jf ws xs k w),false,(i6 (ot 9 ws xs k w))⟩
theorem LJ (ws xs : List Int) (k w : Int) (ho : DZ ws xs 2) : CC (Od ws xs k w) := by
 obtain ⟨hl,hf,hx,hin⟩ := ho
 have f0 : 0 < ws.length → 1 ≤ ws.getD 0 0∧ws.getD 0 0 ≤ 8 := fun h => aC hf h
 have f1 : 1 < ws.length → 1 ≤ ws.getD 1 0∧ws.getD 1 0 ≤ 8 := fun h => aC hf h
 have f2 : 2 < ws.length → 1 ≤ ws.getD 2 0∧ws.getD 2 0 ≤ 8 := fun h => aC hf h
 have a0 : 0 < ws.length → 0 ≤ xs.getD 0 0∧xs.getD 0 0 ≤ an (ws.getD 0 0) := fun h => a9 hin (by omega)
 have a1 : 1 < ws.length → 0 ≤ xs.getD 1 0∧xs.getD 1 0 ≤ an (ws.getD 1 0) := fun h => a9 hin (by omega)
 have a2 : 2 < ws.length → 0 ≤ xs.getD 2 0∧xs.getD 2 0 ≤ an (ws.getD 2 0) := fun h => a9 hin (by omega)
 have m0 : 0 < ws.length → 0 ≤ an (ws.getD 0 0)∧an (ws.getD 0 0) ≤ 255 := fun h => az (by have := f0 h; omega) (f0 h).2
 have m1 : 1 < ws.length → 0 ≤ an (ws.getD 1 0)∧an (ws.getD 1 0) ≤ 255 := fun h => az (by have := f1 h; omega) (f1 h).2
 have m2 : 2 < ws.length → 0 ≤ an (ws.getD 2 0)∧an (ws.getD 2 0) ≤ 255 := fun h => az (by have := f2 h; omega) (f2 h).2
 have b0 := f0 (by omega); have c0 := a0 (by omega); have d0 := m0 (by omega)
 have b1 := f1 (by omega); have c1 := a1 (by omega); have d1 := m1 (by omega)
 refine ai.vc (V := TT 4 (IX 0 xs.length∧TT 3 (IX 1 xs.length∧TT 2 (CC (LF (decide ((xs.getD 0 0) < (xs.getD 1 0))))∧TT 2 ((if (decide ((xs.getD 0 0) < (xs.getD 1 0))) = true then 1 else 0) = (ot 9 ws xs k w)∧True))))) (.w 1 [(9,(LF (decide ((xs.getD 0 0) < (xs.getD 1 0)))).O)] <| .e) Try.func96 rfl rfl rfl (by kernel_rfl) ?_
 refine tt ⟨ix,tt ⟨ix,tt ⟨(Fy (decide ((xs.getD 0 0) < (xs.getD 1 0)))),tt ⟨?_,oK⟩⟩⟩⟩
 show _ = (if xs.getD 0 0 < xs.getD 1 0 then (1 : Int) else 0)
 by_cases h : xs.getD 0 0 < xs.getD 1 0
 · rw [if_pos h,if_pos (by simpa using h)]
 · rw [if_neg h,if_neg (by simpa using h)]
abbrev Oe (ws xs : List Int) (k w : Int) : Ct := ⟨98,(jf ws xs k w),false,(i6 (ot 1 ws xs k w))⟩
theorem FE (ws xs : List Int) (k w : Int) (ho : DZ ws xs 0) : CC (Oe ws xs k w) := by
 obtain ⟨hl,hf,hx,hin⟩ := ho
 have f0 : 0 < ws.length → 1 ≤ ws.getD 0 0∧ws.getD 0 0 ≤ 8 := fun h => aC hf h
 have f1 : 1 < ws.length → 1 ≤ ws.getD 1 0∧ws.getD 1 0 ≤ 8 := fun h => aC hf h
 have f2 : 2 < ws.length → 1 ≤ ws.getD 2 0∧ws.getD 2 0 ≤ 8 := fun h => aC hf h
 have a0 : 0 < ws.length → 0 ≤ xs.getD 0 0∧xs.getD 0 0 ≤ an (ws.getD 0 0) := fun h => a9 hin (by omega)
 have a1 : 1 < ws.length → 0 ≤ xs.getD 1 0∧xs.getD 1 0 ≤ an (ws.getD 1 0) := fun h => a9 hin (by omega)
 have a2 : 2 < ws.length → 0 ≤ xs.getD 2 0∧xs.getD 2 0 ≤ an (ws.getD 2 0) := fun h => a9 hin (by omega)
 have m0 : 0 < ws.length → 0 ≤ an (ws.getD 0 0)∧an (ws.getD 0 0) ≤ 255 := fun h => az (by have := f0 h; omega) (f0 h).2
 have m1 : 1 < ws.length → 0 ≤ an (ws.getD 1 0)∧an (ws.getD 1 0) ≤ 255 := fun h => az (by have := f1 h; omega) (f1 h).2
 have m2 : 2 < ws.length → 0 ≤ an (ws.getD 2 0)∧an (ws.getD 2 0) ≤ 255 := fun h => az (by have := f2 h; omega) (f2 h).2
 refine ai.vc (V := TT 6 (k = (ot 1 ws xs k w)∧True)) (.e) Try.func98 rfl rfl rfl (by kernel_rfl) ?_
 refine tt ⟨?_,oK⟩
 rfl
abbrev MR (ws xs : List Int) (k w : Int) : Ct := ⟨106,(jf ws xs k w),false,(i6 (ot 13 ws xs k w))⟩
theorem J7 (ws xs : List Int) (k w : Int) (ho : DZ ws xs 1) : CC (MR ws xs k w) := by
 obtain ⟨hl,hf,hx,hin⟩ := ho
 have f0 : 0 < ws.length → 1 ≤ ws.getD 0 0∧ws.getD 0 0 ≤ 8 := fun h => aC hf h
 have f1 : 1 < ws.length → 1 ≤ ws.getD 1 0∧ws.getD 1 0 ≤ 8 := fun h => aC hf h
 have f2 : 2 < ws.length → 1 ≤ ws.getD 2 0∧ws.getD 2 0 ≤ 8 := fun h => aC hf h
 have a0 : 0 < ws.length → 0 ≤ xs.getD 0 0∧xs.getD 0 0 ≤ an (ws.getD 0 0) := fun h => a9 hin (by omega)
 have a1 : 1 < ws.length → 0 ≤ xs.getD 1 0∧xs.getD 1 0 ≤ an (ws.getD 1 0) := fun h => a9 hin (by omega)
 have a2 : 2 < ws.length → 0 ≤ xs.getD 2 0∧xs.getD 2 0 ≤ an (ws.getD 2 0) := fun h => a9 hin (by omega)
 have m0 : 0 < ws.length → 0 ≤ an (ws.getD 0 0)∧an (ws.getD 0 0) ≤ 255 := fun h => az (by have := f0 h; omega) (f0 h).2
 have m1 : 1 < ws.length → 0 ≤ an (ws.getD 1 0)∧an (ws.getD 1 0) ≤ 255 := fun h => az (by have := f1 h; omega) (f1 h).2
 have m2 : 2 < ws.length → 0 ≤ an (ws.getD 2 0)∧an (ws.getD 2 0) ≤ 255 := fun h => az (by have := f2 h; omega) (f2 h).2
 have b0 := f0 (by omega); have c0 := a0 (by omega); have d0 := m0 (by omega)
 refine ai.vc (V := TT 4 (IX 0 xs.length∧TT 3 ((xs.getD 0 0) = (ot 13 ws xs k w)∧True))) (.e) Try.func106 rfl rfl rfl (by kernel_rfl) ?_
 refine tt ⟨ix,tt ⟨?_,oK⟩⟩
 rfl
abbrev MS (ws xs : List Int) (k w : Int) : Ct := ⟨100,(jf ws xs k w),false,(i6 (ot 10 ws xs k w))⟩
theorem J8 (ws xs : List Int) (k w : Int) (ho : DZ ws xs 3) (h1 : ws.getD 0 0 = 1) : CC (MS ws xs k w) := by
 obtain ⟨hl,hf,hx,hin⟩ := ho
 have f0 : 0 < ws.length → 1 ≤ ws.getD 0 0∧ws.getD 0 0 ≤ 8 := fun h => aC hf h
 have f1 : 1 < ws.length → 1 ≤ ws.getD 1 0∧ws.getD 1 0 ≤ 8 := fun h => aC hf h
 have f2 : 2 < ws.length → 1 ≤ ws.getD 2 0∧ws.getD 2 0 ≤ 8 := fun h => aC hf h
 have a0 : 0 < ws.length → 0 ≤ xs.getD 0 0∧xs.getD 0 0 ≤ an (ws.getD 0 0) := fun h => a9 hin (by omega)
 have a1 : 1 < ws.length → 0 ≤ xs.getD 1 0∧xs.getD 1 0 ≤ an (ws.getD 1 0) := fun h => a9 hin (by omega)
 have a2 : 2 < ws.length → 0 ≤ xs.getD 2 0∧xs.getD 2 0 ≤ an (ws.getD 2 0) := fun h => a9 hin (by omega)
 have m0 : 0 < ws.length → 0 ≤ an (ws.getD 0 0)∧an (ws.getD 0 0) ≤ 255 := fun h => az (by have := f0 h; omega) (f0 h).2
 have m1 : 1 < ws.length → 0 ≤ an (ws.getD 1 0)∧an (ws.getD 1 0) ≤ 255 := fun h => az (by have := f1 h; omega) (f1 h).2
 have m2 : 2 < ws.length → 0 ≤ an (ws.getD 2 0)∧an (ws.getD 2 0) ≤ 255 := fun h => az (by have := f2 h; omega) (f2 h).2
 have b0 := f0 (by omega); have c0 := a0 (by omega); have d0 := m0 (by omega)
 have b1 := f1 (by omega); have c1 := a1 (by omega); have d1 := m1 (by omega)
 have b2 := f2 (by omega); have c2 := a2 (by omega); have d2 := m2 (by omega)
 have hm1 : an (ws.getD 0 0) = 1 := by rw [h1]; decide
 have hx0 : xs.getD 0 0 = 0 ∨ xs.getD 0 0 = 1 := by omega
 refine ai.vc (V := TT 6 (IX 0 xs.length∧TT 1 (W6 (2 - (xs.getD 0 0))∧IX (2 - (xs.getD 0 0)) xs.length∧TT 3 ((xs.getD ((2 - (xs.getD 0 0)).toNat) 0) = (ot 10 ws xs k w)∧True)))) (.w 1 [(6,.val (i6 (2 - (xs.getD 0 0))))] <| .e) Try.func100 rfl rfl rfl (by kernel_rfl) ?_
 refine tt ⟨ix,tt ⟨w6,⟨ix,tt ⟨?_,oK⟩⟩⟩⟩
 rfl
abbrev MT (ws xs : List Int) (k w : Int) : Ct := ⟨102,(jf ws xs k w),false,(i6 (ot 11 ws xs k w))⟩
theorem J9 (ws xs : List Int) (k w : Int) (ho : DZ ws xs 2) : CC (MT ws xs k w) := by
 obtain ⟨hl,hf,hx,hin⟩ := ho
 have f0 : 0 < ws.length → 1 ≤ ws.getD 0 0∧ws.getD 0 0 ≤ 8 := fun h => aC hf h
 have f1 : 1 < ws.length → 1 ≤ ws.getD 1 0∧ws.getD 1 0 ≤ 8 := fun h => aC hf h
 have f2 : 2 < ws.length → 1 ≤ ws.getD 2 0∧ws.getD 2 0 ≤ 8 := fun h => aC hf h
 have a0 : 0 < ws.length → 0 ≤ xs.getD 0 0∧xs.getD 0 0 ≤ an (ws.getD 0 0) := fun h => a9 hin (by omega)
 have a1 : 1 < ws.length → 0 ≤ xs.getD 1 0∧xs.getD 1 0 ≤ an (ws.getD 1 0) := fun h => a9 hin (by omega)
 have a2 : 2 < ws.length → 0 ≤ xs.getD 2 0∧xs.getD 2 0 ≤ an (ws.getD 2 0) := fun h => a9 hin (by omega)
 have m0 : 0 < ws.length → 0 ≤ an (ws.getD 0 0)∧an (ws.getD 0 0) ≤ 255 := fun h => az (by have := f0 h; omega) (f0 h).2
 have m1 : 1 < ws.length → 0 ≤ an (ws.getD 1 0)∧an (ws.getD 1 0) ≤ 255 := fun h => az (by have := f1 h; omega) (f1 h).2
 have m2 : 2 < ws.length → 0 ≤ an (ws.getD 2 0)∧an (ws.getD 2 0) ≤ 255 := fun h => az (by have := f2 h; omega) (f2 h).2
 have b0 := f0 (by omega); have c0 := a0 (by omega); have d0 := m0 (by omega)
 have b1 := f1 (by omega); have c1 := a1 (by omega); have d1 := m1 (by omega)
 refine ai.vc (V := TT 4 (IX 0 xs.length∧TT 3 (IX 1 ws.length∧TT 1 ((0 ≤ (ws.getD 1 0)∧(IntKind.wrap .i64 ((xs.getD 0 0) * 2 ^ min ((ws.getD 1 0).toNat) 64)) = (((xs.getD 0 0).toNat * 2 ^ (ws.getD 1 0).toNat : Nat) : Int))∧TT 2 (IX 1 xs.length∧TT 1 ((True∧(IntKind.wrap .i64 (BitVec.ofInt (IntKind.i64).bits (((xs.getD 0 0).toNat * 2 ^ (ws.getD 1 0).toNat : Nat) : Int) ||| BitVec.ofInt (IntKind.i64).bits (xs.getD 1 0)).toNat) = (((xs.getD 0 0).toNat * 2 ^ (ws.getD 1 0).toNat ||| (xs.getD 1 0).toNat : Nat) : Int))∧TT 2 ((((xs.getD 0 0).toNat * 2 ^ (ws.getD 1 0).toNat ||| (xs.getD 1 0).toNat : Nat) : Int) = (ot 11 ws xs k w)∧True))))))) (.w 1 [(8,.val (i6 (((xs.getD 0 0).toNat * 2 ^ (ws.getD 1 0).toNat : Nat) : Int))),(13,.val (i6 (((xs.getD 0 0).toNat * 2 ^ (ws.getD 1 0).toNat ||| (xs.getD 1 0).toNat : Nat) : Int)))] <| .e) Try.func102 rfl rfl rfl (by kernel_rfl) ?_
 refine tt ⟨ix,tt ⟨ix,tt ⟨⟨om,(H0 (by omega) (by omega))⟩,tt ⟨ix,tt ⟨⟨oK,(H2 (by omega) (by omega) (by omega))⟩,tt ⟨?_,oK⟩⟩⟩⟩⟩⟩
 rfl
abbrev MU (ws xs : List Int) (k w : Int) : Ct := ⟨104,(jf ws xs k w),false,(i6 (ot 12 ws xs k w))⟩
theorem FF (ws xs : List Int) (k w : Int) (ho : DZ ws xs 1) (hk : 0 ≤ k∧k ≤ 8∧ay w = true) : CC (MU ws xs k w) := by
 obtain ⟨hl,hf,hx,hin⟩ := ho
 have f0 : 0 < ws.length → 1 ≤ ws.getD 0 0∧ws.getD 0 0 ≤ 8 := fun h => aC hf h
 have f1 : 1 < ws.length → 1 ≤ ws.getD 1 0∧ws.getD 1 0 ≤ 8 := fun h => aC hf h
 have f2 : 2 < ws.length → 1 ≤ ws.getD 2 0∧ws.getD 2 0 ≤ 8 := fun h => aC hf h
 have a0 : 0 < ws.length → 0 ≤ xs.getD 0 0∧xs.getD 0 0 ≤ an (ws.getD 0 0) := fun h => a9 hin (by omega)
 have a1 : 1 < ws.length → 0 ≤ xs.getD 1 0∧xs.getD 1 0 ≤ an (ws.getD 1 0) := fun h => a9 hin (by omega)
 have a2 : 2 < ws.length → 0 ≤ xs.getD 2 0∧xs.getD 2 0 ≤ an (ws.getD 2 0) := fun h => a9 hin (by omega)
 have m0 : 0 < ws.length → 0 ≤ an (ws.getD 0 0)∧an (ws.getD 0 0) ≤ 255 := fun h => az (by have := f0 h; omega) (f0 h).2
 have m1 : 1 < ws.length → 0 ≤ an (ws.getD 1 0)∧an (ws.getD 1 0) ≤ 255 := fun h => az (by have := f1 h; omega) (f1 h).2
 have m2 : 2 < ws.length → 0 ≤ an (ws.getD 2 0)∧an (ws.getD 2 0) ≤ 255 := fun h => az (by have := f2 h; omega) (f2 h).2
 have b0 := f0 (by omega); have c0 := a0 (by omega); have d0 := m0 (by omega)
 have hw := bo.1 hk.2.2
 refine ai.vc (V := TT 4 (IX 0 xs.length∧TT 3 ((0 ≤ k∧(Int.fdiv (xs.getD 0 0) (2 ^ min k.toNat 64)) = (xs.getD 0 0 / 2 ^ k.toNat))∧TT 2 (CC (H4 w)∧(True∧(IntKind.wrap .i64 (BitVec.ofInt (IntKind.i64).bits (xs.getD 0 0 / 2 ^ k.toNat) &&& BitVec.ofInt (IntKind.i64).bits (an w)).toNat) = ((xs.getD 0 0 / 2 ^ k.toNat) % 2 ^ w.toNat))∧TT 2 (((xs.getD 0 0 / 2 ^ k.toNat) % 2 ^ w.toNat) = (ot 12 ws xs k w)∧True))))) (.w 1 [(6,.val (i6 (xs.getD 0 0 / 2 ^ k.toNat))),(9,(H4 w).O),(10,.val (i6 ((xs.getD 0 0 / 2 ^ k.toNat) % 2 ^ w.toNat)))] <| .e) Try.func104 rfl rfl rfl (by kernel_rfl) ?_
 refine tt ⟨ix,tt ⟨⟨om,(H3 hk.1 (by omega))⟩,tt ⟨(tv w),⟨⟨oK,(by rw [dQ (by omega) (by omega)]; exact mf (by omega))⟩,tt ⟨?_,oK⟩⟩⟩⟩⟩
 rfl
end Go.Proofs.Ytckgpflobhpnpaa
