/-
  Package bits: the values of operations.
-/
import Derived.Test.YtifoecfajmnjjaaGreatQVbA
namespace Go.Proofs.YtifoecfajmnjjaaGreat
open Go.RowKit
set_option linter.unusedVariables false
set_option linter.unusedSimpArgs false
abbrev i8 (ws xs : List Int) (k w : Int) : List D := [(.agg [(LI ws),(LI xs),(i6 k),(i6 w)])]
set_option maxRecDepth 100000
structure Cl (ws xs : List Int) (n : Nat) : Prop where
  hl : ws.length = n
  hf : ws.all au = true
  hx : xs.length = ws.length
  hin : xR ws xs = true
abbrev zE (ws xs : List Int) (k w : Int) : Ct := ⟨124,(i8 ws xs k w),false,(i6 (aj (ws.getD 0 0)))⟩
theorem s8 (ws xs : List Int) (k w : Int) (hl : 0 < ws.length) : CC (zE ws xs k w) := by
 refine ai.vc (V := TT 4 (IX 0 ws.length∧TT 1 (CC (D1 (ws.getD 0 0))∧TT 2 ((aj (ws.getD 0 0)) = (aj (ws.getD 0 0))∧True)))) (.w 1 [(4,(D1 (ws.getD 0 0)).O)] <| .e) Tryz.func124 rfl rfl rfl (by kernel_rfl) ?_
 exact tt ⟨ix,tt ⟨(pc (ws.getD 0 0)),tt ⟨rfl,oK⟩⟩⟩
abbrev Kb (ws xs : List Int) (k w : Int) : Ct := ⟨123,(i8 ws xs k w),false,(i6 (it 2 ws xs k w))⟩
theorem Hp (ws xs : List Int) (k w : Int) (ho : Cl ws xs 1) : CC (Kb ws xs k w) := by
 obtain ⟨hl,hf,hx,hin⟩ := ho
 have f0 : 0 < ws.length → 1 ≤ ws.getD 0 0∧ws.getD 0 0 ≤ 8 := fun h => aC hf h
 have f1 : 1 < ws.length → 1 ≤ ws.getD 1 0∧ws.getD 1 0 ≤ 8 := fun h => aC hf h
 have f2 : 2 < ws.length → 1 ≤ ws.getD 2 0∧ws.getD 2 0 ≤ 8 := fun h => aC hf h
 have a0 : 0 < ws.length → 0 ≤ xs.getD 0 0∧xs.getD 0 0 ≤ aj (ws.getD 0 0) := fun h => bc hin (by omega)
 have a1 : 1 < ws.length → 0 ≤ xs.getD 1 0∧xs.getD 1 0 ≤ aj (ws.getD 1 0) := fun h => bc hin (by omega)
 have a2 : 2 < ws.length → 0 ≤ xs.getD 2 0∧xs.getD 2 0 ≤ aj (ws.getD 2 0) := fun h => bc hin (by omega)
 have m0 : 0 < ws.length → 0 ≤ aj (ws.getD 0 0)∧aj (ws.getD 0 0) ≤ 255 := fun h => az (by have := f0 h; omega) (f0 h).2
 have m1 : 1 < ws.length → 0 ≤ aj (ws.getD 1 0)∧aj (ws.getD 1 0) ≤ 255 := fun h => az (by have := f1 h; omega) (f1 h).2
 have m2 : 2 < ws.length → 0 ≤ aj (ws.getD 2 0)∧aj (ws.getD 2 0) ≤ 255 := fun h => az (by have := f2 h; omega) (f2 h).2
 have b0 := f0 (by omega); have c0 := a0 (by omega); have d0 := m0 (by omega)
 refine ai.vc (V := TT 4 (IX 0 xs.length∧TT 2 (CC (zE ws xs k w)∧(True∧(IntKind.wrap .i64 (BitVec.ofInt (IntKind.i64).bits (xs.getD 0 0) ^^^ BitVec.ofInt (IntKind.i64).bits (aj (ws.getD 0 0))).toNat) = (((xs.getD 0 0).toNat ^^^ (aj (ws.getD 0 0)).toNat : Nat) : Int))∧TT 2 ((((xs.getD 0 0).toNat ^^^ (aj (ws.getD 0 0)).toNat : Nat) : Int) = (it 2 ws xs k w)∧True)))) (.w 1 [(5,(zE ws xs k w).O),(6,.val (i6 (((xs.getD 0 0).toNat ^^^ (aj (ws.getD 0 0)).toNat : Nat) : Int)))] <| .e) Tryz.func123 rfl rfl rfl (by kernel_rfl) ?_
 refine tt ⟨ix,tt ⟨(s8 ws xs k w om),⟨⟨oK,(qI (by omega) (by omega) (by omega) (by omega))⟩,tt ⟨?_,oK⟩⟩⟩⟩
 rfl
abbrev Kc (ws xs : List Int) (k w : Int) : Ct := ⟨126,(i8 ws xs k w),false,(i6 (it 3 ws xs k w))⟩
theorem Hq (ws xs : List Int) (k w : Int) (ho : Cl ws xs 2) : CC (Kc ws xs k w) := by
 obtain ⟨hl,hf,hx,hin⟩ := ho
 have f0 : 0 < ws.length → 1 ≤ ws.getD 0 0∧ws.getD 0 0 ≤ 8 := fun h => aC hf h
 have f1 : 1 < ws.length → 1 ≤ ws.getD 1 0∧ws.getD 1 0 ≤ 8 := fun h => aC hf h
 have f2 : 2 < ws.length → 1 ≤ ws.getD 2 0∧ws.getD 2 0 ≤ 8 := fun h => aC hf h
 have a0 : 0 < ws.length → 0 ≤ xs.getD 0 0∧xs.getD 0 0 ≤ aj (ws.getD 0 0) := fun h => bc hin (by omega)
 have a1 : 1 < ws.length → 0 ≤ xs.getD 1 0∧xs.getD 1 0 ≤ aj (ws.getD 1 0) := fun h => bc hin (by omega)
 have a2 : 2 < ws.length → 0 ≤ xs.getD 2 0∧xs.getD 2 0 ≤ aj (ws.getD 2 0) := fun h => bc hin (by omega)
 have m0 : 0 < ws.length → 0 ≤ aj (ws.getD 0 0)∧aj (ws.getD 0 0) ≤ 255 := fun h => az (by have := f0 h; omega) (f0 h).2
 have m1 : 1 < ws.length → 0 ≤ aj (ws.getD 1 0)∧aj (ws.getD 1 0) ≤ 255 := fun h => az (by have := f1 h; omega) (f1 h).2
 have m2 : 2 < ws.length → 0 ≤ aj (ws.getD 2 0)∧aj (ws.getD 2 0) ≤ 255 := fun h => az (by have := f2 h; omega) (f2 h).2
 have b0 := f0 (by omega); have c0 := a0 (by omega); have d0 := m0 (by omega)
 have b1 := f1 (by omega); have c1 := a1 (by omega); have d1 := m1 (by omega)
 refine ai.vc (V := TT 4 (IX 0 xs.length∧TT 3 (IX 1 xs.length∧TT 1 ((True∧(IntKind.wrap .i64 (BitVec.ofInt (IntKind.i64).bits (xs.getD 0 0) &&& BitVec.ofInt (IntKind.i64).bits (xs.getD 1 0)).toNat) = (((xs.getD 0 0).toNat &&& (xs.getD 1 0).toNat : Nat) : Int))∧TT 2 ((((xs.getD 0 0).toNat &&& (xs.getD 1 0).toNat : Nat) : Int) = (it 3 ws xs k w)∧True))))) (.w 1 [(8,.val (i6 (((xs.getD 0 0).toNat &&& (xs.getD 1 0).toNat : Nat) : Int)))] <| .e) Tryz.func126 rfl rfl rfl (by kernel_rfl) ?_
 refine tt ⟨ix,tt ⟨ix,tt ⟨⟨oK,(uS (by omega) (by omega) (by omega) (by omega))⟩,tt ⟨?_,oK⟩⟩⟩⟩
 rfl
abbrev Kd (ws xs : List Int) (k w : Int) : Ct := ⟨127,(i8 ws xs k w),false,(i6 (it 4 ws xs k w))⟩
theorem IZ (ws xs : List Int) (k w : Int) (ho : Cl ws xs 2) : CC (Kd ws xs k w) := by
 obtain ⟨hl,hf,hx,hin⟩ := ho
 have f0 : 0 < ws.length → 1 ≤ ws.getD 0 0∧ws.getD 0 0 ≤ 8 := fun h => aC hf h
 have f1 : 1 < ws.length → 1 ≤ ws.getD 1 0∧ws.getD 1 0 ≤ 8 := fun h => aC hf h
 have f2 : 2 < ws.length → 1 ≤ ws.getD 2 0∧ws.getD 2 0 ≤ 8 := fun h => aC hf h
 have a0 : 0 < ws.length → 0 ≤ xs.getD 0 0∧xs.getD 0 0 ≤ aj (ws.getD 0 0) := fun h => bc hin (by omega)
 have a1 : 1 < ws.length → 0 ≤ xs.getD 1 0∧xs.getD 1 0 ≤ aj (ws.getD 1 0) := fun h => bc hin (by omega)
 have a2 : 2 < ws.length → 0 ≤ xs.getD 2 0∧xs.getD 2 0 ≤ aj (ws.getD 2 0) := fun h => bc hin (by omega)
 have m0 : 0 < ws.length → 0 ≤ aj (ws.getD 0 0)∧aj (ws.getD 0 0) ≤ 255 := fun h => az (by have := f0 h; omega) (f0 h).2
 have m1 : 1 < ws.length → 0 ≤ aj (ws.getD 1 0)∧aj (ws.getD 1 0) ≤ 255 := fun h => az (by have := f1 h; omega) (f1 h).2
 have m2 : 2 < ws.length → 0 ≤ aj (ws.getD 2 0)∧aj (ws.getD 2 0) ≤ 255 := fun h => az (by have := f2 h; omega) (f2 h).2
 have b0 := f0 (by omega); have c0 := a0 (by omega); have d0 := m0 (by omega)
 have b1 := f1 (by omega); have c1 := a1 (by omega); have d1 := m1 (by omega)
 refine ai.vc (V := TT 4 (IX 0 xs.length∧TT 3 (IX 1 xs.length∧TT 1 ((True∧(IntKind.wrap .i64 (BitVec.ofInt (IntKind.i64).bits (xs.getD 0 0) ||| BitVec.ofInt (IntKind.i64).bits (xs.getD 1 0)).toNat) = (((xs.getD 0 0).toNat ||| (xs.getD 1 0).toNat : Nat) : Int))∧TT 2 ((((xs.getD 0 0).toNat ||| (xs.getD 1 0).toNat : Nat) : Int) = (it 4 ws xs k w)∧True))))) (.w 1 [(8,.val (i6 (((xs.getD 0 0).toNat ||| (xs.getD 1 0).toNat : Nat) : Int)))] <| .e) Tryz.func127 rfl rfl rfl (by kernel_rfl) ?_
 refine tt ⟨ix,tt ⟨ix,tt ⟨⟨oK,(xS (by omega) (by omega) (by omega) (by omega))⟩,tt ⟨?_,oK⟩⟩⟩⟩
 rfl
abbrev Ke (ws xs : List Int) (k w : Int) : Ct := ⟨128,(i8 ws xs k w),false,(i6 (it 5 ws xs k w))⟩
theorem Hr (ws xs : List Int) (k w : Int) (ho : Cl ws xs 2) : CC (Ke ws xs k w) := by
 obtain ⟨hl,hf,hx,hin⟩ := ho
 have f0 : 0 < ws.length → 1 ≤ ws.getD 0 0∧ws.getD 0 0 ≤ 8 := fun h => aC hf h
 have f1 : 1 < ws.length → 1 ≤ ws.getD 1 0∧ws.getD 1 0 ≤ 8 := fun h => aC hf h
 have f2 : 2 < ws.length → 1 ≤ ws.getD 2 0∧ws.getD 2 0 ≤ 8 := fun h => aC hf h
 have a0 : 0 < ws.length → 0 ≤ xs.getD 0 0∧xs.getD 0 0 ≤ aj (ws.getD 0 0) := fun h => bc hin (by omega)
 have a1 : 1 < ws.length → 0 ≤ xs.getD 1 0∧xs.getD 1 0 ≤ aj (ws.getD 1 0) := fun h => bc hin (by omega)
 have a2 : 2 < ws.length → 0 ≤ xs.getD 2 0∧xs.getD 2 0 ≤ aj (ws.getD 2 0) := fun h => bc hin (by omega)
 have m0 : 0 < ws.length → 0 ≤ aj (ws.getD 0 0)∧aj (ws.getD 0 0) ≤ 255 := fun h => az (by have := f0 h; omega) (f0 h).2
 have m1 : 1 < ws.length → 0 ≤ aj (ws.getD 1 0)∧aj (ws.getD 1 0) ≤ 255 := fun h => az (by have := f1 h; omega) (f1 h).2
 have m2 : 2 < ws.length → 0 ≤ aj (ws.getD 2 0)∧aj (ws.getD 2 0) ≤ 255 := fun h => az (by have := f2 h; omega) (f2 h).2
 have b0 := f0 (by omega); have c0 := a0 (by omega); have d0 := m0 (by omega)
 have b1 := f1 (by omega); have c1 := a1 (by omega); have d1 := m1 (by omega)
 refine ai.vc (V := TT 4 (IX 0 xs.length∧TT 3 (IX 1 xs.length∧TT 1 ((True∧(IntKind.wrap .i64 (BitVec.ofInt (IntKind.i64).bits (xs.getD 0 0) ^^^ BitVec.ofInt (IntKind.i64).bits (xs.getD 1 0)).toNat) = (((xs.getD 0 0).toNat ^^^ (xs.getD 1 0).toNat : Nat) : Int))∧TT 2 ((((xs.getD 0 0).toNat ^^^ (xs.getD 1 0).toNat : Nat) : Int) = (it 5 ws xs k w)∧True))))) (.w 1 [(8,.val (i6 (((xs.getD 0 0).toNat ^^^ (xs.getD 1 0).toNat : Nat) : Int)))] <| .e) Tryz.func128 rfl rfl rfl (by kernel_rfl) ?_
 refine tt ⟨ix,tt ⟨ix,tt ⟨⟨oK,(qI (by omega) (by omega) (by omega) (by omega))⟩,tt ⟨?_,oK⟩⟩⟩⟩
 rfl
abbrev Kf (ws xs : List Int) (k w : Int) : Ct := ⟨129,(i8 ws xs k w),false,(i6 (it 6 ws xs k w))⟩
theorem Hs (ws xs : List Int) (k w : Int) (ho : Cl ws xs 2) : CC (Kf ws xs k w) := by
 obtain ⟨hl,hf,hx,hin⟩ := ho
 have f0 : 0 < ws.length → 1 ≤ ws.getD 0 0∧ws.getD 0 0 ≤ 8 := fun h => aC hf h
 have f1 : 1 < ws.length → 1 ≤ ws.getD 1 0∧ws.getD 1 0 ≤ 8 := fun h => aC hf h
 have f2 : 2 < ws.length → 1 ≤ ws.getD 2 0∧ws.getD 2 0 ≤ 8 := fun h => aC hf h
 have a0 : 0 < ws.length → 0 ≤ xs.getD 0 0∧xs.getD 0 0 ≤ aj (ws.getD 0 0) := fun h => bc hin (by omega)
 have a1 : 1 < ws.length → 0 ≤ xs.getD 1 0∧xs.getD 1 0 ≤ aj (ws.getD 1 0) := fun h => bc hin (by omega)
 have a2 : 2 < ws.length → 0 ≤ xs.getD 2 0∧xs.getD 2 0 ≤ aj (ws.getD 2 0) := fun h => bc hin (by omega)
 have m0 : 0 < ws.length → 0 ≤ aj (ws.getD 0 0)∧aj (ws.getD 0 0) ≤ 255 := fun h => az (by have := f0 h; omega) (f0 h).2
 have m1 : 1 < ws.length → 0 ≤ aj (ws.getD 1 0)∧aj (ws.getD 1 0) ≤ 255 := fun h => az (by have := f1 h; omega) (f1 h).2
 have m2 : 2 < ws.length → 0 ≤ aj (ws.getD 2 0)∧aj (ws.getD 2 0) ≤ 255 := fun h => az (by have := f2 h; omega) (f2 h).2
 have b0 := f0 (by omega); have c0 := a0 (by omega); have d0 := m0 (by omega)
 have b1 := f1 (by omega); have c1 := a1 (by omega); have d1 := m1 (by omega)
 refine ai.vc (V := TT 4 (IX 0 xs.length∧TT 3 (IX 1 xs.length∧TT 1 (W6 ((xs.getD 0 0) + (xs.getD 1 0))∧TT 1 (CC (zE ws xs k w)∧(True∧(IntKind.wrap .i64 (BitVec.ofInt (IntKind.i64).bits ((xs.getD 0 0) + (xs.getD 1 0)) &&& BitVec.ofInt (IntKind.i64).bits (aj (ws.getD 0 0))).toNat) = ((xs.getD 0 0 + xs.getD 1 0) % 2 ^ (ws.getD 0 0).toNat))∧TT 2 (((xs.getD 0 0 + xs.getD 1 0) % 2 ^ (ws.getD 0 0).toNat) = (it 6 ws xs k w)∧True)))))) (.w 1 [(8,.val (i6 ((xs.getD 0 0) + (xs.getD 1 0)))),(10,(zE ws xs k w).O),(11,.val (i6 ((xs.getD 0 0 + xs.getD 1 0) % 2 ^ (ws.getD 0 0).toNat)))] <| .e) Tryz.func129 rfl rfl rfl (by kernel_rfl) ?_
 refine tt ⟨ix,tt ⟨ix,tt ⟨w6,tt ⟨(s8 ws xs k w om),⟨⟨oK,(by rw [cA (by omega) (by omega)]; exact ir (by omega))⟩,tt ⟨?_,oK⟩⟩⟩⟩⟩⟩
 rfl
abbrev Kg (ws xs : List Int) (k w : Int) : Ct := ⟨130,(i8 ws xs k w),false,(i6 (it 7 ws xs k w))⟩
theorem Ht (ws xs : List Int) (k w : Int) (ho : Cl ws xs 2) : CC (Kg ws xs k w) := by
 obtain ⟨hl,hf,hx,hin⟩ := ho
 have f0 : 0 < ws.length → 1 ≤ ws.getD 0 0∧ws.getD 0 0 ≤ 8 := fun h => aC hf h
 have f1 : 1 < ws.length → 1 ≤ ws.getD 1 0∧ws.getD 1 0 ≤ 8 := fun h => aC hf h
 have f2 : 2 < ws.length → 1 ≤ ws.getD 2 0∧ws.getD 2 0 ≤ 8 := fun h => aC hf h
 have a0 : 0 < ws.length → 0 ≤ xs.getD 0 0∧xs.getD 0 0 ≤ aj (ws.getD 0 0) := fun h => bc hin (by omega)
 have a1 : 1 < ws.length → 0 ≤ xs.getD 1 0∧xs.getD 1 0 ≤ aj (ws.getD 1 0) := fun h => bc hin (by omega)
 have a2 : 2 < ws.length → 0 ≤ xs.getD 2 0∧xs.getD 2 0 ≤ aj (ws.getD 2 0) := fun h => bc hin (by omega)
 have m0 : 0 < ws.length → 0 ≤ aj (ws.getD 0 0)∧aj (ws.getD 0 0) ≤ 255 := fun h => az (by have := f0 h; omega) (f0 h).2
 have m1 : 1 < ws.length → 0 ≤ aj (ws.getD 1 0)∧aj (ws.getD 1 0) ≤ 255 := fun h => az (by have := f1 h; omega) (f1 h).2
 have m2 : 2 < ws.length → 0 ≤ aj (ws.getD 2 0)∧aj (ws.getD 2 0) ≤ 255 := fun h => az (by have := f2 h; omega) (f2 h).2
 have b0 := f0 (by omega); have c0 := a0 (by omega); have d0 := m0 (by omega)
 have b1 := f1 (by omega); have c1 := a1 (by omega); have d1 := m1 (by omega)
 refine ai.vc (V := TT 4 (IX 0 xs.length∧TT 3 (IX 1 xs.length∧TT 1 (W6 ((xs.getD 0 0) - (xs.getD 1 0))∧TT 1 (CC (zE ws xs k w)∧(True∧(IntKind.wrap .i64 (BitVec.ofInt (IntKind.i64).bits ((xs.getD 0 0) - (xs.getD 1 0)) &&& BitVec.ofInt (IntKind.i64).bits (aj (ws.getD 0 0))).toNat) = ((xs.getD 0 0 - xs.getD 1 0) % 2 ^ (ws.getD 0 0).toNat))∧TT 2 (((xs.getD 0 0 - xs.getD 1 0) % 2 ^ (ws.getD 0 0).toNat) = (it 7 ws xs k w)∧True)))))) (.w 1 [(8,.val (i6 ((xs.getD 0 0) - (xs.getD 1 0)))),(10,(zE ws xs k w).O),(11,.val (i6 ((xs.getD 0 0 - xs.getD 1 0) % 2 ^ (ws.getD 0 0).toNat)))] <| .e) Tryz.func130 rfl rfl rfl (by kernel_rfl) ?_
 refine tt ⟨ix,tt ⟨ix,tt ⟨w6,tt ⟨(s8 ws xs k w om),⟨⟨oK,(by rw [cA (by omega) (by omega)]; exact ir (by omega))⟩,tt ⟨?_,oK⟩⟩⟩⟩⟩⟩
 rfl
abbrev Kh (ws xs : List Int) (k w : Int) : Ct := ⟨132,(i8 ws xs k w),false,(i6 (it 8 ws xs k w))⟩
theorem I0 (ws xs : List Int) (k w : Int) (ho : Cl ws xs 2) : CC (Kh ws xs k w) := by
 obtain ⟨hl,hf,hx,hin⟩ := ho
 have f0 : 0 < ws.length → 1 ≤ ws.getD 0 0∧ws.getD 0 0 ≤ 8 := fun h => aC hf h
 have f1 : 1 < ws.length → 1 ≤ ws.getD 1 0∧ws.getD 1 0 ≤ 8 := fun h => aC hf h
 have f2 : 2 < ws.length → 1 ≤ ws.getD 2 0∧ws.getD 2 0 ≤ 8 := fun h => aC hf h
 have a0 : 0 < ws.length → 0 ≤ xs.getD 0 0∧xs.getD 0 0 ≤ aj (ws.getD 0 0) := fun h => bc hin (by omega)
 have a1 : 1 < ws.length → 0 ≤ xs.getD 1 0∧xs.getD 1 0 ≤ aj (ws.getD 1 0) := fun h => bc hin (by omega)
 have a2 : 2 < ws.length → 0 ≤ xs.getD 2 0∧xs.getD 2 0 ≤ aj (ws.getD 2 0) := fun h => bc hin (by omega)
 have m0 : 0 < ws.length → 0 ≤ aj (ws.getD 0 0)∧aj (ws.getD 0 0) ≤ 255 := fun h => az (by have := f0 h; omega) (f0 h).2
 have m1 : 1 < ws.length → 0 ≤ aj (ws.getD 1 0)∧aj (ws.getD 1 0) ≤ 255 := fun h => az (by have := f1 h; omega) (f1 h).2
 have m2 : 2 < ws.length → 0 ≤ aj (ws.getD 2 0)∧aj (ws.getD 2 0) ≤ 255 := fun h => az (by have := f2 h; omega) (f2 h).2
 have b0 := f0 (by omega); have c0 := a0 (by omega); have d0 := m0 (by omega)
 have b1 := f1 (by omega); have c1 := a1 (by omega); have d1 := m1 (by omega)
 refine ai.vc (V := TT 4 (IX 0 xs.length∧TT 3 (IX 1 xs.length∧TT 2 (CC (D2 ((xs.getD 0 0) == (xs.getD 1 0)))∧TT 2 ((if ((xs.getD 0 0) == (xs.getD 1 0)) = true then 1 else 0) = (it 8 ws xs k w)∧True))))) (.w 1 [(9,(D2 ((xs.getD 0 0) == (xs.getD 1 0))).O)] <| .e) Tryz.func132 rfl rfl rfl (by kernel_rfl) ?_
 refine tt ⟨ix,tt ⟨ix,tt ⟨(D3 ((xs.getD 0 0) == (xs.getD 1 0))),tt ⟨?_,oK⟩⟩⟩⟩
 show _ = (if xs.getD 0 0 = xs.getD 1 0 then (1 : Int) else 0)
 by_cases h : xs.getD 0 0 = xs.getD 1 0
 · rw [if_pos h,if_pos (by simpa using h)]
 · rw [if_neg h,if_neg (by simpa using h)]
abbrev Ki (ws xs : List Int) (k w : Int) : Ct := ⟨134,(i8 ws xs k w),false,(i6 (it 9 ws xs k w))⟩
theorem I1 (ws xs : List Int) (k w : Int) (ho : Cl ws xs 2) : CC (Ki ws xs k w) := by
 obtain ⟨hl,hf,hx,hin⟩ := ho
 have f0 : 0 < ws.length → 1 ≤ ws.getD 0 0∧ws.getD 0 0 ≤ 8 := fun h => aC hf h
 have f1 : 1 < ws.length → 1 ≤ ws.getD 1 0∧ws.getD 1 0 ≤ 8 := fun h => aC hf h
 have f2 : 2 < ws.length → 1 ≤ ws.getD 2 0∧ws.getD 2 0 ≤ 8 := fun h => aC hf h
 have a0 : 0 < ws.length → 0 ≤ xs.getD 0 0∧xs.getD 0 0 ≤ aj (ws.getD 0 0) := fun h => bc hin (by omega)
 have a1 : 1 < ws.length → 0 ≤ xs.getD 1 0∧xs.getD 1 0 ≤ aj (ws.getD 1 0) := fun h => bc hin (by omega)
 have a2 : 2 < ws.length → 0 ≤ xs.getD 2 0∧xs.getD 2 0 ≤ aj (ws.getD 2 0) := fun h => bc hin (by omega)
 have m0 : 0 < ws.length → 0 ≤ aj (ws.getD 0 0)∧aj (ws.getD 0 0) ≤ 255 := fun h => az (by have := f0 h; omega) (f0 h).2
 have m1 : 1 < ws.length → 0 ≤ aj (ws.getD 1 0)∧aj (ws.getD 1 0) ≤ 255 := fun h => az (by have := f1 h; omega) (f1 h).2
 have m2 : 2 < ws.length → 0 ≤ aj (ws.getD 2 0)∧aj (ws.getD 2 0) ≤ 255 := fun h => az (by have := f2 h; omega) (f2 h).2
 have b0 := f0 (by omega); have c0 := a0 (by omega); have d0 := m0 (by omega)
 have b1 := f1 (by omega); have c1 := a1 (by omega); have d1 := m1 (by omega)
 refine ai.vc (V := TT 4 (IX 0 xs.length∧TT 3 (IX 1 xs.length∧TT 2 (CC (D2 (decide ((xs.getD 0 0) < (xs.getD 1 0))))∧TT 2 ((if (decide ((xs.getD 0 0) < (xs.getD 1 0))) = true then 1 else 0) = (it 9 ws xs k w)∧True))))) (.w 1 [(9,(D2 (decide ((xs.getD 0 0) < (xs.getD 1 0)))).O)] <| .e) Tryz.func134 rfl rfl rfl (by kernel_rfl) ?_
 refine tt ⟨ix,tt ⟨ix,tt ⟨(D3 (decide ((xs.getD 0 0) < (xs.getD 1 0)))),tt ⟨?_,oK⟩⟩⟩⟩
 show _ = (if xs.getD 0 0 < xs.getD 1 0 then (1 : Int) else 0)
 by_cases h : xs.getD 0 0 < xs.getD 1 0
 · rw [if_pos h,if_pos (by simpa using h)]
 · rw [if_neg h,if_neg (by simpa using h)]
abbrev Kj (ws xs : List Int) (k w : Int) : Ct := ⟨136,(i8 ws xs k w),false,(i6 (it 1 ws xs k w))⟩
theorem D8 (ws xs : List Int) (k w : Int) (ho : Cl ws xs 0) : CC (Kj ws xs k w) := by
 obtain ⟨hl,hf,hx,hin⟩ := ho
 have f0 : 0 < ws.length → 1 ≤ ws.getD 0 0∧ws.getD 0 0 ≤ 8 := fun h => aC hf h
 have f1 : 1 < ws.length → 1 ≤ ws.getD 1 0∧ws.getD 1 0 ≤ 8 := fun h => aC hf h
 have f2 : 2 < ws.length → 1 ≤ ws.getD 2 0∧ws.getD 2 0 ≤ 8 := fun h => aC hf h
 have a0 : 0 < ws.length → 0 ≤ xs.getD 0 0∧xs.getD 0 0 ≤ aj (ws.getD 0 0) := fun h => bc hin (by omega)
 have a1 : 1 < ws.length → 0 ≤ xs.getD 1 0∧xs.getD 1 0 ≤ aj (ws.getD 1 0) := fun h => bc hin (by omega)
 have a2 : 2 < ws.length → 0 ≤ xs.getD 2 0∧xs.getD 2 0 ≤ aj (ws.getD 2 0) := fun h => bc hin (by omega)
 have m0 : 0 < ws.length → 0 ≤ aj (ws.getD 0 0)∧aj (ws.getD 0 0) ≤ 255 := fun h => az (by have := f0 h; omega) (f0 h).2
 have m1 : 1 < ws.length → 0 ≤ aj (ws.getD 1 0)∧aj (ws.getD 1 0) ≤ 255 := fun h => az (by have := f1 h; omega) (f1 h).2
 have m2 : 2 < ws.length → 0 ≤ aj (ws.getD 2 0)∧aj (ws.getD 2 0) ≤ 255 := fun h => az (by have := f2 h; omega) (f2 h).2
 refine ai.vc (V := TT 6 (k = (it 1 ws xs k w)∧True)) (.e) Tryz.func136 rfl rfl rfl (by kernel_rfl) ?_
 refine tt ⟨?_,oK⟩
 rfl
abbrev Kk (ws xs : List Int) (k w : Int) : Ct := ⟨144,(i8 ws xs k w),false,(i6 (it 13 ws xs k w))⟩
theorem Hu (ws xs : List Int) (k w : Int) (ho : Cl ws xs 1) : CC (Kk ws xs k w) := by
 obtain ⟨hl,hf,hx,hin⟩ := ho
 have f0 : 0 < ws.length → 1 ≤ ws.getD 0 0∧ws.getD 0 0 ≤ 8 := fun h => aC hf h
 have f1 : 1 < ws.length → 1 ≤ ws.getD 1 0∧ws.getD 1 0 ≤ 8 := fun h => aC hf h
 have f2 : 2 < ws.length → 1 ≤ ws.getD 2 0∧ws.getD 2 0 ≤ 8 := fun h => aC hf h
 have a0 : 0 < ws.length → 0 ≤ xs.getD 0 0∧xs.getD 0 0 ≤ aj (ws.getD 0 0) := fun h => bc hin (by omega)
 have a1 : 1 < ws.length → 0 ≤ xs.getD 1 0∧xs.getD 1 0 ≤ aj (ws.getD 1 0) := fun h => bc hin (by omega)
 have a2 : 2 < ws.length → 0 ≤ xs.getD 2 0∧xs.getD 2 0 ≤ aj (ws.getD 2 0) := fun h => bc hin (by omega)
 have m0 : 0 < ws.length → 0 ≤ aj (ws.getD 0 0)∧aj (ws.getD 0 0) ≤ 255 := fun h => az (by have := f0 h; omega) (f0 h).2
 have m1 : 1 < ws.length → 0 ≤ aj (ws.getD 1 0)∧aj (ws.getD 1 0) ≤ 255 := fun h => az (by have := f1 h; omega) (f1 h).2
 have m2 : 2 < ws.length → 0 ≤ aj (ws.getD 2 0)∧aj (ws.getD 2 0) ≤ 255 := fun h => az (by have := f2 h; omega) (f2 h).2
 have b0 := f0 (by omega); have c0 := a0 (by omega); have d0 := m0 (by omega)
 refine ai.vc (V := TT 4 (IX 0 xs.length∧TT 3 ((xs.getD 0 0) = (it 13 ws xs k w)∧True))) (.e) Tryz.func144 rfl rfl rfl (by kernel_rfl) ?_
 refine tt ⟨ix,tt ⟨?_,oK⟩⟩
 rfl
abbrev Kl (ws xs : List Int) (k w : Int) : Ct := ⟨138,(i8 ws xs k w),false,(i6 (it 10 ws xs k w))⟩
theorem Hv (ws xs : List Int) (k w : Int) (ho : Cl ws xs 3) (h1 : ws.getD 0 0 = 1) : CC (Kl ws xs k w) := by
 obtain ⟨hl,hf,hx,hin⟩ := ho
 have f0 : 0 < ws.length → 1 ≤ ws.getD 0 0∧ws.getD 0 0 ≤ 8 := fun h => aC hf h
 have f1 : 1 < ws.length → 1 ≤ ws.getD 1 0∧ws.getD 1 0 ≤ 8 := fun h => aC hf h
 have f2 : 2 < ws.length → 1 ≤ ws.getD 2 0∧ws.getD 2 0 ≤ 8 := fun h => aC hf h
 have a0 : 0 < ws.length → 0 ≤ xs.getD 0 0∧xs.getD 0 0 ≤ aj (ws.getD 0 0) := fun h => bc hin (by omega)
 have a1 : 1 < ws.length → 0 ≤ xs.getD 1 0∧xs.getD 1 0 ≤ aj (ws.getD 1 0) := fun h => bc hin (by omega)
 have a2 : 2 < ws.length → 0 ≤ xs.getD 2 0∧xs.getD 2 0 ≤ aj (ws.getD 2 0) := fun h => bc hin (by omega)
 have m0 : 0 < ws.length → 0 ≤ aj (ws.getD 0 0)∧aj (ws.getD 0 0) ≤ 255 := fun h => az (by have := f0 h; omega) (f0 h).2
 have m1 : 1 < ws.length → 0 ≤ aj (ws.getD 1 0)∧aj (ws.getD 1 0) ≤ 255 := fun h => az (by have := f1 h; omega) (f1 h).2
 have m2 : 2 < ws.length → 0 ≤ aj (ws.getD 2 0)∧aj (ws.getD 2 0) ≤ 255 := fun h => az (by have := f2 h; omega) (f2 h).2
 have b0 := f0 (by omega); have c0 := a0 (by omega); have d0 := m0 (by omega)
 have b1 := f1 (by omega); have c1 := a1 (by omega); have d1 := m1 (by omega)
 have b2 := f2 (by omega); have c2 := a2 (by omega); have d2 := m2 (by omega)
 have hm1 : aj (ws.getD 0 0) = 1 := by rw [h1]; decide
 have hx0 : xs.getD 0 0 = 0 ∨ xs.getD 0 0 = 1 := by omega
 refine ai.vc (V := TT 6 (IX 0 xs.length∧TT 1 (W6 (2 - (xs.getD 0 0))∧IX (2 - (xs.getD 0 0)) xs.length∧TT 3 ((xs.getD ((2 - (xs.getD 0 0)).toNat) 0) = (it 10 ws xs k w)∧True)))) (.w 1 [(6,.val (i6 (2 - (xs.getD 0 0))))] <| .e) Tryz.func138 rfl rfl rfl (by kernel_rfl) ?_
 refine tt ⟨ix,tt ⟨w6,⟨ix,tt ⟨?_,oK⟩⟩⟩⟩
 rfl
abbrev Km (ws xs : List Int) (k w : Int) : Ct := ⟨140,(i8 ws xs k w),false,(i6 (it 11 ws xs k w))⟩
theorem Hw (ws xs : List Int) (k w : Int) (ho : Cl ws xs 2) : CC (Km ws xs k w) := by
 obtain ⟨hl,hf,hx,hin⟩ := ho
 have f0 : 0 < ws.length → 1 ≤ ws.getD 0 0∧ws.getD 0 0 ≤ 8 := fun h => aC hf h
 have f1 : 1 < ws.length → 1 ≤ ws.getD 1 0∧ws.getD 1 0 ≤ 8 := fun h => aC hf h
 have f2 : 2 < ws.length → 1 ≤ ws.getD 2 0∧ws.getD 2 0 ≤ 8 := fun h => aC hf h
 have a0 : 0 < ws.length → 0 ≤ xs.getD 0 0∧xs.getD 0 0 ≤ aj (ws.getD 0 0) := fun h => bc hin (by omega)
 have a1 : 1 < ws.length → 0 ≤ xs.getD 1 0∧xs.getD 1 0 ≤ aj (ws.getD 1 0) := fun h => bc hin (by omega)
 have a2 : 2 < ws.length → 0 ≤ xs.getD 2 0∧xs.getD 2 0 ≤ aj (ws.getD 2 0) := fun h => bc hin (by omega)
 have m0 : 0 < ws.length → 0 ≤ aj (ws.getD 0 0)∧aj (ws.getD 0 0) ≤ 255 := fun h => az (by have := f0 h; omega) (f0 h).2
 have m1 : 1 < ws.length → 0 ≤ aj (ws.getD 1 0)∧aj (ws.getD 1 0) ≤ 255 := fun h => az (by have := f1 h; omega) (f1 h).2
 have m2 : 2 < ws.length → 0 ≤ aj (ws.getD 2 0)∧aj (ws.getD 2 0) ≤ 255 := fun h => az (by have := f2 h; omega) (f2 h).2
 have b0 := f0 (by omega); have c0 := a0 (by omega); have d0 := m0 (by omega)
 have b1 := f1 (by omega); have c1 := a1 (by omega); have d1 := m1 (by omega)
 refine ai.vc (V := TT 4 (IX 0 xs.length∧TT 3 (IX 1 ws.length∧TT 1 ((0 ≤ (ws.getD 1 0)∧(IntKind.wrap .i64 ((xs.getD 0 0) * 2 ^ min ((ws.getD 1 0).toNat) 64)) = (((xs.getD 0 0).toNat * 2 ^ (ws.getD 1 0).toNat : Nat) : Int))∧TT 2 (IX 1 xs.length∧TT 1 ((True∧(IntKind.wrap .i64 (BitVec.ofInt (IntKind.i64).bits (((xs.getD 0 0).toNat * 2 ^ (ws.getD 1 0).toNat : Nat) : Int) ||| BitVec.ofInt (IntKind.i64).bits (xs.getD 1 0)).toNat) = (((xs.getD 0 0).toNat * 2 ^ (ws.getD 1 0).toNat ||| (xs.getD 1 0).toNat : Nat) : Int))∧TT 2 ((((xs.getD 0 0).toNat * 2 ^ (ws.getD 1 0).toNat ||| (xs.getD 1 0).toNat : Nat) : Int) = (it 11 ws xs k w)∧True))))))) (.w 1 [(8,.val (i6 (((xs.getD 0 0).toNat * 2 ^ (ws.getD 1 0).toNat : Nat) : Int))),(13,.val (i6 (((xs.getD 0 0).toNat * 2 ^ (ws.getD 1 0).toNat ||| (xs.getD 1 0).toNat : Nat) : Int)))] <| .e) Tryz.func140 rfl rfl rfl (by kernel_rfl) ?_
 refine tt ⟨ix,tt ⟨ix,tt ⟨⟨om,(AZ (by omega) (by omega))⟩,tt ⟨ix,tt ⟨⟨oK,(A1 (by omega) (by omega) (by omega))⟩,tt ⟨?_,oK⟩⟩⟩⟩⟩⟩
 rfl
abbrev Kn (ws xs : List Int) (k w : Int) : Ct := ⟨142,(i8 ws xs k w),false,(i6 (it 12 ws xs k w))⟩
theorem D9 (ws xs : List Int) (k w : Int) (ho : Cl ws xs 1) (hk : 0 ≤ k∧k ≤ 8∧au w = true) : CC (Kn ws xs k w) := by
 obtain ⟨hl,hf,hx,hin⟩ := ho
 have f0 : 0 < ws.length → 1 ≤ ws.getD 0 0∧ws.getD 0 0 ≤ 8 := fun h => aC hf h
 have f1 : 1 < ws.length → 1 ≤ ws.getD 1 0∧ws.getD 1 0 ≤ 8 := fun h => aC hf h
 have f2 : 2 < ws.length → 1 ≤ ws.getD 2 0∧ws.getD 2 0 ≤ 8 := fun h => aC hf h
 have a0 : 0 < ws.length → 0 ≤ xs.getD 0 0∧xs.getD 0 0 ≤ aj (ws.getD 0 0) := fun h => bc hin (by omega)
 have a1 : 1 < ws.length → 0 ≤ xs.getD 1 0∧xs.getD 1 0 ≤ aj (ws.getD 1 0) := fun h => bc hin (by omega)
 have a2 : 2 < ws.length → 0 ≤ xs.getD 2 0∧xs.getD 2 0 ≤ aj (ws.getD 2 0) := fun h => bc hin (by omega)
 have m0 : 0 < ws.length → 0 ≤ aj (ws.getD 0 0)∧aj (ws.getD 0 0) ≤ 255 := fun h => az (by have := f0 h; omega) (f0 h).2
 have m1 : 1 < ws.length → 0 ≤ aj (ws.getD 1 0)∧aj (ws.getD 1 0) ≤ 255 := fun h => az (by have := f1 h; omega) (f1 h).2
 have m2 : 2 < ws.length → 0 ≤ aj (ws.getD 2 0)∧aj (ws.getD 2 0) ≤ 255 := fun h => az (by have := f2 h; omega) (f2 h).2
 have b0 := f0 (by omega); have c0 := a0 (by omega); have d0 := m0 (by omega)
 have hw := aW.1 hk.2.2
 refine ai.vc (V := TT 4 (IX 0 xs.length∧TT 3 ((0 ≤ k∧(Int.fdiv (xs.getD 0 0) (2 ^ min k.toNat 64)) = (xs.getD 0 0 / 2 ^ k.toNat))∧TT 2 (CC (D1 w)∧(True∧(IntKind.wrap .i64 (BitVec.ofInt (IntKind.i64).bits (xs.getD 0 0 / 2 ^ k.toNat) &&& BitVec.ofInt (IntKind.i64).bits (aj w)).toNat) = ((xs.getD 0 0 / 2 ^ k.toNat) % 2 ^ w.toNat))∧TT 2 (((xs.getD 0 0 / 2 ^ k.toNat) % 2 ^ w.toNat) = (it 12 ws xs k w)∧True))))) (.w 1 [(6,.val (i6 (xs.getD 0 0 / 2 ^ k.toNat))),(9,(D1 w).O),(10,.val (i6 ((xs.getD 0 0 / 2 ^ k.toNat) % 2 ^ w.toNat)))] <| .e) Tryz.func142 rfl rfl rfl (by kernel_rfl) ?_
 refine tt ⟨ix,tt ⟨⟨om,(wi hk.1 (by omega))⟩,tt ⟨(pc w),⟨⟨oK,(by rw [cA (by omega) (by omega)]; exact ir (by omega))⟩,tt ⟨?_,oK⟩⟩⟩⟩⟩
 rfl
end Go.Proofs.YtifoecfajmnjjaaGreat
