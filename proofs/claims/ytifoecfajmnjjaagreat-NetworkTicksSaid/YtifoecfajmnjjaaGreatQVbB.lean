/-
  Package bits: the values of operations.
-/
import Derived.Test.YtifoecfajmnjjaaGreatQVbA
namespace Go.Proofs.YtifoecfajmnjjaaGreat
open Go.RowKit
set_option linter.unusedVariables false
set_option linter.unusedSimpArgs false
abbrev iJ (ws xs : List Int) (k w : Int) : List D := [(.agg [(LI ws),(LI xs),(i6 k),(i6 w)])]
set_option maxRecDepth 100000
structure A7 (ws xs : List Int) (n : Nat) : Prop where
  hl : ws.length = n
  hf : ws.all an = true
  hx : xs.length = ws.length
  hin : wK ws xs = true
abbrev yr (ws xs : List Int) (k w : Int) : Ct := ⟨124,(iJ ws xs k w),false,(i6 (ah (ws.getD 0 0)))⟩
theorem sd (ws xs : List Int) (k w : Int) (hl : 0 < ws.length) : CC (yr ws xs k w) := by
 refine ai.vc (V := TT 4 (IX 0 ws.length∧TT 1 (CC (CR (ws.getD 0 0))∧TT 2 ((ah (ws.getD 0 0)) = (ah (ws.getD 0 0))∧True)))) (.w 1 [(4,(CR (ws.getD 0 0)).O)] <| .e) Tryz.func124 rfl rfl rfl (by kernel_rfl) ?_
 exact tt ⟨ix,tt ⟨(oq (ws.getD 0 0)),tt ⟨rfl,oK⟩⟩⟩
abbrev IW (ws xs : List Int) (k w : Int) : Ct := ⟨123,(iJ ws xs k w),false,(i6 (hJ 2 ws xs k w))⟩
theorem F9 (ws xs : List Int) (k w : Int) (ho : A7 ws xs 1) : CC (IW ws xs k w) := by
 obtain ⟨hl,hf,hx,hin⟩ := ho
 have f0 : 0 < ws.length → 1 ≤ ws.getD 0 0∧ws.getD 0 0 ≤ 8 := fun h => aD hf h
 have f1 : 1 < ws.length → 1 ≤ ws.getD 1 0∧ws.getD 1 0 ≤ 8 := fun h => aD hf h
 have f2 : 2 < ws.length → 1 ≤ ws.getD 2 0∧ws.getD 2 0 ≤ 8 := fun h => aD hf h
 have a0 : 0 < ws.length → 0 ≤ xs.getD 0 0∧xs.getD 0 0 ≤ ah (ws.getD 0 0) := fun h => a6 hin (by omega)
 have a1 : 1 < ws.length → 0 ≤ xs.getD 1 0∧xs.getD 1 0 ≤ ah (ws.getD 1 0) := fun h => a6 hin (by omega)
 have a2 : 2 < ws.length → 0 ≤ xs.getD 2 0∧xs.getD 2 0 ≤ ah (ws.getD 2 0) := fun h => a6 hin (by omega)
 have m0 : 0 < ws.length → 0 ≤ ah (ws.getD 0 0)∧ah (ws.getD 0 0) ≤ 255 := fun h => ay (by have := f0 h; omega) (f0 h).2
 have m1 : 1 < ws.length → 0 ≤ ah (ws.getD 1 0)∧ah (ws.getD 1 0) ≤ 255 := fun h => ay (by have := f1 h; omega) (f1 h).2
 have m2 : 2 < ws.length → 0 ≤ ah (ws.getD 2 0)∧ah (ws.getD 2 0) ≤ 255 := fun h => ay (by have := f2 h; omega) (f2 h).2
 have b0 := f0 (by omega); have c0 := a0 (by omega); have d0 := m0 (by omega)
 refine ai.vc (V := TT 4 (IX 0 xs.length∧TT 2 (CC (yr ws xs k w)∧(True∧(IntKind.wrap .i64 (BitVec.ofInt (IntKind.i64).bits (xs.getD 0 0) ^^^ BitVec.ofInt (IntKind.i64).bits (ah (ws.getD 0 0))).toNat) = (((xs.getD 0 0).toNat ^^^ (ah (ws.getD 0 0)).toNat : Nat) : Int))∧TT 2 ((((xs.getD 0 0).toNat ^^^ (ah (ws.getD 0 0)).toNat : Nat) : Int) = (hJ 2 ws xs k w)∧True)))) (.w 1 [(5,(yr ws xs k w).O),(6,.val (i6 (((xs.getD 0 0).toNat ^^^ (ah (ws.getD 0 0)).toNat : Nat) : Int)))] <| .e) Tryz.func123 rfl rfl rfl (by kernel_rfl) ?_
 refine tt ⟨ix,tt ⟨(sd ws xs k w om),⟨⟨oK,(pY (by omega) (by omega) (by omega) (by omega))⟩,tt ⟨?_,oK⟩⟩⟩⟩
 rfl
abbrev IY (ws xs : List Int) (k w : Int) : Ct := ⟨126,(iJ ws xs k w),false,(i6 (hJ 3 ws xs k w))⟩
theorem Ga (ws xs : List Int) (k w : Int) (ho : A7 ws xs 2) : CC (IY ws xs k w) := by
 obtain ⟨hl,hf,hx,hin⟩ := ho
 have f0 : 0 < ws.length → 1 ≤ ws.getD 0 0∧ws.getD 0 0 ≤ 8 := fun h => aD hf h
 have f1 : 1 < ws.length → 1 ≤ ws.getD 1 0∧ws.getD 1 0 ≤ 8 := fun h => aD hf h
 have f2 : 2 < ws.length → 1 ≤ ws.getD 2 0∧ws.getD 2 0 ≤ 8 := fun h => aD hf h
 have a0 : 0 < ws.length → 0 ≤ xs.getD 0 0∧xs.getD 0 0 ≤ ah (ws.getD 0 0) := fun h => a6 hin (by omega)
 have a1 : 1 < ws.length → 0 ≤ xs.getD 1 0∧xs.getD 1 0 ≤ ah (ws.getD 1 0) := fun h => a6 hin (by omega)
 have a2 : 2 < ws.length → 0 ≤ xs.getD 2 0∧xs.getD 2 0 ≤ ah (ws.getD 2 0) := fun h => a6 hin (by omega)
 have m0 : 0 < ws.length → 0 ≤ ah (ws.getD 0 0)∧ah (ws.getD 0 0) ≤ 255 := fun h => ay (by have := f0 h; omega) (f0 h).2
 have m1 : 1 < ws.length → 0 ≤ ah (ws.getD 1 0)∧ah (ws.getD 1 0) ≤ 255 := fun h => ay (by have := f1 h; omega) (f1 h).2
 have m2 : 2 < ws.length → 0 ≤ ah (ws.getD 2 0)∧ah (ws.getD 2 0) ≤ 255 := fun h => ay (by have := f2 h; omega) (f2 h).2
 have b0 := f0 (by omega); have c0 := a0 (by omega); have d0 := m0 (by omega)
 have b1 := f1 (by omega); have c1 := a1 (by omega); have d1 := m1 (by omega)
 refine ai.vc (V := TT 4 (IX 0 xs.length∧TT 3 (IX 1 xs.length∧TT 1 ((True∧(IntKind.wrap .i64 (BitVec.ofInt (IntKind.i64).bits (xs.getD 0 0) &&& BitVec.ofInt (IntKind.i64).bits (xs.getD 1 0)).toNat) = (((xs.getD 0 0).toNat &&& (xs.getD 1 0).toNat : Nat) : Int))∧TT 2 ((((xs.getD 0 0).toNat &&& (xs.getD 1 0).toNat : Nat) : Int) = (hJ 3 ws xs k w)∧True))))) (.w 1 [(8,.val (i6 (((xs.getD 0 0).toNat &&& (xs.getD 1 0).toNat : Nat) : Int)))] <| .e) Tryz.func126 rfl rfl rfl (by kernel_rfl) ?_
 refine tt ⟨ix,tt ⟨ix,tt ⟨⟨oK,(tQ (by omega) (by omega) (by omega) (by omega))⟩,tt ⟨?_,oK⟩⟩⟩⟩
 rfl
abbrev IZ (ws xs : List Int) (k w : Int) : Ct := ⟨127,(iJ ws xs k w),false,(i6 (hJ 4 ws xs k w))⟩
theorem Hy (ws xs : List Int) (k w : Int) (ho : A7 ws xs 2) : CC (IZ ws xs k w) := by
 obtain ⟨hl,hf,hx,hin⟩ := ho
 have f0 : 0 < ws.length → 1 ≤ ws.getD 0 0∧ws.getD 0 0 ≤ 8 := fun h => aD hf h
 have f1 : 1 < ws.length → 1 ≤ ws.getD 1 0∧ws.getD 1 0 ≤ 8 := fun h => aD hf h
 have f2 : 2 < ws.length → 1 ≤ ws.getD 2 0∧ws.getD 2 0 ≤ 8 := fun h => aD hf h
 have a0 : 0 < ws.length → 0 ≤ xs.getD 0 0∧xs.getD 0 0 ≤ ah (ws.getD 0 0) := fun h => a6 hin (by omega)
 have a1 : 1 < ws.length → 0 ≤ xs.getD 1 0∧xs.getD 1 0 ≤ ah (ws.getD 1 0) := fun h => a6 hin (by omega)
 have a2 : 2 < ws.length → 0 ≤ xs.getD 2 0∧xs.getD 2 0 ≤ ah (ws.getD 2 0) := fun h => a6 hin (by omega)
 have m0 : 0 < ws.length → 0 ≤ ah (ws.getD 0 0)∧ah (ws.getD 0 0) ≤ 255 := fun h => ay (by have := f0 h; omega) (f0 h).2
 have m1 : 1 < ws.length → 0 ≤ ah (ws.getD 1 0)∧ah (ws.getD 1 0) ≤ 255 := fun h => ay (by have := f1 h; omega) (f1 h).2
 have m2 : 2 < ws.length → 0 ≤ ah (ws.getD 2 0)∧ah (ws.getD 2 0) ≤ 255 := fun h => ay (by have := f2 h; omega) (f2 h).2
 have b0 := f0 (by omega); have c0 := a0 (by omega); have d0 := m0 (by omega)
 have b1 := f1 (by omega); have c1 := a1 (by omega); have d1 := m1 (by omega)
 refine ai.vc (V := TT 4 (IX 0 xs.length∧TT 3 (IX 1 xs.length∧TT 1 ((True∧(IntKind.wrap .i64 (BitVec.ofInt (IntKind.i64).bits (xs.getD 0 0) ||| BitVec.ofInt (IntKind.i64).bits (xs.getD 1 0)).toNat) = (((xs.getD 0 0).toNat ||| (xs.getD 1 0).toNat : Nat) : Int))∧TT 2 ((((xs.getD 0 0).toNat ||| (xs.getD 1 0).toNat : Nat) : Int) = (hJ 4 ws xs k w)∧True))))) (.w 1 [(8,.val (i6 (((xs.getD 0 0).toNat ||| (xs.getD 1 0).toNat : Nat) : Int)))] <| .e) Tryz.func127 rfl rfl rfl (by kernel_rfl) ?_
 refine tt ⟨ix,tt ⟨ix,tt ⟨⟨oK,(wL (by omega) (by omega) (by omega) (by omega))⟩,tt ⟨?_,oK⟩⟩⟩⟩
 rfl
abbrev I0 (ws xs : List Int) (k w : Int) : Ct := ⟨128,(iJ ws xs k w),false,(i6 (hJ 5 ws xs k w))⟩
theorem Gb (ws xs : List Int) (k w : Int) (ho : A7 ws xs 2) : CC (I0 ws xs k w) := by
 obtain ⟨hl,hf,hx,hin⟩ := ho
 have f0 : 0 < ws.length → 1 ≤ ws.getD 0 0∧ws.getD 0 0 ≤ 8 := fun h => aD hf h
 have f1 : 1 < ws.length → 1 ≤ ws.getD 1 0∧ws.getD 1 0 ≤ 8 := fun h => aD hf h
 have f2 : 2 < ws.length → 1 ≤ ws.getD 2 0∧ws.getD 2 0 ≤ 8 := fun h => aD hf h
 have a0 : 0 < ws.length → 0 ≤ xs.getD 0 0∧xs.getD 0 0 ≤ ah (ws.getD 0 0) := fun h => a6 hin (by omega)
 have a1 : 1 < ws.length → 0 ≤ xs.getD 1 0∧xs.getD 1 0 ≤ ah (ws.getD 1 0) := fun h => a6 hin (by omega)
 have a2 : 2 < ws.length → 0 ≤ xs.getD 2 0∧xs.getD 2 0 ≤ ah (ws.getD 2 0) := fun h => a6 hin (by omega)
 have m0 : 0 < ws.length → 0 ≤ ah (ws.getD 0 0)∧ah (ws.getD 0 0) ≤ 255 := fun h => ay (by have := f0 h; omega) (f0 h).2
 have m1 : 1 < ws.length → 0 ≤ ah (ws.getD 1 0)∧ah (ws.getD 1 0) ≤ 255 := fun h => ay (by have := f1 h; omega) (f1 h).2
 have m2 : 2 < ws.length → 0 ≤ ah (ws.getD 2 0)∧ah (ws.getD 2 0) ≤ 255 := fun h => ay (by have := f2 h; omega) (f2 h).2
 have b0 := f0 (by omega); have c0 := a0 (by omega); have d0 := m0 (by omega)
 have b1 := f1 (by omega); have c1 := a1 (by omega); have d1 := m1 (by omega)
 refine ai.vc (V := TT 4 (IX 0 xs.length∧TT 3 (IX 1 xs.length∧TT 1 ((True∧(IntKind.wrap .i64 (BitVec.ofInt (IntKind.i64).bits (xs.getD 0 0) ^^^ BitVec.ofInt (IntKind.i64).bits (xs.getD 1 0)).toNat) = (((xs.getD 0 0).toNat ^^^ (xs.getD 1 0).toNat : Nat) : Int))∧TT 2 ((((xs.getD 0 0).toNat ^^^ (xs.getD 1 0).toNat : Nat) : Int) = (hJ 5 ws xs k w)∧True))))) (.w 1 [(8,.val (i6 (((xs.getD 0 0).toNat ^^^ (xs.getD 1 0).toNat : Nat) : Int)))] <| .e) Tryz.func128 rfl rfl rfl (by kernel_rfl) ?_
 refine tt ⟨ix,tt ⟨ix,tt ⟨⟨oK,(pY (by omega) (by omega) (by omega) (by omega))⟩,tt ⟨?_,oK⟩⟩⟩⟩
 rfl
abbrev I1 (ws xs : List Int) (k w : Int) : Ct := ⟨129,(iJ ws xs k w),false,(i6 (hJ 6 ws xs k w))⟩
theorem Gc (ws xs : List Int) (k w : Int) (ho : A7 ws xs 2) : CC (I1 ws xs k w) := by
 obtain ⟨hl,hf,hx,hin⟩ := ho
 have f0 : 0 < ws.length → 1 ≤ ws.getD 0 0∧ws.getD 0 0 ≤ 8 := fun h => aD hf h
 have f1 : 1 < ws.length → 1 ≤ ws.getD 1 0∧ws.getD 1 0 ≤ 8 := fun h => aD hf h
 have f2 : 2 < ws.length → 1 ≤ ws.getD 2 0∧ws.getD 2 0 ≤ 8 := fun h => aD hf h
 have a0 : 0 < ws.length → 0 ≤ xs.getD 0 0∧xs.getD 0 0 ≤ ah (ws.getD 0 0) := fun h => a6 hin (by omega)
 have a1 : 1 < ws.length → 0 ≤ xs.getD 1 0∧xs.getD 1 0 ≤ ah (ws.getD 1 0) := fun h => a6 hin (by omega)
 have a2 : 2 < ws.length → 0 ≤ xs.getD 2 0∧xs.getD 2 0 ≤ ah (ws.getD 2 0) := fun h => a6 hin (by omega)
 have m0 : 0 < ws.length → 0 ≤ ah (ws.getD 0 0)∧ah (ws.getD 0 0) ≤ 255 := fun h => ay (by have := f0 h; omega) (f0 h).2
 have m1 : 1 < ws.length → 0 ≤ ah (ws.getD 1 0)∧ah (ws.getD 1 0) ≤ 255 := fun h => ay (by have := f1 h; omega) (f1 h).2
 have m2 : 2 < ws.length → 0 ≤ ah (ws.getD 2 0)∧ah (ws.getD 2 0) ≤ 255 := fun h => ay (by have := f2 h; omega) (f2 h).2
 have b0 := f0 (by omega); have c0 := a0 (by omega); have d0 := m0 (by omega)
 have b1 := f1 (by omega); have c1 := a1 (by omega); have d1 := m1 (by omega)
 refine ai.vc (V := TT 4 (IX 0 xs.length∧TT 3 (IX 1 xs.length∧TT 1 (W6 ((xs.getD 0 0) + (xs.getD 1 0))∧TT 1 (CC (yr ws xs k w)∧(True∧(IntKind.wrap .i64 (BitVec.ofInt (IntKind.i64).bits ((xs.getD 0 0) + (xs.getD 1 0)) &&& BitVec.ofInt (IntKind.i64).bits (ah (ws.getD 0 0))).toNat) = ((xs.getD 0 0 + xs.getD 1 0) % 2 ^ (ws.getD 0 0).toNat))∧TT 2 (((xs.getD 0 0 + xs.getD 1 0) % 2 ^ (ws.getD 0 0).toNat) = (hJ 6 ws xs k w)∧True)))))) (.w 1 [(8,.val (i6 ((xs.getD 0 0) + (xs.getD 1 0)))),(10,(yr ws xs k w).O),(11,.val (i6 ((xs.getD 0 0 + xs.getD 1 0) % 2 ^ (ws.getD 0 0).toNat)))] <| .e) Tryz.func129 rfl rfl rfl (by kernel_rfl) ?_
 refine tt ⟨ix,tt ⟨ix,tt ⟨w6,tt ⟨(sd ws xs k w om),⟨⟨oK,(by rw [cu (by omega) (by omega)]; exact jd (by omega))⟩,tt ⟨?_,oK⟩⟩⟩⟩⟩⟩
 rfl
abbrev I2 (ws xs : List Int) (k w : Int) : Ct := ⟨130,(iJ ws xs k w),false,(i6 (hJ 7 ws xs k w))⟩
theorem Gd (ws xs : List Int) (k w : Int) (ho : A7 ws xs 2) : CC (I2 ws xs k w) := by
 obtain ⟨hl,hf,hx,hin⟩ := ho
 have f0 : 0 < ws.length → 1 ≤ ws.getD 0 0∧ws.getD 0 0 ≤ 8 := fun h => aD hf h
 have f1 : 1 < ws.length → 1 ≤ ws.getD 1 0∧ws.getD 1 0 ≤ 8 := fun h => aD hf h
 have f2 : 2 < ws.length → 1 ≤ ws.getD 2 0∧ws.getD 2 0 ≤ 8 := fun h => aD hf h
 have a0 : 0 < ws.length → 0 ≤ xs.getD 0 0∧xs.getD 0 0 ≤ ah (ws.getD 0 0) := fun h => a6 hin (by omega)
 have a1 : 1 < ws.length → 0 ≤ xs.getD 1 0∧xs.getD 1 0 ≤ ah (ws.getD 1 0) := fun h => a6 hin (by omega)
 have a2 : 2 < ws.length → 0 ≤ xs.getD 2 0∧xs.getD 2 0 ≤ ah (ws.getD 2 0) := fun h => a6 hin (by omega)
 have m0 : 0 < ws.length → 0 ≤ ah (ws.getD 0 0)∧ah (ws.getD 0 0) ≤ 255 := fun h => ay (by have := f0 h; omega) (f0 h).2
 have m1 : 1 < ws.length → 0 ≤ ah (ws.getD 1 0)∧ah (ws.getD 1 0) ≤ 255 := fun h => ay (by have := f1 h; omega) (f1 h).2
 have m2 : 2 < ws.length → 0 ≤ ah (ws.getD 2 0)∧ah (ws.getD 2 0) ≤ 255 := fun h => ay (by have := f2 h; omega) (f2 h).2
 have b0 := f0 (by omega); have c0 := a0 (by omega); have d0 := m0 (by omega)
 have b1 := f1 (by omega); have c1 := a1 (by omega); have d1 := m1 (by omega)
 refine ai.vc (V := TT 4 (IX 0 xs.length∧TT 3 (IX 1 xs.length∧TT 1 (W6 ((xs.getD 0 0) - (xs.getD 1 0))∧TT 1 (CC (yr ws xs k w)∧(True∧(IntKind.wrap .i64 (BitVec.ofInt (IntKind.i64).bits ((xs.getD 0 0) - (xs.getD 1 0)) &&& BitVec.ofInt (IntKind.i64).bits (ah (ws.getD 0 0))).toNat) = ((xs.getD 0 0 - xs.getD 1 0) % 2 ^ (ws.getD 0 0).toNat))∧TT 2 (((xs.getD 0 0 - xs.getD 1 0) % 2 ^ (ws.getD 0 0).toNat) = (hJ 7 ws xs k w)∧True)))))) (.w 1 [(8,.val (i6 ((xs.getD 0 0) - (xs.getD 1 0)))),(10,(yr ws xs k w).O),(11,.val (i6 ((xs.getD 0 0 - xs.getD 1 0) % 2 ^ (ws.getD 0 0).toNat)))] <| .e) Tryz.func130 rfl rfl rfl (by kernel_rfl) ?_
 refine tt ⟨ix,tt ⟨ix,tt ⟨w6,tt ⟨(sd ws xs k w om),⟨⟨oK,(by rw [cu (by omega) (by omega)]; exact jd (by omega))⟩,tt ⟨?_,oK⟩⟩⟩⟩⟩⟩
 rfl
abbrev I3 (ws xs : List Int) (k w : Int) : Ct := ⟨132,(iJ ws xs k w),false,(i6 (hJ 8 ws xs k w))⟩
theorem Hz (ws xs : List Int) (k w : Int) (ho : A7 ws xs 2) : CC (I3 ws xs k w) := by
 obtain ⟨hl,hf,hx,hin⟩ := ho
 have f0 : 0 < ws.length → 1 ≤ ws.getD 0 0∧ws.getD 0 0 ≤ 8 := fun h => aD hf h
 have f1 : 1 < ws.length → 1 ≤ ws.getD 1 0∧ws.getD 1 0 ≤ 8 := fun h => aD hf h
 have f2 : 2 < ws.length → 1 ≤ ws.getD 2 0∧ws.getD 2 0 ≤ 8 := fun h => aD hf h
 have a0 : 0 < ws.length → 0 ≤ xs.getD 0 0∧xs.getD 0 0 ≤ ah (ws.getD 0 0) := fun h => a6 hin (by omega)
 have a1 : 1 < ws.length → 0 ≤ xs.getD 1 0∧xs.getD 1 0 ≤ ah (ws.getD 1 0) := fun h => a6 hin (by omega)
 have a2 : 2 < ws.length → 0 ≤ xs.getD 2 0∧xs.getD 2 0 ≤ ah (ws.getD 2 0) := fun h => a6 hin (by omega)
 have m0 : 0 < ws.length → 0 ≤ ah (ws.getD 0 0)∧ah (ws.getD 0 0) ≤ 255 := fun h => ay (by have := f0 h; omega) (f0 h).2
 have m1 : 1 < ws.length → 0 ≤ ah (ws.getD 1 0)∧ah (ws.getD 1 0) ≤ 255 := fun h => ay (by have := f1 h; omega) (f1 h).2
 have m2 : 2 < ws.length → 0 ≤ ah (ws.getD 2 0)∧ah (ws.getD 2 0) ≤ 255 := fun h => ay (by have := f2 h; omega) (f2 h).2
 have b0 := f0 (by omega); have c0 := a0 (by omega); have d0 := m0 (by omega)
 have b1 := f1 (by omega); have c1 := a1 (by omega); have d1 := m1 (by omega)
 refine ai.vc (V := TT 4 (IX 0 xs.length∧TT 3 (IX 1 xs.length∧TT 2 (CC (CT ((xs.getD 0 0) == (xs.getD 1 0)))∧TT 2 ((if ((xs.getD 0 0) == (xs.getD 1 0)) = true then 1 else 0) = (hJ 8 ws xs k w)∧True))))) (.w 1 [(9,(CT ((xs.getD 0 0) == (xs.getD 1 0))).O)] <| .e) Tryz.func132 rfl rfl rfl (by kernel_rfl) ?_
 refine tt ⟨ix,tt ⟨ix,tt ⟨(CU ((xs.getD 0 0) == (xs.getD 1 0))),tt ⟨?_,oK⟩⟩⟩⟩
 show _ = (if xs.getD 0 0 = xs.getD 1 0 then (1 : Int) else 0)
 by_cases h : xs.getD 0 0 = xs.getD 1 0
 · rw [if_pos h,if_pos (by simpa using h)]
 · rw [if_neg h,if_neg (by simpa using h)]
abbrev I4 (ws xs : List Int) (k w : Int) : Ct := ⟨134,(iJ ws xs k w),false,(i6 (hJ 9 ws xs k w))⟩
theorem HA (ws xs : List Int) (k w : Int) (ho : A7 ws xs 2) : CC (I4 ws xs k w) := by
 obtain ⟨hl,hf,hx,hin⟩ := ho
 have f0 : 0 < ws.length → 1 ≤ ws.getD 0 0∧ws.getD 0 0 ≤ 8 := fun h => aD hf h
 have f1 : 1 < ws.length → 1 ≤ ws.getD 1 0∧ws.getD 1 0 ≤ 8 := fun h => aD hf h
 have f2 : 2 < ws.length → 1 ≤ ws.getD 2 0∧ws.getD 2 0 ≤ 8 := fun h => aD hf h
 have a0 : 0 < ws.length → 0 ≤ xs.getD 0 0∧xs.getD 0 0 ≤ ah (ws.getD 0 0) := fun h => a6 hin (by omega)
 have a1 : 1 < ws.length → 0 ≤ xs.getD 1 0∧xs.getD 1 0 ≤ ah (ws.getD 1 0) := fun h => a6 hin (by omega)
 have a2 : 2 < ws.length → 0 ≤ xs.getD 2 0∧xs.getD 2 0 ≤ ah (ws.getD 2 0) := fun h => a6 hin (by omega)
 have m0 : 0 < ws.length → 0 ≤ ah (ws.getD 0 0)∧ah (ws.getD 0 0) ≤ 255 := fun h => ay (by have := f0 h; omega) (f0 h).2
 have m1 : 1 < ws.length → 0 ≤ ah (ws.getD 1 0)∧ah (ws.getD 1 0) ≤ 255 := fun h => ay (by have := f1 h; omega) (f1 h).2
 have m2 : 2 < ws.length → 0 ≤ ah (ws.getD 2 0)∧ah (ws.getD 2 0) ≤ 255 := fun h => ay (by have := f2 h; omega) (f2 h).2
 have b0 := f0 (by omega); have c0 := a0 (by omega); have d0 := m0 (by omega)
 have b1 := f1 (by omega); have c1 := a1 (by omega); have d1 := m1 (by omega)
 refine ai.vc (V := TT 4 (IX 0 xs.length∧TT 3 (IX 1 xs.length∧TT 2 (CC (CT (decide ((xs.getD 0 0) < (xs.getD 1 0))))∧TT 2 ((if (decide ((xs.getD 0 0) < (xs.getD 1 0))) = true then 1 else 0) = (hJ 9 ws xs k w)∧True))))) (.w 1 [(9,(CT (decide ((xs.getD 0 0) < (xs.getD 1 0)))).O)] <| .e) Tryz.func134 rfl rfl rfl (by kernel_rfl) ?_
 refine tt ⟨ix,tt ⟨ix,tt ⟨(CU (decide ((xs.getD 0 0) < (xs.getD 1 0)))),tt ⟨?_,oK⟩⟩⟩⟩
 show _ = (if xs.getD 0 0 < xs.getD 1 0 then (1 : Int) else 0)
 by_cases h : xs.getD 0 0 < xs.getD 1 0
 · rw [if_pos h,if_pos (by simpa using h)]
 · rw [if_neg h,if_neg (by simpa using h)]
abbrev I5 (ws xs : List Int) (k w : Int) : Ct := ⟨136,(iJ ws xs k w),false,(i6 (hJ 1 ws xs k w))⟩
theorem CZ (ws xs : List Int) (k w : Int) (ho : A7 ws xs 0) : CC (I5 ws xs k w) := by
 obtain ⟨hl,hf,hx,hin⟩ := ho
 have f0 : 0 < ws.length → 1 ≤ ws.getD 0 0∧ws.getD 0 0 ≤ 8 := fun h => aD hf h
 have f1 : 1 < ws.length → 1 ≤ ws.getD 1 0∧ws.getD 1 0 ≤ 8 := fun h => aD hf h
 have f2 : 2 < ws.length → 1 ≤ ws.getD 2 0∧ws.getD 2 0 ≤ 8 := fun h => aD hf h
 have a0 : 0 < ws.length → 0 ≤ xs.getD 0 0∧xs.getD 0 0 ≤ ah (ws.getD 0 0) := fun h => a6 hin (by omega)
 have a1 : 1 < ws.length → 0 ≤ xs.getD 1 0∧xs.getD 1 0 ≤ ah (ws.getD 1 0) := fun h => a6 hin (by omega)
 have a2 : 2 < ws.length → 0 ≤ xs.getD 2 0∧xs.getD 2 0 ≤ ah (ws.getD 2 0) := fun h => a6 hin (by omega)
 have m0 : 0 < ws.length → 0 ≤ ah (ws.getD 0 0)∧ah (ws.getD 0 0) ≤ 255 := fun h => ay (by have := f0 h; omega) (f0 h).2
 have m1 : 1 < ws.length → 0 ≤ ah (ws.getD 1 0)∧ah (ws.getD 1 0) ≤ 255 := fun h => ay (by have := f1 h; omega) (f1 h).2
 have m2 : 2 < ws.length → 0 ≤ ah (ws.getD 2 0)∧ah (ws.getD 2 0) ≤ 255 := fun h => ay (by have := f2 h; omega) (f2 h).2
 refine ai.vc (V := TT 6 (k = (hJ 1 ws xs k w)∧True)) (.e) Tryz.func136 rfl rfl rfl (by kernel_rfl) ?_
 refine tt ⟨?_,oK⟩
 rfl
abbrev I6 (ws xs : List Int) (k w : Int) : Ct := ⟨144,(iJ ws xs k w),false,(i6 (hJ 13 ws xs k w))⟩
theorem Ge (ws xs : List Int) (k w : Int) (ho : A7 ws xs 1) : CC (I6 ws xs k w) := by
 obtain ⟨hl,hf,hx,hin⟩ := ho
 have f0 : 0 < ws.length → 1 ≤ ws.getD 0 0∧ws.getD 0 0 ≤ 8 := fun h => aD hf h
 have f1 : 1 < ws.length → 1 ≤ ws.getD 1 0∧ws.getD 1 0 ≤ 8 := fun h => aD hf h
 have f2 : 2 < ws.length → 1 ≤ ws.getD 2 0∧ws.getD 2 0 ≤ 8 := fun h => aD hf h
 have a0 : 0 < ws.length → 0 ≤ xs.getD 0 0∧xs.getD 0 0 ≤ ah (ws.getD 0 0) := fun h => a6 hin (by omega)
 have a1 : 1 < ws.length → 0 ≤ xs.getD 1 0∧xs.getD 1 0 ≤ ah (ws.getD 1 0) := fun h => a6 hin (by omega)
 have a2 : 2 < ws.length → 0 ≤ xs.getD 2 0∧xs.getD 2 0 ≤ ah (ws.getD 2 0) := fun h => a6 hin (by omega)
 have m0 : 0 < ws.length → 0 ≤ ah (ws.getD 0 0)∧ah (ws.getD 0 0) ≤ 255 := fun h => ay (by have := f0 h; omega) (f0 h).2
 have m1 : 1 < ws.length → 0 ≤ ah (ws.getD 1 0)∧ah (ws.getD 1 0) ≤ 255 := fun h => ay (by have := f1 h; omega) (f1 h).2
 have m2 : 2 < ws.length → 0 ≤ ah (ws.getD 2 0)∧ah (ws.getD 2 0) ≤ 255 := fun h => ay (by have := f2 h; omega) (f2 h).2
 have b0 := f0 (by omega); have c0 := a0 (by omega); have d0 := m0 (by omega)
 refine ai.vc (V := TT 4 (IX 0 xs.length∧TT 3 ((xs.getD 0 0) = (hJ 13 ws xs k w)∧True))) (.e) Tryz.func144 rfl rfl rfl (by kernel_rfl) ?_
 refine tt ⟨ix,tt ⟨?_,oK⟩⟩
 rfl
abbrev I7 (ws xs : List Int) (k w : Int) : Ct := ⟨138,(iJ ws xs k w),false,(i6 (hJ 10 ws xs k w))⟩
theorem Gf (ws xs : List Int) (k w : Int) (ho : A7 ws xs 3) (h1 : ws.getD 0 0 = 1) : CC (I7 ws xs k w) := by
 obtain ⟨hl,hf,hx,hin⟩ := ho
 have f0 : 0 < ws.length → 1 ≤ ws.getD 0 0∧ws.getD 0 0 ≤ 8 := fun h => aD hf h
 have f1 : 1 < ws.length → 1 ≤ ws.getD 1 0∧ws.getD 1 0 ≤ 8 := fun h => aD hf h
 have f2 : 2 < ws.length → 1 ≤ ws.getD 2 0∧ws.getD 2 0 ≤ 8 := fun h => aD hf h
 have a0 : 0 < ws.length → 0 ≤ xs.getD 0 0∧xs.getD 0 0 ≤ ah (ws.getD 0 0) := fun h => a6 hin (by omega)
 have a1 : 1 < ws.length → 0 ≤ xs.getD 1 0∧xs.getD 1 0 ≤ ah (ws.getD 1 0) := fun h => a6 hin (by omega)
 have a2 : 2 < ws.length → 0 ≤ xs.getD 2 0∧xs.getD 2 0 ≤ ah (ws.getD 2 0) := fun h => a6 hin (by omega)
 have m0 : 0 < ws.length → 0 ≤ ah (ws.getD 0 0)∧ah (ws.getD 0 0) ≤ 255 := fun h => ay (by have := f0 h; omega) (f0 h).2
 have m1 : 1 < ws.length → 0 ≤ ah (ws.getD 1 0)∧ah (ws.getD 1 0) ≤ 255 := fun h => ay (by have := f1 h; omega) (f1 h).2
 have m2 : 2 < ws.length → 0 ≤ ah (ws.getD 2 0)∧ah (ws.getD 2 0) ≤ 255 := fun h => ay (by have := f2 h; omega) (f2 h).2
 have b0 := f0 (by omega); have c0 := a0 (by omega); have d0 := m0 (by omega)
 have b1 := f1 (by omega); have c1 := a1 (by omega); have d1 := m1 (by omega)
 have b2 := f2 (by omega); have c2 := a2 (by omega); have d2 := m2 (by omega)
 have hm1 : ah (ws.getD 0 0) = 1 := by rw [h1]; decide
 have hx0 : xs.getD 0 0 = 0 ∨ xs.getD 0 0 = 1 := by omega
 refine ai.vc (V := TT 6 (IX 0 xs.length∧TT 1 (W6 (2 - (xs.getD 0 0))∧IX (2 - (xs.getD 0 0)) xs.length∧TT 3 ((xs.getD ((2 - (xs.getD 0 0)).toNat) 0) = (hJ 10 ws xs k w)∧True)))) (.w 1 [(6,.val (i6 (2 - (xs.getD 0 0))))] <| .e) Tryz.func138 rfl rfl rfl (by kernel_rfl) ?_
 refine tt ⟨ix,tt ⟨w6,⟨ix,tt ⟨?_,oK⟩⟩⟩⟩
 rfl
abbrev I8 (ws xs : List Int) (k w : Int) : Ct := ⟨140,(iJ ws xs k w),false,(i6 (hJ 11 ws xs k w))⟩
theorem Gg (ws xs : List Int) (k w : Int) (ho : A7 ws xs 2) : CC (I8 ws xs k w) := by
 obtain ⟨hl,hf,hx,hin⟩ := ho
 have f0 : 0 < ws.length → 1 ≤ ws.getD 0 0∧ws.getD 0 0 ≤ 8 := fun h => aD hf h
 have f1 : 1 < ws.length → 1 ≤ ws.getD 1 0∧ws.getD 1 0 ≤ 8 := fun h => aD hf h
 have f2 : 2 < ws.length → 1 ≤ ws.getD 2 0∧ws.getD 2 0 ≤ 8 := fun h => aD hf h
 have a0 : 0 < ws.length → 0 ≤ xs.getD 0 0∧xs.getD 0 0 ≤ ah (ws.getD 0 0) := fun h => a6 hin (by omega)
 have a1 : 1 < ws.length → 0 ≤ xs.getD 1 0∧xs.getD 1 0 ≤ ah (ws.getD 1 0) := fun h => a6 hin (by omega)
 have a2 : 2 < ws.length → 0 ≤ xs.getD 2 0∧xs.getD 2 0 ≤ ah (ws.getD 2 0) := fun h => a6 hin (by omega)
 have m0 : 0 < ws.length → 0 ≤ ah (ws.getD 0 0)∧ah (ws.getD 0 0) ≤ 255 := fun h => ay (by have := f0 h; omega) (f0 h).2
 have m1 : 1 < ws.length → 0 ≤ ah (ws.getD 1 0)∧ah (ws.getD 1 0) ≤ 255 := fun h => ay (by have := f1 h; omega) (f1 h).2
 have m2 : 2 < ws.length → 0 ≤ ah (ws.getD 2 0)∧ah (ws.getD 2 0) ≤ 255 := fun h => ay (by have := f2 h; omega) (f2 h).2
 have b0 := f0 (by omega); have c0 := a0 (by omega); have d0 := m0 (by omega)
 have b1 := f1 (by omega); have c1 := a1 (by omega); have d1 := m1 (by omega)
 refine ai.vc (V := TT 4 (IX 0 xs.length∧TT 3 (IX 1 ws.length∧TT 1 ((0 ≤ (ws.getD 1 0)∧(IntKind.wrap .i64 ((xs.getD 0 0) * 2 ^ min ((ws.getD 1 0).toNat) 64)) = (((xs.getD 0 0).toNat * 2 ^ (ws.getD 1 0).toNat : Nat) : Int))∧TT 2 (IX 1 xs.length∧TT 1 ((True∧(IntKind.wrap .i64 (BitVec.ofInt (IntKind.i64).bits (((xs.getD 0 0).toNat * 2 ^ (ws.getD 1 0).toNat : Nat) : Int) ||| BitVec.ofInt (IntKind.i64).bits (xs.getD 1 0)).toNat) = (((xs.getD 0 0).toNat * 2 ^ (ws.getD 1 0).toNat ||| (xs.getD 1 0).toNat : Nat) : Int))∧TT 2 ((((xs.getD 0 0).toNat * 2 ^ (ws.getD 1 0).toNat ||| (xs.getD 1 0).toNat : Nat) : Int) = (hJ 11 ws xs k w)∧True))))))) (.w 1 [(8,.val (i6 (((xs.getD 0 0).toNat * 2 ^ (ws.getD 1 0).toNat : Nat) : Int))),(13,.val (i6 (((xs.getD 0 0).toNat * 2 ^ (ws.getD 1 0).toNat ||| (xs.getD 1 0).toNat : Nat) : Int)))] <| .e) Tryz.func140 rfl rfl rfl (by kernel_rfl) ?_
 refine tt ⟨ix,tt ⟨ix,tt ⟨⟨om,(zH (by omega) (by omega))⟩,tt ⟨ix,tt ⟨⟨oK,(zI (by omega) (by omega) (by omega))⟩,tt ⟨?_,oK⟩⟩⟩⟩⟩⟩
 rfl
abbrev I9 (ws xs : List Int) (k w : Int) : Ct := ⟨142,(iJ ws xs k w),false,(i6 (hJ 12 ws xs k w))⟩
theorem C0 (ws xs : List Int) (k w : Int) (ho : A7 ws xs 1) (hk : 0 ≤ k∧k ≤ 8∧an w = true) : CC (I9 ws xs k w) := by
 obtain ⟨hl,hf,hx,hin⟩ := ho
 have f0 : 0 < ws.length → 1 ≤ ws.getD 0 0∧ws.getD 0 0 ≤ 8 := fun h => aD hf h
 have f1 : 1 < ws.length → 1 ≤ ws.getD 1 0∧ws.getD 1 0 ≤ 8 := fun h => aD hf h
 have f2 : 2 < ws.length → 1 ≤ ws.getD 2 0∧ws.getD 2 0 ≤ 8 := fun h => aD hf h
 have a0 : 0 < ws.length → 0 ≤ xs.getD 0 0∧xs.getD 0 0 ≤ ah (ws.getD 0 0) := fun h => a6 hin (by omega)
 have a1 : 1 < ws.length → 0 ≤ xs.getD 1 0∧xs.getD 1 0 ≤ ah (ws.getD 1 0) := fun h => a6 hin (by omega)
 have a2 : 2 < ws.length → 0 ≤ xs.getD 2 0∧xs.getD 2 0 ≤ ah (ws.getD 2 0) := fun h => a6 hin (by omega)
 have m0 : 0 < ws.length → 0 ≤ ah (ws.getD 0 0)∧ah (ws.getD 0 0) ≤ 255 := fun h => ay (by have := f0 h; omega) (f0 h).2
 have m1 : 1 < ws.length → 0 ≤ ah (ws.getD 1 0)∧ah (ws.getD 1 0) ≤ 255 := fun h => ay (by have := f1 h; omega) (f1 h).2
 have m2 : 2 < ws.length → 0 ≤ ah (ws.getD 2 0)∧ah (ws.getD 2 0) ≤ 255 := fun h => ay (by have := f2 h; omega) (f2 h).2
 have b0 := f0 (by omega); have c0 := a0 (by omega); have d0 := m0 (by omega)
 have hw := aU.1 hk.2.2
 refine ai.vc (V := TT 4 (IX 0 xs.length∧TT 3 ((0 ≤ k∧(Int.fdiv (xs.getD 0 0) (2 ^ min k.toNat 64)) = (xs.getD 0 0 / 2 ^ k.toNat))∧TT 2 (CC (CR w)∧(True∧(IntKind.wrap .i64 (BitVec.ofInt (IntKind.i64).bits (xs.getD 0 0 / 2 ^ k.toNat) &&& BitVec.ofInt (IntKind.i64).bits (ah w)).toNat) = ((xs.getD 0 0 / 2 ^ k.toNat) % 2 ^ w.toNat))∧TT 2 (((xs.getD 0 0 / 2 ^ k.toNat) % 2 ^ w.toNat) = (hJ 12 ws xs k w)∧True))))) (.w 1 [(6,.val (i6 (xs.getD 0 0 / 2 ^ k.toNat))),(9,(CR w).O),(10,.val (i6 ((xs.getD 0 0 / 2 ^ k.toNat) % 2 ^ w.toNat)))] <| .e) Tryz.func142 rfl rfl rfl (by kernel_rfl) ?_
 refine tt ⟨ix,tt ⟨⟨om,(u3 hk.1 (by omega))⟩,tt ⟨(oq w),⟨⟨oK,(by rw [cu (by omega) (by omega)]; exact jd (by omega))⟩,tt ⟨?_,oK⟩⟩⟩⟩⟩
 rfl
end Go.Proofs.YtifoecfajmnjjaaGreat
