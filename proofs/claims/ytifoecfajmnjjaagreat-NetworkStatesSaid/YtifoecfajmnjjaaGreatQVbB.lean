/-
  Package bits: the values of operations.
-/
import Derived.Test.YtifoecfajmnjjaaGreatQVbA
namespace Go.Proofs.YtifoecfajmnjjaaGreat
open Go.RowKit
set_option linter.unusedVariables false
set_option linter.unusedSimpArgs false
abbrev i1 (ws xs : List Int) (k w : Int) : List D := [(.agg [(LI ws),(LI xs),(i6 k),(i6 w)])]
set_option maxRecDepth 100000
structure Be (ws xs : List Int) (n : Nat) : Prop where
  hl : ws.length = n
  hf : ws.all ax = true
  hx : xs.length = ws.length
  hin : wT ws xs = true
abbrev yz (ws xs : List Int) (k w : Int) : Ct := ⟨124,(i1 ws xs k w),false,(i6 (aj (ws.getD 0 0)))⟩
theorem sx (ws xs : List Int) (k w : Int) (hl : 0 < ws.length) : CC (yz ws xs k w) := by
 refine ak.vc (V := TT 4 (IX 0 ws.length∧TT 1 (CC (CR (ws.getD 0 0))∧TT 2 ((aj (ws.getD 0 0)) = (aj (ws.getD 0 0))∧True)))) (.w 1 [(4,(CR (ws.getD 0 0)).O)] <| .e) Tryz.func124 rfl rfl rfl (by kernel_rfl) ?_
 exact tt ⟨ix,tt ⟨(oU (ws.getD 0 0)),tt ⟨rfl,oK⟩⟩⟩
abbrev IH (ws xs : List Int) (k w : Int) : Ct := ⟨123,(i1 ws xs k w),false,(i6 (ip 2 ws xs k w))⟩
theorem Ga (ws xs : List Int) (k w : Int) (ho : Be ws xs 1) : CC (IH ws xs k w) := by
 obtain ⟨hl,hf,hx,hin⟩ := ho
 have f0 : 0 < ws.length → 1 ≤ ws.getD 0 0∧ws.getD 0 0 ≤ 8 := fun h => aF hf h
 have f1 : 1 < ws.length → 1 ≤ ws.getD 1 0∧ws.getD 1 0 ≤ 8 := fun h => aF hf h
 have f2 : 2 < ws.length → 1 ≤ ws.getD 2 0∧ws.getD 2 0 ≤ 8 := fun h => aF hf h
 have a0 : 0 < ws.length → 0 ≤ xs.getD 0 0∧xs.getD 0 0 ≤ aj (ws.getD 0 0) := fun h => ba hin (by omega)
 have a1 : 1 < ws.length → 0 ≤ xs.getD 1 0∧xs.getD 1 0 ≤ aj (ws.getD 1 0) := fun h => ba hin (by omega)
 have a2 : 2 < ws.length → 0 ≤ xs.getD 2 0∧xs.getD 2 0 ≤ aj (ws.getD 2 0) := fun h => ba hin (by omega)
 have m0 : 0 < ws.length → 0 ≤ aj (ws.getD 0 0)∧aj (ws.getD 0 0) ≤ 255 := fun h => aB (by have := f0 h; omega) (f0 h).2
 have m1 : 1 < ws.length → 0 ≤ aj (ws.getD 1 0)∧aj (ws.getD 1 0) ≤ 255 := fun h => aB (by have := f1 h; omega) (f1 h).2
 have m2 : 2 < ws.length → 0 ≤ aj (ws.getD 2 0)∧aj (ws.getD 2 0) ≤ 255 := fun h => aB (by have := f2 h; omega) (f2 h).2
 have b0 := f0 (by omega); have c0 := a0 (by omega); have d0 := m0 (by omega)
 refine ak.vc (V := TT 4 (IX 0 xs.length∧TT 2 (CC (yz ws xs k w)∧(True∧(IntKind.wrap .i64 (BitVec.ofInt (IntKind.i64).bits (xs.getD 0 0) ^^^ BitVec.ofInt (IntKind.i64).bits (aj (ws.getD 0 0))).toNat) = (((xs.getD 0 0).toNat ^^^ (aj (ws.getD 0 0)).toNat : Nat) : Int))∧TT 2 ((((xs.getD 0 0).toNat ^^^ (aj (ws.getD 0 0)).toNat : Nat) : Int) = (ip 2 ws xs k w)∧True)))) (.w 1 [(5,(yz ws xs k w).O),(6,.val (i6 (((xs.getD 0 0).toNat ^^^ (aj (ws.getD 0 0)).toNat : Nat) : Int)))] <| .e) Tryz.func123 rfl rfl rfl (by kernel_rfl) ?_
 refine tt ⟨ix,tt ⟨(sx ws xs k w om),⟨⟨oK,(qq (by omega) (by omega) (by omega) (by omega))⟩,tt ⟨?_,oK⟩⟩⟩⟩
 rfl
abbrev II (ws xs : List Int) (k w : Int) : Ct := ⟨126,(i1 ws xs k w),false,(i6 (ip 3 ws xs k w))⟩
theorem Gb (ws xs : List Int) (k w : Int) (ho : Be ws xs 2) : CC (II ws xs k w) := by
 obtain ⟨hl,hf,hx,hin⟩ := ho
 have f0 : 0 < ws.length → 1 ≤ ws.getD 0 0∧ws.getD 0 0 ≤ 8 := fun h => aF hf h
 have f1 : 1 < ws.length → 1 ≤ ws.getD 1 0∧ws.getD 1 0 ≤ 8 := fun h => aF hf h
 have f2 : 2 < ws.length → 1 ≤ ws.getD 2 0∧ws.getD 2 0 ≤ 8 := fun h => aF hf h
 have a0 : 0 < ws.length → 0 ≤ xs.getD 0 0∧xs.getD 0 0 ≤ aj (ws.getD 0 0) := fun h => ba hin (by omega)
 have a1 : 1 < ws.length → 0 ≤ xs.getD 1 0∧xs.getD 1 0 ≤ aj (ws.getD 1 0) := fun h => ba hin (by omega)
 have a2 : 2 < ws.length → 0 ≤ xs.getD 2 0∧xs.getD 2 0 ≤ aj (ws.getD 2 0) := fun h => ba hin (by omega)
 have m0 : 0 < ws.length → 0 ≤ aj (ws.getD 0 0)∧aj (ws.getD 0 0) ≤ 255 := fun h => aB (by have := f0 h; omega) (f0 h).2
 have m1 : 1 < ws.length → 0 ≤ aj (ws.getD 1 0)∧aj (ws.getD 1 0) ≤ 255 := fun h => aB (by have := f1 h; omega) (f1 h).2
 have m2 : 2 < ws.length → 0 ≤ aj (ws.getD 2 0)∧aj (ws.getD 2 0) ≤ 255 := fun h => aB (by have := f2 h; omega) (f2 h).2
 have b0 := f0 (by omega); have c0 := a0 (by omega); have d0 := m0 (by omega)
 have b1 := f1 (by omega); have c1 := a1 (by omega); have d1 := m1 (by omega)
 refine ak.vc (V := TT 4 (IX 0 xs.length∧TT 3 (IX 1 xs.length∧TT 1 ((True∧(IntKind.wrap .i64 (BitVec.ofInt (IntKind.i64).bits (xs.getD 0 0) &&& BitVec.ofInt (IntKind.i64).bits (xs.getD 1 0)).toNat) = (((xs.getD 0 0).toNat &&& (xs.getD 1 0).toNat : Nat) : Int))∧TT 2 ((((xs.getD 0 0).toNat &&& (xs.getD 1 0).toNat : Nat) : Int) = (ip 3 ws xs k w)∧True))))) (.w 1 [(8,.val (i6 (((xs.getD 0 0).toNat &&& (xs.getD 1 0).toNat : Nat) : Int)))] <| .e) Tryz.func126 rfl rfl rfl (by kernel_rfl) ?_
 refine tt ⟨ix,tt ⟨ix,tt ⟨⟨oK,(t6 (by omega) (by omega) (by omega) (by omega))⟩,tt ⟨?_,oK⟩⟩⟩⟩
 rfl
abbrev IJ (ws xs : List Int) (k w : Int) : Ct := ⟨127,(i1 ws xs k w),false,(i6 (ip 4 ws xs k w))⟩
theorem Hw (ws xs : List Int) (k w : Int) (ho : Be ws xs 2) : CC (IJ ws xs k w) := by
 obtain ⟨hl,hf,hx,hin⟩ := ho
 have f0 : 0 < ws.length → 1 ≤ ws.getD 0 0∧ws.getD 0 0 ≤ 8 := fun h => aF hf h
 have f1 : 1 < ws.length → 1 ≤ ws.getD 1 0∧ws.getD 1 0 ≤ 8 := fun h => aF hf h
 have f2 : 2 < ws.length → 1 ≤ ws.getD 2 0∧ws.getD 2 0 ≤ 8 := fun h => aF hf h
 have a0 : 0 < ws.length → 0 ≤ xs.getD 0 0∧xs.getD 0 0 ≤ aj (ws.getD 0 0) := fun h => ba hin (by omega)
 have a1 : 1 < ws.length → 0 ≤ xs.getD 1 0∧xs.getD 1 0 ≤ aj (ws.getD 1 0) := fun h => ba hin (by omega)
 have a2 : 2 < ws.length → 0 ≤ xs.getD 2 0∧xs.getD 2 0 ≤ aj (ws.getD 2 0) := fun h => ba hin (by omega)
 have m0 : 0 < ws.length → 0 ≤ aj (ws.getD 0 0)∧aj (ws.getD 0 0) ≤ 255 := fun h => aB (by have := f0 h; omega) (f0 h).2
 have m1 : 1 < ws.length → 0 ≤ aj (ws.getD 1 0)∧aj (ws.getD 1 0) ≤ 255 := fun h => aB (by have := f1 h; omega) (f1 h).2
 have m2 : 2 < ws.length → 0 ≤ aj (ws.getD 2 0)∧aj (ws.getD 2 0) ≤ 255 := fun h => aB (by have := f2 h; omega) (f2 h).2
 have b0 := f0 (by omega); have c0 := a0 (by omega); have d0 := m0 (by omega)
 have b1 := f1 (by omega); have c1 := a1 (by omega); have d1 := m1 (by omega)
 refine ak.vc (V := TT 4 (IX 0 xs.length∧TT 3 (IX 1 xs.length∧TT 1 ((True∧(IntKind.wrap .i64 (BitVec.ofInt (IntKind.i64).bits (xs.getD 0 0) ||| BitVec.ofInt (IntKind.i64).bits (xs.getD 1 0)).toNat) = (((xs.getD 0 0).toNat ||| (xs.getD 1 0).toNat : Nat) : Int))∧TT 2 ((((xs.getD 0 0).toNat ||| (xs.getD 1 0).toNat : Nat) : Int) = (ip 4 ws xs k w)∧True))))) (.w 1 [(8,.val (i6 (((xs.getD 0 0).toNat ||| (xs.getD 1 0).toNat : Nat) : Int)))] <| .e) Tryz.func127 rfl rfl rfl (by kernel_rfl) ?_
 refine tt ⟨ix,tt ⟨ix,tt ⟨⟨oK,(wU (by omega) (by omega) (by omega) (by omega))⟩,tt ⟨?_,oK⟩⟩⟩⟩
 rfl
abbrev IK (ws xs : List Int) (k w : Int) : Ct := ⟨128,(i1 ws xs k w),false,(i6 (ip 5 ws xs k w))⟩
theorem Gc (ws xs : List Int) (k w : Int) (ho : Be ws xs 2) : CC (IK ws xs k w) := by
 obtain ⟨hl,hf,hx,hin⟩ := ho
 have f0 : 0 < ws.length → 1 ≤ ws.getD 0 0∧ws.getD 0 0 ≤ 8 := fun h => aF hf h
 have f1 : 1 < ws.length → 1 ≤ ws.getD 1 0∧ws.getD 1 0 ≤ 8 := fun h => aF hf h
 have f2 : 2 < ws.length → 1 ≤ ws.getD 2 0∧ws.getD 2 0 ≤ 8 := fun h => aF hf h
 have a0 : 0 < ws.length → 0 ≤ xs.getD 0 0∧xs.getD 0 0 ≤ aj (ws.getD 0 0) := fun h => ba hin (by omega)
 have a1 : 1 < ws.length → 0 ≤ xs.getD 1 0∧xs.getD 1 0 ≤ aj (ws.getD 1 0) := fun h => ba hin (by omega)
 have a2 : 2 < ws.length → 0 ≤ xs.getD 2 0∧xs.getD 2 0 ≤ aj (ws.getD 2 0) := fun h => ba hin (by omega)
 have m0 : 0 < ws.length → 0 ≤ aj (ws.getD 0 0)∧aj (ws.getD 0 0) ≤ 255 := fun h => aB (by have := f0 h; omega) (f0 h).2
 have m1 : 1 < ws.length → 0 ≤ aj (ws.getD 1 0)∧aj (ws.getD 1 0) ≤ 255 := fun h => aB (by have := f1 h; omega) (f1 h).2
 have m2 : 2 < ws.length → 0 ≤ aj (ws.getD 2 0)∧aj (ws.getD 2 0) ≤ 255 := fun h => aB (by have := f2 h; omega) (f2 h).2
 have b0 := f0 (by omega); have c0 := a0 (by omega); have d0 := m0 (by omega)
 have b1 := f1 (by omega); have c1 := a1 (by omega); have d1 := m1 (by omega)
 refine ak.vc (V := TT 4 (IX 0 xs.length∧TT 3 (IX 1 xs.length∧TT 1 ((True∧(IntKind.wrap .i64 (BitVec.ofInt (IntKind.i64).bits (xs.getD 0 0) ^^^ BitVec.ofInt (IntKind.i64).bits (xs.getD 1 0)).toNat) = (((xs.getD 0 0).toNat ^^^ (xs.getD 1 0).toNat : Nat) : Int))∧TT 2 ((((xs.getD 0 0).toNat ^^^ (xs.getD 1 0).toNat : Nat) : Int) = (ip 5 ws xs k w)∧True))))) (.w 1 [(8,.val (i6 (((xs.getD 0 0).toNat ^^^ (xs.getD 1 0).toNat : Nat) : Int)))] <| .e) Tryz.func128 rfl rfl rfl (by kernel_rfl) ?_
 refine tt ⟨ix,tt ⟨ix,tt ⟨⟨oK,(qq (by omega) (by omega) (by omega) (by omega))⟩,tt ⟨?_,oK⟩⟩⟩⟩
 rfl
abbrev IL (ws xs : List Int) (k w : Int) : Ct := ⟨129,(i1 ws xs k w),false,(i6 (ip 6 ws xs k w))⟩
theorem Gd (ws xs : List Int) (k w : Int) (ho : Be ws xs 2) : CC (IL ws xs k w) := by
 obtain ⟨hl,hf,hx,hin⟩ := ho
 have f0 : 0 < ws.length → 1 ≤ ws.getD 0 0∧ws.getD 0 0 ≤ 8 := fun h => aF hf h
 have f1 : 1 < ws.length → 1 ≤ ws.getD 1 0∧ws.getD 1 0 ≤ 8 := fun h => aF hf h
 have f2 : 2 < ws.length → 1 ≤ ws.getD 2 0∧ws.getD 2 0 ≤ 8 := fun h => aF hf h
 have a0 : 0 < ws.length → 0 ≤ xs.getD 0 0∧xs.getD 0 0 ≤ aj (ws.getD 0 0) := fun h => ba hin (by omega)
 have a1 : 1 < ws.length → 0 ≤ xs.getD 1 0∧xs.getD 1 0 ≤ aj (ws.getD 1 0) := fun h => ba hin (by omega)
 have a2 : 2 < ws.length → 0 ≤ xs.getD 2 0∧xs.getD 2 0 ≤ aj (ws.getD 2 0) := fun h => ba hin (by omega)
 have m0 : 0 < ws.length → 0 ≤ aj (ws.getD 0 0)∧aj (ws.getD 0 0) ≤ 255 := fun h => aB (by have := f0 h; omega) (f0 h).2
 have m1 : 1 < ws.length → 0 ≤ aj (ws.getD 1 0)∧aj (ws.getD 1 0) ≤ 255 := fun h => aB (by have := f1 h; omega) (f1 h).2
 have m2 : 2 < ws.length → 0 ≤ aj (ws.getD 2 0)∧aj (ws.getD 2 0) ≤ 255 := fun h => aB (by have := f2 h; omega) (f2 h).2
 have b0 := f0 (by omega); have c0 := a0 (by omega); have d0 := m0 (by omega)
 have b1 := f1 (by omega); have c1 := a1 (by omega); have d1 := m1 (by omega)
 refine ak.vc (V := TT 4 (IX 0 xs.length∧TT 3 (IX 1 xs.length∧TT 1 (W6 ((xs.getD 0 0) + (xs.getD 1 0))∧TT 1 (CC (yz ws xs k w)∧(True∧(IntKind.wrap .i64 (BitVec.ofInt (IntKind.i64).bits ((xs.getD 0 0) + (xs.getD 1 0)) &&& BitVec.ofInt (IntKind.i64).bits (aj (ws.getD 0 0))).toNat) = ((xs.getD 0 0 + xs.getD 1 0) % 2 ^ (ws.getD 0 0).toNat))∧TT 2 (((xs.getD 0 0 + xs.getD 1 0) % 2 ^ (ws.getD 0 0).toNat) = (ip 6 ws xs k w)∧True)))))) (.w 1 [(8,.val (i6 ((xs.getD 0 0) + (xs.getD 1 0)))),(10,(yz ws xs k w).O),(11,.val (i6 ((xs.getD 0 0 + xs.getD 1 0) % 2 ^ (ws.getD 0 0).toNat)))] <| .e) Tryz.func129 rfl rfl rfl (by kernel_rfl) ?_
 refine tt ⟨ix,tt ⟨ix,tt ⟨w6,tt ⟨(sx ws xs k w om),⟨⟨oK,(by rw [cC (by omega) (by omega)]; exact jv (by omega))⟩,tt ⟨?_,oK⟩⟩⟩⟩⟩⟩
 rfl
abbrev IM (ws xs : List Int) (k w : Int) : Ct := ⟨130,(i1 ws xs k w),false,(i6 (ip 7 ws xs k w))⟩
theorem Ge (ws xs : List Int) (k w : Int) (ho : Be ws xs 2) : CC (IM ws xs k w) := by
 obtain ⟨hl,hf,hx,hin⟩ := ho
 have f0 : 0 < ws.length → 1 ≤ ws.getD 0 0∧ws.getD 0 0 ≤ 8 := fun h => aF hf h
 have f1 : 1 < ws.length → 1 ≤ ws.getD 1 0∧ws.getD 1 0 ≤ 8 := fun h => aF hf h
 have f2 : 2 < ws.length → 1 ≤ ws.getD 2 0∧ws.getD 2 0 ≤ 8 := fun h => aF hf h
 have a0 : 0 < ws.length → 0 ≤ xs.getD 0 0∧xs.getD 0 0 ≤ aj (ws.getD 0 0) := fun h => ba hin (by omega)
 have a1 : 1 < ws.length → 0 ≤ xs.getD 1 0∧xs.getD 1 0 ≤ aj (ws.getD 1 0) := fun h => ba hin (by omega)
 have a2 : 2 < ws.length → 0 ≤ xs.getD 2 0∧xs.getD 2 0 ≤ aj (ws.getD 2 0) := fun h => ba hin (by omega)
 have m0 : 0 < ws.length → 0 ≤ aj (ws.getD 0 0)∧aj (ws.getD 0 0) ≤ 255 := fun h => aB (by have := f0 h; omega) (f0 h).2
 have m1 : 1 < ws.length → 0 ≤ aj (ws.getD 1 0)∧aj (ws.getD 1 0) ≤ 255 := fun h => aB (by have := f1 h; omega) (f1 h).2
 have m2 : 2 < ws.length → 0 ≤ aj (ws.getD 2 0)∧aj (ws.getD 2 0) ≤ 255 := fun h => aB (by have := f2 h; omega) (f2 h).2
 have b0 := f0 (by omega); have c0 := a0 (by omega); have d0 := m0 (by omega)
 have b1 := f1 (by omega); have c1 := a1 (by omega); have d1 := m1 (by omega)
 refine ak.vc (V := TT 4 (IX 0 xs.length∧TT 3 (IX 1 xs.length∧TT 1 (W6 ((xs.getD 0 0) - (xs.getD 1 0))∧TT 1 (CC (yz ws xs k w)∧(True∧(IntKind.wrap .i64 (BitVec.ofInt (IntKind.i64).bits ((xs.getD 0 0) - (xs.getD 1 0)) &&& BitVec.ofInt (IntKind.i64).bits (aj (ws.getD 0 0))).toNat) = ((xs.getD 0 0 - xs.getD 1 0) % 2 ^ (ws.getD 0 0).toNat))∧TT 2 (((xs.getD 0 0 - xs.getD 1 0) % 2 ^ (ws.getD 0 0).toNat) = (ip 7 ws xs k w)∧True)))))) (.w 1 [(8,.val (i6 ((xs.getD 0 0) - (xs.getD 1 0)))),(10,(yz ws xs k w).O),(11,.val (i6 ((xs.getD 0 0 - xs.getD 1 0) % 2 ^ (ws.getD 0 0).toNat)))] <| .e) Tryz.func130 rfl rfl rfl (by kernel_rfl) ?_
 refine tt ⟨ix,tt ⟨ix,tt ⟨w6,tt ⟨(sx ws xs k w om),⟨⟨oK,(by rw [cC (by omega) (by omega)]; exact jv (by omega))⟩,tt ⟨?_,oK⟩⟩⟩⟩⟩⟩
 rfl
abbrev IP (ws xs : List Int) (k w : Int) : Ct := ⟨132,(i1 ws xs k w),false,(i6 (ip 8 ws xs k w))⟩
theorem Hx (ws xs : List Int) (k w : Int) (ho : Be ws xs 2) : CC (IP ws xs k w) := by
 obtain ⟨hl,hf,hx,hin⟩ := ho
 have f0 : 0 < ws.length → 1 ≤ ws.getD 0 0∧ws.getD 0 0 ≤ 8 := fun h => aF hf h
 have f1 : 1 < ws.length → 1 ≤ ws.getD 1 0∧ws.getD 1 0 ≤ 8 := fun h => aF hf h
 have f2 : 2 < ws.length → 1 ≤ ws.getD 2 0∧ws.getD 2 0 ≤ 8 := fun h => aF hf h
 have a0 : 0 < ws.length → 0 ≤ xs.getD 0 0∧xs.getD 0 0 ≤ aj (ws.getD 0 0) := fun h => ba hin (by omega)
 have a1 : 1 < ws.length → 0 ≤ xs.getD 1 0∧xs.getD 1 0 ≤ aj (ws.getD 1 0) := fun h => ba hin (by omega)
 have a2 : 2 < ws.length → 0 ≤ xs.getD 2 0∧xs.getD 2 0 ≤ aj (ws.getD 2 0) := fun h => ba hin (by omega)
 have m0 : 0 < ws.length → 0 ≤ aj (ws.getD 0 0)∧aj (ws.getD 0 0) ≤ 255 := fun h => aB (by have := f0 h; omega) (f0 h).2
 have m1 : 1 < ws.length → 0 ≤ aj (ws.getD 1 0)∧aj (ws.getD 1 0) ≤ 255 := fun h => aB (by have := f1 h; omega) (f1 h).2
 have m2 : 2 < ws.length → 0 ≤ aj (ws.getD 2 0)∧aj (ws.getD 2 0) ≤ 255 := fun h => aB (by have := f2 h; omega) (f2 h).2
 have b0 := f0 (by omega); have c0 := a0 (by omega); have d0 := m0 (by omega)
 have b1 := f1 (by omega); have c1 := a1 (by omega); have d1 := m1 (by omega)
 refine ak.vc (V := TT 4 (IX 0 xs.length∧TT 3 (IX 1 xs.length∧TT 2 (CC (CT ((xs.getD 0 0) == (xs.getD 1 0)))∧TT 2 ((if ((xs.getD 0 0) == (xs.getD 1 0)) = true then 1 else 0) = (ip 8 ws xs k w)∧True))))) (.w 1 [(9,(CT ((xs.getD 0 0) == (xs.getD 1 0))).O)] <| .e) Tryz.func132 rfl rfl rfl (by kernel_rfl) ?_
 refine tt ⟨ix,tt ⟨ix,tt ⟨(CU ((xs.getD 0 0) == (xs.getD 1 0))),tt ⟨?_,oK⟩⟩⟩⟩
 show _ = (if xs.getD 0 0 = xs.getD 1 0 then (1 : Int) else 0)
 by_cases h : xs.getD 0 0 = xs.getD 1 0
 · rw [if_pos h,if_pos (by simpa using h)]
 · rw [if_neg h,if_neg (by simpa using h)]
abbrev IQ (ws xs : List Int) (k w : Int) : Ct := ⟨134,(i1 ws xs k w),false,(i6 (ip 9 ws xs k w))⟩
theorem Hy (ws xs : List Int) (k w : Int) (ho : Be ws xs 2) : CC (IQ ws xs k w) := by
 obtain ⟨hl,hf,hx,hin⟩ := ho
 have f0 : 0 < ws.length → 1 ≤ ws.getD 0 0∧ws.getD 0 0 ≤ 8 := fun h => aF hf h
 have f1 : 1 < ws.length → 1 ≤ ws.getD 1 0∧ws.getD 1 0 ≤ 8 := fun h => aF hf h
 have f2 : 2 < ws.length → 1 ≤ ws.getD 2 0∧ws.getD 2 0 ≤ 8 := fun h => aF hf h
 have a0 : 0 < ws.length → 0 ≤ xs.getD 0 0∧xs.getD 0 0 ≤ aj (ws.getD 0 0) := fun h => ba hin (by omega)
 have a1 : 1 < ws.length → 0 ≤ xs.getD 1 0∧xs.getD 1 0 ≤ aj (ws.getD 1 0) := fun h => ba hin (by omega)
 have a2 : 2 < ws.length → 0 ≤ xs.getD 2 0∧xs.getD 2 0 ≤ aj (ws.getD 2 0) := fun h => ba hin (by omega)
 have m0 : 0 < ws.length → 0 ≤ aj (ws.getD 0 0)∧aj (ws.getD 0 0) ≤ 255 := fun h => aB (by have := f0 h; omega) (f0 h).2
 have m1 : 1 < ws.length → 0 ≤ aj (ws.getD 1 0)∧aj (ws.getD 1 0) ≤ 255 := fun h => aB (by have := f1 h; omega) (f1 h).2
 have m2 : 2 < ws.length → 0 ≤ aj (ws.getD 2 0)∧aj (ws.getD 2 0) ≤ 255 := fun h => aB (by have := f2 h; omega) (f2 h).2
 have b0 := f0 (by omega); have c0 := a0 (by omega); have d0 := m0 (by omega)
 have b1 := f1 (by omega); have c1 := a1 (by omega); have d1 := m1 (by omega)
 refine ak.vc (V := TT 4 (IX 0 xs.length∧TT 3 (IX 1 xs.length∧TT 2 (CC (CT (decide ((xs.getD 0 0) < (xs.getD 1 0))))∧TT 2 ((if (decide ((xs.getD 0 0) < (xs.getD 1 0))) = true then 1 else 0) = (ip 9 ws xs k w)∧True))))) (.w 1 [(9,(CT (decide ((xs.getD 0 0) < (xs.getD 1 0)))).O)] <| .e) Tryz.func134 rfl rfl rfl (by kernel_rfl) ?_
 refine tt ⟨ix,tt ⟨ix,tt ⟨(CU (decide ((xs.getD 0 0) < (xs.getD 1 0)))),tt ⟨?_,oK⟩⟩⟩⟩
 show _ = (if xs.getD 0 0 < xs.getD 1 0 then (1 : Int) else 0)
 by_cases h : xs.getD 0 0 < xs.getD 1 0
 · rw [if_pos h,if_pos (by simpa using h)]
 · rw [if_neg h,if_neg (by simpa using h)]
abbrev IR (ws xs : List Int) (k w : Int) : Ct := ⟨136,(i1 ws xs k w),false,(i6 (ip 1 ws xs k w))⟩
theorem CZ (ws xs : List Int) (k w : Int) (ho : Be ws xs 0) : CC (IR ws xs k w) := by
 obtain ⟨hl,hf,hx,hin⟩ := ho
 have f0 : 0 < ws.length → 1 ≤ ws.getD 0 0∧ws.getD 0 0 ≤ 8 := fun h => aF hf h
 have f1 : 1 < ws.length → 1 ≤ ws.getD 1 0∧ws.getD 1 0 ≤ 8 := fun h => aF hf h
 have f2 : 2 < ws.length → 1 ≤ ws.getD 2 0∧ws.getD 2 0 ≤ 8 := fun h => aF hf h
 have a0 : 0 < ws.length → 0 ≤ xs.getD 0 0∧xs.getD 0 0 ≤ aj (ws.getD 0 0) := fun h => ba hin (by omega)
 have a1 : 1 < ws.length → 0 ≤ xs.getD 1 0∧xs.getD 1 0 ≤ aj (ws.getD 1 0) := fun h => ba hin (by omega)
 have a2 : 2 < ws.length → 0 ≤ xs.getD 2 0∧xs.getD 2 0 ≤ aj (ws.getD 2 0) := fun h => ba hin (by omega)
 have m0 : 0 < ws.length → 0 ≤ aj (ws.getD 0 0)∧aj (ws.getD 0 0) ≤ 255 := fun h => aB (by have := f0 h; omega) (f0 h).2
 have m1 : 1 < ws.length → 0 ≤ aj (ws.getD 1 0)∧aj (ws.getD 1 0) ≤ 255 := fun h => aB (by have := f1 h; omega) (f1 h).2
 have m2 : 2 < ws.length → 0 ≤ aj (ws.getD 2 0)∧aj (ws.getD 2 0) ≤ 255 := fun h => aB (by have := f2 h; omega) (f2 h).2
 refine ak.vc (V := TT 6 (k = (ip 1 ws xs k w)∧True)) (.e) Tryz.func136 rfl rfl rfl (by kernel_rfl) ?_
 refine tt ⟨?_,oK⟩
 rfl
abbrev IT (ws xs : List Int) (k w : Int) : Ct := ⟨144,(i1 ws xs k w),false,(i6 (ip 13 ws xs k w))⟩
theorem Gf (ws xs : List Int) (k w : Int) (ho : Be ws xs 1) : CC (IT ws xs k w) := by
 obtain ⟨hl,hf,hx,hin⟩ := ho
 have f0 : 0 < ws.length → 1 ≤ ws.getD 0 0∧ws.getD 0 0 ≤ 8 := fun h => aF hf h
 have f1 : 1 < ws.length → 1 ≤ ws.getD 1 0∧ws.getD 1 0 ≤ 8 := fun h => aF hf h
 have f2 : 2 < ws.length → 1 ≤ ws.getD 2 0∧ws.getD 2 0 ≤ 8 := fun h => aF hf h
 have a0 : 0 < ws.length → 0 ≤ xs.getD 0 0∧xs.getD 0 0 ≤ aj (ws.getD 0 0) := fun h => ba hin (by omega)
 have a1 : 1 < ws.length → 0 ≤ xs.getD 1 0∧xs.getD 1 0 ≤ aj (ws.getD 1 0) := fun h => ba hin (by omega)
 have a2 : 2 < ws.length → 0 ≤ xs.getD 2 0∧xs.getD 2 0 ≤ aj (ws.getD 2 0) := fun h => ba hin (by omega)
 have m0 : 0 < ws.length → 0 ≤ aj (ws.getD 0 0)∧aj (ws.getD 0 0) ≤ 255 := fun h => aB (by have := f0 h; omega) (f0 h).2
 have m1 : 1 < ws.length → 0 ≤ aj (ws.getD 1 0)∧aj (ws.getD 1 0) ≤ 255 := fun h => aB (by have := f1 h; omega) (f1 h).2
 have m2 : 2 < ws.length → 0 ≤ aj (ws.getD 2 0)∧aj (ws.getD 2 0) ≤ 255 := fun h => aB (by have := f2 h; omega) (f2 h).2
 have b0 := f0 (by omega); have c0 := a0 (by omega); have d0 := m0 (by omega)
 refine ak.vc (V := TT 4 (IX 0 xs.length∧TT 3 ((xs.getD 0 0) = (ip 13 ws xs k w)∧True))) (.e) Tryz.func144 rfl rfl rfl (by kernel_rfl) ?_
 refine tt ⟨ix,tt ⟨?_,oK⟩⟩
 rfl
abbrev IU (ws xs : List Int) (k w : Int) : Ct := ⟨138,(i1 ws xs k w),false,(i6 (ip 10 ws xs k w))⟩
theorem Gg (ws xs : List Int) (k w : Int) (ho : Be ws xs 3) (h1 : ws.getD 0 0 = 1) : CC (IU ws xs k w) := by
 obtain ⟨hl,hf,hx,hin⟩ := ho
 have f0 : 0 < ws.length → 1 ≤ ws.getD 0 0∧ws.getD 0 0 ≤ 8 := fun h => aF hf h
 have f1 : 1 < ws.length → 1 ≤ ws.getD 1 0∧ws.getD 1 0 ≤ 8 := fun h => aF hf h
 have f2 : 2 < ws.length → 1 ≤ ws.getD 2 0∧ws.getD 2 0 ≤ 8 := fun h => aF hf h
 have a0 : 0 < ws.length → 0 ≤ xs.getD 0 0∧xs.getD 0 0 ≤ aj (ws.getD 0 0) := fun h => ba hin (by omega)
 have a1 : 1 < ws.length → 0 ≤ xs.getD 1 0∧xs.getD 1 0 ≤ aj (ws.getD 1 0) := fun h => ba hin (by omega)
 have a2 : 2 < ws.length → 0 ≤ xs.getD 2 0∧xs.getD 2 0 ≤ aj (ws.getD 2 0) := fun h => ba hin (by omega)
 have m0 : 0 < ws.length → 0 ≤ aj (ws.getD 0 0)∧aj (ws.getD 0 0) ≤ 255 := fun h => aB (by have := f0 h; omega) (f0 h).2
 have m1 : 1 < ws.length → 0 ≤ aj (ws.getD 1 0)∧aj (ws.getD 1 0) ≤ 255 := fun h => aB (by have := f1 h; omega) (f1 h).2
 have m2 : 2 < ws.length → 0 ≤ aj (ws.getD 2 0)∧aj (ws.getD 2 0) ≤ 255 := fun h => aB (by have := f2 h; omega) (f2 h).2
 have b0 := f0 (by omega); have c0 := a0 (by omega); have d0 := m0 (by omega)
 have b1 := f1 (by omega); have c1 := a1 (by omega); have d1 := m1 (by omega)
 have b2 := f2 (by omega); have c2 := a2 (by omega); have d2 := m2 (by omega)
 have hm1 : aj (ws.getD 0 0) = 1 := by rw [h1]; decide
 have hx0 : xs.getD 0 0 = 0 ∨ xs.getD 0 0 = 1 := by omega
 refine ak.vc (V := TT 6 (IX 0 xs.length∧TT 1 (W6 (2 - (xs.getD 0 0))∧IX (2 - (xs.getD 0 0)) xs.length∧TT 3 ((xs.getD ((2 - (xs.getD 0 0)).toNat) 0) = (ip 10 ws xs k w)∧True)))) (.w 1 [(6,.val (i6 (2 - (xs.getD 0 0))))] <| .e) Tryz.func138 rfl rfl rfl (by kernel_rfl) ?_
 refine tt ⟨ix,tt ⟨w6,⟨ix,tt ⟨?_,oK⟩⟩⟩⟩
 rfl
abbrev IV (ws xs : List Int) (k w : Int) : Ct := ⟨140,(i1 ws xs k w),false,(i6 (ip 11 ws xs k w))⟩
theorem Gh (ws xs : List Int) (k w : Int) (ho : Be ws xs 2) : CC (IV ws xs k w) := by
 obtain ⟨hl,hf,hx,hin⟩ := ho
 have f0 : 0 < ws.length → 1 ≤ ws.getD 0 0∧ws.getD 0 0 ≤ 8 := fun h => aF hf h
 have f1 : 1 < ws.length → 1 ≤ ws.getD 1 0∧ws.getD 1 0 ≤ 8 := fun h => aF hf h
 have f2 : 2 < ws.length → 1 ≤ ws.getD 2 0∧ws.getD 2 0 ≤ 8 := fun h => aF hf h
 have a0 : 0 < ws.length → 0 ≤ xs.getD 0 0∧xs.getD 0 0 ≤ aj (ws.getD 0 0) := fun h => ba hin (by omega)
 have a1 : 1 < ws.length → 0 ≤ xs.getD 1 0∧xs.getD 1 0 ≤ aj (ws.getD 1 0) := fun h => ba hin (by omega)
 have a2 : 2 < ws.length → 0 ≤ xs.getD 2 0∧xs.getD 2 0 ≤ aj (ws.getD 2 0) := fun h => ba hin (by omega)
 have m0 : 0 < ws.length → 0 ≤ aj (ws.getD 0 0)∧aj (ws.getD 0 0) ≤ 255 := fun h => aB (by have := f0 h; omega) (f0 h).2
 have m1 : 1 < ws.length → 0 ≤ aj (ws.getD 1 0)∧aj (ws.getD 1 0) ≤ 255 := fun h => aB (by have := f1 h; omega) (f1 h).2
 have m2 : 2 < ws.length → 0 ≤ aj (ws.getD 2 0)∧aj (ws.getD 2 0) ≤ 255 := fun h => aB (by have := f2 h; omega) (f2 h).2
 have b0 := f0 (by omega); have c0 := a0 (by omega); have d0 := m0 (by omega)
 have b1 := f1 (by omega); have c1 := a1 (by omega); have d1 := m1 (by omega)
 refine ak.vc (V := TT 4 (IX 0 xs.length∧TT 3 (IX 1 ws.length∧TT 1 ((0 ≤ (ws.getD 1 0)∧(IntKind.wrap .i64 ((xs.getD 0 0) * 2 ^ min ((ws.getD 1 0).toNat) 64)) = (((xs.getD 0 0).toNat * 2 ^ (ws.getD 1 0).toNat : Nat) : Int))∧TT 2 (IX 1 xs.length∧TT 1 ((True∧(IntKind.wrap .i64 (BitVec.ofInt (IntKind.i64).bits (((xs.getD 0 0).toNat * 2 ^ (ws.getD 1 0).toNat : Nat) : Int) ||| BitVec.ofInt (IntKind.i64).bits (xs.getD 1 0)).toNat) = (((xs.getD 0 0).toNat * 2 ^ (ws.getD 1 0).toNat ||| (xs.getD 1 0).toNat : Nat) : Int))∧TT 2 ((((xs.getD 0 0).toNat * 2 ^ (ws.getD 1 0).toNat ||| (xs.getD 1 0).toNat : Nat) : Int) = (ip 11 ws xs k w)∧True))))))) (.w 1 [(8,.val (i6 (((xs.getD 0 0).toNat * 2 ^ (ws.getD 1 0).toNat : Nat) : Int))),(13,.val (i6 (((xs.getD 0 0).toNat * 2 ^ (ws.getD 1 0).toNat ||| (xs.getD 1 0).toNat : Nat) : Int)))] <| .e) Tryz.func140 rfl rfl rfl (by kernel_rfl) ?_
 refine tt ⟨ix,tt ⟨ix,tt ⟨⟨om,(zO (by omega) (by omega))⟩,tt ⟨ix,tt ⟨⟨oK,(zP (by omega) (by omega) (by omega))⟩,tt ⟨?_,oK⟩⟩⟩⟩⟩⟩
 rfl
abbrev IW (ws xs : List Int) (k w : Int) : Ct := ⟨142,(i1 ws xs k w),false,(i6 (ip 12 ws xs k w))⟩
theorem C0 (ws xs : List Int) (k w : Int) (ho : Be ws xs 1) (hk : 0 ≤ k∧k ≤ 8∧ax w = true) : CC (IW ws xs k w) := by
 obtain ⟨hl,hf,hx,hin⟩ := ho
 have f0 : 0 < ws.length → 1 ≤ ws.getD 0 0∧ws.getD 0 0 ≤ 8 := fun h => aF hf h
 have f1 : 1 < ws.length → 1 ≤ ws.getD 1 0∧ws.getD 1 0 ≤ 8 := fun h => aF hf h
 have f2 : 2 < ws.length → 1 ≤ ws.getD 2 0∧ws.getD 2 0 ≤ 8 := fun h => aF hf h
 have a0 : 0 < ws.length → 0 ≤ xs.getD 0 0∧xs.getD 0 0 ≤ aj (ws.getD 0 0) := fun h => ba hin (by omega)
 have a1 : 1 < ws.length → 0 ≤ xs.getD 1 0∧xs.getD 1 0 ≤ aj (ws.getD 1 0) := fun h => ba hin (by omega)
 have a2 : 2 < ws.length → 0 ≤ xs.getD 2 0∧xs.getD 2 0 ≤ aj (ws.getD 2 0) := fun h => ba hin (by omega)
 have m0 : 0 < ws.length → 0 ≤ aj (ws.getD 0 0)∧aj (ws.getD 0 0) ≤ 255 := fun h => aB (by have := f0 h; omega) (f0 h).2
 have m1 : 1 < ws.length → 0 ≤ aj (ws.getD 1 0)∧aj (ws.getD 1 0) ≤ 255 := fun h => aB (by have := f1 h; omega) (f1 h).2
 have m2 : 2 < ws.length → 0 ≤ aj (ws.getD 2 0)∧aj (ws.getD 2 0) ≤ 255 := fun h => aB (by have := f2 h; omega) (f2 h).2
 have b0 := f0 (by omega); have c0 := a0 (by omega); have d0 := m0 (by omega)
 have hw := aW.1 hk.2.2
 refine ak.vc (V := TT 4 (IX 0 xs.length∧TT 3 ((0 ≤ k∧(Int.fdiv (xs.getD 0 0) (2 ^ min k.toNat 64)) = (xs.getD 0 0 / 2 ^ k.toNat))∧TT 2 (CC (CR w)∧(True∧(IntKind.wrap .i64 (BitVec.ofInt (IntKind.i64).bits (xs.getD 0 0 / 2 ^ k.toNat) &&& BitVec.ofInt (IntKind.i64).bits (aj w)).toNat) = ((xs.getD 0 0 / 2 ^ k.toNat) % 2 ^ w.toNat))∧TT 2 (((xs.getD 0 0 / 2 ^ k.toNat) % 2 ^ w.toNat) = (ip 12 ws xs k w)∧True))))) (.w 1 [(6,.val (i6 (xs.getD 0 0 / 2 ^ k.toNat))),(9,(CR w).O),(10,.val (i6 ((xs.getD 0 0 / 2 ^ k.toNat) % 2 ^ w.toNat)))] <| .e) Tryz.func142 rfl rfl rfl (by kernel_rfl) ?_
 refine tt ⟨ix,tt ⟨⟨om,(vo hk.1 (by omega))⟩,tt ⟨(oU w),⟨⟨oK,(by rw [cC (by omega) (by omega)]; exact jv (by omega))⟩,tt ⟨?_,oK⟩⟩⟩⟩⟩
 rfl
end Go.Proofs.YtifoecfajmnjjaaGreat
