/-
  Package bits: the values of operations.
-/
import Derived.Test.YtckgpflobhpnpaaGreatQVbA
namespace Go.Proofs.YtckgpflobhpnpaaGreat
open Go.RowKit
set_option linter.unusedVariables false
set_option linter.unusedSimpArgs false
abbrev jj (ws xs : List Int) (k w : Int) : List D := [(.agg [(LI ws),(LI xs),(i6 k),(i6 w)])]
set_option maxRecDepth 100000
structure DQ (ws xs : List Int) (n : Nat) : Prop where
  hl : ws.length = n
  hf : ws.all av = true
  hx : xs.length = ws.length
  hin : DL ws xs = true
abbrev AI (ws xs : List Int) (k w : Int) : Ct := ⟨129,(jj ws xs k w),false,(i6 (am (ws.getD 0 0)))⟩
theorem uK (ws xs : List Int) (k w : Int) (hl : 0 < ws.length) : CC (AI ws xs k w) := by
 refine ah.vc (V := TT 4 (IX 0 ws.length∧TT 1 (CC (xB (ws.getD 0 0))∧TT 2 ((am (ws.getD 0 0)) = (am (ws.getD 0 0))∧True)))) (.w 1 [(4,(xB (ws.getD 0 0)).O)] <| .e) Tryz.func129 rfl rfl rfl (by kernel_rfl) ?_
 exact tt ⟨ix,tt ⟨(tu (ws.getD 0 0)),tt ⟨rfl,oK⟩⟩⟩
abbrev Nb (ws xs : List Int) (k w : Int) : Ct := ⟨128,(jj ws xs k w),false,(i6 (ol 2 ws xs k w))⟩
theorem J2 (ws xs : List Int) (k w : Int) (ho : DQ ws xs 1) : CC (Nb ws xs k w) := by
 obtain ⟨hl,hf,hx,hin⟩ := ho
 have f0 : 0 < ws.length → 1 ≤ ws.getD 0 0∧ws.getD 0 0 ≤ 8 := fun h => aA hf h
 have f1 : 1 < ws.length → 1 ≤ ws.getD 1 0∧ws.getD 1 0 ≤ 8 := fun h => aA hf h
 have f2 : 2 < ws.length → 1 ≤ ws.getD 2 0∧ws.getD 2 0 ≤ 8 := fun h => aA hf h
 have a0 : 0 < ws.length → 0 ≤ xs.getD 0 0∧xs.getD 0 0 ≤ am (ws.getD 0 0) := fun h => a9 hin (by omega)
 have a1 : 1 < ws.length → 0 ≤ xs.getD 1 0∧xs.getD 1 0 ≤ am (ws.getD 1 0) := fun h => a9 hin (by omega)
 have a2 : 2 < ws.length → 0 ≤ xs.getD 2 0∧xs.getD 2 0 ≤ am (ws.getD 2 0) := fun h => a9 hin (by omega)
 have m0 : 0 < ws.length → 0 ≤ am (ws.getD 0 0)∧am (ws.getD 0 0) ≤ 255 := fun h => ax (by have := f0 h; omega) (f0 h).2
 have m1 : 1 < ws.length → 0 ≤ am (ws.getD 1 0)∧am (ws.getD 1 0) ≤ 255 := fun h => ax (by have := f1 h; omega) (f1 h).2
 have m2 : 2 < ws.length → 0 ≤ am (ws.getD 2 0)∧am (ws.getD 2 0) ≤ 255 := fun h => ax (by have := f2 h; omega) (f2 h).2
 have b0 := f0 (by omega); have c0 := a0 (by omega); have d0 := m0 (by omega)
 refine ah.vc (V := TT 4 (IX 0 xs.length∧TT 2 (CC (AI ws xs k w)∧(True∧(IntKind.wrap .i64 (BitVec.ofInt (IntKind.i64).bits (xs.getD 0 0) ^^^ BitVec.ofInt (IntKind.i64).bits (am (ws.getD 0 0))).toNat) = (((xs.getD 0 0).toNat ^^^ (am (ws.getD 0 0)).toNat : Nat) : Int))∧TT 2 ((((xs.getD 0 0).toNat ^^^ (am (ws.getD 0 0)).toNat : Nat) : Int) = (ol 2 ws xs k w)∧True)))) (.w 1 [(5,(AI ws xs k w).O),(6,.val (i6 (((xs.getD 0 0).toNat ^^^ (am (ws.getD 0 0)).toNat : Nat) : Int)))] <| .e) Tryz.func128 rfl rfl rfl (by kernel_rfl) ?_
 refine tt ⟨ix,tt ⟨(uK ws xs k w om),⟨⟨oK,(wo (by omega) (by omega) (by omega) (by omega))⟩,tt ⟨?_,oK⟩⟩⟩⟩
 rfl
abbrev Nc (ws xs : List Int) (k w : Int) : Ct := ⟨131,(jj ws xs k w),false,(i6 (ol 3 ws xs k w))⟩
theorem J3 (ws xs : List Int) (k w : Int) (ho : DQ ws xs 2) : CC (Nc ws xs k w) := by
 obtain ⟨hl,hf,hx,hin⟩ := ho
 have f0 : 0 < ws.length → 1 ≤ ws.getD 0 0∧ws.getD 0 0 ≤ 8 := fun h => aA hf h
 have f1 : 1 < ws.length → 1 ≤ ws.getD 1 0∧ws.getD 1 0 ≤ 8 := fun h => aA hf h
 have f2 : 2 < ws.length → 1 ≤ ws.getD 2 0∧ws.getD 2 0 ≤ 8 := fun h => aA hf h
 have a0 : 0 < ws.length → 0 ≤ xs.getD 0 0∧xs.getD 0 0 ≤ am (ws.getD 0 0) := fun h => a9 hin (by omega)
 have a1 : 1 < ws.length → 0 ≤ xs.getD 1 0∧xs.getD 1 0 ≤ am (ws.getD 1 0) := fun h => a9 hin (by omega)
 have a2 : 2 < ws.length → 0 ≤ xs.getD 2 0∧xs.getD 2 0 ≤ am (ws.getD 2 0) := fun h => a9 hin (by omega)
 have m0 : 0 < ws.length → 0 ≤ am (ws.getD 0 0)∧am (ws.getD 0 0) ≤ 255 := fun h => ax (by have := f0 h; omega) (f0 h).2
 have m1 : 1 < ws.length → 0 ≤ am (ws.getD 1 0)∧am (ws.getD 1 0) ≤ 255 := fun h => ax (by have := f1 h; omega) (f1 h).2
 have m2 : 2 < ws.length → 0 ≤ am (ws.getD 2 0)∧am (ws.getD 2 0) ≤ 255 := fun h => ax (by have := f2 h; omega) (f2 h).2
 have b0 := f0 (by omega); have c0 := a0 (by omega); have d0 := m0 (by omega)
 have b1 := f1 (by omega); have c1 := a1 (by omega); have d1 := m1 (by omega)
 refine ah.vc (V := TT 4 (IX 0 xs.length∧TT 3 (IX 1 xs.length∧TT 1 ((True∧(IntKind.wrap .i64 (BitVec.ofInt (IntKind.i64).bits (xs.getD 0 0) &&& BitVec.ofInt (IntKind.i64).bits (xs.getD 1 0)).toNat) = (((xs.getD 0 0).toNat &&& (xs.getD 1 0).toNat : Nat) : Int))∧TT 2 ((((xs.getD 0 0).toNat &&& (xs.getD 1 0).toNat : Nat) : Int) = (ol 3 ws xs k w)∧True))))) (.w 1 [(8,.val (i6 (((xs.getD 0 0).toNat &&& (xs.getD 1 0).toNat : Nat) : Int)))] <| .e) Tryz.func131 rfl rfl rfl (by kernel_rfl) ?_
 refine tt ⟨ix,tt ⟨ix,tt ⟨⟨oK,(DM (by omega) (by omega) (by omega) (by omega))⟩,tt ⟨?_,oK⟩⟩⟩⟩
 rfl
abbrev Nd (ws xs : List Int) (k w : Int) : Ct := ⟨132,(jj ws xs k w),false,(i6 (ol 4 ws xs k w))⟩
theorem LZ (ws xs : List Int) (k w : Int) (ho : DQ ws xs 2) : CC (Nd ws xs k w) := by
 obtain ⟨hl,hf,hx,hin⟩ := ho
 have f0 : 0 < ws.length → 1 ≤ ws.getD 0 0∧ws.getD 0 0 ≤ 8 := fun h => aA hf h
 have f1 : 1 < ws.length → 1 ≤ ws.getD 1 0∧ws.getD 1 0 ≤ 8 := fun h => aA hf h
 have f2 : 2 < ws.length → 1 ≤ ws.getD 2 0∧ws.getD 2 0 ≤ 8 := fun h => aA hf h
 have a0 : 0 < ws.length → 0 ≤ xs.getD 0 0∧xs.getD 0 0 ≤ am (ws.getD 0 0) := fun h => a9 hin (by omega)
 have a1 : 1 < ws.length → 0 ≤ xs.getD 1 0∧xs.getD 1 0 ≤ am (ws.getD 1 0) := fun h => a9 hin (by omega)
 have a2 : 2 < ws.length → 0 ≤ xs.getD 2 0∧xs.getD 2 0 ≤ am (ws.getD 2 0) := fun h => a9 hin (by omega)
 have m0 : 0 < ws.length → 0 ≤ am (ws.getD 0 0)∧am (ws.getD 0 0) ≤ 255 := fun h => ax (by have := f0 h; omega) (f0 h).2
 have m1 : 1 < ws.length → 0 ≤ am (ws.getD 1 0)∧am (ws.getD 1 0) ≤ 255 := fun h => ax (by have := f1 h; omega) (f1 h).2
 have m2 : 2 < ws.length → 0 ≤ am (ws.getD 2 0)∧am (ws.getD 2 0) ≤ 255 := fun h => ax (by have := f2 h; omega) (f2 h).2
 have b0 := f0 (by omega); have c0 := a0 (by omega); have d0 := m0 (by omega)
 have b1 := f1 (by omega); have c1 := a1 (by omega); have d1 := m1 (by omega)
 refine ah.vc (V := TT 4 (IX 0 xs.length∧TT 3 (IX 1 xs.length∧TT 1 ((True∧(IntKind.wrap .i64 (BitVec.ofInt (IntKind.i64).bits (xs.getD 0 0) ||| BitVec.ofInt (IntKind.i64).bits (xs.getD 1 0)).toNat) = (((xs.getD 0 0).toNat ||| (xs.getD 1 0).toNat : Nat) : Int))∧TT 2 ((((xs.getD 0 0).toNat ||| (xs.getD 1 0).toNat : Nat) : Int) = (ol 4 ws xs k w)∧True))))) (.w 1 [(8,.val (i6 (((xs.getD 0 0).toNat ||| (xs.getD 1 0).toNat : Nat) : Int)))] <| .e) Tryz.func132 rfl rfl rfl (by kernel_rfl) ?_
 refine tt ⟨ix,tt ⟨ix,tt ⟨⟨oK,(Fs (by omega) (by omega) (by omega) (by omega))⟩,tt ⟨?_,oK⟩⟩⟩⟩
 rfl
abbrev Nf (ws xs : List Int) (k w : Int) : Ct := ⟨133,(jj ws xs k w),false,(i6 (ol 5 ws xs k w))⟩
theorem J4 (ws xs : List Int) (k w : Int) (ho : DQ ws xs 2) : CC (Nf ws xs k w) := by
 obtain ⟨hl,hf,hx,hin⟩ := ho
 have f0 : 0 < ws.length → 1 ≤ ws.getD 0 0∧ws.getD 0 0 ≤ 8 := fun h => aA hf h
 have f1 : 1 < ws.length → 1 ≤ ws.getD 1 0∧ws.getD 1 0 ≤ 8 := fun h => aA hf h
 have f2 : 2 < ws.length → 1 ≤ ws.getD 2 0∧ws.getD 2 0 ≤ 8 := fun h => aA hf h
 have a0 : 0 < ws.length → 0 ≤ xs.getD 0 0∧xs.getD 0 0 ≤ am (ws.getD 0 0) := fun h => a9 hin (by omega)
 have a1 : 1 < ws.length → 0 ≤ xs.getD 1 0∧xs.getD 1 0 ≤ am (ws.getD 1 0) := fun h => a9 hin (by omega)
 have a2 : 2 < ws.length → 0 ≤ xs.getD 2 0∧xs.getD 2 0 ≤ am (ws.getD 2 0) := fun h => a9 hin (by omega)
 have m0 : 0 < ws.length → 0 ≤ am (ws.getD 0 0)∧am (ws.getD 0 0) ≤ 255 := fun h => ax (by have := f0 h; omega) (f0 h).2
 have m1 : 1 < ws.length → 0 ≤ am (ws.getD 1 0)∧am (ws.getD 1 0) ≤ 255 := fun h => ax (by have := f1 h; omega) (f1 h).2
 have m2 : 2 < ws.length → 0 ≤ am (ws.getD 2 0)∧am (ws.getD 2 0) ≤ 255 := fun h => ax (by have := f2 h; omega) (f2 h).2
 have b0 := f0 (by omega); have c0 := a0 (by omega); have d0 := m0 (by omega)
 have b1 := f1 (by omega); have c1 := a1 (by omega); have d1 := m1 (by omega)
 refine ah.vc (V := TT 4 (IX 0 xs.length∧TT 3 (IX 1 xs.length∧TT 1 ((True∧(IntKind.wrap .i64 (BitVec.ofInt (IntKind.i64).bits (xs.getD 0 0) ^^^ BitVec.ofInt (IntKind.i64).bits (xs.getD 1 0)).toNat) = (((xs.getD 0 0).toNat ^^^ (xs.getD 1 0).toNat : Nat) : Int))∧TT 2 ((((xs.getD 0 0).toNat ^^^ (xs.getD 1 0).toNat : Nat) : Int) = (ol 5 ws xs k w)∧True))))) (.w 1 [(8,.val (i6 (((xs.getD 0 0).toNat ^^^ (xs.getD 1 0).toNat : Nat) : Int)))] <| .e) Tryz.func133 rfl rfl rfl (by kernel_rfl) ?_
 refine tt ⟨ix,tt ⟨ix,tt ⟨⟨oK,(wo (by omega) (by omega) (by omega) (by omega))⟩,tt ⟨?_,oK⟩⟩⟩⟩
 rfl
abbrev Ng (ws xs : List Int) (k w : Int) : Ct := ⟨134,(jj ws xs k w),false,(i6 (ol 6 ws xs k w))⟩
theorem J5 (ws xs : List Int) (k w : Int) (ho : DQ ws xs 2) : CC (Ng ws xs k w) := by
 obtain ⟨hl,hf,hx,hin⟩ := ho
 have f0 : 0 < ws.length → 1 ≤ ws.getD 0 0∧ws.getD 0 0 ≤ 8 := fun h => aA hf h
 have f1 : 1 < ws.length → 1 ≤ ws.getD 1 0∧ws.getD 1 0 ≤ 8 := fun h => aA hf h
 have f2 : 2 < ws.length → 1 ≤ ws.getD 2 0∧ws.getD 2 0 ≤ 8 := fun h => aA hf h
 have a0 : 0 < ws.length → 0 ≤ xs.getD 0 0∧xs.getD 0 0 ≤ am (ws.getD 0 0) := fun h => a9 hin (by omega)
 have a1 : 1 < ws.length → 0 ≤ xs.getD 1 0∧xs.getD 1 0 ≤ am (ws.getD 1 0) := fun h => a9 hin (by omega)
 have a2 : 2 < ws.length → 0 ≤ xs.getD 2 0∧xs.getD 2 0 ≤ am (ws.getD 2 0) := fun h => a9 hin (by omega)
 have m0 : 0 < ws.length → 0 ≤ am (ws.getD 0 0)∧am (ws.getD 0 0) ≤ 255 := fun h => ax (by have := f0 h; omega) (f0 h).2
 have m1 : 1 < ws.length → 0 ≤ am (ws.getD 1 0)∧am (ws.getD 1 0) ≤ 255 := fun h => ax (by have := f1 h; omega) (f1 h).2
 have m2 : 2 < ws.length → 0 ≤ am (ws.getD 2 0)∧am (ws.getD 2 0) ≤ 255 := fun h => ax (by have := f2 h; omega) (f2 h).2
 have b0 := f0 (by omega); have c0 := a0 (by omega); have d0 := m0 (by omega)
 have b1 := f1 (by omega); have c1 := a1 (by omega); have d1 := m1 (by omega)
 refine ah.vc (V := TT 4 (IX 0 xs.length∧TT 3 (IX 1 xs.length∧TT 1 (W6 ((xs.getD 0 0) + (xs.getD 1 0))∧TT 1 (CC (AI ws xs k w)∧(True∧(IntKind.wrap .i64 (BitVec.ofInt (IntKind.i64).bits ((xs.getD 0 0) + (xs.getD 1 0)) &&& BitVec.ofInt (IntKind.i64).bits (am (ws.getD 0 0))).toNat) = ((xs.getD 0 0 + xs.getD 1 0) % 2 ^ (ws.getD 0 0).toNat))∧TT 2 (((xs.getD 0 0 + xs.getD 1 0) % 2 ^ (ws.getD 0 0).toNat) = (ol 6 ws xs k w)∧True)))))) (.w 1 [(8,.val (i6 ((xs.getD 0 0) + (xs.getD 1 0)))),(10,(AI ws xs k w).O),(11,.val (i6 ((xs.getD 0 0 + xs.getD 1 0) % 2 ^ (ws.getD 0 0).toNat)))] <| .e) Tryz.func134 rfl rfl rfl (by kernel_rfl) ?_
 refine tt ⟨ix,tt ⟨ix,tt ⟨w6,tt ⟨(uK ws xs k w om),⟨⟨oK,(by rw [dP (by omega) (by omega)]; exact l9 (by omega))⟩,tt ⟨?_,oK⟩⟩⟩⟩⟩⟩
 rfl
abbrev Nh (ws xs : List Int) (k w : Int) : Ct := ⟨135,(jj ws xs k w),false,(i6 (ol 7 ws xs k w))⟩
theorem J6 (ws xs : List Int) (k w : Int) (ho : DQ ws xs 2) : CC (Nh ws xs k w) := by
 obtain ⟨hl,hf,hx,hin⟩ := ho
 have f0 : 0 < ws.length → 1 ≤ ws.getD 0 0∧ws.getD 0 0 ≤ 8 := fun h => aA hf h
 have f1 : 1 < ws.length → 1 ≤ ws.getD 1 0∧ws.getD 1 0 ≤ 8 := fun h => aA hf h
 have f2 : 2 < ws.length → 1 ≤ ws.getD 2 0∧ws.getD 2 0 ≤ 8 := fun h => aA hf h
 have a0 : 0 < ws.length → 0 ≤ xs.getD 0 0∧xs.getD 0 0 ≤ am (ws.getD 0 0) := fun h => a9 hin (by omega)
 have a1 : 1 < ws.length → 0 ≤ xs.getD 1 0∧xs.getD 1 0 ≤ am (ws.getD 1 0) := fun h => a9 hin (by omega)
 have a2 : 2 < ws.length → 0 ≤ xs.getD 2 0∧xs.getD 2 0 ≤ am (ws.getD 2 0) := fun h => a9 hin (by omega)
 have m0 : 0 < ws.length → 0 ≤ am (ws.getD 0 0)∧am (ws.getD 0 0) ≤ 255 := fun h => ax (by have := f0 h; omega) (f0 h).2
 have m1 : 1 < ws.length → 0 ≤ am (ws.getD 1 0)∧am (ws.getD 1 0) ≤ 255 := fun h => ax (by have := f1 h; omega) (f1 h).2
 have m2 : 2 < ws.length → 0 ≤ am (ws.getD 2 0)∧am (ws.getD 2 0) ≤ 255 := fun h => ax (by have := f2 h; omega) (f2 h).2
 have b0 := f0 (by omega); have c0 := a0 (by omega); have d0 := m0 (by omega)
 have b1 := f1 (by omega); have c1 := a1 (by omega); have d1 := m1 (by omega)
 refine ah.vc (V := TT 4 (IX 0 xs.length∧TT 3 (IX 1 xs.length∧TT 1 (W6 ((xs.getD 0 0) - (xs.getD 1 0))∧TT 1 (CC (AI ws xs k w)∧(True∧(IntKind.wrap .i64 (BitVec.ofInt (IntKind.i64).bits ((xs.getD 0 0) - (xs.getD 1 0)) &&& BitVec.ofInt (IntKind.i64).bits (am (ws.getD 0 0))).toNat) = ((xs.getD 0 0 - xs.getD 1 0) % 2 ^ (ws.getD 0 0).toNat))∧TT 2 (((xs.getD 0 0 - xs.getD 1 0) % 2 ^ (ws.getD 0 0).toNat) = (ol 7 ws xs k w)∧True)))))) (.w 1 [(8,.val (i6 ((xs.getD 0 0) - (xs.getD 1 0)))),(10,(AI ws xs k w).O),(11,.val (i6 ((xs.getD 0 0 - xs.getD 1 0) % 2 ^ (ws.getD 0 0).toNat)))] <| .e) Tryz.func135 rfl rfl rfl (by kernel_rfl) ?_
 refine tt ⟨ix,tt ⟨ix,tt ⟨w6,tt ⟨(uK ws xs k w om),⟨⟨oK,(by rw [dP (by omega) (by omega)]; exact l9 (by omega))⟩,tt ⟨?_,oK⟩⟩⟩⟩⟩⟩
 rfl
abbrev Ni (ws xs : List Int) (k w : Int) : Ct := ⟨137,(jj ws xs k w),false,(i6 (ol 8 ws xs k w))⟩
theorem L0 (ws xs : List Int) (k w : Int) (ho : DQ ws xs 2) : CC (Ni ws xs k w) := by
 obtain ⟨hl,hf,hx,hin⟩ := ho
 have f0 : 0 < ws.length → 1 ≤ ws.getD 0 0∧ws.getD 0 0 ≤ 8 := fun h => aA hf h
 have f1 : 1 < ws.length → 1 ≤ ws.getD 1 0∧ws.getD 1 0 ≤ 8 := fun h => aA hf h
 have f2 : 2 < ws.length → 1 ≤ ws.getD 2 0∧ws.getD 2 0 ≤ 8 := fun h => aA hf h
 have a0 : 0 < ws.length → 0 ≤ xs.getD 0 0∧xs.getD 0 0 ≤ am (ws.getD 0 0) := fun h => a9 hin (by omega)
 have a1 : 1 < ws.length → 0 ≤ xs.getD 1 0∧xs.getD 1 0 ≤ am (ws.getD 1 0) := fun h => a9 hin (by omega)
 have a2 : 2 < ws.length → 0 ≤ xs.getD 2 0∧xs.getD 2 0 ≤ am (ws.getD 2 0) := fun h => a9 hin (by omega)
 have m0 : 0 < ws.length → 0 ≤ am (ws.getD 0 0)∧am (ws.getD 0 0) ≤ 255 := fun h => ax (by have := f0 h; omega) (f0 h).2
 have m1 : 1 < ws.length → 0 ≤ am (ws.getD 1 0)∧am (ws.getD 1 0) ≤ 255 := fun h => ax (by have := f1 h; omega) (f1 h).2
 have m2 : 2 < ws.length → 0 ≤ am (ws.getD 2 0)∧am (ws.getD 2 0) ≤ 255 := fun h => ax (by have := f2 h; omega) (f2 h).2
 have b0 := f0 (by omega); have c0 := a0 (by omega); have d0 := m0 (by omega)
 have b1 := f1 (by omega); have c1 := a1 (by omega); have d1 := m1 (by omega)
 refine ah.vc (V := TT 4 (IX 0 xs.length∧TT 3 (IX 1 xs.length∧TT 2 (CC (Fv ((xs.getD 0 0) == (xs.getD 1 0)))∧TT 2 ((if ((xs.getD 0 0) == (xs.getD 1 0)) = true then 1 else 0) = (ol 8 ws xs k w)∧True))))) (.w 1 [(9,(Fv ((xs.getD 0 0) == (xs.getD 1 0))).O)] <| .e) Tryz.func137 rfl rfl rfl (by kernel_rfl) ?_
 refine tt ⟨ix,tt ⟨ix,tt ⟨(Fw ((xs.getD 0 0) == (xs.getD 1 0))),tt ⟨?_,oK⟩⟩⟩⟩
 show _ = (if xs.getD 0 0 = xs.getD 1 0 then (1 : Int) else 0)
 by_cases h : xs.getD 0 0 = xs.getD 1 0
 · rw [if_pos h,if_pos (by simpa using h)]
 · rw [if_neg h,if_neg (by simpa using h)]
abbrev Nj (ws xs : List Int) (k w : Int) : Ct := ⟨139,(jj ws xs k w),false,(i6 (ol 9 ws xs k w))⟩
theorem L1 (ws xs : List Int) (k w : Int) (ho : DQ ws xs 2) : CC (Nj ws xs k w) := by
 obtain ⟨hl,hf,hx,hin⟩ := ho
 have f0 : 0 < ws.length → 1 ≤ ws.getD 0 0∧ws.getD 0 0 ≤ 8 := fun h => aA hf h
 have f1 : 1 < ws.length → 1 ≤ ws.getD 1 0∧ws.getD 1 0 ≤ 8 := fun h => aA hf h
 have f2 : 2 < ws.length → 1 ≤ ws.getD 2 0∧ws.getD 2 0 ≤ 8 := fun h => aA hf h
 have a0 : 0 < ws.length → 0 ≤ xs.getD 0 0∧xs.getD 0 0 ≤ am (ws.getD 0 0) := fun h => a9 hin (by omega)
 have a1 : 1 < ws.length → 0 ≤ xs.getD 1 0∧xs.getD 1 0 ≤ am (ws.getD 1 0) := fun h => a9 hin (by omega)
 have a2 : 2 < ws.length → 0 ≤ xs.getD 2 0∧xs.getD 2 0 ≤ am (ws.getD 2 0) := fun h => a9 hin (by omega)
 have m0 : 0 < ws.length → 0 ≤ am (ws.getD 0 0)∧am (ws.getD 0 0) ≤ 255 := fun h => ax (by have := f0 h; omega) (f0 h).2
 have m1 : 1 < ws.length → 0 ≤ am (ws.getD 1 0)∧am (ws.getD 1 0) ≤ 255 := fun h => ax (by have := f1 h; omega) (f1 h).2
 have m2 : 2 < ws.length → 0 ≤ am (ws.getD 2 0)∧am (ws.getD 2 0) ≤ 255 := fun h => ax (by have := f2 h; omega) (f2 h).2
 have b0 := f0 (by omega); have c0 := a0 (by omega); have d0 := m0 (by omega)
 have b1 := f1 (by omega); have c1 := a1 (by omega); have d1 := m1 (by omega)
 refine ah.vc (V := TT 4 (IX 0 xs.length∧TT 3 (IX 1 xs.length∧TT 2 (CC (Fv (decide ((xs.getD 0 0) < (xs.getD 1 0))))∧TT 2 ((if (decide ((xs.getD 0 0) < (xs.getD 1 0))) = true then 1 else 0) = (ol 9 ws xs k w)∧True))))) (.w 1 [(9,(Fv (decide ((xs.getD 0 0) < (xs.getD 1 0)))).O)] <| .e) Tryz.func139 rfl rfl rfl (by kernel_rfl) ?_
 refine tt ⟨ix,tt ⟨ix,tt ⟨(Fw (decide ((xs.getD 0 0) < (xs.getD 1 0)))),tt ⟨?_,oK⟩⟩⟩⟩
 show _ = (if xs.getD 0 0 < xs.getD 1 0 then (1 : Int) else 0)
 by_cases h : xs.getD 0 0 < xs.getD 1 0
 · rw [if_pos h,if_pos (by simpa using h)]
 · rw [if_neg h,if_neg (by simpa using h)]
abbrev Nk (ws xs : List Int) (k w : Int) : Ct := ⟨141,(jj ws xs k w),false,(i6 (ol 1 ws xs k w))⟩
theorem FC (ws xs : List Int) (k w : Int) (ho : DQ ws xs 0) : CC (Nk ws xs k w) := by
 obtain ⟨hl,hf,hx,hin⟩ := ho
 have f0 : 0 < ws.length → 1 ≤ ws.getD 0 0∧ws.getD 0 0 ≤ 8 := fun h => aA hf h
 have f1 : 1 < ws.length → 1 ≤ ws.getD 1 0∧ws.getD 1 0 ≤ 8 := fun h => aA hf h
 have f2 : 2 < ws.length → 1 ≤ ws.getD 2 0∧ws.getD 2 0 ≤ 8 := fun h => aA hf h
 have a0 : 0 < ws.length → 0 ≤ xs.getD 0 0∧xs.getD 0 0 ≤ am (ws.getD 0 0) := fun h => a9 hin (by omega)
 have a1 : 1 < ws.length → 0 ≤ xs.getD 1 0∧xs.getD 1 0 ≤ am (ws.getD 1 0) := fun h => a9 hin (by omega)
 have a2 : 2 < ws.length → 0 ≤ xs.getD 2 0∧xs.getD 2 0 ≤ am (ws.getD 2 0) := fun h => a9 hin (by omega)
 have m0 : 0 < ws.length → 0 ≤ am (ws.getD 0 0)∧am (ws.getD 0 0) ≤ 255 := fun h => ax (by have := f0 h; omega) (f0 h).2
 have m1 : 1 < ws.length → 0 ≤ am (ws.getD 1 0)∧am (ws.getD 1 0) ≤ 255 := fun h => ax (by have := f1 h; omega) (f1 h).2
 have m2 : 2 < ws.length → 0 ≤ am (ws.getD 2 0)∧am (ws.getD 2 0) ≤ 255 := fun h => ax (by have := f2 h; omega) (f2 h).2
 refine ah.vc (V := TT 6 (k = (ol 1 ws xs k w)∧True)) (.e) Tryz.func141 rfl rfl rfl (by kernel_rfl) ?_
 refine tt ⟨?_,oK⟩
 rfl
abbrev Nl (ws xs : List Int) (k w : Int) : Ct := ⟨149,(jj ws xs k w),false,(i6 (ol 13 ws xs k w))⟩
theorem J7 (ws xs : List Int) (k w : Int) (ho : DQ ws xs 1) : CC (Nl ws xs k w) := by
 obtain ⟨hl,hf,hx,hin⟩ := ho
 have f0 : 0 < ws.length → 1 ≤ ws.getD 0 0∧ws.getD 0 0 ≤ 8 := fun h => aA hf h
 have f1 : 1 < ws.length → 1 ≤ ws.getD 1 0∧ws.getD 1 0 ≤ 8 := fun h => aA hf h
 have f2 : 2 < ws.length → 1 ≤ ws.getD 2 0∧ws.getD 2 0 ≤ 8 := fun h => aA hf h
 have a0 : 0 < ws.length → 0 ≤ xs.getD 0 0∧xs.getD 0 0 ≤ am (ws.getD 0 0) := fun h => a9 hin (by omega)
 have a1 : 1 < ws.length → 0 ≤ xs.getD 1 0∧xs.getD 1 0 ≤ am (ws.getD 1 0) := fun h => a9 hin (by omega)
 have a2 : 2 < ws.length → 0 ≤ xs.getD 2 0∧xs.getD 2 0 ≤ am (ws.getD 2 0) := fun h => a9 hin (by omega)
 have m0 : 0 < ws.length → 0 ≤ am (ws.getD 0 0)∧am (ws.getD 0 0) ≤ 255 := fun h => ax (by have := f0 h; omega) (f0 h).2
 have m1 : 1 < ws.length → 0 ≤ am (ws.getD 1 0)∧am (ws.getD 1 0) ≤ 255 := fun h => ax (by have := f1 h; omega) (f1 h).2
 have m2 : 2 < ws.length → 0 ≤ am (ws.getD 2 0)∧am (ws.getD 2 0) ≤ 255 := fun h => ax (by have := f2 h; omega) (f2 h).2
 have b0 := f0 (by omega); have c0 := a0 (by omega); have d0 := m0 (by omega)
 refine ah.vc (V := TT 4 (IX 0 xs.length∧TT 3 ((xs.getD 0 0) = (ol 13 ws xs k w)∧True))) (.e) Tryz.func149 rfl rfl rfl (by kernel_rfl) ?_
 refine tt ⟨ix,tt ⟨?_,oK⟩⟩
 rfl
abbrev Nn (ws xs : List Int) (k w : Int) : Ct := ⟨143,(jj ws xs k w),false,(i6 (ol 10 ws xs k w))⟩
theorem J8 (ws xs : List Int) (k w : Int) (ho : DQ ws xs 3) (h1 : ws.getD 0 0 = 1) : CC (Nn ws xs k w) := by
 obtain ⟨hl,hf,hx,hin⟩ := ho
 have f0 : 0 < ws.length → 1 ≤ ws.getD 0 0∧ws.getD 0 0 ≤ 8 := fun h => aA hf h
 have f1 : 1 < ws.length → 1 ≤ ws.getD 1 0∧ws.getD 1 0 ≤ 8 := fun h => aA hf h
 have f2 : 2 < ws.length → 1 ≤ ws.getD 2 0∧ws.getD 2 0 ≤ 8 := fun h => aA hf h
 have a0 : 0 < ws.length → 0 ≤ xs.getD 0 0∧xs.getD 0 0 ≤ am (ws.getD 0 0) := fun h => a9 hin (by omega)
 have a1 : 1 < ws.length → 0 ≤ xs.getD 1 0∧xs.getD 1 0 ≤ am (ws.getD 1 0) := fun h => a9 hin (by omega)
 have a2 : 2 < ws.length → 0 ≤ xs.getD 2 0∧xs.getD 2 0 ≤ am (ws.getD 2 0) := fun h => a9 hin (by omega)
 have m0 : 0 < ws.length → 0 ≤ am (ws.getD 0 0)∧am (ws.getD 0 0) ≤ 255 := fun h => ax (by have := f0 h; omega) (f0 h).2
 have m1 : 1 < ws.length → 0 ≤ am (ws.getD 1 0)∧am (ws.getD 1 0) ≤ 255 := fun h => ax (by have := f1 h; omega) (f1 h).2
 have m2 : 2 < ws.length → 0 ≤ am (ws.getD 2 0)∧am (ws.getD 2 0) ≤ 255 := fun h => ax (by have := f2 h; omega) (f2 h).2
 have b0 := f0 (by omega); have c0 := a0 (by omega); have d0 := m0 (by omega)
 have b1 := f1 (by omega); have c1 := a1 (by omega); have d1 := m1 (by omega)
 have b2 := f2 (by omega); have c2 := a2 (by omega); have d2 := m2 (by omega)
 have hm1 : am (ws.getD 0 0) = 1 := by rw [h1]; decide
 have hx0 : xs.getD 0 0 = 0 ∨ xs.getD 0 0 = 1 := by omega
 refine ah.vc (V := TT 6 (IX 0 xs.length∧TT 1 (W6 (2 - (xs.getD 0 0))∧IX (2 - (xs.getD 0 0)) xs.length∧TT 3 ((xs.getD ((2 - (xs.getD 0 0)).toNat) 0) = (ol 10 ws xs k w)∧True)))) (.w 1 [(6,.val (i6 (2 - (xs.getD 0 0))))] <| .e) Tryz.func143 rfl rfl rfl (by kernel_rfl) ?_
 refine tt ⟨ix,tt ⟨w6,⟨ix,tt ⟨?_,oK⟩⟩⟩⟩
 rfl
abbrev No (ws xs : List Int) (k w : Int) : Ct := ⟨145,(jj ws xs k w),false,(i6 (ol 11 ws xs k w))⟩
theorem J9 (ws xs : List Int) (k w : Int) (ho : DQ ws xs 2) : CC (No ws xs k w) := by
 obtain ⟨hl,hf,hx,hin⟩ := ho
 have f0 : 0 < ws.length → 1 ≤ ws.getD 0 0∧ws.getD 0 0 ≤ 8 := fun h => aA hf h
 have f1 : 1 < ws.length → 1 ≤ ws.getD 1 0∧ws.getD 1 0 ≤ 8 := fun h => aA hf h
 have f2 : 2 < ws.length → 1 ≤ ws.getD 2 0∧ws.getD 2 0 ≤ 8 := fun h => aA hf h
 have a0 : 0 < ws.length → 0 ≤ xs.getD 0 0∧xs.getD 0 0 ≤ am (ws.getD 0 0) := fun h => a9 hin (by omega)
 have a1 : 1 < ws.length → 0 ≤ xs.getD 1 0∧xs.getD 1 0 ≤ am (ws.getD 1 0) := fun h => a9 hin (by omega)
 have a2 : 2 < ws.length → 0 ≤ xs.getD 2 0∧xs.getD 2 0 ≤ am (ws.getD 2 0) := fun h => a9 hin (by omega)
 have m0 : 0 < ws.length → 0 ≤ am (ws.getD 0 0)∧am (ws.getD 0 0) ≤ 255 := fun h => ax (by have := f0 h; omega) (f0 h).2
 have m1 : 1 < ws.length → 0 ≤ am (ws.getD 1 0)∧am (ws.getD 1 0) ≤ 255 := fun h => ax (by have := f1 h; omega) (f1 h).2
 have m2 : 2 < ws.length → 0 ≤ am (ws.getD 2 0)∧am (ws.getD 2 0) ≤ 255 := fun h => ax (by have := f2 h; omega) (f2 h).2
 have b0 := f0 (by omega); have c0 := a0 (by omega); have d0 := m0 (by omega)
 have b1 := f1 (by omega); have c1 := a1 (by omega); have d1 := m1 (by omega)
 refine ah.vc (V := TT 4 (IX 0 xs.length∧TT 3 (IX 1 ws.length∧TT 1 ((0 ≤ (ws.getD 1 0)∧(IntKind.wrap .i64 ((xs.getD 0 0) * 2 ^ min ((ws.getD 1 0).toNat) 64)) = (((xs.getD 0 0).toNat * 2 ^ (ws.getD 1 0).toNat : Nat) : Int))∧TT 2 (IX 1 xs.length∧TT 1 ((True∧(IntKind.wrap .i64 (BitVec.ofInt (IntKind.i64).bits (((xs.getD 0 0).toNat * 2 ^ (ws.getD 1 0).toNat : Nat) : Int) ||| BitVec.ofInt (IntKind.i64).bits (xs.getD 1 0)).toNat) = (((xs.getD 0 0).toNat * 2 ^ (ws.getD 1 0).toNat ||| (xs.getD 1 0).toNat : Nat) : Int))∧TT 2 ((((xs.getD 0 0).toNat * 2 ^ (ws.getD 1 0).toNat ||| (xs.getD 1 0).toNat : Nat) : Int) = (ol 11 ws xs k w)∧True))))))) (.w 1 [(8,.val (i6 (((xs.getD 0 0).toNat * 2 ^ (ws.getD 1 0).toNat : Nat) : Int))),(13,.val (i6 (((xs.getD 0 0).toNat * 2 ^ (ws.getD 1 0).toNat ||| (xs.getD 1 0).toNat : Nat) : Int)))] <| .e) Tryz.func145 rfl rfl rfl (by kernel_rfl) ?_
 refine tt ⟨ix,tt ⟨ix,tt ⟨⟨om,(HZ (by omega) (by omega))⟩,tt ⟨ix,tt ⟨⟨oK,(H0 (by omega) (by omega) (by omega))⟩,tt ⟨?_,oK⟩⟩⟩⟩⟩⟩
 rfl
abbrev Np (ws xs : List Int) (k w : Int) : Ct := ⟨147,(jj ws xs k w),false,(i6 (ol 12 ws xs k w))⟩
theorem FD (ws xs : List Int) (k w : Int) (ho : DQ ws xs 1) (hk : 0 ≤ k∧k ≤ 8∧av w = true) : CC (Np ws xs k w) := by
 obtain ⟨hl,hf,hx,hin⟩ := ho
 have f0 : 0 < ws.length → 1 ≤ ws.getD 0 0∧ws.getD 0 0 ≤ 8 := fun h => aA hf h
 have f1 : 1 < ws.length → 1 ≤ ws.getD 1 0∧ws.getD 1 0 ≤ 8 := fun h => aA hf h
 have f2 : 2 < ws.length → 1 ≤ ws.getD 2 0∧ws.getD 2 0 ≤ 8 := fun h => aA hf h
 have a0 : 0 < ws.length → 0 ≤ xs.getD 0 0∧xs.getD 0 0 ≤ am (ws.getD 0 0) := fun h => a9 hin (by omega)
 have a1 : 1 < ws.length → 0 ≤ xs.getD 1 0∧xs.getD 1 0 ≤ am (ws.getD 1 0) := fun h => a9 hin (by omega)
 have a2 : 2 < ws.length → 0 ≤ xs.getD 2 0∧xs.getD 2 0 ≤ am (ws.getD 2 0) := fun h => a9 hin (by omega)
 have m0 : 0 < ws.length → 0 ≤ am (ws.getD 0 0)∧am (ws.getD 0 0) ≤ 255 := fun h => ax (by have := f0 h; omega) (f0 h).2
 have m1 : 1 < ws.length → 0 ≤ am (ws.getD 1 0)∧am (ws.getD 1 0) ≤ 255 := fun h => ax (by have := f1 h; omega) (f1 h).2
 have m2 : 2 < ws.length → 0 ≤ am (ws.getD 2 0)∧am (ws.getD 2 0) ≤ 255 := fun h => ax (by have := f2 h; omega) (f2 h).2
 have b0 := f0 (by omega); have c0 := a0 (by omega); have d0 := m0 (by omega)
 have hw := bo.1 hk.2.2
 refine ah.vc (V := TT 4 (IX 0 xs.length∧TT 3 ((0 ≤ k∧(Int.fdiv (xs.getD 0 0) (2 ^ min k.toNat 64)) = (xs.getD 0 0 / 2 ^ k.toNat))∧TT 2 (CC (xB w)∧(True∧(IntKind.wrap .i64 (BitVec.ofInt (IntKind.i64).bits (xs.getD 0 0 / 2 ^ k.toNat) &&& BitVec.ofInt (IntKind.i64).bits (am w)).toNat) = ((xs.getD 0 0 / 2 ^ k.toNat) % 2 ^ w.toNat))∧TT 2 (((xs.getD 0 0 / 2 ^ k.toNat) % 2 ^ w.toNat) = (ol 12 ws xs k w)∧True))))) (.w 1 [(6,.val (i6 (xs.getD 0 0 / 2 ^ k.toNat))),(9,(xB w).O),(10,.val (i6 ((xs.getD 0 0 / 2 ^ k.toNat) % 2 ^ w.toNat)))] <| .e) Tryz.func147 rfl rfl rfl (by kernel_rfl) ?_
 refine tt ⟨ix,tt ⟨⟨om,(H2 hk.1 (by omega))⟩,tt ⟨(tu w),⟨⟨oK,(by rw [dP (by omega) (by omega)]; exact l9 (by omega))⟩,tt ⟨?_,oK⟩⟩⟩⟩⟩
 rfl
end Go.Proofs.YtckgpflobhpnpaaGreat
