/-
  Package bits: the values of operations.
-/
import Derived.Test.YtgmpoenfoacofaaGreatQVbA
namespace Go.Proofs.YtgmpoenfoacofaaGreat
open Go.RowKit
set_option linter.unusedVariables false
set_option linter.unusedSimpArgs false
abbrev jh (ws xs : List Int) (k w : Int) : List D := [(.agg [(LI ws),(LI xs),(i6 k),(i6 w)])]
set_option maxRecDepth 100000
structure Eu (ws xs : List Int) (n : Nat) : Prop where
  hl : ws.length = n
  hf : ws.all ao = true
  hx : xs.length = ws.length
  hin : zV ws xs = true
abbrev Bt (ws xs : List Int) (k w : Int) : Ct := ⟨129,(jh ws xs k w),false,(i6 (ah (ws.getD 0 0)))⟩
theorem uS (ws xs : List Int) (k w : Int) (hl : 0 < ws.length) : CC (Bt ws xs k w) := by
 refine af.vc (V := TT 4 (IX 0 ws.length∧TT 1 (CC (yk (ws.getD 0 0))∧TT 2 ((ah (ws.getD 0 0)) = (ah (ws.getD 0 0))∧True)))) (.w 1 [(4,(yk (ws.getD 0 0)).O)] <| .e) Tryz.func129 rfl rfl rfl (by kernel_rfl) ?_
 exact tt ⟨ix,tt ⟨(tr (ws.getD 0 0)),tt ⟨rfl,oK⟩⟩⟩
abbrev MO (ws xs : List Int) (k w : Int) : Ct := ⟨128,(jh ws xs k w),false,(i6 (iJ 2 ws xs k w))⟩
theorem J2 (ws xs : List Int) (k w : Int) (ho : Eu ws xs 1) : CC (MO ws xs k w) := by
 obtain ⟨hl,hf,hx,hin⟩ := ho
 have f0 : 0 < ws.length → 1 ≤ ws.getD 0 0∧ws.getD 0 0 ≤ 8 := fun h => az hf h
 have f1 : 1 < ws.length → 1 ≤ ws.getD 1 0∧ws.getD 1 0 ≤ 8 := fun h => az hf h
 have f2 : 2 < ws.length → 1 ≤ ws.getD 2 0∧ws.getD 2 0 ≤ 8 := fun h => az hf h
 have a0 : 0 < ws.length → 0 ≤ xs.getD 0 0∧xs.getD 0 0 ≤ ah (ws.getD 0 0) := fun h => a7 hin (by omega)
 have a1 : 1 < ws.length → 0 ≤ xs.getD 1 0∧xs.getD 1 0 ≤ ah (ws.getD 1 0) := fun h => a7 hin (by omega)
 have a2 : 2 < ws.length → 0 ≤ xs.getD 2 0∧xs.getD 2 0 ≤ ah (ws.getD 2 0) := fun h => a7 hin (by omega)
 have m0 : 0 < ws.length → 0 ≤ ah (ws.getD 0 0)∧ah (ws.getD 0 0) ≤ 255 := fun h => au (by have := f0 h; omega) (f0 h).2
 have m1 : 1 < ws.length → 0 ≤ ah (ws.getD 1 0)∧ah (ws.getD 1 0) ≤ 255 := fun h => au (by have := f1 h; omega) (f1 h).2
 have m2 : 2 < ws.length → 0 ≤ ah (ws.getD 2 0)∧ah (ws.getD 2 0) ≤ 255 := fun h => au (by have := f2 h; omega) (f2 h).2
 have b0 := f0 (by omega); have c0 := a0 (by omega); have d0 := m0 (by omega)
 refine af.vc (V := TT 4 (IX 0 xs.length∧TT 2 (CC (Bt ws xs k w)∧(True∧(IntKind.wrap .i64 (BitVec.ofInt (IntKind.i64).bits (xs.getD 0 0) ^^^ BitVec.ofInt (IntKind.i64).bits (ah (ws.getD 0 0))).toNat) = (((xs.getD 0 0).toNat ^^^ (ah (ws.getD 0 0)).toNat : Nat) : Int))∧TT 2 ((((xs.getD 0 0).toNat ^^^ (ah (ws.getD 0 0)).toNat : Nat) : Int) = (iJ 2 ws xs k w)∧True)))) (.w 1 [(5,(Bt ws xs k w).O),(6,.val (i6 (((xs.getD 0 0).toNat ^^^ (ah (ws.getD 0 0)).toNat : Nat) : Int)))] <| .e) Tryz.func128 rfl rfl rfl (by kernel_rfl) ?_
 refine tt ⟨ix,tt ⟨(uS ws xs k w om),⟨⟨oK,(rI (by omega) (by omega) (by omega) (by omega))⟩,tt ⟨?_,oK⟩⟩⟩⟩
 rfl
abbrev MP (ws xs : List Int) (k w : Int) : Ct := ⟨131,(jh ws xs k w),false,(i6 (iJ 3 ws xs k w))⟩
theorem J3 (ws xs : List Int) (k w : Int) (ho : Eu ws xs 2) : CC (MP ws xs k w) := by
 obtain ⟨hl,hf,hx,hin⟩ := ho
 have f0 : 0 < ws.length → 1 ≤ ws.getD 0 0∧ws.getD 0 0 ≤ 8 := fun h => az hf h
 have f1 : 1 < ws.length → 1 ≤ ws.getD 1 0∧ws.getD 1 0 ≤ 8 := fun h => az hf h
 have f2 : 2 < ws.length → 1 ≤ ws.getD 2 0∧ws.getD 2 0 ≤ 8 := fun h => az hf h
 have a0 : 0 < ws.length → 0 ≤ xs.getD 0 0∧xs.getD 0 0 ≤ ah (ws.getD 0 0) := fun h => a7 hin (by omega)
 have a1 : 1 < ws.length → 0 ≤ xs.getD 1 0∧xs.getD 1 0 ≤ ah (ws.getD 1 0) := fun h => a7 hin (by omega)
 have a2 : 2 < ws.length → 0 ≤ xs.getD 2 0∧xs.getD 2 0 ≤ ah (ws.getD 2 0) := fun h => a7 hin (by omega)
 have m0 : 0 < ws.length → 0 ≤ ah (ws.getD 0 0)∧ah (ws.getD 0 0) ≤ 255 := fun h => au (by have := f0 h; omega) (f0 h).2
 have m1 : 1 < ws.length → 0 ≤ ah (ws.getD 1 0)∧ah (ws.getD 1 0) ≤ 255 := fun h => au (by have := f1 h; omega) (f1 h).2
 have m2 : 2 < ws.length → 0 ≤ ah (ws.getD 2 0)∧ah (ws.getD 2 0) ≤ 255 := fun h => au (by have := f2 h; omega) (f2 h).2
 have b0 := f0 (by omega); have c0 := a0 (by omega); have d0 := m0 (by omega)
 have b1 := f1 (by omega); have c1 := a1 (by omega); have d1 := m1 (by omega)
 refine af.vc (V := TT 4 (IX 0 xs.length∧TT 3 (IX 1 xs.length∧TT 1 ((True∧(IntKind.wrap .i64 (BitVec.ofInt (IntKind.i64).bits (xs.getD 0 0) &&& BitVec.ofInt (IntKind.i64).bits (xs.getD 1 0)).toNat) = (((xs.getD 0 0).toNat &&& (xs.getD 1 0).toNat : Nat) : Int))∧TT 2 ((((xs.getD 0 0).toNat &&& (xs.getD 1 0).toNat : Nat) : Int) = (iJ 3 ws xs k w)∧True))))) (.w 1 [(8,.val (i6 (((xs.getD 0 0).toNat &&& (xs.getD 1 0).toNat : Nat) : Int)))] <| .e) Tryz.func131 rfl rfl rfl (by kernel_rfl) ?_
 refine tt ⟨ix,tt ⟨ix,tt ⟨⟨oK,(w5 (by omega) (by omega) (by omega) (by omega))⟩,tt ⟨?_,oK⟩⟩⟩⟩
 rfl
abbrev MQ (ws xs : List Int) (k w : Int) : Ct := ⟨132,(jh ws xs k w),false,(i6 (iJ 4 ws xs k w))⟩
theorem LA (ws xs : List Int) (k w : Int) (ho : Eu ws xs 2) : CC (MQ ws xs k w) := by
 obtain ⟨hl,hf,hx,hin⟩ := ho
 have f0 : 0 < ws.length → 1 ≤ ws.getD 0 0∧ws.getD 0 0 ≤ 8 := fun h => az hf h
 have f1 : 1 < ws.length → 1 ≤ ws.getD 1 0∧ws.getD 1 0 ≤ 8 := fun h => az hf h
 have f2 : 2 < ws.length → 1 ≤ ws.getD 2 0∧ws.getD 2 0 ≤ 8 := fun h => az hf h
 have a0 : 0 < ws.length → 0 ≤ xs.getD 0 0∧xs.getD 0 0 ≤ ah (ws.getD 0 0) := fun h => a7 hin (by omega)
 have a1 : 1 < ws.length → 0 ≤ xs.getD 1 0∧xs.getD 1 0 ≤ ah (ws.getD 1 0) := fun h => a7 hin (by omega)
 have a2 : 2 < ws.length → 0 ≤ xs.getD 2 0∧xs.getD 2 0 ≤ ah (ws.getD 2 0) := fun h => a7 hin (by omega)
 have m0 : 0 < ws.length → 0 ≤ ah (ws.getD 0 0)∧ah (ws.getD 0 0) ≤ 255 := fun h => au (by have := f0 h; omega) (f0 h).2
 have m1 : 1 < ws.length → 0 ≤ ah (ws.getD 1 0)∧ah (ws.getD 1 0) ≤ 255 := fun h => au (by have := f1 h; omega) (f1 h).2
 have m2 : 2 < ws.length → 0 ≤ ah (ws.getD 2 0)∧ah (ws.getD 2 0) ≤ 255 := fun h => au (by have := f2 h; omega) (f2 h).2
 have b0 := f0 (by omega); have c0 := a0 (by omega); have d0 := m0 (by omega)
 have b1 := f1 (by omega); have c1 := a1 (by omega); have d1 := m1 (by omega)
 refine af.vc (V := TT 4 (IX 0 xs.length∧TT 3 (IX 1 xs.length∧TT 1 ((True∧(IntKind.wrap .i64 (BitVec.ofInt (IntKind.i64).bits (xs.getD 0 0) ||| BitVec.ofInt (IntKind.i64).bits (xs.getD 1 0)).toNat) = (((xs.getD 0 0).toNat ||| (xs.getD 1 0).toNat : Nat) : Int))∧TT 2 ((((xs.getD 0 0).toNat ||| (xs.getD 1 0).toNat : Nat) : Int) = (iJ 4 ws xs k w)∧True))))) (.w 1 [(8,.val (i6 (((xs.getD 0 0).toNat ||| (xs.getD 1 0).toNat : Nat) : Int)))] <| .e) Tryz.func132 rfl rfl rfl (by kernel_rfl) ?_
 refine tt ⟨ix,tt ⟨ix,tt ⟨⟨oK,(zW (by omega) (by omega) (by omega) (by omega))⟩,tt ⟨?_,oK⟩⟩⟩⟩
 rfl
abbrev MR (ws xs : List Int) (k w : Int) : Ct := ⟨133,(jh ws xs k w),false,(i6 (iJ 5 ws xs k w))⟩
theorem J4 (ws xs : List Int) (k w : Int) (ho : Eu ws xs 2) : CC (MR ws xs k w) := by
 obtain ⟨hl,hf,hx,hin⟩ := ho
 have f0 : 0 < ws.length → 1 ≤ ws.getD 0 0∧ws.getD 0 0 ≤ 8 := fun h => az hf h
 have f1 : 1 < ws.length → 1 ≤ ws.getD 1 0∧ws.getD 1 0 ≤ 8 := fun h => az hf h
 have f2 : 2 < ws.length → 1 ≤ ws.getD 2 0∧ws.getD 2 0 ≤ 8 := fun h => az hf h
 have a0 : 0 < ws.length → 0 ≤ xs.getD 0 0∧xs.getD 0 0 ≤ ah (ws.getD 0 0) := fun h => a7 hin (by omega)
 have a1 : 1 < ws.length → 0 ≤ xs.getD 1 0∧xs.getD 1 0 ≤ ah (ws.getD 1 0) := fun h => a7 hin (by omega)
 have a2 : 2 < ws.length → 0 ≤ xs.getD 2 0∧xs.getD 2 0 ≤ ah (ws.getD 2 0) := fun h => a7 hin (by omega)
 have m0 : 0 < ws.length → 0 ≤ ah (ws.getD 0 0)∧ah (ws.getD 0 0) ≤ 255 := fun h => au (by have := f0 h; omega) (f0 h).2
 have m1 : 1 < ws.length → 0 ≤ ah (ws.getD 1 0)∧ah (ws.getD 1 0) ≤ 255 := fun h => au (by have := f1 h; omega) (f1 h).2
 have m2 : 2 < ws.length → 0 ≤ ah (ws.getD 2 0)∧ah (ws.getD 2 0) ≤ 255 := fun h => au (by have := f2 h; omega) (f2 h).2
 have b0 := f0 (by omega); have c0 := a0 (by omega); have d0 := m0 (by omega)
 have b1 := f1 (by omega); have c1 := a1 (by omega); have d1 := m1 (by omega)
 refine af.vc (V := TT 4 (IX 0 xs.length∧TT 3 (IX 1 xs.length∧TT 1 ((True∧(IntKind.wrap .i64 (BitVec.ofInt (IntKind.i64).bits (xs.getD 0 0) ^^^ BitVec.ofInt (IntKind.i64).bits (xs.getD 1 0)).toNat) = (((xs.getD 0 0).toNat ^^^ (xs.getD 1 0).toNat : Nat) : Int))∧TT 2 ((((xs.getD 0 0).toNat ^^^ (xs.getD 1 0).toNat : Nat) : Int) = (iJ 5 ws xs k w)∧True))))) (.w 1 [(8,.val (i6 (((xs.getD 0 0).toNat ^^^ (xs.getD 1 0).toNat : Nat) : Int)))] <| .e) Tryz.func133 rfl rfl rfl (by kernel_rfl) ?_
 refine tt ⟨ix,tt ⟨ix,tt ⟨⟨oK,(rI (by omega) (by omega) (by omega) (by omega))⟩,tt ⟨?_,oK⟩⟩⟩⟩
 rfl
abbrev MS (ws xs : List Int) (k w : Int) : Ct := ⟨134,(jh ws xs k w),false,(i6 (iJ 6 ws xs k w))⟩
theorem J5 (ws xs : List Int) (k w : Int) (ho : Eu ws xs 2) : CC (MS ws xs k w) := by
 obtain ⟨hl,hf,hx,hin⟩ := ho
 have f0 : 0 < ws.length → 1 ≤ ws.getD 0 0∧ws.getD 0 0 ≤ 8 := fun h => az hf h
 have f1 : 1 < ws.length → 1 ≤ ws.getD 1 0∧ws.getD 1 0 ≤ 8 := fun h => az hf h
 have f2 : 2 < ws.length → 1 ≤ ws.getD 2 0∧ws.getD 2 0 ≤ 8 := fun h => az hf h
 have a0 : 0 < ws.length → 0 ≤ xs.getD 0 0∧xs.getD 0 0 ≤ ah (ws.getD 0 0) := fun h => a7 hin (by omega)
 have a1 : 1 < ws.length → 0 ≤ xs.getD 1 0∧xs.getD 1 0 ≤ ah (ws.getD 1 0) := fun h => a7 hin (by omega)
 have a2 : 2 < ws.length → 0 ≤ xs.getD 2 0∧xs.getD 2 0 ≤ ah (ws.getD 2 0) := fun h => a7 hin (by omega)
 have m0 : 0 < ws.length → 0 ≤ ah (ws.getD 0 0)∧ah (ws.getD 0 0) ≤ 255 := fun h => au (by have := f0 h; omega) (f0 h).2
 have m1 : 1 < ws.length → 0 ≤ ah (ws.getD 1 0)∧ah (ws.getD 1 0) ≤ 255 := fun h => au (by have := f1 h; omega) (f1 h).2
 have m2 : 2 < ws.length → 0 ≤ ah (ws.getD 2 0)∧ah (ws.getD 2 0) ≤ 255 := fun h => au (by have := f2 h; omega) (f2 h).2
 have b0 := f0 (by omega); have c0 := a0 (by omega); have d0 := m0 (by omega)
 have b1 := f1 (by omega); have c1 := a1 (by omega); have d1 := m1 (by omega)
 refine af.vc (V := TT 4 (IX 0 xs.length∧TT 3 (IX 1 xs.length∧TT 1 (W6 ((xs.getD 0 0) + (xs.getD 1 0))∧TT 1 (CC (Bt ws xs k w)∧(True∧(IntKind.wrap .i64 (BitVec.ofInt (IntKind.i64).bits ((xs.getD 0 0) + (xs.getD 1 0)) &&& BitVec.ofInt (IntKind.i64).bits (ah (ws.getD 0 0))).toNat) = ((xs.getD 0 0 + xs.getD 1 0) % 2 ^ (ws.getD 0 0).toNat))∧TT 2 (((xs.getD 0 0 + xs.getD 1 0) % 2 ^ (ws.getD 0 0).toNat) = (iJ 6 ws xs k w)∧True)))))) (.w 1 [(8,.val (i6 ((xs.getD 0 0) + (xs.getD 1 0)))),(10,(Bt ws xs k w).O),(11,.val (i6 ((xs.getD 0 0 + xs.getD 1 0) % 2 ^ (ws.getD 0 0).toNat)))] <| .e) Tryz.func134 rfl rfl rfl (by kernel_rfl) ?_
 refine tt ⟨ix,tt ⟨ix,tt ⟨w6,tt ⟨(uS ws xs k w om),⟨⟨oK,(by rw [ck (by omega) (by omega)]; exact jU (by omega))⟩,tt ⟨?_,oK⟩⟩⟩⟩⟩⟩
 rfl
abbrev MT (ws xs : List Int) (k w : Int) : Ct := ⟨135,(jh ws xs k w),false,(i6 (iJ 7 ws xs k w))⟩
theorem J6 (ws xs : List Int) (k w : Int) (ho : Eu ws xs 2) : CC (MT ws xs k w) := by
 obtain ⟨hl,hf,hx,hin⟩ := ho
 have f0 : 0 < ws.length → 1 ≤ ws.getD 0 0∧ws.getD 0 0 ≤ 8 := fun h => az hf h
 have f1 : 1 < ws.length → 1 ≤ ws.getD 1 0∧ws.getD 1 0 ≤ 8 := fun h => az hf h
 have f2 : 2 < ws.length → 1 ≤ ws.getD 2 0∧ws.getD 2 0 ≤ 8 := fun h => az hf h
 have a0 : 0 < ws.length → 0 ≤ xs.getD 0 0∧xs.getD 0 0 ≤ ah (ws.getD 0 0) := fun h => a7 hin (by omega)
 have a1 : 1 < ws.length → 0 ≤ xs.getD 1 0∧xs.getD 1 0 ≤ ah (ws.getD 1 0) := fun h => a7 hin (by omega)
 have a2 : 2 < ws.length → 0 ≤ xs.getD 2 0∧xs.getD 2 0 ≤ ah (ws.getD 2 0) := fun h => a7 hin (by omega)
 have m0 : 0 < ws.length → 0 ≤ ah (ws.getD 0 0)∧ah (ws.getD 0 0) ≤ 255 := fun h => au (by have := f0 h; omega) (f0 h).2
 have m1 : 1 < ws.length → 0 ≤ ah (ws.getD 1 0)∧ah (ws.getD 1 0) ≤ 255 := fun h => au (by have := f1 h; omega) (f1 h).2
 have m2 : 2 < ws.length → 0 ≤ ah (ws.getD 2 0)∧ah (ws.getD 2 0) ≤ 255 := fun h => au (by have := f2 h; omega) (f2 h).2
 have b0 := f0 (by omega); have c0 := a0 (by omega); have d0 := m0 (by omega)
 have b1 := f1 (by omega); have c1 := a1 (by omega); have d1 := m1 (by omega)
 refine af.vc (V := TT 4 (IX 0 xs.length∧TT 3 (IX 1 xs.length∧TT 1 (W6 ((xs.getD 0 0) - (xs.getD 1 0))∧TT 1 (CC (Bt ws xs k w)∧(True∧(IntKind.wrap .i64 (BitVec.ofInt (IntKind.i64).bits ((xs.getD 0 0) - (xs.getD 1 0)) &&& BitVec.ofInt (IntKind.i64).bits (ah (ws.getD 0 0))).toNat) = ((xs.getD 0 0 - xs.getD 1 0) % 2 ^ (ws.getD 0 0).toNat))∧TT 2 (((xs.getD 0 0 - xs.getD 1 0) % 2 ^ (ws.getD 0 0).toNat) = (iJ 7 ws xs k w)∧True)))))) (.w 1 [(8,.val (i6 ((xs.getD 0 0) - (xs.getD 1 0)))),(10,(Bt ws xs k w).O),(11,.val (i6 ((xs.getD 0 0 - xs.getD 1 0) % 2 ^ (ws.getD 0 0).toNat)))] <| .e) Tryz.func135 rfl rfl rfl (by kernel_rfl) ?_
 refine tt ⟨ix,tt ⟨ix,tt ⟨w6,tt ⟨(uS ws xs k w om),⟨⟨oK,(by rw [ck (by omega) (by omega)]; exact jU (by omega))⟩,tt ⟨?_,oK⟩⟩⟩⟩⟩⟩
 rfl
abbrev MU (ws xs : List Int) (k w : Int) : Ct := ⟨137,(jh ws xs k w),false,(i6 (iJ 8 ws xs k w))⟩
theorem LC (ws xs : List Int) (k w : Int) (ho : Eu ws xs 2) : CC (MU ws xs k w) := by
 obtain ⟨hl,hf,hx,hin⟩ := ho
 have f0 : 0 < ws.length → 1 ≤ ws.getD 0 0∧ws.getD 0 0 ≤ 8 := fun h => az hf h
 have f1 : 1 < ws.length → 1 ≤ ws.getD 1 0∧ws.getD 1 0 ≤ 8 := fun h => az hf h
 have f2 : 2 < ws.length → 1 ≤ ws.getD 2 0∧ws.getD 2 0 ≤ 8 := fun h => az hf h
 have a0 : 0 < ws.length → 0 ≤ xs.getD 0 0∧xs.getD 0 0 ≤ ah (ws.getD 0 0) := fun h => a7 hin (by omega)
 have a1 : 1 < ws.length → 0 ≤ xs.getD 1 0∧xs.getD 1 0 ≤ ah (ws.getD 1 0) := fun h => a7 hin (by omega)
 have a2 : 2 < ws.length → 0 ≤ xs.getD 2 0∧xs.getD 2 0 ≤ ah (ws.getD 2 0) := fun h => a7 hin (by omega)
 have m0 : 0 < ws.length → 0 ≤ ah (ws.getD 0 0)∧ah (ws.getD 0 0) ≤ 255 := fun h => au (by have := f0 h; omega) (f0 h).2
 have m1 : 1 < ws.length → 0 ≤ ah (ws.getD 1 0)∧ah (ws.getD 1 0) ≤ 255 := fun h => au (by have := f1 h; omega) (f1 h).2
 have m2 : 2 < ws.length → 0 ≤ ah (ws.getD 2 0)∧ah (ws.getD 2 0) ≤ 255 := fun h => au (by have := f2 h; omega) (f2 h).2
 have b0 := f0 (by omega); have c0 := a0 (by omega); have d0 := m0 (by omega)
 have b1 := f1 (by omega); have c1 := a1 (by omega); have d1 := m1 (by omega)
 refine af.vc (V := TT 4 (IX 0 xs.length∧TT 3 (IX 1 xs.length∧TT 2 (CC (Gd ((xs.getD 0 0) == (xs.getD 1 0)))∧TT 2 ((if ((xs.getD 0 0) == (xs.getD 1 0)) = true then 1 else 0) = (iJ 8 ws xs k w)∧True))))) (.w 1 [(9,(Gd ((xs.getD 0 0) == (xs.getD 1 0))).O)] <| .e) Tryz.func137 rfl rfl rfl (by kernel_rfl) ?_
 refine tt ⟨ix,tt ⟨ix,tt ⟨(Ge ((xs.getD 0 0) == (xs.getD 1 0))),tt ⟨?_,oK⟩⟩⟩⟩
 show _ = (if xs.getD 0 0 = xs.getD 1 0 then (1 : Int) else 0)
 by_cases h : xs.getD 0 0 = xs.getD 1 0
 · rw [if_pos h,if_pos (by simpa using h)]
 · rw [if_neg h,if_neg (by simpa using h)]
abbrev MV (ws xs : List Int) (k w : Int) : Ct := ⟨139,(jh ws xs k w),false,(i6 (iJ 9 ws xs k w))⟩
theorem LD (ws xs : List Int) (k w : Int) (ho : Eu ws xs 2) : CC (MV ws xs k w) := by
 obtain ⟨hl,hf,hx,hin⟩ := ho
 have f0 : 0 < ws.length → 1 ≤ ws.getD 0 0∧ws.getD 0 0 ≤ 8 := fun h => az hf h
 have f1 : 1 < ws.length → 1 ≤ ws.getD 1 0∧ws.getD 1 0 ≤ 8 := fun h => az hf h
 have f2 : 2 < ws.length → 1 ≤ ws.getD 2 0∧ws.getD 2 0 ≤ 8 := fun h => az hf h
 have a0 : 0 < ws.length → 0 ≤ xs.getD 0 0∧xs.getD 0 0 ≤ ah (ws.getD 0 0) := fun h => a7 hin (by omega)
 have a1 : 1 < ws.length → 0 ≤ xs.getD 1 0∧xs.getD 1 0 ≤ ah (ws.getD 1 0) := fun h => a7 hin (by omega)
 have a2 : 2 < ws.length → 0 ≤ xs.getD 2 0∧xs.getD 2 0 ≤ ah (ws.getD 2 0) := fun h => a7 hin (by omega)
 have m0 : 0 < ws.length → 0 ≤ ah (ws.getD 0 0)∧ah (ws.getD 0 0) ≤ 255 := fun h => au (by have := f0 h; omega) (f0 h).2
 have m1 : 1 < ws.length → 0 ≤ ah (ws.getD 1 0)∧ah (ws.getD 1 0) ≤ 255 := fun h => au (by have := f1 h; omega) (f1 h).2
 have m2 : 2 < ws.length → 0 ≤ ah (ws.getD 2 0)∧ah (ws.getD 2 0) ≤ 255 := fun h => au (by have := f2 h; omega) (f2 h).2
 have b0 := f0 (by omega); have c0 := a0 (by omega); have d0 := m0 (by omega)
 have b1 := f1 (by omega); have c1 := a1 (by omega); have d1 := m1 (by omega)
 refine af.vc (V := TT 4 (IX 0 xs.length∧TT 3 (IX 1 xs.length∧TT 2 (CC (Gd (decide ((xs.getD 0 0) < (xs.getD 1 0))))∧TT 2 ((if (decide ((xs.getD 0 0) < (xs.getD 1 0))) = true then 1 else 0) = (iJ 9 ws xs k w)∧True))))) (.w 1 [(9,(Gd (decide ((xs.getD 0 0) < (xs.getD 1 0)))).O)] <| .e) Tryz.func139 rfl rfl rfl (by kernel_rfl) ?_
 refine tt ⟨ix,tt ⟨ix,tt ⟨(Ge (decide ((xs.getD 0 0) < (xs.getD 1 0)))),tt ⟨?_,oK⟩⟩⟩⟩
 show _ = (if xs.getD 0 0 < xs.getD 1 0 then (1 : Int) else 0)
 by_cases h : xs.getD 0 0 < xs.getD 1 0
 · rw [if_pos h,if_pos (by simpa using h)]
 · rw [if_neg h,if_neg (by simpa using h)]
abbrev MW (ws xs : List Int) (k w : Int) : Ct := ⟨141,(jh ws xs k w),false,(i6 (iJ 1 ws xs k w))⟩
theorem Gj (ws xs : List Int) (k w : Int) (ho : Eu ws xs 0) : CC (MW ws xs k w) := by
 obtain ⟨hl,hf,hx,hin⟩ := ho
 have f0 : 0 < ws.length → 1 ≤ ws.getD 0 0∧ws.getD 0 0 ≤ 8 := fun h => az hf h
 have f1 : 1 < ws.length → 1 ≤ ws.getD 1 0∧ws.getD 1 0 ≤ 8 := fun h => az hf h
 have f2 : 2 < ws.length → 1 ≤ ws.getD 2 0∧ws.getD 2 0 ≤ 8 := fun h => az hf h
 have a0 : 0 < ws.length → 0 ≤ xs.getD 0 0∧xs.getD 0 0 ≤ ah (ws.getD 0 0) := fun h => a7 hin (by omega)
 have a1 : 1 < ws.length → 0 ≤ xs.getD 1 0∧xs.getD 1 0 ≤ ah (ws.getD 1 0) := fun h => a7 hin (by omega)
 have a2 : 2 < ws.length → 0 ≤ xs.getD 2 0∧xs.getD 2 0 ≤ ah (ws.getD 2 0) := fun h => a7 hin (by omega)
 have m0 : 0 < ws.length → 0 ≤ ah (ws.getD 0 0)∧ah (ws.getD 0 0) ≤ 255 := fun h => au (by have := f0 h; omega) (f0 h).2
 have m1 : 1 < ws.length → 0 ≤ ah (ws.getD 1 0)∧ah (ws.getD 1 0) ≤ 255 := fun h => au (by have := f1 h; omega) (f1 h).2
 have m2 : 2 < ws.length → 0 ≤ ah (ws.getD 2 0)∧ah (ws.getD 2 0) ≤ 255 := fun h => au (by have := f2 h; omega) (f2 h).2
 refine af.vc (V := TT 6 (k = (iJ 1 ws xs k w)∧True)) (.e) Tryz.func141 rfl rfl rfl (by kernel_rfl) ?_
 refine tt ⟨?_,oK⟩
 rfl
abbrev MX (ws xs : List Int) (k w : Int) : Ct := ⟨149,(jh ws xs k w),false,(i6 (iJ 13 ws xs k w))⟩
theorem J7 (ws xs : List Int) (k w : Int) (ho : Eu ws xs 1) : CC (MX ws xs k w) := by
 obtain ⟨hl,hf,hx,hin⟩ := ho
 have f0 : 0 < ws.length → 1 ≤ ws.getD 0 0∧ws.getD 0 0 ≤ 8 := fun h => az hf h
 have f1 : 1 < ws.length → 1 ≤ ws.getD 1 0∧ws.getD 1 0 ≤ 8 := fun h => az hf h
 have f2 : 2 < ws.length → 1 ≤ ws.getD 2 0∧ws.getD 2 0 ≤ 8 := fun h => az hf h
 have a0 : 0 < ws.length → 0 ≤ xs.getD 0 0∧xs.getD 0 0 ≤ ah (ws.getD 0 0) := fun h => a7 hin (by omega)
 have a1 : 1 < ws.length → 0 ≤ xs.getD 1 0∧xs.getD 1 0 ≤ ah (ws.getD 1 0) := fun h => a7 hin (by omega)
 have a2 : 2 < ws.length → 0 ≤ xs.getD 2 0∧xs.getD 2 0 ≤ ah (ws.getD 2 0) := fun h => a7 hin (by omega)
 have m0 : 0 < ws.length → 0 ≤ ah (ws.getD 0 0)∧ah (ws.getD 0 0) ≤ 255 := fun h => au (by have := f0 h; omega) (f0 h).2
 have m1 : 1 < ws.length → 0 ≤ ah (ws.getD 1 0)∧ah (ws.getD 1 0) ≤ 255 := fun h => au (by have := f1 h; omega) (f1 h).2
 have m2 : 2 < ws.length → 0 ≤ ah (ws.getD 2 0)∧ah (ws.getD 2 0) ≤ 255 := fun h => au (by have := f2 h; omega) (f2 h).2
 have b0 := f0 (by omega); have c0 := a0 (by omega); have d0 := m0 (by omega)
 refine af.vc (V := TT 4 (IX 0 xs.length∧TT 3 ((xs.getD 0 0) = (iJ 13 ws xs k w)∧True))) (.e) Tryz.func149 rfl rfl rfl (by kernel_rfl) ?_
 refine tt ⟨ix,tt ⟨?_,oK⟩⟩
 rfl
abbrev MY (ws xs : List Int) (k w : Int) : Ct := ⟨143,(jh ws xs k w),false,(i6 (iJ 10 ws xs k w))⟩
theorem J8 (ws xs : List Int) (k w : Int) (ho : Eu ws xs 3) (h1 : ws.getD 0 0 = 1) : CC (MY ws xs k w) := by
 obtain ⟨hl,hf,hx,hin⟩ := ho
 have f0 : 0 < ws.length → 1 ≤ ws.getD 0 0∧ws.getD 0 0 ≤ 8 := fun h => az hf h
 have f1 : 1 < ws.length → 1 ≤ ws.getD 1 0∧ws.getD 1 0 ≤ 8 := fun h => az hf h
 have f2 : 2 < ws.length → 1 ≤ ws.getD 2 0∧ws.getD 2 0 ≤ 8 := fun h => az hf h
 have a0 : 0 < ws.length → 0 ≤ xs.getD 0 0∧xs.getD 0 0 ≤ ah (ws.getD 0 0) := fun h => a7 hin (by omega)
 have a1 : 1 < ws.length → 0 ≤ xs.getD 1 0∧xs.getD 1 0 ≤ ah (ws.getD 1 0) := fun h => a7 hin (by omega)
 have a2 : 2 < ws.length → 0 ≤ xs.getD 2 0∧xs.getD 2 0 ≤ ah (ws.getD 2 0) := fun h => a7 hin (by omega)
 have m0 : 0 < ws.length → 0 ≤ ah (ws.getD 0 0)∧ah (ws.getD 0 0) ≤ 255 := fun h => au (by have := f0 h; omega) (f0 h).2
 have m1 : 1 < ws.length → 0 ≤ ah (ws.getD 1 0)∧ah (ws.getD 1 0) ≤ 255 := fun h => au (by have := f1 h; omega) (f1 h).2
 have m2 : 2 < ws.length → 0 ≤ ah (ws.getD 2 0)∧ah (ws.getD 2 0) ≤ 255 := fun h => au (by have := f2 h; omega) (f2 h).2
 have b0 := f0 (by omega); have c0 := a0 (by omega); have d0 := m0 (by omega)
 have b1 := f1 (by omega); have c1 := a1 (by omega); have d1 := m1 (by omega)
 have b2 := f2 (by omega); have c2 := a2 (by omega); have d2 := m2 (by omega)
 have hm1 : ah (ws.getD 0 0) = 1 := by rw [h1]; decide
 have hx0 : xs.getD 0 0 = 0 ∨ xs.getD 0 0 = 1 := by omega
 refine af.vc (V := TT 6 (IX 0 xs.length∧TT 1 (W6 (2 - (xs.getD 0 0))∧IX (2 - (xs.getD 0 0)) xs.length∧TT 3 ((xs.getD ((2 - (xs.getD 0 0)).toNat) 0) = (iJ 10 ws xs k w)∧True)))) (.w 1 [(6,.val (i6 (2 - (xs.getD 0 0))))] <| .e) Tryz.func143 rfl rfl rfl (by kernel_rfl) ?_
 refine tt ⟨ix,tt ⟨w6,⟨ix,tt ⟨?_,oK⟩⟩⟩⟩
 rfl
abbrev MZ (ws xs : List Int) (k w : Int) : Ct := ⟨145,(jh ws xs k w),false,(i6 (iJ 11 ws xs k w))⟩
theorem J9 (ws xs : List Int) (k w : Int) (ho : Eu ws xs 2) : CC (MZ ws xs k w) := by
 obtain ⟨hl,hf,hx,hin⟩ := ho
 have f0 : 0 < ws.length → 1 ≤ ws.getD 0 0∧ws.getD 0 0 ≤ 8 := fun h => az hf h
 have f1 : 1 < ws.length → 1 ≤ ws.getD 1 0∧ws.getD 1 0 ≤ 8 := fun h => az hf h
 have f2 : 2 < ws.length → 1 ≤ ws.getD 2 0∧ws.getD 2 0 ≤ 8 := fun h => az hf h
 have a0 : 0 < ws.length → 0 ≤ xs.getD 0 0∧xs.getD 0 0 ≤ ah (ws.getD 0 0) := fun h => a7 hin (by omega)
 have a1 : 1 < ws.length → 0 ≤ xs.getD 1 0∧xs.getD 1 0 ≤ ah (ws.getD 1 0) := fun h => a7 hin (by omega)
 have a2 : 2 < ws.length → 0 ≤ xs.getD 2 0∧xs.getD 2 0 ≤ ah (ws.getD 2 0) := fun h => a7 hin (by omega)
 have m0 : 0 < ws.length → 0 ≤ ah (ws.getD 0 0)∧ah (ws.getD 0 0) ≤ 255 := fun h => au (by have := f0 h; omega) (f0 h).2
 have m1 : 1 < ws.length → 0 ≤ ah (ws.getD 1 0)∧ah (ws.getD 1 0) ≤ 255 := fun h => au (by have := f1 h; omega) (f1 h).2
 have m2 : 2 < ws.length → 0 ≤ ah (ws.getD 2 0)∧ah (ws.getD 2 0) ≤ 255 := fun h => au (by have := f2 h; omega) (f2 h).2
 have b0 := f0 (by omega); have c0 := a0 (by omega); have d0 := m0 (by omega)
 have b1 := f1 (by omega); have c1 := a1 (by omega); have d1 := m1 (by omega)
 refine af.vc (V := TT 4 (IX 0 xs.length∧TT 3 (IX 1 ws.length∧TT 1 ((0 ≤ (ws.getD 1 0)∧(IntKind.wrap .i64 ((xs.getD 0 0) * 2 ^ min ((ws.getD 1 0).toNat) 64)) = (((xs.getD 0 0).toNat * 2 ^ (ws.getD 1 0).toNat : Nat) : Int))∧TT 2 (IX 1 xs.length∧TT 1 ((True∧(IntKind.wrap .i64 (BitVec.ofInt (IntKind.i64).bits (((xs.getD 0 0).toNat * 2 ^ (ws.getD 1 0).toNat : Nat) : Int) ||| BitVec.ofInt (IntKind.i64).bits (xs.getD 1 0)).toNat) = (((xs.getD 0 0).toNat * 2 ^ (ws.getD 1 0).toNat ||| (xs.getD 1 0).toNat : Nat) : Int))∧TT 2 ((((xs.getD 0 0).toNat * 2 ^ (ws.getD 1 0).toNat ||| (xs.getD 1 0).toNat : Nat) : Int) = (iJ 11 ws xs k w)∧True))))))) (.w 1 [(8,.val (i6 (((xs.getD 0 0).toNat * 2 ^ (ws.getD 1 0).toNat : Nat) : Int))),(13,.val (i6 (((xs.getD 0 0).toNat * 2 ^ (ws.getD 1 0).toNat ||| (xs.getD 1 0).toNat : Nat) : Int)))] <| .e) Tryz.func145 rfl rfl rfl (by kernel_rfl) ?_
 refine tt ⟨ix,tt ⟨ix,tt ⟨⟨om,(CE (by omega) (by omega))⟩,tt ⟨ix,tt ⟨⟨oK,(CF (by omega) (by omega) (by omega))⟩,tt ⟨?_,oK⟩⟩⟩⟩⟩⟩
 rfl
abbrev M0 (ws xs : List Int) (k w : Int) : Ct := ⟨147,(jh ws xs k w),false,(i6 (iJ 12 ws xs k w))⟩
theorem Gk (ws xs : List Int) (k w : Int) (ho : Eu ws xs 1) (hk : 0 ≤ k∧k ≤ 8∧ao w = true) : CC (M0 ws xs k w) := by
 obtain ⟨hl,hf,hx,hin⟩ := ho
 have f0 : 0 < ws.length → 1 ≤ ws.getD 0 0∧ws.getD 0 0 ≤ 8 := fun h => az hf h
 have f1 : 1 < ws.length → 1 ≤ ws.getD 1 0∧ws.getD 1 0 ≤ 8 := fun h => az hf h
 have f2 : 2 < ws.length → 1 ≤ ws.getD 2 0∧ws.getD 2 0 ≤ 8 := fun h => az hf h
 have a0 : 0 < ws.length → 0 ≤ xs.getD 0 0∧xs.getD 0 0 ≤ ah (ws.getD 0 0) := fun h => a7 hin (by omega)
 have a1 : 1 < ws.length → 0 ≤ xs.getD 1 0∧xs.getD 1 0 ≤ ah (ws.getD 1 0) := fun h => a7 hin (by omega)
 have a2 : 2 < ws.length → 0 ≤ xs.getD 2 0∧xs.getD 2 0 ≤ ah (ws.getD 2 0) := fun h => a7 hin (by omega)
 have m0 : 0 < ws.length → 0 ≤ ah (ws.getD 0 0)∧ah (ws.getD 0 0) ≤ 255 := fun h => au (by have := f0 h; omega) (f0 h).2
 have m1 : 1 < ws.length → 0 ≤ ah (ws.getD 1 0)∧ah (ws.getD 1 0) ≤ 255 := fun h => au (by have := f1 h; omega) (f1 h).2
 have m2 : 2 < ws.length → 0 ≤ ah (ws.getD 2 0)∧ah (ws.getD 2 0) ≤ 255 := fun h => au (by have := f2 h; omega) (f2 h).2
 have b0 := f0 (by omega); have c0 := a0 (by omega); have d0 := m0 (by omega)
 have hw := aU.1 hk.2.2
 refine af.vc (V := TT 4 (IX 0 xs.length∧TT 3 ((0 ≤ k∧(Int.fdiv (xs.getD 0 0) (2 ^ min k.toNat 64)) = (xs.getD 0 0 / 2 ^ k.toNat))∧TT 2 (CC (yk w)∧(True∧(IntKind.wrap .i64 (BitVec.ofInt (IntKind.i64).bits (xs.getD 0 0 / 2 ^ k.toNat) &&& BitVec.ofInt (IntKind.i64).bits (ah w)).toNat) = ((xs.getD 0 0 / 2 ^ k.toNat) % 2 ^ w.toNat))∧TT 2 (((xs.getD 0 0 / 2 ^ k.toNat) % 2 ^ w.toNat) = (iJ 12 ws xs k w)∧True))))) (.w 1 [(6,.val (i6 (xs.getD 0 0 / 2 ^ k.toNat))),(9,(yk w).O),(10,.val (i6 ((xs.getD 0 0 / 2 ^ k.toNat) % 2 ^ w.toNat)))] <| .e) Tryz.func147 rfl rfl rfl (by kernel_rfl) ?_
 refine tt ⟨ix,tt ⟨⟨om,(yg hk.1 (by omega))⟩,tt ⟨(tr w),⟨⟨oK,(by rw [ck (by omega) (by omega)]; exact jU (by omega))⟩,tt ⟨?_,oK⟩⟩⟩⟩⟩
 rfl
end Go.Proofs.YtgmpoenfoacofaaGreat
