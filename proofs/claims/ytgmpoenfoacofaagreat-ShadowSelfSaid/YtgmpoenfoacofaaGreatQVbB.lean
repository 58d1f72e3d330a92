/-
  Package bits: the values of operations.
-/
import Derived.Test.YtgmpoenfoacofaaGreatQVbA
namespace Go.Proofs.YtgmpoenfoacofaaGreat
open Go.RowKit
set_option linter.unusedVariables false
set_option linter.unusedSimpArgs false
abbrev iT (ws xs : List Int) (k w : Int) : List D := [(.agg [(LI ws),(LI xs),(i6 k),(i6 w)])]
set_option maxRecDepth 100000
structure Dv (ws xs : List Int) (n : Nat) : Prop where
  hl : ws.length = n
  hf : ws.all am = true
  hx : xs.length = ws.length
  hin : yV ws xs = true
abbrev Ax (ws xs : List Int) (k w : Int) : Ct := ⟨129,(iT ws xs k w),false,(i6 (af (ws.getD 0 0)))⟩
theorem tM (ws xs : List Int) (k w : Int) (hl : 0 < ws.length) : CC (Ax ws xs k w) := by
 refine ah.vc (V := TT 4 (IX 0 ws.length∧TT 1 (CC (xm (ws.getD 0 0))∧TT 2 ((af (ws.getD 0 0)) = (af (ws.getD 0 0))∧True)))) (.w 1 [(4,(xm (ws.getD 0 0)).O)] <| .e) Tryz.func129 rfl rfl rfl (by kernel_rfl) ?_
 exact tt ⟨ix,tt ⟨(sr (ws.getD 0 0)),tt ⟨rfl,oK⟩⟩⟩
abbrev Lw (ws xs : List Int) (k w : Int) : Ct := ⟨128,(iT ws xs k w),false,(i6 (ij 2 ws xs k w))⟩
theorem I2 (ws xs : List Int) (k w : Int) (ho : Dv ws xs 1) : CC (Lw ws xs k w) := by
 obtain ⟨hl,hf,hx,hin⟩ := ho
 have f0 : 0 < ws.length → 1 ≤ ws.getD 0 0∧ws.getD 0 0 ≤ 8 := fun h => ay hf h
 have f1 : 1 < ws.length → 1 ≤ ws.getD 1 0∧ws.getD 1 0 ≤ 8 := fun h => ay hf h
 have f2 : 2 < ws.length → 1 ≤ ws.getD 2 0∧ws.getD 2 0 ≤ 8 := fun h => ay hf h
 have a0 : 0 < ws.length → 0 ≤ xs.getD 0 0∧xs.getD 0 0 ≤ af (ws.getD 0 0) := fun h => a4 hin (by omega)
 have a1 : 1 < ws.length → 0 ≤ xs.getD 1 0∧xs.getD 1 0 ≤ af (ws.getD 1 0) := fun h => a4 hin (by omega)
 have a2 : 2 < ws.length → 0 ≤ xs.getD 2 0∧xs.getD 2 0 ≤ af (ws.getD 2 0) := fun h => a4 hin (by omega)
 have m0 : 0 < ws.length → 0 ≤ af (ws.getD 0 0)∧af (ws.getD 0 0) ≤ 255 := fun h => ap (by have := f0 h; omega) (f0 h).2
 have m1 : 1 < ws.length → 0 ≤ af (ws.getD 1 0)∧af (ws.getD 1 0) ≤ 255 := fun h => ap (by have := f1 h; omega) (f1 h).2
 have m2 : 2 < ws.length → 0 ≤ af (ws.getD 2 0)∧af (ws.getD 2 0) ≤ 255 := fun h => ap (by have := f2 h; omega) (f2 h).2
 have b0 := f0 (by omega); have c0 := a0 (by omega); have d0 := m0 (by omega)
 refine ah.vc (V := TT 4 (IX 0 xs.length∧TT 2 (CC (Ax ws xs k w)∧(True∧(IntKind.wrap .i64 (BitVec.ofInt (IntKind.i64).bits (xs.getD 0 0) ^^^ BitVec.ofInt (IntKind.i64).bits (af (ws.getD 0 0))).toNat) = (((xs.getD 0 0).toNat ^^^ (af (ws.getD 0 0)).toNat : Nat) : Int))∧TT 2 ((((xs.getD 0 0).toNat ^^^ (af (ws.getD 0 0)).toNat : Nat) : Int) = (ij 2 ws xs k w)∧True)))) (.w 1 [(5,(Ax ws xs k w).O),(6,.val (i6 (((xs.getD 0 0).toNat ^^^ (af (ws.getD 0 0)).toNat : Nat) : Int)))] <| .e) Tryz.func128 rfl rfl rfl (by kernel_rfl) ?_
 refine tt ⟨ix,tt ⟨(tM ws xs k w om),⟨⟨oK,(qC (by omega) (by omega) (by omega) (by omega))⟩,tt ⟨?_,oK⟩⟩⟩⟩
 rfl
abbrev Lx (ws xs : List Int) (k w : Int) : Ct := ⟨131,(iT ws xs k w),false,(i6 (ij 3 ws xs k w))⟩
theorem I3 (ws xs : List Int) (k w : Int) (ho : Dv ws xs 2) : CC (Lx ws xs k w) := by
 obtain ⟨hl,hf,hx,hin⟩ := ho
 have f0 : 0 < ws.length → 1 ≤ ws.getD 0 0∧ws.getD 0 0 ≤ 8 := fun h => ay hf h
 have f1 : 1 < ws.length → 1 ≤ ws.getD 1 0∧ws.getD 1 0 ≤ 8 := fun h => ay hf h
 have f2 : 2 < ws.length → 1 ≤ ws.getD 2 0∧ws.getD 2 0 ≤ 8 := fun h => ay hf h
 have a0 : 0 < ws.length → 0 ≤ xs.getD 0 0∧xs.getD 0 0 ≤ af (ws.getD 0 0) := fun h => a4 hin (by omega)
 have a1 : 1 < ws.length → 0 ≤ xs.getD 1 0∧xs.getD 1 0 ≤ af (ws.getD 1 0) := fun h => a4 hin (by omega)
 have a2 : 2 < ws.length → 0 ≤ xs.getD 2 0∧xs.getD 2 0 ≤ af (ws.getD 2 0) := fun h => a4 hin (by omega)
 have m0 : 0 < ws.length → 0 ≤ af (ws.getD 0 0)∧af (ws.getD 0 0) ≤ 255 := fun h => ap (by have := f0 h; omega) (f0 h).2
 have m1 : 1 < ws.length → 0 ≤ af (ws.getD 1 0)∧af (ws.getD 1 0) ≤ 255 := fun h => ap (by have := f1 h; omega) (f1 h).2
 have m2 : 2 < ws.length → 0 ≤ af (ws.getD 2 0)∧af (ws.getD 2 0) ≤ 255 := fun h => ap (by have := f2 h; omega) (f2 h).2
 have b0 := f0 (by omega); have c0 := a0 (by omega); have d0 := m0 (by omega)
 have b1 := f1 (by omega); have c1 := a1 (by omega); have d1 := m1 (by omega)
 refine ah.vc (V := TT 4 (IX 0 xs.length∧TT 3 (IX 1 xs.length∧TT 1 ((True∧(IntKind.wrap .i64 (BitVec.ofInt (IntKind.i64).bits (xs.getD 0 0) &&& BitVec.ofInt (IntKind.i64).bits (xs.getD 1 0)).toNat) = (((xs.getD 0 0).toNat &&& (xs.getD 1 0).toNat : Nat) : Int))∧TT 2 ((((xs.getD 0 0).toNat &&& (xs.getD 1 0).toNat : Nat) : Int) = (ij 3 ws xs k w)∧True))))) (.w 1 [(8,.val (i6 (((xs.getD 0 0).toNat &&& (xs.getD 1 0).toNat : Nat) : Int)))] <| .e) Tryz.func131 rfl rfl rfl (by kernel_rfl) ?_
 refine tt ⟨ix,tt ⟨ix,tt ⟨⟨oK,(v3 (by omega) (by omega) (by omega) (by omega))⟩,tt ⟨?_,oK⟩⟩⟩⟩
 rfl
abbrev Ly (ws xs : List Int) (k w : Int) : Ct := ⟨132,(iT ws xs k w),false,(i6 (ij 4 ws xs k w))⟩
theorem Kp (ws xs : List Int) (k w : Int) (ho : Dv ws xs 2) : CC (Ly ws xs k w) := by
 obtain ⟨hl,hf,hx,hin⟩ := ho
 have f0 : 0 < ws.length → 1 ≤ ws.getD 0 0∧ws.getD 0 0 ≤ 8 := fun h => ay hf h
 have f1 : 1 < ws.length → 1 ≤ ws.getD 1 0∧ws.getD 1 0 ≤ 8 := fun h => ay hf h
 have f2 : 2 < ws.length → 1 ≤ ws.getD 2 0∧ws.getD 2 0 ≤ 8 := fun h => ay hf h
 have a0 : 0 < ws.length → 0 ≤ xs.getD 0 0∧xs.getD 0 0 ≤ af (ws.getD 0 0) := fun h => a4 hin (by omega)
 have a1 : 1 < ws.length → 0 ≤ xs.getD 1 0∧xs.getD 1 0 ≤ af (ws.getD 1 0) := fun h => a4 hin (by omega)
 have a2 : 2 < ws.length → 0 ≤ xs.getD 2 0∧xs.getD 2 0 ≤ af (ws.getD 2 0) := fun h => a4 hin (by omega)
 have m0 : 0 < ws.length → 0 ≤ af (ws.getD 0 0)∧af (ws.getD 0 0) ≤ 255 := fun h => ap (by have := f0 h; omega) (f0 h).2
 have m1 : 1 < ws.length → 0 ≤ af (ws.getD 1 0)∧af (ws.getD 1 0) ≤ 255 := fun h => ap (by have := f1 h; omega) (f1 h).2
 have m2 : 2 < ws.length → 0 ≤ af (ws.getD 2 0)∧af (ws.getD 2 0) ≤ 255 := fun h => ap (by have := f2 h; omega) (f2 h).2
 have b0 := f0 (by omega); have c0 := a0 (by omega); have d0 := m0 (by omega)
 have b1 := f1 (by omega); have c1 := a1 (by omega); have d1 := m1 (by omega)
 refine ah.vc (V := TT 4 (IX 0 xs.length∧TT 3 (IX 1 xs.length∧TT 1 ((True∧(IntKind.wrap .i64 (BitVec.ofInt (IntKind.i64).bits (xs.getD 0 0) ||| BitVec.ofInt (IntKind.i64).bits (xs.getD 1 0)).toNat) = (((xs.getD 0 0).toNat ||| (xs.getD 1 0).toNat : Nat) : Int))∧TT 2 ((((xs.getD 0 0).toNat ||| (xs.getD 1 0).toNat : Nat) : Int) = (ij 4 ws xs k w)∧True))))) (.w 1 [(8,.val (i6 (((xs.getD 0 0).toNat ||| (xs.getD 1 0).toNat : Nat) : Int)))] <| .e) Tryz.func132 rfl rfl rfl (by kernel_rfl) ?_
 refine tt ⟨ix,tt ⟨ix,tt ⟨⟨oK,(yW (by omega) (by omega) (by omega) (by omega))⟩,tt ⟨?_,oK⟩⟩⟩⟩
 rfl
abbrev Lz (ws xs : List Int) (k w : Int) : Ct := ⟨133,(iT ws xs k w),false,(i6 (ij 5 ws xs k w))⟩
theorem I4 (ws xs : List Int) (k w : Int) (ho : Dv ws xs 2) : CC (Lz ws xs k w) := by
 obtain ⟨hl,hf,hx,hin⟩ := ho
 have f0 : 0 < ws.length → 1 ≤ ws.getD 0 0∧ws.getD 0 0 ≤ 8 := fun h => ay hf h
 have f1 : 1 < ws.length → 1 ≤ ws.getD 1 0∧ws.getD 1 0 ≤ 8 := fun h => ay hf h
 have f2 : 2 < ws.length → 1 ≤ ws.getD 2 0∧ws.getD 2 0 ≤ 8 := fun h => ay hf h
 have a0 : 0 < ws.length → 0 ≤ xs.getD 0 0∧xs.getD 0 0 ≤ af (ws.getD 0 0) := fun h => a4 hin (by omega)
 have a1 : 1 < ws.length → 0 ≤ xs.getD 1 0∧xs.getD 1 0 ≤ af (ws.getD 1 0) := fun h => a4 hin (by omega)
 have a2 : 2 < ws.length → 0 ≤ xs.getD 2 0∧xs.getD 2 0 ≤ af (ws.getD 2 0) := fun h => a4 hin (by omega)
 have m0 : 0 < ws.length → 0 ≤ af (ws.getD 0 0)∧af (ws.getD 0 0) ≤ 255 := fun h => ap (by have := f0 h; omega) (f0 h).2
 have m1 : 1 < ws.length → 0 ≤ af (ws.getD 1 0)∧af (ws.getD 1 0) ≤ 255 := fun h => ap (by have := f1 h; omega) (f1 h).2
 have m2 : 2 < ws.length → 0 ≤ af (ws.getD 2 0)∧af (ws.getD 2 0) ≤ 255 := fun h => ap (by have := f2 h; omega) (f2 h).2
 have b0 := f0 (by omega); have c0 := a0 (by omega); have d0 := m0 (by omega)
 have b1 := f1 (by omega); have c1 := a1 (by omega); have d1 := m1 (by omega)
 refine ah.vc (V := TT 4 (IX 0 xs.length∧TT 3 (IX 1 xs.length∧TT 1 ((True∧(IntKind.wrap .i64 (BitVec.ofInt (IntKind.i64).bits (xs.getD 0 0) ^^^ BitVec.ofInt (IntKind.i64).bits (xs.getD 1 0)).toNat) = (((xs.getD 0 0).toNat ^^^ (xs.getD 1 0).toNat : Nat) : Int))∧TT 2 ((((xs.getD 0 0).toNat ^^^ (xs.getD 1 0).toNat : Nat) : Int) = (ij 5 ws xs k w)∧True))))) (.w 1 [(8,.val (i6 (((xs.getD 0 0).toNat ^^^ (xs.getD 1 0).toNat : Nat) : Int)))] <| .e) Tryz.func133 rfl rfl rfl (by kernel_rfl) ?_
 refine tt ⟨ix,tt ⟨ix,tt ⟨⟨oK,(qC (by omega) (by omega) (by omega) (by omega))⟩,tt ⟨?_,oK⟩⟩⟩⟩
 rfl
abbrev LA (ws xs : List Int) (k w : Int) : Ct := ⟨134,(iT ws xs k w),false,(i6 (ij 6 ws xs k w))⟩
theorem I5 (ws xs : List Int) (k w : Int) (ho : Dv ws xs 2) : CC (LA ws xs k w) := by
 obtain ⟨hl,hf,hx,hin⟩ := ho
 have f0 : 0 < ws.length → 1 ≤ ws.getD 0 0∧ws.getD 0 0 ≤ 8 := fun h => ay hf h
 have f1 : 1 < ws.length → 1 ≤ ws.getD 1 0∧ws.getD 1 0 ≤ 8 := fun h => ay hf h
 have f2 : 2 < ws.length → 1 ≤ ws.getD 2 0∧ws.getD 2 0 ≤ 8 := fun h => ay hf h
 have a0 : 0 < ws.length → 0 ≤ xs.getD 0 0∧xs.getD 0 0 ≤ af (ws.getD 0 0) := fun h => a4 hin (by omega)
 have a1 : 1 < ws.length → 0 ≤ xs.getD 1 0∧xs.getD 1 0 ≤ af (ws.getD 1 0) := fun h => a4 hin (by omega)
 have a2 : 2 < ws.length → 0 ≤ xs.getD 2 0∧xs.getD 2 0 ≤ af (ws.getD 2 0) := fun h => a4 hin (by omega)
 have m0 : 0 < ws.length → 0 ≤ af (ws.getD 0 0)∧af (ws.getD 0 0) ≤ 255 := fun h => ap (by have := f0 h; omega) (f0 h).2
 have m1 : 1 < ws.length → 0 ≤ af (ws.getD 1 0)∧af (ws.getD 1 0) ≤ 255 := fun h => ap (by have := f1 h; omega) (f1 h).2
 have m2 : 2 < ws.length → 0 ≤ af (ws.getD 2 0)∧af (ws.getD 2 0) ≤ 255 := fun h => ap (by have := f2 h; omega) (f2 h).2
 have b0 := f0 (by omega); have c0 := a0 (by omega); have d0 := m0 (by omega)
 have b1 := f1 (by omega); have c1 := a1 (by omega); have d1 := m1 (by omega)
 refine ah.vc (V := TT 4 (IX 0 xs.length∧TT 3 (IX 1 xs.length∧TT 1 (W6 ((xs.getD 0 0) + (xs.getD 1 0))∧TT 1 (CC (Ax ws xs k w)∧(True∧(IntKind.wrap .i64 (BitVec.ofInt (IntKind.i64).bits ((xs.getD 0 0) + (xs.getD 1 0)) &&& BitVec.ofInt (IntKind.i64).bits (af (ws.getD 0 0))).toNat) = ((xs.getD 0 0 + xs.getD 1 0) % 2 ^ (ws.getD 0 0).toNat))∧TT 2 (((xs.getD 0 0 + xs.getD 1 0) % 2 ^ (ws.getD 0 0).toNat) = (ij 6 ws xs k w)∧True)))))) (.w 1 [(8,.val (i6 ((xs.getD 0 0) + (xs.getD 1 0)))),(10,(Ax ws xs k w).O),(11,.val (i6 ((xs.getD 0 0 + xs.getD 1 0) % 2 ^ (ws.getD 0 0).toNat)))] <| .e) Tryz.func134 rfl rfl rfl (by kernel_rfl) ?_
 refine tt ⟨ix,tt ⟨ix,tt ⟨w6,tt ⟨(tM ws xs k w om),⟨⟨oK,(by rw [ci (by omega) (by omega)]; exact jp (by omega))⟩,tt ⟨?_,oK⟩⟩⟩⟩⟩⟩
 rfl
abbrev LC (ws xs : List Int) (k w : Int) : Ct := ⟨135,(iT ws xs k w),false,(i6 (ij 7 ws xs k w))⟩
theorem I6 (ws xs : List Int) (k w : Int) (ho : Dv ws xs 2) : CC (LC ws xs k w) := by
 obtain ⟨hl,hf,hx,hin⟩ := ho
 have f0 : 0 < ws.length → 1 ≤ ws.getD 0 0∧ws.getD 0 0 ≤ 8 := fun h => ay hf h
 have f1 : 1 < ws.length → 1 ≤ ws.getD 1 0∧ws.getD 1 0 ≤ 8 := fun h => ay hf h
 have f2 : 2 < ws.length → 1 ≤ ws.getD 2 0∧ws.getD 2 0 ≤ 8 := fun h => ay hf h
 have a0 : 0 < ws.length → 0 ≤ xs.getD 0 0∧xs.getD 0 0 ≤ af (ws.getD 0 0) := fun h => a4 hin (by omega)
 have a1 : 1 < ws.length → 0 ≤ xs.getD 1 0∧xs.getD 1 0 ≤ af (ws.getD 1 0) := fun h => a4 hin (by omega)
 have a2 : 2 < ws.length → 0 ≤ xs.getD 2 0∧xs.getD 2 0 ≤ af (ws.getD 2 0) := fun h => a4 hin (by omega)
 have m0 : 0 < ws.length → 0 ≤ af (ws.getD 0 0)∧af (ws.getD 0 0) ≤ 255 := fun h => ap (by have := f0 h; omega) (f0 h).2
 have m1 : 1 < ws.length → 0 ≤ af (ws.getD 1 0)∧af (ws.getD 1 0) ≤ 255 := fun h => ap (by have := f1 h; omega) (f1 h).2
 have m2 : 2 < ws.length → 0 ≤ af (ws.getD 2 0)∧af (ws.getD 2 0) ≤ 255 := fun h => ap (by have := f2 h; omega) (f2 h).2
 have b0 := f0 (by omega); have c0 := a0 (by omega); have d0 := m0 (by omega)
 have b1 := f1 (by omega); have c1 := a1 (by omega); have d1 := m1 (by omega)
 refine ah.vc (V := TT 4 (IX 0 xs.length∧TT 3 (IX 1 xs.length∧TT 1 (W6 ((xs.getD 0 0) - (xs.getD 1 0))∧TT 1 (CC (Ax ws xs k w)∧(True∧(IntKind.wrap .i64 (BitVec.ofInt (IntKind.i64).bits ((xs.getD 0 0) - (xs.getD 1 0)) &&& BitVec.ofInt (IntKind.i64).bits (af (ws.getD 0 0))).toNat) = ((xs.getD 0 0 - xs.getD 1 0) % 2 ^ (ws.getD 0 0).toNat))∧TT 2 (((xs.getD 0 0 - xs.getD 1 0) % 2 ^ (ws.getD 0 0).toNat) = (ij 7 ws xs k w)∧True)))))) (.w 1 [(8,.val (i6 ((xs.getD 0 0) - (xs.getD 1 0)))),(10,(Ax ws xs k w).O),(11,.val (i6 ((xs.getD 0 0 - xs.getD 1 0) % 2 ^ (ws.getD 0 0).toNat)))] <| .e) Tryz.func135 rfl rfl rfl (by kernel_rfl) ?_
 refine tt ⟨ix,tt ⟨ix,tt ⟨w6,tt ⟨(tM ws xs k w om),⟨⟨oK,(by rw [ci (by omega) (by omega)]; exact jp (by omega))⟩,tt ⟨?_,oK⟩⟩⟩⟩⟩⟩
 rfl
abbrev LD (ws xs : List Int) (k w : Int) : Ct := ⟨137,(iT ws xs k w),false,(i6 (ij 8 ws xs k w))⟩
theorem Kq (ws xs : List Int) (k w : Int) (ho : Dv ws xs 2) : CC (LD ws xs k w) := by
 obtain ⟨hl,hf,hx,hin⟩ := ho
 have f0 : 0 < ws.length → 1 ≤ ws.getD 0 0∧ws.getD 0 0 ≤ 8 := fun h => ay hf h
 have f1 : 1 < ws.length → 1 ≤ ws.getD 1 0∧ws.getD 1 0 ≤ 8 := fun h => ay hf h
 have f2 : 2 < ws.length → 1 ≤ ws.getD 2 0∧ws.getD 2 0 ≤ 8 := fun h => ay hf h
 have a0 : 0 < ws.length → 0 ≤ xs.getD 0 0∧xs.getD 0 0 ≤ af (ws.getD 0 0) := fun h => a4 hin (by omega)
 have a1 : 1 < ws.length → 0 ≤ xs.getD 1 0∧xs.getD 1 0 ≤ af (ws.getD 1 0) := fun h => a4 hin (by omega)
 have a2 : 2 < ws.length → 0 ≤ xs.getD 2 0∧xs.getD 2 0 ≤ af (ws.getD 2 0) := fun h => a4 hin (by omega)
 have m0 : 0 < ws.length → 0 ≤ af (ws.getD 0 0)∧af (ws.getD 0 0) ≤ 255 := fun h => ap (by have := f0 h; omega) (f0 h).2
 have m1 : 1 < ws.length → 0 ≤ af (ws.getD 1 0)∧af (ws.getD 1 0) ≤ 255 := fun h => ap (by have := f1 h; omega) (f1 h).2
 have m2 : 2 < ws.length → 0 ≤ af (ws.getD 2 0)∧af (ws.getD 2 0) ≤ 255 := fun h => ap (by have := f2 h; omega) (f2 h).2
 have b0 := f0 (by omega); have c0 := a0 (by omega); have d0 := m0 (by omega)
 have b1 := f1 (by omega); have c1 := a1 (by omega); have d1 := m1 (by omega)
 refine ah.vc (V := TT 4 (IX 0 xs.length∧TT 3 (IX 1 xs.length∧TT 2 (CC (E7 ((xs.getD 0 0) == (xs.getD 1 0)))∧TT 2 ((if ((xs.getD 0 0) == (xs.getD 1 0)) = true then 1 else 0) = (ij 8 ws xs k w)∧True))))) (.w 1 [(9,(E7 ((xs.getD 0 0) == (xs.getD 1 0))).O)] <| .e) Tryz.func137 rfl rfl rfl (by kernel_rfl) ?_
 refine tt ⟨ix,tt ⟨ix,tt ⟨(E8 ((xs.getD 0 0) == (xs.getD 1 0))),tt ⟨?_,oK⟩⟩⟩⟩
 show _ = (if xs.getD 0 0 = xs.getD 1 0 then (1 : Int) else 0)
 by_cases h : xs.getD 0 0 = xs.getD 1 0
 · rw [if_pos h,if_pos (by simpa using h)]
 · rw [if_neg h,if_neg (by simpa using h)]
abbrev LF (ws xs : List Int) (k w : Int) : Ct := ⟨139,(iT ws xs k w),false,(i6 (ij 9 ws xs k w))⟩
theorem Kr (ws xs : List Int) (k w : Int) (ho : Dv ws xs 2) : CC (LF ws xs k w) := by
 obtain ⟨hl,hf,hx,hin⟩ := ho
 have f0 : 0 < ws.length → 1 ≤ ws.getD 0 0∧ws.getD 0 0 ≤ 8 := fun h => ay hf h
 have f1 : 1 < ws.length → 1 ≤ ws.getD 1 0∧ws.getD 1 0 ≤ 8 := fun h => ay hf h
 have f2 : 2 < ws.length → 1 ≤ ws.getD 2 0∧ws.getD 2 0 ≤ 8 := fun h => ay hf h
 have a0 : 0 < ws.length → 0 ≤ xs.getD 0 0∧xs.getD 0 0 ≤ af (ws.getD 0 0) := fun h => a4 hin (by omega)
 have a1 : 1 < ws.length → 0 ≤ xs.getD 1 0∧xs.getD 1 0 ≤ af (ws.getD 1 0) := fun h => a4 hin (by omega)
 have a2 : 2 < ws.length → 0 ≤ xs.getD 2 0∧xs.getD 2 0 ≤ af (ws.getD 2 0) := fun h => a4 hin (by omega)
 have m0 : 0 < ws.length → 0 ≤ af (ws.getD 0 0)∧af (ws.getD 0 0) ≤ 255 := fun h => ap (by have := f0 h; omega) (f0 h).2
 have m1 : 1 < ws.length → 0 ≤ af (ws.getD 1 0)∧af (ws.getD 1 0) ≤ 255 := fun h => ap (by have := f1 h; omega) (f1 h).2
 have m2 : 2 < ws.length → 0 ≤ af (ws.getD 2 0)∧af (ws.getD 2 0) ≤ 255 := fun h => ap (by have := f2 h; omega) (f2 h).2
 have b0 := f0 (by omega); have c0 := a0 (by omega); have d0 := m0 (by omega)
 have b1 := f1 (by omega); have c1 := a1 (by omega); have d1 := m1 (by omega)
 refine ah.vc (V := TT 4 (IX 0 xs.length∧TT 3 (IX 1 xs.length∧TT 2 (CC (E7 (decide ((xs.getD 0 0) < (xs.getD 1 0))))∧TT 2 ((if (decide ((xs.getD 0 0) < (xs.getD 1 0))) = true then 1 else 0) = (ij 9 ws xs k w)∧True))))) (.w 1 [(9,(E7 (decide ((xs.getD 0 0) < (xs.getD 1 0)))).O)] <| .e) Tryz.func139 rfl rfl rfl (by kernel_rfl) ?_
 refine tt ⟨ix,tt ⟨ix,tt ⟨(E8 (decide ((xs.getD 0 0) < (xs.getD 1 0)))),tt ⟨?_,oK⟩⟩⟩⟩
 show _ = (if xs.getD 0 0 < xs.getD 1 0 then (1 : Int) else 0)
 by_cases h : xs.getD 0 0 < xs.getD 1 0
 · rw [if_pos h,if_pos (by simpa using h)]
 · rw [if_neg h,if_neg (by simpa using h)]
abbrev LG (ws xs : List Int) (k w : Int) : Ct := ⟨141,(iT ws xs k w),false,(i6 (ij 1 ws xs k w))⟩
theorem Fd (ws xs : List Int) (k w : Int) (ho : Dv ws xs 0) : CC (LG ws xs k w) := by
 obtain ⟨hl,hf,hx,hin⟩ := ho
 have f0 : 0 < ws.length → 1 ≤ ws.getD 0 0∧ws.getD 0 0 ≤ 8 := fun h => ay hf h
 have f1 : 1 < ws.length → 1 ≤ ws.getD 1 0∧ws.getD 1 0 ≤ 8 := fun h => ay hf h
 have f2 : 2 < ws.length → 1 ≤ ws.getD 2 0∧ws.getD 2 0 ≤ 8 := fun h => ay hf h
 have a0 : 0 < ws.length → 0 ≤ xs.getD 0 0∧xs.getD 0 0 ≤ af (ws.getD 0 0) := fun h => a4 hin (by omega)
 have a1 : 1 < ws.length → 0 ≤ xs.getD 1 0∧xs.getD 1 0 ≤ af (ws.getD 1 0) := fun h => a4 hin (by omega)
 have a2 : 2 < ws.length → 0 ≤ xs.getD 2 0∧xs.getD 2 0 ≤ af (ws.getD 2 0) := fun h => a4 hin (by omega)
 have m0 : 0 < ws.length → 0 ≤ af (ws.getD 0 0)∧af (ws.getD 0 0) ≤ 255 := fun h => ap (by have := f0 h; omega) (f0 h).2
 have m1 : 1 < ws.length → 0 ≤ af (ws.getD 1 0)∧af (ws.getD 1 0) ≤ 255 := fun h => ap (by have := f1 h; omega) (f1 h).2
 have m2 : 2 < ws.length → 0 ≤ af (ws.getD 2 0)∧af (ws.getD 2 0) ≤ 255 := fun h => ap (by have := f2 h; omega) (f2 h).2
 refine ah.vc (V := TT 6 (k = (ij 1 ws xs k w)∧True)) (.e) Tryz.func141 rfl rfl rfl (by kernel_rfl) ?_
 refine tt ⟨?_,oK⟩
 rfl
abbrev LH (ws xs : List Int) (k w : Int) : Ct := ⟨149,(iT ws xs k w),false,(i6 (ij 13 ws xs k w))⟩
theorem I7 (ws xs : List Int) (k w : Int) (ho : Dv ws xs 1) : CC (LH ws xs k w) := by
 obtain ⟨hl,hf,hx,hin⟩ := ho
 have f0 : 0 < ws.length → 1 ≤ ws.getD 0 0∧ws.getD 0 0 ≤ 8 := fun h => ay hf h
 have f1 : 1 < ws.length → 1 ≤ ws.getD 1 0∧ws.getD 1 0 ≤ 8 := fun h => ay hf h
 have f2 : 2 < ws.length → 1 ≤ ws.getD 2 0∧ws.getD 2 0 ≤ 8 := fun h => ay hf h
 have a0 : 0 < ws.length → 0 ≤ xs.getD 0 0∧xs.getD 0 0 ≤ af (ws.getD 0 0) := fun h => a4 hin (by omega)
 have a1 : 1 < ws.length → 0 ≤ xs.getD 1 0∧xs.getD 1 0 ≤ af (ws.getD 1 0) := fun h => a4 hin (by omega)
 have a2 : 2 < ws.length → 0 ≤ xs.getD 2 0∧xs.getD 2 0 ≤ af (ws.getD 2 0) := fun h => a4 hin (by omega)
 have m0 : 0 < ws.length → 0 ≤ af (ws.getD 0 0)∧af (ws.getD 0 0) ≤ 255 := fun h => ap (by have := f0 h; omega) (f0 h).2
 have m1 : 1 < ws.length → 0 ≤ af (ws.getD 1 0)∧af (ws.getD 1 0) ≤ 255 := fun h => ap (by have := f1 h; omega) (f1 h).2
 have m2 : 2 < ws.length → 0 ≤ af (ws.getD 2 0)∧af (ws.getD 2 0) ≤ 255 := fun h => ap (by have := f2 h; omega) (f2 h).2
 have b0 := f0 (by omega); have c0 := a0 (by omega); have d0 := m0 (by omega)
 refine ah.vc (V := TT 4 (IX 0 xs.length∧TT 3 ((xs.getD 0 0) = (ij 13 ws xs k w)∧True))) (.e) Tryz.func149 rfl rfl rfl (by kernel_rfl) ?_
 refine tt ⟨ix,tt ⟨?_,oK⟩⟩
 rfl
abbrev LJ (ws xs : List Int) (k w : Int) : Ct := ⟨143,(iT ws xs k w),false,(i6 (ij 10 ws xs k w))⟩
theorem I8 (ws xs : List Int) (k w : Int) (ho : Dv ws xs 3) (h1 : ws.getD 0 0 = 1) : CC (LJ ws xs k w) := by
 obtain ⟨hl,hf,hx,hin⟩ := ho
 have f0 : 0 < ws.length → 1 ≤ ws.getD 0 0∧ws.getD 0 0 ≤ 8 := fun h => ay hf h
 have f1 : 1 < ws.length → 1 ≤ ws.getD 1 0∧ws.getD 1 0 ≤ 8 := fun h => ay hf h
 have f2 : 2 < ws.length → 1 ≤ ws.getD 2 0∧ws.getD 2 0 ≤ 8 := fun h => ay hf h
 have a0 : 0 < ws.length → 0 ≤ xs.getD 0 0∧xs.getD 0 0 ≤ af (ws.getD 0 0) := fun h => a4 hin (by omega)
 have a1 : 1 < ws.length → 0 ≤ xs.getD 1 0∧xs.getD 1 0 ≤ af (ws.getD 1 0) := fun h => a4 hin (by omega)
 have a2 : 2 < ws.length → 0 ≤ xs.getD 2 0∧xs.getD 2 0 ≤ af (ws.getD 2 0) := fun h => a4 hin (by omega)
 have m0 : 0 < ws.length → 0 ≤ af (ws.getD 0 0)∧af (ws.getD 0 0) ≤ 255 := fun h => ap (by have := f0 h; omega) (f0 h).2
 have m1 : 1 < ws.length → 0 ≤ af (ws.getD 1 0)∧af (ws.getD 1 0) ≤ 255 := fun h => ap (by have := f1 h; omega) (f1 h).2
 have m2 : 2 < ws.length → 0 ≤ af (ws.getD 2 0)∧af (ws.getD 2 0) ≤ 255 := fun h => ap (by have := f2 h; omega) (f2 h).2
 have b0 := f0 (by omega); have c0 := a0 (by omega); have d0 := m0 (by omega)
 have b1 := f1 (by omega); have c1 := a1 (by omega); have d1 := m1 (by omega)
 have b2 := f2 (by omega); have c2 := a2 (by omega); have d2 := m2 (by omega)
 have hm1 : af (ws.getD 0 0) = 1 := by rw [h1]; decide
 have hx0 : xs.getD 0 0 = 0 ∨ xs.getD 0 0 = 1 := by omega
 refine ah.vc (V := TT 6 (IX 0 xs.length∧TT 1 (W6 (2 - (xs.getD 0 0))∧IX (2 - (xs.getD 0 0)) xs.length∧TT 3 ((xs.getD ((2 - (xs.getD 0 0)).toNat) 0) = (ij 10 ws xs k w)∧True)))) (.w 1 [(6,.val (i6 (2 - (xs.getD 0 0))))] <| .e) Tryz.func143 rfl rfl rfl (by kernel_rfl) ?_
 refine tt ⟨ix,tt ⟨w6,⟨ix,tt ⟨?_,oK⟩⟩⟩⟩
 rfl
abbrev LK (ws xs : List Int) (k w : Int) : Ct := ⟨145,(iT ws xs k w),false,(i6 (ij 11 ws xs k w))⟩
theorem I9 (ws xs : List Int) (k w : Int) (ho : Dv ws xs 2) : CC (LK ws xs k w) := by
 obtain ⟨hl,hf,hx,hin⟩ := ho
 have f0 : 0 < ws.length → 1 ≤ ws.getD 0 0∧ws.getD 0 0 ≤ 8 := fun h => ay hf h
 have f1 : 1 < ws.length → 1 ≤ ws.getD 1 0∧ws.getD 1 0 ≤ 8 := fun h => ay hf h
 have f2 : 2 < ws.length → 1 ≤ ws.getD 2 0∧ws.getD 2 0 ≤ 8 := fun h => ay hf h
 have a0 : 0 < ws.length → 0 ≤ xs.getD 0 0∧xs.getD 0 0 ≤ af (ws.getD 0 0) := fun h => a4 hin (by omega)
 have a1 : 1 < ws.length → 0 ≤ xs.getD 1 0∧xs.getD 1 0 ≤ af (ws.getD 1 0) := fun h => a4 hin (by omega)
 have a2 : 2 < ws.length → 0 ≤ xs.getD 2 0∧xs.getD 2 0 ≤ af (ws.getD 2 0) := fun h => a4 hin (by omega)
 have m0 : 0 < ws.length → 0 ≤ af (ws.getD 0 0)∧af (ws.getD 0 0) ≤ 255 := fun h => ap (by have := f0 h; omega) (f0 h).2
 have m1 : 1 < ws.length → 0 ≤ af (ws.getD 1 0)∧af (ws.getD 1 0) ≤ 255 := fun h => ap (by have := f1 h; omega) (f1 h).2
 have m2 : 2 < ws.length → 0 ≤ af (ws.getD 2 0)∧af (ws.getD 2 0) ≤ 255 := fun h => ap (by have := f2 h; omega) (f2 h).2
 have b0 := f0 (by omega); have c0 := a0 (by omega); have d0 := m0 (by omega)
 have b1 := f1 (by omega); have c1 := a1 (by omega); have d1 := m1 (by omega)
 refine ah.vc (V := TT 4 (IX 0 xs.length∧TT 3 (IX 1 ws.length∧TT 1 ((0 ≤ (ws.getD 1 0)∧(IntKind.wrap .i64 ((xs.getD 0 0) * 2 ^ min ((ws.getD 1 0).toNat) 64)) = (((xs.getD 0 0).toNat * 2 ^ (ws.getD 1 0).toNat : Nat) : Int))∧TT 2 (IX 1 xs.length∧TT 1 ((True∧(IntKind.wrap .i64 (BitVec.ofInt (IntKind.i64).bits (((xs.getD 0 0).toNat * 2 ^ (ws.getD 1 0).toNat : Nat) : Int) ||| BitVec.ofInt (IntKind.i64).bits (xs.getD 1 0)).toNat) = (((xs.getD 0 0).toNat * 2 ^ (ws.getD 1 0).toNat ||| (xs.getD 1 0).toNat : Nat) : Int))∧TT 2 ((((xs.getD 0 0).toNat * 2 ^ (ws.getD 1 0).toNat ||| (xs.getD 1 0).toNat : Nat) : Int) = (ij 11 ws xs k w)∧True))))))) (.w 1 [(8,.val (i6 (((xs.getD 0 0).toNat * 2 ^ (ws.getD 1 0).toNat : Nat) : Int))),(13,.val (i6 (((xs.getD 0 0).toNat * 2 ^ (ws.getD 1 0).toNat ||| (xs.getD 1 0).toNat : Nat) : Int)))] <| .e) Tryz.func145 rfl rfl rfl (by kernel_rfl) ?_
 refine tt ⟨ix,tt ⟨ix,tt ⟨⟨om,(BD (by omega) (by omega))⟩,tt ⟨ix,tt ⟨⟨oK,(BE (by omega) (by omega) (by omega))⟩,tt ⟨?_,oK⟩⟩⟩⟩⟩⟩
 rfl
abbrev LL (ws xs : List Int) (k w : Int) : Ct := ⟨147,(iT ws xs k w),false,(i6 (ij 12 ws xs k w))⟩
theorem Fe (ws xs : List Int) (k w : Int) (ho : Dv ws xs 1) (hk : 0 ≤ k∧k ≤ 8∧am w = true) : CC (LL ws xs k w) := by
 obtain ⟨hl,hf,hx,hin⟩ := ho
 have f0 : 0 < ws.length → 1 ≤ ws.getD 0 0∧ws.getD 0 0 ≤ 8 := fun h => ay hf h
 have f1 : 1 < ws.length → 1 ≤ ws.getD 1 0∧ws.getD 1 0 ≤ 8 := fun h => ay hf h
 have f2 : 2 < ws.length → 1 ≤ ws.getD 2 0∧ws.getD 2 0 ≤ 8 := fun h => ay hf h
 have a0 : 0 < ws.length → 0 ≤ xs.getD 0 0∧xs.getD 0 0 ≤ af (ws.getD 0 0) := fun h => a4 hin (by omega)
 have a1 : 1 < ws.length → 0 ≤ xs.getD 1 0∧xs.getD 1 0 ≤ af (ws.getD 1 0) := fun h => a4 hin (by omega)
 have a2 : 2 < ws.length → 0 ≤ xs.getD 2 0∧xs.getD 2 0 ≤ af (ws.getD 2 0) := fun h => a4 hin (by omega)
 have m0 : 0 < ws.length → 0 ≤ af (ws.getD 0 0)∧af (ws.getD 0 0) ≤ 255 := fun h => ap (by have := f0 h; omega) (f0 h).2
 have m1 : 1 < ws.length → 0 ≤ af (ws.getD 1 0)∧af (ws.getD 1 0) ≤ 255 := fun h => ap (by have := f1 h; omega) (f1 h).2
 have m2 : 2 < ws.length → 0 ≤ af (ws.getD 2 0)∧af (ws.getD 2 0) ≤ 255 := fun h => ap (by have := f2 h; omega) (f2 h).2
 have b0 := f0 (by omega); have c0 := a0 (by omega); have d0 := m0 (by omega)
 have hw := aP.1 hk.2.2
 refine ah.vc (V := TT 4 (IX 0 xs.length∧TT 3 ((0 ≤ k∧(Int.fdiv (xs.getD 0 0) (2 ^ min k.toNat 64)) = (xs.getD 0 0 / 2 ^ k.toNat))∧TT 2 (CC (xm w)∧(True∧(IntKind.wrap .i64 (BitVec.ofInt (IntKind.i64).bits (xs.getD 0 0 / 2 ^ k.toNat) &&& BitVec.ofInt (IntKind.i64).bits (af w)).toNat) = ((xs.getD 0 0 / 2 ^ k.toNat) % 2 ^ w.toNat))∧TT 2 (((xs.getD 0 0 / 2 ^ k.toNat) % 2 ^ w.toNat) = (ij 12 ws xs k w)∧True))))) (.w 1 [(6,.val (i6 (xs.getD 0 0 / 2 ^ k.toNat))),(9,(xm w).O),(10,.val (i6 ((xs.getD 0 0 / 2 ^ k.toNat) % 2 ^ w.toNat)))] <| .e) Tryz.func147 rfl rfl rfl (by kernel_rfl) ?_
 refine tt ⟨ix,tt ⟨⟨om,(xi hk.1 (by omega))⟩,tt ⟨(sr w),⟨⟨oK,(by rw [ci (by omega) (by omega)]; exact jp (by omega))⟩,tt ⟨?_,oK⟩⟩⟩⟩⟩
 rfl
end Go.Proofs.YtgmpoenfoacofaaGreat
