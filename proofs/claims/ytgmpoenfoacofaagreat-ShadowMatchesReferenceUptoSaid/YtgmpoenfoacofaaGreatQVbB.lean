/-
  Package bits: the values of operations.
-/
import Derived.Test.YtgmpoenfoacofaaGreatQVbA
namespace Go.Proofs.YtgmpoenfoacofaaGreat
open Go.RowKit
set_option linter.unusedVariables false
set_option linter.unusedSimpArgs false
abbrev iA (ws xs : List Int) (k w : Int) : List D := [(.agg [(LI ws),(LI xs),(i6 k),(i6 w)])]
set_option maxRecDepth 100000
structure CF (ws xs : List Int) (n : Nat) : Prop where
  hl : ws.length = n
  hf : ws.all an = true
  hx : xs.length = ws.length
  hin : yv ws xs = true
abbrev zX (ws xs : List Int) (k w : Int) : Ct := ⟨129,(iA ws xs k w),false,(i6 (ah (ws.getD 0 0)))⟩
theorem tu (ws xs : List Int) (k w : Int) (hl : 0 < ws.length) : CC (zX ws xs k w) := by
 refine af.vc (V := TT 4 (IX 0 ws.length∧TT 1 (CC (wW (ws.getD 0 0))∧TT 2 ((ah (ws.getD 0 0)) = (ah (ws.getD 0 0))∧True)))) (.w 1 [(4,(wW (ws.getD 0 0)).O)] <| .e) Tryz.func129 rfl rfl rfl (by kernel_rfl) ?_
 exact tt ⟨ix,tt ⟨(rX (ws.getD 0 0)),tt ⟨rfl,oK⟩⟩⟩
abbrev KL (ws xs : List Int) (k w : Int) : Ct := ⟨128,(iA ws xs k w),false,(i6 (hC 2 ws xs k w))⟩
theorem H0 (ws xs : List Int) (k w : Int) (ho : CF ws xs 1) : CC (KL ws xs k w) := by
 obtain ⟨hl,hf,hx,hin⟩ := ho
 have f0 : 0 < ws.length → 1 ≤ ws.getD 0 0∧ws.getD 0 0 ≤ 8 := fun h => ax hf h
 have f1 : 1 < ws.length → 1 ≤ ws.getD 1 0∧ws.getD 1 0 ≤ 8 := fun h => ax hf h
 have f2 : 2 < ws.length → 1 ≤ ws.getD 2 0∧ws.getD 2 0 ≤ 8 := fun h => ax hf h
 have a0 : 0 < ws.length → 0 ≤ xs.getD 0 0∧xs.getD 0 0 ≤ ah (ws.getD 0 0) := fun h => aY hin (by omega)
 have a1 : 1 < ws.length → 0 ≤ xs.getD 1 0∧xs.getD 1 0 ≤ ah (ws.getD 1 0) := fun h => aY hin (by omega)
 have a2 : 2 < ws.length → 0 ≤ xs.getD 2 0∧xs.getD 2 0 ≤ ah (ws.getD 2 0) := fun h => aY hin (by omega)
 have m0 : 0 < ws.length → 0 ≤ ah (ws.getD 0 0)∧ah (ws.getD 0 0) ≤ 255 := fun h => ap (by have := f0 h; omega) (f0 h).2
 have m1 : 1 < ws.length → 0 ≤ ah (ws.getD 1 0)∧ah (ws.getD 1 0) ≤ 255 := fun h => ap (by have := f1 h; omega) (f1 h).2
 have m2 : 2 < ws.length → 0 ≤ ah (ws.getD 2 0)∧ah (ws.getD 2 0) ≤ 255 := fun h => ap (by have := f2 h; omega) (f2 h).2
 have b0 := f0 (by omega); have c0 := a0 (by omega); have d0 := m0 (by omega)
 refine af.vc (V := TT 4 (IX 0 xs.length∧TT 2 (CC (zX ws xs k w)∧(True∧(IntKind.wrap .i64 (BitVec.ofInt (IntKind.i64).bits (xs.getD 0 0) ^^^ BitVec.ofInt (IntKind.i64).bits (ah (ws.getD 0 0))).toNat) = (((xs.getD 0 0).toNat ^^^ (ah (ws.getD 0 0)).toNat : Nat) : Int))∧TT 2 ((((xs.getD 0 0).toNat ^^^ (ah (ws.getD 0 0)).toNat : Nat) : Int) = (hC 2 ws xs k w)∧True)))) (.w 1 [(5,(zX ws xs k w).O),(6,.val (i6 (((xs.getD 0 0).toNat ^^^ (ah (ws.getD 0 0)).toNat : Nat) : Int)))] <| .e) Tryz.func128 rfl rfl rfl (by kernel_rfl) ?_
 refine tt ⟨ix,tt ⟨(tu ws xs k w om),⟨⟨oK,(qr (by omega) (by omega) (by omega) (by omega))⟩,tt ⟨?_,oK⟩⟩⟩⟩
 rfl
abbrev KM (ws xs : List Int) (k w : Int) : Ct := ⟨131,(iA ws xs k w),false,(i6 (hC 3 ws xs k w))⟩
theorem H3 (ws xs : List Int) (k w : Int) (ho : CF ws xs 2) : CC (KM ws xs k w) := by
 obtain ⟨hl,hf,hx,hin⟩ := ho
 have f0 : 0 < ws.length → 1 ≤ ws.getD 0 0∧ws.getD 0 0 ≤ 8 := fun h => ax hf h
 have f1 : 1 < ws.length → 1 ≤ ws.getD 1 0∧ws.getD 1 0 ≤ 8 := fun h => ax hf h
 have f2 : 2 < ws.length → 1 ≤ ws.getD 2 0∧ws.getD 2 0 ≤ 8 := fun h => ax hf h
 have a0 : 0 < ws.length → 0 ≤ xs.getD 0 0∧xs.getD 0 0 ≤ ah (ws.getD 0 0) := fun h => aY hin (by omega)
 have a1 : 1 < ws.length → 0 ≤ xs.getD 1 0∧xs.getD 1 0 ≤ ah (ws.getD 1 0) := fun h => aY hin (by omega)
 have a2 : 2 < ws.length → 0 ≤ xs.getD 2 0∧xs.getD 2 0 ≤ ah (ws.getD 2 0) := fun h => aY hin (by omega)
 have m0 : 0 < ws.length → 0 ≤ ah (ws.getD 0 0)∧ah (ws.getD 0 0) ≤ 255 := fun h => ap (by have := f0 h; omega) (f0 h).2
 have m1 : 1 < ws.length → 0 ≤ ah (ws.getD 1 0)∧ah (ws.getD 1 0) ≤ 255 := fun h => ap (by have := f1 h; omega) (f1 h).2
 have m2 : 2 < ws.length → 0 ≤ ah (ws.getD 2 0)∧ah (ws.getD 2 0) ≤ 255 := fun h => ap (by have := f2 h; omega) (f2 h).2
 have b0 := f0 (by omega); have c0 := a0 (by omega); have d0 := m0 (by omega)
 have b1 := f1 (by omega); have c1 := a1 (by omega); have d1 := m1 (by omega)
 refine af.vc (V := TT 4 (IX 0 xs.length∧TT 3 (IX 1 xs.length∧TT 1 ((True∧(IntKind.wrap .i64 (BitVec.ofInt (IntKind.i64).bits (xs.getD 0 0) &&& BitVec.ofInt (IntKind.i64).bits (xs.getD 1 0)).toNat) = (((xs.getD 0 0).toNat &&& (xs.getD 1 0).toNat : Nat) : Int))∧TT 2 ((((xs.getD 0 0).toNat &&& (xs.getD 1 0).toNat : Nat) : Int) = (hC 3 ws xs k w)∧True))))) (.w 1 [(8,.val (i6 (((xs.getD 0 0).toNat &&& (xs.getD 1 0).toNat : Nat) : Int)))] <| .e) Tryz.func131 rfl rfl rfl (by kernel_rfl) ?_
 refine tt ⟨ix,tt ⟨ix,tt ⟨⟨oK,(vE (by omega) (by omega) (by omega) (by omega))⟩,tt ⟨?_,oK⟩⟩⟩⟩
 rfl
abbrev KN (ws xs : List Int) (k w : Int) : Ct := ⟨132,(iA ws xs k w),false,(i6 (hC 4 ws xs k w))⟩
theorem JB (ws xs : List Int) (k w : Int) (ho : CF ws xs 2) : CC (KN ws xs k w) := by
 obtain ⟨hl,hf,hx,hin⟩ := ho
 have f0 : 0 < ws.length → 1 ≤ ws.getD 0 0∧ws.getD 0 0 ≤ 8 := fun h => ax hf h
 have f1 : 1 < ws.length → 1 ≤ ws.getD 1 0∧ws.getD 1 0 ≤ 8 := fun h => ax hf h
 have f2 : 2 < ws.length → 1 ≤ ws.getD 2 0∧ws.getD 2 0 ≤ 8 := fun h => ax hf h
 have a0 : 0 < ws.length → 0 ≤ xs.getD 0 0∧xs.getD 0 0 ≤ ah (ws.getD 0 0) := fun h => aY hin (by omega)
 have a1 : 1 < ws.length → 0 ≤ xs.getD 1 0∧xs.getD 1 0 ≤ ah (ws.getD 1 0) := fun h => aY hin (by omega)
 have a2 : 2 < ws.length → 0 ≤ xs.getD 2 0∧xs.getD 2 0 ≤ ah (ws.getD 2 0) := fun h => aY hin (by omega)
 have m0 : 0 < ws.length → 0 ≤ ah (ws.getD 0 0)∧ah (ws.getD 0 0) ≤ 255 := fun h => ap (by have := f0 h; omega) (f0 h).2
 have m1 : 1 < ws.length → 0 ≤ ah (ws.getD 1 0)∧ah (ws.getD 1 0) ≤ 255 := fun h => ap (by have := f1 h; omega) (f1 h).2
 have m2 : 2 < ws.length → 0 ≤ ah (ws.getD 2 0)∧ah (ws.getD 2 0) ≤ 255 := fun h => ap (by have := f2 h; omega) (f2 h).2
 have b0 := f0 (by omega); have c0 := a0 (by omega); have d0 := m0 (by omega)
 have b1 := f1 (by omega); have c1 := a1 (by omega); have d1 := m1 (by omega)
 refine af.vc (V := TT 4 (IX 0 xs.length∧TT 3 (IX 1 xs.length∧TT 1 ((True∧(IntKind.wrap .i64 (BitVec.ofInt (IntKind.i64).bits (xs.getD 0 0) ||| BitVec.ofInt (IntKind.i64).bits (xs.getD 1 0)).toNat) = (((xs.getD 0 0).toNat ||| (xs.getD 1 0).toNat : Nat) : Int))∧TT 2 ((((xs.getD 0 0).toNat ||| (xs.getD 1 0).toNat : Nat) : Int) = (hC 4 ws xs k w)∧True))))) (.w 1 [(8,.val (i6 (((xs.getD 0 0).toNat ||| (xs.getD 1 0).toNat : Nat) : Int)))] <| .e) Tryz.func132 rfl rfl rfl (by kernel_rfl) ?_
 refine tt ⟨ix,tt ⟨ix,tt ⟨⟨oK,(yw (by omega) (by omega) (by omega) (by omega))⟩,tt ⟨?_,oK⟩⟩⟩⟩
 rfl
abbrev KO (ws xs : List Int) (k w : Int) : Ct := ⟨133,(iA ws xs k w),false,(i6 (hC 5 ws xs k w))⟩
theorem H4 (ws xs : List Int) (k w : Int) (ho : CF ws xs 2) : CC (KO ws xs k w) := by
 obtain ⟨hl,hf,hx,hin⟩ := ho
 have f0 : 0 < ws.length → 1 ≤ ws.getD 0 0∧ws.getD 0 0 ≤ 8 := fun h => ax hf h
 have f1 : 1 < ws.length → 1 ≤ ws.getD 1 0∧ws.getD 1 0 ≤ 8 := fun h => ax hf h
 have f2 : 2 < ws.length → 1 ≤ ws.getD 2 0∧ws.getD 2 0 ≤ 8 := fun h => ax hf h
 have a0 : 0 < ws.length → 0 ≤ xs.getD 0 0∧xs.getD 0 0 ≤ ah (ws.getD 0 0) := fun h => aY hin (by omega)
 have a1 : 1 < ws.length → 0 ≤ xs.getD 1 0∧xs.getD 1 0 ≤ ah (ws.getD 1 0) := fun h => aY hin (by omega)
 have a2 : 2 < ws.length → 0 ≤ xs.getD 2 0∧xs.getD 2 0 ≤ ah (ws.getD 2 0) := fun h => aY hin (by omega)
 have m0 : 0 < ws.length → 0 ≤ ah (ws.getD 0 0)∧ah (ws.getD 0 0) ≤ 255 := fun h => ap (by have := f0 h; omega) (f0 h).2
 have m1 : 1 < ws.length → 0 ≤ ah (ws.getD 1 0)∧ah (ws.getD 1 0) ≤ 255 := fun h => ap (by have := f1 h; omega) (f1 h).2
 have m2 : 2 < ws.length → 0 ≤ ah (ws.getD 2 0)∧ah (ws.getD 2 0) ≤ 255 := fun h => ap (by have := f2 h; omega) (f2 h).2
 have b0 := f0 (by omega); have c0 := a0 (by omega); have d0 := m0 (by omega)
 have b1 := f1 (by omega); have c1 := a1 (by omega); have d1 := m1 (by omega)
 refine af.vc (V := TT 4 (IX 0 xs.length∧TT 3 (IX 1 xs.length∧TT 1 ((True∧(IntKind.wrap .i64 (BitVec.ofInt (IntKind.i64).bits (xs.getD 0 0) ^^^ BitVec.ofInt (IntKind.i64).bits (xs.getD 1 0)).toNat) = (((xs.getD 0 0).toNat ^^^ (xs.getD 1 0).toNat : Nat) : Int))∧TT 2 ((((xs.getD 0 0).toNat ^^^ (xs.getD 1 0).toNat : Nat) : Int) = (hC 5 ws xs k w)∧True))))) (.w 1 [(8,.val (i6 (((xs.getD 0 0).toNat ^^^ (xs.getD 1 0).toNat : Nat) : Int)))] <| .e) Tryz.func133 rfl rfl rfl (by kernel_rfl) ?_
 refine tt ⟨ix,tt ⟨ix,tt ⟨⟨oK,(qr (by omega) (by omega) (by omega) (by omega))⟩,tt ⟨?_,oK⟩⟩⟩⟩
 rfl
abbrev KP (ws xs : List Int) (k w : Int) : Ct := ⟨134,(iA ws xs k w),false,(i6 (hC 6 ws xs k w))⟩
theorem H5 (ws xs : List Int) (k w : Int) (ho : CF ws xs 2) : CC (KP ws xs k w) := by
 obtain ⟨hl,hf,hx,hin⟩ := ho
 have f0 : 0 < ws.length → 1 ≤ ws.getD 0 0∧ws.getD 0 0 ≤ 8 := fun h => ax hf h
 have f1 : 1 < ws.length → 1 ≤ ws.getD 1 0∧ws.getD 1 0 ≤ 8 := fun h => ax hf h
 have f2 : 2 < ws.length → 1 ≤ ws.getD 2 0∧ws.getD 2 0 ≤ 8 := fun h => ax hf h
 have a0 : 0 < ws.length → 0 ≤ xs.getD 0 0∧xs.getD 0 0 ≤ ah (ws.getD 0 0) := fun h => aY hin (by omega)
 have a1 : 1 < ws.length → 0 ≤ xs.getD 1 0∧xs.getD 1 0 ≤ ah (ws.getD 1 0) := fun h => aY hin (by omega)
 have a2 : 2 < ws.length → 0 ≤ xs.getD 2 0∧xs.getD 2 0 ≤ ah (ws.getD 2 0) := fun h => aY hin (by omega)
 have m0 : 0 < ws.length → 0 ≤ ah (ws.getD 0 0)∧ah (ws.getD 0 0) ≤ 255 := fun h => ap (by have := f0 h; omega) (f0 h).2
 have m1 : 1 < ws.length → 0 ≤ ah (ws.getD 1 0)∧ah (ws.getD 1 0) ≤ 255 := fun h => ap (by have := f1 h; omega) (f1 h).2
 have m2 : 2 < ws.length → 0 ≤ ah (ws.getD 2 0)∧ah (ws.getD 2 0) ≤ 255 := fun h => ap (by have := f2 h; omega) (f2 h).2
 have b0 := f0 (by omega); have c0 := a0 (by omega); have d0 := m0 (by omega)
 have b1 := f1 (by omega); have c1 := a1 (by omega); have d1 := m1 (by omega)
 refine af.vc (V := TT 4 (IX 0 xs.length∧TT 3 (IX 1 xs.length∧TT 1 (W6 ((xs.getD 0 0) + (xs.getD 1 0))∧TT 1 (CC (zX ws xs k w)∧(True∧(IntKind.wrap .i64 (BitVec.ofInt (IntKind.i64).bits ((xs.getD 0 0) + (xs.getD 1 0)) &&& BitVec.ofInt (IntKind.i64).bits (ah (ws.getD 0 0))).toNat) = ((xs.getD 0 0 + xs.getD 1 0) % 2 ^ (ws.getD 0 0).toNat))∧TT 2 (((xs.getD 0 0 + xs.getD 1 0) % 2 ^ (ws.getD 0 0).toNat) = (hC 6 ws xs k w)∧True)))))) (.w 1 [(8,.val (i6 ((xs.getD 0 0) + (xs.getD 1 0)))),(10,(zX ws xs k w).O),(11,.val (i6 ((xs.getD 0 0 + xs.getD 1 0) % 2 ^ (ws.getD 0 0).toNat)))] <| .e) Tryz.func134 rfl rfl rfl (by kernel_rfl) ?_
 refine tt ⟨ix,tt ⟨ix,tt ⟨w6,tt ⟨(tu ws xs k w om),⟨⟨oK,(by rw [cr (by omega) (by omega)]; exact jg (by omega))⟩,tt ⟨?_,oK⟩⟩⟩⟩⟩⟩
 rfl
abbrev KQ (ws xs : List Int) (k w : Int) : Ct := ⟨135,(iA ws xs k w),false,(i6 (hC 7 ws xs k w))⟩
theorem H6 (ws xs : List Int) (k w : Int) (ho : CF ws xs 2) : CC (KQ ws xs k w) := by
 obtain ⟨hl,hf,hx,hin⟩ := ho
 have f0 : 0 < ws.length → 1 ≤ ws.getD 0 0∧ws.getD 0 0 ≤ 8 := fun h => ax hf h
 have f1 : 1 < ws.length → 1 ≤ ws.getD 1 0∧ws.getD 1 0 ≤ 8 := fun h => ax hf h
 have f2 : 2 < ws.length → 1 ≤ ws.getD 2 0∧ws.getD 2 0 ≤ 8 := fun h => ax hf h
 have a0 : 0 < ws.length → 0 ≤ xs.getD 0 0∧xs.getD 0 0 ≤ ah (ws.getD 0 0) := fun h => aY hin (by omega)
 have a1 : 1 < ws.length → 0 ≤ xs.getD 1 0∧xs.getD 1 0 ≤ ah (ws.getD 1 0) := fun h => aY hin (by omega)
 have a2 : 2 < ws.length → 0 ≤ xs.getD 2 0∧xs.getD 2 0 ≤ ah (ws.getD 2 0) := fun h => aY hin (by omega)
 have m0 : 0 < ws.length → 0 ≤ ah (ws.getD 0 0)∧ah (ws.getD 0 0) ≤ 255 := fun h => ap (by have := f0 h; omega) (f0 h).2
 have m1 : 1 < ws.length → 0 ≤ ah (ws.getD 1 0)∧ah (ws.getD 1 0) ≤ 255 := fun h => ap (by have := f1 h; omega) (f1 h).2
 have m2 : 2 < ws.length → 0 ≤ ah (ws.getD 2 0)∧ah (ws.getD 2 0) ≤ 255 := fun h => ap (by have := f2 h; omega) (f2 h).2
 have b0 := f0 (by omega); have c0 := a0 (by omega); have d0 := m0 (by omega)
 have b1 := f1 (by omega); have c1 := a1 (by omega); have d1 := m1 (by omega)
 refine af.vc (V := TT 4 (IX 0 xs.length∧TT 3 (IX 1 xs.length∧TT 1 (W6 ((xs.getD 0 0) - (xs.getD 1 0))∧TT 1 (CC (zX ws xs k w)∧(True∧(IntKind.wrap .i64 (BitVec.ofInt (IntKind.i64).bits ((xs.getD 0 0) - (xs.getD 1 0)) &&& BitVec.ofInt (IntKind.i64).bits (ah (ws.getD 0 0))).toNat) = ((xs.getD 0 0 - xs.getD 1 0) % 2 ^ (ws.getD 0 0).toNat))∧TT 2 (((xs.getD 0 0 - xs.getD 1 0) % 2 ^ (ws.getD 0 0).toNat) = (hC 7 ws xs k w)∧True)))))) (.w 1 [(8,.val (i6 ((xs.getD 0 0) - (xs.getD 1 0)))),(10,(zX ws xs k w).O),(11,.val (i6 ((xs.getD 0 0 - xs.getD 1 0) % 2 ^ (ws.getD 0 0).toNat)))] <| .e) Tryz.func135 rfl rfl rfl (by kernel_rfl) ?_
 refine tt ⟨ix,tt ⟨ix,tt ⟨w6,tt ⟨(tu ws xs k w om),⟨⟨oK,(by rw [cr (by omega) (by omega)]; exact jg (by omega))⟩,tt ⟨?_,oK⟩⟩⟩⟩⟩⟩
 rfl
abbrev KR (ws xs : List Int) (k w : Int) : Ct := ⟨137,(iA ws xs k w),false,(i6 (hC 8 ws xs k w))⟩
theorem JC (ws xs : List Int) (k w : Int) (ho : CF ws xs 2) : CC (KR ws xs k w) := by
 obtain ⟨hl,hf,hx,hin⟩ := ho
 have f0 : 0 < ws.length → 1 ≤ ws.getD 0 0∧ws.getD 0 0 ≤ 8 := fun h => ax hf h
 have f1 : 1 < ws.length → 1 ≤ ws.getD 1 0∧ws.getD 1 0 ≤ 8 := fun h => ax hf h
 have f2 : 2 < ws.length → 1 ≤ ws.getD 2 0∧ws.getD 2 0 ≤ 8 := fun h => ax hf h
 have a0 : 0 < ws.length → 0 ≤ xs.getD 0 0∧xs.getD 0 0 ≤ ah (ws.getD 0 0) := fun h => aY hin (by omega)
 have a1 : 1 < ws.length → 0 ≤ xs.getD 1 0∧xs.getD 1 0 ≤ ah (ws.getD 1 0) := fun h => aY hin (by omega)
 have a2 : 2 < ws.length → 0 ≤ xs.getD 2 0∧xs.getD 2 0 ≤ ah (ws.getD 2 0) := fun h => aY hin (by omega)
 have m0 : 0 < ws.length → 0 ≤ ah (ws.getD 0 0)∧ah (ws.getD 0 0) ≤ 255 := fun h => ap (by have := f0 h; omega) (f0 h).2
 have m1 : 1 < ws.length → 0 ≤ ah (ws.getD 1 0)∧ah (ws.getD 1 0) ≤ 255 := fun h => ap (by have := f1 h; omega) (f1 h).2
 have m2 : 2 < ws.length → 0 ≤ ah (ws.getD 2 0)∧ah (ws.getD 2 0) ≤ 255 := fun h => ap (by have := f2 h; omega) (f2 h).2
 have b0 := f0 (by omega); have c0 := a0 (by omega); have d0 := m0 (by omega)
 have b1 := f1 (by omega); have c1 := a1 (by omega); have d1 := m1 (by omega)
 refine af.vc (V := TT 4 (IX 0 xs.length∧TT 3 (IX 1 xs.length∧TT 2 (CC (Ec ((xs.getD 0 0) == (xs.getD 1 0)))∧TT 2 ((if ((xs.getD 0 0) == (xs.getD 1 0)) = true then 1 else 0) = (hC 8 ws xs k w)∧True))))) (.w 1 [(9,(Ec ((xs.getD 0 0) == (xs.getD 1 0))).O)] <| .e) Tryz.func137 rfl rfl rfl (by kernel_rfl) ?_
 refine tt ⟨ix,tt ⟨ix,tt ⟨(Ed ((xs.getD 0 0) == (xs.getD 1 0))),tt ⟨?_,oK⟩⟩⟩⟩
 show _ = (if xs.getD 0 0 = xs.getD 1 0 then (1 : Int) else 0)
 by_cases h : xs.getD 0 0 = xs.getD 1 0
 · rw [if_pos h,if_pos (by simpa using h)]
 · rw [if_neg h,if_neg (by simpa using h)]
abbrev KS (ws xs : List Int) (k w : Int) : Ct := ⟨139,(iA ws xs k w),false,(i6 (hC 9 ws xs k w))⟩
theorem JD (ws xs : List Int) (k w : Int) (ho : CF ws xs 2) : CC (KS ws xs k w) := by
 obtain ⟨hl,hf,hx,hin⟩ := ho
 have f0 : 0 < ws.length → 1 ≤ ws.getD 0 0∧ws.getD 0 0 ≤ 8 := fun h => ax hf h
 have f1 : 1 < ws.length → 1 ≤ ws.getD 1 0∧ws.getD 1 0 ≤ 8 := fun h => ax hf h
 have f2 : 2 < ws.length → 1 ≤ ws.getD 2 0∧ws.getD 2 0 ≤ 8 := fun h => ax hf h
 have a0 : 0 < ws.length → 0 ≤ xs.getD 0 0∧xs.getD 0 0 ≤ ah (ws.getD 0 0) := fun h => aY hin (by omega)
 have a1 : 1 < ws.length → 0 ≤ xs.getD 1 0∧xs.getD 1 0 ≤ ah (ws.getD 1 0) := fun h => aY hin (by omega)
 have a2 : 2 < ws.length → 0 ≤ xs.getD 2 0∧xs.getD 2 0 ≤ ah (ws.getD 2 0) := fun h => aY hin (by omega)
 have m0 : 0 < ws.length → 0 ≤ ah (ws.getD 0 0)∧ah (ws.getD 0 0) ≤ 255 := fun h => ap (by have := f0 h; omega) (f0 h).2
 have m1 : 1 < ws.length → 0 ≤ ah (ws.getD 1 0)∧ah (ws.getD 1 0) ≤ 255 := fun h => ap (by have := f1 h; omega) (f1 h).2
 have m2 : 2 < ws.length → 0 ≤ ah (ws.getD 2 0)∧ah (ws.getD 2 0) ≤ 255 := fun h => ap (by have := f2 h; omega) (f2 h).2
 have b0 := f0 (by omega); have c0 := a0 (by omega); have d0 := m0 (by omega)
 have b1 := f1 (by omega); have c1 := a1 (by omega); have d1 := m1 (by omega)
 refine af.vc (V := TT 4 (IX 0 xs.length∧TT 3 (IX 1 xs.length∧TT 2 (CC (Ec (decide ((xs.getD 0 0) < (xs.getD 1 0))))∧TT 2 ((if (decide ((xs.getD 0 0) < (xs.getD 1 0))) = true then 1 else 0) = (hC 9 ws xs k w)∧True))))) (.w 1 [(9,(Ec (decide ((xs.getD 0 0) < (xs.getD 1 0)))).O)] <| .e) Tryz.func139 rfl rfl rfl (by kernel_rfl) ?_
 refine tt ⟨ix,tt ⟨ix,tt ⟨(Ed (decide ((xs.getD 0 0) < (xs.getD 1 0)))),tt ⟨?_,oK⟩⟩⟩⟩
 show _ = (if xs.getD 0 0 < xs.getD 1 0 then (1 : Int) else 0)
 by_cases h : xs.getD 0 0 < xs.getD 1 0
 · rw [if_pos h,if_pos (by simpa using h)]
 · rw [if_neg h,if_neg (by simpa using h)]
abbrev KT (ws xs : List Int) (k w : Int) : Ct := ⟨141,(iA ws xs k w),false,(i6 (hC 1 ws xs k w))⟩
theorem Ei (ws xs : List Int) (k w : Int) (ho : CF ws xs 0) : CC (KT ws xs k w) := by
 obtain ⟨hl,hf,hx,hin⟩ := ho
 have f0 : 0 < ws.length → 1 ≤ ws.getD 0 0∧ws.getD 0 0 ≤ 8 := fun h => ax hf h
 have f1 : 1 < ws.length → 1 ≤ ws.getD 1 0∧ws.getD 1 0 ≤ 8 := fun h => ax hf h
 have f2 : 2 < ws.length → 1 ≤ ws.getD 2 0∧ws.getD 2 0 ≤ 8 := fun h => ax hf h
 have a0 : 0 < ws.length → 0 ≤ xs.getD 0 0∧xs.getD 0 0 ≤ ah (ws.getD 0 0) := fun h => aY hin (by omega)
 have a1 : 1 < ws.length → 0 ≤ xs.getD 1 0∧xs.getD 1 0 ≤ ah (ws.getD 1 0) := fun h => aY hin (by omega)
 have a2 : 2 < ws.length → 0 ≤ xs.getD 2 0∧xs.getD 2 0 ≤ ah (ws.getD 2 0) := fun h => aY hin (by omega)
 have m0 : 0 < ws.length → 0 ≤ ah (ws.getD 0 0)∧ah (ws.getD 0 0) ≤ 255 := fun h => ap (by have := f0 h; omega) (f0 h).2
 have m1 : 1 < ws.length → 0 ≤ ah (ws.getD 1 0)∧ah (ws.getD 1 0) ≤ 255 := fun h => ap (by have := f1 h; omega) (f1 h).2
 have m2 : 2 < ws.length → 0 ≤ ah (ws.getD 2 0)∧ah (ws.getD 2 0) ≤ 255 := fun h => ap (by have := f2 h; omega) (f2 h).2
 refine af.vc (V := TT 6 (k = (hC 1 ws xs k w)∧True)) (.e) Tryz.func141 rfl rfl rfl (by kernel_rfl) ?_
 refine tt ⟨?_,oK⟩
 rfl
abbrev KU (ws xs : List Int) (k w : Int) : Ct := ⟨149,(iA ws xs k w),false,(i6 (hC 13 ws xs k w))⟩
theorem H7 (ws xs : List Int) (k w : Int) (ho : CF ws xs 1) : CC (KU ws xs k w) := by
 obtain ⟨hl,hf,hx,hin⟩ := ho
 have f0 : 0 < ws.length → 1 ≤ ws.getD 0 0∧ws.getD 0 0 ≤ 8 := fun h => ax hf h
 have f1 : 1 < ws.length → 1 ≤ ws.getD 1 0∧ws.getD 1 0 ≤ 8 := fun h => ax hf h
 have f2 : 2 < ws.length → 1 ≤ ws.getD 2 0∧ws.getD 2 0 ≤ 8 := fun h => ax hf h
 have a0 : 0 < ws.length → 0 ≤ xs.getD 0 0∧xs.getD 0 0 ≤ ah (ws.getD 0 0) := fun h => aY hin (by omega)
 have a1 : 1 < ws.length → 0 ≤ xs.getD 1 0∧xs.getD 1 0 ≤ ah (ws.getD 1 0) := fun h => aY hin (by omega)
 have a2 : 2 < ws.length → 0 ≤ xs.getD 2 0∧xs.getD 2 0 ≤ ah (ws.getD 2 0) := fun h => aY hin (by omega)
 have m0 : 0 < ws.length → 0 ≤ ah (ws.getD 0 0)∧ah (ws.getD 0 0) ≤ 255 := fun h => ap (by have := f0 h; omega) (f0 h).2
 have m1 : 1 < ws.length → 0 ≤ ah (ws.getD 1 0)∧ah (ws.getD 1 0) ≤ 255 := fun h => ap (by have := f1 h; omega) (f1 h).2
 have m2 : 2 < ws.length → 0 ≤ ah (ws.getD 2 0)∧ah (ws.getD 2 0) ≤ 255 := fun h => ap (by have := f2 h; omega) (f2 h).2
 have b0 := f0 (by omega); have c0 := a0 (by omega); have d0 := m0 (by omega)
 refine af.vc (V := TT 4 (IX 0 xs.length∧TT 3 ((xs.getD 0 0) = (hC 13 ws xs k w)∧True))) (.e) Tryz.func149 rfl rfl rfl (by kernel_rfl) ?_
 refine tt ⟨ix,tt ⟨?_,oK⟩⟩
 rfl
abbrev KV (ws xs : List Int) (k w : Int) : Ct := ⟨143,(iA ws xs k w),false,(i6 (hC 10 ws xs k w))⟩
theorem H8 (ws xs : List Int) (k w : Int) (ho : CF ws xs 3) (h1 : ws.getD 0 0 = 1) : CC (KV ws xs k w) := by
 obtain ⟨hl,hf,hx,hin⟩ := ho
 have f0 : 0 < ws.length → 1 ≤ ws.getD 0 0∧ws.getD 0 0 ≤ 8 := fun h => ax hf h
 have f1 : 1 < ws.length → 1 ≤ ws.getD 1 0∧ws.getD 1 0 ≤ 8 := fun h => ax hf h
 have f2 : 2 < ws.length → 1 ≤ ws.getD 2 0∧ws.getD 2 0 ≤ 8 := fun h => ax hf h
 have a0 : 0 < ws.length → 0 ≤ xs.getD 0 0∧xs.getD 0 0 ≤ ah (ws.getD 0 0) := fun h => aY hin (by omega)
 have a1 : 1 < ws.length → 0 ≤ xs.getD 1 0∧xs.getD 1 0 ≤ ah (ws.getD 1 0) := fun h => aY hin (by omega)
 have a2 : 2 < ws.length → 0 ≤ xs.getD 2 0∧xs.getD 2 0 ≤ ah (ws.getD 2 0) := fun h => aY hin (by omega)
 have m0 : 0 < ws.length → 0 ≤ ah (ws.getD 0 0)∧ah (ws.getD 0 0) ≤ 255 := fun h => ap (by have := f0 h; omega) (f0 h).2
 have m1 : 1 < ws.length → 0 ≤ ah (ws.getD 1 0)∧ah (ws.getD 1 0) ≤ 255 := fun h => ap (by have := f1 h; omega) (f1 h).2
 have m2 : 2 < ws.length → 0 ≤ ah (ws.getD 2 0)∧ah (ws.getD 2 0) ≤ 255 := fun h => ap (by have := f2 h; omega) (f2 h).2
 have b0 := f0 (by omega); have c0 := a0 (by omega); have d0 := m0 (by omega)
 have b1 := f1 (by omega); have c1 := a1 (by omega); have d1 := m1 (by omega)
 have b2 := f2 (by omega); have c2 := a2 (by omega); have d2 := m2 (by omega)
 have hm1 : ah (ws.getD 0 0) = 1 := by rw [h1]; decide
 have hx0 : xs.getD 0 0 = 0 ∨ xs.getD 0 0 = 1 := by omega
 refine af.vc (V := TT 6 (IX 0 xs.length∧TT 1 (W6 (2 - (xs.getD 0 0))∧IX (2 - (xs.getD 0 0)) xs.length∧TT 3 ((xs.getD ((2 - (xs.getD 0 0)).toNat) 0) = (hC 10 ws xs k w)∧True)))) (.w 1 [(6,.val (i6 (2 - (xs.getD 0 0))))] <| .e) Tryz.func143 rfl rfl rfl (by kernel_rfl) ?_
 refine tt ⟨ix,tt ⟨w6,⟨ix,tt ⟨?_,oK⟩⟩⟩⟩
 rfl
abbrev KW (ws xs : List Int) (k w : Int) : Ct := ⟨145,(iA ws xs k w),false,(i6 (hC 11 ws xs k w))⟩
theorem H9 (ws xs : List Int) (k w : Int) (ho : CF ws xs 2) : CC (KW ws xs k w) := by
 obtain ⟨hl,hf,hx,hin⟩ := ho
 have f0 : 0 < ws.length → 1 ≤ ws.getD 0 0∧ws.getD 0 0 ≤ 8 := fun h => ax hf h
 have f1 : 1 < ws.length → 1 ≤ ws.getD 1 0∧ws.getD 1 0 ≤ 8 := fun h => ax hf h
 have f2 : 2 < ws.length → 1 ≤ ws.getD 2 0∧ws.getD 2 0 ≤ 8 := fun h => ax hf h
 have a0 : 0 < ws.length → 0 ≤ xs.getD 0 0∧xs.getD 0 0 ≤ ah (ws.getD 0 0) := fun h => aY hin (by omega)
 have a1 : 1 < ws.length → 0 ≤ xs.getD 1 0∧xs.getD 1 0 ≤ ah (ws.getD 1 0) := fun h => aY hin (by omega)
 have a2 : 2 < ws.length → 0 ≤ xs.getD 2 0∧xs.getD 2 0 ≤ ah (ws.getD 2 0) := fun h => aY hin (by omega)
 have m0 : 0 < ws.length → 0 ≤ ah (ws.getD 0 0)∧ah (ws.getD 0 0) ≤ 255 := fun h => ap (by have := f0 h; omega) (f0 h).2
 have m1 : 1 < ws.length → 0 ≤ ah (ws.getD 1 0)∧ah (ws.getD 1 0) ≤ 255 := fun h => ap (by have := f1 h; omega) (f1 h).2
 have m2 : 2 < ws.length → 0 ≤ ah (ws.getD 2 0)∧ah (ws.getD 2 0) ≤ 255 := fun h => ap (by have := f2 h; omega) (f2 h).2
 have b0 := f0 (by omega); have c0 := a0 (by omega); have d0 := m0 (by omega)
 have b1 := f1 (by omega); have c1 := a1 (by omega); have d1 := m1 (by omega)
 refine af.vc (V := TT 4 (IX 0 xs.length∧TT 3 (IX 1 ws.length∧TT 1 ((0 ≤ (ws.getD 1 0)∧(IntKind.wrap .i64 ((xs.getD 0 0) * 2 ^ min ((ws.getD 1 0).toNat) 64)) = (((xs.getD 0 0).toNat * 2 ^ (ws.getD 1 0).toNat : Nat) : Int))∧TT 2 (IX 1 xs.length∧TT 1 ((True∧(IntKind.wrap .i64 (BitVec.ofInt (IntKind.i64).bits (((xs.getD 0 0).toNat * 2 ^ (ws.getD 1 0).toNat : Nat) : Int) ||| BitVec.ofInt (IntKind.i64).bits (xs.getD 1 0)).toNat) = (((xs.getD 0 0).toNat * 2 ^ (ws.getD 1 0).toNat ||| (xs.getD 1 0).toNat : Nat) : Int))∧TT 2 ((((xs.getD 0 0).toNat * 2 ^ (ws.getD 1 0).toNat ||| (xs.getD 1 0).toNat : Nat) : Int) = (hC 11 ws xs k w)∧True))))))) (.w 1 [(8,.val (i6 (((xs.getD 0 0).toNat * 2 ^ (ws.getD 1 0).toNat : Nat) : Int))),(13,.val (i6 (((xs.getD 0 0).toNat * 2 ^ (ws.getD 1 0).toNat ||| (xs.getD 1 0).toNat : Nat) : Int)))] <| .e) Tryz.func145 rfl rfl rfl (by kernel_rfl) ?_
 refine tt ⟨ix,tt ⟨ix,tt ⟨⟨om,(A6 (by omega) (by omega))⟩,tt ⟨ix,tt ⟨⟨oK,(A7 (by omega) (by omega) (by omega))⟩,tt ⟨?_,oK⟩⟩⟩⟩⟩⟩
 rfl
abbrev KX (ws xs : List Int) (k w : Int) : Ct := ⟨147,(iA ws xs k w),false,(i6 (hC 12 ws xs k w))⟩
theorem Ej (ws xs : List Int) (k w : Int) (ho : CF ws xs 1) (hk : 0 ≤ k∧k ≤ 8∧an w = true) : CC (KX ws xs k w) := by
 obtain ⟨hl,hf,hx,hin⟩ := ho
 have f0 : 0 < ws.length → 1 ≤ ws.getD 0 0∧ws.getD 0 0 ≤ 8 := fun h => ax hf h
 have f1 : 1 < ws.length → 1 ≤ ws.getD 1 0∧ws.getD 1 0 ≤ 8 := fun h => ax hf h
 have f2 : 2 < ws.length → 1 ≤ ws.getD 2 0∧ws.getD 2 0 ≤ 8 := fun h => ax hf h
 have a0 : 0 < ws.length → 0 ≤ xs.getD 0 0∧xs.getD 0 0 ≤ ah (ws.getD 0 0) := fun h => aY hin (by omega)
 have a1 : 1 < ws.length → 0 ≤ xs.getD 1 0∧xs.getD 1 0 ≤ ah (ws.getD 1 0) := fun h => aY hin (by omega)
 have a2 : 2 < ws.length → 0 ≤ xs.getD 2 0∧xs.getD 2 0 ≤ ah (ws.getD 2 0) := fun h => aY hin (by omega)
 have m0 : 0 < ws.length → 0 ≤ ah (ws.getD 0 0)∧ah (ws.getD 0 0) ≤ 255 := fun h => ap (by have := f0 h; omega) (f0 h).2
 have m1 : 1 < ws.length → 0 ≤ ah (ws.getD 1 0)∧ah (ws.getD 1 0) ≤ 255 := fun h => ap (by have := f1 h; omega) (f1 h).2
 have m2 : 2 < ws.length → 0 ≤ ah (ws.getD 2 0)∧ah (ws.getD 2 0) ≤ 255 := fun h => ap (by have := f2 h; omega) (f2 h).2
 have b0 := f0 (by omega); have c0 := a0 (by omega); have d0 := m0 (by omega)
 have hw := aP.1 hk.2.2
 refine af.vc (V := TT 4 (IX 0 xs.length∧TT 3 ((0 ≤ k∧(Int.fdiv (xs.getD 0 0) (2 ^ min k.toNat 64)) = (xs.getD 0 0 / 2 ^ k.toNat))∧TT 2 (CC (wW w)∧(True∧(IntKind.wrap .i64 (BitVec.ofInt (IntKind.i64).bits (xs.getD 0 0 / 2 ^ k.toNat) &&& BitVec.ofInt (IntKind.i64).bits (ah w)).toNat) = ((xs.getD 0 0 / 2 ^ k.toNat) % 2 ^ w.toNat))∧TT 2 (((xs.getD 0 0 / 2 ^ k.toNat) % 2 ^ w.toNat) = (hC 12 ws xs k w)∧True))))) (.w 1 [(6,.val (i6 (xs.getD 0 0 / 2 ^ k.toNat))),(9,(wW w).O),(10,.val (i6 ((xs.getD 0 0 / 2 ^ k.toNat) % 2 ^ w.toNat)))] <| .e) Tryz.func147 rfl rfl rfl (by kernel_rfl) ?_
 refine tt ⟨ix,tt ⟨⟨om,(A8 hk.1 (by omega))⟩,tt ⟨(rX w),⟨⟨oK,(by rw [cr (by omega) (by omega)]; exact jg (by omega))⟩,tt ⟨?_,oK⟩⟩⟩⟩⟩
 rfl
end Go.Proofs.YtgmpoenfoacofaaGreat
