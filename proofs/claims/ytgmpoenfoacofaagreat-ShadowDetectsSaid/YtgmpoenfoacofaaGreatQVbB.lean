/-
  Package bits: the values of operations.
-/
import Derived.Test.YtgmpoenfoacofaaGreatQVbA
namespace Go.Proofs.YtgmpoenfoacofaaGreat
open Go.RowKit
set_option linter.unusedVariables false
set_option linter.unusedSimpArgs false
abbrev gH (ws xs : List Int) (k w : Int) : List D := [(.agg [(LI ws),(LI xs),(i6 k),(i6 w)])]
set_option maxRecDepth 100000
structure zU (ws xs : List Int) (n : Nat) : Prop where
  hl : ws.length = n
  hf : ws.all av = true
  hx : xs.length = ws.length
  hin : zQ ws xs = true
abbrev xn (ws xs : List Int) (k w : Int) : Ct := ⟨129,(gH ws xs k w),false,(i6 (aj (ws.getD 0 0)))⟩
theorem rf (ws xs : List Int) (k w : Int) (hl : 0 < ws.length) : CC (xn ws xs k w) := by
 refine af.vc (V := TT 4 (IX 0 ws.length∧TT 1 (CC (uz (ws.getD 0 0))∧TT 2 ((aj (ws.getD 0 0)) = (aj (ws.getD 0 0))∧True)))) (.w 1 [(4,(uz (ws.getD 0 0)).O)] <| .e) Tryz.func129 rfl rfl rfl (by kernel_rfl) ?_
 exact tt ⟨ix,tt ⟨(p6 (ws.getD 0 0)),tt ⟨rfl,oK⟩⟩⟩
abbrev H0 (ws xs : List Int) (k w : Int) : Ct := ⟨128,(gH ws xs k w),false,(i6 (lg 2 ws xs k w))⟩
theorem Fs (ws xs : List Int) (k w : Int) (ho : zU ws xs 1) : CC (H0 ws xs k w) := by
 obtain ⟨hl,hf,hx,hin⟩ := ho
 have f0 : 0 < ws.length → 1 ≤ ws.getD 0 0∧ws.getD 0 0 ≤ 8 := fun h => az hf h
 have f1 : 1 < ws.length → 1 ≤ ws.getD 1 0∧ws.getD 1 0 ≤ 8 := fun h => az hf h
 have f2 : 2 < ws.length → 1 ≤ ws.getD 2 0∧ws.getD 2 0 ≤ 8 := fun h => az hf h
 have a0 : 0 < ws.length → 0 ≤ xs.getD 0 0∧xs.getD 0 0 ≤ aj (ws.getD 0 0) := fun h => a8 hin (by omega)
 have a1 : 1 < ws.length → 0 ≤ xs.getD 1 0∧xs.getD 1 0 ≤ aj (ws.getD 1 0) := fun h => a8 hin (by omega)
 have a2 : 2 < ws.length → 0 ≤ xs.getD 2 0∧xs.getD 2 0 ≤ aj (ws.getD 2 0) := fun h => a8 hin (by omega)
 have m0 : 0 < ws.length → 0 ≤ aj (ws.getD 0 0)∧aj (ws.getD 0 0) ≤ 255 := fun h => ax (by have := f0 h; omega) (f0 h).2
 have m1 : 1 < ws.length → 0 ≤ aj (ws.getD 1 0)∧aj (ws.getD 1 0) ≤ 255 := fun h => ax (by have := f1 h; omega) (f1 h).2
 have m2 : 2 < ws.length → 0 ≤ aj (ws.getD 2 0)∧aj (ws.getD 2 0) ≤ 255 := fun h => ax (by have := f2 h; omega) (f2 h).2
 have b0 := f0 (by omega); have c0 := a0 (by omega); have d0 := m0 (by omega)
 refine af.vc (V := TT 4 (IX 0 xs.length∧TT 2 (CC (xn ws xs k w)∧(True∧(IntKind.wrap .i64 (BitVec.ofInt (IntKind.i64).bits (xs.getD 0 0) ^^^ BitVec.ofInt (IntKind.i64).bits (aj (ws.getD 0 0))).toNat) = (((xs.getD 0 0).toNat ^^^ (aj (ws.getD 0 0)).toNat : Nat) : Int))∧TT 2 ((((xs.getD 0 0).toNat ^^^ (aj (ws.getD 0 0)).toNat : Nat) : Int) = (lg 2 ws xs k w)∧True)))) (.w 1 [(5,(xn ws xs k w).O),(6,.val (i6 (((xs.getD 0 0).toNat ^^^ (aj (ws.getD 0 0)).toNat : Nat) : Int)))] <| .e) Tryz.func128 rfl rfl rfl (by kernel_rfl) ?_
 refine tt ⟨ix,tt ⟨(rf ws xs k w om),⟨⟨oK,(tj (by omega) (by omega) (by omega) (by omega))⟩,tt ⟨?_,oK⟩⟩⟩⟩
 rfl
abbrev H3 (ws xs : List Int) (k w : Int) : Ct := ⟨131,(gH ws xs k w),false,(i6 (lg 3 ws xs k w))⟩
theorem Ft (ws xs : List Int) (k w : Int) (ho : zU ws xs 2) : CC (H3 ws xs k w) := by
 obtain ⟨hl,hf,hx,hin⟩ := ho
 have f0 : 0 < ws.length → 1 ≤ ws.getD 0 0∧ws.getD 0 0 ≤ 8 := fun h => az hf h
 have f1 : 1 < ws.length → 1 ≤ ws.getD 1 0∧ws.getD 1 0 ≤ 8 := fun h => az hf h
 have f2 : 2 < ws.length → 1 ≤ ws.getD 2 0∧ws.getD 2 0 ≤ 8 := fun h => az hf h
 have a0 : 0 < ws.length → 0 ≤ xs.getD 0 0∧xs.getD 0 0 ≤ aj (ws.getD 0 0) := fun h => a8 hin (by omega)
 have a1 : 1 < ws.length → 0 ≤ xs.getD 1 0∧xs.getD 1 0 ≤ aj (ws.getD 1 0) := fun h => a8 hin (by omega)
 have a2 : 2 < ws.length → 0 ≤ xs.getD 2 0∧xs.getD 2 0 ≤ aj (ws.getD 2 0) := fun h => a8 hin (by omega)
 have m0 : 0 < ws.length → 0 ≤ aj (ws.getD 0 0)∧aj (ws.getD 0 0) ≤ 255 := fun h => ax (by have := f0 h; omega) (f0 h).2
 have m1 : 1 < ws.length → 0 ≤ aj (ws.getD 1 0)∧aj (ws.getD 1 0) ≤ 255 := fun h => ax (by have := f1 h; omega) (f1 h).2
 have m2 : 2 < ws.length → 0 ≤ aj (ws.getD 2 0)∧aj (ws.getD 2 0) ≤ 255 := fun h => ax (by have := f2 h; omega) (f2 h).2
 have b0 := f0 (by omega); have c0 := a0 (by omega); have d0 := m0 (by omega)
 have b1 := f1 (by omega); have c1 := a1 (by omega); have d1 := m1 (by omega)
 refine af.vc (V := TT 4 (IX 0 xs.length∧TT 3 (IX 1 xs.length∧TT 1 ((True∧(IntKind.wrap .i64 (BitVec.ofInt (IntKind.i64).bits (xs.getD 0 0) &&& BitVec.ofInt (IntKind.i64).bits (xs.getD 1 0)).toNat) = (((xs.getD 0 0).toNat &&& (xs.getD 1 0).toNat : Nat) : Int))∧TT 2 ((((xs.getD 0 0).toNat &&& (xs.getD 1 0).toNat : Nat) : Int) = (lg 3 ws xs k w)∧True))))) (.w 1 [(8,.val (i6 (((xs.getD 0 0).toNat &&& (xs.getD 1 0).toNat : Nat) : Int)))] <| .e) Tryz.func131 rfl rfl rfl (by kernel_rfl) ?_
 refine tt ⟨ix,tt ⟨ix,tt ⟨⟨oK,(zR (by omega) (by omega) (by omega) (by omega))⟩,tt ⟨?_,oK⟩⟩⟩⟩
 rfl
abbrev H4 (ws xs : List Int) (k w : Int) : Ct := ⟨132,(gH ws xs k w),false,(i6 (lg 4 ws xs k w))⟩
theorem G2 (ws xs : List Int) (k w : Int) (ho : zU ws xs 2) : CC (H4 ws xs k w) := by
 obtain ⟨hl,hf,hx,hin⟩ := ho
 have f0 : 0 < ws.length → 1 ≤ ws.getD 0 0∧ws.getD 0 0 ≤ 8 := fun h => az hf h
 have f1 : 1 < ws.length → 1 ≤ ws.getD 1 0∧ws.getD 1 0 ≤ 8 := fun h => az hf h
 have f2 : 2 < ws.length → 1 ≤ ws.getD 2 0∧ws.getD 2 0 ≤ 8 := fun h => az hf h
 have a0 : 0 < ws.length → 0 ≤ xs.getD 0 0∧xs.getD 0 0 ≤ aj (ws.getD 0 0) := fun h => a8 hin (by omega)
 have a1 : 1 < ws.length → 0 ≤ xs.getD 1 0∧xs.getD 1 0 ≤ aj (ws.getD 1 0) := fun h => a8 hin (by omega)
 have a2 : 2 < ws.length → 0 ≤ xs.getD 2 0∧xs.getD 2 0 ≤ aj (ws.getD 2 0) := fun h => a8 hin (by omega)
 have m0 : 0 < ws.length → 0 ≤ aj (ws.getD 0 0)∧aj (ws.getD 0 0) ≤ 255 := fun h => ax (by have := f0 h; omega) (f0 h).2
 have m1 : 1 < ws.length → 0 ≤ aj (ws.getD 1 0)∧aj (ws.getD 1 0) ≤ 255 := fun h => ax (by have := f1 h; omega) (f1 h).2
 have m2 : 2 < ws.length → 0 ≤ aj (ws.getD 2 0)∧aj (ws.getD 2 0) ≤ 255 := fun h => ax (by have := f2 h; omega) (f2 h).2
 have b0 := f0 (by omega); have c0 := a0 (by omega); have d0 := m0 (by omega)
 have b1 := f1 (by omega); have c1 := a1 (by omega); have d1 := m1 (by omega)
 refine af.vc (V := TT 4 (IX 0 xs.length∧TT 3 (IX 1 xs.length∧TT 1 ((True∧(IntKind.wrap .i64 (BitVec.ofInt (IntKind.i64).bits (xs.getD 0 0) ||| BitVec.ofInt (IntKind.i64).bits (xs.getD 1 0)).toNat) = (((xs.getD 0 0).toNat ||| (xs.getD 1 0).toNat : Nat) : Int))∧TT 2 ((((xs.getD 0 0).toNat ||| (xs.getD 1 0).toNat : Nat) : Int) = (lg 4 ws xs k w)∧True))))) (.w 1 [(8,.val (i6 (((xs.getD 0 0).toNat ||| (xs.getD 1 0).toNat : Nat) : Int)))] <| .e) Tryz.func132 rfl rfl rfl (by kernel_rfl) ?_
 refine tt ⟨ix,tt ⟨ix,tt ⟨⟨oK,(Bp (by omega) (by omega) (by omega) (by omega))⟩,tt ⟨?_,oK⟩⟩⟩⟩
 rfl
abbrev H5 (ws xs : List Int) (k w : Int) : Ct := ⟨133,(gH ws xs k w),false,(i6 (lg 5 ws xs k w))⟩
theorem Fu (ws xs : List Int) (k w : Int) (ho : zU ws xs 2) : CC (H5 ws xs k w) := by
 obtain ⟨hl,hf,hx,hin⟩ := ho
 have f0 : 0 < ws.length → 1 ≤ ws.getD 0 0∧ws.getD 0 0 ≤ 8 := fun h => az hf h
 have f1 : 1 < ws.length → 1 ≤ ws.getD 1 0∧ws.getD 1 0 ≤ 8 := fun h => az hf h
 have f2 : 2 < ws.length → 1 ≤ ws.getD 2 0∧ws.getD 2 0 ≤ 8 := fun h => az hf h
 have a0 : 0 < ws.length → 0 ≤ xs.getD 0 0∧xs.getD 0 0 ≤ aj (ws.getD 0 0) := fun h => a8 hin (by omega)
 have a1 : 1 < ws.length → 0 ≤ xs.getD 1 0∧xs.getD 1 0 ≤ aj (ws.getD 1 0) := fun h => a8 hin (by omega)
 have a2 : 2 < ws.length → 0 ≤ xs.getD 2 0∧xs.getD 2 0 ≤ aj (ws.getD 2 0) := fun h => a8 hin (by omega)
 have m0 : 0 < ws.length → 0 ≤ aj (ws.getD 0 0)∧aj (ws.getD 0 0) ≤ 255 := fun h => ax (by have := f0 h; omega) (f0 h).2
 have m1 : 1 < ws.length → 0 ≤ aj (ws.getD 1 0)∧aj (ws.getD 1 0) ≤ 255 := fun h => ax (by have := f1 h; omega) (f1 h).2
 have m2 : 2 < ws.length → 0 ≤ aj (ws.getD 2 0)∧aj (ws.getD 2 0) ≤ 255 := fun h => ax (by have := f2 h; omega) (f2 h).2
 have b0 := f0 (by omega); have c0 := a0 (by omega); have d0 := m0 (by omega)
 have b1 := f1 (by omega); have c1 := a1 (by omega); have d1 := m1 (by omega)
 refine af.vc (V := TT 4 (IX 0 xs.length∧TT 3 (IX 1 xs.length∧TT 1 ((True∧(IntKind.wrap .i64 (BitVec.ofInt (IntKind.i64).bits (xs.getD 0 0) ^^^ BitVec.ofInt (IntKind.i64).bits (xs.getD 1 0)).toNat) = (((xs.getD 0 0).toNat ^^^ (xs.getD 1 0).toNat : Nat) : Int))∧TT 2 ((((xs.getD 0 0).toNat ^^^ (xs.getD 1 0).toNat : Nat) : Int) = (lg 5 ws xs k w)∧True))))) (.w 1 [(8,.val (i6 (((xs.getD 0 0).toNat ^^^ (xs.getD 1 0).toNat : Nat) : Int)))] <| .e) Tryz.func133 rfl rfl rfl (by kernel_rfl) ?_
 refine tt ⟨ix,tt ⟨ix,tt ⟨⟨oK,(tj (by omega) (by omega) (by omega) (by omega))⟩,tt ⟨?_,oK⟩⟩⟩⟩
 rfl
abbrev H6 (ws xs : List Int) (k w : Int) : Ct := ⟨134,(gH ws xs k w),false,(i6 (lg 6 ws xs k w))⟩
theorem Fv (ws xs : List Int) (k w : Int) (ho : zU ws xs 2) : CC (H6 ws xs k w) := by
 obtain ⟨hl,hf,hx,hin⟩ := ho
 have f0 : 0 < ws.length → 1 ≤ ws.getD 0 0∧ws.getD 0 0 ≤ 8 := fun h => az hf h
 have f1 : 1 < ws.length → 1 ≤ ws.getD 1 0∧ws.getD 1 0 ≤ 8 := fun h => az hf h
 have f2 : 2 < ws.length → 1 ≤ ws.getD 2 0∧ws.getD 2 0 ≤ 8 := fun h => az hf h
 have a0 : 0 < ws.length → 0 ≤ xs.getD 0 0∧xs.getD 0 0 ≤ aj (ws.getD 0 0) := fun h => a8 hin (by omega)
 have a1 : 1 < ws.length → 0 ≤ xs.getD 1 0∧xs.getD 1 0 ≤ aj (ws.getD 1 0) := fun h => a8 hin (by omega)
 have a2 : 2 < ws.length → 0 ≤ xs.getD 2 0∧xs.getD 2 0 ≤ aj (ws.getD 2 0) := fun h => a8 hin (by omega)
 have m0 : 0 < ws.length → 0 ≤ aj (ws.getD 0 0)∧aj (ws.getD 0 0) ≤ 255 := fun h => ax (by have := f0 h; omega) (f0 h).2
 have m1 : 1 < ws.length → 0 ≤ aj (ws.getD 1 0)∧aj (ws.getD 1 0) ≤ 255 := fun h => ax (by have := f1 h; omega) (f1 h).2
 have m2 : 2 < ws.length → 0 ≤ aj (ws.getD 2 0)∧aj (ws.getD 2 0) ≤ 255 := fun h => ax (by have := f2 h; omega) (f2 h).2
 have b0 := f0 (by omega); have c0 := a0 (by omega); have d0 := m0 (by omega)
 have b1 := f1 (by omega); have c1 := a1 (by omega); have d1 := m1 (by omega)
 refine af.vc (V := TT 4 (IX 0 xs.length∧TT 3 (IX 1 xs.length∧TT 1 (W6 ((xs.getD 0 0) + (xs.getD 1 0))∧TT 1 (CC (xn ws xs k w)∧(True∧(IntKind.wrap .i64 (BitVec.ofInt (IntKind.i64).bits ((xs.getD 0 0) + (xs.getD 1 0)) &&& BitVec.ofInt (IntKind.i64).bits (aj (ws.getD 0 0))).toNat) = ((xs.getD 0 0 + xs.getD 1 0) % 2 ^ (ws.getD 0 0).toNat))∧TT 2 (((xs.getD 0 0 + xs.getD 1 0) % 2 ^ (ws.getD 0 0).toNat) = (lg 6 ws xs k w)∧True)))))) (.w 1 [(8,.val (i6 ((xs.getD 0 0) + (xs.getD 1 0)))),(10,(xn ws xs k w).O),(11,.val (i6 ((xs.getD 0 0 + xs.getD 1 0) % 2 ^ (ws.getD 0 0).toNat)))] <| .e) Tryz.func134 rfl rfl rfl (by kernel_rfl) ?_
 refine tt ⟨ix,tt ⟨ix,tt ⟨w6,tt ⟨(rf ws xs k w om),⟨⟨oK,(by rw [cR (by omega) (by omega)]; exact jQ (by omega))⟩,tt ⟨?_,oK⟩⟩⟩⟩⟩⟩
 rfl
abbrev H7 (ws xs : List Int) (k w : Int) : Ct := ⟨135,(gH ws xs k w),false,(i6 (lg 7 ws xs k w))⟩
theorem Fw (ws xs : List Int) (k w : Int) (ho : zU ws xs 2) : CC (H7 ws xs k w) := by
 obtain ⟨hl,hf,hx,hin⟩ := ho
 have f0 : 0 < ws.length → 1 ≤ ws.getD 0 0∧ws.getD 0 0 ≤ 8 := fun h => az hf h
 have f1 : 1 < ws.length → 1 ≤ ws.getD 1 0∧ws.getD 1 0 ≤ 8 := fun h => az hf h
 have f2 : 2 < ws.length → 1 ≤ ws.getD 2 0∧ws.getD 2 0 ≤ 8 := fun h => az hf h
 have a0 : 0 < ws.length → 0 ≤ xs.getD 0 0∧xs.getD 0 0 ≤ aj (ws.getD 0 0) := fun h => a8 hin (by omega)
 have a1 : 1 < ws.length → 0 ≤ xs.getD 1 0∧xs.getD 1 0 ≤ aj (ws.getD 1 0) := fun h => a8 hin (by omega)
 have a2 : 2 < ws.length → 0 ≤ xs.getD 2 0∧xs.getD 2 0 ≤ aj (ws.getD 2 0) := fun h => a8 hin (by omega)
 have m0 : 0 < ws.length → 0 ≤ aj (ws.getD 0 0)∧aj (ws.getD 0 0) ≤ 255 := fun h => ax (by have := f0 h; omega) (f0 h).2
 have m1 : 1 < ws.length → 0 ≤ aj (ws.getD 1 0)∧aj (ws.getD 1 0) ≤ 255 := fun h => ax (by have := f1 h; omega) (f1 h).2
 have m2 : 2 < ws.length → 0 ≤ aj (ws.getD 2 0)∧aj (ws.getD 2 0) ≤ 255 := fun h => ax (by have := f2 h; omega) (f2 h).2
 have b0 := f0 (by omega); have c0 := a0 (by omega); have d0 := m0 (by omega)
 have b1 := f1 (by omega); have c1 := a1 (by omega); have d1 := m1 (by omega)
 refine af.vc (V := TT 4 (IX 0 xs.length∧TT 3 (IX 1 xs.length∧TT 1 (W6 ((xs.getD 0 0) - (xs.getD 1 0))∧TT 1 (CC (xn ws xs k w)∧(True∧(IntKind.wrap .i64 (BitVec.ofInt (IntKind.i64).bits ((xs.getD 0 0) - (xs.getD 1 0)) &&& BitVec.ofInt (IntKind.i64).bits (aj (ws.getD 0 0))).toNat) = ((xs.getD 0 0 - xs.getD 1 0) % 2 ^ (ws.getD 0 0).toNat))∧TT 2 (((xs.getD 0 0 - xs.getD 1 0) % 2 ^ (ws.getD 0 0).toNat) = (lg 7 ws xs k w)∧True)))))) (.w 1 [(8,.val (i6 ((xs.getD 0 0) - (xs.getD 1 0)))),(10,(xn ws xs k w).O),(11,.val (i6 ((xs.getD 0 0 - xs.getD 1 0) % 2 ^ (ws.getD 0 0).toNat)))] <| .e) Tryz.func135 rfl rfl rfl (by kernel_rfl) ?_
 refine tt ⟨ix,tt ⟨ix,tt ⟨w6,tt ⟨(rf ws xs k w om),⟨⟨oK,(by rw [cR (by omega) (by omega)]; exact jQ (by omega))⟩,tt ⟨?_,oK⟩⟩⟩⟩⟩⟩
 rfl
abbrev H8 (ws xs : List Int) (k w : Int) : Ct := ⟨137,(gH ws xs k w),false,(i6 (lg 8 ws xs k w))⟩
theorem G3 (ws xs : List Int) (k w : Int) (ho : zU ws xs 2) : CC (H8 ws xs k w) := by
 obtain ⟨hl,hf,hx,hin⟩ := ho
 have f0 : 0 < ws.length → 1 ≤ ws.getD 0 0∧ws.getD 0 0 ≤ 8 := fun h => az hf h
 have f1 : 1 < ws.length → 1 ≤ ws.getD 1 0∧ws.getD 1 0 ≤ 8 := fun h => az hf h
 have f2 : 2 < ws.length → 1 ≤ ws.getD 2 0∧ws.getD 2 0 ≤ 8 := fun h => az hf h
 have a0 : 0 < ws.length → 0 ≤ xs.getD 0 0∧xs.getD 0 0 ≤ aj (ws.getD 0 0) := fun h => a8 hin (by omega)
 have a1 : 1 < ws.length → 0 ≤ xs.getD 1 0∧xs.getD 1 0 ≤ aj (ws.getD 1 0) := fun h => a8 hin (by omega)
 have a2 : 2 < ws.length → 0 ≤ xs.getD 2 0∧xs.getD 2 0 ≤ aj (ws.getD 2 0) := fun h => a8 hin (by omega)
 have m0 : 0 < ws.length → 0 ≤ aj (ws.getD 0 0)∧aj (ws.getD 0 0) ≤ 255 := fun h => ax (by have := f0 h; omega) (f0 h).2
 have m1 : 1 < ws.length → 0 ≤ aj (ws.getD 1 0)∧aj (ws.getD 1 0) ≤ 255 := fun h => ax (by have := f1 h; omega) (f1 h).2
 have m2 : 2 < ws.length → 0 ≤ aj (ws.getD 2 0)∧aj (ws.getD 2 0) ≤ 255 := fun h => ax (by have := f2 h; omega) (f2 h).2
 have b0 := f0 (by omega); have c0 := a0 (by omega); have d0 := m0 (by omega)
 have b1 := f1 (by omega); have c1 := a1 (by omega); have d1 := m1 (by omega)
 refine af.vc (V := TT 4 (IX 0 xs.length∧TT 3 (IX 1 xs.length∧TT 2 (CC (Bs ((xs.getD 0 0) == (xs.getD 1 0)))∧TT 2 ((if ((xs.getD 0 0) == (xs.getD 1 0)) = true then 1 else 0) = (lg 8 ws xs k w)∧True))))) (.w 1 [(9,(Bs ((xs.getD 0 0) == (xs.getD 1 0))).O)] <| .e) Tryz.func137 rfl rfl rfl (by kernel_rfl) ?_
 refine tt ⟨ix,tt ⟨ix,tt ⟨(Bt ((xs.getD 0 0) == (xs.getD 1 0))),tt ⟨?_,oK⟩⟩⟩⟩
 show _ = (if xs.getD 0 0 = xs.getD 1 0 then (1 : Int) else 0)
 by_cases h : xs.getD 0 0 = xs.getD 1 0
 · rw [if_pos h,if_pos (by simpa using h)]
 · rw [if_neg h,if_neg (by simpa using h)]
abbrev H9 (ws xs : List Int) (k w : Int) : Ct := ⟨139,(gH ws xs k w),false,(i6 (lg 9 ws xs k w))⟩
theorem G4 (ws xs : List Int) (k w : Int) (ho : zU ws xs 2) : CC (H9 ws xs k w) := by
 obtain ⟨hl,hf,hx,hin⟩ := ho
 have f0 : 0 < ws.length → 1 ≤ ws.getD 0 0∧ws.getD 0 0 ≤ 8 := fun h => az hf h
 have f1 : 1 < ws.length → 1 ≤ ws.getD 1 0∧ws.getD 1 0 ≤ 8 := fun h => az hf h
 have f2 : 2 < ws.length → 1 ≤ ws.getD 2 0∧ws.getD 2 0 ≤ 8 := fun h => az hf h
 have a0 : 0 < ws.length → 0 ≤ xs.getD 0 0∧xs.getD 0 0 ≤ aj (ws.getD 0 0) := fun h => a8 hin (by omega)
 have a1 : 1 < ws.length → 0 ≤ xs.getD 1 0∧xs.getD 1 0 ≤ aj (ws.getD 1 0) := fun h => a8 hin (by omega)
 have a2 : 2 < ws.length → 0 ≤ xs.getD 2 0∧xs.getD 2 0 ≤ aj (ws.getD 2 0) := fun h => a8 hin (by omega)
 have m0 : 0 < ws.length → 0 ≤ aj (ws.getD 0 0)∧aj (ws.getD 0 0) ≤ 255 := fun h => ax (by have := f0 h; omega) (f0 h).2
 have m1 : 1 < ws.length → 0 ≤ aj (ws.getD 1 0)∧aj (ws.getD 1 0) ≤ 255 := fun h => ax (by have := f1 h; omega) (f1 h).2
 have m2 : 2 < ws.length → 0 ≤ aj (ws.getD 2 0)∧aj (ws.getD 2 0) ≤ 255 := fun h => ax (by have := f2 h; omega) (f2 h).2
 have b0 := f0 (by omega); have c0 := a0 (by omega); have d0 := m0 (by omega)
 have b1 := f1 (by omega); have c1 := a1 (by omega); have d1 := m1 (by omega)
 refine af.vc (V := TT 4 (IX 0 xs.length∧TT 3 (IX 1 xs.length∧TT 2 (CC (Bs (decide ((xs.getD 0 0) < (xs.getD 1 0))))∧TT 2 ((if (decide ((xs.getD 0 0) < (xs.getD 1 0))) = true then 1 else 0) = (lg 9 ws xs k w)∧True))))) (.w 1 [(9,(Bs (decide ((xs.getD 0 0) < (xs.getD 1 0)))).O)] <| .e) Tryz.func139 rfl rfl rfl (by kernel_rfl) ?_
 refine tt ⟨ix,tt ⟨ix,tt ⟨(Bt (decide ((xs.getD 0 0) < (xs.getD 1 0)))),tt ⟨?_,oK⟩⟩⟩⟩
 show _ = (if xs.getD 0 0 < xs.getD 1 0 then (1 : Int) else 0)
 by_cases h : xs.getD 0 0 < xs.getD 1 0
 · rw [if_pos h,if_pos (by simpa using h)]
 · rw [if_neg h,if_neg (by simpa using h)]
abbrev Ia (ws xs : List Int) (k w : Int) : Ct := ⟨141,(gH ws xs k w),false,(i6 (lg 1 ws xs k w))⟩
theorem Bz (ws xs : List Int) (k w : Int) (ho : zU ws xs 0) : CC (Ia ws xs k w) := by
 obtain ⟨hl,hf,hx,hin⟩ := ho
 have f0 : 0 < ws.length → 1 ≤ ws.getD 0 0∧ws.getD 0 0 ≤ 8 := fun h => az hf h
 have f1 : 1 < ws.length → 1 ≤ ws.getD 1 0∧ws.getD 1 0 ≤ 8 := fun h => az hf h
 have f2 : 2 < ws.length → 1 ≤ ws.getD 2 0∧ws.getD 2 0 ≤ 8 := fun h => az hf h
 have a0 : 0 < ws.length → 0 ≤ xs.getD 0 0∧xs.getD 0 0 ≤ aj (ws.getD 0 0) := fun h => a8 hin (by omega)
 have a1 : 1 < ws.length → 0 ≤ xs.getD 1 0∧xs.getD 1 0 ≤ aj (ws.getD 1 0) := fun h => a8 hin (by omega)
 have a2 : 2 < ws.length → 0 ≤ xs.getD 2 0∧xs.getD 2 0 ≤ aj (ws.getD 2 0) := fun h => a8 hin (by omega)
 have m0 : 0 < ws.length → 0 ≤ aj (ws.getD 0 0)∧aj (ws.getD 0 0) ≤ 255 := fun h => ax (by have := f0 h; omega) (f0 h).2
 have m1 : 1 < ws.length → 0 ≤ aj (ws.getD 1 0)∧aj (ws.getD 1 0) ≤ 255 := fun h => ax (by have := f1 h; omega) (f1 h).2
 have m2 : 2 < ws.length → 0 ≤ aj (ws.getD 2 0)∧aj (ws.getD 2 0) ≤ 255 := fun h => ax (by have := f2 h; omega) (f2 h).2
 refine af.vc (V := TT 6 (k = (lg 1 ws xs k w)∧True)) (.e) Tryz.func141 rfl rfl rfl (by kernel_rfl) ?_
 refine tt ⟨?_,oK⟩
 rfl
abbrev Ib (ws xs : List Int) (k w : Int) : Ct := ⟨149,(gH ws xs k w),false,(i6 (lg 13 ws xs k w))⟩
theorem Fx (ws xs : List Int) (k w : Int) (ho : zU ws xs 1) : CC (Ib ws xs k w) := by
 obtain ⟨hl,hf,hx,hin⟩ := ho
 have f0 : 0 < ws.length → 1 ≤ ws.getD 0 0∧ws.getD 0 0 ≤ 8 := fun h => az hf h
 have f1 : 1 < ws.length → 1 ≤ ws.getD 1 0∧ws.getD 1 0 ≤ 8 := fun h => az hf h
 have f2 : 2 < ws.length → 1 ≤ ws.getD 2 0∧ws.getD 2 0 ≤ 8 := fun h => az hf h
 have a0 : 0 < ws.length → 0 ≤ xs.getD 0 0∧xs.getD 0 0 ≤ aj (ws.getD 0 0) := fun h => a8 hin (by omega)
 have a1 : 1 < ws.length → 0 ≤ xs.getD 1 0∧xs.getD 1 0 ≤ aj (ws.getD 1 0) := fun h => a8 hin (by omega)
 have a2 : 2 < ws.length → 0 ≤ xs.getD 2 0∧xs.getD 2 0 ≤ aj (ws.getD 2 0) := fun h => a8 hin (by omega)
 have m0 : 0 < ws.length → 0 ≤ aj (ws.getD 0 0)∧aj (ws.getD 0 0) ≤ 255 := fun h => ax (by have := f0 h; omega) (f0 h).2
 have m1 : 1 < ws.length → 0 ≤ aj (ws.getD 1 0)∧aj (ws.getD 1 0) ≤ 255 := fun h => ax (by have := f1 h; omega) (f1 h).2
 have m2 : 2 < ws.length → 0 ≤ aj (ws.getD 2 0)∧aj (ws.getD 2 0) ≤ 255 := fun h => ax (by have := f2 h; omega) (f2 h).2
 have b0 := f0 (by omega); have c0 := a0 (by omega); have d0 := m0 (by omega)
 refine af.vc (V := TT 4 (IX 0 xs.length∧TT 3 ((xs.getD 0 0) = (lg 13 ws xs k w)∧True))) (.e) Tryz.func149 rfl rfl rfl (by kernel_rfl) ?_
 refine tt ⟨ix,tt ⟨?_,oK⟩⟩
 rfl
abbrev Ic (ws xs : List Int) (k w : Int) : Ct := ⟨143,(gH ws xs k w),false,(i6 (lg 10 ws xs k w))⟩
theorem Fy (ws xs : List Int) (k w : Int) (ho : zU ws xs 3) (h1 : ws.getD 0 0 = 1) : CC (Ic ws xs k w) := by
 obtain ⟨hl,hf,hx,hin⟩ := ho
 have f0 : 0 < ws.length → 1 ≤ ws.getD 0 0∧ws.getD 0 0 ≤ 8 := fun h => az hf h
 have f1 : 1 < ws.length → 1 ≤ ws.getD 1 0∧ws.getD 1 0 ≤ 8 := fun h => az hf h
 have f2 : 2 < ws.length → 1 ≤ ws.getD 2 0∧ws.getD 2 0 ≤ 8 := fun h => az hf h
 have a0 : 0 < ws.length → 0 ≤ xs.getD 0 0∧xs.getD 0 0 ≤ aj (ws.getD 0 0) := fun h => a8 hin (by omega)
 have a1 : 1 < ws.length → 0 ≤ xs.getD 1 0∧xs.getD 1 0 ≤ aj (ws.getD 1 0) := fun h => a8 hin (by omega)
 have a2 : 2 < ws.length → 0 ≤ xs.getD 2 0∧xs.getD 2 0 ≤ aj (ws.getD 2 0) := fun h => a8 hin (by omega)
 have m0 : 0 < ws.length → 0 ≤ aj (ws.getD 0 0)∧aj (ws.getD 0 0) ≤ 255 := fun h => ax (by have := f0 h; omega) (f0 h).2
 have m1 : 1 < ws.length → 0 ≤ aj (ws.getD 1 0)∧aj (ws.getD 1 0) ≤ 255 := fun h => ax (by have := f1 h; omega) (f1 h).2
 have m2 : 2 < ws.length → 0 ≤ aj (ws.getD 2 0)∧aj (ws.getD 2 0) ≤ 255 := fun h => ax (by have := f2 h; omega) (f2 h).2
 have b0 := f0 (by omega); have c0 := a0 (by omega); have d0 := m0 (by omega)
 have b1 := f1 (by omega); have c1 := a1 (by omega); have d1 := m1 (by omega)
 have b2 := f2 (by omega); have c2 := a2 (by omega); have d2 := m2 (by omega)
 have hm1 : aj (ws.getD 0 0) = 1 := by rw [h1]; decide
 have hx0 : xs.getD 0 0 = 0 ∨ xs.getD 0 0 = 1 := by omega
 refine af.vc (V := TT 6 (IX 0 xs.length∧TT 1 (W6 (2 - (xs.getD 0 0))∧IX (2 - (xs.getD 0 0)) xs.length∧TT 3 ((xs.getD ((2 - (xs.getD 0 0)).toNat) 0) = (lg 10 ws xs k w)∧True)))) (.w 1 [(6,.val (i6 (2 - (xs.getD 0 0))))] <| .e) Tryz.func143 rfl rfl rfl (by kernel_rfl) ?_
 refine tt ⟨ix,tt ⟨w6,⟨ix,tt ⟨?_,oK⟩⟩⟩⟩
 rfl
abbrev Ie (ws xs : List Int) (k w : Int) : Ct := ⟨145,(gH ws xs k w),false,(i6 (lg 11 ws xs k w))⟩
theorem FA (ws xs : List Int) (k w : Int) (ho : zU ws xs 2) : CC (Ie ws xs k w) := by
 obtain ⟨hl,hf,hx,hin⟩ := ho
 have f0 : 0 < ws.length → 1 ≤ ws.getD 0 0∧ws.getD 0 0 ≤ 8 := fun h => az hf h
 have f1 : 1 < ws.length → 1 ≤ ws.getD 1 0∧ws.getD 1 0 ≤ 8 := fun h => az hf h
 have f2 : 2 < ws.length → 1 ≤ ws.getD 2 0∧ws.getD 2 0 ≤ 8 := fun h => az hf h
 have a0 : 0 < ws.length → 0 ≤ xs.getD 0 0∧xs.getD 0 0 ≤ aj (ws.getD 0 0) := fun h => a8 hin (by omega)
 have a1 : 1 < ws.length → 0 ≤ xs.getD 1 0∧xs.getD 1 0 ≤ aj (ws.getD 1 0) := fun h => a8 hin (by omega)
 have a2 : 2 < ws.length → 0 ≤ xs.getD 2 0∧xs.getD 2 0 ≤ aj (ws.getD 2 0) := fun h => a8 hin (by omega)
 have m0 : 0 < ws.length → 0 ≤ aj (ws.getD 0 0)∧aj (ws.getD 0 0) ≤ 255 := fun h => ax (by have := f0 h; omega) (f0 h).2
 have m1 : 1 < ws.length → 0 ≤ aj (ws.getD 1 0)∧aj (ws.getD 1 0) ≤ 255 := fun h => ax (by have := f1 h; omega) (f1 h).2
 have m2 : 2 < ws.length → 0 ≤ aj (ws.getD 2 0)∧aj (ws.getD 2 0) ≤ 255 := fun h => ax (by have := f2 h; omega) (f2 h).2
 have b0 := f0 (by omega); have c0 := a0 (by omega); have d0 := m0 (by omega)
 have b1 := f1 (by omega); have c1 := a1 (by omega); have d1 := m1 (by omega)
 refine af.vc (V := TT 4 (IX 0 xs.length∧TT 3 (IX 1 ws.length∧TT 1 ((0 ≤ (ws.getD 1 0)∧(IntKind.wrap .i64 ((xs.getD 0 0) * 2 ^ min ((ws.getD 1 0).toNat) 64)) = (((xs.getD 0 0).toNat * 2 ^ (ws.getD 1 0).toNat : Nat) : Int))∧TT 2 (IX 1 xs.length∧TT 1 ((True∧(IntKind.wrap .i64 (BitVec.ofInt (IntKind.i64).bits (((xs.getD 0 0).toNat * 2 ^ (ws.getD 1 0).toNat : Nat) : Int) ||| BitVec.ofInt (IntKind.i64).bits (xs.getD 1 0)).toNat) = (((xs.getD 0 0).toNat * 2 ^ (ws.getD 1 0).toNat ||| (xs.getD 1 0).toNat : Nat) : Int))∧TT 2 ((((xs.getD 0 0).toNat * 2 ^ (ws.getD 1 0).toNat ||| (xs.getD 1 0).toNat : Nat) : Int) = (lg 11 ws xs k w)∧True))))))) (.w 1 [(8,.val (i6 (((xs.getD 0 0).toNat * 2 ^ (ws.getD 1 0).toNat : Nat) : Int))),(13,.val (i6 (((xs.getD 0 0).toNat * 2 ^ (ws.getD 1 0).toNat ||| (xs.getD 1 0).toNat : Nat) : Int)))] <| .e) Tryz.func145 rfl rfl rfl (by kernel_rfl) ?_
 refine tt ⟨ix,tt ⟨ix,tt ⟨⟨om,(Dz (by omega) (by omega))⟩,tt ⟨ix,tt ⟨⟨oK,(DA (by omega) (by omega) (by omega))⟩,tt ⟨?_,oK⟩⟩⟩⟩⟩⟩
 rfl
abbrev Ig (ws xs : List Int) (k w : Int) : Ct := ⟨147,(gH ws xs k w),false,(i6 (lg 12 ws xs k w))⟩
theorem BA (ws xs : List Int) (k w : Int) (ho : zU ws xs 1) (hk : 0 ≤ k∧k ≤ 8∧av w = true) : CC (Ig ws xs k w) := by
 obtain ⟨hl,hf,hx,hin⟩ := ho
 have f0 : 0 < ws.length → 1 ≤ ws.getD 0 0∧ws.getD 0 0 ≤ 8 := fun h => az hf h
 have f1 : 1 < ws.length → 1 ≤ ws.getD 1 0∧ws.getD 1 0 ≤ 8 := fun h => az hf h
 have f2 : 2 < ws.length → 1 ≤ ws.getD 2 0∧ws.getD 2 0 ≤ 8 := fun h => az hf h
 have a0 : 0 < ws.length → 0 ≤ xs.getD 0 0∧xs.getD 0 0 ≤ aj (ws.getD 0 0) := fun h => a8 hin (by omega)
 have a1 : 1 < ws.length → 0 ≤ xs.getD 1 0∧xs.getD 1 0 ≤ aj (ws.getD 1 0) := fun h => a8 hin (by omega)
 have a2 : 2 < ws.length → 0 ≤ xs.getD 2 0∧xs.getD 2 0 ≤ aj (ws.getD 2 0) := fun h => a8 hin (by omega)
 have m0 : 0 < ws.length → 0 ≤ aj (ws.getD 0 0)∧aj (ws.getD 0 0) ≤ 255 := fun h => ax (by have := f0 h; omega) (f0 h).2
 have m1 : 1 < ws.length → 0 ≤ aj (ws.getD 1 0)∧aj (ws.getD 1 0) ≤ 255 := fun h => ax (by have := f1 h; omega) (f1 h).2
 have m2 : 2 < ws.length → 0 ≤ aj (ws.getD 2 0)∧aj (ws.getD 2 0) ≤ 255 := fun h => ax (by have := f2 h; omega) (f2 h).2
 have b0 := f0 (by omega); have c0 := a0 (by omega); have d0 := m0 (by omega)
 have hw := bh.1 hk.2.2
 refine af.vc (V := TT 4 (IX 0 xs.length∧TT 3 ((0 ≤ k∧(Int.fdiv (xs.getD 0 0) (2 ^ min k.toNat 64)) = (xs.getD 0 0 / 2 ^ k.toNat))∧TT 2 (CC (uz w)∧(True∧(IntKind.wrap .i64 (BitVec.ofInt (IntKind.i64).bits (xs.getD 0 0 / 2 ^ k.toNat) &&& BitVec.ofInt (IntKind.i64).bits (aj w)).toNat) = ((xs.getD 0 0 / 2 ^ k.toNat) % 2 ^ w.toNat))∧TT 2 (((xs.getD 0 0 / 2 ^ k.toNat) % 2 ^ w.toNat) = (lg 12 ws xs k w)∧True))))) (.w 1 [(6,.val (i6 (xs.getD 0 0 / 2 ^ k.toNat))),(9,(uz w).O),(10,.val (i6 ((xs.getD 0 0 / 2 ^ k.toNat) % 2 ^ w.toNat)))] <| .e) Tryz.func147 rfl rfl rfl (by kernel_rfl) ?_
 refine tt ⟨ix,tt ⟨⟨om,(yC hk.1 (by omega))⟩,tt ⟨(p6 w),⟨⟨oK,(by rw [cR (by omega) (by omega)]; exact jQ (by omega))⟩,tt ⟨?_,oK⟩⟩⟩⟩⟩
 rfl
end Go.Proofs.YtgmpoenfoacofaaGreat
