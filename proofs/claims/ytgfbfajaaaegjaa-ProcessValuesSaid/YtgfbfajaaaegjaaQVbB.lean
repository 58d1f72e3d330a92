/-
  Package bits: the values of operations.
-/
import Derived.Test.YtgfbfajaaaegjaaQVbA
namespace Go.Proofs.Ytgfbfajaaaegjaa
open Go.RowKit
set_option linter.unusedVariables false
set_option linter.unusedSimpArgs false
abbrev hE (ws xs : List Int) (k w : Int) : List D := [(.agg [(LI ws),(LI xs),(i6 k),(i6 w)])]
set_option maxRecDepth 100000
structure yM (ws xs : List Int) (n : Nat) : Prop where
  hl : ws.length = n
  hf : ws.all ai = true
  hx : xs.length = ws.length
  hin : vn ws xs = true
abbrev CA (ws xs : List Int) (k w : Int) : Ct := ⟨80,(hE ws xs k w),false,(i6 (ae (ws.getD 0 0)))⟩
theorem rk (ws xs : List Int) (k w : Int) (hl : 0 < ws.length) : CC (CA ws xs k w) := by
 refine ah.vc (V := TT 4 (IX 0 ws.length∧TT 1 (CC (zM (ws.getD 0 0))∧TT 2 ((ae (ws.getD 0 0)) = (ae (ws.getD 0 0))∧True)))) (.w 1 [(4,(zM (ws.getD 0 0)).O)] <| .e) Try.func80 rfl rfl rfl (by kernel_rfl) ?_
 exact tt ⟨ix,tt ⟨(na (ws.getD 0 0)),tt ⟨rfl,oK⟩⟩⟩
abbrev Fd (ws xs : List Int) (k w : Int) : Ct := ⟨79,(hE ws xs k w),false,(i6 (gH 2 ws xs k w))⟩
theorem CE (ws xs : List Int) (k w : Int) (ho : yM ws xs 1) : CC (Fd ws xs k w) := by
 obtain ⟨hl,hf,hx,hin⟩ := ho
 have f0 : 0 < ws.length → 1 ≤ ws.getD 0 0∧ws.getD 0 0 ≤ 8 := fun h => aq hf h
 have f1 : 1 < ws.length → 1 ≤ ws.getD 1 0∧ws.getD 1 0 ≤ 8 := fun h => aq hf h
 have f2 : 2 < ws.length → 1 ≤ ws.getD 2 0∧ws.getD 2 0 ≤ 8 := fun h => aq hf h
 have a0 : 0 < ws.length → 0 ≤ xs.getD 0 0∧xs.getD 0 0 ≤ ae (ws.getD 0 0) := fun h => aU hin (by omega)
 have a1 : 1 < ws.length → 0 ≤ xs.getD 1 0∧xs.getD 1 0 ≤ ae (ws.getD 1 0) := fun h => aU hin (by omega)
 have a2 : 2 < ws.length → 0 ≤ xs.getD 2 0∧xs.getD 2 0 ≤ ae (ws.getD 2 0) := fun h => aU hin (by omega)
 have m0 : 0 < ws.length → 0 ≤ ae (ws.getD 0 0)∧ae (ws.getD 0 0) ≤ 255 := fun h => am (by have := f0 h; omega) (f0 h).2
 have m1 : 1 < ws.length → 0 ≤ ae (ws.getD 1 0)∧ae (ws.getD 1 0) ≤ 255 := fun h => am (by have := f1 h; omega) (f1 h).2
 have m2 : 2 < ws.length → 0 ≤ ae (ws.getD 2 0)∧ae (ws.getD 2 0) ≤ 255 := fun h => am (by have := f2 h; omega) (f2 h).2
 have b0 := f0 (by omega); have c0 := a0 (by omega); have d0 := m0 (by omega)
 refine ah.vc (V := TT 4 (IX 0 xs.length∧TT 2 (CC (CA ws xs k w)∧(True∧(IntKind.wrap .i64 (BitVec.ofInt (IntKind.i64).bits (xs.getD 0 0) ^^^ BitVec.ofInt (IntKind.i64).bits (ae (ws.getD 0 0))).toNat) = (((xs.getD 0 0).toNat ^^^ (ae (ws.getD 0 0)).toNat : Nat) : Int))∧TT 2 ((((xs.getD 0 0).toNat ^^^ (ae (ws.getD 0 0)).toNat : Nat) : Int) = (gH 2 ws xs k w)∧True)))) (.w 1 [(5,(CA ws xs k w).O),(6,.val (i6 (((xs.getD 0 0).toNat ^^^ (ae (ws.getD 0 0)).toNat : Nat) : Int)))] <| .e) Try.func79 rfl rfl rfl (by kernel_rfl) ?_
 refine tt ⟨ix,tt ⟨(rk ws xs k w om),⟨⟨oK,(oU (by omega) (by omega) (by omega) (by omega))⟩,tt ⟨?_,oK⟩⟩⟩⟩
 rfl
abbrev Fe (ws xs : List Int) (k w : Int) : Ct := ⟨82,(hE ws xs k w),false,(i6 (gH 3 ws xs k w))⟩
theorem CF (ws xs : List Int) (k w : Int) (ho : yM ws xs 2) : CC (Fe ws xs k w) := by
 obtain ⟨hl,hf,hx,hin⟩ := ho
 have f0 : 0 < ws.length → 1 ≤ ws.getD 0 0∧ws.getD 0 0 ≤ 8 := fun h => aq hf h
 have f1 : 1 < ws.length → 1 ≤ ws.getD 1 0∧ws.getD 1 0 ≤ 8 := fun h => aq hf h
 have f2 : 2 < ws.length → 1 ≤ ws.getD 2 0∧ws.getD 2 0 ≤ 8 := fun h => aq hf h
 have a0 : 0 < ws.length → 0 ≤ xs.getD 0 0∧xs.getD 0 0 ≤ ae (ws.getD 0 0) := fun h => aU hin (by omega)
 have a1 : 1 < ws.length → 0 ≤ xs.getD 1 0∧xs.getD 1 0 ≤ ae (ws.getD 1 0) := fun h => aU hin (by omega)
 have a2 : 2 < ws.length → 0 ≤ xs.getD 2 0∧xs.getD 2 0 ≤ ae (ws.getD 2 0) := fun h => aU hin (by omega)
 have m0 : 0 < ws.length → 0 ≤ ae (ws.getD 0 0)∧ae (ws.getD 0 0) ≤ 255 := fun h => am (by have := f0 h; omega) (f0 h).2
 have m1 : 1 < ws.length → 0 ≤ ae (ws.getD 1 0)∧ae (ws.getD 1 0) ≤ 255 := fun h => am (by have := f1 h; omega) (f1 h).2
 have m2 : 2 < ws.length → 0 ≤ ae (ws.getD 2 0)∧ae (ws.getD 2 0) ≤ 255 := fun h => am (by have := f2 h; omega) (f2 h).2
 have b0 := f0 (by omega); have c0 := a0 (by omega); have d0 := m0 (by omega)
 have b1 := f1 (by omega); have c1 := a1 (by omega); have d1 := m1 (by omega)
 refine ah.vc (V := TT 4 (IX 0 xs.length∧TT 3 (IX 1 xs.length∧TT 1 ((True∧(IntKind.wrap .i64 (BitVec.ofInt (IntKind.i64).bits (xs.getD 0 0) &&& BitVec.ofInt (IntKind.i64).bits (xs.getD 1 0)).toNat) = (((xs.getD 0 0).toNat &&& (xs.getD 1 0).toNat : Nat) : Int))∧TT 2 ((((xs.getD 0 0).toNat &&& (xs.getD 1 0).toNat : Nat) : Int) = (gH 3 ws xs k w)∧True))))) (.w 1 [(8,.val (i6 (((xs.getD 0 0).toNat &&& (xs.getD 1 0).toNat : Nat) : Int)))] <| .e) Try.func82 rfl rfl rfl (by kernel_rfl) ?_
 refine tt ⟨ix,tt ⟨ix,tt ⟨⟨oK,(s8 (by omega) (by omega) (by omega) (by omega))⟩,tt ⟨?_,oK⟩⟩⟩⟩
 rfl
abbrev Ff (ws xs : List Int) (k w : Int) : Ct := ⟨83,(hE ws xs k w),false,(i6 (gH 4 ws xs k w))⟩
theorem DP (ws xs : List Int) (k w : Int) (ho : yM ws xs 2) : CC (Ff ws xs k w) := by
 obtain ⟨hl,hf,hx,hin⟩ := ho
 have f0 : 0 < ws.length → 1 ≤ ws.getD 0 0∧ws.getD 0 0 ≤ 8 := fun h => aq hf h
 have f1 : 1 < ws.length → 1 ≤ ws.getD 1 0∧ws.getD 1 0 ≤ 8 := fun h => aq hf h
 have f2 : 2 < ws.length → 1 ≤ ws.getD 2 0∧ws.getD 2 0 ≤ 8 := fun h => aq hf h
 have a0 : 0 < ws.length → 0 ≤ xs.getD 0 0∧xs.getD 0 0 ≤ ae (ws.getD 0 0) := fun h => aU hin (by omega)
 have a1 : 1 < ws.length → 0 ≤ xs.getD 1 0∧xs.getD 1 0 ≤ ae (ws.getD 1 0) := fun h => aU hin (by omega)
 have a2 : 2 < ws.length → 0 ≤ xs.getD 2 0∧xs.getD 2 0 ≤ ae (ws.getD 2 0) := fun h => aU hin (by omega)
 have m0 : 0 < ws.length → 0 ≤ ae (ws.getD 0 0)∧ae (ws.getD 0 0) ≤ 255 := fun h => am (by have := f0 h; omega) (f0 h).2
 have m1 : 1 < ws.length → 0 ≤ ae (ws.getD 1 0)∧ae (ws.getD 1 0) ≤ 255 := fun h => am (by have := f1 h; omega) (f1 h).2
 have m2 : 2 < ws.length → 0 ≤ ae (ws.getD 2 0)∧ae (ws.getD 2 0) ≤ 255 := fun h => am (by have := f2 h; omega) (f2 h).2
 have b0 := f0 (by omega); have c0 := a0 (by omega); have d0 := m0 (by omega)
 have b1 := f1 (by omega); have c1 := a1 (by omega); have d1 := m1 (by omega)
 refine ah.vc (V := TT 4 (IX 0 xs.length∧TT 3 (IX 1 xs.length∧TT 1 ((True∧(IntKind.wrap .i64 (BitVec.ofInt (IntKind.i64).bits (xs.getD 0 0) ||| BitVec.ofInt (IntKind.i64).bits (xs.getD 1 0)).toNat) = (((xs.getD 0 0).toNat ||| (xs.getD 1 0).toNat : Nat) : Int))∧TT 2 ((((xs.getD 0 0).toNat ||| (xs.getD 1 0).toNat : Nat) : Int) = (gH 4 ws xs k w)∧True))))) (.w 1 [(8,.val (i6 (((xs.getD 0 0).toNat ||| (xs.getD 1 0).toNat : Nat) : Int)))] <| .e) Try.func83 rfl rfl rfl (by kernel_rfl) ?_
 refine tt ⟨ix,tt ⟨ix,tt ⟨⟨oK,(vo (by omega) (by omega) (by omega) (by omega))⟩,tt ⟨?_,oK⟩⟩⟩⟩
 rfl
abbrev Fg (ws xs : List Int) (k w : Int) : Ct := ⟨84,(hE ws xs k w),false,(i6 (gH 5 ws xs k w))⟩
theorem CG (ws xs : List Int) (k w : Int) (ho : yM ws xs 2) : CC (Fg ws xs k w) := by
 obtain ⟨hl,hf,hx,hin⟩ := ho
 have f0 : 0 < ws.length → 1 ≤ ws.getD 0 0∧ws.getD 0 0 ≤ 8 := fun h => aq hf h
 have f1 : 1 < ws.length → 1 ≤ ws.getD 1 0∧ws.getD 1 0 ≤ 8 := fun h => aq hf h
 have f2 : 2 < ws.length → 1 ≤ ws.getD 2 0∧ws.getD 2 0 ≤ 8 := fun h => aq hf h
 have a0 : 0 < ws.length → 0 ≤ xs.getD 0 0∧xs.getD 0 0 ≤ ae (ws.getD 0 0) := fun h => aU hin (by omega)
 have a1 : 1 < ws.length → 0 ≤ xs.getD 1 0∧xs.getD 1 0 ≤ ae (ws.getD 1 0) := fun h => aU hin (by omega)
 have a2 : 2 < ws.length → 0 ≤ xs.getD 2 0∧xs.getD 2 0 ≤ ae (ws.getD 2 0) := fun h => aU hin (by omega)
 have m0 : 0 < ws.length → 0 ≤ ae (ws.getD 0 0)∧ae (ws.getD 0 0) ≤ 255 := fun h => am (by have := f0 h; omega) (f0 h).2
 have m1 : 1 < ws.length → 0 ≤ ae (ws.getD 1 0)∧ae (ws.getD 1 0) ≤ 255 := fun h => am (by have := f1 h; omega) (f1 h).2
 have m2 : 2 < ws.length → 0 ≤ ae (ws.getD 2 0)∧ae (ws.getD 2 0) ≤ 255 := fun h => am (by have := f2 h; omega) (f2 h).2
 have b0 := f0 (by omega); have c0 := a0 (by omega); have d0 := m0 (by omega)
 have b1 := f1 (by omega); have c1 := a1 (by omega); have d1 := m1 (by omega)
 refine ah.vc (V := TT 4 (IX 0 xs.length∧TT 3 (IX 1 xs.length∧TT 1 ((True∧(IntKind.wrap .i64 (BitVec.ofInt (IntKind.i64).bits (xs.getD 0 0) ^^^ BitVec.ofInt (IntKind.i64).bits (xs.getD 1 0)).toNat) = (((xs.getD 0 0).toNat ^^^ (xs.getD 1 0).toNat : Nat) : Int))∧TT 2 ((((xs.getD 0 0).toNat ^^^ (xs.getD 1 0).toNat : Nat) : Int) = (gH 5 ws xs k w)∧True))))) (.w 1 [(8,.val (i6 (((xs.getD 0 0).toNat ^^^ (xs.getD 1 0).toNat : Nat) : Int)))] <| .e) Try.func84 rfl rfl rfl (by kernel_rfl) ?_
 refine tt ⟨ix,tt ⟨ix,tt ⟨⟨oK,(oU (by omega) (by omega) (by omega) (by omega))⟩,tt ⟨?_,oK⟩⟩⟩⟩
 rfl
abbrev Fh (ws xs : List Int) (k w : Int) : Ct := ⟨85,(hE ws xs k w),false,(i6 (gH 6 ws xs k w))⟩
theorem CH (ws xs : List Int) (k w : Int) (ho : yM ws xs 2) : CC (Fh ws xs k w) := by
 obtain ⟨hl,hf,hx,hin⟩ := ho
 have f0 : 0 < ws.length → 1 ≤ ws.getD 0 0∧ws.getD 0 0 ≤ 8 := fun h => aq hf h
 have f1 : 1 < ws.length → 1 ≤ ws.getD 1 0∧ws.getD 1 0 ≤ 8 := fun h => aq hf h
 have f2 : 2 < ws.length → 1 ≤ ws.getD 2 0∧ws.getD 2 0 ≤ 8 := fun h => aq hf h
 have a0 : 0 < ws.length → 0 ≤ xs.getD 0 0∧xs.getD 0 0 ≤ ae (ws.getD 0 0) := fun h => aU hin (by omega)
 have a1 : 1 < ws.length → 0 ≤ xs.getD 1 0∧xs.getD 1 0 ≤ ae (ws.getD 1 0) := fun h => aU hin (by omega)
 have a2 : 2 < ws.length → 0 ≤ xs.getD 2 0∧xs.getD 2 0 ≤ ae (ws.getD 2 0) := fun h => aU hin (by omega)
 have m0 : 0 < ws.length → 0 ≤ ae (ws.getD 0 0)∧ae (ws.getD 0 0) ≤ 255 := fun h => am (by have := f0 h; omega) (f0 h).2
 have m1 : 1 < ws.length → 0 ≤ ae (ws.getD 1 0)∧ae (ws.getD 1 0) ≤ 255 := fun h => am (by have := f1 h; omega) (f1 h).2
 have m2 : 2 < ws.length → 0 ≤ ae (ws.getD 2 0)∧ae (ws.getD 2 0) ≤ 255 := fun h => am (by have := f2 h; omega) (f2 h).2
 have b0 := f0 (by omega); have c0 := a0 (by omega); have d0 := m0 (by omega)
 have b1 := f1 (by omega); have c1 := a1 (by omega); have d1 := m1 (by omega)
 refine ah.vc (V := TT 4 (IX 0 xs.length∧TT 3 (IX 1 xs.length∧TT 1 (W6 ((xs.getD 0 0) + (xs.getD 1 0))∧TT 1 (CC (CA ws xs k w)∧(True∧(IntKind.wrap .i64 (BitVec.ofInt (IntKind.i64).bits ((xs.getD 0 0) + (xs.getD 1 0)) &&& BitVec.ofInt (IntKind.i64).bits (ae (ws.getD 0 0))).toNat) = ((xs.getD 0 0 + xs.getD 1 0) % 2 ^ (ws.getD 0 0).toNat))∧TT 2 (((xs.getD 0 0 + xs.getD 1 0) % 2 ^ (ws.getD 0 0).toNat) = (gH 6 ws xs k w)∧True)))))) (.w 1 [(8,.val (i6 ((xs.getD 0 0) + (xs.getD 1 0)))),(10,(CA ws xs k w).O),(11,.val (i6 ((xs.getD 0 0 + xs.getD 1 0) % 2 ^ (ws.getD 0 0).toNat)))] <| .e) Try.func85 rfl rfl rfl (by kernel_rfl) ?_
 refine tt ⟨ix,tt ⟨ix,tt ⟨w6,tt ⟨(rk ws xs k w om),⟨⟨oK,(by rw [dp (by omega) (by omega)]; exact dU (by omega))⟩,tt ⟨?_,oK⟩⟩⟩⟩⟩⟩
 rfl
abbrev Fj (ws xs : List Int) (k w : Int) : Ct := ⟨86,(hE ws xs k w),false,(i6 (gH 7 ws xs k w))⟩
theorem CI (ws xs : List Int) (k w : Int) (ho : yM ws xs 2) : CC (Fj ws xs k w) := by
 obtain ⟨hl,hf,hx,hin⟩ := ho
 have f0 : 0 < ws.length → 1 ≤ ws.getD 0 0∧ws.getD 0 0 ≤ 8 := fun h => aq hf h
 have f1 : 1 < ws.length → 1 ≤ ws.getD 1 0∧ws.getD 1 0 ≤ 8 := fun h => aq hf h
 have f2 : 2 < ws.length → 1 ≤ ws.getD 2 0∧ws.getD 2 0 ≤ 8 := fun h => aq hf h
 have a0 : 0 < ws.length → 0 ≤ xs.getD 0 0∧xs.getD 0 0 ≤ ae (ws.getD 0 0) := fun h => aU hin (by omega)
 have a1 : 1 < ws.length → 0 ≤ xs.getD 1 0∧xs.getD 1 0 ≤ ae (ws.getD 1 0) := fun h => aU hin (by omega)
 have a2 : 2 < ws.length → 0 ≤ xs.getD 2 0∧xs.getD 2 0 ≤ ae (ws.getD 2 0) := fun h => aU hin (by omega)
 have m0 : 0 < ws.length → 0 ≤ ae (ws.getD 0 0)∧ae (ws.getD 0 0) ≤ 255 := fun h => am (by have := f0 h; omega) (f0 h).2
 have m1 : 1 < ws.length → 0 ≤ ae (ws.getD 1 0)∧ae (ws.getD 1 0) ≤ 255 := fun h => am (by have := f1 h; omega) (f1 h).2
 have m2 : 2 < ws.length → 0 ≤ ae (ws.getD 2 0)∧ae (ws.getD 2 0) ≤ 255 := fun h => am (by have := f2 h; omega) (f2 h).2
 have b0 := f0 (by omega); have c0 := a0 (by omega); have d0 := m0 (by omega)
 have b1 := f1 (by omega); have c1 := a1 (by omega); have d1 := m1 (by omega)
 refine ah.vc (V := TT 4 (IX 0 xs.length∧TT 3 (IX 1 xs.length∧TT 1 (W6 ((xs.getD 0 0) - (xs.getD 1 0))∧TT 1 (CC (CA ws xs k w)∧(True∧(IntKind.wrap .i64 (BitVec.ofInt (IntKind.i64).bits ((xs.getD 0 0) - (xs.getD 1 0)) &&& BitVec.ofInt (IntKind.i64).bits (ae (ws.getD 0 0))).toNat) = ((xs.getD 0 0 - xs.getD 1 0) % 2 ^ (ws.getD 0 0).toNat))∧TT 2 (((xs.getD 0 0 - xs.getD 1 0) % 2 ^ (ws.getD 0 0).toNat) = (gH 7 ws xs k w)∧True)))))) (.w 1 [(8,.val (i6 ((xs.getD 0 0) - (xs.getD 1 0)))),(10,(CA ws xs k w).O),(11,.val (i6 ((xs.getD 0 0 - xs.getD 1 0) % 2 ^ (ws.getD 0 0).toNat)))] <| .e) Try.func86 rfl rfl rfl (by kernel_rfl) ?_
 refine tt ⟨ix,tt ⟨ix,tt ⟨w6,tt ⟨(rk ws xs k w om),⟨⟨oK,(by rw [dp (by omega) (by omega)]; exact dU (by omega))⟩,tt ⟨?_,oK⟩⟩⟩⟩⟩⟩
 rfl
abbrev Fk (ws xs : List Int) (k w : Int) : Ct := ⟨88,(hE ws xs k w),false,(i6 (gH 8 ws xs k w))⟩
theorem DQ (ws xs : List Int) (k w : Int) (ho : yM ws xs 2) : CC (Fk ws xs k w) := by
 obtain ⟨hl,hf,hx,hin⟩ := ho
 have f0 : 0 < ws.length → 1 ≤ ws.getD 0 0∧ws.getD 0 0 ≤ 8 := fun h => aq hf h
 have f1 : 1 < ws.length → 1 ≤ ws.getD 1 0∧ws.getD 1 0 ≤ 8 := fun h => aq hf h
 have f2 : 2 < ws.length → 1 ≤ ws.getD 2 0∧ws.getD 2 0 ≤ 8 := fun h => aq hf h
 have a0 : 0 < ws.length → 0 ≤ xs.getD 0 0∧xs.getD 0 0 ≤ ae (ws.getD 0 0) := fun h => aU hin (by omega)
 have a1 : 1 < ws.length → 0 ≤ xs.getD 1 0∧xs.getD 1 0 ≤ ae (ws.getD 1 0) := fun h => aU hin (by omega)
 have a2 : 2 < ws.length → 0 ≤ xs.getD 2 0∧xs.getD 2 0 ≤ ae (ws.getD 2 0) := fun h => aU hin (by omega)
 have m0 : 0 < ws.length → 0 ≤ ae (ws.getD 0 0)∧ae (ws.getD 0 0) ≤ 255 := fun h => am (by have := f0 h; omega) (f0 h).2
 have m1 : 1 < ws.length → 0 ≤ ae (ws.getD 1 0)∧ae (ws.getD 1 0) ≤ 255 := fun h => am (by have := f1 h; omega) (f1 h).2
 have m2 : 2 < ws.length → 0 ≤ ae (ws.getD 2 0)∧ae (ws.getD 2 0) ≤ 255 := fun h => am (by have := f2 h; omega) (f2 h).2
 have b0 := f0 (by omega); have c0 := a0 (by omega); have d0 := m0 (by omega)
 have b1 := f1 (by omega); have c1 := a1 (by omega); have d1 := m1 (by omega)
 refine ah.vc (V := TT 4 (IX 0 xs.length∧TT 3 (IX 1 xs.length∧TT 2 (CC (DN ((xs.getD 0 0) == (xs.getD 1 0)))∧TT 2 ((if ((xs.getD 0 0) == (xs.getD 1 0)) = true then 1 else 0) = (gH 8 ws xs k w)∧True))))) (.w 1 [(9,(DN ((xs.getD 0 0) == (xs.getD 1 0))).O)] <| .e) Try.func88 rfl rfl rfl (by kernel_rfl) ?_
 refine tt ⟨ix,tt ⟨ix,tt ⟨(zN ((xs.getD 0 0) == (xs.getD 1 0))),tt ⟨?_,oK⟩⟩⟩⟩
 show _ = (if xs.getD 0 0 = xs.getD 1 0 then (1 : Int) else 0)
 by_cases h : xs.getD 0 0 = xs.getD 1 0
 · rw [if_pos h,if_pos (by simpa using h)]
 · rw [if_neg h,if_neg (by simpa using h)]
abbrev Fl (ws xs : List Int) (k w : Int) : Ct := ⟨90,(hE ws xs k w),false,(i6 (gH 9 ws xs k w))⟩
theorem DR (ws xs : List Int) (k w : Int) (ho : yM ws xs 2) : CC (Fl ws xs k w) := by
 obtain ⟨hl,hf,hx,hin⟩ := ho
 have f0 : 0 < ws.length → 1 ≤ ws.getD 0 0∧ws.getD 0 0 ≤ 8 := fun h => aq hf h
 have f1 : 1 < ws.length → 1 ≤ ws.getD 1 0∧ws.getD 1 0 ≤ 8 := fun h => aq hf h
 have f2 : 2 < ws.length → 1 ≤ ws.getD 2 0∧ws.getD 2 0 ≤ 8 := fun h => aq hf h
 have a0 : 0 < ws.length → 0 ≤ xs.getD 0 0∧xs.getD 0 0 ≤ ae (ws.getD 0 0) := fun h => aU hin (by omega)
 have a1 : 1 < ws.length → 0 ≤ xs.getD 1 0∧xs.getD 1 0 ≤ ae (ws.getD 1 0) := fun h => aU hin (by omega)
 have a2 : 2 < ws.length → 0 ≤ xs.getD 2 0∧xs.getD 2 0 ≤ ae (ws.getD 2 0) := fun h => aU hin (by omega)
 have m0 : 0 < ws.length → 0 ≤ ae (ws.getD 0 0)∧ae (ws.getD 0 0) ≤ 255 := fun h => am (by have := f0 h; omega) (f0 h).2
 have m1 : 1 < ws.length → 0 ≤ ae (ws.getD 1 0)∧ae (ws.getD 1 0) ≤ 255 := fun h => am (by have := f1 h; omega) (f1 h).2
 have m2 : 2 < ws.length → 0 ≤ ae (ws.getD 2 0)∧ae (ws.getD 2 0) ≤ 255 := fun h => am (by have := f2 h; omega) (f2 h).2
 have b0 := f0 (by omega); have c0 := a0 (by omega); have d0 := m0 (by omega)
 have b1 := f1 (by omega); have c1 := a1 (by omega); have d1 := m1 (by omega)
 refine ah.vc (V := TT 4 (IX 0 xs.length∧TT 3 (IX 1 xs.length∧TT 2 (CC (DN (decide ((xs.getD 0 0) < (xs.getD 1 0))))∧TT 2 ((if (decide ((xs.getD 0 0) < (xs.getD 1 0))) = true then 1 else 0) = (gH 9 ws xs k w)∧True))))) (.w 1 [(9,(DN (decide ((xs.getD 0 0) < (xs.getD 1 0)))).O)] <| .e) Try.func90 rfl rfl rfl (by kernel_rfl) ?_
 refine tt ⟨ix,tt ⟨ix,tt ⟨(zN (decide ((xs.getD 0 0) < (xs.getD 1 0)))),tt ⟨?_,oK⟩⟩⟩⟩
 show _ = (if xs.getD 0 0 < xs.getD 1 0 then (1 : Int) else 0)
 by_cases h : xs.getD 0 0 < xs.getD 1 0
 · rw [if_pos h,if_pos (by simpa using h)]
 · rw [if_neg h,if_neg (by simpa using h)]
abbrev Fm (ws xs : List Int) (k w : Int) : Ct := ⟨92,(hE ws xs k w),false,(i6 (gH 1 ws xs k w))⟩
theorem zS (ws xs : List Int) (k w : Int) (ho : yM ws xs 0) : CC (Fm ws xs k w) := by
 obtain ⟨hl,hf,hx,hin⟩ := ho
 have f0 : 0 < ws.length → 1 ≤ ws.getD 0 0∧ws.getD 0 0 ≤ 8 := fun h => aq hf h
 have f1 : 1 < ws.length → 1 ≤ ws.getD 1 0∧ws.getD 1 0 ≤ 8 := fun h => aq hf h
 have f2 : 2 < ws.length → 1 ≤ ws.getD 2 0∧ws.getD 2 0 ≤ 8 := fun h => aq hf h
 have a0 : 0 < ws.length → 0 ≤ xs.getD 0 0∧xs.getD 0 0 ≤ ae (ws.getD 0 0) := fun h => aU hin (by omega)
 have a1 : 1 < ws.length → 0 ≤ xs.getD 1 0∧xs.getD 1 0 ≤ ae (ws.getD 1 0) := fun h => aU hin (by omega)
 have a2 : 2 < ws.length → 0 ≤ xs.getD 2 0∧xs.getD 2 0 ≤ ae (ws.getD 2 0) := fun h => aU hin (by omega)
 have m0 : 0 < ws.length → 0 ≤ ae (ws.getD 0 0)∧ae (ws.getD 0 0) ≤ 255 := fun h => am (by have := f0 h; omega) (f0 h).2
 have m1 : 1 < ws.length → 0 ≤ ae (ws.getD 1 0)∧ae (ws.getD 1 0) ≤ 255 := fun h => am (by have := f1 h; omega) (f1 h).2
 have m2 : 2 < ws.length → 0 ≤ ae (ws.getD 2 0)∧ae (ws.getD 2 0) ≤ 255 := fun h => am (by have := f2 h; omega) (f2 h).2
 refine ah.vc (V := TT 6 (k = (gH 1 ws xs k w)∧True)) (.e) Try.func92 rfl rfl rfl (by kernel_rfl) ?_
 refine tt ⟨?_,oK⟩
 rfl
abbrev EE (ws xs : List Int) (k w : Int) : Ct := ⟨100,(hE ws xs k w),false,(i6 (gH 13 ws xs k w))⟩
theorem CJ (ws xs : List Int) (k w : Int) (ho : yM ws xs 1) : CC (EE ws xs k w) := by
 obtain ⟨hl,hf,hx,hin⟩ := ho
 have f0 : 0 < ws.length → 1 ≤ ws.getD 0 0∧ws.getD 0 0 ≤ 8 := fun h => aq hf h
 have f1 : 1 < ws.length → 1 ≤ ws.getD 1 0∧ws.getD 1 0 ≤ 8 := fun h => aq hf h
 have f2 : 2 < ws.length → 1 ≤ ws.getD 2 0∧ws.getD 2 0 ≤ 8 := fun h => aq hf h
 have a0 : 0 < ws.length → 0 ≤ xs.getD 0 0∧xs.getD 0 0 ≤ ae (ws.getD 0 0) := fun h => aU hin (by omega)
 have a1 : 1 < ws.length → 0 ≤ xs.getD 1 0∧xs.getD 1 0 ≤ ae (ws.getD 1 0) := fun h => aU hin (by omega)
 have a2 : 2 < ws.length → 0 ≤ xs.getD 2 0∧xs.getD 2 0 ≤ ae (ws.getD 2 0) := fun h => aU hin (by omega)
 have m0 : 0 < ws.length → 0 ≤ ae (ws.getD 0 0)∧ae (ws.getD 0 0) ≤ 255 := fun h => am (by have := f0 h; omega) (f0 h).2
 have m1 : 1 < ws.length → 0 ≤ ae (ws.getD 1 0)∧ae (ws.getD 1 0) ≤ 255 := fun h => am (by have := f1 h; omega) (f1 h).2
 have m2 : 2 < ws.length → 0 ≤ ae (ws.getD 2 0)∧ae (ws.getD 2 0) ≤ 255 := fun h => am (by have := f2 h; omega) (f2 h).2
 have b0 := f0 (by omega); have c0 := a0 (by omega); have d0 := m0 (by omega)
 refine ah.vc (V := TT 4 (IX 0 xs.length∧TT 3 ((xs.getD 0 0) = (gH 13 ws xs k w)∧True))) (.e) Try.func100 rfl rfl rfl (by kernel_rfl) ?_
 refine tt ⟨ix,tt ⟨?_,oK⟩⟩
 rfl
abbrev Fo (ws xs : List Int) (k w : Int) : Ct := ⟨94,(hE ws xs k w),false,(i6 (gH 10 ws xs k w))⟩
theorem CL (ws xs : List Int) (k w : Int) (ho : yM ws xs 3) (h1 : ws.getD 0 0 = 1) : CC (Fo ws xs k w) := by
 obtain ⟨hl,hf,hx,hin⟩ := ho
 have f0 : 0 < ws.length → 1 ≤ ws.getD 0 0∧ws.getD 0 0 ≤ 8 := fun h => aq hf h
 have f1 : 1 < ws.length → 1 ≤ ws.getD 1 0∧ws.getD 1 0 ≤ 8 := fun h => aq hf h
 have f2 : 2 < ws.length → 1 ≤ ws.getD 2 0∧ws.getD 2 0 ≤ 8 := fun h => aq hf h
 have a0 : 0 < ws.length → 0 ≤ xs.getD 0 0∧xs.getD 0 0 ≤ ae (ws.getD 0 0) := fun h => aU hin (by omega)
 have a1 : 1 < ws.length → 0 ≤ xs.getD 1 0∧xs.getD 1 0 ≤ ae (ws.getD 1 0) := fun h => aU hin (by omega)
 have a2 : 2 < ws.length → 0 ≤ xs.getD 2 0∧xs.getD 2 0 ≤ ae (ws.getD 2 0) := fun h => aU hin (by omega)
 have m0 : 0 < ws.length → 0 ≤ ae (ws.getD 0 0)∧ae (ws.getD 0 0) ≤ 255 := fun h => am (by have := f0 h; omega) (f0 h).2
 have m1 : 1 < ws.length → 0 ≤ ae (ws.getD 1 0)∧ae (ws.getD 1 0) ≤ 255 := fun h => am (by have := f1 h; omega) (f1 h).2
 have m2 : 2 < ws.length → 0 ≤ ae (ws.getD 2 0)∧ae (ws.getD 2 0) ≤ 255 := fun h => am (by have := f2 h; omega) (f2 h).2
 have b0 := f0 (by omega); have c0 := a0 (by omega); have d0 := m0 (by omega)
 have b1 := f1 (by omega); have c1 := a1 (by omega); have d1 := m1 (by omega)
 have b2 := f2 (by omega); have c2 := a2 (by omega); have d2 := m2 (by omega)
 have hm1 : ae (ws.getD 0 0) = 1 := by rw [h1]; decide
 have hx0 : xs.getD 0 0 = 0 ∨ xs.getD 0 0 = 1 := by omega
 refine ah.vc (V := TT 6 (IX 0 xs.length∧TT 1 (W6 (2 - (xs.getD 0 0))∧IX (2 - (xs.getD 0 0)) xs.length∧TT 3 ((xs.getD ((2 - (xs.getD 0 0)).toNat) 0) = (gH 10 ws xs k w)∧True)))) (.w 1 [(6,.val (i6 (2 - (xs.getD 0 0))))] <| .e) Try.func94 rfl rfl rfl (by kernel_rfl) ?_
 refine tt ⟨ix,tt ⟨w6,⟨ix,tt ⟨?_,oK⟩⟩⟩⟩
 rfl
abbrev Fp (ws xs : List Int) (k w : Int) : Ct := ⟨96,(hE ws xs k w),false,(i6 (gH 11 ws xs k w))⟩
theorem CM (ws xs : List Int) (k w : Int) (ho : yM ws xs 2) : CC (Fp ws xs k w) := by
 obtain ⟨hl,hf,hx,hin⟩ := ho
 have f0 : 0 < ws.length → 1 ≤ ws.getD 0 0∧ws.getD 0 0 ≤ 8 := fun h => aq hf h
 have f1 : 1 < ws.length → 1 ≤ ws.getD 1 0∧ws.getD 1 0 ≤ 8 := fun h => aq hf h
 have f2 : 2 < ws.length → 1 ≤ ws.getD 2 0∧ws.getD 2 0 ≤ 8 := fun h => aq hf h
 have a0 : 0 < ws.length → 0 ≤ xs.getD 0 0∧xs.getD 0 0 ≤ ae (ws.getD 0 0) := fun h => aU hin (by omega)
 have a1 : 1 < ws.length → 0 ≤ xs.getD 1 0∧xs.getD 1 0 ≤ ae (ws.getD 1 0) := fun h => aU hin (by omega)
 have a2 : 2 < ws.length → 0 ≤ xs.getD 2 0∧xs.getD 2 0 ≤ ae (ws.getD 2 0) := fun h => aU hin (by omega)
 have m0 : 0 < ws.length → 0 ≤ ae (ws.getD 0 0)∧ae (ws.getD 0 0) ≤ 255 := fun h => am (by have := f0 h; omega) (f0 h).2
 have m1 : 1 < ws.length → 0 ≤ ae (ws.getD 1 0)∧ae (ws.getD 1 0) ≤ 255 := fun h => am (by have := f1 h; omega) (f1 h).2
 have m2 : 2 < ws.length → 0 ≤ ae (ws.getD 2 0)∧ae (ws.getD 2 0) ≤ 255 := fun h => am (by have := f2 h; omega) (f2 h).2
 have b0 := f0 (by omega); have c0 := a0 (by omega); have d0 := m0 (by omega)
 have b1 := f1 (by omega); have c1 := a1 (by omega); have d1 := m1 (by omega)
 refine ah.vc (V := TT 4 (IX 0 xs.length∧TT 3 (IX 1 ws.length∧TT 1 ((0 ≤ (ws.getD 1 0)∧(IntKind.wrap .i64 ((xs.getD 0 0) * 2 ^ min ((ws.getD 1 0).toNat) 64)) = (((xs.getD 0 0).toNat * 2 ^ (ws.getD 1 0).toNat : Nat) : Int))∧TT 2 (IX 1 xs.length∧TT 1 ((True∧(IntKind.wrap .i64 (BitVec.ofInt (IntKind.i64).bits (((xs.getD 0 0).toNat * 2 ^ (ws.getD 1 0).toNat : Nat) : Int) ||| BitVec.ofInt (IntKind.i64).bits (xs.getD 1 0)).toNat) = (((xs.getD 0 0).toNat * 2 ^ (ws.getD 1 0).toNat ||| (xs.getD 1 0).toNat : Nat) : Int))∧TT 2 ((((xs.getD 0 0).toNat * 2 ^ (ws.getD 1 0).toNat ||| (xs.getD 1 0).toNat : Nat) : Int) = (gH 11 ws xs k w)∧True))))))) (.w 1 [(8,.val (i6 (((xs.getD 0 0).toNat * 2 ^ (ws.getD 1 0).toNat : Nat) : Int))),(13,.val (i6 (((xs.getD 0 0).toNat * 2 ^ (ws.getD 1 0).toNat ||| (xs.getD 1 0).toNat : Nat) : Int)))] <| .e) Try.func96 rfl rfl rfl (by kernel_rfl) ?_
 refine tt ⟨ix,tt ⟨ix,tt ⟨⟨om,(xz (by omega) (by omega))⟩,tt ⟨ix,tt ⟨⟨oK,(xA (by omega) (by omega) (by omega))⟩,tt ⟨?_,oK⟩⟩⟩⟩⟩⟩
 rfl
abbrev Fq (ws xs : List Int) (k w : Int) : Ct := ⟨98,(hE ws xs k w),false,(i6 (gH 12 ws xs k w))⟩
theorem zT (ws xs : List Int) (k w : Int) (ho : yM ws xs 1) (hk : 0 ≤ k∧k ≤ 8∧ai w = true) : CC (Fq ws xs k w) := by
 obtain ⟨hl,hf,hx,hin⟩ := ho
 have f0 : 0 < ws.length → 1 ≤ ws.getD 0 0∧ws.getD 0 0 ≤ 8 := fun h => aq hf h
 have f1 : 1 < ws.length → 1 ≤ ws.getD 1 0∧ws.getD 1 0 ≤ 8 := fun h => aq hf h
 have f2 : 2 < ws.length → 1 ≤ ws.getD 2 0∧ws.getD 2 0 ≤ 8 := fun h => aq hf h
 have a0 : 0 < ws.length → 0 ≤ xs.getD 0 0∧xs.getD 0 0 ≤ ae (ws.getD 0 0) := fun h => aU hin (by omega)
 have a1 : 1 < ws.length → 0 ≤ xs.getD 1 0∧xs.getD 1 0 ≤ ae (ws.getD 1 0) := fun h => aU hin (by omega)
 have a2 : 2 < ws.length → 0 ≤ xs.getD 2 0∧xs.getD 2 0 ≤ ae (ws.getD 2 0) := fun h => aU hin (by omega)
 have m0 : 0 < ws.length → 0 ≤ ae (ws.getD 0 0)∧ae (ws.getD 0 0) ≤ 255 := fun h => am (by have := f0 h; omega) (f0 h).2
 have m1 : 1 < ws.length → 0 ≤ ae (ws.getD 1 0)∧ae (ws.getD 1 0) ≤ 255 := fun h => am (by have := f1 h; omega) (f1 h).2
 have m2 : 2 < ws.length → 0 ≤ ae (ws.getD 2 0)∧ae (ws.getD 2 0) ≤ 255 := fun h => am (by have := f2 h; omega) (f2 h).2
 have b0 := f0 (by omega); have c0 := a0 (by omega); have d0 := m0 (by omega)
 have hw := aE.1 hk.2.2
 refine ah.vc (V := TT 4 (IX 0 xs.length∧TT 3 ((0 ≤ k∧(Int.fdiv (xs.getD 0 0) (2 ^ min k.toNat 64)) = (xs.getD 0 0 / 2 ^ k.toNat))∧TT 2 (CC (zM w)∧(True∧(IntKind.wrap .i64 (BitVec.ofInt (IntKind.i64).bits (xs.getD 0 0 / 2 ^ k.toNat) &&& BitVec.ofInt (IntKind.i64).bits (ae w)).toNat) = ((xs.getD 0 0 / 2 ^ k.toNat) % 2 ^ w.toNat))∧TT 2 (((xs.getD 0 0 / 2 ^ k.toNat) % 2 ^ w.toNat) = (gH 12 ws xs k w)∧True))))) (.w 1 [(6,.val (i6 (xs.getD 0 0 / 2 ^ k.toNat))),(9,(zM w).O),(10,.val (i6 ((xs.getD 0 0 / 2 ^ k.toNat) % 2 ^ w.toNat)))] <| .e) Try.func98 rfl rfl rfl (by kernel_rfl) ?_
 refine tt ⟨ix,tt ⟨⟨om,(tX hk.1 (by omega))⟩,tt ⟨(na w),⟨⟨oK,(by rw [dp (by omega) (by omega)]; exact dU (by omega))⟩,tt ⟨?_,oK⟩⟩⟩⟩⟩
 rfl
end Go.Proofs.Ytgfbfajaaaegjaa
