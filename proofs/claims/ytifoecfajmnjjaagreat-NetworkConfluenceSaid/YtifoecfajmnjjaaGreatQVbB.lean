/-
  Package bits: the values of operations.
-/
import Derived.Test.YtifoecfajmnjjaaGreatQVbA
namespace Go.Proofs.YtifoecfajmnjjaaGreat
open Go.RowKit
set_option linter.unusedVariables false
set_option linter.unusedSimpArgs false
abbrev lm (ws xs : List Int) (k w : Int) : List D := [(.agg [(LI ws),(LI xs),(i6 k),(i6 w)])]
set_option maxRecDepth 100000
structure FY (ws xs : List Int) (n : Nat) : Prop where
  hl : ws.length = n
  hf : ws.all aA = true
  hx : xs.length = ws.length
  hin : A2 ws xs = true
abbrev CX (ws xs : List Int) (k w : Int) : Ct := ⟨124,(lm ws xs k w),false,(i6 (ap (ws.getD 0 0)))⟩
theorem wm (ws xs : List Int) (k w : Int) (hl : 0 < ws.length) : CC (CX ws xs k w) := by
 refine an.vc (V := TT 4 (IX 0 ws.length∧TT 1 (CC (Hy (ws.getD 0 0))∧TT 2 ((ap (ws.getD 0 0)) = (ap (ws.getD 0 0))∧True)))) (.w 1 [(4,(Hy (ws.getD 0 0)).O)] <| .e) Tryz.func124 rfl rfl rfl (by kernel_rfl) ?_
 exact tt ⟨ix,tt ⟨(rU (ws.getD 0 0)),tt ⟨rfl,oK⟩⟩⟩
abbrev NY (ws xs : List Int) (k w : Int) : Ct := ⟨123,(lm ws xs k w),false,(i6 (kw 2 ws xs k w))⟩
theorem KY (ws xs : List Int) (k w : Int) (ho : FY ws xs 1) : CC (NY ws xs k w) := by
 obtain ⟨hl,hf,hx,hin⟩ := ho
 have f0 : 0 < ws.length → 1 ≤ ws.getD 0 0∧ws.getD 0 0 ≤ 8 := fun h => aL hf h
 have f1 : 1 < ws.length → 1 ≤ ws.getD 1 0∧ws.getD 1 0 ≤ 8 := fun h => aL hf h
 have f2 : 2 < ws.length → 1 ≤ ws.getD 2 0∧ws.getD 2 0 ≤ 8 := fun h => aL hf h
 have a0 : 0 < ws.length → 0 ≤ xs.getD 0 0∧xs.getD 0 0 ≤ ap (ws.getD 0 0) := fun h => bq hin (by omega)
 have a1 : 1 < ws.length → 0 ≤ xs.getD 1 0∧xs.getD 1 0 ≤ ap (ws.getD 1 0) := fun h => bq hin (by omega)
 have a2 : 2 < ws.length → 0 ≤ xs.getD 2 0∧xs.getD 2 0 ≤ ap (ws.getD 2 0) := fun h => bq hin (by omega)
 have m0 : 0 < ws.length → 0 ≤ ap (ws.getD 0 0)∧ap (ws.getD 0 0) ≤ 255 := fun h => aE (by have := f0 h; omega) (f0 h).2
 have m1 : 1 < ws.length → 0 ≤ ap (ws.getD 1 0)∧ap (ws.getD 1 0) ≤ 255 := fun h => aE (by have := f1 h; omega) (f1 h).2
 have m2 : 2 < ws.length → 0 ≤ ap (ws.getD 2 0)∧ap (ws.getD 2 0) ≤ 255 := fun h => aE (by have := f2 h; omega) (f2 h).2
 have b0 := f0 (by omega); have c0 := a0 (by omega); have d0 := m0 (by omega)
 refine an.vc (V := TT 4 (IX 0 xs.length∧TT 2 (CC (CX ws xs k w)∧(True∧(IntKind.wrap .i64 (BitVec.ofInt (IntKind.i64).bits (xs.getD 0 0) ^^^ BitVec.ofInt (IntKind.i64).bits (ap (ws.getD 0 0))).toNat) = (((xs.getD 0 0).toNat ^^^ (ap (ws.getD 0 0)).toNat : Nat) : Int))∧TT 2 ((((xs.getD 0 0).toNat ^^^ (ap (ws.getD 0 0)).toNat : Nat) : Int) = (kw 2 ws xs k w)∧True)))) (.w 1 [(5,(CX ws xs k w).O),(6,.val (i6 (((xs.getD 0 0).toNat ^^^ (ap (ws.getD 0 0)).toNat : Nat) : Int)))] <| .e) Tryz.func123 rfl rfl rfl (by kernel_rfl) ?_
 refine tt ⟨ix,tt ⟨(wm ws xs k w om),⟨⟨oK,(tH (by omega) (by omega) (by omega) (by omega))⟩,tt ⟨?_,oK⟩⟩⟩⟩
 rfl
abbrev NZ (ws xs : List Int) (k w : Int) : Ct := ⟨126,(lm ws xs k w),false,(i6 (kw 3 ws xs k w))⟩
theorem KZ (ws xs : List Int) (k w : Int) (ho : FY ws xs 2) : CC (NZ ws xs k w) := by
 obtain ⟨hl,hf,hx,hin⟩ := ho
 have f0 : 0 < ws.length → 1 ≤ ws.getD 0 0∧ws.getD 0 0 ≤ 8 := fun h => aL hf h
 have f1 : 1 < ws.length → 1 ≤ ws.getD 1 0∧ws.getD 1 0 ≤ 8 := fun h => aL hf h
 have f2 : 2 < ws.length → 1 ≤ ws.getD 2 0∧ws.getD 2 0 ≤ 8 := fun h => aL hf h
 have a0 : 0 < ws.length → 0 ≤ xs.getD 0 0∧xs.getD 0 0 ≤ ap (ws.getD 0 0) := fun h => bq hin (by omega)
 have a1 : 1 < ws.length → 0 ≤ xs.getD 1 0∧xs.getD 1 0 ≤ ap (ws.getD 1 0) := fun h => bq hin (by omega)
 have a2 : 2 < ws.length → 0 ≤ xs.getD 2 0∧xs.getD 2 0 ≤ ap (ws.getD 2 0) := fun h => bq hin (by omega)
 have m0 : 0 < ws.length → 0 ≤ ap (ws.getD 0 0)∧ap (ws.getD 0 0) ≤ 255 := fun h => aE (by have := f0 h; omega) (f0 h).2
 have m1 : 1 < ws.length → 0 ≤ ap (ws.getD 1 0)∧ap (ws.getD 1 0) ≤ 255 := fun h => aE (by have := f1 h; omega) (f1 h).2
 have m2 : 2 < ws.length → 0 ≤ ap (ws.getD 2 0)∧ap (ws.getD 2 0) ≤ 255 := fun h => aE (by have := f2 h; omega) (f2 h).2
 have b0 := f0 (by omega); have c0 := a0 (by omega); have d0 := m0 (by omega)
 have b1 := f1 (by omega); have c1 := a1 (by omega); have d1 := m1 (by omega)
 refine an.vc (V := TT 4 (IX 0 xs.length∧TT 3 (IX 1 xs.length∧TT 1 ((True∧(IntKind.wrap .i64 (BitVec.ofInt (IntKind.i64).bits (xs.getD 0 0) &&& BitVec.ofInt (IntKind.i64).bits (xs.getD 1 0)).toNat) = (((xs.getD 0 0).toNat &&& (xs.getD 1 0).toNat : Nat) : Int))∧TT 2 ((((xs.getD 0 0).toNat &&& (xs.getD 1 0).toNat : Nat) : Int) = (kw 3 ws xs k w)∧True))))) (.w 1 [(8,.val (i6 (((xs.getD 0 0).toNat &&& (xs.getD 1 0).toNat : Nat) : Int)))] <| .e) Tryz.func126 rfl rfl rfl (by kernel_rfl) ?_
 refine tt ⟨ix,tt ⟨ix,tt ⟨⟨oK,(ya (by omega) (by omega) (by omega) (by omega))⟩,tt ⟨?_,oK⟩⟩⟩⟩
 rfl
abbrev N0 (ws xs : List Int) (k w : Int) : Ct := ⟨127,(lm ws xs k w),false,(i6 (kw 4 ws xs k w))⟩
theorem MJ (ws xs : List Int) (k w : Int) (ho : FY ws xs 2) : CC (N0 ws xs k w) := by
 obtain ⟨hl,hf,hx,hin⟩ := ho
 have f0 : 0 < ws.length → 1 ≤ ws.getD 0 0∧ws.getD 0 0 ≤ 8 := fun h => aL hf h
 have f1 : 1 < ws.length → 1 ≤ ws.getD 1 0∧ws.getD 1 0 ≤ 8 := fun h => aL hf h
 have f2 : 2 < ws.length → 1 ≤ ws.getD 2 0∧ws.getD 2 0 ≤ 8 := fun h => aL hf h
 have a0 : 0 < ws.length → 0 ≤ xs.getD 0 0∧xs.getD 0 0 ≤ ap (ws.getD 0 0) := fun h => bq hin (by omega)
 have a1 : 1 < ws.length → 0 ≤ xs.getD 1 0∧xs.getD 1 0 ≤ ap (ws.getD 1 0) := fun h => bq hin (by omega)
 have a2 : 2 < ws.length → 0 ≤ xs.getD 2 0∧xs.getD 2 0 ≤ ap (ws.getD 2 0) := fun h => bq hin (by omega)
 have m0 : 0 < ws.length → 0 ≤ ap (ws.getD 0 0)∧ap (ws.getD 0 0) ≤ 255 := fun h => aE (by have := f0 h; omega) (f0 h).2
 have m1 : 1 < ws.length → 0 ≤ ap (ws.getD 1 0)∧ap (ws.getD 1 0) ≤ 255 := fun h => aE (by have := f1 h; omega) (f1 h).2
 have m2 : 2 < ws.length → 0 ≤ ap (ws.getD 2 0)∧ap (ws.getD 2 0) ≤ 255 := fun h => aE (by have := f2 h; omega) (f2 h).2
 have b0 := f0 (by omega); have c0 := a0 (by omega); have d0 := m0 (by omega)
 have b1 := f1 (by omega); have c1 := a1 (by omega); have d1 := m1 (by omega)
 refine an.vc (V := TT 4 (IX 0 xs.length∧TT 3 (IX 1 xs.length∧TT 1 ((True∧(IntKind.wrap .i64 (BitVec.ofInt (IntKind.i64).bits (xs.getD 0 0) ||| BitVec.ofInt (IntKind.i64).bits (xs.getD 1 0)).toNat) = (((xs.getD 0 0).toNat ||| (xs.getD 1 0).toNat : Nat) : Int))∧TT 2 ((((xs.getD 0 0).toNat ||| (xs.getD 1 0).toNat : Nat) : Int) = (kw 4 ws xs k w)∧True))))) (.w 1 [(8,.val (i6 (((xs.getD 0 0).toNat ||| (xs.getD 1 0).toNat : Nat) : Int)))] <| .e) Tryz.func127 rfl rfl rfl (by kernel_rfl) ?_
 refine tt ⟨ix,tt ⟨ix,tt ⟨⟨oK,(A3 (by omega) (by omega) (by omega) (by omega))⟩,tt ⟨?_,oK⟩⟩⟩⟩
 rfl
abbrev N1 (ws xs : List Int) (k w : Int) : Ct := ⟨128,(lm ws xs k w),false,(i6 (kw 5 ws xs k w))⟩
theorem K0 (ws xs : List Int) (k w : Int) (ho : FY ws xs 2) : CC (N1 ws xs k w) := by
 obtain ⟨hl,hf,hx,hin⟩ := ho
 have f0 : 0 < ws.length → 1 ≤ ws.getD 0 0∧ws.getD 0 0 ≤ 8 := fun h => aL hf h
 have f1 : 1 < ws.length → 1 ≤ ws.getD 1 0∧ws.getD 1 0 ≤ 8 := fun h => aL hf h
 have f2 : 2 < ws.length → 1 ≤ ws.getD 2 0∧ws.getD 2 0 ≤ 8 := fun h => aL hf h
 have a0 : 0 < ws.length → 0 ≤ xs.getD 0 0∧xs.getD 0 0 ≤ ap (ws.getD 0 0) := fun h => bq hin (by omega)
 have a1 : 1 < ws.length → 0 ≤ xs.getD 1 0∧xs.getD 1 0 ≤ ap (ws.getD 1 0) := fun h => bq hin (by omega)
 have a2 : 2 < ws.length → 0 ≤ xs.getD 2 0∧xs.getD 2 0 ≤ ap (ws.getD 2 0) := fun h => bq hin (by omega)
 have m0 : 0 < ws.length → 0 ≤ ap (ws.getD 0 0)∧ap (ws.getD 0 0) ≤ 255 := fun h => aE (by have := f0 h; omega) (f0 h).2
 have m1 : 1 < ws.length → 0 ≤ ap (ws.getD 1 0)∧ap (ws.getD 1 0) ≤ 255 := fun h => aE (by have := f1 h; omega) (f1 h).2
 have m2 : 2 < ws.length → 0 ≤ ap (ws.getD 2 0)∧ap (ws.getD 2 0) ≤ 255 := fun h => aE (by have := f2 h; omega) (f2 h).2
 have b0 := f0 (by omega); have c0 := a0 (by omega); have d0 := m0 (by omega)
 have b1 := f1 (by omega); have c1 := a1 (by omega); have d1 := m1 (by omega)
 refine an.vc (V := TT 4 (IX 0 xs.length∧TT 3 (IX 1 xs.length∧TT 1 ((True∧(IntKind.wrap .i64 (BitVec.ofInt (IntKind.i64).bits (xs.getD 0 0) ^^^ BitVec.ofInt (IntKind.i64).bits (xs.getD 1 0)).toNat) = (((xs.getD 0 0).toNat ^^^ (xs.getD 1 0).toNat : Nat) : Int))∧TT 2 ((((xs.getD 0 0).toNat ^^^ (xs.getD 1 0).toNat : Nat) : Int) = (kw 5 ws xs k w)∧True))))) (.w 1 [(8,.val (i6 (((xs.getD 0 0).toNat ^^^ (xs.getD 1 0).toNat : Nat) : Int)))] <| .e) Tryz.func128 rfl rfl rfl (by kernel_rfl) ?_
 refine tt ⟨ix,tt ⟨ix,tt ⟨⟨oK,(tH (by omega) (by omega) (by omega) (by omega))⟩,tt ⟨?_,oK⟩⟩⟩⟩
 rfl
abbrev N2 (ws xs : List Int) (k w : Int) : Ct := ⟨129,(lm ws xs k w),false,(i6 (kw 6 ws xs k w))⟩
theorem K1 (ws xs : List Int) (k w : Int) (ho : FY ws xs 2) : CC (N2 ws xs k w) := by
 obtain ⟨hl,hf,hx,hin⟩ := ho
 have f0 : 0 < ws.length → 1 ≤ ws.getD 0 0∧ws.getD 0 0 ≤ 8 := fun h => aL hf h
 have f1 : 1 < ws.length → 1 ≤ ws.getD 1 0∧ws.getD 1 0 ≤ 8 := fun h => aL hf h
 have f2 : 2 < ws.length → 1 ≤ ws.getD 2 0∧ws.getD 2 0 ≤ 8 := fun h => aL hf h
 have a0 : 0 < ws.length → 0 ≤ xs.getD 0 0∧xs.getD 0 0 ≤ ap (ws.getD 0 0) := fun h => bq hin (by omega)
 have a1 : 1 < ws.length → 0 ≤ xs.getD 1 0∧xs.getD 1 0 ≤ ap (ws.getD 1 0) := fun h => bq hin (by omega)
 have a2 : 2 < ws.length → 0 ≤ xs.getD 2 0∧xs.getD 2 0 ≤ ap (ws.getD 2 0) := fun h => bq hin (by omega)
 have m0 : 0 < ws.length → 0 ≤ ap (ws.getD 0 0)∧ap (ws.getD 0 0) ≤ 255 := fun h => aE (by have := f0 h; omega) (f0 h).2
 have m1 : 1 < ws.length → 0 ≤ ap (ws.getD 1 0)∧ap (ws.getD 1 0) ≤ 255 := fun h => aE (by have := f1 h; omega) (f1 h).2
 have m2 : 2 < ws.length → 0 ≤ ap (ws.getD 2 0)∧ap (ws.getD 2 0) ≤ 255 := fun h => aE (by have := f2 h; omega) (f2 h).2
 have b0 := f0 (by omega); have c0 := a0 (by omega); have d0 := m0 (by omega)
 have b1 := f1 (by omega); have c1 := a1 (by omega); have d1 := m1 (by omega)
 refine an.vc (V := TT 4 (IX 0 xs.length∧TT 3 (IX 1 xs.length∧TT 1 (W6 ((xs.getD 0 0) + (xs.getD 1 0))∧TT 1 (CC (CX ws xs k w)∧(True∧(IntKind.wrap .i64 (BitVec.ofInt (IntKind.i64).bits ((xs.getD 0 0) + (xs.getD 1 0)) &&& BitVec.ofInt (IntKind.i64).bits (ap (ws.getD 0 0))).toNat) = ((xs.getD 0 0 + xs.getD 1 0) % 2 ^ (ws.getD 0 0).toNat))∧TT 2 (((xs.getD 0 0 + xs.getD 1 0) % 2 ^ (ws.getD 0 0).toNat) = (kw 6 ws xs k w)∧True)))))) (.w 1 [(8,.val (i6 ((xs.getD 0 0) + (xs.getD 1 0)))),(10,(CX ws xs k w).O),(11,.val (i6 ((xs.getD 0 0 + xs.getD 1 0) % 2 ^ (ws.getD 0 0).toNat)))] <| .e) Tryz.func129 rfl rfl rfl (by kernel_rfl) ?_
 refine tt ⟨ix,tt ⟨ix,tt ⟨w6,tt ⟨(wm ws xs k w om),⟨⟨oK,(by rw [da (by omega) (by omega)]; exact jc (by omega))⟩,tt ⟨?_,oK⟩⟩⟩⟩⟩⟩
 rfl
abbrev N3 (ws xs : List Int) (k w : Int) : Ct := ⟨130,(lm ws xs k w),false,(i6 (kw 7 ws xs k w))⟩
theorem K2 (ws xs : List Int) (k w : Int) (ho : FY ws xs 2) : CC (N3 ws xs k w) := by
 obtain ⟨hl,hf,hx,hin⟩ := ho
 have f0 : 0 < ws.length → 1 ≤ ws.getD 0 0∧ws.getD 0 0 ≤ 8 := fun h => aL hf h
 have f1 : 1 < ws.length → 1 ≤ ws.getD 1 0∧ws.getD 1 0 ≤ 8 := fun h => aL hf h
 have f2 : 2 < ws.length → 1 ≤ ws.getD 2 0∧ws.getD 2 0 ≤ 8 := fun h => aL hf h
 have a0 : 0 < ws.length → 0 ≤ xs.getD 0 0∧xs.getD 0 0 ≤ ap (ws.getD 0 0) := fun h => bq hin (by omega)
 have a1 : 1 < ws.length → 0 ≤ xs.getD 1 0∧xs.getD 1 0 ≤ ap (ws.getD 1 0) := fun h => bq hin (by omega)
 have a2 : 2 < ws.length → 0 ≤ xs.getD 2 0∧xs.getD 2 0 ≤ ap (ws.getD 2 0) := fun h => bq hin (by omega)
 have m0 : 0 < ws.length → 0 ≤ ap (ws.getD 0 0)∧ap (ws.getD 0 0) ≤ 255 := fun h => aE (by have := f0 h; omega) (f0 h).2
 have m1 : 1 < ws.length → 0 ≤ ap (ws.getD 1 0)∧ap (ws.getD 1 0) ≤ 255 := fun h => aE (by have := f1 h; omega) (f1 h).2
 have m2 : 2 < ws.length → 0 ≤ ap (ws.getD 2 0)∧ap (ws.getD 2 0) ≤ 255 := fun h => aE (by have := f2 h; omega) (f2 h).2
 have b0 := f0 (by omega); have c0 := a0 (by omega); have d0 := m0 (by omega)
 have b1 := f1 (by omega); have c1 := a1 (by omega); have d1 := m1 (by omega)
 refine an.vc (V := TT 4 (IX 0 xs.length∧TT 3 (IX 1 xs.length∧TT 1 (W6 ((xs.getD 0 0) - (xs.getD 1 0))∧TT 1 (CC (CX ws xs k w)∧(True∧(IntKind.wrap .i64 (BitVec.ofInt (IntKind.i64).bits ((xs.getD 0 0) - (xs.getD 1 0)) &&& BitVec.ofInt (IntKind.i64).bits (ap (ws.getD 0 0))).toNat) = ((xs.getD 0 0 - xs.getD 1 0) % 2 ^ (ws.getD 0 0).toNat))∧TT 2 (((xs.getD 0 0 - xs.getD 1 0) % 2 ^ (ws.getD 0 0).toNat) = (kw 7 ws xs k w)∧True)))))) (.w 1 [(8,.val (i6 ((xs.getD 0 0) - (xs.getD 1 0)))),(10,(CX ws xs k w).O),(11,.val (i6 ((xs.getD 0 0 - xs.getD 1 0) % 2 ^ (ws.getD 0 0).toNat)))] <| .e) Tryz.func130 rfl rfl rfl (by kernel_rfl) ?_
 refine tt ⟨ix,tt ⟨ix,tt ⟨w6,tt ⟨(wm ws xs k w om),⟨⟨oK,(by rw [da (by omega) (by omega)]; exact jc (by omega))⟩,tt ⟨?_,oK⟩⟩⟩⟩⟩⟩
 rfl
abbrev N4 (ws xs : List Int) (k w : Int) : Ct := ⟨132,(lm ws xs k w),false,(i6 (kw 8 ws xs k w))⟩
theorem MK (ws xs : List Int) (k w : Int) (ho : FY ws xs 2) : CC (N4 ws xs k w) := by
 obtain ⟨hl,hf,hx,hin⟩ := ho
 have f0 : 0 < ws.length → 1 ≤ ws.getD 0 0∧ws.getD 0 0 ≤ 8 := fun h => aL hf h
 have f1 : 1 < ws.length → 1 ≤ ws.getD 1 0∧ws.getD 1 0 ≤ 8 := fun h => aL hf h
 have f2 : 2 < ws.length → 1 ≤ ws.getD 2 0∧ws.getD 2 0 ≤ 8 := fun h => aL hf h
 have a0 : 0 < ws.length → 0 ≤ xs.getD 0 0∧xs.getD 0 0 ≤ ap (ws.getD 0 0) := fun h => bq hin (by omega)
 have a1 : 1 < ws.length → 0 ≤ xs.getD 1 0∧xs.getD 1 0 ≤ ap (ws.getD 1 0) := fun h => bq hin (by omega)
 have a2 : 2 < ws.length → 0 ≤ xs.getD 2 0∧xs.getD 2 0 ≤ ap (ws.getD 2 0) := fun h => bq hin (by omega)
 have m0 : 0 < ws.length → 0 ≤ ap (ws.getD 0 0)∧ap (ws.getD 0 0) ≤ 255 := fun h => aE (by have := f0 h; omega) (f0 h).2
 have m1 : 1 < ws.length → 0 ≤ ap (ws.getD 1 0)∧ap (ws.getD 1 0) ≤ 255 := fun h => aE (by have := f1 h; omega) (f1 h).2
 have m2 : 2 < ws.length → 0 ≤ ap (ws.getD 2 0)∧ap (ws.getD 2 0) ≤ 255 := fun h => aE (by have := f2 h; omega) (f2 h).2
 have b0 := f0 (by omega); have c0 := a0 (by omega); have d0 := m0 (by omega)
 have b1 := f1 (by omega); have c1 := a1 (by omega); have d1 := m1 (by omega)
 refine an.vc (V := TT 4 (IX 0 xs.length∧TT 3 (IX 1 xs.length∧TT 2 (CC (Hz ((xs.getD 0 0) == (xs.getD 1 0)))∧TT 2 ((if ((xs.getD 0 0) == (xs.getD 1 0)) = true then 1 else 0) = (kw 8 ws xs k w)∧True))))) (.w 1 [(9,(Hz ((xs.getD 0 0) == (xs.getD 1 0))).O)] <| .e) Tryz.func132 rfl rfl rfl (by kernel_rfl) ?_
 refine tt ⟨ix,tt ⟨ix,tt ⟨(HA ((xs.getD 0 0) == (xs.getD 1 0))),tt ⟨?_,oK⟩⟩⟩⟩
 show _ = (if xs.getD 0 0 = xs.getD 1 0 then (1 : Int) else 0)
 by_cases h : xs.getD 0 0 = xs.getD 1 0
 · rw [if_pos h,if_pos (by simpa using h)]
 · rw [if_neg h,if_neg (by simpa using h)]
abbrev N5 (ws xs : List Int) (k w : Int) : Ct := ⟨134,(lm ws xs k w),false,(i6 (kw 9 ws xs k w))⟩
theorem ML (ws xs : List Int) (k w : Int) (ho : FY ws xs 2) : CC (N5 ws xs k w) := by
 obtain ⟨hl,hf,hx,hin⟩ := ho
 have f0 : 0 < ws.length → 1 ≤ ws.getD 0 0∧ws.getD 0 0 ≤ 8 := fun h => aL hf h
 have f1 : 1 < ws.length → 1 ≤ ws.getD 1 0∧ws.getD 1 0 ≤ 8 := fun h => aL hf h
 have f2 : 2 < ws.length → 1 ≤ ws.getD 2 0∧ws.getD 2 0 ≤ 8 := fun h => aL hf h
 have a0 : 0 < ws.length → 0 ≤ xs.getD 0 0∧xs.getD 0 0 ≤ ap (ws.getD 0 0) := fun h => bq hin (by omega)
 have a1 : 1 < ws.length → 0 ≤ xs.getD 1 0∧xs.getD 1 0 ≤ ap (ws.getD 1 0) := fun h => bq hin (by omega)
 have a2 : 2 < ws.length → 0 ≤ xs.getD 2 0∧xs.getD 2 0 ≤ ap (ws.getD 2 0) := fun h => bq hin (by omega)
 have m0 : 0 < ws.length → 0 ≤ ap (ws.getD 0 0)∧ap (ws.getD 0 0) ≤ 255 := fun h => aE (by have := f0 h; omega) (f0 h).2
 have m1 : 1 < ws.length → 0 ≤ ap (ws.getD 1 0)∧ap (ws.getD 1 0) ≤ 255 := fun h => aE (by have := f1 h; omega) (f1 h).2
 have m2 : 2 < ws.length → 0 ≤ ap (ws.getD 2 0)∧ap (ws.getD 2 0) ≤ 255 := fun h => aE (by have := f2 h; omega) (f2 h).2
 have b0 := f0 (by omega); have c0 := a0 (by omega); have d0 := m0 (by omega)
 have b1 := f1 (by omega); have c1 := a1 (by omega); have d1 := m1 (by omega)
 refine an.vc (V := TT 4 (IX 0 xs.length∧TT 3 (IX 1 xs.length∧TT 2 (CC (Hz (decide ((xs.getD 0 0) < (xs.getD 1 0))))∧TT 2 ((if (decide ((xs.getD 0 0) < (xs.getD 1 0))) = true then 1 else 0) = (kw 9 ws xs k w)∧True))))) (.w 1 [(9,(Hz (decide ((xs.getD 0 0) < (xs.getD 1 0)))).O)] <| .e) Tryz.func134 rfl rfl rfl (by kernel_rfl) ?_
 refine tt ⟨ix,tt ⟨ix,tt ⟨(HA (decide ((xs.getD 0 0) < (xs.getD 1 0)))),tt ⟨?_,oK⟩⟩⟩⟩
 show _ = (if xs.getD 0 0 < xs.getD 1 0 then (1 : Int) else 0)
 by_cases h : xs.getD 0 0 < xs.getD 1 0
 · rw [if_pos h,if_pos (by simpa using h)]
 · rw [if_neg h,if_neg (by simpa using h)]
abbrev N6 (ws xs : List Int) (k w : Int) : Ct := ⟨136,(lm ws xs k w),false,(i6 (kw 1 ws xs k w))⟩
theorem HG (ws xs : List Int) (k w : Int) (ho : FY ws xs 0) : CC (N6 ws xs k w) := by
 obtain ⟨hl,hf,hx,hin⟩ := ho
 have f0 : 0 < ws.length → 1 ≤ ws.getD 0 0∧ws.getD 0 0 ≤ 8 := fun h => aL hf h
 have f1 : 1 < ws.length → 1 ≤ ws.getD 1 0∧ws.getD 1 0 ≤ 8 := fun h => aL hf h
 have f2 : 2 < ws.length → 1 ≤ ws.getD 2 0∧ws.getD 2 0 ≤ 8 := fun h => aL hf h
 have a0 : 0 < ws.length → 0 ≤ xs.getD 0 0∧xs.getD 0 0 ≤ ap (ws.getD 0 0) := fun h => bq hin (by omega)
 have a1 : 1 < ws.length → 0 ≤ xs.getD 1 0∧xs.getD 1 0 ≤ ap (ws.getD 1 0) := fun h => bq hin (by omega)
 have a2 : 2 < ws.length → 0 ≤ xs.getD 2 0∧xs.getD 2 0 ≤ ap (ws.getD 2 0) := fun h => bq hin (by omega)
 have m0 : 0 < ws.length → 0 ≤ ap (ws.getD 0 0)∧ap (ws.getD 0 0) ≤ 255 := fun h => aE (by have := f0 h; omega) (f0 h).2
 have m1 : 1 < ws.length → 0 ≤ ap (ws.getD 1 0)∧ap (ws.getD 1 0) ≤ 255 := fun h => aE (by have := f1 h; omega) (f1 h).2
 have m2 : 2 < ws.length → 0 ≤ ap (ws.getD 2 0)∧ap (ws.getD 2 0) ≤ 255 := fun h => aE (by have := f2 h; omega) (f2 h).2
 refine an.vc (V := TT 6 (k = (kw 1 ws xs k w)∧True)) (.e) Tryz.func136 rfl rfl rfl (by kernel_rfl) ?_
 refine tt ⟨?_,oK⟩
 rfl
abbrev N7 (ws xs : List Int) (k w : Int) : Ct := ⟨144,(lm ws xs k w),false,(i6 (kw 13 ws xs k w))⟩
theorem K3 (ws xs : List Int) (k w : Int) (ho : FY ws xs 1) : CC (N7 ws xs k w) := by
 obtain ⟨hl,hf,hx,hin⟩ := ho
 have f0 : 0 < ws.length → 1 ≤ ws.getD 0 0∧ws.getD 0 0 ≤ 8 := fun h => aL hf h
 have f1 : 1 < ws.length → 1 ≤ ws.getD 1 0∧ws.getD 1 0 ≤ 8 := fun h => aL hf h
 have f2 : 2 < ws.length → 1 ≤ ws.getD 2 0∧ws.getD 2 0 ≤ 8 := fun h => aL hf h
 have a0 : 0 < ws.length → 0 ≤ xs.getD 0 0∧xs.getD 0 0 ≤ ap (ws.getD 0 0) := fun h => bq hin (by omega)
 have a1 : 1 < ws.length → 0 ≤ xs.getD 1 0∧xs.getD 1 0 ≤ ap (ws.getD 1 0) := fun h => bq hin (by omega)
 have a2 : 2 < ws.length → 0 ≤ xs.getD 2 0∧xs.getD 2 0 ≤ ap (ws.getD 2 0) := fun h => bq hin (by omega)
 have m0 : 0 < ws.length → 0 ≤ ap (ws.getD 0 0)∧ap (ws.getD 0 0) ≤ 255 := fun h => aE (by have := f0 h; omega) (f0 h).2
 have m1 : 1 < ws.length → 0 ≤ ap (ws.getD 1 0)∧ap (ws.getD 1 0) ≤ 255 := fun h => aE (by have := f1 h; omega) (f1 h).2
 have m2 : 2 < ws.length → 0 ≤ ap (ws.getD 2 0)∧ap (ws.getD 2 0) ≤ 255 := fun h => aE (by have := f2 h; omega) (f2 h).2
 have b0 := f0 (by omega); have c0 := a0 (by omega); have d0 := m0 (by omega)
 refine an.vc (V := TT 4 (IX 0 xs.length∧TT 3 ((xs.getD 0 0) = (kw 13 ws xs k w)∧True))) (.e) Tryz.func144 rfl rfl rfl (by kernel_rfl) ?_
 refine tt ⟨ix,tt ⟨?_,oK⟩⟩
 rfl
abbrev N8 (ws xs : List Int) (k w : Int) : Ct := ⟨138,(lm ws xs k w),false,(i6 (kw 10 ws xs k w))⟩
theorem K4 (ws xs : List Int) (k w : Int) (ho : FY ws xs 3) (h1 : ws.getD 0 0 = 1) : CC (N8 ws xs k w) := by
 obtain ⟨hl,hf,hx,hin⟩ := ho
 have f0 : 0 < ws.length → 1 ≤ ws.getD 0 0∧ws.getD 0 0 ≤ 8 := fun h => aL hf h
 have f1 : 1 < ws.length → 1 ≤ ws.getD 1 0∧ws.getD 1 0 ≤ 8 := fun h => aL hf h
 have f2 : 2 < ws.length → 1 ≤ ws.getD 2 0∧ws.getD 2 0 ≤ 8 := fun h => aL hf h
 have a0 : 0 < ws.length → 0 ≤ xs.getD 0 0∧xs.getD 0 0 ≤ ap (ws.getD 0 0) := fun h => bq hin (by omega)
 have a1 : 1 < ws.length → 0 ≤ xs.getD 1 0∧xs.getD 1 0 ≤ ap (ws.getD 1 0) := fun h => bq hin (by omega)
 have a2 : 2 < ws.length → 0 ≤ xs.getD 2 0∧xs.getD 2 0 ≤ ap (ws.getD 2 0) := fun h => bq hin (by omega)
 have m0 : 0 < ws.length → 0 ≤ ap (ws.getD 0 0)∧ap (ws.getD 0 0) ≤ 255 := fun h => aE (by have := f0 h; omega) (f0 h).2
 have m1 : 1 < ws.length → 0 ≤ ap (ws.getD 1 0)∧ap (ws.getD 1 0) ≤ 255 := fun h => aE (by have := f1 h; omega) (f1 h).2
 have m2 : 2 < ws.length → 0 ≤ ap (ws.getD 2 0)∧ap (ws.getD 2 0) ≤ 255 := fun h => aE (by have := f2 h; omega) (f2 h).2
 have b0 := f0 (by omega); have c0 := a0 (by omega); have d0 := m0 (by omega)
 have b1 := f1 (by omega); have c1 := a1 (by omega); have d1 := m1 (by omega)
 have b2 := f2 (by omega); have c2 := a2 (by omega); have d2 := m2 (by omega)
 have hm1 : ap (ws.getD 0 0) = 1 := by rw [h1]; decide
 have hx0 : xs.getD 0 0 = 0 ∨ xs.getD 0 0 = 1 := by omega
 refine an.vc (V := TT 6 (IX 0 xs.length∧TT 1 (W6 (2 - (xs.getD 0 0))∧IX (2 - (xs.getD 0 0)) xs.length∧TT 3 ((xs.getD ((2 - (xs.getD 0 0)).toNat) 0) = (kw 10 ws xs k w)∧True)))) (.w 1 [(6,.val (i6 (2 - (xs.getD 0 0))))] <| .e) Tryz.func138 rfl rfl rfl (by kernel_rfl) ?_
 refine tt ⟨ix,tt ⟨w6,⟨ix,tt ⟨?_,oK⟩⟩⟩⟩
 rfl
abbrev N9 (ws xs : List Int) (k w : Int) : Ct := ⟨140,(lm ws xs k w),false,(i6 (kw 11 ws xs k w))⟩
theorem K5 (ws xs : List Int) (k w : Int) (ho : FY ws xs 2) : CC (N9 ws xs k w) := by
 obtain ⟨hl,hf,hx,hin⟩ := ho
 have f0 : 0 < ws.length → 1 ≤ ws.getD 0 0∧ws.getD 0 0 ≤ 8 := fun h => aL hf h
 have f1 : 1 < ws.length → 1 ≤ ws.getD 1 0∧ws.getD 1 0 ≤ 8 := fun h => aL hf h
 have f2 : 2 < ws.length → 1 ≤ ws.getD 2 0∧ws.getD 2 0 ≤ 8 := fun h => aL hf h
 have a0 : 0 < ws.length → 0 ≤ xs.getD 0 0∧xs.getD 0 0 ≤ ap (ws.getD 0 0) := fun h => bq hin (by omega)
 have a1 : 1 < ws.length → 0 ≤ xs.getD 1 0∧xs.getD 1 0 ≤ ap (ws.getD 1 0) := fun h => bq hin (by omega)
 have a2 : 2 < ws.length → 0 ≤ xs.getD 2 0∧xs.getD 2 0 ≤ ap (ws.getD 2 0) := fun h => bq hin (by omega)
 have m0 : 0 < ws.length → 0 ≤ ap (ws.getD 0 0)∧ap (ws.getD 0 0) ≤ 255 := fun h => aE (by have := f0 h; omega) (f0 h).2
 have m1 : 1 < ws.length → 0 ≤ ap (ws.getD 1 0)∧ap (ws.getD 1 0) ≤ 255 := fun h => aE (by have := f1 h; omega) (f1 h).2
 have m2 : 2 < ws.length → 0 ≤ ap (ws.getD 2 0)∧ap (ws.getD 2 0) ≤ 255 := fun h => aE (by have := f2 h; omega) (f2 h).2
 have b0 := f0 (by omega); have c0 := a0 (by omega); have d0 := m0 (by omega)
 have b1 := f1 (by omega); have c1 := a1 (by omega); have d1 := m1 (by omega)
 refine an.vc (V := TT 4 (IX 0 xs.length∧TT 3 (IX 1 ws.length∧TT 1 ((0 ≤ (ws.getD 1 0)∧(IntKind.wrap .i64 ((xs.getD 0 0) * 2 ^ min ((ws.getD 1 0).toNat) 64)) = (((xs.getD 0 0).toNat * 2 ^ (ws.getD 1 0).toNat : Nat) : Int))∧TT 2 (IX 1 xs.length∧TT 1 ((True∧(IntKind.wrap .i64 (BitVec.ofInt (IntKind.i64).bits (((xs.getD 0 0).toNat * 2 ^ (ws.getD 1 0).toNat : Nat) : Int) ||| BitVec.ofInt (IntKind.i64).bits (xs.getD 1 0)).toNat) = (((xs.getD 0 0).toNat * 2 ^ (ws.getD 1 0).toNat ||| (xs.getD 1 0).toNat : Nat) : Int))∧TT 2 ((((xs.getD 0 0).toNat * 2 ^ (ws.getD 1 0).toNat ||| (xs.getD 1 0).toNat : Nat) : Int) = (kw 11 ws xs k w)∧True))))))) (.w 1 [(8,.val (i6 (((xs.getD 0 0).toNat * 2 ^ (ws.getD 1 0).toNat : Nat) : Int))),(13,.val (i6 (((xs.getD 0 0).toNat * 2 ^ (ws.getD 1 0).toNat ||| (xs.getD 1 0).toNat : Nat) : Int)))] <| .e) Tryz.func140 rfl rfl rfl (by kernel_rfl) ?_
 refine tt ⟨ix,tt ⟨ix,tt ⟨⟨om,(Eg (by omega) (by omega))⟩,tt ⟨ix,tt ⟨⟨oK,(Eh (by omega) (by omega) (by omega))⟩,tt ⟨?_,oK⟩⟩⟩⟩⟩⟩
 rfl
abbrev Oa (ws xs : List Int) (k w : Int) : Ct := ⟨142,(lm ws xs k w),false,(i6 (kw 12 ws xs k w))⟩
theorem HH (ws xs : List Int) (k w : Int) (ho : FY ws xs 1) (hk : 0 ≤ k∧k ≤ 8∧aA w = true) : CC (Oa ws xs k w) := by
 obtain ⟨hl,hf,hx,hin⟩ := ho
 have f0 : 0 < ws.length → 1 ≤ ws.getD 0 0∧ws.getD 0 0 ≤ 8 := fun h => aL hf h
 have f1 : 1 < ws.length → 1 ≤ ws.getD 1 0∧ws.getD 1 0 ≤ 8 := fun h => aL hf h
 have f2 : 2 < ws.length → 1 ≤ ws.getD 2 0∧ws.getD 2 0 ≤ 8 := fun h => aL hf h
 have a0 : 0 < ws.length → 0 ≤ xs.getD 0 0∧xs.getD 0 0 ≤ ap (ws.getD 0 0) := fun h => bq hin (by omega)
 have a1 : 1 < ws.length → 0 ≤ xs.getD 1 0∧xs.getD 1 0 ≤ ap (ws.getD 1 0) := fun h => bq hin (by omega)
 have a2 : 2 < ws.length → 0 ≤ xs.getD 2 0∧xs.getD 2 0 ≤ ap (ws.getD 2 0) := fun h => bq hin (by omega)
 have m0 : 0 < ws.length → 0 ≤ ap (ws.getD 0 0)∧ap (ws.getD 0 0) ≤ 255 := fun h => aE (by have := f0 h; omega) (f0 h).2
 have m1 : 1 < ws.length → 0 ≤ ap (ws.getD 1 0)∧ap (ws.getD 1 0) ≤ 255 := fun h => aE (by have := f1 h; omega) (f1 h).2
 have m2 : 2 < ws.length → 0 ≤ ap (ws.getD 2 0)∧ap (ws.getD 2 0) ≤ 255 := fun h => aE (by have := f2 h; omega) (f2 h).2
 have b0 := f0 (by omega); have c0 := a0 (by omega); have d0 := m0 (by omega)
 have hw := bc.1 hk.2.2
 refine an.vc (V := TT 4 (IX 0 xs.length∧TT 3 ((0 ≤ k∧(Int.fdiv (xs.getD 0 0) (2 ^ min k.toNat 64)) = (xs.getD 0 0 / 2 ^ k.toNat))∧TT 2 (CC (Hy w)∧(True∧(IntKind.wrap .i64 (BitVec.ofInt (IntKind.i64).bits (xs.getD 0 0 / 2 ^ k.toNat) &&& BitVec.ofInt (IntKind.i64).bits (ap w)).toNat) = ((xs.getD 0 0 / 2 ^ k.toNat) % 2 ^ w.toNat))∧TT 2 (((xs.getD 0 0 / 2 ^ k.toNat) % 2 ^ w.toNat) = (kw 12 ws xs k w)∧True))))) (.w 1 [(6,.val (i6 (xs.getD 0 0 / 2 ^ k.toNat))),(9,(Hy w).O),(10,.val (i6 ((xs.getD 0 0 / 2 ^ k.toNat) % 2 ^ w.toNat)))] <| .e) Tryz.func142 rfl rfl rfl (by kernel_rfl) ?_
 refine tt ⟨ix,tt ⟨⟨om,(zt hk.1 (by omega))⟩,tt ⟨(rU w),⟨⟨oK,(by rw [da (by omega) (by omega)]; exact jc (by omega))⟩,tt ⟨?_,oK⟩⟩⟩⟩⟩
 rfl
end Go.Proofs.YtifoecfajmnjjaaGreat
