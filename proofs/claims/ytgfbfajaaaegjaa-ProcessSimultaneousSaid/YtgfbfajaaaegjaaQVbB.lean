/-
  Package bits: the values of operations.
-/
import Derived.Test.YtgfbfajaaaegjaaQVbA
namespace Go.Proofs.Ytgfbfajaaaegjaa
open Go.RowKit
set_option linter.unusedVariables false
set_option linter.unusedSimpArgs false
abbrev gX (ws xs : List Int) (k w : Int) : List D := [(.agg [(LI ws),(LI xs),(i6 k),(i6 w)])]
set_option maxRecDepth 100000
structure xw (ws xs : List Int) (n : Nat) : Prop where
  hl : ws.length = n
  hf : ws.all aq = true
  hx : xs.length = ws.length
  hin : xr ws xs = true
abbrev A8 (ws xs : List Int) (k w : Int) : Ct := ⟨80,(gX ws xs k w),false,(i6 (af (ws.getD 0 0)))⟩
theorem qE (ws xs : List Int) (k w : Int) (hl : 0 < ws.length) : CC (A8 ws xs k w) := by
 refine ai.vc (V := TT 4 (IX 0 ws.length∧TT 1 (CC (yA (ws.getD 0 0))∧TT 2 ((af (ws.getD 0 0)) = (af (ws.getD 0 0))∧True)))) (.w 1 [(4,(yA (ws.getD 0 0)).O)] <| .e) Try.func80 rfl rfl rfl (by kernel_rfl) ?_
 exact tt ⟨ix,tt ⟨(mM (ws.getD 0 0)),tt ⟨rfl,oK⟩⟩⟩
abbrev Dn (ws xs : List Int) (k w : Int) : Ct := ⟨79,(gX ws xs k w),false,(i6 (lm 2 ws xs k w))⟩
theorem A9 (ws xs : List Int) (k w : Int) (ho : xw ws xs 1) : CC (Dn ws xs k w) := by
 obtain ⟨hl,hf,hx,hin⟩ := ho
 have f0 : 0 < ws.length → 1 ≤ ws.getD 0 0∧ws.getD 0 0 ≤ 8 := fun h => az hf h
 have f1 : 1 < ws.length → 1 ≤ ws.getD 1 0∧ws.getD 1 0 ≤ 8 := fun h => az hf h
 have f2 : 2 < ws.length → 1 ≤ ws.getD 2 0∧ws.getD 2 0 ≤ 8 := fun h => az hf h
 have a0 : 0 < ws.length → 0 ≤ xs.getD 0 0∧xs.getD 0 0 ≤ af (ws.getD 0 0) := fun h => bg hin (by omega)
 have a1 : 1 < ws.length → 0 ≤ xs.getD 1 0∧xs.getD 1 0 ≤ af (ws.getD 1 0) := fun h => bg hin (by omega)
 have a2 : 2 < ws.length → 0 ≤ xs.getD 2 0∧xs.getD 2 0 ≤ af (ws.getD 2 0) := fun h => bg hin (by omega)
 have m0 : 0 < ws.length → 0 ≤ af (ws.getD 0 0)∧af (ws.getD 0 0) ≤ 255 := fun h => ao (by have := f0 h; omega) (f0 h).2
 have m1 : 1 < ws.length → 0 ≤ af (ws.getD 1 0)∧af (ws.getD 1 0) ≤ 255 := fun h => ao (by have := f1 h; omega) (f1 h).2
 have m2 : 2 < ws.length → 0 ≤ af (ws.getD 2 0)∧af (ws.getD 2 0) ≤ 255 := fun h => ao (by have := f2 h; omega) (f2 h).2
 have b0 := f0 (by omega); have c0 := a0 (by omega); have d0 := m0 (by omega)
 refine ai.vc (V := TT 4 (IX 0 xs.length∧TT 2 (CC (A8 ws xs k w)∧(True∧(IntKind.wrap .i64 (BitVec.ofInt (IntKind.i64).bits (xs.getD 0 0) ^^^ BitVec.ofInt (IntKind.i64).bits (af (ws.getD 0 0))).toNat) = (((xs.getD 0 0).toNat ^^^ (af (ws.getD 0 0)).toNat : Nat) : Int))∧TT 2 ((((xs.getD 0 0).toNat ^^^ (af (ws.getD 0 0)).toNat : Nat) : Int) = (lm 2 ws xs k w)∧True)))) (.w 1 [(5,(A8 ws xs k w).O),(6,.val (i6 (((xs.getD 0 0).toNat ^^^ (af (ws.getD 0 0)).toNat : Nat) : Int)))] <| .e) Try.func79 rfl rfl rfl (by kernel_rfl) ?_
 refine tt ⟨ix,tt ⟨(qE ws xs k w om),⟨⟨oK,(so (by omega) (by omega) (by omega) (by omega))⟩,tt ⟨?_,oK⟩⟩⟩⟩
 rfl
abbrev Dp (ws xs : List Int) (k w : Int) : Ct := ⟨82,(gX ws xs k w),false,(i6 (lm 3 ws xs k w))⟩
theorem Ba (ws xs : List Int) (k w : Int) (ho : xw ws xs 2) : CC (Dp ws xs k w) := by
 obtain ⟨hl,hf,hx,hin⟩ := ho
 have f0 : 0 < ws.length → 1 ≤ ws.getD 0 0∧ws.getD 0 0 ≤ 8 := fun h => az hf h
 have f1 : 1 < ws.length → 1 ≤ ws.getD 1 0∧ws.getD 1 0 ≤ 8 := fun h => az hf h
 have f2 : 2 < ws.length → 1 ≤ ws.getD 2 0∧ws.getD 2 0 ≤ 8 := fun h => az hf h
 have a0 : 0 < ws.length → 0 ≤ xs.getD 0 0∧xs.getD 0 0 ≤ af (ws.getD 0 0) := fun h => bg hin (by omega)
 have a1 : 1 < ws.length → 0 ≤ xs.getD 1 0∧xs.getD 1 0 ≤ af (ws.getD 1 0) := fun h => bg hin (by omega)
 have a2 : 2 < ws.length → 0 ≤ xs.getD 2 0∧xs.getD 2 0 ≤ af (ws.getD 2 0) := fun h => bg hin (by omega)
 have m0 : 0 < ws.length → 0 ≤ af (ws.getD 0 0)∧af (ws.getD 0 0) ≤ 255 := fun h => ao (by have := f0 h; omega) (f0 h).2
 have m1 : 1 < ws.length → 0 ≤ af (ws.getD 1 0)∧af (ws.getD 1 0) ≤ 255 := fun h => ao (by have := f1 h; omega) (f1 h).2
 have m2 : 2 < ws.length → 0 ≤ af (ws.getD 2 0)∧af (ws.getD 2 0) ≤ 255 := fun h => ao (by have := f2 h; omega) (f2 h).2
 have b0 := f0 (by omega); have c0 := a0 (by omega); have d0 := m0 (by omega)
 have b1 := f1 (by omega); have c1 := a1 (by omega); have d1 := m1 (by omega)
 refine ai.vc (V := TT 4 (IX 0 xs.length∧TT 3 (IX 1 xs.length∧TT 1 ((True∧(IntKind.wrap .i64 (BitVec.ofInt (IntKind.i64).bits (xs.getD 0 0) &&& BitVec.ofInt (IntKind.i64).bits (xs.getD 1 0)).toNat) = (((xs.getD 0 0).toNat &&& (xs.getD 1 0).toNat : Nat) : Int))∧TT 2 ((((xs.getD 0 0).toNat &&& (xs.getD 1 0).toNat : Nat) : Int) = (lm 3 ws xs k w)∧True))))) (.w 1 [(8,.val (i6 (((xs.getD 0 0).toNat &&& (xs.getD 1 0).toNat : Nat) : Int)))] <| .e) Try.func82 rfl rfl rfl (by kernel_rfl) ?_
 refine tt ⟨ix,tt ⟨ix,tt ⟨⟨oK,(xt (by omega) (by omega) (by omega) (by omega))⟩,tt ⟨?_,oK⟩⟩⟩⟩
 rfl
abbrev Dq (ws xs : List Int) (k w : Int) : Ct := ⟨83,(gX ws xs k w),false,(i6 (lm 4 ws xs k w))⟩
theorem Cf (ws xs : List Int) (k w : Int) (ho : xw ws xs 2) : CC (Dq ws xs k w) := by
 obtain ⟨hl,hf,hx,hin⟩ := ho
 have f0 : 0 < ws.length → 1 ≤ ws.getD 0 0∧ws.getD 0 0 ≤ 8 := fun h => az hf h
 have f1 : 1 < ws.length → 1 ≤ ws.getD 1 0∧ws.getD 1 0 ≤ 8 := fun h => az hf h
 have f2 : 2 < ws.length → 1 ≤ ws.getD 2 0∧ws.getD 2 0 ≤ 8 := fun h => az hf h
 have a0 : 0 < ws.length → 0 ≤ xs.getD 0 0∧xs.getD 0 0 ≤ af (ws.getD 0 0) := fun h => bg hin (by omega)
 have a1 : 1 < ws.length → 0 ≤ xs.getD 1 0∧xs.getD 1 0 ≤ af (ws.getD 1 0) := fun h => bg hin (by omega)
 have a2 : 2 < ws.length → 0 ≤ xs.getD 2 0∧xs.getD 2 0 ≤ af (ws.getD 2 0) := fun h => bg hin (by omega)
 have m0 : 0 < ws.length → 0 ≤ af (ws.getD 0 0)∧af (ws.getD 0 0) ≤ 255 := fun h => ao (by have := f0 h; omega) (f0 h).2
 have m1 : 1 < ws.length → 0 ≤ af (ws.getD 1 0)∧af (ws.getD 1 0) ≤ 255 := fun h => ao (by have := f1 h; omega) (f1 h).2
 have m2 : 2 < ws.length → 0 ≤ af (ws.getD 2 0)∧af (ws.getD 2 0) ≤ 255 := fun h => ao (by have := f2 h; omega) (f2 h).2
 have b0 := f0 (by omega); have c0 := a0 (by omega); have d0 := m0 (by omega)
 have b1 := f1 (by omega); have c1 := a1 (by omega); have d1 := m1 (by omega)
 refine ai.vc (V := TT 4 (IX 0 xs.length∧TT 3 (IX 1 xs.length∧TT 1 ((True∧(IntKind.wrap .i64 (BitVec.ofInt (IntKind.i64).bits (xs.getD 0 0) ||| BitVec.ofInt (IntKind.i64).bits (xs.getD 1 0)).toNat) = (((xs.getD 0 0).toNat ||| (xs.getD 1 0).toNat : Nat) : Int))∧TT 2 ((((xs.getD 0 0).toNat ||| (xs.getD 1 0).toNat : Nat) : Int) = (lm 4 ws xs k w)∧True))))) (.w 1 [(8,.val (i6 (((xs.getD 0 0).toNat ||| (xs.getD 1 0).toNat : Nat) : Int)))] <| .e) Try.func83 rfl rfl rfl (by kernel_rfl) ?_
 refine tt ⟨ix,tt ⟨ix,tt ⟨⟨oK,(yx (by omega) (by omega) (by omega) (by omega))⟩,tt ⟨?_,oK⟩⟩⟩⟩
 rfl
abbrev Dr (ws xs : List Int) (k w : Int) : Ct := ⟨84,(gX ws xs k w),false,(i6 (lm 5 ws xs k w))⟩
theorem Bb (ws xs : List Int) (k w : Int) (ho : xw ws xs 2) : CC (Dr ws xs k w) := by
 obtain ⟨hl,hf,hx,hin⟩ := ho
 have f0 : 0 < ws.length → 1 ≤ ws.getD 0 0∧ws.getD 0 0 ≤ 8 := fun h => az hf h
 have f1 : 1 < ws.length → 1 ≤ ws.getD 1 0∧ws.getD 1 0 ≤ 8 := fun h => az hf h
 have f2 : 2 < ws.length → 1 ≤ ws.getD 2 0∧ws.getD 2 0 ≤ 8 := fun h => az hf h
 have a0 : 0 < ws.length → 0 ≤ xs.getD 0 0∧xs.getD 0 0 ≤ af (ws.getD 0 0) := fun h => bg hin (by omega)
 have a1 : 1 < ws.length → 0 ≤ xs.getD 1 0∧xs.getD 1 0 ≤ af (ws.getD 1 0) := fun h => bg hin (by omega)
 have a2 : 2 < ws.length → 0 ≤ xs.getD 2 0∧xs.getD 2 0 ≤ af (ws.getD 2 0) := fun h => bg hin (by omega)
 have m0 : 0 < ws.length → 0 ≤ af (ws.getD 0 0)∧af (ws.getD 0 0) ≤ 255 := fun h => ao (by have := f0 h; omega) (f0 h).2
 have m1 : 1 < ws.length → 0 ≤ af (ws.getD 1 0)∧af (ws.getD 1 0) ≤ 255 := fun h => ao (by have := f1 h; omega) (f1 h).2
 have m2 : 2 < ws.length → 0 ≤ af (ws.getD 2 0)∧af (ws.getD 2 0) ≤ 255 := fun h => ao (by have := f2 h; omega) (f2 h).2
 have b0 := f0 (by omega); have c0 := a0 (by omega); have d0 := m0 (by omega)
 have b1 := f1 (by omega); have c1 := a1 (by omega); have d1 := m1 (by omega)
 refine ai.vc (V := TT 4 (IX 0 xs.length∧TT 3 (IX 1 xs.length∧TT 1 ((True∧(IntKind.wrap .i64 (BitVec.ofInt (IntKind.i64).bits (xs.getD 0 0) ^^^ BitVec.ofInt (IntKind.i64).bits (xs.getD 1 0)).toNat) = (((xs.getD 0 0).toNat ^^^ (xs.getD 1 0).toNat : Nat) : Int))∧TT 2 ((((xs.getD 0 0).toNat ^^^ (xs.getD 1 0).toNat : Nat) : Int) = (lm 5 ws xs k w)∧True))))) (.w 1 [(8,.val (i6 (((xs.getD 0 0).toNat ^^^ (xs.getD 1 0).toNat : Nat) : Int)))] <| .e) Try.func84 rfl rfl rfl (by kernel_rfl) ?_
 refine tt ⟨ix,tt ⟨ix,tt ⟨⟨oK,(so (by omega) (by omega) (by omega) (by omega))⟩,tt ⟨?_,oK⟩⟩⟩⟩
 rfl
abbrev Ds (ws xs : List Int) (k w : Int) : Ct := ⟨85,(gX ws xs k w),false,(i6 (lm 6 ws xs k w))⟩
theorem Bc (ws xs : List Int) (k w : Int) (ho : xw ws xs 2) : CC (Ds ws xs k w) := by
 obtain ⟨hl,hf,hx,hin⟩ := ho
 have f0 : 0 < ws.length → 1 ≤ ws.getD 0 0∧ws.getD 0 0 ≤ 8 := fun h => az hf h
 have f1 : 1 < ws.length → 1 ≤ ws.getD 1 0∧ws.getD 1 0 ≤ 8 := fun h => az hf h
 have f2 : 2 < ws.length → 1 ≤ ws.getD 2 0∧ws.getD 2 0 ≤ 8 := fun h => az hf h
 have a0 : 0 < ws.length → 0 ≤ xs.getD 0 0∧xs.getD 0 0 ≤ af (ws.getD 0 0) := fun h => bg hin (by omega)
 have a1 : 1 < ws.length → 0 ≤ xs.getD 1 0∧xs.getD 1 0 ≤ af (ws.getD 1 0) := fun h => bg hin (by omega)
 have a2 : 2 < ws.length → 0 ≤ xs.getD 2 0∧xs.getD 2 0 ≤ af (ws.getD 2 0) := fun h => bg hin (by omega)
 have m0 : 0 < ws.length → 0 ≤ af (ws.getD 0 0)∧af (ws.getD 0 0) ≤ 255 := fun h => ao (by have := f0 h; omega) (f0 h).2
 have m1 : 1 < ws.length → 0 ≤ af (ws.getD 1 0)∧af (ws.getD 1 0) ≤ 255 := fun h => ao (by have := f1 h; omega) (f1 h).2
 have m2 : 2 < ws.length → 0 ≤ af (ws.getD 2 0)∧af (ws.getD 2 0) ≤ 255 := fun h => ao (by have := f2 h; omega) (f2 h).2
 have b0 := f0 (by omega); have c0 := a0 (by omega); have d0 := m0 (by omega)
 have b1 := f1 (by omega); have c1 := a1 (by omega); have d1 := m1 (by omega)
 refine ai.vc (V := TT 4 (IX 0 xs.length∧TT 3 (IX 1 xs.length∧TT 1 (W6 ((xs.getD 0 0) + (xs.getD 1 0))∧TT 1 (CC (A8 ws xs k w)∧(True∧(IntKind.wrap .i64 (BitVec.ofInt (IntKind.i64).bits ((xs.getD 0 0) + (xs.getD 1 0)) &&& BitVec.ofInt (IntKind.i64).bits (af (ws.getD 0 0))).toNat) = ((xs.getD 0 0 + xs.getD 1 0) % 2 ^ (ws.getD 0 0).toNat))∧TT 2 (((xs.getD 0 0 + xs.getD 1 0) % 2 ^ (ws.getD 0 0).toNat) = (lm 6 ws xs k w)∧True)))))) (.w 1 [(8,.val (i6 ((xs.getD 0 0) + (xs.getD 1 0)))),(10,(A8 ws xs k w).O),(11,.val (i6 ((xs.getD 0 0 + xs.getD 1 0) % 2 ^ (ws.getD 0 0).toNat)))] <| .e) Try.func85 rfl rfl rfl (by kernel_rfl) ?_
 refine tt ⟨ix,tt ⟨ix,tt ⟨w6,tt ⟨(qE ws xs k w om),⟨⟨oK,(by rw [gG (by omega) (by omega)]; exact e7 (by omega))⟩,tt ⟨?_,oK⟩⟩⟩⟩⟩⟩
 rfl
abbrev Dt (ws xs : List Int) (k w : Int) : Ct := ⟨86,(gX ws xs k w),false,(i6 (lm 7 ws xs k w))⟩
theorem Bd (ws xs : List Int) (k w : Int) (ho : xw ws xs 2) : CC (Dt ws xs k w) := by
 obtain ⟨hl,hf,hx,hin⟩ := ho
 have f0 : 0 < ws.length → 1 ≤ ws.getD 0 0∧ws.getD 0 0 ≤ 8 := fun h => az hf h
 have f1 : 1 < ws.length → 1 ≤ ws.getD 1 0∧ws.getD 1 0 ≤ 8 := fun h => az hf h
 have f2 : 2 < ws.length → 1 ≤ ws.getD 2 0∧ws.getD 2 0 ≤ 8 := fun h => az hf h
 have a0 : 0 < ws.length → 0 ≤ xs.getD 0 0∧xs.getD 0 0 ≤ af (ws.getD 0 0) := fun h => bg hin (by omega)
 have a1 : 1 < ws.length → 0 ≤ xs.getD 1 0∧xs.getD 1 0 ≤ af (ws.getD 1 0) := fun h => bg hin (by omega)
 have a2 : 2 < ws.length → 0 ≤ xs.getD 2 0∧xs.getD 2 0 ≤ af (ws.getD 2 0) := fun h => bg hin (by omega)
 have m0 : 0 < ws.length → 0 ≤ af (ws.getD 0 0)∧af (ws.getD 0 0) ≤ 255 := fun h => ao (by have := f0 h; omega) (f0 h).2
 have m1 : 1 < ws.length → 0 ≤ af (ws.getD 1 0)∧af (ws.getD 1 0) ≤ 255 := fun h => ao (by have := f1 h; omega) (f1 h).2
 have m2 : 2 < ws.length → 0 ≤ af (ws.getD 2 0)∧af (ws.getD 2 0) ≤ 255 := fun h => ao (by have := f2 h; omega) (f2 h).2
 have b0 := f0 (by omega); have c0 := a0 (by omega); have d0 := m0 (by omega)
 have b1 := f1 (by omega); have c1 := a1 (by omega); have d1 := m1 (by omega)
 refine ai.vc (V := TT 4 (IX 0 xs.length∧TT 3 (IX 1 xs.length∧TT 1 (W6 ((xs.getD 0 0) - (xs.getD 1 0))∧TT 1 (CC (A8 ws xs k w)∧(True∧(IntKind.wrap .i64 (BitVec.ofInt (IntKind.i64).bits ((xs.getD 0 0) - (xs.getD 1 0)) &&& BitVec.ofInt (IntKind.i64).bits (af (ws.getD 0 0))).toNat) = ((xs.getD 0 0 - xs.getD 1 0) % 2 ^ (ws.getD 0 0).toNat))∧TT 2 (((xs.getD 0 0 - xs.getD 1 0) % 2 ^ (ws.getD 0 0).toNat) = (lm 7 ws xs k w)∧True)))))) (.w 1 [(8,.val (i6 ((xs.getD 0 0) - (xs.getD 1 0)))),(10,(A8 ws xs k w).O),(11,.val (i6 ((xs.getD 0 0 - xs.getD 1 0) % 2 ^ (ws.getD 0 0).toNat)))] <| .e) Try.func86 rfl rfl rfl (by kernel_rfl) ?_
 refine tt ⟨ix,tt ⟨ix,tt ⟨w6,tt ⟨(qE ws xs k w om),⟨⟨oK,(by rw [gG (by omega) (by omega)]; exact e7 (by omega))⟩,tt ⟨?_,oK⟩⟩⟩⟩⟩⟩
 rfl
abbrev Du (ws xs : List Int) (k w : Int) : Ct := ⟨88,(gX ws xs k w),false,(i6 (lm 8 ws xs k w))⟩
theorem Cg (ws xs : List Int) (k w : Int) (ho : xw ws xs 2) : CC (Du ws xs k w) := by
 obtain ⟨hl,hf,hx,hin⟩ := ho
 have f0 : 0 < ws.length → 1 ≤ ws.getD 0 0∧ws.getD 0 0 ≤ 8 := fun h => az hf h
 have f1 : 1 < ws.length → 1 ≤ ws.getD 1 0∧ws.getD 1 0 ≤ 8 := fun h => az hf h
 have f2 : 2 < ws.length → 1 ≤ ws.getD 2 0∧ws.getD 2 0 ≤ 8 := fun h => az hf h
 have a0 : 0 < ws.length → 0 ≤ xs.getD 0 0∧xs.getD 0 0 ≤ af (ws.getD 0 0) := fun h => bg hin (by omega)
 have a1 : 1 < ws.length → 0 ≤ xs.getD 1 0∧xs.getD 1 0 ≤ af (ws.getD 1 0) := fun h => bg hin (by omega)
 have a2 : 2 < ws.length → 0 ≤ xs.getD 2 0∧xs.getD 2 0 ≤ af (ws.getD 2 0) := fun h => bg hin (by omega)
 have m0 : 0 < ws.length → 0 ≤ af (ws.getD 0 0)∧af (ws.getD 0 0) ≤ 255 := fun h => ao (by have := f0 h; omega) (f0 h).2
 have m1 : 1 < ws.length → 0 ≤ af (ws.getD 1 0)∧af (ws.getD 1 0) ≤ 255 := fun h => ao (by have := f1 h; omega) (f1 h).2
 have m2 : 2 < ws.length → 0 ≤ af (ws.getD 2 0)∧af (ws.getD 2 0) ≤ 255 := fun h => ao (by have := f2 h; omega) (f2 h).2
 have b0 := f0 (by omega); have c0 := a0 (by omega); have d0 := m0 (by omega)
 have b1 := f1 (by omega); have c1 := a1 (by omega); have d1 := m1 (by omega)
 refine ai.vc (V := TT 4 (IX 0 xs.length∧TT 3 (IX 1 xs.length∧TT 2 (CC (Ce ((xs.getD 0 0) == (xs.getD 1 0)))∧TT 2 ((if ((xs.getD 0 0) == (xs.getD 1 0)) = true then 1 else 0) = (lm 8 ws xs k w)∧True))))) (.w 1 [(9,(Ce ((xs.getD 0 0) == (xs.getD 1 0))).O)] <| .e) Try.func88 rfl rfl rfl (by kernel_rfl) ?_
 refine tt ⟨ix,tt ⟨ix,tt ⟨(yB ((xs.getD 0 0) == (xs.getD 1 0))),tt ⟨?_,oK⟩⟩⟩⟩
 show _ = (if xs.getD 0 0 = xs.getD 1 0 then (1 : Int) else 0)
 by_cases h : xs.getD 0 0 = xs.getD 1 0
 · rw [if_pos h,if_pos (by simpa using h)]
 · rw [if_neg h,if_neg (by simpa using h)]
abbrev Dv (ws xs : List Int) (k w : Int) : Ct := ⟨90,(gX ws xs k w),false,(i6 (lm 9 ws xs k w))⟩
theorem Ch (ws xs : List Int) (k w : Int) (ho : xw ws xs 2) : CC (Dv ws xs k w) := by
 obtain ⟨hl,hf,hx,hin⟩ := ho
 have f0 : 0 < ws.length → 1 ≤ ws.getD 0 0∧ws.getD 0 0 ≤ 8 := fun h => az hf h
 have f1 : 1 < ws.length → 1 ≤ ws.getD 1 0∧ws.getD 1 0 ≤ 8 := fun h => az hf h
 have f2 : 2 < ws.length → 1 ≤ ws.getD 2 0∧ws.getD 2 0 ≤ 8 := fun h => az hf h
 have a0 : 0 < ws.length → 0 ≤ xs.getD 0 0∧xs.getD 0 0 ≤ af (ws.getD 0 0) := fun h => bg hin (by omega)
 have a1 : 1 < ws.length → 0 ≤ xs.getD 1 0∧xs.getD 1 0 ≤ af (ws.getD 1 0) := fun h => bg hin (by omega)
 have a2 : 2 < ws.length → 0 ≤ xs.getD 2 0∧xs.getD 2 0 ≤ af (ws.getD 2 0) := fun h => bg hin (by omega)
 have m0 : 0 < ws.length → 0 ≤ af (ws.getD 0 0)∧af (ws.getD 0 0) ≤ 255 := fun h => ao (by have := f0 h; omega) (f0 h).2
 have m1 : 1 < ws.length → 0 ≤ af (ws.getD 1 0)∧af (ws.getD 1 0) ≤ 255 := fun h => ao (by have := f1 h; omega) (f1 h).2
 have m2 : 2 < ws.length → 0 ≤ af (ws.getD 2 0)∧af (ws.getD 2 0) ≤ 255 := fun h => ao (by have := f2 h; omega) (f2 h).2
 have b0 := f0 (by omega); have c0 := a0 (by omega); have d0 := m0 (by omega)
 have b1 := f1 (by omega); have c1 := a1 (by omega); have d1 := m1 (by omega)
 refine ai.vc (V := TT 4 (IX 0 xs.length∧TT 3 (IX 1 xs.length∧TT 2 (CC (Ce (decide ((xs.getD 0 0) < (xs.getD 1 0))))∧TT 2 ((if (decide ((xs.getD 0 0) < (xs.getD 1 0))) = true then 1 else 0) = (lm 9 ws xs k w)∧True))))) (.w 1 [(9,(Ce (decide ((xs.getD 0 0) < (xs.getD 1 0)))).O)] <| .e) Try.func90 rfl rfl rfl (by kernel_rfl) ?_
 refine tt ⟨ix,tt ⟨ix,tt ⟨(yB (decide ((xs.getD 0 0) < (xs.getD 1 0)))),tt ⟨?_,oK⟩⟩⟩⟩
 show _ = (if xs.getD 0 0 < xs.getD 1 0 then (1 : Int) else 0)
 by_cases h : xs.getD 0 0 < xs.getD 1 0
 · rw [if_pos h,if_pos (by simpa using h)]
 · rw [if_neg h,if_neg (by simpa using h)]
abbrev Dw (ws xs : List Int) (k w : Int) : Ct := ⟨92,(gX ws xs k w),false,(i6 (lm 1 ws xs k w))⟩
theorem yG (ws xs : List Int) (k w : Int) (ho : xw ws xs 0) : CC (Dw ws xs k w) := by
 obtain ⟨hl,hf,hx,hin⟩ := ho
 have f0 : 0 < ws.length → 1 ≤ ws.getD 0 0∧ws.getD 0 0 ≤ 8 := fun h => az hf h
 have f1 : 1 < ws.length → 1 ≤ ws.getD 1 0∧ws.getD 1 0 ≤ 8 := fun h => az hf h
 have f2 : 2 < ws.length → 1 ≤ ws.getD 2 0∧ws.getD 2 0 ≤ 8 := fun h => az hf h
 have a0 : 0 < ws.length → 0 ≤ xs.getD 0 0∧xs.getD 0 0 ≤ af (ws.getD 0 0) := fun h => bg hin (by omega)
 have a1 : 1 < ws.length → 0 ≤ xs.getD 1 0∧xs.getD 1 0 ≤ af (ws.getD 1 0) := fun h => bg hin (by omega)
 have a2 : 2 < ws.length → 0 ≤ xs.getD 2 0∧xs.getD 2 0 ≤ af (ws.getD 2 0) := fun h => bg hin (by omega)
 have m0 : 0 < ws.length → 0 ≤ af (ws.getD 0 0)∧af (ws.getD 0 0) ≤ 255 := fun h => ao (by have := f0 h; omega) (f0 h).2
 have m1 : 1 < ws.length → 0 ≤ af (ws.getD 1 0)∧af (ws.getD 1 0) ≤ 255 := fun h => ao (by have := f1 h; omega) (f1 h).2
 have m2 : 2 < ws.length → 0 ≤ af (ws.getD 2 0)∧af (ws.getD 2 0) ≤ 255 := fun h => ao (by have := f2 h; omega) (f2 h).2
 refine ai.vc (V := TT 6 (k = (lm 1 ws xs k w)∧True)) (.e) Try.func92 rfl rfl rfl (by kernel_rfl) ?_
 refine tt ⟨?_,oK⟩
 rfl
abbrev CY (ws xs : List Int) (k w : Int) : Ct := ⟨100,(gX ws xs k w),false,(i6 (lm 13 ws xs k w))⟩
theorem Be (ws xs : List Int) (k w : Int) (ho : xw ws xs 1) : CC (CY ws xs k w) := by
 obtain ⟨hl,hf,hx,hin⟩ := ho
 have f0 : 0 < ws.length → 1 ≤ ws.getD 0 0∧ws.getD 0 0 ≤ 8 := fun h => az hf h
 have f1 : 1 < ws.length → 1 ≤ ws.getD 1 0∧ws.getD 1 0 ≤ 8 := fun h => az hf h
 have f2 : 2 < ws.length → 1 ≤ ws.getD 2 0∧ws.getD 2 0 ≤ 8 := fun h => az hf h
 have a0 : 0 < ws.length → 0 ≤ xs.getD 0 0∧xs.getD 0 0 ≤ af (ws.getD 0 0) := fun h => bg hin (by omega)
 have a1 : 1 < ws.length → 0 ≤ xs.getD 1 0∧xs.getD 1 0 ≤ af (ws.getD 1 0) := fun h => bg hin (by omega)
 have a2 : 2 < ws.length → 0 ≤ xs.getD 2 0∧xs.getD 2 0 ≤ af (ws.getD 2 0) := fun h => bg hin (by omega)
 have m0 : 0 < ws.length → 0 ≤ af (ws.getD 0 0)∧af (ws.getD 0 0) ≤ 255 := fun h => ao (by have := f0 h; omega) (f0 h).2
 have m1 : 1 < ws.length → 0 ≤ af (ws.getD 1 0)∧af (ws.getD 1 0) ≤ 255 := fun h => ao (by have := f1 h; omega) (f1 h).2
 have m2 : 2 < ws.length → 0 ≤ af (ws.getD 2 0)∧af (ws.getD 2 0) ≤ 255 := fun h => ao (by have := f2 h; omega) (f2 h).2
 have b0 := f0 (by omega); have c0 := a0 (by omega); have d0 := m0 (by omega)
 refine ai.vc (V := TT 4 (IX 0 xs.length∧TT 3 ((xs.getD 0 0) = (lm 13 ws xs k w)∧True))) (.e) Try.func100 rfl rfl rfl (by kernel_rfl) ?_
 refine tt ⟨ix,tt ⟨?_,oK⟩⟩
 rfl
abbrev Dx (ws xs : List Int) (k w : Int) : Ct := ⟨94,(gX ws xs k w),false,(i6 (lm 10 ws xs k w))⟩
theorem Bf (ws xs : List Int) (k w : Int) (ho : xw ws xs 3) (h1 : ws.getD 0 0 = 1) : CC (Dx ws xs k w) := by
 obtain ⟨hl,hf,hx,hin⟩ := ho
 have f0 : 0 < ws.length → 1 ≤ ws.getD 0 0∧ws.getD 0 0 ≤ 8 := fun h => az hf h
 have f1 : 1 < ws.length → 1 ≤ ws.getD 1 0∧ws.getD 1 0 ≤ 8 := fun h => az hf h
 have f2 : 2 < ws.length → 1 ≤ ws.getD 2 0∧ws.getD 2 0 ≤ 8 := fun h => az hf h
 have a0 : 0 < ws.length → 0 ≤ xs.getD 0 0∧xs.getD 0 0 ≤ af (ws.getD 0 0) := fun h => bg hin (by omega)
 have a1 : 1 < ws.length → 0 ≤ xs.getD 1 0∧xs.getD 1 0 ≤ af (ws.getD 1 0) := fun h => bg hin (by omega)
 have a2 : 2 < ws.length → 0 ≤ xs.getD 2 0∧xs.getD 2 0 ≤ af (ws.getD 2 0) := fun h => bg hin (by omega)
 have m0 : 0 < ws.length → 0 ≤ af (ws.getD 0 0)∧af (ws.getD 0 0) ≤ 255 := fun h => ao (by have := f0 h; omega) (f0 h).2
 have m1 : 1 < ws.length → 0 ≤ af (ws.getD 1 0)∧af (ws.getD 1 0) ≤ 255 := fun h => ao (by have := f1 h; omega) (f1 h).2
 have m2 : 2 < ws.length → 0 ≤ af (ws.getD 2 0)∧af (ws.getD 2 0) ≤ 255 := fun h => ao (by have := f2 h; omega) (f2 h).2
 have b0 := f0 (by omega); have c0 := a0 (by omega); have d0 := m0 (by omega)
 have b1 := f1 (by omega); have c1 := a1 (by omega); have d1 := m1 (by omega)
 have b2 := f2 (by omega); have c2 := a2 (by omega); have d2 := m2 (by omega)
 have hm1 : af (ws.getD 0 0) = 1 := by rw [h1]; decide
 have hx0 : xs.getD 0 0 = 0 ∨ xs.getD 0 0 = 1 := by omega
 refine ai.vc (V := TT 6 (IX 0 xs.length∧TT 1 (W6 (2 - (xs.getD 0 0))∧IX (2 - (xs.getD 0 0)) xs.length∧TT 3 ((xs.getD ((2 - (xs.getD 0 0)).toNat) 0) = (lm 10 ws xs k w)∧True)))) (.w 1 [(6,.val (i6 (2 - (xs.getD 0 0))))] <| .e) Try.func94 rfl rfl rfl (by kernel_rfl) ?_
 refine tt ⟨ix,tt ⟨w6,⟨ix,tt ⟨?_,oK⟩⟩⟩⟩
 rfl
abbrev Dy (ws xs : List Int) (k w : Int) : Ct := ⟨96,(gX ws xs k w),false,(i6 (lm 11 ws xs k w))⟩
theorem Bg (ws xs : List Int) (k w : Int) (ho : xw ws xs 2) : CC (Dy ws xs k w) := by
 obtain ⟨hl,hf,hx,hin⟩ := ho
 have f0 : 0 < ws.length → 1 ≤ ws.getD 0 0∧ws.getD 0 0 ≤ 8 := fun h => az hf h
 have f1 : 1 < ws.length → 1 ≤ ws.getD 1 0∧ws.getD 1 0 ≤ 8 := fun h => az hf h
 have f2 : 2 < ws.length → 1 ≤ ws.getD 2 0∧ws.getD 2 0 ≤ 8 := fun h => az hf h
 have a0 : 0 < ws.length → 0 ≤ xs.getD 0 0∧xs.getD 0 0 ≤ af (ws.getD 0 0) := fun h => bg hin (by omega)
 have a1 : 1 < ws.length → 0 ≤ xs.getD 1 0∧xs.getD 1 0 ≤ af (ws.getD 1 0) := fun h => bg hin (by omega)
 have a2 : 2 < ws.length → 0 ≤ xs.getD 2 0∧xs.getD 2 0 ≤ af (ws.getD 2 0) := fun h => bg hin (by omega)
 have m0 : 0 < ws.length → 0 ≤ af (ws.getD 0 0)∧af (ws.getD 0 0) ≤ 255 := fun h => ao (by have := f0 h; omega) (f0 h).2
 have m1 : 1 < ws.length → 0 ≤ af (ws.getD 1 0)∧af (ws.getD 1 0) ≤ 255 := fun h => ao (by have := f1 h; omega) (f1 h).2
 have m2 : 2 < ws.length → 0 ≤ af (ws.getD 2 0)∧af (ws.getD 2 0) ≤ 255 := fun h => ao (by have := f2 h; omega) (f2 h).2
 have b0 := f0 (by omega); have c0 := a0 (by omega); have d0 := m0 (by omega)
 have b1 := f1 (by omega); have c1 := a1 (by omega); have d1 := m1 (by omega)
 refine ai.vc (V := TT 4 (IX 0 xs.length∧TT 3 (IX 1 ws.length∧TT 1 ((0 ≤ (ws.getD 1 0)∧(IntKind.wrap .i64 ((xs.getD 0 0) * 2 ^ min ((ws.getD 1 0).toNat) 64)) = (((xs.getD 0 0).toNat * 2 ^ (ws.getD 1 0).toNat : Nat) : Int))∧TT 2 (IX 1 xs.length∧TT 1 ((True∧(IntKind.wrap .i64 (BitVec.ofInt (IntKind.i64).bits (((xs.getD 0 0).toNat * 2 ^ (ws.getD 1 0).toNat : Nat) : Int) ||| BitVec.ofInt (IntKind.i64).bits (xs.getD 1 0)).toNat) = (((xs.getD 0 0).toNat * 2 ^ (ws.getD 1 0).toNat ||| (xs.getD 1 0).toNat : Nat) : Int))∧TT 2 ((((xs.getD 0 0).toNat * 2 ^ (ws.getD 1 0).toNat ||| (xs.getD 1 0).toNat : Nat) : Int) = (lm 11 ws xs k w)∧True))))))) (.w 1 [(8,.val (i6 (((xs.getD 0 0).toNat * 2 ^ (ws.getD 1 0).toNat : Nat) : Int))),(13,.val (i6 (((xs.getD 0 0).toNat * 2 ^ (ws.getD 1 0).toNat ||| (xs.getD 1 0).toNat : Nat) : Int)))] <| .e) Try.func96 rfl rfl rfl (by kernel_rfl) ?_
 refine tt ⟨ix,tt ⟨ix,tt ⟨⟨om,(zP (by omega) (by omega))⟩,tt ⟨ix,tt ⟨⟨oK,(zQ (by omega) (by omega) (by omega))⟩,tt ⟨?_,oK⟩⟩⟩⟩⟩⟩
 rfl
abbrev Dz (ws xs : List Int) (k w : Int) : Ct := ⟨98,(gX ws xs k w),false,(i6 (lm 12 ws xs k w))⟩
theorem yH (ws xs : List Int) (k w : Int) (ho : xw ws xs 1) (hk : 0 ≤ k∧k ≤ 8∧aq w = true) : CC (Dz ws xs k w) := by
 obtain ⟨hl,hf,hx,hin⟩ := ho
 have f0 : 0 < ws.length → 1 ≤ ws.getD 0 0∧ws.getD 0 0 ≤ 8 := fun h => az hf h
 have f1 : 1 < ws.length → 1 ≤ ws.getD 1 0∧ws.getD 1 0 ≤ 8 := fun h => az hf h
 have f2 : 2 < ws.length → 1 ≤ ws.getD 2 0∧ws.getD 2 0 ≤ 8 := fun h => az hf h
 have a0 : 0 < ws.length → 0 ≤ xs.getD 0 0∧xs.getD 0 0 ≤ af (ws.getD 0 0) := fun h => bg hin (by omega)
 have a1 : 1 < ws.length → 0 ≤ xs.getD 1 0∧xs.getD 1 0 ≤ af (ws.getD 1 0) := fun h => bg hin (by omega)
 have a2 : 2 < ws.length → 0 ≤ xs.getD 2 0∧xs.getD 2 0 ≤ af (ws.getD 2 0) := fun h => bg hin (by omega)
 have m0 : 0 < ws.length → 0 ≤ af (ws.getD 0 0)∧af (ws.getD 0 0) ≤ 255 := fun h => ao (by have := f0 h; omega) (f0 h).2
 have m1 : 1 < ws.length → 0 ≤ af (ws.getD 1 0)∧af (ws.getD 1 0) ≤ 255 := fun h => ao (by have := f1 h; omega) (f1 h).2
 have m2 : 2 < ws.length → 0 ≤ af (ws.getD 2 0)∧af (ws.getD 2 0) ≤ 255 := fun h => ao (by have := f2 h; omega) (f2 h).2
 have b0 := f0 (by omega); have c0 := a0 (by omega); have d0 := m0 (by omega)
 have hw := aY.1 hk.2.2
 refine ai.vc (V := TT 4 (IX 0 xs.length∧TT 3 ((0 ≤ k∧(Int.fdiv (xs.getD 0 0) (2 ^ min k.toNat 64)) = (xs.getD 0 0 / 2 ^ k.toNat))∧TT 2 (CC (yA w)∧(True∧(IntKind.wrap .i64 (BitVec.ofInt (IntKind.i64).bits (xs.getD 0 0 / 2 ^ k.toNat) &&& BitVec.ofInt (IntKind.i64).bits (af w)).toNat) = ((xs.getD 0 0 / 2 ^ k.toNat) % 2 ^ w.toNat))∧TT 2 (((xs.getD 0 0 / 2 ^ k.toNat) % 2 ^ w.toNat) = (lm 12 ws xs k w)∧True))))) (.w 1 [(6,.val (i6 (xs.getD 0 0 / 2 ^ k.toNat))),(9,(yA w).O),(10,.val (i6 ((xs.getD 0 0 / 2 ^ k.toNat) % 2 ^ w.toNat)))] <| .e) Try.func98 rfl rfl rfl (by kernel_rfl) ?_
 refine tt ⟨ix,tt ⟨⟨om,(wv hk.1 (by omega))⟩,tt ⟨(mM w),⟨⟨oK,(by rw [gG (by omega) (by omega)]; exact e7 (by omega))⟩,tt ⟨?_,oK⟩⟩⟩⟩⟩
 rfl
end Go.Proofs.Ytgfbfajaaaegjaa
