/-
  Package bits: the values of operations.
-/
import Derived.Test.YtgfbfajaaaegjaaQVbA
namespace Go.Proofs.Ytgfbfajaaaegjaa
open Go.RowKit
set_option linter.unusedVariables false
set_option linter.unusedSimpArgs false
abbrev gE (ws xs : List Int) (k w : Int) : List D := [(.agg [(LI ws),(LI xs),(i6 k),(i6 w)])]
set_option maxRecDepth 100000
structure xQ (ws xs : List Int) (n : Nat) : Prop where
  hl : ws.length = n
  hf : ws.all an = true
  hx : xs.length = ws.length
  hin : xE ws xs = true
abbrev BQ (ws xs : List Int) (k w : Int) : Ct := ⟨80,(gE ws xs k w),false,(i6 (af (ws.getD 0 0)))⟩
theorem qQ (ws xs : List Int) (k w : Int) (hl : 0 < ws.length) : CC (BQ ws xs k w) := by
 refine ak.vc (V := TT 4 (IX 0 ws.length∧TT 1 (CC (xN (ws.getD 0 0))∧TT 2 ((af (ws.getD 0 0)) = (af (ws.getD 0 0))∧True)))) (.w 1 [(4,(xN (ws.getD 0 0)).O)] <| .e) Try.func80 rfl rfl rfl (by kernel_rfl) ?_
 exact tt ⟨ix,tt ⟨(ko (ws.getD 0 0)),tt ⟨rfl,oK⟩⟩⟩
abbrev D8 (ws xs : List Int) (k w : Int) : Ct := ⟨79,(gE ws xs k w),false,(i6 (kT 2 ws xs k w))⟩
theorem BR (ws xs : List Int) (k w : Int) (ho : xQ ws xs 1) : CC (D8 ws xs k w) := by
 obtain ⟨hl,hf,hx,hin⟩ := ho
 have f0 : 0 < ws.length → 1 ≤ ws.getD 0 0∧ws.getD 0 0 ≤ 8 := fun h => au hf h
 have f1 : 1 < ws.length → 1 ≤ ws.getD 1 0∧ws.getD 1 0 ≤ 8 := fun h => au hf h
 have f2 : 2 < ws.length → 1 ≤ ws.getD 2 0∧ws.getD 2 0 ≤ 8 := fun h => au hf h
 have a0 : 0 < ws.length → 0 ≤ xs.getD 0 0∧xs.getD 0 0 ≤ af (ws.getD 0 0) := fun h => a5 hin (by omega)
 have a1 : 1 < ws.length → 0 ≤ xs.getD 1 0∧xs.getD 1 0 ≤ af (ws.getD 1 0) := fun h => a5 hin (by omega)
 have a2 : 2 < ws.length → 0 ≤ xs.getD 2 0∧xs.getD 2 0 ≤ af (ws.getD 2 0) := fun h => a5 hin (by omega)
 have m0 : 0 < ws.length → 0 ≤ af (ws.getD 0 0)∧af (ws.getD 0 0) ≤ 255 := fun h => ap (by have := f0 h; omega) (f0 h).2
 have m1 : 1 < ws.length → 0 ≤ af (ws.getD 1 0)∧af (ws.getD 1 0) ≤ 255 := fun h => ap (by have := f1 h; omega) (f1 h).2
 have m2 : 2 < ws.length → 0 ≤ af (ws.getD 2 0)∧af (ws.getD 2 0) ≤ 255 := fun h => ap (by have := f2 h; omega) (f2 h).2
 have b0 := f0 (by omega); have c0 := a0 (by omega); have d0 := m0 (by omega)
 refine ak.vc (V := TT 4 (IX 0 xs.length∧TT 2 (CC (BQ ws xs k w)∧(True∧(IntKind.wrap .i64 (BitVec.ofInt (IntKind.i64).bits (xs.getD 0 0) ^^^ BitVec.ofInt (IntKind.i64).bits (af (ws.getD 0 0))).toNat) = (((xs.getD 0 0).toNat ^^^ (af (ws.getD 0 0)).toNat : Nat) : Int))∧TT 2 ((((xs.getD 0 0).toNat ^^^ (af (ws.getD 0 0)).toNat : Nat) : Int) = (kT 2 ws xs k w)∧True)))) (.w 1 [(5,(BQ ws xs k w).O),(6,.val (i6 (((xs.getD 0 0).toNat ^^^ (af (ws.getD 0 0)).toNat : Nat) : Int)))] <| .e) Try.func79 rfl rfl rfl (by kernel_rfl) ?_
 refine tt ⟨ix,tt ⟨(qQ ws xs k w om),⟨⟨oK,(so (by omega) (by omega) (by omega) (by omega))⟩,tt ⟨?_,oK⟩⟩⟩⟩
 rfl
abbrev D9 (ws xs : List Int) (k w : Int) : Ct := ⟨82,(gE ws xs k w),false,(i6 (kT 3 ws xs k w))⟩
theorem BS (ws xs : List Int) (k w : Int) (ho : xQ ws xs 2) : CC (D9 ws xs k w) := by
 obtain ⟨hl,hf,hx,hin⟩ := ho
 have f0 : 0 < ws.length → 1 ≤ ws.getD 0 0∧ws.getD 0 0 ≤ 8 := fun h => au hf h
 have f1 : 1 < ws.length → 1 ≤ ws.getD 1 0∧ws.getD 1 0 ≤ 8 := fun h => au hf h
 have f2 : 2 < ws.length → 1 ≤ ws.getD 2 0∧ws.getD 2 0 ≤ 8 := fun h => au hf h
 have a0 : 0 < ws.length → 0 ≤ xs.getD 0 0∧xs.getD 0 0 ≤ af (ws.getD 0 0) := fun h => a5 hin (by omega)
 have a1 : 1 < ws.length → 0 ≤ xs.getD 1 0∧xs.getD 1 0 ≤ af (ws.getD 1 0) := fun h => a5 hin (by omega)
 have a2 : 2 < ws.length → 0 ≤ xs.getD 2 0∧xs.getD 2 0 ≤ af (ws.getD 2 0) := fun h => a5 hin (by omega)
 have m0 : 0 < ws.length → 0 ≤ af (ws.getD 0 0)∧af (ws.getD 0 0) ≤ 255 := fun h => ap (by have := f0 h; omega) (f0 h).2
 have m1 : 1 < ws.length → 0 ≤ af (ws.getD 1 0)∧af (ws.getD 1 0) ≤ 255 := fun h => ap (by have := f1 h; omega) (f1 h).2
 have m2 : 2 < ws.length → 0 ≤ af (ws.getD 2 0)∧af (ws.getD 2 0) ≤ 255 := fun h => ap (by have := f2 h; omega) (f2 h).2
 have b0 := f0 (by omega); have c0 := a0 (by omega); have d0 := m0 (by omega)
 have b1 := f1 (by omega); have c1 := a1 (by omega); have d1 := m1 (by omega)
 refine ak.vc (V := TT 4 (IX 0 xs.length∧TT 3 (IX 1 xs.length∧TT 1 ((True∧(IntKind.wrap .i64 (BitVec.ofInt (IntKind.i64).bits (xs.getD 0 0) &&& BitVec.ofInt (IntKind.i64).bits (xs.getD 1 0)).toNat) = (((xs.getD 0 0).toNat &&& (xs.getD 1 0).toNat : Nat) : Int))∧TT 2 ((((xs.getD 0 0).toNat &&& (xs.getD 1 0).toNat : Nat) : Int) = (kT 3 ws xs k w)∧True))))) (.w 1 [(8,.val (i6 (((xs.getD 0 0).toNat &&& (xs.getD 1 0).toNat : Nat) : Int)))] <| .e) Try.func82 rfl rfl rfl (by kernel_rfl) ?_
 refine tt ⟨ix,tt ⟨ix,tt ⟨⟨oK,(xF (by omega) (by omega) (by omega) (by omega))⟩,tt ⟨?_,oK⟩⟩⟩⟩
 rfl
abbrev Ea (ws xs : List Int) (k w : Int) : Ct := ⟨83,(gE ws xs k w),false,(i6 (kT 4 ws xs k w))⟩
theorem CY (ws xs : List Int) (k w : Int) (ho : xQ ws xs 2) : CC (Ea ws xs k w) := by
 obtain ⟨hl,hf,hx,hin⟩ := ho
 have f0 : 0 < ws.length → 1 ≤ ws.getD 0 0∧ws.getD 0 0 ≤ 8 := fun h => au hf h
 have f1 : 1 < ws.length → 1 ≤ ws.getD 1 0∧ws.getD 1 0 ≤ 8 := fun h => au hf h
 have f2 : 2 < ws.length → 1 ≤ ws.getD 2 0∧ws.getD 2 0 ≤ 8 := fun h => au hf h
 have a0 : 0 < ws.length → 0 ≤ xs.getD 0 0∧xs.getD 0 0 ≤ af (ws.getD 0 0) := fun h => a5 hin (by omega)
 have a1 : 1 < ws.length → 0 ≤ xs.getD 1 0∧xs.getD 1 0 ≤ af (ws.getD 1 0) := fun h => a5 hin (by omega)
 have a2 : 2 < ws.length → 0 ≤ xs.getD 2 0∧xs.getD 2 0 ≤ af (ws.getD 2 0) := fun h => a5 hin (by omega)
 have m0 : 0 < ws.length → 0 ≤ af (ws.getD 0 0)∧af (ws.getD 0 0) ≤ 255 := fun h => ap (by have := f0 h; omega) (f0 h).2
 have m1 : 1 < ws.length → 0 ≤ af (ws.getD 1 0)∧af (ws.getD 1 0) ≤ 255 := fun h => ap (by have := f1 h; omega) (f1 h).2
 have m2 : 2 < ws.length → 0 ≤ af (ws.getD 2 0)∧af (ws.getD 2 0) ≤ 255 := fun h => ap (by have := f2 h; omega) (f2 h).2
 have b0 := f0 (by omega); have c0 := a0 (by omega); have d0 := m0 (by omega)
 have b1 := f1 (by omega); have c1 := a1 (by omega); have d1 := m1 (by omega)
 refine ak.vc (V := TT 4 (IX 0 xs.length∧TT 3 (IX 1 xs.length∧TT 1 ((True∧(IntKind.wrap .i64 (BitVec.ofInt (IntKind.i64).bits (xs.getD 0 0) ||| BitVec.ofInt (IntKind.i64).bits (xs.getD 1 0)).toNat) = (((xs.getD 0 0).toNat ||| (xs.getD 1 0).toNat : Nat) : Int))∧TT 2 ((((xs.getD 0 0).toNat ||| (xs.getD 1 0).toNat : Nat) : Int) = (kT 4 ws xs k w)∧True))))) (.w 1 [(8,.val (i6 (((xs.getD 0 0).toNat ||| (xs.getD 1 0).toNat : Nat) : Int)))] <| .e) Try.func83 rfl rfl rfl (by kernel_rfl) ?_
 refine tt ⟨ix,tt ⟨ix,tt ⟨⟨oK,(yK (by omega) (by omega) (by omega) (by omega))⟩,tt ⟨?_,oK⟩⟩⟩⟩
 rfl
abbrev Eb (ws xs : List Int) (k w : Int) : Ct := ⟨84,(gE ws xs k w),false,(i6 (kT 5 ws xs k w))⟩
theorem BT (ws xs : List Int) (k w : Int) (ho : xQ ws xs 2) : CC (Eb ws xs k w) := by
 obtain ⟨hl,hf,hx,hin⟩ := ho
 have f0 : 0 < ws.length → 1 ≤ ws.getD 0 0∧ws.getD 0 0 ≤ 8 := fun h => au hf h
 have f1 : 1 < ws.length → 1 ≤ ws.getD 1 0∧ws.getD 1 0 ≤ 8 := fun h => au hf h
 have f2 : 2 < ws.length → 1 ≤ ws.getD 2 0∧ws.getD 2 0 ≤ 8 := fun h => au hf h
 have a0 : 0 < ws.length → 0 ≤ xs.getD 0 0∧xs.getD 0 0 ≤ af (ws.getD 0 0) := fun h => a5 hin (by omega)
 have a1 : 1 < ws.length → 0 ≤ xs.getD 1 0∧xs.getD 1 0 ≤ af (ws.getD 1 0) := fun h => a5 hin (by omega)
 have a2 : 2 < ws.length → 0 ≤ xs.getD 2 0∧xs.getD 2 0 ≤ af (ws.getD 2 0) := fun h => a5 hin (by omega)
 have m0 : 0 < ws.length → 0 ≤ af (ws.getD 0 0)∧af (ws.getD 0 0) ≤ 255 := fun h => ap (by have := f0 h; omega) (f0 h).2
 have m1 : 1 < ws.length → 0 ≤ af (ws.getD 1 0)∧af (ws.getD 1 0) ≤ 255 := fun h => ap (by have := f1 h; omega) (f1 h).2
 have m2 : 2 < ws.length → 0 ≤ af (ws.getD 2 0)∧af (ws.getD 2 0) ≤ 255 := fun h => ap (by have := f2 h; omega) (f2 h).2
 have b0 := f0 (by omega); have c0 := a0 (by omega); have d0 := m0 (by omega)
 have b1 := f1 (by omega); have c1 := a1 (by omega); have d1 := m1 (by omega)
 refine ak.vc (V := TT 4 (IX 0 xs.length∧TT 3 (IX 1 xs.length∧TT 1 ((True∧(IntKind.wrap .i64 (BitVec.ofInt (IntKind.i64).bits (xs.getD 0 0) ^^^ BitVec.ofInt (IntKind.i64).bits (xs.getD 1 0)).toNat) = (((xs.getD 0 0).toNat ^^^ (xs.getD 1 0).toNat : Nat) : Int))∧TT 2 ((((xs.getD 0 0).toNat ^^^ (xs.getD 1 0).toNat : Nat) : Int) = (kT 5 ws xs k w)∧True))))) (.w 1 [(8,.val (i6 (((xs.getD 0 0).toNat ^^^ (xs.getD 1 0).toNat : Nat) : Int)))] <| .e) Try.func84 rfl rfl rfl (by kernel_rfl) ?_
 refine tt ⟨ix,tt ⟨ix,tt ⟨⟨oK,(so (by omega) (by omega) (by omega) (by omega))⟩,tt ⟨?_,oK⟩⟩⟩⟩
 rfl
abbrev Ec (ws xs : List Int) (k w : Int) : Ct := ⟨85,(gE ws xs k w),false,(i6 (kT 6 ws xs k w))⟩
theorem BU (ws xs : List Int) (k w : Int) (ho : xQ ws xs 2) : CC (Ec ws xs k w) := by
 obtain ⟨hl,hf,hx,hin⟩ := ho
 have f0 : 0 < ws.length → 1 ≤ ws.getD 0 0∧ws.getD 0 0 ≤ 8 := fun h => au hf h
 have f1 : 1 < ws.length → 1 ≤ ws.getD 1 0∧ws.getD 1 0 ≤ 8 := fun h => au hf h
 have f2 : 2 < ws.length → 1 ≤ ws.getD 2 0∧ws.getD 2 0 ≤ 8 := fun h => au hf h
 have a0 : 0 < ws.length → 0 ≤ xs.getD 0 0∧xs.getD 0 0 ≤ af (ws.getD 0 0) := fun h => a5 hin (by omega)
 have a1 : 1 < ws.length → 0 ≤ xs.getD 1 0∧xs.getD 1 0 ≤ af (ws.getD 1 0) := fun h => a5 hin (by omega)
 have a2 : 2 < ws.length → 0 ≤ xs.getD 2 0∧xs.getD 2 0 ≤ af (ws.getD 2 0) := fun h => a5 hin (by omega)
 have m0 : 0 < ws.length → 0 ≤ af (ws.getD 0 0)∧af (ws.getD 0 0) ≤ 255 := fun h => ap (by have := f0 h; omega) (f0 h).2
 have m1 : 1 < ws.length → 0 ≤ af (ws.getD 1 0)∧af (ws.getD 1 0) ≤ 255 := fun h => ap (by have := f1 h; omega) (f1 h).2
 have m2 : 2 < ws.length → 0 ≤ af (ws.getD 2 0)∧af (ws.getD 2 0) ≤ 255 := fun h => ap (by have := f2 h; omega) (f2 h).2
 have b0 := f0 (by omega); have c0 := a0 (by omega); have d0 := m0 (by omega)
 have b1 := f1 (by omega); have c1 := a1 (by omega); have d1 := m1 (by omega)
 refine ak.vc (V := TT 4 (IX 0 xs.length∧TT 3 (IX 1 xs.length∧TT 1 (W6 ((xs.getD 0 0) + (xs.getD 1 0))∧TT 1 (CC (BQ ws xs k w)∧(True∧(IntKind.wrap .i64 (BitVec.ofInt (IntKind.i64).bits ((xs.getD 0 0) + (xs.getD 1 0)) &&& BitVec.ofInt (IntKind.i64).bits (af (ws.getD 0 0))).toNat) = ((xs.getD 0 0 + xs.getD 1 0) % 2 ^ (ws.getD 0 0).toNat))∧TT 2 (((xs.getD 0 0 + xs.getD 1 0) % 2 ^ (ws.getD 0 0).toNat) = (kT 6 ws xs k w)∧True)))))) (.w 1 [(8,.val (i6 ((xs.getD 0 0) + (xs.getD 1 0)))),(10,(BQ ws xs k w).O),(11,.val (i6 ((xs.getD 0 0 + xs.getD 1 0) % 2 ^ (ws.getD 0 0).toNat)))] <| .e) Try.func85 rfl rfl rfl (by kernel_rfl) ?_
 refine tt ⟨ix,tt ⟨ix,tt ⟨w6,tt ⟨(qQ ws xs k w om),⟨⟨oK,(by rw [ez (by omega) (by omega)]; exact ey (by omega))⟩,tt ⟨?_,oK⟩⟩⟩⟩⟩⟩
 rfl
abbrev Ed (ws xs : List Int) (k w : Int) : Ct := ⟨86,(gE ws xs k w),false,(i6 (kT 7 ws xs k w))⟩
theorem BV (ws xs : List Int) (k w : Int) (ho : xQ ws xs 2) : CC (Ed ws xs k w) := by
 obtain ⟨hl,hf,hx,hin⟩ := ho
 have f0 : 0 < ws.length → 1 ≤ ws.getD 0 0∧ws.getD 0 0 ≤ 8 := fun h => au hf h
 have f1 : 1 < ws.length → 1 ≤ ws.getD 1 0∧ws.getD 1 0 ≤ 8 := fun h => au hf h
 have f2 : 2 < ws.length → 1 ≤ ws.getD 2 0∧ws.getD 2 0 ≤ 8 := fun h => au hf h
 have a0 : 0 < ws.length → 0 ≤ xs.getD 0 0∧xs.getD 0 0 ≤ af (ws.getD 0 0) := fun h => a5 hin (by omega)
 have a1 : 1 < ws.length → 0 ≤ xs.getD 1 0∧xs.getD 1 0 ≤ af (ws.getD 1 0) := fun h => a5 hin (by omega)
 have a2 : 2 < ws.length → 0 ≤ xs.getD 2 0∧xs.getD 2 0 ≤ af (ws.getD 2 0) := fun h => a5 hin (by omega)
 have m0 : 0 < ws.length → 0 ≤ af (ws.getD 0 0)∧af (ws.getD 0 0) ≤ 255 := fun h => ap (by have := f0 h; omega) (f0 h).2
 have m1 : 1 < ws.length → 0 ≤ af (ws.getD 1 0)∧af (ws.getD 1 0) ≤ 255 := fun h => ap (by have := f1 h; omega) (f1 h).2
 have m2 : 2 < ws.length → 0 ≤ af (ws.getD 2 0)∧af (ws.getD 2 0) ≤ 255 := fun h => ap (by have := f2 h; omega) (f2 h).2
 have b0 := f0 (by omega); have c0 := a0 (by omega); have d0 := m0 (by omega)
 have b1 := f1 (by omega); have c1 := a1 (by omega); have d1 := m1 (by omega)
 refine ak.vc (V := TT 4 (IX 0 xs.length∧TT 3 (IX 1 xs.length∧TT 1 (W6 ((xs.getD 0 0) - (xs.getD 1 0))∧TT 1 (CC (BQ ws xs k w)∧(True∧(IntKind.wrap .i64 (BitVec.ofInt (IntKind.i64).bits ((xs.getD 0 0) - (xs.getD 1 0)) &&& BitVec.ofInt (IntKind.i64).bits (af (ws.getD 0 0))).toNat) = ((xs.getD 0 0 - xs.getD 1 0) % 2 ^ (ws.getD 0 0).toNat))∧TT 2 (((xs.getD 0 0 - xs.getD 1 0) % 2 ^ (ws.getD 0 0).toNat) = (kT 7 ws xs k w)∧True)))))) (.w 1 [(8,.val (i6 ((xs.getD 0 0) - (xs.getD 1 0)))),(10,(BQ ws xs k w).O),(11,.val (i6 ((xs.getD 0 0 - xs.getD 1 0) % 2 ^ (ws.getD 0 0).toNat)))] <| .e) Try.func86 rfl rfl rfl (by kernel_rfl) ?_
 refine tt ⟨ix,tt ⟨ix,tt ⟨w6,tt ⟨(qQ ws xs k w om),⟨⟨oK,(by rw [ez (by omega) (by omega)]; exact ey (by omega))⟩,tt ⟨?_,oK⟩⟩⟩⟩⟩⟩
 rfl
abbrev Ee (ws xs : List Int) (k w : Int) : Ct := ⟨88,(gE ws xs k w),false,(i6 (kT 8 ws xs k w))⟩
theorem CZ (ws xs : List Int) (k w : Int) (ho : xQ ws xs 2) : CC (Ee ws xs k w) := by
 obtain ⟨hl,hf,hx,hin⟩ := ho
 have f0 : 0 < ws.length → 1 ≤ ws.getD 0 0∧ws.getD 0 0 ≤ 8 := fun h => au hf h
 have f1 : 1 < ws.length → 1 ≤ ws.getD 1 0∧ws.getD 1 0 ≤ 8 := fun h => au hf h
 have f2 : 2 < ws.length → 1 ≤ ws.getD 2 0∧ws.getD 2 0 ≤ 8 := fun h => au hf h
 have a0 : 0 < ws.length → 0 ≤ xs.getD 0 0∧xs.getD 0 0 ≤ af (ws.getD 0 0) := fun h => a5 hin (by omega)
 have a1 : 1 < ws.length → 0 ≤ xs.getD 1 0∧xs.getD 1 0 ≤ af (ws.getD 1 0) := fun h => a5 hin (by omega)
 have a2 : 2 < ws.length → 0 ≤ xs.getD 2 0∧xs.getD 2 0 ≤ af (ws.getD 2 0) := fun h => a5 hin (by omega)
 have m0 : 0 < ws.length → 0 ≤ af (ws.getD 0 0)∧af (ws.getD 0 0) ≤ 255 := fun h => ap (by have := f0 h; omega) (f0 h).2
 have m1 : 1 < ws.length → 0 ≤ af (ws.getD 1 0)∧af (ws.getD 1 0) ≤ 255 := fun h => ap (by have := f1 h; omega) (f1 h).2
 have m2 : 2 < ws.length → 0 ≤ af (ws.getD 2 0)∧af (ws.getD 2 0) ≤ 255 := fun h => ap (by have := f2 h; omega) (f2 h).2
 have b0 := f0 (by omega); have c0 := a0 (by omega); have d0 := m0 (by omega)
 have b1 := f1 (by omega); have c1 := a1 (by omega); have d1 := m1 (by omega)
 refine ak.vc (V := TT 4 (IX 0 xs.length∧TT 3 (IX 1 xs.length∧TT 2 (CC (CX ((xs.getD 0 0) == (xs.getD 1 0)))∧TT 2 ((if ((xs.getD 0 0) == (xs.getD 1 0)) = true then 1 else 0) = (kT 8 ws xs k w)∧True))))) (.w 1 [(9,(CX ((xs.getD 0 0) == (xs.getD 1 0))).O)] <| .e) Try.func88 rfl rfl rfl (by kernel_rfl) ?_
 refine tt ⟨ix,tt ⟨ix,tt ⟨(zf ((xs.getD 0 0) == (xs.getD 1 0))),tt ⟨?_,oK⟩⟩⟩⟩
 show _ = (if xs.getD 0 0 = xs.getD 1 0 then (1 : Int) else 0)
 by_cases h : xs.getD 0 0 = xs.getD 1 0
 · rw [if_pos h,if_pos (by simpa using h)]
 · rw [if_neg h,if_neg (by simpa using h)]
abbrev Ef (ws xs : List Int) (k w : Int) : Ct := ⟨90,(gE ws xs k w),false,(i6 (kT 9 ws xs k w))⟩
theorem C0 (ws xs : List Int) (k w : Int) (ho : xQ ws xs 2) : CC (Ef ws xs k w) := by
 obtain ⟨hl,hf,hx,hin⟩ := ho
 have f0 : 0 < ws.length → 1 ≤ ws.getD 0 0∧ws.getD 0 0 ≤ 8 := fun h => au hf h
 have f1 : 1 < ws.length → 1 ≤ ws.getD 1 0∧ws.getD 1 0 ≤ 8 := fun h => au hf h
 have f2 : 2 < ws.length → 1 ≤ ws.getD 2 0∧ws.getD 2 0 ≤ 8 := fun h => au hf h
 have a0 : 0 < ws.length → 0 ≤ xs.getD 0 0∧xs.getD 0 0 ≤ af (ws.getD 0 0) := fun h => a5 hin (by omega)
 have a1 : 1 < ws.length → 0 ≤ xs.getD 1 0∧xs.getD 1 0 ≤ af (ws.getD 1 0) := fun h => a5 hin (by omega)
 have a2 : 2 < ws.length → 0 ≤ xs.getD 2 0∧xs.getD 2 0 ≤ af (ws.getD 2 0) := fun h => a5 hin (by omega)
 have m0 : 0 < ws.length → 0 ≤ af (ws.getD 0 0)∧af (ws.getD 0 0) ≤ 255 := fun h => ap (by have := f0 h; omega) (f0 h).2
 have m1 : 1 < ws.length → 0 ≤ af (ws.getD 1 0)∧af (ws.getD 1 0) ≤ 255 := fun h => ap (by have := f1 h; omega) (f1 h).2
 have m2 : 2 < ws.length → 0 ≤ af (ws.getD 2 0)∧af (ws.getD 2 0) ≤ 255 := fun h => ap (by have := f2 h; omega) (f2 h).2
 have b0 := f0 (by omega); have c0 := a0 (by omega); have d0 := m0 (by omega)
 have b1 := f1 (by omega); have c1 := a1 (by omega); have d1 := m1 (by omega)
 refine ak.vc (V := TT 4 (IX 0 xs.length∧TT 3 (IX 1 xs.length∧TT 2 (CC (CX (decide ((xs.getD 0 0) < (xs.getD 1 0))))∧TT 2 ((if (decide ((xs.getD 0 0) < (xs.getD 1 0))) = true then 1 else 0) = (kT 9 ws xs k w)∧True))))) (.w 1 [(9,(CX (decide ((xs.getD 0 0) < (xs.getD 1 0)))).O)] <| .e) Try.func90 rfl rfl rfl (by kernel_rfl) ?_
 refine tt ⟨ix,tt ⟨ix,tt ⟨(zf (decide ((xs.getD 0 0) < (xs.getD 1 0)))),tt ⟨?_,oK⟩⟩⟩⟩
 show _ = (if xs.getD 0 0 < xs.getD 1 0 then (1 : Int) else 0)
 by_cases h : xs.getD 0 0 < xs.getD 1 0
 · rw [if_pos h,if_pos (by simpa using h)]
 · rw [if_neg h,if_neg (by simpa using h)]
abbrev Eg (ws xs : List Int) (k w : Int) : Ct := ⟨92,(gE ws xs k w),false,(i6 (kT 1 ws xs k w))⟩
theorem zk (ws xs : List Int) (k w : Int) (ho : xQ ws xs 0) : CC (Eg ws xs k w) := by
 obtain ⟨hl,hf,hx,hin⟩ := ho
 have f0 : 0 < ws.length → 1 ≤ ws.getD 0 0∧ws.getD 0 0 ≤ 8 := fun h => au hf h
 have f1 : 1 < ws.length → 1 ≤ ws.getD 1 0∧ws.getD 1 0 ≤ 8 := fun h => au hf h
 have f2 : 2 < ws.length → 1 ≤ ws.getD 2 0∧ws.getD 2 0 ≤ 8 := fun h => au hf h
 have a0 : 0 < ws.length → 0 ≤ xs.getD 0 0∧xs.getD 0 0 ≤ af (ws.getD 0 0) := fun h => a5 hin (by omega)
 have a1 : 1 < ws.length → 0 ≤ xs.getD 1 0∧xs.getD 1 0 ≤ af (ws.getD 1 0) := fun h => a5 hin (by omega)
 have a2 : 2 < ws.length → 0 ≤ xs.getD 2 0∧xs.getD 2 0 ≤ af (ws.getD 2 0) := fun h => a5 hin (by omega)
 have m0 : 0 < ws.length → 0 ≤ af (ws.getD 0 0)∧af (ws.getD 0 0) ≤ 255 := fun h => ap (by have := f0 h; omega) (f0 h).2
 have m1 : 1 < ws.length → 0 ≤ af (ws.getD 1 0)∧af (ws.getD 1 0) ≤ 255 := fun h => ap (by have := f1 h; omega) (f1 h).2
 have m2 : 2 < ws.length → 0 ≤ af (ws.getD 2 0)∧af (ws.getD 2 0) ≤ 255 := fun h => ap (by have := f2 h; omega) (f2 h).2
 refine ak.vc (V := TT 6 (k = (kT 1 ws xs k w)∧True)) (.e) Try.func92 rfl rfl rfl (by kernel_rfl) ?_
 refine tt ⟨?_,oK⟩
 rfl
abbrev DC (ws xs : List Int) (k w : Int) : Ct := ⟨100,(gE ws xs k w),false,(i6 (kT 13 ws xs k w))⟩
theorem BW (ws xs : List Int) (k w : Int) (ho : xQ ws xs 1) : CC (DC ws xs k w) := by
 obtain ⟨hl,hf,hx,hin⟩ := ho
 have f0 : 0 < ws.length → 1 ≤ ws.getD 0 0∧ws.getD 0 0 ≤ 8 := fun h => au hf h
 have f1 : 1 < ws.length → 1 ≤ ws.getD 1 0∧ws.getD 1 0 ≤ 8 := fun h => au hf h
 have f2 : 2 < ws.length → 1 ≤ ws.getD 2 0∧ws.getD 2 0 ≤ 8 := fun h => au hf h
 have a0 : 0 < ws.length → 0 ≤ xs.getD 0 0∧xs.getD 0 0 ≤ af (ws.getD 0 0) := fun h => a5 hin (by omega)
 have a1 : 1 < ws.length → 0 ≤ xs.getD 1 0∧xs.getD 1 0 ≤ af (ws.getD 1 0) := fun h => a5 hin (by omega)
 have a2 : 2 < ws.length → 0 ≤ xs.getD 2 0∧xs.getD 2 0 ≤ af (ws.getD 2 0) := fun h => a5 hin (by omega)
 have m0 : 0 < ws.length → 0 ≤ af (ws.getD 0 0)∧af (ws.getD 0 0) ≤ 255 := fun h => ap (by have := f0 h; omega) (f0 h).2
 have m1 : 1 < ws.length → 0 ≤ af (ws.getD 1 0)∧af (ws.getD 1 0) ≤ 255 := fun h => ap (by have := f1 h; omega) (f1 h).2
 have m2 : 2 < ws.length → 0 ≤ af (ws.getD 2 0)∧af (ws.getD 2 0) ≤ 255 := fun h => ap (by have := f2 h; omega) (f2 h).2
 have b0 := f0 (by omega); have c0 := a0 (by omega); have d0 := m0 (by omega)
 refine ak.vc (V := TT 4 (IX 0 xs.length∧TT 3 ((xs.getD 0 0) = (kT 13 ws xs k w)∧True))) (.e) Try.func100 rfl rfl rfl (by kernel_rfl) ?_
 refine tt ⟨ix,tt ⟨?_,oK⟩⟩
 rfl
abbrev Eh (ws xs : List Int) (k w : Int) : Ct := ⟨94,(gE ws xs k w),false,(i6 (kT 10 ws xs k w))⟩
theorem BX (ws xs : List Int) (k w : Int) (ho : xQ ws xs 3) (h1 : ws.getD 0 0 = 1) : CC (Eh ws xs k w) := by
 obtain ⟨hl,hf,hx,hin⟩ := ho
 have f0 : 0 < ws.length → 1 ≤ ws.getD 0 0∧ws.getD 0 0 ≤ 8 := fun h => au hf h
 have f1 : 1 < ws.length → 1 ≤ ws.getD 1 0∧ws.getD 1 0 ≤ 8 := fun h => au hf h
 have f2 : 2 < ws.length → 1 ≤ ws.getD 2 0∧ws.getD 2 0 ≤ 8 := fun h => au hf h
 have a0 : 0 < ws.length → 0 ≤ xs.getD 0 0∧xs.getD 0 0 ≤ af (ws.getD 0 0) := fun h => a5 hin (by omega)
 have a1 : 1 < ws.length → 0 ≤ xs.getD 1 0∧xs.getD 1 0 ≤ af (ws.getD 1 0) := fun h => a5 hin (by omega)
 have a2 : 2 < ws.length → 0 ≤ xs.getD 2 0∧xs.getD 2 0 ≤ af (ws.getD 2 0) := fun h => a5 hin (by omega)
 have m0 : 0 < ws.length → 0 ≤ af (ws.getD 0 0)∧af (ws.getD 0 0) ≤ 255 := fun h => ap (by have := f0 h; omega) (f0 h).2
 have m1 : 1 < ws.length → 0 ≤ af (ws.getD 1 0)∧af (ws.getD 1 0) ≤ 255 := fun h => ap (by have := f1 h; omega) (f1 h).2
 have m2 : 2 < ws.length → 0 ≤ af (ws.getD 2 0)∧af (ws.getD 2 0) ≤ 255 := fun h => ap (by have := f2 h; omega) (f2 h).2
 have b0 := f0 (by omega); have c0 := a0 (by omega); have d0 := m0 (by omega)
 have b1 := f1 (by omega); have c1 := a1 (by omega); have d1 := m1 (by omega)
 have b2 := f2 (by omega); have c2 := a2 (by omega); have d2 := m2 (by omega)
 have hm1 : af (ws.getD 0 0) = 1 := by rw [h1]; decide
 have hx0 : xs.getD 0 0 = 0 ∨ xs.getD 0 0 = 1 := by omega
 refine ak.vc (V := TT 6 (IX 0 xs.length∧TT 1 (W6 (2 - (xs.getD 0 0))∧IX (2 - (xs.getD 0 0)) xs.length∧TT 3 ((xs.getD ((2 - (xs.getD 0 0)).toNat) 0) = (kT 10 ws xs k w)∧True)))) (.w 1 [(6,.val (i6 (2 - (xs.getD 0 0))))] <| .e) Try.func94 rfl rfl rfl (by kernel_rfl) ?_
 refine tt ⟨ix,tt ⟨w6,⟨ix,tt ⟨?_,oK⟩⟩⟩⟩
 rfl
abbrev Ei (ws xs : List Int) (k w : Int) : Ct := ⟨96,(gE ws xs k w),false,(i6 (kT 11 ws xs k w))⟩
theorem BZ (ws xs : List Int) (k w : Int) (ho : xQ ws xs 2) : CC (Ei ws xs k w) := by
 obtain ⟨hl,hf,hx,hin⟩ := ho
 have f0 : 0 < ws.length → 1 ≤ ws.getD 0 0∧ws.getD 0 0 ≤ 8 := fun h => au hf h
 have f1 : 1 < ws.length → 1 ≤ ws.getD 1 0∧ws.getD 1 0 ≤ 8 := fun h => au hf h
 have f2 : 2 < ws.length → 1 ≤ ws.getD 2 0∧ws.getD 2 0 ≤ 8 := fun h => au hf h
 have a0 : 0 < ws.length → 0 ≤ xs.getD 0 0∧xs.getD 0 0 ≤ af (ws.getD 0 0) := fun h => a5 hin (by omega)
 have a1 : 1 < ws.length → 0 ≤ xs.getD 1 0∧xs.getD 1 0 ≤ af (ws.getD 1 0) := fun h => a5 hin (by omega)
 have a2 : 2 < ws.length → 0 ≤ xs.getD 2 0∧xs.getD 2 0 ≤ af (ws.getD 2 0) := fun h => a5 hin (by omega)
 have m0 : 0 < ws.length → 0 ≤ af (ws.getD 0 0)∧af (ws.getD 0 0) ≤ 255 := fun h => ap (by have := f0 h; omega) (f0 h).2
 have m1 : 1 < ws.length → 0 ≤ af (ws.getD 1 0)∧af (ws.getD 1 0) ≤ 255 := fun h => ap (by have := f1 h; omega) (f1 h).2
 have m2 : 2 < ws.length → 0 ≤ af (ws.getD 2 0)∧af (ws.getD 2 0) ≤ 255 := fun h => ap (by have := f2 h; omega) (f2 h).2
 have b0 := f0 (by omega); have c0 := a0 (by omega); have d0 := m0 (by omega)
 have b1 := f1 (by omega); have c1 := a1 (by omega); have d1 := m1 (by omega)
 refine ak.vc (V := TT 4 (IX 0 xs.length∧TT 3 (IX 1 ws.length∧TT 1 ((0 ≤ (ws.getD 1 0)∧(IntKind.wrap .i64 ((xs.getD 0 0) * 2 ^ min ((ws.getD 1 0).toNat) 64)) = (((xs.getD 0 0).toNat * 2 ^ (ws.getD 1 0).toNat : Nat) : Int))∧TT 2 (IX 1 xs.length∧TT 1 ((True∧(IntKind.wrap .i64 (BitVec.ofInt (IntKind.i64).bits (((xs.getD 0 0).toNat * 2 ^ (ws.getD 1 0).toNat : Nat) : Int) ||| BitVec.ofInt (IntKind.i64).bits (xs.getD 1 0)).toNat) = (((xs.getD 0 0).toNat * 2 ^ (ws.getD 1 0).toNat ||| (xs.getD 1 0).toNat : Nat) : Int))∧TT 2 ((((xs.getD 0 0).toNat * 2 ^ (ws.getD 1 0).toNat ||| (xs.getD 1 0).toNat : Nat) : Int) = (kT 11 ws xs k w)∧True))))))) (.w 1 [(8,.val (i6 (((xs.getD 0 0).toNat * 2 ^ (ws.getD 1 0).toNat : Nat) : Int))),(13,.val (i6 (((xs.getD 0 0).toNat * 2 ^ (ws.getD 1 0).toNat ||| (xs.getD 1 0).toNat : Nat) : Int)))] <| .e) Try.func96 rfl rfl rfl (by kernel_rfl) ?_
 refine tt ⟨ix,tt ⟨ix,tt ⟨⟨om,(z7 (by omega) (by omega))⟩,tt ⟨ix,tt ⟨⟨oK,(z8 (by omega) (by omega) (by omega))⟩,tt ⟨?_,oK⟩⟩⟩⟩⟩⟩
 rfl
abbrev Ej (ws xs : List Int) (k w : Int) : Ct := ⟨98,(gE ws xs k w),false,(i6 (kT 12 ws xs k w))⟩
theorem zl (ws xs : List Int) (k w : Int) (ho : xQ ws xs 1) (hk : 0 ≤ k∧k ≤ 8∧an w = true) : CC (Ej ws xs k w) := by
 obtain ⟨hl,hf,hx,hin⟩ := ho
 have f0 : 0 < ws.length → 1 ≤ ws.getD 0 0∧ws.getD 0 0 ≤ 8 := fun h => au hf h
 have f1 : 1 < ws.length → 1 ≤ ws.getD 1 0∧ws.getD 1 0 ≤ 8 := fun h => au hf h
 have f2 : 2 < ws.length → 1 ≤ ws.getD 2 0∧ws.getD 2 0 ≤ 8 := fun h => au hf h
 have a0 : 0 < ws.length → 0 ≤ xs.getD 0 0∧xs.getD 0 0 ≤ af (ws.getD 0 0) := fun h => a5 hin (by omega)
 have a1 : 1 < ws.length → 0 ≤ xs.getD 1 0∧xs.getD 1 0 ≤ af (ws.getD 1 0) := fun h => a5 hin (by omega)
 have a2 : 2 < ws.length → 0 ≤ xs.getD 2 0∧xs.getD 2 0 ≤ af (ws.getD 2 0) := fun h => a5 hin (by omega)
 have m0 : 0 < ws.length → 0 ≤ af (ws.getD 0 0)∧af (ws.getD 0 0) ≤ 255 := fun h => ap (by have := f0 h; omega) (f0 h).2
 have m1 : 1 < ws.length → 0 ≤ af (ws.getD 1 0)∧af (ws.getD 1 0) ≤ 255 := fun h => ap (by have := f1 h; omega) (f1 h).2
 have m2 : 2 < ws.length → 0 ≤ af (ws.getD 2 0)∧af (ws.getD 2 0) ≤ 255 := fun h => ap (by have := f2 h; omega) (f2 h).2
 have b0 := f0 (by omega); have c0 := a0 (by omega); have d0 := m0 (by omega)
 have hw := aK.1 hk.2.2
 refine ak.vc (V := TT 4 (IX 0 xs.length∧TT 3 ((0 ≤ k∧(Int.fdiv (xs.getD 0 0) (2 ^ min k.toNat 64)) = (xs.getD 0 0 / 2 ^ k.toNat))∧TT 2 (CC (xN w)∧(True∧(IntKind.wrap .i64 (BitVec.ofInt (IntKind.i64).bits (xs.getD 0 0 / 2 ^ k.toNat) &&& BitVec.ofInt (IntKind.i64).bits (af w)).toNat) = ((xs.getD 0 0 / 2 ^ k.toNat) % 2 ^ w.toNat))∧TT 2 (((xs.getD 0 0 / 2 ^ k.toNat) % 2 ^ w.toNat) = (kT 12 ws xs k w)∧True))))) (.w 1 [(6,.val (i6 (xs.getD 0 0 / 2 ^ k.toNat))),(9,(xN w).O),(10,.val (i6 ((xs.getD 0 0 / 2 ^ k.toNat) % 2 ^ w.toNat)))] <| .e) Try.func98 rfl rfl rfl (by kernel_rfl) ?_
 refine tt ⟨ix,tt ⟨⟨om,(wJ hk.1 (by omega))⟩,tt ⟨(ko w),⟨⟨oK,(by rw [ez (by omega) (by omega)]; exact ey (by omega))⟩,tt ⟨?_,oK⟩⟩⟩⟩⟩
 rfl
end Go.Proofs.Ytgfbfajaaaegjaa
