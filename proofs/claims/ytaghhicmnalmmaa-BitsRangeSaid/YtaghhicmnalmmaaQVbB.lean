/-
  Package bits: the values of operations.
-/
import Derived.Test.YtaghhicmnalmmaaQVbA
namespace Go.Proofs.Ytaghhicmnalmmaa
open Go.RowKit
set_option linter.unusedVariables false
set_option linter.unusedSimpArgs false
abbrev dn (ws xs : List Int) (k w : Int) : List D := [(.agg [(LI ws),(LI xs),(i6 k),(i6 w)])]
set_option maxRecDepth 100000
structure oz (ws xs : List Int) (n : Nat) : Prop where
  hl : ws.length = n
  hf : ws.all ao = true
  hx : xs.length = ws.length
  hin : oI ws xs = true
abbrev rg (ws xs : List Int) (k w : Int) : Ct := ⟨42,(dn ws xs k w),false,(i6 (aa (ws.getD 0 0)))⟩
theorem jr (ws xs : List Int) (k w : Int) (hl : 0 < ws.length) : CC (rg ws xs k w) := by
 refine ai.vc (V := TT 4 (IX 0 ws.length∧TT 1 (CC (gf (ws.getD 0 0))∧TT 2 ((aa (ws.getD 0 0)) = (aa (ws.getD 0 0))∧True)))) (.w 1 [(4,(gf (ws.getD 0 0)).O)] <| .e) Try.func42 rfl rfl rfl (by kernel_rfl) ?_
 exact tt ⟨ix,tt ⟨(bw (ws.getD 0 0)),tt ⟨rfl,oK⟩⟩⟩
abbrev sQ (ws xs : List Int) (k w : Int) : Ct := ⟨41,(dn ws xs k w),false,(i6 (ft 2 ws xs k w))⟩
theorem rh (ws xs : List Int) (k w : Int) (ho : oz ws xs 1) : CC (sQ ws xs k w) := by
 obtain ⟨hl,hf,hx,hin⟩ := ho
 have f0 : 0 < ws.length → 1 ≤ ws.getD 0 0∧ws.getD 0 0 ≤ 8 := fun h => aj hf h
 have f1 : 1 < ws.length → 1 ≤ ws.getD 1 0∧ws.getD 1 0 ≤ 8 := fun h => aj hf h
 have f2 : 2 < ws.length → 1 ≤ ws.getD 2 0∧ws.getD 2 0 ≤ 8 := fun h => aj hf h
 have a0 : 0 < ws.length → 0 ≤ xs.getD 0 0∧xs.getD 0 0 ≤ aa (ws.getD 0 0) := fun h => aE hin (by omega)
 have a1 : 1 < ws.length → 0 ≤ xs.getD 1 0∧xs.getD 1 0 ≤ aa (ws.getD 1 0) := fun h => aE hin (by omega)
 have a2 : 2 < ws.length → 0 ≤ xs.getD 2 0∧xs.getD 2 0 ≤ aa (ws.getD 2 0) := fun h => aE hin (by omega)
 have m0 : 0 < ws.length → 0 ≤ aa (ws.getD 0 0)∧aa (ws.getD 0 0) ≤ 255 := fun h => ah (by have := f0 h; omega) (f0 h).2
 have m1 : 1 < ws.length → 0 ≤ aa (ws.getD 1 0)∧aa (ws.getD 1 0) ≤ 255 := fun h => ah (by have := f1 h; omega) (f1 h).2
 have m2 : 2 < ws.length → 0 ≤ aa (ws.getD 2 0)∧aa (ws.getD 2 0) ≤ 255 := fun h => ah (by have := f2 h; omega) (f2 h).2
 have b0 := f0 (by omega); have c0 := a0 (by omega); have d0 := m0 (by omega)
 refine ai.vc (V := TT 4 (IX 0 xs.length∧TT 2 (CC (rg ws xs k w)∧(True∧(IntKind.wrap .i64 (BitVec.ofInt (IntKind.i64).bits (xs.getD 0 0) ^^^ BitVec.ofInt (IntKind.i64).bits (aa (ws.getD 0 0))).toNat) = (((xs.getD 0 0).toNat ^^^ (aa (ws.getD 0 0)).toNat : Nat) : Int))∧TT 2 ((((xs.getD 0 0).toNat ^^^ (aa (ws.getD 0 0)).toNat : Nat) : Int) = (ft 2 ws xs k w)∧True)))) (.w 1 [(5,(rg ws xs k w).O),(6,.val (i6 (((xs.getD 0 0).toNat ^^^ (aa (ws.getD 0 0)).toNat : Nat) : Int)))] <| .e) Try.func41 rfl rfl rfl (by kernel_rfl) ?_
 refine tt ⟨ix,tt ⟨(jr ws xs k w om),⟨⟨oK,(kr (by omega) (by omega) (by omega) (by omega))⟩,tt ⟨?_,oK⟩⟩⟩⟩
 rfl
abbrev sR (ws xs : List Int) (k w : Int) : Ct := ⟨44,(dn ws xs k w),false,(i6 (ft 3 ws xs k w))⟩
theorem ri (ws xs : List Int) (k w : Int) (ho : oz ws xs 2) : CC (sR ws xs k w) := by
 obtain ⟨hl,hf,hx,hin⟩ := ho
 have f0 : 0 < ws.length → 1 ≤ ws.getD 0 0∧ws.getD 0 0 ≤ 8 := fun h => aj hf h
 have f1 : 1 < ws.length → 1 ≤ ws.getD 1 0∧ws.getD 1 0 ≤ 8 := fun h => aj hf h
 have f2 : 2 < ws.length → 1 ≤ ws.getD 2 0∧ws.getD 2 0 ≤ 8 := fun h => aj hf h
 have a0 : 0 < ws.length → 0 ≤ xs.getD 0 0∧xs.getD 0 0 ≤ aa (ws.getD 0 0) := fun h => aE hin (by omega)
 have a1 : 1 < ws.length → 0 ≤ xs.getD 1 0∧xs.getD 1 0 ≤ aa (ws.getD 1 0) := fun h => aE hin (by omega)
 have a2 : 2 < ws.length → 0 ≤ xs.getD 2 0∧xs.getD 2 0 ≤ aa (ws.getD 2 0) := fun h => aE hin (by omega)
 have m0 : 0 < ws.length → 0 ≤ aa (ws.getD 0 0)∧aa (ws.getD 0 0) ≤ 255 := fun h => ah (by have := f0 h; omega) (f0 h).2
 have m1 : 1 < ws.length → 0 ≤ aa (ws.getD 1 0)∧aa (ws.getD 1 0) ≤ 255 := fun h => ah (by have := f1 h; omega) (f1 h).2
 have m2 : 2 < ws.length → 0 ≤ aa (ws.getD 2 0)∧aa (ws.getD 2 0) ≤ 255 := fun h => ah (by have := f2 h; omega) (f2 h).2
 have b0 := f0 (by omega); have c0 := a0 (by omega); have d0 := m0 (by omega)
 have b1 := f1 (by omega); have c1 := a1 (by omega); have d1 := m1 (by omega)
 refine ai.vc (V := TT 4 (IX 0 xs.length∧TT 3 (IX 1 xs.length∧TT 1 ((True∧(IntKind.wrap .i64 (BitVec.ofInt (IntKind.i64).bits (xs.getD 0 0) &&& BitVec.ofInt (IntKind.i64).bits (xs.getD 1 0)).toNat) = (((xs.getD 0 0).toNat &&& (xs.getD 1 0).toNat : Nat) : Int))∧TT 2 ((((xs.getD 0 0).toNat &&& (xs.getD 1 0).toNat : Nat) : Int) = (ft 3 ws xs k w)∧True))))) (.w 1 [(8,.val (i6 (((xs.getD 0 0).toNat &&& (xs.getD 1 0).toNat : Nat) : Int)))] <| .e) Try.func44 rfl rfl rfl (by kernel_rfl) ?_
 refine tt ⟨ix,tt ⟨ix,tt ⟨⟨oK,(oi (by omega) (by omega) (by omega) (by omega))⟩,tt ⟨?_,oK⟩⟩⟩⟩
 rfl
abbrev sS (ws xs : List Int) (k w : Int) : Ct := ⟨45,(dn ws xs k w),false,(i6 (ft 4 ws xs k w))⟩
theorem r9 (ws xs : List Int) (k w : Int) (ho : oz ws xs 2) : CC (sS ws xs k w) := by
 obtain ⟨hl,hf,hx,hin⟩ := ho
 have f0 : 0 < ws.length → 1 ≤ ws.getD 0 0∧ws.getD 0 0 ≤ 8 := fun h => aj hf h
 have f1 : 1 < ws.length → 1 ≤ ws.getD 1 0∧ws.getD 1 0 ≤ 8 := fun h => aj hf h
 have f2 : 2 < ws.length → 1 ≤ ws.getD 2 0∧ws.getD 2 0 ≤ 8 := fun h => aj hf h
 have a0 : 0 < ws.length → 0 ≤ xs.getD 0 0∧xs.getD 0 0 ≤ aa (ws.getD 0 0) := fun h => aE hin (by omega)
 have a1 : 1 < ws.length → 0 ≤ xs.getD 1 0∧xs.getD 1 0 ≤ aa (ws.getD 1 0) := fun h => aE hin (by omega)
 have a2 : 2 < ws.length → 0 ≤ xs.getD 2 0∧xs.getD 2 0 ≤ aa (ws.getD 2 0) := fun h => aE hin (by omega)
 have m0 : 0 < ws.length → 0 ≤ aa (ws.getD 0 0)∧aa (ws.getD 0 0) ≤ 255 := fun h => ah (by have := f0 h; omega) (f0 h).2
 have m1 : 1 < ws.length → 0 ≤ aa (ws.getD 1 0)∧aa (ws.getD 1 0) ≤ 255 := fun h => ah (by have := f1 h; omega) (f1 h).2
 have m2 : 2 < ws.length → 0 ≤ aa (ws.getD 2 0)∧aa (ws.getD 2 0) ≤ 255 := fun h => ah (by have := f2 h; omega) (f2 h).2
 have b0 := f0 (by omega); have c0 := a0 (by omega); have d0 := m0 (by omega)
 have b1 := f1 (by omega); have c1 := a1 (by omega); have d1 := m1 (by omega)
 refine ai.vc (V := TT 4 (IX 0 xs.length∧TT 3 (IX 1 xs.length∧TT 1 ((True∧(IntKind.wrap .i64 (BitVec.ofInt (IntKind.i64).bits (xs.getD 0 0) ||| BitVec.ofInt (IntKind.i64).bits (xs.getD 1 0)).toNat) = (((xs.getD 0 0).toNat ||| (xs.getD 1 0).toNat : Nat) : Int))∧TT 2 ((((xs.getD 0 0).toNat ||| (xs.getD 1 0).toNat : Nat) : Int) = (ft 4 ws xs k w)∧True))))) (.w 1 [(8,.val (i6 (((xs.getD 0 0).toNat ||| (xs.getD 1 0).toNat : Nat) : Int)))] <| .e) Try.func45 rfl rfl rfl (by kernel_rfl) ?_
 refine tt ⟨ix,tt ⟨ix,tt ⟨⟨oK,(pn (by omega) (by omega) (by omega) (by omega))⟩,tt ⟨?_,oK⟩⟩⟩⟩
 rfl
abbrev sT (ws xs : List Int) (k w : Int) : Ct := ⟨46,(dn ws xs k w),false,(i6 (ft 5 ws xs k w))⟩
theorem rj (ws xs : List Int) (k w : Int) (ho : oz ws xs 2) : CC (sT ws xs k w) := by
 obtain ⟨hl,hf,hx,hin⟩ := ho
 have f0 : 0 < ws.length → 1 ≤ ws.getD 0 0∧ws.getD 0 0 ≤ 8 := fun h => aj hf h
 have f1 : 1 < ws.length → 1 ≤ ws.getD 1 0∧ws.getD 1 0 ≤ 8 := fun h => aj hf h
 have f2 : 2 < ws.length → 1 ≤ ws.getD 2 0∧ws.getD 2 0 ≤ 8 := fun h => aj hf h
 have a0 : 0 < ws.length → 0 ≤ xs.getD 0 0∧xs.getD 0 0 ≤ aa (ws.getD 0 0) := fun h => aE hin (by omega)
 have a1 : 1 < ws.length → 0 ≤ xs.getD 1 0∧xs.getD 1 0 ≤ aa (ws.getD 1 0) := fun h => aE hin (by omega)
 have a2 : 2 < ws.length → 0 ≤ xs.getD 2 0∧xs.getD 2 0 ≤ aa (ws.getD 2 0) := fun h => aE hin (by omega)
 have m0 : 0 < ws.length → 0 ≤ aa (ws.getD 0 0)∧aa (ws.getD 0 0) ≤ 255 := fun h => ah (by have := f0 h; omega) (f0 h).2
 have m1 : 1 < ws.length → 0 ≤ aa (ws.getD 1 0)∧aa (ws.getD 1 0) ≤ 255 := fun h => ah (by have := f1 h; omega) (f1 h).2
 have m2 : 2 < ws.length → 0 ≤ aa (ws.getD 2 0)∧aa (ws.getD 2 0) ≤ 255 := fun h => ah (by have := f2 h; omega) (f2 h).2
 have b0 := f0 (by omega); have c0 := a0 (by omega); have d0 := m0 (by omega)
 have b1 := f1 (by omega); have c1 := a1 (by omega); have d1 := m1 (by omega)
 refine ai.vc (V := TT 4 (IX 0 xs.length∧TT 3 (IX 1 xs.length∧TT 1 ((True∧(IntKind.wrap .i64 (BitVec.ofInt (IntKind.i64).bits (xs.getD 0 0) ^^^ BitVec.ofInt (IntKind.i64).bits (xs.getD 1 0)).toNat) = (((xs.getD 0 0).toNat ^^^ (xs.getD 1 0).toNat : Nat) : Int))∧TT 2 ((((xs.getD 0 0).toNat ^^^ (xs.getD 1 0).toNat : Nat) : Int) = (ft 5 ws xs k w)∧True))))) (.w 1 [(8,.val (i6 (((xs.getD 0 0).toNat ^^^ (xs.getD 1 0).toNat : Nat) : Int)))] <| .e) Try.func46 rfl rfl rfl (by kernel_rfl) ?_
 refine tt ⟨ix,tt ⟨ix,tt ⟨⟨oK,(kr (by omega) (by omega) (by omega) (by omega))⟩,tt ⟨?_,oK⟩⟩⟩⟩
 rfl
abbrev sU (ws xs : List Int) (k w : Int) : Ct := ⟨47,(dn ws xs k w),false,(i6 (ft 6 ws xs k w))⟩
theorem rk (ws xs : List Int) (k w : Int) (ho : oz ws xs 2) : CC (sU ws xs k w) := by
 obtain ⟨hl,hf,hx,hin⟩ := ho
 have f0 : 0 < ws.length → 1 ≤ ws.getD 0 0∧ws.getD 0 0 ≤ 8 := fun h => aj hf h
 have f1 : 1 < ws.length → 1 ≤ ws.getD 1 0∧ws.getD 1 0 ≤ 8 := fun h => aj hf h
 have f2 : 2 < ws.length → 1 ≤ ws.getD 2 0∧ws.getD 2 0 ≤ 8 := fun h => aj hf h
 have a0 : 0 < ws.length → 0 ≤ xs.getD 0 0∧xs.getD 0 0 ≤ aa (ws.getD 0 0) := fun h => aE hin (by omega)
 have a1 : 1 < ws.length → 0 ≤ xs.getD 1 0∧xs.getD 1 0 ≤ aa (ws.getD 1 0) := fun h => aE hin (by omega)
 have a2 : 2 < ws.length → 0 ≤ xs.getD 2 0∧xs.getD 2 0 ≤ aa (ws.getD 2 0) := fun h => aE hin (by omega)
 have m0 : 0 < ws.length → 0 ≤ aa (ws.getD 0 0)∧aa (ws.getD 0 0) ≤ 255 := fun h => ah (by have := f0 h; omega) (f0 h).2
 have m1 : 1 < ws.length → 0 ≤ aa (ws.getD 1 0)∧aa (ws.getD 1 0) ≤ 255 := fun h => ah (by have := f1 h; omega) (f1 h).2
 have m2 : 2 < ws.length → 0 ≤ aa (ws.getD 2 0)∧aa (ws.getD 2 0) ≤ 255 := fun h => ah (by have := f2 h; omega) (f2 h).2
 have b0 := f0 (by omega); have c0 := a0 (by omega); have d0 := m0 (by omega)
 have b1 := f1 (by omega); have c1 := a1 (by omega); have d1 := m1 (by omega)
 refine ai.vc (V := TT 4 (IX 0 xs.length∧TT 3 (IX 1 xs.length∧TT 1 (W6 ((xs.getD 0 0) + (xs.getD 1 0))∧TT 1 (CC (rg ws xs k w)∧(True∧(IntKind.wrap .i64 (BitVec.ofInt (IntKind.i64).bits ((xs.getD 0 0) + (xs.getD 1 0)) &&& BitVec.ofInt (IntKind.i64).bits (aa (ws.getD 0 0))).toNat) = ((xs.getD 0 0 + xs.getD 1 0) % 2 ^ (ws.getD 0 0).toNat))∧TT 2 (((xs.getD 0 0 + xs.getD 1 0) % 2 ^ (ws.getD 0 0).toNat) = (ft 6 ws xs k w)∧True)))))) (.w 1 [(8,.val (i6 ((xs.getD 0 0) + (xs.getD 1 0)))),(10,(rg ws xs k w).O),(11,.val (i6 ((xs.getD 0 0 + xs.getD 1 0) % 2 ^ (ws.getD 0 0).toNat)))] <| .e) Try.func47 rfl rfl rfl (by kernel_rfl) ?_
 refine tt ⟨ix,tt ⟨ix,tt ⟨w6,tt ⟨(jr ws xs k w om),⟨⟨oK,(by rw [cy (by omega) (by omega)]; exact eM (by omega))⟩,tt ⟨?_,oK⟩⟩⟩⟩⟩⟩
 rfl
abbrev sV (ws xs : List Int) (k w : Int) : Ct := ⟨48,(dn ws xs k w),false,(i6 (ft 7 ws xs k w))⟩
theorem rl (ws xs : List Int) (k w : Int) (ho : oz ws xs 2) : CC (sV ws xs k w) := by
 obtain ⟨hl,hf,hx,hin⟩ := ho
 have f0 : 0 < ws.length → 1 ≤ ws.getD 0 0∧ws.getD 0 0 ≤ 8 := fun h => aj hf h
 have f1 : 1 < ws.length → 1 ≤ ws.getD 1 0∧ws.getD 1 0 ≤ 8 := fun h => aj hf h
 have f2 : 2 < ws.length → 1 ≤ ws.getD 2 0∧ws.getD 2 0 ≤ 8 := fun h => aj hf h
 have a0 : 0 < ws.length → 0 ≤ xs.getD 0 0∧xs.getD 0 0 ≤ aa (ws.getD 0 0) := fun h => aE hin (by omega)
 have a1 : 1 < ws.length → 0 ≤ xs.getD 1 0∧xs.getD 1 0 ≤ aa (ws.getD 1 0) := fun h => aE hin (by omega)
 have a2 : 2 < ws.length → 0 ≤ xs.getD 2 0∧xs.getD 2 0 ≤ aa (ws.getD 2 0) := fun h => aE hin (by omega)
 have m0 : 0 < ws.length → 0 ≤ aa (ws.getD 0 0)∧aa (ws.getD 0 0) ≤ 255 := fun h => ah (by have := f0 h; omega) (f0 h).2
 have m1 : 1 < ws.length → 0 ≤ aa (ws.getD 1 0)∧aa (ws.getD 1 0) ≤ 255 := fun h => ah (by have := f1 h; omega) (f1 h).2
 have m2 : 2 < ws.length → 0 ≤ aa (ws.getD 2 0)∧aa (ws.getD 2 0) ≤ 255 := fun h => ah (by have := f2 h; omega) (f2 h).2
 have b0 := f0 (by omega); have c0 := a0 (by omega); have d0 := m0 (by omega)
 have b1 := f1 (by omega); have c1 := a1 (by omega); have d1 := m1 (by omega)
 refine ai.vc (V := TT 4 (IX 0 xs.length∧TT 3 (IX 1 xs.length∧TT 1 (W6 ((xs.getD 0 0) - (xs.getD 1 0))∧TT 1 (CC (rg ws xs k w)∧(True∧(IntKind.wrap .i64 (BitVec.ofInt (IntKind.i64).bits ((xs.getD 0 0) - (xs.getD 1 0)) &&& BitVec.ofInt (IntKind.i64).bits (aa (ws.getD 0 0))).toNat) = ((xs.getD 0 0 - xs.getD 1 0) % 2 ^ (ws.getD 0 0).toNat))∧TT 2 (((xs.getD 0 0 - xs.getD 1 0) % 2 ^ (ws.getD 0 0).toNat) = (ft 7 ws xs k w)∧True)))))) (.w 1 [(8,.val (i6 ((xs.getD 0 0) - (xs.getD 1 0)))),(10,(rg ws xs k w).O),(11,.val (i6 ((xs.getD 0 0 - xs.getD 1 0) % 2 ^ (ws.getD 0 0).toNat)))] <| .e) Try.func48 rfl rfl rfl (by kernel_rfl) ?_
 refine tt ⟨ix,tt ⟨ix,tt ⟨w6,tt ⟨(jr ws xs k w om),⟨⟨oK,(by rw [cy (by omega) (by omega)]; exact eM (by omega))⟩,tt ⟨?_,oK⟩⟩⟩⟩⟩⟩
 rfl
abbrev sW (ws xs : List Int) (k w : Int) : Ct := ⟨50,(dn ws xs k w),false,(i6 (ft 8 ws xs k w))⟩
theorem sa (ws xs : List Int) (k w : Int) (ho : oz ws xs 2) : CC (sW ws xs k w) := by
 obtain ⟨hl,hf,hx,hin⟩ := ho
 have f0 : 0 < ws.length → 1 ≤ ws.getD 0 0∧ws.getD 0 0 ≤ 8 := fun h => aj hf h
 have f1 : 1 < ws.length → 1 ≤ ws.getD 1 0∧ws.getD 1 0 ≤ 8 := fun h => aj hf h
 have f2 : 2 < ws.length → 1 ≤ ws.getD 2 0∧ws.getD 2 0 ≤ 8 := fun h => aj hf h
 have a0 : 0 < ws.length → 0 ≤ xs.getD 0 0∧xs.getD 0 0 ≤ aa (ws.getD 0 0) := fun h => aE hin (by omega)
 have a1 : 1 < ws.length → 0 ≤ xs.getD 1 0∧xs.getD 1 0 ≤ aa (ws.getD 1 0) := fun h => aE hin (by omega)
 have a2 : 2 < ws.length → 0 ≤ xs.getD 2 0∧xs.getD 2 0 ≤ aa (ws.getD 2 0) := fun h => aE hin (by omega)
 have m0 : 0 < ws.length → 0 ≤ aa (ws.getD 0 0)∧aa (ws.getD 0 0) ≤ 255 := fun h => ah (by have := f0 h; omega) (f0 h).2
 have m1 : 1 < ws.length → 0 ≤ aa (ws.getD 1 0)∧aa (ws.getD 1 0) ≤ 255 := fun h => ah (by have := f1 h; omega) (f1 h).2
 have m2 : 2 < ws.length → 0 ≤ aa (ws.getD 2 0)∧aa (ws.getD 2 0) ≤ 255 := fun h => ah (by have := f2 h; omega) (f2 h).2
 have b0 := f0 (by omega); have c0 := a0 (by omega); have d0 := m0 (by omega)
 have b1 := f1 (by omega); have c1 := a1 (by omega); have d1 := m1 (by omega)
 refine ai.vc (V := TT 4 (IX 0 xs.length∧TT 3 (IX 1 xs.length∧TT 2 (CC (r8 ((xs.getD 0 0) == (xs.getD 1 0)))∧TT 2 ((if ((xs.getD 0 0) == (xs.getD 1 0)) = true then 1 else 0) = (ft 8 ws xs k w)∧True))))) (.w 1 [(9,(r8 ((xs.getD 0 0) == (xs.getD 1 0))).O)] <| .e) Try.func50 rfl rfl rfl (by kernel_rfl) ?_
 refine tt ⟨ix,tt ⟨ix,tt ⟨(mU ((xs.getD 0 0) == (xs.getD 1 0))),tt ⟨?_,oK⟩⟩⟩⟩
 show _ = (if xs.getD 0 0 = xs.getD 1 0 then (1 : Int) else 0)
 by_cases h : xs.getD 0 0 = xs.getD 1 0
 · rw [if_pos h,if_pos (by simpa using h)]
 · rw [if_neg h,if_neg (by simpa using h)]
abbrev sX (ws xs : List Int) (k w : Int) : Ct := ⟨51,(dn ws xs k w),false,(i6 (ft 9 ws xs k w))⟩
theorem sc (ws xs : List Int) (k w : Int) (ho : oz ws xs 2) : CC (sX ws xs k w) := by
 obtain ⟨hl,hf,hx,hin⟩ := ho
 have f0 : 0 < ws.length → 1 ≤ ws.getD 0 0∧ws.getD 0 0 ≤ 8 := fun h => aj hf h
 have f1 : 1 < ws.length → 1 ≤ ws.getD 1 0∧ws.getD 1 0 ≤ 8 := fun h => aj hf h
 have f2 : 2 < ws.length → 1 ≤ ws.getD 2 0∧ws.getD 2 0 ≤ 8 := fun h => aj hf h
 have a0 : 0 < ws.length → 0 ≤ xs.getD 0 0∧xs.getD 0 0 ≤ aa (ws.getD 0 0) := fun h => aE hin (by omega)
 have a1 : 1 < ws.length → 0 ≤ xs.getD 1 0∧xs.getD 1 0 ≤ aa (ws.getD 1 0) := fun h => aE hin (by omega)
 have a2 : 2 < ws.length → 0 ≤ xs.getD 2 0∧xs.getD 2 0 ≤ aa (ws.getD 2 0) := fun h => aE hin (by omega)
 have m0 : 0 < ws.length → 0 ≤ aa (ws.getD 0 0)∧aa (ws.getD 0 0) ≤ 255 := fun h => ah (by have := f0 h; omega) (f0 h).2
 have m1 : 1 < ws.length → 0 ≤ aa (ws.getD 1 0)∧aa (ws.getD 1 0) ≤ 255 := fun h => ah (by have := f1 h; omega) (f1 h).2
 have m2 : 2 < ws.length → 0 ≤ aa (ws.getD 2 0)∧aa (ws.getD 2 0) ≤ 255 := fun h => ah (by have := f2 h; omega) (f2 h).2
 have b0 := f0 (by omega); have c0 := a0 (by omega); have d0 := m0 (by omega)
 have b1 := f1 (by omega); have c1 := a1 (by omega); have d1 := m1 (by omega)
 refine ai.vc (V := TT 4 (IX 0 xs.length∧TT 3 (IX 1 xs.length∧TT 2 (CC (r8 (decide ((xs.getD 0 0) < (xs.getD 1 0))))∧TT 2 ((if (decide ((xs.getD 0 0) < (xs.getD 1 0))) = true then 1 else 0) = (ft 9 ws xs k w)∧True))))) (.w 1 [(9,(r8 (decide ((xs.getD 0 0) < (xs.getD 1 0)))).O)] <| .e) Try.func51 rfl rfl rfl (by kernel_rfl) ?_
 refine tt ⟨ix,tt ⟨ix,tt ⟨(mU (decide ((xs.getD 0 0) < (xs.getD 1 0)))),tt ⟨?_,oK⟩⟩⟩⟩
 show _ = (if xs.getD 0 0 < xs.getD 1 0 then (1 : Int) else 0)
 by_cases h : xs.getD 0 0 < xs.getD 1 0
 · rw [if_pos h,if_pos (by simpa using h)]
 · rw [if_neg h,if_neg (by simpa using h)]
abbrev sY (ws xs : List Int) (k w : Int) : Ct := ⟨53,(dn ws xs k w),false,(i6 (ft 1 ws xs k w))⟩
theorem px (ws xs : List Int) (k w : Int) (ho : oz ws xs 0) : CC (sY ws xs k w) := by
 obtain ⟨hl,hf,hx,hin⟩ := ho
 have f0 : 0 < ws.length → 1 ≤ ws.getD 0 0∧ws.getD 0 0 ≤ 8 := fun h => aj hf h
 have f1 : 1 < ws.length → 1 ≤ ws.getD 1 0∧ws.getD 1 0 ≤ 8 := fun h => aj hf h
 have f2 : 2 < ws.length → 1 ≤ ws.getD 2 0∧ws.getD 2 0 ≤ 8 := fun h => aj hf h
 have a0 : 0 < ws.length → 0 ≤ xs.getD 0 0∧xs.getD 0 0 ≤ aa (ws.getD 0 0) := fun h => aE hin (by omega)
 have a1 : 1 < ws.length → 0 ≤ xs.getD 1 0∧xs.getD 1 0 ≤ aa (ws.getD 1 0) := fun h => aE hin (by omega)
 have a2 : 2 < ws.length → 0 ≤ xs.getD 2 0∧xs.getD 2 0 ≤ aa (ws.getD 2 0) := fun h => aE hin (by omega)
 have m0 : 0 < ws.length → 0 ≤ aa (ws.getD 0 0)∧aa (ws.getD 0 0) ≤ 255 := fun h => ah (by have := f0 h; omega) (f0 h).2
 have m1 : 1 < ws.length → 0 ≤ aa (ws.getD 1 0)∧aa (ws.getD 1 0) ≤ 255 := fun h => ah (by have := f1 h; omega) (f1 h).2
 have m2 : 2 < ws.length → 0 ≤ aa (ws.getD 2 0)∧aa (ws.getD 2 0) ≤ 255 := fun h => ah (by have := f2 h; omega) (f2 h).2
 refine ai.vc (V := TT 6 (k = (ft 1 ws xs k w)∧True)) (.e) Try.func53 rfl rfl rfl (by kernel_rfl) ?_
 refine tt ⟨?_,oK⟩
 rfl
abbrev sZ (ws xs : List Int) (k w : Int) : Ct := ⟨61,(dn ws xs k w),false,(i6 (ft 13 ws xs k w))⟩
theorem rm (ws xs : List Int) (k w : Int) (ho : oz ws xs 1) : CC (sZ ws xs k w) := by
 obtain ⟨hl,hf,hx,hin⟩ := ho
 have f0 : 0 < ws.length → 1 ≤ ws.getD 0 0∧ws.getD 0 0 ≤ 8 := fun h => aj hf h
 have f1 : 1 < ws.length → 1 ≤ ws.getD 1 0∧ws.getD 1 0 ≤ 8 := fun h => aj hf h
 have f2 : 2 < ws.length → 1 ≤ ws.getD 2 0∧ws.getD 2 0 ≤ 8 := fun h => aj hf h
 have a0 : 0 < ws.length → 0 ≤ xs.getD 0 0∧xs.getD 0 0 ≤ aa (ws.getD 0 0) := fun h => aE hin (by omega)
 have a1 : 1 < ws.length → 0 ≤ xs.getD 1 0∧xs.getD 1 0 ≤ aa (ws.getD 1 0) := fun h => aE hin (by omega)
 have a2 : 2 < ws.length → 0 ≤ xs.getD 2 0∧xs.getD 2 0 ≤ aa (ws.getD 2 0) := fun h => aE hin (by omega)
 have m0 : 0 < ws.length → 0 ≤ aa (ws.getD 0 0)∧aa (ws.getD 0 0) ≤ 255 := fun h => ah (by have := f0 h; omega) (f0 h).2
 have m1 : 1 < ws.length → 0 ≤ aa (ws.getD 1 0)∧aa (ws.getD 1 0) ≤ 255 := fun h => ah (by have := f1 h; omega) (f1 h).2
 have m2 : 2 < ws.length → 0 ≤ aa (ws.getD 2 0)∧aa (ws.getD 2 0) ≤ 255 := fun h => ah (by have := f2 h; omega) (f2 h).2
 have b0 := f0 (by omega); have c0 := a0 (by omega); have d0 := m0 (by omega)
 refine ai.vc (V := TT 4 (IX 0 xs.length∧TT 3 ((xs.getD 0 0) = (ft 13 ws xs k w)∧True))) (.e) Try.func61 rfl rfl rfl (by kernel_rfl) ?_
 refine tt ⟨ix,tt ⟨?_,oK⟩⟩
 rfl
abbrev s4 (ws xs : List Int) (k w : Int) : Ct := ⟨55,(dn ws xs k w),false,(i6 (ft 10 ws xs k w))⟩
theorem rn (ws xs : List Int) (k w : Int) (ho : oz ws xs 3) (h1 : ws.getD 0 0 = 1) : CC (s4 ws xs k w) := by
 obtain ⟨hl,hf,hx,hin⟩ := ho
 have f0 : 0 < ws.length → 1 ≤ ws.getD 0 0∧ws.getD 0 0 ≤ 8 := fun h => aj hf h
 have f1 : 1 < ws.length → 1 ≤ ws.getD 1 0∧ws.getD 1 0 ≤ 8 := fun h => aj hf h
 have f2 : 2 < ws.length → 1 ≤ ws.getD 2 0∧ws.getD 2 0 ≤ 8 := fun h => aj hf h
 have a0 : 0 < ws.length → 0 ≤ xs.getD 0 0∧xs.getD 0 0 ≤ aa (ws.getD 0 0) := fun h => aE hin (by omega)
 have a1 : 1 < ws.length → 0 ≤ xs.getD 1 0∧xs.getD 1 0 ≤ aa (ws.getD 1 0) := fun h => aE hin (by omega)
 have a2 : 2 < ws.length → 0 ≤ xs.getD 2 0∧xs.getD 2 0 ≤ aa (ws.getD 2 0) := fun h => aE hin (by omega)
 have m0 : 0 < ws.length → 0 ≤ aa (ws.getD 0 0)∧aa (ws.getD 0 0) ≤ 255 := fun h => ah (by have := f0 h; omega) (f0 h).2
 have m1 : 1 < ws.length → 0 ≤ aa (ws.getD 1 0)∧aa (ws.getD 1 0) ≤ 255 := fun h => ah (by have := f1 h; omega) (f1 h).2
 have m2 : 2 < ws.length → 0 ≤ aa (ws.getD 2 0)∧aa (ws.getD 2 0) ≤ 255 := fun h => ah (by have := f2 h; omega) (f2 h).2
 have b0 := f0 (by omega); have c0 := a0 (by omega); have d0 := m0 (by omega)
 have b1 := f1 (by omega); have c1 := a1 (by omega); have d1 := m1 (by omega)
 have b2 := f2 (by omega); have c2 := a2 (by omega); have d2 := m2 (by omega)
 have hm1 : aa (ws.getD 0 0) = 1 := by rw [h1]; decide
 have hx0 : xs.getD 0 0 = 0 ∨ xs.getD 0 0 = 1 := by omega
 refine ai.vc (V := TT 6 (IX 0 xs.length∧TT 1 (W6 (2 - (xs.getD 0 0))∧IX (2 - (xs.getD 0 0)) xs.length∧TT 3 ((xs.getD ((2 - (xs.getD 0 0)).toNat) 0) = (ft 10 ws xs k w)∧True)))) (.w 1 [(6,.val (i6 (2 - (xs.getD 0 0))))] <| .e) Try.func55 rfl rfl rfl (by kernel_rfl) ?_
 refine tt ⟨ix,tt ⟨w6,⟨ix,tt ⟨?_,oK⟩⟩⟩⟩
 rfl
abbrev s5 (ws xs : List Int) (k w : Int) : Ct := ⟨57,(dn ws xs k w),false,(i6 (ft 11 ws xs k w))⟩
theorem rp (ws xs : List Int) (k w : Int) (ho : oz ws xs 2) : CC (s5 ws xs k w) := by
 obtain ⟨hl,hf,hx,hin⟩ := ho
 have f0 : 0 < ws.length → 1 ≤ ws.getD 0 0∧ws.getD 0 0 ≤ 8 := fun h => aj hf h
 have f1 : 1 < ws.length → 1 ≤ ws.getD 1 0∧ws.getD 1 0 ≤ 8 := fun h => aj hf h
 have f2 : 2 < ws.length → 1 ≤ ws.getD 2 0∧ws.getD 2 0 ≤ 8 := fun h => aj hf h
 have a0 : 0 < ws.length → 0 ≤ xs.getD 0 0∧xs.getD 0 0 ≤ aa (ws.getD 0 0) := fun h => aE hin (by omega)
 have a1 : 1 < ws.length → 0 ≤ xs.getD 1 0∧xs.getD 1 0 ≤ aa (ws.getD 1 0) := fun h => aE hin (by omega)
 have a2 : 2 < ws.length → 0 ≤ xs.getD 2 0∧xs.getD 2 0 ≤ aa (ws.getD 2 0) := fun h => aE hin (by omega)
 have m0 : 0 < ws.length → 0 ≤ aa (ws.getD 0 0)∧aa (ws.getD 0 0) ≤ 255 := fun h => ah (by have := f0 h; omega) (f0 h).2
 have m1 : 1 < ws.length → 0 ≤ aa (ws.getD 1 0)∧aa (ws.getD 1 0) ≤ 255 := fun h => ah (by have := f1 h; omega) (f1 h).2
 have m2 : 2 < ws.length → 0 ≤ aa (ws.getD 2 0)∧aa (ws.getD 2 0) ≤ 255 := fun h => ah (by have := f2 h; omega) (f2 h).2
 have b0 := f0 (by omega); have c0 := a0 (by omega); have d0 := m0 (by omega)
 have b1 := f1 (by omega); have c1 := a1 (by omega); have d1 := m1 (by omega)
 refine ai.vc (V := TT 4 (IX 0 xs.length∧TT 3 (IX 1 ws.length∧TT 1 ((0 ≤ (ws.getD 1 0)∧(IntKind.wrap .i64 ((xs.getD 0 0) * 2 ^ min ((ws.getD 1 0).toNat) 64)) = (((xs.getD 0 0).toNat * 2 ^ (ws.getD 1 0).toNat : Nat) : Int))∧TT 2 (IX 1 xs.length∧TT 1 ((True∧(IntKind.wrap .i64 (BitVec.ofInt (IntKind.i64).bits (((xs.getD 0 0).toNat * 2 ^ (ws.getD 1 0).toNat : Nat) : Int) ||| BitVec.ofInt (IntKind.i64).bits (xs.getD 1 0)).toNat) = (((xs.getD 0 0).toNat * 2 ^ (ws.getD 1 0).toNat ||| (xs.getD 1 0).toNat : Nat) : Int))∧TT 2 ((((xs.getD 0 0).toNat * 2 ^ (ws.getD 1 0).toNat ||| (xs.getD 1 0).toNat : Nat) : Int) = (ft 11 ws xs k w)∧True))))))) (.w 1 [(8,.val (i6 (((xs.getD 0 0).toNat * 2 ^ (ws.getD 1 0).toNat : Nat) : Int))),(13,.val (i6 (((xs.getD 0 0).toNat * 2 ^ (ws.getD 1 0).toNat ||| (xs.getD 1 0).toNat : Nat) : Int)))] <| .e) Try.func57 rfl rfl rfl (by kernel_rfl) ?_
 refine tt ⟨ix,tt ⟨ix,tt ⟨⟨om,(p8 (by omega) (by omega))⟩,tt ⟨ix,tt ⟨⟨oK,(p9 (by omega) (by omega) (by omega))⟩,tt ⟨?_,oK⟩⟩⟩⟩⟩⟩
 rfl
abbrev s6 (ws xs : List Int) (k w : Int) : Ct := ⟨59,(dn ws xs k w),false,(i6 (ft 12 ws xs k w))⟩
theorem py (ws xs : List Int) (k w : Int) (ho : oz ws xs 1) (hk : 0 ≤ k∧k ≤ 8∧ao w = true) : CC (s6 ws xs k w) := by
 obtain ⟨hl,hf,hx,hin⟩ := ho
 have f0 : 0 < ws.length → 1 ≤ ws.getD 0 0∧ws.getD 0 0 ≤ 8 := fun h => aj hf h
 have f1 : 1 < ws.length → 1 ≤ ws.getD 1 0∧ws.getD 1 0 ≤ 8 := fun h => aj hf h
 have f2 : 2 < ws.length → 1 ≤ ws.getD 2 0∧ws.getD 2 0 ≤ 8 := fun h => aj hf h
 have a0 : 0 < ws.length → 0 ≤ xs.getD 0 0∧xs.getD 0 0 ≤ aa (ws.getD 0 0) := fun h => aE hin (by omega)
 have a1 : 1 < ws.length → 0 ≤ xs.getD 1 0∧xs.getD 1 0 ≤ aa (ws.getD 1 0) := fun h => aE hin (by omega)
 have a2 : 2 < ws.length → 0 ≤ xs.getD 2 0∧xs.getD 2 0 ≤ aa (ws.getD 2 0) := fun h => aE hin (by omega)
 have m0 : 0 < ws.length → 0 ≤ aa (ws.getD 0 0)∧aa (ws.getD 0 0) ≤ 255 := fun h => ah (by have := f0 h; omega) (f0 h).2
 have m1 : 1 < ws.length → 0 ≤ aa (ws.getD 1 0)∧aa (ws.getD 1 0) ≤ 255 := fun h => ah (by have := f1 h; omega) (f1 h).2
 have m2 : 2 < ws.length → 0 ≤ aa (ws.getD 2 0)∧aa (ws.getD 2 0) ≤ 255 := fun h => ah (by have := f2 h; omega) (f2 h).2
 have b0 := f0 (by omega); have c0 := a0 (by omega); have d0 := m0 (by omega)
 have hw := bM.1 hk.2.2
 refine ai.vc (V := TT 4 (IX 0 xs.length∧TT 3 ((0 ≤ k∧(Int.fdiv (xs.getD 0 0) (2 ^ min k.toNat 64)) = (xs.getD 0 0 / 2 ^ k.toNat))∧TT 2 (CC (gf w)∧(True∧(IntKind.wrap .i64 (BitVec.ofInt (IntKind.i64).bits (xs.getD 0 0 / 2 ^ k.toNat) &&& BitVec.ofInt (IntKind.i64).bits (aa w)).toNat) = ((xs.getD 0 0 / 2 ^ k.toNat) % 2 ^ w.toNat))∧TT 2 (((xs.getD 0 0 / 2 ^ k.toNat) % 2 ^ w.toNat) = (ft 12 ws xs k w)∧True))))) (.w 1 [(6,.val (i6 (xs.getD 0 0 / 2 ^ k.toNat))),(9,(gf w).O),(10,.val (i6 ((xs.getD 0 0 / 2 ^ k.toNat) % 2 ^ w.toNat)))] <| .e) Try.func59 rfl rfl rfl (by kernel_rfl) ?_
 refine tt ⟨ix,tt ⟨⟨om,(qa hk.1 (by omega))⟩,tt ⟨(bw w),⟨⟨oK,(by rw [cy (by omega) (by omega)]; exact eM (by omega))⟩,tt ⟨?_,oK⟩⟩⟩⟩⟩
 rfl
end Go.Proofs.Ytaghhicmnalmmaa
