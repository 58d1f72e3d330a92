/-
  Package bits: the values of operations.
-/
import Derived.Test.YtckgpflobhpnpaaQVbA
namespace Go.Proofs.Ytckgpflobhpnpaa
open Go.RowKit
set_option linter.unusedVariables false
set_option linter.unusedSimpArgs false
abbrev iO (ws xs : List Int) (k w : Int) : List D := [(.agg [(LI ws),(LI xs),(i6 k),(i6 w)])]
set_option maxRecDepth 100000
structure Bj (ws xs : List Int) (n : Nat) : Prop where
  hl : ws.length = n
  hf : ws.all aw = true
  hx : xs.length = ws.length
  hin : Bf ws xs = true
abbrev GH (ws xs : List Int) (k w : Int) : Ct := ⟨86,(iO ws xs k w),false,(i6 (ak (ws.getD 0 0)))⟩
theorem sT (ws xs : List Int) (k w : Int) (hl : 0 < ws.length) : CC (GH ws xs k w) := by
 refine ai.vc (V := TT 4 (IX 0 ws.length∧TT 1 (CC (EX (ws.getD 0 0))∧TT 2 ((ak (ws.getD 0 0)) = (ak (ws.getD 0 0))∧True)))) (.w 1 [(4,(EX (ws.getD 0 0)).O)] <| .e) Try.func86 rfl rfl rfl (by kernel_rfl) ?_
 exact tt ⟨ix,tt ⟨(rJ (ws.getD 0 0)),tt ⟨rfl,oK⟩⟩⟩
abbrev Kg (ws xs : List Int) (k w : Int) : Ct := ⟨85,(iO ws xs k w),false,(i6 (mU 2 ws xs k w))⟩
theorem GI (ws xs : List Int) (k w : Int) (ho : Bj ws xs 1) : CC (Kg ws xs k w) := by
 obtain ⟨hl,hf,hx,hin⟩ := ho
 have f0 : 0 < ws.length → 1 ≤ ws.getD 0 0∧ws.getD 0 0 ≤ 8 := fun h => av hf h
 have f1 : 1 < ws.length → 1 ≤ ws.getD 1 0∧ws.getD 1 0 ≤ 8 := fun h => av hf h
 have f2 : 2 < ws.length → 1 ≤ ws.getD 2 0∧ws.getD 2 0 ≤ 8 := fun h => av hf h
 have a0 : 0 < ws.length → 0 ≤ xs.getD 0 0∧xs.getD 0 0 ≤ ak (ws.getD 0 0) := fun h => aY hin (by omega)
 have a1 : 1 < ws.length → 0 ≤ xs.getD 1 0∧xs.getD 1 0 ≤ ak (ws.getD 1 0) := fun h => aY hin (by omega)
 have a2 : 2 < ws.length → 0 ≤ xs.getD 2 0∧xs.getD 2 0 ≤ ak (ws.getD 2 0) := fun h => aY hin (by omega)
 have m0 : 0 < ws.length → 0 ≤ ak (ws.getD 0 0)∧ak (ws.getD 0 0) ≤ 255 := fun h => ap (by have := f0 h; omega) (f0 h).2
 have m1 : 1 < ws.length → 0 ≤ ak (ws.getD 1 0)∧ak (ws.getD 1 0) ≤ 255 := fun h => ap (by have := f1 h; omega) (f1 h).2
 have m2 : 2 < ws.length → 0 ≤ ak (ws.getD 2 0)∧ak (ws.getD 2 0) ≤ 255 := fun h => ap (by have := f2 h; omega) (f2 h).2
 have b0 := f0 (by omega); have c0 := a0 (by omega); have d0 := m0 (by omega)
 refine ai.vc (V := TT 4 (IX 0 xs.length∧TT 2 (CC (GH ws xs k w)∧(True∧(IntKind.wrap .i64 (BitVec.ofInt (IntKind.i64).bits (xs.getD 0 0) ^^^ BitVec.ofInt (IntKind.i64).bits (ak (ws.getD 0 0))).toNat) = (((xs.getD 0 0).toNat ^^^ (ak (ws.getD 0 0)).toNat : Nat) : Int))∧TT 2 ((((xs.getD 0 0).toNat ^^^ (ak (ws.getD 0 0)).toNat : Nat) : Int) = (mU 2 ws xs k w)∧True)))) (.w 1 [(5,(GH ws xs k w).O),(6,.val (i6 (((xs.getD 0 0).toNat ^^^ (ak (ws.getD 0 0)).toNat : Nat) : Int)))] <| .e) Try.func85 rfl rfl rfl (by kernel_rfl) ?_
 refine tt ⟨ix,tt ⟨(sT ws xs k w om),⟨⟨oK,(uD (by omega) (by omega) (by omega) (by omega))⟩,tt ⟨?_,oK⟩⟩⟩⟩
 rfl
abbrev Kh (ws xs : List Int) (k w : Int) : Ct := ⟨88,(iO ws xs k w),false,(i6 (mU 3 ws xs k w))⟩
theorem GJ (ws xs : List Int) (k w : Int) (ho : Bj ws xs 2) : CC (Kh ws xs k w) := by
 obtain ⟨hl,hf,hx,hin⟩ := ho
 have f0 : 0 < ws.length → 1 ≤ ws.getD 0 0∧ws.getD 0 0 ≤ 8 := fun h => av hf h
 have f1 : 1 < ws.length → 1 ≤ ws.getD 1 0∧ws.getD 1 0 ≤ 8 := fun h => av hf h
 have f2 : 2 < ws.length → 1 ≤ ws.getD 2 0∧ws.getD 2 0 ≤ 8 := fun h => av hf h
 have a0 : 0 < ws.length → 0 ≤ xs.getD 0 0∧xs.getD 0 0 ≤ ak (ws.getD 0 0) := fun h => aY hin (by omega)
 have a1 : 1 < ws.length → 0 ≤ xs.getD 1 0∧xs.getD 1 0 ≤ ak (ws.getD 1 0) := fun h => aY hin (by omega)
 have a2 : 2 < ws.length → 0 ≤ xs.getD 2 0∧xs.getD 2 0 ≤ ak (ws.getD 2 0) := fun h => aY hin (by omega)
 have m0 : 0 < ws.length → 0 ≤ ak (ws.getD 0 0)∧ak (ws.getD 0 0) ≤ 255 := fun h => ap (by have := f0 h; omega) (f0 h).2
 have m1 : 1 < ws.length → 0 ≤ ak (ws.getD 1 0)∧ak (ws.getD 1 0) ≤ 255 := fun h => ap (by have := f1 h; omega) (f1 h).2
 have m2 : 2 < ws.length → 0 ≤ ak (ws.getD 2 0)∧ak (ws.getD 2 0) ≤ 255 := fun h => ap (by have := f2 h; omega) (f2 h).2
 have b0 := f0 (by omega); have c0 := a0 (by omega); have d0 := m0 (by omega)
 have b1 := f1 (by omega); have c1 := a1 (by omega); have d1 := m1 (by omega)
 refine ai.vc (V := TT 4 (IX 0 xs.length∧TT 3 (IX 1 xs.length∧TT 1 ((True∧(IntKind.wrap .i64 (BitVec.ofInt (IntKind.i64).bits (xs.getD 0 0) &&& BitVec.ofInt (IntKind.i64).bits (xs.getD 1 0)).toNat) = (((xs.getD 0 0).toNat &&& (xs.getD 1 0).toNat : Nat) : Int))∧TT 2 ((((xs.getD 0 0).toNat &&& (xs.getD 1 0).toNat : Nat) : Int) = (mU 3 ws xs k w)∧True))))) (.w 1 [(8,.val (i6 (((xs.getD 0 0).toNat &&& (xs.getD 1 0).toNat : Nat) : Int)))] <| .e) Try.func88 rfl rfl rfl (by kernel_rfl) ?_
 refine tt ⟨ix,tt ⟨ix,tt ⟨⟨oK,(Bg (by omega) (by omega) (by omega) (by omega))⟩,tt ⟨?_,oK⟩⟩⟩⟩
 rfl
abbrev Ki (ws xs : List Int) (k w : Int) : Ct := ⟨89,(iO ws xs k w),false,(i6 (mU 4 ws xs k w))⟩
theorem Ie (ws xs : List Int) (k w : Int) (ho : Bj ws xs 2) : CC (Ki ws xs k w) := by
 obtain ⟨hl,hf,hx,hin⟩ := ho
 have f0 : 0 < ws.length → 1 ≤ ws.getD 0 0∧ws.getD 0 0 ≤ 8 := fun h => av hf h
 have f1 : 1 < ws.length → 1 ≤ ws.getD 1 0∧ws.getD 1 0 ≤ 8 := fun h => av hf h
 have f2 : 2 < ws.length → 1 ≤ ws.getD 2 0∧ws.getD 2 0 ≤ 8 := fun h => av hf h
 have a0 : 0 < ws.length → 0 ≤ xs.getD 0 0∧xs.getD 0 0 ≤ ak (ws.getD 0 0) := fun h => aY hin (by omega)
 have a1 : 1 < ws.length → 0 ≤ xs.getD 1 0∧xs.getD 1 0 ≤ ak (ws.getD 1 0) := fun h => aY hin (by omega)
 have a2 : 2 < ws.length → 0 ≤ xs.getD 2 0∧xs.getD 2 0 ≤ ak (ws.getD 2 0) := fun h => aY hin (by omega)
 have m0 : 0 < ws.length → 0 ≤ ak (ws.getD 0 0)∧ak (ws.getD 0 0) ≤ 255 := fun h => ap (by have := f0 h; omega) (f0 h).2
 have m1 : 1 < ws.length → 0 ≤ ak (ws.getD 1 0)∧ak (ws.getD 1 0) ≤ 255 := fun h => ap (by have := f1 h; omega) (f1 h).2
 have m2 : 2 < ws.length → 0 ≤ ak (ws.getD 2 0)∧ak (ws.getD 2 0) ≤ 255 := fun h => ap (by have := f2 h; omega) (f2 h).2
 have b0 := f0 (by omega); have c0 := a0 (by omega); have d0 := m0 (by omega)
 have b1 := f1 (by omega); have c1 := a1 (by omega); have d1 := m1 (by omega)
 refine ai.vc (V := TT 4 (IX 0 xs.length∧TT 3 (IX 1 xs.length∧TT 1 ((True∧(IntKind.wrap .i64 (BitVec.ofInt (IntKind.i64).bits (xs.getD 0 0) ||| BitVec.ofInt (IntKind.i64).bits (xs.getD 1 0)).toNat) = (((xs.getD 0 0).toNat ||| (xs.getD 1 0).toNat : Nat) : Int))∧TT 2 ((((xs.getD 0 0).toNat ||| (xs.getD 1 0).toNat : Nat) : Int) = (mU 4 ws xs k w)∧True))))) (.w 1 [(8,.val (i6 (((xs.getD 0 0).toNat ||| (xs.getD 1 0).toNat : Nat) : Int)))] <| .e) Try.func89 rfl rfl rfl (by kernel_rfl) ?_
 refine tt ⟨ix,tt ⟨ix,tt ⟨⟨oK,(CP (by omega) (by omega) (by omega) (by omega))⟩,tt ⟨?_,oK⟩⟩⟩⟩
 rfl
abbrev Kj (ws xs : List Int) (k w : Int) : Ct := ⟨90,(iO ws xs k w),false,(i6 (mU 5 ws xs k w))⟩
theorem GK (ws xs : List Int) (k w : Int) (ho : Bj ws xs 2) : CC (Kj ws xs k w) := by
 obtain ⟨hl,hf,hx,hin⟩ := ho
 have f0 : 0 < ws.length → 1 ≤ ws.getD 0 0∧ws.getD 0 0 ≤ 8 := fun h => av hf h
 have f1 : 1 < ws.length → 1 ≤ ws.getD 1 0∧ws.getD 1 0 ≤ 8 := fun h => av hf h
 have f2 : 2 < ws.length → 1 ≤ ws.getD 2 0∧ws.getD 2 0 ≤ 8 := fun h => av hf h
 have a0 : 0 < ws.length → 0 ≤ xs.getD 0 0∧xs.getD 0 0 ≤ ak (ws.getD 0 0) := fun h => aY hin (by omega)
 have a1 : 1 < ws.length → 0 ≤ xs.getD 1 0∧xs.getD 1 0 ≤ ak (ws.getD 1 0) := fun h => aY hin (by omega)
 have a2 : 2 < ws.length → 0 ≤ xs.getD 2 0∧xs.getD 2 0 ≤ ak (ws.getD 2 0) := fun h => aY hin (by omega)
 have m0 : 0 < ws.length → 0 ≤ ak (ws.getD 0 0)∧ak (ws.getD 0 0) ≤ 255 := fun h => ap (by have := f0 h; omega) (f0 h).2
 have m1 : 1 < ws.length → 0 ≤ ak (ws.getD 1 0)∧ak (ws.getD 1 0) ≤ 255 := fun h => ap (by have := f1 h; omega) (f1 h).2
 have m2 : 2 < ws.length → 0 ≤ ak (ws.getD 2 0)∧ak (ws.getD 2 0) ≤ 255 := fun h => ap (by have := f2 h; omega) (f2 h).2
 have b0 := f0 (by omega); have c0 := a0 (by omega); have d0 := m0 (by omega)
 have b1 := f1 (by omega); have c1 := a1 (by omega); have d1 := m1 (by omega)
 refine ai.vc (V := TT 4 (IX 0 xs.length∧TT 3 (IX 1 xs.length∧TT 1 ((True∧(IntKind.wrap .i64 (BitVec.ofInt (IntKind.i64).bits (xs.getD 0 0) ^^^ BitVec.ofInt (IntKind.i64).bits (xs.getD 1 0)).toNat) = (((xs.getD 0 0).toNat ^^^ (xs.getD 1 0).toNat : Nat) : Int))∧TT 2 ((((xs.getD 0 0).toNat ^^^ (xs.getD 1 0).toNat : Nat) : Int) = (mU 5 ws xs k w)∧True))))) (.w 1 [(8,.val (i6 (((xs.getD 0 0).toNat ^^^ (xs.getD 1 0).toNat : Nat) : Int)))] <| .e) Try.func90 rfl rfl rfl (by kernel_rfl) ?_
 refine tt ⟨ix,tt ⟨ix,tt ⟨⟨oK,(uD (by omega) (by omega) (by omega) (by omega))⟩,tt ⟨?_,oK⟩⟩⟩⟩
 rfl
abbrev Kk (ws xs : List Int) (k w : Int) : Ct := ⟨91,(iO ws xs k w),false,(i6 (mU 6 ws xs k w))⟩
theorem GL (ws xs : List Int) (k w : Int) (ho : Bj ws xs 2) : CC (Kk ws xs k w) := by
 obtain ⟨hl,hf,hx,hin⟩ := ho
 have f0 : 0 < ws.length → 1 ≤ ws.getD 0 0∧ws.getD 0 0 ≤ 8 := fun h => av hf h
 have f1 : 1 < ws.length → 1 ≤ ws.getD 1 0∧ws.getD 1 0 ≤ 8 := fun h => av hf h
 have f2 : 2 < ws.length → 1 ≤ ws.getD 2 0∧ws.getD 2 0 ≤ 8 := fun h => av hf h
 have a0 : 0 < ws.length → 0 ≤ xs.getD 0 0∧xs.getD 0 0 ≤ ak (ws.getD 0 0) := fun h => aY hin (by omega)
 have a1 : 1 < ws.length → 0 ≤ xs.getD 1 0∧xs.getD 1 0 ≤ ak (ws.getD 1 0) := fun h => aY hin (by omega)
 have a2 : 2 < ws.length → 0 ≤ xs.getD 2 0∧xs.getD 2 0 ≤ ak (ws.getD 2 0) := fun h => aY hin (by omega)
 have m0 : 0 < ws.length → 0 ≤ ak (ws.getD 0 0)∧ak (ws.getD 0 0) ≤ 255 := fun h => ap (by have := f0 h; omega) (f0 h).2
 have m1 : 1 < ws.length → 0 ≤ ak (ws.getD 1 0)∧ak (ws.getD 1 0) ≤ 255 := fun h => ap (by have := f1 h; omega) (f1 h).2
 have m2 : 2 < ws.length → 0 ≤ ak (ws.getD 2 0)∧ak (ws.getD 2 0) ≤ 255 := fun h => ap (by have := f2 h; omega) (f2 h).2
 have b0 := f0 (by omega); have c0 := a0 (by omega); have d0 := m0 (by omega)
 have b1 := f1 (by omega); have c1 := a1 (by omega); have d1 := m1 (by omega)
 refine ai.vc (V := TT 4 (IX 0 xs.length∧TT 3 (IX 1 xs.length∧TT 1 (W6 ((xs.getD 0 0) + (xs.getD 1 0))∧TT 1 (CC (GH ws xs k w)∧(True∧(IntKind.wrap .i64 (BitVec.ofInt (IntKind.i64).bits ((xs.getD 0 0) + (xs.getD 1 0)) &&& BitVec.ofInt (IntKind.i64).bits (ak (ws.getD 0 0))).toNat) = ((xs.getD 0 0 + xs.getD 1 0) % 2 ^ (ws.getD 0 0).toNat))∧TT 2 (((xs.getD 0 0 + xs.getD 1 0) % 2 ^ (ws.getD 0 0).toNat) = (mU 6 ws xs k w)∧True)))))) (.w 1 [(8,.val (i6 ((xs.getD 0 0) + (xs.getD 1 0)))),(10,(GH ws xs k w).O),(11,.val (i6 ((xs.getD 0 0 + xs.getD 1 0) % 2 ^ (ws.getD 0 0).toNat)))] <| .e) Try.func91 rfl rfl rfl (by kernel_rfl) ?_
 refine tt ⟨ix,tt ⟨ix,tt ⟨w6,tt ⟨(sT ws xs k w om),⟨⟨oK,(by rw [fY (by omega) (by omega)]; exact sS (by omega))⟩,tt ⟨?_,oK⟩⟩⟩⟩⟩⟩
 rfl
abbrev Kl (ws xs : List Int) (k w : Int) : Ct := ⟨92,(iO ws xs k w),false,(i6 (mU 7 ws xs k w))⟩
theorem GM (ws xs : List Int) (k w : Int) (ho : Bj ws xs 2) : CC (Kl ws xs k w) := by
 obtain ⟨hl,hf,hx,hin⟩ := ho
 have f0 : 0 < ws.length → 1 ≤ ws.getD 0 0∧ws.getD 0 0 ≤ 8 := fun h => av hf h
 have f1 : 1 < ws.length → 1 ≤ ws.getD 1 0∧ws.getD 1 0 ≤ 8 := fun h => av hf h
 have f2 : 2 < ws.length → 1 ≤ ws.getD 2 0∧ws.getD 2 0 ≤ 8 := fun h => av hf h
 have a0 : 0 < ws.length → 0 ≤ xs.getD 0 0∧xs.getD 0 0 ≤ ak (ws.getD 0 0) := fun h => aY hin (by omega)
 have a1 : 1 < ws.length → 0 ≤ xs.getD 1 0∧xs.getD 1 0 ≤ ak (ws.getD 1 0) := fun h => aY hin (by omega)
 have a2 : 2 < ws.length → 0 ≤ xs.getD 2 0∧xs.getD 2 0 ≤ ak (ws.getD 2 0) := fun h => aY hin (by omega)
 have m0 : 0 < ws.length → 0 ≤ ak (ws.getD 0 0)∧ak (ws.getD 0 0) ≤ 255 := fun h => ap (by have := f0 h; omega) (f0 h).2
 have m1 : 1 < ws.length → 0 ≤ ak (ws.getD 1 0)∧ak (ws.getD 1 0) ≤ 255 := fun h => ap (by have := f1 h; omega) (f1 h).2
 have m2 : 2 < ws.length → 0 ≤ ak (ws.getD 2 0)∧ak (ws.getD 2 0) ≤ 255 := fun h => ap (by have := f2 h; omega) (f2 h).2
 have b0 := f0 (by omega); have c0 := a0 (by omega); have d0 := m0 (by omega)
 have b1 := f1 (by omega); have c1 := a1 (by omega); have d1 := m1 (by omega)
 refine ai.vc (V := TT 4 (IX 0 xs.length∧TT 3 (IX 1 xs.length∧TT 1 (W6 ((xs.getD 0 0) - (xs.getD 1 0))∧TT 1 (CC (GH ws xs k w)∧(True∧(IntKind.wrap .i64 (BitVec.ofInt (IntKind.i64).bits ((xs.getD 0 0) - (xs.getD 1 0)) &&& BitVec.ofInt (IntKind.i64).bits (ak (ws.getD 0 0))).toNat) = ((xs.getD 0 0 - xs.getD 1 0) % 2 ^ (ws.getD 0 0).toNat))∧TT 2 (((xs.getD 0 0 - xs.getD 1 0) % 2 ^ (ws.getD 0 0).toNat) = (mU 7 ws xs k w)∧True)))))) (.w 1 [(8,.val (i6 ((xs.getD 0 0) - (xs.getD 1 0)))),(10,(GH ws xs k w).O),(11,.val (i6 ((xs.getD 0 0 - xs.getD 1 0) % 2 ^ (ws.getD 0 0).toNat)))] <| .e) Try.func92 rfl rfl rfl (by kernel_rfl) ?_
 refine tt ⟨ix,tt ⟨ix,tt ⟨w6,tt ⟨(sT ws xs k w om),⟨⟨oK,(by rw [fY (by omega) (by omega)]; exact sS (by omega))⟩,tt ⟨?_,oK⟩⟩⟩⟩⟩⟩
 rfl
abbrev Km (ws xs : List Int) (k w : Int) : Ct := ⟨94,(iO ws xs k w),false,(i6 (mU 8 ws xs k w))⟩
theorem Ig (ws xs : List Int) (k w : Int) (ho : Bj ws xs 2) : CC (Km ws xs k w) := by
 obtain ⟨hl,hf,hx,hin⟩ := ho
 have f0 : 0 < ws.length → 1 ≤ ws.getD 0 0∧ws.getD 0 0 ≤ 8 := fun h => av hf h
 have f1 : 1 < ws.length → 1 ≤ ws.getD 1 0∧ws.getD 1 0 ≤ 8 := fun h => av hf h
 have f2 : 2 < ws.length → 1 ≤ ws.getD 2 0∧ws.getD 2 0 ≤ 8 := fun h => av hf h
 have a0 : 0 < ws.length → 0 ≤ xs.getD 0 0∧xs.getD 0 0 ≤ ak (ws.getD 0 0) := fun h => aY hin (by omega)
 have a1 : 1 < ws.length → 0 ≤ xs.getD 1 0∧xs.getD 1 0 ≤ ak (ws.getD 1 0) := fun h => aY hin (by omega)
 have a2 : 2 < ws.length → 0 ≤ xs.getD 2 0∧xs.getD 2 0 ≤ ak (ws.getD 2 0) := fun h => aY hin (by omega)
 have m0 : 0 < ws.length → 0 ≤ ak (ws.getD 0 0)∧ak (ws.getD 0 0) ≤ 255 := fun h => ap (by have := f0 h; omega) (f0 h).2
 have m1 : 1 < ws.length → 0 ≤ ak (ws.getD 1 0)∧ak (ws.getD 1 0) ≤ 255 := fun h => ap (by have := f1 h; omega) (f1 h).2
 have m2 : 2 < ws.length → 0 ≤ ak (ws.getD 2 0)∧ak (ws.getD 2 0) ≤ 255 := fun h => ap (by have := f2 h; omega) (f2 h).2
 have b0 := f0 (by omega); have c0 := a0 (by omega); have d0 := m0 (by omega)
 have b1 := f1 (by omega); have c1 := a1 (by omega); have d1 := m1 (by omega)
 refine ai.vc (V := TT 4 (IX 0 xs.length∧TT 3 (IX 1 xs.length∧TT 2 (CC (Ic ((xs.getD 0 0) == (xs.getD 1 0)))∧TT 2 ((if ((xs.getD 0 0) == (xs.getD 1 0)) = true then 1 else 0) = (mU 8 ws xs k w)∧True))))) (.w 1 [(9,(Ic ((xs.getD 0 0) == (xs.getD 1 0))).O)] <| .e) Try.func94 rfl rfl rfl (by kernel_rfl) ?_
 refine tt ⟨ix,tt ⟨ix,tt ⟨(CT ((xs.getD 0 0) == (xs.getD 1 0))),tt ⟨?_,oK⟩⟩⟩⟩
 show _ = (if xs.getD 0 0 = xs.getD 1 0 then (1 : Int) else 0)
 by_cases h : xs.getD 0 0 = xs.getD 1 0
 · rw [if_pos h,if_pos (by simpa using h)]
 · rw [if_neg h,if_neg (by simpa using h)]
abbrev Kn (ws xs : List Int) (k w : Int) : Ct := ⟨96,(iO ws xs k w),false,(i6 (mU 9 ws xs k w))⟩
theorem Ih (ws xs : List Int) (k w : Int) (ho : Bj ws xs 2) : CC (Kn ws xs k w) := by
 obtain ⟨hl,hf,hx,hin⟩ := ho
 have f0 : 0 < ws.length → 1 ≤ ws.getD 0 0∧ws.getD 0 0 ≤ 8 := fun h => av hf h
 have f1 : 1 < ws.length → 1 ≤ ws.getD 1 0∧ws.getD 1 0 ≤ 8 := fun h => av hf h
 have f2 : 2 < ws.length → 1 ≤ ws.getD 2 0∧ws.getD 2 0 ≤ 8 := fun h => av hf h
 have a0 : 0 < ws.length → 0 ≤ xs.getD 0 0∧xs.getD 0 0 ≤ ak (ws.getD 0 0) := fun h => aY hin (by omega)
 have a1 : 1 < ws.length → 0 ≤ xs.getD 1 0∧xs.getD 1 0 ≤ ak (ws.getD 1 0) := fun h => aY hin (by omega)
 have a2 : 2 < ws.length → 0 ≤ xs.getD 2 0∧xs.getD 2 0 ≤ ak (ws.getD 2 0) := fun h => aY hin (by omega)
 have m0 : 0 < ws.length → 0 ≤ ak (ws.getD 0 0)∧ak (ws.getD 0 0) ≤ 255 := fun h => ap (by have := f0 h; omega) (f0 h).2
 have m1 : 1 < ws.length → 0 ≤ ak (ws.getD 1 0)∧ak (ws.getD 1 0) ≤ 255 := fun h => ap (by have := f1 h; omega) (f1 h).2
 have m2 : 2 < ws.length → 0 ≤ ak (ws.getD 2 0)∧ak (ws.getD 2 0) ≤ 255 := fun h => ap (by have := f2 h; omega) (f2 h).2
 have b0 := f0 (by omega); have c0 := a0 (by omega); have d0 := m0 (by omega)
 have b1 := f1 (by omega); have c1 := a1 (by omega); have d1 := m1 (by omega)
 refine ai.vc (V := TT 4 (IX 0 xs.length∧TT 3 (IX 1 xs.length∧TT 2 (CC (Ic (decide ((xs.getD 0 0) < (xs.getD 1 0))))∧TT 2 ((if (decide ((xs.getD 0 0) < (xs.getD 1 0))) = true then 1 else 0) = (mU 9 ws xs k w)∧True))))) (.w 1 [(9,(Ic (decide ((xs.getD 0 0) < (xs.getD 1 0)))).O)] <| .e) Try.func96 rfl rfl rfl (by kernel_rfl) ?_
 refine tt ⟨ix,tt ⟨ix,tt ⟨(CT (decide ((xs.getD 0 0) < (xs.getD 1 0)))),tt ⟨?_,oK⟩⟩⟩⟩
 show _ = (if xs.getD 0 0 < xs.getD 1 0 then (1 : Int) else 0)
 by_cases h : xs.getD 0 0 < xs.getD 1 0
 · rw [if_pos h,if_pos (by simpa using h)]
 · rw [if_neg h,if_neg (by simpa using h)]
abbrev Ko (ws xs : List Int) (k w : Int) : Ct := ⟨98,(iO ws xs k w),false,(i6 (mU 1 ws xs k w))⟩
theorem CY (ws xs : List Int) (k w : Int) (ho : Bj ws xs 0) : CC (Ko ws xs k w) := by
 obtain ⟨hl,hf,hx,hin⟩ := ho
 have f0 : 0 < ws.length → 1 ≤ ws.getD 0 0∧ws.getD 0 0 ≤ 8 := fun h => av hf h
 have f1 : 1 < ws.length → 1 ≤ ws.getD 1 0∧ws.getD 1 0 ≤ 8 := fun h => av hf h
 have f2 : 2 < ws.length → 1 ≤ ws.getD 2 0∧ws.getD 2 0 ≤ 8 := fun h => av hf h
 have a0 : 0 < ws.length → 0 ≤ xs.getD 0 0∧xs.getD 0 0 ≤ ak (ws.getD 0 0) := fun h => aY hin (by omega)
 have a1 : 1 < ws.length → 0 ≤ xs.getD 1 0∧xs.getD 1 0 ≤ ak (ws.getD 1 0) := fun h => aY hin (by omega)
 have a2 : 2 < ws.length → 0 ≤ xs.getD 2 0∧xs.getD 2 0 ≤ ak (ws.getD 2 0) := fun h => aY hin (by omega)
 have m0 : 0 < ws.length → 0 ≤ ak (ws.getD 0 0)∧ak (ws.getD 0 0) ≤ 255 := fun h => ap (by have := f0 h; omega) (f0 h).2
 have m1 : 1 < ws.length → 0 ≤ ak (ws.getD 1 0)∧ak (ws.getD 1 0) ≤ 255 := fun h => ap (by have := f1 h; omega) (f1 h).2
 have m2 : 2 < ws.length → 0 ≤ ak (ws.getD 2 0)∧ak (ws.getD 2 0) ≤ 255 := fun h => ap (by have := f2 h; omega) (f2 h).2
 refine ai.vc (V := TT 6 (k = (mU 1 ws xs k w)∧True)) (.e) Try.func98 rfl rfl rfl (by kernel_rfl) ?_
 refine tt ⟨?_,oK⟩
 rfl
abbrev Jg (ws xs : List Int) (k w : Int) : Ct := ⟨106,(iO ws xs k w),false,(i6 (mU 13 ws xs k w))⟩
theorem GN (ws xs : List Int) (k w : Int) (ho : Bj ws xs 1) : CC (Jg ws xs k w) := by
 obtain ⟨hl,hf,hx,hin⟩ := ho
 have f0 : 0 < ws.length → 1 ≤ ws.getD 0 0∧ws.getD 0 0 ≤ 8 := fun h => av hf h
 have f1 : 1 < ws.length → 1 ≤ ws.getD 1 0∧ws.getD 1 0 ≤ 8 := fun h => av hf h
 have f2 : 2 < ws.length → 1 ≤ ws.getD 2 0∧ws.getD 2 0 ≤ 8 := fun h => av hf h
 have a0 : 0 < ws.length → 0 ≤ xs.getD 0 0∧xs.getD 0 0 ≤ ak (ws.getD 0 0) := fun h => aY hin (by omega)
 have a1 : 1 < ws.length → 0 ≤ xs.getD 1 0∧xs.getD 1 0 ≤ ak (ws.getD 1 0) := fun h => aY hin (by omega)
 have a2 : 2 < ws.length → 0 ≤ xs.getD 2 0∧xs.getD 2 0 ≤ ak (ws.getD 2 0) := fun h => aY hin (by omega)
 have m0 : 0 < ws.length → 0 ≤ ak (ws.getD 0 0)∧ak (ws.getD 0 0) ≤ 255 := fun h => ap (by have := f0 h; omega) (f0 h).2
 have m1 : 1 < ws.length → 0 ≤ ak (ws.getD 1 0)∧ak (ws.getD 1 0) ≤ 255 := fun h => ap (by have := f1 h; omega) (f1 h).2
 have m2 : 2 < ws.length → 0 ≤ ak (ws.getD 2 0)∧ak (ws.getD 2 0) ≤ 255 := fun h => ap (by have := f2 h; omega) (f2 h).2
 have b0 := f0 (by omega); have c0 := a0 (by omega); have d0 := m0 (by omega)
 refine ai.vc (V := TT 4 (IX 0 xs.length∧TT 3 ((xs.getD 0 0) = (mU 13 ws xs k w)∧True))) (.e) Try.func106 rfl rfl rfl (by kernel_rfl) ?_
 refine tt ⟨ix,tt ⟨?_,oK⟩⟩
 rfl
abbrev Jh (ws xs : List Int) (k w : Int) : Ct := ⟨100,(iO ws xs k w),false,(i6 (mU 10 ws xs k w))⟩
theorem GP (ws xs : List Int) (k w : Int) (ho : Bj ws xs 3) (h1 : ws.getD 0 0 = 1) : CC (Jh ws xs k w) := by
 obtain ⟨hl,hf,hx,hin⟩ := ho
 have f0 : 0 < ws.length → 1 ≤ ws.getD 0 0∧ws.getD 0 0 ≤ 8 := fun h => av hf h
 have f1 : 1 < ws.length → 1 ≤ ws.getD 1 0∧ws.getD 1 0 ≤ 8 := fun h => av hf h
 have f2 : 2 < ws.length → 1 ≤ ws.getD 2 0∧ws.getD 2 0 ≤ 8 := fun h => av hf h
 have a0 : 0 < ws.length → 0 ≤ xs.getD 0 0∧xs.getD 0 0 ≤ ak (ws.getD 0 0) := fun h => aY hin (by omega)
 have a1 : 1 < ws.length → 0 ≤ xs.getD 1 0∧xs.getD 1 0 ≤ ak (ws.getD 1 0) := fun h => aY hin (by omega)
 have a2 : 2 < ws.length → 0 ≤ xs.getD 2 0∧xs.getD 2 0 ≤ ak (ws.getD 2 0) := fun h => aY hin (by omega)
 have m0 : 0 < ws.length → 0 ≤ ak (ws.getD 0 0)∧ak (ws.getD 0 0) ≤ 255 := fun h => ap (by have := f0 h; omega) (f0 h).2
 have m1 : 1 < ws.length → 0 ≤ ak (ws.getD 1 0)∧ak (ws.getD 1 0) ≤ 255 := fun h => ap (by have := f1 h; omega) (f1 h).2
 have m2 : 2 < ws.length → 0 ≤ ak (ws.getD 2 0)∧ak (ws.getD 2 0) ≤ 255 := fun h => ap (by have := f2 h; omega) (f2 h).2
 have b0 := f0 (by omega); have c0 := a0 (by omega); have d0 := m0 (by omega)
 have b1 := f1 (by omega); have c1 := a1 (by omega); have d1 := m1 (by omega)
 have b2 := f2 (by omega); have c2 := a2 (by omega); have d2 := m2 (by omega)
 have hm1 : ak (ws.getD 0 0) = 1 := by rw [h1]; decide
 have hx0 : xs.getD 0 0 = 0 ∨ xs.getD 0 0 = 1 := by omega
 refine ai.vc (V := TT 6 (IX 0 xs.length∧TT 1 (W6 (2 - (xs.getD 0 0))∧IX (2 - (xs.getD 0 0)) xs.length∧TT 3 ((xs.getD ((2 - (xs.getD 0 0)).toNat) 0) = (mU 10 ws xs k w)∧True)))) (.w 1 [(6,.val (i6 (2 - (xs.getD 0 0))))] <| .e) Try.func100 rfl rfl rfl (by kernel_rfl) ?_
 refine tt ⟨ix,tt ⟨w6,⟨ix,tt ⟨?_,oK⟩⟩⟩⟩
 rfl
abbrev Ji (ws xs : List Int) (k w : Int) : Ct := ⟨102,(iO ws xs k w),false,(i6 (mU 11 ws xs k w))⟩
theorem GQ (ws xs : List Int) (k w : Int) (ho : Bj ws xs 2) : CC (Ji ws xs k w) := by
 obtain ⟨hl,hf,hx,hin⟩ := ho
 have f0 : 0 < ws.length → 1 ≤ ws.getD 0 0∧ws.getD 0 0 ≤ 8 := fun h => av hf h
 have f1 : 1 < ws.length → 1 ≤ ws.getD 1 0∧ws.getD 1 0 ≤ 8 := fun h => av hf h
 have f2 : 2 < ws.length → 1 ≤ ws.getD 2 0∧ws.getD 2 0 ≤ 8 := fun h => av hf h
 have a0 : 0 < ws.length → 0 ≤ xs.getD 0 0∧xs.getD 0 0 ≤ ak (ws.getD 0 0) := fun h => aY hin (by omega)
 have a1 : 1 < ws.length → 0 ≤ xs.getD 1 0∧xs.getD 1 0 ≤ ak (ws.getD 1 0) := fun h => aY hin (by omega)
 have a2 : 2 < ws.length → 0 ≤ xs.getD 2 0∧xs.getD 2 0 ≤ ak (ws.getD 2 0) := fun h => aY hin (by omega)
 have m0 : 0 < ws.length → 0 ≤ ak (ws.getD 0 0)∧ak (ws.getD 0 0) ≤ 255 := fun h => ap (by have := f0 h; omega) (f0 h).2
 have m1 : 1 < ws.length → 0 ≤ ak (ws.getD 1 0)∧ak (ws.getD 1 0) ≤ 255 := fun h => ap (by have := f1 h; omega) (f1 h).2
 have m2 : 2 < ws.length → 0 ≤ ak (ws.getD 2 0)∧ak (ws.getD 2 0) ≤ 255 := fun h => ap (by have := f2 h; omega) (f2 h).2
 have b0 := f0 (by omega); have c0 := a0 (by omega); have d0 := m0 (by omega)
 have b1 := f1 (by omega); have c1 := a1 (by omega); have d1 := m1 (by omega)
 refine ai.vc (V := TT 4 (IX 0 xs.length∧TT 3 (IX 1 ws.length∧TT 1 ((0 ≤ (ws.getD 1 0)∧(IntKind.wrap .i64 ((xs.getD 0 0) * 2 ^ min ((ws.getD 1 0).toNat) 64)) = (((xs.getD 0 0).toNat * 2 ^ (ws.getD 1 0).toNat : Nat) : Int))∧TT 2 (IX 1 xs.length∧TT 1 ((True∧(IntKind.wrap .i64 (BitVec.ofInt (IntKind.i64).bits (((xs.getD 0 0).toNat * 2 ^ (ws.getD 1 0).toNat : Nat) : Int) ||| BitVec.ofInt (IntKind.i64).bits (xs.getD 1 0)).toNat) = (((xs.getD 0 0).toNat * 2 ^ (ws.getD 1 0).toNat ||| (xs.getD 1 0).toNat : Nat) : Int))∧TT 2 ((((xs.getD 0 0).toNat * 2 ^ (ws.getD 1 0).toNat ||| (xs.getD 1 0).toNat : Nat) : Int) = (mU 11 ws xs k w)∧True))))))) (.w 1 [(8,.val (i6 (((xs.getD 0 0).toNat * 2 ^ (ws.getD 1 0).toNat : Nat) : Int))),(13,.val (i6 (((xs.getD 0 0).toNat * 2 ^ (ws.getD 1 0).toNat ||| (xs.getD 1 0).toNat : Nat) : Int)))] <| .e) Try.func102 rfl rfl rfl (by kernel_rfl) ?_
 refine tt ⟨ix,tt ⟨ix,tt ⟨⟨om,(EU (by omega) (by omega))⟩,tt ⟨ix,tt ⟨⟨oK,(EV (by omega) (by omega) (by omega))⟩,tt ⟨?_,oK⟩⟩⟩⟩⟩⟩
 rfl
abbrev Jj (ws xs : List Int) (k w : Int) : Ct := ⟨104,(iO ws xs k w),false,(i6 (mU 12 ws xs k w))⟩
theorem CZ (ws xs : List Int) (k w : Int) (ho : Bj ws xs 1) (hk : 0 ≤ k∧k ≤ 8∧aw w = true) : CC (Jj ws xs k w) := by
 obtain ⟨hl,hf,hx,hin⟩ := ho
 have f0 : 0 < ws.length → 1 ≤ ws.getD 0 0∧ws.getD 0 0 ≤ 8 := fun h => av hf h
 have f1 : 1 < ws.length → 1 ≤ ws.getD 1 0∧ws.getD 1 0 ≤ 8 := fun h => av hf h
 have f2 : 2 < ws.length → 1 ≤ ws.getD 2 0∧ws.getD 2 0 ≤ 8 := fun h => av hf h
 have a0 : 0 < ws.length → 0 ≤ xs.getD 0 0∧xs.getD 0 0 ≤ ak (ws.getD 0 0) := fun h => aY hin (by omega)
 have a1 : 1 < ws.length → 0 ≤ xs.getD 1 0∧xs.getD 1 0 ≤ ak (ws.getD 1 0) := fun h => aY hin (by omega)
 have a2 : 2 < ws.length → 0 ≤ xs.getD 2 0∧xs.getD 2 0 ≤ ak (ws.getD 2 0) := fun h => aY hin (by omega)
 have m0 : 0 < ws.length → 0 ≤ ak (ws.getD 0 0)∧ak (ws.getD 0 0) ≤ 255 := fun h => ap (by have := f0 h; omega) (f0 h).2
 have m1 : 1 < ws.length → 0 ≤ ak (ws.getD 1 0)∧ak (ws.getD 1 0) ≤ 255 := fun h => ap (by have := f1 h; omega) (f1 h).2
 have m2 : 2 < ws.length → 0 ≤ ak (ws.getD 2 0)∧ak (ws.getD 2 0) ≤ 255 := fun h => ap (by have := f2 h; omega) (f2 h).2
 have b0 := f0 (by omega); have c0 := a0 (by omega); have d0 := m0 (by omega)
 have hw := dp.1 hk.2.2
 refine ai.vc (V := TT 4 (IX 0 xs.length∧TT 3 ((0 ≤ k∧(Int.fdiv (xs.getD 0 0) (2 ^ min k.toNat 64)) = (xs.getD 0 0 / 2 ^ k.toNat))∧TT 2 (CC (EX w)∧(True∧(IntKind.wrap .i64 (BitVec.ofInt (IntKind.i64).bits (xs.getD 0 0 / 2 ^ k.toNat) &&& BitVec.ofInt (IntKind.i64).bits (ak w)).toNat) = ((xs.getD 0 0 / 2 ^ k.toNat) % 2 ^ w.toNat))∧TT 2 (((xs.getD 0 0 / 2 ^ k.toNat) % 2 ^ w.toNat) = (mU 12 ws xs k w)∧True))))) (.w 1 [(6,.val (i6 (xs.getD 0 0 / 2 ^ k.toNat))),(9,(EX w).O),(10,.val (i6 ((xs.getD 0 0 / 2 ^ k.toNat) % 2 ^ w.toNat)))] <| .e) Try.func104 rfl rfl rfl (by kernel_rfl) ?_
 refine tt ⟨ix,tt ⟨⟨om,(EW hk.1 (by omega))⟩,tt ⟨(rJ w),⟨⟨oK,(by rw [fY (by omega) (by omega)]; exact sS (by omega))⟩,tt ⟨?_,oK⟩⟩⟩⟩⟩
 rfl
end Go.Proofs.Ytckgpflobhpnpaa
