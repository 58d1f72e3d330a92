/-
  Package bits: the values of operations.
-/
import Derived.Test.YtaghhicmnalmmaaBitB
namespace Go.Proofs.Ytaghhicmnalmmaa
open Go.RowKit
set_option linter.unusedVariables false
set_option linter.unusedSimpArgs false
abbrev yc0 (ws xs : List Int) (k w : Int) : List Box := [(.var 61 [(LI ws),(LI xs),(i6 k),(i6 w)])]
abbrev yc1 (ws xs : List Int) (k w : Int) : List D := [(.agg [(LI ws),(LI xs),(i6 k),(i6 w)])]
abbrev yc2 : List (Nat × D) := [(1,(.ptr 0 0 0 0))]
abbrev yc3 (ws : List Int) : D := (i6 (maskF (ws.getD 0 0)))

set_option maxRecDepth 100000 in
theorem omask_ok (ws xs : List Int) (k w : Int) (hl : 0 < ws.length) : CallOk Try.prog 42 (yc1 ws xs k w) [] false (yc3 ws) [] := by
  refine CallOk.of_ev Try.func42 rfl rfl rfl ?_
  rintro ⟨_,W,S0,_,susp,_⟩ rfl rfl rfl
  refine Ev.seq ?_
  refine Ev.reg [] [1] (st' := ⟨yc2,(yc0 ws xs k w)⟩)
    (p := T2 True) (by kernel_rfl)
    ⟨oK,oK,oK⟩ ?_
  refine Ev.seq ?_
  refine Ev.reg [(4,.call none false (yc3 ws))] [2] (st' := ⟨[(2,(yc3 ws))],(yc0 ws xs k w)⟩)
    (p := T2 ((0 ≤ (0 : Int)∧0 < (ws.length : Int))∧True∧callOb Try.prog 14 (yc0 ws xs k w) [(i6 (ws.getD 0 0))] none false (yc3 ws)∧True∧True)) (by kernel_rfl)
    ⟨oK,oK,(by first | omega | (simp; first | done | omega)),oK,(mask_ok _),oK,oK⟩ ?_
  refine Ev.ret ?_
  refine ⟨⟨oK,oK⟩,(?_ : (maskF (ws.getD 0 0)) = (maskF (ws.getD 0 0))),.inr trivial⟩
  rfl

set_option maxRecDepth 100000 in
theorem not_ok (ws xs : List Int) (k w : Int) (hl : ws.length = 1) (hf : ws.all fitsF = true) (hx : xs.length = ws.length) (hin : inF ws xs = true) : CallOk Try.prog 41 (yc1 ws xs k w) [] false (i6 (avF 2 ws xs k w)) [] := by
  refine CallOk.of_ev Try.func41 rfl rfl rfl ?_
  rintro ⟨_,W,S0,_,susp,_⟩ rfl rfl rfl
  have f0 : 0 < ws.length → 1 ≤ ws.getD 0 0∧ws.getD 0 0 ≤ 8 := fun h => fit_get hf h
  have f1 : 1 < ws.length → 1 ≤ ws.getD 1 0∧ws.getD 1 0 ≤ 8 := fun h => fit_get hf h
  have f2 : 2 < ws.length → 1 ≤ ws.getD 2 0∧ws.getD 2 0 ≤ 8 := fun h => fit_get hf h
  have a0 : 0 < ws.length → 0 ≤ xs.getD 0 0∧xs.getD 0 0 ≤ maskF (ws.getD 0 0) := fun h => in_get hin (by omega)
  have a1 : 1 < ws.length → 0 ≤ xs.getD 1 0∧xs.getD 1 0 ≤ maskF (ws.getD 1 0) := fun h => in_get hin (by omega)
  have a2 : 2 < ws.length → 0 ≤ xs.getD 2 0∧xs.getD 2 0 ≤ maskF (ws.getD 2 0) := fun h => in_get hin (by omega)
  have m0 : 0 < ws.length → 0 ≤ maskF (ws.getD 0 0)∧maskF (ws.getD 0 0) ≤ 255 := fun h => maskF_bound (by have := f0 h; omega) (f0 h).2
  have m1 : 1 < ws.length → 0 ≤ maskF (ws.getD 1 0)∧maskF (ws.getD 1 0) ≤ 255 := fun h => maskF_bound (by have := f1 h; omega) (f1 h).2
  have m2 : 2 < ws.length → 0 ≤ maskF (ws.getD 2 0)∧maskF (ws.getD 2 0) ≤ 255 := fun h => maskF_bound (by have := f2 h; omega) (f2 h).2
  refine Ev.seq ?_
  refine Ev.reg [] [1] (st' := ⟨yc2,(yc0 ws xs k w)⟩)
    (p := T2 True) (by kernel_rfl)
    ⟨oK,oK,oK⟩ ?_
  refine Ev.seq ?_
  refine Ev.draw 8 [false,false,false,false,false,false,false,false] [(5,.call none false (yc3 ws)),(6,.val (i6 (((xs.getD 0 0).toNat ^^^ (maskF (ws.getD 0 0)).toNat : Nat) : Int)))] [2] (st' := ⟨[(2,(i6 (((xs.getD 0 0).toNat ^^^ (maskF (ws.getD 0 0)).toNat : Nat) : Int)))],(yc0 ws xs k w)⟩)
    (p := (T2 ((0 ≤ (0 : Int)∧0 < (xs.length : Int))∧T2 (callOb Try.prog 42 (yc0 ws xs k w) (yc1 ws xs k w) none false (yc3 ws)∧(True∧(IntKind.wrap .i64 (BitVec.ofInt (IntKind.i64).bits (xs.getD 0 0) ^^^ BitVec.ofInt (IntKind.i64).bits (maskF (ws.getD 0 0))).toNat) = (((xs.getD 0 0).toNat ^^^ (maskF (ws.getD 0 0)).toNat : Nat) : Int))∧True∧True)))∧True) (by kernel_rfl) (by kernel_rfl)
    ⟨⟨oK,oK,(by first | omega | (simp; first | done | omega)),oK,oK,(omask_ok _ _ _ _ (by omega)),⟨oK,(int_xor64 (by omega) (by omega) (by omega) (by omega))⟩,oK,oK⟩,oK⟩ ?_
  refine Ev.ret ?_
  refine ⟨⟨oK,oK⟩,(?_ : (((xs.getD 0 0).toNat ^^^ (maskF (ws.getD 0 0)).toNat : Nat) : Int) = (avF 2 ws xs k w)),.inr trivial⟩
  rfl

set_option maxRecDepth 100000 in
theorem and_ok (ws xs : List Int) (k w : Int) (hl : ws.length = 2) (hf : ws.all fitsF = true) (hx : xs.length = ws.length) (hin : inF ws xs = true) : CallOk Try.prog 44 (yc1 ws xs k w) [] false (i6 (avF 3 ws xs k w)) [] := by
  refine CallOk.of_ev Try.func44 rfl rfl rfl ?_
  rintro ⟨_,W,S0,_,susp,_⟩ rfl rfl rfl
  have f0 : 0 < ws.length → 1 ≤ ws.getD 0 0∧ws.getD 0 0 ≤ 8 := fun h => fit_get hf h
  have f1 : 1 < ws.length → 1 ≤ ws.getD 1 0∧ws.getD 1 0 ≤ 8 := fun h => fit_get hf h
  have f2 : 2 < ws.length → 1 ≤ ws.getD 2 0∧ws.getD 2 0 ≤ 8 := fun h => fit_get hf h
  have a0 : 0 < ws.length → 0 ≤ xs.getD 0 0∧xs.getD 0 0 ≤ maskF (ws.getD 0 0) := fun h => in_get hin (by omega)
  have a1 : 1 < ws.length → 0 ≤ xs.getD 1 0∧xs.getD 1 0 ≤ maskF (ws.getD 1 0) := fun h => in_get hin (by omega)
  have a2 : 2 < ws.length → 0 ≤ xs.getD 2 0∧xs.getD 2 0 ≤ maskF (ws.getD 2 0) := fun h => in_get hin (by omega)
  have m0 : 0 < ws.length → 0 ≤ maskF (ws.getD 0 0)∧maskF (ws.getD 0 0) ≤ 255 := fun h => maskF_bound (by have := f0 h; omega) (f0 h).2
  have m1 : 1 < ws.length → 0 ≤ maskF (ws.getD 1 0)∧maskF (ws.getD 1 0) ≤ 255 := fun h => maskF_bound (by have := f1 h; omega) (f1 h).2
  have m2 : 2 < ws.length → 0 ≤ maskF (ws.getD 2 0)∧maskF (ws.getD 2 0) ≤ 255 := fun h => maskF_bound (by have := f2 h; omega) (f2 h).2
  refine Ev.seq ?_
  refine Ev.reg [] [1] (st' := ⟨yc2,(yc0 ws xs k w)⟩)
    (p := T2 True) (by kernel_rfl)
    ⟨oK,oK,oK⟩ ?_
  refine Ev.seq ?_
  refine Ev.draw 10 [false,false,false,false,false,false,false,false,false,false] [(8,.val (i6 (((xs.getD 0 0).toNat &&& (xs.getD 1 0).toNat : Nat) : Int)))] [2] (st' := ⟨[(2,(i6 (((xs.getD 0 0).toNat &&& (xs.getD 1 0).toNat : Nat) : Int)))],(yc0 ws xs k w)⟩)
    (p := (T2 ((0 ≤ (0 : Int)∧0 < (xs.length : Int))∧T3 ((0 ≤ (1 : Int)∧1 < (xs.length : Int))∧True∧(True∧(IntKind.wrap .i64 (BitVec.ofInt (IntKind.i64).bits (xs.getD 0 0) &&& BitVec.ofInt (IntKind.i64).bits (xs.getD 1 0)).toNat) = (((xs.getD 0 0).toNat &&& (xs.getD 1 0).toNat : Nat) : Int))∧True∧True)))∧True) (by kernel_rfl) (by kernel_rfl)
    ⟨⟨oK,oK,(by first | omega | (simp; first | done | omega)),oK,oK,oK,(by first | omega | (simp; first | done | omega)),oK,⟨oK,(int_and64 (by omega) (by omega) (by omega) (by omega))⟩,oK,oK⟩,oK⟩ ?_
  refine Ev.ret ?_
  refine ⟨⟨oK,oK⟩,(?_ : (((xs.getD 0 0).toNat &&& (xs.getD 1 0).toNat : Nat) : Int) = (avF 3 ws xs k w)),.inr trivial⟩
  rfl

set_option maxRecDepth 100000 in
theorem or_ok (ws xs : List Int) (k w : Int) (hl : ws.length = 2) (hf : ws.all fitsF = true) (hx : xs.length = ws.length) (hin : inF ws xs = true) : CallOk Try.prog 45 (yc1 ws xs k w) [] false (i6 (avF 4 ws xs k w)) [] := by
  refine CallOk.of_ev Try.func45 rfl rfl rfl ?_
  rintro ⟨_,W,S0,_,susp,_⟩ rfl rfl rfl
  have f0 : 0 < ws.length → 1 ≤ ws.getD 0 0∧ws.getD 0 0 ≤ 8 := fun h => fit_get hf h
  have f1 : 1 < ws.length → 1 ≤ ws.getD 1 0∧ws.getD 1 0 ≤ 8 := fun h => fit_get hf h
  have f2 : 2 < ws.length → 1 ≤ ws.getD 2 0∧ws.getD 2 0 ≤ 8 := fun h => fit_get hf h
  have a0 : 0 < ws.length → 0 ≤ xs.getD 0 0∧xs.getD 0 0 ≤ maskF (ws.getD 0 0) := fun h => in_get hin (by omega)
  have a1 : 1 < ws.length → 0 ≤ xs.getD 1 0∧xs.getD 1 0 ≤ maskF (ws.getD 1 0) := fun h => in_get hin (by omega)
  have a2 : 2 < ws.length → 0 ≤ xs.getD 2 0∧xs.getD 2 0 ≤ maskF (ws.getD 2 0) := fun h => in_get hin (by omega)
  have m0 : 0 < ws.length → 0 ≤ maskF (ws.getD 0 0)∧maskF (ws.getD 0 0) ≤ 255 := fun h => maskF_bound (by have := f0 h; omega) (f0 h).2
  have m1 : 1 < ws.length → 0 ≤ maskF (ws.getD 1 0)∧maskF (ws.getD 1 0) ≤ 255 := fun h => maskF_bound (by have := f1 h; omega) (f1 h).2
  have m2 : 2 < ws.length → 0 ≤ maskF (ws.getD 2 0)∧maskF (ws.getD 2 0) ≤ 255 := fun h => maskF_bound (by have := f2 h; omega) (f2 h).2
  refine Ev.seq ?_
  refine Ev.reg [] [1] (st' := ⟨yc2,(yc0 ws xs k w)⟩)
    (p := T2 True) (by kernel_rfl)
    ⟨oK,oK,oK⟩ ?_
  refine Ev.seq ?_
  refine Ev.draw 10 [false,false,false,false,false,false,false,false,false,false] [(8,.val (i6 (((xs.getD 0 0).toNat ||| (xs.getD 1 0).toNat : Nat) : Int)))] [2] (st' := ⟨[(2,(i6 (((xs.getD 0 0).toNat ||| (xs.getD 1 0).toNat : Nat) : Int)))],(yc0 ws xs k w)⟩)
    (p := (T2 ((0 ≤ (0 : Int)∧0 < (xs.length : Int))∧T3 ((0 ≤ (1 : Int)∧1 < (xs.length : Int))∧True∧(True∧(IntKind.wrap .i64 (BitVec.ofInt (IntKind.i64).bits (xs.getD 0 0) ||| BitVec.ofInt (IntKind.i64).bits (xs.getD 1 0)).toNat) = (((xs.getD 0 0).toNat ||| (xs.getD 1 0).toNat : Nat) : Int))∧True∧True)))∧True) (by kernel_rfl) (by kernel_rfl)
    ⟨⟨oK,oK,(by first | omega | (simp; first | done | omega)),oK,oK,oK,(by first | omega | (simp; first | done | omega)),oK,⟨oK,(int_or64 (by omega) (by omega) (by omega) (by omega))⟩,oK,oK⟩,oK⟩ ?_
  refine Ev.ret ?_
  refine ⟨⟨oK,oK⟩,(?_ : (((xs.getD 0 0).toNat ||| (xs.getD 1 0).toNat : Nat) : Int) = (avF 4 ws xs k w)),.inr trivial⟩
  rfl

set_option maxRecDepth 100000 in
theorem xor_ok (ws xs : List Int) (k w : Int) (hl : ws.length = 2) (hf : ws.all fitsF = true) (hx : xs.length = ws.length) (hin : inF ws xs = true) : CallOk Try.prog 46 (yc1 ws xs k w) [] false (i6 (avF 5 ws xs k w)) [] := by
  refine CallOk.of_ev Try.func46 rfl rfl rfl ?_
  rintro ⟨_,W,S0,_,susp,_⟩ rfl rfl rfl
  have f0 : 0 < ws.length → 1 ≤ ws.getD 0 0∧ws.getD 0 0 ≤ 8 := fun h => fit_get hf h
  have f1 : 1 < ws.length → 1 ≤ ws.getD 1 0∧ws.getD 1 0 ≤ 8 := fun h => fit_get hf h
  have f2 : 2 < ws.length → 1 ≤ ws.getD 2 0∧ws.getD 2 0 ≤ 8 := fun h => fit_get hf h
  have a0 : 0 < ws.length → 0 ≤ xs.getD 0 0∧xs.getD 0 0 ≤ maskF (ws.getD 0 0) := fun h => in_get hin (by omega)
  have a1 : 1 < ws.length → 0 ≤ xs.getD 1 0∧xs.getD 1 0 ≤ maskF (ws.getD 1 0) := fun h => in_get hin (by omega)
  have a2 : 2 < ws.length → 0 ≤ xs.getD 2 0∧xs.getD 2 0 ≤ maskF (ws.getD 2 0) := fun h => in_get hin (by omega)
  have m0 : 0 < ws.length → 0 ≤ maskF (ws.getD 0 0)∧maskF (ws.getD 0 0) ≤ 255 := fun h => maskF_bound (by have := f0 h; omega) (f0 h).2
  have m1 : 1 < ws.length → 0 ≤ maskF (ws.getD 1 0)∧maskF (ws.getD 1 0) ≤ 255 := fun h => maskF_bound (by have := f1 h; omega) (f1 h).2
  have m2 : 2 < ws.length → 0 ≤ maskF (ws.getD 2 0)∧maskF (ws.getD 2 0) ≤ 255 := fun h => maskF_bound (by have := f2 h; omega) (f2 h).2
  refine Ev.seq ?_
  refine Ev.reg [] [1] (st' := ⟨yc2,(yc0 ws xs k w)⟩)
    (p := T2 True) (by kernel_rfl)
    ⟨oK,oK,oK⟩ ?_
  refine Ev.seq ?_
  refine Ev.draw 10 [false,false,false,false,false,false,false,false,false,false] [(8,.val (i6 (((xs.getD 0 0).toNat ^^^ (xs.getD 1 0).toNat : Nat) : Int)))] [2] (st' := ⟨[(2,(i6 (((xs.getD 0 0).toNat ^^^ (xs.getD 1 0).toNat : Nat) : Int)))],(yc0 ws xs k w)⟩)
    (p := (T2 ((0 ≤ (0 : Int)∧0 < (xs.length : Int))∧T3 ((0 ≤ (1 : Int)∧1 < (xs.length : Int))∧True∧(True∧(IntKind.wrap .i64 (BitVec.ofInt (IntKind.i64).bits (xs.getD 0 0) ^^^ BitVec.ofInt (IntKind.i64).bits (xs.getD 1 0)).toNat) = (((xs.getD 0 0).toNat ^^^ (xs.getD 1 0).toNat : Nat) : Int))∧True∧True)))∧True) (by kernel_rfl) (by kernel_rfl)
    ⟨⟨oK,oK,(by first | omega | (simp; first | done | omega)),oK,oK,oK,(by first | omega | (simp; first | done | omega)),oK,⟨oK,(int_xor64 (by omega) (by omega) (by omega) (by omega))⟩,oK,oK⟩,oK⟩ ?_
  refine Ev.ret ?_
  refine ⟨⟨oK,oK⟩,(?_ : (((xs.getD 0 0).toNat ^^^ (xs.getD 1 0).toNat : Nat) : Int) = (avF 5 ws xs k w)),.inr trivial⟩
  rfl

set_option maxRecDepth 100000 in
theorem add_ok (ws xs : List Int) (k w : Int) (hl : ws.length = 2) (hf : ws.all fitsF = true) (hx : xs.length = ws.length) (hin : inF ws xs = true) : CallOk Try.prog 47 (yc1 ws xs k w) [] false (i6 (avF 6 ws xs k w)) [] := by
  refine CallOk.of_ev Try.func47 rfl rfl rfl ?_
  rintro ⟨_,W,S0,_,susp,_⟩ rfl rfl rfl
  have f0 : 0 < ws.length → 1 ≤ ws.getD 0 0∧ws.getD 0 0 ≤ 8 := fun h => fit_get hf h
  have f1 : 1 < ws.length → 1 ≤ ws.getD 1 0∧ws.getD 1 0 ≤ 8 := fun h => fit_get hf h
  have f2 : 2 < ws.length → 1 ≤ ws.getD 2 0∧ws.getD 2 0 ≤ 8 := fun h => fit_get hf h
  have a0 : 0 < ws.length → 0 ≤ xs.getD 0 0∧xs.getD 0 0 ≤ maskF (ws.getD 0 0) := fun h => in_get hin (by omega)
  have a1 : 1 < ws.length → 0 ≤ xs.getD 1 0∧xs.getD 1 0 ≤ maskF (ws.getD 1 0) := fun h => in_get hin (by omega)
  have a2 : 2 < ws.length → 0 ≤ xs.getD 2 0∧xs.getD 2 0 ≤ maskF (ws.getD 2 0) := fun h => in_get hin (by omega)
  have m0 : 0 < ws.length → 0 ≤ maskF (ws.getD 0 0)∧maskF (ws.getD 0 0) ≤ 255 := fun h => maskF_bound (by have := f0 h; omega) (f0 h).2
  have m1 : 1 < ws.length → 0 ≤ maskF (ws.getD 1 0)∧maskF (ws.getD 1 0) ≤ 255 := fun h => maskF_bound (by have := f1 h; omega) (f1 h).2
  have m2 : 2 < ws.length → 0 ≤ maskF (ws.getD 2 0)∧maskF (ws.getD 2 0) ≤ 255 := fun h => maskF_bound (by have := f2 h; omega) (f2 h).2
  refine Ev.seq ?_
  refine Ev.reg [] [1] (st' := ⟨yc2,(yc0 ws xs k w)⟩)
    (p := T2 True) (by kernel_rfl)
    ⟨oK,oK,oK⟩ ?_
  refine Ev.seq ?_
  refine Ev.draw 13 [false,false,false,false,false,false,false,false,false,false,false,false,false] [(8,.val (i6 ((xs.getD 0 0) + (xs.getD 1 0)))),(10,.call none false (yc3 ws)),(11,.val (i6 ((xs.getD 0 0 + xs.getD 1 0) % 2 ^ (ws.getD 0 0).toNat)))] [2] (st' := ⟨[(2,(i6 ((xs.getD 0 0 + xs.getD 1 0) % 2 ^ (ws.getD 0 0).toNat)))],(yc0 ws xs k w)⟩)
    (p := (T2 ((0 ≤ (0 : Int)∧0 < (xs.length : Int))∧T3 ((0 ≤ (1 : Int)∧1 < (xs.length : Int))∧True∧(True∧(IntKind.wrap .i64 ((xs.getD 0 0) + (xs.getD 1 0))) = ((xs.getD 0 0) + (xs.getD 1 0)))∧True∧callOb Try.prog 42 (yc0 ws xs k w) (yc1 ws xs k w) none false (yc3 ws)∧(True∧(IntKind.wrap .i64 (BitVec.ofInt (IntKind.i64).bits ((xs.getD 0 0) + (xs.getD 1 0)) &&& BitVec.ofInt (IntKind.i64).bits (maskF (ws.getD 0 0))).toNat) = ((xs.getD 0 0 + xs.getD 1 0) % 2 ^ (ws.getD 0 0).toNat))∧True∧True)))∧True) (by kernel_rfl) (by kernel_rfl)
    ⟨⟨oK,oK,(by first | omega | (simp; first | done | omega)),oK,oK,oK,(by first | omega | (simp; first | done | omega)),oK,⟨oK,(w64 rfl (by first | omega | (simp; first | done | omega)) (by first | omega | (simp; first | done | omega)))⟩,oK,(omask_ok _ _ _ _ (by omega)),⟨oK,(by rw [maskF_in (by omega) (by omega)]; exact and_mask (by omega))⟩,oK,oK⟩,oK⟩ ?_
  refine Ev.ret ?_
  refine ⟨⟨oK,oK⟩,(?_ : ((xs.getD 0 0 + xs.getD 1 0) % 2 ^ (ws.getD 0 0).toNat) = (avF 6 ws xs k w)),.inr trivial⟩
  rfl

set_option maxRecDepth 100000 in
theorem sub_ok (ws xs : List Int) (k w : Int) (hl : ws.length = 2) (hf : ws.all fitsF = true) (hx : xs.length = ws.length) (hin : inF ws xs = true) : CallOk Try.prog 48 (yc1 ws xs k w) [] false (i6 (avF 7 ws xs k w)) [] := by
  refine CallOk.of_ev Try.func48 rfl rfl rfl ?_
  rintro ⟨_,W,S0,_,susp,_⟩ rfl rfl rfl
  have f0 : 0 < ws.length → 1 ≤ ws.getD 0 0∧ws.getD 0 0 ≤ 8 := fun h => fit_get hf h
  have f1 : 1 < ws.length → 1 ≤ ws.getD 1 0∧ws.getD 1 0 ≤ 8 := fun h => fit_get hf h
  have f2 : 2 < ws.length → 1 ≤ ws.getD 2 0∧ws.getD 2 0 ≤ 8 := fun h => fit_get hf h
  have a0 : 0 < ws.length → 0 ≤ xs.getD 0 0∧xs.getD 0 0 ≤ maskF (ws.getD 0 0) := fun h => in_get hin (by omega)
  have a1 : 1 < ws.length → 0 ≤ xs.getD 1 0∧xs.getD 1 0 ≤ maskF (ws.getD 1 0) := fun h => in_get hin (by omega)
  have a2 : 2 < ws.length → 0 ≤ xs.getD 2 0∧xs.getD 2 0 ≤ maskF (ws.getD 2 0) := fun h => in_get hin (by omega)
  have m0 : 0 < ws.length → 0 ≤ maskF (ws.getD 0 0)∧maskF (ws.getD 0 0) ≤ 255 := fun h => maskF_bound (by have := f0 h; omega) (f0 h).2
  have m1 : 1 < ws.length → 0 ≤ maskF (ws.getD 1 0)∧maskF (ws.getD 1 0) ≤ 255 := fun h => maskF_bound (by have := f1 h; omega) (f1 h).2
  have m2 : 2 < ws.length → 0 ≤ maskF (ws.getD 2 0)∧maskF (ws.getD 2 0) ≤ 255 := fun h => maskF_bound (by have := f2 h; omega) (f2 h).2
  refine Ev.seq ?_
  refine Ev.reg [] [1] (st' := ⟨yc2,(yc0 ws xs k w)⟩)
    (p := T2 True) (by kernel_rfl)
    ⟨oK,oK,oK⟩ ?_
  refine Ev.seq ?_
  refine Ev.draw 13 [false,false,false,false,false,false,false,false,false,false,false,false,false] [(8,.val (i6 ((xs.getD 0 0) - (xs.getD 1 0)))),(10,.call none false (yc3 ws)),(11,.val (i6 ((xs.getD 0 0 - xs.getD 1 0) % 2 ^ (ws.getD 0 0).toNat)))] [2] (st' := ⟨[(2,(i6 ((xs.getD 0 0 - xs.getD 1 0) % 2 ^ (ws.getD 0 0).toNat)))],(yc0 ws xs k w)⟩)
    (p := (T2 ((0 ≤ (0 : Int)∧0 < (xs.length : Int))∧T3 ((0 ≤ (1 : Int)∧1 < (xs.length : Int))∧True∧(True∧(IntKind.wrap .i64 ((xs.getD 0 0) - (xs.getD 1 0))) = ((xs.getD 0 0) - (xs.getD 1 0)))∧True∧callOb Try.prog 42 (yc0 ws xs k w) (yc1 ws xs k w) none false (yc3 ws)∧(True∧(IntKind.wrap .i64 (BitVec.ofInt (IntKind.i64).bits ((xs.getD 0 0) - (xs.getD 1 0)) &&& BitVec.ofInt (IntKind.i64).bits (maskF (ws.getD 0 0))).toNat) = ((xs.getD 0 0 - xs.getD 1 0) % 2 ^ (ws.getD 0 0).toNat))∧True∧True)))∧True) (by kernel_rfl) (by kernel_rfl)
    ⟨⟨oK,oK,(by first | omega | (simp; first | done | omega)),oK,oK,oK,(by first | omega | (simp; first | done | omega)),oK,⟨oK,(w64 rfl (by first | omega | (simp; first | done | omega)) (by first | omega | (simp; first | done | omega)))⟩,oK,(omask_ok _ _ _ _ (by omega)),⟨oK,(by rw [maskF_in (by omega) (by omega)]; exact and_mask (by omega))⟩,oK,oK⟩,oK⟩ ?_
  refine Ev.ret ?_
  refine ⟨⟨oK,oK⟩,(?_ : ((xs.getD 0 0 - xs.getD 1 0) % 2 ^ (ws.getD 0 0).toNat) = (avF 7 ws xs k w)),.inr trivial⟩
  rfl

set_option maxRecDepth 100000 in
theorem eq_ok (ws xs : List Int) (k w : Int) (hl : ws.length = 2) (hf : ws.all fitsF = true) (hx : xs.length = ws.length) (hin : inF ws xs = true) : CallOk Try.prog 50 (yc1 ws xs k w) [] false (i6 (avF 8 ws xs k w)) [] := by
  refine CallOk.of_ev Try.func50 rfl rfl rfl ?_
  rintro ⟨_,W,S0,_,susp,_⟩ rfl rfl rfl
  have f0 : 0 < ws.length → 1 ≤ ws.getD 0 0∧ws.getD 0 0 ≤ 8 := fun h => fit_get hf h
  have f1 : 1 < ws.length → 1 ≤ ws.getD 1 0∧ws.getD 1 0 ≤ 8 := fun h => fit_get hf h
  have f2 : 2 < ws.length → 1 ≤ ws.getD 2 0∧ws.getD 2 0 ≤ 8 := fun h => fit_get hf h
  have a0 : 0 < ws.length → 0 ≤ xs.getD 0 0∧xs.getD 0 0 ≤ maskF (ws.getD 0 0) := fun h => in_get hin (by omega)
  have a1 : 1 < ws.length → 0 ≤ xs.getD 1 0∧xs.getD 1 0 ≤ maskF (ws.getD 1 0) := fun h => in_get hin (by omega)
  have a2 : 2 < ws.length → 0 ≤ xs.getD 2 0∧xs.getD 2 0 ≤ maskF (ws.getD 2 0) := fun h => in_get hin (by omega)
  have m0 : 0 < ws.length → 0 ≤ maskF (ws.getD 0 0)∧maskF (ws.getD 0 0) ≤ 255 := fun h => maskF_bound (by have := f0 h; omega) (f0 h).2
  have m1 : 1 < ws.length → 0 ≤ maskF (ws.getD 1 0)∧maskF (ws.getD 1 0) ≤ 255 := fun h => maskF_bound (by have := f1 h; omega) (f1 h).2
  have m2 : 2 < ws.length → 0 ≤ maskF (ws.getD 2 0)∧maskF (ws.getD 2 0) ≤ 255 := fun h => maskF_bound (by have := f2 h; omega) (f2 h).2
  refine Ev.seq ?_
  refine Ev.reg [] [1] (st' := ⟨yc2,(yc0 ws xs k w)⟩)
    (p := T2 True) (by kernel_rfl)
    ⟨oK,oK,oK⟩ ?_
  refine Ev.seq ?_
  refine Ev.draw 11 [false,false,false,false,false,false,false,false,false,false,false] [(9,.call none false (i6 (if ((xs.getD 0 0) == (xs.getD 1 0)) = true then 1 else 0)))] [2] (st' := ⟨[(2,(i6 (if ((xs.getD 0 0) == (xs.getD 1 0)) = true then 1 else 0)))],(yc0 ws xs k w)⟩)
    (p := (T2 ((0 ≤ (0 : Int)∧0 < (xs.length : Int))∧T3 ((0 ≤ (1 : Int)∧1 < (xs.length : Int))∧T2 (callOb Try.prog 32 (yc0 ws xs k w) [(dB ((xs.getD 0 0) == (xs.getD 1 0)))] none false (i6 (if ((xs.getD 0 0) == (xs.getD 1 0)) = true then 1 else 0))∧True∧True))))∧True) (by kernel_rfl) (by kernel_rfl)
    ⟨⟨oK,oK,(by first | omega | (simp; first | done | omega)),oK,oK,oK,(by first | omega | (simp; first | done | omega)),oK,oK,(bit_ok _),oK,oK⟩,oK⟩ ?_
  refine Ev.ret ?_
  refine ⟨⟨oK,oK⟩,(?_ : (if ((xs.getD 0 0) == (xs.getD 1 0)) = true then 1 else 0) = (avF 8 ws xs k w)),.inr trivial⟩
  show _ = (if xs.getD 0 0 = xs.getD 1 0 then (1 : Int) else 0)
  by_cases h : xs.getD 0 0 = xs.getD 1 0
  · rw [if_pos h,if_pos (by simpa using h)]
  · rw [if_neg h,if_neg (by simpa using h)]

set_option maxRecDepth 100000 in
theorem lt_ok (ws xs : List Int) (k w : Int) (hl : ws.length = 2) (hf : ws.all fitsF = true) (hx : xs.length = ws.length) (hin : inF ws xs = true) : CallOk Try.prog 51 (yc1 ws xs k w) [] false (i6 (avF 9 ws xs k w)) [] := by
  refine CallOk.of_ev Try.func51 rfl rfl rfl ?_
  rintro ⟨_,W,S0,_,susp,_⟩ rfl rfl rfl
  have f0 : 0 < ws.length → 1 ≤ ws.getD 0 0∧ws.getD 0 0 ≤ 8 := fun h => fit_get hf h
  have f1 : 1 < ws.length → 1 ≤ ws.getD 1 0∧ws.getD 1 0 ≤ 8 := fun h => fit_get hf h
  have f2 : 2 < ws.length → 1 ≤ ws.getD 2 0∧ws.getD 2 0 ≤ 8 := fun h => fit_get hf h
  have a0 : 0 < ws.length → 0 ≤ xs.getD 0 0∧xs.getD 0 0 ≤ maskF (ws.getD 0 0) := fun h => in_get hin (by omega)
  have a1 : 1 < ws.length → 0 ≤ xs.getD 1 0∧xs.getD 1 0 ≤ maskF (ws.getD 1 0) := fun h => in_get hin (by omega)
  have a2 : 2 < ws.length → 0 ≤ xs.getD 2 0∧xs.getD 2 0 ≤ maskF (ws.getD 2 0) := fun h => in_get hin (by omega)
  have m0 : 0 < ws.length → 0 ≤ maskF (ws.getD 0 0)∧maskF (ws.getD 0 0) ≤ 255 := fun h => maskF_bound (by have := f0 h; omega) (f0 h).2
  have m1 : 1 < ws.length → 0 ≤ maskF (ws.getD 1 0)∧maskF (ws.getD 1 0) ≤ 255 := fun h => maskF_bound (by have := f1 h; omega) (f1 h).2
  have m2 : 2 < ws.length → 0 ≤ maskF (ws.getD 2 0)∧maskF (ws.getD 2 0) ≤ 255 := fun h => maskF_bound (by have := f2 h; omega) (f2 h).2
  refine Ev.seq ?_
  refine Ev.reg [] [1] (st' := ⟨yc2,(yc0 ws xs k w)⟩)
    (p := T2 True) (by kernel_rfl)
    ⟨oK,oK,oK⟩ ?_
  refine Ev.seq ?_
  refine Ev.draw 11 [false,false,false,false,false,false,false,false,false,false,false] [(9,.call none false (i6 (if (decide ((xs.getD 0 0) < (xs.getD 1 0))) = true then 1 else 0)))] [2] (st' := ⟨[(2,(i6 (if (decide ((xs.getD 0 0) < (xs.getD 1 0))) = true then 1 else 0)))],(yc0 ws xs k w)⟩)
    (p := (T2 ((0 ≤ (0 : Int)∧0 < (xs.length : Int))∧T3 ((0 ≤ (1 : Int)∧1 < (xs.length : Int))∧T2 (callOb Try.prog 32 (yc0 ws xs k w) [(dB (decide ((xs.getD 0 0) < (xs.getD 1 0))))] none false (i6 (if (decide ((xs.getD 0 0) < (xs.getD 1 0))) = true then 1 else 0))∧True∧True))))∧True) (by kernel_rfl) (by kernel_rfl)
    ⟨⟨oK,oK,(by first | omega | (simp; first | done | omega)),oK,oK,oK,(by first | omega | (simp; first | done | omega)),oK,oK,(bit_ok _),oK,oK⟩,oK⟩ ?_
  refine Ev.ret ?_
  refine ⟨⟨oK,oK⟩,(?_ : (if (decide ((xs.getD 0 0) < (xs.getD 1 0))) = true then 1 else 0) = (avF 9 ws xs k w)),.inr trivial⟩
  show _ = (if xs.getD 0 0 < xs.getD 1 0 then (1 : Int) else 0)
  by_cases h : xs.getD 0 0 < xs.getD 1 0
  · rw [if_pos h,if_pos (by simpa using h)]
  · rw [if_neg h,if_neg (by simpa using h)]

set_option maxRecDepth 100000 in
theorem const_ok (ws xs : List Int) (k w : Int) (hl : ws.length = 0) (hf : ws.all fitsF = true) (hx : xs.length = ws.length) (hin : inF ws xs = true) : CallOk Try.prog 53 (yc1 ws xs k w) [] false (i6 (avF 1 ws xs k w)) [] := by
  refine CallOk.of_ev Try.func53 rfl rfl rfl ?_
  rintro ⟨_,W,S0,_,susp,_⟩ rfl rfl rfl
  have f0 : 0 < ws.length → 1 ≤ ws.getD 0 0∧ws.getD 0 0 ≤ 8 := fun h => fit_get hf h
  have f1 : 1 < ws.length → 1 ≤ ws.getD 1 0∧ws.getD 1 0 ≤ 8 := fun h => fit_get hf h
  have f2 : 2 < ws.length → 1 ≤ ws.getD 2 0∧ws.getD 2 0 ≤ 8 := fun h => fit_get hf h
  have a0 : 0 < ws.length → 0 ≤ xs.getD 0 0∧xs.getD 0 0 ≤ maskF (ws.getD 0 0) := fun h => in_get hin (by omega)
  have a1 : 1 < ws.length → 0 ≤ xs.getD 1 0∧xs.getD 1 0 ≤ maskF (ws.getD 1 0) := fun h => in_get hin (by omega)
  have a2 : 2 < ws.length → 0 ≤ xs.getD 2 0∧xs.getD 2 0 ≤ maskF (ws.getD 2 0) := fun h => in_get hin (by omega)
  have m0 : 0 < ws.length → 0 ≤ maskF (ws.getD 0 0)∧maskF (ws.getD 0 0) ≤ 255 := fun h => maskF_bound (by have := f0 h; omega) (f0 h).2
  have m1 : 1 < ws.length → 0 ≤ maskF (ws.getD 1 0)∧maskF (ws.getD 1 0) ≤ 255 := fun h => maskF_bound (by have := f1 h; omega) (f1 h).2
  have m2 : 2 < ws.length → 0 ≤ maskF (ws.getD 2 0)∧maskF (ws.getD 2 0) ≤ 255 := fun h => maskF_bound (by have := f2 h; omega) (f2 h).2
  refine Ev.seq ?_
  refine Ev.reg [] [1] (st' := ⟨yc2,(yc0 ws xs k w)⟩)
    (p := T2 True) (by kernel_rfl)
    ⟨oK,oK,oK⟩ ?_
  refine Ev.seq ?_
  refine Ev.reg [] [2] (st' := ⟨[(2,(i6 k))],(yc0 ws xs k w)⟩)
    (p := T3 True) (by kernel_rfl)
    ⟨oK,oK,oK,oK⟩ ?_
  refine Ev.ret ?_
  refine ⟨⟨oK,oK⟩,(?_ : k = (avF 1 ws xs k w)),.inr trivial⟩
  rfl

set_option maxRecDepth 100000 in
theorem ext_ok (ws xs : List Int) (k w : Int) (hl : ws.length = 1) (hf : ws.all fitsF = true) (hx : xs.length = ws.length) (hin : inF ws xs = true) : CallOk Try.prog 61 (yc1 ws xs k w) [] false (i6 (avF 13 ws xs k w)) [] := by
  refine CallOk.of_ev Try.func61 rfl rfl rfl ?_
  rintro ⟨_,W,S0,_,susp,_⟩ rfl rfl rfl
  have f0 : 0 < ws.length → 1 ≤ ws.getD 0 0∧ws.getD 0 0 ≤ 8 := fun h => fit_get hf h
  have f1 : 1 < ws.length → 1 ≤ ws.getD 1 0∧ws.getD 1 0 ≤ 8 := fun h => fit_get hf h
  have f2 : 2 < ws.length → 1 ≤ ws.getD 2 0∧ws.getD 2 0 ≤ 8 := fun h => fit_get hf h
  have a0 : 0 < ws.length → 0 ≤ xs.getD 0 0∧xs.getD 0 0 ≤ maskF (ws.getD 0 0) := fun h => in_get hin (by omega)
  have a1 : 1 < ws.length → 0 ≤ xs.getD 1 0∧xs.getD 1 0 ≤ maskF (ws.getD 1 0) := fun h => in_get hin (by omega)
  have a2 : 2 < ws.length → 0 ≤ xs.getD 2 0∧xs.getD 2 0 ≤ maskF (ws.getD 2 0) := fun h => in_get hin (by omega)
  have m0 : 0 < ws.length → 0 ≤ maskF (ws.getD 0 0)∧maskF (ws.getD 0 0) ≤ 255 := fun h => maskF_bound (by have := f0 h; omega) (f0 h).2
  have m1 : 1 < ws.length → 0 ≤ maskF (ws.getD 1 0)∧maskF (ws.getD 1 0) ≤ 255 := fun h => maskF_bound (by have := f1 h; omega) (f1 h).2
  have m2 : 2 < ws.length → 0 ≤ maskF (ws.getD 2 0)∧maskF (ws.getD 2 0) ≤ 255 := fun h => maskF_bound (by have := f2 h; omega) (f2 h).2
  refine Ev.seq ?_
  refine Ev.reg [] [1] (st' := ⟨yc2,(yc0 ws xs k w)⟩)
    (p := T2 True) (by kernel_rfl)
    ⟨oK,oK,oK⟩ ?_
  refine Ev.seq ?_
  refine Ev.reg [] [2] (st' := ⟨[(2,(i6 (xs.getD 0 0)))],(yc0 ws xs k w)⟩)
    (p := T2 ((0 ≤ (0 : Int)∧0 < (xs.length : Int))∧T2 True)) (by kernel_rfl)
    ⟨oK,oK,(by first | omega | (simp; first | done | omega)),oK,oK,oK⟩ ?_
  refine Ev.ret ?_
  refine ⟨⟨oK,oK⟩,(?_ : (xs.getD 0 0) = (avF 13 ws xs k w)),.inr trivial⟩
  rfl

set_option maxRecDepth 100000 in
theorem mux_ok (ws xs : List Int) (k w : Int) (hl : ws.length = 3) (hf : ws.all fitsF = true) (hx : xs.length = ws.length) (hin : inF ws xs = true) (h1 : ws.getD 0 0 = 1) : CallOk Try.prog 55 (yc1 ws xs k w) [] false (i6 (avF 10 ws xs k w)) [] := by
  refine CallOk.of_ev Try.func55 rfl rfl rfl ?_
  rintro ⟨_,W,S0,_,susp,_⟩ rfl rfl rfl
  have f0 : 0 < ws.length → 1 ≤ ws.getD 0 0∧ws.getD 0 0 ≤ 8 := fun h => fit_get hf h
  have f1 : 1 < ws.length → 1 ≤ ws.getD 1 0∧ws.getD 1 0 ≤ 8 := fun h => fit_get hf h
  have f2 : 2 < ws.length → 1 ≤ ws.getD 2 0∧ws.getD 2 0 ≤ 8 := fun h => fit_get hf h
  have a0 : 0 < ws.length → 0 ≤ xs.getD 0 0∧xs.getD 0 0 ≤ maskF (ws.getD 0 0) := fun h => in_get hin (by omega)
  have a1 : 1 < ws.length → 0 ≤ xs.getD 1 0∧xs.getD 1 0 ≤ maskF (ws.getD 1 0) := fun h => in_get hin (by omega)
  have a2 : 2 < ws.length → 0 ≤ xs.getD 2 0∧xs.getD 2 0 ≤ maskF (ws.getD 2 0) := fun h => in_get hin (by omega)
  have m0 : 0 < ws.length → 0 ≤ maskF (ws.getD 0 0)∧maskF (ws.getD 0 0) ≤ 255 := fun h => maskF_bound (by have := f0 h; omega) (f0 h).2
  have m1 : 1 < ws.length → 0 ≤ maskF (ws.getD 1 0)∧maskF (ws.getD 1 0) ≤ 255 := fun h => maskF_bound (by have := f1 h; omega) (f1 h).2
  have m2 : 2 < ws.length → 0 ≤ maskF (ws.getD 2 0)∧maskF (ws.getD 2 0) ≤ 255 := fun h => maskF_bound (by have := f2 h; omega) (f2 h).2
  have hm1 : maskF (ws.getD 0 0) = 1 := by rw [h1]; decide
  have hx0 : xs.getD 0 0 = 0 ∨ xs.getD 0 0 = 1 := by have := a0 (by omega); omega
  refine Ev.seq ?_
  refine Ev.reg [] [1] (st' := ⟨yc2,(yc0 ws xs k w)⟩)
    (p := T2 True) (by kernel_rfl)
    ⟨oK,oK,oK⟩ ?_
  refine Ev.seq ?_
  refine Ev.draw 10 [false,false,false,false,false,false,false,false,false,false] [(6,.val (i6 (2 - (xs.getD 0 0))))] [2] (st' := ⟨[(2,(i6 (xs.getD ((2 - (xs.getD 0 0)).toNat) 0)))],(yc0 ws xs k w)⟩)
    (p := (T4 ((0 ≤ (0 : Int)∧0 < (xs.length : Int))∧True∧(True∧(IntKind.wrap .i64 (2 - (xs.getD 0 0))) = (2 - (xs.getD 0 0)))∧(0 ≤ 2 - (xs.getD 0 0)∧2 - (xs.getD 0 0) < (xs.length : Int))∧T2 True))∧True) (by kernel_rfl) (by kernel_rfl)
    ⟨⟨oK,oK,oK,oK,(by omega),oK,⟨oK,(w64 rfl (by first | omega | (simp; first | done | omega)) (by first | omega | (simp; first | done | omega)))⟩,(by omega),oK,oK,oK⟩,oK⟩ ?_
  refine Ev.ret ?_
  refine ⟨⟨oK,oK⟩,(?_ : (xs.getD ((2 - (xs.getD 0 0)).toNat) 0) = (avF 10 ws xs k w)),.inr trivial⟩
  rfl

set_option maxRecDepth 100000 in
theorem cat_ok (ws xs : List Int) (k w : Int) (hl : ws.length = 2) (hf : ws.all fitsF = true) (hx : xs.length = ws.length) (hin : inF ws xs = true) : CallOk Try.prog 57 (yc1 ws xs k w) [] false (i6 (avF 11 ws xs k w)) [] := by
  refine CallOk.of_ev Try.func57 rfl rfl rfl ?_
  rintro ⟨_,W,S0,_,susp,_⟩ rfl rfl rfl
  have f0 : 0 < ws.length → 1 ≤ ws.getD 0 0∧ws.getD 0 0 ≤ 8 := fun h => fit_get hf h
  have f1 : 1 < ws.length → 1 ≤ ws.getD 1 0∧ws.getD 1 0 ≤ 8 := fun h => fit_get hf h
  have f2 : 2 < ws.length → 1 ≤ ws.getD 2 0∧ws.getD 2 0 ≤ 8 := fun h => fit_get hf h
  have a0 : 0 < ws.length → 0 ≤ xs.getD 0 0∧xs.getD 0 0 ≤ maskF (ws.getD 0 0) := fun h => in_get hin (by omega)
  have a1 : 1 < ws.length → 0 ≤ xs.getD 1 0∧xs.getD 1 0 ≤ maskF (ws.getD 1 0) := fun h => in_get hin (by omega)
  have a2 : 2 < ws.length → 0 ≤ xs.getD 2 0∧xs.getD 2 0 ≤ maskF (ws.getD 2 0) := fun h => in_get hin (by omega)
  have m0 : 0 < ws.length → 0 ≤ maskF (ws.getD 0 0)∧maskF (ws.getD 0 0) ≤ 255 := fun h => maskF_bound (by have := f0 h; omega) (f0 h).2
  have m1 : 1 < ws.length → 0 ≤ maskF (ws.getD 1 0)∧maskF (ws.getD 1 0) ≤ 255 := fun h => maskF_bound (by have := f1 h; omega) (f1 h).2
  have m2 : 2 < ws.length → 0 ≤ maskF (ws.getD 2 0)∧maskF (ws.getD 2 0) ≤ 255 := fun h => maskF_bound (by have := f2 h; omega) (f2 h).2
  refine Ev.seq ?_
  refine Ev.reg [] [1] (st' := ⟨yc2,(yc0 ws xs k w)⟩)
    (p := T2 True) (by kernel_rfl)
    ⟨oK,oK,oK⟩ ?_
  refine Ev.seq ?_
  refine Ev.draw 15 [false,false,false,false,false,false,false,false,false,false,false,false,false,false,false] [(8,.val (i6 (((xs.getD 0 0).toNat * 2 ^ (ws.getD 1 0).toNat : Nat) : Int))),(13,.val (i6 (((xs.getD 0 0).toNat * 2 ^ (ws.getD 1 0).toNat ||| (xs.getD 1 0).toNat : Nat) : Int)))] [2] (st' := ⟨[(2,(i6 (((xs.getD 0 0).toNat * 2 ^ (ws.getD 1 0).toNat ||| (xs.getD 1 0).toNat : Nat) : Int)))],(yc0 ws xs k w)⟩)
    (p := (T2 ((0 ≤ (0 : Int)∧0 < (xs.length : Int))∧T3 ((0 ≤ (1 : Int)∧1 < (ws.length : Int))∧True∧(0 ≤ (ws.getD 1 0)∧(IntKind.wrap .i64 ((xs.getD 0 0) * 2 ^ min ((ws.getD 1 0).toNat) 64)) = (((xs.getD 0 0).toNat * 2 ^ (ws.getD 1 0).toNat : Nat) : Int))∧T2 ((0 ≤ (1 : Int)∧1 < (xs.length : Int))∧True∧(True∧(IntKind.wrap .i64 (BitVec.ofInt (IntKind.i64).bits (((xs.getD 0 0).toNat * 2 ^ (ws.getD 1 0).toNat : Nat) : Int) ||| BitVec.ofInt (IntKind.i64).bits (xs.getD 1 0)).toNat) = (((xs.getD 0 0).toNat * 2 ^ (ws.getD 1 0).toNat ||| (xs.getD 1 0).toNat : Nat) : Int))∧True∧True))))∧True) (by kernel_rfl) (by kernel_rfl)
    ⟨⟨oK,oK,(by first | omega | (simp; first | done | omega)),oK,oK,oK,(by first | omega | (simp; first | done | omega)),oK,⟨(by have := f1 (by omega); omega),(shl_val (by have := a0 (by omega); have := m0 (by omega); omega) (by have := f1 (by omega); omega))⟩,oK,oK,(by first | omega | (simp; first | done | omega)),oK,⟨oK,(cat_val (by have := a0 (by omega); have := m0 (by omega); omega) (by have := f1 (by omega); omega) (by have := a1 (by omega); have := m1 (by omega); omega))⟩,oK,oK⟩,oK⟩ ?_
  refine Ev.ret ?_
  refine ⟨⟨oK,oK⟩,(?_ : (((xs.getD 0 0).toNat * 2 ^ (ws.getD 1 0).toNat ||| (xs.getD 1 0).toNat : Nat) : Int) = (avF 11 ws xs k w)),.inr trivial⟩
  rfl

set_option maxRecDepth 100000 in
theorem slice_ok (ws xs : List Int) (k w : Int) (hl : ws.length = 1) (hf : ws.all fitsF = true) (hx : xs.length = ws.length) (hin : inF ws xs = true) (hk : 0 ≤ k∧k ≤ 8∧fitsF w = true) : CallOk Try.prog 59 (yc1 ws xs k w) [] false (i6 (avF 12 ws xs k w)) [] := by
  refine CallOk.of_ev Try.func59 rfl rfl rfl ?_
  rintro ⟨_,W,S0,_,susp,_⟩ rfl rfl rfl
  have f0 : 0 < ws.length → 1 ≤ ws.getD 0 0∧ws.getD 0 0 ≤ 8 := fun h => fit_get hf h
  have f1 : 1 < ws.length → 1 ≤ ws.getD 1 0∧ws.getD 1 0 ≤ 8 := fun h => fit_get hf h
  have f2 : 2 < ws.length → 1 ≤ ws.getD 2 0∧ws.getD 2 0 ≤ 8 := fun h => fit_get hf h
  have a0 : 0 < ws.length → 0 ≤ xs.getD 0 0∧xs.getD 0 0 ≤ maskF (ws.getD 0 0) := fun h => in_get hin (by omega)
  have a1 : 1 < ws.length → 0 ≤ xs.getD 1 0∧xs.getD 1 0 ≤ maskF (ws.getD 1 0) := fun h => in_get hin (by omega)
  have a2 : 2 < ws.length → 0 ≤ xs.getD 2 0∧xs.getD 2 0 ≤ maskF (ws.getD 2 0) := fun h => in_get hin (by omega)
  have m0 : 0 < ws.length → 0 ≤ maskF (ws.getD 0 0)∧maskF (ws.getD 0 0) ≤ 255 := fun h => maskF_bound (by have := f0 h; omega) (f0 h).2
  have m1 : 1 < ws.length → 0 ≤ maskF (ws.getD 1 0)∧maskF (ws.getD 1 0) ≤ 255 := fun h => maskF_bound (by have := f1 h; omega) (f1 h).2
  have m2 : 2 < ws.length → 0 ≤ maskF (ws.getD 2 0)∧maskF (ws.getD 2 0) ≤ 255 := fun h => maskF_bound (by have := f2 h; omega) (f2 h).2
  have hw := fits_iff.1 hk.2.2
  refine Ev.seq ?_
  refine Ev.reg [] [1] (st' := ⟨yc2,(yc0 ws xs k w)⟩)
    (p := T2 True) (by kernel_rfl)
    ⟨oK,oK,oK⟩ ?_
  refine Ev.seq ?_
  refine Ev.draw 12 [false,false,false,false,false,false,false,false,false,false,false,false] [(6,.val (i6 (xs.getD 0 0 / 2 ^ k.toNat))),(9,.call none false (i6 (maskF w))),(10,.val (i6 ((xs.getD 0 0 / 2 ^ k.toNat) % 2 ^ w.toNat)))] [2] (st' := ⟨[(2,(i6 ((xs.getD 0 0 / 2 ^ k.toNat) % 2 ^ w.toNat)))],(yc0 ws xs k w)⟩)
    (p := (T2 ((0 ≤ (0 : Int)∧0 < (xs.length : Int))∧T3 ((0 ≤ k∧(Int.fdiv (xs.getD 0 0) (2 ^ min k.toNat 64)) = (xs.getD 0 0 / 2 ^ k.toNat))∧T2 (callOb Try.prog 14 (yc0 ws xs k w) [(i6 w)] none false (i6 (maskF w))∧(True∧(IntKind.wrap .i64 (BitVec.ofInt (IntKind.i64).bits (xs.getD 0 0 / 2 ^ k.toNat) &&& BitVec.ofInt (IntKind.i64).bits (maskF w)).toNat) = ((xs.getD 0 0 / 2 ^ k.toNat) % 2 ^ w.toNat))∧True∧True))))∧True) (by kernel_rfl) (by kernel_rfl)
    ⟨⟨oK,oK,(by first | omega | (simp; first | done | omega)),oK,oK,oK,⟨(by omega),(shr_val hk.1 (by omega))⟩,oK,oK,(mask_ok _),⟨oK,(by rw [maskF_in (by omega) (by omega)]; exact and_mask (by omega))⟩,oK,oK⟩,oK⟩ ?_
  refine Ev.ret ?_
  refine ⟨⟨oK,oK⟩,(?_ : ((xs.getD 0 0 / 2 ^ k.toNat) % 2 ^ w.toNat) = (avF 12 ws xs k w)),.inr trivial⟩
  rfl

end Go.Proofs.Ytaghhicmnalmmaa
