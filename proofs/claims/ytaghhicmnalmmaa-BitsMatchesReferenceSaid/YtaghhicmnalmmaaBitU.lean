/-
  The reference of package bits: values.
-/
import Derived.Test.YtaghhicmnalmmaaBitO
namespace Go.Proofs.Ytaghhicmnalmmaa
open Go.RowKit
set_option linter.unusedVariables false
set_option linter.unusedSimpArgs false
abbrev yu15 (xs nums : List Int) : Box := (.var 36 [(LI xs),(LI nums)])
abbrev yu16 : Box := (.var 32 [(i6 0),(i6 0)])
abbrev yu6 (op : Int) (ws nums : List Int) : List D := [(i6 (widthV op ws (nums.getD 0 0) (nums.getD 1 0))),(i6 (widthE op ws (nums.getD 0 0) (nums.getD 1 0)))]
abbrev yu0 (xs nums : List Int) (op : Int) (ws : List Int) : List Box := [(yu15 xs nums),yu16,(.var 32 (yu6 op ws nums))]
abbrev yu17 (ws : List Int) : D := (i6 (ws.getD 0 0))
abbrev yu1 (ws : List Int) : List Box := [(.var 23 [(yu17 ws),(i6 0)])]
abbrev yu10 (op : Int) (ws xs nums : List Int) : D := (i6 (avF op ws xs (nums.getD 0 0) (nums.getD 1 0)))
abbrev yu2 (xs nums : List Int) (op : Int) (ws : List Int) : List Box := [(yu15 xs nums),(.var 32 [(yu10 op ws xs nums),(i6 0)]),(.var 32 (yu6 op ws nums))]
abbrev yu3 (ws : List Int) : D := (i6 (maskF (ws.getD 0 0)))
abbrev yu4 : D := (.ptr 1 0 0 0)
abbrev yu5 : D := (.ptr 0 0 0 0)
abbrev yu7 (op : Int) (ws xs nums : List Int) : List (Nat × D) := [(0,(i6 op)),(1,(LI ws)),(6,yu4),(7,(LI xs)),(8,(LI nums)),(64,(i6 op)),(65,(dB false))]
abbrev yu8 (op : Int) (ws xs nums : List Int) : List (Nat × D) := [(0,(i6 op)),(1,(LI ws)),(6,yu4),(7,(LI xs)),(8,(LI nums)),(64,(i6 op)),(71,(dB false))]
abbrev yu9 (op : Int) (ws xs nums : List Int) : List (Nat × D) := [(0,(i6 op)),(1,(LI ws)),(6,yu4),(7,(LI xs)),(8,(LI nums)),(64,(i6 op))]
abbrev yu11 (ws : List Int) : List Box := [(.var 23 [(yu17 ws),(i6 (ws.getD 1 0))])]
abbrev yu12 (op : Int) (ws xs : List Int) : List (Nat × D) := [(0,(i6 op)),(1,(LI ws)),(6,yu4),(7,(LI xs)),(64,(i6 op)),(87,(dB false))]
abbrev yu13 (ws : List Int) : D := (.agg [(yu17 ws),(i6 0)])
abbrev yu14 (op : Int) (ws xs : List Int) : List (Nat × D) := [(0,(i6 op)),(1,(LI ws)),(6,yu4),(7,(LI xs)),(93,(dB false))]

set_option maxRecDepth 100000 in
theorem value_2 (ws xs : List Int) (k w : Int) (hl : ws.length = 1) (hf : ws.all fitsF = true) (hx : xs.length = ws.length) (hin : inF ws xs = true) : CallOk Try.prog 30 [(i6 2),(yu13 ws),(LI xs)] [] false (i6 (avF 2 ws xs k w)) [] := by
  refine CallOk.of_ev Try.func30 rfl rfl rfl ?_
  rintro ⟨_,W,S0,_,susp,_⟩ rfl rfl rfl
  have f0 : 0 < ws.length → 1 ≤ ws.getD 0 0∧ws.getD 0 0 ≤ 8 := fun h => fit_get hf h
  have f1 : 1 < ws.length → 1 ≤ ws.getD 1 0∧ws.getD 1 0 ≤ 8 := fun h => fit_get hf h
  have f2 : 2 < ws.length → 1 ≤ ws.getD 2 0∧ws.getD 2 0 ≤ 8 := fun h => fit_get hf h
  have a0 : 0 < ws.length → 0 ≤ xs.getD 0 0∧xs.getD 0 0 ≤ maskF (ws.getD 0 0) := fun h => in_get hin (by omega)
  have a1 : 1 < ws.length → 0 ≤ xs.getD 1 0∧xs.getD 1 0 ≤ maskF (ws.getD 1 0) := fun h => in_get hin (by omega)
  have a2 : 2 < ws.length → 0 ≤ xs.getD 2 0∧xs.getD 2 0 ≤ maskF (ws.getD 2 0) := fun h => in_get hin (by omega)
  have m0 : 0 < ws.length → 0 ≤ maskF (ws.getD 0 0)∧maskF (ws.getD 0 0) ≤ 255 := fun h => maskF_bound (by have := f0 h; omega) (f0 h).2
  have m1 : 1 < ws.length → 0 ≤ maskF (ws.getD 1 0)∧maskF (ws.getD 1 0) ≤ 255 := fun h => maskF_bound (by have := f1 h; omega) (f1 h).2
  have m2 : 2 < ws.length → 0 ≤ maskF (ws.getD 2 0)∧maskF (ws.getD 2 0) ≤ 255 := fun h => maskF_bound (by have := f2 h; omega) (f2 h).2
  have b0 := f0 (by omega)
  have c0 := a0 (by omega)
  have d0 := m0 (by omega)
  refine Ev.seq ?_
  refine Ev.reg [] [0,2,4] (st' := ⟨[(0,(i6 2)),(2,(LI xs)),(4,yu5)],(yu1 ws)⟩)
    (p := T2 True) (by kernel_rfl)
    ⟨oK,oK,oK⟩ ?_
  refine Ev.seq ?_
  refine Ev.reg [(2,.call none false (yu3 ws))] [0,2,4,7] (st' := ⟨[(0,(i6 2)),(2,(LI xs)),(4,yu5),(7,(yu3 ws))],(yu1 ws)⟩)
    (p := ((0 ≤ (0 : Int)∧0 < (2 : Int))∧True)∧True∧callOb Try.prog 15 (yu1 ws) [(yu17 ws)] none false (yu3 ws)∧True∧True) (by kernel_rfl)
    ⟨⟨by omega,oK⟩,oK,(rmask_ok _),oK,oK⟩ ?_
  refine Ev.seq ?_
  refine Ev.seq ?_
  refine Ev.reg [] [2,4,7,11] (st' := ⟨[(2,(LI xs)),(4,yu5),(7,(yu3 ws)),(11,(i6 2))],(yu1 ws)⟩)
    (p := True∧True) (by kernel_rfl)
    ⟨oK,oK⟩ ?_
  refine Ev.block ?_
  refine Ev.seq ?_
  refine Ev.reg [(0,.val (dB true))] [2,4,7,11,12] (st' := ⟨[(2,(LI xs)),(4,yu5),(7,(yu3 ws)),(11,(i6 2)),(12,(dB true))],(yu1 ws)⟩)
    (p := (True∧true = true)∧True∧True) (by kernel_rfl)
    ⟨⟨oK,(by decide)⟩,oK,oK⟩ ?_
  refine Ev.cond true rfl (fun _ => ?_) (fun h => (by cases h))
  refine Ev.seq ?_
  refine Ev.reg [(4,.val (i6 ((maskF (ws.getD 0 0)) - (xs.getD 0 0))))] [6] (st' := ⟨[(6,(i6 ((maskF (ws.getD 0 0)) - (xs.getD 0 0))))],(yu1 ws)⟩)
    (p := T2 ((0 ≤ (0 : Int)∧0 < (xs.length : Int))∧True∧(True∧(IntKind.wrap .i64 ((maskF (ws.getD 0 0)) - (xs.getD 0 0))) = ((maskF (ws.getD 0 0)) - (xs.getD 0 0)))∧True∧True)) (by kernel_rfl)
    ⟨oK,oK,(by first | omega | (simp; first | done | omega)),oK,⟨oK,(w64 rfl (by first | omega | (simp; first | done | omega)) (by first | omega | (simp; first | done | omega)))⟩,oK,oK⟩ ?_
  refine Ev.ret ?_
  refine ⟨⟨oK,oK⟩,(?_ : ((maskF (ws.getD 0 0)) - (xs.getD 0 0)) = (avF 2 ws xs k w)),.inr trivial⟩
  exact not_val (by omega) c0

set_option maxRecDepth 100000 in
theorem value_3 (ws xs : List Int) (k w : Int) (hl : ws.length = 2) (hf : ws.all fitsF = true) (hx : xs.length = ws.length) (hin : inF ws xs = true) (hsame : ws.getD 1 0 = ws.getD 0 0) : CallOk Try.prog 30 [(i6 3),(yu13 ws),(LI xs)] [] false (i6 (avF 3 ws xs k w)) [] := by
  refine CallOk.of_ev Try.func30 rfl rfl rfl ?_
  rintro ⟨_,W,S0,_,susp,_⟩ rfl rfl rfl
  have f0 : 0 < ws.length → 1 ≤ ws.getD 0 0∧ws.getD 0 0 ≤ 8 := fun h => fit_get hf h
  have f1 : 1 < ws.length → 1 ≤ ws.getD 1 0∧ws.getD 1 0 ≤ 8 := fun h => fit_get hf h
  have f2 : 2 < ws.length → 1 ≤ ws.getD 2 0∧ws.getD 2 0 ≤ 8 := fun h => fit_get hf h
  have a0 : 0 < ws.length → 0 ≤ xs.getD 0 0∧xs.getD 0 0 ≤ maskF (ws.getD 0 0) := fun h => in_get hin (by omega)
  have a1 : 1 < ws.length → 0 ≤ xs.getD 1 0∧xs.getD 1 0 ≤ maskF (ws.getD 1 0) := fun h => in_get hin (by omega)
  have a2 : 2 < ws.length → 0 ≤ xs.getD 2 0∧xs.getD 2 0 ≤ maskF (ws.getD 2 0) := fun h => in_get hin (by omega)
  have m0 : 0 < ws.length → 0 ≤ maskF (ws.getD 0 0)∧maskF (ws.getD 0 0) ≤ 255 := fun h => maskF_bound (by have := f0 h; omega) (f0 h).2
  have m1 : 1 < ws.length → 0 ≤ maskF (ws.getD 1 0)∧maskF (ws.getD 1 0) ≤ 255 := fun h => maskF_bound (by have := f1 h; omega) (f1 h).2
  have m2 : 2 < ws.length → 0 ≤ maskF (ws.getD 2 0)∧maskF (ws.getD 2 0) ≤ 255 := fun h => maskF_bound (by have := f2 h; omega) (f2 h).2
  have b0 := f0 (by omega)
  have c0 := a0 (by omega)
  have d0 := m0 (by omega)
  have b1 := f1 (by omega)
  have c1 := a1 (by omega)
  have d1 := m1 (by omega)
  have hw1 : maskF (ws.getD 1 0) = maskF (ws.getD 0 0) := by rw [hsame]
  refine Ev.seq ?_
  refine Ev.reg [] [0,2,4] (st' := ⟨[(0,(i6 3)),(2,(LI xs)),(4,yu5)],(yu1 ws)⟩)
    (p := T2 True) (by kernel_rfl)
    ⟨oK,oK,oK⟩ ?_
  refine Ev.seq ?_
  refine Ev.reg [(2,.call none false (yu3 ws))] [0,2,4,7] (st' := ⟨[(0,(i6 3)),(2,(LI xs)),(4,yu5),(7,(yu3 ws))],(yu1 ws)⟩)
    (p := ((0 ≤ (0 : Int)∧0 < (2 : Int))∧True)∧True∧callOb Try.prog 15 (yu1 ws) [(yu17 ws)] none false (yu3 ws)∧True∧True) (by kernel_rfl)
    ⟨⟨by omega,oK⟩,oK,(rmask_ok _),oK,oK⟩ ?_
  refine Ev.seq ?_
  refine Ev.seq ?_
  refine Ev.reg [] [2,4,7,11] (st' := ⟨[(2,(LI xs)),(4,yu5),(7,(yu3 ws)),(11,(i6 3))],(yu1 ws)⟩)
    (p := True∧True) (by kernel_rfl)
    ⟨oK,oK⟩ ?_
  refine Ev.block ?_
  refine Ev.seq ?_
  refine Ev.reg [(0,.val (dB false))] [2,4,7,11,12] (st' := ⟨[(2,(LI xs)),(4,yu5),(7,(yu3 ws)),(11,(i6 3)),(12,(dB false))],(yu1 ws)⟩)
    (p := (True∧false = false)∧True∧True) (by kernel_rfl)
    ⟨⟨oK,(by decide)⟩,oK,oK⟩ ?_
  refine Ev.cond false rfl (fun h => (by cases h)) (fun _ => ?_)
  refine Ev.seq ?_
  refine Ev.reg [(0,.val (dB true))] [2,4,7,11,19] (st' := ⟨[(2,(LI xs)),(4,yu5),(7,(yu3 ws)),(11,(i6 3)),(19,(dB true))],(yu1 ws)⟩)
    (p := (True∧true = true)∧True∧True) (by kernel_rfl)
    ⟨⟨oK,(by decide)⟩,oK,oK⟩ ?_
  refine Ev.cond true rfl (fun _ => ?_) (fun h => (by cases h))
  refine Ev.seq ?_
  refine Ev.draw 8 [false,false,false,false,false,false,false,false] [(6,.val (i6 (((xs.getD 0 0).toNat &&& (xs.getD 1 0).toNat : Nat) : Int)))] [6] (st' := ⟨[(6,(i6 (((xs.getD 0 0).toNat &&& (xs.getD 1 0).toNat : Nat) : Int)))],(yu1 ws)⟩)
    (p := (True∧(0 ≤ (0 : Int)∧0 < (xs.length : Int))∧T2 ((0 ≤ (1 : Int)∧1 < (xs.length : Int))∧True∧(True∧(IntKind.wrap .i64 (BitVec.ofInt (IntKind.i64).bits (xs.getD 0 0) &&& BitVec.ofInt (IntKind.i64).bits (xs.getD 1 0)).toNat) = (((xs.getD 0 0).toNat &&& (xs.getD 1 0).toNat : Nat) : Int))∧True∧True))∧True) (by kernel_rfl) (by kernel_rfl)
    ⟨⟨oK,(by first | omega | (simp; first | done | omega)),oK,oK,(by first | omega | (simp; first | done | omega)),oK,⟨oK,(int_and64 (by omega) (by omega) (by omega) (by omega))⟩,oK,oK⟩,oK⟩ ?_
  refine Ev.ret ?_
  refine ⟨⟨oK,oK⟩,(?_ : (((xs.getD 0 0).toNat &&& (xs.getD 1 0).toNat : Nat) : Int) = (avF 3 ws xs k w)),.inr trivial⟩
  rfl

set_option maxRecDepth 100000 in
theorem value_4 (ws xs : List Int) (k w : Int) (hl : ws.length = 2) (hf : ws.all fitsF = true) (hx : xs.length = ws.length) (hin : inF ws xs = true) (hsame : ws.getD 1 0 = ws.getD 0 0) : CallOk Try.prog 30 [(i6 4),(yu13 ws),(LI xs)] [] false (i6 (avF 4 ws xs k w)) [] := by
  refine CallOk.of_ev Try.func30 rfl rfl rfl ?_
  rintro ⟨_,W,S0,_,susp,_⟩ rfl rfl rfl
  have f0 : 0 < ws.length → 1 ≤ ws.getD 0 0∧ws.getD 0 0 ≤ 8 := fun h => fit_get hf h
  have f1 : 1 < ws.length → 1 ≤ ws.getD 1 0∧ws.getD 1 0 ≤ 8 := fun h => fit_get hf h
  have f2 : 2 < ws.length → 1 ≤ ws.getD 2 0∧ws.getD 2 0 ≤ 8 := fun h => fit_get hf h
  have a0 : 0 < ws.length → 0 ≤ xs.getD 0 0∧xs.getD 0 0 ≤ maskF (ws.getD 0 0) := fun h => in_get hin (by omega)
  have a1 : 1 < ws.length → 0 ≤ xs.getD 1 0∧xs.getD 1 0 ≤ maskF (ws.getD 1 0) := fun h => in_get hin (by omega)
  have a2 : 2 < ws.length → 0 ≤ xs.getD 2 0∧xs.getD 2 0 ≤ maskF (ws.getD 2 0) := fun h => in_get hin (by omega)
  have m0 : 0 < ws.length → 0 ≤ maskF (ws.getD 0 0)∧maskF (ws.getD 0 0) ≤ 255 := fun h => maskF_bound (by have := f0 h; omega) (f0 h).2
  have m1 : 1 < ws.length → 0 ≤ maskF (ws.getD 1 0)∧maskF (ws.getD 1 0) ≤ 255 := fun h => maskF_bound (by have := f1 h; omega) (f1 h).2
  have m2 : 2 < ws.length → 0 ≤ maskF (ws.getD 2 0)∧maskF (ws.getD 2 0) ≤ 255 := fun h => maskF_bound (by have := f2 h; omega) (f2 h).2
  have b0 := f0 (by omega)
  have c0 := a0 (by omega)
  have d0 := m0 (by omega)
  have b1 := f1 (by omega)
  have c1 := a1 (by omega)
  have d1 := m1 (by omega)
  have hw1 : maskF (ws.getD 1 0) = maskF (ws.getD 0 0) := by rw [hsame]
  refine Ev.seq ?_
  refine Ev.reg [] [0,2,4] (st' := ⟨[(0,(i6 4)),(2,(LI xs)),(4,yu5)],(yu1 ws)⟩)
    (p := T2 True) (by kernel_rfl)
    ⟨oK,oK,oK⟩ ?_
  refine Ev.seq ?_
  refine Ev.reg [(2,.call none false (yu3 ws))] [0,2,4,7] (st' := ⟨[(0,(i6 4)),(2,(LI xs)),(4,yu5),(7,(yu3 ws))],(yu1 ws)⟩)
    (p := ((0 ≤ (0 : Int)∧0 < (2 : Int))∧True)∧True∧callOb Try.prog 15 (yu1 ws) [(yu17 ws)] none false (yu3 ws)∧True∧True) (by kernel_rfl)
    ⟨⟨by omega,oK⟩,oK,(rmask_ok _),oK,oK⟩ ?_
  refine Ev.seq ?_
  refine Ev.seq ?_
  refine Ev.reg [] [2,4,7,11] (st' := ⟨[(2,(LI xs)),(4,yu5),(7,(yu3 ws)),(11,(i6 4))],(yu1 ws)⟩)
    (p := True∧True) (by kernel_rfl)
    ⟨oK,oK⟩ ?_
  refine Ev.block ?_
  refine Ev.seq ?_
  refine Ev.reg [(0,.val (dB false))] [2,4,7,11,12] (st' := ⟨[(2,(LI xs)),(4,yu5),(7,(yu3 ws)),(11,(i6 4)),(12,(dB false))],(yu1 ws)⟩)
    (p := (True∧false = false)∧True∧True) (by kernel_rfl)
    ⟨⟨oK,(by decide)⟩,oK,oK⟩ ?_
  refine Ev.cond false rfl (fun h => (by cases h)) (fun _ => ?_)
  refine Ev.seq ?_
  refine Ev.reg [(0,.val (dB false))] [2,4,7,11,19] (st' := ⟨[(2,(LI xs)),(4,yu5),(7,(yu3 ws)),(11,(i6 4)),(19,(dB false))],(yu1 ws)⟩)
    (p := (True∧false = false)∧True∧True) (by kernel_rfl)
    ⟨⟨oK,(by decide)⟩,oK,oK⟩ ?_
  refine Ev.cond false rfl (fun h => (by cases h)) (fun _ => ?_)
  refine Ev.seq ?_
  refine Ev.reg [(0,.val (dB true))] [2,4,7,11,28] (st' := ⟨[(2,(LI xs)),(4,yu5),(7,(yu3 ws)),(11,(i6 4)),(28,(dB true))],(yu1 ws)⟩)
    (p := (True∧true = true)∧True∧True) (by kernel_rfl)
    ⟨⟨oK,(by decide)⟩,oK,oK⟩ ?_
  refine Ev.cond true rfl (fun _ => ?_) (fun h => (by cases h))
  refine Ev.seq ?_
  refine Ev.draw 8 [false,false,false,false,false,false,false,false] [(6,.val (i6 (((xs.getD 0 0).toNat ||| (xs.getD 1 0).toNat : Nat) : Int)))] [6] (st' := ⟨[(6,(i6 (((xs.getD 0 0).toNat ||| (xs.getD 1 0).toNat : Nat) : Int)))],(yu1 ws)⟩)
    (p := (True∧(0 ≤ (0 : Int)∧0 < (xs.length : Int))∧T2 ((0 ≤ (1 : Int)∧1 < (xs.length : Int))∧True∧(True∧(IntKind.wrap .i64 (BitVec.ofInt (IntKind.i64).bits (xs.getD 0 0) ||| BitVec.ofInt (IntKind.i64).bits (xs.getD 1 0)).toNat) = (((xs.getD 0 0).toNat ||| (xs.getD 1 0).toNat : Nat) : Int))∧True∧True))∧True) (by kernel_rfl) (by kernel_rfl)
    ⟨⟨oK,(by first | omega | (simp; first | done | omega)),oK,oK,(by first | omega | (simp; first | done | omega)),oK,⟨oK,(int_or64 (by omega) (by omega) (by omega) (by omega))⟩,oK,oK⟩,oK⟩ ?_
  refine Ev.ret ?_
  refine ⟨⟨oK,oK⟩,(?_ : (((xs.getD 0 0).toNat ||| (xs.getD 1 0).toNat : Nat) : Int) = (avF 4 ws xs k w)),.inr trivial⟩
  rfl

set_option maxRecDepth 100000 in
theorem value_5 (ws xs : List Int) (k w : Int) (hl : ws.length = 2) (hf : ws.all fitsF = true) (hx : xs.length = ws.length) (hin : inF ws xs = true) (hsame : ws.getD 1 0 = ws.getD 0 0) : CallOk Try.prog 30 [(i6 5),(yu13 ws),(LI xs)] [] false (i6 (avF 5 ws xs k w)) [] := by
  refine CallOk.of_ev Try.func30 rfl rfl rfl ?_
  rintro ⟨_,W,S0,_,susp,_⟩ rfl rfl rfl
  have f0 : 0 < ws.length → 1 ≤ ws.getD 0 0∧ws.getD 0 0 ≤ 8 := fun h => fit_get hf h
  have f1 : 1 < ws.length → 1 ≤ ws.getD 1 0∧ws.getD 1 0 ≤ 8 := fun h => fit_get hf h
  have f2 : 2 < ws.length → 1 ≤ ws.getD 2 0∧ws.getD 2 0 ≤ 8 := fun h => fit_get hf h
  have a0 : 0 < ws.length → 0 ≤ xs.getD 0 0∧xs.getD 0 0 ≤ maskF (ws.getD 0 0) := fun h => in_get hin (by omega)
  have a1 : 1 < ws.length → 0 ≤ xs.getD 1 0∧xs.getD 1 0 ≤ maskF (ws.getD 1 0) := fun h => in_get hin (by omega)
  have a2 : 2 < ws.length → 0 ≤ xs.getD 2 0∧xs.getD 2 0 ≤ maskF (ws.getD 2 0) := fun h => in_get hin (by omega)
  have m0 : 0 < ws.length → 0 ≤ maskF (ws.getD 0 0)∧maskF (ws.getD 0 0) ≤ 255 := fun h => maskF_bound (by have := f0 h; omega) (f0 h).2
  have m1 : 1 < ws.length → 0 ≤ maskF (ws.getD 1 0)∧maskF (ws.getD 1 0) ≤ 255 := fun h => maskF_bound (by have := f1 h; omega) (f1 h).2
  have m2 : 2 < ws.length → 0 ≤ maskF (ws.getD 2 0)∧maskF (ws.getD 2 0) ≤ 255 := fun h => maskF_bound (by have := f2 h; omega) (f2 h).2
  have b0 := f0 (by omega)
  have c0 := a0 (by omega)
  have d0 := m0 (by omega)
  have b1 := f1 (by omega)
  have c1 := a1 (by omega)
  have d1 := m1 (by omega)
  have hw1 : maskF (ws.getD 1 0) = maskF (ws.getD 0 0) := by rw [hsame]
  refine Ev.seq ?_
  refine Ev.reg [] [0,2,4] (st' := ⟨[(0,(i6 5)),(2,(LI xs)),(4,yu5)],(yu1 ws)⟩)
    (p := T2 True) (by kernel_rfl)
    ⟨oK,oK,oK⟩ ?_
  refine Ev.seq ?_
  refine Ev.reg [(2,.call none false (yu3 ws))] [0,2,4,7] (st' := ⟨[(0,(i6 5)),(2,(LI xs)),(4,yu5),(7,(yu3 ws))],(yu1 ws)⟩)
    (p := ((0 ≤ (0 : Int)∧0 < (2 : Int))∧True)∧True∧callOb Try.prog 15 (yu1 ws) [(yu17 ws)] none false (yu3 ws)∧True∧True) (by kernel_rfl)
    ⟨⟨by omega,oK⟩,oK,(rmask_ok _),oK,oK⟩ ?_
  refine Ev.seq ?_
  refine Ev.seq ?_
  refine Ev.reg [] [2,4,7,11] (st' := ⟨[(2,(LI xs)),(4,yu5),(7,(yu3 ws)),(11,(i6 5))],(yu1 ws)⟩)
    (p := True∧True) (by kernel_rfl)
    ⟨oK,oK⟩ ?_
  refine Ev.block ?_
  refine Ev.seq ?_
  refine Ev.reg [(0,.val (dB false))] [2,4,7,11,12] (st' := ⟨[(2,(LI xs)),(4,yu5),(7,(yu3 ws)),(11,(i6 5)),(12,(dB false))],(yu1 ws)⟩)
    (p := (True∧false = false)∧True∧True) (by kernel_rfl)
    ⟨⟨oK,(by decide)⟩,oK,oK⟩ ?_
  refine Ev.cond false rfl (fun h => (by cases h)) (fun _ => ?_)
  refine Ev.seq ?_
  refine Ev.reg [(0,.val (dB false))] [2,4,7,11,19] (st' := ⟨[(2,(LI xs)),(4,yu5),(7,(yu3 ws)),(11,(i6 5)),(19,(dB false))],(yu1 ws)⟩)
    (p := (True∧false = false)∧True∧True) (by kernel_rfl)
    ⟨⟨oK,(by decide)⟩,oK,oK⟩ ?_
  refine Ev.cond false rfl (fun h => (by cases h)) (fun _ => ?_)
  refine Ev.seq ?_
  refine Ev.reg [(0,.val (dB false))] [2,4,7,11,28] (st' := ⟨[(2,(LI xs)),(4,yu5),(7,(yu3 ws)),(11,(i6 5)),(28,(dB false))],(yu1 ws)⟩)
    (p := (True∧false = false)∧True∧True) (by kernel_rfl)
    ⟨⟨oK,(by decide)⟩,oK,oK⟩ ?_
  refine Ev.cond false rfl (fun h => (by cases h)) (fun _ => ?_)
  refine Ev.seq ?_
  refine Ev.reg [(0,.val (dB true))] [2,4,7,11,37] (st' := ⟨[(2,(LI xs)),(4,yu5),(7,(yu3 ws)),(11,(i6 5)),(37,(dB true))],(yu1 ws)⟩)
    (p := (True∧true = true)∧True∧True) (by kernel_rfl)
    ⟨⟨oK,(by decide)⟩,oK,oK⟩ ?_
  refine Ev.cond true rfl (fun _ => ?_) (fun h => (by cases h))
  refine Ev.seq ?_
  refine Ev.draw 8 [false,false,false,false,false,false,false,false] [(6,.val (i6 (((xs.getD 0 0).toNat ^^^ (xs.getD 1 0).toNat : Nat) : Int)))] [6] (st' := ⟨[(6,(i6 (((xs.getD 0 0).toNat ^^^ (xs.getD 1 0).toNat : Nat) : Int)))],(yu1 ws)⟩)
    (p := (True∧(0 ≤ (0 : Int)∧0 < (xs.length : Int))∧T2 ((0 ≤ (1 : Int)∧1 < (xs.length : Int))∧True∧(True∧(IntKind.wrap .i64 (BitVec.ofInt (IntKind.i64).bits (xs.getD 0 0) ^^^ BitVec.ofInt (IntKind.i64).bits (xs.getD 1 0)).toNat) = (((xs.getD 0 0).toNat ^^^ (xs.getD 1 0).toNat : Nat) : Int))∧True∧True))∧True) (by kernel_rfl) (by kernel_rfl)
    ⟨⟨oK,(by first | omega | (simp; first | done | omega)),oK,oK,(by first | omega | (simp; first | done | omega)),oK,⟨oK,(int_xor64 (by omega) (by omega) (by omega) (by omega))⟩,oK,oK⟩,oK⟩ ?_
  refine Ev.ret ?_
  refine ⟨⟨oK,oK⟩,(?_ : (((xs.getD 0 0).toNat ^^^ (xs.getD 1 0).toNat : Nat) : Int) = (avF 5 ws xs k w)),.inr trivial⟩
  rfl

set_option maxRecDepth 100000 in
theorem value_6 (ws xs : List Int) (k w : Int) (hl : ws.length = 2) (hf : ws.all fitsF = true) (hx : xs.length = ws.length) (hin : inF ws xs = true) (hsame : ws.getD 1 0 = ws.getD 0 0) : CallOk Try.prog 30 [(i6 6),(yu13 ws),(LI xs)] [] false (i6 (avF 6 ws xs k w)) [] := by
  refine CallOk.of_ev Try.func30 rfl rfl rfl ?_
  rintro ⟨_,W,S0,_,susp,_⟩ rfl rfl rfl
  have f0 : 0 < ws.length → 1 ≤ ws.getD 0 0∧ws.getD 0 0 ≤ 8 := fun h => fit_get hf h
  have f1 : 1 < ws.length → 1 ≤ ws.getD 1 0∧ws.getD 1 0 ≤ 8 := fun h => fit_get hf h
  have f2 : 2 < ws.length → 1 ≤ ws.getD 2 0∧ws.getD 2 0 ≤ 8 := fun h => fit_get hf h
  have a0 : 0 < ws.length → 0 ≤ xs.getD 0 0∧xs.getD 0 0 ≤ maskF (ws.getD 0 0) := fun h => in_get hin (by omega)
  have a1 : 1 < ws.length → 0 ≤ xs.getD 1 0∧xs.getD 1 0 ≤ maskF (ws.getD 1 0) := fun h => in_get hin (by omega)
  have a2 : 2 < ws.length → 0 ≤ xs.getD 2 0∧xs.getD 2 0 ≤ maskF (ws.getD 2 0) := fun h => in_get hin (by omega)
  have m0 : 0 < ws.length → 0 ≤ maskF (ws.getD 0 0)∧maskF (ws.getD 0 0) ≤ 255 := fun h => maskF_bound (by have := f0 h; omega) (f0 h).2
  have m1 : 1 < ws.length → 0 ≤ maskF (ws.getD 1 0)∧maskF (ws.getD 1 0) ≤ 255 := fun h => maskF_bound (by have := f1 h; omega) (f1 h).2
  have m2 : 2 < ws.length → 0 ≤ maskF (ws.getD 2 0)∧maskF (ws.getD 2 0) ≤ 255 := fun h => maskF_bound (by have := f2 h; omega) (f2 h).2
  have b0 := f0 (by omega)
  have c0 := a0 (by omega)
  have d0 := m0 (by omega)
  have b1 := f1 (by omega)
  have c1 := a1 (by omega)
  have d1 := m1 (by omega)
  have hw1 : maskF (ws.getD 1 0) = maskF (ws.getD 0 0) := by rw [hsame]
  refine Ev.seq ?_
  refine Ev.reg [] [0,2,4] (st' := ⟨[(0,(i6 6)),(2,(LI xs)),(4,yu5)],(yu1 ws)⟩)
    (p := T2 True) (by kernel_rfl)
    ⟨oK,oK,oK⟩ ?_
  refine Ev.seq ?_
  refine Ev.reg [(2,.call none false (yu3 ws))] [0,2,4,7] (st' := ⟨[(0,(i6 6)),(2,(LI xs)),(4,yu5),(7,(yu3 ws))],(yu1 ws)⟩)
    (p := ((0 ≤ (0 : Int)∧0 < (2 : Int))∧True)∧True∧callOb Try.prog 15 (yu1 ws) [(yu17 ws)] none false (yu3 ws)∧True∧True) (by kernel_rfl)
    ⟨⟨by omega,oK⟩,oK,(rmask_ok _),oK,oK⟩ ?_
  refine Ev.seq ?_
  refine Ev.seq ?_
  refine Ev.reg [] [2,4,7,11] (st' := ⟨[(2,(LI xs)),(4,yu5),(7,(yu3 ws)),(11,(i6 6))],(yu1 ws)⟩)
    (p := True∧True) (by kernel_rfl)
    ⟨oK,oK⟩ ?_
  refine Ev.block ?_
  refine Ev.seq ?_
  refine Ev.reg [(0,.val (dB false))] [2,4,7,11,12] (st' := ⟨[(2,(LI xs)),(4,yu5),(7,(yu3 ws)),(11,(i6 6)),(12,(dB false))],(yu1 ws)⟩)
    (p := (True∧false = false)∧True∧True) (by kernel_rfl)
    ⟨⟨oK,(by decide)⟩,oK,oK⟩ ?_
  refine Ev.cond false rfl (fun h => (by cases h)) (fun _ => ?_)
  refine Ev.seq ?_
  refine Ev.reg [(0,.val (dB false))] [2,4,7,11,19] (st' := ⟨[(2,(LI xs)),(4,yu5),(7,(yu3 ws)),(11,(i6 6)),(19,(dB false))],(yu1 ws)⟩)
    (p := (True∧false = false)∧True∧True) (by kernel_rfl)
    ⟨⟨oK,(by decide)⟩,oK,oK⟩ ?_
  refine Ev.cond false rfl (fun h => (by cases h)) (fun _ => ?_)
  refine Ev.seq ?_
  refine Ev.reg [(0,.val (dB false))] [2,4,7,11,28] (st' := ⟨[(2,(LI xs)),(4,yu5),(7,(yu3 ws)),(11,(i6 6)),(28,(dB false))],(yu1 ws)⟩)
    (p := (True∧false = false)∧True∧True) (by kernel_rfl)
    ⟨⟨oK,(by decide)⟩,oK,oK⟩ ?_
  refine Ev.cond false rfl (fun h => (by cases h)) (fun _ => ?_)
  refine Ev.seq ?_
  refine Ev.reg [(0,.val (dB false))] [2,4,7,11,37] (st' := ⟨[(2,(LI xs)),(4,yu5),(7,(yu3 ws)),(11,(i6 6)),(37,(dB false))],(yu1 ws)⟩)
    (p := (True∧false = false)∧True∧True) (by kernel_rfl)
    ⟨⟨oK,(by decide)⟩,oK,oK⟩ ?_
  refine Ev.cond false rfl (fun h => (by cases h)) (fun _ => ?_)
  refine Ev.seq ?_
  refine Ev.reg [(0,.val (dB true))] [2,4,7,11,46] (st' := ⟨[(2,(LI xs)),(4,yu5),(7,(yu3 ws)),(11,(i6 6)),(46,(dB true))],(yu1 ws)⟩)
    (p := (True∧true = true)∧True∧True) (by kernel_rfl)
    ⟨⟨oK,(by decide)⟩,oK,oK⟩ ?_
  refine Ev.cond true rfl (fun _ => ?_) (fun h => (by cases h))
  refine Ev.seq ?_
  refine Ev.draw 11 [false,false,false,false,false,false,false,false,false,false,false] [(6,.val (i6 ((xs.getD 0 0) + (xs.getD 1 0)))),(8,.val (i6 ((maskF (ws.getD 0 0)) + 1))),(9,.val (i6 ((xs.getD 0 0 + xs.getD 1 0) % 2 ^ (ws.getD 0 0).toNat)))] [6] (st' := ⟨[(6,(i6 ((xs.getD 0 0 + xs.getD 1 0) % 2 ^ (ws.getD 0 0).toNat)))],(yu1 ws)⟩)
    (p := (True∧(0 ≤ (0 : Int)∧0 < (xs.length : Int))∧T2 ((0 ≤ (1 : Int)∧1 < (xs.length : Int))∧True∧(True∧(IntKind.wrap .i64 ((xs.getD 0 0) + (xs.getD 1 0))) = ((xs.getD 0 0) + (xs.getD 1 0)))∧True∧(True∧(IntKind.wrap .i64 ((maskF (ws.getD 0 0)) + 1)) = ((maskF (ws.getD 0 0)) + 1))∧(((maskF (ws.getD 0 0)) + 1) ≠ 0∧(Int.tmod ((xs.getD 0 0) + (xs.getD 1 0)) ((maskF (ws.getD 0 0)) + 1)) = ((xs.getD 0 0 + xs.getD 1 0) % 2 ^ (ws.getD 0 0).toNat))∧True∧True))∧True) (by kernel_rfl) (by kernel_rfl)
    ⟨⟨oK,(by first | omega | (simp; first | done | omega)),oK,oK,(by first | omega | (simp; first | done | omega)),oK,⟨oK,(w64 rfl (by first | omega | (simp; first | done | omega)) (by first | omega | (simp; first | done | omega)))⟩,oK,⟨oK,(w64 rfl (by first | omega | (simp; first | done | omega)) (by first | omega | (simp; first | done | omega)))⟩,⟨(by first | omega | (simp; first | done | omega)),(rem_mask (by omega) (by omega))⟩,oK,oK⟩,oK⟩ ?_
  refine Ev.ret ?_
  refine ⟨⟨oK,oK⟩,(?_ : ((xs.getD 0 0 + xs.getD 1 0) % 2 ^ (ws.getD 0 0).toNat) = (avF 6 ws xs k w)),.inr trivial⟩
  rfl

set_option maxRecDepth 100000 in
theorem value_7 (ws xs : List Int) (k w : Int) (hl : ws.length = 2) (hf : ws.all fitsF = true) (hx : xs.length = ws.length) (hin : inF ws xs = true) (hsame : ws.getD 1 0 = ws.getD 0 0) : CallOk Try.prog 30 [(i6 7),(yu13 ws),(LI xs)] [] false (i6 (avF 7 ws xs k w)) [] := by
  refine CallOk.of_ev Try.func30 rfl rfl rfl ?_
  rintro ⟨_,W,S0,_,susp,_⟩ rfl rfl rfl
  have f0 : 0 < ws.length → 1 ≤ ws.getD 0 0∧ws.getD 0 0 ≤ 8 := fun h => fit_get hf h
  have f1 : 1 < ws.length → 1 ≤ ws.getD 1 0∧ws.getD 1 0 ≤ 8 := fun h => fit_get hf h
  have f2 : 2 < ws.length → 1 ≤ ws.getD 2 0∧ws.getD 2 0 ≤ 8 := fun h => fit_get hf h
  have a0 : 0 < ws.length → 0 ≤ xs.getD 0 0∧xs.getD 0 0 ≤ maskF (ws.getD 0 0) := fun h => in_get hin (by omega)
  have a1 : 1 < ws.length → 0 ≤ xs.getD 1 0∧xs.getD 1 0 ≤ maskF (ws.getD 1 0) := fun h => in_get hin (by omega)
  have a2 : 2 < ws.length → 0 ≤ xs.getD 2 0∧xs.getD 2 0 ≤ maskF (ws.getD 2 0) := fun h => in_get hin (by omega)
  have m0 : 0 < ws.length → 0 ≤ maskF (ws.getD 0 0)∧maskF (ws.getD 0 0) ≤ 255 := fun h => maskF_bound (by have := f0 h; omega) (f0 h).2
  have m1 : 1 < ws.length → 0 ≤ maskF (ws.getD 1 0)∧maskF (ws.getD 1 0) ≤ 255 := fun h => maskF_bound (by have := f1 h; omega) (f1 h).2
  have m2 : 2 < ws.length → 0 ≤ maskF (ws.getD 2 0)∧maskF (ws.getD 2 0) ≤ 255 := fun h => maskF_bound (by have := f2 h; omega) (f2 h).2
  have b0 := f0 (by omega)
  have c0 := a0 (by omega)
  have d0 := m0 (by omega)
  have b1 := f1 (by omega)
  have c1 := a1 (by omega)
  have d1 := m1 (by omega)
  have hw1 : maskF (ws.getD 1 0) = maskF (ws.getD 0 0) := by rw [hsame]
  refine Ev.seq ?_
  refine Ev.reg [] [0,2,4] (st' := ⟨[(0,(i6 7)),(2,(LI xs)),(4,yu5)],(yu1 ws)⟩)
    (p := T2 True) (by kernel_rfl)
    ⟨oK,oK,oK⟩ ?_
  refine Ev.seq ?_
  refine Ev.reg [(2,.call none false (yu3 ws))] [0,2,4,7] (st' := ⟨[(0,(i6 7)),(2,(LI xs)),(4,yu5),(7,(yu3 ws))],(yu1 ws)⟩)
    (p := ((0 ≤ (0 : Int)∧0 < (2 : Int))∧True)∧True∧callOb Try.prog 15 (yu1 ws) [(yu17 ws)] none false (yu3 ws)∧True∧True) (by kernel_rfl)
    ⟨⟨by omega,oK⟩,oK,(rmask_ok _),oK,oK⟩ ?_
  refine Ev.seq ?_
  refine Ev.seq ?_
  refine Ev.reg [] [2,4,7,11] (st' := ⟨[(2,(LI xs)),(4,yu5),(7,(yu3 ws)),(11,(i6 7))],(yu1 ws)⟩)
    (p := True∧True) (by kernel_rfl)
    ⟨oK,oK⟩ ?_
  refine Ev.block ?_
  refine Ev.seq ?_
  refine Ev.reg [(0,.val (dB false))] [2,4,7,11,12] (st' := ⟨[(2,(LI xs)),(4,yu5),(7,(yu3 ws)),(11,(i6 7)),(12,(dB false))],(yu1 ws)⟩)
    (p := (True∧false = false)∧True∧True) (by kernel_rfl)
    ⟨⟨oK,(by decide)⟩,oK,oK⟩ ?_
  refine Ev.cond false rfl (fun h => (by cases h)) (fun _ => ?_)
  refine Ev.seq ?_
  refine Ev.reg [(0,.val (dB false))] [2,4,7,11,19] (st' := ⟨[(2,(LI xs)),(4,yu5),(7,(yu3 ws)),(11,(i6 7)),(19,(dB false))],(yu1 ws)⟩)
    (p := (True∧false = false)∧True∧True) (by kernel_rfl)
    ⟨⟨oK,(by decide)⟩,oK,oK⟩ ?_
  refine Ev.cond false rfl (fun h => (by cases h)) (fun _ => ?_)
  refine Ev.seq ?_
  refine Ev.reg [(0,.val (dB false))] [2,4,7,11,28] (st' := ⟨[(2,(LI xs)),(4,yu5),(7,(yu3 ws)),(11,(i6 7)),(28,(dB false))],(yu1 ws)⟩)
    (p := (True∧false = false)∧True∧True) (by kernel_rfl)
    ⟨⟨oK,(by decide)⟩,oK,oK⟩ ?_
  refine Ev.cond false rfl (fun h => (by cases h)) (fun _ => ?_)
  refine Ev.seq ?_
  refine Ev.reg [(0,.val (dB false))] [2,4,7,11,37] (st' := ⟨[(2,(LI xs)),(4,yu5),(7,(yu3 ws)),(11,(i6 7)),(37,(dB false))],(yu1 ws)⟩)
    (p := (True∧false = false)∧True∧True) (by kernel_rfl)
    ⟨⟨oK,(by decide)⟩,oK,oK⟩ ?_
  refine Ev.cond false rfl (fun h => (by cases h)) (fun _ => ?_)
  refine Ev.seq ?_
  refine Ev.reg [(0,.val (dB false))] [2,4,7,11,46] (st' := ⟨[(2,(LI xs)),(4,yu5),(7,(yu3 ws)),(11,(i6 7)),(46,(dB false))],(yu1 ws)⟩)
    (p := (True∧false = false)∧True∧True) (by kernel_rfl)
    ⟨⟨oK,(by decide)⟩,oK,oK⟩ ?_
  refine Ev.cond false rfl (fun h => (by cases h)) (fun _ => ?_)
  refine Ev.seq ?_
  refine Ev.reg [(0,.val (dB true))] [2,4,7,11,58] (st' := ⟨[(2,(LI xs)),(4,yu5),(7,(yu3 ws)),(11,(i6 7)),(58,(dB true))],(yu1 ws)⟩)
    (p := (True∧true = true)∧True∧True) (by kernel_rfl)
    ⟨⟨oK,(by decide)⟩,oK,oK⟩ ?_
  refine Ev.cond true rfl (fun _ => ?_) (fun h => (by cases h))
  refine Ev.seq ?_
  refine Ev.draw 14 [false,false,false,false,false,false,false,false,false,false,false,false,false,false] [(6,.val (i6 ((xs.getD 0 0) - (xs.getD 1 0)))),(8,.val (i6 (((xs.getD 0 0) - (xs.getD 1 0)) + (maskF (ws.getD 0 0))))),(9,.val (i6 ((((xs.getD 0 0) - (xs.getD 1 0)) + (maskF (ws.getD 0 0))) + 1))),(11,.val (i6 ((maskF (ws.getD 0 0)) + 1))),(12,.val (i6 ((xs.getD 0 0 - xs.getD 1 0) % 2 ^ (ws.getD 0 0).toNat)))] [6] (st' := ⟨[(6,(i6 ((xs.getD 0 0 - xs.getD 1 0) % 2 ^ (ws.getD 0 0).toNat)))],(yu1 ws)⟩)
    (p := (True∧(0 ≤ (0 : Int)∧0 < (xs.length : Int))∧T2 ((0 ≤ (1 : Int)∧1 < (xs.length : Int))∧True∧(True∧(IntKind.wrap .i64 ((xs.getD 0 0) - (xs.getD 1 0))) = ((xs.getD 0 0) - (xs.getD 1 0)))∧True∧(True∧(IntKind.wrap .i64 (((xs.getD 0 0) - (xs.getD 1 0)) + (maskF (ws.getD 0 0)))) = (((xs.getD 0 0) - (xs.getD 1 0)) + (maskF (ws.getD 0 0))))∧(True∧(IntKind.wrap .i64 ((((xs.getD 0 0) - (xs.getD 1 0)) + (maskF (ws.getD 0 0))) + 1)) = ((((xs.getD 0 0) - (xs.getD 1 0)) + (maskF (ws.getD 0 0))) + 1))∧True∧(True∧(IntKind.wrap .i64 ((maskF (ws.getD 0 0)) + 1)) = ((maskF (ws.getD 0 0)) + 1))∧(((maskF (ws.getD 0 0)) + 1) ≠ 0∧(Int.tmod ((((xs.getD 0 0) - (xs.getD 1 0)) + (maskF (ws.getD 0 0))) + 1) ((maskF (ws.getD 0 0)) + 1)) = ((xs.getD 0 0 - xs.getD 1 0) % 2 ^ (ws.getD 0 0).toNat))∧True∧True))∧True) (by kernel_rfl) (by kernel_rfl)
    ⟨⟨oK,(by first | omega | (simp; first | done | omega)),oK,oK,(by first | omega | (simp; first | done | omega)),oK,⟨oK,(w64 rfl (by first | omega | (simp; first | done | omega)) (by first | omega | (simp; first | done | omega)))⟩,oK,⟨oK,(w64 rfl (by first | omega | (simp; first | done | omega)) (by first | omega | (simp; first | done | omega)))⟩,⟨oK,(w64 rfl (by first | omega | (simp; first | done | omega)) (by first | omega | (simp; first | done | omega)))⟩,oK,⟨oK,(w64 rfl (by first | omega | (simp; first | done | omega)) (by first | omega | (simp; first | done | omega)))⟩,⟨(by first | omega | (simp; first | done | omega)),(rem_sub (by omega) (by omega))⟩,oK,oK⟩,oK⟩ ?_
  refine Ev.ret ?_
  refine ⟨⟨oK,oK⟩,(?_ : ((xs.getD 0 0 - xs.getD 1 0) % 2 ^ (ws.getD 0 0).toNat) = (avF 7 ws xs k w)),.inr trivial⟩
  rfl

set_option maxRecDepth 100000 in
theorem value_8 (ws xs : List Int) (k w : Int) (hl : ws.length = 2) (hf : ws.all fitsF = true) (hx : xs.length = ws.length) (hin : inF ws xs = true) (hsame : ws.getD 1 0 = ws.getD 0 0) : CallOk Try.prog 30 [(i6 8),(yu13 ws),(LI xs)] [] false (i6 (avF 8 ws xs k w)) [] := by
  refine CallOk.of_ev Try.func30 rfl rfl rfl ?_
  rintro ⟨_,W,S0,_,susp,_⟩ rfl rfl rfl
  have f0 : 0 < ws.length → 1 ≤ ws.getD 0 0∧ws.getD 0 0 ≤ 8 := fun h => fit_get hf h
  have f1 : 1 < ws.length → 1 ≤ ws.getD 1 0∧ws.getD 1 0 ≤ 8 := fun h => fit_get hf h
  have f2 : 2 < ws.length → 1 ≤ ws.getD 2 0∧ws.getD 2 0 ≤ 8 := fun h => fit_get hf h
  have a0 : 0 < ws.length → 0 ≤ xs.getD 0 0∧xs.getD 0 0 ≤ maskF (ws.getD 0 0) := fun h => in_get hin (by omega)
  have a1 : 1 < ws.length → 0 ≤ xs.getD 1 0∧xs.getD 1 0 ≤ maskF (ws.getD 1 0) := fun h => in_get hin (by omega)
  have a2 : 2 < ws.length → 0 ≤ xs.getD 2 0∧xs.getD 2 0 ≤ maskF (ws.getD 2 0) := fun h => in_get hin (by omega)
  have m0 : 0 < ws.length → 0 ≤ maskF (ws.getD 0 0)∧maskF (ws.getD 0 0) ≤ 255 := fun h => maskF_bound (by have := f0 h; omega) (f0 h).2
  have m1 : 1 < ws.length → 0 ≤ maskF (ws.getD 1 0)∧maskF (ws.getD 1 0) ≤ 255 := fun h => maskF_bound (by have := f1 h; omega) (f1 h).2
  have m2 : 2 < ws.length → 0 ≤ maskF (ws.getD 2 0)∧maskF (ws.getD 2 0) ≤ 255 := fun h => maskF_bound (by have := f2 h; omega) (f2 h).2
  have b0 := f0 (by omega)
  have c0 := a0 (by omega)
  have d0 := m0 (by omega)
  have b1 := f1 (by omega)
  have c1 := a1 (by omega)
  have d1 := m1 (by omega)
  have hw1 : maskF (ws.getD 1 0) = maskF (ws.getD 0 0) := by rw [hsame]
  refine Ev.seq ?_
  refine Ev.reg [] [0,2,4] (st' := ⟨[(0,(i6 8)),(2,(LI xs)),(4,yu5)],(yu1 ws)⟩)
    (p := T2 True) (by kernel_rfl)
    ⟨oK,oK,oK⟩ ?_
  refine Ev.seq ?_
  refine Ev.reg [(2,.call none false (yu3 ws))] [0,2,4,7] (st' := ⟨[(0,(i6 8)),(2,(LI xs)),(4,yu5),(7,(yu3 ws))],(yu1 ws)⟩)
    (p := ((0 ≤ (0 : Int)∧0 < (2 : Int))∧True)∧True∧callOb Try.prog 15 (yu1 ws) [(yu17 ws)] none false (yu3 ws)∧True∧True) (by kernel_rfl)
    ⟨⟨by omega,oK⟩,oK,(rmask_ok _),oK,oK⟩ ?_
  refine Ev.seq ?_
  refine Ev.seq ?_
  refine Ev.reg [] [2,4,7,11] (st' := ⟨[(2,(LI xs)),(4,yu5),(7,(yu3 ws)),(11,(i6 8))],(yu1 ws)⟩)
    (p := True∧True) (by kernel_rfl)
    ⟨oK,oK⟩ ?_
  refine Ev.block ?_
  refine Ev.seq ?_
  refine Ev.reg [(0,.val (dB false))] [2,4,7,11,12] (st' := ⟨[(2,(LI xs)),(4,yu5),(7,(yu3 ws)),(11,(i6 8)),(12,(dB false))],(yu1 ws)⟩)
    (p := (True∧false = false)∧True∧True) (by kernel_rfl)
    ⟨⟨oK,(by decide)⟩,oK,oK⟩ ?_
  refine Ev.cond false rfl (fun h => (by cases h)) (fun _ => ?_)
  refine Ev.seq ?_
  refine Ev.reg [(0,.val (dB false))] [2,4,7,11,19] (st' := ⟨[(2,(LI xs)),(4,yu5),(7,(yu3 ws)),(11,(i6 8)),(19,(dB false))],(yu1 ws)⟩)
    (p := (True∧false = false)∧True∧True) (by kernel_rfl)
    ⟨⟨oK,(by decide)⟩,oK,oK⟩ ?_
  refine Ev.cond false rfl (fun h => (by cases h)) (fun _ => ?_)
  refine Ev.seq ?_
  refine Ev.reg [(0,.val (dB false))] [2,4,7,11,28] (st' := ⟨[(2,(LI xs)),(4,yu5),(7,(yu3 ws)),(11,(i6 8)),(28,(dB false))],(yu1 ws)⟩)
    (p := (True∧false = false)∧True∧True) (by kernel_rfl)
    ⟨⟨oK,(by decide)⟩,oK,oK⟩ ?_
  refine Ev.cond false rfl (fun h => (by cases h)) (fun _ => ?_)
  refine Ev.seq ?_
  refine Ev.reg [(0,.val (dB false))] [2,4,7,11,37] (st' := ⟨[(2,(LI xs)),(4,yu5),(7,(yu3 ws)),(11,(i6 8)),(37,(dB false))],(yu1 ws)⟩)
    (p := (True∧false = false)∧True∧True) (by kernel_rfl)
    ⟨⟨oK,(by decide)⟩,oK,oK⟩ ?_
  refine Ev.cond false rfl (fun h => (by cases h)) (fun _ => ?_)
  refine Ev.seq ?_
  refine Ev.reg [(0,.val (dB false))] [2,4,7,11,46] (st' := ⟨[(2,(LI xs)),(4,yu5),(7,(yu3 ws)),(11,(i6 8)),(46,(dB false))],(yu1 ws)⟩)
    (p := (True∧false = false)∧True∧True) (by kernel_rfl)
    ⟨⟨oK,(by decide)⟩,oK,oK⟩ ?_
  refine Ev.cond false rfl (fun h => (by cases h)) (fun _ => ?_)
  refine Ev.seq ?_
  refine Ev.reg [(0,.val (dB false))] [2,4,7,11,58] (st' := ⟨[(2,(LI xs)),(4,yu5),(7,(yu3 ws)),(11,(i6 8)),(58,(dB false))],(yu1 ws)⟩)
    (p := (True∧false = false)∧True∧True) (by kernel_rfl)
    ⟨⟨oK,(by decide)⟩,oK,oK⟩ ?_
  refine Ev.cond false rfl (fun h => (by cases h)) (fun _ => ?_)
  refine Ev.seq ?_
  refine Ev.reg [(0,.val (dB true))] [2,4,11,73] (st' := ⟨[(2,(LI xs)),(4,yu5),(11,(i6 8)),(73,(dB true))],(yu1 ws)⟩)
    (p := (True∧true = true)∧True∧True) (by kernel_rfl)
    ⟨⟨oK,(by decide)⟩,oK,oK⟩ ?_
  refine Ev.cond true rfl (fun _ => ?_) (fun h => (by cases h))
  refine Ev.seq ?_
  refine Ev.draw 9 [false,false,false,false,false,false,false,false,false] [(7,.call none false (i6 (if ((xs.getD 0 0) == (xs.getD 1 0)) = true then 1 else 0)))] [6] (st' := ⟨[(6,(i6 (if ((xs.getD 0 0) == (xs.getD 1 0)) = true then 1 else 0)))],(yu1 ws)⟩)
    (p := (True∧(0 ≤ (0 : Int)∧0 < (xs.length : Int))∧T2 ((0 ≤ (1 : Int)∧1 < (xs.length : Int))∧T2 (callOb Try.prog 38 (yu1 ws) [(dB ((xs.getD 0 0) == (xs.getD 1 0)))] none false (i6 (if ((xs.getD 0 0) == (xs.getD 1 0)) = true then 1 else 0))∧True∧True)))∧True) (by kernel_rfl) (by kernel_rfl)
    ⟨⟨oK,(by first | omega | (simp; first | done | omega)),oK,oK,(by first | omega | (simp; first | done | omega)),oK,oK,(flag_ok _),oK,oK⟩,oK⟩ ?_
  refine Ev.ret ?_
  refine ⟨⟨oK,oK⟩,(?_ : (if ((xs.getD 0 0) == (xs.getD 1 0)) = true then 1 else 0) = (avF 8 ws xs k w)),.inr trivial⟩
  show _ = (if xs.getD 0 0 = xs.getD 1 0 then (1 : Int) else 0)
  by_cases hq : xs.getD 0 0 = xs.getD 1 0
  · rw [if_pos hq,if_pos (by simpa using hq)]
  · rw [if_neg hq,if_neg (by simpa using hq)]

set_option maxRecDepth 100000 in
theorem value_9 (ws xs : List Int) (k w : Int) (hl : ws.length = 2) (hf : ws.all fitsF = true) (hx : xs.length = ws.length) (hin : inF ws xs = true) (hsame : ws.getD 1 0 = ws.getD 0 0) : CallOk Try.prog 30 [(i6 9),(yu13 ws),(LI xs)] [] false (i6 (avF 9 ws xs k w)) [] := by
  refine CallOk.of_ev Try.func30 rfl rfl rfl ?_
  rintro ⟨_,W,S0,_,susp,_⟩ rfl rfl rfl
  have f0 : 0 < ws.length → 1 ≤ ws.getD 0 0∧ws.getD 0 0 ≤ 8 := fun h => fit_get hf h
  have f1 : 1 < ws.length → 1 ≤ ws.getD 1 0∧ws.getD 1 0 ≤ 8 := fun h => fit_get hf h
  have f2 : 2 < ws.length → 1 ≤ ws.getD 2 0∧ws.getD 2 0 ≤ 8 := fun h => fit_get hf h
  have a0 : 0 < ws.length → 0 ≤ xs.getD 0 0∧xs.getD 0 0 ≤ maskF (ws.getD 0 0) := fun h => in_get hin (by omega)
  have a1 : 1 < ws.length → 0 ≤ xs.getD 1 0∧xs.getD 1 0 ≤ maskF (ws.getD 1 0) := fun h => in_get hin (by omega)
  have a2 : 2 < ws.length → 0 ≤ xs.getD 2 0∧xs.getD 2 0 ≤ maskF (ws.getD 2 0) := fun h => in_get hin (by omega)
  have m0 : 0 < ws.length → 0 ≤ maskF (ws.getD 0 0)∧maskF (ws.getD 0 0) ≤ 255 := fun h => maskF_bound (by have := f0 h; omega) (f0 h).2
  have m1 : 1 < ws.length → 0 ≤ maskF (ws.getD 1 0)∧maskF (ws.getD 1 0) ≤ 255 := fun h => maskF_bound (by have := f1 h; omega) (f1 h).2
  have m2 : 2 < ws.length → 0 ≤ maskF (ws.getD 2 0)∧maskF (ws.getD 2 0) ≤ 255 := fun h => maskF_bound (by have := f2 h; omega) (f2 h).2
  have b0 := f0 (by omega)
  have c0 := a0 (by omega)
  have d0 := m0 (by omega)
  have b1 := f1 (by omega)
  have c1 := a1 (by omega)
  have d1 := m1 (by omega)
  have hw1 : maskF (ws.getD 1 0) = maskF (ws.getD 0 0) := by rw [hsame]
  refine Ev.seq ?_
  refine Ev.reg [] [0,2,4] (st' := ⟨[(0,(i6 9)),(2,(LI xs)),(4,yu5)],(yu1 ws)⟩)
    (p := T2 True) (by kernel_rfl)
    ⟨oK,oK,oK⟩ ?_
  refine Ev.seq ?_
  refine Ev.reg [(2,.call none false (yu3 ws))] [0,2,4,7] (st' := ⟨[(0,(i6 9)),(2,(LI xs)),(4,yu5),(7,(yu3 ws))],(yu1 ws)⟩)
    (p := ((0 ≤ (0 : Int)∧0 < (2 : Int))∧True)∧True∧callOb Try.prog 15 (yu1 ws) [(yu17 ws)] none false (yu3 ws)∧True∧True) (by kernel_rfl)
    ⟨⟨by omega,oK⟩,oK,(rmask_ok _),oK,oK⟩ ?_
  refine Ev.seq ?_
  refine Ev.seq ?_
  refine Ev.reg [] [2,4,7,11] (st' := ⟨[(2,(LI xs)),(4,yu5),(7,(yu3 ws)),(11,(i6 9))],(yu1 ws)⟩)
    (p := True∧True) (by kernel_rfl)
    ⟨oK,oK⟩ ?_
  refine Ev.block ?_
  refine Ev.seq ?_
  refine Ev.reg [(0,.val (dB false))] [2,4,7,11,12] (st' := ⟨[(2,(LI xs)),(4,yu5),(7,(yu3 ws)),(11,(i6 9)),(12,(dB false))],(yu1 ws)⟩)
    (p := (True∧false = false)∧True∧True) (by kernel_rfl)
    ⟨⟨oK,(by decide)⟩,oK,oK⟩ ?_
  refine Ev.cond false rfl (fun h => (by cases h)) (fun _ => ?_)
  refine Ev.seq ?_
  refine Ev.reg [(0,.val (dB false))] [2,4,7,11,19] (st' := ⟨[(2,(LI xs)),(4,yu5),(7,(yu3 ws)),(11,(i6 9)),(19,(dB false))],(yu1 ws)⟩)
    (p := (True∧false = false)∧True∧True) (by kernel_rfl)
    ⟨⟨oK,(by decide)⟩,oK,oK⟩ ?_
  refine Ev.cond false rfl (fun h => (by cases h)) (fun _ => ?_)
  refine Ev.seq ?_
  refine Ev.reg [(0,.val (dB false))] [2,4,7,11,28] (st' := ⟨[(2,(LI xs)),(4,yu5),(7,(yu3 ws)),(11,(i6 9)),(28,(dB false))],(yu1 ws)⟩)
    (p := (True∧false = false)∧True∧True) (by kernel_rfl)
    ⟨⟨oK,(by decide)⟩,oK,oK⟩ ?_
  refine Ev.cond false rfl (fun h => (by cases h)) (fun _ => ?_)
  refine Ev.seq ?_
  refine Ev.reg [(0,.val (dB false))] [2,4,7,11,37] (st' := ⟨[(2,(LI xs)),(4,yu5),(7,(yu3 ws)),(11,(i6 9)),(37,(dB false))],(yu1 ws)⟩)
    (p := (True∧false = false)∧True∧True) (by kernel_rfl)
    ⟨⟨oK,(by decide)⟩,oK,oK⟩ ?_
  refine Ev.cond false rfl (fun h => (by cases h)) (fun _ => ?_)
  refine Ev.seq ?_
  refine Ev.reg [(0,.val (dB false))] [2,4,7,11,46] (st' := ⟨[(2,(LI xs)),(4,yu5),(7,(yu3 ws)),(11,(i6 9)),(46,(dB false))],(yu1 ws)⟩)
    (p := (True∧false = false)∧True∧True) (by kernel_rfl)
    ⟨⟨oK,(by decide)⟩,oK,oK⟩ ?_
  refine Ev.cond false rfl (fun h => (by cases h)) (fun _ => ?_)
  refine Ev.seq ?_
  refine Ev.reg [(0,.val (dB false))] [2,4,7,11,58] (st' := ⟨[(2,(LI xs)),(4,yu5),(7,(yu3 ws)),(11,(i6 9)),(58,(dB false))],(yu1 ws)⟩)
    (p := (True∧false = false)∧True∧True) (by kernel_rfl)
    ⟨⟨oK,(by decide)⟩,oK,oK⟩ ?_
  refine Ev.cond false rfl (fun h => (by cases h)) (fun _ => ?_)
  refine Ev.seq ?_
  refine Ev.reg [(0,.val (dB false))] [2,4,11,73] (st' := ⟨[(2,(LI xs)),(4,yu5),(11,(i6 9)),(73,(dB false))],(yu1 ws)⟩)
    (p := (True∧false = false)∧True∧True) (by kernel_rfl)
    ⟨⟨oK,(by decide)⟩,oK,oK⟩ ?_
  refine Ev.cond false rfl (fun h => (by cases h)) (fun _ => ?_)
  refine Ev.seq ?_
  refine Ev.reg [(0,.val (dB true))] [2,4,11,83] (st' := ⟨[(2,(LI xs)),(4,yu5),(11,(i6 9)),(83,(dB true))],(yu1 ws)⟩)
    (p := (True∧true = true)∧True∧True) (by kernel_rfl)
    ⟨⟨oK,(by decide)⟩,oK,oK⟩ ?_
  refine Ev.cond true rfl (fun _ => ?_) (fun h => (by cases h))
  refine Ev.seq ?_
  refine Ev.draw 9 [false,false,false,false,false,false,false,false,false] [(7,.call none false (i6 (if (decide ((xs.getD 0 0) < (xs.getD 1 0))) = true then 1 else 0)))] [6] (st' := ⟨[(6,(i6 (if (decide ((xs.getD 0 0) < (xs.getD 1 0))) = true then 1 else 0)))],(yu1 ws)⟩)
    (p := (True∧(0 ≤ (0 : Int)∧0 < (xs.length : Int))∧T2 ((0 ≤ (1 : Int)∧1 < (xs.length : Int))∧T2 (callOb Try.prog 38 (yu1 ws) [(dB (decide ((xs.getD 0 0) < (xs.getD 1 0))))] none false (i6 (if (decide ((xs.getD 0 0) < (xs.getD 1 0))) = true then 1 else 0))∧True∧True)))∧True) (by kernel_rfl) (by kernel_rfl)
    ⟨⟨oK,(by first | omega | (simp; first | done | omega)),oK,oK,(by first | omega | (simp; first | done | omega)),oK,oK,(flag_ok _),oK,oK⟩,oK⟩ ?_
  refine Ev.ret ?_
  refine ⟨⟨oK,oK⟩,(?_ : (if (decide ((xs.getD 0 0) < (xs.getD 1 0))) = true then 1 else 0) = (avF 9 ws xs k w)),.inr trivial⟩
  show _ = (if xs.getD 0 0 < xs.getD 1 0 then (1 : Int) else 0)
  by_cases hq : xs.getD 0 0 < xs.getD 1 0
  · rw [if_pos hq,if_pos (by simpa using hq)]
  · rw [if_neg hq,if_neg (by simpa using hq)]

set_option maxRecDepth 100000 in
theorem value_10 (ws xs : List Int) (k w : Int) (hl : ws.length = 3) (hf : ws.all fitsF = true) (hx : xs.length = ws.length) (hin : inF ws xs = true) (hone : ws.getD 0 0 = 1) : CallOk Try.prog 30 [(i6 10),(yu13 ws),(LI xs)] [] false (i6 (avF 10 ws xs k w)) [] := by
  refine CallOk.of_ev Try.func30 rfl rfl rfl ?_
  rintro ⟨_,W,S0,_,susp,_⟩ rfl rfl rfl
  have f0 : 0 < ws.length → 1 ≤ ws.getD 0 0∧ws.getD 0 0 ≤ 8 := fun h => fit_get hf h
  have f1 : 1 < ws.length → 1 ≤ ws.getD 1 0∧ws.getD 1 0 ≤ 8 := fun h => fit_get hf h
  have f2 : 2 < ws.length → 1 ≤ ws.getD 2 0∧ws.getD 2 0 ≤ 8 := fun h => fit_get hf h
  have a0 : 0 < ws.length → 0 ≤ xs.getD 0 0∧xs.getD 0 0 ≤ maskF (ws.getD 0 0) := fun h => in_get hin (by omega)
  have a1 : 1 < ws.length → 0 ≤ xs.getD 1 0∧xs.getD 1 0 ≤ maskF (ws.getD 1 0) := fun h => in_get hin (by omega)
  have a2 : 2 < ws.length → 0 ≤ xs.getD 2 0∧xs.getD 2 0 ≤ maskF (ws.getD 2 0) := fun h => in_get hin (by omega)
  have m0 : 0 < ws.length → 0 ≤ maskF (ws.getD 0 0)∧maskF (ws.getD 0 0) ≤ 255 := fun h => maskF_bound (by have := f0 h; omega) (f0 h).2
  have m1 : 1 < ws.length → 0 ≤ maskF (ws.getD 1 0)∧maskF (ws.getD 1 0) ≤ 255 := fun h => maskF_bound (by have := f1 h; omega) (f1 h).2
  have m2 : 2 < ws.length → 0 ≤ maskF (ws.getD 2 0)∧maskF (ws.getD 2 0) ≤ 255 := fun h => maskF_bound (by have := f2 h; omega) (f2 h).2
  have b0 := f0 (by omega)
  have c0 := a0 (by omega)
  have d0 := m0 (by omega)
  have b1 := f1 (by omega)
  have c1 := a1 (by omega)
  have d1 := m1 (by omega)
  have hm1 : maskF (ws.getD 0 0) = 1 := by rw [hone]; decide
  refine Ev.seq ?_
  refine Ev.reg [] [0,2,4] (st' := ⟨[(0,(i6 10)),(2,(LI xs)),(4,yu5)],(yu1 ws)⟩)
    (p := T2 True) (by kernel_rfl)
    ⟨oK,oK,oK⟩ ?_
  refine Ev.seq ?_
  refine Ev.reg [(2,.call none false (yu3 ws))] [0,2,4,7] (st' := ⟨[(0,(i6 10)),(2,(LI xs)),(4,yu5),(7,(yu3 ws))],(yu1 ws)⟩)
    (p := ((0 ≤ (0 : Int)∧0 < (2 : Int))∧True)∧True∧callOb Try.prog 15 (yu1 ws) [(yu17 ws)] none false (yu3 ws)∧True∧True) (by kernel_rfl)
    ⟨⟨by omega,oK⟩,oK,(rmask_ok _),oK,oK⟩ ?_
  refine Ev.seq ?_
  refine Ev.seq ?_
  refine Ev.reg [] [2,4,7,11] (st' := ⟨[(2,(LI xs)),(4,yu5),(7,(yu3 ws)),(11,(i6 10))],(yu1 ws)⟩)
    (p := True∧True) (by kernel_rfl)
    ⟨oK,oK⟩ ?_
  refine Ev.block ?_
  refine Ev.seq ?_
  refine Ev.reg [(0,.val (dB false))] [2,4,7,11,12] (st' := ⟨[(2,(LI xs)),(4,yu5),(7,(yu3 ws)),(11,(i6 10)),(12,(dB false))],(yu1 ws)⟩)
    (p := (True∧false = false)∧True∧True) (by kernel_rfl)
    ⟨⟨oK,(by decide)⟩,oK,oK⟩ ?_
  refine Ev.cond false rfl (fun h => (by cases h)) (fun _ => ?_)
  refine Ev.seq ?_
  refine Ev.reg [(0,.val (dB false))] [2,4,7,11,19] (st' := ⟨[(2,(LI xs)),(4,yu5),(7,(yu3 ws)),(11,(i6 10)),(19,(dB false))],(yu1 ws)⟩)
    (p := (True∧false = false)∧True∧True) (by kernel_rfl)
    ⟨⟨oK,(by decide)⟩,oK,oK⟩ ?_
  refine Ev.cond false rfl (fun h => (by cases h)) (fun _ => ?_)
  refine Ev.seq ?_
  refine Ev.reg [(0,.val (dB false))] [2,4,7,11,28] (st' := ⟨[(2,(LI xs)),(4,yu5),(7,(yu3 ws)),(11,(i6 10)),(28,(dB false))],(yu1 ws)⟩)
    (p := (True∧false = false)∧True∧True) (by kernel_rfl)
    ⟨⟨oK,(by decide)⟩,oK,oK⟩ ?_
  refine Ev.cond false rfl (fun h => (by cases h)) (fun _ => ?_)
  refine Ev.seq ?_
  refine Ev.reg [(0,.val (dB false))] [2,4,7,11,37] (st' := ⟨[(2,(LI xs)),(4,yu5),(7,(yu3 ws)),(11,(i6 10)),(37,(dB false))],(yu1 ws)⟩)
    (p := (True∧false = false)∧True∧True) (by kernel_rfl)
    ⟨⟨oK,(by decide)⟩,oK,oK⟩ ?_
  refine Ev.cond false rfl (fun h => (by cases h)) (fun _ => ?_)
  refine Ev.seq ?_
  refine Ev.reg [(0,.val (dB false))] [2,4,7,11,46] (st' := ⟨[(2,(LI xs)),(4,yu5),(7,(yu3 ws)),(11,(i6 10)),(46,(dB false))],(yu1 ws)⟩)
    (p := (True∧false = false)∧True∧True) (by kernel_rfl)
    ⟨⟨oK,(by decide)⟩,oK,oK⟩ ?_
  refine Ev.cond false rfl (fun h => (by cases h)) (fun _ => ?_)
  refine Ev.seq ?_
  refine Ev.reg [(0,.val (dB false))] [2,4,7,11,58] (st' := ⟨[(2,(LI xs)),(4,yu5),(7,(yu3 ws)),(11,(i6 10)),(58,(dB false))],(yu1 ws)⟩)
    (p := (True∧false = false)∧True∧True) (by kernel_rfl)
    ⟨⟨oK,(by decide)⟩,oK,oK⟩ ?_
  refine Ev.cond false rfl (fun h => (by cases h)) (fun _ => ?_)
  refine Ev.seq ?_
  refine Ev.reg [(0,.val (dB false))] [2,4,11,73] (st' := ⟨[(2,(LI xs)),(4,yu5),(11,(i6 10)),(73,(dB false))],(yu1 ws)⟩)
    (p := (True∧false = false)∧True∧True) (by kernel_rfl)
    ⟨⟨oK,(by decide)⟩,oK,oK⟩ ?_
  refine Ev.cond false rfl (fun h => (by cases h)) (fun _ => ?_)
  refine Ev.seq ?_
  refine Ev.reg [(0,.val (dB false))] [2,4,11,83] (st' := ⟨[(2,(LI xs)),(4,yu5),(11,(i6 10)),(83,(dB false))],(yu1 ws)⟩)
    (p := (True∧false = false)∧True∧True) (by kernel_rfl)
    ⟨⟨oK,(by decide)⟩,oK,oK⟩ ?_
  refine Ev.cond false rfl (fun h => (by cases h)) (fun _ => ?_)
  refine Ev.seq ?_
  refine Ev.reg [(0,.val (dB true))] [2,4,93] (st' := ⟨[(2,(LI xs)),(4,yu5),(93,(dB true))],(yu1 ws)⟩)
    (p := (True∧true = true)∧True∧True) (by kernel_rfl)
    ⟨⟨oK,(by decide)⟩,oK,oK⟩ ?_
  refine Ev.cond true rfl (fun _ => ?_) (fun h => (by cases h))
  refine Ev.seq ?_
  refine Ev.seq ?_
  refine Ev.reg [] [2,98] (st' := ⟨[(2,(LI xs)),(98,(dB ((xs.getD 0 0) == 1)))],(yu1 ws)⟩)
    (p := True∧(0 ≤ (0 : Int)∧0 < (xs.length : Int))∧T2 True) (by kernel_rfl)
    ⟨oK,(by first | omega | (simp; first | done | omega)),oK,oK,oK⟩ ?_
  refine Ev.cond _ rfl (fun hc98 => ?_) (fun hc98 => ?_)
  · try simp only [decide_eq_true_eq,decide_eq_false_iff_not,beq_iff_eq,bne_iff_ne,ne_eq,beq_eq_false_iff_ne,bne_eq_false_iff_eq,Bool.not_eq_true,Bool.not_eq_false,Bool.not_eq_true',Bool.not_eq_false',Bool.not_not,gt_iff_lt,ge_iff_le,Nat.not_lt,Int.not_lt,Int.not_le] at hc98
    refine Ev.seq ?_
    refine Ev.reg [] [6] (st' := ⟨[(6,(i6 (xs.getD 1 0)))],(yu1 ws)⟩)
      (p := True∧(0 ≤ (1 : Int)∧1 < (xs.length : Int))∧T2 True) (by kernel_rfl)
      ⟨oK,(by first | omega | (simp; first | done | omega)),oK,oK,oK⟩ ?_
    refine Ev.ret ?_
    refine ⟨⟨oK,oK⟩,(?_ : (xs.getD 1 0) = (avF 10 ws xs k w)),.inr trivial⟩
    show _ = xs.getD (2 - xs.getD 0 0).toNat 0
    rw [show xs.getD 0 0 = 1 by simpa using hc98]
    rfl
  · try simp only [decide_eq_true_eq,decide_eq_false_iff_not,beq_iff_eq,bne_iff_ne,ne_eq,beq_eq_false_iff_ne,bne_eq_false_iff_eq,Bool.not_eq_true,Bool.not_eq_false,Bool.not_eq_true',Bool.not_eq_false',Bool.not_not,gt_iff_lt,ge_iff_le,Nat.not_lt,Int.not_lt,Int.not_le] at hc98
    refine Ev.skip ?_
    refine Ev.seq ?_
    refine Ev.reg [] [6] (st' := ⟨[(6,(i6 (xs.getD 2 0)))],(yu1 ws)⟩)
      (p := True∧(0 ≤ (2 : Int)∧2 < (xs.length : Int))∧T2 True) (by kernel_rfl)
      ⟨oK,(by first | omega | (simp; first | done | omega)),oK,oK,oK⟩ ?_
    refine Ev.ret ?_
    refine ⟨⟨oK,oK⟩,(?_ : (xs.getD 2 0) = (avF 10 ws xs k w)),.inr trivial⟩
    have hx0 : xs.getD 0 0 ≠ 1 := by simpa using hc98
    show _ = xs.getD (2 - xs.getD 0 0).toNat 0
    rw [show xs.getD 0 0 = 0 by omega]
    rfl

set_option maxRecDepth 100000 in
theorem value_11 (ws xs : List Int) (k w : Int) (hl : ws.length = 2) (hf : ws.all fitsF = true) (hx : xs.length = ws.length) (hin : inF ws xs = true) : CallOk Try.prog 30 [(i6 11),(.agg [(yu17 ws),(i6 (ws.getD 1 0))]),(LI xs)] [] false (i6 (avF 11 ws xs k w)) [] := by
  refine CallOk.of_ev Try.func30 rfl rfl rfl ?_
  rintro ⟨_,W,S0,_,susp,_⟩ rfl rfl rfl
  have f0 : 0 < ws.length → 1 ≤ ws.getD 0 0∧ws.getD 0 0 ≤ 8 := fun h => fit_get hf h
  have f1 : 1 < ws.length → 1 ≤ ws.getD 1 0∧ws.getD 1 0 ≤ 8 := fun h => fit_get hf h
  have f2 : 2 < ws.length → 1 ≤ ws.getD 2 0∧ws.getD 2 0 ≤ 8 := fun h => fit_get hf h
  have a0 : 0 < ws.length → 0 ≤ xs.getD 0 0∧xs.getD 0 0 ≤ maskF (ws.getD 0 0) := fun h => in_get hin (by omega)
  have a1 : 1 < ws.length → 0 ≤ xs.getD 1 0∧xs.getD 1 0 ≤ maskF (ws.getD 1 0) := fun h => in_get hin (by omega)
  have a2 : 2 < ws.length → 0 ≤ xs.getD 2 0∧xs.getD 2 0 ≤ maskF (ws.getD 2 0) := fun h => in_get hin (by omega)
  have m0 : 0 < ws.length → 0 ≤ maskF (ws.getD 0 0)∧maskF (ws.getD 0 0) ≤ 255 := fun h => maskF_bound (by have := f0 h; omega) (f0 h).2
  have m1 : 1 < ws.length → 0 ≤ maskF (ws.getD 1 0)∧maskF (ws.getD 1 0) ≤ 255 := fun h => maskF_bound (by have := f1 h; omega) (f1 h).2
  have m2 : 2 < ws.length → 0 ≤ maskF (ws.getD 2 0)∧maskF (ws.getD 2 0) ≤ 255 := fun h => maskF_bound (by have := f2 h; omega) (f2 h).2
  have b0 := f0 (by omega)
  have c0 := a0 (by omega)
  have d0 := m0 (by omega)
  have b1 := f1 (by omega)
  have c1 := a1 (by omega)
  have d1 := m1 (by omega)
  refine Ev.seq ?_
  refine Ev.reg [] [0,2,4] (st' := ⟨[(0,(i6 11)),(2,(LI xs)),(4,yu5)],(yu11 ws)⟩)
    (p := T2 True) (by kernel_rfl)
    ⟨oK,oK,oK⟩ ?_
  refine Ev.seq ?_
  refine Ev.reg [(2,.call none false (yu3 ws))] [0,2,4,7] (st' := ⟨[(0,(i6 11)),(2,(LI xs)),(4,yu5),(7,(yu3 ws))],(yu11 ws)⟩)
    (p := ((0 ≤ (0 : Int)∧0 < (2 : Int))∧True)∧True∧callOb Try.prog 15 (yu11 ws) [(yu17 ws)] none false (yu3 ws)∧True∧True) (by kernel_rfl)
    ⟨⟨by omega,oK⟩,oK,(rmask_ok _),oK,oK⟩ ?_
  refine Ev.seq ?_
  refine Ev.seq ?_
  refine Ev.reg [] [2,4,7,11] (st' := ⟨[(2,(LI xs)),(4,yu5),(7,(yu3 ws)),(11,(i6 11))],(yu11 ws)⟩)
    (p := True∧True) (by kernel_rfl)
    ⟨oK,oK⟩ ?_
  refine Ev.block ?_
  refine Ev.seq ?_
  refine Ev.reg [(0,.val (dB false))] [2,4,7,11,12] (st' := ⟨[(2,(LI xs)),(4,yu5),(7,(yu3 ws)),(11,(i6 11)),(12,(dB false))],(yu11 ws)⟩)
    (p := (True∧false = false)∧True∧True) (by kernel_rfl)
    ⟨⟨oK,(by decide)⟩,oK,oK⟩ ?_
  refine Ev.cond false rfl (fun h => (by cases h)) (fun _ => ?_)
  refine Ev.seq ?_
  refine Ev.reg [(0,.val (dB false))] [2,4,7,11,19] (st' := ⟨[(2,(LI xs)),(4,yu5),(7,(yu3 ws)),(11,(i6 11)),(19,(dB false))],(yu11 ws)⟩)
    (p := (True∧false = false)∧True∧True) (by kernel_rfl)
    ⟨⟨oK,(by decide)⟩,oK,oK⟩ ?_
  refine Ev.cond false rfl (fun h => (by cases h)) (fun _ => ?_)
  refine Ev.seq ?_
  refine Ev.reg [(0,.val (dB false))] [2,4,7,11,28] (st' := ⟨[(2,(LI xs)),(4,yu5),(7,(yu3 ws)),(11,(i6 11)),(28,(dB false))],(yu11 ws)⟩)
    (p := (True∧false = false)∧True∧True) (by kernel_rfl)
    ⟨⟨oK,(by decide)⟩,oK,oK⟩ ?_
  refine Ev.cond false rfl (fun h => (by cases h)) (fun _ => ?_)
  refine Ev.seq ?_
  refine Ev.reg [(0,.val (dB false))] [2,4,7,11,37] (st' := ⟨[(2,(LI xs)),(4,yu5),(7,(yu3 ws)),(11,(i6 11)),(37,(dB false))],(yu11 ws)⟩)
    (p := (True∧false = false)∧True∧True) (by kernel_rfl)
    ⟨⟨oK,(by decide)⟩,oK,oK⟩ ?_
  refine Ev.cond false rfl (fun h => (by cases h)) (fun _ => ?_)
  refine Ev.seq ?_
  refine Ev.reg [(0,.val (dB false))] [2,4,7,11,46] (st' := ⟨[(2,(LI xs)),(4,yu5),(7,(yu3 ws)),(11,(i6 11)),(46,(dB false))],(yu11 ws)⟩)
    (p := (True∧false = false)∧True∧True) (by kernel_rfl)
    ⟨⟨oK,(by decide)⟩,oK,oK⟩ ?_
  refine Ev.cond false rfl (fun h => (by cases h)) (fun _ => ?_)
  refine Ev.seq ?_
  refine Ev.reg [(0,.val (dB false))] [2,4,7,11,58] (st' := ⟨[(2,(LI xs)),(4,yu5),(7,(yu3 ws)),(11,(i6 11)),(58,(dB false))],(yu11 ws)⟩)
    (p := (True∧false = false)∧True∧True) (by kernel_rfl)
    ⟨⟨oK,(by decide)⟩,oK,oK⟩ ?_
  refine Ev.cond false rfl (fun h => (by cases h)) (fun _ => ?_)
  refine Ev.seq ?_
  refine Ev.reg [(0,.val (dB false))] [2,4,11,73] (st' := ⟨[(2,(LI xs)),(4,yu5),(11,(i6 11)),(73,(dB false))],(yu11 ws)⟩)
    (p := (True∧false = false)∧True∧True) (by kernel_rfl)
    ⟨⟨oK,(by decide)⟩,oK,oK⟩ ?_
  refine Ev.cond false rfl (fun h => (by cases h)) (fun _ => ?_)
  refine Ev.seq ?_
  refine Ev.reg [(0,.val (dB false))] [2,4,11,83] (st' := ⟨[(2,(LI xs)),(4,yu5),(11,(i6 11)),(83,(dB false))],(yu11 ws)⟩)
    (p := (True∧false = false)∧True∧True) (by kernel_rfl)
    ⟨⟨oK,(by decide)⟩,oK,oK⟩ ?_
  refine Ev.cond false rfl (fun h => (by cases h)) (fun _ => ?_)
  refine Ev.seq ?_
  refine Ev.reg [(0,.val (dB false))] [2,4,93] (st' := ⟨[(2,(LI xs)),(4,yu5),(93,(dB false))],(yu11 ws)⟩)
    (p := (True∧false = false)∧True∧True) (by kernel_rfl)
    ⟨⟨oK,(by decide)⟩,oK,oK⟩ ?_
  refine Ev.cond false rfl (fun h => (by cases h)) (fun _ => ?_)
  refine Ev.skip ?_
  refine Ev.seq ?_
  refine Ev.draw 12 [false,false,false,false,false,false,false,false,false,false,false,false] [(5,.val (dI .u64 (ws.getD 1 0))),(6,.val (i6 (((xs.getD 0 0).toNat * 2 ^ (ws.getD 1 0).toNat : Nat) : Int))),(10,.val (i6 (((xs.getD 0 0).toNat * 2 ^ (ws.getD 1 0).toNat ||| (xs.getD 1 0).toNat : Nat) : Int)))] [6] (st' := ⟨[(6,(i6 (((xs.getD 0 0).toNat * 2 ^ (ws.getD 1 0).toNat ||| (xs.getD 1 0).toNat : Nat) : Int)))],(yu11 ws)⟩)
    (p := (True∧(0 ≤ (0 : Int)∧0 < (xs.length : Int))∧True∧((0 ≤ (1 : Int)∧1 < (2 : Int))∧True)∧True∧(True∧(IntKind.wrap .u64 (ws.getD 1 0)) = (ws.getD 1 0))∧(0 ≤ (ws.getD 1 0)∧(IntKind.wrap .i64 ((xs.getD 0 0) * 2 ^ min ((ws.getD 1 0).toNat) 64)) = (((xs.getD 0 0).toNat * 2 ^ (ws.getD 1 0).toNat : Nat) : Int))∧True∧(0 ≤ (1 : Int)∧1 < (xs.length : Int))∧True∧(True∧(IntKind.wrap .i64 (BitVec.ofInt (IntKind.i64).bits (((xs.getD 0 0).toNat * 2 ^ (ws.getD 1 0).toNat : Nat) : Int) ||| BitVec.ofInt (IntKind.i64).bits (xs.getD 1 0)).toNat) = (((xs.getD 0 0).toNat * 2 ^ (ws.getD 1 0).toNat ||| (xs.getD 1 0).toNat : Nat) : Int))∧True∧True)∧True) (by kernel_rfl) (by kernel_rfl)
    ⟨⟨oK,(by first | omega | (simp; first | done | omega)),oK,⟨by omega,oK⟩,oK,⟨oK,(wu64 rfl (by omega) (by omega))⟩,⟨(by omega),(shl_val (by omega) (by omega))⟩,oK,(by first | omega | (simp; first | done | omega)),oK,⟨oK,(cat_val (by omega) (by omega) (by omega))⟩,oK,oK⟩,oK⟩ ?_
  refine Ev.ret ?_
  refine ⟨⟨oK,oK⟩,(?_ : (((xs.getD 0 0).toNat * 2 ^ (ws.getD 1 0).toNat ||| (xs.getD 1 0).toNat : Nat) : Int) = (avF 11 ws xs k w)),.inr trivial⟩
  rfl

set_option maxRecDepth 100000 in
theorem ApplyIn_ok (op : Int) (ws xs nums : List Int) (hwl : ws.length ≤ 9223372036854775807) (hxl : xs.length ≤ 9223372036854775807) : CallOk Try.prog 13 [(i6 op),(LI ws),(.agg [(LI xs),(LI nums)])] [] false (.agg [(i6 (applyV op ws xs nums)),(i6 (applyE op ws xs nums))]) [] := by
  refine CallOk.of_ev Try.func13 rfl rfl rfl ?_
  rintro ⟨_,W,S0,_,susp,_⟩ rfl rfl rfl
  refine Ev.seq ?_
  refine Ev.reg [] [0,1,5,6] (st' := ⟨[(0,(i6 op)),(1,(LI ws)),(5,yu5),(6,yu4)],[(yu15 xs nums),yu16]⟩)
    (p := T2 True) (by kernel_rfl)
    ⟨oK,oK,oK⟩ ?_
  refine Ev.seq ?_
  refine Ev.draw 6 [false,false,false,false,false,false] [] [0,1,6,7,8] (st' := ⟨[(0,(i6 op)),(1,(LI ws)),(6,yu4),(7,(LI xs)),(8,(LI nums))],[(yu15 xs nums),yu16]⟩)
    (p := (((0 ≤ (0 : Int)∧0 < (2 : Int))∧True)∧True∧((0 ≤ (1 : Int)∧1 < (2 : Int))∧True)∧T3 True)∧True) (by kernel_rfl) (by kernel_rfl)
    ⟨⟨⟨by omega,oK⟩,oK,⟨by omega,oK⟩,oK,oK,oK,oK⟩,oK⟩ ?_
  refine Ev.seq ?_
  refine Ev.seq ?_
  rcases (show nums.length ≠ 2 ∨ (nums.length = 2∧xs.length ≠ ws.length) ∨ (nums.length = 2∧xs.length = ws.length) from by omega) with hx | hx | hx
  · skip
    refine Ev.reg [(2,.val (dB true))] [0,1,6,7,8,24] (st' := ⟨[(0,(i6 op)),(1,(LI ws)),(6,yu4),(7,(LI xs)),(8,(LI nums)),(24,(dB true))],[(yu15 xs nums),yu16]⟩)
      (p := T2 ((True∧(((nums.length : Nat) : Int) != 2) = true)∧T7 True)) (by kernel_rfl)
      ⟨oK,oK,⟨oK,(by exact bne_iff_ne.2 (by omega))⟩,oK,oK,oK,oK,oK,oK,oK,oK⟩ ?_
    refine Ev.cond true rfl (fun _ => ?_) (fun h => (by cases h))
    refine Ev.seq ?_
    refine Ev.reg [] [6] (st' := ⟨[(6,yu4)],[(yu15 xs nums),(.var 32 [(i6 0),(i6 1)])]⟩)
      (p := T2 True) (by kernel_rfl)
      ⟨oK,oK,oK⟩ ?_
    refine Ev.ret ?_
    refine ⟨⟨oK,oK⟩,(?_ : (0 : Int) = (applyV op ws xs nums)∧(1 : Int) = (applyE op ws xs nums)∧True),.inr ⟨oK,oK,oK⟩⟩
    exact ⟨(ap_no (ap_n hx)).1.symm,(ap_no (ap_n hx)).2.symm,oK⟩
  · skip
    refine Ev.reg [(2,.val (dB false)),(8,.val (dB true))] [0,1,6,7,8,24] (st' := ⟨[(0,(i6 op)),(1,(LI ws)),(6,yu4),(7,(LI xs)),(8,(LI nums)),(24,(dB true))],[(yu15 xs nums),yu16]⟩)
      (p := T2 ((True∧(((nums.length : Nat) : Int) != 2) = false)∧T5 ((True∧(((xs.length : Nat) : Int) != ((ws.length : Nat) : Int)) = true)∧True∧True))) (by kernel_rfl)
      ⟨oK,oK,⟨oK,(by rw [hx.1]; rfl)⟩,oK,oK,oK,oK,oK,⟨oK,(by exact bne_iff_ne.2 (by omega))⟩,oK,oK⟩ ?_
    refine Ev.cond true rfl (fun _ => ?_) (fun h => (by cases h))
    refine Ev.seq ?_
    refine Ev.reg [] [6] (st' := ⟨[(6,yu4)],[(yu15 xs nums),(.var 32 [(i6 0),(i6 1)])]⟩)
      (p := T2 True) (by kernel_rfl)
      ⟨oK,oK,oK⟩ ?_
    refine Ev.ret ?_
    refine ⟨⟨oK,oK⟩,(?_ : (0 : Int) = (applyV op ws xs nums)∧(1 : Int) = (applyE op ws xs nums)∧True),.inr ⟨oK,oK,oK⟩⟩
    exact ⟨(ap_no (ap_l hx.2)).1.symm,(ap_no (ap_l hx.2)).2.symm,oK⟩
  · skip
    refine Ev.reg [(2,.val (dB false)),(8,.val (dB false))] [0,1,6,7,8,24] (st' := ⟨[(0,(i6 op)),(1,(LI ws)),(6,yu4),(7,(LI xs)),(8,(LI nums)),(24,(dB false))],[(yu15 xs nums),yu16]⟩)
      (p := T2 ((True∧(((nums.length : Nat) : Int) != 2) = false)∧T5 ((True∧(((xs.length : Nat) : Int) != ((ws.length : Nat) : Int)) = false)∧True∧True))) (by kernel_rfl)
      ⟨oK,oK,⟨oK,(by rw [hx.1]; rfl)⟩,oK,oK,oK,oK,oK,⟨oK,(by rw [hx.2]; simp)⟩,oK,oK⟩ ?_
    refine Ev.cond false rfl (fun h => (by cases h)) (fun _ => ?_)
    refine Ev.skip ?_
    refine Ev.seq ?_
    refine Ev.draw 11 [false,false,false,false,false,false,false,false,false,false,false] [(9,.call none false (.agg (yu6 op ws nums)))] [0,1,6,7,8,9] (st' := ⟨[(0,(i6 op)),(1,(LI ws)),(6,yu4),(7,(LI xs)),(8,(LI nums)),(9,(.ptr 2 0 0 0))],(yu0 xs nums op ws)⟩)
      (p := (T3 ((0 ≤ (0 : Int)∧0 < (nums.length : Int))∧T2 ((0 ≤ (1 : Int)∧1 < (nums.length : Int))∧T2 (callOb Try.prog 11 [(yu15 xs nums),yu16] [(i6 op),(LI ws),(.agg [(i6 (nums.getD 0 0)),(i6 (nums.getD 1 0))])] none false (.agg (yu6 op ws nums))∧True∧True))))∧(True∧True)) (by kernel_rfl) (by kernel_rfl)
      ⟨⟨oK,oK,oK,(by first | omega | (simp; first | done | omega)),oK,oK,(by first | omega | (simp; first | done | omega)),oK,oK,(WidthIn_ok _ _ _ _ (by omega)),oK,oK⟩,⟨oK,oK⟩⟩ ?_
    refine Ev.seq ?_
    refine Ev.seq ?_
    rcases (Bool.eq_false_or_eq_true (okF op ws (nums.getD 0 0) (nums.getD 1 0))).symm with h | h
    · skip
      refine Ev.reg [(2,.val (dB true))] [0,1,6,7,8,9,38] (st' := ⟨[(0,(i6 op)),(1,(LI ws)),(6,yu4),(7,(LI xs)),(8,(LI nums)),(9,(.ptr 2 0 0 0)),(38,(dB true))],(yu0 xs nums op ws)⟩)
        (p := T2 ((True∧((widthE op ws (nums.getD 0 0) (nums.getD 1 0)) != 0) = true)∧True)) (by kernel_rfl)
        ⟨oK,oK,⟨oK,(by rw [← (wr_no h).2]; rfl)⟩,oK⟩ ?_
      refine Ev.cond true rfl (fun _ => ?_) (fun h => (by cases h))
      refine Ev.seq ?_
      refine Ev.reg [] [6] (st' := ⟨[(6,yu4)],[(yu15 xs nums),(.var 32 (yu6 op ws nums)),(.var 32 (yu6 op ws nums))]⟩)
        (p := T2 True) (by kernel_rfl)
        ⟨oK,oK,oK⟩ ?_
      refine Ev.ret ?_
      refine ⟨⟨oK,oK⟩,(?_ : (widthV op ws (nums.getD 0 0) (nums.getD 1 0)) = (applyV op ws xs nums)∧(widthE op ws (nums.getD 0 0) (nums.getD 1 0)) = (applyE op ws xs nums)∧True),.inr ⟨oK,oK,oK⟩⟩
      have hz := wr_no h
      exact ⟨by rw [← hz.1,(ap_no (ap_bad h)).1],by rw [← hz.2,(ap_no (ap_bad h)).2],oK⟩
    · skip
      refine Ev.reg [(2,.val (dB false))] [0,1,6,7,8,9,38] (st' := ⟨[(0,(i6 op)),(1,(LI ws)),(6,yu4),(7,(LI xs)),(8,(LI nums)),(9,(.ptr 2 0 0 0)),(38,(dB false))],(yu0 xs nums op ws)⟩)
        (p := T2 ((True∧((widthE op ws (nums.getD 0 0) (nums.getD 1 0)) != 0) = false)∧True)) (by kernel_rfl)
        ⟨oK,oK,⟨oK,(by rw [← (wr_yes h rfl).2]; rfl)⟩,oK⟩ ?_
      refine Ev.cond false rfl (fun h => (by cases h)) (fun _ => ?_)
      refine Ev.skip ?_
      refine Ev.seq ?_
      refine Ev.seq ?_
      refine Ev.reg [] [0,1,6,7,8,10] (st' := ⟨[(0,(i6 op)),(1,(LI ws)),(6,yu4),(7,(LI xs)),(8,(LI nums)),(10,(i6 0))],(yu0 xs nums op ws)⟩)
        (p := True∧True) (by kernel_rfl)
        ⟨oK,oK⟩ ?_
      refine Ev.block ?_
      refine Ev.loop [0,1,6,7,8,10] 3 (fun (i : Nat) => ⟨[(0,(i6 op)),(1,(LI ws)),(6,yu4),(7,(LI xs)),(8,(LI nums)),(10,(i6 ((i : Nat) : Int)))],(yu0 xs nums op ws)⟩) (fun (i : Nat) => i ≤ xs.length∧∀ j,j < i → 0 ≤ xs.getD j 0∧xs.getD j 0 ≤ maskF (ws.getD j 0)) (fun (i : Nat) => xs.length - i) 0 (by kernel_rfl) (⟨by omega,fun j hj => by omega⟩) ?_
      rintro i hinv
      have hinv : i ≤ xs.length∧∀ j,j < i → 0 ≤ xs.getD j 0∧xs.getD j 0 ≤ maskF (ws.getD j 0) := hinv
      obtain ⟨hi,hall⟩ := hinv
      refine Ev.seq ?_
      refine Ev.seq ?_
      refine Ev.reg [] [0,1,6,7,8,10,43] (st' := ⟨[(0,(i6 op)),(1,(LI ws)),(6,yu4),(7,(LI xs)),(8,(LI nums)),(10,(i6 ((i : Nat) : Int))),(43,(dB (decide (((i : Nat) : Int) < ((xs.length : Nat) : Int)))))],(yu0 xs nums op ws)⟩)
        (p := T4 True) (by kernel_rfl)
        ⟨oK,oK,oK,oK,oK⟩ ?_
      refine Ev.cond _ rfl (fun hc43 => ?_) (fun hc43 => ?_)
      · try simp only [decide_eq_true_eq,decide_eq_false_iff_not,beq_iff_eq,bne_iff_ne,ne_eq,beq_eq_false_iff_ne,bne_eq_false_iff_eq,Bool.not_eq_true,Bool.not_eq_false,Bool.not_eq_true',Bool.not_eq_false',Bool.not_not,gt_iff_lt,ge_iff_le,Nat.not_lt,Int.not_lt,Int.not_le] at hc43
        refine Ev.skip ?_
        refine Ev.seq ?_
        refine Ev.block ?_
        refine Ev.seq ?_
        rcases Int.lt_or_le (xs.getD i 0) 0 with hn | hn
        · skip
          refine Ev.draw 17 [false,false,false,false,false,false,true,true,true,true,true,true,true,true,true,true,false] [(4,.val (dB true))] [0,1,6,7,8,10,62] (st' := ⟨[(0,(i6 op)),(1,(LI ws)),(6,yu4),(7,(LI xs)),(8,(LI nums)),(10,(i6 ((i : Nat) : Int))),(62,(dB true))],(yu0 xs nums op ws)⟩)
            (p := (T2 ((0 ≤ ((i : Nat) : Int)∧((i : Nat) : Int) < (xs.length : Int))∧True∧(True∧(decide ((xs.getD i 0) < 0)) = true)∧T2 True))∧True) (by kernel_rfl) (by kernel_rfl)
            ⟨⟨oK,oK,(by first | omega | (simp; first | done | omega)),oK,⟨oK,(by simpa using hn)⟩,oK,oK,oK⟩,oK⟩ ?_
          refine Ev.cond true rfl (fun _ => ?_) (fun h => (by cases h))
          refine Ev.seq ?_
          refine Ev.reg [] [6] (st' := ⟨[(6,yu4)],[(yu15 xs nums),(.var 32 [(i6 0),(i6 1)]),(.var 32 (yu6 op ws nums))]⟩)
            (p := T2 True) (by kernel_rfl)
            ⟨oK,oK,oK⟩ ?_
          refine Ev.ret ?_
          refine ⟨⟨oK,oK⟩,(?_ : (0 : Int) = (applyV op ws xs nums)∧(1 : Int) = (applyE op ws xs nums)∧True),.inr ⟨oK,oK,oK⟩⟩
          exact ⟨(ap_no (ap_in (i := i) (by omega) (.inl hn))).1.symm,(ap_no (ap_in (i := i) (by omega) (.inl hn))).2.symm,oK⟩
        · skip
          refine Ev.draw 17 [false,false,false,false,false,false,false,false,false,false,false,false,false,false,false,false,false] [(4,.val (dB false)),(14,.call none false (i6 (maskF (ws.getD i 0))))] [0,1,6,7,8,10,62] (st' := ⟨[(0,(i6 op)),(1,(LI ws)),(6,yu4),(7,(LI xs)),(8,(LI nums)),(10,(i6 ((i : Nat) : Int))),(62,(dB (decide ((xs.getD i 0) > (maskF (ws.getD i 0))))))],(yu0 xs nums op ws)⟩)
            (p := (T2 ((0 ≤ ((i : Nat) : Int)∧((i : Nat) : Int) < (xs.length : Int))∧True∧(True∧(decide ((xs.getD i 0) < 0)) = false)∧T3 ((0 ≤ ((i : Nat) : Int)∧((i : Nat) : Int) < (xs.length : Int))∧T3 ((0 ≤ ((i : Nat) : Int)∧((i : Nat) : Int) < (ws.length : Int))∧True∧callOb Try.prog 15 (yu0 xs nums op ws) [(i6 (ws.getD i 0))] none false (i6 (maskF (ws.getD i 0)))∧T2 True))))∧True) (by kernel_rfl) (by kernel_rfl)
            ⟨⟨oK,oK,(by first | omega | (simp; first | done | omega)),oK,⟨oK,(by simpa using hn)⟩,oK,oK,oK,(by first | omega | (simp; first | done | omega)),oK,oK,oK,(by first | omega | (simp; first | done | omega)),oK,(rmask_ok _),oK,oK,oK⟩,oK⟩ ?_
          refine Ev.cond _ rfl (fun hc62 => ?_) (fun hc62 => ?_)
          · try simp only [decide_eq_true_eq,decide_eq_false_iff_not,beq_iff_eq,bne_iff_ne,ne_eq,beq_eq_false_iff_ne,bne_eq_false_iff_eq,Bool.not_eq_true,Bool.not_eq_false,Bool.not_eq_true',Bool.not_eq_false',Bool.not_not,gt_iff_lt,ge_iff_le,Nat.not_lt,Int.not_lt,Int.not_le] at hc62
            refine Ev.seq ?_
            refine Ev.reg [] [6] (st' := ⟨[(6,yu4)],[(yu15 xs nums),(.var 32 [(i6 0),(i6 1)]),(.var 32 (yu6 op ws nums))]⟩)
              (p := T2 True) (by kernel_rfl)
              ⟨oK,oK,oK⟩ ?_
            refine Ev.ret ?_
            refine ⟨⟨oK,oK⟩,(?_ : (0 : Int) = (applyV op ws xs nums)∧(1 : Int) = (applyE op ws xs nums)∧True),.inr ⟨oK,oK,oK⟩⟩
            exact ⟨(ap_no (ap_in (i := i) (by omega) (.inr (by omega)))).1.symm,(ap_no (ap_in (i := i) (by omega) (.inr (by omega)))).2.symm,oK⟩
          · try simp only [decide_eq_true_eq,decide_eq_false_iff_not,beq_iff_eq,bne_iff_ne,ne_eq,beq_eq_false_iff_ne,bne_eq_false_iff_eq,Bool.not_eq_true,Bool.not_eq_false,Bool.not_eq_true',Bool.not_eq_false',Bool.not_not,gt_iff_lt,ge_iff_le,Nat.not_lt,Int.not_lt,Int.not_le] at hc62
            refine Ev.skip ?_
            refine Ev.reg [(1,.val (i6 ((i + 1 : Nat) : Int)))] [0,1,6,7,8,10] (st' := ⟨[(0,(i6 op)),(1,(LI ws)),(6,yu4),(7,(LI xs)),(8,(LI nums)),(10,(i6 ((i + 1 : Nat) : Int)))],(yu0 xs nums op ws)⟩)
              (p := True∧(True∧(IntKind.wrap .i64 (((i : Nat) : Int) + 1)) = ((i + 1 : Nat) : Int))∧True∧True) (by kernel_rfl)
              ⟨oK,⟨oK,(w64n (by first | rfl | simp | omega) (by first | omega | (simp; first | done | omega)))⟩,oK,oK⟩ ?_
            refine ⟨i + 1,by kernel_rfl,(?_ : (i + 1) ≤ xs.length∧∀ j,j < (i + 1) → 0 ≤ xs.getD j 0∧xs.getD j 0 ≤ maskF (ws.getD j 0)),(?_ : xs.length - (i + 1) < xs.length - i)⟩
            · exact ⟨by omega,lt_more hall ⟨by omega,by omega⟩⟩
            · omega
      · try simp only [decide_eq_true_eq,decide_eq_false_iff_not,beq_iff_eq,bne_iff_ne,ne_eq,beq_eq_false_iff_ne,bne_eq_false_iff_eq,Bool.not_eq_true,Bool.not_eq_false,Bool.not_eq_true',Bool.not_eq_false',Bool.not_not,gt_iff_lt,ge_iff_le,Nat.not_lt,Int.not_lt,Int.not_le] at hc43
        refine Ev.exit ?_
        refine Ev.seq ?_
        refine Ev.seq ?_
        have hin : inF ws xs = true := in_all (fun j hj => hall j (by omega))
        obtain ⟨hl0,hf,-⟩ := ok_yes h
        rcases (show op = 1 ∨ op = 2 ∨ op = 3 ∨ op = 4 ∨ op = 5 ∨ op = 6 ∨ op = 7 ∨ op = 8 ∨ op = 9 ∨ op = 10 ∨ op = 11 ∨ op = 12 ∨ op = 13 from ok_range h) with hop | hop | hop | hop | hop | hop | hop | hop | hop | hop | hop | hop | hop
        · skip
          have hA : arityF op = 0 := by rw [hop]; decide
          rw [hA] at hl0
          refine Ev.reg [] [0,1,6,7,8,64] (st' := ⟨(yu9 op ws xs nums),(yu0 xs nums op ws)⟩)
            (p := True∧True) (by kernel_rfl)
            ⟨oK,oK⟩ ?_
          refine Ev.block ?_
          refine Ev.seq ?_
          refine Ev.reg [(0,.val (dB true))] [0,1,6,7,8,64,65] (st' := ⟨[(0,(i6 op)),(1,(LI ws)),(6,yu4),(7,(LI xs)),(8,(LI nums)),(64,(i6 op)),(65,(dB true))],(yu0 xs nums op ws)⟩)
            (p := (True∧(op == 1) = true)∧True∧True) (by kernel_rfl)
            ⟨⟨oK,(by rw [hop]; rfl)⟩,oK,oK⟩ ?_
          refine Ev.cond true rfl (fun _ => ?_) (fun h => (by cases h))
          refine Ev.seq ?_
          refine Ev.reg [] [6] (st' := ⟨[(6,yu4)],[(yu15 xs nums),(.var 32 [(i6 (nums.getD 0 0)),(i6 0)]),(.var 32 (yu6 op ws nums))]⟩)
            (p := True∧(0 ≤ (0 : Int)∧0 < (nums.length : Int))∧T3 True) (by kernel_rfl)
            ⟨oK,(by first | omega | (simp; first | done | omega)),oK,oK,oK,oK⟩ ?_
          refine Ev.ret ?_
          refine ⟨⟨oK,oK⟩,(?_ : (nums.getD 0 0) = (applyV op ws xs nums)∧(0 : Int) = (applyE op ws xs nums)∧True),.inr ⟨oK,oK,oK⟩⟩
          subst hop
          exact ⟨(ap_yes hx.1 hx.2 h hin).1.symm,(ap_yes hx.1 hx.2 h hin).2.symm,oK⟩
        · skip
          have hA : arityF op = 1 := by rw [hop]; decide
          rw [hA] at hl0
          refine Ev.reg [] [0,1,6,7,8,64] (st' := ⟨(yu9 op ws xs nums),(yu0 xs nums op ws)⟩)
            (p := True∧True) (by kernel_rfl)
            ⟨oK,oK⟩ ?_
          refine Ev.block ?_
          refine Ev.seq ?_
          refine Ev.reg [(0,.val (dB false))] [0,1,6,7,8,64,65] (st' := ⟨(yu7 op ws xs nums),(yu0 xs nums op ws)⟩)
            (p := (True∧(op == 1) = false)∧True∧True) (by kernel_rfl)
            ⟨⟨oK,(by rw [hop]; rfl)⟩,oK,oK⟩ ?_
          refine Ev.cond false rfl (fun h => (by cases h)) (fun _ => ?_)
          refine Ev.seq ?_
          refine Ev.reg [(0,.val (dB false))] [0,1,6,7,8,64,71] (st' := ⟨(yu8 op ws xs nums),(yu0 xs nums op ws)⟩)
            (p := (True∧(op == 12) = false)∧True∧True) (by kernel_rfl)
            ⟨⟨oK,(by rw [hop]; rfl)⟩,oK,oK⟩ ?_
          refine Ev.cond false rfl (fun h => (by cases h)) (fun _ => ?_)
          refine Ev.seq ?_
          refine Ev.reg [(0,.val (dB false))] [0,1,6,7,64,87] (st' := ⟨(yu12 op ws xs),(yu0 xs nums op ws)⟩)
            (p := (True∧(op == 13) = false)∧True∧True) (by kernel_rfl)
            ⟨⟨oK,(by rw [hop]; rfl)⟩,oK,oK⟩ ?_
          refine Ev.cond false rfl (fun h => (by cases h)) (fun _ => ?_)
          refine Ev.seq ?_
          refine Ev.reg [(0,.val (dB false))] [0,1,6,7,93] (st' := ⟨(yu14 op ws xs),(yu0 xs nums op ws)⟩)
            (p := (True∧(op == 11) = false)∧True∧True) (by kernel_rfl)
            ⟨⟨oK,(by rw [hop]; rfl)⟩,oK,oK⟩ ?_
          refine Ev.cond false rfl (fun h => (by cases h)) (fun _ => ?_)
          refine Ev.skip ?_
          refine Ev.seq ?_
          refine Ev.reg [(6,.call none false (yu10 op ws xs nums))] [6] (st' := ⟨[(6,yu4)],(yu2 xs nums op ws)⟩)
            (p := T2 ((0 ≤ (0 : Int)∧0 < (ws.length : Int))∧T3 (callOb Try.prog 30 (yu0 xs nums op ws) [(i6 op),(yu13 ws),(LI xs)] none false (yu10 op ws xs nums)∧T2 True))) (by kernel_rfl)
            ⟨oK,oK,(by first | omega | (simp; first | done | omega)),oK,oK,oK,(by subst hop; exact value_2 ws xs (nums.getD 0 0) (nums.getD 1 0) (by omega) (by assumption) (by omega) (by assumption)),oK,oK,oK⟩ ?_
          refine Ev.ret ?_
          refine ⟨⟨oK,oK⟩,(?_ : (avF op ws xs (nums.getD 0 0) (nums.getD 1 0)) = (applyV op ws xs nums)∧(0 : Int) = (applyE op ws xs nums)∧True),.inr ⟨oK,oK,oK⟩⟩
          exact ⟨(ap_yes hx.1 hx.2 h hin).1.symm,(ap_yes hx.1 hx.2 h hin).2.symm,oK⟩
        · skip
          have hA : arityF op = 2 := by rw [hop]; decide
          rw [hA] at hl0
          have hsame := equal_two ((okr_two (by omega)).1 h)
          refine Ev.reg [] [0,1,6,7,8,64] (st' := ⟨(yu9 op ws xs nums),(yu0 xs nums op ws)⟩)
            (p := True∧True) (by kernel_rfl)
            ⟨oK,oK⟩ ?_
          refine Ev.block ?_
          refine Ev.seq ?_
          refine Ev.reg [(0,.val (dB false))] [0,1,6,7,8,64,65] (st' := ⟨(yu7 op ws xs nums),(yu0 xs nums op ws)⟩)
            (p := (True∧(op == 1) = false)∧True∧True) (by kernel_rfl)
            ⟨⟨oK,(by rw [hop]; rfl)⟩,oK,oK⟩ ?_
          refine Ev.cond false rfl (fun h => (by cases h)) (fun _ => ?_)
          refine Ev.seq ?_
          refine Ev.reg [(0,.val (dB false))] [0,1,6,7,8,64,71] (st' := ⟨(yu8 op ws xs nums),(yu0 xs nums op ws)⟩)
            (p := (True∧(op == 12) = false)∧True∧True) (by kernel_rfl)
            ⟨⟨oK,(by rw [hop]; rfl)⟩,oK,oK⟩ ?_
          refine Ev.cond false rfl (fun h => (by cases h)) (fun _ => ?_)
          refine Ev.seq ?_
          refine Ev.reg [(0,.val (dB false))] [0,1,6,7,64,87] (st' := ⟨(yu12 op ws xs),(yu0 xs nums op ws)⟩)
            (p := (True∧(op == 13) = false)∧True∧True) (by kernel_rfl)
            ⟨⟨oK,(by rw [hop]; rfl)⟩,oK,oK⟩ ?_
          refine Ev.cond false rfl (fun h => (by cases h)) (fun _ => ?_)
          refine Ev.seq ?_
          refine Ev.reg [(0,.val (dB false))] [0,1,6,7,93] (st' := ⟨(yu14 op ws xs),(yu0 xs nums op ws)⟩)
            (p := (True∧(op == 11) = false)∧True∧True) (by kernel_rfl)
            ⟨⟨oK,(by rw [hop]; rfl)⟩,oK,oK⟩ ?_
          refine Ev.cond false rfl (fun h => (by cases h)) (fun _ => ?_)
          refine Ev.skip ?_
          refine Ev.seq ?_
          refine Ev.reg [(6,.call none false (yu10 op ws xs nums))] [6] (st' := ⟨[(6,yu4)],(yu2 xs nums op ws)⟩)
            (p := T2 ((0 ≤ (0 : Int)∧0 < (ws.length : Int))∧T3 (callOb Try.prog 30 (yu0 xs nums op ws) [(i6 op),(yu13 ws),(LI xs)] none false (yu10 op ws xs nums)∧T2 True))) (by kernel_rfl)
            ⟨oK,oK,(by first | omega | (simp; first | done | omega)),oK,oK,oK,(by subst hop; exact value_3 ws xs (nums.getD 0 0) (nums.getD 1 0) (by omega) (by assumption) (by omega) (by assumption) (by assumption)),oK,oK,oK⟩ ?_
          refine Ev.ret ?_
          refine ⟨⟨oK,oK⟩,(?_ : (avF op ws xs (nums.getD 0 0) (nums.getD 1 0)) = (applyV op ws xs nums)∧(0 : Int) = (applyE op ws xs nums)∧True),.inr ⟨oK,oK,oK⟩⟩
          exact ⟨(ap_yes hx.1 hx.2 h hin).1.symm,(ap_yes hx.1 hx.2 h hin).2.symm,oK⟩
        · skip
          have hA : arityF op = 2 := by rw [hop]; decide
          rw [hA] at hl0
          have hsame := equal_two ((okr_two (by omega)).1 h)
          refine Ev.reg [] [0,1,6,7,8,64] (st' := ⟨(yu9 op ws xs nums),(yu0 xs nums op ws)⟩)
            (p := True∧True) (by kernel_rfl)
            ⟨oK,oK⟩ ?_
          refine Ev.block ?_
          refine Ev.seq ?_
          refine Ev.reg [(0,.val (dB false))] [0,1,6,7,8,64,65] (st' := ⟨(yu7 op ws xs nums),(yu0 xs nums op ws)⟩)
            (p := (True∧(op == 1) = false)∧True∧True) (by kernel_rfl)
            ⟨⟨oK,(by rw [hop]; rfl)⟩,oK,oK⟩ ?_
          refine Ev.cond false rfl (fun h => (by cases h)) (fun _ => ?_)
          refine Ev.seq ?_
          refine Ev.reg [(0,.val (dB false))] [0,1,6,7,8,64,71] (st' := ⟨(yu8 op ws xs nums),(yu0 xs nums op ws)⟩)
            (p := (True∧(op == 12) = false)∧True∧True) (by kernel_rfl)
            ⟨⟨oK,(by rw [hop]; rfl)⟩,oK,oK⟩ ?_
          refine Ev.cond false rfl (fun h => (by cases h)) (fun _ => ?_)
          refine Ev.seq ?_
          refine Ev.reg [(0,.val (dB false))] [0,1,6,7,64,87] (st' := ⟨(yu12 op ws xs),(yu0 xs nums op ws)⟩)
            (p := (True∧(op == 13) = false)∧True∧True) (by kernel_rfl)
            ⟨⟨oK,(by rw [hop]; rfl)⟩,oK,oK⟩ ?_
          refine Ev.cond false rfl (fun h => (by cases h)) (fun _ => ?_)
          refine Ev.seq ?_
          refine Ev.reg [(0,.val (dB false))] [0,1,6,7,93] (st' := ⟨(yu14 op ws xs),(yu0 xs nums op ws)⟩)
            (p := (True∧(op == 11) = false)∧True∧True) (by kernel_rfl)
            ⟨⟨oK,(by rw [hop]; rfl)⟩,oK,oK⟩ ?_
          refine Ev.cond false rfl (fun h => (by cases h)) (fun _ => ?_)
          refine Ev.skip ?_
          refine Ev.seq ?_
          refine Ev.reg [(6,.call none false (yu10 op ws xs nums))] [6] (st' := ⟨[(6,yu4)],(yu2 xs nums op ws)⟩)
            (p := T2 ((0 ≤ (0 : Int)∧0 < (ws.length : Int))∧T3 (callOb Try.prog 30 (yu0 xs nums op ws) [(i6 op),(yu13 ws),(LI xs)] none false (yu10 op ws xs nums)∧T2 True))) (by kernel_rfl)
            ⟨oK,oK,(by first | omega | (simp; first | done | omega)),oK,oK,oK,(by subst hop; exact value_4 ws xs (nums.getD 0 0) (nums.getD 1 0) (by omega) (by assumption) (by omega) (by assumption) (by assumption)),oK,oK,oK⟩ ?_
          refine Ev.ret ?_
          refine ⟨⟨oK,oK⟩,(?_ : (avF op ws xs (nums.getD 0 0) (nums.getD 1 0)) = (applyV op ws xs nums)∧(0 : Int) = (applyE op ws xs nums)∧True),.inr ⟨oK,oK,oK⟩⟩
          exact ⟨(ap_yes hx.1 hx.2 h hin).1.symm,(ap_yes hx.1 hx.2 h hin).2.symm,oK⟩
        · skip
          have hA : arityF op = 2 := by rw [hop]; decide
          rw [hA] at hl0
          have hsame := equal_two ((okr_two (by omega)).1 h)
          refine Ev.reg [] [0,1,6,7,8,64] (st' := ⟨(yu9 op ws xs nums),(yu0 xs nums op ws)⟩)
            (p := True∧True) (by kernel_rfl)
            ⟨oK,oK⟩ ?_
          refine Ev.block ?_
          refine Ev.seq ?_
          refine Ev.reg [(0,.val (dB false))] [0,1,6,7,8,64,65] (st' := ⟨(yu7 op ws xs nums),(yu0 xs nums op ws)⟩)
            (p := (True∧(op == 1) = false)∧True∧True) (by kernel_rfl)
            ⟨⟨oK,(by rw [hop]; rfl)⟩,oK,oK⟩ ?_
          refine Ev.cond false rfl (fun h => (by cases h)) (fun _ => ?_)
          refine Ev.seq ?_
          refine Ev.reg [(0,.val (dB false))] [0,1,6,7,8,64,71] (st' := ⟨(yu8 op ws xs nums),(yu0 xs nums op ws)⟩)
            (p := (True∧(op == 12) = false)∧True∧True) (by kernel_rfl)
            ⟨⟨oK,(by rw [hop]; rfl)⟩,oK,oK⟩ ?_
          refine Ev.cond false rfl (fun h => (by cases h)) (fun _ => ?_)
          refine Ev.seq ?_
          refine Ev.reg [(0,.val (dB false))] [0,1,6,7,64,87] (st' := ⟨(yu12 op ws xs),(yu0 xs nums op ws)⟩)
            (p := (True∧(op == 13) = false)∧True∧True) (by kernel_rfl)
            ⟨⟨oK,(by rw [hop]; rfl)⟩,oK,oK⟩ ?_
          refine Ev.cond false rfl (fun h => (by cases h)) (fun _ => ?_)
          refine Ev.seq ?_
          refine Ev.reg [(0,.val (dB false))] [0,1,6,7,93] (st' := ⟨(yu14 op ws xs),(yu0 xs nums op ws)⟩)
            (p := (True∧(op == 11) = false)∧True∧True) (by kernel_rfl)
            ⟨⟨oK,(by rw [hop]; rfl)⟩,oK,oK⟩ ?_
          refine Ev.cond false rfl (fun h => (by cases h)) (fun _ => ?_)
          refine Ev.skip ?_
          refine Ev.seq ?_
          refine Ev.reg [(6,.call none false (yu10 op ws xs nums))] [6] (st' := ⟨[(6,yu4)],(yu2 xs nums op ws)⟩)
            (p := T2 ((0 ≤ (0 : Int)∧0 < (ws.length : Int))∧T3 (callOb Try.prog 30 (yu0 xs nums op ws) [(i6 op),(yu13 ws),(LI xs)] none false (yu10 op ws xs nums)∧T2 True))) (by kernel_rfl)
            ⟨oK,oK,(by first | omega | (simp; first | done | omega)),oK,oK,oK,(by subst hop; exact value_5 ws xs (nums.getD 0 0) (nums.getD 1 0) (by omega) (by assumption) (by omega) (by assumption) (by assumption)),oK,oK,oK⟩ ?_
          refine Ev.ret ?_
          refine ⟨⟨oK,oK⟩,(?_ : (avF op ws xs (nums.getD 0 0) (nums.getD 1 0)) = (applyV op ws xs nums)∧(0 : Int) = (applyE op ws xs nums)∧True),.inr ⟨oK,oK,oK⟩⟩
          exact ⟨(ap_yes hx.1 hx.2 h hin).1.symm,(ap_yes hx.1 hx.2 h hin).2.symm,oK⟩
        · skip
          have hA : arityF op = 2 := by rw [hop]; decide
          rw [hA] at hl0
          have hsame := equal_two ((okr_two (by omega)).1 h)
          refine Ev.reg [] [0,1,6,7,8,64] (st' := ⟨(yu9 op ws xs nums),(yu0 xs nums op ws)⟩)
            (p := True∧True) (by kernel_rfl)
            ⟨oK,oK⟩ ?_
          refine Ev.block ?_
          refine Ev.seq ?_
          refine Ev.reg [(0,.val (dB false))] [0,1,6,7,8,64,65] (st' := ⟨(yu7 op ws xs nums),(yu0 xs nums op ws)⟩)
            (p := (True∧(op == 1) = false)∧True∧True) (by kernel_rfl)
            ⟨⟨oK,(by rw [hop]; rfl)⟩,oK,oK⟩ ?_
          refine Ev.cond false rfl (fun h => (by cases h)) (fun _ => ?_)
          refine Ev.seq ?_
          refine Ev.reg [(0,.val (dB false))] [0,1,6,7,8,64,71] (st' := ⟨(yu8 op ws xs nums),(yu0 xs nums op ws)⟩)
            (p := (True∧(op == 12) = false)∧True∧True) (by kernel_rfl)
            ⟨⟨oK,(by rw [hop]; rfl)⟩,oK,oK⟩ ?_
          refine Ev.cond false rfl (fun h => (by cases h)) (fun _ => ?_)
          refine Ev.seq ?_
          refine Ev.reg [(0,.val (dB false))] [0,1,6,7,64,87] (st' := ⟨(yu12 op ws xs),(yu0 xs nums op ws)⟩)
            (p := (True∧(op == 13) = false)∧True∧True) (by kernel_rfl)
            ⟨⟨oK,(by rw [hop]; rfl)⟩,oK,oK⟩ ?_
          refine Ev.cond false rfl (fun h => (by cases h)) (fun _ => ?_)
          refine Ev.seq ?_
          refine Ev.reg [(0,.val (dB false))] [0,1,6,7,93] (st' := ⟨(yu14 op ws xs),(yu0 xs nums op ws)⟩)
            (p := (True∧(op == 11) = false)∧True∧True) (by kernel_rfl)
            ⟨⟨oK,(by rw [hop]; rfl)⟩,oK,oK⟩ ?_
          refine Ev.cond false rfl (fun h => (by cases h)) (fun _ => ?_)
          refine Ev.skip ?_
          refine Ev.seq ?_
          refine Ev.reg [(6,.call none false (yu10 op ws xs nums))] [6] (st' := ⟨[(6,yu4)],(yu2 xs nums op ws)⟩)
            (p := T2 ((0 ≤ (0 : Int)∧0 < (ws.length : Int))∧T3 (callOb Try.prog 30 (yu0 xs nums op ws) [(i6 op),(yu13 ws),(LI xs)] none false (yu10 op ws xs nums)∧T2 True))) (by kernel_rfl)
            ⟨oK,oK,(by first | omega | (simp; first | done | omega)),oK,oK,oK,(by subst hop; exact value_6 ws xs (nums.getD 0 0) (nums.getD 1 0) (by omega) (by assumption) (by omega) (by assumption) (by assumption)),oK,oK,oK⟩ ?_
          refine Ev.ret ?_
          refine ⟨⟨oK,oK⟩,(?_ : (avF op ws xs (nums.getD 0 0) (nums.getD 1 0)) = (applyV op ws xs nums)∧(0 : Int) = (applyE op ws xs nums)∧True),.inr ⟨oK,oK,oK⟩⟩
          exact ⟨(ap_yes hx.1 hx.2 h hin).1.symm,(ap_yes hx.1 hx.2 h hin).2.symm,oK⟩
        · skip
          have hA : arityF op = 2 := by rw [hop]; decide
          rw [hA] at hl0
          have hsame := equal_two ((okr_two (by omega)).1 h)
          refine Ev.reg [] [0,1,6,7,8,64] (st' := ⟨(yu9 op ws xs nums),(yu0 xs nums op ws)⟩)
            (p := True∧True) (by kernel_rfl)
            ⟨oK,oK⟩ ?_
          refine Ev.block ?_
          refine Ev.seq ?_
          refine Ev.reg [(0,.val (dB false))] [0,1,6,7,8,64,65] (st' := ⟨(yu7 op ws xs nums),(yu0 xs nums op ws)⟩)
            (p := (True∧(op == 1) = false)∧True∧True) (by kernel_rfl)
            ⟨⟨oK,(by rw [hop]; rfl)⟩,oK,oK⟩ ?_
          refine Ev.cond false rfl (fun h => (by cases h)) (fun _ => ?_)
          refine Ev.seq ?_
          refine Ev.reg [(0,.val (dB false))] [0,1,6,7,8,64,71] (st' := ⟨(yu8 op ws xs nums),(yu0 xs nums op ws)⟩)
            (p := (True∧(op == 12) = false)∧True∧True) (by kernel_rfl)
            ⟨⟨oK,(by rw [hop]; rfl)⟩,oK,oK⟩ ?_
          refine Ev.cond false rfl (fun h => (by cases h)) (fun _ => ?_)
          refine Ev.seq ?_
          refine Ev.reg [(0,.val (dB false))] [0,1,6,7,64,87] (st' := ⟨(yu12 op ws xs),(yu0 xs nums op ws)⟩)
            (p := (True∧(op == 13) = false)∧True∧True) (by kernel_rfl)
            ⟨⟨oK,(by rw [hop]; rfl)⟩,oK,oK⟩ ?_
          refine Ev.cond false rfl (fun h => (by cases h)) (fun _ => ?_)
          refine Ev.seq ?_
          refine Ev.reg [(0,.val (dB false))] [0,1,6,7,93] (st' := ⟨(yu14 op ws xs),(yu0 xs nums op ws)⟩)
            (p := (True∧(op == 11) = false)∧True∧True) (by kernel_rfl)
            ⟨⟨oK,(by rw [hop]; rfl)⟩,oK,oK⟩ ?_
          refine Ev.cond false rfl (fun h => (by cases h)) (fun _ => ?_)
          refine Ev.skip ?_
          refine Ev.seq ?_
          refine Ev.reg [(6,.call none false (yu10 op ws xs nums))] [6] (st' := ⟨[(6,yu4)],(yu2 xs nums op ws)⟩)
            (p := T2 ((0 ≤ (0 : Int)∧0 < (ws.length : Int))∧T3 (callOb Try.prog 30 (yu0 xs nums op ws) [(i6 op),(yu13 ws),(LI xs)] none false (yu10 op ws xs nums)∧T2 True))) (by kernel_rfl)
            ⟨oK,oK,(by first | omega | (simp; first | done | omega)),oK,oK,oK,(by subst hop; exact value_7 ws xs (nums.getD 0 0) (nums.getD 1 0) (by omega) (by assumption) (by omega) (by assumption) (by assumption)),oK,oK,oK⟩ ?_
          refine Ev.ret ?_
          refine ⟨⟨oK,oK⟩,(?_ : (avF op ws xs (nums.getD 0 0) (nums.getD 1 0)) = (applyV op ws xs nums)∧(0 : Int) = (applyE op ws xs nums)∧True),.inr ⟨oK,oK,oK⟩⟩
          exact ⟨(ap_yes hx.1 hx.2 h hin).1.symm,(ap_yes hx.1 hx.2 h hin).2.symm,oK⟩
        · skip
          have hA : arityF op = 2 := by rw [hop]; decide
          rw [hA] at hl0
          have hsame := equal_two ((okr_cmp (by omega)).1 h)
          refine Ev.reg [] [0,1,6,7,8,64] (st' := ⟨(yu9 op ws xs nums),(yu0 xs nums op ws)⟩)
            (p := True∧True) (by kernel_rfl)
            ⟨oK,oK⟩ ?_
          refine Ev.block ?_
          refine Ev.seq ?_
          refine Ev.reg [(0,.val (dB false))] [0,1,6,7,8,64,65] (st' := ⟨(yu7 op ws xs nums),(yu0 xs nums op ws)⟩)
            (p := (True∧(op == 1) = false)∧True∧True) (by kernel_rfl)
            ⟨⟨oK,(by rw [hop]; rfl)⟩,oK,oK⟩ ?_
          refine Ev.cond false rfl (fun h => (by cases h)) (fun _ => ?_)
          refine Ev.seq ?_
          refine Ev.reg [(0,.val (dB false))] [0,1,6,7,8,64,71] (st' := ⟨(yu8 op ws xs nums),(yu0 xs nums op ws)⟩)
            (p := (True∧(op == 12) = false)∧True∧True) (by kernel_rfl)
            ⟨⟨oK,(by rw [hop]; rfl)⟩,oK,oK⟩ ?_
          refine Ev.cond false rfl (fun h => (by cases h)) (fun _ => ?_)
          refine Ev.seq ?_
          refine Ev.reg [(0,.val (dB false))] [0,1,6,7,64,87] (st' := ⟨(yu12 op ws xs),(yu0 xs nums op ws)⟩)
            (p := (True∧(op == 13) = false)∧True∧True) (by kernel_rfl)
            ⟨⟨oK,(by rw [hop]; rfl)⟩,oK,oK⟩ ?_
          refine Ev.cond false rfl (fun h => (by cases h)) (fun _ => ?_)
          refine Ev.seq ?_
          refine Ev.reg [(0,.val (dB false))] [0,1,6,7,93] (st' := ⟨(yu14 op ws xs),(yu0 xs nums op ws)⟩)
            (p := (True∧(op == 11) = false)∧True∧True) (by kernel_rfl)
            ⟨⟨oK,(by rw [hop]; rfl)⟩,oK,oK⟩ ?_
          refine Ev.cond false rfl (fun h => (by cases h)) (fun _ => ?_)
          refine Ev.skip ?_
          refine Ev.seq ?_
          refine Ev.reg [(6,.call none false (yu10 op ws xs nums))] [6] (st' := ⟨[(6,yu4)],(yu2 xs nums op ws)⟩)
            (p := T2 ((0 ≤ (0 : Int)∧0 < (ws.length : Int))∧T3 (callOb Try.prog 30 (yu0 xs nums op ws) [(i6 op),(yu13 ws),(LI xs)] none false (yu10 op ws xs nums)∧T2 True))) (by kernel_rfl)
            ⟨oK,oK,(by first | omega | (simp; first | done | omega)),oK,oK,oK,(by subst hop; exact value_8 ws xs (nums.getD 0 0) (nums.getD 1 0) (by omega) (by assumption) (by omega) (by assumption) (by assumption)),oK,oK,oK⟩ ?_
          refine Ev.ret ?_
          refine ⟨⟨oK,oK⟩,(?_ : (avF op ws xs (nums.getD 0 0) (nums.getD 1 0)) = (applyV op ws xs nums)∧(0 : Int) = (applyE op ws xs nums)∧True),.inr ⟨oK,oK,oK⟩⟩
          exact ⟨(ap_yes hx.1 hx.2 h hin).1.symm,(ap_yes hx.1 hx.2 h hin).2.symm,oK⟩
        · skip
          have hA : arityF op = 2 := by rw [hop]; decide
          rw [hA] at hl0
          have hsame := equal_two ((okr_cmp (by omega)).1 h)
          refine Ev.reg [] [0,1,6,7,8,64] (st' := ⟨(yu9 op ws xs nums),(yu0 xs nums op ws)⟩)
            (p := True∧True) (by kernel_rfl)
            ⟨oK,oK⟩ ?_
          refine Ev.block ?_
          refine Ev.seq ?_
          refine Ev.reg [(0,.val (dB false))] [0,1,6,7,8,64,65] (st' := ⟨(yu7 op ws xs nums),(yu0 xs nums op ws)⟩)
            (p := (True∧(op == 1) = false)∧True∧True) (by kernel_rfl)
            ⟨⟨oK,(by rw [hop]; rfl)⟩,oK,oK⟩ ?_
          refine Ev.cond false rfl (fun h => (by cases h)) (fun _ => ?_)
          refine Ev.seq ?_
          refine Ev.reg [(0,.val (dB false))] [0,1,6,7,8,64,71] (st' := ⟨(yu8 op ws xs nums),(yu0 xs nums op ws)⟩)
            (p := (True∧(op == 12) = false)∧True∧True) (by kernel_rfl)
            ⟨⟨oK,(by rw [hop]; rfl)⟩,oK,oK⟩ ?_
          refine Ev.cond false rfl (fun h => (by cases h)) (fun _ => ?_)
          refine Ev.seq ?_
          refine Ev.reg [(0,.val (dB false))] [0,1,6,7,64,87] (st' := ⟨(yu12 op ws xs),(yu0 xs nums op ws)⟩)
            (p := (True∧(op == 13) = false)∧True∧True) (by kernel_rfl)
            ⟨⟨oK,(by rw [hop]; rfl)⟩,oK,oK⟩ ?_
          refine Ev.cond false rfl (fun h => (by cases h)) (fun _ => ?_)
          refine Ev.seq ?_
          refine Ev.reg [(0,.val (dB false))] [0,1,6,7,93] (st' := ⟨(yu14 op ws xs),(yu0 xs nums op ws)⟩)
            (p := (True∧(op == 11) = false)∧True∧True) (by kernel_rfl)
            ⟨⟨oK,(by rw [hop]; rfl)⟩,oK,oK⟩ ?_
          refine Ev.cond false rfl (fun h => (by cases h)) (fun _ => ?_)
          refine Ev.skip ?_
          refine Ev.seq ?_
          refine Ev.reg [(6,.call none false (yu10 op ws xs nums))] [6] (st' := ⟨[(6,yu4)],(yu2 xs nums op ws)⟩)
            (p := T2 ((0 ≤ (0 : Int)∧0 < (ws.length : Int))∧T3 (callOb Try.prog 30 (yu0 xs nums op ws) [(i6 op),(yu13 ws),(LI xs)] none false (yu10 op ws xs nums)∧T2 True))) (by kernel_rfl)
            ⟨oK,oK,(by first | omega | (simp; first | done | omega)),oK,oK,oK,(by subst hop; exact value_9 ws xs (nums.getD 0 0) (nums.getD 1 0) (by omega) (by assumption) (by omega) (by assumption) (by assumption)),oK,oK,oK⟩ ?_
          refine Ev.ret ?_
          refine ⟨⟨oK,oK⟩,(?_ : (avF op ws xs (nums.getD 0 0) (nums.getD 1 0)) = (applyV op ws xs nums)∧(0 : Int) = (applyE op ws xs nums)∧True),.inr ⟨oK,oK,oK⟩⟩
          exact ⟨(ap_yes hx.1 hx.2 h hin).1.symm,(ap_yes hx.1 hx.2 h hin).2.symm,oK⟩
        · skip
          have hA : arityF op = 3 := by rw [hop]; decide
          rw [hA] at hl0
          have hone := mux_one (by rw [← hop]; exact h)
          refine Ev.reg [] [0,1,6,7,8,64] (st' := ⟨(yu9 op ws xs nums),(yu0 xs nums op ws)⟩)
            (p := True∧True) (by kernel_rfl)
            ⟨oK,oK⟩ ?_
          refine Ev.block ?_
          refine Ev.seq ?_
          refine Ev.reg [(0,.val (dB false))] [0,1,6,7,8,64,65] (st' := ⟨(yu7 op ws xs nums),(yu0 xs nums op ws)⟩)
            (p := (True∧(op == 1) = false)∧True∧True) (by kernel_rfl)
            ⟨⟨oK,(by rw [hop]; rfl)⟩,oK,oK⟩ ?_
          refine Ev.cond false rfl (fun h => (by cases h)) (fun _ => ?_)
          refine Ev.seq ?_
          refine Ev.reg [(0,.val (dB false))] [0,1,6,7,8,64,71] (st' := ⟨(yu8 op ws xs nums),(yu0 xs nums op ws)⟩)
            (p := (True∧(op == 12) = false)∧True∧True) (by kernel_rfl)
            ⟨⟨oK,(by rw [hop]; rfl)⟩,oK,oK⟩ ?_
          refine Ev.cond false rfl (fun h => (by cases h)) (fun _ => ?_)
          refine Ev.seq ?_
          refine Ev.reg [(0,.val (dB false))] [0,1,6,7,64,87] (st' := ⟨(yu12 op ws xs),(yu0 xs nums op ws)⟩)
            (p := (True∧(op == 13) = false)∧True∧True) (by kernel_rfl)
            ⟨⟨oK,(by rw [hop]; rfl)⟩,oK,oK⟩ ?_
          refine Ev.cond false rfl (fun h => (by cases h)) (fun _ => ?_)
          refine Ev.seq ?_
          refine Ev.reg [(0,.val (dB false))] [0,1,6,7,93] (st' := ⟨(yu14 op ws xs),(yu0 xs nums op ws)⟩)
            (p := (True∧(op == 11) = false)∧True∧True) (by kernel_rfl)
            ⟨⟨oK,(by rw [hop]; rfl)⟩,oK,oK⟩ ?_
          refine Ev.cond false rfl (fun h => (by cases h)) (fun _ => ?_)
          refine Ev.skip ?_
          refine Ev.seq ?_
          refine Ev.reg [(6,.call none false (yu10 op ws xs nums))] [6] (st' := ⟨[(6,yu4)],(yu2 xs nums op ws)⟩)
            (p := T2 ((0 ≤ (0 : Int)∧0 < (ws.length : Int))∧T3 (callOb Try.prog 30 (yu0 xs nums op ws) [(i6 op),(yu13 ws),(LI xs)] none false (yu10 op ws xs nums)∧T2 True))) (by kernel_rfl)
            ⟨oK,oK,(by first | omega | (simp; first | done | omega)),oK,oK,oK,(by subst hop; exact value_10 ws xs (nums.getD 0 0) (nums.getD 1 0) (by omega) (by assumption) (by omega) (by assumption) (by assumption)),oK,oK,oK⟩ ?_
          refine Ev.ret ?_
          refine ⟨⟨oK,oK⟩,(?_ : (avF op ws xs (nums.getD 0 0) (nums.getD 1 0)) = (applyV op ws xs nums)∧(0 : Int) = (applyE op ws xs nums)∧True),.inr ⟨oK,oK,oK⟩⟩
          exact ⟨(ap_yes hx.1 hx.2 h hin).1.symm,(ap_yes hx.1 hx.2 h hin).2.symm,oK⟩
        · skip
          have hA : arityF op = 2 := by rw [hop]; decide
          rw [hA] at hl0
          refine Ev.reg [] [0,1,6,7,8,64] (st' := ⟨(yu9 op ws xs nums),(yu0 xs nums op ws)⟩)
            (p := True∧True) (by kernel_rfl)
            ⟨oK,oK⟩ ?_
          refine Ev.block ?_
          refine Ev.seq ?_
          refine Ev.reg [(0,.val (dB false))] [0,1,6,7,8,64,65] (st' := ⟨(yu7 op ws xs nums),(yu0 xs nums op ws)⟩)
            (p := (True∧(op == 1) = false)∧True∧True) (by kernel_rfl)
            ⟨⟨oK,(by rw [hop]; rfl)⟩,oK,oK⟩ ?_
          refine Ev.cond false rfl (fun h => (by cases h)) (fun _ => ?_)
          refine Ev.seq ?_
          refine Ev.reg [(0,.val (dB false))] [0,1,6,7,8,64,71] (st' := ⟨(yu8 op ws xs nums),(yu0 xs nums op ws)⟩)
            (p := (True∧(op == 12) = false)∧True∧True) (by kernel_rfl)
            ⟨⟨oK,(by rw [hop]; rfl)⟩,oK,oK⟩ ?_
          refine Ev.cond false rfl (fun h => (by cases h)) (fun _ => ?_)
          refine Ev.seq ?_
          refine Ev.reg [(0,.val (dB false))] [0,1,6,7,64,87] (st' := ⟨(yu12 op ws xs),(yu0 xs nums op ws)⟩)
            (p := (True∧(op == 13) = false)∧True∧True) (by kernel_rfl)
            ⟨⟨oK,(by rw [hop]; rfl)⟩,oK,oK⟩ ?_
          refine Ev.cond false rfl (fun h => (by cases h)) (fun _ => ?_)
          refine Ev.seq ?_
          refine Ev.reg [(0,.val (dB true))] [0,1,6,7,93] (st' := ⟨[(0,(i6 op)),(1,(LI ws)),(6,yu4),(7,(LI xs)),(93,(dB true))],(yu0 xs nums op ws)⟩)
            (p := (True∧(op == 11) = true)∧True∧True) (by kernel_rfl)
            ⟨⟨oK,(by rw [hop]; rfl)⟩,oK,oK⟩ ?_
          refine Ev.cond true rfl (fun _ => ?_) (fun h => (by cases h))
          refine Ev.seq ?_
          refine Ev.draw 11 [false,false,false,false,false,false,false,false,false,false,false] [(9,.call none false (yu10 op ws xs nums))] [6] (st' := ⟨[(6,yu4)],(yu2 xs nums op ws)⟩)
            (p := (T2 ((0 ≤ (0 : Int)∧0 < (ws.length : Int))∧T2 ((0 ≤ (1 : Int)∧1 < (ws.length : Int))∧T3 (callOb Try.prog 30 (yu0 xs nums op ws) [(i6 op),(.agg [(yu17 ws),(i6 (ws.getD 1 0))]),(LI xs)] none false (yu10 op ws xs nums)∧True∧True))))∧(True∧True)) (by kernel_rfl) (by kernel_rfl)
            ⟨⟨oK,oK,(by first | omega | (simp; first | done | omega)),oK,oK,(by first | omega | (simp; first | done | omega)),oK,oK,oK,(by subst hop; exact value_11 ws xs (nums.getD 0 0) (nums.getD 1 0) (by omega) (by assumption) (by omega) (by assumption)),oK,oK⟩,⟨oK,oK⟩⟩ ?_
          refine Ev.ret ?_
          refine ⟨⟨oK,oK⟩,(?_ : (avF op ws xs (nums.getD 0 0) (nums.getD 1 0)) = (applyV op ws xs nums)∧(0 : Int) = (applyE op ws xs nums)∧True),.inr ⟨oK,oK,oK⟩⟩
          exact ⟨(ap_yes hx.1 hx.2 h hin).1.symm,(ap_yes hx.1 hx.2 h hin).2.symm,oK⟩
        · skip
          have hA : arityF op = 1 := by rw [hop]; decide
          rw [hA] at hl0
          have hsk := slice_k (by rw [← hop]; exact h)
          have hwf := fits_iff.1 hsk.2.2
          refine Ev.reg [] [0,1,6,7,8,64] (st' := ⟨(yu9 op ws xs nums),(yu0 xs nums op ws)⟩)
            (p := True∧True) (by kernel_rfl)
            ⟨oK,oK⟩ ?_
          refine Ev.block ?_
          refine Ev.seq ?_
          refine Ev.reg [(0,.val (dB false))] [0,1,6,7,8,64,65] (st' := ⟨(yu7 op ws xs nums),(yu0 xs nums op ws)⟩)
            (p := (True∧(op == 1) = false)∧True∧True) (by kernel_rfl)
            ⟨⟨oK,(by rw [hop]; rfl)⟩,oK,oK⟩ ?_
          refine Ev.cond false rfl (fun h => (by cases h)) (fun _ => ?_)
          refine Ev.seq ?_
          refine Ev.reg [(0,.val (dB true))] [0,1,6,7,8,64,71] (st' := ⟨[(0,(i6 op)),(1,(LI ws)),(6,yu4),(7,(LI xs)),(8,(LI nums)),(64,(i6 op)),(71,(dB true))],(yu0 xs nums op ws)⟩)
            (p := (True∧(op == 12) = true)∧True∧True) (by kernel_rfl)
            ⟨⟨oK,(by rw [hop]; rfl)⟩,oK,oK⟩ ?_
          refine Ev.cond true rfl (fun _ => ?_) (fun h => (by cases h))
          refine Ev.seq ?_
          refine Ev.draw 14 [false,false,false,false,false,false,false,false,false,false,false,false,false,false] [(6,.val (dI .u64 (nums.getD 0 0))),(7,.val (i6 (xs.getD 0 0 / 2 ^ (nums.getD 0 0).toNat))),(11,.call none false (i6 (maskF (nums.getD 1 0)))),(12,.val (i6 ((xs.getD 0 0 / 2 ^ (nums.getD 0 0).toNat) % 2 ^ (nums.getD 1 0).toNat)))] [6] (st' := ⟨[(6,yu4)],[(yu15 xs nums),(.var 32 [(i6 ((xs.getD 0 0 / 2 ^ (nums.getD 0 0).toNat) % 2 ^ (nums.getD 1 0).toNat)),(i6 0)]),(.var 32 (yu6 op ws nums))]⟩)
            (p := (True∧(0 ≤ (0 : Int)∧0 < (xs.length : Int))∧T2 ((0 ≤ (0 : Int)∧0 < (nums.length : Int))∧True∧(True∧(IntKind.wrap .u64 (nums.getD 0 0)) = (nums.getD 0 0))∧(0 ≤ (nums.getD 0 0)∧(Int.fdiv (xs.getD 0 0) (2 ^ min ((nums.getD 0 0).toNat) 64)) = (xs.getD 0 0 / 2 ^ (nums.getD 0 0).toNat))∧True∧(0 ≤ (1 : Int)∧1 < (nums.length : Int))∧True∧callOb Try.prog 15 (yu0 xs nums op ws) [(i6 (nums.getD 1 0))] none false (i6 (maskF (nums.getD 1 0)))∧(True∧(IntKind.wrap .i64 (BitVec.ofInt (IntKind.i64).bits (xs.getD 0 0 / 2 ^ (nums.getD 0 0).toNat) &&& BitVec.ofInt (IntKind.i64).bits (maskF (nums.getD 1 0))).toNat) = ((xs.getD 0 0 / 2 ^ (nums.getD 0 0).toNat) % 2 ^ (nums.getD 1 0).toNat))∧True∧True))∧(True∧True)) (by kernel_rfl) (by kernel_rfl)
            ⟨⟨oK,(by first | omega | (simp; first | done | omega)),oK,oK,(by first | omega | (simp; first | done | omega)),oK,⟨oK,(wu64 rfl (by omega) (by omega))⟩,⟨(by omega),(shr_val hsk.1 (by omega))⟩,oK,(by first | omega | (simp; first | done | omega)),oK,(rmask_ok _),⟨oK,(by rw [maskF_in (by omega) (by omega)]; exact and_mask (by omega))⟩,oK,oK⟩,⟨oK,oK⟩⟩ ?_
          refine Ev.ret ?_
          refine ⟨⟨oK,oK⟩,(?_ : ((xs.getD 0 0 / 2 ^ (nums.getD 0 0).toNat) % 2 ^ (nums.getD 1 0).toNat) = (applyV op ws xs nums)∧(0 : Int) = (applyE op ws xs nums)∧True),.inr ⟨oK,oK,oK⟩⟩
          subst hop
          exact ⟨(ap_yes hx.1 hx.2 h hin).1.symm,(ap_yes hx.1 hx.2 h hin).2.symm,oK⟩
        · skip
          have hA : arityF op = 1 := by rw [hop]; decide
          rw [hA] at hl0
          refine Ev.reg [] [0,1,6,7,8,64] (st' := ⟨(yu9 op ws xs nums),(yu0 xs nums op ws)⟩)
            (p := True∧True) (by kernel_rfl)
            ⟨oK,oK⟩ ?_
          refine Ev.block ?_
          refine Ev.seq ?_
          refine Ev.reg [(0,.val (dB false))] [0,1,6,7,8,64,65] (st' := ⟨(yu7 op ws xs nums),(yu0 xs nums op ws)⟩)
            (p := (True∧(op == 1) = false)∧True∧True) (by kernel_rfl)
            ⟨⟨oK,(by rw [hop]; rfl)⟩,oK,oK⟩ ?_
          refine Ev.cond false rfl (fun h => (by cases h)) (fun _ => ?_)
          refine Ev.seq ?_
          refine Ev.reg [(0,.val (dB false))] [0,1,6,7,8,64,71] (st' := ⟨(yu8 op ws xs nums),(yu0 xs nums op ws)⟩)
            (p := (True∧(op == 12) = false)∧True∧True) (by kernel_rfl)
            ⟨⟨oK,(by rw [hop]; rfl)⟩,oK,oK⟩ ?_
          refine Ev.cond false rfl (fun h => (by cases h)) (fun _ => ?_)
          refine Ev.seq ?_
          refine Ev.reg [(0,.val (dB true))] [0,1,6,7,64,87] (st' := ⟨[(0,(i6 op)),(1,(LI ws)),(6,yu4),(7,(LI xs)),(64,(i6 op)),(87,(dB true))],(yu0 xs nums op ws)⟩)
            (p := (True∧(op == 13) = true)∧True∧True) (by kernel_rfl)
            ⟨⟨oK,(by rw [hop]; rfl)⟩,oK,oK⟩ ?_
          refine Ev.cond true rfl (fun _ => ?_) (fun h => (by cases h))
          refine Ev.seq ?_
          refine Ev.reg [] [6] (st' := ⟨[(6,yu4)],[(yu15 xs nums),(.var 32 [(i6 (xs.getD 0 0)),(i6 0)]),(.var 32 (yu6 op ws nums))]⟩)
            (p := True∧(0 ≤ (0 : Int)∧0 < (xs.length : Int))∧T3 True) (by kernel_rfl)
            ⟨oK,(by first | omega | (simp; first | done | omega)),oK,oK,oK,oK⟩ ?_
          refine Ev.ret ?_
          refine ⟨⟨oK,oK⟩,(?_ : (xs.getD 0 0) = (applyV op ws xs nums)∧(0 : Int) = (applyE op ws xs nums)∧True),.inr ⟨oK,oK,oK⟩⟩
          subst hop
          exact ⟨(ap_yes hx.1 hx.2 h hin).1.symm,(ap_yes hx.1 hx.2 h hin).2.symm,oK⟩

end Go.Proofs.Ytaghhicmnalmmaa
