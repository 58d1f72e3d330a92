/-
  Package bits: the operators.
-/
import Derived.Test.YtaghhicmnalmmaaBitA
namespace Go.Proofs.Ytaghhicmnalmmaa
open Go.RowKit
set_option linter.unusedVariables false
set_option linter.unusedSimpArgs false
abbrev yb0 (ws xs : List Int) (k w : Int) : List Box := [(.var 61 [(LI ws),(LI xs),(i6 k),(i6 w)])]
abbrev yb1 : D := (.ptr 0 0 0 0)
abbrev yb2 (ws xs : List Int) (k w : Int) : List D := [(.agg [(LI ws),(LI xs),(i6 k),(i6 w)])]

set_option maxRecDepth 100000 in
theorem first_ok (ws xs : List Int) (k w : Int) (hl : ws.length = 1) (hf : ws.all fitsF = true) : CallOk Try.prog 40 (yb2 ws xs k w) [] false (i6 (ws.getD 0 0)) [] := by
  refine CallOk.of_ev Try.func40 rfl rfl rfl ?_
  rintro ⟨_,W,S0,_,susp,_⟩ rfl rfl rfl
  have f0 : 0 < ws.length → 1 ≤ ws.getD 0 0∧ws.getD 0 0 ≤ 8 := fun h => fit_get hf h
  have f1 : 1 < ws.length → 1 ≤ ws.getD 1 0∧ws.getD 1 0 ≤ 8 := fun h => fit_get hf h
  have f2 : 2 < ws.length → 1 ≤ ws.getD 2 0∧ws.getD 2 0 ≤ 8 := fun h => fit_get hf h
  refine Ev.seq ?_
  refine Ev.reg [] [1] (st' := ⟨[(1,yb1)],(yb0 ws xs k w)⟩)
    (p := T2 True) (by kernel_rfl)
    ⟨oK,oK,oK⟩ ?_
  refine Ev.seq ?_
  refine Ev.reg [] [2] (st' := ⟨[(2,(i6 (ws.getD 0 0)))],(yb0 ws xs k w)⟩)
    (p := T2 ((0 ≤ (0 : Int)∧0 < (ws.length : Int))∧T2 True)) (by kernel_rfl)
    ⟨oK,oK,(by first | omega | (simp; first | done | omega)),oK,oK,oK⟩ ?_
  refine Ev.ret ?_
  refine ⟨⟨oK,oK⟩,(?_ : (ws.getD 0 0) = (ws.getD 0 0)),.inr trivial⟩
  rfl

set_option maxRecDepth 100000 in
theorem alike_ok (ws xs : List Int) (k w : Int) (hl : ws.length = 2) (hf : ws.all fitsF = true) : CallOk Try.prog 43 (yb2 ws xs k w) [] false (i6 (alikeF ws)) [] := by
  refine CallOk.of_ev Try.func43 rfl rfl rfl ?_
  rintro ⟨_,W,S0,_,susp,_⟩ rfl rfl rfl
  have f0 : 0 < ws.length → 1 ≤ ws.getD 0 0∧ws.getD 0 0 ≤ 8 := fun h => fit_get hf h
  have f1 : 1 < ws.length → 1 ≤ ws.getD 1 0∧ws.getD 1 0 ≤ 8 := fun h => fit_get hf h
  have f2 : 2 < ws.length → 1 ≤ ws.getD 2 0∧ws.getD 2 0 ≤ 8 := fun h => fit_get hf h
  refine Ev.seq ?_
  refine Ev.reg [] [1] (st' := ⟨[(1,yb1)],(yb0 ws xs k w)⟩)
    (p := T2 True) (by kernel_rfl)
    ⟨oK,oK,oK⟩ ?_
  refine Ev.seq ?_
  refine Ev.seq ?_
  refine Ev.draw 9 [false,false,false,false,false,false,false,false,false] [] [1,11] (st' := ⟨[(1,yb1),(11,(dB ((ws.getD 0 0) != (ws.getD 1 0))))],(yb0 ws xs k w)⟩)
    (p := (T2 ((0 ≤ (0 : Int)∧0 < (ws.length : Int))∧T3 ((0 ≤ (1 : Int)∧1 < (ws.length : Int))∧T2 True)))∧True) (by kernel_rfl) (by kernel_rfl)
    ⟨⟨oK,oK,(by first | omega | (simp; first | done | omega)),oK,oK,oK,(by first | omega | (simp; first | done | omega)),oK,oK,oK⟩,oK⟩ ?_
  refine Ev.cond _ rfl (fun hc11 => ?_) (fun hc11 => ?_)
  · try simp only [decide_eq_true_eq,decide_eq_false_iff_not,beq_iff_eq,bne_iff_ne,ne_eq,beq_eq_false_iff_ne,bne_eq_false_iff_eq,Bool.not_eq_true,Bool.not_eq_false,Bool.not_eq_true',Bool.not_eq_false',Bool.not_not,gt_iff_lt,ge_iff_le,Nat.not_lt,Int.not_lt,Int.not_le] at hc11
    refine Ev.seq ?_
    refine Ev.reg [] [2] (st' := ⟨[(2,(i6 0))],(yb0 ws xs k w)⟩)
      (p := True∧True) (by kernel_rfl)
      ⟨oK,oK⟩ ?_
    refine Ev.ret ?_
    refine ⟨⟨oK,oK⟩,(?_ : (0 : Int) = (alikeF ws)),.inr trivial⟩
    exact (if_pos (by simpa using hc11)).symm
  · try simp only [decide_eq_true_eq,decide_eq_false_iff_not,beq_iff_eq,bne_iff_ne,ne_eq,beq_eq_false_iff_ne,bne_eq_false_iff_eq,Bool.not_eq_true,Bool.not_eq_false,Bool.not_eq_true',Bool.not_eq_false',Bool.not_not,gt_iff_lt,ge_iff_le,Nat.not_lt,Int.not_lt,Int.not_le] at hc11
    refine Ev.skip ?_
    refine Ev.seq ?_
    refine Ev.reg [] [2] (st' := ⟨[(2,(i6 (ws.getD 0 0)))],(yb0 ws xs k w)⟩)
      (p := T2 ((0 ≤ (0 : Int)∧0 < (ws.length : Int))∧T2 True)) (by kernel_rfl)
      ⟨oK,oK,(by first | omega | (simp; first | done | omega)),oK,oK,oK⟩ ?_
    refine Ev.ret ?_
    refine ⟨⟨oK,oK⟩,(?_ : (ws.getD 0 0) = (alikeF ws)),.inr trivial⟩
    exact (if_neg (by simpa using hc11)).symm

set_option maxRecDepth 100000 in
theorem one_ok (ws xs : List Int) (k w : Int) (hl : ws.length = 2) (hf : ws.all fitsF = true) : CallOk Try.prog 49 (yb2 ws xs k w) [] false (i6 (min (alikeF ws) 1)) [] := by
  refine CallOk.of_ev Try.func49 rfl rfl rfl ?_
  rintro ⟨_,W,S0,_,susp,_⟩ rfl rfl rfl
  have f0 : 0 < ws.length → 1 ≤ ws.getD 0 0∧ws.getD 0 0 ≤ 8 := fun h => fit_get hf h
  have f1 : 1 < ws.length → 1 ≤ ws.getD 1 0∧ws.getD 1 0 ≤ 8 := fun h => fit_get hf h
  have f2 : 2 < ws.length → 1 ≤ ws.getD 2 0∧ws.getD 2 0 ≤ 8 := fun h => fit_get hf h
  refine Ev.seq ?_
  refine Ev.reg [] [1] (st' := ⟨[(1,yb1)],(yb0 ws xs k w)⟩)
    (p := T2 True) (by kernel_rfl)
    ⟨oK,oK,oK⟩ ?_
  refine Ev.seq ?_
  refine Ev.reg [(1,.call none false (i6 (alikeF ws))),(2,.val (i6 (min (alikeF ws) 1)))] [2] (st' := ⟨[(2,(i6 (min (alikeF ws) 1)))],(yb0 ws xs k w)⟩)
    (p := True∧callOb Try.prog 43 (yb0 ws xs k w) (yb2 ws xs k w) none false (i6 (alikeF ws))∧(True∧(minI (alikeF ws) 1) = (min (alikeF ws) 1))∧True∧True) (by kernel_rfl)
    ⟨oK,(alike_ok _ _ _ _ (by omega) (by assumption)),⟨oK,(by unfold minI; split <;> omega)⟩,oK,oK⟩ ?_
  refine Ev.ret ?_
  refine ⟨⟨oK,oK⟩,(?_ : (min (alikeF ws) 1) = (min (alikeF ws) 1)),.inr trivial⟩
  rfl

set_option maxRecDepth 100000 in
theorem wconst_ok (ws xs : List Int) (k w : Int) (hl : ws.length = 0) (hf : ws.all fitsF = true) : CallOk Try.prog 52 (yb2 ws xs k w) [] false (i6 (if fitsF w = false ∨ k < 0 ∨ maskF w < k then 0 else w)) [] := by
  refine CallOk.of_ev Try.func52 rfl rfl rfl ?_
  rintro ⟨_,W,S0,_,susp,_⟩ rfl rfl rfl
  have f0 : 0 < ws.length → 1 ≤ ws.getD 0 0∧ws.getD 0 0 ≤ 8 := fun h => fit_get hf h
  have f1 : 1 < ws.length → 1 ≤ ws.getD 1 0∧ws.getD 1 0 ≤ 8 := fun h => fit_get hf h
  have f2 : 2 < ws.length → 1 ≤ ws.getD 2 0∧ws.getD 2 0 ≤ 8 := fun h => fit_get hf h
  refine Ev.seq ?_
  refine Ev.reg [] [1] (st' := ⟨[(1,yb1)],(yb0 ws xs k w)⟩)
    (p := T2 True) (by kernel_rfl)
    ⟨oK,oK,oK⟩ ?_
  refine Ev.seq ?_
  refine Ev.seq ?_
  rcases (show fitsF w = false ∨ (fitsF w = true∧k < 0) ∨ (fitsF w = true∧0 ≤ k) from by cases fitsF w <;> simp; omega) with h | h | h
  · skip
    refine Ev.draw 17 [false,false,false,false,false,true,true,true,false,false,true,true,true,true,true,true,false] [(2,.call none false (dB (fitsF w))),(3,.val (dB true))] [1,19] (st' := ⟨[(1,yb1),(19,(dB true))],(yb0 ws xs k w)⟩)
      (p := (T2 (callOb Try.prog 37 (yb0 ws xs k w) [(i6 w)] none false (dB (fitsF w))∧(True∧(!(fitsF w)) = true)∧T4 True))∧True) (by kernel_rfl) (by kernel_rfl)
      ⟨⟨oK,oK,(fits_ok _),⟨oK,(by rw [h]; rfl)⟩,oK,oK,oK,oK,oK⟩,oK⟩ ?_
    refine Ev.cond true rfl (fun _ => ?_) (fun h => (by cases h))
    refine Ev.seq ?_
    refine Ev.reg [] [2] (st' := ⟨[(2,(i6 0))],(yb0 ws xs k w)⟩)
      (p := True∧True) (by kernel_rfl)
      ⟨oK,oK⟩ ?_
    refine Ev.ret ?_
    refine ⟨⟨oK,oK⟩,(?_ : (0 : Int) = (if fitsF w = false ∨ k < 0 ∨ maskF w < k then 0 else w)),.inr trivial⟩
    exact (if_pos (.inl h)).symm
  · skip
    refine Ev.draw 17 [false,false,false,false,false,false,false,false,false,false,true,true,true,true,true,true,false] [(2,.call none false (dB (fitsF w))),(3,.val (dB false)),(7,.val (dB true))] [1,19] (st' := ⟨[(1,yb1),(19,(dB true))],(yb0 ws xs k w)⟩)
      (p := (T2 (callOb Try.prog 37 (yb0 ws xs k w) [(i6 w)] none false (dB (fitsF w))∧(True∧(!(fitsF w)) = false)∧T3 ((True∧(decide (k < 0)) = true)∧T3 True)))∧True) (by kernel_rfl) (by kernel_rfl)
      ⟨⟨oK,oK,(fits_ok _),⟨oK,(by rw [h.1]; rfl)⟩,oK,oK,oK,⟨oK,(by first | (simp; done) | (simp; omega))⟩,oK,oK,oK,oK⟩,oK⟩ ?_
    refine Ev.cond true rfl (fun _ => ?_) (fun h => (by cases h))
    refine Ev.seq ?_
    refine Ev.reg [] [2] (st' := ⟨[(2,(i6 0))],(yb0 ws xs k w)⟩)
      (p := True∧True) (by kernel_rfl)
      ⟨oK,oK⟩ ?_
    refine Ev.ret ?_
    refine ⟨⟨oK,oK⟩,(?_ : (0 : Int) = (if fitsF w = false ∨ k < 0 ∨ maskF w < k then 0 else w)),.inr trivial⟩
    exact (if_pos (.inr (.inl h.2))).symm
  · skip
    refine Ev.draw 17 [false,false,false,false,false,false,false,false,false,false,false,false,false,false,false,false,false] [(2,.call none false (dB (fitsF w))),(3,.val (dB false)),(7,.val (dB false)),(14,.call none false (i6 (maskF w)))] [1,19] (st' := ⟨[(1,yb1),(19,(dB (decide (k > (maskF w)))))],(yb0 ws xs k w)⟩)
      (p := (T2 (callOb Try.prog 37 (yb0 ws xs k w) [(i6 w)] none false (dB (fitsF w))∧(True∧(!(fitsF w)) = false)∧T3 ((True∧(decide (k < 0)) = false)∧T6 (callOb Try.prog 14 (yb0 ws xs k w) [(i6 w)] none false (i6 (maskF w))∧T2 True))))∧True) (by kernel_rfl) (by kernel_rfl)
      ⟨⟨oK,oK,(fits_ok _),⟨oK,(by rw [h.1]; rfl)⟩,oK,oK,oK,⟨oK,(by first | (simp; done) | (simp; omega))⟩,oK,oK,oK,oK,oK,oK,(mask_ok _),oK,oK,oK⟩,oK⟩ ?_
    refine Ev.cond _ rfl (fun hc19 => ?_) (fun hc19 => ?_)
    · try simp only [decide_eq_true_eq,decide_eq_false_iff_not,beq_iff_eq,bne_iff_ne,ne_eq,beq_eq_false_iff_ne,bne_eq_false_iff_eq,Bool.not_eq_true,Bool.not_eq_false,Bool.not_eq_true',Bool.not_eq_false',Bool.not_not,gt_iff_lt,ge_iff_le,Nat.not_lt,Int.not_lt,Int.not_le] at hc19
      refine Ev.seq ?_
      refine Ev.reg [] [2] (st' := ⟨[(2,(i6 0))],(yb0 ws xs k w)⟩)
        (p := True∧True) (by kernel_rfl)
        ⟨oK,oK⟩ ?_
      refine Ev.ret ?_
      refine ⟨⟨oK,oK⟩,(?_ : (0 : Int) = (if fitsF w = false ∨ k < 0 ∨ maskF w < k then 0 else w)),.inr trivial⟩
      exact (if_pos (.inr (.inr hc19))).symm
    · try simp only [decide_eq_true_eq,decide_eq_false_iff_not,beq_iff_eq,bne_iff_ne,ne_eq,beq_eq_false_iff_ne,bne_eq_false_iff_eq,Bool.not_eq_true,Bool.not_eq_false,Bool.not_eq_true',Bool.not_eq_false',Bool.not_not,gt_iff_lt,ge_iff_le,Nat.not_lt,Int.not_lt,Int.not_le] at hc19
      refine Ev.skip ?_
      refine Ev.seq ?_
      refine Ev.reg [] [2] (st' := ⟨[(2,(i6 w))],(yb0 ws xs k w)⟩)
        (p := T3 True) (by kernel_rfl)
        ⟨oK,oK,oK,oK⟩ ?_
      refine Ev.ret ?_
      refine ⟨⟨oK,oK⟩,(?_ : w = (if fitsF w = false ∨ k < 0 ∨ maskF w < k then 0 else w)),.inr trivial⟩
      exact (if_neg (fun hh => by rcases hh with hh | hh | hh <;> first | omega | (rw [h.1] at hh; cases hh))).symm

set_option maxRecDepth 100000 in
theorem wmux_ok (ws xs : List Int) (k w : Int) (hl : ws.length = 3) (hf : ws.all fitsF = true) : CallOk Try.prog 54 (yb2 ws xs k w) [] false (i6 (if ws.getD 0 0 ≠ 1 ∨ ws.getD 1 0 ≠ ws.getD 2 0 then 0 else ws.getD 1 0)) [] := by
  refine CallOk.of_ev Try.func54 rfl rfl rfl ?_
  rintro ⟨_,W,S0,_,susp,_⟩ rfl rfl rfl
  have f0 : 0 < ws.length → 1 ≤ ws.getD 0 0∧ws.getD 0 0 ≤ 8 := fun h => fit_get hf h
  have f1 : 1 < ws.length → 1 ≤ ws.getD 1 0∧ws.getD 1 0 ≤ 8 := fun h => fit_get hf h
  have f2 : 2 < ws.length → 1 ≤ ws.getD 2 0∧ws.getD 2 0 ≤ 8 := fun h => fit_get hf h
  refine Ev.seq ?_
  refine Ev.reg [] [1] (st' := ⟨[(1,yb1)],(yb0 ws xs k w)⟩)
    (p := T2 True) (by kernel_rfl)
    ⟨oK,oK,oK⟩ ?_
  refine Ev.seq ?_
  refine Ev.seq ?_
  rcases Decidable.em (ws.getD 0 0 = 1) with h | h
  · skip
    refine Ev.draw 16 [false,false,false,false,false,false,false,false,false,false,false,false,false,false,false,false] [(4,.val (dB false))] [1,18] (st' := ⟨[(1,yb1),(18,(dB ((ws.getD 1 0) != (ws.getD 2 0))))],(yb0 ws xs k w)⟩)
      (p := (T2 ((0 ≤ (0 : Int)∧0 < (ws.length : Int))∧True∧(True∧((ws.getD 0 0) != 1) = false)∧T3 ((0 ≤ (1 : Int)∧1 < (ws.length : Int))∧T3 ((0 ≤ (2 : Int)∧2 < (ws.length : Int))∧T3 True))))∧True) (by kernel_rfl) (by kernel_rfl)
      ⟨⟨oK,oK,(by first | omega | (simp; first | done | omega)),oK,⟨oK,(by rw [h]; rfl)⟩,oK,oK,oK,(by first | omega | (simp; first | done | omega)),oK,oK,oK,(by first | omega | (simp; first | done | omega)),oK,oK,oK,oK⟩,oK⟩ ?_
    refine Ev.cond _ rfl (fun hc18 => ?_) (fun hc18 => ?_)
    · try simp only [decide_eq_true_eq,decide_eq_false_iff_not,beq_iff_eq,bne_iff_ne,ne_eq,beq_eq_false_iff_ne,bne_eq_false_iff_eq,Bool.not_eq_true,Bool.not_eq_false,Bool.not_eq_true',Bool.not_eq_false',Bool.not_not,gt_iff_lt,ge_iff_le,Nat.not_lt,Int.not_lt,Int.not_le] at hc18
      refine Ev.seq ?_
      refine Ev.reg [] [2] (st' := ⟨[(2,(i6 0))],(yb0 ws xs k w)⟩)
        (p := True∧True) (by kernel_rfl)
        ⟨oK,oK⟩ ?_
      refine Ev.ret ?_
      refine ⟨⟨oK,oK⟩,(?_ : (0 : Int) = (if ws.getD 0 0 ≠ 1 ∨ ws.getD 1 0 ≠ ws.getD 2 0 then 0 else ws.getD 1 0)),.inr trivial⟩
      exact (if_pos (.inr (by simpa using hc18))).symm
    · try simp only [decide_eq_true_eq,decide_eq_false_iff_not,beq_iff_eq,bne_iff_ne,ne_eq,beq_eq_false_iff_ne,bne_eq_false_iff_eq,Bool.not_eq_true,Bool.not_eq_false,Bool.not_eq_true',Bool.not_eq_false',Bool.not_not,gt_iff_lt,ge_iff_le,Nat.not_lt,Int.not_lt,Int.not_le] at hc18
      refine Ev.skip ?_
      refine Ev.seq ?_
      refine Ev.reg [] [2] (st' := ⟨[(2,(i6 (ws.getD 1 0)))],(yb0 ws xs k w)⟩)
        (p := T2 ((0 ≤ (1 : Int)∧1 < (ws.length : Int))∧T2 True)) (by kernel_rfl)
        ⟨oK,oK,(by first | omega | (simp; first | done | omega)),oK,oK,oK⟩ ?_
      refine Ev.ret ?_
      refine ⟨⟨oK,oK⟩,(?_ : (ws.getD 1 0) = (if ws.getD 0 0 ≠ 1 ∨ ws.getD 1 0 ≠ ws.getD 2 0 then 0 else ws.getD 1 0)),.inr trivial⟩
      exact (if_neg (by simp only [h]; simpa using hc18)).symm
  · skip
    refine Ev.draw 16 [false,false,false,false,false,false,true,true,true,true,true,true,true,true,true,false] [(4,.val (dB true))] [1,18] (st' := ⟨[(1,yb1),(18,(dB true))],(yb0 ws xs k w)⟩)
      (p := (T2 ((0 ≤ (0 : Int)∧0 < (ws.length : Int))∧True∧(True∧((ws.getD 0 0) != 1) = true)∧T2 True))∧True) (by kernel_rfl) (by kernel_rfl)
      ⟨⟨oK,oK,(by first | omega | (simp; first | done | omega)),oK,⟨oK,(by simpa using h)⟩,oK,oK,oK⟩,oK⟩ ?_
    refine Ev.cond true rfl (fun _ => ?_) (fun h => (by cases h))
    refine Ev.seq ?_
    refine Ev.reg [] [2] (st' := ⟨[(2,(i6 0))],(yb0 ws xs k w)⟩)
      (p := True∧True) (by kernel_rfl)
      ⟨oK,oK⟩ ?_
    refine Ev.ret ?_
    refine ⟨⟨oK,oK⟩,(?_ : (0 : Int) = (if ws.getD 0 0 ≠ 1 ∨ ws.getD 1 0 ≠ ws.getD 2 0 then 0 else ws.getD 1 0)),.inr trivial⟩
    exact (if_pos (.inl h)).symm

set_option maxRecDepth 100000 in
theorem wcat_ok (ws xs : List Int) (k w : Int) (hl : ws.length = 2) (hf : ws.all fitsF = true) : CallOk Try.prog 56 (yb2 ws xs k w) [] false (i6 (ws.getD 0 0 + ws.getD 1 0)) [] := by
  refine CallOk.of_ev Try.func56 rfl rfl rfl ?_
  rintro ⟨_,W,S0,_,susp,_⟩ rfl rfl rfl
  have f0 : 0 < ws.length → 1 ≤ ws.getD 0 0∧ws.getD 0 0 ≤ 8 := fun h => fit_get hf h
  have f1 : 1 < ws.length → 1 ≤ ws.getD 1 0∧ws.getD 1 0 ≤ 8 := fun h => fit_get hf h
  have f2 : 2 < ws.length → 1 ≤ ws.getD 2 0∧ws.getD 2 0 ≤ 8 := fun h => fit_get hf h
  refine Ev.seq ?_
  refine Ev.reg [] [1] (st' := ⟨[(1,yb1)],(yb0 ws xs k w)⟩)
    (p := T2 True) (by kernel_rfl)
    ⟨oK,oK,oK⟩ ?_
  refine Ev.seq ?_
  refine Ev.draw 10 [false,false,false,false,false,false,false,false,false,false] [(8,.val (i6 ((ws.getD 0 0) + (ws.getD 1 0))))] [2] (st' := ⟨[(2,(i6 ((ws.getD 0 0) + (ws.getD 1 0))))],(yb0 ws xs k w)⟩)
    (p := (T2 ((0 ≤ (0 : Int)∧0 < (ws.length : Int))∧T3 ((0 ≤ (1 : Int)∧1 < (ws.length : Int))∧True∧(True∧(IntKind.wrap .i64 ((ws.getD 0 0) + (ws.getD 1 0))) = ((ws.getD 0 0) + (ws.getD 1 0)))∧True∧True)))∧True) (by kernel_rfl) (by kernel_rfl)
    ⟨⟨oK,oK,(by first | omega | (simp; first | done | omega)),oK,oK,oK,(by first | omega | (simp; first | done | omega)),oK,⟨oK,(w64 rfl (by first | omega | (simp; first | done | omega)) (by first | omega | (simp; first | done | omega)))⟩,oK,oK⟩,oK⟩ ?_
  refine Ev.ret ?_
  refine ⟨⟨oK,oK⟩,(?_ : ((ws.getD 0 0) + (ws.getD 1 0)) = (ws.getD 0 0 + ws.getD 1 0)),.inr trivial⟩
  rfl

set_option maxRecDepth 100000 in
theorem wslice_ok (ws xs : List Int) (k w : Int) (hl : ws.length = 1) (hf : ws.all fitsF = true) : CallOk Try.prog 58 (yb2 ws xs k w) [] false (i6 (if fitsF w = false ∨ k < 0 ∨ ws.getD 0 0 - w < k then 0 else w)) [] := by
  refine CallOk.of_ev Try.func58 rfl rfl rfl ?_
  rintro ⟨_,W,S0,_,susp,_⟩ rfl rfl rfl
  have f0 : 0 < ws.length → 1 ≤ ws.getD 0 0∧ws.getD 0 0 ≤ 8 := fun h => fit_get hf h
  have f1 : 1 < ws.length → 1 ≤ ws.getD 1 0∧ws.getD 1 0 ≤ 8 := fun h => fit_get hf h
  have f2 : 2 < ws.length → 1 ≤ ws.getD 2 0∧ws.getD 2 0 ≤ 8 := fun h => fit_get hf h
  refine Ev.seq ?_
  refine Ev.reg [] [1] (st' := ⟨[(1,yb1)],(yb0 ws xs k w)⟩)
    (p := T2 True) (by kernel_rfl)
    ⟨oK,oK,oK⟩ ?_
  refine Ev.seq ?_
  refine Ev.seq ?_
  rcases (show fitsF w = false ∨ (fitsF w = true∧k < 0) ∨ (fitsF w = true∧0 ≤ k) from by cases fitsF w <;> simp; omega) with h | h | h
  · skip
    refine Ev.draw 21 [false,false,false,false,false,true,true,true,false,false,true,true,true,true,true,true,true,true,true,true,false] [(2,.call none false (dB (fitsF w))),(3,.val (dB true))] [1,23] (st' := ⟨[(1,yb1),(23,(dB true))],(yb0 ws xs k w)⟩)
      (p := (T2 (callOb Try.prog 37 (yb0 ws xs k w) [(i6 w)] none false (dB (fitsF w))∧(True∧(!(fitsF w)) = true)∧T4 True))∧True) (by kernel_rfl) (by kernel_rfl)
      ⟨⟨oK,oK,(fits_ok _),⟨oK,(by rw [h]; rfl)⟩,oK,oK,oK,oK,oK⟩,oK⟩ ?_
    refine Ev.cond true rfl (fun _ => ?_) (fun h => (by cases h))
    refine Ev.seq ?_
    refine Ev.reg [] [2] (st' := ⟨[(2,(i6 0))],(yb0 ws xs k w)⟩)
      (p := True∧True) (by kernel_rfl)
      ⟨oK,oK⟩ ?_
    refine Ev.ret ?_
    refine ⟨⟨oK,oK⟩,(?_ : (0 : Int) = (if fitsF w = false ∨ k < 0 ∨ ws.getD 0 0 - w < k then 0 else w)),.inr trivial⟩
    exact (if_pos (.inl h)).symm
  · skip
    refine Ev.draw 21 [false,false,false,false,false,false,false,false,false,false,true,true,true,true,true,true,true,true,true,true,false] [(2,.call none false (dB (fitsF w))),(3,.val (dB false)),(7,.val (dB true))] [1,23] (st' := ⟨[(1,yb1),(23,(dB true))],(yb0 ws xs k w)⟩)
      (p := (T2 (callOb Try.prog 37 (yb0 ws xs k w) [(i6 w)] none false (dB (fitsF w))∧(True∧(!(fitsF w)) = false)∧T3 ((True∧(decide (k < 0)) = true)∧T3 True)))∧True) (by kernel_rfl) (by kernel_rfl)
      ⟨⟨oK,oK,(fits_ok _),⟨oK,(by rw [h.1]; rfl)⟩,oK,oK,oK,⟨oK,(by first | (simp; done) | (simp; omega))⟩,oK,oK,oK,oK⟩,oK⟩ ?_
    refine Ev.cond true rfl (fun _ => ?_) (fun h => (by cases h))
    refine Ev.seq ?_
    refine Ev.reg [] [2] (st' := ⟨[(2,(i6 0))],(yb0 ws xs k w)⟩)
      (p := True∧True) (by kernel_rfl)
      ⟨oK,oK⟩ ?_
    refine Ev.ret ?_
    refine ⟨⟨oK,oK⟩,(?_ : (0 : Int) = (if fitsF w = false ∨ k < 0 ∨ ws.getD 0 0 - w < k then 0 else w)),.inr trivial⟩
    exact (if_pos (.inr (.inl h.2))).symm
  · skip
    have hfw := fits_iff.1 h.1
    refine Ev.draw 21 [false,false,false,false,false,false,false,false,false,false,false,false,false,false,false,false,false,false,false,false,false] [(2,.call none false (dB (fitsF w))),(3,.val (dB false)),(7,.val (dB false)),(18,.val (i6 ((ws.getD 0 0) - w)))] [1,23] (st' := ⟨[(1,yb1),(23,(dB (decide (k > ((ws.getD 0 0) - w)))))],(yb0 ws xs k w)⟩)
      (p := (T2 (callOb Try.prog 37 (yb0 ws xs k w) [(i6 w)] none false (dB (fitsF w))∧(True∧(!(fitsF w)) = false)∧T3 ((True∧(decide (k < 0)) = false)∧T6 ((0 ≤ (0 : Int)∧0 < (ws.length : Int))∧T3 ((True∧(IntKind.wrap .i64 ((ws.getD 0 0) - w)) = ((ws.getD 0 0) - w))∧T2 True)))))∧True) (by kernel_rfl) (by kernel_rfl)
      ⟨⟨oK,oK,(fits_ok _),⟨oK,(by rw [h.1]; rfl)⟩,oK,oK,oK,⟨oK,(by first | (simp; done) | (simp; omega))⟩,oK,oK,oK,oK,oK,oK,(by first | omega | (simp; first | done | omega)),oK,oK,oK,⟨oK,(w64 rfl (by first | omega | (simp; first | done | omega)) (by first | omega | (simp; first | done | omega)))⟩,oK,oK,oK⟩,oK⟩ ?_
    refine Ev.cond _ rfl (fun hc23 => ?_) (fun hc23 => ?_)
    · try simp only [decide_eq_true_eq,decide_eq_false_iff_not,beq_iff_eq,bne_iff_ne,ne_eq,beq_eq_false_iff_ne,bne_eq_false_iff_eq,Bool.not_eq_true,Bool.not_eq_false,Bool.not_eq_true',Bool.not_eq_false',Bool.not_not,gt_iff_lt,ge_iff_le,Nat.not_lt,Int.not_lt,Int.not_le] at hc23
      refine Ev.seq ?_
      refine Ev.reg [] [2] (st' := ⟨[(2,(i6 0))],(yb0 ws xs k w)⟩)
        (p := True∧True) (by kernel_rfl)
        ⟨oK,oK⟩ ?_
      refine Ev.ret ?_
      refine ⟨⟨oK,oK⟩,(?_ : (0 : Int) = (if fitsF w = false ∨ k < 0 ∨ ws.getD 0 0 - w < k then 0 else w)),.inr trivial⟩
      exact (if_pos (.inr (.inr hc23))).symm
    · try simp only [decide_eq_true_eq,decide_eq_false_iff_not,beq_iff_eq,bne_iff_ne,ne_eq,beq_eq_false_iff_ne,bne_eq_false_iff_eq,Bool.not_eq_true,Bool.not_eq_false,Bool.not_eq_true',Bool.not_eq_false',Bool.not_not,gt_iff_lt,ge_iff_le,Nat.not_lt,Int.not_lt,Int.not_le] at hc23
      refine Ev.skip ?_
      refine Ev.seq ?_
      refine Ev.reg [] [2] (st' := ⟨[(2,(i6 w))],(yb0 ws xs k w)⟩)
        (p := T3 True) (by kernel_rfl)
        ⟨oK,oK,oK,oK⟩ ?_
      refine Ev.ret ?_
      refine ⟨⟨oK,oK⟩,(?_ : w = (if fitsF w = false ∨ k < 0 ∨ ws.getD 0 0 - w < k then 0 else w)),.inr trivial⟩
      exact (if_neg (fun hh => by rcases hh with hh | hh | hh <;> first | omega | (rw [h.1] at hh; cases hh))).symm

set_option maxRecDepth 100000 in
theorem wext_ok (ws xs : List Int) (k w : Int) (hl : ws.length = 1) (hf : ws.all fitsF = true) : CallOk Try.prog 60 (yb2 ws xs k w) [] false (i6 (if w < ws.getD 0 0 then 0 else w)) [] := by
  refine CallOk.of_ev Try.func60 rfl rfl rfl ?_
  rintro ⟨_,W,S0,_,susp,_⟩ rfl rfl rfl
  have f0 : 0 < ws.length → 1 ≤ ws.getD 0 0∧ws.getD 0 0 ≤ 8 := fun h => fit_get hf h
  have f1 : 1 < ws.length → 1 ≤ ws.getD 1 0∧ws.getD 1 0 ≤ 8 := fun h => fit_get hf h
  have f2 : 2 < ws.length → 1 ≤ ws.getD 2 0∧ws.getD 2 0 ≤ 8 := fun h => fit_get hf h
  refine Ev.seq ?_
  refine Ev.reg [] [1] (st' := ⟨[(1,yb1)],(yb0 ws xs k w)⟩)
    (p := T2 True) (by kernel_rfl)
    ⟨oK,oK,oK⟩ ?_
  refine Ev.seq ?_
  refine Ev.seq ?_
  refine Ev.draw 7 [false,false,false,false,false,false,false] [] [1,9] (st' := ⟨[(1,yb1),(9,(dB (decide (w < (ws.getD 0 0)))))],(yb0 ws xs k w)⟩)
    (p := (T4 ((0 ≤ (0 : Int)∧0 < (ws.length : Int))∧T2 True))∧True) (by kernel_rfl) (by kernel_rfl)
    ⟨⟨oK,oK,oK,oK,(by first | omega | (simp; first | done | omega)),oK,oK,oK⟩,oK⟩ ?_
  refine Ev.cond _ rfl (fun hc9 => ?_) (fun hc9 => ?_)
  · try simp only [decide_eq_true_eq,decide_eq_false_iff_not,beq_iff_eq,bne_iff_ne,ne_eq,beq_eq_false_iff_ne,bne_eq_false_iff_eq,Bool.not_eq_true,Bool.not_eq_false,Bool.not_eq_true',Bool.not_eq_false',Bool.not_not,gt_iff_lt,ge_iff_le,Nat.not_lt,Int.not_lt,Int.not_le] at hc9
    refine Ev.seq ?_
    refine Ev.reg [] [2] (st' := ⟨[(2,(i6 0))],(yb0 ws xs k w)⟩)
      (p := True∧True) (by kernel_rfl)
      ⟨oK,oK⟩ ?_
    refine Ev.ret ?_
    refine ⟨⟨oK,oK⟩,(?_ : (0 : Int) = (if w < ws.getD 0 0 then 0 else w)),.inr trivial⟩
    exact (if_pos (by assumption)).symm
  · try simp only [decide_eq_true_eq,decide_eq_false_iff_not,beq_iff_eq,bne_iff_ne,ne_eq,beq_eq_false_iff_ne,bne_eq_false_iff_eq,Bool.not_eq_true,Bool.not_eq_false,Bool.not_eq_true',Bool.not_eq_false',Bool.not_not,gt_iff_lt,ge_iff_le,Nat.not_lt,Int.not_lt,Int.not_le] at hc9
    refine Ev.skip ?_
    refine Ev.seq ?_
    refine Ev.reg [] [2] (st' := ⟨[(2,(i6 w))],(yb0 ws xs k w)⟩)
      (p := T3 True) (by kernel_rfl)
      ⟨oK,oK,oK,oK⟩ ?_
    refine Ev.ret ?_
    refine ⟨⟨oK,oK⟩,(?_ : w = (if w < ws.getD 0 0 then 0 else w)),.inr trivial⟩
    exact (if_neg (by omega)).symm

end Go.Proofs.Ytaghhicmnalmmaa
