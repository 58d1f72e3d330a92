/-
  Package bits: small functions.
-/
import Derived.Test.YtaghhicmnalmmaaBitP
import Derived.Test.YtaghhicmnalmmaaProg
namespace Go.Proofs.Ytaghhicmnalmmaa
open Go.RowKit
set_option linter.unusedVariables false
set_option linter.unusedSimpArgs false
abbrev ya0 : D := (.fn (.func 36) [] [])

set_option maxRecDepth 100000 in
theorem fits_ok (n : Int) : CallOk Try.prog 37 [(i6 n)] [] false (dB (fitsF n)) [] := by
  refine CallOk.of_ev Try.func37 rfl rfl rfl ?_
  rintro ⟨_,W,S0,_,susp,_⟩ rfl rfl rfl
  refine Ev.seq ?_
  refine Ev.reg [] [0] (st' := ⟨[(0,(i6 n))],[]⟩)
    (p := True∧True) (by kernel_rfl)
    ⟨oK,oK⟩ ?_
  refine Ev.seq ?_
  rcases Int.lt_or_le n 1 with h | h
  · skip
    refine Ev.reg [(1,.val (dB false))] [2] (st' := ⟨[(2,(dB false))],[]⟩)
      (p := True∧(True∧(decide (n ≥ 1)) = false)∧T5 True) (by kernel_rfl)
      ⟨oK,⟨oK,(by first | (simp; done) | (simp; omega))⟩,oK,oK,oK,oK,oK,oK⟩ ?_
    refine Ev.ret ?_
    refine ⟨⟨oK,oK⟩,(?_ : false = (fitsF n)),.inr trivial⟩
    exact (fits_no.2 (by omega)).symm
  · skip
    refine Ev.reg [(1,.val (dB true))] [2] (st' := ⟨[(2,(dB (decide (n ≤ 8))))],[]⟩)
      (p := True∧(True∧(decide (n ≥ 1)) = true)∧T5 True) (by kernel_rfl)
      ⟨oK,⟨oK,(by first | (simp; done) | (simp; omega))⟩,oK,oK,oK,oK,oK,oK⟩ ?_
    refine Ev.ret ?_
    refine ⟨⟨oK,oK⟩,(?_ : (decide (n ≤ 8)) = (fitsF n)),.inr trivial⟩
    unfold fitsF; rw [decide_eq_true h]; rfl

set_option maxRecDepth 100000 in
theorem unfit_ok (n : Int) : CallOk Try.prog 36 [(i6 n)] [] false (dB (!(fitsF n))) [] := by
  refine CallOk.of_ev Try.func36 rfl rfl rfl ?_
  rintro ⟨_,W,S0,_,susp,_⟩ rfl rfl rfl
  refine Ev.seq ?_
  refine Ev.reg [] [0] (st' := ⟨[(0,(i6 n))],[]⟩)
    (p := True∧True) (by kernel_rfl)
    ⟨oK,oK⟩ ?_
  refine Ev.seq ?_
  refine Ev.reg [(1,.call none false (dB (fitsF n)))] [2] (st' := ⟨[(2,(dB (!(fitsF n))))],[]⟩)
    (p := True∧callOb Try.prog 37 [] [(i6 n)] none false (dB (fitsF n))∧T2 True) (by kernel_rfl)
    ⟨oK,(fits_ok _),oK,oK,oK⟩ ?_
  refine Ev.ret ?_
  refine ⟨⟨oK,oK⟩,(?_ : (!(fitsF n)) = (!(fitsF n))),.inr trivial⟩
  rfl

set_option maxRecDepth 100000 in
theorem mask_ok (w : Int) : CallOk Try.prog 14 [(i6 w)] [] false (i6 (maskF w)) [] := by
  refine CallOk.of_ev Try.func14 rfl rfl rfl ?_
  rintro ⟨_,W,S0,_,susp,_⟩ rfl rfl rfl
  refine Ev.seq ?_
  refine Ev.reg [] [0] (st' := ⟨[(0,(i6 w))],[]⟩)
    (p := True∧True) (by kernel_rfl)
    ⟨oK,oK⟩ ?_
  refine Ev.seq ?_
  refine Ev.seq ?_
  rcases (show w < 0 ∨ (0 ≤ w∧62 < w) ∨ (0 ≤ w∧w ≤ 62) from by omega) with h | h | h
  · skip
    refine Ev.reg [(1,.val (dB true))] [0,8] (st' := ⟨[(0,(i6 w)),(8,(dB true))],[]⟩)
      (p := True∧(True∧(decide (w < 0)) = true)∧T4 True) (by kernel_rfl)
      ⟨oK,⟨oK,(by first | (simp; done) | (simp; omega))⟩,oK,oK,oK,oK,oK⟩ ?_
    refine Ev.cond true rfl (fun _ => ?_) (fun h => (by cases h))
    refine Ev.seq ?_
    refine Ev.reg [] [2] (st' := ⟨[(2,(i6 0))],[]⟩)
      (p := True∧True) (by kernel_rfl)
      ⟨oK,oK⟩ ?_
    refine Ev.ret ?_
    refine ⟨⟨oK,oK⟩,(?_ : (0 : Int) = (maskF w)),.inr trivial⟩
    exact (if_pos (by omega)).symm
  · skip
    refine Ev.reg [(1,.val (dB false)),(4,.val (dB true))] [0,8] (st' := ⟨[(0,(i6 w)),(8,(dB true))],[]⟩)
      (p := True∧(True∧(decide (w < 0)) = false)∧T2 ((True∧(decide (w > 62)) = true)∧True∧True)) (by kernel_rfl)
      ⟨oK,⟨oK,(by first | (simp; done) | (simp; omega))⟩,oK,oK,⟨oK,(by first | (simp; done) | (simp; omega))⟩,oK,oK⟩ ?_
    refine Ev.cond true rfl (fun _ => ?_) (fun h => (by cases h))
    refine Ev.seq ?_
    refine Ev.reg [] [2] (st' := ⟨[(2,(i6 0))],[]⟩)
      (p := True∧True) (by kernel_rfl)
      ⟨oK,oK⟩ ?_
    refine Ev.ret ?_
    refine ⟨⟨oK,oK⟩,(?_ : (0 : Int) = (maskF w)),.inr trivial⟩
    exact (if_pos (by omega)).symm
  · skip
    refine Ev.reg [(1,.val (dB false)),(4,.val (dB false))] [0,8] (st' := ⟨[(0,(i6 w)),(8,(dB false))],[]⟩)
      (p := True∧(True∧(decide (w < 0)) = false)∧T2 ((True∧(decide (w > 62)) = false)∧True∧True)) (by kernel_rfl)
      ⟨oK,⟨oK,(by first | (simp; done) | (simp; omega))⟩,oK,oK,⟨oK,(by first | (simp; done) | (simp; omega))⟩,oK,oK⟩ ?_
    refine Ev.cond false rfl (fun h => (by cases h)) (fun _ => ?_)
    refine Ev.skip ?_
    refine Ev.seq ?_
    refine Ev.reg [(1,.val (i6 (2 ^ w.toNat))),(2,.val (i6 (2 ^ w.toNat - 1)))] [2] (st' := ⟨[(2,(i6 (2 ^ w.toNat - 1)))],[]⟩)
      (p := True∧(0 ≤ w∧(IntKind.wrap .i64 (1 * 2 ^ min w.toNat 64)) = (2 ^ w.toNat))∧(True∧(IntKind.wrap .i64 ((2 ^ w.toNat) - 1)) = (2 ^ w.toNat - 1))∧True∧True) (by kernel_rfl)
      ⟨oK,⟨(by omega),(shl_one h.1 h.2)⟩,⟨oK,(w64 rfl (by have := pow62 (n := w.toNat) (by omega); omega) (by have := pow62 (n := w.toNat) (by omega); omega))⟩,oK,oK⟩ ?_
    refine Ev.ret ?_
    refine ⟨⟨oK,oK⟩,(?_ : (2 ^ w.toNat - 1) = (maskF w)),.inr trivial⟩
    exact (if_neg (by omega)).symm

set_option maxRecDepth 100000 in
theorem bit_ok (b : Bool) : CallOk Try.prog 32 [(dB b)] [] false (i6 (if b = true then 1 else 0)) [] := by
  refine CallOk.of_ev Try.func32 rfl rfl rfl ?_
  rintro ⟨_,W,S0,_,susp,_⟩ rfl rfl rfl
  refine Ev.seq ?_
  refine Ev.reg [] [0] (st' := ⟨[(0,(dB b))],[]⟩)
    (p := True∧True) (by kernel_rfl)
    ⟨oK,oK⟩ ?_
  refine Ev.seq ?_
  refine Ev.seq ?_
  refine Ev.reg [] [3] (st' := ⟨[(3,(dB b))],[]⟩)
    (p := True∧True) (by kernel_rfl)
    ⟨oK,oK⟩ ?_
  refine Ev.cond _ rfl (fun hc3 => ?_) (fun hc3 => ?_)
  · try simp only [decide_eq_true_eq,decide_eq_false_iff_not,beq_iff_eq,bne_iff_ne,ne_eq,beq_eq_false_iff_ne,bne_eq_false_iff_eq,Bool.not_eq_true,Bool.not_eq_false,Bool.not_eq_true',Bool.not_eq_false',Bool.not_not,gt_iff_lt,ge_iff_le,Nat.not_lt,Int.not_lt,Int.not_le] at hc3
    refine Ev.seq ?_
    refine Ev.reg [] [2] (st' := ⟨[(2,(i6 1))],[]⟩)
      (p := True∧True) (by kernel_rfl)
      ⟨oK,oK⟩ ?_
    refine Ev.ret ?_
    refine ⟨⟨oK,oK⟩,(?_ : (1 : Int) = (if b = true then 1 else 0)),.inr trivial⟩
    exact (if_pos hc3).symm
  · try simp only [decide_eq_true_eq,decide_eq_false_iff_not,beq_iff_eq,bne_iff_ne,ne_eq,beq_eq_false_iff_ne,bne_eq_false_iff_eq,Bool.not_eq_true,Bool.not_eq_false,Bool.not_eq_true',Bool.not_eq_false',Bool.not_not,gt_iff_lt,ge_iff_le,Nat.not_lt,Int.not_lt,Int.not_le] at hc3
    refine Ev.skip ?_
    refine Ev.seq ?_
    refine Ev.reg [] [2] (st' := ⟨[(2,(i6 0))],[]⟩)
      (p := True∧True) (by kernel_rfl)
      ⟨oK,oK⟩ ?_
    refine Ev.ret ?_
    refine ⟨⟨oK,oK⟩,(?_ : (0 : Int) = (if b = true then 1 else 0)),.inr trivial⟩
    exact (if_neg (by rw [hc3]; simp)).symm

set_option maxRecDepth 100000 in
theorem index_ok (ws : List Int) (hl : ws.length ≤ 9223372036854775807) : CallOk Try.prog 62 [(LI ws),ya0] [] false (i6 (idxN 0 ws)) [] := by
  refine CallOk.of_ev Try.func62 rfl rfl rfl ?_
  rintro ⟨_,W,S0,_,susp,_⟩ rfl rfl rfl
  refine Ev.seq ?_
  refine Ev.reg [] [0,1] (st' := ⟨[(0,(LI ws)),(1,ya0)],[]⟩)
    (p := True∧True) (by kernel_rfl)
    ⟨oK,oK⟩ ?_
  refine Ev.seq ?_
  refine Ev.seq ?_
  refine Ev.reg [] [0,1,7,8] (st' := ⟨[(0,(LI ws)),(1,ya0),(7,(i6 ((ws.length : Nat) : Int))),(8,(i6 0))],[]⟩)
    (p := T3 True) (by kernel_rfl)
    ⟨oK,oK,oK,oK⟩ ?_
  refine Ev.block ?_
  refine Ev.loop [0,1,7,8] 0 (fun (k : Nat) => ⟨[(0,(LI ws)),(1,ya0),(7,(i6 ((ws.length : Nat) : Int))),(8,(i6 ((k : Nat) : Int)))],[]⟩) (fun (k : Nat) => k ≤ ws.length∧idxN k (ws.drop k) = idxN 0 ws) (fun (k : Nat) => ws.length - k) 0 (by kernel_rfl) (⟨by omega,by rw [List.drop_zero]⟩) ?_
  rintro k hinv
  have hinv : k ≤ ws.length∧idxN k (ws.drop k) = idxN 0 ws := hinv
  obtain ⟨hk,hx⟩ := hinv
  refine Ev.seq ?_
  refine Ev.reg [] [0,1,7,8,9] (st' := ⟨[(0,(LI ws)),(1,ya0),(7,(i6 ((ws.length : Nat) : Int))),(8,(i6 ((k : Nat) : Int))),(9,(dB (decide (((k : Nat) : Int) < ((ws.length : Nat) : Int)))))],[]⟩)
    (p := True∧True) (by kernel_rfl)
    ⟨oK,oK⟩ ?_
  refine Ev.seq ?_
  refine Ev.cond _ rfl (fun hc9 => ?_) (fun hc9 => ?_)
  · try simp only [decide_eq_true_eq,decide_eq_false_iff_not,beq_iff_eq,bne_iff_ne,ne_eq,beq_eq_false_iff_ne,bne_eq_false_iff_eq,Bool.not_eq_true,Bool.not_eq_false,Bool.not_eq_true',Bool.not_eq_false',Bool.not_not,gt_iff_lt,ge_iff_le,Nat.not_lt,Int.not_lt,Int.not_le] at hc9
    refine Ev.skip ?_
    refine Ev.seq ?_
    refine Ev.block ?_
    refine Ev.seq ?_
    refine Ev.reg [] [0,1,5,7,8] (st' := ⟨[(0,(LI ws)),(1,ya0),(5,(i6 ((k : Nat) : Int))),(7,(i6 ((ws.length : Nat) : Int))),(8,(i6 ((k : Nat) : Int)))],[]⟩)
      (p := T2 True) (by kernel_rfl)
      ⟨oK,oK,oK⟩ ?_
    refine Ev.seq ?_
    refine Ev.reg [(5,.call none false (dB (!(fitsF (ws.getD k 0)))))] [0,1,5,7,8,16] (st' := ⟨[(0,(LI ws)),(1,ya0),(5,(i6 ((k : Nat) : Int))),(7,(i6 ((ws.length : Nat) : Int))),(8,(i6 ((k : Nat) : Int))),(16,(dB (!(fitsF (ws.getD k 0)))))],[]⟩)
      (p := T3 ((0 ≤ ((k : Nat) : Int)∧((k : Nat) : Int) < (ws.length : Int))∧True∧callOb Try.prog 36 [] [(i6 (ws.getD k 0))] none false (dB (!(fitsF (ws.getD k 0))))∧True)) (by kernel_rfl)
      ⟨oK,oK,oK,(by first | omega | (simp; first | done | omega)),oK,(unfit_ok _),oK⟩ ?_
    refine Ev.cond _ rfl (fun hc16 => ?_) (fun hc16 => ?_)
    · try simp only [decide_eq_true_eq,decide_eq_false_iff_not,beq_iff_eq,bne_iff_ne,ne_eq,beq_eq_false_iff_ne,bne_eq_false_iff_eq,Bool.not_eq_true,Bool.not_eq_false,Bool.not_eq_true',Bool.not_eq_false',Bool.not_not,gt_iff_lt,ge_iff_le,Nat.not_lt,Int.not_lt,Int.not_le] at hc16
      refine Ev.seq ?_
      refine Ev.reg [] [4] (st' := ⟨[(4,(i6 ((k : Nat) : Int)))],[]⟩)
        (p := T2 True) (by kernel_rfl)
        ⟨oK,oK,oK⟩ ?_
      refine Ev.ret ?_
      refine ⟨⟨oK,oK⟩,(?_ : ((k : Nat) : Int) = (idxN 0 ws)),.inr trivial⟩
      rw [← hx,idxN_step (show k < ws.length by omega),if_neg (by simpa using hc16)]
    · try simp only [decide_eq_true_eq,decide_eq_false_iff_not,beq_iff_eq,bne_iff_ne,ne_eq,beq_eq_false_iff_ne,bne_eq_false_iff_eq,Bool.not_eq_true,Bool.not_eq_false,Bool.not_eq_true',Bool.not_eq_false',Bool.not_not,gt_iff_lt,ge_iff_le,Nat.not_lt,Int.not_lt,Int.not_le] at hc16
      refine Ev.skip ?_
      refine Ev.reg [(0,.val (i6 ((k + 1 : Nat) : Int)))] [0,1,7,8] (st' := ⟨[(0,(LI ws)),(1,ya0),(7,(i6 ((ws.length : Nat) : Int))),(8,(i6 ((k + 1 : Nat) : Int)))],[]⟩)
        (p := (True∧(IntKind.wrap .i64 (((k : Nat) : Int) + 1)) = ((k + 1 : Nat) : Int))∧True∧True) (by kernel_rfl)
        ⟨⟨oK,(w64n (by first | rfl | simp | omega) (by first | omega | (simp; first | done | omega)))⟩,oK,oK⟩ ?_
      refine ⟨k + 1,by kernel_rfl,(?_ : (k + 1) ≤ ws.length∧idxN (k + 1) (ws.drop (k + 1)) = idxN 0 ws),(?_ : ws.length - (k + 1) < ws.length - k)⟩
      · refine ⟨by omega,?_⟩
        rw [← hx,idxN_step (show k < ws.length by omega),if_pos (by simpa using hc16)]
      · omega
  · try simp only [decide_eq_true_eq,decide_eq_false_iff_not,beq_iff_eq,bne_iff_ne,ne_eq,beq_eq_false_iff_ne,bne_eq_false_iff_eq,Bool.not_eq_true,Bool.not_eq_false,Bool.not_eq_true',Bool.not_eq_false',Bool.not_not,gt_iff_lt,ge_iff_le,Nat.not_lt,Int.not_lt,Int.not_le] at hc9
    refine Ev.exit ?_
    refine Ev.seq ?_
    refine Ev.reg [] [4] (st' := ⟨[(4,(i6 (-1)))],[]⟩)
      (p := True∧True) (by kernel_rfl)
      ⟨oK,oK⟩ ?_
    refine Ev.ret ?_
    refine ⟨⟨oK,oK⟩,(?_ : (-1) = (idxN 0 ws)),.inr trivial⟩
    rw [← hx,List.drop_of_length_le (by omega)]; rfl

set_option maxRecDepth 100000 in
theorem contains_ok (ws : List Int) (hl : ws.length ≤ 9223372036854775807) : CallOk Try.prog 35 [(LI ws),ya0] [] false (dB (!(ws.all fitsF))) [] := by
  refine CallOk.of_ev Try.func35 rfl rfl rfl ?_
  rintro ⟨_,W,S0,_,susp,_⟩ rfl rfl rfl
  refine Ev.seq ?_
  refine Ev.reg [] [0,1] (st' := ⟨[(0,(LI ws)),(1,ya0)],[]⟩)
    (p := True∧True) (by kernel_rfl)
    ⟨oK,oK⟩ ?_
  refine Ev.seq ?_
  refine Ev.reg [(2,.call none false (i6 (idxN 0 ws)))] [4] (st' := ⟨[(4,(dB (decide ((idxN 0 ws) ≥ 0))))],[]⟩)
    (p := T2 (callOb Try.prog 62 [] [(LI ws),ya0] none false (i6 (idxN 0 ws))∧T2 True)) (by kernel_rfl)
    ⟨oK,oK,(index_ok _ (by first | omega | (simp; first | done | omega))),oK,oK,oK⟩ ?_
  refine Ev.ret ?_
  refine ⟨⟨oK,oK⟩,(?_ : (decide ((idxN 0 ws) ≥ 0)) = (!(ws.all fitsF))),.inr trivial⟩
  rw [← idxN_sign ws 0]

end Go.Proofs.Ytaghhicmnalmmaa
