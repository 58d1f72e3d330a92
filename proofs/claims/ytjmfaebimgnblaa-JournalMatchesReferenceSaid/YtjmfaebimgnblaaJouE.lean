/-
  The reference of journals, and helpers.
-/
import Derived.Test.YtjmfaebimgnblaaJouD
namespace Go.Proofs.Ytjmfaebimgnblaa
open Go.RowKit
set_option linter.unusedVariables false
set_option linter.unusedSimpArgs false
abbrev ye0 (at_ : Nat) : D := (i6 ((at_ : Nat) : Int))

set_option maxRecDepth 100000 in
theorem sameB_ok (a b : List Int) (ha : a.length ≤ 137438953472) (hb : b.length ≤ 137438953472) : CallOk Try.prog 31 [(LY a),(LY b)] [] false (dB (decide (a = b))) [] := by
  refine CallOk.of_ev Try.func31 rfl rfl rfl ?_
  rintro ⟨_,W,S0,_,susp,_⟩ rfl rfl rfl
  refine Ev.seq ?_
  refine Ev.reg [] [0,1] (st' := ⟨[(0,(LY a)),(1,(LY b))],[]⟩)
    (p := True∧True) (by kernel_rfl)
    ⟨oK,oK⟩ ?_
  refine Ev.seq ?_
  refine Ev.seq ?_
  refine Ev.reg [] [0,1,10] (st' := ⟨[(0,(LY a)),(1,(LY b)),(10,(dB (((a.length : Nat) : Int) != ((b.length : Nat) : Int))))],[]⟩)
    (p := T5 True) (by kernel_rfl)
    ⟨oK,oK,oK,oK,oK,oK⟩ ?_
  refine Ev.cond _ rfl (fun hc10 => ?_) (fun hc10 => ?_)
  · try simp only [decide_eq_true_eq,decide_eq_false_iff_not,beq_iff_eq,bne_iff_ne,ne_eq,beq_eq_false_iff_ne,bne_eq_false_iff_eq,Bool.not_eq_true,Bool.not_eq_false,Bool.not_eq_true',Bool.not_eq_false',Bool.not_not,gt_iff_lt,ge_iff_le,Nat.not_lt,Int.not_lt,Int.not_le] at hc10
    refine Ev.seq ?_
    refine Ev.reg [] [4] (st' := ⟨[(4,(dB false))],[]⟩)
      (p := True∧True) (by kernel_rfl)
      ⟨oK,oK⟩ ?_
    refine Ev.ret ?_
    refine ⟨⟨oK,oK⟩,(?_ : false = (decide (a = b))),.inr trivial⟩
    exact (decide_eq_false (fun e => by rw [e] at hc10; omega)).symm
  · try simp only [decide_eq_true_eq,decide_eq_false_iff_not,beq_iff_eq,bne_iff_ne,ne_eq,beq_eq_false_iff_ne,bne_eq_false_iff_eq,Bool.not_eq_true,Bool.not_eq_false,Bool.not_eq_true',Bool.not_eq_false',Bool.not_not,gt_iff_lt,ge_iff_le,Nat.not_lt,Int.not_lt,Int.not_le] at hc10
    refine Ev.skip ?_
    refine Ev.seq ?_
    refine Ev.seq ?_
    refine Ev.reg [] [0,1,5] (st' := ⟨[(0,(LY a)),(1,(LY b)),(5,(i6 0))],[]⟩)
      (p := True∧True) (by kernel_rfl)
      ⟨oK,oK⟩ ?_
    refine Ev.block ?_
    refine Ev.loop [0,1,5] 0 (fun (k : Nat) => ⟨[(0,(LY a)),(1,(LY b)),(5,(i6 ((k : Nat) : Int)))],[]⟩) (fun (k : Nat) => k ≤ a.length∧a.length = b.length∧a.take k = b.take k) (fun (k : Nat) => a.length - k) 0 (by kernel_rfl) (⟨by omega,by omega,by simp⟩) ?_
    rintro k hinv
    have hinv : k ≤ a.length∧a.length = b.length∧a.take k = b.take k := hinv
    obtain ⟨h1,h2,h3⟩ := hinv
    refine Ev.seq ?_
    refine Ev.seq ?_
    refine Ev.reg [] [0,1,5,14] (st' := ⟨[(0,(LY a)),(1,(LY b)),(5,(i6 ((k : Nat) : Int))),(14,(dB (decide (((k : Nat) : Int) < ((a.length : Nat) : Int)))))],[]⟩)
      (p := T4 True) (by kernel_rfl)
      ⟨oK,oK,oK,oK,oK⟩ ?_
    refine Ev.cond _ rfl (fun hc14 => ?_) (fun hc14 => ?_)
    · try simp only [decide_eq_true_eq,decide_eq_false_iff_not,beq_iff_eq,bne_iff_ne,ne_eq,beq_eq_false_iff_ne,bne_eq_false_iff_eq,Bool.not_eq_true,Bool.not_eq_false,Bool.not_eq_true',Bool.not_eq_false',Bool.not_not,gt_iff_lt,ge_iff_le,Nat.not_lt,Int.not_lt,Int.not_le] at hc14
      refine Ev.skip ?_
      refine Ev.seq ?_
      refine Ev.block ?_
      refine Ev.seq ?_
      refine Ev.draw 9 [false,false,false,false,false,false,false,false,false] [] [0,1,5,25] (st' := ⟨[(0,(LY a)),(1,(LY b)),(5,(i6 ((k : Nat) : Int))),(25,(dB ((a.getD k 0) != (b.getD k 0))))],[]⟩)
        (p := (T2 ((0 ≤ ((k : Nat) : Int)∧((k : Nat) : Int) < (a.length : Int))∧T3 ((0 ≤ ((k : Nat) : Int)∧((k : Nat) : Int) < (b.length : Int))∧T2 True)))∧True) (by kernel_rfl) (by kernel_rfl)
        ⟨⟨oK,oK,(by first | omega | (simp; first | done | omega)),oK,oK,oK,(by first | omega | (simp; first | done | omega)),oK,oK,oK⟩,oK⟩ ?_
      refine Ev.cond _ rfl (fun hc25 => ?_) (fun hc25 => ?_)
      · try simp only [decide_eq_true_eq,decide_eq_false_iff_not,beq_iff_eq,bne_iff_ne,ne_eq,beq_eq_false_iff_ne,bne_eq_false_iff_eq,Bool.not_eq_true,Bool.not_eq_false,Bool.not_eq_true',Bool.not_eq_false',Bool.not_not,gt_iff_lt,ge_iff_le,Nat.not_lt,Int.not_lt,Int.not_le] at hc25
        refine Ev.seq ?_
        refine Ev.reg [] [4] (st' := ⟨[(4,(dB false))],[]⟩)
          (p := True∧True) (by kernel_rfl)
          ⟨oK,oK⟩ ?_
        refine Ev.ret ?_
        refine ⟨⟨oK,oK⟩,(?_ : false = (decide (a = b))),.inr trivial⟩
        exact (decide_eq_false (same_ne hc25)).symm
      · try simp only [decide_eq_true_eq,decide_eq_false_iff_not,beq_iff_eq,bne_iff_ne,ne_eq,beq_eq_false_iff_ne,bne_eq_false_iff_eq,Bool.not_eq_true,Bool.not_eq_false,Bool.not_eq_true',Bool.not_eq_false',Bool.not_not,gt_iff_lt,ge_iff_le,Nat.not_lt,Int.not_lt,Int.not_le] at hc25
        refine Ev.skip ?_
        refine Ev.reg [(1,.val (i6 ((k + 1 : Nat) : Int)))] [0,1,5] (st' := ⟨[(0,(LY a)),(1,(LY b)),(5,(i6 ((k + 1 : Nat) : Int)))],[]⟩)
          (p := True∧(True∧(IntKind.wrap .i64 (((k : Nat) : Int) + 1)) = ((k + 1 : Nat) : Int))∧True∧True) (by kernel_rfl)
          ⟨oK,⟨oK,(w64n (by first | rfl | simp | omega) (by first | omega | (simp; first | done | omega)))⟩,oK,oK⟩ ?_
        refine ⟨k + 1,by kernel_rfl,(?_ : (k + 1) ≤ a.length∧a.length = b.length∧a.take (k + 1) = b.take (k + 1)),(?_ : a.length - (k + 1) < a.length - k)⟩
        · exact ⟨by omega,h2,same_step h2 (by omega) h3 hc25⟩
        · omega
    · try simp only [decide_eq_true_eq,decide_eq_false_iff_not,beq_iff_eq,bne_iff_ne,ne_eq,beq_eq_false_iff_ne,bne_eq_false_iff_eq,Bool.not_eq_true,Bool.not_eq_false,Bool.not_eq_true',Bool.not_eq_false',Bool.not_not,gt_iff_lt,ge_iff_le,Nat.not_lt,Int.not_lt,Int.not_le] at hc14
      refine Ev.exit ?_
      refine Ev.seq ?_
      refine Ev.reg [] [4] (st' := ⟨[(4,(dB true))],[]⟩)
        (p := True∧True) (by kernel_rfl)
        ⟨oK,oK⟩ ?_
      refine Ev.ret ?_
      refine ⟨⟨oK,oK⟩,(?_ : true = (decide (a = b))),.inr trivial⟩
      exact (decide_eq_true (same_end h2 (by omega) h3)).symm

set_option maxRecDepth 100000 in
theorem sameI_ok (a b : List Int) (ha : a.length ≤ 137438953472) (hb : b.length ≤ 137438953472) : CallOk Try.prog 57 [(LI a),(LI b)] [] false (dB (decide (a = b))) [] := by
  refine CallOk.of_ev Try.func57 rfl rfl rfl ?_
  rintro ⟨_,W,S0,_,susp,_⟩ rfl rfl rfl
  refine Ev.seq ?_
  refine Ev.reg [] [0,1] (st' := ⟨[(0,(LI a)),(1,(LI b))],[]⟩)
    (p := True∧True) (by kernel_rfl)
    ⟨oK,oK⟩ ?_
  refine Ev.seq ?_
  refine Ev.seq ?_
  refine Ev.reg [] [0,1,10] (st' := ⟨[(0,(LI a)),(1,(LI b)),(10,(dB (((a.length : Nat) : Int) != ((b.length : Nat) : Int))))],[]⟩)
    (p := T5 True) (by kernel_rfl)
    ⟨oK,oK,oK,oK,oK,oK⟩ ?_
  refine Ev.cond _ rfl (fun hc10 => ?_) (fun hc10 => ?_)
  · try simp only [decide_eq_true_eq,decide_eq_false_iff_not,beq_iff_eq,bne_iff_ne,ne_eq,beq_eq_false_iff_ne,bne_eq_false_iff_eq,Bool.not_eq_true,Bool.not_eq_false,Bool.not_eq_true',Bool.not_eq_false',Bool.not_not,gt_iff_lt,ge_iff_le,Nat.not_lt,Int.not_lt,Int.not_le] at hc10
    refine Ev.seq ?_
    refine Ev.reg [] [4] (st' := ⟨[(4,(dB false))],[]⟩)
      (p := True∧True) (by kernel_rfl)
      ⟨oK,oK⟩ ?_
    refine Ev.ret ?_
    refine ⟨⟨oK,oK⟩,(?_ : false = (decide (a = b))),.inr trivial⟩
    exact (decide_eq_false (fun e => by rw [e] at hc10; omega)).symm
  · try simp only [decide_eq_true_eq,decide_eq_false_iff_not,beq_iff_eq,bne_iff_ne,ne_eq,beq_eq_false_iff_ne,bne_eq_false_iff_eq,Bool.not_eq_true,Bool.not_eq_false,Bool.not_eq_true',Bool.not_eq_false',Bool.not_not,gt_iff_lt,ge_iff_le,Nat.not_lt,Int.not_lt,Int.not_le] at hc10
    refine Ev.skip ?_
    refine Ev.seq ?_
    refine Ev.seq ?_
    refine Ev.reg [] [0,1,5] (st' := ⟨[(0,(LI a)),(1,(LI b)),(5,(i6 0))],[]⟩)
      (p := True∧True) (by kernel_rfl)
      ⟨oK,oK⟩ ?_
    refine Ev.block ?_
    refine Ev.loop [0,1,5] 0 (fun (k : Nat) => ⟨[(0,(LI a)),(1,(LI b)),(5,(i6 ((k : Nat) : Int)))],[]⟩) (fun (k : Nat) => k ≤ a.length∧a.length = b.length∧a.take k = b.take k) (fun (k : Nat) => a.length - k) 0 (by kernel_rfl) (⟨by omega,by omega,by simp⟩) ?_
    rintro k hinv
    have hinv : k ≤ a.length∧a.length = b.length∧a.take k = b.take k := hinv
    obtain ⟨h1,h2,h3⟩ := hinv
    refine Ev.seq ?_
    refine Ev.seq ?_
    refine Ev.reg [] [0,1,5,14] (st' := ⟨[(0,(LI a)),(1,(LI b)),(5,(i6 ((k : Nat) : Int))),(14,(dB (decide (((k : Nat) : Int) < ((a.length : Nat) : Int)))))],[]⟩)
      (p := T4 True) (by kernel_rfl)
      ⟨oK,oK,oK,oK,oK⟩ ?_
    refine Ev.cond _ rfl (fun hc14 => ?_) (fun hc14 => ?_)
    · try simp only [decide_eq_true_eq,decide_eq_false_iff_not,beq_iff_eq,bne_iff_ne,ne_eq,beq_eq_false_iff_ne,bne_eq_false_iff_eq,Bool.not_eq_true,Bool.not_eq_false,Bool.not_eq_true',Bool.not_eq_false',Bool.not_not,gt_iff_lt,ge_iff_le,Nat.not_lt,Int.not_lt,Int.not_le] at hc14
      refine Ev.skip ?_
      refine Ev.seq ?_
      refine Ev.block ?_
      refine Ev.seq ?_
      refine Ev.draw 9 [false,false,false,false,false,false,false,false,false] [] [0,1,5,25] (st' := ⟨[(0,(LI a)),(1,(LI b)),(5,(i6 ((k : Nat) : Int))),(25,(dB ((a.getD k 0) != (b.getD k 0))))],[]⟩)
        (p := (T2 ((0 ≤ ((k : Nat) : Int)∧((k : Nat) : Int) < (a.length : Int))∧T3 ((0 ≤ ((k : Nat) : Int)∧((k : Nat) : Int) < (b.length : Int))∧T2 True)))∧True) (by kernel_rfl) (by kernel_rfl)
        ⟨⟨oK,oK,(by first | omega | (simp; first | done | omega)),oK,oK,oK,(by first | omega | (simp; first | done | omega)),oK,oK,oK⟩,oK⟩ ?_
      refine Ev.cond _ rfl (fun hc25 => ?_) (fun hc25 => ?_)
      · try simp only [decide_eq_true_eq,decide_eq_false_iff_not,beq_iff_eq,bne_iff_ne,ne_eq,beq_eq_false_iff_ne,bne_eq_false_iff_eq,Bool.not_eq_true,Bool.not_eq_false,Bool.not_eq_true',Bool.not_eq_false',Bool.not_not,gt_iff_lt,ge_iff_le,Nat.not_lt,Int.not_lt,Int.not_le] at hc25
        refine Ev.seq ?_
        refine Ev.reg [] [4] (st' := ⟨[(4,(dB false))],[]⟩)
          (p := True∧True) (by kernel_rfl)
          ⟨oK,oK⟩ ?_
        refine Ev.ret ?_
        refine ⟨⟨oK,oK⟩,(?_ : false = (decide (a = b))),.inr trivial⟩
        exact (decide_eq_false (same_ne hc25)).symm
      · try simp only [decide_eq_true_eq,decide_eq_false_iff_not,beq_iff_eq,bne_iff_ne,ne_eq,beq_eq_false_iff_ne,bne_eq_false_iff_eq,Bool.not_eq_true,Bool.not_eq_false,Bool.not_eq_true',Bool.not_eq_false',Bool.not_not,gt_iff_lt,ge_iff_le,Nat.not_lt,Int.not_lt,Int.not_le] at hc25
        refine Ev.skip ?_
        refine Ev.reg [(1,.val (i6 ((k + 1 : Nat) : Int)))] [0,1,5] (st' := ⟨[(0,(LI a)),(1,(LI b)),(5,(i6 ((k + 1 : Nat) : Int)))],[]⟩)
          (p := True∧(True∧(IntKind.wrap .i64 (((k : Nat) : Int) + 1)) = ((k + 1 : Nat) : Int))∧True∧True) (by kernel_rfl)
          ⟨oK,⟨oK,(w64n (by first | rfl | simp | omega) (by first | omega | (simp; first | done | omega)))⟩,oK,oK⟩ ?_
        refine ⟨k + 1,by kernel_rfl,(?_ : (k + 1) ≤ a.length∧a.length = b.length∧a.take (k + 1) = b.take (k + 1)),(?_ : a.length - (k + 1) < a.length - k)⟩
        · exact ⟨by omega,h2,same_step h2 (by omega) h3 hc25⟩
        · omega
    · try simp only [decide_eq_true_eq,decide_eq_false_iff_not,beq_iff_eq,bne_iff_ne,ne_eq,beq_eq_false_iff_ne,bne_eq_false_iff_eq,Bool.not_eq_true,Bool.not_eq_false,Bool.not_eq_true',Bool.not_eq_false',Bool.not_not,gt_iff_lt,ge_iff_le,Nat.not_lt,Int.not_lt,Int.not_le] at hc14
      refine Ev.exit ?_
      refine Ev.seq ?_
      refine Ev.reg [] [4] (st' := ⟨[(4,(dB true))],[]⟩)
        (p := True∧True) (by kernel_rfl)
        ⟨oK,oK⟩ ?_
      refine Ev.ret ?_
      refine ⟨⟨oK,oK⟩,(?_ : true = (decide (a = b))),.inr trivial⟩
      exact (decide_eq_true (same_end h2 (by omega) h3)).symm

set_option maxRecDepth 100000 in
theorem wordR_ok (b : List Int) (at_ : Nat) (hb : Bytes8 b) (hr : at_ + 8 ≤ b.length) (hbig : b.length ≤ 137438953472) : CallOk Try.prog 64 [(LY b),(ye0 at_)] [] false (dI .u64 ((wordN b at_ : Nat) : Int)) [] := by
  refine CallOk.of_ev Try.func64 rfl rfl rfl ?_
  rintro ⟨_,W,S0,_,susp,_⟩ rfl rfl rfl
  refine Ev.seq ?_
  refine Ev.reg [] [0,1] (st' := ⟨[(0,(LY b)),(1,(ye0 at_))],[]⟩)
    (p := True∧True) (by kernel_rfl)
    ⟨oK,oK⟩ ?_
  refine Ev.seq ?_
  refine Ev.reg [] [0,1,5] (st' := ⟨[(0,(LY b)),(1,(ye0 at_)),(5,(dI .u64 0))],[]⟩)
    (p := True∧True) (by kernel_rfl)
    ⟨oK,oK⟩ ?_
  refine Ev.seq ?_
  refine Ev.seq ?_
  refine Ev.reg [] [0,1,5,6] (st' := ⟨[(0,(LY b)),(1,(ye0 at_)),(5,(dI .u64 0)),(6,(i6 7))],[]⟩)
    (p := True∧True) (by kernel_rfl)
    ⟨oK,oK⟩ ?_
  refine Ev.block ?_
  refine Ev.loop [0,1,5,6] 0 (fun (k : Nat) => ⟨[(0,(LY b)),(1,(ye0 at_)),(5,(dI .u64 ((topN b at_ k : Nat) : Int))),(6,(i6 (7 - ((k : Nat) : Int))))],[]⟩) (fun (k : Nat) => k ≤ 8) (fun (k : Nat) => 8 - k) 0 (by kernel_rfl) (by omega) ?_
  rintro k hinv
  have hinv : k ≤ 8 := hinv
  have hk := hinv
  refine Ev.seq ?_
  refine Ev.seq ?_
  refine Ev.reg [] [0,1,5,6,8] (st' := ⟨[(0,(LY b)),(1,(ye0 at_)),(5,(dI .u64 ((topN b at_ k : Nat) : Int))),(6,(i6 (7 - ((k : Nat) : Int)))),(8,(dB (decide ((7 - ((k : Nat) : Int)) ≥ 0))))],[]⟩)
    (p := T2 True) (by kernel_rfl)
    ⟨oK,oK,oK⟩ ?_
  refine Ev.cond _ rfl (fun hc8 => ?_) (fun hc8 => ?_)
  · try simp only [decide_eq_true_eq,decide_eq_false_iff_not,beq_iff_eq,bne_iff_ne,ne_eq,beq_eq_false_iff_ne,bne_eq_false_iff_eq,Bool.not_eq_true,Bool.not_eq_false,Bool.not_eq_true',Bool.not_eq_false',Bool.not_not,gt_iff_lt,ge_iff_le,Nat.not_lt,Int.not_lt,Int.not_le] at hc8
    refine Ev.skip ?_
    refine Ev.seq ?_
    refine Ev.block ?_
    refine Ev.reg [(5,.val (i6 ((at_ + (7 - k) : Nat) : Int))),(8,.val (dI .u64 (b.getD (at_ + (7 - k)) 0))),(9,.val (dI .u64 ((topN b at_ (k + 1) : Nat) : Int)))] [0,1,5,6] (st' := ⟨[(0,(LY b)),(1,(ye0 at_)),(5,(dI .u64 ((topN b at_ (k + 1) : Nat) : Int))),(6,(i6 (7 - ((k : Nat) : Int))))],[]⟩)
      (p := True∧0 ≤ (8 : Int)∧T3 ((True∧(IntKind.wrap .i64 (((at_ : Nat) : Int) + (7 - ((k : Nat) : Int)))) = ((at_ + (7 - k) : Nat) : Int))∧(0 ≤ ((at_ + (7 - k) : Nat) : Int)∧((at_ + (7 - k) : Nat) : Int) < (b.length : Int))∧True∧(True∧(IntKind.wrap .u64 (b.getD (at_ + (7 - k)) 0)) = (b.getD (at_ + (7 - k)) 0))∧(True∧(IntKind.wrap .u64 (BitVec.ofInt (IntKind.u64).bits (IntKind.wrap .u64 (((topN b at_ k : Nat) : Int) * 2 ^ min 8 64)) ||| BitVec.ofInt (IntKind.u64).bits (b.getD (at_ + (7 - k)) 0)).toNat) = ((topN b at_ (k + 1) : Nat) : Int))∧True∧True)) (by kernel_rfl)
      ⟨oK,(by first | omega | (simp; first | done | omega)),oK,oK,oK,⟨oK,(w64n (by omega) (by omega))⟩,(by first | omega | (simp; first | done | omega)),oK,⟨oK,(wu64 rfl (hb.getD _).1 (by have := (hb.getD (at_ + (7 - k))).2; omega))⟩,⟨oK,(by rw [topN_succ hb (by omega) hr]; exact or_low (Nat.lt_of_lt_of_le (topN_lt hb _ _) (Nat.pow_le_pow_right (by omega) (by omega))) (hb.getD _).1 (hb.getD _).2)⟩,oK,oK⟩ ?_
    refine Ev.reg [(1,.val (i6 (7 - ((k + 1 : Nat) : Int))))] [0,1,5,6] (st' := ⟨[(0,(LY b)),(1,(ye0 at_)),(5,(dI .u64 ((topN b at_ (k + 1) : Nat) : Int))),(6,(i6 (7 - ((k + 1 : Nat) : Int))))],[]⟩)
      (p := True∧(True∧(IntKind.wrap .i64 ((7 - ((k : Nat) : Int)) - 1)) = (7 - ((k + 1 : Nat) : Int)))∧True∧True) (by kernel_rfl)
      ⟨oK,⟨oK,(w64 (by omega) (by omega) (by omega))⟩,oK,oK⟩ ?_
    refine ⟨k + 1,by kernel_rfl,(?_ : (k + 1) ≤ 8),(?_ : 8 - (k + 1) < 8 - k)⟩
    · omega
    · omega
  · try simp only [decide_eq_true_eq,decide_eq_false_iff_not,beq_iff_eq,bne_iff_ne,ne_eq,beq_eq_false_iff_ne,bne_eq_false_iff_eq,Bool.not_eq_true,Bool.not_eq_false,Bool.not_eq_true',Bool.not_eq_false',Bool.not_not,gt_iff_lt,ge_iff_le,Nat.not_lt,Int.not_lt,Int.not_le] at hc8
    refine Ev.exit ?_
    refine Ev.seq ?_
    refine Ev.reg [] [4] (st' := ⟨[(4,(dI .u64 ((topN b at_ k : Nat) : Int)))],[]⟩)
      (p := T2 True) (by kernel_rfl)
      ⟨oK,oK,oK⟩ ?_
    refine Ev.ret ?_
    refine ⟨⟨oK,oK⟩,(?_ : ((topN b at_ k : Nat) : Int) = ((wordN b at_ : Nat) : Int)),.inr trivial⟩
    have : k = 8 := by omega
    subst this
    rfl

set_option maxRecDepth 100000 in
theorem wordL_ok (b : List Int) (at_ : Nat) (hb : Bytes8 b) (hr : at_ + 8 ≤ b.length) (hbig : b.length ≤ 137438953472) : CallOk Try.prog 52 [(LY b),(ye0 at_)] [] false (dI .u64 ((wordN b at_ : Nat) : Int)) [] := by
  refine CallOk.of_ev Try.func52 rfl rfl rfl ?_
  rintro ⟨_,W,S0,_,susp,_⟩ rfl rfl rfl
  refine Ev.seq ?_
  refine Ev.reg [] [0,1] (st' := ⟨[(0,(LY b)),(1,(ye0 at_))],[]⟩)
    (p := True∧True) (by kernel_rfl)
    ⟨oK,oK⟩ ?_
  refine Ev.seq ?_
  refine Ev.reg [] [0,1,5] (st' := ⟨[(0,(LY b)),(1,(ye0 at_)),(5,(dI .u64 0))],[]⟩)
    (p := True∧True) (by kernel_rfl)
    ⟨oK,oK⟩ ?_
  refine Ev.seq ?_
  refine Ev.seq ?_
  refine Ev.reg [] [0,1,5,6] (st' := ⟨[(0,(LY b)),(1,(ye0 at_)),(5,(dI .u64 0)),(6,(i6 7))],[]⟩)
    (p := True∧True) (by kernel_rfl)
    ⟨oK,oK⟩ ?_
  refine Ev.block ?_
  refine Ev.loop [0,1,5,6] 0 (fun (k : Nat) => ⟨[(0,(LY b)),(1,(ye0 at_)),(5,(dI .u64 ((topN b at_ k : Nat) : Int))),(6,(i6 (7 - ((k : Nat) : Int))))],[]⟩) (fun (k : Nat) => k ≤ 8) (fun (k : Nat) => 8 - k) 0 (by kernel_rfl) (by omega) ?_
  rintro k hinv
  have hinv : k ≤ 8 := hinv
  have hk := hinv
  refine Ev.seq ?_
  refine Ev.seq ?_
  refine Ev.reg [] [0,1,5,6,8] (st' := ⟨[(0,(LY b)),(1,(ye0 at_)),(5,(dI .u64 ((topN b at_ k : Nat) : Int))),(6,(i6 (7 - ((k : Nat) : Int)))),(8,(dB (decide ((7 - ((k : Nat) : Int)) ≥ 0))))],[]⟩)
    (p := T2 True) (by kernel_rfl)
    ⟨oK,oK,oK⟩ ?_
  refine Ev.cond _ rfl (fun hc8 => ?_) (fun hc8 => ?_)
  · try simp only [decide_eq_true_eq,decide_eq_false_iff_not,beq_iff_eq,bne_iff_ne,ne_eq,beq_eq_false_iff_ne,bne_eq_false_iff_eq,Bool.not_eq_true,Bool.not_eq_false,Bool.not_eq_true',Bool.not_eq_false',Bool.not_not,gt_iff_lt,ge_iff_le,Nat.not_lt,Int.not_lt,Int.not_le] at hc8
    refine Ev.skip ?_
    refine Ev.seq ?_
    refine Ev.block ?_
    refine Ev.reg [(5,.val (i6 ((at_ + (7 - k) : Nat) : Int))),(8,.val (dI .u64 (b.getD (at_ + (7 - k)) 0))),(9,.val (dI .u64 ((topN b at_ (k + 1) : Nat) : Int)))] [0,1,5,6] (st' := ⟨[(0,(LY b)),(1,(ye0 at_)),(5,(dI .u64 ((topN b at_ (k + 1) : Nat) : Int))),(6,(i6 (7 - ((k : Nat) : Int))))],[]⟩)
      (p := True∧0 ≤ (8 : Int)∧T3 ((True∧(IntKind.wrap .i64 (((at_ : Nat) : Int) + (7 - ((k : Nat) : Int)))) = ((at_ + (7 - k) : Nat) : Int))∧(0 ≤ ((at_ + (7 - k) : Nat) : Int)∧((at_ + (7 - k) : Nat) : Int) < (b.length : Int))∧True∧(True∧(IntKind.wrap .u64 (b.getD (at_ + (7 - k)) 0)) = (b.getD (at_ + (7 - k)) 0))∧(True∧(IntKind.wrap .u64 (BitVec.ofInt (IntKind.u64).bits (IntKind.wrap .u64 (((topN b at_ k : Nat) : Int) * 2 ^ min 8 64)) ||| BitVec.ofInt (IntKind.u64).bits (b.getD (at_ + (7 - k)) 0)).toNat) = ((topN b at_ (k + 1) : Nat) : Int))∧True∧True)) (by kernel_rfl)
      ⟨oK,(by first | omega | (simp; first | done | omega)),oK,oK,oK,⟨oK,(w64n (by omega) (by omega))⟩,(by first | omega | (simp; first | done | omega)),oK,⟨oK,(wu64 rfl (hb.getD _).1 (by have := (hb.getD (at_ + (7 - k))).2; omega))⟩,⟨oK,(by rw [topN_succ hb (by omega) hr]; exact or_low (Nat.lt_of_lt_of_le (topN_lt hb _ _) (Nat.pow_le_pow_right (by omega) (by omega))) (hb.getD _).1 (hb.getD _).2)⟩,oK,oK⟩ ?_
    refine Ev.reg [(1,.val (i6 (7 - ((k + 1 : Nat) : Int))))] [0,1,5,6] (st' := ⟨[(0,(LY b)),(1,(ye0 at_)),(5,(dI .u64 ((topN b at_ (k + 1) : Nat) : Int))),(6,(i6 (7 - ((k + 1 : Nat) : Int))))],[]⟩)
      (p := True∧(True∧(IntKind.wrap .i64 ((7 - ((k : Nat) : Int)) - 1)) = (7 - ((k + 1 : Nat) : Int)))∧True∧True) (by kernel_rfl)
      ⟨oK,⟨oK,(w64 (by omega) (by omega) (by omega))⟩,oK,oK⟩ ?_
    refine ⟨k + 1,by kernel_rfl,(?_ : (k + 1) ≤ 8),(?_ : 8 - (k + 1) < 8 - k)⟩
    · omega
    · omega
  · try simp only [decide_eq_true_eq,decide_eq_false_iff_not,beq_iff_eq,bne_iff_ne,ne_eq,beq_eq_false_iff_ne,bne_eq_false_iff_eq,Bool.not_eq_true,Bool.not_eq_false,Bool.not_eq_true',Bool.not_eq_false',Bool.not_not,gt_iff_lt,ge_iff_le,Nat.not_lt,Int.not_lt,Int.not_le] at hc8
    refine Ev.exit ?_
    refine Ev.seq ?_
    refine Ev.reg [] [4] (st' := ⟨[(4,(dI .u64 ((topN b at_ k : Nat) : Int)))],[]⟩)
      (p := T2 True) (by kernel_rfl)
      ⟨oK,oK,oK⟩ ?_
    refine Ev.ret ?_
    refine ⟨⟨oK,oK⟩,(?_ : ((topN b at_ k : Nat) : Int) = ((wordN b at_ : Nat) : Int)),.inr trivial⟩
    have : k = 8 := by omega
    subst this
    rfl

end Go.Proofs.Ytjmfaebimgnblaa
