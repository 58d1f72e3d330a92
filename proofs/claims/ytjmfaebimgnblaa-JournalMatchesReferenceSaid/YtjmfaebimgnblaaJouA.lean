/-
  Package journal.
-/
import Derived.Test.YtjmfaebimgnblaaJouP
import Derived.Test.YtjmfaebimgnblaaOld
import Derived.Test.YtjmfaebimgnblaaProg
namespace Go.Proofs.Ytjmfaebimgnblaa
open Go.RowKit
set_option linter.unusedVariables false
set_option linter.unusedSimpArgs false
abbrev ya0 (at_ : Nat) : D := (i6 ((at_ : Nat) : Int))

set_option maxRecDepth 100000 in
theorem word_ok (b : List Int) (at_ : Nat) (hb : Bytes8 b) (hr : at_ + 8 ≤ b.length) (hbig : b.length ≤ 137438953472) : CallOk Try.prog 70 [(LY b),(ya0 at_)] [] false (dI .u64 ((wordN b at_ : Nat) : Int)) [] := by
  refine CallOk.of_ev Try.func70 rfl rfl rfl ?_
  rintro ⟨_,W,S0,_,susp,_⟩ rfl rfl rfl
  refine Ev.seq ?_
  refine Ev.reg [] [0,1] (st' := ⟨[(0,(LY b)),(1,(ya0 at_))],[]⟩)
    (p := True∧True) (by kernel_rfl)
    ⟨oK,oK⟩ ?_
  refine Ev.seq ?_
  refine Ev.reg [] [0,1,5] (st' := ⟨[(0,(LY b)),(1,(ya0 at_)),(5,(dI .u64 0))],[]⟩)
    (p := True∧True) (by kernel_rfl)
    ⟨oK,oK⟩ ?_
  refine Ev.seq ?_
  refine Ev.seq ?_
  refine Ev.reg [] [0,1,5,7] (st' := ⟨[(0,(LY b)),(1,(ya0 at_)),(5,(dI .u64 0)),(7,(i6 0))],[]⟩)
    (p := True∧True) (by kernel_rfl)
    ⟨oK,oK⟩ ?_
  refine Ev.block ?_
  refine Ev.loop [0,1,5,7] 0 (fun (k : Nat) => ⟨[(0,(LY b)),(1,(ya0 at_)),(5,(dI .u64 ((partN b at_ k : Nat) : Int))),(7,(i6 ((k : Nat) : Int)))],[]⟩) (fun (k : Nat) => k ≤ 8) (fun (k : Nat) => 8 - k) 0 (by kernel_rfl) (by omega) ?_
  rintro k hinv
  have hinv : k ≤ 8 := hinv
  have hk := hinv
  refine Ev.seq ?_
  refine Ev.reg [] [0,1,5,7,8] (st' := ⟨[(0,(LY b)),(1,(ya0 at_)),(5,(dI .u64 ((partN b at_ k : Nat) : Int))),(7,(i6 ((k : Nat) : Int))),(8,(dB (decide (((k : Nat) : Int) < 8))))],[]⟩)
    (p := True∧True) (by kernel_rfl)
    ⟨oK,oK⟩ ?_
  refine Ev.seq ?_
  refine Ev.cond _ rfl (fun hc8 => ?_) (fun hc8 => ?_)
  · try simp only [decide_eq_true_eq,decide_eq_false_iff_not,beq_iff_eq,bne_iff_ne,ne_eq,beq_eq_false_iff_ne,bne_eq_false_iff_eq,Bool.not_eq_true,Bool.not_eq_false,Bool.not_eq_true',Bool.not_eq_false',Bool.not_not,gt_iff_lt,ge_iff_le,Nat.not_lt,Int.not_lt,Int.not_le] at hc8
    refine Ev.skip ?_
    refine Ev.seq ?_
    refine Ev.block ?_
    refine Ev.seq ?_
    refine Ev.reg [] [0,1,5,6,7] (st' := ⟨[(0,(LY b)),(1,(ya0 at_)),(5,(dI .u64 ((partN b at_ k : Nat) : Int))),(6,(i6 ((k : Nat) : Int))),(7,(i6 ((k : Nat) : Int)))],[]⟩)
      (p := T2 True) (by kernel_rfl)
      ⟨oK,oK,oK⟩ ?_
    refine Ev.reg [(4,.val (i6 ((at_ + k : Nat) : Int))),(7,.val (dI .u64 (b.getD (at_ + k) 0))),(9,.val (i6 ((8 * k : Nat) : Int))),(11,.val (dI .u64 ((partN b at_ (k + 1) : Nat) : Int)))] [0,1,5,7] (st' := ⟨[(0,(LY b)),(1,(ya0 at_)),(5,(dI .u64 ((partN b at_ (k + 1) : Nat) : Int))),(7,(i6 ((k : Nat) : Int)))],[]⟩)
      (p := T4 ((True∧(IntKind.wrap .i64 (((at_ : Nat) : Int) + ((k : Nat) : Int))) = ((at_ + k : Nat) : Int))∧(0 ≤ ((at_ + k : Nat) : Int)∧((at_ + k : Nat) : Int) < (b.length : Int))∧True∧(True∧(IntKind.wrap .u64 (b.getD (at_ + k) 0)) = (b.getD (at_ + k) 0))∧True∧(True∧(IntKind.wrap .i64 (8 * ((k : Nat) : Int))) = ((8 * k : Nat) : Int))∧0 ≤ ((8 * k : Nat) : Int)∧(True∧(IntKind.wrap .u64 (BitVec.ofInt (IntKind.u64).bits ((partN b at_ k : Nat) : Int) ||| BitVec.ofInt (IntKind.u64).bits (IntKind.wrap .u64 ((b.getD (at_ + k) 0) * 2 ^ min (8 * k) 64))).toNat) = ((partN b at_ (k + 1) : Nat) : Int))∧True∧True)) (by kernel_rfl)
      ⟨oK,oK,oK,oK,⟨oK,(w64n (by first | rfl | simp | omega) (by first | omega | (simp; first | done | omega)))⟩,(by first | omega | (simp; first | done | omega)),oK,⟨oK,(wu64 rfl (hb.getD _).1 (by have := (hb.getD (at_ + k)).2; omega))⟩,oK,⟨oK,(w64n (by first | rfl | simp | omega) (by first | omega | (simp; first | done | omega)))⟩,(by first | omega | (simp; first | done | omega)),⟨oK,(by rw [partN_succ hb (by omega)]; exact or_byte (partN_lt hb _ _) (by omega) (hb.getD _).1 (hb.getD _).2)⟩,oK,oK⟩ ?_
    refine Ev.reg [(0,.val (i6 ((k + 1 : Nat) : Int)))] [0,1,5,7] (st' := ⟨[(0,(LY b)),(1,(ya0 at_)),(5,(dI .u64 ((partN b at_ (k + 1) : Nat) : Int))),(7,(i6 ((k + 1 : Nat) : Int)))],[]⟩)
      (p := (True∧(IntKind.wrap .i64 (((k : Nat) : Int) + 1)) = ((k + 1 : Nat) : Int))∧True∧True) (by kernel_rfl)
      ⟨⟨oK,(w64n (by first | rfl | simp | omega) (by first | omega | (simp; first | done | omega)))⟩,oK,oK⟩ ?_
    refine ⟨k + 1,by kernel_rfl,(?_ : (k + 1) ≤ 8),(?_ : 8 - (k + 1) < 8 - k)⟩
    · omega
    · omega
  · try simp only [decide_eq_true_eq,decide_eq_false_iff_not,beq_iff_eq,bne_iff_ne,ne_eq,beq_eq_false_iff_ne,bne_eq_false_iff_eq,Bool.not_eq_true,Bool.not_eq_false,Bool.not_eq_true',Bool.not_eq_false',Bool.not_not,gt_iff_lt,ge_iff_le,Nat.not_lt,Int.not_lt,Int.not_le] at hc8
    refine Ev.exit ?_
    refine Ev.seq ?_
    refine Ev.reg [] [4] (st' := ⟨[(4,(dI .u64 ((partN b at_ k : Nat) : Int)))],[]⟩)
      (p := T2 True) (by kernel_rfl)
      ⟨oK,oK,oK⟩ ?_
    refine Ev.ret ?_
    refine ⟨⟨oK,oK⟩,(?_ : ((partN b at_ k : Nat) : Int) = ((wordN b at_ : Nat) : Int)),.inr trivial⟩
    have : k = 8 := by omega
    subst this
    rfl

end Go.Proofs.Ytjmfaebimgnblaa
