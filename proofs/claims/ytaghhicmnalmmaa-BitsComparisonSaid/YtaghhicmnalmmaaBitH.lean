/-
  Package bits: Apply.
-/
import Derived.Test.YtaghhicmnalmmaaBitE
import Derived.Test.YtaghhicmnalmmaaBitF
namespace Go.Proofs.Ytaghhicmnalmmaa
open Go.RowKit
set_option linter.unusedVariables false
set_option linter.unusedSimpArgs false

set_option maxRecDepth 100000 in
theorem Apply_1 (ws xs nums : List Int) (hwl : ws.length ≤ 9223372036854775807) (hxl : xs.length ≤ 9223372036854775807) : CallOk Try.prog 12 [(i6 1),(LI ws),(LI xs),(LI nums)] [] false (.tup [(i6 (applyV 1 ws xs nums)),(i6 (applyE 1 ws xs nums))]) [] := by
  refine CallOk.of_ev Try.func12 rfl rfl rfl ?_
  rintro ⟨_,W,S0,_,susp,_⟩ rfl rfl rfl
  refine Ev.seq ?_
  refine Ev.reg [] [0,1,2,3] (st' := ⟨[(0,(i6 1)),(1,(LI ws)),(2,(LI xs)),(3,(LI nums))],[]⟩)
    (p := True∧True∧True) (by kernel_rfl)
    ⟨⟨⟩,⟨⟩,⟨⟩⟩ ?_
  refine Ev.seq ?_
  refine Ev.seq ?_
  rcases (show nums.length ≠ 2 ∨ (nums.length = 2∧xs.length ≠ ws.length) ∨ (nums.length = 2∧xs.length = ws.length) from by omega) with hx | hx | hx
  · skip
    refine Ev.reg [(2,.val (dB true))] [0,1,2,3,25] (st' := ⟨[(0,(i6 1)),(1,(LI ws)),(2,(LI xs)),(3,(LI nums)),(25,(dB true))],[]⟩)
      (p := True∧True∧(True∧(((nums.length : Nat) : Int) != 2) = true)∧True∧True∧True∧True∧True∧True∧True∧True) (by kernel_rfl)
      ⟨⟨⟩,⟨⟩,⟨⟨⟩,(by exact bne_iff_ne.2 (by omega))⟩,⟨⟩,⟨⟩,⟨⟩,⟨⟩,⟨⟩,⟨⟩,⟨⟩,⟨⟩⟩ ?_
    refine Ev.cond true rfl (fun _ => ?_) (fun h => (by cases h))
    refine Ev.seq ?_
    refine Ev.reg [] [8,9] (st' := ⟨[(8,(i6 0)),(9,(i6 1))],[]⟩)
      (p := True∧True∧True) (by kernel_rfl)
      ⟨⟨⟩,⟨⟩,⟨⟩⟩ ?_
    refine Ev.ret ?_
    refine ⟨⟨⟨⟩,⟨⟩,⟨⟩⟩,(?_ : (0 : Int) = (applyV 1 ws xs nums)∧(1 : Int) = (applyE 1 ws xs nums)∧True),.inr ⟨⟨⟩,⟨⟩,⟨⟩⟩⟩
    exact ⟨(ap_no (ap_n hx)).1.symm,(ap_no (ap_n hx)).2.symm,⟨⟩⟩
  · skip
    refine Ev.reg [(2,.val (dB false)),(8,.val (dB true))] [0,1,2,3,25] (st' := ⟨[(0,(i6 1)),(1,(LI ws)),(2,(LI xs)),(3,(LI nums)),(25,(dB true))],[]⟩)
      (p := True∧True∧(True∧(((nums.length : Nat) : Int) != 2) = false)∧True∧True∧True∧True∧True∧(True∧(((xs.length : Nat) : Int) != ((ws.length : Nat) : Int)) = true)∧True∧True) (by kernel_rfl)
      ⟨⟨⟩,⟨⟩,⟨⟨⟩,(by rw [hx.1]; rfl)⟩,⟨⟩,⟨⟩,⟨⟩,⟨⟩,⟨⟩,⟨⟨⟩,(by exact bne_iff_ne.2 (by omega))⟩,⟨⟩,⟨⟩⟩ ?_
    refine Ev.cond true rfl (fun _ => ?_) (fun h => (by cases h))
    refine Ev.seq ?_
    refine Ev.reg [] [8,9] (st' := ⟨[(8,(i6 0)),(9,(i6 1))],[]⟩)
      (p := True∧True∧True) (by kernel_rfl)
      ⟨⟨⟩,⟨⟩,⟨⟩⟩ ?_
    refine Ev.ret ?_
    refine ⟨⟨⟨⟩,⟨⟩,⟨⟩⟩,(?_ : (0 : Int) = (applyV 1 ws xs nums)∧(1 : Int) = (applyE 1 ws xs nums)∧True),.inr ⟨⟨⟩,⟨⟩,⟨⟩⟩⟩
    exact ⟨(ap_no (ap_l hx.2)).1.symm,(ap_no (ap_l hx.2)).2.symm,⟨⟩⟩
  · skip
    refine Ev.reg [(2,.val (dB false)),(8,.val (dB false))] [0,1,2,3,25] (st' := ⟨[(0,(i6 1)),(1,(LI ws)),(2,(LI xs)),(3,(LI nums)),(25,(dB false))],[]⟩)
      (p := True∧True∧(True∧(((nums.length : Nat) : Int) != 2) = false)∧True∧True∧True∧True∧True∧(True∧(((xs.length : Nat) : Int) != ((ws.length : Nat) : Int)) = false)∧True∧True) (by kernel_rfl)
      ⟨⟨⟩,⟨⟩,⟨⟨⟩,(by rw [hx.1]; rfl)⟩,⟨⟩,⟨⟩,⟨⟩,⟨⟩,⟨⟩,⟨⟨⟩,(by rw [hx.2]; simp)⟩,⟨⟩,⟨⟩⟩ ?_
    refine Ev.cond false rfl (fun h => (by cases h)) (fun _ => ?_)
    refine Ev.skip ?_
    refine Ev.seq ?_
    refine Ev.draw 10 [false,false,false,false,false,false,false,false,false,false] [] [0,1,2,10] (st' := ⟨[(0,(i6 1)),(1,(LI ws)),(2,(LI xs)),(10,(.ptr 0 0 0 0))],[(.var 61 [(LI ws),(LI xs),(i6 (nums.getD 0 0)),(i6 (nums.getD 1 0))])]⟩)
      (p := (True∧True∧True∧(0 ≤ (0 : Int)∧0 < (nums.length : Int))∧True∧True∧(0 ≤ (1 : Int)∧1 < (nums.length : Int))∧True∧True∧True∧True)∧(True∧True)) (by kernel_rfl) (by kernel_rfl)
      ⟨⟨⟨⟩,⟨⟩,⟨⟩,(by first | omega | (simp; first | done | omega)),⟨⟩,⟨⟩,(by first | omega | (simp; first | done | omega)),⟨⟩,⟨⟩,⟨⟩,⟨⟩⟩,⟨⟨⟩,⟨⟩⟩⟩ ?_
    refine Ev.seq ?_
    rcases ok3 1 ws (nums.getD 0 0) (nums.getD 1 0) with ⟨hb,h⟩ | ⟨hb,hv,h⟩ | h
    · skip
      refine Ev.reg [(2,.call none true (.tup [(.agg [(i6 0),(.v .nilf),(.v .nilf)]),(i6 0),(dB false)]))] [1,2,10,11,13] (st' := ⟨[(1,(LI ws)),(2,(LI xs)),(10,(.ptr 0 0 0 0)),(11,(.ptr 1 0 0 0)),(13,(dB false))],[(.var 61 [(LI ws),(LI xs),(i6 (nums.getD 0 0)),(i6 (nums.getD 1 0))]),(.var 57 [(i6 0),(.v .nilf),(.v .nilf)])]⟩)
        (p := True∧True∧callOb Try.prog 27 [(.var 61 [(LI ws),(LI xs),(i6 (nums.getD 0 0)),(i6 (nums.getD 1 0))])] [(i6 1),(.agg [(LI ws),(LI xs),(i6 (nums.getD 0 0)),(i6 (nums.getD 1 0))])] none true (.tup [(.agg [(i6 0),(.v .nilf),(.v .nilf)]),(i6 0),(dB false)])∧True∧True∧True∧True∧True∧True∧True∧True∧True) (by kernel_rfl)
        ⟨⟨⟩,⟨⟩,(width_bad_1 _ _ _ _ hwl hb),⟨⟩,⟨⟩,⟨⟩,⟨⟩,⟨⟩,⟨⟩,⟨⟩,⟨⟩,⟨⟩⟩ ?_
      refine Ev.seq ?_
      refine Ev.seq ?_
      refine Ev.reg [] [1,2,10,11,43] (st' := ⟨[(1,(LI ws)),(2,(LI xs)),(10,(.ptr 0 0 0 0)),(11,(.ptr 1 0 0 0)),(43,(dB true))],[(.var 61 [(LI ws),(LI xs),(i6 (nums.getD 0 0)),(i6 (nums.getD 1 0))]),(.var 57 [(i6 0),(.v .nilf),(.v .nilf)])]⟩)
        (p := True∧True∧True) (by kernel_rfl)
        ⟨⟨⟩,⟨⟩,⟨⟩⟩ ?_
      refine Ev.cond true rfl (fun _ => ?_) (fun h => (by cases h))
      refine Ev.seq ?_
      refine Ev.reg [] [8,9] (st' := ⟨[(8,(i6 0)),(9,(i6 1))],[(.var 61 [(LI ws),(LI xs),(i6 (nums.getD 0 0)),(i6 (nums.getD 1 0))]),(.var 57 [(i6 0),(.v .nilf),(.v .nilf)])]⟩)
        (p := True∧True∧True) (by kernel_rfl)
        ⟨⟨⟩,⟨⟩,⟨⟩⟩ ?_
      refine Ev.ret ?_
      refine ⟨⟨⟨⟩,⟨⟩,⟨⟩⟩,(?_ : (0 : Int) = (applyV 1 ws xs nums)∧(1 : Int) = (applyE 1 ws xs nums)∧True),.inr ⟨⟨⟩,⟨⟩,⟨⟩⟩⟩
      exact ⟨(ap_no (ap_bad h)).1.symm,(ap_no (ap_bad h)).2.symm,⟨⟩⟩
    · skip
      refine Ev.reg [(2,.call none true (.tup [(.agg [(i6 0),(.fn (.func 52) [] []),(.fn (.func 53) [] [])]),(i6 (wvF 1 ws (nums.getD 0 0) (nums.getD 1 0))),(dB false)]))] [1,2,10,11,13] (st' := ⟨[(1,(LI ws)),(2,(LI xs)),(10,(.ptr 0 0 0 0)),(11,(.ptr 1 0 0 0)),(13,(dB false))],[(.var 61 [(LI ws),(LI xs),(i6 (nums.getD 0 0)),(i6 (nums.getD 1 0))]),(.var 57 [(i6 0),(.fn (.func 52) [] []),(.fn (.func 53) [] [])])]⟩)
        (p := True∧True∧callOb Try.prog 27 [(.var 61 [(LI ws),(LI xs),(i6 (nums.getD 0 0)),(i6 (nums.getD 1 0))])] [(i6 1),(.agg [(LI ws),(LI xs),(i6 (nums.getD 0 0)),(i6 (nums.getD 1 0))])] none true (.tup [(.agg [(i6 0),(.fn (.func 52) [] []),(.fn (.func 53) [] [])]),(i6 (wvF 1 ws (nums.getD 0 0) (nums.getD 1 0))),(dB false)])∧True∧True∧True∧True∧True∧True∧True∧True∧True) (by kernel_rfl)
        ⟨⟨⟩,⟨⟩,(width_wv_1 _ _ _ _ hwl hb hv),⟨⟩,⟨⟩,⟨⟩,⟨⟩,⟨⟩,⟨⟩,⟨⟩,⟨⟩,⟨⟩⟩ ?_
      refine Ev.seq ?_
      refine Ev.seq ?_
      refine Ev.reg [] [1,2,10,11,43] (st' := ⟨[(1,(LI ws)),(2,(LI xs)),(10,(.ptr 0 0 0 0)),(11,(.ptr 1 0 0 0)),(43,(dB true))],[(.var 61 [(LI ws),(LI xs),(i6 (nums.getD 0 0)),(i6 (nums.getD 1 0))]),(.var 57 [(i6 0),(.fn (.func 52) [] []),(.fn (.func 53) [] [])])]⟩)
        (p := True∧True∧True) (by kernel_rfl)
        ⟨⟨⟩,⟨⟩,⟨⟩⟩ ?_
      refine Ev.cond true rfl (fun _ => ?_) (fun h => (by cases h))
      refine Ev.seq ?_
      refine Ev.reg [] [8,9] (st' := ⟨[(8,(i6 0)),(9,(i6 1))],[(.var 61 [(LI ws),(LI xs),(i6 (nums.getD 0 0)),(i6 (nums.getD 1 0))]),(.var 57 [(i6 0),(.fn (.func 52) [] []),(.fn (.func 53) [] [])])]⟩)
        (p := True∧True∧True) (by kernel_rfl)
        ⟨⟨⟩,⟨⟩,⟨⟩⟩ ?_
      refine Ev.ret ?_
      refine ⟨⟨⟨⟩,⟨⟩,⟨⟩⟩,(?_ : (0 : Int) = (applyV 1 ws xs nums)∧(1 : Int) = (applyE 1 ws xs nums)∧True),.inr ⟨⟨⟩,⟨⟩,⟨⟩⟩⟩
      exact ⟨(ap_no (ap_bad h)).1.symm,(ap_no (ap_bad h)).2.symm,⟨⟩⟩
    · skip
      refine Ev.reg [(2,.call none true (.tup [(.agg [(i6 0),(.fn (.func 52) [] []),(.fn (.func 53) [] [])]),(i6 (wvF 1 ws (nums.getD 0 0) (nums.getD 1 0))),(dB true)]))] [1,2,10,11,13] (st' := ⟨[(1,(LI ws)),(2,(LI xs)),(10,(.ptr 0 0 0 0)),(11,(.ptr 1 0 0 0)),(13,(dB true))],[(.var 61 [(LI ws),(LI xs),(i6 (nums.getD 0 0)),(i6 (nums.getD 1 0))]),(.var 57 [(i6 0),(.fn (.func 52) [] []),(.fn (.func 53) [] [])])]⟩)
        (p := True∧True∧callOb Try.prog 27 [(.var 61 [(LI ws),(LI xs),(i6 (nums.getD 0 0)),(i6 (nums.getD 1 0))])] [(i6 1),(.agg [(LI ws),(LI xs),(i6 (nums.getD 0 0)),(i6 (nums.getD 1 0))])] none true (.tup [(.agg [(i6 0),(.fn (.func 52) [] []),(.fn (.func 53) [] [])]),(i6 (wvF 1 ws (nums.getD 0 0) (nums.getD 1 0))),(dB true)])∧True∧True∧True∧True∧True∧True∧True∧True∧True) (by kernel_rfl)
        ⟨⟨⟩,⟨⟩,(width_good_1 _ _ _ _ hwl h),⟨⟩,⟨⟩,⟨⟩,⟨⟩,⟨⟩,⟨⟩,⟨⟩,⟨⟩,⟨⟩⟩ ?_
      refine Ev.seq ?_
      refine Ev.seq ?_
      refine Ev.reg [] [1,2,10,11,43] (st' := ⟨[(1,(LI ws)),(2,(LI xs)),(10,(.ptr 0 0 0 0)),(11,(.ptr 1 0 0 0)),(43,(dB false))],[(.var 61 [(LI ws),(LI xs),(i6 (nums.getD 0 0)),(i6 (nums.getD 1 0))]),(.var 57 [(i6 0),(.fn (.func 52) [] []),(.fn (.func 53) [] [])])]⟩)
        (p := True∧True∧True) (by kernel_rfl)
        ⟨⟨⟩,⟨⟩,⟨⟩⟩ ?_
      refine Ev.cond false rfl (fun h => (by cases h)) (fun _ => ?_)
      refine Ev.skip ?_
      refine Ev.seq ?_
      refine Ev.seq ?_
      refine Ev.reg [] [1,10,11,44,45,46] (st' := ⟨[(1,(LI ws)),(10,(.ptr 0 0 0 0)),(11,(.ptr 1 0 0 0)),(44,(LI xs)),(45,(i6 ((xs.length : Nat) : Int))),(46,(i6 0))],[(.var 61 [(LI ws),(LI xs),(i6 (nums.getD 0 0)),(i6 (nums.getD 1 0))]),(.var 57 [(i6 0),(.fn (.func 52) [] []),(.fn (.func 53) [] [])])]⟩)
        (p := True∧True∧True∧True) (by kernel_rfl)
        ⟨⟨⟩,⟨⟩,⟨⟩,⟨⟩⟩ ?_
      refine Ev.block ?_
      refine Ev.loop [1,10,11,44,45,46] 2 (fun (i : Nat) => ⟨[(1,(LI ws)),(10,(.ptr 0 0 0 0)),(11,(.ptr 1 0 0 0)),(44,(LI xs)),(45,(i6 ((xs.length : Nat) : Int))),(46,(i6 ((i : Nat) : Int)))],[(.var 61 [(LI ws),(LI xs),(i6 (nums.getD 0 0)),(i6 (nums.getD 1 0))]),(.var 57 [(i6 0),(.fn (.func 52) [] []),(.fn (.func 53) [] [])])]⟩) (fun (i : Nat) => i ≤ xs.length∧∀ j,j < i → 0 ≤ xs.getD j 0∧xs.getD j 0 ≤ maskF (ws.getD j 0)) (fun (i : Nat) => xs.length - i) 0 (by kernel_rfl) (⟨by omega,fun j hj => by omega⟩) ?_
      rintro i hinv
      have hinv : i ≤ xs.length∧∀ j,j < i → 0 ≤ xs.getD j 0∧xs.getD j 0 ≤ maskF (ws.getD j 0) := hinv
      obtain ⟨hi,hall⟩ := hinv
      refine Ev.seq ?_
      refine Ev.reg [] [1,10,11,44,45,46,47] (st' := ⟨[(1,(LI ws)),(10,(.ptr 0 0 0 0)),(11,(.ptr 1 0 0 0)),(44,(LI xs)),(45,(i6 ((xs.length : Nat) : Int))),(46,(i6 ((i : Nat) : Int))),(47,(dB (decide (((i : Nat) : Int) < ((xs.length : Nat) : Int)))))],[(.var 61 [(LI ws),(LI xs),(i6 (nums.getD 0 0)),(i6 (nums.getD 1 0))]),(.var 57 [(i6 0),(.fn (.func 52) [] []),(.fn (.func 53) [] [])])]⟩)
        (p := True∧True) (by kernel_rfl)
        ⟨⟨⟩,⟨⟩⟩ ?_
      refine Ev.seq ?_
      refine Ev.cond _ rfl (fun hc47 => ?_) (fun hc47 => ?_)
      · try simp only [decide_eq_true_eq,decide_eq_false_iff_not,beq_iff_eq,bne_iff_ne,ne_eq,beq_eq_false_iff_ne,bne_eq_false_iff_eq,Bool.not_eq_true,Bool.not_eq_false,Bool.not_eq_true',Bool.not_eq_false',Bool.not_not,gt_iff_lt,ge_iff_le,Nat.not_lt,Int.not_lt,Int.not_le] at hc47
        refine Ev.skip ?_
        refine Ev.seq ?_
        refine Ev.block ?_
        refine Ev.seq ?_
        refine Ev.reg [] [1,10,11,14,15,44,45,46] (st' := ⟨[(1,(LI ws)),(10,(.ptr 0 0 0 0)),(11,(.ptr 1 0 0 0)),(14,(i6 ((i : Nat) : Int))),(15,(i6 (xs.getD i 0))),(44,(LI xs)),(45,(i6 ((xs.length : Nat) : Int))),(46,(i6 ((i : Nat) : Int)))],[(.var 61 [(LI ws),(LI xs),(i6 (nums.getD 0 0)),(i6 (nums.getD 1 0))]),(.var 57 [(i6 0),(.fn (.func 52) [] []),(.fn (.func 53) [] [])])]⟩)
          (p := True∧(0 ≤ ((i : Nat) : Int)∧((i : Nat) : Int) < (xs.length : Int))∧True∧True∧True∧True) (by kernel_rfl)
          ⟨⟨⟩,(by first | omega | (simp; first | done | omega)),⟨⟩,⟨⟩,⟨⟩,⟨⟩⟩ ?_
        refine Ev.seq ?_
        rcases Int.lt_or_le (xs.getD i 0) 0 with hn | hn
        · skip
          refine Ev.reg [(1,.val (dB true))] [1,10,11,44,45,46,61] (st' := ⟨[(1,(LI ws)),(10,(.ptr 0 0 0 0)),(11,(.ptr 1 0 0 0)),(44,(LI xs)),(45,(i6 ((xs.length : Nat) : Int))),(46,(i6 ((i : Nat) : Int))),(61,(dB true))],[(.var 61 [(LI ws),(LI xs),(i6 (nums.getD 0 0)),(i6 (nums.getD 1 0))]),(.var 57 [(i6 0),(.fn (.func 52) [] []),(.fn (.func 53) [] [])])]⟩)
            (p := True∧(True∧(decide ((xs.getD i 0) < 0)) = true)∧True∧True∧True∧True∧True∧True∧True∧True∧True∧True) (by kernel_rfl)
            ⟨⟨⟩,⟨⟨⟩,(by simpa using hn)⟩,⟨⟩,⟨⟩,⟨⟩,⟨⟩,⟨⟩,⟨⟩,⟨⟩,⟨⟩,⟨⟩,⟨⟩⟩ ?_
          refine Ev.cond true rfl (fun _ => ?_) (fun h => (by cases h))
          refine Ev.seq ?_
          refine Ev.reg [] [8,9] (st' := ⟨[(8,(i6 0)),(9,(i6 1))],[(.var 61 [(LI ws),(LI xs),(i6 (nums.getD 0 0)),(i6 (nums.getD 1 0))]),(.var 57 [(i6 0),(.fn (.func 52) [] []),(.fn (.func 53) [] [])])]⟩)
            (p := True∧True∧True) (by kernel_rfl)
            ⟨⟨⟩,⟨⟩,⟨⟩⟩ ?_
          refine Ev.ret ?_
          refine ⟨⟨⟨⟩,⟨⟩,⟨⟩⟩,(?_ : (0 : Int) = (applyV 1 ws xs nums)∧(1 : Int) = (applyE 1 ws xs nums)∧True),.inr ⟨⟨⟩,⟨⟩,⟨⟩⟩⟩
          exact ⟨(ap_no (ap_in (i := i) (by omega) (.inl hn))).1.symm,(ap_no (ap_in (i := i) (by omega) (.inl hn))).2.symm,⟨⟩⟩
        · skip
          refine Ev.reg [(1,.val (dB false)),(8,.call none false (i6 (maskF (ws.getD i 0))))] [1,10,11,44,45,46,61] (st' := ⟨[(1,(LI ws)),(10,(.ptr 0 0 0 0)),(11,(.ptr 1 0 0 0)),(44,(LI xs)),(45,(i6 ((xs.length : Nat) : Int))),(46,(i6 ((i : Nat) : Int))),(61,(dB (decide ((xs.getD i 0) > (maskF (ws.getD i 0))))))],[(.var 61 [(LI ws),(LI xs),(i6 (nums.getD 0 0)),(i6 (nums.getD 1 0))]),(.var 57 [(i6 0),(.fn (.func 52) [] []),(.fn (.func 53) [] [])])]⟩)
            (p := True∧(True∧(decide ((xs.getD i 0) < 0)) = false)∧True∧True∧True∧True∧(0 ≤ ((i : Nat) : Int)∧((i : Nat) : Int) < (ws.length : Int))∧True∧callOb Try.prog 14 [(.var 61 [(LI ws),(LI xs),(i6 (nums.getD 0 0)),(i6 (nums.getD 1 0))]),(.var 57 [(i6 0),(.fn (.func 52) [] []),(.fn (.func 53) [] [])])] [(i6 (ws.getD i 0))] none false (i6 (maskF (ws.getD i 0)))∧True∧True∧True) (by kernel_rfl)
            ⟨⟨⟩,⟨⟨⟩,(by simpa using hn)⟩,⟨⟩,⟨⟩,⟨⟩,⟨⟩,(by first | omega | (simp; first | done | omega)),⟨⟩,(mask_ok _),⟨⟩,⟨⟩,⟨⟩⟩ ?_
          refine Ev.cond _ rfl (fun hc61 => ?_) (fun hc61 => ?_)
          · try simp only [decide_eq_true_eq,decide_eq_false_iff_not,beq_iff_eq,bne_iff_ne,ne_eq,beq_eq_false_iff_ne,bne_eq_false_iff_eq,Bool.not_eq_true,Bool.not_eq_false,Bool.not_eq_true',Bool.not_eq_false',Bool.not_not,gt_iff_lt,ge_iff_le,Nat.not_lt,Int.not_lt,Int.not_le] at hc61
            refine Ev.seq ?_
            refine Ev.reg [] [8,9] (st' := ⟨[(8,(i6 0)),(9,(i6 1))],[(.var 61 [(LI ws),(LI xs),(i6 (nums.getD 0 0)),(i6 (nums.getD 1 0))]),(.var 57 [(i6 0),(.fn (.func 52) [] []),(.fn (.func 53) [] [])])]⟩)
              (p := True∧True∧True) (by kernel_rfl)
              ⟨⟨⟩,⟨⟩,⟨⟩⟩ ?_
            refine Ev.ret ?_
            refine ⟨⟨⟨⟩,⟨⟩,⟨⟩⟩,(?_ : (0 : Int) = (applyV 1 ws xs nums)∧(1 : Int) = (applyE 1 ws xs nums)∧True),.inr ⟨⟨⟩,⟨⟩,⟨⟩⟩⟩
            exact ⟨(ap_no (ap_in (i := i) (by omega) (.inr (by omega)))).1.symm,(ap_no (ap_in (i := i) (by omega) (.inr (by omega)))).2.symm,⟨⟩⟩
          · try simp only [decide_eq_true_eq,decide_eq_false_iff_not,beq_iff_eq,bne_iff_ne,ne_eq,beq_eq_false_iff_ne,bne_eq_false_iff_eq,Bool.not_eq_true,Bool.not_eq_false,Bool.not_eq_true',Bool.not_eq_false',Bool.not_not,gt_iff_lt,ge_iff_le,Nat.not_lt,Int.not_lt,Int.not_le] at hc61
            refine Ev.skip ?_
            refine Ev.reg [(0,.val (i6 ((i + 1 : Nat) : Int)))] [1,10,11,44,45,46] (st' := ⟨[(1,(LI ws)),(10,(.ptr 0 0 0 0)),(11,(.ptr 1 0 0 0)),(44,(LI xs)),(45,(i6 ((xs.length : Nat) : Int))),(46,(i6 ((i + 1 : Nat) : Int)))],[(.var 61 [(LI ws),(LI xs),(i6 (nums.getD 0 0)),(i6 (nums.getD 1 0))]),(.var 57 [(i6 0),(.fn (.func 52) [] []),(.fn (.func 53) [] [])])]⟩)
              (p := (True∧(IntKind.wrap .i64 (((i : Nat) : Int) + 1)) = ((i + 1 : Nat) : Int))∧True∧True) (by kernel_rfl)
              ⟨⟨⟨⟩,(w64n (by first | rfl | simp | omega) (by first | omega | (simp; first | done | omega)))⟩,⟨⟩,⟨⟩⟩ ?_
            refine ⟨i + 1,by kernel_rfl,(?_ : (i + 1) ≤ xs.length∧∀ j,j < (i + 1) → 0 ≤ xs.getD j 0∧xs.getD j 0 ≤ maskF (ws.getD j 0)),(?_ : xs.length - (i + 1) < xs.length - i)⟩
            · exact ⟨by omega,lt_more hall ⟨by omega,by omega⟩⟩
            · omega
      · try simp only [decide_eq_true_eq,decide_eq_false_iff_not,beq_iff_eq,bne_iff_ne,ne_eq,beq_eq_false_iff_ne,bne_eq_false_iff_eq,Bool.not_eq_true,Bool.not_eq_false,Bool.not_eq_true',Bool.not_eq_false',Bool.not_not,gt_iff_lt,ge_iff_le,Nat.not_lt,Int.not_lt,Int.not_le] at hc47
        refine Ev.exit ?_
        refine Ev.seq ?_
        have hin : inF ws xs = true := in_all (fun j hj => hall j (by omega))
        obtain ⟨hl0,hf,-⟩ := ok_yes h
        have hA : arityF 1 = 0 := by decide
        rw [hA] at hl0
        refine Ev.reg [(3,.call none false (i6 (avF 1 ws xs (nums.getD 0 0) (nums.getD 1 0))))] [8,9] (st' := ⟨[(8,(i6 (avF 1 ws xs (nums.getD 0 0) (nums.getD 1 0)))),(9,(i6 0))],[(.var 61 [(LI ws),(LI xs),(i6 (nums.getD 0 0)),(i6 (nums.getD 1 0))]),(.var 57 [(i6 0),(.fn (.func 52) [] []),(.fn (.func 53) [] [])])]⟩)
          (p := True∧True∧True∧callOb Try.prog 53 [(.var 61 [(LI ws),(LI xs),(i6 (nums.getD 0 0)),(i6 (nums.getD 1 0))]),(.var 57 [(i6 0),(.fn (.func 52) [] []),(.fn (.func 53) [] [])])] [(.agg [(LI ws),(LI xs),(i6 (nums.getD 0 0)),(i6 (nums.getD 1 0))])] none false (i6 (avF 1 ws xs (nums.getD 0 0) (nums.getD 1 0)))∧True∧True∧True) (by kernel_rfl)
          ⟨⟨⟩,⟨⟩,⟨⟩,(const_ok _ _ _ _ (by omega) (by assumption) (by omega) (by assumption)),⟨⟩,⟨⟩,⟨⟩⟩ ?_
        refine Ev.ret ?_
        refine ⟨⟨⟨⟩,⟨⟩,⟨⟩⟩,(?_ : (avF 1 ws xs (nums.getD 0 0) (nums.getD 1 0)) = (applyV 1 ws xs nums)∧(0 : Int) = (applyE 1 ws xs nums)∧True),.inr ⟨⟨⟩,⟨⟩,⟨⟩⟩⟩
        exact ⟨(ap_yes hx.1 hx.2 h hin).1.symm,(ap_yes hx.1 hx.2 h hin).2.symm,⟨⟩⟩

set_option maxRecDepth 100000 in
theorem Apply_2 (ws xs nums : List Int) (hwl : ws.length ≤ 9223372036854775807) (hxl : xs.length ≤ 9223372036854775807) : CallOk Try.prog 12 [(i6 2),(LI ws),(LI xs),(LI nums)] [] false (.tup [(i6 (applyV 2 ws xs nums)),(i6 (applyE 2 ws xs nums))]) [] := by
  refine CallOk.of_ev Try.func12 rfl rfl rfl ?_
  rintro ⟨_,W,S0,_,susp,_⟩ rfl rfl rfl
  refine Ev.seq ?_
  refine Ev.reg [] [0,1,2,3] (st' := ⟨[(0,(i6 2)),(1,(LI ws)),(2,(LI xs)),(3,(LI nums))],[]⟩)
    (p := True∧True∧True) (by kernel_rfl)
    ⟨⟨⟩,⟨⟩,⟨⟩⟩ ?_
  refine Ev.seq ?_
  refine Ev.seq ?_
  rcases (show nums.length ≠ 2 ∨ (nums.length = 2∧xs.length ≠ ws.length) ∨ (nums.length = 2∧xs.length = ws.length) from by omega) with hx | hx | hx
  · skip
    refine Ev.reg [(2,.val (dB true))] [0,1,2,3,25] (st' := ⟨[(0,(i6 2)),(1,(LI ws)),(2,(LI xs)),(3,(LI nums)),(25,(dB true))],[]⟩)
      (p := True∧True∧(True∧(((nums.length : Nat) : Int) != 2) = true)∧True∧True∧True∧True∧True∧True∧True∧True) (by kernel_rfl)
      ⟨⟨⟩,⟨⟩,⟨⟨⟩,(by exact bne_iff_ne.2 (by omega))⟩,⟨⟩,⟨⟩,⟨⟩,⟨⟩,⟨⟩,⟨⟩,⟨⟩,⟨⟩⟩ ?_
    refine Ev.cond true rfl (fun _ => ?_) (fun h => (by cases h))
    refine Ev.seq ?_
    refine Ev.reg [] [8,9] (st' := ⟨[(8,(i6 0)),(9,(i6 1))],[]⟩)
      (p := True∧True∧True) (by kernel_rfl)
      ⟨⟨⟩,⟨⟩,⟨⟩⟩ ?_
    refine Ev.ret ?_
    refine ⟨⟨⟨⟩,⟨⟩,⟨⟩⟩,(?_ : (0 : Int) = (applyV 2 ws xs nums)∧(1 : Int) = (applyE 2 ws xs nums)∧True),.inr ⟨⟨⟩,⟨⟩,⟨⟩⟩⟩
    exact ⟨(ap_no (ap_n hx)).1.symm,(ap_no (ap_n hx)).2.symm,⟨⟩⟩
  · skip
    refine Ev.reg [(2,.val (dB false)),(8,.val (dB true))] [0,1,2,3,25] (st' := ⟨[(0,(i6 2)),(1,(LI ws)),(2,(LI xs)),(3,(LI nums)),(25,(dB true))],[]⟩)
      (p := True∧True∧(True∧(((nums.length : Nat) : Int) != 2) = false)∧True∧True∧True∧True∧True∧(True∧(((xs.length : Nat) : Int) != ((ws.length : Nat) : Int)) = true)∧True∧True) (by kernel_rfl)
      ⟨⟨⟩,⟨⟩,⟨⟨⟩,(by rw [hx.1]; rfl)⟩,⟨⟩,⟨⟩,⟨⟩,⟨⟩,⟨⟩,⟨⟨⟩,(by exact bne_iff_ne.2 (by omega))⟩,⟨⟩,⟨⟩⟩ ?_
    refine Ev.cond true rfl (fun _ => ?_) (fun h => (by cases h))
    refine Ev.seq ?_
    refine Ev.reg [] [8,9] (st' := ⟨[(8,(i6 0)),(9,(i6 1))],[]⟩)
      (p := True∧True∧True) (by kernel_rfl)
      ⟨⟨⟩,⟨⟩,⟨⟩⟩ ?_
    refine Ev.ret ?_
    refine ⟨⟨⟨⟩,⟨⟩,⟨⟩⟩,(?_ : (0 : Int) = (applyV 2 ws xs nums)∧(1 : Int) = (applyE 2 ws xs nums)∧True),.inr ⟨⟨⟩,⟨⟩,⟨⟩⟩⟩
    exact ⟨(ap_no (ap_l hx.2)).1.symm,(ap_no (ap_l hx.2)).2.symm,⟨⟩⟩
  · skip
    refine Ev.reg [(2,.val (dB false)),(8,.val (dB false))] [0,1,2,3,25] (st' := ⟨[(0,(i6 2)),(1,(LI ws)),(2,(LI xs)),(3,(LI nums)),(25,(dB false))],[]⟩)
      (p := True∧True∧(True∧(((nums.length : Nat) : Int) != 2) = false)∧True∧True∧True∧True∧True∧(True∧(((xs.length : Nat) : Int) != ((ws.length : Nat) : Int)) = false)∧True∧True) (by kernel_rfl)
      ⟨⟨⟩,⟨⟩,⟨⟨⟩,(by rw [hx.1]; rfl)⟩,⟨⟩,⟨⟩,⟨⟩,⟨⟩,⟨⟩,⟨⟨⟩,(by rw [hx.2]; simp)⟩,⟨⟩,⟨⟩⟩ ?_
    refine Ev.cond false rfl (fun h => (by cases h)) (fun _ => ?_)
    refine Ev.skip ?_
    refine Ev.seq ?_
    refine Ev.draw 10 [false,false,false,false,false,false,false,false,false,false] [] [0,1,2,10] (st' := ⟨[(0,(i6 2)),(1,(LI ws)),(2,(LI xs)),(10,(.ptr 0 0 0 0))],[(.var 61 [(LI ws),(LI xs),(i6 (nums.getD 0 0)),(i6 (nums.getD 1 0))])]⟩)
      (p := (True∧True∧True∧(0 ≤ (0 : Int)∧0 < (nums.length : Int))∧True∧True∧(0 ≤ (1 : Int)∧1 < (nums.length : Int))∧True∧True∧True∧True)∧(True∧True)) (by kernel_rfl) (by kernel_rfl)
      ⟨⟨⟨⟩,⟨⟩,⟨⟩,(by first | omega | (simp; first | done | omega)),⟨⟩,⟨⟩,(by first | omega | (simp; first | done | omega)),⟨⟩,⟨⟩,⟨⟩,⟨⟩⟩,⟨⟨⟩,⟨⟩⟩⟩ ?_
    refine Ev.seq ?_
    rcases ok3 2 ws (nums.getD 0 0) (nums.getD 1 0) with ⟨hb,h⟩ | ⟨hb,hv,h⟩ | h
    · skip
      refine Ev.reg [(2,.call none true (.tup [(.agg [(i6 0),(.v .nilf),(.v .nilf)]),(i6 0),(dB false)]))] [1,2,10,11,13] (st' := ⟨[(1,(LI ws)),(2,(LI xs)),(10,(.ptr 0 0 0 0)),(11,(.ptr 1 0 0 0)),(13,(dB false))],[(.var 61 [(LI ws),(LI xs),(i6 (nums.getD 0 0)),(i6 (nums.getD 1 0))]),(.var 57 [(i6 0),(.v .nilf),(.v .nilf)])]⟩)
        (p := True∧True∧callOb Try.prog 27 [(.var 61 [(LI ws),(LI xs),(i6 (nums.getD 0 0)),(i6 (nums.getD 1 0))])] [(i6 2),(.agg [(LI ws),(LI xs),(i6 (nums.getD 0 0)),(i6 (nums.getD 1 0))])] none true (.tup [(.agg [(i6 0),(.v .nilf),(.v .nilf)]),(i6 0),(dB false)])∧True∧True∧True∧True∧True∧True∧True∧True∧True) (by kernel_rfl)
        ⟨⟨⟩,⟨⟩,(width_bad_2 _ _ _ _ hwl hb),⟨⟩,⟨⟩,⟨⟩,⟨⟩,⟨⟩,⟨⟩,⟨⟩,⟨⟩,⟨⟩⟩ ?_
      refine Ev.seq ?_
      refine Ev.seq ?_
      refine Ev.reg [] [1,2,10,11,43] (st' := ⟨[(1,(LI ws)),(2,(LI xs)),(10,(.ptr 0 0 0 0)),(11,(.ptr 1 0 0 0)),(43,(dB true))],[(.var 61 [(LI ws),(LI xs),(i6 (nums.getD 0 0)),(i6 (nums.getD 1 0))]),(.var 57 [(i6 0),(.v .nilf),(.v .nilf)])]⟩)
        (p := True∧True∧True) (by kernel_rfl)
        ⟨⟨⟩,⟨⟩,⟨⟩⟩ ?_
      refine Ev.cond true rfl (fun _ => ?_) (fun h => (by cases h))
      refine Ev.seq ?_
      refine Ev.reg [] [8,9] (st' := ⟨[(8,(i6 0)),(9,(i6 1))],[(.var 61 [(LI ws),(LI xs),(i6 (nums.getD 0 0)),(i6 (nums.getD 1 0))]),(.var 57 [(i6 0),(.v .nilf),(.v .nilf)])]⟩)
        (p := True∧True∧True) (by kernel_rfl)
        ⟨⟨⟩,⟨⟩,⟨⟩⟩ ?_
      refine Ev.ret ?_
      refine ⟨⟨⟨⟩,⟨⟩,⟨⟩⟩,(?_ : (0 : Int) = (applyV 2 ws xs nums)∧(1 : Int) = (applyE 2 ws xs nums)∧True),.inr ⟨⟨⟩,⟨⟩,⟨⟩⟩⟩
      exact ⟨(ap_no (ap_bad h)).1.symm,(ap_no (ap_bad h)).2.symm,⟨⟩⟩
    · skip
      refine Ev.reg [(2,.call none true (.tup [(.agg [(i6 1),(.fn (.func 40) [] []),(.fn (.func 41) [] [])]),(i6 (wvF 2 ws (nums.getD 0 0) (nums.getD 1 0))),(dB false)]))] [1,2,10,11,13] (st' := ⟨[(1,(LI ws)),(2,(LI xs)),(10,(.ptr 0 0 0 0)),(11,(.ptr 1 0 0 0)),(13,(dB false))],[(.var 61 [(LI ws),(LI xs),(i6 (nums.getD 0 0)),(i6 (nums.getD 1 0))]),(.var 57 [(i6 1),(.fn (.func 40) [] []),(.fn (.func 41) [] [])])]⟩)
        (p := True∧True∧callOb Try.prog 27 [(.var 61 [(LI ws),(LI xs),(i6 (nums.getD 0 0)),(i6 (nums.getD 1 0))])] [(i6 2),(.agg [(LI ws),(LI xs),(i6 (nums.getD 0 0)),(i6 (nums.getD 1 0))])] none true (.tup [(.agg [(i6 1),(.fn (.func 40) [] []),(.fn (.func 41) [] [])]),(i6 (wvF 2 ws (nums.getD 0 0) (nums.getD 1 0))),(dB false)])∧True∧True∧True∧True∧True∧True∧True∧True∧True) (by kernel_rfl)
        ⟨⟨⟩,⟨⟩,(width_wv_2 _ _ _ _ hwl hb hv),⟨⟩,⟨⟩,⟨⟩,⟨⟩,⟨⟩,⟨⟩,⟨⟩,⟨⟩,⟨⟩⟩ ?_
      refine Ev.seq ?_
      refine Ev.seq ?_
      refine Ev.reg [] [1,2,10,11,43] (st' := ⟨[(1,(LI ws)),(2,(LI xs)),(10,(.ptr 0 0 0 0)),(11,(.ptr 1 0 0 0)),(43,(dB true))],[(.var 61 [(LI ws),(LI xs),(i6 (nums.getD 0 0)),(i6 (nums.getD 1 0))]),(.var 57 [(i6 1),(.fn (.func 40) [] []),(.fn (.func 41) [] [])])]⟩)
        (p := True∧True∧True) (by kernel_rfl)
        ⟨⟨⟩,⟨⟩,⟨⟩⟩ ?_
      refine Ev.cond true rfl (fun _ => ?_) (fun h => (by cases h))
      refine Ev.seq ?_
      refine Ev.reg [] [8,9] (st' := ⟨[(8,(i6 0)),(9,(i6 1))],[(.var 61 [(LI ws),(LI xs),(i6 (nums.getD 0 0)),(i6 (nums.getD 1 0))]),(.var 57 [(i6 1),(.fn (.func 40) [] []),(.fn (.func 41) [] [])])]⟩)
        (p := True∧True∧True) (by kernel_rfl)
        ⟨⟨⟩,⟨⟩,⟨⟩⟩ ?_
      refine Ev.ret ?_
      refine ⟨⟨⟨⟩,⟨⟩,⟨⟩⟩,(?_ : (0 : Int) = (applyV 2 ws xs nums)∧(1 : Int) = (applyE 2 ws xs nums)∧True),.inr ⟨⟨⟩,⟨⟩,⟨⟩⟩⟩
      exact ⟨(ap_no (ap_bad h)).1.symm,(ap_no (ap_bad h)).2.symm,⟨⟩⟩
    · skip
      refine Ev.reg [(2,.call none true (.tup [(.agg [(i6 1),(.fn (.func 40) [] []),(.fn (.func 41) [] [])]),(i6 (wvF 2 ws (nums.getD 0 0) (nums.getD 1 0))),(dB true)]))] [1,2,10,11,13] (st' := ⟨[(1,(LI ws)),(2,(LI xs)),(10,(.ptr 0 0 0 0)),(11,(.ptr 1 0 0 0)),(13,(dB true))],[(.var 61 [(LI ws),(LI xs),(i6 (nums.getD 0 0)),(i6 (nums.getD 1 0))]),(.var 57 [(i6 1),(.fn (.func 40) [] []),(.fn (.func 41) [] [])])]⟩)
        (p := True∧True∧callOb Try.prog 27 [(.var 61 [(LI ws),(LI xs),(i6 (nums.getD 0 0)),(i6 (nums.getD 1 0))])] [(i6 2),(.agg [(LI ws),(LI xs),(i6 (nums.getD 0 0)),(i6 (nums.getD 1 0))])] none true (.tup [(.agg [(i6 1),(.fn (.func 40) [] []),(.fn (.func 41) [] [])]),(i6 (wvF 2 ws (nums.getD 0 0) (nums.getD 1 0))),(dB true)])∧True∧True∧True∧True∧True∧True∧True∧True∧True) (by kernel_rfl)
        ⟨⟨⟩,⟨⟩,(width_good_2 _ _ _ _ hwl h),⟨⟩,⟨⟩,⟨⟩,⟨⟩,⟨⟩,⟨⟩,⟨⟩,⟨⟩,⟨⟩⟩ ?_
      refine Ev.seq ?_
      refine Ev.seq ?_
      refine Ev.reg [] [1,2,10,11,43] (st' := ⟨[(1,(LI ws)),(2,(LI xs)),(10,(.ptr 0 0 0 0)),(11,(.ptr 1 0 0 0)),(43,(dB false))],[(.var 61 [(LI ws),(LI xs),(i6 (nums.getD 0 0)),(i6 (nums.getD 1 0))]),(.var 57 [(i6 1),(.fn (.func 40) [] []),(.fn (.func 41) [] [])])]⟩)
        (p := True∧True∧True) (by kernel_rfl)
        ⟨⟨⟩,⟨⟩,⟨⟩⟩ ?_
      refine Ev.cond false rfl (fun h => (by cases h)) (fun _ => ?_)
      refine Ev.skip ?_
      refine Ev.seq ?_
      refine Ev.seq ?_
      refine Ev.reg [] [1,10,11,44,45,46] (st' := ⟨[(1,(LI ws)),(10,(.ptr 0 0 0 0)),(11,(.ptr 1 0 0 0)),(44,(LI xs)),(45,(i6 ((xs.length : Nat) : Int))),(46,(i6 0))],[(.var 61 [(LI ws),(LI xs),(i6 (nums.getD 0 0)),(i6 (nums.getD 1 0))]),(.var 57 [(i6 1),(.fn (.func 40) [] []),(.fn (.func 41) [] [])])]⟩)
        (p := True∧True∧True∧True) (by kernel_rfl)
        ⟨⟨⟩,⟨⟩,⟨⟩,⟨⟩⟩ ?_
      refine Ev.block ?_
      refine Ev.loop [1,10,11,44,45,46] 2 (fun (i : Nat) => ⟨[(1,(LI ws)),(10,(.ptr 0 0 0 0)),(11,(.ptr 1 0 0 0)),(44,(LI xs)),(45,(i6 ((xs.length : Nat) : Int))),(46,(i6 ((i : Nat) : Int)))],[(.var 61 [(LI ws),(LI xs),(i6 (nums.getD 0 0)),(i6 (nums.getD 1 0))]),(.var 57 [(i6 1),(.fn (.func 40) [] []),(.fn (.func 41) [] [])])]⟩) (fun (i : Nat) => i ≤ xs.length∧∀ j,j < i → 0 ≤ xs.getD j 0∧xs.getD j 0 ≤ maskF (ws.getD j 0)) (fun (i : Nat) => xs.length - i) 0 (by kernel_rfl) (⟨by omega,fun j hj => by omega⟩) ?_
      rintro i hinv
      have hinv : i ≤ xs.length∧∀ j,j < i → 0 ≤ xs.getD j 0∧xs.getD j 0 ≤ maskF (ws.getD j 0) := hinv
      obtain ⟨hi,hall⟩ := hinv
      refine Ev.seq ?_
      refine Ev.reg [] [1,10,11,44,45,46,47] (st' := ⟨[(1,(LI ws)),(10,(.ptr 0 0 0 0)),(11,(.ptr 1 0 0 0)),(44,(LI xs)),(45,(i6 ((xs.length : Nat) : Int))),(46,(i6 ((i : Nat) : Int))),(47,(dB (decide (((i : Nat) : Int) < ((xs.length : Nat) : Int)))))],[(.var 61 [(LI ws),(LI xs),(i6 (nums.getD 0 0)),(i6 (nums.getD 1 0))]),(.var 57 [(i6 1),(.fn (.func 40) [] []),(.fn (.func 41) [] [])])]⟩)
        (p := True∧True) (by kernel_rfl)
        ⟨⟨⟩,⟨⟩⟩ ?_
      refine Ev.seq ?_
      refine Ev.cond _ rfl (fun hc47 => ?_) (fun hc47 => ?_)
      · try simp only [decide_eq_true_eq,decide_eq_false_iff_not,beq_iff_eq,bne_iff_ne,ne_eq,beq_eq_false_iff_ne,bne_eq_false_iff_eq,Bool.not_eq_true,Bool.not_eq_false,Bool.not_eq_true',Bool.not_eq_false',Bool.not_not,gt_iff_lt,ge_iff_le,Nat.not_lt,Int.not_lt,Int.not_le] at hc47
        refine Ev.skip ?_
        refine Ev.seq ?_
        refine Ev.block ?_
        refine Ev.seq ?_
        refine Ev.reg [] [1,10,11,14,15,44,45,46] (st' := ⟨[(1,(LI ws)),(10,(.ptr 0 0 0 0)),(11,(.ptr 1 0 0 0)),(14,(i6 ((i : Nat) : Int))),(15,(i6 (xs.getD i 0))),(44,(LI xs)),(45,(i6 ((xs.length : Nat) : Int))),(46,(i6 ((i : Nat) : Int)))],[(.var 61 [(LI ws),(LI xs),(i6 (nums.getD 0 0)),(i6 (nums.getD 1 0))]),(.var 57 [(i6 1),(.fn (.func 40) [] []),(.fn (.func 41) [] [])])]⟩)
          (p := True∧(0 ≤ ((i : Nat) : Int)∧((i : Nat) : Int) < (xs.length : Int))∧True∧True∧True∧True) (by kernel_rfl)
          ⟨⟨⟩,(by first | omega | (simp; first | done | omega)),⟨⟩,⟨⟩,⟨⟩,⟨⟩⟩ ?_
        refine Ev.seq ?_
        rcases Int.lt_or_le (xs.getD i 0) 0 with hn | hn
        · skip
          refine Ev.reg [(1,.val (dB true))] [1,10,11,44,45,46,61] (st' := ⟨[(1,(LI ws)),(10,(.ptr 0 0 0 0)),(11,(.ptr 1 0 0 0)),(44,(LI xs)),(45,(i6 ((xs.length : Nat) : Int))),(46,(i6 ((i : Nat) : Int))),(61,(dB true))],[(.var 61 [(LI ws),(LI xs),(i6 (nums.getD 0 0)),(i6 (nums.getD 1 0))]),(.var 57 [(i6 1),(.fn (.func 40) [] []),(.fn (.func 41) [] [])])]⟩)
            (p := True∧(True∧(decide ((xs.getD i 0) < 0)) = true)∧True∧True∧True∧True∧True∧True∧True∧True∧True∧True) (by kernel_rfl)
            ⟨⟨⟩,⟨⟨⟩,(by simpa using hn)⟩,⟨⟩,⟨⟩,⟨⟩,⟨⟩,⟨⟩,⟨⟩,⟨⟩,⟨⟩,⟨⟩,⟨⟩⟩ ?_
          refine Ev.cond true rfl (fun _ => ?_) (fun h => (by cases h))
          refine Ev.seq ?_
          refine Ev.reg [] [8,9] (st' := ⟨[(8,(i6 0)),(9,(i6 1))],[(.var 61 [(LI ws),(LI xs),(i6 (nums.getD 0 0)),(i6 (nums.getD 1 0))]),(.var 57 [(i6 1),(.fn (.func 40) [] []),(.fn (.func 41) [] [])])]⟩)
            (p := True∧True∧True) (by kernel_rfl)
            ⟨⟨⟩,⟨⟩,⟨⟩⟩ ?_
          refine Ev.ret ?_
          refine ⟨⟨⟨⟩,⟨⟩,⟨⟩⟩,(?_ : (0 : Int) = (applyV 2 ws xs nums)∧(1 : Int) = (applyE 2 ws xs nums)∧True),.inr ⟨⟨⟩,⟨⟩,⟨⟩⟩⟩
          exact ⟨(ap_no (ap_in (i := i) (by omega) (.inl hn))).1.symm,(ap_no (ap_in (i := i) (by omega) (.inl hn))).2.symm,⟨⟩⟩
        · skip
          refine Ev.reg [(1,.val (dB false)),(8,.call none false (i6 (maskF (ws.getD i 0))))] [1,10,11,44,45,46,61] (st' := ⟨[(1,(LI ws)),(10,(.ptr 0 0 0 0)),(11,(.ptr 1 0 0 0)),(44,(LI xs)),(45,(i6 ((xs.length : Nat) : Int))),(46,(i6 ((i : Nat) : Int))),(61,(dB (decide ((xs.getD i 0) > (maskF (ws.getD i 0))))))],[(.var 61 [(LI ws),(LI xs),(i6 (nums.getD 0 0)),(i6 (nums.getD 1 0))]),(.var 57 [(i6 1),(.fn (.func 40) [] []),(.fn (.func 41) [] [])])]⟩)
            (p := True∧(True∧(decide ((xs.getD i 0) < 0)) = false)∧True∧True∧True∧True∧(0 ≤ ((i : Nat) : Int)∧((i : Nat) : Int) < (ws.length : Int))∧True∧callOb Try.prog 14 [(.var 61 [(LI ws),(LI xs),(i6 (nums.getD 0 0)),(i6 (nums.getD 1 0))]),(.var 57 [(i6 1),(.fn (.func 40) [] []),(.fn (.func 41) [] [])])] [(i6 (ws.getD i 0))] none false (i6 (maskF (ws.getD i 0)))∧True∧True∧True) (by kernel_rfl)
            ⟨⟨⟩,⟨⟨⟩,(by simpa using hn)⟩,⟨⟩,⟨⟩,⟨⟩,⟨⟩,(by first | omega | (simp; first | done | omega)),⟨⟩,(mask_ok _),⟨⟩,⟨⟩,⟨⟩⟩ ?_
          refine Ev.cond _ rfl (fun hc61 => ?_) (fun hc61 => ?_)
          · try simp only [decide_eq_true_eq,decide_eq_false_iff_not,beq_iff_eq,bne_iff_ne,ne_eq,beq_eq_false_iff_ne,bne_eq_false_iff_eq,Bool.not_eq_true,Bool.not_eq_false,Bool.not_eq_true',Bool.not_eq_false',Bool.not_not,gt_iff_lt,ge_iff_le,Nat.not_lt,Int.not_lt,Int.not_le] at hc61
            refine Ev.seq ?_
            refine Ev.reg [] [8,9] (st' := ⟨[(8,(i6 0)),(9,(i6 1))],[(.var 61 [(LI ws),(LI xs),(i6 (nums.getD 0 0)),(i6 (nums.getD 1 0))]),(.var 57 [(i6 1),(.fn (.func 40) [] []),(.fn (.func 41) [] [])])]⟩)
              (p := True∧True∧True) (by kernel_rfl)
              ⟨⟨⟩,⟨⟩,⟨⟩⟩ ?_
            refine Ev.ret ?_
            refine ⟨⟨⟨⟩,⟨⟩,⟨⟩⟩,(?_ : (0 : Int) = (applyV 2 ws xs nums)∧(1 : Int) = (applyE 2 ws xs nums)∧True),.inr ⟨⟨⟩,⟨⟩,⟨⟩⟩⟩
            exact ⟨(ap_no (ap_in (i := i) (by omega) (.inr (by omega)))).1.symm,(ap_no (ap_in (i := i) (by omega) (.inr (by omega)))).2.symm,⟨⟩⟩
          · try simp only [decide_eq_true_eq,decide_eq_false_iff_not,beq_iff_eq,bne_iff_ne,ne_eq,beq_eq_false_iff_ne,bne_eq_false_iff_eq,Bool.not_eq_true,Bool.not_eq_false,Bool.not_eq_true',Bool.not_eq_false',Bool.not_not,gt_iff_lt,ge_iff_le,Nat.not_lt,Int.not_lt,Int.not_le] at hc61
            refine Ev.skip ?_
            refine Ev.reg [(0,.val (i6 ((i + 1 : Nat) : Int)))] [1,10,11,44,45,46] (st' := ⟨[(1,(LI ws)),(10,(.ptr 0 0 0 0)),(11,(.ptr 1 0 0 0)),(44,(LI xs)),(45,(i6 ((xs.length : Nat) : Int))),(46,(i6 ((i + 1 : Nat) : Int)))],[(.var 61 [(LI ws),(LI xs),(i6 (nums.getD 0 0)),(i6 (nums.getD 1 0))]),(.var 57 [(i6 1),(.fn (.func 40) [] []),(.fn (.func 41) [] [])])]⟩)
              (p := (True∧(IntKind.wrap .i64 (((i : Nat) : Int) + 1)) = ((i + 1 : Nat) : Int))∧True∧True) (by kernel_rfl)
              ⟨⟨⟨⟩,(w64n (by first | rfl | simp | omega) (by first | omega | (simp; first | done | omega)))⟩,⟨⟩,⟨⟩⟩ ?_
            refine ⟨i + 1,by kernel_rfl,(?_ : (i + 1) ≤ xs.length∧∀ j,j < (i + 1) → 0 ≤ xs.getD j 0∧xs.getD j 0 ≤ maskF (ws.getD j 0)),(?_ : xs.length - (i + 1) < xs.length - i)⟩
            · exact ⟨by omega,lt_more hall ⟨by omega,by omega⟩⟩
            · omega
      · try simp only [decide_eq_true_eq,decide_eq_false_iff_not,beq_iff_eq,bne_iff_ne,ne_eq,beq_eq_false_iff_ne,bne_eq_false_iff_eq,Bool.not_eq_true,Bool.not_eq_false,Bool.not_eq_true',Bool.not_eq_false',Bool.not_not,gt_iff_lt,ge_iff_le,Nat.not_lt,Int.not_lt,Int.not_le] at hc47
        refine Ev.exit ?_
        refine Ev.seq ?_
        have hin : inF ws xs = true := in_all (fun j hj => hall j (by omega))
        obtain ⟨hl0,hf,-⟩ := ok_yes h
        have hA : arityF 2 = 1 := by decide
        rw [hA] at hl0
        refine Ev.reg [(3,.call none false (i6 (avF 2 ws xs (nums.getD 0 0) (nums.getD 1 0))))] [8,9] (st' := ⟨[(8,(i6 (avF 2 ws xs (nums.getD 0 0) (nums.getD 1 0)))),(9,(i6 0))],[(.var 61 [(LI ws),(LI xs),(i6 (nums.getD 0 0)),(i6 (nums.getD 1 0))]),(.var 57 [(i6 1),(.fn (.func 40) [] []),(.fn (.func 41) [] [])])]⟩)
          (p := True∧True∧True∧callOb Try.prog 41 [(.var 61 [(LI ws),(LI xs),(i6 (nums.getD 0 0)),(i6 (nums.getD 1 0))]),(.var 57 [(i6 1),(.fn (.func 40) [] []),(.fn (.func 41) [] [])])] [(.agg [(LI ws),(LI xs),(i6 (nums.getD 0 0)),(i6 (nums.getD 1 0))])] none false (i6 (avF 2 ws xs (nums.getD 0 0) (nums.getD 1 0)))∧True∧True∧True) (by kernel_rfl)
          ⟨⟨⟩,⟨⟩,⟨⟩,(not_ok _ _ _ _ (by omega) (by assumption) (by omega) (by assumption)),⟨⟩,⟨⟩,⟨⟩⟩ ?_
        refine Ev.ret ?_
        refine ⟨⟨⟨⟩,⟨⟩,⟨⟩⟩,(?_ : (avF 2 ws xs (nums.getD 0 0) (nums.getD 1 0)) = (applyV 2 ws xs nums)∧(0 : Int) = (applyE 2 ws xs nums)∧True),.inr ⟨⟨⟩,⟨⟩,⟨⟩⟩⟩
        exact ⟨(ap_yes hx.1 hx.2 h hin).1.symm,(ap_yes hx.1 hx.2 h hin).2.symm,⟨⟩⟩

set_option maxRecDepth 100000 in
theorem Apply_3 (ws xs nums : List Int) (hwl : ws.length ≤ 9223372036854775807) (hxl : xs.length ≤ 9223372036854775807) : CallOk Try.prog 12 [(i6 3),(LI ws),(LI xs),(LI nums)] [] false (.tup [(i6 (applyV 3 ws xs nums)),(i6 (applyE 3 ws xs nums))]) [] := by
  refine CallOk.of_ev Try.func12 rfl rfl rfl ?_
  rintro ⟨_,W,S0,_,susp,_⟩ rfl rfl rfl
  refine Ev.seq ?_
  refine Ev.reg [] [0,1,2,3] (st' := ⟨[(0,(i6 3)),(1,(LI ws)),(2,(LI xs)),(3,(LI nums))],[]⟩)
    (p := True∧True∧True) (by kernel_rfl)
    ⟨⟨⟩,⟨⟩,⟨⟩⟩ ?_
  refine Ev.seq ?_
  refine Ev.seq ?_
  rcases (show nums.length ≠ 2 ∨ (nums.length = 2∧xs.length ≠ ws.length) ∨ (nums.length = 2∧xs.length = ws.length) from by omega) with hx | hx | hx
  · skip
    refine Ev.reg [(2,.val (dB true))] [0,1,2,3,25] (st' := ⟨[(0,(i6 3)),(1,(LI ws)),(2,(LI xs)),(3,(LI nums)),(25,(dB true))],[]⟩)
      (p := True∧True∧(True∧(((nums.length : Nat) : Int) != 2) = true)∧True∧True∧True∧True∧True∧True∧True∧True) (by kernel_rfl)
      ⟨⟨⟩,⟨⟩,⟨⟨⟩,(by exact bne_iff_ne.2 (by omega))⟩,⟨⟩,⟨⟩,⟨⟩,⟨⟩,⟨⟩,⟨⟩,⟨⟩,⟨⟩⟩ ?_
    refine Ev.cond true rfl (fun _ => ?_) (fun h => (by cases h))
    refine Ev.seq ?_
    refine Ev.reg [] [8,9] (st' := ⟨[(8,(i6 0)),(9,(i6 1))],[]⟩)
      (p := True∧True∧True) (by kernel_rfl)
      ⟨⟨⟩,⟨⟩,⟨⟩⟩ ?_
    refine Ev.ret ?_
    refine ⟨⟨⟨⟩,⟨⟩,⟨⟩⟩,(?_ : (0 : Int) = (applyV 3 ws xs nums)∧(1 : Int) = (applyE 3 ws xs nums)∧True),.inr ⟨⟨⟩,⟨⟩,⟨⟩⟩⟩
    exact ⟨(ap_no (ap_n hx)).1.symm,(ap_no (ap_n hx)).2.symm,⟨⟩⟩
  · skip
    refine Ev.reg [(2,.val (dB false)),(8,.val (dB true))] [0,1,2,3,25] (st' := ⟨[(0,(i6 3)),(1,(LI ws)),(2,(LI xs)),(3,(LI nums)),(25,(dB true))],[]⟩)
      (p := True∧True∧(True∧(((nums.length : Nat) : Int) != 2) = false)∧True∧True∧True∧True∧True∧(True∧(((xs.length : Nat) : Int) != ((ws.length : Nat) : Int)) = true)∧True∧True) (by kernel_rfl)
      ⟨⟨⟩,⟨⟩,⟨⟨⟩,(by rw [hx.1]; rfl)⟩,⟨⟩,⟨⟩,⟨⟩,⟨⟩,⟨⟩,⟨⟨⟩,(by exact bne_iff_ne.2 (by omega))⟩,⟨⟩,⟨⟩⟩ ?_
    refine Ev.cond true rfl (fun _ => ?_) (fun h => (by cases h))
    refine Ev.seq ?_
    refine Ev.reg [] [8,9] (st' := ⟨[(8,(i6 0)),(9,(i6 1))],[]⟩)
      (p := True∧True∧True) (by kernel_rfl)
      ⟨⟨⟩,⟨⟩,⟨⟩⟩ ?_
    refine Ev.ret ?_
    refine ⟨⟨⟨⟩,⟨⟩,⟨⟩⟩,(?_ : (0 : Int) = (applyV 3 ws xs nums)∧(1 : Int) = (applyE 3 ws xs nums)∧True),.inr ⟨⟨⟩,⟨⟩,⟨⟩⟩⟩
    exact ⟨(ap_no (ap_l hx.2)).1.symm,(ap_no (ap_l hx.2)).2.symm,⟨⟩⟩
  · skip
    refine Ev.reg [(2,.val (dB false)),(8,.val (dB false))] [0,1,2,3,25] (st' := ⟨[(0,(i6 3)),(1,(LI ws)),(2,(LI xs)),(3,(LI nums)),(25,(dB false))],[]⟩)
      (p := True∧True∧(True∧(((nums.length : Nat) : Int) != 2) = false)∧True∧True∧True∧True∧True∧(True∧(((xs.length : Nat) : Int) != ((ws.length : Nat) : Int)) = false)∧True∧True) (by kernel_rfl)
      ⟨⟨⟩,⟨⟩,⟨⟨⟩,(by rw [hx.1]; rfl)⟩,⟨⟩,⟨⟩,⟨⟩,⟨⟩,⟨⟩,⟨⟨⟩,(by rw [hx.2]; simp)⟩,⟨⟩,⟨⟩⟩ ?_
    refine Ev.cond false rfl (fun h => (by cases h)) (fun _ => ?_)
    refine Ev.skip ?_
    refine Ev.seq ?_
    refine Ev.draw 10 [false,false,false,false,false,false,false,false,false,false] [] [0,1,2,10] (st' := ⟨[(0,(i6 3)),(1,(LI ws)),(2,(LI xs)),(10,(.ptr 0 0 0 0))],[(.var 61 [(LI ws),(LI xs),(i6 (nums.getD 0 0)),(i6 (nums.getD 1 0))])]⟩)
      (p := (True∧True∧True∧(0 ≤ (0 : Int)∧0 < (nums.length : Int))∧True∧True∧(0 ≤ (1 : Int)∧1 < (nums.length : Int))∧True∧True∧True∧True)∧(True∧True)) (by kernel_rfl) (by kernel_rfl)
      ⟨⟨⟨⟩,⟨⟩,⟨⟩,(by first | omega | (simp; first | done | omega)),⟨⟩,⟨⟩,(by first | omega | (simp; first | done | omega)),⟨⟩,⟨⟩,⟨⟩,⟨⟩⟩,⟨⟨⟩,⟨⟩⟩⟩ ?_
    refine Ev.seq ?_
    rcases ok3 3 ws (nums.getD 0 0) (nums.getD 1 0) with ⟨hb,h⟩ | ⟨hb,hv,h⟩ | h
    · skip
      refine Ev.reg [(2,.call none true (.tup [(.agg [(i6 0),(.v .nilf),(.v .nilf)]),(i6 0),(dB false)]))] [1,2,10,11,13] (st' := ⟨[(1,(LI ws)),(2,(LI xs)),(10,(.ptr 0 0 0 0)),(11,(.ptr 1 0 0 0)),(13,(dB false))],[(.var 61 [(LI ws),(LI xs),(i6 (nums.getD 0 0)),(i6 (nums.getD 1 0))]),(.var 57 [(i6 0),(.v .nilf),(.v .nilf)])]⟩)
        (p := True∧True∧callOb Try.prog 27 [(.var 61 [(LI ws),(LI xs),(i6 (nums.getD 0 0)),(i6 (nums.getD 1 0))])] [(i6 3),(.agg [(LI ws),(LI xs),(i6 (nums.getD 0 0)),(i6 (nums.getD 1 0))])] none true (.tup [(.agg [(i6 0),(.v .nilf),(.v .nilf)]),(i6 0),(dB false)])∧True∧True∧True∧True∧True∧True∧True∧True∧True) (by kernel_rfl)
        ⟨⟨⟩,⟨⟩,(width_bad_3 _ _ _ _ hwl hb),⟨⟩,⟨⟩,⟨⟩,⟨⟩,⟨⟩,⟨⟩,⟨⟩,⟨⟩,⟨⟩⟩ ?_
      refine Ev.seq ?_
      refine Ev.seq ?_
      refine Ev.reg [] [1,2,10,11,43] (st' := ⟨[(1,(LI ws)),(2,(LI xs)),(10,(.ptr 0 0 0 0)),(11,(.ptr 1 0 0 0)),(43,(dB true))],[(.var 61 [(LI ws),(LI xs),(i6 (nums.getD 0 0)),(i6 (nums.getD 1 0))]),(.var 57 [(i6 0),(.v .nilf),(.v .nilf)])]⟩)
        (p := True∧True∧True) (by kernel_rfl)
        ⟨⟨⟩,⟨⟩,⟨⟩⟩ ?_
      refine Ev.cond true rfl (fun _ => ?_) (fun h => (by cases h))
      refine Ev.seq ?_
      refine Ev.reg [] [8,9] (st' := ⟨[(8,(i6 0)),(9,(i6 1))],[(.var 61 [(LI ws),(LI xs),(i6 (nums.getD 0 0)),(i6 (nums.getD 1 0))]),(.var 57 [(i6 0),(.v .nilf),(.v .nilf)])]⟩)
        (p := True∧True∧True) (by kernel_rfl)
        ⟨⟨⟩,⟨⟩,⟨⟩⟩ ?_
      refine Ev.ret ?_
      refine ⟨⟨⟨⟩,⟨⟩,⟨⟩⟩,(?_ : (0 : Int) = (applyV 3 ws xs nums)∧(1 : Int) = (applyE 3 ws xs nums)∧True),.inr ⟨⟨⟩,⟨⟩,⟨⟩⟩⟩
      exact ⟨(ap_no (ap_bad h)).1.symm,(ap_no (ap_bad h)).2.symm,⟨⟩⟩
    · skip
      refine Ev.reg [(2,.call none true (.tup [(.agg [(i6 2),(.fn (.func 43) [] []),(.fn (.func 44) [] [])]),(i6 (wvF 3 ws (nums.getD 0 0) (nums.getD 1 0))),(dB false)]))] [1,2,10,11,13] (st' := ⟨[(1,(LI ws)),(2,(LI xs)),(10,(.ptr 0 0 0 0)),(11,(.ptr 1 0 0 0)),(13,(dB false))],[(.var 61 [(LI ws),(LI xs),(i6 (nums.getD 0 0)),(i6 (nums.getD 1 0))]),(.var 57 [(i6 2),(.fn (.func 43) [] []),(.fn (.func 44) [] [])])]⟩)
        (p := True∧True∧callOb Try.prog 27 [(.var 61 [(LI ws),(LI xs),(i6 (nums.getD 0 0)),(i6 (nums.getD 1 0))])] [(i6 3),(.agg [(LI ws),(LI xs),(i6 (nums.getD 0 0)),(i6 (nums.getD 1 0))])] none true (.tup [(.agg [(i6 2),(.fn (.func 43) [] []),(.fn (.func 44) [] [])]),(i6 (wvF 3 ws (nums.getD 0 0) (nums.getD 1 0))),(dB false)])∧True∧True∧True∧True∧True∧True∧True∧True∧True) (by kernel_rfl)
        ⟨⟨⟩,⟨⟩,(width_wv_3 _ _ _ _ hwl hb hv),⟨⟩,⟨⟩,⟨⟩,⟨⟩,⟨⟩,⟨⟩,⟨⟩,⟨⟩,⟨⟩⟩ ?_
      refine Ev.seq ?_
      refine Ev.seq ?_
      refine Ev.reg [] [1,2,10,11,43] (st' := ⟨[(1,(LI ws)),(2,(LI xs)),(10,(.ptr 0 0 0 0)),(11,(.ptr 1 0 0 0)),(43,(dB true))],[(.var 61 [(LI ws),(LI xs),(i6 (nums.getD 0 0)),(i6 (nums.getD 1 0))]),(.var 57 [(i6 2),(.fn (.func 43) [] []),(.fn (.func 44) [] [])])]⟩)
        (p := True∧True∧True) (by kernel_rfl)
        ⟨⟨⟩,⟨⟩,⟨⟩⟩ ?_
      refine Ev.cond true rfl (fun _ => ?_) (fun h => (by cases h))
      refine Ev.seq ?_
      refine Ev.reg [] [8,9] (st' := ⟨[(8,(i6 0)),(9,(i6 1))],[(.var 61 [(LI ws),(LI xs),(i6 (nums.getD 0 0)),(i6 (nums.getD 1 0))]),(.var 57 [(i6 2),(.fn (.func 43) [] []),(.fn (.func 44) [] [])])]⟩)
        (p := True∧True∧True) (by kernel_rfl)
        ⟨⟨⟩,⟨⟩,⟨⟩⟩ ?_
      refine Ev.ret ?_
      refine ⟨⟨⟨⟩,⟨⟩,⟨⟩⟩,(?_ : (0 : Int) = (applyV 3 ws xs nums)∧(1 : Int) = (applyE 3 ws xs nums)∧True),.inr ⟨⟨⟩,⟨⟩,⟨⟩⟩⟩
      exact ⟨(ap_no (ap_bad h)).1.symm,(ap_no (ap_bad h)).2.symm,⟨⟩⟩
    · skip
      refine Ev.reg [(2,.call none true (.tup [(.agg [(i6 2),(.fn (.func 43) [] []),(.fn (.func 44) [] [])]),(i6 (wvF 3 ws (nums.getD 0 0) (nums.getD 1 0))),(dB true)]))] [1,2,10,11,13] (st' := ⟨[(1,(LI ws)),(2,(LI xs)),(10,(.ptr 0 0 0 0)),(11,(.ptr 1 0 0 0)),(13,(dB true))],[(.var 61 [(LI ws),(LI xs),(i6 (nums.getD 0 0)),(i6 (nums.getD 1 0))]),(.var 57 [(i6 2),(.fn (.func 43) [] []),(.fn (.func 44) [] [])])]⟩)
        (p := True∧True∧callOb Try.prog 27 [(.var 61 [(LI ws),(LI xs),(i6 (nums.getD 0 0)),(i6 (nums.getD 1 0))])] [(i6 3),(.agg [(LI ws),(LI xs),(i6 (nums.getD 0 0)),(i6 (nums.getD 1 0))])] none true (.tup [(.agg [(i6 2),(.fn (.func 43) [] []),(.fn (.func 44) [] [])]),(i6 (wvF 3 ws (nums.getD 0 0) (nums.getD 1 0))),(dB true)])∧True∧True∧True∧True∧True∧True∧True∧True∧True) (by kernel_rfl)
        ⟨⟨⟩,⟨⟩,(width_good_3 _ _ _ _ hwl h),⟨⟩,⟨⟩,⟨⟩,⟨⟩,⟨⟩,⟨⟩,⟨⟩,⟨⟩,⟨⟩⟩ ?_
      refine Ev.seq ?_
      refine Ev.seq ?_
      refine Ev.reg [] [1,2,10,11,43] (st' := ⟨[(1,(LI ws)),(2,(LI xs)),(10,(.ptr 0 0 0 0)),(11,(.ptr 1 0 0 0)),(43,(dB false))],[(.var 61 [(LI ws),(LI xs),(i6 (nums.getD 0 0)),(i6 (nums.getD 1 0))]),(.var 57 [(i6 2),(.fn (.func 43) [] []),(.fn (.func 44) [] [])])]⟩)
        (p := True∧True∧True) (by kernel_rfl)
        ⟨⟨⟩,⟨⟩,⟨⟩⟩ ?_
      refine Ev.cond false rfl (fun h => (by cases h)) (fun _ => ?_)
      refine Ev.skip ?_
      refine Ev.seq ?_
      refine Ev.seq ?_
      refine Ev.reg [] [1,10,11,44,45,46] (st' := ⟨[(1,(LI ws)),(10,(.ptr 0 0 0 0)),(11,(.ptr 1 0 0 0)),(44,(LI xs)),(45,(i6 ((xs.length : Nat) : Int))),(46,(i6 0))],[(.var 61 [(LI ws),(LI xs),(i6 (nums.getD 0 0)),(i6 (nums.getD 1 0))]),(.var 57 [(i6 2),(.fn (.func 43) [] []),(.fn (.func 44) [] [])])]⟩)
        (p := True∧True∧True∧True) (by kernel_rfl)
        ⟨⟨⟩,⟨⟩,⟨⟩,⟨⟩⟩ ?_
      refine Ev.block ?_
      refine Ev.loop [1,10,11,44,45,46] 2 (fun (i : Nat) => ⟨[(1,(LI ws)),(10,(.ptr 0 0 0 0)),(11,(.ptr 1 0 0 0)),(44,(LI xs)),(45,(i6 ((xs.length : Nat) : Int))),(46,(i6 ((i : Nat) : Int)))],[(.var 61 [(LI ws),(LI xs),(i6 (nums.getD 0 0)),(i6 (nums.getD 1 0))]),(.var 57 [(i6 2),(.fn (.func 43) [] []),(.fn (.func 44) [] [])])]⟩) (fun (i : Nat) => i ≤ xs.length∧∀ j,j < i → 0 ≤ xs.getD j 0∧xs.getD j 0 ≤ maskF (ws.getD j 0)) (fun (i : Nat) => xs.length - i) 0 (by kernel_rfl) (⟨by omega,fun j hj => by omega⟩) ?_
      rintro i hinv
      have hinv : i ≤ xs.length∧∀ j,j < i → 0 ≤ xs.getD j 0∧xs.getD j 0 ≤ maskF (ws.getD j 0) := hinv
      obtain ⟨hi,hall⟩ := hinv
      refine Ev.seq ?_
      refine Ev.reg [] [1,10,11,44,45,46,47] (st' := ⟨[(1,(LI ws)),(10,(.ptr 0 0 0 0)),(11,(.ptr 1 0 0 0)),(44,(LI xs)),(45,(i6 ((xs.length : Nat) : Int))),(46,(i6 ((i : Nat) : Int))),(47,(dB (decide (((i : Nat) : Int) < ((xs.length : Nat) : Int)))))],[(.var 61 [(LI ws),(LI xs),(i6 (nums.getD 0 0)),(i6 (nums.getD 1 0))]),(.var 57 [(i6 2),(.fn (.func 43) [] []),(.fn (.func 44) [] [])])]⟩)
        (p := True∧True) (by kernel_rfl)
        ⟨⟨⟩,⟨⟩⟩ ?_
      refine Ev.seq ?_
      refine Ev.cond _ rfl (fun hc47 => ?_) (fun hc47 => ?_)
      · try simp only [decide_eq_true_eq,decide_eq_false_iff_not,beq_iff_eq,bne_iff_ne,ne_eq,beq_eq_false_iff_ne,bne_eq_false_iff_eq,Bool.not_eq_true,Bool.not_eq_false,Bool.not_eq_true',Bool.not_eq_false',Bool.not_not,gt_iff_lt,ge_iff_le,Nat.not_lt,Int.not_lt,Int.not_le] at hc47
        refine Ev.skip ?_
        refine Ev.seq ?_
        refine Ev.block ?_
        refine Ev.seq ?_
        refine Ev.reg [] [1,10,11,14,15,44,45,46] (st' := ⟨[(1,(LI ws)),(10,(.ptr 0 0 0 0)),(11,(.ptr 1 0 0 0)),(14,(i6 ((i : Nat) : Int))),(15,(i6 (xs.getD i 0))),(44,(LI xs)),(45,(i6 ((xs.length : Nat) : Int))),(46,(i6 ((i : Nat) : Int)))],[(.var 61 [(LI ws),(LI xs),(i6 (nums.getD 0 0)),(i6 (nums.getD 1 0))]),(.var 57 [(i6 2),(.fn (.func 43) [] []),(.fn (.func 44) [] [])])]⟩)
          (p := True∧(0 ≤ ((i : Nat) : Int)∧((i : Nat) : Int) < (xs.length : Int))∧True∧True∧True∧True) (by kernel_rfl)
          ⟨⟨⟩,(by first | omega | (simp; first | done | omega)),⟨⟩,⟨⟩,⟨⟩,⟨⟩⟩ ?_
        refine Ev.seq ?_
        rcases Int.lt_or_le (xs.getD i 0) 0 with hn | hn
        · skip
          refine Ev.reg [(1,.val (dB true))] [1,10,11,44,45,46,61] (st' := ⟨[(1,(LI ws)),(10,(.ptr 0 0 0 0)),(11,(.ptr 1 0 0 0)),(44,(LI xs)),(45,(i6 ((xs.length : Nat) : Int))),(46,(i6 ((i : Nat) : Int))),(61,(dB true))],[(.var 61 [(LI ws),(LI xs),(i6 (nums.getD 0 0)),(i6 (nums.getD 1 0))]),(.var 57 [(i6 2),(.fn (.func 43) [] []),(.fn (.func 44) [] [])])]⟩)
            (p := True∧(True∧(decide ((xs.getD i 0) < 0)) = true)∧True∧True∧True∧True∧True∧True∧True∧True∧True∧True) (by kernel_rfl)
            ⟨⟨⟩,⟨⟨⟩,(by simpa using hn)⟩,⟨⟩,⟨⟩,⟨⟩,⟨⟩,⟨⟩,⟨⟩,⟨⟩,⟨⟩,⟨⟩,⟨⟩⟩ ?_
          refine Ev.cond true rfl (fun _ => ?_) (fun h => (by cases h))
          refine Ev.seq ?_
          refine Ev.reg [] [8,9] (st' := ⟨[(8,(i6 0)),(9,(i6 1))],[(.var 61 [(LI ws),(LI xs),(i6 (nums.getD 0 0)),(i6 (nums.getD 1 0))]),(.var 57 [(i6 2),(.fn (.func 43) [] []),(.fn (.func 44) [] [])])]⟩)
            (p := True∧True∧True) (by kernel_rfl)
            ⟨⟨⟩,⟨⟩,⟨⟩⟩ ?_
          refine Ev.ret ?_
          refine ⟨⟨⟨⟩,⟨⟩,⟨⟩⟩,(?_ : (0 : Int) = (applyV 3 ws xs nums)∧(1 : Int) = (applyE 3 ws xs nums)∧True),.inr ⟨⟨⟩,⟨⟩,⟨⟩⟩⟩
          exact ⟨(ap_no (ap_in (i := i) (by omega) (.inl hn))).1.symm,(ap_no (ap_in (i := i) (by omega) (.inl hn))).2.symm,⟨⟩⟩
        · skip
          refine Ev.reg [(1,.val (dB false)),(8,.call none false (i6 (maskF (ws.getD i 0))))] [1,10,11,44,45,46,61] (st' := ⟨[(1,(LI ws)),(10,(.ptr 0 0 0 0)),(11,(.ptr 1 0 0 0)),(44,(LI xs)),(45,(i6 ((xs.length : Nat) : Int))),(46,(i6 ((i : Nat) : Int))),(61,(dB (decide ((xs.getD i 0) > (maskF (ws.getD i 0))))))],[(.var 61 [(LI ws),(LI xs),(i6 (nums.getD 0 0)),(i6 (nums.getD 1 0))]),(.var 57 [(i6 2),(.fn (.func 43) [] []),(.fn (.func 44) [] [])])]⟩)
            (p := True∧(True∧(decide ((xs.getD i 0) < 0)) = false)∧True∧True∧True∧True∧(0 ≤ ((i : Nat) : Int)∧((i : Nat) : Int) < (ws.length : Int))∧True∧callOb Try.prog 14 [(.var 61 [(LI ws),(LI xs),(i6 (nums.getD 0 0)),(i6 (nums.getD 1 0))]),(.var 57 [(i6 2),(.fn (.func 43) [] []),(.fn (.func 44) [] [])])] [(i6 (ws.getD i 0))] none false (i6 (maskF (ws.getD i 0)))∧True∧True∧True) (by kernel_rfl)
            ⟨⟨⟩,⟨⟨⟩,(by simpa using hn)⟩,⟨⟩,⟨⟩,⟨⟩,⟨⟩,(by first | omega | (simp; first | done | omega)),⟨⟩,(mask_ok _),⟨⟩,⟨⟩,⟨⟩⟩ ?_
          refine Ev.cond _ rfl (fun hc61 => ?_) (fun hc61 => ?_)
          · try simp only [decide_eq_true_eq,decide_eq_false_iff_not,beq_iff_eq,bne_iff_ne,ne_eq,beq_eq_false_iff_ne,bne_eq_false_iff_eq,Bool.not_eq_true,Bool.not_eq_false,Bool.not_eq_true',Bool.not_eq_false',Bool.not_not,gt_iff_lt,ge_iff_le,Nat.not_lt,Int.not_lt,Int.not_le] at hc61
            refine Ev.seq ?_
            refine Ev.reg [] [8,9] (st' := ⟨[(8,(i6 0)),(9,(i6 1))],[(.var 61 [(LI ws),(LI xs),(i6 (nums.getD 0 0)),(i6 (nums.getD 1 0))]),(.var 57 [(i6 2),(.fn (.func 43) [] []),(.fn (.func 44) [] [])])]⟩)
              (p := True∧True∧True) (by kernel_rfl)
              ⟨⟨⟩,⟨⟩,⟨⟩⟩ ?_
            refine Ev.ret ?_
            refine ⟨⟨⟨⟩,⟨⟩,⟨⟩⟩,(?_ : (0 : Int) = (applyV 3 ws xs nums)∧(1 : Int) = (applyE 3 ws xs nums)∧True),.inr ⟨⟨⟩,⟨⟩,⟨⟩⟩⟩
            exact ⟨(ap_no (ap_in (i := i) (by omega) (.inr (by omega)))).1.symm,(ap_no (ap_in (i := i) (by omega) (.inr (by omega)))).2.symm,⟨⟩⟩
          · try simp only [decide_eq_true_eq,decide_eq_false_iff_not,beq_iff_eq,bne_iff_ne,ne_eq,beq_eq_false_iff_ne,bne_eq_false_iff_eq,Bool.not_eq_true,Bool.not_eq_false,Bool.not_eq_true',Bool.not_eq_false',Bool.not_not,gt_iff_lt,ge_iff_le,Nat.not_lt,Int.not_lt,Int.not_le] at hc61
            refine Ev.skip ?_
            refine Ev.reg [(0,.val (i6 ((i + 1 : Nat) : Int)))] [1,10,11,44,45,46] (st' := ⟨[(1,(LI ws)),(10,(.ptr 0 0 0 0)),(11,(.ptr 1 0 0 0)),(44,(LI xs)),(45,(i6 ((xs.length : Nat) : Int))),(46,(i6 ((i + 1 : Nat) : Int)))],[(.var 61 [(LI ws),(LI xs),(i6 (nums.getD 0 0)),(i6 (nums.getD 1 0))]),(.var 57 [(i6 2),(.fn (.func 43) [] []),(.fn (.func 44) [] [])])]⟩)
              (p := (True∧(IntKind.wrap .i64 (((i : Nat) : Int) + 1)) = ((i + 1 : Nat) : Int))∧True∧True) (by kernel_rfl)
              ⟨⟨⟨⟩,(w64n (by first | rfl | simp | omega) (by first | omega | (simp; first | done | omega)))⟩,⟨⟩,⟨⟩⟩ ?_
            refine ⟨i + 1,by kernel_rfl,(?_ : (i + 1) ≤ xs.length∧∀ j,j < (i + 1) → 0 ≤ xs.getD j 0∧xs.getD j 0 ≤ maskF (ws.getD j 0)),(?_ : xs.length - (i + 1) < xs.length - i)⟩
            · exact ⟨by omega,lt_more hall ⟨by omega,by omega⟩⟩
            · omega
      · try simp only [decide_eq_true_eq,decide_eq_false_iff_not,beq_iff_eq,bne_iff_ne,ne_eq,beq_eq_false_iff_ne,bne_eq_false_iff_eq,Bool.not_eq_true,Bool.not_eq_false,Bool.not_eq_true',Bool.not_eq_false',Bool.not_not,gt_iff_lt,ge_iff_le,Nat.not_lt,Int.not_lt,Int.not_le] at hc47
        refine Ev.exit ?_
        refine Ev.seq ?_
        have hin : inF ws xs = true := in_all (fun j hj => hall j (by omega))
        obtain ⟨hl0,hf,-⟩ := ok_yes h
        have hA : arityF 3 = 2 := by decide
        rw [hA] at hl0
        refine Ev.reg [(3,.call none false (i6 (avF 3 ws xs (nums.getD 0 0) (nums.getD 1 0))))] [8,9] (st' := ⟨[(8,(i6 (avF 3 ws xs (nums.getD 0 0) (nums.getD 1 0)))),(9,(i6 0))],[(.var 61 [(LI ws),(LI xs),(i6 (nums.getD 0 0)),(i6 (nums.getD 1 0))]),(.var 57 [(i6 2),(.fn (.func 43) [] []),(.fn (.func 44) [] [])])]⟩)
          (p := True∧True∧True∧callOb Try.prog 44 [(.var 61 [(LI ws),(LI xs),(i6 (nums.getD 0 0)),(i6 (nums.getD 1 0))]),(.var 57 [(i6 2),(.fn (.func 43) [] []),(.fn (.func 44) [] [])])] [(.agg [(LI ws),(LI xs),(i6 (nums.getD 0 0)),(i6 (nums.getD 1 0))])] none false (i6 (avF 3 ws xs (nums.getD 0 0) (nums.getD 1 0)))∧True∧True∧True) (by kernel_rfl)
          ⟨⟨⟩,⟨⟩,⟨⟩,(and_ok _ _ _ _ (by omega) (by assumption) (by omega) (by assumption)),⟨⟩,⟨⟩,⟨⟩⟩ ?_
        refine Ev.ret ?_
        refine ⟨⟨⟨⟩,⟨⟩,⟨⟩⟩,(?_ : (avF 3 ws xs (nums.getD 0 0) (nums.getD 1 0)) = (applyV 3 ws xs nums)∧(0 : Int) = (applyE 3 ws xs nums)∧True),.inr ⟨⟨⟩,⟨⟩,⟨⟩⟩⟩
        exact ⟨(ap_yes hx.1 hx.2 h hin).1.symm,(ap_yes hx.1 hx.2 h hin).2.symm,⟨⟩⟩

set_option maxRecDepth 100000 in
theorem Apply_4 (ws xs nums : List Int) (hwl : ws.length ≤ 9223372036854775807) (hxl : xs.length ≤ 9223372036854775807) : CallOk Try.prog 12 [(i6 4),(LI ws),(LI xs),(LI nums)] [] false (.tup [(i6 (applyV 4 ws xs nums)),(i6 (applyE 4 ws xs nums))]) [] := by
  refine CallOk.of_ev Try.func12 rfl rfl rfl ?_
  rintro ⟨_,W,S0,_,susp,_⟩ rfl rfl rfl
  refine Ev.seq ?_
  refine Ev.reg [] [0,1,2,3] (st' := ⟨[(0,(i6 4)),(1,(LI ws)),(2,(LI xs)),(3,(LI nums))],[]⟩)
    (p := True∧True∧True) (by kernel_rfl)
    ⟨⟨⟩,⟨⟩,⟨⟩⟩ ?_
  refine Ev.seq ?_
  refine Ev.seq ?_
  rcases (show nums.length ≠ 2 ∨ (nums.length = 2∧xs.length ≠ ws.length) ∨ (nums.length = 2∧xs.length = ws.length) from by omega) with hx | hx | hx
  · skip
    refine Ev.reg [(2,.val (dB true))] [0,1,2,3,25] (st' := ⟨[(0,(i6 4)),(1,(LI ws)),(2,(LI xs)),(3,(LI nums)),(25,(dB true))],[]⟩)
      (p := True∧True∧(True∧(((nums.length : Nat) : Int) != 2) = true)∧True∧True∧True∧True∧True∧True∧True∧True) (by kernel_rfl)
      ⟨⟨⟩,⟨⟩,⟨⟨⟩,(by exact bne_iff_ne.2 (by omega))⟩,⟨⟩,⟨⟩,⟨⟩,⟨⟩,⟨⟩,⟨⟩,⟨⟩,⟨⟩⟩ ?_
    refine Ev.cond true rfl (fun _ => ?_) (fun h => (by cases h))
    refine Ev.seq ?_
    refine Ev.reg [] [8,9] (st' := ⟨[(8,(i6 0)),(9,(i6 1))],[]⟩)
      (p := True∧True∧True) (by kernel_rfl)
      ⟨⟨⟩,⟨⟩,⟨⟩⟩ ?_
    refine Ev.ret ?_
    refine ⟨⟨⟨⟩,⟨⟩,⟨⟩⟩,(?_ : (0 : Int) = (applyV 4 ws xs nums)∧(1 : Int) = (applyE 4 ws xs nums)∧True),.inr ⟨⟨⟩,⟨⟩,⟨⟩⟩⟩
    exact ⟨(ap_no (ap_n hx)).1.symm,(ap_no (ap_n hx)).2.symm,⟨⟩⟩
  · skip
    refine Ev.reg [(2,.val (dB false)),(8,.val (dB true))] [0,1,2,3,25] (st' := ⟨[(0,(i6 4)),(1,(LI ws)),(2,(LI xs)),(3,(LI nums)),(25,(dB true))],[]⟩)
      (p := True∧True∧(True∧(((nums.length : Nat) : Int) != 2) = false)∧True∧True∧True∧True∧True∧(True∧(((xs.length : Nat) : Int) != ((ws.length : Nat) : Int)) = true)∧True∧True) (by kernel_rfl)
      ⟨⟨⟩,⟨⟩,⟨⟨⟩,(by rw [hx.1]; rfl)⟩,⟨⟩,⟨⟩,⟨⟩,⟨⟩,⟨⟩,⟨⟨⟩,(by exact bne_iff_ne.2 (by omega))⟩,⟨⟩,⟨⟩⟩ ?_
    refine Ev.cond true rfl (fun _ => ?_) (fun h => (by cases h))
    refine Ev.seq ?_
    refine Ev.reg [] [8,9] (st' := ⟨[(8,(i6 0)),(9,(i6 1))],[]⟩)
      (p := True∧True∧True) (by kernel_rfl)
      ⟨⟨⟩,⟨⟩,⟨⟩⟩ ?_
    refine Ev.ret ?_
    refine ⟨⟨⟨⟩,⟨⟩,⟨⟩⟩,(?_ : (0 : Int) = (applyV 4 ws xs nums)∧(1 : Int) = (applyE 4 ws xs nums)∧True),.inr ⟨⟨⟩,⟨⟩,⟨⟩⟩⟩
    exact ⟨(ap_no (ap_l hx.2)).1.symm,(ap_no (ap_l hx.2)).2.symm,⟨⟩⟩
  · skip
    refine Ev.reg [(2,.val (dB false)),(8,.val (dB false))] [0,1,2,3,25] (st' := ⟨[(0,(i6 4)),(1,(LI ws)),(2,(LI xs)),(3,(LI nums)),(25,(dB false))],[]⟩)
      (p := True∧True∧(True∧(((nums.length : Nat) : Int) != 2) = false)∧True∧True∧True∧True∧True∧(True∧(((xs.length : Nat) : Int) != ((ws.length : Nat) : Int)) = false)∧True∧True) (by kernel_rfl)
      ⟨⟨⟩,⟨⟩,⟨⟨⟩,(by rw [hx.1]; rfl)⟩,⟨⟩,⟨⟩,⟨⟩,⟨⟩,⟨⟩,⟨⟨⟩,(by rw [hx.2]; simp)⟩,⟨⟩,⟨⟩⟩ ?_
    refine Ev.cond false rfl (fun h => (by cases h)) (fun _ => ?_)
    refine Ev.skip ?_
    refine Ev.seq ?_
    refine Ev.draw 10 [false,false,false,false,false,false,false,false,false,false] [] [0,1,2,10] (st' := ⟨[(0,(i6 4)),(1,(LI ws)),(2,(LI xs)),(10,(.ptr 0 0 0 0))],[(.var 61 [(LI ws),(LI xs),(i6 (nums.getD 0 0)),(i6 (nums.getD 1 0))])]⟩)
      (p := (True∧True∧True∧(0 ≤ (0 : Int)∧0 < (nums.length : Int))∧True∧True∧(0 ≤ (1 : Int)∧1 < (nums.length : Int))∧True∧True∧True∧True)∧(True∧True)) (by kernel_rfl) (by kernel_rfl)
      ⟨⟨⟨⟩,⟨⟩,⟨⟩,(by first | omega | (simp; first | done | omega)),⟨⟩,⟨⟩,(by first | omega | (simp; first | done | omega)),⟨⟩,⟨⟩,⟨⟩,⟨⟩⟩,⟨⟨⟩,⟨⟩⟩⟩ ?_
    refine Ev.seq ?_
    rcases ok3 4 ws (nums.getD 0 0) (nums.getD 1 0) with ⟨hb,h⟩ | ⟨hb,hv,h⟩ | h
    · skip
      refine Ev.reg [(2,.call none true (.tup [(.agg [(i6 0),(.v .nilf),(.v .nilf)]),(i6 0),(dB false)]))] [1,2,10,11,13] (st' := ⟨[(1,(LI ws)),(2,(LI xs)),(10,(.ptr 0 0 0 0)),(11,(.ptr 1 0 0 0)),(13,(dB false))],[(.var 61 [(LI ws),(LI xs),(i6 (nums.getD 0 0)),(i6 (nums.getD 1 0))]),(.var 57 [(i6 0),(.v .nilf),(.v .nilf)])]⟩)
        (p := True∧True∧callOb Try.prog 27 [(.var 61 [(LI ws),(LI xs),(i6 (nums.getD 0 0)),(i6 (nums.getD 1 0))])] [(i6 4),(.agg [(LI ws),(LI xs),(i6 (nums.getD 0 0)),(i6 (nums.getD 1 0))])] none true (.tup [(.agg [(i6 0),(.v .nilf),(.v .nilf)]),(i6 0),(dB false)])∧True∧True∧True∧True∧True∧True∧True∧True∧True) (by kernel_rfl)
        ⟨⟨⟩,⟨⟩,(width_bad_4 _ _ _ _ hwl hb),⟨⟩,⟨⟩,⟨⟩,⟨⟩,⟨⟩,⟨⟩,⟨⟩,⟨⟩,⟨⟩⟩ ?_
      refine Ev.seq ?_
      refine Ev.seq ?_
      refine Ev.reg [] [1,2,10,11,43] (st' := ⟨[(1,(LI ws)),(2,(LI xs)),(10,(.ptr 0 0 0 0)),(11,(.ptr 1 0 0 0)),(43,(dB true))],[(.var 61 [(LI ws),(LI xs),(i6 (nums.getD 0 0)),(i6 (nums.getD 1 0))]),(.var 57 [(i6 0),(.v .nilf),(.v .nilf)])]⟩)
        (p := True∧True∧True) (by kernel_rfl)
        ⟨⟨⟩,⟨⟩,⟨⟩⟩ ?_
      refine Ev.cond true rfl (fun _ => ?_) (fun h => (by cases h))
      refine Ev.seq ?_
      refine Ev.reg [] [8,9] (st' := ⟨[(8,(i6 0)),(9,(i6 1))],[(.var 61 [(LI ws),(LI xs),(i6 (nums.getD 0 0)),(i6 (nums.getD 1 0))]),(.var 57 [(i6 0),(.v .nilf),(.v .nilf)])]⟩)
        (p := True∧True∧True) (by kernel_rfl)
        ⟨⟨⟩,⟨⟩,⟨⟩⟩ ?_
      refine Ev.ret ?_
      refine ⟨⟨⟨⟩,⟨⟩,⟨⟩⟩,(?_ : (0 : Int) = (applyV 4 ws xs nums)∧(1 : Int) = (applyE 4 ws xs nums)∧True),.inr ⟨⟨⟩,⟨⟩,⟨⟩⟩⟩
      exact ⟨(ap_no (ap_bad h)).1.symm,(ap_no (ap_bad h)).2.symm,⟨⟩⟩
    · skip
      refine Ev.reg [(2,.call none true (.tup [(.agg [(i6 2),(.fn (.func 43) [] []),(.fn (.func 45) [] [])]),(i6 (wvF 4 ws (nums.getD 0 0) (nums.getD 1 0))),(dB false)]))] [1,2,10,11,13] (st' := ⟨[(1,(LI ws)),(2,(LI xs)),(10,(.ptr 0 0 0 0)),(11,(.ptr 1 0 0 0)),(13,(dB false))],[(.var 61 [(LI ws),(LI xs),(i6 (nums.getD 0 0)),(i6 (nums.getD 1 0))]),(.var 57 [(i6 2),(.fn (.func 43) [] []),(.fn (.func 45) [] [])])]⟩)
        (p := True∧True∧callOb Try.prog 27 [(.var 61 [(LI ws),(LI xs),(i6 (nums.getD 0 0)),(i6 (nums.getD 1 0))])] [(i6 4),(.agg [(LI ws),(LI xs),(i6 (nums.getD 0 0)),(i6 (nums.getD 1 0))])] none true (.tup [(.agg [(i6 2),(.fn (.func 43) [] []),(.fn (.func 45) [] [])]),(i6 (wvF 4 ws (nums.getD 0 0) (nums.getD 1 0))),(dB false)])∧True∧True∧True∧True∧True∧True∧True∧True∧True) (by kernel_rfl)
        ⟨⟨⟩,⟨⟩,(width_wv_4 _ _ _ _ hwl hb hv),⟨⟩,⟨⟩,⟨⟩,⟨⟩,⟨⟩,⟨⟩,⟨⟩,⟨⟩,⟨⟩⟩ ?_
      refine Ev.seq ?_
      refine Ev.seq ?_
      refine Ev.reg [] [1,2,10,11,43] (st' := ⟨[(1,(LI ws)),(2,(LI xs)),(10,(.ptr 0 0 0 0)),(11,(.ptr 1 0 0 0)),(43,(dB true))],[(.var 61 [(LI ws),(LI xs),(i6 (nums.getD 0 0)),(i6 (nums.getD 1 0))]),(.var 57 [(i6 2),(.fn (.func 43) [] []),(.fn (.func 45) [] [])])]⟩)
        (p := True∧True∧True) (by kernel_rfl)
        ⟨⟨⟩,⟨⟩,⟨⟩⟩ ?_
      refine Ev.cond true rfl (fun _ => ?_) (fun h => (by cases h))
      refine Ev.seq ?_
      refine Ev.reg [] [8,9] (st' := ⟨[(8,(i6 0)),(9,(i6 1))],[(.var 61 [(LI ws),(LI xs),(i6 (nums.getD 0 0)),(i6 (nums.getD 1 0))]),(.var 57 [(i6 2),(.fn (.func 43) [] []),(.fn (.func 45) [] [])])]⟩)
        (p := True∧True∧True) (by kernel_rfl)
        ⟨⟨⟩,⟨⟩,⟨⟩⟩ ?_
      refine Ev.ret ?_
      refine ⟨⟨⟨⟩,⟨⟩,⟨⟩⟩,(?_ : (0 : Int) = (applyV 4 ws xs nums)∧(1 : Int) = (applyE 4 ws xs nums)∧True),.inr ⟨⟨⟩,⟨⟩,⟨⟩⟩⟩
      exact ⟨(ap_no (ap_bad h)).1.symm,(ap_no (ap_bad h)).2.symm,⟨⟩⟩
    · skip
      refine Ev.reg [(2,.call none true (.tup [(.agg [(i6 2),(.fn (.func 43) [] []),(.fn (.func 45) [] [])]),(i6 (wvF 4 ws (nums.getD 0 0) (nums.getD 1 0))),(dB true)]))] [1,2,10,11,13] (st' := ⟨[(1,(LI ws)),(2,(LI xs)),(10,(.ptr 0 0 0 0)),(11,(.ptr 1 0 0 0)),(13,(dB true))],[(.var 61 [(LI ws),(LI xs),(i6 (nums.getD 0 0)),(i6 (nums.getD 1 0))]),(.var 57 [(i6 2),(.fn (.func 43) [] []),(.fn (.func 45) [] [])])]⟩)
        (p := True∧True∧callOb Try.prog 27 [(.var 61 [(LI ws),(LI xs),(i6 (nums.getD 0 0)),(i6 (nums.getD 1 0))])] [(i6 4),(.agg [(LI ws),(LI xs),(i6 (nums.getD 0 0)),(i6 (nums.getD 1 0))])] none true (.tup [(.agg [(i6 2),(.fn (.func 43) [] []),(.fn (.func 45) [] [])]),(i6 (wvF 4 ws (nums.getD 0 0) (nums.getD 1 0))),(dB true)])∧True∧True∧True∧True∧True∧True∧True∧True∧True) (by kernel_rfl)
        ⟨⟨⟩,⟨⟩,(width_good_4 _ _ _ _ hwl h),⟨⟩,⟨⟩,⟨⟩,⟨⟩,⟨⟩,⟨⟩,⟨⟩,⟨⟩,⟨⟩⟩ ?_
      refine Ev.seq ?_
      refine Ev.seq ?_
      refine Ev.reg [] [1,2,10,11,43] (st' := ⟨[(1,(LI ws)),(2,(LI xs)),(10,(.ptr 0 0 0 0)),(11,(.ptr 1 0 0 0)),(43,(dB false))],[(.var 61 [(LI ws),(LI xs),(i6 (nums.getD 0 0)),(i6 (nums.getD 1 0))]),(.var 57 [(i6 2),(.fn (.func 43) [] []),(.fn (.func 45) [] [])])]⟩)
        (p := True∧True∧True) (by kernel_rfl)
        ⟨⟨⟩,⟨⟩,⟨⟩⟩ ?_
      refine Ev.cond false rfl (fun h => (by cases h)) (fun _ => ?_)
      refine Ev.skip ?_
      refine Ev.seq ?_
      refine Ev.seq ?_
      refine Ev.reg [] [1,10,11,44,45,46] (st' := ⟨[(1,(LI ws)),(10,(.ptr 0 0 0 0)),(11,(.ptr 1 0 0 0)),(44,(LI xs)),(45,(i6 ((xs.length : Nat) : Int))),(46,(i6 0))],[(.var 61 [(LI ws),(LI xs),(i6 (nums.getD 0 0)),(i6 (nums.getD 1 0))]),(.var 57 [(i6 2),(.fn (.func 43) [] []),(.fn (.func 45) [] [])])]⟩)
        (p := True∧True∧True∧True) (by kernel_rfl)
        ⟨⟨⟩,⟨⟩,⟨⟩,⟨⟩⟩ ?_
      refine Ev.block ?_
      refine Ev.loop [1,10,11,44,45,46] 2 (fun (i : Nat) => ⟨[(1,(LI ws)),(10,(.ptr 0 0 0 0)),(11,(.ptr 1 0 0 0)),(44,(LI xs)),(45,(i6 ((xs.length : Nat) : Int))),(46,(i6 ((i : Nat) : Int)))],[(.var 61 [(LI ws),(LI xs),(i6 (nums.getD 0 0)),(i6 (nums.getD 1 0))]),(.var 57 [(i6 2),(.fn (.func 43) [] []),(.fn (.func 45) [] [])])]⟩) (fun (i : Nat) => i ≤ xs.length∧∀ j,j < i → 0 ≤ xs.getD j 0∧xs.getD j 0 ≤ maskF (ws.getD j 0)) (fun (i : Nat) => xs.length - i) 0 (by kernel_rfl) (⟨by omega,fun j hj => by omega⟩) ?_
      rintro i hinv
      have hinv : i ≤ xs.length∧∀ j,j < i → 0 ≤ xs.getD j 0∧xs.getD j 0 ≤ maskF (ws.getD j 0) := hinv
      obtain ⟨hi,hall⟩ := hinv
      refine Ev.seq ?_
      refine Ev.reg [] [1,10,11,44,45,46,47] (st' := ⟨[(1,(LI ws)),(10,(.ptr 0 0 0 0)),(11,(.ptr 1 0 0 0)),(44,(LI xs)),(45,(i6 ((xs.length : Nat) : Int))),(46,(i6 ((i : Nat) : Int))),(47,(dB (decide (((i : Nat) : Int) < ((xs.length : Nat) : Int)))))],[(.var 61 [(LI ws),(LI xs),(i6 (nums.getD 0 0)),(i6 (nums.getD 1 0))]),(.var 57 [(i6 2),(.fn (.func 43) [] []),(.fn (.func 45) [] [])])]⟩)
        (p := True∧True) (by kernel_rfl)
        ⟨⟨⟩,⟨⟩⟩ ?_
      refine Ev.seq ?_
      refine Ev.cond _ rfl (fun hc47 => ?_) (fun hc47 => ?_)
      · try simp only [decide_eq_true_eq,decide_eq_false_iff_not,beq_iff_eq,bne_iff_ne,ne_eq,beq_eq_false_iff_ne,bne_eq_false_iff_eq,Bool.not_eq_true,Bool.not_eq_false,Bool.not_eq_true',Bool.not_eq_false',Bool.not_not,gt_iff_lt,ge_iff_le,Nat.not_lt,Int.not_lt,Int.not_le] at hc47
        refine Ev.skip ?_
        refine Ev.seq ?_
        refine Ev.block ?_
        refine Ev.seq ?_
        refine Ev.reg [] [1,10,11,14,15,44,45,46] (st' := ⟨[(1,(LI ws)),(10,(.ptr 0 0 0 0)),(11,(.ptr 1 0 0 0)),(14,(i6 ((i : Nat) : Int))),(15,(i6 (xs.getD i 0))),(44,(LI xs)),(45,(i6 ((xs.length : Nat) : Int))),(46,(i6 ((i : Nat) : Int)))],[(.var 61 [(LI ws),(LI xs),(i6 (nums.getD 0 0)),(i6 (nums.getD 1 0))]),(.var 57 [(i6 2),(.fn (.func 43) [] []),(.fn (.func 45) [] [])])]⟩)
          (p := True∧(0 ≤ ((i : Nat) : Int)∧((i : Nat) : Int) < (xs.length : Int))∧True∧True∧True∧True) (by kernel_rfl)
          ⟨⟨⟩,(by first | omega | (simp; first | done | omega)),⟨⟩,⟨⟩,⟨⟩,⟨⟩⟩ ?_
        refine Ev.seq ?_
        rcases Int.lt_or_le (xs.getD i 0) 0 with hn | hn
        · skip
          refine Ev.reg [(1,.val (dB true))] [1,10,11,44,45,46,61] (st' := ⟨[(1,(LI ws)),(10,(.ptr 0 0 0 0)),(11,(.ptr 1 0 0 0)),(44,(LI xs)),(45,(i6 ((xs.length : Nat) : Int))),(46,(i6 ((i : Nat) : Int))),(61,(dB true))],[(.var 61 [(LI ws),(LI xs),(i6 (nums.getD 0 0)),(i6 (nums.getD 1 0))]),(.var 57 [(i6 2),(.fn (.func 43) [] []),(.fn (.func 45) [] [])])]⟩)
            (p := True∧(True∧(decide ((xs.getD i 0) < 0)) = true)∧True∧True∧True∧True∧True∧True∧True∧True∧True∧True) (by kernel_rfl)
            ⟨⟨⟩,⟨⟨⟩,(by simpa using hn)⟩,⟨⟩,⟨⟩,⟨⟩,⟨⟩,⟨⟩,⟨⟩,⟨⟩,⟨⟩,⟨⟩,⟨⟩⟩ ?_
          refine Ev.cond true rfl (fun _ => ?_) (fun h => (by cases h))
          refine Ev.seq ?_
          refine Ev.reg [] [8,9] (st' := ⟨[(8,(i6 0)),(9,(i6 1))],[(.var 61 [(LI ws),(LI xs),(i6 (nums.getD 0 0)),(i6 (nums.getD 1 0))]),(.var 57 [(i6 2),(.fn (.func 43) [] []),(.fn (.func 45) [] [])])]⟩)
            (p := True∧True∧True) (by kernel_rfl)
            ⟨⟨⟩,⟨⟩,⟨⟩⟩ ?_
          refine Ev.ret ?_
          refine ⟨⟨⟨⟩,⟨⟩,⟨⟩⟩,(?_ : (0 : Int) = (applyV 4 ws xs nums)∧(1 : Int) = (applyE 4 ws xs nums)∧True),.inr ⟨⟨⟩,⟨⟩,⟨⟩⟩⟩
          exact ⟨(ap_no (ap_in (i := i) (by omega) (.inl hn))).1.symm,(ap_no (ap_in (i := i) (by omega) (.inl hn))).2.symm,⟨⟩⟩
        · skip
          refine Ev.reg [(1,.val (dB false)),(8,.call none false (i6 (maskF (ws.getD i 0))))] [1,10,11,44,45,46,61] (st' := ⟨[(1,(LI ws)),(10,(.ptr 0 0 0 0)),(11,(.ptr 1 0 0 0)),(44,(LI xs)),(45,(i6 ((xs.length : Nat) : Int))),(46,(i6 ((i : Nat) : Int))),(61,(dB (decide ((xs.getD i 0) > (maskF (ws.getD i 0))))))],[(.var 61 [(LI ws),(LI xs),(i6 (nums.getD 0 0)),(i6 (nums.getD 1 0))]),(.var 57 [(i6 2),(.fn (.func 43) [] []),(.fn (.func 45) [] [])])]⟩)
            (p := True∧(True∧(decide ((xs.getD i 0) < 0)) = false)∧True∧True∧True∧True∧(0 ≤ ((i : Nat) : Int)∧((i : Nat) : Int) < (ws.length : Int))∧True∧callOb Try.prog 14 [(.var 61 [(LI ws),(LI xs),(i6 (nums.getD 0 0)),(i6 (nums.getD 1 0))]),(.var 57 [(i6 2),(.fn (.func 43) [] []),(.fn (.func 45) [] [])])] [(i6 (ws.getD i 0))] none false (i6 (maskF (ws.getD i 0)))∧True∧True∧True) (by kernel_rfl)
            ⟨⟨⟩,⟨⟨⟩,(by simpa using hn)⟩,⟨⟩,⟨⟩,⟨⟩,⟨⟩,(by first | omega | (simp; first | done | omega)),⟨⟩,(mask_ok _),⟨⟩,⟨⟩,⟨⟩⟩ ?_
          refine Ev.cond _ rfl (fun hc61 => ?_) (fun hc61 => ?_)
          · try simp only [decide_eq_true_eq,decide_eq_false_iff_not,beq_iff_eq,bne_iff_ne,ne_eq,beq_eq_false_iff_ne,bne_eq_false_iff_eq,Bool.not_eq_true,Bool.not_eq_false,Bool.not_eq_true',Bool.not_eq_false',Bool.not_not,gt_iff_lt,ge_iff_le,Nat.not_lt,Int.not_lt,Int.not_le] at hc61
            refine Ev.seq ?_
            refine Ev.reg [] [8,9] (st' := ⟨[(8,(i6 0)),(9,(i6 1))],[(.var 61 [(LI ws),(LI xs),(i6 (nums.getD 0 0)),(i6 (nums.getD 1 0))]),(.var 57 [(i6 2),(.fn (.func 43) [] []),(.fn (.func 45) [] [])])]⟩)
              (p := True∧True∧True) (by kernel_rfl)
              ⟨⟨⟩,⟨⟩,⟨⟩⟩ ?_
            refine Ev.ret ?_
            refine ⟨⟨⟨⟩,⟨⟩,⟨⟩⟩,(?_ : (0 : Int) = (applyV 4 ws xs nums)∧(1 : Int) = (applyE 4 ws xs nums)∧True),.inr ⟨⟨⟩,⟨⟩,⟨⟩⟩⟩
            exact ⟨(ap_no (ap_in (i := i) (by omega) (.inr (by omega)))).1.symm,(ap_no (ap_in (i := i) (by omega) (.inr (by omega)))).2.symm,⟨⟩⟩
          · try simp only [decide_eq_true_eq,decide_eq_false_iff_not,beq_iff_eq,bne_iff_ne,ne_eq,beq_eq_false_iff_ne,bne_eq_false_iff_eq,Bool.not_eq_true,Bool.not_eq_false,Bool.not_eq_true',Bool.not_eq_false',Bool.not_not,gt_iff_lt,ge_iff_le,Nat.not_lt,Int.not_lt,Int.not_le] at hc61
            refine Ev.skip ?_
            refine Ev.reg [(0,.val (i6 ((i + 1 : Nat) : Int)))] [1,10,11,44,45,46] (st' := ⟨[(1,(LI ws)),(10,(.ptr 0 0 0 0)),(11,(.ptr 1 0 0 0)),(44,(LI xs)),(45,(i6 ((xs.length : Nat) : Int))),(46,(i6 ((i + 1 : Nat) : Int)))],[(.var 61 [(LI ws),(LI xs),(i6 (nums.getD 0 0)),(i6 (nums.getD 1 0))]),(.var 57 [(i6 2),(.fn (.func 43) [] []),(.fn (.func 45) [] [])])]⟩)
              (p := (True∧(IntKind.wrap .i64 (((i : Nat) : Int) + 1)) = ((i + 1 : Nat) : Int))∧True∧True) (by kernel_rfl)
              ⟨⟨⟨⟩,(w64n (by first | rfl | simp | omega) (by first | omega | (simp; first | done | omega)))⟩,⟨⟩,⟨⟩⟩ ?_
            refine ⟨i + 1,by kernel_rfl,(?_ : (i + 1) ≤ xs.length∧∀ j,j < (i + 1) → 0 ≤ xs.getD j 0∧xs.getD j 0 ≤ maskF (ws.getD j 0)),(?_ : xs.length - (i + 1) < xs.length - i)⟩
            · exact ⟨by omega,lt_more hall ⟨by omega,by omega⟩⟩
            · omega
      · try simp only [decide_eq_true_eq,decide_eq_false_iff_not,beq_iff_eq,bne_iff_ne,ne_eq,beq_eq_false_iff_ne,bne_eq_false_iff_eq,Bool.not_eq_true,Bool.not_eq_false,Bool.not_eq_true',Bool.not_eq_false',Bool.not_not,gt_iff_lt,ge_iff_le,Nat.not_lt,Int.not_lt,Int.not_le] at hc47
        refine Ev.exit ?_
        refine Ev.seq ?_
        have hin : inF ws xs = true := in_all (fun j hj => hall j (by omega))
        obtain ⟨hl0,hf,-⟩ := ok_yes h
        have hA : arityF 4 = 2 := by decide
        rw [hA] at hl0
        refine Ev.reg [(3,.call none false (i6 (avF 4 ws xs (nums.getD 0 0) (nums.getD 1 0))))] [8,9] (st' := ⟨[(8,(i6 (avF 4 ws xs (nums.getD 0 0) (nums.getD 1 0)))),(9,(i6 0))],[(.var 61 [(LI ws),(LI xs),(i6 (nums.getD 0 0)),(i6 (nums.getD 1 0))]),(.var 57 [(i6 2),(.fn (.func 43) [] []),(.fn (.func 45) [] [])])]⟩)
          (p := True∧True∧True∧callOb Try.prog 45 [(.var 61 [(LI ws),(LI xs),(i6 (nums.getD 0 0)),(i6 (nums.getD 1 0))]),(.var 57 [(i6 2),(.fn (.func 43) [] []),(.fn (.func 45) [] [])])] [(.agg [(LI ws),(LI xs),(i6 (nums.getD 0 0)),(i6 (nums.getD 1 0))])] none false (i6 (avF 4 ws xs (nums.getD 0 0) (nums.getD 1 0)))∧True∧True∧True) (by kernel_rfl)
          ⟨⟨⟩,⟨⟩,⟨⟩,(or_ok _ _ _ _ (by omega) (by assumption) (by omega) (by assumption)),⟨⟩,⟨⟩,⟨⟩⟩ ?_
        refine Ev.ret ?_
        refine ⟨⟨⟨⟩,⟨⟩,⟨⟩⟩,(?_ : (avF 4 ws xs (nums.getD 0 0) (nums.getD 1 0)) = (applyV 4 ws xs nums)∧(0 : Int) = (applyE 4 ws xs nums)∧True),.inr ⟨⟨⟩,⟨⟩,⟨⟩⟩⟩
        exact ⟨(ap_yes hx.1 hx.2 h hin).1.symm,(ap_yes hx.1 hx.2 h hin).2.symm,⟨⟩⟩

set_option maxRecDepth 100000 in
theorem Apply_5 (ws xs nums : List Int) (hwl : ws.length ≤ 9223372036854775807) (hxl : xs.length ≤ 9223372036854775807) : CallOk Try.prog 12 [(i6 5),(LI ws),(LI xs),(LI nums)] [] false (.tup [(i6 (applyV 5 ws xs nums)),(i6 (applyE 5 ws xs nums))]) [] := by
  refine CallOk.of_ev Try.func12 rfl rfl rfl ?_
  rintro ⟨_,W,S0,_,susp,_⟩ rfl rfl rfl
  refine Ev.seq ?_
  refine Ev.reg [] [0,1,2,3] (st' := ⟨[(0,(i6 5)),(1,(LI ws)),(2,(LI xs)),(3,(LI nums))],[]⟩)
    (p := True∧True∧True) (by kernel_rfl)
    ⟨⟨⟩,⟨⟩,⟨⟩⟩ ?_
  refine Ev.seq ?_
  refine Ev.seq ?_
  rcases (show nums.length ≠ 2 ∨ (nums.length = 2∧xs.length ≠ ws.length) ∨ (nums.length = 2∧xs.length = ws.length) from by omega) with hx | hx | hx
  · skip
    refine Ev.reg [(2,.val (dB true))] [0,1,2,3,25] (st' := ⟨[(0,(i6 5)),(1,(LI ws)),(2,(LI xs)),(3,(LI nums)),(25,(dB true))],[]⟩)
      (p := True∧True∧(True∧(((nums.length : Nat) : Int) != 2) = true)∧True∧True∧True∧True∧True∧True∧True∧True) (by kernel_rfl)
      ⟨⟨⟩,⟨⟩,⟨⟨⟩,(by exact bne_iff_ne.2 (by omega))⟩,⟨⟩,⟨⟩,⟨⟩,⟨⟩,⟨⟩,⟨⟩,⟨⟩,⟨⟩⟩ ?_
    refine Ev.cond true rfl (fun _ => ?_) (fun h => (by cases h))
    refine Ev.seq ?_
    refine Ev.reg [] [8,9] (st' := ⟨[(8,(i6 0)),(9,(i6 1))],[]⟩)
      (p := True∧True∧True) (by kernel_rfl)
      ⟨⟨⟩,⟨⟩,⟨⟩⟩ ?_
    refine Ev.ret ?_
    refine ⟨⟨⟨⟩,⟨⟩,⟨⟩⟩,(?_ : (0 : Int) = (applyV 5 ws xs nums)∧(1 : Int) = (applyE 5 ws xs nums)∧True),.inr ⟨⟨⟩,⟨⟩,⟨⟩⟩⟩
    exact ⟨(ap_no (ap_n hx)).1.symm,(ap_no (ap_n hx)).2.symm,⟨⟩⟩
  · skip
    refine Ev.reg [(2,.val (dB false)),(8,.val (dB true))] [0,1,2,3,25] (st' := ⟨[(0,(i6 5)),(1,(LI ws)),(2,(LI xs)),(3,(LI nums)),(25,(dB true))],[]⟩)
      (p := True∧True∧(True∧(((nums.length : Nat) : Int) != 2) = false)∧True∧True∧True∧True∧True∧(True∧(((xs.length : Nat) : Int) != ((ws.length : Nat) : Int)) = true)∧True∧True) (by kernel_rfl)
      ⟨⟨⟩,⟨⟩,⟨⟨⟩,(by rw [hx.1]; rfl)⟩,⟨⟩,⟨⟩,⟨⟩,⟨⟩,⟨⟩,⟨⟨⟩,(by exact bne_iff_ne.2 (by omega))⟩,⟨⟩,⟨⟩⟩ ?_
    refine Ev.cond true rfl (fun _ => ?_) (fun h => (by cases h))
    refine Ev.seq ?_
    refine Ev.reg [] [8,9] (st' := ⟨[(8,(i6 0)),(9,(i6 1))],[]⟩)
      (p := True∧True∧True) (by kernel_rfl)
      ⟨⟨⟩,⟨⟩,⟨⟩⟩ ?_
    refine Ev.ret ?_
    refine ⟨⟨⟨⟩,⟨⟩,⟨⟩⟩,(?_ : (0 : Int) = (applyV 5 ws xs nums)∧(1 : Int) = (applyE 5 ws xs nums)∧True),.inr ⟨⟨⟩,⟨⟩,⟨⟩⟩⟩
    exact ⟨(ap_no (ap_l hx.2)).1.symm,(ap_no (ap_l hx.2)).2.symm,⟨⟩⟩
  · skip
    refine Ev.reg [(2,.val (dB false)),(8,.val (dB false))] [0,1,2,3,25] (st' := ⟨[(0,(i6 5)),(1,(LI ws)),(2,(LI xs)),(3,(LI nums)),(25,(dB false))],[]⟩)
      (p := True∧True∧(True∧(((nums.length : Nat) : Int) != 2) = false)∧True∧True∧True∧True∧True∧(True∧(((xs.length : Nat) : Int) != ((ws.length : Nat) : Int)) = false)∧True∧True) (by kernel_rfl)
      ⟨⟨⟩,⟨⟩,⟨⟨⟩,(by rw [hx.1]; rfl)⟩,⟨⟩,⟨⟩,⟨⟩,⟨⟩,⟨⟩,⟨⟨⟩,(by rw [hx.2]; simp)⟩,⟨⟩,⟨⟩⟩ ?_
    refine Ev.cond false rfl (fun h => (by cases h)) (fun _ => ?_)
    refine Ev.skip ?_
    refine Ev.seq ?_
    refine Ev.draw 10 [false,false,false,false,false,false,false,false,false,false] [] [0,1,2,10] (st' := ⟨[(0,(i6 5)),(1,(LI ws)),(2,(LI xs)),(10,(.ptr 0 0 0 0))],[(.var 61 [(LI ws),(LI xs),(i6 (nums.getD 0 0)),(i6 (nums.getD 1 0))])]⟩)
      (p := (True∧True∧True∧(0 ≤ (0 : Int)∧0 < (nums.length : Int))∧True∧True∧(0 ≤ (1 : Int)∧1 < (nums.length : Int))∧True∧True∧True∧True)∧(True∧True)) (by kernel_rfl) (by kernel_rfl)
      ⟨⟨⟨⟩,⟨⟩,⟨⟩,(by first | omega | (simp; first | done | omega)),⟨⟩,⟨⟩,(by first | omega | (simp; first | done | omega)),⟨⟩,⟨⟩,⟨⟩,⟨⟩⟩,⟨⟨⟩,⟨⟩⟩⟩ ?_
    refine Ev.seq ?_
    rcases ok3 5 ws (nums.getD 0 0) (nums.getD 1 0) with ⟨hb,h⟩ | ⟨hb,hv,h⟩ | h
    · skip
      refine Ev.reg [(2,.call none true (.tup [(.agg [(i6 0),(.v .nilf),(.v .nilf)]),(i6 0),(dB false)]))] [1,2,10,11,13] (st' := ⟨[(1,(LI ws)),(2,(LI xs)),(10,(.ptr 0 0 0 0)),(11,(.ptr 1 0 0 0)),(13,(dB false))],[(.var 61 [(LI ws),(LI xs),(i6 (nums.getD 0 0)),(i6 (nums.getD 1 0))]),(.var 57 [(i6 0),(.v .nilf),(.v .nilf)])]⟩)
        (p := True∧True∧callOb Try.prog 27 [(.var 61 [(LI ws),(LI xs),(i6 (nums.getD 0 0)),(i6 (nums.getD 1 0))])] [(i6 5),(.agg [(LI ws),(LI xs),(i6 (nums.getD 0 0)),(i6 (nums.getD 1 0))])] none true (.tup [(.agg [(i6 0),(.v .nilf),(.v .nilf)]),(i6 0),(dB false)])∧True∧True∧True∧True∧True∧True∧True∧True∧True) (by kernel_rfl)
        ⟨⟨⟩,⟨⟩,(width_bad_5 _ _ _ _ hwl hb),⟨⟩,⟨⟩,⟨⟩,⟨⟩,⟨⟩,⟨⟩,⟨⟩,⟨⟩,⟨⟩⟩ ?_
      refine Ev.seq ?_
      refine Ev.seq ?_
      refine Ev.reg [] [1,2,10,11,43] (st' := ⟨[(1,(LI ws)),(2,(LI xs)),(10,(.ptr 0 0 0 0)),(11,(.ptr 1 0 0 0)),(43,(dB true))],[(.var 61 [(LI ws),(LI xs),(i6 (nums.getD 0 0)),(i6 (nums.getD 1 0))]),(.var 57 [(i6 0),(.v .nilf),(.v .nilf)])]⟩)
        (p := True∧True∧True) (by kernel_rfl)
        ⟨⟨⟩,⟨⟩,⟨⟩⟩ ?_
      refine Ev.cond true rfl (fun _ => ?_) (fun h => (by cases h))
      refine Ev.seq ?_
      refine Ev.reg [] [8,9] (st' := ⟨[(8,(i6 0)),(9,(i6 1))],[(.var 61 [(LI ws),(LI xs),(i6 (nums.getD 0 0)),(i6 (nums.getD 1 0))]),(.var 57 [(i6 0),(.v .nilf),(.v .nilf)])]⟩)
        (p := True∧True∧True) (by kernel_rfl)
        ⟨⟨⟩,⟨⟩,⟨⟩⟩ ?_
      refine Ev.ret ?_
      refine ⟨⟨⟨⟩,⟨⟩,⟨⟩⟩,(?_ : (0 : Int) = (applyV 5 ws xs nums)∧(1 : Int) = (applyE 5 ws xs nums)∧True),.inr ⟨⟨⟩,⟨⟩,⟨⟩⟩⟩
      exact ⟨(ap_no (ap_bad h)).1.symm,(ap_no (ap_bad h)).2.symm,⟨⟩⟩
    · skip
      refine Ev.reg [(2,.call none true (.tup [(.agg [(i6 2),(.fn (.func 43) [] []),(.fn (.func 46) [] [])]),(i6 (wvF 5 ws (nums.getD 0 0) (nums.getD 1 0))),(dB false)]))] [1,2,10,11,13] (st' := ⟨[(1,(LI ws)),(2,(LI xs)),(10,(.ptr 0 0 0 0)),(11,(.ptr 1 0 0 0)),(13,(dB false))],[(.var 61 [(LI ws),(LI xs),(i6 (nums.getD 0 0)),(i6 (nums.getD 1 0))]),(.var 57 [(i6 2),(.fn (.func 43) [] []),(.fn (.func 46) [] [])])]⟩)
        (p := True∧True∧callOb Try.prog 27 [(.var 61 [(LI ws),(LI xs),(i6 (nums.getD 0 0)),(i6 (nums.getD 1 0))])] [(i6 5),(.agg [(LI ws),(LI xs),(i6 (nums.getD 0 0)),(i6 (nums.getD 1 0))])] none true (.tup [(.agg [(i6 2),(.fn (.func 43) [] []),(.fn (.func 46) [] [])]),(i6 (wvF 5 ws (nums.getD 0 0) (nums.getD 1 0))),(dB false)])∧True∧True∧True∧True∧True∧True∧True∧True∧True) (by kernel_rfl)
        ⟨⟨⟩,⟨⟩,(width_wv_5 _ _ _ _ hwl hb hv),⟨⟩,⟨⟩,⟨⟩,⟨⟩,⟨⟩,⟨⟩,⟨⟩,⟨⟩,⟨⟩⟩ ?_
      refine Ev.seq ?_
      refine Ev.seq ?_
      refine Ev.reg [] [1,2,10,11,43] (st' := ⟨[(1,(LI ws)),(2,(LI xs)),(10,(.ptr 0 0 0 0)),(11,(.ptr 1 0 0 0)),(43,(dB true))],[(.var 61 [(LI ws),(LI xs),(i6 (nums.getD 0 0)),(i6 (nums.getD 1 0))]),(.var 57 [(i6 2),(.fn (.func 43) [] []),(.fn (.func 46) [] [])])]⟩)
        (p := True∧True∧True) (by kernel_rfl)
        ⟨⟨⟩,⟨⟩,⟨⟩⟩ ?_
      refine Ev.cond true rfl (fun _ => ?_) (fun h => (by cases h))
      refine Ev.seq ?_
      refine Ev.reg [] [8,9] (st' := ⟨[(8,(i6 0)),(9,(i6 1))],[(.var 61 [(LI ws),(LI xs),(i6 (nums.getD 0 0)),(i6 (nums.getD 1 0))]),(.var 57 [(i6 2),(.fn (.func 43) [] []),(.fn (.func 46) [] [])])]⟩)
        (p := True∧True∧True) (by kernel_rfl)
        ⟨⟨⟩,⟨⟩,⟨⟩⟩ ?_
      refine Ev.ret ?_
      refine ⟨⟨⟨⟩,⟨⟩,⟨⟩⟩,(?_ : (0 : Int) = (applyV 5 ws xs nums)∧(1 : Int) = (applyE 5 ws xs nums)∧True),.inr ⟨⟨⟩,⟨⟩,⟨⟩⟩⟩
      exact ⟨(ap_no (ap_bad h)).1.symm,(ap_no (ap_bad h)).2.symm,⟨⟩⟩
    · skip
      refine Ev.reg [(2,.call none true (.tup [(.agg [(i6 2),(.fn (.func 43) [] []),(.fn (.func 46) [] [])]),(i6 (wvF 5 ws (nums.getD 0 0) (nums.getD 1 0))),(dB true)]))] [1,2,10,11,13] (st' := ⟨[(1,(LI ws)),(2,(LI xs)),(10,(.ptr 0 0 0 0)),(11,(.ptr 1 0 0 0)),(13,(dB true))],[(.var 61 [(LI ws),(LI xs),(i6 (nums.getD 0 0)),(i6 (nums.getD 1 0))]),(.var 57 [(i6 2),(.fn (.func 43) [] []),(.fn (.func 46) [] [])])]⟩)
        (p := True∧True∧callOb Try.prog 27 [(.var 61 [(LI ws),(LI xs),(i6 (nums.getD 0 0)),(i6 (nums.getD 1 0))])] [(i6 5),(.agg [(LI ws),(LI xs),(i6 (nums.getD 0 0)),(i6 (nums.getD 1 0))])] none true (.tup [(.agg [(i6 2),(.fn (.func 43) [] []),(.fn (.func 46) [] [])]),(i6 (wvF 5 ws (nums.getD 0 0) (nums.getD 1 0))),(dB true)])∧True∧True∧True∧True∧True∧True∧True∧True∧True) (by kernel_rfl)
        ⟨⟨⟩,⟨⟩,(width_good_5 _ _ _ _ hwl h),⟨⟩,⟨⟩,⟨⟩,⟨⟩,⟨⟩,⟨⟩,⟨⟩,⟨⟩,⟨⟩⟩ ?_
      refine Ev.seq ?_
      refine Ev.seq ?_
      refine Ev.reg [] [1,2,10,11,43] (st' := ⟨[(1,(LI ws)),(2,(LI xs)),(10,(.ptr 0 0 0 0)),(11,(.ptr 1 0 0 0)),(43,(dB false))],[(.var 61 [(LI ws),(LI xs),(i6 (nums.getD 0 0)),(i6 (nums.getD 1 0))]),(.var 57 [(i6 2),(.fn (.func 43) [] []),(.fn (.func 46) [] [])])]⟩)
        (p := True∧True∧True) (by kernel_rfl)
        ⟨⟨⟩,⟨⟩,⟨⟩⟩ ?_
      refine Ev.cond false rfl (fun h => (by cases h)) (fun _ => ?_)
      refine Ev.skip ?_
      refine Ev.seq ?_
      refine Ev.seq ?_
      refine Ev.reg [] [1,10,11,44,45,46] (st' := ⟨[(1,(LI ws)),(10,(.ptr 0 0 0 0)),(11,(.ptr 1 0 0 0)),(44,(LI xs)),(45,(i6 ((xs.length : Nat) : Int))),(46,(i6 0))],[(.var 61 [(LI ws),(LI xs),(i6 (nums.getD 0 0)),(i6 (nums.getD 1 0))]),(.var 57 [(i6 2),(.fn (.func 43) [] []),(.fn (.func 46) [] [])])]⟩)
        (p := True∧True∧True∧True) (by kernel_rfl)
        ⟨⟨⟩,⟨⟩,⟨⟩,⟨⟩⟩ ?_
      refine Ev.block ?_
      refine Ev.loop [1,10,11,44,45,46] 2 (fun (i : Nat) => ⟨[(1,(LI ws)),(10,(.ptr 0 0 0 0)),(11,(.ptr 1 0 0 0)),(44,(LI xs)),(45,(i6 ((xs.length : Nat) : Int))),(46,(i6 ((i : Nat) : Int)))],[(.var 61 [(LI ws),(LI xs),(i6 (nums.getD 0 0)),(i6 (nums.getD 1 0))]),(.var 57 [(i6 2),(.fn (.func 43) [] []),(.fn (.func 46) [] [])])]⟩) (fun (i : Nat) => i ≤ xs.length∧∀ j,j < i → 0 ≤ xs.getD j 0∧xs.getD j 0 ≤ maskF (ws.getD j 0)) (fun (i : Nat) => xs.length - i) 0 (by kernel_rfl) (⟨by omega,fun j hj => by omega⟩) ?_
      rintro i hinv
      have hinv : i ≤ xs.length∧∀ j,j < i → 0 ≤ xs.getD j 0∧xs.getD j 0 ≤ maskF (ws.getD j 0) := hinv
      obtain ⟨hi,hall⟩ := hinv
      refine Ev.seq ?_
      refine Ev.reg [] [1,10,11,44,45,46,47] (st' := ⟨[(1,(LI ws)),(10,(.ptr 0 0 0 0)),(11,(.ptr 1 0 0 0)),(44,(LI xs)),(45,(i6 ((xs.length : Nat) : Int))),(46,(i6 ((i : Nat) : Int))),(47,(dB (decide (((i : Nat) : Int) < ((xs.length : Nat) : Int)))))],[(.var 61 [(LI ws),(LI xs),(i6 (nums.getD 0 0)),(i6 (nums.getD 1 0))]),(.var 57 [(i6 2),(.fn (.func 43) [] []),(.fn (.func 46) [] [])])]⟩)
        (p := True∧True) (by kernel_rfl)
        ⟨⟨⟩,⟨⟩⟩ ?_
      refine Ev.seq ?_
      refine Ev.cond _ rfl (fun hc47 => ?_) (fun hc47 => ?_)
      · try simp only [decide_eq_true_eq,decide_eq_false_iff_not,beq_iff_eq,bne_iff_ne,ne_eq,beq_eq_false_iff_ne,bne_eq_false_iff_eq,Bool.not_eq_true,Bool.not_eq_false,Bool.not_eq_true',Bool.not_eq_false',Bool.not_not,gt_iff_lt,ge_iff_le,Nat.not_lt,Int.not_lt,Int.not_le] at hc47
        refine Ev.skip ?_
        refine Ev.seq ?_
        refine Ev.block ?_
        refine Ev.seq ?_
        refine Ev.reg [] [1,10,11,14,15,44,45,46] (st' := ⟨[(1,(LI ws)),(10,(.ptr 0 0 0 0)),(11,(.ptr 1 0 0 0)),(14,(i6 ((i : Nat) : Int))),(15,(i6 (xs.getD i 0))),(44,(LI xs)),(45,(i6 ((xs.length : Nat) : Int))),(46,(i6 ((i : Nat) : Int)))],[(.var 61 [(LI ws),(LI xs),(i6 (nums.getD 0 0)),(i6 (nums.getD 1 0))]),(.var 57 [(i6 2),(.fn (.func 43) [] []),(.fn (.func 46) [] [])])]⟩)
          (p := True∧(0 ≤ ((i : Nat) : Int)∧((i : Nat) : Int) < (xs.length : Int))∧True∧True∧True∧True) (by kernel_rfl)
          ⟨⟨⟩,(by first | omega | (simp; first | done | omega)),⟨⟩,⟨⟩,⟨⟩,⟨⟩⟩ ?_
        refine Ev.seq ?_
        rcases Int.lt_or_le (xs.getD i 0) 0 with hn | hn
        · skip
          refine Ev.reg [(1,.val (dB true))] [1,10,11,44,45,46,61] (st' := ⟨[(1,(LI ws)),(10,(.ptr 0 0 0 0)),(11,(.ptr 1 0 0 0)),(44,(LI xs)),(45,(i6 ((xs.length : Nat) : Int))),(46,(i6 ((i : Nat) : Int))),(61,(dB true))],[(.var 61 [(LI ws),(LI xs),(i6 (nums.getD 0 0)),(i6 (nums.getD 1 0))]),(.var 57 [(i6 2),(.fn (.func 43) [] []),(.fn (.func 46) [] [])])]⟩)
            (p := True∧(True∧(decide ((xs.getD i 0) < 0)) = true)∧True∧True∧True∧True∧True∧True∧True∧True∧True∧True) (by kernel_rfl)
            ⟨⟨⟩,⟨⟨⟩,(by simpa using hn)⟩,⟨⟩,⟨⟩,⟨⟩,⟨⟩,⟨⟩,⟨⟩,⟨⟩,⟨⟩,⟨⟩,⟨⟩⟩ ?_
          refine Ev.cond true rfl (fun _ => ?_) (fun h => (by cases h))
          refine Ev.seq ?_
          refine Ev.reg [] [8,9] (st' := ⟨[(8,(i6 0)),(9,(i6 1))],[(.var 61 [(LI ws),(LI xs),(i6 (nums.getD 0 0)),(i6 (nums.getD 1 0))]),(.var 57 [(i6 2),(.fn (.func 43) [] []),(.fn (.func 46) [] [])])]⟩)
            (p := True∧True∧True) (by kernel_rfl)
            ⟨⟨⟩,⟨⟩,⟨⟩⟩ ?_
          refine Ev.ret ?_
          refine ⟨⟨⟨⟩,⟨⟩,⟨⟩⟩,(?_ : (0 : Int) = (applyV 5 ws xs nums)∧(1 : Int) = (applyE 5 ws xs nums)∧True),.inr ⟨⟨⟩,⟨⟩,⟨⟩⟩⟩
          exact ⟨(ap_no (ap_in (i := i) (by omega) (.inl hn))).1.symm,(ap_no (ap_in (i := i) (by omega) (.inl hn))).2.symm,⟨⟩⟩
        · skip
          refine Ev.reg [(1,.val (dB false)),(8,.call none false (i6 (maskF (ws.getD i 0))))] [1,10,11,44,45,46,61] (st' := ⟨[(1,(LI ws)),(10,(.ptr 0 0 0 0)),(11,(.ptr 1 0 0 0)),(44,(LI xs)),(45,(i6 ((xs.length : Nat) : Int))),(46,(i6 ((i : Nat) : Int))),(61,(dB (decide ((xs.getD i 0) > (maskF (ws.getD i 0))))))],[(.var 61 [(LI ws),(LI xs),(i6 (nums.getD 0 0)),(i6 (nums.getD 1 0))]),(.var 57 [(i6 2),(.fn (.func 43) [] []),(.fn (.func 46) [] [])])]⟩)
            (p := True∧(True∧(decide ((xs.getD i 0) < 0)) = false)∧True∧True∧True∧True∧(0 ≤ ((i : Nat) : Int)∧((i : Nat) : Int) < (ws.length : Int))∧True∧callOb Try.prog 14 [(.var 61 [(LI ws),(LI xs),(i6 (nums.getD 0 0)),(i6 (nums.getD 1 0))]),(.var 57 [(i6 2),(.fn (.func 43) [] []),(.fn (.func 46) [] [])])] [(i6 (ws.getD i 0))] none false (i6 (maskF (ws.getD i 0)))∧True∧True∧True) (by kernel_rfl)
            ⟨⟨⟩,⟨⟨⟩,(by simpa using hn)⟩,⟨⟩,⟨⟩,⟨⟩,⟨⟩,(by first | omega | (simp; first | done | omega)),⟨⟩,(mask_ok _),⟨⟩,⟨⟩,⟨⟩⟩ ?_
          refine Ev.cond _ rfl (fun hc61 => ?_) (fun hc61 => ?_)
          · try simp only [decide_eq_true_eq,decide_eq_false_iff_not,beq_iff_eq,bne_iff_ne,ne_eq,beq_eq_false_iff_ne,bne_eq_false_iff_eq,Bool.not_eq_true,Bool.not_eq_false,Bool.not_eq_true',Bool.not_eq_false',Bool.not_not,gt_iff_lt,ge_iff_le,Nat.not_lt,Int.not_lt,Int.not_le] at hc61
            refine Ev.seq ?_
            refine Ev.reg [] [8,9] (st' := ⟨[(8,(i6 0)),(9,(i6 1))],[(.var 61 [(LI ws),(LI xs),(i6 (nums.getD 0 0)),(i6 (nums.getD 1 0))]),(.var 57 [(i6 2),(.fn (.func 43) [] []),(.fn (.func 46) [] [])])]⟩)
              (p := True∧True∧True) (by kernel_rfl)
              ⟨⟨⟩,⟨⟩,⟨⟩⟩ ?_
            refine Ev.ret ?_
            refine ⟨⟨⟨⟩,⟨⟩,⟨⟩⟩,(?_ : (0 : Int) = (applyV 5 ws xs nums)∧(1 : Int) = (applyE 5 ws xs nums)∧True),.inr ⟨⟨⟩,⟨⟩,⟨⟩⟩⟩
            exact ⟨(ap_no (ap_in (i := i) (by omega) (.inr (by omega)))).1.symm,(ap_no (ap_in (i := i) (by omega) (.inr (by omega)))).2.symm,⟨⟩⟩
          · try simp only [decide_eq_true_eq,decide_eq_false_iff_not,beq_iff_eq,bne_iff_ne,ne_eq,beq_eq_false_iff_ne,bne_eq_false_iff_eq,Bool.not_eq_true,Bool.not_eq_false,Bool.not_eq_true',Bool.not_eq_false',Bool.not_not,gt_iff_lt,ge_iff_le,Nat.not_lt,Int.not_lt,Int.not_le] at hc61
            refine Ev.skip ?_
            refine Ev.reg [(0,.val (i6 ((i + 1 : Nat) : Int)))] [1,10,11,44,45,46] (st' := ⟨[(1,(LI ws)),(10,(.ptr 0 0 0 0)),(11,(.ptr 1 0 0 0)),(44,(LI xs)),(45,(i6 ((xs.length : Nat) : Int))),(46,(i6 ((i + 1 : Nat) : Int)))],[(.var 61 [(LI ws),(LI xs),(i6 (nums.getD 0 0)),(i6 (nums.getD 1 0))]),(.var 57 [(i6 2),(.fn (.func 43) [] []),(.fn (.func 46) [] [])])]⟩)
              (p := (True∧(IntKind.wrap .i64 (((i : Nat) : Int) + 1)) = ((i + 1 : Nat) : Int))∧True∧True) (by kernel_rfl)
              ⟨⟨⟨⟩,(w64n (by first | rfl | simp | omega) (by first | omega | (simp; first | done | omega)))⟩,⟨⟩,⟨⟩⟩ ?_
            refine ⟨i + 1,by kernel_rfl,(?_ : (i + 1) ≤ xs.length∧∀ j,j < (i + 1) → 0 ≤ xs.getD j 0∧xs.getD j 0 ≤ maskF (ws.getD j 0)),(?_ : xs.length - (i + 1) < xs.length - i)⟩
            · exact ⟨by omega,lt_more hall ⟨by omega,by omega⟩⟩
            · omega
      · try simp only [decide_eq_true_eq,decide_eq_false_iff_not,beq_iff_eq,bne_iff_ne,ne_eq,beq_eq_false_iff_ne,bne_eq_false_iff_eq,Bool.not_eq_true,Bool.not_eq_false,Bool.not_eq_true',Bool.not_eq_false',Bool.not_not,gt_iff_lt,ge_iff_le,Nat.not_lt,Int.not_lt,Int.not_le] at hc47
        refine Ev.exit ?_
        refine Ev.seq ?_
        have hin : inF ws xs = true := in_all (fun j hj => hall j (by omega))
        obtain ⟨hl0,hf,-⟩ := ok_yes h
        have hA : arityF 5 = 2 := by decide
        rw [hA] at hl0
        refine Ev.reg [(3,.call none false (i6 (avF 5 ws xs (nums.getD 0 0) (nums.getD 1 0))))] [8,9] (st' := ⟨[(8,(i6 (avF 5 ws xs (nums.getD 0 0) (nums.getD 1 0)))),(9,(i6 0))],[(.var 61 [(LI ws),(LI xs),(i6 (nums.getD 0 0)),(i6 (nums.getD 1 0))]),(.var 57 [(i6 2),(.fn (.func 43) [] []),(.fn (.func 46) [] [])])]⟩)
          (p := True∧True∧True∧callOb Try.prog 46 [(.var 61 [(LI ws),(LI xs),(i6 (nums.getD 0 0)),(i6 (nums.getD 1 0))]),(.var 57 [(i6 2),(.fn (.func 43) [] []),(.fn (.func 46) [] [])])] [(.agg [(LI ws),(LI xs),(i6 (nums.getD 0 0)),(i6 (nums.getD 1 0))])] none false (i6 (avF 5 ws xs (nums.getD 0 0) (nums.getD 1 0)))∧True∧True∧True) (by kernel_rfl)
          ⟨⟨⟩,⟨⟩,⟨⟩,(xor_ok _ _ _ _ (by omega) (by assumption) (by omega) (by assumption)),⟨⟩,⟨⟩,⟨⟩⟩ ?_
        refine Ev.ret ?_
        refine ⟨⟨⟨⟩,⟨⟩,⟨⟩⟩,(?_ : (avF 5 ws xs (nums.getD 0 0) (nums.getD 1 0)) = (applyV 5 ws xs nums)∧(0 : Int) = (applyE 5 ws xs nums)∧True),.inr ⟨⟨⟩,⟨⟩,⟨⟩⟩⟩
        exact ⟨(ap_yes hx.1 hx.2 h hin).1.symm,(ap_yes hx.1 hx.2 h hin).2.symm,⟨⟩⟩

set_option maxRecDepth 100000 in
theorem Apply_6 (ws xs nums : List Int) (hwl : ws.length ≤ 9223372036854775807) (hxl : xs.length ≤ 9223372036854775807) : CallOk Try.prog 12 [(i6 6),(LI ws),(LI xs),(LI nums)] [] false (.tup [(i6 (applyV 6 ws xs nums)),(i6 (applyE 6 ws xs nums))]) [] := by
  refine CallOk.of_ev Try.func12 rfl rfl rfl ?_
  rintro ⟨_,W,S0,_,susp,_⟩ rfl rfl rfl
  refine Ev.seq ?_
  refine Ev.reg [] [0,1,2,3] (st' := ⟨[(0,(i6 6)),(1,(LI ws)),(2,(LI xs)),(3,(LI nums))],[]⟩)
    (p := True∧True∧True) (by kernel_rfl)
    ⟨⟨⟩,⟨⟩,⟨⟩⟩ ?_
  refine Ev.seq ?_
  refine Ev.seq ?_
  rcases (show nums.length ≠ 2 ∨ (nums.length = 2∧xs.length ≠ ws.length) ∨ (nums.length = 2∧xs.length = ws.length) from by omega) with hx | hx | hx
  · skip
    refine Ev.reg [(2,.val (dB true))] [0,1,2,3,25] (st' := ⟨[(0,(i6 6)),(1,(LI ws)),(2,(LI xs)),(3,(LI nums)),(25,(dB true))],[]⟩)
      (p := True∧True∧(True∧(((nums.length : Nat) : Int) != 2) = true)∧True∧True∧True∧True∧True∧True∧True∧True) (by kernel_rfl)
      ⟨⟨⟩,⟨⟩,⟨⟨⟩,(by exact bne_iff_ne.2 (by omega))⟩,⟨⟩,⟨⟩,⟨⟩,⟨⟩,⟨⟩,⟨⟩,⟨⟩,⟨⟩⟩ ?_
    refine Ev.cond true rfl (fun _ => ?_) (fun h => (by cases h))
    refine Ev.seq ?_
    refine Ev.reg [] [8,9] (st' := ⟨[(8,(i6 0)),(9,(i6 1))],[]⟩)
      (p := True∧True∧True) (by kernel_rfl)
      ⟨⟨⟩,⟨⟩,⟨⟩⟩ ?_
    refine Ev.ret ?_
    refine ⟨⟨⟨⟩,⟨⟩,⟨⟩⟩,(?_ : (0 : Int) = (applyV 6 ws xs nums)∧(1 : Int) = (applyE 6 ws xs nums)∧True),.inr ⟨⟨⟩,⟨⟩,⟨⟩⟩⟩
    exact ⟨(ap_no (ap_n hx)).1.symm,(ap_no (ap_n hx)).2.symm,⟨⟩⟩
  · skip
    refine Ev.reg [(2,.val (dB false)),(8,.val (dB true))] [0,1,2,3,25] (st' := ⟨[(0,(i6 6)),(1,(LI ws)),(2,(LI xs)),(3,(LI nums)),(25,(dB true))],[]⟩)
      (p := True∧True∧(True∧(((nums.length : Nat) : Int) != 2) = false)∧True∧True∧True∧True∧True∧(True∧(((xs.length : Nat) : Int) != ((ws.length : Nat) : Int)) = true)∧True∧True) (by kernel_rfl)
      ⟨⟨⟩,⟨⟩,⟨⟨⟩,(by rw [hx.1]; rfl)⟩,⟨⟩,⟨⟩,⟨⟩,⟨⟩,⟨⟩,⟨⟨⟩,(by exact bne_iff_ne.2 (by omega))⟩,⟨⟩,⟨⟩⟩ ?_
    refine Ev.cond true rfl (fun _ => ?_) (fun h => (by cases h))
    refine Ev.seq ?_
    refine Ev.reg [] [8,9] (st' := ⟨[(8,(i6 0)),(9,(i6 1))],[]⟩)
      (p := True∧True∧True) (by kernel_rfl)
      ⟨⟨⟩,⟨⟩,⟨⟩⟩ ?_
    refine Ev.ret ?_
    refine ⟨⟨⟨⟩,⟨⟩,⟨⟩⟩,(?_ : (0 : Int) = (applyV 6 ws xs nums)∧(1 : Int) = (applyE 6 ws xs nums)∧True),.inr ⟨⟨⟩,⟨⟩,⟨⟩⟩⟩
    exact ⟨(ap_no (ap_l hx.2)).1.symm,(ap_no (ap_l hx.2)).2.symm,⟨⟩⟩
  · skip
    refine Ev.reg [(2,.val (dB false)),(8,.val (dB false))] [0,1,2,3,25] (st' := ⟨[(0,(i6 6)),(1,(LI ws)),(2,(LI xs)),(3,(LI nums)),(25,(dB false))],[]⟩)
      (p := True∧True∧(True∧(((nums.length : Nat) : Int) != 2) = false)∧True∧True∧True∧True∧True∧(True∧(((xs.length : Nat) : Int) != ((ws.length : Nat) : Int)) = false)∧True∧True) (by kernel_rfl)
      ⟨⟨⟩,⟨⟩,⟨⟨⟩,(by rw [hx.1]; rfl)⟩,⟨⟩,⟨⟩,⟨⟩,⟨⟩,⟨⟩,⟨⟨⟩,(by rw [hx.2]; simp)⟩,⟨⟩,⟨⟩⟩ ?_
    refine Ev.cond false rfl (fun h => (by cases h)) (fun _ => ?_)
    refine Ev.skip ?_
    refine Ev.seq ?_
    refine Ev.draw 10 [false,false,false,false,false,false,false,false,false,false] [] [0,1,2,10] (st' := ⟨[(0,(i6 6)),(1,(LI ws)),(2,(LI xs)),(10,(.ptr 0 0 0 0))],[(.var 61 [(LI ws),(LI xs),(i6 (nums.getD 0 0)),(i6 (nums.getD 1 0))])]⟩)
      (p := (True∧True∧True∧(0 ≤ (0 : Int)∧0 < (nums.length : Int))∧True∧True∧(0 ≤ (1 : Int)∧1 < (nums.length : Int))∧True∧True∧True∧True)∧(True∧True)) (by kernel_rfl) (by kernel_rfl)
      ⟨⟨⟨⟩,⟨⟩,⟨⟩,(by first | omega | (simp; first | done | omega)),⟨⟩,⟨⟩,(by first | omega | (simp; first | done | omega)),⟨⟩,⟨⟩,⟨⟩,⟨⟩⟩,⟨⟨⟩,⟨⟩⟩⟩ ?_
    refine Ev.seq ?_
    rcases ok3 6 ws (nums.getD 0 0) (nums.getD 1 0) with ⟨hb,h⟩ | ⟨hb,hv,h⟩ | h
    · skip
      refine Ev.reg [(2,.call none true (.tup [(.agg [(i6 0),(.v .nilf),(.v .nilf)]),(i6 0),(dB false)]))] [1,2,10,11,13] (st' := ⟨[(1,(LI ws)),(2,(LI xs)),(10,(.ptr 0 0 0 0)),(11,(.ptr 1 0 0 0)),(13,(dB false))],[(.var 61 [(LI ws),(LI xs),(i6 (nums.getD 0 0)),(i6 (nums.getD 1 0))]),(.var 57 [(i6 0),(.v .nilf),(.v .nilf)])]⟩)
        (p := True∧True∧callOb Try.prog 27 [(.var 61 [(LI ws),(LI xs),(i6 (nums.getD 0 0)),(i6 (nums.getD 1 0))])] [(i6 6),(.agg [(LI ws),(LI xs),(i6 (nums.getD 0 0)),(i6 (nums.getD 1 0))])] none true (.tup [(.agg [(i6 0),(.v .nilf),(.v .nilf)]),(i6 0),(dB false)])∧True∧True∧True∧True∧True∧True∧True∧True∧True) (by kernel_rfl)
        ⟨⟨⟩,⟨⟩,(width_bad_6 _ _ _ _ hwl hb),⟨⟩,⟨⟩,⟨⟩,⟨⟩,⟨⟩,⟨⟩,⟨⟩,⟨⟩,⟨⟩⟩ ?_
      refine Ev.seq ?_
      refine Ev.seq ?_
      refine Ev.reg [] [1,2,10,11,43] (st' := ⟨[(1,(LI ws)),(2,(LI xs)),(10,(.ptr 0 0 0 0)),(11,(.ptr 1 0 0 0)),(43,(dB true))],[(.var 61 [(LI ws),(LI xs),(i6 (nums.getD 0 0)),(i6 (nums.getD 1 0))]),(.var 57 [(i6 0),(.v .nilf),(.v .nilf)])]⟩)
        (p := True∧True∧True) (by kernel_rfl)
        ⟨⟨⟩,⟨⟩,⟨⟩⟩ ?_
      refine Ev.cond true rfl (fun _ => ?_) (fun h => (by cases h))
      refine Ev.seq ?_
      refine Ev.reg [] [8,9] (st' := ⟨[(8,(i6 0)),(9,(i6 1))],[(.var 61 [(LI ws),(LI xs),(i6 (nums.getD 0 0)),(i6 (nums.getD 1 0))]),(.var 57 [(i6 0),(.v .nilf),(.v .nilf)])]⟩)
        (p := True∧True∧True) (by kernel_rfl)
        ⟨⟨⟩,⟨⟩,⟨⟩⟩ ?_
      refine Ev.ret ?_
      refine ⟨⟨⟨⟩,⟨⟩,⟨⟩⟩,(?_ : (0 : Int) = (applyV 6 ws xs nums)∧(1 : Int) = (applyE 6 ws xs nums)∧True),.inr ⟨⟨⟩,⟨⟩,⟨⟩⟩⟩
      exact ⟨(ap_no (ap_bad h)).1.symm,(ap_no (ap_bad h)).2.symm,⟨⟩⟩
    · skip
      refine Ev.reg [(2,.call none true (.tup [(.agg [(i6 2),(.fn (.func 43) [] []),(.fn (.func 47) [] [])]),(i6 (wvF 6 ws (nums.getD 0 0) (nums.getD 1 0))),(dB false)]))] [1,2,10,11,13] (st' := ⟨[(1,(LI ws)),(2,(LI xs)),(10,(.ptr 0 0 0 0)),(11,(.ptr 1 0 0 0)),(13,(dB false))],[(.var 61 [(LI ws),(LI xs),(i6 (nums.getD 0 0)),(i6 (nums.getD 1 0))]),(.var 57 [(i6 2),(.fn (.func 43) [] []),(.fn (.func 47) [] [])])]⟩)
        (p := True∧True∧callOb Try.prog 27 [(.var 61 [(LI ws),(LI xs),(i6 (nums.getD 0 0)),(i6 (nums.getD 1 0))])] [(i6 6),(.agg [(LI ws),(LI xs),(i6 (nums.getD 0 0)),(i6 (nums.getD 1 0))])] none true (.tup [(.agg [(i6 2),(.fn (.func 43) [] []),(.fn (.func 47) [] [])]),(i6 (wvF 6 ws (nums.getD 0 0) (nums.getD 1 0))),(dB false)])∧True∧True∧True∧True∧True∧True∧True∧True∧True) (by kernel_rfl)
        ⟨⟨⟩,⟨⟩,(width_wv_6 _ _ _ _ hwl hb hv),⟨⟩,⟨⟩,⟨⟩,⟨⟩,⟨⟩,⟨⟩,⟨⟩,⟨⟩,⟨⟩⟩ ?_
      refine Ev.seq ?_
      refine Ev.seq ?_
      refine Ev.reg [] [1,2,10,11,43] (st' := ⟨[(1,(LI ws)),(2,(LI xs)),(10,(.ptr 0 0 0 0)),(11,(.ptr 1 0 0 0)),(43,(dB true))],[(.var 61 [(LI ws),(LI xs),(i6 (nums.getD 0 0)),(i6 (nums.getD 1 0))]),(.var 57 [(i6 2),(.fn (.func 43) [] []),(.fn (.func 47) [] [])])]⟩)
        (p := True∧True∧True) (by kernel_rfl)
        ⟨⟨⟩,⟨⟩,⟨⟩⟩ ?_
      refine Ev.cond true rfl (fun _ => ?_) (fun h => (by cases h))
      refine Ev.seq ?_
      refine Ev.reg [] [8,9] (st' := ⟨[(8,(i6 0)),(9,(i6 1))],[(.var 61 [(LI ws),(LI xs),(i6 (nums.getD 0 0)),(i6 (nums.getD 1 0))]),(.var 57 [(i6 2),(.fn (.func 43) [] []),(.fn (.func 47) [] [])])]⟩)
        (p := True∧True∧True) (by kernel_rfl)
        ⟨⟨⟩,⟨⟩,⟨⟩⟩ ?_
      refine Ev.ret ?_
      refine ⟨⟨⟨⟩,⟨⟩,⟨⟩⟩,(?_ : (0 : Int) = (applyV 6 ws xs nums)∧(1 : Int) = (applyE 6 ws xs nums)∧True),.inr ⟨⟨⟩,⟨⟩,⟨⟩⟩⟩
      exact ⟨(ap_no (ap_bad h)).1.symm,(ap_no (ap_bad h)).2.symm,⟨⟩⟩
    · skip
      refine Ev.reg [(2,.call none true (.tup [(.agg [(i6 2),(.fn (.func 43) [] []),(.fn (.func 47) [] [])]),(i6 (wvF 6 ws (nums.getD 0 0) (nums.getD 1 0))),(dB true)]))] [1,2,10,11,13] (st' := ⟨[(1,(LI ws)),(2,(LI xs)),(10,(.ptr 0 0 0 0)),(11,(.ptr 1 0 0 0)),(13,(dB true))],[(.var 61 [(LI ws),(LI xs),(i6 (nums.getD 0 0)),(i6 (nums.getD 1 0))]),(.var 57 [(i6 2),(.fn (.func 43) [] []),(.fn (.func 47) [] [])])]⟩)
        (p := True∧True∧callOb Try.prog 27 [(.var 61 [(LI ws),(LI xs),(i6 (nums.getD 0 0)),(i6 (nums.getD 1 0))])] [(i6 6),(.agg [(LI ws),(LI xs),(i6 (nums.getD 0 0)),(i6 (nums.getD 1 0))])] none true (.tup [(.agg [(i6 2),(.fn (.func 43) [] []),(.fn (.func 47) [] [])]),(i6 (wvF 6 ws (nums.getD 0 0) (nums.getD 1 0))),(dB true)])∧True∧True∧True∧True∧True∧True∧True∧True∧True) (by kernel_rfl)
        ⟨⟨⟩,⟨⟩,(width_good_6 _ _ _ _ hwl h),⟨⟩,⟨⟩,⟨⟩,⟨⟩,⟨⟩,⟨⟩,⟨⟩,⟨⟩,⟨⟩⟩ ?_
      refine Ev.seq ?_
      refine Ev.seq ?_
      refine Ev.reg [] [1,2,10,11,43] (st' := ⟨[(1,(LI ws)),(2,(LI xs)),(10,(.ptr 0 0 0 0)),(11,(.ptr 1 0 0 0)),(43,(dB false))],[(.var 61 [(LI ws),(LI xs),(i6 (nums.getD 0 0)),(i6 (nums.getD 1 0))]),(.var 57 [(i6 2),(.fn (.func 43) [] []),(.fn (.func 47) [] [])])]⟩)
        (p := True∧True∧True) (by kernel_rfl)
        ⟨⟨⟩,⟨⟩,⟨⟩⟩ ?_
      refine Ev.cond false rfl (fun h => (by cases h)) (fun _ => ?_)
      refine Ev.skip ?_
      refine Ev.seq ?_
      refine Ev.seq ?_
      refine Ev.reg [] [1,10,11,44,45,46] (st' := ⟨[(1,(LI ws)),(10,(.ptr 0 0 0 0)),(11,(.ptr 1 0 0 0)),(44,(LI xs)),(45,(i6 ((xs.length : Nat) : Int))),(46,(i6 0))],[(.var 61 [(LI ws),(LI xs),(i6 (nums.getD 0 0)),(i6 (nums.getD 1 0))]),(.var 57 [(i6 2),(.fn (.func 43) [] []),(.fn (.func 47) [] [])])]⟩)
        (p := True∧True∧True∧True) (by kernel_rfl)
        ⟨⟨⟩,⟨⟩,⟨⟩,⟨⟩⟩ ?_
      refine Ev.block ?_
      refine Ev.loop [1,10,11,44,45,46] 2 (fun (i : Nat) => ⟨[(1,(LI ws)),(10,(.ptr 0 0 0 0)),(11,(.ptr 1 0 0 0)),(44,(LI xs)),(45,(i6 ((xs.length : Nat) : Int))),(46,(i6 ((i : Nat) : Int)))],[(.var 61 [(LI ws),(LI xs),(i6 (nums.getD 0 0)),(i6 (nums.getD 1 0))]),(.var 57 [(i6 2),(.fn (.func 43) [] []),(.fn (.func 47) [] [])])]⟩) (fun (i : Nat) => i ≤ xs.length∧∀ j,j < i → 0 ≤ xs.getD j 0∧xs.getD j 0 ≤ maskF (ws.getD j 0)) (fun (i : Nat) => xs.length - i) 0 (by kernel_rfl) (⟨by omega,fun j hj => by omega⟩) ?_
      rintro i hinv
      have hinv : i ≤ xs.length∧∀ j,j < i → 0 ≤ xs.getD j 0∧xs.getD j 0 ≤ maskF (ws.getD j 0) := hinv
      obtain ⟨hi,hall⟩ := hinv
      refine Ev.seq ?_
      refine Ev.reg [] [1,10,11,44,45,46,47] (st' := ⟨[(1,(LI ws)),(10,(.ptr 0 0 0 0)),(11,(.ptr 1 0 0 0)),(44,(LI xs)),(45,(i6 ((xs.length : Nat) : Int))),(46,(i6 ((i : Nat) : Int))),(47,(dB (decide (((i : Nat) : Int) < ((xs.length : Nat) : Int)))))],[(.var 61 [(LI ws),(LI xs),(i6 (nums.getD 0 0)),(i6 (nums.getD 1 0))]),(.var 57 [(i6 2),(.fn (.func 43) [] []),(.fn (.func 47) [] [])])]⟩)
        (p := True∧True) (by kernel_rfl)
        ⟨⟨⟩,⟨⟩⟩ ?_
      refine Ev.seq ?_
      refine Ev.cond _ rfl (fun hc47 => ?_) (fun hc47 => ?_)
      · try simp only [decide_eq_true_eq,decide_eq_false_iff_not,beq_iff_eq,bne_iff_ne,ne_eq,beq_eq_false_iff_ne,bne_eq_false_iff_eq,Bool.not_eq_true,Bool.not_eq_false,Bool.not_eq_true',Bool.not_eq_false',Bool.not_not,gt_iff_lt,ge_iff_le,Nat.not_lt,Int.not_lt,Int.not_le] at hc47
        refine Ev.skip ?_
        refine Ev.seq ?_
        refine Ev.block ?_
        refine Ev.seq ?_
        refine Ev.reg [] [1,10,11,14,15,44,45,46] (st' := ⟨[(1,(LI ws)),(10,(.ptr 0 0 0 0)),(11,(.ptr 1 0 0 0)),(14,(i6 ((i : Nat) : Int))),(15,(i6 (xs.getD i 0))),(44,(LI xs)),(45,(i6 ((xs.length : Nat) : Int))),(46,(i6 ((i : Nat) : Int)))],[(.var 61 [(LI ws),(LI xs),(i6 (nums.getD 0 0)),(i6 (nums.getD 1 0))]),(.var 57 [(i6 2),(.fn (.func 43) [] []),(.fn (.func 47) [] [])])]⟩)
          (p := True∧(0 ≤ ((i : Nat) : Int)∧((i : Nat) : Int) < (xs.length : Int))∧True∧True∧True∧True) (by kernel_rfl)
          ⟨⟨⟩,(by first | omega | (simp; first | done | omega)),⟨⟩,⟨⟩,⟨⟩,⟨⟩⟩ ?_
        refine Ev.seq ?_
        rcases Int.lt_or_le (xs.getD i 0) 0 with hn | hn
        · skip
          refine Ev.reg [(1,.val (dB true))] [1,10,11,44,45,46,61] (st' := ⟨[(1,(LI ws)),(10,(.ptr 0 0 0 0)),(11,(.ptr 1 0 0 0)),(44,(LI xs)),(45,(i6 ((xs.length : Nat) : Int))),(46,(i6 ((i : Nat) : Int))),(61,(dB true))],[(.var 61 [(LI ws),(LI xs),(i6 (nums.getD 0 0)),(i6 (nums.getD 1 0))]),(.var 57 [(i6 2),(.fn (.func 43) [] []),(.fn (.func 47) [] [])])]⟩)
            (p := True∧(True∧(decide ((xs.getD i 0) < 0)) = true)∧True∧True∧True∧True∧True∧True∧True∧True∧True∧True) (by kernel_rfl)
            ⟨⟨⟩,⟨⟨⟩,(by simpa using hn)⟩,⟨⟩,⟨⟩,⟨⟩,⟨⟩,⟨⟩,⟨⟩,⟨⟩,⟨⟩,⟨⟩,⟨⟩⟩ ?_
          refine Ev.cond true rfl (fun _ => ?_) (fun h => (by cases h))
          refine Ev.seq ?_
          refine Ev.reg [] [8,9] (st' := ⟨[(8,(i6 0)),(9,(i6 1))],[(.var 61 [(LI ws),(LI xs),(i6 (nums.getD 0 0)),(i6 (nums.getD 1 0))]),(.var 57 [(i6 2),(.fn (.func 43) [] []),(.fn (.func 47) [] [])])]⟩)
            (p := True∧True∧True) (by kernel_rfl)
            ⟨⟨⟩,⟨⟩,⟨⟩⟩ ?_
          refine Ev.ret ?_
          refine ⟨⟨⟨⟩,⟨⟩,⟨⟩⟩,(?_ : (0 : Int) = (applyV 6 ws xs nums)∧(1 : Int) = (applyE 6 ws xs nums)∧True),.inr ⟨⟨⟩,⟨⟩,⟨⟩⟩⟩
          exact ⟨(ap_no (ap_in (i := i) (by omega) (.inl hn))).1.symm,(ap_no (ap_in (i := i) (by omega) (.inl hn))).2.symm,⟨⟩⟩
        · skip
          refine Ev.reg [(1,.val (dB false)),(8,.call none false (i6 (maskF (ws.getD i 0))))] [1,10,11,44,45,46,61] (st' := ⟨[(1,(LI ws)),(10,(.ptr 0 0 0 0)),(11,(.ptr 1 0 0 0)),(44,(LI xs)),(45,(i6 ((xs.length : Nat) : Int))),(46,(i6 ((i : Nat) : Int))),(61,(dB (decide ((xs.getD i 0) > (maskF (ws.getD i 0))))))],[(.var 61 [(LI ws),(LI xs),(i6 (nums.getD 0 0)),(i6 (nums.getD 1 0))]),(.var 57 [(i6 2),(.fn (.func 43) [] []),(.fn (.func 47) [] [])])]⟩)
            (p := True∧(True∧(decide ((xs.getD i 0) < 0)) = false)∧True∧True∧True∧True∧(0 ≤ ((i : Nat) : Int)∧((i : Nat) : Int) < (ws.length : Int))∧True∧callOb Try.prog 14 [(.var 61 [(LI ws),(LI xs),(i6 (nums.getD 0 0)),(i6 (nums.getD 1 0))]),(.var 57 [(i6 2),(.fn (.func 43) [] []),(.fn (.func 47) [] [])])] [(i6 (ws.getD i 0))] none false (i6 (maskF (ws.getD i 0)))∧True∧True∧True) (by kernel_rfl)
            ⟨⟨⟩,⟨⟨⟩,(by simpa using hn)⟩,⟨⟩,⟨⟩,⟨⟩,⟨⟩,(by first | omega | (simp; first | done | omega)),⟨⟩,(mask_ok _),⟨⟩,⟨⟩,⟨⟩⟩ ?_
          refine Ev.cond _ rfl (fun hc61 => ?_) (fun hc61 => ?_)
          · try simp only [decide_eq_true_eq,decide_eq_false_iff_not,beq_iff_eq,bne_iff_ne,ne_eq,beq_eq_false_iff_ne,bne_eq_false_iff_eq,Bool.not_eq_true,Bool.not_eq_false,Bool.not_eq_true',Bool.not_eq_false',Bool.not_not,gt_iff_lt,ge_iff_le,Nat.not_lt,Int.not_lt,Int.not_le] at hc61
            refine Ev.seq ?_
            refine Ev.reg [] [8,9] (st' := ⟨[(8,(i6 0)),(9,(i6 1))],[(.var 61 [(LI ws),(LI xs),(i6 (nums.getD 0 0)),(i6 (nums.getD 1 0))]),(.var 57 [(i6 2),(.fn (.func 43) [] []),(.fn (.func 47) [] [])])]⟩)
              (p := True∧True∧True) (by kernel_rfl)
              ⟨⟨⟩,⟨⟩,⟨⟩⟩ ?_
            refine Ev.ret ?_
            refine ⟨⟨⟨⟩,⟨⟩,⟨⟩⟩,(?_ : (0 : Int) = (applyV 6 ws xs nums)∧(1 : Int) = (applyE 6 ws xs nums)∧True),.inr ⟨⟨⟩,⟨⟩,⟨⟩⟩⟩
            exact ⟨(ap_no (ap_in (i := i) (by omega) (.inr (by omega)))).1.symm,(ap_no (ap_in (i := i) (by omega) (.inr (by omega)))).2.symm,⟨⟩⟩
          · try simp only [decide_eq_true_eq,decide_eq_false_iff_not,beq_iff_eq,bne_iff_ne,ne_eq,beq_eq_false_iff_ne,bne_eq_false_iff_eq,Bool.not_eq_true,Bool.not_eq_false,Bool.not_eq_true',Bool.not_eq_false',Bool.not_not,gt_iff_lt,ge_iff_le,Nat.not_lt,Int.not_lt,Int.not_le] at hc61
            refine Ev.skip ?_
            refine Ev.reg [(0,.val (i6 ((i + 1 : Nat) : Int)))] [1,10,11,44,45,46] (st' := ⟨[(1,(LI ws)),(10,(.ptr 0 0 0 0)),(11,(.ptr 1 0 0 0)),(44,(LI xs)),(45,(i6 ((xs.length : Nat) : Int))),(46,(i6 ((i + 1 : Nat) : Int)))],[(.var 61 [(LI ws),(LI xs),(i6 (nums.getD 0 0)),(i6 (nums.getD 1 0))]),(.var 57 [(i6 2),(.fn (.func 43) [] []),(.fn (.func 47) [] [])])]⟩)
              (p := (True∧(IntKind.wrap .i64 (((i : Nat) : Int) + 1)) = ((i + 1 : Nat) : Int))∧True∧True) (by kernel_rfl)
              ⟨⟨⟨⟩,(w64n (by first | rfl | simp | omega) (by first | omega | (simp; first | done | omega)))⟩,⟨⟩,⟨⟩⟩ ?_
            refine ⟨i + 1,by kernel_rfl,(?_ : (i + 1) ≤ xs.length∧∀ j,j < (i + 1) → 0 ≤ xs.getD j 0∧xs.getD j 0 ≤ maskF (ws.getD j 0)),(?_ : xs.length - (i + 1) < xs.length - i)⟩
            · exact ⟨by omega,lt_more hall ⟨by omega,by omega⟩⟩
            · omega
      · try simp only [decide_eq_true_eq,decide_eq_false_iff_not,beq_iff_eq,bne_iff_ne,ne_eq,beq_eq_false_iff_ne,bne_eq_false_iff_eq,Bool.not_eq_true,Bool.not_eq_false,Bool.not_eq_true',Bool.not_eq_false',Bool.not_not,gt_iff_lt,ge_iff_le,Nat.not_lt,Int.not_lt,Int.not_le] at hc47
        refine Ev.exit ?_
        refine Ev.seq ?_
        have hin : inF ws xs = true := in_all (fun j hj => hall j (by omega))
        obtain ⟨hl0,hf,-⟩ := ok_yes h
        have hA : arityF 6 = 2 := by decide
        rw [hA] at hl0
        refine Ev.reg [(3,.call none false (i6 (avF 6 ws xs (nums.getD 0 0) (nums.getD 1 0))))] [8,9] (st' := ⟨[(8,(i6 (avF 6 ws xs (nums.getD 0 0) (nums.getD 1 0)))),(9,(i6 0))],[(.var 61 [(LI ws),(LI xs),(i6 (nums.getD 0 0)),(i6 (nums.getD 1 0))]),(.var 57 [(i6 2),(.fn (.func 43) [] []),(.fn (.func 47) [] [])])]⟩)
          (p := True∧True∧True∧callOb Try.prog 47 [(.var 61 [(LI ws),(LI xs),(i6 (nums.getD 0 0)),(i6 (nums.getD 1 0))]),(.var 57 [(i6 2),(.fn (.func 43) [] []),(.fn (.func 47) [] [])])] [(.agg [(LI ws),(LI xs),(i6 (nums.getD 0 0)),(i6 (nums.getD 1 0))])] none false (i6 (avF 6 ws xs (nums.getD 0 0) (nums.getD 1 0)))∧True∧True∧True) (by kernel_rfl)
          ⟨⟨⟩,⟨⟩,⟨⟩,(add_ok _ _ _ _ (by omega) (by assumption) (by omega) (by assumption)),⟨⟩,⟨⟩,⟨⟩⟩ ?_
        refine Ev.ret ?_
        refine ⟨⟨⟨⟩,⟨⟩,⟨⟩⟩,(?_ : (avF 6 ws xs (nums.getD 0 0) (nums.getD 1 0)) = (applyV 6 ws xs nums)∧(0 : Int) = (applyE 6 ws xs nums)∧True),.inr ⟨⟨⟩,⟨⟩,⟨⟩⟩⟩
        exact ⟨(ap_yes hx.1 hx.2 h hin).1.symm,(ap_yes hx.1 hx.2 h hin).2.symm,⟨⟩⟩

set_option maxRecDepth 100000 in
theorem Apply_7 (ws xs nums : List Int) (hwl : ws.length ≤ 9223372036854775807) (hxl : xs.length ≤ 9223372036854775807) : CallOk Try.prog 12 [(i6 7),(LI ws),(LI xs),(LI nums)] [] false (.tup [(i6 (applyV 7 ws xs nums)),(i6 (applyE 7 ws xs nums))]) [] := by
  refine CallOk.of_ev Try.func12 rfl rfl rfl ?_
  rintro ⟨_,W,S0,_,susp,_⟩ rfl rfl rfl
  refine Ev.seq ?_
  refine Ev.reg [] [0,1,2,3] (st' := ⟨[(0,(i6 7)),(1,(LI ws)),(2,(LI xs)),(3,(LI nums))],[]⟩)
    (p := True∧True∧True) (by kernel_rfl)
    ⟨⟨⟩,⟨⟩,⟨⟩⟩ ?_
  refine Ev.seq ?_
  refine Ev.seq ?_
  rcases (show nums.length ≠ 2 ∨ (nums.length = 2∧xs.length ≠ ws.length) ∨ (nums.length = 2∧xs.length = ws.length) from by omega) with hx | hx | hx
  · skip
    refine Ev.reg [(2,.val (dB true))] [0,1,2,3,25] (st' := ⟨[(0,(i6 7)),(1,(LI ws)),(2,(LI xs)),(3,(LI nums)),(25,(dB true))],[]⟩)
      (p := True∧True∧(True∧(((nums.length : Nat) : Int) != 2) = true)∧True∧True∧True∧True∧True∧True∧True∧True) (by kernel_rfl)
      ⟨⟨⟩,⟨⟩,⟨⟨⟩,(by exact bne_iff_ne.2 (by omega))⟩,⟨⟩,⟨⟩,⟨⟩,⟨⟩,⟨⟩,⟨⟩,⟨⟩,⟨⟩⟩ ?_
    refine Ev.cond true rfl (fun _ => ?_) (fun h => (by cases h))
    refine Ev.seq ?_
    refine Ev.reg [] [8,9] (st' := ⟨[(8,(i6 0)),(9,(i6 1))],[]⟩)
      (p := True∧True∧True) (by kernel_rfl)
      ⟨⟨⟩,⟨⟩,⟨⟩⟩ ?_
    refine Ev.ret ?_
    refine ⟨⟨⟨⟩,⟨⟩,⟨⟩⟩,(?_ : (0 : Int) = (applyV 7 ws xs nums)∧(1 : Int) = (applyE 7 ws xs nums)∧True),.inr ⟨⟨⟩,⟨⟩,⟨⟩⟩⟩
    exact ⟨(ap_no (ap_n hx)).1.symm,(ap_no (ap_n hx)).2.symm,⟨⟩⟩
  · skip
    refine Ev.reg [(2,.val (dB false)),(8,.val (dB true))] [0,1,2,3,25] (st' := ⟨[(0,(i6 7)),(1,(LI ws)),(2,(LI xs)),(3,(LI nums)),(25,(dB true))],[]⟩)
      (p := True∧True∧(True∧(((nums.length : Nat) : Int) != 2) = false)∧True∧True∧True∧True∧True∧(True∧(((xs.length : Nat) : Int) != ((ws.length : Nat) : Int)) = true)∧True∧True) (by kernel_rfl)
      ⟨⟨⟩,⟨⟩,⟨⟨⟩,(by rw [hx.1]; rfl)⟩,⟨⟩,⟨⟩,⟨⟩,⟨⟩,⟨⟩,⟨⟨⟩,(by exact bne_iff_ne.2 (by omega))⟩,⟨⟩,⟨⟩⟩ ?_
    refine Ev.cond true rfl (fun _ => ?_) (fun h => (by cases h))
    refine Ev.seq ?_
    refine Ev.reg [] [8,9] (st' := ⟨[(8,(i6 0)),(9,(i6 1))],[]⟩)
      (p := True∧True∧True) (by kernel_rfl)
      ⟨⟨⟩,⟨⟩,⟨⟩⟩ ?_
    refine Ev.ret ?_
    refine ⟨⟨⟨⟩,⟨⟩,⟨⟩⟩,(?_ : (0 : Int) = (applyV 7 ws xs nums)∧(1 : Int) = (applyE 7 ws xs nums)∧True),.inr ⟨⟨⟩,⟨⟩,⟨⟩⟩⟩
    exact ⟨(ap_no (ap_l hx.2)).1.symm,(ap_no (ap_l hx.2)).2.symm,⟨⟩⟩
  · skip
    refine Ev.reg [(2,.val (dB false)),(8,.val (dB false))] [0,1,2,3,25] (st' := ⟨[(0,(i6 7)),(1,(LI ws)),(2,(LI xs)),(3,(LI nums)),(25,(dB false))],[]⟩)
      (p := True∧True∧(True∧(((nums.length : Nat) : Int) != 2) = false)∧True∧True∧True∧True∧True∧(True∧(((xs.length : Nat) : Int) != ((ws.length : Nat) : Int)) = false)∧True∧True) (by kernel_rfl)
      ⟨⟨⟩,⟨⟩,⟨⟨⟩,(by rw [hx.1]; rfl)⟩,⟨⟩,⟨⟩,⟨⟩,⟨⟩,⟨⟩,⟨⟨⟩,(by rw [hx.2]; simp)⟩,⟨⟩,⟨⟩⟩ ?_
    refine Ev.cond false rfl (fun h => (by cases h)) (fun _ => ?_)
    refine Ev.skip ?_
    refine Ev.seq ?_
    refine Ev.draw 10 [false,false,false,false,false,false,false,false,false,false] [] [0,1,2,10] (st' := ⟨[(0,(i6 7)),(1,(LI ws)),(2,(LI xs)),(10,(.ptr 0 0 0 0))],[(.var 61 [(LI ws),(LI xs),(i6 (nums.getD 0 0)),(i6 (nums.getD 1 0))])]⟩)
      (p := (True∧True∧True∧(0 ≤ (0 : Int)∧0 < (nums.length : Int))∧True∧True∧(0 ≤ (1 : Int)∧1 < (nums.length : Int))∧True∧True∧True∧True)∧(True∧True)) (by kernel_rfl) (by kernel_rfl)
      ⟨⟨⟨⟩,⟨⟩,⟨⟩,(by first | omega | (simp; first | done | omega)),⟨⟩,⟨⟩,(by first | omega | (simp; first | done | omega)),⟨⟩,⟨⟩,⟨⟩,⟨⟩⟩,⟨⟨⟩,⟨⟩⟩⟩ ?_
    refine Ev.seq ?_
    rcases ok3 7 ws (nums.getD 0 0) (nums.getD 1 0) with ⟨hb,h⟩ | ⟨hb,hv,h⟩ | h
    · skip
      refine Ev.reg [(2,.call none true (.tup [(.agg [(i6 0),(.v .nilf),(.v .nilf)]),(i6 0),(dB false)]))] [1,2,10,11,13] (st' := ⟨[(1,(LI ws)),(2,(LI xs)),(10,(.ptr 0 0 0 0)),(11,(.ptr 1 0 0 0)),(13,(dB false))],[(.var 61 [(LI ws),(LI xs),(i6 (nums.getD 0 0)),(i6 (nums.getD 1 0))]),(.var 57 [(i6 0),(.v .nilf),(.v .nilf)])]⟩)
        (p := True∧True∧callOb Try.prog 27 [(.var 61 [(LI ws),(LI xs),(i6 (nums.getD 0 0)),(i6 (nums.getD 1 0))])] [(i6 7),(.agg [(LI ws),(LI xs),(i6 (nums.getD 0 0)),(i6 (nums.getD 1 0))])] none true (.tup [(.agg [(i6 0),(.v .nilf),(.v .nilf)]),(i6 0),(dB false)])∧True∧True∧True∧True∧True∧True∧True∧True∧True) (by kernel_rfl)
        ⟨⟨⟩,⟨⟩,(width_bad_7 _ _ _ _ hwl hb),⟨⟩,⟨⟩,⟨⟩,⟨⟩,⟨⟩,⟨⟩,⟨⟩,⟨⟩,⟨⟩⟩ ?_
      refine Ev.seq ?_
      refine Ev.seq ?_
      refine Ev.reg [] [1,2,10,11,43] (st' := ⟨[(1,(LI ws)),(2,(LI xs)),(10,(.ptr 0 0 0 0)),(11,(.ptr 1 0 0 0)),(43,(dB true))],[(.var 61 [(LI ws),(LI xs),(i6 (nums.getD 0 0)),(i6 (nums.getD 1 0))]),(.var 57 [(i6 0),(.v .nilf),(.v .nilf)])]⟩)
        (p := True∧True∧True) (by kernel_rfl)
        ⟨⟨⟩,⟨⟩,⟨⟩⟩ ?_
      refine Ev.cond true rfl (fun _ => ?_) (fun h => (by cases h))
      refine Ev.seq ?_
      refine Ev.reg [] [8,9] (st' := ⟨[(8,(i6 0)),(9,(i6 1))],[(.var 61 [(LI ws),(LI xs),(i6 (nums.getD 0 0)),(i6 (nums.getD 1 0))]),(.var 57 [(i6 0),(.v .nilf),(.v .nilf)])]⟩)
        (p := True∧True∧True) (by kernel_rfl)
        ⟨⟨⟩,⟨⟩,⟨⟩⟩ ?_
      refine Ev.ret ?_
      refine ⟨⟨⟨⟩,⟨⟩,⟨⟩⟩,(?_ : (0 : Int) = (applyV 7 ws xs nums)∧(1 : Int) = (applyE 7 ws xs nums)∧True),.inr ⟨⟨⟩,⟨⟩,⟨⟩⟩⟩
      exact ⟨(ap_no (ap_bad h)).1.symm,(ap_no (ap_bad h)).2.symm,⟨⟩⟩
    · skip
      refine Ev.reg [(2,.call none true (.tup [(.agg [(i6 2),(.fn (.func 43) [] []),(.fn (.func 48) [] [])]),(i6 (wvF 7 ws (nums.getD 0 0) (nums.getD 1 0))),(dB false)]))] [1,2,10,11,13] (st' := ⟨[(1,(LI ws)),(2,(LI xs)),(10,(.ptr 0 0 0 0)),(11,(.ptr 1 0 0 0)),(13,(dB false))],[(.var 61 [(LI ws),(LI xs),(i6 (nums.getD 0 0)),(i6 (nums.getD 1 0))]),(.var 57 [(i6 2),(.fn (.func 43) [] []),(.fn (.func 48) [] [])])]⟩)
        (p := True∧True∧callOb Try.prog 27 [(.var 61 [(LI ws),(LI xs),(i6 (nums.getD 0 0)),(i6 (nums.getD 1 0))])] [(i6 7),(.agg [(LI ws),(LI xs),(i6 (nums.getD 0 0)),(i6 (nums.getD 1 0))])] none true (.tup [(.agg [(i6 2),(.fn (.func 43) [] []),(.fn (.func 48) [] [])]),(i6 (wvF 7 ws (nums.getD 0 0) (nums.getD 1 0))),(dB false)])∧True∧True∧True∧True∧True∧True∧True∧True∧True) (by kernel_rfl)
        ⟨⟨⟩,⟨⟩,(width_wv_7 _ _ _ _ hwl hb hv),⟨⟩,⟨⟩,⟨⟩,⟨⟩,⟨⟩,⟨⟩,⟨⟩,⟨⟩,⟨⟩⟩ ?_
      refine Ev.seq ?_
      refine Ev.seq ?_
      refine Ev.reg [] [1,2,10,11,43] (st' := ⟨[(1,(LI ws)),(2,(LI xs)),(10,(.ptr 0 0 0 0)),(11,(.ptr 1 0 0 0)),(43,(dB true))],[(.var 61 [(LI ws),(LI xs),(i6 (nums.getD 0 0)),(i6 (nums.getD 1 0))]),(.var 57 [(i6 2),(.fn (.func 43) [] []),(.fn (.func 48) [] [])])]⟩)
        (p := True∧True∧True) (by kernel_rfl)
        ⟨⟨⟩,⟨⟩,⟨⟩⟩ ?_
      refine Ev.cond true rfl (fun _ => ?_) (fun h => (by cases h))
      refine Ev.seq ?_
      refine Ev.reg [] [8,9] (st' := ⟨[(8,(i6 0)),(9,(i6 1))],[(.var 61 [(LI ws),(LI xs),(i6 (nums.getD 0 0)),(i6 (nums.getD 1 0))]),(.var 57 [(i6 2),(.fn (.func 43) [] []),(.fn (.func 48) [] [])])]⟩)
        (p := True∧True∧True) (by kernel_rfl)
        ⟨⟨⟩,⟨⟩,⟨⟩⟩ ?_
      refine Ev.ret ?_
      refine ⟨⟨⟨⟩,⟨⟩,⟨⟩⟩,(?_ : (0 : Int) = (applyV 7 ws xs nums)∧(1 : Int) = (applyE 7 ws xs nums)∧True),.inr ⟨⟨⟩,⟨⟩,⟨⟩⟩⟩
      exact ⟨(ap_no (ap_bad h)).1.symm,(ap_no (ap_bad h)).2.symm,⟨⟩⟩
    · skip
      refine Ev.reg [(2,.call none true (.tup [(.agg [(i6 2),(.fn (.func 43) [] []),(.fn (.func 48) [] [])]),(i6 (wvF 7 ws (nums.getD 0 0) (nums.getD 1 0))),(dB true)]))] [1,2,10,11,13] (st' := ⟨[(1,(LI ws)),(2,(LI xs)),(10,(.ptr 0 0 0 0)),(11,(.ptr 1 0 0 0)),(13,(dB true))],[(.var 61 [(LI ws),(LI xs),(i6 (nums.getD 0 0)),(i6 (nums.getD 1 0))]),(.var 57 [(i6 2),(.fn (.func 43) [] []),(.fn (.func 48) [] [])])]⟩)
        (p := True∧True∧callOb Try.prog 27 [(.var 61 [(LI ws),(LI xs),(i6 (nums.getD 0 0)),(i6 (nums.getD 1 0))])] [(i6 7),(.agg [(LI ws),(LI xs),(i6 (nums.getD 0 0)),(i6 (nums.getD 1 0))])] none true (.tup [(.agg [(i6 2),(.fn (.func 43) [] []),(.fn (.func 48) [] [])]),(i6 (wvF 7 ws (nums.getD 0 0) (nums.getD 1 0))),(dB true)])∧True∧True∧True∧True∧True∧True∧True∧True∧True) (by kernel_rfl)
        ⟨⟨⟩,⟨⟩,(width_good_7 _ _ _ _ hwl h),⟨⟩,⟨⟩,⟨⟩,⟨⟩,⟨⟩,⟨⟩,⟨⟩,⟨⟩,⟨⟩⟩ ?_
      refine Ev.seq ?_
      refine Ev.seq ?_
      refine Ev.reg [] [1,2,10,11,43] (st' := ⟨[(1,(LI ws)),(2,(LI xs)),(10,(.ptr 0 0 0 0)),(11,(.ptr 1 0 0 0)),(43,(dB false))],[(.var 61 [(LI ws),(LI xs),(i6 (nums.getD 0 0)),(i6 (nums.getD 1 0))]),(.var 57 [(i6 2),(.fn (.func 43) [] []),(.fn (.func 48) [] [])])]⟩)
        (p := True∧True∧True) (by kernel_rfl)
        ⟨⟨⟩,⟨⟩,⟨⟩⟩ ?_
      refine Ev.cond false rfl (fun h => (by cases h)) (fun _ => ?_)
      refine Ev.skip ?_
      refine Ev.seq ?_
      refine Ev.seq ?_
      refine Ev.reg [] [1,10,11,44,45,46] (st' := ⟨[(1,(LI ws)),(10,(.ptr 0 0 0 0)),(11,(.ptr 1 0 0 0)),(44,(LI xs)),(45,(i6 ((xs.length : Nat) : Int))),(46,(i6 0))],[(.var 61 [(LI ws),(LI xs),(i6 (nums.getD 0 0)),(i6 (nums.getD 1 0))]),(.var 57 [(i6 2),(.fn (.func 43) [] []),(.fn (.func 48) [] [])])]⟩)
        (p := True∧True∧True∧True) (by kernel_rfl)
        ⟨⟨⟩,⟨⟩,⟨⟩,⟨⟩⟩ ?_
      refine Ev.block ?_
      refine Ev.loop [1,10,11,44,45,46] 2 (fun (i : Nat) => ⟨[(1,(LI ws)),(10,(.ptr 0 0 0 0)),(11,(.ptr 1 0 0 0)),(44,(LI xs)),(45,(i6 ((xs.length : Nat) : Int))),(46,(i6 ((i : Nat) : Int)))],[(.var 61 [(LI ws),(LI xs),(i6 (nums.getD 0 0)),(i6 (nums.getD 1 0))]),(.var 57 [(i6 2),(.fn (.func 43) [] []),(.fn (.func 48) [] [])])]⟩) (fun (i : Nat) => i ≤ xs.length∧∀ j,j < i → 0 ≤ xs.getD j 0∧xs.getD j 0 ≤ maskF (ws.getD j 0)) (fun (i : Nat) => xs.length - i) 0 (by kernel_rfl) (⟨by omega,fun j hj => by omega⟩) ?_
      rintro i hinv
      have hinv : i ≤ xs.length∧∀ j,j < i → 0 ≤ xs.getD j 0∧xs.getD j 0 ≤ maskF (ws.getD j 0) := hinv
      obtain ⟨hi,hall⟩ := hinv
      refine Ev.seq ?_
      refine Ev.reg [] [1,10,11,44,45,46,47] (st' := ⟨[(1,(LI ws)),(10,(.ptr 0 0 0 0)),(11,(.ptr 1 0 0 0)),(44,(LI xs)),(45,(i6 ((xs.length : Nat) : Int))),(46,(i6 ((i : Nat) : Int))),(47,(dB (decide (((i : Nat) : Int) < ((xs.length : Nat) : Int)))))],[(.var 61 [(LI ws),(LI xs),(i6 (nums.getD 0 0)),(i6 (nums.getD 1 0))]),(.var 57 [(i6 2),(.fn (.func 43) [] []),(.fn (.func 48) [] [])])]⟩)
        (p := True∧True) (by kernel_rfl)
        ⟨⟨⟩,⟨⟩⟩ ?_
      refine Ev.seq ?_
      refine Ev.cond _ rfl (fun hc47 => ?_) (fun hc47 => ?_)
      · try simp only [decide_eq_true_eq,decide_eq_false_iff_not,beq_iff_eq,bne_iff_ne,ne_eq,beq_eq_false_iff_ne,bne_eq_false_iff_eq,Bool.not_eq_true,Bool.not_eq_false,Bool.not_eq_true',Bool.not_eq_false',Bool.not_not,gt_iff_lt,ge_iff_le,Nat.not_lt,Int.not_lt,Int.not_le] at hc47
        refine Ev.skip ?_
        refine Ev.seq ?_
        refine Ev.block ?_
        refine Ev.seq ?_
        refine Ev.reg [] [1,10,11,14,15,44,45,46] (st' := ⟨[(1,(LI ws)),(10,(.ptr 0 0 0 0)),(11,(.ptr 1 0 0 0)),(14,(i6 ((i : Nat) : Int))),(15,(i6 (xs.getD i 0))),(44,(LI xs)),(45,(i6 ((xs.length : Nat) : Int))),(46,(i6 ((i : Nat) : Int)))],[(.var 61 [(LI ws),(LI xs),(i6 (nums.getD 0 0)),(i6 (nums.getD 1 0))]),(.var 57 [(i6 2),(.fn (.func 43) [] []),(.fn (.func 48) [] [])])]⟩)
          (p := True∧(0 ≤ ((i : Nat) : Int)∧((i : Nat) : Int) < (xs.length : Int))∧True∧True∧True∧True) (by kernel_rfl)
          ⟨⟨⟩,(by first | omega | (simp; first | done | omega)),⟨⟩,⟨⟩,⟨⟩,⟨⟩⟩ ?_
        refine Ev.seq ?_
        rcases Int.lt_or_le (xs.getD i 0) 0 with hn | hn
        · skip
          refine Ev.reg [(1,.val (dB true))] [1,10,11,44,45,46,61] (st' := ⟨[(1,(LI ws)),(10,(.ptr 0 0 0 0)),(11,(.ptr 1 0 0 0)),(44,(LI xs)),(45,(i6 ((xs.length : Nat) : Int))),(46,(i6 ((i : Nat) : Int))),(61,(dB true))],[(.var 61 [(LI ws),(LI xs),(i6 (nums.getD 0 0)),(i6 (nums.getD 1 0))]),(.var 57 [(i6 2),(.fn (.func 43) [] []),(.fn (.func 48) [] [])])]⟩)
            (p := True∧(True∧(decide ((xs.getD i 0) < 0)) = true)∧True∧True∧True∧True∧True∧True∧True∧True∧True∧True) (by kernel_rfl)
            ⟨⟨⟩,⟨⟨⟩,(by simpa using hn)⟩,⟨⟩,⟨⟩,⟨⟩,⟨⟩,⟨⟩,⟨⟩,⟨⟩,⟨⟩,⟨⟩,⟨⟩⟩ ?_
          refine Ev.cond true rfl (fun _ => ?_) (fun h => (by cases h))
          refine Ev.seq ?_
          refine Ev.reg [] [8,9] (st' := ⟨[(8,(i6 0)),(9,(i6 1))],[(.var 61 [(LI ws),(LI xs),(i6 (nums.getD 0 0)),(i6 (nums.getD 1 0))]),(.var 57 [(i6 2),(.fn (.func 43) [] []),(.fn (.func 48) [] [])])]⟩)
            (p := True∧True∧True) (by kernel_rfl)
            ⟨⟨⟩,⟨⟩,⟨⟩⟩ ?_
          refine Ev.ret ?_
          refine ⟨⟨⟨⟩,⟨⟩,⟨⟩⟩,(?_ : (0 : Int) = (applyV 7 ws xs nums)∧(1 : Int) = (applyE 7 ws xs nums)∧True),.inr ⟨⟨⟩,⟨⟩,⟨⟩⟩⟩
          exact ⟨(ap_no (ap_in (i := i) (by omega) (.inl hn))).1.symm,(ap_no (ap_in (i := i) (by omega) (.inl hn))).2.symm,⟨⟩⟩
        · skip
          refine Ev.reg [(1,.val (dB false)),(8,.call none false (i6 (maskF (ws.getD i 0))))] [1,10,11,44,45,46,61] (st' := ⟨[(1,(LI ws)),(10,(.ptr 0 0 0 0)),(11,(.ptr 1 0 0 0)),(44,(LI xs)),(45,(i6 ((xs.length : Nat) : Int))),(46,(i6 ((i : Nat) : Int))),(61,(dB (decide ((xs.getD i 0) > (maskF (ws.getD i 0))))))],[(.var 61 [(LI ws),(LI xs),(i6 (nums.getD 0 0)),(i6 (nums.getD 1 0))]),(.var 57 [(i6 2),(.fn (.func 43) [] []),(.fn (.func 48) [] [])])]⟩)
            (p := True∧(True∧(decide ((xs.getD i 0) < 0)) = false)∧True∧True∧True∧True∧(0 ≤ ((i : Nat) : Int)∧((i : Nat) : Int) < (ws.length : Int))∧True∧callOb Try.prog 14 [(.var 61 [(LI ws),(LI xs),(i6 (nums.getD 0 0)),(i6 (nums.getD 1 0))]),(.var 57 [(i6 2),(.fn (.func 43) [] []),(.fn (.func 48) [] [])])] [(i6 (ws.getD i 0))] none false (i6 (maskF (ws.getD i 0)))∧True∧True∧True) (by kernel_rfl)
            ⟨⟨⟩,⟨⟨⟩,(by simpa using hn)⟩,⟨⟩,⟨⟩,⟨⟩,⟨⟩,(by first | omega | (simp; first | done | omega)),⟨⟩,(mask_ok _),⟨⟩,⟨⟩,⟨⟩⟩ ?_
          refine Ev.cond _ rfl (fun hc61 => ?_) (fun hc61 => ?_)
          · try simp only [decide_eq_true_eq,decide_eq_false_iff_not,beq_iff_eq,bne_iff_ne,ne_eq,beq_eq_false_iff_ne,bne_eq_false_iff_eq,Bool.not_eq_true,Bool.not_eq_false,Bool.not_eq_true',Bool.not_eq_false',Bool.not_not,gt_iff_lt,ge_iff_le,Nat.not_lt,Int.not_lt,Int.not_le] at hc61
            refine Ev.seq ?_
            refine Ev.reg [] [8,9] (st' := ⟨[(8,(i6 0)),(9,(i6 1))],[(.var 61 [(LI ws),(LI xs),(i6 (nums.getD 0 0)),(i6 (nums.getD 1 0))]),(.var 57 [(i6 2),(.fn (.func 43) [] []),(.fn (.func 48) [] [])])]⟩)
              (p := True∧True∧True) (by kernel_rfl)
              ⟨⟨⟩,⟨⟩,⟨⟩⟩ ?_
            refine Ev.ret ?_
            refine ⟨⟨⟨⟩,⟨⟩,⟨⟩⟩,(?_ : (0 : Int) = (applyV 7 ws xs nums)∧(1 : Int) = (applyE 7 ws xs nums)∧True),.inr ⟨⟨⟩,⟨⟩,⟨⟩⟩⟩
            exact ⟨(ap_no (ap_in (i := i) (by omega) (.inr (by omega)))).1.symm,(ap_no (ap_in (i := i) (by omega) (.inr (by omega)))).2.symm,⟨⟩⟩
          · try simp only [decide_eq_true_eq,decide_eq_false_iff_not,beq_iff_eq,bne_iff_ne,ne_eq,beq_eq_false_iff_ne,bne_eq_false_iff_eq,Bool.not_eq_true,Bool.not_eq_false,Bool.not_eq_true',Bool.not_eq_false',Bool.not_not,gt_iff_lt,ge_iff_le,Nat.not_lt,Int.not_lt,Int.not_le] at hc61
            refine Ev.skip ?_
            refine Ev.reg [(0,.val (i6 ((i + 1 : Nat) : Int)))] [1,10,11,44,45,46] (st' := ⟨[(1,(LI ws)),(10,(.ptr 0 0 0 0)),(11,(.ptr 1 0 0 0)),(44,(LI xs)),(45,(i6 ((xs.length : Nat) : Int))),(46,(i6 ((i + 1 : Nat) : Int)))],[(.var 61 [(LI ws),(LI xs),(i6 (nums.getD 0 0)),(i6 (nums.getD 1 0))]),(.var 57 [(i6 2),(.fn (.func 43) [] []),(.fn (.func 48) [] [])])]⟩)
              (p := (True∧(IntKind.wrap .i64 (((i : Nat) : Int) + 1)) = ((i + 1 : Nat) : Int))∧True∧True) (by kernel_rfl)
              ⟨⟨⟨⟩,(w64n (by first | rfl | simp | omega) (by first | omega | (simp; first | done | omega)))⟩,⟨⟩,⟨⟩⟩ ?_
            refine ⟨i + 1,by kernel_rfl,(?_ : (i + 1) ≤ xs.length∧∀ j,j < (i + 1) → 0 ≤ xs.getD j 0∧xs.getD j 0 ≤ maskF (ws.getD j 0)),(?_ : xs.length - (i + 1) < xs.length - i)⟩
            · exact ⟨by omega,lt_more hall ⟨by omega,by omega⟩⟩
            · omega
      · try simp only [decide_eq_true_eq,decide_eq_false_iff_not,beq_iff_eq,bne_iff_ne,ne_eq,beq_eq_false_iff_ne,bne_eq_false_iff_eq,Bool.not_eq_true,Bool.not_eq_false,Bool.not_eq_true',Bool.not_eq_false',Bool.not_not,gt_iff_lt,ge_iff_le,Nat.not_lt,Int.not_lt,Int.not_le] at hc47
        refine Ev.exit ?_
        refine Ev.seq ?_
        have hin : inF ws xs = true := in_all (fun j hj => hall j (by omega))
        obtain ⟨hl0,hf,-⟩ := ok_yes h
        have hA : arityF 7 = 2 := by decide
        rw [hA] at hl0
        refine Ev.reg [(3,.call none false (i6 (avF 7 ws xs (nums.getD 0 0) (nums.getD 1 0))))] [8,9] (st' := ⟨[(8,(i6 (avF 7 ws xs (nums.getD 0 0) (nums.getD 1 0)))),(9,(i6 0))],[(.var 61 [(LI ws),(LI xs),(i6 (nums.getD 0 0)),(i6 (nums.getD 1 0))]),(.var 57 [(i6 2),(.fn (.func 43) [] []),(.fn (.func 48) [] [])])]⟩)
          (p := True∧True∧True∧callOb Try.prog 48 [(.var 61 [(LI ws),(LI xs),(i6 (nums.getD 0 0)),(i6 (nums.getD 1 0))]),(.var 57 [(i6 2),(.fn (.func 43) [] []),(.fn (.func 48) [] [])])] [(.agg [(LI ws),(LI xs),(i6 (nums.getD 0 0)),(i6 (nums.getD 1 0))])] none false (i6 (avF 7 ws xs (nums.getD 0 0) (nums.getD 1 0)))∧True∧True∧True) (by kernel_rfl)
          ⟨⟨⟩,⟨⟩,⟨⟩,(sub_ok _ _ _ _ (by omega) (by assumption) (by omega) (by assumption)),⟨⟩,⟨⟩,⟨⟩⟩ ?_
        refine Ev.ret ?_
        refine ⟨⟨⟨⟩,⟨⟩,⟨⟩⟩,(?_ : (avF 7 ws xs (nums.getD 0 0) (nums.getD 1 0)) = (applyV 7 ws xs nums)∧(0 : Int) = (applyE 7 ws xs nums)∧True),.inr ⟨⟨⟩,⟨⟩,⟨⟩⟩⟩
        exact ⟨(ap_yes hx.1 hx.2 h hin).1.symm,(ap_yes hx.1 hx.2 h hin).2.symm,⟨⟩⟩

set_option maxRecDepth 100000 in
theorem Apply_8 (ws xs nums : List Int) (hwl : ws.length ≤ 9223372036854775807) (hxl : xs.length ≤ 9223372036854775807) : CallOk Try.prog 12 [(i6 8),(LI ws),(LI xs),(LI nums)] [] false (.tup [(i6 (applyV 8 ws xs nums)),(i6 (applyE 8 ws xs nums))]) [] := by
  refine CallOk.of_ev Try.func12 rfl rfl rfl ?_
  rintro ⟨_,W,S0,_,susp,_⟩ rfl rfl rfl
  refine Ev.seq ?_
  refine Ev.reg [] [0,1,2,3] (st' := ⟨[(0,(i6 8)),(1,(LI ws)),(2,(LI xs)),(3,(LI nums))],[]⟩)
    (p := True∧True∧True) (by kernel_rfl)
    ⟨⟨⟩,⟨⟩,⟨⟩⟩ ?_
  refine Ev.seq ?_
  refine Ev.seq ?_
  rcases (show nums.length ≠ 2 ∨ (nums.length = 2∧xs.length ≠ ws.length) ∨ (nums.length = 2∧xs.length = ws.length) from by omega) with hx | hx | hx
  · skip
    refine Ev.reg [(2,.val (dB true))] [0,1,2,3,25] (st' := ⟨[(0,(i6 8)),(1,(LI ws)),(2,(LI xs)),(3,(LI nums)),(25,(dB true))],[]⟩)
      (p := True∧True∧(True∧(((nums.length : Nat) : Int) != 2) = true)∧True∧True∧True∧True∧True∧True∧True∧True) (by kernel_rfl)
      ⟨⟨⟩,⟨⟩,⟨⟨⟩,(by exact bne_iff_ne.2 (by omega))⟩,⟨⟩,⟨⟩,⟨⟩,⟨⟩,⟨⟩,⟨⟩,⟨⟩,⟨⟩⟩ ?_
    refine Ev.cond true rfl (fun _ => ?_) (fun h => (by cases h))
    refine Ev.seq ?_
    refine Ev.reg [] [8,9] (st' := ⟨[(8,(i6 0)),(9,(i6 1))],[]⟩)
      (p := True∧True∧True) (by kernel_rfl)
      ⟨⟨⟩,⟨⟩,⟨⟩⟩ ?_
    refine Ev.ret ?_
    refine ⟨⟨⟨⟩,⟨⟩,⟨⟩⟩,(?_ : (0 : Int) = (applyV 8 ws xs nums)∧(1 : Int) = (applyE 8 ws xs nums)∧True),.inr ⟨⟨⟩,⟨⟩,⟨⟩⟩⟩
    exact ⟨(ap_no (ap_n hx)).1.symm,(ap_no (ap_n hx)).2.symm,⟨⟩⟩
  · skip
    refine Ev.reg [(2,.val (dB false)),(8,.val (dB true))] [0,1,2,3,25] (st' := ⟨[(0,(i6 8)),(1,(LI ws)),(2,(LI xs)),(3,(LI nums)),(25,(dB true))],[]⟩)
      (p := True∧True∧(True∧(((nums.length : Nat) : Int) != 2) = false)∧True∧True∧True∧True∧True∧(True∧(((xs.length : Nat) : Int) != ((ws.length : Nat) : Int)) = true)∧True∧True) (by kernel_rfl)
      ⟨⟨⟩,⟨⟩,⟨⟨⟩,(by rw [hx.1]; rfl)⟩,⟨⟩,⟨⟩,⟨⟩,⟨⟩,⟨⟩,⟨⟨⟩,(by exact bne_iff_ne.2 (by omega))⟩,⟨⟩,⟨⟩⟩ ?_
    refine Ev.cond true rfl (fun _ => ?_) (fun h => (by cases h))
    refine Ev.seq ?_
    refine Ev.reg [] [8,9] (st' := ⟨[(8,(i6 0)),(9,(i6 1))],[]⟩)
      (p := True∧True∧True) (by kernel_rfl)
      ⟨⟨⟩,⟨⟩,⟨⟩⟩ ?_
    refine Ev.ret ?_
    refine ⟨⟨⟨⟩,⟨⟩,⟨⟩⟩,(?_ : (0 : Int) = (applyV 8 ws xs nums)∧(1 : Int) = (applyE 8 ws xs nums)∧True),.inr ⟨⟨⟩,⟨⟩,⟨⟩⟩⟩
    exact ⟨(ap_no (ap_l hx.2)).1.symm,(ap_no (ap_l hx.2)).2.symm,⟨⟩⟩
  · skip
    refine Ev.reg [(2,.val (dB false)),(8,.val (dB false))] [0,1,2,3,25] (st' := ⟨[(0,(i6 8)),(1,(LI ws)),(2,(LI xs)),(3,(LI nums)),(25,(dB false))],[]⟩)
      (p := True∧True∧(True∧(((nums.length : Nat) : Int) != 2) = false)∧True∧True∧True∧True∧True∧(True∧(((xs.length : Nat) : Int) != ((ws.length : Nat) : Int)) = false)∧True∧True) (by kernel_rfl)
      ⟨⟨⟩,⟨⟩,⟨⟨⟩,(by rw [hx.1]; rfl)⟩,⟨⟩,⟨⟩,⟨⟩,⟨⟩,⟨⟩,⟨⟨⟩,(by rw [hx.2]; simp)⟩,⟨⟩,⟨⟩⟩ ?_
    refine Ev.cond false rfl (fun h => (by cases h)) (fun _ => ?_)
    refine Ev.skip ?_
    refine Ev.seq ?_
    refine Ev.draw 10 [false,false,false,false,false,false,false,false,false,false] [] [0,1,2,10] (st' := ⟨[(0,(i6 8)),(1,(LI ws)),(2,(LI xs)),(10,(.ptr 0 0 0 0))],[(.var 61 [(LI ws),(LI xs),(i6 (nums.getD 0 0)),(i6 (nums.getD 1 0))])]⟩)
      (p := (True∧True∧True∧(0 ≤ (0 : Int)∧0 < (nums.length : Int))∧True∧True∧(0 ≤ (1 : Int)∧1 < (nums.length : Int))∧True∧True∧True∧True)∧(True∧True)) (by kernel_rfl) (by kernel_rfl)
      ⟨⟨⟨⟩,⟨⟩,⟨⟩,(by first | omega | (simp; first | done | omega)),⟨⟩,⟨⟩,(by first | omega | (simp; first | done | omega)),⟨⟩,⟨⟩,⟨⟩,⟨⟩⟩,⟨⟨⟩,⟨⟩⟩⟩ ?_
    refine Ev.seq ?_
    rcases ok3 8 ws (nums.getD 0 0) (nums.getD 1 0) with ⟨hb,h⟩ | ⟨hb,hv,h⟩ | h
    · skip
      refine Ev.reg [(2,.call none true (.tup [(.agg [(i6 0),(.v .nilf),(.v .nilf)]),(i6 0),(dB false)]))] [1,2,10,11,13] (st' := ⟨[(1,(LI ws)),(2,(LI xs)),(10,(.ptr 0 0 0 0)),(11,(.ptr 1 0 0 0)),(13,(dB false))],[(.var 61 [(LI ws),(LI xs),(i6 (nums.getD 0 0)),(i6 (nums.getD 1 0))]),(.var 57 [(i6 0),(.v .nilf),(.v .nilf)])]⟩)
        (p := True∧True∧callOb Try.prog 27 [(.var 61 [(LI ws),(LI xs),(i6 (nums.getD 0 0)),(i6 (nums.getD 1 0))])] [(i6 8),(.agg [(LI ws),(LI xs),(i6 (nums.getD 0 0)),(i6 (nums.getD 1 0))])] none true (.tup [(.agg [(i6 0),(.v .nilf),(.v .nilf)]),(i6 0),(dB false)])∧True∧True∧True∧True∧True∧True∧True∧True∧True) (by kernel_rfl)
        ⟨⟨⟩,⟨⟩,(width_bad_8 _ _ _ _ hwl hb),⟨⟩,⟨⟩,⟨⟩,⟨⟩,⟨⟩,⟨⟩,⟨⟩,⟨⟩,⟨⟩⟩ ?_
      refine Ev.seq ?_
      refine Ev.seq ?_
      refine Ev.reg [] [1,2,10,11,43] (st' := ⟨[(1,(LI ws)),(2,(LI xs)),(10,(.ptr 0 0 0 0)),(11,(.ptr 1 0 0 0)),(43,(dB true))],[(.var 61 [(LI ws),(LI xs),(i6 (nums.getD 0 0)),(i6 (nums.getD 1 0))]),(.var 57 [(i6 0),(.v .nilf),(.v .nilf)])]⟩)
        (p := True∧True∧True) (by kernel_rfl)
        ⟨⟨⟩,⟨⟩,⟨⟩⟩ ?_
      refine Ev.cond true rfl (fun _ => ?_) (fun h => (by cases h))
      refine Ev.seq ?_
      refine Ev.reg [] [8,9] (st' := ⟨[(8,(i6 0)),(9,(i6 1))],[(.var 61 [(LI ws),(LI xs),(i6 (nums.getD 0 0)),(i6 (nums.getD 1 0))]),(.var 57 [(i6 0),(.v .nilf),(.v .nilf)])]⟩)
        (p := True∧True∧True) (by kernel_rfl)
        ⟨⟨⟩,⟨⟩,⟨⟩⟩ ?_
      refine Ev.ret ?_
      refine ⟨⟨⟨⟩,⟨⟩,⟨⟩⟩,(?_ : (0 : Int) = (applyV 8 ws xs nums)∧(1 : Int) = (applyE 8 ws xs nums)∧True),.inr ⟨⟨⟩,⟨⟩,⟨⟩⟩⟩
      exact ⟨(ap_no (ap_bad h)).1.symm,(ap_no (ap_bad h)).2.symm,⟨⟩⟩
    · skip
      refine Ev.reg [(2,.call none true (.tup [(.agg [(i6 2),(.fn (.func 49) [] []),(.fn (.func 50) [] [])]),(i6 (wvF 8 ws (nums.getD 0 0) (nums.getD 1 0))),(dB false)]))] [1,2,10,11,13] (st' := ⟨[(1,(LI ws)),(2,(LI xs)),(10,(.ptr 0 0 0 0)),(11,(.ptr 1 0 0 0)),(13,(dB false))],[(.var 61 [(LI ws),(LI xs),(i6 (nums.getD 0 0)),(i6 (nums.getD 1 0))]),(.var 57 [(i6 2),(.fn (.func 49) [] []),(.fn (.func 50) [] [])])]⟩)
        (p := True∧True∧callOb Try.prog 27 [(.var 61 [(LI ws),(LI xs),(i6 (nums.getD 0 0)),(i6 (nums.getD 1 0))])] [(i6 8),(.agg [(LI ws),(LI xs),(i6 (nums.getD 0 0)),(i6 (nums.getD 1 0))])] none true (.tup [(.agg [(i6 2),(.fn (.func 49) [] []),(.fn (.func 50) [] [])]),(i6 (wvF 8 ws (nums.getD 0 0) (nums.getD 1 0))),(dB false)])∧True∧True∧True∧True∧True∧True∧True∧True∧True) (by kernel_rfl)
        ⟨⟨⟩,⟨⟩,(width_wv_8 _ _ _ _ hwl hb hv),⟨⟩,⟨⟩,⟨⟩,⟨⟩,⟨⟩,⟨⟩,⟨⟩,⟨⟩,⟨⟩⟩ ?_
      refine Ev.seq ?_
      refine Ev.seq ?_
      refine Ev.reg [] [1,2,10,11,43] (st' := ⟨[(1,(LI ws)),(2,(LI xs)),(10,(.ptr 0 0 0 0)),(11,(.ptr 1 0 0 0)),(43,(dB true))],[(.var 61 [(LI ws),(LI xs),(i6 (nums.getD 0 0)),(i6 (nums.getD 1 0))]),(.var 57 [(i6 2),(.fn (.func 49) [] []),(.fn (.func 50) [] [])])]⟩)
        (p := True∧True∧True) (by kernel_rfl)
        ⟨⟨⟩,⟨⟩,⟨⟩⟩ ?_
      refine Ev.cond true rfl (fun _ => ?_) (fun h => (by cases h))
      refine Ev.seq ?_
      refine Ev.reg [] [8,9] (st' := ⟨[(8,(i6 0)),(9,(i6 1))],[(.var 61 [(LI ws),(LI xs),(i6 (nums.getD 0 0)),(i6 (nums.getD 1 0))]),(.var 57 [(i6 2),(.fn (.func 49) [] []),(.fn (.func 50) [] [])])]⟩)
        (p := True∧True∧True) (by kernel_rfl)
        ⟨⟨⟩,⟨⟩,⟨⟩⟩ ?_
      refine Ev.ret ?_
      refine ⟨⟨⟨⟩,⟨⟩,⟨⟩⟩,(?_ : (0 : Int) = (applyV 8 ws xs nums)∧(1 : Int) = (applyE 8 ws xs nums)∧True),.inr ⟨⟨⟩,⟨⟩,⟨⟩⟩⟩
      exact ⟨(ap_no (ap_bad h)).1.symm,(ap_no (ap_bad h)).2.symm,⟨⟩⟩
    · skip
      refine Ev.reg [(2,.call none true (.tup [(.agg [(i6 2),(.fn (.func 49) [] []),(.fn (.func 50) [] [])]),(i6 (wvF 8 ws (nums.getD 0 0) (nums.getD 1 0))),(dB true)]))] [1,2,10,11,13] (st' := ⟨[(1,(LI ws)),(2,(LI xs)),(10,(.ptr 0 0 0 0)),(11,(.ptr 1 0 0 0)),(13,(dB true))],[(.var 61 [(LI ws),(LI xs),(i6 (nums.getD 0 0)),(i6 (nums.getD 1 0))]),(.var 57 [(i6 2),(.fn (.func 49) [] []),(.fn (.func 50) [] [])])]⟩)
        (p := True∧True∧callOb Try.prog 27 [(.var 61 [(LI ws),(LI xs),(i6 (nums.getD 0 0)),(i6 (nums.getD 1 0))])] [(i6 8),(.agg [(LI ws),(LI xs),(i6 (nums.getD 0 0)),(i6 (nums.getD 1 0))])] none true (.tup [(.agg [(i6 2),(.fn (.func 49) [] []),(.fn (.func 50) [] [])]),(i6 (wvF 8 ws (nums.getD 0 0) (nums.getD 1 0))),(dB true)])∧True∧True∧True∧True∧True∧True∧True∧True∧True) (by kernel_rfl)
        ⟨⟨⟩,⟨⟩,(width_good_8 _ _ _ _ hwl h),⟨⟩,⟨⟩,⟨⟩,⟨⟩,⟨⟩,⟨⟩,⟨⟩,⟨⟩,⟨⟩⟩ ?_
      refine Ev.seq ?_
      refine Ev.seq ?_
      refine Ev.reg [] [1,2,10,11,43] (st' := ⟨[(1,(LI ws)),(2,(LI xs)),(10,(.ptr 0 0 0 0)),(11,(.ptr 1 0 0 0)),(43,(dB false))],[(.var 61 [(LI ws),(LI xs),(i6 (nums.getD 0 0)),(i6 (nums.getD 1 0))]),(.var 57 [(i6 2),(.fn (.func 49) [] []),(.fn (.func 50) [] [])])]⟩)
        (p := True∧True∧True) (by kernel_rfl)
        ⟨⟨⟩,⟨⟩,⟨⟩⟩ ?_
      refine Ev.cond false rfl (fun h => (by cases h)) (fun _ => ?_)
      refine Ev.skip ?_
      refine Ev.seq ?_
      refine Ev.seq ?_
      refine Ev.reg [] [1,10,11,44,45,46] (st' := ⟨[(1,(LI ws)),(10,(.ptr 0 0 0 0)),(11,(.ptr 1 0 0 0)),(44,(LI xs)),(45,(i6 ((xs.length : Nat) : Int))),(46,(i6 0))],[(.var 61 [(LI ws),(LI xs),(i6 (nums.getD 0 0)),(i6 (nums.getD 1 0))]),(.var 57 [(i6 2),(.fn (.func 49) [] []),(.fn (.func 50) [] [])])]⟩)
        (p := True∧True∧True∧True) (by kernel_rfl)
        ⟨⟨⟩,⟨⟩,⟨⟩,⟨⟩⟩ ?_
      refine Ev.block ?_
      refine Ev.loop [1,10,11,44,45,46] 2 (fun (i : Nat) => ⟨[(1,(LI ws)),(10,(.ptr 0 0 0 0)),(11,(.ptr 1 0 0 0)),(44,(LI xs)),(45,(i6 ((xs.length : Nat) : Int))),(46,(i6 ((i : Nat) : Int)))],[(.var 61 [(LI ws),(LI xs),(i6 (nums.getD 0 0)),(i6 (nums.getD 1 0))]),(.var 57 [(i6 2),(.fn (.func 49) [] []),(.fn (.func 50) [] [])])]⟩) (fun (i : Nat) => i ≤ xs.length∧∀ j,j < i → 0 ≤ xs.getD j 0∧xs.getD j 0 ≤ maskF (ws.getD j 0)) (fun (i : Nat) => xs.length - i) 0 (by kernel_rfl) (⟨by omega,fun j hj => by omega⟩) ?_
      rintro i hinv
      have hinv : i ≤ xs.length∧∀ j,j < i → 0 ≤ xs.getD j 0∧xs.getD j 0 ≤ maskF (ws.getD j 0) := hinv
      obtain ⟨hi,hall⟩ := hinv
      refine Ev.seq ?_
      refine Ev.reg [] [1,10,11,44,45,46,47] (st' := ⟨[(1,(LI ws)),(10,(.ptr 0 0 0 0)),(11,(.ptr 1 0 0 0)),(44,(LI xs)),(45,(i6 ((xs.length : Nat) : Int))),(46,(i6 ((i : Nat) : Int))),(47,(dB (decide (((i : Nat) : Int) < ((xs.length : Nat) : Int)))))],[(.var 61 [(LI ws),(LI xs),(i6 (nums.getD 0 0)),(i6 (nums.getD 1 0))]),(.var 57 [(i6 2),(.fn (.func 49) [] []),(.fn (.func 50) [] [])])]⟩)
        (p := True∧True) (by kernel_rfl)
        ⟨⟨⟩,⟨⟩⟩ ?_
      refine Ev.seq ?_
      refine Ev.cond _ rfl (fun hc47 => ?_) (fun hc47 => ?_)
      · try simp only [decide_eq_true_eq,decide_eq_false_iff_not,beq_iff_eq,bne_iff_ne,ne_eq,beq_eq_false_iff_ne,bne_eq_false_iff_eq,Bool.not_eq_true,Bool.not_eq_false,Bool.not_eq_true',Bool.not_eq_false',Bool.not_not,gt_iff_lt,ge_iff_le,Nat.not_lt,Int.not_lt,Int.not_le] at hc47
        refine Ev.skip ?_
        refine Ev.seq ?_
        refine Ev.block ?_
        refine Ev.seq ?_
        refine Ev.reg [] [1,10,11,14,15,44,45,46] (st' := ⟨[(1,(LI ws)),(10,(.ptr 0 0 0 0)),(11,(.ptr 1 0 0 0)),(14,(i6 ((i : Nat) : Int))),(15,(i6 (xs.getD i 0))),(44,(LI xs)),(45,(i6 ((xs.length : Nat) : Int))),(46,(i6 ((i : Nat) : Int)))],[(.var 61 [(LI ws),(LI xs),(i6 (nums.getD 0 0)),(i6 (nums.getD 1 0))]),(.var 57 [(i6 2),(.fn (.func 49) [] []),(.fn (.func 50) [] [])])]⟩)
          (p := True∧(0 ≤ ((i : Nat) : Int)∧((i : Nat) : Int) < (xs.length : Int))∧True∧True∧True∧True) (by kernel_rfl)
          ⟨⟨⟩,(by first | omega | (simp; first | done | omega)),⟨⟩,⟨⟩,⟨⟩,⟨⟩⟩ ?_
        refine Ev.seq ?_
        rcases Int.lt_or_le (xs.getD i 0) 0 with hn | hn
        · skip
          refine Ev.reg [(1,.val (dB true))] [1,10,11,44,45,46,61] (st' := ⟨[(1,(LI ws)),(10,(.ptr 0 0 0 0)),(11,(.ptr 1 0 0 0)),(44,(LI xs)),(45,(i6 ((xs.length : Nat) : Int))),(46,(i6 ((i : Nat) : Int))),(61,(dB true))],[(.var 61 [(LI ws),(LI xs),(i6 (nums.getD 0 0)),(i6 (nums.getD 1 0))]),(.var 57 [(i6 2),(.fn (.func 49) [] []),(.fn (.func 50) [] [])])]⟩)
            (p := True∧(True∧(decide ((xs.getD i 0) < 0)) = true)∧True∧True∧True∧True∧True∧True∧True∧True∧True∧True) (by kernel_rfl)
            ⟨⟨⟩,⟨⟨⟩,(by simpa using hn)⟩,⟨⟩,⟨⟩,⟨⟩,⟨⟩,⟨⟩,⟨⟩,⟨⟩,⟨⟩,⟨⟩,⟨⟩⟩ ?_
          refine Ev.cond true rfl (fun _ => ?_) (fun h => (by cases h))
          refine Ev.seq ?_
          refine Ev.reg [] [8,9] (st' := ⟨[(8,(i6 0)),(9,(i6 1))],[(.var 61 [(LI ws),(LI xs),(i6 (nums.getD 0 0)),(i6 (nums.getD 1 0))]),(.var 57 [(i6 2),(.fn (.func 49) [] []),(.fn (.func 50) [] [])])]⟩)
            (p := True∧True∧True) (by kernel_rfl)
            ⟨⟨⟩,⟨⟩,⟨⟩⟩ ?_
          refine Ev.ret ?_
          refine ⟨⟨⟨⟩,⟨⟩,⟨⟩⟩,(?_ : (0 : Int) = (applyV 8 ws xs nums)∧(1 : Int) = (applyE 8 ws xs nums)∧True),.inr ⟨⟨⟩,⟨⟩,⟨⟩⟩⟩
          exact ⟨(ap_no (ap_in (i := i) (by omega) (.inl hn))).1.symm,(ap_no (ap_in (i := i) (by omega) (.inl hn))).2.symm,⟨⟩⟩
        · skip
          refine Ev.reg [(1,.val (dB false)),(8,.call none false (i6 (maskF (ws.getD i 0))))] [1,10,11,44,45,46,61] (st' := ⟨[(1,(LI ws)),(10,(.ptr 0 0 0 0)),(11,(.ptr 1 0 0 0)),(44,(LI xs)),(45,(i6 ((xs.length : Nat) : Int))),(46,(i6 ((i : Nat) : Int))),(61,(dB (decide ((xs.getD i 0) > (maskF (ws.getD i 0))))))],[(.var 61 [(LI ws),(LI xs),(i6 (nums.getD 0 0)),(i6 (nums.getD 1 0))]),(.var 57 [(i6 2),(.fn (.func 49) [] []),(.fn (.func 50) [] [])])]⟩)
            (p := True∧(True∧(decide ((xs.getD i 0) < 0)) = false)∧True∧True∧True∧True∧(0 ≤ ((i : Nat) : Int)∧((i : Nat) : Int) < (ws.length : Int))∧True∧callOb Try.prog 14 [(.var 61 [(LI ws),(LI xs),(i6 (nums.getD 0 0)),(i6 (nums.getD 1 0))]),(.var 57 [(i6 2),(.fn (.func 49) [] []),(.fn (.func 50) [] [])])] [(i6 (ws.getD i 0))] none false (i6 (maskF (ws.getD i 0)))∧True∧True∧True) (by kernel_rfl)
            ⟨⟨⟩,⟨⟨⟩,(by simpa using hn)⟩,⟨⟩,⟨⟩,⟨⟩,⟨⟩,(by first | omega | (simp; first | done | omega)),⟨⟩,(mask_ok _),⟨⟩,⟨⟩,⟨⟩⟩ ?_
          refine Ev.cond _ rfl (fun hc61 => ?_) (fun hc61 => ?_)
          · try simp only [decide_eq_true_eq,decide_eq_false_iff_not,beq_iff_eq,bne_iff_ne,ne_eq,beq_eq_false_iff_ne,bne_eq_false_iff_eq,Bool.not_eq_true,Bool.not_eq_false,Bool.not_eq_true',Bool.not_eq_false',Bool.not_not,gt_iff_lt,ge_iff_le,Nat.not_lt,Int.not_lt,Int.not_le] at hc61
            refine Ev.seq ?_
            refine Ev.reg [] [8,9] (st' := ⟨[(8,(i6 0)),(9,(i6 1))],[(.var 61 [(LI ws),(LI xs),(i6 (nums.getD 0 0)),(i6 (nums.getD 1 0))]),(.var 57 [(i6 2),(.fn (.func 49) [] []),(.fn (.func 50) [] [])])]⟩)
              (p := True∧True∧True) (by kernel_rfl)
              ⟨⟨⟩,⟨⟩,⟨⟩⟩ ?_
            refine Ev.ret ?_
            refine ⟨⟨⟨⟩,⟨⟩,⟨⟩⟩,(?_ : (0 : Int) = (applyV 8 ws xs nums)∧(1 : Int) = (applyE 8 ws xs nums)∧True),.inr ⟨⟨⟩,⟨⟩,⟨⟩⟩⟩
            exact ⟨(ap_no (ap_in (i := i) (by omega) (.inr (by omega)))).1.symm,(ap_no (ap_in (i := i) (by omega) (.inr (by omega)))).2.symm,⟨⟩⟩
          · try simp only [decide_eq_true_eq,decide_eq_false_iff_not,beq_iff_eq,bne_iff_ne,ne_eq,beq_eq_false_iff_ne,bne_eq_false_iff_eq,Bool.not_eq_true,Bool.not_eq_false,Bool.not_eq_true',Bool.not_eq_false',Bool.not_not,gt_iff_lt,ge_iff_le,Nat.not_lt,Int.not_lt,Int.not_le] at hc61
            refine Ev.skip ?_
            refine Ev.reg [(0,.val (i6 ((i + 1 : Nat) : Int)))] [1,10,11,44,45,46] (st' := ⟨[(1,(LI ws)),(10,(.ptr 0 0 0 0)),(11,(.ptr 1 0 0 0)),(44,(LI xs)),(45,(i6 ((xs.length : Nat) : Int))),(46,(i6 ((i + 1 : Nat) : Int)))],[(.var 61 [(LI ws),(LI xs),(i6 (nums.getD 0 0)),(i6 (nums.getD 1 0))]),(.var 57 [(i6 2),(.fn (.func 49) [] []),(.fn (.func 50) [] [])])]⟩)
              (p := (True∧(IntKind.wrap .i64 (((i : Nat) : Int) + 1)) = ((i + 1 : Nat) : Int))∧True∧True) (by kernel_rfl)
              ⟨⟨⟨⟩,(w64n (by first | rfl | simp | omega) (by first | omega | (simp; first | done | omega)))⟩,⟨⟩,⟨⟩⟩ ?_
            refine ⟨i + 1,by kernel_rfl,(?_ : (i + 1) ≤ xs.length∧∀ j,j < (i + 1) → 0 ≤ xs.getD j 0∧xs.getD j 0 ≤ maskF (ws.getD j 0)),(?_ : xs.length - (i + 1) < xs.length - i)⟩
            · exact ⟨by omega,lt_more hall ⟨by omega,by omega⟩⟩
            · omega
      · try simp only [decide_eq_true_eq,decide_eq_false_iff_not,beq_iff_eq,bne_iff_ne,ne_eq,beq_eq_false_iff_ne,bne_eq_false_iff_eq,Bool.not_eq_true,Bool.not_eq_false,Bool.not_eq_true',Bool.not_eq_false',Bool.not_not,gt_iff_lt,ge_iff_le,Nat.not_lt,Int.not_lt,Int.not_le] at hc47
        refine Ev.exit ?_
        refine Ev.seq ?_
        have hin : inF ws xs = true := in_all (fun j hj => hall j (by omega))
        obtain ⟨hl0,hf,-⟩ := ok_yes h
        have hA : arityF 8 = 2 := by decide
        rw [hA] at hl0
        refine Ev.reg [(3,.call none false (i6 (avF 8 ws xs (nums.getD 0 0) (nums.getD 1 0))))] [8,9] (st' := ⟨[(8,(i6 (avF 8 ws xs (nums.getD 0 0) (nums.getD 1 0)))),(9,(i6 0))],[(.var 61 [(LI ws),(LI xs),(i6 (nums.getD 0 0)),(i6 (nums.getD 1 0))]),(.var 57 [(i6 2),(.fn (.func 49) [] []),(.fn (.func 50) [] [])])]⟩)
          (p := True∧True∧True∧callOb Try.prog 50 [(.var 61 [(LI ws),(LI xs),(i6 (nums.getD 0 0)),(i6 (nums.getD 1 0))]),(.var 57 [(i6 2),(.fn (.func 49) [] []),(.fn (.func 50) [] [])])] [(.agg [(LI ws),(LI xs),(i6 (nums.getD 0 0)),(i6 (nums.getD 1 0))])] none false (i6 (avF 8 ws xs (nums.getD 0 0) (nums.getD 1 0)))∧True∧True∧True) (by kernel_rfl)
          ⟨⟨⟩,⟨⟩,⟨⟩,(eq_ok _ _ _ _ (by omega) (by assumption) (by omega) (by assumption)),⟨⟩,⟨⟩,⟨⟩⟩ ?_
        refine Ev.ret ?_
        refine ⟨⟨⟨⟩,⟨⟩,⟨⟩⟩,(?_ : (avF 8 ws xs (nums.getD 0 0) (nums.getD 1 0)) = (applyV 8 ws xs nums)∧(0 : Int) = (applyE 8 ws xs nums)∧True),.inr ⟨⟨⟩,⟨⟩,⟨⟩⟩⟩
        exact ⟨(ap_yes hx.1 hx.2 h hin).1.symm,(ap_yes hx.1 hx.2 h hin).2.symm,⟨⟩⟩

set_option maxRecDepth 100000 in
theorem Apply_9 (ws xs nums : List Int) (hwl : ws.length ≤ 9223372036854775807) (hxl : xs.length ≤ 9223372036854775807) : CallOk Try.prog 12 [(i6 9),(LI ws),(LI xs),(LI nums)] [] false (.tup [(i6 (applyV 9 ws xs nums)),(i6 (applyE 9 ws xs nums))]) [] := by
  refine CallOk.of_ev Try.func12 rfl rfl rfl ?_
  rintro ⟨_,W,S0,_,susp,_⟩ rfl rfl rfl
  refine Ev.seq ?_
  refine Ev.reg [] [0,1,2,3] (st' := ⟨[(0,(i6 9)),(1,(LI ws)),(2,(LI xs)),(3,(LI nums))],[]⟩)
    (p := True∧True∧True) (by kernel_rfl)
    ⟨⟨⟩,⟨⟩,⟨⟩⟩ ?_
  refine Ev.seq ?_
  refine Ev.seq ?_
  rcases (show nums.length ≠ 2 ∨ (nums.length = 2∧xs.length ≠ ws.length) ∨ (nums.length = 2∧xs.length = ws.length) from by omega) with hx | hx | hx
  · skip
    refine Ev.reg [(2,.val (dB true))] [0,1,2,3,25] (st' := ⟨[(0,(i6 9)),(1,(LI ws)),(2,(LI xs)),(3,(LI nums)),(25,(dB true))],[]⟩)
      (p := True∧True∧(True∧(((nums.length : Nat) : Int) != 2) = true)∧True∧True∧True∧True∧True∧True∧True∧True) (by kernel_rfl)
      ⟨⟨⟩,⟨⟩,⟨⟨⟩,(by exact bne_iff_ne.2 (by omega))⟩,⟨⟩,⟨⟩,⟨⟩,⟨⟩,⟨⟩,⟨⟩,⟨⟩,⟨⟩⟩ ?_
    refine Ev.cond true rfl (fun _ => ?_) (fun h => (by cases h))
    refine Ev.seq ?_
    refine Ev.reg [] [8,9] (st' := ⟨[(8,(i6 0)),(9,(i6 1))],[]⟩)
      (p := True∧True∧True) (by kernel_rfl)
      ⟨⟨⟩,⟨⟩,⟨⟩⟩ ?_
    refine Ev.ret ?_
    refine ⟨⟨⟨⟩,⟨⟩,⟨⟩⟩,(?_ : (0 : Int) = (applyV 9 ws xs nums)∧(1 : Int) = (applyE 9 ws xs nums)∧True),.inr ⟨⟨⟩,⟨⟩,⟨⟩⟩⟩
    exact ⟨(ap_no (ap_n hx)).1.symm,(ap_no (ap_n hx)).2.symm,⟨⟩⟩
  · skip
    refine Ev.reg [(2,.val (dB false)),(8,.val (dB true))] [0,1,2,3,25] (st' := ⟨[(0,(i6 9)),(1,(LI ws)),(2,(LI xs)),(3,(LI nums)),(25,(dB true))],[]⟩)
      (p := True∧True∧(True∧(((nums.length : Nat) : Int) != 2) = false)∧True∧True∧True∧True∧True∧(True∧(((xs.length : Nat) : Int) != ((ws.length : Nat) : Int)) = true)∧True∧True) (by kernel_rfl)
      ⟨⟨⟩,⟨⟩,⟨⟨⟩,(by rw [hx.1]; rfl)⟩,⟨⟩,⟨⟩,⟨⟩,⟨⟩,⟨⟩,⟨⟨⟩,(by exact bne_iff_ne.2 (by omega))⟩,⟨⟩,⟨⟩⟩ ?_
    refine Ev.cond true rfl (fun _ => ?_) (fun h => (by cases h))
    refine Ev.seq ?_
    refine Ev.reg [] [8,9] (st' := ⟨[(8,(i6 0)),(9,(i6 1))],[]⟩)
      (p := True∧True∧True) (by kernel_rfl)
      ⟨⟨⟩,⟨⟩,⟨⟩⟩ ?_
    refine Ev.ret ?_
    refine ⟨⟨⟨⟩,⟨⟩,⟨⟩⟩,(?_ : (0 : Int) = (applyV 9 ws xs nums)∧(1 : Int) = (applyE 9 ws xs nums)∧True),.inr ⟨⟨⟩,⟨⟩,⟨⟩⟩⟩
    exact ⟨(ap_no (ap_l hx.2)).1.symm,(ap_no (ap_l hx.2)).2.symm,⟨⟩⟩
  · skip
    refine Ev.reg [(2,.val (dB false)),(8,.val (dB false))] [0,1,2,3,25] (st' := ⟨[(0,(i6 9)),(1,(LI ws)),(2,(LI xs)),(3,(LI nums)),(25,(dB false))],[]⟩)
      (p := True∧True∧(True∧(((nums.length : Nat) : Int) != 2) = false)∧True∧True∧True∧True∧True∧(True∧(((xs.length : Nat) : Int) != ((ws.length : Nat) : Int)) = false)∧True∧True) (by kernel_rfl)
      ⟨⟨⟩,⟨⟩,⟨⟨⟩,(by rw [hx.1]; rfl)⟩,⟨⟩,⟨⟩,⟨⟩,⟨⟩,⟨⟩,⟨⟨⟩,(by rw [hx.2]; simp)⟩,⟨⟩,⟨⟩⟩ ?_
    refine Ev.cond false rfl (fun h => (by cases h)) (fun _ => ?_)
    refine Ev.skip ?_
    refine Ev.seq ?_
    refine Ev.draw 10 [false,false,false,false,false,false,false,false,false,false] [] [0,1,2,10] (st' := ⟨[(0,(i6 9)),(1,(LI ws)),(2,(LI xs)),(10,(.ptr 0 0 0 0))],[(.var 61 [(LI ws),(LI xs),(i6 (nums.getD 0 0)),(i6 (nums.getD 1 0))])]⟩)
      (p := (True∧True∧True∧(0 ≤ (0 : Int)∧0 < (nums.length : Int))∧True∧True∧(0 ≤ (1 : Int)∧1 < (nums.length : Int))∧True∧True∧True∧True)∧(True∧True)) (by kernel_rfl) (by kernel_rfl)
      ⟨⟨⟨⟩,⟨⟩,⟨⟩,(by first | omega | (simp; first | done | omega)),⟨⟩,⟨⟩,(by first | omega | (simp; first | done | omega)),⟨⟩,⟨⟩,⟨⟩,⟨⟩⟩,⟨⟨⟩,⟨⟩⟩⟩ ?_
    refine Ev.seq ?_
    rcases ok3 9 ws (nums.getD 0 0) (nums.getD 1 0) with ⟨hb,h⟩ | ⟨hb,hv,h⟩ | h
    · skip
      refine Ev.reg [(2,.call none true (.tup [(.agg [(i6 0),(.v .nilf),(.v .nilf)]),(i6 0),(dB false)]))] [1,2,10,11,13] (st' := ⟨[(1,(LI ws)),(2,(LI xs)),(10,(.ptr 0 0 0 0)),(11,(.ptr 1 0 0 0)),(13,(dB false))],[(.var 61 [(LI ws),(LI xs),(i6 (nums.getD 0 0)),(i6 (nums.getD 1 0))]),(.var 57 [(i6 0),(.v .nilf),(.v .nilf)])]⟩)
        (p := True∧True∧callOb Try.prog 27 [(.var 61 [(LI ws),(LI xs),(i6 (nums.getD 0 0)),(i6 (nums.getD 1 0))])] [(i6 9),(.agg [(LI ws),(LI xs),(i6 (nums.getD 0 0)),(i6 (nums.getD 1 0))])] none true (.tup [(.agg [(i6 0),(.v .nilf),(.v .nilf)]),(i6 0),(dB false)])∧True∧True∧True∧True∧True∧True∧True∧True∧True) (by kernel_rfl)
        ⟨⟨⟩,⟨⟩,(width_bad_9 _ _ _ _ hwl hb),⟨⟩,⟨⟩,⟨⟩,⟨⟩,⟨⟩,⟨⟩,⟨⟩,⟨⟩,⟨⟩⟩ ?_
      refine Ev.seq ?_
      refine Ev.seq ?_
      refine Ev.reg [] [1,2,10,11,43] (st' := ⟨[(1,(LI ws)),(2,(LI xs)),(10,(.ptr 0 0 0 0)),(11,(.ptr 1 0 0 0)),(43,(dB true))],[(.var 61 [(LI ws),(LI xs),(i6 (nums.getD 0 0)),(i6 (nums.getD 1 0))]),(.var 57 [(i6 0),(.v .nilf),(.v .nilf)])]⟩)
        (p := True∧True∧True) (by kernel_rfl)
        ⟨⟨⟩,⟨⟩,⟨⟩⟩ ?_
      refine Ev.cond true rfl (fun _ => ?_) (fun h => (by cases h))
      refine Ev.seq ?_
      refine Ev.reg [] [8,9] (st' := ⟨[(8,(i6 0)),(9,(i6 1))],[(.var 61 [(LI ws),(LI xs),(i6 (nums.getD 0 0)),(i6 (nums.getD 1 0))]),(.var 57 [(i6 0),(.v .nilf),(.v .nilf)])]⟩)
        (p := True∧True∧True) (by kernel_rfl)
        ⟨⟨⟩,⟨⟩,⟨⟩⟩ ?_
      refine Ev.ret ?_
      refine ⟨⟨⟨⟩,⟨⟩,⟨⟩⟩,(?_ : (0 : Int) = (applyV 9 ws xs nums)∧(1 : Int) = (applyE 9 ws xs nums)∧True),.inr ⟨⟨⟩,⟨⟩,⟨⟩⟩⟩
      exact ⟨(ap_no (ap_bad h)).1.symm,(ap_no (ap_bad h)).2.symm,⟨⟩⟩
    · skip
      refine Ev.reg [(2,.call none true (.tup [(.agg [(i6 2),(.fn (.func 49) [] []),(.fn (.func 51) [] [])]),(i6 (wvF 9 ws (nums.getD 0 0) (nums.getD 1 0))),(dB false)]))] [1,2,10,11,13] (st' := ⟨[(1,(LI ws)),(2,(LI xs)),(10,(.ptr 0 0 0 0)),(11,(.ptr 1 0 0 0)),(13,(dB false))],[(.var 61 [(LI ws),(LI xs),(i6 (nums.getD 0 0)),(i6 (nums.getD 1 0))]),(.var 57 [(i6 2),(.fn (.func 49) [] []),(.fn (.func 51) [] [])])]⟩)
        (p := True∧True∧callOb Try.prog 27 [(.var 61 [(LI ws),(LI xs),(i6 (nums.getD 0 0)),(i6 (nums.getD 1 0))])] [(i6 9),(.agg [(LI ws),(LI xs),(i6 (nums.getD 0 0)),(i6 (nums.getD 1 0))])] none true (.tup [(.agg [(i6 2),(.fn (.func 49) [] []),(.fn (.func 51) [] [])]),(i6 (wvF 9 ws (nums.getD 0 0) (nums.getD 1 0))),(dB false)])∧True∧True∧True∧True∧True∧True∧True∧True∧True) (by kernel_rfl)
        ⟨⟨⟩,⟨⟩,(width_wv_9 _ _ _ _ hwl hb hv),⟨⟩,⟨⟩,⟨⟩,⟨⟩,⟨⟩,⟨⟩,⟨⟩,⟨⟩,⟨⟩⟩ ?_
      refine Ev.seq ?_
      refine Ev.seq ?_
      refine Ev.reg [] [1,2,10,11,43] (st' := ⟨[(1,(LI ws)),(2,(LI xs)),(10,(.ptr 0 0 0 0)),(11,(.ptr 1 0 0 0)),(43,(dB true))],[(.var 61 [(LI ws),(LI xs),(i6 (nums.getD 0 0)),(i6 (nums.getD 1 0))]),(.var 57 [(i6 2),(.fn (.func 49) [] []),(.fn (.func 51) [] [])])]⟩)
        (p := True∧True∧True) (by kernel_rfl)
        ⟨⟨⟩,⟨⟩,⟨⟩⟩ ?_
      refine Ev.cond true rfl (fun _ => ?_) (fun h => (by cases h))
      refine Ev.seq ?_
      refine Ev.reg [] [8,9] (st' := ⟨[(8,(i6 0)),(9,(i6 1))],[(.var 61 [(LI ws),(LI xs),(i6 (nums.getD 0 0)),(i6 (nums.getD 1 0))]),(.var 57 [(i6 2),(.fn (.func 49) [] []),(.fn (.func 51) [] [])])]⟩)
        (p := True∧True∧True) (by kernel_rfl)
        ⟨⟨⟩,⟨⟩,⟨⟩⟩ ?_
      refine Ev.ret ?_
      refine ⟨⟨⟨⟩,⟨⟩,⟨⟩⟩,(?_ : (0 : Int) = (applyV 9 ws xs nums)∧(1 : Int) = (applyE 9 ws xs nums)∧True),.inr ⟨⟨⟩,⟨⟩,⟨⟩⟩⟩
      exact ⟨(ap_no (ap_bad h)).1.symm,(ap_no (ap_bad h)).2.symm,⟨⟩⟩
    · skip
      refine Ev.reg [(2,.call none true (.tup [(.agg [(i6 2),(.fn (.func 49) [] []),(.fn (.func 51) [] [])]),(i6 (wvF 9 ws (nums.getD 0 0) (nums.getD 1 0))),(dB true)]))] [1,2,10,11,13] (st' := ⟨[(1,(LI ws)),(2,(LI xs)),(10,(.ptr 0 0 0 0)),(11,(.ptr 1 0 0 0)),(13,(dB true))],[(.var 61 [(LI ws),(LI xs),(i6 (nums.getD 0 0)),(i6 (nums.getD 1 0))]),(.var 57 [(i6 2),(.fn (.func 49) [] []),(.fn (.func 51) [] [])])]⟩)
        (p := True∧True∧callOb Try.prog 27 [(.var 61 [(LI ws),(LI xs),(i6 (nums.getD 0 0)),(i6 (nums.getD 1 0))])] [(i6 9),(.agg [(LI ws),(LI xs),(i6 (nums.getD 0 0)),(i6 (nums.getD 1 0))])] none true (.tup [(.agg [(i6 2),(.fn (.func 49) [] []),(.fn (.func 51) [] [])]),(i6 (wvF 9 ws (nums.getD 0 0) (nums.getD 1 0))),(dB true)])∧True∧True∧True∧True∧True∧True∧True∧True∧True) (by kernel_rfl)
        ⟨⟨⟩,⟨⟩,(width_good_9 _ _ _ _ hwl h),⟨⟩,⟨⟩,⟨⟩,⟨⟩,⟨⟩,⟨⟩,⟨⟩,⟨⟩,⟨⟩⟩ ?_
      refine Ev.seq ?_
      refine Ev.seq ?_
      refine Ev.reg [] [1,2,10,11,43] (st' := ⟨[(1,(LI ws)),(2,(LI xs)),(10,(.ptr 0 0 0 0)),(11,(.ptr 1 0 0 0)),(43,(dB false))],[(.var 61 [(LI ws),(LI xs),(i6 (nums.getD 0 0)),(i6 (nums.getD 1 0))]),(.var 57 [(i6 2),(.fn (.func 49) [] []),(.fn (.func 51) [] [])])]⟩)
        (p := True∧True∧True) (by kernel_rfl)
        ⟨⟨⟩,⟨⟩,⟨⟩⟩ ?_
      refine Ev.cond false rfl (fun h => (by cases h)) (fun _ => ?_)
      refine Ev.skip ?_
      refine Ev.seq ?_
      refine Ev.seq ?_
      refine Ev.reg [] [1,10,11,44,45,46] (st' := ⟨[(1,(LI ws)),(10,(.ptr 0 0 0 0)),(11,(.ptr 1 0 0 0)),(44,(LI xs)),(45,(i6 ((xs.length : Nat) : Int))),(46,(i6 0))],[(.var 61 [(LI ws),(LI xs),(i6 (nums.getD 0 0)),(i6 (nums.getD 1 0))]),(.var 57 [(i6 2),(.fn (.func 49) [] []),(.fn (.func 51) [] [])])]⟩)
        (p := True∧True∧True∧True) (by kernel_rfl)
        ⟨⟨⟩,⟨⟩,⟨⟩,⟨⟩⟩ ?_
      refine Ev.block ?_
      refine Ev.loop [1,10,11,44,45,46] 2 (fun (i : Nat) => ⟨[(1,(LI ws)),(10,(.ptr 0 0 0 0)),(11,(.ptr 1 0 0 0)),(44,(LI xs)),(45,(i6 ((xs.length : Nat) : Int))),(46,(i6 ((i : Nat) : Int)))],[(.var 61 [(LI ws),(LI xs),(i6 (nums.getD 0 0)),(i6 (nums.getD 1 0))]),(.var 57 [(i6 2),(.fn (.func 49) [] []),(.fn (.func 51) [] [])])]⟩) (fun (i : Nat) => i ≤ xs.length∧∀ j,j < i → 0 ≤ xs.getD j 0∧xs.getD j 0 ≤ maskF (ws.getD j 0)) (fun (i : Nat) => xs.length - i) 0 (by kernel_rfl) (⟨by omega,fun j hj => by omega⟩) ?_
      rintro i hinv
      have hinv : i ≤ xs.length∧∀ j,j < i → 0 ≤ xs.getD j 0∧xs.getD j 0 ≤ maskF (ws.getD j 0) := hinv
      obtain ⟨hi,hall⟩ := hinv
      refine Ev.seq ?_
      refine Ev.reg [] [1,10,11,44,45,46,47] (st' := ⟨[(1,(LI ws)),(10,(.ptr 0 0 0 0)),(11,(.ptr 1 0 0 0)),(44,(LI xs)),(45,(i6 ((xs.length : Nat) : Int))),(46,(i6 ((i : Nat) : Int))),(47,(dB (decide (((i : Nat) : Int) < ((xs.length : Nat) : Int)))))],[(.var 61 [(LI ws),(LI xs),(i6 (nums.getD 0 0)),(i6 (nums.getD 1 0))]),(.var 57 [(i6 2),(.fn (.func 49) [] []),(.fn (.func 51) [] [])])]⟩)
        (p := True∧True) (by kernel_rfl)
        ⟨⟨⟩,⟨⟩⟩ ?_
      refine Ev.seq ?_
      refine Ev.cond _ rfl (fun hc47 => ?_) (fun hc47 => ?_)
      · try simp only [decide_eq_true_eq,decide_eq_false_iff_not,beq_iff_eq,bne_iff_ne,ne_eq,beq_eq_false_iff_ne,bne_eq_false_iff_eq,Bool.not_eq_true,Bool.not_eq_false,Bool.not_eq_true',Bool.not_eq_false',Bool.not_not,gt_iff_lt,ge_iff_le,Nat.not_lt,Int.not_lt,Int.not_le] at hc47
        refine Ev.skip ?_
        refine Ev.seq ?_
        refine Ev.block ?_
        refine Ev.seq ?_
        refine Ev.reg [] [1,10,11,14,15,44,45,46] (st' := ⟨[(1,(LI ws)),(10,(.ptr 0 0 0 0)),(11,(.ptr 1 0 0 0)),(14,(i6 ((i : Nat) : Int))),(15,(i6 (xs.getD i 0))),(44,(LI xs)),(45,(i6 ((xs.length : Nat) : Int))),(46,(i6 ((i : Nat) : Int)))],[(.var 61 [(LI ws),(LI xs),(i6 (nums.getD 0 0)),(i6 (nums.getD 1 0))]),(.var 57 [(i6 2),(.fn (.func 49) [] []),(.fn (.func 51) [] [])])]⟩)
          (p := True∧(0 ≤ ((i : Nat) : Int)∧((i : Nat) : Int) < (xs.length : Int))∧True∧True∧True∧True) (by kernel_rfl)
          ⟨⟨⟩,(by first | omega | (simp; first | done | omega)),⟨⟩,⟨⟩,⟨⟩,⟨⟩⟩ ?_
        refine Ev.seq ?_
        rcases Int.lt_or_le (xs.getD i 0) 0 with hn | hn
        · skip
          refine Ev.reg [(1,.val (dB true))] [1,10,11,44,45,46,61] (st' := ⟨[(1,(LI ws)),(10,(.ptr 0 0 0 0)),(11,(.ptr 1 0 0 0)),(44,(LI xs)),(45,(i6 ((xs.length : Nat) : Int))),(46,(i6 ((i : Nat) : Int))),(61,(dB true))],[(.var 61 [(LI ws),(LI xs),(i6 (nums.getD 0 0)),(i6 (nums.getD 1 0))]),(.var 57 [(i6 2),(.fn (.func 49) [] []),(.fn (.func 51) [] [])])]⟩)
            (p := True∧(True∧(decide ((xs.getD i 0) < 0)) = true)∧True∧True∧True∧True∧True∧True∧True∧True∧True∧True) (by kernel_rfl)
            ⟨⟨⟩,⟨⟨⟩,(by simpa using hn)⟩,⟨⟩,⟨⟩,⟨⟩,⟨⟩,⟨⟩,⟨⟩,⟨⟩,⟨⟩,⟨⟩,⟨⟩⟩ ?_
          refine Ev.cond true rfl (fun _ => ?_) (fun h => (by cases h))
          refine Ev.seq ?_
          refine Ev.reg [] [8,9] (st' := ⟨[(8,(i6 0)),(9,(i6 1))],[(.var 61 [(LI ws),(LI xs),(i6 (nums.getD 0 0)),(i6 (nums.getD 1 0))]),(.var 57 [(i6 2),(.fn (.func 49) [] []),(.fn (.func 51) [] [])])]⟩)
            (p := True∧True∧True) (by kernel_rfl)
            ⟨⟨⟩,⟨⟩,⟨⟩⟩ ?_
          refine Ev.ret ?_
          refine ⟨⟨⟨⟩,⟨⟩,⟨⟩⟩,(?_ : (0 : Int) = (applyV 9 ws xs nums)∧(1 : Int) = (applyE 9 ws xs nums)∧True),.inr ⟨⟨⟩,⟨⟩,⟨⟩⟩⟩
          exact ⟨(ap_no (ap_in (i := i) (by omega) (.inl hn))).1.symm,(ap_no (ap_in (i := i) (by omega) (.inl hn))).2.symm,⟨⟩⟩
        · skip
          refine Ev.reg [(1,.val (dB false)),(8,.call none false (i6 (maskF (ws.getD i 0))))] [1,10,11,44,45,46,61] (st' := ⟨[(1,(LI ws)),(10,(.ptr 0 0 0 0)),(11,(.ptr 1 0 0 0)),(44,(LI xs)),(45,(i6 ((xs.length : Nat) : Int))),(46,(i6 ((i : Nat) : Int))),(61,(dB (decide ((xs.getD i 0) > (maskF (ws.getD i 0))))))],[(.var 61 [(LI ws),(LI xs),(i6 (nums.getD 0 0)),(i6 (nums.getD 1 0))]),(.var 57 [(i6 2),(.fn (.func 49) [] []),(.fn (.func 51) [] [])])]⟩)
            (p := True∧(True∧(decide ((xs.getD i 0) < 0)) = false)∧True∧True∧True∧True∧(0 ≤ ((i : Nat) : Int)∧((i : Nat) : Int) < (ws.length : Int))∧True∧callOb Try.prog 14 [(.var 61 [(LI ws),(LI xs),(i6 (nums.getD 0 0)),(i6 (nums.getD 1 0))]),(.var 57 [(i6 2),(.fn (.func 49) [] []),(.fn (.func 51) [] [])])] [(i6 (ws.getD i 0))] none false (i6 (maskF (ws.getD i 0)))∧True∧True∧True) (by kernel_rfl)
            ⟨⟨⟩,⟨⟨⟩,(by simpa using hn)⟩,⟨⟩,⟨⟩,⟨⟩,⟨⟩,(by first | omega | (simp; first | done | omega)),⟨⟩,(mask_ok _),⟨⟩,⟨⟩,⟨⟩⟩ ?_
          refine Ev.cond _ rfl (fun hc61 => ?_) (fun hc61 => ?_)
          · try simp only [decide_eq_true_eq,decide_eq_false_iff_not,beq_iff_eq,bne_iff_ne,ne_eq,beq_eq_false_iff_ne,bne_eq_false_iff_eq,Bool.not_eq_true,Bool.not_eq_false,Bool.not_eq_true',Bool.not_eq_false',Bool.not_not,gt_iff_lt,ge_iff_le,Nat.not_lt,Int.not_lt,Int.not_le] at hc61
            refine Ev.seq ?_
            refine Ev.reg [] [8,9] (st' := ⟨[(8,(i6 0)),(9,(i6 1))],[(.var 61 [(LI ws),(LI xs),(i6 (nums.getD 0 0)),(i6 (nums.getD 1 0))]),(.var 57 [(i6 2),(.fn (.func 49) [] []),(.fn (.func 51) [] [])])]⟩)
              (p := True∧True∧True) (by kernel_rfl)
              ⟨⟨⟩,⟨⟩,⟨⟩⟩ ?_
            refine Ev.ret ?_
            refine ⟨⟨⟨⟩,⟨⟩,⟨⟩⟩,(?_ : (0 : Int) = (applyV 9 ws xs nums)∧(1 : Int) = (applyE 9 ws xs nums)∧True),.inr ⟨⟨⟩,⟨⟩,⟨⟩⟩⟩
            exact ⟨(ap_no (ap_in (i := i) (by omega) (.inr (by omega)))).1.symm,(ap_no (ap_in (i := i) (by omega) (.inr (by omega)))).2.symm,⟨⟩⟩
          · try simp only [decide_eq_true_eq,decide_eq_false_iff_not,beq_iff_eq,bne_iff_ne,ne_eq,beq_eq_false_iff_ne,bne_eq_false_iff_eq,Bool.not_eq_true,Bool.not_eq_false,Bool.not_eq_true',Bool.not_eq_false',Bool.not_not,gt_iff_lt,ge_iff_le,Nat.not_lt,Int.not_lt,Int.not_le] at hc61
            refine Ev.skip ?_
            refine Ev.reg [(0,.val (i6 ((i + 1 : Nat) : Int)))] [1,10,11,44,45,46] (st' := ⟨[(1,(LI ws)),(10,(.ptr 0 0 0 0)),(11,(.ptr 1 0 0 0)),(44,(LI xs)),(45,(i6 ((xs.length : Nat) : Int))),(46,(i6 ((i + 1 : Nat) : Int)))],[(.var 61 [(LI ws),(LI xs),(i6 (nums.getD 0 0)),(i6 (nums.getD 1 0))]),(.var 57 [(i6 2),(.fn (.func 49) [] []),(.fn (.func 51) [] [])])]⟩)
              (p := (True∧(IntKind.wrap .i64 (((i : Nat) : Int) + 1)) = ((i + 1 : Nat) : Int))∧True∧True) (by kernel_rfl)
              ⟨⟨⟨⟩,(w64n (by first | rfl | simp | omega) (by first | omega | (simp; first | done | omega)))⟩,⟨⟩,⟨⟩⟩ ?_
            refine ⟨i + 1,by kernel_rfl,(?_ : (i + 1) ≤ xs.length∧∀ j,j < (i + 1) → 0 ≤ xs.getD j 0∧xs.getD j 0 ≤ maskF (ws.getD j 0)),(?_ : xs.length - (i + 1) < xs.length - i)⟩
            · exact ⟨by omega,lt_more hall ⟨by omega,by omega⟩⟩
            · omega
      · try simp only [decide_eq_true_eq,decide_eq_false_iff_not,beq_iff_eq,bne_iff_ne,ne_eq,beq_eq_false_iff_ne,bne_eq_false_iff_eq,Bool.not_eq_true,Bool.not_eq_false,Bool.not_eq_true',Bool.not_eq_false',Bool.not_not,gt_iff_lt,ge_iff_le,Nat.not_lt,Int.not_lt,Int.not_le] at hc47
        refine Ev.exit ?_
        refine Ev.seq ?_
        have hin : inF ws xs = true := in_all (fun j hj => hall j (by omega))
        obtain ⟨hl0,hf,-⟩ := ok_yes h
        have hA : arityF 9 = 2 := by decide
        rw [hA] at hl0
        refine Ev.reg [(3,.call none false (i6 (avF 9 ws xs (nums.getD 0 0) (nums.getD 1 0))))] [8,9] (st' := ⟨[(8,(i6 (avF 9 ws xs (nums.getD 0 0) (nums.getD 1 0)))),(9,(i6 0))],[(.var 61 [(LI ws),(LI xs),(i6 (nums.getD 0 0)),(i6 (nums.getD 1 0))]),(.var 57 [(i6 2),(.fn (.func 49) [] []),(.fn (.func 51) [] [])])]⟩)
          (p := True∧True∧True∧callOb Try.prog 51 [(.var 61 [(LI ws),(LI xs),(i6 (nums.getD 0 0)),(i6 (nums.getD 1 0))]),(.var 57 [(i6 2),(.fn (.func 49) [] []),(.fn (.func 51) [] [])])] [(.agg [(LI ws),(LI xs),(i6 (nums.getD 0 0)),(i6 (nums.getD 1 0))])] none false (i6 (avF 9 ws xs (nums.getD 0 0) (nums.getD 1 0)))∧True∧True∧True) (by kernel_rfl)
          ⟨⟨⟩,⟨⟩,⟨⟩,(lt_ok _ _ _ _ (by omega) (by assumption) (by omega) (by assumption)),⟨⟩,⟨⟩,⟨⟩⟩ ?_
        refine Ev.ret ?_
        refine ⟨⟨⟨⟩,⟨⟩,⟨⟩⟩,(?_ : (avF 9 ws xs (nums.getD 0 0) (nums.getD 1 0)) = (applyV 9 ws xs nums)∧(0 : Int) = (applyE 9 ws xs nums)∧True),.inr ⟨⟨⟩,⟨⟩,⟨⟩⟩⟩
        exact ⟨(ap_yes hx.1 hx.2 h hin).1.symm,(ap_yes hx.1 hx.2 h hin).2.symm,⟨⟩⟩

set_option maxRecDepth 100000 in
theorem Apply_10 (ws xs nums : List Int) (hwl : ws.length ≤ 9223372036854775807) (hxl : xs.length ≤ 9223372036854775807) : CallOk Try.prog 12 [(i6 10),(LI ws),(LI xs),(LI nums)] [] false (.tup [(i6 (applyV 10 ws xs nums)),(i6 (applyE 10 ws xs nums))]) [] := by
  refine CallOk.of_ev Try.func12 rfl rfl rfl ?_
  rintro ⟨_,W,S0,_,susp,_⟩ rfl rfl rfl
  refine Ev.seq ?_
  refine Ev.reg [] [0,1,2,3] (st' := ⟨[(0,(i6 10)),(1,(LI ws)),(2,(LI xs)),(3,(LI nums))],[]⟩)
    (p := True∧True∧True) (by kernel_rfl)
    ⟨⟨⟩,⟨⟩,⟨⟩⟩ ?_
  refine Ev.seq ?_
  refine Ev.seq ?_
  rcases (show nums.length ≠ 2 ∨ (nums.length = 2∧xs.length ≠ ws.length) ∨ (nums.length = 2∧xs.length = ws.length) from by omega) with hx | hx | hx
  · skip
    refine Ev.reg [(2,.val (dB true))] [0,1,2,3,25] (st' := ⟨[(0,(i6 10)),(1,(LI ws)),(2,(LI xs)),(3,(LI nums)),(25,(dB true))],[]⟩)
      (p := True∧True∧(True∧(((nums.length : Nat) : Int) != 2) = true)∧True∧True∧True∧True∧True∧True∧True∧True) (by kernel_rfl)
      ⟨⟨⟩,⟨⟩,⟨⟨⟩,(by exact bne_iff_ne.2 (by omega))⟩,⟨⟩,⟨⟩,⟨⟩,⟨⟩,⟨⟩,⟨⟩,⟨⟩,⟨⟩⟩ ?_
    refine Ev.cond true rfl (fun _ => ?_) (fun h => (by cases h))
    refine Ev.seq ?_
    refine Ev.reg [] [8,9] (st' := ⟨[(8,(i6 0)),(9,(i6 1))],[]⟩)
      (p := True∧True∧True) (by kernel_rfl)
      ⟨⟨⟩,⟨⟩,⟨⟩⟩ ?_
    refine Ev.ret ?_
    refine ⟨⟨⟨⟩,⟨⟩,⟨⟩⟩,(?_ : (0 : Int) = (applyV 10 ws xs nums)∧(1 : Int) = (applyE 10 ws xs nums)∧True),.inr ⟨⟨⟩,⟨⟩,⟨⟩⟩⟩
    exact ⟨(ap_no (ap_n hx)).1.symm,(ap_no (ap_n hx)).2.symm,⟨⟩⟩
  · skip
    refine Ev.reg [(2,.val (dB false)),(8,.val (dB true))] [0,1,2,3,25] (st' := ⟨[(0,(i6 10)),(1,(LI ws)),(2,(LI xs)),(3,(LI nums)),(25,(dB true))],[]⟩)
      (p := True∧True∧(True∧(((nums.length : Nat) : Int) != 2) = false)∧True∧True∧True∧True∧True∧(True∧(((xs.length : Nat) : Int) != ((ws.length : Nat) : Int)) = true)∧True∧True) (by kernel_rfl)
      ⟨⟨⟩,⟨⟩,⟨⟨⟩,(by rw [hx.1]; rfl)⟩,⟨⟩,⟨⟩,⟨⟩,⟨⟩,⟨⟩,⟨⟨⟩,(by exact bne_iff_ne.2 (by omega))⟩,⟨⟩,⟨⟩⟩ ?_
    refine Ev.cond true rfl (fun _ => ?_) (fun h => (by cases h))
    refine Ev.seq ?_
    refine Ev.reg [] [8,9] (st' := ⟨[(8,(i6 0)),(9,(i6 1))],[]⟩)
      (p := True∧True∧True) (by kernel_rfl)
      ⟨⟨⟩,⟨⟩,⟨⟩⟩ ?_
    refine Ev.ret ?_
    refine ⟨⟨⟨⟩,⟨⟩,⟨⟩⟩,(?_ : (0 : Int) = (applyV 10 ws xs nums)∧(1 : Int) = (applyE 10 ws xs nums)∧True),.inr ⟨⟨⟩,⟨⟩,⟨⟩⟩⟩
    exact ⟨(ap_no (ap_l hx.2)).1.symm,(ap_no (ap_l hx.2)).2.symm,⟨⟩⟩
  · skip
    refine Ev.reg [(2,.val (dB false)),(8,.val (dB false))] [0,1,2,3,25] (st' := ⟨[(0,(i6 10)),(1,(LI ws)),(2,(LI xs)),(3,(LI nums)),(25,(dB false))],[]⟩)
      (p := True∧True∧(True∧(((nums.length : Nat) : Int) != 2) = false)∧True∧True∧True∧True∧True∧(True∧(((xs.length : Nat) : Int) != ((ws.length : Nat) : Int)) = false)∧True∧True) (by kernel_rfl)
      ⟨⟨⟩,⟨⟩,⟨⟨⟩,(by rw [hx.1]; rfl)⟩,⟨⟩,⟨⟩,⟨⟩,⟨⟩,⟨⟩,⟨⟨⟩,(by rw [hx.2]; simp)⟩,⟨⟩,⟨⟩⟩ ?_
    refine Ev.cond false rfl (fun h => (by cases h)) (fun _ => ?_)
    refine Ev.skip ?_
    refine Ev.seq ?_
    refine Ev.draw 10 [false,false,false,false,false,false,false,false,false,false] [] [0,1,2,10] (st' := ⟨[(0,(i6 10)),(1,(LI ws)),(2,(LI xs)),(10,(.ptr 0 0 0 0))],[(.var 61 [(LI ws),(LI xs),(i6 (nums.getD 0 0)),(i6 (nums.getD 1 0))])]⟩)
      (p := (True∧True∧True∧(0 ≤ (0 : Int)∧0 < (nums.length : Int))∧True∧True∧(0 ≤ (1 : Int)∧1 < (nums.length : Int))∧True∧True∧True∧True)∧(True∧True)) (by kernel_rfl) (by kernel_rfl)
      ⟨⟨⟨⟩,⟨⟩,⟨⟩,(by first | omega | (simp; first | done | omega)),⟨⟩,⟨⟩,(by first | omega | (simp; first | done | omega)),⟨⟩,⟨⟩,⟨⟩,⟨⟩⟩,⟨⟨⟩,⟨⟩⟩⟩ ?_
    refine Ev.seq ?_
    rcases ok3 10 ws (nums.getD 0 0) (nums.getD 1 0) with ⟨hb,h⟩ | ⟨hb,hv,h⟩ | h
    · skip
      refine Ev.reg [(2,.call none true (.tup [(.agg [(i6 0),(.v .nilf),(.v .nilf)]),(i6 0),(dB false)]))] [1,2,10,11,13] (st' := ⟨[(1,(LI ws)),(2,(LI xs)),(10,(.ptr 0 0 0 0)),(11,(.ptr 1 0 0 0)),(13,(dB false))],[(.var 61 [(LI ws),(LI xs),(i6 (nums.getD 0 0)),(i6 (nums.getD 1 0))]),(.var 57 [(i6 0),(.v .nilf),(.v .nilf)])]⟩)
        (p := True∧True∧callOb Try.prog 27 [(.var 61 [(LI ws),(LI xs),(i6 (nums.getD 0 0)),(i6 (nums.getD 1 0))])] [(i6 10),(.agg [(LI ws),(LI xs),(i6 (nums.getD 0 0)),(i6 (nums.getD 1 0))])] none true (.tup [(.agg [(i6 0),(.v .nilf),(.v .nilf)]),(i6 0),(dB false)])∧True∧True∧True∧True∧True∧True∧True∧True∧True) (by kernel_rfl)
        ⟨⟨⟩,⟨⟩,(width_bad_10 _ _ _ _ hwl hb),⟨⟩,⟨⟩,⟨⟩,⟨⟩,⟨⟩,⟨⟩,⟨⟩,⟨⟩,⟨⟩⟩ ?_
      refine Ev.seq ?_
      refine Ev.seq ?_
      refine Ev.reg [] [1,2,10,11,43] (st' := ⟨[(1,(LI ws)),(2,(LI xs)),(10,(.ptr 0 0 0 0)),(11,(.ptr 1 0 0 0)),(43,(dB true))],[(.var 61 [(LI ws),(LI xs),(i6 (nums.getD 0 0)),(i6 (nums.getD 1 0))]),(.var 57 [(i6 0),(.v .nilf),(.v .nilf)])]⟩)
        (p := True∧True∧True) (by kernel_rfl)
        ⟨⟨⟩,⟨⟩,⟨⟩⟩ ?_
      refine Ev.cond true rfl (fun _ => ?_) (fun h => (by cases h))
      refine Ev.seq ?_
      refine Ev.reg [] [8,9] (st' := ⟨[(8,(i6 0)),(9,(i6 1))],[(.var 61 [(LI ws),(LI xs),(i6 (nums.getD 0 0)),(i6 (nums.getD 1 0))]),(.var 57 [(i6 0),(.v .nilf),(.v .nilf)])]⟩)
        (p := True∧True∧True) (by kernel_rfl)
        ⟨⟨⟩,⟨⟩,⟨⟩⟩ ?_
      refine Ev.ret ?_
      refine ⟨⟨⟨⟩,⟨⟩,⟨⟩⟩,(?_ : (0 : Int) = (applyV 10 ws xs nums)∧(1 : Int) = (applyE 10 ws xs nums)∧True),.inr ⟨⟨⟩,⟨⟩,⟨⟩⟩⟩
      exact ⟨(ap_no (ap_bad h)).1.symm,(ap_no (ap_bad h)).2.symm,⟨⟩⟩
    · skip
      refine Ev.reg [(2,.call none true (.tup [(.agg [(i6 3),(.fn (.func 54) [] []),(.fn (.func 55) [] [])]),(i6 (wvF 10 ws (nums.getD 0 0) (nums.getD 1 0))),(dB false)]))] [1,2,10,11,13] (st' := ⟨[(1,(LI ws)),(2,(LI xs)),(10,(.ptr 0 0 0 0)),(11,(.ptr 1 0 0 0)),(13,(dB false))],[(.var 61 [(LI ws),(LI xs),(i6 (nums.getD 0 0)),(i6 (nums.getD 1 0))]),(.var 57 [(i6 3),(.fn (.func 54) [] []),(.fn (.func 55) [] [])])]⟩)
        (p := True∧True∧callOb Try.prog 27 [(.var 61 [(LI ws),(LI xs),(i6 (nums.getD 0 0)),(i6 (nums.getD 1 0))])] [(i6 10),(.agg [(LI ws),(LI xs),(i6 (nums.getD 0 0)),(i6 (nums.getD 1 0))])] none true (.tup [(.agg [(i6 3),(.fn (.func 54) [] []),(.fn (.func 55) [] [])]),(i6 (wvF 10 ws (nums.getD 0 0) (nums.getD 1 0))),(dB false)])∧True∧True∧True∧True∧True∧True∧True∧True∧True) (by kernel_rfl)
        ⟨⟨⟩,⟨⟩,(width_wv_10 _ _ _ _ hwl hb hv),⟨⟩,⟨⟩,⟨⟩,⟨⟩,⟨⟩,⟨⟩,⟨⟩,⟨⟩,⟨⟩⟩ ?_
      refine Ev.seq ?_
      refine Ev.seq ?_
      refine Ev.reg [] [1,2,10,11,43] (st' := ⟨[(1,(LI ws)),(2,(LI xs)),(10,(.ptr 0 0 0 0)),(11,(.ptr 1 0 0 0)),(43,(dB true))],[(.var 61 [(LI ws),(LI xs),(i6 (nums.getD 0 0)),(i6 (nums.getD 1 0))]),(.var 57 [(i6 3),(.fn (.func 54) [] []),(.fn (.func 55) [] [])])]⟩)
        (p := True∧True∧True) (by kernel_rfl)
        ⟨⟨⟩,⟨⟩,⟨⟩⟩ ?_
      refine Ev.cond true rfl (fun _ => ?_) (fun h => (by cases h))
      refine Ev.seq ?_
      refine Ev.reg [] [8,9] (st' := ⟨[(8,(i6 0)),(9,(i6 1))],[(.var 61 [(LI ws),(LI xs),(i6 (nums.getD 0 0)),(i6 (nums.getD 1 0))]),(.var 57 [(i6 3),(.fn (.func 54) [] []),(.fn (.func 55) [] [])])]⟩)
        (p := True∧True∧True) (by kernel_rfl)
        ⟨⟨⟩,⟨⟩,⟨⟩⟩ ?_
      refine Ev.ret ?_
      refine ⟨⟨⟨⟩,⟨⟩,⟨⟩⟩,(?_ : (0 : Int) = (applyV 10 ws xs nums)∧(1 : Int) = (applyE 10 ws xs nums)∧True),.inr ⟨⟨⟩,⟨⟩,⟨⟩⟩⟩
      exact ⟨(ap_no (ap_bad h)).1.symm,(ap_no (ap_bad h)).2.symm,⟨⟩⟩
    · skip
      refine Ev.reg [(2,.call none true (.tup [(.agg [(i6 3),(.fn (.func 54) [] []),(.fn (.func 55) [] [])]),(i6 (wvF 10 ws (nums.getD 0 0) (nums.getD 1 0))),(dB true)]))] [1,2,10,11,13] (st' := ⟨[(1,(LI ws)),(2,(LI xs)),(10,(.ptr 0 0 0 0)),(11,(.ptr 1 0 0 0)),(13,(dB true))],[(.var 61 [(LI ws),(LI xs),(i6 (nums.getD 0 0)),(i6 (nums.getD 1 0))]),(.var 57 [(i6 3),(.fn (.func 54) [] []),(.fn (.func 55) [] [])])]⟩)
        (p := True∧True∧callOb Try.prog 27 [(.var 61 [(LI ws),(LI xs),(i6 (nums.getD 0 0)),(i6 (nums.getD 1 0))])] [(i6 10),(.agg [(LI ws),(LI xs),(i6 (nums.getD 0 0)),(i6 (nums.getD 1 0))])] none true (.tup [(.agg [(i6 3),(.fn (.func 54) [] []),(.fn (.func 55) [] [])]),(i6 (wvF 10 ws (nums.getD 0 0) (nums.getD 1 0))),(dB true)])∧True∧True∧True∧True∧True∧True∧True∧True∧True) (by kernel_rfl)
        ⟨⟨⟩,⟨⟩,(width_good_10 _ _ _ _ hwl h),⟨⟩,⟨⟩,⟨⟩,⟨⟩,⟨⟩,⟨⟩,⟨⟩,⟨⟩,⟨⟩⟩ ?_
      refine Ev.seq ?_
      refine Ev.seq ?_
      refine Ev.reg [] [1,2,10,11,43] (st' := ⟨[(1,(LI ws)),(2,(LI xs)),(10,(.ptr 0 0 0 0)),(11,(.ptr 1 0 0 0)),(43,(dB false))],[(.var 61 [(LI ws),(LI xs),(i6 (nums.getD 0 0)),(i6 (nums.getD 1 0))]),(.var 57 [(i6 3),(.fn (.func 54) [] []),(.fn (.func 55) [] [])])]⟩)
        (p := True∧True∧True) (by kernel_rfl)
        ⟨⟨⟩,⟨⟩,⟨⟩⟩ ?_
      refine Ev.cond false rfl (fun h => (by cases h)) (fun _ => ?_)
      refine Ev.skip ?_
      refine Ev.seq ?_
      refine Ev.seq ?_
      refine Ev.reg [] [1,10,11,44,45,46] (st' := ⟨[(1,(LI ws)),(10,(.ptr 0 0 0 0)),(11,(.ptr 1 0 0 0)),(44,(LI xs)),(45,(i6 ((xs.length : Nat) : Int))),(46,(i6 0))],[(.var 61 [(LI ws),(LI xs),(i6 (nums.getD 0 0)),(i6 (nums.getD 1 0))]),(.var 57 [(i6 3),(.fn (.func 54) [] []),(.fn (.func 55) [] [])])]⟩)
        (p := True∧True∧True∧True) (by kernel_rfl)
        ⟨⟨⟩,⟨⟩,⟨⟩,⟨⟩⟩ ?_
      refine Ev.block ?_
      refine Ev.loop [1,10,11,44,45,46] 2 (fun (i : Nat) => ⟨[(1,(LI ws)),(10,(.ptr 0 0 0 0)),(11,(.ptr 1 0 0 0)),(44,(LI xs)),(45,(i6 ((xs.length : Nat) : Int))),(46,(i6 ((i : Nat) : Int)))],[(.var 61 [(LI ws),(LI xs),(i6 (nums.getD 0 0)),(i6 (nums.getD 1 0))]),(.var 57 [(i6 3),(.fn (.func 54) [] []),(.fn (.func 55) [] [])])]⟩) (fun (i : Nat) => i ≤ xs.length∧∀ j,j < i → 0 ≤ xs.getD j 0∧xs.getD j 0 ≤ maskF (ws.getD j 0)) (fun (i : Nat) => xs.length - i) 0 (by kernel_rfl) (⟨by omega,fun j hj => by omega⟩) ?_
      rintro i hinv
      have hinv : i ≤ xs.length∧∀ j,j < i → 0 ≤ xs.getD j 0∧xs.getD j 0 ≤ maskF (ws.getD j 0) := hinv
      obtain ⟨hi,hall⟩ := hinv
      refine Ev.seq ?_
      refine Ev.reg [] [1,10,11,44,45,46,47] (st' := ⟨[(1,(LI ws)),(10,(.ptr 0 0 0 0)),(11,(.ptr 1 0 0 0)),(44,(LI xs)),(45,(i6 ((xs.length : Nat) : Int))),(46,(i6 ((i : Nat) : Int))),(47,(dB (decide (((i : Nat) : Int) < ((xs.length : Nat) : Int)))))],[(.var 61 [(LI ws),(LI xs),(i6 (nums.getD 0 0)),(i6 (nums.getD 1 0))]),(.var 57 [(i6 3),(.fn (.func 54) [] []),(.fn (.func 55) [] [])])]⟩)
        (p := True∧True) (by kernel_rfl)
        ⟨⟨⟩,⟨⟩⟩ ?_
      refine Ev.seq ?_
      refine Ev.cond _ rfl (fun hc47 => ?_) (fun hc47 => ?_)
      · try simp only [decide_eq_true_eq,decide_eq_false_iff_not,beq_iff_eq,bne_iff_ne,ne_eq,beq_eq_false_iff_ne,bne_eq_false_iff_eq,Bool.not_eq_true,Bool.not_eq_false,Bool.not_eq_true',Bool.not_eq_false',Bool.not_not,gt_iff_lt,ge_iff_le,Nat.not_lt,Int.not_lt,Int.not_le] at hc47
        refine Ev.skip ?_
        refine Ev.seq ?_
        refine Ev.block ?_
        refine Ev.seq ?_
        refine Ev.reg [] [1,10,11,14,15,44,45,46] (st' := ⟨[(1,(LI ws)),(10,(.ptr 0 0 0 0)),(11,(.ptr 1 0 0 0)),(14,(i6 ((i : Nat) : Int))),(15,(i6 (xs.getD i 0))),(44,(LI xs)),(45,(i6 ((xs.length : Nat) : Int))),(46,(i6 ((i : Nat) : Int)))],[(.var 61 [(LI ws),(LI xs),(i6 (nums.getD 0 0)),(i6 (nums.getD 1 0))]),(.var 57 [(i6 3),(.fn (.func 54) [] []),(.fn (.func 55) [] [])])]⟩)
          (p := True∧(0 ≤ ((i : Nat) : Int)∧((i : Nat) : Int) < (xs.length : Int))∧True∧True∧True∧True) (by kernel_rfl)
          ⟨⟨⟩,(by first | omega | (simp; first | done | omega)),⟨⟩,⟨⟩,⟨⟩,⟨⟩⟩ ?_
        refine Ev.seq ?_
        rcases Int.lt_or_le (xs.getD i 0) 0 with hn | hn
        · skip
          refine Ev.reg [(1,.val (dB true))] [1,10,11,44,45,46,61] (st' := ⟨[(1,(LI ws)),(10,(.ptr 0 0 0 0)),(11,(.ptr 1 0 0 0)),(44,(LI xs)),(45,(i6 ((xs.length : Nat) : Int))),(46,(i6 ((i : Nat) : Int))),(61,(dB true))],[(.var 61 [(LI ws),(LI xs),(i6 (nums.getD 0 0)),(i6 (nums.getD 1 0))]),(.var 57 [(i6 3),(.fn (.func 54) [] []),(.fn (.func 55) [] [])])]⟩)
            (p := True∧(True∧(decide ((xs.getD i 0) < 0)) = true)∧True∧True∧True∧True∧True∧True∧True∧True∧True∧True) (by kernel_rfl)
            ⟨⟨⟩,⟨⟨⟩,(by simpa using hn)⟩,⟨⟩,⟨⟩,⟨⟩,⟨⟩,⟨⟩,⟨⟩,⟨⟩,⟨⟩,⟨⟩,⟨⟩⟩ ?_
          refine Ev.cond true rfl (fun _ => ?_) (fun h => (by cases h))
          refine Ev.seq ?_
          refine Ev.reg [] [8,9] (st' := ⟨[(8,(i6 0)),(9,(i6 1))],[(.var 61 [(LI ws),(LI xs),(i6 (nums.getD 0 0)),(i6 (nums.getD 1 0))]),(.var 57 [(i6 3),(.fn (.func 54) [] []),(.fn (.func 55) [] [])])]⟩)
            (p := True∧True∧True) (by kernel_rfl)
            ⟨⟨⟩,⟨⟩,⟨⟩⟩ ?_
          refine Ev.ret ?_
          refine ⟨⟨⟨⟩,⟨⟩,⟨⟩⟩,(?_ : (0 : Int) = (applyV 10 ws xs nums)∧(1 : Int) = (applyE 10 ws xs nums)∧True),.inr ⟨⟨⟩,⟨⟩,⟨⟩⟩⟩
          exact ⟨(ap_no (ap_in (i := i) (by omega) (.inl hn))).1.symm,(ap_no (ap_in (i := i) (by omega) (.inl hn))).2.symm,⟨⟩⟩
        · skip
          refine Ev.reg [(1,.val (dB false)),(8,.call none false (i6 (maskF (ws.getD i 0))))] [1,10,11,44,45,46,61] (st' := ⟨[(1,(LI ws)),(10,(.ptr 0 0 0 0)),(11,(.ptr 1 0 0 0)),(44,(LI xs)),(45,(i6 ((xs.length : Nat) : Int))),(46,(i6 ((i : Nat) : Int))),(61,(dB (decide ((xs.getD i 0) > (maskF (ws.getD i 0))))))],[(.var 61 [(LI ws),(LI xs),(i6 (nums.getD 0 0)),(i6 (nums.getD 1 0))]),(.var 57 [(i6 3),(.fn (.func 54) [] []),(.fn (.func 55) [] [])])]⟩)
            (p := True∧(True∧(decide ((xs.getD i 0) < 0)) = false)∧True∧True∧True∧True∧(0 ≤ ((i : Nat) : Int)∧((i : Nat) : Int) < (ws.length : Int))∧True∧callOb Try.prog 14 [(.var 61 [(LI ws),(LI xs),(i6 (nums.getD 0 0)),(i6 (nums.getD 1 0))]),(.var 57 [(i6 3),(.fn (.func 54) [] []),(.fn (.func 55) [] [])])] [(i6 (ws.getD i 0))] none false (i6 (maskF (ws.getD i 0)))∧True∧True∧True) (by kernel_rfl)
            ⟨⟨⟩,⟨⟨⟩,(by simpa using hn)⟩,⟨⟩,⟨⟩,⟨⟩,⟨⟩,(by first | omega | (simp; first | done | omega)),⟨⟩,(mask_ok _),⟨⟩,⟨⟩,⟨⟩⟩ ?_
          refine Ev.cond _ rfl (fun hc61 => ?_) (fun hc61 => ?_)
          · try simp only [decide_eq_true_eq,decide_eq_false_iff_not,beq_iff_eq,bne_iff_ne,ne_eq,beq_eq_false_iff_ne,bne_eq_false_iff_eq,Bool.not_eq_true,Bool.not_eq_false,Bool.not_eq_true',Bool.not_eq_false',Bool.not_not,gt_iff_lt,ge_iff_le,Nat.not_lt,Int.not_lt,Int.not_le] at hc61
            refine Ev.seq ?_
            refine Ev.reg [] [8,9] (st' := ⟨[(8,(i6 0)),(9,(i6 1))],[(.var 61 [(LI ws),(LI xs),(i6 (nums.getD 0 0)),(i6 (nums.getD 1 0))]),(.var 57 [(i6 3),(.fn (.func 54) [] []),(.fn (.func 55) [] [])])]⟩)
              (p := True∧True∧True) (by kernel_rfl)
              ⟨⟨⟩,⟨⟩,⟨⟩⟩ ?_
            refine Ev.ret ?_
            refine ⟨⟨⟨⟩,⟨⟩,⟨⟩⟩,(?_ : (0 : Int) = (applyV 10 ws xs nums)∧(1 : Int) = (applyE 10 ws xs nums)∧True),.inr ⟨⟨⟩,⟨⟩,⟨⟩⟩⟩
            exact ⟨(ap_no (ap_in (i := i) (by omega) (.inr (by omega)))).1.symm,(ap_no (ap_in (i := i) (by omega) (.inr (by omega)))).2.symm,⟨⟩⟩
          · try simp only [decide_eq_true_eq,decide_eq_false_iff_not,beq_iff_eq,bne_iff_ne,ne_eq,beq_eq_false_iff_ne,bne_eq_false_iff_eq,Bool.not_eq_true,Bool.not_eq_false,Bool.not_eq_true',Bool.not_eq_false',Bool.not_not,gt_iff_lt,ge_iff_le,Nat.not_lt,Int.not_lt,Int.not_le] at hc61
            refine Ev.skip ?_
            refine Ev.reg [(0,.val (i6 ((i + 1 : Nat) : Int)))] [1,10,11,44,45,46] (st' := ⟨[(1,(LI ws)),(10,(.ptr 0 0 0 0)),(11,(.ptr 1 0 0 0)),(44,(LI xs)),(45,(i6 ((xs.length : Nat) : Int))),(46,(i6 ((i + 1 : Nat) : Int)))],[(.var 61 [(LI ws),(LI xs),(i6 (nums.getD 0 0)),(i6 (nums.getD 1 0))]),(.var 57 [(i6 3),(.fn (.func 54) [] []),(.fn (.func 55) [] [])])]⟩)
              (p := (True∧(IntKind.wrap .i64 (((i : Nat) : Int) + 1)) = ((i + 1 : Nat) : Int))∧True∧True) (by kernel_rfl)
              ⟨⟨⟨⟩,(w64n (by first | rfl | simp | omega) (by first | omega | (simp; first | done | omega)))⟩,⟨⟩,⟨⟩⟩ ?_
            refine ⟨i + 1,by kernel_rfl,(?_ : (i + 1) ≤ xs.length∧∀ j,j < (i + 1) → 0 ≤ xs.getD j 0∧xs.getD j 0 ≤ maskF (ws.getD j 0)),(?_ : xs.length - (i + 1) < xs.length - i)⟩
            · exact ⟨by omega,lt_more hall ⟨by omega,by omega⟩⟩
            · omega
      · try simp only [decide_eq_true_eq,decide_eq_false_iff_not,beq_iff_eq,bne_iff_ne,ne_eq,beq_eq_false_iff_ne,bne_eq_false_iff_eq,Bool.not_eq_true,Bool.not_eq_false,Bool.not_eq_true',Bool.not_eq_false',Bool.not_not,gt_iff_lt,ge_iff_le,Nat.not_lt,Int.not_lt,Int.not_le] at hc47
        refine Ev.exit ?_
        refine Ev.seq ?_
        have hin : inF ws xs = true := in_all (fun j hj => hall j (by omega))
        obtain ⟨hl0,hf,-⟩ := ok_yes h
        have hA : arityF 10 = 3 := by decide
        rw [hA] at hl0
        have hm1 := mux_one h
        refine Ev.reg [(3,.call none false (i6 (avF 10 ws xs (nums.getD 0 0) (nums.getD 1 0))))] [8,9] (st' := ⟨[(8,(i6 (avF 10 ws xs (nums.getD 0 0) (nums.getD 1 0)))),(9,(i6 0))],[(.var 61 [(LI ws),(LI xs),(i6 (nums.getD 0 0)),(i6 (nums.getD 1 0))]),(.var 57 [(i6 3),(.fn (.func 54) [] []),(.fn (.func 55) [] [])])]⟩)
          (p := True∧True∧True∧callOb Try.prog 55 [(.var 61 [(LI ws),(LI xs),(i6 (nums.getD 0 0)),(i6 (nums.getD 1 0))]),(.var 57 [(i6 3),(.fn (.func 54) [] []),(.fn (.func 55) [] [])])] [(.agg [(LI ws),(LI xs),(i6 (nums.getD 0 0)),(i6 (nums.getD 1 0))])] none false (i6 (avF 10 ws xs (nums.getD 0 0) (nums.getD 1 0)))∧True∧True∧True) (by kernel_rfl)
          ⟨⟨⟩,⟨⟩,⟨⟩,(mux_ok _ _ _ _ (by omega) (by assumption) (by omega) (by assumption) (by assumption)),⟨⟩,⟨⟩,⟨⟩⟩ ?_
        refine Ev.ret ?_
        refine ⟨⟨⟨⟩,⟨⟩,⟨⟩⟩,(?_ : (avF 10 ws xs (nums.getD 0 0) (nums.getD 1 0)) = (applyV 10 ws xs nums)∧(0 : Int) = (applyE 10 ws xs nums)∧True),.inr ⟨⟨⟩,⟨⟩,⟨⟩⟩⟩
        exact ⟨(ap_yes hx.1 hx.2 h hin).1.symm,(ap_yes hx.1 hx.2 h hin).2.symm,⟨⟩⟩

set_option maxRecDepth 100000 in
theorem Apply_11 (ws xs nums : List Int) (hwl : ws.length ≤ 9223372036854775807) (hxl : xs.length ≤ 9223372036854775807) : CallOk Try.prog 12 [(i6 11),(LI ws),(LI xs),(LI nums)] [] false (.tup [(i6 (applyV 11 ws xs nums)),(i6 (applyE 11 ws xs nums))]) [] := by
  refine CallOk.of_ev Try.func12 rfl rfl rfl ?_
  rintro ⟨_,W,S0,_,susp,_⟩ rfl rfl rfl
  refine Ev.seq ?_
  refine Ev.reg [] [0,1,2,3] (st' := ⟨[(0,(i6 11)),(1,(LI ws)),(2,(LI xs)),(3,(LI nums))],[]⟩)
    (p := True∧True∧True) (by kernel_rfl)
    ⟨⟨⟩,⟨⟩,⟨⟩⟩ ?_
  refine Ev.seq ?_
  refine Ev.seq ?_
  rcases (show nums.length ≠ 2 ∨ (nums.length = 2∧xs.length ≠ ws.length) ∨ (nums.length = 2∧xs.length = ws.length) from by omega) with hx | hx | hx
  · skip
    refine Ev.reg [(2,.val (dB true))] [0,1,2,3,25] (st' := ⟨[(0,(i6 11)),(1,(LI ws)),(2,(LI xs)),(3,(LI nums)),(25,(dB true))],[]⟩)
      (p := True∧True∧(True∧(((nums.length : Nat) : Int) != 2) = true)∧True∧True∧True∧True∧True∧True∧True∧True) (by kernel_rfl)
      ⟨⟨⟩,⟨⟩,⟨⟨⟩,(by exact bne_iff_ne.2 (by omega))⟩,⟨⟩,⟨⟩,⟨⟩,⟨⟩,⟨⟩,⟨⟩,⟨⟩,⟨⟩⟩ ?_
    refine Ev.cond true rfl (fun _ => ?_) (fun h => (by cases h))
    refine Ev.seq ?_
    refine Ev.reg [] [8,9] (st' := ⟨[(8,(i6 0)),(9,(i6 1))],[]⟩)
      (p := True∧True∧True) (by kernel_rfl)
      ⟨⟨⟩,⟨⟩,⟨⟩⟩ ?_
    refine Ev.ret ?_
    refine ⟨⟨⟨⟩,⟨⟩,⟨⟩⟩,(?_ : (0 : Int) = (applyV 11 ws xs nums)∧(1 : Int) = (applyE 11 ws xs nums)∧True),.inr ⟨⟨⟩,⟨⟩,⟨⟩⟩⟩
    exact ⟨(ap_no (ap_n hx)).1.symm,(ap_no (ap_n hx)).2.symm,⟨⟩⟩
  · skip
    refine Ev.reg [(2,.val (dB false)),(8,.val (dB true))] [0,1,2,3,25] (st' := ⟨[(0,(i6 11)),(1,(LI ws)),(2,(LI xs)),(3,(LI nums)),(25,(dB true))],[]⟩)
      (p := True∧True∧(True∧(((nums.length : Nat) : Int) != 2) = false)∧True∧True∧True∧True∧True∧(True∧(((xs.length : Nat) : Int) != ((ws.length : Nat) : Int)) = true)∧True∧True) (by kernel_rfl)
      ⟨⟨⟩,⟨⟩,⟨⟨⟩,(by rw [hx.1]; rfl)⟩,⟨⟩,⟨⟩,⟨⟩,⟨⟩,⟨⟩,⟨⟨⟩,(by exact bne_iff_ne.2 (by omega))⟩,⟨⟩,⟨⟩⟩ ?_
    refine Ev.cond true rfl (fun _ => ?_) (fun h => (by cases h))
    refine Ev.seq ?_
    refine Ev.reg [] [8,9] (st' := ⟨[(8,(i6 0)),(9,(i6 1))],[]⟩)
      (p := True∧True∧True) (by kernel_rfl)
      ⟨⟨⟩,⟨⟩,⟨⟩⟩ ?_
    refine Ev.ret ?_
    refine ⟨⟨⟨⟩,⟨⟩,⟨⟩⟩,(?_ : (0 : Int) = (applyV 11 ws xs nums)∧(1 : Int) = (applyE 11 ws xs nums)∧True),.inr ⟨⟨⟩,⟨⟩,⟨⟩⟩⟩
    exact ⟨(ap_no (ap_l hx.2)).1.symm,(ap_no (ap_l hx.2)).2.symm,⟨⟩⟩
  · skip
    refine Ev.reg [(2,.val (dB false)),(8,.val (dB false))] [0,1,2,3,25] (st' := ⟨[(0,(i6 11)),(1,(LI ws)),(2,(LI xs)),(3,(LI nums)),(25,(dB false))],[]⟩)
      (p := True∧True∧(True∧(((nums.length : Nat) : Int) != 2) = false)∧True∧True∧True∧True∧True∧(True∧(((xs.length : Nat) : Int) != ((ws.length : Nat) : Int)) = false)∧True∧True) (by kernel_rfl)
      ⟨⟨⟩,⟨⟩,⟨⟨⟩,(by rw [hx.1]; rfl)⟩,⟨⟩,⟨⟩,⟨⟩,⟨⟩,⟨⟩,⟨⟨⟩,(by rw [hx.2]; simp)⟩,⟨⟩,⟨⟩⟩ ?_
    refine Ev.cond false rfl (fun h => (by cases h)) (fun _ => ?_)
    refine Ev.skip ?_
    refine Ev.seq ?_
    refine Ev.draw 10 [false,false,false,false,false,false,false,false,false,false] [] [0,1,2,10] (st' := ⟨[(0,(i6 11)),(1,(LI ws)),(2,(LI xs)),(10,(.ptr 0 0 0 0))],[(.var 61 [(LI ws),(LI xs),(i6 (nums.getD 0 0)),(i6 (nums.getD 1 0))])]⟩)
      (p := (True∧True∧True∧(0 ≤ (0 : Int)∧0 < (nums.length : Int))∧True∧True∧(0 ≤ (1 : Int)∧1 < (nums.length : Int))∧True∧True∧True∧True)∧(True∧True)) (by kernel_rfl) (by kernel_rfl)
      ⟨⟨⟨⟩,⟨⟩,⟨⟩,(by first | omega | (simp; first | done | omega)),⟨⟩,⟨⟩,(by first | omega | (simp; first | done | omega)),⟨⟩,⟨⟩,⟨⟩,⟨⟩⟩,⟨⟨⟩,⟨⟩⟩⟩ ?_
    refine Ev.seq ?_
    rcases ok3 11 ws (nums.getD 0 0) (nums.getD 1 0) with ⟨hb,h⟩ | ⟨hb,hv,h⟩ | h
    · skip
      refine Ev.reg [(2,.call none true (.tup [(.agg [(i6 0),(.v .nilf),(.v .nilf)]),(i6 0),(dB false)]))] [1,2,10,11,13] (st' := ⟨[(1,(LI ws)),(2,(LI xs)),(10,(.ptr 0 0 0 0)),(11,(.ptr 1 0 0 0)),(13,(dB false))],[(.var 61 [(LI ws),(LI xs),(i6 (nums.getD 0 0)),(i6 (nums.getD 1 0))]),(.var 57 [(i6 0),(.v .nilf),(.v .nilf)])]⟩)
        (p := True∧True∧callOb Try.prog 27 [(.var 61 [(LI ws),(LI xs),(i6 (nums.getD 0 0)),(i6 (nums.getD 1 0))])] [(i6 11),(.agg [(LI ws),(LI xs),(i6 (nums.getD 0 0)),(i6 (nums.getD 1 0))])] none true (.tup [(.agg [(i6 0),(.v .nilf),(.v .nilf)]),(i6 0),(dB false)])∧True∧True∧True∧True∧True∧True∧True∧True∧True) (by kernel_rfl)
        ⟨⟨⟩,⟨⟩,(width_bad_11 _ _ _ _ hwl hb),⟨⟩,⟨⟩,⟨⟩,⟨⟩,⟨⟩,⟨⟩,⟨⟩,⟨⟩,⟨⟩⟩ ?_
      refine Ev.seq ?_
      refine Ev.seq ?_
      refine Ev.reg [] [1,2,10,11,43] (st' := ⟨[(1,(LI ws)),(2,(LI xs)),(10,(.ptr 0 0 0 0)),(11,(.ptr 1 0 0 0)),(43,(dB true))],[(.var 61 [(LI ws),(LI xs),(i6 (nums.getD 0 0)),(i6 (nums.getD 1 0))]),(.var 57 [(i6 0),(.v .nilf),(.v .nilf)])]⟩)
        (p := True∧True∧True) (by kernel_rfl)
        ⟨⟨⟩,⟨⟩,⟨⟩⟩ ?_
      refine Ev.cond true rfl (fun _ => ?_) (fun h => (by cases h))
      refine Ev.seq ?_
      refine Ev.reg [] [8,9] (st' := ⟨[(8,(i6 0)),(9,(i6 1))],[(.var 61 [(LI ws),(LI xs),(i6 (nums.getD 0 0)),(i6 (nums.getD 1 0))]),(.var 57 [(i6 0),(.v .nilf),(.v .nilf)])]⟩)
        (p := True∧True∧True) (by kernel_rfl)
        ⟨⟨⟩,⟨⟩,⟨⟩⟩ ?_
      refine Ev.ret ?_
      refine ⟨⟨⟨⟩,⟨⟩,⟨⟩⟩,(?_ : (0 : Int) = (applyV 11 ws xs nums)∧(1 : Int) = (applyE 11 ws xs nums)∧True),.inr ⟨⟨⟩,⟨⟩,⟨⟩⟩⟩
      exact ⟨(ap_no (ap_bad h)).1.symm,(ap_no (ap_bad h)).2.symm,⟨⟩⟩
    · skip
      refine Ev.reg [(2,.call none true (.tup [(.agg [(i6 2),(.fn (.func 56) [] []),(.fn (.func 57) [] [])]),(i6 (wvF 11 ws (nums.getD 0 0) (nums.getD 1 0))),(dB false)]))] [1,2,10,11,13] (st' := ⟨[(1,(LI ws)),(2,(LI xs)),(10,(.ptr 0 0 0 0)),(11,(.ptr 1 0 0 0)),(13,(dB false))],[(.var 61 [(LI ws),(LI xs),(i6 (nums.getD 0 0)),(i6 (nums.getD 1 0))]),(.var 57 [(i6 2),(.fn (.func 56) [] []),(.fn (.func 57) [] [])])]⟩)
        (p := True∧True∧callOb Try.prog 27 [(.var 61 [(LI ws),(LI xs),(i6 (nums.getD 0 0)),(i6 (nums.getD 1 0))])] [(i6 11),(.agg [(LI ws),(LI xs),(i6 (nums.getD 0 0)),(i6 (nums.getD 1 0))])] none true (.tup [(.agg [(i6 2),(.fn (.func 56) [] []),(.fn (.func 57) [] [])]),(i6 (wvF 11 ws (nums.getD 0 0) (nums.getD 1 0))),(dB false)])∧True∧True∧True∧True∧True∧True∧True∧True∧True) (by kernel_rfl)
        ⟨⟨⟩,⟨⟩,(width_wv_11 _ _ _ _ hwl hb hv),⟨⟩,⟨⟩,⟨⟩,⟨⟩,⟨⟩,⟨⟩,⟨⟩,⟨⟩,⟨⟩⟩ ?_
      refine Ev.seq ?_
      refine Ev.seq ?_
      refine Ev.reg [] [1,2,10,11,43] (st' := ⟨[(1,(LI ws)),(2,(LI xs)),(10,(.ptr 0 0 0 0)),(11,(.ptr 1 0 0 0)),(43,(dB true))],[(.var 61 [(LI ws),(LI xs),(i6 (nums.getD 0 0)),(i6 (nums.getD 1 0))]),(.var 57 [(i6 2),(.fn (.func 56) [] []),(.fn (.func 57) [] [])])]⟩)
        (p := True∧True∧True) (by kernel_rfl)
        ⟨⟨⟩,⟨⟩,⟨⟩⟩ ?_
      refine Ev.cond true rfl (fun _ => ?_) (fun h => (by cases h))
      refine Ev.seq ?_
      refine Ev.reg [] [8,9] (st' := ⟨[(8,(i6 0)),(9,(i6 1))],[(.var 61 [(LI ws),(LI xs),(i6 (nums.getD 0 0)),(i6 (nums.getD 1 0))]),(.var 57 [(i6 2),(.fn (.func 56) [] []),(.fn (.func 57) [] [])])]⟩)
        (p := True∧True∧True) (by kernel_rfl)
        ⟨⟨⟩,⟨⟩,⟨⟩⟩ ?_
      refine Ev.ret ?_
      refine ⟨⟨⟨⟩,⟨⟩,⟨⟩⟩,(?_ : (0 : Int) = (applyV 11 ws xs nums)∧(1 : Int) = (applyE 11 ws xs nums)∧True),.inr ⟨⟨⟩,⟨⟩,⟨⟩⟩⟩
      exact ⟨(ap_no (ap_bad h)).1.symm,(ap_no (ap_bad h)).2.symm,⟨⟩⟩
    · skip
      refine Ev.reg [(2,.call none true (.tup [(.agg [(i6 2),(.fn (.func 56) [] []),(.fn (.func 57) [] [])]),(i6 (wvF 11 ws (nums.getD 0 0) (nums.getD 1 0))),(dB true)]))] [1,2,10,11,13] (st' := ⟨[(1,(LI ws)),(2,(LI xs)),(10,(.ptr 0 0 0 0)),(11,(.ptr 1 0 0 0)),(13,(dB true))],[(.var 61 [(LI ws),(LI xs),(i6 (nums.getD 0 0)),(i6 (nums.getD 1 0))]),(.var 57 [(i6 2),(.fn (.func 56) [] []),(.fn (.func 57) [] [])])]⟩)
        (p := True∧True∧callOb Try.prog 27 [(.var 61 [(LI ws),(LI xs),(i6 (nums.getD 0 0)),(i6 (nums.getD 1 0))])] [(i6 11),(.agg [(LI ws),(LI xs),(i6 (nums.getD 0 0)),(i6 (nums.getD 1 0))])] none true (.tup [(.agg [(i6 2),(.fn (.func 56) [] []),(.fn (.func 57) [] [])]),(i6 (wvF 11 ws (nums.getD 0 0) (nums.getD 1 0))),(dB true)])∧True∧True∧True∧True∧True∧True∧True∧True∧True) (by kernel_rfl)
        ⟨⟨⟩,⟨⟩,(width_good_11 _ _ _ _ hwl h),⟨⟩,⟨⟩,⟨⟩,⟨⟩,⟨⟩,⟨⟩,⟨⟩,⟨⟩,⟨⟩⟩ ?_
      refine Ev.seq ?_
      refine Ev.seq ?_
      refine Ev.reg [] [1,2,10,11,43] (st' := ⟨[(1,(LI ws)),(2,(LI xs)),(10,(.ptr 0 0 0 0)),(11,(.ptr 1 0 0 0)),(43,(dB false))],[(.var 61 [(LI ws),(LI xs),(i6 (nums.getD 0 0)),(i6 (nums.getD 1 0))]),(.var 57 [(i6 2),(.fn (.func 56) [] []),(.fn (.func 57) [] [])])]⟩)
        (p := True∧True∧True) (by kernel_rfl)
        ⟨⟨⟩,⟨⟩,⟨⟩⟩ ?_
      refine Ev.cond false rfl (fun h => (by cases h)) (fun _ => ?_)
      refine Ev.skip ?_
      refine Ev.seq ?_
      refine Ev.seq ?_
      refine Ev.reg [] [1,10,11,44,45,46] (st' := ⟨[(1,(LI ws)),(10,(.ptr 0 0 0 0)),(11,(.ptr 1 0 0 0)),(44,(LI xs)),(45,(i6 ((xs.length : Nat) : Int))),(46,(i6 0))],[(.var 61 [(LI ws),(LI xs),(i6 (nums.getD 0 0)),(i6 (nums.getD 1 0))]),(.var 57 [(i6 2),(.fn (.func 56) [] []),(.fn (.func 57) [] [])])]⟩)
        (p := True∧True∧True∧True) (by kernel_rfl)
        ⟨⟨⟩,⟨⟩,⟨⟩,⟨⟩⟩ ?_
      refine Ev.block ?_
      refine Ev.loop [1,10,11,44,45,46] 2 (fun (i : Nat) => ⟨[(1,(LI ws)),(10,(.ptr 0 0 0 0)),(11,(.ptr 1 0 0 0)),(44,(LI xs)),(45,(i6 ((xs.length : Nat) : Int))),(46,(i6 ((i : Nat) : Int)))],[(.var 61 [(LI ws),(LI xs),(i6 (nums.getD 0 0)),(i6 (nums.getD 1 0))]),(.var 57 [(i6 2),(.fn (.func 56) [] []),(.fn (.func 57) [] [])])]⟩) (fun (i : Nat) => i ≤ xs.length∧∀ j,j < i → 0 ≤ xs.getD j 0∧xs.getD j 0 ≤ maskF (ws.getD j 0)) (fun (i : Nat) => xs.length - i) 0 (by kernel_rfl) (⟨by omega,fun j hj => by omega⟩) ?_
      rintro i hinv
      have hinv : i ≤ xs.length∧∀ j,j < i → 0 ≤ xs.getD j 0∧xs.getD j 0 ≤ maskF (ws.getD j 0) := hinv
      obtain ⟨hi,hall⟩ := hinv
      refine Ev.seq ?_
      refine Ev.reg [] [1,10,11,44,45,46,47] (st' := ⟨[(1,(LI ws)),(10,(.ptr 0 0 0 0)),(11,(.ptr 1 0 0 0)),(44,(LI xs)),(45,(i6 ((xs.length : Nat) : Int))),(46,(i6 ((i : Nat) : Int))),(47,(dB (decide (((i : Nat) : Int) < ((xs.length : Nat) : Int)))))],[(.var 61 [(LI ws),(LI xs),(i6 (nums.getD 0 0)),(i6 (nums.getD 1 0))]),(.var 57 [(i6 2),(.fn (.func 56) [] []),(.fn (.func 57) [] [])])]⟩)
        (p := True∧True) (by kernel_rfl)
        ⟨⟨⟩,⟨⟩⟩ ?_
      refine Ev.seq ?_
      refine Ev.cond _ rfl (fun hc47 => ?_) (fun hc47 => ?_)
      · try simp only [decide_eq_true_eq,decide_eq_false_iff_not,beq_iff_eq,bne_iff_ne,ne_eq,beq_eq_false_iff_ne,bne_eq_false_iff_eq,Bool.not_eq_true,Bool.not_eq_false,Bool.not_eq_true',Bool.not_eq_false',Bool.not_not,gt_iff_lt,ge_iff_le,Nat.not_lt,Int.not_lt,Int.not_le] at hc47
        refine Ev.skip ?_
        refine Ev.seq ?_
        refine Ev.block ?_
        refine Ev.seq ?_
        refine Ev.reg [] [1,10,11,14,15,44,45,46] (st' := ⟨[(1,(LI ws)),(10,(.ptr 0 0 0 0)),(11,(.ptr 1 0 0 0)),(14,(i6 ((i : Nat) : Int))),(15,(i6 (xs.getD i 0))),(44,(LI xs)),(45,(i6 ((xs.length : Nat) : Int))),(46,(i6 ((i : Nat) : Int)))],[(.var 61 [(LI ws),(LI xs),(i6 (nums.getD 0 0)),(i6 (nums.getD 1 0))]),(.var 57 [(i6 2),(.fn (.func 56) [] []),(.fn (.func 57) [] [])])]⟩)
          (p := True∧(0 ≤ ((i : Nat) : Int)∧((i : Nat) : Int) < (xs.length : Int))∧True∧True∧True∧True) (by kernel_rfl)
          ⟨⟨⟩,(by first | omega | (simp; first | done | omega)),⟨⟩,⟨⟩,⟨⟩,⟨⟩⟩ ?_
        refine Ev.seq ?_
        rcases Int.lt_or_le (xs.getD i 0) 0 with hn | hn
        · skip
          refine Ev.reg [(1,.val (dB true))] [1,10,11,44,45,46,61] (st' := ⟨[(1,(LI ws)),(10,(.ptr 0 0 0 0)),(11,(.ptr 1 0 0 0)),(44,(LI xs)),(45,(i6 ((xs.length : Nat) : Int))),(46,(i6 ((i : Nat) : Int))),(61,(dB true))],[(.var 61 [(LI ws),(LI xs),(i6 (nums.getD 0 0)),(i6 (nums.getD 1 0))]),(.var 57 [(i6 2),(.fn (.func 56) [] []),(.fn (.func 57) [] [])])]⟩)
            (p := True∧(True∧(decide ((xs.getD i 0) < 0)) = true)∧True∧True∧True∧True∧True∧True∧True∧True∧True∧True) (by kernel_rfl)
            ⟨⟨⟩,⟨⟨⟩,(by simpa using hn)⟩,⟨⟩,⟨⟩,⟨⟩,⟨⟩,⟨⟩,⟨⟩,⟨⟩,⟨⟩,⟨⟩,⟨⟩⟩ ?_
          refine Ev.cond true rfl (fun _ => ?_) (fun h => (by cases h))
          refine Ev.seq ?_
          refine Ev.reg [] [8,9] (st' := ⟨[(8,(i6 0)),(9,(i6 1))],[(.var 61 [(LI ws),(LI xs),(i6 (nums.getD 0 0)),(i6 (nums.getD 1 0))]),(.var 57 [(i6 2),(.fn (.func 56) [] []),(.fn (.func 57) [] [])])]⟩)
            (p := True∧True∧True) (by kernel_rfl)
            ⟨⟨⟩,⟨⟩,⟨⟩⟩ ?_
          refine Ev.ret ?_
          refine ⟨⟨⟨⟩,⟨⟩,⟨⟩⟩,(?_ : (0 : Int) = (applyV 11 ws xs nums)∧(1 : Int) = (applyE 11 ws xs nums)∧True),.inr ⟨⟨⟩,⟨⟩,⟨⟩⟩⟩
          exact ⟨(ap_no (ap_in (i := i) (by omega) (.inl hn))).1.symm,(ap_no (ap_in (i := i) (by omega) (.inl hn))).2.symm,⟨⟩⟩
        · skip
          refine Ev.reg [(1,.val (dB false)),(8,.call none false (i6 (maskF (ws.getD i 0))))] [1,10,11,44,45,46,61] (st' := ⟨[(1,(LI ws)),(10,(.ptr 0 0 0 0)),(11,(.ptr 1 0 0 0)),(44,(LI xs)),(45,(i6 ((xs.length : Nat) : Int))),(46,(i6 ((i : Nat) : Int))),(61,(dB (decide ((xs.getD i 0) > (maskF (ws.getD i 0))))))],[(.var 61 [(LI ws),(LI xs),(i6 (nums.getD 0 0)),(i6 (nums.getD 1 0))]),(.var 57 [(i6 2),(.fn (.func 56) [] []),(.fn (.func 57) [] [])])]⟩)
            (p := True∧(True∧(decide ((xs.getD i 0) < 0)) = false)∧True∧True∧True∧True∧(0 ≤ ((i : Nat) : Int)∧((i : Nat) : Int) < (ws.length : Int))∧True∧callOb Try.prog 14 [(.var 61 [(LI ws),(LI xs),(i6 (nums.getD 0 0)),(i6 (nums.getD 1 0))]),(.var 57 [(i6 2),(.fn (.func 56) [] []),(.fn (.func 57) [] [])])] [(i6 (ws.getD i 0))] none false (i6 (maskF (ws.getD i 0)))∧True∧True∧True) (by kernel_rfl)
            ⟨⟨⟩,⟨⟨⟩,(by simpa using hn)⟩,⟨⟩,⟨⟩,⟨⟩,⟨⟩,(by first | omega | (simp; first | done | omega)),⟨⟩,(mask_ok _),⟨⟩,⟨⟩,⟨⟩⟩ ?_
          refine Ev.cond _ rfl (fun hc61 => ?_) (fun hc61 => ?_)
          · try simp only [decide_eq_true_eq,decide_eq_false_iff_not,beq_iff_eq,bne_iff_ne,ne_eq,beq_eq_false_iff_ne,bne_eq_false_iff_eq,Bool.not_eq_true,Bool.not_eq_false,Bool.not_eq_true',Bool.not_eq_false',Bool.not_not,gt_iff_lt,ge_iff_le,Nat.not_lt,Int.not_lt,Int.not_le] at hc61
            refine Ev.seq ?_
            refine Ev.reg [] [8,9] (st' := ⟨[(8,(i6 0)),(9,(i6 1))],[(.var 61 [(LI ws),(LI xs),(i6 (nums.getD 0 0)),(i6 (nums.getD 1 0))]),(.var 57 [(i6 2),(.fn (.func 56) [] []),(.fn (.func 57) [] [])])]⟩)
              (p := True∧True∧True) (by kernel_rfl)
              ⟨⟨⟩,⟨⟩,⟨⟩⟩ ?_
            refine Ev.ret ?_
            refine ⟨⟨⟨⟩,⟨⟩,⟨⟩⟩,(?_ : (0 : Int) = (applyV 11 ws xs nums)∧(1 : Int) = (applyE 11 ws xs nums)∧True),.inr ⟨⟨⟩,⟨⟩,⟨⟩⟩⟩
            exact ⟨(ap_no (ap_in (i := i) (by omega) (.inr (by omega)))).1.symm,(ap_no (ap_in (i := i) (by omega) (.inr (by omega)))).2.symm,⟨⟩⟩
          · try simp only [decide_eq_true_eq,decide_eq_false_iff_not,beq_iff_eq,bne_iff_ne,ne_eq,beq_eq_false_iff_ne,bne_eq_false_iff_eq,Bool.not_eq_true,Bool.not_eq_false,Bool.not_eq_true',Bool.not_eq_false',Bool.not_not,gt_iff_lt,ge_iff_le,Nat.not_lt,Int.not_lt,Int.not_le] at hc61
            refine Ev.skip ?_
            refine Ev.reg [(0,.val (i6 ((i + 1 : Nat) : Int)))] [1,10,11,44,45,46] (st' := ⟨[(1,(LI ws)),(10,(.ptr 0 0 0 0)),(11,(.ptr 1 0 0 0)),(44,(LI xs)),(45,(i6 ((xs.length : Nat) : Int))),(46,(i6 ((i + 1 : Nat) : Int)))],[(.var 61 [(LI ws),(LI xs),(i6 (nums.getD 0 0)),(i6 (nums.getD 1 0))]),(.var 57 [(i6 2),(.fn (.func 56) [] []),(.fn (.func 57) [] [])])]⟩)
              (p := (True∧(IntKind.wrap .i64 (((i : Nat) : Int) + 1)) = ((i + 1 : Nat) : Int))∧True∧True) (by kernel_rfl)
              ⟨⟨⟨⟩,(w64n (by first | rfl | simp | omega) (by first | omega | (simp; first | done | omega)))⟩,⟨⟩,⟨⟩⟩ ?_
            refine ⟨i + 1,by kernel_rfl,(?_ : (i + 1) ≤ xs.length∧∀ j,j < (i + 1) → 0 ≤ xs.getD j 0∧xs.getD j 0 ≤ maskF (ws.getD j 0)),(?_ : xs.length - (i + 1) < xs.length - i)⟩
            · exact ⟨by omega,lt_more hall ⟨by omega,by omega⟩⟩
            · omega
      · try simp only [decide_eq_true_eq,decide_eq_false_iff_not,beq_iff_eq,bne_iff_ne,ne_eq,beq_eq_false_iff_ne,bne_eq_false_iff_eq,Bool.not_eq_true,Bool.not_eq_false,Bool.not_eq_true',Bool.not_eq_false',Bool.not_not,gt_iff_lt,ge_iff_le,Nat.not_lt,Int.not_lt,Int.not_le] at hc47
        refine Ev.exit ?_
        refine Ev.seq ?_
        have hin : inF ws xs = true := in_all (fun j hj => hall j (by omega))
        obtain ⟨hl0,hf,-⟩ := ok_yes h
        have hA : arityF 11 = 2 := by decide
        rw [hA] at hl0
        refine Ev.reg [(3,.call none false (i6 (avF 11 ws xs (nums.getD 0 0) (nums.getD 1 0))))] [8,9] (st' := ⟨[(8,(i6 (avF 11 ws xs (nums.getD 0 0) (nums.getD 1 0)))),(9,(i6 0))],[(.var 61 [(LI ws),(LI xs),(i6 (nums.getD 0 0)),(i6 (nums.getD 1 0))]),(.var 57 [(i6 2),(.fn (.func 56) [] []),(.fn (.func 57) [] [])])]⟩)
          (p := True∧True∧True∧callOb Try.prog 57 [(.var 61 [(LI ws),(LI xs),(i6 (nums.getD 0 0)),(i6 (nums.getD 1 0))]),(.var 57 [(i6 2),(.fn (.func 56) [] []),(.fn (.func 57) [] [])])] [(.agg [(LI ws),(LI xs),(i6 (nums.getD 0 0)),(i6 (nums.getD 1 0))])] none false (i6 (avF 11 ws xs (nums.getD 0 0) (nums.getD 1 0)))∧True∧True∧True) (by kernel_rfl)
          ⟨⟨⟩,⟨⟩,⟨⟩,(cat_ok _ _ _ _ (by omega) (by assumption) (by omega) (by assumption)),⟨⟩,⟨⟩,⟨⟩⟩ ?_
        refine Ev.ret ?_
        refine ⟨⟨⟨⟩,⟨⟩,⟨⟩⟩,(?_ : (avF 11 ws xs (nums.getD 0 0) (nums.getD 1 0)) = (applyV 11 ws xs nums)∧(0 : Int) = (applyE 11 ws xs nums)∧True),.inr ⟨⟨⟩,⟨⟩,⟨⟩⟩⟩
        exact ⟨(ap_yes hx.1 hx.2 h hin).1.symm,(ap_yes hx.1 hx.2 h hin).2.symm,⟨⟩⟩

set_option maxRecDepth 100000 in
theorem Apply_12 (ws xs nums : List Int) (hwl : ws.length ≤ 9223372036854775807) (hxl : xs.length ≤ 9223372036854775807) : CallOk Try.prog 12 [(i6 12),(LI ws),(LI xs),(LI nums)] [] false (.tup [(i6 (applyV 12 ws xs nums)),(i6 (applyE 12 ws xs nums))]) [] := by
  refine CallOk.of_ev Try.func12 rfl rfl rfl ?_
  rintro ⟨_,W,S0,_,susp,_⟩ rfl rfl rfl
  refine Ev.seq ?_
  refine Ev.reg [] [0,1,2,3] (st' := ⟨[(0,(i6 12)),(1,(LI ws)),(2,(LI xs)),(3,(LI nums))],[]⟩)
    (p := True∧True∧True) (by kernel_rfl)
    ⟨⟨⟩,⟨⟩,⟨⟩⟩ ?_
  refine Ev.seq ?_
  refine Ev.seq ?_
  rcases (show nums.length ≠ 2 ∨ (nums.length = 2∧xs.length ≠ ws.length) ∨ (nums.length = 2∧xs.length = ws.length) from by omega) with hx | hx | hx
  · skip
    refine Ev.reg [(2,.val (dB true))] [0,1,2,3,25] (st' := ⟨[(0,(i6 12)),(1,(LI ws)),(2,(LI xs)),(3,(LI nums)),(25,(dB true))],[]⟩)
      (p := True∧True∧(True∧(((nums.length : Nat) : Int) != 2) = true)∧True∧True∧True∧True∧True∧True∧True∧True) (by kernel_rfl)
      ⟨⟨⟩,⟨⟩,⟨⟨⟩,(by exact bne_iff_ne.2 (by omega))⟩,⟨⟩,⟨⟩,⟨⟩,⟨⟩,⟨⟩,⟨⟩,⟨⟩,⟨⟩⟩ ?_
    refine Ev.cond true rfl (fun _ => ?_) (fun h => (by cases h))
    refine Ev.seq ?_
    refine Ev.reg [] [8,9] (st' := ⟨[(8,(i6 0)),(9,(i6 1))],[]⟩)
      (p := True∧True∧True) (by kernel_rfl)
      ⟨⟨⟩,⟨⟩,⟨⟩⟩ ?_
    refine Ev.ret ?_
    refine ⟨⟨⟨⟩,⟨⟩,⟨⟩⟩,(?_ : (0 : Int) = (applyV 12 ws xs nums)∧(1 : Int) = (applyE 12 ws xs nums)∧True),.inr ⟨⟨⟩,⟨⟩,⟨⟩⟩⟩
    exact ⟨(ap_no (ap_n hx)).1.symm,(ap_no (ap_n hx)).2.symm,⟨⟩⟩
  · skip
    refine Ev.reg [(2,.val (dB false)),(8,.val (dB true))] [0,1,2,3,25] (st' := ⟨[(0,(i6 12)),(1,(LI ws)),(2,(LI xs)),(3,(LI nums)),(25,(dB true))],[]⟩)
      (p := True∧True∧(True∧(((nums.length : Nat) : Int) != 2) = false)∧True∧True∧True∧True∧True∧(True∧(((xs.length : Nat) : Int) != ((ws.length : Nat) : Int)) = true)∧True∧True) (by kernel_rfl)
      ⟨⟨⟩,⟨⟩,⟨⟨⟩,(by rw [hx.1]; rfl)⟩,⟨⟩,⟨⟩,⟨⟩,⟨⟩,⟨⟩,⟨⟨⟩,(by exact bne_iff_ne.2 (by omega))⟩,⟨⟩,⟨⟩⟩ ?_
    refine Ev.cond true rfl (fun _ => ?_) (fun h => (by cases h))
    refine Ev.seq ?_
    refine Ev.reg [] [8,9] (st' := ⟨[(8,(i6 0)),(9,(i6 1))],[]⟩)
      (p := True∧True∧True) (by kernel_rfl)
      ⟨⟨⟩,⟨⟩,⟨⟩⟩ ?_
    refine Ev.ret ?_
    refine ⟨⟨⟨⟩,⟨⟩,⟨⟩⟩,(?_ : (0 : Int) = (applyV 12 ws xs nums)∧(1 : Int) = (applyE 12 ws xs nums)∧True),.inr ⟨⟨⟩,⟨⟩,⟨⟩⟩⟩
    exact ⟨(ap_no (ap_l hx.2)).1.symm,(ap_no (ap_l hx.2)).2.symm,⟨⟩⟩
  · skip
    refine Ev.reg [(2,.val (dB false)),(8,.val (dB false))] [0,1,2,3,25] (st' := ⟨[(0,(i6 12)),(1,(LI ws)),(2,(LI xs)),(3,(LI nums)),(25,(dB false))],[]⟩)
      (p := True∧True∧(True∧(((nums.length : Nat) : Int) != 2) = false)∧True∧True∧True∧True∧True∧(True∧(((xs.length : Nat) : Int) != ((ws.length : Nat) : Int)) = false)∧True∧True) (by kernel_rfl)
      ⟨⟨⟩,⟨⟩,⟨⟨⟩,(by rw [hx.1]; rfl)⟩,⟨⟩,⟨⟩,⟨⟩,⟨⟩,⟨⟩,⟨⟨⟩,(by rw [hx.2]; simp)⟩,⟨⟩,⟨⟩⟩ ?_
    refine Ev.cond false rfl (fun h => (by cases h)) (fun _ => ?_)
    refine Ev.skip ?_
    refine Ev.seq ?_
    refine Ev.draw 10 [false,false,false,false,false,false,false,false,false,false] [] [0,1,2,10] (st' := ⟨[(0,(i6 12)),(1,(LI ws)),(2,(LI xs)),(10,(.ptr 0 0 0 0))],[(.var 61 [(LI ws),(LI xs),(i6 (nums.getD 0 0)),(i6 (nums.getD 1 0))])]⟩)
      (p := (True∧True∧True∧(0 ≤ (0 : Int)∧0 < (nums.length : Int))∧True∧True∧(0 ≤ (1 : Int)∧1 < (nums.length : Int))∧True∧True∧True∧True)∧(True∧True)) (by kernel_rfl) (by kernel_rfl)
      ⟨⟨⟨⟩,⟨⟩,⟨⟩,(by first | omega | (simp; first | done | omega)),⟨⟩,⟨⟩,(by first | omega | (simp; first | done | omega)),⟨⟩,⟨⟩,⟨⟩,⟨⟩⟩,⟨⟨⟩,⟨⟩⟩⟩ ?_
    refine Ev.seq ?_
    rcases ok3 12 ws (nums.getD 0 0) (nums.getD 1 0) with ⟨hb,h⟩ | ⟨hb,hv,h⟩ | h
    · skip
      refine Ev.reg [(2,.call none true (.tup [(.agg [(i6 0),(.v .nilf),(.v .nilf)]),(i6 0),(dB false)]))] [1,2,10,11,13] (st' := ⟨[(1,(LI ws)),(2,(LI xs)),(10,(.ptr 0 0 0 0)),(11,(.ptr 1 0 0 0)),(13,(dB false))],[(.var 61 [(LI ws),(LI xs),(i6 (nums.getD 0 0)),(i6 (nums.getD 1 0))]),(.var 57 [(i6 0),(.v .nilf),(.v .nilf)])]⟩)
        (p := True∧True∧callOb Try.prog 27 [(.var 61 [(LI ws),(LI xs),(i6 (nums.getD 0 0)),(i6 (nums.getD 1 0))])] [(i6 12),(.agg [(LI ws),(LI xs),(i6 (nums.getD 0 0)),(i6 (nums.getD 1 0))])] none true (.tup [(.agg [(i6 0),(.v .nilf),(.v .nilf)]),(i6 0),(dB false)])∧True∧True∧True∧True∧True∧True∧True∧True∧True) (by kernel_rfl)
        ⟨⟨⟩,⟨⟩,(width_bad_12 _ _ _ _ hwl hb),⟨⟩,⟨⟩,⟨⟩,⟨⟩,⟨⟩,⟨⟩,⟨⟩,⟨⟩,⟨⟩⟩ ?_
      refine Ev.seq ?_
      refine Ev.seq ?_
      refine Ev.reg [] [1,2,10,11,43] (st' := ⟨[(1,(LI ws)),(2,(LI xs)),(10,(.ptr 0 0 0 0)),(11,(.ptr 1 0 0 0)),(43,(dB true))],[(.var 61 [(LI ws),(LI xs),(i6 (nums.getD 0 0)),(i6 (nums.getD 1 0))]),(.var 57 [(i6 0),(.v .nilf),(.v .nilf)])]⟩)
        (p := True∧True∧True) (by kernel_rfl)
        ⟨⟨⟩,⟨⟩,⟨⟩⟩ ?_
      refine Ev.cond true rfl (fun _ => ?_) (fun h => (by cases h))
      refine Ev.seq ?_
      refine Ev.reg [] [8,9] (st' := ⟨[(8,(i6 0)),(9,(i6 1))],[(.var 61 [(LI ws),(LI xs),(i6 (nums.getD 0 0)),(i6 (nums.getD 1 0))]),(.var 57 [(i6 0),(.v .nilf),(.v .nilf)])]⟩)
        (p := True∧True∧True) (by kernel_rfl)
        ⟨⟨⟩,⟨⟩,⟨⟩⟩ ?_
      refine Ev.ret ?_
      refine ⟨⟨⟨⟩,⟨⟩,⟨⟩⟩,(?_ : (0 : Int) = (applyV 12 ws xs nums)∧(1 : Int) = (applyE 12 ws xs nums)∧True),.inr ⟨⟨⟩,⟨⟩,⟨⟩⟩⟩
      exact ⟨(ap_no (ap_bad h)).1.symm,(ap_no (ap_bad h)).2.symm,⟨⟩⟩
    · skip
      refine Ev.reg [(2,.call none true (.tup [(.agg [(i6 1),(.fn (.func 58) [] []),(.fn (.func 59) [] [])]),(i6 (wvF 12 ws (nums.getD 0 0) (nums.getD 1 0))),(dB false)]))] [1,2,10,11,13] (st' := ⟨[(1,(LI ws)),(2,(LI xs)),(10,(.ptr 0 0 0 0)),(11,(.ptr 1 0 0 0)),(13,(dB false))],[(.var 61 [(LI ws),(LI xs),(i6 (nums.getD 0 0)),(i6 (nums.getD 1 0))]),(.var 57 [(i6 1),(.fn (.func 58) [] []),(.fn (.func 59) [] [])])]⟩)
        (p := True∧True∧callOb Try.prog 27 [(.var 61 [(LI ws),(LI xs),(i6 (nums.getD 0 0)),(i6 (nums.getD 1 0))])] [(i6 12),(.agg [(LI ws),(LI xs),(i6 (nums.getD 0 0)),(i6 (nums.getD 1 0))])] none true (.tup [(.agg [(i6 1),(.fn (.func 58) [] []),(.fn (.func 59) [] [])]),(i6 (wvF 12 ws (nums.getD 0 0) (nums.getD 1 0))),(dB false)])∧True∧True∧True∧True∧True∧True∧True∧True∧True) (by kernel_rfl)
        ⟨⟨⟩,⟨⟩,(width_wv_12 _ _ _ _ hwl hb hv),⟨⟩,⟨⟩,⟨⟩,⟨⟩,⟨⟩,⟨⟩,⟨⟩,⟨⟩,⟨⟩⟩ ?_
      refine Ev.seq ?_
      refine Ev.seq ?_
      refine Ev.reg [] [1,2,10,11,43] (st' := ⟨[(1,(LI ws)),(2,(LI xs)),(10,(.ptr 0 0 0 0)),(11,(.ptr 1 0 0 0)),(43,(dB true))],[(.var 61 [(LI ws),(LI xs),(i6 (nums.getD 0 0)),(i6 (nums.getD 1 0))]),(.var 57 [(i6 1),(.fn (.func 58) [] []),(.fn (.func 59) [] [])])]⟩)
        (p := True∧True∧True) (by kernel_rfl)
        ⟨⟨⟩,⟨⟩,⟨⟩⟩ ?_
      refine Ev.cond true rfl (fun _ => ?_) (fun h => (by cases h))
      refine Ev.seq ?_
      refine Ev.reg [] [8,9] (st' := ⟨[(8,(i6 0)),(9,(i6 1))],[(.var 61 [(LI ws),(LI xs),(i6 (nums.getD 0 0)),(i6 (nums.getD 1 0))]),(.var 57 [(i6 1),(.fn (.func 58) [] []),(.fn (.func 59) [] [])])]⟩)
        (p := True∧True∧True) (by kernel_rfl)
        ⟨⟨⟩,⟨⟩,⟨⟩⟩ ?_
      refine Ev.ret ?_
      refine ⟨⟨⟨⟩,⟨⟩,⟨⟩⟩,(?_ : (0 : Int) = (applyV 12 ws xs nums)∧(1 : Int) = (applyE 12 ws xs nums)∧True),.inr ⟨⟨⟩,⟨⟩,⟨⟩⟩⟩
      exact ⟨(ap_no (ap_bad h)).1.symm,(ap_no (ap_bad h)).2.symm,⟨⟩⟩
    · skip
      refine Ev.reg [(2,.call none true (.tup [(.agg [(i6 1),(.fn (.func 58) [] []),(.fn (.func 59) [] [])]),(i6 (wvF 12 ws (nums.getD 0 0) (nums.getD 1 0))),(dB true)]))] [1,2,10,11,13] (st' := ⟨[(1,(LI ws)),(2,(LI xs)),(10,(.ptr 0 0 0 0)),(11,(.ptr 1 0 0 0)),(13,(dB true))],[(.var 61 [(LI ws),(LI xs),(i6 (nums.getD 0 0)),(i6 (nums.getD 1 0))]),(.var 57 [(i6 1),(.fn (.func 58) [] []),(.fn (.func 59) [] [])])]⟩)
        (p := True∧True∧callOb Try.prog 27 [(.var 61 [(LI ws),(LI xs),(i6 (nums.getD 0 0)),(i6 (nums.getD 1 0))])] [(i6 12),(.agg [(LI ws),(LI xs),(i6 (nums.getD 0 0)),(i6 (nums.getD 1 0))])] none true (.tup [(.agg [(i6 1),(.fn (.func 58) [] []),(.fn (.func 59) [] [])]),(i6 (wvF 12 ws (nums.getD 0 0) (nums.getD 1 0))),(dB true)])∧True∧True∧True∧True∧True∧True∧True∧True∧True) (by kernel_rfl)
        ⟨⟨⟩,⟨⟩,(width_good_12 _ _ _ _ hwl h),⟨⟩,⟨⟩,⟨⟩,⟨⟩,⟨⟩,⟨⟩,⟨⟩,⟨⟩,⟨⟩⟩ ?_
      refine Ev.seq ?_
      refine Ev.seq ?_
      refine Ev.reg [] [1,2,10,11,43] (st' := ⟨[(1,(LI ws)),(2,(LI xs)),(10,(.ptr 0 0 0 0)),(11,(.ptr 1 0 0 0)),(43,(dB false))],[(.var 61 [(LI ws),(LI xs),(i6 (nums.getD 0 0)),(i6 (nums.getD 1 0))]),(.var 57 [(i6 1),(.fn (.func 58) [] []),(.fn (.func 59) [] [])])]⟩)
        (p := True∧True∧True) (by kernel_rfl)
        ⟨⟨⟩,⟨⟩,⟨⟩⟩ ?_
      refine Ev.cond false rfl (fun h => (by cases h)) (fun _ => ?_)
      refine Ev.skip ?_
      refine Ev.seq ?_
      refine Ev.seq ?_
      refine Ev.reg [] [1,10,11,44,45,46] (st' := ⟨[(1,(LI ws)),(10,(.ptr 0 0 0 0)),(11,(.ptr 1 0 0 0)),(44,(LI xs)),(45,(i6 ((xs.length : Nat) : Int))),(46,(i6 0))],[(.var 61 [(LI ws),(LI xs),(i6 (nums.getD 0 0)),(i6 (nums.getD 1 0))]),(.var 57 [(i6 1),(.fn (.func 58) [] []),(.fn (.func 59) [] [])])]⟩)
        (p := True∧True∧True∧True) (by kernel_rfl)
        ⟨⟨⟩,⟨⟩,⟨⟩,⟨⟩⟩ ?_
      refine Ev.block ?_
      refine Ev.loop [1,10,11,44,45,46] 2 (fun (i : Nat) => ⟨[(1,(LI ws)),(10,(.ptr 0 0 0 0)),(11,(.ptr 1 0 0 0)),(44,(LI xs)),(45,(i6 ((xs.length : Nat) : Int))),(46,(i6 ((i : Nat) : Int)))],[(.var 61 [(LI ws),(LI xs),(i6 (nums.getD 0 0)),(i6 (nums.getD 1 0))]),(.var 57 [(i6 1),(.fn (.func 58) [] []),(.fn (.func 59) [] [])])]⟩) (fun (i : Nat) => i ≤ xs.length∧∀ j,j < i → 0 ≤ xs.getD j 0∧xs.getD j 0 ≤ maskF (ws.getD j 0)) (fun (i : Nat) => xs.length - i) 0 (by kernel_rfl) (⟨by omega,fun j hj => by omega⟩) ?_
      rintro i hinv
      have hinv : i ≤ xs.length∧∀ j,j < i → 0 ≤ xs.getD j 0∧xs.getD j 0 ≤ maskF (ws.getD j 0) := hinv
      obtain ⟨hi,hall⟩ := hinv
      refine Ev.seq ?_
      refine Ev.reg [] [1,10,11,44,45,46,47] (st' := ⟨[(1,(LI ws)),(10,(.ptr 0 0 0 0)),(11,(.ptr 1 0 0 0)),(44,(LI xs)),(45,(i6 ((xs.length : Nat) : Int))),(46,(i6 ((i : Nat) : Int))),(47,(dB (decide (((i : Nat) : Int) < ((xs.length : Nat) : Int)))))],[(.var 61 [(LI ws),(LI xs),(i6 (nums.getD 0 0)),(i6 (nums.getD 1 0))]),(.var 57 [(i6 1),(.fn (.func 58) [] []),(.fn (.func 59) [] [])])]⟩)
        (p := True∧True) (by kernel_rfl)
        ⟨⟨⟩,⟨⟩⟩ ?_
      refine Ev.seq ?_
      refine Ev.cond _ rfl (fun hc47 => ?_) (fun hc47 => ?_)
      · try simp only [decide_eq_true_eq,decide_eq_false_iff_not,beq_iff_eq,bne_iff_ne,ne_eq,beq_eq_false_iff_ne,bne_eq_false_iff_eq,Bool.not_eq_true,Bool.not_eq_false,Bool.not_eq_true',Bool.not_eq_false',Bool.not_not,gt_iff_lt,ge_iff_le,Nat.not_lt,Int.not_lt,Int.not_le] at hc47
        refine Ev.skip ?_
        refine Ev.seq ?_
        refine Ev.block ?_
        refine Ev.seq ?_
        refine Ev.reg [] [1,10,11,14,15,44,45,46] (st' := ⟨[(1,(LI ws)),(10,(.ptr 0 0 0 0)),(11,(.ptr 1 0 0 0)),(14,(i6 ((i : Nat) : Int))),(15,(i6 (xs.getD i 0))),(44,(LI xs)),(45,(i6 ((xs.length : Nat) : Int))),(46,(i6 ((i : Nat) : Int)))],[(.var 61 [(LI ws),(LI xs),(i6 (nums.getD 0 0)),(i6 (nums.getD 1 0))]),(.var 57 [(i6 1),(.fn (.func 58) [] []),(.fn (.func 59) [] [])])]⟩)
          (p := True∧(0 ≤ ((i : Nat) : Int)∧((i : Nat) : Int) < (xs.length : Int))∧True∧True∧True∧True) (by kernel_rfl)
          ⟨⟨⟩,(by first | omega | (simp; first | done | omega)),⟨⟩,⟨⟩,⟨⟩,⟨⟩⟩ ?_
        refine Ev.seq ?_
        rcases Int.lt_or_le (xs.getD i 0) 0 with hn | hn
        · skip
          refine Ev.reg [(1,.val (dB true))] [1,10,11,44,45,46,61] (st' := ⟨[(1,(LI ws)),(10,(.ptr 0 0 0 0)),(11,(.ptr 1 0 0 0)),(44,(LI xs)),(45,(i6 ((xs.length : Nat) : Int))),(46,(i6 ((i : Nat) : Int))),(61,(dB true))],[(.var 61 [(LI ws),(LI xs),(i6 (nums.getD 0 0)),(i6 (nums.getD 1 0))]),(.var 57 [(i6 1),(.fn (.func 58) [] []),(.fn (.func 59) [] [])])]⟩)
            (p := True∧(True∧(decide ((xs.getD i 0) < 0)) = true)∧True∧True∧True∧True∧True∧True∧True∧True∧True∧True) (by kernel_rfl)
            ⟨⟨⟩,⟨⟨⟩,(by simpa using hn)⟩,⟨⟩,⟨⟩,⟨⟩,⟨⟩,⟨⟩,⟨⟩,⟨⟩,⟨⟩,⟨⟩,⟨⟩⟩ ?_
          refine Ev.cond true rfl (fun _ => ?_) (fun h => (by cases h))
          refine Ev.seq ?_
          refine Ev.reg [] [8,9] (st' := ⟨[(8,(i6 0)),(9,(i6 1))],[(.var 61 [(LI ws),(LI xs),(i6 (nums.getD 0 0)),(i6 (nums.getD 1 0))]),(.var 57 [(i6 1),(.fn (.func 58) [] []),(.fn (.func 59) [] [])])]⟩)
            (p := True∧True∧True) (by kernel_rfl)
            ⟨⟨⟩,⟨⟩,⟨⟩⟩ ?_
          refine Ev.ret ?_
          refine ⟨⟨⟨⟩,⟨⟩,⟨⟩⟩,(?_ : (0 : Int) = (applyV 12 ws xs nums)∧(1 : Int) = (applyE 12 ws xs nums)∧True),.inr ⟨⟨⟩,⟨⟩,⟨⟩⟩⟩
          exact ⟨(ap_no (ap_in (i := i) (by omega) (.inl hn))).1.symm,(ap_no (ap_in (i := i) (by omega) (.inl hn))).2.symm,⟨⟩⟩
        · skip
          refine Ev.reg [(1,.val (dB false)),(8,.call none false (i6 (maskF (ws.getD i 0))))] [1,10,11,44,45,46,61] (st' := ⟨[(1,(LI ws)),(10,(.ptr 0 0 0 0)),(11,(.ptr 1 0 0 0)),(44,(LI xs)),(45,(i6 ((xs.length : Nat) : Int))),(46,(i6 ((i : Nat) : Int))),(61,(dB (decide ((xs.getD i 0) > (maskF (ws.getD i 0))))))],[(.var 61 [(LI ws),(LI xs),(i6 (nums.getD 0 0)),(i6 (nums.getD 1 0))]),(.var 57 [(i6 1),(.fn (.func 58) [] []),(.fn (.func 59) [] [])])]⟩)
            (p := True∧(True∧(decide ((xs.getD i 0) < 0)) = false)∧True∧True∧True∧True∧(0 ≤ ((i : Nat) : Int)∧((i : Nat) : Int) < (ws.length : Int))∧True∧callOb Try.prog 14 [(.var 61 [(LI ws),(LI xs),(i6 (nums.getD 0 0)),(i6 (nums.getD 1 0))]),(.var 57 [(i6 1),(.fn (.func 58) [] []),(.fn (.func 59) [] [])])] [(i6 (ws.getD i 0))] none false (i6 (maskF (ws.getD i 0)))∧True∧True∧True) (by kernel_rfl)
            ⟨⟨⟩,⟨⟨⟩,(by simpa using hn)⟩,⟨⟩,⟨⟩,⟨⟩,⟨⟩,(by first | omega | (simp; first | done | omega)),⟨⟩,(mask_ok _),⟨⟩,⟨⟩,⟨⟩⟩ ?_
          refine Ev.cond _ rfl (fun hc61 => ?_) (fun hc61 => ?_)
          · try simp only [decide_eq_true_eq,decide_eq_false_iff_not,beq_iff_eq,bne_iff_ne,ne_eq,beq_eq_false_iff_ne,bne_eq_false_iff_eq,Bool.not_eq_true,Bool.not_eq_false,Bool.not_eq_true',Bool.not_eq_false',Bool.not_not,gt_iff_lt,ge_iff_le,Nat.not_lt,Int.not_lt,Int.not_le] at hc61
            refine Ev.seq ?_
            refine Ev.reg [] [8,9] (st' := ⟨[(8,(i6 0)),(9,(i6 1))],[(.var 61 [(LI ws),(LI xs),(i6 (nums.getD 0 0)),(i6 (nums.getD 1 0))]),(.var 57 [(i6 1),(.fn (.func 58) [] []),(.fn (.func 59) [] [])])]⟩)
              (p := True∧True∧True) (by kernel_rfl)
              ⟨⟨⟩,⟨⟩,⟨⟩⟩ ?_
            refine Ev.ret ?_
            refine ⟨⟨⟨⟩,⟨⟩,⟨⟩⟩,(?_ : (0 : Int) = (applyV 12 ws xs nums)∧(1 : Int) = (applyE 12 ws xs nums)∧True),.inr ⟨⟨⟩,⟨⟩,⟨⟩⟩⟩
            exact ⟨(ap_no (ap_in (i := i) (by omega) (.inr (by omega)))).1.symm,(ap_no (ap_in (i := i) (by omega) (.inr (by omega)))).2.symm,⟨⟩⟩
          · try simp only [decide_eq_true_eq,decide_eq_false_iff_not,beq_iff_eq,bne_iff_ne,ne_eq,beq_eq_false_iff_ne,bne_eq_false_iff_eq,Bool.not_eq_true,Bool.not_eq_false,Bool.not_eq_true',Bool.not_eq_false',Bool.not_not,gt_iff_lt,ge_iff_le,Nat.not_lt,Int.not_lt,Int.not_le] at hc61
            refine Ev.skip ?_
            refine Ev.reg [(0,.val (i6 ((i + 1 : Nat) : Int)))] [1,10,11,44,45,46] (st' := ⟨[(1,(LI ws)),(10,(.ptr 0 0 0 0)),(11,(.ptr 1 0 0 0)),(44,(LI xs)),(45,(i6 ((xs.length : Nat) : Int))),(46,(i6 ((i + 1 : Nat) : Int)))],[(.var 61 [(LI ws),(LI xs),(i6 (nums.getD 0 0)),(i6 (nums.getD 1 0))]),(.var 57 [(i6 1),(.fn (.func 58) [] []),(.fn (.func 59) [] [])])]⟩)
              (p := (True∧(IntKind.wrap .i64 (((i : Nat) : Int) + 1)) = ((i + 1 : Nat) : Int))∧True∧True) (by kernel_rfl)
              ⟨⟨⟨⟩,(w64n (by first | rfl | simp | omega) (by first | omega | (simp; first | done | omega)))⟩,⟨⟩,⟨⟩⟩ ?_
            refine ⟨i + 1,by kernel_rfl,(?_ : (i + 1) ≤ xs.length∧∀ j,j < (i + 1) → 0 ≤ xs.getD j 0∧xs.getD j 0 ≤ maskF (ws.getD j 0)),(?_ : xs.length - (i + 1) < xs.length - i)⟩
            · exact ⟨by omega,lt_more hall ⟨by omega,by omega⟩⟩
            · omega
      · try simp only [decide_eq_true_eq,decide_eq_false_iff_not,beq_iff_eq,bne_iff_ne,ne_eq,beq_eq_false_iff_ne,bne_eq_false_iff_eq,Bool.not_eq_true,Bool.not_eq_false,Bool.not_eq_true',Bool.not_eq_false',Bool.not_not,gt_iff_lt,ge_iff_le,Nat.not_lt,Int.not_lt,Int.not_le] at hc47
        refine Ev.exit ?_
        refine Ev.seq ?_
        have hin : inF ws xs = true := in_all (fun j hj => hall j (by omega))
        obtain ⟨hl0,hf,-⟩ := ok_yes h
        have hA : arityF 12 = 1 := by decide
        rw [hA] at hl0
        have hsk := slice_k h
        refine Ev.reg [(3,.call none false (i6 (avF 12 ws xs (nums.getD 0 0) (nums.getD 1 0))))] [8,9] (st' := ⟨[(8,(i6 (avF 12 ws xs (nums.getD 0 0) (nums.getD 1 0)))),(9,(i6 0))],[(.var 61 [(LI ws),(LI xs),(i6 (nums.getD 0 0)),(i6 (nums.getD 1 0))]),(.var 57 [(i6 1),(.fn (.func 58) [] []),(.fn (.func 59) [] [])])]⟩)
          (p := True∧True∧True∧callOb Try.prog 59 [(.var 61 [(LI ws),(LI xs),(i6 (nums.getD 0 0)),(i6 (nums.getD 1 0))]),(.var 57 [(i6 1),(.fn (.func 58) [] []),(.fn (.func 59) [] [])])] [(.agg [(LI ws),(LI xs),(i6 (nums.getD 0 0)),(i6 (nums.getD 1 0))])] none false (i6 (avF 12 ws xs (nums.getD 0 0) (nums.getD 1 0)))∧True∧True∧True) (by kernel_rfl)
          ⟨⟨⟩,⟨⟩,⟨⟩,(slice_ok _ _ _ _ (by omega) (by assumption) (by omega) (by assumption) (by assumption)),⟨⟩,⟨⟩,⟨⟩⟩ ?_
        refine Ev.ret ?_
        refine ⟨⟨⟨⟩,⟨⟩,⟨⟩⟩,(?_ : (avF 12 ws xs (nums.getD 0 0) (nums.getD 1 0)) = (applyV 12 ws xs nums)∧(0 : Int) = (applyE 12 ws xs nums)∧True),.inr ⟨⟨⟩,⟨⟩,⟨⟩⟩⟩
        exact ⟨(ap_yes hx.1 hx.2 h hin).1.symm,(ap_yes hx.1 hx.2 h hin).2.symm,⟨⟩⟩

set_option maxRecDepth 100000 in
theorem Apply_13 (ws xs nums : List Int) (hwl : ws.length ≤ 9223372036854775807) (hxl : xs.length ≤ 9223372036854775807) : CallOk Try.prog 12 [(i6 13),(LI ws),(LI xs),(LI nums)] [] false (.tup [(i6 (applyV 13 ws xs nums)),(i6 (applyE 13 ws xs nums))]) [] := by
  refine CallOk.of_ev Try.func12 rfl rfl rfl ?_
  rintro ⟨_,W,S0,_,susp,_⟩ rfl rfl rfl
  refine Ev.seq ?_
  refine Ev.reg [] [0,1,2,3] (st' := ⟨[(0,(i6 13)),(1,(LI ws)),(2,(LI xs)),(3,(LI nums))],[]⟩)
    (p := True∧True∧True) (by kernel_rfl)
    ⟨⟨⟩,⟨⟩,⟨⟩⟩ ?_
  refine Ev.seq ?_
  refine Ev.seq ?_
  rcases (show nums.length ≠ 2 ∨ (nums.length = 2∧xs.length ≠ ws.length) ∨ (nums.length = 2∧xs.length = ws.length) from by omega) with hx | hx | hx
  · skip
    refine Ev.reg [(2,.val (dB true))] [0,1,2,3,25] (st' := ⟨[(0,(i6 13)),(1,(LI ws)),(2,(LI xs)),(3,(LI nums)),(25,(dB true))],[]⟩)
      (p := True∧True∧(True∧(((nums.length : Nat) : Int) != 2) = true)∧True∧True∧True∧True∧True∧True∧True∧True) (by kernel_rfl)
      ⟨⟨⟩,⟨⟩,⟨⟨⟩,(by exact bne_iff_ne.2 (by omega))⟩,⟨⟩,⟨⟩,⟨⟩,⟨⟩,⟨⟩,⟨⟩,⟨⟩,⟨⟩⟩ ?_
    refine Ev.cond true rfl (fun _ => ?_) (fun h => (by cases h))
    refine Ev.seq ?_
    refine Ev.reg [] [8,9] (st' := ⟨[(8,(i6 0)),(9,(i6 1))],[]⟩)
      (p := True∧True∧True) (by kernel_rfl)
      ⟨⟨⟩,⟨⟩,⟨⟩⟩ ?_
    refine Ev.ret ?_
    refine ⟨⟨⟨⟩,⟨⟩,⟨⟩⟩,(?_ : (0 : Int) = (applyV 13 ws xs nums)∧(1 : Int) = (applyE 13 ws xs nums)∧True),.inr ⟨⟨⟩,⟨⟩,⟨⟩⟩⟩
    exact ⟨(ap_no (ap_n hx)).1.symm,(ap_no (ap_n hx)).2.symm,⟨⟩⟩
  · skip
    refine Ev.reg [(2,.val (dB false)),(8,.val (dB true))] [0,1,2,3,25] (st' := ⟨[(0,(i6 13)),(1,(LI ws)),(2,(LI xs)),(3,(LI nums)),(25,(dB true))],[]⟩)
      (p := True∧True∧(True∧(((nums.length : Nat) : Int) != 2) = false)∧True∧True∧True∧True∧True∧(True∧(((xs.length : Nat) : Int) != ((ws.length : Nat) : Int)) = true)∧True∧True) (by kernel_rfl)
      ⟨⟨⟩,⟨⟩,⟨⟨⟩,(by rw [hx.1]; rfl)⟩,⟨⟩,⟨⟩,⟨⟩,⟨⟩,⟨⟩,⟨⟨⟩,(by exact bne_iff_ne.2 (by omega))⟩,⟨⟩,⟨⟩⟩ ?_
    refine Ev.cond true rfl (fun _ => ?_) (fun h => (by cases h))
    refine Ev.seq ?_
    refine Ev.reg [] [8,9] (st' := ⟨[(8,(i6 0)),(9,(i6 1))],[]⟩)
      (p := True∧True∧True) (by kernel_rfl)
      ⟨⟨⟩,⟨⟩,⟨⟩⟩ ?_
    refine Ev.ret ?_
    refine ⟨⟨⟨⟩,⟨⟩,⟨⟩⟩,(?_ : (0 : Int) = (applyV 13 ws xs nums)∧(1 : Int) = (applyE 13 ws xs nums)∧True),.inr ⟨⟨⟩,⟨⟩,⟨⟩⟩⟩
    exact ⟨(ap_no (ap_l hx.2)).1.symm,(ap_no (ap_l hx.2)).2.symm,⟨⟩⟩
  · skip
    refine Ev.reg [(2,.val (dB false)),(8,.val (dB false))] [0,1,2,3,25] (st' := ⟨[(0,(i6 13)),(1,(LI ws)),(2,(LI xs)),(3,(LI nums)),(25,(dB false))],[]⟩)
      (p := True∧True∧(True∧(((nums.length : Nat) : Int) != 2) = false)∧True∧True∧True∧True∧True∧(True∧(((xs.length : Nat) : Int) != ((ws.length : Nat) : Int)) = false)∧True∧True) (by kernel_rfl)
      ⟨⟨⟩,⟨⟩,⟨⟨⟩,(by rw [hx.1]; rfl)⟩,⟨⟩,⟨⟩,⟨⟩,⟨⟩,⟨⟩,⟨⟨⟩,(by rw [hx.2]; simp)⟩,⟨⟩,⟨⟩⟩ ?_
    refine Ev.cond false rfl (fun h => (by cases h)) (fun _ => ?_)
    refine Ev.skip ?_
    refine Ev.seq ?_
    refine Ev.draw 10 [false,false,false,false,false,false,false,false,false,false] [] [0,1,2,10] (st' := ⟨[(0,(i6 13)),(1,(LI ws)),(2,(LI xs)),(10,(.ptr 0 0 0 0))],[(.var 61 [(LI ws),(LI xs),(i6 (nums.getD 0 0)),(i6 (nums.getD 1 0))])]⟩)
      (p := (True∧True∧True∧(0 ≤ (0 : Int)∧0 < (nums.length : Int))∧True∧True∧(0 ≤ (1 : Int)∧1 < (nums.length : Int))∧True∧True∧True∧True)∧(True∧True)) (by kernel_rfl) (by kernel_rfl)
      ⟨⟨⟨⟩,⟨⟩,⟨⟩,(by first | omega | (simp; first | done | omega)),⟨⟩,⟨⟩,(by first | omega | (simp; first | done | omega)),⟨⟩,⟨⟩,⟨⟩,⟨⟩⟩,⟨⟨⟩,⟨⟩⟩⟩ ?_
    refine Ev.seq ?_
    rcases ok3 13 ws (nums.getD 0 0) (nums.getD 1 0) with ⟨hb,h⟩ | ⟨hb,hv,h⟩ | h
    · skip
      refine Ev.reg [(2,.call none true (.tup [(.agg [(i6 0),(.v .nilf),(.v .nilf)]),(i6 0),(dB false)]))] [1,2,10,11,13] (st' := ⟨[(1,(LI ws)),(2,(LI xs)),(10,(.ptr 0 0 0 0)),(11,(.ptr 1 0 0 0)),(13,(dB false))],[(.var 61 [(LI ws),(LI xs),(i6 (nums.getD 0 0)),(i6 (nums.getD 1 0))]),(.var 57 [(i6 0),(.v .nilf),(.v .nilf)])]⟩)
        (p := True∧True∧callOb Try.prog 27 [(.var 61 [(LI ws),(LI xs),(i6 (nums.getD 0 0)),(i6 (nums.getD 1 0))])] [(i6 13),(.agg [(LI ws),(LI xs),(i6 (nums.getD 0 0)),(i6 (nums.getD 1 0))])] none true (.tup [(.agg [(i6 0),(.v .nilf),(.v .nilf)]),(i6 0),(dB false)])∧True∧True∧True∧True∧True∧True∧True∧True∧True) (by kernel_rfl)
        ⟨⟨⟩,⟨⟩,(width_bad_13 _ _ _ _ hwl hb),⟨⟩,⟨⟩,⟨⟩,⟨⟩,⟨⟩,⟨⟩,⟨⟩,⟨⟩,⟨⟩⟩ ?_
      refine Ev.seq ?_
      refine Ev.seq ?_
      refine Ev.reg [] [1,2,10,11,43] (st' := ⟨[(1,(LI ws)),(2,(LI xs)),(10,(.ptr 0 0 0 0)),(11,(.ptr 1 0 0 0)),(43,(dB true))],[(.var 61 [(LI ws),(LI xs),(i6 (nums.getD 0 0)),(i6 (nums.getD 1 0))]),(.var 57 [(i6 0),(.v .nilf),(.v .nilf)])]⟩)
        (p := True∧True∧True) (by kernel_rfl)
        ⟨⟨⟩,⟨⟩,⟨⟩⟩ ?_
      refine Ev.cond true rfl (fun _ => ?_) (fun h => (by cases h))
      refine Ev.seq ?_
      refine Ev.reg [] [8,9] (st' := ⟨[(8,(i6 0)),(9,(i6 1))],[(.var 61 [(LI ws),(LI xs),(i6 (nums.getD 0 0)),(i6 (nums.getD 1 0))]),(.var 57 [(i6 0),(.v .nilf),(.v .nilf)])]⟩)
        (p := True∧True∧True) (by kernel_rfl)
        ⟨⟨⟩,⟨⟩,⟨⟩⟩ ?_
      refine Ev.ret ?_
      refine ⟨⟨⟨⟩,⟨⟩,⟨⟩⟩,(?_ : (0 : Int) = (applyV 13 ws xs nums)∧(1 : Int) = (applyE 13 ws xs nums)∧True),.inr ⟨⟨⟩,⟨⟩,⟨⟩⟩⟩
      exact ⟨(ap_no (ap_bad h)).1.symm,(ap_no (ap_bad h)).2.symm,⟨⟩⟩
    · skip
      refine Ev.reg [(2,.call none true (.tup [(.agg [(i6 1),(.fn (.func 60) [] []),(.fn (.func 61) [] [])]),(i6 (wvF 13 ws (nums.getD 0 0) (nums.getD 1 0))),(dB false)]))] [1,2,10,11,13] (st' := ⟨[(1,(LI ws)),(2,(LI xs)),(10,(.ptr 0 0 0 0)),(11,(.ptr 1 0 0 0)),(13,(dB false))],[(.var 61 [(LI ws),(LI xs),(i6 (nums.getD 0 0)),(i6 (nums.getD 1 0))]),(.var 57 [(i6 1),(.fn (.func 60) [] []),(.fn (.func 61) [] [])])]⟩)
        (p := True∧True∧callOb Try.prog 27 [(.var 61 [(LI ws),(LI xs),(i6 (nums.getD 0 0)),(i6 (nums.getD 1 0))])] [(i6 13),(.agg [(LI ws),(LI xs),(i6 (nums.getD 0 0)),(i6 (nums.getD 1 0))])] none true (.tup [(.agg [(i6 1),(.fn (.func 60) [] []),(.fn (.func 61) [] [])]),(i6 (wvF 13 ws (nums.getD 0 0) (nums.getD 1 0))),(dB false)])∧True∧True∧True∧True∧True∧True∧True∧True∧True) (by kernel_rfl)
        ⟨⟨⟩,⟨⟩,(width_wv_13 _ _ _ _ hwl hb hv),⟨⟩,⟨⟩,⟨⟩,⟨⟩,⟨⟩,⟨⟩,⟨⟩,⟨⟩,⟨⟩⟩ ?_
      refine Ev.seq ?_
      refine Ev.seq ?_
      refine Ev.reg [] [1,2,10,11,43] (st' := ⟨[(1,(LI ws)),(2,(LI xs)),(10,(.ptr 0 0 0 0)),(11,(.ptr 1 0 0 0)),(43,(dB true))],[(.var 61 [(LI ws),(LI xs),(i6 (nums.getD 0 0)),(i6 (nums.getD 1 0))]),(.var 57 [(i6 1),(.fn (.func 60) [] []),(.fn (.func 61) [] [])])]⟩)
        (p := True∧True∧True) (by kernel_rfl)
        ⟨⟨⟩,⟨⟩,⟨⟩⟩ ?_
      refine Ev.cond true rfl (fun _ => ?_) (fun h => (by cases h))
      refine Ev.seq ?_
      refine Ev.reg [] [8,9] (st' := ⟨[(8,(i6 0)),(9,(i6 1))],[(.var 61 [(LI ws),(LI xs),(i6 (nums.getD 0 0)),(i6 (nums.getD 1 0))]),(.var 57 [(i6 1),(.fn (.func 60) [] []),(.fn (.func 61) [] [])])]⟩)
        (p := True∧True∧True) (by kernel_rfl)
        ⟨⟨⟩,⟨⟩,⟨⟩⟩ ?_
      refine Ev.ret ?_
      refine ⟨⟨⟨⟩,⟨⟩,⟨⟩⟩,(?_ : (0 : Int) = (applyV 13 ws xs nums)∧(1 : Int) = (applyE 13 ws xs nums)∧True),.inr ⟨⟨⟩,⟨⟩,⟨⟩⟩⟩
      exact ⟨(ap_no (ap_bad h)).1.symm,(ap_no (ap_bad h)).2.symm,⟨⟩⟩
    · skip
      refine Ev.reg [(2,.call none true (.tup [(.agg [(i6 1),(.fn (.func 60) [] []),(.fn (.func 61) [] [])]),(i6 (wvF 13 ws (nums.getD 0 0) (nums.getD 1 0))),(dB true)]))] [1,2,10,11,13] (st' := ⟨[(1,(LI ws)),(2,(LI xs)),(10,(.ptr 0 0 0 0)),(11,(.ptr 1 0 0 0)),(13,(dB true))],[(.var 61 [(LI ws),(LI xs),(i6 (nums.getD 0 0)),(i6 (nums.getD 1 0))]),(.var 57 [(i6 1),(.fn (.func 60) [] []),(.fn (.func 61) [] [])])]⟩)
        (p := True∧True∧callOb Try.prog 27 [(.var 61 [(LI ws),(LI xs),(i6 (nums.getD 0 0)),(i6 (nums.getD 1 0))])] [(i6 13),(.agg [(LI ws),(LI xs),(i6 (nums.getD 0 0)),(i6 (nums.getD 1 0))])] none true (.tup [(.agg [(i6 1),(.fn (.func 60) [] []),(.fn (.func 61) [] [])]),(i6 (wvF 13 ws (nums.getD 0 0) (nums.getD 1 0))),(dB true)])∧True∧True∧True∧True∧True∧True∧True∧True∧True) (by kernel_rfl)
        ⟨⟨⟩,⟨⟩,(width_good_13 _ _ _ _ hwl h),⟨⟩,⟨⟩,⟨⟩,⟨⟩,⟨⟩,⟨⟩,⟨⟩,⟨⟩,⟨⟩⟩ ?_
      refine Ev.seq ?_
      refine Ev.seq ?_
      refine Ev.reg [] [1,2,10,11,43] (st' := ⟨[(1,(LI ws)),(2,(LI xs)),(10,(.ptr 0 0 0 0)),(11,(.ptr 1 0 0 0)),(43,(dB false))],[(.var 61 [(LI ws),(LI xs),(i6 (nums.getD 0 0)),(i6 (nums.getD 1 0))]),(.var 57 [(i6 1),(.fn (.func 60) [] []),(.fn (.func 61) [] [])])]⟩)
        (p := True∧True∧True) (by kernel_rfl)
        ⟨⟨⟩,⟨⟩,⟨⟩⟩ ?_
      refine Ev.cond false rfl (fun h => (by cases h)) (fun _ => ?_)
      refine Ev.skip ?_
      refine Ev.seq ?_
      refine Ev.seq ?_
      refine Ev.reg [] [1,10,11,44,45,46] (st' := ⟨[(1,(LI ws)),(10,(.ptr 0 0 0 0)),(11,(.ptr 1 0 0 0)),(44,(LI xs)),(45,(i6 ((xs.length : Nat) : Int))),(46,(i6 0))],[(.var 61 [(LI ws),(LI xs),(i6 (nums.getD 0 0)),(i6 (nums.getD 1 0))]),(.var 57 [(i6 1),(.fn (.func 60) [] []),(.fn (.func 61) [] [])])]⟩)
        (p := True∧True∧True∧True) (by kernel_rfl)
        ⟨⟨⟩,⟨⟩,⟨⟩,⟨⟩⟩ ?_
      refine Ev.block ?_
      refine Ev.loop [1,10,11,44,45,46] 2 (fun (i : Nat) => ⟨[(1,(LI ws)),(10,(.ptr 0 0 0 0)),(11,(.ptr 1 0 0 0)),(44,(LI xs)),(45,(i6 ((xs.length : Nat) : Int))),(46,(i6 ((i : Nat) : Int)))],[(.var 61 [(LI ws),(LI xs),(i6 (nums.getD 0 0)),(i6 (nums.getD 1 0))]),(.var 57 [(i6 1),(.fn (.func 60) [] []),(.fn (.func 61) [] [])])]⟩) (fun (i : Nat) => i ≤ xs.length∧∀ j,j < i → 0 ≤ xs.getD j 0∧xs.getD j 0 ≤ maskF (ws.getD j 0)) (fun (i : Nat) => xs.length - i) 0 (by kernel_rfl) (⟨by omega,fun j hj => by omega⟩) ?_
      rintro i hinv
      have hinv : i ≤ xs.length∧∀ j,j < i → 0 ≤ xs.getD j 0∧xs.getD j 0 ≤ maskF (ws.getD j 0) := hinv
      obtain ⟨hi,hall⟩ := hinv
      refine Ev.seq ?_
      refine Ev.reg [] [1,10,11,44,45,46,47] (st' := ⟨[(1,(LI ws)),(10,(.ptr 0 0 0 0)),(11,(.ptr 1 0 0 0)),(44,(LI xs)),(45,(i6 ((xs.length : Nat) : Int))),(46,(i6 ((i : Nat) : Int))),(47,(dB (decide (((i : Nat) : Int) < ((xs.length : Nat) : Int)))))],[(.var 61 [(LI ws),(LI xs),(i6 (nums.getD 0 0)),(i6 (nums.getD 1 0))]),(.var 57 [(i6 1),(.fn (.func 60) [] []),(.fn (.func 61) [] [])])]⟩)
        (p := True∧True) (by kernel_rfl)
        ⟨⟨⟩,⟨⟩⟩ ?_
      refine Ev.seq ?_
      refine Ev.cond _ rfl (fun hc47 => ?_) (fun hc47 => ?_)
      · try simp only [decide_eq_true_eq,decide_eq_false_iff_not,beq_iff_eq,bne_iff_ne,ne_eq,beq_eq_false_iff_ne,bne_eq_false_iff_eq,Bool.not_eq_true,Bool.not_eq_false,Bool.not_eq_true',Bool.not_eq_false',Bool.not_not,gt_iff_lt,ge_iff_le,Nat.not_lt,Int.not_lt,Int.not_le] at hc47
        refine Ev.skip ?_
        refine Ev.seq ?_
        refine Ev.block ?_
        refine Ev.seq ?_
        refine Ev.reg [] [1,10,11,14,15,44,45,46] (st' := ⟨[(1,(LI ws)),(10,(.ptr 0 0 0 0)),(11,(.ptr 1 0 0 0)),(14,(i6 ((i : Nat) : Int))),(15,(i6 (xs.getD i 0))),(44,(LI xs)),(45,(i6 ((xs.length : Nat) : Int))),(46,(i6 ((i : Nat) : Int)))],[(.var 61 [(LI ws),(LI xs),(i6 (nums.getD 0 0)),(i6 (nums.getD 1 0))]),(.var 57 [(i6 1),(.fn (.func 60) [] []),(.fn (.func 61) [] [])])]⟩)
          (p := True∧(0 ≤ ((i : Nat) : Int)∧((i : Nat) : Int) < (xs.length : Int))∧True∧True∧True∧True) (by kernel_rfl)
          ⟨⟨⟩,(by first | omega | (simp; first | done | omega)),⟨⟩,⟨⟩,⟨⟩,⟨⟩⟩ ?_
        refine Ev.seq ?_
        rcases Int.lt_or_le (xs.getD i 0) 0 with hn | hn
        · skip
          refine Ev.reg [(1,.val (dB true))] [1,10,11,44,45,46,61] (st' := ⟨[(1,(LI ws)),(10,(.ptr 0 0 0 0)),(11,(.ptr 1 0 0 0)),(44,(LI xs)),(45,(i6 ((xs.length : Nat) : Int))),(46,(i6 ((i : Nat) : Int))),(61,(dB true))],[(.var 61 [(LI ws),(LI xs),(i6 (nums.getD 0 0)),(i6 (nums.getD 1 0))]),(.var 57 [(i6 1),(.fn (.func 60) [] []),(.fn (.func 61) [] [])])]⟩)
            (p := True∧(True∧(decide ((xs.getD i 0) < 0)) = true)∧True∧True∧True∧True∧True∧True∧True∧True∧True∧True) (by kernel_rfl)
            ⟨⟨⟩,⟨⟨⟩,(by simpa using hn)⟩,⟨⟩,⟨⟩,⟨⟩,⟨⟩,⟨⟩,⟨⟩,⟨⟩,⟨⟩,⟨⟩,⟨⟩⟩ ?_
          refine Ev.cond true rfl (fun _ => ?_) (fun h => (by cases h))
          refine Ev.seq ?_
          refine Ev.reg [] [8,9] (st' := ⟨[(8,(i6 0)),(9,(i6 1))],[(.var 61 [(LI ws),(LI xs),(i6 (nums.getD 0 0)),(i6 (nums.getD 1 0))]),(.var 57 [(i6 1),(.fn (.func 60) [] []),(.fn (.func 61) [] [])])]⟩)
            (p := True∧True∧True) (by kernel_rfl)
            ⟨⟨⟩,⟨⟩,⟨⟩⟩ ?_
          refine Ev.ret ?_
          refine ⟨⟨⟨⟩,⟨⟩,⟨⟩⟩,(?_ : (0 : Int) = (applyV 13 ws xs nums)∧(1 : Int) = (applyE 13 ws xs nums)∧True),.inr ⟨⟨⟩,⟨⟩,⟨⟩⟩⟩
          exact ⟨(ap_no (ap_in (i := i) (by omega) (.inl hn))).1.symm,(ap_no (ap_in (i := i) (by omega) (.inl hn))).2.symm,⟨⟩⟩
        · skip
          refine Ev.reg [(1,.val (dB false)),(8,.call none false (i6 (maskF (ws.getD i 0))))] [1,10,11,44,45,46,61] (st' := ⟨[(1,(LI ws)),(10,(.ptr 0 0 0 0)),(11,(.ptr 1 0 0 0)),(44,(LI xs)),(45,(i6 ((xs.length : Nat) : Int))),(46,(i6 ((i : Nat) : Int))),(61,(dB (decide ((xs.getD i 0) > (maskF (ws.getD i 0))))))],[(.var 61 [(LI ws),(LI xs),(i6 (nums.getD 0 0)),(i6 (nums.getD 1 0))]),(.var 57 [(i6 1),(.fn (.func 60) [] []),(.fn (.func 61) [] [])])]⟩)
            (p := True∧(True∧(decide ((xs.getD i 0) < 0)) = false)∧True∧True∧True∧True∧(0 ≤ ((i : Nat) : Int)∧((i : Nat) : Int) < (ws.length : Int))∧True∧callOb Try.prog 14 [(.var 61 [(LI ws),(LI xs),(i6 (nums.getD 0 0)),(i6 (nums.getD 1 0))]),(.var 57 [(i6 1),(.fn (.func 60) [] []),(.fn (.func 61) [] [])])] [(i6 (ws.getD i 0))] none false (i6 (maskF (ws.getD i 0)))∧True∧True∧True) (by kernel_rfl)
            ⟨⟨⟩,⟨⟨⟩,(by simpa using hn)⟩,⟨⟩,⟨⟩,⟨⟩,⟨⟩,(by first | omega | (simp; first | done | omega)),⟨⟩,(mask_ok _),⟨⟩,⟨⟩,⟨⟩⟩ ?_
          refine Ev.cond _ rfl (fun hc61 => ?_) (fun hc61 => ?_)
          · try simp only [decide_eq_true_eq,decide_eq_false_iff_not,beq_iff_eq,bne_iff_ne,ne_eq,beq_eq_false_iff_ne,bne_eq_false_iff_eq,Bool.not_eq_true,Bool.not_eq_false,Bool.not_eq_true',Bool.not_eq_false',Bool.not_not,gt_iff_lt,ge_iff_le,Nat.not_lt,Int.not_lt,Int.not_le] at hc61
            refine Ev.seq ?_
            refine Ev.reg [] [8,9] (st' := ⟨[(8,(i6 0)),(9,(i6 1))],[(.var 61 [(LI ws),(LI xs),(i6 (nums.getD 0 0)),(i6 (nums.getD 1 0))]),(.var 57 [(i6 1),(.fn (.func 60) [] []),(.fn (.func 61) [] [])])]⟩)
              (p := True∧True∧True) (by kernel_rfl)
              ⟨⟨⟩,⟨⟩,⟨⟩⟩ ?_
            refine Ev.ret ?_
            refine ⟨⟨⟨⟩,⟨⟩,⟨⟩⟩,(?_ : (0 : Int) = (applyV 13 ws xs nums)∧(1 : Int) = (applyE 13 ws xs nums)∧True),.inr ⟨⟨⟩,⟨⟩,⟨⟩⟩⟩
            exact ⟨(ap_no (ap_in (i := i) (by omega) (.inr (by omega)))).1.symm,(ap_no (ap_in (i := i) (by omega) (.inr (by omega)))).2.symm,⟨⟩⟩
          · try simp only [decide_eq_true_eq,decide_eq_false_iff_not,beq_iff_eq,bne_iff_ne,ne_eq,beq_eq_false_iff_ne,bne_eq_false_iff_eq,Bool.not_eq_true,Bool.not_eq_false,Bool.not_eq_true',Bool.not_eq_false',Bool.not_not,gt_iff_lt,ge_iff_le,Nat.not_lt,Int.not_lt,Int.not_le] at hc61
            refine Ev.skip ?_
            refine Ev.reg [(0,.val (i6 ((i + 1 : Nat) : Int)))] [1,10,11,44,45,46] (st' := ⟨[(1,(LI ws)),(10,(.ptr 0 0 0 0)),(11,(.ptr 1 0 0 0)),(44,(LI xs)),(45,(i6 ((xs.length : Nat) : Int))),(46,(i6 ((i + 1 : Nat) : Int)))],[(.var 61 [(LI ws),(LI xs),(i6 (nums.getD 0 0)),(i6 (nums.getD 1 0))]),(.var 57 [(i6 1),(.fn (.func 60) [] []),(.fn (.func 61) [] [])])]⟩)
              (p := (True∧(IntKind.wrap .i64 (((i : Nat) : Int) + 1)) = ((i + 1 : Nat) : Int))∧True∧True) (by kernel_rfl)
              ⟨⟨⟨⟩,(w64n (by first | rfl | simp | omega) (by first | omega | (simp; first | done | omega)))⟩,⟨⟩,⟨⟩⟩ ?_
            refine ⟨i + 1,by kernel_rfl,(?_ : (i + 1) ≤ xs.length∧∀ j,j < (i + 1) → 0 ≤ xs.getD j 0∧xs.getD j 0 ≤ maskF (ws.getD j 0)),(?_ : xs.length - (i + 1) < xs.length - i)⟩
            · exact ⟨by omega,lt_more hall ⟨by omega,by omega⟩⟩
            · omega
      · try simp only [decide_eq_true_eq,decide_eq_false_iff_not,beq_iff_eq,bne_iff_ne,ne_eq,beq_eq_false_iff_ne,bne_eq_false_iff_eq,Bool.not_eq_true,Bool.not_eq_false,Bool.not_eq_true',Bool.not_eq_false',Bool.not_not,gt_iff_lt,ge_iff_le,Nat.not_lt,Int.not_lt,Int.not_le] at hc47
        refine Ev.exit ?_
        refine Ev.seq ?_
        have hin : inF ws xs = true := in_all (fun j hj => hall j (by omega))
        obtain ⟨hl0,hf,-⟩ := ok_yes h
        have hA : arityF 13 = 1 := by decide
        rw [hA] at hl0
        refine Ev.reg [(3,.call none false (i6 (avF 13 ws xs (nums.getD 0 0) (nums.getD 1 0))))] [8,9] (st' := ⟨[(8,(i6 (avF 13 ws xs (nums.getD 0 0) (nums.getD 1 0)))),(9,(i6 0))],[(.var 61 [(LI ws),(LI xs),(i6 (nums.getD 0 0)),(i6 (nums.getD 1 0))]),(.var 57 [(i6 1),(.fn (.func 60) [] []),(.fn (.func 61) [] [])])]⟩)
          (p := True∧True∧True∧callOb Try.prog 61 [(.var 61 [(LI ws),(LI xs),(i6 (nums.getD 0 0)),(i6 (nums.getD 1 0))]),(.var 57 [(i6 1),(.fn (.func 60) [] []),(.fn (.func 61) [] [])])] [(.agg [(LI ws),(LI xs),(i6 (nums.getD 0 0)),(i6 (nums.getD 1 0))])] none false (i6 (avF 13 ws xs (nums.getD 0 0) (nums.getD 1 0)))∧True∧True∧True) (by kernel_rfl)
          ⟨⟨⟩,⟨⟩,⟨⟩,(ext_ok _ _ _ _ (by omega) (by assumption) (by omega) (by assumption)),⟨⟩,⟨⟩,⟨⟩⟩ ?_
        refine Ev.ret ?_
        refine ⟨⟨⟨⟩,⟨⟩,⟨⟩⟩,(?_ : (avF 13 ws xs (nums.getD 0 0) (nums.getD 1 0)) = (applyV 13 ws xs nums)∧(0 : Int) = (applyE 13 ws xs nums)∧True),.inr ⟨⟨⟩,⟨⟩,⟨⟩⟩⟩
        exact ⟨(ap_yes hx.1 hx.2 h hin).1.symm,(ap_yes hx.1 hx.2 h hin).2.symm,⟨⟩⟩

set_option maxRecDepth 100000 in
theorem Apply_none (op : Int) (ws xs nums : List Int) (hwl : ws.length ≤ 9223372036854775807) (hxl : xs.length ≤ 9223372036854775807) (hop : op < 1 ∨ 13 < op) : CallOk Try.prog 12 [(i6 op),(LI ws),(LI xs),(LI nums)] [] false (.tup [(i6 (applyV op ws xs nums)),(i6 (applyE op ws xs nums))]) [] := by
  refine CallOk.of_ev Try.func12 rfl rfl rfl ?_
  rintro ⟨_,W,S0,_,susp,_⟩ rfl rfl rfl
  refine Ev.seq ?_
  refine Ev.reg [] [0,1,2,3] (st' := ⟨[(0,(i6 op)),(1,(LI ws)),(2,(LI xs)),(3,(LI nums))],[]⟩)
    (p := True∧True∧True) (by kernel_rfl)
    ⟨⟨⟩,⟨⟩,⟨⟩⟩ ?_
  refine Ev.seq ?_
  refine Ev.seq ?_
  rcases (show nums.length ≠ 2 ∨ (nums.length = 2∧xs.length ≠ ws.length) ∨ (nums.length = 2∧xs.length = ws.length) from by omega) with hx | hx | hx
  · skip
    refine Ev.reg [(2,.val (dB true))] [0,1,2,3,25] (st' := ⟨[(0,(i6 op)),(1,(LI ws)),(2,(LI xs)),(3,(LI nums)),(25,(dB true))],[]⟩)
      (p := True∧True∧(True∧(((nums.length : Nat) : Int) != 2) = true)∧True∧True∧True∧True∧True∧True∧True∧True) (by kernel_rfl)
      ⟨⟨⟩,⟨⟩,⟨⟨⟩,(by exact bne_iff_ne.2 (by omega))⟩,⟨⟩,⟨⟩,⟨⟩,⟨⟩,⟨⟩,⟨⟩,⟨⟩,⟨⟩⟩ ?_
    refine Ev.cond true rfl (fun _ => ?_) (fun h => (by cases h))
    refine Ev.seq ?_
    refine Ev.reg [] [8,9] (st' := ⟨[(8,(i6 0)),(9,(i6 1))],[]⟩)
      (p := True∧True∧True) (by kernel_rfl)
      ⟨⟨⟩,⟨⟩,⟨⟩⟩ ?_
    refine Ev.ret ?_
    refine ⟨⟨⟨⟩,⟨⟩,⟨⟩⟩,(?_ : (0 : Int) = (applyV op ws xs nums)∧(1 : Int) = (applyE op ws xs nums)∧True),.inr ⟨⟨⟩,⟨⟩,⟨⟩⟩⟩
    exact ⟨(ap_no (ap_n hx)).1.symm,(ap_no (ap_n hx)).2.symm,⟨⟩⟩
  · skip
    refine Ev.reg [(2,.val (dB false)),(8,.val (dB true))] [0,1,2,3,25] (st' := ⟨[(0,(i6 op)),(1,(LI ws)),(2,(LI xs)),(3,(LI nums)),(25,(dB true))],[]⟩)
      (p := True∧True∧(True∧(((nums.length : Nat) : Int) != 2) = false)∧True∧True∧True∧True∧True∧(True∧(((xs.length : Nat) : Int) != ((ws.length : Nat) : Int)) = true)∧True∧True) (by kernel_rfl)
      ⟨⟨⟩,⟨⟩,⟨⟨⟩,(by rw [hx.1]; rfl)⟩,⟨⟩,⟨⟩,⟨⟩,⟨⟩,⟨⟩,⟨⟨⟩,(by exact bne_iff_ne.2 (by omega))⟩,⟨⟩,⟨⟩⟩ ?_
    refine Ev.cond true rfl (fun _ => ?_) (fun h => (by cases h))
    refine Ev.seq ?_
    refine Ev.reg [] [8,9] (st' := ⟨[(8,(i6 0)),(9,(i6 1))],[]⟩)
      (p := True∧True∧True) (by kernel_rfl)
      ⟨⟨⟩,⟨⟩,⟨⟩⟩ ?_
    refine Ev.ret ?_
    refine ⟨⟨⟨⟩,⟨⟩,⟨⟩⟩,(?_ : (0 : Int) = (applyV op ws xs nums)∧(1 : Int) = (applyE op ws xs nums)∧True),.inr ⟨⟨⟩,⟨⟩,⟨⟩⟩⟩
    exact ⟨(ap_no (ap_l hx.2)).1.symm,(ap_no (ap_l hx.2)).2.symm,⟨⟩⟩
  · skip
    refine Ev.reg [(2,.val (dB false)),(8,.val (dB false))] [0,1,2,3,25] (st' := ⟨[(0,(i6 op)),(1,(LI ws)),(2,(LI xs)),(3,(LI nums)),(25,(dB false))],[]⟩)
      (p := True∧True∧(True∧(((nums.length : Nat) : Int) != 2) = false)∧True∧True∧True∧True∧True∧(True∧(((xs.length : Nat) : Int) != ((ws.length : Nat) : Int)) = false)∧True∧True) (by kernel_rfl)
      ⟨⟨⟩,⟨⟩,⟨⟨⟩,(by rw [hx.1]; rfl)⟩,⟨⟩,⟨⟩,⟨⟩,⟨⟩,⟨⟩,⟨⟨⟩,(by rw [hx.2]; simp)⟩,⟨⟩,⟨⟩⟩ ?_
    refine Ev.cond false rfl (fun h => (by cases h)) (fun _ => ?_)
    refine Ev.skip ?_
    refine Ev.seq ?_
    refine Ev.draw 10 [false,false,false,false,false,false,false,false,false,false] [] [0,1,2,10] (st' := ⟨[(0,(i6 op)),(1,(LI ws)),(2,(LI xs)),(10,(.ptr 0 0 0 0))],[(.var 61 [(LI ws),(LI xs),(i6 (nums.getD 0 0)),(i6 (nums.getD 1 0))])]⟩)
      (p := (True∧True∧True∧(0 ≤ (0 : Int)∧0 < (nums.length : Int))∧True∧True∧(0 ≤ (1 : Int)∧1 < (nums.length : Int))∧True∧True∧True∧True)∧(True∧True)) (by kernel_rfl) (by kernel_rfl)
      ⟨⟨⟨⟩,⟨⟩,⟨⟩,(by first | omega | (simp; first | done | omega)),⟨⟩,⟨⟩,(by first | omega | (simp; first | done | omega)),⟨⟩,⟨⟩,⟨⟩,⟨⟩⟩,⟨⟨⟩,⟨⟩⟩⟩ ?_
    refine Ev.seq ?_
    refine Ev.reg [(2,.call none true (.tup [(.agg [(i6 0),(.v .nilf),(.v .nilf)]),(i6 0),(dB false)]))] [1,2,10,11,13] (st' := ⟨[(1,(LI ws)),(2,(LI xs)),(10,(.ptr 0 0 0 0)),(11,(.ptr 1 0 0 0)),(13,(dB false))],[(.var 61 [(LI ws),(LI xs),(i6 (nums.getD 0 0)),(i6 (nums.getD 1 0))]),(.var 57 [(i6 0),(.v .nilf),(.v .nilf)])]⟩)
      (p := True∧True∧callOb Try.prog 27 [(.var 61 [(LI ws),(LI xs),(i6 (nums.getD 0 0)),(i6 (nums.getD 1 0))])] [(i6 op),(.agg [(LI ws),(LI xs),(i6 (nums.getD 0 0)),(i6 (nums.getD 1 0))])] none true (.tup [(.agg [(i6 0),(.v .nilf),(.v .nilf)]),(i6 0),(dB false)])∧True∧True∧True∧True∧True∧True∧True∧True∧True) (by kernel_rfl)
      ⟨⟨⟩,⟨⟩,(width_none _ _ _ _ _ hop),⟨⟩,⟨⟩,⟨⟩,⟨⟩,⟨⟩,⟨⟩,⟨⟩,⟨⟩,⟨⟩⟩ ?_
    refine Ev.seq ?_
    refine Ev.seq ?_
    refine Ev.reg [] [1,2,10,11,43] (st' := ⟨[(1,(LI ws)),(2,(LI xs)),(10,(.ptr 0 0 0 0)),(11,(.ptr 1 0 0 0)),(43,(dB true))],[(.var 61 [(LI ws),(LI xs),(i6 (nums.getD 0 0)),(i6 (nums.getD 1 0))]),(.var 57 [(i6 0),(.v .nilf),(.v .nilf)])]⟩)
      (p := True∧True∧True) (by kernel_rfl)
      ⟨⟨⟩,⟨⟩,⟨⟩⟩ ?_
    refine Ev.cond true rfl (fun _ => ?_) (fun h => (by cases h))
    refine Ev.seq ?_
    refine Ev.reg [] [8,9] (st' := ⟨[(8,(i6 0)),(9,(i6 1))],[(.var 61 [(LI ws),(LI xs),(i6 (nums.getD 0 0)),(i6 (nums.getD 1 0))]),(.var 57 [(i6 0),(.v .nilf),(.v .nilf)])]⟩)
      (p := True∧True∧True) (by kernel_rfl)
      ⟨⟨⟩,⟨⟩,⟨⟩⟩ ?_
    refine Ev.ret ?_
    refine ⟨⟨⟨⟩,⟨⟩,⟨⟩⟩,(?_ : (0 : Int) = (applyV op ws xs nums)∧(1 : Int) = (applyE op ws xs nums)∧True),.inr ⟨⟨⟩,⟨⟩,⟨⟩⟩⟩
    exact ⟨(ap_no (ap_bad (ok_none hop _ _ _))).1.symm,(ap_no (ap_bad (ok_none hop _ _ _))).2.symm,⟨⟩⟩

theorem Apply_ok (op : Int) (ws xs nums : List Int) (hwl : ws.length ≤ 9223372036854775807) (hxl : xs.length ≤ 9223372036854775807) : CallOk Try.prog 12 [dI .i64 op,dL 1 (encI .i64) 0 ws,dL 1 (encI .i64) 0 xs,dL 1 (encI .i64) 0 nums] [] false (.tup [dI .i64 (applyV op ws xs nums),dI .i64 (applyE op ws xs nums)]) [] := by
  rcases (show (op < 1 ∨ 13 < op) ∨ op = 1 ∨ op = 2 ∨ op = 3 ∨ op = 4 ∨ op = 5 ∨ op = 6 ∨ op = 7 ∨ op = 8 ∨ op = 9 ∨ op = 10 ∨ op = 11 ∨ op = 12 ∨ op = 13 from by omega) with hop | rfl | rfl | rfl | rfl | rfl | rfl | rfl | rfl | rfl | rfl | rfl | rfl | rfl
  · exact Apply_none op ws xs nums hwl hxl hop
  · exact Apply_1 ws xs nums hwl hxl
  · exact Apply_2 ws xs nums hwl hxl
  · exact Apply_3 ws xs nums hwl hxl
  · exact Apply_4 ws xs nums hwl hxl
  · exact Apply_5 ws xs nums hwl hxl
  · exact Apply_6 ws xs nums hwl hxl
  · exact Apply_7 ws xs nums hwl hxl
  · exact Apply_8 ws xs nums hwl hxl
  · exact Apply_9 ws xs nums hwl hxl
  · exact Apply_10 ws xs nums hwl hxl
  · exact Apply_11 ws xs nums hwl hxl
  · exact Apply_12 ws xs nums hwl hxl
  · exact Apply_13 ws xs nums hwl hxl

end Go.Proofs.Ytaghhicmnalmmaa
