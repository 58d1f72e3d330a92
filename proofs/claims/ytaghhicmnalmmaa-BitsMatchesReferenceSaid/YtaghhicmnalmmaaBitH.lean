/-
  Package bits: Apply.
-/
import Derived.Test.YtaghhicmnalmmaaBitE
import Derived.Test.YtaghhicmnalmmaaBitF
namespace Go.Proofs.Ytaghhicmnalmmaa
open Go.RowKit
set_option linter.unusedVariables false
set_option linter.unusedSimpArgs false
abbrev yh0 (ws xs nums : List Int) : Box := (.var 61 [(LI ws),(LI xs),(i6 (nums.getD 0 0)),(i6 (nums.getD 1 0))])
abbrev yh1 (ws xs nums : List Int) : D := (.agg [(LI ws),(LI xs),(i6 (nums.getD 0 0)),(i6 (nums.getD 1 0))])
abbrev yh30 : D := (.ptr 0 0 0 0)
abbrev yh33 : D := (.ptr 1 0 0 0)
abbrev yh31 (i : Nat) : D := (i6 ((i : Nat) : Int))
abbrev yh7 (xs : List Int) : D := (i6 ((xs.length : Nat) : Int))
abbrev yh2 (ws : List Int) (i : Nat) (xs : List Int) : List (Nat × D) := [(1,(LI ws)),(10,yh30),(11,yh33),(14,(yh31 i)),(15,(i6 (xs.getD i 0))),(44,(LI xs)),(45,(yh7 xs)),(46,(yh31 i))]
abbrev yh3 : D := (.fn (.func 43) [] [])
abbrev yh4 : List D := [(i6 0),(.v .nilf),(.v .nilf)]
abbrev yh5 (ws xs : List Int) : List (Nat × D) := [(1,(LI ws)),(2,(LI xs)),(10,yh30),(11,yh33),(13,(dB false))]
abbrev yh6 (ws xs : List Int) : List (Nat × D) := [(1,(LI ws)),(2,(LI xs)),(10,yh30),(11,yh33),(43,(dB true))]
abbrev yh8 : List (Nat × D) := [(8,(i6 0)),(9,(i6 1))]
abbrev yh9 (ws xs : List Int) (i : Nat) : List (Nat × D) := [(1,(LI ws)),(10,yh30),(11,yh33),(44,(LI xs)),(45,(yh7 xs)),(46,(yh31 i)),(61,(dB true))]
abbrev yh34 (i : Nat) : D := (i6 ((i + 1 : Nat) : Int))
abbrev yh10 (ws xs : List Int) (i : Nat) : List (Nat × D) := [(1,(LI ws)),(10,yh30),(11,yh33),(44,(LI xs)),(45,(yh7 xs)),(46,(yh34 i))]
abbrev yh11 (ws xs : List Int) (i : Nat) : List (Nat × D) := [(1,(LI ws)),(10,yh30),(11,yh33),(44,(LI xs)),(45,(yh7 xs)),(46,(yh31 i))]
abbrev yh12 : List D := [(i6 0),(.fn (.func 52) [] []),(.fn (.func 53) [] [])]
abbrev yh13 : List D := [(i6 1),(.fn (.func 40) [] []),(.fn (.func 41) [] [])]
abbrev yh14 : List D := [(i6 2),(.fn (.func 49) [] []),(.fn (.func 50) [] [])]
abbrev yh15 : List D := [(i6 2),(.fn (.func 49) [] []),(.fn (.func 51) [] [])]
abbrev yh16 : List D := [(i6 3),(.fn (.func 54) [] []),(.fn (.func 55) [] [])]
abbrev yh17 : List D := [(i6 2),(.fn (.func 56) [] []),(.fn (.func 57) [] [])]
abbrev yh18 : List D := [(i6 1),(.fn (.func 58) [] []),(.fn (.func 59) [] [])]
abbrev yh19 : List D := [(i6 1),(.fn (.func 60) [] []),(.fn (.func 61) [] [])]
abbrev yh20 (ws xs : List Int) : List (Nat × D) := [(1,(LI ws)),(10,yh30),(11,yh33),(44,(LI xs)),(45,(yh7 xs)),(46,(i6 0))]
abbrev yh21 : D := (.tup [(.agg yh4),(i6 0),(dB false)])
abbrev yh22 (ws xs : List Int) : List (Nat × D) := [(1,(LI ws)),(2,(LI xs)),(10,yh30),(11,yh33),(43,(dB false))]
abbrev yh23 (ws xs : List Int) : List (Nat × D) := [(1,(LI ws)),(2,(LI xs)),(10,yh30),(11,yh33),(13,(dB true))]
abbrev yh43 : List D := [(i6 2),yh3,(.fn (.func 44) [] [])]
abbrev yh24 (ws xs nums : List Int) : List Box := [(yh0 ws xs nums),(.var 57 yh43)]
abbrev yh44 : List D := [(i6 2),yh3,(.fn (.func 45) [] [])]
abbrev yh25 (ws xs nums : List Int) : List Box := [(yh0 ws xs nums),(.var 57 yh44)]
abbrev yh45 : List D := [(i6 2),yh3,(.fn (.func 46) [] [])]
abbrev yh26 (ws xs nums : List Int) : List Box := [(yh0 ws xs nums),(.var 57 yh45)]
abbrev yh46 : List D := [(i6 2),yh3,(.fn (.func 47) [] [])]
abbrev yh27 (ws xs nums : List Int) : List Box := [(yh0 ws xs nums),(.var 57 yh46)]
abbrev yh47 : List D := [(i6 2),yh3,(.fn (.func 48) [] [])]
abbrev yh28 (ws xs nums : List Int) : List Box := [(yh0 ws xs nums),(.var 57 yh47)]
abbrev yh29 (ws xs nums : List Int) : List Box := [(yh0 ws xs nums),(.var 57 yh4)]
abbrev yh32 (ws : List Int) (i : Nat) : D := (i6 (maskF (ws.getD i 0)))
abbrev yh35 (ws xs nums : List Int) : List Box := [(yh0 ws xs nums),(.var 57 yh12)]
abbrev yh36 (ws xs nums : List Int) : List Box := [(yh0 ws xs nums),(.var 57 yh13)]
abbrev yh37 (ws xs nums : List Int) : List Box := [(yh0 ws xs nums),(.var 57 yh14)]
abbrev yh38 (ws xs nums : List Int) : List Box := [(yh0 ws xs nums),(.var 57 yh15)]
abbrev yh39 (ws xs nums : List Int) : List Box := [(yh0 ws xs nums),(.var 57 yh16)]
abbrev yh40 (ws xs nums : List Int) : List Box := [(yh0 ws xs nums),(.var 57 yh17)]
abbrev yh41 (ws xs nums : List Int) : List Box := [(yh0 ws xs nums),(.var 57 yh18)]
abbrev yh42 (ws xs nums : List Int) : List Box := [(yh0 ws xs nums),(.var 57 yh19)]

set_option maxRecDepth 100000 in
theorem Apply_1 (ws xs nums : List Int) (hwl : ws.length ≤ 9223372036854775807) (hxl : xs.length ≤ 9223372036854775807) : CallOk Try.prog 12 [(i6 1),(LI ws),(LI xs),(LI nums)] [] false (.tup [(i6 (applyV 1 ws xs nums)),(i6 (applyE 1 ws xs nums))]) [] := by
  refine CallOk.of_ev Try.func12 rfl rfl rfl ?_
  rintro ⟨_,W,S0,_,susp,_⟩ rfl rfl rfl
  refine Ev.seq ?_
  refine Ev.reg [] [0,1,2,3] (st' := ⟨[(0,(i6 1)),(1,(LI ws)),(2,(LI xs)),(3,(LI nums))],[]⟩)
    (p := T2 True) (by kernel_rfl)
    ⟨oK,oK,oK⟩ ?_
  refine Ev.seq ?_
  refine Ev.seq ?_
  rcases (show nums.length ≠ 2 ∨ (nums.length = 2∧xs.length ≠ ws.length) ∨ (nums.length = 2∧xs.length = ws.length) from by omega) with hx | hx | hx
  · skip
    refine Ev.reg [(2,.val (dB true))] [0,1,2,3,25] (st' := ⟨[(0,(i6 1)),(1,(LI ws)),(2,(LI xs)),(3,(LI nums)),(25,(dB true))],[]⟩)
      (p := T2 ((True∧(((nums.length : Nat) : Int) != 2) = true)∧T7 True)) (by kernel_rfl)
      ⟨oK,oK,⟨oK,(by exact bne_iff_ne.2 (by omega))⟩,oK,oK,oK,oK,oK,oK,oK,oK⟩ ?_
    refine Ev.cond true rfl (fun _ => ?_) (fun h => (by cases h))
    refine Ev.seq ?_
    refine Ev.reg [] [8,9] (st' := ⟨yh8,[]⟩)
      (p := T2 True) (by kernel_rfl)
      ⟨oK,oK,oK⟩ ?_
    refine Ev.ret ?_
    refine ⟨⟨oK,oK,oK⟩,(?_ : (0 : Int) = (applyV 1 ws xs nums)∧(1 : Int) = (applyE 1 ws xs nums)∧True),.inr ⟨oK,oK,oK⟩⟩
    exact ⟨(ap_no (ap_n hx)).1.symm,(ap_no (ap_n hx)).2.symm,oK⟩
  · skip
    refine Ev.reg [(2,.val (dB false)),(8,.val (dB true))] [0,1,2,3,25] (st' := ⟨[(0,(i6 1)),(1,(LI ws)),(2,(LI xs)),(3,(LI nums)),(25,(dB true))],[]⟩)
      (p := T2 ((True∧(((nums.length : Nat) : Int) != 2) = false)∧T5 ((True∧(((xs.length : Nat) : Int) != ((ws.length : Nat) : Int)) = true)∧True∧True))) (by kernel_rfl)
      ⟨oK,oK,⟨oK,(by rw [hx.1]; rfl)⟩,oK,oK,oK,oK,oK,⟨oK,(by exact bne_iff_ne.2 (by omega))⟩,oK,oK⟩ ?_
    refine Ev.cond true rfl (fun _ => ?_) (fun h => (by cases h))
    refine Ev.seq ?_
    refine Ev.reg [] [8,9] (st' := ⟨yh8,[]⟩)
      (p := T2 True) (by kernel_rfl)
      ⟨oK,oK,oK⟩ ?_
    refine Ev.ret ?_
    refine ⟨⟨oK,oK,oK⟩,(?_ : (0 : Int) = (applyV 1 ws xs nums)∧(1 : Int) = (applyE 1 ws xs nums)∧True),.inr ⟨oK,oK,oK⟩⟩
    exact ⟨(ap_no (ap_l hx.2)).1.symm,(ap_no (ap_l hx.2)).2.symm,oK⟩
  · skip
    refine Ev.reg [(2,.val (dB false)),(8,.val (dB false))] [0,1,2,3,25] (st' := ⟨[(0,(i6 1)),(1,(LI ws)),(2,(LI xs)),(3,(LI nums)),(25,(dB false))],[]⟩)
      (p := T2 ((True∧(((nums.length : Nat) : Int) != 2) = false)∧T5 ((True∧(((xs.length : Nat) : Int) != ((ws.length : Nat) : Int)) = false)∧True∧True))) (by kernel_rfl)
      ⟨oK,oK,⟨oK,(by rw [hx.1]; rfl)⟩,oK,oK,oK,oK,oK,⟨oK,(by rw [hx.2]; simp)⟩,oK,oK⟩ ?_
    refine Ev.cond false rfl (fun h => (by cases h)) (fun _ => ?_)
    refine Ev.skip ?_
    refine Ev.seq ?_
    refine Ev.draw 10 [false,false,false,false,false,false,false,false,false,false] [] [0,1,2,10] (st' := ⟨[(0,(i6 1)),(1,(LI ws)),(2,(LI xs)),(10,yh30)],[(yh0 ws xs nums)]⟩)
      (p := (T3 ((0 ≤ (0 : Int)∧0 < (nums.length : Int))∧T2 ((0 ≤ (1 : Int)∧1 < (nums.length : Int))∧T3 True)))∧(True∧True)) (by kernel_rfl) (by kernel_rfl)
      ⟨⟨oK,oK,oK,(by first | omega | (simp; first | done | omega)),oK,oK,(by first | omega | (simp; first | done | omega)),oK,oK,oK,oK⟩,⟨oK,oK⟩⟩ ?_
    refine Ev.seq ?_
    rcases ok3 1 ws (nums.getD 0 0) (nums.getD 1 0) with ⟨hb,h⟩ | ⟨hb,hv,h⟩ | h
    · skip
      refine Ev.reg [(2,.call none true yh21)] [1,2,10,11,13] (st' := ⟨(yh5 ws xs),(yh29 ws xs nums)⟩)
        (p := T2 (callOb Try.prog 27 [(yh0 ws xs nums)] [(i6 1),(yh1 ws xs nums)] none true yh21∧T8 True)) (by kernel_rfl)
        ⟨oK,oK,(width_bad_1 _ _ _ _ hwl hb),oK,oK,oK,oK,oK,oK,oK,oK,oK⟩ ?_
      refine Ev.seq ?_
      refine Ev.seq ?_
      refine Ev.reg [] [1,2,10,11,43] (st' := ⟨(yh6 ws xs),(yh29 ws xs nums)⟩)
        (p := T2 True) (by kernel_rfl)
        ⟨oK,oK,oK⟩ ?_
      refine Ev.cond true rfl (fun _ => ?_) (fun h => (by cases h))
      refine Ev.seq ?_
      refine Ev.reg [] [8,9] (st' := ⟨yh8,(yh29 ws xs nums)⟩)
        (p := T2 True) (by kernel_rfl)
        ⟨oK,oK,oK⟩ ?_
      refine Ev.ret ?_
      refine ⟨⟨oK,oK,oK⟩,(?_ : (0 : Int) = (applyV 1 ws xs nums)∧(1 : Int) = (applyE 1 ws xs nums)∧True),.inr ⟨oK,oK,oK⟩⟩
      exact ⟨(ap_no (ap_bad h)).1.symm,(ap_no (ap_bad h)).2.symm,oK⟩
    · skip
      refine Ev.reg [(2,.call none true (.tup [(.agg yh12),(i6 (wvF 1 ws (nums.getD 0 0) (nums.getD 1 0))),(dB false)]))] [1,2,10,11,13] (st' := ⟨(yh5 ws xs),(yh35 ws xs nums)⟩)
        (p := T2 (callOb Try.prog 27 [(yh0 ws xs nums)] [(i6 1),(yh1 ws xs nums)] none true (.tup [(.agg yh12),(i6 (wvF 1 ws (nums.getD 0 0) (nums.getD 1 0))),(dB false)])∧T8 True)) (by kernel_rfl)
        ⟨oK,oK,(width_wv_1 _ _ _ _ hwl hb hv),oK,oK,oK,oK,oK,oK,oK,oK,oK⟩ ?_
      refine Ev.seq ?_
      refine Ev.seq ?_
      refine Ev.reg [] [1,2,10,11,43] (st' := ⟨(yh6 ws xs),(yh35 ws xs nums)⟩)
        (p := T2 True) (by kernel_rfl)
        ⟨oK,oK,oK⟩ ?_
      refine Ev.cond true rfl (fun _ => ?_) (fun h => (by cases h))
      refine Ev.seq ?_
      refine Ev.reg [] [8,9] (st' := ⟨yh8,(yh35 ws xs nums)⟩)
        (p := T2 True) (by kernel_rfl)
        ⟨oK,oK,oK⟩ ?_
      refine Ev.ret ?_
      refine ⟨⟨oK,oK,oK⟩,(?_ : (0 : Int) = (applyV 1 ws xs nums)∧(1 : Int) = (applyE 1 ws xs nums)∧True),.inr ⟨oK,oK,oK⟩⟩
      exact ⟨(ap_no (ap_bad h)).1.symm,(ap_no (ap_bad h)).2.symm,oK⟩
    · skip
      refine Ev.reg [(2,.call none true (.tup [(.agg yh12),(i6 (wvF 1 ws (nums.getD 0 0) (nums.getD 1 0))),(dB true)]))] [1,2,10,11,13] (st' := ⟨(yh23 ws xs),(yh35 ws xs nums)⟩)
        (p := T2 (callOb Try.prog 27 [(yh0 ws xs nums)] [(i6 1),(yh1 ws xs nums)] none true (.tup [(.agg yh12),(i6 (wvF 1 ws (nums.getD 0 0) (nums.getD 1 0))),(dB true)])∧T8 True)) (by kernel_rfl)
        ⟨oK,oK,(width_good_1 _ _ _ _ hwl h),oK,oK,oK,oK,oK,oK,oK,oK,oK⟩ ?_
      refine Ev.seq ?_
      refine Ev.seq ?_
      refine Ev.reg [] [1,2,10,11,43] (st' := ⟨(yh22 ws xs),(yh35 ws xs nums)⟩)
        (p := T2 True) (by kernel_rfl)
        ⟨oK,oK,oK⟩ ?_
      refine Ev.cond false rfl (fun h => (by cases h)) (fun _ => ?_)
      refine Ev.skip ?_
      refine Ev.seq ?_
      refine Ev.seq ?_
      refine Ev.reg [] [1,10,11,44,45,46] (st' := ⟨(yh20 ws xs),(yh35 ws xs nums)⟩)
        (p := T3 True) (by kernel_rfl)
        ⟨oK,oK,oK,oK⟩ ?_
      refine Ev.block ?_
      refine Ev.loop [1,10,11,44,45,46] 2 (fun (i : Nat) => ⟨(yh11 ws xs i),(yh35 ws xs nums)⟩) (fun (i : Nat) => i ≤ xs.length∧∀ j,j < i → 0 ≤ xs.getD j 0∧xs.getD j 0 ≤ maskF (ws.getD j 0)) (fun (i : Nat) => xs.length - i) 0 (by kernel_rfl) (⟨by omega,fun j hj => by omega⟩) ?_
      rintro i hinv
      have hinv : i ≤ xs.length∧∀ j,j < i → 0 ≤ xs.getD j 0∧xs.getD j 0 ≤ maskF (ws.getD j 0) := hinv
      obtain ⟨hi,hall⟩ := hinv
      refine Ev.seq ?_
      refine Ev.reg [] [1,10,11,44,45,46,47] (st' := ⟨[(1,(LI ws)),(10,yh30),(11,yh33),(44,(LI xs)),(45,(yh7 xs)),(46,(yh31 i)),(47,(dB (decide (((i : Nat) : Int) < ((xs.length : Nat) : Int)))))],(yh35 ws xs nums)⟩)
        (p := True∧True) (by kernel_rfl)
        ⟨oK,oK⟩ ?_
      refine Ev.seq ?_
      refine Ev.cond _ rfl (fun hc47 => ?_) (fun hc47 => ?_)
      · try simp only [decide_eq_true_eq,decide_eq_false_iff_not,beq_iff_eq,bne_iff_ne,ne_eq,beq_eq_false_iff_ne,bne_eq_false_iff_eq,Bool.not_eq_true,Bool.not_eq_false,Bool.not_eq_true',Bool.not_eq_false',Bool.not_not,gt_iff_lt,ge_iff_le,Nat.not_lt,Int.not_lt,Int.not_le] at hc47
        refine Ev.skip ?_
        refine Ev.seq ?_
        refine Ev.block ?_
        refine Ev.seq ?_
        refine Ev.reg [] [1,10,11,14,15,44,45,46] (st' := ⟨(yh2 ws i xs),(yh35 ws xs nums)⟩)
          (p := True∧(0 ≤ ((i : Nat) : Int)∧((i : Nat) : Int) < (xs.length : Int))∧T3 True) (by kernel_rfl)
          ⟨oK,(by first | omega | (simp; first | done | omega)),oK,oK,oK,oK⟩ ?_
        refine Ev.seq ?_
        rcases Int.lt_or_le (xs.getD i 0) 0 with hn | hn
        · skip
          refine Ev.reg [(1,.val (dB true))] [1,10,11,44,45,46,61] (st' := ⟨(yh9 ws xs i),(yh35 ws xs nums)⟩)
            (p := True∧(True∧(decide ((xs.getD i 0) < 0)) = true)∧T9 True) (by kernel_rfl)
            ⟨oK,⟨oK,(by simpa using hn)⟩,oK,oK,oK,oK,oK,oK,oK,oK,oK,oK⟩ ?_
          refine Ev.cond true rfl (fun _ => ?_) (fun h => (by cases h))
          refine Ev.seq ?_
          refine Ev.reg [] [8,9] (st' := ⟨yh8,(yh35 ws xs nums)⟩)
            (p := T2 True) (by kernel_rfl)
            ⟨oK,oK,oK⟩ ?_
          refine Ev.ret ?_
          refine ⟨⟨oK,oK,oK⟩,(?_ : (0 : Int) = (applyV 1 ws xs nums)∧(1 : Int) = (applyE 1 ws xs nums)∧True),.inr ⟨oK,oK,oK⟩⟩
          exact ⟨(ap_no (ap_in (i := i) (by omega) (.inl hn))).1.symm,(ap_no (ap_in (i := i) (by omega) (.inl hn))).2.symm,oK⟩
        · skip
          refine Ev.reg [(1,.val (dB false)),(8,.call none false (yh32 ws i))] [1,10,11,44,45,46,61] (st' := ⟨[(1,(LI ws)),(10,yh30),(11,yh33),(44,(LI xs)),(45,(yh7 xs)),(46,(yh31 i)),(61,(dB (decide ((xs.getD i 0) > (maskF (ws.getD i 0))))))],(yh35 ws xs nums)⟩)
            (p := True∧(True∧(decide ((xs.getD i 0) < 0)) = false)∧T4 ((0 ≤ ((i : Nat) : Int)∧((i : Nat) : Int) < (ws.length : Int))∧True∧callOb Try.prog 14 (yh35 ws xs nums) [(i6 (ws.getD i 0))] none false (yh32 ws i)∧T2 True)) (by kernel_rfl)
            ⟨oK,⟨oK,(by simpa using hn)⟩,oK,oK,oK,oK,(by first | omega | (simp; first | done | omega)),oK,(mask_ok _),oK,oK,oK⟩ ?_
          refine Ev.cond _ rfl (fun hc61 => ?_) (fun hc61 => ?_)
          · try simp only [decide_eq_true_eq,decide_eq_false_iff_not,beq_iff_eq,bne_iff_ne,ne_eq,beq_eq_false_iff_ne,bne_eq_false_iff_eq,Bool.not_eq_true,Bool.not_eq_false,Bool.not_eq_true',Bool.not_eq_false',Bool.not_not,gt_iff_lt,ge_iff_le,Nat.not_lt,Int.not_lt,Int.not_le] at hc61
            refine Ev.seq ?_
            refine Ev.reg [] [8,9] (st' := ⟨yh8,(yh35 ws xs nums)⟩)
              (p := T2 True) (by kernel_rfl)
              ⟨oK,oK,oK⟩ ?_
            refine Ev.ret ?_
            refine ⟨⟨oK,oK,oK⟩,(?_ : (0 : Int) = (applyV 1 ws xs nums)∧(1 : Int) = (applyE 1 ws xs nums)∧True),.inr ⟨oK,oK,oK⟩⟩
            exact ⟨(ap_no (ap_in (i := i) (by omega) (.inr (by omega)))).1.symm,(ap_no (ap_in (i := i) (by omega) (.inr (by omega)))).2.symm,oK⟩
          · try simp only [decide_eq_true_eq,decide_eq_false_iff_not,beq_iff_eq,bne_iff_ne,ne_eq,beq_eq_false_iff_ne,bne_eq_false_iff_eq,Bool.not_eq_true,Bool.not_eq_false,Bool.not_eq_true',Bool.not_eq_false',Bool.not_not,gt_iff_lt,ge_iff_le,Nat.not_lt,Int.not_lt,Int.not_le] at hc61
            refine Ev.skip ?_
            refine Ev.reg [(0,.val (yh34 i))] [1,10,11,44,45,46] (st' := ⟨(yh10 ws xs i),(yh35 ws xs nums)⟩)
              (p := (True∧(IntKind.wrap .i64 (((i : Nat) : Int) + 1)) = ((i + 1 : Nat) : Int))∧True∧True) (by kernel_rfl)
              ⟨⟨oK,(w64n (by first | rfl | simp | omega) (by first | omega | (simp; first | done | omega)))⟩,oK,oK⟩ ?_
            refine ⟨i + 1,by kernel_rfl,(?_ : (i + 1) ≤ xs.length∧∀ j,j < (i + 1) → 0 ≤ xs.getD j 0∧xs.getD j 0 ≤ maskF (ws.getD j 0)),(?_ : xs.length - (i + 1) < xs.length - i)⟩
            · exact ⟨by omega,lt_more hall ⟨by omega,by omega⟩⟩
            · omega
      · try simp only [decide_eq_true_eq,decide_eq_false_iff_not,beq_iff_eq,bne_iff_ne,ne_eq,beq_eq_false_iff_ne,bne_eq_false_iff_eq,Bool.not_eq_true,Bool.not_eq_false,Bool.not_eq_true',Bool.not_eq_false',Bool.not_not,gt_iff_lt,ge_iff_le,Nat.not_lt,Int.not_lt,Int.not_le] at hc47
        refine Ev.exit ?_
        refine Ev.seq ?_
        have hin : inF ws xs = true := in_all (fun j hj => hall j (by omega))
        obtain ⟨hl0,hf,-⟩ := ok_yes h
        have hA : arityF 1 = 0 := by decide
        rw [hA] at hl0
        refine Ev.reg [(3,.call none false (i6 (avF 1 ws xs (nums.getD 0 0) (nums.getD 1 0))))] [8,9] (st' := ⟨[(8,(i6 (avF 1 ws xs (nums.getD 0 0) (nums.getD 1 0)))),(9,(i6 0))],(yh35 ws xs nums)⟩)
          (p := T3 (callOb Try.prog 53 (yh35 ws xs nums) [(yh1 ws xs nums)] none false (i6 (avF 1 ws xs (nums.getD 0 0) (nums.getD 1 0)))∧T2 True)) (by kernel_rfl)
          ⟨oK,oK,oK,(const_ok _ _ _ _ (by omega) (by assumption) (by omega) (by assumption)),oK,oK,oK⟩ ?_
        refine Ev.ret ?_
        refine ⟨⟨oK,oK,oK⟩,(?_ : (avF 1 ws xs (nums.getD 0 0) (nums.getD 1 0)) = (applyV 1 ws xs nums)∧(0 : Int) = (applyE 1 ws xs nums)∧True),.inr ⟨oK,oK,oK⟩⟩
        exact ⟨(ap_yes hx.1 hx.2 h hin).1.symm,(ap_yes hx.1 hx.2 h hin).2.symm,oK⟩

set_option maxRecDepth 100000 in
theorem Apply_2 (ws xs nums : List Int) (hwl : ws.length ≤ 9223372036854775807) (hxl : xs.length ≤ 9223372036854775807) : CallOk Try.prog 12 [(i6 2),(LI ws),(LI xs),(LI nums)] [] false (.tup [(i6 (applyV 2 ws xs nums)),(i6 (applyE 2 ws xs nums))]) [] := by
  refine CallOk.of_ev Try.func12 rfl rfl rfl ?_
  rintro ⟨_,W,S0,_,susp,_⟩ rfl rfl rfl
  refine Ev.seq ?_
  refine Ev.reg [] [0,1,2,3] (st' := ⟨[(0,(i6 2)),(1,(LI ws)),(2,(LI xs)),(3,(LI nums))],[]⟩)
    (p := T2 True) (by kernel_rfl)
    ⟨oK,oK,oK⟩ ?_
  refine Ev.seq ?_
  refine Ev.seq ?_
  rcases (show nums.length ≠ 2 ∨ (nums.length = 2∧xs.length ≠ ws.length) ∨ (nums.length = 2∧xs.length = ws.length) from by omega) with hx | hx | hx
  · skip
    refine Ev.reg [(2,.val (dB true))] [0,1,2,3,25] (st' := ⟨[(0,(i6 2)),(1,(LI ws)),(2,(LI xs)),(3,(LI nums)),(25,(dB true))],[]⟩)
      (p := T2 ((True∧(((nums.length : Nat) : Int) != 2) = true)∧T7 True)) (by kernel_rfl)
      ⟨oK,oK,⟨oK,(by exact bne_iff_ne.2 (by omega))⟩,oK,oK,oK,oK,oK,oK,oK,oK⟩ ?_
    refine Ev.cond true rfl (fun _ => ?_) (fun h => (by cases h))
    refine Ev.seq ?_
    refine Ev.reg [] [8,9] (st' := ⟨yh8,[]⟩)
      (p := T2 True) (by kernel_rfl)
      ⟨oK,oK,oK⟩ ?_
    refine Ev.ret ?_
    refine ⟨⟨oK,oK,oK⟩,(?_ : (0 : Int) = (applyV 2 ws xs nums)∧(1 : Int) = (applyE 2 ws xs nums)∧True),.inr ⟨oK,oK,oK⟩⟩
    exact ⟨(ap_no (ap_n hx)).1.symm,(ap_no (ap_n hx)).2.symm,oK⟩
  · skip
    refine Ev.reg [(2,.val (dB false)),(8,.val (dB true))] [0,1,2,3,25] (st' := ⟨[(0,(i6 2)),(1,(LI ws)),(2,(LI xs)),(3,(LI nums)),(25,(dB true))],[]⟩)
      (p := T2 ((True∧(((nums.length : Nat) : Int) != 2) = false)∧T5 ((True∧(((xs.length : Nat) : Int) != ((ws.length : Nat) : Int)) = true)∧True∧True))) (by kernel_rfl)
      ⟨oK,oK,⟨oK,(by rw [hx.1]; rfl)⟩,oK,oK,oK,oK,oK,⟨oK,(by exact bne_iff_ne.2 (by omega))⟩,oK,oK⟩ ?_
    refine Ev.cond true rfl (fun _ => ?_) (fun h => (by cases h))
    refine Ev.seq ?_
    refine Ev.reg [] [8,9] (st' := ⟨yh8,[]⟩)
      (p := T2 True) (by kernel_rfl)
      ⟨oK,oK,oK⟩ ?_
    refine Ev.ret ?_
    refine ⟨⟨oK,oK,oK⟩,(?_ : (0 : Int) = (applyV 2 ws xs nums)∧(1 : Int) = (applyE 2 ws xs nums)∧True),.inr ⟨oK,oK,oK⟩⟩
    exact ⟨(ap_no (ap_l hx.2)).1.symm,(ap_no (ap_l hx.2)).2.symm,oK⟩
  · skip
    refine Ev.reg [(2,.val (dB false)),(8,.val (dB false))] [0,1,2,3,25] (st' := ⟨[(0,(i6 2)),(1,(LI ws)),(2,(LI xs)),(3,(LI nums)),(25,(dB false))],[]⟩)
      (p := T2 ((True∧(((nums.length : Nat) : Int) != 2) = false)∧T5 ((True∧(((xs.length : Nat) : Int) != ((ws.length : Nat) : Int)) = false)∧True∧True))) (by kernel_rfl)
      ⟨oK,oK,⟨oK,(by rw [hx.1]; rfl)⟩,oK,oK,oK,oK,oK,⟨oK,(by rw [hx.2]; simp)⟩,oK,oK⟩ ?_
    refine Ev.cond false rfl (fun h => (by cases h)) (fun _ => ?_)
    refine Ev.skip ?_
    refine Ev.seq ?_
    refine Ev.draw 10 [false,false,false,false,false,false,false,false,false,false] [] [0,1,2,10] (st' := ⟨[(0,(i6 2)),(1,(LI ws)),(2,(LI xs)),(10,yh30)],[(yh0 ws xs nums)]⟩)
      (p := (T3 ((0 ≤ (0 : Int)∧0 < (nums.length : Int))∧T2 ((0 ≤ (1 : Int)∧1 < (nums.length : Int))∧T3 True)))∧(True∧True)) (by kernel_rfl) (by kernel_rfl)
      ⟨⟨oK,oK,oK,(by first | omega | (simp; first | done | omega)),oK,oK,(by first | omega | (simp; first | done | omega)),oK,oK,oK,oK⟩,⟨oK,oK⟩⟩ ?_
    refine Ev.seq ?_
    rcases ok3 2 ws (nums.getD 0 0) (nums.getD 1 0) with ⟨hb,h⟩ | ⟨hb,hv,h⟩ | h
    · skip
      refine Ev.reg [(2,.call none true yh21)] [1,2,10,11,13] (st' := ⟨(yh5 ws xs),(yh29 ws xs nums)⟩)
        (p := T2 (callOb Try.prog 27 [(yh0 ws xs nums)] [(i6 2),(yh1 ws xs nums)] none true yh21∧T8 True)) (by kernel_rfl)
        ⟨oK,oK,(width_bad_2 _ _ _ _ hwl hb),oK,oK,oK,oK,oK,oK,oK,oK,oK⟩ ?_
      refine Ev.seq ?_
      refine Ev.seq ?_
      refine Ev.reg [] [1,2,10,11,43] (st' := ⟨(yh6 ws xs),(yh29 ws xs nums)⟩)
        (p := T2 True) (by kernel_rfl)
        ⟨oK,oK,oK⟩ ?_
      refine Ev.cond true rfl (fun _ => ?_) (fun h => (by cases h))
      refine Ev.seq ?_
      refine Ev.reg [] [8,9] (st' := ⟨yh8,(yh29 ws xs nums)⟩)
        (p := T2 True) (by kernel_rfl)
        ⟨oK,oK,oK⟩ ?_
      refine Ev.ret ?_
      refine ⟨⟨oK,oK,oK⟩,(?_ : (0 : Int) = (applyV 2 ws xs nums)∧(1 : Int) = (applyE 2 ws xs nums)∧True),.inr ⟨oK,oK,oK⟩⟩
      exact ⟨(ap_no (ap_bad h)).1.symm,(ap_no (ap_bad h)).2.symm,oK⟩
    · skip
      refine Ev.reg [(2,.call none true (.tup [(.agg yh13),(i6 (wvF 2 ws (nums.getD 0 0) (nums.getD 1 0))),(dB false)]))] [1,2,10,11,13] (st' := ⟨(yh5 ws xs),(yh36 ws xs nums)⟩)
        (p := T2 (callOb Try.prog 27 [(yh0 ws xs nums)] [(i6 2),(yh1 ws xs nums)] none true (.tup [(.agg yh13),(i6 (wvF 2 ws (nums.getD 0 0) (nums.getD 1 0))),(dB false)])∧T8 True)) (by kernel_rfl)
        ⟨oK,oK,(width_wv_2 _ _ _ _ hwl hb hv),oK,oK,oK,oK,oK,oK,oK,oK,oK⟩ ?_
      refine Ev.seq ?_
      refine Ev.seq ?_
      refine Ev.reg [] [1,2,10,11,43] (st' := ⟨(yh6 ws xs),(yh36 ws xs nums)⟩)
        (p := T2 True) (by kernel_rfl)
        ⟨oK,oK,oK⟩ ?_
      refine Ev.cond true rfl (fun _ => ?_) (fun h => (by cases h))
      refine Ev.seq ?_
      refine Ev.reg [] [8,9] (st' := ⟨yh8,(yh36 ws xs nums)⟩)
        (p := T2 True) (by kernel_rfl)
        ⟨oK,oK,oK⟩ ?_
      refine Ev.ret ?_
      refine ⟨⟨oK,oK,oK⟩,(?_ : (0 : Int) = (applyV 2 ws xs nums)∧(1 : Int) = (applyE 2 ws xs nums)∧True),.inr ⟨oK,oK,oK⟩⟩
      exact ⟨(ap_no (ap_bad h)).1.symm,(ap_no (ap_bad h)).2.symm,oK⟩
    · skip
      refine Ev.reg [(2,.call none true (.tup [(.agg yh13),(i6 (wvF 2 ws (nums.getD 0 0) (nums.getD 1 0))),(dB true)]))] [1,2,10,11,13] (st' := ⟨(yh23 ws xs),(yh36 ws xs nums)⟩)
        (p := T2 (callOb Try.prog 27 [(yh0 ws xs nums)] [(i6 2),(yh1 ws xs nums)] none true (.tup [(.agg yh13),(i6 (wvF 2 ws (nums.getD 0 0) (nums.getD 1 0))),(dB true)])∧T8 True)) (by kernel_rfl)
        ⟨oK,oK,(width_good_2 _ _ _ _ hwl h),oK,oK,oK,oK,oK,oK,oK,oK,oK⟩ ?_
      refine Ev.seq ?_
      refine Ev.seq ?_
      refine Ev.reg [] [1,2,10,11,43] (st' := ⟨(yh22 ws xs),(yh36 ws xs nums)⟩)
        (p := T2 True) (by kernel_rfl)
        ⟨oK,oK,oK⟩ ?_
      refine Ev.cond false rfl (fun h => (by cases h)) (fun _ => ?_)
      refine Ev.skip ?_
      refine Ev.seq ?_
      refine Ev.seq ?_
      refine Ev.reg [] [1,10,11,44,45,46] (st' := ⟨(yh20 ws xs),(yh36 ws xs nums)⟩)
        (p := T3 True) (by kernel_rfl)
        ⟨oK,oK,oK,oK⟩ ?_
      refine Ev.block ?_
      refine Ev.loop [1,10,11,44,45,46] 2 (fun (i : Nat) => ⟨(yh11 ws xs i),(yh36 ws xs nums)⟩) (fun (i : Nat) => i ≤ xs.length∧∀ j,j < i → 0 ≤ xs.getD j 0∧xs.getD j 0 ≤ maskF (ws.getD j 0)) (fun (i : Nat) => xs.length - i) 0 (by kernel_rfl) (⟨by omega,fun j hj => by omega⟩) ?_
      rintro i hinv
      have hinv : i ≤ xs.length∧∀ j,j < i → 0 ≤ xs.getD j 0∧xs.getD j 0 ≤ maskF (ws.getD j 0) := hinv
      obtain ⟨hi,hall⟩ := hinv
      refine Ev.seq ?_
      refine Ev.reg [] [1,10,11,44,45,46,47] (st' := ⟨[(1,(LI ws)),(10,yh30),(11,yh33),(44,(LI xs)),(45,(yh7 xs)),(46,(yh31 i)),(47,(dB (decide (((i : Nat) : Int) < ((xs.length : Nat) : Int)))))],(yh36 ws xs nums)⟩)
        (p := True∧True) (by kernel_rfl)
        ⟨oK,oK⟩ ?_
      refine Ev.seq ?_
      refine Ev.cond _ rfl (fun hc47 => ?_) (fun hc47 => ?_)
      · try simp only [decide_eq_true_eq,decide_eq_false_iff_not,beq_iff_eq,bne_iff_ne,ne_eq,beq_eq_false_iff_ne,bne_eq_false_iff_eq,Bool.not_eq_true,Bool.not_eq_false,Bool.not_eq_true',Bool.not_eq_false',Bool.not_not,gt_iff_lt,ge_iff_le,Nat.not_lt,Int.not_lt,Int.not_le] at hc47
        refine Ev.skip ?_
        refine Ev.seq ?_
        refine Ev.block ?_
        refine Ev.seq ?_
        refine Ev.reg [] [1,10,11,14,15,44,45,46] (st' := ⟨(yh2 ws i xs),(yh36 ws xs nums)⟩)
          (p := True∧(0 ≤ ((i : Nat) : Int)∧((i : Nat) : Int) < (xs.length : Int))∧T3 True) (by kernel_rfl)
          ⟨oK,(by first | omega | (simp; first | done | omega)),oK,oK,oK,oK⟩ ?_
        refine Ev.seq ?_
        rcases Int.lt_or_le (xs.getD i 0) 0 with hn | hn
        · skip
          refine Ev.reg [(1,.val (dB true))] [1,10,11,44,45,46,61] (st' := ⟨(yh9 ws xs i),(yh36 ws xs nums)⟩)
            (p := True∧(True∧(decide ((xs.getD i 0) < 0)) = true)∧T9 True) (by kernel_rfl)
            ⟨oK,⟨oK,(by simpa using hn)⟩,oK,oK,oK,oK,oK,oK,oK,oK,oK,oK⟩ ?_
          refine Ev.cond true rfl (fun _ => ?_) (fun h => (by cases h))
          refine Ev.seq ?_
          refine Ev.reg [] [8,9] (st' := ⟨yh8,(yh36 ws xs nums)⟩)
            (p := T2 True) (by kernel_rfl)
            ⟨oK,oK,oK⟩ ?_
          refine Ev.ret ?_
          refine ⟨⟨oK,oK,oK⟩,(?_ : (0 : Int) = (applyV 2 ws xs nums)∧(1 : Int) = (applyE 2 ws xs nums)∧True),.inr ⟨oK,oK,oK⟩⟩
          exact ⟨(ap_no (ap_in (i := i) (by omega) (.inl hn))).1.symm,(ap_no (ap_in (i := i) (by omega) (.inl hn))).2.symm,oK⟩
        · skip
          refine Ev.reg [(1,.val (dB false)),(8,.call none false (yh32 ws i))] [1,10,11,44,45,46,61] (st' := ⟨[(1,(LI ws)),(10,yh30),(11,yh33),(44,(LI xs)),(45,(yh7 xs)),(46,(yh31 i)),(61,(dB (decide ((xs.getD i 0) > (maskF (ws.getD i 0))))))],(yh36 ws xs nums)⟩)
            (p := True∧(True∧(decide ((xs.getD i 0) < 0)) = false)∧T4 ((0 ≤ ((i : Nat) : Int)∧((i : Nat) : Int) < (ws.length : Int))∧True∧callOb Try.prog 14 (yh36 ws xs nums) [(i6 (ws.getD i 0))] none false (yh32 ws i)∧T2 True)) (by kernel_rfl)
            ⟨oK,⟨oK,(by simpa using hn)⟩,oK,oK,oK,oK,(by first | omega | (simp; first | done | omega)),oK,(mask_ok _),oK,oK,oK⟩ ?_
          refine Ev.cond _ rfl (fun hc61 => ?_) (fun hc61 => ?_)
          · try simp only [decide_eq_true_eq,decide_eq_false_iff_not,beq_iff_eq,bne_iff_ne,ne_eq,beq_eq_false_iff_ne,bne_eq_false_iff_eq,Bool.not_eq_true,Bool.not_eq_false,Bool.not_eq_true',Bool.not_eq_false',Bool.not_not,gt_iff_lt,ge_iff_le,Nat.not_lt,Int.not_lt,Int.not_le] at hc61
            refine Ev.seq ?_
            refine Ev.reg [] [8,9] (st' := ⟨yh8,(yh36 ws xs nums)⟩)
              (p := T2 True) (by kernel_rfl)
              ⟨oK,oK,oK⟩ ?_
            refine Ev.ret ?_
            refine ⟨⟨oK,oK,oK⟩,(?_ : (0 : Int) = (applyV 2 ws xs nums)∧(1 : Int) = (applyE 2 ws xs nums)∧True),.inr ⟨oK,oK,oK⟩⟩
            exact ⟨(ap_no (ap_in (i := i) (by omega) (.inr (by omega)))).1.symm,(ap_no (ap_in (i := i) (by omega) (.inr (by omega)))).2.symm,oK⟩
          · try simp only [decide_eq_true_eq,decide_eq_false_iff_not,beq_iff_eq,bne_iff_ne,ne_eq,beq_eq_false_iff_ne,bne_eq_false_iff_eq,Bool.not_eq_true,Bool.not_eq_false,Bool.not_eq_true',Bool.not_eq_false',Bool.not_not,gt_iff_lt,ge_iff_le,Nat.not_lt,Int.not_lt,Int.not_le] at hc61
            refine Ev.skip ?_
            refine Ev.reg [(0,.val (yh34 i))] [1,10,11,44,45,46] (st' := ⟨(yh10 ws xs i),(yh36 ws xs nums)⟩)
              (p := (True∧(IntKind.wrap .i64 (((i : Nat) : Int) + 1)) = ((i + 1 : Nat) : Int))∧True∧True) (by kernel_rfl)
              ⟨⟨oK,(w64n (by first | rfl | simp | omega) (by first | omega | (simp; first | done | omega)))⟩,oK,oK⟩ ?_
            refine ⟨i + 1,by kernel_rfl,(?_ : (i + 1) ≤ xs.length∧∀ j,j < (i + 1) → 0 ≤ xs.getD j 0∧xs.getD j 0 ≤ maskF (ws.getD j 0)),(?_ : xs.length - (i + 1) < xs.length - i)⟩
            · exact ⟨by omega,lt_more hall ⟨by omega,by omega⟩⟩
            · omega
      · try simp only [decide_eq_true_eq,decide_eq_false_iff_not,beq_iff_eq,bne_iff_ne,ne_eq,beq_eq_false_iff_ne,bne_eq_false_iff_eq,Bool.not_eq_true,Bool.not_eq_false,Bool.not_eq_true',Bool.not_eq_false',Bool.not_not,gt_iff_lt,ge_iff_le,Nat.not_lt,Int.not_lt,Int.not_le] at hc47
        refine Ev.exit ?_
        refine Ev.seq ?_
        have hin : inF ws xs = true := in_all (fun j hj => hall j (by omega))
        obtain ⟨hl0,hf,-⟩ := ok_yes h
        have hA : arityF 2 = 1 := by decide
        rw [hA] at hl0
        refine Ev.reg [(3,.call none false (i6 (avF 2 ws xs (nums.getD 0 0) (nums.getD 1 0))))] [8,9] (st' := ⟨[(8,(i6 (avF 2 ws xs (nums.getD 0 0) (nums.getD 1 0)))),(9,(i6 0))],(yh36 ws xs nums)⟩)
          (p := T3 (callOb Try.prog 41 (yh36 ws xs nums) [(yh1 ws xs nums)] none false (i6 (avF 2 ws xs (nums.getD 0 0) (nums.getD 1 0)))∧T2 True)) (by kernel_rfl)
          ⟨oK,oK,oK,(not_ok _ _ _ _ (by omega) (by assumption) (by omega) (by assumption)),oK,oK,oK⟩ ?_
        refine Ev.ret ?_
        refine ⟨⟨oK,oK,oK⟩,(?_ : (avF 2 ws xs (nums.getD 0 0) (nums.getD 1 0)) = (applyV 2 ws xs nums)∧(0 : Int) = (applyE 2 ws xs nums)∧True),.inr ⟨oK,oK,oK⟩⟩
        exact ⟨(ap_yes hx.1 hx.2 h hin).1.symm,(ap_yes hx.1 hx.2 h hin).2.symm,oK⟩

set_option maxRecDepth 100000 in
theorem Apply_3 (ws xs nums : List Int) (hwl : ws.length ≤ 9223372036854775807) (hxl : xs.length ≤ 9223372036854775807) : CallOk Try.prog 12 [(i6 3),(LI ws),(LI xs),(LI nums)] [] false (.tup [(i6 (applyV 3 ws xs nums)),(i6 (applyE 3 ws xs nums))]) [] := by
  refine CallOk.of_ev Try.func12 rfl rfl rfl ?_
  rintro ⟨_,W,S0,_,susp,_⟩ rfl rfl rfl
  refine Ev.seq ?_
  refine Ev.reg [] [0,1,2,3] (st' := ⟨[(0,(i6 3)),(1,(LI ws)),(2,(LI xs)),(3,(LI nums))],[]⟩)
    (p := T2 True) (by kernel_rfl)
    ⟨oK,oK,oK⟩ ?_
  refine Ev.seq ?_
  refine Ev.seq ?_
  rcases (show nums.length ≠ 2 ∨ (nums.length = 2∧xs.length ≠ ws.length) ∨ (nums.length = 2∧xs.length = ws.length) from by omega) with hx | hx | hx
  · skip
    refine Ev.reg [(2,.val (dB true))] [0,1,2,3,25] (st' := ⟨[(0,(i6 3)),(1,(LI ws)),(2,(LI xs)),(3,(LI nums)),(25,(dB true))],[]⟩)
      (p := T2 ((True∧(((nums.length : Nat) : Int) != 2) = true)∧T7 True)) (by kernel_rfl)
      ⟨oK,oK,⟨oK,(by exact bne_iff_ne.2 (by omega))⟩,oK,oK,oK,oK,oK,oK,oK,oK⟩ ?_
    refine Ev.cond true rfl (fun _ => ?_) (fun h => (by cases h))
    refine Ev.seq ?_
    refine Ev.reg [] [8,9] (st' := ⟨yh8,[]⟩)
      (p := T2 True) (by kernel_rfl)
      ⟨oK,oK,oK⟩ ?_
    refine Ev.ret ?_
    refine ⟨⟨oK,oK,oK⟩,(?_ : (0 : Int) = (applyV 3 ws xs nums)∧(1 : Int) = (applyE 3 ws xs nums)∧True),.inr ⟨oK,oK,oK⟩⟩
    exact ⟨(ap_no (ap_n hx)).1.symm,(ap_no (ap_n hx)).2.symm,oK⟩
  · skip
    refine Ev.reg [(2,.val (dB false)),(8,.val (dB true))] [0,1,2,3,25] (st' := ⟨[(0,(i6 3)),(1,(LI ws)),(2,(LI xs)),(3,(LI nums)),(25,(dB true))],[]⟩)
      (p := T2 ((True∧(((nums.length : Nat) : Int) != 2) = false)∧T5 ((True∧(((xs.length : Nat) : Int) != ((ws.length : Nat) : Int)) = true)∧True∧True))) (by kernel_rfl)
      ⟨oK,oK,⟨oK,(by rw [hx.1]; rfl)⟩,oK,oK,oK,oK,oK,⟨oK,(by exact bne_iff_ne.2 (by omega))⟩,oK,oK⟩ ?_
    refine Ev.cond true rfl (fun _ => ?_) (fun h => (by cases h))
    refine Ev.seq ?_
    refine Ev.reg [] [8,9] (st' := ⟨yh8,[]⟩)
      (p := T2 True) (by kernel_rfl)
      ⟨oK,oK,oK⟩ ?_
    refine Ev.ret ?_
    refine ⟨⟨oK,oK,oK⟩,(?_ : (0 : Int) = (applyV 3 ws xs nums)∧(1 : Int) = (applyE 3 ws xs nums)∧True),.inr ⟨oK,oK,oK⟩⟩
    exact ⟨(ap_no (ap_l hx.2)).1.symm,(ap_no (ap_l hx.2)).2.symm,oK⟩
  · skip
    refine Ev.reg [(2,.val (dB false)),(8,.val (dB false))] [0,1,2,3,25] (st' := ⟨[(0,(i6 3)),(1,(LI ws)),(2,(LI xs)),(3,(LI nums)),(25,(dB false))],[]⟩)
      (p := T2 ((True∧(((nums.length : Nat) : Int) != 2) = false)∧T5 ((True∧(((xs.length : Nat) : Int) != ((ws.length : Nat) : Int)) = false)∧True∧True))) (by kernel_rfl)
      ⟨oK,oK,⟨oK,(by rw [hx.1]; rfl)⟩,oK,oK,oK,oK,oK,⟨oK,(by rw [hx.2]; simp)⟩,oK,oK⟩ ?_
    refine Ev.cond false rfl (fun h => (by cases h)) (fun _ => ?_)
    refine Ev.skip ?_
    refine Ev.seq ?_
    refine Ev.draw 10 [false,false,false,false,false,false,false,false,false,false] [] [0,1,2,10] (st' := ⟨[(0,(i6 3)),(1,(LI ws)),(2,(LI xs)),(10,yh30)],[(yh0 ws xs nums)]⟩)
      (p := (T3 ((0 ≤ (0 : Int)∧0 < (nums.length : Int))∧T2 ((0 ≤ (1 : Int)∧1 < (nums.length : Int))∧T3 True)))∧(True∧True)) (by kernel_rfl) (by kernel_rfl)
      ⟨⟨oK,oK,oK,(by first | omega | (simp; first | done | omega)),oK,oK,(by first | omega | (simp; first | done | omega)),oK,oK,oK,oK⟩,⟨oK,oK⟩⟩ ?_
    refine Ev.seq ?_
    rcases ok3 3 ws (nums.getD 0 0) (nums.getD 1 0) with ⟨hb,h⟩ | ⟨hb,hv,h⟩ | h
    · skip
      refine Ev.reg [(2,.call none true yh21)] [1,2,10,11,13] (st' := ⟨(yh5 ws xs),(yh29 ws xs nums)⟩)
        (p := T2 (callOb Try.prog 27 [(yh0 ws xs nums)] [(i6 3),(yh1 ws xs nums)] none true yh21∧T8 True)) (by kernel_rfl)
        ⟨oK,oK,(width_bad_3 _ _ _ _ hwl hb),oK,oK,oK,oK,oK,oK,oK,oK,oK⟩ ?_
      refine Ev.seq ?_
      refine Ev.seq ?_
      refine Ev.reg [] [1,2,10,11,43] (st' := ⟨(yh6 ws xs),(yh29 ws xs nums)⟩)
        (p := T2 True) (by kernel_rfl)
        ⟨oK,oK,oK⟩ ?_
      refine Ev.cond true rfl (fun _ => ?_) (fun h => (by cases h))
      refine Ev.seq ?_
      refine Ev.reg [] [8,9] (st' := ⟨yh8,(yh29 ws xs nums)⟩)
        (p := T2 True) (by kernel_rfl)
        ⟨oK,oK,oK⟩ ?_
      refine Ev.ret ?_
      refine ⟨⟨oK,oK,oK⟩,(?_ : (0 : Int) = (applyV 3 ws xs nums)∧(1 : Int) = (applyE 3 ws xs nums)∧True),.inr ⟨oK,oK,oK⟩⟩
      exact ⟨(ap_no (ap_bad h)).1.symm,(ap_no (ap_bad h)).2.symm,oK⟩
    · skip
      refine Ev.reg [(2,.call none true (.tup [(.agg yh43),(i6 (wvF 3 ws (nums.getD 0 0) (nums.getD 1 0))),(dB false)]))] [1,2,10,11,13] (st' := ⟨(yh5 ws xs),(yh24 ws xs nums)⟩)
        (p := T2 (callOb Try.prog 27 [(yh0 ws xs nums)] [(i6 3),(yh1 ws xs nums)] none true (.tup [(.agg yh43),(i6 (wvF 3 ws (nums.getD 0 0) (nums.getD 1 0))),(dB false)])∧T8 True)) (by kernel_rfl)
        ⟨oK,oK,(width_wv_3 _ _ _ _ hwl hb hv),oK,oK,oK,oK,oK,oK,oK,oK,oK⟩ ?_
      refine Ev.seq ?_
      refine Ev.seq ?_
      refine Ev.reg [] [1,2,10,11,43] (st' := ⟨(yh6 ws xs),(yh24 ws xs nums)⟩)
        (p := T2 True) (by kernel_rfl)
        ⟨oK,oK,oK⟩ ?_
      refine Ev.cond true rfl (fun _ => ?_) (fun h => (by cases h))
      refine Ev.seq ?_
      refine Ev.reg [] [8,9] (st' := ⟨yh8,(yh24 ws xs nums)⟩)
        (p := T2 True) (by kernel_rfl)
        ⟨oK,oK,oK⟩ ?_
      refine Ev.ret ?_
      refine ⟨⟨oK,oK,oK⟩,(?_ : (0 : Int) = (applyV 3 ws xs nums)∧(1 : Int) = (applyE 3 ws xs nums)∧True),.inr ⟨oK,oK,oK⟩⟩
      exact ⟨(ap_no (ap_bad h)).1.symm,(ap_no (ap_bad h)).2.symm,oK⟩
    · skip
      refine Ev.reg [(2,.call none true (.tup [(.agg yh43),(i6 (wvF 3 ws (nums.getD 0 0) (nums.getD 1 0))),(dB true)]))] [1,2,10,11,13] (st' := ⟨(yh23 ws xs),(yh24 ws xs nums)⟩)
        (p := T2 (callOb Try.prog 27 [(yh0 ws xs nums)] [(i6 3),(yh1 ws xs nums)] none true (.tup [(.agg yh43),(i6 (wvF 3 ws (nums.getD 0 0) (nums.getD 1 0))),(dB true)])∧T8 True)) (by kernel_rfl)
        ⟨oK,oK,(width_good_3 _ _ _ _ hwl h),oK,oK,oK,oK,oK,oK,oK,oK,oK⟩ ?_
      refine Ev.seq ?_
      refine Ev.seq ?_
      refine Ev.reg [] [1,2,10,11,43] (st' := ⟨(yh22 ws xs),(yh24 ws xs nums)⟩)
        (p := T2 True) (by kernel_rfl)
        ⟨oK,oK,oK⟩ ?_
      refine Ev.cond false rfl (fun h => (by cases h)) (fun _ => ?_)
      refine Ev.skip ?_
      refine Ev.seq ?_
      refine Ev.seq ?_
      refine Ev.reg [] [1,10,11,44,45,46] (st' := ⟨(yh20 ws xs),(yh24 ws xs nums)⟩)
        (p := T3 True) (by kernel_rfl)
        ⟨oK,oK,oK,oK⟩ ?_
      refine Ev.block ?_
      refine Ev.loop [1,10,11,44,45,46] 2 (fun (i : Nat) => ⟨(yh11 ws xs i),(yh24 ws xs nums)⟩) (fun (i : Nat) => i ≤ xs.length∧∀ j,j < i → 0 ≤ xs.getD j 0∧xs.getD j 0 ≤ maskF (ws.getD j 0)) (fun (i : Nat) => xs.length - i) 0 (by kernel_rfl) (⟨by omega,fun j hj => by omega⟩) ?_
      rintro i hinv
      have hinv : i ≤ xs.length∧∀ j,j < i → 0 ≤ xs.getD j 0∧xs.getD j 0 ≤ maskF (ws.getD j 0) := hinv
      obtain ⟨hi,hall⟩ := hinv
      refine Ev.seq ?_
      refine Ev.reg [] [1,10,11,44,45,46,47] (st' := ⟨[(1,(LI ws)),(10,yh30),(11,yh33),(44,(LI xs)),(45,(yh7 xs)),(46,(yh31 i)),(47,(dB (decide (((i : Nat) : Int) < ((xs.length : Nat) : Int)))))],(yh24 ws xs nums)⟩)
        (p := True∧True) (by kernel_rfl)
        ⟨oK,oK⟩ ?_
      refine Ev.seq ?_
      refine Ev.cond _ rfl (fun hc47 => ?_) (fun hc47 => ?_)
      · try simp only [decide_eq_true_eq,decide_eq_false_iff_not,beq_iff_eq,bne_iff_ne,ne_eq,beq_eq_false_iff_ne,bne_eq_false_iff_eq,Bool.not_eq_true,Bool.not_eq_false,Bool.not_eq_true',Bool.not_eq_false',Bool.not_not,gt_iff_lt,ge_iff_le,Nat.not_lt,Int.not_lt,Int.not_le] at hc47
        refine Ev.skip ?_
        refine Ev.seq ?_
        refine Ev.block ?_
        refine Ev.seq ?_
        refine Ev.reg [] [1,10,11,14,15,44,45,46] (st' := ⟨(yh2 ws i xs),(yh24 ws xs nums)⟩)
          (p := True∧(0 ≤ ((i : Nat) : Int)∧((i : Nat) : Int) < (xs.length : Int))∧T3 True) (by kernel_rfl)
          ⟨oK,(by first | omega | (simp; first | done | omega)),oK,oK,oK,oK⟩ ?_
        refine Ev.seq ?_
        rcases Int.lt_or_le (xs.getD i 0) 0 with hn | hn
        · skip
          refine Ev.reg [(1,.val (dB true))] [1,10,11,44,45,46,61] (st' := ⟨(yh9 ws xs i),(yh24 ws xs nums)⟩)
            (p := True∧(True∧(decide ((xs.getD i 0) < 0)) = true)∧T9 True) (by kernel_rfl)
            ⟨oK,⟨oK,(by simpa using hn)⟩,oK,oK,oK,oK,oK,oK,oK,oK,oK,oK⟩ ?_
          refine Ev.cond true rfl (fun _ => ?_) (fun h => (by cases h))
          refine Ev.seq ?_
          refine Ev.reg [] [8,9] (st' := ⟨yh8,(yh24 ws xs nums)⟩)
            (p := T2 True) (by kernel_rfl)
            ⟨oK,oK,oK⟩ ?_
          refine Ev.ret ?_
          refine ⟨⟨oK,oK,oK⟩,(?_ : (0 : Int) = (applyV 3 ws xs nums)∧(1 : Int) = (applyE 3 ws xs nums)∧True),.inr ⟨oK,oK,oK⟩⟩
          exact ⟨(ap_no (ap_in (i := i) (by omega) (.inl hn))).1.symm,(ap_no (ap_in (i := i) (by omega) (.inl hn))).2.symm,oK⟩
        · skip
          refine Ev.reg [(1,.val (dB false)),(8,.call none false (yh32 ws i))] [1,10,11,44,45,46,61] (st' := ⟨[(1,(LI ws)),(10,yh30),(11,yh33),(44,(LI xs)),(45,(yh7 xs)),(46,(yh31 i)),(61,(dB (decide ((xs.getD i 0) > (maskF (ws.getD i 0))))))],(yh24 ws xs nums)⟩)
            (p := True∧(True∧(decide ((xs.getD i 0) < 0)) = false)∧T4 ((0 ≤ ((i : Nat) : Int)∧((i : Nat) : Int) < (ws.length : Int))∧True∧callOb Try.prog 14 (yh24 ws xs nums) [(i6 (ws.getD i 0))] none false (yh32 ws i)∧T2 True)) (by kernel_rfl)
            ⟨oK,⟨oK,(by simpa using hn)⟩,oK,oK,oK,oK,(by first | omega | (simp; first | done | omega)),oK,(mask_ok _),oK,oK,oK⟩ ?_
          refine Ev.cond _ rfl (fun hc61 => ?_) (fun hc61 => ?_)
          · try simp only [decide_eq_true_eq,decide_eq_false_iff_not,beq_iff_eq,bne_iff_ne,ne_eq,beq_eq_false_iff_ne,bne_eq_false_iff_eq,Bool.not_eq_true,Bool.not_eq_false,Bool.not_eq_true',Bool.not_eq_false',Bool.not_not,gt_iff_lt,ge_iff_le,Nat.not_lt,Int.not_lt,Int.not_le] at hc61
            refine Ev.seq ?_
            refine Ev.reg [] [8,9] (st' := ⟨yh8,(yh24 ws xs nums)⟩)
              (p := T2 True) (by kernel_rfl)
              ⟨oK,oK,oK⟩ ?_
            refine Ev.ret ?_
            refine ⟨⟨oK,oK,oK⟩,(?_ : (0 : Int) = (applyV 3 ws xs nums)∧(1 : Int) = (applyE 3 ws xs nums)∧True),.inr ⟨oK,oK,oK⟩⟩
            exact ⟨(ap_no (ap_in (i := i) (by omega) (.inr (by omega)))).1.symm,(ap_no (ap_in (i := i) (by omega) (.inr (by omega)))).2.symm,oK⟩
          · try simp only [decide_eq_true_eq,decide_eq_false_iff_not,beq_iff_eq,bne_iff_ne,ne_eq,beq_eq_false_iff_ne,bne_eq_false_iff_eq,Bool.not_eq_true,Bool.not_eq_false,Bool.not_eq_true',Bool.not_eq_false',Bool.not_not,gt_iff_lt,ge_iff_le,Nat.not_lt,Int.not_lt,Int.not_le] at hc61
            refine Ev.skip ?_
            refine Ev.reg [(0,.val (yh34 i))] [1,10,11,44,45,46] (st' := ⟨(yh10 ws xs i),(yh24 ws xs nums)⟩)
              (p := (True∧(IntKind.wrap .i64 (((i : Nat) : Int) + 1)) = ((i + 1 : Nat) : Int))∧True∧True) (by kernel_rfl)
              ⟨⟨oK,(w64n (by first | rfl | simp | omega) (by first | omega | (simp; first | done | omega)))⟩,oK,oK⟩ ?_
            refine ⟨i + 1,by kernel_rfl,(?_ : (i + 1) ≤ xs.length∧∀ j,j < (i + 1) → 0 ≤ xs.getD j 0∧xs.getD j 0 ≤ maskF (ws.getD j 0)),(?_ : xs.length - (i + 1) < xs.length - i)⟩
            · exact ⟨by omega,lt_more hall ⟨by omega,by omega⟩⟩
            · omega
      · try simp only [decide_eq_true_eq,decide_eq_false_iff_not,beq_iff_eq,bne_iff_ne,ne_eq,beq_eq_false_iff_ne,bne_eq_false_iff_eq,Bool.not_eq_true,Bool.not_eq_false,Bool.not_eq_true',Bool.not_eq_false',Bool.not_not,gt_iff_lt,ge_iff_le,Nat.not_lt,Int.not_lt,Int.not_le] at hc47
        refine Ev.exit ?_
        refine Ev.seq ?_
        have hin : inF ws xs = true := in_all (fun j hj => hall j (by omega))
        obtain ⟨hl0,hf,-⟩ := ok_yes h
        have hA : arityF 3 = 2 := by decide
        rw [hA] at hl0
        refine Ev.reg [(3,.call none false (i6 (avF 3 ws xs (nums.getD 0 0) (nums.getD 1 0))))] [8,9] (st' := ⟨[(8,(i6 (avF 3 ws xs (nums.getD 0 0) (nums.getD 1 0)))),(9,(i6 0))],(yh24 ws xs nums)⟩)
          (p := T3 (callOb Try.prog 44 (yh24 ws xs nums) [(yh1 ws xs nums)] none false (i6 (avF 3 ws xs (nums.getD 0 0) (nums.getD 1 0)))∧T2 True)) (by kernel_rfl)
          ⟨oK,oK,oK,(and_ok _ _ _ _ (by omega) (by assumption) (by omega) (by assumption)),oK,oK,oK⟩ ?_
        refine Ev.ret ?_
        refine ⟨⟨oK,oK,oK⟩,(?_ : (avF 3 ws xs (nums.getD 0 0) (nums.getD 1 0)) = (applyV 3 ws xs nums)∧(0 : Int) = (applyE 3 ws xs nums)∧True),.inr ⟨oK,oK,oK⟩⟩
        exact ⟨(ap_yes hx.1 hx.2 h hin).1.symm,(ap_yes hx.1 hx.2 h hin).2.symm,oK⟩

set_option maxRecDepth 100000 in
theorem Apply_4 (ws xs nums : List Int) (hwl : ws.length ≤ 9223372036854775807) (hxl : xs.length ≤ 9223372036854775807) : CallOk Try.prog 12 [(i6 4),(LI ws),(LI xs),(LI nums)] [] false (.tup [(i6 (applyV 4 ws xs nums)),(i6 (applyE 4 ws xs nums))]) [] := by
  refine CallOk.of_ev Try.func12 rfl rfl rfl ?_
  rintro ⟨_,W,S0,_,susp,_⟩ rfl rfl rfl
  refine Ev.seq ?_
  refine Ev.reg [] [0,1,2,3] (st' := ⟨[(0,(i6 4)),(1,(LI ws)),(2,(LI xs)),(3,(LI nums))],[]⟩)
    (p := T2 True) (by kernel_rfl)
    ⟨oK,oK,oK⟩ ?_
  refine Ev.seq ?_
  refine Ev.seq ?_
  rcases (show nums.length ≠ 2 ∨ (nums.length = 2∧xs.length ≠ ws.length) ∨ (nums.length = 2∧xs.length = ws.length) from by omega) with hx | hx | hx
  · skip
    refine Ev.reg [(2,.val (dB true))] [0,1,2,3,25] (st' := ⟨[(0,(i6 4)),(1,(LI ws)),(2,(LI xs)),(3,(LI nums)),(25,(dB true))],[]⟩)
      (p := T2 ((True∧(((nums.length : Nat) : Int) != 2) = true)∧T7 True)) (by kernel_rfl)
      ⟨oK,oK,⟨oK,(by exact bne_iff_ne.2 (by omega))⟩,oK,oK,oK,oK,oK,oK,oK,oK⟩ ?_
    refine Ev.cond true rfl (fun _ => ?_) (fun h => (by cases h))
    refine Ev.seq ?_
    refine Ev.reg [] [8,9] (st' := ⟨yh8,[]⟩)
      (p := T2 True) (by kernel_rfl)
      ⟨oK,oK,oK⟩ ?_
    refine Ev.ret ?_
    refine ⟨⟨oK,oK,oK⟩,(?_ : (0 : Int) = (applyV 4 ws xs nums)∧(1 : Int) = (applyE 4 ws xs nums)∧True),.inr ⟨oK,oK,oK⟩⟩
    exact ⟨(ap_no (ap_n hx)).1.symm,(ap_no (ap_n hx)).2.symm,oK⟩
  · skip
    refine Ev.reg [(2,.val (dB false)),(8,.val (dB true))] [0,1,2,3,25] (st' := ⟨[(0,(i6 4)),(1,(LI ws)),(2,(LI xs)),(3,(LI nums)),(25,(dB true))],[]⟩)
      (p := T2 ((True∧(((nums.length : Nat) : Int) != 2) = false)∧T5 ((True∧(((xs.length : Nat) : Int) != ((ws.length : Nat) : Int)) = true)∧True∧True))) (by kernel_rfl)
      ⟨oK,oK,⟨oK,(by rw [hx.1]; rfl)⟩,oK,oK,oK,oK,oK,⟨oK,(by exact bne_iff_ne.2 (by omega))⟩,oK,oK⟩ ?_
    refine Ev.cond true rfl (fun _ => ?_) (fun h => (by cases h))
    refine Ev.seq ?_
    refine Ev.reg [] [8,9] (st' := ⟨yh8,[]⟩)
      (p := T2 True) (by kernel_rfl)
      ⟨oK,oK,oK⟩ ?_
    refine Ev.ret ?_
    refine ⟨⟨oK,oK,oK⟩,(?_ : (0 : Int) = (applyV 4 ws xs nums)∧(1 : Int) = (applyE 4 ws xs nums)∧True),.inr ⟨oK,oK,oK⟩⟩
    exact ⟨(ap_no (ap_l hx.2)).1.symm,(ap_no (ap_l hx.2)).2.symm,oK⟩
  · skip
    refine Ev.reg [(2,.val (dB false)),(8,.val (dB false))] [0,1,2,3,25] (st' := ⟨[(0,(i6 4)),(1,(LI ws)),(2,(LI xs)),(3,(LI nums)),(25,(dB false))],[]⟩)
      (p := T2 ((True∧(((nums.length : Nat) : Int) != 2) = false)∧T5 ((True∧(((xs.length : Nat) : Int) != ((ws.length : Nat) : Int)) = false)∧True∧True))) (by kernel_rfl)
      ⟨oK,oK,⟨oK,(by rw [hx.1]; rfl)⟩,oK,oK,oK,oK,oK,⟨oK,(by rw [hx.2]; simp)⟩,oK,oK⟩ ?_
    refine Ev.cond false rfl (fun h => (by cases h)) (fun _ => ?_)
    refine Ev.skip ?_
    refine Ev.seq ?_
    refine Ev.draw 10 [false,false,false,false,false,false,false,false,false,false] [] [0,1,2,10] (st' := ⟨[(0,(i6 4)),(1,(LI ws)),(2,(LI xs)),(10,yh30)],[(yh0 ws xs nums)]⟩)
      (p := (T3 ((0 ≤ (0 : Int)∧0 < (nums.length : Int))∧T2 ((0 ≤ (1 : Int)∧1 < (nums.length : Int))∧T3 True)))∧(True∧True)) (by kernel_rfl) (by kernel_rfl)
      ⟨⟨oK,oK,oK,(by first | omega | (simp; first | done | omega)),oK,oK,(by first | omega | (simp; first | done | omega)),oK,oK,oK,oK⟩,⟨oK,oK⟩⟩ ?_
    refine Ev.seq ?_
    rcases ok3 4 ws (nums.getD 0 0) (nums.getD 1 0) with ⟨hb,h⟩ | ⟨hb,hv,h⟩ | h
    · skip
      refine Ev.reg [(2,.call none true yh21)] [1,2,10,11,13] (st' := ⟨(yh5 ws xs),(yh29 ws xs nums)⟩)
        (p := T2 (callOb Try.prog 27 [(yh0 ws xs nums)] [(i6 4),(yh1 ws xs nums)] none true yh21∧T8 True)) (by kernel_rfl)
        ⟨oK,oK,(width_bad_4 _ _ _ _ hwl hb),oK,oK,oK,oK,oK,oK,oK,oK,oK⟩ ?_
      refine Ev.seq ?_
      refine Ev.seq ?_
      refine Ev.reg [] [1,2,10,11,43] (st' := ⟨(yh6 ws xs),(yh29 ws xs nums)⟩)
        (p := T2 True) (by kernel_rfl)
        ⟨oK,oK,oK⟩ ?_
      refine Ev.cond true rfl (fun _ => ?_) (fun h => (by cases h))
      refine Ev.seq ?_
      refine Ev.reg [] [8,9] (st' := ⟨yh8,(yh29 ws xs nums)⟩)
        (p := T2 True) (by kernel_rfl)
        ⟨oK,oK,oK⟩ ?_
      refine Ev.ret ?_
      refine ⟨⟨oK,oK,oK⟩,(?_ : (0 : Int) = (applyV 4 ws xs nums)∧(1 : Int) = (applyE 4 ws xs nums)∧True),.inr ⟨oK,oK,oK⟩⟩
      exact ⟨(ap_no (ap_bad h)).1.symm,(ap_no (ap_bad h)).2.symm,oK⟩
    · skip
      refine Ev.reg [(2,.call none true (.tup [(.agg yh44),(i6 (wvF 4 ws (nums.getD 0 0) (nums.getD 1 0))),(dB false)]))] [1,2,10,11,13] (st' := ⟨(yh5 ws xs),(yh25 ws xs nums)⟩)
        (p := T2 (callOb Try.prog 27 [(yh0 ws xs nums)] [(i6 4),(yh1 ws xs nums)] none true (.tup [(.agg yh44),(i6 (wvF 4 ws (nums.getD 0 0) (nums.getD 1 0))),(dB false)])∧T8 True)) (by kernel_rfl)
        ⟨oK,oK,(width_wv_4 _ _ _ _ hwl hb hv),oK,oK,oK,oK,oK,oK,oK,oK,oK⟩ ?_
      refine Ev.seq ?_
      refine Ev.seq ?_
      refine Ev.reg [] [1,2,10,11,43] (st' := ⟨(yh6 ws xs),(yh25 ws xs nums)⟩)
        (p := T2 True) (by kernel_rfl)
        ⟨oK,oK,oK⟩ ?_
      refine Ev.cond true rfl (fun _ => ?_) (fun h => (by cases h))
      refine Ev.seq ?_
      refine Ev.reg [] [8,9] (st' := ⟨yh8,(yh25 ws xs nums)⟩)
        (p := T2 True) (by kernel_rfl)
        ⟨oK,oK,oK⟩ ?_
      refine Ev.ret ?_
      refine ⟨⟨oK,oK,oK⟩,(?_ : (0 : Int) = (applyV 4 ws xs nums)∧(1 : Int) = (applyE 4 ws xs nums)∧True),.inr ⟨oK,oK,oK⟩⟩
      exact ⟨(ap_no (ap_bad h)).1.symm,(ap_no (ap_bad h)).2.symm,oK⟩
    · skip
      refine Ev.reg [(2,.call none true (.tup [(.agg yh44),(i6 (wvF 4 ws (nums.getD 0 0) (nums.getD 1 0))),(dB true)]))] [1,2,10,11,13] (st' := ⟨(yh23 ws xs),(yh25 ws xs nums)⟩)
        (p := T2 (callOb Try.prog 27 [(yh0 ws xs nums)] [(i6 4),(yh1 ws xs nums)] none true (.tup [(.agg yh44),(i6 (wvF 4 ws (nums.getD 0 0) (nums.getD 1 0))),(dB true)])∧T8 True)) (by kernel_rfl)
        ⟨oK,oK,(width_good_4 _ _ _ _ hwl h),oK,oK,oK,oK,oK,oK,oK,oK,oK⟩ ?_
      refine Ev.seq ?_
      refine Ev.seq ?_
      refine Ev.reg [] [1,2,10,11,43] (st' := ⟨(yh22 ws xs),(yh25 ws xs nums)⟩)
        (p := T2 True) (by kernel_rfl)
        ⟨oK,oK,oK⟩ ?_
      refine Ev.cond false rfl (fun h => (by cases h)) (fun _ => ?_)
      refine Ev.skip ?_
      refine Ev.seq ?_
      refine Ev.seq ?_
      refine Ev.reg [] [1,10,11,44,45,46] (st' := ⟨(yh20 ws xs),(yh25 ws xs nums)⟩)
        (p := T3 True) (by kernel_rfl)
        ⟨oK,oK,oK,oK⟩ ?_
      refine Ev.block ?_
      refine Ev.loop [1,10,11,44,45,46] 2 (fun (i : Nat) => ⟨(yh11 ws xs i),(yh25 ws xs nums)⟩) (fun (i : Nat) => i ≤ xs.length∧∀ j,j < i → 0 ≤ xs.getD j 0∧xs.getD j 0 ≤ maskF (ws.getD j 0)) (fun (i : Nat) => xs.length - i) 0 (by kernel_rfl) (⟨by omega,fun j hj => by omega⟩) ?_
      rintro i hinv
      have hinv : i ≤ xs.length∧∀ j,j < i → 0 ≤ xs.getD j 0∧xs.getD j 0 ≤ maskF (ws.getD j 0) := hinv
      obtain ⟨hi,hall⟩ := hinv
      refine Ev.seq ?_
      refine Ev.reg [] [1,10,11,44,45,46,47] (st' := ⟨[(1,(LI ws)),(10,yh30),(11,yh33),(44,(LI xs)),(45,(yh7 xs)),(46,(yh31 i)),(47,(dB (decide (((i : Nat) : Int) < ((xs.length : Nat) : Int)))))],(yh25 ws xs nums)⟩)
        (p := True∧True) (by kernel_rfl)
        ⟨oK,oK⟩ ?_
      refine Ev.seq ?_
      refine Ev.cond _ rfl (fun hc47 => ?_) (fun hc47 => ?_)
      · try simp only [decide_eq_true_eq,decide_eq_false_iff_not,beq_iff_eq,bne_iff_ne,ne_eq,beq_eq_false_iff_ne,bne_eq_false_iff_eq,Bool.not_eq_true,Bool.not_eq_false,Bool.not_eq_true',Bool.not_eq_false',Bool.not_not,gt_iff_lt,ge_iff_le,Nat.not_lt,Int.not_lt,Int.not_le] at hc47
        refine Ev.skip ?_
        refine Ev.seq ?_
        refine Ev.block ?_
        refine Ev.seq ?_
        refine Ev.reg [] [1,10,11,14,15,44,45,46] (st' := ⟨(yh2 ws i xs),(yh25 ws xs nums)⟩)
          (p := True∧(0 ≤ ((i : Nat) : Int)∧((i : Nat) : Int) < (xs.length : Int))∧T3 True) (by kernel_rfl)
          ⟨oK,(by first | omega | (simp; first | done | omega)),oK,oK,oK,oK⟩ ?_
        refine Ev.seq ?_
        rcases Int.lt_or_le (xs.getD i 0) 0 with hn | hn
        · skip
          refine Ev.reg [(1,.val (dB true))] [1,10,11,44,45,46,61] (st' := ⟨(yh9 ws xs i),(yh25 ws xs nums)⟩)
            (p := True∧(True∧(decide ((xs.getD i 0) < 0)) = true)∧T9 True) (by kernel_rfl)
            ⟨oK,⟨oK,(by simpa using hn)⟩,oK,oK,oK,oK,oK,oK,oK,oK,oK,oK⟩ ?_
          refine Ev.cond true rfl (fun _ => ?_) (fun h => (by cases h))
          refine Ev.seq ?_
          refine Ev.reg [] [8,9] (st' := ⟨yh8,(yh25 ws xs nums)⟩)
            (p := T2 True) (by kernel_rfl)
            ⟨oK,oK,oK⟩ ?_
          refine Ev.ret ?_
          refine ⟨⟨oK,oK,oK⟩,(?_ : (0 : Int) = (applyV 4 ws xs nums)∧(1 : Int) = (applyE 4 ws xs nums)∧True),.inr ⟨oK,oK,oK⟩⟩
          exact ⟨(ap_no (ap_in (i := i) (by omega) (.inl hn))).1.symm,(ap_no (ap_in (i := i) (by omega) (.inl hn))).2.symm,oK⟩
        · skip
          refine Ev.reg [(1,.val (dB false)),(8,.call none false (yh32 ws i))] [1,10,11,44,45,46,61] (st' := ⟨[(1,(LI ws)),(10,yh30),(11,yh33),(44,(LI xs)),(45,(yh7 xs)),(46,(yh31 i)),(61,(dB (decide ((xs.getD i 0) > (maskF (ws.getD i 0))))))],(yh25 ws xs nums)⟩)
            (p := True∧(True∧(decide ((xs.getD i 0) < 0)) = false)∧T4 ((0 ≤ ((i : Nat) : Int)∧((i : Nat) : Int) < (ws.length : Int))∧True∧callOb Try.prog 14 (yh25 ws xs nums) [(i6 (ws.getD i 0))] none false (yh32 ws i)∧T2 True)) (by kernel_rfl)
            ⟨oK,⟨oK,(by simpa using hn)⟩,oK,oK,oK,oK,(by first | omega | (simp; first | done | omega)),oK,(mask_ok _),oK,oK,oK⟩ ?_
          refine Ev.cond _ rfl (fun hc61 => ?_) (fun hc61 => ?_)
          · try simp only [decide_eq_true_eq,decide_eq_false_iff_not,beq_iff_eq,bne_iff_ne,ne_eq,beq_eq_false_iff_ne,bne_eq_false_iff_eq,Bool.not_eq_true,Bool.not_eq_false,Bool.not_eq_true',Bool.not_eq_false',Bool.not_not,gt_iff_lt,ge_iff_le,Nat.not_lt,Int.not_lt,Int.not_le] at hc61
            refine Ev.seq ?_
            refine Ev.reg [] [8,9] (st' := ⟨yh8,(yh25 ws xs nums)⟩)
              (p := T2 True) (by kernel_rfl)
              ⟨oK,oK,oK⟩ ?_
            refine Ev.ret ?_
            refine ⟨⟨oK,oK,oK⟩,(?_ : (0 : Int) = (applyV 4 ws xs nums)∧(1 : Int) = (applyE 4 ws xs nums)∧True),.inr ⟨oK,oK,oK⟩⟩
            exact ⟨(ap_no (ap_in (i := i) (by omega) (.inr (by omega)))).1.symm,(ap_no (ap_in (i := i) (by omega) (.inr (by omega)))).2.symm,oK⟩
          · try simp only [decide_eq_true_eq,decide_eq_false_iff_not,beq_iff_eq,bne_iff_ne,ne_eq,beq_eq_false_iff_ne,bne_eq_false_iff_eq,Bool.not_eq_true,Bool.not_eq_false,Bool.not_eq_true',Bool.not_eq_false',Bool.not_not,gt_iff_lt,ge_iff_le,Nat.not_lt,Int.not_lt,Int.not_le] at hc61
            refine Ev.skip ?_
            refine Ev.reg [(0,.val (yh34 i))] [1,10,11,44,45,46] (st' := ⟨(yh10 ws xs i),(yh25 ws xs nums)⟩)
              (p := (True∧(IntKind.wrap .i64 (((i : Nat) : Int) + 1)) = ((i + 1 : Nat) : Int))∧True∧True) (by kernel_rfl)
              ⟨⟨oK,(w64n (by first | rfl | simp | omega) (by first | omega | (simp; first | done | omega)))⟩,oK,oK⟩ ?_
            refine ⟨i + 1,by kernel_rfl,(?_ : (i + 1) ≤ xs.length∧∀ j,j < (i + 1) → 0 ≤ xs.getD j 0∧xs.getD j 0 ≤ maskF (ws.getD j 0)),(?_ : xs.length - (i + 1) < xs.length - i)⟩
            · exact ⟨by omega,lt_more hall ⟨by omega,by omega⟩⟩
            · omega
      · try simp only [decide_eq_true_eq,decide_eq_false_iff_not,beq_iff_eq,bne_iff_ne,ne_eq,beq_eq_false_iff_ne,bne_eq_false_iff_eq,Bool.not_eq_true,Bool.not_eq_false,Bool.not_eq_true',Bool.not_eq_false',Bool.not_not,gt_iff_lt,ge_iff_le,Nat.not_lt,Int.not_lt,Int.not_le] at hc47
        refine Ev.exit ?_
        refine Ev.seq ?_
        have hin : inF ws xs = true := in_all (fun j hj => hall j (by omega))
        obtain ⟨hl0,hf,-⟩ := ok_yes h
        have hA : arityF 4 = 2 := by decide
        rw [hA] at hl0
        refine Ev.reg [(3,.call none false (i6 (avF 4 ws xs (nums.getD 0 0) (nums.getD 1 0))))] [8,9] (st' := ⟨[(8,(i6 (avF 4 ws xs (nums.getD 0 0) (nums.getD 1 0)))),(9,(i6 0))],(yh25 ws xs nums)⟩)
          (p := T3 (callOb Try.prog 45 (yh25 ws xs nums) [(yh1 ws xs nums)] none false (i6 (avF 4 ws xs (nums.getD 0 0) (nums.getD 1 0)))∧T2 True)) (by kernel_rfl)
          ⟨oK,oK,oK,(or_ok _ _ _ _ (by omega) (by assumption) (by omega) (by assumption)),oK,oK,oK⟩ ?_
        refine Ev.ret ?_
        refine ⟨⟨oK,oK,oK⟩,(?_ : (avF 4 ws xs (nums.getD 0 0) (nums.getD 1 0)) = (applyV 4 ws xs nums)∧(0 : Int) = (applyE 4 ws xs nums)∧True),.inr ⟨oK,oK,oK⟩⟩
        exact ⟨(ap_yes hx.1 hx.2 h hin).1.symm,(ap_yes hx.1 hx.2 h hin).2.symm,oK⟩

set_option maxRecDepth 100000 in
theorem Apply_5 (ws xs nums : List Int) (hwl : ws.length ≤ 9223372036854775807) (hxl : xs.length ≤ 9223372036854775807) : CallOk Try.prog 12 [(i6 5),(LI ws),(LI xs),(LI nums)] [] false (.tup [(i6 (applyV 5 ws xs nums)),(i6 (applyE 5 ws xs nums))]) [] := by
  refine CallOk.of_ev Try.func12 rfl rfl rfl ?_
  rintro ⟨_,W,S0,_,susp,_⟩ rfl rfl rfl
  refine Ev.seq ?_
  refine Ev.reg [] [0,1,2,3] (st' := ⟨[(0,(i6 5)),(1,(LI ws)),(2,(LI xs)),(3,(LI nums))],[]⟩)
    (p := T2 True) (by kernel_rfl)
    ⟨oK,oK,oK⟩ ?_
  refine Ev.seq ?_
  refine Ev.seq ?_
  rcases (show nums.length ≠ 2 ∨ (nums.length = 2∧xs.length ≠ ws.length) ∨ (nums.length = 2∧xs.length = ws.length) from by omega) with hx | hx | hx
  · skip
    refine Ev.reg [(2,.val (dB true))] [0,1,2,3,25] (st' := ⟨[(0,(i6 5)),(1,(LI ws)),(2,(LI xs)),(3,(LI nums)),(25,(dB true))],[]⟩)
      (p := T2 ((True∧(((nums.length : Nat) : Int) != 2) = true)∧T7 True)) (by kernel_rfl)
      ⟨oK,oK,⟨oK,(by exact bne_iff_ne.2 (by omega))⟩,oK,oK,oK,oK,oK,oK,oK,oK⟩ ?_
    refine Ev.cond true rfl (fun _ => ?_) (fun h => (by cases h))
    refine Ev.seq ?_
    refine Ev.reg [] [8,9] (st' := ⟨yh8,[]⟩)
      (p := T2 True) (by kernel_rfl)
      ⟨oK,oK,oK⟩ ?_
    refine Ev.ret ?_
    refine ⟨⟨oK,oK,oK⟩,(?_ : (0 : Int) = (applyV 5 ws xs nums)∧(1 : Int) = (applyE 5 ws xs nums)∧True),.inr ⟨oK,oK,oK⟩⟩
    exact ⟨(ap_no (ap_n hx)).1.symm,(ap_no (ap_n hx)).2.symm,oK⟩
  · skip
    refine Ev.reg [(2,.val (dB false)),(8,.val (dB true))] [0,1,2,3,25] (st' := ⟨[(0,(i6 5)),(1,(LI ws)),(2,(LI xs)),(3,(LI nums)),(25,(dB true))],[]⟩)
      (p := T2 ((True∧(((nums.length : Nat) : Int) != 2) = false)∧T5 ((True∧(((xs.length : Nat) : Int) != ((ws.length : Nat) : Int)) = true)∧True∧True))) (by kernel_rfl)
      ⟨oK,oK,⟨oK,(by rw [hx.1]; rfl)⟩,oK,oK,oK,oK,oK,⟨oK,(by exact bne_iff_ne.2 (by omega))⟩,oK,oK⟩ ?_
    refine Ev.cond true rfl (fun _ => ?_) (fun h => (by cases h))
    refine Ev.seq ?_
    refine Ev.reg [] [8,9] (st' := ⟨yh8,[]⟩)
      (p := T2 True) (by kernel_rfl)
      ⟨oK,oK,oK⟩ ?_
    refine Ev.ret ?_
    refine ⟨⟨oK,oK,oK⟩,(?_ : (0 : Int) = (applyV 5 ws xs nums)∧(1 : Int) = (applyE 5 ws xs nums)∧True),.inr ⟨oK,oK,oK⟩⟩
    exact ⟨(ap_no (ap_l hx.2)).1.symm,(ap_no (ap_l hx.2)).2.symm,oK⟩
  · skip
    refine Ev.reg [(2,.val (dB false)),(8,.val (dB false))] [0,1,2,3,25] (st' := ⟨[(0,(i6 5)),(1,(LI ws)),(2,(LI xs)),(3,(LI nums)),(25,(dB false))],[]⟩)
      (p := T2 ((True∧(((nums.length : Nat) : Int) != 2) = false)∧T5 ((True∧(((xs.length : Nat) : Int) != ((ws.length : Nat) : Int)) = false)∧True∧True))) (by kernel_rfl)
      ⟨oK,oK,⟨oK,(by rw [hx.1]; rfl)⟩,oK,oK,oK,oK,oK,⟨oK,(by rw [hx.2]; simp)⟩,oK,oK⟩ ?_
    refine Ev.cond false rfl (fun h => (by cases h)) (fun _ => ?_)
    refine Ev.skip ?_
    refine Ev.seq ?_
    refine Ev.draw 10 [false,false,false,false,false,false,false,false,false,false] [] [0,1,2,10] (st' := ⟨[(0,(i6 5)),(1,(LI ws)),(2,(LI xs)),(10,yh30)],[(yh0 ws xs nums)]⟩)
      (p := (T3 ((0 ≤ (0 : Int)∧0 < (nums.length : Int))∧T2 ((0 ≤ (1 : Int)∧1 < (nums.length : Int))∧T3 True)))∧(True∧True)) (by kernel_rfl) (by kernel_rfl)
      ⟨⟨oK,oK,oK,(by first | omega | (simp; first | done | omega)),oK,oK,(by first | omega | (simp; first | done | omega)),oK,oK,oK,oK⟩,⟨oK,oK⟩⟩ ?_
    refine Ev.seq ?_
    rcases ok3 5 ws (nums.getD 0 0) (nums.getD 1 0) with ⟨hb,h⟩ | ⟨hb,hv,h⟩ | h
    · skip
      refine Ev.reg [(2,.call none true yh21)] [1,2,10,11,13] (st' := ⟨(yh5 ws xs),(yh29 ws xs nums)⟩)
        (p := T2 (callOb Try.prog 27 [(yh0 ws xs nums)] [(i6 5),(yh1 ws xs nums)] none true yh21∧T8 True)) (by kernel_rfl)
        ⟨oK,oK,(width_bad_5 _ _ _ _ hwl hb),oK,oK,oK,oK,oK,oK,oK,oK,oK⟩ ?_
      refine Ev.seq ?_
      refine Ev.seq ?_
      refine Ev.reg [] [1,2,10,11,43] (st' := ⟨(yh6 ws xs),(yh29 ws xs nums)⟩)
        (p := T2 True) (by kernel_rfl)
        ⟨oK,oK,oK⟩ ?_
      refine Ev.cond true rfl (fun _ => ?_) (fun h => (by cases h))
      refine Ev.seq ?_
      refine Ev.reg [] [8,9] (st' := ⟨yh8,(yh29 ws xs nums)⟩)
        (p := T2 True) (by kernel_rfl)
        ⟨oK,oK,oK⟩ ?_
      refine Ev.ret ?_
      refine ⟨⟨oK,oK,oK⟩,(?_ : (0 : Int) = (applyV 5 ws xs nums)∧(1 : Int) = (applyE 5 ws xs nums)∧True),.inr ⟨oK,oK,oK⟩⟩
      exact ⟨(ap_no (ap_bad h)).1.symm,(ap_no (ap_bad h)).2.symm,oK⟩
    · skip
      refine Ev.reg [(2,.call none true (.tup [(.agg yh45),(i6 (wvF 5 ws (nums.getD 0 0) (nums.getD 1 0))),(dB false)]))] [1,2,10,11,13] (st' := ⟨(yh5 ws xs),(yh26 ws xs nums)⟩)
        (p := T2 (callOb Try.prog 27 [(yh0 ws xs nums)] [(i6 5),(yh1 ws xs nums)] none true (.tup [(.agg yh45),(i6 (wvF 5 ws (nums.getD 0 0) (nums.getD 1 0))),(dB false)])∧T8 True)) (by kernel_rfl)
        ⟨oK,oK,(width_wv_5 _ _ _ _ hwl hb hv),oK,oK,oK,oK,oK,oK,oK,oK,oK⟩ ?_
      refine Ev.seq ?_
      refine Ev.seq ?_
      refine Ev.reg [] [1,2,10,11,43] (st' := ⟨(yh6 ws xs),(yh26 ws xs nums)⟩)
        (p := T2 True) (by kernel_rfl)
        ⟨oK,oK,oK⟩ ?_
      refine Ev.cond true rfl (fun _ => ?_) (fun h => (by cases h))
      refine Ev.seq ?_
      refine Ev.reg [] [8,9] (st' := ⟨yh8,(yh26 ws xs nums)⟩)
        (p := T2 True) (by kernel_rfl)
        ⟨oK,oK,oK⟩ ?_
      refine Ev.ret ?_
      refine ⟨⟨oK,oK,oK⟩,(?_ : (0 : Int) = (applyV 5 ws xs nums)∧(1 : Int) = (applyE 5 ws xs nums)∧True),.inr ⟨oK,oK,oK⟩⟩
      exact ⟨(ap_no (ap_bad h)).1.symm,(ap_no (ap_bad h)).2.symm,oK⟩
    · skip
      refine Ev.reg [(2,.call none true (.tup [(.agg yh45),(i6 (wvF 5 ws (nums.getD 0 0) (nums.getD 1 0))),(dB true)]))] [1,2,10,11,13] (st' := ⟨(yh23 ws xs),(yh26 ws xs nums)⟩)
        (p := T2 (callOb Try.prog 27 [(yh0 ws xs nums)] [(i6 5),(yh1 ws xs nums)] none true (.tup [(.agg yh45),(i6 (wvF 5 ws (nums.getD 0 0) (nums.getD 1 0))),(dB true)])∧T8 True)) (by kernel_rfl)
        ⟨oK,oK,(width_good_5 _ _ _ _ hwl h),oK,oK,oK,oK,oK,oK,oK,oK,oK⟩ ?_
      refine Ev.seq ?_
      refine Ev.seq ?_
      refine Ev.reg [] [1,2,10,11,43] (st' := ⟨(yh22 ws xs),(yh26 ws xs nums)⟩)
        (p := T2 True) (by kernel_rfl)
        ⟨oK,oK,oK⟩ ?_
      refine Ev.cond false rfl (fun h => (by cases h)) (fun _ => ?_)
      refine Ev.skip ?_
      refine Ev.seq ?_
      refine Ev.seq ?_
      refine Ev.reg [] [1,10,11,44,45,46] (st' := ⟨(yh20 ws xs),(yh26 ws xs nums)⟩)
        (p := T3 True) (by kernel_rfl)
        ⟨oK,oK,oK,oK⟩ ?_
      refine Ev.block ?_
      refine Ev.loop [1,10,11,44,45,46] 2 (fun (i : Nat) => ⟨(yh11 ws xs i),(yh26 ws xs nums)⟩) (fun (i : Nat) => i ≤ xs.length∧∀ j,j < i → 0 ≤ xs.getD j 0∧xs.getD j 0 ≤ maskF (ws.getD j 0)) (fun (i : Nat) => xs.length - i) 0 (by kernel_rfl) (⟨by omega,fun j hj => by omega⟩) ?_
      rintro i hinv
      have hinv : i ≤ xs.length∧∀ j,j < i → 0 ≤ xs.getD j 0∧xs.getD j 0 ≤ maskF (ws.getD j 0) := hinv
      obtain ⟨hi,hall⟩ := hinv
      refine Ev.seq ?_
      refine Ev.reg [] [1,10,11,44,45,46,47] (st' := ⟨[(1,(LI ws)),(10,yh30),(11,yh33),(44,(LI xs)),(45,(yh7 xs)),(46,(yh31 i)),(47,(dB (decide (((i : Nat) : Int) < ((xs.length : Nat) : Int)))))],(yh26 ws xs nums)⟩)
        (p := True∧True) (by kernel_rfl)
        ⟨oK,oK⟩ ?_
      refine Ev.seq ?_
      refine Ev.cond _ rfl (fun hc47 => ?_) (fun hc47 => ?_)
      · try simp only [decide_eq_true_eq,decide_eq_false_iff_not,beq_iff_eq,bne_iff_ne,ne_eq,beq_eq_false_iff_ne,bne_eq_false_iff_eq,Bool.not_eq_true,Bool.not_eq_false,Bool.not_eq_true',Bool.not_eq_false',Bool.not_not,gt_iff_lt,ge_iff_le,Nat.not_lt,Int.not_lt,Int.not_le] at hc47
        refine Ev.skip ?_
        refine Ev.seq ?_
        refine Ev.block ?_
        refine Ev.seq ?_
        refine Ev.reg [] [1,10,11,14,15,44,45,46] (st' := ⟨(yh2 ws i xs),(yh26 ws xs nums)⟩)
          (p := True∧(0 ≤ ((i : Nat) : Int)∧((i : Nat) : Int) < (xs.length : Int))∧T3 True) (by kernel_rfl)
          ⟨oK,(by first | omega | (simp; first | done | omega)),oK,oK,oK,oK⟩ ?_
        refine Ev.seq ?_
        rcases Int.lt_or_le (xs.getD i 0) 0 with hn | hn
        · skip
          refine Ev.reg [(1,.val (dB true))] [1,10,11,44,45,46,61] (st' := ⟨(yh9 ws xs i),(yh26 ws xs nums)⟩)
            (p := True∧(True∧(decide ((xs.getD i 0) < 0)) = true)∧T9 True) (by kernel_rfl)
            ⟨oK,⟨oK,(by simpa using hn)⟩,oK,oK,oK,oK,oK,oK,oK,oK,oK,oK⟩ ?_
          refine Ev.cond true rfl (fun _ => ?_) (fun h => (by cases h))
          refine Ev.seq ?_
          refine Ev.reg [] [8,9] (st' := ⟨yh8,(yh26 ws xs nums)⟩)
            (p := T2 True) (by kernel_rfl)
            ⟨oK,oK,oK⟩ ?_
          refine Ev.ret ?_
          refine ⟨⟨oK,oK,oK⟩,(?_ : (0 : Int) = (applyV 5 ws xs nums)∧(1 : Int) = (applyE 5 ws xs nums)∧True),.inr ⟨oK,oK,oK⟩⟩
          exact ⟨(ap_no (ap_in (i := i) (by omega) (.inl hn))).1.symm,(ap_no (ap_in (i := i) (by omega) (.inl hn))).2.symm,oK⟩
        · skip
          refine Ev.reg [(1,.val (dB false)),(8,.call none false (yh32 ws i))] [1,10,11,44,45,46,61] (st' := ⟨[(1,(LI ws)),(10,yh30),(11,yh33),(44,(LI xs)),(45,(yh7 xs)),(46,(yh31 i)),(61,(dB (decide ((xs.getD i 0) > (maskF (ws.getD i 0))))))],(yh26 ws xs nums)⟩)
            (p := True∧(True∧(decide ((xs.getD i 0) < 0)) = false)∧T4 ((0 ≤ ((i : Nat) : Int)∧((i : Nat) : Int) < (ws.length : Int))∧True∧callOb Try.prog 14 (yh26 ws xs nums) [(i6 (ws.getD i 0))] none false (yh32 ws i)∧T2 True)) (by kernel_rfl)
            ⟨oK,⟨oK,(by simpa using hn)⟩,oK,oK,oK,oK,(by first | omega | (simp; first | done | omega)),oK,(mask_ok _),oK,oK,oK⟩ ?_
          refine Ev.cond _ rfl (fun hc61 => ?_) (fun hc61 => ?_)
          · try simp only [decide_eq_true_eq,decide_eq_false_iff_not,beq_iff_eq,bne_iff_ne,ne_eq,beq_eq_false_iff_ne,bne_eq_false_iff_eq,Bool.not_eq_true,Bool.not_eq_false,Bool.not_eq_true',Bool.not_eq_false',Bool.not_not,gt_iff_lt,ge_iff_le,Nat.not_lt,Int.not_lt,Int.not_le] at hc61
            refine Ev.seq ?_
            refine Ev.reg [] [8,9] (st' := ⟨yh8,(yh26 ws xs nums)⟩)
              (p := T2 True) (by kernel_rfl)
              ⟨oK,oK,oK⟩ ?_
            refine Ev.ret ?_
            refine ⟨⟨oK,oK,oK⟩,(?_ : (0 : Int) = (applyV 5 ws xs nums)∧(1 : Int) = (applyE 5 ws xs nums)∧True),.inr ⟨oK,oK,oK⟩⟩
            exact ⟨(ap_no (ap_in (i := i) (by omega) (.inr (by omega)))).1.symm,(ap_no (ap_in (i := i) (by omega) (.inr (by omega)))).2.symm,oK⟩
          · try simp only [decide_eq_true_eq,decide_eq_false_iff_not,beq_iff_eq,bne_iff_ne,ne_eq,beq_eq_false_iff_ne,bne_eq_false_iff_eq,Bool.not_eq_true,Bool.not_eq_false,Bool.not_eq_true',Bool.not_eq_false',Bool.not_not,gt_iff_lt,ge_iff_le,Nat.not_lt,Int.not_lt,Int.not_le] at hc61
            refine Ev.skip ?_
            refine Ev.reg [(0,.val (yh34 i))] [1,10,11,44,45,46] (st' := ⟨(yh10 ws xs i),(yh26 ws xs nums)⟩)
              (p := (True∧(IntKind.wrap .i64 (((i : Nat) : Int) + 1)) = ((i + 1 : Nat) : Int))∧True∧True) (by kernel_rfl)
              ⟨⟨oK,(w64n (by first | rfl | simp | omega) (by first | omega | (simp; first | done | omega)))⟩,oK,oK⟩ ?_
            refine ⟨i + 1,by kernel_rfl,(?_ : (i + 1) ≤ xs.length∧∀ j,j < (i + 1) → 0 ≤ xs.getD j 0∧xs.getD j 0 ≤ maskF (ws.getD j 0)),(?_ : xs.length - (i + 1) < xs.length - i)⟩
            · exact ⟨by omega,lt_more hall ⟨by omega,by omega⟩⟩
            · omega
      · try simp only [decide_eq_true_eq,decide_eq_false_iff_not,beq_iff_eq,bne_iff_ne,ne_eq,beq_eq_false_iff_ne,bne_eq_false_iff_eq,Bool.not_eq_true,Bool.not_eq_false,Bool.not_eq_true',Bool.not_eq_false',Bool.not_not,gt_iff_lt,ge_iff_le,Nat.not_lt,Int.not_lt,Int.not_le] at hc47
        refine Ev.exit ?_
        refine Ev.seq ?_
        have hin : inF ws xs = true := in_all (fun j hj => hall j (by omega))
        obtain ⟨hl0,hf,-⟩ := ok_yes h
        have hA : arityF 5 = 2 := by decide
        rw [hA] at hl0
        refine Ev.reg [(3,.call none false (i6 (avF 5 ws xs (nums.getD 0 0) (nums.getD 1 0))))] [8,9] (st' := ⟨[(8,(i6 (avF 5 ws xs (nums.getD 0 0) (nums.getD 1 0)))),(9,(i6 0))],(yh26 ws xs nums)⟩)
          (p := T3 (callOb Try.prog 46 (yh26 ws xs nums) [(yh1 ws xs nums)] none false (i6 (avF 5 ws xs (nums.getD 0 0) (nums.getD 1 0)))∧T2 True)) (by kernel_rfl)
          ⟨oK,oK,oK,(xor_ok _ _ _ _ (by omega) (by assumption) (by omega) (by assumption)),oK,oK,oK⟩ ?_
        refine Ev.ret ?_
        refine ⟨⟨oK,oK,oK⟩,(?_ : (avF 5 ws xs (nums.getD 0 0) (nums.getD 1 0)) = (applyV 5 ws xs nums)∧(0 : Int) = (applyE 5 ws xs nums)∧True),.inr ⟨oK,oK,oK⟩⟩
        exact ⟨(ap_yes hx.1 hx.2 h hin).1.symm,(ap_yes hx.1 hx.2 h hin).2.symm,oK⟩

set_option maxRecDepth 100000 in
theorem Apply_6 (ws xs nums : List Int) (hwl : ws.length ≤ 9223372036854775807) (hxl : xs.length ≤ 9223372036854775807) : CallOk Try.prog 12 [(i6 6),(LI ws),(LI xs),(LI nums)] [] false (.tup [(i6 (applyV 6 ws xs nums)),(i6 (applyE 6 ws xs nums))]) [] := by
  refine CallOk.of_ev Try.func12 rfl rfl rfl ?_
  rintro ⟨_,W,S0,_,susp,_⟩ rfl rfl rfl
  refine Ev.seq ?_
  refine Ev.reg [] [0,1,2,3] (st' := ⟨[(0,(i6 6)),(1,(LI ws)),(2,(LI xs)),(3,(LI nums))],[]⟩)
    (p := T2 True) (by kernel_rfl)
    ⟨oK,oK,oK⟩ ?_
  refine Ev.seq ?_
  refine Ev.seq ?_
  rcases (show nums.length ≠ 2 ∨ (nums.length = 2∧xs.length ≠ ws.length) ∨ (nums.length = 2∧xs.length = ws.length) from by omega) with hx | hx | hx
  · skip
    refine Ev.reg [(2,.val (dB true))] [0,1,2,3,25] (st' := ⟨[(0,(i6 6)),(1,(LI ws)),(2,(LI xs)),(3,(LI nums)),(25,(dB true))],[]⟩)
      (p := T2 ((True∧(((nums.length : Nat) : Int) != 2) = true)∧T7 True)) (by kernel_rfl)
      ⟨oK,oK,⟨oK,(by exact bne_iff_ne.2 (by omega))⟩,oK,oK,oK,oK,oK,oK,oK,oK⟩ ?_
    refine Ev.cond true rfl (fun _ => ?_) (fun h => (by cases h))
    refine Ev.seq ?_
    refine Ev.reg [] [8,9] (st' := ⟨yh8,[]⟩)
      (p := T2 True) (by kernel_rfl)
      ⟨oK,oK,oK⟩ ?_
    refine Ev.ret ?_
    refine ⟨⟨oK,oK,oK⟩,(?_ : (0 : Int) = (applyV 6 ws xs nums)∧(1 : Int) = (applyE 6 ws xs nums)∧True),.inr ⟨oK,oK,oK⟩⟩
    exact ⟨(ap_no (ap_n hx)).1.symm,(ap_no (ap_n hx)).2.symm,oK⟩
  · skip
    refine Ev.reg [(2,.val (dB false)),(8,.val (dB true))] [0,1,2,3,25] (st' := ⟨[(0,(i6 6)),(1,(LI ws)),(2,(LI xs)),(3,(LI nums)),(25,(dB true))],[]⟩)
      (p := T2 ((True∧(((nums.length : Nat) : Int) != 2) = false)∧T5 ((True∧(((xs.length : Nat) : Int) != ((ws.length : Nat) : Int)) = true)∧True∧True))) (by kernel_rfl)
      ⟨oK,oK,⟨oK,(by rw [hx.1]; rfl)⟩,oK,oK,oK,oK,oK,⟨oK,(by exact bne_iff_ne.2 (by omega))⟩,oK,oK⟩ ?_
    refine Ev.cond true rfl (fun _ => ?_) (fun h => (by cases h))
    refine Ev.seq ?_
    refine Ev.reg [] [8,9] (st' := ⟨yh8,[]⟩)
      (p := T2 True) (by kernel_rfl)
      ⟨oK,oK,oK⟩ ?_
    refine Ev.ret ?_
    refine ⟨⟨oK,oK,oK⟩,(?_ : (0 : Int) = (applyV 6 ws xs nums)∧(1 : Int) = (applyE 6 ws xs nums)∧True),.inr ⟨oK,oK,oK⟩⟩
    exact ⟨(ap_no (ap_l hx.2)).1.symm,(ap_no (ap_l hx.2)).2.symm,oK⟩
  · skip
    refine Ev.reg [(2,.val (dB false)),(8,.val (dB false))] [0,1,2,3,25] (st' := ⟨[(0,(i6 6)),(1,(LI ws)),(2,(LI xs)),(3,(LI nums)),(25,(dB false))],[]⟩)
      (p := T2 ((True∧(((nums.length : Nat) : Int) != 2) = false)∧T5 ((True∧(((xs.length : Nat) : Int) != ((ws.length : Nat) : Int)) = false)∧True∧True))) (by kernel_rfl)
      ⟨oK,oK,⟨oK,(by rw [hx.1]; rfl)⟩,oK,oK,oK,oK,oK,⟨oK,(by rw [hx.2]; simp)⟩,oK,oK⟩ ?_
    refine Ev.cond false rfl (fun h => (by cases h)) (fun _ => ?_)
    refine Ev.skip ?_
    refine Ev.seq ?_
    refine Ev.draw 10 [false,false,false,false,false,false,false,false,false,false] [] [0,1,2,10] (st' := ⟨[(0,(i6 6)),(1,(LI ws)),(2,(LI xs)),(10,yh30)],[(yh0 ws xs nums)]⟩)
      (p := (T3 ((0 ≤ (0 : Int)∧0 < (nums.length : Int))∧T2 ((0 ≤ (1 : Int)∧1 < (nums.length : Int))∧T3 True)))∧(True∧True)) (by kernel_rfl) (by kernel_rfl)
      ⟨⟨oK,oK,oK,(by first | omega | (simp; first | done | omega)),oK,oK,(by first | omega | (simp; first | done | omega)),oK,oK,oK,oK⟩,⟨oK,oK⟩⟩ ?_
    refine Ev.seq ?_
    rcases ok3 6 ws (nums.getD 0 0) (nums.getD 1 0) with ⟨hb,h⟩ | ⟨hb,hv,h⟩ | h
    · skip
      refine Ev.reg [(2,.call none true yh21)] [1,2,10,11,13] (st' := ⟨(yh5 ws xs),(yh29 ws xs nums)⟩)
        (p := T2 (callOb Try.prog 27 [(yh0 ws xs nums)] [(i6 6),(yh1 ws xs nums)] none true yh21∧T8 True)) (by kernel_rfl)
        ⟨oK,oK,(width_bad_6 _ _ _ _ hwl hb),oK,oK,oK,oK,oK,oK,oK,oK,oK⟩ ?_
      refine Ev.seq ?_
      refine Ev.seq ?_
      refine Ev.reg [] [1,2,10,11,43] (st' := ⟨(yh6 ws xs),(yh29 ws xs nums)⟩)
        (p := T2 True) (by kernel_rfl)
        ⟨oK,oK,oK⟩ ?_
      refine Ev.cond true rfl (fun _ => ?_) (fun h => (by cases h))
      refine Ev.seq ?_
      refine Ev.reg [] [8,9] (st' := ⟨yh8,(yh29 ws xs nums)⟩)
        (p := T2 True) (by kernel_rfl)
        ⟨oK,oK,oK⟩ ?_
      refine Ev.ret ?_
      refine ⟨⟨oK,oK,oK⟩,(?_ : (0 : Int) = (applyV 6 ws xs nums)∧(1 : Int) = (applyE 6 ws xs nums)∧True),.inr ⟨oK,oK,oK⟩⟩
      exact ⟨(ap_no (ap_bad h)).1.symm,(ap_no (ap_bad h)).2.symm,oK⟩
    · skip
      refine Ev.reg [(2,.call none true (.tup [(.agg yh46),(i6 (wvF 6 ws (nums.getD 0 0) (nums.getD 1 0))),(dB false)]))] [1,2,10,11,13] (st' := ⟨(yh5 ws xs),(yh27 ws xs nums)⟩)
        (p := T2 (callOb Try.prog 27 [(yh0 ws xs nums)] [(i6 6),(yh1 ws xs nums)] none true (.tup [(.agg yh46),(i6 (wvF 6 ws (nums.getD 0 0) (nums.getD 1 0))),(dB false)])∧T8 True)) (by kernel_rfl)
        ⟨oK,oK,(width_wv_6 _ _ _ _ hwl hb hv),oK,oK,oK,oK,oK,oK,oK,oK,oK⟩ ?_
      refine Ev.seq ?_
      refine Ev.seq ?_
      refine Ev.reg [] [1,2,10,11,43] (st' := ⟨(yh6 ws xs),(yh27 ws xs nums)⟩)
        (p := T2 True) (by kernel_rfl)
        ⟨oK,oK,oK⟩ ?_
      refine Ev.cond true rfl (fun _ => ?_) (fun h => (by cases h))
      refine Ev.seq ?_
      refine Ev.reg [] [8,9] (st' := ⟨yh8,(yh27 ws xs nums)⟩)
        (p := T2 True) (by kernel_rfl)
        ⟨oK,oK,oK⟩ ?_
      refine Ev.ret ?_
      refine ⟨⟨oK,oK,oK⟩,(?_ : (0 : Int) = (applyV 6 ws xs nums)∧(1 : Int) = (applyE 6 ws xs nums)∧True),.inr ⟨oK,oK,oK⟩⟩
      exact ⟨(ap_no (ap_bad h)).1.symm,(ap_no (ap_bad h)).2.symm,oK⟩
    · skip
      refine Ev.reg [(2,.call none true (.tup [(.agg yh46),(i6 (wvF 6 ws (nums.getD 0 0) (nums.getD 1 0))),(dB true)]))] [1,2,10,11,13] (st' := ⟨(yh23 ws xs),(yh27 ws xs nums)⟩)
        (p := T2 (callOb Try.prog 27 [(yh0 ws xs nums)] [(i6 6),(yh1 ws xs nums)] none true (.tup [(.agg yh46),(i6 (wvF 6 ws (nums.getD 0 0) (nums.getD 1 0))),(dB true)])∧T8 True)) (by kernel_rfl)
        ⟨oK,oK,(width_good_6 _ _ _ _ hwl h),oK,oK,oK,oK,oK,oK,oK,oK,oK⟩ ?_
      refine Ev.seq ?_
      refine Ev.seq ?_
      refine Ev.reg [] [1,2,10,11,43] (st' := ⟨(yh22 ws xs),(yh27 ws xs nums)⟩)
        (p := T2 True) (by kernel_rfl)
        ⟨oK,oK,oK⟩ ?_
      refine Ev.cond false rfl (fun h => (by cases h)) (fun _ => ?_)
      refine Ev.skip ?_
      refine Ev.seq ?_
      refine Ev.seq ?_
      refine Ev.reg [] [1,10,11,44,45,46] (st' := ⟨(yh20 ws xs),(yh27 ws xs nums)⟩)
        (p := T3 True) (by kernel_rfl)
        ⟨oK,oK,oK,oK⟩ ?_
      refine Ev.block ?_
      refine Ev.loop [1,10,11,44,45,46] 2 (fun (i : Nat) => ⟨(yh11 ws xs i),(yh27 ws xs nums)⟩) (fun (i : Nat) => i ≤ xs.length∧∀ j,j < i → 0 ≤ xs.getD j 0∧xs.getD j 0 ≤ maskF (ws.getD j 0)) (fun (i : Nat) => xs.length - i) 0 (by kernel_rfl) (⟨by omega,fun j hj => by omega⟩) ?_
      rintro i hinv
      have hinv : i ≤ xs.length∧∀ j,j < i → 0 ≤ xs.getD j 0∧xs.getD j 0 ≤ maskF (ws.getD j 0) := hinv
      obtain ⟨hi,hall⟩ := hinv
      refine Ev.seq ?_
      refine Ev.reg [] [1,10,11,44,45,46,47] (st' := ⟨[(1,(LI ws)),(10,yh30),(11,yh33),(44,(LI xs)),(45,(yh7 xs)),(46,(yh31 i)),(47,(dB (decide (((i : Nat) : Int) < ((xs.length : Nat) : Int)))))],(yh27 ws xs nums)⟩)
        (p := True∧True) (by kernel_rfl)
        ⟨oK,oK⟩ ?_
      refine Ev.seq ?_
      refine Ev.cond _ rfl (fun hc47 => ?_) (fun hc47 => ?_)
      · try simp only [decide_eq_true_eq,decide_eq_false_iff_not,beq_iff_eq,bne_iff_ne,ne_eq,beq_eq_false_iff_ne,bne_eq_false_iff_eq,Bool.not_eq_true,Bool.not_eq_false,Bool.not_eq_true',Bool.not_eq_false',Bool.not_not,gt_iff_lt,ge_iff_le,Nat.not_lt,Int.not_lt,Int.not_le] at hc47
        refine Ev.skip ?_
        refine Ev.seq ?_
        refine Ev.block ?_
        refine Ev.seq ?_
        refine Ev.reg [] [1,10,11,14,15,44,45,46] (st' := ⟨(yh2 ws i xs),(yh27 ws xs nums)⟩)
          (p := True∧(0 ≤ ((i : Nat) : Int)∧((i : Nat) : Int) < (xs.length : Int))∧T3 True) (by kernel_rfl)
          ⟨oK,(by first | omega | (simp; first | done | omega)),oK,oK,oK,oK⟩ ?_
        refine Ev.seq ?_
        rcases Int.lt_or_le (xs.getD i 0) 0 with hn | hn
        · skip
          refine Ev.reg [(1,.val (dB true))] [1,10,11,44,45,46,61] (st' := ⟨(yh9 ws xs i),(yh27 ws xs nums)⟩)
            (p := True∧(True∧(decide ((xs.getD i 0) < 0)) = true)∧T9 True) (by kernel_rfl)
            ⟨oK,⟨oK,(by simpa using hn)⟩,oK,oK,oK,oK,oK,oK,oK,oK,oK,oK⟩ ?_
          refine Ev.cond true rfl (fun _ => ?_) (fun h => (by cases h))
          refine Ev.seq ?_
          refine Ev.reg [] [8,9] (st' := ⟨yh8,(yh27 ws xs nums)⟩)
            (p := T2 True) (by kernel_rfl)
            ⟨oK,oK,oK⟩ ?_
          refine Ev.ret ?_
          refine ⟨⟨oK,oK,oK⟩,(?_ : (0 : Int) = (applyV 6 ws xs nums)∧(1 : Int) = (applyE 6 ws xs nums)∧True),.inr ⟨oK,oK,oK⟩⟩
          exact ⟨(ap_no (ap_in (i := i) (by omega) (.inl hn))).1.symm,(ap_no (ap_in (i := i) (by omega) (.inl hn))).2.symm,oK⟩
        · skip
          refine Ev.reg [(1,.val (dB false)),(8,.call none false (yh32 ws i))] [1,10,11,44,45,46,61] (st' := ⟨[(1,(LI ws)),(10,yh30),(11,yh33),(44,(LI xs)),(45,(yh7 xs)),(46,(yh31 i)),(61,(dB (decide ((xs.getD i 0) > (maskF (ws.getD i 0))))))],(yh27 ws xs nums)⟩)
            (p := True∧(True∧(decide ((xs.getD i 0) < 0)) = false)∧T4 ((0 ≤ ((i : Nat) : Int)∧((i : Nat) : Int) < (ws.length : Int))∧True∧callOb Try.prog 14 (yh27 ws xs nums) [(i6 (ws.getD i 0))] none false (yh32 ws i)∧T2 True)) (by kernel_rfl)
            ⟨oK,⟨oK,(by simpa using hn)⟩,oK,oK,oK,oK,(by first | omega | (simp; first | done | omega)),oK,(mask_ok _),oK,oK,oK⟩ ?_
          refine Ev.cond _ rfl (fun hc61 => ?_) (fun hc61 => ?_)
          · try simp only [decide_eq_true_eq,decide_eq_false_iff_not,beq_iff_eq,bne_iff_ne,ne_eq,beq_eq_false_iff_ne,bne_eq_false_iff_eq,Bool.not_eq_true,Bool.not_eq_false,Bool.not_eq_true',Bool.not_eq_false',Bool.not_not,gt_iff_lt,ge_iff_le,Nat.not_lt,Int.not_lt,Int.not_le] at hc61
            refine Ev.seq ?_
            refine Ev.reg [] [8,9] (st' := ⟨yh8,(yh27 ws xs nums)⟩)
              (p := T2 True) (by kernel_rfl)
              ⟨oK,oK,oK⟩ ?_
            refine Ev.ret ?_
            refine ⟨⟨oK,oK,oK⟩,(?_ : (0 : Int) = (applyV 6 ws xs nums)∧(1 : Int) = (applyE 6 ws xs nums)∧True),.inr ⟨oK,oK,oK⟩⟩
            exact ⟨(ap_no (ap_in (i := i) (by omega) (.inr (by omega)))).1.symm,(ap_no (ap_in (i := i) (by omega) (.inr (by omega)))).2.symm,oK⟩
          · try simp only [decide_eq_true_eq,decide_eq_false_iff_not,beq_iff_eq,bne_iff_ne,ne_eq,beq_eq_false_iff_ne,bne_eq_false_iff_eq,Bool.not_eq_true,Bool.not_eq_false,Bool.not_eq_true',Bool.not_eq_false',Bool.not_not,gt_iff_lt,ge_iff_le,Nat.not_lt,Int.not_lt,Int.not_le] at hc61
            refine Ev.skip ?_
            refine Ev.reg [(0,.val (yh34 i))] [1,10,11,44,45,46] (st' := ⟨(yh10 ws xs i),(yh27 ws xs nums)⟩)
              (p := (True∧(IntKind.wrap .i64 (((i : Nat) : Int) + 1)) = ((i + 1 : Nat) : Int))∧True∧True) (by kernel_rfl)
              ⟨⟨oK,(w64n (by first | rfl | simp | omega) (by first | omega | (simp; first | done | omega)))⟩,oK,oK⟩ ?_
            refine ⟨i + 1,by kernel_rfl,(?_ : (i + 1) ≤ xs.length∧∀ j,j < (i + 1) → 0 ≤ xs.getD j 0∧xs.getD j 0 ≤ maskF (ws.getD j 0)),(?_ : xs.length - (i + 1) < xs.length - i)⟩
            · exact ⟨by omega,lt_more hall ⟨by omega,by omega⟩⟩
            · omega
      · try simp only [decide_eq_true_eq,decide_eq_false_iff_not,beq_iff_eq,bne_iff_ne,ne_eq,beq_eq_false_iff_ne,bne_eq_false_iff_eq,Bool.not_eq_true,Bool.not_eq_false,Bool.not_eq_true',Bool.not_eq_false',Bool.not_not,gt_iff_lt,ge_iff_le,Nat.not_lt,Int.not_lt,Int.not_le] at hc47
        refine Ev.exit ?_
        refine Ev.seq ?_
        have hin : inF ws xs = true := in_all (fun j hj => hall j (by omega))
        obtain ⟨hl0,hf,-⟩ := ok_yes h
        have hA : arityF 6 = 2 := by decide
        rw [hA] at hl0
        refine Ev.reg [(3,.call none false (i6 (avF 6 ws xs (nums.getD 0 0) (nums.getD 1 0))))] [8,9] (st' := ⟨[(8,(i6 (avF 6 ws xs (nums.getD 0 0) (nums.getD 1 0)))),(9,(i6 0))],(yh27 ws xs nums)⟩)
          (p := T3 (callOb Try.prog 47 (yh27 ws xs nums) [(yh1 ws xs nums)] none false (i6 (avF 6 ws xs (nums.getD 0 0) (nums.getD 1 0)))∧T2 True)) (by kernel_rfl)
          ⟨oK,oK,oK,(add_ok _ _ _ _ (by omega) (by assumption) (by omega) (by assumption)),oK,oK,oK⟩ ?_
        refine Ev.ret ?_
        refine ⟨⟨oK,oK,oK⟩,(?_ : (avF 6 ws xs (nums.getD 0 0) (nums.getD 1 0)) = (applyV 6 ws xs nums)∧(0 : Int) = (applyE 6 ws xs nums)∧True),.inr ⟨oK,oK,oK⟩⟩
        exact ⟨(ap_yes hx.1 hx.2 h hin).1.symm,(ap_yes hx.1 hx.2 h hin).2.symm,oK⟩

set_option maxRecDepth 100000 in
theorem Apply_7 (ws xs nums : List Int) (hwl : ws.length ≤ 9223372036854775807) (hxl : xs.length ≤ 9223372036854775807) : CallOk Try.prog 12 [(i6 7),(LI ws),(LI xs),(LI nums)] [] false (.tup [(i6 (applyV 7 ws xs nums)),(i6 (applyE 7 ws xs nums))]) [] := by
  refine CallOk.of_ev Try.func12 rfl rfl rfl ?_
  rintro ⟨_,W,S0,_,susp,_⟩ rfl rfl rfl
  refine Ev.seq ?_
  refine Ev.reg [] [0,1,2,3] (st' := ⟨[(0,(i6 7)),(1,(LI ws)),(2,(LI xs)),(3,(LI nums))],[]⟩)
    (p := T2 True) (by kernel_rfl)
    ⟨oK,oK,oK⟩ ?_
  refine Ev.seq ?_
  refine Ev.seq ?_
  rcases (show nums.length ≠ 2 ∨ (nums.length = 2∧xs.length ≠ ws.length) ∨ (nums.length = 2∧xs.length = ws.length) from by omega) with hx | hx | hx
  · skip
    refine Ev.reg [(2,.val (dB true))] [0,1,2,3,25] (st' := ⟨[(0,(i6 7)),(1,(LI ws)),(2,(LI xs)),(3,(LI nums)),(25,(dB true))],[]⟩)
      (p := T2 ((True∧(((nums.length : Nat) : Int) != 2) = true)∧T7 True)) (by kernel_rfl)
      ⟨oK,oK,⟨oK,(by exact bne_iff_ne.2 (by omega))⟩,oK,oK,oK,oK,oK,oK,oK,oK⟩ ?_
    refine Ev.cond true rfl (fun _ => ?_) (fun h => (by cases h))
    refine Ev.seq ?_
    refine Ev.reg [] [8,9] (st' := ⟨yh8,[]⟩)
      (p := T2 True) (by kernel_rfl)
      ⟨oK,oK,oK⟩ ?_
    refine Ev.ret ?_
    refine ⟨⟨oK,oK,oK⟩,(?_ : (0 : Int) = (applyV 7 ws xs nums)∧(1 : Int) = (applyE 7 ws xs nums)∧True),.inr ⟨oK,oK,oK⟩⟩
    exact ⟨(ap_no (ap_n hx)).1.symm,(ap_no (ap_n hx)).2.symm,oK⟩
  · skip
    refine Ev.reg [(2,.val (dB false)),(8,.val (dB true))] [0,1,2,3,25] (st' := ⟨[(0,(i6 7)),(1,(LI ws)),(2,(LI xs)),(3,(LI nums)),(25,(dB true))],[]⟩)
      (p := T2 ((True∧(((nums.length : Nat) : Int) != 2) = false)∧T5 ((True∧(((xs.length : Nat) : Int) != ((ws.length : Nat) : Int)) = true)∧True∧True))) (by kernel_rfl)
      ⟨oK,oK,⟨oK,(by rw [hx.1]; rfl)⟩,oK,oK,oK,oK,oK,⟨oK,(by exact bne_iff_ne.2 (by omega))⟩,oK,oK⟩ ?_
    refine Ev.cond true rfl (fun _ => ?_) (fun h => (by cases h))
    refine Ev.seq ?_
    refine Ev.reg [] [8,9] (st' := ⟨yh8,[]⟩)
      (p := T2 True) (by kernel_rfl)
      ⟨oK,oK,oK⟩ ?_
    refine Ev.ret ?_
    refine ⟨⟨oK,oK,oK⟩,(?_ : (0 : Int) = (applyV 7 ws xs nums)∧(1 : Int) = (applyE 7 ws xs nums)∧True),.inr ⟨oK,oK,oK⟩⟩
    exact ⟨(ap_no (ap_l hx.2)).1.symm,(ap_no (ap_l hx.2)).2.symm,oK⟩
  · skip
    refine Ev.reg [(2,.val (dB false)),(8,.val (dB false))] [0,1,2,3,25] (st' := ⟨[(0,(i6 7)),(1,(LI ws)),(2,(LI xs)),(3,(LI nums)),(25,(dB false))],[]⟩)
      (p := T2 ((True∧(((nums.length : Nat) : Int) != 2) = false)∧T5 ((True∧(((xs.length : Nat) : Int) != ((ws.length : Nat) : Int)) = false)∧True∧True))) (by kernel_rfl)
      ⟨oK,oK,⟨oK,(by rw [hx.1]; rfl)⟩,oK,oK,oK,oK,oK,⟨oK,(by rw [hx.2]; simp)⟩,oK,oK⟩ ?_
    refine Ev.cond false rfl (fun h => (by cases h)) (fun _ => ?_)
    refine Ev.skip ?_
    refine Ev.seq ?_
    refine Ev.draw 10 [false,false,false,false,false,false,false,false,false,false] [] [0,1,2,10] (st' := ⟨[(0,(i6 7)),(1,(LI ws)),(2,(LI xs)),(10,yh30)],[(yh0 ws xs nums)]⟩)
      (p := (T3 ((0 ≤ (0 : Int)∧0 < (nums.length : Int))∧T2 ((0 ≤ (1 : Int)∧1 < (nums.length : Int))∧T3 True)))∧(True∧True)) (by kernel_rfl) (by kernel_rfl)
      ⟨⟨oK,oK,oK,(by first | omega | (simp; first | done | omega)),oK,oK,(by first | omega | (simp; first | done | omega)),oK,oK,oK,oK⟩,⟨oK,oK⟩⟩ ?_
    refine Ev.seq ?_
    rcases ok3 7 ws (nums.getD 0 0) (nums.getD 1 0) with ⟨hb,h⟩ | ⟨hb,hv,h⟩ | h
    · skip
      refine Ev.reg [(2,.call none true yh21)] [1,2,10,11,13] (st' := ⟨(yh5 ws xs),(yh29 ws xs nums)⟩)
        (p := T2 (callOb Try.prog 27 [(yh0 ws xs nums)] [(i6 7),(yh1 ws xs nums)] none true yh21∧T8 True)) (by kernel_rfl)
        ⟨oK,oK,(width_bad_7 _ _ _ _ hwl hb),oK,oK,oK,oK,oK,oK,oK,oK,oK⟩ ?_
      refine Ev.seq ?_
      refine Ev.seq ?_
      refine Ev.reg [] [1,2,10,11,43] (st' := ⟨(yh6 ws xs),(yh29 ws xs nums)⟩)
        (p := T2 True) (by kernel_rfl)
        ⟨oK,oK,oK⟩ ?_
      refine Ev.cond true rfl (fun _ => ?_) (fun h => (by cases h))
      refine Ev.seq ?_
      refine Ev.reg [] [8,9] (st' := ⟨yh8,(yh29 ws xs nums)⟩)
        (p := T2 True) (by kernel_rfl)
        ⟨oK,oK,oK⟩ ?_
      refine Ev.ret ?_
      refine ⟨⟨oK,oK,oK⟩,(?_ : (0 : Int) = (applyV 7 ws xs nums)∧(1 : Int) = (applyE 7 ws xs nums)∧True),.inr ⟨oK,oK,oK⟩⟩
      exact ⟨(ap_no (ap_bad h)).1.symm,(ap_no (ap_bad h)).2.symm,oK⟩
    · skip
      refine Ev.reg [(2,.call none true (.tup [(.agg yh47),(i6 (wvF 7 ws (nums.getD 0 0) (nums.getD 1 0))),(dB false)]))] [1,2,10,11,13] (st' := ⟨(yh5 ws xs),(yh28 ws xs nums)⟩)
        (p := T2 (callOb Try.prog 27 [(yh0 ws xs nums)] [(i6 7),(yh1 ws xs nums)] none true (.tup [(.agg yh47),(i6 (wvF 7 ws (nums.getD 0 0) (nums.getD 1 0))),(dB false)])∧T8 True)) (by kernel_rfl)
        ⟨oK,oK,(width_wv_7 _ _ _ _ hwl hb hv),oK,oK,oK,oK,oK,oK,oK,oK,oK⟩ ?_
      refine Ev.seq ?_
      refine Ev.seq ?_
      refine Ev.reg [] [1,2,10,11,43] (st' := ⟨(yh6 ws xs),(yh28 ws xs nums)⟩)
        (p := T2 True) (by kernel_rfl)
        ⟨oK,oK,oK⟩ ?_
      refine Ev.cond true rfl (fun _ => ?_) (fun h => (by cases h))
      refine Ev.seq ?_
      refine Ev.reg [] [8,9] (st' := ⟨yh8,(yh28 ws xs nums)⟩)
        (p := T2 True) (by kernel_rfl)
        ⟨oK,oK,oK⟩ ?_
      refine Ev.ret ?_
      refine ⟨⟨oK,oK,oK⟩,(?_ : (0 : Int) = (applyV 7 ws xs nums)∧(1 : Int) = (applyE 7 ws xs nums)∧True),.inr ⟨oK,oK,oK⟩⟩
      exact ⟨(ap_no (ap_bad h)).1.symm,(ap_no (ap_bad h)).2.symm,oK⟩
    · skip
      refine Ev.reg [(2,.call none true (.tup [(.agg yh47),(i6 (wvF 7 ws (nums.getD 0 0) (nums.getD 1 0))),(dB true)]))] [1,2,10,11,13] (st' := ⟨(yh23 ws xs),(yh28 ws xs nums)⟩)
        (p := T2 (callOb Try.prog 27 [(yh0 ws xs nums)] [(i6 7),(yh1 ws xs nums)] none true (.tup [(.agg yh47),(i6 (wvF 7 ws (nums.getD 0 0) (nums.getD 1 0))),(dB true)])∧T8 True)) (by kernel_rfl)
        ⟨oK,oK,(width_good_7 _ _ _ _ hwl h),oK,oK,oK,oK,oK,oK,oK,oK,oK⟩ ?_
      refine Ev.seq ?_
      refine Ev.seq ?_
      refine Ev.reg [] [1,2,10,11,43] (st' := ⟨(yh22 ws xs),(yh28 ws xs nums)⟩)
        (p := T2 True) (by kernel_rfl)
        ⟨oK,oK,oK⟩ ?_
      refine Ev.cond false rfl (fun h => (by cases h)) (fun _ => ?_)
      refine Ev.skip ?_
      refine Ev.seq ?_
      refine Ev.seq ?_
      refine Ev.reg [] [1,10,11,44,45,46] (st' := ⟨(yh20 ws xs),(yh28 ws xs nums)⟩)
        (p := T3 True) (by kernel_rfl)
        ⟨oK,oK,oK,oK⟩ ?_
      refine Ev.block ?_
      refine Ev.loop [1,10,11,44,45,46] 2 (fun (i : Nat) => ⟨(yh11 ws xs i),(yh28 ws xs nums)⟩) (fun (i : Nat) => i ≤ xs.length∧∀ j,j < i → 0 ≤ xs.getD j 0∧xs.getD j 0 ≤ maskF (ws.getD j 0)) (fun (i : Nat) => xs.length - i) 0 (by kernel_rfl) (⟨by omega,fun j hj => by omega⟩) ?_
      rintro i hinv
      have hinv : i ≤ xs.length∧∀ j,j < i → 0 ≤ xs.getD j 0∧xs.getD j 0 ≤ maskF (ws.getD j 0) := hinv
      obtain ⟨hi,hall⟩ := hinv
      refine Ev.seq ?_
      refine Ev.reg [] [1,10,11,44,45,46,47] (st' := ⟨[(1,(LI ws)),(10,yh30),(11,yh33),(44,(LI xs)),(45,(yh7 xs)),(46,(yh31 i)),(47,(dB (decide (((i : Nat) : Int) < ((xs.length : Nat) : Int)))))],(yh28 ws xs nums)⟩)
        (p := True∧True) (by kernel_rfl)
        ⟨oK,oK⟩ ?_
      refine Ev.seq ?_
      refine Ev.cond _ rfl (fun hc47 => ?_) (fun hc47 => ?_)
      · try simp only [decide_eq_true_eq,decide_eq_false_iff_not,beq_iff_eq,bne_iff_ne,ne_eq,beq_eq_false_iff_ne,bne_eq_false_iff_eq,Bool.not_eq_true,Bool.not_eq_false,Bool.not_eq_true',Bool.not_eq_false',Bool.not_not,gt_iff_lt,ge_iff_le,Nat.not_lt,Int.not_lt,Int.not_le] at hc47
        refine Ev.skip ?_
        refine Ev.seq ?_
        refine Ev.block ?_
        refine Ev.seq ?_
        refine Ev.reg [] [1,10,11,14,15,44,45,46] (st' := ⟨(yh2 ws i xs),(yh28 ws xs nums)⟩)
          (p := True∧(0 ≤ ((i : Nat) : Int)∧((i : Nat) : Int) < (xs.length : Int))∧T3 True) (by kernel_rfl)
          ⟨oK,(by first | omega | (simp; first | done | omega)),oK,oK,oK,oK⟩ ?_
        refine Ev.seq ?_
        rcases Int.lt_or_le (xs.getD i 0) 0 with hn | hn
        · skip
          refine Ev.reg [(1,.val (dB true))] [1,10,11,44,45,46,61] (st' := ⟨(yh9 ws xs i),(yh28 ws xs nums)⟩)
            (p := True∧(True∧(decide ((xs.getD i 0) < 0)) = true)∧T9 True) (by kernel_rfl)
            ⟨oK,⟨oK,(by simpa using hn)⟩,oK,oK,oK,oK,oK,oK,oK,oK,oK,oK⟩ ?_
          refine Ev.cond true rfl (fun _ => ?_) (fun h => (by cases h))
          refine Ev.seq ?_
          refine Ev.reg [] [8,9] (st' := ⟨yh8,(yh28 ws xs nums)⟩)
            (p := T2 True) (by kernel_rfl)
            ⟨oK,oK,oK⟩ ?_
          refine Ev.ret ?_
          refine ⟨⟨oK,oK,oK⟩,(?_ : (0 : Int) = (applyV 7 ws xs nums)∧(1 : Int) = (applyE 7 ws xs nums)∧True),.inr ⟨oK,oK,oK⟩⟩
          exact ⟨(ap_no (ap_in (i := i) (by omega) (.inl hn))).1.symm,(ap_no (ap_in (i := i) (by omega) (.inl hn))).2.symm,oK⟩
        · skip
          refine Ev.reg [(1,.val (dB false)),(8,.call none false (yh32 ws i))] [1,10,11,44,45,46,61] (st' := ⟨[(1,(LI ws)),(10,yh30),(11,yh33),(44,(LI xs)),(45,(yh7 xs)),(46,(yh31 i)),(61,(dB (decide ((xs.getD i 0) > (maskF (ws.getD i 0))))))],(yh28 ws xs nums)⟩)
            (p := True∧(True∧(decide ((xs.getD i 0) < 0)) = false)∧T4 ((0 ≤ ((i : Nat) : Int)∧((i : Nat) : Int) < (ws.length : Int))∧True∧callOb Try.prog 14 (yh28 ws xs nums) [(i6 (ws.getD i 0))] none false (yh32 ws i)∧T2 True)) (by kernel_rfl)
            ⟨oK,⟨oK,(by simpa using hn)⟩,oK,oK,oK,oK,(by first | omega | (simp; first | done | omega)),oK,(mask_ok _),oK,oK,oK⟩ ?_
          refine Ev.cond _ rfl (fun hc61 => ?_) (fun hc61 => ?_)
          · try simp only [decide_eq_true_eq,decide_eq_false_iff_not,beq_iff_eq,bne_iff_ne,ne_eq,beq_eq_false_iff_ne,bne_eq_false_iff_eq,Bool.not_eq_true,Bool.not_eq_false,Bool.not_eq_true',Bool.not_eq_false',Bool.not_not,gt_iff_lt,ge_iff_le,Nat.not_lt,Int.not_lt,Int.not_le] at hc61
            refine Ev.seq ?_
            refine Ev.reg [] [8,9] (st' := ⟨yh8,(yh28 ws xs nums)⟩)
              (p := T2 True) (by kernel_rfl)
              ⟨oK,oK,oK⟩ ?_
            refine Ev.ret ?_
            refine ⟨⟨oK,oK,oK⟩,(?_ : (0 : Int) = (applyV 7 ws xs nums)∧(1 : Int) = (applyE 7 ws xs nums)∧True),.inr ⟨oK,oK,oK⟩⟩
            exact ⟨(ap_no (ap_in (i := i) (by omega) (.inr (by omega)))).1.symm,(ap_no (ap_in (i := i) (by omega) (.inr (by omega)))).2.symm,oK⟩
          · try simp only [decide_eq_true_eq,decide_eq_false_iff_not,beq_iff_eq,bne_iff_ne,ne_eq,beq_eq_false_iff_ne,bne_eq_false_iff_eq,Bool.not_eq_true,Bool.not_eq_false,Bool.not_eq_true',Bool.not_eq_false',Bool.not_not,gt_iff_lt,ge_iff_le,Nat.not_lt,Int.not_lt,Int.not_le] at hc61
            refine Ev.skip ?_
            refine Ev.reg [(0,.val (yh34 i))] [1,10,11,44,45,46] (st' := ⟨(yh10 ws xs i),(yh28 ws xs nums)⟩)
              (p := (True∧(IntKind.wrap .i64 (((i : Nat) : Int) + 1)) = ((i + 1 : Nat) : Int))∧True∧True) (by kernel_rfl)
              ⟨⟨oK,(w64n (by first | rfl | simp | omega) (by first | omega | (simp; first | done | omega)))⟩,oK,oK⟩ ?_
            refine ⟨i + 1,by kernel_rfl,(?_ : (i + 1) ≤ xs.length∧∀ j,j < (i + 1) → 0 ≤ xs.getD j 0∧xs.getD j 0 ≤ maskF (ws.getD j 0)),(?_ : xs.length - (i + 1) < xs.length - i)⟩
            · exact ⟨by omega,lt_more hall ⟨by omega,by omega⟩⟩
            · omega
      · try simp only [decide_eq_true_eq,decide_eq_false_iff_not,beq_iff_eq,bne_iff_ne,ne_eq,beq_eq_false_iff_ne,bne_eq_false_iff_eq,Bool.not_eq_true,Bool.not_eq_false,Bool.not_eq_true',Bool.not_eq_false',Bool.not_not,gt_iff_lt,ge_iff_le,Nat.not_lt,Int.not_lt,Int.not_le] at hc47
        refine Ev.exit ?_
        refine Ev.seq ?_
        have hin : inF ws xs = true := in_all (fun j hj => hall j (by omega))
        obtain ⟨hl0,hf,-⟩ := ok_yes h
        have hA : arityF 7 = 2 := by decide
        rw [hA] at hl0
        refine Ev.reg [(3,.call none false (i6 (avF 7 ws xs (nums.getD 0 0) (nums.getD 1 0))))] [8,9] (st' := ⟨[(8,(i6 (avF 7 ws xs (nums.getD 0 0) (nums.getD 1 0)))),(9,(i6 0))],(yh28 ws xs nums)⟩)
          (p := T3 (callOb Try.prog 48 (yh28 ws xs nums) [(yh1 ws xs nums)] none false (i6 (avF 7 ws xs (nums.getD 0 0) (nums.getD 1 0)))∧T2 True)) (by kernel_rfl)
          ⟨oK,oK,oK,(sub_ok _ _ _ _ (by omega) (by assumption) (by omega) (by assumption)),oK,oK,oK⟩ ?_
        refine Ev.ret ?_
        refine ⟨⟨oK,oK,oK⟩,(?_ : (avF 7 ws xs (nums.getD 0 0) (nums.getD 1 0)) = (applyV 7 ws xs nums)∧(0 : Int) = (applyE 7 ws xs nums)∧True),.inr ⟨oK,oK,oK⟩⟩
        exact ⟨(ap_yes hx.1 hx.2 h hin).1.symm,(ap_yes hx.1 hx.2 h hin).2.symm,oK⟩

set_option maxRecDepth 100000 in
theorem Apply_8 (ws xs nums : List Int) (hwl : ws.length ≤ 9223372036854775807) (hxl : xs.length ≤ 9223372036854775807) : CallOk Try.prog 12 [(i6 8),(LI ws),(LI xs),(LI nums)] [] false (.tup [(i6 (applyV 8 ws xs nums)),(i6 (applyE 8 ws xs nums))]) [] := by
  refine CallOk.of_ev Try.func12 rfl rfl rfl ?_
  rintro ⟨_,W,S0,_,susp,_⟩ rfl rfl rfl
  refine Ev.seq ?_
  refine Ev.reg [] [0,1,2,3] (st' := ⟨[(0,(i6 8)),(1,(LI ws)),(2,(LI xs)),(3,(LI nums))],[]⟩)
    (p := T2 True) (by kernel_rfl)
    ⟨oK,oK,oK⟩ ?_
  refine Ev.seq ?_
  refine Ev.seq ?_
  rcases (show nums.length ≠ 2 ∨ (nums.length = 2∧xs.length ≠ ws.length) ∨ (nums.length = 2∧xs.length = ws.length) from by omega) with hx | hx | hx
  · skip
    refine Ev.reg [(2,.val (dB true))] [0,1,2,3,25] (st' := ⟨[(0,(i6 8)),(1,(LI ws)),(2,(LI xs)),(3,(LI nums)),(25,(dB true))],[]⟩)
      (p := T2 ((True∧(((nums.length : Nat) : Int) != 2) = true)∧T7 True)) (by kernel_rfl)
      ⟨oK,oK,⟨oK,(by exact bne_iff_ne.2 (by omega))⟩,oK,oK,oK,oK,oK,oK,oK,oK⟩ ?_
    refine Ev.cond true rfl (fun _ => ?_) (fun h => (by cases h))
    refine Ev.seq ?_
    refine Ev.reg [] [8,9] (st' := ⟨yh8,[]⟩)
      (p := T2 True) (by kernel_rfl)
      ⟨oK,oK,oK⟩ ?_
    refine Ev.ret ?_
    refine ⟨⟨oK,oK,oK⟩,(?_ : (0 : Int) = (applyV 8 ws xs nums)∧(1 : Int) = (applyE 8 ws xs nums)∧True),.inr ⟨oK,oK,oK⟩⟩
    exact ⟨(ap_no (ap_n hx)).1.symm,(ap_no (ap_n hx)).2.symm,oK⟩
  · skip
    refine Ev.reg [(2,.val (dB false)),(8,.val (dB true))] [0,1,2,3,25] (st' := ⟨[(0,(i6 8)),(1,(LI ws)),(2,(LI xs)),(3,(LI nums)),(25,(dB true))],[]⟩)
      (p := T2 ((True∧(((nums.length : Nat) : Int) != 2) = false)∧T5 ((True∧(((xs.length : Nat) : Int) != ((ws.length : Nat) : Int)) = true)∧True∧True))) (by kernel_rfl)
      ⟨oK,oK,⟨oK,(by rw [hx.1]; rfl)⟩,oK,oK,oK,oK,oK,⟨oK,(by exact bne_iff_ne.2 (by omega))⟩,oK,oK⟩ ?_
    refine Ev.cond true rfl (fun _ => ?_) (fun h => (by cases h))
    refine Ev.seq ?_
    refine Ev.reg [] [8,9] (st' := ⟨yh8,[]⟩)
      (p := T2 True) (by kernel_rfl)
      ⟨oK,oK,oK⟩ ?_
    refine Ev.ret ?_
    refine ⟨⟨oK,oK,oK⟩,(?_ : (0 : Int) = (applyV 8 ws xs nums)∧(1 : Int) = (applyE 8 ws xs nums)∧True),.inr ⟨oK,oK,oK⟩⟩
    exact ⟨(ap_no (ap_l hx.2)).1.symm,(ap_no (ap_l hx.2)).2.symm,oK⟩
  · skip
    refine Ev.reg [(2,.val (dB false)),(8,.val (dB false))] [0,1,2,3,25] (st' := ⟨[(0,(i6 8)),(1,(LI ws)),(2,(LI xs)),(3,(LI nums)),(25,(dB false))],[]⟩)
      (p := T2 ((True∧(((nums.length : Nat) : Int) != 2) = false)∧T5 ((True∧(((xs.length : Nat) : Int) != ((ws.length : Nat) : Int)) = false)∧True∧True))) (by kernel_rfl)
      ⟨oK,oK,⟨oK,(by rw [hx.1]; rfl)⟩,oK,oK,oK,oK,oK,⟨oK,(by rw [hx.2]; simp)⟩,oK,oK⟩ ?_
    refine Ev.cond false rfl (fun h => (by cases h)) (fun _ => ?_)
    refine Ev.skip ?_
    refine Ev.seq ?_
    refine Ev.draw 10 [false,false,false,false,false,false,false,false,false,false] [] [0,1,2,10] (st' := ⟨[(0,(i6 8)),(1,(LI ws)),(2,(LI xs)),(10,yh30)],[(yh0 ws xs nums)]⟩)
      (p := (T3 ((0 ≤ (0 : Int)∧0 < (nums.length : Int))∧T2 ((0 ≤ (1 : Int)∧1 < (nums.length : Int))∧T3 True)))∧(True∧True)) (by kernel_rfl) (by kernel_rfl)
      ⟨⟨oK,oK,oK,(by first | omega | (simp; first | done | omega)),oK,oK,(by first | omega | (simp; first | done | omega)),oK,oK,oK,oK⟩,⟨oK,oK⟩⟩ ?_
    refine Ev.seq ?_
    rcases ok3 8 ws (nums.getD 0 0) (nums.getD 1 0) with ⟨hb,h⟩ | ⟨hb,hv,h⟩ | h
    · skip
      refine Ev.reg [(2,.call none true yh21)] [1,2,10,11,13] (st' := ⟨(yh5 ws xs),(yh29 ws xs nums)⟩)
        (p := T2 (callOb Try.prog 27 [(yh0 ws xs nums)] [(i6 8),(yh1 ws xs nums)] none true yh21∧T8 True)) (by kernel_rfl)
        ⟨oK,oK,(width_bad_8 _ _ _ _ hwl hb),oK,oK,oK,oK,oK,oK,oK,oK,oK⟩ ?_
      refine Ev.seq ?_
      refine Ev.seq ?_
      refine Ev.reg [] [1,2,10,11,43] (st' := ⟨(yh6 ws xs),(yh29 ws xs nums)⟩)
        (p := T2 True) (by kernel_rfl)
        ⟨oK,oK,oK⟩ ?_
      refine Ev.cond true rfl (fun _ => ?_) (fun h => (by cases h))
      refine Ev.seq ?_
      refine Ev.reg [] [8,9] (st' := ⟨yh8,(yh29 ws xs nums)⟩)
        (p := T2 True) (by kernel_rfl)
        ⟨oK,oK,oK⟩ ?_
      refine Ev.ret ?_
      refine ⟨⟨oK,oK,oK⟩,(?_ : (0 : Int) = (applyV 8 ws xs nums)∧(1 : Int) = (applyE 8 ws xs nums)∧True),.inr ⟨oK,oK,oK⟩⟩
      exact ⟨(ap_no (ap_bad h)).1.symm,(ap_no (ap_bad h)).2.symm,oK⟩
    · skip
      refine Ev.reg [(2,.call none true (.tup [(.agg yh14),(i6 (wvF 8 ws (nums.getD 0 0) (nums.getD 1 0))),(dB false)]))] [1,2,10,11,13] (st' := ⟨(yh5 ws xs),(yh37 ws xs nums)⟩)
        (p := T2 (callOb Try.prog 27 [(yh0 ws xs nums)] [(i6 8),(yh1 ws xs nums)] none true (.tup [(.agg yh14),(i6 (wvF 8 ws (nums.getD 0 0) (nums.getD 1 0))),(dB false)])∧T8 True)) (by kernel_rfl)
        ⟨oK,oK,(width_wv_8 _ _ _ _ hwl hb hv),oK,oK,oK,oK,oK,oK,oK,oK,oK⟩ ?_
      refine Ev.seq ?_
      refine Ev.seq ?_
      refine Ev.reg [] [1,2,10,11,43] (st' := ⟨(yh6 ws xs),(yh37 ws xs nums)⟩)
        (p := T2 True) (by kernel_rfl)
        ⟨oK,oK,oK⟩ ?_
      refine Ev.cond true rfl (fun _ => ?_) (fun h => (by cases h))
      refine Ev.seq ?_
      refine Ev.reg [] [8,9] (st' := ⟨yh8,(yh37 ws xs nums)⟩)
        (p := T2 True) (by kernel_rfl)
        ⟨oK,oK,oK⟩ ?_
      refine Ev.ret ?_
      refine ⟨⟨oK,oK,oK⟩,(?_ : (0 : Int) = (applyV 8 ws xs nums)∧(1 : Int) = (applyE 8 ws xs nums)∧True),.inr ⟨oK,oK,oK⟩⟩
      exact ⟨(ap_no (ap_bad h)).1.symm,(ap_no (ap_bad h)).2.symm,oK⟩
    · skip
      refine Ev.reg [(2,.call none true (.tup [(.agg yh14),(i6 (wvF 8 ws (nums.getD 0 0) (nums.getD 1 0))),(dB true)]))] [1,2,10,11,13] (st' := ⟨(yh23 ws xs),(yh37 ws xs nums)⟩)
        (p := T2 (callOb Try.prog 27 [(yh0 ws xs nums)] [(i6 8),(yh1 ws xs nums)] none true (.tup [(.agg yh14),(i6 (wvF 8 ws (nums.getD 0 0) (nums.getD 1 0))),(dB true)])∧T8 True)) (by kernel_rfl)
        ⟨oK,oK,(width_good_8 _ _ _ _ hwl h),oK,oK,oK,oK,oK,oK,oK,oK,oK⟩ ?_
      refine Ev.seq ?_
      refine Ev.seq ?_
      refine Ev.reg [] [1,2,10,11,43] (st' := ⟨(yh22 ws xs),(yh37 ws xs nums)⟩)
        (p := T2 True) (by kernel_rfl)
        ⟨oK,oK,oK⟩ ?_
      refine Ev.cond false rfl (fun h => (by cases h)) (fun _ => ?_)
      refine Ev.skip ?_
      refine Ev.seq ?_
      refine Ev.seq ?_
      refine Ev.reg [] [1,10,11,44,45,46] (st' := ⟨(yh20 ws xs),(yh37 ws xs nums)⟩)
        (p := T3 True) (by kernel_rfl)
        ⟨oK,oK,oK,oK⟩ ?_
      refine Ev.block ?_
      refine Ev.loop [1,10,11,44,45,46] 2 (fun (i : Nat) => ⟨(yh11 ws xs i),(yh37 ws xs nums)⟩) (fun (i : Nat) => i ≤ xs.length∧∀ j,j < i → 0 ≤ xs.getD j 0∧xs.getD j 0 ≤ maskF (ws.getD j 0)) (fun (i : Nat) => xs.length - i) 0 (by kernel_rfl) (⟨by omega,fun j hj => by omega⟩) ?_
      rintro i hinv
      have hinv : i ≤ xs.length∧∀ j,j < i → 0 ≤ xs.getD j 0∧xs.getD j 0 ≤ maskF (ws.getD j 0) := hinv
      obtain ⟨hi,hall⟩ := hinv
      refine Ev.seq ?_
      refine Ev.reg [] [1,10,11,44,45,46,47] (st' := ⟨[(1,(LI ws)),(10,yh30),(11,yh33),(44,(LI xs)),(45,(yh7 xs)),(46,(yh31 i)),(47,(dB (decide (((i : Nat) : Int) < ((xs.length : Nat) : Int)))))],(yh37 ws xs nums)⟩)
        (p := True∧True) (by kernel_rfl)
        ⟨oK,oK⟩ ?_
      refine Ev.seq ?_
      refine Ev.cond _ rfl (fun hc47 => ?_) (fun hc47 => ?_)
      · try simp only [decide_eq_true_eq,decide_eq_false_iff_not,beq_iff_eq,bne_iff_ne,ne_eq,beq_eq_false_iff_ne,bne_eq_false_iff_eq,Bool.not_eq_true,Bool.not_eq_false,Bool.not_eq_true',Bool.not_eq_false',Bool.not_not,gt_iff_lt,ge_iff_le,Nat.not_lt,Int.not_lt,Int.not_le] at hc47
        refine Ev.skip ?_
        refine Ev.seq ?_
        refine Ev.block ?_
        refine Ev.seq ?_
        refine Ev.reg [] [1,10,11,14,15,44,45,46] (st' := ⟨(yh2 ws i xs),(yh37 ws xs nums)⟩)
          (p := True∧(0 ≤ ((i : Nat) : Int)∧((i : Nat) : Int) < (xs.length : Int))∧T3 True) (by kernel_rfl)
          ⟨oK,(by first | omega | (simp; first | done | omega)),oK,oK,oK,oK⟩ ?_
        refine Ev.seq ?_
        rcases Int.lt_or_le (xs.getD i 0) 0 with hn | hn
        · skip
          refine Ev.reg [(1,.val (dB true))] [1,10,11,44,45,46,61] (st' := ⟨(yh9 ws xs i),(yh37 ws xs nums)⟩)
            (p := True∧(True∧(decide ((xs.getD i 0) < 0)) = true)∧T9 True) (by kernel_rfl)
            ⟨oK,⟨oK,(by simpa using hn)⟩,oK,oK,oK,oK,oK,oK,oK,oK,oK,oK⟩ ?_
          refine Ev.cond true rfl (fun _ => ?_) (fun h => (by cases h))
          refine Ev.seq ?_
          refine Ev.reg [] [8,9] (st' := ⟨yh8,(yh37 ws xs nums)⟩)
            (p := T2 True) (by kernel_rfl)
            ⟨oK,oK,oK⟩ ?_
          refine Ev.ret ?_
          refine ⟨⟨oK,oK,oK⟩,(?_ : (0 : Int) = (applyV 8 ws xs nums)∧(1 : Int) = (applyE 8 ws xs nums)∧True),.inr ⟨oK,oK,oK⟩⟩
          exact ⟨(ap_no (ap_in (i := i) (by omega) (.inl hn))).1.symm,(ap_no (ap_in (i := i) (by omega) (.inl hn))).2.symm,oK⟩
        · skip
          refine Ev.reg [(1,.val (dB false)),(8,.call none false (yh32 ws i))] [1,10,11,44,45,46,61] (st' := ⟨[(1,(LI ws)),(10,yh30),(11,yh33),(44,(LI xs)),(45,(yh7 xs)),(46,(yh31 i)),(61,(dB (decide ((xs.getD i 0) > (maskF (ws.getD i 0))))))],(yh37 ws xs nums)⟩)
            (p := True∧(True∧(decide ((xs.getD i 0) < 0)) = false)∧T4 ((0 ≤ ((i : Nat) : Int)∧((i : Nat) : Int) < (ws.length : Int))∧True∧callOb Try.prog 14 (yh37 ws xs nums) [(i6 (ws.getD i 0))] none false (yh32 ws i)∧T2 True)) (by kernel_rfl)
            ⟨oK,⟨oK,(by simpa using hn)⟩,oK,oK,oK,oK,(by first | omega | (simp; first | done | omega)),oK,(mask_ok _),oK,oK,oK⟩ ?_
          refine Ev.cond _ rfl (fun hc61 => ?_) (fun hc61 => ?_)
          · try simp only [decide_eq_true_eq,decide_eq_false_iff_not,beq_iff_eq,bne_iff_ne,ne_eq,beq_eq_false_iff_ne,bne_eq_false_iff_eq,Bool.not_eq_true,Bool.not_eq_false,Bool.not_eq_true',Bool.not_eq_false',Bool.not_not,gt_iff_lt,ge_iff_le,Nat.not_lt,Int.not_lt,Int.not_le] at hc61
            refine Ev.seq ?_
            refine Ev.reg [] [8,9] (st' := ⟨yh8,(yh37 ws xs nums)⟩)
              (p := T2 True) (by kernel_rfl)
              ⟨oK,oK,oK⟩ ?_
            refine Ev.ret ?_
            refine ⟨⟨oK,oK,oK⟩,(?_ : (0 : Int) = (applyV 8 ws xs nums)∧(1 : Int) = (applyE 8 ws xs nums)∧True),.inr ⟨oK,oK,oK⟩⟩
            exact ⟨(ap_no (ap_in (i := i) (by omega) (.inr (by omega)))).1.symm,(ap_no (ap_in (i := i) (by omega) (.inr (by omega)))).2.symm,oK⟩
          · try simp only [decide_eq_true_eq,decide_eq_false_iff_not,beq_iff_eq,bne_iff_ne,ne_eq,beq_eq_false_iff_ne,bne_eq_false_iff_eq,Bool.not_eq_true,Bool.not_eq_false,Bool.not_eq_true',Bool.not_eq_false',Bool.not_not,gt_iff_lt,ge_iff_le,Nat.not_lt,Int.not_lt,Int.not_le] at hc61
            refine Ev.skip ?_
            refine Ev.reg [(0,.val (yh34 i))] [1,10,11,44,45,46] (st' := ⟨(yh10 ws xs i),(yh37 ws xs nums)⟩)
              (p := (True∧(IntKind.wrap .i64 (((i : Nat) : Int) + 1)) = ((i + 1 : Nat) : Int))∧True∧True) (by kernel_rfl)
              ⟨⟨oK,(w64n (by first | rfl | simp | omega) (by first | omega | (simp; first | done | omega)))⟩,oK,oK⟩ ?_
            refine ⟨i + 1,by kernel_rfl,(?_ : (i + 1) ≤ xs.length∧∀ j,j < (i + 1) → 0 ≤ xs.getD j 0∧xs.getD j 0 ≤ maskF (ws.getD j 0)),(?_ : xs.length - (i + 1) < xs.length - i)⟩
            · exact ⟨by omega,lt_more hall ⟨by omega,by omega⟩⟩
            · omega
      · try simp only [decide_eq_true_eq,decide_eq_false_iff_not,beq_iff_eq,bne_iff_ne,ne_eq,beq_eq_false_iff_ne,bne_eq_false_iff_eq,Bool.not_eq_true,Bool.not_eq_false,Bool.not_eq_true',Bool.not_eq_false',Bool.not_not,gt_iff_lt,ge_iff_le,Nat.not_lt,Int.not_lt,Int.not_le] at hc47
        refine Ev.exit ?_
        refine Ev.seq ?_
        have hin : inF ws xs = true := in_all (fun j hj => hall j (by omega))
        obtain ⟨hl0,hf,-⟩ := ok_yes h
        have hA : arityF 8 = 2 := by decide
        rw [hA] at hl0
        refine Ev.reg [(3,.call none false (i6 (avF 8 ws xs (nums.getD 0 0) (nums.getD 1 0))))] [8,9] (st' := ⟨[(8,(i6 (avF 8 ws xs (nums.getD 0 0) (nums.getD 1 0)))),(9,(i6 0))],(yh37 ws xs nums)⟩)
          (p := T3 (callOb Try.prog 50 (yh37 ws xs nums) [(yh1 ws xs nums)] none false (i6 (avF 8 ws xs (nums.getD 0 0) (nums.getD 1 0)))∧T2 True)) (by kernel_rfl)
          ⟨oK,oK,oK,(eq_ok _ _ _ _ (by omega) (by assumption) (by omega) (by assumption)),oK,oK,oK⟩ ?_
        refine Ev.ret ?_
        refine ⟨⟨oK,oK,oK⟩,(?_ : (avF 8 ws xs (nums.getD 0 0) (nums.getD 1 0)) = (applyV 8 ws xs nums)∧(0 : Int) = (applyE 8 ws xs nums)∧True),.inr ⟨oK,oK,oK⟩⟩
        exact ⟨(ap_yes hx.1 hx.2 h hin).1.symm,(ap_yes hx.1 hx.2 h hin).2.symm,oK⟩

set_option maxRecDepth 100000 in
theorem Apply_9 (ws xs nums : List Int) (hwl : ws.length ≤ 9223372036854775807) (hxl : xs.length ≤ 9223372036854775807) : CallOk Try.prog 12 [(i6 9),(LI ws),(LI xs),(LI nums)] [] false (.tup [(i6 (applyV 9 ws xs nums)),(i6 (applyE 9 ws xs nums))]) [] := by
  refine CallOk.of_ev Try.func12 rfl rfl rfl ?_
  rintro ⟨_,W,S0,_,susp,_⟩ rfl rfl rfl
  refine Ev.seq ?_
  refine Ev.reg [] [0,1,2,3] (st' := ⟨[(0,(i6 9)),(1,(LI ws)),(2,(LI xs)),(3,(LI nums))],[]⟩)
    (p := T2 True) (by kernel_rfl)
    ⟨oK,oK,oK⟩ ?_
  refine Ev.seq ?_
  refine Ev.seq ?_
  rcases (show nums.length ≠ 2 ∨ (nums.length = 2∧xs.length ≠ ws.length) ∨ (nums.length = 2∧xs.length = ws.length) from by omega) with hx | hx | hx
  · skip
    refine Ev.reg [(2,.val (dB true))] [0,1,2,3,25] (st' := ⟨[(0,(i6 9)),(1,(LI ws)),(2,(LI xs)),(3,(LI nums)),(25,(dB true))],[]⟩)
      (p := T2 ((True∧(((nums.length : Nat) : Int) != 2) = true)∧T7 True)) (by kernel_rfl)
      ⟨oK,oK,⟨oK,(by exact bne_iff_ne.2 (by omega))⟩,oK,oK,oK,oK,oK,oK,oK,oK⟩ ?_
    refine Ev.cond true rfl (fun _ => ?_) (fun h => (by cases h))
    refine Ev.seq ?_
    refine Ev.reg [] [8,9] (st' := ⟨yh8,[]⟩)
      (p := T2 True) (by kernel_rfl)
      ⟨oK,oK,oK⟩ ?_
    refine Ev.ret ?_
    refine ⟨⟨oK,oK,oK⟩,(?_ : (0 : Int) = (applyV 9 ws xs nums)∧(1 : Int) = (applyE 9 ws xs nums)∧True),.inr ⟨oK,oK,oK⟩⟩
    exact ⟨(ap_no (ap_n hx)).1.symm,(ap_no (ap_n hx)).2.symm,oK⟩
  · skip
    refine Ev.reg [(2,.val (dB false)),(8,.val (dB true))] [0,1,2,3,25] (st' := ⟨[(0,(i6 9)),(1,(LI ws)),(2,(LI xs)),(3,(LI nums)),(25,(dB true))],[]⟩)
      (p := T2 ((True∧(((nums.length : Nat) : Int) != 2) = false)∧T5 ((True∧(((xs.length : Nat) : Int) != ((ws.length : Nat) : Int)) = true)∧True∧True))) (by kernel_rfl)
      ⟨oK,oK,⟨oK,(by rw [hx.1]; rfl)⟩,oK,oK,oK,oK,oK,⟨oK,(by exact bne_iff_ne.2 (by omega))⟩,oK,oK⟩ ?_
    refine Ev.cond true rfl (fun _ => ?_) (fun h => (by cases h))
    refine Ev.seq ?_
    refine Ev.reg [] [8,9] (st' := ⟨yh8,[]⟩)
      (p := T2 True) (by kernel_rfl)
      ⟨oK,oK,oK⟩ ?_
    refine Ev.ret ?_
    refine ⟨⟨oK,oK,oK⟩,(?_ : (0 : Int) = (applyV 9 ws xs nums)∧(1 : Int) = (applyE 9 ws xs nums)∧True),.inr ⟨oK,oK,oK⟩⟩
    exact ⟨(ap_no (ap_l hx.2)).1.symm,(ap_no (ap_l hx.2)).2.symm,oK⟩
  · skip
    refine Ev.reg [(2,.val (dB false)),(8,.val (dB false))] [0,1,2,3,25] (st' := ⟨[(0,(i6 9)),(1,(LI ws)),(2,(LI xs)),(3,(LI nums)),(25,(dB false))],[]⟩)
      (p := T2 ((True∧(((nums.length : Nat) : Int) != 2) = false)∧T5 ((True∧(((xs.length : Nat) : Int) != ((ws.length : Nat) : Int)) = false)∧True∧True))) (by kernel_rfl)
      ⟨oK,oK,⟨oK,(by rw [hx.1]; rfl)⟩,oK,oK,oK,oK,oK,⟨oK,(by rw [hx.2]; simp)⟩,oK,oK⟩ ?_
    refine Ev.cond false rfl (fun h => (by cases h)) (fun _ => ?_)
    refine Ev.skip ?_
    refine Ev.seq ?_
    refine Ev.draw 10 [false,false,false,false,false,false,false,false,false,false] [] [0,1,2,10] (st' := ⟨[(0,(i6 9)),(1,(LI ws)),(2,(LI xs)),(10,yh30)],[(yh0 ws xs nums)]⟩)
      (p := (T3 ((0 ≤ (0 : Int)∧0 < (nums.length : Int))∧T2 ((0 ≤ (1 : Int)∧1 < (nums.length : Int))∧T3 True)))∧(True∧True)) (by kernel_rfl) (by kernel_rfl)
      ⟨⟨oK,oK,oK,(by first | omega | (simp; first | done | omega)),oK,oK,(by first | omega | (simp; first | done | omega)),oK,oK,oK,oK⟩,⟨oK,oK⟩⟩ ?_
    refine Ev.seq ?_
    rcases ok3 9 ws (nums.getD 0 0) (nums.getD 1 0) with ⟨hb,h⟩ | ⟨hb,hv,h⟩ | h
    · skip
      refine Ev.reg [(2,.call none true yh21)] [1,2,10,11,13] (st' := ⟨(yh5 ws xs),(yh29 ws xs nums)⟩)
        (p := T2 (callOb Try.prog 27 [(yh0 ws xs nums)] [(i6 9),(yh1 ws xs nums)] none true yh21∧T8 True)) (by kernel_rfl)
        ⟨oK,oK,(width_bad_9 _ _ _ _ hwl hb),oK,oK,oK,oK,oK,oK,oK,oK,oK⟩ ?_
      refine Ev.seq ?_
      refine Ev.seq ?_
      refine Ev.reg [] [1,2,10,11,43] (st' := ⟨(yh6 ws xs),(yh29 ws xs nums)⟩)
        (p := T2 True) (by kernel_rfl)
        ⟨oK,oK,oK⟩ ?_
      refine Ev.cond true rfl (fun _ => ?_) (fun h => (by cases h))
      refine Ev.seq ?_
      refine Ev.reg [] [8,9] (st' := ⟨yh8,(yh29 ws xs nums)⟩)
        (p := T2 True) (by kernel_rfl)
        ⟨oK,oK,oK⟩ ?_
      refine Ev.ret ?_
      refine ⟨⟨oK,oK,oK⟩,(?_ : (0 : Int) = (applyV 9 ws xs nums)∧(1 : Int) = (applyE 9 ws xs nums)∧True),.inr ⟨oK,oK,oK⟩⟩
      exact ⟨(ap_no (ap_bad h)).1.symm,(ap_no (ap_bad h)).2.symm,oK⟩
    · skip
      refine Ev.reg [(2,.call none true (.tup [(.agg yh15),(i6 (wvF 9 ws (nums.getD 0 0) (nums.getD 1 0))),(dB false)]))] [1,2,10,11,13] (st' := ⟨(yh5 ws xs),(yh38 ws xs nums)⟩)
        (p := T2 (callOb Try.prog 27 [(yh0 ws xs nums)] [(i6 9),(yh1 ws xs nums)] none true (.tup [(.agg yh15),(i6 (wvF 9 ws (nums.getD 0 0) (nums.getD 1 0))),(dB false)])∧T8 True)) (by kernel_rfl)
        ⟨oK,oK,(width_wv_9 _ _ _ _ hwl hb hv),oK,oK,oK,oK,oK,oK,oK,oK,oK⟩ ?_
      refine Ev.seq ?_
      refine Ev.seq ?_
      refine Ev.reg [] [1,2,10,11,43] (st' := ⟨(yh6 ws xs),(yh38 ws xs nums)⟩)
        (p := T2 True) (by kernel_rfl)
        ⟨oK,oK,oK⟩ ?_
      refine Ev.cond true rfl (fun _ => ?_) (fun h => (by cases h))
      refine Ev.seq ?_
      refine Ev.reg [] [8,9] (st' := ⟨yh8,(yh38 ws xs nums)⟩)
        (p := T2 True) (by kernel_rfl)
        ⟨oK,oK,oK⟩ ?_
      refine Ev.ret ?_
      refine ⟨⟨oK,oK,oK⟩,(?_ : (0 : Int) = (applyV 9 ws xs nums)∧(1 : Int) = (applyE 9 ws xs nums)∧True),.inr ⟨oK,oK,oK⟩⟩
      exact ⟨(ap_no (ap_bad h)).1.symm,(ap_no (ap_bad h)).2.symm,oK⟩
    · skip
      refine Ev.reg [(2,.call none true (.tup [(.agg yh15),(i6 (wvF 9 ws (nums.getD 0 0) (nums.getD 1 0))),(dB true)]))] [1,2,10,11,13] (st' := ⟨(yh23 ws xs),(yh38 ws xs nums)⟩)
        (p := T2 (callOb Try.prog 27 [(yh0 ws xs nums)] [(i6 9),(yh1 ws xs nums)] none true (.tup [(.agg yh15),(i6 (wvF 9 ws (nums.getD 0 0) (nums.getD 1 0))),(dB true)])∧T8 True)) (by kernel_rfl)
        ⟨oK,oK,(width_good_9 _ _ _ _ hwl h),oK,oK,oK,oK,oK,oK,oK,oK,oK⟩ ?_
      refine Ev.seq ?_
      refine Ev.seq ?_
      refine Ev.reg [] [1,2,10,11,43] (st' := ⟨(yh22 ws xs),(yh38 ws xs nums)⟩)
        (p := T2 True) (by kernel_rfl)
        ⟨oK,oK,oK⟩ ?_
      refine Ev.cond false rfl (fun h => (by cases h)) (fun _ => ?_)
      refine Ev.skip ?_
      refine Ev.seq ?_
      refine Ev.seq ?_
      refine Ev.reg [] [1,10,11,44,45,46] (st' := ⟨(yh20 ws xs),(yh38 ws xs nums)⟩)
        (p := T3 True) (by kernel_rfl)
        ⟨oK,oK,oK,oK⟩ ?_
      refine Ev.block ?_
      refine Ev.loop [1,10,11,44,45,46] 2 (fun (i : Nat) => ⟨(yh11 ws xs i),(yh38 ws xs nums)⟩) (fun (i : Nat) => i ≤ xs.length∧∀ j,j < i → 0 ≤ xs.getD j 0∧xs.getD j 0 ≤ maskF (ws.getD j 0)) (fun (i : Nat) => xs.length - i) 0 (by kernel_rfl) (⟨by omega,fun j hj => by omega⟩) ?_
      rintro i hinv
      have hinv : i ≤ xs.length∧∀ j,j < i → 0 ≤ xs.getD j 0∧xs.getD j 0 ≤ maskF (ws.getD j 0) := hinv
      obtain ⟨hi,hall⟩ := hinv
      refine Ev.seq ?_
      refine Ev.reg [] [1,10,11,44,45,46,47] (st' := ⟨[(1,(LI ws)),(10,yh30),(11,yh33),(44,(LI xs)),(45,(yh7 xs)),(46,(yh31 i)),(47,(dB (decide (((i : Nat) : Int) < ((xs.length : Nat) : Int)))))],(yh38 ws xs nums)⟩)
        (p := True∧True) (by kernel_rfl)
        ⟨oK,oK⟩ ?_
      refine Ev.seq ?_
      refine Ev.cond _ rfl (fun hc47 => ?_) (fun hc47 => ?_)
      · try simp only [decide_eq_true_eq,decide_eq_false_iff_not,beq_iff_eq,bne_iff_ne,ne_eq,beq_eq_false_iff_ne,bne_eq_false_iff_eq,Bool.not_eq_true,Bool.not_eq_false,Bool.not_eq_true',Bool.not_eq_false',Bool.not_not,gt_iff_lt,ge_iff_le,Nat.not_lt,Int.not_lt,Int.not_le] at hc47
        refine Ev.skip ?_
        refine Ev.seq ?_
        refine Ev.block ?_
        refine Ev.seq ?_
        refine Ev.reg [] [1,10,11,14,15,44,45,46] (st' := ⟨(yh2 ws i xs),(yh38 ws xs nums)⟩)
          (p := True∧(0 ≤ ((i : Nat) : Int)∧((i : Nat) : Int) < (xs.length : Int))∧T3 True) (by kernel_rfl)
          ⟨oK,(by first | omega | (simp; first | done | omega)),oK,oK,oK,oK⟩ ?_
        refine Ev.seq ?_
        rcases Int.lt_or_le (xs.getD i 0) 0 with hn | hn
        · skip
          refine Ev.reg [(1,.val (dB true))] [1,10,11,44,45,46,61] (st' := ⟨(yh9 ws xs i),(yh38 ws xs nums)⟩)
            (p := True∧(True∧(decide ((xs.getD i 0) < 0)) = true)∧T9 True) (by kernel_rfl)
            ⟨oK,⟨oK,(by simpa using hn)⟩,oK,oK,oK,oK,oK,oK,oK,oK,oK,oK⟩ ?_
          refine Ev.cond true rfl (fun _ => ?_) (fun h => (by cases h))
          refine Ev.seq ?_
          refine Ev.reg [] [8,9] (st' := ⟨yh8,(yh38 ws xs nums)⟩)
            (p := T2 True) (by kernel_rfl)
            ⟨oK,oK,oK⟩ ?_
          refine Ev.ret ?_
          refine ⟨⟨oK,oK,oK⟩,(?_ : (0 : Int) = (applyV 9 ws xs nums)∧(1 : Int) = (applyE 9 ws xs nums)∧True),.inr ⟨oK,oK,oK⟩⟩
          exact ⟨(ap_no (ap_in (i := i) (by omega) (.inl hn))).1.symm,(ap_no (ap_in (i := i) (by omega) (.inl hn))).2.symm,oK⟩
        · skip
          refine Ev.reg [(1,.val (dB false)),(8,.call none false (yh32 ws i))] [1,10,11,44,45,46,61] (st' := ⟨[(1,(LI ws)),(10,yh30),(11,yh33),(44,(LI xs)),(45,(yh7 xs)),(46,(yh31 i)),(61,(dB (decide ((xs.getD i 0) > (maskF (ws.getD i 0))))))],(yh38 ws xs nums)⟩)
            (p := True∧(True∧(decide ((xs.getD i 0) < 0)) = false)∧T4 ((0 ≤ ((i : Nat) : Int)∧((i : Nat) : Int) < (ws.length : Int))∧True∧callOb Try.prog 14 (yh38 ws xs nums) [(i6 (ws.getD i 0))] none false (yh32 ws i)∧T2 True)) (by kernel_rfl)
            ⟨oK,⟨oK,(by simpa using hn)⟩,oK,oK,oK,oK,(by first | omega | (simp; first | done | omega)),oK,(mask_ok _),oK,oK,oK⟩ ?_
          refine Ev.cond _ rfl (fun hc61 => ?_) (fun hc61 => ?_)
          · try simp only [decide_eq_true_eq,decide_eq_false_iff_not,beq_iff_eq,bne_iff_ne,ne_eq,beq_eq_false_iff_ne,bne_eq_false_iff_eq,Bool.not_eq_true,Bool.not_eq_false,Bool.not_eq_true',Bool.not_eq_false',Bool.not_not,gt_iff_lt,ge_iff_le,Nat.not_lt,Int.not_lt,Int.not_le] at hc61
            refine Ev.seq ?_
            refine Ev.reg [] [8,9] (st' := ⟨yh8,(yh38 ws xs nums)⟩)
              (p := T2 True) (by kernel_rfl)
              ⟨oK,oK,oK⟩ ?_
            refine Ev.ret ?_
            refine ⟨⟨oK,oK,oK⟩,(?_ : (0 : Int) = (applyV 9 ws xs nums)∧(1 : Int) = (applyE 9 ws xs nums)∧True),.inr ⟨oK,oK,oK⟩⟩
            exact ⟨(ap_no (ap_in (i := i) (by omega) (.inr (by omega)))).1.symm,(ap_no (ap_in (i := i) (by omega) (.inr (by omega)))).2.symm,oK⟩
          · try simp only [decide_eq_true_eq,decide_eq_false_iff_not,beq_iff_eq,bne_iff_ne,ne_eq,beq_eq_false_iff_ne,bne_eq_false_iff_eq,Bool.not_eq_true,Bool.not_eq_false,Bool.not_eq_true',Bool.not_eq_false',Bool.not_not,gt_iff_lt,ge_iff_le,Nat.not_lt,Int.not_lt,Int.not_le] at hc61
            refine Ev.skip ?_
            refine Ev.reg [(0,.val (yh34 i))] [1,10,11,44,45,46] (st' := ⟨(yh10 ws xs i),(yh38 ws xs nums)⟩)
              (p := (True∧(IntKind.wrap .i64 (((i : Nat) : Int) + 1)) = ((i + 1 : Nat) : Int))∧True∧True) (by kernel_rfl)
              ⟨⟨oK,(w64n (by first | rfl | simp | omega) (by first | omega | (simp; first | done | omega)))⟩,oK,oK⟩ ?_
            refine ⟨i + 1,by kernel_rfl,(?_ : (i + 1) ≤ xs.length∧∀ j,j < (i + 1) → 0 ≤ xs.getD j 0∧xs.getD j 0 ≤ maskF (ws.getD j 0)),(?_ : xs.length - (i + 1) < xs.length - i)⟩
            · exact ⟨by omega,lt_more hall ⟨by omega,by omega⟩⟩
            · omega
      · try simp only [decide_eq_true_eq,decide_eq_false_iff_not,beq_iff_eq,bne_iff_ne,ne_eq,beq_eq_false_iff_ne,bne_eq_false_iff_eq,Bool.not_eq_true,Bool.not_eq_false,Bool.not_eq_true',Bool.not_eq_false',Bool.not_not,gt_iff_lt,ge_iff_le,Nat.not_lt,Int.not_lt,Int.not_le] at hc47
        refine Ev.exit ?_
        refine Ev.seq ?_
        have hin : inF ws xs = true := in_all (fun j hj => hall j (by omega))
        obtain ⟨hl0,hf,-⟩ := ok_yes h
        have hA : arityF 9 = 2 := by decide
        rw [hA] at hl0
        refine Ev.reg [(3,.call none false (i6 (avF 9 ws xs (nums.getD 0 0) (nums.getD 1 0))))] [8,9] (st' := ⟨[(8,(i6 (avF 9 ws xs (nums.getD 0 0) (nums.getD 1 0)))),(9,(i6 0))],(yh38 ws xs nums)⟩)
          (p := T3 (callOb Try.prog 51 (yh38 ws xs nums) [(yh1 ws xs nums)] none false (i6 (avF 9 ws xs (nums.getD 0 0) (nums.getD 1 0)))∧T2 True)) (by kernel_rfl)
          ⟨oK,oK,oK,(lt_ok _ _ _ _ (by omega) (by assumption) (by omega) (by assumption)),oK,oK,oK⟩ ?_
        refine Ev.ret ?_
        refine ⟨⟨oK,oK,oK⟩,(?_ : (avF 9 ws xs (nums.getD 0 0) (nums.getD 1 0)) = (applyV 9 ws xs nums)∧(0 : Int) = (applyE 9 ws xs nums)∧True),.inr ⟨oK,oK,oK⟩⟩
        exact ⟨(ap_yes hx.1 hx.2 h hin).1.symm,(ap_yes hx.1 hx.2 h hin).2.symm,oK⟩

set_option maxRecDepth 100000 in
theorem Apply_10 (ws xs nums : List Int) (hwl : ws.length ≤ 9223372036854775807) (hxl : xs.length ≤ 9223372036854775807) : CallOk Try.prog 12 [(i6 10),(LI ws),(LI xs),(LI nums)] [] false (.tup [(i6 (applyV 10 ws xs nums)),(i6 (applyE 10 ws xs nums))]) [] := by
  refine CallOk.of_ev Try.func12 rfl rfl rfl ?_
  rintro ⟨_,W,S0,_,susp,_⟩ rfl rfl rfl
  refine Ev.seq ?_
  refine Ev.reg [] [0,1,2,3] (st' := ⟨[(0,(i6 10)),(1,(LI ws)),(2,(LI xs)),(3,(LI nums))],[]⟩)
    (p := T2 True) (by kernel_rfl)
    ⟨oK,oK,oK⟩ ?_
  refine Ev.seq ?_
  refine Ev.seq ?_
  rcases (show nums.length ≠ 2 ∨ (nums.length = 2∧xs.length ≠ ws.length) ∨ (nums.length = 2∧xs.length = ws.length) from by omega) with hx | hx | hx
  · skip
    refine Ev.reg [(2,.val (dB true))] [0,1,2,3,25] (st' := ⟨[(0,(i6 10)),(1,(LI ws)),(2,(LI xs)),(3,(LI nums)),(25,(dB true))],[]⟩)
      (p := T2 ((True∧(((nums.length : Nat) : Int) != 2) = true)∧T7 True)) (by kernel_rfl)
      ⟨oK,oK,⟨oK,(by exact bne_iff_ne.2 (by omega))⟩,oK,oK,oK,oK,oK,oK,oK,oK⟩ ?_
    refine Ev.cond true rfl (fun _ => ?_) (fun h => (by cases h))
    refine Ev.seq ?_
    refine Ev.reg [] [8,9] (st' := ⟨yh8,[]⟩)
      (p := T2 True) (by kernel_rfl)
      ⟨oK,oK,oK⟩ ?_
    refine Ev.ret ?_
    refine ⟨⟨oK,oK,oK⟩,(?_ : (0 : Int) = (applyV 10 ws xs nums)∧(1 : Int) = (applyE 10 ws xs nums)∧True),.inr ⟨oK,oK,oK⟩⟩
    exact ⟨(ap_no (ap_n hx)).1.symm,(ap_no (ap_n hx)).2.symm,oK⟩
  · skip
    refine Ev.reg [(2,.val (dB false)),(8,.val (dB true))] [0,1,2,3,25] (st' := ⟨[(0,(i6 10)),(1,(LI ws)),(2,(LI xs)),(3,(LI nums)),(25,(dB true))],[]⟩)
      (p := T2 ((True∧(((nums.length : Nat) : Int) != 2) = false)∧T5 ((True∧(((xs.length : Nat) : Int) != ((ws.length : Nat) : Int)) = true)∧True∧True))) (by kernel_rfl)
      ⟨oK,oK,⟨oK,(by rw [hx.1]; rfl)⟩,oK,oK,oK,oK,oK,⟨oK,(by exact bne_iff_ne.2 (by omega))⟩,oK,oK⟩ ?_
    refine Ev.cond true rfl (fun _ => ?_) (fun h => (by cases h))
    refine Ev.seq ?_
    refine Ev.reg [] [8,9] (st' := ⟨yh8,[]⟩)
      (p := T2 True) (by kernel_rfl)
      ⟨oK,oK,oK⟩ ?_
    refine Ev.ret ?_
    refine ⟨⟨oK,oK,oK⟩,(?_ : (0 : Int) = (applyV 10 ws xs nums)∧(1 : Int) = (applyE 10 ws xs nums)∧True),.inr ⟨oK,oK,oK⟩⟩
    exact ⟨(ap_no (ap_l hx.2)).1.symm,(ap_no (ap_l hx.2)).2.symm,oK⟩
  · skip
    refine Ev.reg [(2,.val (dB false)),(8,.val (dB false))] [0,1,2,3,25] (st' := ⟨[(0,(i6 10)),(1,(LI ws)),(2,(LI xs)),(3,(LI nums)),(25,(dB false))],[]⟩)
      (p := T2 ((True∧(((nums.length : Nat) : Int) != 2) = false)∧T5 ((True∧(((xs.length : Nat) : Int) != ((ws.length : Nat) : Int)) = false)∧True∧True))) (by kernel_rfl)
      ⟨oK,oK,⟨oK,(by rw [hx.1]; rfl)⟩,oK,oK,oK,oK,oK,⟨oK,(by rw [hx.2]; simp)⟩,oK,oK⟩ ?_
    refine Ev.cond false rfl (fun h => (by cases h)) (fun _ => ?_)
    refine Ev.skip ?_
    refine Ev.seq ?_
    refine Ev.draw 10 [false,false,false,false,false,false,false,false,false,false] [] [0,1,2,10] (st' := ⟨[(0,(i6 10)),(1,(LI ws)),(2,(LI xs)),(10,yh30)],[(yh0 ws xs nums)]⟩)
      (p := (T3 ((0 ≤ (0 : Int)∧0 < (nums.length : Int))∧T2 ((0 ≤ (1 : Int)∧1 < (nums.length : Int))∧T3 True)))∧(True∧True)) (by kernel_rfl) (by kernel_rfl)
      ⟨⟨oK,oK,oK,(by first | omega | (simp; first | done | omega)),oK,oK,(by first | omega | (simp; first | done | omega)),oK,oK,oK,oK⟩,⟨oK,oK⟩⟩ ?_
    refine Ev.seq ?_
    rcases ok3 10 ws (nums.getD 0 0) (nums.getD 1 0) with ⟨hb,h⟩ | ⟨hb,hv,h⟩ | h
    · skip
      refine Ev.reg [(2,.call none true yh21)] [1,2,10,11,13] (st' := ⟨(yh5 ws xs),(yh29 ws xs nums)⟩)
        (p := T2 (callOb Try.prog 27 [(yh0 ws xs nums)] [(i6 10),(yh1 ws xs nums)] none true yh21∧T8 True)) (by kernel_rfl)
        ⟨oK,oK,(width_bad_10 _ _ _ _ hwl hb),oK,oK,oK,oK,oK,oK,oK,oK,oK⟩ ?_
      refine Ev.seq ?_
      refine Ev.seq ?_
      refine Ev.reg [] [1,2,10,11,43] (st' := ⟨(yh6 ws xs),(yh29 ws xs nums)⟩)
        (p := T2 True) (by kernel_rfl)
        ⟨oK,oK,oK⟩ ?_
      refine Ev.cond true rfl (fun _ => ?_) (fun h => (by cases h))
      refine Ev.seq ?_
      refine Ev.reg [] [8,9] (st' := ⟨yh8,(yh29 ws xs nums)⟩)
        (p := T2 True) (by kernel_rfl)
        ⟨oK,oK,oK⟩ ?_
      refine Ev.ret ?_
      refine ⟨⟨oK,oK,oK⟩,(?_ : (0 : Int) = (applyV 10 ws xs nums)∧(1 : Int) = (applyE 10 ws xs nums)∧True),.inr ⟨oK,oK,oK⟩⟩
      exact ⟨(ap_no (ap_bad h)).1.symm,(ap_no (ap_bad h)).2.symm,oK⟩
    · skip
      refine Ev.reg [(2,.call none true (.tup [(.agg yh16),(i6 (wvF 10 ws (nums.getD 0 0) (nums.getD 1 0))),(dB false)]))] [1,2,10,11,13] (st' := ⟨(yh5 ws xs),(yh39 ws xs nums)⟩)
        (p := T2 (callOb Try.prog 27 [(yh0 ws xs nums)] [(i6 10),(yh1 ws xs nums)] none true (.tup [(.agg yh16),(i6 (wvF 10 ws (nums.getD 0 0) (nums.getD 1 0))),(dB false)])∧T8 True)) (by kernel_rfl)
        ⟨oK,oK,(width_wv_10 _ _ _ _ hwl hb hv),oK,oK,oK,oK,oK,oK,oK,oK,oK⟩ ?_
      refine Ev.seq ?_
      refine Ev.seq ?_
      refine Ev.reg [] [1,2,10,11,43] (st' := ⟨(yh6 ws xs),(yh39 ws xs nums)⟩)
        (p := T2 True) (by kernel_rfl)
        ⟨oK,oK,oK⟩ ?_
      refine Ev.cond true rfl (fun _ => ?_) (fun h => (by cases h))
      refine Ev.seq ?_
      refine Ev.reg [] [8,9] (st' := ⟨yh8,(yh39 ws xs nums)⟩)
        (p := T2 True) (by kernel_rfl)
        ⟨oK,oK,oK⟩ ?_
      refine Ev.ret ?_
      refine ⟨⟨oK,oK,oK⟩,(?_ : (0 : Int) = (applyV 10 ws xs nums)∧(1 : Int) = (applyE 10 ws xs nums)∧True),.inr ⟨oK,oK,oK⟩⟩
      exact ⟨(ap_no (ap_bad h)).1.symm,(ap_no (ap_bad h)).2.symm,oK⟩
    · skip
      refine Ev.reg [(2,.call none true (.tup [(.agg yh16),(i6 (wvF 10 ws (nums.getD 0 0) (nums.getD 1 0))),(dB true)]))] [1,2,10,11,13] (st' := ⟨(yh23 ws xs),(yh39 ws xs nums)⟩)
        (p := T2 (callOb Try.prog 27 [(yh0 ws xs nums)] [(i6 10),(yh1 ws xs nums)] none true (.tup [(.agg yh16),(i6 (wvF 10 ws (nums.getD 0 0) (nums.getD 1 0))),(dB true)])∧T8 True)) (by kernel_rfl)
        ⟨oK,oK,(width_good_10 _ _ _ _ hwl h),oK,oK,oK,oK,oK,oK,oK,oK,oK⟩ ?_
      refine Ev.seq ?_
      refine Ev.seq ?_
      refine Ev.reg [] [1,2,10,11,43] (st' := ⟨(yh22 ws xs),(yh39 ws xs nums)⟩)
        (p := T2 True) (by kernel_rfl)
        ⟨oK,oK,oK⟩ ?_
      refine Ev.cond false rfl (fun h => (by cases h)) (fun _ => ?_)
      refine Ev.skip ?_
      refine Ev.seq ?_
      refine Ev.seq ?_
      refine Ev.reg [] [1,10,11,44,45,46] (st' := ⟨(yh20 ws xs),(yh39 ws xs nums)⟩)
        (p := T3 True) (by kernel_rfl)
        ⟨oK,oK,oK,oK⟩ ?_
      refine Ev.block ?_
      refine Ev.loop [1,10,11,44,45,46] 2 (fun (i : Nat) => ⟨(yh11 ws xs i),(yh39 ws xs nums)⟩) (fun (i : Nat) => i ≤ xs.length∧∀ j,j < i → 0 ≤ xs.getD j 0∧xs.getD j 0 ≤ maskF (ws.getD j 0)) (fun (i : Nat) => xs.length - i) 0 (by kernel_rfl) (⟨by omega,fun j hj => by omega⟩) ?_
      rintro i hinv
      have hinv : i ≤ xs.length∧∀ j,j < i → 0 ≤ xs.getD j 0∧xs.getD j 0 ≤ maskF (ws.getD j 0) := hinv
      obtain ⟨hi,hall⟩ := hinv
      refine Ev.seq ?_
      refine Ev.reg [] [1,10,11,44,45,46,47] (st' := ⟨[(1,(LI ws)),(10,yh30),(11,yh33),(44,(LI xs)),(45,(yh7 xs)),(46,(yh31 i)),(47,(dB (decide (((i : Nat) : Int) < ((xs.length : Nat) : Int)))))],(yh39 ws xs nums)⟩)
        (p := True∧True) (by kernel_rfl)
        ⟨oK,oK⟩ ?_
      refine Ev.seq ?_
      refine Ev.cond _ rfl (fun hc47 => ?_) (fun hc47 => ?_)
      · try simp only [decide_eq_true_eq,decide_eq_false_iff_not,beq_iff_eq,bne_iff_ne,ne_eq,beq_eq_false_iff_ne,bne_eq_false_iff_eq,Bool.not_eq_true,Bool.not_eq_false,Bool.not_eq_true',Bool.not_eq_false',Bool.not_not,gt_iff_lt,ge_iff_le,Nat.not_lt,Int.not_lt,Int.not_le] at hc47
        refine Ev.skip ?_
        refine Ev.seq ?_
        refine Ev.block ?_
        refine Ev.seq ?_
        refine Ev.reg [] [1,10,11,14,15,44,45,46] (st' := ⟨(yh2 ws i xs),(yh39 ws xs nums)⟩)
          (p := True∧(0 ≤ ((i : Nat) : Int)∧((i : Nat) : Int) < (xs.length : Int))∧T3 True) (by kernel_rfl)
          ⟨oK,(by first | omega | (simp; first | done | omega)),oK,oK,oK,oK⟩ ?_
        refine Ev.seq ?_
        rcases Int.lt_or_le (xs.getD i 0) 0 with hn | hn
        · skip
          refine Ev.reg [(1,.val (dB true))] [1,10,11,44,45,46,61] (st' := ⟨(yh9 ws xs i),(yh39 ws xs nums)⟩)
            (p := True∧(True∧(decide ((xs.getD i 0) < 0)) = true)∧T9 True) (by kernel_rfl)
            ⟨oK,⟨oK,(by simpa using hn)⟩,oK,oK,oK,oK,oK,oK,oK,oK,oK,oK⟩ ?_
          refine Ev.cond true rfl (fun _ => ?_) (fun h => (by cases h))
          refine Ev.seq ?_
          refine Ev.reg [] [8,9] (st' := ⟨yh8,(yh39 ws xs nums)⟩)
            (p := T2 True) (by kernel_rfl)
            ⟨oK,oK,oK⟩ ?_
          refine Ev.ret ?_
          refine ⟨⟨oK,oK,oK⟩,(?_ : (0 : Int) = (applyV 10 ws xs nums)∧(1 : Int) = (applyE 10 ws xs nums)∧True),.inr ⟨oK,oK,oK⟩⟩
          exact ⟨(ap_no (ap_in (i := i) (by omega) (.inl hn))).1.symm,(ap_no (ap_in (i := i) (by omega) (.inl hn))).2.symm,oK⟩
        · skip
          refine Ev.reg [(1,.val (dB false)),(8,.call none false (yh32 ws i))] [1,10,11,44,45,46,61] (st' := ⟨[(1,(LI ws)),(10,yh30),(11,yh33),(44,(LI xs)),(45,(yh7 xs)),(46,(yh31 i)),(61,(dB (decide ((xs.getD i 0) > (maskF (ws.getD i 0))))))],(yh39 ws xs nums)⟩)
            (p := True∧(True∧(decide ((xs.getD i 0) < 0)) = false)∧T4 ((0 ≤ ((i : Nat) : Int)∧((i : Nat) : Int) < (ws.length : Int))∧True∧callOb Try.prog 14 (yh39 ws xs nums) [(i6 (ws.getD i 0))] none false (yh32 ws i)∧T2 True)) (by kernel_rfl)
            ⟨oK,⟨oK,(by simpa using hn)⟩,oK,oK,oK,oK,(by first | omega | (simp; first | done | omega)),oK,(mask_ok _),oK,oK,oK⟩ ?_
          refine Ev.cond _ rfl (fun hc61 => ?_) (fun hc61 => ?_)
          · try simp only [decide_eq_true_eq,decide_eq_false_iff_not,beq_iff_eq,bne_iff_ne,ne_eq,beq_eq_false_iff_ne,bne_eq_false_iff_eq,Bool.not_eq_true,Bool.not_eq_false,Bool.not_eq_true',Bool.not_eq_false',Bool.not_not,gt_iff_lt,ge_iff_le,Nat.not_lt,Int.not_lt,Int.not_le] at hc61
            refine Ev.seq ?_
            refine Ev.reg [] [8,9] (st' := ⟨yh8,(yh39 ws xs nums)⟩)
              (p := T2 True) (by kernel_rfl)
              ⟨oK,oK,oK⟩ ?_
            refine Ev.ret ?_
            refine ⟨⟨oK,oK,oK⟩,(?_ : (0 : Int) = (applyV 10 ws xs nums)∧(1 : Int) = (applyE 10 ws xs nums)∧True),.inr ⟨oK,oK,oK⟩⟩
            exact ⟨(ap_no (ap_in (i := i) (by omega) (.inr (by omega)))).1.symm,(ap_no (ap_in (i := i) (by omega) (.inr (by omega)))).2.symm,oK⟩
          · try simp only [decide_eq_true_eq,decide_eq_false_iff_not,beq_iff_eq,bne_iff_ne,ne_eq,beq_eq_false_iff_ne,bne_eq_false_iff_eq,Bool.not_eq_true,Bool.not_eq_false,Bool.not_eq_true',Bool.not_eq_false',Bool.not_not,gt_iff_lt,ge_iff_le,Nat.not_lt,Int.not_lt,Int.not_le] at hc61
            refine Ev.skip ?_
            refine Ev.reg [(0,.val (yh34 i))] [1,10,11,44,45,46] (st' := ⟨(yh10 ws xs i),(yh39 ws xs nums)⟩)
              (p := (True∧(IntKind.wrap .i64 (((i : Nat) : Int) + 1)) = ((i + 1 : Nat) : Int))∧True∧True) (by kernel_rfl)
              ⟨⟨oK,(w64n (by first | rfl | simp | omega) (by first | omega | (simp; first | done | omega)))⟩,oK,oK⟩ ?_
            refine ⟨i + 1,by kernel_rfl,(?_ : (i + 1) ≤ xs.length∧∀ j,j < (i + 1) → 0 ≤ xs.getD j 0∧xs.getD j 0 ≤ maskF (ws.getD j 0)),(?_ : xs.length - (i + 1) < xs.length - i)⟩
            · exact ⟨by omega,lt_more hall ⟨by omega,by omega⟩⟩
            · omega
      · try simp only [decide_eq_true_eq,decide_eq_false_iff_not,beq_iff_eq,bne_iff_ne,ne_eq,beq_eq_false_iff_ne,bne_eq_false_iff_eq,Bool.not_eq_true,Bool.not_eq_false,Bool.not_eq_true',Bool.not_eq_false',Bool.not_not,gt_iff_lt,ge_iff_le,Nat.not_lt,Int.not_lt,Int.not_le] at hc47
        refine Ev.exit ?_
        refine Ev.seq ?_
        have hin : inF ws xs = true := in_all (fun j hj => hall j (by omega))
        obtain ⟨hl0,hf,-⟩ := ok_yes h
        have hA : arityF 10 = 3 := by decide
        rw [hA] at hl0
        have hm1 := mux_one h
        refine Ev.reg [(3,.call none false (i6 (avF 10 ws xs (nums.getD 0 0) (nums.getD 1 0))))] [8,9] (st' := ⟨[(8,(i6 (avF 10 ws xs (nums.getD 0 0) (nums.getD 1 0)))),(9,(i6 0))],(yh39 ws xs nums)⟩)
          (p := T3 (callOb Try.prog 55 (yh39 ws xs nums) [(yh1 ws xs nums)] none false (i6 (avF 10 ws xs (nums.getD 0 0) (nums.getD 1 0)))∧T2 True)) (by kernel_rfl)
          ⟨oK,oK,oK,(mux_ok _ _ _ _ (by omega) (by assumption) (by omega) (by assumption) (by assumption)),oK,oK,oK⟩ ?_
        refine Ev.ret ?_
        refine ⟨⟨oK,oK,oK⟩,(?_ : (avF 10 ws xs (nums.getD 0 0) (nums.getD 1 0)) = (applyV 10 ws xs nums)∧(0 : Int) = (applyE 10 ws xs nums)∧True),.inr ⟨oK,oK,oK⟩⟩
        exact ⟨(ap_yes hx.1 hx.2 h hin).1.symm,(ap_yes hx.1 hx.2 h hin).2.symm,oK⟩

set_option maxRecDepth 100000 in
theorem Apply_11 (ws xs nums : List Int) (hwl : ws.length ≤ 9223372036854775807) (hxl : xs.length ≤ 9223372036854775807) : CallOk Try.prog 12 [(i6 11),(LI ws),(LI xs),(LI nums)] [] false (.tup [(i6 (applyV 11 ws xs nums)),(i6 (applyE 11 ws xs nums))]) [] := by
  refine CallOk.of_ev Try.func12 rfl rfl rfl ?_
  rintro ⟨_,W,S0,_,susp,_⟩ rfl rfl rfl
  refine Ev.seq ?_
  refine Ev.reg [] [0,1,2,3] (st' := ⟨[(0,(i6 11)),(1,(LI ws)),(2,(LI xs)),(3,(LI nums))],[]⟩)
    (p := T2 True) (by kernel_rfl)
    ⟨oK,oK,oK⟩ ?_
  refine Ev.seq ?_
  refine Ev.seq ?_
  rcases (show nums.length ≠ 2 ∨ (nums.length = 2∧xs.length ≠ ws.length) ∨ (nums.length = 2∧xs.length = ws.length) from by omega) with hx | hx | hx
  · skip
    refine Ev.reg [(2,.val (dB true))] [0,1,2,3,25] (st' := ⟨[(0,(i6 11)),(1,(LI ws)),(2,(LI xs)),(3,(LI nums)),(25,(dB true))],[]⟩)
      (p := T2 ((True∧(((nums.length : Nat) : Int) != 2) = true)∧T7 True)) (by kernel_rfl)
      ⟨oK,oK,⟨oK,(by exact bne_iff_ne.2 (by omega))⟩,oK,oK,oK,oK,oK,oK,oK,oK⟩ ?_
    refine Ev.cond true rfl (fun _ => ?_) (fun h => (by cases h))
    refine Ev.seq ?_
    refine Ev.reg [] [8,9] (st' := ⟨yh8,[]⟩)
      (p := T2 True) (by kernel_rfl)
      ⟨oK,oK,oK⟩ ?_
    refine Ev.ret ?_
    refine ⟨⟨oK,oK,oK⟩,(?_ : (0 : Int) = (applyV 11 ws xs nums)∧(1 : Int) = (applyE 11 ws xs nums)∧True),.inr ⟨oK,oK,oK⟩⟩
    exact ⟨(ap_no (ap_n hx)).1.symm,(ap_no (ap_n hx)).2.symm,oK⟩
  · skip
    refine Ev.reg [(2,.val (dB false)),(8,.val (dB true))] [0,1,2,3,25] (st' := ⟨[(0,(i6 11)),(1,(LI ws)),(2,(LI xs)),(3,(LI nums)),(25,(dB true))],[]⟩)
      (p := T2 ((True∧(((nums.length : Nat) : Int) != 2) = false)∧T5 ((True∧(((xs.length : Nat) : Int) != ((ws.length : Nat) : Int)) = true)∧True∧True))) (by kernel_rfl)
      ⟨oK,oK,⟨oK,(by rw [hx.1]; rfl)⟩,oK,oK,oK,oK,oK,⟨oK,(by exact bne_iff_ne.2 (by omega))⟩,oK,oK⟩ ?_
    refine Ev.cond true rfl (fun _ => ?_) (fun h => (by cases h))
    refine Ev.seq ?_
    refine Ev.reg [] [8,9] (st' := ⟨yh8,[]⟩)
      (p := T2 True) (by kernel_rfl)
      ⟨oK,oK,oK⟩ ?_
    refine Ev.ret ?_
    refine ⟨⟨oK,oK,oK⟩,(?_ : (0 : Int) = (applyV 11 ws xs nums)∧(1 : Int) = (applyE 11 ws xs nums)∧True),.inr ⟨oK,oK,oK⟩⟩
    exact ⟨(ap_no (ap_l hx.2)).1.symm,(ap_no (ap_l hx.2)).2.symm,oK⟩
  · skip
    refine Ev.reg [(2,.val (dB false)),(8,.val (dB false))] [0,1,2,3,25] (st' := ⟨[(0,(i6 11)),(1,(LI ws)),(2,(LI xs)),(3,(LI nums)),(25,(dB false))],[]⟩)
      (p := T2 ((True∧(((nums.length : Nat) : Int) != 2) = false)∧T5 ((True∧(((xs.length : Nat) : Int) != ((ws.length : Nat) : Int)) = false)∧True∧True))) (by kernel_rfl)
      ⟨oK,oK,⟨oK,(by rw [hx.1]; rfl)⟩,oK,oK,oK,oK,oK,⟨oK,(by rw [hx.2]; simp)⟩,oK,oK⟩ ?_
    refine Ev.cond false rfl (fun h => (by cases h)) (fun _ => ?_)
    refine Ev.skip ?_
    refine Ev.seq ?_
    refine Ev.draw 10 [false,false,false,false,false,false,false,false,false,false] [] [0,1,2,10] (st' := ⟨[(0,(i6 11)),(1,(LI ws)),(2,(LI xs)),(10,yh30)],[(yh0 ws xs nums)]⟩)
      (p := (T3 ((0 ≤ (0 : Int)∧0 < (nums.length : Int))∧T2 ((0 ≤ (1 : Int)∧1 < (nums.length : Int))∧T3 True)))∧(True∧True)) (by kernel_rfl) (by kernel_rfl)
      ⟨⟨oK,oK,oK,(by first | omega | (simp; first | done | omega)),oK,oK,(by first | omega | (simp; first | done | omega)),oK,oK,oK,oK⟩,⟨oK,oK⟩⟩ ?_
    refine Ev.seq ?_
    rcases ok3 11 ws (nums.getD 0 0) (nums.getD 1 0) with ⟨hb,h⟩ | ⟨hb,hv,h⟩ | h
    · skip
      refine Ev.reg [(2,.call none true yh21)] [1,2,10,11,13] (st' := ⟨(yh5 ws xs),(yh29 ws xs nums)⟩)
        (p := T2 (callOb Try.prog 27 [(yh0 ws xs nums)] [(i6 11),(yh1 ws xs nums)] none true yh21∧T8 True)) (by kernel_rfl)
        ⟨oK,oK,(width_bad_11 _ _ _ _ hwl hb),oK,oK,oK,oK,oK,oK,oK,oK,oK⟩ ?_
      refine Ev.seq ?_
      refine Ev.seq ?_
      refine Ev.reg [] [1,2,10,11,43] (st' := ⟨(yh6 ws xs),(yh29 ws xs nums)⟩)
        (p := T2 True) (by kernel_rfl)
        ⟨oK,oK,oK⟩ ?_
      refine Ev.cond true rfl (fun _ => ?_) (fun h => (by cases h))
      refine Ev.seq ?_
      refine Ev.reg [] [8,9] (st' := ⟨yh8,(yh29 ws xs nums)⟩)
        (p := T2 True) (by kernel_rfl)
        ⟨oK,oK,oK⟩ ?_
      refine Ev.ret ?_
      refine ⟨⟨oK,oK,oK⟩,(?_ : (0 : Int) = (applyV 11 ws xs nums)∧(1 : Int) = (applyE 11 ws xs nums)∧True),.inr ⟨oK,oK,oK⟩⟩
      exact ⟨(ap_no (ap_bad h)).1.symm,(ap_no (ap_bad h)).2.symm,oK⟩
    · skip
      refine Ev.reg [(2,.call none true (.tup [(.agg yh17),(i6 (wvF 11 ws (nums.getD 0 0) (nums.getD 1 0))),(dB false)]))] [1,2,10,11,13] (st' := ⟨(yh5 ws xs),(yh40 ws xs nums)⟩)
        (p := T2 (callOb Try.prog 27 [(yh0 ws xs nums)] [(i6 11),(yh1 ws xs nums)] none true (.tup [(.agg yh17),(i6 (wvF 11 ws (nums.getD 0 0) (nums.getD 1 0))),(dB false)])∧T8 True)) (by kernel_rfl)
        ⟨oK,oK,(width_wv_11 _ _ _ _ hwl hb hv),oK,oK,oK,oK,oK,oK,oK,oK,oK⟩ ?_
      refine Ev.seq ?_
      refine Ev.seq ?_
      refine Ev.reg [] [1,2,10,11,43] (st' := ⟨(yh6 ws xs),(yh40 ws xs nums)⟩)
        (p := T2 True) (by kernel_rfl)
        ⟨oK,oK,oK⟩ ?_
      refine Ev.cond true rfl (fun _ => ?_) (fun h => (by cases h))
      refine Ev.seq ?_
      refine Ev.reg [] [8,9] (st' := ⟨yh8,(yh40 ws xs nums)⟩)
        (p := T2 True) (by kernel_rfl)
        ⟨oK,oK,oK⟩ ?_
      refine Ev.ret ?_
      refine ⟨⟨oK,oK,oK⟩,(?_ : (0 : Int) = (applyV 11 ws xs nums)∧(1 : Int) = (applyE 11 ws xs nums)∧True),.inr ⟨oK,oK,oK⟩⟩
      exact ⟨(ap_no (ap_bad h)).1.symm,(ap_no (ap_bad h)).2.symm,oK⟩
    · skip
      refine Ev.reg [(2,.call none true (.tup [(.agg yh17),(i6 (wvF 11 ws (nums.getD 0 0) (nums.getD 1 0))),(dB true)]))] [1,2,10,11,13] (st' := ⟨(yh23 ws xs),(yh40 ws xs nums)⟩)
        (p := T2 (callOb Try.prog 27 [(yh0 ws xs nums)] [(i6 11),(yh1 ws xs nums)] none true (.tup [(.agg yh17),(i6 (wvF 11 ws (nums.getD 0 0) (nums.getD 1 0))),(dB true)])∧T8 True)) (by kernel_rfl)
        ⟨oK,oK,(width_good_11 _ _ _ _ hwl h),oK,oK,oK,oK,oK,oK,oK,oK,oK⟩ ?_
      refine Ev.seq ?_
      refine Ev.seq ?_
      refine Ev.reg [] [1,2,10,11,43] (st' := ⟨(yh22 ws xs),(yh40 ws xs nums)⟩)
        (p := T2 True) (by kernel_rfl)
        ⟨oK,oK,oK⟩ ?_
      refine Ev.cond false rfl (fun h => (by cases h)) (fun _ => ?_)
      refine Ev.skip ?_
      refine Ev.seq ?_
      refine Ev.seq ?_
      refine Ev.reg [] [1,10,11,44,45,46] (st' := ⟨(yh20 ws xs),(yh40 ws xs nums)⟩)
        (p := T3 True) (by kernel_rfl)
        ⟨oK,oK,oK,oK⟩ ?_
      refine Ev.block ?_
      refine Ev.loop [1,10,11,44,45,46] 2 (fun (i : Nat) => ⟨(yh11 ws xs i),(yh40 ws xs nums)⟩) (fun (i : Nat) => i ≤ xs.length∧∀ j,j < i → 0 ≤ xs.getD j 0∧xs.getD j 0 ≤ maskF (ws.getD j 0)) (fun (i : Nat) => xs.length - i) 0 (by kernel_rfl) (⟨by omega,fun j hj => by omega⟩) ?_
      rintro i hinv
      have hinv : i ≤ xs.length∧∀ j,j < i → 0 ≤ xs.getD j 0∧xs.getD j 0 ≤ maskF (ws.getD j 0) := hinv
      obtain ⟨hi,hall⟩ := hinv
      refine Ev.seq ?_
      refine Ev.reg [] [1,10,11,44,45,46,47] (st' := ⟨[(1,(LI ws)),(10,yh30),(11,yh33),(44,(LI xs)),(45,(yh7 xs)),(46,(yh31 i)),(47,(dB (decide (((i : Nat) : Int) < ((xs.length : Nat) : Int)))))],(yh40 ws xs nums)⟩)
        (p := True∧True) (by kernel_rfl)
        ⟨oK,oK⟩ ?_
      refine Ev.seq ?_
      refine Ev.cond _ rfl (fun hc47 => ?_) (fun hc47 => ?_)
      · try simp only [decide_eq_true_eq,decide_eq_false_iff_not,beq_iff_eq,bne_iff_ne,ne_eq,beq_eq_false_iff_ne,bne_eq_false_iff_eq,Bool.not_eq_true,Bool.not_eq_false,Bool.not_eq_true',Bool.not_eq_false',Bool.not_not,gt_iff_lt,ge_iff_le,Nat.not_lt,Int.not_lt,Int.not_le] at hc47
        refine Ev.skip ?_
        refine Ev.seq ?_
        refine Ev.block ?_
        refine Ev.seq ?_
        refine Ev.reg [] [1,10,11,14,15,44,45,46] (st' := ⟨(yh2 ws i xs),(yh40 ws xs nums)⟩)
          (p := True∧(0 ≤ ((i : Nat) : Int)∧((i : Nat) : Int) < (xs.length : Int))∧T3 True) (by kernel_rfl)
          ⟨oK,(by first | omega | (simp; first | done | omega)),oK,oK,oK,oK⟩ ?_
        refine Ev.seq ?_
        rcases Int.lt_or_le (xs.getD i 0) 0 with hn | hn
        · skip
          refine Ev.reg [(1,.val (dB true))] [1,10,11,44,45,46,61] (st' := ⟨(yh9 ws xs i),(yh40 ws xs nums)⟩)
            (p := True∧(True∧(decide ((xs.getD i 0) < 0)) = true)∧T9 True) (by kernel_rfl)
            ⟨oK,⟨oK,(by simpa using hn)⟩,oK,oK,oK,oK,oK,oK,oK,oK,oK,oK⟩ ?_
          refine Ev.cond true rfl (fun _ => ?_) (fun h => (by cases h))
          refine Ev.seq ?_
          refine Ev.reg [] [8,9] (st' := ⟨yh8,(yh40 ws xs nums)⟩)
            (p := T2 True) (by kernel_rfl)
            ⟨oK,oK,oK⟩ ?_
          refine Ev.ret ?_
          refine ⟨⟨oK,oK,oK⟩,(?_ : (0 : Int) = (applyV 11 ws xs nums)∧(1 : Int) = (applyE 11 ws xs nums)∧True),.inr ⟨oK,oK,oK⟩⟩
          exact ⟨(ap_no (ap_in (i := i) (by omega) (.inl hn))).1.symm,(ap_no (ap_in (i := i) (by omega) (.inl hn))).2.symm,oK⟩
        · skip
          refine Ev.reg [(1,.val (dB false)),(8,.call none false (yh32 ws i))] [1,10,11,44,45,46,61] (st' := ⟨[(1,(LI ws)),(10,yh30),(11,yh33),(44,(LI xs)),(45,(yh7 xs)),(46,(yh31 i)),(61,(dB (decide ((xs.getD i 0) > (maskF (ws.getD i 0))))))],(yh40 ws xs nums)⟩)
            (p := True∧(True∧(decide ((xs.getD i 0) < 0)) = false)∧T4 ((0 ≤ ((i : Nat) : Int)∧((i : Nat) : Int) < (ws.length : Int))∧True∧callOb Try.prog 14 (yh40 ws xs nums) [(i6 (ws.getD i 0))] none false (yh32 ws i)∧T2 True)) (by kernel_rfl)
            ⟨oK,⟨oK,(by simpa using hn)⟩,oK,oK,oK,oK,(by first | omega | (simp; first | done | omega)),oK,(mask_ok _),oK,oK,oK⟩ ?_
          refine Ev.cond _ rfl (fun hc61 => ?_) (fun hc61 => ?_)
          · try simp only [decide_eq_true_eq,decide_eq_false_iff_not,beq_iff_eq,bne_iff_ne,ne_eq,beq_eq_false_iff_ne,bne_eq_false_iff_eq,Bool.not_eq_true,Bool.not_eq_false,Bool.not_eq_true',Bool.not_eq_false',Bool.not_not,gt_iff_lt,ge_iff_le,Nat.not_lt,Int.not_lt,Int.not_le] at hc61
            refine Ev.seq ?_
            refine Ev.reg [] [8,9] (st' := ⟨yh8,(yh40 ws xs nums)⟩)
              (p := T2 True) (by kernel_rfl)
              ⟨oK,oK,oK⟩ ?_
            refine Ev.ret ?_
            refine ⟨⟨oK,oK,oK⟩,(?_ : (0 : Int) = (applyV 11 ws xs nums)∧(1 : Int) = (applyE 11 ws xs nums)∧True),.inr ⟨oK,oK,oK⟩⟩
            exact ⟨(ap_no (ap_in (i := i) (by omega) (.inr (by omega)))).1.symm,(ap_no (ap_in (i := i) (by omega) (.inr (by omega)))).2.symm,oK⟩
          · try simp only [decide_eq_true_eq,decide_eq_false_iff_not,beq_iff_eq,bne_iff_ne,ne_eq,beq_eq_false_iff_ne,bne_eq_false_iff_eq,Bool.not_eq_true,Bool.not_eq_false,Bool.not_eq_true',Bool.not_eq_false',Bool.not_not,gt_iff_lt,ge_iff_le,Nat.not_lt,Int.not_lt,Int.not_le] at hc61
            refine Ev.skip ?_
            refine Ev.reg [(0,.val (yh34 i))] [1,10,11,44,45,46] (st' := ⟨(yh10 ws xs i),(yh40 ws xs nums)⟩)
              (p := (True∧(IntKind.wrap .i64 (((i : Nat) : Int) + 1)) = ((i + 1 : Nat) : Int))∧True∧True) (by kernel_rfl)
              ⟨⟨oK,(w64n (by first | rfl | simp | omega) (by first | omega | (simp; first | done | omega)))⟩,oK,oK⟩ ?_
            refine ⟨i + 1,by kernel_rfl,(?_ : (i + 1) ≤ xs.length∧∀ j,j < (i + 1) → 0 ≤ xs.getD j 0∧xs.getD j 0 ≤ maskF (ws.getD j 0)),(?_ : xs.length - (i + 1) < xs.length - i)⟩
            · exact ⟨by omega,lt_more hall ⟨by omega,by omega⟩⟩
            · omega
      · try simp only [decide_eq_true_eq,decide_eq_false_iff_not,beq_iff_eq,bne_iff_ne,ne_eq,beq_eq_false_iff_ne,bne_eq_false_iff_eq,Bool.not_eq_true,Bool.not_eq_false,Bool.not_eq_true',Bool.not_eq_false',Bool.not_not,gt_iff_lt,ge_iff_le,Nat.not_lt,Int.not_lt,Int.not_le] at hc47
        refine Ev.exit ?_
        refine Ev.seq ?_
        have hin : inF ws xs = true := in_all (fun j hj => hall j (by omega))
        obtain ⟨hl0,hf,-⟩ := ok_yes h
        have hA : arityF 11 = 2 := by decide
        rw [hA] at hl0
        refine Ev.reg [(3,.call none false (i6 (avF 11 ws xs (nums.getD 0 0) (nums.getD 1 0))))] [8,9] (st' := ⟨[(8,(i6 (avF 11 ws xs (nums.getD 0 0) (nums.getD 1 0)))),(9,(i6 0))],(yh40 ws xs nums)⟩)
          (p := T3 (callOb Try.prog 57 (yh40 ws xs nums) [(yh1 ws xs nums)] none false (i6 (avF 11 ws xs (nums.getD 0 0) (nums.getD 1 0)))∧T2 True)) (by kernel_rfl)
          ⟨oK,oK,oK,(cat_ok _ _ _ _ (by omega) (by assumption) (by omega) (by assumption)),oK,oK,oK⟩ ?_
        refine Ev.ret ?_
        refine ⟨⟨oK,oK,oK⟩,(?_ : (avF 11 ws xs (nums.getD 0 0) (nums.getD 1 0)) = (applyV 11 ws xs nums)∧(0 : Int) = (applyE 11 ws xs nums)∧True),.inr ⟨oK,oK,oK⟩⟩
        exact ⟨(ap_yes hx.1 hx.2 h hin).1.symm,(ap_yes hx.1 hx.2 h hin).2.symm,oK⟩

set_option maxRecDepth 100000 in
theorem Apply_12 (ws xs nums : List Int) (hwl : ws.length ≤ 9223372036854775807) (hxl : xs.length ≤ 9223372036854775807) : CallOk Try.prog 12 [(i6 12),(LI ws),(LI xs),(LI nums)] [] false (.tup [(i6 (applyV 12 ws xs nums)),(i6 (applyE 12 ws xs nums))]) [] := by
  refine CallOk.of_ev Try.func12 rfl rfl rfl ?_
  rintro ⟨_,W,S0,_,susp,_⟩ rfl rfl rfl
  refine Ev.seq ?_
  refine Ev.reg [] [0,1,2,3] (st' := ⟨[(0,(i6 12)),(1,(LI ws)),(2,(LI xs)),(3,(LI nums))],[]⟩)
    (p := T2 True) (by kernel_rfl)
    ⟨oK,oK,oK⟩ ?_
  refine Ev.seq ?_
  refine Ev.seq ?_
  rcases (show nums.length ≠ 2 ∨ (nums.length = 2∧xs.length ≠ ws.length) ∨ (nums.length = 2∧xs.length = ws.length) from by omega) with hx | hx | hx
  · skip
    refine Ev.reg [(2,.val (dB true))] [0,1,2,3,25] (st' := ⟨[(0,(i6 12)),(1,(LI ws)),(2,(LI xs)),(3,(LI nums)),(25,(dB true))],[]⟩)
      (p := T2 ((True∧(((nums.length : Nat) : Int) != 2) = true)∧T7 True)) (by kernel_rfl)
      ⟨oK,oK,⟨oK,(by exact bne_iff_ne.2 (by omega))⟩,oK,oK,oK,oK,oK,oK,oK,oK⟩ ?_
    refine Ev.cond true rfl (fun _ => ?_) (fun h => (by cases h))
    refine Ev.seq ?_
    refine Ev.reg [] [8,9] (st' := ⟨yh8,[]⟩)
      (p := T2 True) (by kernel_rfl)
      ⟨oK,oK,oK⟩ ?_
    refine Ev.ret ?_
    refine ⟨⟨oK,oK,oK⟩,(?_ : (0 : Int) = (applyV 12 ws xs nums)∧(1 : Int) = (applyE 12 ws xs nums)∧True),.inr ⟨oK,oK,oK⟩⟩
    exact ⟨(ap_no (ap_n hx)).1.symm,(ap_no (ap_n hx)).2.symm,oK⟩
  · skip
    refine Ev.reg [(2,.val (dB false)),(8,.val (dB true))] [0,1,2,3,25] (st' := ⟨[(0,(i6 12)),(1,(LI ws)),(2,(LI xs)),(3,(LI nums)),(25,(dB true))],[]⟩)
      (p := T2 ((True∧(((nums.length : Nat) : Int) != 2) = false)∧T5 ((True∧(((xs.length : Nat) : Int) != ((ws.length : Nat) : Int)) = true)∧True∧True))) (by kernel_rfl)
      ⟨oK,oK,⟨oK,(by rw [hx.1]; rfl)⟩,oK,oK,oK,oK,oK,⟨oK,(by exact bne_iff_ne.2 (by omega))⟩,oK,oK⟩ ?_
    refine Ev.cond true rfl (fun _ => ?_) (fun h => (by cases h))
    refine Ev.seq ?_
    refine Ev.reg [] [8,9] (st' := ⟨yh8,[]⟩)
      (p := T2 True) (by kernel_rfl)
      ⟨oK,oK,oK⟩ ?_
    refine Ev.ret ?_
    refine ⟨⟨oK,oK,oK⟩,(?_ : (0 : Int) = (applyV 12 ws xs nums)∧(1 : Int) = (applyE 12 ws xs nums)∧True),.inr ⟨oK,oK,oK⟩⟩
    exact ⟨(ap_no (ap_l hx.2)).1.symm,(ap_no (ap_l hx.2)).2.symm,oK⟩
  · skip
    refine Ev.reg [(2,.val (dB false)),(8,.val (dB false))] [0,1,2,3,25] (st' := ⟨[(0,(i6 12)),(1,(LI ws)),(2,(LI xs)),(3,(LI nums)),(25,(dB false))],[]⟩)
      (p := T2 ((True∧(((nums.length : Nat) : Int) != 2) = false)∧T5 ((True∧(((xs.length : Nat) : Int) != ((ws.length : Nat) : Int)) = false)∧True∧True))) (by kernel_rfl)
      ⟨oK,oK,⟨oK,(by rw [hx.1]; rfl)⟩,oK,oK,oK,oK,oK,⟨oK,(by rw [hx.2]; simp)⟩,oK,oK⟩ ?_
    refine Ev.cond false rfl (fun h => (by cases h)) (fun _ => ?_)
    refine Ev.skip ?_
    refine Ev.seq ?_
    refine Ev.draw 10 [false,false,false,false,false,false,false,false,false,false] [] [0,1,2,10] (st' := ⟨[(0,(i6 12)),(1,(LI ws)),(2,(LI xs)),(10,yh30)],[(yh0 ws xs nums)]⟩)
      (p := (T3 ((0 ≤ (0 : Int)∧0 < (nums.length : Int))∧T2 ((0 ≤ (1 : Int)∧1 < (nums.length : Int))∧T3 True)))∧(True∧True)) (by kernel_rfl) (by kernel_rfl)
      ⟨⟨oK,oK,oK,(by first | omega | (simp; first | done | omega)),oK,oK,(by first | omega | (simp; first | done | omega)),oK,oK,oK,oK⟩,⟨oK,oK⟩⟩ ?_
    refine Ev.seq ?_
    rcases ok3 12 ws (nums.getD 0 0) (nums.getD 1 0) with ⟨hb,h⟩ | ⟨hb,hv,h⟩ | h
    · skip
      refine Ev.reg [(2,.call none true yh21)] [1,2,10,11,13] (st' := ⟨(yh5 ws xs),(yh29 ws xs nums)⟩)
        (p := T2 (callOb Try.prog 27 [(yh0 ws xs nums)] [(i6 12),(yh1 ws xs nums)] none true yh21∧T8 True)) (by kernel_rfl)
        ⟨oK,oK,(width_bad_12 _ _ _ _ hwl hb),oK,oK,oK,oK,oK,oK,oK,oK,oK⟩ ?_
      refine Ev.seq ?_
      refine Ev.seq ?_
      refine Ev.reg [] [1,2,10,11,43] (st' := ⟨(yh6 ws xs),(yh29 ws xs nums)⟩)
        (p := T2 True) (by kernel_rfl)
        ⟨oK,oK,oK⟩ ?_
      refine Ev.cond true rfl (fun _ => ?_) (fun h => (by cases h))
      refine Ev.seq ?_
      refine Ev.reg [] [8,9] (st' := ⟨yh8,(yh29 ws xs nums)⟩)
        (p := T2 True) (by kernel_rfl)
        ⟨oK,oK,oK⟩ ?_
      refine Ev.ret ?_
      refine ⟨⟨oK,oK,oK⟩,(?_ : (0 : Int) = (applyV 12 ws xs nums)∧(1 : Int) = (applyE 12 ws xs nums)∧True),.inr ⟨oK,oK,oK⟩⟩
      exact ⟨(ap_no (ap_bad h)).1.symm,(ap_no (ap_bad h)).2.symm,oK⟩
    · skip
      refine Ev.reg [(2,.call none true (.tup [(.agg yh18),(i6 (wvF 12 ws (nums.getD 0 0) (nums.getD 1 0))),(dB false)]))] [1,2,10,11,13] (st' := ⟨(yh5 ws xs),(yh41 ws xs nums)⟩)
        (p := T2 (callOb Try.prog 27 [(yh0 ws xs nums)] [(i6 12),(yh1 ws xs nums)] none true (.tup [(.agg yh18),(i6 (wvF 12 ws (nums.getD 0 0) (nums.getD 1 0))),(dB false)])∧T8 True)) (by kernel_rfl)
        ⟨oK,oK,(width_wv_12 _ _ _ _ hwl hb hv),oK,oK,oK,oK,oK,oK,oK,oK,oK⟩ ?_
      refine Ev.seq ?_
      refine Ev.seq ?_
      refine Ev.reg [] [1,2,10,11,43] (st' := ⟨(yh6 ws xs),(yh41 ws xs nums)⟩)
        (p := T2 True) (by kernel_rfl)
        ⟨oK,oK,oK⟩ ?_
      refine Ev.cond true rfl (fun _ => ?_) (fun h => (by cases h))
      refine Ev.seq ?_
      refine Ev.reg [] [8,9] (st' := ⟨yh8,(yh41 ws xs nums)⟩)
        (p := T2 True) (by kernel_rfl)
        ⟨oK,oK,oK⟩ ?_
      refine Ev.ret ?_
      refine ⟨⟨oK,oK,oK⟩,(?_ : (0 : Int) = (applyV 12 ws xs nums)∧(1 : Int) = (applyE 12 ws xs nums)∧True),.inr ⟨oK,oK,oK⟩⟩
      exact ⟨(ap_no (ap_bad h)).1.symm,(ap_no (ap_bad h)).2.symm,oK⟩
    · skip
      refine Ev.reg [(2,.call none true (.tup [(.agg yh18),(i6 (wvF 12 ws (nums.getD 0 0) (nums.getD 1 0))),(dB true)]))] [1,2,10,11,13] (st' := ⟨(yh23 ws xs),(yh41 ws xs nums)⟩)
        (p := T2 (callOb Try.prog 27 [(yh0 ws xs nums)] [(i6 12),(yh1 ws xs nums)] none true (.tup [(.agg yh18),(i6 (wvF 12 ws (nums.getD 0 0) (nums.getD 1 0))),(dB true)])∧T8 True)) (by kernel_rfl)
        ⟨oK,oK,(width_good_12 _ _ _ _ hwl h),oK,oK,oK,oK,oK,oK,oK,oK,oK⟩ ?_
      refine Ev.seq ?_
      refine Ev.seq ?_
      refine Ev.reg [] [1,2,10,11,43] (st' := ⟨(yh22 ws xs),(yh41 ws xs nums)⟩)
        (p := T2 True) (by kernel_rfl)
        ⟨oK,oK,oK⟩ ?_
      refine Ev.cond false rfl (fun h => (by cases h)) (fun _ => ?_)
      refine Ev.skip ?_
      refine Ev.seq ?_
      refine Ev.seq ?_
      refine Ev.reg [] [1,10,11,44,45,46] (st' := ⟨(yh20 ws xs),(yh41 ws xs nums)⟩)
        (p := T3 True) (by kernel_rfl)
        ⟨oK,oK,oK,oK⟩ ?_
      refine Ev.block ?_
      refine Ev.loop [1,10,11,44,45,46] 2 (fun (i : Nat) => ⟨(yh11 ws xs i),(yh41 ws xs nums)⟩) (fun (i : Nat) => i ≤ xs.length∧∀ j,j < i → 0 ≤ xs.getD j 0∧xs.getD j 0 ≤ maskF (ws.getD j 0)) (fun (i : Nat) => xs.length - i) 0 (by kernel_rfl) (⟨by omega,fun j hj => by omega⟩) ?_
      rintro i hinv
      have hinv : i ≤ xs.length∧∀ j,j < i → 0 ≤ xs.getD j 0∧xs.getD j 0 ≤ maskF (ws.getD j 0) := hinv
      obtain ⟨hi,hall⟩ := hinv
      refine Ev.seq ?_
      refine Ev.reg [] [1,10,11,44,45,46,47] (st' := ⟨[(1,(LI ws)),(10,yh30),(11,yh33),(44,(LI xs)),(45,(yh7 xs)),(46,(yh31 i)),(47,(dB (decide (((i : Nat) : Int) < ((xs.length : Nat) : Int)))))],(yh41 ws xs nums)⟩)
        (p := True∧True) (by kernel_rfl)
        ⟨oK,oK⟩ ?_
      refine Ev.seq ?_
      refine Ev.cond _ rfl (fun hc47 => ?_) (fun hc47 => ?_)
      · try simp only [decide_eq_true_eq,decide_eq_false_iff_not,beq_iff_eq,bne_iff_ne,ne_eq,beq_eq_false_iff_ne,bne_eq_false_iff_eq,Bool.not_eq_true,Bool.not_eq_false,Bool.not_eq_true',Bool.not_eq_false',Bool.not_not,gt_iff_lt,ge_iff_le,Nat.not_lt,Int.not_lt,Int.not_le] at hc47
        refine Ev.skip ?_
        refine Ev.seq ?_
        refine Ev.block ?_
        refine Ev.seq ?_
        refine Ev.reg [] [1,10,11,14,15,44,45,46] (st' := ⟨(yh2 ws i xs),(yh41 ws xs nums)⟩)
          (p := True∧(0 ≤ ((i : Nat) : Int)∧((i : Nat) : Int) < (xs.length : Int))∧T3 True) (by kernel_rfl)
          ⟨oK,(by first | omega | (simp; first | done | omega)),oK,oK,oK,oK⟩ ?_
        refine Ev.seq ?_
        rcases Int.lt_or_le (xs.getD i 0) 0 with hn | hn
        · skip
          refine Ev.reg [(1,.val (dB true))] [1,10,11,44,45,46,61] (st' := ⟨(yh9 ws xs i),(yh41 ws xs nums)⟩)
            (p := True∧(True∧(decide ((xs.getD i 0) < 0)) = true)∧T9 True) (by kernel_rfl)
            ⟨oK,⟨oK,(by simpa using hn)⟩,oK,oK,oK,oK,oK,oK,oK,oK,oK,oK⟩ ?_
          refine Ev.cond true rfl (fun _ => ?_) (fun h => (by cases h))
          refine Ev.seq ?_
          refine Ev.reg [] [8,9] (st' := ⟨yh8,(yh41 ws xs nums)⟩)
            (p := T2 True) (by kernel_rfl)
            ⟨oK,oK,oK⟩ ?_
          refine Ev.ret ?_
          refine ⟨⟨oK,oK,oK⟩,(?_ : (0 : Int) = (applyV 12 ws xs nums)∧(1 : Int) = (applyE 12 ws xs nums)∧True),.inr ⟨oK,oK,oK⟩⟩
          exact ⟨(ap_no (ap_in (i := i) (by omega) (.inl hn))).1.symm,(ap_no (ap_in (i := i) (by omega) (.inl hn))).2.symm,oK⟩
        · skip
          refine Ev.reg [(1,.val (dB false)),(8,.call none false (yh32 ws i))] [1,10,11,44,45,46,61] (st' := ⟨[(1,(LI ws)),(10,yh30),(11,yh33),(44,(LI xs)),(45,(yh7 xs)),(46,(yh31 i)),(61,(dB (decide ((xs.getD i 0) > (maskF (ws.getD i 0))))))],(yh41 ws xs nums)⟩)
            (p := True∧(True∧(decide ((xs.getD i 0) < 0)) = false)∧T4 ((0 ≤ ((i : Nat) : Int)∧((i : Nat) : Int) < (ws.length : Int))∧True∧callOb Try.prog 14 (yh41 ws xs nums) [(i6 (ws.getD i 0))] none false (yh32 ws i)∧T2 True)) (by kernel_rfl)
            ⟨oK,⟨oK,(by simpa using hn)⟩,oK,oK,oK,oK,(by first | omega | (simp; first | done | omega)),oK,(mask_ok _),oK,oK,oK⟩ ?_
          refine Ev.cond _ rfl (fun hc61 => ?_) (fun hc61 => ?_)
          · try simp only [decide_eq_true_eq,decide_eq_false_iff_not,beq_iff_eq,bne_iff_ne,ne_eq,beq_eq_false_iff_ne,bne_eq_false_iff_eq,Bool.not_eq_true,Bool.not_eq_false,Bool.not_eq_true',Bool.not_eq_false',Bool.not_not,gt_iff_lt,ge_iff_le,Nat.not_lt,Int.not_lt,Int.not_le] at hc61
            refine Ev.seq ?_
            refine Ev.reg [] [8,9] (st' := ⟨yh8,(yh41 ws xs nums)⟩)
              (p := T2 True) (by kernel_rfl)
              ⟨oK,oK,oK⟩ ?_
            refine Ev.ret ?_
            refine ⟨⟨oK,oK,oK⟩,(?_ : (0 : Int) = (applyV 12 ws xs nums)∧(1 : Int) = (applyE 12 ws xs nums)∧True),.inr ⟨oK,oK,oK⟩⟩
            exact ⟨(ap_no (ap_in (i := i) (by omega) (.inr (by omega)))).1.symm,(ap_no (ap_in (i := i) (by omega) (.inr (by omega)))).2.symm,oK⟩
          · try simp only [decide_eq_true_eq,decide_eq_false_iff_not,beq_iff_eq,bne_iff_ne,ne_eq,beq_eq_false_iff_ne,bne_eq_false_iff_eq,Bool.not_eq_true,Bool.not_eq_false,Bool.not_eq_true',Bool.not_eq_false',Bool.not_not,gt_iff_lt,ge_iff_le,Nat.not_lt,Int.not_lt,Int.not_le] at hc61
            refine Ev.skip ?_
            refine Ev.reg [(0,.val (yh34 i))] [1,10,11,44,45,46] (st' := ⟨(yh10 ws xs i),(yh41 ws xs nums)⟩)
              (p := (True∧(IntKind.wrap .i64 (((i : Nat) : Int) + 1)) = ((i + 1 : Nat) : Int))∧True∧True) (by kernel_rfl)
              ⟨⟨oK,(w64n (by first | rfl | simp | omega) (by first | omega | (simp; first | done | omega)))⟩,oK,oK⟩ ?_
            refine ⟨i + 1,by kernel_rfl,(?_ : (i + 1) ≤ xs.length∧∀ j,j < (i + 1) → 0 ≤ xs.getD j 0∧xs.getD j 0 ≤ maskF (ws.getD j 0)),(?_ : xs.length - (i + 1) < xs.length - i)⟩
            · exact ⟨by omega,lt_more hall ⟨by omega,by omega⟩⟩
            · omega
      · try simp only [decide_eq_true_eq,decide_eq_false_iff_not,beq_iff_eq,bne_iff_ne,ne_eq,beq_eq_false_iff_ne,bne_eq_false_iff_eq,Bool.not_eq_true,Bool.not_eq_false,Bool.not_eq_true',Bool.not_eq_false',Bool.not_not,gt_iff_lt,ge_iff_le,Nat.not_lt,Int.not_lt,Int.not_le] at hc47
        refine Ev.exit ?_
        refine Ev.seq ?_
        have hin : inF ws xs = true := in_all (fun j hj => hall j (by omega))
        obtain ⟨hl0,hf,-⟩ := ok_yes h
        have hA : arityF 12 = 1 := by decide
        rw [hA] at hl0
        have hsk := slice_k h
        refine Ev.reg [(3,.call none false (i6 (avF 12 ws xs (nums.getD 0 0) (nums.getD 1 0))))] [8,9] (st' := ⟨[(8,(i6 (avF 12 ws xs (nums.getD 0 0) (nums.getD 1 0)))),(9,(i6 0))],(yh41 ws xs nums)⟩)
          (p := T3 (callOb Try.prog 59 (yh41 ws xs nums) [(yh1 ws xs nums)] none false (i6 (avF 12 ws xs (nums.getD 0 0) (nums.getD 1 0)))∧T2 True)) (by kernel_rfl)
          ⟨oK,oK,oK,(slice_ok _ _ _ _ (by omega) (by assumption) (by omega) (by assumption) (by assumption)),oK,oK,oK⟩ ?_
        refine Ev.ret ?_
        refine ⟨⟨oK,oK,oK⟩,(?_ : (avF 12 ws xs (nums.getD 0 0) (nums.getD 1 0)) = (applyV 12 ws xs nums)∧(0 : Int) = (applyE 12 ws xs nums)∧True),.inr ⟨oK,oK,oK⟩⟩
        exact ⟨(ap_yes hx.1 hx.2 h hin).1.symm,(ap_yes hx.1 hx.2 h hin).2.symm,oK⟩

set_option maxRecDepth 100000 in
theorem Apply_13 (ws xs nums : List Int) (hwl : ws.length ≤ 9223372036854775807) (hxl : xs.length ≤ 9223372036854775807) : CallOk Try.prog 12 [(i6 13),(LI ws),(LI xs),(LI nums)] [] false (.tup [(i6 (applyV 13 ws xs nums)),(i6 (applyE 13 ws xs nums))]) [] := by
  refine CallOk.of_ev Try.func12 rfl rfl rfl ?_
  rintro ⟨_,W,S0,_,susp,_⟩ rfl rfl rfl
  refine Ev.seq ?_
  refine Ev.reg [] [0,1,2,3] (st' := ⟨[(0,(i6 13)),(1,(LI ws)),(2,(LI xs)),(3,(LI nums))],[]⟩)
    (p := T2 True) (by kernel_rfl)
    ⟨oK,oK,oK⟩ ?_
  refine Ev.seq ?_
  refine Ev.seq ?_
  rcases (show nums.length ≠ 2 ∨ (nums.length = 2∧xs.length ≠ ws.length) ∨ (nums.length = 2∧xs.length = ws.length) from by omega) with hx | hx | hx
  · skip
    refine Ev.reg [(2,.val (dB true))] [0,1,2,3,25] (st' := ⟨[(0,(i6 13)),(1,(LI ws)),(2,(LI xs)),(3,(LI nums)),(25,(dB true))],[]⟩)
      (p := T2 ((True∧(((nums.length : Nat) : Int) != 2) = true)∧T7 True)) (by kernel_rfl)
      ⟨oK,oK,⟨oK,(by exact bne_iff_ne.2 (by omega))⟩,oK,oK,oK,oK,oK,oK,oK,oK⟩ ?_
    refine Ev.cond true rfl (fun _ => ?_) (fun h => (by cases h))
    refine Ev.seq ?_
    refine Ev.reg [] [8,9] (st' := ⟨yh8,[]⟩)
      (p := T2 True) (by kernel_rfl)
      ⟨oK,oK,oK⟩ ?_
    refine Ev.ret ?_
    refine ⟨⟨oK,oK,oK⟩,(?_ : (0 : Int) = (applyV 13 ws xs nums)∧(1 : Int) = (applyE 13 ws xs nums)∧True),.inr ⟨oK,oK,oK⟩⟩
    exact ⟨(ap_no (ap_n hx)).1.symm,(ap_no (ap_n hx)).2.symm,oK⟩
  · skip
    refine Ev.reg [(2,.val (dB false)),(8,.val (dB true))] [0,1,2,3,25] (st' := ⟨[(0,(i6 13)),(1,(LI ws)),(2,(LI xs)),(3,(LI nums)),(25,(dB true))],[]⟩)
      (p := T2 ((True∧(((nums.length : Nat) : Int) != 2) = false)∧T5 ((True∧(((xs.length : Nat) : Int) != ((ws.length : Nat) : Int)) = true)∧True∧True))) (by kernel_rfl)
      ⟨oK,oK,⟨oK,(by rw [hx.1]; rfl)⟩,oK,oK,oK,oK,oK,⟨oK,(by exact bne_iff_ne.2 (by omega))⟩,oK,oK⟩ ?_
    refine Ev.cond true rfl (fun _ => ?_) (fun h => (by cases h))
    refine Ev.seq ?_
    refine Ev.reg [] [8,9] (st' := ⟨yh8,[]⟩)
      (p := T2 True) (by kernel_rfl)
      ⟨oK,oK,oK⟩ ?_
    refine Ev.ret ?_
    refine ⟨⟨oK,oK,oK⟩,(?_ : (0 : Int) = (applyV 13 ws xs nums)∧(1 : Int) = (applyE 13 ws xs nums)∧True),.inr ⟨oK,oK,oK⟩⟩
    exact ⟨(ap_no (ap_l hx.2)).1.symm,(ap_no (ap_l hx.2)).2.symm,oK⟩
  · skip
    refine Ev.reg [(2,.val (dB false)),(8,.val (dB false))] [0,1,2,3,25] (st' := ⟨[(0,(i6 13)),(1,(LI ws)),(2,(LI xs)),(3,(LI nums)),(25,(dB false))],[]⟩)
      (p := T2 ((True∧(((nums.length : Nat) : Int) != 2) = false)∧T5 ((True∧(((xs.length : Nat) : Int) != ((ws.length : Nat) : Int)) = false)∧True∧True))) (by kernel_rfl)
      ⟨oK,oK,⟨oK,(by rw [hx.1]; rfl)⟩,oK,oK,oK,oK,oK,⟨oK,(by rw [hx.2]; simp)⟩,oK,oK⟩ ?_
    refine Ev.cond false rfl (fun h => (by cases h)) (fun _ => ?_)
    refine Ev.skip ?_
    refine Ev.seq ?_
    refine Ev.draw 10 [false,false,false,false,false,false,false,false,false,false] [] [0,1,2,10] (st' := ⟨[(0,(i6 13)),(1,(LI ws)),(2,(LI xs)),(10,yh30)],[(yh0 ws xs nums)]⟩)
      (p := (T3 ((0 ≤ (0 : Int)∧0 < (nums.length : Int))∧T2 ((0 ≤ (1 : Int)∧1 < (nums.length : Int))∧T3 True)))∧(True∧True)) (by kernel_rfl) (by kernel_rfl)
      ⟨⟨oK,oK,oK,(by first | omega | (simp; first | done | omega)),oK,oK,(by first | omega | (simp; first | done | omega)),oK,oK,oK,oK⟩,⟨oK,oK⟩⟩ ?_
    refine Ev.seq ?_
    rcases ok3 13 ws (nums.getD 0 0) (nums.getD 1 0) with ⟨hb,h⟩ | ⟨hb,hv,h⟩ | h
    · skip
      refine Ev.reg [(2,.call none true yh21)] [1,2,10,11,13] (st' := ⟨(yh5 ws xs),(yh29 ws xs nums)⟩)
        (p := T2 (callOb Try.prog 27 [(yh0 ws xs nums)] [(i6 13),(yh1 ws xs nums)] none true yh21∧T8 True)) (by kernel_rfl)
        ⟨oK,oK,(width_bad_13 _ _ _ _ hwl hb),oK,oK,oK,oK,oK,oK,oK,oK,oK⟩ ?_
      refine Ev.seq ?_
      refine Ev.seq ?_
      refine Ev.reg [] [1,2,10,11,43] (st' := ⟨(yh6 ws xs),(yh29 ws xs nums)⟩)
        (p := T2 True) (by kernel_rfl)
        ⟨oK,oK,oK⟩ ?_
      refine Ev.cond true rfl (fun _ => ?_) (fun h => (by cases h))
      refine Ev.seq ?_
      refine Ev.reg [] [8,9] (st' := ⟨yh8,(yh29 ws xs nums)⟩)
        (p := T2 True) (by kernel_rfl)
        ⟨oK,oK,oK⟩ ?_
      refine Ev.ret ?_
      refine ⟨⟨oK,oK,oK⟩,(?_ : (0 : Int) = (applyV 13 ws xs nums)∧(1 : Int) = (applyE 13 ws xs nums)∧True),.inr ⟨oK,oK,oK⟩⟩
      exact ⟨(ap_no (ap_bad h)).1.symm,(ap_no (ap_bad h)).2.symm,oK⟩
    · skip
      refine Ev.reg [(2,.call none true (.tup [(.agg yh19),(i6 (wvF 13 ws (nums.getD 0 0) (nums.getD 1 0))),(dB false)]))] [1,2,10,11,13] (st' := ⟨(yh5 ws xs),(yh42 ws xs nums)⟩)
        (p := T2 (callOb Try.prog 27 [(yh0 ws xs nums)] [(i6 13),(yh1 ws xs nums)] none true (.tup [(.agg yh19),(i6 (wvF 13 ws (nums.getD 0 0) (nums.getD 1 0))),(dB false)])∧T8 True)) (by kernel_rfl)
        ⟨oK,oK,(width_wv_13 _ _ _ _ hwl hb hv),oK,oK,oK,oK,oK,oK,oK,oK,oK⟩ ?_
      refine Ev.seq ?_
      refine Ev.seq ?_
      refine Ev.reg [] [1,2,10,11,43] (st' := ⟨(yh6 ws xs),(yh42 ws xs nums)⟩)
        (p := T2 True) (by kernel_rfl)
        ⟨oK,oK,oK⟩ ?_
      refine Ev.cond true rfl (fun _ => ?_) (fun h => (by cases h))
      refine Ev.seq ?_
      refine Ev.reg [] [8,9] (st' := ⟨yh8,(yh42 ws xs nums)⟩)
        (p := T2 True) (by kernel_rfl)
        ⟨oK,oK,oK⟩ ?_
      refine Ev.ret ?_
      refine ⟨⟨oK,oK,oK⟩,(?_ : (0 : Int) = (applyV 13 ws xs nums)∧(1 : Int) = (applyE 13 ws xs nums)∧True),.inr ⟨oK,oK,oK⟩⟩
      exact ⟨(ap_no (ap_bad h)).1.symm,(ap_no (ap_bad h)).2.symm,oK⟩
    · skip
      refine Ev.reg [(2,.call none true (.tup [(.agg yh19),(i6 (wvF 13 ws (nums.getD 0 0) (nums.getD 1 0))),(dB true)]))] [1,2,10,11,13] (st' := ⟨(yh23 ws xs),(yh42 ws xs nums)⟩)
        (p := T2 (callOb Try.prog 27 [(yh0 ws xs nums)] [(i6 13),(yh1 ws xs nums)] none true (.tup [(.agg yh19),(i6 (wvF 13 ws (nums.getD 0 0) (nums.getD 1 0))),(dB true)])∧T8 True)) (by kernel_rfl)
        ⟨oK,oK,(width_good_13 _ _ _ _ hwl h),oK,oK,oK,oK,oK,oK,oK,oK,oK⟩ ?_
      refine Ev.seq ?_
      refine Ev.seq ?_
      refine Ev.reg [] [1,2,10,11,43] (st' := ⟨(yh22 ws xs),(yh42 ws xs nums)⟩)
        (p := T2 True) (by kernel_rfl)
        ⟨oK,oK,oK⟩ ?_
      refine Ev.cond false rfl (fun h => (by cases h)) (fun _ => ?_)
      refine Ev.skip ?_
      refine Ev.seq ?_
      refine Ev.seq ?_
      refine Ev.reg [] [1,10,11,44,45,46] (st' := ⟨(yh20 ws xs),(yh42 ws xs nums)⟩)
        (p := T3 True) (by kernel_rfl)
        ⟨oK,oK,oK,oK⟩ ?_
      refine Ev.block ?_
      refine Ev.loop [1,10,11,44,45,46] 2 (fun (i : Nat) => ⟨(yh11 ws xs i),(yh42 ws xs nums)⟩) (fun (i : Nat) => i ≤ xs.length∧∀ j,j < i → 0 ≤ xs.getD j 0∧xs.getD j 0 ≤ maskF (ws.getD j 0)) (fun (i : Nat) => xs.length - i) 0 (by kernel_rfl) (⟨by omega,fun j hj => by omega⟩) ?_
      rintro i hinv
      have hinv : i ≤ xs.length∧∀ j,j < i → 0 ≤ xs.getD j 0∧xs.getD j 0 ≤ maskF (ws.getD j 0) := hinv
      obtain ⟨hi,hall⟩ := hinv
      refine Ev.seq ?_
      refine Ev.reg [] [1,10,11,44,45,46,47] (st' := ⟨[(1,(LI ws)),(10,yh30),(11,yh33),(44,(LI xs)),(45,(yh7 xs)),(46,(yh31 i)),(47,(dB (decide (((i : Nat) : Int) < ((xs.length : Nat) : Int)))))],(yh42 ws xs nums)⟩)
        (p := True∧True) (by kernel_rfl)
        ⟨oK,oK⟩ ?_
      refine Ev.seq ?_
      refine Ev.cond _ rfl (fun hc47 => ?_) (fun hc47 => ?_)
      · try simp only [decide_eq_true_eq,decide_eq_false_iff_not,beq_iff_eq,bne_iff_ne,ne_eq,beq_eq_false_iff_ne,bne_eq_false_iff_eq,Bool.not_eq_true,Bool.not_eq_false,Bool.not_eq_true',Bool.not_eq_false',Bool.not_not,gt_iff_lt,ge_iff_le,Nat.not_lt,Int.not_lt,Int.not_le] at hc47
        refine Ev.skip ?_
        refine Ev.seq ?_
        refine Ev.block ?_
        refine Ev.seq ?_
        refine Ev.reg [] [1,10,11,14,15,44,45,46] (st' := ⟨(yh2 ws i xs),(yh42 ws xs nums)⟩)
          (p := True∧(0 ≤ ((i : Nat) : Int)∧((i : Nat) : Int) < (xs.length : Int))∧T3 True) (by kernel_rfl)
          ⟨oK,(by first | omega | (simp; first | done | omega)),oK,oK,oK,oK⟩ ?_
        refine Ev.seq ?_
        rcases Int.lt_or_le (xs.getD i 0) 0 with hn | hn
        · skip
          refine Ev.reg [(1,.val (dB true))] [1,10,11,44,45,46,61] (st' := ⟨(yh9 ws xs i),(yh42 ws xs nums)⟩)
            (p := True∧(True∧(decide ((xs.getD i 0) < 0)) = true)∧T9 True) (by kernel_rfl)
            ⟨oK,⟨oK,(by simpa using hn)⟩,oK,oK,oK,oK,oK,oK,oK,oK,oK,oK⟩ ?_
          refine Ev.cond true rfl (fun _ => ?_) (fun h => (by cases h))
          refine Ev.seq ?_
          refine Ev.reg [] [8,9] (st' := ⟨yh8,(yh42 ws xs nums)⟩)
            (p := T2 True) (by kernel_rfl)
            ⟨oK,oK,oK⟩ ?_
          refine Ev.ret ?_
          refine ⟨⟨oK,oK,oK⟩,(?_ : (0 : Int) = (applyV 13 ws xs nums)∧(1 : Int) = (applyE 13 ws xs nums)∧True),.inr ⟨oK,oK,oK⟩⟩
          exact ⟨(ap_no (ap_in (i := i) (by omega) (.inl hn))).1.symm,(ap_no (ap_in (i := i) (by omega) (.inl hn))).2.symm,oK⟩
        · skip
          refine Ev.reg [(1,.val (dB false)),(8,.call none false (yh32 ws i))] [1,10,11,44,45,46,61] (st' := ⟨[(1,(LI ws)),(10,yh30),(11,yh33),(44,(LI xs)),(45,(yh7 xs)),(46,(yh31 i)),(61,(dB (decide ((xs.getD i 0) > (maskF (ws.getD i 0))))))],(yh42 ws xs nums)⟩)
            (p := True∧(True∧(decide ((xs.getD i 0) < 0)) = false)∧T4 ((0 ≤ ((i : Nat) : Int)∧((i : Nat) : Int) < (ws.length : Int))∧True∧callOb Try.prog 14 (yh42 ws xs nums) [(i6 (ws.getD i 0))] none false (yh32 ws i)∧T2 True)) (by kernel_rfl)
            ⟨oK,⟨oK,(by simpa using hn)⟩,oK,oK,oK,oK,(by first | omega | (simp; first | done | omega)),oK,(mask_ok _),oK,oK,oK⟩ ?_
          refine Ev.cond _ rfl (fun hc61 => ?_) (fun hc61 => ?_)
          · try simp only [decide_eq_true_eq,decide_eq_false_iff_not,beq_iff_eq,bne_iff_ne,ne_eq,beq_eq_false_iff_ne,bne_eq_false_iff_eq,Bool.not_eq_true,Bool.not_eq_false,Bool.not_eq_true',Bool.not_eq_false',Bool.not_not,gt_iff_lt,ge_iff_le,Nat.not_lt,Int.not_lt,Int.not_le] at hc61
            refine Ev.seq ?_
            refine Ev.reg [] [8,9] (st' := ⟨yh8,(yh42 ws xs nums)⟩)
              (p := T2 True) (by kernel_rfl)
              ⟨oK,oK,oK⟩ ?_
            refine Ev.ret ?_
            refine ⟨⟨oK,oK,oK⟩,(?_ : (0 : Int) = (applyV 13 ws xs nums)∧(1 : Int) = (applyE 13 ws xs nums)∧True),.inr ⟨oK,oK,oK⟩⟩
            exact ⟨(ap_no (ap_in (i := i) (by omega) (.inr (by omega)))).1.symm,(ap_no (ap_in (i := i) (by omega) (.inr (by omega)))).2.symm,oK⟩
          · try simp only [decide_eq_true_eq,decide_eq_false_iff_not,beq_iff_eq,bne_iff_ne,ne_eq,beq_eq_false_iff_ne,bne_eq_false_iff_eq,Bool.not_eq_true,Bool.not_eq_false,Bool.not_eq_true',Bool.not_eq_false',Bool.not_not,gt_iff_lt,ge_iff_le,Nat.not_lt,Int.not_lt,Int.not_le] at hc61
            refine Ev.skip ?_
            refine Ev.reg [(0,.val (yh34 i))] [1,10,11,44,45,46] (st' := ⟨(yh10 ws xs i),(yh42 ws xs nums)⟩)
              (p := (True∧(IntKind.wrap .i64 (((i : Nat) : Int) + 1)) = ((i + 1 : Nat) : Int))∧True∧True) (by kernel_rfl)
              ⟨⟨oK,(w64n (by first | rfl | simp | omega) (by first | omega | (simp; first | done | omega)))⟩,oK,oK⟩ ?_
            refine ⟨i + 1,by kernel_rfl,(?_ : (i + 1) ≤ xs.length∧∀ j,j < (i + 1) → 0 ≤ xs.getD j 0∧xs.getD j 0 ≤ maskF (ws.getD j 0)),(?_ : xs.length - (i + 1) < xs.length - i)⟩
            · exact ⟨by omega,lt_more hall ⟨by omega,by omega⟩⟩
            · omega
      · try simp only [decide_eq_true_eq,decide_eq_false_iff_not,beq_iff_eq,bne_iff_ne,ne_eq,beq_eq_false_iff_ne,bne_eq_false_iff_eq,Bool.not_eq_true,Bool.not_eq_false,Bool.not_eq_true',Bool.not_eq_false',Bool.not_not,gt_iff_lt,ge_iff_le,Nat.not_lt,Int.not_lt,Int.not_le] at hc47
        refine Ev.exit ?_
        refine Ev.seq ?_
        have hin : inF ws xs = true := in_all (fun j hj => hall j (by omega))
        obtain ⟨hl0,hf,-⟩ := ok_yes h
        have hA : arityF 13 = 1 := by decide
        rw [hA] at hl0
        refine Ev.reg [(3,.call none false (i6 (avF 13 ws xs (nums.getD 0 0) (nums.getD 1 0))))] [8,9] (st' := ⟨[(8,(i6 (avF 13 ws xs (nums.getD 0 0) (nums.getD 1 0)))),(9,(i6 0))],(yh42 ws xs nums)⟩)
          (p := T3 (callOb Try.prog 61 (yh42 ws xs nums) [(yh1 ws xs nums)] none false (i6 (avF 13 ws xs (nums.getD 0 0) (nums.getD 1 0)))∧T2 True)) (by kernel_rfl)
          ⟨oK,oK,oK,(ext_ok _ _ _ _ (by omega) (by assumption) (by omega) (by assumption)),oK,oK,oK⟩ ?_
        refine Ev.ret ?_
        refine ⟨⟨oK,oK,oK⟩,(?_ : (avF 13 ws xs (nums.getD 0 0) (nums.getD 1 0)) = (applyV 13 ws xs nums)∧(0 : Int) = (applyE 13 ws xs nums)∧True),.inr ⟨oK,oK,oK⟩⟩
        exact ⟨(ap_yes hx.1 hx.2 h hin).1.symm,(ap_yes hx.1 hx.2 h hin).2.symm,oK⟩

set_option maxRecDepth 100000 in
theorem Apply_none (op : Int) (ws xs nums : List Int) (hwl : ws.length ≤ 9223372036854775807) (hxl : xs.length ≤ 9223372036854775807) (hop : op < 1 ∨ 13 < op) : CallOk Try.prog 12 [(i6 op),(LI ws),(LI xs),(LI nums)] [] false (.tup [(i6 (applyV op ws xs nums)),(i6 (applyE op ws xs nums))]) [] := by
  refine CallOk.of_ev Try.func12 rfl rfl rfl ?_
  rintro ⟨_,W,S0,_,susp,_⟩ rfl rfl rfl
  refine Ev.seq ?_
  refine Ev.reg [] [0,1,2,3] (st' := ⟨[(0,(i6 op)),(1,(LI ws)),(2,(LI xs)),(3,(LI nums))],[]⟩)
    (p := T2 True) (by kernel_rfl)
    ⟨oK,oK,oK⟩ ?_
  refine Ev.seq ?_
  refine Ev.seq ?_
  rcases (show nums.length ≠ 2 ∨ (nums.length = 2∧xs.length ≠ ws.length) ∨ (nums.length = 2∧xs.length = ws.length) from by omega) with hx | hx | hx
  · skip
    refine Ev.reg [(2,.val (dB true))] [0,1,2,3,25] (st' := ⟨[(0,(i6 op)),(1,(LI ws)),(2,(LI xs)),(3,(LI nums)),(25,(dB true))],[]⟩)
      (p := T2 ((True∧(((nums.length : Nat) : Int) != 2) = true)∧T7 True)) (by kernel_rfl)
      ⟨oK,oK,⟨oK,(by exact bne_iff_ne.2 (by omega))⟩,oK,oK,oK,oK,oK,oK,oK,oK⟩ ?_
    refine Ev.cond true rfl (fun _ => ?_) (fun h => (by cases h))
    refine Ev.seq ?_
    refine Ev.reg [] [8,9] (st' := ⟨yh8,[]⟩)
      (p := T2 True) (by kernel_rfl)
      ⟨oK,oK,oK⟩ ?_
    refine Ev.ret ?_
    refine ⟨⟨oK,oK,oK⟩,(?_ : (0 : Int) = (applyV op ws xs nums)∧(1 : Int) = (applyE op ws xs nums)∧True),.inr ⟨oK,oK,oK⟩⟩
    exact ⟨(ap_no (ap_n hx)).1.symm,(ap_no (ap_n hx)).2.symm,oK⟩
  · skip
    refine Ev.reg [(2,.val (dB false)),(8,.val (dB true))] [0,1,2,3,25] (st' := ⟨[(0,(i6 op)),(1,(LI ws)),(2,(LI xs)),(3,(LI nums)),(25,(dB true))],[]⟩)
      (p := T2 ((True∧(((nums.length : Nat) : Int) != 2) = false)∧T5 ((True∧(((xs.length : Nat) : Int) != ((ws.length : Nat) : Int)) = true)∧True∧True))) (by kernel_rfl)
      ⟨oK,oK,⟨oK,(by rw [hx.1]; rfl)⟩,oK,oK,oK,oK,oK,⟨oK,(by exact bne_iff_ne.2 (by omega))⟩,oK,oK⟩ ?_
    refine Ev.cond true rfl (fun _ => ?_) (fun h => (by cases h))
    refine Ev.seq ?_
    refine Ev.reg [] [8,9] (st' := ⟨yh8,[]⟩)
      (p := T2 True) (by kernel_rfl)
      ⟨oK,oK,oK⟩ ?_
    refine Ev.ret ?_
    refine ⟨⟨oK,oK,oK⟩,(?_ : (0 : Int) = (applyV op ws xs nums)∧(1 : Int) = (applyE op ws xs nums)∧True),.inr ⟨oK,oK,oK⟩⟩
    exact ⟨(ap_no (ap_l hx.2)).1.symm,(ap_no (ap_l hx.2)).2.symm,oK⟩
  · skip
    refine Ev.reg [(2,.val (dB false)),(8,.val (dB false))] [0,1,2,3,25] (st' := ⟨[(0,(i6 op)),(1,(LI ws)),(2,(LI xs)),(3,(LI nums)),(25,(dB false))],[]⟩)
      (p := T2 ((True∧(((nums.length : Nat) : Int) != 2) = false)∧T5 ((True∧(((xs.length : Nat) : Int) != ((ws.length : Nat) : Int)) = false)∧True∧True))) (by kernel_rfl)
      ⟨oK,oK,⟨oK,(by rw [hx.1]; rfl)⟩,oK,oK,oK,oK,oK,⟨oK,(by rw [hx.2]; simp)⟩,oK,oK⟩ ?_
    refine Ev.cond false rfl (fun h => (by cases h)) (fun _ => ?_)
    refine Ev.skip ?_
    refine Ev.seq ?_
    refine Ev.draw 10 [false,false,false,false,false,false,false,false,false,false] [] [0,1,2,10] (st' := ⟨[(0,(i6 op)),(1,(LI ws)),(2,(LI xs)),(10,yh30)],[(yh0 ws xs nums)]⟩)
      (p := (T3 ((0 ≤ (0 : Int)∧0 < (nums.length : Int))∧T2 ((0 ≤ (1 : Int)∧1 < (nums.length : Int))∧T3 True)))∧(True∧True)) (by kernel_rfl) (by kernel_rfl)
      ⟨⟨oK,oK,oK,(by first | omega | (simp; first | done | omega)),oK,oK,(by first | omega | (simp; first | done | omega)),oK,oK,oK,oK⟩,⟨oK,oK⟩⟩ ?_
    refine Ev.seq ?_
    refine Ev.reg [(2,.call none true yh21)] [1,2,10,11,13] (st' := ⟨(yh5 ws xs),(yh29 ws xs nums)⟩)
      (p := T2 (callOb Try.prog 27 [(yh0 ws xs nums)] [(i6 op),(yh1 ws xs nums)] none true yh21∧T8 True)) (by kernel_rfl)
      ⟨oK,oK,(width_none _ _ _ _ _ hop),oK,oK,oK,oK,oK,oK,oK,oK,oK⟩ ?_
    refine Ev.seq ?_
    refine Ev.seq ?_
    refine Ev.reg [] [1,2,10,11,43] (st' := ⟨(yh6 ws xs),(yh29 ws xs nums)⟩)
      (p := T2 True) (by kernel_rfl)
      ⟨oK,oK,oK⟩ ?_
    refine Ev.cond true rfl (fun _ => ?_) (fun h => (by cases h))
    refine Ev.seq ?_
    refine Ev.reg [] [8,9] (st' := ⟨yh8,(yh29 ws xs nums)⟩)
      (p := T2 True) (by kernel_rfl)
      ⟨oK,oK,oK⟩ ?_
    refine Ev.ret ?_
    refine ⟨⟨oK,oK,oK⟩,(?_ : (0 : Int) = (applyV op ws xs nums)∧(1 : Int) = (applyE op ws xs nums)∧True),.inr ⟨oK,oK,oK⟩⟩
    exact ⟨(ap_no (ap_bad (ok_none hop _ _ _))).1.symm,(ap_no (ap_bad (ok_none hop _ _ _))).2.symm,oK⟩

theorem Apply_ok (op : Int) (ws xs nums : List Int) (hwl : ws.length ≤ 9223372036854775807) (hxl : xs.length ≤ 9223372036854775807) : CallOk Try.prog 12 [dI .i64 op,dL 1 (encI .i64) 0 ws,dL 1 (encI .i64) 0 xs,dL 1 (encI .i64) 0 nums] [] false (.tup [dI .i64 (applyV op ws xs nums),dI .i64 (applyE op ws xs nums)]) [] := by
  rcases (show (op < 1 ∨ 13 < op) ∨ op = 1 ∨ op = 2 ∨ op = 3 ∨ op = 4 ∨ op = 5 ∨ op = 6 ∨ op = 7 ∨ op = 8 ∨ op = 9 ∨ op = 10 ∨ op = 11 ∨ op = 12 ∨ op = 13 from by omega) with hop | rfl | rfl | rfl | rfl | rfl | rfl | rfl | rfl | rfl | rfl | rfl | rfl | rfl
  · exact Apply_none op ws xs nums hwl hxl hop
  · exact Apply_1 ws xs nums hwl hxl
  · exact Apply_2 ws xs nums hwl hxl
  · exact Apply_3 ws xs nums hwl hxl
  · exact Apply_4 ws xs nums hwl hxl
  · exact Apply_5 ws xs nums hwl hxl
  · exact Apply_6 ws xs nums hwl hxl
  · exact Apply_7 ws xs nums hwl hxl
  · exact Apply_8 ws xs nums hwl hxl
  · exact Apply_9 ws xs nums hwl hxl
  · exact Apply_10 ws xs nums hwl hxl
  · exact Apply_11 ws xs nums hwl hxl
  · exact Apply_12 ws xs nums hwl hxl
  · exact Apply_13 ws xs nums hwl hxl

end Go.Proofs.Ytaghhicmnalmmaa
