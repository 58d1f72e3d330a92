/-
  Package bits: Width.
-/
import Derived.Test.YtaghhicmnalmmaaBitE
import Derived.Test.YtaghhicmnalmmaaBitF
namespace Go.Proofs.Ytaghhicmnalmmaa
open Go.RowKit
set_option linter.unusedVariables false
set_option linter.unusedSimpArgs false
abbrev yg0 (k w : Int) : Box := (.var 23 [(i6 k),(i6 w)])
abbrev yg1 (ws : List Int) (k w : Int) : D := (.agg [(LI ws),(LI []),(i6 k),(i6 w)])
abbrev yg2 : List D := [(i6 0),(.v .nilf),(.v .nilf)]
abbrev yg3 : D := (.tup [(.agg yg2),(i6 0),(dB false)])
abbrev yg4 : D := (.fn (.func 43) [] [])
abbrev yg5 (ws : List Int) (k w : Int) : D := (.agg [(LI ws),.nils,(i6 k),(i6 w)])
abbrev yg6 (k w : Int) : List Box := [(yg0 k w),(.var 57 yg2)]
abbrev yg7 : List (Nat × D) := [(6,(i6 0)),(7,(i6 1))]
abbrev yg8 : List D := [(i6 0),(.fn (.func 52) [] []),(.fn (.func 53) [] [])]
abbrev yg9 : List D := [(i6 1),(.fn (.func 40) [] []),(.fn (.func 41) [] [])]
abbrev yg10 : List D := [(i6 2),(.fn (.func 49) [] []),(.fn (.func 50) [] [])]
abbrev yg11 : List D := [(i6 2),(.fn (.func 49) [] []),(.fn (.func 51) [] [])]
abbrev yg12 : List D := [(i6 3),(.fn (.func 54) [] []),(.fn (.func 55) [] [])]
abbrev yg13 : List D := [(i6 2),(.fn (.func 56) [] []),(.fn (.func 57) [] [])]
abbrev yg14 : List D := [(i6 1),(.fn (.func 58) [] []),(.fn (.func 59) [] [])]
abbrev yg15 : List D := [(i6 1),(.fn (.func 60) [] []),(.fn (.func 61) [] [])]
abbrev yg16 : List (Nat × D) := [(9,(i6 0)),(10,(dB false))]
abbrev yg17 : List (Nat × D) := [(9,(i6 0)),(24,(dB true))]
abbrev yg18 : List D := [(i6 2),yg4,(.fn (.func 44) [] [])]
abbrev yg19 : List D := [(i6 2),yg4,(.fn (.func 45) [] [])]
abbrev yg20 : List D := [(i6 2),yg4,(.fn (.func 46) [] [])]
abbrev yg21 : List D := [(i6 2),yg4,(.fn (.func 47) [] [])]
abbrev yg22 : List D := [(i6 2),yg4,(.fn (.func 48) [] [])]
abbrev yg23 (k w : Int) : D := (.agg [(i6 k),(i6 w)])
abbrev yg24 : D := (.ptr 0 0 0 0)

set_option maxRecDepth 100000 in
theorem Width_1 (ws : List Int) (k w : Int) (hwl : ws.length ≤ 9223372036854775807) : CallOk Try.prog 10 [(i6 1),(LI ws),(yg23 k w)] [] false (.tup [(i6 (widthV 1 ws k w)),(i6 (widthE 1 ws k w))]) [] := by
  refine CallOk.of_ev Try.func10 rfl rfl rfl ?_
  rintro ⟨_,W,S0,_,susp,_⟩ rfl rfl rfl
  refine Ev.seq ?_
  refine Ev.reg [] [0,1,5] (st' := ⟨[(0,(i6 1)),(1,(LI ws)),(5,yg24)],[(yg0 k w)]⟩)
    (p := T3 True) (by kernel_rfl)
    ⟨oK,oK,oK,oK⟩ ?_
  refine Ev.seq ?_
  rcases ok3 1 ws k w with ⟨hb,h⟩ | ⟨hb,hv,h⟩ | h
  · skip
    refine Ev.reg [(7,.call (some [(i6 1),(yg1 ws k w)]) true yg3)] [9,10] (st' := ⟨yg16,(yg6 k w)⟩)
      (p := T2 (((0 ≤ (0 : Int)∧0 < (2 : Int))∧True)∧True∧((0 ≤ (1 : Int)∧1 < (2 : Int))∧True)∧T2 (callOb Try.prog 27 [(yg0 k w)] [(i6 1),(yg5 ws k w)] (some [(i6 1),(yg1 ws k w)]) true yg3∧T8 True))) (by kernel_rfl)
      ⟨oK,oK,⟨by omega,oK⟩,oK,⟨by omega,oK⟩,oK,oK,⟨⟨rfl,⟨rfl,rfl,rfl,rfl,oK⟩,oK⟩,(width_bad_1 _ _ _ _ hwl hb)⟩,oK,oK,oK,oK,oK,oK,oK,oK,oK⟩ ?_
    refine Ev.seq ?_
    refine Ev.seq ?_
    refine Ev.reg [] [9,24] (st' := ⟨yg17,(yg6 k w)⟩)
      (p := T2 True) (by kernel_rfl)
      ⟨oK,oK,oK⟩ ?_
    refine Ev.cond true rfl (fun _ => ?_) (fun h => (by cases h))
    refine Ev.seq ?_
    refine Ev.reg [] [6,7] (st' := ⟨yg7,(yg6 k w)⟩)
      (p := T2 True) (by kernel_rfl)
      ⟨oK,oK,oK⟩ ?_
    refine Ev.ret ?_
    refine ⟨⟨oK,oK,oK⟩,(?_ : (0 : Int) = (widthV 1 ws k w)∧(1 : Int) = (widthE 1 ws k w)∧True),.inr ⟨oK,oK,oK⟩⟩
    exact ⟨(if_neg (by rw [h]; simp)).symm,(if_neg (by rw [h]; simp)).symm,oK⟩
  · skip
    refine Ev.reg [(7,.call (some [(i6 1),(yg1 ws k w)]) true (.tup [(.agg yg8),(i6 (wvF 1 ws k w)),(dB false)]))] [9,10] (st' := ⟨[(9,(i6 (wvF 1 ws k w))),(10,(dB false))],[(yg0 k w),(.var 57 yg8)]⟩)
      (p := T2 (((0 ≤ (0 : Int)∧0 < (2 : Int))∧True)∧True∧((0 ≤ (1 : Int)∧1 < (2 : Int))∧True)∧T2 (callOb Try.prog 27 [(yg0 k w)] [(i6 1),(yg5 ws k w)] (some [(i6 1),(yg1 ws k w)]) true (.tup [(.agg yg8),(i6 (wvF 1 ws k w)),(dB false)])∧T8 True))) (by kernel_rfl)
      ⟨oK,oK,⟨by omega,oK⟩,oK,⟨by omega,oK⟩,oK,oK,⟨⟨rfl,⟨rfl,rfl,rfl,rfl,oK⟩,oK⟩,(width_wv_1 _ _ _ _ hwl hb hv)⟩,oK,oK,oK,oK,oK,oK,oK,oK,oK⟩ ?_
    refine Ev.seq ?_
    refine Ev.seq ?_
    refine Ev.reg [] [9,24] (st' := ⟨[(9,(i6 (wvF 1 ws k w))),(24,(dB true))],[(yg0 k w),(.var 57 yg8)]⟩)
      (p := T2 True) (by kernel_rfl)
      ⟨oK,oK,oK⟩ ?_
    refine Ev.cond true rfl (fun _ => ?_) (fun h => (by cases h))
    refine Ev.seq ?_
    refine Ev.reg [] [6,7] (st' := ⟨yg7,[(yg0 k w),(.var 57 yg8)]⟩)
      (p := T2 True) (by kernel_rfl)
      ⟨oK,oK,oK⟩ ?_
    refine Ev.ret ?_
    refine ⟨⟨oK,oK,oK⟩,(?_ : (0 : Int) = (widthV 1 ws k w)∧(1 : Int) = (widthE 1 ws k w)∧True),.inr ⟨oK,oK,oK⟩⟩
    exact ⟨(if_neg (by rw [h]; simp)).symm,(if_neg (by rw [h]; simp)).symm,oK⟩
  · skip
    refine Ev.reg [(7,.call (some [(i6 1),(yg1 ws k w)]) true (.tup [(.agg yg8),(i6 (wvF 1 ws k w)),(dB true)]))] [9,10] (st' := ⟨[(9,(i6 (wvF 1 ws k w))),(10,(dB true))],[(yg0 k w),(.var 57 yg8)]⟩)
      (p := T2 (((0 ≤ (0 : Int)∧0 < (2 : Int))∧True)∧True∧((0 ≤ (1 : Int)∧1 < (2 : Int))∧True)∧T2 (callOb Try.prog 27 [(yg0 k w)] [(i6 1),(yg5 ws k w)] (some [(i6 1),(yg1 ws k w)]) true (.tup [(.agg yg8),(i6 (wvF 1 ws k w)),(dB true)])∧T8 True))) (by kernel_rfl)
      ⟨oK,oK,⟨by omega,oK⟩,oK,⟨by omega,oK⟩,oK,oK,⟨⟨rfl,⟨rfl,rfl,rfl,rfl,oK⟩,oK⟩,(width_good_1 _ _ _ _ hwl h)⟩,oK,oK,oK,oK,oK,oK,oK,oK,oK⟩ ?_
    refine Ev.seq ?_
    refine Ev.seq ?_
    refine Ev.reg [] [9,24] (st' := ⟨[(9,(i6 (wvF 1 ws k w))),(24,(dB false))],[(yg0 k w),(.var 57 yg8)]⟩)
      (p := T2 True) (by kernel_rfl)
      ⟨oK,oK,oK⟩ ?_
    refine Ev.cond false rfl (fun h => (by cases h)) (fun _ => ?_)
    refine Ev.skip ?_
    refine Ev.seq ?_
    refine Ev.reg [] [6,7] (st' := ⟨[(6,(i6 (wvF 1 ws k w))),(7,(i6 0))],[(yg0 k w),(.var 57 yg8)]⟩)
      (p := T3 True) (by kernel_rfl)
      ⟨oK,oK,oK,oK⟩ ?_
    refine Ev.ret ?_
    refine ⟨⟨oK,oK,oK⟩,(?_ : (wvF 1 ws k w) = (widthV 1 ws k w)∧(0 : Int) = (widthE 1 ws k w)∧True),.inr ⟨oK,oK,oK⟩⟩
    exact ⟨(if_pos h).symm,(if_pos h).symm,oK⟩

set_option maxRecDepth 100000 in
theorem Width_2 (ws : List Int) (k w : Int) (hwl : ws.length ≤ 9223372036854775807) : CallOk Try.prog 10 [(i6 2),(LI ws),(yg23 k w)] [] false (.tup [(i6 (widthV 2 ws k w)),(i6 (widthE 2 ws k w))]) [] := by
  refine CallOk.of_ev Try.func10 rfl rfl rfl ?_
  rintro ⟨_,W,S0,_,susp,_⟩ rfl rfl rfl
  refine Ev.seq ?_
  refine Ev.reg [] [0,1,5] (st' := ⟨[(0,(i6 2)),(1,(LI ws)),(5,yg24)],[(yg0 k w)]⟩)
    (p := T3 True) (by kernel_rfl)
    ⟨oK,oK,oK,oK⟩ ?_
  refine Ev.seq ?_
  rcases ok3 2 ws k w with ⟨hb,h⟩ | ⟨hb,hv,h⟩ | h
  · skip
    refine Ev.reg [(7,.call (some [(i6 2),(yg1 ws k w)]) true yg3)] [9,10] (st' := ⟨yg16,(yg6 k w)⟩)
      (p := T2 (((0 ≤ (0 : Int)∧0 < (2 : Int))∧True)∧True∧((0 ≤ (1 : Int)∧1 < (2 : Int))∧True)∧T2 (callOb Try.prog 27 [(yg0 k w)] [(i6 2),(yg5 ws k w)] (some [(i6 2),(yg1 ws k w)]) true yg3∧T8 True))) (by kernel_rfl)
      ⟨oK,oK,⟨by omega,oK⟩,oK,⟨by omega,oK⟩,oK,oK,⟨⟨rfl,⟨rfl,rfl,rfl,rfl,oK⟩,oK⟩,(width_bad_2 _ _ _ _ hwl hb)⟩,oK,oK,oK,oK,oK,oK,oK,oK,oK⟩ ?_
    refine Ev.seq ?_
    refine Ev.seq ?_
    refine Ev.reg [] [9,24] (st' := ⟨yg17,(yg6 k w)⟩)
      (p := T2 True) (by kernel_rfl)
      ⟨oK,oK,oK⟩ ?_
    refine Ev.cond true rfl (fun _ => ?_) (fun h => (by cases h))
    refine Ev.seq ?_
    refine Ev.reg [] [6,7] (st' := ⟨yg7,(yg6 k w)⟩)
      (p := T2 True) (by kernel_rfl)
      ⟨oK,oK,oK⟩ ?_
    refine Ev.ret ?_
    refine ⟨⟨oK,oK,oK⟩,(?_ : (0 : Int) = (widthV 2 ws k w)∧(1 : Int) = (widthE 2 ws k w)∧True),.inr ⟨oK,oK,oK⟩⟩
    exact ⟨(if_neg (by rw [h]; simp)).symm,(if_neg (by rw [h]; simp)).symm,oK⟩
  · skip
    refine Ev.reg [(7,.call (some [(i6 2),(yg1 ws k w)]) true (.tup [(.agg yg9),(i6 (wvF 2 ws k w)),(dB false)]))] [9,10] (st' := ⟨[(9,(i6 (wvF 2 ws k w))),(10,(dB false))],[(yg0 k w),(.var 57 yg9)]⟩)
      (p := T2 (((0 ≤ (0 : Int)∧0 < (2 : Int))∧True)∧True∧((0 ≤ (1 : Int)∧1 < (2 : Int))∧True)∧T2 (callOb Try.prog 27 [(yg0 k w)] [(i6 2),(yg5 ws k w)] (some [(i6 2),(yg1 ws k w)]) true (.tup [(.agg yg9),(i6 (wvF 2 ws k w)),(dB false)])∧T8 True))) (by kernel_rfl)
      ⟨oK,oK,⟨by omega,oK⟩,oK,⟨by omega,oK⟩,oK,oK,⟨⟨rfl,⟨rfl,rfl,rfl,rfl,oK⟩,oK⟩,(width_wv_2 _ _ _ _ hwl hb hv)⟩,oK,oK,oK,oK,oK,oK,oK,oK,oK⟩ ?_
    refine Ev.seq ?_
    refine Ev.seq ?_
    refine Ev.reg [] [9,24] (st' := ⟨[(9,(i6 (wvF 2 ws k w))),(24,(dB true))],[(yg0 k w),(.var 57 yg9)]⟩)
      (p := T2 True) (by kernel_rfl)
      ⟨oK,oK,oK⟩ ?_
    refine Ev.cond true rfl (fun _ => ?_) (fun h => (by cases h))
    refine Ev.seq ?_
    refine Ev.reg [] [6,7] (st' := ⟨yg7,[(yg0 k w),(.var 57 yg9)]⟩)
      (p := T2 True) (by kernel_rfl)
      ⟨oK,oK,oK⟩ ?_
    refine Ev.ret ?_
    refine ⟨⟨oK,oK,oK⟩,(?_ : (0 : Int) = (widthV 2 ws k w)∧(1 : Int) = (widthE 2 ws k w)∧True),.inr ⟨oK,oK,oK⟩⟩
    exact ⟨(if_neg (by rw [h]; simp)).symm,(if_neg (by rw [h]; simp)).symm,oK⟩
  · skip
    refine Ev.reg [(7,.call (some [(i6 2),(yg1 ws k w)]) true (.tup [(.agg yg9),(i6 (wvF 2 ws k w)),(dB true)]))] [9,10] (st' := ⟨[(9,(i6 (wvF 2 ws k w))),(10,(dB true))],[(yg0 k w),(.var 57 yg9)]⟩)
      (p := T2 (((0 ≤ (0 : Int)∧0 < (2 : Int))∧True)∧True∧((0 ≤ (1 : Int)∧1 < (2 : Int))∧True)∧T2 (callOb Try.prog 27 [(yg0 k w)] [(i6 2),(yg5 ws k w)] (some [(i6 2),(yg1 ws k w)]) true (.tup [(.agg yg9),(i6 (wvF 2 ws k w)),(dB true)])∧T8 True))) (by kernel_rfl)
      ⟨oK,oK,⟨by omega,oK⟩,oK,⟨by omega,oK⟩,oK,oK,⟨⟨rfl,⟨rfl,rfl,rfl,rfl,oK⟩,oK⟩,(width_good_2 _ _ _ _ hwl h)⟩,oK,oK,oK,oK,oK,oK,oK,oK,oK⟩ ?_
    refine Ev.seq ?_
    refine Ev.seq ?_
    refine Ev.reg [] [9,24] (st' := ⟨[(9,(i6 (wvF 2 ws k w))),(24,(dB false))],[(yg0 k w),(.var 57 yg9)]⟩)
      (p := T2 True) (by kernel_rfl)
      ⟨oK,oK,oK⟩ ?_
    refine Ev.cond false rfl (fun h => (by cases h)) (fun _ => ?_)
    refine Ev.skip ?_
    refine Ev.seq ?_
    refine Ev.reg [] [6,7] (st' := ⟨[(6,(i6 (wvF 2 ws k w))),(7,(i6 0))],[(yg0 k w),(.var 57 yg9)]⟩)
      (p := T3 True) (by kernel_rfl)
      ⟨oK,oK,oK,oK⟩ ?_
    refine Ev.ret ?_
    refine ⟨⟨oK,oK,oK⟩,(?_ : (wvF 2 ws k w) = (widthV 2 ws k w)∧(0 : Int) = (widthE 2 ws k w)∧True),.inr ⟨oK,oK,oK⟩⟩
    exact ⟨(if_pos h).symm,(if_pos h).symm,oK⟩

set_option maxRecDepth 100000 in
theorem Width_3 (ws : List Int) (k w : Int) (hwl : ws.length ≤ 9223372036854775807) : CallOk Try.prog 10 [(i6 3),(LI ws),(yg23 k w)] [] false (.tup [(i6 (widthV 3 ws k w)),(i6 (widthE 3 ws k w))]) [] := by
  refine CallOk.of_ev Try.func10 rfl rfl rfl ?_
  rintro ⟨_,W,S0,_,susp,_⟩ rfl rfl rfl
  refine Ev.seq ?_
  refine Ev.reg [] [0,1,5] (st' := ⟨[(0,(i6 3)),(1,(LI ws)),(5,yg24)],[(yg0 k w)]⟩)
    (p := T3 True) (by kernel_rfl)
    ⟨oK,oK,oK,oK⟩ ?_
  refine Ev.seq ?_
  rcases ok3 3 ws k w with ⟨hb,h⟩ | ⟨hb,hv,h⟩ | h
  · skip
    refine Ev.reg [(7,.call (some [(i6 3),(yg1 ws k w)]) true yg3)] [9,10] (st' := ⟨yg16,(yg6 k w)⟩)
      (p := T2 (((0 ≤ (0 : Int)∧0 < (2 : Int))∧True)∧True∧((0 ≤ (1 : Int)∧1 < (2 : Int))∧True)∧T2 (callOb Try.prog 27 [(yg0 k w)] [(i6 3),(yg5 ws k w)] (some [(i6 3),(yg1 ws k w)]) true yg3∧T8 True))) (by kernel_rfl)
      ⟨oK,oK,⟨by omega,oK⟩,oK,⟨by omega,oK⟩,oK,oK,⟨⟨rfl,⟨rfl,rfl,rfl,rfl,oK⟩,oK⟩,(width_bad_3 _ _ _ _ hwl hb)⟩,oK,oK,oK,oK,oK,oK,oK,oK,oK⟩ ?_
    refine Ev.seq ?_
    refine Ev.seq ?_
    refine Ev.reg [] [9,24] (st' := ⟨yg17,(yg6 k w)⟩)
      (p := T2 True) (by kernel_rfl)
      ⟨oK,oK,oK⟩ ?_
    refine Ev.cond true rfl (fun _ => ?_) (fun h => (by cases h))
    refine Ev.seq ?_
    refine Ev.reg [] [6,7] (st' := ⟨yg7,(yg6 k w)⟩)
      (p := T2 True) (by kernel_rfl)
      ⟨oK,oK,oK⟩ ?_
    refine Ev.ret ?_
    refine ⟨⟨oK,oK,oK⟩,(?_ : (0 : Int) = (widthV 3 ws k w)∧(1 : Int) = (widthE 3 ws k w)∧True),.inr ⟨oK,oK,oK⟩⟩
    exact ⟨(if_neg (by rw [h]; simp)).symm,(if_neg (by rw [h]; simp)).symm,oK⟩
  · skip
    refine Ev.reg [(7,.call (some [(i6 3),(yg1 ws k w)]) true (.tup [(.agg yg18),(i6 (wvF 3 ws k w)),(dB false)]))] [9,10] (st' := ⟨[(9,(i6 (wvF 3 ws k w))),(10,(dB false))],[(yg0 k w),(.var 57 yg18)]⟩)
      (p := T2 (((0 ≤ (0 : Int)∧0 < (2 : Int))∧True)∧True∧((0 ≤ (1 : Int)∧1 < (2 : Int))∧True)∧T2 (callOb Try.prog 27 [(yg0 k w)] [(i6 3),(yg5 ws k w)] (some [(i6 3),(yg1 ws k w)]) true (.tup [(.agg yg18),(i6 (wvF 3 ws k w)),(dB false)])∧T8 True))) (by kernel_rfl)
      ⟨oK,oK,⟨by omega,oK⟩,oK,⟨by omega,oK⟩,oK,oK,⟨⟨rfl,⟨rfl,rfl,rfl,rfl,oK⟩,oK⟩,(width_wv_3 _ _ _ _ hwl hb hv)⟩,oK,oK,oK,oK,oK,oK,oK,oK,oK⟩ ?_
    refine Ev.seq ?_
    refine Ev.seq ?_
    refine Ev.reg [] [9,24] (st' := ⟨[(9,(i6 (wvF 3 ws k w))),(24,(dB true))],[(yg0 k w),(.var 57 yg18)]⟩)
      (p := T2 True) (by kernel_rfl)
      ⟨oK,oK,oK⟩ ?_
    refine Ev.cond true rfl (fun _ => ?_) (fun h => (by cases h))
    refine Ev.seq ?_
    refine Ev.reg [] [6,7] (st' := ⟨yg7,[(yg0 k w),(.var 57 yg18)]⟩)
      (p := T2 True) (by kernel_rfl)
      ⟨oK,oK,oK⟩ ?_
    refine Ev.ret ?_
    refine ⟨⟨oK,oK,oK⟩,(?_ : (0 : Int) = (widthV 3 ws k w)∧(1 : Int) = (widthE 3 ws k w)∧True),.inr ⟨oK,oK,oK⟩⟩
    exact ⟨(if_neg (by rw [h]; simp)).symm,(if_neg (by rw [h]; simp)).symm,oK⟩
  · skip
    refine Ev.reg [(7,.call (some [(i6 3),(yg1 ws k w)]) true (.tup [(.agg yg18),(i6 (wvF 3 ws k w)),(dB true)]))] [9,10] (st' := ⟨[(9,(i6 (wvF 3 ws k w))),(10,(dB true))],[(yg0 k w),(.var 57 yg18)]⟩)
      (p := T2 (((0 ≤ (0 : Int)∧0 < (2 : Int))∧True)∧True∧((0 ≤ (1 : Int)∧1 < (2 : Int))∧True)∧T2 (callOb Try.prog 27 [(yg0 k w)] [(i6 3),(yg5 ws k w)] (some [(i6 3),(yg1 ws k w)]) true (.tup [(.agg yg18),(i6 (wvF 3 ws k w)),(dB true)])∧T8 True))) (by kernel_rfl)
      ⟨oK,oK,⟨by omega,oK⟩,oK,⟨by omega,oK⟩,oK,oK,⟨⟨rfl,⟨rfl,rfl,rfl,rfl,oK⟩,oK⟩,(width_good_3 _ _ _ _ hwl h)⟩,oK,oK,oK,oK,oK,oK,oK,oK,oK⟩ ?_
    refine Ev.seq ?_
    refine Ev.seq ?_
    refine Ev.reg [] [9,24] (st' := ⟨[(9,(i6 (wvF 3 ws k w))),(24,(dB false))],[(yg0 k w),(.var 57 yg18)]⟩)
      (p := T2 True) (by kernel_rfl)
      ⟨oK,oK,oK⟩ ?_
    refine Ev.cond false rfl (fun h => (by cases h)) (fun _ => ?_)
    refine Ev.skip ?_
    refine Ev.seq ?_
    refine Ev.reg [] [6,7] (st' := ⟨[(6,(i6 (wvF 3 ws k w))),(7,(i6 0))],[(yg0 k w),(.var 57 yg18)]⟩)
      (p := T3 True) (by kernel_rfl)
      ⟨oK,oK,oK,oK⟩ ?_
    refine Ev.ret ?_
    refine ⟨⟨oK,oK,oK⟩,(?_ : (wvF 3 ws k w) = (widthV 3 ws k w)∧(0 : Int) = (widthE 3 ws k w)∧True),.inr ⟨oK,oK,oK⟩⟩
    exact ⟨(if_pos h).symm,(if_pos h).symm,oK⟩

set_option maxRecDepth 100000 in
theorem Width_4 (ws : List Int) (k w : Int) (hwl : ws.length ≤ 9223372036854775807) : CallOk Try.prog 10 [(i6 4),(LI ws),(yg23 k w)] [] false (.tup [(i6 (widthV 4 ws k w)),(i6 (widthE 4 ws k w))]) [] := by
  refine CallOk.of_ev Try.func10 rfl rfl rfl ?_
  rintro ⟨_,W,S0,_,susp,_⟩ rfl rfl rfl
  refine Ev.seq ?_
  refine Ev.reg [] [0,1,5] (st' := ⟨[(0,(i6 4)),(1,(LI ws)),(5,yg24)],[(yg0 k w)]⟩)
    (p := T3 True) (by kernel_rfl)
    ⟨oK,oK,oK,oK⟩ ?_
  refine Ev.seq ?_
  rcases ok3 4 ws k w with ⟨hb,h⟩ | ⟨hb,hv,h⟩ | h
  · skip
    refine Ev.reg [(7,.call (some [(i6 4),(yg1 ws k w)]) true yg3)] [9,10] (st' := ⟨yg16,(yg6 k w)⟩)
      (p := T2 (((0 ≤ (0 : Int)∧0 < (2 : Int))∧True)∧True∧((0 ≤ (1 : Int)∧1 < (2 : Int))∧True)∧T2 (callOb Try.prog 27 [(yg0 k w)] [(i6 4),(yg5 ws k w)] (some [(i6 4),(yg1 ws k w)]) true yg3∧T8 True))) (by kernel_rfl)
      ⟨oK,oK,⟨by omega,oK⟩,oK,⟨by omega,oK⟩,oK,oK,⟨⟨rfl,⟨rfl,rfl,rfl,rfl,oK⟩,oK⟩,(width_bad_4 _ _ _ _ hwl hb)⟩,oK,oK,oK,oK,oK,oK,oK,oK,oK⟩ ?_
    refine Ev.seq ?_
    refine Ev.seq ?_
    refine Ev.reg [] [9,24] (st' := ⟨yg17,(yg6 k w)⟩)
      (p := T2 True) (by kernel_rfl)
      ⟨oK,oK,oK⟩ ?_
    refine Ev.cond true rfl (fun _ => ?_) (fun h => (by cases h))
    refine Ev.seq ?_
    refine Ev.reg [] [6,7] (st' := ⟨yg7,(yg6 k w)⟩)
      (p := T2 True) (by kernel_rfl)
      ⟨oK,oK,oK⟩ ?_
    refine Ev.ret ?_
    refine ⟨⟨oK,oK,oK⟩,(?_ : (0 : Int) = (widthV 4 ws k w)∧(1 : Int) = (widthE 4 ws k w)∧True),.inr ⟨oK,oK,oK⟩⟩
    exact ⟨(if_neg (by rw [h]; simp)).symm,(if_neg (by rw [h]; simp)).symm,oK⟩
  · skip
    refine Ev.reg [(7,.call (some [(i6 4),(yg1 ws k w)]) true (.tup [(.agg yg19),(i6 (wvF 4 ws k w)),(dB false)]))] [9,10] (st' := ⟨[(9,(i6 (wvF 4 ws k w))),(10,(dB false))],[(yg0 k w),(.var 57 yg19)]⟩)
      (p := T2 (((0 ≤ (0 : Int)∧0 < (2 : Int))∧True)∧True∧((0 ≤ (1 : Int)∧1 < (2 : Int))∧True)∧T2 (callOb Try.prog 27 [(yg0 k w)] [(i6 4),(yg5 ws k w)] (some [(i6 4),(yg1 ws k w)]) true (.tup [(.agg yg19),(i6 (wvF 4 ws k w)),(dB false)])∧T8 True))) (by kernel_rfl)
      ⟨oK,oK,⟨by omega,oK⟩,oK,⟨by omega,oK⟩,oK,oK,⟨⟨rfl,⟨rfl,rfl,rfl,rfl,oK⟩,oK⟩,(width_wv_4 _ _ _ _ hwl hb hv)⟩,oK,oK,oK,oK,oK,oK,oK,oK,oK⟩ ?_
    refine Ev.seq ?_
    refine Ev.seq ?_
    refine Ev.reg [] [9,24] (st' := ⟨[(9,(i6 (wvF 4 ws k w))),(24,(dB true))],[(yg0 k w),(.var 57 yg19)]⟩)
      (p := T2 True) (by kernel_rfl)
      ⟨oK,oK,oK⟩ ?_
    refine Ev.cond true rfl (fun _ => ?_) (fun h => (by cases h))
    refine Ev.seq ?_
    refine Ev.reg [] [6,7] (st' := ⟨yg7,[(yg0 k w),(.var 57 yg19)]⟩)
      (p := T2 True) (by kernel_rfl)
      ⟨oK,oK,oK⟩ ?_
    refine Ev.ret ?_
    refine ⟨⟨oK,oK,oK⟩,(?_ : (0 : Int) = (widthV 4 ws k w)∧(1 : Int) = (widthE 4 ws k w)∧True),.inr ⟨oK,oK,oK⟩⟩
    exact ⟨(if_neg (by rw [h]; simp)).symm,(if_neg (by rw [h]; simp)).symm,oK⟩
  · skip
    refine Ev.reg [(7,.call (some [(i6 4),(yg1 ws k w)]) true (.tup [(.agg yg19),(i6 (wvF 4 ws k w)),(dB true)]))] [9,10] (st' := ⟨[(9,(i6 (wvF 4 ws k w))),(10,(dB true))],[(yg0 k w),(.var 57 yg19)]⟩)
      (p := T2 (((0 ≤ (0 : Int)∧0 < (2 : Int))∧True)∧True∧((0 ≤ (1 : Int)∧1 < (2 : Int))∧True)∧T2 (callOb Try.prog 27 [(yg0 k w)] [(i6 4),(yg5 ws k w)] (some [(i6 4),(yg1 ws k w)]) true (.tup [(.agg yg19),(i6 (wvF 4 ws k w)),(dB true)])∧T8 True))) (by kernel_rfl)
      ⟨oK,oK,⟨by omega,oK⟩,oK,⟨by omega,oK⟩,oK,oK,⟨⟨rfl,⟨rfl,rfl,rfl,rfl,oK⟩,oK⟩,(width_good_4 _ _ _ _ hwl h)⟩,oK,oK,oK,oK,oK,oK,oK,oK,oK⟩ ?_
    refine Ev.seq ?_
    refine Ev.seq ?_
    refine Ev.reg [] [9,24] (st' := ⟨[(9,(i6 (wvF 4 ws k w))),(24,(dB false))],[(yg0 k w),(.var 57 yg19)]⟩)
      (p := T2 True) (by kernel_rfl)
      ⟨oK,oK,oK⟩ ?_
    refine Ev.cond false rfl (fun h => (by cases h)) (fun _ => ?_)
    refine Ev.skip ?_
    refine Ev.seq ?_
    refine Ev.reg [] [6,7] (st' := ⟨[(6,(i6 (wvF 4 ws k w))),(7,(i6 0))],[(yg0 k w),(.var 57 yg19)]⟩)
      (p := T3 True) (by kernel_rfl)
      ⟨oK,oK,oK,oK⟩ ?_
    refine Ev.ret ?_
    refine ⟨⟨oK,oK,oK⟩,(?_ : (wvF 4 ws k w) = (widthV 4 ws k w)∧(0 : Int) = (widthE 4 ws k w)∧True),.inr ⟨oK,oK,oK⟩⟩
    exact ⟨(if_pos h).symm,(if_pos h).symm,oK⟩

set_option maxRecDepth 100000 in
theorem Width_5 (ws : List Int) (k w : Int) (hwl : ws.length ≤ 9223372036854775807) : CallOk Try.prog 10 [(i6 5),(LI ws),(yg23 k w)] [] false (.tup [(i6 (widthV 5 ws k w)),(i6 (widthE 5 ws k w))]) [] := by
  refine CallOk.of_ev Try.func10 rfl rfl rfl ?_
  rintro ⟨_,W,S0,_,susp,_⟩ rfl rfl rfl
  refine Ev.seq ?_
  refine Ev.reg [] [0,1,5] (st' := ⟨[(0,(i6 5)),(1,(LI ws)),(5,yg24)],[(yg0 k w)]⟩)
    (p := T3 True) (by kernel_rfl)
    ⟨oK,oK,oK,oK⟩ ?_
  refine Ev.seq ?_
  rcases ok3 5 ws k w with ⟨hb,h⟩ | ⟨hb,hv,h⟩ | h
  · skip
    refine Ev.reg [(7,.call (some [(i6 5),(yg1 ws k w)]) true yg3)] [9,10] (st' := ⟨yg16,(yg6 k w)⟩)
      (p := T2 (((0 ≤ (0 : Int)∧0 < (2 : Int))∧True)∧True∧((0 ≤ (1 : Int)∧1 < (2 : Int))∧True)∧T2 (callOb Try.prog 27 [(yg0 k w)] [(i6 5),(yg5 ws k w)] (some [(i6 5),(yg1 ws k w)]) true yg3∧T8 True))) (by kernel_rfl)
      ⟨oK,oK,⟨by omega,oK⟩,oK,⟨by omega,oK⟩,oK,oK,⟨⟨rfl,⟨rfl,rfl,rfl,rfl,oK⟩,oK⟩,(width_bad_5 _ _ _ _ hwl hb)⟩,oK,oK,oK,oK,oK,oK,oK,oK,oK⟩ ?_
    refine Ev.seq ?_
    refine Ev.seq ?_
    refine Ev.reg [] [9,24] (st' := ⟨yg17,(yg6 k w)⟩)
      (p := T2 True) (by kernel_rfl)
      ⟨oK,oK,oK⟩ ?_
    refine Ev.cond true rfl (fun _ => ?_) (fun h => (by cases h))
    refine Ev.seq ?_
    refine Ev.reg [] [6,7] (st' := ⟨yg7,(yg6 k w)⟩)
      (p := T2 True) (by kernel_rfl)
      ⟨oK,oK,oK⟩ ?_
    refine Ev.ret ?_
    refine ⟨⟨oK,oK,oK⟩,(?_ : (0 : Int) = (widthV 5 ws k w)∧(1 : Int) = (widthE 5 ws k w)∧True),.inr ⟨oK,oK,oK⟩⟩
    exact ⟨(if_neg (by rw [h]; simp)).symm,(if_neg (by rw [h]; simp)).symm,oK⟩
  · skip
    refine Ev.reg [(7,.call (some [(i6 5),(yg1 ws k w)]) true (.tup [(.agg yg20),(i6 (wvF 5 ws k w)),(dB false)]))] [9,10] (st' := ⟨[(9,(i6 (wvF 5 ws k w))),(10,(dB false))],[(yg0 k w),(.var 57 yg20)]⟩)
      (p := T2 (((0 ≤ (0 : Int)∧0 < (2 : Int))∧True)∧True∧((0 ≤ (1 : Int)∧1 < (2 : Int))∧True)∧T2 (callOb Try.prog 27 [(yg0 k w)] [(i6 5),(yg5 ws k w)] (some [(i6 5),(yg1 ws k w)]) true (.tup [(.agg yg20),(i6 (wvF 5 ws k w)),(dB false)])∧T8 True))) (by kernel_rfl)
      ⟨oK,oK,⟨by omega,oK⟩,oK,⟨by omega,oK⟩,oK,oK,⟨⟨rfl,⟨rfl,rfl,rfl,rfl,oK⟩,oK⟩,(width_wv_5 _ _ _ _ hwl hb hv)⟩,oK,oK,oK,oK,oK,oK,oK,oK,oK⟩ ?_
    refine Ev.seq ?_
    refine Ev.seq ?_
    refine Ev.reg [] [9,24] (st' := ⟨[(9,(i6 (wvF 5 ws k w))),(24,(dB true))],[(yg0 k w),(.var 57 yg20)]⟩)
      (p := T2 True) (by kernel_rfl)
      ⟨oK,oK,oK⟩ ?_
    refine Ev.cond true rfl (fun _ => ?_) (fun h => (by cases h))
    refine Ev.seq ?_
    refine Ev.reg [] [6,7] (st' := ⟨yg7,[(yg0 k w),(.var 57 yg20)]⟩)
      (p := T2 True) (by kernel_rfl)
      ⟨oK,oK,oK⟩ ?_
    refine Ev.ret ?_
    refine ⟨⟨oK,oK,oK⟩,(?_ : (0 : Int) = (widthV 5 ws k w)∧(1 : Int) = (widthE 5 ws k w)∧True),.inr ⟨oK,oK,oK⟩⟩
    exact ⟨(if_neg (by rw [h]; simp)).symm,(if_neg (by rw [h]; simp)).symm,oK⟩
  · skip
    refine Ev.reg [(7,.call (some [(i6 5),(yg1 ws k w)]) true (.tup [(.agg yg20),(i6 (wvF 5 ws k w)),(dB true)]))] [9,10] (st' := ⟨[(9,(i6 (wvF 5 ws k w))),(10,(dB true))],[(yg0 k w),(.var 57 yg20)]⟩)
      (p := T2 (((0 ≤ (0 : Int)∧0 < (2 : Int))∧True)∧True∧((0 ≤ (1 : Int)∧1 < (2 : Int))∧True)∧T2 (callOb Try.prog 27 [(yg0 k w)] [(i6 5),(yg5 ws k w)] (some [(i6 5),(yg1 ws k w)]) true (.tup [(.agg yg20),(i6 (wvF 5 ws k w)),(dB true)])∧T8 True))) (by kernel_rfl)
      ⟨oK,oK,⟨by omega,oK⟩,oK,⟨by omega,oK⟩,oK,oK,⟨⟨rfl,⟨rfl,rfl,rfl,rfl,oK⟩,oK⟩,(width_good_5 _ _ _ _ hwl h)⟩,oK,oK,oK,oK,oK,oK,oK,oK,oK⟩ ?_
    refine Ev.seq ?_
    refine Ev.seq ?_
    refine Ev.reg [] [9,24] (st' := ⟨[(9,(i6 (wvF 5 ws k w))),(24,(dB false))],[(yg0 k w),(.var 57 yg20)]⟩)
      (p := T2 True) (by kernel_rfl)
      ⟨oK,oK,oK⟩ ?_
    refine Ev.cond false rfl (fun h => (by cases h)) (fun _ => ?_)
    refine Ev.skip ?_
    refine Ev.seq ?_
    refine Ev.reg [] [6,7] (st' := ⟨[(6,(i6 (wvF 5 ws k w))),(7,(i6 0))],[(yg0 k w),(.var 57 yg20)]⟩)
      (p := T3 True) (by kernel_rfl)
      ⟨oK,oK,oK,oK⟩ ?_
    refine Ev.ret ?_
    refine ⟨⟨oK,oK,oK⟩,(?_ : (wvF 5 ws k w) = (widthV 5 ws k w)∧(0 : Int) = (widthE 5 ws k w)∧True),.inr ⟨oK,oK,oK⟩⟩
    exact ⟨(if_pos h).symm,(if_pos h).symm,oK⟩

set_option maxRecDepth 100000 in
theorem Width_6 (ws : List Int) (k w : Int) (hwl : ws.length ≤ 9223372036854775807) : CallOk Try.prog 10 [(i6 6),(LI ws),(yg23 k w)] [] false (.tup [(i6 (widthV 6 ws k w)),(i6 (widthE 6 ws k w))]) [] := by
  refine CallOk.of_ev Try.func10 rfl rfl rfl ?_
  rintro ⟨_,W,S0,_,susp,_⟩ rfl rfl rfl
  refine Ev.seq ?_
  refine Ev.reg [] [0,1,5] (st' := ⟨[(0,(i6 6)),(1,(LI ws)),(5,yg24)],[(yg0 k w)]⟩)
    (p := T3 True) (by kernel_rfl)
    ⟨oK,oK,oK,oK⟩ ?_
  refine Ev.seq ?_
  rcases ok3 6 ws k w with ⟨hb,h⟩ | ⟨hb,hv,h⟩ | h
  · skip
    refine Ev.reg [(7,.call (some [(i6 6),(yg1 ws k w)]) true yg3)] [9,10] (st' := ⟨yg16,(yg6 k w)⟩)
      (p := T2 (((0 ≤ (0 : Int)∧0 < (2 : Int))∧True)∧True∧((0 ≤ (1 : Int)∧1 < (2 : Int))∧True)∧T2 (callOb Try.prog 27 [(yg0 k w)] [(i6 6),(yg5 ws k w)] (some [(i6 6),(yg1 ws k w)]) true yg3∧T8 True))) (by kernel_rfl)
      ⟨oK,oK,⟨by omega,oK⟩,oK,⟨by omega,oK⟩,oK,oK,⟨⟨rfl,⟨rfl,rfl,rfl,rfl,oK⟩,oK⟩,(width_bad_6 _ _ _ _ hwl hb)⟩,oK,oK,oK,oK,oK,oK,oK,oK,oK⟩ ?_
    refine Ev.seq ?_
    refine Ev.seq ?_
    refine Ev.reg [] [9,24] (st' := ⟨yg17,(yg6 k w)⟩)
      (p := T2 True) (by kernel_rfl)
      ⟨oK,oK,oK⟩ ?_
    refine Ev.cond true rfl (fun _ => ?_) (fun h => (by cases h))
    refine Ev.seq ?_
    refine Ev.reg [] [6,7] (st' := ⟨yg7,(yg6 k w)⟩)
      (p := T2 True) (by kernel_rfl)
      ⟨oK,oK,oK⟩ ?_
    refine Ev.ret ?_
    refine ⟨⟨oK,oK,oK⟩,(?_ : (0 : Int) = (widthV 6 ws k w)∧(1 : Int) = (widthE 6 ws k w)∧True),.inr ⟨oK,oK,oK⟩⟩
    exact ⟨(if_neg (by rw [h]; simp)).symm,(if_neg (by rw [h]; simp)).symm,oK⟩
  · skip
    refine Ev.reg [(7,.call (some [(i6 6),(yg1 ws k w)]) true (.tup [(.agg yg21),(i6 (wvF 6 ws k w)),(dB false)]))] [9,10] (st' := ⟨[(9,(i6 (wvF 6 ws k w))),(10,(dB false))],[(yg0 k w),(.var 57 yg21)]⟩)
      (p := T2 (((0 ≤ (0 : Int)∧0 < (2 : Int))∧True)∧True∧((0 ≤ (1 : Int)∧1 < (2 : Int))∧True)∧T2 (callOb Try.prog 27 [(yg0 k w)] [(i6 6),(yg5 ws k w)] (some [(i6 6),(yg1 ws k w)]) true (.tup [(.agg yg21),(i6 (wvF 6 ws k w)),(dB false)])∧T8 True))) (by kernel_rfl)
      ⟨oK,oK,⟨by omega,oK⟩,oK,⟨by omega,oK⟩,oK,oK,⟨⟨rfl,⟨rfl,rfl,rfl,rfl,oK⟩,oK⟩,(width_wv_6 _ _ _ _ hwl hb hv)⟩,oK,oK,oK,oK,oK,oK,oK,oK,oK⟩ ?_
    refine Ev.seq ?_
    refine Ev.seq ?_
    refine Ev.reg [] [9,24] (st' := ⟨[(9,(i6 (wvF 6 ws k w))),(24,(dB true))],[(yg0 k w),(.var 57 yg21)]⟩)
      (p := T2 True) (by kernel_rfl)
      ⟨oK,oK,oK⟩ ?_
    refine Ev.cond true rfl (fun _ => ?_) (fun h => (by cases h))
    refine Ev.seq ?_
    refine Ev.reg [] [6,7] (st' := ⟨yg7,[(yg0 k w),(.var 57 yg21)]⟩)
      (p := T2 True) (by kernel_rfl)
      ⟨oK,oK,oK⟩ ?_
    refine Ev.ret ?_
    refine ⟨⟨oK,oK,oK⟩,(?_ : (0 : Int) = (widthV 6 ws k w)∧(1 : Int) = (widthE 6 ws k w)∧True),.inr ⟨oK,oK,oK⟩⟩
    exact ⟨(if_neg (by rw [h]; simp)).symm,(if_neg (by rw [h]; simp)).symm,oK⟩
  · skip
    refine Ev.reg [(7,.call (some [(i6 6),(yg1 ws k w)]) true (.tup [(.agg yg21),(i6 (wvF 6 ws k w)),(dB true)]))] [9,10] (st' := ⟨[(9,(i6 (wvF 6 ws k w))),(10,(dB true))],[(yg0 k w),(.var 57 yg21)]⟩)
      (p := T2 (((0 ≤ (0 : Int)∧0 < (2 : Int))∧True)∧True∧((0 ≤ (1 : Int)∧1 < (2 : Int))∧True)∧T2 (callOb Try.prog 27 [(yg0 k w)] [(i6 6),(yg5 ws k w)] (some [(i6 6),(yg1 ws k w)]) true (.tup [(.agg yg21),(i6 (wvF 6 ws k w)),(dB true)])∧T8 True))) (by kernel_rfl)
      ⟨oK,oK,⟨by omega,oK⟩,oK,⟨by omega,oK⟩,oK,oK,⟨⟨rfl,⟨rfl,rfl,rfl,rfl,oK⟩,oK⟩,(width_good_6 _ _ _ _ hwl h)⟩,oK,oK,oK,oK,oK,oK,oK,oK,oK⟩ ?_
    refine Ev.seq ?_
    refine Ev.seq ?_
    refine Ev.reg [] [9,24] (st' := ⟨[(9,(i6 (wvF 6 ws k w))),(24,(dB false))],[(yg0 k w),(.var 57 yg21)]⟩)
      (p := T2 True) (by kernel_rfl)
      ⟨oK,oK,oK⟩ ?_
    refine Ev.cond false rfl (fun h => (by cases h)) (fun _ => ?_)
    refine Ev.skip ?_
    refine Ev.seq ?_
    refine Ev.reg [] [6,7] (st' := ⟨[(6,(i6 (wvF 6 ws k w))),(7,(i6 0))],[(yg0 k w),(.var 57 yg21)]⟩)
      (p := T3 True) (by kernel_rfl)
      ⟨oK,oK,oK,oK⟩ ?_
    refine Ev.ret ?_
    refine ⟨⟨oK,oK,oK⟩,(?_ : (wvF 6 ws k w) = (widthV 6 ws k w)∧(0 : Int) = (widthE 6 ws k w)∧True),.inr ⟨oK,oK,oK⟩⟩
    exact ⟨(if_pos h).symm,(if_pos h).symm,oK⟩

set_option maxRecDepth 100000 in
theorem Width_7 (ws : List Int) (k w : Int) (hwl : ws.length ≤ 9223372036854775807) : CallOk Try.prog 10 [(i6 7),(LI ws),(yg23 k w)] [] false (.tup [(i6 (widthV 7 ws k w)),(i6 (widthE 7 ws k w))]) [] := by
  refine CallOk.of_ev Try.func10 rfl rfl rfl ?_
  rintro ⟨_,W,S0,_,susp,_⟩ rfl rfl rfl
  refine Ev.seq ?_
  refine Ev.reg [] [0,1,5] (st' := ⟨[(0,(i6 7)),(1,(LI ws)),(5,yg24)],[(yg0 k w)]⟩)
    (p := T3 True) (by kernel_rfl)
    ⟨oK,oK,oK,oK⟩ ?_
  refine Ev.seq ?_
  rcases ok3 7 ws k w with ⟨hb,h⟩ | ⟨hb,hv,h⟩ | h
  · skip
    refine Ev.reg [(7,.call (some [(i6 7),(yg1 ws k w)]) true yg3)] [9,10] (st' := ⟨yg16,(yg6 k w)⟩)
      (p := T2 (((0 ≤ (0 : Int)∧0 < (2 : Int))∧True)∧True∧((0 ≤ (1 : Int)∧1 < (2 : Int))∧True)∧T2 (callOb Try.prog 27 [(yg0 k w)] [(i6 7),(yg5 ws k w)] (some [(i6 7),(yg1 ws k w)]) true yg3∧T8 True))) (by kernel_rfl)
      ⟨oK,oK,⟨by omega,oK⟩,oK,⟨by omega,oK⟩,oK,oK,⟨⟨rfl,⟨rfl,rfl,rfl,rfl,oK⟩,oK⟩,(width_bad_7 _ _ _ _ hwl hb)⟩,oK,oK,oK,oK,oK,oK,oK,oK,oK⟩ ?_
    refine Ev.seq ?_
    refine Ev.seq ?_
    refine Ev.reg [] [9,24] (st' := ⟨yg17,(yg6 k w)⟩)
      (p := T2 True) (by kernel_rfl)
      ⟨oK,oK,oK⟩ ?_
    refine Ev.cond true rfl (fun _ => ?_) (fun h => (by cases h))
    refine Ev.seq ?_
    refine Ev.reg [] [6,7] (st' := ⟨yg7,(yg6 k w)⟩)
      (p := T2 True) (by kernel_rfl)
      ⟨oK,oK,oK⟩ ?_
    refine Ev.ret ?_
    refine ⟨⟨oK,oK,oK⟩,(?_ : (0 : Int) = (widthV 7 ws k w)∧(1 : Int) = (widthE 7 ws k w)∧True),.inr ⟨oK,oK,oK⟩⟩
    exact ⟨(if_neg (by rw [h]; simp)).symm,(if_neg (by rw [h]; simp)).symm,oK⟩
  · skip
    refine Ev.reg [(7,.call (some [(i6 7),(yg1 ws k w)]) true (.tup [(.agg yg22),(i6 (wvF 7 ws k w)),(dB false)]))] [9,10] (st' := ⟨[(9,(i6 (wvF 7 ws k w))),(10,(dB false))],[(yg0 k w),(.var 57 yg22)]⟩)
      (p := T2 (((0 ≤ (0 : Int)∧0 < (2 : Int))∧True)∧True∧((0 ≤ (1 : Int)∧1 < (2 : Int))∧True)∧T2 (callOb Try.prog 27 [(yg0 k w)] [(i6 7),(yg5 ws k w)] (some [(i6 7),(yg1 ws k w)]) true (.tup [(.agg yg22),(i6 (wvF 7 ws k w)),(dB false)])∧T8 True))) (by kernel_rfl)
      ⟨oK,oK,⟨by omega,oK⟩,oK,⟨by omega,oK⟩,oK,oK,⟨⟨rfl,⟨rfl,rfl,rfl,rfl,oK⟩,oK⟩,(width_wv_7 _ _ _ _ hwl hb hv)⟩,oK,oK,oK,oK,oK,oK,oK,oK,oK⟩ ?_
    refine Ev.seq ?_
    refine Ev.seq ?_
    refine Ev.reg [] [9,24] (st' := ⟨[(9,(i6 (wvF 7 ws k w))),(24,(dB true))],[(yg0 k w),(.var 57 yg22)]⟩)
      (p := T2 True) (by kernel_rfl)
      ⟨oK,oK,oK⟩ ?_
    refine Ev.cond true rfl (fun _ => ?_) (fun h => (by cases h))
    refine Ev.seq ?_
    refine Ev.reg [] [6,7] (st' := ⟨yg7,[(yg0 k w),(.var 57 yg22)]⟩)
      (p := T2 True) (by kernel_rfl)
      ⟨oK,oK,oK⟩ ?_
    refine Ev.ret ?_
    refine ⟨⟨oK,oK,oK⟩,(?_ : (0 : Int) = (widthV 7 ws k w)∧(1 : Int) = (widthE 7 ws k w)∧True),.inr ⟨oK,oK,oK⟩⟩
    exact ⟨(if_neg (by rw [h]; simp)).symm,(if_neg (by rw [h]; simp)).symm,oK⟩
  · skip
    refine Ev.reg [(7,.call (some [(i6 7),(yg1 ws k w)]) true (.tup [(.agg yg22),(i6 (wvF 7 ws k w)),(dB true)]))] [9,10] (st' := ⟨[(9,(i6 (wvF 7 ws k w))),(10,(dB true))],[(yg0 k w),(.var 57 yg22)]⟩)
      (p := T2 (((0 ≤ (0 : Int)∧0 < (2 : Int))∧True)∧True∧((0 ≤ (1 : Int)∧1 < (2 : Int))∧True)∧T2 (callOb Try.prog 27 [(yg0 k w)] [(i6 7),(yg5 ws k w)] (some [(i6 7),(yg1 ws k w)]) true (.tup [(.agg yg22),(i6 (wvF 7 ws k w)),(dB true)])∧T8 True))) (by kernel_rfl)
      ⟨oK,oK,⟨by omega,oK⟩,oK,⟨by omega,oK⟩,oK,oK,⟨⟨rfl,⟨rfl,rfl,rfl,rfl,oK⟩,oK⟩,(width_good_7 _ _ _ _ hwl h)⟩,oK,oK,oK,oK,oK,oK,oK,oK,oK⟩ ?_
    refine Ev.seq ?_
    refine Ev.seq ?_
    refine Ev.reg [] [9,24] (st' := ⟨[(9,(i6 (wvF 7 ws k w))),(24,(dB false))],[(yg0 k w),(.var 57 yg22)]⟩)
      (p := T2 True) (by kernel_rfl)
      ⟨oK,oK,oK⟩ ?_
    refine Ev.cond false rfl (fun h => (by cases h)) (fun _ => ?_)
    refine Ev.skip ?_
    refine Ev.seq ?_
    refine Ev.reg [] [6,7] (st' := ⟨[(6,(i6 (wvF 7 ws k w))),(7,(i6 0))],[(yg0 k w),(.var 57 yg22)]⟩)
      (p := T3 True) (by kernel_rfl)
      ⟨oK,oK,oK,oK⟩ ?_
    refine Ev.ret ?_
    refine ⟨⟨oK,oK,oK⟩,(?_ : (wvF 7 ws k w) = (widthV 7 ws k w)∧(0 : Int) = (widthE 7 ws k w)∧True),.inr ⟨oK,oK,oK⟩⟩
    exact ⟨(if_pos h).symm,(if_pos h).symm,oK⟩

set_option maxRecDepth 100000 in
theorem Width_8 (ws : List Int) (k w : Int) (hwl : ws.length ≤ 9223372036854775807) : CallOk Try.prog 10 [(i6 8),(LI ws),(yg23 k w)] [] false (.tup [(i6 (widthV 8 ws k w)),(i6 (widthE 8 ws k w))]) [] := by
  refine CallOk.of_ev Try.func10 rfl rfl rfl ?_
  rintro ⟨_,W,S0,_,susp,_⟩ rfl rfl rfl
  refine Ev.seq ?_
  refine Ev.reg [] [0,1,5] (st' := ⟨[(0,(i6 8)),(1,(LI ws)),(5,yg24)],[(yg0 k w)]⟩)
    (p := T3 True) (by kernel_rfl)
    ⟨oK,oK,oK,oK⟩ ?_
  refine Ev.seq ?_
  rcases ok3 8 ws k w with ⟨hb,h⟩ | ⟨hb,hv,h⟩ | h
  · skip
    refine Ev.reg [(7,.call (some [(i6 8),(yg1 ws k w)]) true yg3)] [9,10] (st' := ⟨yg16,(yg6 k w)⟩)
      (p := T2 (((0 ≤ (0 : Int)∧0 < (2 : Int))∧True)∧True∧((0 ≤ (1 : Int)∧1 < (2 : Int))∧True)∧T2 (callOb Try.prog 27 [(yg0 k w)] [(i6 8),(yg5 ws k w)] (some [(i6 8),(yg1 ws k w)]) true yg3∧T8 True))) (by kernel_rfl)
      ⟨oK,oK,⟨by omega,oK⟩,oK,⟨by omega,oK⟩,oK,oK,⟨⟨rfl,⟨rfl,rfl,rfl,rfl,oK⟩,oK⟩,(width_bad_8 _ _ _ _ hwl hb)⟩,oK,oK,oK,oK,oK,oK,oK,oK,oK⟩ ?_
    refine Ev.seq ?_
    refine Ev.seq ?_
    refine Ev.reg [] [9,24] (st' := ⟨yg17,(yg6 k w)⟩)
      (p := T2 True) (by kernel_rfl)
      ⟨oK,oK,oK⟩ ?_
    refine Ev.cond true rfl (fun _ => ?_) (fun h => (by cases h))
    refine Ev.seq ?_
    refine Ev.reg [] [6,7] (st' := ⟨yg7,(yg6 k w)⟩)
      (p := T2 True) (by kernel_rfl)
      ⟨oK,oK,oK⟩ ?_
    refine Ev.ret ?_
    refine ⟨⟨oK,oK,oK⟩,(?_ : (0 : Int) = (widthV 8 ws k w)∧(1 : Int) = (widthE 8 ws k w)∧True),.inr ⟨oK,oK,oK⟩⟩
    exact ⟨(if_neg (by rw [h]; simp)).symm,(if_neg (by rw [h]; simp)).symm,oK⟩
  · skip
    refine Ev.reg [(7,.call (some [(i6 8),(yg1 ws k w)]) true (.tup [(.agg yg10),(i6 (wvF 8 ws k w)),(dB false)]))] [9,10] (st' := ⟨[(9,(i6 (wvF 8 ws k w))),(10,(dB false))],[(yg0 k w),(.var 57 yg10)]⟩)
      (p := T2 (((0 ≤ (0 : Int)∧0 < (2 : Int))∧True)∧True∧((0 ≤ (1 : Int)∧1 < (2 : Int))∧True)∧T2 (callOb Try.prog 27 [(yg0 k w)] [(i6 8),(yg5 ws k w)] (some [(i6 8),(yg1 ws k w)]) true (.tup [(.agg yg10),(i6 (wvF 8 ws k w)),(dB false)])∧T8 True))) (by kernel_rfl)
      ⟨oK,oK,⟨by omega,oK⟩,oK,⟨by omega,oK⟩,oK,oK,⟨⟨rfl,⟨rfl,rfl,rfl,rfl,oK⟩,oK⟩,(width_wv_8 _ _ _ _ hwl hb hv)⟩,oK,oK,oK,oK,oK,oK,oK,oK,oK⟩ ?_
    refine Ev.seq ?_
    refine Ev.seq ?_
    refine Ev.reg [] [9,24] (st' := ⟨[(9,(i6 (wvF 8 ws k w))),(24,(dB true))],[(yg0 k w),(.var 57 yg10)]⟩)
      (p := T2 True) (by kernel_rfl)
      ⟨oK,oK,oK⟩ ?_
    refine Ev.cond true rfl (fun _ => ?_) (fun h => (by cases h))
    refine Ev.seq ?_
    refine Ev.reg [] [6,7] (st' := ⟨yg7,[(yg0 k w),(.var 57 yg10)]⟩)
      (p := T2 True) (by kernel_rfl)
      ⟨oK,oK,oK⟩ ?_
    refine Ev.ret ?_
    refine ⟨⟨oK,oK,oK⟩,(?_ : (0 : Int) = (widthV 8 ws k w)∧(1 : Int) = (widthE 8 ws k w)∧True),.inr ⟨oK,oK,oK⟩⟩
    exact ⟨(if_neg (by rw [h]; simp)).symm,(if_neg (by rw [h]; simp)).symm,oK⟩
  · skip
    refine Ev.reg [(7,.call (some [(i6 8),(yg1 ws k w)]) true (.tup [(.agg yg10),(i6 (wvF 8 ws k w)),(dB true)]))] [9,10] (st' := ⟨[(9,(i6 (wvF 8 ws k w))),(10,(dB true))],[(yg0 k w),(.var 57 yg10)]⟩)
      (p := T2 (((0 ≤ (0 : Int)∧0 < (2 : Int))∧True)∧True∧((0 ≤ (1 : Int)∧1 < (2 : Int))∧True)∧T2 (callOb Try.prog 27 [(yg0 k w)] [(i6 8),(yg5 ws k w)] (some [(i6 8),(yg1 ws k w)]) true (.tup [(.agg yg10),(i6 (wvF 8 ws k w)),(dB true)])∧T8 True))) (by kernel_rfl)
      ⟨oK,oK,⟨by omega,oK⟩,oK,⟨by omega,oK⟩,oK,oK,⟨⟨rfl,⟨rfl,rfl,rfl,rfl,oK⟩,oK⟩,(width_good_8 _ _ _ _ hwl h)⟩,oK,oK,oK,oK,oK,oK,oK,oK,oK⟩ ?_
    refine Ev.seq ?_
    refine Ev.seq ?_
    refine Ev.reg [] [9,24] (st' := ⟨[(9,(i6 (wvF 8 ws k w))),(24,(dB false))],[(yg0 k w),(.var 57 yg10)]⟩)
      (p := T2 True) (by kernel_rfl)
      ⟨oK,oK,oK⟩ ?_
    refine Ev.cond false rfl (fun h => (by cases h)) (fun _ => ?_)
    refine Ev.skip ?_
    refine Ev.seq ?_
    refine Ev.reg [] [6,7] (st' := ⟨[(6,(i6 (wvF 8 ws k w))),(7,(i6 0))],[(yg0 k w),(.var 57 yg10)]⟩)
      (p := T3 True) (by kernel_rfl)
      ⟨oK,oK,oK,oK⟩ ?_
    refine Ev.ret ?_
    refine ⟨⟨oK,oK,oK⟩,(?_ : (wvF 8 ws k w) = (widthV 8 ws k w)∧(0 : Int) = (widthE 8 ws k w)∧True),.inr ⟨oK,oK,oK⟩⟩
    exact ⟨(if_pos h).symm,(if_pos h).symm,oK⟩

set_option maxRecDepth 100000 in
theorem Width_9 (ws : List Int) (k w : Int) (hwl : ws.length ≤ 9223372036854775807) : CallOk Try.prog 10 [(i6 9),(LI ws),(yg23 k w)] [] false (.tup [(i6 (widthV 9 ws k w)),(i6 (widthE 9 ws k w))]) [] := by
  refine CallOk.of_ev Try.func10 rfl rfl rfl ?_
  rintro ⟨_,W,S0,_,susp,_⟩ rfl rfl rfl
  refine Ev.seq ?_
  refine Ev.reg [] [0,1,5] (st' := ⟨[(0,(i6 9)),(1,(LI ws)),(5,yg24)],[(yg0 k w)]⟩)
    (p := T3 True) (by kernel_rfl)
    ⟨oK,oK,oK,oK⟩ ?_
  refine Ev.seq ?_
  rcases ok3 9 ws k w with ⟨hb,h⟩ | ⟨hb,hv,h⟩ | h
  · skip
    refine Ev.reg [(7,.call (some [(i6 9),(yg1 ws k w)]) true yg3)] [9,10] (st' := ⟨yg16,(yg6 k w)⟩)
      (p := T2 (((0 ≤ (0 : Int)∧0 < (2 : Int))∧True)∧True∧((0 ≤ (1 : Int)∧1 < (2 : Int))∧True)∧T2 (callOb Try.prog 27 [(yg0 k w)] [(i6 9),(yg5 ws k w)] (some [(i6 9),(yg1 ws k w)]) true yg3∧T8 True))) (by kernel_rfl)
      ⟨oK,oK,⟨by omega,oK⟩,oK,⟨by omega,oK⟩,oK,oK,⟨⟨rfl,⟨rfl,rfl,rfl,rfl,oK⟩,oK⟩,(width_bad_9 _ _ _ _ hwl hb)⟩,oK,oK,oK,oK,oK,oK,oK,oK,oK⟩ ?_
    refine Ev.seq ?_
    refine Ev.seq ?_
    refine Ev.reg [] [9,24] (st' := ⟨yg17,(yg6 k w)⟩)
      (p := T2 True) (by kernel_rfl)
      ⟨oK,oK,oK⟩ ?_
    refine Ev.cond true rfl (fun _ => ?_) (fun h => (by cases h))
    refine Ev.seq ?_
    refine Ev.reg [] [6,7] (st' := ⟨yg7,(yg6 k w)⟩)
      (p := T2 True) (by kernel_rfl)
      ⟨oK,oK,oK⟩ ?_
    refine Ev.ret ?_
    refine ⟨⟨oK,oK,oK⟩,(?_ : (0 : Int) = (widthV 9 ws k w)∧(1 : Int) = (widthE 9 ws k w)∧True),.inr ⟨oK,oK,oK⟩⟩
    exact ⟨(if_neg (by rw [h]; simp)).symm,(if_neg (by rw [h]; simp)).symm,oK⟩
  · skip
    refine Ev.reg [(7,.call (some [(i6 9),(yg1 ws k w)]) true (.tup [(.agg yg11),(i6 (wvF 9 ws k w)),(dB false)]))] [9,10] (st' := ⟨[(9,(i6 (wvF 9 ws k w))),(10,(dB false))],[(yg0 k w),(.var 57 yg11)]⟩)
      (p := T2 (((0 ≤ (0 : Int)∧0 < (2 : Int))∧True)∧True∧((0 ≤ (1 : Int)∧1 < (2 : Int))∧True)∧T2 (callOb Try.prog 27 [(yg0 k w)] [(i6 9),(yg5 ws k w)] (some [(i6 9),(yg1 ws k w)]) true (.tup [(.agg yg11),(i6 (wvF 9 ws k w)),(dB false)])∧T8 True))) (by kernel_rfl)
      ⟨oK,oK,⟨by omega,oK⟩,oK,⟨by omega,oK⟩,oK,oK,⟨⟨rfl,⟨rfl,rfl,rfl,rfl,oK⟩,oK⟩,(width_wv_9 _ _ _ _ hwl hb hv)⟩,oK,oK,oK,oK,oK,oK,oK,oK,oK⟩ ?_
    refine Ev.seq ?_
    refine Ev.seq ?_
    refine Ev.reg [] [9,24] (st' := ⟨[(9,(i6 (wvF 9 ws k w))),(24,(dB true))],[(yg0 k w),(.var 57 yg11)]⟩)
      (p := T2 True) (by kernel_rfl)
      ⟨oK,oK,oK⟩ ?_
    refine Ev.cond true rfl (fun _ => ?_) (fun h => (by cases h))
    refine Ev.seq ?_
    refine Ev.reg [] [6,7] (st' := ⟨yg7,[(yg0 k w),(.var 57 yg11)]⟩)
      (p := T2 True) (by kernel_rfl)
      ⟨oK,oK,oK⟩ ?_
    refine Ev.ret ?_
    refine ⟨⟨oK,oK,oK⟩,(?_ : (0 : Int) = (widthV 9 ws k w)∧(1 : Int) = (widthE 9 ws k w)∧True),.inr ⟨oK,oK,oK⟩⟩
    exact ⟨(if_neg (by rw [h]; simp)).symm,(if_neg (by rw [h]; simp)).symm,oK⟩
  · skip
    refine Ev.reg [(7,.call (some [(i6 9),(yg1 ws k w)]) true (.tup [(.agg yg11),(i6 (wvF 9 ws k w)),(dB true)]))] [9,10] (st' := ⟨[(9,(i6 (wvF 9 ws k w))),(10,(dB true))],[(yg0 k w),(.var 57 yg11)]⟩)
      (p := T2 (((0 ≤ (0 : Int)∧0 < (2 : Int))∧True)∧True∧((0 ≤ (1 : Int)∧1 < (2 : Int))∧True)∧T2 (callOb Try.prog 27 [(yg0 k w)] [(i6 9),(yg5 ws k w)] (some [(i6 9),(yg1 ws k w)]) true (.tup [(.agg yg11),(i6 (wvF 9 ws k w)),(dB true)])∧T8 True))) (by kernel_rfl)
      ⟨oK,oK,⟨by omega,oK⟩,oK,⟨by omega,oK⟩,oK,oK,⟨⟨rfl,⟨rfl,rfl,rfl,rfl,oK⟩,oK⟩,(width_good_9 _ _ _ _ hwl h)⟩,oK,oK,oK,oK,oK,oK,oK,oK,oK⟩ ?_
    refine Ev.seq ?_
    refine Ev.seq ?_
    refine Ev.reg [] [9,24] (st' := ⟨[(9,(i6 (wvF 9 ws k w))),(24,(dB false))],[(yg0 k w),(.var 57 yg11)]⟩)
      (p := T2 True) (by kernel_rfl)
      ⟨oK,oK,oK⟩ ?_
    refine Ev.cond false rfl (fun h => (by cases h)) (fun _ => ?_)
    refine Ev.skip ?_
    refine Ev.seq ?_
    refine Ev.reg [] [6,7] (st' := ⟨[(6,(i6 (wvF 9 ws k w))),(7,(i6 0))],[(yg0 k w),(.var 57 yg11)]⟩)
      (p := T3 True) (by kernel_rfl)
      ⟨oK,oK,oK,oK⟩ ?_
    refine Ev.ret ?_
    refine ⟨⟨oK,oK,oK⟩,(?_ : (wvF 9 ws k w) = (widthV 9 ws k w)∧(0 : Int) = (widthE 9 ws k w)∧True),.inr ⟨oK,oK,oK⟩⟩
    exact ⟨(if_pos h).symm,(if_pos h).symm,oK⟩

set_option maxRecDepth 100000 in
theorem Width_10 (ws : List Int) (k w : Int) (hwl : ws.length ≤ 9223372036854775807) : CallOk Try.prog 10 [(i6 10),(LI ws),(yg23 k w)] [] false (.tup [(i6 (widthV 10 ws k w)),(i6 (widthE 10 ws k w))]) [] := by
  refine CallOk.of_ev Try.func10 rfl rfl rfl ?_
  rintro ⟨_,W,S0,_,susp,_⟩ rfl rfl rfl
  refine Ev.seq ?_
  refine Ev.reg [] [0,1,5] (st' := ⟨[(0,(i6 10)),(1,(LI ws)),(5,yg24)],[(yg0 k w)]⟩)
    (p := T3 True) (by kernel_rfl)
    ⟨oK,oK,oK,oK⟩ ?_
  refine Ev.seq ?_
  rcases ok3 10 ws k w with ⟨hb,h⟩ | ⟨hb,hv,h⟩ | h
  · skip
    refine Ev.reg [(7,.call (some [(i6 10),(yg1 ws k w)]) true yg3)] [9,10] (st' := ⟨yg16,(yg6 k w)⟩)
      (p := T2 (((0 ≤ (0 : Int)∧0 < (2 : Int))∧True)∧True∧((0 ≤ (1 : Int)∧1 < (2 : Int))∧True)∧T2 (callOb Try.prog 27 [(yg0 k w)] [(i6 10),(yg5 ws k w)] (some [(i6 10),(yg1 ws k w)]) true yg3∧T8 True))) (by kernel_rfl)
      ⟨oK,oK,⟨by omega,oK⟩,oK,⟨by omega,oK⟩,oK,oK,⟨⟨rfl,⟨rfl,rfl,rfl,rfl,oK⟩,oK⟩,(width_bad_10 _ _ _ _ hwl hb)⟩,oK,oK,oK,oK,oK,oK,oK,oK,oK⟩ ?_
    refine Ev.seq ?_
    refine Ev.seq ?_
    refine Ev.reg [] [9,24] (st' := ⟨yg17,(yg6 k w)⟩)
      (p := T2 True) (by kernel_rfl)
      ⟨oK,oK,oK⟩ ?_
    refine Ev.cond true rfl (fun _ => ?_) (fun h => (by cases h))
    refine Ev.seq ?_
    refine Ev.reg [] [6,7] (st' := ⟨yg7,(yg6 k w)⟩)
      (p := T2 True) (by kernel_rfl)
      ⟨oK,oK,oK⟩ ?_
    refine Ev.ret ?_
    refine ⟨⟨oK,oK,oK⟩,(?_ : (0 : Int) = (widthV 10 ws k w)∧(1 : Int) = (widthE 10 ws k w)∧True),.inr ⟨oK,oK,oK⟩⟩
    exact ⟨(if_neg (by rw [h]; simp)).symm,(if_neg (by rw [h]; simp)).symm,oK⟩
  · skip
    refine Ev.reg [(7,.call (some [(i6 10),(yg1 ws k w)]) true (.tup [(.agg yg12),(i6 (wvF 10 ws k w)),(dB false)]))] [9,10] (st' := ⟨[(9,(i6 (wvF 10 ws k w))),(10,(dB false))],[(yg0 k w),(.var 57 yg12)]⟩)
      (p := T2 (((0 ≤ (0 : Int)∧0 < (2 : Int))∧True)∧True∧((0 ≤ (1 : Int)∧1 < (2 : Int))∧True)∧T2 (callOb Try.prog 27 [(yg0 k w)] [(i6 10),(yg5 ws k w)] (some [(i6 10),(yg1 ws k w)]) true (.tup [(.agg yg12),(i6 (wvF 10 ws k w)),(dB false)])∧T8 True))) (by kernel_rfl)
      ⟨oK,oK,⟨by omega,oK⟩,oK,⟨by omega,oK⟩,oK,oK,⟨⟨rfl,⟨rfl,rfl,rfl,rfl,oK⟩,oK⟩,(width_wv_10 _ _ _ _ hwl hb hv)⟩,oK,oK,oK,oK,oK,oK,oK,oK,oK⟩ ?_
    refine Ev.seq ?_
    refine Ev.seq ?_
    refine Ev.reg [] [9,24] (st' := ⟨[(9,(i6 (wvF 10 ws k w))),(24,(dB true))],[(yg0 k w),(.var 57 yg12)]⟩)
      (p := T2 True) (by kernel_rfl)
      ⟨oK,oK,oK⟩ ?_
    refine Ev.cond true rfl (fun _ => ?_) (fun h => (by cases h))
    refine Ev.seq ?_
    refine Ev.reg [] [6,7] (st' := ⟨yg7,[(yg0 k w),(.var 57 yg12)]⟩)
      (p := T2 True) (by kernel_rfl)
      ⟨oK,oK,oK⟩ ?_
    refine Ev.ret ?_
    refine ⟨⟨oK,oK,oK⟩,(?_ : (0 : Int) = (widthV 10 ws k w)∧(1 : Int) = (widthE 10 ws k w)∧True),.inr ⟨oK,oK,oK⟩⟩
    exact ⟨(if_neg (by rw [h]; simp)).symm,(if_neg (by rw [h]; simp)).symm,oK⟩
  · skip
    refine Ev.reg [(7,.call (some [(i6 10),(yg1 ws k w)]) true (.tup [(.agg yg12),(i6 (wvF 10 ws k w)),(dB true)]))] [9,10] (st' := ⟨[(9,(i6 (wvF 10 ws k w))),(10,(dB true))],[(yg0 k w),(.var 57 yg12)]⟩)
      (p := T2 (((0 ≤ (0 : Int)∧0 < (2 : Int))∧True)∧True∧((0 ≤ (1 : Int)∧1 < (2 : Int))∧True)∧T2 (callOb Try.prog 27 [(yg0 k w)] [(i6 10),(yg5 ws k w)] (some [(i6 10),(yg1 ws k w)]) true (.tup [(.agg yg12),(i6 (wvF 10 ws k w)),(dB true)])∧T8 True))) (by kernel_rfl)
      ⟨oK,oK,⟨by omega,oK⟩,oK,⟨by omega,oK⟩,oK,oK,⟨⟨rfl,⟨rfl,rfl,rfl,rfl,oK⟩,oK⟩,(width_good_10 _ _ _ _ hwl h)⟩,oK,oK,oK,oK,oK,oK,oK,oK,oK⟩ ?_
    refine Ev.seq ?_
    refine Ev.seq ?_
    refine Ev.reg [] [9,24] (st' := ⟨[(9,(i6 (wvF 10 ws k w))),(24,(dB false))],[(yg0 k w),(.var 57 yg12)]⟩)
      (p := T2 True) (by kernel_rfl)
      ⟨oK,oK,oK⟩ ?_
    refine Ev.cond false rfl (fun h => (by cases h)) (fun _ => ?_)
    refine Ev.skip ?_
    refine Ev.seq ?_
    refine Ev.reg [] [6,7] (st' := ⟨[(6,(i6 (wvF 10 ws k w))),(7,(i6 0))],[(yg0 k w),(.var 57 yg12)]⟩)
      (p := T3 True) (by kernel_rfl)
      ⟨oK,oK,oK,oK⟩ ?_
    refine Ev.ret ?_
    refine ⟨⟨oK,oK,oK⟩,(?_ : (wvF 10 ws k w) = (widthV 10 ws k w)∧(0 : Int) = (widthE 10 ws k w)∧True),.inr ⟨oK,oK,oK⟩⟩
    exact ⟨(if_pos h).symm,(if_pos h).symm,oK⟩

set_option maxRecDepth 100000 in
theorem Width_11 (ws : List Int) (k w : Int) (hwl : ws.length ≤ 9223372036854775807) : CallOk Try.prog 10 [(i6 11),(LI ws),(yg23 k w)] [] false (.tup [(i6 (widthV 11 ws k w)),(i6 (widthE 11 ws k w))]) [] := by
  refine CallOk.of_ev Try.func10 rfl rfl rfl ?_
  rintro ⟨_,W,S0,_,susp,_⟩ rfl rfl rfl
  refine Ev.seq ?_
  refine Ev.reg [] [0,1,5] (st' := ⟨[(0,(i6 11)),(1,(LI ws)),(5,yg24)],[(yg0 k w)]⟩)
    (p := T3 True) (by kernel_rfl)
    ⟨oK,oK,oK,oK⟩ ?_
  refine Ev.seq ?_
  rcases ok3 11 ws k w with ⟨hb,h⟩ | ⟨hb,hv,h⟩ | h
  · skip
    refine Ev.reg [(7,.call (some [(i6 11),(yg1 ws k w)]) true yg3)] [9,10] (st' := ⟨yg16,(yg6 k w)⟩)
      (p := T2 (((0 ≤ (0 : Int)∧0 < (2 : Int))∧True)∧True∧((0 ≤ (1 : Int)∧1 < (2 : Int))∧True)∧T2 (callOb Try.prog 27 [(yg0 k w)] [(i6 11),(yg5 ws k w)] (some [(i6 11),(yg1 ws k w)]) true yg3∧T8 True))) (by kernel_rfl)
      ⟨oK,oK,⟨by omega,oK⟩,oK,⟨by omega,oK⟩,oK,oK,⟨⟨rfl,⟨rfl,rfl,rfl,rfl,oK⟩,oK⟩,(width_bad_11 _ _ _ _ hwl hb)⟩,oK,oK,oK,oK,oK,oK,oK,oK,oK⟩ ?_
    refine Ev.seq ?_
    refine Ev.seq ?_
    refine Ev.reg [] [9,24] (st' := ⟨yg17,(yg6 k w)⟩)
      (p := T2 True) (by kernel_rfl)
      ⟨oK,oK,oK⟩ ?_
    refine Ev.cond true rfl (fun _ => ?_) (fun h => (by cases h))
    refine Ev.seq ?_
    refine Ev.reg [] [6,7] (st' := ⟨yg7,(yg6 k w)⟩)
      (p := T2 True) (by kernel_rfl)
      ⟨oK,oK,oK⟩ ?_
    refine Ev.ret ?_
    refine ⟨⟨oK,oK,oK⟩,(?_ : (0 : Int) = (widthV 11 ws k w)∧(1 : Int) = (widthE 11 ws k w)∧True),.inr ⟨oK,oK,oK⟩⟩
    exact ⟨(if_neg (by rw [h]; simp)).symm,(if_neg (by rw [h]; simp)).symm,oK⟩
  · skip
    refine Ev.reg [(7,.call (some [(i6 11),(yg1 ws k w)]) true (.tup [(.agg yg13),(i6 (wvF 11 ws k w)),(dB false)]))] [9,10] (st' := ⟨[(9,(i6 (wvF 11 ws k w))),(10,(dB false))],[(yg0 k w),(.var 57 yg13)]⟩)
      (p := T2 (((0 ≤ (0 : Int)∧0 < (2 : Int))∧True)∧True∧((0 ≤ (1 : Int)∧1 < (2 : Int))∧True)∧T2 (callOb Try.prog 27 [(yg0 k w)] [(i6 11),(yg5 ws k w)] (some [(i6 11),(yg1 ws k w)]) true (.tup [(.agg yg13),(i6 (wvF 11 ws k w)),(dB false)])∧T8 True))) (by kernel_rfl)
      ⟨oK,oK,⟨by omega,oK⟩,oK,⟨by omega,oK⟩,oK,oK,⟨⟨rfl,⟨rfl,rfl,rfl,rfl,oK⟩,oK⟩,(width_wv_11 _ _ _ _ hwl hb hv)⟩,oK,oK,oK,oK,oK,oK,oK,oK,oK⟩ ?_
    refine Ev.seq ?_
    refine Ev.seq ?_
    refine Ev.reg [] [9,24] (st' := ⟨[(9,(i6 (wvF 11 ws k w))),(24,(dB true))],[(yg0 k w),(.var 57 yg13)]⟩)
      (p := T2 True) (by kernel_rfl)
      ⟨oK,oK,oK⟩ ?_
    refine Ev.cond true rfl (fun _ => ?_) (fun h => (by cases h))
    refine Ev.seq ?_
    refine Ev.reg [] [6,7] (st' := ⟨yg7,[(yg0 k w),(.var 57 yg13)]⟩)
      (p := T2 True) (by kernel_rfl)
      ⟨oK,oK,oK⟩ ?_
    refine Ev.ret ?_
    refine ⟨⟨oK,oK,oK⟩,(?_ : (0 : Int) = (widthV 11 ws k w)∧(1 : Int) = (widthE 11 ws k w)∧True),.inr ⟨oK,oK,oK⟩⟩
    exact ⟨(if_neg (by rw [h]; simp)).symm,(if_neg (by rw [h]; simp)).symm,oK⟩
  · skip
    refine Ev.reg [(7,.call (some [(i6 11),(yg1 ws k w)]) true (.tup [(.agg yg13),(i6 (wvF 11 ws k w)),(dB true)]))] [9,10] (st' := ⟨[(9,(i6 (wvF 11 ws k w))),(10,(dB true))],[(yg0 k w),(.var 57 yg13)]⟩)
      (p := T2 (((0 ≤ (0 : Int)∧0 < (2 : Int))∧True)∧True∧((0 ≤ (1 : Int)∧1 < (2 : Int))∧True)∧T2 (callOb Try.prog 27 [(yg0 k w)] [(i6 11),(yg5 ws k w)] (some [(i6 11),(yg1 ws k w)]) true (.tup [(.agg yg13),(i6 (wvF 11 ws k w)),(dB true)])∧T8 True))) (by kernel_rfl)
      ⟨oK,oK,⟨by omega,oK⟩,oK,⟨by omega,oK⟩,oK,oK,⟨⟨rfl,⟨rfl,rfl,rfl,rfl,oK⟩,oK⟩,(width_good_11 _ _ _ _ hwl h)⟩,oK,oK,oK,oK,oK,oK,oK,oK,oK⟩ ?_
    refine Ev.seq ?_
    refine Ev.seq ?_
    refine Ev.reg [] [9,24] (st' := ⟨[(9,(i6 (wvF 11 ws k w))),(24,(dB false))],[(yg0 k w),(.var 57 yg13)]⟩)
      (p := T2 True) (by kernel_rfl)
      ⟨oK,oK,oK⟩ ?_
    refine Ev.cond false rfl (fun h => (by cases h)) (fun _ => ?_)
    refine Ev.skip ?_
    refine Ev.seq ?_
    refine Ev.reg [] [6,7] (st' := ⟨[(6,(i6 (wvF 11 ws k w))),(7,(i6 0))],[(yg0 k w),(.var 57 yg13)]⟩)
      (p := T3 True) (by kernel_rfl)
      ⟨oK,oK,oK,oK⟩ ?_
    refine Ev.ret ?_
    refine ⟨⟨oK,oK,oK⟩,(?_ : (wvF 11 ws k w) = (widthV 11 ws k w)∧(0 : Int) = (widthE 11 ws k w)∧True),.inr ⟨oK,oK,oK⟩⟩
    exact ⟨(if_pos h).symm,(if_pos h).symm,oK⟩

set_option maxRecDepth 100000 in
theorem Width_12 (ws : List Int) (k w : Int) (hwl : ws.length ≤ 9223372036854775807) : CallOk Try.prog 10 [(i6 12),(LI ws),(yg23 k w)] [] false (.tup [(i6 (widthV 12 ws k w)),(i6 (widthE 12 ws k w))]) [] := by
  refine CallOk.of_ev Try.func10 rfl rfl rfl ?_
  rintro ⟨_,W,S0,_,susp,_⟩ rfl rfl rfl
  refine Ev.seq ?_
  refine Ev.reg [] [0,1,5] (st' := ⟨[(0,(i6 12)),(1,(LI ws)),(5,yg24)],[(yg0 k w)]⟩)
    (p := T3 True) (by kernel_rfl)
    ⟨oK,oK,oK,oK⟩ ?_
  refine Ev.seq ?_
  rcases ok3 12 ws k w with ⟨hb,h⟩ | ⟨hb,hv,h⟩ | h
  · skip
    refine Ev.reg [(7,.call (some [(i6 12),(yg1 ws k w)]) true yg3)] [9,10] (st' := ⟨yg16,(yg6 k w)⟩)
      (p := T2 (((0 ≤ (0 : Int)∧0 < (2 : Int))∧True)∧True∧((0 ≤ (1 : Int)∧1 < (2 : Int))∧True)∧T2 (callOb Try.prog 27 [(yg0 k w)] [(i6 12),(yg5 ws k w)] (some [(i6 12),(yg1 ws k w)]) true yg3∧T8 True))) (by kernel_rfl)
      ⟨oK,oK,⟨by omega,oK⟩,oK,⟨by omega,oK⟩,oK,oK,⟨⟨rfl,⟨rfl,rfl,rfl,rfl,oK⟩,oK⟩,(width_bad_12 _ _ _ _ hwl hb)⟩,oK,oK,oK,oK,oK,oK,oK,oK,oK⟩ ?_
    refine Ev.seq ?_
    refine Ev.seq ?_
    refine Ev.reg [] [9,24] (st' := ⟨yg17,(yg6 k w)⟩)
      (p := T2 True) (by kernel_rfl)
      ⟨oK,oK,oK⟩ ?_
    refine Ev.cond true rfl (fun _ => ?_) (fun h => (by cases h))
    refine Ev.seq ?_
    refine Ev.reg [] [6,7] (st' := ⟨yg7,(yg6 k w)⟩)
      (p := T2 True) (by kernel_rfl)
      ⟨oK,oK,oK⟩ ?_
    refine Ev.ret ?_
    refine ⟨⟨oK,oK,oK⟩,(?_ : (0 : Int) = (widthV 12 ws k w)∧(1 : Int) = (widthE 12 ws k w)∧True),.inr ⟨oK,oK,oK⟩⟩
    exact ⟨(if_neg (by rw [h]; simp)).symm,(if_neg (by rw [h]; simp)).symm,oK⟩
  · skip
    refine Ev.reg [(7,.call (some [(i6 12),(yg1 ws k w)]) true (.tup [(.agg yg14),(i6 (wvF 12 ws k w)),(dB false)]))] [9,10] (st' := ⟨[(9,(i6 (wvF 12 ws k w))),(10,(dB false))],[(yg0 k w),(.var 57 yg14)]⟩)
      (p := T2 (((0 ≤ (0 : Int)∧0 < (2 : Int))∧True)∧True∧((0 ≤ (1 : Int)∧1 < (2 : Int))∧True)∧T2 (callOb Try.prog 27 [(yg0 k w)] [(i6 12),(yg5 ws k w)] (some [(i6 12),(yg1 ws k w)]) true (.tup [(.agg yg14),(i6 (wvF 12 ws k w)),(dB false)])∧T8 True))) (by kernel_rfl)
      ⟨oK,oK,⟨by omega,oK⟩,oK,⟨by omega,oK⟩,oK,oK,⟨⟨rfl,⟨rfl,rfl,rfl,rfl,oK⟩,oK⟩,(width_wv_12 _ _ _ _ hwl hb hv)⟩,oK,oK,oK,oK,oK,oK,oK,oK,oK⟩ ?_
    refine Ev.seq ?_
    refine Ev.seq ?_
    refine Ev.reg [] [9,24] (st' := ⟨[(9,(i6 (wvF 12 ws k w))),(24,(dB true))],[(yg0 k w),(.var 57 yg14)]⟩)
      (p := T2 True) (by kernel_rfl)
      ⟨oK,oK,oK⟩ ?_
    refine Ev.cond true rfl (fun _ => ?_) (fun h => (by cases h))
    refine Ev.seq ?_
    refine Ev.reg [] [6,7] (st' := ⟨yg7,[(yg0 k w),(.var 57 yg14)]⟩)
      (p := T2 True) (by kernel_rfl)
      ⟨oK,oK,oK⟩ ?_
    refine Ev.ret ?_
    refine ⟨⟨oK,oK,oK⟩,(?_ : (0 : Int) = (widthV 12 ws k w)∧(1 : Int) = (widthE 12 ws k w)∧True),.inr ⟨oK,oK,oK⟩⟩
    exact ⟨(if_neg (by rw [h]; simp)).symm,(if_neg (by rw [h]; simp)).symm,oK⟩
  · skip
    refine Ev.reg [(7,.call (some [(i6 12),(yg1 ws k w)]) true (.tup [(.agg yg14),(i6 (wvF 12 ws k w)),(dB true)]))] [9,10] (st' := ⟨[(9,(i6 (wvF 12 ws k w))),(10,(dB true))],[(yg0 k w),(.var 57 yg14)]⟩)
      (p := T2 (((0 ≤ (0 : Int)∧0 < (2 : Int))∧True)∧True∧((0 ≤ (1 : Int)∧1 < (2 : Int))∧True)∧T2 (callOb Try.prog 27 [(yg0 k w)] [(i6 12),(yg5 ws k w)] (some [(i6 12),(yg1 ws k w)]) true (.tup [(.agg yg14),(i6 (wvF 12 ws k w)),(dB true)])∧T8 True))) (by kernel_rfl)
      ⟨oK,oK,⟨by omega,oK⟩,oK,⟨by omega,oK⟩,oK,oK,⟨⟨rfl,⟨rfl,rfl,rfl,rfl,oK⟩,oK⟩,(width_good_12 _ _ _ _ hwl h)⟩,oK,oK,oK,oK,oK,oK,oK,oK,oK⟩ ?_
    refine Ev.seq ?_
    refine Ev.seq ?_
    refine Ev.reg [] [9,24] (st' := ⟨[(9,(i6 (wvF 12 ws k w))),(24,(dB false))],[(yg0 k w),(.var 57 yg14)]⟩)
      (p := T2 True) (by kernel_rfl)
      ⟨oK,oK,oK⟩ ?_
    refine Ev.cond false rfl (fun h => (by cases h)) (fun _ => ?_)
    refine Ev.skip ?_
    refine Ev.seq ?_
    refine Ev.reg [] [6,7] (st' := ⟨[(6,(i6 (wvF 12 ws k w))),(7,(i6 0))],[(yg0 k w),(.var 57 yg14)]⟩)
      (p := T3 True) (by kernel_rfl)
      ⟨oK,oK,oK,oK⟩ ?_
    refine Ev.ret ?_
    refine ⟨⟨oK,oK,oK⟩,(?_ : (wvF 12 ws k w) = (widthV 12 ws k w)∧(0 : Int) = (widthE 12 ws k w)∧True),.inr ⟨oK,oK,oK⟩⟩
    exact ⟨(if_pos h).symm,(if_pos h).symm,oK⟩

set_option maxRecDepth 100000 in
theorem Width_13 (ws : List Int) (k w : Int) (hwl : ws.length ≤ 9223372036854775807) : CallOk Try.prog 10 [(i6 13),(LI ws),(yg23 k w)] [] false (.tup [(i6 (widthV 13 ws k w)),(i6 (widthE 13 ws k w))]) [] := by
  refine CallOk.of_ev Try.func10 rfl rfl rfl ?_
  rintro ⟨_,W,S0,_,susp,_⟩ rfl rfl rfl
  refine Ev.seq ?_
  refine Ev.reg [] [0,1,5] (st' := ⟨[(0,(i6 13)),(1,(LI ws)),(5,yg24)],[(yg0 k w)]⟩)
    (p := T3 True) (by kernel_rfl)
    ⟨oK,oK,oK,oK⟩ ?_
  refine Ev.seq ?_
  rcases ok3 13 ws k w with ⟨hb,h⟩ | ⟨hb,hv,h⟩ | h
  · skip
    refine Ev.reg [(7,.call (some [(i6 13),(yg1 ws k w)]) true yg3)] [9,10] (st' := ⟨yg16,(yg6 k w)⟩)
      (p := T2 (((0 ≤ (0 : Int)∧0 < (2 : Int))∧True)∧True∧((0 ≤ (1 : Int)∧1 < (2 : Int))∧True)∧T2 (callOb Try.prog 27 [(yg0 k w)] [(i6 13),(yg5 ws k w)] (some [(i6 13),(yg1 ws k w)]) true yg3∧T8 True))) (by kernel_rfl)
      ⟨oK,oK,⟨by omega,oK⟩,oK,⟨by omega,oK⟩,oK,oK,⟨⟨rfl,⟨rfl,rfl,rfl,rfl,oK⟩,oK⟩,(width_bad_13 _ _ _ _ hwl hb)⟩,oK,oK,oK,oK,oK,oK,oK,oK,oK⟩ ?_
    refine Ev.seq ?_
    refine Ev.seq ?_
    refine Ev.reg [] [9,24] (st' := ⟨yg17,(yg6 k w)⟩)
      (p := T2 True) (by kernel_rfl)
      ⟨oK,oK,oK⟩ ?_
    refine Ev.cond true rfl (fun _ => ?_) (fun h => (by cases h))
    refine Ev.seq ?_
    refine Ev.reg [] [6,7] (st' := ⟨yg7,(yg6 k w)⟩)
      (p := T2 True) (by kernel_rfl)
      ⟨oK,oK,oK⟩ ?_
    refine Ev.ret ?_
    refine ⟨⟨oK,oK,oK⟩,(?_ : (0 : Int) = (widthV 13 ws k w)∧(1 : Int) = (widthE 13 ws k w)∧True),.inr ⟨oK,oK,oK⟩⟩
    exact ⟨(if_neg (by rw [h]; simp)).symm,(if_neg (by rw [h]; simp)).symm,oK⟩
  · skip
    refine Ev.reg [(7,.call (some [(i6 13),(yg1 ws k w)]) true (.tup [(.agg yg15),(i6 (wvF 13 ws k w)),(dB false)]))] [9,10] (st' := ⟨[(9,(i6 (wvF 13 ws k w))),(10,(dB false))],[(yg0 k w),(.var 57 yg15)]⟩)
      (p := T2 (((0 ≤ (0 : Int)∧0 < (2 : Int))∧True)∧True∧((0 ≤ (1 : Int)∧1 < (2 : Int))∧True)∧T2 (callOb Try.prog 27 [(yg0 k w)] [(i6 13),(yg5 ws k w)] (some [(i6 13),(yg1 ws k w)]) true (.tup [(.agg yg15),(i6 (wvF 13 ws k w)),(dB false)])∧T8 True))) (by kernel_rfl)
      ⟨oK,oK,⟨by omega,oK⟩,oK,⟨by omega,oK⟩,oK,oK,⟨⟨rfl,⟨rfl,rfl,rfl,rfl,oK⟩,oK⟩,(width_wv_13 _ _ _ _ hwl hb hv)⟩,oK,oK,oK,oK,oK,oK,oK,oK,oK⟩ ?_
    refine Ev.seq ?_
    refine Ev.seq ?_
    refine Ev.reg [] [9,24] (st' := ⟨[(9,(i6 (wvF 13 ws k w))),(24,(dB true))],[(yg0 k w),(.var 57 yg15)]⟩)
      (p := T2 True) (by kernel_rfl)
      ⟨oK,oK,oK⟩ ?_
    refine Ev.cond true rfl (fun _ => ?_) (fun h => (by cases h))
    refine Ev.seq ?_
    refine Ev.reg [] [6,7] (st' := ⟨yg7,[(yg0 k w),(.var 57 yg15)]⟩)
      (p := T2 True) (by kernel_rfl)
      ⟨oK,oK,oK⟩ ?_
    refine Ev.ret ?_
    refine ⟨⟨oK,oK,oK⟩,(?_ : (0 : Int) = (widthV 13 ws k w)∧(1 : Int) = (widthE 13 ws k w)∧True),.inr ⟨oK,oK,oK⟩⟩
    exact ⟨(if_neg (by rw [h]; simp)).symm,(if_neg (by rw [h]; simp)).symm,oK⟩
  · skip
    refine Ev.reg [(7,.call (some [(i6 13),(yg1 ws k w)]) true (.tup [(.agg yg15),(i6 (wvF 13 ws k w)),(dB true)]))] [9,10] (st' := ⟨[(9,(i6 (wvF 13 ws k w))),(10,(dB true))],[(yg0 k w),(.var 57 yg15)]⟩)
      (p := T2 (((0 ≤ (0 : Int)∧0 < (2 : Int))∧True)∧True∧((0 ≤ (1 : Int)∧1 < (2 : Int))∧True)∧T2 (callOb Try.prog 27 [(yg0 k w)] [(i6 13),(yg5 ws k w)] (some [(i6 13),(yg1 ws k w)]) true (.tup [(.agg yg15),(i6 (wvF 13 ws k w)),(dB true)])∧T8 True))) (by kernel_rfl)
      ⟨oK,oK,⟨by omega,oK⟩,oK,⟨by omega,oK⟩,oK,oK,⟨⟨rfl,⟨rfl,rfl,rfl,rfl,oK⟩,oK⟩,(width_good_13 _ _ _ _ hwl h)⟩,oK,oK,oK,oK,oK,oK,oK,oK,oK⟩ ?_
    refine Ev.seq ?_
    refine Ev.seq ?_
    refine Ev.reg [] [9,24] (st' := ⟨[(9,(i6 (wvF 13 ws k w))),(24,(dB false))],[(yg0 k w),(.var 57 yg15)]⟩)
      (p := T2 True) (by kernel_rfl)
      ⟨oK,oK,oK⟩ ?_
    refine Ev.cond false rfl (fun h => (by cases h)) (fun _ => ?_)
    refine Ev.skip ?_
    refine Ev.seq ?_
    refine Ev.reg [] [6,7] (st' := ⟨[(6,(i6 (wvF 13 ws k w))),(7,(i6 0))],[(yg0 k w),(.var 57 yg15)]⟩)
      (p := T3 True) (by kernel_rfl)
      ⟨oK,oK,oK,oK⟩ ?_
    refine Ev.ret ?_
    refine ⟨⟨oK,oK,oK⟩,(?_ : (wvF 13 ws k w) = (widthV 13 ws k w)∧(0 : Int) = (widthE 13 ws k w)∧True),.inr ⟨oK,oK,oK⟩⟩
    exact ⟨(if_pos h).symm,(if_pos h).symm,oK⟩

set_option maxRecDepth 100000 in
theorem Width_none (op : Int) (ws : List Int) (k w : Int) (hwl : ws.length ≤ 9223372036854775807) (hop : op < 1 ∨ 13 < op) : CallOk Try.prog 10 [(i6 op),(LI ws),(yg23 k w)] [] false (.tup [(i6 (widthV op ws k w)),(i6 (widthE op ws k w))]) [] := by
  refine CallOk.of_ev Try.func10 rfl rfl rfl ?_
  rintro ⟨_,W,S0,_,susp,_⟩ rfl rfl rfl
  refine Ev.seq ?_
  refine Ev.reg [] [0,1,5] (st' := ⟨[(0,(i6 op)),(1,(LI ws)),(5,yg24)],[(yg0 k w)]⟩)
    (p := T3 True) (by kernel_rfl)
    ⟨oK,oK,oK,oK⟩ ?_
  refine Ev.seq ?_
  refine Ev.reg [(7,.call (some [(i6 op),(yg1 ws k w)]) true yg3)] [9,10] (st' := ⟨yg16,(yg6 k w)⟩)
    (p := T2 (((0 ≤ (0 : Int)∧0 < (2 : Int))∧True)∧True∧((0 ≤ (1 : Int)∧1 < (2 : Int))∧True)∧T2 (callOb Try.prog 27 [(yg0 k w)] [(i6 op),(yg5 ws k w)] (some [(i6 op),(yg1 ws k w)]) true yg3∧T8 True))) (by kernel_rfl)
    ⟨oK,oK,⟨by omega,oK⟩,oK,⟨by omega,oK⟩,oK,oK,⟨⟨rfl,⟨rfl,rfl,rfl,rfl,oK⟩,oK⟩,(width_none _ _ _ _ _ hop)⟩,oK,oK,oK,oK,oK,oK,oK,oK,oK⟩ ?_
  refine Ev.seq ?_
  refine Ev.seq ?_
  refine Ev.reg [] [9,24] (st' := ⟨yg17,(yg6 k w)⟩)
    (p := T2 True) (by kernel_rfl)
    ⟨oK,oK,oK⟩ ?_
  refine Ev.cond true rfl (fun _ => ?_) (fun h => (by cases h))
  refine Ev.seq ?_
  refine Ev.reg [] [6,7] (st' := ⟨yg7,(yg6 k w)⟩)
    (p := T2 True) (by kernel_rfl)
    ⟨oK,oK,oK⟩ ?_
  refine Ev.ret ?_
  refine ⟨⟨oK,oK,oK⟩,(?_ : (0 : Int) = (widthV op ws k w)∧(1 : Int) = (widthE op ws k w)∧True),.inr ⟨oK,oK,oK⟩⟩
  exact ⟨(if_neg (by rw [ok_none hop _ _ _]; simp)).symm,(if_neg (by rw [ok_none hop _ _ _]; simp)).symm,oK⟩

theorem Width_ok (op : Int) (ws : List Int) (k w : Int) (hwl : ws.length ≤ 9223372036854775807) : CallOk Try.prog 10 [dI .i64 op,dL 1 (encI .i64) 0 ws,.agg [dI .i64 k,dI .i64 w]] [] false (.tup [dI .i64 (widthV op ws k w),dI .i64 (widthE op ws k w)]) [] := by
  rcases (show (op < 1 ∨ 13 < op) ∨ op = 1 ∨ op = 2 ∨ op = 3 ∨ op = 4 ∨ op = 5 ∨ op = 6 ∨ op = 7 ∨ op = 8 ∨ op = 9 ∨ op = 10 ∨ op = 11 ∨ op = 12 ∨ op = 13 from by omega) with hop | rfl | rfl | rfl | rfl | rfl | rfl | rfl | rfl | rfl | rfl | rfl | rfl | rfl
  · exact Width_none op ws k w hwl hop
  · exact Width_1 ws k w hwl
  · exact Width_2 ws k w hwl
  · exact Width_3 ws k w hwl
  · exact Width_4 ws k w hwl
  · exact Width_5 ws k w hwl
  · exact Width_6 ws k w hwl
  · exact Width_7 ws k w hwl
  · exact Width_8 ws k w hwl
  · exact Width_9 ws k w hwl
  · exact Width_10 ws k w hwl
  · exact Width_11 ws k w hwl
  · exact Width_12 ws k w hwl
  · exact Width_13 ws k w hwl

end Go.Proofs.Ytaghhicmnalmmaa
