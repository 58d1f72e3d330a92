/-
  The helpers of the laws on bits.
-/
import Derived.Test.YtaghhicmnalmmaaQVbM
namespace Go.Proofs.Ytaghhicmnalmmaa
open Go.RowKit
set_option linter.unusedVariables false
set_option linter.unusedSimpArgs false
abbrev l6 (k n w v : Int) : List ak := [(.var 23 [(i6 k),(i6 n)]),(.arr 3 1 (au .i64) 0 [w]),(.arr 3 1 (au .i64) 0 [v]),(.arr 3 1 (au .i64) 0 [k,n])]
abbrev l7 (w v to : Int) : List ak := [(.arr 3 1 (au .i64) 0 [w]),(.arr 3 1 (au .i64) 0 [v]),(.arr 3 1 (au .i64) 0 [0,to])]
abbrev l8 : List ak := [(.arr 3 1 (au .i64) 0 [0,0])]
set_option maxRecDepth 100000 in
theorem kw (op : Int) (ws xs : List Int) (hw : ws.length ≤ 9223372036854775807) (hx : xs.length ≤ 9223372036854775807) : ai Try.prog 23 [(i6 op),(LI ws),(LI xs)] [] false (i6 (b4 op ws xs)) [] := by
 refine ai.of_ev Try.func23 rfl rfl rfl ?_
 rintro ⟨_,W,S0,_,susp,_⟩ rfl rfl rfl
 refine Ev.seq ?_
 refine Ev.reg [] [0,1,2] (st' := ⟨[(0,(i6 op)),(1,(LI ws)),(2,(LI xs))],[]⟩)
  (p := True∧True) (by kernel_rfl)
  ⟨oK,oK⟩ ?_
 refine Ev.seq ?_
 refine Ev.reg [(3,.box 3 1 (au .i64) 0 [0,0]),(4,.call (some [(i6 op),(LI ws),(LI xs),(LI [0,0])]) false (.tup [(i6 (aB op ws xs [0,0])),(i6 (aF op ws xs [0,0]))]))] [7,8] (st' := ⟨[(7,(i6 (aB op ws xs [0,0]))),(8,(i6 (aF op ws xs [0,0])))],l8⟩)
  (p := T3 (aI [[(i6 0)],[(i6 0)]] ([0,0].map (au .i64))∧aY Try.prog 12 l8 [(i6 op),(LI ws),(LI xs),(.own 0)] (some [(i6 op),(LI ws),(LI xs),(LI [0,0])]) false (.tup [(i6 (aB op ws xs [0,0])),(i6 (aF op ws xs [0,0]))])∧T5 True)) (by kernel_rfl)
  ⟨oK,oK,oK,⟨⟨rfl,oK⟩,⟨rfl,oK⟩,oK⟩,⟨⟨rfl,rfl,rfl,rfl,oK⟩,(dc op ws xs [0,0] (by first | omega | (simp; first | done | omega)) (by first | omega | (simp; first | done | omega)))⟩,oK,oK,oK,oK,oK,oK⟩ ?_
 refine Ev.seq ?_
 refine Ev.seq ?_
 refine Ev.reg [] [7,18] (st' := ⟨[(7,(i6 (aB op ws xs [0,0]))),(18,(dB ((aF op ws xs [0,0]) != 0)))],l8⟩)
  (p := T2 True) (by kernel_rfl)
  ⟨oK,oK,oK⟩ ?_
 refine Ev.cond _ rfl (fun hc18 => ?_) (fun hc18 => ?_)
 ·try simp only [decide_eq_true_eq,decide_eq_false_iff_not,beq_iff_eq,bne_iff_ne,ne_eq,beq_eq_false_iff_ne,bne_eq_false_iff_eq,Bool.not_eq_true,Bool.not_eq_false,Bool.not_eq_true',Bool.not_eq_false',Bool.not_not,gt_iff_lt,ge_iff_le,Nat.not_lt,Int.not_lt,Int.not_le] at hc18
  refine Ev.seq ?_
  refine Ev.reg [] [6] (st' := ⟨[(6,(i6 (-1)))],l8⟩)
   (p := True∧True) (by kernel_rfl)
   ⟨oK,oK⟩ ?_
  refine Ev.ret ?_
  refine ⟨⟨oK,oK⟩,(?_ : (-1) = (b4 op ws xs)),.inr trivial⟩
  exact (if_pos (by simpa using hc18)).symm
 ·try simp only [decide_eq_true_eq,decide_eq_false_iff_not,beq_iff_eq,bne_iff_ne,ne_eq,beq_eq_false_iff_ne,bne_eq_false_iff_eq,Bool.not_eq_true,Bool.not_eq_false,Bool.not_eq_true',Bool.not_eq_false',Bool.not_not,gt_iff_lt,ge_iff_le,Nat.not_lt,Int.not_lt,Int.not_le] at hc18
  refine Ev.skip ?_
  refine Ev.seq ?_
  refine Ev.reg [] [6] (st' := ⟨[(6,(i6 (aB op ws xs [0,0])))],l8⟩)
   (p := T2 True) (by kernel_rfl)
   ⟨oK,oK,oK⟩ ?_
  refine Ev.ret ?_
  refine ⟨⟨oK,oK⟩,(?_ : (aB op ws xs [0,0]) = (b4 op ws xs)),.inr trivial⟩
  exact (if_neg (by simpa using hc18)).symm
set_option maxRecDepth 100000 in
theorem lh (op w a b : Int) : ai Try.prog 22 [(i6 op),(i6 w),(.agg [(i6 a),(i6 b)])] [] false (i6 (b4 op [w,w] [a,b])) [] := by
 refine ai.of_ev Try.func22 rfl rfl rfl ?_
 rintro ⟨_,W,S0,_,susp,_⟩ rfl rfl rfl
 refine Ev.seq ?_
 refine Ev.reg [] [0,1,5] (st' := ⟨[(0,(i6 op)),(1,(i6 w)),(5,(.ptr 0 0 0 0))],[(.var 23 [(i6 a),(i6 b)])]⟩)
  (p := T2 True) (by kernel_rfl)
  ⟨oK,oK,oK⟩ ?_
 refine Ev.seq ?_
 refine Ev.reg [(3,.box 3 1 (au .i64) 0 [w,w]),(8,.box 3 1 (au .i64) 0 [a,b]),(9,.call (some [(i6 op),(LI [w,w]),(LI [a,b])]) false (i6 (b4 op [w,w] [a,b])))] [6] (st' := ⟨[(6,(i6 (b4 op [w,w] [a,b])))],[(.var 23 [(i6 a),(i6 b)]),(.arr 3 1 (au .i64) 0 [w,w]),(.arr 3 1 (au .i64) 0 [a,b])]⟩)
  (p := T3 (aI [[(i6 w)],[(i6 w)]] ([w,w].map (au .i64))∧((0 ≤ (0 : Int)∧0 < (2 : Int))∧True)∧True∧((0 ≤ (1 : Int)∧1 < (2 : Int))∧True)∧True∧aI [[(i6 a)],[(i6 b)]] ([a,b].map (au .i64))∧aY Try.prog 23 [(.var 23 [(i6 a),(i6 b)]),(.arr 3 1 (au .i64) 0 [w,w]),(.arr 3 1 (au .i64) 0 [a,b])] [(i6 op),(.own 1),(.own 2)] (some [(i6 op),(LI [w,w]),(LI [a,b])]) false (i6 (b4 op [w,w] [a,b]))∧True∧True)) (by kernel_rfl)
  ⟨oK,oK,oK,⟨⟨rfl,oK⟩,⟨rfl,oK⟩,oK⟩,⟨by omega,oK⟩,oK,⟨by omega,oK⟩,oK,⟨⟨rfl,oK⟩,⟨rfl,oK⟩,oK⟩,⟨⟨rfl,rfl,rfl,oK⟩,(kw _ _ _ (by first | omega | (simp; first | done | omega)) (by first | omega | (simp; first | done | omega)))⟩,oK,oK⟩ ?_
 refine Ev.ret ?_
 refine ⟨⟨oK,oK⟩,(?_ : (b4 op [w,w] [a,b]) = (b4 op [w,w] [a,b])),.inr trivial⟩
 rfl
set_option maxRecDepth 100000 in
theorem oC (v w k n : Int) : ai Try.prog 25 [(i6 v),(i6 w),(.agg [(i6 k),(i6 n)])] [] false (i6 (oo v w k n)) [] := by
 refine ai.of_ev Try.func25 rfl rfl rfl ?_
 rintro ⟨_,W,S0,_,susp,_⟩ rfl rfl rfl
 refine Ev.seq ?_
 refine Ev.reg [] [0,1,5] (st' := ⟨[(0,(i6 v)),(1,(i6 w)),(5,(.ptr 0 0 0 0))],[(.var 23 [(i6 k),(i6 n)])]⟩)
  (p := T2 True) (by kernel_rfl)
  ⟨oK,oK,oK⟩ ?_
 refine Ev.seq ?_
 refine Ev.reg [(1,.box 3 1 (au .i64) 0 [w]),(3,.box 3 1 (au .i64) 0 [v]),(8,.box 3 1 (au .i64) 0 [k,n]),(9,.call (some [(i6 12),(LI [w]),(LI [v]),(LI [k,n])]) false (.tup [(i6 (aB 12 [w] [v] [k,n])),(i6 (aF 12 [w] [v] [k,n]))]))] [7,8] (st' := ⟨[(7,(i6 (aB 12 [w] [v] [k,n]))),(8,(i6 (aF 12 [w] [v] [k,n])))],(l6 k n w v)⟩)
  (p := True∧aI [[(i6 w)]] ([w].map (au .i64))∧True∧aI [[(i6 v)]] ([v].map (au .i64))∧((0 ≤ (0 : Int)∧0 < (2 : Int))∧True)∧True∧((0 ≤ (1 : Int)∧1 < (2 : Int))∧True)∧True∧aI [[(i6 k)],[(i6 n)]] ([k,n].map (au .i64))∧aY Try.prog 12 (l6 k n w v) [(i6 12),(.own 1),(.own 2),(.own 3)] (some [(i6 12),(LI [w]),(LI [v]),(LI [k,n])]) false (.tup [(i6 (aB 12 [w] [v] [k,n])),(i6 (aF 12 [w] [v] [k,n]))])∧T5 True) (by kernel_rfl)
  ⟨oK,⟨⟨rfl,oK⟩,oK⟩,oK,⟨⟨rfl,oK⟩,oK⟩,⟨by omega,oK⟩,oK,⟨by omega,oK⟩,oK,⟨⟨rfl,oK⟩,⟨rfl,oK⟩,oK⟩,⟨⟨rfl,rfl,rfl,rfl,oK⟩,(dc 12 [w] [v] [k,n] (by first | omega | (simp; first | done | omega)) (by first | omega | (simp; first | done | omega)))⟩,oK,oK,oK,oK,oK,oK⟩ ?_
 refine Ev.seq ?_
 refine Ev.seq ?_
 refine Ev.reg [] [7,23] (st' := ⟨[(7,(i6 (aB 12 [w] [v] [k,n]))),(23,(dB ((aF 12 [w] [v] [k,n]) != 0)))],(l6 k n w v)⟩)
  (p := T2 True) (by kernel_rfl)
  ⟨oK,oK,oK⟩ ?_
 refine Ev.cond _ rfl (fun hc23 => ?_) (fun hc23 => ?_)
 ·try simp only [decide_eq_true_eq,decide_eq_false_iff_not,beq_iff_eq,bne_iff_ne,ne_eq,beq_eq_false_iff_ne,bne_eq_false_iff_eq,Bool.not_eq_true,Bool.not_eq_false,Bool.not_eq_true',Bool.not_eq_false',Bool.not_not,gt_iff_lt,ge_iff_le,Nat.not_lt,Int.not_lt,Int.not_le] at hc23
  refine Ev.seq ?_
  refine Ev.reg [] [6] (st' := ⟨[(6,(i6 (-1)))],(l6 k n w v)⟩)
   (p := True∧True) (by kernel_rfl)
   ⟨oK,oK⟩ ?_
  refine Ev.ret ?_
  refine ⟨⟨oK,oK⟩,(?_ : (-1) = (oo v w k n)),.inr trivial⟩
  exact (if_pos (by simpa using hc23)).symm
 ·try simp only [decide_eq_true_eq,decide_eq_false_iff_not,beq_iff_eq,bne_iff_ne,ne_eq,beq_eq_false_iff_ne,bne_eq_false_iff_eq,Bool.not_eq_true,Bool.not_eq_false,Bool.not_eq_true',Bool.not_eq_false',Bool.not_not,gt_iff_lt,ge_iff_le,Nat.not_lt,Int.not_lt,Int.not_le] at hc23
  refine Ev.skip ?_
  refine Ev.seq ?_
  refine Ev.reg [] [6] (st' := ⟨[(6,(i6 (aB 12 [w] [v] [k,n])))],(l6 k n w v)⟩)
   (p := T2 True) (by kernel_rfl)
   ⟨oK,oK,oK⟩ ?_
  refine Ev.ret ?_
  refine ⟨⟨oK,oK⟩,(?_ : (aB 12 [w] [v] [k,n]) = (oo v w k n)),.inr trivial⟩
  exact (if_neg (by simpa using hc23)).symm
set_option maxRecDepth 100000 in
theorem ql (w0 w1 a b : Int) : ai Try.prog 24 [(.agg [(i6 w0),(i6 w1)]),(.agg [(i6 a),(i6 b)])] [] false (i6 (b4 11 [w0,w1] [a,b])) [] := by
 refine ai.of_ev Try.func24 rfl rfl rfl ?_
 rintro ⟨_,W,S0,_,susp,_⟩ rfl rfl rfl
 refine Ev.seq ?_
 refine Ev.reg [] [2,3] (st' := ⟨[(2,(.ptr 0 0 0 0)),(3,(.ptr 1 0 0 0))],[(.var 23 [(i6 w0),(i6 w1)]),(.var 23 [(i6 a),(i6 b)])]⟩)
  (p := T3 True) (by kernel_rfl)
  ⟨oK,oK,oK,oK⟩ ?_
 refine Ev.seq ?_
 refine Ev.reg [(4,.box 3 1 (au .i64) 0 [w0,w1]),(9,.box 3 1 (au .i64) 0 [a,b]),(10,.call (some [(i6 11),(LI [w0,w1]),(LI [a,b])]) false (i6 (b4 11 [w0,w1] [a,b])))] [4] (st' := ⟨[(4,(i6 (b4 11 [w0,w1] [a,b])))],[(.var 23 [(i6 w0),(i6 w1)]),(.var 23 [(i6 a),(i6 b)]),(.arr 3 1 (au .i64) 0 [w0,w1]),(.arr 3 1 (au .i64) 0 [a,b])]⟩)
  (p := ((0 ≤ (0 : Int)∧0 < (2 : Int))∧True)∧True∧((0 ≤ (1 : Int)∧1 < (2 : Int))∧True)∧True∧aI [[(i6 w0)],[(i6 w1)]] ([w0,w1].map (au .i64))∧((0 ≤ (0 : Int)∧0 < (2 : Int))∧True)∧True∧((0 ≤ (1 : Int)∧1 < (2 : Int))∧True)∧True∧aI [[(i6 a)],[(i6 b)]] ([a,b].map (au .i64))∧aY Try.prog 23 [(.var 23 [(i6 w0),(i6 w1)]),(.var 23 [(i6 a),(i6 b)]),(.arr 3 1 (au .i64) 0 [w0,w1]),(.arr 3 1 (au .i64) 0 [a,b])] [(i6 11),(.own 2),(.own 3)] (some [(i6 11),(LI [w0,w1]),(LI [a,b])]) false (i6 (b4 11 [w0,w1] [a,b]))∧True∧True) (by kernel_rfl)
  ⟨⟨by omega,oK⟩,oK,⟨by omega,oK⟩,oK,⟨⟨rfl,oK⟩,⟨rfl,oK⟩,oK⟩,⟨by omega,oK⟩,oK,⟨by omega,oK⟩,oK,⟨⟨rfl,oK⟩,⟨rfl,oK⟩,oK⟩,⟨⟨rfl,rfl,rfl,oK⟩,(kw _ _ _ (by first | omega | (simp; first | done | omega)) (by first | omega | (simp; first | done | omega)))⟩,oK,oK⟩ ?_
 refine Ev.ret ?_
 refine ⟨⟨oK,oK⟩,(?_ : (b4 11 [w0,w1] [a,b]) = (b4 11 [w0,w1] [a,b])),.inr trivial⟩
 rfl
set_option maxRecDepth 100000 in
theorem qn (v w to : Int) : ai Try.prog 26 [(i6 v),(i6 w),(i6 to)] [] false (i6 (oq v w to)) [] := by
 refine ai.of_ev Try.func26 rfl rfl rfl ?_
 rintro ⟨_,W,S0,_,susp,_⟩ rfl rfl rfl
 refine Ev.seq ?_
 refine Ev.reg [] [0,1,2] (st' := ⟨[(0,(i6 v)),(1,(i6 w)),(2,(i6 to))],[]⟩)
  (p := True∧True) (by kernel_rfl)
  ⟨oK,oK⟩ ?_
 refine Ev.seq ?_
 refine Ev.reg [(1,.box 3 1 (au .i64) 0 [w]),(3,.box 3 1 (au .i64) 0 [v]),(5,.box 3 1 (au .i64) 0 [0,to]),(6,.call (some [(i6 13),(LI [w]),(LI [v]),(LI [0,to])]) false (.tup [(i6 (aB 13 [w] [v] [0,to])),(i6 (aF 13 [w] [v] [0,to]))]))] [7,8] (st' := ⟨[(7,(i6 (aB 13 [w] [v] [0,to]))),(8,(i6 (aF 13 [w] [v] [0,to])))],(l7 w v to)⟩)
  (p := True∧aI [[(i6 w)]] ([w].map (au .i64))∧True∧aI [[(i6 v)]] ([v].map (au .i64))∧True∧aI [[(i6 0)],[(i6 to)]] ([0,to].map (au .i64))∧aY Try.prog 12 (l7 w v to) [(i6 13),(.own 0),(.own 1),(.own 2)] (some [(i6 13),(LI [w]),(LI [v]),(LI [0,to])]) false (.tup [(i6 (aB 13 [w] [v] [0,to])),(i6 (aF 13 [w] [v] [0,to]))])∧T5 True) (by kernel_rfl)
  ⟨oK,⟨⟨rfl,oK⟩,oK⟩,oK,⟨⟨rfl,oK⟩,oK⟩,oK,⟨⟨rfl,oK⟩,⟨rfl,oK⟩,oK⟩,⟨⟨rfl,rfl,rfl,rfl,oK⟩,(dc 13 [w] [v] [0,to] (by first | omega | (simp; first | done | omega)) (by first | omega | (simp; first | done | omega)))⟩,oK,oK,oK,oK,oK,oK⟩ ?_
 refine Ev.seq ?_
 refine Ev.seq ?_
 refine Ev.reg [] [7,20] (st' := ⟨[(7,(i6 (aB 13 [w] [v] [0,to]))),(20,(dB ((aF 13 [w] [v] [0,to]) != 0)))],(l7 w v to)⟩)
  (p := T2 True) (by kernel_rfl)
  ⟨oK,oK,oK⟩ ?_
 refine Ev.cond _ rfl (fun hc20 => ?_) (fun hc20 => ?_)
 ·try simp only [decide_eq_true_eq,decide_eq_false_iff_not,beq_iff_eq,bne_iff_ne,ne_eq,beq_eq_false_iff_ne,bne_eq_false_iff_eq,Bool.not_eq_true,Bool.not_eq_false,Bool.not_eq_true',Bool.not_eq_false',Bool.not_not,gt_iff_lt,ge_iff_le,Nat.not_lt,Int.not_lt,Int.not_le] at hc20
  refine Ev.seq ?_
  refine Ev.reg [] [6] (st' := ⟨[(6,(i6 (-1)))],(l7 w v to)⟩)
   (p := True∧True) (by kernel_rfl)
   ⟨oK,oK⟩ ?_
  refine Ev.ret ?_
  refine ⟨⟨oK,oK⟩,(?_ : (-1) = (oq v w to)),.inr trivial⟩
  first | exact (if_pos (by simpa using hc20)).symm | exact (if_pos (by simpa using hc21)).symm | exact (if_pos (by assumption)).symm
 ·try simp only [decide_eq_true_eq,decide_eq_false_iff_not,beq_iff_eq,bne_iff_ne,ne_eq,beq_eq_false_iff_ne,bne_eq_false_iff_eq,Bool.not_eq_true,Bool.not_eq_false,Bool.not_eq_true',Bool.not_eq_false',Bool.not_not,gt_iff_lt,ge_iff_le,Nat.not_lt,Int.not_lt,Int.not_le] at hc20
  refine Ev.skip ?_
  refine Ev.seq ?_
  refine Ev.reg [] [6] (st' := ⟨[(6,(i6 (aB 13 [w] [v] [0,to])))],(l7 w v to)⟩)
   (p := T2 True) (by kernel_rfl)
   ⟨oK,oK,oK⟩ ?_
  refine Ev.ret ?_
  refine ⟨⟨oK,oK⟩,(?_ : (aB 13 [w] [v] [0,to]) = (oq v w to)),.inr trivial⟩
  first | exact (if_neg (by simpa using hc20)).symm | exact (if_neg (by simpa using hc21)).symm | exact (if_neg (by simp only [ne_eq,Decidable.not_not]; assumption)).symm
end Go.Proofs.Ytaghhicmnalmmaa
