/-
  BitsMatchesReference.
-/
import Derived.Test.YtaghhicmnalmmaaBitU
namespace Go.Proofs.Ytaghhicmnalmmaa
open Go.RowKit
set_option linter.unusedVariables false
set_option linter.unusedSimpArgs false
abbrev yv1 (op v wi : Int) (ws xs nums : List Int) (k w : Int) (l : List Bool) : Box := (.var 26 [(i6 op),(i6 v),(i6 wi),(LI ws),(LI xs),(LI nums),(i6 k),(i6 w),(LB l)])
abbrev yv2 (op : Int) (ws : List Int) (k w : Int) : List D := [(i6 (widthV op ws k w)),(i6 (widthE op ws k w))]
abbrev yv3 (op : Int) (ws xs nums : List Int) : List D := [(i6 (applyV op ws xs nums)),(i6 (applyE op ws xs nums))]
abbrev yv0 (op v wi : Int) (ws xs nums : List Int) (k w : Int) (l : List Bool) : List Box := [(yv1 op v wi ws xs nums k w l),(.var 32 (yv2 op ws k w)),(.var 32 (yv3 op ws xs nums)),(.arr 3 1 (encI .i64) 0 [k,w]),(.arr 3 1 (encI .i64) 0 [k,w]),(.var 32 [(i6 (applyV op ws xs [k,w])),(i6 (applyE op ws xs [k,w]))])]
abbrev yv5 : D := (.ptr 0 0 0 0)
abbrev yv4 : List (Nat × D) := [(1,yv5),(3,(dB true)),(37,(dB true))]

set_option maxRecDepth 100000 in
theorem matches_law (op v wi k w : Int) (ws xs nums : List Int) (l : List Bool) (hw : ws.length ≤ 9223372036854775807) (hx : xs.length ≤ 9223372036854775807) (hn : nums.length ≤ 9223372036854775807) (hl : l.length ≤ 9223372036854775807) : CallOk Try.prog 3 [(.agg [(i6 op),(i6 v),(i6 wi),(LI ws),(LI xs),(LI nums),(i6 k),(i6 w),(LB l)])] [] false (dB true) [] := by
  refine CallOk.of_ev Try.func3 rfl rfl rfl ?_
  rintro ⟨_,W,S0,_,susp,_⟩ rfl rfl rfl
  refine Ev.seq ?_
  refine Ev.reg [] [1] (st' := ⟨[(1,yv5)],[(yv1 op v wi ws xs nums k w l)]⟩)
    (p := T2 True) (by kernel_rfl)
    ⟨oK,oK,oK⟩ ?_
  refine Ev.seq ?_
  refine Ev.reg [(0,.call none false (dB true))] [1,3] (st' := ⟨[(1,yv5),(3,(dB true))],[(yv1 op v wi ws xs nums k w l)]⟩)
    (p := callOb Try.prog 9 [(yv1 op v wi ws xs nums k w l)] [] none false (dB true)∧True∧True) (by kernel_rfl)
    ⟨examples_ok,oK,oK⟩ ?_
  refine Ev.seq ?_
  refine Ev.seq ?_
  refine Ev.reg [] [1,3,15] (st' := ⟨[(1,yv5),(3,(dB true)),(15,(dB false))],[(yv1 op v wi ws xs nums k w l)]⟩)
    (p := T2 True) (by kernel_rfl)
    ⟨oK,oK,oK⟩ ?_
  refine Ev.cond false rfl (fun h => (by cases h)) (fun _ => ?_)
  refine Ev.skip ?_
  refine Ev.seq ?_
  refine Ev.seq ?_
  rcases (show (80 < ws.length) ∨ (ws.length ≤ 80∧80 < xs.length) ∨ (ws.length ≤ 80∧xs.length ≤ 80∧80 < nums.length) ∨ (ws.length ≤ 80∧xs.length ≤ 80∧nums.length ≤ 80∧80 < l.length) ∨ (ws.length ≤ 80∧xs.length ≤ 80∧nums.length ≤ 80∧l.length ≤ 80) from by omega) with h | h | h | h | h
  · skip
    refine Ev.reg [(3,.val (dB true))] [1,3,37] (st' := ⟨yv4,[(yv1 op v wi ws xs nums k w l)]⟩)
      (p := T3 ((True∧(decide (((ws.length : Nat) : Int) > 80)) = true)∧T9 (T9 True))) (by kernel_rfl)
      ⟨oK,oK,oK,⟨oK,(by exact decide_eq_true (by omega))⟩,oK,oK,oK,oK,oK,oK,oK,oK,oK,oK,oK,oK,oK,oK,oK,oK,oK,oK,oK⟩ ?_
    refine Ev.cond true rfl (fun _ => ?_) (fun h => (by cases h))
    refine Ev.seq ?_
    refine Ev.reg [] [2] (st' := ⟨[(2,(dB true))],[(yv1 op v wi ws xs nums k w l)]⟩)
      (p := T2 True) (by kernel_rfl)
      ⟨oK,oK,oK⟩ ?_
    refine Ev.ret ?_
    refine ⟨⟨oK,oK⟩,(?_ : true = true),.inr trivial⟩
    rfl
  · skip
    refine Ev.reg [(3,.val (dB false)),(8,.val (dB true))] [1,3,37] (st' := ⟨yv4,[(yv1 op v wi ws xs nums k w l)]⟩)
      (p := T3 ((True∧(decide (((ws.length : Nat) : Int) > 80)) = false)∧T4 ((True∧(decide (((xs.length : Nat) : Int) > 80)) = true)∧T9 (T4 True)))) (by kernel_rfl)
      ⟨oK,oK,oK,⟨oK,(by exact decide_eq_false (by omega))⟩,oK,oK,oK,oK,⟨oK,(by exact decide_eq_true (by omega))⟩,oK,oK,oK,oK,oK,oK,oK,oK,oK,oK,oK,oK,oK,oK⟩ ?_
    refine Ev.cond true rfl (fun _ => ?_) (fun h => (by cases h))
    refine Ev.seq ?_
    refine Ev.reg [] [2] (st' := ⟨[(2,(dB true))],[(yv1 op v wi ws xs nums k w l)]⟩)
      (p := T2 True) (by kernel_rfl)
      ⟨oK,oK,oK⟩ ?_
    refine Ev.ret ?_
    refine ⟨⟨oK,oK⟩,(?_ : true = true),.inr trivial⟩
    rfl
  · skip
    refine Ev.reg [(3,.val (dB false)),(8,.val (dB false)),(14,.val (dB true))] [1,3,37] (st' := ⟨yv4,[(yv1 op v wi ws xs nums k w l)]⟩)
      (p := T3 ((True∧(decide (((ws.length : Nat) : Int) > 80)) = false)∧T4 ((True∧(decide (((xs.length : Nat) : Int) > 80)) = false)∧T5 ((True∧(decide (((nums.length : Nat) : Int) > 80)) = true)∧T7 True)))) (by kernel_rfl)
      ⟨oK,oK,oK,⟨oK,(by exact decide_eq_false (by omega))⟩,oK,oK,oK,oK,⟨oK,(by exact decide_eq_false (by omega))⟩,oK,oK,oK,oK,oK,⟨oK,(by exact decide_eq_true (by omega))⟩,oK,oK,oK,oK,oK,oK,oK,oK⟩ ?_
    refine Ev.cond true rfl (fun _ => ?_) (fun h => (by cases h))
    refine Ev.seq ?_
    refine Ev.reg [] [2] (st' := ⟨[(2,(dB true))],[(yv1 op v wi ws xs nums k w l)]⟩)
      (p := T2 True) (by kernel_rfl)
      ⟨oK,oK,oK⟩ ?_
    refine Ev.ret ?_
    refine ⟨⟨oK,oK⟩,(?_ : true = true),.inr trivial⟩
    rfl
  · skip
    refine Ev.reg [(3,.val (dB false)),(8,.val (dB false)),(14,.val (dB false)),(20,.val (dB true))] [1,3,37] (st' := ⟨yv4,[(yv1 op v wi ws xs nums k w l)]⟩)
      (p := T3 ((True∧(decide (((ws.length : Nat) : Int) > 80)) = false)∧T4 ((True∧(decide (((xs.length : Nat) : Int) > 80)) = false)∧T5 ((True∧(decide (((nums.length : Nat) : Int) > 80)) = false)∧T5 ((True∧(decide (((l.length : Nat) : Int) > 80)) = true)∧True∧True))))) (by kernel_rfl)
      ⟨oK,oK,oK,⟨oK,(by exact decide_eq_false (by omega))⟩,oK,oK,oK,oK,⟨oK,(by exact decide_eq_false (by omega))⟩,oK,oK,oK,oK,oK,⟨oK,(by exact decide_eq_false (by omega))⟩,oK,oK,oK,oK,oK,⟨oK,(by exact decide_eq_true (by omega))⟩,oK,oK⟩ ?_
    refine Ev.cond true rfl (fun _ => ?_) (fun h => (by cases h))
    refine Ev.seq ?_
    refine Ev.reg [] [2] (st' := ⟨[(2,(dB true))],[(yv1 op v wi ws xs nums k w l)]⟩)
      (p := T2 True) (by kernel_rfl)
      ⟨oK,oK,oK⟩ ?_
    refine Ev.ret ?_
    refine ⟨⟨oK,oK⟩,(?_ : true = true),.inr trivial⟩
    rfl
  · skip
    refine Ev.reg [(3,.val (dB false)),(8,.val (dB false)),(14,.val (dB false)),(20,.val (dB false))] [1,3,37] (st' := ⟨[(1,yv5),(3,(dB true)),(37,(dB false))],[(yv1 op v wi ws xs nums k w l)]⟩)
      (p := T3 ((True∧(decide (((ws.length : Nat) : Int) > 80)) = false)∧T4 ((True∧(decide (((xs.length : Nat) : Int) > 80)) = false)∧T5 ((True∧(decide (((nums.length : Nat) : Int) > 80)) = false)∧T5 ((True∧(decide (((l.length : Nat) : Int) > 80)) = false)∧True∧True))))) (by kernel_rfl)
      ⟨oK,oK,oK,⟨oK,(by exact decide_eq_false (by omega))⟩,oK,oK,oK,oK,⟨oK,(by exact decide_eq_false (by omega))⟩,oK,oK,oK,oK,oK,⟨oK,(by exact decide_eq_false (by omega))⟩,oK,oK,oK,oK,oK,⟨oK,(by exact decide_eq_false (by omega))⟩,oK,oK⟩ ?_
    refine Ev.cond false rfl (fun h => (by cases h)) (fun _ => ?_)
    refine Ev.skip ?_
    refine Ev.seq ?_
    refine Ev.reg [(6,.call none false (.tup (yv2 op ws k w)))] [1,3,4,5] (st' := ⟨[(1,yv5),(3,(dB true)),(4,(i6 (widthV op ws k w))),(5,(i6 (widthE op ws k w)))],[(yv1 op v wi ws xs nums k w l)]⟩)
      (p := T6 (callOb Try.prog 10 [(yv1 op v wi ws xs nums k w l)] [(i6 op),(LI ws),(.agg [(i6 k),(i6 w)])] none false (.tup (yv2 op ws k w))∧T5 True)) (by kernel_rfl)
      ⟨oK,oK,oK,oK,oK,oK,(Width_ok _ _ _ _ (by first | omega | exact splitF_len _ _ | (simp; done))),oK,oK,oK,oK,oK,oK⟩ ?_
    refine Ev.seq ?_
    refine Ev.reg [(6,.call none false (.agg (yv2 op ws k w)))] [1,3,4,5,6] (st' := ⟨[(1,yv5),(3,(dB true)),(4,(i6 (widthV op ws k w))),(5,(i6 (widthE op ws k w))),(6,(.ptr 1 0 0 0))],[(yv1 op v wi ws xs nums k w l),(.var 32 (yv2 op ws k w))]⟩)
      (p := T6 (callOb Try.prog 11 [(yv1 op v wi ws xs nums k w l)] [(i6 op),(LI ws),(.agg [(i6 k),(i6 w)])] none false (.agg (yv2 op ws k w))∧T2 True)) (by kernel_rfl)
      ⟨oK,oK,oK,oK,oK,oK,(WidthIn_ok _ _ _ _ (by omega)),oK,oK,oK⟩ ?_
    refine Ev.seq ?_
    refine Ev.reg [(8,.call none false (.tup (yv3 op ws xs nums)))] [1,3,4,5,6,7,8] (st' := ⟨[(1,yv5),(3,(dB true)),(4,(i6 (widthV op ws k w))),(5,(i6 (widthE op ws k w))),(6,(.ptr 1 0 0 0)),(7,(i6 (applyV op ws xs nums))),(8,(i6 (applyE op ws xs nums)))],[(yv1 op v wi ws xs nums k w l),(.var 32 (yv2 op ws k w))]⟩)
      (p := T8 (callOb Try.prog 12 [(yv1 op v wi ws xs nums k w l),(.var 32 (yv2 op ws k w))] [(i6 op),(LI ws),(LI xs),(LI nums)] none false (.tup (yv3 op ws xs nums))∧T5 True)) (by kernel_rfl)
      ⟨oK,oK,oK,oK,oK,oK,oK,oK,(Apply_ok _ _ _ _ (by first | omega | exact splitF_len _ _ | (simp; done)) (by first | omega | exact splitF_len _ _ | (simp; done))),oK,oK,oK,oK,oK,oK⟩ ?_
    refine Ev.seq ?_
    refine Ev.reg [(9,.call none false (.agg (yv3 op ws xs nums)))] [1,3,4,5,6,7,8,9] (st' := ⟨[(1,yv5),(3,(dB true)),(4,(i6 (widthV op ws k w))),(5,(i6 (widthE op ws k w))),(6,(.ptr 1 0 0 0)),(7,(i6 (applyV op ws xs nums))),(8,(i6 (applyE op ws xs nums))),(9,(.ptr 2 0 0 0))],[(yv1 op v wi ws xs nums k w l),(.var 32 (yv2 op ws k w)),(.var 32 (yv3 op ws xs nums))]⟩)
      (p := T9 (callOb Try.prog 13 [(yv1 op v wi ws xs nums k w l),(.var 32 (yv2 op ws k w))] [(i6 op),(LI ws),(.agg [(LI xs),(LI nums)])] none false (.agg (yv3 op ws xs nums))∧T2 True)) (by kernel_rfl)
      ⟨oK,oK,oK,oK,oK,oK,oK,oK,oK,(ApplyIn_ok _ _ _ _ (by omega) (by omega)),oK,oK,oK⟩ ?_
    refine Ev.seq ?_
    refine Ev.reg [(12,.box 3 1 (encI .i64) 0 [k,w]),(13,.call (some [(i6 op),(LI ws),(LI xs),(LI [k,w])]) false (.tup [(i6 (applyV op ws xs [k,w])),(i6 (applyE op ws xs [k,w]))]))] [1,3,4,5,6,7,8,9,10,11] (st' := ⟨[(1,yv5),(3,(dB true)),(4,(i6 (widthV op ws k w))),(5,(i6 (widthE op ws k w))),(6,(.ptr 1 0 0 0)),(7,(i6 (applyV op ws xs nums))),(8,(i6 (applyE op ws xs nums))),(9,(.ptr 2 0 0 0)),(10,(i6 (applyV op ws xs [k,w]))),(11,(i6 (applyE op ws xs [k,w])))],[(yv1 op v wi ws xs nums k w l),(.var 32 (yv2 op ws k w)),(.var 32 (yv3 op ws xs nums)),(.arr 3 1 (encI .i64) 0 [k,w])]⟩)
      (p := T7 (((0 ≤ (0 : Int)∧0 < (2 : Int))∧True)∧T2 (((0 ≤ (1 : Int)∧1 < (2 : Int))∧True)∧True∧eqRows [[(i6 k)],[(i6 w)]] ([k,w].map (encI .i64))∧callOb Try.prog 12 [(yv1 op v wi ws xs nums k w l),(.var 32 (yv2 op ws k w)),(.var 32 (yv3 op ws xs nums)),(.arr 3 1 (encI .i64) 0 [k,w])] [(i6 op),(LI ws),(LI xs),(.own 3)] (some [(i6 op),(LI ws),(LI xs),(LI [k,w])]) false (.tup [(i6 (applyV op ws xs [k,w])),(i6 (applyE op ws xs [k,w]))])∧T5 True))) (by kernel_rfl)
      ⟨oK,oK,oK,oK,oK,oK,oK,⟨by omega,oK⟩,oK,oK,⟨by omega,oK⟩,oK,⟨⟨rfl,oK⟩,⟨rfl,oK⟩,oK⟩,⟨⟨rfl,rfl,rfl,rfl,oK⟩,(Apply_ok _ _ _ _ (by first | omega | exact splitF_len _ _ | (simp; done)) (by first | omega | exact splitF_len _ _ | (simp; done)))⟩,oK,oK,oK,oK,oK,oK⟩ ?_
    refine Ev.seq ?_
    refine Ev.reg [(12,.box 3 1 (encI .i64) 0 [k,w]),(14,.call (some [(i6 op),(LI ws),(.agg [(LI xs),(LI [k,w])])]) false (.agg [(i6 (applyV op ws xs [k,w])),(i6 (applyE op ws xs [k,w]))]))] [1,3,4,5,6,7,8,9,10,11,12] (st' := ⟨[(1,yv5),(3,(dB true)),(4,(i6 (widthV op ws k w))),(5,(i6 (widthE op ws k w))),(6,(.ptr 1 0 0 0)),(7,(i6 (applyV op ws xs nums))),(8,(i6 (applyE op ws xs nums))),(9,(.ptr 2 0 0 0)),(10,(i6 (applyV op ws xs [k,w]))),(11,(i6 (applyE op ws xs [k,w]))),(12,(.ptr 5 0 0 0))],(yv0 op v wi ws xs nums k w l)⟩)
      (p := T7 (((0 ≤ (0 : Int)∧0 < (2 : Int))∧True)∧T2 (((0 ≤ (1 : Int)∧1 < (2 : Int))∧True)∧True∧eqRows [[(i6 k)],[(i6 w)]] ([k,w].map (encI .i64))∧True∧callOb Try.prog 13 [(yv1 op v wi ws xs nums k w l),(.var 32 (yv2 op ws k w)),(.var 32 (yv3 op ws xs nums)),(.arr 3 1 (encI .i64) 0 [k,w]),(.arr 3 1 (encI .i64) 0 [k,w])] [(i6 op),(LI ws),(.agg [(LI xs),(.own 4)])] (some [(i6 op),(LI ws),(.agg [(LI xs),(LI [k,w])])]) false (.agg [(i6 (applyV op ws xs [k,w])),(i6 (applyE op ws xs [k,w]))])∧T2 True))) (by kernel_rfl)
      ⟨oK,oK,oK,oK,oK,oK,oK,⟨by omega,oK⟩,oK,oK,⟨by omega,oK⟩,oK,⟨⟨rfl,oK⟩,⟨rfl,oK⟩,oK⟩,oK,⟨⟨rfl,rfl,⟨rfl,rfl,oK⟩,oK⟩,(ApplyIn_ok _ _ _ _ (by omega) (by omega))⟩,oK,oK,oK⟩ ?_
    refine Ev.seq ?_
    refine Ev.draw 69 [false,false,false,false,false,false,false,false,false,false,false,false,false,false,false,false,false,false,false,false,false,false,false,false,false,false,false,false,false,false,false,false,false,false,false,false,false,false,false,false,false,false,false,false,false,false,false,false,false,false,false,false,false,false,false,false,false,false,false,false,false,false,false,false,false,false,false,false,false] [(3,.val (dB true)),(8,.val (dB true)),(14,.val (dB true)),(20,.val (dB true)),(26,.val (dB true)),(32,.val (dB true)),(37,.call none false (i6 (maskF wi))),(40,.call none false (i6 (maskF wi))),(41,.val (dB true)),(48,.call none true (LB (splitF v wi))),(53,.call none true (LB (splitF v wi))),(54,.call none false (dB (decide ((splitF v wi) = (splitF v wi))))),(55,.val (dB true)),(59,.call none false (i6 ((joinN l (min l.length 62) : Nat) : Int))),(62,.call none false (i6 ((joinN l (min l.length 62) : Nat) : Int))),(63,.val (dB true))] [2] (st' := ⟨[(2,(dB true))],(yv0 op v wi ws xs nums k w l)⟩)
      (p := (T3 ((True∧((widthV op ws k w) == (widthV op ws k w)) = true)∧T4 ((True∧((widthE op ws k w) == (widthE op ws k w)) = true)∧T5 ((True∧((applyV op ws xs nums) == (applyV op ws xs nums)) = true)∧T5 ((True∧((applyE op ws xs nums) == (applyE op ws xs nums)) = true)∧T5 ((True∧((applyV op ws xs [k,w]) == (applyV op ws xs [k,w])) = true)∧T5 ((True∧((applyE op ws xs [k,w]) == (applyE op ws xs [k,w])) = true)∧T4 (callOb Try.prog 14 (yv0 op v wi ws xs nums k w l) [(i6 wi)] none false (i6 (maskF wi))∧T2 (callOb Try.prog 15 (yv0 op v wi ws xs nums k w l) [(i6 wi)] none false (i6 (maskF wi))∧(True∧((maskF wi) == (maskF wi)) = true)∧T6 (callOb Try.prog 17 (yv0 op v wi ws xs nums k w l) [(i6 v),(i6 wi)] none true (LB (splitF v wi))∧T4 (callOb Try.prog 18 (yv0 op v wi ws xs nums k w l) [(i6 v),(i6 wi)] none true (LB (splitF v wi))∧callOb Try.prog 16 (yv0 op v wi ws xs nums k w l) [(LB (splitF v wi)),(LB (splitF v wi))] none false (dB (decide ((splitF v wi) = (splitF v wi))))∧(True∧(decide ((splitF v wi) = (splitF v wi))) = true)∧T3 (callOb Try.prog 19 (yv0 op v wi ws xs nums k w l) [(LB l)] none false (i6 ((joinN l (min l.length 62) : Nat) : Int))∧T2 (callOb Try.prog 20 (yv0 op v wi ws xs nums k w l) [(LB l)] none false (i6 ((joinN l (min l.length 62) : Nat) : Int))∧(True∧(((joinN l (min l.length 62) : Nat) : Int) == ((joinN l (min l.length 62) : Nat) : Int)) = true)∧T5 True)))))))))))))∧True) (by kernel_rfl) (by kernel_rfl)
      ⟨⟨oK,oK,oK,⟨oK,(by simp)⟩,oK,oK,oK,oK,⟨oK,(by simp)⟩,oK,oK,oK,oK,oK,⟨oK,(by simp)⟩,oK,oK,oK,oK,oK,⟨oK,(by simp)⟩,oK,oK,oK,oK,oK,⟨oK,(by simp)⟩,oK,oK,oK,oK,oK,⟨oK,(by simp)⟩,oK,oK,oK,oK,(mask_ok _),oK,oK,(rmask_ok _),⟨oK,(by simp)⟩,oK,oK,oK,oK,oK,oK,(split_ok _ _),oK,oK,oK,oK,(rsplit_ok _ _),(bools_ok _ _ (by first | omega | exact splitF_len _ _ | (simp; done)) (by first | omega | exact splitF_len _ _ | (simp; done))),⟨oK,(by exact decide_eq_true rfl)⟩,oK,oK,oK,(join_ok _ (by first | omega | exact splitF_len _ _ | (simp; done))),oK,oK,(rjoin_ok _ (by first | omega | exact splitF_len _ _ | (simp; done))),⟨oK,(by simp)⟩,oK,oK,oK,oK,oK,oK⟩,oK⟩ ?_
    refine Ev.ret ?_
    refine ⟨⟨oK,oK⟩,(?_ : true = true),.inr trivial⟩
    rfl

end Go.Proofs.Ytaghhicmnalmmaa
