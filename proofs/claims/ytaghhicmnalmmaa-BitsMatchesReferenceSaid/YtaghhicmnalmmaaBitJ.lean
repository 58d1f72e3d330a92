/-
  Split, Join, examples.
-/
import Derived.Test.YtaghhicmnalmmaaBitI
namespace Go.Proofs.Ytaghhicmnalmmaa
open Go.RowKit
set_option linter.unusedVariables false
set_option linter.unusedSimpArgs false
abbrev yj9 : D := (.ptr 4 0 0 0)
abbrev yj8 : D := (.ptr 3 0 0 0)
abbrev yj0 : D := (.fn (.func 39) [] [yj9,yj8])
abbrev yj6 (m : Nat) : D := (i6 ((m : Nat) : Int))
abbrev yj4 : D := (.ptr 1 0 0 0)
abbrev yj1 (m : Nat) (v : Int) : List (Nat × D) := [(16,(yj6 m)),(15,(i6 v)),(0,(i6 v)),(1,(yj6 m)),(4,.nils),(5,yj4)]
abbrev yj2 : Box := (.var 24 [(.own 0)])
abbrev yj7 : Box := (.arr 3 1 (encI .i64) 0 [2,3])
abbrev yj10 : Box := (.arr 3 1 (encI .i64) 0 [5,4])
abbrev yj3 : List Box := [yj7,yj10,(.arr 4 1 encB false [false,true,true,false]),(.arr 4 1 encB false [true,false,true])]
abbrev yj5 (v : Int) : Box := (.arr 4 1 encB false (splitN v 0))

set_option maxRecDepth 100000 in
theorem split_good (v : Int) (m : Nat) (hm : m ≤ 62) : CallOk Try.prog 17 [(i6 v),(yj6 m)] [] true (LB (splitN v m)) [] := by
  refine CallOk.of_ev Try.func17 rfl rfl rfl ?_
  rintro ⟨_,W,S0,_,susp,_⟩ rfl rfl rfl
  refine Ev.seq ?_
  refine Ev.reg [] [0,1,4] (st' := ⟨[(0,(i6 v)),(1,(yj6 m)),(4,.nils)],[]⟩)
    (p := True∧True) (by kernel_rfl)
    ⟨oK,oK⟩ ?_
  refine Ev.seq ?_
  refine Ev.seq ?_
  refine Ev.reg [(1,.val (dB false)),(4,.val (dB false))] [0,1,4,12] (st' := ⟨[(0,(i6 v)),(1,(yj6 m)),(4,.nils),(12,(dB false))],[]⟩)
    (p := True∧(True∧(decide (((m : Nat) : Int) < 0)) = false)∧T2 ((True∧(decide (((m : Nat) : Int) > 62)) = false)∧True∧True)) (by kernel_rfl)
    ⟨oK,⟨oK,(by first | (simp; done) | (simp; omega))⟩,oK,oK,⟨oK,(by first | (simp; done) | (simp; omega))⟩,oK,oK⟩ ?_
  refine Ev.cond false rfl (fun h => (by cases h)) (fun _ => ?_)
  refine Ev.skip ?_
  refine Ev.seq ?_
  refine Ev.reg [(1,.box 4 1 encB false (splitN v 0))] [0,1,4,5] (st' := ⟨[(0,(i6 v)),(1,(yj6 m)),(4,.nils),(5,yj4)],[(yj5 v),yj2]⟩)
    (p := True∧(((0 : Int) ≤ 0∧(0 : Int) ≤ ((m : Nat) : Int)∧((m : Nat) : Int) ≤ 137438953472)∧(splitN v 0).length = 0∧∀ x ∈ (splitN v 0),eqRow [(dB false)] (encB x))∧True∧True∧True) (by kernel_rfl)
    ⟨oK,⟨by omega,by simp [splitN],by simp [splitN]⟩,oK,oK,oK⟩ ?_
  refine Ev.seq ?_
  refine Ev.seq ?_
  have hinl1 : ∀ tm1 : Array Value,InlOk Try.prog 31 [(i6 v),(yj6 m)] [(yj5 v),yj2,(.frame tm1 (yj1 m v))] yj0 [(yj5 v),yj2,(.frame tm1 (yj1 m v)),(.var 3 [(i6 v)]),(.var 3 [(yj6 m)])] := by
    intro tm1
    refine ⟨_,_,Try.func31,rfl,rfl,?_⟩
    rintro ⟨_,W1,S1,_,susp1,_⟩ rfl rfl rfl
    refine Ev.seq ?_
    refine Ev.reg [] [2,3] (st' := ⟨[(2,yj8),(3,yj9)],[(yj5 v),yj2,(.frame tm1 (yj1 m v)),(.var 3 [(i6 v)]),(.var 3 [(yj6 m)])]⟩)
      (p := T3 True) (by kernel_rfl)
      ⟨oK,oK,oK,oK⟩ ?_
    refine Ev.seq ?_
    refine Ev.reg [] [4] (st' := ⟨[(4,yj0)],[(yj5 v),yj2,(.frame tm1 (yj1 m v)),(.var 3 [(i6 v)]),(.var 3 [(yj6 m)])]⟩)
      (p := T2 True) (by kernel_rfl)
      ⟨oK,oK,oK⟩ ?_
    refine Ev.ret ?_
    refine ⟨⟨oK,oK⟩,(rfl : (yj0 : D) = yj0),by kernel_rfl⟩
  refine Ev.reg [(2,.inl yj0 (yj1 m v) [(yj5 v),yj2,.dead,(.var 3 [(i6 v)]),(.var 3 [(yj6 m)])])] [4,5,17] (st' := ⟨[(4,.nils),(5,yj4),(17,yj0)],[(yj5 v),yj2,.dead,(.var 3 [(i6 v)]),(.var 3 [(yj6 m)])]⟩)
    (p := True∧True∧(∀ tm1 : Array Value,InlOk Try.prog 31 [(i6 v),(yj6 m)] [(yj5 v),yj2,(.frame tm1 (yj1 m v))] yj0 [(yj5 v),yj2,(.frame tm1 (yj1 m v)),(.var 3 [(i6 v)]),(.var 3 [(yj6 m)])])∧True) (by kernel_rfl)
    ⟨oK,oK,hinl1,oK⟩ ?_
  refine Ev.block ?_
  refine Ev.range (gid := 39) (first := []) (cap := [yj9,yj8]) rfl (by kernel_rfl) Try.func39 rfl rfl rfl rfl (by kernel_rfl) (by kernel_rfl) ?_
  rintro ⟨_,W2,S2,_,susp2,_⟩ l2 tm2 asg2 bd2 hasg2 hbd2 rfl rfl rfl
  refine Ev.keep [0,1,2] 6 (st' := ⟨[(0,(.yld 5)),(1,yj9),(2,yj8)],[(yj5 v),yj2,.dead,(.var 3 [(i6 v)]),(.var 3 [(yj6 m)]),(.loop l2 tm2 24 [(4,.nils),(5,yj4),(17,yj0)] [18] asg2 bd2 .ready none)]⟩) (by kernel_rfl) ?_
  refine Ev.block ?_
  refine Ev.loop [0,1,2] 6 (fun (k : Nat) => ⟨[(0,(.yld 5)),(1,yj9),(2,yj8)],[(.arr 4 1 encB false (splitN v k)),yj2,.dead,(.var 3 [(i6 (shrF v k))]),(.var 3 [(i6 ((m - k : Nat) : Int))]),(.loop l2 tm2 24 [(4,.nils),(5,yj4),(17,yj0)] [18] asg2 bd2 .ready none)]⟩) (fun (k : Nat) => k ≤ m) (fun (k : Nat) => m - k) 0 (by kernel_rfl) (by omega) ?_
  rintro k hinv
  have hinv : k ≤ m := hinv
  have hk := hinv
  refine Ev.seq ?_
  refine Ev.seq ?_
  rcases Nat.lt_or_ge k m with hkm | hkm
  · skip
    have hyld3 : ∀ tm3 : Array Value,YieldOk Try.prog l2 24 asg2 bd2 ⟨[(18,(dB ((shrF v k % 2) == 1))),(4,.nils),(5,yj4),(17,yj0)],[(.arr 4 1 encB false (splitN v k)),yj2,.dead,(.var 3 [(i6 (shrF v k))]),(.var 3 [(i6 ((m - k : Nat) : Int))]),(.loop l2 tm2 24 [(4,.nils),(5,yj4),(17,yj0)] [18] asg2 bd2 .ready none),(.frame tm3 [(10,(dB ((shrF v k % 2) == 1))),(9,(i6 (shrF v k % 2))),(8,(i6 (shrF v k))),(7,(.yld 5)),(6,(dB true)),(5,(dB true)),(4,(i6 ((m - k : Nat) : Int))),(0,(.yld 5)),(1,yj9),(2,yj8)])]⟩ 5 true [(.arr 4 1 encB false (splitN v (k + 1))),yj2,.dead,(.var 3 [(i6 (shrF v k))]),(.var 3 [(i6 ((m - k : Nat) : Int))]),(.loop l2 tm2 24 [(4,.nils),(5,yj4),(17,yj0)] [18] asg2 bd2 .ready none),(.frame tm3 [(10,(dB ((shrF v k % 2) == 1))),(9,(i6 (shrF v k % 2))),(8,(i6 (shrF v k))),(7,(.yld 5)),(6,(dB true)),(5,(dB true)),(4,(i6 ((m - k : Nat) : Int))),(0,(.yld 5)),(1,yj9),(2,yj8)])] := by
      intro tm3
      rintro ⟨_,W3,S3,_,susp3,_⟩ rfl rfl rfl
      refine Ev.named hasg2 ?_
      refine Ev.reg [] [5,6] (st' := ⟨[(5,yj4),(6,(dB ((shrF v k % 2) == 1)))],[(.arr 4 1 encB false (splitN v k)),yj2,.dead,(.var 3 [(i6 (shrF v k))]),(.var 3 [(i6 ((m - k : Nat) : Int))]),(.loop l2 tm2 24 [(4,.nils),(5,yj4),(17,yj0)] [18] asg2 bd2 .ready none),(.frame tm3 [(10,(dB ((shrF v k % 2) == 1))),(9,(i6 (shrF v k % 2))),(8,(i6 (shrF v k))),(7,(.yld 5)),(6,(dB true)),(5,(dB true)),(4,(i6 ((m - k : Nat) : Int))),(0,(.yld 5)),(1,yj9),(2,yj8)])]⟩)
        (p := True∧True) (by kernel_rfl)
        ⟨oK,oK⟩ ?_
      refine beginQ.of (tm := tm2) (nt := 24) (env := [(4,.nils),(5,yj4),(17,yj0)]) (ps := [18]) (asg := asg2) (bd := bd2) (st' := ⟨[(5,yj4),(6,(dB ((shrF v k % 2) == 1)))],[(.arr 4 1 encB false (splitN v k)),yj2,.dead,(.var 3 [(i6 (shrF v k))]),(.var 3 [(i6 ((m - k : Nat) : Int))]),(.loop l2 tm2 24 [(4,.nils),(5,yj4),(17,yj0)] [18] asg2 bd2 .busy none),(.frame tm3 [(10,(dB ((shrF v k % 2) == 1))),(9,(i6 (shrF v k % 2))),(8,(i6 (shrF v k))),(7,(.yld 5)),(6,(dB true)),(5,(dB true)),(4,(i6 ((m - k : Nat) : Int))),(0,(.yld 5)),(1,yj9),(2,yj8)])]⟩) (by kernel_rfl) (by kernel_rfl) ?_
      refine Ev.named hbd2 ?_
      refine Ev.block ?_
      refine Ev.reg [(2,.box 4 1 encB false [(shrF v k % 2) == 1]),(3,.box 4 1 encB false (splitN v (k + 1)))] [] (st' := ⟨[],[(.arr 4 1 encB false (splitN v (k + 1))),yj2,.dead,(.var 3 [(i6 (shrF v k))]),(.var 3 [(i6 ((m - k : Nat) : Int))]),(.loop l2 tm2 24 [(4,.nils),(5,yj4),(17,yj0)] [18] asg2 bd2 .busy none),(.frame tm3 [(10,(dB ((shrF v k % 2) == 1))),(9,(i6 (shrF v k % 2))),(8,(i6 (shrF v k))),(7,(.yld 5)),(6,(dB true)),(5,(dB true)),(4,(i6 ((m - k : Nat) : Int))),(0,(.yld 5)),(1,yj9),(2,yj8)]),(.arr 4 1 encB false [(shrF v k % 2) == 1])]⟩)
        (p := T2 (eqRows [[(dB ((shrF v k % 2) == 1))]] ([(shrF v k % 2) == 1].map encB)∧((splitN v k).length + ([(shrF v k % 2) == 1].map encB).length ≤ 137438953472∧(splitN v k).map encB ++ [(shrF v k % 2) == 1].map encB = (splitN v (k + 1)).map encB)∧True∧True)) (by kernel_rfl)
        ⟨oK,oK,⟨⟨rfl,oK⟩,oK⟩,⟨by simp only [List.length_map,List.length_cons,List.length_nil]; rw [splitN_len]; omega,by rw [splitN_succ,List.map_append]⟩,oK,oK⟩ ?_
      show roundQ _ _ _ _ _ _
      refine roundQ.of (env := [(4,.nils),(5,yj4),(17,yj0)]) (ps := [18]) (asg := asg2) (bd := bd2) (tm := tm2) (nt := 24) (s := .busy) (p := none) (by kernel_rfl) rfl (by kernel_rfl)
    refine Ev.reg [(1,.val (dB true)),(5,.val (i6 (shrF v k % 2))),(7,.yld true [(10,(dB ((shrF v k % 2) == 1))),(9,(i6 (shrF v k % 2))),(8,(i6 (shrF v k))),(7,(.yld 5)),(6,(dB true)),(5,(dB true)),(4,(i6 ((m - k : Nat) : Int))),(0,(.yld 5)),(1,yj9),(2,yj8)] [(.arr 4 1 encB false (splitN v (k + 1))),yj2,.dead,(.var 3 [(i6 (shrF v k))]),(.var 3 [(i6 ((m - k : Nat) : Int))]),(.loop l2 tm2 24 [(4,.nils),(5,yj4),(17,yj0)] [18] asg2 bd2 .ready none),.dead])] [0,1,2,12] (st' := ⟨[(0,(.yld 5)),(1,yj9),(2,yj8),(12,(dB true))],[(.arr 4 1 encB false (splitN v (k + 1))),yj2,.dead,(.var 3 [(i6 (shrF v k))]),(.var 3 [(i6 ((m - k : Nat) : Int))]),(.loop l2 tm2 24 [(4,.nils),(5,yj4),(17,yj0)] [18] asg2 bd2 .ready none),.dead]⟩)
      (p := True∧(True∧(decide (((m - k : Nat) : Int) > 0)) = true)∧True∧True∧True∧(True∧(IntKind.wrap .i64 (BitVec.ofInt (IntKind.i64).bits (shrF v k) &&& BitVec.ofInt (IntKind.i64).bits 1).toNat) = (shrF v k % 2))∧True∧(∀ tm3 : Array Value,YieldOk Try.prog l2 24 asg2 bd2 ⟨[(18,(dB ((shrF v k % 2) == 1))),(4,.nils),(5,yj4),(17,yj0)],[(.arr 4 1 encB false (splitN v k)),yj2,.dead,(.var 3 [(i6 (shrF v k))]),(.var 3 [(i6 ((m - k : Nat) : Int))]),(.loop l2 tm2 24 [(4,.nils),(5,yj4),(17,yj0)] [18] asg2 bd2 .ready none),(.frame tm3 [(10,(dB ((shrF v k % 2) == 1))),(9,(i6 (shrF v k % 2))),(8,(i6 (shrF v k))),(7,(.yld 5)),(6,(dB true)),(5,(dB true)),(4,(i6 ((m - k : Nat) : Int))),(0,(.yld 5)),(1,yj9),(2,yj8)])]⟩ 5 true [(.arr 4 1 encB false (splitN v (k + 1))),yj2,.dead,(.var 3 [(i6 (shrF v k))]),(.var 3 [(i6 ((m - k : Nat) : Int))]),(.loop l2 tm2 24 [(4,.nils),(5,yj4),(17,yj0)] [18] asg2 bd2 .ready none),(.frame tm3 [(10,(dB ((shrF v k % 2) == 1))),(9,(i6 (shrF v k % 2))),(8,(i6 (shrF v k))),(7,(.yld 5)),(6,(dB true)),(5,(dB true)),(4,(i6 ((m - k : Nat) : Int))),(0,(.yld 5)),(1,yj9),(2,yj8)])])∧True∧True) (by kernel_rfl)
      ⟨oK,⟨oK,(by simp; omega)⟩,oK,oK,oK,⟨oK,(and_one _)⟩,oK,hyld3,oK,oK⟩ ?_
    refine Ev.cond true rfl (fun _ => ?_) (fun h => (by cases h))
    refine Ev.skip ?_
    refine Ev.seq ?_
    refine Ev.block ?_
    refine Ev.reg [(1,.val (i6 (shrF v (k + 1))))] [0,1,2] (st' := ⟨[(0,(.yld 5)),(1,yj9),(2,yj8)],[(.arr 4 1 encB false (splitN v (k + 1))),yj2,.dead,(.var 3 [(i6 (shrF v (k + 1)))]),(.var 3 [(i6 ((m - k : Nat) : Int))]),(.loop l2 tm2 24 [(4,.nils),(5,yj4),(17,yj0)] [18] asg2 bd2 .ready none),.dead]⟩)
      (p := True∧(0 ≤ (1 : Int)∧(Int.fdiv (shrF v k) (2 ^ min 1 64)) = (shrF v (k + 1)))∧True∧True) (by kernel_rfl)
      ⟨oK,⟨(by omega),(shr_one _)⟩,oK,oK⟩ ?_
    refine Ev.reg [(1,.val (i6 ((m - (k + 1) : Nat) : Int)))] [0,1,2] (st' := ⟨[(0,(.yld 5)),(1,yj9),(2,yj8)],[(.arr 4 1 encB false (splitN v (k + 1))),yj2,.dead,(.var 3 [(i6 (shrF v (k + 1)))]),(.var 3 [(i6 ((m - (k + 1) : Nat) : Int))]),(.loop l2 tm2 24 [(4,.nils),(5,yj4),(17,yj0)] [18] asg2 bd2 .ready none),.dead]⟩)
      (p := True∧(True∧(IntKind.wrap .i64 (((m - k : Nat) : Int) - 1)) = ((m - (k + 1) : Nat) : Int))∧True∧True) (by kernel_rfl)
      ⟨oK,⟨oK,(w64n (by omega) (by omega))⟩,oK,oK⟩ ?_
    refine ⟨k + 1,by kernel_rfl,(?_ : (k + 1) ≤ m),(?_ : m - (k + 1) < m - k)⟩
    · omega
    · omega
  · skip
    refine Ev.reg [(1,.val (dB false))] [0,1,2,12] (st' := ⟨[(0,(.yld 5)),(1,yj9),(2,yj8),(12,(dB false))],[(.arr 4 1 encB false (splitN v k)),yj2,.dead,(.var 3 [(i6 (shrF v k))]),(.var 3 [(i6 ((m - k : Nat) : Int))]),(.loop l2 tm2 24 [(4,.nils),(5,yj4),(17,yj0)] [18] asg2 bd2 .ready none)]⟩)
      (p := True∧(True∧(decide (((m - k : Nat) : Int) > 0)) = false)∧T7 True) (by kernel_rfl)
      ⟨oK,⟨oK,(by simp; omega)⟩,oK,oK,oK,oK,oK,oK,oK,oK⟩ ?_
    refine Ev.cond false rfl (fun h => (by cases h)) (fun _ => ?_)
    refine Ev.exit ?_
    repeat (first | refine thenQ_exit ?_ | refine blockQ_exit ?_ | refine blockQ_normal ?_)
    show rangeQ _ _ _ _ _ _ _
    refine rangeQ.of (env := [(4,.nils),(5,yj4),(17,yj0)]) (ps := [18]) (asg := asg2) (bd := bd2) (s := .ready) (p := none) (e' := .normal) (st' := ⟨[(4,.nils),(5,yj4),(17,yj0)],[(.arr 4 1 encB false (splitN v k)),yj2,.dead,(.var 3 [(i6 (shrF v k))]),(.var 3 [(i6 ((m - k : Nat) : Int))]),.dead]⟩) (.inl rfl) (by kernel_rfl) rfl rfl (by kernel_rfl) ?_
    refine Ev.seq ?_
    refine Ev.reg [] [4] (st' := ⟨[(4,(.own 0))],[(.arr 4 1 encB false (splitN v k)),yj2,.dead,(.var 3 [(i6 (shrF v k))]),(.var 3 [(i6 ((m - k : Nat) : Int))]),.dead]⟩)
      (p := T2 True) (by kernel_rfl)
      ⟨oK,oK,oK⟩ ?_
    refine Ev.ret ?_
    refine ⟨⟨oK,oK⟩,(?_ : (splitN v k).map encB = (splitN v m).map encB),.inl rfl⟩
    have hkm2 : k = m := by omega
    rw [hkm2]

set_option maxRecDepth 100000 in
theorem split_bad (v w : Int) (hw : w < 0 ∨ 62 < w) : CallOk Try.prog 17 [(i6 v),(i6 w)] [] true (LB ([] : List Bool)) [] := by
  refine CallOk.of_ev Try.func17 rfl rfl rfl ?_
  rintro ⟨_,W,S0,_,susp,_⟩ rfl rfl rfl
  refine Ev.seq ?_
  refine Ev.reg [] [0,1,4] (st' := ⟨[(0,(i6 v)),(1,(i6 w)),(4,.nils)],[]⟩)
    (p := True∧True) (by kernel_rfl)
    ⟨oK,oK⟩ ?_
  refine Ev.seq ?_
  refine Ev.seq ?_
  rcases (show w < 0 ∨ (0 ≤ w∧62 < w) from by omega) with h | h
  · skip
    refine Ev.reg [(1,.val (dB true))] [0,1,4,12] (st' := ⟨[(0,(i6 v)),(1,(i6 w)),(4,.nils),(12,(dB true))],[]⟩)
      (p := True∧(True∧(decide (w < 0)) = true)∧T4 True) (by kernel_rfl)
      ⟨oK,⟨oK,(by first | (simp; done) | (simp; omega))⟩,oK,oK,oK,oK,oK⟩ ?_
    refine Ev.cond true rfl (fun _ => ?_) (fun h => (by cases h))
    refine Ev.seq ?_
    refine Ev.reg [] [4] (st' := ⟨[(4,.nils)],[]⟩)
      (p := True∧True) (by kernel_rfl)
      ⟨oK,oK⟩ ?_
    refine Ev.ret ?_
    refine ⟨⟨oK,oK⟩,(?_ : ([] : List Bool) = []),.inl rfl⟩
    rfl
  · skip
    refine Ev.reg [(1,.val (dB false)),(4,.val (dB true))] [0,1,4,12] (st' := ⟨[(0,(i6 v)),(1,(i6 w)),(4,.nils),(12,(dB true))],[]⟩)
      (p := True∧(True∧(decide (w < 0)) = false)∧T2 ((True∧(decide (w > 62)) = true)∧True∧True)) (by kernel_rfl)
      ⟨oK,⟨oK,(by first | (simp; done) | (simp; omega))⟩,oK,oK,⟨oK,(by first | (simp; done) | (simp; omega))⟩,oK,oK⟩ ?_
    refine Ev.cond true rfl (fun _ => ?_) (fun h => (by cases h))
    refine Ev.seq ?_
    refine Ev.reg [] [4] (st' := ⟨[(4,.nils)],[]⟩)
      (p := True∧True) (by kernel_rfl)
      ⟨oK,oK⟩ ?_
    refine Ev.ret ?_
    refine ⟨⟨oK,oK⟩,(?_ : ([] : List Bool) = []),.inl rfl⟩
    rfl

theorem split_ok (v w : Int) : CallOk Try.prog 17 [dI .i64 v,dI .i64 w] [] true (dL 1 encB false (splitF v w)) [] := by
  by_cases h : w < 0 ∨ 62 < w
  · rw [show splitF v w = [] from if_pos h]
    exact split_bad v w h
  · obtain ⟨m,rfl⟩ := Int.eq_ofNat_of_zero_le (a := w) (by omega)
    rw [show splitF v (m : Int) = splitN v m from if_neg h]
    exact split_good v m (by omega)

set_option maxRecDepth 100000 in
theorem join_ok (l : List Bool) (hl : l.length ≤ 9223372036854775807) : CallOk Try.prog 19 [(LB l)] [] false (i6 ((joinN l (min l.length 62) : Nat) : Int)) [] := by
  refine CallOk.of_ev Try.func19 rfl rfl rfl ?_
  rintro ⟨_,W,S0,_,susp,_⟩ rfl rfl rfl
  refine Ev.seq ?_
  refine Ev.reg [] [0] (st' := ⟨[(0,(LB l))],[]⟩)
    (p := True∧True) (by kernel_rfl)
    ⟨oK,oK⟩ ?_
  refine Ev.seq ?_
  refine Ev.reg [] [0,3] (st' := ⟨[(0,(LB l)),(3,(i6 0))],[]⟩)
    (p := True∧True) (by kernel_rfl)
    ⟨oK,oK⟩ ?_
  refine Ev.seq ?_
  refine Ev.seq ?_
  refine Ev.reg [(3,.val (i6 ((min l.length 62 : Nat) : Int))),(4,.val (LB (l.take (min l.length 62)))),(5,.val (i6 ((min l.length 62 : Nat) : Int)))] [3,10,11,12] (st' := ⟨[(3,(i6 0)),(10,(LB (l.take (min l.length 62)))),(11,(i6 ((min l.length 62 : Nat) : Int))),(12,(i6 0))],[]⟩)
    (p := T3 ((True∧(minI ((l.length : Nat) : Int) 62) = ((min l.length 62 : Nat) : Int))∧((0 ≤ (0 : Int)∧(0 : Int) ≤ ((min l.length 62 : Nat) : Int)∧((min l.length 62 : Nat) : Int) ≤ (l.length : Int))∧((l.take (min l.length 62)).drop 0).map encB = (l.take (min l.length 62)).map encB)∧(True∧(((l.take (min l.length 62)).length : Nat) : Int) = ((min l.length 62 : Nat) : Int))∧True∧True)) (by kernel_rfl)
    ⟨oK,oK,oK,⟨oK,(by unfold minI; split <;> omega)⟩,⟨(by omega),(by rw [List.drop_zero])⟩,⟨oK,(by rw [List.length_take]; congr 1; omega)⟩,oK,oK⟩ ?_
  refine Ev.block ?_
  refine Ev.loop [3,10,11,12] 0 (fun (k : Nat) => ⟨[(3,(i6 ((joinN l k : Nat) : Int))),(10,(LB (l.take (min l.length 62)))),(11,(i6 ((min l.length 62 : Nat) : Int))),(12,(i6 ((k : Nat) : Int)))],[]⟩) (fun (k : Nat) => k ≤ min l.length 62) (fun (k : Nat) => min l.length 62 - k) 0 (by kernel_rfl) (by omega) ?_
  rintro k hinv
  have hinv : k ≤ min l.length 62 := hinv
  have hk := hinv
  refine Ev.seq ?_
  refine Ev.reg [] [3,10,11,12,13] (st' := ⟨[(3,(i6 ((joinN l k : Nat) : Int))),(10,(LB (l.take (min l.length 62)))),(11,(i6 ((min l.length 62 : Nat) : Int))),(12,(i6 ((k : Nat) : Int))),(13,(dB (decide (((k : Nat) : Int) < ((min l.length 62 : Nat) : Int)))))],[]⟩)
    (p := True∧True) (by kernel_rfl)
    ⟨oK,oK⟩ ?_
  refine Ev.seq ?_
  refine Ev.cond _ rfl (fun hc13 => ?_) (fun hc13 => ?_)
  · try simp only [decide_eq_true_eq,decide_eq_false_iff_not,beq_iff_eq,bne_iff_ne,ne_eq,beq_eq_false_iff_ne,bne_eq_false_iff_eq,Bool.not_eq_true,Bool.not_eq_false,Bool.not_eq_true',Bool.not_eq_false',Bool.not_not,gt_iff_lt,ge_iff_le,Nat.not_lt,Int.not_lt,Int.not_le] at hc13
    refine Ev.skip ?_
    refine Ev.seq ?_
    refine Ev.block ?_
    refine Ev.seq ?_
    refine Ev.reg [(2,.val (dB (l.getD k false)))] [3,4,5,10,11,12] (st' := ⟨[(3,(i6 ((joinN l k : Nat) : Int))),(4,(i6 ((k : Nat) : Int))),(5,(dB (l.getD k false))),(10,(LB (l.take (min l.length 62)))),(11,(i6 ((min l.length 62 : Nat) : Int))),(12,(i6 ((k : Nat) : Int)))],[]⟩)
      (p := True∧(0 ≤ ((k : Nat) : Int)∧((k : Nat) : Int) < ((l.take (min l.length 62)).length : Int))∧(True∧((l.take (min l.length 62)).getD k false) = (l.getD k false))∧T2 True) (by kernel_rfl)
      ⟨oK,(by rw [List.length_take]; omega),⟨oK,(getD_takeB (by omega))⟩,oK,oK,oK⟩ ?_
    refine Ev.reg [(2,.call none false (i6 (if (l.getD k false) = true then 1 else 0))),(5,.val (i6 ((joinN l (k + 1) : Nat) : Int)))] [3,10,11,12] (st' := ⟨[(3,(i6 ((joinN l (k + 1) : Nat) : Int))),(10,(LB (l.take (min l.length 62)))),(11,(i6 ((min l.length 62 : Nat) : Int))),(12,(i6 ((k : Nat) : Int)))],[]⟩)
      (p := T2 (callOb Try.prog 32 [] [(dB (l.getD k false))] none false (i6 (if (l.getD k false) = true then 1 else 0))∧True∧0 ≤ ((k : Nat) : Int)∧(True∧(IntKind.wrap .i64 (BitVec.ofInt (IntKind.i64).bits ((joinN l k : Nat) : Int) ||| BitVec.ofInt (IntKind.i64).bits (IntKind.wrap .i64 ((if (l.getD k false) = true then 1 else 0) * 2 ^ min k 64))).toNat) = ((joinN l (k + 1) : Nat) : Int))∧True∧True)) (by kernel_rfl)
      ⟨oK,oK,(bit_ok _),oK,(by omega),⟨oK,(join_step (by omega))⟩,oK,oK⟩ ?_
    refine Ev.reg [(0,.val (i6 ((k + 1 : Nat) : Int)))] [3,10,11,12] (st' := ⟨[(3,(i6 ((joinN l (k + 1) : Nat) : Int))),(10,(LB (l.take (min l.length 62)))),(11,(i6 ((min l.length 62 : Nat) : Int))),(12,(i6 ((k + 1 : Nat) : Int)))],[]⟩)
      (p := (True∧(IntKind.wrap .i64 (((k : Nat) : Int) + 1)) = ((k + 1 : Nat) : Int))∧True∧True) (by kernel_rfl)
      ⟨⟨oK,(w64n (by first | rfl | simp | omega) (by first | omega | (simp; first | done | omega)))⟩,oK,oK⟩ ?_
    refine ⟨k + 1,by kernel_rfl,(?_ : (k + 1) ≤ min l.length 62),(?_ : min l.length 62 - (k + 1) < min l.length 62 - k)⟩
    · omega
    · omega
  · try simp only [decide_eq_true_eq,decide_eq_false_iff_not,beq_iff_eq,bne_iff_ne,ne_eq,beq_eq_false_iff_ne,bne_eq_false_iff_eq,Bool.not_eq_true,Bool.not_eq_false,Bool.not_eq_true',Bool.not_eq_false',Bool.not_not,gt_iff_lt,ge_iff_le,Nat.not_lt,Int.not_lt,Int.not_le] at hc13
    refine Ev.exit ?_
    refine Ev.seq ?_
    refine Ev.reg [] [2] (st' := ⟨[(2,(i6 ((joinN l k : Nat) : Int)))],[]⟩)
      (p := T2 True) (by kernel_rfl)
      ⟨oK,oK,oK⟩ ?_
    refine Ev.ret ?_
    refine ⟨⟨oK,oK⟩,(?_ : ((joinN l k : Nat) : Int) = ((joinN l (min l.length 62) : Nat) : Int)),.inr trivial⟩
    have hke : k = min l.length 62 := by omega
    rw [hke]

set_option maxRecDepth 100000 in
theorem bools_ok (a b : List Bool) (ha : a.length ≤ 9223372036854775807) (hb : b.length ≤ 9223372036854775807) : CallOk Try.prog 16 [(LB a),(LB b)] [] false (dB (decide (a = b))) [] := by
  refine CallOk.of_ev Try.func16 rfl rfl rfl ?_
  rintro ⟨_,W,S0,_,susp,_⟩ rfl rfl rfl
  refine Ev.seq ?_
  refine Ev.reg [] [0,1] (st' := ⟨[(0,(LB a)),(1,(LB b))],[]⟩)
    (p := True∧True) (by kernel_rfl)
    ⟨oK,oK⟩ ?_
  refine Ev.seq ?_
  refine Ev.seq ?_
  refine Ev.reg [] [0,1,10] (st' := ⟨[(0,(LB a)),(1,(LB b)),(10,(dB (((a.length : Nat) : Int) != ((b.length : Nat) : Int))))],[]⟩)
    (p := T5 True) (by kernel_rfl)
    ⟨oK,oK,oK,oK,oK,oK⟩ ?_
  refine Ev.cond _ rfl (fun hc10 => ?_) (fun hc10 => ?_)
  · try simp only [decide_eq_true_eq,decide_eq_false_iff_not,beq_iff_eq,bne_iff_ne,ne_eq,beq_eq_false_iff_ne,bne_eq_false_iff_eq,Bool.not_eq_true,Bool.not_eq_false,Bool.not_eq_true',Bool.not_eq_false',Bool.not_not,gt_iff_lt,ge_iff_le,Nat.not_lt,Int.not_lt,Int.not_le] at hc10
    refine Ev.seq ?_
    refine Ev.reg [] [4] (st' := ⟨[(4,(dB false))],[]⟩)
      (p := True∧True) (by kernel_rfl)
      ⟨oK,oK⟩ ?_
    refine Ev.ret ?_
    refine ⟨⟨oK,oK⟩,(?_ : false = (decide (a = b))),.inr trivial⟩
    exact (decide_eq_false (fun e => by rw [e] at hc10; omega)).symm
  · try simp only [decide_eq_true_eq,decide_eq_false_iff_not,beq_iff_eq,bne_iff_ne,ne_eq,beq_eq_false_iff_ne,bne_eq_false_iff_eq,Bool.not_eq_true,Bool.not_eq_false,Bool.not_eq_true',Bool.not_eq_false',Bool.not_not,gt_iff_lt,ge_iff_le,Nat.not_lt,Int.not_lt,Int.not_le] at hc10
    refine Ev.skip ?_
    refine Ev.seq ?_
    refine Ev.seq ?_
    refine Ev.reg [] [0,1,5] (st' := ⟨[(0,(LB a)),(1,(LB b)),(5,(i6 0))],[]⟩)
      (p := True∧True) (by kernel_rfl)
      ⟨oK,oK⟩ ?_
    refine Ev.block ?_
    refine Ev.loop [0,1,5] 0 (fun (k : Nat) => ⟨[(0,(LB a)),(1,(LB b)),(5,(i6 ((k : Nat) : Int)))],[]⟩) (fun (k : Nat) => k ≤ a.length∧a.length = b.length∧a.take k = b.take k) (fun (k : Nat) => a.length - k) 0 (by kernel_rfl) (⟨by omega,by omega,by simp⟩) ?_
    rintro k hinv
    have hinv : k ≤ a.length∧a.length = b.length∧a.take k = b.take k := hinv
    obtain ⟨h1,h2,h3⟩ := hinv
    refine Ev.seq ?_
    refine Ev.seq ?_
    refine Ev.reg [] [0,1,5,14] (st' := ⟨[(0,(LB a)),(1,(LB b)),(5,(i6 ((k : Nat) : Int))),(14,(dB (decide (((k : Nat) : Int) < ((a.length : Nat) : Int)))))],[]⟩)
      (p := T4 True) (by kernel_rfl)
      ⟨oK,oK,oK,oK,oK⟩ ?_
    refine Ev.cond _ rfl (fun hc14 => ?_) (fun hc14 => ?_)
    · try simp only [decide_eq_true_eq,decide_eq_false_iff_not,beq_iff_eq,bne_iff_ne,ne_eq,beq_eq_false_iff_ne,bne_eq_false_iff_eq,Bool.not_eq_true,Bool.not_eq_false,Bool.not_eq_true',Bool.not_eq_false',Bool.not_not,gt_iff_lt,ge_iff_le,Nat.not_lt,Int.not_lt,Int.not_le] at hc14
      refine Ev.skip ?_
      refine Ev.seq ?_
      refine Ev.block ?_
      refine Ev.seq ?_
      refine Ev.draw 9 [false,false,false,false,false,false,false,false,false] [] [0,1,5,25] (st' := ⟨[(0,(LB a)),(1,(LB b)),(5,(i6 ((k : Nat) : Int))),(25,(dB (!((a.getD k false) == (b.getD k false)))))],[]⟩)
        (p := (T2 ((0 ≤ ((k : Nat) : Int)∧((k : Nat) : Int) < (a.length : Int))∧T3 ((0 ≤ ((k : Nat) : Int)∧((k : Nat) : Int) < (b.length : Int))∧T2 True)))∧True) (by kernel_rfl) (by kernel_rfl)
        ⟨⟨oK,oK,(by first | omega | (simp; first | done | omega)),oK,oK,oK,(by first | omega | (simp; first | done | omega)),oK,oK,oK⟩,oK⟩ ?_
      refine Ev.cond _ rfl (fun hc25 => ?_) (fun hc25 => ?_)
      · try simp only [decide_eq_true_eq,decide_eq_false_iff_not,beq_iff_eq,bne_iff_ne,ne_eq,beq_eq_false_iff_ne,bne_eq_false_iff_eq,Bool.not_eq_true,Bool.not_eq_false,Bool.not_eq_true',Bool.not_eq_false',Bool.not_not,gt_iff_lt,ge_iff_le,Nat.not_lt,Int.not_lt,Int.not_le] at hc25
        refine Ev.seq ?_
        refine Ev.reg [] [4] (st' := ⟨[(4,(dB false))],[]⟩)
          (p := True∧True) (by kernel_rfl)
          ⟨oK,oK⟩ ?_
        refine Ev.ret ?_
        refine ⟨⟨oK,oK⟩,(?_ : false = (decide (a = b))),.inr trivial⟩
        exact (decide_eq_false (same_ne (d := false) (k := k) (by simpa using hc25))).symm
      · try simp only [decide_eq_true_eq,decide_eq_false_iff_not,beq_iff_eq,bne_iff_ne,ne_eq,beq_eq_false_iff_ne,bne_eq_false_iff_eq,Bool.not_eq_true,Bool.not_eq_false,Bool.not_eq_true',Bool.not_eq_false',Bool.not_not,gt_iff_lt,ge_iff_le,Nat.not_lt,Int.not_lt,Int.not_le] at hc25
        refine Ev.skip ?_
        refine Ev.reg [(1,.val (i6 ((k + 1 : Nat) : Int)))] [0,1,5] (st' := ⟨[(0,(LB a)),(1,(LB b)),(5,(i6 ((k + 1 : Nat) : Int)))],[]⟩)
          (p := True∧(True∧(IntKind.wrap .i64 (((k : Nat) : Int) + 1)) = ((k + 1 : Nat) : Int))∧True∧True) (by kernel_rfl)
          ⟨oK,⟨oK,(w64n (by first | rfl | simp | omega) (by first | omega | (simp; first | done | omega)))⟩,oK,oK⟩ ?_
        refine ⟨k + 1,by kernel_rfl,(?_ : (k + 1) ≤ a.length∧a.length = b.length∧a.take (k + 1) = b.take (k + 1)),(?_ : a.length - (k + 1) < a.length - k)⟩
        · exact ⟨by omega,h2,same_step h2 (by omega) h3 (d := false) (by simpa using hc25)⟩
        · omega
    · try simp only [decide_eq_true_eq,decide_eq_false_iff_not,beq_iff_eq,bne_iff_ne,ne_eq,beq_eq_false_iff_ne,bne_eq_false_iff_eq,Bool.not_eq_true,Bool.not_eq_false,Bool.not_eq_true',Bool.not_eq_false',Bool.not_not,gt_iff_lt,ge_iff_le,Nat.not_lt,Int.not_lt,Int.not_le] at hc14
      refine Ev.exit ?_
      refine Ev.seq ?_
      refine Ev.reg [] [4] (st' := ⟨[(4,(dB true))],[]⟩)
        (p := True∧True) (by kernel_rfl)
        ⟨oK,oK⟩ ?_
      refine Ev.ret ?_
      refine ⟨⟨oK,oK⟩,(?_ : true = (decide (a = b))),.inr trivial⟩
      exact (decide_eq_true (same_end h2 (by omega) h3)).symm

set_option maxRecDepth 100000 in
theorem examples_ok  : CallOk Try.prog 9 [] [] false (dB true) [] := by
  refine CallOk.of_ev Try.func9 rfl rfl rfl ?_
  rintro ⟨_,W,S0,_,susp,_⟩ rfl rfl rfl
  refine Ev.seq ?_
  refine Ev.reg [] [] (st' := ⟨[],[]⟩)
    (p := True∧True) (by kernel_rfl)
    ⟨oK,oK⟩ ?_
  refine Ev.seq ?_
  refine Ev.seq ?_
  refine Ev.reg [(1,.call none false (i6 (appF 6 [4,4] [9,8]))),(2,.val (dB false)),(5,.call none false (i6 (appF 7 [4,4] [3,5]))),(6,.val (dB false)),(10,.call none false (i6 (appF 9 [4,4] [3,5]))),(11,.val (dB false)),(16,.call none false (i6 (appF 11 [2,3] [2,5]))),(17,.val (dB false)),(21,.call none false (i6 (sliF 21 5 3 2))),(22,.val (dB false)),(25,.call none false (i6 (extF 5 3 8))),(26,.val (dB false))] [32] (st' := ⟨[(32,(dB false))],[]⟩)
    (p := True∧callOb Try.prog 22 [] [(i6 6),(i6 4),(.agg [(i6 9),(i6 8)])] none false (i6 (appF 6 [4,4] [9,8]))∧(True∧((appF 6 [4,4] [9,8]) != 1) = false)∧T2 (callOb Try.prog 22 [] [(i6 7),(i6 4),(.agg [(i6 3),(i6 5)])] none false (i6 (appF 7 [4,4] [3,5]))∧(True∧((appF 7 [4,4] [3,5]) != 14) = false)∧T3 (callOb Try.prog 22 [] [(i6 9),(i6 4),(.agg [(i6 3),(i6 5)])] none false (i6 (appF 9 [4,4] [3,5]))∧(True∧((appF 9 [4,4] [3,5]) != 1) = false)∧T4 (callOb Try.prog 24 [] [(.agg [(i6 2),(i6 3)]),(.agg [(i6 2),(i6 5)])] none false (i6 (appF 11 [2,3] [2,5]))∧(True∧((appF 11 [2,3] [2,5]) != 21) = false)∧T3 (callOb Try.prog 25 [] [(i6 21),(i6 5),(.agg [(i6 3),(i6 2)])] none false (i6 (sliF 21 5 3 2))∧(True∧((sliF 21 5 3 2) != 2) = false)∧T2 (callOb Try.prog 26 [] [(i6 5),(i6 3),(i6 8)] none false (i6 (extF 5 3 8))∧(True∧((extF 5 3 8) != 5) = false)∧True∧True)))))) (by kernel_rfl)
    ⟨oK,(two_ok _ _ _ _),⟨oK,(by kernel_rfl)⟩,oK,oK,(two_ok _ _ _ _),⟨oK,(by kernel_rfl)⟩,oK,oK,oK,(two_ok _ _ _ _),⟨oK,(by kernel_rfl)⟩,oK,oK,oK,oK,(cat_law _ _ _ _),⟨oK,(by kernel_rfl)⟩,oK,oK,oK,(slice_law _ _ _ _),⟨oK,(by kernel_rfl)⟩,oK,oK,(ext_law _ _ _),⟨oK,(by kernel_rfl)⟩,oK,oK⟩ ?_
  refine Ev.cond false rfl (fun h => (by cases h)) (fun _ => ?_)
  refine Ev.skip ?_
  refine Ev.seq ?_
  refine Ev.reg [(0,.box 3 1 (encI .i64) 0 [2,3]),(2,.call (some [(i6 11),(LI [2,3]),(.agg [(i6 0),(i6 0)])]) false (.tup [(i6 (widthV 11 [2,3] 0 0)),(i6 (widthE 11 [2,3] 0 0))]))] [1,2] (st' := ⟨[(1,(i6 (widthV 11 [2,3] 0 0))),(2,(i6 (widthE 11 [2,3] 0 0)))],[yj7]⟩)
    (p := eqRows [[(i6 2)],[(i6 3)]] ([2,3].map (encI .i64))∧True∧callOb Try.prog 10 [yj7] [(i6 11),(.own 0),(.agg [(i6 0),(i6 0)])] (some [(i6 11),(LI [2,3]),(.agg [(i6 0),(i6 0)])]) false (.tup [(i6 (widthV 11 [2,3] 0 0)),(i6 (widthE 11 [2,3] 0 0))])∧T5 True) (by kernel_rfl)
    ⟨⟨⟨rfl,oK⟩,⟨rfl,oK⟩,oK⟩,oK,⟨⟨rfl,rfl,⟨rfl,rfl,oK⟩,oK⟩,(Width_ok _ _ _ _ (by first | omega | (simp; first | done | omega) | exact Nat.le_of_ble_eq_true (by kernel_rfl)))⟩,oK,oK,oK,oK,oK,oK⟩ ?_
  refine Ev.seq ?_
  refine Ev.reg [(0,.box 3 1 (encI .i64) 0 [5,4]),(2,.call (some [(i6 11),(LI [5,4]),(.agg [(i6 0),(i6 0)])]) false (.tup [(i6 (widthV 11 [5,4] 0 0)),(i6 (widthE 11 [5,4] 0 0))]))] [1,2,4] (st' := ⟨[(1,(i6 (widthV 11 [2,3] 0 0))),(2,(i6 (widthE 11 [2,3] 0 0))),(4,(i6 (widthE 11 [5,4] 0 0)))],[yj7,yj10]⟩)
    (p := eqRows [[(i6 5)],[(i6 4)]] ([5,4].map (encI .i64))∧True∧callOb Try.prog 10 [yj7,yj10] [(i6 11),(.own 1),(.agg [(i6 0),(i6 0)])] (some [(i6 11),(LI [5,4]),(.agg [(i6 0),(i6 0)])]) false (.tup [(i6 (widthV 11 [5,4] 0 0)),(i6 (widthE 11 [5,4] 0 0))])∧T5 True) (by kernel_rfl)
    ⟨⟨⟨rfl,oK⟩,⟨rfl,oK⟩,oK⟩,oK,⟨⟨rfl,rfl,⟨rfl,rfl,oK⟩,oK⟩,(Width_ok _ _ _ _ (by first | omega | (simp; first | done | omega) | exact Nat.le_of_ble_eq_true (by kernel_rfl)))⟩,oK,oK,oK,oK,oK,oK⟩ ?_
  refine Ev.seq ?_
  refine Ev.reg [(1,.val (dB true)),(4,.val (dB true)),(8,.val (dB true)),(11,.call none false (i6 (maskF 3))),(12,.val (dB true)),(15,.call none true (LB (splitF 6 4))),(16,.box 4 1 encB false [false,true,true,false]),(17,.call (some [(LB (splitF 6 4)),(LB [false,true,true,false])]) false (dB (decide ((splitF 6 4) = [false,true,true,false])))),(18,.val (dB true)),(20,.box 4 1 encB false [true,false,true]),(21,.call (some [(LB [true,false,true])]) false (i6 ((joinN [true,false,true] (min [true,false,true].length 62) : Nat) : Int))),(22,.val (dB true)),(26,.call none false (i6 (appF 6 [4,4] [16,0]))),(27,.val (dB true))] [0] (st' := ⟨[(0,(dB true))],yj3⟩)
    (p := True∧(True∧((widthV 11 [2,3] 0 0) == 5) = true)∧T2 ((True∧((widthE 11 [2,3] 0 0) == 0) = true)∧T3 ((True∧((widthE 11 [5,4] 0 0) == 1) = true)∧T2 (callOb Try.prog 14 [yj7,yj10] [(i6 3)] none false (i6 (maskF 3))∧(True∧((maskF 3) == 7) = true)∧T2 (callOb Try.prog 17 [yj7,yj10] [(i6 6),(i6 4)] none true (LB (splitF 6 4))∧eqRows [[(dB false)],[(dB true)],[(dB true)],[(dB false)]] ([false,true,true,false].map encB)∧callOb Try.prog 16 [yj7,yj10,(.arr 4 1 encB false [false,true,true,false])] [(LB (splitF 6 4)),(.own 2)] (some [(LB (splitF 6 4)),(LB [false,true,true,false])]) false (dB (decide ((splitF 6 4) = [false,true,true,false])))∧(True∧(decide ((splitF 6 4) = [false,true,true,false])) = true)∧True∧eqRows [[(dB true)],[(dB false)],[(dB true)]] ([true,false,true].map encB)∧callOb Try.prog 19 yj3 [(.own 3)] (some [(LB [true,false,true])]) false (i6 ((joinN [true,false,true] (min [true,false,true].length 62) : Nat) : Int))∧(True∧(((joinN [true,false,true] (min [true,false,true].length 62) : Nat) : Int) == 5) = true)∧T3 (callOb Try.prog 22 yj3 [(i6 6),(i6 4),(.agg [(i6 16),(i6 0)])] none false (i6 (appF 6 [4,4] [16,0]))∧(True∧((appF 6 [4,4] [16,0]) == (-1)) = true)∧T2 True)))))) (by kernel_rfl)
    ⟨oK,⟨oK,(by kernel_rfl)⟩,oK,oK,⟨oK,(by kernel_rfl)⟩,oK,oK,oK,⟨oK,(by kernel_rfl)⟩,oK,oK,(mask_ok _),⟨oK,(by kernel_rfl)⟩,oK,oK,(split_ok _ _),⟨⟨rfl,oK⟩,⟨rfl,oK⟩,⟨rfl,oK⟩,⟨rfl,oK⟩,oK⟩,⟨⟨rfl,rfl,oK⟩,(bools_ok _ _ (by first | omega | (simp; first | done | omega) | exact Nat.le_of_ble_eq_true (by kernel_rfl)) (by first | omega | (simp; first | done | omega) | exact Nat.le_of_ble_eq_true (by kernel_rfl)))⟩,⟨oK,(by kernel_rfl)⟩,oK,⟨⟨rfl,oK⟩,⟨rfl,oK⟩,⟨rfl,oK⟩,oK⟩,⟨⟨rfl,oK⟩,(join_ok _ (by first | omega | (simp; first | done | omega) | exact Nat.le_of_ble_eq_true (by kernel_rfl)))⟩,⟨oK,(by kernel_rfl)⟩,oK,oK,oK,(two_ok _ _ _ _),⟨oK,(by kernel_rfl)⟩,oK,oK,oK⟩ ?_
  refine Ev.ret ?_
  refine ⟨⟨oK,oK⟩,(?_ : true = true),.inr trivial⟩
  rfl

end Go.Proofs.Ytaghhicmnalmmaa
