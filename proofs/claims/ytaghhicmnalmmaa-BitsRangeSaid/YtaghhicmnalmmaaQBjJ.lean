/-
  Split, Join, examples.
-/
import Derived.Test.YtaghhicmnalmmaaQBjI
namespace Go.Proofs.Ytaghhicmnalmmaa
open Go.RowKit
set_option linter.unusedVariables false
set_option linter.unusedSimpArgs false
abbrev cz : D := (.ptr 4 0 0 0)
abbrev cA : D := (.ptr 3 0 0 0)
abbrev bi : D := (.fn (.func 39) [] [cz,cA])
abbrev bC : ak := (.var 24 [(.own 0)])
abbrev pA : List ak := [(.arr 3 1 (au .i64) 0 [2,3]),(.arr 3 1 (au .i64) 0 [5,4]),(.arr 4 1 bp false [false,true,true,false]),(.arr 4 1 bp false [true,false,true])]
abbrev a5 : D := (.ptr 1 0 0 0)
abbrev fx (v : Int) : ak := (.arr 4 1 bp false (aH v 0))
abbrev nI : List ak := [(.arr 3 1 (au .i64) 0 [2,3]),(.arr 3 1 (au .i64) 0 [5,4])]
set_option maxRecDepth 100000 in
theorem mW (v : Int) (m : Nat) (hm : m ≤ 62) : ai Try.prog 17 [(i6 v),(i6 (m : Int))] [] true (LB (aH v m)) [] := by
 refine ai.of_ev Try.func17 rfl rfl rfl ?_
 rintro ⟨_,W,S0,_,susp,_⟩ rfl rfl rfl
 refine Ev.seq ?_
 refine Ev.reg [] [0,1,4] (st' := ⟨[(0,(i6 v)),(1,(i6 (m : Int))),(4,.nils)],[]⟩)
  (p := True∧True) (by kernel_rfl)
  ⟨oK,oK⟩ ?_
 refine Ev.seq ?_
 refine Ev.seq ?_
 refine Ev.reg [(1,.val (dB false)),(4,.val (dB false))] [0,1,4,12] (st' := ⟨[(0,(i6 v)),(1,(i6 (m : Int))),(4,.nils),(12,(dB false))],[]⟩)
  (p := True∧(True∧(decide ((m : Int) < 0)) = false)∧T2 ((True∧(decide ((m : Int) > 62)) = false)∧True∧True)) (by kernel_rfl)
  ⟨oK,⟨oK,(by first | (simp; done) | (simp; omega))⟩,oK,oK,⟨oK,(by first | (simp; done) | (simp; omega))⟩,oK,oK⟩ ?_
 refine Ev.cond false rfl (fun h => (by cases h)) (fun _ => ?_)
 refine Ev.skip ?_
 refine Ev.seq ?_
 refine Ev.reg [(1,.box 4 1 bp false (aH v 0))] [0,1,4,5] (st' := ⟨[(0,(i6 v)),(1,(i6 (m : Int))),(4,.nils),(5,a5)],[(fx v),bC]⟩)
  (p := True∧(((0 : Int) ≤ 0∧(0 : Int) ≤ (m : Int)∧(m : Int) ≤ 137438953472)∧(aH v 0).length = 0∧∀ x ∈ (aH v 0),fh [(dB false)] (bp x))∧True∧True∧True) (by kernel_rfl)
  ⟨oK,⟨by omega,by simp [aH],by simp [aH]⟩,oK,oK,oK⟩ ?_
 refine Ev.seq ?_
 refine Ev.seq ?_
 have hinl1 : ∀ tm1 : Array Value,jY Try.prog 31 [(i6 v),(i6 (m : Int))] [(fx v),bC,(.frame tm1 [(16,(i6 (m : Int))),(15,(i6 v)),(0,(i6 v)),(1,(i6 (m : Int))),(4,.nils),(5,a5)])] bi [(fx v),bC,(.frame tm1 [(16,(i6 (m : Int))),(15,(i6 v)),(0,(i6 v)),(1,(i6 (m : Int))),(4,.nils),(5,a5)]),(.var 3 [(i6 v)]),(.var 3 [(i6 (m : Int))])] := by
  intro tm1
  refine ⟨_,_,Try.func31,rfl,rfl,?_⟩
  rintro ⟨_,W1,S1,_,susp1,_⟩ rfl rfl rfl
  refine Ev.seq ?_
  refine Ev.reg [] [2,3] (st' := ⟨[(2,cA),(3,cz)],[(fx v),bC,(.frame tm1 [(16,(i6 (m : Int))),(15,(i6 v)),(0,(i6 v)),(1,(i6 (m : Int))),(4,.nils),(5,a5)]),(.var 3 [(i6 v)]),(.var 3 [(i6 (m : Int))])]⟩)
   (p := T3 True) (by kernel_rfl)
   ⟨oK,oK,oK,oK⟩ ?_
  refine Ev.seq ?_
  refine Ev.reg [] [4] (st' := ⟨[(4,bi)],[(fx v),bC,(.frame tm1 [(16,(i6 (m : Int))),(15,(i6 v)),(0,(i6 v)),(1,(i6 (m : Int))),(4,.nils),(5,a5)]),(.var 3 [(i6 v)]),(.var 3 [(i6 (m : Int))])]⟩)
   (p := T2 True) (by kernel_rfl)
   ⟨oK,oK,oK⟩ ?_
  refine Ev.ret ?_
  refine ⟨⟨oK,oK⟩,(rfl : (bi : D) = bi),by kernel_rfl⟩
 refine Ev.reg [(2,.inl bi [(16,(i6 (m : Int))),(15,(i6 v)),(0,(i6 v)),(1,(i6 (m : Int))),(4,.nils),(5,a5)] [(fx v),bC,.dead,(.var 3 [(i6 v)]),(.var 3 [(i6 (m : Int))])])] [4,5,17] (st' := ⟨[(4,.nils),(5,a5),(17,bi)],[(fx v),bC,.dead,(.var 3 [(i6 v)]),(.var 3 [(i6 (m : Int))])]⟩)
  (p := True∧True∧(∀ tm1 : Array Value,jY Try.prog 31 [(i6 v),(i6 (m : Int))] [(fx v),bC,(.frame tm1 [(16,(i6 (m : Int))),(15,(i6 v)),(0,(i6 v)),(1,(i6 (m : Int))),(4,.nils),(5,a5)])] bi [(fx v),bC,(.frame tm1 [(16,(i6 (m : Int))),(15,(i6 v)),(0,(i6 v)),(1,(i6 (m : Int))),(4,.nils),(5,a5)]),(.var 3 [(i6 v)]),(.var 3 [(i6 (m : Int))])])∧True) (by kernel_rfl)
  ⟨oK,oK,hinl1,oK⟩ ?_
 refine Ev.block ?_
 refine Ev.range (gid := 39) (first := []) (cap := [cz,cA]) rfl (by kernel_rfl) Try.func39 rfl rfl rfl rfl (by kernel_rfl) (by kernel_rfl) ?_
 rintro ⟨_,W2,S2,_,susp2,_⟩ l2 tm2 asg2 bd2 hasg2 hbd2 rfl rfl rfl
 refine Ev.keep [0,1,2] 6 (st' := ⟨[(0,(.yld 5)),(1,cz),(2,cA)],[(fx v),bC,.dead,(.var 3 [(i6 v)]),(.var 3 [(i6 (m : Int))]),(.loop l2 tm2 24 [(4,.nils),(5,a5),(17,bi)] [18] asg2 bd2 .ready none)]⟩) (by kernel_rfl) ?_
 refine Ev.block ?_
 refine Ev.loop [0,1,2] 6 (fun (k : Nat) => ⟨[(0,(.yld 5)),(1,cz),(2,cA)],[(.arr 4 1 bp false (aH v k)),bC,.dead,(.var 3 [(i6 (aQ v k))]),(.var 3 [(i6 ((m - k : Nat) : Int))]),(.loop l2 tm2 24 [(4,.nils),(5,a5),(17,bi)] [18] asg2 bd2 .ready none)]⟩) (fun (k : Nat) => k ≤ m) (fun (k : Nat) => m - k) 0 (by kernel_rfl) (by omega) ?_
 rintro k hinv
 have hinv : k ≤ m := hinv
 have hk := hinv
 refine Ev.seq ?_
 refine Ev.seq ?_
 rcases Nat.lt_or_ge k m with hkm | hkm
 ·skip
  have hyld3 : ∀ tm3 : Array Value,kU Try.prog l2 24 asg2 bd2 ⟨[(18,(dB ((aQ v k % 2) == 1))),(4,.nils),(5,a5),(17,bi)],[(.arr 4 1 bp false (aH v k)),bC,.dead,(.var 3 [(i6 (aQ v k))]),(.var 3 [(i6 ((m - k : Nat) : Int))]),(.loop l2 tm2 24 [(4,.nils),(5,a5),(17,bi)] [18] asg2 bd2 .ready none),(.frame tm3 [(10,(dB ((aQ v k % 2) == 1))),(9,(i6 (aQ v k % 2))),(8,(i6 (aQ v k))),(7,(.yld 5)),(6,(dB true)),(5,(dB true)),(4,(i6 ((m - k : Nat) : Int))),(0,(.yld 5)),(1,cz),(2,cA)])]⟩ 5 true [(.arr 4 1 bp false (aH v (k + 1))),bC,.dead,(.var 3 [(i6 (aQ v k))]),(.var 3 [(i6 ((m - k : Nat) : Int))]),(.loop l2 tm2 24 [(4,.nils),(5,a5),(17,bi)] [18] asg2 bd2 .ready none),(.frame tm3 [(10,(dB ((aQ v k % 2) == 1))),(9,(i6 (aQ v k % 2))),(8,(i6 (aQ v k))),(7,(.yld 5)),(6,(dB true)),(5,(dB true)),(4,(i6 ((m - k : Nat) : Int))),(0,(.yld 5)),(1,cz),(2,cA)])] := by
   intro tm3
   rintro ⟨_,W3,S3,_,susp3,_⟩ rfl rfl rfl
   refine Ev.named hasg2 ?_
   refine Ev.reg [] [5,6] (st' := ⟨[(5,a5),(6,(dB ((aQ v k % 2) == 1)))],[(.arr 4 1 bp false (aH v k)),bC,.dead,(.var 3 [(i6 (aQ v k))]),(.var 3 [(i6 ((m - k : Nat) : Int))]),(.loop l2 tm2 24 [(4,.nils),(5,a5),(17,bi)] [18] asg2 bd2 .ready none),(.frame tm3 [(10,(dB ((aQ v k % 2) == 1))),(9,(i6 (aQ v k % 2))),(8,(i6 (aQ v k))),(7,(.yld 5)),(6,(dB true)),(5,(dB true)),(4,(i6 ((m - k : Nat) : Int))),(0,(.yld 5)),(1,cz),(2,cA)])]⟩)
    (p := True∧True) (by kernel_rfl)
    ⟨oK,oK⟩ ?_
   refine gJ.of (tm := tm2) (nt := 24) (env := [(4,.nils),(5,a5),(17,bi)]) (ps := [18]) (asg := asg2) (bd := bd2) (st' := ⟨[(5,a5),(6,(dB ((aQ v k % 2) == 1)))],[(.arr 4 1 bp false (aH v k)),bC,.dead,(.var 3 [(i6 (aQ v k))]),(.var 3 [(i6 ((m - k : Nat) : Int))]),(.loop l2 tm2 24 [(4,.nils),(5,a5),(17,bi)] [18] asg2 bd2 .busy none),(.frame tm3 [(10,(dB ((aQ v k % 2) == 1))),(9,(i6 (aQ v k % 2))),(8,(i6 (aQ v k))),(7,(.yld 5)),(6,(dB true)),(5,(dB true)),(4,(i6 ((m - k : Nat) : Int))),(0,(.yld 5)),(1,cz),(2,cA)])]⟩) (by kernel_rfl) (by kernel_rfl) ?_
   refine Ev.named hbd2 ?_
   refine Ev.block ?_
   refine Ev.reg [(2,.box 4 1 bp false [(aQ v k % 2) == 1]),(3,.box 4 1 bp false (aH v (k + 1)))] [] (st' := ⟨[],[(.arr 4 1 bp false (aH v (k + 1))),bC,.dead,(.var 3 [(i6 (aQ v k))]),(.var 3 [(i6 ((m - k : Nat) : Int))]),(.loop l2 tm2 24 [(4,.nils),(5,a5),(17,bi)] [18] asg2 bd2 .busy none),(.frame tm3 [(10,(dB ((aQ v k % 2) == 1))),(9,(i6 (aQ v k % 2))),(8,(i6 (aQ v k))),(7,(.yld 5)),(6,(dB true)),(5,(dB true)),(4,(i6 ((m - k : Nat) : Int))),(0,(.yld 5)),(1,cz),(2,cA)]),(.arr 4 1 bp false [(aQ v k % 2) == 1])]⟩)
    (p := T2 (aI [[(dB ((aQ v k % 2) == 1))]] ([(aQ v k % 2) == 1].map bp)∧((aH v k).length + ([(aQ v k % 2) == 1].map bp).length ≤ 137438953472∧(aH v k).map bp ++ [(aQ v k % 2) == 1].map bp = (aH v (k + 1)).map bp)∧True∧True)) (by kernel_rfl)
    ⟨oK,oK,⟨⟨rfl,oK⟩,oK⟩,⟨by simp only [List.length_map,List.length_cons,List.length_nil]; rw [mS]; omega,by rw [l4,List.map_append]⟩,oK,oK⟩ ?_
   show eB _ _ _ _ _ _
   refine eB.of (env := [(4,.nils),(5,a5),(17,bi)]) (ps := [18]) (asg := asg2) (bd := bd2) (tm := tm2) (nt := 24) (s := .busy) (p := none) (by kernel_rfl) rfl (by kernel_rfl)
  refine Ev.reg [(1,.val (dB true)),(5,.val (i6 (aQ v k % 2))),(7,.yld true [(10,(dB ((aQ v k % 2) == 1))),(9,(i6 (aQ v k % 2))),(8,(i6 (aQ v k))),(7,(.yld 5)),(6,(dB true)),(5,(dB true)),(4,(i6 ((m - k : Nat) : Int))),(0,(.yld 5)),(1,cz),(2,cA)] [(.arr 4 1 bp false (aH v (k + 1))),bC,.dead,(.var 3 [(i6 (aQ v k))]),(.var 3 [(i6 ((m - k : Nat) : Int))]),(.loop l2 tm2 24 [(4,.nils),(5,a5),(17,bi)] [18] asg2 bd2 .ready none),.dead])] [0,1,2,12] (st' := ⟨[(0,(.yld 5)),(1,cz),(2,cA),(12,(dB true))],[(.arr 4 1 bp false (aH v (k + 1))),bC,.dead,(.var 3 [(i6 (aQ v k))]),(.var 3 [(i6 ((m - k : Nat) : Int))]),(.loop l2 tm2 24 [(4,.nils),(5,a5),(17,bi)] [18] asg2 bd2 .ready none),.dead]⟩)
   (p := True∧(True∧(decide (((m - k : Nat) : Int) > 0)) = true)∧True∧True∧True∧(True∧(IntKind.wrap .i64 (BitVec.ofInt (IntKind.i64).bits (aQ v k) &&& BitVec.ofInt (IntKind.i64).bits 1).toNat) = (aQ v k % 2))∧True∧(∀ tm3 : Array Value,kU Try.prog l2 24 asg2 bd2 ⟨[(18,(dB ((aQ v k % 2) == 1))),(4,.nils),(5,a5),(17,bi)],[(.arr 4 1 bp false (aH v k)),bC,.dead,(.var 3 [(i6 (aQ v k))]),(.var 3 [(i6 ((m - k : Nat) : Int))]),(.loop l2 tm2 24 [(4,.nils),(5,a5),(17,bi)] [18] asg2 bd2 .ready none),(.frame tm3 [(10,(dB ((aQ v k % 2) == 1))),(9,(i6 (aQ v k % 2))),(8,(i6 (aQ v k))),(7,(.yld 5)),(6,(dB true)),(5,(dB true)),(4,(i6 ((m - k : Nat) : Int))),(0,(.yld 5)),(1,cz),(2,cA)])]⟩ 5 true [(.arr 4 1 bp false (aH v (k + 1))),bC,.dead,(.var 3 [(i6 (aQ v k))]),(.var 3 [(i6 ((m - k : Nat) : Int))]),(.loop l2 tm2 24 [(4,.nils),(5,a5),(17,bi)] [18] asg2 bd2 .ready none),(.frame tm3 [(10,(dB ((aQ v k % 2) == 1))),(9,(i6 (aQ v k % 2))),(8,(i6 (aQ v k))),(7,(.yld 5)),(6,(dB true)),(5,(dB true)),(4,(i6 ((m - k : Nat) : Int))),(0,(.yld 5)),(1,cz),(2,cA)])])∧True∧True) (by kernel_rfl)
   ⟨oK,⟨oK,(by simp; omega)⟩,oK,oK,oK,⟨oK,(qd _)⟩,oK,hyld3,oK,oK⟩ ?_
  refine Ev.cond true rfl (fun _ => ?_) (fun h => (by cases h))
  refine Ev.skip ?_
  refine Ev.seq ?_
  refine Ev.block ?_
  refine Ev.reg [(1,.val (i6 (aQ v (k + 1))))] [0,1,2] (st' := ⟨[(0,(.yld 5)),(1,cz),(2,cA)],[(.arr 4 1 bp false (aH v (k + 1))),bC,.dead,(.var 3 [(i6 (aQ v (k + 1)))]),(.var 3 [(i6 ((m - k : Nat) : Int))]),(.loop l2 tm2 24 [(4,.nils),(5,a5),(17,bi)] [18] asg2 bd2 .ready none),.dead]⟩)
   (p := True∧(0 ≤ (1 : Int)∧(Int.fdiv (aQ v k) (2 ^ min 1 64)) = (aQ v (k + 1)))∧True∧True) (by kernel_rfl)
   ⟨oK,⟨(by omega),(qe _)⟩,oK,oK⟩ ?_
  refine Ev.reg [(1,.val (i6 ((m - (k + 1) : Nat) : Int)))] [0,1,2] (st' := ⟨[(0,(.yld 5)),(1,cz),(2,cA)],[(.arr 4 1 bp false (aH v (k + 1))),bC,.dead,(.var 3 [(i6 (aQ v (k + 1)))]),(.var 3 [(i6 ((m - (k + 1) : Nat) : Int))]),(.loop l2 tm2 24 [(4,.nils),(5,a5),(17,bi)] [18] asg2 bd2 .ready none),.dead]⟩)
   (p := True∧(True∧(IntKind.wrap .i64 (((m - k : Nat) : Int) - 1)) = ((m - (k + 1) : Nat) : Int))∧True∧True) (by kernel_rfl)
   ⟨oK,⟨oK,(qT (by omega) (by omega))⟩,oK,oK⟩ ?_
  refine ⟨k + 1,by kernel_rfl,(?_ : (k + 1) ≤ m),(?_ : m - (k + 1) < m - k)⟩
  ·omega
  ·omega
 ·skip
  refine Ev.reg [(1,.val (dB false))] [0,1,2,12] (st' := ⟨[(0,(.yld 5)),(1,cz),(2,cA),(12,(dB false))],[(.arr 4 1 bp false (aH v k)),bC,.dead,(.var 3 [(i6 (aQ v k))]),(.var 3 [(i6 ((m - k : Nat) : Int))]),(.loop l2 tm2 24 [(4,.nils),(5,a5),(17,bi)] [18] asg2 bd2 .ready none)]⟩)
   (p := True∧(True∧(decide (((m - k : Nat) : Int) > 0)) = false)∧T7 True) (by kernel_rfl)
   ⟨oK,⟨oK,(by simp; omega)⟩,oK,oK,oK,oK,oK,oK,oK,oK⟩ ?_
  refine Ev.cond false rfl (fun h => (by cases h)) (fun _ => ?_)
  refine Ev.exit ?_
  repeat (first | refine mD ?_ | refine lK ?_ | refine blockQ_normal ?_)
  show jb _ _ _ _ _ _ _
  refine jb.of (env := [(4,.nils),(5,a5),(17,bi)]) (ps := [18]) (asg := asg2) (bd := bd2) (s := .ready) (p := none) (e' := .normal) (st' := ⟨[(4,.nils),(5,a5),(17,bi)],[(.arr 4 1 bp false (aH v k)),bC,.dead,(.var 3 [(i6 (aQ v k))]),(.var 3 [(i6 ((m - k : Nat) : Int))]),.dead]⟩) (.inl rfl) (by kernel_rfl) rfl rfl (by kernel_rfl) ?_
  refine Ev.seq ?_
  refine Ev.reg [] [4] (st' := ⟨[(4,(.own 0))],[(.arr 4 1 bp false (aH v k)),bC,.dead,(.var 3 [(i6 (aQ v k))]),(.var 3 [(i6 ((m - k : Nat) : Int))]),.dead]⟩)
   (p := T2 True) (by kernel_rfl)
   ⟨oK,oK,oK⟩ ?_
  refine Ev.ret ?_
  refine ⟨⟨oK,oK⟩,(?_ : (aH v k).map bp = (aH v m).map bp),.inl rfl⟩
  have hkm2 : k = m := by omega
  rw [hkm2]
set_option maxRecDepth 100000 in
theorem oD (v w : Int) (hw : w < 0 ∨ 62 < w) : ai Try.prog 17 [(i6 v),(i6 w)] [] true (LB ([] : List Bool)) [] := by
 refine ai.of_ev Try.func17 rfl rfl rfl ?_
 rintro ⟨_,W,S0,_,susp,_⟩ rfl rfl rfl
 refine Ev.seq ?_
 refine Ev.reg [] [0,1,4] (st' := ⟨[(0,(i6 v)),(1,(i6 w)),(4,.nils)],[]⟩)
  (p := True∧True) (by kernel_rfl)
  ⟨oK,oK⟩ ?_
 refine Ev.seq ?_
 refine Ev.seq ?_
 rcases (show w < 0 ∨ (0 ≤ w∧62 < w) from by omega) with h | h
 ·skip
  refine Ev.reg [(1,.val (dB true))] [0,1,4,12] (st' := ⟨[(0,(i6 v)),(1,(i6 w)),(4,.nils),(12,(dB true))],[]⟩)
   (p := True∧(True∧(decide (w < 0)) = true)∧T4 True) (by kernel_rfl)
   ⟨oK,⟨oK,(by first | (simp; done) | (simp; omega))⟩,oK,oK,oK,oK,oK⟩ ?_
  refine Ev.cond true rfl (fun _ => ?_) (fun h => (by cases h))
  refine Ev.seq ?_
  refine Ev.reg [] [4] (st' := ⟨[(4,.nils)],[]⟩)
   (p := True∧True) (by kernel_rfl)
   ⟨oK,oK⟩ ?_
  refine Ev.ret ?_
  refine ⟨⟨oK,oK⟩,(?_ : ([] : List Bool) = []),.inl rfl⟩
  rfl
 ·skip
  refine Ev.reg [(1,.val (dB false)),(4,.val (dB true))] [0,1,4,12] (st' := ⟨[(0,(i6 v)),(1,(i6 w)),(4,.nils),(12,(dB true))],[]⟩)
   (p := True∧(True∧(decide (w < 0)) = false)∧T2 ((True∧(decide (w > 62)) = true)∧True∧True)) (by kernel_rfl)
   ⟨oK,⟨oK,(by first | (simp; done) | (simp; omega))⟩,oK,oK,⟨oK,(by first | (simp; done) | (simp; omega))⟩,oK,oK⟩ ?_
  refine Ev.cond true rfl (fun _ => ?_) (fun h => (by cases h))
  refine Ev.seq ?_
  refine Ev.reg [] [4] (st' := ⟨[(4,.nils)],[]⟩)
   (p := True∧True) (by kernel_rfl)
   ⟨oK,oK⟩ ?_
  refine Ev.ret ?_
  refine ⟨⟨oK,oK⟩,(?_ : ([] : List Bool) = []),.inl rfl⟩
  rfl
theorem pB (v w : Int) : ai Try.prog 17 [dI .i64 v,dI .i64 w] [] true (dL 1 bp false (da v w)) [] := by
 by_cases h : w < 0 ∨ 62 < w
 ·rw [show da v w = [] from if_pos h]
  exact oD v w h
 ·obtain ⟨m,rfl⟩ := Int.eq_ofNat_of_zero_le (a := w) (by omega)
  rw [show da v (m : Int) = aH v m from if_neg h]
  exact mW v m (by omega)
set_option maxRecDepth 100000 in
theorem qo (l : List Bool) (hl : l.length ≤ 9223372036854775807) : ai Try.prog 19 [(LB l)] [] false (i6 ((joinN l (min l.length 62) : Nat) : Int)) [] := by
 refine ai.of_ev Try.func19 rfl rfl rfl ?_
 rintro ⟨_,W,S0,_,susp,_⟩ rfl rfl rfl
 refine Ev.seq ?_
 refine Ev.reg [] [0] (st' := ⟨[(0,(LB l))],[]⟩)
  (p := True∧True) (by kernel_rfl)
  ⟨oK,oK⟩ ?_
 refine Ev.seq ?_
 refine Ev.reg [] [0,3] (st' := ⟨[(0,(LB l)),(3,(i6 0))],[]⟩)
  (p := True∧True) (by kernel_rfl)
  ⟨oK,oK⟩ ?_
 refine Ev.seq ?_
 refine Ev.seq ?_
 refine Ev.reg [(3,.val (i6 ((min l.length 62 : Nat) : Int))),(4,.val (LB (l.take (min l.length 62)))),(5,.val (i6 ((min l.length 62 : Nat) : Int)))] [3,10,11,12] (st' := ⟨[(3,(i6 0)),(10,(LB (l.take (min l.length 62)))),(11,(i6 ((min l.length 62 : Nat) : Int))),(12,(i6 0))],[]⟩)
  (p := T3 ((True∧(nQ (l.length : Int) 62) = ((min l.length 62 : Nat) : Int))∧((0 ≤ (0 : Int)∧(0 : Int) ≤ ((min l.length 62 : Nat) : Int)∧((min l.length 62 : Nat) : Int) ≤ (l.length : Int))∧((l.take (min l.length 62)).drop 0).map bp = (l.take (min l.length 62)).map bp)∧(True∧(((l.take (min l.length 62)).length : Nat) : Int) = ((min l.length 62 : Nat) : Int))∧True∧True)) (by kernel_rfl)
  ⟨oK,oK,oK,⟨oK,(by unfold nQ; split <;> omega)⟩,⟨(by omega),(by rw [List.drop_zero])⟩,⟨oK,(by rw [List.length_take]; congr 1; omega)⟩,oK,oK⟩ ?_
 refine Ev.block ?_
 refine Ev.loop [3,10,11,12] 0 (fun (k : Nat) => ⟨[(3,(i6 ((joinN l k : Nat) : Int))),(10,(LB (l.take (min l.length 62)))),(11,(i6 ((min l.length 62 : Nat) : Int))),(12,(i6 (k : Int)))],[]⟩) (fun (k : Nat) => k ≤ min l.length 62) (fun (k : Nat) => min l.length 62 - k) 0 (by kernel_rfl) (by omega) ?_
 rintro k hinv
 have hinv : k ≤ min l.length 62 := hinv
 have hk := hinv
 refine Ev.seq ?_
 refine Ev.reg [] [3,10,11,12,13] (st' := ⟨[(3,(i6 ((joinN l k : Nat) : Int))),(10,(LB (l.take (min l.length 62)))),(11,(i6 ((min l.length 62 : Nat) : Int))),(12,(i6 (k : Int))),(13,(dB (decide ((k : Int) < ((min l.length 62 : Nat) : Int)))))],[]⟩)
  (p := True∧True) (by kernel_rfl)
  ⟨oK,oK⟩ ?_
 refine Ev.seq ?_
 refine Ev.cond _ rfl (fun hc13 => ?_) (fun hc13 => ?_)
 ·try simp only [decide_eq_true_eq,decide_eq_false_iff_not,beq_iff_eq,bne_iff_ne,ne_eq,beq_eq_false_iff_ne,bne_eq_false_iff_eq,Bool.not_eq_true,Bool.not_eq_false,Bool.not_eq_true',Bool.not_eq_false',Bool.not_not,gt_iff_lt,ge_iff_le,Nat.not_lt,Int.not_lt,Int.not_le] at hc13
  refine Ev.skip ?_
  refine Ev.seq ?_
  refine Ev.block ?_
  refine Ev.seq ?_
  refine Ev.reg [(2,.val (dB (l.getD k false)))] [3,4,5,10,11,12] (st' := ⟨[(3,(i6 ((joinN l k : Nat) : Int))),(4,(i6 (k : Int))),(5,(dB (l.getD k false))),(10,(LB (l.take (min l.length 62)))),(11,(i6 ((min l.length 62 : Nat) : Int))),(12,(i6 (k : Int)))],[]⟩)
   (p := True∧(0 ≤ (k : Int)∧(k : Int) < ((l.take (min l.length 62)).length : Int))∧(True∧((l.take (min l.length 62)).getD k false) = (l.getD k false))∧T2 True) (by kernel_rfl)
   ⟨oK,(by rw [List.length_take]; omega),⟨oK,(mR (by omega))⟩,oK,oK,oK⟩ ?_
  refine Ev.reg [(2,.call none false (i6 (if l.getD k false = true then 1 else 0))),(5,.val (i6 ((joinN l (k + 1) : Nat) : Int)))] [3,10,11,12] (st' := ⟨[(3,(i6 ((joinN l (k + 1) : Nat) : Int))),(10,(LB (l.take (min l.length 62)))),(11,(i6 ((min l.length 62 : Nat) : Int))),(12,(i6 (k : Int)))],[]⟩)
   (p := T2 (aY Try.prog 32 [] [(dB (l.getD k false))] none false (i6 (if l.getD k false = true then 1 else 0))∧True∧0 ≤ (k : Int)∧(True∧(IntKind.wrap .i64 (BitVec.ofInt (IntKind.i64).bits ((joinN l k : Nat) : Int) ||| BitVec.ofInt (IntKind.i64).bits (IntKind.wrap .i64 ((if l.getD k false = true then 1 else 0) * 2 ^ min k 64))).toNat) = ((joinN l (k + 1) : Nat) : Int))∧True∧True)) (by kernel_rfl)
   ⟨oK,oK,(mU (l.getD k false)),oK,(by omega),⟨oK,(ot (by omega))⟩,oK,oK⟩ ?_
  refine Ev.reg [(0,.val (i6 ((k + 1 : Nat) : Int)))] [3,10,11,12] (st' := ⟨[(3,(i6 ((joinN l (k + 1) : Nat) : Int))),(10,(LB (l.take (min l.length 62)))),(11,(i6 ((min l.length 62 : Nat) : Int))),(12,(i6 ((k + 1 : Nat) : Int)))],[]⟩)
   (p := (True∧(IntKind.wrap .i64 ((k : Int) + 1)) = ((k + 1 : Nat) : Int))∧True∧True) (by kernel_rfl)
   ⟨⟨oK,(qT (by first | rfl | simp | omega) (by first | omega | (simp; first | done | omega)))⟩,oK,oK⟩ ?_
  refine ⟨k + 1,by kernel_rfl,(?_ : (k + 1) ≤ min l.length 62),(?_ : min l.length 62 - (k + 1) < min l.length 62 - k)⟩
  ·omega
  ·omega
 ·try simp only [decide_eq_true_eq,decide_eq_false_iff_not,beq_iff_eq,bne_iff_ne,ne_eq,beq_eq_false_iff_ne,bne_eq_false_iff_eq,Bool.not_eq_true,Bool.not_eq_false,Bool.not_eq_true',Bool.not_eq_false',Bool.not_not,gt_iff_lt,ge_iff_le,Nat.not_lt,Int.not_lt,Int.not_le] at hc13
  refine Ev.exit ?_
  refine Ev.seq ?_
  refine Ev.reg [] [2] (st' := ⟨[(2,(i6 ((joinN l k : Nat) : Int)))],[]⟩)
   (p := T2 True) (by kernel_rfl)
   ⟨oK,oK,oK⟩ ?_
  refine Ev.ret ?_
  refine ⟨⟨oK,oK⟩,(?_ : ((joinN l k : Nat) : Int) = ((joinN l (min l.length 62) : Nat) : Int)),.inr trivial⟩
  have hke : k = min l.length 62 := by omega
  rw [hke]
set_option maxRecDepth 100000 in
theorem pC (a b : List Bool) (ha : a.length ≤ 9223372036854775807) (hb : b.length ≤ 9223372036854775807) : ai Try.prog 16 [(LB a),(LB b)] [] false (dB (decide (a = b))) [] := by
 refine ai.of_ev Try.func16 rfl rfl rfl ?_
 rintro ⟨_,W,S0,_,susp,_⟩ rfl rfl rfl
 refine Ev.seq ?_
 refine Ev.reg [] [0,1] (st' := ⟨[(0,(LB a)),(1,(LB b))],[]⟩)
  (p := True∧True) (by kernel_rfl)
  ⟨oK,oK⟩ ?_
 refine Ev.seq ?_
 refine Ev.seq ?_
 refine Ev.reg [] [0,1,10] (st' := ⟨[(0,(LB a)),(1,(LB b)),(10,(dB ((a.length : Int) != (b.length : Int))))],[]⟩)
  (p := T5 True) (by kernel_rfl)
  ⟨oK,oK,oK,oK,oK,oK⟩ ?_
 refine Ev.cond _ rfl (fun hc10 => ?_) (fun hc10 => ?_)
 ·try simp only [decide_eq_true_eq,decide_eq_false_iff_not,beq_iff_eq,bne_iff_ne,ne_eq,beq_eq_false_iff_ne,bne_eq_false_iff_eq,Bool.not_eq_true,Bool.not_eq_false,Bool.not_eq_true',Bool.not_eq_false',Bool.not_not,gt_iff_lt,ge_iff_le,Nat.not_lt,Int.not_lt,Int.not_le] at hc10
  refine Ev.seq ?_
  refine Ev.reg [] [4] (st' := ⟨[(4,(dB false))],[]⟩)
   (p := True∧True) (by kernel_rfl)
   ⟨oK,oK⟩ ?_
  refine Ev.ret ?_
  refine ⟨⟨oK,oK⟩,(?_ : false = (decide (a = b))),.inr trivial⟩
  exact (decide_eq_false (fun e => by rw [e] at hc10; omega)).symm
 ·try simp only [decide_eq_true_eq,decide_eq_false_iff_not,beq_iff_eq,bne_iff_ne,ne_eq,beq_eq_false_iff_ne,bne_eq_false_iff_eq,Bool.not_eq_true,Bool.not_eq_false,Bool.not_eq_true',Bool.not_eq_false',Bool.not_not,gt_iff_lt,ge_iff_le,Nat.not_lt,Int.not_lt,Int.not_le] at hc10
  refine Ev.skip ?_
  refine Ev.seq ?_
  refine Ev.seq ?_
  refine Ev.reg [] [0,1,5] (st' := ⟨[(0,(LB a)),(1,(LB b)),(5,(i6 0))],[]⟩)
   (p := True∧True) (by kernel_rfl)
   ⟨oK,oK⟩ ?_
  refine Ev.block ?_
  refine Ev.loop [0,1,5] 0 (fun (k : Nat) => ⟨[(0,(LB a)),(1,(LB b)),(5,(i6 (k : Int)))],[]⟩) (fun (k : Nat) => k ≤ a.length∧a.length = b.length∧a.take k = b.take k) (fun (k : Nat) => a.length - k) 0 (by kernel_rfl) (⟨by omega,by omega,by simp⟩) ?_
  rintro k hinv
  have hinv : k ≤ a.length∧a.length = b.length∧a.take k = b.take k := hinv
  obtain ⟨h1,h2,h3⟩ := hinv
  refine Ev.seq ?_
  refine Ev.seq ?_
  refine Ev.reg [] [0,1,5,14] (st' := ⟨[(0,(LB a)),(1,(LB b)),(5,(i6 (k : Int))),(14,(dB (decide ((k : Int) < (a.length : Int)))))],[]⟩)
   (p := T4 True) (by kernel_rfl)
   ⟨oK,oK,oK,oK,oK⟩ ?_
  refine Ev.cond _ rfl (fun hc14 => ?_) (fun hc14 => ?_)
  ·try simp only [decide_eq_true_eq,decide_eq_false_iff_not,beq_iff_eq,bne_iff_ne,ne_eq,beq_eq_false_iff_ne,bne_eq_false_iff_eq,Bool.not_eq_true,Bool.not_eq_false,Bool.not_eq_true',Bool.not_eq_false',Bool.not_not,gt_iff_lt,ge_iff_le,Nat.not_lt,Int.not_lt,Int.not_le] at hc14
   refine Ev.skip ?_
   refine Ev.seq ?_
   refine Ev.block ?_
   refine Ev.seq ?_
   refine Ev.draw 9 [false,false,false,false,false,false,false,false,false] [] [0,1,5,25] (st' := ⟨[(0,(LB a)),(1,(LB b)),(5,(i6 (k : Int))),(25,(dB (!((a.getD k false) == (b.getD k false)))))],[]⟩)
    (p := (T2 ((0 ≤ (k : Int)∧(k : Int) < (a.length : Int))∧T3 ((0 ≤ (k : Int)∧(k : Int) < (b.length : Int))∧T2 True)))∧True) (by kernel_rfl) (by kernel_rfl)
    ⟨⟨oK,oK,(by first | omega | (simp; first | done | omega)),oK,oK,oK,(by first | omega | (simp; first | done | omega)),oK,oK,oK⟩,oK⟩ ?_
   refine Ev.cond _ rfl (fun hc25 => ?_) (fun hc25 => ?_)
   ·try simp only [decide_eq_true_eq,decide_eq_false_iff_not,beq_iff_eq,bne_iff_ne,ne_eq,beq_eq_false_iff_ne,bne_eq_false_iff_eq,Bool.not_eq_true,Bool.not_eq_false,Bool.not_eq_true',Bool.not_eq_false',Bool.not_not,gt_iff_lt,ge_iff_le,Nat.not_lt,Int.not_lt,Int.not_le] at hc25
    refine Ev.seq ?_
    refine Ev.reg [] [4] (st' := ⟨[(4,(dB false))],[]⟩)
     (p := True∧True) (by kernel_rfl)
     ⟨oK,oK⟩ ?_
    refine Ev.ret ?_
    refine ⟨⟨oK,oK⟩,(?_ : false = (decide (a = b))),.inr trivial⟩
    exact (decide_eq_false (qc (d := false) (k := k) (by simpa using hc25))).symm
   ·try simp only [decide_eq_true_eq,decide_eq_false_iff_not,beq_iff_eq,bne_iff_ne,ne_eq,beq_eq_false_iff_ne,bne_eq_false_iff_eq,Bool.not_eq_true,Bool.not_eq_false,Bool.not_eq_true',Bool.not_eq_false',Bool.not_not,gt_iff_lt,ge_iff_le,Nat.not_lt,Int.not_lt,Int.not_le] at hc25
    refine Ev.skip ?_
    refine Ev.reg [(1,.val (i6 ((k + 1 : Nat) : Int)))] [0,1,5] (st' := ⟨[(0,(LB a)),(1,(LB b)),(5,(i6 ((k + 1 : Nat) : Int)))],[]⟩)
     (p := True∧(True∧(IntKind.wrap .i64 ((k : Int) + 1)) = ((k + 1 : Nat) : Int))∧True∧True) (by kernel_rfl)
     ⟨oK,⟨oK,(qT (by first | rfl | simp | omega) (by first | omega | (simp; first | done | omega)))⟩,oK,oK⟩ ?_
    refine ⟨k + 1,by kernel_rfl,(?_ : (k + 1) ≤ a.length∧a.length = b.length∧a.take (k + 1) = b.take (k + 1)),(?_ : a.length - (k + 1) < a.length - k)⟩
    ·exact ⟨by omega,h2,ol h2 (by omega) h3 (d := false) (by simpa using hc25)⟩
    ·omega
  ·try simp only [decide_eq_true_eq,decide_eq_false_iff_not,beq_iff_eq,bne_iff_ne,ne_eq,beq_eq_false_iff_ne,bne_eq_false_iff_eq,Bool.not_eq_true,Bool.not_eq_false,Bool.not_eq_true',Bool.not_eq_false',Bool.not_not,gt_iff_lt,ge_iff_le,Nat.not_lt,Int.not_lt,Int.not_le] at hc14
   refine Ev.exit ?_
   refine Ev.seq ?_
   refine Ev.reg [] [4] (st' := ⟨[(4,(dB true))],[]⟩)
    (p := True∧True) (by kernel_rfl)
    ⟨oK,oK⟩ ?_
   refine Ev.ret ?_
   refine ⟨⟨oK,oK⟩,(?_ : true = (decide (a = b))),.inr trivial⟩
   exact (decide_eq_true (pr h2 (by omega) h3)).symm
set_option maxRecDepth 100000 in
theorem cB  : ai Try.prog 9 [] [] false (dB true) [] := by
 refine ai.of_ev Try.func9 rfl rfl rfl ?_
 rintro ⟨_,W,S0,_,susp,_⟩ rfl rfl rfl
 refine Ev.seq ?_
 refine Ev.reg [] [] (st' := ⟨[],[]⟩)
  (p := True∧True) (by kernel_rfl)
  ⟨oK,oK⟩ ?_
 refine Ev.seq ?_
 refine Ev.seq ?_
 refine Ev.reg [(1,.call none false (i6 (b4 6 [4,4] [9,8]))),(2,.val (dB false)),(5,.call none false (i6 (b4 7 [4,4] [3,5]))),(6,.val (dB false)),(10,.call none false (i6 (b4 9 [4,4] [3,5]))),(11,.val (dB false)),(16,.call none false (i6 (b4 11 [2,3] [2,5]))),(17,.val (dB false)),(21,.call none false (i6 (oo 21 5 3 2))),(22,.val (dB false)),(25,.call none false (i6 (oq 5 3 8))),(26,.val (dB false))] [32] (st' := ⟨[(32,(dB false))],[]⟩)
  (p := True∧aY Try.prog 22 [] [(i6 6),(i6 4),(.agg [(i6 9),(i6 8)])] none false (i6 (b4 6 [4,4] [9,8]))∧(True∧((b4 6 [4,4] [9,8]) != 1) = false)∧T2 (aY Try.prog 22 [] [(i6 7),(i6 4),(.agg [(i6 3),(i6 5)])] none false (i6 (b4 7 [4,4] [3,5]))∧(True∧((b4 7 [4,4] [3,5]) != 14) = false)∧T3 (aY Try.prog 22 [] [(i6 9),(i6 4),(.agg [(i6 3),(i6 5)])] none false (i6 (b4 9 [4,4] [3,5]))∧(True∧((b4 9 [4,4] [3,5]) != 1) = false)∧T4 (aY Try.prog 24 [] [(.agg [(i6 2),(i6 3)]),(.agg [(i6 2),(i6 5)])] none false (i6 (b4 11 [2,3] [2,5]))∧(True∧((b4 11 [2,3] [2,5]) != 21) = false)∧T3 (aY Try.prog 25 [] [(i6 21),(i6 5),(.agg [(i6 3),(i6 2)])] none false (i6 (oo 21 5 3 2))∧(True∧((oo 21 5 3 2) != 2) = false)∧T2 (aY Try.prog 26 [] [(i6 5),(i6 3),(i6 8)] none false (i6 (oq 5 3 8))∧(True∧((oq 5 3 8) != 5) = false)∧True∧True)))))) (by kernel_rfl)
  ⟨oK,(lh _ _ _ _),⟨oK,(by kernel_rfl)⟩,oK,oK,(lh _ _ _ _),⟨oK,(by kernel_rfl)⟩,oK,oK,oK,(lh _ _ _ _),⟨oK,(by kernel_rfl)⟩,oK,oK,oK,oK,(ql _ _ _ _),⟨oK,(by kernel_rfl)⟩,oK,oK,oK,(oC _ _ _ _),⟨oK,(by kernel_rfl)⟩,oK,oK,(qn _ _ _),⟨oK,(by kernel_rfl)⟩,oK,oK⟩ ?_
 refine Ev.cond false rfl (fun h => (by cases h)) (fun _ => ?_)
 refine Ev.skip ?_
 refine Ev.seq ?_
 refine Ev.reg [(0,.box 3 1 (au .i64) 0 [2,3]),(2,.call (some [(i6 11),(LI [2,3]),(.agg [(i6 0),(i6 0)])]) false (.tup [(i6 (aA 11 [2,3] 0 0)),(i6 (aJ 11 [2,3] 0 0))]))] [1,2] (st' := ⟨[(1,(i6 (aA 11 [2,3] 0 0))),(2,(i6 (aJ 11 [2,3] 0 0)))],[(.arr 3 1 (au .i64) 0 [2,3])]⟩)
  (p := aI [[(i6 2)],[(i6 3)]] ([2,3].map (au .i64))∧True∧aY Try.prog 10 [(.arr 3 1 (au .i64) 0 [2,3])] [(i6 11),(.own 0),(.agg [(i6 0),(i6 0)])] (some [(i6 11),(LI [2,3]),(.agg [(i6 0),(i6 0)])]) false (.tup [(i6 (aA 11 [2,3] 0 0)),(i6 (aJ 11 [2,3] 0 0))])∧T5 True) (by kernel_rfl)
  ⟨⟨⟨rfl,oK⟩,⟨rfl,oK⟩,oK⟩,oK,⟨⟨rfl,rfl,⟨rfl,rfl,oK⟩,oK⟩,(db 11 [2,3] 0 0 (by first | omega | (simp; first | done | omega) | exact Nat.le_of_ble_eq_true (by kernel_rfl)))⟩,oK,oK,oK,oK,oK,oK⟩ ?_
 refine Ev.seq ?_
 refine Ev.reg [(0,.box 3 1 (au .i64) 0 [5,4]),(2,.call (some [(i6 11),(LI [5,4]),(.agg [(i6 0),(i6 0)])]) false (.tup [(i6 (aA 11 [5,4] 0 0)),(i6 (aJ 11 [5,4] 0 0))]))] [1,2,4] (st' := ⟨[(1,(i6 (aA 11 [2,3] 0 0))),(2,(i6 (aJ 11 [2,3] 0 0))),(4,(i6 (aJ 11 [5,4] 0 0)))],nI⟩)
  (p := aI [[(i6 5)],[(i6 4)]] ([5,4].map (au .i64))∧True∧aY Try.prog 10 nI [(i6 11),(.own 1),(.agg [(i6 0),(i6 0)])] (some [(i6 11),(LI [5,4]),(.agg [(i6 0),(i6 0)])]) false (.tup [(i6 (aA 11 [5,4] 0 0)),(i6 (aJ 11 [5,4] 0 0))])∧T5 True) (by kernel_rfl)
  ⟨⟨⟨rfl,oK⟩,⟨rfl,oK⟩,oK⟩,oK,⟨⟨rfl,rfl,⟨rfl,rfl,oK⟩,oK⟩,(db 11 [5,4] 0 0 (by first | omega | (simp; first | done | omega) | exact Nat.le_of_ble_eq_true (by kernel_rfl)))⟩,oK,oK,oK,oK,oK,oK⟩ ?_
 refine Ev.seq ?_
 refine Ev.reg [(1,.val (dB true)),(4,.val (dB true)),(8,.val (dB true)),(11,.call none false (i6 (aa 3))),(12,.val (dB true)),(15,.call none true (LB (da 6 4))),(16,.box 4 1 bp false [false,true,true,false]),(17,.call (some [(LB (da 6 4)),(LB [false,true,true,false])]) false (dB (decide ((da 6 4) = [false,true,true,false])))),(18,.val (dB true)),(20,.box 4 1 bp false [true,false,true]),(21,.call (some [(LB [true,false,true])]) false (i6 ((joinN [true,false,true] (min [true,false,true].length 62) : Nat) : Int))),(22,.val (dB true)),(26,.call none false (i6 (b4 6 [4,4] [16,0]))),(27,.val (dB true))] [0] (st' := ⟨[(0,(dB true))],pA⟩)
  (p := True∧(True∧((aA 11 [2,3] 0 0) == 5) = true)∧T2 ((True∧((aJ 11 [2,3] 0 0) == 0) = true)∧T3 ((True∧((aJ 11 [5,4] 0 0) == 1) = true)∧T2 (aY Try.prog 14 nI [(i6 3)] none false (i6 (aa 3))∧(True∧((aa 3) == 7) = true)∧T2 (aY Try.prog 17 nI [(i6 6),(i6 4)] none true (LB (da 6 4))∧aI [[(dB false)],[(dB true)],[(dB true)],[(dB false)]] ([false,true,true,false].map bp)∧aY Try.prog 16 [(.arr 3 1 (au .i64) 0 [2,3]),(.arr 3 1 (au .i64) 0 [5,4]),(.arr 4 1 bp false [false,true,true,false])] [(LB (da 6 4)),(.own 2)] (some [(LB (da 6 4)),(LB [false,true,true,false])]) false (dB (decide ((da 6 4) = [false,true,true,false])))∧(True∧(decide ((da 6 4) = [false,true,true,false])) = true)∧True∧aI [[(dB true)],[(dB false)],[(dB true)]] ([true,false,true].map bp)∧aY Try.prog 19 pA [(.own 3)] (some [(LB [true,false,true])]) false (i6 ((joinN [true,false,true] (min [true,false,true].length 62) : Nat) : Int))∧(True∧(((joinN [true,false,true] (min [true,false,true].length 62) : Nat) : Int) == 5) = true)∧T3 (aY Try.prog 22 pA [(i6 6),(i6 4),(.agg [(i6 16),(i6 0)])] none false (i6 (b4 6 [4,4] [16,0]))∧(True∧((b4 6 [4,4] [16,0]) == (-1)) = true)∧T2 True)))))) (by kernel_rfl)
  ⟨oK,⟨oK,(by kernel_rfl)⟩,oK,oK,⟨oK,(by kernel_rfl)⟩,oK,oK,oK,⟨oK,(by kernel_rfl)⟩,oK,oK,(bw 3),⟨oK,(by kernel_rfl)⟩,oK,oK,(pB _ _),⟨⟨rfl,oK⟩,⟨rfl,oK⟩,⟨rfl,oK⟩,⟨rfl,oK⟩,oK⟩,⟨⟨rfl,rfl,oK⟩,(pC _ _ (by first | omega | (simp; first | done | omega) | exact Nat.le_of_ble_eq_true (by kernel_rfl)) (by first | omega | (simp; first | done | omega) | exact Nat.le_of_ble_eq_true (by kernel_rfl)))⟩,⟨oK,(by kernel_rfl)⟩,oK,⟨⟨rfl,oK⟩,⟨rfl,oK⟩,⟨rfl,oK⟩,oK⟩,⟨⟨rfl,oK⟩,(qo _ (by first | omega | (simp; first | done | omega) | exact Nat.le_of_ble_eq_true (by kernel_rfl)))⟩,⟨oK,(by kernel_rfl)⟩,oK,oK,oK,(lh _ _ _ _),⟨oK,(by kernel_rfl)⟩,oK,oK,oK⟩ ?_
 refine Ev.ret ?_
 refine ⟨⟨oK,oK⟩,(?_ : true = true),.inr trivial⟩
 rfl
end Go.Proofs.Ytaghhicmnalmmaa
