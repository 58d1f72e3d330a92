/-
  Package journal: whole parts.
-/
import Derived.Test.YtjmfaebimgnblaaJouA
namespace Go.Proofs.Ytjmfaebimgnblaa
open Go.RowKit
set_option linter.unusedVariables false
set_option linter.unusedSimpArgs false
abbrev yb1 : D := (.ptr 0 0 0 0)
abbrev yb0 (b : List Int) : List (Nat × D) := [(0,(LY b)),(2,.nils),(3,yb1),(6,(.fn (.func 58) [yb1] []))]

set_option maxRecDepth 100000 in
theorem whole_ok (b : List Int) (hb : Bytes8 b) (hbig : b.length ≤ 137438953472) : CallOk Try.prog 32 [(LY b)] [] true (LY (wholeF b)) [] := by
  refine CallOk.of_ev Try.func32 rfl rfl rfl ?_
  rintro ⟨_,W,S0,_,susp,_⟩ rfl rfl rfl
  refine Ev.seq ?_
  refine Ev.reg [] [0,2] (st' := ⟨[(0,(LY b)),(2,.nils)],[]⟩)
    (p := True∧True) (by kernel_rfl)
    ⟨oK,oK⟩ ?_
  refine Ev.seq ?_
  refine Ev.reg [] [0,2,3] (st' := ⟨[(0,(LY b)),(2,.nils),(3,yb1)],[(.var 95 [(LY b),(dI .u64 0)])]⟩)
    (p := T4 True) (by kernel_rfl)
    ⟨oK,oK,oK,oK,oK⟩ ?_
  refine Ev.seq ?_
  refine Ev.seq ?_
  refine Ev.reg [] [0,2,3,6] (st' := ⟨(yb0 b),[(.var 95 [(LY b),(dI .u64 0)])]⟩)
    (p := True∧True) (by kernel_rfl)
    ⟨oK,oK⟩ ?_
  refine Ev.block ?_
  refine Ev.range (gid := 58) (first := [yb1]) (cap := []) rfl (by kernel_rfl) Try.func58 rfl rfl rfl rfl (by kernel_rfl) (by kernel_rfl) ?_
  rintro ⟨_,W1,S1,_,susp1,_⟩ l1 tm1 asg1 bd1 hasg1 hbd1 rfl rfl rfl
  refine Ev.keep [0,1] 2 (st' := ⟨[(0,yb1),(1,(.yld 1))],[(.var 95 [(LY b),(dI .u64 0)]),(.loop l1 tm1 16 (yb0 b) [7] asg1 bd1 .ready none)]⟩) (by kernel_rfl) ?_
  refine Ev.block ?_
  refine Ev.loop [0,1] 2 (fun (⟨r,sl⟩ : List Int × Int) => ⟨[(0,yb1),(1,(.yld 1))],[(.var 95 [(LY r),(dI .u64 sl)]),(.loop l1 tm1 16 (yb0 b) [7] asg1 bd1 .ready none)]⟩) (fun (⟨r,sl⟩ : List Int × Int) => Bytes8 r∧r.length ≤ b.length∧(readF r sl).2 = (readF b 0).2) (fun (⟨r,sl⟩ : List Int × Int) => r.length) ⟨b,0⟩ (by kernel_rfl) (⟨hb,Nat.le_refl _,rfl⟩) ?_
  rintro ⟨r,sl⟩ hinv
  have hinv : Bytes8 r∧r.length ≤ b.length∧(readF r sl).2 = (readF b 0).2 := hinv
  obtain ⟨hr,hlen,hread⟩ := hinv
  refine Ev.block ?_
  refine Ev.seq ?_
  have hinl2 : ∀ tm2 : Array Value,InlOk Try.prog 68 [yb1] [(.var 95 [(LY r),(dI .u64 sl)]),(.loop l1 tm1 16 (yb0 b) [7] asg1 bd1 .ready none),(.frame tm2 [(7,yb1),(0,yb1),(1,(.yld 1))])] (.tup [(LI (nextL r sl)),(dB (nextB r sl))]) [(.var 95 [(LY (nextR r sl)),(dI .u64 (nextS r sl))]),(.loop l1 tm1 16 (yb0 b) [7] asg1 bd1 .ready none),(.frame tm2 [(7,yb1),(0,yb1),(1,(.yld 1))])] := by
    intro tm2
    refine ⟨_,_,Try.func68,rfl,rfl,?_⟩
    rintro ⟨_,W2,S2,_,susp2,_⟩ rfl rfl rfl
    refine Ev.seq ?_
    refine Ev.reg [] [0] (st' := ⟨[(0,yb1)],[(.var 95 [(LY r),(dI .u64 sl)]),(.loop l1 tm1 16 (yb0 b) [7] asg1 bd1 .ready none),(.frame tm2 [(7,yb1),(0,yb1),(1,(.yld 1))])]⟩)
      (p := T2 True) (by kernel_rfl)
      ⟨oK,oK,oK⟩ ?_
    refine Ev.seq ?_
    refine Ev.seq ?_
    refine Ev.reg [] [0,13] (st' := ⟨[(0,yb1),(13,(dB (decide (((r.length : Nat) : Int) < 24))))],[(.var 95 [(LY r),(dI .u64 sl)]),(.loop l1 tm1 16 (yb0 b) [7] asg1 bd1 .ready none),(.frame tm2 [(7,yb1),(0,yb1),(1,(.yld 1))])]⟩)
      (p := T6 True) (by kernel_rfl)
      ⟨oK,oK,oK,oK,oK,oK,oK⟩ ?_
    refine Ev.cond _ rfl (fun hc13 => ?_) (fun hc13 => ?_)
    · try simp only [decide_eq_true_eq,decide_eq_false_iff_not,beq_iff_eq,bne_iff_ne,ne_eq,beq_eq_false_iff_ne,bne_eq_false_iff_eq,Bool.not_eq_true,Bool.not_eq_false,Bool.not_eq_true',Bool.not_eq_false',Bool.not_not,gt_iff_lt,ge_iff_le,Nat.not_lt,Int.not_lt,Int.not_le] at hc13
      refine Ev.seq ?_
      refine Ev.reg [] [2,3] (st' := ⟨[(2,.nils),(3,(dB false))],[(.var 95 [(LY r),(dI .u64 sl)]),(.loop l1 tm1 16 (yb0 b) [7] asg1 bd1 .ready none),(.frame tm2 [(7,yb1),(0,yb1),(1,(.yld 1))])]⟩)
        (p := T2 True) (by kernel_rfl)
        ⟨oK,oK,oK⟩ ?_
      refine Ev.ret ?_
      have hbad : badN r sl := .inl (by omega)
      rw [nextL_bad hbad,nextB_bad hbad,nextR_bad hbad,nextS_bad hbad]
      refine ⟨⟨oK,oK,oK⟩,?_,by kernel_rfl⟩
      exact ⟨rfl,rfl,oK⟩
    · try simp only [decide_eq_true_eq,decide_eq_false_iff_not,beq_iff_eq,bne_iff_ne,ne_eq,beq_eq_false_iff_ne,bne_eq_false_iff_eq,Bool.not_eq_true,Bool.not_eq_false,Bool.not_eq_true',Bool.not_eq_false',Bool.not_not,gt_iff_lt,ge_iff_le,Nat.not_lt,Int.not_lt,Int.not_le] at hc13
      refine Ev.skip ?_
      refine Ev.seq ?_
      refine Ev.reg [(4,.call none false (dI .u64 ((wordN r 0 : Nat) : Int)))] [0,4] (st' := ⟨[(0,yb1),(4,(dI .u64 ((wordN r 0 : Nat) : Int)))],[(.var 95 [(LY r),(dI .u64 sl)]),(.loop l1 tm1 16 (yb0 b) [7] asg1 bd1 .ready none),(.frame tm2 [(7,yb1),(0,yb1),(1,(.yld 1))])]⟩)
        (p := T4 (callOb Try.prog 70 [(.var 95 [(LY r),(dI .u64 sl)]),(.loop l1 tm1 16 (yb0 b) [7] asg1 bd1 .ready none),(.frame tm2 [(7,yb1),(0,yb1),(1,(.yld 1))])] [(LY r),(i6 0)] none false (dI .u64 ((wordN r 0 : Nat) : Int))∧True∧True)) (by kernel_rfl)
        ⟨oK,oK,oK,oK,(word_ok r 0 (by assumption) (by first | omega | (simp; first | done | omega)) (by first | omega | (simp; first | done | omega))),oK,oK⟩ ?_
      refine Ev.seq ?_
      refine Ev.seq ?_
      rcases next_cases r sl with h4 | ⟨h4,h5⟩ | ⟨h4,h5⟩
      · skip
        refine Ev.draw 30 [false,false,false,true,true,true,true,true,true,true,true,true,true,false,false,true,true,true,true,true,true,true,true,true,true,true,true,true,true,false] [(1,.val (dB true))] [0,4,48] (st' := ⟨[(0,yb1),(4,(dI .u64 ((wordN r 0 : Nat) : Int))),(48,(dB true))],[(.var 95 [(LY r),(dI .u64 sl)]),(.loop l1 tm1 16 (yb0 b) [7] asg1 bd1 .ready none),(.frame tm2 [(7,yb1),(0,yb1),(1,(.yld 1))])]⟩)
          (p := (True∧(True∧(decide (((wordN r 0 : Nat) : Int) > 256)) = true)∧T4 True)∧True) (by kernel_rfl) (by kernel_rfl)
          ⟨⟨oK,⟨oK,(decide_eq_true (by omega))⟩,oK,oK,oK,oK,oK⟩,oK⟩ ?_
        refine Ev.cond true rfl (fun _ => ?_) (fun h => (by cases h))
        refine Ev.seq ?_
        refine Ev.reg [] [2,3] (st' := ⟨[(2,.nils),(3,(dB false))],[(.var 95 [(LY r),(dI .u64 sl)]),(.loop l1 tm1 16 (yb0 b) [7] asg1 bd1 .ready none),(.frame tm2 [(7,yb1),(0,yb1),(1,(.yld 1))])]⟩)
          (p := T2 True) (by kernel_rfl)
          ⟨oK,oK,oK⟩ ?_
        refine Ev.ret ?_
        have hbad : badN r sl := .inr (.inl (by omega))
        rw [nextL_bad hbad,nextB_bad hbad,nextR_bad hbad,nextS_bad hbad]
        refine ⟨⟨oK,oK,oK⟩,?_,by kernel_rfl⟩
        exact ⟨rfl,rfl,oK⟩
      · skip
        refine Ev.draw 30 [false,false,false,false,false,false,false,false,false,false,false,false,false,false,false,true,true,true,true,true,true,true,true,true,true,true,true,true,true,false] [(1,.val (dB false)),(9,.val (i6 ((wordN r 0 : Nat) : Int))),(10,.val (i6 ((8 * (wordN r 0) : Nat) : Int))),(11,.val (i6 ((24 + (8 * (wordN r 0)) : Nat) : Int))),(12,.val (dB true))] [0,4,48] (st' := ⟨[(0,yb1),(4,(dI .u64 ((wordN r 0 : Nat) : Int))),(48,(dB true))],[(.var 95 [(LY r),(dI .u64 sl)]),(.loop l1 tm1 16 (yb0 b) [7] asg1 bd1 .ready none),(.frame tm2 [(7,yb1),(0,yb1),(1,(.yld 1))])]⟩)
          (p := (True∧(True∧(decide (((wordN r 0 : Nat) : Int) > 256)) = false)∧T7 ((True∧(IntKind.wrap .i64 ((wordN r 0 : Nat) : Int)) = ((wordN r 0 : Nat) : Int))∧(True∧(IntKind.wrap .i64 (8 * ((wordN r 0 : Nat) : Int))) = ((8 * (wordN r 0) : Nat) : Int))∧(True∧(IntKind.wrap .i64 (24 + ((8 * (wordN r 0) : Nat) : Int))) = ((24 + (8 * (wordN r 0)) : Nat) : Int))∧(True∧(decide (((r.length : Nat) : Int) < ((24 + (8 * (wordN r 0)) : Nat) : Int))) = true)∧T3 True))∧True) (by kernel_rfl) (by kernel_rfl)
          ⟨⟨oK,⟨oK,(decide_eq_false (by omega))⟩,oK,oK,oK,oK,oK,oK,oK,⟨oK,(w64 rfl (by first | omega | (simp; first | done | omega)) (by first | omega | (simp; first | done | omega)))⟩,⟨oK,(w64n (by first | rfl | simp | omega) (by first | omega | (simp; first | done | omega)))⟩,⟨oK,(w64n (by first | rfl | simp | omega) (by first | omega | (simp; first | done | omega)))⟩,⟨oK,(decide_eq_true (by omega))⟩,oK,oK,oK,oK⟩,oK⟩ ?_
        refine Ev.cond true rfl (fun _ => ?_) (fun h => (by cases h))
        refine Ev.seq ?_
        refine Ev.reg [] [2,3] (st' := ⟨[(2,.nils),(3,(dB false))],[(.var 95 [(LY r),(dI .u64 sl)]),(.loop l1 tm1 16 (yb0 b) [7] asg1 bd1 .ready none),(.frame tm2 [(7,yb1),(0,yb1),(1,(.yld 1))])]⟩)
          (p := T2 True) (by kernel_rfl)
          ⟨oK,oK,oK⟩ ?_
        refine Ev.ret ?_
        have hbad : badN r sl := .inr (.inr (.inl (by omega)))
        rw [nextL_bad hbad,nextB_bad hbad,nextR_bad hbad,nextS_bad hbad]
        refine ⟨⟨oK,oK,oK⟩,?_,by kernel_rfl⟩
        exact ⟨rfl,rfl,oK⟩
      · skip
        refine Ev.draw 30 [false,false,false,false,false,false,false,false,false,false,false,false,false,false,false,false,false,false,false,false,false,false,false,false,false,false,false,false,false,false] [(1,.val (dB false)),(9,.val (i6 ((wordN r 0 : Nat) : Int))),(10,.val (i6 ((8 * (wordN r 0) : Nat) : Int))),(11,.val (i6 ((24 + (8 * (wordN r 0)) : Nat) : Int))),(12,.val (dB false)),(19,.call none false (dI .u64 ((wordN r 8 : Nat) : Int))),(25,.val (i6 ((wordN r 0 : Nat) : Int))),(26,.box 3 1 (encI .i64) 0 [((wordN r 0 : Nat) : Int)]),(27,.call none false (dI .u64 (tagF sl [((wordN r 0 : Nat) : Int)])))] [0,4,48] (st' := ⟨[(0,yb1),(4,(dI .u64 ((wordN r 0 : Nat) : Int))),(48,(dB (((wordN r 8 : Nat) : Int) != (tagF sl [((wordN r 0 : Nat) : Int)]))))],[(.var 95 [(LY r),(dI .u64 sl)]),(.loop l1 tm1 16 (yb0 b) [7] asg1 bd1 .ready none),(.frame tm2 [(7,yb1),(0,yb1),(1,(.yld 1))])]⟩)
          (p := (True∧(True∧(decide (((wordN r 0 : Nat) : Int) > 256)) = false)∧T7 ((True∧(IntKind.wrap .i64 ((wordN r 0 : Nat) : Int)) = ((wordN r 0 : Nat) : Int))∧(True∧(IntKind.wrap .i64 (8 * ((wordN r 0 : Nat) : Int))) = ((8 * (wordN r 0) : Nat) : Int))∧(True∧(IntKind.wrap .i64 (24 + ((8 * (wordN r 0) : Nat) : Int))) = ((24 + (8 * (wordN r 0)) : Nat) : Int))∧(True∧(decide (((r.length : Nat) : Int) < ((24 + (8 * (wordN r 0)) : Nat) : Int))) = false)∧T6 (callOb Try.prog 70 [(.var 95 [(LY r),(dI .u64 sl)]),(.loop l1 tm1 16 (yb0 b) [7] asg1 bd1 .ready none),(.frame tm2 [(7,yb1),(0,yb1),(1,(.yld 1))])] [(LY r),(i6 8)] none false (dI .u64 ((wordN r 8 : Nat) : Int))∧T5 ((True∧(IntKind.wrap .i64 ((wordN r 0 : Nat) : Int)) = ((wordN r 0 : Nat) : Int))∧eqRows [[(i6 ((wordN r 0 : Nat) : Int))]] ([((wordN r 0 : Nat) : Int)].map (encI .i64))∧callOb Try.prog 43 [(.var 95 [(LY r),(dI .u64 sl)]),(.loop l1 tm1 16 (yb0 b) [7] asg1 bd1 .ready none),(.frame tm2 [(7,yb1),(0,yb1),(1,(.yld 1))])] [(dI .u64 sl),(LI [((wordN r 0 : Nat) : Int)])] none false (dI .u64 (tagF sl [((wordN r 0 : Nat) : Int)]))∧T2 True))))∧True) (by kernel_rfl) (by kernel_rfl)
          ⟨⟨oK,⟨oK,(decide_eq_false (by omega))⟩,oK,oK,oK,oK,oK,oK,oK,⟨oK,(w64 rfl (by first | omega | (simp; first | done | omega)) (by first | omega | (simp; first | done | omega)))⟩,⟨oK,(w64n (by first | rfl | simp | omega) (by first | omega | (simp; first | done | omega)))⟩,⟨oK,(w64n (by first | rfl | simp | omega) (by first | omega | (simp; first | done | omega)))⟩,⟨oK,(decide_eq_false (by omega))⟩,oK,oK,oK,oK,oK,oK,(word_ok r 8 (by assumption) (by first | omega | (simp; first | done | omega)) (by first | omega | (simp; first | done | omega))),oK,oK,oK,oK,oK,⟨oK,(w64 rfl (by first | omega | (simp; first | done | omega)) (by first | omega | (simp; first | done | omega)))⟩,⟨⟨rfl,oK⟩,oK⟩,(tag_ok _ _),oK,oK,oK⟩,oK⟩ ?_
        refine Ev.cond _ rfl (fun hc48 => ?_) (fun hc48 => ?_)
        · try simp only [decide_eq_true_eq,decide_eq_false_iff_not,beq_iff_eq,bne_iff_ne,ne_eq,beq_eq_false_iff_ne,bne_eq_false_iff_eq,Bool.not_eq_true,Bool.not_eq_false,Bool.not_eq_true',Bool.not_eq_false',Bool.not_not,gt_iff_lt,ge_iff_le,Nat.not_lt,Int.not_lt,Int.not_le] at hc48
          refine Ev.seq ?_
          refine Ev.reg [] [2,3] (st' := ⟨[(2,.nils),(3,(dB false))],[(.var 95 [(LY r),(dI .u64 sl)]),(.loop l1 tm1 16 (yb0 b) [7] asg1 bd1 .ready none),(.frame tm2 [(7,yb1),(0,yb1),(1,(.yld 1))])]⟩)
            (p := T2 True) (by kernel_rfl)
            ⟨oK,oK,oK⟩ ?_
          refine Ev.ret ?_
          have hbad : badN r sl := .inr (.inr (.inr (.inl hc48)))
          rw [nextL_bad hbad,nextB_bad hbad,nextR_bad hbad,nextS_bad hbad]
          refine ⟨⟨oK,oK,oK⟩,?_,by kernel_rfl⟩
          exact ⟨rfl,rfl,oK⟩
        · try simp only [decide_eq_true_eq,decide_eq_false_iff_not,beq_iff_eq,bne_iff_ne,ne_eq,beq_eq_false_iff_ne,bne_eq_false_iff_eq,Bool.not_eq_true,Bool.not_eq_false,Bool.not_eq_true',Bool.not_eq_false',Bool.not_not,gt_iff_lt,ge_iff_le,Nat.not_lt,Int.not_lt,Int.not_le] at hc48
          refine Ev.skip ?_
          refine Ev.seq ?_
          refine Ev.reg [(1,.box 3 1 (encI .i64) 0 (recK r (wordN r 0) 0))] [0,4,5] (st' := ⟨[(0,yb1),(4,(dI .u64 ((wordN r 0 : Nat) : Int))),(5,(.own 3))],[(.var 95 [(LY r),(dI .u64 sl)]),(.loop l1 tm1 16 (yb0 b) [7] asg1 bd1 .ready none),(.frame tm2 [(7,yb1),(0,yb1),(1,(.yld 1))]),(.arr 3 1 (encI .i64) 0 (recK r (wordN r 0) 0))]⟩)
            (p := True∧(((0 : Int) ≤ ((wordN r 0 : Nat) : Int)∧((wordN r 0 : Nat) : Int) ≤ ((wordN r 0 : Nat) : Int)∧((wordN r 0 : Nat) : Int) ≤ 137438953472)∧(recK r (wordN r 0) 0).length = wordN r 0∧∀ x ∈ (recK r (wordN r 0) 0),eqRow [(i6 0)] ((encI .i64) x))∧True∧True) (by kernel_rfl)
            ⟨oK,⟨by omega,by rw [recK_zero]; simp,by rw [recK_zero]; simp; intros; exact ⟨rfl,oK⟩⟩,oK,oK⟩ ?_
          refine Ev.seq ?_
          refine Ev.seq ?_
          refine Ev.reg [(1,.val (i6 ((wordN r 0 : Nat) : Int)))] [0,4,5,52,53] (st' := ⟨[(0,yb1),(4,(dI .u64 ((wordN r 0 : Nat) : Int))),(5,(.own 3)),(52,(i6 ((wordN r 0 : Nat) : Int))),(53,(i6 0))],[(.var 95 [(LY r),(dI .u64 sl)]),(.loop l1 tm1 16 (yb0 b) [7] asg1 bd1 .ready none),(.frame tm2 [(7,yb1),(0,yb1),(1,(.yld 1))]),(.arr 3 1 (encI .i64) 0 (recK r (wordN r 0) 0))]⟩)
            (p := True∧(True∧(((recK r (wordN r 0) 0).length : Nat) : Int) = ((wordN r 0 : Nat) : Int))∧True∧True) (by kernel_rfl)
            ⟨oK,⟨oK,(by rw [recK_len r (wordN r 0) 0 (by omega)])⟩,oK,oK⟩ ?_
          refine Ev.block ?_
          refine Ev.loop [0,4,5,52,53] 4 (fun (k : Nat) => ⟨[(0,yb1),(4,(dI .u64 ((wordN r 0 : Nat) : Int))),(5,(.own 3)),(52,(i6 ((wordN r 0 : Nat) : Int))),(53,(i6 ((k : Nat) : Int)))],[(.var 95 [(LY r),(dI .u64 sl)]),(.loop l1 tm1 16 (yb0 b) [7] asg1 bd1 .ready none),(.frame tm2 [(7,yb1),(0,yb1),(1,(.yld 1))]),(.arr 3 1 (encI .i64) 0 (recK r (wordN r 0) k))]⟩) (fun (k : Nat) => k ≤ wordN r 0) (fun (k : Nat) => wordN r 0 - k) 0 (by kernel_rfl) (by omega) ?_
          rintro k hinv
          have hinv : k ≤ wordN r 0 := hinv
          have hk := hinv
          refine Ev.seq ?_
          refine Ev.reg [] [0,4,5,52,53,54] (st' := ⟨[(0,yb1),(4,(dI .u64 ((wordN r 0 : Nat) : Int))),(5,(.own 3)),(52,(i6 ((wordN r 0 : Nat) : Int))),(53,(i6 ((k : Nat) : Int))),(54,(dB (decide (((k : Nat) : Int) < ((wordN r 0 : Nat) : Int)))))],[(.var 95 [(LY r),(dI .u64 sl)]),(.loop l1 tm1 16 (yb0 b) [7] asg1 bd1 .ready none),(.frame tm2 [(7,yb1),(0,yb1),(1,(.yld 1))]),(.arr 3 1 (encI .i64) 0 (recK r (wordN r 0) k))]⟩)
            (p := True∧True) (by kernel_rfl)
            ⟨oK,oK⟩ ?_
          refine Ev.seq ?_
          refine Ev.cond _ rfl (fun hc54 => ?_) (fun hc54 => ?_)
          · try simp only [decide_eq_true_eq,decide_eq_false_iff_not,beq_iff_eq,bne_iff_ne,ne_eq,beq_eq_false_iff_ne,bne_eq_false_iff_eq,Bool.not_eq_true,Bool.not_eq_false,Bool.not_eq_true',Bool.not_eq_false',Bool.not_not,gt_iff_lt,ge_iff_le,Nat.not_lt,Int.not_lt,Int.not_le] at hc54
            refine Ev.skip ?_
            refine Ev.seq ?_
            refine Ev.block ?_
            refine Ev.seq ?_
            refine Ev.reg [] [0,4,5,6,52,53] (st' := ⟨[(0,yb1),(4,(dI .u64 ((wordN r 0 : Nat) : Int))),(5,(.own 3)),(6,(i6 ((k : Nat) : Int))),(52,(i6 ((wordN r 0 : Nat) : Int))),(53,(i6 ((k : Nat) : Int)))],[(.var 95 [(LY r),(dI .u64 sl)]),(.loop l1 tm1 16 (yb0 b) [7] asg1 bd1 .ready none),(.frame tm2 [(7,yb1),(0,yb1),(1,(.yld 1))]),(.arr 3 1 (encI .i64) 0 (recK r (wordN r 0) k))]⟩)
              (p := T2 True) (by kernel_rfl)
              ⟨oK,oK,oK⟩ ?_
            refine Ev.reg [(7,.val (i6 ((8 * k : Nat) : Int))),(8,.val (i6 ((16 + (8 * k) : Nat) : Int))),(9,.call none false (dI .u64 ((wordN r (16 + (8 * k)) : Nat) : Int))),(12,.box 3 1 (encI .i64) 0 (recK r (wordN r 0) (k + 1)))] [0,4,5,52,53] (st' := ⟨[(0,yb1),(4,(dI .u64 ((wordN r 0 : Nat) : Int))),(5,(.own 3)),(52,(i6 ((wordN r 0 : Nat) : Int))),(53,(i6 ((k : Nat) : Int)))],[(.var 95 [(LY r),(dI .u64 sl)]),(.loop l1 tm1 16 (yb0 b) [7] asg1 bd1 .ready none),(.frame tm2 [(7,yb1),(0,yb1),(1,(.yld 1))]),(.arr 3 1 (encI .i64) 0 (recK r (wordN r 0) (k + 1)))]⟩)
              (p := T7 ((True∧(IntKind.wrap .i64 (8 * ((k : Nat) : Int))) = ((8 * k : Nat) : Int))∧(True∧(IntKind.wrap .i64 (16 + ((8 * k : Nat) : Int))) = ((16 + (8 * k) : Nat) : Int))∧callOb Try.prog 70 [(.var 95 [(LY r),(dI .u64 sl)]),(.loop l1 tm1 16 (yb0 b) [7] asg1 bd1 .ready none),(.frame tm2 [(7,yb1),(0,yb1),(1,(.yld 1))]),(.arr 3 1 (encI .i64) 0 (recK r (wordN r 0) k))] [(LY r),(i6 ((16 + (8 * k) : Nat) : Int))] none false (dI .u64 ((wordN r (16 + (8 * k)) : Nat) : Int))∧True∧(0 ≤ ((k : Nat) : Int)∧((k : Nat) : Int) < ((recK r (wordN r 0) k).length : Int))∧(k < (recK r (wordN r 0) k).length∧((recK r (wordN r 0) k).map (encI .i64)).set k (((encI .i64) ((recK r (wordN r 0) k).getD k 0)).take 0 ++ [(.int .i64 (IntKind.wrap .i64 ((wordN r (16 + (8 * k)) : Nat) : Int)))] ++ ((encI .i64) ((recK r (wordN r 0) k).getD k 0)).drop (0 + 1)) = (recK r (wordN r 0) (k + 1)).map (encI .i64))∧True)) (by kernel_rfl)
              ⟨oK,oK,oK,oK,oK,oK,oK,⟨oK,(w64n (by first | rfl | simp | omega) (by first | omega | (simp; first | done | omega)))⟩,⟨oK,(w64n (by first | rfl | simp | omega) (by first | omega | (simp; first | done | omega)))⟩,(word_ok r (16 + (8 * k)) (by assumption) (by first | omega | (simp; first | done | omega)) (by first | omega | (simp; first | done | omega))),oK,(by rw [recK_len r (wordN r 0) k (by omega)]; omega),⟨by rw [recK_len r (wordN r 0) k (by omega)]; omega,by rw [← recK_set r (wordN r 0) k (by omega),List.map_set]; rfl⟩,oK⟩ ?_
            refine Ev.reg [(0,.val (i6 ((k + 1 : Nat) : Int)))] [0,4,5,52,53] (st' := ⟨[(0,yb1),(4,(dI .u64 ((wordN r 0 : Nat) : Int))),(5,(.own 3)),(52,(i6 ((wordN r 0 : Nat) : Int))),(53,(i6 ((k + 1 : Nat) : Int)))],[(.var 95 [(LY r),(dI .u64 sl)]),(.loop l1 tm1 16 (yb0 b) [7] asg1 bd1 .ready none),(.frame tm2 [(7,yb1),(0,yb1),(1,(.yld 1))]),(.arr 3 1 (encI .i64) 0 (recK r (wordN r 0) (k + 1)))]⟩)
              (p := (True∧(IntKind.wrap .i64 (((k : Nat) : Int) + 1)) = ((k + 1 : Nat) : Int))∧True∧True) (by kernel_rfl)
              ⟨⟨oK,(w64n (by first | rfl | simp | omega) (by first | omega | (simp; first | done | omega)))⟩,oK,oK⟩ ?_
            refine ⟨k + 1,by kernel_rfl,(?_ : (k + 1) ≤ wordN r 0),(?_ : wordN r 0 - (k + 1) < wordN r 0 - k)⟩
            · omega
            · omega
          · try simp only [decide_eq_true_eq,decide_eq_false_iff_not,beq_iff_eq,bne_iff_ne,ne_eq,beq_eq_false_iff_ne,bne_eq_false_iff_eq,Bool.not_eq_true,Bool.not_eq_false,Bool.not_eq_true',Bool.not_eq_false',Bool.not_not,gt_iff_lt,ge_iff_le,Nat.not_lt,Int.not_lt,Int.not_le] at hc54
            refine Ev.exit ?_
            refine Ev.seq ?_
            refine Ev.reg [(5,.val (i6 ((wordN r 0 : Nat) : Int))),(6,.val (i6 ((8 * (wordN r 0) : Nat) : Int))),(7,.val (i6 ((16 + (8 * (wordN r 0)) : Nat) : Int))),(8,.call none false (dI .u64 ((wordN r (16 + (8 * (wordN r 0))) : Nat) : Int)))] [0,4,5,7] (st' := ⟨[(0,yb1),(4,(dI .u64 ((wordN r 0 : Nat) : Int))),(5,(.own 3)),(7,(dI .u64 ((wordN r (16 + (8 * (wordN r 0))) : Nat) : Int)))],[(.var 95 [(LY r),(dI .u64 sl)]),(.loop l1 tm1 16 (yb0 b) [7] asg1 bd1 .ready none),(.frame tm2 [(7,yb1),(0,yb1),(1,(.yld 1))]),(.arr 3 1 (encI .i64) 0 (recK r (wordN r 0) k))]⟩)
              (p := T5 ((True∧(IntKind.wrap .i64 ((wordN r 0 : Nat) : Int)) = ((wordN r 0 : Nat) : Int))∧(True∧(IntKind.wrap .i64 (8 * ((wordN r 0 : Nat) : Int))) = ((8 * (wordN r 0) : Nat) : Int))∧(True∧(IntKind.wrap .i64 (16 + ((8 * (wordN r 0) : Nat) : Int))) = ((16 + (8 * (wordN r 0)) : Nat) : Int))∧callOb Try.prog 70 [(.var 95 [(LY r),(dI .u64 sl)]),(.loop l1 tm1 16 (yb0 b) [7] asg1 bd1 .ready none),(.frame tm2 [(7,yb1),(0,yb1),(1,(.yld 1))]),(.arr 3 1 (encI .i64) 0 (recK r (wordN r 0) k))] [(LY r),(i6 ((16 + (8 * (wordN r 0)) : Nat) : Int))] none false (dI .u64 ((wordN r (16 + (8 * (wordN r 0))) : Nat) : Int))∧True∧True)) (by kernel_rfl)
              ⟨oK,oK,oK,oK,oK,⟨oK,(w64 rfl (by first | omega | (simp; first | done | omega)) (by first | omega | (simp; first | done | omega)))⟩,⟨oK,(w64n (by first | rfl | simp | omega) (by first | omega | (simp; first | done | omega)))⟩,⟨oK,(w64n (by first | rfl | simp | omega) (by first | omega | (simp; first | done | omega)))⟩,(word_ok r (16 + (8 * (wordN r 0))) (by assumption) (by first | omega | (simp; first | done | omega)) (by first | omega | (simp; first | done | omega))),oK,oK⟩ ?_
            refine Ev.seq ?_
            refine Ev.seq ?_
            refine Ev.reg [(6,.call (some [(dI .u64 sl),(LI (recK r (wordN r 0) k))]) false (dI .u64 (tagF sl (recK r (wordN r 0) k))))] [0,4,5,7,85] (st' := ⟨[(0,yb1),(4,(dI .u64 ((wordN r 0 : Nat) : Int))),(5,(.own 3)),(7,(dI .u64 ((wordN r (16 + (8 * (wordN r 0))) : Nat) : Int))),(85,(dB (((wordN r (16 + (8 * (wordN r 0))) : Nat) : Int) != (tagF sl (recK r (wordN r 0) k)))))],[(.var 95 [(LY r),(dI .u64 sl)]),(.loop l1 tm1 16 (yb0 b) [7] asg1 bd1 .ready none),(.frame tm2 [(7,yb1),(0,yb1),(1,(.yld 1))]),(.arr 3 1 (encI .i64) 0 (recK r (wordN r 0) k))]⟩)
              (p := T6 (callOb Try.prog 43 [(.var 95 [(LY r),(dI .u64 sl)]),(.loop l1 tm1 16 (yb0 b) [7] asg1 bd1 .ready none),(.frame tm2 [(7,yb1),(0,yb1),(1,(.yld 1))]),(.arr 3 1 (encI .i64) 0 (recK r (wordN r 0) k))] [(dI .u64 sl),(.own 3)] (some [(dI .u64 sl),(LI (recK r (wordN r 0) k))]) false (dI .u64 (tagF sl (recK r (wordN r 0) k)))∧True∧True)) (by kernel_rfl)
              ⟨oK,oK,oK,oK,oK,oK,⟨⟨rfl,rfl,oK⟩,(tag_ok _ _)⟩,oK,oK⟩ ?_
            refine Ev.cond _ rfl (fun hc85 => ?_) (fun hc85 => ?_)
            · try simp only [decide_eq_true_eq,decide_eq_false_iff_not,beq_iff_eq,bne_iff_ne,ne_eq,beq_eq_false_iff_ne,bne_eq_false_iff_eq,Bool.not_eq_true,Bool.not_eq_false,Bool.not_eq_true',Bool.not_eq_false',Bool.not_not,gt_iff_lt,ge_iff_le,Nat.not_lt,Int.not_lt,Int.not_le] at hc85
              refine Ev.seq ?_
              refine Ev.reg [] [2,3] (st' := ⟨[(2,.nils),(3,(dB false))],[(.var 95 [(LY r),(dI .u64 sl)]),(.loop l1 tm1 16 (yb0 b) [7] asg1 bd1 .ready none),(.frame tm2 [(7,yb1),(0,yb1),(1,(.yld 1))]),(.arr 3 1 (encI .i64) 0 (recK r (wordN r 0) k))]⟩)
                (p := T2 True) (by kernel_rfl)
                ⟨oK,oK,oK⟩ ?_
              refine Ev.ret ?_
              have hk2 : k = wordN r 0 := by omega
              rw [hk2,recK_full] at hc85
              have hbad : badN r sl := .inr (.inr (.inr (.inr hc85)))
              rw [nextL_bad hbad,nextB_bad hbad,nextR_bad hbad,nextS_bad hbad]
              refine ⟨⟨oK,oK,oK⟩,?_,by kernel_rfl⟩
              exact ⟨rfl,rfl,oK⟩
            · try simp only [decide_eq_true_eq,decide_eq_false_iff_not,beq_iff_eq,bne_iff_ne,ne_eq,beq_eq_false_iff_ne,bne_eq_false_iff_eq,Bool.not_eq_true,Bool.not_eq_false,Bool.not_eq_true',Bool.not_eq_false',Bool.not_not,gt_iff_lt,ge_iff_le,Nat.not_lt,Int.not_lt,Int.not_le] at hc85
              refine Ev.skip ?_
              refine Ev.seq ?_
              refine Ev.reg [(7,.val (dI .u64 ((8 * wordN r 0 : Nat) : Int))),(8,.val (dI .u64 ((24 + 8 * wordN r 0 : Nat) : Int)))] [5] (st' := ⟨[(5,(.own 3))],[(.var 95 [(LY (r.drop (24 + 8 * wordN r 0))),(dI .u64 ((wordN r (16 + (8 * (wordN r 0))) : Nat) : Int))]),(.loop l1 tm1 16 (yb0 b) [7] asg1 bd1 .ready none),(.frame tm2 [(7,yb1),(0,yb1),(1,(.yld 1))]),(.arr 3 1 (encI .i64) 0 (recK r (wordN r 0) k))]⟩)
                (p := T7 ((True∧(IntKind.wrap .u64 (8 * ((wordN r 0 : Nat) : Int))) = ((8 * wordN r 0 : Nat) : Int))∧(True∧(IntKind.wrap .u64 (24 + ((8 * wordN r 0 : Nat) : Int))) = ((24 + 8 * wordN r 0 : Nat) : Int))∧(0 ≤ ((24 + 8 * wordN r 0 : Nat) : Int)∧((24 + 8 * wordN r 0 : Nat) : Int) ≤ (r.length : Int)∧(r.length : Int) ≤ (r.length : Int))∧T7 True)) (by kernel_rfl)
                ⟨oK,oK,oK,oK,oK,oK,oK,⟨oK,(wu64 (by omega) (by omega) (by omega))⟩,⟨oK,(wu64 (by omega) (by omega) (by omega))⟩,(by first | omega | (simp; first | done | omega)),oK,oK,oK,oK,oK,oK,oK,oK⟩ ?_
              refine Ev.seq ?_
              refine Ev.freeze 3 (st' := ⟨[(5,(LI (recK r (wordN r 0) k)))],[(.var 95 [(LY (r.drop (24 + 8 * wordN r 0))),(dI .u64 ((wordN r (16 + (8 * (wordN r 0))) : Nat) : Int))]),(.loop l1 tm1 16 (yb0 b) [7] asg1 bd1 .ready none),(.frame tm2 [(7,yb1),(0,yb1),(1,(.yld 1))]),.dead]⟩) (by kernel_rfl) ?_
              refine Ev.reg [] [2,3] (st' := ⟨[(2,(LI (recK r (wordN r 0) k))),(3,(dB true))],[(.var 95 [(LY (r.drop (24 + 8 * wordN r 0))),(dI .u64 ((wordN r (16 + (8 * (wordN r 0))) : Nat) : Int))]),(.loop l1 tm1 16 (yb0 b) [7] asg1 bd1 .ready none),(.frame tm2 [(7,yb1),(0,yb1),(1,(.yld 1))]),.dead]⟩)
                (p := T3 True) (by kernel_rfl)
                ⟨oK,oK,oK,oK⟩ ?_
              refine Ev.ret ?_
              have hk2 : k = wordN r 0 := by omega
              rw [hk2,recK_full] at hc85
              have hok : ¬ badN r sl := fun hh => by rcases hh with hh | hh | hh | hh | hh <;> first | omega | exact hh hc48 | exact hh hc85
              rw [nextL_ok hok,nextB_ok hok,nextR_ok hok,nextS_ok hok]
              refine ⟨⟨oK,oK,oK⟩,?_,by kernel_rfl⟩
              exact ⟨by rw [hk2,recK_full]; first | done | exact rfl,rfl,oK⟩
  refine Ev.reg [(1,.inl (.tup [(LI (nextL r sl)),(dB (nextB r sl))]) [(7,yb1),(0,yb1),(1,(.yld 1))] [(.var 95 [(LY (nextR r sl)),(dI .u64 (nextS r sl))]),(.loop l1 tm1 16 (yb0 b) [7] asg1 bd1 .ready none),.dead])] [0,1,4,5] (st' := ⟨[(0,yb1),(1,(.yld 1)),(4,(LI (nextL r sl))),(5,(dB (nextB r sl)))],[(.var 95 [(LY (nextR r sl)),(dI .u64 (nextS r sl))]),(.loop l1 tm1 16 (yb0 b) [7] asg1 bd1 .ready none),.dead]⟩)
    (p := True∧(∀ tm2 : Array Value,InlOk Try.prog 68 [yb1] [(.var 95 [(LY r),(dI .u64 sl)]),(.loop l1 tm1 16 (yb0 b) [7] asg1 bd1 .ready none),(.frame tm2 [(7,yb1),(0,yb1),(1,(.yld 1))])] (.tup [(LI (nextL r sl)),(dB (nextB r sl))]) [(.var 95 [(LY (nextR r sl)),(dI .u64 (nextS r sl))]),(.loop l1 tm1 16 (yb0 b) [7] asg1 bd1 .ready none),(.frame tm2 [(7,yb1),(0,yb1),(1,(.yld 1))])])∧True∧True∧True∧True∧True∧True) (by kernel_rfl)
    ⟨oK,hinl2,oK,oK,oK,oK,oK,oK⟩ ?_
  refine Ev.seq ?_
  rcases Bool.eq_false_or_eq_true (nextB r sl) with hn | hn
  · skip
    have hyld3 : ∀ tm3 : Array Value,YieldOk Try.prog l1 16 asg1 bd1 ⟨[(7,(LI (nextL r sl))),(0,(LY b)),(2,.nils),(3,yb1),(6,(.fn (.func 58) [yb1] []))],[(.var 95 [(LY (nextR r sl)),(dI .u64 (nextS r sl))]),(.loop l1 tm1 16 (yb0 b) [7] asg1 bd1 .ready none),.dead,(.frame tm3 [(15,(LI (nextL r sl))),(14,(.yld 1)),(13,(dB false)),(12,(dB false)),(11,(dB (nextB r sl))),(0,yb1),(1,(.yld 1)),(4,(LI (nextL r sl))),(5,(dB (nextB r sl)))])]⟩ 1 true [(.var 95 [(LY (nextR r sl)),(dI .u64 (nextS r sl))]),(.loop l1 tm1 16 (yb0 b) [7] asg1 bd1 .ready none),.dead,(.frame tm3 [(15,(LI (nextL r sl))),(14,(.yld 1)),(13,(dB false)),(12,(dB false)),(11,(dB (nextB r sl))),(0,yb1),(1,(.yld 1)),(4,(LI (nextL r sl))),(5,(dB (nextB r sl)))])] := by
      intro tm3
      rintro ⟨_,W3,S3,_,susp3,_⟩ rfl rfl rfl
      refine Ev.named hasg1 ?_
      refine Ev.skip ?_
      refine beginQ.of (tm := tm1) (nt := 16) (env := (yb0 b)) (ps := [7]) (asg := asg1) (bd := bd1) (st' := ⟨[(7,(LI (nextL r sl))),(0,(LY b)),(2,.nils),(3,yb1),(6,(.fn (.func 58) [yb1] []))],[(.var 95 [(LY (nextR r sl)),(dI .u64 (nextS r sl))]),(.loop l1 tm1 16 (yb0 b) [7] asg1 bd1 .busy none),.dead,(.frame tm3 [(15,(LI (nextL r sl))),(14,(.yld 1)),(13,(dB false)),(12,(dB false)),(11,(dB (nextB r sl))),(0,yb1),(1,(.yld 1)),(4,(LI (nextL r sl))),(5,(dB (nextB r sl)))])]⟩) (by kernel_rfl) (by kernel_rfl) ?_
      refine Ev.named hbd1 ?_
      refine Ev.block ?_
      refine Ev.skip ?_
      show roundQ _ _ _ _ _ _
      refine roundQ.of (env := (yb0 b)) (ps := [7]) (asg := asg1) (bd := bd1) (tm := tm1) (nt := 16) (s := .busy) (p := none) (by kernel_rfl) rfl (by kernel_rfl)
    refine Ev.reg [(1,.val (dB false)),(5,.yld true [(15,(LI (nextL r sl))),(14,(.yld 1)),(13,(dB false)),(12,(dB false)),(11,(dB (nextB r sl))),(0,yb1),(1,(.yld 1)),(4,(LI (nextL r sl))),(5,(dB (nextB r sl)))] [(.var 95 [(LY (nextR r sl)),(dI .u64 (nextS r sl))]),(.loop l1 tm1 16 (yb0 b) [7] asg1 bd1 .ready none),.dead,.dead])] [0,1,18] (st' := ⟨[(0,yb1),(1,(.yld 1)),(18,(dB false))],[(.var 95 [(LY (nextR r sl)),(dI .u64 (nextS r sl))]),(.loop l1 tm1 16 (yb0 b) [7] asg1 bd1 .ready none),.dead,.dead]⟩)
      (p := True∧(True∧(!(nextB r sl)) = false)∧True∧True∧True∧(∀ tm3 : Array Value,YieldOk Try.prog l1 16 asg1 bd1 ⟨[(7,(LI (nextL r sl))),(0,(LY b)),(2,.nils),(3,yb1),(6,(.fn (.func 58) [yb1] []))],[(.var 95 [(LY (nextR r sl)),(dI .u64 (nextS r sl))]),(.loop l1 tm1 16 (yb0 b) [7] asg1 bd1 .ready none),.dead,(.frame tm3 [(15,(LI (nextL r sl))),(14,(.yld 1)),(13,(dB false)),(12,(dB false)),(11,(dB (nextB r sl))),(0,yb1),(1,(.yld 1)),(4,(LI (nextL r sl))),(5,(dB (nextB r sl)))])]⟩ 1 true [(.var 95 [(LY (nextR r sl)),(dI .u64 (nextS r sl))]),(.loop l1 tm1 16 (yb0 b) [7] asg1 bd1 .ready none),.dead,(.frame tm3 [(15,(LI (nextL r sl))),(14,(.yld 1)),(13,(dB false)),(12,(dB false)),(11,(dB (nextB r sl))),(0,yb1),(1,(.yld 1)),(4,(LI (nextL r sl))),(5,(dB (nextB r sl)))])])∧True∧True∧True) (by kernel_rfl)
      ⟨oK,⟨oK,(by rw [hn]; rfl)⟩,oK,oK,oK,hyld3,oK,oK,oK⟩ ?_
    refine Ev.cond false rfl (fun h => (by cases h)) (fun _ => ?_)
    refine Ev.skip ?_
    refine ⟨⟨nextR r sl,nextS r sl⟩,by kernel_rfl,(?_ : Bytes8 (nextR r sl)∧(nextR r sl).length ≤ b.length∧(readF (nextR r sl) (nextS r sl)).2 = (readF b 0).2),(?_ : (nextR r sl).length < r.length)⟩
    · exact ⟨hr.nextR sl,Nat.le_trans (nextR_len r sl) hlen,by rw [← hread,readF_ok (nextB_true.1 hn)]⟩
    · exact by have := nextR_lt (nextB_true.1 hn); omega
  · skip
    refine Ev.reg [(1,.val (dB true))] [0,1,18] (st' := ⟨[(0,yb1),(1,(.yld 1)),(18,(dB true))],[(.var 95 [(LY (nextR r sl)),(dI .u64 (nextS r sl))]),(.loop l1 tm1 16 (yb0 b) [7] asg1 bd1 .ready none),.dead]⟩)
      (p := True∧(True∧(!(nextB r sl)) = true)∧T6 True) (by kernel_rfl)
      ⟨oK,⟨oK,(by rw [hn]; rfl)⟩,oK,oK,oK,oK,oK,oK,oK⟩ ?_
    refine Ev.cond true rfl (fun _ => ?_) (fun h => (by cases h))
    refine Ev.ret ?_
    repeat (first | refine thenQ_exit ?_ | refine blockQ_exit ?_ | refine blockQ_normal ?_)
    show rangeQ _ _ _ _ _ _ _
    refine rangeQ.of (env := (yb0 b)) (ps := [7]) (asg := asg1) (bd := bd1) (s := .ready) (p := none) (e' := .normal) (st' := ⟨(yb0 b),[(.var 95 [(LY (nextR r sl)),(dI .u64 (nextS r sl))]),.dead,.dead]⟩) (.inr rfl) (by kernel_rfl) rfl rfl (by kernel_rfl) ?_
    refine Ev.seq ?_
    have hb3 : nextR r sl = (readF b 0).2.1 := by rw [nextR_bad (nextB_false.1 hn),← hread,readF_bad (nextB_false.1 hn)]
    have hs3 : nextS r sl = (readF b 0).2.2 := by rw [nextS_bad (nextB_false.1 hn),← hread,readF_bad (nextB_false.1 hn)]
    have hl3 : (nextR r sl).length ≤ b.length := Nat.le_trans (nextR_len r sl) hlen
    refine Ev.reg [(6,.val (i6 ((b.length - (nextR r sl).length : Nat) : Int)))] [2] (st' := ⟨[(2,(LY ((b.take (b.length - (nextR r sl).length)).drop 0)))],[(.var 95 [(LY (nextR r sl)),(dI .u64 (nextS r sl))]),.dead,.dead]⟩)
      (p := T6 ((True∧(IntKind.wrap .i64 (((b.length : Nat) : Int) - (((nextR r sl).length : Nat) : Int))) = ((b.length - (nextR r sl).length : Nat) : Int))∧(0 ≤ (0 : Int)∧(0 : Int) ≤ ((b.length - (nextR r sl).length : Nat) : Int)∧((b.length - (nextR r sl).length : Nat) : Int) ≤ (b.length : Int))∧True∧True)) (by kernel_rfl)
      ⟨oK,oK,oK,oK,oK,oK,⟨oK,(w64n (by omega) (by omega))⟩,(by first | omega | (simp; first | done | omega)),oK,oK⟩ ?_
    refine Ev.ret ?_
    refine ⟨⟨oK,oK⟩,(?_ : ((b.take (b.length - (nextR r sl).length)).drop 0).map (encI .u8) = (wholeF b).map (encI .u8)),.inl rfl⟩
    rw [hb3]; rfl

end Go.Proofs.Ytjmfaebimgnblaa
