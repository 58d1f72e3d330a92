/-
  The reference of package bits: small functions, widths.
-/
import Derived.Test.YtaghhicmnalmmaaBitJ
import Derived.Test.YtaghhicmnalmmaaBitT
namespace Go.Proofs.Ytaghhicmnalmmaa
open Go.RowKit
set_option linter.unusedVariables false
set_option linter.unusedSimpArgs false
abbrev yo16 (k w : Int) : Box := (.var 23 [(i6 k),(i6 w)])
abbrev yo0 (k w : Int) : List Box := [(yo16 k w),(.var 32 [(i6 0),(i6 0)])]
abbrev yo1 : D := (.ptr 1 0 0 0)
abbrev yo2 (k w : Int) : List Box := [(yo16 k w),(.var 32 [(i6 0),(i6 1)])]
abbrev yo3 : D := (dB (fitsF 0))
abbrev yo4 (ws : List Int) : D := (dB (fitsF (ws.getD 0 0)))
abbrev yo5 (m : Nat) : D := (i6 ((m : Nat) : Int))
abbrev yo10 (ws : List Int) : D := (i6 (ws.getD 0 0))
abbrev yo6 (k w : Int) (ws : List Int) : List Box := [(yo16 k w),(.var 32 [(yo10 ws),(i6 0)])]
abbrev yo7 (ws : List Int) (k w op : Int) : List (Nat × D) := [(1,(LI ws)),(6,yo1),(7,(i6 k)),(8,(i6 w)),(9,(i6 0)),(14,(i6 op)),(42,(dB false))]
abbrev yo8 (ws : List Int) (k w op : Int) : List (Nat × D) := [(1,(LI ws)),(6,yo1),(7,(i6 k)),(8,(i6 w)),(9,(i6 0)),(14,(i6 op)),(42,(dB true))]
abbrev yo9 (j : Nat) : D := (i6 ((j : Nat) : Int))
abbrev yo14 (ws : List Int) : D := (dB (equalF ws 2))
abbrev yo11 (ws : List Int) : List (Nat × D) := [(1,(LI ws)),(6,yo1),(9,(i6 0)),(49,(yo14 ws))]
abbrev yo12 : List Box := [(.arr 4 1 encB false ([] : List Bool))]
abbrev yo13 (ws : List Int) : D := (dB (equalF ws 1))
abbrev yo15 (w : Int) : D := (dB (fitsF w))

set_option maxRecDepth 100000 in
theorem in_ok (n : Int) : CallOk Try.prog 28 [(i6 n)] [] false (dB (fitsF n)) [] := by
  refine CallOk.of_ev Try.func28 rfl rfl rfl ?_
  rintro ⟨_,W,S0,_,susp,_⟩ rfl rfl rfl
  refine Ev.seq ?_
  refine Ev.reg [] [0] (st' := ⟨[(0,(i6 n))],[]⟩)
    (p := True∧True) (by kernel_rfl)
    ⟨oK,oK⟩ ?_
  refine Ev.seq ?_
  rcases (show (n < 1) ∨ (1 ≤ n) from by omega) with h | h
  · skip
    refine Ev.reg [(1,.val (dB false))] [2] (st' := ⟨[(2,(dB false))],[]⟩)
      (p := True∧(True∧(decide (n ≥ 1)) = false)∧T5 True) (by kernel_rfl)
      ⟨oK,⟨oK,(by first | (simp; done) | (simp; omega))⟩,oK,oK,oK,oK,oK,oK⟩ ?_
    refine Ev.ret ?_
    refine ⟨⟨oK,oK⟩,(?_ : false = (fitsF n)),.inr trivial⟩
    exact (fits_no.2 (by omega)).symm
  · skip
    refine Ev.reg [(1,.val (dB true))] [2] (st' := ⟨[(2,(dB (decide (n ≤ 8))))],[]⟩)
      (p := True∧(True∧(decide (n ≥ 1)) = true)∧T5 True) (by kernel_rfl)
      ⟨oK,⟨oK,(by first | (simp; done) | (simp; omega))⟩,oK,oK,oK,oK,oK,oK⟩ ?_
    refine Ev.ret ?_
    refine ⟨⟨oK,oK⟩,(?_ : (decide (n ≤ 8)) = (fitsF n)),.inr trivial⟩
    unfold fitsF; rw [decide_eq_true h]; rfl

set_option maxRecDepth 100000 in
theorem rmask_ok (w : Int) : CallOk Try.prog 15 [(i6 w)] [] false (i6 (maskF w)) [] := by
  refine CallOk.of_ev Try.func15 rfl rfl rfl ?_
  rintro ⟨_,W,S0,_,susp,_⟩ rfl rfl rfl
  refine Ev.seq ?_
  refine Ev.reg [] [0] (st' := ⟨[(0,(i6 w))],[]⟩)
    (p := True∧True) (by kernel_rfl)
    ⟨oK,oK⟩ ?_
  refine Ev.seq ?_
  refine Ev.seq ?_
  rcases (show (w < 0) ∨ (0 ≤ w∧62 < w) ∨ (0 ≤ w∧w ≤ 62) from by omega) with h | h | h
  · skip
    refine Ev.reg [(1,.val (dB true))] [0,8] (st' := ⟨[(0,(i6 w)),(8,(dB true))],[]⟩)
      (p := True∧(True∧(decide (w < 0)) = true)∧T4 True) (by kernel_rfl)
      ⟨oK,⟨oK,(by first | (simp; done) | (simp; omega))⟩,oK,oK,oK,oK,oK⟩ ?_
    refine Ev.cond true rfl (fun _ => ?_) (fun h => (by cases h))
    refine Ev.seq ?_
    refine Ev.reg [] [2] (st' := ⟨[(2,(i6 0))],[]⟩)
      (p := True∧True) (by kernel_rfl)
      ⟨oK,oK⟩ ?_
    refine Ev.ret ?_
    refine ⟨⟨oK,oK⟩,(?_ : (0 : Int) = (maskF w)),.inr trivial⟩
    exact (if_pos (by omega)).symm
  · skip
    refine Ev.reg [(1,.val (dB false)),(4,.val (dB true))] [0,8] (st' := ⟨[(0,(i6 w)),(8,(dB true))],[]⟩)
      (p := True∧(True∧(decide (w < 0)) = false)∧T2 ((True∧(decide (w > 62)) = true)∧True∧True)) (by kernel_rfl)
      ⟨oK,⟨oK,(by first | (simp; done) | (simp; omega))⟩,oK,oK,⟨oK,(by first | (simp; done) | (simp; omega))⟩,oK,oK⟩ ?_
    refine Ev.cond true rfl (fun _ => ?_) (fun h => (by cases h))
    refine Ev.seq ?_
    refine Ev.reg [] [2] (st' := ⟨[(2,(i6 0))],[]⟩)
      (p := True∧True) (by kernel_rfl)
      ⟨oK,oK⟩ ?_
    refine Ev.ret ?_
    refine ⟨⟨oK,oK⟩,(?_ : (0 : Int) = (maskF w)),.inr trivial⟩
    exact (if_pos (by omega)).symm
  · skip
    refine Ev.reg [(1,.val (dB false)),(4,.val (dB false))] [0,8] (st' := ⟨[(0,(i6 w)),(8,(dB false))],[]⟩)
      (p := True∧(True∧(decide (w < 0)) = false)∧T2 ((True∧(decide (w > 62)) = false)∧True∧True)) (by kernel_rfl)
      ⟨oK,⟨oK,(by first | (simp; done) | (simp; omega))⟩,oK,oK,⟨oK,(by first | (simp; done) | (simp; omega))⟩,oK,oK⟩ ?_
    refine Ev.cond false rfl (fun h => (by cases h)) (fun _ => ?_)
    refine Ev.skip ?_
    refine Ev.seq ?_
    refine Ev.reg [(1,.val (dI .u64 w)),(2,.val (i6 (2 ^ w.toNat))),(3,.val (i6 (2 ^ w.toNat - 1)))] [2] (st' := ⟨[(2,(i6 (2 ^ w.toNat - 1)))],[]⟩)
      (p := True∧(True∧(IntKind.wrap .u64 w) = w)∧(0 ≤ w∧(IntKind.wrap .i64 (1 * 2 ^ min w.toNat 64)) = (2 ^ w.toNat))∧(True∧(IntKind.wrap .i64 ((2 ^ w.toNat) - 1)) = (2 ^ w.toNat - 1))∧True∧True) (by kernel_rfl)
      ⟨oK,⟨oK,(wu64 rfl (by omega) (by omega))⟩,⟨(by omega),(shl_one h.1 h.2)⟩,⟨oK,(w64 rfl (by have := pow62 (n := w.toNat) (by omega); omega) (by have := pow62 (n := w.toNat) (by omega); omega))⟩,oK,oK⟩ ?_
    refine Ev.ret ?_
    refine ⟨⟨oK,oK⟩,(?_ : (2 ^ w.toNat - 1) = (maskF w)),.inr trivial⟩
    exact (if_neg (by omega)).symm

set_option maxRecDepth 100000 in
theorem flag_ok (b : Bool) : CallOk Try.prog 38 [(dB b)] [] false (i6 (if b = true then 1 else 0)) [] := by
  refine CallOk.of_ev Try.func38 rfl rfl rfl ?_
  rintro ⟨_,W,S0,_,susp,_⟩ rfl rfl rfl
  refine Ev.seq ?_
  refine Ev.reg [] [0] (st' := ⟨[(0,(dB b))],[]⟩)
    (p := True∧True) (by kernel_rfl)
    ⟨oK,oK⟩ ?_
  refine Ev.seq ?_
  refine Ev.seq ?_
  refine Ev.reg [] [3] (st' := ⟨[(3,(dB b))],[]⟩)
    (p := True∧True) (by kernel_rfl)
    ⟨oK,oK⟩ ?_
  refine Ev.cond _ rfl (fun hc3 => ?_) (fun hc3 => ?_)
  · try simp only [decide_eq_true_eq,decide_eq_false_iff_not,beq_iff_eq,bne_iff_ne,ne_eq,beq_eq_false_iff_ne,bne_eq_false_iff_eq,Bool.not_eq_true,Bool.not_eq_false,Bool.not_eq_true',Bool.not_eq_false',Bool.not_not,gt_iff_lt,ge_iff_le,Nat.not_lt,Int.not_lt,Int.not_le] at hc3
    refine Ev.seq ?_
    refine Ev.reg [] [2] (st' := ⟨[(2,(i6 1))],[]⟩)
      (p := True∧True) (by kernel_rfl)
      ⟨oK,oK⟩ ?_
    refine Ev.ret ?_
    refine ⟨⟨oK,oK⟩,(?_ : (1 : Int) = (if b = true then 1 else 0)),.inr trivial⟩
    exact (if_pos hc3).symm
  · try simp only [decide_eq_true_eq,decide_eq_false_iff_not,beq_iff_eq,bne_iff_ne,ne_eq,beq_eq_false_iff_ne,bne_eq_false_iff_eq,Bool.not_eq_true,Bool.not_eq_false,Bool.not_eq_true',Bool.not_eq_false',Bool.not_not,gt_iff_lt,ge_iff_le,Nat.not_lt,Int.not_lt,Int.not_le] at hc3
    refine Ev.skip ?_
    refine Ev.seq ?_
    refine Ev.reg [] [2] (st' := ⟨[(2,(i6 0))],[]⟩)
      (p := True∧True) (by kernel_rfl)
      ⟨oK,oK⟩ ?_
    refine Ev.ret ?_
    refine ⟨⟨oK,oK⟩,(?_ : (0 : Int) = (if b = true then 1 else 0)),.inr trivial⟩
    exact (if_neg (by rw [hc3]; simp)).symm

set_option maxRecDepth 100000 in
theorem equal_ok (ws : List Int) (n : Nat) (hl : ws.length ≤ 9223372036854775807) (hn : n ≤ 3) : CallOk Try.prog 29 [(LI ws),(i6 ((n : Nat) : Int))] [] false (dB (equalF ws n)) [] := by
  refine CallOk.of_ev Try.func29 rfl rfl rfl ?_
  rintro ⟨_,W,S0,_,susp,_⟩ rfl rfl rfl
  refine Ev.seq ?_
  refine Ev.reg [] [0,1] (st' := ⟨[(0,(LI ws)),(1,(i6 ((n : Nat) : Int)))],[]⟩)
    (p := True∧True) (by kernel_rfl)
    ⟨oK,oK⟩ ?_
  refine Ev.seq ?_
  refine Ev.seq ?_
  refine Ev.reg [] [0,1,9] (st' := ⟨[(0,(LI ws)),(1,(i6 ((n : Nat) : Int))),(9,(dB (((ws.length : Nat) : Int) != ((n : Nat) : Int))))],[]⟩)
    (p := T4 True) (by kernel_rfl)
    ⟨oK,oK,oK,oK,oK⟩ ?_
  refine Ev.cond _ rfl (fun hc9 => ?_) (fun hc9 => ?_)
  · try simp only [decide_eq_true_eq,decide_eq_false_iff_not,beq_iff_eq,bne_iff_ne,ne_eq,beq_eq_false_iff_ne,bne_eq_false_iff_eq,Bool.not_eq_true,Bool.not_eq_false,Bool.not_eq_true',Bool.not_eq_false',Bool.not_not,gt_iff_lt,ge_iff_le,Nat.not_lt,Int.not_lt,Int.not_le] at hc9
    refine Ev.seq ?_
    refine Ev.reg [] [4] (st' := ⟨[(4,(dB false))],[]⟩)
      (p := True∧True) (by kernel_rfl)
      ⟨oK,oK⟩ ?_
    refine Ev.ret ?_
    refine ⟨⟨oK,oK⟩,(?_ : false = (equalF ws n)),.inr trivial⟩
    exact (equal_no1 (by omega)).symm
  · try simp only [decide_eq_true_eq,decide_eq_false_iff_not,beq_iff_eq,bne_iff_ne,ne_eq,beq_eq_false_iff_ne,bne_eq_false_iff_eq,Bool.not_eq_true,Bool.not_eq_false,Bool.not_eq_true',Bool.not_eq_false',Bool.not_not,gt_iff_lt,ge_iff_le,Nat.not_lt,Int.not_lt,Int.not_le] at hc9
    refine Ev.skip ?_
    refine Ev.seq ?_
    refine Ev.seq ?_
    refine Ev.reg [] [0,1,5] (st' := ⟨[(0,(LI ws)),(1,(i6 ((n : Nat) : Int))),(5,(i6 0))],[]⟩)
      (p := True∧True) (by kernel_rfl)
      ⟨oK,oK⟩ ?_
    refine Ev.block ?_
    refine Ev.loop [0,1,5] 0 (fun (i : Nat) => ⟨[(0,(LI ws)),(1,(i6 ((n : Nat) : Int))),(5,(i6 ((i : Nat) : Int)))],[]⟩) (fun (i : Nat) => i ≤ n∧ws.length = n∧∀ j,j < i → fitsF (ws.getD j 0) = true) (fun (i : Nat) => n - i) 0 (by kernel_rfl) (⟨by omega,by omega,fun j hj => by omega⟩) ?_
    rintro i hinv
    have hinv : i ≤ n∧ws.length = n∧∀ j,j < i → fitsF (ws.getD j 0) = true := hinv
    obtain ⟨hi,hln,hall⟩ := hinv
    refine Ev.seq ?_
    refine Ev.seq ?_
    refine Ev.reg [] [0,1,5,12] (st' := ⟨[(0,(LI ws)),(1,(i6 ((n : Nat) : Int))),(5,(i6 ((i : Nat) : Int))),(12,(dB (decide (((i : Nat) : Int) < ((n : Nat) : Int)))))],[]⟩)
      (p := T3 True) (by kernel_rfl)
      ⟨oK,oK,oK,oK⟩ ?_
    refine Ev.cond _ rfl (fun hc12 => ?_) (fun hc12 => ?_)
    · try simp only [decide_eq_true_eq,decide_eq_false_iff_not,beq_iff_eq,bne_iff_ne,ne_eq,beq_eq_false_iff_ne,bne_eq_false_iff_eq,Bool.not_eq_true,Bool.not_eq_false,Bool.not_eq_true',Bool.not_eq_false',Bool.not_not,gt_iff_lt,ge_iff_le,Nat.not_lt,Int.not_lt,Int.not_le] at hc12
      refine Ev.skip ?_
      refine Ev.seq ?_
      refine Ev.block ?_
      refine Ev.seq ?_
      refine Ev.reg [(4,.call none false (dB (fitsF (ws.getD i 0))))] [0,1,5,20] (st' := ⟨[(0,(LI ws)),(1,(i6 ((n : Nat) : Int))),(5,(i6 ((i : Nat) : Int))),(20,(dB (!(fitsF (ws.getD i 0)))))],[]⟩)
        (p := T2 ((0 ≤ ((i : Nat) : Int)∧((i : Nat) : Int) < (ws.length : Int))∧True∧callOb Try.prog 28 [] [(i6 (ws.getD i 0))] none false (dB (fitsF (ws.getD i 0)))∧True∧True)) (by kernel_rfl)
        ⟨oK,oK,(by first | omega | (simp; first | done | omega)),oK,(in_ok _),oK,oK⟩ ?_
      refine Ev.cond _ rfl (fun hc20 => ?_) (fun hc20 => ?_)
      · try simp only [decide_eq_true_eq,decide_eq_false_iff_not,beq_iff_eq,bne_iff_ne,ne_eq,beq_eq_false_iff_ne,bne_eq_false_iff_eq,Bool.not_eq_true,Bool.not_eq_false,Bool.not_eq_true',Bool.not_eq_false',Bool.not_not,gt_iff_lt,ge_iff_le,Nat.not_lt,Int.not_lt,Int.not_le] at hc20
        refine Ev.seq ?_
        refine Ev.reg [] [4] (st' := ⟨[(4,(dB false))],[]⟩)
          (p := True∧True) (by kernel_rfl)
          ⟨oK,oK⟩ ?_
        refine Ev.ret ?_
        refine ⟨⟨oK,oK⟩,(?_ : false = (equalF ws n)),.inr trivial⟩
        exact (equal_no2 (i := i) (by omega) (by simpa using hc20)).symm
      · try simp only [decide_eq_true_eq,decide_eq_false_iff_not,beq_iff_eq,bne_iff_ne,ne_eq,beq_eq_false_iff_ne,bne_eq_false_iff_eq,Bool.not_eq_true,Bool.not_eq_false,Bool.not_eq_true',Bool.not_eq_false',Bool.not_not,gt_iff_lt,ge_iff_le,Nat.not_lt,Int.not_lt,Int.not_le] at hc20
        refine Ev.skip ?_
        refine Ev.reg [(1,.val (i6 ((i + 1 : Nat) : Int)))] [0,1,5] (st' := ⟨[(0,(LI ws)),(1,(i6 ((n : Nat) : Int))),(5,(i6 ((i + 1 : Nat) : Int)))],[]⟩)
          (p := True∧(True∧(IntKind.wrap .i64 (((i : Nat) : Int) + 1)) = ((i + 1 : Nat) : Int))∧True∧True) (by kernel_rfl)
          ⟨oK,⟨oK,(w64n (by first | rfl | simp | omega) (by first | omega | (simp; first | done | omega)))⟩,oK,oK⟩ ?_
        refine ⟨i + 1,by kernel_rfl,(?_ : (i + 1) ≤ n∧ws.length = n∧∀ j,j < (i + 1) → fitsF (ws.getD j 0) = true),(?_ : n - (i + 1) < n - i)⟩
        · exact ⟨by omega,hln,lt_more hall (by simpa using hc20)⟩
        · omega
    · try simp only [decide_eq_true_eq,decide_eq_false_iff_not,beq_iff_eq,bne_iff_ne,ne_eq,beq_eq_false_iff_ne,bne_eq_false_iff_eq,Bool.not_eq_true,Bool.not_eq_false,Bool.not_eq_true',Bool.not_eq_false',Bool.not_not,gt_iff_lt,ge_iff_le,Nat.not_lt,Int.not_lt,Int.not_le] at hc12
      refine Ev.exit ?_
      refine Ev.seq ?_
      rcases (show (n < 2) ∨ (2 ≤ n) from by omega) with h | h
      · skip
        refine Ev.draw 16 [false,false,false,true,true,true,true,true,true,true,true,true,true,true,false,false] [(1,.val (dB true))] [4] (st' := ⟨[(4,(dB true))],[]⟩)
          (p := (True∧(True∧(decide (((n : Nat) : Int) < 2)) = true)∧T3 True)∧True) (by kernel_rfl) (by kernel_rfl)
          ⟨⟨oK,⟨oK,(by first | (simp; done) | (simp; omega))⟩,oK,oK,oK,oK⟩,oK⟩ ?_
        refine Ev.ret ?_
        refine ⟨⟨oK,oK⟩,(?_ : true = (equalF ws n)),.inr trivial⟩
        exact (equal_small hln (fun j hj => hall j (by omega)) h).symm
      · skip
        refine Ev.draw 16 [false,false,false,false,false,false,false,false,false,false,false,false,false,false,false,false] [(1,.val (dB false)),(5,.val (i6 ((n - 1 : Nat) : Int))),(10,.val (i6 ((n - 2 : Nat) : Int)))] [4] (st' := ⟨[(4,(dB ((ws.getD (n - 1) 0) == (ws.getD (n - 2) 0))))],[]⟩)
          (p := (True∧(True∧(decide (((n : Nat) : Int) < 2)) = false)∧T3 ((True∧(IntKind.wrap .i64 (((n : Nat) : Int) - 1)) = ((n - 1 : Nat) : Int))∧(0 ≤ ((n - 1 : Nat) : Int)∧((n - 1 : Nat) : Int) < (ws.length : Int))∧T3 ((True∧(IntKind.wrap .i64 (((n : Nat) : Int) - 2)) = ((n - 2 : Nat) : Int))∧(0 ≤ ((n - 2 : Nat) : Int)∧((n - 2 : Nat) : Int) < (ws.length : Int))∧T4 True)))∧True) (by kernel_rfl) (by kernel_rfl)
          ⟨⟨oK,⟨oK,(by first | (simp; done) | (simp; omega))⟩,oK,oK,oK,⟨oK,(w64n (by omega) (by omega))⟩,(by first | omega | (simp; first | done | omega)),oK,oK,oK,⟨oK,(w64n (by omega) (by omega))⟩,(by first | omega | (simp; first | done | omega)),oK,oK,oK,oK,oK⟩,oK⟩ ?_
        refine Ev.ret ?_
        refine ⟨⟨oK,oK⟩,(?_ : ((ws.getD (n - 1) 0) == (ws.getD (n - 2) 0)) = (equalF ws n)),.inr trivial⟩
        exact (equal_big hln (fun j hj => hall j (by omega)) h).symm

set_option maxRecDepth 100000 in
theorem rsplit_good (v : Int) (m : Nat) (hm : m ≤ 62) : CallOk Try.prog 18 [(i6 v),(yo5 m)] [] true (LB (splitN v m)) [] := by
  refine CallOk.of_ev Try.func18 rfl rfl rfl ?_
  rintro ⟨_,W,S0,_,susp,_⟩ rfl rfl rfl
  refine Ev.seq ?_
  refine Ev.reg [] [0,1] (st' := ⟨[(0,(i6 v)),(1,(yo5 m))],[]⟩)
    (p := True∧True) (by kernel_rfl)
    ⟨oK,oK⟩ ?_
  refine Ev.seq ?_
  refine Ev.reg [(0,.box 4 1 encB false (splitN v 0))] [0,1,5] (st' := ⟨[(0,(i6 v)),(1,(yo5 m)),(5,(.own 0))],[(.arr 4 1 encB false (splitN v 0))]⟩)
    (p := eqRows [] ((splitN v 0).map encB)∧True∧True) (by kernel_rfl)
    ⟨oK,oK,oK⟩ ?_
  refine Ev.seq ?_
  refine Ev.seq ?_
  refine Ev.reg [] [0,1,5,6] (st' := ⟨[(0,(i6 v)),(1,(yo5 m)),(5,(.own 0)),(6,(i6 0))],[(.arr 4 1 encB false (splitN v 0))]⟩)
    (p := True∧True) (by kernel_rfl)
    ⟨oK,oK⟩ ?_
  refine Ev.block ?_
  refine Ev.loop [0,1,5,6] 1 (fun (j : Nat) => ⟨[(0,(i6 v)),(1,(yo5 m)),(5,(.own 0)),(6,(yo9 j))],[(.arr 4 1 encB false (splitN v j))]⟩) (fun (j : Nat) => j ≤ m) (fun (j : Nat) => m - j) 0 (by kernel_rfl) (by omega) ?_
  rintro j hinv
  have hinv : j ≤ m := hinv
  have hk := hinv
  refine Ev.seq ?_
  refine Ev.seq ?_
  rcases (show (j < m) ∨ (j = m) from by omega) with h | h
  · skip
    refine Ev.reg [(2,.val (dB true)),(5,.val (dB true))] [0,1,5,6,14] (st' := ⟨[(0,(i6 v)),(1,(yo5 m)),(5,(.own 0)),(6,(yo9 j)),(14,(dB true))],[(.arr 4 1 encB false (splitN v j))]⟩)
      (p := T2 ((True∧(decide (((j : Nat) : Int) < ((m : Nat) : Int))) = true)∧T2 ((True∧(decide (((m : Nat) : Int) ≤ 62)) = true)∧True∧True))) (by kernel_rfl)
      ⟨oK,oK,⟨oK,(by first | (simp; done) | (simp; omega))⟩,oK,oK,⟨oK,(by first | (simp; done) | (simp; omega))⟩,oK,oK⟩ ?_
    refine Ev.cond true rfl (fun _ => ?_) (fun h => (by cases h))
    refine Ev.skip ?_
    refine Ev.seq ?_
    refine Ev.block ?_
    refine Ev.reg [(3,.val (dI .u64 ((j : Nat) : Int))),(4,.val (i6 (shrF v j))),(5,.val (i6 (shrF v j % 2))),(7,.box 4 1 encB false [(shrF v j % 2) == 1]),(8,.box 4 1 encB false (splitN v (j + 1)))] [0,1,5,6] (st' := ⟨[(0,(i6 v)),(1,(yo5 m)),(5,(.own 0)),(6,(yo9 j))],[(.arr 4 1 encB false (splitN v (j + 1))),(.arr 4 1 encB false [(shrF v j % 2) == 1])]⟩)
      (p := T3 ((True∧(IntKind.wrap .u64 ((j : Nat) : Int)) = ((j : Nat) : Int))∧(0 ≤ ((j : Nat) : Int)∧(Int.fdiv v (2 ^ min j 64)) = (shrF v j))∧(True∧(IntKind.wrap .i64 (BitVec.ofInt (IntKind.i64).bits (shrF v j) &&& BitVec.ofInt (IntKind.i64).bits 1).toNat) = (shrF v j % 2))∧True∧eqRows [[(dB ((shrF v j % 2) == 1))]] ([(shrF v j % 2) == 1].map encB)∧((splitN v j).length + ([(shrF v j % 2) == 1].map encB).length ≤ 137438953472∧(splitN v j).map encB ++ [(shrF v j % 2) == 1].map encB = (splitN v (j + 1)).map encB)∧True∧True)) (by kernel_rfl)
      ⟨oK,oK,oK,⟨oK,(wu64 rfl (by first | omega | (simp; first | done | omega)) (by first | omega | (simp; first | done | omega)))⟩,⟨(by omega),(shr_bit (by omega))⟩,⟨oK,(and_one _)⟩,oK,⟨⟨rfl,oK⟩,oK⟩,⟨by simp only [List.length_map,List.length_cons,List.length_nil]; rw [splitN_len]; omega,by rw [splitN_succ,List.map_append]⟩,oK,oK⟩ ?_
    refine Ev.reg [(1,.val (i6 ((j + 1 : Nat) : Int)))] [0,1,5,6] (st' := ⟨[(0,(i6 v)),(1,(yo5 m)),(5,(.own 0)),(6,(i6 ((j + 1 : Nat) : Int)))],[(.arr 4 1 encB false (splitN v (j + 1))),(.arr 4 1 encB false [(shrF v j % 2) == 1])]⟩)
      (p := True∧(True∧(IntKind.wrap .i64 (((j : Nat) : Int) + 1)) = ((j + 1 : Nat) : Int))∧True∧True) (by kernel_rfl)
      ⟨oK,⟨oK,(w64n (by first | rfl | simp | omega) (by first | omega | (simp; first | done | omega)))⟩,oK,oK⟩ ?_
    refine ⟨j + 1,by kernel_rfl,(?_ : (j + 1) ≤ m),(?_ : m - (j + 1) < m - j)⟩
    · omega
    · omega
  · skip
    refine Ev.reg [(2,.val (dB false))] [0,1,5,6,14] (st' := ⟨[(0,(i6 v)),(1,(yo5 m)),(5,(.own 0)),(6,(yo9 j)),(14,(dB false))],[(.arr 4 1 encB false (splitN v j))]⟩)
      (p := T2 ((True∧(decide (((j : Nat) : Int) < ((m : Nat) : Int))) = false)∧T4 True)) (by kernel_rfl)
      ⟨oK,oK,⟨oK,(by first | (simp; done) | (simp; omega))⟩,oK,oK,oK,oK,oK⟩ ?_
    refine Ev.cond false rfl (fun h => (by cases h)) (fun _ => ?_)
    refine Ev.exit ?_
    refine Ev.seq ?_
    refine Ev.freeze 0 (st' := ⟨[(0,(i6 v)),(1,(yo5 m)),(5,(LB (splitN v j))),(6,(yo9 j)),(14,(dB false))],[.dead]⟩) (by kernel_rfl) ?_
    refine Ev.reg [] [4] (st' := ⟨[(4,(LB (splitN v j)))],[.dead]⟩)
      (p := T2 True) (by kernel_rfl)
      ⟨oK,oK,oK⟩ ?_
    refine Ev.ret ?_
    refine ⟨⟨oK,oK⟩,(?_ : (splitN v j).map encB = (splitN v m).map encB),.inl rfl⟩
    rw [h]

set_option maxRecDepth 100000 in
theorem rsplit_bad (v w : Int) (hw : w < 0 ∨ 62 < w) : CallOk Try.prog 18 [(i6 v),(i6 w)] [] true (LB ([] : List Bool)) [] := by
  refine CallOk.of_ev Try.func18 rfl rfl rfl ?_
  rintro ⟨_,W,S0,_,susp,_⟩ rfl rfl rfl
  refine Ev.seq ?_
  refine Ev.reg [] [0,1] (st' := ⟨[(0,(i6 v)),(1,(i6 w))],[]⟩)
    (p := True∧True) (by kernel_rfl)
    ⟨oK,oK⟩ ?_
  refine Ev.seq ?_
  refine Ev.reg [(0,.box 4 1 encB false ([] : List Bool))] [0,1,5] (st' := ⟨[(0,(i6 v)),(1,(i6 w)),(5,(.own 0))],yo12⟩)
    (p := eqRows [] (([] : List Bool).map encB)∧True∧True) (by kernel_rfl)
    ⟨oK,oK,oK⟩ ?_
  refine Ev.seq ?_
  refine Ev.seq ?_
  refine Ev.reg [] [0,1,5,6] (st' := ⟨[(0,(i6 v)),(1,(i6 w)),(5,(.own 0)),(6,(i6 0))],yo12⟩)
    (p := True∧True) (by kernel_rfl)
    ⟨oK,oK⟩ ?_
  refine Ev.block ?_
  refine Ev.loop [0,1,5,6] 1 (fun (j : Nat) => ⟨[(0,(i6 v)),(1,(i6 w)),(5,(.own 0)),(6,(yo9 j))],yo12⟩) (fun (j : Nat) => j = 0) (fun (j : Nat) => 0) 0 (by kernel_rfl) (rfl) ?_
  rintro j hinv
  have hinv : j = 0 := hinv
  have hk := hinv
  refine Ev.seq ?_
  refine Ev.seq ?_
  rcases (show (w < 0) ∨ (62 < w) from by omega) with h | h
  · skip
    refine Ev.reg [(2,.val (dB false))] [0,1,5,6,14] (st' := ⟨[(0,(i6 v)),(1,(i6 w)),(5,(.own 0)),(6,(yo9 j)),(14,(dB false))],yo12⟩)
      (p := T2 ((True∧(decide (((j : Nat) : Int) < w)) = false)∧T4 True)) (by kernel_rfl)
      ⟨oK,oK,⟨oK,(by first | (simp; done) | (simp; omega))⟩,oK,oK,oK,oK,oK⟩ ?_
    refine Ev.cond false rfl (fun h => (by cases h)) (fun _ => ?_)
    refine Ev.exit ?_
    refine Ev.seq ?_
    refine Ev.freeze 0 (st' := ⟨[(0,(i6 v)),(1,(i6 w)),(5,(LB ([] : List Bool))),(6,(yo9 j)),(14,(dB false))],[.dead]⟩) (by kernel_rfl) ?_
    refine Ev.reg [] [4] (st' := ⟨[(4,(LB ([] : List Bool)))],[.dead]⟩)
      (p := T2 True) (by kernel_rfl)
      ⟨oK,oK,oK⟩ ?_
    refine Ev.ret ?_
    refine ⟨⟨oK,oK⟩,(?_ : ([] : List Bool).map encB = ([] : List Bool).map encB),.inl rfl⟩
    rfl
  · skip
    refine Ev.reg [(2,.val (dB true)),(5,.val (dB false))] [0,1,5,6,14] (st' := ⟨[(0,(i6 v)),(1,(i6 w)),(5,(.own 0)),(6,(yo9 j)),(14,(dB false))],yo12⟩)
      (p := T2 ((True∧(decide (((j : Nat) : Int) < w)) = true)∧T2 ((True∧(decide (w ≤ 62)) = false)∧True∧True))) (by kernel_rfl)
      ⟨oK,oK,⟨oK,(by first | (simp; done) | (simp; omega))⟩,oK,oK,⟨oK,(by first | (simp; done) | (simp; omega))⟩,oK,oK⟩ ?_
    refine Ev.cond false rfl (fun h => (by cases h)) (fun _ => ?_)
    refine Ev.exit ?_
    refine Ev.seq ?_
    refine Ev.freeze 0 (st' := ⟨[(0,(i6 v)),(1,(i6 w)),(5,(LB ([] : List Bool))),(6,(yo9 j)),(14,(dB false))],[.dead]⟩) (by kernel_rfl) ?_
    refine Ev.reg [] [4] (st' := ⟨[(4,(LB ([] : List Bool)))],[.dead]⟩)
      (p := T2 True) (by kernel_rfl)
      ⟨oK,oK,oK⟩ ?_
    refine Ev.ret ?_
    refine ⟨⟨oK,oK⟩,(?_ : ([] : List Bool).map encB = ([] : List Bool).map encB),.inl rfl⟩
    rfl

theorem rsplit_ok (v w : Int) : CallOk Try.prog 18 [dI .i64 v,dI .i64 w] [] true (dL 1 encB false (splitF v w)) [] := by
  by_cases h : w < 0 ∨ 62 < w
  · rw [show splitF v w = [] from if_pos h]
    exact rsplit_bad v w h
  · obtain ⟨m,rfl⟩ := Int.eq_ofNat_of_zero_le (a := w) (by omega)
    rw [show splitF v (m : Int) = splitN v m from if_neg h]
    exact rsplit_good v m (by omega)

set_option maxRecDepth 100000 in
theorem rjoin_ok (l : List Bool) (hl : l.length ≤ 9223372036854775807) : CallOk Try.prog 20 [(LB l)] [] false (i6 ((joinN l (min l.length 62) : Nat) : Int)) [] := by
  refine CallOk.of_ev Try.func20 rfl rfl rfl ?_
  rintro ⟨_,W,S0,_,susp,_⟩ rfl rfl rfl
  refine Ev.seq ?_
  refine Ev.reg [] [0] (st' := ⟨[(0,(LB l))],[]⟩)
    (p := True∧True) (by kernel_rfl)
    ⟨oK,oK⟩ ?_
  refine Ev.seq ?_
  refine Ev.reg [] [0,3] (st' := ⟨[(0,(LB l)),(3,(i6 0))],[]⟩)
    (p := True∧True) (by kernel_rfl)
    ⟨oK,oK⟩ ?_
  refine Ev.seq ?_
  refine Ev.seq ?_
  refine Ev.reg [] [0,3,4] (st' := ⟨[(0,(LB l)),(3,(i6 0)),(4,(i6 0))],[]⟩)
    (p := True∧True) (by kernel_rfl)
    ⟨oK,oK⟩ ?_
  refine Ev.block ?_
  refine Ev.loop [0,3,4] 0 (fun (⟨j,m⟩ : Nat × Nat) => ⟨[(0,(LB l)),(3,(yo5 m)),(4,(yo9 j))],[]⟩) (fun (⟨j,m⟩ : Nat × Nat) => j ≤ min l.length 62∧m = joinN l j) (fun (⟨j,m⟩ : Nat × Nat) => min l.length 62 - j) ⟨0,0⟩ (by kernel_rfl) (⟨by omega,rfl⟩) ?_
  rintro ⟨j,m⟩ hinv
  have hinv : j ≤ min l.length 62∧m = joinN l j := hinv
  obtain ⟨hk,hm⟩ := hinv
  refine Ev.seq ?_
  refine Ev.seq ?_
  rcases (show (l.length ≤ j) ∨ (j < l.length∧62 ≤ j) ∨ (j < l.length∧j < 62) from by omega) with h | h | h
  · skip
    refine Ev.reg [(3,.val (dB false))] [0,3,4,12] (st' := ⟨[(0,(LB l)),(3,(yo5 m)),(4,(yo9 j)),(12,(dB false))],[]⟩)
      (p := T3 ((True∧(decide (((j : Nat) : Int) < ((l.length : Nat) : Int))) = false)∧T4 True)) (by kernel_rfl)
      ⟨oK,oK,oK,⟨oK,(by first | (simp; done) | (simp; omega))⟩,oK,oK,oK,oK,oK⟩ ?_
    refine Ev.cond false rfl (fun h => (by cases h)) (fun _ => ?_)
    refine Ev.exit ?_
    refine Ev.seq ?_
    refine Ev.reg [] [2] (st' := ⟨[(2,(yo5 m))],[]⟩)
      (p := T2 True) (by kernel_rfl)
      ⟨oK,oK,oK⟩ ?_
    refine Ev.ret ?_
    refine ⟨⟨oK,oK⟩,(?_ : ((m : Nat) : Int) = ((joinN l (min l.length 62) : Nat) : Int)),.inr trivial⟩
    have hke : j = min l.length 62 := by omega
    rw [hm,hke]
  · skip
    refine Ev.reg [(3,.val (dB true)),(6,.val (dB false))] [0,3,4,12] (st' := ⟨[(0,(LB l)),(3,(yo5 m)),(4,(yo9 j)),(12,(dB false))],[]⟩)
      (p := T3 ((True∧(decide (((j : Nat) : Int) < ((l.length : Nat) : Int))) = true)∧T2 ((True∧(decide (((j : Nat) : Int) < 62)) = false)∧True∧True))) (by kernel_rfl)
      ⟨oK,oK,oK,⟨oK,(by first | (simp; done) | (simp; omega))⟩,oK,oK,⟨oK,(by first | (simp; done) | (simp; omega))⟩,oK,oK⟩ ?_
    refine Ev.cond false rfl (fun h => (by cases h)) (fun _ => ?_)
    refine Ev.exit ?_
    refine Ev.seq ?_
    refine Ev.reg [] [2] (st' := ⟨[(2,(yo5 m))],[]⟩)
      (p := T2 True) (by kernel_rfl)
      ⟨oK,oK,oK⟩ ?_
    refine Ev.ret ?_
    refine ⟨⟨oK,oK⟩,(?_ : ((m : Nat) : Int) = ((joinN l (min l.length 62) : Nat) : Int)),.inr trivial⟩
    have hke : j = min l.length 62 := by omega
    rw [hm,hke]
  · skip
    refine Ev.reg [(3,.val (dB true)),(6,.val (dB true))] [0,3,4,12] (st' := ⟨[(0,(LB l)),(3,(yo5 m)),(4,(yo9 j)),(12,(dB true))],[]⟩)
      (p := T3 ((True∧(decide (((j : Nat) : Int) < ((l.length : Nat) : Int))) = true)∧T2 ((True∧(decide (((j : Nat) : Int) < 62)) = true)∧True∧True))) (by kernel_rfl)
      ⟨oK,oK,oK,⟨oK,(by first | (simp; done) | (simp; omega))⟩,oK,oK,⟨oK,(by first | (simp; done) | (simp; omega))⟩,oK,oK⟩ ?_
    refine Ev.cond true rfl (fun _ => ?_) (fun h => (by cases h))
    refine Ev.skip ?_
    refine Ev.seq ?_
    refine Ev.block ?_
    refine Ev.seq ?_
    refine Ev.reg [] [0,3,4,18] (st' := ⟨[(0,(LB l)),(3,(yo5 m)),(4,(yo9 j)),(18,(dB (l.getD j false)))],[]⟩)
      (p := T2 ((0 ≤ ((j : Nat) : Int)∧((j : Nat) : Int) < (l.length : Int))∧True∧True)) (by kernel_rfl)
      ⟨oK,oK,(by first | omega | (simp; first | done | omega)),oK,oK⟩ ?_
    refine Ev.cond _ rfl (fun hc18 => ?_) (fun hc18 => ?_)
    · try simp only [decide_eq_true_eq,decide_eq_false_iff_not,beq_iff_eq,bne_iff_ne,ne_eq,beq_eq_false_iff_ne,bne_eq_false_iff_eq,Bool.not_eq_true,Bool.not_eq_false,Bool.not_eq_true',Bool.not_eq_false',Bool.not_not,gt_iff_lt,ge_iff_le,Nat.not_lt,Int.not_lt,Int.not_le] at hc18
      refine Ev.reg [(2,.val (dI .u64 ((j : Nat) : Int))),(4,.val (i6 ((joinN l (j + 1) : Nat) : Int)))] [0,3,4] (st' := ⟨[(0,(LB l)),(3,(i6 ((joinN l (j + 1) : Nat) : Int))),(4,(yo9 j))],[]⟩)
        (p := T2 ((True∧(IntKind.wrap .u64 ((j : Nat) : Int)) = ((j : Nat) : Int))∧0 ≤ ((j : Nat) : Int)∧(True∧(IntKind.wrap .i64 (BitVec.ofInt (IntKind.i64).bits ((m : Nat) : Int) ||| BitVec.ofInt (IntKind.i64).bits (IntKind.wrap .i64 (1 * 2 ^ min j 64))).toNat) = ((joinN l (j + 1) : Nat) : Int))∧True∧True)) (by kernel_rfl)
        ⟨oK,oK,⟨oK,(wu64 rfl (by first | omega | (simp; first | done | omega)) (by first | omega | (simp; first | done | omega)))⟩,(by omega),⟨oK,(by rw [hm]; exact join_one (by omega) hc18)⟩,oK,oK⟩ ?_
      refine Ev.reg [(1,.val (i6 ((j + 1 : Nat) : Int)))] [0,3,4] (st' := ⟨[(0,(LB l)),(3,(i6 ((joinN l (j + 1) : Nat) : Int))),(4,(i6 ((j + 1 : Nat) : Int)))],[]⟩)
        (p := True∧(True∧(IntKind.wrap .i64 (((j : Nat) : Int) + 1)) = ((j + 1 : Nat) : Int))∧True∧True) (by kernel_rfl)
        ⟨oK,⟨oK,(w64n (by first | rfl | simp | omega) (by first | omega | (simp; first | done | omega)))⟩,oK,oK⟩ ?_
      refine ⟨⟨j + 1,joinN l (j + 1)⟩,by kernel_rfl,(?_ : (j + 1) ≤ min l.length 62∧(joinN l (j + 1)) = joinN l (j + 1)),(?_ : min l.length 62 - (j + 1) < min l.length 62 - j)⟩
      · exact ⟨by omega,rfl⟩
      · omega
    · try simp only [decide_eq_true_eq,decide_eq_false_iff_not,beq_iff_eq,bne_iff_ne,ne_eq,beq_eq_false_iff_ne,bne_eq_false_iff_eq,Bool.not_eq_true,Bool.not_eq_false,Bool.not_eq_true',Bool.not_eq_false',Bool.not_not,gt_iff_lt,ge_iff_le,Nat.not_lt,Int.not_lt,Int.not_le] at hc18
      refine Ev.skip ?_
      refine Ev.reg [(1,.val (i6 ((j + 1 : Nat) : Int)))] [0,3,4] (st' := ⟨[(0,(LB l)),(3,(yo5 m)),(4,(i6 ((j + 1 : Nat) : Int)))],[]⟩)
        (p := True∧(True∧(IntKind.wrap .i64 (((j : Nat) : Int) + 1)) = ((j + 1 : Nat) : Int))∧True∧True) (by kernel_rfl)
        ⟨oK,⟨oK,(w64n (by first | rfl | simp | omega) (by first | omega | (simp; first | done | omega)))⟩,oK,oK⟩ ?_
      refine ⟨⟨j + 1,m⟩,by kernel_rfl,(?_ : (j + 1) ≤ min l.length 62∧m = joinN l (j + 1)),(?_ : min l.length 62 - (j + 1) < min l.length 62 - j)⟩
      · exact ⟨by omega,by rw [join_none (by simpa using hc18)]; exact hm⟩
      · omega

set_option maxRecDepth 100000 in
theorem WidthIn_ok (op : Int) (ws : List Int) (k w : Int) (hwl : ws.length ≤ 9223372036854775807) : CallOk Try.prog 11 [(i6 op),(LI ws),(.agg [(i6 k),(i6 w)])] [] false (.agg [(i6 (widthV op ws k w)),(i6 (widthE op ws k w))]) [] := by
  refine CallOk.of_ev Try.func11 rfl rfl rfl ?_
  rintro ⟨_,W,S0,_,susp,_⟩ rfl rfl rfl
  refine Ev.seq ?_
  refine Ev.reg [] [0,1,5,6] (st' := ⟨[(0,(i6 op)),(1,(LI ws)),(5,(.ptr 0 0 0 0)),(6,yo1)],(yo0 k w)⟩)
    (p := T2 True) (by kernel_rfl)
    ⟨oK,oK,oK⟩ ?_
  refine Ev.seq ?_
  refine Ev.draw 7 [false,false,false,false,false,false,false] [] [0,1,6,7,8,9] (st' := ⟨[(0,(i6 op)),(1,(LI ws)),(6,yo1),(7,(i6 k)),(8,(i6 w)),(9,(i6 0))],(yo0 k w)⟩)
    (p := (((0 ≤ (0 : Int)∧0 < (2 : Int))∧True)∧True∧((0 ≤ (1 : Int)∧1 < (2 : Int))∧True)∧T4 True)∧True) (by kernel_rfl) (by kernel_rfl)
    ⟨⟨⟨by omega,oK⟩,oK,⟨by omega,oK⟩,oK,oK,oK,oK,oK⟩,oK⟩ ?_
  refine Ev.seq ?_
  refine Ev.seq ?_
  refine Ev.reg [] [1,6,7,8,9,14] (st' := ⟨[(1,(LI ws)),(6,yo1),(7,(i6 k)),(8,(i6 w)),(9,(i6 0)),(14,(i6 op))],(yo0 k w)⟩)
    (p := True∧True) (by kernel_rfl)
    ⟨oK,oK⟩ ?_
  refine Ev.block ?_
  refine Ev.seq ?_
  rcases Decidable.em (op = 1) with hop | hn1
  · skip
    refine Ev.reg [(0,.val (dB true))] [1,6,7,8,9,14,15] (st' := ⟨[(1,(LI ws)),(6,yo1),(7,(i6 k)),(8,(i6 w)),(9,(i6 0)),(14,(i6 op)),(15,(dB true))],(yo0 k w)⟩)
      (p := (True∧(op == 1) = true)∧True∧True) (by kernel_rfl)
      ⟨⟨oK,(by exact beq_iff_eq.2 hop)⟩,oK,oK⟩ ?_
    refine Ev.cond true rfl (fun _ => ?_) (fun h => (by cases h))
    refine Ev.seq ?_
    rcases (show (ws.length ≠ 0) ∨ (ws.length = 0∧fitsF w = false) ∨ (ws.length = 0∧fitsF w = true∧k < 0) ∨ (ws.length = 0∧fitsF w = true∧0 ≤ k∧maskF w < k) ∨ (ws.length = 0∧fitsF w = true∧0 ≤ k∧k ≤ maskF w) from by by_cases h1 : ws.length = 0 <;> cases h2 : fitsF w <;> simp [h1]; omega) with h | h | h | h | h
    · skip
      refine Ev.reg [(2,.val (dB false))] [6,8,9,33] (st' := ⟨[(6,yo1),(8,(i6 w)),(9,(i6 0)),(33,(dB false))],(yo0 k w)⟩)
        (p := T2 ((True∧(((ws.length : Nat) : Int) == 0) = false)∧T9 (T5 True))) (by kernel_rfl)
        ⟨oK,oK,⟨oK,(by exact beq_eq_false_iff_ne.2 (by omega))⟩,oK,oK,oK,oK,oK,oK,oK,oK,oK,oK,oK,oK,oK,oK,oK⟩ ?_
      refine Ev.cond false rfl (fun h => (by cases h)) (fun _ => ?_)
      refine Ev.skip ?_
      refine Ev.seq ?_
      refine Ev.seq ?_
      refine Ev.reg [(1,.call none false yo3),(2,.val (dB true))] [6,9,131] (st' := ⟨[(6,yo1),(9,(i6 0)),(131,(dB true))],(yo0 k w)⟩)
        (p := True∧callOb Try.prog 28 (yo0 k w) [(i6 0)] none false yo3∧(True∧(!(fitsF 0)) = true)∧True) (by kernel_rfl)
        ⟨oK,(in_ok _),⟨oK,(by decide)⟩,oK⟩ ?_
      refine Ev.cond true rfl (fun _ => ?_) (fun h => (by cases h))
      refine Ev.seq ?_
      refine Ev.reg [] [6] (st' := ⟨[(6,yo1)],(yo2 k w)⟩)
        (p := T2 True) (by kernel_rfl)
        ⟨oK,oK,oK⟩ ?_
      refine Ev.ret ?_
      refine ⟨⟨oK,oK⟩,(?_ : (0 : Int) = (widthV op ws k w)∧(1 : Int) = (widthE op ws k w)∧True),.inr ⟨oK,oK,oK⟩⟩
      subst hop
      exact ⟨(wr_no (no_of (fun hh => by have := okr_const.1 hh; omega))).1,(wr_no (no_of (fun hh => by have := okr_const.1 hh; omega))).2,oK⟩
    · skip
      refine Ev.reg [(2,.val (dB true)),(5,.call none false (yo15 w)),(7,.val (dB false))] [6,8,9,33] (st' := ⟨[(6,yo1),(8,(i6 w)),(9,(i6 0)),(33,(dB false))],(yo0 k w)⟩)
        (p := T2 ((True∧(((ws.length : Nat) : Int) == 0) = true)∧T2 (callOb Try.prog 28 (yo0 k w) [(i6 w)] none false (yo15 w)∧True∧(True∧(fitsF w) = false)∧T9 True))) (by kernel_rfl)
        ⟨oK,oK,⟨oK,(by exact beq_iff_eq.2 (by omega))⟩,oK,oK,(in_ok _),oK,⟨oK,(by exact h.2)⟩,oK,oK,oK,oK,oK,oK,oK,oK,oK,oK⟩ ?_
      refine Ev.cond false rfl (fun h => (by cases h)) (fun _ => ?_)
      refine Ev.skip ?_
      refine Ev.seq ?_
      refine Ev.seq ?_
      refine Ev.reg [(1,.call none false yo3),(2,.val (dB true))] [6,9,131] (st' := ⟨[(6,yo1),(9,(i6 0)),(131,(dB true))],(yo0 k w)⟩)
        (p := True∧callOb Try.prog 28 (yo0 k w) [(i6 0)] none false yo3∧(True∧(!(fitsF 0)) = true)∧True) (by kernel_rfl)
        ⟨oK,(in_ok _),⟨oK,(by decide)⟩,oK⟩ ?_
      refine Ev.cond true rfl (fun _ => ?_) (fun h => (by cases h))
      refine Ev.seq ?_
      refine Ev.reg [] [6] (st' := ⟨[(6,yo1)],(yo2 k w)⟩)
        (p := T2 True) (by kernel_rfl)
        ⟨oK,oK,oK⟩ ?_
      refine Ev.ret ?_
      refine ⟨⟨oK,oK⟩,(?_ : (0 : Int) = (widthV op ws k w)∧(1 : Int) = (widthE op ws k w)∧True),.inr ⟨oK,oK,oK⟩⟩
      subst hop
      exact ⟨(wr_no (no_of (fun hh => by have := (okr_const.1 hh).2.1; rw [h.2] at this; cases this))).1,(wr_no (no_of (fun hh => by have := (okr_const.1 hh).2.1; rw [h.2] at this; cases this))).2,oK⟩
    · skip
      refine Ev.reg [(2,.val (dB true)),(5,.call none false (yo15 w)),(7,.val (dB true)),(9,.val (dB false))] [6,8,9,33] (st' := ⟨[(6,yo1),(8,(i6 w)),(9,(i6 0)),(33,(dB false))],(yo0 k w)⟩)
        (p := T2 ((True∧(((ws.length : Nat) : Int) == 0) = true)∧T2 (callOb Try.prog 28 (yo0 k w) [(i6 w)] none false (yo15 w)∧True∧(True∧(fitsF w) = true)∧True∧(True∧(decide (k ≥ 0)) = false)∧T7 True))) (by kernel_rfl)
        ⟨oK,oK,⟨oK,(by exact beq_iff_eq.2 (by omega))⟩,oK,oK,(in_ok _),oK,⟨oK,(by exact h.2.1)⟩,oK,⟨oK,(by first | (simp; done) | (simp; omega))⟩,oK,oK,oK,oK,oK,oK,oK,oK⟩ ?_
      refine Ev.cond false rfl (fun h => (by cases h)) (fun _ => ?_)
      refine Ev.skip ?_
      refine Ev.seq ?_
      refine Ev.seq ?_
      refine Ev.reg [(1,.call none false yo3),(2,.val (dB true))] [6,9,131] (st' := ⟨[(6,yo1),(9,(i6 0)),(131,(dB true))],(yo0 k w)⟩)
        (p := True∧callOb Try.prog 28 (yo0 k w) [(i6 0)] none false yo3∧(True∧(!(fitsF 0)) = true)∧True) (by kernel_rfl)
        ⟨oK,(in_ok _),⟨oK,(by decide)⟩,oK⟩ ?_
      refine Ev.cond true rfl (fun _ => ?_) (fun h => (by cases h))
      refine Ev.seq ?_
      refine Ev.reg [] [6] (st' := ⟨[(6,yo1)],(yo2 k w)⟩)
        (p := T2 True) (by kernel_rfl)
        ⟨oK,oK,oK⟩ ?_
      refine Ev.ret ?_
      refine ⟨⟨oK,oK⟩,(?_ : (0 : Int) = (widthV op ws k w)∧(1 : Int) = (widthE op ws k w)∧True),.inr ⟨oK,oK,oK⟩⟩
      subst hop
      exact ⟨(wr_no (no_of (fun hh => by have := okr_const.1 hh; omega))).1,(wr_no (no_of (fun hh => by have := okr_const.1 hh; omega))).2,oK⟩
    · skip
      refine Ev.reg [(2,.val (dB true)),(5,.call none false (yo15 w)),(7,.val (dB true)),(9,.val (dB true)),(14,.call none false (i6 (maskF w))),(15,.val (dB false))] [6,8,9,33] (st' := ⟨[(6,yo1),(8,(i6 w)),(9,(i6 0)),(33,(dB false))],(yo0 k w)⟩)
        (p := T2 ((True∧(((ws.length : Nat) : Int) == 0) = true)∧T2 (callOb Try.prog 28 (yo0 k w) [(i6 w)] none false (yo15 w)∧True∧(True∧(fitsF w) = true)∧True∧(True∧(decide (k ≥ 0)) = true)∧T4 (callOb Try.prog 15 (yo0 k w) [(i6 w)] none false (i6 (maskF w))∧(True∧(decide (k ≤ (maskF w))) = false)∧True∧True)))) (by kernel_rfl)
        ⟨oK,oK,⟨oK,(by exact beq_iff_eq.2 (by omega))⟩,oK,oK,(in_ok _),oK,⟨oK,(by exact h.2.1)⟩,oK,⟨oK,(by first | (simp; done) | (simp; omega))⟩,oK,oK,oK,oK,(rmask_ok _),⟨oK,(by first | (simp; done) | (simp; omega))⟩,oK,oK⟩ ?_
      refine Ev.cond false rfl (fun h => (by cases h)) (fun _ => ?_)
      refine Ev.skip ?_
      refine Ev.seq ?_
      refine Ev.seq ?_
      refine Ev.reg [(1,.call none false yo3),(2,.val (dB true))] [6,9,131] (st' := ⟨[(6,yo1),(9,(i6 0)),(131,(dB true))],(yo0 k w)⟩)
        (p := True∧callOb Try.prog 28 (yo0 k w) [(i6 0)] none false yo3∧(True∧(!(fitsF 0)) = true)∧True) (by kernel_rfl)
        ⟨oK,(in_ok _),⟨oK,(by decide)⟩,oK⟩ ?_
      refine Ev.cond true rfl (fun _ => ?_) (fun h => (by cases h))
      refine Ev.seq ?_
      refine Ev.reg [] [6] (st' := ⟨[(6,yo1)],(yo2 k w)⟩)
        (p := T2 True) (by kernel_rfl)
        ⟨oK,oK,oK⟩ ?_
      refine Ev.ret ?_
      refine ⟨⟨oK,oK⟩,(?_ : (0 : Int) = (widthV op ws k w)∧(1 : Int) = (widthE op ws k w)∧True),.inr ⟨oK,oK,oK⟩⟩
      subst hop
      exact ⟨(wr_no (no_of (fun hh => by have := okr_const.1 hh; omega))).1,(wr_no (no_of (fun hh => by have := okr_const.1 hh; omega))).2,oK⟩
    · skip
      refine Ev.reg [(2,.val (dB true)),(5,.call none false (yo15 w)),(7,.val (dB true)),(9,.val (dB true)),(14,.call none false (i6 (maskF w))),(15,.val (dB true))] [6,8,9,33] (st' := ⟨[(6,yo1),(8,(i6 w)),(9,(i6 0)),(33,(dB true))],(yo0 k w)⟩)
        (p := T2 ((True∧(((ws.length : Nat) : Int) == 0) = true)∧T2 (callOb Try.prog 28 (yo0 k w) [(i6 w)] none false (yo15 w)∧True∧(True∧(fitsF w) = true)∧True∧(True∧(decide (k ≥ 0)) = true)∧T4 (callOb Try.prog 15 (yo0 k w) [(i6 w)] none false (i6 (maskF w))∧(True∧(decide (k ≤ (maskF w))) = true)∧True∧True)))) (by kernel_rfl)
        ⟨oK,oK,⟨oK,(by exact beq_iff_eq.2 (by omega))⟩,oK,oK,(in_ok _),oK,⟨oK,(by exact h.2.1)⟩,oK,⟨oK,(by first | (simp; done) | (simp; omega))⟩,oK,oK,oK,oK,(rmask_ok _),⟨oK,(by first | (simp; done) | (simp; omega))⟩,oK,oK⟩ ?_
      refine Ev.cond true rfl (fun _ => ?_) (fun h => (by cases h))
      refine Ev.reg [] [6,9] (st' := ⟨[(6,yo1),(9,(i6 w))],(yo0 k w)⟩)
        (p := T2 True) (by kernel_rfl)
        ⟨oK,oK,oK⟩ ?_
      refine Ev.seq ?_
      refine Ev.seq ?_
      refine Ev.reg [(1,.call none false (yo15 w)),(2,.val (dB false))] [6,9,131] (st' := ⟨[(6,yo1),(9,(i6 w)),(131,(dB false))],(yo0 k w)⟩)
        (p := True∧callOb Try.prog 28 (yo0 k w) [(i6 w)] none false (yo15 w)∧(True∧(!(fitsF w)) = false)∧True) (by kernel_rfl)
        ⟨oK,(in_ok _),⟨oK,(by rw [h.2.1]; rfl)⟩,oK⟩ ?_
      refine Ev.cond false rfl (fun h => (by cases h)) (fun _ => ?_)
      refine Ev.skip ?_
      refine Ev.seq ?_
      refine Ev.reg [] [6] (st' := ⟨[(6,yo1)],[(yo16 k w),(.var 32 [(i6 w),(i6 0)])]⟩)
        (p := T3 True) (by kernel_rfl)
        ⟨oK,oK,oK,oK⟩ ?_
      refine Ev.ret ?_
      refine ⟨⟨oK,oK⟩,(?_ : w = (widthV op ws k w)∧(0 : Int) = (widthE op ws k w)∧True),.inr ⟨oK,oK,oK⟩⟩
      subst hop
      exact ⟨(wr_yes (okr_const.2 h) (wv_const h.2.1 h.2.2.1 h.2.2.2)).1,(wr_yes (okr_const.2 h) (wv_const h.2.1 h.2.2.1 h.2.2.2)).2,oK⟩
  · skip
    refine Ev.reg [(0,.val (dB false))] [1,6,7,8,9,14,15] (st' := ⟨[(1,(LI ws)),(6,yo1),(7,(i6 k)),(8,(i6 w)),(9,(i6 0)),(14,(i6 op)),(15,(dB false))],(yo0 k w)⟩)
      (p := (True∧(op == 1) = false)∧True∧True) (by kernel_rfl)
      ⟨⟨oK,(by exact beq_eq_false_iff_ne.2 hn1)⟩,oK,oK⟩ ?_
    refine Ev.cond false rfl (fun h => (by cases h)) (fun _ => ?_)
    refine Ev.seq ?_
    rcases Decidable.em (op = 2) with hop | hn2
    · skip
      refine Ev.reg [(0,.val (dB true))] [1,6,7,8,9,14,35] (st' := ⟨[(1,(LI ws)),(6,yo1),(7,(i6 k)),(8,(i6 w)),(9,(i6 0)),(14,(i6 op)),(35,(dB true))],(yo0 k w)⟩)
        (p := (True∧(op == 2) = true)∧True∧True) (by kernel_rfl)
        ⟨⟨oK,(by exact beq_iff_eq.2 hop)⟩,oK,oK⟩ ?_
      refine Ev.cond true rfl (fun _ => ?_) (fun h => (by cases h))
      refine Ev.seq ?_
      refine Ev.reg [(1,.call none false (yo13 ws))] [1,6,9,38] (st' := ⟨[(1,(LI ws)),(6,yo1),(9,(i6 0)),(38,(yo13 ws))],(yo0 k w)⟩)
        (p := True∧callOb Try.prog 29 (yo0 k w) [(LI ws),(i6 1)] none false (yo13 ws)∧True) (by kernel_rfl)
        ⟨oK,(equal_ok _ 1 (by omega) (by omega)),oK⟩ ?_
      refine Ev.cond _ rfl (fun hc38 => ?_) (fun hc38 => ?_)
      · try simp only [decide_eq_true_eq,decide_eq_false_iff_not,beq_iff_eq,bne_iff_ne,ne_eq,beq_eq_false_iff_ne,bne_eq_false_iff_eq,Bool.not_eq_true,Bool.not_eq_false,Bool.not_eq_true',Bool.not_eq_false',Bool.not_not,gt_iff_lt,ge_iff_le,Nat.not_lt,Int.not_lt,Int.not_le] at hc38
        have hl1 := (equal_yes hc38).1
        refine Ev.reg [] [6,9] (st' := ⟨[(6,yo1),(9,(yo10 ws))],(yo0 k w)⟩)
          (p := True∧(0 ≤ (0 : Int)∧0 < (ws.length : Int))∧T2 True) (by kernel_rfl)
          ⟨oK,(by first | omega | (simp; first | done | omega)),oK,oK,oK⟩ ?_
        refine Ev.seq ?_
        refine Ev.seq ?_
        refine Ev.reg [(1,.call none false (yo4 ws)),(2,.val (dB false))] [6,9,131] (st' := ⟨[(6,yo1),(9,(yo10 ws)),(131,(dB false))],(yo0 k w)⟩)
          (p := True∧callOb Try.prog 28 (yo0 k w) [(yo10 ws)] none false (yo4 ws)∧(True∧(!(fitsF (ws.getD 0 0))) = false)∧True) (by kernel_rfl)
          ⟨oK,(in_ok _),⟨oK,(by first | (rw [equal_fit hc38 (by omega)]; rfl) | (rw [equal_fit hc49 (by omega)]; rfl))⟩,oK⟩ ?_
        refine Ev.cond false rfl (fun h => (by cases h)) (fun _ => ?_)
        refine Ev.skip ?_
        refine Ev.seq ?_
        refine Ev.reg [] [6] (st' := ⟨[(6,yo1)],(yo6 k w ws)⟩)
          (p := T3 True) (by kernel_rfl)
          ⟨oK,oK,oK,oK⟩ ?_
        refine Ev.ret ?_
        refine ⟨⟨oK,oK⟩,(?_ : (ws.getD 0 0) = (widthV op ws k w)∧(0 : Int) = (widthE op ws k w)∧True),.inr ⟨oK,oK,oK⟩⟩
        subst hop
        exact ⟨(wr_yes (okr_not.2 hc38) (rfl)).1,(wr_yes (okr_not.2 hc38) (rfl)).2,oK⟩
      · try simp only [decide_eq_true_eq,decide_eq_false_iff_not,beq_iff_eq,bne_iff_ne,ne_eq,beq_eq_false_iff_ne,bne_eq_false_iff_eq,Bool.not_eq_true,Bool.not_eq_false,Bool.not_eq_true',Bool.not_eq_false',Bool.not_not,gt_iff_lt,ge_iff_le,Nat.not_lt,Int.not_lt,Int.not_le] at hc38
        refine Ev.skip ?_
        refine Ev.seq ?_
        refine Ev.seq ?_
        refine Ev.reg [(1,.call none false yo3),(2,.val (dB true))] [6,9,131] (st' := ⟨[(6,yo1),(9,(i6 0)),(131,(dB true))],(yo0 k w)⟩)
          (p := True∧callOb Try.prog 28 (yo0 k w) [(i6 0)] none false yo3∧(True∧(!(fitsF 0)) = true)∧True) (by kernel_rfl)
          ⟨oK,(in_ok _),⟨oK,(by decide)⟩,oK⟩ ?_
        refine Ev.cond true rfl (fun _ => ?_) (fun h => (by cases h))
        refine Ev.seq ?_
        refine Ev.reg [] [6] (st' := ⟨[(6,yo1)],(yo2 k w)⟩)
          (p := T2 True) (by kernel_rfl)
          ⟨oK,oK,oK⟩ ?_
        refine Ev.ret ?_
        refine ⟨⟨oK,oK⟩,(?_ : (0 : Int) = (widthV op ws k w)∧(1 : Int) = (widthE op ws k w)∧True),.inr ⟨oK,oK,oK⟩⟩
        subst hop
        exact ⟨(wr_no (no_of (fun hh => by have := okr_not.1 hh; rw [hc38] at this; cases this))).1,(wr_no (no_of (fun hh => by have := okr_not.1 hh; rw [hc38] at this; cases this))).2,oK⟩
    · skip
      refine Ev.reg [(0,.val (dB false))] [1,6,7,8,9,14,35] (st' := ⟨[(1,(LI ws)),(6,yo1),(7,(i6 k)),(8,(i6 w)),(9,(i6 0)),(14,(i6 op)),(35,(dB false))],(yo0 k w)⟩)
        (p := (True∧(op == 2) = false)∧True∧True) (by kernel_rfl)
        ⟨⟨oK,(by exact beq_eq_false_iff_ne.2 hn2)⟩,oK,oK⟩ ?_
      refine Ev.cond false rfl (fun h => (by cases h)) (fun _ => ?_)
      refine Ev.seq ?_
      refine Ev.seq ?_
      rcases Decidable.em (op = 3) with hop | hn3
      · skip
        refine Ev.reg [(0,.val (dB true))] [1,6,7,8,9,14,42] (st' := ⟨(yo8 ws k w op),(yo0 k w)⟩)
          (p := (True∧(op == 3) = true)∧True∧True) (by kernel_rfl)
          ⟨⟨oK,(by exact beq_iff_eq.2 hop)⟩,oK,oK⟩ ?_
        refine Ev.cond true rfl (fun _ => ?_) (fun h => (by cases h))
        refine Ev.skip ?_
        refine Ev.cond true rfl (fun _ => ?_) (fun h => (by cases h))
        refine Ev.seq ?_
        refine Ev.reg [(1,.call none false (yo14 ws))] [1,6,9,49] (st' := ⟨(yo11 ws),(yo0 k w)⟩)
          (p := True∧callOb Try.prog 29 (yo0 k w) [(LI ws),(i6 2)] none false (yo14 ws)∧True) (by kernel_rfl)
          ⟨oK,(equal_ok _ 2 (by omega) (by omega)),oK⟩ ?_
        refine Ev.cond _ rfl (fun hc49 => ?_) (fun hc49 => ?_)
        · try simp only [decide_eq_true_eq,decide_eq_false_iff_not,beq_iff_eq,bne_iff_ne,ne_eq,beq_eq_false_iff_ne,bne_eq_false_iff_eq,Bool.not_eq_true,Bool.not_eq_false,Bool.not_eq_true',Bool.not_eq_false',Bool.not_not,gt_iff_lt,ge_iff_le,Nat.not_lt,Int.not_lt,Int.not_le] at hc49
          have hl1 := (equal_yes hc49).1
          refine Ev.reg [] [6,9] (st' := ⟨[(6,yo1),(9,(yo10 ws))],(yo0 k w)⟩)
            (p := True∧(0 ≤ (0 : Int)∧0 < (ws.length : Int))∧T2 True) (by kernel_rfl)
            ⟨oK,(by first | omega | (simp; first | done | omega)),oK,oK,oK⟩ ?_
          refine Ev.seq ?_
          refine Ev.seq ?_
          refine Ev.reg [(1,.call none false (yo4 ws)),(2,.val (dB false))] [6,9,131] (st' := ⟨[(6,yo1),(9,(yo10 ws)),(131,(dB false))],(yo0 k w)⟩)
            (p := True∧callOb Try.prog 28 (yo0 k w) [(yo10 ws)] none false (yo4 ws)∧(True∧(!(fitsF (ws.getD 0 0))) = false)∧True) (by kernel_rfl)
            ⟨oK,(in_ok _),⟨oK,(by first | (rw [equal_fit hc38 (by omega)]; rfl) | (rw [equal_fit hc49 (by omega)]; rfl))⟩,oK⟩ ?_
          refine Ev.cond false rfl (fun h => (by cases h)) (fun _ => ?_)
          refine Ev.skip ?_
          refine Ev.seq ?_
          refine Ev.reg [] [6] (st' := ⟨[(6,yo1)],(yo6 k w ws)⟩)
            (p := T3 True) (by kernel_rfl)
            ⟨oK,oK,oK,oK⟩ ?_
          refine Ev.ret ?_
          refine ⟨⟨oK,oK⟩,(?_ : (ws.getD 0 0) = (widthV op ws k w)∧(0 : Int) = (widthE op ws k w)∧True),.inr ⟨oK,oK,oK⟩⟩
          subst hop
          exact ⟨(wr_yes ((okr_two (by omega)).2 hc49) (wvr_two (by omega) hc49)).1,(wr_yes ((okr_two (by omega)).2 hc49) (wvr_two (by omega) hc49)).2,oK⟩
        · try simp only [decide_eq_true_eq,decide_eq_false_iff_not,beq_iff_eq,bne_iff_ne,ne_eq,beq_eq_false_iff_ne,bne_eq_false_iff_eq,Bool.not_eq_true,Bool.not_eq_false,Bool.not_eq_true',Bool.not_eq_false',Bool.not_not,gt_iff_lt,ge_iff_le,Nat.not_lt,Int.not_lt,Int.not_le] at hc49
          refine Ev.skip ?_
          refine Ev.seq ?_
          refine Ev.seq ?_
          refine Ev.reg [(1,.call none false yo3),(2,.val (dB true))] [6,9,131] (st' := ⟨[(6,yo1),(9,(i6 0)),(131,(dB true))],(yo0 k w)⟩)
            (p := True∧callOb Try.prog 28 (yo0 k w) [(i6 0)] none false yo3∧(True∧(!(fitsF 0)) = true)∧True) (by kernel_rfl)
            ⟨oK,(in_ok _),⟨oK,(by decide)⟩,oK⟩ ?_
          refine Ev.cond true rfl (fun _ => ?_) (fun h => (by cases h))
          refine Ev.seq ?_
          refine Ev.reg [] [6] (st' := ⟨[(6,yo1)],(yo2 k w)⟩)
            (p := T2 True) (by kernel_rfl)
            ⟨oK,oK,oK⟩ ?_
          refine Ev.ret ?_
          refine ⟨⟨oK,oK⟩,(?_ : (0 : Int) = (widthV op ws k w)∧(1 : Int) = (widthE op ws k w)∧True),.inr ⟨oK,oK,oK⟩⟩
          subst hop
          exact ⟨(wr_no (no_of (fun hh => by have := (okr_two (by omega)).1 hh; rw [hc49] at this; cases this))).1,(wr_no (no_of (fun hh => by have := (okr_two (by omega)).1 hh; rw [hc49] at this; cases this))).2,oK⟩
      · skip
        refine Ev.reg [(0,.val (dB false))] [1,6,7,8,9,14,42] (st' := ⟨(yo7 ws k w op),(yo0 k w)⟩)
          (p := (True∧(op == 3) = false)∧True∧True) (by kernel_rfl)
          ⟨⟨oK,(by exact beq_eq_false_iff_ne.2 hn3)⟩,oK,oK⟩ ?_
        refine Ev.cond false rfl (fun h => (by cases h)) (fun _ => ?_)
        refine Ev.seq ?_
        rcases Decidable.em (op = 4) with hop | hn4
        · skip
          refine Ev.reg [(0,.val (dB true))] [1,6,7,8,9,14,42] (st' := ⟨(yo8 ws k w op),(yo0 k w)⟩)
            (p := (True∧(op == 4) = true)∧True∧True) (by kernel_rfl)
            ⟨⟨oK,(by exact beq_iff_eq.2 hop)⟩,oK,oK⟩ ?_
          refine Ev.cond true rfl (fun _ => ?_) (fun h => (by cases h))
          refine Ev.skip ?_
          refine Ev.cond true rfl (fun _ => ?_) (fun h => (by cases h))
          refine Ev.seq ?_
          refine Ev.reg [(1,.call none false (yo14 ws))] [1,6,9,49] (st' := ⟨(yo11 ws),(yo0 k w)⟩)
            (p := True∧callOb Try.prog 29 (yo0 k w) [(LI ws),(i6 2)] none false (yo14 ws)∧True) (by kernel_rfl)
            ⟨oK,(equal_ok _ 2 (by omega) (by omega)),oK⟩ ?_
          refine Ev.cond _ rfl (fun hc49 => ?_) (fun hc49 => ?_)
          · try simp only [decide_eq_true_eq,decide_eq_false_iff_not,beq_iff_eq,bne_iff_ne,ne_eq,beq_eq_false_iff_ne,bne_eq_false_iff_eq,Bool.not_eq_true,Bool.not_eq_false,Bool.not_eq_true',Bool.not_eq_false',Bool.not_not,gt_iff_lt,ge_iff_le,Nat.not_lt,Int.not_lt,Int.not_le] at hc49
            have hl1 := (equal_yes hc49).1
            refine Ev.reg [] [6,9] (st' := ⟨[(6,yo1),(9,(yo10 ws))],(yo0 k w)⟩)
              (p := True∧(0 ≤ (0 : Int)∧0 < (ws.length : Int))∧T2 True) (by kernel_rfl)
              ⟨oK,(by first | omega | (simp; first | done | omega)),oK,oK,oK⟩ ?_
            refine Ev.seq ?_
            refine Ev.seq ?_
            refine Ev.reg [(1,.call none false (yo4 ws)),(2,.val (dB false))] [6,9,131] (st' := ⟨[(6,yo1),(9,(yo10 ws)),(131,(dB false))],(yo0 k w)⟩)
              (p := True∧callOb Try.prog 28 (yo0 k w) [(yo10 ws)] none false (yo4 ws)∧(True∧(!(fitsF (ws.getD 0 0))) = false)∧True) (by kernel_rfl)
              ⟨oK,(in_ok _),⟨oK,(by first | (rw [equal_fit hc38 (by omega)]; rfl) | (rw [equal_fit hc49 (by omega)]; rfl))⟩,oK⟩ ?_
            refine Ev.cond false rfl (fun h => (by cases h)) (fun _ => ?_)
            refine Ev.skip ?_
            refine Ev.seq ?_
            refine Ev.reg [] [6] (st' := ⟨[(6,yo1)],(yo6 k w ws)⟩)
              (p := T3 True) (by kernel_rfl)
              ⟨oK,oK,oK,oK⟩ ?_
            refine Ev.ret ?_
            refine ⟨⟨oK,oK⟩,(?_ : (ws.getD 0 0) = (widthV op ws k w)∧(0 : Int) = (widthE op ws k w)∧True),.inr ⟨oK,oK,oK⟩⟩
            subst hop
            exact ⟨(wr_yes ((okr_two (by omega)).2 hc49) (wvr_two (by omega) hc49)).1,(wr_yes ((okr_two (by omega)).2 hc49) (wvr_two (by omega) hc49)).2,oK⟩
          · try simp only [decide_eq_true_eq,decide_eq_false_iff_not,beq_iff_eq,bne_iff_ne,ne_eq,beq_eq_false_iff_ne,bne_eq_false_iff_eq,Bool.not_eq_true,Bool.not_eq_false,Bool.not_eq_true',Bool.not_eq_false',Bool.not_not,gt_iff_lt,ge_iff_le,Nat.not_lt,Int.not_lt,Int.not_le] at hc49
            refine Ev.skip ?_
            refine Ev.seq ?_
            refine Ev.seq ?_
            refine Ev.reg [(1,.call none false yo3),(2,.val (dB true))] [6,9,131] (st' := ⟨[(6,yo1),(9,(i6 0)),(131,(dB true))],(yo0 k w)⟩)
              (p := True∧callOb Try.prog 28 (yo0 k w) [(i6 0)] none false yo3∧(True∧(!(fitsF 0)) = true)∧True) (by kernel_rfl)
              ⟨oK,(in_ok _),⟨oK,(by decide)⟩,oK⟩ ?_
            refine Ev.cond true rfl (fun _ => ?_) (fun h => (by cases h))
            refine Ev.seq ?_
            refine Ev.reg [] [6] (st' := ⟨[(6,yo1)],(yo2 k w)⟩)
              (p := T2 True) (by kernel_rfl)
              ⟨oK,oK,oK⟩ ?_
            refine Ev.ret ?_
            refine ⟨⟨oK,oK⟩,(?_ : (0 : Int) = (widthV op ws k w)∧(1 : Int) = (widthE op ws k w)∧True),.inr ⟨oK,oK,oK⟩⟩
            subst hop
            exact ⟨(wr_no (no_of (fun hh => by have := (okr_two (by omega)).1 hh; rw [hc49] at this; cases this))).1,(wr_no (no_of (fun hh => by have := (okr_two (by omega)).1 hh; rw [hc49] at this; cases this))).2,oK⟩
        · skip
          refine Ev.reg [(0,.val (dB false))] [1,6,7,8,9,14,42] (st' := ⟨(yo7 ws k w op),(yo0 k w)⟩)
            (p := (True∧(op == 4) = false)∧True∧True) (by kernel_rfl)
            ⟨⟨oK,(by exact beq_eq_false_iff_ne.2 hn4)⟩,oK,oK⟩ ?_
          refine Ev.cond false rfl (fun h => (by cases h)) (fun _ => ?_)
          refine Ev.seq ?_
          rcases Decidable.em (op = 5) with hop | hn5
          · skip
            refine Ev.reg [(0,.val (dB true))] [1,6,7,8,9,14,42] (st' := ⟨(yo8 ws k w op),(yo0 k w)⟩)
              (p := (True∧(op == 5) = true)∧True∧True) (by kernel_rfl)
              ⟨⟨oK,(by exact beq_iff_eq.2 hop)⟩,oK,oK⟩ ?_
            refine Ev.cond true rfl (fun _ => ?_) (fun h => (by cases h))
            refine Ev.skip ?_
            refine Ev.cond true rfl (fun _ => ?_) (fun h => (by cases h))
            refine Ev.seq ?_
            refine Ev.reg [(1,.call none false (yo14 ws))] [1,6,9,49] (st' := ⟨(yo11 ws),(yo0 k w)⟩)
              (p := True∧callOb Try.prog 29 (yo0 k w) [(LI ws),(i6 2)] none false (yo14 ws)∧True) (by kernel_rfl)
              ⟨oK,(equal_ok _ 2 (by omega) (by omega)),oK⟩ ?_
            refine Ev.cond _ rfl (fun hc49 => ?_) (fun hc49 => ?_)
            · try simp only [decide_eq_true_eq,decide_eq_false_iff_not,beq_iff_eq,bne_iff_ne,ne_eq,beq_eq_false_iff_ne,bne_eq_false_iff_eq,Bool.not_eq_true,Bool.not_eq_false,Bool.not_eq_true',Bool.not_eq_false',Bool.not_not,gt_iff_lt,ge_iff_le,Nat.not_lt,Int.not_lt,Int.not_le] at hc49
              have hl1 := (equal_yes hc49).1
              refine Ev.reg [] [6,9] (st' := ⟨[(6,yo1),(9,(yo10 ws))],(yo0 k w)⟩)
                (p := True∧(0 ≤ (0 : Int)∧0 < (ws.length : Int))∧T2 True) (by kernel_rfl)
                ⟨oK,(by first | omega | (simp; first | done | omega)),oK,oK,oK⟩ ?_
              refine Ev.seq ?_
              refine Ev.seq ?_
              refine Ev.reg [(1,.call none false (yo4 ws)),(2,.val (dB false))] [6,9,131] (st' := ⟨[(6,yo1),(9,(yo10 ws)),(131,(dB false))],(yo0 k w)⟩)
                (p := True∧callOb Try.prog 28 (yo0 k w) [(yo10 ws)] none false (yo4 ws)∧(True∧(!(fitsF (ws.getD 0 0))) = false)∧True) (by kernel_rfl)
                ⟨oK,(in_ok _),⟨oK,(by first | (rw [equal_fit hc38 (by omega)]; rfl) | (rw [equal_fit hc49 (by omega)]; rfl))⟩,oK⟩ ?_
              refine Ev.cond false rfl (fun h => (by cases h)) (fun _ => ?_)
              refine Ev.skip ?_
              refine Ev.seq ?_
              refine Ev.reg [] [6] (st' := ⟨[(6,yo1)],(yo6 k w ws)⟩)
                (p := T3 True) (by kernel_rfl)
                ⟨oK,oK,oK,oK⟩ ?_
              refine Ev.ret ?_
              refine ⟨⟨oK,oK⟩,(?_ : (ws.getD 0 0) = (widthV op ws k w)∧(0 : Int) = (widthE op ws k w)∧True),.inr ⟨oK,oK,oK⟩⟩
              subst hop
              exact ⟨(wr_yes ((okr_two (by omega)).2 hc49) (wvr_two (by omega) hc49)).1,(wr_yes ((okr_two (by omega)).2 hc49) (wvr_two (by omega) hc49)).2,oK⟩
            · try simp only [decide_eq_true_eq,decide_eq_false_iff_not,beq_iff_eq,bne_iff_ne,ne_eq,beq_eq_false_iff_ne,bne_eq_false_iff_eq,Bool.not_eq_true,Bool.not_eq_false,Bool.not_eq_true',Bool.not_eq_false',Bool.not_not,gt_iff_lt,ge_iff_le,Nat.not_lt,Int.not_lt,Int.not_le] at hc49
              refine Ev.skip ?_
              refine Ev.seq ?_
              refine Ev.seq ?_
              refine Ev.reg [(1,.call none false yo3),(2,.val (dB true))] [6,9,131] (st' := ⟨[(6,yo1),(9,(i6 0)),(131,(dB true))],(yo0 k w)⟩)
                (p := True∧callOb Try.prog 28 (yo0 k w) [(i6 0)] none false yo3∧(True∧(!(fitsF 0)) = true)∧True) (by kernel_rfl)
                ⟨oK,(in_ok _),⟨oK,(by decide)⟩,oK⟩ ?_
              refine Ev.cond true rfl (fun _ => ?_) (fun h => (by cases h))
              refine Ev.seq ?_
              refine Ev.reg [] [6] (st' := ⟨[(6,yo1)],(yo2 k w)⟩)
                (p := T2 True) (by kernel_rfl)
                ⟨oK,oK,oK⟩ ?_
              refine Ev.ret ?_
              refine ⟨⟨oK,oK⟩,(?_ : (0 : Int) = (widthV op ws k w)∧(1 : Int) = (widthE op ws k w)∧True),.inr ⟨oK,oK,oK⟩⟩
              subst hop
              exact ⟨(wr_no (no_of (fun hh => by have := (okr_two (by omega)).1 hh; rw [hc49] at this; cases this))).1,(wr_no (no_of (fun hh => by have := (okr_two (by omega)).1 hh; rw [hc49] at this; cases this))).2,oK⟩
          · skip
            refine Ev.reg [(0,.val (dB false))] [1,6,7,8,9,14,42] (st' := ⟨(yo7 ws k w op),(yo0 k w)⟩)
              (p := (True∧(op == 5) = false)∧True∧True) (by kernel_rfl)
              ⟨⟨oK,(by exact beq_eq_false_iff_ne.2 hn5)⟩,oK,oK⟩ ?_
            refine Ev.cond false rfl (fun h => (by cases h)) (fun _ => ?_)
            refine Ev.seq ?_
            rcases Decidable.em (op = 6) with hop | hn6
            · skip
              refine Ev.reg [(0,.val (dB true))] [1,6,7,8,9,14,42] (st' := ⟨(yo8 ws k w op),(yo0 k w)⟩)
                (p := (True∧(op == 6) = true)∧True∧True) (by kernel_rfl)
                ⟨⟨oK,(by exact beq_iff_eq.2 hop)⟩,oK,oK⟩ ?_
              refine Ev.cond true rfl (fun _ => ?_) (fun h => (by cases h))
              refine Ev.skip ?_
              refine Ev.cond true rfl (fun _ => ?_) (fun h => (by cases h))
              refine Ev.seq ?_
              refine Ev.reg [(1,.call none false (yo14 ws))] [1,6,9,49] (st' := ⟨(yo11 ws),(yo0 k w)⟩)
                (p := True∧callOb Try.prog 29 (yo0 k w) [(LI ws),(i6 2)] none false (yo14 ws)∧True) (by kernel_rfl)
                ⟨oK,(equal_ok _ 2 (by omega) (by omega)),oK⟩ ?_
              refine Ev.cond _ rfl (fun hc49 => ?_) (fun hc49 => ?_)
              · try simp only [decide_eq_true_eq,decide_eq_false_iff_not,beq_iff_eq,bne_iff_ne,ne_eq,beq_eq_false_iff_ne,bne_eq_false_iff_eq,Bool.not_eq_true,Bool.not_eq_false,Bool.not_eq_true',Bool.not_eq_false',Bool.not_not,gt_iff_lt,ge_iff_le,Nat.not_lt,Int.not_lt,Int.not_le] at hc49
                have hl1 := (equal_yes hc49).1
                refine Ev.reg [] [6,9] (st' := ⟨[(6,yo1),(9,(yo10 ws))],(yo0 k w)⟩)
                  (p := True∧(0 ≤ (0 : Int)∧0 < (ws.length : Int))∧T2 True) (by kernel_rfl)
                  ⟨oK,(by first | omega | (simp; first | done | omega)),oK,oK,oK⟩ ?_
                refine Ev.seq ?_
                refine Ev.seq ?_
                refine Ev.reg [(1,.call none false (yo4 ws)),(2,.val (dB false))] [6,9,131] (st' := ⟨[(6,yo1),(9,(yo10 ws)),(131,(dB false))],(yo0 k w)⟩)
                  (p := True∧callOb Try.prog 28 (yo0 k w) [(yo10 ws)] none false (yo4 ws)∧(True∧(!(fitsF (ws.getD 0 0))) = false)∧True) (by kernel_rfl)
                  ⟨oK,(in_ok _),⟨oK,(by first | (rw [equal_fit hc38 (by omega)]; rfl) | (rw [equal_fit hc49 (by omega)]; rfl))⟩,oK⟩ ?_
                refine Ev.cond false rfl (fun h => (by cases h)) (fun _ => ?_)
                refine Ev.skip ?_
                refine Ev.seq ?_
                refine Ev.reg [] [6] (st' := ⟨[(6,yo1)],(yo6 k w ws)⟩)
                  (p := T3 True) (by kernel_rfl)
                  ⟨oK,oK,oK,oK⟩ ?_
                refine Ev.ret ?_
                refine ⟨⟨oK,oK⟩,(?_ : (ws.getD 0 0) = (widthV op ws k w)∧(0 : Int) = (widthE op ws k w)∧True),.inr ⟨oK,oK,oK⟩⟩
                subst hop
                exact ⟨(wr_yes ((okr_two (by omega)).2 hc49) (wvr_two (by omega) hc49)).1,(wr_yes ((okr_two (by omega)).2 hc49) (wvr_two (by omega) hc49)).2,oK⟩
              · try simp only [decide_eq_true_eq,decide_eq_false_iff_not,beq_iff_eq,bne_iff_ne,ne_eq,beq_eq_false_iff_ne,bne_eq_false_iff_eq,Bool.not_eq_true,Bool.not_eq_false,Bool.not_eq_true',Bool.not_eq_false',Bool.not_not,gt_iff_lt,ge_iff_le,Nat.not_lt,Int.not_lt,Int.not_le] at hc49
                refine Ev.skip ?_
                refine Ev.seq ?_
                refine Ev.seq ?_
                refine Ev.reg [(1,.call none false yo3),(2,.val (dB true))] [6,9,131] (st' := ⟨[(6,yo1),(9,(i6 0)),(131,(dB true))],(yo0 k w)⟩)
                  (p := True∧callOb Try.prog 28 (yo0 k w) [(i6 0)] none false yo3∧(True∧(!(fitsF 0)) = true)∧True) (by kernel_rfl)
                  ⟨oK,(in_ok _),⟨oK,(by decide)⟩,oK⟩ ?_
                refine Ev.cond true rfl (fun _ => ?_) (fun h => (by cases h))
                refine Ev.seq ?_
                refine Ev.reg [] [6] (st' := ⟨[(6,yo1)],(yo2 k w)⟩)
                  (p := T2 True) (by kernel_rfl)
                  ⟨oK,oK,oK⟩ ?_
                refine Ev.ret ?_
                refine ⟨⟨oK,oK⟩,(?_ : (0 : Int) = (widthV op ws k w)∧(1 : Int) = (widthE op ws k w)∧True),.inr ⟨oK,oK,oK⟩⟩
                subst hop
                exact ⟨(wr_no (no_of (fun hh => by have := (okr_two (by omega)).1 hh; rw [hc49] at this; cases this))).1,(wr_no (no_of (fun hh => by have := (okr_two (by omega)).1 hh; rw [hc49] at this; cases this))).2,oK⟩
            · skip
              refine Ev.reg [(0,.val (dB false))] [1,6,7,8,9,14,42] (st' := ⟨(yo7 ws k w op),(yo0 k w)⟩)
                (p := (True∧(op == 6) = false)∧True∧True) (by kernel_rfl)
                ⟨⟨oK,(by exact beq_eq_false_iff_ne.2 hn6)⟩,oK,oK⟩ ?_
              refine Ev.cond false rfl (fun h => (by cases h)) (fun _ => ?_)
              rcases Decidable.em (op = 7) with hop | hn7
              · skip
                refine Ev.reg [(0,.val (dB true))] [1,6,7,8,9,14,42] (st' := ⟨(yo8 ws k w op),(yo0 k w)⟩)
                  (p := (True∧(op == 7) = true)∧True∧True) (by kernel_rfl)
                  ⟨⟨oK,(by exact beq_iff_eq.2 hop)⟩,oK,oK⟩ ?_
                refine Ev.cond true rfl (fun _ => ?_) (fun h => (by cases h))
                refine Ev.seq ?_
                refine Ev.reg [(1,.call none false (yo14 ws))] [1,6,9,49] (st' := ⟨(yo11 ws),(yo0 k w)⟩)
                  (p := True∧callOb Try.prog 29 (yo0 k w) [(LI ws),(i6 2)] none false (yo14 ws)∧True) (by kernel_rfl)
                  ⟨oK,(equal_ok _ 2 (by omega) (by omega)),oK⟩ ?_
                refine Ev.cond _ rfl (fun hc49 => ?_) (fun hc49 => ?_)
                · try simp only [decide_eq_true_eq,decide_eq_false_iff_not,beq_iff_eq,bne_iff_ne,ne_eq,beq_eq_false_iff_ne,bne_eq_false_iff_eq,Bool.not_eq_true,Bool.not_eq_false,Bool.not_eq_true',Bool.not_eq_false',Bool.not_not,gt_iff_lt,ge_iff_le,Nat.not_lt,Int.not_lt,Int.not_le] at hc49
                  have hl1 := (equal_yes hc49).1
                  refine Ev.reg [] [6,9] (st' := ⟨[(6,yo1),(9,(yo10 ws))],(yo0 k w)⟩)
                    (p := True∧(0 ≤ (0 : Int)∧0 < (ws.length : Int))∧T2 True) (by kernel_rfl)
                    ⟨oK,(by first | omega | (simp; first | done | omega)),oK,oK,oK⟩ ?_
                  refine Ev.seq ?_
                  refine Ev.seq ?_
                  refine Ev.reg [(1,.call none false (yo4 ws)),(2,.val (dB false))] [6,9,131] (st' := ⟨[(6,yo1),(9,(yo10 ws)),(131,(dB false))],(yo0 k w)⟩)
                    (p := True∧callOb Try.prog 28 (yo0 k w) [(yo10 ws)] none false (yo4 ws)∧(True∧(!(fitsF (ws.getD 0 0))) = false)∧True) (by kernel_rfl)
                    ⟨oK,(in_ok _),⟨oK,(by first | (rw [equal_fit hc38 (by omega)]; rfl) | (rw [equal_fit hc49 (by omega)]; rfl))⟩,oK⟩ ?_
                  refine Ev.cond false rfl (fun h => (by cases h)) (fun _ => ?_)
                  refine Ev.skip ?_
                  refine Ev.seq ?_
                  refine Ev.reg [] [6] (st' := ⟨[(6,yo1)],(yo6 k w ws)⟩)
                    (p := T3 True) (by kernel_rfl)
                    ⟨oK,oK,oK,oK⟩ ?_
                  refine Ev.ret ?_
                  refine ⟨⟨oK,oK⟩,(?_ : (ws.getD 0 0) = (widthV op ws k w)∧(0 : Int) = (widthE op ws k w)∧True),.inr ⟨oK,oK,oK⟩⟩
                  subst hop
                  exact ⟨(wr_yes ((okr_two (by omega)).2 hc49) (wvr_two (by omega) hc49)).1,(wr_yes ((okr_two (by omega)).2 hc49) (wvr_two (by omega) hc49)).2,oK⟩
                · try simp only [decide_eq_true_eq,decide_eq_false_iff_not,beq_iff_eq,bne_iff_ne,ne_eq,beq_eq_false_iff_ne,bne_eq_false_iff_eq,Bool.not_eq_true,Bool.not_eq_false,Bool.not_eq_true',Bool.not_eq_false',Bool.not_not,gt_iff_lt,ge_iff_le,Nat.not_lt,Int.not_lt,Int.not_le] at hc49
                  refine Ev.skip ?_
                  refine Ev.seq ?_
                  refine Ev.seq ?_
                  refine Ev.reg [(1,.call none false yo3),(2,.val (dB true))] [6,9,131] (st' := ⟨[(6,yo1),(9,(i6 0)),(131,(dB true))],(yo0 k w)⟩)
                    (p := True∧callOb Try.prog 28 (yo0 k w) [(i6 0)] none false yo3∧(True∧(!(fitsF 0)) = true)∧True) (by kernel_rfl)
                    ⟨oK,(in_ok _),⟨oK,(by decide)⟩,oK⟩ ?_
                  refine Ev.cond true rfl (fun _ => ?_) (fun h => (by cases h))
                  refine Ev.seq ?_
                  refine Ev.reg [] [6] (st' := ⟨[(6,yo1)],(yo2 k w)⟩)
                    (p := T2 True) (by kernel_rfl)
                    ⟨oK,oK,oK⟩ ?_
                  refine Ev.ret ?_
                  refine ⟨⟨oK,oK⟩,(?_ : (0 : Int) = (widthV op ws k w)∧(1 : Int) = (widthE op ws k w)∧True),.inr ⟨oK,oK,oK⟩⟩
                  subst hop
                  exact ⟨(wr_no (no_of (fun hh => by have := (okr_two (by omega)).1 hh; rw [hc49] at this; cases this))).1,(wr_no (no_of (fun hh => by have := (okr_two (by omega)).1 hh; rw [hc49] at this; cases this))).2,oK⟩
              · skip
                refine Ev.reg [(0,.val (dB false))] [1,6,7,8,9,14,42] (st' := ⟨(yo7 ws k w op),(yo0 k w)⟩)
                  (p := (True∧(op == 7) = false)∧True∧True) (by kernel_rfl)
                  ⟨⟨oK,(by exact beq_eq_false_iff_ne.2 hn7)⟩,oK,oK⟩ ?_
                refine Ev.cond false rfl (fun h => (by cases h)) (fun _ => ?_)
                refine Ev.seq ?_
                refine Ev.seq ?_
                rcases Decidable.em (op = 8) with hop | hn8
                · skip
                  refine Ev.reg [(0,.val (dB true))] [1,6,7,8,9,14,53] (st' := ⟨[(1,(LI ws)),(6,yo1),(7,(i6 k)),(8,(i6 w)),(9,(i6 0)),(14,(i6 op)),(53,(dB true))],(yo0 k w)⟩)
                    (p := (True∧(op == 8) = true)∧True∧True) (by kernel_rfl)
                    ⟨⟨oK,(by exact beq_iff_eq.2 hop)⟩,oK,oK⟩ ?_
                  refine Ev.cond true rfl (fun _ => ?_) (fun h => (by cases h))
                  refine Ev.skip ?_
                  refine Ev.cond true rfl (fun _ => ?_) (fun h => (by cases h))
                  refine Ev.seq ?_
                  refine Ev.reg [(1,.call none false (yo14 ws))] [6,9,57] (st' := ⟨[(6,yo1),(9,(i6 0)),(57,(yo14 ws))],(yo0 k w)⟩)
                    (p := True∧callOb Try.prog 29 (yo0 k w) [(LI ws),(i6 2)] none false (yo14 ws)∧True) (by kernel_rfl)
                    ⟨oK,(equal_ok _ 2 (by omega) (by omega)),oK⟩ ?_
                  refine Ev.cond _ rfl (fun hc57 => ?_) (fun hc57 => ?_)
                  · try simp only [decide_eq_true_eq,decide_eq_false_iff_not,beq_iff_eq,bne_iff_ne,ne_eq,beq_eq_false_iff_ne,bne_eq_false_iff_eq,Bool.not_eq_true,Bool.not_eq_false,Bool.not_eq_true',Bool.not_eq_false',Bool.not_not,gt_iff_lt,ge_iff_le,Nat.not_lt,Int.not_lt,Int.not_le] at hc57
                    refine Ev.reg [] [6,9] (st' := ⟨[(6,yo1),(9,(i6 1))],(yo0 k w)⟩)
                      (p := True∧True) (by kernel_rfl)
                      ⟨oK,oK⟩ ?_
                    refine Ev.seq ?_
                    refine Ev.seq ?_
                    refine Ev.reg [(1,.call none false (dB (fitsF 1))),(2,.val (dB false))] [6,9,131] (st' := ⟨[(6,yo1),(9,(i6 1)),(131,(dB false))],(yo0 k w)⟩)
                      (p := True∧callOb Try.prog 28 (yo0 k w) [(i6 1)] none false (dB (fitsF 1))∧(True∧(!(fitsF 1)) = false)∧True) (by kernel_rfl)
                      ⟨oK,(in_ok _),⟨oK,(by decide)⟩,oK⟩ ?_
                    refine Ev.cond false rfl (fun h => (by cases h)) (fun _ => ?_)
                    refine Ev.skip ?_
                    refine Ev.seq ?_
                    refine Ev.reg [] [6] (st' := ⟨[(6,yo1)],[(yo16 k w),(.var 32 [(i6 1),(i6 0)])]⟩)
                      (p := T3 True) (by kernel_rfl)
                      ⟨oK,oK,oK,oK⟩ ?_
                    refine Ev.ret ?_
                    refine ⟨⟨oK,oK⟩,(?_ : (1 : Int) = (widthV op ws k w)∧(0 : Int) = (widthE op ws k w)∧True),.inr ⟨oK,oK,oK⟩⟩
                    subst hop
                    exact ⟨(wr_yes ((okr_cmp (by omega)).2 hc57) (wvr_cmp (by omega) hc57)).1,(wr_yes ((okr_cmp (by omega)).2 hc57) (wvr_cmp (by omega) hc57)).2,oK⟩
                  · try simp only [decide_eq_true_eq,decide_eq_false_iff_not,beq_iff_eq,bne_iff_ne,ne_eq,beq_eq_false_iff_ne,bne_eq_false_iff_eq,Bool.not_eq_true,Bool.not_eq_false,Bool.not_eq_true',Bool.not_eq_false',Bool.not_not,gt_iff_lt,ge_iff_le,Nat.not_lt,Int.not_lt,Int.not_le] at hc57
                    refine Ev.skip ?_
                    refine Ev.seq ?_
                    refine Ev.seq ?_
                    refine Ev.reg [(1,.call none false yo3),(2,.val (dB true))] [6,9,131] (st' := ⟨[(6,yo1),(9,(i6 0)),(131,(dB true))],(yo0 k w)⟩)
                      (p := True∧callOb Try.prog 28 (yo0 k w) [(i6 0)] none false yo3∧(True∧(!(fitsF 0)) = true)∧True) (by kernel_rfl)
                      ⟨oK,(in_ok _),⟨oK,(by decide)⟩,oK⟩ ?_
                    refine Ev.cond true rfl (fun _ => ?_) (fun h => (by cases h))
                    refine Ev.seq ?_
                    refine Ev.reg [] [6] (st' := ⟨[(6,yo1)],(yo2 k w)⟩)
                      (p := T2 True) (by kernel_rfl)
                      ⟨oK,oK,oK⟩ ?_
                    refine Ev.ret ?_
                    refine ⟨⟨oK,oK⟩,(?_ : (0 : Int) = (widthV op ws k w)∧(1 : Int) = (widthE op ws k w)∧True),.inr ⟨oK,oK,oK⟩⟩
                    subst hop
                    exact ⟨(wr_no (no_of (fun hh => by have := (okr_cmp (by omega)).1 hh; rw [hc57] at this; cases this))).1,(wr_no (no_of (fun hh => by have := (okr_cmp (by omega)).1 hh; rw [hc57] at this; cases this))).2,oK⟩
                · skip
                  refine Ev.reg [(0,.val (dB false))] [1,6,7,8,9,14,53] (st' := ⟨[(1,(LI ws)),(6,yo1),(7,(i6 k)),(8,(i6 w)),(9,(i6 0)),(14,(i6 op)),(53,(dB false))],(yo0 k w)⟩)
                    (p := (True∧(op == 8) = false)∧True∧True) (by kernel_rfl)
                    ⟨⟨oK,(by exact beq_eq_false_iff_ne.2 hn8)⟩,oK,oK⟩ ?_
                  refine Ev.cond false rfl (fun h => (by cases h)) (fun _ => ?_)
                  rcases Decidable.em (op = 9) with hop | hn9
                  · skip
                    refine Ev.reg [(0,.val (dB true))] [1,6,7,8,9,14,53] (st' := ⟨[(1,(LI ws)),(6,yo1),(7,(i6 k)),(8,(i6 w)),(9,(i6 0)),(14,(i6 op)),(53,(dB true))],(yo0 k w)⟩)
                      (p := (True∧(op == 9) = true)∧True∧True) (by kernel_rfl)
                      ⟨⟨oK,(by exact beq_iff_eq.2 hop)⟩,oK,oK⟩ ?_
                    refine Ev.cond true rfl (fun _ => ?_) (fun h => (by cases h))
                    refine Ev.seq ?_
                    refine Ev.reg [(1,.call none false (yo14 ws))] [6,9,57] (st' := ⟨[(6,yo1),(9,(i6 0)),(57,(yo14 ws))],(yo0 k w)⟩)
                      (p := True∧callOb Try.prog 29 (yo0 k w) [(LI ws),(i6 2)] none false (yo14 ws)∧True) (by kernel_rfl)
                      ⟨oK,(equal_ok _ 2 (by omega) (by omega)),oK⟩ ?_
                    refine Ev.cond _ rfl (fun hc57 => ?_) (fun hc57 => ?_)
                    · try simp only [decide_eq_true_eq,decide_eq_false_iff_not,beq_iff_eq,bne_iff_ne,ne_eq,beq_eq_false_iff_ne,bne_eq_false_iff_eq,Bool.not_eq_true,Bool.not_eq_false,Bool.not_eq_true',Bool.not_eq_false',Bool.not_not,gt_iff_lt,ge_iff_le,Nat.not_lt,Int.not_lt,Int.not_le] at hc57
                      refine Ev.reg [] [6,9] (st' := ⟨[(6,yo1),(9,(i6 1))],(yo0 k w)⟩)
                        (p := True∧True) (by kernel_rfl)
                        ⟨oK,oK⟩ ?_
                      refine Ev.seq ?_
                      refine Ev.seq ?_
                      refine Ev.reg [(1,.call none false (dB (fitsF 1))),(2,.val (dB false))] [6,9,131] (st' := ⟨[(6,yo1),(9,(i6 1)),(131,(dB false))],(yo0 k w)⟩)
                        (p := True∧callOb Try.prog 28 (yo0 k w) [(i6 1)] none false (dB (fitsF 1))∧(True∧(!(fitsF 1)) = false)∧True) (by kernel_rfl)
                        ⟨oK,(in_ok _),⟨oK,(by decide)⟩,oK⟩ ?_
                      refine Ev.cond false rfl (fun h => (by cases h)) (fun _ => ?_)
                      refine Ev.skip ?_
                      refine Ev.seq ?_
                      refine Ev.reg [] [6] (st' := ⟨[(6,yo1)],[(yo16 k w),(.var 32 [(i6 1),(i6 0)])]⟩)
                        (p := T3 True) (by kernel_rfl)
                        ⟨oK,oK,oK,oK⟩ ?_
                      refine Ev.ret ?_
                      refine ⟨⟨oK,oK⟩,(?_ : (1 : Int) = (widthV op ws k w)∧(0 : Int) = (widthE op ws k w)∧True),.inr ⟨oK,oK,oK⟩⟩
                      subst hop
                      exact ⟨(wr_yes ((okr_cmp (by omega)).2 hc57) (wvr_cmp (by omega) hc57)).1,(wr_yes ((okr_cmp (by omega)).2 hc57) (wvr_cmp (by omega) hc57)).2,oK⟩
                    · try simp only [decide_eq_true_eq,decide_eq_false_iff_not,beq_iff_eq,bne_iff_ne,ne_eq,beq_eq_false_iff_ne,bne_eq_false_iff_eq,Bool.not_eq_true,Bool.not_eq_false,Bool.not_eq_true',Bool.not_eq_false',Bool.not_not,gt_iff_lt,ge_iff_le,Nat.not_lt,Int.not_lt,Int.not_le] at hc57
                      refine Ev.skip ?_
                      refine Ev.seq ?_
                      refine Ev.seq ?_
                      refine Ev.reg [(1,.call none false yo3),(2,.val (dB true))] [6,9,131] (st' := ⟨[(6,yo1),(9,(i6 0)),(131,(dB true))],(yo0 k w)⟩)
                        (p := True∧callOb Try.prog 28 (yo0 k w) [(i6 0)] none false yo3∧(True∧(!(fitsF 0)) = true)∧True) (by kernel_rfl)
                        ⟨oK,(in_ok _),⟨oK,(by decide)⟩,oK⟩ ?_
                      refine Ev.cond true rfl (fun _ => ?_) (fun h => (by cases h))
                      refine Ev.seq ?_
                      refine Ev.reg [] [6] (st' := ⟨[(6,yo1)],(yo2 k w)⟩)
                        (p := T2 True) (by kernel_rfl)
                        ⟨oK,oK,oK⟩ ?_
                      refine Ev.ret ?_
                      refine ⟨⟨oK,oK⟩,(?_ : (0 : Int) = (widthV op ws k w)∧(1 : Int) = (widthE op ws k w)∧True),.inr ⟨oK,oK,oK⟩⟩
                      subst hop
                      exact ⟨(wr_no (no_of (fun hh => by have := (okr_cmp (by omega)).1 hh; rw [hc57] at this; cases this))).1,(wr_no (no_of (fun hh => by have := (okr_cmp (by omega)).1 hh; rw [hc57] at this; cases this))).2,oK⟩
                  · skip
                    refine Ev.reg [(0,.val (dB false))] [1,6,7,8,9,14,53] (st' := ⟨[(1,(LI ws)),(6,yo1),(7,(i6 k)),(8,(i6 w)),(9,(i6 0)),(14,(i6 op)),(53,(dB false))],(yo0 k w)⟩)
                      (p := (True∧(op == 9) = false)∧True∧True) (by kernel_rfl)
                      ⟨⟨oK,(by exact beq_eq_false_iff_ne.2 hn9)⟩,oK,oK⟩ ?_
                    refine Ev.cond false rfl (fun h => (by cases h)) (fun _ => ?_)
                    refine Ev.seq ?_
                    rcases Decidable.em (op = 10) with hop | hn10
                    · skip
                      refine Ev.reg [(0,.val (dB true))] [1,6,7,8,9,14,58] (st' := ⟨[(1,(LI ws)),(6,yo1),(7,(i6 k)),(8,(i6 w)),(9,(i6 0)),(14,(i6 op)),(58,(dB true))],(yo0 k w)⟩)
                        (p := (True∧(op == 10) = true)∧True∧True) (by kernel_rfl)
                        ⟨⟨oK,(by exact beq_iff_eq.2 hop)⟩,oK,oK⟩ ?_
                      refine Ev.cond true rfl (fun _ => ?_) (fun h => (by cases h))
                      refine Ev.seq ?_
                      rcases (show (equalF ws 3 = false) ∨ (equalF ws 3 = true∧ws.getD 0 0 ≠ 1) ∨ (equalF ws 3 = true∧ws.getD 0 0 = 1) from mux_cases ws) with h | h | h
                      · skip
                        refine Ev.reg [(1,.call none false (dB (equalF ws 3))),(2,.val (dB false))] [1,6,9,67] (st' := ⟨[(1,(LI ws)),(6,yo1),(9,(i6 0)),(67,(dB false))],(yo0 k w)⟩)
                          (p := True∧callOb Try.prog 29 (yo0 k w) [(LI ws),(i6 3)] none false (dB (equalF ws 3))∧(True∧(equalF ws 3) = false)∧T5 True) (by kernel_rfl)
                          ⟨oK,(equal_ok _ 3 (by omega) (by omega)),⟨oK,(by exact h)⟩,oK,oK,oK,oK,oK,oK⟩ ?_
                        refine Ev.cond false rfl (fun h => (by cases h)) (fun _ => ?_)
                        refine Ev.skip ?_
                        refine Ev.seq ?_
                        refine Ev.seq ?_
                        refine Ev.reg [(1,.call none false yo3),(2,.val (dB true))] [6,9,131] (st' := ⟨[(6,yo1),(9,(i6 0)),(131,(dB true))],(yo0 k w)⟩)
                          (p := True∧callOb Try.prog 28 (yo0 k w) [(i6 0)] none false yo3∧(True∧(!(fitsF 0)) = true)∧True) (by kernel_rfl)
                          ⟨oK,(in_ok _),⟨oK,(by decide)⟩,oK⟩ ?_
                        refine Ev.cond true rfl (fun _ => ?_) (fun h => (by cases h))
                        refine Ev.seq ?_
                        refine Ev.reg [] [6] (st' := ⟨[(6,yo1)],(yo2 k w)⟩)
                          (p := T2 True) (by kernel_rfl)
                          ⟨oK,oK,oK⟩ ?_
                        refine Ev.ret ?_
                        refine ⟨⟨oK,oK⟩,(?_ : (0 : Int) = (widthV op ws k w)∧(1 : Int) = (widthE op ws k w)∧True),.inr ⟨oK,oK,oK⟩⟩
                        subst hop
                        exact ⟨(wr_no (no_of (fun hh => by have := (okr_mux.1 hh).1; rw [h] at this; cases this))).1,(wr_no (no_of (fun hh => by have := (okr_mux.1 hh).1; rw [h] at this; cases this))).2,oK⟩
                      · skip
                        have hl1 := (equal_yes h.1).1
                        refine Ev.reg [(1,.call none false (dB (equalF ws 3))),(2,.val (dB true)),(6,.val (dB false))] [1,6,9,67] (st' := ⟨[(1,(LI ws)),(6,yo1),(9,(i6 0)),(67,(dB false))],(yo0 k w)⟩)
                          (p := True∧callOb Try.prog 29 (yo0 k w) [(LI ws),(i6 3)] none false (dB (equalF ws 3))∧(True∧(equalF ws 3) = true)∧True∧(0 ≤ (0 : Int)∧0 < (ws.length : Int))∧True∧(True∧((ws.getD 0 0) == 1) = false)∧True∧True) (by kernel_rfl)
                          ⟨oK,(equal_ok _ 3 (by omega) (by omega)),⟨oK,(by exact h.1)⟩,oK,(by first | omega | (simp; first | done | omega)),oK,⟨oK,(by simpa using h.2)⟩,oK,oK⟩ ?_
                        refine Ev.cond false rfl (fun h => (by cases h)) (fun _ => ?_)
                        refine Ev.skip ?_
                        refine Ev.seq ?_
                        refine Ev.seq ?_
                        refine Ev.reg [(1,.call none false yo3),(2,.val (dB true))] [6,9,131] (st' := ⟨[(6,yo1),(9,(i6 0)),(131,(dB true))],(yo0 k w)⟩)
                          (p := True∧callOb Try.prog 28 (yo0 k w) [(i6 0)] none false yo3∧(True∧(!(fitsF 0)) = true)∧True) (by kernel_rfl)
                          ⟨oK,(in_ok _),⟨oK,(by decide)⟩,oK⟩ ?_
                        refine Ev.cond true rfl (fun _ => ?_) (fun h => (by cases h))
                        refine Ev.seq ?_
                        refine Ev.reg [] [6] (st' := ⟨[(6,yo1)],(yo2 k w)⟩)
                          (p := T2 True) (by kernel_rfl)
                          ⟨oK,oK,oK⟩ ?_
                        refine Ev.ret ?_
                        refine ⟨⟨oK,oK⟩,(?_ : (0 : Int) = (widthV op ws k w)∧(1 : Int) = (widthE op ws k w)∧True),.inr ⟨oK,oK,oK⟩⟩
                        subst hop
                        exact ⟨(wr_no (no_of (fun hh => by exact h.2 (okr_mux.1 hh).2))).1,(wr_no (no_of (fun hh => by exact h.2 (okr_mux.1 hh).2))).2,oK⟩
                      · skip
                        have hl1 := (equal_yes h.1).1
                        refine Ev.reg [(1,.call none false (dB (equalF ws 3))),(2,.val (dB true)),(6,.val (dB true))] [1,6,9,67] (st' := ⟨[(1,(LI ws)),(6,yo1),(9,(i6 0)),(67,(dB true))],(yo0 k w)⟩)
                          (p := True∧callOb Try.prog 29 (yo0 k w) [(LI ws),(i6 3)] none false (dB (equalF ws 3))∧(True∧(equalF ws 3) = true)∧True∧(0 ≤ (0 : Int)∧0 < (ws.length : Int))∧True∧(True∧((ws.getD 0 0) == 1) = true)∧True∧True) (by kernel_rfl)
                          ⟨oK,(equal_ok _ 3 (by omega) (by omega)),⟨oK,(by exact h.1)⟩,oK,(by first | omega | (simp; first | done | omega)),oK,⟨oK,(by simpa using h.2)⟩,oK,oK⟩ ?_
                        refine Ev.cond true rfl (fun _ => ?_) (fun h => (by cases h))
                        refine Ev.reg [] [6,9] (st' := ⟨[(6,yo1),(9,(i6 (ws.getD 1 0)))],(yo0 k w)⟩)
                          (p := True∧(0 ≤ (1 : Int)∧1 < (ws.length : Int))∧T2 True) (by kernel_rfl)
                          ⟨oK,(by first | omega | (simp; first | done | omega)),oK,oK,oK⟩ ?_
                        refine Ev.seq ?_
                        refine Ev.seq ?_
                        refine Ev.reg [(1,.call none false (dB (fitsF (ws.getD 1 0)))),(2,.val (dB false))] [6,9,131] (st' := ⟨[(6,yo1),(9,(i6 (ws.getD 1 0))),(131,(dB false))],(yo0 k w)⟩)
                          (p := True∧callOb Try.prog 28 (yo0 k w) [(i6 (ws.getD 1 0))] none false (dB (fitsF (ws.getD 1 0)))∧(True∧(!(fitsF (ws.getD 1 0))) = false)∧True) (by kernel_rfl)
                          ⟨oK,(in_ok _),⟨oK,(by rw [equal_fit h.1 (by omega)]; rfl)⟩,oK⟩ ?_
                        refine Ev.cond false rfl (fun h => (by cases h)) (fun _ => ?_)
                        refine Ev.skip ?_
                        refine Ev.seq ?_
                        refine Ev.reg [] [6] (st' := ⟨[(6,yo1)],[(yo16 k w),(.var 32 [(i6 (ws.getD 1 0)),(i6 0)])]⟩)
                          (p := T3 True) (by kernel_rfl)
                          ⟨oK,oK,oK,oK⟩ ?_
                        refine Ev.ret ?_
                        refine ⟨⟨oK,oK⟩,(?_ : (ws.getD 1 0) = (widthV op ws k w)∧(0 : Int) = (widthE op ws k w)∧True),.inr ⟨oK,oK,oK⟩⟩
                        subst hop
                        exact ⟨(wr_yes (okr_mux.2 h) (wvr_mux h.1 h.2)).1,(wr_yes (okr_mux.2 h) (wvr_mux h.1 h.2)).2,oK⟩
                    · skip
                      refine Ev.reg [(0,.val (dB false))] [1,6,7,8,9,14,58] (st' := ⟨[(1,(LI ws)),(6,yo1),(7,(i6 k)),(8,(i6 w)),(9,(i6 0)),(14,(i6 op)),(58,(dB false))],(yo0 k w)⟩)
                        (p := (True∧(op == 10) = false)∧True∧True) (by kernel_rfl)
                        ⟨⟨oK,(by exact beq_eq_false_iff_ne.2 hn10)⟩,oK,oK⟩ ?_
                      refine Ev.cond false rfl (fun h => (by cases h)) (fun _ => ?_)
                      refine Ev.seq ?_
                      rcases Decidable.em (op = 11) with hop | hn11
                      · skip
                        refine Ev.reg [(0,.val (dB true))] [1,6,7,8,9,14,71] (st' := ⟨[(1,(LI ws)),(6,yo1),(7,(i6 k)),(8,(i6 w)),(9,(i6 0)),(14,(i6 op)),(71,(dB true))],(yo0 k w)⟩)
                          (p := (True∧(op == 11) = true)∧True∧True) (by kernel_rfl)
                          ⟨⟨oK,(by exact beq_iff_eq.2 hop)⟩,oK,oK⟩ ?_
                        refine Ev.cond true rfl (fun _ => ?_) (fun h => (by cases h))
                        refine Ev.seq ?_
                        rcases (show (ws.length ≠ 2) ∨ (ws.length = 2∧fitsF (ws.getD 0 0) = false) ∨ (ws.length = 2∧fitsF (ws.getD 0 0) = true∧fitsF (ws.getD 1 0) = false) ∨ (ws.length = 2∧fitsF (ws.getD 0 0) = true∧fitsF (ws.getD 1 0) = true) from by by_cases h1 : ws.length = 2 <;> cases h2 : fitsF (ws.getD 0 0) <;> cases h3 : fitsF (ws.getD 1 0) <;> simp [h1]) with h | h | h | h
                        · skip
                          refine Ev.reg [(2,.val (dB false))] [1,6,9,87] (st' := ⟨[(1,(LI ws)),(6,yo1),(9,(i6 0)),(87,(dB false))],(yo0 k w)⟩)
                            (p := T2 ((True∧(((ws.length : Nat) : Int) == 2) = false)∧T9 (T3 True))) (by kernel_rfl)
                            ⟨oK,oK,⟨oK,(by exact beq_eq_false_iff_ne.2 (by omega))⟩,oK,oK,oK,oK,oK,oK,oK,oK,oK,oK,oK,oK,oK⟩ ?_
                          refine Ev.cond false rfl (fun h => (by cases h)) (fun _ => ?_)
                          refine Ev.skip ?_
                          refine Ev.seq ?_
                          refine Ev.seq ?_
                          refine Ev.reg [(1,.call none false yo3),(2,.val (dB true))] [6,9,131] (st' := ⟨[(6,yo1),(9,(i6 0)),(131,(dB true))],(yo0 k w)⟩)
                            (p := True∧callOb Try.prog 28 (yo0 k w) [(i6 0)] none false yo3∧(True∧(!(fitsF 0)) = true)∧True) (by kernel_rfl)
                            ⟨oK,(in_ok _),⟨oK,(by decide)⟩,oK⟩ ?_
                          refine Ev.cond true rfl (fun _ => ?_) (fun h => (by cases h))
                          refine Ev.seq ?_
                          refine Ev.reg [] [6] (st' := ⟨[(6,yo1)],(yo2 k w)⟩)
                            (p := T2 True) (by kernel_rfl)
                            ⟨oK,oK,oK⟩ ?_
                          refine Ev.ret ?_
                          refine ⟨⟨oK,oK⟩,(?_ : (0 : Int) = (widthV op ws k w)∧(1 : Int) = (widthE op ws k w)∧True),.inr ⟨oK,oK,oK⟩⟩
                          subst hop
                          exact ⟨(wr_no (no_of (fun hh => by exact h (okr_cat.1 hh).1))).1,(wr_no (no_of (fun hh => by exact h (okr_cat.1 hh).1))).2,oK⟩
                        · skip
                          refine Ev.reg [(2,.val (dB true)),(7,.call none false (yo4 ws)),(9,.val (dB false))] [1,6,9,87] (st' := ⟨[(1,(LI ws)),(6,yo1),(9,(i6 0)),(87,(dB false))],(yo0 k w)⟩)
                            (p := T2 ((True∧(((ws.length : Nat) : Int) == 2) = true)∧T2 ((0 ≤ (0 : Int)∧0 < (ws.length : Int))∧True∧callOb Try.prog 28 (yo0 k w) [(yo10 ws)] none false (yo4 ws)∧True∧(True∧(fitsF (ws.getD 0 0)) = false)∧T5 True))) (by kernel_rfl)
                            ⟨oK,oK,⟨oK,(by exact beq_iff_eq.2 (by omega))⟩,oK,oK,(by first | omega | (simp; first | done | omega)),oK,(in_ok _),oK,⟨oK,(by exact h.2)⟩,oK,oK,oK,oK,oK,oK⟩ ?_
                          refine Ev.cond false rfl (fun h => (by cases h)) (fun _ => ?_)
                          refine Ev.skip ?_
                          refine Ev.seq ?_
                          refine Ev.seq ?_
                          refine Ev.reg [(1,.call none false yo3),(2,.val (dB true))] [6,9,131] (st' := ⟨[(6,yo1),(9,(i6 0)),(131,(dB true))],(yo0 k w)⟩)
                            (p := True∧callOb Try.prog 28 (yo0 k w) [(i6 0)] none false yo3∧(True∧(!(fitsF 0)) = true)∧True) (by kernel_rfl)
                            ⟨oK,(in_ok _),⟨oK,(by decide)⟩,oK⟩ ?_
                          refine Ev.cond true rfl (fun _ => ?_) (fun h => (by cases h))
                          refine Ev.seq ?_
                          refine Ev.reg [] [6] (st' := ⟨[(6,yo1)],(yo2 k w)⟩)
                            (p := T2 True) (by kernel_rfl)
                            ⟨oK,oK,oK⟩ ?_
                          refine Ev.ret ?_
                          refine ⟨⟨oK,oK⟩,(?_ : (0 : Int) = (widthV op ws k w)∧(1 : Int) = (widthE op ws k w)∧True),.inr ⟨oK,oK,oK⟩⟩
                          subst hop
                          exact ⟨(wr_no (no_of (fun hh => by have := (okr_cat.1 hh).2.1; rw [h.2] at this; cases this))).1,(wr_no (no_of (fun hh => by have := (okr_cat.1 hh).2.1; rw [h.2] at this; cases this))).2,oK⟩
                        · skip
                          refine Ev.reg [(2,.val (dB true)),(7,.call none false (yo4 ws)),(9,.val (dB true)),(13,.call none false (dB (fitsF (ws.getD 1 0)))),(14,.val (dB false))] [1,6,9,87] (st' := ⟨[(1,(LI ws)),(6,yo1),(9,(i6 0)),(87,(dB false))],(yo0 k w)⟩)
                            (p := T2 ((True∧(((ws.length : Nat) : Int) == 2) = true)∧T2 ((0 ≤ (0 : Int)∧0 < (ws.length : Int))∧True∧callOb Try.prog 28 (yo0 k w) [(yo10 ws)] none false (yo4 ws)∧True∧(True∧(fitsF (ws.getD 0 0)) = true)∧True∧(0 ≤ (1 : Int)∧1 < (ws.length : Int))∧True∧callOb Try.prog 28 (yo0 k w) [(i6 (ws.getD 1 0))] none false (dB (fitsF (ws.getD 1 0)))∧(True∧(fitsF (ws.getD 1 0)) = false)∧True))) (by kernel_rfl)
                            ⟨oK,oK,⟨oK,(by exact beq_iff_eq.2 (by omega))⟩,oK,oK,(by first | omega | (simp; first | done | omega)),oK,(in_ok _),oK,⟨oK,(by exact h.2.1)⟩,oK,(by first | omega | (simp; first | done | omega)),oK,(in_ok _),⟨oK,(by exact h.2.2)⟩,oK⟩ ?_
                          refine Ev.cond false rfl (fun h => (by cases h)) (fun _ => ?_)
                          refine Ev.skip ?_
                          refine Ev.seq ?_
                          refine Ev.seq ?_
                          refine Ev.reg [(1,.call none false yo3),(2,.val (dB true))] [6,9,131] (st' := ⟨[(6,yo1),(9,(i6 0)),(131,(dB true))],(yo0 k w)⟩)
                            (p := True∧callOb Try.prog 28 (yo0 k w) [(i6 0)] none false yo3∧(True∧(!(fitsF 0)) = true)∧True) (by kernel_rfl)
                            ⟨oK,(in_ok _),⟨oK,(by decide)⟩,oK⟩ ?_
                          refine Ev.cond true rfl (fun _ => ?_) (fun h => (by cases h))
                          refine Ev.seq ?_
                          refine Ev.reg [] [6] (st' := ⟨[(6,yo1)],(yo2 k w)⟩)
                            (p := T2 True) (by kernel_rfl)
                            ⟨oK,oK,oK⟩ ?_
                          refine Ev.ret ?_
                          refine ⟨⟨oK,oK⟩,(?_ : (0 : Int) = (widthV op ws k w)∧(1 : Int) = (widthE op ws k w)∧True),.inr ⟨oK,oK,oK⟩⟩
                          subst hop
                          exact ⟨(wr_no (no_of (fun hh => by have := (okr_cat.1 hh).2.2.1; rw [h.2.2] at this; cases this))).1,(wr_no (no_of (fun hh => by have := (okr_cat.1 hh).2.2.1; rw [h.2.2] at this; cases this))).2,oK⟩
                        · skip
                          have f0 := fits_iff.1 h.2.1
                          have f1 := fits_iff.1 h.2.2
                          refine Ev.reg [(2,.val (dB true)),(7,.call none false (yo4 ws)),(9,.val (dB true)),(13,.call none false (dB (fitsF (ws.getD 1 0)))),(14,.val (dB true))] [1,6,9,87] (st' := ⟨[(1,(LI ws)),(6,yo1),(9,(i6 0)),(87,(dB true))],(yo0 k w)⟩)
                            (p := T2 ((True∧(((ws.length : Nat) : Int) == 2) = true)∧T2 ((0 ≤ (0 : Int)∧0 < (ws.length : Int))∧True∧callOb Try.prog 28 (yo0 k w) [(yo10 ws)] none false (yo4 ws)∧True∧(True∧(fitsF (ws.getD 0 0)) = true)∧True∧(0 ≤ (1 : Int)∧1 < (ws.length : Int))∧True∧callOb Try.prog 28 (yo0 k w) [(i6 (ws.getD 1 0))] none false (dB (fitsF (ws.getD 1 0)))∧(True∧(fitsF (ws.getD 1 0)) = true)∧True))) (by kernel_rfl)
                            ⟨oK,oK,⟨oK,(by exact beq_iff_eq.2 (by omega))⟩,oK,oK,(by first | omega | (simp; first | done | omega)),oK,(in_ok _),oK,⟨oK,(by exact h.2.1)⟩,oK,(by first | omega | (simp; first | done | omega)),oK,(in_ok _),⟨oK,(by exact h.2.2)⟩,oK⟩ ?_
                          refine Ev.cond true rfl (fun _ => ?_) (fun h => (by cases h))
                          refine Ev.draw 8 [false,false,false,false,false,false,false,false] [(6,.val (i6 ((ws.getD 0 0) + (ws.getD 1 0))))] [6,9] (st' := ⟨[(6,yo1),(9,(i6 ((ws.getD 0 0) + (ws.getD 1 0))))],(yo0 k w)⟩)
                            (p := (True∧(0 ≤ (0 : Int)∧0 < (ws.length : Int))∧T2 ((0 ≤ (1 : Int)∧1 < (ws.length : Int))∧True∧(True∧(IntKind.wrap .i64 ((ws.getD 0 0) + (ws.getD 1 0))) = ((ws.getD 0 0) + (ws.getD 1 0)))∧True∧True))∧True) (by kernel_rfl) (by kernel_rfl)
                            ⟨⟨oK,(by first | omega | (simp; first | done | omega)),oK,oK,(by first | omega | (simp; first | done | omega)),oK,⟨oK,(w64 rfl (by first | omega | (simp; first | done | omega)) (by first | omega | (simp; first | done | omega)))⟩,oK,oK⟩,oK⟩ ?_
                          refine Ev.seq ?_
                          refine Ev.seq ?_
                          refine Ev.reg [(1,.call none false (dB (fitsF ((ws.getD 0 0) + (ws.getD 1 0)))))] [6,9,131] (st' := ⟨[(6,yo1),(9,(i6 ((ws.getD 0 0) + (ws.getD 1 0)))),(131,(dB (!(fitsF ((ws.getD 0 0) + (ws.getD 1 0))))))],(yo0 k w)⟩)
                            (p := True∧callOb Try.prog 28 (yo0 k w) [(i6 ((ws.getD 0 0) + (ws.getD 1 0)))] none false (dB (fitsF ((ws.getD 0 0) + (ws.getD 1 0))))∧True∧True) (by kernel_rfl)
                            ⟨oK,(in_ok _),oK,oK⟩ ?_
                          refine Ev.cond _ rfl (fun hc131 => ?_) (fun hc131 => ?_)
                          · try simp only [decide_eq_true_eq,decide_eq_false_iff_not,beq_iff_eq,bne_iff_ne,ne_eq,beq_eq_false_iff_ne,bne_eq_false_iff_eq,Bool.not_eq_true,Bool.not_eq_false,Bool.not_eq_true',Bool.not_eq_false',Bool.not_not,gt_iff_lt,ge_iff_le,Nat.not_lt,Int.not_lt,Int.not_le] at hc131
                            refine Ev.seq ?_
                            refine Ev.reg [] [6] (st' := ⟨[(6,yo1)],(yo2 k w)⟩)
                              (p := T2 True) (by kernel_rfl)
                              ⟨oK,oK,oK⟩ ?_
                            refine Ev.ret ?_
                            refine ⟨⟨oK,oK⟩,(?_ : (0 : Int) = (widthV op ws k w)∧(1 : Int) = (widthE op ws k w)∧True),.inr ⟨oK,oK,oK⟩⟩
                            subst hop
                            exact ⟨(wr_no (no_of (fun hh => by have := (okr_cat.1 hh).2.2.2; rw [show fitsF (ws.getD 0 0 + ws.getD 1 0) = false by simpa using hc131] at this; cases this))).1,(wr_no (no_of (fun hh => by have := (okr_cat.1 hh).2.2.2; rw [show fitsF (ws.getD 0 0 + ws.getD 1 0) = false by simpa using hc131] at this; cases this))).2,oK⟩
                          · try simp only [decide_eq_true_eq,decide_eq_false_iff_not,beq_iff_eq,bne_iff_ne,ne_eq,beq_eq_false_iff_ne,bne_eq_false_iff_eq,Bool.not_eq_true,Bool.not_eq_false,Bool.not_eq_true',Bool.not_eq_false',Bool.not_not,gt_iff_lt,ge_iff_le,Nat.not_lt,Int.not_lt,Int.not_le] at hc131
                            refine Ev.skip ?_
                            refine Ev.seq ?_
                            refine Ev.reg [] [6] (st' := ⟨[(6,yo1)],[(yo16 k w),(.var 32 [(i6 ((ws.getD 0 0) + (ws.getD 1 0))),(i6 0)])]⟩)
                              (p := T3 True) (by kernel_rfl)
                              ⟨oK,oK,oK,oK⟩ ?_
                            refine Ev.ret ?_
                            refine ⟨⟨oK,oK⟩,(?_ : ((ws.getD 0 0) + (ws.getD 1 0)) = (widthV op ws k w)∧(0 : Int) = (widthE op ws k w)∧True),.inr ⟨oK,oK,oK⟩⟩
                            subst hop
                            exact ⟨(wr_yes (okr_cat.2 ⟨h.1,h.2.1,h.2.2,by simpa using hc131⟩) (rfl)).1,(wr_yes (okr_cat.2 ⟨h.1,h.2.1,h.2.2,by simpa using hc131⟩) (rfl)).2,oK⟩
                      · skip
                        refine Ev.reg [(0,.val (dB false))] [1,6,7,8,9,14,71] (st' := ⟨[(1,(LI ws)),(6,yo1),(7,(i6 k)),(8,(i6 w)),(9,(i6 0)),(14,(i6 op)),(71,(dB false))],(yo0 k w)⟩)
                          (p := (True∧(op == 11) = false)∧True∧True) (by kernel_rfl)
                          ⟨⟨oK,(by exact beq_eq_false_iff_ne.2 hn11)⟩,oK,oK⟩ ?_
                        refine Ev.cond false rfl (fun h => (by cases h)) (fun _ => ?_)
                        refine Ev.seq ?_
                        rcases Decidable.em (op = 12) with hop | hn12
                        · skip
                          refine Ev.reg [(0,.val (dB true))] [1,6,7,8,9,14,95] (st' := ⟨[(1,(LI ws)),(6,yo1),(7,(i6 k)),(8,(i6 w)),(9,(i6 0)),(14,(i6 op)),(95,(dB true))],(yo0 k w)⟩)
                            (p := (True∧(op == 12) = true)∧True∧True) (by kernel_rfl)
                            ⟨⟨oK,(by exact beq_iff_eq.2 hop)⟩,oK,oK⟩ ?_
                          refine Ev.cond true rfl (fun _ => ?_) (fun h => (by cases h))
                          refine Ev.seq ?_
                          rcases (show (equalF ws 1 = false) ∨ (equalF ws 1 = true∧fitsF w = false) ∨ (equalF ws 1 = true∧fitsF w = true∧k < 0) ∨ (equalF ws 1 = true∧fitsF w = true∧0 ≤ k∧ws.getD 0 0 - w < k) ∨ (equalF ws 1 = true∧fitsF w = true∧0 ≤ k∧k ≤ ws.getD 0 0 - w) from slice_cases ws k w) with h | h | h | h | h
                          · skip
                            refine Ev.reg [(1,.call none false (yo13 ws)),(2,.val (dB false))] [6,8,9,115] (st' := ⟨[(6,yo1),(8,(i6 w)),(9,(i6 0)),(115,(dB false))],(yo0 k w)⟩)
                              (p := True∧callOb Try.prog 29 (yo0 k w) [(LI ws),(i6 1)] none false (yo13 ws)∧(True∧(equalF ws 1) = false)∧T9 (T7 True)) (by kernel_rfl)
                              ⟨oK,(equal_ok _ 1 (by omega) (by omega)),⟨oK,(by exact h)⟩,oK,oK,oK,oK,oK,oK,oK,oK,oK,oK,oK,oK,oK,oK,oK,oK,oK⟩ ?_
                            refine Ev.cond false rfl (fun h => (by cases h)) (fun _ => ?_)
                            refine Ev.skip ?_
                            refine Ev.seq ?_
                            refine Ev.seq ?_
                            refine Ev.reg [(1,.call none false yo3),(2,.val (dB true))] [6,9,131] (st' := ⟨[(6,yo1),(9,(i6 0)),(131,(dB true))],(yo0 k w)⟩)
                              (p := True∧callOb Try.prog 28 (yo0 k w) [(i6 0)] none false yo3∧(True∧(!(fitsF 0)) = true)∧True) (by kernel_rfl)
                              ⟨oK,(in_ok _),⟨oK,(by decide)⟩,oK⟩ ?_
                            refine Ev.cond true rfl (fun _ => ?_) (fun h => (by cases h))
                            refine Ev.seq ?_
                            refine Ev.reg [] [6] (st' := ⟨[(6,yo1)],(yo2 k w)⟩)
                              (p := T2 True) (by kernel_rfl)
                              ⟨oK,oK,oK⟩ ?_
                            refine Ev.ret ?_
                            refine ⟨⟨oK,oK⟩,(?_ : (0 : Int) = (widthV op ws k w)∧(1 : Int) = (widthE op ws k w)∧True),.inr ⟨oK,oK,oK⟩⟩
                            subst hop
                            exact ⟨(wr_no (no_of (fun hh => by have := (okr_slice.1 hh).1; rw [h] at this; cases this))).1,(wr_no (no_of (fun hh => by have := (okr_slice.1 hh).1; rw [h] at this; cases this))).2,oK⟩
                          · skip
                            refine Ev.reg [(1,.call none false (yo13 ws)),(2,.val (dB true)),(4,.call none false (yo15 w)),(6,.val (dB false))] [6,8,9,115] (st' := ⟨[(6,yo1),(8,(i6 w)),(9,(i6 0)),(115,(dB false))],(yo0 k w)⟩)
                              (p := True∧callOb Try.prog 29 (yo0 k w) [(LI ws),(i6 1)] none false (yo13 ws)∧(True∧(equalF ws 1) = true)∧True∧callOb Try.prog 28 (yo0 k w) [(i6 w)] none false (yo15 w)∧True∧(True∧(fitsF w) = false)∧T9 (T3 True)) (by kernel_rfl)
                              ⟨oK,(equal_ok _ 1 (by omega) (by omega)),⟨oK,(by exact h.1)⟩,oK,(in_ok _),oK,⟨oK,(by exact h.2)⟩,oK,oK,oK,oK,oK,oK,oK,oK,oK,oK,oK,oK,oK⟩ ?_
                            refine Ev.cond false rfl (fun h => (by cases h)) (fun _ => ?_)
                            refine Ev.skip ?_
                            refine Ev.seq ?_
                            refine Ev.seq ?_
                            refine Ev.reg [(1,.call none false yo3),(2,.val (dB true))] [6,9,131] (st' := ⟨[(6,yo1),(9,(i6 0)),(131,(dB true))],(yo0 k w)⟩)
                              (p := True∧callOb Try.prog 28 (yo0 k w) [(i6 0)] none false yo3∧(True∧(!(fitsF 0)) = true)∧True) (by kernel_rfl)
                              ⟨oK,(in_ok _),⟨oK,(by decide)⟩,oK⟩ ?_
                            refine Ev.cond true rfl (fun _ => ?_) (fun h => (by cases h))
                            refine Ev.seq ?_
                            refine Ev.reg [] [6] (st' := ⟨[(6,yo1)],(yo2 k w)⟩)
                              (p := T2 True) (by kernel_rfl)
                              ⟨oK,oK,oK⟩ ?_
                            refine Ev.ret ?_
                            refine ⟨⟨oK,oK⟩,(?_ : (0 : Int) = (widthV op ws k w)∧(1 : Int) = (widthE op ws k w)∧True),.inr ⟨oK,oK,oK⟩⟩
                            subst hop
                            exact ⟨(wr_no (no_of (fun hh => by have := (okr_slice.1 hh).2.1; rw [h.2] at this; cases this))).1,(wr_no (no_of (fun hh => by have := (okr_slice.1 hh).2.1; rw [h.2] at this; cases this))).2,oK⟩
                          · skip
                            refine Ev.reg [(1,.call none false (yo13 ws)),(2,.val (dB true)),(4,.call none false (yo15 w)),(6,.val (dB true)),(8,.val (dB false))] [6,8,9,115] (st' := ⟨[(6,yo1),(8,(i6 w)),(9,(i6 0)),(115,(dB false))],(yo0 k w)⟩)
                              (p := True∧callOb Try.prog 29 (yo0 k w) [(LI ws),(i6 1)] none false (yo13 ws)∧(True∧(equalF ws 1) = true)∧True∧callOb Try.prog 28 (yo0 k w) [(i6 w)] none false (yo15 w)∧True∧(True∧(fitsF w) = true)∧True∧(True∧(decide (k ≥ 0)) = false)∧T9 (True∧True)) (by kernel_rfl)
                              ⟨oK,(equal_ok _ 1 (by omega) (by omega)),⟨oK,(by exact h.1)⟩,oK,(in_ok _),oK,⟨oK,(by exact h.2.1)⟩,oK,⟨oK,(by first | (simp; done) | (simp; omega))⟩,oK,oK,oK,oK,oK,oK,oK,oK,oK,oK,oK⟩ ?_
                            refine Ev.cond false rfl (fun h => (by cases h)) (fun _ => ?_)
                            refine Ev.skip ?_
                            refine Ev.seq ?_
                            refine Ev.seq ?_
                            refine Ev.reg [(1,.call none false yo3),(2,.val (dB true))] [6,9,131] (st' := ⟨[(6,yo1),(9,(i6 0)),(131,(dB true))],(yo0 k w)⟩)
                              (p := True∧callOb Try.prog 28 (yo0 k w) [(i6 0)] none false yo3∧(True∧(!(fitsF 0)) = true)∧True) (by kernel_rfl)
                              ⟨oK,(in_ok _),⟨oK,(by decide)⟩,oK⟩ ?_
                            refine Ev.cond true rfl (fun _ => ?_) (fun h => (by cases h))
                            refine Ev.seq ?_
                            refine Ev.reg [] [6] (st' := ⟨[(6,yo1)],(yo2 k w)⟩)
                              (p := T2 True) (by kernel_rfl)
                              ⟨oK,oK,oK⟩ ?_
                            refine Ev.ret ?_
                            refine ⟨⟨oK,oK⟩,(?_ : (0 : Int) = (widthV op ws k w)∧(1 : Int) = (widthE op ws k w)∧True),.inr ⟨oK,oK,oK⟩⟩
                            subst hop
                            exact ⟨(wr_no (no_of (fun hh => by have := okr_slice.1 hh; omega))).1,(wr_no (no_of (fun hh => by have := okr_slice.1 hh; omega))).2,oK⟩
                          · skip
                            have hl1 := (equal_yes h.1).1
                            have f0 := fits_iff.1 (equal_fit h.1 (i := 0) (by omega))
                            have f1 := fits_iff.1 h.2.1
                            refine Ev.reg [(1,.call none false (yo13 ws)),(2,.val (dB true)),(4,.call none false (yo15 w)),(6,.val (dB true)),(8,.val (dB true)),(16,.val (i6 ((ws.getD 0 0) - w))),(17,.val (dB false))] [6,8,9,115] (st' := ⟨[(6,yo1),(8,(i6 w)),(9,(i6 0)),(115,(dB false))],(yo0 k w)⟩)
                              (p := True∧callOb Try.prog 29 (yo0 k w) [(LI ws),(i6 1)] none false (yo13 ws)∧(True∧(equalF ws 1) = true)∧True∧callOb Try.prog 28 (yo0 k w) [(i6 w)] none false (yo15 w)∧True∧(True∧(fitsF w) = true)∧True∧(True∧(decide (k ≥ 0)) = true)∧T4 ((0 ≤ (0 : Int)∧0 < (ws.length : Int))∧T2 ((True∧(IntKind.wrap .i64 ((ws.getD 0 0) - w)) = ((ws.getD 0 0) - w))∧(True∧(decide (k ≤ ((ws.getD 0 0) - w))) = false)∧True∧True))) (by kernel_rfl)
                              ⟨oK,(equal_ok _ 1 (by omega) (by omega)),⟨oK,(by exact h.1)⟩,oK,(in_ok _),oK,⟨oK,(by exact h.2.1)⟩,oK,⟨oK,(by first | (simp; done) | (simp; omega))⟩,oK,oK,oK,oK,(by first | omega | (simp; first | done | omega)),oK,oK,⟨oK,(w64 rfl (by first | omega | (simp; first | done | omega)) (by first | omega | (simp; first | done | omega)))⟩,⟨oK,(by exact decide_eq_false (by omega))⟩,oK,oK⟩ ?_
                            refine Ev.cond false rfl (fun h => (by cases h)) (fun _ => ?_)
                            refine Ev.skip ?_
                            refine Ev.seq ?_
                            refine Ev.seq ?_
                            refine Ev.reg [(1,.call none false yo3),(2,.val (dB true))] [6,9,131] (st' := ⟨[(6,yo1),(9,(i6 0)),(131,(dB true))],(yo0 k w)⟩)
                              (p := True∧callOb Try.prog 28 (yo0 k w) [(i6 0)] none false yo3∧(True∧(!(fitsF 0)) = true)∧True) (by kernel_rfl)
                              ⟨oK,(in_ok _),⟨oK,(by decide)⟩,oK⟩ ?_
                            refine Ev.cond true rfl (fun _ => ?_) (fun h => (by cases h))
                            refine Ev.seq ?_
                            refine Ev.reg [] [6] (st' := ⟨[(6,yo1)],(yo2 k w)⟩)
                              (p := T2 True) (by kernel_rfl)
                              ⟨oK,oK,oK⟩ ?_
                            refine Ev.ret ?_
                            refine ⟨⟨oK,oK⟩,(?_ : (0 : Int) = (widthV op ws k w)∧(1 : Int) = (widthE op ws k w)∧True),.inr ⟨oK,oK,oK⟩⟩
                            subst hop
                            exact ⟨(wr_no (no_of (fun hh => by have := okr_slice.1 hh; omega))).1,(wr_no (no_of (fun hh => by have := okr_slice.1 hh; omega))).2,oK⟩
                          · skip
                            have hl1 := (equal_yes h.1).1
                            have f0 := fits_iff.1 (equal_fit h.1 (i := 0) (by omega))
                            have f1 := fits_iff.1 h.2.1
                            refine Ev.reg [(1,.call none false (yo13 ws)),(2,.val (dB true)),(4,.call none false (yo15 w)),(6,.val (dB true)),(8,.val (dB true)),(16,.val (i6 ((ws.getD 0 0) - w))),(17,.val (dB true))] [6,8,9,115] (st' := ⟨[(6,yo1),(8,(i6 w)),(9,(i6 0)),(115,(dB true))],(yo0 k w)⟩)
                              (p := True∧callOb Try.prog 29 (yo0 k w) [(LI ws),(i6 1)] none false (yo13 ws)∧(True∧(equalF ws 1) = true)∧True∧callOb Try.prog 28 (yo0 k w) [(i6 w)] none false (yo15 w)∧True∧(True∧(fitsF w) = true)∧True∧(True∧(decide (k ≥ 0)) = true)∧T4 ((0 ≤ (0 : Int)∧0 < (ws.length : Int))∧T2 ((True∧(IntKind.wrap .i64 ((ws.getD 0 0) - w)) = ((ws.getD 0 0) - w))∧(True∧(decide (k ≤ ((ws.getD 0 0) - w))) = true)∧True∧True))) (by kernel_rfl)
                              ⟨oK,(equal_ok _ 1 (by omega) (by omega)),⟨oK,(by exact h.1)⟩,oK,(in_ok _),oK,⟨oK,(by exact h.2.1)⟩,oK,⟨oK,(by first | (simp; done) | (simp; omega))⟩,oK,oK,oK,oK,(by first | omega | (simp; first | done | omega)),oK,oK,⟨oK,(w64 rfl (by first | omega | (simp; first | done | omega)) (by first | omega | (simp; first | done | omega)))⟩,⟨oK,(by exact decide_eq_true (by omega))⟩,oK,oK⟩ ?_
                            refine Ev.cond true rfl (fun _ => ?_) (fun h => (by cases h))
                            refine Ev.reg [] [6,9] (st' := ⟨[(6,yo1),(9,(i6 w))],(yo0 k w)⟩)
                              (p := T2 True) (by kernel_rfl)
                              ⟨oK,oK,oK⟩ ?_
                            refine Ev.seq ?_
                            refine Ev.seq ?_
                            refine Ev.reg [(1,.call none false (yo15 w)),(2,.val (dB false))] [6,9,131] (st' := ⟨[(6,yo1),(9,(i6 w)),(131,(dB false))],(yo0 k w)⟩)
                              (p := True∧callOb Try.prog 28 (yo0 k w) [(i6 w)] none false (yo15 w)∧(True∧(!(fitsF w)) = false)∧True) (by kernel_rfl)
                              ⟨oK,(in_ok _),⟨oK,(by rw [h.2.1]; rfl)⟩,oK⟩ ?_
                            refine Ev.cond false rfl (fun h => (by cases h)) (fun _ => ?_)
                            refine Ev.skip ?_
                            refine Ev.seq ?_
                            refine Ev.reg [] [6] (st' := ⟨[(6,yo1)],[(yo16 k w),(.var 32 [(i6 w),(i6 0)])]⟩)
                              (p := T3 True) (by kernel_rfl)
                              ⟨oK,oK,oK,oK⟩ ?_
                            refine Ev.ret ?_
                            refine ⟨⟨oK,oK⟩,(?_ : w = (widthV op ws k w)∧(0 : Int) = (widthE op ws k w)∧True),.inr ⟨oK,oK,oK⟩⟩
                            subst hop
                            exact ⟨(wr_yes (okr_slice.2 h) (wvr_slice h.2.1 h.2.2.1 h.2.2.2)).1,(wr_yes (okr_slice.2 h) (wvr_slice h.2.1 h.2.2.1 h.2.2.2)).2,oK⟩
                        · skip
                          refine Ev.reg [(0,.val (dB false))] [1,6,7,8,9,14,95] (st' := ⟨[(1,(LI ws)),(6,yo1),(7,(i6 k)),(8,(i6 w)),(9,(i6 0)),(14,(i6 op)),(95,(dB false))],(yo0 k w)⟩)
                            (p := (True∧(op == 12) = false)∧True∧True) (by kernel_rfl)
                            ⟨⟨oK,(by exact beq_eq_false_iff_ne.2 hn12)⟩,oK,oK⟩ ?_
                          refine Ev.cond false rfl (fun h => (by cases h)) (fun _ => ?_)
                          refine Ev.seq ?_
                          rcases Decidable.em (op = 13) with hop | hn13
                          · skip
                            refine Ev.reg [(0,.val (dB true))] [1,6,8,9,117] (st' := ⟨[(1,(LI ws)),(6,yo1),(8,(i6 w)),(9,(i6 0)),(117,(dB true))],(yo0 k w)⟩)
                              (p := (True∧(op == 13) = true)∧True∧True) (by kernel_rfl)
                              ⟨⟨oK,(by exact beq_iff_eq.2 hop)⟩,oK,oK⟩ ?_
                            refine Ev.cond true rfl (fun _ => ?_) (fun h => (by cases h))
                            refine Ev.seq ?_
                            rcases (show (equalF ws 1 = false) ∨ (equalF ws 1 = true∧w < ws.getD 0 0) ∨ (equalF ws 1 = true∧ws.getD 0 0 ≤ w) from ext_cases ws w) with h | h | h
                            · skip
                              refine Ev.reg [(1,.call none false (yo13 ws)),(2,.val (dB false))] [6,8,9,127] (st' := ⟨[(6,yo1),(8,(i6 w)),(9,(i6 0)),(127,(dB false))],(yo0 k w)⟩)
                                (p := True∧callOb Try.prog 29 (yo0 k w) [(LI ws),(i6 1)] none false (yo13 ws)∧(True∧(equalF ws 1) = false)∧T6 True) (by kernel_rfl)
                                ⟨oK,(equal_ok _ 1 (by omega) (by omega)),⟨oK,(by exact h)⟩,oK,oK,oK,oK,oK,oK,oK⟩ ?_
                              refine Ev.cond false rfl (fun h => (by cases h)) (fun _ => ?_)
                              refine Ev.skip ?_
                              refine Ev.seq ?_
                              refine Ev.seq ?_
                              refine Ev.reg [(1,.call none false yo3),(2,.val (dB true))] [6,9,131] (st' := ⟨[(6,yo1),(9,(i6 0)),(131,(dB true))],(yo0 k w)⟩)
                                (p := True∧callOb Try.prog 28 (yo0 k w) [(i6 0)] none false yo3∧(True∧(!(fitsF 0)) = true)∧True) (by kernel_rfl)
                                ⟨oK,(in_ok _),⟨oK,(by decide)⟩,oK⟩ ?_
                              refine Ev.cond true rfl (fun _ => ?_) (fun h => (by cases h))
                              refine Ev.seq ?_
                              refine Ev.reg [] [6] (st' := ⟨[(6,yo1)],(yo2 k w)⟩)
                                (p := T2 True) (by kernel_rfl)
                                ⟨oK,oK,oK⟩ ?_
                              refine Ev.ret ?_
                              refine ⟨⟨oK,oK⟩,(?_ : (0 : Int) = (widthV op ws k w)∧(1 : Int) = (widthE op ws k w)∧True),.inr ⟨oK,oK,oK⟩⟩
                              subst hop
                              exact ⟨(wr_no (no_of (fun hh => by have := (okr_ext.1 hh).1; rw [h] at this; cases this))).1,(wr_no (no_of (fun hh => by have := (okr_ext.1 hh).1; rw [h] at this; cases this))).2,oK⟩
                            · skip
                              have hl1 := (equal_yes h.1).1
                              refine Ev.reg [(1,.call none false (yo13 ws)),(2,.val (dB true)),(7,.val (dB false))] [6,8,9,127] (st' := ⟨[(6,yo1),(8,(i6 w)),(9,(i6 0)),(127,(dB false))],(yo0 k w)⟩)
                                (p := True∧callOb Try.prog 29 (yo0 k w) [(LI ws),(i6 1)] none false (yo13 ws)∧(True∧(equalF ws 1) = true)∧T2 ((0 ≤ (0 : Int)∧0 < (ws.length : Int))∧True∧(True∧(decide (w ≥ (ws.getD 0 0))) = false)∧True∧True)) (by kernel_rfl)
                                ⟨oK,(equal_ok _ 1 (by omega) (by omega)),⟨oK,(by exact h.1)⟩,oK,oK,(by first | omega | (simp; first | done | omega)),oK,⟨oK,(by exact decide_eq_false (by omega))⟩,oK,oK⟩ ?_
                              refine Ev.cond false rfl (fun h => (by cases h)) (fun _ => ?_)
                              refine Ev.skip ?_
                              refine Ev.seq ?_
                              refine Ev.seq ?_
                              refine Ev.reg [(1,.call none false yo3),(2,.val (dB true))] [6,9,131] (st' := ⟨[(6,yo1),(9,(i6 0)),(131,(dB true))],(yo0 k w)⟩)
                                (p := True∧callOb Try.prog 28 (yo0 k w) [(i6 0)] none false yo3∧(True∧(!(fitsF 0)) = true)∧True) (by kernel_rfl)
                                ⟨oK,(in_ok _),⟨oK,(by decide)⟩,oK⟩ ?_
                              refine Ev.cond true rfl (fun _ => ?_) (fun h => (by cases h))
                              refine Ev.seq ?_
                              refine Ev.reg [] [6] (st' := ⟨[(6,yo1)],(yo2 k w)⟩)
                                (p := T2 True) (by kernel_rfl)
                                ⟨oK,oK,oK⟩ ?_
                              refine Ev.ret ?_
                              refine ⟨⟨oK,oK⟩,(?_ : (0 : Int) = (widthV op ws k w)∧(1 : Int) = (widthE op ws k w)∧True),.inr ⟨oK,oK,oK⟩⟩
                              subst hop
                              exact ⟨(wr_no (no_of (fun hh => by have := okr_ext.1 hh; omega))).1,(wr_no (no_of (fun hh => by have := okr_ext.1 hh; omega))).2,oK⟩
                            · skip
                              have hl1 := (equal_yes h.1).1
                              refine Ev.reg [(1,.call none false (yo13 ws)),(2,.val (dB true)),(7,.val (dB true))] [6,8,9,127] (st' := ⟨[(6,yo1),(8,(i6 w)),(9,(i6 0)),(127,(dB true))],(yo0 k w)⟩)
                                (p := True∧callOb Try.prog 29 (yo0 k w) [(LI ws),(i6 1)] none false (yo13 ws)∧(True∧(equalF ws 1) = true)∧T2 ((0 ≤ (0 : Int)∧0 < (ws.length : Int))∧True∧(True∧(decide (w ≥ (ws.getD 0 0))) = true)∧True∧True)) (by kernel_rfl)
                                ⟨oK,(equal_ok _ 1 (by omega) (by omega)),⟨oK,(by exact h.1)⟩,oK,oK,(by first | omega | (simp; first | done | omega)),oK,⟨oK,(by exact decide_eq_true (by omega))⟩,oK,oK⟩ ?_
                              refine Ev.cond true rfl (fun _ => ?_) (fun h => (by cases h))
                              refine Ev.reg [] [6,9] (st' := ⟨[(6,yo1),(9,(i6 w))],(yo0 k w)⟩)
                                (p := T2 True) (by kernel_rfl)
                                ⟨oK,oK,oK⟩ ?_
                              refine Ev.seq ?_
                              refine Ev.seq ?_
                              refine Ev.reg [(1,.call none false (yo15 w))] [6,9,131] (st' := ⟨[(6,yo1),(9,(i6 w)),(131,(dB (!(fitsF w))))],(yo0 k w)⟩)
                                (p := True∧callOb Try.prog 28 (yo0 k w) [(i6 w)] none false (yo15 w)∧True∧True) (by kernel_rfl)
                                ⟨oK,(in_ok _),oK,oK⟩ ?_
                              refine Ev.cond _ rfl (fun hc131 => ?_) (fun hc131 => ?_)
                              · try simp only [decide_eq_true_eq,decide_eq_false_iff_not,beq_iff_eq,bne_iff_ne,ne_eq,beq_eq_false_iff_ne,bne_eq_false_iff_eq,Bool.not_eq_true,Bool.not_eq_false,Bool.not_eq_true',Bool.not_eq_false',Bool.not_not,gt_iff_lt,ge_iff_le,Nat.not_lt,Int.not_lt,Int.not_le] at hc131
                                refine Ev.seq ?_
                                refine Ev.reg [] [6] (st' := ⟨[(6,yo1)],(yo2 k w)⟩)
                                  (p := T2 True) (by kernel_rfl)
                                  ⟨oK,oK,oK⟩ ?_
                                refine Ev.ret ?_
                                refine ⟨⟨oK,oK⟩,(?_ : (0 : Int) = (widthV op ws k w)∧(1 : Int) = (widthE op ws k w)∧True),.inr ⟨oK,oK,oK⟩⟩
                                subst hop
                                exact ⟨(wr_no (no_of (fun hh => by have := (okr_ext.1 hh).2.2; rw [show fitsF (w) = false by simpa using hc131] at this; cases this))).1,(wr_no (no_of (fun hh => by have := (okr_ext.1 hh).2.2; rw [show fitsF (w) = false by simpa using hc131] at this; cases this))).2,oK⟩
                              · try simp only [decide_eq_true_eq,decide_eq_false_iff_not,beq_iff_eq,bne_iff_ne,ne_eq,beq_eq_false_iff_ne,bne_eq_false_iff_eq,Bool.not_eq_true,Bool.not_eq_false,Bool.not_eq_true',Bool.not_eq_false',Bool.not_not,gt_iff_lt,ge_iff_le,Nat.not_lt,Int.not_lt,Int.not_le] at hc131
                                refine Ev.skip ?_
                                refine Ev.seq ?_
                                refine Ev.reg [] [6] (st' := ⟨[(6,yo1)],[(yo16 k w),(.var 32 [(i6 w),(i6 0)])]⟩)
                                  (p := T3 True) (by kernel_rfl)
                                  ⟨oK,oK,oK,oK⟩ ?_
                                refine Ev.ret ?_
                                refine ⟨⟨oK,oK⟩,(?_ : w = (widthV op ws k w)∧(0 : Int) = (widthE op ws k w)∧True),.inr ⟨oK,oK,oK⟩⟩
                                subst hop
                                exact ⟨(wr_yes (okr_ext.2 ⟨h.1,h.2,by simpa using hc131⟩) (wvr_ext h.2)).1,(wr_yes (okr_ext.2 ⟨h.1,h.2,by simpa using hc131⟩) (wvr_ext h.2)).2,oK⟩
                          · skip
                            refine Ev.reg [(0,.val (dB false))] [1,6,8,9,117] (st' := ⟨[(1,(LI ws)),(6,yo1),(8,(i6 w)),(9,(i6 0)),(117,(dB false))],(yo0 k w)⟩)
                              (p := (True∧(op == 13) = false)∧True∧True) (by kernel_rfl)
                              ⟨⟨oK,(by exact beq_eq_false_iff_ne.2 hn13)⟩,oK,oK⟩ ?_
                            refine Ev.cond false rfl (fun h => (by cases h)) (fun _ => ?_)
                            refine Ev.skip ?_
                            refine Ev.seq ?_
                            refine Ev.seq ?_
                            refine Ev.reg [(1,.call none false yo3),(2,.val (dB true))] [6,9,131] (st' := ⟨[(6,yo1),(9,(i6 0)),(131,(dB true))],(yo0 k w)⟩)
                              (p := True∧callOb Try.prog 28 (yo0 k w) [(i6 0)] none false yo3∧(True∧(!(fitsF 0)) = true)∧True) (by kernel_rfl)
                              ⟨oK,(in_ok _),⟨oK,(by decide)⟩,oK⟩ ?_
                            refine Ev.cond true rfl (fun _ => ?_) (fun h => (by cases h))
                            refine Ev.seq ?_
                            refine Ev.reg [] [6] (st' := ⟨[(6,yo1)],(yo2 k w)⟩)
                              (p := T2 True) (by kernel_rfl)
                              ⟨oK,oK,oK⟩ ?_
                            refine Ev.ret ?_
                            refine ⟨⟨oK,oK⟩,(?_ : (0 : Int) = (widthV op ws k w)∧(1 : Int) = (widthE op ws k w)∧True),.inr ⟨oK,oK,oK⟩⟩
                            exact ⟨(wr_no (ok_none (by omega) _ _ _)).1,(wr_no (ok_none (by omega) _ _ _)).2,oK⟩

end Go.Proofs.Ytaghhicmnalmmaa
