/-
  Helpers of the laws on journals.
-/
import Derived.Test.YtjmfaebimgnblaaJouE
namespace Go.Proofs.Ytjmfaebimgnblaa
open Go.RowKit
set_option linter.unusedVariables false
set_option linter.unusedSimpArgs false
abbrev yf0 (l : List (List Int)) : D := (dL 1 encLI [] l)

set_option maxRecDepth 100000 in
theorem lread_ok (b : List Int) (hb : Bytes8 b) (hbig : b.length ≤ 137438953472) : CallOk Try.prog 26 [(LY b)] [] true (.agg [(dL 1 encLI [] ((readF b 0).1)),(LY ((readF b 0).2.1)),(i6 (tornF b)),(i6 0),(dI .u64 0)]) [] := by
  refine CallOk.of_ev Try.func26 rfl rfl rfl ?_
  rintro ⟨_,W,S0,_,susp,_⟩ rfl rfl rfl
  refine Ev.seq ?_
  refine Ev.reg [] [0,2] (st' := ⟨[(0,(LY b)),(2,(.ptr 0 0 0 0))],[(.var 55 [.nils,.nils,(i6 0),(i6 0),(dI .u64 0)])]⟩)
    (p := True∧True) (by kernel_rfl)
    ⟨oK,oK⟩ ?_
  refine Ev.seq ?_
  refine Ev.reg [(1,.call none true (.tup [(dL 1 encLI [] ((readF b 0).1)),(LY ((readF b 0).2.1)),(i6 (tornF b))]))] [2,3,4,5] (st' := ⟨[(2,(.ptr 0 0 0 0)),(3,(dL 1 encLI [] ((readF b 0).1))),(4,(LY ((readF b 0).2.1))),(5,(i6 (tornF b)))],[(.var 55 [.nils,.nils,(i6 0),(i6 0),(dI .u64 0)])]⟩)
    (p := True∧callOb Try.prog 53 [(.var 55 [.nils,.nils,(i6 0),(i6 0),(dI .u64 0)])] [(LY b)] none true (.tup [(dL 1 encLI [] ((readF b 0).1)),(LY ((readF b 0).2.1)),(i6 (tornF b))])∧T7 True) (by kernel_rfl)
    ⟨oK,(read_ok _ (by assumption) (by first | omega | (simp; first | done | omega))),oK,oK,oK,oK,oK,oK,oK,oK⟩ ?_
  refine Ev.seq ?_
  refine Ev.reg [] [2] (st' := ⟨[(2,(.ptr 0 0 0 0))],[(.var 55 [(dL 1 encLI [] ((readF b 0).1)),(LY ((readF b 0).2.1)),(i6 (tornF b)),(i6 0),(dI .u64 0)])]⟩)
    (p := T5 True) (by kernel_rfl)
    ⟨oK,oK,oK,oK,oK,oK⟩ ?_
  refine Ev.ret ?_
  refine ⟨⟨oK,oK⟩,(?_ : ((readF b 0).1).map encLI = ((readF b 0).1).map encLI∧((readF b 0).2.1).map (encI .u8) = ((readF b 0).2.1).map (encI .u8)∧(tornF b) = (tornF b)∧(0 : Int) = 0∧(0 : Int) = 0∧True),.inl rfl⟩
  exact ⟨rfl,rfl,rfl,rfl,rfl,oK⟩

set_option maxRecDepth 100000 in
theorem lput_ok (b r : List Int) (hb : Bytes8 b) (hbig : b.length ≤ 137438953472) (hr : r.length ≤ 137438953472) : CallOk Try.prog 28 [(LY b),(LI r)] [] true (.agg [(LY (jputJ b r)),(i6 (jputE b r))]) [] := by
  refine CallOk.of_ev Try.func28 rfl rfl rfl ?_
  rintro ⟨_,W,S0,_,susp,_⟩ rfl rfl rfl
  refine Ev.seq ?_
  refine Ev.reg [] [0,1,4] (st' := ⟨[(0,(LY b)),(1,(LI r)),(4,(.ptr 0 0 0 0))],[(.var 58 [.nils,(i6 0)])]⟩)
    (p := True∧True) (by kernel_rfl)
    ⟨oK,oK⟩ ?_
  refine Ev.seq ?_
  refine Ev.reg [(2,.call none false (.tup [(LY (jputJ b r)),(i6 (jputE b r))]))] [4,5,6] (st' := ⟨[(4,(.ptr 0 0 0 0)),(5,(LY (jputJ b r))),(6,(i6 (jputE b r)))],[(.var 58 [.nils,(i6 0)])]⟩)
    (p := T2 (callOb Try.prog 55 [(.var 58 [.nils,(i6 0)])] [(LY b),(LI r)] none false (.tup [(LY (jputJ b r)),(i6 (jputE b r))])∧T5 True)) (by kernel_rfl)
    ⟨oK,oK,(put_ok _ _ (by assumption) (by first | omega | (simp; first | done | omega)) (by first | omega | (simp; first | done | omega))),oK,oK,oK,oK,oK,oK⟩ ?_
  refine Ev.seq ?_
  refine Ev.reg [] [4] (st' := ⟨[(4,(.ptr 0 0 0 0))],[(.var 58 [(LY (jputJ b r)),(i6 (jputE b r))])]⟩)
    (p := T4 True) (by kernel_rfl)
    ⟨oK,oK,oK,oK,oK⟩ ?_
  refine Ev.ret ?_
  refine ⟨⟨oK,oK⟩,(?_ : (jputJ b r).map (encI .u8) = (jputJ b r).map (encI .u8)∧(jputE b r) = (jputE b r)∧True),.inl rfl⟩
  exact ⟨rfl,rfl,oK⟩

set_option maxRecDepth 100000 in
theorem made_ok (l : List (List Int)) (hl : RecsOk l) : CallOk Try.prog 36 [(yf0 l)] [] true (.tup [(LY (jr l l.length)),(LI (endsF l l.length))]) [] := by
  refine CallOk.of_ev Try.func36 rfl rfl rfl ?_
  rintro ⟨_,W,S0,_,susp,_⟩ rfl rfl rfl
  refine Ev.seq ?_
  refine Ev.reg [] [0] (st' := ⟨[(0,(yf0 l))],[]⟩)
    (p := T2 True) (by kernel_rfl)
    ⟨oK,oK,oK⟩ ?_
  refine Ev.seq ?_
  have hl1 := hl.1
  refine Ev.reg [(0,.box 5 1 (encI .u8) 0 []),(1,.box 3 1 (encI .i64) 0 [])] [0,4,5] (st' := ⟨[(0,(yf0 l)),(4,(.own 0)),(5,(.own 1))],[(.arr 5 1 (encI .u8) 0 []),(.arr 3 1 (encI .i64) 0 [])]⟩)
    (p := eqRows [] ([].map (encI .u8))∧eqRows [] ([].map (encI .i64))∧T2 True) (by kernel_rfl)
    ⟨oK,oK,oK,oK,oK⟩ ?_
  refine Ev.seq ?_
  refine Ev.seq ?_
  refine Ev.freeze 0 (st' := ⟨[(0,(yf0 l)),(4,(LY [])),(5,(.own 1))],[.dead,(.arr 3 1 (encI .i64) 0 [])]⟩) (by kernel_rfl) ?_
  refine Ev.reg [] [0,4,5,6] (st' := ⟨[(0,(yf0 l)),(4,(LY [])),(5,(.own 1)),(6,(i6 0))],[.dead,(.arr 3 1 (encI .i64) 0 [])]⟩)
    (p := True∧True) (by kernel_rfl)
    ⟨oK,oK⟩ ?_
  refine Ev.block ?_
  refine Ev.loop [0,4,5,6] 2 (fun (k : Nat) => ⟨[(0,(yf0 l)),(4,(LY (jr l k))),(5,(.own 1)),(6,(i6 ((k : Nat) : Int)))],[.dead,(.arr 3 1 (encI .i64) 0 (endsF l k))]⟩) (fun (k : Nat) => k ≤ l.length) (fun (k : Nat) => l.length - k) 0 (by kernel_rfl) (by omega) ?_
  rintro k hinv
  have hinv : k ≤ l.length := hinv
  have hk := hinv
  refine Ev.seq ?_
  refine Ev.seq ?_
  refine Ev.reg [] [0,4,5,6,12] (st' := ⟨[(0,(yf0 l)),(4,(LY (jr l k))),(5,(.own 1)),(6,(i6 ((k : Nat) : Int))),(12,(dB (decide (((k : Nat) : Int) < ((l.length : Nat) : Int)))))],[.dead,(.arr 3 1 (encI .i64) 0 (endsF l k))]⟩)
    (p := T4 True) (by kernel_rfl)
    ⟨oK,oK,oK,oK,oK⟩ ?_
  refine Ev.cond _ rfl (fun hc12 => ?_) (fun hc12 => ?_)
  · try simp only [decide_eq_true_eq,decide_eq_false_iff_not,beq_iff_eq,bne_iff_ne,ne_eq,beq_eq_false_iff_ne,bne_eq_false_iff_eq,Bool.not_eq_true,Bool.not_eq_false,Bool.not_eq_true',Bool.not_eq_false',Bool.not_not,gt_iff_lt,ge_iff_le,Nat.not_lt,Int.not_lt,Int.not_le] at hc12
    refine Ev.skip ?_
    refine Ev.seq ?_
    refine Ev.block ?_
    refine Ev.seq ?_
    refine Ev.reg [(5,.call none true (.agg [(LY (jputJ (jr l k) (l.getD k []))),(i6 (jputE (jr l k) (l.getD k [])))]))] [0,4,5,6] (st' := ⟨[(0,(yf0 l)),(4,(LY (jputJ (jr l k) (l.getD k [])))),(5,(.own 1)),(6,(i6 ((k : Nat) : Int)))],[.dead,(.arr 3 1 (encI .i64) 0 (endsF l k))]⟩)
      (p := T3 ((0 ≤ ((k : Nat) : Int)∧((k : Nat) : Int) < (l.length : Int))∧True∧callOb Try.prog 28 [.dead,(.arr 3 1 (encI .i64) 0 (endsF l k))] [(LY (jr l k)),(LI (l.getD k []))] none true (.agg [(LY (jputJ (jr l k) (l.getD k []))),(i6 (jputE (jr l k) (l.getD k [])))])∧T2 True)) (by kernel_rfl)
      ⟨oK,oK,oK,(by first | omega | (simp; first | done | omega)),oK,(lput_ok _ _ (by exact jr_8 l k) (by have := jr_len l k; omega) (by exact hl.getD k)),oK,oK,oK⟩ ?_
    refine Ev.reg [(3,.box 3 1 (encI .i64) 0 [(((jputJ (jr l k) (l.getD k [])).length : Nat) : Int)]),(4,.box 3 1 (encI .i64) 0 (endsF l (k + 1)))] [0,4,5,6] (st' := ⟨[(0,(yf0 l)),(4,(LY (jputJ (jr l k) (l.getD k [])))),(5,(.own 1)),(6,(i6 ((k : Nat) : Int)))],[.dead,(.arr 3 1 (encI .i64) 0 (endsF l (k + 1))),(.arr 3 1 (encI .i64) 0 [(((jputJ (jr l k) (l.getD k [])).length : Nat) : Int)])]⟩)
      (p := T3 (eqRows [[(i6 (((jputJ (jr l k) (l.getD k [])).length : Nat) : Int))]] ([(((jputJ (jr l k) (l.getD k [])).length : Nat) : Int)].map (encI .i64))∧((endsF l k).length + ([(((jputJ (jr l k) (l.getD k [])).length : Nat) : Int)].map (encI .i64)).length ≤ 137438953472∧(endsF l k).map (encI .i64) ++ [(((jputJ (jr l k) (l.getD k [])).length : Nat) : Int)].map (encI .i64) = (endsF l (k + 1)).map (encI .i64))∧True∧True)) (by kernel_rfl)
      ⟨oK,oK,oK,⟨⟨rfl,oK⟩,oK⟩,⟨by simp only [List.length_map,List.length_cons,List.length_nil]; rw [endsF_len]; have := hl.1; omega,by rw [endsF_succ]; simp only [List.map_append]; rfl⟩,oK,oK⟩ ?_
    refine Ev.reg [(1,.val (i6 ((k + 1 : Nat) : Int)))] [0,4,5,6] (st' := ⟨[(0,(yf0 l)),(4,(LY (jputJ (jr l k) (l.getD k [])))),(5,(.own 1)),(6,(i6 ((k + 1 : Nat) : Int)))],[.dead,(.arr 3 1 (encI .i64) 0 (endsF l (k + 1))),(.arr 3 1 (encI .i64) 0 [(((jputJ (jr l k) (l.getD k [])).length : Nat) : Int)])]⟩)
      (p := True∧(True∧(IntKind.wrap .i64 (((k : Nat) : Int) + 1)) = ((k + 1 : Nat) : Int))∧True∧True) (by kernel_rfl)
      ⟨oK,⟨oK,(w64n (by first | rfl | simp | omega) (by first | omega | (simp; first | done | omega)))⟩,oK,oK⟩ ?_
    refine ⟨k + 1,by kernel_rfl,(?_ : (k + 1) ≤ l.length),(?_ : l.length - (k + 1) < l.length - k)⟩
    · omega
    · omega
  · try simp only [decide_eq_true_eq,decide_eq_false_iff_not,beq_iff_eq,bne_iff_ne,ne_eq,beq_eq_false_iff_ne,bne_eq_false_iff_eq,Bool.not_eq_true,Bool.not_eq_false,Bool.not_eq_true',Bool.not_eq_false',Bool.not_not,gt_iff_lt,ge_iff_le,Nat.not_lt,Int.not_lt,Int.not_le] at hc12
    refine Ev.exit ?_
    refine Ev.seq ?_
    refine Ev.reg [] [2,3] (st' := ⟨[(2,(LY (jr l k))),(3,(.own 1))],[.dead,(.arr 3 1 (encI .i64) 0 (endsF l k))]⟩)
      (p := T4 True) (by kernel_rfl)
      ⟨oK,oK,oK,oK,oK⟩ ?_
    refine Ev.ret ?_
    refine ⟨⟨oK,oK,oK⟩,(?_ : (jr l k).map (encI .u8) = (jr l l.length).map (encI .u8)∧(endsF l k).map (encI .i64) = (endsF l l.length).map (encI .i64)∧True),.inl rfl⟩
    have hkl : k = l.length := by omega
    subst hkl
    exact ⟨rfl,rfl,oK⟩

set_option maxRecDepth 100000 in
theorem small_ok (l : List (List Int)) (hl : RecsBig l) : CallOk Try.prog 24 [(yf0 l)] [] false (dB (smallF l)) [] := by
  refine CallOk.of_ev Try.func24 rfl rfl rfl ?_
  rintro ⟨_,W,S0,_,susp,_⟩ rfl rfl rfl
  refine Ev.seq ?_
  refine Ev.reg [] [0] (st' := ⟨[(0,(yf0 l))],[]⟩)
    (p := True∧True) (by kernel_rfl)
    ⟨oK,oK⟩ ?_
  refine Ev.seq ?_
  refine Ev.seq ?_
  have hl1 := hl.1
  refine Ev.reg [] [0,3] (st' := ⟨[(0,(yf0 l)),(3,(i6 0))],[]⟩)
    (p := True∧True) (by kernel_rfl)
    ⟨oK,oK⟩ ?_
  refine Ev.block ?_
  refine Ev.loop [0,3] 0 (fun (k : Nat) => ⟨[(0,(yf0 l)),(3,(i6 ((k : Nat) : Int)))],[]⟩) (fun (k : Nat) => k ≤ l.length∧∀ i,i < k → (l.getD i []).length ≤ 12) (fun (k : Nat) => l.length - k) 0 (by kernel_rfl) (⟨by omega,fun i hi => by omega⟩) ?_
  rintro k hinv
  have hinv : k ≤ l.length∧∀ i,i < k → (l.getD i []).length ≤ 12 := hinv
  obtain ⟨h1,h2⟩ := hinv
  refine Ev.seq ?_
  refine Ev.seq ?_
  refine Ev.reg [] [0,3,7] (st' := ⟨[(0,(yf0 l)),(3,(i6 ((k : Nat) : Int))),(7,(dB (decide (((k : Nat) : Int) < ((l.length : Nat) : Int)))))],[]⟩)
    (p := T4 True) (by kernel_rfl)
    ⟨oK,oK,oK,oK,oK⟩ ?_
  refine Ev.cond _ rfl (fun hc7 => ?_) (fun hc7 => ?_)
  · try simp only [decide_eq_true_eq,decide_eq_false_iff_not,beq_iff_eq,bne_iff_ne,ne_eq,beq_eq_false_iff_ne,bne_eq_false_iff_eq,Bool.not_eq_true,Bool.not_eq_false,Bool.not_eq_true',Bool.not_eq_false',Bool.not_not,gt_iff_lt,ge_iff_le,Nat.not_lt,Int.not_lt,Int.not_le] at hc7
    refine Ev.skip ?_
    refine Ev.seq ?_
    refine Ev.block ?_
    refine Ev.seq ?_
    refine Ev.reg [] [0,3,15] (st' := ⟨[(0,(yf0 l)),(3,(i6 ((k : Nat) : Int))),(15,(dB (decide ((((l.getD k []).length : Nat) : Int) > 12))))],[]⟩)
      (p := T2 ((0 ≤ ((k : Nat) : Int)∧((k : Nat) : Int) < (l.length : Int))∧T3 True)) (by kernel_rfl)
      ⟨oK,oK,(by first | omega | (simp; first | done | omega)),oK,oK,oK,oK⟩ ?_
    refine Ev.cond _ rfl (fun hc15 => ?_) (fun hc15 => ?_)
    · try simp only [decide_eq_true_eq,decide_eq_false_iff_not,beq_iff_eq,bne_iff_ne,ne_eq,beq_eq_false_iff_ne,bne_eq_false_iff_eq,Bool.not_eq_true,Bool.not_eq_false,Bool.not_eq_true',Bool.not_eq_false',Bool.not_not,gt_iff_lt,ge_iff_le,Nat.not_lt,Int.not_lt,Int.not_le] at hc15
      refine Ev.seq ?_
      refine Ev.reg [] [2] (st' := ⟨[(2,(dB false))],[]⟩)
        (p := True∧True) (by kernel_rfl)
        ⟨oK,oK⟩ ?_
      refine Ev.ret ?_
      refine ⟨⟨oK,oK⟩,(?_ : false = (smallF l)),.inr trivial⟩
      exact (small_no (k := k) (by omega)).symm
    · try simp only [decide_eq_true_eq,decide_eq_false_iff_not,beq_iff_eq,bne_iff_ne,ne_eq,beq_eq_false_iff_ne,bne_eq_false_iff_eq,Bool.not_eq_true,Bool.not_eq_false,Bool.not_eq_true',Bool.not_eq_false',Bool.not_not,gt_iff_lt,ge_iff_le,Nat.not_lt,Int.not_lt,Int.not_le] at hc15
      refine Ev.skip ?_
      refine Ev.reg [(1,.val (i6 ((k + 1 : Nat) : Int)))] [0,3] (st' := ⟨[(0,(yf0 l)),(3,(i6 ((k + 1 : Nat) : Int)))],[]⟩)
        (p := True∧(True∧(IntKind.wrap .i64 (((k : Nat) : Int) + 1)) = ((k + 1 : Nat) : Int))∧True∧True) (by kernel_rfl)
        ⟨oK,⟨oK,(w64n (by first | rfl | simp | omega) (by first | omega | (simp; first | done | omega)))⟩,oK,oK⟩ ?_
      refine ⟨k + 1,by kernel_rfl,(?_ : (k + 1) ≤ l.length∧∀ i,i < (k + 1) → (l.getD i []).length ≤ 12),(?_ : l.length - (k + 1) < l.length - k)⟩
      · exact ⟨by omega,ext_lt h2 (by omega)⟩
      · omega
  · try simp only [decide_eq_true_eq,decide_eq_false_iff_not,beq_iff_eq,bne_iff_ne,ne_eq,beq_eq_false_iff_ne,bne_eq_false_iff_eq,Bool.not_eq_true,Bool.not_eq_false,Bool.not_eq_true',Bool.not_eq_false',Bool.not_not,gt_iff_lt,ge_iff_le,Nat.not_lt,Int.not_lt,Int.not_le] at hc7
    refine Ev.exit ?_
    refine Ev.seq ?_
    refine Ev.reg [] [2] (st' := ⟨[(2,(dB (decide (((l.length : Nat) : Int) ≤ 12))))],[]⟩)
      (p := T4 True) (by kernel_rfl)
      ⟨oK,oK,oK,oK,oK⟩ ?_
    refine Ev.ret ?_
    refine ⟨⟨oK,oK⟩,(?_ : (decide (((l.length : Nat) : Int) ≤ 12)) = (smallF l)),.inr trivial⟩
    rw [small_yes (fun i hi => h2 i (by omega))]; exact decide_eq_decide.2 (by omega)

set_option maxRecDepth 100000 in
theorem records_ok (a b : List (List Int)) (ha : RecsOk a) (hb : RecsOk b) : CallOk Try.prog 30 [(dL 1 encLI [] a),(dL 1 encLI [] b)] [] false (dB (decide (a = b))) [] := by
  refine CallOk.of_ev Try.func30 rfl rfl rfl ?_
  rintro ⟨_,W,S0,_,susp,_⟩ rfl rfl rfl
  refine Ev.seq ?_
  refine Ev.reg [] [0,1] (st' := ⟨[(0,(dL 1 encLI [] a)),(1,(dL 1 encLI [] b))],[]⟩)
    (p := True∧True) (by kernel_rfl)
    ⟨oK,oK⟩ ?_
  refine Ev.seq ?_
  refine Ev.seq ?_
  have hl1 := ha.1
  have hl2 := hb.1
  refine Ev.reg [] [0,1,10] (st' := ⟨[(0,(dL 1 encLI [] a)),(1,(dL 1 encLI [] b)),(10,(dB (((a.length : Nat) : Int) != ((b.length : Nat) : Int))))],[]⟩)
    (p := T5 True) (by kernel_rfl)
    ⟨oK,oK,oK,oK,oK,oK⟩ ?_
  refine Ev.cond _ rfl (fun hc10 => ?_) (fun hc10 => ?_)
  · try simp only [decide_eq_true_eq,decide_eq_false_iff_not,beq_iff_eq,bne_iff_ne,ne_eq,beq_eq_false_iff_ne,bne_eq_false_iff_eq,Bool.not_eq_true,Bool.not_eq_false,Bool.not_eq_true',Bool.not_eq_false',Bool.not_not,gt_iff_lt,ge_iff_le,Nat.not_lt,Int.not_lt,Int.not_le] at hc10
    refine Ev.seq ?_
    refine Ev.reg [] [4] (st' := ⟨[(4,(dB false))],[]⟩)
      (p := True∧True) (by kernel_rfl)
      ⟨oK,oK⟩ ?_
    refine Ev.ret ?_
    refine ⟨⟨oK,oK⟩,(?_ : false = (decide (a = b))),.inr trivial⟩
    exact (decide_eq_false (fun e => by rw [e] at hc10; omega)).symm
  · try simp only [decide_eq_true_eq,decide_eq_false_iff_not,beq_iff_eq,bne_iff_ne,ne_eq,beq_eq_false_iff_ne,bne_eq_false_iff_eq,Bool.not_eq_true,Bool.not_eq_false,Bool.not_eq_true',Bool.not_eq_false',Bool.not_not,gt_iff_lt,ge_iff_le,Nat.not_lt,Int.not_lt,Int.not_le] at hc10
    refine Ev.skip ?_
    refine Ev.seq ?_
    refine Ev.seq ?_
    refine Ev.reg [] [0,1,5] (st' := ⟨[(0,(dL 1 encLI [] a)),(1,(dL 1 encLI [] b)),(5,(i6 0))],[]⟩)
      (p := True∧True) (by kernel_rfl)
      ⟨oK,oK⟩ ?_
    refine Ev.block ?_
    refine Ev.loop [0,1,5] 0 (fun (k : Nat) => ⟨[(0,(dL 1 encLI [] a)),(1,(dL 1 encLI [] b)),(5,(i6 ((k : Nat) : Int)))],[]⟩) (fun (k : Nat) => k ≤ a.length∧a.length = b.length∧a.take k = b.take k) (fun (k : Nat) => a.length - k) 0 (by kernel_rfl) (⟨by omega,by omega,by simp⟩) ?_
    rintro k hinv
    have hinv : k ≤ a.length∧a.length = b.length∧a.take k = b.take k := hinv
    obtain ⟨h1,h2,h3⟩ := hinv
    refine Ev.seq ?_
    refine Ev.seq ?_
    refine Ev.reg [] [0,1,5,14] (st' := ⟨[(0,(dL 1 encLI [] a)),(1,(dL 1 encLI [] b)),(5,(i6 ((k : Nat) : Int))),(14,(dB (decide (((k : Nat) : Int) < ((a.length : Nat) : Int)))))],[]⟩)
      (p := T4 True) (by kernel_rfl)
      ⟨oK,oK,oK,oK,oK⟩ ?_
    refine Ev.cond _ rfl (fun hc14 => ?_) (fun hc14 => ?_)
    · try simp only [decide_eq_true_eq,decide_eq_false_iff_not,beq_iff_eq,bne_iff_ne,ne_eq,beq_eq_false_iff_ne,bne_eq_false_iff_eq,Bool.not_eq_true,Bool.not_eq_false,Bool.not_eq_true',Bool.not_eq_false',Bool.not_not,gt_iff_lt,ge_iff_le,Nat.not_lt,Int.not_lt,Int.not_le] at hc14
      refine Ev.skip ?_
      refine Ev.seq ?_
      refine Ev.block ?_
      refine Ev.seq ?_
      refine Ev.draw 10 [false,false,false,false,false,false,false,false,false,false] [(8,.call none false (dB (decide ((a.getD k []) = (b.getD k [])))))] [0,1,5,26] (st' := ⟨[(0,(dL 1 encLI [] a)),(1,(dL 1 encLI [] b)),(5,(i6 ((k : Nat) : Int))),(26,(dB (!(decide ((a.getD k []) = (b.getD k []))))))],[]⟩)
        (p := (T2 ((0 ≤ ((k : Nat) : Int)∧((k : Nat) : Int) < (a.length : Int))∧T3 ((0 ≤ ((k : Nat) : Int)∧((k : Nat) : Int) < (b.length : Int))∧True∧callOb Try.prog 57 [] [(LI (a.getD k [])),(LI (b.getD k []))] none false (dB (decide ((a.getD k []) = (b.getD k []))))∧True∧True)))∧True) (by kernel_rfl) (by kernel_rfl)
        ⟨⟨oK,oK,(by first | omega | (simp; first | done | omega)),oK,oK,oK,(by first | omega | (simp; first | done | omega)),oK,(sameI_ok _ _ (by first | exact ha.getD k | exact hb.getD k) (by first | exact ha.getD k | exact hb.getD k)),oK,oK⟩,oK⟩ ?_
      refine Ev.cond _ rfl (fun hc26 => ?_) (fun hc26 => ?_)
      · try simp only [decide_eq_true_eq,decide_eq_false_iff_not,beq_iff_eq,bne_iff_ne,ne_eq,beq_eq_false_iff_ne,bne_eq_false_iff_eq,Bool.not_eq_true,Bool.not_eq_false,Bool.not_eq_true',Bool.not_eq_false',Bool.not_not,gt_iff_lt,ge_iff_le,Nat.not_lt,Int.not_lt,Int.not_le] at hc26
        refine Ev.seq ?_
        refine Ev.reg [] [4] (st' := ⟨[(4,(dB false))],[]⟩)
          (p := True∧True) (by kernel_rfl)
          ⟨oK,oK⟩ ?_
        refine Ev.ret ?_
        refine ⟨⟨oK,oK⟩,(?_ : false = (decide (a = b))),.inr trivial⟩
        exact (decide_eq_false (same_ne (d := []) (k := k) (by simpa using hc26))).symm
      · try simp only [decide_eq_true_eq,decide_eq_false_iff_not,beq_iff_eq,bne_iff_ne,ne_eq,beq_eq_false_iff_ne,bne_eq_false_iff_eq,Bool.not_eq_true,Bool.not_eq_false,Bool.not_eq_true',Bool.not_eq_false',Bool.not_not,gt_iff_lt,ge_iff_le,Nat.not_lt,Int.not_lt,Int.not_le] at hc26
        refine Ev.skip ?_
        refine Ev.reg [(1,.val (i6 ((k + 1 : Nat) : Int)))] [0,1,5] (st' := ⟨[(0,(dL 1 encLI [] a)),(1,(dL 1 encLI [] b)),(5,(i6 ((k + 1 : Nat) : Int)))],[]⟩)
          (p := True∧(True∧(IntKind.wrap .i64 (((k : Nat) : Int) + 1)) = ((k + 1 : Nat) : Int))∧True∧True) (by kernel_rfl)
          ⟨oK,⟨oK,(w64n (by first | rfl | simp | omega) (by first | omega | (simp; first | done | omega)))⟩,oK,oK⟩ ?_
        refine ⟨k + 1,by kernel_rfl,(?_ : (k + 1) ≤ a.length∧a.length = b.length∧a.take (k + 1) = b.take (k + 1)),(?_ : a.length - (k + 1) < a.length - k)⟩
        · exact ⟨by omega,h2,same_step h2 (by omega) h3 (by simpa using hc26)⟩
        · omega
    · try simp only [decide_eq_true_eq,decide_eq_false_iff_not,beq_iff_eq,bne_iff_ne,ne_eq,beq_eq_false_iff_ne,bne_eq_false_iff_eq,Bool.not_eq_true,Bool.not_eq_false,Bool.not_eq_true',Bool.not_eq_false',Bool.not_not,gt_iff_lt,ge_iff_le,Nat.not_lt,Int.not_lt,Int.not_le] at hc14
      refine Ev.exit ?_
      refine Ev.seq ?_
      refine Ev.reg [] [4] (st' := ⟨[(4,(dB true))],[]⟩)
        (p := True∧True) (by kernel_rfl)
        ⟨oK,oK⟩ ?_
      refine Ev.ret ?_
      refine ⟨⟨oK,oK⟩,(?_ : true = (decide (a = b))),.inr trivial⟩
      exact (decide_eq_true (same_end h2 (by omega) h3)).symm

end Go.Proofs.Ytjmfaebimgnblaa
