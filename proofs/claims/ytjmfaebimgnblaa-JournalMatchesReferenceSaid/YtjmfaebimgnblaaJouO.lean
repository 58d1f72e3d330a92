/-
  The reference of journals: records.
-/
import Derived.Test.YtjmfaebimgnblaaJouE
import Derived.Test.YtjmfaebimgnblaaJouR
namespace Go.Proofs.Ytjmfaebimgnblaa
open Go.RowKit
set_option linter.unusedVariables false
set_option linter.unusedSimpArgs false
abbrev yo0 : Box := (.var 88 [.nils,(dI .u64 0),(i6 0),(dB false)])
abbrev yo1 (r : List Int) : List Box := [(.arr 5 1 (encI .u8) 0 ([] : List Int)),(.arr 3 1 (encI .i64) 0 [(r.length : Int)])]
abbrev yo2 : D := (.ptr 0 0 0 0)
abbrev yo3 (a : Nat) : D := (i6 ((a : Nat) : Int))
abbrev yo4 (r : List Int) : D := (LY (([] : List Int) ++ bytesK ((r.length : Nat) : Int) 8))

set_option maxRecDepth 100000 in
theorem with_ok (b : List Int) (n : Int) (hbig : b.length ≤ 137438953400) (h0 : 0 ≤ n) (h1 : n < 18446744073709551616) : CallOk Try.prog 67 [(LY b),(dI .u64 n)] [] false (LY (b ++ bytesK n 8)) [] := by
  refine CallOk.of_ev Try.func67 rfl rfl rfl ?_
  rintro ⟨_,W,S0,_,susp,_⟩ rfl rfl rfl
  refine Ev.seq ?_
  refine Ev.reg [] [0,1] (st' := ⟨[(0,(LY b)),(1,(dI .u64 n))],[]⟩)
    (p := True∧True) (by kernel_rfl)
    ⟨oK,oK⟩ ?_
  refine Ev.seq ?_
  refine Ev.reg [(0,.box 5 1 (encI .u8) 0 ([] : List Int)),(2,.box 5 1 (encI .u8) 0 (b ++ bytesK n 0))] [1,5] (st' := ⟨[(1,(dI .u64 n)),(5,(.own 0))],[(.arr 5 1 (encI .u8) 0 (b ++ bytesK n 0))]⟩)
    (p := eqRows [] (([] : List Int).map (encI .u8))∧True∧(([] : List Int).length + (b.map (encI .u8)).length ≤ 137438953472∧([] : List Int).map (encI .u8) ++ b.map (encI .u8) = (b ++ bytesK n 0).map (encI .u8))∧True∧True) (by kernel_rfl)
    ⟨oK,oK,⟨by simp; omega,by simp [bytesK_zero]⟩,oK,oK⟩ ?_
  refine Ev.seq ?_
  refine Ev.seq ?_
  refine Ev.reg [] [1,5,6] (st' := ⟨[(1,(dI .u64 n)),(5,(.own 0)),(6,(i6 0))],[(.arr 5 1 (encI .u8) 0 (b ++ bytesK n 0))]⟩)
    (p := True∧True) (by kernel_rfl)
    ⟨oK,oK⟩ ?_
  refine Ev.block ?_
  refine Ev.loop [1,5,6] 1 (fun (k : Nat) => ⟨[(1,(dI .u64 n)),(5,(.own 0)),(6,(i6 ((k : Nat) : Int)))],[(.arr 5 1 (encI .u8) 0 (b ++ bytesK n k))]⟩) (fun (k : Nat) => k ≤ 8) (fun (k : Nat) => 8 - k) 0 (by kernel_rfl) (by omega) ?_
  rintro k hinv
  have hinv : k ≤ 8 := hinv
  have hk := hinv
  refine Ev.seq ?_
  refine Ev.seq ?_
  refine Ev.reg [] [1,5,6,11] (st' := ⟨[(1,(dI .u64 n)),(5,(.own 0)),(6,(i6 ((k : Nat) : Int))),(11,(dB (decide (((k : Nat) : Int) < 8))))],[(.arr 5 1 (encI .u8) 0 (b ++ bytesK n k))]⟩)
    (p := T2 True) (by kernel_rfl)
    ⟨oK,oK,oK⟩ ?_
  refine Ev.cond _ rfl (fun hc11 => ?_) (fun hc11 => ?_)
  · try simp only [decide_eq_true_eq,decide_eq_false_iff_not,beq_iff_eq,bne_iff_ne,ne_eq,beq_eq_false_iff_ne,bne_eq_false_iff_eq,Bool.not_eq_true,Bool.not_eq_false,Bool.not_eq_true',Bool.not_eq_false',Bool.not_not,gt_iff_lt,ge_iff_le,Nat.not_lt,Int.not_lt,Int.not_le] at hc11
    refine Ev.skip ?_
    refine Ev.seq ?_
    refine Ev.block ?_
    refine Ev.reg [(3,.val (i6 ((8 * k : Nat) : Int))),(4,.val (dI .u64 ((8 * k : Nat) : Int))),(6,.val (dI .u8 (byteN n k))),(7,.box 5 1 (encI .u8) 0 [byteN n k]),(8,.box 5 1 (encI .u8) 0 (b ++ bytesK n (k + 1)))] [1,5,6] (st' := ⟨[(1,(dI .u64 n)),(5,(.own 0)),(6,(i6 ((k : Nat) : Int)))],[(.arr 5 1 (encI .u8) 0 (b ++ bytesK n (k + 1))),(.arr 5 1 (encI .u8) 0 [byteN n k])]⟩)
      (p := T3 ((True∧(IntKind.wrap .i64 (8 * ((k : Nat) : Int))) = ((8 * k : Nat) : Int))∧(True∧(IntKind.wrap .u64 ((8 * k : Nat) : Int)) = ((8 * k : Nat) : Int))∧0 ≤ ((8 * k : Nat) : Int)∧(True∧(IntKind.wrap .u8 (Int.fdiv n (2 ^ min (8 * k) 64))) = (byteN n k))∧eqRows [[(dI .u8 (byteN n k))]] ([byteN n k].map (encI .u8))∧((b ++ bytesK n k).length + ([byteN n k].map (encI .u8)).length ≤ 137438953472∧(b ++ bytesK n k).map (encI .u8) ++ [byteN n k].map (encI .u8) = (b ++ bytesK n (k + 1)).map (encI .u8))∧True∧True)) (by kernel_rfl)
      ⟨oK,oK,oK,⟨oK,(w64n (by first | rfl | simp | omega) (by first | omega | (simp; first | done | omega)))⟩,⟨oK,(wu64 rfl (by first | omega | (simp; first | done | omega)) (by first | omega | (simp; first | done | omega)))⟩,(by omega),⟨oK,(byte_of (k := k) h0 h1 (by omega))⟩,⟨⟨rfl,oK⟩,oK⟩,⟨by simp only [List.length_map,List.length_cons,List.length_nil]; rw [addB_len]; omega,by rw [bytesK_succ]; simp [encI]⟩,oK,oK⟩ ?_
    refine Ev.reg [(1,.val (i6 ((k + 1 : Nat) : Int)))] [1,5,6] (st' := ⟨[(1,(dI .u64 n)),(5,(.own 0)),(6,(i6 ((k + 1 : Nat) : Int)))],[(.arr 5 1 (encI .u8) 0 (b ++ bytesK n (k + 1))),(.arr 5 1 (encI .u8) 0 [byteN n k])]⟩)
      (p := True∧(True∧(IntKind.wrap .i64 (((k : Nat) : Int) + 1)) = ((k + 1 : Nat) : Int))∧True∧True) (by kernel_rfl)
      ⟨oK,⟨oK,(w64n (by first | rfl | simp | omega) (by first | omega | (simp; first | done | omega)))⟩,oK,oK⟩ ?_
    refine ⟨k + 1,by kernel_rfl,(?_ : (k + 1) ≤ 8),(?_ : 8 - (k + 1) < 8 - k)⟩
    · omega
    · omega
  · try simp only [decide_eq_true_eq,decide_eq_false_iff_not,beq_iff_eq,bne_iff_ne,ne_eq,beq_eq_false_iff_ne,bne_eq_false_iff_eq,Bool.not_eq_true,Bool.not_eq_false,Bool.not_eq_true',Bool.not_eq_false',Bool.not_not,gt_iff_lt,ge_iff_le,Nat.not_lt,Int.not_lt,Int.not_le] at hc11
    refine Ev.exit ?_
    refine Ev.seq ?_
    refine Ev.reg [] [4] (st' := ⟨[(4,(.own 0))],[(.arr 5 1 (encI .u8) 0 (b ++ bytesK n k))]⟩)
      (p := T2 True) (by kernel_rfl)
      ⟨oK,oK,oK⟩ ?_
    refine Ev.ret ?_
    refine ⟨⟨oK,oK⟩,(?_ : (b ++ bytesK n k).map (encI .u8) = (b ++ bytesK n 8).map (encI .u8)),.inr (fun _ _ => rfl)⟩
    rw [show k = 8 from by omega]

set_option maxRecDepth 100000 in
theorem encoded_ok (s : Int) (r : List Int) (hr : r.length ≤ 1000000) : CallOk Try.prog 56 [(dI .u64 s),(LI r)] [] true (LY (encF s r)) [] := by
  refine CallOk.of_ev Try.func56 rfl rfl rfl ?_
  rintro ⟨_,W,S0,_,susp,_⟩ rfl rfl rfl
  refine Ev.seq ?_
  refine Ev.reg [] [0,1] (st' := ⟨[(0,(dI .u64 s)),(1,(LI r))],[]⟩)
    (p := True∧True) (by kernel_rfl)
    ⟨oK,oK⟩ ?_
  refine Ev.seq ?_
  refine Ev.reg [(0,.box 5 1 (encI .u8) 0 ([] : List Int)),(3,.val (dI .u64 ((r.length : Nat) : Int))),(4,.call (some [(LY ([] : List Int)),(dI .u64 ((r.length : Nat) : Int))]) false (yo4 r))] [0,1,5] (st' := ⟨[(0,(dI .u64 s)),(1,(LI r)),(5,(yo4 r))],[(.arr 5 1 (encI .u8) 0 ([] : List Int))]⟩)
    (p := eqRows [] (([] : List Int).map (encI .u8))∧T2 ((True∧(IntKind.wrap .u64 ((r.length : Nat) : Int)) = ((r.length : Nat) : Int))∧callOb Try.prog 67 [(.arr 5 1 (encI .u8) 0 ([] : List Int))] [(.own 0),(dI .u64 ((r.length : Nat) : Int))] (some [(LY ([] : List Int)),(dI .u64 ((r.length : Nat) : Int))]) false (yo4 r)∧True∧True)) (by kernel_rfl)
    ⟨oK,oK,oK,⟨oK,(wu64 rfl (by first | omega | (simp; first | done | omega)) (by first | omega | (simp; first | done | omega)))⟩,⟨⟨rfl,rfl,oK⟩,(with_ok _ _ (by first | (simp; done) | (simp [bytesK_len]; done) | (rw [encK_len]; omega)) (by first | omega | with_reducible exact (wrap_word _).1 | exact (tagF_word _ _).1) (by first | omega | with_reducible exact (wrap_word _).2 | exact (tagF_word _ _).2))⟩,oK,oK⟩ ?_
  refine Ev.seq ?_
  refine Ev.reg [(4,.box 3 1 (encI .i64) 0 [(r.length : Int)]),(5,.call (some [(dI .u64 s),(LI [(r.length : Int)])]) false (dI .u64 (tagF s [(r.length : Int)]))),(6,.call none false (LY ((([] : List Int) ++ bytesK ((r.length : Nat) : Int) 8) ++ bytesK (tagF s [(r.length : Int)]) 8)))] [0,1,5] (st' := ⟨[(0,(dI .u64 s)),(1,(LI r)),(5,(LY ((([] : List Int) ++ bytesK ((r.length : Nat) : Int) 8) ++ bytesK (tagF s [(r.length : Int)]) 8)))],(yo1 r)⟩)
    (p := T4 (eqRows [[(i6 ((r.length : Nat) : Int))]] ([(r.length : Int)].map (encI .i64))∧callOb Try.prog 44 (yo1 r) [(dI .u64 s),(.own 1)] (some [(dI .u64 s),(LI [(r.length : Int)])]) false (dI .u64 (tagF s [(r.length : Int)]))∧callOb Try.prog 67 (yo1 r) [(yo4 r),(dI .u64 (tagF s [(r.length : Int)]))] none false (LY ((([] : List Int) ++ bytesK ((r.length : Nat) : Int) 8) ++ bytesK (tagF s [(r.length : Int)]) 8))∧True∧True)) (by kernel_rfl)
    ⟨oK,oK,oK,oK,⟨⟨rfl,oK⟩,oK⟩,⟨⟨rfl,rfl,oK⟩,(tagR_ok _ _)⟩,(with_ok _ _ (by first | (simp; done) | (simp [bytesK_len]; done) | (rw [encK_len]; omega)) (by first | omega | with_reducible exact (wrap_word _).1 | exact (tagF_word _ _).1) (by first | omega | with_reducible exact (wrap_word _).2 | exact (tagF_word _ _).2)),oK,oK⟩ ?_
  refine Ev.seq ?_
  refine Ev.seq ?_
  refine Ev.reg [] [0,1,5,6] (st' := ⟨[(0,(dI .u64 s)),(1,(LI r)),(5,(LY ((([] : List Int) ++ bytesK ((r.length : Nat) : Int) 8) ++ bytesK (tagF s [(r.length : Int)]) 8))),(6,(i6 0))],(yo1 r)⟩)
    (p := True∧True) (by kernel_rfl)
    ⟨oK,oK⟩ ?_
  refine Ev.block ?_
  refine Ev.loop [0,1,5,6] 2 (fun (k : Nat) => ⟨[(0,(dI .u64 s)),(1,(LI r)),(5,(LY (encK s r k))),(6,(i6 ((k : Nat) : Int)))],(yo1 r)⟩) (fun (k : Nat) => k ≤ r.length) (fun (k : Nat) => r.length - k) 0 (by kernel_rfl) (by omega) ?_
  rintro k hinv
  have hinv : k ≤ r.length := hinv
  have hk := hinv
  refine Ev.seq ?_
  refine Ev.seq ?_
  refine Ev.reg [] [0,1,5,6,22] (st' := ⟨[(0,(dI .u64 s)),(1,(LI r)),(5,(LY (encK s r k))),(6,(i6 ((k : Nat) : Int))),(22,(dB (decide (((k : Nat) : Int) < ((r.length : Nat) : Int)))))],(yo1 r)⟩)
    (p := T4 True) (by kernel_rfl)
    ⟨oK,oK,oK,oK,oK⟩ ?_
  refine Ev.cond _ rfl (fun hc22 => ?_) (fun hc22 => ?_)
  · try simp only [decide_eq_true_eq,decide_eq_false_iff_not,beq_iff_eq,bne_iff_ne,ne_eq,beq_eq_false_iff_ne,bne_eq_false_iff_eq,Bool.not_eq_true,Bool.not_eq_false,Bool.not_eq_true',Bool.not_eq_false',Bool.not_not,gt_iff_lt,ge_iff_le,Nat.not_lt,Int.not_lt,Int.not_le] at hc22
    refine Ev.skip ?_
    refine Ev.seq ?_
    refine Ev.block ?_
    refine Ev.reg [(6,.call none false (LY ((encK s r k) ++ bytesK (IntKind.wrap .u64 (r.getD k 0)) 8)))] [0,1,5,6] (st' := ⟨[(0,(dI .u64 s)),(1,(LI r)),(5,(LY ((encK s r k) ++ bytesK (IntKind.wrap .u64 (r.getD k 0)) 8))),(6,(i6 ((k : Nat) : Int)))],(yo1 r)⟩)
      (p := T3 ((0 ≤ ((k : Nat) : Int)∧((k : Nat) : Int) < (r.length : Int))∧T2 (callOb Try.prog 67 (yo1 r) [(LY (encK s r k)),(dI .u64 (IntKind.wrap .u64 (r.getD k 0)))] none false (LY ((encK s r k) ++ bytesK (IntKind.wrap .u64 (r.getD k 0)) 8))∧True∧True))) (by kernel_rfl)
      ⟨oK,oK,oK,(by first | omega | (simp; first | done | omega)),oK,oK,(with_ok _ _ (by first | (simp; done) | (simp [bytesK_len]; done) | (rw [encK_len]; omega)) (by first | omega | with_reducible exact (wrap_word _).1 | exact (tagF_word _ _).1) (by first | omega | with_reducible exact (wrap_word _).2 | exact (tagF_word _ _).2)),oK,oK⟩ ?_
    refine Ev.reg [(1,.val (i6 ((k + 1 : Nat) : Int)))] [0,1,5,6] (st' := ⟨[(0,(dI .u64 s)),(1,(LI r)),(5,(LY ((encK s r k) ++ bytesK (IntKind.wrap .u64 (r.getD k 0)) 8))),(6,(i6 ((k + 1 : Nat) : Int)))],(yo1 r)⟩)
      (p := True∧(True∧(IntKind.wrap .i64 (((k : Nat) : Int) + 1)) = ((k + 1 : Nat) : Int))∧True∧True) (by kernel_rfl)
      ⟨oK,⟨oK,(w64n (by first | rfl | simp | omega) (by first | omega | (simp; first | done | omega)))⟩,oK,oK⟩ ?_
    refine ⟨k + 1,by kernel_rfl,(?_ : (k + 1) ≤ r.length),(?_ : r.length - (k + 1) < r.length - k)⟩
    · omega
    · omega
  · try simp only [decide_eq_true_eq,decide_eq_false_iff_not,beq_iff_eq,bne_iff_ne,ne_eq,beq_eq_false_iff_ne,bne_eq_false_iff_eq,Bool.not_eq_true,Bool.not_eq_false,Bool.not_eq_true',Bool.not_eq_false',Bool.not_not,gt_iff_lt,ge_iff_le,Nat.not_lt,Int.not_lt,Int.not_le] at hc22
    refine Ev.exit ?_
    refine Ev.seq ?_
    refine Ev.reg [(3,.call none false (dI .u64 (tagF s r))),(4,.call none false (LY ((encK s r k) ++ bytesK (tagF s r) 8)))] [4] (st' := ⟨[(4,(LY ((encK s r k) ++ bytesK (tagF s r) 8)))],(yo1 r)⟩)
      (p := T3 (callOb Try.prog 44 (yo1 r) [(dI .u64 s),(LI r)] none false (dI .u64 (tagF s r))∧callOb Try.prog 67 (yo1 r) [(LY (encK s r k)),(dI .u64 (tagF s r))] none false (LY ((encK s r k) ++ bytesK (tagF s r) 8))∧True∧True)) (by kernel_rfl)
      ⟨oK,oK,oK,(tagR_ok _ _),(with_ok _ _ (by first | (simp; done) | (simp [bytesK_len]; done) | (rw [encK_len]; omega)) (by first | omega | with_reducible exact (wrap_word _).1 | exact (tagF_word _ _).1) (by first | omega | with_reducible exact (wrap_word _).2 | exact (tagF_word _ _).2)),oK,oK⟩ ?_
    refine Ev.ret ?_
    refine ⟨⟨oK,oK⟩,(?_ : ((encK s r k) ++ bytesK (tagF s r) 8).map (encI .u8) = (encF s r).map (encI .u8)),.inl rfl⟩
    rw [show k = r.length from by omega,encK_full]

set_option maxRecDepth 100000 in
theorem next_ok (b : List Int) (a : Nat) (s : Int) (hb : Bytes8 b) (hbig : b.length ≤ 137438953472) (ha : a ≤ b.length) : CallOk Try.prog 54 [(LY b),(yo3 a),(dI .u64 s)] [] true (.agg [(LI (nextL (b.drop a) s)),(dI .u64 ((pcS b a s : Nat) : Int)),(i6 ((pcE b a s : Nat) : Int)),(dB (nextB (b.drop a) s))]) [] := by
  refine CallOk.of_ev Try.func54 rfl rfl rfl ?_
  rintro ⟨_,W,S0,_,susp,_⟩ rfl rfl rfl
  have hlen := List.length_drop (l := b) (i := a)
  have hw0 : wordN (b.drop a) 0 = wordN b a := by rw [wordN_drop]; rfl
  have hw8 : wordN (b.drop a) 8 = wordN b (a + 8) := wordN_drop _ _ _
  refine Ev.seq ?_
  refine Ev.reg [] [0,1,2,6] (st' := ⟨[(0,(LY b)),(1,(yo3 a)),(2,(dI .u64 s)),(6,yo2)],[yo0]⟩)
    (p := True∧True) (by kernel_rfl)
    ⟨oK,oK⟩ ?_
  refine Ev.seq ?_
  refine Ev.seq ?_
  refine Ev.reg [(3,.val (i6 ((b.length - a : Nat) : Int)))] [0,1,2,6,15] (st' := ⟨[(0,(LY b)),(1,(yo3 a)),(2,(dI .u64 s)),(6,yo2),(15,(dB (decide (((b.length - a : Nat) : Int) < 24))))],[yo0]⟩)
    (p := T3 ((True∧(IntKind.wrap .i64 (((b.length : Nat) : Int) - ((a : Nat) : Int))) = ((b.length - a : Nat) : Int))∧True∧True)) (by kernel_rfl)
    ⟨oK,oK,oK,⟨oK,(w64n (by omega) (by omega))⟩,oK,oK⟩ ?_
  refine Ev.cond _ rfl (fun hc15 => ?_) (fun hc15 => ?_)
  · try simp only [decide_eq_true_eq,decide_eq_false_iff_not,beq_iff_eq,bne_iff_ne,ne_eq,beq_eq_false_iff_ne,bne_eq_false_iff_eq,Bool.not_eq_true,Bool.not_eq_false,Bool.not_eq_true',Bool.not_eq_false',Bool.not_not,gt_iff_lt,ge_iff_le,Nat.not_lt,Int.not_lt,Int.not_le] at hc15
    refine Ev.seq ?_
    refine Ev.reg [] [6] (st' := ⟨[(6,yo2)],[yo0]⟩)
      (p := T2 True) (by kernel_rfl)
      ⟨oK,oK,oK⟩ ?_
    refine Ev.ret ?_
    refine ⟨⟨oK,oK⟩,(?_ : (nextL (b.drop a) s) = []∧(0 : Int) = ((pcS b a s : Nat) : Int)∧(0 : Int) = ((pcE b a s : Nat) : Int)∧false = (nextB (b.drop a) s)∧True),.inl rfl⟩
    have hbad : badN (b.drop a) s := .inl (by omega)
    obtain ⟨p1,p2,p3,p4⟩ := pc_bad hbad
    exact ⟨p1.symm,p2,p3,p4,oK⟩
  · try simp only [decide_eq_true_eq,decide_eq_false_iff_not,beq_iff_eq,bne_iff_ne,ne_eq,beq_eq_false_iff_ne,bne_eq_false_iff_eq,Bool.not_eq_true,Bool.not_eq_false,Bool.not_eq_true',Bool.not_eq_false',Bool.not_not,gt_iff_lt,ge_iff_le,Nat.not_lt,Int.not_lt,Int.not_le] at hc15
    refine Ev.skip ?_
    refine Ev.seq ?_
    refine Ev.reg [(2,.call none false (dI .u64 ((wordN b a : Nat) : Int)))] [0,1,2,6,7] (st' := ⟨[(0,(LY b)),(1,(yo3 a)),(2,(dI .u64 s)),(6,yo2),(7,(dI .u64 ((wordN b a : Nat) : Int)))],[yo0]⟩)
      (p := T2 (callOb Try.prog 64 [yo0] [(LY b),(yo3 a)] none false (dI .u64 ((wordN b a : Nat) : Int))∧True∧True)) (by kernel_rfl)
      ⟨oK,oK,(wordR_ok b a (by assumption) (by first | omega | (simp; first | done | omega)) (by first | omega | (simp; first | done | omega))),oK,oK⟩ ?_
    refine Ev.seq ?_
    refine Ev.seq ?_
    rcases (show 256 < wordN b a ∨ (wordN b a ≤ 256∧b.length - a < 24 + 8 * wordN b a) ∨ (wordN b a ≤ 256∧24 + 8 * wordN b a ≤ b.length - a) from by omega) with h4 | ⟨h4,h5⟩ | ⟨h4,h5⟩
    · skip
      refine Ev.reg [(1,.val (dB true))] [0,1,2,6,7,44] (st' := ⟨[(0,(LY b)),(1,(yo3 a)),(2,(dI .u64 s)),(6,yo2),(7,(dI .u64 ((wordN b a : Nat) : Int))),(44,(dB true))],[yo0]⟩)
        (p := True∧(True∧(decide (((wordN b a : Nat) : Int) > 256)) = true)∧T9 (T9 (T5 True))) (by kernel_rfl)
        ⟨oK,⟨oK,(by exact decide_eq_true (by omega))⟩,oK,oK,oK,oK,oK,oK,oK,oK,oK,oK,oK,oK,oK,oK,oK,oK,oK,oK,oK,oK,oK,oK,oK,oK⟩ ?_
      refine Ev.cond true rfl (fun _ => ?_) (fun h => (by cases h))
      refine Ev.seq ?_
      refine Ev.reg [] [6] (st' := ⟨[(6,yo2)],[yo0]⟩)
        (p := T2 True) (by kernel_rfl)
        ⟨oK,oK,oK⟩ ?_
      refine Ev.ret ?_
      refine ⟨⟨oK,oK⟩,(?_ : (nextL (b.drop a) s) = []∧(0 : Int) = ((pcS b a s : Nat) : Int)∧(0 : Int) = ((pcE b a s : Nat) : Int)∧false = (nextB (b.drop a) s)∧True),.inl rfl⟩
      have hbad : badN (b.drop a) s := .inr (.inl (by omega))
      obtain ⟨p1,p2,p3,p4⟩ := pc_bad hbad
      exact ⟨p1.symm,p2,p3,p4,oK⟩
    · skip
      refine Ev.reg [(1,.val (dB false)),(6,.val (i6 ((b.length - a : Nat) : Int))),(8,.val (i6 ((wordN b a : Nat) : Int))),(9,.val (i6 ((8 * (wordN b a) : Nat) : Int))),(10,.val (i6 ((24 + (8 * (wordN b a)) : Nat) : Int))),(11,.val (dB true))] [0,1,2,6,7,44] (st' := ⟨[(0,(LY b)),(1,(yo3 a)),(2,(dI .u64 s)),(6,yo2),(7,(dI .u64 ((wordN b a : Nat) : Int))),(44,(dB true))],[yo0]⟩)
        (p := True∧(True∧(decide (((wordN b a : Nat) : Int) > 256)) = false)∧T4 ((True∧(IntKind.wrap .i64 (((b.length : Nat) : Int) - ((a : Nat) : Int))) = ((b.length - a : Nat) : Int))∧True∧(True∧(IntKind.wrap .i64 ((wordN b a : Nat) : Int)) = ((wordN b a : Nat) : Int))∧(True∧(IntKind.wrap .i64 (8 * ((wordN b a : Nat) : Int))) = ((8 * (wordN b a) : Nat) : Int))∧(True∧(IntKind.wrap .i64 (24 + ((8 * (wordN b a) : Nat) : Int))) = ((24 + (8 * (wordN b a)) : Nat) : Int))∧(True∧(decide (((b.length - a : Nat) : Int) < ((24 + (8 * (wordN b a)) : Nat) : Int))) = true)∧T9 (T4 True))) (by kernel_rfl)
        ⟨oK,⟨oK,(by exact decide_eq_false (by omega))⟩,oK,oK,oK,oK,⟨oK,(w64n (by omega) (by omega))⟩,oK,⟨oK,(w64 rfl (by first | omega | (simp; first | done | omega)) (by first | omega | (simp; first | done | omega)))⟩,⟨oK,(w64n (by first | rfl | simp | omega) (by first | omega | (simp; first | done | omega)))⟩,⟨oK,(w64n (by first | rfl | simp | omega) (by first | omega | (simp; first | done | omega)))⟩,⟨oK,(by exact decide_eq_true (by omega))⟩,oK,oK,oK,oK,oK,oK,oK,oK,oK,oK,oK,oK,oK,oK⟩ ?_
      refine Ev.cond true rfl (fun _ => ?_) (fun h => (by cases h))
      refine Ev.seq ?_
      refine Ev.reg [] [6] (st' := ⟨[(6,yo2)],[yo0]⟩)
        (p := T2 True) (by kernel_rfl)
        ⟨oK,oK,oK⟩ ?_
      refine Ev.ret ?_
      refine ⟨⟨oK,oK⟩,(?_ : (nextL (b.drop a) s) = []∧(0 : Int) = ((pcS b a s : Nat) : Int)∧(0 : Int) = ((pcE b a s : Nat) : Int)∧false = (nextB (b.drop a) s)∧True),.inl rfl⟩
      have hbad : badN (b.drop a) s := .inr (.inr (.inl (by omega)))
      obtain ⟨p1,p2,p3,p4⟩ := pc_bad hbad
      exact ⟨p1.symm,p2,p3,p4,oK⟩
    · skip
      refine Ev.reg [(1,.val (dB false)),(6,.val (i6 ((b.length - a : Nat) : Int))),(8,.val (i6 ((wordN b a : Nat) : Int))),(9,.val (i6 ((8 * (wordN b a) : Nat) : Int))),(10,.val (i6 ((24 + (8 * (wordN b a)) : Nat) : Int))),(11,.val (dB false)),(16,.val (i6 ((a + 8 : Nat) : Int))),(17,.call none false (dI .u64 ((wordN b (a + 8) : Nat) : Int))),(20,.val (i6 ((wordN b a : Nat) : Int))),(21,.box 3 1 (encI .i64) 0 [(wordN b a : Int)]),(22,.call (some [(dI .u64 s),(LI [(wordN b a : Int)])]) false (dI .u64 (tagF s [(wordN b a : Int)])))] [0,1,2,6,7,44] (st' := ⟨[(0,(LY b)),(1,(yo3 a)),(2,(dI .u64 s)),(6,yo2),(7,(dI .u64 ((wordN b a : Nat) : Int))),(44,(dB (((wordN b (a + 8) : Nat) : Int) != (tagF s [(wordN b a : Int)]))))],[yo0,(.arr 3 1 (encI .i64) 0 [(wordN b a : Int)])]⟩)
        (p := True∧(True∧(decide (((wordN b a : Nat) : Int) > 256)) = false)∧T4 ((True∧(IntKind.wrap .i64 (((b.length : Nat) : Int) - ((a : Nat) : Int))) = ((b.length - a : Nat) : Int))∧True∧(True∧(IntKind.wrap .i64 ((wordN b a : Nat) : Int)) = ((wordN b a : Nat) : Int))∧(True∧(IntKind.wrap .i64 (8 * ((wordN b a : Nat) : Int))) = ((8 * (wordN b a) : Nat) : Int))∧(True∧(IntKind.wrap .i64 (24 + ((8 * (wordN b a) : Nat) : Int))) = ((24 + (8 * (wordN b a)) : Nat) : Int))∧(True∧(decide (((b.length - a : Nat) : Int) < ((24 + (8 * (wordN b a)) : Nat) : Int))) = false)∧T4 ((True∧(IntKind.wrap .i64 (((a : Nat) : Int) + 8)) = ((a + 8 : Nat) : Int))∧callOb Try.prog 64 [yo0] [(LY b),(i6 ((a + 8 : Nat) : Int))] none false (dI .u64 ((wordN b (a + 8) : Nat) : Int))∧T2 ((True∧(IntKind.wrap .i64 ((wordN b a : Nat) : Int)) = ((wordN b a : Nat) : Int))∧eqRows [[(i6 ((wordN b a : Nat) : Int))]] ([(wordN b a : Int)].map (encI .i64))∧callOb Try.prog 44 [yo0,(.arr 3 1 (encI .i64) 0 [(wordN b a : Int)])] [(dI .u64 s),(.own 1)] (some [(dI .u64 s),(LI [(wordN b a : Int)])]) false (dI .u64 (tagF s [(wordN b a : Int)]))∧T2 True)))) (by kernel_rfl)
        ⟨oK,⟨oK,(by exact decide_eq_false (by omega))⟩,oK,oK,oK,oK,⟨oK,(w64n (by omega) (by omega))⟩,oK,⟨oK,(w64 rfl (by first | omega | (simp; first | done | omega)) (by first | omega | (simp; first | done | omega)))⟩,⟨oK,(w64n (by first | rfl | simp | omega) (by first | omega | (simp; first | done | omega)))⟩,⟨oK,(w64n (by first | rfl | simp | omega) (by first | omega | (simp; first | done | omega)))⟩,⟨oK,(by exact decide_eq_false (by omega))⟩,oK,oK,oK,oK,⟨oK,(w64n (by first | rfl | simp | omega) (by first | omega | (simp; first | done | omega)))⟩,(wordR_ok b (a + 8) (by assumption) (by first | omega | (simp; first | done | omega)) (by first | omega | (simp; first | done | omega))),oK,oK,⟨oK,(w64 rfl (by first | omega | (simp; first | done | omega)) (by first | omega | (simp; first | done | omega)))⟩,⟨⟨rfl,oK⟩,oK⟩,⟨⟨rfl,rfl,oK⟩,(tagR_ok _ _)⟩,oK,oK,oK⟩ ?_
      refine Ev.cond _ rfl (fun hc44 => ?_) (fun hc44 => ?_)
      · try simp only [decide_eq_true_eq,decide_eq_false_iff_not,beq_iff_eq,bne_iff_ne,ne_eq,beq_eq_false_iff_ne,bne_eq_false_iff_eq,Bool.not_eq_true,Bool.not_eq_false,Bool.not_eq_true',Bool.not_eq_false',Bool.not_not,gt_iff_lt,ge_iff_le,Nat.not_lt,Int.not_lt,Int.not_le] at hc44
        refine Ev.seq ?_
        refine Ev.reg [] [6] (st' := ⟨[(6,yo2)],[yo0,(.arr 3 1 (encI .i64) 0 [(wordN b a : Int)])]⟩)
          (p := T2 True) (by kernel_rfl)
          ⟨oK,oK,oK⟩ ?_
        refine Ev.ret ?_
        refine ⟨⟨oK,oK⟩,(?_ : (nextL (b.drop a) s) = []∧(0 : Int) = ((pcS b a s : Nat) : Int)∧(0 : Int) = ((pcE b a s : Nat) : Int)∧false = (nextB (b.drop a) s)∧True),.inl rfl⟩
        have hbad : badN (b.drop a) s := .inr (.inr (.inr (.inl (by rw [hw8,hw0]; exact hc44))))
        obtain ⟨p1,p2,p3,p4⟩ := pc_bad hbad
        exact ⟨p1.symm,p2,p3,p4,oK⟩
      · try simp only [decide_eq_true_eq,decide_eq_false_iff_not,beq_iff_eq,bne_iff_ne,ne_eq,beq_eq_false_iff_ne,bne_eq_false_iff_eq,Bool.not_eq_true,Bool.not_eq_false,Bool.not_eq_true',Bool.not_eq_false',Bool.not_not,gt_iff_lt,ge_iff_le,Nat.not_lt,Int.not_lt,Int.not_le] at hc44
        refine Ev.skip ?_
        refine Ev.seq ?_
        refine Ev.reg [(0,.box 3 1 (encI .i64) 0 (recN (b.drop a) 0))] [0,1,2,6,7,8] (st' := ⟨[(0,(LY b)),(1,(yo3 a)),(2,(dI .u64 s)),(6,yo2),(7,(dI .u64 ((wordN b a : Nat) : Int))),(8,(.own 2))],[yo0,(.arr 3 1 (encI .i64) 0 [(wordN b a : Int)]),(.arr 3 1 (encI .i64) 0 (recN (b.drop a) 0))]⟩)
          (p := eqRows [] ((recN (b.drop a) 0).map (encI .i64))∧True∧True) (by kernel_rfl)
          ⟨oK,oK,oK⟩ ?_
        refine Ev.seq ?_
        refine Ev.seq ?_
        refine Ev.reg [] [0,1,2,6,7,8,9] (st' := ⟨[(0,(LY b)),(1,(yo3 a)),(2,(dI .u64 s)),(6,yo2),(7,(dI .u64 ((wordN b a : Nat) : Int))),(8,(.own 2)),(9,(i6 0))],[yo0,(.arr 3 1 (encI .i64) 0 [(wordN b a : Int)]),(.arr 3 1 (encI .i64) 0 (recN (b.drop a) 0))]⟩)
          (p := True∧True) (by kernel_rfl)
          ⟨oK,oK⟩ ?_
        refine Ev.block ?_
        refine Ev.loop [0,1,2,6,7,8,9] 3 (fun (k : Nat) => ⟨[(0,(LY b)),(1,(yo3 a)),(2,(dI .u64 s)),(6,yo2),(7,(dI .u64 ((wordN b a : Nat) : Int))),(8,(.own 2)),(9,(i6 ((k : Nat) : Int)))],[yo0,(.arr 3 1 (encI .i64) 0 [(wordN b a : Int)]),(.arr 3 1 (encI .i64) 0 (recN (b.drop a) k))]⟩) (fun (k : Nat) => k ≤ wordN b a) (fun (k : Nat) => wordN b a - k) 0 (by kernel_rfl) (by omega) ?_
        rintro k hinv
        have hinv : k ≤ wordN b a := hinv
        have hk := hinv
        refine Ev.seq ?_
        refine Ev.seq ?_
        refine Ev.reg [(2,.val (i6 ((wordN b a : Nat) : Int)))] [0,1,2,6,7,8,9,50] (st' := ⟨[(0,(LY b)),(1,(yo3 a)),(2,(dI .u64 s)),(6,yo2),(7,(dI .u64 ((wordN b a : Nat) : Int))),(8,(.own 2)),(9,(i6 ((k : Nat) : Int))),(50,(dB (decide (((k : Nat) : Int) < ((wordN b a : Nat) : Int)))))],[yo0,(.arr 3 1 (encI .i64) 0 [(wordN b a : Int)]),(.arr 3 1 (encI .i64) 0 (recN (b.drop a) k))]⟩)
          (p := T2 ((True∧(IntKind.wrap .i64 ((wordN b a : Nat) : Int)) = ((wordN b a : Nat) : Int))∧True∧True)) (by kernel_rfl)
          ⟨oK,oK,⟨oK,(w64 rfl (by first | omega | (simp; first | done | omega)) (by first | omega | (simp; first | done | omega)))⟩,oK,oK⟩ ?_
        refine Ev.cond _ rfl (fun hc50 => ?_) (fun hc50 => ?_)
        · try simp only [decide_eq_true_eq,decide_eq_false_iff_not,beq_iff_eq,bne_iff_ne,ne_eq,beq_eq_false_iff_ne,bne_eq_false_iff_eq,Bool.not_eq_true,Bool.not_eq_false,Bool.not_eq_true',Bool.not_eq_false',Bool.not_not,gt_iff_lt,ge_iff_le,Nat.not_lt,Int.not_lt,Int.not_le] at hc50
          refine Ev.skip ?_
          refine Ev.seq ?_
          refine Ev.block ?_
          refine Ev.reg [(3,.val (i6 ((a + 16 : Nat) : Int))),(5,.val (i6 ((8 * k : Nat) : Int))),(6,.val (i6 ((a + (16 + 8 * k) : Nat) : Int))),(7,.call none false (dI .u64 ((wordN b (a + (16 + 8 * k)) : Nat) : Int))),(9,.box 3 1 (encI .i64) 0 [IntKind.wrap .i64 ((wordN b (a + (16 + 8 * k)) : Nat) : Int)]),(10,.box 3 1 (encI .i64) 0 (recN (b.drop a) (k + 1)))] [0,1,2,6,7,8,9] (st' := ⟨[(0,(LY b)),(1,(yo3 a)),(2,(dI .u64 s)),(6,yo2),(7,(dI .u64 ((wordN b a : Nat) : Int))),(8,(.own 2)),(9,(i6 ((k : Nat) : Int)))],[yo0,(.arr 3 1 (encI .i64) 0 [(wordN b a : Int)]),(.arr 3 1 (encI .i64) 0 (recN (b.drop a) (k + 1))),(.arr 3 1 (encI .i64) 0 [IntKind.wrap .i64 ((wordN b (a + (16 + 8 * k)) : Nat) : Int)])]⟩)
            (p := T3 ((True∧(IntKind.wrap .i64 (((a : Nat) : Int) + 16)) = ((a + 16 : Nat) : Int))∧True∧(True∧(IntKind.wrap .i64 (8 * ((k : Nat) : Int))) = ((8 * k : Nat) : Int))∧(True∧(IntKind.wrap .i64 (((a + 16 : Nat) : Int) + ((8 * k : Nat) : Int))) = ((a + (16 + 8 * k) : Nat) : Int))∧callOb Try.prog 64 [yo0,(.arr 3 1 (encI .i64) 0 [(wordN b a : Int)]),(.arr 3 1 (encI .i64) 0 (recN (b.drop a) k))] [(LY b),(i6 ((a + (16 + 8 * k) : Nat) : Int))] none false (dI .u64 ((wordN b (a + (16 + 8 * k)) : Nat) : Int))∧True∧eqRows [[(i6 (IntKind.wrap .i64 ((wordN b (a + (16 + 8 * k)) : Nat) : Int)))]] ([IntKind.wrap .i64 ((wordN b (a + (16 + 8 * k)) : Nat) : Int)].map (encI .i64))∧((recN (b.drop a) k).length + ([IntKind.wrap .i64 ((wordN b (a + (16 + 8 * k)) : Nat) : Int)].map (encI .i64)).length ≤ 137438953472∧(recN (b.drop a) k).map (encI .i64) ++ [IntKind.wrap .i64 ((wordN b (a + (16 + 8 * k)) : Nat) : Int)].map (encI .i64) = (recN (b.drop a) (k + 1)).map (encI .i64))∧True∧True)) (by kernel_rfl)
            ⟨oK,oK,oK,⟨oK,(w64n (by first | rfl | simp | omega) (by first | omega | (simp; first | done | omega)))⟩,oK,⟨oK,(w64n (by first | rfl | simp | omega) (by first | omega | (simp; first | done | omega)))⟩,⟨oK,(w64n (by omega) (by omega))⟩,(wordR_ok b (a + (16 + 8 * k)) (by assumption) (by first | omega | (simp; first | done | omega)) (by first | omega | (simp; first | done | omega))),oK,⟨⟨rfl,oK⟩,oK⟩,⟨by simp only [List.length_map,List.length_cons,List.length_nil]; rw [recN_len]; omega,by rw [recN_succ,wordN_drop]; simp [encI]⟩,oK,oK⟩ ?_
          refine Ev.reg [(1,.val (i6 ((k + 1 : Nat) : Int)))] [0,1,2,6,7,8,9] (st' := ⟨[(0,(LY b)),(1,(yo3 a)),(2,(dI .u64 s)),(6,yo2),(7,(dI .u64 ((wordN b a : Nat) : Int))),(8,(.own 2)),(9,(i6 ((k + 1 : Nat) : Int)))],[yo0,(.arr 3 1 (encI .i64) 0 [(wordN b a : Int)]),(.arr 3 1 (encI .i64) 0 (recN (b.drop a) (k + 1))),(.arr 3 1 (encI .i64) 0 [IntKind.wrap .i64 ((wordN b (a + (16 + 8 * k)) : Nat) : Int)])]⟩)
            (p := True∧(True∧(IntKind.wrap .i64 (((k : Nat) : Int) + 1)) = ((k + 1 : Nat) : Int))∧True∧True) (by kernel_rfl)
            ⟨oK,⟨oK,(w64n (by first | rfl | simp | omega) (by first | omega | (simp; first | done | omega)))⟩,oK,oK⟩ ?_
          refine ⟨k + 1,by kernel_rfl,(?_ : (k + 1) ≤ wordN b a),(?_ : wordN b a - (k + 1) < wordN b a - k)⟩
          · omega
          · omega
        · try simp only [decide_eq_true_eq,decide_eq_false_iff_not,beq_iff_eq,bne_iff_ne,ne_eq,beq_eq_false_iff_ne,bne_eq_false_iff_eq,Bool.not_eq_true,Bool.not_eq_false,Bool.not_eq_true',Bool.not_eq_false',Bool.not_not,gt_iff_lt,ge_iff_le,Nat.not_lt,Int.not_lt,Int.not_le] at hc50
          refine Ev.exit ?_
          refine Ev.seq ?_
          refine Ev.reg [(1,.val (i6 ((a + 16 : Nat) : Int))),(3,.val (i6 ((wordN b a : Nat) : Int))),(4,.val (i6 ((8 * (wordN b a) : Nat) : Int))),(5,.val (i6 ((a + 16 + 8 * wordN b a : Nat) : Int)))] [0,2,6,8,10] (st' := ⟨[(0,(LY b)),(2,(dI .u64 s)),(6,yo2),(8,(.own 2)),(10,(i6 ((a + 16 + 8 * wordN b a : Nat) : Int)))],[yo0,(.arr 3 1 (encI .i64) 0 [(wordN b a : Int)]),(.arr 3 1 (encI .i64) 0 (recN (b.drop a) k))]⟩)
            (p := True∧(True∧(IntKind.wrap .i64 (((a : Nat) : Int) + 16)) = ((a + 16 : Nat) : Int))∧True∧(True∧(IntKind.wrap .i64 ((wordN b a : Nat) : Int)) = ((wordN b a : Nat) : Int))∧(True∧(IntKind.wrap .i64 (8 * ((wordN b a : Nat) : Int))) = ((8 * (wordN b a) : Nat) : Int))∧(True∧(IntKind.wrap .i64 (((a + 16 : Nat) : Int) + ((8 * (wordN b a) : Nat) : Int))) = ((a + 16 + 8 * wordN b a : Nat) : Int))∧True∧True) (by kernel_rfl)
            ⟨oK,⟨oK,(w64n (by first | rfl | simp | omega) (by first | omega | (simp; first | done | omega)))⟩,oK,⟨oK,(w64 rfl (by first | omega | (simp; first | done | omega)) (by first | omega | (simp; first | done | omega)))⟩,⟨oK,(w64n (by first | rfl | simp | omega) (by first | omega | (simp; first | done | omega)))⟩,⟨oK,(w64n (by omega) (by omega))⟩,oK,oK⟩ ?_
          refine Ev.seq ?_
          refine Ev.seq ?_
          refine Ev.freeze 2 (st' := ⟨[(0,(LY b)),(2,(dI .u64 s)),(6,yo2),(8,(LI (recN (b.drop a) k))),(10,(i6 ((a + 16 + 8 * wordN b a : Nat) : Int)))],[yo0,(.arr 3 1 (encI .i64) 0 [(wordN b a : Int)]),.dead]⟩) (by kernel_rfl) ?_
          refine Ev.reg [(2,.call none false (dI .u64 ((wordN b (a + 16 + 8 * wordN b a) : Nat) : Int))),(5,.call none false (dI .u64 (tagF s (recN (b.drop a) k))))] [0,6,8,10,76] (st' := ⟨[(0,(LY b)),(6,yo2),(8,(LI (recN (b.drop a) k))),(10,(i6 ((a + 16 + 8 * wordN b a : Nat) : Int))),(76,(dB (((wordN b (a + 16 + 8 * wordN b a) : Nat) : Int) != (tagF s (recN (b.drop a) k)))))],[yo0,(.arr 3 1 (encI .i64) 0 [(wordN b a : Int)]),.dead]⟩)
            (p := T2 (callOb Try.prog 64 [yo0,(.arr 3 1 (encI .i64) 0 [(wordN b a : Int)]),.dead] [(LY b),(i6 ((a + 16 + 8 * wordN b a : Nat) : Int))] none false (dI .u64 ((wordN b (a + 16 + 8 * wordN b a) : Nat) : Int))∧T2 (callOb Try.prog 44 [yo0,(.arr 3 1 (encI .i64) 0 [(wordN b a : Int)]),.dead] [(dI .u64 s),(LI (recN (b.drop a) k))] none false (dI .u64 (tagF s (recN (b.drop a) k)))∧True∧True))) (by kernel_rfl)
            ⟨oK,oK,(wordR_ok b (a + 16 + 8 * wordN b a) (by assumption) (by first | omega | (simp; first | done | omega)) (by first | omega | (simp; first | done | omega))),oK,oK,(tagR_ok _ _),oK,oK⟩ ?_
          refine Ev.cond _ rfl (fun hc76 => ?_) (fun hc76 => ?_)
          · try simp only [decide_eq_true_eq,decide_eq_false_iff_not,beq_iff_eq,bne_iff_ne,ne_eq,beq_eq_false_iff_ne,bne_eq_false_iff_eq,Bool.not_eq_true,Bool.not_eq_false,Bool.not_eq_true',Bool.not_eq_false',Bool.not_not,gt_iff_lt,ge_iff_le,Nat.not_lt,Int.not_lt,Int.not_le] at hc76
            refine Ev.seq ?_
            refine Ev.reg [] [6] (st' := ⟨[(6,yo2)],[yo0,(.arr 3 1 (encI .i64) 0 [(wordN b a : Int)]),.dead]⟩)
              (p := T2 True) (by kernel_rfl)
              ⟨oK,oK,oK⟩ ?_
            refine Ev.ret ?_
            refine ⟨⟨oK,oK⟩,(?_ : (nextL (b.drop a) s) = []∧(0 : Int) = ((pcS b a s : Nat) : Int)∧(0 : Int) = ((pcE b a s : Nat) : Int)∧false = (nextB (b.drop a) s)∧True),.inl rfl⟩
            have hk2 : k = wordN b a := by omega
            have hww : wordN (b.drop a) (16 + 8 * wordN (b.drop a) 0) = wordN b (a + 16 + 8 * wordN b a) := by rw [wordN_drop,hw0]; congr 1; omega
            rw [hk2,← hw0] at hc76
            have hbad : badN (b.drop a) s := .inr (.inr (.inr (.inr (by rw [hww]; exact hc76))))
            obtain ⟨p1,p2,p3,p4⟩ := pc_bad hbad
            exact ⟨p1.symm,p2,p3,p4,oK⟩
          · try simp only [decide_eq_true_eq,decide_eq_false_iff_not,beq_iff_eq,bne_iff_ne,ne_eq,beq_eq_false_iff_ne,bne_eq_false_iff_eq,Bool.not_eq_true,Bool.not_eq_false,Bool.not_eq_true',Bool.not_eq_false',Bool.not_not,gt_iff_lt,ge_iff_le,Nat.not_lt,Int.not_lt,Int.not_le] at hc76
            refine Ev.skip ?_
            refine Ev.seq ?_
            refine Ev.reg [(3,.call none false (dI .u64 ((wordN b (a + 16 + 8 * wordN b a) : Nat) : Int))),(5,.val (i6 ((a + 24 + 8 * wordN b a : Nat) : Int)))] [6] (st' := ⟨[(6,yo2)],[(.var 88 [(LI (recN (b.drop a) k)),(dI .u64 ((wordN b (a + 16 + 8 * wordN b a) : Nat) : Int)),(i6 ((a + 24 + 8 * wordN b a : Nat) : Int)),(dB true)]),(.arr 3 1 (encI .i64) 0 [(wordN b a : Int)]),.dead]⟩)
              (p := T3 (callOb Try.prog 64 [yo0,(.arr 3 1 (encI .i64) 0 [(wordN b a : Int)]),.dead] [(LY b),(i6 ((a + 16 + 8 * wordN b a : Nat) : Int))] none false (dI .u64 ((wordN b (a + 16 + 8 * wordN b a) : Nat) : Int))∧True∧(True∧(IntKind.wrap .i64 (((a + 16 + 8 * wordN b a : Nat) : Int) + 8)) = ((a + 24 + 8 * wordN b a : Nat) : Int))∧T2 True)) (by kernel_rfl)
              ⟨oK,oK,oK,(wordR_ok b (a + 16 + 8 * wordN b a) (by assumption) (by first | omega | (simp; first | done | omega)) (by first | omega | (simp; first | done | omega))),oK,⟨oK,(w64n (by omega) (by omega))⟩,oK,oK,oK⟩ ?_
            refine Ev.ret ?_
            refine ⟨⟨oK,oK⟩,(?_ : (recN (b.drop a) k).map (encI .i64) = (nextL (b.drop a) s).map (encI .i64)∧((wordN b (a + 16 + 8 * wordN b a) : Nat) : Int) = ((pcS b a s : Nat) : Int)∧((a + 24 + 8 * wordN b a : Nat) : Int) = ((pcE b a s : Nat) : Int)∧true = (nextB (b.drop a) s)∧True),.inl rfl⟩
            have hk2 : k = wordN b a := by omega
            have hww : wordN (b.drop a) (16 + 8 * wordN (b.drop a) 0) = wordN b (a + 16 + 8 * wordN b a) := by rw [wordN_drop,hw0]; congr 1; omega
            rw [hk2,← hw0] at hc76
            have hok : ¬ badN (b.drop a) s := fun hh => by
              rcases hh with hh | hh | hh | hh | hh
              · omega
              · omega
              · omega
              · rw [hw8,hw0] at hh; exact hh hc44
              · rw [hww] at hh; exact hh hc76
            obtain ⟨p1,p2,p3,p4⟩ := pc_ok hok
            refine ⟨by rw [p1,hk2,hw0],by rw [p2,hww],by rw [p3,hw0],p4.symm,oK⟩

end Go.Proofs.Ytjmfaebimgnblaa
