/-
  JournalUnique.
-/
import Derived.Test.YtjmfaebimgnblaaJouG
import Derived.Test.YtjmfaebimgnblaaJouL
namespace Go.Proofs.Ytjmfaebimgnblaa
open Go.RowKit
set_option linter.unusedVariables false
set_option linter.unusedSimpArgs false

set_option maxRecDepth 100000 in
theorem unique_law (b : List Int) (l m : List (List Int)) (hb8 : Bytes8 b) (hbl : b.length ≤ 9223372036854775807) (hl : RecsBig l) (hi : ∀ r ∈ l, Ints64 r) (hm : RecsBig m) (him : ∀ r ∈ m, Ints64 r) : CallOk Try.prog 12 [(dL 1 (encI .u8) 0 b), (dL 1 encLI [] l), (dL 1 encLI [] m)] [] false (dB true) [] := by
  refine CallOk.of_ev Try.func12 rfl rfl rfl ?_
  rintro ⟨_, W, S0, _, susp, _⟩ rfl rfl rfl
  refine Ev.seq ?_
  refine Ev.reg [] [0, 1, 2] (st' := ⟨[(0, (dL 1 (encI .u8) 0 b)), (1, (dL 1 encLI [] l)), (2, (dL 1 encLI [] m))], []⟩)
    (p := True ∧ True) (by kernel_rfl)
    ⟨trivial, trivial⟩ ?_
  refine Ev.seq ?_
  refine Ev.reg [(0, .call none false (dB true))] [0, 1, 2, 7] (st' := ⟨[(0, (dL 1 (encI .u8) 0 b)), (1, (dL 1 encLI [] l)), (2, (dL 1 encLI [] m)), (7, (dB true))], []⟩)
    (p := callOb Try.prog 23 [] [] none false (dB true) ∧ True ∧ True) (by kernel_rfl)
    ⟨examples_ok, trivial, trivial⟩ ?_
  refine Ev.seq ?_
  refine Ev.seq ?_
  refine Ev.reg [] [0, 1, 2, 7, 19] (st' := ⟨[(0, (dL 1 (encI .u8) 0 b)), (1, (dL 1 encLI [] l)), (2, (dL 1 encLI [] m)), (7, (dB true)), (19, (dB false))], []⟩)
    (p := True ∧ True ∧ True) (by kernel_rfl)
    ⟨trivial, trivial, trivial⟩ ?_
  refine Ev.cond false rfl (fun h => (by cases h)) (fun _ => ?_)
  refine Ev.skip ?_
  refine Ev.seq ?_
  refine Ev.seq ?_
  rcases (Nat.lt_or_ge 2000 b.length).imp id (fun h => (⟨h, bool3 (smallF l) (smallF m)⟩ : b.length ≤ 2000 ∧ _)) with hbb | ⟨hbb, hsl | ⟨hsl, hsm⟩ | ⟨hsl, hsm⟩⟩
  · skip
    refine Ev.reg [(2, .val (dB true))] [0, 1, 2, 7, 32] (st' := ⟨[(0, (dL 1 (encI .u8) 0 b)), (1, (dL 1 encLI [] l)), (2, (dL 1 encLI [] m)), (7, (dB true)), (32, (dB true))], []⟩)
      (p := True ∧ True ∧ (True ∧ (decide (((b.length : Nat) : Int) > 2000)) = true) ∧ True ∧ True ∧ True ∧ True ∧ True ∧ True ∧ True ∧ True ∧ True ∧ True ∧ True) (by kernel_rfl)
      ⟨trivial, trivial, ⟨trivial, (by simp; omega)⟩, trivial, trivial, trivial, trivial, trivial, trivial, trivial, trivial, trivial, trivial, trivial⟩ ?_
    refine Ev.cond true rfl (fun _ => ?_) (fun h => (by cases h))
    refine Ev.seq ?_
    refine Ev.reg [] [6] (st' := ⟨[(6, (dB true))], []⟩)
      (p := True ∧ True ∧ True) (by kernel_rfl)
      ⟨trivial, trivial, trivial⟩ ?_
    refine Ev.ret ?_
    refine ⟨⟨trivial, trivial⟩, (?_ : true = true), .inr trivial⟩
    rfl
  · skip
    refine Ev.reg [(2, .val (dB false)), (5, .call none false (dB (smallF l))), (6, .val (dB true))] [0, 1, 2, 7, 32] (st' := ⟨[(0, (dL 1 (encI .u8) 0 b)), (1, (dL 1 encLI [] l)), (2, (dL 1 encLI [] m)), (7, (dB true)), (32, (dB true))], []⟩)
      (p := True ∧ True ∧ (True ∧ (decide (((b.length : Nat) : Int) > 2000)) = false) ∧ True ∧ True ∧ callOb Try.prog 24 [] [(dL 1 encLI [] l)] none false (dB (smallF l)) ∧ (True ∧ (!(smallF l)) = true) ∧ True ∧ True ∧ True ∧ True ∧ True ∧ True ∧ True) (by kernel_rfl)
      ⟨trivial, trivial, ⟨trivial, (by simp; omega)⟩, trivial, trivial, (small_ok _ (by first | assumption | exact hS.recs | exact hM.recs | exact hRb | (rw [hrw]; exact hRb))), ⟨trivial, (by rw [hsl]; rfl)⟩, trivial, trivial, trivial, trivial, trivial, trivial, trivial⟩ ?_
    refine Ev.cond true rfl (fun _ => ?_) (fun h => (by cases h))
    refine Ev.seq ?_
    refine Ev.reg [] [6] (st' := ⟨[(6, (dB true))], []⟩)
      (p := True ∧ True ∧ True) (by kernel_rfl)
      ⟨trivial, trivial, trivial⟩ ?_
    refine Ev.ret ?_
    refine ⟨⟨trivial, trivial⟩, (?_ : true = true), .inr trivial⟩
    rfl
  · skip
    refine Ev.reg [(2, .val (dB false)), (5, .call none false (dB (smallF l))), (6, .val (dB false)), (10, .call none false (dB (smallF m))), (11, .val (dB true))] [0, 1, 2, 7, 32] (st' := ⟨[(0, (dL 1 (encI .u8) 0 b)), (1, (dL 1 encLI [] l)), (2, (dL 1 encLI [] m)), (7, (dB true)), (32, (dB true))], []⟩)
      (p := True ∧ True ∧ (True ∧ (decide (((b.length : Nat) : Int) > 2000)) = false) ∧ True ∧ True ∧ callOb Try.prog 24 [] [(dL 1 encLI [] l)] none false (dB (smallF l)) ∧ (True ∧ (!(smallF l)) = false) ∧ True ∧ True ∧ True ∧ callOb Try.prog 24 [] [(dL 1 encLI [] m)] none false (dB (smallF m)) ∧ (True ∧ (!(smallF m)) = true) ∧ True ∧ True) (by kernel_rfl)
      ⟨trivial, trivial, ⟨trivial, (by simp; omega)⟩, trivial, trivial, (small_ok _ (by first | assumption | exact hS.recs | exact hM.recs | exact hRb | (rw [hrw]; exact hRb))), ⟨trivial, (by rw [hsl]; rfl)⟩, trivial, trivial, trivial, (small_ok _ (by first | assumption | exact hS.recs | exact hM.recs | exact hRb | (rw [hrw]; exact hRb))), ⟨trivial, (by rw [hsm]; rfl)⟩, trivial, trivial⟩ ?_
    refine Ev.cond true rfl (fun _ => ?_) (fun h => (by cases h))
    refine Ev.seq ?_
    refine Ev.reg [] [6] (st' := ⟨[(6, (dB true))], []⟩)
      (p := True ∧ True ∧ True) (by kernel_rfl)
      ⟨trivial, trivial, trivial⟩ ?_
    refine Ev.ret ?_
    refine ⟨⟨trivial, trivial⟩, (?_ : true = true), .inr trivial⟩
    rfl
  · skip
    refine Ev.reg [(2, .val (dB false)), (5, .call none false (dB (smallF l))), (6, .val (dB false)), (10, .call none false (dB (smallF m))), (11, .val (dB false))] [0, 1, 2, 7, 32] (st' := ⟨[(0, (dL 1 (encI .u8) 0 b)), (1, (dL 1 encLI [] l)), (2, (dL 1 encLI [] m)), (7, (dB true)), (32, (dB false))], []⟩)
      (p := True ∧ True ∧ (True ∧ (decide (((b.length : Nat) : Int) > 2000)) = false) ∧ True ∧ True ∧ callOb Try.prog 24 [] [(dL 1 encLI [] l)] none false (dB (smallF l)) ∧ (True ∧ (!(smallF l)) = false) ∧ True ∧ True ∧ True ∧ callOb Try.prog 24 [] [(dL 1 encLI [] m)] none false (dB (smallF m)) ∧ (True ∧ (!(smallF m)) = false) ∧ True ∧ True) (by kernel_rfl)
      ⟨trivial, trivial, ⟨trivial, (by simp; omega)⟩, trivial, trivial, (small_ok _ (by first | assumption | exact hS.recs | exact hM.recs | exact hRb | (rw [hrw]; exact hRb))), ⟨trivial, (by rw [hsl]; rfl)⟩, trivial, trivial, trivial, (small_ok _ (by first | assumption | exact hS.recs | exact hM.recs | exact hRb | (rw [hrw]; exact hRb))), ⟨trivial, (by rw [hsm]; rfl)⟩, trivial, trivial⟩ ?_
    refine Ev.cond false rfl (fun h => (by cases h)) (fun _ => ?_)
    refine Ev.skip ?_
    refine Ev.seq ?_
    have hS : SmallOk l := smallF_ok hsl hi
    have hM : SmallOk m := smallF_ok hsm him
    have hrw := read_whole hb8
    have hrl := read_len hb8
    have hrk := read_good hb8
    have hwe := whole_eq hb8
    have hW8 : Bytes8 (wholeF b) := by rw [hwe]; exact encs_8 _ _
    have hlr : lenR (readF b 0).1 ≤ 2000 := by rw [← encs_len _ 0, ← hwe]; omega
    have hRb : RecsOk (readF b 0).1 := recs_of_len (by omega)
    have hag : (jr (readF (wholeF b) 0).1 (readF (wholeF b) 0).1.length) = wholeF b := by rw [hrw, jr_all hrk (by omega), hwe]
    refine Ev.reg [(1, .call none true (dL 1 (encI .u8) 0 (wholeF b)))] [0, 1, 2, 7, 8] (st' := ⟨[(0, (dL 1 (encI .u8) 0 b)), (1, (dL 1 encLI [] l)), (2, (dL 1 encLI [] m)), (7, (dB true)), (8, (dL 1 (encI .u8) 0 (wholeF b)))], []⟩)
      (p := True ∧ callOb Try.prog 32 [] [(dL 1 (encI .u8) 0 b)] none true (dL 1 (encI .u8) 0 (wholeF b)) ∧ True ∧ True) (by kernel_rfl)
      ⟨trivial, (whole_ok _ (by first | exact hb8 | exact hW8 | exact jr_8 _ _ | assumption) (by first | omega | (simp; first | done | omega) | (simp only [List.length_take, List.length_drop, List.length_set]; omega))), trivial, trivial⟩ ?_
    refine Ev.seq ?_
    refine Ev.reg [(1, .call none true (.agg [(dL 1 encLI [] ((readF (wholeF b) 0).1)), (dL 1 (encI .u8) 0 ((readF (wholeF b) 0).2.1)), (dI .i64 (tornF (wholeF b))), (dI .i64 0), (dI .u64 0)])), (3, .call none true (.agg [(dL 1 encLI [] ((readF b 0).1)), (dL 1 (encI .u8) 0 ((readF b 0).2.1)), (dI .i64 (tornF b)), (dI .i64 0), (dI .u64 0)]))] [0, 1, 2, 7, 8, 9, 10] (st' := ⟨[(0, (dL 1 (encI .u8) 0 b)), (1, (dL 1 encLI [] l)), (2, (dL 1 encLI [] m)), (7, (dB true)), (8, (dL 1 (encI .u8) 0 (wholeF b))), (9, (.ptr 0 0 0 0)), (10, (.ptr 1 0 0 0))], [(.var 55 [(dL 1 encLI [] ((readF (wholeF b) 0).1)), (dL 1 (encI .u8) 0 ((readF (wholeF b) 0).2.1)), (dI .i64 (tornF (wholeF b))), (dI .i64 0), (dI .u64 0)]), (.var 55 [(dL 1 encLI [] ((readF b 0).1)), (dL 1 (encI .u8) 0 ((readF b 0).2.1)), (dI .i64 (tornF b)), (dI .i64 0), (dI .u64 0)])]⟩)
      (p := True ∧ callOb Try.prog 26 [] [(dL 1 (encI .u8) 0 (wholeF b))] none true (.agg [(dL 1 encLI [] ((readF (wholeF b) 0).1)), (dL 1 (encI .u8) 0 ((readF (wholeF b) 0).2.1)), (dI .i64 (tornF (wholeF b))), (dI .i64 0), (dI .u64 0)]) ∧ True ∧ callOb Try.prog 26 [] [(dL 1 (encI .u8) 0 b)] none true (.agg [(dL 1 encLI [] ((readF b 0).1)), (dL 1 (encI .u8) 0 ((readF b 0).2.1)), (dI .i64 (tornF b)), (dI .i64 0), (dI .u64 0)]) ∧ True ∧ True ∧ True ∧ True ∧ True) (by kernel_rfl)
      ⟨trivial, (lread_ok _ (by first | exact hb8 | exact hW8 | exact jr_8 _ _ | assumption) (by first | omega | (simp; first | done | omega) | (simp only [List.length_take, List.length_drop, List.length_set]; omega))), trivial, (lread_ok _ (by first | exact hb8 | exact hW8 | exact jr_8 _ _ | assumption) (by first | omega | (simp; first | done | omega) | (simp only [List.length_take, List.length_drop, List.length_set]; omega))), trivial, trivial, trivial, trivial, trivial⟩ ?_
    refine Ev.seq ?_
    refine Ev.reg [(2, .call none true (.tup [(dL 1 (encI .u8) 0 (jr ((readF (wholeF b) 0).1) ((readF (wholeF b) 0).1).length)), (dL 1 (encI .i64) 0 (endsF ((readF (wholeF b) 0).1) ((readF (wholeF b) 0).1).length))]))] [0, 1, 2, 7, 8, 9, 10, 11] (st' := ⟨[(0, (dL 1 (encI .u8) 0 b)), (1, (dL 1 encLI [] l)), (2, (dL 1 encLI [] m)), (7, (dB true)), (8, (dL 1 (encI .u8) 0 (wholeF b))), (9, (.ptr 0 0 0 0)), (10, (.ptr 1 0 0 0)), (11, (dL 1 (encI .u8) 0 (jr ((readF (wholeF b) 0).1) ((readF (wholeF b) 0).1).length)))], [(.var 55 [(dL 1 encLI [] ((readF (wholeF b) 0).1)), (dL 1 (encI .u8) 0 ((readF (wholeF b) 0).2.1)), (dI .i64 (tornF (wholeF b))), (dI .i64 0), (dI .u64 0)]), (.var 55 [(dL 1 encLI [] ((readF b 0).1)), (dL 1 (encI .u8) 0 ((readF b 0).2.1)), (dI .i64 (tornF b)), (dI .i64 0), (dI .u64 0)])]⟩)
      (p := True ∧ True ∧ callOb Try.prog 36 [(.var 55 [(dL 1 encLI [] ((readF (wholeF b) 0).1)), (dL 1 (encI .u8) 0 ((readF (wholeF b) 0).2.1)), (dI .i64 (tornF (wholeF b))), (dI .i64 0), (dI .u64 0)]), (.var 55 [(dL 1 encLI [] ((readF b 0).1)), (dL 1 (encI .u8) 0 ((readF b 0).2.1)), (dI .i64 (tornF b)), (dI .i64 0), (dI .u64 0)])] [(dL 1 encLI [] ((readF (wholeF b) 0).1))] none true (.tup [(dL 1 (encI .u8) 0 (jr ((readF (wholeF b) 0).1) ((readF (wholeF b) 0).1).length)), (dL 1 (encI .i64) 0 (endsF ((readF (wholeF b) 0).1) ((readF (wholeF b) 0).1).length))]) ∧ True ∧ True ∧ True ∧ True ∧ True ∧ True) (by kernel_rfl)
      ⟨trivial, trivial, (made_ok _ (by first | assumption | exact hS.recs | exact hM.recs | exact hRb | (rw [hrw]; exact hRb))), trivial, trivial, trivial, trivial, trivial, trivial⟩ ?_
    refine Ev.seq ?_
    refine Ev.seq ?_
    refine Ev.reg [(2, .val (dB false)), (7, .val (dB false)), (12, .call none false (dB (decide ((jr ((readF (wholeF b) 0).1) ((readF (wholeF b) 0).1).length) = (wholeF b))))), (13, .val (dB false)), (20, .call none false (dB (decide ((readF b 0).1 = (readF (wholeF b) 0).1)))), (21, .val (dB false)), (29, .val (dI .i64 ((((wholeF b).length) + (((readF b 0).2.1).length) : Nat) : Int))), (32, .val (dB false)), (42, .val (dB false))] [1, 2, 7, 89] (st' := ⟨[(1, (dL 1 encLI [] l)), (2, (dL 1 encLI [] m)), (7, (dB true)), (89, (dB false))], [(.var 55 [(dL 1 encLI [] ((readF (wholeF b) 0).1)), (dL 1 (encI .u8) 0 ((readF (wholeF b) 0).2.1)), (dI .i64 (tornF (wholeF b))), (dI .i64 0), (dI .u64 0)]), (.var 55 [(dL 1 encLI [] ((readF b 0).1)), (dL 1 (encI .u8) 0 ((readF b 0).2.1)), (dI .i64 (tornF b)), (dI .i64 0), (dI .u64 0)])]⟩)
      (p := True ∧ True ∧ (True ∧ ((tornF (wholeF b)) != 0) = false) ∧ True ∧ True ∧ True ∧ True ∧ (True ∧ (((((readF (wholeF b) 0).2.1).length : Nat) : Int) != 0) = false) ∧ True ∧ True ∧ True ∧ True ∧ callOb Try.prog 31 [(.var 55 [(dL 1 encLI [] ((readF (wholeF b) 0).1)), (dL 1 (encI .u8) 0 ((readF (wholeF b) 0).2.1)), (dI .i64 (tornF (wholeF b))), (dI .i64 0), (dI .u64 0)]), (.var 55 [(dL 1 encLI [] ((readF b 0).1)), (dL 1 (encI .u8) 0 ((readF b 0).2.1)), (dI .i64 (tornF b)), (dI .i64 0), (dI .u64 0)])] [(dL 1 (encI .u8) 0 (jr ((readF (wholeF b) 0).1) ((readF (wholeF b) 0).1).length)), (dL 1 (encI .u8) 0 (wholeF b))] none false (dB (decide ((jr ((readF (wholeF b) 0).1) ((readF (wholeF b) 0).1).length) = (wholeF b)))) ∧ (True ∧ (!(decide ((jr ((readF (wholeF b) 0).1) ((readF (wholeF b) 0).1).length) = (wholeF b)))) = false) ∧ True ∧ True ∧ True ∧ True ∧ True ∧ True ∧ callOb Try.prog 30 [(.var 55 [(dL 1 encLI [] ((readF (wholeF b) 0).1)), (dL 1 (encI .u8) 0 ((readF (wholeF b) 0).2.1)), (dI .i64 (tornF (wholeF b))), (dI .i64 0), (dI .u64 0)]), (.var 55 [(dL 1 encLI [] ((readF b 0).1)), (dL 1 (encI .u8) 0 ((readF b 0).2.1)), (dI .i64 (tornF b)), (dI .i64 0), (dI .u64 0)])] [(dL 1 encLI [] ((readF b 0).1)), (dL 1 encLI [] ((readF (wholeF b) 0).1))] none false (dB (decide ((readF b 0).1 = (readF (wholeF b) 0).1))) ∧ (True ∧ (!(decide ((readF b 0).1 = (readF (wholeF b) 0).1))) = false) ∧ True ∧ True ∧ True ∧ True ∧ True ∧ True ∧ True ∧ (True ∧ (IntKind.wrap .i64 ((((wholeF b).length : Nat) : Int) + ((((readF b 0).2.1).length : Nat) : Int))) = ((((wholeF b).length) + (((readF b 0).2.1).length) : Nat) : Int)) ∧ True ∧ True ∧ (True ∧ (((((wholeF b).length) + (((readF b 0).2.1).length) : Nat) : Int) != ((b.length : Nat) : Int)) = false) ∧ True ∧ True ∧ True ∧ True ∧ True ∧ True ∧ True ∧ True ∧ True ∧ (True ∧ (!(((tornF b) == 0) == (((((readF b 0).2.1).length : Nat) : Int) == 0))) = false) ∧ True ∧ True) (by kernel_rfl)
      ⟨trivial, trivial, ⟨trivial, (by rw [torn_no (by rw [hrw]; rfl)]; rfl)⟩, trivial, trivial, trivial, trivial, ⟨trivial, (by rw [hrw]; rfl)⟩, trivial, trivial, trivial, trivial, (sameB_ok _ _ (by first | omega | (have := jr_len l l.length; omega) | (have := jr_len m m.length; omega) | (rw [hag]; omega)) (by first | omega | (have := jr_len l l.length; omega) | (have := jr_len m m.length; omega) | (rw [hag]; omega))), ⟨trivial, (by rw [hag]; simp)⟩, trivial, trivial, trivial, trivial, trivial, trivial, (records_ok _ _ (by first | assumption | exact hS.recs | exact hM.recs | exact hRb | (rw [hrw]; exact hRb)) (by first | assumption | exact hS.recs | exact hM.recs | exact hRb | (rw [hrw]; exact hRb))), ⟨trivial, (by rw [hrw]; simp)⟩, trivial, trivial, trivial, trivial, trivial, trivial, trivial, ⟨trivial, (w64n (by first | rfl | simp | omega) (by first | omega | (simp; first | done | omega) | (simp only [List.length_take, List.length_drop, List.length_set]; omega)))⟩, trivial, trivial, ⟨trivial, (by simp; omega)⟩, trivial, trivial, trivial, trivial, trivial, trivial, trivial, trivial, trivial, ⟨trivial, (by exact torn_zero b)⟩, trivial, trivial⟩ ?_
    refine Ev.cond false rfl (fun h => (by cases h)) (fun _ => ?_)
    refine Ev.skip ?_
    refine Ev.seq ?_
    refine Ev.reg [(1, .call none true (.tup [(dL 1 (encI .u8) 0 (jr l l.length)), (dL 1 (encI .i64) 0 (endsF l l.length))]))] [1, 2, 7, 13] (st' := ⟨[(1, (dL 1 encLI [] l)), (2, (dL 1 encLI [] m)), (7, (dB true)), (13, (dL 1 (encI .u8) 0 (jr l l.length)))], [(.var 55 [(dL 1 encLI [] ((readF (wholeF b) 0).1)), (dL 1 (encI .u8) 0 ((readF (wholeF b) 0).2.1)), (dI .i64 (tornF (wholeF b))), (dI .i64 0), (dI .u64 0)]), (.var 55 [(dL 1 encLI [] ((readF b 0).1)), (dL 1 (encI .u8) 0 ((readF b 0).2.1)), (dI .i64 (tornF b)), (dI .i64 0), (dI .u64 0)])]⟩)
      (p := True ∧ callOb Try.prog 36 [(.var 55 [(dL 1 encLI [] ((readF (wholeF b) 0).1)), (dL 1 (encI .u8) 0 ((readF (wholeF b) 0).2.1)), (dI .i64 (tornF (wholeF b))), (dI .i64 0), (dI .u64 0)]), (.var 55 [(dL 1 encLI [] ((readF b 0).1)), (dL 1 (encI .u8) 0 ((readF b 0).2.1)), (dI .i64 (tornF b)), (dI .i64 0), (dI .u64 0)])] [(dL 1 encLI [] l)] none true (.tup [(dL 1 (encI .u8) 0 (jr l l.length)), (dL 1 (encI .i64) 0 (endsF l l.length))]) ∧ True ∧ True ∧ True ∧ True ∧ True ∧ True) (by kernel_rfl)
      ⟨trivial, (made_ok _ (by first | assumption | exact hS.recs | exact hM.recs | exact hRb | (rw [hrw]; exact hRb))), trivial, trivial, trivial, trivial, trivial, trivial⟩ ?_
    refine Ev.seq ?_
    refine Ev.reg [(1, .call none true (.tup [(dL 1 (encI .u8) 0 (jr m m.length)), (dL 1 (encI .i64) 0 (endsF m m.length))]))] [1, 2, 7, 13, 15] (st' := ⟨[(1, (dL 1 encLI [] l)), (2, (dL 1 encLI [] m)), (7, (dB true)), (13, (dL 1 (encI .u8) 0 (jr l l.length))), (15, (dL 1 (encI .u8) 0 (jr m m.length)))], [(.var 55 [(dL 1 encLI [] ((readF (wholeF b) 0).1)), (dL 1 (encI .u8) 0 ((readF (wholeF b) 0).2.1)), (dI .i64 (tornF (wholeF b))), (dI .i64 0), (dI .u64 0)]), (.var 55 [(dL 1 encLI [] ((readF b 0).1)), (dL 1 (encI .u8) 0 ((readF b 0).2.1)), (dI .i64 (tornF b)), (dI .i64 0), (dI .u64 0)])]⟩)
      (p := True ∧ callOb Try.prog 36 [(.var 55 [(dL 1 encLI [] ((readF (wholeF b) 0).1)), (dL 1 (encI .u8) 0 ((readF (wholeF b) 0).2.1)), (dI .i64 (tornF (wholeF b))), (dI .i64 0), (dI .u64 0)]), (.var 55 [(dL 1 encLI [] ((readF b 0).1)), (dL 1 (encI .u8) 0 ((readF b 0).2.1)), (dI .i64 (tornF b)), (dI .i64 0), (dI .u64 0)])] [(dL 1 encLI [] m)] none true (.tup [(dL 1 (encI .u8) 0 (jr m m.length)), (dL 1 (encI .i64) 0 (endsF m m.length))]) ∧ True ∧ True ∧ True ∧ True ∧ True ∧ True) (by kernel_rfl)
      ⟨trivial, (made_ok _ (by first | assumption | exact hS.recs | exact hM.recs | exact hRb | (rw [hrw]; exact hRb))), trivial, trivial, trivial, trivial, trivial, trivial⟩ ?_
    refine Ev.seq ?_
    refine Ev.reg [(2, .call none false (dB (decide ((jr l l.length) = (jr m m.length))))), (5, .call none false (dB (decide (l = m)))), (6, .val (dB true))] [6] (st' := ⟨[(6, (dB true))], [(.var 55 [(dL 1 encLI [] ((readF (wholeF b) 0).1)), (dL 1 (encI .u8) 0 ((readF (wholeF b) 0).2.1)), (dI .i64 (tornF (wholeF b))), (dI .i64 0), (dI .u64 0)]), (.var 55 [(dL 1 encLI [] ((readF b 0).1)), (dL 1 (encI .u8) 0 ((readF b 0).2.1)), (dI .i64 (tornF b)), (dI .i64 0), (dI .u64 0)])]⟩)
      (p := True ∧ True ∧ callOb Try.prog 31 [(.var 55 [(dL 1 encLI [] ((readF (wholeF b) 0).1)), (dL 1 (encI .u8) 0 ((readF (wholeF b) 0).2.1)), (dI .i64 (tornF (wholeF b))), (dI .i64 0), (dI .u64 0)]), (.var 55 [(dL 1 encLI [] ((readF b 0).1)), (dL 1 (encI .u8) 0 ((readF b 0).2.1)), (dI .i64 (tornF b)), (dI .i64 0), (dI .u64 0)])] [(dL 1 (encI .u8) 0 (jr l l.length)), (dL 1 (encI .u8) 0 (jr m m.length))] none false (dB (decide ((jr l l.length) = (jr m m.length)))) ∧ True ∧ True ∧ callOb Try.prog 30 [(.var 55 [(dL 1 encLI [] ((readF (wholeF b) 0).1)), (dL 1 (encI .u8) 0 ((readF (wholeF b) 0).2.1)), (dI .i64 (tornF (wholeF b))), (dI .i64 0), (dI .u64 0)]), (.var 55 [(dL 1 encLI [] ((readF b 0).1)), (dL 1 (encI .u8) 0 ((readF b 0).2.1)), (dI .i64 (tornF b)), (dI .i64 0), (dI .u64 0)])] [(dL 1 encLI [] l), (dL 1 encLI [] m)] none false (dB (decide (l = m))) ∧ (True ∧ ((decide ((jr l l.length) = (jr m m.length))) == (decide (l = m))) = true) ∧ True ∧ True ∧ True ∧ True ∧ True) (by kernel_rfl)
      ⟨trivial, trivial, (sameB_ok _ _ (by first | omega | (have := jr_len l l.length; omega) | (have := jr_len m m.length; omega) | (rw [hag]; omega)) (by first | omega | (have := jr_len l l.length; omega) | (have := jr_len m m.length; omega) | (rw [hag]; omega))), trivial, trivial, (records_ok _ _ (by first | assumption | exact hS.recs | exact hM.recs | exact hRb | (rw [hrw]; exact hRb)) (by first | assumption | exact hS.recs | exact hM.recs | exact hRb | (rw [hrw]; exact hRb))), ⟨trivial, (by simp only [jr_inj hS hM, beq_self_eq_true])⟩, trivial, trivial, trivial, trivial, trivial⟩ ?_
    refine Ev.ret ?_
    refine ⟨⟨trivial, trivial⟩, (?_ : true = true), .inr trivial⟩
    rfl

end Go.Proofs.Ytjmfaebimgnblaa
