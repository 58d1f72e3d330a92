/-
  JournalRecords.
-/
import Derived.Test.YtjmfaebimgnblaaJouG
import Derived.Test.YtjmfaebimgnblaaJouL
namespace Go.Proofs.Ytjmfaebimgnblaa
open Go.RowKit
set_option linter.unusedVariables false
set_option linter.unusedSimpArgs false

set_option maxRecDepth 100000 in
theorem records_law (l : List (List Int)) (n : Nat) (hl : RecsBig l) (hi : ∀ r ∈ l, Ints64 r) (hn : n ≤ 65535) : CallOk Try.prog 8 [(dL 1 encLI [] l), (dI .u16 ((n : Nat) : Int))] [] false (dB true) [] := by
  refine CallOk.of_ev Try.func8 rfl rfl rfl ?_
  rintro ⟨_, W, S0, _, susp, _⟩ rfl rfl rfl
  refine Ev.seq ?_
  refine Ev.reg [] [0, 1] (st' := ⟨[(0, (dL 1 encLI [] l)), (1, (dI .u16 ((n : Nat) : Int)))], []⟩)
    (p := True ∧ True) (by kernel_rfl)
    ⟨trivial, trivial⟩ ?_
  refine Ev.seq ?_
  refine Ev.reg [(0, .call none false (dB true))] [0, 1, 5] (st' := ⟨[(0, (dL 1 encLI [] l)), (1, (dI .u16 ((n : Nat) : Int))), (5, (dB true))], []⟩)
    (p := callOb Try.prog 23 [] [] none false (dB true) ∧ True ∧ True) (by kernel_rfl)
    ⟨examples_ok, trivial, trivial⟩ ?_
  refine Ev.seq ?_
  refine Ev.seq ?_
  refine Ev.reg [] [0, 1, 5, 14] (st' := ⟨[(0, (dL 1 encLI [] l)), (1, (dI .u16 ((n : Nat) : Int))), (5, (dB true)), (14, (dB false))], []⟩)
    (p := True ∧ True ∧ True) (by kernel_rfl)
    ⟨trivial, trivial, trivial⟩ ?_
  refine Ev.cond false rfl (fun h => (by cases h)) (fun _ => ?_)
  refine Ev.skip ?_
  refine Ev.seq ?_
  refine Ev.seq ?_
  refine Ev.reg [(1, .call none false (dB (smallF l)))] [0, 1, 5, 17] (st' := ⟨[(0, (dL 1 encLI [] l)), (1, (dI .u16 ((n : Nat) : Int))), (5, (dB true)), (17, (dB (!(smallF l))))], []⟩)
    (p := True ∧ callOb Try.prog 24 [] [(dL 1 encLI [] l)] none false (dB (smallF l)) ∧ True ∧ True) (by kernel_rfl)
    ⟨trivial, (small_ok _ (by first | assumption | exact hS.recs | (rw [hrd]; exact hS.recs))), trivial, trivial⟩ ?_
  refine Ev.cond _ rfl (fun hc17 => ?_) (fun hc17 => ?_)
  · simp only [decide_eq_true_eq, decide_eq_false_iff_not, beq_iff_eq, bne_iff_ne, ne_eq, beq_eq_false_iff_ne, bne_eq_false_iff_eq, Bool.not_eq_true, Bool.not_eq_false, Bool.not_eq_true', Bool.not_eq_false', Bool.not_not, gt_iff_lt, ge_iff_le, Nat.not_lt, Int.not_lt, Int.not_le] at hc17
    refine Ev.seq ?_
    refine Ev.reg [] [4] (st' := ⟨[(4, (dB true))], []⟩)
      (p := True ∧ True ∧ True) (by kernel_rfl)
      ⟨trivial, trivial, trivial⟩ ?_
    refine Ev.ret ?_
    refine ⟨⟨trivial, trivial⟩, (?_ : true = true), .inr trivial⟩
    rfl
  · simp only [decide_eq_true_eq, decide_eq_false_iff_not, beq_iff_eq, bne_iff_ne, ne_eq, beq_eq_false_iff_ne, bne_eq_false_iff_eq, Bool.not_eq_true, Bool.not_eq_false, Bool.not_eq_true', Bool.not_eq_false', Bool.not_not, gt_iff_lt, ge_iff_le, Nat.not_lt, Int.not_lt, Int.not_le] at hc17
    refine Ev.skip ?_
    refine Ev.seq ?_
    have hS : SmallOk l := smallF_ok (by simpa using hc17) hi
    have hAll := hS.all
    have hLR := hS.lenR
    have hl12 := hS.len
    have hJ := jr_all hAll (by omega)
    have hjl := jr_length hAll (by omega) (Nat.le_refl l.length)
    rw [List.take_length] at hjl
    have hrd := read_jr hAll (by omega)
    have hends := endsF_len l l.length
    have hwl : (wholeF (jr l l.length)).length ≤ 1440 := by rw [wholeF, List.length_take]; omega
    refine Ev.reg [(1, .call none true (.tup [(dL 1 (encI .u8) 0 (jr l l.length)), (dL 1 (encI .i64) 0 (endsF l l.length))]))] [0, 1, 5, 6, 7] (st' := ⟨[(0, (dL 1 encLI [] l)), (1, (dI .u16 ((n : Nat) : Int))), (5, (dB true)), (6, (dL 1 (encI .u8) 0 (jr l l.length))), (7, (dL 1 (encI .i64) 0 (endsF l l.length)))], []⟩)
      (p := True ∧ callOb Try.prog 36 [] [(dL 1 encLI [] l)] none true (.tup [(dL 1 (encI .u8) 0 (jr l l.length)), (dL 1 (encI .i64) 0 (endsF l l.length))]) ∧ True ∧ True ∧ True ∧ True ∧ True ∧ True) (by kernel_rfl)
      ⟨trivial, (made_ok _ (by first | assumption | exact hS.recs | (rw [hrd]; exact hS.recs))), trivial, trivial, trivial, trivial, trivial, trivial⟩ ?_
    refine Ev.seq ?_
    refine Ev.reg [] [0, 1, 5, 6, 7, 8] (st' := ⟨[(0, (dL 1 encLI [] l)), (1, (dI .u16 ((n : Nat) : Int))), (5, (dB true)), (6, (dL 1 (encI .u8) 0 (jr l l.length))), (7, (dL 1 (encI .i64) 0 (endsF l l.length))), (8, (dI .i64 0))], []⟩)
      (p := True ∧ True) (by kernel_rfl)
      ⟨trivial, trivial⟩ ?_
    refine Ev.seq ?_
    refine Ev.seq ?_
    refine Ev.reg [] [0, 1, 5, 6, 7, 8, 9] (st' := ⟨[(0, (dL 1 encLI [] l)), (1, (dI .u16 ((n : Nat) : Int))), (5, (dB true)), (6, (dL 1 (encI .u8) 0 (jr l l.length))), (7, (dL 1 (encI .i64) 0 (endsF l l.length))), (8, (dI .i64 0)), (9, (dI .i64 0))], []⟩)
      (p := True ∧ True) (by kernel_rfl)
      ⟨trivial, trivial⟩ ?_
    refine Ev.block ?_
    refine Ev.loop [0, 1, 5, 6, 7, 8, 9] 0 (fun (i : Nat) => ⟨[(0, (dL 1 encLI [] l)), (1, (dI .u16 ((n : Nat) : Int))), (5, (dB true)), (6, (dL 1 (encI .u8) 0 (jr l l.length))), (7, (dL 1 (encI .i64) 0 (endsF l l.length))), (8, (dI .i64 ((lenR (l.take i) : Nat) : Int))), (9, (dI .i64 ((i : Nat) : Int)))], []⟩) (fun (i : Nat) => i ≤ l.length) (fun (i : Nat) => l.length - i) 0 (by kernel_rfl) (by omega) ?_
    rintro i hinv
    have hinv : i ≤ l.length := hinv
    have hk := hinv
    have hti := lenR_take_le l i
    refine Ev.seq ?_
    refine Ev.seq ?_
    refine Ev.reg [] [0, 1, 5, 6, 7, 8, 9, 27] (st' := ⟨[(0, (dL 1 encLI [] l)), (1, (dI .u16 ((n : Nat) : Int))), (5, (dB true)), (6, (dL 1 (encI .u8) 0 (jr l l.length))), (7, (dL 1 (encI .i64) 0 (endsF l l.length))), (8, (dI .i64 ((lenR (l.take i) : Nat) : Int))), (9, (dI .i64 ((i : Nat) : Int))), (27, (dB (decide (((i : Nat) : Int) < ((l.length : Nat) : Int)))))], []⟩)
      (p := True ∧ True ∧ True ∧ True ∧ True) (by kernel_rfl)
      ⟨trivial, trivial, trivial, trivial, trivial⟩ ?_
    refine Ev.cond _ rfl (fun hc27 => ?_) (fun hc27 => ?_)
    · simp only [decide_eq_true_eq, decide_eq_false_iff_not, beq_iff_eq, bne_iff_ne, ne_eq, beq_eq_false_iff_ne, bne_eq_false_iff_eq, Bool.not_eq_true, Bool.not_eq_false, Bool.not_eq_true', Bool.not_eq_false', Bool.not_not, gt_iff_lt, ge_iff_le, Nat.not_lt, Int.not_lt, Int.not_le] at hc27
      refine Ev.skip ?_
      refine Ev.seq ?_
      refine Ev.block ?_
      refine Ev.seq ?_
      refine Ev.reg [(6, .val (dI .i64 ((8 * ((l.getD i []).length) : Nat) : Int))), (7, .val (dI .i64 ((24 + (8 * ((l.getD i []).length)) : Nat) : Int))), (8, .val (dI .i64 ((lenR (l.take (i + 1)) : Nat) : Int)))] [0, 1, 5, 6, 7, 8, 9] (st' := ⟨[(0, (dL 1 encLI [] l)), (1, (dI .u16 ((n : Nat) : Int))), (5, (dB true)), (6, (dL 1 (encI .u8) 0 (jr l l.length))), (7, (dL 1 (encI .i64) 0 (endsF l l.length))), (8, (dI .i64 ((lenR (l.take (i + 1)) : Nat) : Int))), (9, (dI .i64 ((i : Nat) : Int)))], []⟩)
        (p := True ∧ True ∧ True ∧ (0 ≤ ((i : Nat) : Int) ∧ ((i : Nat) : Int) < (l.length : Int)) ∧ True ∧ True ∧ (True ∧ (IntKind.wrap .i64 (8 * (((l.getD i []).length : Nat) : Int))) = ((8 * ((l.getD i []).length) : Nat) : Int)) ∧ (True ∧ (IntKind.wrap .i64 (24 + ((8 * ((l.getD i []).length) : Nat) : Int))) = ((24 + (8 * ((l.getD i []).length)) : Nat) : Int)) ∧ (True ∧ (IntKind.wrap .i64 (((lenR (l.take i) : Nat) : Int) + ((24 + (8 * ((l.getD i []).length)) : Nat) : Int))) = ((lenR (l.take (i + 1)) : Nat) : Int)) ∧ True ∧ True) (by kernel_rfl)
        ⟨trivial, trivial, trivial, (by first | omega | (simp; first | done | omega) | (rw [hjl]; omega) | (have := hS.recs.getD i; omega)), trivial, trivial, ⟨trivial, (w64n (by first | rfl | simp | omega) (by first | omega | (simp; first | done | omega) | (rw [hjl]; omega) | (have := hS.recs.getD i; omega)))⟩, ⟨trivial, (w64n (by first | rfl | simp | omega) (by first | omega | (simp; first | done | omega) | (rw [hjl]; omega) | (have := hS.recs.getD i; omega)))⟩, ⟨trivial, (w64n (by rw [lenR_take_succ (by omega)]; omega) (by have := lenR_take_le l (i + 1); omega))⟩, trivial, trivial⟩ ?_
      refine Ev.seq ?_
      refine Ev.reg [(5, .val (dB false))] [0, 1, 5, 6, 7, 8, 9, 44] (st' := ⟨[(0, (dL 1 encLI [] l)), (1, (dI .u16 ((n : Nat) : Int))), (5, (dB true)), (6, (dL 1 (encI .u8) 0 (jr l l.length))), (7, (dL 1 (encI .i64) 0 (endsF l l.length))), (8, (dI .i64 ((lenR (l.take (i + 1)) : Nat) : Int))), (9, (dI .i64 ((i : Nat) : Int))), (44, (dB false))], []⟩)
        (p := True ∧ True ∧ (0 ≤ ((i : Nat) : Int) ∧ ((i : Nat) : Int) < ((endsF l l.length).length : Int)) ∧ True ∧ True ∧ (True ∧ (((endsF l l.length).getD i 0) != ((lenR (l.take (i + 1)) : Nat) : Int)) = false) ∧ True) (by kernel_rfl)
        ⟨trivial, trivial, (by first | omega | (simp; first | done | omega) | (rw [hjl]; omega) | (have := hS.recs.getD i; omega)), trivial, trivial, ⟨trivial, (by rw [endsF_get l l.length i (by omega), jr_length hAll (by omega) (by omega)]; simp)⟩, trivial⟩ ?_
      refine Ev.cond false rfl (fun h => (by cases h)) (fun _ => ?_)
      refine Ev.skip ?_
      refine Ev.reg [(1, .val (dI .i64 ((i + 1 : Nat) : Int)))] [0, 1, 5, 6, 7, 8, 9] (st' := ⟨[(0, (dL 1 encLI [] l)), (1, (dI .u16 ((n : Nat) : Int))), (5, (dB true)), (6, (dL 1 (encI .u8) 0 (jr l l.length))), (7, (dL 1 (encI .i64) 0 (endsF l l.length))), (8, (dI .i64 ((lenR (l.take (i + 1)) : Nat) : Int))), (9, (dI .i64 ((i + 1 : Nat) : Int)))], []⟩)
        (p := True ∧ (True ∧ (IntKind.wrap .i64 (((i : Nat) : Int) + 1)) = ((i + 1 : Nat) : Int)) ∧ True ∧ True) (by kernel_rfl)
        ⟨trivial, ⟨trivial, (w64n (by first | rfl | simp | omega) (by first | omega | (simp; first | done | omega) | (rw [hjl]; omega) | (have := hS.recs.getD i; omega)))⟩, trivial, trivial⟩ ?_
      refine ⟨i + 1, by kernel_rfl, (?_ : (i + 1) ≤ l.length), (?_ : l.length - (i + 1) < l.length - i)⟩
      · omega
      · omega
    · simp only [decide_eq_true_eq, decide_eq_false_iff_not, beq_iff_eq, bne_iff_ne, ne_eq, beq_eq_false_iff_ne, bne_eq_false_iff_eq, Bool.not_eq_true, Bool.not_eq_false, Bool.not_eq_true', Bool.not_eq_false', Bool.not_not, gt_iff_lt, ge_iff_le, Nat.not_lt, Int.not_lt, Int.not_le] at hc27
      refine Ev.exit ?_
      refine Ev.seq ?_
      have hil : i = l.length := by omega
      have hti2 : lenR (l.take i) = lenR l := by rw [hil, List.take_length]
      refine Ev.reg [(1, .call none true (.agg [(dL 1 encLI [] ((readF (jr l l.length) 0).1)), (dL 1 (encI .u8) 0 ((readF (jr l l.length) 0).2.1)), (dI .i64 (tornF (jr l l.length))), (dI .i64 0), (dI .u64 0)]))] [0, 1, 5, 6, 8, 10] (st' := ⟨[(0, (dL 1 encLI [] l)), (1, (dI .u16 ((n : Nat) : Int))), (5, (dB true)), (6, (dL 1 (encI .u8) 0 (jr l l.length))), (8, (dI .i64 ((lenR (l.take i) : Nat) : Int))), (10, (.ptr 0 0 0 0))], [(.var 55 [(dL 1 encLI [] ((readF (jr l l.length) 0).1)), (dL 1 (encI .u8) 0 ((readF (jr l l.length) 0).2.1)), (dI .i64 (tornF (jr l l.length))), (dI .i64 0), (dI .u64 0)])]⟩)
        (p := True ∧ callOb Try.prog 26 [] [(dL 1 (encI .u8) 0 (jr l l.length))] none true (.agg [(dL 1 encLI [] ((readF (jr l l.length) 0).1)), (dL 1 (encI .u8) 0 ((readF (jr l l.length) 0).2.1)), (dI .i64 (tornF (jr l l.length))), (dI .i64 0), (dI .u64 0)]) ∧ True ∧ True ∧ True) (by kernel_rfl)
        ⟨trivial, (lread_ok _ (by first | exact jr_8 _ _ | exact Bytes8.take (jr_8 _ _) _ | assumption) (by first | omega | (simp; first | done | omega) | (rw [hjl]; omega) | (have := hS.recs.getD i; omega))), trivial, trivial, trivial⟩ ?_
      refine Ev.seq ?_
      refine Ev.reg [(2, .val (dI .u16 ((n % 600 : Nat) : Int))), (3, .val (dI .i64 ((n % 600 : Nat) : Int))), (4, .frz 3 1 (encI .i64) 0 (List.replicate (n % 600) (0 : Int))), (5, .call none true (.agg [(dL 1 (encI .u8) 0 (jputJ (jr l l.length) (List.replicate (n % 600) (0 : Int)))), (dI .i64 (jputE (jr l l.length) (List.replicate (n % 600) (0 : Int))))]))] [0, 1, 5, 6, 8, 10, 11] (st' := ⟨[(0, (dL 1 encLI [] l)), (1, (dI .u16 ((n : Nat) : Int))), (5, (dB true)), (6, (dL 1 (encI .u8) 0 (jr l l.length))), (8, (dI .i64 ((lenR (l.take i) : Nat) : Int))), (10, (.ptr 0 0 0 0)), (11, (.ptr 2 0 0 0))], [(.var 55 [(dL 1 encLI [] ((readF (jr l l.length) 0).1)), (dL 1 (encI .u8) 0 ((readF (jr l l.length) 0).2.1)), (dI .i64 (tornF (jr l l.length))), (dI .i64 0), (dI .u64 0)]), .dead, (.var 58 [(dL 1 (encI .u8) 0 (jputJ (jr l l.length) (List.replicate (n % 600) (0 : Int)))), (dI .i64 (jputE (jr l l.length) (List.replicate (n % 600) (0 : Int))))])]⟩)
        (p := True ∧ True ∧ ((600 : Int) ≠ 0 ∧ (Int.tmod ((n : Nat) : Int) 600) = ((n % 600 : Nat) : Int)) ∧ (True ∧ (IntKind.wrap .i64 ((n % 600 : Nat) : Int)) = ((n % 600 : Nat) : Int)) ∧ (((0 : Int) ≤ ((n % 600 : Nat) : Int) ∧ ((n % 600 : Nat) : Int) ≤ ((n % 600 : Nat) : Int) ∧ ((n % 600 : Nat) : Int) ≤ 137438953472) ∧ (List.replicate (n % 600) (0 : Int)).length = n % 600 ∧ ∀ x ∈ (List.replicate (n % 600) (0 : Int)), eqRow [(dI .i64 0)] ((encI .i64) x)) ∧ callOb Try.prog 28 [(.var 55 [(dL 1 encLI [] ((readF (jr l l.length) 0).1)), (dL 1 (encI .u8) 0 ((readF (jr l l.length) 0).2.1)), (dI .i64 (tornF (jr l l.length))), (dI .i64 0), (dI .u64 0)]), .dead] [(dL 1 (encI .u8) 0 (jr l l.length)), (dL 1 (encI .i64) 0 (List.replicate (n % 600) (0 : Int)))] none true (.agg [(dL 1 (encI .u8) 0 (jputJ (jr l l.length) (List.replicate (n % 600) (0 : Int)))), (dI .i64 (jputE (jr l l.length) (List.replicate (n % 600) (0 : Int))))]) ∧ True ∧ True ∧ True) (by kernel_rfl)
        ⟨trivial, trivial, ⟨(by first | omega | (simp; first | done | omega) | (rw [hjl]; omega) | (have := hS.recs.getD i; omega)), (by first | rfl | omega | simp)⟩, ⟨trivial, (w64 rfl (by first | omega | (simp; first | done | omega) | (rw [hjl]; omega) | (have := hS.recs.getD i; omega)) (by first | omega | (simp; first | done | omega) | (rw [hjl]; omega) | (have := hS.recs.getD i; omega)))⟩, ⟨by omega, by simp, by intro z hz; rw [List.mem_replicate] at hz; rw [hz.2]; exact ⟨rfl, trivial⟩⟩, (lput_ok _ _ (by first | exact jr_8 _ _ | exact Bytes8.take (jr_8 _ _) _ | assumption) (by first | omega | (have := jr_len l l.length; omega)) (by simp; first | done | omega)), trivial, trivial, trivial⟩ ?_
      refine Ev.seq ?_
      refine Ev.seq ?_
      rcases Nat.lt_or_ge 256 (n % 600) with hb | hb
      · skip
        have hE : jputE (jr l l.length) (List.replicate (n % 600) (0 : Int)) = 1 := by rw [jputE, if_pos (by simp; omega)]
        have hL : jputJ (jr l l.length) (List.replicate (n % 600) (0 : Int)) = [] := by rw [jputJ, if_pos (by simp; omega)]
        refine Ev.reg [(2, .val (dB false)), (4, .val (dI .u16 ((n % 600 : Nat) : Int))), (5, .val (dB false)), (6, .val (dB false)), (10, .val (dB true)), (14, .val (dB false)), (19, .val (dB false)), (26, .val (dB false))] [0, 5, 6, 10, 93] (st' := ⟨[(0, (dL 1 encLI [] l)), (5, (dB true)), (6, (dL 1 (encI .u8) 0 (jr l l.length))), (10, (.ptr 0 0 0 0)), (93, (dB false))], [(.var 55 [(dL 1 encLI [] ((readF (jr l l.length) 0).1)), (dL 1 (encI .u8) 0 ((readF (jr l l.length) 0).2.1)), (dI .i64 (tornF (jr l l.length))), (dI .i64 0), (dI .u64 0)]), .dead, (.var 58 [(dL 1 (encI .u8) 0 (jputJ (jr l l.length) (List.replicate (n % 600) (0 : Int)))), (dI .i64 (jputE (jr l l.length) (List.replicate (n % 600) (0 : Int))))])]⟩)
          (p := True ∧ True ∧ (True ∧ ((jputE (jr l l.length) (List.replicate (n % 600) (0 : Int))) == 0) = false) ∧ True ∧ ((600 : Int) ≠ 0 ∧ (Int.tmod ((n : Nat) : Int) 600) = ((n % 600 : Nat) : Int)) ∧ (True ∧ (decide (((n % 600 : Nat) : Int) ≤ 256)) = false) ∧ (True ∧ false = false) ∧ True ∧ True ∧ True ∧ (True ∧ ((jputE (jr l l.length) (List.replicate (n % 600) (0 : Int))) != 0) = true) ∧ True ∧ True ∧ True ∧ (True ∧ ((jputE (jr l l.length) (List.replicate (n % 600) (0 : Int))) != 1) = false) ∧ True ∧ True ∧ True ∧ True ∧ (True ∧ ((((jputJ (jr l l.length) (List.replicate (n % 600) (0 : Int))).length : Nat) : Int) != 0) = false) ∧ True ∧ True ∧ True ∧ True ∧ True ∧ True ∧ (True ∧ ((jputE (jr l l.length) (List.replicate (n % 600) (0 : Int))) == 0) = false) ∧ True ∧ True ∧ True ∧ True ∧ True ∧ True ∧ True ∧ True ∧ True ∧ True ∧ True ∧ True ∧ True ∧ True ∧ True) (by kernel_rfl)
          ⟨trivial, trivial, ⟨trivial, (by rw [hE]; rfl)⟩, trivial, ⟨(by first | omega | (simp; first | done | omega) | (rw [hjl]; omega) | (have := hS.recs.getD i; omega)), (by first | rfl | omega | simp)⟩, ⟨trivial, (by simp; omega)⟩, ⟨trivial, (by rfl)⟩, trivial, trivial, trivial, ⟨trivial, (by rw [hE]; rfl)⟩, trivial, trivial, trivial, ⟨trivial, (by rw [hE]; rfl)⟩, trivial, trivial, trivial, trivial, ⟨trivial, (by rw [hL]; rfl)⟩, trivial, trivial, trivial, trivial, trivial, trivial, ⟨trivial, (by rw [hE]; rfl)⟩, trivial, trivial, trivial, trivial, trivial, trivial, trivial, trivial, trivial, trivial, trivial, trivial, trivial, trivial, trivial⟩ ?_
        refine Ev.cond false rfl (fun h => (by cases h)) (fun _ => ?_)
        refine Ev.skip ?_
        refine Ev.seq ?_
        refine Ev.reg [(2, .val (dB true)), (7, .val (dB true)), (13, .call none false (dB (decide ((readF (jr l l.length) 0).1 = l)))), (14, .val (dB true)), (17, .call none true (dL 1 (encI .u8) 0 (wholeF (jr l l.length)))), (19, .call none false (dB (decide ((wholeF (jr l l.length)) = (jr l l.length))))), (20, .val (dB true))] [4] (st' := ⟨[(4, (dB true))], [(.var 55 [(dL 1 encLI [] ((readF (jr l l.length) 0).1)), (dL 1 (encI .u8) 0 ((readF (jr l l.length) 0).2.1)), (dI .i64 (tornF (jr l l.length))), (dI .i64 0), (dI .u64 0)]), .dead, (.var 58 [(dL 1 (encI .u8) 0 (jputJ (jr l l.length) (List.replicate (n % 600) (0 : Int)))), (dI .i64 (jputE (jr l l.length) (List.replicate (n % 600) (0 : Int))))])]⟩)
          (p := True ∧ True ∧ (True ∧ ((tornF (jr l l.length)) == 0) = true) ∧ True ∧ True ∧ True ∧ True ∧ (True ∧ (((((readF (jr l l.length) 0).2.1).length : Nat) : Int) == 0) = true) ∧ True ∧ True ∧ True ∧ True ∧ True ∧ callOb Try.prog 30 [(.var 55 [(dL 1 encLI [] ((readF (jr l l.length) 0).1)), (dL 1 (encI .u8) 0 ((readF (jr l l.length) 0).2.1)), (dI .i64 (tornF (jr l l.length))), (dI .i64 0), (dI .u64 0)]), .dead, (.var 58 [(dL 1 (encI .u8) 0 (jputJ (jr l l.length) (List.replicate (n % 600) (0 : Int)))), (dI .i64 (jputE (jr l l.length) (List.replicate (n % 600) (0 : Int))))])] [(dL 1 encLI [] ((readF (jr l l.length) 0).1)), (dL 1 encLI [] l)] none false (dB (decide ((readF (jr l l.length) 0).1 = l))) ∧ (True ∧ (decide ((readF (jr l l.length) 0).1 = l)) = true) ∧ True ∧ True ∧ callOb Try.prog 32 [(.var 55 [(dL 1 encLI [] ((readF (jr l l.length) 0).1)), (dL 1 (encI .u8) 0 ((readF (jr l l.length) 0).2.1)), (dI .i64 (tornF (jr l l.length))), (dI .i64 0), (dI .u64 0)]), .dead, (.var 58 [(dL 1 (encI .u8) 0 (jputJ (jr l l.length) (List.replicate (n % 600) (0 : Int)))), (dI .i64 (jputE (jr l l.length) (List.replicate (n % 600) (0 : Int))))])] [(dL 1 (encI .u8) 0 (jr l l.length))] none true (dL 1 (encI .u8) 0 (wholeF (jr l l.length))) ∧ True ∧ callOb Try.prog 31 [(.var 55 [(dL 1 encLI [] ((readF (jr l l.length) 0).1)), (dL 1 (encI .u8) 0 ((readF (jr l l.length) 0).2.1)), (dI .i64 (tornF (jr l l.length))), (dI .i64 0), (dI .u64 0)]), .dead, (.var 58 [(dL 1 (encI .u8) 0 (jputJ (jr l l.length) (List.replicate (n % 600) (0 : Int)))), (dI .i64 (jputE (jr l l.length) (List.replicate (n % 600) (0 : Int))))])] [(dL 1 (encI .u8) 0 (wholeF (jr l l.length))), (dL 1 (encI .u8) 0 (jr l l.length))] none false (dB (decide ((wholeF (jr l l.length)) = (jr l l.length)))) ∧ (True ∧ (decide ((wholeF (jr l l.length)) = (jr l l.length))) = true) ∧ True ∧ True ∧ True ∧ True ∧ True) (by kernel_rfl)
          ⟨trivial, trivial, ⟨trivial, (by rw [tornF, hrd]; rfl)⟩, trivial, trivial, trivial, trivial, ⟨trivial, (by rw [hrd]; rfl)⟩, trivial, trivial, trivial, trivial, trivial, (records_ok _ _ (by first | assumption | exact hS.recs | (rw [hrd]; exact hS.recs)) (by first | assumption | exact hS.recs | (rw [hrd]; exact hS.recs))), ⟨trivial, (by rw [hrd]; simp)⟩, trivial, trivial, (whole_ok _ (by first | exact jr_8 _ _ | exact Bytes8.take (jr_8 _ _) _ | assumption) (by first | omega | (simp; first | done | omega) | (rw [hjl]; omega) | (have := hS.recs.getD i; omega))), trivial, (sameB_ok _ _ (by first | omega | (rw [endsF_len]; omega) | (have := hS.recs.1; omega) | (have := hS.recs.getD i; omega)) (by first | omega | (rw [endsF_len]; omega) | (have := hS.recs.1; omega) | (have := hS.recs.getD i; omega))), ⟨trivial, (by rw [wholeF, hrd]; simp)⟩, trivial, trivial, trivial, trivial, trivial⟩ ?_
        refine Ev.ret ?_
        refine ⟨⟨trivial, trivial⟩, (?_ : true = true), .inr trivial⟩
        rfl
      · skip
        have hp := put_encs hAll (r := (List.replicate (n % 600) (0 : Int))) (by simp; omega) (by simp; omega)
        have hE : jputE (jr l l.length) (List.replicate (n % 600) (0 : Int)) = 0 := by rw [hJ]; exact hp.2
        have hL : (jputJ (jr l l.length) (List.replicate (n % 600) (0 : Int))).length = lenR l + 24 + 8 * (n % 600) := by rw [hJ, hp.1, encs_len, lenR_append]; simp [lenR]; omega
        refine Ev.reg [(2, .val (dB true)), (4, .val (dI .u16 ((n % 600 : Nat) : Int))), (5, .val (dB true)), (6, .val (dB false)), (10, .val (dB false)), (26, .val (dB true)), (32, .val (dI .i64 (((lenR (l.take i)) + 24 : Nat) : Int))), (34, .val (dI .u16 ((n % 600 : Nat) : Int))), (35, .val (dI .i64 ((n % 600 : Nat) : Int))), (36, .val (dI .i64 ((8 * (n % 600) : Nat) : Int))), (37, .val (dI .i64 ((((lenR (l.take i)) + 24) + (8 * (n % 600)) : Nat) : Int))), (38, .val (dB false))] [0, 5, 6, 10, 93] (st' := ⟨[(0, (dL 1 encLI [] l)), (5, (dB true)), (6, (dL 1 (encI .u8) 0 (jr l l.length))), (10, (.ptr 0 0 0 0)), (93, (dB false))], [(.var 55 [(dL 1 encLI [] ((readF (jr l l.length) 0).1)), (dL 1 (encI .u8) 0 ((readF (jr l l.length) 0).2.1)), (dI .i64 (tornF (jr l l.length))), (dI .i64 0), (dI .u64 0)]), .dead, (.var 58 [(dL 1 (encI .u8) 0 (jputJ (jr l l.length) (List.replicate (n % 600) (0 : Int)))), (dI .i64 (jputE (jr l l.length) (List.replicate (n % 600) (0 : Int))))])]⟩)
          (p := True ∧ True ∧ (True ∧ ((jputE (jr l l.length) (List.replicate (n % 600) (0 : Int))) == 0) = true) ∧ True ∧ ((600 : Int) ≠ 0 ∧ (Int.tmod ((n : Nat) : Int) 600) = ((n % 600 : Nat) : Int)) ∧ (True ∧ (decide (((n % 600 : Nat) : Int) ≤ 256)) = true) ∧ (True ∧ false = false) ∧ True ∧ True ∧ True ∧ (True ∧ ((jputE (jr l l.length) (List.replicate (n % 600) (0 : Int))) != 0) = false) ∧ True ∧ True ∧ True ∧ True ∧ True ∧ True ∧ True ∧ True ∧ True ∧ True ∧ True ∧ True ∧ True ∧ True ∧ True ∧ (True ∧ ((jputE (jr l l.length) (List.replicate (n % 600) (0 : Int))) == 0) = true) ∧ True ∧ True ∧ True ∧ True ∧ True ∧ (True ∧ (IntKind.wrap .i64 (((lenR (l.take i) : Nat) : Int) + 24)) = (((lenR (l.take i)) + 24 : Nat) : Int)) ∧ True ∧ ((600 : Int) ≠ 0 ∧ (Int.tmod ((n : Nat) : Int) 600) = ((n % 600 : Nat) : Int)) ∧ (True ∧ (IntKind.wrap .i64 ((n % 600 : Nat) : Int)) = ((n % 600 : Nat) : Int)) ∧ (True ∧ (IntKind.wrap .i64 (8 * ((n % 600 : Nat) : Int))) = ((8 * (n % 600) : Nat) : Int)) ∧ (True ∧ (IntKind.wrap .i64 ((((lenR (l.take i)) + 24 : Nat) : Int) + ((8 * (n % 600) : Nat) : Int))) = ((((lenR (l.take i)) + 24) + (8 * (n % 600)) : Nat) : Int)) ∧ (True ∧ ((((jputJ (jr l l.length) (List.replicate (n % 600) (0 : Int))).length : Nat) : Int) != ((((lenR (l.take i)) + 24) + (8 * (n % 600)) : Nat) : Int)) = false) ∧ True ∧ True ∧ True) (by kernel_rfl)
          ⟨trivial, trivial, ⟨trivial, (by rw [hE]; rfl)⟩, trivial, ⟨(by first | omega | (simp; first | done | omega) | (rw [hjl]; omega) | (have := hS.recs.getD i; omega)), (by first | rfl | omega | simp)⟩, ⟨trivial, (by simp; omega)⟩, ⟨trivial, (by rfl)⟩, trivial, trivial, trivial, ⟨trivial, (by rw [hE]; rfl)⟩, trivial, trivial, trivial, trivial, trivial, trivial, trivial, trivial, trivial, trivial, trivial, trivial, trivial, trivial, trivial, ⟨trivial, (by rw [hE]; rfl)⟩, trivial, trivial, trivial, trivial, trivial, ⟨trivial, (w64n (by first | rfl | simp | omega) (by first | omega | (simp; first | done | omega) | (rw [hjl]; omega) | (have := hS.recs.getD i; omega)))⟩, trivial, ⟨(by first | omega | (simp; first | done | omega) | (rw [hjl]; omega) | (have := hS.recs.getD i; omega)), (by first | rfl | omega | simp)⟩, ⟨trivial, (w64 rfl (by first | omega | (simp; first | done | omega) | (rw [hjl]; omega) | (have := hS.recs.getD i; omega)) (by first | omega | (simp; first | done | omega) | (rw [hjl]; omega) | (have := hS.recs.getD i; omega)))⟩, ⟨trivial, (w64n (by first | rfl | simp | omega) (by first | omega | (simp; first | done | omega) | (rw [hjl]; omega) | (have := hS.recs.getD i; omega)))⟩, ⟨trivial, (w64n (by first | rfl | simp | omega) (by first | omega | (simp; first | done | omega) | (rw [hjl]; omega) | (have := hS.recs.getD i; omega)))⟩, ⟨trivial, (by rw [hL]; simp; omega)⟩, trivial, trivial, trivial⟩ ?_
        refine Ev.cond false rfl (fun h => (by cases h)) (fun _ => ?_)
        refine Ev.skip ?_
        refine Ev.seq ?_
        refine Ev.reg [(2, .val (dB true)), (7, .val (dB true)), (13, .call none false (dB (decide ((readF (jr l l.length) 0).1 = l)))), (14, .val (dB true)), (17, .call none true (dL 1 (encI .u8) 0 (wholeF (jr l l.length)))), (19, .call none false (dB (decide ((wholeF (jr l l.length)) = (jr l l.length))))), (20, .val (dB true))] [4] (st' := ⟨[(4, (dB true))], [(.var 55 [(dL 1 encLI [] ((readF (jr l l.length) 0).1)), (dL 1 (encI .u8) 0 ((readF (jr l l.length) 0).2.1)), (dI .i64 (tornF (jr l l.length))), (dI .i64 0), (dI .u64 0)]), .dead, (.var 58 [(dL 1 (encI .u8) 0 (jputJ (jr l l.length) (List.replicate (n % 600) (0 : Int)))), (dI .i64 (jputE (jr l l.length) (List.replicate (n % 600) (0 : Int))))])]⟩)
          (p := True ∧ True ∧ (True ∧ ((tornF (jr l l.length)) == 0) = true) ∧ True ∧ True ∧ True ∧ True ∧ (True ∧ (((((readF (jr l l.length) 0).2.1).length : Nat) : Int) == 0) = true) ∧ True ∧ True ∧ True ∧ True ∧ True ∧ callOb Try.prog 30 [(.var 55 [(dL 1 encLI [] ((readF (jr l l.length) 0).1)), (dL 1 (encI .u8) 0 ((readF (jr l l.length) 0).2.1)), (dI .i64 (tornF (jr l l.length))), (dI .i64 0), (dI .u64 0)]), .dead, (.var 58 [(dL 1 (encI .u8) 0 (jputJ (jr l l.length) (List.replicate (n % 600) (0 : Int)))), (dI .i64 (jputE (jr l l.length) (List.replicate (n % 600) (0 : Int))))])] [(dL 1 encLI [] ((readF (jr l l.length) 0).1)), (dL 1 encLI [] l)] none false (dB (decide ((readF (jr l l.length) 0).1 = l))) ∧ (True ∧ (decide ((readF (jr l l.length) 0).1 = l)) = true) ∧ True ∧ True ∧ callOb Try.prog 32 [(.var 55 [(dL 1 encLI [] ((readF (jr l l.length) 0).1)), (dL 1 (encI .u8) 0 ((readF (jr l l.length) 0).2.1)), (dI .i64 (tornF (jr l l.length))), (dI .i64 0), (dI .u64 0)]), .dead, (.var 58 [(dL 1 (encI .u8) 0 (jputJ (jr l l.length) (List.replicate (n % 600) (0 : Int)))), (dI .i64 (jputE (jr l l.length) (List.replicate (n % 600) (0 : Int))))])] [(dL 1 (encI .u8) 0 (jr l l.length))] none true (dL 1 (encI .u8) 0 (wholeF (jr l l.length))) ∧ True ∧ callOb Try.prog 31 [(.var 55 [(dL 1 encLI [] ((readF (jr l l.length) 0).1)), (dL 1 (encI .u8) 0 ((readF (jr l l.length) 0).2.1)), (dI .i64 (tornF (jr l l.length))), (dI .i64 0), (dI .u64 0)]), .dead, (.var 58 [(dL 1 (encI .u8) 0 (jputJ (jr l l.length) (List.replicate (n % 600) (0 : Int)))), (dI .i64 (jputE (jr l l.length) (List.replicate (n % 600) (0 : Int))))])] [(dL 1 (encI .u8) 0 (wholeF (jr l l.length))), (dL 1 (encI .u8) 0 (jr l l.length))] none false (dB (decide ((wholeF (jr l l.length)) = (jr l l.length)))) ∧ (True ∧ (decide ((wholeF (jr l l.length)) = (jr l l.length))) = true) ∧ True ∧ True ∧ True ∧ True ∧ True) (by kernel_rfl)
          ⟨trivial, trivial, ⟨trivial, (by rw [tornF, hrd]; rfl)⟩, trivial, trivial, trivial, trivial, ⟨trivial, (by rw [hrd]; rfl)⟩, trivial, trivial, trivial, trivial, trivial, (records_ok _ _ (by first | assumption | exact hS.recs | (rw [hrd]; exact hS.recs)) (by first | assumption | exact hS.recs | (rw [hrd]; exact hS.recs))), ⟨trivial, (by rw [hrd]; simp)⟩, trivial, trivial, (whole_ok _ (by first | exact jr_8 _ _ | exact Bytes8.take (jr_8 _ _) _ | assumption) (by first | omega | (simp; first | done | omega) | (rw [hjl]; omega) | (have := hS.recs.getD i; omega))), trivial, (sameB_ok _ _ (by first | omega | (rw [endsF_len]; omega) | (have := hS.recs.1; omega) | (have := hS.recs.getD i; omega)) (by first | omega | (rw [endsF_len]; omega) | (have := hS.recs.1; omega) | (have := hS.recs.getD i; omega))), ⟨trivial, (by rw [wholeF, hrd]; simp)⟩, trivial, trivial, trivial, trivial, trivial⟩ ?_
        refine Ev.ret ?_
        refine ⟨⟨trivial, trivial⟩, (?_ : true = true), .inr trivial⟩
        rfl

end Go.Proofs.Ytjmfaebimgnblaa
