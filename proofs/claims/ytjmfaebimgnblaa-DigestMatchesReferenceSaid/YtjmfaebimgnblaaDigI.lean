/-
  The reference of digests.
-/
import Derived.Test.YtjmfaebimgnblaaDigG
import Derived.Test.YtjmfaebimgnblaaOldC
namespace Go.Proofs.Ytjmfaebimgnblaa
open Go.RowKit
set_option linter.unusedVariables false
set_option linter.unusedSimpArgs false

set_option maxRecDepth 100000 in
theorem bytesR_ok (b : List Int) (hb : Bytes8 b) (hbig : b.length ≤ 137438953472) : CallOk Try.prog 40 [(dL 1 (encI .u8) 0 b)] [] false (dI .u64 (bytesF b)) [] := by
  refine CallOk.of_ev Try.func40 rfl rfl rfl ?_
  rintro ⟨_, W, S0, _, susp, _⟩ rfl rfl rfl
  refine Ev.seq ?_
  refine Ev.reg [] [0] (st' := ⟨[(0, (dL 1 (encI .u8) 0 b))], []⟩)
    (p := True ∧ True) (by kernel_rfl)
    ⟨trivial, trivial⟩ ?_
  refine Ev.seq ?_
  refine Ev.reg [] [0, 3] (st' := ⟨[(0, (dL 1 (encI .u8) 0 b)), (3, (dI .u64 422944466291))], []⟩)
    (p := True ∧ True) (by kernel_rfl)
    ⟨trivial, trivial⟩ ?_
  refine Ev.seq ?_
  refine Ev.seq ?_
  refine Ev.reg [] [0, 3, 4] (st' := ⟨[(0, (dL 1 (encI .u8) 0 b)), (3, (dI .u64 422944466291)), (4, (dI .i64 0))], []⟩)
    (p := True ∧ True) (by kernel_rfl)
    ⟨trivial, trivial⟩ ?_
  refine Ev.block ?_
  refine Ev.loop [0, 3, 4] 0 (fun (⟨i, h⟩ : Nat × Int) => ⟨[(0, (dL 1 (encI .u8) 0 b)), (3, (dI .u64 h)), (4, (dI .i64 ((i : Nat) : Int)))], []⟩) (fun (⟨i, h⟩ : Nat × Int) => i ≤ b.length + 7 ∧ stps h (wds (b.drop i)) = stps 422944466291 (wds b)) (fun (⟨i, h⟩ : Nat × Int) => b.length + 8 - i) ⟨0, 422944466291⟩ (by kernel_rfl) (⟨by omega, by rw [List.drop_zero]⟩) ?_
  rintro ⟨i, h⟩ hinv
  have hinv : i ≤ b.length + 7 ∧ stps h (wds (b.drop i)) = stps 422944466291 (wds b) := hinv
  obtain ⟨hi, hh⟩ := hinv
  refine Ev.seq ?_
  refine Ev.seq ?_
  refine Ev.reg [] [0, 3, 4, 10] (st' := ⟨[(0, (dL 1 (encI .u8) 0 b)), (3, (dI .u64 h)), (4, (dI .i64 ((i : Nat) : Int))), (10, (dB (decide (((i : Nat) : Int) < ((b.length : Nat) : Int)))))], []⟩)
    (p := True ∧ True ∧ True ∧ True ∧ True) (by kernel_rfl)
    ⟨trivial, trivial, trivial, trivial, trivial⟩ ?_
  refine Ev.cond _ rfl (fun hc10 => ?_) (fun hc10 => ?_)
  · simp only [decide_eq_true_eq, decide_eq_false_iff_not, beq_iff_eq, bne_iff_ne, ne_eq, beq_eq_false_iff_ne, bne_eq_false_iff_eq, Bool.not_eq_true, Bool.not_eq_false, Bool.not_eq_true', Bool.not_eq_false', Bool.not_not, gt_iff_lt, ge_iff_le, Nat.not_lt, Int.not_lt, Int.not_le] at hc10
    refine Ev.skip ?_
    refine Ev.seq ?_
    refine Ev.block ?_
    refine Ev.seq ?_
    refine Ev.reg [] [0, 3, 4, 5] (st' := ⟨[(0, (dL 1 (encI .u8) 0 b)), (3, (dI .u64 h)), (4, (dI .i64 ((i : Nat) : Int))), (5, (dI .u64 0))], []⟩)
      (p := True ∧ True) (by kernel_rfl)
      ⟨trivial, trivial⟩ ?_
    refine Ev.seq ?_
    refine Ev.seq ?_
    refine Ev.reg [] [0, 3, 4, 5, 6] (st' := ⟨[(0, (dL 1 (encI .u8) 0 b)), (3, (dI .u64 h)), (4, (dI .i64 ((i : Nat) : Int))), (5, (dI .u64 0)), (6, (dI .i64 0))], []⟩)
      (p := True ∧ True) (by kernel_rfl)
      ⟨trivial, trivial⟩ ?_
    refine Ev.block ?_
    refine Ev.loop [0, 3, 4, 5, 6] 0 (fun (k : Nat) => ⟨[(0, (dL 1 (encI .u8) 0 b)), (3, (dI .u64 h)), (4, (dI .i64 ((i : Nat) : Int))), (5, (dI .u64 ((partN b i k : Nat) : Int))), (6, (dI .i64 ((k : Nat) : Int)))], []⟩) (fun (k : Nat) => k ≤ 8 ∧ i + k ≤ b.length) (fun (k : Nat) => 8 - k) 0 (by kernel_rfl) (⟨by omega, by omega⟩) ?_
    rintro k hinv
    have hinv : k ≤ 8 ∧ i + k ≤ b.length := hinv
    obtain ⟨hk, hik⟩ := hinv
    refine Ev.seq ?_
    refine Ev.seq ?_
    rcases Nat.lt_or_ge k 8 with hk8 | hk8
    · skip
      refine Ev.reg [(1, .val (dB true)), (5, .val (dI .i64 ((i + k : Nat) : Int)))] [0, 3, 4, 5, 6, 22] (st' := ⟨[(0, (dL 1 (encI .u8) 0 b)), (3, (dI .u64 h)), (4, (dI .i64 ((i : Nat) : Int))), (5, (dI .u64 ((partN b i k : Nat) : Int))), (6, (dI .i64 ((k : Nat) : Int))), (22, (dB (decide (((i + k : Nat) : Int) < ((b.length : Nat) : Int)))))], []⟩)
        (p := True ∧ (True ∧ (decide (((k : Nat) : Int) < 8)) = true) ∧ True ∧ True ∧ True ∧ (True ∧ (IntKind.wrap .i64 (((i : Nat) : Int) + ((k : Nat) : Int))) = ((i + k : Nat) : Int)) ∧ True ∧ True ∧ True ∧ True ∧ True) (by kernel_rfl)
        ⟨trivial, ⟨trivial, (by first | (simp; done) | (simp; omega))⟩, trivial, trivial, trivial, ⟨trivial, (w64n (by first | rfl | simp | omega) (by first | omega | (simp; first | done | omega)))⟩, trivial, trivial, trivial, trivial, trivial⟩ ?_
      refine Ev.cond _ rfl (fun hc22 => ?_) (fun hc22 => ?_)
      · simp only [decide_eq_true_eq, decide_eq_false_iff_not, beq_iff_eq, bne_iff_ne, ne_eq, beq_eq_false_iff_ne, bne_eq_false_iff_eq, Bool.not_eq_true, Bool.not_eq_false, Bool.not_eq_true', Bool.not_eq_false', Bool.not_not, gt_iff_lt, ge_iff_le, Nat.not_lt, Int.not_lt, Int.not_le] at hc22
        refine Ev.skip ?_
        refine Ev.seq ?_
        refine Ev.block ?_
        refine Ev.reg [(4, .val (dI .i64 ((i + k : Nat) : Int))), (7, .val (dI .u64 (b.getD (i + k) 0))), (9, .val (dI .i64 ((8 * k : Nat) : Int))), (10, .val (dI .u64 ((8 * k : Nat) : Int))), (12, .val (dI .u64 ((partN b i (k + 1) : Nat) : Int)))] [0, 3, 4, 5, 6] (st' := ⟨[(0, (dL 1 (encI .u8) 0 b)), (3, (dI .u64 h)), (4, (dI .i64 ((i : Nat) : Int))), (5, (dI .u64 ((partN b i (k + 1) : Nat) : Int))), (6, (dI .i64 ((k : Nat) : Int)))], []⟩)
          (p := True ∧ True ∧ True ∧ True ∧ (True ∧ (IntKind.wrap .i64 (((i : Nat) : Int) + ((k : Nat) : Int))) = ((i + k : Nat) : Int)) ∧ (0 ≤ ((i + k : Nat) : Int) ∧ ((i + k : Nat) : Int) < (b.length : Int)) ∧ True ∧ (True ∧ (IntKind.wrap .u64 (b.getD (i + k) 0)) = (b.getD (i + k) 0)) ∧ True ∧ (True ∧ (IntKind.wrap .i64 (8 * ((k : Nat) : Int))) = ((8 * k : Nat) : Int)) ∧ (True ∧ (IntKind.wrap .u64 ((8 * k : Nat) : Int)) = ((8 * k : Nat) : Int)) ∧ 0 ≤ ((8 * k : Nat) : Int) ∧ (True ∧ (IntKind.wrap .u64 (BitVec.ofInt (IntKind.u64).bits ((partN b i k : Nat) : Int) ||| BitVec.ofInt (IntKind.u64).bits (IntKind.wrap .u64 ((b.getD (i + k) 0) * 2 ^ min (8 * k) 64))).toNat) = ((partN b i (k + 1) : Nat) : Int)) ∧ True ∧ True) (by kernel_rfl)
          ⟨trivial, trivial, trivial, trivial, ⟨trivial, (w64n (by first | rfl | simp | omega) (by first | omega | (simp; first | done | omega)))⟩, (by first | omega | (simp; first | done | omega)), trivial, ⟨trivial, (wu64 rfl (hb.getD _).1 (by have := (hb.getD (i + k)).2; omega))⟩, trivial, ⟨trivial, (w64n (by first | rfl | simp | omega) (by first | omega | (simp; first | done | omega)))⟩, ⟨trivial, (wu64 rfl (by first | omega | (simp; first | done | omega)) (by first | omega | (simp; first | done | omega)))⟩, (by first | omega | (simp; first | done | omega)), ⟨trivial, (by rw [partN_succ hb (by omega)]; exact or_byte (partN_lt hb _ _) (by omega) (hb.getD _).1 (hb.getD _).2)⟩, trivial, trivial⟩ ?_
        refine Ev.reg [(1, .val (dI .i64 ((k + 1 : Nat) : Int)))] [0, 3, 4, 5, 6] (st' := ⟨[(0, (dL 1 (encI .u8) 0 b)), (3, (dI .u64 h)), (4, (dI .i64 ((i : Nat) : Int))), (5, (dI .u64 ((partN b i (k + 1) : Nat) : Int))), (6, (dI .i64 ((k + 1 : Nat) : Int)))], []⟩)
          (p := True ∧ (True ∧ (IntKind.wrap .i64 (((k : Nat) : Int) + 1)) = ((k + 1 : Nat) : Int)) ∧ True ∧ True) (by kernel_rfl)
          ⟨trivial, ⟨trivial, (w64n (by first | rfl | simp | omega) (by first | omega | (simp; first | done | omega)))⟩, trivial, trivial⟩ ?_
        refine ⟨k + 1, by kernel_rfl, (?_ : (k + 1) ≤ 8 ∧ i + (k + 1) ≤ b.length), (?_ : 8 - (k + 1) < 8 - k)⟩
        · exact ⟨by omega, by omega⟩
        · omega
      · simp only [decide_eq_true_eq, decide_eq_false_iff_not, beq_iff_eq, bne_iff_ne, ne_eq, beq_eq_false_iff_ne, bne_eq_false_iff_eq, Bool.not_eq_true, Bool.not_eq_false, Bool.not_eq_true', Bool.not_eq_false', Bool.not_not, gt_iff_lt, ge_iff_le, Nat.not_lt, Int.not_lt, Int.not_le] at hc22
        refine Ev.exit ?_
        refine Ev.reg [(1, .val (dI .u64 (leF ((b.drop i).take 8)))), (2, .call none false (dI .u64 (stp h (leF ((b.drop i).take 8)))))] [0, 3, 4] (st' := ⟨[(0, (dL 1 (encI .u8) 0 b)), (3, (dI .u64 (stp h (leF ((b.drop i).take 8))))), (4, (dI .i64 ((i : Nat) : Int)))], []⟩)
          (p := True ∧ (True ∧ ((partN b i k : Nat) : Int) = (leF ((b.drop i).take 8))) ∧ callOb Try.prog 48 [] [(dI .u64 h), (dI .u64 (leF ((b.drop i).take 8)))] none false (dI .u64 (stp h (leF ((b.drop i).take 8)))) ∧ True ∧ True) (by kernel_rfl)
          ⟨trivial, ⟨trivial, (by rw [partN_int hb, ← take_min (b.drop i), List.length_drop]; congr 2; omega)⟩, (step_ok _ _), trivial, trivial⟩ ?_
        refine Ev.reg [(1, .val (dI .i64 ((i + 8 : Nat) : Int)))] [0, 3, 4] (st' := ⟨[(0, (dL 1 (encI .u8) 0 b)), (3, (dI .u64 (stp h (leF ((b.drop i).take 8))))), (4, (dI .i64 ((i + 8 : Nat) : Int)))], []⟩)
          (p := True ∧ (True ∧ (IntKind.wrap .i64 (((i : Nat) : Int) + 8)) = ((i + 8 : Nat) : Int)) ∧ True ∧ True) (by kernel_rfl)
          ⟨trivial, ⟨trivial, (w64n (by first | rfl | simp | omega) (by first | omega | (simp; first | done | omega)))⟩, trivial, trivial⟩ ?_
        refine ⟨⟨i + 8, stp h (leF ((b.drop i).take 8))⟩, by kernel_rfl, (?_ : (i + 8) ≤ b.length + 7 ∧ stps (stp h (leF ((b.drop i).take 8))) (wds (b.drop (i + 8))) = stps 422944466291 (wds b)), (?_ : b.length + 8 - (i + 8) < b.length + 8 - i)⟩
        · refine ⟨by omega, ?_⟩
          have hw := wds_cons (l := b.drop i) (by rw [List.length_drop]; omega)
          rw [← hh, hw, List.drop_drop]
          rfl
        · omega
    · skip
      refine Ev.reg [(1, .val (dB false))] [0, 3, 4, 5, 6, 22] (st' := ⟨[(0, (dL 1 (encI .u8) 0 b)), (3, (dI .u64 h)), (4, (dI .i64 ((i : Nat) : Int))), (5, (dI .u64 ((partN b i k : Nat) : Int))), (6, (dI .i64 ((k : Nat) : Int))), (22, (dB false))], []⟩)
        (p := True ∧ (True ∧ (decide (((k : Nat) : Int) < 8)) = false) ∧ True ∧ True ∧ True ∧ True ∧ True ∧ True ∧ True ∧ True ∧ True) (by kernel_rfl)
        ⟨trivial, ⟨trivial, (by first | (simp; done) | (simp; omega))⟩, trivial, trivial, trivial, trivial, trivial, trivial, trivial, trivial, trivial⟩ ?_
      refine Ev.cond false rfl (fun h => (by cases h)) (fun _ => ?_)
      refine Ev.exit ?_
      refine Ev.reg [(1, .val (dI .u64 (leF ((b.drop i).take 8)))), (2, .call none false (dI .u64 (stp h (leF ((b.drop i).take 8)))))] [0, 3, 4] (st' := ⟨[(0, (dL 1 (encI .u8) 0 b)), (3, (dI .u64 (stp h (leF ((b.drop i).take 8))))), (4, (dI .i64 ((i : Nat) : Int)))], []⟩)
        (p := True ∧ (True ∧ ((partN b i k : Nat) : Int) = (leF ((b.drop i).take 8))) ∧ callOb Try.prog 48 [] [(dI .u64 h), (dI .u64 (leF ((b.drop i).take 8)))] none false (dI .u64 (stp h (leF ((b.drop i).take 8)))) ∧ True ∧ True) (by kernel_rfl)
        ⟨trivial, ⟨trivial, (by rw [partN_int hb, ← take_min (b.drop i), List.length_drop]; congr 2; omega)⟩, (step_ok _ _), trivial, trivial⟩ ?_
      refine Ev.reg [(1, .val (dI .i64 ((i + 8 : Nat) : Int)))] [0, 3, 4] (st' := ⟨[(0, (dL 1 (encI .u8) 0 b)), (3, (dI .u64 (stp h (leF ((b.drop i).take 8))))), (4, (dI .i64 ((i + 8 : Nat) : Int)))], []⟩)
        (p := True ∧ (True ∧ (IntKind.wrap .i64 (((i : Nat) : Int) + 8)) = ((i + 8 : Nat) : Int)) ∧ True ∧ True) (by kernel_rfl)
        ⟨trivial, ⟨trivial, (w64n (by first | rfl | simp | omega) (by first | omega | (simp; first | done | omega)))⟩, trivial, trivial⟩ ?_
      refine ⟨⟨i + 8, stp h (leF ((b.drop i).take 8))⟩, by kernel_rfl, (?_ : (i + 8) ≤ b.length + 7 ∧ stps (stp h (leF ((b.drop i).take 8))) (wds (b.drop (i + 8))) = stps 422944466291 (wds b)), (?_ : b.length + 8 - (i + 8) < b.length + 8 - i)⟩
      · refine ⟨by omega, ?_⟩
        have hw := wds_cons (l := b.drop i) (by rw [List.length_drop]; omega)
        rw [← hh, hw, List.drop_drop]
        rfl
      · omega
  · simp only [decide_eq_true_eq, decide_eq_false_iff_not, beq_iff_eq, bne_iff_ne, ne_eq, beq_eq_false_iff_ne, bne_eq_false_iff_eq, Bool.not_eq_true, Bool.not_eq_false, Bool.not_eq_true', Bool.not_eq_false', Bool.not_not, gt_iff_lt, ge_iff_le, Nat.not_lt, Int.not_lt, Int.not_le] at hc10
    refine Ev.exit ?_
    refine Ev.seq ?_
    refine Ev.reg [(3, .val (dI .u64 ((b.length : Nat) : Int))), (4, .call none false (dI .u64 (stp h ((b.length : Nat) : Int))))] [2] (st' := ⟨[(2, (dI .u64 (stp h ((b.length : Nat) : Int))))], []⟩)
      (p := True ∧ True ∧ True ∧ (True ∧ (IntKind.wrap .u64 ((b.length : Nat) : Int)) = ((b.length : Nat) : Int)) ∧ callOb Try.prog 48 [] [(dI .u64 h), (dI .u64 ((b.length : Nat) : Int))] none false (dI .u64 (stp h ((b.length : Nat) : Int))) ∧ True ∧ True) (by kernel_rfl)
      ⟨trivial, trivial, trivial, ⟨trivial, (wu64 rfl (by first | omega | (simp; first | done | omega)) (by first | omega | (simp; first | done | omega)))⟩, (step_ok _ _), trivial, trivial⟩ ?_
    refine Ev.ret ?_
    refine ⟨⟨trivial, trivial⟩, (?_ : (stp h ((b.length : Nat) : Int)) = (bytesF b)), .inr trivial⟩
    have hr0 : b.drop i = [] := List.drop_of_length_le (by omega)
    rw [hr0, wds_nil] at hh
    rw [bytesF_eq, ← hh, u64_of_word (nat_word _ (by omega))]
    rfl

set_option maxRecDepth 100000 in
theorem level_ok (l : List Int) (hl : l.length ≤ 65536) : CallOk Try.prog 61 [(dL 1 (encI .u64) 0 l)] [] false (dL 1 (encI .u64) 0 (lvl l)) [] := by
  refine CallOk.of_ev Try.func61 rfl rfl rfl ?_
  rintro ⟨_, W, S0, _, susp, _⟩ rfl rfl rfl
  refine Ev.seq ?_
  refine Ev.reg [] [0] (st' := ⟨[(0, (dL 1 (encI .u64) 0 l))], []⟩)
    (p := True ∧ True) (by kernel_rfl)
    ⟨trivial, trivial⟩ ?_
  refine Ev.seq ?_
  refine Ev.reg [(0, .box 33 1 (encI .u64) 0 (lvl (l.take (2 * 0))))] [0, 3] (st' := ⟨[(0, (dL 1 (encI .u64) 0 l)), (3, (.own 0))], [(.arr 33 1 (encI .u64) 0 (lvl (l.take (2 * 0))))]⟩)
    (p := eqRows [] ((lvl (l.take (2 * 0))).map (encI .u64)) ∧ True ∧ True) (by kernel_rfl)
    ⟨trivial, trivial, trivial⟩ ?_
  refine Ev.seq ?_
  refine Ev.seq ?_
  refine Ev.reg [] [0, 3, 4] (st' := ⟨[(0, (dL 1 (encI .u64) 0 l)), (3, (.own 0)), (4, (dI .i64 0))], [(.arr 33 1 (encI .u64) 0 (lvl (l.take (2 * 0))))]⟩)
    (p := True ∧ True) (by kernel_rfl)
    ⟨trivial, trivial⟩ ?_
  refine Ev.block ?_
  refine Ev.loop [0, 3, 4] 1 (fun (j : Nat) => ⟨[(0, (dL 1 (encI .u64) 0 l)), (3, (.own 0)), (4, (dI .i64 ((2 * j : Nat) : Int)))], [(.arr 33 1 (encI .u64) 0 (lvl (l.take (2 * j))))]⟩) (fun (j : Nat) => 2 * j ≤ l.length + 1) (fun (j : Nat) => l.length + 2 - 2 * j) 0 (by kernel_rfl) (by omega) ?_
  rintro j hinv
  have hinv : 2 * j ≤ l.length + 1 := hinv
  have hj := hinv
  refine Ev.seq ?_
  refine Ev.seq ?_
  refine Ev.reg [] [0, 3, 4, 9] (st' := ⟨[(0, (dL 1 (encI .u64) 0 l)), (3, (.own 0)), (4, (dI .i64 ((2 * j : Nat) : Int))), (9, (dB (decide (((2 * j : Nat) : Int) < ((l.length : Nat) : Int)))))], [(.arr 33 1 (encI .u64) 0 (lvl (l.take (2 * j))))]⟩)
    (p := True ∧ True ∧ True ∧ True ∧ True) (by kernel_rfl)
    ⟨trivial, trivial, trivial, trivial, trivial⟩ ?_
  refine Ev.cond _ rfl (fun hc9 => ?_) (fun hc9 => ?_)
  · simp only [decide_eq_true_eq, decide_eq_false_iff_not, beq_iff_eq, bne_iff_ne, ne_eq, beq_eq_false_iff_ne, bne_eq_false_iff_eq, Bool.not_eq_true, Bool.not_eq_false, Bool.not_eq_true', Bool.not_eq_false', Bool.not_not, gt_iff_lt, ge_iff_le, Nat.not_lt, Int.not_lt, Int.not_le] at hc9
    refine Ev.skip ?_
    refine Ev.seq ?_
    refine Ev.block ?_
    refine Ev.seq ?_
    refine Ev.reg [(1, .val (dI .i64 (((2 * j) + 1 : Nat) : Int)))] [0, 3, 4, 16] (st' := ⟨[(0, (dL 1 (encI .u64) 0 l)), (3, (.own 0)), (4, (dI .i64 ((2 * j : Nat) : Int))), (16, (dB (decide ((((2 * j) + 1 : Nat) : Int) < ((l.length : Nat) : Int)))))], [(.arr 33 1 (encI .u64) 0 (lvl (l.take (2 * j))))]⟩)
      (p := True ∧ (True ∧ (IntKind.wrap .i64 (((2 * j : Nat) : Int) + 1)) = (((2 * j) + 1 : Nat) : Int)) ∧ True ∧ True ∧ True ∧ True) (by kernel_rfl)
      ⟨trivial, ⟨trivial, (w64n (by first | rfl | simp | omega) (by first | omega | (simp; first | done | omega)))⟩, trivial, trivial, trivial, trivial⟩ ?_
    refine Ev.cond _ rfl (fun hc16 => ?_) (fun hc16 => ?_)
    · simp only [decide_eq_true_eq, decide_eq_false_iff_not, beq_iff_eq, bne_iff_ne, ne_eq, beq_eq_false_iff_ne, bne_eq_false_iff_eq, Bool.not_eq_true, Bool.not_eq_false, Bool.not_eq_true', Bool.not_eq_false', Bool.not_not, gt_iff_lt, ge_iff_le, Nat.not_lt, Int.not_lt, Int.not_le] at hc16
      refine Ev.draw 12 [false, false, false, false, false, false, false, false, false, false, false, false] [(7, .val (dI .i64 (((2 * j) + 1 : Nat) : Int))), (10, .call none false (dI .u64 (joinF (l.getD (2 * j) 0) (l.getD ((2 * j) + 1) 0)))), (11, .box 33 1 (encI .u64) 0 [joinF (l.getD (2 * j) 0) (l.getD ((2 * j) + 1) 0)]), (12, .box 33 1 (encI .u64) 0 (lvl (l.take (2 * (j + 1)))))] [0, 3, 4] (st' := ⟨[(0, (dL 1 (encI .u64) 0 l)), (3, (.own 0)), (4, (dI .i64 ((2 * j : Nat) : Int)))], [(.arr 33 1 (encI .u64) 0 (lvl (l.take (2 * (j + 1)))))]⟩)
        (p := (True ∧ True ∧ True ∧ (0 ≤ ((2 * j : Nat) : Int) ∧ ((2 * j : Nat) : Int) < (l.length : Int)) ∧ True ∧ True ∧ True ∧ (True ∧ (IntKind.wrap .i64 (((2 * j : Nat) : Int) + 1)) = (((2 * j) + 1 : Nat) : Int)) ∧ (0 ≤ (((2 * j) + 1 : Nat) : Int) ∧ (((2 * j) + 1 : Nat) : Int) < (l.length : Int)) ∧ True ∧ callOb Try.prog 42 [(.arr 33 1 (encI .u64) 0 (lvl (l.take (2 * j))))] [(dI .u64 (l.getD (2 * j) 0)), (dI .u64 (l.getD ((2 * j) + 1) 0))] none false (dI .u64 (joinF (l.getD (2 * j) 0) (l.getD ((2 * j) + 1) 0))) ∧ eqRows [[(dI .u64 (joinF (l.getD (2 * j) 0) (l.getD ((2 * j) + 1) 0)))]] ([joinF (l.getD (2 * j) 0) (l.getD ((2 * j) + 1) 0)].map (encI .u64)) ∧ True) ∧ (((lvl (l.take (2 * j))).length + ([joinF (l.getD (2 * j) 0) (l.getD ((2 * j) + 1) 0)].map (encI .u64)).length ≤ 137438953472 ∧ (lvl (l.take (2 * j))).map (encI .u64) ++ [joinF (l.getD (2 * j) 0) (l.getD ((2 * j) + 1) 0)].map (encI .u64) = (lvl (l.take (2 * (j + 1)))).map (encI .u64)) ∧ True ∧ True)) (by kernel_rfl) (by kernel_rfl)
        ⟨⟨trivial, trivial, trivial, (by first | omega | (simp; first | done | omega)), trivial, trivial, trivial, ⟨trivial, (w64n (by first | rfl | simp | omega) (by first | omega | (simp; first | done | omega)))⟩, (by first | omega | (simp; first | done | omega)), trivial, (joinR_ok _ _), ⟨⟨rfl, trivial⟩, trivial⟩, trivial⟩, ⟨⟨by simp only [List.length_map, List.length_cons, List.length_nil]; rw [lvl_len, List.length_take]; omega, by rw [lvl_pair (by omega)]; simp⟩, trivial, trivial⟩⟩ ?_
      refine Ev.reg [(1, .val (dI .i64 ((2 * (j + 1) : Nat) : Int)))] [0, 3, 4] (st' := ⟨[(0, (dL 1 (encI .u64) 0 l)), (3, (.own 0)), (4, (dI .i64 ((2 * (j + 1) : Nat) : Int)))], [(.arr 33 1 (encI .u64) 0 (lvl (l.take (2 * (j + 1)))))]⟩)
        (p := True ∧ (True ∧ (IntKind.wrap .i64 (((2 * j : Nat) : Int) + 2)) = ((2 * (j + 1) : Nat) : Int)) ∧ True ∧ True) (by kernel_rfl)
        ⟨trivial, ⟨trivial, (w64n (by omega) (by omega))⟩, trivial, trivial⟩ ?_
      refine ⟨j + 1, by kernel_rfl, (?_ : 2 * (j + 1) ≤ l.length + 1), (?_ : l.length + 2 - 2 * (j + 1) < l.length + 2 - 2 * j)⟩
      · omega
      · omega
    · simp only [decide_eq_true_eq, decide_eq_false_iff_not, beq_iff_eq, bne_iff_ne, ne_eq, beq_eq_false_iff_ne, bne_eq_false_iff_eq, Bool.not_eq_true, Bool.not_eq_false, Bool.not_eq_true', Bool.not_eq_false', Bool.not_not, gt_iff_lt, ge_iff_le, Nat.not_lt, Int.not_lt, Int.not_le] at hc16
      refine Ev.reg [(5, .box 33 1 (encI .u64) 0 [(l.getD (2 * j) 0)]), (6, .box 33 1 (encI .u64) 0 (lvl (l.take (2 * (j + 1)))))] [0, 3, 4] (st' := ⟨[(0, (dL 1 (encI .u64) 0 l)), (3, (.own 0)), (4, (dI .i64 ((2 * j : Nat) : Int)))], [(.arr 33 1 (encI .u64) 0 (lvl (l.take (2 * (j + 1))))), (.arr 33 1 (encI .u64) 0 [(l.getD (2 * j) 0)])]⟩)
        (p := True ∧ True ∧ True ∧ (0 ≤ ((2 * j : Nat) : Int) ∧ ((2 * j : Nat) : Int) < (l.length : Int)) ∧ True ∧ eqRows [[(dI .u64 (l.getD (2 * j) 0))]] ([(l.getD (2 * j) 0)].map (encI .u64)) ∧ ((lvl (l.take (2 * j))).length + ([(l.getD (2 * j) 0)].map (encI .u64)).length ≤ 137438953472 ∧ (lvl (l.take (2 * j))).map (encI .u64) ++ [(l.getD (2 * j) 0)].map (encI .u64) = (lvl (l.take (2 * (j + 1)))).map (encI .u64)) ∧ True ∧ True) (by kernel_rfl)
        ⟨trivial, trivial, trivial, (by first | omega | (simp; first | done | omega)), trivial, ⟨⟨rfl, trivial⟩, trivial⟩, ⟨by simp only [List.length_map, List.length_cons, List.length_nil]; rw [lvl_len, List.length_take]; omega, by rw [lvl_last (by omega)]; simp⟩, trivial, trivial⟩ ?_
      refine Ev.reg [(1, .val (dI .i64 ((2 * (j + 1) : Nat) : Int)))] [0, 3, 4] (st' := ⟨[(0, (dL 1 (encI .u64) 0 l)), (3, (.own 0)), (4, (dI .i64 ((2 * (j + 1) : Nat) : Int)))], [(.arr 33 1 (encI .u64) 0 (lvl (l.take (2 * (j + 1))))), (.arr 33 1 (encI .u64) 0 [(l.getD (2 * j) 0)])]⟩)
        (p := True ∧ (True ∧ (IntKind.wrap .i64 (((2 * j : Nat) : Int) + 2)) = ((2 * (j + 1) : Nat) : Int)) ∧ True ∧ True) (by kernel_rfl)
        ⟨trivial, ⟨trivial, (w64n (by omega) (by omega))⟩, trivial, trivial⟩ ?_
      refine ⟨j + 1, by kernel_rfl, (?_ : 2 * (j + 1) ≤ l.length + 1), (?_ : l.length + 2 - 2 * (j + 1) < l.length + 2 - 2 * j)⟩
      · omega
      · omega
  · simp only [decide_eq_true_eq, decide_eq_false_iff_not, beq_iff_eq, bne_iff_ne, ne_eq, beq_eq_false_iff_ne, bne_eq_false_iff_eq, Bool.not_eq_true, Bool.not_eq_false, Bool.not_eq_true', Bool.not_eq_false', Bool.not_not, gt_iff_lt, ge_iff_le, Nat.not_lt, Int.not_lt, Int.not_le] at hc9
    refine Ev.exit ?_
    refine Ev.seq ?_
    refine Ev.reg [] [2] (st' := ⟨[(2, (.own 0))], [(.arr 33 1 (encI .u64) 0 (lvl (l.take (2 * j))))]⟩)
      (p := True ∧ True ∧ True) (by kernel_rfl)
      ⟨trivial, trivial, trivial⟩ ?_
    refine Ev.ret ?_
    refine ⟨⟨trivial, trivial⟩, (?_ : (lvl (l.take (2 * j))).map (encI .u64) = (lvl l).map (encI .u64)), .inr (fun _ _ => rfl)⟩
    rw [List.take_of_length_le (by omega)]

set_option maxRecDepth 100000 in
theorem rootR_ok (l : List Int) (hl : l.length ≤ 65536) : CallOk Try.prog 45 [(dL 1 (encI .u64) 0 l)] [] false (dI .u64 (rootF l)) [] := by
  refine CallOk.of_ev Try.func45 rfl rfl rfl ?_
  rintro ⟨_, W, S0, _, susp, _⟩ rfl rfl rfl
  refine Ev.seq ?_
  refine Ev.reg [] [0] (st' := ⟨[(0, (dL 1 (encI .u64) 0 l))], []⟩)
    (p := True ∧ True) (by kernel_rfl)
    ⟨trivial, trivial⟩ ?_
  refine Ev.seq ?_
  refine Ev.seq ?_
  refine Ev.reg [] [0, 5] (st' := ⟨[(0, (dL 1 (encI .u64) 0 l)), (5, (dB (((l.length : Nat) : Int) == 0)))], []⟩)
    (p := True ∧ True ∧ True ∧ True) (by kernel_rfl)
    ⟨trivial, trivial, trivial, trivial⟩ ?_
  refine Ev.cond _ rfl (fun hc5 => ?_) (fun hc5 => ?_)
  · simp only [decide_eq_true_eq, decide_eq_false_iff_not, beq_iff_eq, bne_iff_ne, ne_eq, beq_eq_false_iff_ne, bne_eq_false_iff_eq, Bool.not_eq_true, Bool.not_eq_false, Bool.not_eq_true', Bool.not_eq_false', Bool.not_not, gt_iff_lt, ge_iff_le, Nat.not_lt, Int.not_lt, Int.not_le] at hc5
    refine Ev.seq ?_
    refine Ev.reg [(0, .frz 3 1 (encI .i64) 0 ([] : List Int)), (1, .call none false (dI .u64 (wordsF ([] : List Int))))] [2] (st' := ⟨[(2, (dI .u64 (wordsF ([] : List Int))))], [.dead]⟩)
      (p := eqRows [] (([] : List Int).map (encI .i64)) ∧ callOb Try.prog 38 [.dead] [(dL 1 (encI .i64) 0 ([] : List Int))] none false (dI .u64 (wordsF ([] : List Int))) ∧ True ∧ True) (by kernel_rfl)
      ⟨trivial, (wordsR_ok _), trivial, trivial⟩ ?_
    refine Ev.ret ?_
    refine ⟨⟨trivial, trivial⟩, (?_ : (wordsF ([] : List Int)) = (rootF l)), .inr trivial⟩
    rw [show l = [] from List.eq_nil_of_length_eq_zero (by omega)]; rfl
  · simp only [decide_eq_true_eq, decide_eq_false_iff_not, beq_iff_eq, bne_iff_ne, ne_eq, beq_eq_false_iff_ne, bne_eq_false_iff_eq, Bool.not_eq_true, Bool.not_eq_false, Bool.not_eq_true', Bool.not_eq_false', Bool.not_not, gt_iff_lt, ge_iff_le, Nat.not_lt, Int.not_lt, Int.not_le] at hc5
    refine Ev.skip ?_
    refine Ev.seq ?_
    refine Ev.block ?_
    refine Ev.loop [0] 0 (fun (c : List Int) => ⟨[(0, (dL 1 (encI .u64) 0 c))], []⟩) (fun (c : List Int) => 1 ≤ c.length ∧ c.length ≤ l.length ∧ rootF c = rootF l) (fun (c : List Int) => c.length) l (by kernel_rfl) (⟨by omega, Nat.le_refl _, rfl⟩) ?_
    rintro c hinv
    have hinv : 1 ≤ c.length ∧ c.length ≤ l.length ∧ rootF c = rootF l := hinv
    obtain ⟨h1, h2, h3⟩ := hinv
    refine Ev.seq ?_
    refine Ev.seq ?_
    refine Ev.reg [] [0, 10] (st' := ⟨[(0, (dL 1 (encI .u64) 0 c)), (10, (dB (decide (((c.length : Nat) : Int) > 1))))], []⟩)
      (p := True ∧ True ∧ True ∧ True) (by kernel_rfl)
      ⟨trivial, trivial, trivial, trivial⟩ ?_
    refine Ev.cond _ rfl (fun hc10 => ?_) (fun hc10 => ?_)
    · simp only [decide_eq_true_eq, decide_eq_false_iff_not, beq_iff_eq, bne_iff_ne, ne_eq, beq_eq_false_iff_ne, bne_eq_false_iff_eq, Bool.not_eq_true, Bool.not_eq_false, Bool.not_eq_true', Bool.not_eq_false', Bool.not_not, gt_iff_lt, ge_iff_le, Nat.not_lt, Int.not_lt, Int.not_le] at hc10
      refine Ev.skip ?_
      refine Ev.block ?_
      refine Ev.reg [(1, .call none false (dL 1 (encI .u64) 0 (lvl c)))] [0] (st' := ⟨[(0, (dL 1 (encI .u64) 0 (lvl c)))], []⟩)
        (p := True ∧ callOb Try.prog 61 [] [(dL 1 (encI .u64) 0 c)] none false (dL 1 (encI .u64) 0 (lvl c)) ∧ True ∧ True) (by kernel_rfl)
        ⟨trivial, (level_ok _ (by first | omega | (simp; first | done | omega))), trivial, trivial⟩ ?_
      refine ⟨lvl c, by kernel_rfl, (?_ : 1 ≤ (lvl c).length ∧ (lvl c).length ≤ l.length ∧ rootF (lvl c) = rootF l), (?_ : (lvl c).length < c.length)⟩
      · exact ⟨by rw [lvl_len]; omega, by rw [lvl_len]; omega, by rw [root_lvl c.length c (Nat.le_refl _) h1]; exact h3⟩
      · rw [lvl_len]; omega
    · simp only [decide_eq_true_eq, decide_eq_false_iff_not, beq_iff_eq, bne_iff_ne, ne_eq, beq_eq_false_iff_ne, bne_eq_false_iff_eq, Bool.not_eq_true, Bool.not_eq_false, Bool.not_eq_true', Bool.not_eq_false', Bool.not_not, gt_iff_lt, ge_iff_le, Nat.not_lt, Int.not_lt, Int.not_le] at hc10
      refine Ev.exit ?_
      refine Ev.seq ?_
      refine Ev.reg [] [2] (st' := ⟨[(2, (dI .u64 (c.getD 0 0)))], []⟩)
        (p := True ∧ (0 ≤ (0 : Int) ∧ 0 < (c.length : Int)) ∧ True ∧ True ∧ True) (by kernel_rfl)
        ⟨trivial, (by first | omega | (simp; first | done | omega)), trivial, trivial, trivial⟩ ?_
      refine Ev.ret ?_
      refine ⟨⟨trivial, trivial⟩, (?_ : (c.getD 0 0) = (rootF l)), .inr trivial⟩
      rw [← h3]
      match c, h1, hc10 with
      | [x], _, _ => rfl
      | x :: y :: c, _, hh => exact absurd hh (by simp; omega)

set_option maxRecDepth 100000 in
theorem pathBad_ok (l : List Int) (i : Int) (hl : l.length ≤ 65536) (hbad : i < 0 ∨ (l.length : Int) ≤ i) : CallOk Try.prog 46 [(dL 1 (encI .u64) 0 l), (dI .i64 i)] [] true (.agg [(dL 1 (encI .u64) 0 (pathList l i)), (dI .i64 (pathErr l i))]) [] := by
  refine CallOk.of_ev Try.func46 rfl rfl rfl ?_
  rintro ⟨_, W, S0, _, susp, _⟩ rfl rfl rfl
  refine Ev.seq ?_
  refine Ev.reg [] [0, 1, 4] (st' := ⟨[(0, (dL 1 (encI .u64) 0 l)), (1, (dI .i64 i)), (4, (.ptr 0 0 0 0))], [(.var 29 [.nils, (dI .i64 0)])]⟩)
    (p := True ∧ True) (by kernel_rfl)
    ⟨trivial, trivial⟩ ?_
  refine Ev.seq ?_
  refine Ev.seq ?_
  rcases (show i < 0 ∨ (0 ≤ i ∧ (l.length : Int) ≤ i) from by omega) with hi | hi
  · skip
    refine Ev.reg [(1, .val (dB true))] [0, 1, 4, 13] (st' := ⟨[(0, (dL 1 (encI .u64) 0 l)), (1, (dI .i64 i)), (4, (.ptr 0 0 0 0)), (13, (dB true))], [(.var 29 [.nils, (dI .i64 0)])]⟩)
      (p := True ∧ (True ∧ (decide (i < 0)) = true) ∧ True ∧ True ∧ True ∧ True ∧ True ∧ True ∧ True) (by kernel_rfl)
      ⟨trivial, ⟨trivial, (by first | (simp; done) | (simp; omega))⟩, trivial, trivial, trivial, trivial, trivial, trivial, trivial⟩ ?_
    refine Ev.cond true rfl (fun _ => ?_) (fun h => (by cases h))
    refine Ev.seq ?_
    refine Ev.reg [] [4] (st' := ⟨[(4, (.ptr 0 0 0 0))], [(.var 29 [.nils, (dI .i64 1)])]⟩)
      (p := True ∧ True ∧ True) (by kernel_rfl)
      ⟨trivial, trivial, trivial⟩ ?_
    refine Ev.ret ?_
    refine ⟨⟨trivial, trivial⟩, (?_ : (pathList l i) = [] ∧ (1 : Int) = (pathErr l i) ∧ True), .inl rfl⟩
    have hb : badPath l i = true := decide_eq_true hbad
    exact ⟨by simp [pathList, hb], by simp [pathErr, hb], trivial⟩
  · skip
    refine Ev.reg [(1, .val (dB false)), (6, .val (dB true))] [0, 1, 4, 13] (st' := ⟨[(0, (dL 1 (encI .u64) 0 l)), (1, (dI .i64 i)), (4, (.ptr 0 0 0 0)), (13, (dB true))], [(.var 29 [.nils, (dI .i64 0)])]⟩)
      (p := True ∧ (True ∧ (decide (i < 0)) = false) ∧ True ∧ True ∧ True ∧ True ∧ (True ∧ (decide (i ≥ ((l.length : Nat) : Int))) = true) ∧ True ∧ True) (by kernel_rfl)
      ⟨trivial, ⟨trivial, (by first | (simp; done) | (simp; omega))⟩, trivial, trivial, trivial, trivial, ⟨trivial, (by first | (simp; done) | (simp; omega))⟩, trivial, trivial⟩ ?_
    refine Ev.cond true rfl (fun _ => ?_) (fun h => (by cases h))
    refine Ev.seq ?_
    refine Ev.reg [] [4] (st' := ⟨[(4, (.ptr 0 0 0 0))], [(.var 29 [.nils, (dI .i64 1)])]⟩)
      (p := True ∧ True ∧ True) (by kernel_rfl)
      ⟨trivial, trivial, trivial⟩ ?_
    refine Ev.ret ?_
    refine ⟨⟨trivial, trivial⟩, (?_ : (pathList l i) = [] ∧ (1 : Int) = (pathErr l i) ∧ True), .inl rfl⟩
    have hb : badPath l i = true := decide_eq_true hbad
    exact ⟨by simp [pathList, hb], by simp [pathErr, hb], trivial⟩

set_option maxRecDepth 100000 in
theorem pathGood_ok (l : List Int) (k0 : Nat) (hl : l.length ≤ 65536) (hk : k0 < l.length) : CallOk Try.prog 46 [(dL 1 (encI .u64) 0 l), (dI .i64 ((k0 : Nat) : Int))] [] true (.agg [(dL 1 (encI .u64) 0 (pathF l k0)), (dI .i64 0)]) [] := by
  refine CallOk.of_ev Try.func46 rfl rfl rfl ?_
  rintro ⟨_, W, S0, _, susp, _⟩ rfl rfl rfl
  refine Ev.seq ?_
  refine Ev.reg [] [0, 1, 4] (st' := ⟨[(0, (dL 1 (encI .u64) 0 l)), (1, (dI .i64 ((k0 : Nat) : Int))), (4, (.ptr 0 0 0 0))], [(.var 29 [.nils, (dI .i64 0)])]⟩)
    (p := True ∧ True) (by kernel_rfl)
    ⟨trivial, trivial⟩ ?_
  refine Ev.seq ?_
  refine Ev.seq ?_
  refine Ev.reg [(1, .val (dB false)), (6, .val (dB false))] [0, 1, 4, 13] (st' := ⟨[(0, (dL 1 (encI .u64) 0 l)), (1, (dI .i64 ((k0 : Nat) : Int))), (4, (.ptr 0 0 0 0)), (13, (dB false))], [(.var 29 [.nils, (dI .i64 0)])]⟩)
    (p := True ∧ (True ∧ (decide (((k0 : Nat) : Int) < 0)) = false) ∧ True ∧ True ∧ True ∧ True ∧ (True ∧ (decide (((k0 : Nat) : Int) ≥ ((l.length : Nat) : Int))) = false) ∧ True ∧ True) (by kernel_rfl)
    ⟨trivial, ⟨trivial, (by first | (simp; done) | (simp; omega))⟩, trivial, trivial, trivial, trivial, ⟨trivial, (by first | (simp; done) | (simp; omega))⟩, trivial, trivial⟩ ?_
  refine Ev.cond false rfl (fun h => (by cases h)) (fun _ => ?_)
  refine Ev.skip ?_
  refine Ev.seq ?_
  refine Ev.reg [(0, .box 33 1 (encI .u64) 0 ([] : List Int))] [0, 1, 4, 5] (st' := ⟨[(0, (dL 1 (encI .u64) 0 l)), (1, (dI .i64 ((k0 : Nat) : Int))), (4, (.ptr 0 0 0 0)), (5, (.own 1))], [(.var 29 [.nils, (dI .i64 0)]), (.arr 33 1 (encI .u64) 0 ([] : List Int))]⟩)
    (p := eqRows [] (([] : List Int).map (encI .u64)) ∧ True ∧ True) (by kernel_rfl)
    ⟨trivial, trivial, trivial⟩ ?_
  refine Ev.seq ?_
  refine Ev.block ?_
  refine Ev.loop [0, 1, 4, 5] 2 (fun (⟨c, k, o⟩ : List Int × Nat × List Int) => ⟨[(0, (dL 1 (encI .u64) 0 c)), (1, (dI .i64 ((k : Nat) : Int))), (4, (.ptr 0 0 0 0)), (5, (.own 1))], [(.var 29 [.nils, (dI .i64 0)]), (.arr 33 1 (encI .u64) 0 o)]⟩) (fun (⟨c, k, o⟩ : List Int × Nat × List Int) => k < c.length ∧ o.length + c.length ≤ l.length ∧ o ++ pathF c k = pathF l k0) (fun (⟨c, k, o⟩ : List Int × Nat × List Int) => c.length) ⟨l, k0, []⟩ (by kernel_rfl) (⟨by omega, by simp, rfl⟩) ?_
  rintro ⟨c, k, o⟩ hinv
  have hinv : k < c.length ∧ o.length + c.length ≤ l.length ∧ o ++ pathF c k = pathF l k0 := hinv
  obtain ⟨h1, h2, h3⟩ := hinv
  refine Ev.seq ?_
  refine Ev.seq ?_
  refine Ev.reg [] [0, 1, 4, 5, 18] (st' := ⟨[(0, (dL 1 (encI .u64) 0 c)), (1, (dI .i64 ((k : Nat) : Int))), (4, (.ptr 0 0 0 0)), (5, (.own 1)), (18, (dB (decide (((c.length : Nat) : Int) > 1))))], [(.var 29 [.nils, (dI .i64 0)]), (.arr 33 1 (encI .u64) 0 o)]⟩)
    (p := True ∧ True ∧ True ∧ True) (by kernel_rfl)
    ⟨trivial, trivial, trivial, trivial⟩ ?_
  refine Ev.cond _ rfl (fun hc18 => ?_) (fun hc18 => ?_)
  · simp only [decide_eq_true_eq, decide_eq_false_iff_not, beq_iff_eq, bne_iff_ne, ne_eq, beq_eq_false_iff_ne, bne_eq_false_iff_eq, Bool.not_eq_true, Bool.not_eq_false, Bool.not_eq_true', Bool.not_eq_false', Bool.not_not, gt_iff_lt, ge_iff_le, Nat.not_lt, Int.not_lt, Int.not_le] at hc18
    refine Ev.skip ?_
    refine Ev.block ?_
    refine Ev.seq ?_
    refine Ev.seq ?_
    refine Ev.reg [(1, .val (dI .i64 ((k % 2 : Nat) : Int)))] [0, 1, 4, 5, 21] (st' := ⟨[(0, (dL 1 (encI .u64) 0 c)), (1, (dI .i64 ((k : Nat) : Int))), (4, (.ptr 0 0 0 0)), (5, (.own 1)), (21, (dB (((k % 2 : Nat) : Int) == 1)))], [(.var 29 [.nils, (dI .i64 0)]), (.arr 33 1 (encI .u64) 0 o)]⟩)
      (p := True ∧ ((2 : Int) ≠ 0 ∧ (Int.tmod ((k : Nat) : Int) 2) = ((k % 2 : Nat) : Int)) ∧ True ∧ True) (by kernel_rfl)
      ⟨trivial, ⟨(by first | omega | (simp; first | done | omega)), (tmodN _ 2)⟩, trivial, trivial⟩ ?_
    refine Ev.cond _ rfl (fun hc21 => ?_) (fun hc21 => ?_)
    · simp only [decide_eq_true_eq, decide_eq_false_iff_not, beq_iff_eq, bne_iff_ne, ne_eq, beq_eq_false_iff_ne, bne_eq_false_iff_eq, Bool.not_eq_true, Bool.not_eq_false, Bool.not_eq_true', Bool.not_eq_false', Bool.not_not, gt_iff_lt, ge_iff_le, Nat.not_lt, Int.not_lt, Int.not_le] at hc21
      refine Ev.reg [(3, .val (dI .i64 ((k - 1 : Nat) : Int))), (6, .box 33 1 (encI .u64) 0 [(c.getD (k - 1) 0)]), (7, .box 33 1 (encI .u64) 0 (o ++ [(c.getD (k - 1) 0)]))] [0, 1, 4, 5] (st' := ⟨[(0, (dL 1 (encI .u64) 0 c)), (1, (dI .i64 ((k : Nat) : Int))), (4, (.ptr 0 0 0 0)), (5, (.own 1))], [(.var 29 [.nils, (dI .i64 0)]), (.arr 33 1 (encI .u64) 0 (o ++ [(c.getD (k - 1) 0)])), (.arr 33 1 (encI .u64) 0 [(c.getD (k - 1) 0)])]⟩)
        (p := True ∧ True ∧ True ∧ (True ∧ (IntKind.wrap .i64 (((k : Nat) : Int) - 1)) = ((k - 1 : Nat) : Int)) ∧ (0 ≤ ((k - 1 : Nat) : Int) ∧ ((k - 1 : Nat) : Int) < (c.length : Int)) ∧ True ∧ eqRows [[(dI .u64 (c.getD (k - 1) 0))]] ([(c.getD (k - 1) 0)].map (encI .u64)) ∧ (o.length + ([(c.getD (k - 1) 0)].map (encI .u64)).length ≤ 137438953472 ∧ o.map (encI .u64) ++ [(c.getD (k - 1) 0)].map (encI .u64) = (o ++ [(c.getD (k - 1) 0)]).map (encI .u64)) ∧ True ∧ True) (by kernel_rfl)
        ⟨trivial, trivial, trivial, ⟨trivial, (w64n (by omega) (by omega))⟩, (by first | omega | (simp; first | done | omega)), trivial, ⟨⟨rfl, trivial⟩, trivial⟩, ⟨by simp only [List.length_map, List.length_cons, List.length_nil]; omega, by simp only [List.map_append, List.map_nil, List.append_nil]⟩, trivial, trivial⟩ ?_
      refine Ev.seq ?_
      refine Ev.reg [(1, .call none false (dL 1 (encI .u64) 0 (lvl c)))] [0, 1, 4, 5] (st' := ⟨[(0, (dL 1 (encI .u64) 0 (lvl c))), (1, (dI .i64 ((k : Nat) : Int))), (4, (.ptr 0 0 0 0)), (5, (.own 1))], [(.var 29 [.nils, (dI .i64 0)]), (.arr 33 1 (encI .u64) 0 (o ++ [(c.getD (k - 1) 0)])), (.arr 33 1 (encI .u64) 0 [(c.getD (k - 1) 0)])]⟩)
        (p := True ∧ callOb Try.prog 61 [(.var 29 [.nils, (dI .i64 0)]), (.arr 33 1 (encI .u64) 0 (o ++ [(c.getD (k - 1) 0)])), (.arr 33 1 (encI .u64) 0 [(c.getD (k - 1) 0)])] [(dL 1 (encI .u64) 0 c)] none false (dL 1 (encI .u64) 0 (lvl c)) ∧ True ∧ True) (by kernel_rfl)
        ⟨trivial, (level_ok _ (by first | omega | (simp; first | done | omega))), trivial, trivial⟩ ?_
      refine Ev.reg [(1, .val (dI .i64 ((k / 2 : Nat) : Int)))] [0, 1, 4, 5] (st' := ⟨[(0, (dL 1 (encI .u64) 0 (lvl c))), (1, (dI .i64 ((k / 2 : Nat) : Int))), (4, (.ptr 0 0 0 0)), (5, (.own 1))], [(.var 29 [.nils, (dI .i64 0)]), (.arr 33 1 (encI .u64) 0 (o ++ [(c.getD (k - 1) 0)])), (.arr 33 1 (encI .u64) 0 [(c.getD (k - 1) 0)])]⟩)
        (p := True ∧ ((2 : Int) ≠ 0 ∧ (IntKind.wrap .i64 (Int.tdiv ((k : Nat) : Int) 2)) = ((k / 2 : Nat) : Int)) ∧ True ∧ True) (by kernel_rfl)
        ⟨trivial, ⟨(by first | omega | (simp; first | done | omega)), (w64n (tdivN _ 2) (by omega))⟩, trivial, trivial⟩ ?_
      refine ⟨⟨lvl c, k / 2, o ++ [c.getD (k - 1) 0]⟩, by kernel_rfl, (?_ : (k / 2) < (lvl c).length ∧ (o ++ [c.getD (k - 1) 0]).length + (lvl c).length ≤ l.length ∧ (o ++ [c.getD (k - 1) 0]) ++ pathF (lvl c) (k / 2) = pathF l k0), (?_ : (lvl c).length < c.length)⟩
      · refine ⟨by rw [lvl_len]; omega, by simp only [List.length_append, List.length_cons, List.length_nil, lvl_len]; omega, ?_⟩
        have hp := path_lvl c.length c k (Nat.le_refl _) (by omega) h1
        have hs : sib c k = [c.getD (k - 1) 0] := by unfold sib; rw [if_pos (by omega)]
        rw [← h3, hp, hs]
        simp
      · rw [lvl_len]; omega
    · simp only [decide_eq_true_eq, decide_eq_false_iff_not, beq_iff_eq, bne_iff_ne, ne_eq, beq_eq_false_iff_ne, bne_eq_false_iff_eq, Bool.not_eq_true, Bool.not_eq_false, Bool.not_eq_true', Bool.not_eq_false', Bool.not_not, gt_iff_lt, ge_iff_le, Nat.not_lt, Int.not_lt, Int.not_le] at hc21
      refine Ev.seq ?_
      refine Ev.reg [(1, .val (dI .i64 ((k + 1 : Nat) : Int)))] [0, 1, 4, 5, 34] (st' := ⟨[(0, (dL 1 (encI .u64) 0 c)), (1, (dI .i64 ((k : Nat) : Int))), (4, (.ptr 0 0 0 0)), (5, (.own 1)), (34, (dB (decide (((k + 1 : Nat) : Int) < ((c.length : Nat) : Int)))))], [(.var 29 [.nils, (dI .i64 0)]), (.arr 33 1 (encI .u64) 0 o)]⟩)
        (p := True ∧ (True ∧ (IntKind.wrap .i64 (((k : Nat) : Int) + 1)) = ((k + 1 : Nat) : Int)) ∧ True ∧ True ∧ True ∧ True) (by kernel_rfl)
        ⟨trivial, ⟨trivial, (w64n (by first | rfl | simp | omega) (by first | omega | (simp; first | done | omega)))⟩, trivial, trivial, trivial, trivial⟩ ?_
      refine Ev.cond _ rfl (fun hc34 => ?_) (fun hc34 => ?_)
      · simp only [decide_eq_true_eq, decide_eq_false_iff_not, beq_iff_eq, bne_iff_ne, ne_eq, beq_eq_false_iff_ne, bne_eq_false_iff_eq, Bool.not_eq_true, Bool.not_eq_false, Bool.not_eq_true', Bool.not_eq_false', Bool.not_not, gt_iff_lt, ge_iff_le, Nat.not_lt, Int.not_lt, Int.not_le] at hc34
        refine Ev.reg [(3, .val (dI .i64 ((k + 1 : Nat) : Int))), (6, .box 33 1 (encI .u64) 0 [(c.getD (k + 1) 0)]), (7, .box 33 1 (encI .u64) 0 (o ++ [(c.getD (k + 1) 0)]))] [0, 1, 4, 5] (st' := ⟨[(0, (dL 1 (encI .u64) 0 c)), (1, (dI .i64 ((k : Nat) : Int))), (4, (.ptr 0 0 0 0)), (5, (.own 1))], [(.var 29 [.nils, (dI .i64 0)]), (.arr 33 1 (encI .u64) 0 (o ++ [(c.getD (k + 1) 0)])), (.arr 33 1 (encI .u64) 0 [(c.getD (k + 1) 0)])]⟩)
          (p := True ∧ True ∧ True ∧ (True ∧ (IntKind.wrap .i64 (((k : Nat) : Int) + 1)) = ((k + 1 : Nat) : Int)) ∧ (0 ≤ ((k + 1 : Nat) : Int) ∧ ((k + 1 : Nat) : Int) < (c.length : Int)) ∧ True ∧ eqRows [[(dI .u64 (c.getD (k + 1) 0))]] ([(c.getD (k + 1) 0)].map (encI .u64)) ∧ (o.length + ([(c.getD (k + 1) 0)].map (encI .u64)).length ≤ 137438953472 ∧ o.map (encI .u64) ++ [(c.getD (k + 1) 0)].map (encI .u64) = (o ++ [(c.getD (k + 1) 0)]).map (encI .u64)) ∧ True ∧ True) (by kernel_rfl)
          ⟨trivial, trivial, trivial, ⟨trivial, (w64n (by first | rfl | simp | omega) (by first | omega | (simp; first | done | omega)))⟩, (by first | omega | (simp; first | done | omega)), trivial, ⟨⟨rfl, trivial⟩, trivial⟩, ⟨by simp only [List.length_map, List.length_cons, List.length_nil]; omega, by simp only [List.map_append, List.map_nil, List.append_nil]⟩, trivial, trivial⟩ ?_
        refine Ev.seq ?_
        refine Ev.reg [(1, .call none false (dL 1 (encI .u64) 0 (lvl c)))] [0, 1, 4, 5] (st' := ⟨[(0, (dL 1 (encI .u64) 0 (lvl c))), (1, (dI .i64 ((k : Nat) : Int))), (4, (.ptr 0 0 0 0)), (5, (.own 1))], [(.var 29 [.nils, (dI .i64 0)]), (.arr 33 1 (encI .u64) 0 (o ++ [(c.getD (k + 1) 0)])), (.arr 33 1 (encI .u64) 0 [(c.getD (k + 1) 0)])]⟩)
          (p := True ∧ callOb Try.prog 61 [(.var 29 [.nils, (dI .i64 0)]), (.arr 33 1 (encI .u64) 0 (o ++ [(c.getD (k + 1) 0)])), (.arr 33 1 (encI .u64) 0 [(c.getD (k + 1) 0)])] [(dL 1 (encI .u64) 0 c)] none false (dL 1 (encI .u64) 0 (lvl c)) ∧ True ∧ True) (by kernel_rfl)
          ⟨trivial, (level_ok _ (by first | omega | (simp; first | done | omega))), trivial, trivial⟩ ?_
        refine Ev.reg [(1, .val (dI .i64 ((k / 2 : Nat) : Int)))] [0, 1, 4, 5] (st' := ⟨[(0, (dL 1 (encI .u64) 0 (lvl c))), (1, (dI .i64 ((k / 2 : Nat) : Int))), (4, (.ptr 0 0 0 0)), (5, (.own 1))], [(.var 29 [.nils, (dI .i64 0)]), (.arr 33 1 (encI .u64) 0 (o ++ [(c.getD (k + 1) 0)])), (.arr 33 1 (encI .u64) 0 [(c.getD (k + 1) 0)])]⟩)
          (p := True ∧ ((2 : Int) ≠ 0 ∧ (IntKind.wrap .i64 (Int.tdiv ((k : Nat) : Int) 2)) = ((k / 2 : Nat) : Int)) ∧ True ∧ True) (by kernel_rfl)
          ⟨trivial, ⟨(by first | omega | (simp; first | done | omega)), (w64n (tdivN _ 2) (by omega))⟩, trivial, trivial⟩ ?_
        refine ⟨⟨lvl c, k / 2, o ++ [c.getD (k + 1) 0]⟩, by kernel_rfl, (?_ : (k / 2) < (lvl c).length ∧ (o ++ [c.getD (k + 1) 0]).length + (lvl c).length ≤ l.length ∧ (o ++ [c.getD (k + 1) 0]) ++ pathF (lvl c) (k / 2) = pathF l k0), (?_ : (lvl c).length < c.length)⟩
        · refine ⟨by rw [lvl_len]; omega, by simp only [List.length_append, List.length_cons, List.length_nil, lvl_len]; omega, ?_⟩
          have hp := path_lvl c.length c k (Nat.le_refl _) (by omega) h1
          have hs : sib c k = [c.getD (k + 1) 0] := by unfold sib; rw [if_neg (by omega), if_pos (by omega)]
          rw [← h3, hp, hs]
          simp
        · rw [lvl_len]; omega
      · simp only [decide_eq_true_eq, decide_eq_false_iff_not, beq_iff_eq, bne_iff_ne, ne_eq, beq_eq_false_iff_ne, bne_eq_false_iff_eq, Bool.not_eq_true, Bool.not_eq_false, Bool.not_eq_true', Bool.not_eq_false', Bool.not_not, gt_iff_lt, ge_iff_le, Nat.not_lt, Int.not_lt, Int.not_le] at hc34
        refine Ev.skip ?_
        refine Ev.seq ?_
        refine Ev.reg [(1, .call none false (dL 1 (encI .u64) 0 (lvl c)))] [0, 1, 4, 5] (st' := ⟨[(0, (dL 1 (encI .u64) 0 (lvl c))), (1, (dI .i64 ((k : Nat) : Int))), (4, (.ptr 0 0 0 0)), (5, (.own 1))], [(.var 29 [.nils, (dI .i64 0)]), (.arr 33 1 (encI .u64) 0 o)]⟩)
          (p := True ∧ callOb Try.prog 61 [(.var 29 [.nils, (dI .i64 0)]), (.arr 33 1 (encI .u64) 0 o)] [(dL 1 (encI .u64) 0 c)] none false (dL 1 (encI .u64) 0 (lvl c)) ∧ True ∧ True) (by kernel_rfl)
          ⟨trivial, (level_ok _ (by first | omega | (simp; first | done | omega))), trivial, trivial⟩ ?_
        refine Ev.reg [(1, .val (dI .i64 ((k / 2 : Nat) : Int)))] [0, 1, 4, 5] (st' := ⟨[(0, (dL 1 (encI .u64) 0 (lvl c))), (1, (dI .i64 ((k / 2 : Nat) : Int))), (4, (.ptr 0 0 0 0)), (5, (.own 1))], [(.var 29 [.nils, (dI .i64 0)]), (.arr 33 1 (encI .u64) 0 o)]⟩)
          (p := True ∧ ((2 : Int) ≠ 0 ∧ (IntKind.wrap .i64 (Int.tdiv ((k : Nat) : Int) 2)) = ((k / 2 : Nat) : Int)) ∧ True ∧ True) (by kernel_rfl)
          ⟨trivial, ⟨(by first | omega | (simp; first | done | omega)), (w64n (tdivN _ 2) (by omega))⟩, trivial, trivial⟩ ?_
        refine ⟨⟨lvl c, k / 2, o⟩, by kernel_rfl, (?_ : (k / 2) < (lvl c).length ∧ o.length + (lvl c).length ≤ l.length ∧ o ++ pathF (lvl c) (k / 2) = pathF l k0), (?_ : (lvl c).length < c.length)⟩
        · refine ⟨by rw [lvl_len]; omega, by simp only [List.length_append, List.length_cons, List.length_nil, lvl_len]; omega, ?_⟩
          have hp := path_lvl c.length c k (Nat.le_refl _) (by omega) h1
          have hs : sib c k = [] := by unfold sib; rw [if_neg (by omega), if_neg (by omega)]
          rw [← h3, hp, hs]
          simp
        · rw [lvl_len]; omega
  · simp only [decide_eq_true_eq, decide_eq_false_iff_not, beq_iff_eq, bne_iff_ne, ne_eq, beq_eq_false_iff_ne, bne_eq_false_iff_eq, Bool.not_eq_true, Bool.not_eq_false, Bool.not_eq_true', Bool.not_eq_false', Bool.not_not, gt_iff_lt, ge_iff_le, Nat.not_lt, Int.not_lt, Int.not_le] at hc18
    refine Ev.exit ?_
    refine Ev.seq ?_
    refine Ev.reg [] [4] (st' := ⟨[(4, (.ptr 0 0 0 0))], [(.var 29 [(.own 1), (dI .i64 0)]), (.arr 33 1 (encI .u64) 0 o)]⟩)
      (p := True ∧ True ∧ True ∧ True) (by kernel_rfl)
      ⟨trivial, trivial, trivial, trivial⟩ ?_
    refine Ev.ret ?_
    refine ⟨⟨trivial, trivial⟩, (?_ : o.map (encI .u64) = (pathF l k0).map (encI .u64) ∧ (0 : Int) = 0 ∧ True), .inl rfl⟩
    rw [pathF_small c k (by omega), List.append_nil] at h3
    exact ⟨by rw [h3], rfl, trivial⟩

theorem pathIn_ok (l : List Int) (i : Int) (hl : l.length ≤ 65536) : CallOk Try.prog 46 [dL 1 (encI .u64) 0 l, dI .i64 i] [] true (.agg [dL 1 (encI .u64) 0 (pathList l i), dI .i64 (pathErr l i)]) [] := by
  by_cases hb : i < 0 ∨ (l.length : Int) ≤ i
  · exact pathBad_ok l i hl hb
  · obtain ⟨k, rfl⟩ := Int.eq_ofNat_of_zero_le (a := i) (by omega)
    have h := pathGood_ok l k hl (by omega)
    have hf : badPath l (k : Int) = false := decide_eq_false hb
    have e1 : pathList l (k : Int) = pathF l k := by simp [pathList, hf]
    have e2 : pathErr l (k : Int) = 0 := by simp [pathErr, hf]
    rw [e1, e2]
    exact h

set_option maxRecDepth 100000 in
theorem checkR_ok (root n i d : Int) (p : List Int) (hp : p.length ≤ 9223372036854775807) : CallOk Try.prog 47 [(dI .u64 root), (.agg [(dI .i64 n), (dL 1 (encI .u64) 0 p)]), (.agg [(dI .i64 i), (dI .u64 d)])] [] false (dI .i64 (checkF root n i d p)) [] := by
  refine CallOk.of_ev Try.func47 rfl rfl rfl ?_
  rintro ⟨_, W, S0, _, susp, _⟩ rfl rfl rfl
  refine Ev.seq ?_
  refine Ev.reg [] [0, 4, 5] (st' := ⟨[(0, (dI .u64 root)), (4, (.ptr 0 0 0 0)), (5, (.ptr 1 0 0 0))], [(.var 36 [(dI .i64 n), (dL 1 (encI .u64) 0 p)]), (.var 38 [(dI .i64 i), (dI .u64 d)])]⟩)
    (p := True ∧ True ∧ True ∧ True) (by kernel_rfl)
    ⟨trivial, trivial, trivial, trivial⟩ ?_
  refine Ev.seq ?_
  refine Ev.seq ?_
  rcases (show n < 1 ∨ (1 ≤ n ∧ 4096 < n) ∨ (1 ≤ n ∧ n ≤ 4096 ∧ i < 0) ∨ (1 ≤ n ∧ n ≤ 4096 ∧ 0 ≤ i ∧ n ≤ i) ∨ (1 ≤ n ∧ n ≤ 4096 ∧ 0 ≤ i ∧ i < n) from by omega) with hx | hx | hx | hx | hx
  · skip
    refine Ev.reg [(2, .val (dB true))] [0, 4, 5, 29] (st' := ⟨[(0, (dI .u64 root)), (4, (.ptr 0 0 0 0)), (5, (.ptr 1 0 0 0)), (29, (dB true))], [(.var 36 [(dI .i64 n), (dL 1 (encI .u64) 0 p)]), (.var 38 [(dI .i64 i), (dI .u64 d)])]⟩)
      (p := True ∧ True ∧ (True ∧ (decide (n < 1)) = true) ∧ True ∧ True ∧ True ∧ True ∧ True ∧ True ∧ True ∧ True ∧ True ∧ True ∧ True ∧ True ∧ True ∧ True ∧ True ∧ True ∧ True ∧ True) (by kernel_rfl)
      ⟨trivial, trivial, ⟨trivial, (by first | (simp; done) | (simp; omega))⟩, trivial, trivial, trivial, trivial, trivial, trivial, trivial, trivial, trivial, trivial, trivial, trivial, trivial, trivial, trivial, trivial, trivial, trivial⟩ ?_
    refine Ev.cond true rfl (fun _ => ?_) (fun h => (by cases h))
    refine Ev.seq ?_
    refine Ev.reg [] [6] (st' := ⟨[(6, (dI .i64 1))], [(.var 36 [(dI .i64 n), (dL 1 (encI .u64) 0 p)]), (.var 38 [(dI .i64 i), (dI .u64 d)])]⟩)
      (p := True ∧ True) (by kernel_rfl)
      ⟨trivial, trivial⟩ ?_
    refine Ev.ret ?_
    refine ⟨⟨trivial, trivial⟩, (?_ : (1 : Int) = (checkF root n i d p)), .inr trivial⟩
    rw [checkF_sides, if_pos (show badCheck n i = true from decide_eq_true (by omega))]
  · skip
    refine Ev.reg [(2, .val (dB false)), (6, .val (dB true))] [0, 4, 5, 29] (st' := ⟨[(0, (dI .u64 root)), (4, (.ptr 0 0 0 0)), (5, (.ptr 1 0 0 0)), (29, (dB true))], [(.var 36 [(dI .i64 n), (dL 1 (encI .u64) 0 p)]), (.var 38 [(dI .i64 i), (dI .u64 d)])]⟩)
      (p := True ∧ True ∧ (True ∧ (decide (n < 1)) = false) ∧ True ∧ True ∧ True ∧ (True ∧ (decide (n > 4096)) = true) ∧ True ∧ True ∧ True ∧ True ∧ True ∧ True ∧ True ∧ True ∧ True ∧ True ∧ True ∧ True ∧ True ∧ True) (by kernel_rfl)
      ⟨trivial, trivial, ⟨trivial, (by first | (simp; done) | (simp; omega))⟩, trivial, trivial, trivial, ⟨trivial, (by first | (simp; done) | (simp; omega))⟩, trivial, trivial, trivial, trivial, trivial, trivial, trivial, trivial, trivial, trivial, trivial, trivial, trivial, trivial⟩ ?_
    refine Ev.cond true rfl (fun _ => ?_) (fun h => (by cases h))
    refine Ev.seq ?_
    refine Ev.reg [] [6] (st' := ⟨[(6, (dI .i64 1))], [(.var 36 [(dI .i64 n), (dL 1 (encI .u64) 0 p)]), (.var 38 [(dI .i64 i), (dI .u64 d)])]⟩)
      (p := True ∧ True) (by kernel_rfl)
      ⟨trivial, trivial⟩ ?_
    refine Ev.ret ?_
    refine ⟨⟨trivial, trivial⟩, (?_ : (1 : Int) = (checkF root n i d p)), .inr trivial⟩
    rw [checkF_sides, if_pos (show badCheck n i = true from decide_eq_true (by omega))]
  · skip
    refine Ev.reg [(2, .val (dB false)), (6, .val (dB false)), (11, .val (dB true))] [0, 4, 5, 29] (st' := ⟨[(0, (dI .u64 root)), (4, (.ptr 0 0 0 0)), (5, (.ptr 1 0 0 0)), (29, (dB true))], [(.var 36 [(dI .i64 n), (dL 1 (encI .u64) 0 p)]), (.var 38 [(dI .i64 i), (dI .u64 d)])]⟩)
      (p := True ∧ True ∧ (True ∧ (decide (n < 1)) = false) ∧ True ∧ True ∧ True ∧ (True ∧ (decide (n > 4096)) = false) ∧ True ∧ True ∧ True ∧ True ∧ (True ∧ (decide (i < 0)) = true) ∧ True ∧ True ∧ True ∧ True ∧ True ∧ True ∧ True ∧ True ∧ True) (by kernel_rfl)
      ⟨trivial, trivial, ⟨trivial, (by first | (simp; done) | (simp; omega))⟩, trivial, trivial, trivial, ⟨trivial, (by first | (simp; done) | (simp; omega))⟩, trivial, trivial, trivial, trivial, ⟨trivial, (by first | (simp; done) | (simp; omega))⟩, trivial, trivial, trivial, trivial, trivial, trivial, trivial, trivial, trivial⟩ ?_
    refine Ev.cond true rfl (fun _ => ?_) (fun h => (by cases h))
    refine Ev.seq ?_
    refine Ev.reg [] [6] (st' := ⟨[(6, (dI .i64 1))], [(.var 36 [(dI .i64 n), (dL 1 (encI .u64) 0 p)]), (.var 38 [(dI .i64 i), (dI .u64 d)])]⟩)
      (p := True ∧ True) (by kernel_rfl)
      ⟨trivial, trivial⟩ ?_
    refine Ev.ret ?_
    refine ⟨⟨trivial, trivial⟩, (?_ : (1 : Int) = (checkF root n i d p)), .inr trivial⟩
    rw [checkF_sides, if_pos (show badCheck n i = true from decide_eq_true (by omega))]
  · skip
    refine Ev.reg [(2, .val (dB false)), (6, .val (dB false)), (11, .val (dB false)), (18, .val (dB true))] [0, 4, 5, 29] (st' := ⟨[(0, (dI .u64 root)), (4, (.ptr 0 0 0 0)), (5, (.ptr 1 0 0 0)), (29, (dB true))], [(.var 36 [(dI .i64 n), (dL 1 (encI .u64) 0 p)]), (.var 38 [(dI .i64 i), (dI .u64 d)])]⟩)
      (p := True ∧ True ∧ (True ∧ (decide (n < 1)) = false) ∧ True ∧ True ∧ True ∧ (True ∧ (decide (n > 4096)) = false) ∧ True ∧ True ∧ True ∧ True ∧ (True ∧ (decide (i < 0)) = false) ∧ True ∧ True ∧ True ∧ True ∧ True ∧ True ∧ (True ∧ (decide (i ≥ n)) = true) ∧ True ∧ True) (by kernel_rfl)
      ⟨trivial, trivial, ⟨trivial, (by first | (simp; done) | (simp; omega))⟩, trivial, trivial, trivial, ⟨trivial, (by first | (simp; done) | (simp; omega))⟩, trivial, trivial, trivial, trivial, ⟨trivial, (by first | (simp; done) | (simp; omega))⟩, trivial, trivial, trivial, trivial, trivial, trivial, ⟨trivial, (by first | (simp; done) | (simp; omega))⟩, trivial, trivial⟩ ?_
    refine Ev.cond true rfl (fun _ => ?_) (fun h => (by cases h))
    refine Ev.seq ?_
    refine Ev.reg [] [6] (st' := ⟨[(6, (dI .i64 1))], [(.var 36 [(dI .i64 n), (dL 1 (encI .u64) 0 p)]), (.var 38 [(dI .i64 i), (dI .u64 d)])]⟩)
      (p := True ∧ True) (by kernel_rfl)
      ⟨trivial, trivial⟩ ?_
    refine Ev.ret ?_
    refine ⟨⟨trivial, trivial⟩, (?_ : (1 : Int) = (checkF root n i d p)), .inr trivial⟩
    rw [checkF_sides, if_pos (show badCheck n i = true from decide_eq_true (by omega))]
  · skip
    refine Ev.reg [(2, .val (dB false)), (6, .val (dB false)), (11, .val (dB false)), (18, .val (dB false))] [0, 4, 5, 29] (st' := ⟨[(0, (dI .u64 root)), (4, (.ptr 0 0 0 0)), (5, (.ptr 1 0 0 0)), (29, (dB false))], [(.var 36 [(dI .i64 n), (dL 1 (encI .u64) 0 p)]), (.var 38 [(dI .i64 i), (dI .u64 d)])]⟩)
      (p := True ∧ True ∧ (True ∧ (decide (n < 1)) = false) ∧ True ∧ True ∧ True ∧ (True ∧ (decide (n > 4096)) = false) ∧ True ∧ True ∧ True ∧ True ∧ (True ∧ (decide (i < 0)) = false) ∧ True ∧ True ∧ True ∧ True ∧ True ∧ True ∧ (True ∧ (decide (i ≥ n)) = false) ∧ True ∧ True) (by kernel_rfl)
      ⟨trivial, trivial, ⟨trivial, (by first | (simp; done) | (simp; omega))⟩, trivial, trivial, trivial, ⟨trivial, (by first | (simp; done) | (simp; omega))⟩, trivial, trivial, trivial, trivial, ⟨trivial, (by first | (simp; done) | (simp; omega))⟩, trivial, trivial, trivial, trivial, trivial, trivial, ⟨trivial, (by first | (simp; done) | (simp; omega))⟩, trivial, trivial⟩ ?_
    refine Ev.cond false rfl (fun h => (by cases h)) (fun _ => ?_)
    refine Ev.skip ?_
    refine Ev.seq ?_
    refine Ev.reg [(4, .call none false (dL 1 encB false (sidesF n.toNat i.toNat)))] [0, 4, 5, 7] (st' := ⟨[(0, (dI .u64 root)), (4, (.ptr 0 0 0 0)), (5, (.ptr 1 0 0 0)), (7, (dL 1 encB false (sidesF n.toNat i.toNat)))], [(.var 36 [(dI .i64 n), (dL 1 (encI .u64) 0 p)]), (.var 38 [(dI .i64 i), (dI .u64 d)])]⟩)
      (p := True ∧ True ∧ True ∧ True ∧ callOb Try.prog 21 [(.var 36 [(dI .i64 n), (dL 1 (encI .u64) 0 p)]), (.var 38 [(dI .i64 i), (dI .u64 d)])] [(dI .i64 n), (dI .i64 i)] none false (dL 1 encB false (sidesF n.toNat i.toNat)) ∧ True ∧ True) (by kernel_rfl)
      ⟨trivial, trivial, trivial, trivial, (sidesR_ok _ _ (by omega) (by omega) (by omega)), trivial, trivial⟩ ?_
    refine Ev.seq ?_
    refine Ev.seq ?_
    refine Ev.reg [] [0, 4, 5, 7, 40] (st' := ⟨[(0, (dI .u64 root)), (4, (.ptr 0 0 0 0)), (5, (.ptr 1 0 0 0)), (7, (dL 1 encB false (sidesF n.toNat i.toNat))), (40, (dB ((((sidesF n.toNat i.toNat).length : Nat) : Int) != ((p.length : Nat) : Int))))], [(.var 36 [(dI .i64 n), (dL 1 (encI .u64) 0 p)]), (.var 38 [(dI .i64 i), (dI .u64 d)])]⟩)
      (p := True ∧ True ∧ True ∧ True ∧ True ∧ True ∧ True) (by kernel_rfl)
      ⟨trivial, trivial, trivial, trivial, trivial, trivial, trivial⟩ ?_
    refine Ev.cond _ rfl (fun hc40 => ?_) (fun hc40 => ?_)
    · simp only [decide_eq_true_eq, decide_eq_false_iff_not, beq_iff_eq, bne_iff_ne, ne_eq, beq_eq_false_iff_ne, bne_eq_false_iff_eq, Bool.not_eq_true, Bool.not_eq_false, Bool.not_eq_true', Bool.not_eq_false', Bool.not_not, gt_iff_lt, ge_iff_le, Nat.not_lt, Int.not_lt, Int.not_le] at hc40
      refine Ev.seq ?_
      refine Ev.reg [] [6] (st' := ⟨[(6, (dI .i64 6))], [(.var 36 [(dI .i64 n), (dL 1 (encI .u64) 0 p)]), (.var 38 [(dI .i64 i), (dI .u64 d)])]⟩)
        (p := True ∧ True) (by kernel_rfl)
        ⟨trivial, trivial⟩ ?_
      refine Ev.ret ?_
      refine ⟨⟨trivial, trivial⟩, (?_ : (6 : Int) = (checkF root n i d p)), .inr trivial⟩
      rw [checkF_sides, if_neg (show ¬ badCheck n i = true from fun hh => by have := of_decide_eq_true hh; omega), if_pos (by omega)]
    · simp only [decide_eq_true_eq, decide_eq_false_iff_not, beq_iff_eq, bne_iff_ne, ne_eq, beq_eq_false_iff_ne, bne_eq_false_iff_eq, Bool.not_eq_true, Bool.not_eq_false, Bool.not_eq_true', Bool.not_eq_false', Bool.not_not, gt_iff_lt, ge_iff_le, Nat.not_lt, Int.not_lt, Int.not_le] at hc40
      refine Ev.skip ?_
      refine Ev.seq ?_
      refine Ev.reg [] [0, 4, 7, 8] (st' := ⟨[(0, (dI .u64 root)), (4, (.ptr 0 0 0 0)), (7, (dL 1 encB false (sidesF n.toNat i.toNat))), (8, (dI .u64 d))], [(.var 36 [(dI .i64 n), (dL 1 (encI .u64) 0 p)]), (.var 38 [(dI .i64 i), (dI .u64 d)])]⟩)
        (p := True ∧ True ∧ True ∧ True) (by kernel_rfl)
        ⟨trivial, trivial, trivial, trivial⟩ ?_
      refine Ev.seq ?_
      refine Ev.seq ?_
      refine Ev.reg [] [0, 4, 7, 8, 9] (st' := ⟨[(0, (dI .u64 root)), (4, (.ptr 0 0 0 0)), (7, (dL 1 encB false (sidesF n.toNat i.toNat))), (8, (dI .u64 d)), (9, (dI .i64 0))], [(.var 36 [(dI .i64 n), (dL 1 (encI .u64) 0 p)]), (.var 38 [(dI .i64 i), (dI .u64 d)])]⟩)
        (p := True ∧ True) (by kernel_rfl)
        ⟨trivial, trivial⟩ ?_
      refine Ev.block ?_
      have hpl : p.length = (sidesF n.toNat i.toNat).length := by omega
      refine Ev.loop [0, 4, 7, 8, 9] 2 (fun (j : Nat) => ⟨[(0, (dI .u64 root)), (4, (.ptr 0 0 0 0)), (7, (dL 1 encB false (sidesF n.toNat i.toNat))), (8, (dI .u64 (foldUp d (p.take j) ((sidesF n.toNat i.toNat).take j)))), (9, (dI .i64 ((j : Nat) : Int)))], [(.var 36 [(dI .i64 n), (dL 1 (encI .u64) 0 p)]), (.var 38 [(dI .i64 i), (dI .u64 d)])]⟩) (fun (j : Nat) => j ≤ (sidesF n.toNat i.toNat).length) (fun (j : Nat) => (sidesF n.toNat i.toNat).length - j) 0 (by kernel_rfl) (by omega) ?_
      rintro j hinv
      have hinv : j ≤ (sidesF n.toNat i.toNat).length := hinv
      have hj := hinv
      refine Ev.seq ?_
      refine Ev.seq ?_
      refine Ev.reg [] [0, 4, 7, 8, 9, 46] (st' := ⟨[(0, (dI .u64 root)), (4, (.ptr 0 0 0 0)), (7, (dL 1 encB false (sidesF n.toNat i.toNat))), (8, (dI .u64 (foldUp d (p.take j) ((sidesF n.toNat i.toNat).take j)))), (9, (dI .i64 ((j : Nat) : Int))), (46, (dB (decide (((j : Nat) : Int) < (((sidesF n.toNat i.toNat).length : Nat) : Int)))))], [(.var 36 [(dI .i64 n), (dL 1 (encI .u64) 0 p)]), (.var 38 [(dI .i64 i), (dI .u64 d)])]⟩)
        (p := True ∧ True ∧ True ∧ True ∧ True) (by kernel_rfl)
        ⟨trivial, trivial, trivial, trivial, trivial⟩ ?_
      refine Ev.cond _ rfl (fun hc46 => ?_) (fun hc46 => ?_)
      · simp only [decide_eq_true_eq, decide_eq_false_iff_not, beq_iff_eq, bne_iff_ne, ne_eq, beq_eq_false_iff_ne, bne_eq_false_iff_eq, Bool.not_eq_true, Bool.not_eq_false, Bool.not_eq_true', Bool.not_eq_false', Bool.not_not, gt_iff_lt, ge_iff_le, Nat.not_lt, Int.not_lt, Int.not_le] at hc46
        refine Ev.skip ?_
        refine Ev.seq ?_
        refine Ev.block ?_
        refine Ev.draw 12 [false, false, false, false, false, false, false, false, false, false, false, false] [(10, .call none false (dI .u64 (upF (foldUp d (p.take j) ((sidesF n.toNat i.toNat).take j)) (p.getD j 0) ((sidesF n.toNat i.toNat).getD j false)))), (11, .val (dI .u64 (foldUp d (p.take (j + 1)) ((sidesF n.toNat i.toNat).take (j + 1)))))] [0, 4, 7, 8, 9] (st' := ⟨[(0, (dI .u64 root)), (4, (.ptr 0 0 0 0)), (7, (dL 1 encB false (sidesF n.toNat i.toNat))), (8, (dI .u64 (foldUp d (p.take (j + 1)) ((sidesF n.toNat i.toNat).take (j + 1))))), (9, (dI .i64 ((j : Nat) : Int)))], [(.var 36 [(dI .i64 n), (dL 1 (encI .u64) 0 p)]), (.var 38 [(dI .i64 i), (dI .u64 d)])]⟩)
          (p := (True ∧ True ∧ True ∧ True ∧ (0 ≤ ((j : Nat) : Int) ∧ ((j : Nat) : Int) < (p.length : Int)) ∧ True ∧ True ∧ True ∧ (0 ≤ ((j : Nat) : Int) ∧ ((j : Nat) : Int) < ((sidesF n.toNat i.toNat).length : Int)) ∧ True ∧ callOb Try.prog 22 [(.var 36 [(dI .i64 n), (dL 1 (encI .u64) 0 p)]), (.var 38 [(dI .i64 i), (dI .u64 d)])] [(dI .u64 (foldUp d (p.take j) ((sidesF n.toNat i.toNat).take j))), (dI .u64 (p.getD j 0)), (dB ((sidesF n.toNat i.toNat).getD j false))] none false (dI .u64 (upF (foldUp d (p.take j) ((sidesF n.toNat i.toNat).take j)) (p.getD j 0) ((sidesF n.toNat i.toNat).getD j false))) ∧ (True ∧ (upF (foldUp d (p.take j) ((sidesF n.toNat i.toNat).take j)) (p.getD j 0) ((sidesF n.toNat i.toNat).getD j false)) = (foldUp d (p.take (j + 1)) ((sidesF n.toNat i.toNat).take (j + 1)))) ∧ True) ∧ True) (by kernel_rfl) (by kernel_rfl)
          ⟨⟨trivial, trivial, trivial, trivial, (by first | omega | (simp; first | done | omega)), trivial, trivial, trivial, (by first | omega | (simp; first | done | omega)), trivial, (up_ok _ _ _), ⟨trivial, (by rw [foldUp_takeD (by omega) (by omega)])⟩, trivial⟩, trivial⟩ ?_
        refine Ev.reg [(1, .val (dI .i64 ((j + 1 : Nat) : Int)))] [0, 4, 7, 8, 9] (st' := ⟨[(0, (dI .u64 root)), (4, (.ptr 0 0 0 0)), (7, (dL 1 encB false (sidesF n.toNat i.toNat))), (8, (dI .u64 (foldUp d (p.take (j + 1)) ((sidesF n.toNat i.toNat).take (j + 1))))), (9, (dI .i64 ((j + 1 : Nat) : Int)))], [(.var 36 [(dI .i64 n), (dL 1 (encI .u64) 0 p)]), (.var 38 [(dI .i64 i), (dI .u64 d)])]⟩)
          (p := True ∧ (True ∧ (IntKind.wrap .i64 (((j : Nat) : Int) + 1)) = ((j + 1 : Nat) : Int)) ∧ True ∧ True) (by kernel_rfl)
          ⟨trivial, ⟨trivial, (w64n (by first | rfl | simp | omega) (by first | omega | (simp; first | done | omega)))⟩, trivial, trivial⟩ ?_
        refine ⟨j + 1, by kernel_rfl, (?_ : (j + 1) ≤ (sidesF n.toNat i.toNat).length), (?_ : (sidesF n.toNat i.toNat).length - (j + 1) < (sidesF n.toNat i.toNat).length - j)⟩
        · omega
        · omega
      · simp only [decide_eq_true_eq, decide_eq_false_iff_not, beq_iff_eq, bne_iff_ne, ne_eq, beq_eq_false_iff_ne, bne_eq_false_iff_eq, Bool.not_eq_true, Bool.not_eq_false, Bool.not_eq_true', Bool.not_eq_false', Bool.not_not, gt_iff_lt, ge_iff_le, Nat.not_lt, Int.not_lt, Int.not_le] at hc46
        refine Ev.exit ?_
        refine Ev.seq ?_
        refine Ev.seq ?_
        refine Ev.reg [] [62] (st' := ⟨[(62, (dB ((foldUp d (p.take j) ((sidesF n.toNat i.toNat).take j)) != root)))], [(.var 36 [(dI .i64 n), (dL 1 (encI .u64) 0 p)]), (.var 38 [(dI .i64 i), (dI .u64 d)])]⟩)
          (p := True ∧ True ∧ True ∧ True) (by kernel_rfl)
          ⟨trivial, trivial, trivial, trivial⟩ ?_
        refine Ev.cond _ rfl (fun hc62 => ?_) (fun hc62 => ?_)
        · simp only [decide_eq_true_eq, decide_eq_false_iff_not, beq_iff_eq, bne_iff_ne, ne_eq, beq_eq_false_iff_ne, bne_eq_false_iff_eq, Bool.not_eq_true, Bool.not_eq_false, Bool.not_eq_true', Bool.not_eq_false', Bool.not_not, gt_iff_lt, ge_iff_le, Nat.not_lt, Int.not_lt, Int.not_le] at hc62
          refine Ev.seq ?_
          refine Ev.reg [] [6] (st' := ⟨[(6, (dI .i64 6))], [(.var 36 [(dI .i64 n), (dL 1 (encI .u64) 0 p)]), (.var 38 [(dI .i64 i), (dI .u64 d)])]⟩)
            (p := True ∧ True) (by kernel_rfl)
            ⟨trivial, trivial⟩ ?_
          refine Ev.ret ?_
          refine ⟨⟨trivial, trivial⟩, (?_ : (6 : Int) = (checkF root n i d p)), .inr trivial⟩
          have hjl : j = (sidesF n.toNat i.toNat).length := by omega
          rw [hjl, List.take_of_length_le (by omega), List.take_of_length_le (Nat.le_refl _)] at hc62
          rw [checkF_sides, if_neg (show ¬ badCheck n i = true from fun hh => by have := of_decide_eq_true hh; omega), if_neg (by omega), if_pos hc62]
        · simp only [decide_eq_true_eq, decide_eq_false_iff_not, beq_iff_eq, bne_iff_ne, ne_eq, beq_eq_false_iff_ne, bne_eq_false_iff_eq, Bool.not_eq_true, Bool.not_eq_false, Bool.not_eq_true', Bool.not_eq_false', Bool.not_not, gt_iff_lt, ge_iff_le, Nat.not_lt, Int.not_lt, Int.not_le] at hc62
          refine Ev.skip ?_
          refine Ev.seq ?_
          refine Ev.reg [] [6] (st' := ⟨[(6, (dI .i64 0))], [(.var 36 [(dI .i64 n), (dL 1 (encI .u64) 0 p)]), (.var 38 [(dI .i64 i), (dI .u64 d)])]⟩)
            (p := True ∧ True) (by kernel_rfl)
            ⟨trivial, trivial⟩ ?_
          refine Ev.ret ?_
          refine ⟨⟨trivial, trivial⟩, (?_ : (0 : Int) = (checkF root n i d p)), .inr trivial⟩
          have hjl : j = (sidesF n.toNat i.toNat).length := by omega
          rw [hjl, List.take_of_length_le (by omega), List.take_of_length_le (Nat.le_refl _)] at hc62
          rw [checkF_sides, if_neg (show ¬ badCheck n i = true from fun hh => by have := of_decide_eq_true hh; omega), if_neg (by omega), if_neg (by simpa using hc62)]

end Go.Proofs.Ytjmfaebimgnblaa
