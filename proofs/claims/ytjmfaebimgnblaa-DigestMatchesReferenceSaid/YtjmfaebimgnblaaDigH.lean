/-
  DigestOneChange.
-/
import Derived.Test.YtjmfaebimgnblaaDigG
import Derived.Test.YtjmfaebimgnblaaOldB
namespace Go.Proofs.Ytjmfaebimgnblaa
open Go.RowKit
set_option linter.unusedVariables false
set_option linter.unusedSimpArgs false

set_option maxRecDepth 100000 in
theorem onechange_law (l b : List Int) (z0 z1 z2 z3 : Nat) (hlb : l.length ≤ 9223372036854775807) (hi : Ints64 l) (hbb : b.length ≤ 9223372036854775807) (hb : Bytes8 b) (h0 : z0 < 18446744073709551616) (h1 : z1 < 18446744073709551616) (h2 : z2 < 18446744073709551616) (h3 : z3 < 18446744073709551616) : CallOk Try.prog 14 [(dL 1 (encI .i64) 0 l), (dL 1 (encI .u8) 0 b), (.agg [(dI .u64 ((z0 : Nat) : Int)), (dI .u64 ((z1 : Nat) : Int)), (dI .u64 ((z2 : Nat) : Int)), (dI .u64 ((z3 : Nat) : Int))])] [] false (dB true) [] := by
  refine CallOk.of_ev Try.func14 rfl rfl rfl ?_
  rintro ⟨_, W, S0, _, susp, _⟩ rfl rfl rfl
  have hz0 := nat64 h0
  have hz1 := nat64 h1
  have hz2 := nat64 h2
  have hz3 := nat64 h3
  refine Ev.seq ?_
  refine Ev.reg [] [0, 1, 5] (st' := ⟨[(0, (dL 1 (encI .i64) 0 l)), (1, (dL 1 (encI .u8) 0 b)), (5, (.ptr 0 0 0 0))], [(.var 78 [(dI .u64 ((z0 : Nat) : Int)), (dI .u64 ((z1 : Nat) : Int)), (dI .u64 ((z2 : Nat) : Int)), (dI .u64 ((z3 : Nat) : Int))])]⟩)
    (p := True ∧ True ∧ True) (by kernel_rfl)
    ⟨trivial, trivial, trivial⟩ ?_
  refine Ev.seq ?_
  refine Ev.reg [(0, .call none false (dB true))] [0, 1, 5, 7] (st' := ⟨[(0, (dL 1 (encI .i64) 0 l)), (1, (dL 1 (encI .u8) 0 b)), (5, (.ptr 0 0 0 0)), (7, (dB true))], [(.var 78 [(dI .u64 ((z0 : Nat) : Int)), (dI .u64 ((z1 : Nat) : Int)), (dI .u64 ((z2 : Nat) : Int)), (dI .u64 ((z3 : Nat) : Int))])]⟩)
    (p := callOb Try.prog 15 [(.var 78 [(dI .u64 ((z0 : Nat) : Int)), (dI .u64 ((z1 : Nat) : Int)), (dI .u64 ((z2 : Nat) : Int)), (dI .u64 ((z3 : Nat) : Int))])] [] none false (dB true) ∧ True ∧ True) (by kernel_rfl)
    ⟨examples01_ok, trivial, trivial⟩ ?_
  refine Ev.seq ?_
  refine Ev.seq ?_
  refine Ev.reg [] [0, 1, 5, 7, 14] (st' := ⟨[(0, (dL 1 (encI .i64) 0 l)), (1, (dL 1 (encI .u8) 0 b)), (5, (.ptr 0 0 0 0)), (7, (dB true)), (14, (dB false))], [(.var 78 [(dI .u64 ((z0 : Nat) : Int)), (dI .u64 ((z1 : Nat) : Int)), (dI .u64 ((z2 : Nat) : Int)), (dI .u64 ((z3 : Nat) : Int))])]⟩)
    (p := True ∧ True ∧ True) (by kernel_rfl)
    ⟨trivial, trivial, trivial⟩ ?_
  refine Ev.cond false rfl (fun h => (by cases h)) (fun _ => ?_)
  refine Ev.skip ?_
  refine Ev.seq ?_
  refine Ev.seq ?_
  rcases (show 200 < l.length ∨ (l.length ≤ 200 ∧ 200 < b.length) ∨ (l.length ≤ 200 ∧ b.length ≤ 200) from by omega) with hll | ⟨hll, hbl⟩ | ⟨hll, hbl⟩
  · skip
    refine Ev.reg [(2, .val (dB true))] [0, 1, 5, 7, 22] (st' := ⟨[(0, (dL 1 (encI .i64) 0 l)), (1, (dL 1 (encI .u8) 0 b)), (5, (.ptr 0 0 0 0)), (7, (dB true)), (22, (dB true))], [(.var 78 [(dI .u64 ((z0 : Nat) : Int)), (dI .u64 ((z1 : Nat) : Int)), (dI .u64 ((z2 : Nat) : Int)), (dI .u64 ((z3 : Nat) : Int))])]⟩)
      (p := True ∧ True ∧ (True ∧ (decide (((l.length : Nat) : Int) > 200)) = true) ∧ True ∧ True ∧ True ∧ True ∧ True ∧ True) (by kernel_rfl)
      ⟨trivial, trivial, ⟨trivial, (by simp; omega)⟩, trivial, trivial, trivial, trivial, trivial, trivial⟩ ?_
    refine Ev.cond true rfl (fun _ => ?_) (fun h => (by cases h))
    refine Ev.seq ?_
    refine Ev.reg [] [6] (st' := ⟨[(6, (dB true))], [(.var 78 [(dI .u64 ((z0 : Nat) : Int)), (dI .u64 ((z1 : Nat) : Int)), (dI .u64 ((z2 : Nat) : Int)), (dI .u64 ((z3 : Nat) : Int))])]⟩)
      (p := True ∧ True ∧ True) (by kernel_rfl)
      ⟨trivial, trivial, trivial⟩ ?_
    refine Ev.ret ?_
    refine ⟨⟨trivial, trivial⟩, (?_ : true = true), .inr trivial⟩
    rfl
  · skip
    refine Ev.reg [(2, .val (dB false)), (6, .val (dB true))] [0, 1, 5, 7, 22] (st' := ⟨[(0, (dL 1 (encI .i64) 0 l)), (1, (dL 1 (encI .u8) 0 b)), (5, (.ptr 0 0 0 0)), (7, (dB true)), (22, (dB true))], [(.var 78 [(dI .u64 ((z0 : Nat) : Int)), (dI .u64 ((z1 : Nat) : Int)), (dI .u64 ((z2 : Nat) : Int)), (dI .u64 ((z3 : Nat) : Int))])]⟩)
      (p := True ∧ True ∧ (True ∧ (decide (((l.length : Nat) : Int) > 200)) = false) ∧ True ∧ True ∧ True ∧ (True ∧ (decide (((b.length : Nat) : Int) > 200)) = true) ∧ True ∧ True) (by kernel_rfl)
      ⟨trivial, trivial, ⟨trivial, (by simp; omega)⟩, trivial, trivial, trivial, ⟨trivial, (by simp; omega)⟩, trivial, trivial⟩ ?_
    refine Ev.cond true rfl (fun _ => ?_) (fun h => (by cases h))
    refine Ev.seq ?_
    refine Ev.reg [] [6] (st' := ⟨[(6, (dB true))], [(.var 78 [(dI .u64 ((z0 : Nat) : Int)), (dI .u64 ((z1 : Nat) : Int)), (dI .u64 ((z2 : Nat) : Int)), (dI .u64 ((z3 : Nat) : Int))])]⟩)
      (p := True ∧ True ∧ True) (by kernel_rfl)
      ⟨trivial, trivial, trivial⟩ ?_
    refine Ev.ret ?_
    refine ⟨⟨trivial, trivial⟩, (?_ : true = true), .inr trivial⟩
    rfl
  · skip
    refine Ev.reg [(2, .val (dB false)), (6, .val (dB false))] [0, 1, 5, 7, 22] (st' := ⟨[(0, (dL 1 (encI .i64) 0 l)), (1, (dL 1 (encI .u8) 0 b)), (5, (.ptr 0 0 0 0)), (7, (dB true)), (22, (dB false))], [(.var 78 [(dI .u64 ((z0 : Nat) : Int)), (dI .u64 ((z1 : Nat) : Int)), (dI .u64 ((z2 : Nat) : Int)), (dI .u64 ((z3 : Nat) : Int))])]⟩)
      (p := True ∧ True ∧ (True ∧ (decide (((l.length : Nat) : Int) > 200)) = false) ∧ True ∧ True ∧ True ∧ (True ∧ (decide (((b.length : Nat) : Int) > 200)) = false) ∧ True ∧ True) (by kernel_rfl)
      ⟨trivial, trivial, ⟨trivial, (by simp; omega)⟩, trivial, trivial, trivial, ⟨trivial, (by simp; omega)⟩, trivial, trivial⟩ ?_
    refine Ev.cond false rfl (fun h => (by cases h)) (fun _ => ?_)
    refine Ev.skip ?_
    refine Ev.seq ?_
    refine Ev.seq ?_
    refine Ev.draw 53 [false, false, false, false, false, false, false, false, false, false, false, false, false, false, false, false, false, false, false, false, false, false, false, false, false, false, false, false, false, false, false, false, false, false, false, false, false, false, false, false, false, false, false, false, false, false, false, false, false, false, false, false, false] [(3, .call none false (dI .u64 (tagF ((z0 : Nat) : Int) l))), (7, .call none false (dI .u64 (tagF ((z1 : Nat) : Int) l))), (14, .val (dB false)), (20, .call none false (dI .u64 (joinF ((z0 : Nat) : Int) ((z1 : Nat) : Int)))), (25, .call none false (dI .u64 (joinF ((z2 : Nat) : Int) ((z1 : Nat) : Int)))), (32, .val (dB false)), (39, .call none false (dI .u64 (joinF ((z0 : Nat) : Int) ((z1 : Nat) : Int)))), (44, .call none false (dI .u64 (joinF ((z0 : Nat) : Int) ((z2 : Nat) : Int)))), (51, .val (dB false))] [0, 1, 5, 7, 76] (st' := ⟨[(0, (dL 1 (encI .i64) 0 l)), (1, (dL 1 (encI .u8) 0 b)), (5, (.ptr 0 0 0 0)), (7, (dB true)), (76, (dB false))], [(.var 78 [(dI .u64 ((z0 : Nat) : Int)), (dI .u64 ((z1 : Nat) : Int)), (dI .u64 ((z2 : Nat) : Int)), (dI .u64 ((z3 : Nat) : Int))])]⟩)
      (p := (((0 ≤ (0 : Int) ∧ 0 < (4 : Int)) ∧ True) ∧ True ∧ True ∧ callOb Try.prog 43 [(.var 78 [(dI .u64 ((z0 : Nat) : Int)), (dI .u64 ((z1 : Nat) : Int)), (dI .u64 ((z2 : Nat) : Int)), (dI .u64 ((z3 : Nat) : Int))])] [(dI .u64 ((z0 : Nat) : Int)), (dL 1 (encI .i64) 0 l)] none false (dI .u64 (tagF ((z0 : Nat) : Int) l)) ∧ ((0 ≤ (1 : Int) ∧ 1 < (4 : Int)) ∧ True) ∧ True ∧ True ∧ callOb Try.prog 43 [(.var 78 [(dI .u64 ((z0 : Nat) : Int)), (dI .u64 ((z1 : Nat) : Int)), (dI .u64 ((z2 : Nat) : Int)), (dI .u64 ((z3 : Nat) : Int))])] [(dI .u64 ((z1 : Nat) : Int)), (dL 1 (encI .i64) 0 l)] none false (dI .u64 (tagF ((z1 : Nat) : Int) l)) ∧ True ∧ ((0 ≤ (0 : Int) ∧ 0 < (4 : Int)) ∧ True) ∧ True ∧ ((0 ≤ (1 : Int) ∧ 1 < (4 : Int)) ∧ True) ∧ True ∧ True ∧ (True ∧ (!(((tagF ((z0 : Nat) : Int) l) == (tagF ((z1 : Nat) : Int) l)) == (((z0 : Nat) : Int) == ((z1 : Nat) : Int)))) = false) ∧ True ∧ ((0 ≤ (0 : Int) ∧ 0 < (4 : Int)) ∧ True) ∧ True ∧ ((0 ≤ (1 : Int) ∧ 1 < (4 : Int)) ∧ True) ∧ True ∧ callOb Try.prog 41 [(.var 78 [(dI .u64 ((z0 : Nat) : Int)), (dI .u64 ((z1 : Nat) : Int)), (dI .u64 ((z2 : Nat) : Int)), (dI .u64 ((z3 : Nat) : Int))])] [(dI .u64 ((z0 : Nat) : Int)), (dI .u64 ((z1 : Nat) : Int))] none false (dI .u64 (joinF ((z0 : Nat) : Int) ((z1 : Nat) : Int))) ∧ ((0 ≤ (2 : Int) ∧ 2 < (4 : Int)) ∧ True) ∧ True ∧ ((0 ≤ (1 : Int) ∧ 1 < (4 : Int)) ∧ True) ∧ True ∧ callOb Try.prog 41 [(.var 78 [(dI .u64 ((z0 : Nat) : Int)), (dI .u64 ((z1 : Nat) : Int)), (dI .u64 ((z2 : Nat) : Int)), (dI .u64 ((z3 : Nat) : Int))])] [(dI .u64 ((z2 : Nat) : Int)), (dI .u64 ((z1 : Nat) : Int))] none false (dI .u64 (joinF ((z2 : Nat) : Int) ((z1 : Nat) : Int))) ∧ True ∧ ((0 ≤ (0 : Int) ∧ 0 < (4 : Int)) ∧ True) ∧ True ∧ ((0 ≤ (2 : Int) ∧ 2 < (4 : Int)) ∧ True) ∧ True ∧ True ∧ (True ∧ (!(((joinF ((z0 : Nat) : Int) ((z1 : Nat) : Int)) == (joinF ((z2 : Nat) : Int) ((z1 : Nat) : Int))) == (((z0 : Nat) : Int) == ((z2 : Nat) : Int)))) = false) ∧ True ∧ True ∧ ((0 ≤ (0 : Int) ∧ 0 < (4 : Int)) ∧ True) ∧ True ∧ ((0 ≤ (1 : Int) ∧ 1 < (4 : Int)) ∧ True) ∧ True ∧ callOb Try.prog 41 [(.var 78 [(dI .u64 ((z0 : Nat) : Int)), (dI .u64 ((z1 : Nat) : Int)), (dI .u64 ((z2 : Nat) : Int)), (dI .u64 ((z3 : Nat) : Int))])] [(dI .u64 ((z0 : Nat) : Int)), (dI .u64 ((z1 : Nat) : Int))] none false (dI .u64 (joinF ((z0 : Nat) : Int) ((z1 : Nat) : Int))) ∧ ((0 ≤ (0 : Int) ∧ 0 < (4 : Int)) ∧ True) ∧ True ∧ ((0 ≤ (2 : Int) ∧ 2 < (4 : Int)) ∧ True) ∧ True ∧ callOb Try.prog 41 [(.var 78 [(dI .u64 ((z0 : Nat) : Int)), (dI .u64 ((z1 : Nat) : Int)), (dI .u64 ((z2 : Nat) : Int)), (dI .u64 ((z3 : Nat) : Int))])] [(dI .u64 ((z0 : Nat) : Int)), (dI .u64 ((z2 : Nat) : Int))] none false (dI .u64 (joinF ((z0 : Nat) : Int) ((z2 : Nat) : Int))) ∧ True ∧ ((0 ≤ (1 : Int) ∧ 1 < (4 : Int)) ∧ True) ∧ True ∧ ((0 ≤ (2 : Int) ∧ 2 < (4 : Int)) ∧ True) ∧ True ∧ True ∧ (True ∧ (!(((joinF ((z0 : Nat) : Int) ((z1 : Nat) : Int)) == (joinF ((z0 : Nat) : Int) ((z2 : Nat) : Int))) == (((z1 : Nat) : Int) == ((z2 : Nat) : Int)))) = false) ∧ True ∧ True) ∧ True) (by kernel_rfl) (by kernel_rfl)
      ⟨⟨⟨by omega, trivial⟩, trivial, trivial, (tag_ok _ _), ⟨by omega, trivial⟩, trivial, trivial, (tag_ok _ _), trivial, ⟨by omega, trivial⟩, trivial, ⟨by omega, trivial⟩, trivial, trivial, ⟨trivial, (by exact bne_same (one_key hz0 hz1 l))⟩, trivial, ⟨by omega, trivial⟩, trivial, ⟨by omega, trivial⟩, trivial, (join_ok _ _), ⟨by omega, trivial⟩, trivial, ⟨by omega, trivial⟩, trivial, (join_ok _ _), trivial, ⟨by omega, trivial⟩, trivial, ⟨by omega, trivial⟩, trivial, trivial, ⟨trivial, (by exact bne_same (one_left hz0 hz2))⟩, trivial, trivial, ⟨by omega, trivial⟩, trivial, ⟨by omega, trivial⟩, trivial, (join_ok _ _), ⟨by omega, trivial⟩, trivial, ⟨by omega, trivial⟩, trivial, (join_ok _ _), trivial, ⟨by omega, trivial⟩, trivial, ⟨by omega, trivial⟩, trivial, trivial, ⟨trivial, (by exact bne_same (one_right hz1 hz2))⟩, trivial, trivial⟩, trivial⟩ ?_
    refine Ev.cond false rfl (fun h => (by cases h)) (fun _ => ?_)
    refine Ev.skip ?_
    refine Ev.seq ?_
    refine Ev.seq ?_
    refine Ev.reg [] [0, 1, 5, 7, 79] (st' := ⟨[(0, (dL 1 (encI .i64) 0 l)), (1, (dL 1 (encI .u8) 0 b)), (5, (.ptr 0 0 0 0)), (7, (dB true)), (79, (dB (decide (((l.length : Nat) : Int) > 0))))], [(.var 78 [(dI .u64 ((z0 : Nat) : Int)), (dI .u64 ((z1 : Nat) : Int)), (dI .u64 ((z2 : Nat) : Int)), (dI .u64 ((z3 : Nat) : Int))])]⟩)
      (p := True ∧ True ∧ True ∧ True) (by kernel_rfl)
      ⟨trivial, trivial, trivial, trivial⟩ ?_
    refine Ev.cond _ rfl (fun hc79 => ?_) (fun hc79 => ?_)
    · simp only [decide_eq_true_eq, decide_eq_false_iff_not, beq_iff_eq, bne_iff_ne, ne_eq, beq_eq_false_iff_ne, bne_eq_false_iff_eq, Bool.not_eq_true, Bool.not_eq_false, Bool.not_eq_true', Bool.not_eq_false', Bool.not_not, gt_iff_lt, ge_iff_le, Nat.not_lt, Int.not_lt, Int.not_le] at hc79
      refine Ev.seq ?_
      have hlp : 0 < l.length := by omega
      have hil : z3 % l.length < l.length := Nat.mod_lt _ hlp
      refine Ev.reg [(4, .val (dI .u64 ((l.length : Nat) : Int))), (5, .val (dI .u64 ((z3 % l.length : Nat) : Int))), (6, .val (dI .i64 ((z3 % l.length : Nat) : Int)))] [0, 1, 5, 7, 8] (st' := ⟨[(0, (dL 1 (encI .i64) 0 l)), (1, (dL 1 (encI .u8) 0 b)), (5, (.ptr 0 0 0 0)), (7, (dB true)), (8, (dI .i64 ((z3 % l.length : Nat) : Int)))], [(.var 78 [(dI .u64 ((z0 : Nat) : Int)), (dI .u64 ((z1 : Nat) : Int)), (dI .u64 ((z2 : Nat) : Int)), (dI .u64 ((z3 : Nat) : Int))])]⟩)
        (p := ((0 ≤ (3 : Int) ∧ 3 < (4 : Int)) ∧ True) ∧ True ∧ True ∧ True ∧ (True ∧ (IntKind.wrap .u64 ((l.length : Nat) : Int)) = ((l.length : Nat) : Int)) ∧ (((l.length : Nat) : Int) ≠ 0 ∧ (Int.tmod ((z3 : Nat) : Int) ((l.length : Nat) : Int)) = ((z3 % l.length : Nat) : Int)) ∧ (True ∧ (IntKind.wrap .i64 ((z3 % l.length : Nat) : Int)) = ((z3 % l.length : Nat) : Int)) ∧ True ∧ True) (by kernel_rfl)
        ⟨⟨by omega, trivial⟩, trivial, trivial, trivial, ⟨trivial, (wu64 rfl (by first | omega | (simp; first | done | omega)) (by first | omega | (simp; first | done | omega)))⟩, ⟨(by first | omega | (simp; first | done | omega)), (tmodN _ _)⟩, ⟨trivial, (w64n rfl (by omega))⟩, trivial, trivial⟩ ?_
      refine Ev.seq ?_
      refine Ev.reg [(0, .box 3 1 (encI .i64) 0 ([] : List Int)), (2, .box 3 1 (encI .i64) 0 l)] [0, 1, 5, 7, 8, 9] (st' := ⟨[(0, (dL 1 (encI .i64) 0 l)), (1, (dL 1 (encI .u8) 0 b)), (5, (.ptr 0 0 0 0)), (7, (dB true)), (8, (dI .i64 ((z3 % l.length : Nat) : Int))), (9, (.own 1))], [(.var 78 [(dI .u64 ((z0 : Nat) : Int)), (dI .u64 ((z1 : Nat) : Int)), (dI .u64 ((z2 : Nat) : Int)), (dI .u64 ((z3 : Nat) : Int))]), (.arr 3 1 (encI .i64) 0 l)]⟩)
        (p := eqRows [] (([] : List Int).map (encI .i64)) ∧ True ∧ (([] : List Int).length + (l.map (encI .i64)).length ≤ 137438953472 ∧ ([] : List Int).map (encI .i64) ++ l.map (encI .i64) = l.map (encI .i64)) ∧ True ∧ True) (by kernel_rfl)
        ⟨trivial, trivial, ⟨by simp; omega, by simp⟩, trivial, trivial⟩ ?_
      refine Ev.seq ?_
      refine Ev.reg [(6, .box 3 1 (encI .i64) 0 (l.set (z3 % l.length) (IntKind.wrap .i64 ((z0 : Nat) : Int))))] [0, 1, 5, 7, 8, 9] (st' := ⟨[(0, (dL 1 (encI .i64) 0 l)), (1, (dL 1 (encI .u8) 0 b)), (5, (.ptr 0 0 0 0)), (7, (dB true)), (8, (dI .i64 ((z3 % l.length : Nat) : Int))), (9, (.own 1))], [(.var 78 [(dI .u64 ((z0 : Nat) : Int)), (dI .u64 ((z1 : Nat) : Int)), (dI .u64 ((z2 : Nat) : Int)), (dI .u64 ((z3 : Nat) : Int))]), (.arr 3 1 (encI .i64) 0 (l.set (z3 % l.length) (IntKind.wrap .i64 ((z0 : Nat) : Int))))]⟩)
        (p := True ∧ True ∧ ((0 ≤ (0 : Int) ∧ 0 < (4 : Int)) ∧ True) ∧ True ∧ True ∧ (0 ≤ ((z3 % l.length : Nat) : Int) ∧ ((z3 % l.length : Nat) : Int) < (l.length : Int)) ∧ (z3 % l.length < l.length ∧ (l.map (encI .i64)).set (z3 % l.length) (((encI .i64) (l.getD (z3 % l.length) 0)).take 0 ++ [(.int .i64 (IntKind.wrap .i64 ((z0 : Nat) : Int)))] ++ ((encI .i64) (l.getD (z3 % l.length) 0)).drop (0 + 1)) = (l.set (z3 % l.length) (IntKind.wrap .i64 ((z0 : Nat) : Int))).map (encI .i64)) ∧ True) (by kernel_rfl)
        ⟨trivial, trivial, ⟨by omega, trivial⟩, trivial, trivial, (by first | omega | (rw [List.length_set]; omega)), ⟨(by first | omega | (rw [List.length_set]; omega)), by simp only [List.map_set]; rfl⟩, trivial⟩ ?_
      refine Ev.seq ?_
      refine Ev.freeze 1 (st' := ⟨[(0, (dL 1 (encI .i64) 0 l)), (1, (dL 1 (encI .u8) 0 b)), (5, (.ptr 0 0 0 0)), (7, (dB true)), (8, (dI .i64 ((z3 % l.length : Nat) : Int))), (9, (dL 1 (encI .i64) 0 (l.set (z3 % l.length) (IntKind.wrap .i64 ((z0 : Nat) : Int)))))], [(.var 78 [(dI .u64 ((z0 : Nat) : Int)), (dI .u64 ((z1 : Nat) : Int)), (dI .u64 ((z2 : Nat) : Int)), (dI .u64 ((z3 : Nat) : Int))]), .dead]⟩) (by kernel_rfl) ?_
      refine Ev.draw 36 [false, false, false, false, false, false, false, false, false, false, false, false, false, false, false, false, false, false, false, false, false, false, false, false, false, false, false, false, false, false, false, false, false, false, false, false] [(1, .call none false (dI .u64 (wordsF l))), (3, .call none false (dI .u64 (wordsF (l.set (z3 % l.length) (IntKind.wrap .i64 ((z0 : Nat) : Int)))))), (14, .val (dB false)), (19, .call none false (dI .u64 (tagF ((z1 : Nat) : Int) l))), (23, .call none false (dI .u64 (tagF ((z1 : Nat) : Int) (l.set (z3 % l.length) (IntKind.wrap .i64 ((z0 : Nat) : Int)))))), (34, .val (dB false))] [1, 5, 7, 131] (st' := ⟨[(1, (dL 1 (encI .u8) 0 b)), (5, (.ptr 0 0 0 0)), (7, (dB true)), (131, (dB false))], [(.var 78 [(dI .u64 ((z0 : Nat) : Int)), (dI .u64 ((z1 : Nat) : Int)), (dI .u64 ((z2 : Nat) : Int)), (dI .u64 ((z3 : Nat) : Int))]), .dead]⟩)
        (p := (True ∧ callOb Try.prog 37 [(.var 78 [(dI .u64 ((z0 : Nat) : Int)), (dI .u64 ((z1 : Nat) : Int)), (dI .u64 ((z2 : Nat) : Int)), (dI .u64 ((z3 : Nat) : Int))]), .dead] [(dL 1 (encI .i64) 0 l)] none false (dI .u64 (wordsF l)) ∧ True ∧ callOb Try.prog 37 [(.var 78 [(dI .u64 ((z0 : Nat) : Int)), (dI .u64 ((z1 : Nat) : Int)), (dI .u64 ((z2 : Nat) : Int)), (dI .u64 ((z3 : Nat) : Int))]), .dead] [(dL 1 (encI .i64) 0 (l.set (z3 % l.length) (IntKind.wrap .i64 ((z0 : Nat) : Int))))] none false (dI .u64 (wordsF (l.set (z3 % l.length) (IntKind.wrap .i64 ((z0 : Nat) : Int))))) ∧ True ∧ True ∧ True ∧ (0 ≤ ((z3 % l.length : Nat) : Int) ∧ ((z3 % l.length : Nat) : Int) < (l.length : Int)) ∧ True ∧ True ∧ True ∧ (0 ≤ ((z3 % l.length : Nat) : Int) ∧ ((z3 % l.length : Nat) : Int) < ((l.set (z3 % l.length) (IntKind.wrap .i64 ((z0 : Nat) : Int))).length : Int)) ∧ True ∧ True ∧ (True ∧ (!(((wordsF l) == (wordsF (l.set (z3 % l.length) (IntKind.wrap .i64 ((z0 : Nat) : Int))))) == ((l.getD (z3 % l.length) 0) == ((l.set (z3 % l.length) (IntKind.wrap .i64 ((z0 : Nat) : Int))).getD (z3 % l.length) 0)))) = false) ∧ True ∧ ((0 ≤ (1 : Int) ∧ 1 < (4 : Int)) ∧ True) ∧ True ∧ True ∧ callOb Try.prog 43 [(.var 78 [(dI .u64 ((z0 : Nat) : Int)), (dI .u64 ((z1 : Nat) : Int)), (dI .u64 ((z2 : Nat) : Int)), (dI .u64 ((z3 : Nat) : Int))]), .dead] [(dI .u64 ((z1 : Nat) : Int)), (dL 1 (encI .i64) 0 l)] none false (dI .u64 (tagF ((z1 : Nat) : Int) l)) ∧ ((0 ≤ (1 : Int) ∧ 1 < (4 : Int)) ∧ True) ∧ True ∧ True ∧ callOb Try.prog 43 [(.var 78 [(dI .u64 ((z0 : Nat) : Int)), (dI .u64 ((z1 : Nat) : Int)), (dI .u64 ((z2 : Nat) : Int)), (dI .u64 ((z3 : Nat) : Int))]), .dead] [(dI .u64 ((z1 : Nat) : Int)), (dL 1 (encI .i64) 0 (l.set (z3 % l.length) (IntKind.wrap .i64 ((z0 : Nat) : Int))))] none false (dI .u64 (tagF ((z1 : Nat) : Int) (l.set (z3 % l.length) (IntKind.wrap .i64 ((z0 : Nat) : Int))))) ∧ True ∧ True ∧ True ∧ (0 ≤ ((z3 % l.length : Nat) : Int) ∧ ((z3 % l.length : Nat) : Int) < (l.length : Int)) ∧ True ∧ True ∧ True ∧ (0 ≤ ((z3 % l.length : Nat) : Int) ∧ ((z3 % l.length : Nat) : Int) < ((l.set (z3 % l.length) (IntKind.wrap .i64 ((z0 : Nat) : Int))).length : Int)) ∧ True ∧ True ∧ (True ∧ (!(((tagF ((z1 : Nat) : Int) l) == (tagF ((z1 : Nat) : Int) (l.set (z3 % l.length) (IntKind.wrap .i64 ((z0 : Nat) : Int))))) == ((l.getD (z3 % l.length) 0) == ((l.set (z3 % l.length) (IntKind.wrap .i64 ((z0 : Nat) : Int))).getD (z3 % l.length) 0)))) = false) ∧ True ∧ True) ∧ True) (by kernel_rfl) (by kernel_rfl)
        ⟨⟨trivial, (words_ok _), trivial, (words_ok _), trivial, trivial, trivial, (by first | omega | (rw [List.length_set]; omega)), trivial, trivial, trivial, (by first | omega | (rw [List.length_set]; omega)), trivial, trivial, ⟨trivial, (by exact bne_same (one_words hi hil (wrap_in _)))⟩, trivial, ⟨by omega, trivial⟩, trivial, trivial, (tag_ok _ _), ⟨by omega, trivial⟩, trivial, trivial, (tag_ok _ _), trivial, trivial, trivial, (by first | omega | (rw [List.length_set]; omega)), trivial, trivial, trivial, (by first | omega | (rw [List.length_set]; omega)), trivial, trivial, ⟨trivial, (by exact bne_same (one_tag hi hil (wrap_in _) _))⟩, trivial, trivial⟩, trivial⟩ ?_
      refine Ev.cond false rfl (fun h => (by cases h)) (fun _ => ?_)
      refine Ev.skip ?_
      refine Ev.seq ?_
      refine Ev.seq ?_
      refine Ev.reg [] [1, 5, 7, 134] (st' := ⟨[(1, (dL 1 (encI .u8) 0 b)), (5, (.ptr 0 0 0 0)), (7, (dB true)), (134, (dB (decide (((b.length : Nat) : Int) > 0))))], [(.var 78 [(dI .u64 ((z0 : Nat) : Int)), (dI .u64 ((z1 : Nat) : Int)), (dI .u64 ((z2 : Nat) : Int)), (dI .u64 ((z3 : Nat) : Int))]), .dead]⟩)
        (p := True ∧ True ∧ True ∧ True) (by kernel_rfl)
        ⟨trivial, trivial, trivial, trivial⟩ ?_
      refine Ev.cond _ rfl (fun hc134 => ?_) (fun hc134 => ?_)
      · simp only [decide_eq_true_eq, decide_eq_false_iff_not, beq_iff_eq, bne_iff_ne, ne_eq, beq_eq_false_iff_ne, bne_eq_false_iff_eq, Bool.not_eq_true, Bool.not_eq_false, Bool.not_eq_true', Bool.not_eq_false', Bool.not_not, gt_iff_lt, ge_iff_le, Nat.not_lt, Int.not_lt, Int.not_le] at hc134
        refine Ev.seq ?_
        have hbp : 0 < b.length := by omega
        have hib : z3 % b.length < b.length := Nat.mod_lt _ hbp
        refine Ev.reg [(4, .val (dI .u64 ((b.length : Nat) : Int))), (5, .val (dI .u64 ((z3 % b.length : Nat) : Int))), (6, .val (dI .i64 ((z3 % b.length : Nat) : Int)))] [1, 5, 7, 10] (st' := ⟨[(1, (dL 1 (encI .u8) 0 b)), (5, (.ptr 0 0 0 0)), (7, (dB true)), (10, (dI .i64 ((z3 % b.length : Nat) : Int)))], [(.var 78 [(dI .u64 ((z0 : Nat) : Int)), (dI .u64 ((z1 : Nat) : Int)), (dI .u64 ((z2 : Nat) : Int)), (dI .u64 ((z3 : Nat) : Int))]), .dead]⟩)
          (p := ((0 ≤ (3 : Int) ∧ 3 < (4 : Int)) ∧ True) ∧ True ∧ True ∧ True ∧ (True ∧ (IntKind.wrap .u64 ((b.length : Nat) : Int)) = ((b.length : Nat) : Int)) ∧ (((b.length : Nat) : Int) ≠ 0 ∧ (Int.tmod ((z3 : Nat) : Int) ((b.length : Nat) : Int)) = ((z3 % b.length : Nat) : Int)) ∧ (True ∧ (IntKind.wrap .i64 ((z3 % b.length : Nat) : Int)) = ((z3 % b.length : Nat) : Int)) ∧ True ∧ True) (by kernel_rfl)
          ⟨⟨by omega, trivial⟩, trivial, trivial, trivial, ⟨trivial, (wu64 rfl (by first | omega | (simp; first | done | omega)) (by first | omega | (simp; first | done | omega)))⟩, ⟨(by first | omega | (simp; first | done | omega)), (tmodN _ _)⟩, ⟨trivial, (w64n rfl (by omega))⟩, trivial, trivial⟩ ?_
        refine Ev.seq ?_
        refine Ev.reg [(0, .box 5 1 (encI .u8) 0 ([] : List Int)), (2, .box 5 1 (encI .u8) 0 b)] [1, 5, 7, 10, 11] (st' := ⟨[(1, (dL 1 (encI .u8) 0 b)), (5, (.ptr 0 0 0 0)), (7, (dB true)), (10, (dI .i64 ((z3 % b.length : Nat) : Int))), (11, (.own 2))], [(.var 78 [(dI .u64 ((z0 : Nat) : Int)), (dI .u64 ((z1 : Nat) : Int)), (dI .u64 ((z2 : Nat) : Int)), (dI .u64 ((z3 : Nat) : Int))]), .dead, (.arr 5 1 (encI .u8) 0 b)]⟩)
          (p := eqRows [] (([] : List Int).map (encI .u8)) ∧ True ∧ (([] : List Int).length + (b.map (encI .u8)).length ≤ 137438953472 ∧ ([] : List Int).map (encI .u8) ++ b.map (encI .u8) = b.map (encI .u8)) ∧ True ∧ True) (by kernel_rfl)
          ⟨trivial, trivial, ⟨by simp; omega, by simp⟩, trivial, trivial⟩ ?_
        refine Ev.seq ?_
        refine Ev.reg [(6, .box 5 1 (encI .u8) 0 (b.set (z3 % b.length) (IntKind.wrap .u8 ((z0 : Nat) : Int))))] [1, 7, 10, 11] (st' := ⟨[(1, (dL 1 (encI .u8) 0 b)), (7, (dB true)), (10, (dI .i64 ((z3 % b.length : Nat) : Int))), (11, (.own 2))], [(.var 78 [(dI .u64 ((z0 : Nat) : Int)), (dI .u64 ((z1 : Nat) : Int)), (dI .u64 ((z2 : Nat) : Int)), (dI .u64 ((z3 : Nat) : Int))]), .dead, (.arr 5 1 (encI .u8) 0 (b.set (z3 % b.length) (IntKind.wrap .u8 ((z0 : Nat) : Int))))]⟩)
          (p := True ∧ True ∧ ((0 ≤ (0 : Int) ∧ 0 < (4 : Int)) ∧ True) ∧ True ∧ True ∧ (0 ≤ ((z3 % b.length : Nat) : Int) ∧ ((z3 % b.length : Nat) : Int) < (b.length : Int)) ∧ (z3 % b.length < b.length ∧ (b.map (encI .u8)).set (z3 % b.length) (((encI .u8) (b.getD (z3 % b.length) 0)).take 0 ++ [(.int .u8 (IntKind.wrap .u8 ((z0 : Nat) : Int)))] ++ ((encI .u8) (b.getD (z3 % b.length) 0)).drop (0 + 1)) = (b.set (z3 % b.length) (IntKind.wrap .u8 ((z0 : Nat) : Int))).map (encI .u8)) ∧ True) (by kernel_rfl)
          ⟨trivial, trivial, ⟨by omega, trivial⟩, trivial, trivial, (by first | omega | (rw [List.length_set]; omega)), ⟨(by first | omega | (rw [List.length_set]; omega)), by simp only [List.map_set]; rfl⟩, trivial⟩ ?_
        refine Ev.seq ?_
        refine Ev.freeze 2 (st' := ⟨[(1, (dL 1 (encI .u8) 0 b)), (7, (dB true)), (10, (dI .i64 ((z3 % b.length : Nat) : Int))), (11, (dL 1 (encI .u8) 0 (b.set (z3 % b.length) (IntKind.wrap .u8 ((z0 : Nat) : Int)))))], [(.var 78 [(dI .u64 ((z0 : Nat) : Int)), (dI .u64 ((z1 : Nat) : Int)), (dI .u64 ((z2 : Nat) : Int)), (dI .u64 ((z3 : Nat) : Int))]), .dead, .dead]⟩) (by kernel_rfl) ?_
        refine Ev.draw 15 [false, false, false, false, false, false, false, false, false, false, false, false, false, false, false] [(1, .call none false (dI .u64 (bytesF b))), (3, .call none false (dI .u64 (bytesF (b.set (z3 % b.length) (IntKind.wrap .u8 ((z0 : Nat) : Int)))))), (14, .val (dB false))] [7, 165] (st' := ⟨[(7, (dB true)), (165, (dB false))], [(.var 78 [(dI .u64 ((z0 : Nat) : Int)), (dI .u64 ((z1 : Nat) : Int)), (dI .u64 ((z2 : Nat) : Int)), (dI .u64 ((z3 : Nat) : Int))]), .dead, .dead]⟩)
          (p := (True ∧ callOb Try.prog 39 [(.var 78 [(dI .u64 ((z0 : Nat) : Int)), (dI .u64 ((z1 : Nat) : Int)), (dI .u64 ((z2 : Nat) : Int)), (dI .u64 ((z3 : Nat) : Int))]), .dead, .dead] [(dL 1 (encI .u8) 0 b)] none false (dI .u64 (bytesF b)) ∧ True ∧ callOb Try.prog 39 [(.var 78 [(dI .u64 ((z0 : Nat) : Int)), (dI .u64 ((z1 : Nat) : Int)), (dI .u64 ((z2 : Nat) : Int)), (dI .u64 ((z3 : Nat) : Int))]), .dead, .dead] [(dL 1 (encI .u8) 0 (b.set (z3 % b.length) (IntKind.wrap .u8 ((z0 : Nat) : Int))))] none false (dI .u64 (bytesF (b.set (z3 % b.length) (IntKind.wrap .u8 ((z0 : Nat) : Int))))) ∧ True ∧ True ∧ True ∧ (0 ≤ ((z3 % b.length : Nat) : Int) ∧ ((z3 % b.length : Nat) : Int) < (b.length : Int)) ∧ True ∧ True ∧ True ∧ (0 ≤ ((z3 % b.length : Nat) : Int) ∧ ((z3 % b.length : Nat) : Int) < ((b.set (z3 % b.length) (IntKind.wrap .u8 ((z0 : Nat) : Int))).length : Int)) ∧ True ∧ True ∧ (True ∧ (!(((bytesF b) == (bytesF (b.set (z3 % b.length) (IntKind.wrap .u8 ((z0 : Nat) : Int))))) == ((b.getD (z3 % b.length) 0) == ((b.set (z3 % b.length) (IntKind.wrap .u8 ((z0 : Nat) : Int))).getD (z3 % b.length) 0)))) = false) ∧ True) ∧ True) (by kernel_rfl) (by kernel_rfl)
          ⟨⟨trivial, (bytes_ok _ (by first | assumption | exact bytes_set hb _) (by first | omega | (rw [List.length_set]; omega))), trivial, (bytes_ok _ (by first | assumption | exact bytes_set hb _) (by first | omega | (rw [List.length_set]; omega))), trivial, trivial, trivial, (by first | omega | (rw [List.length_set]; omega)), trivial, trivial, trivial, (by first | omega | (rw [List.length_set]; omega)), trivial, trivial, ⟨trivial, (by exact bne_same (one_bytes hb hib (wrap8_in _)))⟩, trivial⟩, trivial⟩ ?_
        refine Ev.cond false rfl (fun h => (by cases h)) (fun _ => ?_)
        refine Ev.skip ?_
        refine Ev.seq ?_
        refine Ev.reg [] [6] (st' := ⟨[(6, (dB true))], [(.var 78 [(dI .u64 ((z0 : Nat) : Int)), (dI .u64 ((z1 : Nat) : Int)), (dI .u64 ((z2 : Nat) : Int)), (dI .u64 ((z3 : Nat) : Int))]), .dead, .dead]⟩)
          (p := True ∧ True ∧ True) (by kernel_rfl)
          ⟨trivial, trivial, trivial⟩ ?_
        refine Ev.ret ?_
        refine ⟨⟨trivial, trivial⟩, (?_ : true = true), .inr trivial⟩
        rfl
      · simp only [decide_eq_true_eq, decide_eq_false_iff_not, beq_iff_eq, bne_iff_ne, ne_eq, beq_eq_false_iff_ne, bne_eq_false_iff_eq, Bool.not_eq_true, Bool.not_eq_false, Bool.not_eq_true', Bool.not_eq_false', Bool.not_not, gt_iff_lt, ge_iff_le, Nat.not_lt, Int.not_lt, Int.not_le] at hc134
        refine Ev.skip ?_
        refine Ev.seq ?_
        refine Ev.reg [] [6] (st' := ⟨[(6, (dB true))], [(.var 78 [(dI .u64 ((z0 : Nat) : Int)), (dI .u64 ((z1 : Nat) : Int)), (dI .u64 ((z2 : Nat) : Int)), (dI .u64 ((z3 : Nat) : Int))]), .dead]⟩)
          (p := True ∧ True ∧ True) (by kernel_rfl)
          ⟨trivial, trivial, trivial⟩ ?_
        refine Ev.ret ?_
        refine ⟨⟨trivial, trivial⟩, (?_ : true = true), .inr trivial⟩
        rfl
    · simp only [decide_eq_true_eq, decide_eq_false_iff_not, beq_iff_eq, bne_iff_ne, ne_eq, beq_eq_false_iff_ne, bne_eq_false_iff_eq, Bool.not_eq_true, Bool.not_eq_false, Bool.not_eq_true', Bool.not_eq_false', Bool.not_not, gt_iff_lt, ge_iff_le, Nat.not_lt, Int.not_lt, Int.not_le] at hc79
      refine Ev.skip ?_
      refine Ev.seq ?_
      refine Ev.seq ?_
      refine Ev.reg [] [1, 5, 7, 134] (st' := ⟨[(1, (dL 1 (encI .u8) 0 b)), (5, (.ptr 0 0 0 0)), (7, (dB true)), (134, (dB (decide (((b.length : Nat) : Int) > 0))))], [(.var 78 [(dI .u64 ((z0 : Nat) : Int)), (dI .u64 ((z1 : Nat) : Int)), (dI .u64 ((z2 : Nat) : Int)), (dI .u64 ((z3 : Nat) : Int))])]⟩)
        (p := True ∧ True ∧ True ∧ True) (by kernel_rfl)
        ⟨trivial, trivial, trivial, trivial⟩ ?_
      refine Ev.cond _ rfl (fun hc134 => ?_) (fun hc134 => ?_)
      · simp only [decide_eq_true_eq, decide_eq_false_iff_not, beq_iff_eq, bne_iff_ne, ne_eq, beq_eq_false_iff_ne, bne_eq_false_iff_eq, Bool.not_eq_true, Bool.not_eq_false, Bool.not_eq_true', Bool.not_eq_false', Bool.not_not, gt_iff_lt, ge_iff_le, Nat.not_lt, Int.not_lt, Int.not_le] at hc134
        refine Ev.seq ?_
        have hbp : 0 < b.length := by omega
        have hib : z3 % b.length < b.length := Nat.mod_lt _ hbp
        refine Ev.reg [(4, .val (dI .u64 ((b.length : Nat) : Int))), (5, .val (dI .u64 ((z3 % b.length : Nat) : Int))), (6, .val (dI .i64 ((z3 % b.length : Nat) : Int)))] [1, 5, 7, 10] (st' := ⟨[(1, (dL 1 (encI .u8) 0 b)), (5, (.ptr 0 0 0 0)), (7, (dB true)), (10, (dI .i64 ((z3 % b.length : Nat) : Int)))], [(.var 78 [(dI .u64 ((z0 : Nat) : Int)), (dI .u64 ((z1 : Nat) : Int)), (dI .u64 ((z2 : Nat) : Int)), (dI .u64 ((z3 : Nat) : Int))])]⟩)
          (p := ((0 ≤ (3 : Int) ∧ 3 < (4 : Int)) ∧ True) ∧ True ∧ True ∧ True ∧ (True ∧ (IntKind.wrap .u64 ((b.length : Nat) : Int)) = ((b.length : Nat) : Int)) ∧ (((b.length : Nat) : Int) ≠ 0 ∧ (Int.tmod ((z3 : Nat) : Int) ((b.length : Nat) : Int)) = ((z3 % b.length : Nat) : Int)) ∧ (True ∧ (IntKind.wrap .i64 ((z3 % b.length : Nat) : Int)) = ((z3 % b.length : Nat) : Int)) ∧ True ∧ True) (by kernel_rfl)
          ⟨⟨by omega, trivial⟩, trivial, trivial, trivial, ⟨trivial, (wu64 rfl (by first | omega | (simp; first | done | omega)) (by first | omega | (simp; first | done | omega)))⟩, ⟨(by first | omega | (simp; first | done | omega)), (tmodN _ _)⟩, ⟨trivial, (w64n rfl (by omega))⟩, trivial, trivial⟩ ?_
        refine Ev.seq ?_
        refine Ev.reg [(0, .box 5 1 (encI .u8) 0 ([] : List Int)), (2, .box 5 1 (encI .u8) 0 b)] [1, 5, 7, 10, 11] (st' := ⟨[(1, (dL 1 (encI .u8) 0 b)), (5, (.ptr 0 0 0 0)), (7, (dB true)), (10, (dI .i64 ((z3 % b.length : Nat) : Int))), (11, (.own 1))], [(.var 78 [(dI .u64 ((z0 : Nat) : Int)), (dI .u64 ((z1 : Nat) : Int)), (dI .u64 ((z2 : Nat) : Int)), (dI .u64 ((z3 : Nat) : Int))]), (.arr 5 1 (encI .u8) 0 b)]⟩)
          (p := eqRows [] (([] : List Int).map (encI .u8)) ∧ True ∧ (([] : List Int).length + (b.map (encI .u8)).length ≤ 137438953472 ∧ ([] : List Int).map (encI .u8) ++ b.map (encI .u8) = b.map (encI .u8)) ∧ True ∧ True) (by kernel_rfl)
          ⟨trivial, trivial, ⟨by simp; omega, by simp⟩, trivial, trivial⟩ ?_
        refine Ev.seq ?_
        refine Ev.reg [(6, .box 5 1 (encI .u8) 0 (b.set (z3 % b.length) (IntKind.wrap .u8 ((z0 : Nat) : Int))))] [1, 7, 10, 11] (st' := ⟨[(1, (dL 1 (encI .u8) 0 b)), (7, (dB true)), (10, (dI .i64 ((z3 % b.length : Nat) : Int))), (11, (.own 1))], [(.var 78 [(dI .u64 ((z0 : Nat) : Int)), (dI .u64 ((z1 : Nat) : Int)), (dI .u64 ((z2 : Nat) : Int)), (dI .u64 ((z3 : Nat) : Int))]), (.arr 5 1 (encI .u8) 0 (b.set (z3 % b.length) (IntKind.wrap .u8 ((z0 : Nat) : Int))))]⟩)
          (p := True ∧ True ∧ ((0 ≤ (0 : Int) ∧ 0 < (4 : Int)) ∧ True) ∧ True ∧ True ∧ (0 ≤ ((z3 % b.length : Nat) : Int) ∧ ((z3 % b.length : Nat) : Int) < (b.length : Int)) ∧ (z3 % b.length < b.length ∧ (b.map (encI .u8)).set (z3 % b.length) (((encI .u8) (b.getD (z3 % b.length) 0)).take 0 ++ [(.int .u8 (IntKind.wrap .u8 ((z0 : Nat) : Int)))] ++ ((encI .u8) (b.getD (z3 % b.length) 0)).drop (0 + 1)) = (b.set (z3 % b.length) (IntKind.wrap .u8 ((z0 : Nat) : Int))).map (encI .u8)) ∧ True) (by kernel_rfl)
          ⟨trivial, trivial, ⟨by omega, trivial⟩, trivial, trivial, (by first | omega | (rw [List.length_set]; omega)), ⟨(by first | omega | (rw [List.length_set]; omega)), by simp only [List.map_set]; rfl⟩, trivial⟩ ?_
        refine Ev.seq ?_
        refine Ev.freeze 1 (st' := ⟨[(1, (dL 1 (encI .u8) 0 b)), (7, (dB true)), (10, (dI .i64 ((z3 % b.length : Nat) : Int))), (11, (dL 1 (encI .u8) 0 (b.set (z3 % b.length) (IntKind.wrap .u8 ((z0 : Nat) : Int)))))], [(.var 78 [(dI .u64 ((z0 : Nat) : Int)), (dI .u64 ((z1 : Nat) : Int)), (dI .u64 ((z2 : Nat) : Int)), (dI .u64 ((z3 : Nat) : Int))]), .dead]⟩) (by kernel_rfl) ?_
        refine Ev.draw 15 [false, false, false, false, false, false, false, false, false, false, false, false, false, false, false] [(1, .call none false (dI .u64 (bytesF b))), (3, .call none false (dI .u64 (bytesF (b.set (z3 % b.length) (IntKind.wrap .u8 ((z0 : Nat) : Int)))))), (14, .val (dB false))] [7, 165] (st' := ⟨[(7, (dB true)), (165, (dB false))], [(.var 78 [(dI .u64 ((z0 : Nat) : Int)), (dI .u64 ((z1 : Nat) : Int)), (dI .u64 ((z2 : Nat) : Int)), (dI .u64 ((z3 : Nat) : Int))]), .dead]⟩)
          (p := (True ∧ callOb Try.prog 39 [(.var 78 [(dI .u64 ((z0 : Nat) : Int)), (dI .u64 ((z1 : Nat) : Int)), (dI .u64 ((z2 : Nat) : Int)), (dI .u64 ((z3 : Nat) : Int))]), .dead] [(dL 1 (encI .u8) 0 b)] none false (dI .u64 (bytesF b)) ∧ True ∧ callOb Try.prog 39 [(.var 78 [(dI .u64 ((z0 : Nat) : Int)), (dI .u64 ((z1 : Nat) : Int)), (dI .u64 ((z2 : Nat) : Int)), (dI .u64 ((z3 : Nat) : Int))]), .dead] [(dL 1 (encI .u8) 0 (b.set (z3 % b.length) (IntKind.wrap .u8 ((z0 : Nat) : Int))))] none false (dI .u64 (bytesF (b.set (z3 % b.length) (IntKind.wrap .u8 ((z0 : Nat) : Int))))) ∧ True ∧ True ∧ True ∧ (0 ≤ ((z3 % b.length : Nat) : Int) ∧ ((z3 % b.length : Nat) : Int) < (b.length : Int)) ∧ True ∧ True ∧ True ∧ (0 ≤ ((z3 % b.length : Nat) : Int) ∧ ((z3 % b.length : Nat) : Int) < ((b.set (z3 % b.length) (IntKind.wrap .u8 ((z0 : Nat) : Int))).length : Int)) ∧ True ∧ True ∧ (True ∧ (!(((bytesF b) == (bytesF (b.set (z3 % b.length) (IntKind.wrap .u8 ((z0 : Nat) : Int))))) == ((b.getD (z3 % b.length) 0) == ((b.set (z3 % b.length) (IntKind.wrap .u8 ((z0 : Nat) : Int))).getD (z3 % b.length) 0)))) = false) ∧ True) ∧ True) (by kernel_rfl) (by kernel_rfl)
          ⟨⟨trivial, (bytes_ok _ (by first | assumption | exact bytes_set hb _) (by first | omega | (rw [List.length_set]; omega))), trivial, (bytes_ok _ (by first | assumption | exact bytes_set hb _) (by first | omega | (rw [List.length_set]; omega))), trivial, trivial, trivial, (by first | omega | (rw [List.length_set]; omega)), trivial, trivial, trivial, (by first | omega | (rw [List.length_set]; omega)), trivial, trivial, ⟨trivial, (by exact bne_same (one_bytes hb hib (wrap8_in _)))⟩, trivial⟩, trivial⟩ ?_
        refine Ev.cond false rfl (fun h => (by cases h)) (fun _ => ?_)
        refine Ev.skip ?_
        refine Ev.seq ?_
        refine Ev.reg [] [6] (st' := ⟨[(6, (dB true))], [(.var 78 [(dI .u64 ((z0 : Nat) : Int)), (dI .u64 ((z1 : Nat) : Int)), (dI .u64 ((z2 : Nat) : Int)), (dI .u64 ((z3 : Nat) : Int))]), .dead]⟩)
          (p := True ∧ True ∧ True) (by kernel_rfl)
          ⟨trivial, trivial, trivial⟩ ?_
        refine Ev.ret ?_
        refine ⟨⟨trivial, trivial⟩, (?_ : true = true), .inr trivial⟩
        rfl
      · simp only [decide_eq_true_eq, decide_eq_false_iff_not, beq_iff_eq, bne_iff_ne, ne_eq, beq_eq_false_iff_ne, bne_eq_false_iff_eq, Bool.not_eq_true, Bool.not_eq_false, Bool.not_eq_true', Bool.not_eq_false', Bool.not_not, gt_iff_lt, ge_iff_le, Nat.not_lt, Int.not_lt, Int.not_le] at hc134
        refine Ev.skip ?_
        refine Ev.seq ?_
        refine Ev.reg [] [6] (st' := ⟨[(6, (dB true))], [(.var 78 [(dI .u64 ((z0 : Nat) : Int)), (dI .u64 ((z1 : Nat) : Int)), (dI .u64 ((z2 : Nat) : Int)), (dI .u64 ((z3 : Nat) : Int))])]⟩)
          (p := True ∧ True ∧ True) (by kernel_rfl)
          ⟨trivial, trivial, trivial⟩ ?_
        refine Ev.ret ?_
        refine ⟨⟨trivial, trivial⟩, (?_ : true = true), .inr trivial⟩
        rfl

end Go.Proofs.Ytjmfaebimgnblaa
