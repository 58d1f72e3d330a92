/-
  JournalContinues.
-/
import Derived.Test.YtjmfaebimgnblaaJouG
import Derived.Test.YtjmfaebimgnblaaJouL
namespace Go.Proofs.Ytjmfaebimgnblaa
open Go.RowKit
set_option linter.unusedVariables false
set_option linter.unusedSimpArgs false

set_option maxRecDepth 100000 in
theorem continues_law (l m : List (List Int)) (n : Nat) (hl : RecsBig l) (hi : ∀ r ∈ l, Ints64 r) (hm : RecsBig m) (him : ∀ r ∈ m, Ints64 r) (hn : n ≤ 65535) : CallOk Try.prog 10 [(dL 1 encLI [] l), (dL 1 encLI [] m), (dI .u16 ((n : Nat) : Int))] [] false (dB true) [] := by
  refine CallOk.of_ev Try.func10 rfl rfl rfl ?_
  rintro ⟨_, W, S0, _, susp, _⟩ rfl rfl rfl
  refine Ev.seq ?_
  refine Ev.reg [] [0, 1, 2] (st' := ⟨[(0, (dL 1 encLI [] l)), (1, (dL 1 encLI [] m)), (2, (dI .u16 ((n : Nat) : Int)))], []⟩)
    (p := True ∧ True) (by kernel_rfl)
    ⟨trivial, trivial⟩ ?_
  refine Ev.seq ?_
  refine Ev.reg [(0, .call none false (dB true))] [0, 1, 2, 7] (st' := ⟨[(0, (dL 1 encLI [] l)), (1, (dL 1 encLI [] m)), (2, (dI .u16 ((n : Nat) : Int))), (7, (dB true))], []⟩)
    (p := callOb Try.prog 23 [] [] none false (dB true) ∧ True ∧ True) (by kernel_rfl)
    ⟨examples_ok, trivial, trivial⟩ ?_
  refine Ev.seq ?_
  refine Ev.seq ?_
  refine Ev.reg [] [0, 1, 2, 7, 19] (st' := ⟨[(0, (dL 1 encLI [] l)), (1, (dL 1 encLI [] m)), (2, (dI .u16 ((n : Nat) : Int))), (7, (dB true)), (19, (dB false))], []⟩)
    (p := True ∧ True ∧ True) (by kernel_rfl)
    ⟨trivial, trivial, trivial⟩ ?_
  refine Ev.cond false rfl (fun h => (by cases h)) (fun _ => ?_)
  refine Ev.skip ?_
  refine Ev.seq ?_
  refine Ev.seq ?_
  rcases bool3 (smallF l) (smallF m) with hsl | ⟨hsl, hsm⟩ | ⟨hsl, hsm⟩
  · skip
    refine Ev.reg [(1, .call none false (dB (smallF l))), (2, .val (dB true))] [0, 1, 2, 7, 27] (st' := ⟨[(0, (dL 1 encLI [] l)), (1, (dL 1 encLI [] m)), (2, (dI .u16 ((n : Nat) : Int))), (7, (dB true)), (27, (dB true))], []⟩)
      (p := True ∧ callOb Try.prog 24 [] [(dL 1 encLI [] l)] none false (dB (smallF l)) ∧ (True ∧ (!(smallF l)) = true) ∧ True ∧ True ∧ True ∧ True ∧ True ∧ True) (by kernel_rfl)
      ⟨trivial, (small_ok _ (by first | assumption | exact hS.recs | exact hM.recs | exact hRall | (rw [hrf]; exact hRall))), ⟨trivial, (by rw [hsl]; rfl)⟩, trivial, trivial, trivial, trivial, trivial, trivial⟩ ?_
    refine Ev.cond true rfl (fun _ => ?_) (fun h => (by cases h))
    refine Ev.seq ?_
    refine Ev.reg [] [6] (st' := ⟨[(6, (dB true))], []⟩)
      (p := True ∧ True ∧ True) (by kernel_rfl)
      ⟨trivial, trivial, trivial⟩ ?_
    refine Ev.ret ?_
    refine ⟨⟨trivial, trivial⟩, (?_ : true = true), .inr trivial⟩
    rfl
  · skip
    refine Ev.reg [(1, .call none false (dB (smallF l))), (2, .val (dB false)), (5, .call none false (dB (smallF m))), (6, .val (dB true))] [0, 1, 2, 7, 27] (st' := ⟨[(0, (dL 1 encLI [] l)), (1, (dL 1 encLI [] m)), (2, (dI .u16 ((n : Nat) : Int))), (7, (dB true)), (27, (dB true))], []⟩)
      (p := True ∧ callOb Try.prog 24 [] [(dL 1 encLI [] l)] none false (dB (smallF l)) ∧ (True ∧ (!(smallF l)) = false) ∧ True ∧ True ∧ callOb Try.prog 24 [] [(dL 1 encLI [] m)] none false (dB (smallF m)) ∧ (True ∧ (!(smallF m)) = true) ∧ True ∧ True) (by kernel_rfl)
      ⟨trivial, (small_ok _ (by first | assumption | exact hS.recs | exact hM.recs | exact hRall | (rw [hrf]; exact hRall))), ⟨trivial, (by rw [hsl]; rfl)⟩, trivial, trivial, (small_ok _ (by first | assumption | exact hS.recs | exact hM.recs | exact hRall | (rw [hrf]; exact hRall))), ⟨trivial, (by rw [hsm]; rfl)⟩, trivial, trivial⟩ ?_
    refine Ev.cond true rfl (fun _ => ?_) (fun h => (by cases h))
    refine Ev.seq ?_
    refine Ev.reg [] [6] (st' := ⟨[(6, (dB true))], []⟩)
      (p := True ∧ True ∧ True) (by kernel_rfl)
      ⟨trivial, trivial, trivial⟩ ?_
    refine Ev.ret ?_
    refine ⟨⟨trivial, trivial⟩, (?_ : true = true), .inr trivial⟩
    rfl
  · skip
    refine Ev.reg [(1, .call none false (dB (smallF l))), (2, .val (dB false)), (5, .call none false (dB (smallF m))), (6, .val (dB false))] [0, 1, 2, 7, 27] (st' := ⟨[(0, (dL 1 encLI [] l)), (1, (dL 1 encLI [] m)), (2, (dI .u16 ((n : Nat) : Int))), (7, (dB true)), (27, (dB false))], []⟩)
      (p := True ∧ callOb Try.prog 24 [] [(dL 1 encLI [] l)] none false (dB (smallF l)) ∧ (True ∧ (!(smallF l)) = false) ∧ True ∧ True ∧ callOb Try.prog 24 [] [(dL 1 encLI [] m)] none false (dB (smallF m)) ∧ (True ∧ (!(smallF m)) = false) ∧ True ∧ True) (by kernel_rfl)
      ⟨trivial, (small_ok _ (by first | assumption | exact hS.recs | exact hM.recs | exact hRall | (rw [hrf]; exact hRall))), ⟨trivial, (by rw [hsl]; rfl)⟩, trivial, trivial, (small_ok _ (by first | assumption | exact hS.recs | exact hM.recs | exact hRall | (rw [hrf]; exact hRall))), ⟨trivial, (by rw [hsm]; rfl)⟩, trivial, trivial⟩ ?_
    refine Ev.cond false rfl (fun h => (by cases h)) (fun _ => ?_)
    refine Ev.skip ?_
    refine Ev.seq ?_
    have hS : SmallOk l := smallF_ok hsl hi
    have hM : SmallOk m := smallF_ok hsm him
    have hAll := hS.all
    have hLR := hS.lenR
    have hMR := hM.lenR
    have hl12 := hS.len
    have hm12 := hM.len
    have hJ := jr_all hAll (by omega)
    have hjl := jr_length hAll (by omega) (Nat.le_refl l.length)
    rw [List.take_length] at hjl
    have hends := endsF_len l l.length
    refine Ev.reg [(1, .call none true (.tup [(dL 1 (encI .u8) 0 (jr l l.length)), (dL 1 (encI .i64) 0 (endsF l l.length))]))] [0, 1, 2, 7, 8, 9] (st' := ⟨[(0, (dL 1 encLI [] l)), (1, (dL 1 encLI [] m)), (2, (dI .u16 ((n : Nat) : Int))), (7, (dB true)), (8, (dL 1 (encI .u8) 0 (jr l l.length))), (9, (dL 1 (encI .i64) 0 (endsF l l.length)))], []⟩)
      (p := True ∧ callOb Try.prog 36 [] [(dL 1 encLI [] l)] none true (.tup [(dL 1 (encI .u8) 0 (jr l l.length)), (dL 1 (encI .i64) 0 (endsF l l.length))]) ∧ True ∧ True ∧ True ∧ True ∧ True ∧ True) (by kernel_rfl)
      ⟨trivial, (made_ok _ (by first | assumption | exact hS.recs | exact hM.recs | exact hRall | (rw [hrf]; exact hRall))), trivial, trivial, trivial, trivial, trivial, trivial⟩ ?_
    refine Ev.seq ?_
    have hcl : (n % ((jr l l.length).length + 1)) ≤ (jr l l.length).length := by have := Nat.mod_lt n (show 0 < (jr l l.length).length + 1 by omega); omega
    refine Ev.reg [(1, .val (dI .i64 ((n : Nat) : Int))), (4, .val (dI .i64 ((((jr l l.length).length) + 1 : Nat) : Int))), (5, .val (dI .i64 ((n % ((jr l l.length).length + 1) : Nat) : Int)))] [0, 1, 7, 8, 9, 10] (st' := ⟨[(0, (dL 1 encLI [] l)), (1, (dL 1 encLI [] m)), (7, (dB true)), (8, (dL 1 (encI .u8) 0 (jr l l.length))), (9, (dL 1 (encI .i64) 0 (endsF l l.length))), (10, (dI .i64 ((n % ((jr l l.length).length + 1) : Nat) : Int)))], []⟩)
      (p := True ∧ (True ∧ (IntKind.wrap .i64 ((n : Nat) : Int)) = ((n : Nat) : Int)) ∧ True ∧ True ∧ (True ∧ (IntKind.wrap .i64 ((((jr l l.length).length : Nat) : Int) + 1)) = ((((jr l l.length).length) + 1 : Nat) : Int)) ∧ (((((jr l l.length).length) + 1 : Nat) : Int) ≠ 0 ∧ (Int.tmod ((n : Nat) : Int) ((((jr l l.length).length) + 1 : Nat) : Int)) = ((n % ((jr l l.length).length + 1) : Nat) : Int)) ∧ True ∧ True) (by kernel_rfl)
      ⟨trivial, ⟨trivial, (w64 rfl (by first | omega | (simp; first | done | omega) | (simp only [List.length_take, List.length_drop, List.length_set]; omega) | (have := putsF_len hWl m i; omega) | (rw [cutF_nat hcl, List.length_take]; omega)) (by first | omega | (simp; first | done | omega) | (simp only [List.length_take, List.length_drop, List.length_set]; omega) | (have := putsF_len hWl m i; omega) | (rw [cutF_nat hcl, List.length_take]; omega)))⟩, trivial, trivial, ⟨trivial, (w64n (by first | rfl | simp | omega) (by first | omega | (simp; first | done | omega) | (simp only [List.length_take, List.length_drop, List.length_set]; omega) | (have := putsF_len hWl m i; omega) | (rw [cutF_nat hcl, List.length_take]; omega)))⟩, ⟨(by first | omega | (simp; first | done | omega) | (simp only [List.length_take, List.length_drop, List.length_set]; omega) | (have := putsF_len hWl m i; omega) | (rw [cutF_nat hcl, List.length_take]; omega)), (tmodN _ _)⟩, trivial, trivial⟩ ?_
    refine Ev.seq ?_
    refine Ev.reg [] [0, 1, 7, 8, 9, 10, 11] (st' := ⟨[(0, (dL 1 encLI [] l)), (1, (dL 1 encLI [] m)), (7, (dB true)), (8, (dL 1 (encI .u8) 0 (jr l l.length))), (9, (dL 1 (encI .i64) 0 (endsF l l.length))), (10, (dI .i64 ((n % ((jr l l.length).length + 1) : Nat) : Int))), (11, (dI .i64 0))], []⟩)
      (p := True ∧ True) (by kernel_rfl)
      ⟨trivial, trivial⟩ ?_
    refine Ev.seq ?_
    refine Ev.block ?_
    refine Ev.loop [0, 1, 7, 8, 9, 10, 11] 0 (fun (k : Nat) => ⟨[(0, (dL 1 encLI [] l)), (1, (dL 1 encLI [] m)), (7, (dB true)), (8, (dL 1 (encI .u8) 0 (jr l l.length))), (9, (dL 1 (encI .i64) 0 (endsF l l.length))), (10, (dI .i64 ((n % ((jr l l.length).length + 1) : Nat) : Int))), (11, (dI .i64 ((k : Nat) : Int)))], []⟩) (fun (k : Nat) => k ≤ l.length ∧ lenR (l.take k) ≤ (n % ((jr l l.length).length + 1))) (fun (k : Nat) => l.length - k) 0 (by kernel_rfl) (⟨by omega, by simp [lenR]⟩) ?_
    rintro k hinv
    have hinv : k ≤ l.length ∧ lenR (l.take k) ≤ (n % ((jr l l.length).length + 1)) := hinv
    obtain ⟨hk, hkc⟩ := hinv
    refine Ev.seq ?_
    refine Ev.seq ?_
    rcases Nat.lt_or_ge k l.length with hlt | hge
    · skip
      refine Ev.reg [(3, .val (dB true)), (10, .val (dB (decide (lenR (l.take (k + 1)) ≤ (n % ((jr l l.length).length + 1))))))] [0, 1, 7, 8, 9, 10, 11, 51] (st' := ⟨[(0, (dL 1 encLI [] l)), (1, (dL 1 encLI [] m)), (7, (dB true)), (8, (dL 1 (encI .u8) 0 (jr l l.length))), (9, (dL 1 (encI .i64) 0 (endsF l l.length))), (10, (dI .i64 ((n % ((jr l l.length).length + 1) : Nat) : Int))), (11, (dI .i64 ((k : Nat) : Int))), (51, (dB (decide (lenR (l.take (k + 1)) ≤ (n % ((jr l l.length).length + 1))))))], []⟩)
        (p := True ∧ True ∧ True ∧ (True ∧ (decide (((k : Nat) : Int) < (((endsF l l.length).length : Nat) : Int))) = true) ∧ True ∧ True ∧ True ∧ (0 ≤ ((k : Nat) : Int) ∧ ((k : Nat) : Int) < ((endsF l l.length).length : Int)) ∧ True ∧ True ∧ (True ∧ (decide (((endsF l l.length).getD k 0) ≤ ((n % ((jr l l.length).length + 1) : Nat) : Int))) = (decide (lenR (l.take (k + 1)) ≤ (n % ((jr l l.length).length + 1))))) ∧ True ∧ True) (by kernel_rfl)
        ⟨trivial, trivial, trivial, ⟨trivial, (by simp; omega)⟩, trivial, trivial, trivial, (by first | omega | (simp; first | done | omega) | (simp only [List.length_take, List.length_drop, List.length_set]; omega) | (have := putsF_len hWl m i; omega) | (rw [cutF_nat hcl, List.length_take]; omega)), trivial, trivial, ⟨trivial, (by rw [endsF_get l l.length k (by omega), jr_length hAll (by omega) (by omega)]; exact decide_eq_decide.2 (by omega))⟩, trivial, trivial⟩ ?_
      refine Ev.cond _ rfl (fun hc51 => ?_) (fun hc51 => ?_)
      · simp only [decide_eq_true_eq, decide_eq_false_iff_not, beq_iff_eq, bne_iff_ne, ne_eq, beq_eq_false_iff_ne, bne_eq_false_iff_eq, Bool.not_eq_true, Bool.not_eq_false, Bool.not_eq_true', Bool.not_eq_false', Bool.not_not, gt_iff_lt, ge_iff_le, Nat.not_lt, Int.not_lt, Int.not_le] at hc51
        refine Ev.skip ?_
        refine Ev.block ?_
        refine Ev.reg [(1, .val (dI .i64 ((k + 1 : Nat) : Int)))] [0, 1, 7, 8, 9, 10, 11] (st' := ⟨[(0, (dL 1 encLI [] l)), (1, (dL 1 encLI [] m)), (7, (dB true)), (8, (dL 1 (encI .u8) 0 (jr l l.length))), (9, (dL 1 (encI .i64) 0 (endsF l l.length))), (10, (dI .i64 ((n % ((jr l l.length).length + 1) : Nat) : Int))), (11, (dI .i64 ((k + 1 : Nat) : Int)))], []⟩)
          (p := True ∧ (True ∧ (IntKind.wrap .i64 (((k : Nat) : Int) + 1)) = ((k + 1 : Nat) : Int)) ∧ True ∧ True) (by kernel_rfl)
          ⟨trivial, ⟨trivial, (w64n (by first | rfl | simp | omega) (by first | omega | (simp; first | done | omega) | (simp only [List.length_take, List.length_drop, List.length_set]; omega) | (have := putsF_len hWl m i; omega) | (rw [cutF_nat hcl, List.length_take]; omega)))⟩, trivial, trivial⟩ ?_
        refine ⟨k + 1, by kernel_rfl, (?_ : (k + 1) ≤ l.length ∧ lenR (l.take (k + 1)) ≤ (n % ((jr l l.length).length + 1))), (?_ : l.length - (k + 1) < l.length - k)⟩
        · exact ⟨by omega, by omega⟩
        · omega
      · simp only [decide_eq_true_eq, decide_eq_false_iff_not, beq_iff_eq, bne_iff_ne, ne_eq, beq_eq_false_iff_ne, bne_eq_false_iff_eq, Bool.not_eq_true, Bool.not_eq_false, Bool.not_eq_true', Bool.not_eq_false', Bool.not_not, gt_iff_lt, ge_iff_le, Nat.not_lt, Int.not_lt, Int.not_le] at hc51
        refine Ev.exit ?_
        refine Ev.seq ?_
        have hnext : k < l.length → (n % ((jr l l.length).length + 1)) < lenR (l.take (k + 1)) := fun hlt => by omega
        have hsh : readF ((jr l l.length).take (n % ((jr l l.length).length + 1))) 0 = (l.take k, ((jr l l.length).take (n % ((jr l l.length).length + 1))).drop (lenR (l.take k)), sealF 0 (l.take k)) := by rw [hJ]; exact read_short hAll hk (by rw [← hJ]; exact hkc) (by rw [← hJ]; exact hnext) (by rw [← hJ]; omega)
        have hS8 : Bytes8 ((jr l l.length).take (n % ((jr l l.length).length + 1))) := Bytes8.take (jr_8 _ _) _
        have hW : (wholeF (cutF (jr l l.length) (((n % ((jr l l.length).length + 1)) : Nat) : Int))) = encs 0 (l.take k) := by rw [cutF_nat hcl, whole_eq hS8, hsh]
        have hW8 : Bytes8 (wholeF (cutF (jr l l.length) (((n % ((jr l l.length).length + 1)) : Nat) : Int))) := by rw [hW]; exact encs_8 _ _
        have hti := lenR_take_le l k
        have hWl : ((wholeF (cutF (jr l l.length) (((n % ((jr l l.length).length + 1)) : Nat) : Int)))).length ≤ 65536 := by rw [hW, encs_len]; omega
        refine Ev.reg [(2, .call none true (dL 1 (encI .u8) 0 (cutF (jr l l.length) ((n % ((jr l l.length).length + 1) : Nat) : Int)))), (3, .call none true (dL 1 (encI .u8) 0 (wholeF (cutF (jr l l.length) ((n % ((jr l l.length).length + 1) : Nat) : Int)))))] [0, 1, 7, 11, 12] (st' := ⟨[(0, (dL 1 encLI [] l)), (1, (dL 1 encLI [] m)), (7, (dB true)), (11, (dI .i64 ((k : Nat) : Int))), (12, (dL 1 (encI .u8) 0 (wholeF (cutF (jr l l.length) ((n % ((jr l l.length).length + 1) : Nat) : Int)))))], []⟩)
          (p := True ∧ True ∧ callOb Try.prog 34 [] [(dL 1 (encI .u8) 0 (jr l l.length)), (dI .i64 ((n % ((jr l l.length).length + 1) : Nat) : Int))] none true (dL 1 (encI .u8) 0 (cutF (jr l l.length) ((n % ((jr l l.length).length + 1) : Nat) : Int))) ∧ callOb Try.prog 32 [] [(dL 1 (encI .u8) 0 (cutF (jr l l.length) ((n % ((jr l l.length).length + 1) : Nat) : Int)))] none true (dL 1 (encI .u8) 0 (wholeF (cutF (jr l l.length) ((n % ((jr l l.length).length + 1) : Nat) : Int)))) ∧ True ∧ True) (by kernel_rfl)
          ⟨trivial, trivial, (cut_ok _ _ (by first | omega | (simp; first | done | omega) | (simp only [List.length_take, List.length_drop, List.length_set]; omega) | (have := putsF_len hWl m i; omega) | (rw [cutF_nat hcl, List.length_take]; omega))), (whole_ok _ (by first | exact putsF_8 hW8 _ _ | (rw [cutF_nat hcl]; exact Bytes8.take (jr_8 _ _) _) | exact jr_8 _ _ | assumption) (by first | omega | (simp; first | done | omega) | (simp only [List.length_take, List.length_drop, List.length_set]; omega) | (have := putsF_len hWl m i; omega) | (rw [cutF_nat hcl, List.length_take]; omega))), trivial, trivial⟩ ?_
        refine Ev.seq ?_
        refine Ev.seq ?_
        refine Ev.reg [] [0, 1, 7, 11, 12, 13] (st' := ⟨[(0, (dL 1 encLI [] l)), (1, (dL 1 encLI [] m)), (7, (dB true)), (11, (dI .i64 ((k : Nat) : Int))), (12, (dL 1 (encI .u8) 0 (wholeF (cutF (jr l l.length) ((n % ((jr l l.length).length + 1) : Nat) : Int))))), (13, (dI .i64 0))], []⟩)
          (p := True ∧ True) (by kernel_rfl)
          ⟨trivial, trivial⟩ ?_
        refine Ev.block ?_
        refine Ev.loop [0, 1, 7, 11, 12, 13] 0 (fun (i : Nat) => ⟨[(0, (dL 1 encLI [] l)), (1, (dL 1 encLI [] m)), (7, (dB true)), (11, (dI .i64 ((k : Nat) : Int))), (12, (dL 1 (encI .u8) 0 (putsF (wholeF (cutF (jr l l.length) (((n % ((jr l l.length).length + 1)) : Nat) : Int))) m i))), (13, (dI .i64 ((i : Nat) : Int)))], []⟩) (fun (i : Nat) => i ≤ m.length) (fun (i : Nat) => m.length - i) 0 (by kernel_rfl) (by omega) ?_
        rintro i hinv
        have hinv : i ≤ m.length := hinv
        have hi2 := hinv
        refine Ev.seq ?_
        refine Ev.seq ?_
        refine Ev.reg [] [0, 1, 7, 11, 12, 13, 61] (st' := ⟨[(0, (dL 1 encLI [] l)), (1, (dL 1 encLI [] m)), (7, (dB true)), (11, (dI .i64 ((k : Nat) : Int))), (12, (dL 1 (encI .u8) 0 (putsF (wholeF (cutF (jr l l.length) (((n % ((jr l l.length).length + 1)) : Nat) : Int))) m i))), (13, (dI .i64 ((i : Nat) : Int))), (61, (dB (decide (((i : Nat) : Int) < ((m.length : Nat) : Int)))))], []⟩)
          (p := True ∧ True ∧ True ∧ True ∧ True) (by kernel_rfl)
          ⟨trivial, trivial, trivial, trivial, trivial⟩ ?_
        refine Ev.cond _ rfl (fun hc61 => ?_) (fun hc61 => ?_)
        · simp only [decide_eq_true_eq, decide_eq_false_iff_not, beq_iff_eq, bne_iff_ne, ne_eq, beq_eq_false_iff_ne, bne_eq_false_iff_eq, Bool.not_eq_true, Bool.not_eq_false, Bool.not_eq_true', Bool.not_eq_false', Bool.not_not, gt_iff_lt, ge_iff_le, Nat.not_lt, Int.not_lt, Int.not_le] at hc61
          refine Ev.skip ?_
          refine Ev.seq ?_
          refine Ev.block ?_
          refine Ev.reg [(5, .call none true (.agg [(dL 1 (encI .u8) 0 (jputJ (putsF (wholeF (cutF (jr l l.length) (((n % ((jr l l.length).length + 1)) : Nat) : Int))) m i) (m.getD i []))), (dI .i64 (jputE (putsF (wholeF (cutF (jr l l.length) (((n % ((jr l l.length).length + 1)) : Nat) : Int))) m i) (m.getD i [])))]))] [0, 1, 7, 11, 12, 13] (st' := ⟨[(0, (dL 1 encLI [] l)), (1, (dL 1 encLI [] m)), (7, (dB true)), (11, (dI .i64 ((k : Nat) : Int))), (12, (dL 1 (encI .u8) 0 (jputJ (putsF (wholeF (cutF (jr l l.length) (((n % ((jr l l.length).length + 1)) : Nat) : Int))) m i) (m.getD i [])))), (13, (dI .i64 ((i : Nat) : Int)))], []⟩)
            (p := True ∧ True ∧ True ∧ (0 ≤ ((i : Nat) : Int) ∧ ((i : Nat) : Int) < (m.length : Int)) ∧ True ∧ callOb Try.prog 28 [] [(dL 1 (encI .u8) 0 (putsF (wholeF (cutF (jr l l.length) (((n % ((jr l l.length).length + 1)) : Nat) : Int))) m i)), (dL 1 (encI .i64) 0 (m.getD i []))] none true (.agg [(dL 1 (encI .u8) 0 (jputJ (putsF (wholeF (cutF (jr l l.length) (((n % ((jr l l.length).length + 1)) : Nat) : Int))) m i) (m.getD i []))), (dI .i64 (jputE (putsF (wholeF (cutF (jr l l.length) (((n % ((jr l l.length).length + 1)) : Nat) : Int))) m i) (m.getD i [])))]) ∧ True ∧ True ∧ True) (by kernel_rfl)
            ⟨trivial, trivial, trivial, (by first | omega | (simp; first | done | omega) | (simp only [List.length_take, List.length_drop, List.length_set]; omega) | (have := putsF_len hWl m i; omega) | (rw [cutF_nat hcl, List.length_take]; omega)), trivial, (lput_ok _ _ (by first | exact putsF_8 hW8 _ _ | (rw [cutF_nat hcl]; exact Bytes8.take (jr_8 _ _) _) | exact jr_8 _ _ | assumption) (by first | omega | (have := putsF_len hWl m i; omega) | (rw [cutF_nat hcl, List.length_take]; omega)) (by have := hM.recs.getD i; omega)), trivial, trivial, trivial⟩ ?_
          refine Ev.reg [(1, .val (dI .i64 ((i + 1 : Nat) : Int)))] [0, 1, 7, 11, 12, 13] (st' := ⟨[(0, (dL 1 encLI [] l)), (1, (dL 1 encLI [] m)), (7, (dB true)), (11, (dI .i64 ((k : Nat) : Int))), (12, (dL 1 (encI .u8) 0 (jputJ (putsF (wholeF (cutF (jr l l.length) (((n % ((jr l l.length).length + 1)) : Nat) : Int))) m i) (m.getD i [])))), (13, (dI .i64 ((i + 1 : Nat) : Int)))], []⟩)
            (p := True ∧ (True ∧ (IntKind.wrap .i64 (((i : Nat) : Int) + 1)) = ((i + 1 : Nat) : Int)) ∧ True ∧ True) (by kernel_rfl)
            ⟨trivial, ⟨trivial, (w64n (by first | rfl | simp | omega) (by first | omega | (simp; first | done | omega) | (simp only [List.length_take, List.length_drop, List.length_set]; omega) | (have := putsF_len hWl m i; omega) | (rw [cutF_nat hcl, List.length_take]; omega)))⟩, trivial, trivial⟩ ?_
          refine ⟨i + 1, by kernel_rfl, (?_ : (i + 1) ≤ m.length), (?_ : m.length - (i + 1) < m.length - i)⟩
          · omega
          · omega
        · simp only [decide_eq_true_eq, decide_eq_false_iff_not, beq_iff_eq, bne_iff_ne, ne_eq, beq_eq_false_iff_ne, bne_eq_false_iff_eq, Bool.not_eq_true, Bool.not_eq_false, Bool.not_eq_true', Bool.not_eq_false', Bool.not_not, gt_iff_lt, ge_iff_le, Nat.not_lt, Int.not_lt, Int.not_le] at hc61
          refine Ev.exit ?_
          refine Ev.seq ?_
          have him2 : i = m.length := by omega
          have hAa : AllOk (l.take k ++ m) := (hAll.take k).append hM.all
          have hla : lenR (l.take k ++ m) ≤ 2880 := by rw [lenR_append]; omega
          have hRall : RecsOk (l.take k ++ m) := recs_of_len (by omega)
          have hfin : putsF (wholeF (cutF (jr l l.length) (((n % ((jr l l.length).length + 1)) : Nat) : Int))) m i = jr (l.take k ++ m) (l.take k ++ m).length := by rw [hW, putsF_encs (hAll.take k) hM.all (by omega) i (by omega), jr_all hAa (by omega), him2, List.take_length]
          have hrf : (readF (putsF (wholeF (cutF (jr l l.length) (((n % ((jr l l.length).length + 1)) : Nat) : Int))) m i) 0).1 = l.take k ++ m := by rw [hfin, read_jr hAa (by omega)]
          refine Ev.reg [(0, .box 52 1 encLI [] ([] : List (List Int))), (4, .box 52 1 encLI [] (l.take k)), (6, .box 52 1 encLI [] (l.take k ++ m))] [7, 12, 14] (st' := ⟨[(7, (dB true)), (12, (dL 1 (encI .u8) 0 (putsF (wholeF (cutF (jr l l.length) (((n % ((jr l l.length).length + 1)) : Nat) : Int))) m i))), (14, (.own 0))], [(.arr 52 1 encLI [] (l.take k ++ m))]⟩)
            (p := eqRows [] (([] : List (List Int)).map encLI) ∧ True ∧ True ∧ (0 ≤ (0 : Int) ∧ (0 : Int) ≤ ((k : Nat) : Int) ∧ ((k : Nat) : Int) ≤ (l.length : Int)) ∧ (([] : List (List Int)).length + (((l.take k).drop 0).map encLI).length ≤ 137438953472 ∧ ([] : List (List Int)).map encLI ++ ((l.take k).drop 0).map encLI = (l.take k).map encLI) ∧ True ∧ ((l.take k).length + (m.map encLI).length ≤ 137438953472 ∧ (l.take k).map encLI ++ m.map encLI = (l.take k ++ m).map encLI) ∧ True ∧ True) (by kernel_rfl)
            ⟨trivial, trivial, trivial, (by first | omega | (simp; first | done | omega) | (simp only [List.length_take, List.length_drop, List.length_set]; omega) | (have := putsF_len hWl m i; omega) | (rw [cutF_nat hcl, List.length_take]; omega)), ⟨by simp; omega, by simp⟩, trivial, ⟨by simp; omega, by simp⟩, trivial, trivial⟩ ?_
          refine Ev.seq ?_
          refine Ev.freeze 0 (st' := ⟨[(7, (dB true)), (12, (dL 1 (encI .u8) 0 (putsF (wholeF (cutF (jr l l.length) (((n % ((jr l l.length).length + 1)) : Nat) : Int))) m i))), (14, (dL 1 encLI [] (l.take k ++ m)))], [.dead]⟩) (by kernel_rfl) ?_
          refine Ev.reg [(1, .call none true (.tup [(dL 1 (encI .u8) 0 (jr (l.take k ++ m) (l.take k ++ m).length)), (dL 1 (encI .i64) 0 (endsF (l.take k ++ m) (l.take k ++ m).length))]))] [7, 12, 14, 15] (st' := ⟨[(7, (dB true)), (12, (dL 1 (encI .u8) 0 (putsF (wholeF (cutF (jr l l.length) (((n % ((jr l l.length).length + 1)) : Nat) : Int))) m i))), (14, (dL 1 encLI [] (l.take k ++ m))), (15, (dL 1 (encI .u8) 0 (jr (l.take k ++ m) (l.take k ++ m).length)))], [.dead]⟩)
            (p := True ∧ callOb Try.prog 36 [.dead] [(dL 1 encLI [] (l.take k ++ m))] none true (.tup [(dL 1 (encI .u8) 0 (jr (l.take k ++ m) (l.take k ++ m).length)), (dL 1 (encI .i64) 0 (endsF (l.take k ++ m) (l.take k ++ m).length))]) ∧ True ∧ True ∧ True ∧ True ∧ True ∧ True) (by kernel_rfl)
            ⟨trivial, (made_ok _ (by first | assumption | exact hS.recs | exact hM.recs | exact hRall | (rw [hrf]; exact hRall))), trivial, trivial, trivial, trivial, trivial, trivial⟩ ?_
          refine Ev.seq ?_
          refine Ev.reg [(2, .call none false (dB (decide ((putsF (wholeF (cutF (jr l l.length) (((n % ((jr l l.length).length + 1)) : Nat) : Int))) m i) = (jr (l.take k ++ m) (l.take k ++ m).length))))), (3, .val (dB true)), (5, .call none true (.agg [(dL 1 encLI [] ((readF (putsF (wholeF (cutF (jr l l.length) (((n % ((jr l l.length).length + 1)) : Nat) : Int))) m i) 0).1)), (dL 1 (encI .u8) 0 ((readF (putsF (wholeF (cutF (jr l l.length) (((n % ((jr l l.length).length + 1)) : Nat) : Int))) m i) 0).2.1)), (dI .i64 (tornF (putsF (wholeF (cutF (jr l l.length) (((n % ((jr l l.length).length + 1)) : Nat) : Int))) m i))), (dI .i64 0), (dI .u64 0)])), (8, .call none false (dB (decide ((readF (putsF (wholeF (cutF (jr l l.length) (((n % ((jr l l.length).length + 1)) : Nat) : Int))) m i) 0).1 = l.take k ++ m)))), (9, .val (dB true))] [6] (st' := ⟨[(6, (dB true))], [.dead]⟩)
            (p := True ∧ True ∧ callOb Try.prog 31 [.dead] [(dL 1 (encI .u8) 0 (putsF (wholeF (cutF (jr l l.length) (((n % ((jr l l.length).length + 1)) : Nat) : Int))) m i)), (dL 1 (encI .u8) 0 (jr (l.take k ++ m) (l.take k ++ m).length))] none false (dB (decide ((putsF (wholeF (cutF (jr l l.length) (((n % ((jr l l.length).length + 1)) : Nat) : Int))) m i) = (jr (l.take k ++ m) (l.take k ++ m).length)))) ∧ (True ∧ (decide ((putsF (wholeF (cutF (jr l l.length) (((n % ((jr l l.length).length + 1)) : Nat) : Int))) m i) = (jr (l.take k ++ m) (l.take k ++ m).length))) = true) ∧ True ∧ callOb Try.prog 26 [.dead] [(dL 1 (encI .u8) 0 (putsF (wholeF (cutF (jr l l.length) (((n % ((jr l l.length).length + 1)) : Nat) : Int))) m i))] none true (.agg [(dL 1 encLI [] ((readF (putsF (wholeF (cutF (jr l l.length) (((n % ((jr l l.length).length + 1)) : Nat) : Int))) m i) 0).1)), (dL 1 (encI .u8) 0 ((readF (putsF (wholeF (cutF (jr l l.length) (((n % ((jr l l.length).length + 1)) : Nat) : Int))) m i) 0).2.1)), (dI .i64 (tornF (putsF (wholeF (cutF (jr l l.length) (((n % ((jr l l.length).length + 1)) : Nat) : Int))) m i))), (dI .i64 0), (dI .u64 0)]) ∧ True ∧ True ∧ callOb Try.prog 30 [.dead] [(dL 1 encLI [] ((readF (putsF (wholeF (cutF (jr l l.length) (((n % ((jr l l.length).length + 1)) : Nat) : Int))) m i) 0).1)), (dL 1 encLI [] (l.take k ++ m))] none false (dB (decide ((readF (putsF (wholeF (cutF (jr l l.length) (((n % ((jr l l.length).length + 1)) : Nat) : Int))) m i) 0).1 = l.take k ++ m))) ∧ (True ∧ (decide ((readF (putsF (wholeF (cutF (jr l l.length) (((n % ((jr l l.length).length + 1)) : Nat) : Int))) m i) 0).1 = l.take k ++ m)) = true) ∧ True ∧ True ∧ True ∧ True ∧ True) (by kernel_rfl)
            ⟨trivial, trivial, (sameB_ok _ _ (by first | omega | (rw [cutF_nat hcl, List.length_take]; omega) | (have := putsF_len hWl m i; omega) | (have := jr_len (l.take k ++ m) (l.take k ++ m).length; omega) | first | omega | (rw [endsF_len]; omega) | (have := hS.recs.1; omega) | (have := hS.recs.getD i; omega) | (simp only [List.length_take, List.length_drop, List.length_set]; omega) | (rw [hsh]; simp only [List.length_take, List.length_drop, List.length_set]; omega) | (rw [hW]; simp only [List.length_take, List.length_drop, List.length_set]; omega)) (by first | omega | (rw [cutF_nat hcl, List.length_take]; omega) | (have := putsF_len hWl m i; omega) | (have := jr_len (l.take k ++ m) (l.take k ++ m).length; omega) | first | omega | (rw [endsF_len]; omega) | (have := hS.recs.1; omega) | (have := hS.recs.getD i; omega) | (simp only [List.length_take, List.length_drop, List.length_set]; omega) | (rw [hsh]; simp only [List.length_take, List.length_drop, List.length_set]; omega) | (rw [hW]; simp only [List.length_take, List.length_drop, List.length_set]; omega))), ⟨trivial, (by rw [hfin]; simp)⟩, trivial, (lread_ok _ (by first | exact putsF_8 hW8 _ _ | (rw [cutF_nat hcl]; exact Bytes8.take (jr_8 _ _) _) | exact jr_8 _ _ | assumption) (by first | omega | (simp; first | done | omega) | (simp only [List.length_take, List.length_drop, List.length_set]; omega) | (have := putsF_len hWl m i; omega) | (rw [cutF_nat hcl, List.length_take]; omega))), trivial, trivial, (records_ok _ _ (by first | assumption | exact hS.recs | exact hM.recs | exact hRall | (rw [hrf]; exact hRall)) (by first | assumption | exact hS.recs | exact hM.recs | exact hRall | (rw [hrf]; exact hRall))), ⟨trivial, (by rw [hrf]; simp)⟩, trivial, trivial, trivial, trivial, trivial⟩ ?_
          refine Ev.ret ?_
          refine ⟨⟨trivial, trivial⟩, (?_ : true = true), .inr trivial⟩
          rfl
    · skip
      refine Ev.reg [(3, .val (dB false))] [0, 1, 7, 8, 9, 10, 11, 51] (st' := ⟨[(0, (dL 1 encLI [] l)), (1, (dL 1 encLI [] m)), (7, (dB true)), (8, (dL 1 (encI .u8) 0 (jr l l.length))), (9, (dL 1 (encI .i64) 0 (endsF l l.length))), (10, (dI .i64 ((n % ((jr l l.length).length + 1) : Nat) : Int))), (11, (dI .i64 ((k : Nat) : Int))), (51, (dB false))], []⟩)
        (p := True ∧ True ∧ True ∧ (True ∧ (decide (((k : Nat) : Int) < (((endsF l l.length).length : Nat) : Int))) = false) ∧ True ∧ True ∧ True ∧ True ∧ True ∧ True ∧ True ∧ True ∧ True) (by kernel_rfl)
        ⟨trivial, trivial, trivial, ⟨trivial, (by simp; omega)⟩, trivial, trivial, trivial, trivial, trivial, trivial, trivial, trivial, trivial⟩ ?_
      refine Ev.cond false rfl (fun h => (by cases h)) (fun _ => ?_)
      refine Ev.exit ?_
      refine Ev.seq ?_
      have hnext : k < l.length → (n % ((jr l l.length).length + 1)) < lenR (l.take (k + 1)) := fun hlt => by omega
      have hsh : readF ((jr l l.length).take (n % ((jr l l.length).length + 1))) 0 = (l.take k, ((jr l l.length).take (n % ((jr l l.length).length + 1))).drop (lenR (l.take k)), sealF 0 (l.take k)) := by rw [hJ]; exact read_short hAll hk (by rw [← hJ]; exact hkc) (by rw [← hJ]; exact hnext) (by rw [← hJ]; omega)
      have hS8 : Bytes8 ((jr l l.length).take (n % ((jr l l.length).length + 1))) := Bytes8.take (jr_8 _ _) _
      have hW : (wholeF (cutF (jr l l.length) (((n % ((jr l l.length).length + 1)) : Nat) : Int))) = encs 0 (l.take k) := by rw [cutF_nat hcl, whole_eq hS8, hsh]
      have hW8 : Bytes8 (wholeF (cutF (jr l l.length) (((n % ((jr l l.length).length + 1)) : Nat) : Int))) := by rw [hW]; exact encs_8 _ _
      have hti := lenR_take_le l k
      have hWl : ((wholeF (cutF (jr l l.length) (((n % ((jr l l.length).length + 1)) : Nat) : Int)))).length ≤ 65536 := by rw [hW, encs_len]; omega
      refine Ev.reg [(2, .call none true (dL 1 (encI .u8) 0 (cutF (jr l l.length) ((n % ((jr l l.length).length + 1) : Nat) : Int)))), (3, .call none true (dL 1 (encI .u8) 0 (wholeF (cutF (jr l l.length) ((n % ((jr l l.length).length + 1) : Nat) : Int)))))] [0, 1, 7, 11, 12] (st' := ⟨[(0, (dL 1 encLI [] l)), (1, (dL 1 encLI [] m)), (7, (dB true)), (11, (dI .i64 ((k : Nat) : Int))), (12, (dL 1 (encI .u8) 0 (wholeF (cutF (jr l l.length) ((n % ((jr l l.length).length + 1) : Nat) : Int)))))], []⟩)
        (p := True ∧ True ∧ callOb Try.prog 34 [] [(dL 1 (encI .u8) 0 (jr l l.length)), (dI .i64 ((n % ((jr l l.length).length + 1) : Nat) : Int))] none true (dL 1 (encI .u8) 0 (cutF (jr l l.length) ((n % ((jr l l.length).length + 1) : Nat) : Int))) ∧ callOb Try.prog 32 [] [(dL 1 (encI .u8) 0 (cutF (jr l l.length) ((n % ((jr l l.length).length + 1) : Nat) : Int)))] none true (dL 1 (encI .u8) 0 (wholeF (cutF (jr l l.length) ((n % ((jr l l.length).length + 1) : Nat) : Int)))) ∧ True ∧ True) (by kernel_rfl)
        ⟨trivial, trivial, (cut_ok _ _ (by first | omega | (simp; first | done | omega) | (simp only [List.length_take, List.length_drop, List.length_set]; omega) | (have := putsF_len hWl m i; omega) | (rw [cutF_nat hcl, List.length_take]; omega))), (whole_ok _ (by first | exact putsF_8 hW8 _ _ | (rw [cutF_nat hcl]; exact Bytes8.take (jr_8 _ _) _) | exact jr_8 _ _ | assumption) (by first | omega | (simp; first | done | omega) | (simp only [List.length_take, List.length_drop, List.length_set]; omega) | (have := putsF_len hWl m i; omega) | (rw [cutF_nat hcl, List.length_take]; omega))), trivial, trivial⟩ ?_
      refine Ev.seq ?_
      refine Ev.seq ?_
      refine Ev.reg [] [0, 1, 7, 11, 12, 13] (st' := ⟨[(0, (dL 1 encLI [] l)), (1, (dL 1 encLI [] m)), (7, (dB true)), (11, (dI .i64 ((k : Nat) : Int))), (12, (dL 1 (encI .u8) 0 (wholeF (cutF (jr l l.length) ((n % ((jr l l.length).length + 1) : Nat) : Int))))), (13, (dI .i64 0))], []⟩)
        (p := True ∧ True) (by kernel_rfl)
        ⟨trivial, trivial⟩ ?_
      refine Ev.block ?_
      refine Ev.loop [0, 1, 7, 11, 12, 13] 0 (fun (i : Nat) => ⟨[(0, (dL 1 encLI [] l)), (1, (dL 1 encLI [] m)), (7, (dB true)), (11, (dI .i64 ((k : Nat) : Int))), (12, (dL 1 (encI .u8) 0 (putsF (wholeF (cutF (jr l l.length) (((n % ((jr l l.length).length + 1)) : Nat) : Int))) m i))), (13, (dI .i64 ((i : Nat) : Int)))], []⟩) (fun (i : Nat) => i ≤ m.length) (fun (i : Nat) => m.length - i) 0 (by kernel_rfl) (by omega) ?_
      rintro i hinv
      have hinv : i ≤ m.length := hinv
      have hi2 := hinv
      refine Ev.seq ?_
      refine Ev.seq ?_
      refine Ev.reg [] [0, 1, 7, 11, 12, 13, 61] (st' := ⟨[(0, (dL 1 encLI [] l)), (1, (dL 1 encLI [] m)), (7, (dB true)), (11, (dI .i64 ((k : Nat) : Int))), (12, (dL 1 (encI .u8) 0 (putsF (wholeF (cutF (jr l l.length) (((n % ((jr l l.length).length + 1)) : Nat) : Int))) m i))), (13, (dI .i64 ((i : Nat) : Int))), (61, (dB (decide (((i : Nat) : Int) < ((m.length : Nat) : Int)))))], []⟩)
        (p := True ∧ True ∧ True ∧ True ∧ True) (by kernel_rfl)
        ⟨trivial, trivial, trivial, trivial, trivial⟩ ?_
      refine Ev.cond _ rfl (fun hc61 => ?_) (fun hc61 => ?_)
      · simp only [decide_eq_true_eq, decide_eq_false_iff_not, beq_iff_eq, bne_iff_ne, ne_eq, beq_eq_false_iff_ne, bne_eq_false_iff_eq, Bool.not_eq_true, Bool.not_eq_false, Bool.not_eq_true', Bool.not_eq_false', Bool.not_not, gt_iff_lt, ge_iff_le, Nat.not_lt, Int.not_lt, Int.not_le] at hc61
        refine Ev.skip ?_
        refine Ev.seq ?_
        refine Ev.block ?_
        refine Ev.reg [(5, .call none true (.agg [(dL 1 (encI .u8) 0 (jputJ (putsF (wholeF (cutF (jr l l.length) (((n % ((jr l l.length).length + 1)) : Nat) : Int))) m i) (m.getD i []))), (dI .i64 (jputE (putsF (wholeF (cutF (jr l l.length) (((n % ((jr l l.length).length + 1)) : Nat) : Int))) m i) (m.getD i [])))]))] [0, 1, 7, 11, 12, 13] (st' := ⟨[(0, (dL 1 encLI [] l)), (1, (dL 1 encLI [] m)), (7, (dB true)), (11, (dI .i64 ((k : Nat) : Int))), (12, (dL 1 (encI .u8) 0 (jputJ (putsF (wholeF (cutF (jr l l.length) (((n % ((jr l l.length).length + 1)) : Nat) : Int))) m i) (m.getD i [])))), (13, (dI .i64 ((i : Nat) : Int)))], []⟩)
          (p := True ∧ True ∧ True ∧ (0 ≤ ((i : Nat) : Int) ∧ ((i : Nat) : Int) < (m.length : Int)) ∧ True ∧ callOb Try.prog 28 [] [(dL 1 (encI .u8) 0 (putsF (wholeF (cutF (jr l l.length) (((n % ((jr l l.length).length + 1)) : Nat) : Int))) m i)), (dL 1 (encI .i64) 0 (m.getD i []))] none true (.agg [(dL 1 (encI .u8) 0 (jputJ (putsF (wholeF (cutF (jr l l.length) (((n % ((jr l l.length).length + 1)) : Nat) : Int))) m i) (m.getD i []))), (dI .i64 (jputE (putsF (wholeF (cutF (jr l l.length) (((n % ((jr l l.length).length + 1)) : Nat) : Int))) m i) (m.getD i [])))]) ∧ True ∧ True ∧ True) (by kernel_rfl)
          ⟨trivial, trivial, trivial, (by first | omega | (simp; first | done | omega) | (simp only [List.length_take, List.length_drop, List.length_set]; omega) | (have := putsF_len hWl m i; omega) | (rw [cutF_nat hcl, List.length_take]; omega)), trivial, (lput_ok _ _ (by first | exact putsF_8 hW8 _ _ | (rw [cutF_nat hcl]; exact Bytes8.take (jr_8 _ _) _) | exact jr_8 _ _ | assumption) (by first | omega | (have := putsF_len hWl m i; omega) | (rw [cutF_nat hcl, List.length_take]; omega)) (by have := hM.recs.getD i; omega)), trivial, trivial, trivial⟩ ?_
        refine Ev.reg [(1, .val (dI .i64 ((i + 1 : Nat) : Int)))] [0, 1, 7, 11, 12, 13] (st' := ⟨[(0, (dL 1 encLI [] l)), (1, (dL 1 encLI [] m)), (7, (dB true)), (11, (dI .i64 ((k : Nat) : Int))), (12, (dL 1 (encI .u8) 0 (jputJ (putsF (wholeF (cutF (jr l l.length) (((n % ((jr l l.length).length + 1)) : Nat) : Int))) m i) (m.getD i [])))), (13, (dI .i64 ((i + 1 : Nat) : Int)))], []⟩)
          (p := True ∧ (True ∧ (IntKind.wrap .i64 (((i : Nat) : Int) + 1)) = ((i + 1 : Nat) : Int)) ∧ True ∧ True) (by kernel_rfl)
          ⟨trivial, ⟨trivial, (w64n (by first | rfl | simp | omega) (by first | omega | (simp; first | done | omega) | (simp only [List.length_take, List.length_drop, List.length_set]; omega) | (have := putsF_len hWl m i; omega) | (rw [cutF_nat hcl, List.length_take]; omega)))⟩, trivial, trivial⟩ ?_
        refine ⟨i + 1, by kernel_rfl, (?_ : (i + 1) ≤ m.length), (?_ : m.length - (i + 1) < m.length - i)⟩
        · omega
        · omega
      · simp only [decide_eq_true_eq, decide_eq_false_iff_not, beq_iff_eq, bne_iff_ne, ne_eq, beq_eq_false_iff_ne, bne_eq_false_iff_eq, Bool.not_eq_true, Bool.not_eq_false, Bool.not_eq_true', Bool.not_eq_false', Bool.not_not, gt_iff_lt, ge_iff_le, Nat.not_lt, Int.not_lt, Int.not_le] at hc61
        refine Ev.exit ?_
        refine Ev.seq ?_
        have him2 : i = m.length := by omega
        have hAa : AllOk (l.take k ++ m) := (hAll.take k).append hM.all
        have hla : lenR (l.take k ++ m) ≤ 2880 := by rw [lenR_append]; omega
        have hRall : RecsOk (l.take k ++ m) := recs_of_len (by omega)
        have hfin : putsF (wholeF (cutF (jr l l.length) (((n % ((jr l l.length).length + 1)) : Nat) : Int))) m i = jr (l.take k ++ m) (l.take k ++ m).length := by rw [hW, putsF_encs (hAll.take k) hM.all (by omega) i (by omega), jr_all hAa (by omega), him2, List.take_length]
        have hrf : (readF (putsF (wholeF (cutF (jr l l.length) (((n % ((jr l l.length).length + 1)) : Nat) : Int))) m i) 0).1 = l.take k ++ m := by rw [hfin, read_jr hAa (by omega)]
        refine Ev.reg [(0, .box 52 1 encLI [] ([] : List (List Int))), (4, .box 52 1 encLI [] (l.take k)), (6, .box 52 1 encLI [] (l.take k ++ m))] [7, 12, 14] (st' := ⟨[(7, (dB true)), (12, (dL 1 (encI .u8) 0 (putsF (wholeF (cutF (jr l l.length) (((n % ((jr l l.length).length + 1)) : Nat) : Int))) m i))), (14, (.own 0))], [(.arr 52 1 encLI [] (l.take k ++ m))]⟩)
          (p := eqRows [] (([] : List (List Int)).map encLI) ∧ True ∧ True ∧ (0 ≤ (0 : Int) ∧ (0 : Int) ≤ ((k : Nat) : Int) ∧ ((k : Nat) : Int) ≤ (l.length : Int)) ∧ (([] : List (List Int)).length + (((l.take k).drop 0).map encLI).length ≤ 137438953472 ∧ ([] : List (List Int)).map encLI ++ ((l.take k).drop 0).map encLI = (l.take k).map encLI) ∧ True ∧ ((l.take k).length + (m.map encLI).length ≤ 137438953472 ∧ (l.take k).map encLI ++ m.map encLI = (l.take k ++ m).map encLI) ∧ True ∧ True) (by kernel_rfl)
          ⟨trivial, trivial, trivial, (by first | omega | (simp; first | done | omega) | (simp only [List.length_take, List.length_drop, List.length_set]; omega) | (have := putsF_len hWl m i; omega) | (rw [cutF_nat hcl, List.length_take]; omega)), ⟨by simp; omega, by simp⟩, trivial, ⟨by simp; omega, by simp⟩, trivial, trivial⟩ ?_
        refine Ev.seq ?_
        refine Ev.freeze 0 (st' := ⟨[(7, (dB true)), (12, (dL 1 (encI .u8) 0 (putsF (wholeF (cutF (jr l l.length) (((n % ((jr l l.length).length + 1)) : Nat) : Int))) m i))), (14, (dL 1 encLI [] (l.take k ++ m)))], [.dead]⟩) (by kernel_rfl) ?_
        refine Ev.reg [(1, .call none true (.tup [(dL 1 (encI .u8) 0 (jr (l.take k ++ m) (l.take k ++ m).length)), (dL 1 (encI .i64) 0 (endsF (l.take k ++ m) (l.take k ++ m).length))]))] [7, 12, 14, 15] (st' := ⟨[(7, (dB true)), (12, (dL 1 (encI .u8) 0 (putsF (wholeF (cutF (jr l l.length) (((n % ((jr l l.length).length + 1)) : Nat) : Int))) m i))), (14, (dL 1 encLI [] (l.take k ++ m))), (15, (dL 1 (encI .u8) 0 (jr (l.take k ++ m) (l.take k ++ m).length)))], [.dead]⟩)
          (p := True ∧ callOb Try.prog 36 [.dead] [(dL 1 encLI [] (l.take k ++ m))] none true (.tup [(dL 1 (encI .u8) 0 (jr (l.take k ++ m) (l.take k ++ m).length)), (dL 1 (encI .i64) 0 (endsF (l.take k ++ m) (l.take k ++ m).length))]) ∧ True ∧ True ∧ True ∧ True ∧ True ∧ True) (by kernel_rfl)
          ⟨trivial, (made_ok _ (by first | assumption | exact hS.recs | exact hM.recs | exact hRall | (rw [hrf]; exact hRall))), trivial, trivial, trivial, trivial, trivial, trivial⟩ ?_
        refine Ev.seq ?_
        refine Ev.reg [(2, .call none false (dB (decide ((putsF (wholeF (cutF (jr l l.length) (((n % ((jr l l.length).length + 1)) : Nat) : Int))) m i) = (jr (l.take k ++ m) (l.take k ++ m).length))))), (3, .val (dB true)), (5, .call none true (.agg [(dL 1 encLI [] ((readF (putsF (wholeF (cutF (jr l l.length) (((n % ((jr l l.length).length + 1)) : Nat) : Int))) m i) 0).1)), (dL 1 (encI .u8) 0 ((readF (putsF (wholeF (cutF (jr l l.length) (((n % ((jr l l.length).length + 1)) : Nat) : Int))) m i) 0).2.1)), (dI .i64 (tornF (putsF (wholeF (cutF (jr l l.length) (((n % ((jr l l.length).length + 1)) : Nat) : Int))) m i))), (dI .i64 0), (dI .u64 0)])), (8, .call none false (dB (decide ((readF (putsF (wholeF (cutF (jr l l.length) (((n % ((jr l l.length).length + 1)) : Nat) : Int))) m i) 0).1 = l.take k ++ m)))), (9, .val (dB true))] [6] (st' := ⟨[(6, (dB true))], [.dead]⟩)
          (p := True ∧ True ∧ callOb Try.prog 31 [.dead] [(dL 1 (encI .u8) 0 (putsF (wholeF (cutF (jr l l.length) (((n % ((jr l l.length).length + 1)) : Nat) : Int))) m i)), (dL 1 (encI .u8) 0 (jr (l.take k ++ m) (l.take k ++ m).length))] none false (dB (decide ((putsF (wholeF (cutF (jr l l.length) (((n % ((jr l l.length).length + 1)) : Nat) : Int))) m i) = (jr (l.take k ++ m) (l.take k ++ m).length)))) ∧ (True ∧ (decide ((putsF (wholeF (cutF (jr l l.length) (((n % ((jr l l.length).length + 1)) : Nat) : Int))) m i) = (jr (l.take k ++ m) (l.take k ++ m).length))) = true) ∧ True ∧ callOb Try.prog 26 [.dead] [(dL 1 (encI .u8) 0 (putsF (wholeF (cutF (jr l l.length) (((n % ((jr l l.length).length + 1)) : Nat) : Int))) m i))] none true (.agg [(dL 1 encLI [] ((readF (putsF (wholeF (cutF (jr l l.length) (((n % ((jr l l.length).length + 1)) : Nat) : Int))) m i) 0).1)), (dL 1 (encI .u8) 0 ((readF (putsF (wholeF (cutF (jr l l.length) (((n % ((jr l l.length).length + 1)) : Nat) : Int))) m i) 0).2.1)), (dI .i64 (tornF (putsF (wholeF (cutF (jr l l.length) (((n % ((jr l l.length).length + 1)) : Nat) : Int))) m i))), (dI .i64 0), (dI .u64 0)]) ∧ True ∧ True ∧ callOb Try.prog 30 [.dead] [(dL 1 encLI [] ((readF (putsF (wholeF (cutF (jr l l.length) (((n % ((jr l l.length).length + 1)) : Nat) : Int))) m i) 0).1)), (dL 1 encLI [] (l.take k ++ m))] none false (dB (decide ((readF (putsF (wholeF (cutF (jr l l.length) (((n % ((jr l l.length).length + 1)) : Nat) : Int))) m i) 0).1 = l.take k ++ m))) ∧ (True ∧ (decide ((readF (putsF (wholeF (cutF (jr l l.length) (((n % ((jr l l.length).length + 1)) : Nat) : Int))) m i) 0).1 = l.take k ++ m)) = true) ∧ True ∧ True ∧ True ∧ True ∧ True) (by kernel_rfl)
          ⟨trivial, trivial, (sameB_ok _ _ (by first | omega | (rw [cutF_nat hcl, List.length_take]; omega) | (have := putsF_len hWl m i; omega) | (have := jr_len (l.take k ++ m) (l.take k ++ m).length; omega) | first | omega | (rw [endsF_len]; omega) | (have := hS.recs.1; omega) | (have := hS.recs.getD i; omega) | (simp only [List.length_take, List.length_drop, List.length_set]; omega) | (rw [hsh]; simp only [List.length_take, List.length_drop, List.length_set]; omega) | (rw [hW]; simp only [List.length_take, List.length_drop, List.length_set]; omega)) (by first | omega | (rw [cutF_nat hcl, List.length_take]; omega) | (have := putsF_len hWl m i; omega) | (have := jr_len (l.take k ++ m) (l.take k ++ m).length; omega) | first | omega | (rw [endsF_len]; omega) | (have := hS.recs.1; omega) | (have := hS.recs.getD i; omega) | (simp only [List.length_take, List.length_drop, List.length_set]; omega) | (rw [hsh]; simp only [List.length_take, List.length_drop, List.length_set]; omega) | (rw [hW]; simp only [List.length_take, List.length_drop, List.length_set]; omega))), ⟨trivial, (by rw [hfin]; simp)⟩, trivial, (lread_ok _ (by first | exact putsF_8 hW8 _ _ | (rw [cutF_nat hcl]; exact Bytes8.take (jr_8 _ _) _) | exact jr_8 _ _ | assumption) (by first | omega | (simp; first | done | omega) | (simp only [List.length_take, List.length_drop, List.length_set]; omega) | (have := putsF_len hWl m i; omega) | (rw [cutF_nat hcl, List.length_take]; omega))), trivial, trivial, (records_ok _ _ (by first | assumption | exact hS.recs | exact hM.recs | exact hRall | (rw [hrf]; exact hRall)) (by first | assumption | exact hS.recs | exact hM.recs | exact hRall | (rw [hrf]; exact hRall))), ⟨trivial, (by rw [hrf]; simp)⟩, trivial, trivial, trivial, trivial, trivial⟩ ?_
        refine Ev.ret ?_
        refine ⟨⟨trivial, trivial⟩, (?_ : true = true), .inr trivial⟩
        rfl

end Go.Proofs.Ytjmfaebimgnblaa
