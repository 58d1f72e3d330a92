/-
  Operators on bits, plain law: the reference's words.
-/
import Derived.Test.YtaghhicmnalmmaaBitS
namespace Go.Proofs.Ytaghhicmnalmmaa
open Go.RowKit
set_option linter.unusedVariables false
set_option linter.unusedSimpArgs false

def equalF (ws : List Int) (n : Nat) : Bool := decide (ws.length = n) && ws.all fitsF && (decide (n < 2) || decide (ws.getD (n - 1) 0 = ws.getD (n - 2) 0))
theorem equal_no1 {ws : List Int} {n : Nat} (h : ws.length ≠ n) : equalF ws n = false := by
  unfold equalF; rw [decide_eq_false h]; rfl
theorem equal_no2 {ws : List Int} {n i : Nat} (hi : i < ws.length) (h : fitsF (ws.getD i 0) = false) : equalF ws n = false := by
  unfold equalF
  have : ws.all fitsF = false := by
    rw [Bool.eq_false_iff]
    intro hh
    have := fit_get hh hi
    rw [fits_iff.2 this] at h
    cases h
  rw [this, Bool.and_false]
  rfl
theorem fit_all {ws : List Int} (h : ∀ i, i < ws.length → fitsF (ws.getD i 0) = true) : ws.all fitsF = true := by
  rw [List.all_eq_true]
  intro x hx
  obtain ⟨i, hi, rfl⟩ := List.getElem_of_mem hx
  have := h i hi
  simpa [List.getD, List.getElem?_eq_getElem hi] using this
theorem equal_small {ws : List Int} {n : Nat} (hl : ws.length = n) (h : ∀ i, i < n → fitsF (ws.getD i 0) = true) (hn : n < 2) : equalF ws n = true := by
  unfold equalF; rw [decide_eq_true hl, fit_all (fun i hi => h i (by omega)), decide_eq_true hn]; rfl
theorem equal_big {ws : List Int} {n : Nat} (hl : ws.length = n) (h : ∀ i, i < n → fitsF (ws.getD i 0) = true) (hn : 2 ≤ n) : equalF ws n = (ws.getD (n - 1) 0 == ws.getD (n - 2) 0) := by
  unfold equalF; rw [decide_eq_true hl, fit_all (fun i hi => h i (by omega)), decide_eq_false (show ¬ n < 2 by omega)]
  simp only [Bool.true_and, Bool.false_or]
  by_cases e : ws.getD (n - 1) 0 = ws.getD (n - 2) 0
  · rw [decide_eq_true e, beq_iff_eq.2 e]
  · rw [decide_eq_false e, beq_eq_false_iff_ne.2 e]
theorem equal_yes {ws : List Int} {n : Nat} (h : equalF ws n = true) : ws.length = n ∧ ws.all fitsF = true ∧ (n < 2 ∨ ws.getD (n - 1) 0 = ws.getD (n - 2) 0) := by
  unfold equalF at h
  simp only [Bool.and_eq_true, Bool.or_eq_true, decide_eq_true_eq] at h
  exact ⟨h.1.1, h.1.2, h.2⟩
theorem equal_fit {ws : List Int} {n i : Nat} (h : equalF ws n = true) (hi : i < n) : fitsF (ws.getD i 0) = true := by
  obtain ⟨h1, h2, _⟩ := equal_yes h
  exact fits_iff.2 (fit_get h2 (by omega))
theorem equal_two {ws : List Int} (h : equalF ws 2 = true) : ws.getD 1 0 = ws.getD 0 0 := by
  rcases (equal_yes h).2.2 with h | h
  · omega
  · exact h
theorem wr_yes {op : Int} {ws : List Int} {k w out : Int} (h : okF op ws k w = true) (e : wvF op ws k w = out) : out = widthV op ws k w ∧ (0 : Int) = widthE op ws k w := by
  unfold widthV widthE; rw [h, e]; exact ⟨rfl, rfl⟩
theorem wr_no {op : Int} {ws : List Int} {k w : Int} (h : okF op ws k w = false) : (0 : Int) = widthV op ws k w ∧ (1 : Int) = widthE op ws k w := by
  unfold widthV widthE; rw [h]; exact ⟨rfl, rfl⟩
theorem ok_of {op : Int} {ws : List Int} {k w : Int} {n : Nat} (ha : arityF op = n) (h1 : ws.length = n) (h2 : ws.all fitsF = true) (h3 : fitsF (wvF op ws k w) = true) : okF op ws k w = true := by
  unfold okF; rw [ha, decide_eq_true (by omega), h2, h3]; rfl
/-- What a valid operation's widths say. -/
theorem ok_say {op : Int} {ws : List Int} {k w : Int} {n : Nat} (ha : arityF op = n) (h : okF op ws k w = true) : ws.length = n ∧ ws.all fitsF = true ∧ 1 ≤ wvF op ws k w ∧ wvF op ws k w ≤ 8 := by
  obtain ⟨h1, h2, h3⟩ := ok_yes h
  rw [ha] at h1
  have := fits_iff.1 h3
  exact ⟨by omega, h2, this.1, this.2⟩
theorem ok_range {op : Int} {ws : List Int} {k w : Int} (h : okF op ws k w = true) : op = 1 ∨ op = 2 ∨ op = 3 ∨ op = 4 ∨ op = 5 ∨ op = 6 ∨ op = 7 ∨ op = 8 ∨ op = 9 ∨ op = 10 ∨ op = 11 ∨ op = 12 ∨ op = 13 := by
  rcases Decidable.em (op < 1 ∨ 13 < op) with hh | hh
  · rw [ok_none hh] at h; cases h
  · omega
theorem no_of {b : Bool} (h : b = true → False) : b = false := by cases b <;> simp at h ⊢
theorem alike_of {ws : List Int} (h : ws.getD 1 0 = ws.getD 0 0) : alikeF ws = ws.getD 0 0 := by
  unfold alikeF; rw [if_neg (by rw [h]; simp)]
theorem alike_say {ws : List Int} (h : 1 ≤ alikeF ws) : ws.getD 1 0 = ws.getD 0 0 := by
  unfold alikeF at h; split at h
  · omega
  · rename_i hn; exact (Decidable.not_not.1 hn).symm
theorem equal_of {ws : List Int} {n : Nat} (h1 : ws.length = n) (h2 : ws.all fitsF = true) (h3 : n < 2 ∨ ws.getD (n - 1) 0 = ws.getD (n - 2) 0) : equalF ws n = true := by
  unfold equalF; rw [decide_eq_true h1, h2]
  rcases h3 with h3 | h3
  · rw [decide_eq_true h3]; rfl
  · rw [decide_eq_true h3]; simp
/-! One by one. -/
theorem okr_const {ws : List Int} {k w : Int} : okF 1 ws k w = true ↔ (ws.length = 0 ∧ fitsF w = true ∧ 0 ≤ k ∧ k ≤ maskF w) := by
  have e : wvF 1 ws k w = (if fitsF w = false ∨ k < 0 ∨ maskF w < k then 0 else w) := rfl
  constructor
  · intro h
    obtain ⟨h1, h2, h3, h4⟩ := ok_say (n := 0) (by decide) h
    rw [e] at h3
    split at h3
    · omega
    · rename_i hn
      simp only [not_or, Bool.not_eq_false] at hn
      exact ⟨h1, hn.1, by omega, by omega⟩
  · intro ⟨h1, h2, h3, h4⟩
    refine ok_of (n := 0) (by decide) h1 (by rw [List.eq_nil_of_length_eq_zero h1]; rfl) ?_
    rw [e, if_neg (by rw [h2]; simp; omega)]
    exact h2
theorem wv_const {ws : List Int} {k w : Int} (h2 : fitsF w = true) (h3 : 0 ≤ k) (h4 : k ≤ maskF w) : wvF 1 ws k w = w := by
  show (if fitsF w = false ∨ k < 0 ∨ maskF w < k then 0 else w) = w
  rw [if_neg (by rw [h2]; simp; omega)]
theorem okr_not {ws : List Int} {k w : Int} : okF 2 ws k w = true ↔ equalF ws 1 = true := by
  constructor
  · intro h
    obtain ⟨h1, h2, h3, h4⟩ := ok_say (n := 1) (by decide) h
    exact equal_of h1 h2 (.inl (by omega))
  · intro h
    obtain ⟨h1, h2, _⟩ := equal_yes h
    exact ok_of (n := 1) (by decide) h1 h2 (equal_fit h (by omega))
theorem wv_two {op : Int} (hop : 3 ≤ op ∧ op ≤ 7) {ws : List Int} {k w : Int} : wvF op ws k w = alikeF ws := by
  have : op = 3 ∨ op = 4 ∨ op = 5 ∨ op = 6 ∨ op = 7 := by omega
  rcases this with rfl | rfl | rfl | rfl | rfl <;> rfl
theorem ar_two {op : Int} (hop : 3 ≤ op ∧ op ≤ 9) : arityF op = (2 : Nat) := by
  have : op = 3 ∨ op = 4 ∨ op = 5 ∨ op = 6 ∨ op = 7 ∨ op = 8 ∨ op = 9 := by omega
  rcases this with rfl | rfl | rfl | rfl | rfl | rfl | rfl <;> decide
theorem okr_two {op : Int} (hop : 3 ≤ op ∧ op ≤ 7) {ws : List Int} {k w : Int} : okF op ws k w = true ↔ equalF ws 2 = true := by
  constructor
  · intro h
    obtain ⟨h1, h2, h3, h4⟩ := ok_say (n := 2) (ar_two (by omega)) h
    rw [wv_two hop] at h3
    exact equal_of h1 h2 (.inr (alike_say h3))
  · intro h
    obtain ⟨h1, h2, h3⟩ := equal_yes h
    refine ok_of (n := 2) (ar_two (by omega)) h1 h2 ?_
    rw [wv_two hop, alike_of (by rcases h3 with h3 | h3; omega; exact h3)]
    exact equal_fit h (by omega)
theorem wvr_two {op : Int} (hop : 3 ≤ op ∧ op ≤ 7) {ws : List Int} {k w : Int} (h : equalF ws 2 = true) : wvF op ws k w = ws.getD 0 0 := by
  obtain ⟨h1, h2, h3⟩ := equal_yes h
  rw [wv_two hop, alike_of (by rcases h3 with h3 | h3; omega; exact h3)]
theorem wv_cmp {op : Int} (hop : op = 8 ∨ op = 9) {ws : List Int} {k w : Int} : wvF op ws k w = min (alikeF ws) 1 := by
  rcases hop with rfl | rfl <;> rfl
theorem wvr_cmp {op : Int} (hop : op = 8 ∨ op = 9) {ws : List Int} {k w : Int} (h : equalF ws 2 = true) : wvF op ws k w = 1 := by
  obtain ⟨h1, h2, h3⟩ := equal_yes h
  have := fits_iff.1 (equal_fit h (i := 0) (by omega))
  rw [wv_cmp hop, alike_of (by rcases h3 with h3 | h3; omega; exact h3)]
  omega
theorem okr_cmp {op : Int} (hop : op = 8 ∨ op = 9) {ws : List Int} {k w : Int} : okF op ws k w = true ↔ equalF ws 2 = true := by
  constructor
  · intro h
    obtain ⟨h1, h2, h3, h4⟩ := ok_say (n := 2) (ar_two (by omega)) h
    rw [wv_cmp hop] at h3
    exact equal_of h1 h2 (.inr (alike_say (by omega)))
  · intro h
    obtain ⟨h1, h2, h3⟩ := equal_yes h
    refine ok_of (n := 2) (ar_two (by omega)) h1 h2 ?_
    rw [wvr_cmp hop h]
    decide
theorem wvr_mux {ws : List Int} {k w : Int} (h : equalF ws 3 = true) (h0 : ws.getD 0 0 = 1) : wvF 10 ws k w = ws.getD 1 0 := by
  obtain ⟨h1, h2, h3⟩ := equal_yes h
  show (if ws.getD 0 0 ≠ 1 ∨ ws.getD 1 0 ≠ ws.getD 2 0 then (0 : Int) else ws.getD 1 0) = _
  have h3 : ws.getD 2 0 = ws.getD 1 0 := by rcases h3 with h3 | h3; omega; exact h3
  rw [if_neg (by rw [h0, h3]; simp)]
theorem okr_mux {ws : List Int} {k w : Int} : okF 10 ws k w = true ↔ (equalF ws 3 = true ∧ ws.getD 0 0 = 1) := by
  have e : wvF 10 ws k w = (if ws.getD 0 0 ≠ 1 ∨ ws.getD 1 0 ≠ ws.getD 2 0 then 0 else ws.getD 1 0) := rfl
  constructor
  · intro h
    obtain ⟨h1, h2, h3, h4⟩ := ok_say (n := 3) (by decide) h
    rw [e] at h3
    split at h3
    · omega
    · rename_i hn
      simp only [not_or, ne_eq, Decidable.not_not] at hn
      exact ⟨equal_of h1 h2 (.inr hn.2.symm), hn.1⟩
  · intro ⟨h, h0⟩
    obtain ⟨h1, h2, h3⟩ := equal_yes h
    refine ok_of (n := 3) (by decide) h1 h2 ?_
    rw [wvr_mux h h0]
    exact equal_fit h (by omega)
theorem okr_cat {ws : List Int} {k w : Int} : okF 11 ws k w = true ↔ (ws.length = 2 ∧ fitsF (ws.getD 0 0) = true ∧ fitsF (ws.getD 1 0) = true ∧ fitsF (ws.getD 0 0 + ws.getD 1 0) = true) := by
  constructor
  · intro h
    obtain ⟨h1, h2, h3, h4⟩ := ok_say (n := 2) (by decide) h
    exact ⟨h1, fits_iff.2 (fit_get h2 (by omega)), fits_iff.2 (fit_get h2 (by omega)), fits_iff.2 ⟨h3, h4⟩⟩
  · intro ⟨h1, h2, h3, h4⟩
    refine ok_of (n := 2) (by decide) h1 (fit_all (fun i hi => ?_)) h4
    match i, hi with
    | 0, _ => exact h2
    | 1, _ => exact h3
    | i + 2, hi => omega
theorem wvr_slice {ws : List Int} {k w : Int} (h2 : fitsF w = true) (h3 : 0 ≤ k) (h4 : k ≤ ws.getD 0 0 - w) : wvF 12 ws k w = w := by
  show (if fitsF w = false ∨ k < 0 ∨ ws.getD 0 0 - w < k then 0 else w) = w
  rw [if_neg (by rintro (h | h | h) <;> first | omega | (rw [h2] at h; cases h))]
theorem okr_slice {ws : List Int} {k w : Int} : okF 12 ws k w = true ↔ (equalF ws 1 = true ∧ fitsF w = true ∧ 0 ≤ k ∧ k ≤ ws.getD 0 0 - w) := by
  have e : wvF 12 ws k w = (if fitsF w = false ∨ k < 0 ∨ ws.getD 0 0 - w < k then 0 else w) := rfl
  constructor
  · intro h
    obtain ⟨h1, h2, h3, h4⟩ := ok_say (n := 1) (by decide) h
    rw [e] at h3
    split at h3
    · omega
    · rename_i hn
      simp only [not_or, Bool.not_eq_false] at hn
      exact ⟨equal_of h1 h2 (.inl (by omega)), hn.1, by omega, by omega⟩
  · intro ⟨h, h2, h3, h4⟩
    obtain ⟨h1, hf, _⟩ := equal_yes h
    refine ok_of (n := 1) (by decide) h1 hf ?_
    rw [wvr_slice h2 h3 h4]
    exact h2
theorem wvr_ext {ws : List Int} {k w : Int} (h : ws.getD 0 0 ≤ w) : wvF 13 ws k w = w := by
  show (if w < ws.getD 0 0 then 0 else w) = w
  rw [if_neg (by omega)]
theorem okr_ext {ws : List Int} {k w : Int} : okF 13 ws k w = true ↔ (equalF ws 1 = true ∧ ws.getD 0 0 ≤ w ∧ fitsF w = true) := by
  have e : wvF 13 ws k w = (if w < ws.getD 0 0 then 0 else w) := rfl
  constructor
  · intro h
    obtain ⟨h1, h2, h3, h4⟩ := ok_say (n := 1) (by decide) h
    have h5 := fits_iff.2 ⟨h3, h4⟩
    rw [e] at h3 h5
    split at h3
    · omega
    · rename_i hn
      rw [if_neg hn] at h5
      exact ⟨equal_of h1 h2 (.inl (by omega)), by omega, h5⟩
  · intro ⟨h, h2, h3⟩
    obtain ⟨h1, hf, _⟩ := equal_yes h
    refine ok_of (n := 1) (by decide) h1 hf ?_
    rw [wvr_ext h2]
    exact h3
theorem slice_cases (ws : List Int) (k w : Int) : equalF ws 1 = false ∨ (equalF ws 1 = true ∧ fitsF w = false) ∨ (equalF ws 1 = true ∧ fitsF w = true ∧ k < 0) ∨ (equalF ws 1 = true ∧ fitsF w = true ∧ 0 ≤ k ∧ ws.getD 0 0 - w < k) ∨ (equalF ws 1 = true ∧ fitsF w = true ∧ 0 ≤ k ∧ k ≤ ws.getD 0 0 - w) := by
  cases h1 : equalF ws 1 with
  | false => exact .inl rfl
  | true => cases h2 : fitsF w with
    | false => exact .inr (.inl ⟨rfl, rfl⟩)
    | true => rcases Int.lt_or_le k 0 with h3 | h3
              · exact .inr (.inr (.inl ⟨rfl, rfl, h3⟩))
              · rcases Int.lt_or_le (ws.getD 0 0 - w) k with h4 | h4
                · exact .inr (.inr (.inr (.inl ⟨rfl, rfl, h3, h4⟩)))
                · exact .inr (.inr (.inr (.inr ⟨rfl, rfl, h3, h4⟩)))
theorem ext_cases (ws : List Int) (w : Int) : equalF ws 1 = false ∨ (equalF ws 1 = true ∧ w < ws.getD 0 0) ∨ (equalF ws 1 = true ∧ ws.getD 0 0 ≤ w) := by
  cases h1 : equalF ws 1 with
  | false => exact .inl rfl
  | true => rcases Int.lt_or_le w (ws.getD 0 0) with h3 | h3
            · exact .inr (.inl ⟨rfl, h3⟩)
            · exact .inr (.inr ⟨rfl, h3⟩)
theorem mux_cases (ws : List Int) : equalF ws 3 = false ∨ (equalF ws 3 = true ∧ ws.getD 0 0 ≠ 1) ∨ (equalF ws 3 = true ∧ ws.getD 0 0 = 1) := by
  cases h1 : equalF ws 3 with
  | false => exact .inl rfl
  | true => by_cases h2 : ws.getD 0 0 = 1
            · exact .inr (.inr ⟨rfl, h2⟩)
            · exact .inr (.inl ⟨rfl, h2⟩)
/-! Values. -/
theorem not_val {x w : Int} (hw : 0 ≤ w ∧ w ≤ 8) (hx : 0 ≤ x ∧ x ≤ maskF w) : maskF w - x = ((x.toNat ^^^ (maskF w).toNat : Nat) : Int) := by
  obtain ⟨n, rfl⟩ := Int.eq_ofNat_of_zero_le hw.1
  obtain ⟨y, rfl⟩ := Int.eq_ofNat_of_zero_le hx.1
  have hp := Nat.two_pow_pos n
  rw [maskN (by omega)] at hx ⊢
  have hy : y < 2 ^ n := by omega
  rw [Int.toNat_natCast, Int.toNat_natCast]
  have e : y ^^^ (2 ^ n - 1) = 2 ^ n - 1 - y := by
    refine Nat.eq_of_testBit_eq (fun i => ?_)
    rw [Nat.testBit_xor, Nat.testBit_two_pow_sub_one, bit_not hy]
    by_cases hi : i < n
    · simp [hi]
    · have : y.testBit i = false := Nat.testBit_lt_two_pow (Nat.lt_of_lt_of_le hy (Nat.pow_le_pow_right (by omega) (by omega)))
      simp [hi, this]
  rw [e]
  omega
theorem rem_mask {s w : Int} (hw : 0 ≤ w ∧ w ≤ 8) (hs : 0 ≤ s) : Int.tmod s (maskF w + 1) = s % 2 ^ w.toNat := by
  rw [Int.tmod_eq_emod_of_nonneg hs, maskF_in (by omega) (by omega)]
  congr 1
  omega
theorem rem_sub {a b w : Int} (hw : 0 ≤ w ∧ w ≤ 8) (hs : 0 ≤ a - b + maskF w + 1) : Int.tmod (a - b + maskF w + 1) (maskF w + 1) = (a - b) % 2 ^ w.toNat := by
  rw [rem_mask hw hs, maskF_in (by omega) (by omega), show a - b + (2 ^ w.toNat - 1) + 1 = a - b + 2 ^ w.toNat from by omega, Int.add_emod_right]
theorem shrF_eq (v : Int) : ∀ k : Nat, shrF v k = v / 2 ^ k
  | 0 => by simp [shrF]
  | k + 1 => by
    rw [shrF, shrF_eq v k, Int.pow_succ, Int.ediv_ediv_of_nonneg (Int.le_of_lt (Int.pow_pos (by decide)))]
theorem shr_bit {v : Int} {k : Nat} (hk : k ≤ 62) : Int.fdiv v (2 ^ min k 64) = shrF v k := by
  rw [shrF_eq, Nat.min_eq_left (by omega), Int.fdiv_eq_ediv_of_nonneg _ (Int.le_of_lt (Int.pow_pos (by decide)))]
theorem join_one {l : List Bool} {k : Nat} (hk : k < 62) (h : l.getD k false = true) : IntKind.wrap .i64 ((BitVec.ofInt (IntKind.i64).bits ((joinN l k : Nat) : Int) ||| BitVec.ofInt (IntKind.i64).bits (IntKind.wrap .i64 (1 * 2 ^ min k 64))).toNat : Int) = ((joinN l (k + 1) : Nat) : Int) := by
  have := join_step (l := l) hk
  rwa [if_pos h] at this
theorem join_none {l : List Bool} {k : Nat} (h : l.getD k false = false) : joinN l (k + 1) = joinN l k := by
  rw [joinN, h]; rfl
theorem splitF_len (v w : Int) : (splitF v w).length ≤ 9223372036854775807 := by
  unfold splitF
  split
  · simp
  · rw [splitN_len]; omega

end Go.Proofs.Ytaghhicmnalmmaa
