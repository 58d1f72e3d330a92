/-
  Operators on bits, plain law: the reference's words.
-/
import Derived.Test.YtgmpoenfoacofaaGreatQBitR
namespace Go.Proofs.YtgmpoenfoacofaaGreat
open Go.RowKit
set_option linter.unusedVariables false
set_option linter.unusedSimpArgs false
def eO (ws : List Int) (n : Nat) : Bool := decide (ws.length = n) && ws.all ao && (decide (n < 2) || decide (ws.getD (n - 1) 0 = ws.getD (n - 2) 0))
theorem IW {ws : List Int} (h : ∀ i, i < ws.length → ao (ws.getD i 0) = true) : ws.all ao = true := by
 rw [List.all_eq_true]
 intro x hx
 obtain ⟨i, hi, rfl⟩ := List.getElem_of_mem hx
 have := h i hi
 simpa [List.getD, List.getElem?_eq_getElem hi] using this
theorem bk {ws : List Int} {n : Nat} (h : eO ws n = true) : ws.length = n ∧ ws.all ao = true ∧ (n < 2 ∨ ws.getD (n - 1) 0 = ws.getD (n - 2) 0) := by
 unfold eO at h
 simp only [Bool.and_eq_true, Bool.or_eq_true, decide_eq_true_eq] at h
 exact ⟨h.1.1, h.1.2, h.2⟩
theorem cF {ws : List Int} {n i : Nat} (h : eO ws n = true) (hi : i < n) : ao (ws.getD i 0) = true := by
 obtain ⟨h1, h2, _⟩ := bk h
 exact aU.2 (az h2 (by omega))
theorem fT {ws : List Int} (h : eO ws 2 = true) : ws.getD 1 0 = ws.getD 0 0 := by
 rcases (bk h).2.2 with h | h
 ·omega
 ·exact h
theorem fU {op : Int} {ws : List Int} {k w out : Int} (h : gj op ws k w = true) (e : bf op ws k w = out) : out = bS op ws k w ∧ (0 : Int) = jC op ws k w := by
 unfold bS jC; rw [h, e]; exact ⟨rfl, rfl⟩
theorem sS {op : Int} {ws : List Int} {k w : Int} {n : Nat} (ha : bj op = n) (h1 : ws.length = n) (h2 : ws.all ao = true) (h3 : ao (bf op ws k w) = true) : gj op ws k w = true := by
 unfold gj; rw [ha, decide_eq_true (by omega), h2, h3]; rfl
theorem ms {op : Int} {ws : List Int} {k w : Int} {n : Nat} (ha : bj op = n) (h : gj op ws k w = true) : ws.length = n ∧ ws.all ao = true ∧ 1 ≤ bf op ws k w ∧ bf op ws k w ≤ 8 := by
 obtain ⟨h1, h2, h3⟩ := jD h
 rw [ha] at h1
 have := aU.1 h3
 exact ⟨by omega, h2, this.1, this.2⟩
theorem vC {op : Int} {ws : List Int} {k w : Int} (h : gj op ws k w = true) : op = 1 ∨ op = 2 ∨ op = 3 ∨ op = 4 ∨ op = 5 ∨ op = 6 ∨ op = 7 ∨ op = 8 ∨ op = 9 ∨ op = 10 ∨ op = 11 ∨ op = 12 ∨ op = 13 := by
 rcases Decidable.em (op < 1 ∨ 13 < op) with hh | hh
 ·rw [Ih hh] at h; cases h
 ·omega
theorem vD {ws : List Int} (h : ws.getD 1 0 = ws.getD 0 0) : bI ws = ws.getD 0 0 := by
 unfold bI; rw [if_neg (by rw [h]; simp)]
theorem xu {ws : List Int} (h : 1 ≤ bI ws) : ws.getD 1 0 = ws.getD 0 0 := by
 unfold bI at h; split at h
 ·omega
 ·rename_i hn; exact (Decidable.not_not.1 hn).symm
theorem kg {ws : List Int} {n : Nat} (h1 : ws.length = n) (h2 : ws.all ao = true) (h3 : n < 2 ∨ ws.getD (n - 1) 0 = ws.getD (n - 2) 0) : eO ws n = true := by
 unfold eO; rw [decide_eq_true h1, h2]
 rcases h3 with h3 | h3
 ·rw [decide_eq_true h3]; rfl
 ·rw [decide_eq_true h3]; simp
theorem E6 {ws : List Int} {k w : Int} : gj 1 ws k w = true ↔ (ws.length = 0 ∧ ao w = true ∧ 0 ≤ k ∧ k ≤ ah w) := by
 have e : bf 1 ws k w = (if ao w = false ∨ k < 0 ∨ ah w < k then 0 else w) := rfl
 constructor
 ·intro h
  obtain ⟨h1, h2, h3, h4⟩ := ms (n := 0) (by decide) h
  rw [e] at h3
  split at h3
  ·omega
  ·rename_i hn
   simp only [not_or, Bool.not_eq_false] at hn
   exact ⟨h1, hn.1, by omega, by omega⟩
 ·intro ⟨h1, h2, h3, h4⟩
  refine sS (n := 0) (by decide) h1 (by rw [List.eq_nil_of_length_eq_zero h1]; rfl) ?_
  rw [e, if_neg (by rw [h2]; simp; omega)]
  exact h2
theorem Hi {ws : List Int} {k w : Int} (h2 : ao w = true) (h3 : 0 ≤ k) (h4 : k ≤ ah w) : bf 1 ws k w = w := by
 show (if ao w = false ∨ k < 0 ∨ ah w < k then 0 else w) = w
 rw [if_neg (by rw [h2]; simp; omega)]
theorem IY {ws : List Int} {k w : Int} : gj 2 ws k w = true ↔ eO ws 1 = true := by
 constructor
 ·intro h
  obtain ⟨h1, h2, h3, h4⟩ := ms (n := 1) (by decide) h
  exact kg h1 h2 (.inl (by omega))
 ·intro h
  obtain ⟨h1, h2, _⟩ := bk h
  exact sS (n := 1) (by decide) h1 h2 (cF h (by omega))
theorem BW {op : Int} (hop : 3 ≤ op ∧ op ≤ 7) {ws : List Int} {k w : Int} : bf op ws k w = bI ws := by
 have : op = 3 ∨ op = 4 ∨ op = 5 ∨ op = 6 ∨ op = 7 := by omega
 rcases this with rfl | rfl | rfl | rfl | rfl <;> rfl
theorem yR {op : Int} (hop : 3 ≤ op ∧ op ≤ 9) : bj op = (2 : Nat) := by
 have : op = 3 ∨ op = 4 ∨ op = 5 ∨ op = 6 ∨ op = 7 ∨ op = 8 ∨ op = 9 := by omega
 rcases this with rfl | rfl | rfl | rfl | rfl | rfl | rfl <;> decide
theorem gb {op : Int} (hop : 3 ≤ op ∧ op ≤ 7) {ws : List Int} {k w : Int} : gj op ws k w = true ↔ eO ws 2 = true := by
 constructor
 ·intro h
  obtain ⟨h1, h2, h3, h4⟩ := ms (n := 2) (yR (by omega)) h
  rw [BW hop] at h3
  exact kg h1 h2 (.inr (xu h3))
 ·intro h
  obtain ⟨h1, h2, h3⟩ := bk h
  refine sS (n := 2) (yR (by omega)) h1 h2 ?_
  rw [BW hop, vD (by rcases h3 with h3 | h3; omega; exact h3)]
  exact cF h (by omega)
theorem qI {op : Int} (hop : 3 ≤ op ∧ op ≤ 7) {ws : List Int} {k w : Int} (h : eO ws 2 = true) : bf op ws k w = ws.getD 0 0 := by
 obtain ⟨h1, h2, h3⟩ := bk h
 rw [BW hop, vD (by rcases h3 with h3 | h3; omega; exact h3)]
theorem Hj {op : Int} (hop : op = 8 ∨ op = 9) {ws : List Int} {k w : Int} : bf op ws k w = min (bI ws) 1 := by
 rcases hop with rfl | rfl <;> rfl
theorem yS {op : Int} (hop : op = 8 ∨ op = 9) {ws : List Int} {k w : Int} (h : eO ws 2 = true) : bf op ws k w = 1 := by
 obtain ⟨h1, h2, h3⟩ := bk h
 have := aU.1 (cF h (i := 0) (by omega))
 rw [Hj hop, vD (by rcases h3 with h3 | h3; omega; exact h3)]
 omega
theorem tK {op : Int} (hop : op = 8 ∨ op = 9) {ws : List Int} {k w : Int} : gj op ws k w = true ↔ eO ws 2 = true := by
 constructor
 ·intro h
  obtain ⟨h1, h2, h3, h4⟩ := ms (n := 2) (yR (by omega)) h
  rw [Hj hop] at h3
  exact kg h1 h2 (.inr (xu (by omega)))
 ·intro h
  obtain ⟨h1, h2, h3⟩ := bk h
  refine sS (n := 2) (yR (by omega)) h1 h2 ?_
  rw [yS hop h]
  decide
theorem DA {ws : List Int} {k w : Int} (h : eO ws 3 = true) (h0 : ws.getD 0 0 = 1) : bf 10 ws k w = ws.getD 1 0 := by
 obtain ⟨h1, h2, h3⟩ := bk h
 show (if ws.getD 0 0 ≠ 1 ∨ ws.getD 1 0 ≠ ws.getD 2 0 then (0 : Int) else ws.getD 1 0) = _
 have h3 : ws.getD 2 0 = ws.getD 1 0 := by rcases h3 with h3 | h3; omega; exact h3
 rw [if_neg (by rw [h0, h3]; simp)]
theorem IZ {ws : List Int} {k w : Int} : gj 10 ws k w = true ↔ (eO ws 3 = true ∧ ws.getD 0 0 = 1) := by
 have e : bf 10 ws k w = (if ws.getD 0 0 ≠ 1 ∨ ws.getD 1 0 ≠ ws.getD 2 0 then 0 else ws.getD 1 0) := rfl
 constructor
 ·intro h
  obtain ⟨h1, h2, h3, h4⟩ := ms (n := 3) (by decide) h
  rw [e] at h3
  split at h3
  ·omega
  ·rename_i hn
   simp only [not_or, ne_eq, Decidable.not_not] at hn
   exact ⟨kg h1 h2 (.inr hn.2.symm), hn.1⟩
 ·intro ⟨h, h0⟩
  obtain ⟨h1, h2, h3⟩ := bk h
  refine sS (n := 3) (by decide) h1 h2 ?_
  rw [DA h h0]
  exact cF h (by omega)
theorem I0 {ws : List Int} {k w : Int} : gj 11 ws k w = true ↔ (ws.length = 2 ∧ ao (ws.getD 0 0) = true ∧ ao (ws.getD 1 0) = true ∧ ao (ws.getD 0 0 + ws.getD 1 0) = true) := by
 constructor
 ·intro h
  obtain ⟨h1, h2, h3, h4⟩ := ms (n := 2) (by decide) h
  exact ⟨h1, aU.2 (az h2 (by omega)), aU.2 (az h2 (by omega)), aU.2 ⟨h3, h4⟩⟩
 ·intro ⟨h1, h2, h3, h4⟩
  refine sS (n := 2) (by decide) h1 (IW (fun i hi => ?_)) h4
  match i, hi with
  | 0, _ => exact h2
  | 1, _ => exact h3
  | i + 2, hi => omega
theorem xv {ws : List Int} {k w : Int} (h2 : ao w = true) (h3 : 0 ≤ k) (h4 : k ≤ ws.getD 0 0 - w) : bf 12 ws k w = w := by
 show (if ao w = false ∨ k < 0 ∨ ws.getD 0 0 - w < k then 0 else w) = w
 rw [if_neg (by rintro (h | h | h) <;> first | omega | (rw [h2] at h; cases h))]
theorem E7 {ws : List Int} {k w : Int} : gj 12 ws k w = true ↔ (eO ws 1 = true ∧ ao w = true ∧ 0 ≤ k ∧ k ≤ ws.getD 0 0 - w) := by
 have e : bf 12 ws k w = (if ao w = false ∨ k < 0 ∨ ws.getD 0 0 - w < k then 0 else w) := rfl
 constructor
 ·intro h
  obtain ⟨h1, h2, h3, h4⟩ := ms (n := 1) (by decide) h
  rw [e] at h3
  split at h3
  ·omega
  ·rename_i hn
   simp only [not_or, Bool.not_eq_false] at hn
   exact ⟨kg h1 h2 (.inl (by omega)), hn.1, by omega, by omega⟩
 ·intro ⟨h, h2, h3, h4⟩
  obtain ⟨h1, hf, _⟩ := bk h
  refine sS (n := 1) (by decide) h1 hf ?_
  rw [xv h2 h3 h4]
  exact h2
theorem DB {ws : List Int} {k w : Int} (h : ws.getD 0 0 ≤ w) : bf 13 ws k w = w := by
 show (if w < ws.getD 0 0 then 0 else w) = w
 rw [if_neg (by omega)]
theorem I1 {ws : List Int} {k w : Int} : gj 13 ws k w = true ↔ (eO ws 1 = true ∧ ws.getD 0 0 ≤ w ∧ ao w = true) := by
 have e : bf 13 ws k w = (if w < ws.getD 0 0 then 0 else w) := rfl
 constructor
 ·intro h
  obtain ⟨h1, h2, h3, h4⟩ := ms (n := 1) (by decide) h
  have h5 := aU.2 ⟨h3, h4⟩
  rw [e] at h3 h5
  split at h3
  ·omega
  ·rename_i hn
   rw [if_neg hn] at h5
   exact ⟨kg h1 h2 (.inl (by omega)), by omega, h5⟩
 ·intro ⟨h, h2, h3⟩
  obtain ⟨h1, hf, _⟩ := bk h
  refine sS (n := 1) (by decide) h1 hf ?_
  rw [DB h2]
  exact h3
theorem I2 {x w : Int} (hw : 0 ≤ w ∧ w ≤ 8) (hx : 0 ≤ x ∧ x ≤ ah w) : ah w - x = ((x.toNat ^^^ (ah w).toNat : Nat) : Int) := by
 obtain ⟨n, rfl⟩ := Int.eq_ofNat_of_zero_le hw.1
 obtain ⟨y, rfl⟩ := Int.eq_ofNat_of_zero_le hx.1
 have hp := Nat.two_pow_pos n
 rw [L1 (by omega)] at hx ⊢
 have hy : y < 2 ^ n := by omega
 rw [Int.toNat_natCast, Int.toNat_natCast]
 have e : y ^^^ (2 ^ n - 1) = 2 ^ n - 1 - y := by
  refine Nat.eq_of_testBit_eq (fun i => ?_)
  rw [Nat.testBit_xor, Nat.testBit_two_pow_sub_one, IV hy]
  by_cases hi : i < n
  ·simp [hi]
  ·have : y.testBit i = false := Nat.testBit_lt_two_pow (Nat.lt_of_lt_of_le hy (Nat.pow_le_pow_right (by omega) (by omega)))
   simp [hi, this]
 rw [e]
 omega
theorem Au {s w : Int} (hw : 0 ≤ w ∧ w ≤ 8) (hs : 0 ≤ s) : Int.tmod s (ah w + 1) = s % 2 ^ w.toNat := by
 rw [Int.tmod_eq_emod_of_nonneg hs, ck (by omega) (by omega)]
 congr 1
 omega
theorem I3 {a b w : Int} (hw : 0 ≤ w ∧ w ≤ 8) (hs : 0 ≤ a - b + ah w + 1) : Int.tmod (a - b + ah w + 1) (ah w + 1) = (a - b) % 2 ^ w.toNat := by
 rw [Au hw hs, ck (by omega) (by omega), show a - b + (2 ^ w.toNat - 1) + 1 = a - b + 2 ^ w.toNat from by omega, Int.add_emod_right]
end Go.Proofs.YtgmpoenfoacofaaGreat
