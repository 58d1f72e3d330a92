/-
  Operators on bits, plain law: the reference's words.
-/
import Derived.Test.YtnlmlkbaflmgcaaQBitR
namespace Go.Proofs.Ytnlmlkbaflmgcaa
open Go.RowKit
set_option linter.unusedVariables false
set_option linter.unusedSimpArgs false
def d8 (ws : List Int) (n : Nat) : Bool := decide (ws.length = n) && ws.all aI && (decide (n < 2) || decide (ws.getD (n - 1) 0 = ws.getD (n - 2) 0))
theorem GF {ws : List Int} (h : ∀ i, i < ws.length → aI (ws.getD i 0) = true) : ws.all aI = true := by
 rw [List.all_eq_true]
 intro x hx
 obtain ⟨i, hi, rfl⟩ := List.getElem_of_mem hx
 have := h i hi
 simpa [List.getD, List.getElem?_eq_getElem hi] using this
theorem ba {ws : List Int} {n : Nat} (h : d8 ws n = true) : ws.length = n ∧ ws.all aI = true ∧ (n < 2 ∨ ws.getD (n - 1) 0 = ws.getD (n - 2) 0) := by
 unfold d8 at h
 simp only [Bool.and_eq_true, Bool.or_eq_true, decide_eq_true_eq] at h
 exact ⟨h.1.1, h.1.2, h.2⟩
theorem ce {ws : List Int} {n i : Nat} (h : d8 ws n = true) (hi : i < n) : aI (ws.getD i 0) = true := by
 obtain ⟨h1, h2, _⟩ := ba h
 exact aM.2 (dQ h2 (by omega))
theorem fJ {ws : List Int} (h : d8 ws 2 = true) : ws.getD 1 0 = ws.getD 0 0 := by
 rcases (ba h).2.2 with h | h
 ·omega
 ·exact h
theorem fK {op : Int} {ws : List Int} {k w out : Int} (h : iC op ws k w = true) (e : eX op ws k w = out) : out = ct op ws k w ∧ (0 : Int) = Dk op ws k w := by
 unfold ct Dk; rw [h, e]; exact ⟨rfl, rfl⟩
theorem qj {op : Int} {ws : List Int} {k w : Int} {n : Nat} (ha : cD op = n) (h1 : ws.length = n) (h2 : ws.all aI = true) (h3 : aI (eX op ws k w) = true) : iC op ws k w = true := by
 unfold iC; rw [ha, decide_eq_true (by omega), h2, h3]; rfl
theorem kZ {op : Int} {ws : List Int} {k w : Int} {n : Nat} (ha : cD op = n) (h : iC op ws k w = true) : ws.length = n ∧ ws.all aI = true ∧ 1 ≤ eX op ws k w ∧ eX op ws k w ≤ 8 := by
 obtain ⟨h1, h2, h3⟩ := jI h
 rw [ha] at h1
 have := aM.1 h3
 exact ⟨by omega, h2, this.1, this.2⟩
theorem sJ {op : Int} {ws : List Int} {k w : Int} (h : iC op ws k w = true) : op = 1 ∨ op = 2 ∨ op = 3 ∨ op = 4 ∨ op = 5 ∨ op = 6 ∨ op = 7 ∨ op = 8 ∨ op = 9 ∨ op = 10 ∨ op = 11 ∨ op = 12 ∨ op = 13 := by
 rcases Decidable.em (op < 1 ∨ 13 < op) with hh | hh
 ·rw [FI hh] at h; cases h
 ·omega
theorem sK {ws : List Int} (h : ws.getD 1 0 = ws.getD 0 0) : bZ ws = ws.getD 0 0 := by
 unfold bZ; rw [if_neg (by rw [h]; simp)]
theorem uI {ws : List Int} (h : 1 ≤ bZ ws) : ws.getD 1 0 = ws.getD 0 0 := by
 unfold bZ at h; split at h
 ·omega
 ·rename_i hn; exact (Decidable.not_not.1 hn).symm
theorem jt {ws : List Int} {n : Nat} (h1 : ws.length = n) (h2 : ws.all aI = true) (h3 : n < 2 ∨ ws.getD (n - 1) 0 = ws.getD (n - 2) 0) : d8 ws n = true := by
 unfold d8; rw [decide_eq_true h1, h2]
 rcases h3 with h3 | h3
 ·rw [decide_eq_true h3]; rfl
 ·rw [decide_eq_true h3]; simp
theorem Ca {ws : List Int} {k w : Int} : iC 1 ws k w = true ↔ (ws.length = 0 ∧ aI w = true ∧ 0 ≤ k ∧ k ≤ aC w) := by
 have e : eX 1 ws k w = (if aI w = false ∨ k < 0 ∨ aC w < k then 0 else w) := rfl
 constructor
 ·intro h
  obtain ⟨h1, h2, h3, h4⟩ := kZ (n := 0) (by decide) h
  rw [e] at h3
  split at h3
  ·omega
  ·rename_i hn
   simp only [not_or, Bool.not_eq_false] at hn
   exact ⟨h1, hn.1, by omega, by omega⟩
 ·intro ⟨h1, h2, h3, h4⟩
  refine qj (n := 0) (by decide) h1 (by rw [List.eq_nil_of_length_eq_zero h1]; rfl) ?_
  rw [e, if_neg (by rw [h2]; simp; omega)]
  exact h2
theorem EK {ws : List Int} {k w : Int} (h2 : aI w = true) (h3 : 0 ≤ k) (h4 : k ≤ aC w) : eX 1 ws k w = w := by
 show (if aI w = false ∨ k < 0 ∨ aC w < k then 0 else w) = w
 rw [if_neg (by rw [h2]; simp; omega)]
theorem GG {ws : List Int} {k w : Int} : iC 2 ws k w = true ↔ d8 ws 1 = true := by
 constructor
 ·intro h
  obtain ⟨h1, h2, h3, h4⟩ := kZ (n := 1) (by decide) h
  exact jt h1 h2 (.inl (by omega))
 ·intro h
  obtain ⟨h1, h2, _⟩ := ba h
  exact qj (n := 1) (by decide) h1 h2 (ce h (by omega))
theorem zf {op : Int} (hop : 3 ≤ op ∧ op ≤ 7) {ws : List Int} {k w : Int} : eX op ws k w = bZ ws := by
 have : op = 3 ∨ op = 4 ∨ op = 5 ∨ op = 6 ∨ op = 7 := by omega
 rcases this with rfl | rfl | rfl | rfl | rfl <;> rfl
theorem we {op : Int} (hop : 3 ≤ op ∧ op ≤ 9) : cD op = (2 : Nat) := by
 have : op = 3 ∨ op = 4 ∨ op = 5 ∨ op = 6 ∨ op = 7 ∨ op = 8 ∨ op = 9 := by omega
 rcases this with rfl | rfl | rfl | rfl | rfl | rfl | rfl <;> decide
theorem fT {op : Int} (hop : 3 ≤ op ∧ op ≤ 7) {ws : List Int} {k w : Int} : iC op ws k w = true ↔ d8 ws 2 = true := by
 constructor
 ·intro h
  obtain ⟨h1, h2, h3, h4⟩ := kZ (n := 2) (we (by omega)) h
  rw [zf hop] at h3
  exact jt h1 h2 (.inr (uI h3))
 ·intro h
  obtain ⟨h1, h2, h3⟩ := ba h
  refine qj (n := 2) (we (by omega)) h1 h2 ?_
  rw [zf hop, sK (by rcases h3 with h3 | h3; omega; exact h3)]
  exact ce h (by omega)
theorem oJ {op : Int} (hop : 3 ≤ op ∧ op ≤ 7) {ws : List Int} {k w : Int} (h : d8 ws 2 = true) : eX op ws k w = ws.getD 0 0 := by
 obtain ⟨h1, h2, h3⟩ := ba h
 rw [zf hop, sK (by rcases h3 with h3 | h3; omega; exact h3)]
theorem EL {op : Int} (hop : op = 8 ∨ op = 9) {ws : List Int} {k w : Int} : eX op ws k w = min (bZ ws) 1 := by
 rcases hop with rfl | rfl <;> rfl
theorem wg {op : Int} (hop : op = 8 ∨ op = 9) {ws : List Int} {k w : Int} (h : d8 ws 2 = true) : eX op ws k w = 1 := by
 obtain ⟨h1, h2, h3⟩ := ba h
 have := aM.1 (ce h (i := 0) (by omega))
 rw [EL hop, sK (by rcases h3 with h3 | h3; omega; exact h3)]
 omega
theorem qS {op : Int} (hop : op = 8 ∨ op = 9) {ws : List Int} {k w : Int} : iC op ws k w = true ↔ d8 ws 2 = true := by
 constructor
 ·intro h
  obtain ⟨h1, h2, h3, h4⟩ := kZ (n := 2) (we (by omega)) h
  rw [EL hop] at h3
  exact jt h1 h2 (.inr (uI (by omega)))
 ·intro h
  obtain ⟨h1, h2, h3⟩ := ba h
  refine qj (n := 2) (we (by omega)) h1 h2 ?_
  rw [wg hop h]
  decide
theorem A1 {ws : List Int} {k w : Int} (h : d8 ws 3 = true) (h0 : ws.getD 0 0 = 1) : eX 10 ws k w = ws.getD 1 0 := by
 obtain ⟨h1, h2, h3⟩ := ba h
 show (if ws.getD 0 0 ≠ 1 ∨ ws.getD 1 0 ≠ ws.getD 2 0 then (0 : Int) else ws.getD 1 0) = _
 have h3 : ws.getD 2 0 = ws.getD 1 0 := by rcases h3 with h3 | h3; omega; exact h3
 rw [if_neg (by rw [h0, h3]; simp)]
theorem GH {ws : List Int} {k w : Int} : iC 10 ws k w = true ↔ (d8 ws 3 = true ∧ ws.getD 0 0 = 1) := by
 have e : eX 10 ws k w = (if ws.getD 0 0 ≠ 1 ∨ ws.getD 1 0 ≠ ws.getD 2 0 then 0 else ws.getD 1 0) := rfl
 constructor
 ·intro h
  obtain ⟨h1, h2, h3, h4⟩ := kZ (n := 3) (by decide) h
  rw [e] at h3
  split at h3
  ·omega
  ·rename_i hn
   simp only [not_or, ne_eq, Decidable.not_not] at hn
   exact ⟨jt h1 h2 (.inr hn.2.symm), hn.1⟩
 ·intro ⟨h, h0⟩
  obtain ⟨h1, h2, h3⟩ := ba h
  refine qj (n := 3) (by decide) h1 h2 ?_
  rw [A1 h h0]
  exact ce h (by omega)
theorem GI {ws : List Int} {k w : Int} : iC 11 ws k w = true ↔ (ws.length = 2 ∧ aI (ws.getD 0 0) = true ∧ aI (ws.getD 1 0) = true ∧ aI (ws.getD 0 0 + ws.getD 1 0) = true) := by
 constructor
 ·intro h
  obtain ⟨h1, h2, h3, h4⟩ := kZ (n := 2) (by decide) h
  exact ⟨h1, aM.2 (dQ h2 (by omega)), aM.2 (dQ h2 (by omega)), aM.2 ⟨h3, h4⟩⟩
 ·intro ⟨h1, h2, h3, h4⟩
  refine qj (n := 2) (by decide) h1 (GF (fun i hi => ?_)) h4
  match i, hi with
  | 0, _ => exact h2
  | 1, _ => exact h3
  | i + 2, hi => omega
theorem uJ {ws : List Int} {k w : Int} (h2 : aI w = true) (h3 : 0 ≤ k) (h4 : k ≤ ws.getD 0 0 - w) : eX 12 ws k w = w := by
 show (if aI w = false ∨ k < 0 ∨ ws.getD 0 0 - w < k then 0 else w) = w
 rw [if_neg (by rintro (h | h | h) <;> first | omega | (rw [h2] at h; cases h))]
theorem Cb {ws : List Int} {k w : Int} : iC 12 ws k w = true ↔ (d8 ws 1 = true ∧ aI w = true ∧ 0 ≤ k ∧ k ≤ ws.getD 0 0 - w) := by
 have e : eX 12 ws k w = (if aI w = false ∨ k < 0 ∨ ws.getD 0 0 - w < k then 0 else w) := rfl
 constructor
 ·intro h
  obtain ⟨h1, h2, h3, h4⟩ := kZ (n := 1) (by decide) h
  rw [e] at h3
  split at h3
  ·omega
  ·rename_i hn
   simp only [not_or, Bool.not_eq_false] at hn
   exact ⟨jt h1 h2 (.inl (by omega)), hn.1, by omega, by omega⟩
 ·intro ⟨h, h2, h3, h4⟩
  obtain ⟨h1, hf, _⟩ := ba h
  refine qj (n := 1) (by decide) h1 hf ?_
  rw [uJ h2 h3 h4]
  exact h2
theorem A2 {ws : List Int} {k w : Int} (h : ws.getD 0 0 ≤ w) : eX 13 ws k w = w := by
 show (if w < ws.getD 0 0 then 0 else w) = w
 rw [if_neg (by omega)]
theorem GJ {ws : List Int} {k w : Int} : iC 13 ws k w = true ↔ (d8 ws 1 = true ∧ ws.getD 0 0 ≤ w ∧ aI w = true) := by
 have e : eX 13 ws k w = (if w < ws.getD 0 0 then 0 else w) := rfl
 constructor
 ·intro h
  obtain ⟨h1, h2, h3, h4⟩ := kZ (n := 1) (by decide) h
  have h5 := aM.2 ⟨h3, h4⟩
  rw [e] at h3 h5
  split at h3
  ·omega
  ·rename_i hn
   rw [if_neg hn] at h5
   exact ⟨jt h1 h2 (.inl (by omega)), by omega, h5⟩
 ·intro ⟨h, h2, h3⟩
  obtain ⟨h1, hf, _⟩ := ba h
  refine qj (n := 1) (by decide) h1 hf ?_
  rw [A2 h2]
  exact h3
theorem GK {x w : Int} (hw : 0 ≤ w ∧ w ≤ 8) (hx : 0 ≤ x ∧ x ≤ aC w) : aC w - x = ((x.toNat ^^^ (aC w).toNat : Nat) : Int) := by
 obtain ⟨n, rfl⟩ := Int.eq_ofNat_of_zero_le hw.1
 obtain ⟨y, rfl⟩ := Int.eq_ofNat_of_zero_le hx.1
 have hp := Nat.two_pow_pos n
 rw [Kb (by omega)] at hx ⊢
 have hy : y < 2 ^ n := by omega
 rw [Int.toNat_natCast, Int.toNat_natCast]
 have e : y ^^^ (2 ^ n - 1) = 2 ^ n - 1 - y := by
  refine Nat.eq_of_testBit_eq (fun i => ?_)
  rw [Nat.testBit_xor, Nat.testBit_two_pow_sub_one, GE hy]
  by_cases hi : i < n
  ·simp [hi]
  ·have : y.testBit i = false := Nat.testBit_lt_two_pow (Nat.lt_of_lt_of_le hy (Nat.pow_le_pow_right (by omega) (by omega)))
   simp [hi, this]
 rw [e]
 omega
theorem xK {s w : Int} (hw : 0 ≤ w ∧ w ≤ 8) (hs : 0 ≤ s) : Int.tmod s (aC w + 1) = s % 2 ^ w.toNat := by
 rw [Int.tmod_eq_emod_of_nonneg hs, cI (by omega) (by omega)]
 congr 1
 omega
theorem GL {a b w : Int} (hw : 0 ≤ w ∧ w ≤ 8) (hs : 0 ≤ a - b + aC w + 1) : Int.tmod (a - b + aC w + 1) (aC w + 1) = (a - b) % 2 ^ w.toNat := by
 rw [xK hw hs, cI (by omega) (by omega), show a - b + (2 ^ w.toNat - 1) + 1 = a - b + 2 ^ w.toNat from by omega, Int.add_emod_right]
end Go.Proofs.Ytnlmlkbaflmgcaa
