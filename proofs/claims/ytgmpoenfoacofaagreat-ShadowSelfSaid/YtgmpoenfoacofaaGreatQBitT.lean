/-
  Operators on bits, plain law: the reference's words.
-/
import Derived.Test.YtgmpoenfoacofaaGreatQBitR
namespace Go.Proofs.YtgmpoenfoacofaaGreat
open Go.RowKit
set_option linter.unusedVariables false
set_option linter.unusedSimpArgs false
def eF (ws : List Int) (n : Nat) : Bool := decide (ws.length = n) && ws.all am && (decide (n < 2) || decide (ws.getD (n - 1) 0 = ws.getD (n - 2) 0))
theorem HK {ws : List Int} (h : ∀ i, i < ws.length → am (ws.getD i 0) = true) : ws.all am = true := by
 rw [List.all_eq_true]
 intro x hx
 obtain ⟨i, hi, rfl⟩ := List.getElem_of_mem hx
 have := h i hi
 simpa [List.getD, List.getElem?_eq_getElem hi] using this
theorem bl {ws : List Int} {n : Nat} (h : eF ws n = true) : ws.length = n ∧ ws.all am = true ∧ (n < 2 ∨ ws.getD (n - 1) 0 = ws.getD (n - 2) 0) := by
 unfold eF at h
 simp only [Bool.and_eq_true, Bool.or_eq_true, decide_eq_true_eq] at h
 exact ⟨h.1.1, h.1.2, h.2⟩
theorem cH {ws : List Int} {n i : Nat} (h : eF ws n = true) (hi : i < n) : am (ws.getD i 0) = true := by
 obtain ⟨h1, h2, _⟩ := bl h
 exact aP.2 (ay h2 (by omega))
theorem fC {ws : List Int} (h : eF ws 2 = true) : ws.getD 1 0 = ws.getD 0 0 := by
 rcases (bl h).2.2 with h | h
 ·omega
 ·exact h
theorem fD {op : Int} {ws : List Int} {k w out : Int} (h : fT op ws k w = true) (e : be op ws k w = out) : out = bP op ws k w ∧ (0 : Int) = ja op ws k w := by
 unfold bP ja; rw [h, e]; exact ⟨rfl, rfl⟩
theorem rS {op : Int} {ws : List Int} {k w : Int} {n : Nat} (ha : bk op = n) (h1 : ws.length = n) (h2 : ws.all am = true) (h3 : am (be op ws k w) = true) : fT op ws k w = true := by
 unfold fT; rw [ha, decide_eq_true (by omega), h2, h3]; rfl
theorem lF {op : Int} {ws : List Int} {k w : Int} {n : Nat} (ha : bk op = n) (h : fT op ws k w = true) : ws.length = n ∧ ws.all am = true ∧ 1 ≤ be op ws k w ∧ be op ws k w ≤ 8 := by
 obtain ⟨h1, h2, h3⟩ := jb h
 rw [ha] at h1
 have := aP.1 h3
 exact ⟨by omega, h2, this.1, this.2⟩
theorem uC {op : Int} {ws : List Int} {k w : Int} (h : fT op ws k w = true) : op = 1 ∨ op = 2 ∨ op = 3 ∨ op = 4 ∨ op = 5 ∨ op = 6 ∨ op = 7 ∨ op = 8 ∨ op = 9 ∨ op = 10 ∨ op = 11 ∨ op = 12 ∨ op = 13 := by
 rcases Decidable.em (op < 1 ∨ 13 < op) with hh | hh
 ·rw [Hb hh] at h; cases h
 ·omega
theorem uD {ws : List Int} (h : ws.getD 1 0 = ws.getD 0 0) : bE ws = ws.getD 0 0 := by
 unfold bE; rw [if_neg (by rw [h]; simp)]
theorem wu {ws : List Int} (h : 1 ≤ bE ws) : ws.getD 1 0 = ws.getD 0 0 := by
 unfold bE at h; split at h
 ·omega
 ·rename_i hn; exact (Decidable.not_not.1 hn).symm
theorem jF {ws : List Int} {n : Nat} (h1 : ws.length = n) (h2 : ws.all am = true) (h3 : n < 2 ∨ ws.getD (n - 1) 0 = ws.getD (n - 2) 0) : eF ws n = true := by
 unfold eF; rw [decide_eq_true h1, h2]
 rcases h3 with h3 | h3
 ·rw [decide_eq_true h3]; rfl
 ·rw [decide_eq_true h3]; simp
theorem D2 {ws : List Int} {k w : Int} : fT 1 ws k w = true ↔ (ws.length = 0 ∧ am w = true ∧ 0 ≤ k ∧ k ≤ af w) := by
 have e : be 1 ws k w = (if am w = false ∨ k < 0 ∨ af w < k then 0 else w) := rfl
 constructor
 ·intro h
  obtain ⟨h1, h2, h3, h4⟩ := lF (n := 0) (by decide) h
  rw [e] at h3
  split at h3
  ·omega
  ·rename_i hn
   simp only [not_or, Bool.not_eq_false] at hn
   exact ⟨h1, hn.1, by omega, by omega⟩
 ·intro ⟨h1, h2, h3, h4⟩
  refine rS (n := 0) (by decide) h1 (by rw [List.eq_nil_of_length_eq_zero h1]; rfl) ?_
  rw [e, if_neg (by rw [h2]; simp; omega)]
  exact h2
theorem Gh {ws : List Int} {k w : Int} (h2 : am w = true) (h3 : 0 ≤ k) (h4 : k ≤ af w) : be 1 ws k w = w := by
 show (if am w = false ∨ k < 0 ∨ af w < k then 0 else w) = w
 rw [if_neg (by rw [h2]; simp; omega)]
theorem HL {ws : List Int} {k w : Int} : fT 2 ws k w = true ↔ eF ws 1 = true := by
 constructor
 ·intro h
  obtain ⟨h1, h2, h3, h4⟩ := lF (n := 1) (by decide) h
  exact jF h1 h2 (.inl (by omega))
 ·intro h
  obtain ⟨h1, h2, _⟩ := bl h
  exact rS (n := 1) (by decide) h1 h2 (cH h (by omega))
theorem A1 {op : Int} (hop : 3 ≤ op ∧ op ≤ 7) {ws : List Int} {k w : Int} : be op ws k w = bE ws := by
 have : op = 3 ∨ op = 4 ∨ op = 5 ∨ op = 6 ∨ op = 7 := by omega
 rcases this with rfl | rfl | rfl | rfl | rfl <;> rfl
theorem xW {op : Int} (hop : 3 ≤ op ∧ op ≤ 9) : bk op = (2 : Nat) := by
 have : op = 3 ∨ op = 4 ∨ op = 5 ∨ op = 6 ∨ op = 7 ∨ op = 8 ∨ op = 9 := by omega
 rcases this with rfl | rfl | rfl | rfl | rfl | rfl | rfl <;> decide
theorem fN {op : Int} (hop : 3 ≤ op ∧ op ≤ 7) {ws : List Int} {k w : Int} : fT op ws k w = true ↔ eF ws 2 = true := by
 constructor
 ·intro h
  obtain ⟨h1, h2, h3, h4⟩ := lF (n := 2) (xW (by omega)) h
  rw [A1 hop] at h3
  exact jF h1 h2 (.inr (wu h3))
 ·intro h
  obtain ⟨h1, h2, h3⟩ := bl h
  refine rS (n := 2) (xW (by omega)) h1 h2 ?_
  rw [A1 hop, uD (by rcases h3 with h3 | h3; omega; exact h3)]
  exact cH h (by omega)
theorem pO {op : Int} (hop : 3 ≤ op ∧ op ≤ 7) {ws : List Int} {k w : Int} (h : eF ws 2 = true) : be op ws k w = ws.getD 0 0 := by
 obtain ⟨h1, h2, h3⟩ := bl h
 rw [A1 hop, uD (by rcases h3 with h3 | h3; omega; exact h3)]
theorem Gi {op : Int} (hop : op = 8 ∨ op = 9) {ws : List Int} {k w : Int} : be op ws k w = min (bE ws) 1 := by
 rcases hop with rfl | rfl <;> rfl
theorem xX {op : Int} (hop : op = 8 ∨ op = 9) {ws : List Int} {k w : Int} (h : eF ws 2 = true) : be op ws k w = 1 := by
 obtain ⟨h1, h2, h3⟩ := bl h
 have := aP.1 (cH h (i := 0) (by omega))
 rw [Gi hop, uD (by rcases h3 with h3 | h3; omega; exact h3)]
 omega
theorem sI {op : Int} (hop : op = 8 ∨ op = 9) {ws : List Int} {k w : Int} : fT op ws k w = true ↔ eF ws 2 = true := by
 constructor
 ·intro h
  obtain ⟨h1, h2, h3, h4⟩ := lF (n := 2) (xW (by omega)) h
  rw [Gi hop] at h3
  exact jF h1 h2 (.inr (wu (by omega)))
 ·intro h
  obtain ⟨h1, h2, h3⟩ := bl h
  refine rS (n := 2) (xW (by omega)) h1 h2 ?_
  rw [xX hop h]
  decide
theorem Cx {ws : List Int} {k w : Int} (h : eF ws 3 = true) (h0 : ws.getD 0 0 = 1) : be 10 ws k w = ws.getD 1 0 := by
 obtain ⟨h1, h2, h3⟩ := bl h
 show (if ws.getD 0 0 ≠ 1 ∨ ws.getD 1 0 ≠ ws.getD 2 0 then (0 : Int) else ws.getD 1 0) = _
 have h3 : ws.getD 2 0 = ws.getD 1 0 := by rcases h3 with h3 | h3; omega; exact h3
 rw [if_neg (by rw [h0, h3]; simp)]
theorem HM {ws : List Int} {k w : Int} : fT 10 ws k w = true ↔ (eF ws 3 = true ∧ ws.getD 0 0 = 1) := by
 have e : be 10 ws k w = (if ws.getD 0 0 ≠ 1 ∨ ws.getD 1 0 ≠ ws.getD 2 0 then 0 else ws.getD 1 0) := rfl
 constructor
 ·intro h
  obtain ⟨h1, h2, h3, h4⟩ := lF (n := 3) (by decide) h
  rw [e] at h3
  split at h3
  ·omega
  ·rename_i hn
   simp only [not_or, ne_eq, Decidable.not_not] at hn
   exact ⟨jF h1 h2 (.inr hn.2.symm), hn.1⟩
 ·intro ⟨h, h0⟩
  obtain ⟨h1, h2, h3⟩ := bl h
  refine rS (n := 3) (by decide) h1 h2 ?_
  rw [Cx h h0]
  exact cH h (by omega)
theorem HN {ws : List Int} {k w : Int} : fT 11 ws k w = true ↔ (ws.length = 2 ∧ am (ws.getD 0 0) = true ∧ am (ws.getD 1 0) = true ∧ am (ws.getD 0 0 + ws.getD 1 0) = true) := by
 constructor
 ·intro h
  obtain ⟨h1, h2, h3, h4⟩ := lF (n := 2) (by decide) h
  exact ⟨h1, aP.2 (ay h2 (by omega)), aP.2 (ay h2 (by omega)), aP.2 ⟨h3, h4⟩⟩
 ·intro ⟨h1, h2, h3, h4⟩
  refine rS (n := 2) (by decide) h1 (HK (fun i hi => ?_)) h4
  match i, hi with
  | 0, _ => exact h2
  | 1, _ => exact h3
  | i + 2, hi => omega
theorem wv {ws : List Int} {k w : Int} (h2 : am w = true) (h3 : 0 ≤ k) (h4 : k ≤ ws.getD 0 0 - w) : be 12 ws k w = w := by
 show (if am w = false ∨ k < 0 ∨ ws.getD 0 0 - w < k then 0 else w) = w
 rw [if_neg (by rintro (h | h | h) <;> first | omega | (rw [h2] at h; cases h))]
theorem D3 {ws : List Int} {k w : Int} : fT 12 ws k w = true ↔ (eF ws 1 = true ∧ am w = true ∧ 0 ≤ k ∧ k ≤ ws.getD 0 0 - w) := by
 have e : be 12 ws k w = (if am w = false ∨ k < 0 ∨ ws.getD 0 0 - w < k then 0 else w) := rfl
 constructor
 ·intro h
  obtain ⟨h1, h2, h3, h4⟩ := lF (n := 1) (by decide) h
  rw [e] at h3
  split at h3
  ·omega
  ·rename_i hn
   simp only [not_or, Bool.not_eq_false] at hn
   exact ⟨jF h1 h2 (.inl (by omega)), hn.1, by omega, by omega⟩
 ·intro ⟨h, h2, h3, h4⟩
  obtain ⟨h1, hf, _⟩ := bl h
  refine rS (n := 1) (by decide) h1 hf ?_
  rw [wv h2 h3 h4]
  exact h2
theorem Cy {ws : List Int} {k w : Int} (h : ws.getD 0 0 ≤ w) : be 13 ws k w = w := by
 show (if w < ws.getD 0 0 then 0 else w) = w
 rw [if_neg (by omega)]
theorem HO {ws : List Int} {k w : Int} : fT 13 ws k w = true ↔ (eF ws 1 = true ∧ ws.getD 0 0 ≤ w ∧ am w = true) := by
 have e : be 13 ws k w = (if w < ws.getD 0 0 then 0 else w) := rfl
 constructor
 ·intro h
  obtain ⟨h1, h2, h3, h4⟩ := lF (n := 1) (by decide) h
  have h5 := aP.2 ⟨h3, h4⟩
  rw [e] at h3 h5
  split at h3
  ·omega
  ·rename_i hn
   rw [if_neg hn] at h5
   exact ⟨jF h1 h2 (.inl (by omega)), by omega, h5⟩
 ·intro ⟨h, h2, h3⟩
  obtain ⟨h1, hf, _⟩ := bl h
  refine rS (n := 1) (by decide) h1 hf ?_
  rw [Cy h2]
  exact h3
theorem HP {x w : Int} (hw : 0 ≤ w ∧ w ≤ 8) (hx : 0 ≤ x ∧ x ≤ af w) : af w - x = ((x.toNat ^^^ (af w).toNat : Nat) : Int) := by
 obtain ⟨n, rfl⟩ := Int.eq_ofNat_of_zero_le hw.1
 obtain ⟨y, rfl⟩ := Int.eq_ofNat_of_zero_le hx.1
 have hp := Nat.two_pow_pos n
 rw [KM (by omega)] at hx ⊢
 have hy : y < 2 ^ n := by omega
 rw [Int.toNat_natCast, Int.toNat_natCast]
 have e : y ^^^ (2 ^ n - 1) = 2 ^ n - 1 - y := by
  refine Nat.eq_of_testBit_eq (fun i => ?_)
  rw [Nat.testBit_xor, Nat.testBit_two_pow_sub_one, HJ hy]
  by_cases hi : i < n
  ·simp [hi]
  ·have : y.testBit i = false := Nat.testBit_lt_two_pow (Nat.lt_of_lt_of_le hy (Nat.pow_le_pow_right (by omega) (by omega)))
   simp [hi, this]
 rw [e]
 omega
theorem zt {s w : Int} (hw : 0 ≤ w ∧ w ≤ 8) (hs : 0 ≤ s) : Int.tmod s (af w + 1) = s % 2 ^ w.toNat := by
 rw [Int.tmod_eq_emod_of_nonneg hs, ci (by omega) (by omega)]
 congr 1
 omega
theorem HQ {a b w : Int} (hw : 0 ≤ w ∧ w ≤ 8) (hs : 0 ≤ a - b + af w + 1) : Int.tmod (a - b + af w + 1) (af w + 1) = (a - b) % 2 ^ w.toNat := by
 rw [zt hw hs, ci (by omega) (by omega), show a - b + (2 ^ w.toNat - 1) + 1 = a - b + 2 ^ w.toNat from by omega, Int.add_emod_right]
end Go.Proofs.YtgmpoenfoacofaaGreat
