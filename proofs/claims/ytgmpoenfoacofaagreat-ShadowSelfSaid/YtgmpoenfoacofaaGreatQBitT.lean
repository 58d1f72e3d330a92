/-
  Operators on bits, plain law: the reference's words.
-/
import Derived.Test.YtgmpoenfoacofaaGreatQBitR
namespace Go.Proofs.YtgmpoenfoacofaaGreat
open Go.RowKit
set_option linter.unusedVariables false
set_option linter.unusedSimpArgs false
def eB (ws : List Int) (n : Nat) : Bool := decide (ws.length = n) && ws.all am && (decide (n < 2) || decide (ws.getD (n - 1) 0 = ws.getD (n - 2) 0))
theorem G2 {ws : List Int} (h : ∀ i, i < ws.length → am (ws.getD i 0) = true) : ws.all am = true := by
 rw [List.all_eq_true]
 intro x hx
 obtain ⟨i, hi, rfl⟩ := List.getElem_of_mem hx
 have := h i hi
 simpa [List.getD, List.getElem?_eq_getElem hi] using this
theorem bj {ws : List Int} {n : Nat} (h : eB ws n = true) : ws.length = n ∧ ws.all am = true ∧ (n < 2 ∨ ws.getD (n - 1) 0 = ws.getD (n - 2) 0) := by
 unfold eB at h
 simp only [Bool.and_eq_true, Bool.or_eq_true, decide_eq_true_eq] at h
 exact ⟨h.1.1, h.1.2, h.2⟩
theorem cG {ws : List Int} {n i : Nat} (h : eB ws n = true) (hi : i < n) : am (ws.getD i 0) = true := by
 obtain ⟨h1, h2, _⟩ := bj h
 exact aN.2 (ay h2 (by omega))
theorem ft {ws : List Int} (h : eB ws 2 = true) : ws.getD 1 0 = ws.getD 0 0 := by
 rcases (bj h).2.2 with h | h
 ·omega
 ·exact h
theorem fu {op : Int} {ws : List Int} {k w out : Int} (h : fJ op ws k w = true) (e : bc op ws k w = out) : out = bP op ws k w ∧ (0 : Int) = iQ op ws k w := by
 unfold bP iQ; rw [h, e]; exact ⟨rfl, rfl⟩
theorem rk {op : Int} {ws : List Int} {k w : Int} {n : Nat} (ha : bi op = n) (h1 : ws.length = n) (h2 : ws.all am = true) (h3 : am (bc op ws k w) = true) : fJ op ws k w = true := by
 unfold fJ; rw [ha, decide_eq_true (by omega), h2, h3]; rfl
theorem lg {op : Int} {ws : List Int} {k w : Int} {n : Nat} (ha : bi op = n) (h : fJ op ws k w = true) : ws.length = n ∧ ws.all am = true ∧ 1 ≤ bc op ws k w ∧ bc op ws k w ≤ 8 := by
 obtain ⟨h1, h2, h3⟩ := iR h
 rw [ha] at h1
 have := aN.1 h3
 exact ⟨by omega, h2, this.1, this.2⟩
theorem tL {op : Int} {ws : List Int} {k w : Int} (h : fJ op ws k w = true) : op = 1 ∨ op = 2 ∨ op = 3 ∨ op = 4 ∨ op = 5 ∨ op = 6 ∨ op = 7 ∨ op = 8 ∨ op = 9 ∨ op = 10 ∨ op = 11 ∨ op = 12 ∨ op = 13 := by
 rcases Decidable.em (op < 1 ∨ 13 < op) with hh | hh
 ·rw [Gt hh] at h; cases h
 ·omega
theorem tM {ws : List Int} (h : ws.getD 1 0 = ws.getD 0 0) : bG ws = ws.getD 0 0 := by
 unfold bG; rw [if_neg (by rw [h]; simp)]
theorem vB {ws : List Int} (h : 1 ≤ bG ws) : ws.getD 1 0 = ws.getD 0 0 := by
 unfold bG at h; split at h
 ·omega
 ·rename_i hn; exact (Decidable.not_not.1 hn).symm
theorem jl {ws : List Int} {n : Nat} (h1 : ws.length = n) (h2 : ws.all am = true) (h3 : n < 2 ∨ ws.getD (n - 1) 0 = ws.getD (n - 2) 0) : eB ws n = true := by
 unfold eB; rw [decide_eq_true h1, h2]
 rcases h3 with h3 | h3
 ·rw [decide_eq_true h3]; rfl
 ·rw [decide_eq_true h3]; simp
theorem Dg {ws : List Int} {k w : Int} : fJ 1 ws k w = true ↔ (ws.length = 0 ∧ am w = true ∧ 0 ≤ k ∧ k ≤ af w) := by
 have e : bc 1 ws k w = (if am w = false ∨ k < 0 ∨ af w < k then 0 else w) := rfl
 constructor
 ·intro h
  obtain ⟨h1, h2, h3, h4⟩ := lg (n := 0) (by decide) h
  rw [e] at h3
  split at h3
  ·omega
  ·rename_i hn
   simp only [not_or, Bool.not_eq_false] at hn
   exact ⟨h1, hn.1, by omega, by omega⟩
 ·intro ⟨h1, h2, h3, h4⟩
  refine rk (n := 0) (by decide) h1 (by rw [List.eq_nil_of_length_eq_zero h1]; rfl) ?_
  rw [e, if_neg (by rw [h2]; simp; omega)]
  exact h2
theorem FB {ws : List Int} {k w : Int} (h2 : am w = true) (h3 : 0 ≤ k) (h4 : k ≤ af w) : bc 1 ws k w = w := by
 show (if am w = false ∨ k < 0 ∨ af w < k then 0 else w) = w
 rw [if_neg (by rw [h2]; simp; omega)]
theorem G3 {ws : List Int} {k w : Int} : fJ 2 ws k w = true ↔ eB ws 1 = true := by
 constructor
 ·intro h
  obtain ⟨h1, h2, h3, h4⟩ := lg (n := 1) (by decide) h
  exact jl h1 h2 (.inl (by omega))
 ·intro h
  obtain ⟨h1, h2, _⟩ := bj h
  exact rk (n := 1) (by decide) h1 h2 (cG h (by omega))
theorem z8 {op : Int} (hop : 3 ≤ op ∧ op ≤ 7) {ws : List Int} {k w : Int} : bc op ws k w = bG ws := by
 have : op = 3 ∨ op = 4 ∨ op = 5 ∨ op = 6 ∨ op = 7 := by omega
 rcases this with rfl | rfl | rfl | rfl | rfl <;> rfl
theorem w8 {op : Int} (hop : 3 ≤ op ∧ op ≤ 9) : bi op = (2 : Nat) := by
 have : op = 3 ∨ op = 4 ∨ op = 5 ∨ op = 6 ∨ op = 7 ∨ op = 8 ∨ op = 9 := by omega
 rcases this with rfl | rfl | rfl | rfl | rfl | rfl | rfl <;> decide
theorem fE {op : Int} (hop : 3 ≤ op ∧ op ≤ 7) {ws : List Int} {k w : Int} : fJ op ws k w = true ↔ eB ws 2 = true := by
 constructor
 ·intro h
  obtain ⟨h1, h2, h3, h4⟩ := lg (n := 2) (w8 (by omega)) h
  rw [z8 hop] at h3
  exact jl h1 h2 (.inr (vB h3))
 ·intro h
  obtain ⟨h1, h2, h3⟩ := bj h
  refine rk (n := 2) (w8 (by omega)) h1 h2 ?_
  rw [z8 hop, tM (by rcases h3 with h3 | h3; omega; exact h3)]
  exact cG h (by omega)
theorem pm {op : Int} (hop : 3 ≤ op ∧ op ≤ 7) {ws : List Int} {k w : Int} (h : eB ws 2 = true) : bc op ws k w = ws.getD 0 0 := by
 obtain ⟨h1, h2, h3⟩ := bj h
 rw [z8 hop, tM (by rcases h3 with h3 | h3; omega; exact h3)]
theorem FC {op : Int} (hop : op = 8 ∨ op = 9) {ws : List Int} {k w : Int} : bc op ws k w = min (bG ws) 1 := by
 rcases hop with rfl | rfl <;> rfl
theorem w9 {op : Int} (hop : op = 8 ∨ op = 9) {ws : List Int} {k w : Int} (h : eB ws 2 = true) : bc op ws k w = 1 := by
 obtain ⟨h1, h2, h3⟩ := bj h
 have := aN.1 (cG h (i := 0) (by omega))
 rw [FC hop, tM (by rcases h3 with h3 | h3; omega; exact h3)]
 omega
theorem rX {op : Int} (hop : op = 8 ∨ op = 9) {ws : List Int} {k w : Int} : fJ op ws k w = true ↔ eB ws 2 = true := by
 constructor
 ·intro h
  obtain ⟨h1, h2, h3, h4⟩ := lg (n := 2) (w8 (by omega)) h
  rw [FC hop] at h3
  exact jl h1 h2 (.inr (vB (by omega)))
 ·intro h
  obtain ⟨h1, h2, h3⟩ := bj h
  refine rk (n := 2) (w8 (by omega)) h1 h2 ?_
  rw [w9 hop h]
  decide
theorem BI {ws : List Int} {k w : Int} (h : eB ws 3 = true) (h0 : ws.getD 0 0 = 1) : bc 10 ws k w = ws.getD 1 0 := by
 obtain ⟨h1, h2, h3⟩ := bj h
 show (if ws.getD 0 0 ≠ 1 ∨ ws.getD 1 0 ≠ ws.getD 2 0 then (0 : Int) else ws.getD 1 0) = _
 have h3 : ws.getD 2 0 = ws.getD 1 0 := by rcases h3 with h3 | h3; omega; exact h3
 rw [if_neg (by rw [h0, h3]; simp)]
theorem G4 {ws : List Int} {k w : Int} : fJ 10 ws k w = true ↔ (eB ws 3 = true ∧ ws.getD 0 0 = 1) := by
 have e : bc 10 ws k w = (if ws.getD 0 0 ≠ 1 ∨ ws.getD 1 0 ≠ ws.getD 2 0 then 0 else ws.getD 1 0) := rfl
 constructor
 ·intro h
  obtain ⟨h1, h2, h3, h4⟩ := lg (n := 3) (by decide) h
  rw [e] at h3
  split at h3
  ·omega
  ·rename_i hn
   simp only [not_or, ne_eq, Decidable.not_not] at hn
   exact ⟨jl h1 h2 (.inr hn.2.symm), hn.1⟩
 ·intro ⟨h, h0⟩
  obtain ⟨h1, h2, h3⟩ := bj h
  refine rk (n := 3) (by decide) h1 h2 ?_
  rw [BI h h0]
  exact cG h (by omega)
theorem G5 {ws : List Int} {k w : Int} : fJ 11 ws k w = true ↔ (ws.length = 2 ∧ am (ws.getD 0 0) = true ∧ am (ws.getD 1 0) = true ∧ am (ws.getD 0 0 + ws.getD 1 0) = true) := by
 constructor
 ·intro h
  obtain ⟨h1, h2, h3, h4⟩ := lg (n := 2) (by decide) h
  exact ⟨h1, aN.2 (ay h2 (by omega)), aN.2 (ay h2 (by omega)), aN.2 ⟨h3, h4⟩⟩
 ·intro ⟨h1, h2, h3, h4⟩
  refine rk (n := 2) (by decide) h1 (G2 (fun i hi => ?_)) h4
  match i, hi with
  | 0, _ => exact h2
  | 1, _ => exact h3
  | i + 2, hi => omega
theorem vC {ws : List Int} {k w : Int} (h2 : am w = true) (h3 : 0 ≤ k) (h4 : k ≤ ws.getD 0 0 - w) : bc 12 ws k w = w := by
 show (if am w = false ∨ k < 0 ∨ ws.getD 0 0 - w < k then 0 else w) = w
 rw [if_neg (by rintro (h | h | h) <;> first | omega | (rw [h2] at h; cases h))]
theorem Dh {ws : List Int} {k w : Int} : fJ 12 ws k w = true ↔ (eB ws 1 = true ∧ am w = true ∧ 0 ≤ k ∧ k ≤ ws.getD 0 0 - w) := by
 have e : bc 12 ws k w = (if am w = false ∨ k < 0 ∨ ws.getD 0 0 - w < k then 0 else w) := rfl
 constructor
 ·intro h
  obtain ⟨h1, h2, h3, h4⟩ := lg (n := 1) (by decide) h
  rw [e] at h3
  split at h3
  ·omega
  ·rename_i hn
   simp only [not_or, Bool.not_eq_false] at hn
   exact ⟨jl h1 h2 (.inl (by omega)), hn.1, by omega, by omega⟩
 ·intro ⟨h, h2, h3, h4⟩
  obtain ⟨h1, hf, _⟩ := bj h
  refine rk (n := 1) (by decide) h1 hf ?_
  rw [vC h2 h3 h4]
  exact h2
theorem BJ {ws : List Int} {k w : Int} (h : ws.getD 0 0 ≤ w) : bc 13 ws k w = w := by
 show (if w < ws.getD 0 0 then 0 else w) = w
 rw [if_neg (by omega)]
theorem G6 {ws : List Int} {k w : Int} : fJ 13 ws k w = true ↔ (eB ws 1 = true ∧ ws.getD 0 0 ≤ w ∧ am w = true) := by
 have e : bc 13 ws k w = (if w < ws.getD 0 0 then 0 else w) := rfl
 constructor
 ·intro h
  obtain ⟨h1, h2, h3, h4⟩ := lg (n := 1) (by decide) h
  have h5 := aN.2 ⟨h3, h4⟩
  rw [e] at h3 h5
  split at h3
  ·omega
  ·rename_i hn
   rw [if_neg hn] at h5
   exact ⟨jl h1 h2 (.inl (by omega)), by omega, h5⟩
 ·intro ⟨h, h2, h3⟩
  obtain ⟨h1, hf, _⟩ := bj h
  refine rk (n := 1) (by decide) h1 hf ?_
  rw [BJ h2]
  exact h3
theorem G7 {x w : Int} (hw : 0 ≤ w ∧ w ≤ 8) (hx : 0 ≤ x ∧ x ≤ af w) : af w - x = ((x.toNat ^^^ (af w).toNat : Nat) : Int) := by
 obtain ⟨n, rfl⟩ := Int.eq_ofNat_of_zero_le hw.1
 obtain ⟨y, rfl⟩ := Int.eq_ofNat_of_zero_le hx.1
 have hp := Nat.two_pow_pos n
 rw [J3 (by omega)] at hx ⊢
 have hy : y < 2 ^ n := by omega
 rw [Int.toNat_natCast, Int.toNat_natCast]
 have e : y ^^^ (2 ^ n - 1) = 2 ^ n - 1 - y := by
  refine Nat.eq_of_testBit_eq (fun i => ?_)
  rw [Nat.testBit_xor, Nat.testBit_two_pow_sub_one, G1 hy]
  by_cases hi : i < n
  ·simp [hi]
  ·have : y.testBit i = false := Nat.testBit_lt_two_pow (Nat.lt_of_lt_of_le hy (Nat.pow_le_pow_right (by omega) (by omega)))
   simp [hi, this]
 rw [e]
 omega
theorem yA {s w : Int} (hw : 0 ≤ w ∧ w ≤ 8) (hs : 0 ≤ s) : Int.tmod s (af w + 1) = s % 2 ^ w.toNat := by
 rw [Int.tmod_eq_emod_of_nonneg hs, cf (by omega) (by omega)]
 congr 1
 omega
theorem G8 {a b w : Int} (hw : 0 ≤ w ∧ w ≤ 8) (hs : 0 ≤ a - b + af w + 1) : Int.tmod (a - b + af w + 1) (af w + 1) = (a - b) % 2 ^ w.toNat := by
 rw [yA hw hs, cf (by omega) (by omega), show a - b + (2 ^ w.toNat - 1) + 1 = a - b + 2 ^ w.toNat from by omega, Int.add_emod_right]
end Go.Proofs.YtgmpoenfoacofaaGreat
