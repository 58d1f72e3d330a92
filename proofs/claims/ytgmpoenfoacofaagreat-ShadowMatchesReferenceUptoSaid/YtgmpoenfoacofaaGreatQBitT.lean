/-
  Operators on bits, plain law: the reference's words.
-/
import Derived.Test.YtgmpoenfoacofaaGreatQBitR
namespace Go.Proofs.YtgmpoenfoacofaaGreat
open Go.RowKit
set_option linter.unusedVariables false
set_option linter.unusedSimpArgs false
def eo (ws : List Int) (n : Nat) : Bool := decide (ws.length = n) && ws.all an && (decide (n < 2) || decide (ws.getD (n - 1) 0 = ws.getD (n - 2) 0))
theorem GY {ws : List Int} (h : ∀ i, i < ws.length → an (ws.getD i 0) = true) : ws.all an = true := by
 rw [List.all_eq_true]
 intro x hx
 obtain ⟨i, hi, rfl⟩ := List.getElem_of_mem hx
 have := h i hi
 simpa [List.getD, List.getElem?_eq_getElem hi] using this
theorem be {ws : List Int} {n : Nat} (h : eo ws n = true) : ws.length = n ∧ ws.all an = true ∧ (n < 2 ∨ ws.getD (n - 1) 0 = ws.getD (n - 2) 0) := by
 unfold eo at h
 simp only [Bool.and_eq_true, Bool.or_eq_true, decide_eq_true_eq] at h
 exact ⟨h.1.1, h.1.2, h.2⟩
theorem ck {ws : List Int} {n i : Nat} (h : eo ws n = true) (hi : i < n) : an (ws.getD i 0) = true := by
 obtain ⟨h1, h2, _⟩ := be h
 exact aP.2 (ax h2 (by omega))
theorem ft {ws : List Int} (h : eo ws 2 = true) : ws.getD 1 0 = ws.getD 0 0 := by
 rcases (be h).2.2 with h | h
 ·omega
 ·exact h
theorem fu {op : Int} {ws : List Int} {k w out : Int} (h : fJ op ws k w = true) (e : a8 op ws k w = out) : out = bJ op ws k w ∧ (0 : Int) = iX op ws k w := by
 unfold bJ iX; rw [h, e]; exact ⟨rfl, rfl⟩
theorem rz {op : Int} {ws : List Int} {k w : Int} {n : Nat} (ha : bc op = n) (h1 : ws.length = n) (h2 : ws.all an = true) (h3 : an (a8 op ws k w) = true) : fJ op ws k w = true := by
 unfold fJ; rw [ha, decide_eq_true (by omega), h2, h3]; rfl
theorem lk {op : Int} {ws : List Int} {k w : Int} {n : Nat} (ha : bc op = n) (h : fJ op ws k w = true) : ws.length = n ∧ ws.all an = true ∧ 1 ≤ a8 op ws k w ∧ a8 op ws k w ≤ 8 := by
 obtain ⟨h1, h2, h3⟩ := iY h
 rw [ha] at h1
 have := aP.1 h3
 exact ⟨by omega, h2, this.1, this.2⟩
theorem t5 {op : Int} {ws : List Int} {k w : Int} (h : fJ op ws k w = true) : op = 1 ∨ op = 2 ∨ op = 3 ∨ op = 4 ∨ op = 5 ∨ op = 6 ∨ op = 7 ∨ op = 8 ∨ op = 9 ∨ op = 10 ∨ op = 11 ∨ op = 12 ∨ op = 13 := by
 rcases Decidable.em (op < 1 ∨ 13 < op) with hh | hh
 ·rw [Gn hh] at h; cases h
 ·omega
theorem t6 {ws : List Int} (h : ws.getD 1 0 = ws.getD 0 0) : bA ws = ws.getD 0 0 := by
 unfold bA; rw [if_neg (by rw [h]; simp)]
theorem v5 {ws : List Int} (h : 1 ≤ bA ws) : ws.getD 1 0 = ws.getD 0 0 := by
 unfold bA at h; split at h
 ·omega
 ·rename_i hn; exact (Decidable.not_not.1 hn).symm
theorem js {ws : List Int} {n : Nat} (h1 : ws.length = n) (h2 : ws.all an = true) (h3 : n < 2 ∨ ws.getD (n - 1) 0 = ws.getD (n - 2) 0) : eo ws n = true := by
 unfold eo; rw [decide_eq_true h1, h2]
 rcases h3 with h3 | h3
 ·rw [decide_eq_true h3]; rfl
 ·rw [decide_eq_true h3]; simp
theorem De {ws : List Int} {k w : Int} : fJ 1 ws k w = true ↔ (ws.length = 0 ∧ an w = true ∧ 0 ≤ k ∧ k ≤ ah w) := by
 have e : a8 1 ws k w = (if an w = false ∨ k < 0 ∨ ah w < k then 0 else w) := rfl
 constructor
 ·intro h
  obtain ⟨h1, h2, h3, h4⟩ := lk (n := 0) (by decide) h
  rw [e] at h3
  split at h3
  ·omega
  ·rename_i hn
   simp only [not_or, Bool.not_eq_false] at hn
   exact ⟨h1, hn.1, by omega, by omega⟩
 ·intro ⟨h1, h2, h3, h4⟩
  refine rz (n := 0) (by decide) h1 (by rw [List.eq_nil_of_length_eq_zero h1]; rfl) ?_
  rw [e, if_neg (by rw [h2]; simp; omega)]
  exact h2
theorem Fp {ws : List Int} {k w : Int} (h2 : an w = true) (h3 : 0 ≤ k) (h4 : k ≤ ah w) : a8 1 ws k w = w := by
 show (if an w = false ∨ k < 0 ∨ ah w < k then 0 else w) = w
 rw [if_neg (by rw [h2]; simp; omega)]
theorem GZ {ws : List Int} {k w : Int} : fJ 2 ws k w = true ↔ eo ws 1 = true := by
 constructor
 ·intro h
  obtain ⟨h1, h2, h3, h4⟩ := lk (n := 1) (by decide) h
  exact js h1 h2 (.inl (by omega))
 ·intro h
  obtain ⟨h1, h2, _⟩ := be h
  exact rz (n := 1) (by decide) h1 h2 (ck h (by omega))
theorem Ao {op : Int} (hop : 3 ≤ op ∧ op ≤ 7) {ws : List Int} {k w : Int} : a8 op ws k w = bA ws := by
 have : op = 3 ∨ op = 4 ∨ op = 5 ∨ op = 6 ∨ op = 7 := by omega
 rcases this with rfl | rfl | rfl | rfl | rfl <;> rfl
theorem xy {op : Int} (hop : 3 ≤ op ∧ op ≤ 9) : bc op = (2 : Nat) := by
 have : op = 3 ∨ op = 4 ∨ op = 5 ∨ op = 6 ∨ op = 7 ∨ op = 8 ∨ op = 9 := by omega
 rcases this with rfl | rfl | rfl | rfl | rfl | rfl | rfl <;> decide
theorem fB {op : Int} (hop : 3 ≤ op ∧ op ≤ 7) {ws : List Int} {k w : Int} : fJ op ws k w = true ↔ eo ws 2 = true := by
 constructor
 ·intro h
  obtain ⟨h1, h2, h3, h4⟩ := lk (n := 2) (xy (by omega)) h
  rw [Ao hop] at h3
  exact js h1 h2 (.inr (v5 h3))
 ·intro h
  obtain ⟨h1, h2, h3⟩ := be h
  refine rz (n := 2) (xy (by omega)) h1 h2 ?_
  rw [Ao hop, t6 (by rcases h3 with h3 | h3; omega; exact h3)]
  exact ck h (by omega)
theorem pB {op : Int} (hop : 3 ≤ op ∧ op ≤ 7) {ws : List Int} {k w : Int} (h : eo ws 2 = true) : a8 op ws k w = ws.getD 0 0 := by
 obtain ⟨h1, h2, h3⟩ := be h
 rw [Ao hop, t6 (by rcases h3 with h3 | h3; omega; exact h3)]
theorem Fq {op : Int} (hop : op = 8 ∨ op = 9) {ws : List Int} {k w : Int} : a8 op ws k w = min (bA ws) 1 := by
 rcases hop with rfl | rfl <;> rfl
theorem xz {op : Int} (hop : op = 8 ∨ op = 9) {ws : List Int} {k w : Int} (h : eo ws 2 = true) : a8 op ws k w = 1 := by
 obtain ⟨h1, h2, h3⟩ := be h
 have := aP.1 (ck h (i := 0) (by omega))
 rw [Fq hop, t6 (by rcases h3 with h3 | h3; omega; exact h3)]
 omega
theorem so {op : Int} (hop : op = 8 ∨ op = 9) {ws : List Int} {k w : Int} : fJ op ws k w = true ↔ eo ws 2 = true := by
 constructor
 ·intro h
  obtain ⟨h1, h2, h3, h4⟩ := lk (n := 2) (xy (by omega)) h
  rw [Fq hop] at h3
  exact js h1 h2 (.inr (v5 (by omega)))
 ·intro h
  obtain ⟨h1, h2, h3⟩ := be h
  refine rz (n := 2) (xy (by omega)) h1 h2 ?_
  rw [xz hop h]
  decide
theorem BS {ws : List Int} {k w : Int} (h : eo ws 3 = true) (h0 : ws.getD 0 0 = 1) : a8 10 ws k w = ws.getD 1 0 := by
 obtain ⟨h1, h2, h3⟩ := be h
 show (if ws.getD 0 0 ≠ 1 ∨ ws.getD 1 0 ≠ ws.getD 2 0 then (0 : Int) else ws.getD 1 0) = _
 have h3 : ws.getD 2 0 = ws.getD 1 0 := by rcases h3 with h3 | h3; omega; exact h3
 rw [if_neg (by rw [h0, h3]; simp)]
theorem G0 {ws : List Int} {k w : Int} : fJ 10 ws k w = true ↔ (eo ws 3 = true ∧ ws.getD 0 0 = 1) := by
 have e : a8 10 ws k w = (if ws.getD 0 0 ≠ 1 ∨ ws.getD 1 0 ≠ ws.getD 2 0 then 0 else ws.getD 1 0) := rfl
 constructor
 ·intro h
  obtain ⟨h1, h2, h3, h4⟩ := lk (n := 3) (by decide) h
  rw [e] at h3
  split at h3
  ·omega
  ·rename_i hn
   simp only [not_or, ne_eq, Decidable.not_not] at hn
   exact ⟨js h1 h2 (.inr hn.2.symm), hn.1⟩
 ·intro ⟨h, h0⟩
  obtain ⟨h1, h2, h3⟩ := be h
  refine rz (n := 3) (by decide) h1 h2 ?_
  rw [BS h h0]
  exact ck h (by omega)
theorem G1 {ws : List Int} {k w : Int} : fJ 11 ws k w = true ↔ (ws.length = 2 ∧ an (ws.getD 0 0) = true ∧ an (ws.getD 1 0) = true ∧ an (ws.getD 0 0 + ws.getD 1 0) = true) := by
 constructor
 ·intro h
  obtain ⟨h1, h2, h3, h4⟩ := lk (n := 2) (by decide) h
  exact ⟨h1, aP.2 (ax h2 (by omega)), aP.2 (ax h2 (by omega)), aP.2 ⟨h3, h4⟩⟩
 ·intro ⟨h1, h2, h3, h4⟩
  refine rz (n := 2) (by decide) h1 (GY (fun i hi => ?_)) h4
  match i, hi with
  | 0, _ => exact h2
  | 1, _ => exact h3
  | i + 2, hi => omega
theorem v6 {ws : List Int} {k w : Int} (h2 : an w = true) (h3 : 0 ≤ k) (h4 : k ≤ ws.getD 0 0 - w) : a8 12 ws k w = w := by
 show (if an w = false ∨ k < 0 ∨ ws.getD 0 0 - w < k then 0 else w) = w
 rw [if_neg (by rintro (h | h | h) <;> first | omega | (rw [h2] at h; cases h))]
theorem Df {ws : List Int} {k w : Int} : fJ 12 ws k w = true ↔ (eo ws 1 = true ∧ an w = true ∧ 0 ≤ k ∧ k ≤ ws.getD 0 0 - w) := by
 have e : a8 12 ws k w = (if an w = false ∨ k < 0 ∨ ws.getD 0 0 - w < k then 0 else w) := rfl
 constructor
 ·intro h
  obtain ⟨h1, h2, h3, h4⟩ := lk (n := 1) (by decide) h
  rw [e] at h3
  split at h3
  ·omega
  ·rename_i hn
   simp only [not_or, Bool.not_eq_false] at hn
   exact ⟨js h1 h2 (.inl (by omega)), hn.1, by omega, by omega⟩
 ·intro ⟨h, h2, h3, h4⟩
  obtain ⟨h1, hf, _⟩ := be h
  refine rz (n := 1) (by decide) h1 hf ?_
  rw [v6 h2 h3 h4]
  exact h2
theorem BT {ws : List Int} {k w : Int} (h : ws.getD 0 0 ≤ w) : a8 13 ws k w = w := by
 show (if w < ws.getD 0 0 then 0 else w) = w
 rw [if_neg (by omega)]
theorem G2 {ws : List Int} {k w : Int} : fJ 13 ws k w = true ↔ (eo ws 1 = true ∧ ws.getD 0 0 ≤ w ∧ an w = true) := by
 have e : a8 13 ws k w = (if w < ws.getD 0 0 then 0 else w) := rfl
 constructor
 ·intro h
  obtain ⟨h1, h2, h3, h4⟩ := lk (n := 1) (by decide) h
  have h5 := aP.2 ⟨h3, h4⟩
  rw [e] at h3 h5
  split at h3
  ·omega
  ·rename_i hn
   rw [if_neg hn] at h5
   exact ⟨js h1 h2 (.inl (by omega)), by omega, h5⟩
 ·intro ⟨h, h2, h3⟩
  obtain ⟨h1, hf, _⟩ := be h
  refine rz (n := 1) (by decide) h1 hf ?_
  rw [BT h2]
  exact h3
theorem G3 {x w : Int} (hw : 0 ≤ w ∧ w ≤ 8) (hx : 0 ≤ x ∧ x ≤ ah w) : ah w - x = ((x.toNat ^^^ (ah w).toNat : Nat) : Int) := by
 obtain ⟨n, rfl⟩ := Int.eq_ofNat_of_zero_le hw.1
 obtain ⟨y, rfl⟩ := Int.eq_ofNat_of_zero_le hx.1
 have hp := Nat.two_pow_pos n
 rw [JX (by omega)] at hx ⊢
 have hy : y < 2 ^ n := by omega
 rw [Int.toNat_natCast, Int.toNat_natCast]
 have e : y ^^^ (2 ^ n - 1) = 2 ^ n - 1 - y := by
  refine Nat.eq_of_testBit_eq (fun i => ?_)
  rw [Nat.testBit_xor, Nat.testBit_two_pow_sub_one, GX hy]
  by_cases hi : i < n
  ·simp [hi]
  ·have : y.testBit i = false := Nat.testBit_lt_two_pow (Nat.lt_of_lt_of_le hy (Nat.pow_le_pow_right (by omega) (by omega)))
   simp [hi, this]
 rw [e]
 omega
theorem yW {s w : Int} (hw : 0 ≤ w ∧ w ≤ 8) (hs : 0 ≤ s) : Int.tmod s (ah w + 1) = s % 2 ^ w.toNat := by
 rw [Int.tmod_eq_emod_of_nonneg hs, cr (by omega) (by omega)]
 congr 1
 omega
theorem G4 {a b w : Int} (hw : 0 ≤ w ∧ w ≤ 8) (hs : 0 ≤ a - b + ah w + 1) : Int.tmod (a - b + ah w + 1) (ah w + 1) = (a - b) % 2 ^ w.toNat := by
 rw [yW hw hs, cr (by omega) (by omega), show a - b + (2 ^ w.toNat - 1) + 1 = a - b + 2 ^ w.toNat from by omega, Int.add_emod_right]
end Go.Proofs.YtgmpoenfoacofaaGreat
