/-
  Operators on bits, plain law: the reference's words.
-/
import Derived.Test.YtifoecfajmnjjaaGreatQBitR
namespace Go.Proofs.YtifoecfajmnjjaaGreat
open Go.RowKit
set_option linter.unusedVariables false
set_option linter.unusedSimpArgs false
def eH (ws : List Int) (n : Nat) : Bool := decide (ws.length = n) && ws.all au && (decide (n < 2) || decide (ws.getD (n - 1) 0 = ws.getD (n - 2) 0))
theorem Gm {ws : List Int} (h : ∀ i, i < ws.length → au (ws.getD i 0) = true) : ws.all au = true := by
 rw [List.all_eq_true]
 intro x hx
 obtain ⟨i, hi, rfl⟩ := List.getElem_of_mem hx
 have := h i hi
 simpa [List.getD, List.getElem?_eq_getElem hi] using this
theorem bn {ws : List Int} {n : Nat} (h : eH ws n = true) : ws.length = n ∧ ws.all au = true ∧ (n < 2 ∨ ws.getD (n - 1) 0 = ws.getD (n - 2) 0) := by
 unfold eH at h
 simp only [Bool.and_eq_true, Bool.or_eq_true, decide_eq_true_eq] at h
 exact ⟨h.1.1, h.1.2, h.2⟩
theorem cH {ws : List Int} {n i : Nat} (h : eH ws n = true) (hi : i < n) : au (ws.getD i 0) = true := by
 obtain ⟨h1, h2, _⟩ := bn h
 exact aW.2 (aC h2 (by omega))
theorem fT {ws : List Int} (h : eH ws 2 = true) : ws.getD 1 0 = ws.getD 0 0 := by
 rcases (bn h).2.2 with h | h
 ·omega
 ·exact h
theorem fU {op : Int} {ws : List Int} {k w out : Int} (h : gi op ws k w = true) (e : bi op ws k w = out) : out = bU op ws k w ∧ (0 : Int) = jl op ws k w := by
 unfold bU jl; rw [h, e]; exact ⟨rfl, rfl⟩
theorem rG {op : Int} {ws : List Int} {k w : Int} {n : Nat} (ha : bk op = n) (h1 : ws.length = n) (h2 : ws.all au = true) (h3 : au (bi op ws k w) = true) : gi op ws k w = true := by
 unfold gi; rw [ha, decide_eq_true (by omega), h2, h3]; rfl
theorem lU {op : Int} {ws : List Int} {k w : Int} {n : Nat} (ha : bk op = n) (h : gi op ws k w = true) : ws.length = n ∧ ws.all au = true ∧ 1 ≤ bi op ws k w ∧ bi op ws k w ≤ 8 := by
 obtain ⟨h1, h2, h3⟩ := jm h
 rw [ha] at h1
 have := aW.1 h3
 exact ⟨by omega, h2, this.1, this.2⟩
theorem tF {op : Int} {ws : List Int} {k w : Int} (h : gi op ws k w = true) : op = 1 ∨ op = 2 ∨ op = 3 ∨ op = 4 ∨ op = 5 ∨ op = 6 ∨ op = 7 ∨ op = 8 ∨ op = 9 ∨ op = 10 ∨ op = 11 ∨ op = 12 ∨ op = 13 := by
 rcases Decidable.em (op < 1 ∨ 13 < op) with hh | hh
 ·rw [FY hh] at h; cases h
 ·omega
theorem tG {ws : List Int} (h : ws.getD 1 0 = ws.getD 0 0) : bJ ws = ws.getD 0 0 := by
 unfold bJ; rw [if_neg (by rw [h]; simp)]
theorem vq {ws : List Int} (h : 1 ≤ bJ ws) : ws.getD 1 0 = ws.getD 0 0 := by
 unfold bJ at h; split at h
 ·omega
 ·rename_i hn; exact (Decidable.not_not.1 hn).symm
theorem jJ {ws : List Int} {n : Nat} (h1 : ws.length = n) (h2 : ws.all au = true) (h3 : n < 2 ∨ ws.getD (n - 1) 0 = ws.getD (n - 2) 0) : eH ws n = true := by
 unfold eH; rw [decide_eq_true h1, h2]
 rcases h3 with h3 | h3
 ·rw [decide_eq_true h3]; rfl
 ·rw [decide_eq_true h3]; simp
theorem CW {ws : List Int} {k w : Int} : gi 1 ws k w = true ↔ (ws.length = 0 ∧ au w = true ∧ 0 ≤ k ∧ k ≤ aj w) := by
 have e : bi 1 ws k w = (if au w = false ∨ k < 0 ∨ aj w < k then 0 else w) := rfl
 constructor
 ·intro h
  obtain ⟨h1, h2, h3, h4⟩ := lU (n := 0) (by decide) h
  rw [e] at h3
  split at h3
  ·omega
  ·rename_i hn
   simp only [not_or, Bool.not_eq_false] at hn
   exact ⟨h1, hn.1, by omega, by omega⟩
 ·intro ⟨h1, h2, h3, h4⟩
  refine rG (n := 0) (by decide) h1 (by rw [List.eq_nil_of_length_eq_zero h1]; rfl) ?_
  rw [e, if_neg (by rw [h2]; simp; omega)]
  exact h2
theorem E4 {ws : List Int} {k w : Int} (h2 : au w = true) (h3 : 0 ≤ k) (h4 : k ≤ aj w) : bi 1 ws k w = w := by
 show (if au w = false ∨ k < 0 ∨ aj w < k then 0 else w) = w
 rw [if_neg (by rw [h2]; simp; omega)]
theorem Gn {ws : List Int} {k w : Int} : gi 2 ws k w = true ↔ eH ws 1 = true := by
 constructor
 ·intro h
  obtain ⟨h1, h2, h3, h4⟩ := lU (n := 1) (by decide) h
  exact jJ h1 h2 (.inl (by omega))
 ·intro h
  obtain ⟨h1, h2, _⟩ := bn h
  exact rG (n := 1) (by decide) h1 h2 (cH h (by omega))
theorem Ah {op : Int} (hop : 3 ≤ op ∧ op ≤ 7) {ws : List Int} {k w : Int} : bi op ws k w = bJ ws := by
 have : op = 3 ∨ op = 4 ∨ op = 5 ∨ op = 6 ∨ op = 7 := by omega
 rcases this with rfl | rfl | rfl | rfl | rfl <;> rfl
theorem wU {op : Int} (hop : 3 ≤ op ∧ op ≤ 9) : bk op = (2 : Nat) := by
 have : op = 3 ∨ op = 4 ∨ op = 5 ∨ op = 6 ∨ op = 7 ∨ op = 8 ∨ op = 9 := by omega
 rcases this with rfl | rfl | rfl | rfl | rfl | rfl | rfl <;> decide
theorem ga {op : Int} (hop : 3 ≤ op ∧ op ≤ 7) {ws : List Int} {k w : Int} : gi op ws k w = true ↔ eH ws 2 = true := by
 constructor
 ·intro h
  obtain ⟨h1, h2, h3, h4⟩ := lU (n := 2) (wU (by omega)) h
  rw [Ah hop] at h3
  exact jJ h1 h2 (.inr (vq h3))
 ·intro h
  obtain ⟨h1, h2, h3⟩ := bn h
  refine rG (n := 2) (wU (by omega)) h1 h2 ?_
  rw [Ah hop, tG (by rcases h3 with h3 | h3; omega; exact h3)]
  exact cH h (by omega)
theorem pZ {op : Int} (hop : 3 ≤ op ∧ op ≤ 7) {ws : List Int} {k w : Int} (h : eH ws 2 = true) : bi op ws k w = ws.getD 0 0 := by
 obtain ⟨h1, h2, h3⟩ := bn h
 rw [Ah hop, tG (by rcases h3 with h3 | h3; omega; exact h3)]
theorem E5 {op : Int} (hop : op = 8 ∨ op = 9) {ws : List Int} {k w : Int} : bi op ws k w = min (bJ ws) 1 := by
 rcases hop with rfl | rfl <;> rfl
theorem wV {op : Int} (hop : op = 8 ∨ op = 9) {ws : List Int} {k w : Int} (h : eH ws 2 = true) : bi op ws k w = 1 := by
 obtain ⟨h1, h2, h3⟩ := bn h
 have := aW.1 (cH h (i := 0) (by omega))
 rw [E5 hop, tG (by rcases h3 with h3 | h3; omega; exact h3)]
 omega
theorem sj {op : Int} (hop : op = 8 ∨ op = 9) {ws : List Int} {k w : Int} : gi op ws k w = true ↔ eH ws 2 = true := by
 constructor
 ·intro h
  obtain ⟨h1, h2, h3, h4⟩ := lU (n := 2) (wU (by omega)) h
  rw [E5 hop] at h3
  exact jJ h1 h2 (.inr (vq (by omega)))
 ·intro h
  obtain ⟨h1, h2, h3⟩ := bn h
  refine rG (n := 2) (wU (by omega)) h1 h2 ?_
  rw [wV hop h]
  decide
theorem BD {ws : List Int} {k w : Int} (h : eH ws 3 = true) (h0 : ws.getD 0 0 = 1) : bi 10 ws k w = ws.getD 1 0 := by
 obtain ⟨h1, h2, h3⟩ := bn h
 show (if ws.getD 0 0 ≠ 1 ∨ ws.getD 1 0 ≠ ws.getD 2 0 then (0 : Int) else ws.getD 1 0) = _
 have h3 : ws.getD 2 0 = ws.getD 1 0 := by rcases h3 with h3 | h3; omega; exact h3
 rw [if_neg (by rw [h0, h3]; simp)]
theorem Gp {ws : List Int} {k w : Int} : gi 10 ws k w = true ↔ (eH ws 3 = true ∧ ws.getD 0 0 = 1) := by
 have e : bi 10 ws k w = (if ws.getD 0 0 ≠ 1 ∨ ws.getD 1 0 ≠ ws.getD 2 0 then 0 else ws.getD 1 0) := rfl
 constructor
 ·intro h
  obtain ⟨h1, h2, h3, h4⟩ := lU (n := 3) (by decide) h
  rw [e] at h3
  split at h3
  ·omega
  ·rename_i hn
   simp only [not_or, ne_eq, Decidable.not_not] at hn
   exact ⟨jJ h1 h2 (.inr hn.2.symm), hn.1⟩
 ·intro ⟨h, h0⟩
  obtain ⟨h1, h2, h3⟩ := bn h
  refine rG (n := 3) (by decide) h1 h2 ?_
  rw [BD h h0]
  exact cH h (by omega)
theorem Gq {ws : List Int} {k w : Int} : gi 11 ws k w = true ↔ (ws.length = 2 ∧ au (ws.getD 0 0) = true ∧ au (ws.getD 1 0) = true ∧ au (ws.getD 0 0 + ws.getD 1 0) = true) := by
 constructor
 ·intro h
  obtain ⟨h1, h2, h3, h4⟩ := lU (n := 2) (by decide) h
  exact ⟨h1, aW.2 (aC h2 (by omega)), aW.2 (aC h2 (by omega)), aW.2 ⟨h3, h4⟩⟩
 ·intro ⟨h1, h2, h3, h4⟩
  refine rG (n := 2) (by decide) h1 (Gm (fun i hi => ?_)) h4
  match i, hi with
  | 0, _ => exact h2
  | 1, _ => exact h3
  | i + 2, hi => omega
theorem vt {ws : List Int} {k w : Int} (h2 : au w = true) (h3 : 0 ≤ k) (h4 : k ≤ ws.getD 0 0 - w) : bi 12 ws k w = w := by
 show (if au w = false ∨ k < 0 ∨ ws.getD 0 0 - w < k then 0 else w) = w
 rw [if_neg (by rintro (h | h | h) <;> first | omega | (rw [h2] at h; cases h))]
theorem CX {ws : List Int} {k w : Int} : gi 12 ws k w = true ↔ (eH ws 1 = true ∧ au w = true ∧ 0 ≤ k ∧ k ≤ ws.getD 0 0 - w) := by
 have e : bi 12 ws k w = (if au w = false ∨ k < 0 ∨ ws.getD 0 0 - w < k then 0 else w) := rfl
 constructor
 ·intro h
  obtain ⟨h1, h2, h3, h4⟩ := lU (n := 1) (by decide) h
  rw [e] at h3
  split at h3
  ·omega
  ·rename_i hn
   simp only [not_or, Bool.not_eq_false] at hn
   exact ⟨jJ h1 h2 (.inl (by omega)), hn.1, by omega, by omega⟩
 ·intro ⟨h, h2, h3, h4⟩
  obtain ⟨h1, hf, _⟩ := bn h
  refine rG (n := 1) (by decide) h1 hf ?_
  rw [vt h2 h3 h4]
  exact h2
theorem BE {ws : List Int} {k w : Int} (h : ws.getD 0 0 ≤ w) : bi 13 ws k w = w := by
 show (if w < ws.getD 0 0 then 0 else w) = w
 rw [if_neg (by omega)]
theorem Gr {ws : List Int} {k w : Int} : gi 13 ws k w = true ↔ (eH ws 1 = true ∧ ws.getD 0 0 ≤ w ∧ au w = true) := by
 have e : bi 13 ws k w = (if w < ws.getD 0 0 then 0 else w) := rfl
 constructor
 ·intro h
  obtain ⟨h1, h2, h3, h4⟩ := lU (n := 1) (by decide) h
  have h5 := aW.2 ⟨h3, h4⟩
  rw [e] at h3 h5
  split at h3
  ·omega
  ·rename_i hn
   rw [if_neg hn] at h5
   exact ⟨jJ h1 h2 (.inl (by omega)), by omega, h5⟩
 ·intro ⟨h, h2, h3⟩
  obtain ⟨h1, hf, _⟩ := bn h
  refine rG (n := 1) (by decide) h1 hf ?_
  rw [BE h2]
  exact h3
theorem Gs {x w : Int} (hw : 0 ≤ w ∧ w ≤ 8) (hx : 0 ≤ x ∧ x ≤ aj w) : aj w - x = ((x.toNat ^^^ (aj w).toNat : Nat) : Int) := by
 obtain ⟨n, rfl⟩ := Int.eq_ofNat_of_zero_le hw.1
 obtain ⟨y, rfl⟩ := Int.eq_ofNat_of_zero_le hx.1
 have hp := Nat.two_pow_pos n
 rw [Ji (by omega)] at hx ⊢
 have hy : y < 2 ^ n := by omega
 rw [Int.toNat_natCast, Int.toNat_natCast]
 have e : y ^^^ (2 ^ n - 1) = 2 ^ n - 1 - y := by
  refine Nat.eq_of_testBit_eq (fun i => ?_)
  rw [Nat.testBit_xor, Nat.testBit_two_pow_sub_one, Gl hy]
  by_cases hi : i < n
  ·simp [hi]
  ·have : y.testBit i = false := Nat.testBit_lt_two_pow (Nat.lt_of_lt_of_le hy (Nat.pow_le_pow_right (by omega) (by omega)))
   simp [hi, this]
 rw [e]
 omega
theorem yw {s w : Int} (hw : 0 ≤ w ∧ w ≤ 8) (hs : 0 ≤ s) : Int.tmod s (aj w + 1) = s % 2 ^ w.toNat := by
 rw [Int.tmod_eq_emod_of_nonneg hs, cA (by omega) (by omega)]
 congr 1
 omega
theorem Gt {a b w : Int} (hw : 0 ≤ w ∧ w ≤ 8) (hs : 0 ≤ a - b + aj w + 1) : Int.tmod (a - b + aj w + 1) (aj w + 1) = (a - b) % 2 ^ w.toNat := by
 rw [yw hw hs, cA (by omega) (by omega), show a - b + (2 ^ w.toNat - 1) + 1 = a - b + 2 ^ w.toNat from by omega, Int.add_emod_right]
end Go.Proofs.YtifoecfajmnjjaaGreat
