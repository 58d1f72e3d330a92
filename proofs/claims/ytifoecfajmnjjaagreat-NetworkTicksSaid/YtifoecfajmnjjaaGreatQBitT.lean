/-
  Operators on bits, plain law: the reference's words.
-/
import Derived.Test.YtifoecfajmnjjaaGreatQBitR
namespace Go.Proofs.YtifoecfajmnjjaaGreat
open Go.RowKit
set_option linter.unusedVariables false
set_option linter.unusedSimpArgs false
def ew (ws : List Int) (n : Nat) : Bool := decide (ws.length = n) && ws.all an && (decide (n < 2) || decide (ws.getD (n - 1) 0 = ws.getD (n - 2) 0))
theorem Fe {ws : List Int} (h : ∀ i, i < ws.length → an (ws.getD i 0) = true) : ws.all an = true := by
 rw [List.all_eq_true]
 intro x hx
 obtain ⟨i, hi, rfl⟩ := List.getElem_of_mem hx
 have := h i hi
 simpa [List.getD, List.getElem?_eq_getElem hi] using this
theorem bl {ws : List Int} {n : Nat} (h : ew ws n = true) : ws.length = n ∧ ws.all an = true ∧ (n < 2 ∨ ws.getD (n - 1) 0 = ws.getD (n - 2) 0) := by
 unfold ew at h
 simp only [Bool.and_eq_true, Bool.or_eq_true, decide_eq_true_eq] at h
 exact ⟨h.1.1, h.1.2, h.2⟩
theorem cF {ws : List Int} {n i : Nat} (h : ew ws n = true) (hi : i < n) : an (ws.getD i 0) = true := by
 obtain ⟨h1, h2, _⟩ := bl h
 exact aU.2 (aD h2 (by omega))
theorem fF {ws : List Int} (h : ew ws 2 = true) : ws.getD 1 0 = ws.getD 0 0 := by
 rcases (bl h).2.2 with h | h
 ·omega
 ·exact h
theorem fG {op : Int} {ws : List Int} {k w out : Int} (h : fT op ws k w = true) (e : bf op ws k w = out) : out = bS op ws k w ∧ (0 : Int) = iW op ws k w := by
 unfold bS iW; rw [h, e]; exact ⟨rfl, rfl⟩
theorem qL {op : Int} {ws : List Int} {k w : Int} {n : Nat} (ha : bi op = n) (h1 : ws.length = n) (h2 : ws.all an = true) (h3 : an (bf op ws k w) = true) : fT op ws k w = true := by
 unfold fT; rw [ha, decide_eq_true (by omega), h2, h3]; rfl
theorem ln {op : Int} {ws : List Int} {k w : Int} {n : Nat} (ha : bi op = n) (h : fT op ws k w = true) : ws.length = n ∧ ws.all an = true ∧ 1 ≤ bf op ws k w ∧ bf op ws k w ≤ 8 := by
 obtain ⟨h1, h2, h3⟩ := iX h
 rw [ha] at h1
 have := aU.1 h3
 exact ⟨by omega, h2, this.1, this.2⟩
theorem sM {op : Int} {ws : List Int} {k w : Int} (h : fT op ws k w = true) : op = 1 ∨ op = 2 ∨ op = 3 ∨ op = 4 ∨ op = 5 ∨ op = 6 ∨ op = 7 ∨ op = 8 ∨ op = 9 ∨ op = 10 ∨ op = 11 ∨ op = 12 ∨ op = 13 := by
 rcases Decidable.em (op < 1 ∨ 13 < op) with hh | hh
 ·rw [EM hh] at h; cases h
 ·omega
theorem sN {ws : List Int} (h : ws.getD 1 0 = ws.getD 0 0) : bJ ws = ws.getD 0 0 := by
 unfold bJ; rw [if_neg (by rw [h]; simp)]
theorem ud {ws : List Int} (h : 1 ≤ bJ ws) : ws.getD 1 0 = ws.getD 0 0 := by
 unfold bJ at h; split at h
 ·omega
 ·rename_i hn; exact (Decidable.not_not.1 hn).symm
theorem js {ws : List Int} {n : Nat} (h1 : ws.length = n) (h2 : ws.all an = true) (h3 : n < 2 ∨ ws.getD (n - 1) 0 = ws.getD (n - 2) 0) : ew ws n = true := by
 unfold ew; rw [decide_eq_true h1, h2]
 rcases h3 with h3 | h3
 ·rw [decide_eq_true h3]; rfl
 ·rw [decide_eq_true h3]; simp
theorem BE {ws : List Int} {k w : Int} : fT 1 ws k w = true ↔ (ws.length = 0 ∧ an w = true ∧ 0 ≤ k ∧ k ≤ ah w) := by
 have e : bf 1 ws k w = (if an w = false ∨ k < 0 ∨ ah w < k then 0 else w) := rfl
 constructor
 ·intro h
  obtain ⟨h1, h2, h3, h4⟩ := ln (n := 0) (by decide) h
  rw [e] at h3
  split at h3
  ·omega
  ·rename_i hn
   simp only [not_or, Bool.not_eq_false] at hn
   exact ⟨h1, hn.1, by omega, by omega⟩
 ·intro ⟨h1, h2, h3, h4⟩
  refine qL (n := 0) (by decide) h1 (by rw [List.eq_nil_of_length_eq_zero h1]; rfl) ?_
  rw [e, if_neg (by rw [h2]; simp; omega)]
  exact h2
theorem DS {ws : List Int} {k w : Int} (h2 : an w = true) (h3 : 0 ≤ k) (h4 : k ≤ ah w) : bf 1 ws k w = w := by
 show (if an w = false ∨ k < 0 ∨ ah w < k then 0 else w) = w
 rw [if_neg (by rw [h2]; simp; omega)]
theorem Ff {ws : List Int} {k w : Int} : fT 2 ws k w = true ↔ ew ws 1 = true := by
 constructor
 ·intro h
  obtain ⟨h1, h2, h3, h4⟩ := ln (n := 1) (by decide) h
  exact js h1 h2 (.inl (by omega))
 ·intro h
  obtain ⟨h1, h2, _⟩ := bl h
  exact qL (n := 1) (by decide) h1 h2 (cF h (by omega))
theorem y4 {op : Int} (hop : 3 ≤ op ∧ op ≤ 7) {ws : List Int} {k w : Int} : bf op ws k w = bJ ws := by
 have : op = 3 ∨ op = 4 ∨ op = 5 ∨ op = 6 ∨ op = 7 := by omega
 rcases this with rfl | rfl | rfl | rfl | rfl <;> rfl
theorem vN {op : Int} (hop : 3 ≤ op ∧ op ≤ 9) : bi op = (2 : Nat) := by
 have : op = 3 ∨ op = 4 ∨ op = 5 ∨ op = 6 ∨ op = 7 ∨ op = 8 ∨ op = 9 := by omega
 rcases this with rfl | rfl | rfl | rfl | rfl | rfl | rfl <;> decide
theorem fO {op : Int} (hop : 3 ≤ op ∧ op ≤ 7) {ws : List Int} {k w : Int} : fT op ws k w = true ↔ ew ws 2 = true := by
 constructor
 ·intro h
  obtain ⟨h1, h2, h3, h4⟩ := ln (n := 2) (vN (by omega)) h
  rw [y4 hop] at h3
  exact js h1 h2 (.inr (ud h3))
 ·intro h
  obtain ⟨h1, h2, h3⟩ := bl h
  refine qL (n := 2) (vN (by omega)) h1 h2 ?_
  rw [y4 hop, sN (by rcases h3 with h3 | h3; omega; exact h3)]
  exact cF h (by omega)
theorem pi {op : Int} (hop : 3 ≤ op ∧ op ≤ 7) {ws : List Int} {k w : Int} (h : ew ws 2 = true) : bf op ws k w = ws.getD 0 0 := by
 obtain ⟨h1, h2, h3⟩ := bl h
 rw [y4 hop, sN (by rcases h3 with h3 | h3; omega; exact h3)]
theorem DT {op : Int} (hop : op = 8 ∨ op = 9) {ws : List Int} {k w : Int} : bf op ws k w = min (bJ ws) 1 := by
 rcases hop with rfl | rfl <;> rfl
theorem vO {op : Int} (hop : op = 8 ∨ op = 9) {ws : List Int} {k w : Int} (h : ew ws 2 = true) : bf op ws k w = 1 := by
 obtain ⟨h1, h2, h3⟩ := bl h
 have := aU.1 (cF h (i := 0) (by omega))
 rw [DT hop, sN (by rcases h3 with h3 | h3; omega; exact h3)]
 omega
theorem rn {op : Int} (hop : op = 8 ∨ op = 9) {ws : List Int} {k w : Int} : fT op ws k w = true ↔ ew ws 2 = true := by
 constructor
 ·intro h
  obtain ⟨h1, h2, h3, h4⟩ := ln (n := 2) (vN (by omega)) h
  rw [DT hop] at h3
  exact js h1 h2 (.inr (ud (by omega)))
 ·intro h
  obtain ⟨h1, h2, h3⟩ := bl h
  refine qL (n := 2) (vN (by omega)) h1 h2 ?_
  rw [vO hop h]
  decide
theorem An {ws : List Int} {k w : Int} (h : ew ws 3 = true) (h0 : ws.getD 0 0 = 1) : bf 10 ws k w = ws.getD 1 0 := by
 obtain ⟨h1, h2, h3⟩ := bl h
 show (if ws.getD 0 0 ≠ 1 ∨ ws.getD 1 0 ≠ ws.getD 2 0 then (0 : Int) else ws.getD 1 0) = _
 have h3 : ws.getD 2 0 = ws.getD 1 0 := by rcases h3 with h3 | h3; omega; exact h3
 rw [if_neg (by rw [h0, h3]; simp)]
theorem Fg {ws : List Int} {k w : Int} : fT 10 ws k w = true ↔ (ew ws 3 = true ∧ ws.getD 0 0 = 1) := by
 have e : bf 10 ws k w = (if ws.getD 0 0 ≠ 1 ∨ ws.getD 1 0 ≠ ws.getD 2 0 then 0 else ws.getD 1 0) := rfl
 constructor
 ·intro h
  obtain ⟨h1, h2, h3, h4⟩ := ln (n := 3) (by decide) h
  rw [e] at h3
  split at h3
  ·omega
  ·rename_i hn
   simp only [not_or, ne_eq, Decidable.not_not] at hn
   exact ⟨js h1 h2 (.inr hn.2.symm), hn.1⟩
 ·intro ⟨h, h0⟩
  obtain ⟨h1, h2, h3⟩ := bl h
  refine qL (n := 3) (by decide) h1 h2 ?_
  rw [An h h0]
  exact cF h (by omega)
theorem Fh {ws : List Int} {k w : Int} : fT 11 ws k w = true ↔ (ws.length = 2 ∧ an (ws.getD 0 0) = true ∧ an (ws.getD 1 0) = true ∧ an (ws.getD 0 0 + ws.getD 1 0) = true) := by
 constructor
 ·intro h
  obtain ⟨h1, h2, h3, h4⟩ := ln (n := 2) (by decide) h
  exact ⟨h1, aU.2 (aD h2 (by omega)), aU.2 (aD h2 (by omega)), aU.2 ⟨h3, h4⟩⟩
 ·intro ⟨h1, h2, h3, h4⟩
  refine qL (n := 2) (by decide) h1 (Fe (fun i hi => ?_)) h4
  match i, hi with
  | 0, _ => exact h2
  | 1, _ => exact h3
  | i + 2, hi => omega
theorem ue {ws : List Int} {k w : Int} (h2 : an w = true) (h3 : 0 ≤ k) (h4 : k ≤ ws.getD 0 0 - w) : bf 12 ws k w = w := by
 show (if an w = false ∨ k < 0 ∨ ws.getD 0 0 - w < k then 0 else w) = w
 rw [if_neg (by rintro (h | h | h) <;> first | omega | (rw [h2] at h; cases h))]
theorem BF {ws : List Int} {k w : Int} : fT 12 ws k w = true ↔ (ew ws 1 = true ∧ an w = true ∧ 0 ≤ k ∧ k ≤ ws.getD 0 0 - w) := by
 have e : bf 12 ws k w = (if an w = false ∨ k < 0 ∨ ws.getD 0 0 - w < k then 0 else w) := rfl
 constructor
 ·intro h
  obtain ⟨h1, h2, h3, h4⟩ := ln (n := 1) (by decide) h
  rw [e] at h3
  split at h3
  ·omega
  ·rename_i hn
   simp only [not_or, Bool.not_eq_false] at hn
   exact ⟨js h1 h2 (.inl (by omega)), hn.1, by omega, by omega⟩
 ·intro ⟨h, h2, h3, h4⟩
  obtain ⟨h1, hf, _⟩ := bl h
  refine qL (n := 1) (by decide) h1 hf ?_
  rw [ue h2 h3 h4]
  exact h2
theorem Ao {ws : List Int} {k w : Int} (h : ws.getD 0 0 ≤ w) : bf 13 ws k w = w := by
 show (if w < ws.getD 0 0 then 0 else w) = w
 rw [if_neg (by omega)]
theorem Fj {ws : List Int} {k w : Int} : fT 13 ws k w = true ↔ (ew ws 1 = true ∧ ws.getD 0 0 ≤ w ∧ an w = true) := by
 have e : bf 13 ws k w = (if w < ws.getD 0 0 then 0 else w) := rfl
 constructor
 ·intro h
  obtain ⟨h1, h2, h3, h4⟩ := ln (n := 1) (by decide) h
  have h5 := aU.2 ⟨h3, h4⟩
  rw [e] at h3 h5
  split at h3
  ·omega
  ·rename_i hn
   rw [if_neg hn] at h5
   exact ⟨js h1 h2 (.inl (by omega)), by omega, h5⟩
 ·intro ⟨h, h2, h3⟩
  obtain ⟨h1, hf, _⟩ := bl h
  refine qL (n := 1) (by decide) h1 hf ?_
  rw [Ao h2]
  exact h3
theorem Fk {x w : Int} (hw : 0 ≤ w ∧ w ≤ 8) (hx : 0 ≤ x ∧ x ≤ ah w) : ah w - x = ((x.toNat ^^^ (ah w).toNat : Nat) : Int) := by
 obtain ⟨n, rfl⟩ := Int.eq_ofNat_of_zero_le hw.1
 obtain ⟨y, rfl⟩ := Int.eq_ofNat_of_zero_le hx.1
 have hp := Nat.two_pow_pos n
 rw [HV (by omega)] at hx ⊢
 have hy : y < 2 ^ n := by omega
 rw [Int.toNat_natCast, Int.toNat_natCast]
 have e : y ^^^ (2 ^ n - 1) = 2 ^ n - 1 - y := by
  refine Nat.eq_of_testBit_eq (fun i => ?_)
  rw [Nat.testBit_xor, Nat.testBit_two_pow_sub_one, Fd hy]
  by_cases hi : i < n
  ·simp [hi]
  ·have : y.testBit i = false := Nat.testBit_lt_two_pow (Nat.lt_of_lt_of_le hy (Nat.pow_le_pow_right (by omega) (by omega)))
   simp [hi, this]
 rw [e]
 omega
theorem xo {s w : Int} (hw : 0 ≤ w ∧ w ≤ 8) (hs : 0 ≤ s) : Int.tmod s (ah w + 1) = s % 2 ^ w.toNat := by
 rw [Int.tmod_eq_emod_of_nonneg hs, cu (by omega) (by omega)]
 congr 1
 omega
theorem Fl {a b w : Int} (hw : 0 ≤ w ∧ w ≤ 8) (hs : 0 ≤ a - b + ah w + 1) : Int.tmod (a - b + ah w + 1) (ah w + 1) = (a - b) % 2 ^ w.toNat := by
 rw [xo hw hs, cu (by omega) (by omega), show a - b + (2 ^ w.toNat - 1) + 1 = a - b + 2 ^ w.toNat from by omega, Int.add_emod_right]
end Go.Proofs.YtifoecfajmnjjaaGreat
