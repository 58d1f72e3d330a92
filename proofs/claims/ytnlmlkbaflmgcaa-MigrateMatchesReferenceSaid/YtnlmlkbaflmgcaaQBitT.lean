/-
  Operators on bits, plain law: the reference's words.
-/
import Derived.Test.YtnlmlkbaflmgcaaQBitR
namespace Go.Proofs.Ytnlmlkbaflmgcaa
open Go.RowKit
set_option linter.unusedVariables false
set_option linter.unusedSimpArgs false
def ex (ws : List Int) (n : Nat) : Bool := decide (ws.length = n) && ws.all aI && (decide (n < 2) || decide (ws.getD (n - 1) 0 = ws.getD (n - 2) 0))
theorem GC {ws : List Int} (h : ∀ i, i < ws.length → aI (ws.getD i 0) = true) : ws.all aI = true := by
 rw [List.all_eq_true]
 intro x hx
 obtain ⟨i, hi, rfl⟩ := List.getElem_of_mem hx
 have := h i hi
 simpa [List.getD, List.getElem?_eq_getElem hi] using this
theorem a8 {ws : List Int} {n : Nat} (h : ex ws n = true) : ws.length = n ∧ ws.all aI = true ∧ (n < 2 ∨ ws.getD (n - 1) 0 = ws.getD (n - 2) 0) := by
 unfold ex at h
 simp only [Bool.and_eq_true, Bool.or_eq_true, decide_eq_true_eq] at h
 exact ⟨h.1.1, h.1.2, h.2⟩
theorem ci {ws : List Int} {n i : Nat} (h : ex ws n = true) (hi : i < n) : aI (ws.getD i 0) = true := by
 obtain ⟨h1, h2, _⟩ := a8 h
 exact aQ.2 (dX h2 (by omega))
theorem fV {ws : List Int} (h : ex ws 2 = true) : ws.getD 1 0 = ws.getD 0 0 := by
 rcases (a8 h).2.2 with h | h
 ·omega
 ·exact h
theorem fW {op : Int} {ws : List Int} {k w out : Int} (h : iP op ws k w = true) (e : fc op ws k w = out) : out = cx op ws k w ∧ (0 : Int) = C9 op ws k w := by
 unfold cx C9; rw [h, e]; exact ⟨rfl, rfl⟩
theorem qg {op : Int} {ws : List Int} {k w : Int} {n : Nat} (ha : cH op = n) (h1 : ws.length = n) (h2 : ws.all aI = true) (h3 : aI (fc op ws k w) = true) : iP op ws k w = true := by
 unfold iP; rw [ha, decide_eq_true (by omega), h2, h3]; rfl
theorem lj {op : Int} {ws : List Int} {k w : Int} {n : Nat} (ha : cH op = n) (h : iP op ws k w = true) : ws.length = n ∧ ws.all aI = true ∧ 1 ≤ fc op ws k w ∧ fc op ws k w ≤ 8 := by
 obtain ⟨h1, h2, h3⟩ := jU h
 rw [ha] at h1
 have := aQ.1 h3
 exact ⟨by omega, h2, this.1, this.2⟩
theorem sC {op : Int} {ws : List Int} {k w : Int} (h : iP op ws k w = true) : op = 1 ∨ op = 2 ∨ op = 3 ∨ op = 4 ∨ op = 5 ∨ op = 6 ∨ op = 7 ∨ op = 8 ∨ op = 9 ∨ op = 10 ∨ op = 11 ∨ op = 12 ∨ op = 13 := by
 rcases Decidable.em (op < 1 ∨ 13 < op) with hh | hh
 ·rw [FD hh] at h; cases h
 ·omega
theorem sD {ws : List Int} (h : ws.getD 1 0 = ws.getD 0 0) : b3 ws = ws.getD 0 0 := by
 unfold b3; rw [if_neg (by rw [h]; simp)]
theorem uv {ws : List Int} (h : 1 ≤ b3 ws) : ws.getD 1 0 = ws.getD 0 0 := by
 unfold b3 at h; split at h
 ·omega
 ·rename_i hn; exact (Decidable.not_not.1 hn).symm
theorem jD {ws : List Int} {n : Nat} (h1 : ws.length = n) (h2 : ws.all aI = true) (h3 : n < 2 ∨ ws.getD (n - 1) 0 = ws.getD (n - 2) 0) : ex ws n = true := by
 unfold ex; rw [decide_eq_true h1, h2]
 rcases h3 with h3 | h3
 ·rw [decide_eq_true h3]; rfl
 ·rw [decide_eq_true h3]; simp
theorem BV {ws : List Int} {k w : Int} : iP 1 ws k w = true ↔ (ws.length = 0 ∧ aI w = true ∧ 0 ≤ k ∧ k ≤ aG w) := by
 have e : fc 1 ws k w = (if aI w = false ∨ k < 0 ∨ aG w < k then 0 else w) := rfl
 constructor
 ·intro h
  obtain ⟨h1, h2, h3, h4⟩ := lj (n := 0) (by decide) h
  rw [e] at h3
  split at h3
  ·omega
  ·rename_i hn
   simp only [not_or, Bool.not_eq_false] at hn
   exact ⟨h1, hn.1, by omega, by omega⟩
 ·intro ⟨h1, h2, h3, h4⟩
  refine qg (n := 0) (by decide) h1 (by rw [List.eq_nil_of_length_eq_zero h1]; rfl) ?_
  rw [e, if_neg (by rw [h2]; simp; omega)]
  exact h2
theorem EK {ws : List Int} {k w : Int} (h2 : aI w = true) (h3 : 0 ≤ k) (h4 : k ≤ aG w) : fc 1 ws k w = w := by
 show (if aI w = false ∨ k < 0 ∨ aG w < k then 0 else w) = w
 rw [if_neg (by rw [h2]; simp; omega)]
theorem GD {ws : List Int} {k w : Int} : iP 2 ws k w = true ↔ ex ws 1 = true := by
 constructor
 ·intro h
  obtain ⟨h1, h2, h3, h4⟩ := lj (n := 1) (by decide) h
  exact jD h1 h2 (.inl (by omega))
 ·intro h
  obtain ⟨h1, h2, _⟩ := a8 h
  exact qg (n := 1) (by decide) h1 h2 (ci h (by omega))
theorem yT {op : Int} (hop : 3 ≤ op ∧ op ≤ 7) {ws : List Int} {k w : Int} : fc op ws k w = b3 ws := by
 have : op = 3 ∨ op = 4 ∨ op = 5 ∨ op = 6 ∨ op = 7 := by omega
 rcases this with rfl | rfl | rfl | rfl | rfl <;> rfl
theorem v4 {op : Int} (hop : 3 ≤ op ∧ op ≤ 9) : cH op = (2 : Nat) := by
 have : op = 3 ∨ op = 4 ∨ op = 5 ∨ op = 6 ∨ op = 7 ∨ op = 8 ∨ op = 9 := by omega
 rcases this with rfl | rfl | rfl | rfl | rfl | rfl | rfl <;> decide
theorem gg {op : Int} (hop : 3 ≤ op ∧ op ≤ 7) {ws : List Int} {k w : Int} : iP op ws k w = true ↔ ex ws 2 = true := by
 constructor
 ·intro h
  obtain ⟨h1, h2, h3, h4⟩ := lj (n := 2) (v4 (by omega)) h
  rw [yT hop] at h3
  exact jD h1 h2 (.inr (uv h3))
 ·intro h
  obtain ⟨h1, h2, h3⟩ := a8 h
  refine qg (n := 2) (v4 (by omega)) h1 h2 ?_
  rw [yT hop, sD (by rcases h3 with h3 | h3; omega; exact h3)]
  exact ci h (by omega)
theorem oM {op : Int} (hop : 3 ≤ op ∧ op ≤ 7) {ws : List Int} {k w : Int} (h : ex ws 2 = true) : fc op ws k w = ws.getD 0 0 := by
 obtain ⟨h1, h2, h3⟩ := a8 h
 rw [yT hop, sD (by rcases h3 with h3 | h3; omega; exact h3)]
theorem EL {op : Int} (hop : op = 8 ∨ op = 9) {ws : List Int} {k w : Int} : fc op ws k w = min (b3 ws) 1 := by
 rcases hop with rfl | rfl <;> rfl
theorem v5 {op : Int} (hop : op = 8 ∨ op = 9) {ws : List Int} {k w : Int} (h : ex ws 2 = true) : fc op ws k w = 1 := by
 obtain ⟨h1, h2, h3⟩ := a8 h
 have := aQ.1 (ci h (i := 0) (by omega))
 rw [EL hop, sD (by rcases h3 with h3 | h3; omega; exact h3)]
 omega
theorem qO {op : Int} (hop : op = 8 ∨ op = 9) {ws : List Int} {k w : Int} : iP op ws k w = true ↔ ex ws 2 = true := by
 constructor
 ·intro h
  obtain ⟨h1, h2, h3, h4⟩ := lj (n := 2) (v4 (by omega)) h
  rw [EL hop] at h3
  exact jD h1 h2 (.inr (uv (by omega)))
 ·intro h
  obtain ⟨h1, h2, h3⟩ := a8 h
  refine qg (n := 2) (v4 (by omega)) h1 h2 ?_
  rw [v5 hop h]
  decide
theorem AO {ws : List Int} {k w : Int} (h : ex ws 3 = true) (h0 : ws.getD 0 0 = 1) : fc 10 ws k w = ws.getD 1 0 := by
 obtain ⟨h1, h2, h3⟩ := a8 h
 show (if ws.getD 0 0 ≠ 1 ∨ ws.getD 1 0 ≠ ws.getD 2 0 then (0 : Int) else ws.getD 1 0) = _
 have h3 : ws.getD 2 0 = ws.getD 1 0 := by rcases h3 with h3 | h3; omega; exact h3
 rw [if_neg (by rw [h0, h3]; simp)]
theorem GE {ws : List Int} {k w : Int} : iP 10 ws k w = true ↔ (ex ws 3 = true ∧ ws.getD 0 0 = 1) := by
 have e : fc 10 ws k w = (if ws.getD 0 0 ≠ 1 ∨ ws.getD 1 0 ≠ ws.getD 2 0 then 0 else ws.getD 1 0) := rfl
 constructor
 ·intro h
  obtain ⟨h1, h2, h3, h4⟩ := lj (n := 3) (by decide) h
  rw [e] at h3
  split at h3
  ·omega
  ·rename_i hn
   simp only [not_or, ne_eq, Decidable.not_not] at hn
   exact ⟨jD h1 h2 (.inr hn.2.symm), hn.1⟩
 ·intro ⟨h, h0⟩
  obtain ⟨h1, h2, h3⟩ := a8 h
  refine qg (n := 3) (by decide) h1 h2 ?_
  rw [AO h h0]
  exact ci h (by omega)
theorem GF {ws : List Int} {k w : Int} : iP 11 ws k w = true ↔ (ws.length = 2 ∧ aI (ws.getD 0 0) = true ∧ aI (ws.getD 1 0) = true ∧ aI (ws.getD 0 0 + ws.getD 1 0) = true) := by
 constructor
 ·intro h
  obtain ⟨h1, h2, h3, h4⟩ := lj (n := 2) (by decide) h
  exact ⟨h1, aQ.2 (dX h2 (by omega)), aQ.2 (dX h2 (by omega)), aQ.2 ⟨h3, h4⟩⟩
 ·intro ⟨h1, h2, h3, h4⟩
  refine qg (n := 2) (by decide) h1 (GC (fun i hi => ?_)) h4
  match i, hi with
  | 0, _ => exact h2
  | 1, _ => exact h3
  | i + 2, hi => omega
theorem uw {ws : List Int} {k w : Int} (h2 : aI w = true) (h3 : 0 ≤ k) (h4 : k ≤ ws.getD 0 0 - w) : fc 12 ws k w = w := by
 show (if aI w = false ∨ k < 0 ∨ ws.getD 0 0 - w < k then 0 else w) = w
 rw [if_neg (by rintro (h | h | h) <;> first | omega | (rw [h2] at h; cases h))]
theorem BW {ws : List Int} {k w : Int} : iP 12 ws k w = true ↔ (ex ws 1 = true ∧ aI w = true ∧ 0 ≤ k ∧ k ≤ ws.getD 0 0 - w) := by
 have e : fc 12 ws k w = (if aI w = false ∨ k < 0 ∨ ws.getD 0 0 - w < k then 0 else w) := rfl
 constructor
 ·intro h
  obtain ⟨h1, h2, h3, h4⟩ := lj (n := 1) (by decide) h
  rw [e] at h3
  split at h3
  ·omega
  ·rename_i hn
   simp only [not_or, Bool.not_eq_false] at hn
   exact ⟨jD h1 h2 (.inl (by omega)), hn.1, by omega, by omega⟩
 ·intro ⟨h, h2, h3, h4⟩
  obtain ⟨h1, hf, _⟩ := a8 h
  refine qg (n := 1) (by decide) h1 hf ?_
  rw [uw h2 h3 h4]
  exact h2
theorem AP {ws : List Int} {k w : Int} (h : ws.getD 0 0 ≤ w) : fc 13 ws k w = w := by
 show (if w < ws.getD 0 0 then 0 else w) = w
 rw [if_neg (by omega)]
theorem GG {ws : List Int} {k w : Int} : iP 13 ws k w = true ↔ (ex ws 1 = true ∧ ws.getD 0 0 ≤ w ∧ aI w = true) := by
 have e : fc 13 ws k w = (if w < ws.getD 0 0 then 0 else w) := rfl
 constructor
 ·intro h
  obtain ⟨h1, h2, h3, h4⟩ := lj (n := 1) (by decide) h
  have h5 := aQ.2 ⟨h3, h4⟩
  rw [e] at h3 h5
  split at h3
  ·omega
  ·rename_i hn
   rw [if_neg hn] at h5
   exact ⟨jD h1 h2 (.inl (by omega)), by omega, h5⟩
 ·intro ⟨h, h2, h3⟩
  obtain ⟨h1, hf, _⟩ := a8 h
  refine qg (n := 1) (by decide) h1 hf ?_
  rw [AP h2]
  exact h3
theorem GH {x w : Int} (hw : 0 ≤ w ∧ w ≤ 8) (hx : 0 ≤ x ∧ x ≤ aG w) : aG w - x = ((x.toNat ^^^ (aG w).toNat : Nat) : Int) := by
 obtain ⟨n, rfl⟩ := Int.eq_ofNat_of_zero_le hw.1
 obtain ⟨y, rfl⟩ := Int.eq_ofNat_of_zero_le hx.1
 have hp := Nat.two_pow_pos n
 rw [Ki (by omega)] at hx ⊢
 have hy : y < 2 ^ n := by omega
 rw [Int.toNat_natCast, Int.toNat_natCast]
 have e : y ^^^ (2 ^ n - 1) = 2 ^ n - 1 - y := by
  refine Nat.eq_of_testBit_eq (fun i => ?_)
  rw [Nat.testBit_xor, Nat.testBit_two_pow_sub_one, GB hy]
  by_cases hi : i < n
  ·simp [hi]
  ·have : y.testBit i = false := Nat.testBit_lt_two_pow (Nat.lt_of_lt_of_le hy (Nat.pow_le_pow_right (by omega) (by omega)))
   simp [hi, this]
 rw [e]
 omega
theorem xB {s w : Int} (hw : 0 ≤ w ∧ w ≤ 8) (hs : 0 ≤ s) : Int.tmod s (aG w + 1) = s % 2 ^ w.toNat := by
 rw [Int.tmod_eq_emod_of_nonneg hs, dM (by omega) (by omega)]
 congr 1
 omega
theorem GI {a b w : Int} (hw : 0 ≤ w ∧ w ≤ 8) (hs : 0 ≤ a - b + aG w + 1) : Int.tmod (a - b + aG w + 1) (aG w + 1) = (a - b) % 2 ^ w.toNat := by
 rw [xB hw hs, dM (by omega) (by omega), show a - b + (2 ^ w.toNat - 1) + 1 = a - b + 2 ^ w.toNat from by omega, Int.add_emod_right]
end Go.Proofs.Ytnlmlkbaflmgcaa
