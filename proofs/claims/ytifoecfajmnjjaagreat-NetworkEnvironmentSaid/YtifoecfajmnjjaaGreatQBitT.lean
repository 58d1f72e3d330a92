/-
  Operators on bits, plain law: the reference's words.
-/
import Derived.Test.YtifoecfajmnjjaaGreatQBitR
namespace Go.Proofs.YtifoecfajmnjjaaGreat
open Go.RowKit
set_option linter.unusedVariables false
set_option linter.unusedSimpArgs false
def gh (ws : List Int) (n : Nat) : Bool := decide (ws.length = n) && ws.all aA && (decide (n < 2) || decide (ws.getD (n - 1) 0 = ws.getD (n - 2) 0))
theorem JY {ws : List Int} (h : ∀ i, i < ws.length → aA (ws.getD i 0) = true) : ws.all aA = true := by
 rw [List.all_eq_true]
 intro x hx
 obtain ⟨i, hi, rfl⟩ := List.getElem_of_mem hx
 have := h i hi
 simpa [List.getD, List.getElem?_eq_getElem hi] using this
theorem bL {ws : List Int} {n : Nat} (h : gh ws n = true) : ws.length = n ∧ ws.all aA = true ∧ (n < 2 ∨ ws.getD (n - 1) 0 = ws.getD (n - 2) 0) := by
 unfold gh at h
 simp only [Bool.and_eq_true, Bool.or_eq_true, decide_eq_true_eq] at h
 exact ⟨h.1.1, h.1.2, h.2⟩
theorem dF {ws : List Int} {n i : Nat} (h : gh ws n = true) (hi : i < n) : aA (ws.getD i 0) = true := by
 obtain ⟨h1, h2, _⟩ := bL h
 exact bc.2 (aL h2 (by omega))
theorem iR {ws : List Int} (h : gh ws 2 = true) : ws.getD 1 0 = ws.getD 0 0 := by
 rcases (bL h).2.2 with h | h
 ·omega
 ·exact h
theorem iT {op : Int} {ws : List Int} {k w out : Int} (h : jd op ws k w = true) (e : bC op ws k w = out) : out = cE op ws k w ∧ (0 : Int) = lH op ws k w := by
 unfold cE lH; rw [h, e]; exact ⟨rfl, rfl⟩
theorem uO {op : Int} {ws : List Int} {k w : Int} {n : Nat} (ha : bJ op = n) (h1 : ws.length = n) (h2 : ws.all aA = true) (h3 : aA (bC op ws k w) = true) : jd op ws k w = true := by
 unfold jd; rw [ha, decide_eq_true (by omega), h2, h3]; rfl
theorem oX {op : Int} {ws : List Int} {k w : Int} {n : Nat} (ha : bJ op = n) (h : jd op ws k w = true) : ws.length = n ∧ ws.all aA = true ∧ 1 ≤ bC op ws k w ∧ bC op ws k w ≤ 8 := by
 obtain ⟨h1, h2, h3⟩ := lI h
 rw [ha] at h1
 have := bc.1 h3
 exact ⟨by omega, h2, this.1, this.2⟩
theorem wS {op : Int} {ws : List Int} {k w : Int} (h : jd op ws k w = true) : op = 1 ∨ op = 2 ∨ op = 3 ∨ op = 4 ∨ op = 5 ∨ op = 6 ∨ op = 7 ∨ op = 8 ∨ op = 9 ∨ op = 10 ∨ op = 11 ∨ op = 12 ∨ op = 13 := by
 rcases Decidable.em (op < 1 ∨ 13 < op) with hh | hh
 ·rw [JF hh] at h; cases h
 ·omega
theorem wU {ws : List Int} (h : ws.getD 1 0 = ws.getD 0 0) : ck ws = ws.getD 0 0 := by
 unfold ck; rw [if_neg (by rw [h]; simp)]
theorem yA {ws : List Int} (h : 1 ≤ ck ws) : ws.getD 1 0 = ws.getD 0 0 := by
 unfold ck at h; split at h
 ·omega
 ·rename_i hn; exact (Decidable.not_not.1 hn).symm
theorem mg {ws : List Int} {n : Nat} (h1 : ws.length = n) (h2 : ws.all aA = true) (h3 : n < 2 ∨ ws.getD (n - 1) 0 = ws.getD (n - 2) 0) : gh ws n = true := by
 unfold gh; rw [decide_eq_true h1, h2]
 rcases h3 with h3 | h3
 ·rw [decide_eq_true h3]; rfl
 ·rw [decide_eq_true h3]; simp
theorem Gp {ws : List Int} {k w : Int} : jd 1 ws k w = true ↔ (ws.length = 0 ∧ aA w = true ∧ 0 ≤ k ∧ k ≤ ap w) := by
 have e : bC 1 ws k w = (if aA w = false ∨ k < 0 ∨ ap w < k then 0 else w) := rfl
 constructor
 ·intro h
  obtain ⟨h1, h2, h3, h4⟩ := oX (n := 0) (by decide) h
  rw [e] at h3
  split at h3
  ·omega
  ·rename_i hn
   simp only [not_or, Bool.not_eq_false] at hn
   exact ⟨h1, hn.1, by omega, by omega⟩
 ·intro ⟨h1, h2, h3, h4⟩
  refine uO (n := 0) (by decide) h1 (by rw [List.eq_nil_of_length_eq_zero h1]; rfl) ?_
  rw [e, if_neg (by rw [h2]; simp; omega)]
  exact h2
theorem Iy {ws : List Int} {k w : Int} (h2 : aA w = true) (h3 : 0 ≤ k) (h4 : k ≤ ap w) : bC 1 ws k w = w := by
 show (if aA w = false ∨ k < 0 ∨ ap w < k then 0 else w) = w
 rw [if_neg (by rw [h2]; simp; omega)]
theorem JZ {ws : List Int} {k w : Int} : jd 2 ws k w = true ↔ gh ws 1 = true := by
 constructor
 ·intro h
  obtain ⟨h1, h2, h3, h4⟩ := oX (n := 1) (by decide) h
  exact mg h1 h2 (.inl (by omega))
 ·intro h
  obtain ⟨h1, h2, _⟩ := bL h
  exact uO (n := 1) (by decide) h1 h2 (dF h (by omega))
theorem Dy {op : Int} (hop : 3 ≤ op ∧ op ≤ 7) {ws : List Int} {k w : Int} : bC op ws k w = ck ws := by
 have : op = 3 ∨ op = 4 ∨ op = 5 ∨ op = 6 ∨ op = 7 := by omega
 rcases this with rfl | rfl | rfl | rfl | rfl <;> rfl
theorem z4 {op : Int} (hop : 3 ≤ op ∧ op ≤ 9) : bJ op = (2 : Nat) := by
 have : op = 3 ∨ op = 4 ∨ op = 5 ∨ op = 6 ∨ op = 7 ∨ op = 8 ∨ op = 9 := by omega
 rcases this with rfl | rfl | rfl | rfl | rfl | rfl | rfl <;> decide
theorem i5 {op : Int} (hop : 3 ≤ op ∧ op ≤ 7) {ws : List Int} {k w : Int} : jd op ws k w = true ↔ gh ws 2 = true := by
 constructor
 ·intro h
  obtain ⟨h1, h2, h3, h4⟩ := oX (n := 2) (z4 (by omega)) h
  rw [Dy hop] at h3
  exact mg h1 h2 (.inr (yA h3))
 ·intro h
  obtain ⟨h1, h2, h3⟩ := bL h
  refine uO (n := 2) (z4 (by omega)) h1 h2 ?_
  rw [Dy hop, wU (by rcases h3 with h3 | h3; omega; exact h3)]
  exact dF h (by omega)
theorem sH {op : Int} (hop : 3 ≤ op ∧ op ≤ 7) {ws : List Int} {k w : Int} (h : gh ws 2 = true) : bC op ws k w = ws.getD 0 0 := by
 obtain ⟨h1, h2, h3⟩ := bL h
 rw [Dy hop, wU (by rcases h3 with h3 | h3; omega; exact h3)]
theorem Iz {op : Int} (hop : op = 8 ∨ op = 9) {ws : List Int} {k w : Int} : bC op ws k w = min (ck ws) 1 := by
 rcases hop with rfl | rfl <;> rfl
theorem z5 {op : Int} (hop : op = 8 ∨ op = 9) {ws : List Int} {k w : Int} (h : gh ws 2 = true) : bC op ws k w = 1 := by
 obtain ⟨h1, h2, h3⟩ := bL h
 have := bc.1 (dF h (i := 0) (by omega))
 rw [Iz hop, wU (by rcases h3 with h3 | h3; omega; exact h3)]
 omega
theorem vu {op : Int} (hop : op = 8 ∨ op = 9) {ws : List Int} {k w : Int} : jd op ws k w = true ↔ gh ws 2 = true := by
 constructor
 ·intro h
  obtain ⟨h1, h2, h3, h4⟩ := oX (n := 2) (z4 (by omega)) h
  rw [Iz hop] at h3
  exact mg h1 h2 (.inr (yA (by omega)))
 ·intro h
  obtain ⟨h1, h2, h3⟩ := bL h
  refine uO (n := 2) (z4 (by omega)) h1 h2 ?_
  rw [z5 hop h]
  decide
theorem E3 {ws : List Int} {k w : Int} (h : gh ws 3 = true) (h0 : ws.getD 0 0 = 1) : bC 10 ws k w = ws.getD 1 0 := by
 obtain ⟨h1, h2, h3⟩ := bL h
 show (if ws.getD 0 0 ≠ 1 ∨ ws.getD 1 0 ≠ ws.getD 2 0 then (0 : Int) else ws.getD 1 0) = _
 have h3 : ws.getD 2 0 = ws.getD 1 0 := by rcases h3 with h3 | h3; omega; exact h3
 rw [if_neg (by rw [h0, h3]; simp)]
theorem J0 {ws : List Int} {k w : Int} : jd 10 ws k w = true ↔ (gh ws 3 = true ∧ ws.getD 0 0 = 1) := by
 have e : bC 10 ws k w = (if ws.getD 0 0 ≠ 1 ∨ ws.getD 1 0 ≠ ws.getD 2 0 then 0 else ws.getD 1 0) := rfl
 constructor
 ·intro h
  obtain ⟨h1, h2, h3, h4⟩ := oX (n := 3) (by decide) h
  rw [e] at h3
  split at h3
  ·omega
  ·rename_i hn
   simp only [not_or, ne_eq, Decidable.not_not] at hn
   exact ⟨mg h1 h2 (.inr hn.2.symm), hn.1⟩
 ·intro ⟨h, h0⟩
  obtain ⟨h1, h2, h3⟩ := bL h
  refine uO (n := 3) (by decide) h1 h2 ?_
  rw [E3 h h0]
  exact dF h (by omega)
theorem J1 {ws : List Int} {k w : Int} : jd 11 ws k w = true ↔ (ws.length = 2 ∧ aA (ws.getD 0 0) = true ∧ aA (ws.getD 1 0) = true ∧ aA (ws.getD 0 0 + ws.getD 1 0) = true) := by
 constructor
 ·intro h
  obtain ⟨h1, h2, h3, h4⟩ := oX (n := 2) (by decide) h
  exact ⟨h1, bc.2 (aL h2 (by omega)), bc.2 (aL h2 (by omega)), bc.2 ⟨h3, h4⟩⟩
 ·intro ⟨h1, h2, h3, h4⟩
  refine uO (n := 2) (by decide) h1 (JY (fun i hi => ?_)) h4
  match i, hi with
  | 0, _ => exact h2
  | 1, _ => exact h3
  | i + 2, hi => omega
theorem yB {ws : List Int} {k w : Int} (h2 : aA w = true) (h3 : 0 ≤ k) (h4 : k ≤ ws.getD 0 0 - w) : bC 12 ws k w = w := by
 show (if aA w = false ∨ k < 0 ∨ ws.getD 0 0 - w < k then 0 else w) = w
 rw [if_neg (by rintro (h | h | h) <;> first | omega | (rw [h2] at h; cases h))]
theorem Gq {ws : List Int} {k w : Int} : jd 12 ws k w = true ↔ (gh ws 1 = true ∧ aA w = true ∧ 0 ≤ k ∧ k ≤ ws.getD 0 0 - w) := by
 have e : bC 12 ws k w = (if aA w = false ∨ k < 0 ∨ ws.getD 0 0 - w < k then 0 else w) := rfl
 constructor
 ·intro h
  obtain ⟨h1, h2, h3, h4⟩ := oX (n := 1) (by decide) h
  rw [e] at h3
  split at h3
  ·omega
  ·rename_i hn
   simp only [not_or, Bool.not_eq_false] at hn
   exact ⟨mg h1 h2 (.inl (by omega)), hn.1, by omega, by omega⟩
 ·intro ⟨h, h2, h3, h4⟩
  obtain ⟨h1, hf, _⟩ := bL h
  refine uO (n := 1) (by decide) h1 hf ?_
  rw [yB h2 h3 h4]
  exact h2
theorem E4 {ws : List Int} {k w : Int} (h : ws.getD 0 0 ≤ w) : bC 13 ws k w = w := by
 show (if w < ws.getD 0 0 then 0 else w) = w
 rw [if_neg (by omega)]
theorem J2 {ws : List Int} {k w : Int} : jd 13 ws k w = true ↔ (gh ws 1 = true ∧ ws.getD 0 0 ≤ w ∧ aA w = true) := by
 have e : bC 13 ws k w = (if w < ws.getD 0 0 then 0 else w) := rfl
 constructor
 ·intro h
  obtain ⟨h1, h2, h3, h4⟩ := oX (n := 1) (by decide) h
  have h5 := bc.2 ⟨h3, h4⟩
  rw [e] at h3 h5
  split at h3
  ·omega
  ·rename_i hn
   rw [if_neg hn] at h5
   exact ⟨mg h1 h2 (.inl (by omega)), by omega, h5⟩
 ·intro ⟨h, h2, h3⟩
  obtain ⟨h1, hf, _⟩ := bL h
  refine uO (n := 1) (by decide) h1 hf ?_
  rw [E4 h2]
  exact h3
theorem J3 {x w : Int} (hw : 0 ≤ w ∧ w ≤ 8) (hx : 0 ≤ x ∧ x ≤ ap w) : ap w - x = ((x.toNat ^^^ (ap w).toNat : Nat) : Int) := by
 obtain ⟨n, rfl⟩ := Int.eq_ofNat_of_zero_le hw.1
 obtain ⟨y, rfl⟩ := Int.eq_ofNat_of_zero_le hx.1
 have hp := Nat.two_pow_pos n
 rw [M2 (by omega)] at hx ⊢
 have hy : y < 2 ^ n := by omega
 rw [Int.toNat_natCast, Int.toNat_natCast]
 have e : y ^^^ (2 ^ n - 1) = 2 ^ n - 1 - y := by
  refine Nat.eq_of_testBit_eq (fun i => ?_)
  rw [Nat.testBit_xor, Nat.testBit_two_pow_sub_one, JX hy]
  by_cases hi : i < n
  ·simp [hi]
  ·have : y.testBit i = false := Nat.testBit_lt_two_pow (Nat.lt_of_lt_of_le hy (Nat.pow_le_pow_right (by omega) (by omega)))
   simp [hi, this]
 rw [e]
 omega
theorem Bz {s w : Int} (hw : 0 ≤ w ∧ w ≤ 8) (hs : 0 ≤ s) : Int.tmod s (ap w + 1) = s % 2 ^ w.toNat := by
 rw [Int.tmod_eq_emod_of_nonneg hs, da (by omega) (by omega)]
 congr 1
 omega
theorem J4 {a b w : Int} (hw : 0 ≤ w ∧ w ≤ 8) (hs : 0 ≤ a - b + ap w + 1) : Int.tmod (a - b + ap w + 1) (ap w + 1) = (a - b) % 2 ^ w.toNat := by
 rw [Bz hw hs, da (by omega) (by omega), show a - b + (2 ^ w.toNat - 1) + 1 = a - b + 2 ^ w.toNat from by omega, Int.add_emod_right]
end Go.Proofs.YtifoecfajmnjjaaGreat
