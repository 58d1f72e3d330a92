/-
  Operators on bits, plain law: the reference's words.
-/
import Derived.Test.YtnlmlkbaflmgcaaQBitP
namespace Go.Proofs.Ytnlmlkbaflmgcaa
open Go.RowKit
set_option linter.unusedVariables false
set_option linter.unusedSimpArgs false
theorem JP {n : Nat} (h : n ≤ 62) : aD (n : Int) = ((2 ^ n - 1 : Nat) : Int) := by
 rw [cJ (by omega) (by omega), Int.toNat_natCast]
 have h1 : 1 ≤ (2 : Nat) ^ n := Nat.one_le_two_pow
 have e : ((2 : Int) ^ n) = ((2 ^ n : Nat) : Int) := by simp
 rw [e]
 omega
theorem Gn {n z i : Nat} (hz : z < 2 ^ n) : (2 ^ n - 1 - z).testBit i = (decide (i < n) && !z.testBit i) := by
 rw [show 2 ^ n - 1 - z = 2 ^ n - (z + 1) from by omega, Nat.testBit_two_pow_sub_succ hz]
def d6 (ws : List Int) (n : Nat) : Bool := decide (ws.length = n) && ws.all aI && (decide (n < 2) || decide (ws.getD (n - 1) 0 = ws.getD (n - 2) 0))
theorem Gp {ws : List Int} (h : ∀ i, i < ws.length → aI (ws.getD i 0) = true) : ws.all aI = true := by
 rw [List.all_eq_true]
 intro x hx
 obtain ⟨i, hi, rfl⟩ := List.getElem_of_mem hx
 have := h i hi
 simpa [List.getD, List.getElem?_eq_getElem hi] using this
theorem a9 {ws : List Int} {n : Nat} (h : d6 ws n = true) : ws.length = n ∧ ws.all aI = true ∧ (n < 2 ∨ ws.getD (n - 1) 0 = ws.getD (n - 2) 0) := by
 unfold d6 at h
 simp only [Bool.and_eq_true, Bool.or_eq_true, decide_eq_true_eq] at h
 exact ⟨h.1.1, h.1.2, h.2⟩
theorem b9 {ws : List Int} {n i : Nat} (h : d6 ws n = true) (hi : i < n) : aI (ws.getD i 0) = true := by
 obtain ⟨h1, h2, _⟩ := a9 h
 exact aP.2 (dH h2 (by omega))
theorem fD {ws : List Int} (h : d6 ws 2 = true) : ws.getD 1 0 = ws.getD 0 0 := by
 rcases (a9 h).2.2 with h | h
 ·omega
 ·exact h
theorem fE {op : Int} {ws : List Int} {k w out : Int} (h : iB op ws k w = true) (e : eP op ws k w = out) : out = ci op ws k w ∧ (0 : Int) = CX op ws k w := by
 unfold ci CX; rw [h, e]; exact ⟨rfl, rfl⟩
theorem p6 {op : Int} {ws : List Int} {k w : Int} {n : Nat} (ha : cA op = n) (h1 : ws.length = n) (h2 : ws.all aI = true) (h3 : aI (eP op ws k w) = true) : iB op ws k w = true := by
 unfold iB; rw [ha, decide_eq_true (by omega), h2, h3]; rfl
theorem kO {op : Int} {ws : List Int} {k w : Int} {n : Nat} (ha : cA op = n) (h : iB op ws k w = true) : ws.length = n ∧ ws.all aI = true ∧ 1 ≤ eP op ws k w ∧ eP op ws k w ≤ 8 := by
 obtain ⟨h1, h2, h3⟩ := jH h
 rw [ha] at h1
 have := aP.1 h3
 exact ⟨by omega, h2, this.1, this.2⟩
theorem sg {op : Int} {ws : List Int} {k w : Int} (h : iB op ws k w = true) : op = 1 ∨ op = 2 ∨ op = 3 ∨ op = 4 ∨ op = 5 ∨ op = 6 ∨ op = 7 ∨ op = 8 ∨ op = 9 ∨ op = 10 ∨ op = 11 ∨ op = 12 ∨ op = 13 := by
 rcases Decidable.em (op < 1 ∨ 13 < op) with hh | hh
 ·rw [Fw hh] at h; cases h
 ·omega
theorem si {ws : List Int} (h : ws.getD 1 0 = ws.getD 0 0) : bU ws = ws.getD 0 0 := by
 unfold bU; rw [if_neg (by rw [h]; simp)]
theorem uo {ws : List Int} (h : 1 ≤ bU ws) : ws.getD 1 0 = ws.getD 0 0 := by
 unfold bU at h; split at h
 ·omega
 ·rename_i hn; exact (Decidable.not_not.1 hn).symm
theorem jq {ws : List Int} {n : Nat} (h1 : ws.length = n) (h2 : ws.all aI = true) (h3 : n < 2 ∨ ws.getD (n - 1) 0 = ws.getD (n - 2) 0) : d6 ws n = true := by
 unfold d6; rw [decide_eq_true h1, h2]
 rcases h3 with h3 | h3
 ·rw [decide_eq_true h3]; rfl
 ·rw [decide_eq_true h3]; simp
theorem BL {ws : List Int} {k w : Int} : iB 1 ws k w = true ↔ (ws.length = 0 ∧ aI w = true ∧ 0 ≤ k ∧ k ≤ aD w) := by
 have e : eP 1 ws k w = (if aI w = false ∨ k < 0 ∨ aD w < k then 0 else w) := rfl
 constructor
 ·intro h
  obtain ⟨h1, h2, h3, h4⟩ := kO (n := 0) (by decide) h
  rw [e] at h3
  split at h3
  ·omega
  ·rename_i hn
   simp only [not_or, Bool.not_eq_false] at hn
   exact ⟨h1, hn.1, by omega, by omega⟩
 ·intro ⟨h1, h2, h3, h4⟩
  refine p6 (n := 0) (by decide) h1 (by rw [List.eq_nil_of_length_eq_zero h1]; rfl) ?_
  rw [e, if_neg (by rw [h2]; simp; omega)]
  exact h2
theorem Es {ws : List Int} {k w : Int} (h2 : aI w = true) (h3 : 0 ≤ k) (h4 : k ≤ aD w) : eP 1 ws k w = w := by
 show (if aI w = false ∨ k < 0 ∨ aD w < k then 0 else w) = w
 rw [if_neg (by rw [h2]; simp; omega)]
theorem Gq {ws : List Int} {k w : Int} : iB 2 ws k w = true ↔ d6 ws 1 = true := by
 constructor
 ·intro h
  obtain ⟨h1, h2, h3, h4⟩ := kO (n := 1) (by decide) h
  exact jq h1 h2 (.inl (by omega))
 ·intro h
  obtain ⟨h1, h2, _⟩ := a9 h
  exact p6 (n := 1) (by decide) h1 h2 (b9 h (by omega))
theorem yQ {op : Int} (hop : 3 ≤ op ∧ op ≤ 7) {ws : List Int} {k w : Int} : eP op ws k w = bU ws := by
 have : op = 3 ∨ op = 4 ∨ op = 5 ∨ op = 6 ∨ op = 7 := by omega
 rcases this with rfl | rfl | rfl | rfl | rfl <;> rfl
theorem vZ {op : Int} (hop : 3 ≤ op ∧ op ≤ 9) : cA op = (2 : Nat) := by
 have : op = 3 ∨ op = 4 ∨ op = 5 ∨ op = 6 ∨ op = 7 ∨ op = 8 ∨ op = 9 := by omega
 rcases this with rfl | rfl | rfl | rfl | rfl | rfl | rfl <;> decide
theorem fL {op : Int} (hop : 3 ≤ op ∧ op ≤ 7) {ws : List Int} {k w : Int} : iB op ws k w = true ↔ d6 ws 2 = true := by
 constructor
 ·intro h
  obtain ⟨h1, h2, h3, h4⟩ := kO (n := 2) (vZ (by omega)) h
  rw [yQ hop] at h3
  exact jq h1 h2 (.inr (uo h3))
 ·intro h
  obtain ⟨h1, h2, h3⟩ := a9 h
  refine p6 (n := 2) (vZ (by omega)) h1 h2 ?_
  rw [yQ hop, si (by rcases h3 with h3 | h3; omega; exact h3)]
  exact b9 h (by omega)
theorem oE {op : Int} (hop : 3 ≤ op ∧ op ≤ 7) {ws : List Int} {k w : Int} (h : d6 ws 2 = true) : eP op ws k w = ws.getD 0 0 := by
 obtain ⟨h1, h2, h3⟩ := a9 h
 rw [yQ hop, si (by rcases h3 with h3 | h3; omega; exact h3)]
theorem Et {op : Int} (hop : op = 8 ∨ op = 9) {ws : List Int} {k w : Int} : eP op ws k w = min (bU ws) 1 := by
 rcases hop with rfl | rfl <;> rfl
theorem v1 {op : Int} (hop : op = 8 ∨ op = 9) {ws : List Int} {k w : Int} (h : d6 ws 2 = true) : eP op ws k w = 1 := by
 obtain ⟨h1, h2, h3⟩ := a9 h
 have := aP.1 (b9 h (i := 0) (by omega))
 rw [Et hop, si (by rcases h3 with h3 | h3; omega; exact h3)]
 omega
theorem qF {op : Int} (hop : op = 8 ∨ op = 9) {ws : List Int} {k w : Int} : iB op ws k w = true ↔ d6 ws 2 = true := by
 constructor
 ·intro h
  obtain ⟨h1, h2, h3, h4⟩ := kO (n := 2) (vZ (by omega)) h
  rw [Et hop] at h3
  exact jq h1 h2 (.inr (uo (by omega)))
 ·intro h
  obtain ⟨h1, h2, h3⟩ := a9 h
  refine p6 (n := 2) (vZ (by omega)) h1 h2 ?_
  rw [v1 hop h]
  decide
theorem Az {ws : List Int} {k w : Int} (h : d6 ws 3 = true) (h0 : ws.getD 0 0 = 1) : eP 10 ws k w = ws.getD 1 0 := by
 obtain ⟨h1, h2, h3⟩ := a9 h
 show (if ws.getD 0 0 ≠ 1 ∨ ws.getD 1 0 ≠ ws.getD 2 0 then (0 : Int) else ws.getD 1 0) = _
 have h3 : ws.getD 2 0 = ws.getD 1 0 := by rcases h3 with h3 | h3; omega; exact h3
 rw [if_neg (by rw [h0, h3]; simp)]
theorem Gr {ws : List Int} {k w : Int} : iB 10 ws k w = true ↔ (d6 ws 3 = true ∧ ws.getD 0 0 = 1) := by
 have e : eP 10 ws k w = (if ws.getD 0 0 ≠ 1 ∨ ws.getD 1 0 ≠ ws.getD 2 0 then 0 else ws.getD 1 0) := rfl
 constructor
 ·intro h
  obtain ⟨h1, h2, h3, h4⟩ := kO (n := 3) (by decide) h
  rw [e] at h3
  split at h3
  ·omega
  ·rename_i hn
   simp only [not_or, ne_eq, Decidable.not_not] at hn
   exact ⟨jq h1 h2 (.inr hn.2.symm), hn.1⟩
 ·intro ⟨h, h0⟩
  obtain ⟨h1, h2, h3⟩ := a9 h
  refine p6 (n := 3) (by decide) h1 h2 ?_
  rw [Az h h0]
  exact b9 h (by omega)
theorem Gs {ws : List Int} {k w : Int} : iB 11 ws k w = true ↔ (ws.length = 2 ∧ aI (ws.getD 0 0) = true ∧ aI (ws.getD 1 0) = true ∧ aI (ws.getD 0 0 + ws.getD 1 0) = true) := by
 constructor
 ·intro h
  obtain ⟨h1, h2, h3, h4⟩ := kO (n := 2) (by decide) h
  exact ⟨h1, aP.2 (dH h2 (by omega)), aP.2 (dH h2 (by omega)), aP.2 ⟨h3, h4⟩⟩
 ·intro ⟨h1, h2, h3, h4⟩
  refine p6 (n := 2) (by decide) h1 (Gp (fun i hi => ?_)) h4
  match i, hi with
  | 0, _ => exact h2
  | 1, _ => exact h3
  | i + 2, hi => omega
theorem uq {ws : List Int} {k w : Int} (h2 : aI w = true) (h3 : 0 ≤ k) (h4 : k ≤ ws.getD 0 0 - w) : eP 12 ws k w = w := by
 show (if aI w = false ∨ k < 0 ∨ ws.getD 0 0 - w < k then 0 else w) = w
 rw [if_neg (by rintro (h | h | h) <;> first | omega | (rw [h2] at h; cases h))]
theorem BM {ws : List Int} {k w : Int} : iB 12 ws k w = true ↔ (d6 ws 1 = true ∧ aI w = true ∧ 0 ≤ k ∧ k ≤ ws.getD 0 0 - w) := by
 have e : eP 12 ws k w = (if aI w = false ∨ k < 0 ∨ ws.getD 0 0 - w < k then 0 else w) := rfl
 constructor
 ·intro h
  obtain ⟨h1, h2, h3, h4⟩ := kO (n := 1) (by decide) h
  rw [e] at h3
  split at h3
  ·omega
  ·rename_i hn
   simp only [not_or, Bool.not_eq_false] at hn
   exact ⟨jq h1 h2 (.inl (by omega)), hn.1, by omega, by omega⟩
 ·intro ⟨h, h2, h3, h4⟩
  obtain ⟨h1, hf, _⟩ := a9 h
  refine p6 (n := 1) (by decide) h1 hf ?_
  rw [uq h2 h3 h4]
  exact h2
theorem AA {ws : List Int} {k w : Int} (h : ws.getD 0 0 ≤ w) : eP 13 ws k w = w := by
 show (if w < ws.getD 0 0 then 0 else w) = w
 rw [if_neg (by omega)]
theorem Gt {ws : List Int} {k w : Int} : iB 13 ws k w = true ↔ (d6 ws 1 = true ∧ ws.getD 0 0 ≤ w ∧ aI w = true) := by
 have e : eP 13 ws k w = (if w < ws.getD 0 0 then 0 else w) := rfl
 constructor
 ·intro h
  obtain ⟨h1, h2, h3, h4⟩ := kO (n := 1) (by decide) h
  have h5 := aP.2 ⟨h3, h4⟩
  rw [e] at h3 h5
  split at h3
  ·omega
  ·rename_i hn
   rw [if_neg hn] at h5
   exact ⟨jq h1 h2 (.inl (by omega)), by omega, h5⟩
 ·intro ⟨h, h2, h3⟩
  obtain ⟨h1, hf, _⟩ := a9 h
  refine p6 (n := 1) (by decide) h1 hf ?_
  rw [AA h2]
  exact h3
theorem Gu {x w : Int} (hw : 0 ≤ w ∧ w ≤ 8) (hx : 0 ≤ x ∧ x ≤ aD w) : aD w - x = ((x.toNat ^^^ (aD w).toNat : Nat) : Int) := by
 obtain ⟨n, rfl⟩ := Int.eq_ofNat_of_zero_le hw.1
 obtain ⟨y, rfl⟩ := Int.eq_ofNat_of_zero_le hx.1
 have hp := Nat.two_pow_pos n
 rw [JP (by omega)] at hx ⊢
 have hy : y < 2 ^ n := by omega
 rw [Int.toNat_natCast, Int.toNat_natCast]
 have e : y ^^^ (2 ^ n - 1) = 2 ^ n - 1 - y := by
  refine Nat.eq_of_testBit_eq (fun i => ?_)
  rw [Nat.testBit_xor, Nat.testBit_two_pow_sub_one, Gn hy]
  by_cases hi : i < n
  ·simp [hi]
  ·have : y.testBit i = false := Nat.testBit_lt_two_pow (Nat.lt_of_lt_of_le hy (Nat.pow_le_pow_right (by omega) (by omega)))
   simp [hi, this]
 rw [e]
 omega
theorem xx {s w : Int} (hw : 0 ≤ w ∧ w ≤ 8) (hs : 0 ≤ s) : Int.tmod s (aD w + 1) = s % 2 ^ w.toNat := by
 rw [Int.tmod_eq_emod_of_nonneg hs, cJ (by omega) (by omega)]
 congr 1
 omega
theorem Gv {a b w : Int} (hw : 0 ≤ w ∧ w ≤ 8) (hs : 0 ≤ a - b + aD w + 1) : Int.tmod (a - b + aD w + 1) (aD w + 1) = (a - b) % 2 ^ w.toNat := by
 rw [xx hw hs, cJ (by omega) (by omega), show a - b + (2 ^ w.toNat - 1) + 1 = a - b + 2 ^ w.toNat from by omega, Int.add_emod_right]
end Go.Proofs.Ytnlmlkbaflmgcaa
