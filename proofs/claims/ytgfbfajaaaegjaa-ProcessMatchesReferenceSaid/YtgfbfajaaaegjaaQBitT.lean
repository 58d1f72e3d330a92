/-
  Operators on bits, plain law: the reference's words.
-/
import Derived.Test.YtgfbfajaaaegjaaQBitR
namespace Go.Proofs.Ytgfbfajaaaegjaa
open Go.RowKit
set_option linter.unusedVariables false
set_option linter.unusedSimpArgs false
def ef (ws : List Int) (n : Nat) : Bool := decide (ws.length = n) && ws.all ai && (decide (n < 2) || decide (ws.getD (n - 1) 0 = ws.getD (n - 2) 0))
theorem Bp {ws : List Int} (h : ∀ i, i < ws.length → ai (ws.getD i 0) = true) : ws.all ai = true := by
 rw [List.all_eq_true]
 intro x hx
 obtain ⟨i, hi, rfl⟩ := List.getElem_of_mem hx
 have := h i hi
 simpa [List.getD, List.getElem?_eq_getElem hi] using this
theorem bf {ws : List Int} {n : Nat} (h : ef ws n = true) : ws.length = n ∧ ws.all ai = true ∧ (n < 2 ∨ ws.getD (n - 1) 0 = ws.getD (n - 2) 0) := by
 unfold ef at h
 simp only [Bool.and_eq_true, Bool.or_eq_true, decide_eq_true_eq] at h
 exact ⟨h.1.1, h.1.2, h.2⟩
theorem ct {ws : List Int} {n i : Nat} (h : ef ws n = true) (hi : i < n) : ai (ws.getD i 0) = true := by
 obtain ⟨h1, h2, _⟩ := bf h
 exact aE.2 (aq h2 (by omega))
theorem fx {ws : List Int} (h : ef ws 2 = true) : ws.getD 1 0 = ws.getD 0 0 := by
 rcases (bf h).2.2 with h | h
 ·omega
 ·exact h
theorem fy {op : Int} {ws : List Int} {k w out : Int} (h : fL op ws k w = true) (e : a7 op ws k w = out) : out = bl op ws k w ∧ (0 : Int) = ip op ws k w := by
 unfold bl ip; rw [h, e]; exact ⟨rfl, rfl⟩
theorem pK {op : Int} {ws : List Int} {k w : Int} {n : Nat} (ha : ba op = n) (h1 : ws.length = n) (h2 : ws.all ai = true) (h3 : ai (a7 op ws k w) = true) : fL op ws k w = true := by
 unfold fL; rw [ha, decide_eq_true (by omega), h2, h3]; rfl
theorem km {op : Int} {ws : List Int} {k w : Int} {n : Nat} (ha : ba op = n) (h : fL op ws k w = true) : ws.length = n ∧ ws.all ai = true ∧ 1 ≤ a7 op ws k w ∧ a7 op ws k w ≤ 8 := by
 obtain ⟨h1, h2, h3⟩ := iq h
 rw [ha] at h1
 have := aE.1 h3
 exact ⟨by omega, h2, this.1, this.2⟩
theorem rG {op : Int} {ws : List Int} {k w : Int} (h : fL op ws k w = true) : op = 1 ∨ op = 2 ∨ op = 3 ∨ op = 4 ∨ op = 5 ∨ op = 6 ∨ op = 7 ∨ op = 8 ∨ op = 9 ∨ op = 10 ∨ op = 11 ∨ op = 12 ∨ op = 13 := by
 rcases Decidable.em (op < 1 ∨ 13 < op) with hh | hh
 ·rw [Bb hh] at h; cases h
 ·omega
theorem rH {ws : List Int} (h : ws.getD 1 0 = ws.getD 0 0) : bt ws = ws.getD 0 0 := by
 unfold bt; rw [if_neg (by rw [h]; simp)]
theorem th {ws : List Int} (h : 1 ≤ bt ws) : ws.getD 1 0 = ws.getD 0 0 := by
 unfold bt at h; split at h
 ·omega
 ·rename_i hn; exact (Decidable.not_not.1 hn).symm
theorem iW {ws : List Int} {n : Nat} (h1 : ws.length = n) (h2 : ws.all ai = true) (h3 : n < 2 ∨ ws.getD (n - 1) 0 = ws.getD (n - 2) 0) : ef ws n = true := by
 unfold ef; rw [decide_eq_true h1, h2]
 rcases h3 with h3 | h3
 ·rw [decide_eq_true h3]; rfl
 ·rw [decide_eq_true h3]; simp
theorem yW {ws : List Int} {k w : Int} : fL 1 ws k w = true ↔ (ws.length = 0 ∧ ai w = true ∧ 0 ≤ k ∧ k ≤ ae w) := by
 have e : a7 1 ws k w = (if ai w = false ∨ k < 0 ∨ ae w < k then 0 else w) := rfl
 constructor
 ·intro h
  obtain ⟨h1, h2, h3, h4⟩ := km (n := 0) (by decide) h
  rw [e] at h3
  split at h3
  ·omega
  ·rename_i hn
   simp only [not_or, Bool.not_eq_false] at hn
   exact ⟨h1, hn.1, by omega, by omega⟩
 ·intro ⟨h1, h2, h3, h4⟩
  refine pK (n := 0) (by decide) h1 (by rw [List.eq_nil_of_length_eq_zero h1]; rfl) ?_
  rw [e, if_neg (by rw [h2]; simp; omega)]
  exact h2
theorem Am {ws : List Int} {k w : Int} (h2 : ai w = true) (h3 : 0 ≤ k) (h4 : k ≤ ae w) : a7 1 ws k w = w := by
 show (if ai w = false ∨ k < 0 ∨ ae w < k then 0 else w) = w
 rw [if_neg (by rw [h2]; simp; omega)]
theorem Bq {ws : List Int} {k w : Int} : fL 2 ws k w = true ↔ ef ws 1 = true := by
 constructor
 ·intro h
  obtain ⟨h1, h2, h3, h4⟩ := km (n := 1) (by decide) h
  exact iW h1 h2 (.inl (by omega))
 ·intro h
  obtain ⟨h1, h2, _⟩ := bf h
  exact pK (n := 1) (by decide) h1 h2 (ct h (by omega))
theorem wJ {op : Int} (hop : 3 ≤ op ∧ op ≤ 7) {ws : List Int} {k w : Int} : a7 op ws k w = bt ws := by
 have : op = 3 ∨ op = 4 ∨ op = 5 ∨ op = 6 ∨ op = 7 := by omega
 rcases this with rfl | rfl | rfl | rfl | rfl <;> rfl
theorem ud {op : Int} (hop : 3 ≤ op ∧ op ≤ 9) : ba op = (2 : Nat) := by
 have : op = 3 ∨ op = 4 ∨ op = 5 ∨ op = 6 ∨ op = 7 ∨ op = 8 ∨ op = 9 := by omega
 rcases this with rfl | rfl | rfl | rfl | rfl | rfl | rfl <;> decide
theorem fC {op : Int} (hop : 3 ≤ op ∧ op ≤ 7) {ws : List Int} {k w : Int} : fL op ws k w = true ↔ ef ws 2 = true := by
 constructor
 ·intro h
  obtain ⟨h1, h2, h3, h4⟩ := km (n := 2) (ud (by omega)) h
  rw [wJ hop] at h3
  exact iW h1 h2 (.inr (th h3))
 ·intro h
  obtain ⟨h1, h2, h3⟩ := bf h
  refine pK (n := 2) (ud (by omega)) h1 h2 ?_
  rw [wJ hop, rH (by rcases h3 with h3 | h3; omega; exact h3)]
  exact ct h (by omega)
theorem nG {op : Int} (hop : 3 ≤ op ∧ op ≤ 7) {ws : List Int} {k w : Int} (h : ef ws 2 = true) : a7 op ws k w = ws.getD 0 0 := by
 obtain ⟨h1, h2, h3⟩ := bf h
 rw [wJ hop, rH (by rcases h3 with h3 | h3; omega; exact h3)]
theorem An {op : Int} (hop : op = 8 ∨ op = 9) {ws : List Int} {k w : Int} : a7 op ws k w = min (bt ws) 1 := by
 rcases hop with rfl | rfl <;> rfl
theorem ue {op : Int} (hop : op = 8 ∨ op = 9) {ws : List Int} {k w : Int} (h : ef ws 2 = true) : a7 op ws k w = 1 := by
 obtain ⟨h1, h2, h3⟩ := bf h
 have := aE.1 (ct h (i := 0) (by omega))
 rw [An hop, rH (by rcases h3 with h3 | h3; omega; exact h3)]
 omega
theorem qn {op : Int} (hop : op = 8 ∨ op = 9) {ws : List Int} {k w : Int} : fL op ws k w = true ↔ ef ws 2 = true := by
 constructor
 ·intro h
  obtain ⟨h1, h2, h3, h4⟩ := km (n := 2) (ud (by omega)) h
  rw [An hop] at h3
  exact iW h1 h2 (.inr (th (by omega)))
 ·intro h
  obtain ⟨h1, h2, h3⟩ := bf h
  refine pK (n := 2) (ud (by omega)) h1 h2 ?_
  rw [ue hop h]
  decide
theorem xY {ws : List Int} {k w : Int} (h : ef ws 3 = true) (h0 : ws.getD 0 0 = 1) : a7 10 ws k w = ws.getD 1 0 := by
 obtain ⟨h1, h2, h3⟩ := bf h
 show (if ws.getD 0 0 ≠ 1 ∨ ws.getD 1 0 ≠ ws.getD 2 0 then (0 : Int) else ws.getD 1 0) = _
 have h3 : ws.getD 2 0 = ws.getD 1 0 := by rcases h3 with h3 | h3; omega; exact h3
 rw [if_neg (by rw [h0, h3]; simp)]
theorem Br {ws : List Int} {k w : Int} : fL 10 ws k w = true ↔ (ef ws 3 = true ∧ ws.getD 0 0 = 1) := by
 have e : a7 10 ws k w = (if ws.getD 0 0 ≠ 1 ∨ ws.getD 1 0 ≠ ws.getD 2 0 then 0 else ws.getD 1 0) := rfl
 constructor
 ·intro h
  obtain ⟨h1, h2, h3, h4⟩ := km (n := 3) (by decide) h
  rw [e] at h3
  split at h3
  ·omega
  ·rename_i hn
   simp only [not_or, ne_eq, Decidable.not_not] at hn
   exact ⟨iW h1 h2 (.inr hn.2.symm), hn.1⟩
 ·intro ⟨h, h0⟩
  obtain ⟨h1, h2, h3⟩ := bf h
  refine pK (n := 3) (by decide) h1 h2 ?_
  rw [xY h h0]
  exact ct h (by omega)
theorem Bs {ws : List Int} {k w : Int} : fL 11 ws k w = true ↔ (ws.length = 2 ∧ ai (ws.getD 0 0) = true ∧ ai (ws.getD 1 0) = true ∧ ai (ws.getD 0 0 + ws.getD 1 0) = true) := by
 constructor
 ·intro h
  obtain ⟨h1, h2, h3, h4⟩ := km (n := 2) (by decide) h
  exact ⟨h1, aE.2 (aq h2 (by omega)), aE.2 (aq h2 (by omega)), aE.2 ⟨h3, h4⟩⟩
 ·intro ⟨h1, h2, h3, h4⟩
  refine pK (n := 2) (by decide) h1 (Bp (fun i hi => ?_)) h4
  match i, hi with
  | 0, _ => exact h2
  | 1, _ => exact h3
  | i + 2, hi => omega
theorem ti {ws : List Int} {k w : Int} (h2 : ai w = true) (h3 : 0 ≤ k) (h4 : k ≤ ws.getD 0 0 - w) : a7 12 ws k w = w := by
 show (if ai w = false ∨ k < 0 ∨ ws.getD 0 0 - w < k then 0 else w) = w
 rw [if_neg (by rintro (h | h | h) <;> first | omega | (rw [h2] at h; cases h))]
theorem yX {ws : List Int} {k w : Int} : fL 12 ws k w = true ↔ (ef ws 1 = true ∧ ai w = true ∧ 0 ≤ k ∧ k ≤ ws.getD 0 0 - w) := by
 have e : a7 12 ws k w = (if ai w = false ∨ k < 0 ∨ ws.getD 0 0 - w < k then 0 else w) := rfl
 constructor
 ·intro h
  obtain ⟨h1, h2, h3, h4⟩ := km (n := 1) (by decide) h
  rw [e] at h3
  split at h3
  ·omega
  ·rename_i hn
   simp only [not_or, Bool.not_eq_false] at hn
   exact ⟨iW h1 h2 (.inl (by omega)), hn.1, by omega, by omega⟩
 ·intro ⟨h, h2, h3, h4⟩
  obtain ⟨h1, hf, _⟩ := bf h
  refine pK (n := 1) (by decide) h1 hf ?_
  rw [ti h2 h3 h4]
  exact h2
theorem xZ {ws : List Int} {k w : Int} (h : ws.getD 0 0 ≤ w) : a7 13 ws k w = w := by
 show (if w < ws.getD 0 0 then 0 else w) = w
 rw [if_neg (by omega)]
theorem Bt {ws : List Int} {k w : Int} : fL 13 ws k w = true ↔ (ef ws 1 = true ∧ ws.getD 0 0 ≤ w ∧ ai w = true) := by
 have e : a7 13 ws k w = (if w < ws.getD 0 0 then 0 else w) := rfl
 constructor
 ·intro h
  obtain ⟨h1, h2, h3, h4⟩ := km (n := 1) (by decide) h
  have h5 := aE.2 ⟨h3, h4⟩
  rw [e] at h3 h5
  split at h3
  ·omega
  ·rename_i hn
   rw [if_neg hn] at h5
   exact ⟨iW h1 h2 (.inl (by omega)), by omega, h5⟩
 ·intro ⟨h, h2, h3⟩
  obtain ⟨h1, hf, _⟩ := bf h
  refine pK (n := 1) (by decide) h1 hf ?_
  rw [xZ h2]
  exact h3
theorem Bu {x w : Int} (hw : 0 ≤ w ∧ w ≤ 8) (hx : 0 ≤ x ∧ x ≤ ae w) : ae w - x = ((x.toNat ^^^ (ae w).toNat : Nat) : Int) := by
 obtain ⟨n, rfl⟩ := Int.eq_ofNat_of_zero_le hw.1
 obtain ⟨y, rfl⟩ := Int.eq_ofNat_of_zero_le hx.1
 have hp := Nat.two_pow_pos n
 rw [DY (by omega)] at hx ⊢
 have hy : y < 2 ^ n := by omega
 rw [Int.toNat_natCast, Int.toNat_natCast]
 have e : y ^^^ (2 ^ n - 1) = 2 ^ n - 1 - y := by
  refine Nat.eq_of_testBit_eq (fun i => ?_)
  rw [Nat.testBit_xor, Nat.testBit_two_pow_sub_one, Bo hy]
  by_cases hi : i < n
  ·simp [hi]
  ·have : y.testBit i = false := Nat.testBit_lt_two_pow (Nat.lt_of_lt_of_le hy (Nat.pow_le_pow_right (by omega) (by omega)))
   simp [hi, this]
 rw [e]
 omega
theorem vE {s w : Int} (hw : 0 ≤ w ∧ w ≤ 8) (hs : 0 ≤ s) : Int.tmod s (ae w + 1) = s % 2 ^ w.toNat := by
 rw [Int.tmod_eq_emod_of_nonneg hs, dp (by omega) (by omega)]
 congr 1
 omega
theorem Bv {a b w : Int} (hw : 0 ≤ w ∧ w ≤ 8) (hs : 0 ≤ a - b + ae w + 1) : Int.tmod (a - b + ae w + 1) (ae w + 1) = (a - b) % 2 ^ w.toNat := by
 rw [vE hw hs, dp (by omega) (by omega), show a - b + (2 ^ w.toNat - 1) + 1 = a - b + 2 ^ w.toNat from by omega, Int.add_emod_right]
end Go.Proofs.Ytgfbfajaaaegjaa
