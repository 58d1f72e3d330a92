/-
  Operators on bits, plain law: which operations are valid, their widths and values.
-/
import Derived.Test.YtaghhicmnalmmaaMap
namespace Go.Proofs.Ytaghhicmnalmmaa
open Go.RowKit
set_option linter.unusedVariables false
set_option linter.unusedSimpArgs false

/-! Bit operations on numbers that are not negative. -/
theorem ofInt_nat64 {a : Nat} (h : a < 9223372036854775808) : (BitVec.ofInt (IntKind.i64).bits (a : Int)).toNat = a := by
  show (BitVec.ofInt 64 (a : Int)).toNat = a
  rw [BitVec.toNat_ofInt]
  omega
theorem wrap_nat64 {a : Nat} (h : a < 9223372036854775808) : IntKind.wrap .i64 (a : Int) = (a : Int) := by
  rw [IntKind.wrap_i64]; omega
theorem and64 {a b : Nat} (ha : a < 9223372036854775808) (hb : b < 9223372036854775808) : IntKind.wrap .i64 ((BitVec.ofInt (IntKind.i64).bits (a : Int) &&& BitVec.ofInt (IntKind.i64).bits (b : Int)).toNat : Int) = ((a &&& b : Nat) : Int) := by
  rw [BitVec.toNat_and, ofInt_nat64 ha, ofInt_nat64 hb]
  exact wrap_nat64 (Nat.lt_of_le_of_lt Nat.and_le_left ha)
theorem or64 {a b : Nat} (ha : a < 9223372036854775808) (hb : b < 9223372036854775808) : IntKind.wrap .i64 ((BitVec.ofInt (IntKind.i64).bits (a : Int) ||| BitVec.ofInt (IntKind.i64).bits (b : Int)).toNat : Int) = ((a ||| b : Nat) : Int) := by
  rw [BitVec.toNat_or, ofInt_nat64 ha, ofInt_nat64 hb]
  exact wrap_nat64 (Nat.or_lt_two_pow (n := 63) ha hb)
theorem xor64 {a b : Nat} (ha : a < 9223372036854775808) (hb : b < 9223372036854775808) : IntKind.wrap .i64 ((BitVec.ofInt (IntKind.i64).bits (a : Int) ^^^ BitVec.ofInt (IntKind.i64).bits (b : Int)).toNat : Int) = ((a ^^^ b : Nat) : Int) := by
  rw [BitVec.toNat_xor, ofInt_nat64 ha, ofInt_nat64 hb]
  exact wrap_nat64 (Nat.xor_lt_two_pow (n := 63) ha hb)
/-- A number's lowest n bits. -/
theorem and_mask {x : Int} {n : Nat} (hn : n ≤ 62) : IntKind.wrap .i64 ((BitVec.ofInt (IntKind.i64).bits x &&& BitVec.ofInt (IntKind.i64).bits ((2 : Int) ^ n - 1)).toNat : Int) = x % 2 ^ n := by
  have hp : (2 : Nat) ^ n ≤ 2 ^ 62 := Nat.pow_le_pow_right (by omega) hn
  have hp1 : 1 ≤ (2 : Nat) ^ n := Nat.one_le_two_pow
  have e : ((2 : Int) ^ n - 1) = ((2 ^ n - 1 : Nat) : Int) := by
    have : ((2 : Int) ^ n) = ((2 ^ n : Nat) : Int) := by simp
    rw [this]
    omega
  rw [e, BitVec.toNat_and, ofInt_nat64 (by omega)]
  rw [Nat.and_two_pow_sub_one_eq_mod]
  have h1 : (BitVec.ofInt (IntKind.i64).bits x).toNat % 2 ^ n < 2 ^ n := Nat.mod_lt _ (by omega)
  rw [wrap_nat64 (by omega)]
  show (((BitVec.ofInt 64 x).toNat % 2 ^ n : Nat) : Int) = x % 2 ^ n
  rw [BitVec.toNat_ofInt]
  have h2 : ((2 ^ n : Nat) : Int) ∣ ((2 ^ 64 : Nat) : Int) := Int.natCast_dvd_natCast.2 (Nat.pow_dvd_pow 2 (by omega))
  have h3 : (((x % ((2 ^ 64 : Nat) : Int)).toNat : Nat) : Int) = x % ((2 ^ 64 : Nat) : Int) := Int.toNat_of_nonneg (Int.emod_nonneg _ (by decide))
  have e3 : (((2 ^ n : Nat)) : Int) = 2 ^ n := by simp
  have e4 : ∀ a b : Nat, ((a % b : Nat) : Int) = (a : Int) % (b : Int) := fun a b => by first | exact Int.natCast_emod a b | exact Int.ofNat_emod a b | simp
  rw [e4, h3, ← e3]
  exact Int.emod_emod_of_dvd x h2

/-! Operators. -/
def fitsF (n : Int) : Bool := decide (1 ≤ n) && decide (n ≤ 8)
theorem fits_iff {n : Int} : fitsF n = true ↔ 1 ≤ n ∧ n ≤ 8 := by simp [fitsF]
theorem fits_no {n : Int} : fitsF n = false ↔ n < 1 ∨ 8 < n := by
  rw [Bool.eq_false_iff, ne_eq, fits_iff]; omega
def maskF (w : Int) : Int := if w < 0 ∨ 62 < w then 0 else 2 ^ w.toNat - 1
theorem maskF_in {w : Int} (h : 0 ≤ w) (h2 : w ≤ 62) : maskF w = 2 ^ w.toNat - 1 := if_neg (by omega)
theorem maskF_bound {w : Int} (h : 0 ≤ w) (h2 : w ≤ 8) : 0 ≤ maskF w ∧ maskF w ≤ 255 := by
  have : w = 0 ∨ w = 1 ∨ w = 2 ∨ w = 3 ∨ w = 4 ∨ w = 5 ∨ w = 6 ∨ w = 7 ∨ w = 8 := by omega
  rcases this with rfl | rfl | rfl | rfl | rfl | rfl | rfl | rfl | rfl <;> decide
theorem pow62 {n : Nat} (h : n ≤ 62) : (1 : Int) ≤ 2 ^ n ∧ (2 : Int) ^ n ≤ 4611686018427387904 := by
  have hp : (2 : Nat) ^ n ≤ 2 ^ 62 := Nat.pow_le_pow_right (by omega) h
  have hp1 : 1 ≤ (2 : Nat) ^ n := Nat.one_le_two_pow
  have e : ((2 : Int) ^ n) = ((2 ^ n : Nat) : Int) := by simp
  rw [e]
  omega
theorem shl_one {w : Int} (h0 : 0 ≤ w) (h : w ≤ 62) : IntKind.wrap .i64 (1 * 2 ^ min w.toNat 64) = 2 ^ w.toNat := by
  have hp := pow62 (n := w.toNat) (by omega)
  rw [Nat.min_eq_left (by omega), Int.one_mul, IntKind.wrap_i64]
  omega
def arityF (op : Int) : Int := if op = 1 then 0 else if op = 2 ∨ op = 12 ∨ op = 13 then 1 else if op = 10 then 3 else if 3 ≤ op ∧ op ≤ 11 then 2 else -1
def g (l : List Int) (i : Nat) : Int := l.getD i 0
def alikeF (ws : List Int) : Int := if ws.getD 0 0 ≠ ws.getD 1 0 then 0 else ws.getD 0 0
def wvF (op : Int) (ws : List Int) (k w : Int) : Int :=
  if op = 1 then (if fitsF w = false ∨ k < 0 ∨ maskF w < k then 0 else w)
  else if op = 2 then ws.getD 0 0
  else if op = 8 ∨ op = 9 then min (alikeF ws) 1
  else if op = 10 then (if ws.getD 0 0 ≠ 1 ∨ ws.getD 1 0 ≠ ws.getD 2 0 then 0 else ws.getD 1 0)
  else if op = 11 then ws.getD 0 0 + ws.getD 1 0
  else if op = 12 then (if fitsF w = false ∨ k < 0 ∨ ws.getD 0 0 - w < k then 0 else w)
  else if op = 13 then (if w < ws.getD 0 0 then 0 else w)
  else alikeF ws
def okF (op : Int) (ws : List Int) (k w : Int) : Bool := decide ((ws.length : Int) = arityF op) && ws.all fitsF && fitsF (wvF op ws k w)
def natF (x : Int) : Nat := x.toNat
def avF (op : Int) (ws as : List Int) (k w : Int) : Int :=
  if op = 1 then k
  else if op = 2 then (((as.getD 0 0).toNat ^^^ (maskF (ws.getD 0 0)).toNat : Nat) : Int)
  else if op = 3 then (((as.getD 0 0).toNat &&& (as.getD 1 0).toNat : Nat) : Int)
  else if op = 4 then (((as.getD 0 0).toNat ||| (as.getD 1 0).toNat : Nat) : Int)
  else if op = 5 then (((as.getD 0 0).toNat ^^^ (as.getD 1 0).toNat : Nat) : Int)
  else if op = 6 then (as.getD 0 0 + as.getD 1 0) % 2 ^ (ws.getD 0 0).toNat
  else if op = 7 then (as.getD 0 0 - as.getD 1 0) % 2 ^ (ws.getD 0 0).toNat
  else if op = 8 then (if as.getD 0 0 = as.getD 1 0 then 1 else 0)
  else if op = 9 then (if as.getD 0 0 < as.getD 1 0 then 1 else 0)
  else if op = 10 then as.getD (2 - as.getD 0 0).toNat 0
  else if op = 11 then (((as.getD 0 0).toNat * 2 ^ (ws.getD 1 0).toNat ||| (as.getD 1 0).toNat : Nat) : Int)
  else if op = 12 then (as.getD 0 0 / 2 ^ k.toNat) % 2 ^ w.toNat
  else as.getD 0 0
/-- The arguments are values of their widths. -/
def inF (ws as : List Int) : Bool := (List.range as.length).all fun i => decide (0 ≤ as.getD i 0) && decide (as.getD i 0 ≤ maskF (ws.getD i 0))
def applyOk (op : Int) (ws as nums : List Int) : Bool := decide (nums.length = 2) && decide (as.length = ws.length) && okF op ws (nums.getD 0 0) (nums.getD 1 0) && inF ws as
def applyV (op : Int) (ws as nums : List Int) : Int := if applyOk op ws as nums then avF op ws as (nums.getD 0 0) (nums.getD 1 0) else 0
def applyE (op : Int) (ws as nums : List Int) : Int := if applyOk op ws as nums then 0 else 1
def widthV (op : Int) (ws : List Int) (k w : Int) : Int := if okF op ws k w then wvF op ws k w else 0
def widthE (op : Int) (ws : List Int) (k w : Int) : Int := if okF op ws k w then 0 else 1

/-! The first width that does not fit. -/
def idxN : Nat → List Int → Int
  | _, [] => -1
  | n, x :: l => if fitsF x then idxN (n + 1) l else (n : Int)
theorem idxN_sign : ∀ (l : List Int) (n : Nat), decide (0 ≤ idxN n l) = !(l.all fitsF)
  | [], n => by simp [idxN]
  | x :: l, n => by
    unfold idxN
    rw [List.all_cons]
    cases h : fitsF x
    · simp
    · simp only [if_true, Bool.true_and]
      exact idxN_sign l (n + 1)
theorem idxN_step {ws : List Int} {k : Nat} (h : k < ws.length) : idxN k (ws.drop k) = if fitsF (ws.getD k 0) then idxN (k + 1) (ws.drop (k + 1)) else (k : Int) := by
  rw [List.drop_eq_getElem_cons h]
  simp [idxN, List.getD, List.getElem?_eq_getElem h]
theorem fit_get {ws : List Int} (h : ws.all fitsF = true) {i : Nat} (hi : i < ws.length) : 1 ≤ ws.getD i 0 ∧ ws.getD i 0 ≤ 8 := by
  rw [List.all_eq_true] at h
  have := h (ws.getD i 0) (by simp [List.getD, List.getElem?_eq_getElem hi])
  exact fits_iff.1 this
theorem in_get {ws xs : List Int} (h : inF ws xs = true) {i : Nat} (hi : i < xs.length) : 0 ≤ xs.getD i 0 ∧ xs.getD i 0 ≤ maskF (ws.getD i 0) := by
  unfold inF at h
  rw [List.all_eq_true] at h
  have := h i (List.mem_range.2 hi)
  simp only [Bool.and_eq_true, decide_eq_true_eq] at this
  exact this
theorem int_xor64 {a b : Int} (h1 : 0 ≤ a) (h2 : a < 9223372036854775808) (h3 : 0 ≤ b) (h4 : b < 9223372036854775808) : IntKind.wrap .i64 ((BitVec.ofInt (IntKind.i64).bits a ^^^ BitVec.ofInt (IntKind.i64).bits b).toNat : Int) = ((a.toNat ^^^ b.toNat : Nat) : Int) := by
  obtain ⟨n, rfl⟩ := Int.eq_ofNat_of_zero_le h1
  obtain ⟨m, rfl⟩ := Int.eq_ofNat_of_zero_le h3
  exact xor64 (by omega) (by omega)
theorem int_and64 {a b : Int} (h1 : 0 ≤ a) (h2 : a < 9223372036854775808) (h3 : 0 ≤ b) (h4 : b < 9223372036854775808) : IntKind.wrap .i64 ((BitVec.ofInt (IntKind.i64).bits a &&& BitVec.ofInt (IntKind.i64).bits b).toNat : Int) = ((a.toNat &&& b.toNat : Nat) : Int) := by
  obtain ⟨n, rfl⟩ := Int.eq_ofNat_of_zero_le h1
  obtain ⟨m, rfl⟩ := Int.eq_ofNat_of_zero_le h3
  exact and64 (by omega) (by omega)
theorem int_or64 {a b : Int} (h1 : 0 ≤ a) (h2 : a < 9223372036854775808) (h3 : 0 ≤ b) (h4 : b < 9223372036854775808) : IntKind.wrap .i64 ((BitVec.ofInt (IntKind.i64).bits a ||| BitVec.ofInt (IntKind.i64).bits b).toNat : Int) = ((a.toNat ||| b.toNat : Nat) : Int) := by
  obtain ⟨n, rfl⟩ := Int.eq_ofNat_of_zero_le h1
  obtain ⟨m, rfl⟩ := Int.eq_ofNat_of_zero_le h3
  exact or64 (by omega) (by omega)
theorem shl_bound {a : Nat} {n : Nat} (ha : a ≤ 255) (hn : n ≤ 8) : a * 2 ^ n ≤ 65280 := by
  have : 2 ^ n ≤ 2 ^ 8 := Nat.pow_le_pow_right (by omega) hn
  calc a * 2 ^ n ≤ 255 * 2 ^ 8 := Nat.mul_le_mul ha this
    _ = 65280 := by decide
theorem shl_val {a n : Int} (ha : 0 ≤ a ∧ a ≤ 255) (hn : 0 ≤ n ∧ n ≤ 8) : IntKind.wrap .i64 (a * 2 ^ min n.toNat 64) = ((a.toNat * 2 ^ n.toNat : Nat) : Int) := by
  obtain ⟨x, rfl⟩ := Int.eq_ofNat_of_zero_le ha.1
  obtain ⟨m, rfl⟩ := Int.eq_ofNat_of_zero_le hn.1
  have hb := shl_bound (a := x) (n := m) (by omega) (by omega)
  rw [Int.toNat_natCast, Int.toNat_natCast, Nat.min_eq_left (by omega)]
  have e : ((x : Int) * 2 ^ m) = ((x * 2 ^ m : Nat) : Int) := by simp
  rw [e]
  exact wrap_nat64 (by omega)
theorem cat_val {a b n : Int} (ha : 0 ≤ a ∧ a ≤ 255) (hn : 0 ≤ n ∧ n ≤ 8) (hb : 0 ≤ b ∧ b ≤ 255) : IntKind.wrap .i64 ((BitVec.ofInt (IntKind.i64).bits ((a.toNat * 2 ^ n.toNat : Nat) : Int) ||| BitVec.ofInt (IntKind.i64).bits b).toNat : Int) = ((a.toNat * 2 ^ n.toNat ||| b.toNat : Nat) : Int) := by
  have h := shl_bound (a := a.toNat) (n := n.toNat) (by omega) (by omega)
  obtain ⟨m, rfl⟩ := Int.eq_ofNat_of_zero_le hb.1
  exact or64 (by omega) (by omega)
theorem shr_val {a n : Int} (h : 0 ≤ n) (h2 : n ≤ 62) : Int.fdiv a (2 ^ min n.toNat 64) = a / 2 ^ n.toNat := by
  rw [Nat.min_eq_left (by omega), Int.fdiv_eq_ediv_of_nonneg _ (Int.le_of_lt (Int.pow_pos (by decide)))]
theorem ok_yes {op : Int} {ws : List Int} {k w : Int} (h : okF op ws k w = true) : (ws.length : Int) = arityF op ∧ ws.all fitsF = true ∧ fitsF (wvF op ws k w) = true := by
  unfold okF at h
  simp only [Bool.and_eq_true, decide_eq_true_eq] at h
  exact ⟨h.1.1, h.1.2, h.2⟩
theorem ok_no {op : Int} {ws : List Int} {k w : Int} (h : okF op ws k w = false) : (ws.length : Int) ≠ arityF op ∨ ((ws.length : Int) = arityF op ∧ ws.all fitsF = false) ∨ ((ws.length : Int) = arityF op ∧ ws.all fitsF = true ∧ fitsF (wvF op ws k w) = false) := by
  unfold okF at h
  by_cases h1 : (ws.length : Int) = arityF op
  · cases h2 : ws.all fitsF
    · exact .inr (.inl ⟨h1, rfl⟩)
    · cases h3 : fitsF (wvF op ws k w)
      · exact .inr (.inr ⟨h1, rfl, rfl⟩)
      · rw [decide_eq_true h1, h2, h3] at h; cases h
  · exact .inl h1

theorem ok_none {op : Int} (h : op < 1 ∨ 13 < op) (ws : List Int) (k w : Int) : okF op ws k w = false := by
  have : arityF op = -1 := by
    unfold arityF
    rw [if_neg (by omega), if_neg (by omega), if_neg (by omega), if_neg (by omega)]
  unfold okF
  rw [this, decide_eq_false (by omega)]
  rfl
theorem mux_one {ws : List Int} {k w : Int} (h : okF 10 ws k w = true) : ws.getD 0 0 = 1 := by
  have h3 := fits_iff.1 (ok_yes h).2.2
  have e : wvF 10 ws k w = (if ws.getD 0 0 ≠ 1 ∨ ws.getD 1 0 ≠ ws.getD 2 0 then 0 else ws.getD 1 0) := rfl
  rw [e] at h3
  split at h3
  · omega
  · rename_i hn
    refine Decidable.byContradiction fun hh => hn (.inl hh)
theorem slice_k {ws : List Int} {k w : Int} (h : okF 12 ws k w = true) : 0 ≤ k ∧ k ≤ 8 ∧ fitsF w = true := by
  obtain ⟨h1, h2, h3⟩ := ok_yes h
  have h3 := fits_iff.1 h3
  have e : wvF 12 ws k w = (if fitsF w = false ∨ k < 0 ∨ ws.getD 0 0 - w < k then 0 else w) := rfl
  rw [e] at h3
  have hA : arityF 12 = 1 := by decide
  rw [hA] at h1
  have f0 := fit_get h2 (i := 0) (by omega)
  split at h3
  · omega
  · rename_i hn
    simp only [not_or, Bool.not_eq_false] at hn
    have := fits_iff.1 hn.1
    exact ⟨by omega, by omega, hn.1⟩
theorem ap_no {op : Int} {ws xs nums : List Int} (h : applyOk op ws xs nums = false) : applyV op ws xs nums = 0 ∧ applyE op ws xs nums = 1 := by
  unfold applyV applyE
  rw [h]
  exact ⟨rfl, rfl⟩
theorem ap_yes {op : Int} {ws xs nums : List Int} (h1 : nums.length = 2) (h2 : xs.length = ws.length) (h3 : okF op ws (nums.getD 0 0) (nums.getD 1 0) = true) (h4 : inF ws xs = true) : applyV op ws xs nums = avF op ws xs (nums.getD 0 0) (nums.getD 1 0) ∧ applyE op ws xs nums = 0 := by
  have h : applyOk op ws xs nums = true := by
    unfold applyOk
    rw [decide_eq_true h1, decide_eq_true h2, h3, h4]
    rfl
  unfold applyV applyE
  rw [h]
  exact ⟨rfl, rfl⟩
theorem ap_n {op : Int} {ws xs nums : List Int} (h : nums.length ≠ 2) : applyOk op ws xs nums = false := by
  unfold applyOk
  rw [decide_eq_false h]
  rfl
theorem ap_l {op : Int} {ws xs nums : List Int} (h : xs.length ≠ ws.length) : applyOk op ws xs nums = false := by
  unfold applyOk
  rw [decide_eq_false h, Bool.and_false]
  rfl
theorem ap_bad {op : Int} {ws xs nums : List Int} (h : okF op ws (nums.getD 0 0) (nums.getD 1 0) = false) : applyOk op ws xs nums = false := by
  unfold applyOk
  rw [h, Bool.and_false]
  rfl
theorem ap_in {op : Int} {ws xs nums : List Int} {i : Nat} (hi : i < xs.length) (h : xs.getD i 0 < 0 ∨ maskF (ws.getD i 0) < xs.getD i 0) : applyOk op ws xs nums = false := by
  have : inF ws xs = false := by
    rw [Bool.eq_false_iff]
    intro hh
    have := in_get hh hi
    omega
  unfold applyOk
  rw [this, Bool.and_false]
theorem in_all {ws xs : List Int} (h : ∀ i, i < xs.length → 0 ≤ xs.getD i 0 ∧ xs.getD i 0 ≤ maskF (ws.getD i 0)) : inF ws xs = true := by
  unfold inF
  rw [List.all_eq_true]
  intro i hi
  have := h i (List.mem_range.1 hi)
  rw [decide_eq_true this.1, decide_eq_true this.2]
  rfl
theorem lt_more {p : Nat → Prop} {i : Nat} (h : ∀ j, j < i → p j) (hi : p i) : ∀ j, j < i + 1 → p j := fun j hj => by
  rcases Nat.lt_or_ge j i with h1 | h1
  · exact h j h1
  · have : j = i := by omega
    rw [this]; exact hi

/-- The arguments' widths alone. -/
def okB (op : Int) (ws : List Int) : Bool := decide ((ws.length : Int) = arityF op) && ws.all fitsF
theorem okF_eq (op : Int) (ws : List Int) (k w : Int) : okF op ws k w = (okB op ws && fitsF (wvF op ws k w)) := rfl
theorem okB_yes {op : Int} {ws : List Int} (h : okB op ws = true) : (ws.length : Int) = arityF op ∧ ws.all fitsF = true := by
  unfold okB at h
  simp only [Bool.and_eq_true, decide_eq_true_eq] at h
  exact h
theorem okB_no {op : Int} {ws : List Int} (h : okB op ws = false) : (ws.length : Int) ≠ arityF op ∨ ((ws.length : Int) = arityF op ∧ ws.all fitsF = false) := by
  unfold okB at h
  by_cases h1 : (ws.length : Int) = arityF op
  · rw [decide_eq_true h1, Bool.true_and] at h
    exact .inr ⟨h1, h⟩
  · exact .inl h1
theorem ok3 (op : Int) (ws : List Int) (k w : Int) : (okB op ws = false ∧ okF op ws k w = false) ∨ (okB op ws = true ∧ fitsF (wvF op ws k w) = false ∧ okF op ws k w = false) ∨ okF op ws k w = true := by
  rw [okF_eq]
  cases okB op ws <;> cases fitsF (wvF op ws k w) <;> simp

theorem getD_takeB {l : List Bool} {h j : Nat} (hj : j < h) : (l.take h).getD j false = l.getD j false := by
  unfold List.getD
  rw [List.getElem?_take, if_pos hj]
theorem same_step {α : Type} {a b : List α} {d : α} {k : Nat} (hl : a.length = b.length) (hk : k < a.length) (h : a.take k = b.take k) (hx : a.getD k d = b.getD k d) : a.take (k + 1) = b.take (k + 1) := by
  rw [List.take_succ_eq_append_getElem hk, List.take_succ_eq_append_getElem (hl ▸ hk), h]
  simp only [List.getD, List.getElem?_eq_getElem hk, List.getElem?_eq_getElem (hl ▸ hk), Option.getD_some] at hx
  rw [hx]
theorem same_ne {α : Type} {a b : List α} {d : α} {k : Nat} (hx : a.getD k d ≠ b.getD k d) : a ≠ b := fun e => hx (by rw [e])
theorem same_end {α : Type} {a b : List α} {k : Nat} (hl : a.length = b.length) (hk : a.length ≤ k) (h : a.take k = b.take k) : a = b := by
  rwa [List.take_of_length_le hk, List.take_of_length_le (by omega)] at h
/-! The helpers of the laws. -/
def appF (op : Int) (ws xs : List Int) : Int := if applyE op ws xs [0, 0] ≠ 0 then -1 else applyV op ws xs [0, 0]
def sliF (v w k n : Int) : Int := if applyE 12 [w] [v] [k, n] ≠ 0 then -1 else applyV 12 [w] [v] [k, n]
def extF (v w to : Int) : Int := if applyE 13 [w] [v] [0, to] ≠ 0 then -1 else applyV 13 [w] [v] [0, to]
/-! Bits of numbers. -/
def shrF (v : Int) : Nat → Int
  | 0 => v
  | k + 1 => shrF v k / 2
def splitN (v : Int) (m : Nat) : List Bool := (List.range m).map fun k => shrF v k % 2 == 1
theorem splitN_succ (v : Int) (k : Nat) : splitN v (k + 1) = splitN v k ++ [shrF v k % 2 == 1] := by simp [splitN, List.range_succ]
theorem splitN_len (v : Int) (m : Nat) : (splitN v m).length = m := by simp [splitN]
def splitF (v w : Int) : List Bool := if w < 0 ∨ 62 < w then [] else splitN v w.toNat
theorem and_one (x : Int) : IntKind.wrap .i64 ((BitVec.ofInt (IntKind.i64).bits x &&& BitVec.ofInt (IntKind.i64).bits 1).toNat : Int) = x % 2 := by
  have := and_mask (x := x) (n := 1) (by omega)
  simpa using this
theorem shr_one (x : Int) : Int.fdiv x (2 ^ min 1 64) = x / 2 := by
  rw [Int.fdiv_eq_ediv_of_nonneg _ (Int.le_of_lt (Int.pow_pos (by decide)))]
  rfl
def joinN (l : List Bool) : Nat → Nat
  | 0 => 0
  | k + 1 => joinN l k + (if l.getD k false then 2 ^ k else 0)
theorem joinN_lt (l : List Bool) : ∀ k, joinN l k < 2 ^ k
  | 0 => by simp [joinN]
  | k + 1 => by
    have := joinN_lt l k
    rw [joinN, Nat.pow_succ]
    split <;> omega
theorem join_step {l : List Bool} {k : Nat} (hk : k < 62) : IntKind.wrap .i64 ((BitVec.ofInt (IntKind.i64).bits ((joinN l k : Nat) : Int) ||| BitVec.ofInt (IntKind.i64).bits (IntKind.wrap .i64 ((if l.getD k false = true then 1 else 0) * 2 ^ min k 64))).toNat : Int) = ((joinN l (k + 1) : Nat) : Int) := by
  have h1 := joinN_lt l k
  have hp : (2 : Nat) ^ k ≤ 2 ^ 61 := Nat.pow_le_pow_right (by omega) (by omega)
  have e : (IntKind.wrap .i64 ((if l.getD k false = true then 1 else 0) * 2 ^ min k 64)) = (((if l.getD k false = true then 2 ^ k else 0 : Nat)) : Int) := by
    rw [Nat.min_eq_left (by omega)]
    split
    · rw [Int.one_mul]
      have : ((2 : Int) ^ k) = ((2 ^ k : Nat) : Int) := by simp
      rw [this]
      exact wrap_nat64 (by omega)
    · rw [Int.zero_mul]; rfl
  rw [e, or64 (by omega) (by split <;> omega)]
  congr 1
  rw [joinN]
  split
  · rw [Nat.or_comm, show (2 : Nat) ^ k = 2 ^ k * 1 from by omega, ← Nat.two_pow_add_eq_or_of_lt h1]
    omega
  · simp

end Go.Proofs.Ytaghhicmnalmmaa
