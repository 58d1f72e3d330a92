/-
  Operators on bits, plain law: which operations are valid, their widths and values.
-/
import Derived.Test.YtifoecfajmnjjaaGreatQMap
namespace Go.Proofs.YtifoecfajmnjjaaGreat
open Go.RowKit
set_option linter.unusedVariables false
set_option linter.unusedSimpArgs false
theorem d6 {a : Nat} (h : a < 9223372036854775808) : (BitVec.ofInt (IntKind.i64).bits (a : Int)).toNat = a := by
 show (BitVec.ofInt 64 (a : Int)).toNat = a
 rw [BitVec.toNat_ofInt]
 omega
theorem iq {a : Nat} (h : a < 9223372036854775808) : IntKind.wrap .i64 (a : Int) = (a : Int) := by
 rw [IntKind.wrap_i64]; omega
theorem IV {a b : Nat} (ha : a < 9223372036854775808) (hb : b < 9223372036854775808) : IntKind.wrap .i64 ((BitVec.ofInt (IntKind.i64).bits (a : Int) &&& BitVec.ofInt (IntKind.i64).bits (b : Int)).toNat : Int) = ((a &&& b : Nat) : Int) := by
 rw [BitVec.toNat_and, d6 ha, d6 hb]
 exact iq (Nat.lt_of_le_of_lt Nat.and_le_left ha)
theorem IW {a b : Nat} (ha : a < 9223372036854775808) (hb : b < 9223372036854775808) : IntKind.wrap .i64 ((BitVec.ofInt (IntKind.i64).bits (a : Int) ||| BitVec.ofInt (IntKind.i64).bits (b : Int)).toNat : Int) = ((a ||| b : Nat) : Int) := by
 rw [BitVec.toNat_or, d6 ha, d6 hb]
 exact iq (Nat.or_lt_two_pow (n := 63) ha hb)
theorem IY {a b : Nat} (ha : a < 9223372036854775808) (hb : b < 9223372036854775808) : IntKind.wrap .i64 ((BitVec.ofInt (IntKind.i64).bits (a : Int) ^^^ BitVec.ofInt (IntKind.i64).bits (b : Int)).toNat : Int) = ((a ^^^ b : Nat) : Int) := by
 rw [BitVec.toNat_xor, d6 ha, d6 hb]
 exact iq (Nat.xor_lt_two_pow (n := 63) ha hb)
theorem ir {x : Int} {n : Nat} (hn : n ≤ 62) : IntKind.wrap .i64 ((BitVec.ofInt (IntKind.i64).bits x &&& BitVec.ofInt (IntKind.i64).bits ((2 : Int) ^ n - 1)).toNat : Int) = x % 2 ^ n := by
 have hp : (2 : Nat) ^ n ≤ 2 ^ 62 := Nat.pow_le_pow_right (by omega) hn
 have hp1 : 1 ≤ (2 : Nat) ^ n := Nat.one_le_two_pow
 have e : ((2 : Int) ^ n - 1) = ((2 ^ n - 1 : Nat) : Int) := by
  have : ((2 : Int) ^ n) = ((2 ^ n : Nat) : Int) := by simp
  rw [this]
  omega
 rw [e, BitVec.toNat_and, d6 (by omega)]
 rw [Nat.and_two_pow_sub_one_eq_mod]
 have h1 : (BitVec.ofInt (IntKind.i64).bits x).toNat % 2 ^ n < 2 ^ n := Nat.mod_lt _ (by omega)
 rw [iq (by omega)]
 show (((BitVec.ofInt 64 x).toNat % 2 ^ n : Nat) : Int) = x % 2 ^ n
 rw [BitVec.toNat_ofInt]
 have h2 : ((2 ^ n : Nat) : Int) ∣ ((2 ^ 64 : Nat) : Int) := Int.natCast_dvd_natCast.2 (Nat.pow_dvd_pow 2 (by omega))
 have h3 : (((x % ((2 ^ 64 : Nat) : Int)).toNat : Nat) : Int) = x % ((2 ^ 64 : Nat) : Int) := Int.toNat_of_nonneg (Int.emod_nonneg _ (by decide))
 have e3 : (((2 ^ n : Nat)) : Int) = 2 ^ n := by simp
 have e4 : ∀ a b : Nat, ((a % b : Nat) : Int) = (a : Int) % (b : Int) := fun a b => by first | exact Int.natCast_emod a b | exact Int.ofNat_emod a b | simp
 rw [e4, h3, ← e3]
 exact Int.emod_emod_of_dvd x h2
def au (n : Int) : Bool := decide (1 ≤ n) && decide (n ≤ 8)
theorem aW {n : Int} : au n = true ↔ 1 ≤ n ∧ n ≤ 8 := by simp [au]
def aj (w : Int) : Int := if w < 0 ∨ 62 < w then 0 else 2 ^ w.toNat - 1
theorem cA {w : Int} (h : 0 ≤ w) (h2 : w ≤ 62) : aj w = 2 ^ w.toNat - 1 := if_neg (by omega)
theorem az {w : Int} (h : 0 ≤ w) (h2 : w ≤ 8) : 0 ≤ aj w ∧ aj w ≤ 255 := by
 have : w = 0 ∨ w = 1 ∨ w = 2 ∨ w = 3 ∨ w = 4 ∨ w = 5 ∨ w = 6 ∨ w = 7 ∨ w = 8 := by omega
 rcases this with rfl | rfl | rfl | rfl | rfl | rfl | rfl | rfl | rfl <;> decide
theorem lx {n : Nat} (h : n ≤ 62) : (1 : Int) ≤ 2 ^ n ∧ (2 : Int) ^ n ≤ 4611686018427387904 := by
 have hp : (2 : Nat) ^ n ≤ 2 ^ 62 := Nat.pow_le_pow_right (by omega) h
 have hp1 : 1 ≤ (2 : Nat) ^ n := Nat.one_le_two_pow
 have e : ((2 : Int) ^ n) = ((2 ^ n : Nat) : Int) := by simp
 rw [e]
 omega
theorem FX {w : Int} (h0 : 0 ≤ w) (h : w ≤ 62) : IntKind.wrap .i64 (1 * 2 ^ min w.toNat 64) = 2 ^ w.toNat := by
 have hp := lx (n := w.toNat) (by omega)
 rw [Nat.min_eq_left (by omega), Int.one_mul, IntKind.wrap_i64]
 omega
abbrev SH (w : Int) : Prop := 0 ≤ w ∧ IntKind.i64.wrap (1 * 2 ^ min w.toNat 64) = 2 ^ w.toNat
theorem sh {w : Int} (h0 : 0 ≤ w := by omega) (h : w ≤ 62 := by omega) : SH w := ⟨h0, FX h0 h⟩
def bk (op : Int) : Int := if op = 1 then 0 else if op = 2 ∨ op = 12 ∨ op = 13 then 1 else if op = 10 then 3 else if 3 ≤ op ∧ op ≤ 11 then 2 else -1
def g (l : List Int) (i : Nat) : Int := l.getD i 0
def bJ (ws : List Int) : Int := if ws.getD 0 0 ≠ ws.getD 1 0 then 0 else ws.getD 0 0
def bi (op : Int) (ws : List Int) (k w : Int) : Int :=
 if op = 1 then (if au w = false ∨ k < 0 ∨ aj w < k then 0 else w)
 else if op = 2 then ws.getD 0 0
 else if op = 8 ∨ op = 9 then min (bJ ws) 1
 else if op = 10 then (if ws.getD 0 0 ≠ 1 ∨ ws.getD 1 0 ≠ ws.getD 2 0 then 0 else ws.getD 1 0)
 else if op = 11 then ws.getD 0 0 + ws.getD 1 0
 else if op = 12 then (if au w = false ∨ k < 0 ∨ ws.getD 0 0 - w < k then 0 else w)
 else if op = 13 then (if w < ws.getD 0 0 then 0 else w)
 else bJ ws
def gi (op : Int) (ws : List Int) (k w : Int) : Bool := decide ((ws.length : Int) = bk op) && ws.all au && au (bi op ws k w)
def it (op : Int) (ws as : List Int) (k w : Int) : Int :=
 if op = 1 then k
 else if op = 2 then (((as.getD 0 0).toNat ^^^ (aj (ws.getD 0 0)).toNat : Nat) : Int)
 else if op = 3 then (((as.getD 0 0).toNat &&& (as.getD 1 0).toNat : Nat) : Int)
 else if op = 4 then (((as.getD 0 0).toNat ||| (as.getD 1 0).toNat : Nat) : Int)
 else if op = 5 then (((as.getD 0 0).toNat ^^^ (as.getD 1 0).toNat : Nat) : Int)
 else if op = 6 then (as.getD 0 0 + as.getD 1 0) % 2 ^ (ws.getD 0 0).toNat
 else if op = 7 then (as.getD 0 0 - as.getD 1 0) % 2 ^ (ws.getD 0 0).toNat
 else if op = 8 then (if as.getD 0 0 = as.getD 1 0 then 1 else 0)
 else if op = 9 then (if as.getD 0 0 < as.getD 1 0 then 1 else 0)
 else if op = 10 then as.getD (2 - as.getD 0 0).toNat 0
 else if op = 11 then (((as.getD 0 0).toNat * 2 ^ (ws.getD 1 0).toNat ||| (as.getD 1 0).toNat : Nat) : Int)
 else if op = 12 then (as.getD 0 0 / 2 ^ k.toNat) % 2 ^ w.toNat
 else as.getD 0 0
def xR (ws as : List Int) : Bool := (List.range as.length).all fun i => decide (0 ≤ as.getD i 0) && decide (as.getD i 0 ≤ aj (ws.getD i 0))
def ez (op : Int) (ws as nums : List Int) : Bool := decide (nums.length = 2) && decide (as.length = ws.length) && gi op ws (nums.getD 0 0) (nums.getD 1 0) && xR ws as
def cx (op : Int) (ws as nums : List Int) : Int := if ez op ws as nums then it op ws as (nums.getD 0 0) (nums.getD 1 0) else 0
def gy (op : Int) (ws as nums : List Int) : Int := if ez op ws as nums then 0 else 1
def bU (op : Int) (ws : List Int) (k w : Int) : Int := if gi op ws k w then bi op ws k w else 0
def jl (op : Int) (ws : List Int) (k w : Int) : Int := if gi op ws k w then 0 else 1
def qH : Nat → List Int → Int
 | _, [] => -1
 | n, x :: l => if au x then qH (n + 1) l else (n : Int)
theorem uQ : ∀ (l : List Int) (n : Nat), decide (0 ≤ qH n l) = !(l.all au)
 | [], n => by simp [qH]
 | x :: l, n => by
  unfold qH
  rw [List.all_cons]
  cases h : au x
  ·simp
  ·simp only [if_true, Bool.true_and]
   exact uQ l (n + 1)
theorem uR {ws : List Int} {k : Nat} (h : k < ws.length) : qH k (ws.drop k) = if au (ws.getD k 0) then qH (k + 1) (ws.drop (k + 1)) else (k : Int) := by
 rw [List.drop_eq_getElem_cons h]
 simp [qH, List.getD, List.getElem?_eq_getElem h]
theorem aC {ws : List Int} (h : ws.all au = true) {i : Nat} (hi : i < ws.length) : 1 ≤ ws.getD i 0 ∧ ws.getD i 0 ≤ 8 := by
 rw [List.all_eq_true] at h
 have := h (ws.getD i 0) (by simp [List.getD, List.getElem?_eq_getElem hi])
 exact aW.1 this
theorem bc {ws xs : List Int} (h : xR ws xs = true) {i : Nat} (hi : i < xs.length) : 0 ≤ xs.getD i 0 ∧ xs.getD i 0 ≤ aj (ws.getD i 0) := by
 unfold xR at h
 rw [List.all_eq_true] at h
 have := h i (List.mem_range.2 hi)
 simp only [Bool.and_eq_true, decide_eq_true_eq] at this
 exact this
theorem qI {a b : Int} (h1 : 0 ≤ a) (h2 : a < 9223372036854775808) (h3 : 0 ≤ b) (h4 : b < 9223372036854775808) : IntKind.wrap .i64 ((BitVec.ofInt (IntKind.i64).bits a ^^^ BitVec.ofInt (IntKind.i64).bits b).toNat : Int) = ((a.toNat ^^^ b.toNat : Nat) : Int) := by
 obtain ⟨n, rfl⟩ := Int.eq_ofNat_of_zero_le h1
 obtain ⟨m, rfl⟩ := Int.eq_ofNat_of_zero_le h3
 exact IY (by omega) (by omega)
theorem uS {a b : Int} (h1 : 0 ≤ a) (h2 : a < 9223372036854775808) (h3 : 0 ≤ b) (h4 : b < 9223372036854775808) : IntKind.wrap .i64 ((BitVec.ofInt (IntKind.i64).bits a &&& BitVec.ofInt (IntKind.i64).bits b).toNat : Int) = ((a.toNat &&& b.toNat : Nat) : Int) := by
 obtain ⟨n, rfl⟩ := Int.eq_ofNat_of_zero_le h1
 obtain ⟨m, rfl⟩ := Int.eq_ofNat_of_zero_le h3
 exact IV (by omega) (by omega)
theorem xS {a b : Int} (h1 : 0 ≤ a) (h2 : a < 9223372036854775808) (h3 : 0 ≤ b) (h4 : b < 9223372036854775808) : IntKind.wrap .i64 ((BitVec.ofInt (IntKind.i64).bits a ||| BitVec.ofInt (IntKind.i64).bits b).toNat : Int) = ((a.toNat ||| b.toNat : Nat) : Int) := by
 obtain ⟨n, rfl⟩ := Int.eq_ofNat_of_zero_le h1
 obtain ⟨m, rfl⟩ := Int.eq_ofNat_of_zero_le h3
 exact IW (by omega) (by omega)
theorem uT {a : Nat} {n : Nat} (ha : a ≤ 255) (hn : n ≤ 8) : a * 2 ^ n ≤ 65280 := by
 have : 2 ^ n ≤ 2 ^ 8 := Nat.pow_le_pow_right (by omega) hn
 calc a * 2 ^ n ≤ 255 * 2 ^ 8 := Nat.mul_le_mul ha this
  _ = 65280 := by decide
theorem AZ {a n : Int} (ha : 0 ≤ a ∧ a ≤ 255) (hn : 0 ≤ n ∧ n ≤ 8) : IntKind.wrap .i64 (a * 2 ^ min n.toNat 64) = ((a.toNat * 2 ^ n.toNat : Nat) : Int) := by
 obtain ⟨x, rfl⟩ := Int.eq_ofNat_of_zero_le ha.1
 obtain ⟨m, rfl⟩ := Int.eq_ofNat_of_zero_le hn.1
 have hb := uT (a := x) (n := m) (by omega) (by omega)
 rw [Int.toNat_natCast, Int.toNat_natCast, Nat.min_eq_left (by omega)]
 have e : ((x : Int) * 2 ^ m) = ((x * 2 ^ m : Nat) : Int) := by simp
 rw [e]
 exact iq (by omega)
theorem A1 {a b n : Int} (ha : 0 ≤ a ∧ a ≤ 255) (hn : 0 ≤ n ∧ n ≤ 8) (hb : 0 ≤ b ∧ b ≤ 255) : IntKind.wrap .i64 ((BitVec.ofInt (IntKind.i64).bits ((a.toNat * 2 ^ n.toNat : Nat) : Int) ||| BitVec.ofInt (IntKind.i64).bits b).toNat : Int) = ((a.toNat * 2 ^ n.toNat ||| b.toNat : Nat) : Int) := by
 have h := uT (a := a.toNat) (n := n.toNat) (by omega) (by omega)
 obtain ⟨m, rfl⟩ := Int.eq_ofNat_of_zero_le hb.1
 exact IW (by omega) (by omega)
theorem wi {a n : Int} (h : 0 ≤ n) (h2 : n ≤ 62) : Int.fdiv a (2 ^ min n.toNat 64) = a / 2 ^ n.toNat := by
 rw [Nat.min_eq_left (by omega), Int.fdiv_eq_ediv_of_nonneg _ (Int.le_of_lt (Int.pow_pos (by decide)))]
theorem jm {op : Int} {ws : List Int} {k w : Int} (h : gi op ws k w = true) : (ws.length : Int) = bk op ∧ ws.all au = true ∧ au (bi op ws k w) = true := by
 unfold gi at h
 simp only [Bool.and_eq_true, decide_eq_true_eq] at h
 exact ⟨h.1.1, h.1.2, h.2⟩
theorem FY {op : Int} (h : op < 1 ∨ 13 < op) (ws : List Int) (k w : Int) : gi op ws k w = false := by
 have : bk op = -1 := by
  unfold bk
  rw [if_neg (by omega), if_neg (by omega), if_neg (by omega), if_neg (by omega)]
 unfold gi
 rw [this, decide_eq_false (by omega)]
 rfl
theorem wj {ws : List Int} {k w : Int} (h : gi 10 ws k w = true) : ws.getD 0 0 = 1 := by
 have h3 := aW.1 (jm h).2.2
 have e : bi 10 ws k w = (if ws.getD 0 0 ≠ 1 ∨ ws.getD 1 0 ≠ ws.getD 2 0 then 0 else ws.getD 1 0) := rfl
 rw [e] at h3
 split at h3
 ·omega
 ·rename_i hn
  refine Decidable.byContradiction fun hh => hn (.inl hh)
theorem wk {ws : List Int} {k w : Int} (h : gi 12 ws k w = true) : 0 ≤ k ∧ k ≤ 8 ∧ au w = true := by
 obtain ⟨h1, h2, h3⟩ := jm h
 have h3 := aW.1 h3
 have e : bi 12 ws k w = (if au w = false ∨ k < 0 ∨ ws.getD 0 0 - w < k then 0 else w) := rfl
 rw [e] at h3
 have hA : bk 12 = 1 := by decide
 rw [hA] at h1
 have f0 := aC h2 (i := 0) (by omega)
 split at h3
 ·omega
 ·rename_i hn
  simp only [not_or, Bool.not_eq_false] at hn
  have := aW.1 hn.1
  exact ⟨by omega, by omega, hn.1⟩
theorem a9 {op : Int} {ws xs nums : List Int} (h : ez op ws xs nums = false) : cx op ws xs nums = 0 ∧ gy op ws xs nums = 1 := by
 unfold cx gy
 rw [h]
 exact ⟨rfl, rfl⟩
theorem df {op : Int} {ws xs nums : List Int} (h1 : nums.length = 2) (h2 : xs.length = ws.length) (h3 : gi op ws (nums.getD 0 0) (nums.getD 1 0) = true) (h4 : xR ws xs = true) : cx op ws xs nums = it op ws xs (nums.getD 0 0) (nums.getD 1 0) ∧ gy op ws xs nums = 0 := by
 have h : ez op ws xs nums = true := by
  unfold ez
  rw [decide_eq_true h1, decide_eq_true h2, h3, h4]
  rfl
 unfold cx gy
 rw [h]
 exact ⟨rfl, rfl⟩
theorem o9 {op : Int} {ws xs nums : List Int} (h : nums.length ≠ 2) : ez op ws xs nums = false := by
 unfold ez
 rw [decide_eq_false h]
 rfl
theorem pb {op : Int} {ws xs nums : List Int} (h : xs.length ≠ ws.length) : ez op ws xs nums = false := by
 unfold ez
 rw [decide_eq_false h, Bool.and_false]
 rfl
theorem ce {op : Int} {ws xs nums : List Int} (h : gi op ws (nums.getD 0 0) (nums.getD 1 0) = false) : ez op ws xs nums = false := by
 unfold ez
 rw [h, Bool.and_false]
 rfl
theorem i5 {op : Int} {ws xs nums : List Int} {i : Nat} (hi : i < xs.length) (h : xs.getD i 0 < 0 ∨ aj (ws.getD i 0) < xs.getD i 0) : ez op ws xs nums = false := by
 have : xR ws xs = false := by
  rw [Bool.eq_false_iff]
  intro hh
  have := bc hh hi
  omega
 unfold ez
 rw [this, Bool.and_false]
theorem DZ {ws xs : List Int} (h : ∀ i, i < xs.length → 0 ≤ xs.getD i 0 ∧ xs.getD i 0 ≤ aj (ws.getD i 0)) : xR ws xs = true := by
 unfold xR
 rw [List.all_eq_true]
 intro i hi
 have := h i (List.mem_range.1 hi)
 rw [decide_eq_true this.1, decide_eq_true this.2]
 rfl
theorem bZ {p : Nat → Prop} {i : Nat} (h : ∀ j, j < i → p j) (hi : p i) : ∀ j, j < i + 1 → p j := fun j hj => by
 rcases Nat.lt_or_ge j i with h1 | h1
 ·exact h j h1
 ·have : j = i := by omega
  rw [this]; exact hi
def xT (op : Int) (ws : List Int) : Bool := decide ((ws.length : Int) = bk op) && ws.all au
theorem zD (op : Int) (ws : List Int) (k w : Int) : gi op ws k w = (xT op ws && au (bi op ws k w)) := rfl
theorem wm {op : Int} {ws : List Int} (h : xT op ws = true) : (ws.length : Int) = bk op ∧ ws.all au = true := by
 unfold xT at h
 simp only [Bool.and_eq_true, decide_eq_true_eq] at h
 exact h
theorem D0 {op : Int} {ws : List Int} (h : xT op ws = false) : (ws.length : Int) ≠ bk op ∨ ((ws.length : Int) = bk op ∧ ws.all au = false) := by
 unfold xT at h
 by_cases h1 : (ws.length : Int) = bk op
 ·rw [decide_eq_true h1, Bool.true_and] at h
  exact .inr ⟨h1, h⟩
 ·exact .inl h1
end Go.Proofs.YtifoecfajmnjjaaGreat
