/-
  Operators on bits, plain law: sums, differences, De Morgan's laws, parts.
-/
import Derived.Test.YtaghhicmnalmmaaBitQ
namespace Go.Proofs.Ytaghhicmnalmmaa
open Go.RowKit
set_option linter.unusedVariables false
set_option linter.unusedSimpArgs false

theorem mod_two {a N : Nat} (h : a < 2 * N) : a % N = if a < N then a else a - N := by
  split
  · exact Nat.mod_eq_of_lt (by assumption)
  · rw [Nat.mod_eq_sub_mod (by omega), Nat.mod_eq_of_lt (by omega)]
theorem back1 {p q N : Nat} (hp : p < N) (hq : q < N) : ((p + q) % N + (N - q)) % N = p := by
  rw [mod_two (a := p + q) (by omega)]
  split <;> rw [mod_two (by omega)] <;> split <;> omega
theorem back2 {p q N : Nat} (hp : p < N) (hq : q < N) : ((p + (N - q)) % N + q) % N = p := by
  rw [mod_two (a := p + (N - q)) (by omega)]
  split <;> rw [mod_two (by omega)] <;> split <;> omega
theorem back3 {p q N : Nat} (hp : p < N) (hq : q < N) (hN : 2 ≤ N) : ((p + (N - 1 - q)) % N + 1) % N = (p + (N - q)) % N := by
  rw [mod_two (a := p + (N - 1 - q)) (by omega), mod_two (a := p + (N - q)) (by omega)]
  split <;> rw [mod_two (by omega)] <;> split <;> split <;> omega
theorem bit_not {n z i : Nat} (hz : z < 2 ^ n) : (2 ^ n - 1 - z).testBit i = (decide (i < n) && !z.testBit i) := by
  rw [show 2 ^ n - 1 - z = 2 ^ n - (z + 1) from by omega, Nat.testBit_two_pow_sub_succ hz]
theorem and_lt {n p q : Nat} (hp : p < 2 ^ n) : p &&& q < 2 ^ n := Nat.lt_of_le_of_lt Nat.and_le_left hp
theorem morgan1 {n p q : Nat} (hp : p < 2 ^ n) (hq : q < 2 ^ n) : 2 ^ n - 1 - (p &&& q) = (2 ^ n - 1 - p) ||| (2 ^ n - 1 - q) := by
  refine Nat.eq_of_testBit_eq (fun i => ?_)
  rw [Nat.testBit_or, bit_not (and_lt hp), bit_not hp, bit_not hq, Nat.testBit_and]
  cases decide (i < n) <;> cases p.testBit i <;> cases q.testBit i <;> rfl
theorem morgan2 {n p q : Nat} (hp : p < 2 ^ n) (hq : q < 2 ^ n) : 2 ^ n - 1 - (p ||| q) = (2 ^ n - 1 - p) &&& (2 ^ n - 1 - q) := by
  refine Nat.eq_of_testBit_eq (fun i => ?_)
  rw [Nat.testBit_and, bit_not (Nat.or_lt_two_pow hp hq), bit_not hp, bit_not hq, Nat.testBit_or]
  cases decide (i < n) <;> cases p.testBit i <;> cases q.testBit i <;> rfl
theorem sum256 : ∀ p, p < 256 → ∀ q, q < 256 → (p ^^^ q) + 2 * (p &&& q) = p + q ∧ (p ^^^ q) + (p &&& q) = (p ||| q) := by decide +kernel
theorem shl_oneN {n : Nat} (h : n ≤ 62) : IntKind.wrap .i64 (1 * 2 ^ min n 64) = ((2 ^ n : Nat) : Int) := by
  have := shl_one (w := (n : Int)) (by omega) (by omega)
  rw [Int.toNat_natCast] at this
  rw [this]
  simp
theorem mask_and2 {a n : Nat} (h : n ≤ 62) : IntKind.wrap .i64 ((BitVec.ofInt (IntKind.i64).bits (a : Int) &&& BitVec.ofInt (IntKind.i64).bits ((2 ^ n - 1 : Nat) : Int)).toNat : Int) = ((a % 2 ^ n : Nat) : Int) := by
  have := mask_and (a := a) (n := n) h
  rwa [maskN h] at this
theorem pow_le256 {n : Nat} (h : n ≤ 8) : 2 ^ n ≤ 256 := Nat.pow_le_pow_right (n := 2) (by omega) h
theorem two_le {n : Nat} (h : 1 ≤ n) : 2 ≤ 2 ^ n := Nat.pow_le_pow_right (n := 2) (i := 1) (by omega) h
theorem app_sub2 {n x y : Nat} (h : 1 ≤ n ∧ n ≤ 8) (hx : x < 2 ^ n) (hy : y < 2 ^ n) : appF 7 [(n : Int), n] [(x : Int), y] = (((x + (2 ^ n - y)) % 2 ^ n : Nat) : Int) := by
  rw [app_sub h hx hy, sub_nat hx hy]
theorem app_one {n x : Nat} (h : 1 ≤ n ∧ n ≤ 8) (hx : x < 2 ^ n) : appF 6 [(n : Int), n] [(x : Int), 1] = (((x + 1) % 2 ^ n : Nat) : Int) :=
  app_add (y := 1) h hx (by have := two_le h.1; omega)
/-! Concatenations. -/
theorem ok_cat {n m : Nat} (hn : 1 ≤ n) (hm : 1 ≤ m) (h : n + m ≤ 8) : okF 11 [(n : Int), m] 0 0 = true := by
  have e : wvF 11 [(n : Int), m] 0 0 = (n : Int) + m := rfl
  have hf : fitsF ((n : Int) + m) = true := fits_iff.2 (by omega)
  simp [okF, arityF, e, hf, fits_nat8 (n := n) (by omega), fits_nat8 (n := m) (by omega)]
theorem app_cat {n m x y : Nat} (hn : 1 ≤ n) (hm : 1 ≤ m) (h : n + m ≤ 8) (hx : x < 2 ^ n) (hy : y < 2 ^ m) : appF 11 [(n : Int), m] [(x : Int), y] = ((x * 2 ^ m + y : Nat) : Int) := by
  rw [app_ok (ws := [(n : Int), m]) (xs := [(x : Int), y]) rfl (ok_cat hn hm h) (in_two (by omega) (by omega) hx hy)]
  show ((x * 2 ^ m ||| y : Nat) : Int) = _
  congr 1
  rw [Nat.mul_comm x, Nat.two_pow_add_eq_or_of_lt hy]
theorem cat_lt {n m x y : Nat} (hx : x < 2 ^ n) (hy : y < 2 ^ m) : x * 2 ^ m + y < 2 ^ (n + m) := by
  rw [Nat.pow_add]
  calc x * 2 ^ m + y < x * 2 ^ m + 2 ^ m := by omega
    _ = (x + 1) * 2 ^ m := by rw [Nat.add_mul, Nat.one_mul]
    _ ≤ 2 ^ n * 2 ^ m := Nat.mul_le_mul_right _ hx
theorem cat_lo {m x y : Nat} (hy : y < 2 ^ m) : (x * 2 ^ m + y) / 2 ^ 0 % 2 ^ m = y := by
  rw [Nat.pow_zero, Nat.div_one, Nat.mul_add_mod_of_lt' hy]
theorem cat_hi {n m x y : Nat} (hx : x < 2 ^ n) (hy : y < 2 ^ m) : (x * 2 ^ m + y) / 2 ^ m % 2 ^ n = x := by
  rw [Nat.mul_comm, Nat.mul_add_div (Nat.two_pow_pos m), Nat.div_eq_of_lt hy, Nat.add_zero, Nat.mod_eq_of_lt hx]

end Go.Proofs.Ytaghhicmnalmmaa
