/-
  Operators on bits, plain law: which operations are valid, their widths and values.
-/
import Derived.Test.YtgmpoenfoacofaaQKb
import Derived.WalkKit
namespace Go.Proofs.Ytgmpoenfoacofaa
open Go.RowKit
set_option linter.unusedVariables false
set_option linter.unusedSimpArgs false
theorem o0 {a : Nat} (h : a < 9223372036854775808) : (BitVec.ofInt (IntKind.i64).bits (a : Int)).toNat = a := by
 show (BitVec.ofInt 64 (a : Int)).toNat = a
 rw [BitVec.toNat_ofInt]
 omega
theorem qt {a : Nat} (h : a < 9223372036854775808) : IntKind.wrap .i64 (a : Int) = (a : Int) := by
 rw [IntKind.wrap_i64]; omega
theorem o6 {x : Int} {n : Nat} (hn : n ≤ 62) : IntKind.wrap .i64 ((BitVec.ofInt (IntKind.i64).bits x &&& BitVec.ofInt (IntKind.i64).bits ((2 : Int) ^ n - 1)).toNat : Int) = x % 2 ^ n := by
 have hp : (2 : Nat) ^ n ≤ 2 ^ 62 := Nat.pow_le_pow_right (by omega) hn
 have hp1 : 1 ≤ (2 : Nat) ^ n := Nat.one_le_two_pow
 have e : ((2 : Int) ^ n - 1) = ((2 ^ n - 1 : Nat) : Int) := by
  have : ((2 : Int) ^ n) = ((2 ^ n : Nat) : Int) := by simp
  rw [this]
  omega
 rw [e, BitVec.toNat_and, o0 (by omega)]
 rw [Nat.and_two_pow_sub_one_eq_mod]
 have h1 : (BitVec.ofInt (IntKind.i64).bits x).toNat % 2 ^ n < 2 ^ n := Nat.mod_lt _ (by omega)
 rw [qt (by omega)]
 show (((BitVec.ofInt 64 x).toNat % 2 ^ n : Nat) : Int) = x % 2 ^ n
 rw [BitVec.toNat_ofInt]
 have h2 : ((2 ^ n : Nat) : Int) ∣ ((2 ^ 64 : Nat) : Int) := Int.natCast_dvd_natCast.2 (Nat.pow_dvd_pow 2 (by omega))
 have h3 : (((x % ((2 ^ 64 : Nat) : Int)).toNat : Nat) : Int) = x % ((2 ^ 64 : Nat) : Int) := Int.toNat_of_nonneg (Int.emod_nonneg _ (by decide))
 have e3 : (((2 ^ n : Nat)) : Int) = 2 ^ n := by simp
 have e4 : ∀ a b : Nat, ((a % b : Nat) : Int) = (a : Int) % (b : Int) := fun a b => by first | exact Int.natCast_emod a b | exact Int.ofNat_emod a b | simp
 rw [e4, h3, ← e3]
 exact Int.emod_emod_of_dvd x h2
def br (n : Int) : Bool := decide (1 ≤ n) && decide (n ≤ 8)
theorem bl {n : Int} : br n = true ↔ 1 ≤ n ∧ n ≤ 8 := by simp [br]
def cb (w : Int) : Int := if w < 0 ∨ 62 < w then 0 else 2 ^ w.toNat - 1
theorem fw {w : Int} (h : 0 ≤ w) (h2 : w ≤ 62) : cb w = 2 ^ w.toNat - 1 := if_neg (by omega)
theorem o7 {w : Int} (h : 0 ≤ w) (h2 : w ≤ 8) : 0 ≤ cb w ∧ cb w ≤ 255 := by
 have : w = 0 ∨ w = 1 ∨ w = 2 ∨ w = 3 ∨ w = 4 ∨ w = 5 ∨ w = 6 ∨ w = 7 ∨ w = 8 := by omega
 rcases this with rfl | rfl | rfl | rfl | rfl | rfl | rfl | rfl | rfl <;> decide
theorem jq {n : Nat} (h : n ≤ 62) : (1 : Int) ≤ 2 ^ n ∧ (2 : Int) ^ n ≤ 4611686018427387904 := by
 have hp : (2 : Nat) ^ n ≤ 2 ^ 62 := Nat.pow_le_pow_right (by omega) h
 have hp1 : 1 ≤ (2 : Nat) ^ n := Nat.one_le_two_pow
 have e : ((2 : Int) ^ n) = ((2 ^ n : Nat) : Int) := by simp
 rw [e]
 omega
theorem vu {w : Int} (h0 : 0 ≤ w) (h : w ≤ 62) : IntKind.wrap .i64 (1 * 2 ^ min w.toNat 64) = 2 ^ w.toNat := by
 have hp := jq (n := w.toNat) (by omega)
 rw [Nat.min_eq_left (by omega), Int.one_mul, IntKind.wrap_i64]
 omega
abbrev SH (w : Int) : Prop := 0 ≤ w ∧ IntKind.i64.wrap (1 * 2 ^ min w.toNat 64) = 2 ^ w.toNat
theorem sh {w : Int} (h0 : 0 ≤ w := by omega) (h : w ≤ 62 := by omega) : SH w := ⟨h0, vu h0 h⟩
def qu (op : Int) : Int := if op = 1 then 0 else if op = 2 ∨ op = 12 ∨ op = 13 then 1 else if op = 10 then 3 else if 3 ≤ op ∧ op ≤ 11 then 2 else -1
def du (ws : List Int) : Int := if ws.getD 0 0 ≠ ws.getD 1 0 then 0 else ws.getD 0 0
def ru (op : Int) (ws : List Int) (k w : Int) : Int :=
 if op = 1 then (if br w = false ∨ k < 0 ∨ cb w < k then 0 else w)
 else if op = 2 then ws.getD 0 0
 else if op = 8 ∨ op = 9 then min (du ws) 1
 else if op = 10 then (if ws.getD 0 0 ≠ 1 ∨ ws.getD 1 0 ≠ ws.getD 2 0 then 0 else ws.getD 1 0)
 else if op = 11 then ws.getD 0 0 + ws.getD 1 0
 else if op = 12 then (if br w = false ∨ k < 0 ∨ ws.getD 0 0 - w < k then 0 else w)
 else if op = 13 then (if w < ws.getD 0 0 then 0 else w)
 else du ws
def pL (op : Int) (ws : List Int) (k w : Int) : Bool := decide ((ws.length : Int) = qu op) && ws.all br && br (ru op ws k w)
def zF (op : Int) (ws ys : List Int) (k w : Int) : Int :=
 if op = 1 then k
 else if op = 2 then (((ys.getD 0 0).toNat ^^^ (cb (ws.getD 0 0)).toNat : Nat) : Int)
 else if op = 3 then (((ys.getD 0 0).toNat &&& (ys.getD 1 0).toNat : Nat) : Int)
 else if op = 4 then (((ys.getD 0 0).toNat ||| (ys.getD 1 0).toNat : Nat) : Int)
 else if op = 5 then (((ys.getD 0 0).toNat ^^^ (ys.getD 1 0).toNat : Nat) : Int)
 else if op = 6 then (ys.getD 0 0 + ys.getD 1 0) % 2 ^ (ws.getD 0 0).toNat
 else if op = 7 then (ys.getD 0 0 - ys.getD 1 0) % 2 ^ (ws.getD 0 0).toNat
 else if op = 8 then (if ys.getD 0 0 = ys.getD 1 0 then 1 else 0)
 else if op = 9 then (if ys.getD 0 0 < ys.getD 1 0 then 1 else 0)
 else if op = 10 then ys.getD (2 - ys.getD 0 0).toNat 0
 else if op = 11 then (((ys.getD 0 0).toNat * 2 ^ (ws.getD 1 0).toNat ||| (ys.getD 1 0).toNat : Nat) : Int)
 else if op = 12 then (ys.getD 0 0 / 2 ^ k.toNat) % 2 ^ w.toNat
 else ys.getD 0 0
def zG (ws ys : List Int) : Bool := (List.range ys.length).all fun i => decide (0 ≤ ys.getD i 0) && decide (ys.getD i 0 ≤ cb (ws.getD i 0))
def vw (op : Int) (ws ys nums : List Int) : Bool := decide (nums.length = 2) && decide (ys.length = ws.length) && pL op ws (nums.getD 0 0) (nums.getD 1 0) && zG ws ys
def wG (op : Int) (ws ys nums : List Int) : Int := if vw op ws ys nums then zF op ws ys (nums.getD 0 0) (nums.getD 1 0) else 0
def wH (op : Int) (ws : List Int) (k w : Int) : Int := if pL op ws k w then ru op ws k w else 0
theorem cB {p : Nat → Prop} {i : Nat} (h : ∀ j, j < i → p j) (hi : p i) : ∀ j, j < i + 1 → p j := fun j hj => by
 rcases Nat.lt_or_ge j i with h1 | h1
 ·exact h j h1
 ·have : j = i := by omega
  rw [this]; exact hi
end Go.Proofs.Ytgmpoenfoacofaa
