/-
  Operators on bits, plain law: which operations are valid, their widths and values.
-/
import Derived.Test.YtaghhicmnalmmaaQMap
namespace Go.Proofs.Ytaghhicmnalmmaa
open Go.RowKit
set_option linter.unusedVariables false
set_option linter.unusedSimpArgs false
theorem bL {a : Nat} (h : a < 9223372036854775808) : (BitVec.ofInt (IntKind.i64).bits (a : Int)).toNat = a := by
 show (BitVec.ofInt 64 (a : Int)).toNat = a
 rw [BitVec.toNat_ofInt]
 omega
theorem cp {a : Nat} (h : a < 9223372036854775808) : IntKind.wrap .i64 (a : Int) = (a : Int) := by
 rw [IntKind.wrap_i64]; omega
theorem r6 {a b : Nat} (ha : a < 9223372036854775808) (hb : b < 9223372036854775808) : IntKind.wrap .i64 ((BitVec.ofInt (IntKind.i64).bits (a : Int) &&& BitVec.ofInt (IntKind.i64).bits (b : Int)).toNat : Int) = ((a &&& b : Nat) : Int) := by
 rw [BitVec.toNat_and, bL ha, bL hb]
 exact cp (Nat.lt_of_le_of_lt Nat.and_le_left ha)
theorem rf {a b : Nat} (ha : a < 9223372036854775808) (hb : b < 9223372036854775808) : IntKind.wrap .i64 ((BitVec.ofInt (IntKind.i64).bits (a : Int) ||| BitVec.ofInt (IntKind.i64).bits (b : Int)).toNat : Int) = ((a ||| b : Nat) : Int) := by
 rw [BitVec.toNat_or, bL ha, bL hb]
 exact cp (Nat.or_lt_two_pow (n := 63) ha hb)
theorem r7 {a b : Nat} (ha : a < 9223372036854775808) (hb : b < 9223372036854775808) : IntKind.wrap .i64 ((BitVec.ofInt (IntKind.i64).bits (a : Int) ^^^ BitVec.ofInt (IntKind.i64).bits (b : Int)).toNat : Int) = ((a ^^^ b : Nat) : Int) := by
 rw [BitVec.toNat_xor, bL ha, bL hb]
 exact cp (Nat.xor_lt_two_pow (n := 63) ha hb)
theorem eM {x : Int} {n : Nat} (hn : n ≤ 62) : IntKind.wrap .i64 ((BitVec.ofInt (IntKind.i64).bits x &&& BitVec.ofInt (IntKind.i64).bits ((2 : Int) ^ n - 1)).toNat : Int) = x % 2 ^ n := by
 have hp : (2 : Nat) ^ n ≤ 2 ^ 62 := Nat.pow_le_pow_right (by omega) hn
 have hp1 : 1 ≤ (2 : Nat) ^ n := Nat.one_le_two_pow
 have e : ((2 : Int) ^ n - 1) = ((2 ^ n - 1 : Nat) : Int) := by
  have : ((2 : Int) ^ n) = ((2 ^ n : Nat) : Int) := by simp
  rw [this]
  omega
 rw [e, BitVec.toNat_and, bL (by omega)]
 rw [Nat.and_two_pow_sub_one_eq_mod]
 have h1 : (BitVec.ofInt (IntKind.i64).bits x).toNat % 2 ^ n < 2 ^ n := Nat.mod_lt _ (by omega)
 rw [cp (by omega)]
 show (((BitVec.ofInt 64 x).toNat % 2 ^ n : Nat) : Int) = x % 2 ^ n
 rw [BitVec.toNat_ofInt]
 have h2 : ((2 ^ n : Nat) : Int) ∣ ((2 ^ 64 : Nat) : Int) := Int.natCast_dvd_natCast.2 (Nat.pow_dvd_pow 2 (by omega))
 have h3 : (((x % ((2 ^ 64 : Nat) : Int)).toNat : Nat) : Int) = x % ((2 ^ 64 : Nat) : Int) := Int.toNat_of_nonneg (Int.emod_nonneg _ (by decide))
 have e3 : (((2 ^ n : Nat)) : Int) = 2 ^ n := by simp
 have e4 : ∀ a b : Nat, ((a % b : Nat) : Int) = (a : Int) % (b : Int) := fun a b => by first | exact Int.natCast_emod a b | exact Int.ofNat_emod a b | simp
 rw [e4, h3, ← e3]
 exact Int.emod_emod_of_dvd x h2
def ao (n : Int) : Bool := decide (1 ≤ n) && decide (n ≤ 8)
theorem bM {n : Int} : ao n = true ↔ 1 ≤ n ∧ n ≤ 8 := by simp [ao]
def aa (w : Int) : Int := if w < 0 ∨ 62 < w then 0 else 2 ^ w.toNat - 1
theorem cy {w : Int} (h : 0 ≤ w) (h2 : w ≤ 62) : aa w = 2 ^ w.toNat - 1 := if_neg (by omega)
theorem ah {w : Int} (h : 0 ≤ w) (h2 : w ≤ 8) : 0 ≤ aa w ∧ aa w ≤ 255 := by
 have : w = 0 ∨ w = 1 ∨ w = 2 ∨ w = 3 ∨ w = 4 ∨ w = 5 ∨ w = 6 ∨ w = 7 ∨ w = 8 := by omega
 rcases this with rfl | rfl | rfl | rfl | rfl | rfl | rfl | rfl | rfl <;> decide
theorem nA {n : Nat} (h : n ≤ 62) : (1 : Int) ≤ 2 ^ n ∧ (2 : Int) ^ n ≤ 4611686018427387904 := by
 have hp : (2 : Nat) ^ n ≤ 2 ^ 62 := Nat.pow_le_pow_right (by omega) h
 have hp1 : 1 ≤ (2 : Nat) ^ n := Nat.one_le_two_pow
 have e : ((2 : Int) ^ n) = ((2 ^ n : Nat) : Int) := by simp
 rw [e]
 omega
theorem p7 {w : Int} (h0 : 0 ≤ w) (h : w ≤ 62) : IntKind.wrap .i64 (1 * 2 ^ min w.toNat 64) = 2 ^ w.toNat := by
 have hp := nA (n := w.toNat) (by omega)
 rw [Nat.min_eq_left (by omega), Int.one_mul, IntKind.wrap_i64]
 omega
abbrev SH (w : Int) : Prop := 0 ≤ w ∧ IntKind.i64.wrap (1 * 2 ^ min w.toNat 64) = 2 ^ w.toNat
theorem sh {w : Int} (h0 : 0 ≤ w := by omega) (h : w ≤ 62 := by omega) : SH w := ⟨h0, p7 h0 h⟩
def am (op : Int) : Int := if op = 1 then 0 else if op = 2 ∨ op = 12 ∨ op = 13 then 1 else if op = 10 then 3 else if 3 ≤ op ∧ op ≤ 11 then 2 else -1
def bt (ws : List Int) : Int := if ws.getD 0 0 ≠ ws.getD 1 0 then 0 else ws.getD 0 0
def aG (op : Int) (ws : List Int) (k w : Int) : Int :=
 if op = 1 then (if ao w = false ∨ k < 0 ∨ aa w < k then 0 else w)
 else if op = 2 then ws.getD 0 0
 else if op = 8 ∨ op = 9 then min (bt ws) 1
 else if op = 10 then (if ws.getD 0 0 ≠ 1 ∨ ws.getD 1 0 ≠ ws.getD 2 0 then 0 else ws.getD 1 0)
 else if op = 11 then ws.getD 0 0 + ws.getD 1 0
 else if op = 12 then (if ao w = false ∨ k < 0 ∨ ws.getD 0 0 - w < k then 0 else w)
 else if op = 13 then (if w < ws.getD 0 0 then 0 else w)
 else bt ws
def jp (op : Int) (ws : List Int) (k w : Int) : Bool := decide ((ws.length : Int) = am op) && ws.all ao && ao (aG op ws k w)
def ft (op : Int) (ws ys : List Int) (k w : Int) : Int :=
 if op = 1 then k
 else if op = 2 then (((ys.getD 0 0).toNat ^^^ (aa (ws.getD 0 0)).toNat : Nat) : Int)
 else if op = 3 then (((ys.getD 0 0).toNat &&& (ys.getD 1 0).toNat : Nat) : Int)
 else if op = 4 then (((ys.getD 0 0).toNat ||| (ys.getD 1 0).toNat : Nat) : Int)
 else if op = 5 then (((ys.getD 0 0).toNat ^^^ (ys.getD 1 0).toNat : Nat) : Int)
 else if op = 6 then (ys.getD 0 0 + ys.getD 1 0) % 2 ^ (ws.getD 0 0).toNat
 else if op = 7 then (ys.getD 0 0 - ys.getD 1 0) % 2 ^ (ws.getD 0 0).toNat
 else if op = 8 then (if ys.getD 0 0 = ys.getD 1 0 then 1 else 0)
 else if op = 9 then (if ys.getD 0 0 < ys.getD 1 0 then 1 else 0)
 else if op = 10 then ys.getD (2 - ys.getD 0 0).toNat 0
 else if op = 11 then (((ys.getD 0 0).toNat * 2 ^ (ws.getD 1 0).toNat ||| (ys.getD 1 0).toNat : Nat) : Int)
 else if op = 12 then (ys.getD 0 0 / 2 ^ k.toNat) % 2 ^ w.toNat
 else ys.getD 0 0
def oI (ws ys : List Int) : Bool := (List.range ys.length).all fun i => decide (0 ≤ ys.getD i 0) && decide (ys.getD i 0 ≤ aa (ws.getD i 0))
def bu (op : Int) (ws ys nums : List Int) : Bool := decide (nums.length = 2) && decide (ys.length = ws.length) && jp op ws (nums.getD 0 0) (nums.getD 1 0) && oI ws ys
def aB (op : Int) (ws ys nums : List Int) : Int := if bu op ws ys nums then ft op ws ys (nums.getD 0 0) (nums.getD 1 0) else 0
def aF (op : Int) (ws ys nums : List Int) : Int := if bu op ws ys nums then 0 else 1
def aA (op : Int) (ws : List Int) (k w : Int) : Int := if jp op ws k w then aG op ws k w else 0
def aJ (op : Int) (ws : List Int) (k w : Int) : Int := if jp op ws k w then 0 else 1
def gW : Nat → List Int → Int
 | _, [] => -1
 | n, x :: l => if ao x then gW (n + 1) l else (n : Int)
theorem ko : ∀ (l : List Int) (n : Nat), decide (0 ≤ gW n l) = !(l.all ao)
 | [], n => by simp [gW]
 | x :: l, n => by
  unfold gW
  rw [List.all_cons]
  cases h : ao x
  ·simp
  ·simp only [if_true, Bool.true_and]
   exact ko l (n + 1)
theorem kq {ws : List Int} {k : Nat} (h : k < ws.length) : gW k (ws.drop k) = if ao (ws.getD k 0) then gW (k + 1) (ws.drop (k + 1)) else (k : Int) := by
 rw [List.drop_eq_getElem_cons h]
 simp [gW, List.getD, List.getElem?_eq_getElem h]
theorem aj {ws : List Int} (h : ws.all ao = true) {i : Nat} (hi : i < ws.length) : 1 ≤ ws.getD i 0 ∧ ws.getD i 0 ≤ 8 := by
 rw [List.all_eq_true] at h
 have := h (ws.getD i 0) (by simp [List.getD, List.getElem?_eq_getElem hi])
 exact bM.1 this
theorem aE {ws xs : List Int} (h : oI ws xs = true) {i : Nat} (hi : i < xs.length) : 0 ≤ xs.getD i 0 ∧ xs.getD i 0 ≤ aa (ws.getD i 0) := by
 unfold oI at h
 rw [List.all_eq_true] at h
 have := h i (List.mem_range.2 hi)
 simp only [Bool.and_eq_true, decide_eq_true_eq] at this
 exact this
theorem kr {a b : Int} (h1 : 0 ≤ a) (h2 : a < 9223372036854775808) (h3 : 0 ≤ b) (h4 : b < 9223372036854775808) : IntKind.wrap .i64 ((BitVec.ofInt (IntKind.i64).bits a ^^^ BitVec.ofInt (IntKind.i64).bits b).toNat : Int) = ((a.toNat ^^^ b.toNat : Nat) : Int) := by
 obtain ⟨n, rfl⟩ := Int.eq_ofNat_of_zero_le h1
 obtain ⟨m, rfl⟩ := Int.eq_ofNat_of_zero_le h3
 exact r7 (by omega) (by omega)
theorem oi {a b : Int} (h1 : 0 ≤ a) (h2 : a < 9223372036854775808) (h3 : 0 ≤ b) (h4 : b < 9223372036854775808) : IntKind.wrap .i64 ((BitVec.ofInt (IntKind.i64).bits a &&& BitVec.ofInt (IntKind.i64).bits b).toNat : Int) = ((a.toNat &&& b.toNat : Nat) : Int) := by
 obtain ⟨n, rfl⟩ := Int.eq_ofNat_of_zero_le h1
 obtain ⟨m, rfl⟩ := Int.eq_ofNat_of_zero_le h3
 exact r6 (by omega) (by omega)
theorem pn {a b : Int} (h1 : 0 ≤ a) (h2 : a < 9223372036854775808) (h3 : 0 ≤ b) (h4 : b < 9223372036854775808) : IntKind.wrap .i64 ((BitVec.ofInt (IntKind.i64).bits a ||| BitVec.ofInt (IntKind.i64).bits b).toNat : Int) = ((a.toNat ||| b.toNat : Nat) : Int) := by
 obtain ⟨n, rfl⟩ := Int.eq_ofNat_of_zero_le h1
 obtain ⟨m, rfl⟩ := Int.eq_ofNat_of_zero_le h3
 exact rf (by omega) (by omega)
theorem kt {a : Nat} {n : Nat} (ha : a ≤ 255) (hn : n ≤ 8) : a * 2 ^ n ≤ 65280 := by
 have : 2 ^ n ≤ 2 ^ 8 := Nat.pow_le_pow_right (by omega) hn
 calc a * 2 ^ n ≤ 255 * 2 ^ 8 := Nat.mul_le_mul ha this
  _ = 65280 := by decide
theorem p8 {a n : Int} (ha : 0 ≤ a ∧ a ≤ 255) (hn : 0 ≤ n ∧ n ≤ 8) : IntKind.wrap .i64 (a * 2 ^ min n.toNat 64) = ((a.toNat * 2 ^ n.toNat : Nat) : Int) := by
 obtain ⟨x, rfl⟩ := Int.eq_ofNat_of_zero_le ha.1
 obtain ⟨m, rfl⟩ := Int.eq_ofNat_of_zero_le hn.1
 have hb := kt (a := x) (n := m) (by omega) (by omega)
 rw [Int.toNat_natCast, Int.toNat_natCast, Nat.min_eq_left (by omega)]
 have e : ((x : Int) * 2 ^ m) = ((x * 2 ^ m : Nat) : Int) := by simp
 rw [e]
 exact cp (by omega)
theorem p9 {a b n : Int} (ha : 0 ≤ a ∧ a ≤ 255) (hn : 0 ≤ n ∧ n ≤ 8) (hb : 0 ≤ b ∧ b ≤ 255) : IntKind.wrap .i64 ((BitVec.ofInt (IntKind.i64).bits ((a.toNat * 2 ^ n.toNat : Nat) : Int) ||| BitVec.ofInt (IntKind.i64).bits b).toNat : Int) = ((a.toNat * 2 ^ n.toNat ||| b.toNat : Nat) : Int) := by
 have h := kt (a := a.toNat) (n := n.toNat) (by omega) (by omega)
 obtain ⟨m, rfl⟩ := Int.eq_ofNat_of_zero_le hb.1
 exact rf (by omega) (by omega)
theorem qa {a n : Int} (h : 0 ≤ n) (h2 : n ≤ 62) : Int.fdiv a (2 ^ min n.toNat 64) = a / 2 ^ n.toNat := by
 rw [Nat.min_eq_left (by omega), Int.fdiv_eq_ediv_of_nonneg _ (Int.le_of_lt (Int.pow_pos (by decide)))]
theorem jq {op : Int} {ws : List Int} {k w : Int} (h : jp op ws k w = true) : (ws.length : Int) = am op ∧ ws.all ao = true ∧ ao (aG op ws k w) = true := by
 unfold jp at h
 simp only [Bool.and_eq_true, decide_eq_true_eq] at h
 exact ⟨h.1.1, h.1.2, h.2⟩
theorem nC {ws : List Int} {k w : Int} (h : jp 10 ws k w = true) : ws.getD 0 0 = 1 := by
 have h3 := bM.1 (jq h).2.2
 have e : aG 10 ws k w = (if ws.getD 0 0 ≠ 1 ∨ ws.getD 1 0 ≠ ws.getD 2 0 then 0 else ws.getD 1 0) := rfl
 rw [e] at h3
 split at h3
 ·omega
 ·rename_i hn
  refine Decidable.byContradiction fun hh => hn (.inl hh)
theorem nG {ws : List Int} {k w : Int} (h : jp 12 ws k w = true) : 0 ≤ k ∧ k ≤ 8 ∧ ao w = true := by
 obtain ⟨h1, h2, h3⟩ := jq h
 have h3 := bM.1 h3
 have e : aG 12 ws k w = (if ao w = false ∨ k < 0 ∨ ws.getD 0 0 - w < k then 0 else w) := rfl
 rw [e] at h3
 have hA : am 12 = 1 := by decide
 rw [hA] at h1
 have f0 := aj h2 (i := 0) (by omega)
 split at h3
 ·omega
 ·rename_i hn
  simp only [not_or, Bool.not_eq_false] at hn
  have := bM.1 hn.1
  exact ⟨by omega, by omega, hn.1⟩
theorem ax {op : Int} {ws xs nums : List Int} (h : bu op ws xs nums = false) : aB op ws xs nums = 0 ∧ aF op ws xs nums = 1 := by
 unfold aB aF
 rw [h]
 exact ⟨rfl, rfl⟩
theorem bU {op : Int} {ws xs nums : List Int} (h1 : nums.length = 2) (h2 : xs.length = ws.length) (h3 : jp op ws (nums.getD 0 0) (nums.getD 1 0) = true) (h4 : oI ws xs = true) : aB op ws xs nums = ft op ws xs (nums.getD 0 0) (nums.getD 1 0) ∧ aF op ws xs nums = 0 := by
 have h : bu op ws xs nums = true := by
  unfold bu
  rw [decide_eq_true h1, decide_eq_true h2, h3, h4]
  rfl
 unfold aB aF
 rw [h]
 exact ⟨rfl, rfl⟩
theorem gd {op : Int} {ws xs nums : List Int} (h : nums.length ≠ 2) : bu op ws xs nums = false := by
 unfold bu
 rw [decide_eq_false h]
 rfl
theorem ge {op : Int} {ws xs nums : List Int} (h : xs.length ≠ ws.length) : bu op ws xs nums = false := by
 unfold bu
 rw [decide_eq_false h, Bool.and_false]
 rfl
theorem aU {op : Int} {ws xs nums : List Int} (h : jp op ws (nums.getD 0 0) (nums.getD 1 0) = false) : bu op ws xs nums = false := by
 unfold bu
 rw [h, Bool.and_false]
 rfl
theorem dl {op : Int} {ws xs nums : List Int} {i : Nat} (hi : i < xs.length) (h : xs.getD i 0 < 0 ∨ aa (ws.getD i 0) < xs.getD i 0) : bu op ws xs nums = false := by
 have : oI ws xs = false := by
  rw [Bool.eq_false_iff]
  intro hh
  have := aE hh hi
  omega
 unfold bu
 rw [this, Bool.and_false]
theorem po {ws xs : List Int} (h : ∀ i, i < xs.length → 0 ≤ xs.getD i 0 ∧ xs.getD i 0 ≤ aa (ws.getD i 0)) : oI ws xs = true := by
 unfold oI
 rw [List.all_eq_true]
 intro i hi
 have := h i (List.mem_range.1 hi)
 rw [decide_eq_true this.1, decide_eq_true this.2]
 rfl
theorem qb {p : Nat → Prop} {i : Nat} (h : ∀ j, j < i → p j) (hi : p i) : ∀ j, j < i + 1 → p j := fun j hj => by
 rcases Nat.lt_or_ge j i with h1 | h1
 ·exact h j h1
 ·have : j = i := by omega
  rw [this]; exact hi
def l3 (op : Int) (ws : List Int) : Bool := decide ((ws.length : Int) = am op) && ws.all ao
theorem mQ (op : Int) (ws : List Int) (k w : Int) : jp op ws k w = (l3 op ws && ao (aG op ws k w)) := rfl
theorem ld {op : Int} {ws : List Int} (h : l3 op ws = true) : (ws.length : Int) = am op ∧ ws.all ao = true := by
 unfold l3 at h
 simp only [Bool.and_eq_true, decide_eq_true_eq] at h
 exact h
theorem pp {op : Int} {ws : List Int} (h : l3 op ws = false) : (ws.length : Int) ≠ am op ∨ ((ws.length : Int) = am op ∧ ws.all ao = false) := by
 unfold l3 at h
 by_cases h1 : (ws.length : Int) = am op
 ·rw [decide_eq_true h1, Bool.true_and] at h
  exact .inr ⟨h1, h⟩
 ·exact .inl h1
theorem mR {l : List Bool} {h j : Nat} (hj : j < h) : (l.take h).getD j false = l.getD j false := by
 unfold List.getD
 rw [List.getElem?_take, if_pos hj]
theorem ol {α : Type} {a b : List α} {d : α} {k : Nat} (hl : a.length = b.length) (hk : k < a.length) (h : a.take k = b.take k) (hx : a.getD k d = b.getD k d) : a.take (k + 1) = b.take (k + 1) := by
 rw [List.take_succ_eq_append_getElem hk, List.take_succ_eq_append_getElem (hl ▸ hk), h]
 simp only [List.getD, List.getElem?_eq_getElem hk, List.getElem?_eq_getElem (hl ▸ hk), Option.getD_some] at hx
 rw [hx]
theorem qc {α : Type} {a b : List α} {d : α} {k : Nat} (hx : a.getD k d ≠ b.getD k d) : a ≠ b := fun e => hx (by rw [e])
theorem pr {α : Type} {a b : List α} {k : Nat} (hl : a.length = b.length) (hk : a.length ≤ k) (h : a.take k = b.take k) : a = b := by
 rwa [List.take_of_length_le hk, List.take_of_length_le (by omega)] at h
def b4 (op : Int) (ws xs : List Int) : Int := if aF op ws xs [0, 0] ≠ 0 then -1 else aB op ws xs [0, 0]
def oo (v w k n : Int) : Int := if aF 12 [w] [v] [k, n] ≠ 0 then -1 else aB 12 [w] [v] [k, n]
def oq (v w to : Int) : Int := if aF 13 [w] [v] [0, to] ≠ 0 then -1 else aB 13 [w] [v] [0, to]
def aQ (v : Int) : Nat → Int
 | 0 => v
 | k + 1 => aQ v k / 2
def aH (v : Int) (m : Nat) : List Bool := (List.range m).map fun k => aQ v k % 2 == 1
theorem l4 (v : Int) (k : Nat) : aH v (k + 1) = aH v k ++ [aQ v k % 2 == 1] := by simp [aH, List.range_succ]
theorem mS (v : Int) (m : Nat) : (aH v m).length = m := by simp [aH]
def da (v w : Int) : List Bool := if w < 0 ∨ 62 < w then [] else aH v w.toNat
theorem qd (x : Int) : IntKind.wrap .i64 ((BitVec.ofInt (IntKind.i64).bits x &&& BitVec.ofInt (IntKind.i64).bits 1).toNat : Int) = x % 2 := by
 have := eM (x := x) (n := 1) (by omega)
 simpa using this
theorem qe (x : Int) : Int.fdiv x (2 ^ min 1 64) = x / 2 := by
 rw [Int.fdiv_eq_ediv_of_nonneg _ (Int.le_of_lt (Int.pow_pos (by decide)))]
 rfl
def joinN (l : List Bool) : Nat → Nat
 | 0 => 0
 | k + 1 => joinN l k + (if l.getD k false then 2 ^ k else 0)
theorem l5 (l : List Bool) : ∀ k, joinN l k < 2 ^ k
 | 0 => by simp [joinN]
 | k + 1 => by
  have := l5 l k
  rw [joinN, Nat.pow_succ]
  split <;> omega
theorem ot {l : List Bool} {k : Nat} (hk : k < 62) : IntKind.wrap .i64 ((BitVec.ofInt (IntKind.i64).bits ((joinN l k : Nat) : Int) ||| BitVec.ofInt (IntKind.i64).bits (IntKind.wrap .i64 ((if l.getD k false = true then 1 else 0) * 2 ^ min k 64))).toNat : Int) = ((joinN l (k + 1) : Nat) : Int) := by
 have h1 := l5 l k
 have hp : (2 : Nat) ^ k ≤ 2 ^ 61 := Nat.pow_le_pow_right (by omega) (by omega)
 have e : (IntKind.wrap .i64 ((if l.getD k false = true then 1 else 0) * 2 ^ min k 64)) = (((if l.getD k false = true then 2 ^ k else 0 : Nat)) : Int) := by
  rw [Nat.min_eq_left (by omega)]
  split
  ·rw [Int.one_mul]
   have : ((2 : Int) ^ k) = ((2 ^ k : Nat) : Int) := by simp
   rw [this]
   exact cp (by omega)
  ·rw [Int.zero_mul]; rfl
 rw [e, rf (by omega) (by split <;> omega)]
 congr 1
 rw [joinN]
 split
 ·rw [Nat.or_comm, show (2 : Nat) ^ k = 2 ^ k * 1 from by omega, ← Nat.two_pow_add_eq_or_of_lt h1]
  omega
 ·simp
end Go.Proofs.Ytaghhicmnalmmaa
