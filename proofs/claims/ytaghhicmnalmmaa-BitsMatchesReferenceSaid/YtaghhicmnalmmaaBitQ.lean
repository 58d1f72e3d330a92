/-
  Operators on bits, plain law: what the laws say of them.
-/
import Derived.Test.YtaghhicmnalmmaaBitP
namespace Go.Proofs.Ytaghhicmnalmmaa
open Go.RowKit
set_option linter.unusedVariables false
set_option linter.unusedSimpArgs false

theorem tmodN (a b : Nat) : Int.tmod (a : Int) (b : Int) = ((a % b : Nat) : Int) := (Int.ofNat_tmod a b).symm
theorem maskN {n : Nat} (h : n ≤ 62) : maskF (n : Int) = ((2 ^ n - 1 : Nat) : Int) := by
  rw [maskF_in (by omega) (by omega), Int.toNat_natCast]
  have h1 : 1 ≤ (2 : Nat) ^ n := Nat.one_le_two_pow
  have e : ((2 : Int) ^ n) = ((2 ^ n : Nat) : Int) := by simp
  rw [e]
  omega
theorem mask_and {a n : Nat} (h : n ≤ 62) : IntKind.wrap .i64 ((BitVec.ofInt (IntKind.i64).bits (a : Int) &&& BitVec.ofInt (IntKind.i64).bits (maskF (n : Int))).toNat : Int) = ((a % 2 ^ n : Nat) : Int) := by
  rw [maskF_in (by omega) (by omega), Int.toNat_natCast, and_mask h]
  simp
theorem app_ok {op : Int} {ws xs : List Int} (h1 : xs.length = ws.length) (h2 : okF op ws 0 0 = true) (h3 : inF ws xs = true) : appF op ws xs = avF op ws xs 0 0 := by
  obtain ⟨e1, e2⟩ := ap_yes (nums := [0, 0]) rfl h1 h2 h3
  unfold appF
  rw [e2, e1]
  rfl
theorem sli_ok {v w k n : Int} (h2 : okF 12 [w] k n = true) (h3 : inF [w] [v] = true) : sliF v w k n = v / 2 ^ k.toNat % 2 ^ n.toNat := by
  obtain ⟨e1, e2⟩ := ap_yes (ws := [w]) (xs := [v]) (nums := [k, n]) rfl rfl h2 h3
  unfold sliF
  rw [e2, e1]
  rfl
theorem ext_ok2 {v w to : Int} (h2 : okF 13 [w] 0 to = true) (h3 : inF [w] [v] = true) : extF v w to = v := by
  obtain ⟨e1, e2⟩ := ap_yes (ws := [w]) (xs := [v]) (nums := [0, to]) rfl rfl h2 h3
  unfold extF
  rw [e2, e1]
  rfl
theorem in_two {n m : Nat} {a b : Nat} (hn : n ≤ 8) (hm : m ≤ 8) (ha : a < 2 ^ n) (hb : b < 2 ^ m) : inF [(n : Int), m] [(a : Int), b] = true := in_all (fun i hi => by
  match i with
  | 0 => show 0 ≤ (a : Int) ∧ (a : Int) ≤ maskF (n : Int); rw [maskN (by omega)]; omega
  | 1 => show 0 ≤ (b : Int) ∧ (b : Int) ≤ maskF (m : Int); rw [maskN (by omega)]; omega
  | i + 2 => simp at hi; omega)
theorem in_one {n : Nat} {a : Nat} (hn : n ≤ 8) (ha : a < 2 ^ n) : inF [(n : Int)] [(a : Int)] = true := in_all (fun i hi => by
  match i with
  | 0 => show 0 ≤ (a : Int) ∧ (a : Int) ≤ maskF (n : Int); rw [maskN (by omega)]; omega
  | i + 1 => simp at hi)
theorem fits_nat8 {n : Nat} (h : 1 ≤ n ∧ n ≤ 8) : fitsF (n : Int) = true := fits_iff.2 (by omega)
theorem ok_two {op : Int} (hop : 3 ≤ op ∧ op ≤ 9) {n : Nat} (h : 1 ≤ n ∧ n ≤ 8) : okF op [(n : Int), n] 0 0 = true := by
  have hf := fits_nat8 h
  have ha : alikeF [(n : Int), n] = n := by simp [alikeF]
  have h1 : fitsF (min (n : Int) 1) = true := fits_iff.2 (by omega)
  have : op = 3 ∨ op = 4 ∨ op = 5 ∨ op = 6 ∨ op = 7 ∨ op = 8 ∨ op = 9 := by omega
  rcases this with rfl | rfl | rfl | rfl | rfl | rfl | rfl <;> simp [okF, arityF, wvF, ha, hf, h1]
theorem ok_not {n : Nat} (h : 1 ≤ n ∧ n ≤ 8) : okF 2 [(n : Int)] 0 0 = true := by
  simp [okF, arityF, wvF, fits_nat8 h]
theorem ok_slice {w k n : Nat} (hw : 1 ≤ w ∧ w ≤ 8) (hn : 1 ≤ n ∧ k + n ≤ w) : okF 12 [(w : Int)] (k : Int) (n : Int) = true := by
  have e : wvF 12 [(w : Int)] (k : Int) (n : Int) = (if fitsF (n : Int) = false ∨ (k : Int) < 0 ∨ (w : Int) - n < k then 0 else (n : Int)) := rfl
  have hf := fits_nat8 (n := n) (by omega)
  have h2 : wvF 12 [(w : Int)] (k : Int) (n : Int) = n := by
    rw [e, if_neg]
    rintro (h | h | h)
    · rw [hf] at h; cases h
    · omega
    · omega
  simp [okF, arityF, h2, hf, fits_nat8 hw]
theorem ok_ext {w to : Nat} (hw : 1 ≤ w ∧ w ≤ to) (ht : to ≤ 8) : okF 13 [(w : Int)] 0 (to : Int) = true := by
  have e : wvF 13 [(w : Int)] 0 (to : Int) = (if (to : Int) < (w : Int) then 0 else (to : Int)) := rfl
  have h2 : wvF 13 [(w : Int)] 0 (to : Int) = to := by rw [e, if_neg (by omega)]
  simp [okF, arityF, h2, fits_nat8 (n := to) (by omega), fits_nat8 (n := w) (by omega)]
theorem app_lt {n x y : Nat} (h : 1 ≤ n ∧ n ≤ 8) (hx : x < 2 ^ n) (hy : y < 2 ^ n) : appF 9 [(n : Int), n] [(x : Int), y] = if x < y then 1 else 0 := by
  rw [app_ok (ws := [(n : Int), n]) (xs := [(x : Int), y]) rfl (ok_two (by omega) h) (in_two h.2 h.2 hx hy)]
  show (if (x : Int) < (y : Int) then (1 : Int) else 0) = _
  by_cases hc : x < y
  · rw [if_pos hc, if_pos (by omega)]
  · rw [if_neg hc, if_neg (by omega)]
theorem app_eq {n x y : Nat} (h : 1 ≤ n ∧ n ≤ 8) (hx : x < 2 ^ n) (hy : y < 2 ^ n) : appF 8 [(n : Int), n] [(x : Int), y] = if x = y then 1 else 0 := by
  rw [app_ok (ws := [(n : Int), n]) (xs := [(x : Int), y]) rfl (ok_two (by omega) h) (in_two h.2 h.2 hx hy)]
  show (if (x : Int) = (y : Int) then (1 : Int) else 0) = _
  by_cases hc : x = y
  · rw [if_pos hc, if_pos (by omega)]
  · rw [if_neg hc, if_neg (by omega)]
theorem app_sub {n x y : Nat} (h : 1 ≤ n ∧ n ≤ 8) (hx : x < 2 ^ n) (hy : y < 2 ^ n) : appF 7 [(n : Int), n] [(x : Int), y] = ((x : Int) - y) % 2 ^ n := by
  rw [app_ok (ws := [(n : Int), n]) (xs := [(x : Int), y]) rfl (ok_two (by omega) h) (in_two h.2 h.2 hx hy)]
  rfl
theorem app_add {n x y : Nat} (h : 1 ≤ n ∧ n ≤ 8) (hx : x < 2 ^ n) (hy : y < 2 ^ n) : appF 6 [(n : Int), n] [(x : Int), y] = (((x + y) % 2 ^ n : Nat) : Int) := by
  rw [app_ok (ws := [(n : Int), n]) (xs := [(x : Int), y]) rfl (ok_two (by omega) h) (in_two h.2 h.2 hx hy)]
  show ((x : Int) + y) % 2 ^ n = _
  simp
theorem app_and {n x y : Nat} (h : 1 ≤ n ∧ n ≤ 8) (hx : x < 2 ^ n) (hy : y < 2 ^ n) : appF 3 [(n : Int), n] [(x : Int), y] = ((x &&& y : Nat) : Int) := by
  rw [app_ok (ws := [(n : Int), n]) (xs := [(x : Int), y]) rfl (ok_two (by omega) h) (in_two h.2 h.2 hx hy)]
  rfl
theorem app_or {n x y : Nat} (h : 1 ≤ n ∧ n ≤ 8) (hx : x < 2 ^ n) (hy : y < 2 ^ n) : appF 4 [(n : Int), n] [(x : Int), y] = ((x ||| y : Nat) : Int) := by
  rw [app_ok (ws := [(n : Int), n]) (xs := [(x : Int), y]) rfl (ok_two (by omega) h) (in_two h.2 h.2 hx hy)]
  rfl
theorem app_xor {n x y : Nat} (h : 1 ≤ n ∧ n ≤ 8) (hx : x < 2 ^ n) (hy : y < 2 ^ n) : appF 5 [(n : Int), n] [(x : Int), y] = ((x ^^^ y : Nat) : Int) := by
  rw [app_ok (ws := [(n : Int), n]) (xs := [(x : Int), y]) rfl (ok_two (by omega) h) (in_two h.2 h.2 hx hy)]
  rfl
theorem app_not {n x : Nat} (h : 1 ≤ n ∧ n ≤ 8) (hx : x < 2 ^ n) : appF 2 [(n : Int)] [(x : Int)] = ((2 ^ n - 1 - x : Nat) : Int) := by
  rw [app_ok (ws := [(n : Int)]) (xs := [(x : Int)]) rfl (ok_not h) (in_one h.2 hx)]
  show (((x : Int).toNat ^^^ (maskF (n : Int)).toNat : Nat) : Int) = _
  rw [maskN (by omega), Int.toNat_natCast, Int.toNat_natCast]
  congr 1
  refine Nat.eq_of_testBit_eq (fun i => ?_)
  rw [Nat.testBit_xor, Nat.testBit_two_pow_sub_one, show 2 ^ n - 1 - x = 2 ^ n - (x + 1) from by omega, Nat.testBit_two_pow_sub_succ hx]
  by_cases hi : i < n
  · simp [hi]
  · have : x.testBit i = false := Nat.testBit_lt_two_pow (Nat.lt_of_lt_of_le hx (Nat.pow_le_pow_right (by omega) (by omega)))
    simp [hi, this]
theorem ext_val {n x to : Nat} (h : 1 ≤ n ∧ n ≤ to) (ht : to ≤ 8) (hx : x < 2 ^ n) : extF (x : Int) (n : Int) (to : Int) = (x : Int) := ext_ok2 (ok_ext h ht) (in_one (by omega) hx)
theorem sli_val {v w k n : Nat} (hw : 1 ≤ w ∧ w ≤ 8) (hn : 1 ≤ n ∧ k + n ≤ w) (hv : v < 2 ^ w) : sliF (v : Int) (w : Int) (k : Int) (n : Int) = ((v / 2 ^ k % 2 ^ n : Nat) : Int) := by
  rw [sli_ok (ok_slice hw hn) (in_one hw.2 hv)]
  simp
theorem sub_nat {n x y : Nat} (hx : x < 2 ^ n) (hy : y < 2 ^ n) : ((x : Int) - y) % 2 ^ n = (((x + (2 ^ n - y)) % 2 ^ n : Nat) : Int) := by
  have e : ((2 : Int) ^ n) = ((2 ^ n : Nat) : Int) := by simp
  have hp : 0 < (2 : Nat) ^ n := Nat.two_pow_pos n
  rw [e]
  have h2 : ((x + (2 ^ n - y) : Nat) : Int) = (x : Int) - y + ((2 ^ n : Nat) : Int) := by omega
  have e4 : ∀ a b : Nat, ((a % b : Nat) : Int) = (a : Int) % (b : Int) := fun a b => by first | exact Int.natCast_emod a b | simp
  rw [e4, h2, Int.add_emod_right]
/-- The highest bit of a difference of values with a bit more. -/
theorem high_bit {n x y : Nat} (hn : 1 ≤ n ∧ n ≤ 7) (hx : x < 2 ^ n) (hy : y < 2 ^ n) : (x + (2 ^ (n + 1) - y)) % 2 ^ (n + 1) / 2 ^ n % 2 ^ 1 = if x < y then 1 else 0 := by
  have : n = 1 ∨ n = 2 ∨ n = 3 ∨ n = 4 ∨ n = 5 ∨ n = 6 ∨ n = 7 := by omega
  rcases this with rfl | rfl | rfl | rfl | rfl | rfl | rfl <;> simp only [Nat.reducePow, Nat.reduceAdd] at * <;> split <;> omega

end Go.Proofs.Ytaghhicmnalmmaa
