/-
  Operators on bits, plain law: bit by bit.
-/
import Derived.Test.YtaghhicmnalmmaaBitR
namespace Go.Proofs.Ytaghhicmnalmmaa
open Go.RowKit
set_option linter.unusedVariables false
set_option linter.unusedSimpArgs false

def bitsN (f : Nat → Bool) (n : Nat) : List Bool := (List.range n).map f
theorem bitsN_len (f : Nat → Bool) (n : Nat) : (bitsN f n).length = n := by simp [bitsN]
theorem bitsN_succ (f : Nat → Bool) (n : Nat) : bitsN f (n + 1) = bitsN f n ++ [f n] := by simp [bitsN, List.range_succ]
theorem bitsN_get {f : Nat → Bool} {n i : Nat} (h : i < n) : (bitsN f n).getD i false = f i := by
  simp [bitsN, List.getD, h]
theorem shrF_nat (p : Nat) : ∀ k, shrF (p : Int) k = ((p / 2 ^ k : Nat) : Int)
  | 0 => by simp [shrF]
  | k + 1 => by
    rw [shrF, shrF_nat p k, Nat.pow_succ, ← Nat.div_div_eq_div_mul]
    simp
theorem split_bits {p n : Nat} (hn : n ≤ 62) : splitF (p : Int) (n : Int) = bitsN (Nat.testBit p) n := by
  unfold splitF
  rw [if_neg (by omega), Int.toNat_natCast]
  unfold splitN bitsN
  refine List.map_congr_left (fun k _ => ?_)
  rw [shrF_nat, Nat.testBit_eq_decide_div_mod_eq]
  by_cases h : p / 2 ^ k % 2 = 1
  · rw [decide_eq_true h]
    exact beq_iff_eq.2 (by omega)
  · rw [decide_eq_false h]
    exact beq_eq_false_iff_ne.2 (by omega)
theorem join_bits0 {f : Nat → Bool} {n x : Nat} (h : ∀ i, i < n → x.testBit i = f i) : ∀ k, k ≤ n → joinN (bitsN f n) k = x % 2 ^ k
  | 0, _ => by simp [joinN, Nat.mod_one]
  | k + 1, hk => by
    rw [joinN, join_bits0 h k (by omega), bitsN_get (by omega), ← h k (by omega), Nat.mod_pow_succ, Nat.testBit_eq_decide_div_mod_eq]
    rcases (show x / 2 ^ k % 2 = 0 ∨ x / 2 ^ k % 2 = 1 from by omega) with e | e <;> simp [e]
theorem join_bits {f : Nat → Bool} {n x : Nat} (hn : n ≤ 62) (hx : x < 2 ^ n) (h : ∀ i, i < n → x.testBit i = f i) : joinN (bitsN f n) (min (bitsN f n).length 62) = x := by
  rw [bitsN_len, Nat.min_eq_left hn, join_bits0 h n (Nat.le_refl _), Nat.mod_eq_of_lt hx]
theorem join_not {n p : Nat} (hn : n ≤ 62) (hp : p < 2 ^ n) : joinN (bitsN (fun i => !p.testBit i) n) (min (bitsN (fun i => !p.testBit i) n).length 62) = 2 ^ n - 1 - p :=
  join_bits hn (by have := Nat.two_pow_pos n; omega) (fun i hi => by rw [bit_not hp]; simp [hi])
theorem join_and {n p q : Nat} (hn : n ≤ 62) (hp : p < 2 ^ n) : joinN (bitsN (fun i => p.testBit i && q.testBit i) n) (min (bitsN (fun i => p.testBit i && q.testBit i) n).length 62) = p &&& q :=
  join_bits hn (and_lt hp) (fun i _ => Nat.testBit_and ..)
theorem join_or {n p q : Nat} (hn : n ≤ 62) (hp : p < 2 ^ n) (hq : q < 2 ^ n) : joinN (bitsN (fun i => p.testBit i || q.testBit i) n) (min (bitsN (fun i => p.testBit i || q.testBit i) n).length 62) = p ||| q :=
  join_bits hn (Nat.or_lt_two_pow hp hq) (fun i _ => Nat.testBit_or ..)
theorem join_xor {n p q : Nat} (hn : n ≤ 62) (hp : p < 2 ^ n) (hq : q < 2 ^ n) : joinN (bitsN (fun i => p.testBit i != q.testBit i) n) (min (bitsN (fun i => p.testBit i != q.testBit i) n).length 62) = p ^^^ q :=
  join_bits hn (Nat.xor_lt_two_pow hp hq) (fun i _ => by rw [Nat.testBit_xor])
def muxF (s p q : Nat) : Nat := if s = 1 then p else q
def muxB (s p q i : Nat) : Bool := if s = 1 then p.testBit i else q.testBit i
theorem join_mux {n s p q : Nat} (hn : n ≤ 62) (hp : p < 2 ^ n) (hq : q < 2 ^ n) : joinN (bitsN (muxB s p q) n) (min (bitsN (muxB s p q) n).length 62) = muxF s p q :=
  join_bits hn (by unfold muxF; split <;> assumption) (fun i _ => by unfold muxF muxB; split <;> rfl)
theorem app_mux {n s p q : Nat} (h : 1 ≤ n ∧ n ≤ 8) (hs : s < 2) (hp : p < 2 ^ n) (hq : q < 2 ^ n) : appF 10 [1, (n : Int), n] [(s : Int), p, q] = ((muxF s p q : Nat) : Int) := by
  have hok : okF 10 [1, (n : Int), n] 0 0 = true := by
    have h1 : fitsF 1 = true := by decide
    have e : wvF 10 [1, (n : Int), n] 0 0 = n := by
      show (if (1 : Int) ≠ 1 ∨ (n : Int) ≠ n then (0 : Int) else n) = n
      rw [if_neg (by simp)]
    simp [okF, arityF, e, fits_nat8 h, h1]
  have hin : inF [1, (n : Int), n] [(s : Int), p, q] = true := in_all (fun i hi => by
    match i with
    | 0 => show 0 ≤ (s : Int) ∧ (s : Int) ≤ maskF (1 : Nat); rw [maskN (by omega)]; omega
    | 1 => show 0 ≤ (p : Int) ∧ (p : Int) ≤ maskF (n : Int); rw [maskN (by omega)]; omega
    | 2 => show 0 ≤ (q : Int) ∧ (q : Int) ≤ maskF (n : Int); rw [maskN (by omega)]; omega
    | i + 3 => simp at hi; omega)
  rw [app_ok (ws := [1, (n : Int), n]) (xs := [(s : Int), p, q]) rfl hok hin]
  show [(s : Int), p, q].getD (2 - (s : Int)).toNat 0 = _
  unfold muxF
  rcases (show s = 0 ∨ s = 1 from by omega) with rfl | rfl <;> rfl

end Go.Proofs.Ytaghhicmnalmmaa
