/-
  Paths lead to roots: plain laws on digests of trees.
-/
import Derived.Test.YtjmfaebimgnblaaDigE
namespace Go.Proofs.Ytjmfaebimgnblaa
open Go.RowKit

theorem halfF_two_pow (n b : Nat) (h : 2 ≤ n) (hb : n ≤ 2 ^ (b + 1)) : halfF n ≤ 2 ^ b := by
  unfold halfF
  refine Nat.pow_le_pow_right (by omega) ?_
  have h1 : Nat.log2 (n - 1) < b + 1 := (Nat.log2_lt (by omega)).2 (by omega)
  omega

theorem pathF_bits : ∀ (b : Nat) (l : List Int) (i : Nat), l.length ≤ 2 ^ b → (pathF l i).length ≤ b := by
  intro b
  induction b with
  | zero =>
    intro l i h
    rw [pathF_small l i (by simpa using h)]
    simp
  | succ b ih =>
    intro l i h
    by_cases h1 : l.length ≤ 1
    · rw [pathF_small l i h1]; simp
    · have hp := halfF_two_pow l.length b (by omega) h
      have hle := halfF_le l.length (by omega)
      by_cases hi : i < halfF l.length
      · rw [pathF_lo l i (by omega) hi, List.length_append]
        have := ih (l.take (halfF l.length)) i (by simp; omega)
        simp only [List.length_cons, List.length_nil]
        omega
      · rw [pathF_hi l i (by omega) (by omega), List.length_append]
        have := ih (l.drop (halfF l.length)) (i - halfF l.length) (by simp; omega)
        simp only [List.length_cons, List.length_nil]
        omega

theorem dropLast_snoc (p : List Int) (x : Int) : (p ++ [x]).dropLast = p := by simp
theorem getLastD_snoc (p : List Int) (x : Int) : (p ++ [x]).getLastD 0 = x := by simp [List.getLastD_eq_getLast?]

/-- THE LAW OF PATHS: a leaf and its path lead to the root. -/
theorem climb_path : ∀ (n : Nat) (l : List Int) (i : Nat) (x : Int), l.length = n → l[i]? = some x → climbF l.length i x (pathF l i) = (rootF l, true) := by
  intro n
  induction n using Nat.strongRecOn with
  | _ n ih =>
    intro l i x hn hx
    have hi := (List.getElem?_eq_some_iff.1 hx).1
    by_cases h1 : l.length = 1
    · obtain ⟨y, rfl⟩ := List.length_eq_one_iff.1 h1
      have : i = 0 := by simp at hi; omega
      subst this
      simp at hx
      subst hx
      rw [pathF_small _ _ (by simp)]
      rfl
    · have h2 : 2 ≤ l.length := by omega
      have hlt := halfF_lt l.length h2
      have hp := halfF_pos l.length
      by_cases hih : i < halfF l.length
      · have hl : (l.take (halfF l.length)).length = halfF l.length := by simp; omega
        have hx' : (l.take (halfF l.length))[i]? = some x := by rw [List.getElem?_take, if_pos hih]; exact hx
        have key := ih _ (by omega) _ i x hl hx'
        rw [hl] at key
        rw [pathF_lo l i h2 hih, climbF_lo _ _ _ _ (by omega) (by simp) hih, dropLast_snoc, getLastD_snoc, key, rootF_two l h2]
      · have hl : (l.drop (halfF l.length)).length = l.length - halfF l.length := by simp
        have hx' : (l.drop (halfF l.length))[i - halfF l.length]? = some x := by rw [List.getElem?_drop, show halfF l.length + (i - halfF l.length) = i from by omega]; exact hx
        have key := ih _ (by omega) _ (i - halfF l.length) x hl hx'
        rw [hl] at key
        rw [pathF_hi l i h2 (by omega), climbF_hi _ _ _ _ (by omega) (by simp) (by omega), dropLast_snoc, getLastD_snoc, key, rootF_two l h2]

theorem check_path (l : List Int) (i : Nat) (x : Int) (hx : l[i]? = some x) (hl : l.length ≤ 4096) : checkF (rootF l) (l.length : Int) (i : Int) x (pathF l i) = 0 := by
  have hi := (List.getElem?_eq_some_iff.1 hx).1
  unfold checkF
  rw [if_neg (by simp [badCheck]; omega)]
  simp only [Int.toNat_natCast, climb_path _ l i x rfl hx]
  simp

end Go.Proofs.Ytjmfaebimgnblaa
