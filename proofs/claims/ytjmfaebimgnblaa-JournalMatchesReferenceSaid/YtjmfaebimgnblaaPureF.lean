/-
  A path climbed by its sides, from the bottom up, ends where the climb of the tree ends. No program in sight.
-/
import Derived.Test.YtjmfaebimgnblaaPureE
namespace Go.Proofs.Ytjmfaebimgnblaa
open Go.RowKit

theorem sides_len : ∀ (n : Nat) (l : List Int) (i : Nat), l.length = n → i < l.length → (sidesF l.length i).length = (pathF l i).length := by
  intro n
  induction n using Nat.strongRecOn with
  | _ n ih =>
    intro l i hn hi
    by_cases h1 : l.length ≤ 1
    · rw [pathF_small l i h1, sides_small _ _ h1]; rfl
    · have h2 : 2 ≤ l.length := by omega
      have hlt := halfF_lt l.length h2
      have hp := halfF_pos l.length
      rw [sides_top l.length i h2 hi]
      by_cases hih : i < halfF l.length
      · have hl : (l.take (halfF l.length)).length = halfF l.length := by simp; omega
        have key := ih _ (by omega) (l.take (halfF l.length)) i hl (by omega)
        rw [hl] at key
        rw [if_pos hih, pathF_lo l i h2 hih, List.length_append, List.length_append, key]
        rfl
      · have hl : (l.drop (halfF l.length)).length = l.length - halfF l.length := by simp
        have key := ih _ (by omega) (l.drop (halfF l.length)) (i - halfF l.length) hl (by omega)
        rw [hl] at key
        rw [if_neg hih, pathF_hi l i h2 (by omega), List.length_append, List.length_append, key]
        rfl

/-- One step up. -/
def upF (h o : Int) (b : Bool) : Int := if b then joinF o h else joinF h o
def foldUp (h : Int) : List Int → List Bool → Int
  | o :: q, b :: s => foldUp (upF h o b) q s
  | _, _ => h

theorem foldUp_snoc : ∀ (q : List Int) (s : List Bool) (h o : Int) (b : Bool), q.length = s.length → foldUp h (q ++ [o]) (s ++ [b]) = upF (foldUp h q s) o b
  | [], [], _, _, _, _ => rfl
  | x :: q, c :: s, h, o, b, e => by
    show foldUp (upF h x c) (q ++ [o]) (s ++ [b]) = upF (foldUp (upF h x c) q s) o b
    exact foldUp_snoc q s _ o b (by simpa using e)
  | [], _ :: _, _, _, _, e => by simp at e
  | _ :: _, [], _, _, _, e => by simp at e

theorem foldUp_take (q : List Int) (s : List Bool) (h : Int) (k : Nat) (o : Int) (b : Bool) (hq : q[k]? = some o) (hs : s[k]? = some b) : foldUp h (q.take (k + 1)) (s.take (k + 1)) = upF (foldUp h (q.take k) (s.take k)) o b := by
  have h1 := (List.getElem?_eq_some_iff.1 hq).1
  have h2 := (List.getElem?_eq_some_iff.1 hs).1
  rw [List.take_add_one, List.take_add_one, hq, hs]
  exact foldUp_snoc _ _ _ _ _ (by simp; omega)

theorem climb_sides : ∀ (n i : Nat) (h : Int) (q : List Int), 1 ≤ n → i < n → q.length = (sidesF n i).length → (climbF n i h q).1 = foldUp h q (sidesF n i) := by
  intro n
  induction n using Nat.strongRecOn with
  | _ n ih =>
    intro i h q hn hi hq
    by_cases h1 : n = 1
    · have hs := sides_small n i (by omega)
      rw [hs] at hq ⊢
      have : q = [] := List.eq_nil_of_length_eq_zero hq
      subst this
      rw [h1]
      unfold climbF
      rw [climbN_one]
      simp [foldUp]
    · have h2 : 2 ≤ n := by omega
      have hlt := halfF_lt n h2
      have hp := halfF_pos n
      rw [sides_top n i h2 hi] at hq ⊢
      have hne : q ≠ [] := by
        intro e
        subst e
        split at hq <;> simp at hq
      obtain ⟨q0, z, rfl⟩ := snoc_of q hne
      by_cases hih : i < halfF n
      · rw [if_pos hih] at hq ⊢
        have hq0 : q0.length = (sidesF (halfF n) i).length := by simpa using hq
        rw [climbF_lo _ _ _ _ h1 hne hih, dropLast_snoc, getLastD_snoc, ih _ hlt i h q0 hp hih hq0, foldUp_snoc _ _ _ _ _ hq0]
        simp [upF]
      · rw [if_neg hih] at hq ⊢
        have hq0 : q0.length = (sidesF (n - halfF n) (i - halfF n)).length := by simpa using hq
        rw [climbF_hi _ _ _ _ h1 hne (by omega), dropLast_snoc, getLastD_snoc, ih _ (by omega) (i - halfF n) h q0 (by omega) (by omega) hq0, foldUp_snoc _ _ _ _ _ hq0]
        simp [upF]

/-- What an accepted path says. -/
theorem check_ok (l : List Int) (i : Nat) (x : Int) (q : List Int) (hi : i < l.length) (hl : l.length ≤ 4096) (h : checkF (rootF l) (l.length : Int) (i : Int) x q = 0) :
    q.length = (pathF l i).length ∧ foldUp x q (sidesF l.length i) = rootF l := by
  unfold checkF at h
  rw [if_neg (by simp [badCheck]; omega)] at h
  simp only [Int.toNat_natCast] at h
  have hf := climb_fits _ l i x q rfl hi
  by_cases hc : (climbF l.length i x q).2 = true ∧ (climbF l.length i x q).1 = rootF l
  · have hq : q.length = (pathF l i).length := by
      have := hc.1
      rw [hf] at this
      exact of_decide_eq_true this
    refine ⟨hq, ?_⟩
    rw [← climb_sides l.length i x q (by omega) hi (by rw [sides_len _ l i rfl hi]; exact hq)]
    exact hc.2
  · rw [if_neg hc] at h
    cases h

end Go.Proofs.Ytjmfaebimgnblaa
