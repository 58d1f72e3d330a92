/-
  Which side each digest of a path lies on, from the bottom of the tree up. No program in sight.
-/
import Derived.Test.YtjmfaebimgnblaaPureD
namespace Go.Proofs.Ytjmfaebimgnblaa
open Go.RowKit

/-- The side at the lowest level. -/
def sideB (n i : Nat) : List Bool := if i % 2 = 1 then [true] else if i + 1 < n then [false] else []
def sidesN : Nat → Nat → Nat → List Bool
  | 0, _, _ => []
  | f + 1, n, i => if n ≤ 1 then [] else sideB n i ++ sidesN f ((n + 1) / 2) (i / 2)
def sidesF (n i : Nat) : List Bool := sidesN n n i

theorem sidesN_eq : ∀ (f g n i : Nat), n ≤ f → n ≤ g → sidesN f n i = sidesN g n i := by
  intro f
  induction f with
  | zero =>
    intro g n i h _
    have : n = 0 := by omega
    subst this
    cases g <;> simp [sidesN]
  | succ f ih =>
    intro g n i h1 h2
    cases g with
    | zero =>
      have : n = 0 := by omega
      subst this
      simp [sidesN]
    | succ g =>
      simp only [sidesN]
      by_cases h : n ≤ 1
      · rw [if_pos h, if_pos h]
      · rw [if_neg h, if_neg h, ih g _ _ (by omega) (by omega)]

theorem sides_small (n i : Nat) (h : n ≤ 1) : sidesF n i = [] := by
  unfold sidesF
  cases n with
  | zero => rfl
  | succ n => simp only [sidesN]; rw [if_pos h]

theorem sides_step (n i : Nat) (h : 2 ≤ n) : sidesF n i = sideB n i ++ sidesF ((n + 1) / 2) (i / 2) := by
  unfold sidesF
  rw [sidesN_eq n (n + 1) n i (Nat.le_refl _) (by omega)]
  simp only [sidesN]
  rw [if_neg (by omega), sidesN_eq n _ _ _ (by omega) (Nat.le_refl _)]

theorem half_up (n : Nat) (h : 3 ≤ n) : halfF n = 2 * halfF ((n + 1) / 2) := by
  have h1 := halfF_lt n (by omega)
  have h2 := halfF_le n (by omega)
  have hlog : ∃ j, halfF n = 2 ^ (j + 1) := by
    unfold halfF at *
    cases hl : Nat.log2 (n - 1) with
    | zero => rw [hl] at h2; simp at h2; omega
    | succ j => exact ⟨j, rfl⟩
  obtain ⟨j, hj⟩ := hlog
  rw [Nat.pow_succ] at hj
  have := halfF_eq ((n + 1) / 2) j (by omega) (by omega)
  omega

/-- The sides from the top of the tree. -/
theorem sides_top : ∀ (n i : Nat), 2 ≤ n → i < n → sidesF n i = if i < halfF n then sidesF (halfF n) i ++ [false] else sidesF (n - halfF n) (i - halfF n) ++ [true] := by
  intro n
  induction n using Nat.strongRecOn with
  | _ n ih =>
    intro i h hi
    have hlt := halfF_lt n h
    have hle := halfF_le n h
    by_cases h3 : n = 2
    · subst h3
      have h1 : halfF 2 = 1 := by have := halfF_pos 2; omega
      rw [h1, sides_step 2 i (by omega), sides_small ((2 + 1) / 2) _ (by omega), sides_small 1 _ (by omega), sides_small (2 - 1) _ (by omega)]
      have : i = 0 ∨ i = 1 := by omega
      rcases this with rfl | rfl <;> simp [sideB]
    · have hu := half_up n (by omega)
      rw [sides_step n i h, ih ((n + 1) / 2) (by omega) (i / 2) (by omega) (by omega)]
      by_cases hik : i < halfF n
      · rw [if_pos (by omega), if_pos hik]
        rw [sides_step (halfF n) i (by omega), show (halfF n + 1) / 2 = halfF ((n + 1) / 2) from by omega, show sideB (halfF n) i = sideB n i from ?_, List.append_assoc]
        unfold sideB
        by_cases h1 : i % 2 = 1
        · rw [if_pos h1, if_pos h1]
        · rw [if_neg h1, if_neg h1, if_pos (by omega), if_pos (by omega)]
      · rw [if_neg (by omega), if_neg hik]
        by_cases hn1 : n - halfF n = 1
        · have hie : i - halfF n = 0 := by omega
          rw [hn1, hie, show (n + 1) / 2 - halfF ((n + 1) / 2) = 1 from by omega, show i / 2 - halfF ((n + 1) / 2) = 0 from by omega, sides_small 1 _ (by omega), show sideB n i = [] from ?_]
          · rfl
          · unfold sideB
            rw [if_neg (by omega), if_neg (by omega)]
        · rw [sides_step (n - halfF n) (i - halfF n) (by omega), show (n - halfF n + 1) / 2 = (n + 1) / 2 - halfF ((n + 1) / 2) from by omega, show (i - halfF n) / 2 = i / 2 - halfF ((n + 1) / 2) from by omega,
            show sideB (n - halfF n) (i - halfF n) = sideB n i from ?_, List.append_assoc]
          unfold sideB
          by_cases h1 : i % 2 = 1
          · rw [if_pos (by omega), if_pos h1]
          · rw [if_neg (by omega), if_neg h1]
            by_cases h2 : i + 1 < n
            · rw [if_pos (by omega), if_pos h2]
            · rw [if_neg (by omega), if_neg h2]

end Go.Proofs.Ytjmfaebimgnblaa
