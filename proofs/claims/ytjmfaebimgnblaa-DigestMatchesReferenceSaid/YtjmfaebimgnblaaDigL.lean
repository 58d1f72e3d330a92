/-
  Trees level by level: the same roots, paths and climbs. No program in sight.
-/
import Derived.Test.YtjmfaebimgnblaaDigP
import Derived.Test.YtjmfaebimgnblaaPureF
namespace Go.Proofs.Ytjmfaebimgnblaa
open Go.RowKit
set_option linter.unusedVariables false
set_option linter.unusedSimpArgs false

def lvl : List Int → List Int
  | x :: y :: l => joinF x y :: lvl l
  | l => l
theorem lvl_two (x y : Int) (l : List Int) : lvl (x :: y :: l) = joinF x y :: lvl l := rfl
theorem lvl_len : ∀ (l : List Int), (lvl l).length = (l.length + 1) / 2
  | [] => by simp [lvl]
  | [x] => by simp [lvl]
  | x :: y :: l => by rw [lvl_two, List.length_cons, lvl_len l, List.length_cons, List.length_cons]; omega
theorem lvl_append : ∀ (n : Nat) (a b : List Int), a.length = 2 * n → lvl (a ++ b) = lvl a ++ lvl b
  | 0, a, b, h => by
    have : a = [] := List.eq_nil_of_length_eq_zero (by omega)
    subst this
    rfl
  | n + 1, a, b, h => by
    match a, h with
    | x :: y :: a, h =>
      simp only [List.cons_append, lvl_two]
      rw [lvl_append n a b (by simp at h; omega)]
    | [x], h => simp at h; omega
    | [], h => simp at h
theorem take_one (l : List Int) {k : Nat} (h : k < l.length) : l.take (k + 1) = l.take k ++ [l.getD k 0] := by
  rw [List.take_succ_eq_append_getElem h]
  simp [List.getD, List.getElem?_eq_getElem h]
theorem lvl_pair {l : List Int} {j : Nat} (h : 2 * j + 1 < l.length) : lvl (l.take (2 * (j + 1))) = lvl (l.take (2 * j)) ++ [joinF (l.getD (2 * j) 0) (l.getD (2 * j + 1) 0)] := by
  rw [show 2 * (j + 1) = 2 * j + 1 + 1 from by omega, take_one l h, take_one l (show 2 * j < l.length by omega), List.append_assoc, lvl_append j _ _ (by rw [List.length_take]; omega)]
  rfl
theorem lvl_last {l : List Int} {j : Nat} (h : 2 * j + 1 = l.length) : lvl (l.take (2 * (j + 1))) = lvl (l.take (2 * j)) ++ [l.getD (2 * j) 0] := by
  rw [List.take_of_length_le (show l.length ≤ 2 * (j + 1) by omega)]
  have e := take_one l (show 2 * j < l.length by omega)
  rw [List.take_of_length_le (by omega)] at e
  have e2 := lvl_append j (l.take (2 * j)) [l.getD (2 * j) 0] (by rw [List.length_take]; omega)
  rw [← e] at e2
  exact e2
theorem tdivN (a b : Nat) : Int.tdiv (a : Int) (b : Int) = ((a / b : Nat) : Int) := (Int.ofNat_tdiv a b).symm
theorem halfF_pow {n : Nat} (h : 2 ≤ n) : ∃ j, halfF n = 2 ^ j := ⟨_, rfl⟩
theorem halfF_up {n : Nat} (h : 3 ≤ n) : halfF n = 2 * halfF ((n + 1) / 2) := by
  obtain ⟨j, hj⟩ := halfF_pow (n := (n + 1) / 2) (by omega)
  have h1 := halfF_lt ((n + 1) / 2) (by omega)
  have h2 := halfF_le ((n + 1) / 2) (by omega)
  rw [hj] at h1 h2 ⊢
  have hp : 2 ^ (j + 1) = 2 * 2 ^ j := by rw [Nat.pow_succ, Nat.mul_comm]
  rw [← hp]
  exact (halfF_eq n (j + 1) (by omega) (by omega)).symm
theorem lvl_halves {l : List Int} (h : 3 ≤ l.length) : halfF (lvl l).length * 2 = halfF l.length ∧ (lvl l).take (halfF (lvl l).length) = lvl (l.take (halfF l.length)) ∧ (lvl l).drop (halfF (lvl l).length) = lvl (l.drop (halfF l.length)) ∧ 2 ≤ (lvl l).length ∧ 2 ≤ halfF l.length := by
  have hl := lvl_len l
  have hu := halfF_up h
  rw [← hl] at hu
  have hlt := halfF_lt l.length (by omega)
  have hp := halfF_pos (lvl l).length
  have e := lvl_append (halfF (lvl l).length) (l.take (halfF l.length)) (l.drop (halfF l.length)) (by rw [List.length_take]; omega)
  rw [List.take_append_drop] at e
  have e2 : (lvl (l.take (halfF l.length))).length = halfF (lvl l).length := by rw [lvl_len, List.length_take]; omega
  refine ⟨by omega, ?_, ?_, by omega, by omega⟩
  · conv => lhs; arg 2; rw [e]
    rw [List.take_left' e2]
  · conv => lhs; arg 2; rw [e]
    rw [List.drop_left' e2]
theorem root_lvl : ∀ (n : Nat) (l : List Int), l.length ≤ n → 1 ≤ l.length → rootF (lvl l) = rootF l
  | 0, l, h, h1 => by omega
  | n + 1, l, h, h1 => by
    by_cases h2 : l.length ≤ 2
    · match l, h1, h2 with
      | [x], _, _ => rfl
      | [x, y], _, _ => rfl
      | x :: y :: z :: l, _, h2 => simp at h2
    · obtain ⟨q1, q2, q3, q4, q5⟩ := lvl_halves (l := l) (by omega)
      have hlt := halfF_lt l.length (by omega)
      rw [rootF_two (lvl l) q4, rootF_two l (by omega), q2, q3, root_lvl n (l.take (halfF l.length)) (by rw [List.length_take]; omega) (by rw [List.length_take]; omega),
        root_lvl n (l.drop (halfF l.length)) (by rw [List.length_drop]; omega) (by rw [List.length_drop]; omega)]
/-- The neighbour on a level, if there is one. -/
def sib (l : List Int) (i : Nat) : List Int := if i % 2 = 1 then [l.getD (i - 1) 0] else if i + 1 < l.length then [l.getD (i + 1) 0] else []
theorem getD_take {l : List Int} {h j : Nat} (hj : j < h) : (l.take h).getD j 0 = l.getD j 0 := by
  simp [List.getD, List.getElem?_take, hj]
theorem getD_drop (l : List Int) (h j : Nat) : (l.drop h).getD j 0 = l.getD (h + j) 0 := by
  simp [List.getD]
theorem path_lvl : ∀ (n : Nat) (l : List Int) (i : Nat), l.length ≤ n → 2 ≤ l.length → i < l.length → pathF l i = sib l i ++ pathF (lvl l) (i / 2)
  | 0, l, i, h, h1, hi => by omega
  | n + 1, l, i, h, h1, hi => by
    by_cases h2 : l.length ≤ 2
    · match l, h1, h2, hi with
      | [x, y], _, _, hi =>
        have : i = 0 ∨ i = 1 := by simp at hi; omega
        rcases this with rfl | rfl <;> rfl
      | x :: y :: z :: l, _, h2, _ => simp at h2
      | [x], h1, _, _ => simp at h1
      | [], h1, _, _ => simp at h1
    · obtain ⟨q1, q2, q3, q4, q5⟩ := lvl_halves (l := l) (by omega)
      have hlt := halfF_lt l.length (by omega)
      have hle := halfF_le l.length (by omega)
      have r1 := root_lvl (l.take (halfF l.length)).length (l.take (halfF l.length)) (Nat.le_refl _) (by rw [List.length_take]; omega)
      have r2 := root_lvl (l.drop (halfF l.length)).length (l.drop (halfF l.length)) (Nat.le_refl _) (by rw [List.length_drop]; omega)
      by_cases hih : i < halfF l.length
      · have ht : (l.take (halfF l.length)).length = halfF l.length := by rw [List.length_take]; omega
        have hs : sib (l.take (halfF l.length)) i = sib l i := by
          unfold sib
          rw [ht]
          by_cases hm : i % 2 = 1
          · rw [if_pos hm, if_pos hm, getD_take (by omega)]
          · rw [if_neg hm, if_neg hm, if_pos (by omega), if_pos (by omega), getD_take (by omega)]
        rw [pathF_lo l i (by omega) hih, path_lvl n (l.take (halfF l.length)) i (by omega) (by omega) (by omega), hs, pathF_lo (lvl l) (i / 2) q4 (by omega), q2, q3, r2, List.append_assoc]
      · rw [pathF_hi l i (by omega) (by omega), pathF_hi (lvl l) (i / 2) q4 (by omega), q2, q3, r1]
        have hd : (l.drop (halfF l.length)).length = l.length - halfF l.length := by rw [List.length_drop]
        have hdiv : i / 2 - halfF (lvl l).length = (i - halfF l.length) / 2 := by omega
        have hs : sib (l.drop (halfF l.length)) (i - halfF l.length) = sib l i := by
          unfold sib
          rw [hd]
          by_cases hm : i % 2 = 1
          · rw [if_pos (by omega), if_pos hm, getD_drop]
            congr 2
            omega
          · rw [if_neg (by omega), if_neg hm]
            by_cases hn : i + 1 < l.length
            · rw [if_pos (by omega), if_pos hn, getD_drop]
              congr 2
              omega
            · rw [if_neg (by omega), if_neg hn]
        rw [hdiv]
        by_cases hone : (l.drop (halfF l.length)).length = 1
        · have hsn : sib l i = [] := by
            unfold sib
            rw [if_neg (by omega), if_neg (by omega)]
          rw [hsn, pathF_small _ _ (by omega), pathF_small (lvl (l.drop (halfF l.length))) _ (by rw [lvl_len]; omega)]
          rfl
        · rw [path_lvl n (l.drop (halfF l.length)) (i - halfF l.length) (by omega) (by omega) (by omega), hs, List.append_assoc]
theorem path_small (l : List Int) (i : Int) (h : l.length ≤ 137438953472) : (pathList l i).length ≤ 137438953472 := by
  unfold pathList
  split
  · simp
  · exact Nat.le_trans (pathF_len _ _) h
theorem foldUp_takeD {q : List Int} {s : List Bool} {h : Int} {k : Nat} (hq : k < q.length) (hs : k < s.length) : foldUp h (q.take (k + 1)) (s.take (k + 1)) = upF (foldUp h (q.take k) (s.take k)) (q.getD k 0) (s.getD k false) :=
  foldUp_take q s h k _ _ (by simp [List.getD, List.getElem?_eq_getElem hq]) (by simp [List.getD, List.getElem?_eq_getElem hs])
/-- A climb comes to its end exactly with a path of the right length. -/
theorem climb_len : ∀ (n i : Nat) (h : Int) (q : List Int), 1 ≤ n → i < n → (climbF n i h q).2 = decide (q.length = (sidesF n i).length) := by
  intro n
  induction n using Nat.strongRecOn with
  | _ n ih =>
    intro i h q hn hi
    by_cases h1 : n = 1
    · subst h1
      rw [sides_small 1 i (Nat.le_refl _)]
      unfold climbF
      rw [climbN_one]
      cases q <;> simp
    · have hlt := halfF_lt n (by omega)
      have hp := halfF_pos n
      have hle := halfF_le n (by omega)
      by_cases hq : q = []
      · subst hq
        rw [climbF_nil n i h h1, sides_top n i (by omega) hi]
        split <;> simp
      · have hql : q.dropLast.length + 1 = q.length := by have := List.length_pos_iff.2 hq; simp; omega
        by_cases hih : i < halfF n
        · rw [climbF_lo n i h q h1 hq hih, sides_top n i (by omega) hi, if_pos hih, ih _ hlt _ _ _ hp hih]
          simp only [List.length_append, List.length_cons, List.length_nil]
          exact decide_eq_decide.2 (by omega)
        · rw [climbF_hi n i h q h1 hq (by omega), sides_top n i (by omega) hi, if_neg hih, ih _ (by omega) _ _ _ (by omega) (by omega)]
          simp only [List.length_append, List.length_cons, List.length_nil]
          exact decide_eq_decide.2 (by omega)
/-- Which paths are accepted, by sides. -/
theorem checkF_sides (root n i d : Int) (p : List Int) : checkF root n i d p = if badCheck n i then 1 else if p.length ≠ (sidesF n.toNat i.toNat).length then 6 else if foldUp d p (sidesF n.toNat i.toNat) ≠ root then 6 else 0 := by
  unfold checkF
  by_cases hb : badCheck n i = true
  · rw [if_pos hb, if_pos hb]
  · rw [if_neg hb, if_neg hb]
    have hb' : ¬ (n < 1 ∨ 4096 < n ∨ i < 0 ∨ n ≤ i) := fun h => hb (decide_eq_true h)
    have h1 : 1 ≤ n.toNat := by omega
    have h2 : i.toNat < n.toNat := by omega
    rw [climb_len _ _ _ _ h1 h2]
    by_cases hl : p.length = (sidesF n.toNat i.toNat).length
    · rw [climb_sides _ _ _ _ h1 h2 hl]
      by_cases hr : foldUp d p (sidesF n.toNat i.toNat) = root <;> simp [hl, hr]
    · simp [hl]

end Go.Proofs.Ytjmfaebimgnblaa
