/-
  Which paths fit, and that climbing is one to one in the leaf and in each digest of the path. Plain laws.
-/
import Derived.Test.YtjmfaebimgnblaaPureC
namespace Go.Proofs.Ytjmfaebimgnblaa
open Go.RowKit

theorem rootF_in : ∀ (n : Nat) (l : List Int), l.length = n → (∀ x ∈ l, In64 x) → In64 (rootF l) := by
  intro n
  induction n using Nat.strongRecOn with
  | _ n ih =>
    intro l hn hl
    by_cases h2 : 2 ≤ l.length
    · rw [rootF_two l h2]; exact joinF_in _ _
    · match l, hl with
      | [], _ => exact stp_in _ _
      | [x], hl => exact hl x (by simp)
      | x :: y :: l, _ => simp at h2

theorem pathF_in : ∀ (n : Nat) (l : List Int) (i : Nat), l.length = n → (∀ x ∈ l, In64 x) → ∀ x ∈ pathF l i, In64 x := by
  intro n
  induction n using Nat.strongRecOn with
  | _ n ih =>
    intro l i hn hl
    by_cases h1 : l.length ≤ 1
    · rw [pathF_small l i h1]; intro x hx; cases hx
    · have hlt := halfF_lt l.length (by omega)
      have hp := halfF_pos l.length
      have ht : ∀ x ∈ l.take (halfF l.length), In64 x := fun x hx => hl x (List.mem_of_mem_take hx)
      have hd : ∀ x ∈ l.drop (halfF l.length), In64 x := fun x hx => hl x (List.mem_of_mem_drop hx)
      by_cases hi : i < halfF l.length
      · rw [pathF_lo l i (by omega) hi]
        intro x hx
        rcases List.mem_append.1 hx with hx | hx
        · exact ih _ (by simp; omega) _ i rfl ht x hx
        · simp at hx; rw [hx]; exact rootF_in _ _ rfl hd
      · rw [pathF_hi l i (by omega) (by omega)]
        intro x hx
        rcases List.mem_append.1 hx with hx | hx
        · exact ih _ (by simp; omega) _ _ rfl hd x hx
        · simp at hx; rw [hx]; exact rootF_in _ _ rfl ht

theorem snoc_of (q : List Int) (h : q ≠ []) : ∃ q0 z, q = q0 ++ [z] := ⟨q.dropLast, q.getLast h, (List.dropLast_concat_getLast h).symm⟩

/-- A path fits exactly if it is as long as the leaf's own. -/
theorem climb_fits : ∀ (n : Nat) (l : List Int) (i : Nat) (h : Int) (q : List Int), l.length = n → i < l.length → (climbF l.length i h q).2 = decide (q.length = (pathF l i).length) := by
  intro n
  induction n using Nat.strongRecOn with
  | _ n ih =>
    intro l i h q hn hi
    by_cases h1 : l.length = 1
    · rw [pathF_small l i (by omega), h1]
      unfold climbF
      rw [climbN_one]
      cases q <;> simp
    · have h2 : 2 ≤ l.length := by omega
      have hlt := halfF_lt l.length h2
      have hp := halfF_pos l.length
      by_cases hq : q = []
      · subst hq
        rw [climbF_nil _ _ _ h1]
        by_cases hih : i < halfF l.length
        · rw [pathF_lo l i h2 hih]; simp
        · rw [pathF_hi l i h2 (by omega)]; simp
      · obtain ⟨q0, z, rfl⟩ := snoc_of q hq
        by_cases hih : i < halfF l.length
        · have hl : (l.take (halfF l.length)).length = halfF l.length := by simp; omega
          have key := ih _ (by omega) (l.take (halfF l.length)) i h q0 hl (by omega)
          rw [hl] at key
          rw [climbF_lo _ _ _ _ h1 hq hih, dropLast_snoc, key, pathF_lo l i h2 hih]
          simp
        · have hl : (l.drop (halfF l.length)).length = l.length - halfF l.length := by simp
          have key := ih _ (by omega) (l.drop (halfF l.length)) (i - halfF l.length) h q0 hl (by omega)
          rw [hl] at key
          rw [climbF_hi _ _ _ _ h1 hq (by omega), dropLast_snoc, key, pathF_hi l i h2 (by omega)]
          simp

theorem climb_in : ∀ (m n i : Nat) (h : Int) (q : List Int), q.length ≤ m → In64 h → In64 (climbF n i h q).1 := by
  intro m n i h q _ hh
  by_cases h1 : n = 1
  · subst h1
    unfold climbF
    rw [climbN_one]
    exact hh
  · by_cases hq : q = []
    · subst hq
      rw [climbF_nil _ _ _ h1]
      unfold In64
      decide
    · by_cases hih : i < halfF n
      · rw [climbF_lo _ _ _ _ h1 hq hih]; exact joinF_in _ _
      · rw [climbF_hi _ _ _ _ h1 hq (by omega)]; exact joinF_in _ _

/-- One to one in the leaf. -/
theorem climb_leaf : ∀ (n : Nat) (l : List Int) (i : Nat) (h h' : Int) (q : List Int), l.length = n → i < l.length → q.length = (pathF l i).length → In64 h → In64 h' →
    (climbF l.length i h q).1 = (climbF l.length i h' q).1 → h = h' := by
  intro n
  induction n using Nat.strongRecOn with
  | _ n ih =>
    intro l i h h' q hn hi hql hh hh' e
    by_cases h1 : l.length = 1
    · rw [h1] at e
      unfold climbF at e
      rw [climbN_one, climbN_one] at e
      exact e
    · have h2 : 2 ≤ l.length := by omega
      have hlt := halfF_lt l.length h2
      have hp := halfF_pos l.length
      by_cases hih : i < halfF l.length
      · rw [pathF_lo l i h2 hih, List.length_append] at hql
        have hq : q ≠ [] := by rintro rfl; simp at hql
        obtain ⟨q0, z, rfl⟩ := snoc_of q hq
        simp only [List.length_append, List.length_cons, List.length_nil] at hql
        have hl : (l.take (halfF l.length)).length = halfF l.length := by simp; omega
        rw [climbF_lo _ _ _ _ h1 hq hih, climbF_lo _ _ _ _ h1 hq hih, dropLast_snoc] at e
        have key := ih _ (by omega) (l.take (halfF l.length)) i h h' q0 hl (by omega) (by omega) hh hh'
        rw [hl] at key
        exact key (joinF_left (climb_in _ _ _ _ _ (Nat.le_refl _) hh) (climb_in _ _ _ _ _ (Nat.le_refl _) hh') e)
      · rw [pathF_hi l i h2 (by omega), List.length_append] at hql
        have hq : q ≠ [] := by rintro rfl; simp at hql
        obtain ⟨q0, z, rfl⟩ := snoc_of q hq
        simp only [List.length_append, List.length_cons, List.length_nil] at hql
        have hl : (l.drop (halfF l.length)).length = l.length - halfF l.length := by simp
        rw [climbF_hi _ _ _ _ h1 hq (by omega), climbF_hi _ _ _ _ h1 hq (by omega), dropLast_snoc] at e
        have key := ih _ (by omega) (l.drop (halfF l.length)) (i - halfF l.length) h h' q0 hl (by omega) (by omega) hh hh'
        rw [hl] at key
        exact key (joinF_right (climb_in _ _ _ _ _ (Nat.le_refl _) hh) (climb_in _ _ _ _ _ (Nat.le_refl _) hh') e)

theorem set_snoc_lt (q0 : List Int) (z v : Int) (k : Nat) (h : k < q0.length) : (q0 ++ [z]).set k v = q0.set k v ++ [z] := by
  rw [List.set_append_left _ _ h]
theorem set_snoc_eq (q0 : List Int) (z v : Int) : (q0 ++ [z]).set q0.length v = q0 ++ [v] := by
  rw [List.set_append_right _ _ (Nat.le_refl _)]
  simp

/-- One to one in each digest of the path. -/
theorem climb_set : ∀ (n : Nat) (l : List Int) (i : Nat) (h v : Int) (q : List Int) (k : Nat) (y : Int), l.length = n → i < l.length → q.length = (pathF l i).length → q[k]? = some y → In64 h → In64 v → In64 y →
    (climbF l.length i h (q.set k v)).1 = (climbF l.length i h q).1 → v = y := by
  intro n
  induction n using Nat.strongRecOn with
  | _ n ih =>
    intro l i h v q k y hn hi hql hk hh hv hy e
    have hklt := (List.getElem?_eq_some_iff.1 hk).1
    by_cases h1 : l.length = 1
    · rw [pathF_small l i (by omega)] at hql
      simp at hql
      subst hql
      simp at hk
    · have h2 : 2 ≤ l.length := by omega
      have hlt := halfF_lt l.length h2
      have hp := halfF_pos l.length
      have hq : q ≠ [] := by rintro rfl; simp at hk
      have hqs : q.set k v ≠ [] := by simpa using hq
      obtain ⟨q0, z, rfl⟩ := snoc_of q hq
      by_cases hih : i < halfF l.length
      · rw [pathF_lo l i h2 hih] at hql
        simp only [List.length_append, List.length_cons, List.length_nil] at hql hklt
        have hl : (l.take (halfF l.length)).length = halfF l.length := by simp; omega
        rw [climbF_lo _ _ _ _ h1 hqs hih, climbF_lo _ _ _ _ h1 hq hih, dropLast_snoc] at e
        by_cases hkk : k < q0.length
        · rw [set_snoc_lt _ _ _ _ hkk, dropLast_snoc, getLastD_snoc, getLastD_snoc] at e
          have key := ih _ (by omega) (l.take (halfF l.length)) i h v q0 k y hl (by omega) (by omega) (by rwa [List.getElem?_append_left hkk] at hk) hh hv hy
          rw [hl] at key
          exact key (joinF_left (climb_in _ _ _ _ _ (Nat.le_refl _) hh) (climb_in _ _ _ _ _ (Nat.le_refl _) hh) e)
        · have hke : k = q0.length := by omega
          subst hke
          rw [set_snoc_eq, dropLast_snoc, getLastD_snoc, getLastD_snoc] at e
          simp at hk
          subst hk
          exact joinF_right hv hy e
      · rw [pathF_hi l i h2 (by omega)] at hql
        simp only [List.length_append, List.length_cons, List.length_nil] at hql hklt
        have hl : (l.drop (halfF l.length)).length = l.length - halfF l.length := by simp
        rw [climbF_hi _ _ _ _ h1 hqs (by omega), climbF_hi _ _ _ _ h1 hq (by omega), dropLast_snoc] at e
        by_cases hkk : k < q0.length
        · rw [set_snoc_lt _ _ _ _ hkk, dropLast_snoc, getLastD_snoc, getLastD_snoc] at e
          have key := ih _ (by omega) (l.drop (halfF l.length)) (i - halfF l.length) h v q0 k y hl (by omega) (by omega) (by rwa [List.getElem?_append_left hkk] at hk) hh hv hy
          rw [hl] at key
          exact key (joinF_right (climb_in _ _ _ _ _ (Nat.le_refl _) hh) (climb_in _ _ _ _ _ (Nat.le_refl _) hh) e)
        · have hke : k = q0.length := by omega
          subst hke
          rw [set_snoc_eq, dropLast_snoc, getLastD_snoc, getLastD_snoc] at e
          simp at hk
          subst hk
          exact joinF_left hv hy e

/-- What Check says of another leaf. -/
theorem check_leaf (l : List Int) (i : Nat) (x v : Int) (hx : l[i]? = some x) (hl : l.length ≤ 4096) (hin : ∀ y ∈ l, In64 y) (hv : In64 v) :
    checkF (rootF l) (l.length : Int) (i : Int) v (pathF l i) = if v = x then 0 else 6 := by
  have hi := (List.getElem?_eq_some_iff.1 hx).1
  have hxin : In64 x := hin x (List.mem_of_getElem? hx)
  have hp := climb_path _ l i x rfl hx
  unfold checkF
  rw [if_neg (by simp [badCheck]; omega)]
  simp only [Int.toNat_natCast]
  have hf := climb_fits _ l i v (pathF l i) rfl hi
  simp only [hf]
  by_cases e : v = x
  · subst e
    rw [hp]
    simp
  · rw [if_neg e, if_neg]
    rintro ⟨_, h2⟩
    refine e (climb_leaf _ l i v x (pathF l i) rfl hi rfl hv hxin ?_)
    rw [h2, hp]

/-- What Check says of a path that is too long or too short. -/
theorem check_short (l : List Int) (i : Nat) (x root : Int) (q : List Int) (hi : i < l.length) (hl : l.length ≤ 4096) (hq : q.length ≠ (pathF l i).length) :
    checkF root (l.length : Int) (i : Int) x q = 6 := by
  unfold checkF
  rw [if_neg (by simp [badCheck]; omega)]
  simp only [Int.toNat_natCast]
  simp only [climb_fits _ l i x q rfl hi]
  rw [if_neg]
  rintro ⟨h1, _⟩
  exact hq (of_decide_eq_true h1)

/-- What Check says of a path with another digest at one place. -/
theorem check_set (l : List Int) (i : Nat) (x v y : Int) (k : Nat) (hx : l[i]? = some x) (hl : l.length ≤ 4096) (hin : ∀ y ∈ l, In64 y) (hv : In64 v) (hk : (pathF l i)[k]? = some y) :
    checkF (rootF l) (l.length : Int) (i : Int) x ((pathF l i).set k v) = if v = y then 0 else 6 := by
  have hi := (List.getElem?_eq_some_iff.1 hx).1
  have hxin : In64 x := hin x (List.mem_of_getElem? hx)
  have hyin : In64 y := pathF_in _ l i rfl hin y (List.mem_of_getElem? hk)
  have hp := climb_path _ l i x rfl hx
  unfold checkF
  rw [if_neg (by simp [badCheck]; omega)]
  simp only [Int.toNat_natCast]
  have hf := climb_fits _ l i x ((pathF l i).set k v) rfl hi
  simp only [hf]
  by_cases e : v = y
  · subst e
    have : (pathF l i).set k v = pathF l i := by
      refine List.ext_getElem? (fun j => ?_)
      rw [List.getElem?_set]
      split
      · rename_i h; subst h
        split
        · exact hk.symm
        · rename_i h; exact absurd (List.getElem?_eq_some_iff.1 hk).1 h
      · rfl
    rw [this, hp]
    simp
  · rw [if_neg e, if_neg]
    rintro ⟨_, h2⟩
    refine e (climb_set _ l i x v (pathF l i) k y rfl hi rfl hk hxin hv hyin ?_)
    rw [h2, hp]

theorem grownF_in (l : List Int) (n : Nat) (h : ∀ x ∈ l, In64 x) : ∀ x ∈ grownF l n, In64 x := by
  intro x hx
  unfold grownF at hx
  rcases List.mem_append.1 hx with hx | hx
  · exact h x (List.mem_of_mem_take hx)
  · obtain ⟨k, _, rfl⟩ := List.mem_map.1 hx
    exact stp_in _ _

theorem in64_of_fits {x : Int} (h : Fits .u64 x) : In64 x := by
  have h1 : IntKind.u64.min ≤ x ∧ x ≤ IntKind.u64.max := by simpa [Fits, Lit.wf] using h
  have e1 : IntKind.u64.min = 0 := rfl
  have e2 : IntKind.u64.max = 18446744073709551615 := rfl
  unfold In64
  omega

theorem take_set_ge {α : Type} (l : List α) (i k : Nat) (v : α) (h : k ≤ i) : (l.set i v).take k = l.take k := by
  rw [List.take_set]
  exact List.set_eq_of_length_le (by simp; omega)
theorem drop_set_lt {α : Type} (l : List α) (i k : Nat) (v : α) (h : i < k) : (l.set i v).drop k = l.drop k := by
  rw [List.drop_set, if_pos h]
theorem drop_set_ge {α : Type} (l : List α) (i k : Nat) (v : α) (h : k ≤ i) : (l.set i v).drop k = (l.drop k).set (i - k) v := by
  rw [List.drop_set, if_neg (by omega)]

/-- A leaf's own path does not change with it. -/
theorem pathF_set : ∀ (n : Nat) (l : List Int) (i : Nat) (v : Int), l.length = n → pathF (l.set i v) i = pathF l i := by
  intro n
  induction n using Nat.strongRecOn with
  | _ n ih =>
    intro l i v hn
    have hls : (l.set i v).length = l.length := by simp
    by_cases h1 : l.length ≤ 1
    · rw [pathF_small l i h1, pathF_small _ i (by omega)]
    · have h2 : 2 ≤ l.length := by omega
      have hlt := halfF_lt l.length h2
      have hp := halfF_pos l.length
      by_cases hih : i < halfF l.length
      · rw [pathF_lo l i h2 hih, pathF_lo (l.set i v) i (by omega) (by rw [hls]; exact hih), hls, drop_set_lt _ _ _ _ hih, List.take_set, ih _ (by simp; omega) _ i v rfl]
      · rw [pathF_hi l i h2 (by omega), pathF_hi (l.set i v) i (by omega) (by rw [hls]; omega), hls, take_set_ge _ _ _ _ (by omega), drop_set_ge _ _ _ _ (by omega), ih _ (by simp; omega) _ _ v rfl]

/-- The root tells one changed leaf. -/
theorem root_set (l : List Int) (i : Nat) (x v : Int) (hx : l[i]? = some x) (hin : ∀ y ∈ l, In64 y) (hv : In64 v) : (rootF l == rootF (l.set i v)) = (v == x) := by
  have hi := (List.getElem?_eq_some_iff.1 hx).1
  have hls : (l.set i v).length = l.length := by simp
  have h1 := climb_path _ l i x rfl hx
  have h2 := climb_path _ (l.set i v) i v rfl (by simp [hi])
  rw [hls, pathF_set _ l i v rfl] at h2
  by_cases e : v = x
  · subst e
    have : rootF l = rootF (l.set i v) := by
      have := h1.symm.trans h2
      exact congrArg Prod.fst this
    rw [beq_iff_eq.2 this]
    simp
  · have : rootF l ≠ rootF (l.set i v) := by
      intro h
      refine e (climb_leaf _ l i v x (pathF l i) rfl hi rfl hv (hin x (List.mem_of_getElem? hx)) ?_)
      rw [h2, h1, h]
    rw [beq_eq_false_iff_ne.2 this, beq_eq_false_iff_ne.2 e]

theorem check_changed (l : List Int) (i : Nat) (v : Int) (hi : i < l.length) (hl : l.length ≤ 4096) : checkF (rootF (l.set i v)) (l.length : Int) (i : Int) v (pathF l i) = 0 := by
  have hls : (l.set i v).length = l.length := by simp
  have := check_path (l.set i v) i v (by simp [hi]) (by omega)
  rwa [hls, pathF_set _ l i v rfl] at this

end Go.Proofs.Ytjmfaebimgnblaa
