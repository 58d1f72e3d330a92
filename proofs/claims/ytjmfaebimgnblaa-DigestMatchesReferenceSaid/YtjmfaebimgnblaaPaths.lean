/-
  A path with its error as a struct's value, and what the examples want of it.
-/
import Derived.Test.YtjmfaebimgnblaaDigF
import Derived.Test.YtjmfaebimgnblaaBox
namespace Go.Proofs.Ytjmfaebimgnblaa
open Go.RowKit

def PathsV (l : List Int) (e : Int) (S : Nat → Prop) (v : Value) (w : World) : Prop := ∃ p c, v = .agg #[.slice p l.length c, .int .i64 e] ∧ IsInts .u64 S w (.slice p l.length c) l
theorem PathsV.stable (l : List Int) (e : Int) : Stable (PathsV l e) := by
  rintro S S' v w w' ⟨p, c, rfl, h⟩ h1 h2 h3
  exact ⟨p, c, rfl, IsRow.stable _ _ _ _ _ _ _ h h1 h2 h3⟩
theorem PathsV.shape (l : List Int) (e : Int) : ∀ S v w, PathsV l e S v w → ∃ cs, v = .agg cs ∧ cs.size = 2 ∧ ∀ u ∈ cs.toList, u.oneCell' = true := by
  rintro S v w ⟨p, c, rfl, h⟩
  exact ⟨_, rfl, rfl, fun u hu => by simp at hu; rcases hu with rfl | rfl <;> rfl⟩

theorem pathsV_calls (v : Value) (l : List Int) (i : Int) (S T : Nat → Prop) (w : World) (hmx : l.length ≤ 1099511627776) (hl : IsInts .u64 S w v l) :
    Calls Try.prog 17 #[v, .int .i64 i] w fun e w' => ∃ r, e = .returned r ∧ PathsV (pathList l i) (pathErr l i) (fun b => T b ∨ w.heap.size ≤ b) r w' ∧ Below w.heap.size w w' := by
  refine (pathOf_calls v l i S w hmx hl).mono ?_
  rintro e w' ⟨r, rfl, ho, hb⟩
  obtain ⟨p, c, rfl, -⟩ := ho.toRow.shape
  exact ⟨_, rfl, ⟨p, c, rfl, ho.toRow.wk (fun b h => .inr h)⟩, hb⟩

theorem bad_calls (v : Value) (l : List Int) (i : Int) (S : Nat → Prop) (w : World) (hmx : l.length ≤ 1099511627776) (hl : IsInts .u64 S w v l) (hi : i < 0 ∨ (l.length : Int) ≤ i) :
    Calls Try.prog 17 #[v, .int .i64 i] w fun e w' => ∃ r, e = .returned r ∧ PathsV [] 1 (fun b => S b ∨ w.heap.size ≤ b) r w' ∧ Below w.heap.size w w' := by
  have hb : badPath l i = true := decide_eq_true hi
  have h1 : pathList l i = [] := by unfold pathList; rw [hb]; rfl
  have h2 : pathErr l i = 1 := by unfold pathErr; rw [hb]; rfl
  have := pathsV_calls v l i S S w hmx hl
  rwa [h1, h2] at this

theorem ex_pathA : pathList [5, 6, 7] 2 = [joinF 5 6] := by rfl
theorem ex_pathB : pathList [5, 6, 7] 0 = [6, 7] := by rfl
theorem ex_errA : pathErr [5, 6, 7] 2 = 0 := by rfl
theorem ex_errB : pathErr [5, 6, 7] 0 = 0 := by rfl
theorem ex_errC : pathErr [5, 6, 7] 3 = 1 := by rfl
theorem ex_root : rootF [5, 6, 7] = joinF (joinF 5 6) 7 := by rfl
theorem ex_check1 : checkF (joinF (joinF 5 6) 7) 3 2 7 [joinF 5 6] = 0 := by
  have : climbF 3 2 7 [joinF 5 6] = (joinF (joinF 5 6) 7, true) := by rfl
  unfold checkF
  rw [if_neg (by decide)]
  simp [this]
theorem ex_check2 : checkF (joinF (joinF 5 6) 7) 3 2 7 [6, 7] = 6 := by
  have : (climbF 3 2 7 [6, 7]).2 = false := by rfl
  unfold checkF
  rw [if_neg (by decide)]
  simp [this]
theorem ex_check3 : checkF (joinF (joinF 5 6) 7) 0 0 0 [] = 1 := by
  unfold checkF
  rw [if_pos (by decide)]

end Go.Proofs.Ytjmfaebimgnblaa
