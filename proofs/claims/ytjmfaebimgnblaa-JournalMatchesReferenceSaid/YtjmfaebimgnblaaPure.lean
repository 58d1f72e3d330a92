/-
  Digests as functions on numbers: no program in sight.
-/
import Derived.WalkKit
namespace Go.Proofs.Ytjmfaebimgnblaa
open Go.RowKit

/-- One step of a digest. -/
def stp (h w : Int) : Int :=
  IntKind.u64.wrap (bits .xor .u64 (IntKind.u64.wrap (bits .xor .u64 h w * 15485907386658061715)) (IntKind.u64.wrap (bits .xor .u64 h w * 15485907386658061715) / 4294967296) * 11562461410679940143)

/-- A number as 64 bits. -/
def u64 (n : Int) : Int := IntKind.u64.wrap n
def stps (h : Int) (l : List Int) : Int := l.foldl stp h
theorem stps_take (s : Int) (l : List Int) (k : Nat) (h : k < l.length) : stps s (l.take (k + 1)) = stp (stps s (l.take k)) l[k] := by
  rw [List.take_succ_eq_append_getElem h, stps, List.foldl_append]
  rfl
theorem stps_nil (s : Int) : stps s [] = s := rfl
theorem stps_one (s x : Int) : stps s [x] = stp s x := rfl
theorem stps_two (s x y : Int) : stps s [x, y] = stp (stp s x) y := rfl
def wordsF (l : List Int) : Int := stp (stps 512970876019 (l.map u64)) (u64 l.length)
def joinF (a b : Int) : Int := stp (stp 1852793957 a) b
def tagF (key : Int) (l : List Int) : Int := stp key (wordsF l)

/-- The number in some bytes, the lowest first. -/
def leF : List Int → Int
  | [] => 0
  | x :: l => x + 256 * leF l

/-- Groups of eight. -/
def eights : Nat → List Int → List (List Int)
  | 0, _ => []
  | f + 1, l => if l = [] then [] else l.take 8 :: eights f (l.drop 8)
def bytesF (b : List Int) : Int := stp (stps 422944466291 ((eights b.length b).map leF)) (u64 b.length)

/-- The greatest power of two below n, for n from 2 on. -/
def halfF (n : Nat) : Nat := 2 ^ Nat.log2 (n - 1)

theorem halfF_lt (n : Nat) (h : 2 ≤ n) : halfF n < n := by
  have := Nat.log2_self_le (n := n - 1) (by omega)
  unfold halfF
  omega
theorem halfF_pos (n : Nat) : 0 < halfF n := Nat.two_pow_pos _
theorem halfF_le (n : Nat) (h : 2 ≤ n) : n ≤ 2 * halfF n := by
  have := Nat.lt_log2_self (n := n - 1)
  unfold halfF
  rw [Nat.pow_succ] at this
  omega
theorem halfF_eq (n j : Nat) (h1 : 2 ^ j < n) (h2 : n ≤ 2 * 2 ^ j) : 2 ^ j = halfF n := by
  have : Nat.log2 (n - 1) = j := by
    refine (Nat.log2_eq_iff (by have := Nat.two_pow_pos j; omega)).2 ⟨by omega, by rw [Nat.pow_succ]; omega⟩
  unfold halfF
  rw [this]

def rootN : Nat → List Int → Int
  | 0, l => match l with | [] => wordsF [] | x :: _ => x
  | f + 1, l => match l with
    | [] => wordsF []
    | [x] => x
    | _ => joinF (rootN f (l.take (halfF l.length))) (rootN f (l.drop (halfF l.length)))
def rootF (l : List Int) : Int := rootN l.length l

theorem rootN_step (f : Nat) (x y : Int) (l : List Int) : rootN (f + 1) (x :: y :: l) = joinF (rootN f ((x :: y :: l).take (halfF (x :: y :: l).length))) (rootN f ((x :: y :: l).drop (halfF (x :: y :: l).length))) := rfl

theorem rootN_eq : ∀ (f g : Nat) (l : List Int), l.length ≤ f → l.length ≤ g → rootN f l = rootN g l := by
  intro f
  induction f with
  | zero =>
    intro g l h _
    have : l = [] := List.eq_nil_of_length_eq_zero (by omega)
    subst this
    cases g <;> rfl
  | succ f ih =>
    intro g l h1 h2
    cases g with
    | zero =>
      have : l = [] := List.eq_nil_of_length_eq_zero (by omega)
      subst this
      rfl
    | succ g =>
      match l, h1, h2 with
      | [], _, _ => rfl
      | [x], _, _ => rfl
      | x :: y :: l, h1, h2 =>
        have hlt := halfF_lt (x :: y :: l).length (by simp)
        have hp := halfF_pos (x :: y :: l).length
        rw [rootN_step, rootN_step, ih g _ (by simp at *; omega) (by simp at *; omega), ih g _ (by simp at *; omega) (by simp at *; omega)]

theorem rootF_nil : rootF [] = wordsF [] := rfl
theorem rootF_one (x : Int) : rootF [x] = x := rfl
theorem rootF_two (l : List Int) (h : 2 ≤ l.length) : rootF l = joinF (rootF (l.take (halfF l.length))) (rootF (l.drop (halfF l.length))) := by
  have hlt := halfF_lt l.length h
  have hp := halfF_pos l.length
  match l, h with
  | x :: y :: l, h =>
    show rootN ((l.length + 1) + 1) (x :: y :: l) = _
    rw [rootN_step, rootN_eq (l.length + 1) ((x :: y :: l).take (halfF (x :: y :: l).length)).length _ (by simp at *; omega) (Nat.le_refl _),
      rootN_eq (l.length + 1) ((x :: y :: l).drop (halfF (x :: y :: l).length)).length _ (by simp at *; omega) (Nat.le_refl _)]
    rfl

def pathN : Nat → List Int → Nat → List Int
  | 0, _, _ => []
  | f + 1, l, i => if l.length ≤ 1 then [] else
    if i < halfF l.length then pathN f (l.take (halfF l.length)) i ++ [rootF (l.drop (halfF l.length))]
    else pathN f (l.drop (halfF l.length)) (i - halfF l.length) ++ [rootF (l.take (halfF l.length))]
def pathF (l : List Int) (i : Nat) : List Int := pathN l.length l i

theorem pathN_len : ∀ (f : Nat) (l : List Int) (i : Nat), (pathN f l i).length ≤ f
  | 0, _, _ => by simp [pathN]
  | f + 1, l, i => by
    simp only [pathN]
    split
    · simp
    · split
      · have := pathN_len f (l.take (halfF l.length)) i; simp; omega
      · have := pathN_len f (l.drop (halfF l.length)) (i - halfF l.length); simp; omega
theorem pathF_len (l : List Int) (i : Nat) : (pathF l i).length ≤ l.length := pathN_len _ _ _

theorem pathN_small (f : Nat) (l : List Int) (i : Nat) (h : l.length ≤ 1) : pathN f l i = [] := by
  cases f with
  | zero => rfl
  | succ f => simp only [pathN]; rw [if_pos h]

theorem pathN_step (f : Nat) (l : List Int) (i : Nat) (h : 2 ≤ l.length) : pathN (f + 1) l i = if i < halfF l.length then pathN f (l.take (halfF l.length)) i ++ [rootF (l.drop (halfF l.length))]
    else pathN f (l.drop (halfF l.length)) (i - halfF l.length) ++ [rootF (l.take (halfF l.length))] := by
  simp only [pathN]
  rw [if_neg (by omega)]

theorem pathN_eq : ∀ (f g : Nat) (l : List Int) (i : Nat), l.length ≤ f → l.length ≤ g → pathN f l i = pathN g l i := by
  intro f
  induction f with
  | zero => intro g l i h _; rw [pathN_small _ _ _ (by omega), pathN_small _ _ _ (by omega)]
  | succ f ih =>
    intro g l i h1 h2
    by_cases h : l.length ≤ 1
    · rw [pathN_small _ _ _ h, pathN_small _ _ _ h]
    · obtain ⟨g, rfl⟩ : ∃ k, g = k + 1 := ⟨g - 1, by omega⟩
      have hlt := halfF_lt l.length (by omega)
      have hp := halfF_pos l.length
      rw [pathN_step _ _ _ (by omega), pathN_step _ _ _ (by omega), ih g _ _ (by simp <;> omega) (by simp <;> omega), ih g _ _ (by simp <;> omega) (by simp <;> omega)]

theorem pathF_small (l : List Int) (i : Nat) (h : l.length ≤ 1) : pathF l i = [] := pathN_small _ _ _ h
theorem pathF_lo (l : List Int) (i : Nat) (h : 2 ≤ l.length) (hi : i < halfF l.length) : pathF l i = pathF (l.take (halfF l.length)) i ++ [rootF (l.drop (halfF l.length))] := by
  have hlt := halfF_lt l.length h
  have hp := halfF_pos l.length
  unfold pathF
  rw [pathN_eq l.length (l.length + 1) l i (Nat.le_refl _) (by omega), pathN_step _ _ _ h, if_pos hi, pathN_eq l.length _ _ _ (by simp <;> omega) (Nat.le_refl _)]
theorem pathF_hi (l : List Int) (i : Nat) (h : 2 ≤ l.length) (hi : halfF l.length ≤ i) : pathF l i = pathF (l.drop (halfF l.length)) (i - halfF l.length) ++ [rootF (l.take (halfF l.length))] := by
  have hlt := halfF_lt l.length h
  have hp := halfF_pos l.length
  unfold pathF
  rw [pathN_eq l.length (l.length + 1) l i (Nat.le_refl _) (by omega), pathN_step _ _ _ h, if_neg (by omega), pathN_eq l.length _ _ _ (by simp <;> omega) (Nat.le_refl _)]

def climbN : Nat → Nat → Nat → Int → List Int → Int × Bool
  | 0, n, _, h, p => if n = 1 then (h, p.isEmpty) else (0, false)
  | f + 1, n, i, h, p => if n = 1 then (h, p.isEmpty) else if p = [] then (0, false) else
    if i < halfF n then (joinF (climbN f (halfF n) i h p.dropLast).1 (p.getLastD 0), (climbN f (halfF n) i h p.dropLast).2)
    else (joinF (p.getLastD 0) (climbN f (n - halfF n) (i - halfF n) h p.dropLast).1, (climbN f (n - halfF n) (i - halfF n) h p.dropLast).2)
def climbF (n i : Nat) (h : Int) (p : List Int) : Int × Bool := climbN p.length n i h p

end Go.Proofs.Ytjmfaebimgnblaa
