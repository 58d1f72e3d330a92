/-
  Lists of records in cells.
-/
import Derived.Test.YtjmfaebimgnblaaOld
import Derived.Test.YtjmfaebimgnblaaJouP
namespace Go.Proofs.Ytjmfaebimgnblaa
open Go.RowKit
set_option linter.unusedVariables false
set_option linter.unusedSimpArgs false

def encLI (l : List Int) : List V := [.sl 1 (encI .i64) 0 l]

def cutN (b : List Int) (n : Int) : Nat := min n.toNat b.length
def cutF (b : List Int) (n : Int) : List Int := b.take (cutN b n)
theorem cutN_le (b : List Int) (n : Int) : cutN b n ≤ b.length := Nat.min_le_right _ _

/-! What is appended. -/
def putK (l : List Int) (n : Int) : Nat → List Int
  | 0 => l
  | k + 1 => putK l n k ++ [byteN n k]
def addK (l ws : List Int) : Nat → List Int
  | 0 => l
  | k + 1 => putK (addK l ws k) (ws.getD k 0) 8
def recP (l r : List Int) : Nat → List Int
  | 0 => l
  | k + 1 => addK (recP l r k) [IntKind.u64.wrap (r.getD k 0)] 1
theorem putK_eq (l : List Int) (n : Int) : ∀ k, putK l n k = l ++ bytesK n k
  | 0 => by simp [putK, bytesK]
  | k + 1 => by rw [putK, putK_eq l n k, bytesK_succ, List.append_assoc]
theorem putK_len (l : List Int) (n : Int) (k : Nat) : (putK l n k).length = l.length + k := by rw [putK_eq, List.length_append, bytesK_len]
theorem addK_len (l ws : List Int) : ∀ k, (addK l ws k).length = l.length + 8 * k
  | 0 => rfl
  | k + 1 => by rw [addK, putK_len, addK_len l ws k]; omega
theorem recP_len (l r : List Int) : ∀ k, (recP l r k).length = l.length + 8 * k
  | 0 => rfl
  | k + 1 => by rw [recP, addK_len, recP_len l r k]; omega
theorem recP_eq (l r : List Int) : ∀ k, k ≤ r.length → recP l r k = l ++ (r.take k).flatMap (fun v => bytesK (u64 v) 8)
  | 0, _ => by simp [recP]
  | k + 1, h => by
    rw [recP, recP_eq l r k (by omega), addK, addK, putK_eq, List.take_succ_eq_append_getElem (by omega), List.flatMap_append, List.append_assoc]
    simp [u64, List.getD, List.getElem?_eq_getElem (show k < r.length from by omega)]

/-- The encoding of a record behind a seal. -/
def encF (s : Int) (r : List Int) : List Int := bytesK r.length 8 ++ bytesK (tagF s [(r.length : Int)]) 8 ++ r.flatMap (fun v => bytesK (u64 v) 8) ++ bytesK (tagF s r) 8
theorem encF_len (s : Int) (r : List Int) : (encF s r).length = 24 + 8 * r.length := by
  unfold encF
  have : (r.flatMap fun v => bytesK (u64 v) 8).length = 8 * r.length := by
    induction r with
    | nil => rfl
    | cons x r ih => simp only [List.flatMap_cons, List.length_append, bytesK_len, List.length_cons, ih]; omega
  simp only [List.length_append, bytesK_len, this]
  omega
def jputE (b r : List Int) : Int := if 256 < r.length then 1 else if 0 < (readF b 0).2.1.length then 60 else if 65536 < b.length + 24 + 8 * r.length then 2 else 0
def jputJ (b r : List Int) : List Int := if 256 < r.length then [] else if 0 < (readF b 0).2.1.length then [] else if 65536 < b.length + 24 + 8 * r.length then [] else b ++ encF (readF b 0).2.2 r
theorem put_text (b r : List Int) (s : Int) : addK (recP (addK (b.take b.length) [(r.length : Int), tagF s [(r.length : Int)]] 2) r r.length) [tagF s r] 1 = b ++ encF s r := by
  rw [recP_eq _ _ _ (Nat.le_refl _)]
  simp only [addK, putK_eq, List.take_length, encF, List.append_assoc]
  rfl

abbrev Word64 (x : Int) : Prop := 0 ≤ x ∧ x < 18446744073709551616
theorem wrap_word (x : Int) : Word64 (IntKind.u64.wrap x) := by rw [IntKind.wrap_u64]; constructor <;> omega
theorem tagF_word (s : Int) (l : List Int) : Word64 (tagF s l) := wrap_word _
theorem getD_one {x : Int} (h : Word64 x) (k : Nat) : Word64 ([x].getD k 0) := by
  cases k with
  | zero => exact h
  | succ k => exact ⟨by simp, by simp⟩
theorem getD_two {x y : Int} (h : Word64 x) (h' : Word64 y) (k : Nat) : Word64 ([x, y].getD k 0) := by
  cases k with
  | zero => exact h
  | succ k => exact getD_one h' k
theorem nat_word (n : Nat) (h : n ≤ 137438953472) : Word64 (n : Int) := ⟨by omega, by omega⟩

/-- Lists of records as they come in. -/
abbrev RecsOk (l : List (List Int)) : Prop := l.length ≤ 137438953472 ∧ ∀ r ∈ l, r.length ≤ 137438953472
/-- As a call hands them. -/
abbrev RecsBig (l : List (List Int)) : Prop := l.length ≤ 9223372036854775807 ∧ ∀ r ∈ l, r.length ≤ 9223372036854775807
theorem RecsBig.getD {l : List (List Int)} (h : RecsBig l) (k : Nat) : (l.getD k []).length ≤ 9223372036854775807 := by
  unfold List.getD
  cases hg : l[k]? with
  | none => simp
  | some x => exact h.2 x (List.mem_of_getElem? hg)
theorem RecsOk.getD {l : List (List Int)} (h : RecsOk l) (k : Nat) : (l.getD k []).length ≤ 137438953472 := by
  unfold List.getD
  cases hg : l[k]? with
  | none => simp
  | some x => exact h.2 x (List.mem_of_getElem? hg)
def smallF (l : List (List Int)) : Bool := l.all (fun r => decide (r.length ≤ 12)) && decide (l.length ≤ 12)

/-- The journal of the first k records, put one after the other. -/
def jr (l : List (List Int)) : Nat → List Int
  | 0 => []
  | k + 1 => jputJ (jr l k) (l.getD k [])
def endsF (l : List (List Int)) (k : Nat) : List Int := (List.range k).map fun i => ((jr l (i + 1)).length : Int)
theorem endsF_succ (l : List (List Int)) (k : Nat) : endsF l (k + 1) = endsF l k ++ [((jr l (k + 1)).length : Int)] := by simp [endsF, List.range_succ]
theorem endsF_len (l : List (List Int)) (k : Nat) : (endsF l k).length = k := by simp [endsF]
theorem endsF_get (l : List (List Int)) (n k : Nat) (h : k < n) : (endsF l n).getD k 0 = ((jr l (k + 1)).length : Int) := by simp [endsF, List.getD, h]

theorem bytesK_8 (n : Int) (k : Nat) : Bytes8 (bytesK n k) := fun x hx => by
  obtain ⟨i, _, rfl⟩ := List.mem_map.1 hx
  exact byteN_bound n i
theorem Bytes8.append {a b : List Int} (h : Bytes8 a) (k : Bytes8 b) : Bytes8 (a ++ b) := fun x hx => (List.mem_append.1 hx).elim (h x) (k x)
theorem encF_8 (s : Int) (r : List Int) : Bytes8 (encF s r) := by
  unfold encF
  refine ((bytesK_8 _ _).append (bytesK_8 _ _)).append ?_ |>.append (bytesK_8 _ _)
  intro x hx
  obtain ⟨v, _, hv⟩ := List.mem_flatMap.1 hx
  exact bytesK_8 _ _ x hv
theorem nil_8 : Bytes8 [] := fun x hx => by simp at hx
theorem jputJ_8 {b : List Int} (hb : Bytes8 b) (r : List Int) : Bytes8 (jputJ b r) := by
  unfold jputJ
  split
  · exact nil_8
  · split
    · exact nil_8
    · split
      · exact nil_8
      · exact hb.append (encF_8 _ _)
theorem jputJ_len (b r : List Int) : (jputJ b r).length ≤ 65536 := by
  unfold jputJ
  split
  · simp
  · split
    · simp
    · split
      · simp
      · rw [List.length_append, encF_len]; omega
theorem jr_8 (l : List (List Int)) : ∀ k, Bytes8 (jr l k)
  | 0 => nil_8
  | k + 1 => jputJ_8 (jr_8 l k) _
theorem jr_len (l : List (List Int)) (k : Nat) : (jr l k).length ≤ 65536 := by
  cases k with
  | zero => simp [jr]
  | succ k => exact jputJ_len _ _

theorem ext_lt {Q : Nat → Prop} {k : Nat} (h : ∀ i, i < k → Q i) (hk : Q k) : ∀ i, i < k + 1 → Q i := fun i hi => by
  rcases Nat.lt_or_ge i k with h1 | h1
  · exact h i h1
  · have : i = k := by omega
    rw [this]; exact hk
theorem small_no {l : List (List Int)} {k : Nat} (h : 12 < (l.getD k []).length) : smallF l = false := by
  have hk : k < l.length := by
    refine Decidable.byContradiction fun hn => ?_
    simp [List.getD, List.getElem?_eq_none (show l.length ≤ k from by omega)] at h
  have hm : l.getD k [] ∈ l := by
    simp [List.getD, List.getElem?_eq_getElem hk]
  unfold smallF
  have : l.all (fun r => decide (r.length ≤ 12)) = false := by
    rw [Bool.eq_false_iff]
    intro ha
    rw [List.all_eq_true] at ha
    have := ha _ hm
    simp only [decide_eq_true_eq] at this
    omega
  rw [this]
  rfl
theorem small_yes {l : List (List Int)} (h : ∀ i, i < l.length → (l.getD i []).length ≤ 12) : smallF l = decide (l.length ≤ 12) := by
  unfold smallF
  have : l.all (fun r => decide (r.length ≤ 12)) = true := by
    rw [List.all_eq_true]
    intro r hr
    obtain ⟨i, hi, rfl⟩ := List.getElem_of_mem hr
    have := h i hi
    simp only [List.getD, List.getElem?_eq_getElem hi, Option.getD_some] at this
    simpa using this
  rw [this]
  rfl

end Go.Proofs.Ytjmfaebimgnblaa
