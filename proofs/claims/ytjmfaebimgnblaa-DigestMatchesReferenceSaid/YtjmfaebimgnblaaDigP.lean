/-
  Digests, plain law: groups of bytes; one change.
-/
import Derived.Test.YtjmfaebimgnblaaJouL
namespace Go.Proofs.Ytjmfaebimgnblaa
open Go.RowKit
set_option linter.unusedVariables false
set_option linter.unusedSimpArgs false

theorem stps_takeD (s : Int) (l : List Int) (k : Nat) (h : k < l.length) : stps s (l.take (k + 1)) = stp (stps s (l.take k)) (l.getD k 0) := by
  rw [stps_take s l k h]
  simp [List.getD, List.getElem?_eq_getElem h]
/-- The step as the code computes it. -/
theorem stp_raw (h w : Int) : IntKind.wrap .u64 (IntKind.wrap .u64 ((BitVec.ofInt (IntKind.u64).bits (IntKind.wrap .u64 (IntKind.wrap .u64 ((BitVec.ofInt (IntKind.u64).bits h ^^^ BitVec.ofInt (IntKind.u64).bits w).toNat : Int) * 15485907386658061715)) ^^^ BitVec.ofInt (IntKind.u64).bits (Int.fdiv (IntKind.wrap .u64 (IntKind.wrap .u64 ((BitVec.ofInt (IntKind.u64).bits h ^^^ BitVec.ofInt (IntKind.u64).bits w).toNat : Int) * 15485907386658061715)) (2 ^ min 32 64))).toNat : Int) * 11562461410679940143) = stp h w := by
  have hp : (0 : Int) ≤ 2 ^ min 32 64 := Int.le_of_lt (Int.pow_pos (by decide))
  rw [Int.fdiv_eq_ediv_of_nonneg _ hp]
  rfl

/-! Groups of eight bytes. -/
theorem eights_more : ∀ (f g : Nat) (l : List Int), l.length ≤ f → l.length ≤ g → eights f l = eights g l
  | 0, 0, _, _, _ => rfl
  | 0, g + 1, l, h, _ => by
    have : l = [] := List.eq_nil_of_length_eq_zero (by omega)
    simp [eights, this]
  | f + 1, 0, l, _, h => by
    have : l = [] := List.eq_nil_of_length_eq_zero (by omega)
    simp [eights, this]
  | f + 1, g + 1, l, h, k => by
    unfold eights
    split
    · rfl
    · rename_i hl
      have : 0 < l.length := List.length_pos_iff.2 hl
      rw [eights_more f g (l.drop 8) (by rw [List.length_drop]; omega) (by rw [List.length_drop]; omega)]
def wds (l : List Int) : List Int := (eights l.length l).map leF
theorem wds_nil : wds [] = [] := rfl
theorem wds_cons {l : List Int} (h : 0 < l.length) : wds l = leF (l.take 8) :: wds (l.drop 8) := by
  unfold wds
  obtain ⟨n, hn⟩ : ∃ n, l.length = n + 1 := ⟨l.length - 1, by omega⟩
  have hne : l ≠ [] := fun e => by rw [e] at h; simp at h
  have he : eights (n + 1) l = if l = [] then [] else l.take 8 :: eights n (l.drop 8) := rfl
  rw [hn, he, if_neg hne, List.map_cons, eights_more n (l.drop 8).length (l.drop 8) (by rw [List.length_drop]; omega) (Nat.le_refl _)]
theorem bytesF_eq (b : List Int) : bytesF b = stp (stps 422944466291 (wds b)) (u64 b.length) := rfl
theorem partN_group {r : List Int} (hr : Bytes8 r) {k : Nat} (hk : k = min 8 r.length) : ((partN r 0 k : Nat) : Int) = leF (r.take 8) := by
  rw [partN_int hr, List.drop_zero, hk]
  congr 1
  rcases Nat.le_total 8 r.length with h | h
  · rw [Nat.min_eq_left h]
  · rw [Nat.min_eq_right h, List.take_of_length_le (Nat.le_refl _), List.take_of_length_le h]
theorem drop_min (r : List Int) : r.drop (min 8 r.length) = r.drop 8 := by
  rcases Nat.le_total 8 r.length with h | h
  · rw [Nat.min_eq_left h]
  · rw [Nat.min_eq_right h, List.drop_of_length_le (Nat.le_refl _), List.drop_of_length_le h]
theorem take_min (r : List Int) : r.take (min 8 r.length) = r.take 8 := by
  rcases Nat.le_total 8 r.length with h | h
  · rw [Nat.min_eq_left h]
  · rw [Nat.min_eq_right h, List.take_of_length_le (Nat.le_refl _), List.take_of_length_le h]
theorem leF_group {r : List Int} (hr : Bytes8 r) : Word64 (leF (r.take 8)) := by
  obtain ⟨h1, h2⟩ := leF_bound _ (hr.take 8)
  have hl : (r.take 8).length ≤ 8 := by rw [List.length_take]; omega
  refine ⟨h1, Int.lt_of_lt_of_le h2 ?_⟩
  have h3 : 256 ^ (r.take 8).length ≤ 256 ^ 8 := Nat.pow_le_pow_right (by omega) hl
  have h4 : ((256 : Int) ^ (r.take 8).length) = ((256 ^ (r.take 8).length : Nat) : Int) := by simp
  rw [h4]
  omega

/-! One change. -/
theorem wds_words : ∀ (n : Nat) (l : List Int), l.length ≤ n → Bytes8 l → ∀ x ∈ wds l, In64 x
  | n, l, hn, hl, x, hx => by
    by_cases h0 : l.length = 0
    · rw [List.eq_nil_of_length_eq_zero h0] at hx
      simp [wds_nil] at hx
    · match n with
      | 0 => omega
      | n + 1 =>
        rw [wds_cons (by omega)] at hx
        rcases List.mem_cons.1 hx with rfl | hx
        · exact leF_group hl
        · exact wds_words n (l.drop 8) (by rw [List.length_drop]; omega) (hl.drop 8) x hx
theorem wds_change : ∀ (n : Nat) (l : List Int) (i : Nat) (y : Int), l.length ≤ n → Bytes8 l → Odd l i y → ∃ (j : Nat) (u v : Int), (wds l)[j]? = some u ∧ wds (l.set i y) = (wds l).set j v ∧ u ≠ v ∧ In64 u ∧ In64 v
  | n, l, i, y, hn, hl, ho => by
    have hlt := ho.lt
    match n with
    | 0 => omega
    | n + 1 =>
      have hls : (l.set i y).length = l.length := List.length_set
      rw [wds_cons (l := l) (by omega), wds_cons (l := l.set i y) (by omega)]
      by_cases h8 : i < 8
      · refine ⟨0, leF (l.take 8), leF ((l.set i y).take 8), rfl, ?_, ?_, leF_group hl, leF_group (ho.bytes hl)⟩
        · rw [List.drop_set, if_pos h8]
          rfl
        · intro e
          have e2 := leF_inj (hl.take 8) ((ho.bytes hl).take 8) (by simp) e
          have e3 := congrArg (fun q => q.getD i 0) e2
          simp only [List.getD] at e3
          rw [List.getElem?_take, if_pos h8, List.getElem?_take, if_pos h8, List.getElem?_set_self hlt] at e3
          exact ho.ne (by simpa [List.getD] using e3.symm)
      · have e1 : (l.set i y).take 8 = l.take 8 := by rw [List.take_set, List.set_eq_of_length_le (by rw [List.length_take]; omega)]
        have e2 : (l.set i y).drop 8 = (l.drop 8).set (i - 8) y := by rw [List.drop_set, if_neg (by omega)]
        have ho2 : Odd (l.drop 8) (i - 8) y := ⟨by rw [List.length_drop]; omega, by
          have := ho.ne
          unfold List.getD at this ⊢
          rwa [List.getElem?_drop, show 8 + (i - 8) = i from by omega], ho.byte⟩
        obtain ⟨j, u, v, q1, q2, q3, q4, q5⟩ := wds_change n (l.drop 8) (i - 8) y (by rw [List.length_drop]; omega) (hl.drop 8) ho2
        exact ⟨j + 1, u, v, by simpa using q1, by rw [e1, e2, q2]; rfl, q3, q4, q5⟩
theorem getD_set_self {l : List Int} {i : Nat} (h : i < l.length) (y : Int) : (l.set i y).getD i 0 = y := by
  simp [List.getD, h]
theorem set_same {l : List Int} {i : Nat} (h : i < l.length) {y : Int} (e : l.getD i 0 = y) : l.set i y = l := by
  rw [← e]
  refine List.ext_getElem (by simp) (fun j q1 q2 => ?_)
  rw [List.getElem_set]
  split
  · rename_i hj
    subst hj
    simp [List.getD, List.getElem?_eq_getElem h]
  · rfl
theorem one_bytes {b : List Int} (hb : Bytes8 b) {i : Nat} (hi : i < b.length) {y : Int} (hy : 0 ≤ y ∧ y < 256) : (bytesF b == bytesF (b.set i y)) = (b.getD i 0 == (b.set i y).getD i 0) := by
  rw [getD_set_self hi]
  by_cases e : b.getD i 0 = y
  · rw [set_same hi e, e]
    simp
  · rw [beq_eq_false_iff_ne.2 e, beq_eq_false_iff_ne]
    intro h
    obtain ⟨j, u, v, q1, q2, q3, q4, q5⟩ := wds_change b.length b i y (Nat.le_refl _) hb ⟨hi, fun e' => e e'.symm, hy⟩
    rw [bytesF_eq, bytesF_eq, List.length_set, q2] at h
    have c : In64 422944466291 := ⟨by omega, by omega⟩
    exact stps_change q1 q4 q5 q3 _ (stp_left (stps_in c _) (stps_in c _) h).symm
theorem u64_inj {x y : Int} (hx : -9223372036854775808 ≤ x ∧ x ≤ 9223372036854775807) (hy : -9223372036854775808 ≤ y ∧ y ≤ 9223372036854775807) (h : u64 x = u64 y) : x = y := by
  rw [← wrap_back hx, ← wrap_back hy, h]
theorem one_words {l : List Int} (hl : Ints64 l) {i : Nat} (hi : i < l.length) {y : Int} (hy : -9223372036854775808 ≤ y ∧ y ≤ 9223372036854775807) : (wordsF l == wordsF (l.set i y)) = (l.getD i 0 == (l.set i y).getD i 0) := by
  rw [getD_set_self hi]
  by_cases e : l.getD i 0 = y
  · rw [set_same hi e, e]
    simp
  · rw [beq_eq_false_iff_ne.2 e, beq_eq_false_iff_ne]
    intro h
    have hx : l[i]? = some (l.getD i 0) := by simp [List.getD, List.getElem?_eq_getElem hi]
    exact wordsF_change hx (fun h => e (u64_inj (hl _ (List.mem_of_getElem? hx)) hy h)) h.symm
theorem one_tag {l : List Int} (hl : Ints64 l) {i : Nat} (hi : i < l.length) {y : Int} (hy : -9223372036854775808 ≤ y ∧ y ≤ 9223372036854775807) (s : Int) : (tagF s l == tagF s (l.set i y)) = (l.getD i 0 == (l.set i y).getD i 0) := by
  rw [← one_words hl hi hy, Bool.eq_iff_iff, beq_iff_eq, beq_iff_eq]
  exact ⟨fun h => stp_right (wordsF_in _) (wordsF_in _) h, fun h => by unfold tagF; rw [h]⟩
theorem one_key {x y : Int} (hx : In64 x) (hy : In64 y) (l : List Int) : (tagF x l == tagF y l) = (x == y) := by
  rw [Bool.eq_iff_iff, beq_iff_eq, beq_iff_eq]
  exact ⟨fun h => stp_left hx hy h, fun h => by rw [h]⟩
theorem one_left {x y z : Int} (hx : In64 x) (hz : In64 z) : (joinF x y == joinF z y) = (x == z) := by
  rw [Bool.eq_iff_iff, beq_iff_eq, beq_iff_eq]
  exact ⟨fun h => joinF_left hx hz h, fun h => by rw [h]⟩
theorem one_right {x y z : Int} (hy : In64 y) (hz : In64 z) : (joinF x y == joinF x z) = (y == z) := by
  rw [Bool.eq_iff_iff, beq_iff_eq, beq_iff_eq]
  exact ⟨fun h => joinF_right hy hz h, fun h => by rw [h]⟩
theorem bne_same {a b : Bool} (h : a = b) : (a != b) = false := by rw [h]; simp
theorem wrap_in (x : Int) : -9223372036854775808 ≤ IntKind.i64.wrap x ∧ IntKind.i64.wrap x ≤ 9223372036854775807 := by rw [IntKind.wrap_i64]; omega
theorem wrap8_in (x : Int) : 0 ≤ IntKind.u8.wrap x ∧ IntKind.u8.wrap x < 256 := by rw [IntKind.wrap_u8']; omega
theorem bytes_set {b : List Int} (hb : Bytes8 b) {i : Nat} (x : Int) : Bytes8 (b.set i (IntKind.u8.wrap x)) := fun y hy => by
  rcases List.mem_or_eq_of_mem_set hy with hy | hy
  · exact hb y hy
  · rw [hy]; exact wrap8_in x
theorem nat64 {n : Nat} (h : n < 18446744073709551616) : In64 (n : Int) := ⟨by omega, by omega⟩

end Go.Proofs.Ytjmfaebimgnblaa
