/-
  Journals, plain law: the reference's words.
-/
import Derived.Test.YtjmfaebimgnblaaJouA0
namespace Go.Proofs.Ytjmfaebimgnblaa
open Go.RowKit
set_option linter.unusedVariables false
set_option linter.unusedSimpArgs false

theorem wordN_drop (b : List Int) (a i : Nat) : wordN (b.drop a) i = wordN b (a + i) := by
  unfold wordN partN
  rw [List.drop_drop]
def pcS (b : List Int) (a : Nat) (s : Int) : Nat := if badN (b.drop a) s then 0 else wordN (b.drop a) (16 + 8 * wordN (b.drop a) 0)
def pcE (b : List Int) (a : Nat) (s : Int) : Nat := if badN (b.drop a) s then 0 else a + 24 + 8 * wordN (b.drop a) 0
theorem recN_succ (b : List Int) (n : Nat) : recN b (n + 1) = recN b n ++ [IntKind.i64.wrap (wordN b (16 + 8 * n) : Int)] := by simp [recN, List.range_succ]
theorem pc_bad {b : List Int} {a : Nat} {s : Int} (h : badN (b.drop a) s) : [] = nextL (b.drop a) s ∧ (0 : Int) = (pcS b a s : Nat) ∧ (0 : Int) = (pcE b a s : Nat) ∧ false = nextB (b.drop a) s := by
  unfold pcS pcE
  rw [nextL_bad h, nextB_bad h, if_pos h, if_pos h]
  exact ⟨rfl, rfl, rfl, rfl⟩
theorem pc_ok {b : List Int} {a : Nat} {s : Int} (h : ¬ badN (b.drop a) s) : nextL (b.drop a) s = recN (b.drop a) (wordN (b.drop a) 0) ∧ pcS b a s = wordN (b.drop a) (16 + 8 * wordN (b.drop a) 0) ∧ pcE b a s = a + 24 + 8 * wordN (b.drop a) 0 ∧ nextB (b.drop a) s = true := by
  unfold pcS pcE
  rw [nextL_ok h, nextB_ok h, if_neg h, if_neg h]
  exact ⟨rfl, rfl, rfl, rfl⟩
theorem room_ok {b : List Int} {a : Nat} {s : Int} (h : ¬ badN (b.drop a) s) : a + 24 + 8 * wordN (b.drop a) 0 ≤ b.length ∧ wordN (b.drop a) 0 ≤ 256 := by
  have h1 : ¬ ((b.drop a).length < 24 + 8 * wordN (b.drop a) 0) := fun hh => h (.inr (.inr (.inl hh)))
  have h2 : ¬ (256 < wordN (b.drop a) 0) := fun hh => h (.inr (.inl hh))
  have h3 : ¬ ((b.drop a).length < 24) := fun hh => h (.inl hh)
  rw [List.length_drop] at h1 h3
  omega
theorem next_drop {b : List Int} {a : Nat} {s : Int} (h : ¬ badN (b.drop a) s) : nextR (b.drop a) s = b.drop (a + 24 + 8 * wordN (b.drop a) 0) := by
  rw [nextR_ok h, List.drop_drop]
  congr 1
  omega
theorem nextS_pc {b : List Int} {a : Nat} {s : Int} (h : ¬ badN (b.drop a) s) : nextS (b.drop a) s = ((pcS b a s : Nat) : Int) := by
  rw [nextS_ok h, (pc_ok h).2.1]
def endN (b : List Int) : Nat := b.length - (readF b 0).2.1.length
theorem addB_len (b : List Int) (n : Int) (k : Nat) : (b ++ bytesK n k).length = b.length + k := by rw [List.length_append, bytesK_len]
theorem torn_ne {b : List Int} (h : tornF b ≠ 0) : 0 < (readF b 0).2.1.length := by
  unfold tornF at h
  split at h
  · assumption
  · exact (h rfl).elim
theorem torn_eq {b : List Int} (h : tornF b = 0) : ¬ 0 < (readF b 0).2.1.length := fun hh => by
  unfold tornF at h
  rw [if_pos hh] at h
  cases h
theorem getD_mem {l : List (List Int)} {k : Nat} (h : k < l.length) : l.getD k [] ∈ l := by
  simp only [List.getD, List.getElem?_eq_getElem h, Option.getD_some]
  exact List.getElem_mem h
/-- The encoding, word by word. -/
def encK (s : Int) (r : List Int) : Nat → List Int
  | 0 => (([] : List Int) ++ bytesK (r.length : Int) 8) ++ bytesK (tagF s [(r.length : Int)]) 8
  | k + 1 => encK s r k ++ bytesK (IntKind.u64.wrap (r.getD k 0)) 8
theorem encK_len (s : Int) (r : List Int) : ∀ k, (encK s r k).length = 16 + 8 * k
  | 0 => by simp [encK, bytesK_len]
  | k + 1 => by rw [encK, List.length_append, encK_len s r k, bytesK_len]; omega
theorem encK_eq (s : Int) (r : List Int) : ∀ k, k ≤ r.length → encK s r k = bytesK r.length 8 ++ bytesK (tagF s [(r.length : Int)]) 8 ++ (r.take k).flatMap (fun v => bytesK (u64 v) 8)
  | 0, _ => by simp [encK]
  | k + 1, h => by
    rw [encK, encK_eq s r k (by omega), List.take_succ_eq_append_getElem (by omega), List.flatMap_append]
    simp [u64, List.getD, List.getElem?_eq_getElem (show k < r.length from by omega)]
theorem encK_full (s : Int) (r : List Int) : encK s r r.length ++ bytesK (tagF s r) 8 = encF s r := by
  rw [encK_eq s r _ (Nat.le_refl _), List.take_length]; rfl

end Go.Proofs.Ytjmfaebimgnblaa
