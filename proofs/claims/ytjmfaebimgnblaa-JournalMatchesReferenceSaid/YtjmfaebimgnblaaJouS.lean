/-
  Journals, plain law: what JournalMatchesReference looks at.
-/
import Derived.Test.YtjmfaebimgnblaaJouR
import Derived.Test.YtjmfaebimgnblaaJouL
namespace Go.Proofs.Ytjmfaebimgnblaa
open Go.RowKit
set_option linter.unusedVariables false
set_option linter.unusedSimpArgs false

def encLY (l : List Int) : List V := [.sl 1 (encI .u8) 0 l]
abbrev OkY (y : List Int) : Prop := Bytes8 y ∧ y.length ≤ 2000
theorem rest_le {b : List Int} (hb : Bytes8 b) : (readF b 0).2.1.length ≤ b.length := by
  have h := (read_split b.length b 0 (Nat.le_refl _) hb).2.1
  have := congrArg List.length h
  rw [List.length_append] at this
  omega
theorem many_le : ∀ (l : List (List Int)), l.length ≤ lenR l
  | [] => by simp
  | r :: l => by have := many_le l; simp only [List.length_cons, lenR]; omega
theorem recs_read {y : List Int} (h : OkY y) : RecsOk (readF y 0).1 := by
  obtain ⟨h1, h2, _⟩ := read_split y.length y 0 (Nat.le_refl _) h.1
  have h3 := congrArg List.length h2
  rw [List.length_append, encs_len] at h3
  have h4 := many_le (readF y 0).1
  have h5 := h.2
  exact ⟨by omega, fun r hr => by have := (h1 r hr).1; omega⟩
theorem len_rest {y : List Int} (h : OkY y) : (readF y 0).2.1.length ≤ 137438953472 := by have := rest_le h.1; have := h.2; omega
theorem len_put (y r : List Int) : (jputJ y r).length ≤ 137438953472 := by have := jputJ_len y r; omega
theorem len_whole {y : List Int} (h : OkY y) : (wholeF y).length ≤ 137438953472 := by rw [wholeF, List.length_take]; have := h.2; omega
theorem len_cut {y : List Int} (h : OkY y) (n : Int) : (cutF y n).length ≤ 137438953472 := by rw [cutF, List.length_take]; have := h.2; omega
theorem all2 {b o : List Int} (hb : OkY b) (ho : OkY o) {i : Nat} (hi : i < 2) : OkY ([b, o].getD i []) := by
  match i, hi with
  | 0, _ => exact hb
  | 1, _ => exact ho
theorem Bytes8.setB {b : List Int} (hb : Bytes8 b) {i : Nat} {y : Int} (h0 : 0 ≤ y) (h1 : y < 256) : Bytes8 (b.set i y) := fun x hx => by
  rcases List.mem_or_eq_of_mem_set hx with h | rfl
  · exact hb x h
  · exact ⟨h0, h1⟩
theorem xorB_bound (a b : Int) : 0 ≤ xorB a b ∧ xorB a b < 256 := by
  unfold xorB
  rw [IntKind.wrap_u8']
  omega
def chgJ (l : List (List Int)) (k0 k1 : Nat) : List Int := (jr l l.length).set (k0 % (jr l l.length).length) (xorB ((jr l l.length).getD (k0 % (jr l l.length).length) 0) (IntKind.u8.wrap (k1 : Int)))
theorem chgJ_len (l : List (List Int)) (k0 k1 : Nat) : (chgJ l k0 k1).length = (jr l l.length).length := by simp [chgJ]
def cutJ (l : List (List Int)) (k0 k1 k2 : Nat) : List Int := (chgJ l k0 k1).take ((chgJ l k0 k1).length - k2 % (chgJ l k0 k1).length)
theorem okJ {l : List (List Int)} (h : SmallOk l) : OkY (jr l l.length) := by
  have h1 := h.lenR
  refine ⟨jr_8 l _, ?_⟩
  rw [jr_length h.all (by omega) (Nat.le_refl _), List.take_length]
  omega
theorem okC {l : List (List Int)} (h : SmallOk l) (k0 k1 k2 : Nat) : OkY (cutJ l k0 k1 k2) := by
  have h1 := (okJ h).2
  refine ⟨Bytes8.take (Bytes8.setB (jr_8 l _) (xorB_bound _ _).1 (xorB_bound _ _).2) _, ?_⟩
  rw [cutJ, List.length_take, chgJ_len]
  omega
def rJ (k : Nat) (n : Nat) : List Int := (List.range n).map fun i => ((7 * i : Nat) : Int) - (k : Int)
theorem rJ_len (k n : Nat) : (rJ k n).length = n := by simp [rJ]
theorem rJ_succ (k n : Nat) : rJ k (n + 1) = rJ k n ++ [((7 * n : Nat) : Int) - (k : Int)] := by simp [rJ, List.range_succ]

end Go.Proofs.Ytjmfaebimgnblaa
