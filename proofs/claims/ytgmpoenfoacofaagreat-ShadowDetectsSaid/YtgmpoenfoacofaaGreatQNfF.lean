/-
  The laws of networks, plain data: sizes of what runs, ends, feeding and collecting leave.
-/
import Derived.Test.YtgmpoenfoacofaaGreatQShG
namespace Go.Proofs.YtgmpoenfoacofaaGreat
open Go.RowKit
set_option linter.unusedVariables false
set_option linter.unusedSimpArgs false
theorem Gg {a b : List Int} (h : 0 ≤ gu a b) : ∃ d : Nat, gu a b = (d : Int) ∧ d < a.length ∧ d < b.length ∧ a.getD d 0 ≠ b.getD d 0 ∧ ∀ z, z < d → a.getD z 0 = b.getD z 0 := by
 obtain ⟨d, h1, h2, h3, h4⟩ := tI h
 refine ⟨d, h2, by omega, by omega, ?_, fun z hz => ?_⟩
 ·unfold ni at h3; simpa using h3
 ·have := h4 z hz; unfold ni at this; simpa using this
theorem Gh {a b : List Int} {d : Nat} (h1 : d < a.length) (h2 : d < b.length) (h3 : a.getD d 0 ≠ b.getD d 0) (h4 : ∀ z, z < d → a.getD z 0 = b.getD z 0) : gu a b = (d : Int) :=
 bM (f := ni a b) (by unfold ni; rw [decide_eq_false h3]; rfl) (fun z hz => by unfold ni; rw [decide_eq_true (h4 z hz)]; rfl) (by omega)
theorem Es {a b : List Sm} {i : Nat} (h : jB a b i = true) : 0 ≤ aW b (a.getD i bP).name ∧ aW a (a.getD i bP).name = (i : Int) ∧ 0 ≤ gu (a.getD i bP).words (ep b (aW b (a.getD i bP).name)) := by
 unfold jB at h
 simp only [Bool.and_eq_true, decide_eq_true_eq] at h
 exact ⟨h.1, h.2.1, h.2.2⟩
section
variable {c : Ci} {s : Ns}
theorem x5 (hc : b5 c) : ∀ {l : List ByteArray} {s : Ns} {k : Nat}, cT c s → l5 s k → cT c (aR c s l) ∧ l5 (aR c s l) (k + l.length)
 | [], _, _, hs, hm => ⟨hs, hm⟩
 | a :: r, s, k, hs, hm => by
  have := x5 hc (l := r) (xz hc hs (bU c a)) (Cg hc hm)
  exact ⟨this.1, fun m => Nat.le_trans (this.2 m) (by simp only [List.length_cons]; omega)⟩
end
end Go.Proofs.YtgmpoenfoacofaaGreat
