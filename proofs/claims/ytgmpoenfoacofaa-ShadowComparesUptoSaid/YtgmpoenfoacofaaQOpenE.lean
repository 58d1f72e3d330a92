/-
  What a row's reading of an argument says to the walks on pure data: slices of structures, of strings. Over any program.
-/
import Derived.Test.YtgmpoenfoacofaaQOpenB
namespace Go.Proofs.Ytgmpoenfoacofaa
open Go.ChangeShapes Go.WideShapes Go.ChangeAt Go.RowKit
set_option linter.unusedVariables false
set_option linter.unusedSimpArgs false
def uV (S : Nat → Prop) (w : World) : List V → List Value → Prop
 | [], [] => True
 | y :: ys, u :: us => bU S w y u ∧ uV S w ys us
 | _, _ => False
theorem uV.at {S : Nat → Prop} {w : World} : ∀ {ys : List V} {us : List Value}, uV S w ys us → ys.length = us.length ∧ ∀ (j : Nat) (y : V), ys[j]? = some y → ∃ u, us[j]? = some u ∧ bU S w y u
 | [], [], _ => ⟨rfl, fun j y hy => by simp at hy⟩
 | y :: ys, u :: us, h => by
  obtain ⟨h1, h2⟩ := h.2.at
  refine ⟨by simp [h1], fun j z hz => ?_⟩
  match j with
  | 0 => simp at hz; subst hz; exact ⟨u, rfl, h.1⟩
  | j + 1 => exact h2 j z (by simpa using hz)
 | [], _ :: _, h => h.elim
 | _ :: _, [], h => h.elim
end Go.Proofs.Ytgmpoenfoacofaa
