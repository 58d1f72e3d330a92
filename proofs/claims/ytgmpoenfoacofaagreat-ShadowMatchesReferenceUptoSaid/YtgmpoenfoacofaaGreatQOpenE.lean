/-
  What a row's reading of an argument says to the walks on pure data: slices of structures, of strings. Over any program.
-/
import Derived.Test.YtgmpoenfoacofaaGreatQOpenB
import Derived.Test.YtgmpoenfoacofaaGreatQPrG
import Derived.OpenShut
namespace Go.Proofs.YtgmpoenfoacofaaGreat
open Go.ChangeShapes Go.WideShapes Go.ChangeAt Go.RowKit
set_option linter.unusedVariables false
set_option linter.unusedSimpArgs false
section
variable {H : Type} {enc : TypeId × Value → H} {P : Program} {W : World}
theorem Ko {α : Type} (l : List α) (h : l.length = 2) : ∃ a b, l = [a, b] := by
 match l, h with
 | [a, b], _ => exact ⟨a, b, rfl⟩
end
theorem uC {l : List Int} (h : ∀ n ∈ l, AE .u8 n) : iG l := fun x hx => by
 have := uA (h x hx); omega
theorem wh {x : Int} (h : AE .u8 x) : 0 ≤ x ∧ x ≤ 255 := by have := uA h; omega
theorem Kp {α : Type} (l : List α) (h : l.length = 6) : ∃ a b c d e f, l = [a, b, c, d, e, f] := by
 match l, h with
 | [a, b, c, d, e, f], _ => exact ⟨a, b, c, d, e, f, rfl⟩
theorem Ms {n : Nat} (h : n ≤ maxLen) : n ≤ 9223372036854775807 := by unfold maxLen at h; omega
def FU (S : Nat → Prop) (w : World) : List V → List Value → Prop
 | [], [] => True
 | y :: ys, u :: us => dJ S w y u ∧ FU S w ys us
 | _, _ => False
theorem FU.at {S : Nat → Prop} {w : World} : ∀ {ys : List V} {us : List Value}, FU S w ys us → ys.length = us.length ∧ ∀ (j : Nat) (y : V), ys[j]? = some y → ∃ u, us[j]? = some u ∧ dJ S w y u
 | [], [], _ => ⟨rfl, fun j y hy => by simp at hy⟩
 | y :: ys, u :: us, h => by
  obtain ⟨h1, h2⟩ := h.2.at
  refine ⟨by simp [h1], fun j z hz => ?_⟩
  match j with
  | 0 => simp at hz; subst hz; exact ⟨u, rfl, h.1⟩
  | j + 1 => exact h2 j z (by simpa using hz)
 | [], _ :: _, h => h.elim
 | _ :: _, [], h => h.elim
end Go.Proofs.YtgmpoenfoacofaaGreat
