/-
  What a row's reading of an argument says to the walks on pure data: slices of structures, of strings. Over any program.
-/
import Derived.Test.YtgfbfajaaaegjaaQOpenB
namespace Go.Proofs.Ytgfbfajaaaegjaa
open Go.ChangeShapes Go.WideShapes Go.ChangeAt Go.RowKit
set_option linter.unusedVariables false
set_option linter.unusedSimpArgs false
def BH (S : Nat → Prop) (w : World) : List V → List Value → Prop
 | [], [] => True
 | y :: ys, u :: us => dJ S w y u ∧ BH S w ys us
 | _, _ => False
theorem BH.at {S : Nat → Prop} {w : World} : ∀ {ys : List V} {us : List Value}, BH S w ys us → ys.length = us.length ∧ ∀ (j : Nat) (y : V), ys[j]? = some y → ∃ u, us[j]? = some u ∧ dJ S w y u
 | [], [], _ => ⟨rfl, fun j y hy => by simp at hy⟩
 | y :: ys, u :: us, h => by
  obtain ⟨h1, h2⟩ := h.2.at
  refine ⟨by simp [h1], fun j z hz => ?_⟩
  match j with
  | 0 => simp at hz; subst hz; exact ⟨u, rfl, h.1⟩
  | j + 1 => exact h2 j z (by simpa using hz)
 | [], _ :: _, h => h.elim
 | _ :: _, [], h => h.elim
section
variable {H : Type} {enc : TypeId × Value → H} {P : Program} {W : World}
theorem vQ {S : Nat → Prop} {t e n : TypeId} {k : IntKind} {fuel : Nat} {cs : List Value} {x : DataW H × List MemPlace} (ht : P.underlying t = some (.slice e)) (he : P.underlying e = some (.slice n)) (hn : P.underlying n = some (.int k)) (hc : P.cellsOf e = 1) (hc2 : P.cellsOf n = 1) (hS : ∀ b, b < W.heap.size → S b)
  (h : DataW.trod enc P W 0 (fun _ => true) true fuel t cs = some x) : ∃ v, ∃ l : List (List Int), cs = [v] ∧ (∀ a ∈ l, a.length ≤ maxLen ∧ ∀ n ∈ a, rY k n) ∧ l.length ≤ maxLen ∧ dJ S W (.sl 1 (fun a => [.sl 1 (ac k) 0 a]) [] l) v :=
 to (good := fun a => a.length ≤ maxLen ∧ ∀ n ∈ a, rY k n) (enc' := fun a => [.sl 1 (ac k) 0 a]) (d0 := []) ht hc hS (fun fuel cs y hy => by
  obtain ⟨v, l, e1, g1, g2, g3⟩ := cJ he hn hc2 hS hy
  exact ⟨v, l, _, e1, ⟨g2, g1⟩, rfl, g3⟩) h
end
end Go.Proofs.Ytgfbfajaaaegjaa
