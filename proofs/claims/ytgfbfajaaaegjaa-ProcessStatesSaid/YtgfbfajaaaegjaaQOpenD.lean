/-
  Opening arguments: bytes in a list, structures with four cells.
-/
import Derived.Test.YtgfbfajaaaegjaaQOpenC
import Derived.Test.YtgfbfajaaaegjaaQPrG
namespace Go.Proofs.Ytgfbfajaaaegjaa
open Go.ChangeShapes Go.WideShapes Go.ChangeAt Go.RowKit
set_option linter.unusedVariables false
theorem we {l : List Int} (h : ∀ n ∈ l, x4 .u8 n) : pv l := fun x hx => by
 have := wc (h x hx); omega
theorem B5 {S : Nat → Prop} {μ : Nat → Value} {w : World} {x y : D} {u v : Value} (h : ah S μ w x u) (k : ah S μ w y v) : aG S μ w [x, y] #[u, v] := ⟨rfl, fun j a z hy hz => by
 match j with
 | 0 => simp at hy hz; subst hy hz; exact h
 | 1 => simp at hy hz; subst hy hz; exact k
 | j + 2 => simp at hy⟩
end Go.Proofs.Ytgfbfajaaaegjaa
