/-
  Opening arguments: bytes in a list, structures with four cells.
-/
import Derived.Test.YtifoecfajmnjjaaGreatQOpenB
import Derived.Test.YtifoecfajmnjjaaGreatQPrG
namespace Go.Proofs.YtifoecfajmnjjaaGreat
open Go.ChangeShapes Go.WideShapes Go.ChangeAt Go.RowKit
set_option linter.unusedVariables false
theorem Ij {α : Type} (l : List α) (h : l.length = 4) : ∃ a b c d, l = [a, b, c, d] := by
 match l, h with
 | [a, b, c, d], _ => exact ⟨a, b, c, d, rfl⟩
theorem zn {l : List Int} (h : ∀ n ∈ l, Et .u8 n) : lr l := fun x hx => by
 have := ti (h x hx); omega
theorem FU {x : Int} (h : Et .u8 x) : 0 ≤ x ∧ x ≤ 255 := by have := ti h; omega
theorem GX {S : Nat → Prop} {μ : Nat → Value} {w : World} {x y : D} {u v : Value} (h : aA S μ w x u) (k : aA S μ w y v) : aZ S μ w [x, y] #[u, v] := ⟨rfl, fun j a z hy hz => by
 match j with
 | 0 => simp at hy hz; subst hy hz; exact h
 | 1 => simp at hy hz; subst hy hz; exact k
 | j + 2 => simp at hy⟩
end Go.Proofs.YtifoecfajmnjjaaGreat
