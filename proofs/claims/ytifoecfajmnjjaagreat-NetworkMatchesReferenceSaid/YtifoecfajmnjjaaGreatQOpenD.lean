/-
  Opening arguments: bytes in a list, structures with four cells.
-/
import Derived.Test.YtifoecfajmnjjaaGreatQOpenB
import Derived.Test.YtifoecfajmnjjaaGreatQPrG
namespace Go.Proofs.YtifoecfajmnjjaaGreat
open Go.ChangeShapes Go.WideShapes Go.ChangeAt Go.RowKit
set_option linter.unusedVariables false
set_option linter.unusedSimpArgs false
section
variable {H : Type} {enc : TypeId × Value → H} {P : Program} {W : World}
theorem G6 {α : Type} (l : List α) (h : l.length = 2) : ∃ a b, l = [a, b] := by
 match l, h with
 | [a, b], _ => exact ⟨a, b, rfl⟩
end
end Go.Proofs.YtifoecfajmnjjaaGreat

namespace Go.Proofs.YtifoecfajmnjjaaGreat
open Go.ChangeShapes Go.WideShapes Go.ChangeAt Go.RowKit
set_option linter.unusedVariables false
theorem JQ {α : Type} (l : List α) (h : l.length = 4) : ∃ a b c d, l = [a, b, c, d] := by
 match l, h with
 | [a, b, c, d], _ => exact ⟨a, b, c, d, rfl⟩
theorem Av {l : List Int} (h : ∀ n ∈ l, xh .u8 n) : lF l := fun x hx => by
 have := tU (h x hx); omega
theorem G7 {x : Int} (h : xh .u8 x) : 0 ≤ x ∧ x ≤ 255 := by have := tU h; omega
theorem Ik {S : Nat → Prop} {μ : Nat → Value} {w : World} {x y : D} {u v : Value} (h : ay S μ w x u) (k : ay S μ w y v) : a4 S μ w [x, y] #[u, v] := ⟨rfl, fun j a z hy hz => by
 match j with
 | 0 => simp at hy hz; subst hy hz; exact h
 | 1 => simp at hy hz; subst hy hz; exact k
 | j + 2 => simp at hy⟩
end Go.Proofs.YtifoecfajmnjjaaGreat
