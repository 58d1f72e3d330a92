/-
  The laws of streams: comparisons.
-/
import Derived.Test.YtckgpflobhpnpaaQStS
namespace Go.Proofs.Ytckgpflobhpnpaa
open Go.RowKit
set_option linter.unusedVariables false
set_option linter.unusedSimpArgs false
theorem tq : ∀ a b : List Int, bO a b = bO b a
 | [], [] => rfl
 | [], _ :: _ => rfl
 | _ :: _, [] => rfl
 | x :: a, y :: b => by
  rw [bO, bO, tq a b]
  by_cases h : x = y
  ·rw [if_pos h, if_pos h.symm]
  ·rw [if_neg h, if_neg (fun e => h e.symm)]
theorem xN : ∀ (a b : List Int), a.take (bO a b) <+: b
 | [], b => by simp
 | x :: a, [] => by simp [bO]
 | x :: a, y :: b => by
  rw [bO]
  by_cases h : x = y
  ·rw [if_pos h, List.take_succ_cons, List.cons_prefix_cons]
   exact ⟨h, xN a b⟩
  ·rw [if_neg h]; simp
section
variable {a b : List (List Int)} {i : Nat}
theorem jI (h : (ao a b).2.2 = true) : (aX a b < a.length ∧ aX a b < b.length) ∧ a7 a b = bO (a.getD (aX a b) []) (b.getD (aX a b) []) ∧ (a7 a b < (a.getD (aX a b) []).length ∧ a7 a b < (b.getD (aX a b) []).length) ∧
  ∀ k, k < aX a b → ¬bO (a.getD k []) (b.getD k []) < min (a.getD k []).length (b.getD k []).length := by
 rcases mB (a := a) (b := b) (min a.length b.length) 0 with ⟨h1, _⟩ | ⟨j, _, h2, h3, h4, h5⟩
 ·rw [show ao a b = _ from h1] at h; cases h
 ·have e : ao a b = ((j : Int), (bO (a.getD j []) (b.getD j []) : Int), true) := h3
  have e1 : aX a b = j := by unfold aX; rw [e]; exact Int.toNat_natCast j
  have e2 : a7 a b = bO (a.getD j []) (b.getD j []) := by unfold a7; rw [e]; exact Int.toNat_natCast _
  rw [e1, e2]
  exact ⟨⟨by omega, by omega⟩, rfl, ⟨by omega, by omega⟩, fun k hk => h5 k (Nat.zero_le _) hk⟩
theorem tr (h : ¬(ao a b).2.2 = true) : ∀ k, k < a.length → k < b.length → ¬bO (a.getD k []) (b.getD k []) < min (a.getD k []).length (b.getD k []).length := by
 rcases mB (a := a) (b := b) (min a.length b.length) 0 with ⟨_, h1⟩ | ⟨j, _, h2, h3, h4, h5⟩
 ·exact fun k hk1 hk2 => h1 k (Nat.zero_le _) (by omega)
 ·rw [show ao a b = _ from h3] at h; exact absurd rfl h
theorem zd (h : (ao a b).2.2 = true) : ¬(a.getD (aX a b) []).getD (a7 a b) 0 = (b.getD (aX a b) []).getD (a7 a b) 0 := by
 obtain ⟨_, h2, h3, _⟩ := jI h
 rw [h2] at h3 ⊢
 exact yZ h3.1 h3.2
theorem bc (h : i < a.length) : (a.take (i + 1)).drop i = [a.getD i []] := by
 rw [List.take_add_one, List.getElem?_eq_getElem h, eE _ _ h, List.drop_append_of_le_length (by rw [List.length_take]; omega), List.drop_eq_nil_of_le (by rw [List.length_take]; omega)]; rfl
theorem bG {x : List Int} (h : x.length ≤ 9223372036854775807) (z : Nat) : ([x].getD z []).length ≤ 9223372036854775807 := by
 cases z with
 | zero => exact h
 | succ z => simp
theorem Gg (x y : List Int) : aV [x] [y] = iE x y := by
 unfold aV iE
 simp [dP]
theorem wy (h : i < a.length) (h2 : i < b.length) : aV ((a.take (i + 1)).drop i) ((b.take (i + 1)).drop i) = iE (a.getD i []) (b.getD i []) := by
 rw [bc h, bc h2, Gg]
def bE (a b : List (List Int)) (i : Nat) : Bool := iE (a.getD i []) (b.getD i []) || iE (b.getD i []) (a.getD i [])
theorem kG (h : i < a.length) (h2 : i < b.length) (hp : aV ((a.take (i + 1)).drop i) ((b.take (i + 1)).drop i) = true) : true = bE a b i := by
 rw [wy h h2] at hp
 unfold bE; rw [hp]; rfl
theorem kH (h : i < a.length) (h2 : i < b.length) (hp : ¬aV ((a.take (i + 1)).drop i) ((b.take (i + 1)).drop i) = true) : aV ((b.take (i + 1)).drop i) ((a.take (i + 1)).drop i) = bE a b i := by
 rw [wy h h2] at hp
 rw [wy h2 h]
 unfold bE; rw [show iE (a.getD i []) (b.getD i []) = false by simpa using hp]; rfl
theorem cj (h : ¬bO (a.getD i []) (b.getD i []) < min (a.getD i []).length (b.getD i []).length) : bE a b i = true := by
 have := yY (a.getD i []) (b.getD i [])
 unfold bE iE
 rw [tq (b.getD i []) (a.getD i [])]
 by_cases h1 : bO (a.getD i []) (b.getD i []) < (a.getD i []).length
 ·rw [decide_eq_false (show ¬bO (a.getD i []) (b.getD i []) < (b.getD i []).length by omega)]; simp
 ·rw [decide_eq_false h1]; rfl
theorem gt (h1 : bO (a.getD i []) (b.getD i []) < (a.getD i []).length) (h2 : bO (a.getD i []) (b.getD i []) < (b.getD i []).length) : bE a b i = false := by
 unfold bE iE
 rw [tq (b.getD i []) (a.getD i []), decide_eq_true h1, decide_eq_true h2]; rfl
theorem d9 (hf : (ao a b).2.2 = true) (hi : i = aX a b) (h2 : i < b.length) : aV [((a.getD i []).take (a7 a b)).drop 0] ((b.take (i + 1)).drop i) = true := by
 obtain ⟨_, h3, _⟩ := jI hf
 rw [bc h2, Gg, List.drop_zero, h3, ← hi]
 unfold iE
 rw [decide_eq_false ((rP _ _).2 (xN _ _))]; rfl
end
end Go.Proofs.Ytckgpflobhpnpaa
