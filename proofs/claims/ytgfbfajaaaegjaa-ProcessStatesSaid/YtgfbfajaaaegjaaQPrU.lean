/-
  Expressions of one level read as expressions of another, if they are not too deep.
-/
import Derived.Test.YtgfbfajaaaegjaaQPrQ
namespace Go.Proofs.Ytgfbfajaaaegjaa
open Go.RowKit
set_option linter.unusedVariables false
set_option linter.unusedSimpArgs false
theorem kk (e : Ex) : 1 ≤ ce e := by cases e with | mk op name k w args => rw [ce]; omega
theorem CU {S : Nat → Prop} {w : World} : ∀ (m n : Nat) (l : List Ex) (u : Value), (∀ a ∈ l, ce a ≤ m ∧ ce a ≤ n) → dy S w (.sl 7 (eA m) dE l) u → dy S w (.sl 7 (eA n) dE l) u := by
 intro m
 induction m with
 | zero =>
  intro n l u hd h
  have hl : l = [] := by
   cases l with
   | nil => rfl
   | cons a r => have := (hd a (by simp)).1; have := kk a; omega
  subst hl
  obtain ⟨p, c, rfl, h1, h2, h3, h4⟩ := dM h
  exact it rfl h1 h2 h3 (fun h => absurd h (by simp))
 | succ m ih =>
  intro n l u hd h
  cases n with
  | zero =>
   have hl : l = [] := by
    cases l with
    | nil => rfl
    | cons a r => have := (hd a (by simp)).2; have := kk a; omega
   subst hl
   obtain ⟨p, c, rfl, h1, h2, h3, h4⟩ := dM h
   exact it rfl h1 h2 h3 (fun h => absurd h (by simp))
  | succ n =>
   obtain ⟨p, c, rfl, h1, h2, h3, h4⟩ := dM h
   refine it rfl h1 h2 h3 (fun h0 => ?_)
   obtain ⟨b, off, us, q1, q2, q3, q4, q5, q6⟩ := h4 h0
   have key : ∀ (x : Ex) (j : Nat) (y : V), x ∈ l → (eA (n + 1) x)[j]? = some y → ∃ z, (eA (m + 1) x)[j]? = some z ∧ ∀ v, dy S w z v → dy S w y v := by
    intro x j y hx hy
    have hj : j < 7 := (List.getElem?_eq_some_iff.1 hy).1
    by_cases h6 : j = 6
    ·subst h6
     cases hy
     refine ⟨_, rfl, fun v hv => ih n x.args v (fun a ha => ?_) hv⟩
     have := fA ha
     have := hd x hx
     omega
    ·have : (eA (m + 1) x)[j]? = (eA (n + 1) x)[j]? := by
      have : j = 0 ∨ j = 1 ∨ j = 2 ∨ j = 3 ∨ j = 4 ∨ j = 5 := by omega
      rcases this with rfl | rfl | rfl | rfl | rfl | rfl <;> rfl
     exact ⟨y, by rw [this]; exact hy, fun v hv => hv⟩
   refine ⟨b, off, us, q1, q2, q3, fun i x hx => rfl, fun i x j y hx hy => ?_, fun i x j y hx hy => ?_⟩
   ·obtain ⟨z, hz, _⟩ := key x j y (List.mem_of_getElem? hx) hy
    exact q5 i x j z hx hz
   ·obtain ⟨z, hz, hr⟩ := key x j y (List.mem_of_getElem? hx) hy
    exact hr _ (q6 i x j z hx hz)
theorem An {m n : Nat} {l : List Ex} (h : ∀ a ∈ l, ce a ≤ m ∧ ce a ≤ n) : jd (.v (.sl 7 (eA m) dE l)) (.v (.sl 7 (eA n) dE l)) := fun S μ w u hu => .v _ _ (CU m n l u h (bA hu))
end Go.Proofs.Ytgfbfajaaaegjaa
