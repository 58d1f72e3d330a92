/-
  Expressions of one level read as expressions of another, if they are not too deep.
-/
import Derived.Test.YtgfbfajaaaegjaaQPrQ
namespace Go.Proofs.Ytgfbfajaaaegjaa
open Go.RowKit
set_option linter.unusedVariables false
set_option linter.unusedSimpArgs false
theorem qr (e : Ex) : 1 ≤ cR e := by cases e with | mk op name k w args => rw [cR]; omega
theorem Ec {S : Nat → Prop} {w : World} : ∀ (m n : Nat) (l : List Ex) (u : Value), (∀ a ∈ l, cR a ≤ m ∧ cR a ≤ n) → dJ S w (.sl 7 (eA m) dE l) u → dJ S w (.sl 7 (eA n) dE l) u := by
 intro m
 induction m with
 | zero =>
  intro n l u hd h
  have hl : l = [] := by
   cases l with
   | nil => rfl
   | cons a r => have := (hd a (by simp)).1; have := qr a; omega
  subst hl
  obtain ⟨p, c, rfl, h1, h2, h3, h4⟩ := ep h
  exact i4 rfl h1 h2 h3 (fun h => absurd h (by simp))
 | succ m ih =>
  intro n l u hd h
  cases n with
  | zero =>
   have hl : l = [] := by
    cases l with
    | nil => rfl
    | cons a r => have := (hd a (by simp)).2; have := qr a; omega
   subst hl
   obtain ⟨p, c, rfl, h1, h2, h3, h4⟩ := ep h
   exact i4 rfl h1 h2 h3 (fun h => absurd h (by simp))
  | succ n =>
   obtain ⟨p, c, rfl, h1, h2, h3, h4⟩ := ep h
   refine i4 rfl h1 h2 h3 (fun h0 => ?_)
   obtain ⟨b, off, us, q1, q2, q3, q4, q5, q6⟩ := h4 h0
   have key : ∀ (x : Ex) (j : Nat) (y : V), x ∈ l → (eA (n + 1) x)[j]? = some y → ∃ z, (eA (m + 1) x)[j]? = some z ∧ ∀ v, dJ S w z v → dJ S w y v := by
    intro x j y hx hy
    have hj : j < 7 := (List.getElem?_eq_some_iff.1 hy).1
    by_cases h6 : j = 6
    ·subst h6
     cases hy
     refine ⟨_, rfl, fun v hv => ih n x.args v (fun a ha => ?_) hv⟩
     have := d9 ha
     have := hd x hx
     omega
    ·have : (eA (m + 1) x)[j]? = (eA (n + 1) x)[j]? := by
      have : j = 0 ∨ j = 1 ∨ j = 2 ∨ j = 3 ∨ j = 4 ∨ j = 5 := by omega
      rcases this with rfl | rfl | rfl | rfl | rfl | rfl <;> rfl
     exact ⟨y, by rw [this]; exact hy, fun v hv => hv⟩
   refine ⟨b, off, us, q1, q2, q3, fun i x hx => rfl, fun i x j y hx hy => ?_, fun i x j y hx hy => ?_⟩
   ·obtain ⟨z, hz, _⟩ := key x j y (List.mem_of_getElem? hx) hy
    exact q5 i x j z hx hz
   ·obtain ⟨z, hz, hr⟩ := key x j y (List.mem_of_getElem? hx) hy
    exact hr _ (q6 i x j z hx hz)
def Ax : List D → List D → Prop
 | [], [] => True
 | x :: xs, y :: ys => jM x y ∧ Ax xs ys
 | _, _ => False
theorem Ay {xs ys : List D} (h : Ax xs ys) : jM (.agg xs) (.agg ys) := by
 intro S μ w u hu
 obtain ⟨us, rfl, h1, h2⟩ := eY hu
 have key : ∀ (xs ys : List D), Ax xs ys → xs.length = ys.length ∧ ∀ (j : Nat) (y : D), ys[j]? = some y → ∃ x, xs[j]? = some x ∧ jM x y := by
  intro xs
  induction xs with
  | nil =>
   intro ys h
   cases ys with
   | nil => exact ⟨rfl, fun j y hy => by simp at hy⟩
   | cons _ _ => exact h.elim
  | cons x xs ih =>
   intro ys h
   cases ys with
   | nil => exact h.elim
   | cons y ys =>
    obtain ⟨q1, q2⟩ := ih ys h.2
    refine ⟨by simp [q1], fun j z hz => ?_⟩
    cases j with
    | zero => simp at hz; subst hz; exact ⟨x, rfl, h.1⟩
    | succ j => simpa using q2 j z (by simpa using hz)
 obtain ⟨q1, q2⟩ := key xs ys h
 refine .agg _ _ (by rw [← q1]; exact h1) (fun j y v hy hv => ?_)
 obtain ⟨x, hx, hl⟩ := q2 j y hy
 exact hl S μ w v (h2 j x v hx hv)
theorem lD (x : D) : jM x x := fun _ _ _ _ h => h
theorem yf {m n : Nat} {l : List Ex} (h : ∀ a ∈ l, cR a ≤ m ∧ cR a ≤ n) : jM (.v (.sl 7 (eA m) dE l)) (.v (.sl 7 (eA n) dE l)) := fun S μ w u hu => .v _ _ (Ec m n l u h (bH hu))
abbrev E1 (n : Nat) (e : Ex) : List D := [.v (.int .i64 e.op), .v (.str e.name), .v (.int .i64 e.k.n), .v (.str e.k.p), .v (.int .i64 e.w.n), .v (.str e.w.p), .v (.sl 7 (eA n) dE e.args)]
theorem vN {m n : Nat} {e : Ex} (h1 : cR e ≤ m + 1) (h2 : cR e ≤ n + 1) : jM (.agg (E1 m e)) (.agg (E1 n e)) :=
 Ay ⟨lD _, lD _, lD _, lD _, lD _, lD _, yf (fun a ha => by have := d9 ha; omega), trivial⟩
end Go.Proofs.Ytgfbfajaaaegjaa
