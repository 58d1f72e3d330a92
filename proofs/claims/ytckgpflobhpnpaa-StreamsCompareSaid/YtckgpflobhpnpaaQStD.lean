/-
  Settled networks, inputs that bytes describe, prefixes: plain laws of streams.
-/
import Derived.Test.YtckgpflobhpnpaaQStC
namespace Go.Proofs.Ytckgpflobhpnpaa
open Go.RowKit
set_option linter.unusedVariables false
set_option linter.unusedSimpArgs false
section
variable {c : Ci} {s : Ns} {u : Uf} {p n : Nat}
def bO : List Int → List Int → Nat
 | x :: a, y :: b => if x = y then bO a b + 1 else 0
 | _, _ => 0
theorem yY : ∀ a b, bO a b ≤ a.length ∧ bO a b ≤ b.length
 | [], _ => ⟨Nat.zero_le _, Nat.zero_le _⟩
 | x :: a, [] => ⟨Nat.zero_le _, Nat.zero_le _⟩
 | x :: a, y :: b => by
  have := yY a b
  rw [bO]; split <;> simp <;> omega
theorem rP : ∀ a b : List Int, ¬bO a b < a.length ↔ a <+: b
 | [], b => ⟨fun _ => List.nil_prefix, fun _ => by simp⟩
 | x :: a, [] => ⟨fun h => absurd (show bO (x :: a) [] < (x :: a).length from Nat.succ_pos _) h, fun h => by simp at h⟩
 | x :: a, y :: b => by
  rw [List.cons_prefix_cons, ← rP a b, bO]
  split
  ·rename_i h; simp [h]
  ·rename_i h; simp [h]
theorem DE : ∀ {a b : List Int} {i : Nat}, i < bO a b → a.getD i 0 = b.getD i 0
 | [], _, _, h => by simp [bO] at h
 | x :: a, [], _, h => by simp [bO] at h
 | x :: a, y :: b, i, h => by
  rw [bO] at h
  split at h
  ·rename_i e
   cases i with
   | zero => simpa using e
   | succ i =>
    have := DE (a := a) (b := b) (i := i) (by omega)
    simpa using this
  ·omega
theorem yZ : ∀ {a b : List Int}, bO a b < a.length → bO a b < b.length → a.getD (bO a b) 0 ≠ b.getD (bO a b) 0
 | [], _, h, _ => by simp at h
 | x :: a, [], _, h => by simp at h
 | x :: a, y :: b, h, k => by
  rw [bO] at h k ⊢
  split
  ·rename_i e
   rw [if_pos e] at h k
   have := yZ (a := a) (b := b) (by simpa using h) (by simpa using k)
   simpa using this
  ·rename_i e; simpa using e
theorem qy {a b : List Int} {i : Nat} (h1 : i ≤ a.length) (h2 : i ≤ b.length) (h : ∀ j, j < i → a.getD j 0 = b.getD j 0) (h3 : ¬(i < a.length ∧ i < b.length ∧ a.getD i 0 = b.getD i 0)) : bO a b = i := by
 rcases Nat.lt_trichotomy (bO a b) i with h4 | h4 | h4
 ·exact absurd (h _ h4) (yZ (by omega) (by omega))
 ·exact h4
 ·have := yY a b
  exact absurd ⟨by omega, by omega, DE h4⟩ h3
def aV (a b : List (List Int)) : Bool := decide (a.length = b.length) && dP (fun i => !decide (bO (a.getD i []) (b.getD i []) < (a.getD i []).length)) a.length
theorem rQ {a b : List (List Int)} : aV a b = true ↔ a.length = b.length ∧ ∀ i, i < a.length → a.getD i [] <+: b.getD i [] := by
 unfold aV
 rw [Bool.and_eq_true, decide_eq_true_eq, c9]
 refine ⟨fun ⟨h1, h2⟩ => ⟨h1, fun i hi => (rP _ _).1 ?_⟩, fun ⟨h1, h2⟩ => ⟨h1, fun i hi => ?_⟩⟩
 ·have := h2 i hi; simpa using this
 ·have := (rP _ _).2 (h2 i hi)
  rw [decide_eq_false this]; rfl
theorem te (a : List (List Int)) : aV a a = true := rQ.2 ⟨rfl, fun i _ => List.prefix_refl _⟩
theorem BG {a b d : List (List Int)} (h1 : aV a b = true) (h2 : aV b d = true) : aV a d = true := by
 obtain ⟨a1, a2⟩ := rQ.1 h1
 obtain ⟨b1, b2⟩ := rQ.1 h2
 exact rQ.2 ⟨a1.trans b1, fun i hi => (a2 i hi).trans (b2 i (by omega))⟩
def rn (a b : List (List Int)) : Nat → Nat → Int × Int × Bool
 | 0, _ => (0, 0, false)
 | m + 1, i => if bO (a.getD i []) (b.getD i []) < min (a.getD i []).length (b.getD i []).length then ((i : Int), (bO (a.getD i []) (b.getD i []) : Int), true) else rn a b m (i + 1)
def ao (a b : List (List Int)) : Int × Int × Bool := rn a b (min a.length b.length) 0
theorem mB {a b : List (List Int)} : ∀ (m i : Nat), (rn a b m i = (0, 0, false) ∧ ∀ j, i ≤ j → j < i + m → ¬bO (a.getD j []) (b.getD j []) < min (a.getD j []).length (b.getD j []).length) ∨
  ∃ j : Nat, i ≤ j ∧ j < i + m ∧ rn a b m i = ((j : Int), (bO (a.getD j []) (b.getD j []) : Int), true) ∧ bO (a.getD j []) (b.getD j []) < min (a.getD j []).length (b.getD j []).length ∧ ∀ k, i ≤ k → k < j → ¬bO (a.getD k []) (b.getD k []) < min (a.getD k []).length (b.getD k []).length
 | 0, i => .inl ⟨rfl, fun j h1 h2 => by omega⟩
 | m + 1, i => by
  rw [rn]
  split
  ·rename_i h
   exact .inr ⟨i, Nat.le_refl _, by omega, rfl, h, fun k h1 h2 => by omega⟩
  ·rename_i h
   rcases mB (a := a) (b := b) m (i + 1) with ⟨h1, h2⟩ | ⟨j, h1, h2, h3, h4, h5⟩
   ·refine .inl ⟨h1, fun j a1 a2 => ?_⟩
    by_cases e : j = i
    ·subst e; exact h
    ·exact h2 j (by omega) (by omega)
   ·refine .inr ⟨j, by omega, by omega, h3, h4, fun k a1 a2 => ?_⟩
    by_cases e : k = i
    ·subst e; exact h
    ·exact h5 k (by omega) a2
end
end Go.Proofs.Ytckgpflobhpnpaa
