/-
  Settled networks, inputs that bytes describe, prefixes: plain laws of streams.
-/
import Derived.Test.YtckgpflobhpnpaaGreatQStC
namespace Go.Proofs.YtckgpflobhpnpaaGreat
open Go.RowKit
set_option linter.unusedVariables false
set_option linter.unusedSimpArgs false
section
variable {c : Ci} {s : Ns} {u : Uf} {p n : Nat}
def Jr (c : Ci) (b : List Int) (q n : Nat) : Nat := if (cr c n).frm < 0 then (b.getD q 0 % 8).toNat else 0
def inQ (c : Ci) (b : List Int) : Nat → Nat
 | 0 => 0
 | n + 1 => if (cr c n).frm < 0 then inQ c b n + (1 + (b.getD (inQ c b n) 0 % 8).toNat) else inQ c b n
def r7 (c : Ci) (b : List Int) (n : Nat) : List Int := tab (mG b (inQ c b n) (cr c n).w) (Jr c b (inQ c b n) n)
def ct (c : Ci) (b : List Int) : List (List Int) := tab (r7 c b) c.chans.length
theorem KI (c : Ci) {b : List Int} (hb : lK b) (q n : Nat) : Jr c b q n ≤ 7 := by
 have := di hb q
 unfold Jr; split <;> omega
theorem Me (hc : aZ c) {b : List Int} (hb : lK b) (hf : ∀ n, n < c.chans.length → -1 ≤ (cr c n).frm) : lJ c (ct c b) := by
 have hat : ∀ n, n < c.chans.length → (ct c b).getD n [] = r7 c b n := fun n hn => az hn
 refine ⟨ap _ _, fun n hn h => ?_, fun n hn i hi => ?_, fun n => ?_⟩
 ·rw [hat n hn]
  unfold r7 Jr
  rw [if_neg (by have := hf n hn; omega)]; rfl
 ·rw [hat n hn] at hi ⊢
  unfold r7 at hi ⊢
  rw [ap] at hi
  rw [az hi]
  have hw := bo.1 (hc.cw n hn)
  exact KG hw.1 (by omega)
 ·by_cases hn : n < c.chans.length
  ·rw [hat n hn]
   unfold r7
   rw [ap]
   exact Nat.le_trans (KI c hb _ _) (by decide)
  ·rw [show (ct c b).getD n [] = [] from Cp (by omega)]; exact Nat.zero_le _
def dj : List Int → List Int → Nat
 | x :: a, y :: b => if x = y then dj a b + 1 else 0
 | _, _ => 0
theorem Gz : ∀ a b, dj a b ≤ a.length ∧ dj a b ≤ b.length
 | [], _ => ⟨Nat.zero_le _, Nat.zero_le _⟩
 | x :: a, [] => ⟨Nat.zero_le _, Nat.zero_le _⟩
 | x :: a, y :: b => by
  have := Gz a b
  rw [dj]; split <;> simp <;> omega
theorem x7 : ∀ a b : List Int, ¬dj a b < a.length ↔ a <+: b
 | [], b => ⟨fun _ => List.nil_prefix, fun _ => by simp⟩
 | x :: a, [] => ⟨fun h => absurd (show dj (x :: a) [] < (x :: a).length from Nat.succ_pos _) h, fun h => by simp at h⟩
 | x :: a, y :: b => by
  rw [List.cons_prefix_cons, ← x7 a b, dj]
  split
  ·rename_i h; simp [h]
  ·rename_i h; simp [h]
theorem GA : ∀ {a b : List Int} {i : Nat}, i < dj a b → a.getD i 0 = b.getD i 0
 | [], _, _, h => by simp [dj] at h
 | x :: a, [], _, h => by simp [dj] at h
 | x :: a, y :: b, i, h => by
  rw [dj] at h
  split at h
  ·rename_i e
   cases i with
   | zero => simpa using e
   | succ i =>
    have := GA (a := a) (b := b) (i := i) (by omega)
    simpa using this
  ·omega
theorem GB : ∀ {a b : List Int}, dj a b < a.length → dj a b < b.length → a.getD (dj a b) 0 ≠ b.getD (dj a b) 0
 | [], _, h, _ => by simp at h
 | x :: a, [], _, h => by simp at h
 | x :: a, y :: b, h, k => by
  rw [dj] at h k ⊢
  split
  ·rename_i e
   rw [if_pos e] at h k
   have := GB (a := a) (b := b) (by simpa using h) (by simpa using k)
   simpa using this
  ·rename_i e; simpa using e
theorem r8 {a b : List Int} {i : Nat} (h1 : i ≤ a.length) (h2 : i ≤ b.length) (h : ∀ j, j < i → a.getD j 0 = b.getD j 0) (h3 : ¬(i < a.length ∧ i < b.length ∧ a.getD i 0 = b.getD i 0)) : dj a b = i := by
 rcases Nat.lt_trichotomy (dj a b) i with h4 | h4 | h4
 ·exact absurd (h _ h4) (GB (by omega) (by omega))
 ·exact h4
 ·have := Gz a b
  exact absurd ⟨by omega, by omega, GA h4⟩ h3
def er (a b : List (List Int)) : Bool := decide (a.length = b.length) && dR (fun i => !decide (dj (a.getD i []) (b.getD i []) < (a.getD i []).length)) a.length
theorem IA {a b : List (List Int)} : er a b = true ↔ a.length = b.length ∧ ∀ i, i < a.length → a.getD i [] <+: b.getD i [] := by
 unfold er
 rw [Bool.and_eq_true, decide_eq_true_eq, cH]
 refine ⟨fun ⟨h1, h2⟩ => ⟨h1, fun i hi => (x7 _ _).1 ?_⟩, fun ⟨h1, h2⟩ => ⟨h1, fun i hi => ?_⟩⟩
 ·have := h2 i hi; simpa using this
 ·have := (x7 _ _).2 (h2 i hi)
  rw [decide_eq_false this]; rfl
def s6 (a b : List (List Int)) : Nat → Nat → Int × Int × Bool
 | 0, _ => (0, 0, false)
 | m + 1, i => if dj (a.getD i []) (b.getD i []) < min (a.getD i []).length (b.getD i []).length then ((i : Int), (dj (a.getD i []) (b.getD i []) : Int), true) else s6 a b m (i + 1)
def dp (a b : List (List Int)) : Int × Int × Bool := s6 a b (min a.length b.length) 0
theorem wL {a b : List (List Int)} : ∀ (m i : Nat), (s6 a b m i = (0, 0, false) ∧ ∀ j, i ≤ j → j < i + m → ¬dj (a.getD j []) (b.getD j []) < min (a.getD j []).length (b.getD j []).length) ∨
  ∃ j : Nat, i ≤ j ∧ j < i + m ∧ s6 a b m i = ((j : Int), (dj (a.getD j []) (b.getD j []) : Int), true) ∧ dj (a.getD j []) (b.getD j []) < min (a.getD j []).length (b.getD j []).length ∧ ∀ k, i ≤ k → k < j → ¬dj (a.getD k []) (b.getD k []) < min (a.getD k []).length (b.getD k []).length
 | 0, i => .inl ⟨rfl, fun j h1 h2 => by omega⟩
 | m + 1, i => by
  rw [s6]
  split
  ·rename_i h
   exact .inr ⟨i, Nat.le_refl _, by omega, rfl, h, fun k h1 h2 => by omega⟩
  ·rename_i h
   rcases wL (a := a) (b := b) m (i + 1) with ⟨h1, h2⟩ | ⟨j, h1, h2, h3, h4, h5⟩
   ·refine .inl ⟨h1, fun j a1 a2 => ?_⟩
    by_cases e : j = i
    ·subst e; exact h
    ·exact h2 j (by omega) (by omega)
   ·refine .inr ⟨j, by omega, by omega, h3, h4, fun k a1 a2 => ?_⟩
    by_cases e : k = i
    ·subst e; exact h
    ·exact h5 k (by omega) a2
end
end Go.Proofs.YtckgpflobhpnpaaGreat
