/-
  Settled networks, inputs that bytes describe, prefixes: plain laws of streams.
-/
import Derived.Test.YtckgpflobhpnpaaQStC
namespace Go.Proofs.Ytckgpflobhpnpaa
open Go.RowKit
set_option linter.unusedVariables false
set_option linter.unusedSimpArgs false
section
variable {c : Ci} {s : Ns} {u : Uf} {p n : Nat}
def Jv (c : Ci) (b : List Int) (q n : Nat) : Nat := if (eO c n).frm < 0 then (b.getD q 0 % 8).toNat else 0
def inQ (c : Ci) (b : List Int) : Nat → Nat
 | 0 => 0
 | n + 1 => if (eO c n).frm < 0 then inQ c b n + (1 + (b.getD (inQ c b n) 0 % 8).toNat) else inQ c b n
def qW (c : Ci) (b : List Int) (n : Nat) : List Int := tab (mK b (inQ c b n) (eO c n).w) (Jv c b (inQ c b n) n)
def ax (c : Ci) (b : List Int) : List (List Int) := tab (qW c b) c.chans.length
theorem Gy (c : Ci) {b : List Int} (hb : lL b) (q n : Nat) : Jv c b q n ≤ 7 := by
 have := eh hb q
 unfold Jv; split <;> omega
theorem LV (hc : a6 c) {b : List Int} (hb : lL b) (hf : ∀ n, n < c.chans.length → -1 ≤ (eO c n).frm) : fT c (ax c b) := by
 have hat : ∀ n, n < c.chans.length → (ax c b).getD n [] = qW c b n := fun n hn => aB hn
 refine ⟨ap _ _, fun n hn h => ?_, fun n hn i hi => ?_, fun n => ?_⟩
 ·rw [hat n hn]
  unfold qW Jv
  rw [if_neg (by have := hf n hn; omega)]; rfl
 ·rw [hat n hn] at hi ⊢
  unfold qW at hi ⊢
  rw [ap] at hi
  rw [aB hi]
  have hw := bo.1 (hc.cw n hn)
  exact Kv hw.1 (by omega)
 ·by_cases hn : n < c.chans.length
  ·rw [hat n hn]
   unfold qW
   rw [ap]
   exact Nat.le_trans (Gy c hb _ _) (by decide)
  ·rw [show (ax c b).getD n [] = [] from kJ (by omega)]; exact Nat.zero_le _
def dk : List Int → List Int → Nat
 | x :: a, y :: b => if x = y then dk a b + 1 else 0
 | _, _ => 0
theorem Gz : ∀ a b, dk a b ≤ a.length ∧ dk a b ≤ b.length
 | [], _ => ⟨Nat.zero_le _, Nat.zero_le _⟩
 | x :: a, [] => ⟨Nat.zero_le _, Nat.zero_le _⟩
 | x :: a, y :: b => by
  have := Gz a b
  rw [dk]; split <;> simp <;> omega
theorem yb : ∀ a b : List Int, ¬dk a b < a.length ↔ a <+: b
 | [], b => ⟨fun _ => List.nil_prefix, fun _ => by simp⟩
 | x :: a, [] => ⟨fun h => absurd (show dk (x :: a) [] < (x :: a).length from Nat.succ_pos _) h, fun h => by simp at h⟩
 | x :: a, y :: b => by
  rw [List.cons_prefix_cons, ← yb a b, dk]
  split
  ·rename_i h; simp [h]
  ·rename_i h; simp [h]
theorem GA : ∀ {a b : List Int} {i : Nat}, i < dk a b → a.getD i 0 = b.getD i 0
 | [], _, _, h => by simp [dk] at h
 | x :: a, [], _, h => by simp [dk] at h
 | x :: a, y :: b, i, h => by
  rw [dk] at h
  split at h
  ·rename_i e
   cases i with
   | zero => simpa using e
   | succ i =>
    have := GA (a := a) (b := b) (i := i) (by omega)
    simpa using this
  ·omega
theorem GB : ∀ {a b : List Int}, dk a b < a.length → dk a b < b.length → a.getD (dk a b) 0 ≠ b.getD (dk a b) 0
 | [], _, h, _ => by simp at h
 | x :: a, [], _, h => by simp at h
 | x :: a, y :: b, h, k => by
  rw [dk] at h k ⊢
  split
  ·rename_i e
   rw [if_pos e] at h k
   have := GB (a := a) (b := b) (by simpa using h) (by simpa using k)
   simpa using this
  ·rename_i e; simpa using e
theorem sa {a b : List Int} {i : Nat} (h1 : i ≤ a.length) (h2 : i ≤ b.length) (h : ∀ j, j < i → a.getD j 0 = b.getD j 0) (h3 : ¬(i < a.length ∧ i < b.length ∧ a.getD i 0 = b.getD i 0)) : dk a b = i := by
 rcases Nat.lt_trichotomy (dk a b) i with h4 | h4 | h4
 ·exact absurd (h _ h4) (GB (by omega) (by omega))
 ·exact h4
 ·have := Gz a b
  exact absurd ⟨by omega, by omega, GA h4⟩ h3
def dm (a b : List (List Int)) : Bool := decide (a.length = b.length) && dT (fun i => !decide (dk (a.getD i []) (b.getD i []) < (a.getD i []).length)) a.length
theorem C6 {a b : List (List Int)} : dm a b = true ↔ a.length = b.length ∧ ∀ i, i < a.length → a.getD i [] <+: b.getD i [] := by
 unfold dm
 rw [Bool.and_eq_true, decide_eq_true_eq, cH]
 refine ⟨fun ⟨h1, h2⟩ => ⟨h1, fun i hi => (yb _ _).1 ?_⟩, fun ⟨h1, h2⟩ => ⟨h1, fun i hi => ?_⟩⟩
 ·have := h2 i hi; simpa using this
 ·have := (yb _ _).2 (h2 i hi)
  rw [decide_eq_false this]; rfl
def s7 (a b : List (List Int)) : Nat → Nat → Int × Int × Bool
 | 0, _ => (0, 0, false)
 | m + 1, i => if dk (a.getD i []) (b.getD i []) < min (a.getD i []).length (b.getD i []).length then ((i : Int), (dk (a.getD i []) (b.getD i []) : Int), true) else s7 a b m (i + 1)
def du (a b : List (List Int)) : Int × Int × Bool := s7 a b (min a.length b.length) 0
theorem wR {a b : List (List Int)} : ∀ (m i : Nat), (s7 a b m i = (0, 0, false) ∧ ∀ j, i ≤ j → j < i + m → ¬dk (a.getD j []) (b.getD j []) < min (a.getD j []).length (b.getD j []).length) ∨
  ∃ j : Nat, i ≤ j ∧ j < i + m ∧ s7 a b m i = ((j : Int), (dk (a.getD j []) (b.getD j []) : Int), true) ∧ dk (a.getD j []) (b.getD j []) < min (a.getD j []).length (b.getD j []).length ∧ ∀ k, i ≤ k → k < j → ¬dk (a.getD k []) (b.getD k []) < min (a.getD k []).length (b.getD k []).length
 | 0, i => .inl ⟨rfl, fun j h1 h2 => by omega⟩
 | m + 1, i => by
  rw [s7]
  split
  ·rename_i h
   exact .inr ⟨i, Nat.le_refl _, by omega, rfl, h, fun k h1 h2 => by omega⟩
  ·rename_i h
   rcases wR (a := a) (b := b) m (i + 1) with ⟨h1, h2⟩ | ⟨j, h1, h2, h3, h4, h5⟩
   ·refine .inl ⟨h1, fun j a1 a2 => ?_⟩
    by_cases e : j = i
    ·subst e; exact h
    ·exact h2 j (by omega) (by omega)
   ·refine .inr ⟨j, by omega, by omega, h3, h4, fun k a1 a2 => ?_⟩
    by_cases e : k = i
    ·subst e; exact h
    ·exact h5 k (by omega) a2
end
end Go.Proofs.Ytckgpflobhpnpaa
