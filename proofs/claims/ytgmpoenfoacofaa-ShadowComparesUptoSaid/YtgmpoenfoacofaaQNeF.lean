/-
  Circuits, plain data: what the package's own loops compute.
-/
import Derived.Test.YtgmpoenfoacofaaQNeD
import Derived.Test.YtgmpoenfoacofaaQPrT
namespace Go.Proofs.Ytgmpoenfoacofaa
open Go.RowKit
set_option linter.unusedVariables false
set_option linter.unusedSimpArgs false
def aW (f : Nat → Bool) : Nat → Int
 | 0 => -1
 | n + 1 => if cZ (fun i => !f i) n = true then (if f n = true then n else -1) else aW f n
theorem a4 {f : Nat → Bool} {i : Nat} (hf : f i = true) (h : ∀ z, z < i → f z = false) : ∀ {n : Nat}, i < n → aW f n = i
 | 0, h0 => absurd h0 (Nat.not_lt_zero _)
 | n + 1, h0 => by
  rw [aW]
  by_cases e : i = n
  ·subst e
   rw [if_pos (bn.2 (fun z hz => by rw [h z hz]; rfl)), if_pos hf]
  ·rw [if_neg (by rw [nq (show i < n by omega) (by simp [hf])]; simp), a4 hf h (by omega)]
theorem a9 {f : Nat → Bool} : ∀ {n : Nat}, (∀ z, z < n → f z = false) → aW f n = -1
 | 0, _ => rfl
 | n + 1, h => by
  rw [aW, if_pos (bn.2 (fun z hz => by rw [h z (by omega)]; rfl)), if_neg (by rw [h n (by omega)]; simp)]
theorem kW {f : Nat → Bool} : ∀ {n : Nat}, decide (0 ≤ aW f n) = !(cZ (fun i => !f i) n)
 | 0 => rfl
 | n + 1 => by
  rw [aW]
  split
  ·rename_i h1
   rw [cZ, h1]
   split
   ·rename_i h2; simp [h2]
   ·rename_i h2; simp [h2]
  ·rename_i h1
   rw [kW, cZ]
   simp only [Bool.not_eq_true] at h1
   rw [h1]; rfl
theorem fU {f : Nat → Bool} : ∀ {n : Nat}, aW f n < n
 | 0 => by simp [aW]
 | n + 1 => by
  rw [aW]
  have := fU (f := f) (n := n)
  split
  ·split <;> omega
  ·omega
def nu (l : List Int) (w : Int) : Int := aW (fun i => !gI (l.getD i 0) w) l.length
theorem sI {l : List Int} {w : Int} : (!decide (0 ≤ nu l w)) = js l w := by
 unfold nu js
 rw [kW, Bool.not_not]
 exact congrArg (cZ · _) (funext fun i => by rw [Bool.not_not])
theorem mI {ls : List (List Int)} {i : Nat} (h : i < ls.length) : (ls.take (i + 1)).flatten = (ls.take i).flatten ++ ls.getD i [] := by
 rw [List.take_succ_eq_append_getElem h, List.flatten_append]
 simp [List.getD, List.getElem?_eq_getElem h]
theorem nw {ls : List (List Int)} {i : Nat} : (ls.take i).flatten.length ≤ ls.flatten.length := by
 conv => rhs; rw [← List.take_append_drop i ls, List.flatten_append, List.length_append]
 omega
theorem ud {ls : List (List Int)} {i : Nat} (h : ls.length ≤ i) : (ls.take i).flatten = ls.flatten := by rw [List.take_of_length_le h]
def aA (c : Ci) : Ns := ⟨tab (fun i => aP (dP c i)) c.procs.length, List.replicate c.chans.length []⟩
def wR (s : Ns) (k : Nat) : Prop := ∀ n, (rC s n).length ≤ k
def eL (f : Ch → Int) (c : Ci) (n : Int) : Bool := decide (0 ≤ n) && (decide (n < c.chans.length) && decide (f (jr c n.toNat) = -1))
theorem kX {f : Ch → Int} {c : Ci} {n : Int} (h : ¬0 ≤ n) : eL f c n = false := by unfold eL; rw [decide_eq_false h]; rfl
theorem kY {f : Ch → Int} {c : Ci} {n : Int} (h : ¬n < c.chans.length) : eL f c n = false := by unfold eL; rw [decide_eq_false h, Bool.false_and, Bool.and_false]
theorem fV {f : Ch → Int} {c : Ci} {n : Int} (h1 : 0 ≤ n) (h2 : n < c.chans.length) : eL f c n = decide (f (jr c n.toNat) = -1) := by unfold eL; rw [decide_eq_true h1, decide_eq_true h2, Bool.true_and, Bool.true_and]
end Go.Proofs.Ytgmpoenfoacofaa
