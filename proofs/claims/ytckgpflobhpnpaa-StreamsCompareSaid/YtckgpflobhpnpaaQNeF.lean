/-
  Circuits, plain data: what the package's own loops compute.
-/
import Derived.Test.YtckgpflobhpnpaaQNeD
import Derived.Test.YtckgpflobhpnpaaQPrT
namespace Go.Proofs.Ytckgpflobhpnpaa
open Go.RowKit
set_option linter.unusedVariables false
set_option linter.unusedSimpArgs false
def lz (f : Nat → Bool) : Nat → Int
 | 0 => -1
 | n + 1 => if dP (fun i => !f i) n = true then (if f n = true then n else -1) else lz f n
theorem oi {f : Nat → Bool} {i : Nat} (hf : f i = true) (h : ∀ z, z < i → f z = false) : ∀ {n : Nat}, i < n → lz f n = i
 | 0, h0 => absurd h0 (Nat.not_lt_zero _)
 | n + 1, h0 => by
  rw [lz]
  by_cases e : i = n
  ·subst e
   rw [if_pos (c9.2 (fun z hz => by rw [h z hz]; rfl)), if_pos hf]
  ·rw [if_neg (by rw [vU (show i < n by omega) (by simp [hf])]; simp), oi hf h (by omega)]
theorem uR {f : Nat → Bool} : ∀ {n : Nat}, (∀ z, z < n → f z = false) → lz f n = -1
 | 0, _ => rfl
 | n + 1, h => by
  rw [lz, if_pos (c9.2 (fun z hz => by rw [h z (by omega)]; rfl)), if_neg (by rw [h n (by omega)]; simp)]
theorem s8 {f : Nat → Bool} : ∀ {n : Nat}, decide (0 ≤ lz f n) = !(dP (fun i => !f i) n)
 | 0 => rfl
 | n + 1 => by
  rw [lz]
  split
  ·rename_i h1
   rw [dP, h1]
   split
   ·rename_i h2; simp [h2]
   ·rename_i h2; simp [h2]
  ·rename_i h1
   rw [s8, dP]
   simp only [Bool.not_eq_true] at h1
   rw [h1]; rfl
def rm (l : List Int) (w : Int) : Int := lz (fun i => !j9 (l.getD i 0) w) l.length
theorem uS {l : List Int} {w : Int} : (!decide (0 ≤ rm l w)) = xq l w := by
 unfold rm xq
 rw [s8, Bool.not_not]
 exact congrArg (dP · _) (funext fun i => by rw [Bool.not_not])
theorem uT {ls : List (List Int)} {i : Nat} (h : i < ls.length) : (ls.take (i + 1)).flatten = (ls.take i).flatten ++ ls.getD i [] := by
 rw [List.take_succ_eq_append_getElem h, List.flatten_append]
 simp [List.getD, List.getElem?_eq_getElem h]
theorem v5 {ls : List (List Int)} {i : Nat} : (ls.take i).flatten.length ≤ ls.flatten.length := by
 conv => rhs; rw [← List.take_append_drop i ls, List.flatten_append, List.length_append]
 omega
theorem Dh {ls : List (List Int)} {i : Nat} (h : ls.length ≤ i) : (ls.take i).flatten = ls.flatten := by rw [List.take_of_length_le h]
def fD (c : Ci) : Ns := ⟨tab (fun i => aL (a6 c i)) c.procs.length, List.replicate c.chans.length []⟩
theorem Di {c : Ci} {s : Ns} {p m : Nat} (h : (gF c (wB (a6 c p) m)).dst = -1) : cD c s p m = true := by unfold cD; rw [decide_eq_true h]; rfl
theorem v6 {c : Ci} {s : Ns} {p m : Nat} (h : ¬(gF c (wB (a6 c p) m)).dst = -1) : cD c s p m = decide (((vY s (wB (a6 c p) m)).length : Int) < (gF c (wB (a6 c p) m)).cap) := by unfold cD; rw [decide_eq_false h]; rfl
def IU (s : Ns) (k : Nat) : Prop := ∀ n, (vY s n).length ≤ k
end Go.Proofs.Ytckgpflobhpnpaa
