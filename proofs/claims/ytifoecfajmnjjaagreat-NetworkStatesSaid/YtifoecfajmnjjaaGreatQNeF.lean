/-
  Circuits, plain data: what the package's own loops compute.
-/
import Derived.Test.YtifoecfajmnjjaaGreatQNeD
import Derived.Test.YtifoecfajmnjjaaGreatQPrT
namespace Go.Proofs.YtifoecfajmnjjaaGreat
open Go.RowKit
set_option linter.unusedVariables false
set_option linter.unusedSimpArgs false
def kk (f : Nat → Bool) : Nat → Int
 | 0 => -1
 | n + 1 => if dq (fun i => !f i) n = true then (if f n = true then n else -1) else kk f n
theorem it {f : Nat → Bool} {i : Nat} (hf : f i = true) (h : ∀ z, z < i → f z = false) : ∀ {n : Nat}, i < n → kk f n = i
 | 0, h0 => absurd h0 (Nat.not_lt_zero _)
 | n + 1, h0 => by
  rw [kk]
  by_cases e : i = n
  ·subst e
   rw [if_pos (ck.2 (fun z hz => by rw [h z hz]; rfl)), if_pos hf]
  ·rw [if_neg (by rw [i5 (show i < n by omega) (by simp [hf])]; simp), it hf h (by omega)]
theorem mg {f : Nat → Bool} : ∀ {n : Nat}, (∀ z, z < n → f z = false) → kk f n = -1
 | 0, _ => rfl
 | n + 1, h => by
  rw [kk, if_pos (ck.2 (fun z hz => by rw [h z (by omega)]; rfl)), if_neg (by rw [h n (by omega)]; simp)]
theorem sN {f : Nat → Bool} : ∀ {n : Nat}, decide (0 ≤ kk f n) = !(dq (fun i => !f i) n)
 | 0 => rfl
 | n + 1 => by
  rw [kk]
  split
  ·rename_i h1
   rw [dq, h1]
   split
   ·rename_i h2; simp [h2]
   ·rename_i h2; simp [h2]
  ·rename_i h1
   rw [sN, dq]
   simp only [Bool.not_eq_true] at h1
   rw [h1]; rfl
def vK (l : List Int) (w : Int) : Int := kk (fun i => !cr (l.getD i 0) w) l.length
theorem Bt {l : List Int} {w : Int} : (!decide (0 ≤ vK l w)) = cg l w := by
 unfold vK cg
 rw [sN, Bool.not_not]
 exact congrArg (dq · _) (funext fun i => by rw [Bool.not_not])
def HF (l : List Bool) (b : Bool) : Int := kk (fun i => b == l.getD i false) l.length
def E6 (l : List Bool) (b : Bool) : Bool := decide (0 ≤ HF l b)
theorem uu {ls : List (List Int)} {i : Nat} (h : i < ls.length) : (ls.take (i + 1)).flatten = (ls.take i).flatten ++ ls.getD i [] := by
 rw [List.take_succ_eq_append_getElem h, List.flatten_append]
 simp [List.getD, List.getElem?_eq_getElem h]
theorem vL {ls : List (List Int)} {i : Nat} : (ls.take i).flatten.length ≤ ls.flatten.length := by
 conv => rhs; rw [← List.take_append_drop i ls, List.flatten_append, List.length_append]
 omega
theorem Dx {ls : List (List Int)} {i : Nat} (h : ls.length ≤ i) : (ls.take i).flatten = ls.flatten := by rw [List.take_of_length_le h]
section
variable {c : Ci} {s : Ns}
theorem fU (h : ¬s.procs.length = c.procs.length) : a4 c s = false := by unfold a4; rw [decide_eq_false h]; rfl
theorem fV (h : ¬s.chans.length = c.chans.length) : a4 c s = false := by unfold a4; rw [decide_eq_false h, Bool.and_false]; rfl
theorem fW {i : Nat} (hi : i < c.procs.length) (h : br (ay c i) (yG s i) = false) : a4 c s = false := by unfold a4; rw [i5 hi h, Bool.and_false]; rfl
theorem cu {n : Nat} (hn : n < c.chans.length) (h : gL c s n = false) : a4 c s = false := by unfold a4; rw [i5 hn h, Bool.and_false]
theorem fX (h1 : s.procs.length = c.procs.length) (h2 : s.chans.length = c.chans.length) (h3 : ∀ i, i < c.procs.length → br (ay c i) (yG s i) = true) (h4 : ∀ n, n < c.chans.length → gL c s n = true) : a4 c s = true := by
 unfold a4
 rw [decide_eq_true h1, decide_eq_true h2, ck.2 h3, ck.2 h4]; rfl
end
theorem dm {c : Ci} {s : Ns} {n : Nat} (h : ¬cg (ir s n) (gx c n).w = true) : gL c s n = false := by
 simp only [Bool.not_eq_true] at h
 unfold gL; rw [h, Bool.false_and]
theorem dn {c : Ci} {s : Ns} {n : Nat} (h0 : 0 ≤ (gx c n).frm) (h1 : 0 ≤ (gx c n).dst) (h : ¬((ir s n).length : Int) ≤ (gx c n).cap) : gL c s n = false := by
 unfold gL; rw [decide_eq_true h0, decide_eq_true h1, decide_eq_false h]; simp
theorem qA {c : Ci} {s : Ns} {n : Nat} (h : cg (ir s n) (gx c n).w = true) (h0 : ¬0 ≤ (gx c n).frm) : gL c s n = true := by
 unfold gL; rw [h, decide_eq_false h0]; rfl
theorem qB {c : Ci} {s : Ns} {n : Nat} (h : cg (ir s n) (gx c n).w = true) (h0 : ¬0 ≤ (gx c n).dst) : gL c s n = true := by
 unfold gL; rw [h, decide_eq_false h0, Bool.and_false]; rfl
theorem qC {c : Ci} {s : Ns} {n : Nat} (h : cg (ir s n) (gx c n).w = true) (h0 : ((ir s n).length : Int) ≤ (gx c n).cap) : gL c s n = true := by
 unfold gL; rw [h, decide_eq_true h0, Bool.or_true]; rfl
def az (c : Ci) : Ns := ⟨an (fun i => aX (ay c i)) c.procs.length, List.replicate c.chans.length []⟩
theorem vM {c : Ci} {s : Ns} {p m : Nat} (h : (gx c (bP (ay c p) m)).dst = -1) : b9 c s p m = true := by unfold b9; rw [decide_eq_true h]; rfl
theorem lA {c : Ci} {s : Ns} {p m : Nat} (h : ¬(gx c (bP (ay c p) m)).dst = -1) : b9 c s p m = decide (((ir s (bP (ay c p) m)).length : Int) < (gx c (bP (ay c p) m)).cap) := by unfold b9; rw [decide_eq_false h]; rfl
def kO (s : Ns) (k : Nat) : Prop := ∀ n, (ir s n).length ≤ k
def fL (f : Ch → Int) (c : Ci) (n : Int) : Bool := decide (0 ≤ n) && (decide (n < c.chans.length) && decide (f (gx c n.toNat) = -1))
theorem jz {f : Ch → Int} {c : Ci} {n : Int} (h : ¬0 ≤ n) : fL f c n = false := by unfold fL; rw [decide_eq_false h]; rfl
theorem jA {f : Ch → Int} {c : Ci} {n : Int} (h : ¬n < c.chans.length) : fL f c n = false := by unfold fL; rw [decide_eq_false h, Bool.false_and, Bool.and_false]
theorem eX {f : Ch → Int} {c : Ci} {n : Int} (h1 : 0 ≤ n) (h2 : n < c.chans.length) : fL f c n = decide (f (gx c n.toNat) = -1) := by unfold fL; rw [decide_eq_true h1, decide_eq_true h2, Bool.true_and, Bool.true_and]
end Go.Proofs.YtifoecfajmnjjaaGreat
