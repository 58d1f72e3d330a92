/-
  Circuits, plain data: what the package's own loops compute.
-/
import Derived.Test.YtifoecfajmnjjaaGreatQNeD
import Derived.Test.YtifoecfajmnjjaaGreatQPrT
namespace Go.Proofs.YtifoecfajmnjjaaGreat
open Go.RowKit
set_option linter.unusedVariables false
set_option linter.unusedSimpArgs false
def jS (f : Nat → Bool) : Nat → Int
 | 0 => -1
 | n + 1 => if de (fun i => !f i) n = true then (if f n = true then n else -1) else jS f n
theorem ia {f : Nat → Bool} {i : Nat} (hf : f i = true) (h : ∀ z, z < i → f z = false) : ∀ {n : Nat}, i < n → jS f n = i
 | 0, h0 => absurd h0 (Nat.not_lt_zero _)
 | n + 1, h0 => by
  rw [jS]
  by_cases e : i = n
  ·subst e
   rw [if_pos (bP.2 (fun z hz => by rw [h z hz]; rfl)), if_pos hf]
  ·rw [if_neg (by rw [fN (show i < n by omega) (by simp [hf])]; simp), ia hf h (by omega)]
theorem lV {f : Nat → Bool} : ∀ {n : Nat}, (∀ z, z < n → f z = false) → jS f n = -1
 | 0, _ => rfl
 | n + 1, h => by
  rw [jS, if_pos (bP.2 (fun z hz => by rw [h z (by omega)]; rfl)), if_neg (by rw [h n (by omega)]; simp)]
theorem jT {f : Nat → Bool} : ∀ {n : Nat}, decide (0 ≤ jS f n) = !(de (fun i => !f i) n)
 | 0 => rfl
 | n + 1 => by
  rw [jS]
  split
  ·rename_i h1
   rw [de, h1]
   split
   ·rename_i h2; simp [h2]
   ·rename_i h2; simp [h2]
  ·rename_i h1
   rw [jT, de]
   simp only [Bool.not_eq_true] at h1
   rw [h1]; rfl
def vy (l : List Int) (w : Int) : Int := jS (fun i => !cf (l.getD i 0) w) l.length
theorem Bm {l : List Int} {w : Int} : (!decide (0 ≤ vy l w)) = b9 l w := by
 unfold vy b9
 rw [jT, Bool.not_not]
 exact congrArg (de · _) (funext fun i => by rw [Bool.not_not])
def Gs (l : List Bool) (b : Bool) : Int := jS (fun i => b == l.getD i false) l.length
def w8 (l : List Bool) (b : Bool) : Bool := decide (0 ≤ Gs l b)
theorem t6 {ls : List (List Int)} {i : Nat} (h : i < ls.length) : (ls.take (i + 1)).flatten = (ls.take i).flatten ++ ls.getD i [] := by
 rw [List.take_succ_eq_append_getElem h, List.flatten_append]
 simp [List.getD, List.getElem?_eq_getElem h]
theorem vz {ls : List (List Int)} {i : Nat} : (ls.take i).flatten.length ≤ ls.flatten.length := by
 conv => rhs; rw [← List.take_append_drop i ls, List.flatten_append, List.length_append]
 omega
theorem Dv {ls : List (List Int)} {i : Nat} (h : ls.length ≤ i) : (ls.take i).flatten = ls.flatten := by rw [List.take_of_length_le h]
section
variable {c : Ci} {s : Ns}
theorem fA (h : ¬s.procs.length = c.procs.length) : aZ c s = false := by unfold aZ; rw [decide_eq_false h]; rfl
theorem fB (h : ¬s.chans.length = c.chans.length) : aZ c s = false := by unfold aZ; rw [decide_eq_false h, Bool.and_false]; rfl
theorem fC {i : Nat} (hi : i < c.procs.length) (h : bp (bC c i) (vp s i) = false) : aZ c s = false := by unfold aZ; rw [fN hi h, Bool.and_false]; rfl
theorem cg {n : Nat} (hn : n < c.chans.length) (h : gu c s n = false) : aZ c s = false := by unfold aZ; rw [fN hn h, Bool.and_false]
theorem fD (h1 : s.procs.length = c.procs.length) (h2 : s.chans.length = c.chans.length) (h3 : ∀ i, i < c.procs.length → bp (bC c i) (vp s i) = true) (h4 : ∀ n, n < c.chans.length → gu c s n = true) : aZ c s = true := by
 unfold aZ
 rw [decide_eq_true h1, decide_eq_true h2, bP.2 h3, bP.2 h4]; rfl
end
theorem dg {c : Ci} {s : Ns} {n : Nat} (h : ¬b9 (i4 s n) (f6 c n).w = true) : gu c s n = false := by
 simp only [Bool.not_eq_true] at h
 unfold gu; rw [h, Bool.false_and]
theorem dh {c : Ci} {s : Ns} {n : Nat} (h0 : 0 ≤ (f6 c n).frm) (h1 : 0 ≤ (f6 c n).dst) (h : ¬((i4 s n).length : Int) ≤ (f6 c n).cap) : gu c s n = false := by
 unfold gu; rw [decide_eq_true h0, decide_eq_true h1, decide_eq_false h]; simp
theorem qe {c : Ci} {s : Ns} {n : Nat} (h : b9 (i4 s n) (f6 c n).w = true) (h0 : ¬0 ≤ (f6 c n).frm) : gu c s n = true := by
 unfold gu; rw [h, decide_eq_false h0]; rfl
theorem qf {c : Ci} {s : Ns} {n : Nat} (h : b9 (i4 s n) (f6 c n).w = true) (h0 : ¬0 ≤ (f6 c n).dst) : gu c s n = true := by
 unfold gu; rw [h, decide_eq_false h0, Bool.and_false]; rfl
theorem qg {c : Ci} {s : Ns} {n : Nat} (h : b9 (i4 s n) (f6 c n).w = true) (h0 : ((i4 s n).length : Int) ≤ (f6 c n).cap) : gu c s n = true := by
 unfold gu; rw [h, decide_eq_true h0, Bool.or_true]; rfl
def av (c : Ci) : Ns := ⟨ap (fun i => aV (bC c i)) c.procs.length, List.replicate c.chans.length []⟩
theorem vA {c : Ci} {s : Ns} {p m : Nat} (h : (f6 c (sZ (bC c p) m)).dst = -1) : b3 c s p m = true := by unfold b3; rw [decide_eq_true h]; rfl
theorem lj {c : Ci} {s : Ns} {p m : Nat} (h : ¬(f6 c (sZ (bC c p) m)).dst = -1) : b3 c s p m = decide (((i4 s (sZ (bC c p) m)).length : Int) < (f6 c (sZ (bC c p) m)).cap) := by unfold b3; rw [decide_eq_false h]; rfl
def i7 (s : Ns) (k : Nat) : Prop := ∀ n, (i4 s n).length ≤ k
def ft (f : Ch → Int) (c : Ci) (n : Int) : Bool := decide (0 ≤ n) && (decide (n < c.chans.length) && decide (f (f6 c n.toNat) = -1))
theorem ji {f : Ch → Int} {c : Ci} {n : Int} (h : ¬0 ≤ n) : ft f c n = false := by unfold ft; rw [decide_eq_false h]; rfl
theorem jj {f : Ch → Int} {c : Ci} {n : Int} (h : ¬n < c.chans.length) : ft f c n = false := by unfold ft; rw [decide_eq_false h, Bool.false_and, Bool.and_false]
theorem eF {f : Ch → Int} {c : Ci} {n : Int} (h1 : 0 ≤ n) (h2 : n < c.chans.length) : ft f c n = decide (f (f6 c n.toNat) = -1) := by unfold ft; rw [decide_eq_true h1, decide_eq_true h2, Bool.true_and, Bool.true_and]
end Go.Proofs.YtifoecfajmnjjaaGreat
