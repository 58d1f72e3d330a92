/-
  Circuits, plain data: what the package's own loops compute.
-/
import Derived.Test.YtifoecfajmnjjaaGreatQNeD
import Derived.Test.YtifoecfajmnjjaaGreatQPrT
namespace Go.Proofs.YtifoecfajmnjjaaGreat
open Go.RowKit
set_option linter.unusedVariables false
set_option linter.unusedSimpArgs false
def ko (f : Nat → Bool) : Nat → Int
 | 0 => -1
 | n + 1 => if dh (fun i => !f i) n = true then (if f n = true then n else -1) else ko f n
theorem iy {f : Nat → Bool} {i : Nat} (hf : f i = true) (h : ∀ z, z < i → f z = false) : ∀ {n : Nat}, i < n → ko f n = i
 | 0, h0 => absurd h0 (Nat.not_lt_zero _)
 | n + 1, h0 => by
  rw [ko]
  by_cases e : i = n
  ·subst e
   rw [if_pos (bQ.2 (fun z hz => by rw [h z hz]; rfl)), if_pos hf]
  ·rw [if_neg (by rw [f6 (show i < n by omega) (by simp [hf])]; simp), iy hf h (by omega)]
theorem my {f : Nat → Bool} : ∀ {n : Nat}, (∀ z, z < n → f z = false) → ko f n = -1
 | 0, _ => rfl
 | n + 1, h => by
  rw [ko, if_pos (bQ.2 (fun z hz => by rw [h z (by omega)]; rfl)), if_neg (by rw [h n (by omega)]; simp)]
theorem kq {f : Nat → Bool} : ∀ {n : Nat}, decide (0 ≤ ko f n) = !(dh (fun i => !f i) n)
 | 0 => rfl
 | n + 1 => by
  rw [ko]
  split
  ·rename_i h1
   rw [dh, h1]
   split
   ·rename_i h2; simp [h2]
   ·rename_i h2; simp [h2]
  ·rename_i h1
   rw [kq, dh]
   simp only [Bool.not_eq_true] at h1
   rw [h1]; rfl
def wG (l : List Int) (w : Int) : Int := ko (fun i => !cj (l.getD i 0) w) l.length
theorem Cz {l : List Int} {w : Int} : (!decide (0 ≤ wG l w)) = b6 l w := by
 unfold wG b6
 rw [kq, Bool.not_not]
 exact congrArg (dh · _) (funext fun i => by rw [Bool.not_not])
def HG (l : List Bool) (b : Bool) : Int := ko (fun i => b == l.getD i false) l.length
def yg (l : List Bool) (b : Bool) : Bool := decide (0 ≤ HG l b)
theorem vj {ls : List (List Int)} {i : Nat} (h : i < ls.length) : (ls.take (i + 1)).flatten = (ls.take i).flatten ++ ls.getD i [] := by
 rw [List.take_succ_eq_append_getElem h, List.flatten_append]
 simp [List.getD, List.getElem?_eq_getElem h]
theorem wH {ls : List (List Int)} {i : Nat} : (ls.take i).flatten.length ≤ ls.flatten.length := by
 conv => rhs; rw [← List.take_append_drop i ls, List.flatten_append, List.length_append]
 omega
theorem EI {ls : List (List Int)} {i : Nat} (h : ls.length ≤ i) : (ls.take i).flatten = ls.flatten := by rw [List.take_of_length_le h]
section
variable {c : Ci} {s : Ns}
theorem fP (h : ¬s.procs.length = c.procs.length) : aV c s = false := by unfold aV; rw [decide_eq_false h]; rfl
theorem fQ (h : ¬s.chans.length = c.chans.length) : aV c s = false := by unfold aV; rw [decide_eq_false h, Bool.and_false]; rfl
theorem fR {i : Nat} (hi : i < c.procs.length) (h : br (bR c i) (zL s i) = false) : aV c s = false := by unfold aV; rw [f6 hi h, Bool.and_false]; rfl
theorem ck {n : Nat} (hn : n < c.chans.length) (h : gJ c s n = false) : aV c s = false := by unfold aV; rw [f6 hn h, Bool.and_false]
theorem fS (h1 : s.procs.length = c.procs.length) (h2 : s.chans.length = c.chans.length) (h3 : ∀ i, i < c.procs.length → br (bR c i) (zL s i) = true) (h4 : ∀ n, n < c.chans.length → gJ c s n = true) : aV c s = true := by
 unfold aV
 rw [decide_eq_true h1, decide_eq_true h2, bQ.2 h3, bQ.2 h4]; rfl
end
theorem dj {c : Ci} {s : Ns} {n : Nat} (h : ¬b6 (iX s n) (fF c n).w = true) : gJ c s n = false := by
 simp only [Bool.not_eq_true] at h
 unfold gJ; rw [h, Bool.false_and]
theorem dk {c : Ci} {s : Ns} {n : Nat} (h0 : 0 ≤ (fF c n).frm) (h1 : 0 ≤ (fF c n).dst) (h : ¬((iX s n).length : Int) ≤ (fF c n).cap) : gJ c s n = false := by
 unfold gJ; rw [decide_eq_true h0, decide_eq_true h1, decide_eq_false h]; simp
theorem qT {c : Ci} {s : Ns} {n : Nat} (h : b6 (iX s n) (fF c n).w = true) (h0 : ¬0 ≤ (fF c n).frm) : gJ c s n = true := by
 unfold gJ; rw [h, decide_eq_false h0]; rfl
theorem qU {c : Ci} {s : Ns} {n : Nat} (h : b6 (iX s n) (fF c n).w = true) (h0 : ¬0 ≤ (fF c n).dst) : gJ c s n = true := by
 unfold gJ; rw [h, decide_eq_false h0, Bool.and_false]; rfl
theorem qV {c : Ci} {s : Ns} {n : Nat} (h : b6 (iX s n) (fF c n).w = true) (h0 : ((iX s n).length : Int) ≤ (fF c n).cap) : gJ c s n = true := by
 unfold gJ; rw [h, decide_eq_true h0, Bool.or_true]; rfl
def ao (c : Ci) : Ns := ⟨aq (fun i => aY (bR c i)) c.procs.length, List.replicate c.chans.length []⟩
theorem wI {c : Ci} {s : Ns} {p m : Nat} (h : (fF c (u4 (bR c p) m)).dst = -1) : ca c s p m = true := by unfold ca; rw [decide_eq_true h]; rfl
theorem lO {c : Ci} {s : Ns} {p m : Nat} (h : ¬(fF c (u4 (bR c p) m)).dst = -1) : ca c s p m = decide (((iX s (u4 (bR c p) m)).length : Int) < (fF c (u4 (bR c p) m)).cap) := by unfold ca; rw [decide_eq_false h]; rfl
def fD (s : Ns) (k : Nat) : Prop := ∀ n, (iX s n).length ≤ k
def dF (f : Ch → Int) (c : Ci) (n : Int) : Bool := decide (0 ≤ n) && (decide (n < c.chans.length) && decide (f (fF c n.toNat) = -1))
theorem cK {f : Ch → Int} {c : Ci} {n : Int} (h : ¬0 ≤ n) : dF f c n = false := by unfold dF; rw [decide_eq_false h]; rfl
theorem cL {f : Ch → Int} {c : Ci} {n : Int} (h : ¬n < c.chans.length) : dF f c n = false := by unfold dF; rw [decide_eq_false h, Bool.false_and, Bool.and_false]
theorem eT {f : Ch → Int} {c : Ci} {n : Int} (h1 : 0 ≤ n) (h2 : n < c.chans.length) : dF f c n = decide (f (fF c n.toNat) = -1) := by unfold dF; rw [decide_eq_true h1, decide_eq_true h2, Bool.true_and, Bool.true_and]
end Go.Proofs.YtifoecfajmnjjaaGreat
