/-
  Circuits, plain data: what the package's own loops compute.
-/
import Derived.Test.YtifoecfajmnjjaaGreatQNeD
import Derived.Test.YtifoecfajmnjjaaGreatQPrT
namespace Go.Proofs.YtifoecfajmnjjaaGreat
open Go.RowKit
set_option linter.unusedVariables false
set_option linter.unusedSimpArgs false
def mU (f : Nat → Bool) : Nat → Int
 | 0 => -1
 | n + 1 => if eo (fun i => !f i) n = true then (if f n = true then n else -1) else mU f n
theorem kB {f : Nat → Bool} {i : Nat} (hf : f i = true) (h : ∀ z, z < i → f z = false) : ∀ {n : Nat}, i < n → mU f n = i
 | 0, h0 => absurd h0 (Nat.not_lt_zero _)
 | n + 1, h0 => by
  rw [mU]
  by_cases e : i = n
  ·subst e
   rw [if_pos (ce.2 (fun z hz => by rw [h z hz]; rfl)), if_pos hf]
  ·rw [if_neg (by rw [ie (show i < n by omega) (by simp [hf])]; simp), kB hf h (by omega)]
theorem pK {f : Nat → Bool} : ∀ {n : Nat}, (∀ z, z < n → f z = false) → mU f n = -1
 | 0, _ => rfl
 | n + 1, h => by
  rw [mU, if_pos (ce.2 (fun z hz => by rw [h z (by omega)]; rfl)), if_neg (by rw [h n (by omega)]; simp)]
theorem mV {f : Nat → Bool} : ∀ {n : Nat}, decide (0 ≤ mU f n) = !(eo (fun i => !f i) n)
 | 0 => rfl
 | n + 1 => by
  rw [mU]
  split
  ·rename_i h1
   rw [eo, h1]
   split
   ·rename_i h2; simp [h2]
   ·rename_i h2; simp [h2]
  ·rename_i h1
   rw [mV, eo]
   simp only [Bool.not_eq_true] at h1
   rw [h1]; rfl
def zO (l : List Int) (w : Int) : Int := mU (fun i => !cS (l.getD i 0) w) l.length
theorem Gb {l : List Int} {w : Int} : (!decide (0 ≤ zO l w)) = cg l w := by
 unfold zO cg
 rw [mV, Bool.not_not]
 exact congrArg (eo · _) (funext fun i => by rw [Bool.not_not])
def Lg (l : List Bool) (b : Bool) : Int := mU (fun i => b == l.getD i false) l.length
def Bk (l : List Bool) (b : Bool) : Bool := decide (0 ≤ Lg l b)
theorem yu {ls : List (List Int)} {i : Nat} (h : i < ls.length) : (ls.take (i + 1)).flatten = (ls.take i).flatten ++ ls.getD i [] := by
 rw [List.take_succ_eq_append_getElem h, List.flatten_append]
 simp [List.getD, List.getElem?_eq_getElem h]
theorem zP {ls : List (List Int)} {i : Nat} : (ls.take i).flatten.length ≤ ls.flatten.length := by
 conv => rhs; rw [← List.take_append_drop i ls, List.flatten_append, List.length_append]
 omega
theorem Ib {ls : List (List Int)} {i : Nat} (h : ls.length ≤ i) : (ls.take i).flatten = ls.flatten := by rw [List.take_of_length_le h]
section
variable {c : Ci} {s : Ns}
theorem iM (h : ¬s.procs.length = c.procs.length) : aP c s = false := by unfold aP; rw [decide_eq_false h]; rfl
theorem iO (h : ¬s.chans.length = c.chans.length) : aP c s = false := by unfold aP; rw [decide_eq_false h, Bool.and_false]; rfl
theorem iP {i : Nat} (hi : i < c.procs.length) (h : bO (aB c i) (xw s i) = false) : aP c s = false := by unfold aP; rw [ie hi h, Bool.and_false]; rfl
theorem df {n : Nat} (hn : n < c.chans.length) (h : jz c s n = false) : aP c s = false := by unfold aP; rw [ie hn h, Bool.and_false]
theorem iQ (h1 : s.procs.length = c.procs.length) (h2 : s.chans.length = c.chans.length) (h3 : ∀ i, i < c.procs.length → bO (aB c i) (xw s i) = true) (h4 : ∀ n, n < c.chans.length → jz c s n = true) : aP c s = true := by
 unfold aP
 rw [decide_eq_true h1, decide_eq_true h2, ce.2 h3, ce.2 h4]; rfl
end
theorem eB {c : Ci} {s : Ns} {n : Nat} (h : ¬cg (gj s n) (fk c n).w = true) : jz c s n = false := by
 simp only [Bool.not_eq_true] at h
 unfold jz; rw [h, Bool.false_and]
theorem eC {c : Ci} {s : Ns} {n : Nat} (h0 : 0 ≤ (fk c n).frm) (h1 : 0 ≤ (fk c n).dst) (h : ¬((gj s n).length : Int) ≤ (fk c n).cap) : jz c s n = false := by
 unfold jz; rw [decide_eq_true h0, decide_eq_true h1, decide_eq_false h]; simp
theorem tS {c : Ci} {s : Ns} {n : Nat} (h : cg (gj s n) (fk c n).w = true) (h0 : ¬0 ≤ (fk c n).frm) : jz c s n = true := by
 unfold jz; rw [h, decide_eq_false h0]; rfl
theorem tT {c : Ci} {s : Ns} {n : Nat} (h : cg (gj s n) (fk c n).w = true) (h0 : ¬0 ≤ (fk c n).dst) : jz c s n = true := by
 unfold jz; rw [h, decide_eq_false h0, Bool.and_false]; rfl
theorem tU {c : Ci} {s : Ns} {n : Nat} (h : cg (gj s n) (fk c n).w = true) (h0 : ((gj s n).length : Int) ≤ (fk c n).cap) : jz c s n = true := by
 unfold jz; rw [h, decide_eq_true h0, Bool.or_true]; rfl
def az (c : Ci) : Ns := ⟨ao (fun i => bg (aB c i)) c.procs.length, List.replicate c.chans.length []⟩
theorem zQ {c : Ci} {s : Ns} {p m : Nat} (h : (fk c (cC (aB c p) m)).dst = -1) : cI c s p m = true := by unfold cI; rw [decide_eq_true h]; rfl
theorem oS {c : Ci} {s : Ns} {p m : Nat} (h : ¬(fk c (cC (aB c p) m)).dst = -1) : cI c s p m = decide (((gj s (cC (aB c p) m)).length : Int) < (fk c (cC (aB c p) m)).cap) := by unfold cI; rw [decide_eq_false h]; rfl
def fY (s : Ns) (k : Nat) : Prop := ∀ n, (gj s n).length ≤ k
def eV (f : Ch → Int) (c : Ci) (n : Int) : Bool := decide (0 ≤ n) && (decide (n < c.chans.length) && decide (f (fk c n.toNat) = -1))
theorem dq {f : Ch → Int} {c : Ci} {n : Int} (h : ¬0 ≤ n) : eV f c n = false := by unfold eV; rw [decide_eq_false h]; rfl
theorem dt {f : Ch → Int} {c : Ci} {n : Int} (h : ¬n < c.chans.length) : eV f c n = false := by unfold eV; rw [decide_eq_false h, Bool.false_and, Bool.and_false]
theorem gE {f : Ch → Int} {c : Ci} {n : Int} (h1 : 0 ≤ n) (h2 : n < c.chans.length) : eV f c n = decide (f (fk c n.toNat) = -1) := by unfold eV; rw [decide_eq_true h1, decide_eq_true h2, Bool.true_and, Bool.true_and]
end Go.Proofs.YtifoecfajmnjjaaGreat
