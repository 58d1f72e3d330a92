/-
  Circuits, plain data: what the package's own loops compute.
-/
import Derived.Test.YtgmpoenfoacofaaGreatQNeC
import Derived.Test.YtgmpoenfoacofaaGreatQPrT
namespace Go.Proofs.YtgmpoenfoacofaaGreat
open Go.RowKit
set_option linter.unusedVariables false
set_option linter.unusedSimpArgs false
def ca (f : Nat → Bool) : Nat → Int
 | 0 => -1
 | n + 1 => if bW (fun i => !f i) n = true then (if f n = true then n else -1) else ca f n
theorem bM {f : Nat → Bool} {i : Nat} (hf : f i = true) (h : ∀ z, z < i → f z = false) : ∀ {n : Nat}, i < n → ca f n = i
 | 0, h0 => absurd h0 (Nat.not_lt_zero _)
 | n + 1, h0 => by
  rw [ca]
  by_cases e : i = n
  ·subst e
   rw [if_pos (bE.2 (fun z hz => by rw [h z hz]; rfl)), if_pos hf]
  ·rw [if_neg (by rw [fA (show i < n by omega) (by simp [hf])]; simp), bM hf h (by omega)]
theorem cY {f : Nat → Bool} : ∀ {n : Nat}, (∀ z, z < n → f z = false) → ca f n = -1
 | 0, _ => rfl
 | n + 1, h => by
  rw [ca, if_pos (bE.2 (fun z hz => by rw [h z (by omega)]; rfl)), if_neg (by rw [h n (by omega)]; simp)]
theorem rz {f : Nat → Bool} : ∀ {n : Nat}, decide (0 ≤ ca f n) = !(bW (fun i => !f i) n)
 | 0 => rfl
 | n + 1 => by
  rw [ca]
  split
  ·rename_i h1
   rw [bW, h1]
   split
   ·rename_i h2; simp [h2]
   ·rename_i h2; simp [h2]
  ·rename_i h1
   rw [rz, bW]
   simp only [Bool.not_eq_true] at h1
   rw [h1]; rfl
theorem oM {f : Nat → Bool} : ∀ {n : Nat}, ca f n < n
 | 0 => by simp [ca]
 | n + 1 => by
  rw [ca]
  have := oM (f := f) (n := n)
  split
  ·split <;> omega
  ·omega
def uN (l : List Int) (w : Int) : Int := ca (fun i => !cj (l.getD i 0) w) l.length
theorem Ad {l : List Int} {w : Int} : (!decide (0 ≤ uN l w)) = cy l w := by
 unfold uN cy
 rw [rz, Bool.not_not]
 exact congrArg (bW · _) (funext fun i => by rw [Bool.not_not])
theorem tC {ls : List (List Int)} {i : Nat} (h : i < ls.length) : (ls.take (i + 1)).flatten = (ls.take i).flatten ++ ls.getD i [] := by
 rw [List.take_succ_eq_append_getElem h, List.flatten_append]
 simp [List.getD, List.getElem?_eq_getElem h]
theorem uO {ls : List (List Int)} {i : Nat} : (ls.take i).flatten.length ≤ ls.flatten.length := by
 conv => rhs; rw [← List.take_append_drop i ls, List.flatten_append, List.length_append]
 omega
theorem B7 {ls : List (List Int)} {i : Nat} (h : ls.length ≤ i) : (ls.take i).flatten = ls.flatten := by rw [List.take_of_length_le h]
section
variable {c : Ci} {s : Ns}
theorem oO (h : ¬s.procs.length = c.procs.length) : bO c s = false := by unfold bO; rw [decide_eq_false h]; rfl
theorem oP (h : ¬s.chans.length = c.chans.length) : bO c s = false := by unfold bO; rw [decide_eq_false h, Bool.and_false]; rfl
theorem oQ {i : Nat} (hi : i < c.procs.length) (h : bC (ba c i) (BX s i) = false) : bO c s = false := by unfold bO; rw [fA hi h, Bool.and_false]; rfl
theorem fl {n : Nat} (hn : n < c.chans.length) (h : gk c s n = false) : bO c s = false := by unfold bO; rw [fA hn h, Bool.and_false]
theorem oS (h1 : s.procs.length = c.procs.length) (h2 : s.chans.length = c.chans.length) (h3 : ∀ i, i < c.procs.length → bC (ba c i) (BX s i) = true) (h4 : ∀ n, n < c.chans.length → gk c s n = true) : bO c s = true := by
 unfold bO
 rw [decide_eq_true h1, decide_eq_true h2, bE.2 h3, bE.2 h4]; rfl
end
theorem ir {c : Ci} {s : Ns} {n : Nat} (h : ¬cy (fk s n) (dg c n).w = true) : gk c s n = false := by
 simp only [Bool.not_eq_true] at h
 unfold gk; rw [h, Bool.false_and]
theorem it {c : Ci} {s : Ns} {n : Nat} (h0 : 0 ≤ (dg c n).frm) (h1 : 0 ≤ (dg c n).dst) (h : ¬((fk s n).length : Int) ≤ (dg c n).cap) : gk c s n = false := by
 unfold gk; rw [decide_eq_true h0, decide_eq_true h1, decide_eq_false h]; simp
theorem xA {c : Ci} {s : Ns} {n : Nat} (h : cy (fk s n) (dg c n).w = true) (h0 : ¬0 ≤ (dg c n).frm) : gk c s n = true := by
 unfold gk; rw [h, decide_eq_false h0]; rfl
theorem xB {c : Ci} {s : Ns} {n : Nat} (h : cy (fk s n) (dg c n).w = true) (h0 : ¬0 ≤ (dg c n).dst) : gk c s n = true := by
 unfold gk; rw [h, decide_eq_false h0, Bool.and_false]; rfl
theorem xC {c : Ci} {s : Ns} {n : Nat} (h : cy (fk s n) (dg c n).w = true) (h0 : ((fk s n).length : Int) ≤ (dg c n).cap) : gk c s n = true := by
 unfold gk; rw [h, decide_eq_true h0, Bool.or_true]; rfl
def aC (c : Ci) : Ns := ⟨tab (fun i => aJ (ba c i)) c.procs.length, List.replicate c.chans.length []⟩
theorem B8 {c : Ci} {s : Ns} {p m : Nat} (h : (dg c (oH (ba c p) m)).dst = -1) : co c s p m = true := by unfold co; rw [decide_eq_true h]; rfl
theorem uP {c : Ci} {s : Ns} {p m : Nat} (h : ¬(dg c (oH (ba c p) m)).dst = -1) : co c s p m = decide (((fk s (oH (ba c p) m)).length : Int) < (dg c (oH (ba c p) m)).cap) := by unfold co; rw [decide_eq_false h]; rfl
def l5 (s : Ns) (k : Nat) : Prop := ∀ n, (fk s n).length ≤ k
def i9 (f : Ch → Int) (c : Ci) (n : Int) : Bool := decide (0 ≤ n) && (decide (n < c.chans.length) && decide (f (dg c n.toNat) = -1))
theorem rA {f : Ch → Int} {c : Ci} {n : Int} (h : ¬0 ≤ n) : i9 f c n = false := by unfold i9; rw [decide_eq_false h]; rfl
theorem rB {f : Ch → Int} {c : Ci} {n : Int} (h : ¬n < c.chans.length) : i9 f c n = false := by unfold i9; rw [decide_eq_false h, Bool.false_and, Bool.and_false]
theorem kI {f : Ch → Int} {c : Ci} {n : Int} (h1 : 0 ≤ n) (h2 : n < c.chans.length) : i9 f c n = decide (f (dg c n.toNat) = -1) := by unfold i9; rw [decide_eq_true h1, decide_eq_true h2, Bool.true_and, Bool.true_and]
end Go.Proofs.YtgmpoenfoacofaaGreat
