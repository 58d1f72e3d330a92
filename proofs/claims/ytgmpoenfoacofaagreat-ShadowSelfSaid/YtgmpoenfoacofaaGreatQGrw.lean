/-
  slices.Grow of no slice: a row of the call's own, of length 0.
-/
import Derived.Test.YtgmpoenfoacofaaGreatQNeD
import Derived.Test.YtgmpoenfoacofaaGreatQPrT
import Derived.Test.YtgmpoenfoacofaaGreatQMap
namespace Go.Proofs.YtgmpoenfoacofaaGreat
open Go.RowKit
set_option linter.unusedVariables false
set_option linter.unusedSimpArgs false
def bW (f : Nat → Bool) : Nat → Int
 | 0 => -1
 | n + 1 => if cB (fun i => !f i) n = true then (if f n = true then n else -1) else bW f n
theorem cJ {f : Nat → Bool} {i : Nat} (hf : f i = true) (h : ∀ z, z < i → f z = false) : ∀ {n : Nat}, i < n → bW f n = i
 | 0, h0 => absurd h0 (Nat.not_lt_zero _)
 | n + 1, h0 => by
  rw [bW]
  by_cases e : i = n
  ·subst e
   rw [if_pos (br.2 (fun z hz => by rw [h z hz]; rfl)), if_pos hf]
  ·rw [if_neg (by rw [gF (show i < n by omega) (by simp [hf])]; simp), cJ hf h (by omega)]
theorem dp {f : Nat → Bool} : ∀ {n : Nat}, (∀ z, z < n → f z = false) → bW f n = -1
 | 0, _ => rfl
 | n + 1, h => by
  rw [bW, if_pos (br.2 (fun z hz => by rw [h z (by omega)]; rfl)), if_neg (by rw [h n (by omega)]; simp)]
theorem t5 {f : Nat → Bool} : ∀ {n : Nat}, decide (0 ≤ bW f n) = !(cB (fun i => !f i) n)
 | 0 => rfl
 | n + 1 => by
  rw [bW]
  split
  ·rename_i h1
   rw [cB, h1]
   split
   ·rename_i h2; simp [h2]
   ·rename_i h2; simp [h2]
  ·rename_i h1
   rw [t5, cB]
   simp only [Bool.not_eq_true] at h1
   rw [h1]; rfl
theorem qP {f : Nat → Bool} : ∀ {n : Nat}, bW f n < n
 | 0 => by simp [bW]
 | n + 1 => by
  rw [bW]
  have := qP (f := f) (n := n)
  split
  ·split <;> omega
  ·omega
def xG (l : List Int) (w : Int) : Int := bW (fun i => !c8 (l.getD i 0) w) l.length
theorem DK {l : List Int} {w : Int} : (!decide (0 ≤ xG l w)) = cE l w := by
 unfold xG cE
 rw [t5, Bool.not_not]
 exact congrArg (cB · _) (funext fun i => by rw [Bool.not_not])
theorem wi {ls : List (List Int)} {i : Nat} (h : i < ls.length) : (ls.take (i + 1)).flatten = (ls.take i).flatten ++ ls.getD i [] := by
 rw [List.take_succ_eq_append_getElem h, List.flatten_append]
 simp [List.getD, List.getElem?_eq_getElem h]
theorem xH {ls : List (List Int)} {i : Nat} : (ls.take i).flatten.length ≤ ls.flatten.length := by
 conv => rhs; rw [← List.take_append_drop i ls, List.flatten_append, List.length_append]
 omega
theorem FK {ls : List (List Int)} {i : Nat} (h : ls.length ≤ i) : (ls.take i).flatten = ls.flatten := by rw [List.take_of_length_le h]
section
variable {c : Ci} {s : Ns}
theorem qQ (h : ¬s.procs.length = c.procs.length) : bN c s = false := by unfold bN; rw [decide_eq_false h]; rfl
theorem qR (h : ¬s.chans.length = c.chans.length) : bN c s = false := by unfold bN; rw [decide_eq_false h, Bool.and_false]; rfl
theorem qS {i : Nat} (hi : i < c.procs.length) (h : bQ (bI c i) (xy s i) = false) : bN c s = false := by unfold bN; rw [gF hi h, Bool.and_false]; rfl
theorem gj {n : Nat} (hn : n < c.chans.length) (h : ip c s n = false) : bN c s = false := by unfold bN; rw [gF hn h, Bool.and_false]
theorem qT (h1 : s.procs.length = c.procs.length) (h2 : s.chans.length = c.chans.length) (h3 : ∀ i, i < c.procs.length → bQ (bI c i) (xy s i) = true) (h4 : ∀ n, n < c.chans.length → ip c s n = true) : bN c s = true := by
 unfold bN
 rw [decide_eq_true h1, decide_eq_true h2, br.2 h3, br.2 h4]; rfl
end
theorem jw {c : Ci} {s : Ns} {n : Nat} (h : ¬cE (ef s n) (cL c n).w = true) : ip c s n = false := by
 simp only [Bool.not_eq_true] at h
 unfold ip; rw [h, Bool.false_and]
theorem jx {c : Ci} {s : Ns} {n : Nat} (h0 : 0 ≤ (cL c n).frm) (h1 : 0 ≤ (cL c n).dst) (h : ¬((ef s n).length : Int) ≤ (cL c n).cap) : ip c s n = false := by
 unfold ip; rw [decide_eq_true h0, decide_eq_true h1, decide_eq_false h]; simp
theorem AD {c : Ci} {s : Ns} {n : Nat} (h : cE (ef s n) (cL c n).w = true) (h0 : ¬0 ≤ (cL c n).frm) : ip c s n = true := by
 unfold ip; rw [h, decide_eq_false h0]; rfl
theorem AE {c : Ci} {s : Ns} {n : Nat} (h : cE (ef s n) (cL c n).w = true) (h0 : ¬0 ≤ (cL c n).dst) : ip c s n = true := by
 unfold ip; rw [h, decide_eq_false h0, Bool.and_false]; rfl
theorem AF {c : Ci} {s : Ns} {n : Nat} (h : cE (ef s n) (cL c n).w = true) (h0 : ((ef s n).length : Int) ≤ (cL c n).cap) : ip c s n = true := by
 unfold ip; rw [h, decide_eq_true h0, Bool.or_true]; rfl
def aD (c : Ci) : Ns := ⟨tab (fun i => aR (bI c i)) c.procs.length, List.replicate c.chans.length []⟩
theorem xI {c : Ci} {s : Ns} {p m : Nat} (h : (cL c (uW (bI c p) m)).dst = -1) : bU c s p m = true := by unfold bU; rw [decide_eq_true h]; rfl
theorem lw {c : Ci} {s : Ns} {p m : Nat} (h : ¬(cL c (uW (bI c p) m)).dst = -1) : bU c s p m = decide (((ef s (uW (bI c p) m)).length : Int) < (cL c (uW (bI c p) m)).cap) := by unfold bU; rw [decide_eq_false h]; rfl
def ir (s : Ns) (k : Nat) : Prop := ∀ n, (ef s n).length ≤ k
def iE (f : Ch → Int) (c : Ci) (n : Int) : Bool := decide (0 ≤ n) && (decide (n < c.chans.length) && decide (f (cL c n.toNat) = -1))
theorem t6 {f : Ch → Int} {c : Ci} {n : Int} (h : ¬0 ≤ n) : iE f c n = false := by unfold iE; rw [decide_eq_false h]; rfl
theorem t7 {f : Ch → Int} {c : Ci} {n : Int} (h : ¬n < c.chans.length) : iE f c n = false := by unfold iE; rw [decide_eq_false h, Bool.false_and, Bool.and_false]
theorem mh {f : Ch → Int} {c : Ci} {n : Int} (h1 : 0 ≤ n) (h2 : n < c.chans.length) : iE f c n = decide (f (cL c n.toNat) = -1) := by unfold iE; rw [decide_eq_true h1, decide_eq_true h2, Bool.true_and, Bool.true_and]
end Go.Proofs.YtgmpoenfoacofaaGreat

namespace Go.Proofs.YtgmpoenfoacofaaGreat
open Go.RowKit
set_option linter.unusedVariables false
set_option linter.unusedSimpArgs false
theorem ah.of_empty {P : Program} {f : FuncId} {ar : List D} {E sz : Nat} {α : Type} {enc : α → List V} {d : α}
  (h : ∀ (S : Nat → Prop) (μ : Nat → Value) (w : World) (us : Array Value), aN S μ w ar us → Calls P f us w (fun e w' => ∃ v, e = .returned v ∧ w'.ownsRow 0 E sz v 0 [] ∧ w.grownBy w' none ∧ ∀ b, az v = some b → w.heap.size ≤ b)) :
  ah P f ar [] false (.own 0) [.arr E sz enc d []] := by
 intro S μ w us hS _ hus
 refine (h S μ w us hus).mono ?_
 rintro e w' ⟨v, rfl, ho, hg, hb⟩
 have hB : a9 S (fun _ => v) w' v (.arr E sz enc d []) := ⟨fun i x hx => by simp at hx, [], by simpa using ho, fun i x j y hx => by simp at hx⟩
 refine ⟨v, fun _ => v, S, rfl, hg.os, hg.tape, hg.output, hg.size, fun k hk _ => hg.block k hk (by simp), fun _ h => h, fun _ h => .inl h, fun b hb => Nat.lt_of_lt_of_le (hS b hb) hg.size, ?_, ⟨fun id B hB' => ?_, fun i j A B b hA hB' _ _ _ _ => ?_, fun i A b hA _ hbk hSb => ?_⟩, fun i A b hA _ hbk => .inl (hb b hbk), fun i A hA => by simp at hA⟩
 ·exact ao.own (μ := fun _ => v) 0
 ·cases id with
  | zero => simp at hB'; subst hB'; exact hB
  | succ id => simp at hB'
 ·have h1 : i = 0 := by cases i with | zero => rfl | succ i => simp at hA
  have h2 : j = 0 := by cases j with | zero => rfl | succ j => simp at hB'
  rw [h1, h2]
 ·have := hb b hbk
  have := hS b hSb
  omega
end Go.Proofs.YtgmpoenfoacofaaGreat
