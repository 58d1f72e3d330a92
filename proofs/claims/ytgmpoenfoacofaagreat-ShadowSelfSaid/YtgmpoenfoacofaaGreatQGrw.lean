/-
  slices.Grow of no slice: a row of the call's own, of length 0.
-/
import Derived.Test.YtgmpoenfoacofaaGreatQNeD
import Derived.Test.YtgmpoenfoacofaaGreatQPrT
import Derived.Test.YtgmpoenfoacofaaGreatQMap
namespace Go.Proofs.YtgmpoenfoacofaaGreat
open Go.RowKit
set_option linter.unusedVariables false
set_option linter.unusedSimpArgs false
def bX (f : Nat → Bool) : Nat → Int
 | 0 => -1
 | n + 1 => if cz (fun i => !f i) n = true then (if f n = true then n else -1) else bX f n
theorem cJ {f : Nat → Bool} {i : Nat} (hf : f i = true) (h : ∀ z, z < i → f z = false) : ∀ {n : Nat}, i < n → bX f n = i
 | 0, h0 => absurd h0 (Nat.not_lt_zero _)
 | n + 1, h0 => by
  rw [bX]
  by_cases e : i = n
  ·subst e
   rw [if_pos (bu.2 (fun z hz => by rw [h z hz]; rfl)), if_pos hf]
  ·rw [if_neg (by rw [gu (show i < n by omega) (by simp [hf])]; simp), cJ hf h (by omega)]
theorem dk {f : Nat → Bool} : ∀ {n : Nat}, (∀ z, z < n → f z = false) → bX f n = -1
 | 0, _ => rfl
 | n + 1, h => by
  rw [bX, if_pos (bu.2 (fun z hz => by rw [h z (by omega)]; rfl)), if_neg (by rw [h n (by omega)]; simp)]
theorem tj {f : Nat → Bool} : ∀ {n : Nat}, decide (0 ≤ bX f n) = !(cz (fun i => !f i) n)
 | 0 => rfl
 | n + 1 => by
  rw [bX]
  split
  ·rename_i h1
   rw [cz, h1]
   split
   ·rename_i h2; simp [h2]
   ·rename_i h2; simp [h2]
  ·rename_i h1
   rw [tj, cz]
   simp only [Bool.not_eq_true] at h1
   rw [h1]; rfl
theorem qq {f : Nat → Bool} : ∀ {n : Nat}, bX f n < n
 | 0 => by simp [bX]
 | n + 1 => by
  rw [bX]
  have := qq (f := f) (n := n)
  split
  ·split <;> omega
  ·omega
def wO (l : List Int) (w : Int) : Int := bX (fun i => !c8 (l.getD i 0) w) l.length
theorem CY {l : List Int} {w : Int} : (!decide (0 ≤ wO l w)) = cD l w := by
 unfold wO cD
 rw [tj, Bool.not_not]
 exact congrArg (cz · _) (funext fun i => by rw [Bool.not_not])
theorem vp {ls : List (List Int)} {i : Nat} (h : i < ls.length) : (ls.take (i + 1)).flatten = (ls.take i).flatten ++ ls.getD i [] := by
 rw [List.take_succ_eq_append_getElem h, List.flatten_append]
 simp [List.getD, List.getElem?_eq_getElem h]
theorem wP {ls : List (List Int)} {i : Nat} : (ls.take i).flatten.length ≤ ls.flatten.length := by
 conv => rhs; rw [← List.take_append_drop i ls, List.flatten_append, List.length_append]
 omega
theorem EZ {ls : List (List Int)} {i : Nat} (h : ls.length ≤ i) : (ls.take i).flatten = ls.flatten := by rw [List.take_of_length_le h]
section
variable {c : Ci} {s : Ns}
theorem qr (h : ¬s.procs.length = c.procs.length) : bN c s = false := by unfold bN; rw [decide_eq_false h]; rfl
theorem qs (h : ¬s.chans.length = c.chans.length) : bN c s = false := by unfold bN; rw [decide_eq_false h, Bool.and_false]; rfl
theorem qt {i : Nat} (hi : i < c.procs.length) (h : bQ (bJ c i) (wG s i) = false) : bN c s = false := by unfold bN; rw [gu hi h, Bool.and_false]; rfl
theorem f6 {n : Nat} (hn : n < c.chans.length) (h : ia c s n = false) : bN c s = false := by unfold bN; rw [gu hn h, Bool.and_false]
theorem qu (h1 : s.procs.length = c.procs.length) (h2 : s.chans.length = c.chans.length) (h3 : ∀ i, i < c.procs.length → bQ (bJ c i) (wG s i) = true) (h4 : ∀ n, n < c.chans.length → ia c s n = true) : bN c s = true := by
 unfold bN
 rw [decide_eq_true h1, decide_eq_true h2, bu.2 h3, bu.2 h4]; rfl
end
theorem jc {c : Ci} {s : Ns} {n : Nat} (h : ¬cD (d7 s n) (cL c n).w = true) : ia c s n = false := by
 simp only [Bool.not_eq_true] at h
 unfold ia; rw [h, Bool.false_and]
theorem jd {c : Ci} {s : Ns} {n : Nat} (h0 : 0 ≤ (cL c n).frm) (h1 : 0 ≤ (cL c n).dst) (h : ¬((d7 s n).length : Int) ≤ (cL c n).cap) : ia c s n = false := by
 unfold ia; rw [decide_eq_true h0, decide_eq_true h1, decide_eq_false h]; simp
theorem zL {c : Ci} {s : Ns} {n : Nat} (h : cD (d7 s n) (cL c n).w = true) (h0 : ¬0 ≤ (cL c n).frm) : ia c s n = true := by
 unfold ia; rw [h, decide_eq_false h0]; rfl
theorem zM {c : Ci} {s : Ns} {n : Nat} (h : cD (d7 s n) (cL c n).w = true) (h0 : ¬0 ≤ (cL c n).dst) : ia c s n = true := by
 unfold ia; rw [h, decide_eq_false h0, Bool.and_false]; rfl
theorem zN {c : Ci} {s : Ns} {n : Nat} (h : cD (d7 s n) (cL c n).w = true) (h0 : ((d7 s n).length : Int) ≤ (cL c n).cap) : ia c s n = true := by
 unfold ia; rw [h, decide_eq_true h0, Bool.or_true]; rfl
def aE (c : Ci) : Ns := ⟨ao (fun i => aP (bJ c i)) c.procs.length, List.replicate c.chans.length []⟩
theorem wQ {c : Ci} {s : Ns} {p m : Nat} (h : (cL c (t6 (bJ c p) m)).dst = -1) : bU c s p m = true := by unfold bU; rw [decide_eq_true h]; rfl
theorem kW {c : Ci} {s : Ns} {p m : Nat} (h : ¬(cL c (t6 (bJ c p) m)).dst = -1) : bU c s p m = decide (((d7 s (t6 (bJ c p) m)).length : Int) < (cL c (t6 (bJ c p) m)).cap) := by unfold bU; rw [decide_eq_false h]; rfl
def ic (s : Ns) (k : Nat) : Prop := ∀ n, (d7 s n).length ≤ k
def ir (f : Ch → Int) (c : Ci) (n : Int) : Bool := decide (0 ≤ n) && (decide (n < c.chans.length) && decide (f (cL c n.toNat) = -1))
theorem tn {f : Ch → Int} {c : Ci} {n : Int} (h : ¬0 ≤ n) : ir f c n = false := by unfold ir; rw [decide_eq_false h]; rfl
theorem tp {f : Ch → Int} {c : Ci} {n : Int} (h : ¬n < c.chans.length) : ir f c n = false := by unfold ir; rw [decide_eq_false h, Bool.false_and, Bool.and_false]
theorem lS {f : Ch → Int} {c : Ci} {n : Int} (h1 : 0 ≤ n) (h2 : n < c.chans.length) : ir f c n = decide (f (cL c n.toNat) = -1) := by unfold ir; rw [decide_eq_true h1, decide_eq_true h2, Bool.true_and, Bool.true_and]
end Go.Proofs.YtgmpoenfoacofaaGreat

namespace Go.Proofs.YtgmpoenfoacofaaGreat
open Go.RowKit
set_option linter.unusedVariables false
set_option linter.unusedSimpArgs false
theorem ah.of_empty {P : Program} {f : FuncId} {ar : List D} {E sz : Nat} {α : Type} {enc : α → List V} {d : α}
  (h : ∀ (S : Nat → Prop) (μ : Nat → Value) (w : World) (us : Array Value), aU S μ w ar us → Calls P f us w (fun e w' => ∃ v, e = .returned v ∧ w'.ownsRow 0 E sz v 0 [] ∧ w.grownBy w' none ∧ ∀ b, aB v = some b → w.heap.size ≤ b)) :
  ah P f ar [] false (.own 0) [.arr E sz enc d []] := by
 intro S μ w us hS _ hus
 refine (h S μ w us hus).mono ?_
 rintro e w' ⟨v, rfl, ho, hg, hb⟩
 have hB : a7 S (fun _ => v) w' v (.arr E sz enc d []) := ⟨fun i x hx => by simp at hx, [], by simpa using ho, fun i x j y hx => by simp at hx⟩
 refine ⟨v, fun _ => v, S, rfl, hg.os, hg.tape, hg.output, hg.size, fun k hk _ => hg.block k hk (by simp), fun _ h => h, fun _ h => .inl h, fun b hb => Nat.lt_of_lt_of_le (hS b hb) hg.size, ?_, ⟨fun id B hB' => ?_, fun i j A B b hA hB' _ _ _ _ => ?_, fun i A b hA _ hbk hSb => ?_⟩, fun i A b hA _ hbk => .inl (hb b hbk), fun i A hA => by simp at hA⟩
 ·exact ap.own (μ := fun _ => v) 0
 ·cases id with
  | zero => simp at hB'; subst hB'; exact hB
  | succ id => simp at hB'
 ·have h1 : i = 0 := by cases i with | zero => rfl | succ i => simp at hA
  have h2 : j = 0 := by cases j with | zero => rfl | succ j => simp at hB'
  rw [h1, h2]
 ·have := hb b hbk
  have := hS b hSb
  omega
end Go.Proofs.YtgmpoenfoacofaaGreat
