/-
  slices.Grow of no slice: a row of the call's own, of length 0.
-/
import Derived.Test.YtgmpoenfoacofaaGreatQNeC
import Derived.Test.YtgmpoenfoacofaaGreatQPrT
namespace Go.Proofs.YtgmpoenfoacofaaGreat
open Go.RowKit
set_option linter.unusedVariables false
set_option linter.unusedSimpArgs false
section
variable {c : Ci} {s e : Ns} {w : Nat → Bool}
def upto (w : Nat → Bool) (P : Nat) : Nat → Bool := fun q => w q && decide (q < P)
theorem GB (hs : b8 c s) : bj c s w = bj c s (upto w c.procs.length) := by
 have h1 : ∀ q, q < c.procs.length → aM c s w q = aM c s (upto w c.procs.length) q := fun q hq => by unfold aM upto; simp [hq]
 have e1 : tab (ce c s w) c.procs.length = tab (ce c s (upto w c.procs.length)) c.procs.length := qy (fun q hq => by unfold ce; rw [h1 q hq])
 have e2 : tab (e7 c s w) c.chans.length = tab (e7 c s (upto w c.procs.length)) c.chans.length := qy (fun n hn => by
  unfold e7
  have g1 : fe c s w n = fe c s (upto w c.procs.length) n := by
   unfold fe
   by_cases hd : qA c n < c.procs.length
   ·rw [h1 _ hd]
   ·rw [yK (by omega)]; simp
  have g2 : eY c s w n = eY c s (upto w c.procs.length) n := by
   unfold eY
   by_cases hd : kT c n < c.procs.length
   ·rw [h1 _ hd]
   ·rw [kV hd]; simp
  rw [g1, g2])
 unfold bj; rw [e1, e2]
end
def dt (f : Nat → Bool) : Nat → Int
 | 0 => -1
 | n + 1 => if cJ (fun i => !f i) n = true then (if f n = true then n else -1) else dt f n
theorem bo {f : Nat → Bool} {i : Nat} (hf : f i = true) (h : ∀ z, z < i → f z = false) : ∀ {n : Nat}, i < n → dt f n = i
 | 0, h0 => absurd h0 (Nat.not_lt_zero _)
 | n + 1, h0 => by
  rw [dt]
  by_cases e : i = n
  ·subst e
   rw [if_pos (cF.2 (fun z hz => by rw [h z hz]; rfl)), if_pos hf]
  ·rw [if_neg (by rw [lN (show i < n by omega) (by simp [hf])]; simp), bo hf h (by omega)]
theorem bM {f : Nat → Bool} : ∀ {n : Nat}, (∀ z, z < n → f z = false) → dt f n = -1
 | 0, _ => rfl
 | n + 1, h => by
  rw [dt, if_pos (cF.2 (fun z hz => by rw [h z (by omega)]; rfl)), if_neg (by rw [h n (by omega)]; simp)]
theorem tK {f : Nat → Bool} : ∀ {n : Nat}, decide (0 ≤ dt f n) = !(cJ (fun i => !f i) n)
 | 0 => rfl
 | n + 1 => by
  rw [dt]
  split
  ·rename_i h1
   rw [cJ, h1]
   split
   ·rename_i h2; simp [h2]
   ·rename_i h2; simp [h2]
  ·rename_i h1
   rw [tK, cJ]
   simp only [Bool.not_eq_true] at h1
   rw [h1]; rfl
theorem lR {f : Nat → Bool} : ∀ {n : Nat}, dt f n < n
 | 0 => by simp [dt]
 | n + 1 => by
  rw [dt]
  have := lR (f := f) (n := n)
  split
  ·split <;> omega
  ·omega
def xk (l : List Int) (w : Int) : Int := dt (fun i => !ga (l.getD i 0) w) l.length
theorem CW {l : List Int} {w : Int} : (!decide (0 ≤ xk l w)) = fN l w := by
 unfold xk fN
 rw [tK, Bool.not_not]
 exact congrArg (cJ · _) (funext fun i => by rw [Bool.not_not])
theorem vV {ls : List (List Int)} {i : Nat} (h : i < ls.length) : (ls.take (i + 1)).flatten = (ls.take i).flatten ++ ls.getD i [] := by
 rw [List.take_succ_eq_append_getElem h, List.flatten_append]
 simp [List.getD, List.getElem?_eq_getElem h]
theorem xl {ls : List (List Int)} {i : Nat} : (ls.take i).flatten.length ≤ ls.flatten.length := by
 conv => rhs; rw [← List.take_append_drop i ls, List.flatten_append, List.length_append]
 omega
theorem ES {ls : List (List Int)} {i : Nat} (h : ls.length ≤ i) : (ls.take i).flatten = ls.flatten := by rw [List.take_of_length_le h]
def aB (c : Ci) : Ns := ⟨tab (fun i => aN (bK c i)) c.procs.length, List.replicate c.chans.length []⟩
theorem xm {c : Ci} {s : Ns} {p m : Nat} (h : (gG c (vQ (bK c p) m)).dst = -1) : bS c s p m = true := by unfold bS; rw [decide_eq_true h]; rfl
theorem kW {c : Ci} {s : Ns} {p m : Nat} (h : ¬(gG c (vQ (bK c p) m)).dst = -1) : bS c s p m = decide (((kr s (vQ (bK c p) m)).length : Int) < (gG c (vQ (bK c p) m)).cap) := by unfold bS; rw [decide_eq_false h]; rfl
def gw (s : Ns) (k : Nat) : Prop := ∀ n, (kr s n).length ≤ k
def fP (f : Ch → Int) (c : Ci) (n : Int) : Bool := decide (0 ≤ n) && (decide (n < c.chans.length) && decide (f (gG c n.toNat) = -1))
theorem fQ {f : Ch → Int} {c : Ci} {n : Int} (h : ¬0 ≤ n) : fP f c n = false := by unfold fP; rw [decide_eq_false h]; rfl
theorem fR {f : Ch → Int} {c : Ci} {n : Int} (h : ¬n < c.chans.length) : fP f c n = false := by unfold fP; rw [decide_eq_false h, Bool.false_and, Bool.and_false]
theorem lS {f : Ch → Int} {c : Ci} {n : Int} (h1 : 0 ≤ n) (h2 : n < c.chans.length) : fP f c n = decide (f (gG c n.toNat) = -1) := by unfold fP; rw [decide_eq_true h1, decide_eq_true h2, Bool.true_and, Bool.true_and]
theorem af.of_empty {P : Program} {f : FuncId} {ar : List D} {E sz : Nat} {α : Type} {enc : α → List V} {d : α}
  (h : ∀ (S : Nat → Prop) (μ : Nat → Value) (w : World) (us : Array Value), aL S μ w ar us → Calls P f us w (fun e w' => ∃ v, e = .returned v ∧ w'.ownsRow 0 E sz v 0 [] ∧ w.grownBy w' none ∧ ∀ b, ay v = some b → w.heap.size ≤ b)) :
  af P f ar [] false (.own 0) [.arr E sz enc d []] := by
 intro S μ w us hS _ hus
 refine (h S μ w us hus).mono ?_
 rintro e w' ⟨v, rfl, ho, hg, hb⟩
 have hB : a6 S (fun _ => v) w' v (.arr E sz enc d []) := ⟨fun i x hx => by simp at hx, [], by simpa using ho, fun i x j y hx => by simp at hx⟩
 refine ⟨v, fun _ => v, S, rfl, hg.os, hg.tape, hg.output, hg.size, fun k hk _ => hg.block k hk (by simp), fun _ h => h, fun _ h => .inl h, fun b hb => Nat.lt_of_lt_of_le (hS b hb) hg.size, ?_, ⟨fun id B hB' => ?_, fun i j A B b hA hB' _ _ _ _ => ?_, fun i A b hA _ hbk hSb => ?_⟩, fun i A b hA _ hbk => .inl (hb b hbk), fun i A hA => by simp at hA⟩
 ·exact ao.own (μ := fun _ => v) 0
 ·cases id with
  | zero => simp at hB'; subst hB'; exact hB
  | succ id => simp at hB'
 ·have h1 : i = 0 := by cases i with | zero => rfl | succ i => simp at hA
  have h2 : j = 0 := by cases j with | zero => rfl | succ j => simp at hB'
  rw [h1, h2]
 ·have := hb b hbk
  have := hS b hSb
  omega
end Go.Proofs.YtgmpoenfoacofaaGreat
