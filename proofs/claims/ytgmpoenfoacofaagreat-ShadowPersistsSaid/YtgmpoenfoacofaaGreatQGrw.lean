/-
  slices.Grow of no slice: a row of the call's own, of length 0.
-/
import Derived.Test.YtgmpoenfoacofaaGreatQNeC
import Derived.Test.YtgmpoenfoacofaaGreatQPrT
namespace Go.Proofs.YtgmpoenfoacofaaGreat
open Go.RowKit
set_option linter.unusedVariables false
set_option linter.unusedSimpArgs false
section
variable {c : Ci} {s e : Ns} {w : Nat → Bool}
theorem Iy (hc : bo c) {p : Nat} (hp : p < c.procs.length) (h1 : hJ c s p = true) (hw : w p = false) : hJ c (a4 c s w) p = true := by
 unfold hJ; rw [(Ac hc hp h1 hw).1]; exact h1
def BA (c : Ci) (s : Ns) : List Nat → Ns
 | [] => s
 | p :: r => BA c (a4 c s (cE p)) r
def ve (c : Ci) (s : Ns) : List Nat → Prop
 | [] => True
 | p :: r => p < c.procs.length ∧ hJ c s p = true ∧ ve c (a4 c s (cE p)) r
def upto (w : Nat → Bool) (P : Nat) : Nat → Bool := fun q => w q && decide (q < P)
theorem Df (hs : bG c s) : a4 c s w = a4 c s (upto w c.procs.length) := by
 have h1 : ∀ q, q < c.procs.length → aD c s w q = aD c s (upto w c.procs.length) q := fun q hq => by unfold aD upto; simp [hq]
 have e1 : tab (bL c s w) c.procs.length = tab (bL c s (upto w c.procs.length)) c.procs.length := ie (fun q hq => by unfold bL; rw [h1 q hq])
 have e2 : tab (cB c s w) c.chans.length = tab (cB c s (upto w c.procs.length)) c.chans.length := ie (fun n hn => by
  unfold cB
  have g1 : cX c s w n = cX c s (upto w c.procs.length) n := by
   unfold cX
   by_cases hd : iR c n < c.procs.length
   ·rw [h1 _ hd]
   ·rw [u9 (by omega)]; simp
  have g2 : cH c s w n = cH c s (upto w c.procs.length) n := by
   unfold cH
   by_cases hd : fA c n < c.procs.length
   ·rw [h1 _ hd]
   ·rw [mc hd]; simp
  rw [g1, g2])
 unfold a4; rw [e1, e2]
end
def bU (f : Nat → Bool) : Nat → Int
 | 0 => -1
 | n + 1 => if ct (fun i => !f i) n = true then (if f n = true then n else -1) else bU f n
theorem bu {f : Nat → Bool} {i : Nat} (hf : f i = true) (h : ∀ z, z < i → f z = false) : ∀ {n : Nat}, i < n → bU f n = i
 | 0, h0 => absurd h0 (Nat.not_lt_zero _)
 | n + 1, h0 => by
  rw [bU]
  by_cases e : i = n
  ·subst e
   rw [if_pos (bi.2 (fun z hz => by rw [h z hz]; rfl)), if_pos hf]
  ·rw [if_neg (by rw [fx (show i < n by omega) (by simp [hf])]; simp), bu hf h (by omega)]
theorem bV {f : Nat → Bool} : ∀ {n : Nat}, (∀ z, z < n → f z = false) → bU f n = -1
 | 0, _ => rfl
 | n + 1, h => by
  rw [bU, if_pos (bi.2 (fun z hz => by rw [h z (by omega)]; rfl)), if_neg (by rw [h n (by omega)]; simp)]
theorem vf {f : Nat → Bool} : ∀ {n : Nat}, decide (0 ≤ bU f n) = !(ct (fun i => !f i) n)
 | 0 => rfl
 | n + 1 => by
  rw [bU]
  split
  ·rename_i h1
   rw [ct, h1]
   split
   ·rename_i h2; simp [h2]
   ·rename_i h2; simp [h2]
  ·rename_i h1
   rw [vf, ct]
   simp only [Bool.not_eq_true] at h1
   rw [h1]; rfl
theorem m3 {f : Nat → Bool} : ∀ {n : Nat}, bU f n < n
 | 0 => by simp [bU]
 | n + 1 => by
  rw [bU]
  have := m3 (f := f) (n := n)
  split
  ·split <;> omega
  ·omega
def yD (l : List Int) (w : Int) : Int := bU (fun i => !cT (l.getD i 0) w) l.length
theorem EL {l : List Int} {w : Int} : (!decide (0 ≤ yD l w)) = cA l w := by
 unfold yD cA
 rw [vf, Bool.not_not]
 exact congrArg (ct · _) (funext fun i => by rw [Bool.not_not])
theorem xm {ls : List (List Int)} {i : Nat} (h : i < ls.length) : (ls.take (i + 1)).flatten = (ls.take i).flatten ++ ls.getD i [] := by
 rw [List.take_succ_eq_append_getElem h, List.flatten_append]
 simp [List.getD, List.getElem?_eq_getElem h]
theorem yE {ls : List (List Int)} {i : Nat} : (ls.take i).flatten.length ≤ ls.flatten.length := by
 conv => rhs; rw [← List.take_append_drop i ls, List.flatten_append, List.length_append]
 omega
theorem GN {ls : List (List Int)} {i : Nat} (h : ls.length ≤ i) : (ls.take i).flatten = ls.flatten := by rw [List.take_of_length_le h]
section
variable {c : Ci} {s : Ns}
theorem rS (h : ¬s.procs.length = c.procs.length) : bQ c s = false := by unfold bQ; rw [decide_eq_false h]; rfl
theorem rT (h : ¬s.chans.length = c.chans.length) : bQ c s = false := by unfold bQ; rw [decide_eq_false h, Bool.and_false]; rfl
theorem rU {i : Nat} (hi : i < c.procs.length) (h : bW (bH c i) (zg s i) = false) : bQ c s = false := by unfold bQ; rw [fx hi h, Bool.and_false]; rfl
theorem gM {n : Nat} (hn : n < c.chans.length) (h : iP c s n = false) : bQ c s = false := by unfold bQ; rw [fx hn h, Bool.and_false]
theorem rV (h1 : s.procs.length = c.procs.length) (h2 : s.chans.length = c.chans.length) (h3 : ∀ i, i < c.procs.length → bW (bH c i) (zg s i) = true) (h4 : ∀ n, n < c.chans.length → iP c s n = true) : bQ c s = true := by
 unfold bQ
 rw [decide_eq_true h1, decide_eq_true h2, bi.2 h3, bi.2 h4]; rfl
end
theorem j6 {c : Ci} {s : Ns} {n : Nat} (h : ¬cA (fh s n) (dt c n).w = true) : iP c s n = false := by
 simp only [Bool.not_eq_true] at h
 unfold iP; rw [h, Bool.false_and]
theorem j7 {c : Ci} {s : Ns} {n : Nat} (h0 : 0 ≤ (dt c n).frm) (h1 : 0 ≤ (dt c n).dst) (h : ¬((fh s n).length : Int) ≤ (dt c n).cap) : iP c s n = false := by
 unfold iP; rw [decide_eq_true h0, decide_eq_true h1, decide_eq_false h]; simp
theorem BB {c : Ci} {s : Ns} {n : Nat} (h : cA (fh s n) (dt c n).w = true) (h0 : ¬0 ≤ (dt c n).frm) : iP c s n = true := by
 unfold iP; rw [h, decide_eq_false h0]; rfl
theorem BC {c : Ci} {s : Ns} {n : Nat} (h : cA (fh s n) (dt c n).w = true) (h0 : ¬0 ≤ (dt c n).dst) : iP c s n = true := by
 unfold iP; rw [h, decide_eq_false h0, Bool.and_false]; rfl
theorem BD {c : Ci} {s : Ns} {n : Nat} (h : cA (fh s n) (dt c n).w = true) (h0 : ((fh s n).length : Int) ≤ (dt c n).cap) : iP c s n = true := by
 unfold iP; rw [h, decide_eq_true h0, Bool.or_true]; rfl
def aH (c : Ci) : Ns := ⟨tab (fun i => aV (bH c i)) c.procs.length, List.replicate c.chans.length []⟩
theorem yF {c : Ci} {s : Ns} {p m : Nat} (h : (dt c (v4 (bH c p) m)).dst = -1) : b4 c s p m = true := by unfold b4; rw [decide_eq_true h]; rfl
theorem md {c : Ci} {s : Ns} {p m : Nat} (h : ¬(dt c (v4 (bH c p) m)).dst = -1) : b4 c s p m = decide (((fh s (v4 (bH c p) m)).length : Int) < (dt c (v4 (bH c p) m)).cap) := by unfold b4; rw [decide_eq_false h]; rfl
def ga (s : Ns) (k : Nat) : Prop := ∀ n, (fh s n).length ≤ k
def gw (f : Ch → Int) (c : Ci) (n : Int) : Bool := decide (0 ≤ n) && (decide (n < c.chans.length) && decide (f (dt c n.toNat) = -1))
theorem gz {f : Ch → Int} {c : Ci} {n : Int} (h : ¬0 ≤ n) : gw f c n = false := by unfold gw; rw [decide_eq_false h]; rfl
theorem gA {f : Ch → Int} {c : Ci} {n : Int} (h : ¬n < c.chans.length) : gw f c n = false := by unfold gw; rw [decide_eq_false h, Bool.false_and, Bool.and_false]
theorem m4 {f : Ch → Int} {c : Ci} {n : Int} (h1 : 0 ≤ n) (h2 : n < c.chans.length) : gw f c n = decide (f (dt c n.toNat) = -1) := by unfold gw; rw [decide_eq_true h1, decide_eq_true h2, Bool.true_and, Bool.true_and]
theorem af.of_empty {P : Program} {f : FuncId} {ar : List D} {E sz : Nat} {α : Type} {enc : α → List V} {d : α}
  (h : ∀ (S : Nat → Prop) (μ : Nat → Value) (w : World) (us : Array Value), aP S μ w ar us → Calls P f us w (fun e w' => ∃ v, e = .returned v ∧ w'.ownsRow 0 E sz v 0 [] ∧ w.grownBy w' none ∧ ∀ b, aA v = some b → w.heap.size ≤ b)) :
  af P f ar [] false (.own 0) [.arr E sz enc d []] := by
 intro S μ w us hS _ hus
 refine (h S μ w us hus).mono ?_
 rintro e w' ⟨v, rfl, ho, hg, hb⟩
 have hB : be S (fun _ => v) w' v (.arr E sz enc d []) := ⟨fun i x hx => by simp at hx, [], by simpa using ho, fun i x j y hx => by simp at hx⟩
 refine ⟨v, fun _ => v, S, rfl, hg.os, hg.tape, hg.output, hg.size, fun k hk _ => hg.block k hk (by simp), fun _ h => h, fun _ h => .inl h, fun b hb => Nat.lt_of_lt_of_le (hS b hb) hg.size, ?_, ⟨fun id B hB' => ?_, fun i j A B b hA hB' _ _ _ _ => ?_, fun i A b hA _ hbk hSb => ?_⟩, fun i A b hA _ hbk => .inl (hb b hbk), fun i A hA => by simp at hA⟩
 ·exact ap.own (μ := fun _ => v) 0
 ·cases id with
  | zero => simp at hB'; subst hB'; exact hB
  | succ id => simp at hB'
 ·have h1 : i = 0 := by cases i with | zero => rfl | succ i => simp at hA
  have h2 : j = 0 := by cases j with | zero => rfl | succ j => simp at hB'
  rw [h1, h2]
 ·have := hb b hbk
  have := hS b hSb
  omega
end Go.Proofs.YtgmpoenfoacofaaGreat
