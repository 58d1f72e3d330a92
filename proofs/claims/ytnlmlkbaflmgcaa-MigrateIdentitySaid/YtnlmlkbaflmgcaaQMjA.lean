/-
  The reference of package migrate: whether nothing is lost, plain data.
-/
import Derived.Test.YtnlmlkbaflmgcaaQMiX
namespace Go.Proofs.Ytnlmlkbaflmgcaa
open Go.RowKit
set_option linter.unusedVariables false
set_option linter.unusedSimpArgs false
def ky (c : Ci) (k : ByteArray) : Int := cu (fun i => (c.chans.getD i aB).name.toList == k.toList) c.chans.length
def sY (o n : Ci) (i : Nat) : Bool := decide (ky n (be o i) < 0) || !decide ((n.chans.getD (ky n (be o i)).toNat aB).w = (o.chans.getD i aB).w)
def yX (o n : Ci) : Nat → List ByteArray
 | 0 => []
 | i + 1 => yX o n i ++ (if sY o n i = true then [be o i] else [])
theorem JD {o n : Ci} {i : Nat} (h : ky n (be o i) < 0) : sY o n i = true := by unfold sY; rw [decide_eq_true h]; rfl
def mq (q : Pr) (k : ByteArray) : Int := cu (fun i => (q.regs.getD i aK).name.toList == k.toList) q.regs.length
def jX (q : Pr) (k : ByteArray) : Int := cu (fun i => (q.mems.getD i ax).name.toList == k.toList) q.mems.length
def H3 (p q : Pr) (i : Nat) : Bool := decide (¬mq q (dc p i) < 0) && (decide ((q.regs.getD (mq q (dc p i)).toNat aK).w = (p.regs.getD i aK).w) && decide ((q.regs.getD (mq q (dc p i)).toNat aK).rule.kind = 1))
def H4 (p q : Pr) (i : Nat) : Bool := decide (¬jX q (d4 p i) < 0) && (decide ((q.mems.getD (jX q (d4 p i)).toNat ax).w = (p.mems.getD i ax).w) && (decide ((q.mems.getD (jX q (d4 p i)).toNat ax).words = (p.mems.getD i ax).words) && decide ((q.mems.getD (jX q (d4 p i)).toNat ax).rule.kind = 1)))
def IW (p q : Pr) : Bool := b4 (H3 p q) p.regs.length && b4 (H4 p q) p.mems.length
theorem JE {p q : Pr} {i : Nat} (h : ¬mq q (dc p i) < 0) (h2 : (q.regs.getD (mq q (dc p i)).toNat aK).w = (p.regs.getD i aK).w) (h3 : (q.regs.getD (mq q (dc p i)).toNat aK).rule.kind = 1) : H3 p q i = true := by unfold H3; rw [decide_eq_true h, decide_eq_true h2, decide_eq_true h3]; rfl
theorem JF {p q : Pr} {i : Nat} (h : ¬jX q (d4 p i) < 0) (h2 : (q.mems.getD (jX q (d4 p i)).toNat ax).w = (p.mems.getD i ax).w) (h4 : (q.mems.getD (jX q (d4 p i)).toNat ax).words = (p.mems.getD i ax).words) (h3 : (q.mems.getD (jX q (d4 p i)).toNat ax).rule.kind = 1) : H4 p q i = true := by unfold H4; rw [decide_eq_true h, decide_eq_true h2, decide_eq_true h3, decide_eq_true h4]; rfl
theorem F2 {p q : Pr} (h1 : ∀ i, i < p.regs.length → H3 p q i = true) (h2 : ∀ i, i < p.mems.length → H4 p q i = true) : IW p q = true := by unfold IW; rw [aR.2 h1, aR.2 h2]; rfl
def pM (c : Ci) (k : ByteArray) : Int := cu (fun i => (c.procs.getD i ac).name.toList == k.toList) c.procs.length
def D5 (o n : Ci) (i : Nat) : Int := (n.chans.getD (ky n (be o i)).toNat aB).cap
def yY (o n : Ci) (i : Nat) : Bool := !(decide (0 < D5 o n i) && decide (D5 o n i < qf (o.chans.getD i aB)))
def yZ (o n : Ci) (i : Nat) : Bool := if pM n (fu o i) < 0 then decide ¬(((o.procs.getD i ac).regs.length : Int) + ((o.procs.getD i ac).mems.length : Int) > 0) else IW (o.procs.getD i ac) (n.procs.getD (pM n (fu o i)).toNat ac)
def D6 (o n : Ci) : Bool := (yX o n o.chans.length).isEmpty && (b4 (yY o n) o.chans.length && b4 (yZ o n) o.procs.length)
theorem F3 {o n : Ci} (h1 : ¬0 < (yX o n o.chans.length).length) (h2 : ∀ i, i < o.chans.length → yY o n i = true) (h3 : ∀ i, i < o.procs.length → yZ o n i = true) : D6 o n = true := by
 have e : yX o n o.chans.length = [] := List.eq_nil_of_length_eq_zero (by omega)
 unfold D6; rw [e, aR.2 h2, aR.2 h3]; rfl
theorem vQ {o n : Ci} : ∀ {k : Nat}, yX o n k = [] → ∀ i, i < k → sY o n i = false
 | 0, _, i, hi => by omega
 | k + 1, h, i, hi => by
  rw [yX] at h
  have h' := List.append_eq_nil_iff.1 h
  rcases Nat.lt_or_ge i k with hk | hk
  ·exact vQ h'.1 i hk
  ·have : i = k := by omega
   subst this
   cases hp : sY o n i
   ·rfl
   ·rw [hp] at h'; simp at h'
end Go.Proofs.Ytnlmlkbaflmgcaa
