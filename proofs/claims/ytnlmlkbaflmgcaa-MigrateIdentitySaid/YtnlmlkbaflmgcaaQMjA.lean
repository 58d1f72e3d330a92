/-
  The reference of package migrate: whether nothing is lost, plain data.
-/
import Derived.Test.YtnlmlkbaflmgcaaQMiX
namespace Go.Proofs.Ytnlmlkbaflmgcaa
open Go.RowKit
set_option linter.unusedVariables false
set_option linter.unusedSimpArgs false
def kx (c : Ci) (k : ByteArray) : Int := cu (fun i => (c.chans.getD i aB).name.toList == k.toList) c.chans.length
def sY (o n : Ci) (i : Nat) : Bool := decide (kx n (be o i) < 0) || !decide ((n.chans.getD (kx n (be o i)).toNat aB).w = (o.chans.getD i aB).w)
def yW (o n : Ci) : Nat → List ByteArray
 | 0 => []
 | i + 1 => yW o n i ++ (if sY o n i = true then [be o i] else [])
theorem JC {o n : Ci} {i : Nat} (h : kx n (be o i) < 0) : sY o n i = true := by unfold sY; rw [decide_eq_true h]; rfl
def mq (q : Pr) (k : ByteArray) : Int := cu (fun i => (q.regs.getD i aK).name.toList == k.toList) q.regs.length
def jW (q : Pr) (k : ByteArray) : Int := cu (fun i => (q.mems.getD i ax).name.toList == k.toList) q.mems.length
def H2 (p q : Pr) (i : Nat) : Bool := decide (¬mq q (dc p i) < 0) && (decide ((q.regs.getD (mq q (dc p i)).toNat aK).w = (p.regs.getD i aK).w) && decide ((q.regs.getD (mq q (dc p i)).toNat aK).rule.kind = 1))
def H3 (p q : Pr) (i : Nat) : Bool := decide (¬jW q (d4 p i) < 0) && (decide ((q.mems.getD (jW q (d4 p i)).toNat ax).w = (p.mems.getD i ax).w) && (decide ((q.mems.getD (jW q (d4 p i)).toNat ax).words = (p.mems.getD i ax).words) && decide ((q.mems.getD (jW q (d4 p i)).toNat ax).rule.kind = 1)))
def IV (p q : Pr) : Bool := b4 (H2 p q) p.regs.length && b4 (H3 p q) p.mems.length
theorem JD {p q : Pr} {i : Nat} (h : ¬mq q (dc p i) < 0) (h2 : (q.regs.getD (mq q (dc p i)).toNat aK).w = (p.regs.getD i aK).w) (h3 : (q.regs.getD (mq q (dc p i)).toNat aK).rule.kind = 1) : H2 p q i = true := by unfold H2; rw [decide_eq_true h, decide_eq_true h2, decide_eq_true h3]; rfl
theorem JE {p q : Pr} {i : Nat} (h : ¬jW q (d4 p i) < 0) (h2 : (q.mems.getD (jW q (d4 p i)).toNat ax).w = (p.mems.getD i ax).w) (h4 : (q.mems.getD (jW q (d4 p i)).toNat ax).words = (p.mems.getD i ax).words) (h3 : (q.mems.getD (jW q (d4 p i)).toNat ax).rule.kind = 1) : H3 p q i = true := by unfold H3; rw [decide_eq_true h, decide_eq_true h2, decide_eq_true h3, decide_eq_true h4]; rfl
theorem F0 {p q : Pr} (h1 : ∀ i, i < p.regs.length → H2 p q i = true) (h2 : ∀ i, i < p.mems.length → H3 p q i = true) : IV p q = true := by unfold IV; rw [aR.2 h1, aR.2 h2]; rfl
def pM (c : Ci) (k : ByteArray) : Int := cu (fun i => (c.procs.getD i ac).name.toList == k.toList) c.procs.length
def D4 (o n : Ci) (i : Nat) : Int := (n.chans.getD (kx n (be o i)).toNat aB).cap
def yX (o n : Ci) (i : Nat) : Bool := !(decide (0 < D4 o n i) && decide (D4 o n i < qe (o.chans.getD i aB)))
def yY (o n : Ci) (i : Nat) : Bool := if pM n (fu o i) < 0 then decide ¬(((o.procs.getD i ac).regs.length : Int) + ((o.procs.getD i ac).mems.length : Int) > 0) else IV (o.procs.getD i ac) (n.procs.getD (pM n (fu o i)).toNat ac)
def D5 (o n : Ci) : Bool := (yW o n o.chans.length).isEmpty && (b4 (yX o n) o.chans.length && b4 (yY o n) o.procs.length)
theorem F1 {o n : Ci} (h1 : ¬0 < (yW o n o.chans.length).length) (h2 : ∀ i, i < o.chans.length → yX o n i = true) (h3 : ∀ i, i < o.procs.length → yY o n i = true) : D5 o n = true := by
 have e : yW o n o.chans.length = [] := List.eq_nil_of_length_eq_zero (by omega)
 unfold D5; rw [e, aR.2 h2, aR.2 h3]; rfl
theorem vQ {o n : Ci} : ∀ {k : Nat}, yW o n k = [] → ∀ i, i < k → sY o n i = false
 | 0, _, i, hi => by omega
 | k + 1, h, i, hi => by
  rw [yW] at h
  have h' := List.append_eq_nil_iff.1 h
  rcases Nat.lt_or_ge i k with hk | hk
  ·exact vQ h'.1 i hk
  ·have : i = k := by omega
   subst this
   cases hp : sY o n i
   ·rfl
   ·rw [hp] at h'; simp at h'
end Go.Proofs.Ytnlmlkbaflmgcaa
