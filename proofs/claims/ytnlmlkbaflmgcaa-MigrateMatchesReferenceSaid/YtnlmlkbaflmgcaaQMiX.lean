/-
  Package migrate, plain data: nothing is lost.
-/
import Derived.Test.YtnlmlkbaflmgcaaQMiK
namespace Go.Proofs.Ytnlmlkbaflmgcaa
open Go.RowKit
set_option linter.unusedVariables false
set_option linter.unusedSimpArgs false
def fH (c : Ci) (k : ByteArray) : Nat → Pr
 | 0 => ac
 | j + 1 => if (eG c j).toList == k.toList then c.procs.getD j ac else fH c k j
theorem w8 {c : Ci} {k : ByteArray} {j : Nat} (h : ((eG c j).toList == k.toList) = true) : fH c k (j + 1) = c.procs.getD j ac := by rw [fH, if_pos h]
theorem Ah {c : Ci} {k : ByteArray} {j : Nat} (h : ((eG c j).toList == k.toList) = false) : fH c k j = fH c k (j + 1) := by rw [fH, if_neg (by rw [h]; exact Bool.false_ne_true)]
def i4 (x : Ch) : Int := if x.cap = 0 then 8 else x.cap
theorem iw {x : Ch} (h : x.cap = 0) : i4 x = 8 := by rw [i4, if_pos h]
theorem iy {x : Ch} (h : ¬x.cap = 0) : i4 x = x.cap := by rw [i4, if_neg h]
def r8 (o n : Ci) (i : Nat) : Int := (n.chans.getD (ah 0 (jv n) (bk o i)).toNat ax).cap
def kC (o n : Ci) (i : Nat) : Bool := !(decide (0 < r8 o n i) && decide (r8 o n i < i4 (o.chans.getD i ax)))
def i5 (o n : Ci) (i : Nat) : Bool := fG (o.procs.getD i ac) (fH n (eG o i) n.procs.length)
def b8 (o n : Ci) : Bool := (a4 o n o.chans.length).isEmpty && (cJ (kC o n) o.chans.length && cJ (i5 o n) o.procs.length)
theorem jx {o n : Ci} (h : 0 < (a4 o n o.chans.length).length) : b8 o n = false := by
 unfold b8; cases hm : a4 o n o.chans.length with
 | nil => rw [hm] at h; simp at h
 | cons a l => rfl
theorem jy {o n : Ci} {i : Nat} (hi : i < o.chans.length) (h1 : 0 < r8 o n i) (h2 : r8 o n i < i4 (o.chans.getD i ax)) : b8 o n = false := by
 unfold b8; rw [dC hi (show kC o n i = false by unfold kC; rw [decide_eq_true h1, decide_eq_true h2]; rfl), Bool.false_and, Bool.and_false]
theorem hC {o n : Ci} {i : Nat} (hi : i < o.procs.length) (h : i5 o n i = false) : b8 o n = false := by
 unfold b8; rw [dC hi h, Bool.and_false, Bool.and_false]
theorem jz {o n : Ci} (h1 : ¬0 < (a4 o n o.chans.length).length) (h2 : ∀ i, i < o.chans.length → kC o n i = true) (h3 : ∀ i, i < o.procs.length → i5 o n i = true) : b8 o n = true := by
 have e : a4 o n o.chans.length = [] := List.eq_nil_of_length_eq_zero (by omega)
 unfold b8; rw [e, bh.2 h2, bh.2 h3]; rfl
theorem vD {o n : Ci} {i : Nat} (h : ¬0 < r8 o n i) : kC o n i = true := by unfold kC; rw [decide_eq_false h]; rfl
theorem vE {o n : Ci} {i : Nat} (h : ¬r8 o n i < i4 (o.chans.getD i ax)) : kC o n i = true := by unfold kC; rw [decide_eq_false h, Bool.and_false]; rfl
theorem ue {o n : Ci} : ∀ {k : Nat}, a4 o n k = [] → ∀ i, i < k → iu o n i = false
 | 0, _, i, hi => by omega
 | k + 1, h, i, hi => by
  rw [a4] at h
  have h' := List.append_eq_nil_iff.1 h
  rcases Nat.lt_or_ge i k with hk | hk
  ·exact ue h'.1 i hk
  ·have : i = k := by omega
   subst this
   cases hp : iu o n i
   ·rfl
   ·rw [hp] at h'; simp at h'
theorem BG {o n : Ci} {i : Nat} (h : iu o n i = false) : aV (jv n) (bk o i) = true ∧ (n.chans.getD (ah 0 (jv n) (bk o i)).toNat ax).w = (o.chans.getD i ax).w := by
 unfold iu at h
 rw [Bool.or_eq_false_iff] at h
 simpa using h
theorem DU {o n : Ci} (h : ¬(((a4 o n o.chans.length).length : Nat) : Int) > 0) {k : Nat} (hk : k < o.chans.length) : 0 ≤ ah 0 (b4 [] (bk n) n.chans.length) (o.chans.getD k ax).name ∧ ah 0 (b4 [] (bk n) n.chans.length) (o.chans.getD k ax).name < (n.chans.length : Int) :=
 t3 (f := bk n) n.chans.length (BG (ue (List.eq_nil_of_length_eq_zero (by omega)) k hk)).1
def Ca (p : Pr) : Prop := p.regs.length ≤ 1000000 ∧ p.mems.length ≤ 1000000
theorem Ai {c : Ci} {k : ByteArray} (h : ∀ j, j < c.procs.length → Ca (c.procs.getD j ac)) : ∀ r, r ≤ c.procs.length → Ca (fH c k r)
 | 0, _ => ⟨by simp [fH], by simp [fH]⟩
 | r + 1, hr => by
  rw [fH]
  split
  ·exact h r (by omega)
  ·exact Ai h r (by omega)
end Go.Proofs.Ytnlmlkbaflmgcaa
