/-
  Package migrate, plain data: nothing is lost.
-/
import Derived.Test.YtnlmlkbaflmgcaaQMiF
namespace Go.Proofs.Ytnlmlkbaflmgcaa
open Go.RowKit
set_option linter.unusedVariables false
set_option linter.unusedSimpArgs false
set_option maxRecDepth 100000
abbrev KB (v w : Int) : Ct := ⟨58,[(i6 v),(i6 w)],false,(i6 (kG v w))⟩
theorem HN (v w : Int) (h1 : 0 ≤ w) (h2 : w ≤ 62) : CC (KB v w) := by
 refine ap.vc (V := TT 3 ((True∧IntKind.u64.wrap w = w)∧SH w∧W6 ((2 ^ w.toNat) - 1)∧(True∧(IntKind.wrap .i64 (BitVec.ofInt (IntKind.i64).bits v &&& BitVec.ofInt (IntKind.i64).bits ((2 ^ w.toNat) - 1)).toNat) = (kG v w))∧TT 2 ((kG v w) = (kG v w)∧True))) (.w 1 [(2,.val (dI .u64 w)),(3,.val (i6 (2 ^ w.toNat))),(4,.val (i6 ((2 ^ w.toNat) - 1))),(5,.val (i6 (kG v w)))] <| .e) Try.func58 rfl rfl rfl (by kernel_rfl) ?_
 exact tt ⟨⟨oK,Cy rfl om om⟩,⟨sh,⟨(w6 (by have := kf (n := w.toNat) (by omega); omega) (by have := kf (n := w.toNat) (by omega); omega)),⟨⟨oK,(by unfold kG; rw [if_pos ⟨h1,h2⟩]; exact kC (by omega))⟩,tt ⟨rfl,oK⟩⟩⟩⟩⟩
def iR (c : Ci) (k : ByteArray) : Nat → Pr
 | 0 => af
 | j + 1 => if (kg c j).toList == k.toList then c.procs.getD j af else iR c k j
theorem w5 {c : Ci} {k : ByteArray} {j : Nat} (h : ((kg c j).toList == k.toList) = true) : iR c k (j + 1) = c.procs.getD j af := by rw [iR, if_pos h]
theorem z8 {c : Ci} {k : ByteArray} {j : Nat} (h : ((kg c j).toList == k.toList) = false) : iR c k j = iR c k (j + 1) := by rw [iR, if_neg (by rw [h]; exact Bool.false_ne_true)]
def rU (x : Ch) : Int := if x.cap = 0 then 8 else x.cap
theorem jV {x : Ch} (h : x.cap = 0) : rU x = 8 := by rw [rU, if_pos h]
theorem jW {x : Ch} (h : ¬x.cap = 0) : rU x = x.cap := by rw [rU, if_neg h]
def t6 (o n : Ci) (i : Nat) : Int := (n.chans.getD (ah 0 (jL n) (a6 o i)).toNat ax).cap
def mq (o n : Ci) (i : Nat) : Bool := !(decide (0 < t6 o n i) && decide (t6 o n i < rU (o.chans.getD i ax)))
def kh (o n : Ci) (i : Nat) : Bool := iQ (o.procs.getD i af) (iR n (kg o i) n.procs.length)
def cP (o n : Ci) : Bool := (aK o n o.chans.length).isEmpty && (cF (mq o n) o.chans.length && cF (kh o n) o.procs.length)
theorem jk {o n : Ci} (h : 0 < (aK o n o.chans.length).length) : cP o n = false := by
 unfold cP; cases hm : aK o n o.chans.length with
 | nil => rw [hm] at h; simp at h
 | cons a l => rfl
theorem jl {o n : Ci} {i : Nat} (hi : i < o.chans.length) (h1 : 0 < t6 o n i) (h2 : t6 o n i < rU (o.chans.getD i ax)) : cP o n = false := by
 unfold cP; rw [dP hi (show mq o n i = false by unfold mq; rw [decide_eq_true h1, decide_eq_true h2]; rfl), Bool.false_and, Bool.and_false]
theorem gL {o n : Ci} {i : Nat} (hi : i < o.procs.length) (h : kh o n i = false) : cP o n = false := by
 unfold cP; rw [dP hi h, Bool.and_false, Bool.and_false]
theorem jm {o n : Ci} (h1 : ¬0 < (aK o n o.chans.length).length) (h2 : ∀ i, i < o.chans.length → mq o n i = true) (h3 : ∀ i, i < o.procs.length → kh o n i = true) : cP o n = true := by
 have e : aK o n o.chans.length = [] := List.eq_nil_of_length_eq_zero (by omega)
 unfold cP; rw [e, bi.2 h2, bi.2 h3]; rfl
theorem vC {o n : Ci} {i : Nat} (h : ¬0 < t6 o n i) : mq o n i = true := by unfold mq; rw [decide_eq_false h]; rfl
theorem vD {o n : Ci} {i : Nat} (h : ¬t6 o n i < rU (o.chans.getD i ax)) : mq o n i = true := by unfold mq; rw [decide_eq_false h, Bool.and_false]; rfl
theorem t7 {o n : Ci} : ∀ {k : Nat}, aK o n k = [] → ∀ i, i < k → ff o n i = false
 | 0, _, i, hi => by omega
 | k + 1, h, i, hi => by
  rw [aK] at h
  have h' := List.append_eq_nil_iff.1 h
  rcases Nat.lt_or_ge i k with hk | hk
  ·exact t7 h'.1 i hk
  ·have : i = k := by omega
   subst this
   cases hp : ff o n i
   ·rfl
   ·rw [hp] at h'; simp at h'
theorem BA {o n : Ci} {i : Nat} (h : ff o n i = false) : aW (jL n) (a6 o i) = true ∧ (n.chans.getD (ah 0 (jL n) (a6 o i)).toNat ax).w = (o.chans.getD i ax).w := by
 unfold ff at h
 rw [Bool.or_eq_false_iff] at h
 simpa using h
theorem DI {o n : Ci} (h : ¬(((aK o n o.chans.length).length : Nat) : Int) > 0) {k : Nat} (hk : k < o.chans.length) : 0 ≤ ah 0 (bW [] (a6 n) n.chans.length) (o.chans.getD k ax).name ∧ ah 0 (bW [] (a6 n) n.chans.length) (o.chans.getD k ax).name < (n.chans.length : Int) :=
 tW (f := a6 n) n.chans.length (BA (t7 (List.eq_nil_of_length_eq_zero (by omega)) k hk)).1
def FS (p : Pr) : Prop := p.regs.length ≤ 1000000 ∧ p.mems.length ≤ 1000000
theorem Aa {c : Ci} {k : ByteArray} (h : ∀ j, j < c.procs.length → FS (c.procs.getD j af)) : ∀ r, r ≤ c.procs.length → FS (iR c k r)
 | 0, _ => ⟨by simp [iR], by simp [iR]⟩
 | r + 1, hr => by
  rw [iR]
  split
  ·exact h r (by omega)
  ·exact Aa h r (by omega)
end Go.Proofs.Ytnlmlkbaflmgcaa
