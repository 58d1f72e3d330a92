/-
  Package migrate, plain data: nothing is lost.
-/
import Derived.Test.YtnlmlkbaflmgcaaQMiF
namespace Go.Proofs.Ytnlmlkbaflmgcaa
open Go.RowKit
set_option linter.unusedVariables false
set_option linter.unusedSimpArgs false
set_option maxRecDepth 100000
abbrev KY (v w : Int) : Ct := ⟨58,[(i6 v),(i6 w)],false,(i6 (kx v w))⟩
theorem H2 (v w : Int) (h1 : 0 ≤ w) (h2 : w ≤ 62) : CC (KY v w) := by
 refine aq.vc (V := TT 3 ((True∧IntKind.u64.wrap w = w)∧SH w∧W6 ((2 ^ w.toNat) - 1)∧(True∧(IntKind.wrap .i64 (BitVec.ofInt (IntKind.i64).bits v &&& BitVec.ofInt (IntKind.i64).bits ((2 ^ w.toNat) - 1)).toNat) = (kx v w))∧TT 2 ((kx v w) = (kx v w)∧True))) (.w 1 [(2,.val (dI .u64 w)),(3,.val (i6 (2 ^ w.toNat))),(4,.val (i6 ((2 ^ w.toNat) - 1))),(5,.val (i6 (kx v w)))] <| .e) Try.func58 rfl rfl rfl (by kernel_rfl) ?_
 exact tt ⟨⟨oK,Bz rfl om om⟩,⟨sh,⟨(w6 (by have := kN (n := w.toNat) (by omega); omega) (by have := kN (n := w.toNat) (by omega); omega)),⟨⟨oK,(by unfold kx; rw [if_pos ⟨h1,h2⟩]; exact kM (by omega))⟩,tt ⟨rfl,oK⟩⟩⟩⟩⟩
def fw (c : Ci) (k : ByteArray) : Nat → Pr
 | 0 => ac
 | j + 1 => if (fu c j).toList == k.toList then c.procs.getD j ac else fw c k j
theorem xi {c : Ci} {k : ByteArray} {j : Nat} (h : ((fu c j).toList == k.toList) = true) : fw c k (j + 1) = c.procs.getD j ac := by rw [fw, if_pos h]
theorem AA {c : Ci} {k : ByteArray} {j : Nat} (h : ((fu c j).toList == k.toList) = false) : fw c k j = fw c k (j + 1) := by rw [fw, if_neg (by rw [h]; exact Bool.false_ne_true)]
def qf (x : Ch) : Int := if x.cap = 0 then 8 else x.cap
theorem i7 {x : Ch} (h : x.cap = 0) : qf x = 8 := by rw [qf, if_pos h]
theorem il {x : Ch} (h : ¬x.cap = 0) : qf x = x.cap := by rw [qf, if_neg h]
def sk (o n : Ci) (i : Nat) : Int := (n.chans.getD (ah 0 (jj n) (be o i)).toNat aB).cap
def kv (o n : Ci) (i : Nat) : Bool := !(decide (0 < sk o n i) && decide (sk o n i < qf (o.chans.getD i aB)))
def iR (o n : Ci) (i : Nat) : Bool := fv (o.procs.getD i ac) (fw n (fu o i) n.procs.length)
def bQ (o n : Ci) : Bool := (a7 o n o.chans.length).isEmpty && (b4 (kv o n) o.chans.length && b4 (iR o n) o.procs.length)
theorem jn {o n : Ci} (h : 0 < (a7 o n o.chans.length).length) : bQ o n = false := by
 unfold bQ; cases hm : a7 o n o.chans.length with
 | nil => rw [hm] at h; simp at h
 | cons a l => rfl
theorem jo {o n : Ci} {i : Nat} (hi : i < o.chans.length) (h1 : 0 < sk o n i) (h2 : sk o n i < qf (o.chans.getD i aB)) : bQ o n = false := by
 unfold bQ; rw [dq hi (show kv o n i = false by unfold kv; rw [decide_eq_true h1, decide_eq_true h2]; rfl), Bool.false_and, Bool.and_false]
theorem gP {o n : Ci} {i : Nat} (hi : i < o.procs.length) (h : iR o n i = false) : bQ o n = false := by
 unfold bQ; rw [dq hi h, Bool.and_false, Bool.and_false]
theorem jp {o n : Ci} (h1 : ¬0 < (a7 o n o.chans.length).length) (h2 : ∀ i, i < o.chans.length → kv o n i = true) (h3 : ∀ i, i < o.procs.length → iR o n i = true) : bQ o n = true := by
 have e : a7 o n o.chans.length = [] := List.eq_nil_of_length_eq_zero (by omega)
 unfold bQ; rw [e, aR.2 h2, aR.2 h3]; rfl
theorem vO {o n : Ci} {i : Nat} (h : ¬0 < sk o n i) : kv o n i = true := by unfold kv; rw [decide_eq_false h]; rfl
theorem vP {o n : Ci} {i : Nat} (h : ¬sk o n i < qf (o.chans.getD i aB)) : kv o n i = true := by unfold kv; rw [decide_eq_false h, Bool.and_false]; rfl
theorem uw {o n : Ci} : ∀ {k : Nat}, a7 o n k = [] → ∀ i, i < k → ij o n i = false
 | 0, _, i, hi => by omega
 | k + 1, h, i, hi => by
  rw [a7] at h
  have h' := List.append_eq_nil_iff.1 h
  rcases Nat.lt_or_ge i k with hk | hk
  ·exact uw h'.1 i hk
  ·have : i = k := by omega
   subst this
   cases hp : ij o n i
   ·rfl
   ·rw [hp] at h'; simp at h'
theorem BV {o n : Ci} {i : Nat} (h : ij o n i = false) : aY (jj n) (be o i) = true ∧ (n.chans.getD (ah 0 (jj n) (be o i)).toNat aB).w = (o.chans.getD i aB).w := by
 unfold ij at h
 rw [Bool.or_eq_false_iff] at h
 simpa using h
theorem D3 {o n : Ci} (h : ¬(((a7 o n o.chans.length).length : Nat) : Int) > 0) {k : Nat} (hk : k < o.chans.length) : 0 ≤ ah 0 (b3 [] (be n) n.chans.length) (o.chans.getD k aB).name ∧ ah 0 (b3 [] (be n) n.chans.length) (o.chans.getD k aB).name < (n.chans.length : Int) :=
 ug (f := be n) n.chans.length (BV (uw (List.eq_nil_of_length_eq_zero (by omega)) k hk)).1
def D4 (p : Pr) : Prop := p.regs.length ≤ 1000000 ∧ p.mems.length ≤ 1000000
theorem AB {c : Ci} {k : ByteArray} (h : ∀ j, j < c.procs.length → D4 (c.procs.getD j ac)) : ∀ r, r ≤ c.procs.length → D4 (fw c k r)
 | 0, _ => ⟨by simp [fw], by simp [fw]⟩
 | r + 1, hr => by
  rw [fw]
  split
  ·exact h r (by omega)
  ·exact AB h r (by omega)
end Go.Proofs.Ytnlmlkbaflmgcaa
