/-
  The reference of package migrate: whether nothing is lost, plain data.
-/
import Derived.Test.YtnlmlkbaflmgcaaQMiW
namespace Go.Proofs.Ytnlmlkbaflmgcaa
open Go.RowKit
set_option linter.unusedVariables false
set_option linter.unusedSimpArgs false
def gS (c : Ci) (k : ByteArray) : Int := af (fun i => (c.procs.getD i ac).name.toList == k.toList) c.procs.length
def yJ (o n : Ci) (i : Nat) : Int := (n.chans.getD (iA n (bk o i)).toNat ax).cap
def r9 (o n : Ci) (i : Nat) : Bool := !(decide (0 < yJ o n i) && decide (yJ o n i < i4 (o.chans.getD i ax)))
def mz (o n : Ci) (i : Nat) : Bool := if gS n (eG o i) < 0 then decide ¬(((o.procs.getD i ac).regs.length : Int) + ((o.procs.getD i ac).mems.length : Int) > 0) else ug (o.procs.getD i ac) (n.procs.getD (gS n (eG o i)).toNat ac)
def kk (o n : Ci) : Bool := (eY o n o.chans.length).isEmpty && (cJ (r9 o n) o.chans.length && cJ (mz o n) o.procs.length)
theorem lW {o n : Ci} (h : 0 < (eY o n o.chans.length).length) : kk o n = false := by
 unfold kk; cases hm : eY o n o.chans.length with
 | nil => rw [hm] at h; simp at h
 | cons a l => rfl
theorem lX {o n : Ci} {i : Nat} (hi : i < o.chans.length) (h1 : 0 < yJ o n i) (h2 : yJ o n i < i4 (o.chans.getD i ax)) : kk o n = false := by
 unfold kk; rw [dC hi (show r9 o n i = false by unfold r9; rw [decide_eq_true h1, decide_eq_true h2]; rfl), Bool.false_and, Bool.and_false]
theorem lY {o n : Ci} {i : Nat} (hi : i < o.procs.length) (h : mz o n i = false) : kk o n = false := by
 unfold kk; rw [dC hi h, Bool.and_false, Bool.and_false]
theorem lZ {o n : Ci} (h1 : ¬0 < (eY o n o.chans.length).length) (h2 : ∀ i, i < o.chans.length → r9 o n i = true) (h3 : ∀ i, i < o.procs.length → mz o n i = true) : kk o n = true := by
 have e : eY o n o.chans.length = [] := List.eq_nil_of_length_eq_zero (by omega)
 unfold kk; rw [e, bh.2 h2, bh.2 h3]; rfl
theorem G5 {o n : Ci} {i : Nat} (h : ¬0 < yJ o n i) : r9 o n i = true := by unfold r9; rw [decide_eq_false h]; rfl
theorem G6 {o n : Ci} {i : Nat} (h : ¬yJ o n i < i4 (o.chans.getD i ax)) : r9 o n i = true := by unfold r9; rw [decide_eq_false h, Bool.and_false]; rfl
theorem vH {o n : Ci} : ∀ {k : Nat}, eY o n k = [] → ∀ i, i < k → xN o n i = false
 | 0, _, i, hi => by omega
 | k + 1, h, i, hi => by
  rw [eY] at h
  have h' := List.append_eq_nil_iff.1 h
  rcases Nat.lt_or_ge i k with hk | hk
  ·exact vH h'.1 i hk
  ·have : i = k := by omega
   subst this
   cases hp : xN o n i
   ·rfl
   ·rw [hp] at h'; simp at h'
theorem H0 {o n : Ci} (h : ¬(((eY o n o.chans.length).length : Nat) : Int) > 0) {k : Nat} (hk : k < o.chans.length) : 0 ≤ iA n (o.chans.getD k ax).name ∧ iA n (o.chans.getD k ax).name < (n.chans.length : Int) := by
 have he : eY o n o.chans.length = [] := List.eq_nil_of_length_eq_zero (by omega)
 have h0 := vH he k hk
 refine ⟨?_, bz⟩
 refine Int.not_lt.1 fun hn => ?_
 rw [FW (show iA n (bk o k) < 0 from hn)] at h0
 cases h0
end Go.Proofs.Ytnlmlkbaflmgcaa
