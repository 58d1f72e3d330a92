/-
  The laws of networks, plain data: what one firing leaves to another.
-/
import Derived.Test.YtifoecfajmnjjaaGreatQNeU
namespace Go.Proofs.YtifoecfajmnjjaaGreat
open Go.RowKit
set_option linter.unusedVariables false
set_option linter.unusedSimpArgs false
def aI (k : Int) (c : Ci) : Nat := (k % (c.procs.length : Int)).toNat
section
variable {c : Ci} {s : Ns}
theorem sW (hc : bo c) {k : Int} (hk : 0 ≤ k) : Int.tmod k (c.procs.length : Int) = (aI k c : Int) := by
 have := hc.n1
 rw [Int.tmod_eq_emod_of_nonneg hk]
 unfold aI
 have := Int.emod_nonneg k (show (c.procs.length : Int) ≠ 0 by omega)
 omega
theorem sX (hc : bo c) {k : Int} (hk : 0 ≤ k) : aI k c < c.procs.length := by
 have := hc.n1
 unfold aI
 have := Int.emod_nonneg k (show (c.procs.length : Int) ≠ 0 by omega)
 have := Int.emod_lt_of_pos k (show (0 : Int) < c.procs.length by omega)
 omega
theorem xj (hc : bo c) {p q : Nat} (hp : p < c.procs.length) (h1 : bp c s (p : Int) = true) (hpq : ¬(p : Int) = (q : Int)) : bp c (ak c s (bz (q : Int))) (p : Int) = true := by
 rw [dZ hp] at h1 ⊢
 rw [fx]
 exact pH hc hp h1 (i4 (fun e => hpq (by rw [e])))
theorem yH (hc : bo c) {p q : Nat} (hp : p < c.procs.length) (h1 : bp c s (p : Int) = true) (hpq : ¬(p : Int) = (q : Int)) : ac c (ak c s (bz (q : Int))) p = ac c s p ∧ xw (ak c s (bz (q : Int))) p = xw s p := by
 rw [dZ hp] at h1
 rw [fx]
 exact wG hc hp h1 (i4 (fun e => hpq (by rw [e])))
theorem Aj (hc : bo c) {p q : Nat} (hp : p < c.procs.length) (hq : q < c.procs.length) (h1 : bp c s (p : Int) = true) (h2 : bp c s (q : Int) = true) (hpq : ¬(p : Int) = (q : Int)) :
  ak c (ak c s (bz (p : Int))) (bz (q : Int)) = ak c (ak c s (bz (q : Int))) (bz (p : Int)) := by
 rw [dZ hp] at h1
 rw [dZ hq] at h2
 rw [fx, fx]
 have hne : p ≠ q := fun e => hpq (by rw [e])
 exact zN hc hp hq hne h1 h2
theorem xk (hc : bo c) (hs : bN c s) {p : Nat} (hp : p < c.procs.length) : (ac c s p).s.regs.length ≤ 9223372036854775807 ∧ (ac c s p).s.mems.length ≤ 9223372036854775807 ∧ (∀ i, ((ac c s p).s.mems.getD i []).length ≤ 9223372036854775807) ∧ (ac c s p).pops.length ≤ 9223372036854775807 ∧ (ac c s p).puts.length ≤ 9223372036854775807 := by
 have hpr := hc.pr p hp
 have h := qF (hs := cT c s p) (rs := dK c s p) hpr (hs.pv p hp) (oM hc hs hp)
 have h1 := hpr.rl
 have h2 := hpr.ml
 have h3 := hpr.tl
 have h4 := hpr.pl
 have e1 := h.rl
 have e2 := h.ml
 refine ⟨?_, ?_, fun i => ?_, ?_, ?_⟩
 ·show (aY _ _ _ _).s.regs.length ≤ _; omega
 ·show (aY _ _ _ _).s.mems.length ≤ _; omega
 ·by_cases hi : i < (aB c p).mems.length
  ·have h5 := h.mn i hi
   have h6 := (hpr.mw i hi).2.1
   have h7 : (((ac c s p).s.mems.getD i []).length : Int) = (mK (aB c p) i).words := h5
   omega
  ·rw [show (ac c s p).s.mems.getD i [] = [] from by
    rw [List.getD, List.getElem?_eq_none (by show (aY _ _ _ _).s.mems.length ≤ i; omega)]; rfl]
   simp
 ·show (aY _ _ _ _).pops.length ≤ _; rw [eZ]; omega
 ·show (aY _ _ _ _).puts.length ≤ _; rw [e7]; omega
theorem cX (hz : EX s) (i : Nat) : (s.procs.getD i aU).regs.length ≤ 9223372036854775807 ∧ (s.procs.getD i aU).mems.length ≤ 9223372036854775807 ∧ ∀ j, ((s.procs.getD i aU).mems.getD j []).length ≤ 9223372036854775807 := by
 obtain ⟨_, _, _, h4, h5, h6⟩ := hz
 exact ⟨Nat.le_trans (h4 i) (by omega), Nat.le_trans (h5 i) (by omega), fun j => Nat.le_trans (h6 i j) (by omega)⟩
end
end Go.Proofs.YtifoecfajmnjjaaGreat
