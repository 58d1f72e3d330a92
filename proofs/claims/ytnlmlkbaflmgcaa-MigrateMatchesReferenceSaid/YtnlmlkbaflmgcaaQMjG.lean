/-
  Edited circuits, plain data.
-/
import Derived.Test.YtnlmlkbaflmgcaaQMjD
namespace Go.Proofs.Ytnlmlkbaflmgcaa
open Go.RowKit
set_option linter.unusedVariables false
set_option linter.unusedSimpArgs false
def bW (k : Int) : ByteArray := [bs [114], bs [115], bs [109, 101, 109], bs [111, 108, 100], bs [120], bs [109, 101, 109]].getD (k % 6).toNat e0
abbrev Iw : ByteArray := bs [48, 49, 50, 51, 52, 53, 54, 55, 56, 57]
def ct (n : Nat) : ByteArray := Iw.extract (n / 10) (n / 10 + 1) ++ Iw.extract (n % 10) (n % 10 + 1)
theorem oI (k : Int) : (bW k).size ≤ 3 := by
 have : (k % 6).toNat = 0 ∨ (k % 6).toNat = 1 ∨ (k % 6).toNat = 2 ∨ (k % 6).toNat = 3 ∨ (k % 6).toNat = 4 ∨ (k % 6).toNat = 5 := by omega
 unfold bW
 rcases this with h | h | h | h | h | h <;> rw [h] <;> decide
theorem l6 (n : Nat) : (ct n).size ≤ 20 := by
 unfold ct
 rw [ByteArray.size_append, ByteArray.size_extract, ByteArray.size_extract]
 have : Iw.size = 10 := rfl
 omega
def gx (k1 k2 : Int) : ao := ⟨k1 % 4, if 2 ≤ k1 % 4 then bW (k1 / 4) else e0, if k1 % 4 = 3 then k2 - 128 else 0⟩
def oJ (tW : ByteArray) (k2 : Int) (at_ : Nat) (old : ByteArray) : ByteArray := if k2 % 8 = 0 then (tW ++ bW (k2 / 8)) ++ ct at_ else old
def La : ByteArray := bs [114, 101, 103]
def L5 : ByteArray := bs [109, 101, 109]
def Hf : ByteArray := bs [99, 104, 97, 110]
def Hg : ByteArray := bs [112, 114, 111, 99]
def aO (p : Pr) (k0 : Int) : Nat := (k0 % ((p.regs.length + p.mems.length : Nat) : Int)).toNat
def Ix (r : Rg) (k1 k2 : Int) (at_ : Nat) : Rg := { r with rule := gx k1 k2, name := oJ La k2 at_ r.name }
def Iy (m : Mm) (k1 k2 : Int) (at_ : Nat) : Mm := { m with rule := gx k1 k2, name := oJ L5 k2 at_ m.name }
def cF (p : Pr) (k0 k1 k2 : Int) : Pr :=
 if p.regs.length + p.mems.length = 0 then p
 else if aO p k0 < p.regs.length then { p with regs := p.regs.set (aO p k0) (Ix (p.regs.getD (aO p k0) aC) k1 k2 (aO p k0)) }
 else { p with mems := p.mems.set (aO p k0 - p.regs.length) (Iy (p.mems.getD (aO p k0 - p.regs.length) au) k1 k2 (aO p k0)) }
def bv {α : Type} (l : List α) (k : Int) : Nat := (k % (l.length : Int)).toNat
def qf (c : Ci) (b : List Int) (i : Nat) : Ci :=
 if b.getD i 0 % 8 = 0 then
  (if 0 < c.chans.length then ⟨c.procs, c.chans.set (bv c.chans (b.getD (i + 1) 0)) { c.chans.getD (bv c.chans (b.getD (i + 1) 0)) ax with name := Hf ++ ct i }⟩ else c)
 else if b.getD i 0 % 8 = 1 ∨ b.getD i 0 % 8 = 2 then
  (if 0 < c.chans.length ∧ 0 < (c.chans.getD (bv c.chans (b.getD (i + 1) 0)) ax).cap then ⟨c.procs, c.chans.set (bv c.chans (b.getD (i + 1) 0)) { c.chans.getD (bv c.chans (b.getD (i + 1) 0)) ax with cap := 1 + b.getD (i + 2) 0 % 8 }⟩ else c)
 else if b.getD i 0 % 8 = 3 then
  (if 0 < c.procs.length then ⟨c.procs.set (bv c.procs (b.getD (i + 1) 0)) { c.procs.getD (bv c.procs (b.getD (i + 1) 0)) ac with name := Hg ++ ct i }, c.chans⟩ else c)
 else (if 0 < c.procs.length then ⟨c.procs.set (bv c.procs (b.getD (i + 1) 0)) (cF (c.procs.getD (bv c.procs (b.getD (i + 1) 0)) ac) (b.getD (i + 2) 0) (b.getD (i + 3) 0) (b.getD i 0 + b.getD (i + 2) 0)), c.chans⟩ else c)
def sS (c : Ci) (b : List Int) : Nat → Ci
 | 0 => c
 | t + 1 => qf (sS c b t) b (4 * t)
def sT (b : List Int) : Nat := min 6 (b.length / 4)
def cW (c : Ci) (b : List Int) : Ci := sS c b (sT b)
theorem Gm (c : Ci) (b : List Int) (i : Nat) : (qf c b i).chans.length = c.chans.length ∧ (qf c b i).procs.length = c.procs.length := by
 unfold qf
 repeat' split
 all_goals simp
theorem AL (c : Ci) (b : List Int) : ∀ t, (sS c b t).chans.length = c.chans.length ∧ (sS c b t).procs.length = c.procs.length
 | 0 => ⟨rfl, rfl⟩
 | t + 1 => by
  have h := AL c b t
  have h2 := Gm (sS c b t) b (4 * t)
  rw [sS]; omega
theorem xp {c : Ci} {b : List Int} {i : Nat} (h : b.getD i 0 % 8 = 0) (hl : 0 < c.chans.length) : qf c b i = ⟨c.procs, c.chans.set (bv c.chans (b.getD (i + 1) 0)) { c.chans.getD (bv c.chans (b.getD (i + 1) 0)) ax with name := Hf ++ ct i }⟩ := by
 unfold qf; rw [if_pos h, if_pos hl]
theorem nx {c : Ci} {b : List Int} {i : Nat} (h : b.getD i 0 % 8 = 0) (hl : ¬0 < c.chans.length) : qf c b i = c := by
 unfold qf; rw [if_pos h, if_neg hl]
theorem xq {c : Ci} {b : List Int} {i : Nat} (h : b.getD i 0 % 8 = 1 ∨ b.getD i 0 % 8 = 2) (hl : 0 < c.chans.length) (h2 : 0 < (c.chans.getD (bv c.chans (b.getD (i + 1) 0)) ax).cap) : qf c b i = ⟨c.procs, c.chans.set (bv c.chans (b.getD (i + 1) 0)) { c.chans.getD (bv c.chans (b.getD (i + 1) 0)) ax with cap := 1 + b.getD (i + 2) 0 % 8 }⟩ := by
 unfold qf; rw [if_neg (by omega), if_pos h, if_pos ⟨hl, h2⟩]
theorem ny {c : Ci} {b : List Int} {i : Nat} (h : b.getD i 0 % 8 = 1 ∨ b.getD i 0 % 8 = 2) (hl : ¬(0 < c.chans.length ∧ 0 < (c.chans.getD (bv c.chans (b.getD (i + 1) 0)) ax).cap)) : qf c b i = c := by
 unfold qf; rw [if_neg (by omega), if_pos h, if_neg hl]
theorem xr {c : Ci} {b : List Int} {i : Nat} (h : b.getD i 0 % 8 = 3) (hl : 0 < c.procs.length) : qf c b i = ⟨c.procs.set (bv c.procs (b.getD (i + 1) 0)) { c.procs.getD (bv c.procs (b.getD (i + 1) 0)) ac with name := Hg ++ ct i }, c.chans⟩ := by
 unfold qf; rw [if_neg (by omega), if_neg (by omega), if_pos h, if_pos hl]
theorem nz {c : Ci} {b : List Int} {i : Nat} (h : b.getD i 0 % 8 = 3) (hl : ¬0 < c.procs.length) : qf c b i = c := by
 unfold qf; rw [if_neg (by omega), if_neg (by omega), if_pos h, if_neg hl]
theorem xt {c : Ci} {b : List Int} {i : Nat} (h : ¬b.getD i 0 % 8 = 0) (h1 : ¬b.getD i 0 % 8 = 1) (h2 : ¬b.getD i 0 % 8 = 2) (h3 : ¬b.getD i 0 % 8 = 3) (hl : 0 < c.procs.length) : qf c b i = ⟨c.procs.set (bv c.procs (b.getD (i + 1) 0)) (cF (c.procs.getD (bv c.procs (b.getD (i + 1) 0)) ac) (b.getD (i + 2) 0) (b.getD (i + 3) 0) (b.getD i 0 + b.getD (i + 2) 0)), c.chans⟩ := by
 unfold qf; rw [if_neg h, if_neg (by omega), if_neg h3, if_pos hl]
theorem nA {c : Ci} {b : List Int} {i : Nat} (h : ¬b.getD i 0 % 8 = 0) (h1 : ¬b.getD i 0 % 8 = 1) (h2 : ¬b.getD i 0 % 8 = 2) (h3 : ¬b.getD i 0 % 8 = 3) (hl : ¬0 < c.procs.length) : qf c b i = c := by
 unfold qf; rw [if_neg h, if_neg (by omega), if_neg h3, if_neg hl]
theorem xu {p : Pr} {k0 k1 k2 : Int} (h : p.regs.length + p.mems.length = 0) : cF p k0 k1 k2 = p := by unfold cF; rw [if_pos h]
theorem mQ {p : Pr} {k0 k1 k2 : Int} (h : ¬p.regs.length + p.mems.length = 0) (h2 : aO p k0 < p.regs.length) : cF p k0 k1 k2 = { p with regs := p.regs.set (aO p k0) (Ix (p.regs.getD (aO p k0) aC) k1 k2 (aO p k0)) } := by
 unfold cF; rw [if_neg h, if_pos h2]
theorem mR {p : Pr} {k0 k1 k2 : Int} (h : ¬p.regs.length + p.mems.length = 0) (h2 : ¬aO p k0 < p.regs.length) : cF p k0 k1 k2 = { p with mems := p.mems.set (aO p k0 - p.regs.length) (Iy (p.mems.getD (aO p k0 - p.regs.length) au) k1 k2 (aO p k0)) } := by
 unfold cF; rw [if_neg h, if_neg h2]
theorem eL {α : Type} {l : List α} (k : Int) (h : 0 < l.length) : bv l k < l.length := by
 have := Int.emod_nonneg k (show (l.length : Int) ≠ 0 by omega)
 have := Int.emod_lt_of_pos k (show (0 : Int) < l.length by omega)
 unfold bv; omega
theorem vU {p : Pr} (k : Int) (h : ¬p.regs.length + p.mems.length = 0) : aO p k < p.regs.length + p.mems.length := by
 have := Int.emod_nonneg k (show ((p.regs.length + p.mems.length : Nat) : Int) ≠ 0 by omega)
 have := Int.emod_lt_of_pos k (show (0 : Int) < ((p.regs.length + p.mems.length : Nat) : Int) by omega)
 unfold aO; omega
theorem Gn {p : Pr} {k : Int} (h0 : 0 ≤ k) : Int.tmod k ((p.regs.length + p.mems.length : Nat) : Int) = ((aO p k : Nat) : Int) := by
 rw [Int.tmod_eq_emod_of_nonneg h0]
 unfold aO
 by_cases h : p.regs.length + p.mems.length = 0
 ·rw [h]; simp; omega
 ·have := Int.emod_nonneg k (show ((p.regs.length + p.mems.length : Nat) : Int) ≠ 0 by omega)
  omega
theorem ld {α : Type} {l : List α} {k : Int} (h0 : 0 ≤ k) : Int.tmod k (l.length : Int) = ((bv l k : Nat) : Int) := by
 rw [Int.tmod_eq_emod_of_nonneg h0]
 unfold bv
 by_cases h : l.length = 0
 ·rw [h]; simp; omega
 ·have := Int.emod_nonneg k (show (l.length : Int) ≠ 0 by omega)
  omega
theorem vV {α : Type} {l : List α} {i : Nat} {x d : α} (h : i < l.length) : (l.set i x).getD i d = x := by
 rw [bS _ _ (by rw [List.length_set]; exact h), List.getElem_set_self]
theorem vW (p : Pr) (k0 k1 k2 : Int) : (cF p k0 k1 k2).regs.length = p.regs.length ∧ (cF p k0 k1 k2).mems.length = p.mems.length := by
 unfold cF
 repeat' split
 all_goals simp
def E8 (p : Pr) : Prop := p.regs.length + p.mems.length ≤ 100
theorem ur {l : List Pr} {i j : Nat} {x : Pr} (hi : i < l.length) (P : Pr → Prop) (hx : P x) (hj : P (l.getD j ac)) : P ((l.set i x).getD j ac) := by
 by_cases e : i = j
 ·subst e; rw [vV hi]; exact hx
 ·rw [List.getD_eq_getElem?_getD, List.getElem?_set_ne e, ← List.getD_eq_getElem?_getD]; exact hj
theorem Iz {c : Ci} {b : List Int} {i : Nat} (h : ∀ j, E8 (c.procs.getD j ac)) : ∀ j, E8 ((qf c b i).procs.getD j ac) := by
 intro j
 unfold qf
 repeat' split
 all_goals first | exact h j | skip
 ·rename_i hl
  exact ur (eL _ hl) E8 (h _) (h j)
 ·rename_i hl
  exact ur (eL _ hl) E8 (by have := vW (c.procs.getD (bv c.procs (b.getD (i + 1) 0)) ac) (b.getD (i + 2) 0) (b.getD (i + 3) 0) (b.getD i 0 + b.getD (i + 2) 0); have := h (bv c.procs (b.getD (i + 1) 0)); unfold E8 at *; omega) (h j)
theorem Ey {c : Ci} {b : List Int} (h : ∀ j, E8 (c.procs.getD j ac)) : ∀ t j, E8 ((sS c b t).procs.getD j ac)
 | 0 => h
 | t + 1 => Iz (Ey h t)
end Go.Proofs.Ytnlmlkbaflmgcaa
