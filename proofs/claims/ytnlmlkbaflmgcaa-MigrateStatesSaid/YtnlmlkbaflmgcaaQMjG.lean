/-
  Edited circuits, plain data.
-/
import Derived.Test.YtnlmlkbaflmgcaaQMjD
namespace Go.Proofs.Ytnlmlkbaflmgcaa
open Go.RowKit
set_option linter.unusedVariables false
set_option linter.unusedSimpArgs false
def bQ (k : Int) : ByteArray := [bs [114], bs [115], bs [109, 101, 109], bs [111, 108, 100], bs [120], bs [109, 101, 109]].getD (k % 6).toNat e0
abbrev H3 : ByteArray := bs [48, 49, 50, 51, 52, 53, 54, 55, 56, 57]
def cf (n : Nat) : ByteArray := H3.extract (n / 10) (n / 10 + 1) ++ H3.extract (n % 10) (n % 10 + 1)
theorem oB (k : Int) : (bQ k).size ≤ 3 := by
 have : (k % 6).toNat = 0 ∨ (k % 6).toNat = 1 ∨ (k % 6).toNat = 2 ∨ (k % 6).toNat = 3 ∨ (k % 6).toNat = 4 ∨ (k % 6).toNat = 5 := by omega
 unfold bQ
 rcases this with h | h | h | h | h | h <;> rw [h] <;> decide
theorem lG (n : Nat) : (cf n).size ≤ 20 := by
 unfold cf
 rw [ByteArray.size_append, ByteArray.size_extract, ByteArray.size_extract]
 have : H3.size = 10 := rfl
 omega
def fW (k1 k2 : Int) : ao := ⟨k1 % 4, if 2 ≤ k1 % 4 then bQ (k1 / 4) else e0, if k1 % 4 = 3 then k2 - 128 else 0⟩
def oC (tQ : ByteArray) (k2 : Int) (at_ : Nat) (old : ByteArray) : ByteArray := if k2 % 8 = 0 then (tQ ++ bQ (k2 / 8)) ++ cf at_ else old
def KG : ByteArray := bs [114, 101, 103]
def Ly : ByteArray := bs [109, 101, 109]
def GZ : ByteArray := bs [99, 104, 97, 110]
def G0 : ByteArray := bs [112, 114, 111, 99]
def aQ (p : Pr) (k0 : Int) : Nat := (k0 % ((p.regs.length + p.mems.length : Nat) : Int)).toNat
def H4 (r : Rg) (k1 k2 : Int) (at_ : Nat) : Rg := { r with rule := fW k1 k2, name := oC KG k2 at_ r.name }
def H5 (m : Mm) (k1 k2 : Int) (at_ : Nat) : Mm := { m with rule := fW k1 k2, name := oC Ly k2 at_ m.name }
def cy (p : Pr) (k0 k1 k2 : Int) : Pr :=
 if p.regs.length + p.mems.length = 0 then p
 else if aQ p k0 < p.regs.length then { p with regs := p.regs.set (aQ p k0) (H4 (p.regs.getD (aQ p k0) aO) k1 k2 (aQ p k0)) }
 else { p with mems := p.mems.set (aQ p k0 - p.regs.length) (H5 (p.mems.getD (aQ p k0 - p.regs.length) aB) k1 k2 (aQ p k0)) }
def bu {α : Type} (l : List α) (k : Int) : Nat := (k % (l.length : Int)).toNat
def p5 (c : Ci) (b : List Int) (i : Nat) : Ci :=
 if b.getD i 0 % 8 = 0 then
  (if 0 < c.chans.length then ⟨c.procs, c.chans.set (bu c.chans (b.getD (i + 1) 0)) { c.chans.getD (bu c.chans (b.getD (i + 1) 0)) ax with name := GZ ++ cf i }⟩ else c)
 else if b.getD i 0 % 8 = 1 ∨ b.getD i 0 % 8 = 2 then
  (if 0 < c.chans.length ∧ 0 < (c.chans.getD (bu c.chans (b.getD (i + 1) 0)) ax).cap then ⟨c.procs, c.chans.set (bu c.chans (b.getD (i + 1) 0)) { c.chans.getD (bu c.chans (b.getD (i + 1) 0)) ax with cap := 1 + b.getD (i + 2) 0 % 8 }⟩ else c)
 else if b.getD i 0 % 8 = 3 then
  (if 0 < c.procs.length then ⟨c.procs.set (bu c.procs (b.getD (i + 1) 0)) { c.procs.getD (bu c.procs (b.getD (i + 1) 0)) af with name := G0 ++ cf i }, c.chans⟩ else c)
 else (if 0 < c.procs.length then ⟨c.procs.set (bu c.procs (b.getD (i + 1) 0)) (cy (c.procs.getD (bu c.procs (b.getD (i + 1) 0)) af) (b.getD (i + 2) 0) (b.getD (i + 3) 0) (b.getD i 0 + b.getD (i + 2) 0)), c.chans⟩ else c)
def sM (c : Ci) (b : List Int) : Nat → Ci
 | 0 => c
 | t + 1 => p5 (sM c b t) b (4 * t)
def sN (b : List Int) : Nat := min 6 (b.length / 4)
def cT (c : Ci) (b : List Int) : Ci := sM c b (sN b)
theorem Ga (c : Ci) (b : List Int) (i : Nat) : (p5 c b i).chans.length = c.chans.length ∧ (p5 c b i).procs.length = c.procs.length := by
 unfold p5
 repeat' split
 all_goals simp
theorem Av (c : Ci) (b : List Int) : ∀ t, (sM c b t).chans.length = c.chans.length ∧ (sM c b t).procs.length = c.procs.length
 | 0 => ⟨rfl, rfl⟩
 | t + 1 => by
  have h := Av c b t
  have h2 := Ga (sM c b t) b (4 * t)
  rw [sM]; omega
theorem xl {c : Ci} {b : List Int} {i : Nat} (h : b.getD i 0 % 8 = 0) (hl : 0 < c.chans.length) : p5 c b i = ⟨c.procs, c.chans.set (bu c.chans (b.getD (i + 1) 0)) { c.chans.getD (bu c.chans (b.getD (i + 1) 0)) ax with name := GZ ++ cf i }⟩ := by
 unfold p5; rw [if_pos h, if_pos hl]
theorem na {c : Ci} {b : List Int} {i : Nat} (h : b.getD i 0 % 8 = 0) (hl : ¬0 < c.chans.length) : p5 c b i = c := by
 unfold p5; rw [if_pos h, if_neg hl]
theorem xm {c : Ci} {b : List Int} {i : Nat} (h : b.getD i 0 % 8 = 1 ∨ b.getD i 0 % 8 = 2) (hl : 0 < c.chans.length) (h2 : 0 < (c.chans.getD (bu c.chans (b.getD (i + 1) 0)) ax).cap) : p5 c b i = ⟨c.procs, c.chans.set (bu c.chans (b.getD (i + 1) 0)) { c.chans.getD (bu c.chans (b.getD (i + 1) 0)) ax with cap := 1 + b.getD (i + 2) 0 % 8 }⟩ := by
 unfold p5; rw [if_neg (by omega), if_pos h, if_pos ⟨hl, h2⟩]
theorem nb {c : Ci} {b : List Int} {i : Nat} (h : b.getD i 0 % 8 = 1 ∨ b.getD i 0 % 8 = 2) (hl : ¬(0 < c.chans.length ∧ 0 < (c.chans.getD (bu c.chans (b.getD (i + 1) 0)) ax).cap)) : p5 c b i = c := by
 unfold p5; rw [if_neg (by omega), if_pos h, if_neg hl]
theorem xn {c : Ci} {b : List Int} {i : Nat} (h : b.getD i 0 % 8 = 3) (hl : 0 < c.procs.length) : p5 c b i = ⟨c.procs.set (bu c.procs (b.getD (i + 1) 0)) { c.procs.getD (bu c.procs (b.getD (i + 1) 0)) af with name := G0 ++ cf i }, c.chans⟩ := by
 unfold p5; rw [if_neg (by omega), if_neg (by omega), if_pos h, if_pos hl]
theorem nc {c : Ci} {b : List Int} {i : Nat} (h : b.getD i 0 % 8 = 3) (hl : ¬0 < c.procs.length) : p5 c b i = c := by
 unfold p5; rw [if_neg (by omega), if_neg (by omega), if_pos h, if_neg hl]
theorem xo {c : Ci} {b : List Int} {i : Nat} (h : ¬b.getD i 0 % 8 = 0) (h1 : ¬b.getD i 0 % 8 = 1) (h2 : ¬b.getD i 0 % 8 = 2) (h3 : ¬b.getD i 0 % 8 = 3) (hl : 0 < c.procs.length) : p5 c b i = ⟨c.procs.set (bu c.procs (b.getD (i + 1) 0)) (cy (c.procs.getD (bu c.procs (b.getD (i + 1) 0)) af) (b.getD (i + 2) 0) (b.getD (i + 3) 0) (b.getD i 0 + b.getD (i + 2) 0)), c.chans⟩ := by
 unfold p5; rw [if_neg h, if_neg (by omega), if_neg h3, if_pos hl]
theorem nf {c : Ci} {b : List Int} {i : Nat} (h : ¬b.getD i 0 % 8 = 0) (h1 : ¬b.getD i 0 % 8 = 1) (h2 : ¬b.getD i 0 % 8 = 2) (h3 : ¬b.getD i 0 % 8 = 3) (hl : ¬0 < c.procs.length) : p5 c b i = c := by
 unfold p5; rw [if_neg h, if_neg (by omega), if_neg h3, if_neg hl]
theorem xp {p : Pr} {k0 k1 k2 : Int} (h : p.regs.length + p.mems.length = 0) : cy p k0 k1 k2 = p := by unfold cy; rw [if_pos h]
theorem mu {p : Pr} {k0 k1 k2 : Int} (h : ¬p.regs.length + p.mems.length = 0) (h2 : aQ p k0 < p.regs.length) : cy p k0 k1 k2 = { p with regs := p.regs.set (aQ p k0) (H4 (p.regs.getD (aQ p k0) aO) k1 k2 (aQ p k0)) } := by
 unfold cy; rw [if_neg h, if_pos h2]
theorem my {p : Pr} {k0 k1 k2 : Int} (h : ¬p.regs.length + p.mems.length = 0) (h2 : ¬aQ p k0 < p.regs.length) : cy p k0 k1 k2 = { p with mems := p.mems.set (aQ p k0 - p.regs.length) (H5 (p.mems.getD (aQ p k0 - p.regs.length) aB) k1 k2 (aQ p k0)) } := by
 unfold cy; rw [if_neg h, if_neg h2]
theorem ey {α : Type} {l : List α} (k : Int) (h : 0 < l.length) : bu l k < l.length := by
 have := Int.emod_nonneg k (show (l.length : Int) ≠ 0 by omega)
 have := Int.emod_lt_of_pos k (show (0 : Int) < l.length by omega)
 unfold bu; omega
theorem vR {p : Pr} (k : Int) (h : ¬p.regs.length + p.mems.length = 0) : aQ p k < p.regs.length + p.mems.length := by
 have := Int.emod_nonneg k (show ((p.regs.length + p.mems.length : Nat) : Int) ≠ 0 by omega)
 have := Int.emod_lt_of_pos k (show (0 : Int) < ((p.regs.length + p.mems.length : Nat) : Int) by omega)
 unfold aQ; omega
theorem Gb {p : Pr} {k : Int} (h0 : 0 ≤ k) : Int.tmod k ((p.regs.length + p.mems.length : Nat) : Int) = ((aQ p k : Nat) : Int) := by
 rw [Int.tmod_eq_emod_of_nonneg h0]
 unfold aQ
 by_cases h : p.regs.length + p.mems.length = 0
 ·rw [h]; simp; omega
 ·have := Int.emod_nonneg k (show ((p.regs.length + p.mems.length : Nat) : Int) ≠ 0 by omega)
  omega
theorem kK {α : Type} {l : List α} {k : Int} (h0 : 0 ≤ k) : Int.tmod k (l.length : Int) = ((bu l k : Nat) : Int) := by
 rw [Int.tmod_eq_emod_of_nonneg h0]
 unfold bu
 by_cases h : l.length = 0
 ·rw [h]; simp; omega
 ·have := Int.emod_nonneg k (show (l.length : Int) ≠ 0 by omega)
  omega
theorem vS {α : Type} {l : List α} {i : Nat} {x d : α} (h : i < l.length) : (l.set i x).getD i d = x := by
 rw [ct _ _ (by rw [List.length_set]; exact h), List.getElem_set_self]
theorem vU (p : Pr) (k0 k1 k2 : Int) : (cy p k0 k1 k2).regs.length = p.regs.length ∧ (cy p k0 k1 k2).mems.length = p.mems.length := by
 unfold cy
 repeat' split
 all_goals simp
def E1 (p : Pr) : Prop := p.regs.length + p.mems.length ≤ 100
theorem ug {l : List Pr} {i j : Nat} {x : Pr} (hi : i < l.length) (P : Pr → Prop) (hx : P x) (hj : P (l.getD j af)) : P ((l.set i x).getD j af) := by
 by_cases e : i = j
 ·subst e; rw [vS hi]; exact hx
 ·rw [List.getD_eq_getElem?_getD, List.getElem?_set_ne e, ← List.getD_eq_getElem?_getD]; exact hj
theorem H6 {c : Ci} {b : List Int} {i : Nat} (h : ∀ j, E1 (c.procs.getD j af)) : ∀ j, E1 ((p5 c b i).procs.getD j af) := by
 intro j
 unfold p5
 repeat' split
 all_goals first | exact h j | skip
 ·rename_i hl
  exact ug (ey _ hl) E1 (h _) (h j)
 ·rename_i hl
  exact ug (ey _ hl) E1 (by have := vU (c.procs.getD (bu c.procs (b.getD (i + 1) 0)) af) (b.getD (i + 2) 0) (b.getD (i + 3) 0) (b.getD i 0 + b.getD (i + 2) 0); have := h (bu c.procs (b.getD (i + 1) 0)); unfold E1 at *; omega) (h j)
theorem Ee {c : Ci} {b : List Int} (h : ∀ j, E1 (c.procs.getD j af)) : ∀ t j, E1 ((sM c b t).procs.getD j af)
 | 0 => h
 | t + 1 => H6 (Ee h t)
end Go.Proofs.Ytnlmlkbaflmgcaa
