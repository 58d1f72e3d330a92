/-
  Edited circuits, plain data.
-/
import Derived.Test.YtnlmlkbaflmgcaaQMjD
namespace Go.Proofs.Ytnlmlkbaflmgcaa
open Go.RowKit
set_option linter.unusedVariables false
set_option linter.unusedSimpArgs false
def bR (k : Int) : ByteArray := [bs [114], bs [115], bs [109, 101, 109], bs [111, 108, 100], bs [120], bs [109, 101, 109]].getD (k % 6).toNat e0
abbrev Iq : ByteArray := bs [48, 49, 50, 51, 52, 53, 54, 55, 56, 57]
def ck (n : Nat) : ByteArray := Iq.extract (n / 10) (n / 10 + 1) ++ Iq.extract (n % 10) (n % 10 + 1)
theorem oG (k : Int) : (bR k).size ≤ 3 := by
 have : (k % 6).toNat = 0 ∨ (k % 6).toNat = 1 ∨ (k % 6).toNat = 2 ∨ (k % 6).toNat = 3 ∨ (k % 6).toNat = 4 ∨ (k % 6).toNat = 5 := by omega
 unfold bR
 rcases this with h | h | h | h | h | h <;> rw [h] <;> decide
theorem lR (n : Nat) : (ck n).size ≤ 20 := by
 unfold ck
 rw [ByteArray.size_append, ByteArray.size_extract, ByteArray.size_extract]
 have : Iq.size = 10 := rfl
 omega
def f9 (k1 k2 : Int) : aj := ⟨k1 % 4, if 2 ≤ k1 % 4 then bR (k1 / 4) else e0, if k1 % 4 = 3 then k2 - 128 else 0⟩
def oH (t7 : ByteArray) (k2 : Int) (at_ : Nat) (old : ByteArray) : ByteArray := if k2 % 8 = 0 then (t7 ++ bR (k2 / 8)) ++ ck at_ else old
def K2 : ByteArray := bs [114, 101, 103]
def L2 : ByteArray := bs [109, 101, 109]
def Hm : ByteArray := bs [99, 104, 97, 110]
def Hn : ByteArray := bs [112, 114, 111, 99]
def aQ (p : Pr) (k0 : Int) : Nat := (k0 % ((p.regs.length + p.mems.length : Nat) : Int)).toNat
def Ir (r : Rg) (k1 k2 : Int) (at_ : Nat) : Rg := { r with rule := f9 k1 k2, name := oH K2 k2 at_ r.name }
def It (m : Mm) (k1 k2 : Int) (at_ : Nat) : Mm := { m with rule := f9 k1 k2, name := oH L2 k2 at_ m.name }
def cB (p : Pr) (k0 k1 k2 : Int) : Pr :=
 if p.regs.length + p.mems.length = 0 then p
 else if aQ p k0 < p.regs.length then { p with regs := p.regs.set (aQ p k0) (Ir (p.regs.getD (aQ p k0) aK) k1 k2 (aQ p k0)) }
 else { p with mems := p.mems.set (aQ p k0 - p.regs.length) (It (p.mems.getD (aQ p k0 - p.regs.length) ax) k1 k2 (aQ p k0)) }
def bv {α : Type} (l : List α) (k : Int) : Nat := (k % (l.length : Int)).toNat
def qi (c : Ci) (b : List Int) (i : Nat) : Ci :=
 if b.getD i 0 % 8 = 0 then
  (if 0 < c.chans.length then ⟨c.procs, c.chans.set (bv c.chans (b.getD (i + 1) 0)) { c.chans.getD (bv c.chans (b.getD (i + 1) 0)) aB with name := Hm ++ ck i }⟩ else c)
 else if b.getD i 0 % 8 = 1 ∨ b.getD i 0 % 8 = 2 then
  (if 0 < c.chans.length ∧ 0 < (c.chans.getD (bv c.chans (b.getD (i + 1) 0)) aB).cap then ⟨c.procs, c.chans.set (bv c.chans (b.getD (i + 1) 0)) { c.chans.getD (bv c.chans (b.getD (i + 1) 0)) aB with cap := 1 + b.getD (i + 2) 0 % 8 }⟩ else c)
 else if b.getD i 0 % 8 = 3 then
  (if 0 < c.procs.length then ⟨c.procs.set (bv c.procs (b.getD (i + 1) 0)) { c.procs.getD (bv c.procs (b.getD (i + 1) 0)) ac with name := Hn ++ ck i }, c.chans⟩ else c)
 else (if 0 < c.procs.length then ⟨c.procs.set (bv c.procs (b.getD (i + 1) 0)) (cB (c.procs.getD (bv c.procs (b.getD (i + 1) 0)) ac) (b.getD (i + 2) 0) (b.getD (i + 3) 0) (b.getD i 0 + b.getD (i + 2) 0)), c.chans⟩ else c)
def s4 (c : Ci) (b : List Int) : Nat → Ci
 | 0 => c
 | t + 1 => qi (s4 c b t) b (4 * t)
def s5 (b : List Int) : Nat := min 6 (b.length / 4)
def cP (c : Ci) (b : List Int) : Ci := s4 c b (s5 b)
theorem Gr (c : Ci) (b : List Int) (i : Nat) : (qi c b i).chans.length = c.chans.length ∧ (qi c b i).procs.length = c.procs.length := by
 unfold qi
 repeat' split
 all_goals simp
theorem AX (c : Ci) (b : List Int) : ∀ t, (s4 c b t).chans.length = c.chans.length ∧ (s4 c b t).procs.length = c.procs.length
 | 0 => ⟨rfl, rfl⟩
 | t + 1 => by
  have h := AX c b t
  have h2 := Gr (s4 c b t) b (4 * t)
  rw [s4]; omega
theorem xy {c : Ci} {b : List Int} {i : Nat} (h : b.getD i 0 % 8 = 0) (hl : 0 < c.chans.length) : qi c b i = ⟨c.procs, c.chans.set (bv c.chans (b.getD (i + 1) 0)) { c.chans.getD (bv c.chans (b.getD (i + 1) 0)) aB with name := Hm ++ ck i }⟩ := by
 unfold qi; rw [if_pos h, if_pos hl]
theorem nk {c : Ci} {b : List Int} {i : Nat} (h : b.getD i 0 % 8 = 0) (hl : ¬0 < c.chans.length) : qi c b i = c := by
 unfold qi; rw [if_pos h, if_neg hl]
theorem xz {c : Ci} {b : List Int} {i : Nat} (h : b.getD i 0 % 8 = 1 ∨ b.getD i 0 % 8 = 2) (hl : 0 < c.chans.length) (h2 : 0 < (c.chans.getD (bv c.chans (b.getD (i + 1) 0)) aB).cap) : qi c b i = ⟨c.procs, c.chans.set (bv c.chans (b.getD (i + 1) 0)) { c.chans.getD (bv c.chans (b.getD (i + 1) 0)) aB with cap := 1 + b.getD (i + 2) 0 % 8 }⟩ := by
 unfold qi; rw [if_neg (by omega), if_pos h, if_pos ⟨hl, h2⟩]
theorem nq {c : Ci} {b : List Int} {i : Nat} (h : b.getD i 0 % 8 = 1 ∨ b.getD i 0 % 8 = 2) (hl : ¬(0 < c.chans.length ∧ 0 < (c.chans.getD (bv c.chans (b.getD (i + 1) 0)) aB).cap)) : qi c b i = c := by
 unfold qi; rw [if_neg (by omega), if_pos h, if_neg hl]
theorem xA {c : Ci} {b : List Int} {i : Nat} (h : b.getD i 0 % 8 = 3) (hl : 0 < c.procs.length) : qi c b i = ⟨c.procs.set (bv c.procs (b.getD (i + 1) 0)) { c.procs.getD (bv c.procs (b.getD (i + 1) 0)) ac with name := Hn ++ ck i }, c.chans⟩ := by
 unfold qi; rw [if_neg (by omega), if_neg (by omega), if_pos h, if_pos hl]
theorem ns {c : Ci} {b : List Int} {i : Nat} (h : b.getD i 0 % 8 = 3) (hl : ¬0 < c.procs.length) : qi c b i = c := by
 unfold qi; rw [if_neg (by omega), if_neg (by omega), if_pos h, if_neg hl]
theorem xB {c : Ci} {b : List Int} {i : Nat} (h : ¬b.getD i 0 % 8 = 0) (h1 : ¬b.getD i 0 % 8 = 1) (h2 : ¬b.getD i 0 % 8 = 2) (h3 : ¬b.getD i 0 % 8 = 3) (hl : 0 < c.procs.length) : qi c b i = ⟨c.procs.set (bv c.procs (b.getD (i + 1) 0)) (cB (c.procs.getD (bv c.procs (b.getD (i + 1) 0)) ac) (b.getD (i + 2) 0) (b.getD (i + 3) 0) (b.getD i 0 + b.getD (i + 2) 0)), c.chans⟩ := by
 unfold qi; rw [if_neg h, if_neg (by omega), if_neg h3, if_pos hl]
theorem nw {c : Ci} {b : List Int} {i : Nat} (h : ¬b.getD i 0 % 8 = 0) (h1 : ¬b.getD i 0 % 8 = 1) (h2 : ¬b.getD i 0 % 8 = 2) (h3 : ¬b.getD i 0 % 8 = 3) (hl : ¬0 < c.procs.length) : qi c b i = c := by
 unfold qi; rw [if_neg h, if_neg (by omega), if_neg h3, if_neg hl]
theorem xC {p : Pr} {k0 k1 k2 : Int} (h : p.regs.length + p.mems.length = 0) : cB p k0 k1 k2 = p := by unfold cB; rw [if_pos h]
theorem mL {p : Pr} {k0 k1 k2 : Int} (h : ¬p.regs.length + p.mems.length = 0) (h2 : aQ p k0 < p.regs.length) : cB p k0 k1 k2 = { p with regs := p.regs.set (aQ p k0) (Ir (p.regs.getD (aQ p k0) aK) k1 k2 (aQ p k0)) } := by
 unfold cB; rw [if_neg h, if_pos h2]
theorem mM {p : Pr} {k0 k1 k2 : Int} (h : ¬p.regs.length + p.mems.length = 0) (h2 : ¬aQ p k0 < p.regs.length) : cB p k0 k1 k2 = { p with mems := p.mems.set (aQ p k0 - p.regs.length) (It (p.mems.getD (aQ p k0 - p.regs.length) ax) k1 k2 (aQ p k0)) } := by
 unfold cB; rw [if_neg h, if_neg h2]
theorem eF {α : Type} {l : List α} (k : Int) (h : 0 < l.length) : bv l k < l.length := by
 have := Int.emod_nonneg k (show (l.length : Int) ≠ 0 by omega)
 have := Int.emod_lt_of_pos k (show (0 : Int) < l.length by omega)
 unfold bv; omega
theorem v4 {p : Pr} (k : Int) (h : ¬p.regs.length + p.mems.length = 0) : aQ p k < p.regs.length + p.mems.length := by
 have := Int.emod_nonneg k (show ((p.regs.length + p.mems.length : Nat) : Int) ≠ 0 by omega)
 have := Int.emod_lt_of_pos k (show (0 : Int) < ((p.regs.length + p.mems.length : Nat) : Int) by omega)
 unfold aQ; omega
theorem Gs {p : Pr} {k : Int} (h0 : 0 ≤ k) : Int.tmod k ((p.regs.length + p.mems.length : Nat) : Int) = ((aQ p k : Nat) : Int) := by
 rw [Int.tmod_eq_emod_of_nonneg h0]
 unfold aQ
 by_cases h : p.regs.length + p.mems.length = 0
 ·rw [h]; simp; omega
 ·have := Int.emod_nonneg k (show ((p.regs.length + p.mems.length : Nat) : Int) ≠ 0 by omega)
  omega
theorem kW {α : Type} {l : List α} {k : Int} (h0 : 0 ≤ k) : Int.tmod k (l.length : Int) = ((bv l k : Nat) : Int) := by
 rw [Int.tmod_eq_emod_of_nonneg h0]
 unfold bv
 by_cases h : l.length = 0
 ·rw [h]; simp; omega
 ·have := Int.emod_nonneg k (show (l.length : Int) ≠ 0 by omega)
  omega
theorem v5 {α : Type} {l : List α} {i : Nat} {x d : α} (h : i < l.length) : (l.set i x).getD i d = x := by
 rw [bC _ _ (by rw [List.length_set]; exact h), List.getElem_set_self]
theorem v6 (p : Pr) (k0 k1 k2 : Int) : (cB p k0 k1 k2).regs.length = p.regs.length ∧ (cB p k0 k1 k2).mems.length = p.mems.length := by
 unfold cB
 repeat' split
 all_goals simp
def Fe (p : Pr) : Prop := p.regs.length + p.mems.length ≤ 100
theorem uF {l : List Pr} {i j : Nat} {x : Pr} (hi : i < l.length) (P : Pr → Prop) (hx : P x) (hj : P (l.getD j ac)) : P ((l.set i x).getD j ac) := by
 by_cases e : i = j
 ·subst e; rw [v5 hi]; exact hx
 ·rw [List.getD_eq_getElem?_getD, List.getElem?_set_ne e, ← List.getD_eq_getElem?_getD]; exact hj
theorem Iu {c : Ci} {b : List Int} {i : Nat} (h : ∀ j, Fe (c.procs.getD j ac)) : ∀ j, Fe ((qi c b i).procs.getD j ac) := by
 intro j
 unfold qi
 repeat' split
 all_goals first | exact h j | skip
 ·rename_i hl
  exact uF (eF _ hl) Fe (h _) (h j)
 ·rename_i hl
  exact uF (eF _ hl) Fe (by have := v6 (c.procs.getD (bv c.procs (b.getD (i + 1) 0)) ac) (b.getD (i + 2) 0) (b.getD (i + 3) 0) (b.getD i 0 + b.getD (i + 2) 0); have := h (bv c.procs (b.getD (i + 1) 0)); unfold Fe at *; omega) (h j)
theorem Ez {c : Ci} {b : List Int} (h : ∀ j, Fe (c.procs.getD j ac)) : ∀ t j, Fe ((s4 c b t).procs.getD j ac)
 | 0 => h
 | t + 1 => Iu (Ez h t)
end Go.Proofs.Ytnlmlkbaflmgcaa
