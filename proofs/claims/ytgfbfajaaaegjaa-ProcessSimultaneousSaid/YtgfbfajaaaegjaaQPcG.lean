/-
  The laws of processes, plain data: the process of the examples.
-/
import Derived.Test.YtgfbfajaaaegjaaQPcE
namespace Go.Proofs.Ytgfbfajaaaegjaa
open Go.RowKit
set_option linter.unusedVariables false
set_option linter.unusedSimpArgs false
set_option maxRecDepth 100000
def bn (op k w : Int) : Ex := ⟨op, e0, ⟨k, e0⟩, ⟨w, e0⟩, []⟩
def tE : Ex := ⟨6, e0, dN, dN, [bn 16 0 0, bn 18 0 0]⟩
def BF : Ex := ⟨8, e0, dN, dN, [bn 16 0 0, bn 1 3 2]⟩
def bU : Pr := ⟨bs [112], bs [99], [⟨bs [114], 2, 1, tE, uw⟩], [], [⟨0, 2, bn 1 1 1⟩], [⟨1, 2, BF, bn 16 0 0⟩]⟩
def Bt : Ps := ⟨[1], []⟩
def xK : Ps := ⟨[3], []⟩
def C5 : Ps := ⟨[4], []⟩
def CO : List Hd := [⟨true, 2⟩]
theorem b6 : dh bU where
 rl := by decide
 ml := by decide
 tl := by decide
 pl := by decide
 rw := fun i hi => by
  have : i = 0 := by have : i < 1 := hi; omega
  subst this
  exact ⟨rfl, ⟨by decide, by decide⟩, rfl, show da tE ≤ 3 by decide⟩
 mw := fun i hi => absurd hi (Nat.not_lt_zero _)
 tw := fun i hi => by
  have : i = 0 := by have : i < 1 := hi; omega
  subst this
  exact ⟨rfl, rfl, show da (bn 1 1 1) ≤ 3 by decide⟩
 pw := fun i hi => by
  have : i = 0 := by have : i < 1 := hi; omega
  subst this
  exact ⟨rfl, ⟨rfl, show da BF ≤ 3 by decide⟩, rfl, show da (bn 16 0 0) ≤ 3 by decide⟩
theorem db {v : Int} (h0 : 0 ≤ v) (h1 : v ≤ 3) : jh bU ⟨[v], []⟩ where
 rl := rfl
 rv := fun i hi => by
  have : i = 0 := by have : i < 1 := hi; omega
  subst this
  exact ⟨h0, show v ≤ af 2 from h1⟩
 ml := rfl
 mn := fun i hi => absurd hi (Nat.not_lt_zero _)
 mv := fun i hi => absurd hi (Nat.not_lt_zero _)
theorem dy : jX bU CO where
 l := rfl
 v := fun i hi _ => by
  have : i = 0 := by have : i < 1 := hi; omega
  subst this
  exact ⟨by decide, by decide⟩
theorem Bu : uD bU [2] where
 l := rfl
 v := fun i hi => by
  have : i = 0 := by have : i < 1 := hi; omega
  subst this
  exact ⟨by decide, by decide⟩
theorem zi : cw (aR bU) Bt = true := by decide
theorem Cr : bt bU xK = true := by decide
theorem Cs : bt bU C5 = false := by decide
theorem Cu : (bk bU xK [2] tE).1 = 1 := by decide
theorem C6 : cc (ae bU xK CO [true]) ⟨true, Bt, [true], [⟨true, 3⟩]⟩ = true := by decide
theorem C7 : cc (ae bU xK CO [false]) ⟨false, xK, [false], [bo]⟩ = true := by decide
theorem C8 : cc (ae bU Bt CO [false]) ⟨true, xK, [true], [bo]⟩ = true := by decide
theorem cE {p : Pr} {s : Ps} {hs : List Hd} {rs : List Bool} (hp : dh p) (hso : jh p s) (hh : jX p hs) : (ae p s hs rs).s.regs.length ≤ 100 ∧ (ae p s hs rs).s.mems.length ≤ 100 ∧ (∀ i, ((ae p s hs rs).s.mems.getD i []).length ≤ 4) ∧ (ae p s hs rs).pops.length ≤ 100 ∧ (ae p s hs rs).puts.length ≤ 100 := by
 have h := lK (rs := rs) hp hso hh
 have h1 := hp.rl; have h2 := hp.ml; have h3 := hp.tl; have h4 := hp.pl; have h5 := h.rl; have h6 := h.ml
 refine ⟨by omega, by omega, fun i => ?_, by rw [rC]; exact h3, by rw [rD]; exact h4⟩
 by_cases hi : i < p.mems.length
 ·have := h.mn i hi
  have := (hp.mw i hi).2.1
  omega
 ·rw [List.getD, List.getElem?_eq_none (by omega)]; simp
theorem oH {p : Pr} {s : Ps} (hp : dh p) (h : jh p s) : s.regs.length ≤ 100 ∧ s.mems.length ≤ 100 ∧ ∀ i, (s.mems.getD i []).length ≤ 4 := by
 have h1 := hp.rl; have h2 := hp.ml; have h5 := h.rl; have h6 := h.ml
 refine ⟨by omega, by omega, fun i => ?_⟩
 by_cases hi : i < p.mems.length
 ·have := h.mn i hi
  have := (hp.mw i hi).2.1
  omega
 ·rw [List.getD, List.getElem?_eq_none (by omega)]; simp
theorem j5 {p : Pr} (hp : dh p) : jh p (aR p) where
 rl := by simp [aR]
 rv := fun i hi => by
  show dt ((p.regs.map (·.init)).getD i 0) _
  rw [b9 (·.init) p.regs i aI 0 hi]
  exact (hp.rw i hi).2.1
 ml := by simp [aR]
 mn := fun i hi => by
  show (((p.mems.map (fun m => List.replicate m.words.toNat (0 : Int))).getD i []).length : Int) = _
  rw [b9 (fun m => List.replicate m.words.toNat (0 : Int)) p.mems i aj [] hi, List.length_replicate]
  have h0 := (hp.mw i hi).2.1
  have h1 : 0 ≤ (p.mems.getD i aj).words := by have : 1 ≤ (p.mems.getD i aj).words := h0.1; omega
  exact Int.toNat_of_nonneg h1
 mv := fun i hi j hj => by
  show dt (((p.mems.map (fun m => List.replicate m.words.toNat (0 : Int))).getD i []).getD j 0) _
  rw [b9 (fun m => List.replicate m.words.toNat (0 : Int)) p.mems i aj [] hi, m3]
  have hw := aY.1 (hp.mw i hi).1
  exact ⟨by decide, (ao (by omega) (by omega)).1⟩
end Go.Proofs.Ytgfbfajaaaegjaa
