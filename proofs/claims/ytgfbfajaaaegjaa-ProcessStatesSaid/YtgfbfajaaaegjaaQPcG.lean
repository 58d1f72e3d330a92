/-
  The laws of processes, plain data: the process of the examples.
-/
import Derived.Test.YtgfbfajaaaegjaaQPcE
namespace Go.Proofs.Ytgfbfajaaaegjaa
open Go.RowKit
set_option linter.unusedVariables false
set_option linter.unusedSimpArgs false
set_option maxRecDepth 100000
def a9 (op k w : Int) : Ex := ⟨op, e0, ⟨k, e0⟩, ⟨w, e0⟩, []⟩
def tA : Ex := ⟨6, e0, dN, dN, [a9 16 0 0, a9 18 0 0]⟩
def Ca : Ex := ⟨8, e0, dN, dN, [a9 16 0 0, a9 1 3 2]⟩
def bE : Pr := ⟨bs [112], bs [99], [⟨bs [114], 2, 1, tA, uI⟩], [], [⟨0, 2, a9 1 1 1⟩], [⟨1, 2, Ca, a9 16 0 0⟩]⟩
def BK : Ps := ⟨[1], []⟩
def xM : Ps := ⟨[3], []⟩
def Dw : Ps := ⟨[4], []⟩
def Dl : List Hd := [⟨true, 2⟩]
theorem bM : dA bE where
 rl := by decide
 ml := by decide
 tl := by decide
 pl := by decide
 rw := fun i hi => by
  have : i = 0 := by have : i < 1 := hi; omega
  subst this
  exact ⟨rfl, ⟨by decide, by decide⟩, rfl, show ce tA ≤ 3 by decide⟩
 mw := fun i hi => absurd hi (Nat.not_lt_zero _)
 tw := fun i hi => by
  have : i = 0 := by have : i < 1 := hi; omega
  subst this
  exact ⟨rfl, rfl, show ce (a9 1 1 1) ≤ 3 by decide⟩
 pw := fun i hi => by
  have : i = 0 := by have : i < 1 := hi; omega
  subst this
  exact ⟨rfl, ⟨rfl, show ce Ca ≤ 3 by decide⟩, rfl, show ce (a9 16 0 0) ≤ 3 by decide⟩
theorem cL {v : Int} (h0 : 0 ≤ v) (h1 : v ≤ 3) : lL bE ⟨[v], []⟩ where
 rl := rfl
 rv := fun i hi => by
  have : i = 0 := by have : i < 1 := hi; omega
  subst this
  exact ⟨h0, show v ≤ af 2 from h1⟩
 ml := rfl
 mn := fun i hi => absurd hi (Nat.not_lt_zero _)
 mv := fun i hi => absurd hi (Nat.not_lt_zero _)
theorem cY : tr bE Dl where
 l := rfl
 v := fun i hi _ => by
  have : i = 0 := by have : i < 1 := hi; omega
  subst this
  exact ⟨by decide, by decide⟩
theorem BL : uO bE [2] where
 l := rfl
 v := fun i hi => by
  have : i = 0 := by have : i < 1 := hi; omega
  subst this
  exact ⟨by decide, by decide⟩
theorem za : cj (bt bE) BK = true := by decide
theorem CP : ba bE xM = true := by decide
theorem CQ : ba bE Dw = false := by decide
theorem CT : (bg bE xM [2] tA).1 = 1 := by decide
theorem Dx : b8 (ae bE xM Dl [true]) ⟨true, BK, [true], [⟨true, 3⟩]⟩ = true := by decide
theorem Dy : b8 (ae bE xM Dl [false]) ⟨false, xM, [false], [be]⟩ = true := by decide
theorem Dz : b8 (ae bE BK Dl [false]) ⟨true, xM, [true], [be]⟩ = true := by decide
theorem cZ {p : Pr} {s : Ps} {hs : List Hd} {rs : List Bool} (hp : dA p) (hso : lL p s) (hh : tr p hs) : (ae p s hs rs).s.regs.length ≤ 100 ∧ (ae p s hs rs).s.mems.length ≤ 100 ∧ (∀ i, ((ae p s hs rs).s.mems.getD i []).length ≤ 4) ∧ (ae p s hs rs).pops.length ≤ 100 ∧ (ae p s hs rs).puts.length ≤ 100 := by
 have h := lq (rs := rs) hp hso hh
 have h1 := hp.rl; have h2 := hp.ml; have h3 := hp.tl; have h4 := hp.pl; have h5 := h.rl; have h6 := h.ml
 refine ⟨by omega, by omega, fun i => ?_, by rw [ln]; exact h3, by rw [lp]; exact h4⟩
 by_cases hi : i < p.mems.length
 ·have := h.mn i hi
  have := (hp.mw i hi).2.1
  omega
 ·rw [List.getD, List.getElem?_eq_none (by omega)]; simp
theorem vX {p : Pr} {s : Ps} (hp : dA p) (h : lL p s) : s.regs.length ≤ 100 ∧ s.mems.length ≤ 100 ∧ ∀ i, (s.mems.getD i []).length ≤ 4 := by
 have h1 := hp.rl; have h2 := hp.ml; have h5 := h.rl; have h6 := h.ml
 refine ⟨by omega, by omega, fun i => ?_⟩
 by_cases hi : i < p.mems.length
 ·have := h.mn i hi
  have := (hp.mw i hi).2.1
  omega
 ·rw [List.getD, List.getElem?_eq_none (by omega)]; simp
theorem jD {p : Pr} (hp : dA p) : lL p (bt p) where
 rl := by simp [bt]
 rv := fun i hi => by
  show dj ((p.regs.map (·.init)).getD i 0) _
  rw [bz (·.init) p.regs i aA 0 hi]
  exact (hp.rw i hi).2.1
 ml := by simp [bt]
 mn := fun i hi => by
  show (((p.mems.map (fun m => List.replicate m.words.toNat (0 : Int))).getD i []).length : Int) = _
  rw [bz (fun m => List.replicate m.words.toNat (0 : Int)) p.mems i ai [] hi, List.length_replicate]
  have h0 := (hp.mw i hi).2.1
  have h1 : 0 ≤ (p.mems.getD i ai).words := by have : 1 ≤ (p.mems.getD i ai).words := h0.1; omega
  exact Int.toNat_of_nonneg h1
 mv := fun i hi j hj => by
  show dj (((p.mems.map (fun m => List.replicate m.words.toNat (0 : Int))).getD i []).getD j 0) _
  rw [bz (fun m => List.replicate m.words.toNat (0 : Int)) p.mems i ai [] hi, gf]
  have hw := aK.1 (hp.mw i hi).1
  exact ⟨by decide, (ap (by omega) (by omega)).1⟩
end Go.Proofs.Ytgfbfajaaaegjaa
