/-
  The laws of processes, plain data: the process of the examples.
-/
import Derived.Test.YtgfbfajaaaegjaaQPcE
namespace Go.Proofs.Ytgfbfajaaaegjaa
open Go.RowKit
set_option linter.unusedVariables false
set_option linter.unusedSimpArgs false
set_option maxRecDepth 100000
def bj (op k w : Int) : Ex := ⟨op, e0, ⟨k, e0⟩, ⟨w, e0⟩, []⟩
def ur : Ex := ⟨6, e0, dN, dN, [bj 16 0 0, bj 18 0 0]⟩
def Dg : Ex := ⟨8, e0, dN, dN, [bj 16 0 0, bj 1 3 2]⟩
def bQ : Pr := ⟨bs [112], bs [99], [⟨bs [114], 2, 1, ur, vw⟩], [], [⟨0, 2, bj 1 1 1⟩], [⟨1, 2, Dg, bj 16 0 0⟩]⟩
def C3 : Ps := ⟨[1], []⟩
def y3 : Ps := ⟨[3], []⟩
def EN : Ps := ⟨[4], []⟩
def Es : List Hd := [⟨true, 2⟩]
theorem b4 : cZ bQ where
 rl := by decide
 ml := by decide
 tl := by decide
 pl := by decide
 rw := fun i hi => by
  have : i = 0 := by have : i < 1 := hi; omega
  subst this
  exact ⟨rfl, ⟨by decide, by decide⟩, rfl, show cR ur ≤ 3 by decide⟩
 mw := fun i hi => absurd hi (Nat.not_lt_zero _)
 tw := fun i hi => by
  have : i = 0 := by have : i < 1 := hi; omega
  subst this
  exact ⟨rfl, rfl, show cR (bj 1 1 1) ≤ 3 by decide⟩
 pw := fun i hi => by
  have : i = 0 := by have : i < 1 := hi; omega
  subst this
  exact ⟨rfl, ⟨rfl, show cR Dg ≤ 3 by decide⟩, rfl, show cR (bj 16 0 0) ≤ 3 by decide⟩
theorem di {v : Int} (h0 : 0 ≤ v) (h1 : v ≤ 3) : kf bQ ⟨[v], []⟩ where
 rl := rfl
 rv := fun i hi => by
  have : i = 0 := by have : i < 1 := hi; omega
  subst this
  exact ⟨h0, show v ≤ ae 2 from h1⟩
 ml := rfl
 mn := fun i hi => absurd hi (Nat.not_lt_zero _)
 mv := fun i hi => absurd hi (Nat.not_lt_zero _)
theorem dD : sn bQ Es where
 l := rfl
 v := fun i hi _ => by
  have : i = 0 := by have : i < 1 := hi; omega
  subst this
  exact ⟨by decide, by decide⟩
theorem C4 : sm bQ [2] where
 l := rfl
 v := fun i hi => by
  have : i = 0 := by have : i < 1 := hi; omega
  subst this
  exact ⟨by decide, by decide⟩
theorem Av : cy (aZ bQ) C3 = true := by decide
theorem D5 : bi bQ y3 = true := by decide
theorem D6 : bi bQ EN = false := by decide
theorem D7 : (aL bQ y3 [2] ur).1 = 1 := by decide
theorem EO : ck (az bQ y3 Es [true]) ⟨true, C3, [true], [⟨true, 3⟩]⟩ = true := by decide
theorem EP : ck (az bQ y3 Es [false]) ⟨false, y3, [false], [bp]⟩ = true := by decide
theorem ER : ck (az bQ C3 Es [false]) ⟨true, y3, [true], [bp]⟩ = true := by decide
theorem c6 {p : Pr} {s : Ps} {hs : List Hd} {rs : List Bool} (hp : cZ p) (hso : kf p s) (hh : sn p hs) : (az p s hs rs).s.regs.length ≤ 100 ∧ (az p s hs rs).s.mems.length ≤ 100 ∧ (∀ i, ((az p s hs rs).s.mems.getD i []).length ≤ 4) ∧ (az p s hs rs).pops.length ≤ 100 ∧ (az p s hs rs).puts.length ≤ 100 := by
 have h := sr (rs := rs) hp hso hh
 have h1 := hp.rl; have h2 := hp.ml; have h3 := hp.tl; have h4 := hp.pl; have h5 := h.rl; have h6 := h.ml
 refine ⟨by omega, by omega, fun i => ?_, by rw [so]; exact h3, by rw [sq]; exact h4⟩
 by_cases hi : i < p.mems.length
 ·have := h.mn i hi
  have := (hp.mw i hi).2.1
  omega
 ·rw [List.getD, List.getElem?_eq_none (by omega)]; simp
theorem ut {p : Pr} {s : Ps} (hp : cZ p) (h : kf p s) : s.regs.length ≤ 100 ∧ s.mems.length ≤ 100 ∧ ∀ i, (s.mems.getD i []).length ≤ 4 := by
 have h1 := hp.rl; have h2 := hp.ml; have h5 := h.rl; have h6 := h.ml
 refine ⟨by omega, by omega, fun i => ?_⟩
 by_cases hi : i < p.mems.length
 ·have := h.mn i hi
  have := (hp.mw i hi).2.1
  omega
 ·rw [List.getD, List.getElem?_eq_none (by omega)]; simp
theorem ku {p : Pr} (hp : cZ p) : kf p (aZ p) where
 rl := by simp [aZ]
 rv := fun i hi => by
  show dX ((p.regs.map (·.init)).getD i 0) _
  rw [bB (·.init) p.regs i aM 0 hi]
  exact (hp.rw i hi).2.1
 ml := by simp [aZ]
 mn := fun i hi => by
  show (((p.mems.map (fun m => List.replicate m.words.toNat (0 : Int))).getD i []).length : Int) = _
  rw [bB (fun m => List.replicate m.words.toNat (0 : Int)) p.mems i ax [] hi, List.length_replicate]
  have h0 := (hp.mw i hi).2.1
  have h1 : 0 ≤ (p.mems.getD i ax).words := by have : 1 ≤ (p.mems.getD i ax).words := h0.1; omega
  exact Int.toNat_of_nonneg h1
 mv := fun i hi j hj => by
  show dX (((p.mems.map (fun m => List.replicate m.words.toNat (0 : Int))).getD i []).getD j 0) _
  rw [bB (fun m => List.replicate m.words.toNat (0 : Int)) p.mems i ax [] hi, iU]
  have hw := aE.1 (hp.mw i hi).1
  exact ⟨by decide, (am (by omega) (by omega)).1⟩
theorem nM {p : Pr} {b : List Int} {i : Nat} (hi : i ≤ p.takes.length) (h : i = p.takes.length ∨ b.length ≤ i) : da (zb p b) (List.replicate p.takes.length 0) i = cM p b := by
 refine nr (d := 0) (by rw [cv (by rw [List.length_replicate]; exact hi), List.length_replicate]; exact (aC _ _).symm) (fun j hj => ?_)
 rw [cv (by rw [List.length_replicate]; exact hi), List.length_replicate] at hj
 unfold cM
 rw [bn hj, dt]
 split
 ·rfl
 ·rw [iU, C2 (by omega)]
end Go.Proofs.Ytgfbfajaaaegjaa
