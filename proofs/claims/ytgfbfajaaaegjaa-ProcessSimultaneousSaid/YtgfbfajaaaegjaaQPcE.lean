/-
  The laws of processes, plain data: described states, words and data; what blocks a process.
-/
import Derived.Test.YtgfbfajaaaegjaaQPcB
import Derived.Test.YtgfbfajaaaegjaaQPrT
namespace Go.Proofs.Ytgfbfajaaaegjaa
open Go.RowKit
set_option linter.unusedVariables false
set_option linter.unusedSimpArgs false
def tM (p : Pr) (b : List Int) (i : Nat) : Int := b.getD i 0 % 2 ^ (pR p i).w.toNat
def BE (p : Pr) : Nat → Nat
 | 0 => p.regs.length
 | i + 1 => BE p i + (ef p i).words.toNat
def tC (p : Pr) (b : List Int) (i k : Nat) : Int := b.getD (BE p i + k) 0 % 2 ^ (ef p i).w.toNat
def wX (p : Pr) (b : List Int) (i : Nat) : List Int := tab (tC p b i) (ef p i).words.toNat
def aM (p : Pr) (b : List Int) : Ps := ⟨tab (tM p b) p.regs.length, tab (wX p b) p.mems.length⟩
def Ac (p : Pr) (b : List Int) (i : Nat) : Hd := ⟨!decide (b.getD i 0 % 4 = 3), b.getD i 0 / 4 % 2 ^ (ir p i).w.toNat⟩
def aK (p : Pr) (b : List Int) : List Hd := tab (Ac p b) p.takes.length
def AH (p : Pr) (b : List Int) (j : Nat) : Bool := !decide (b.getD (p.takes.length + j) 0 % 4 = 3)
def av (p : Pr) (b : List Int) : List Bool := tab (AH p b) p.puts.length
section
variable {p : Pr} {s : Ps} {b : List Int} {hs hs' : List Hd} {rs rs' : List Bool}
theorem zc (hp : dh p) : ∀ i, i ≤ p.mems.length → BE p i ≤ 100 + 4 * i
 | 0, _ => by have := hp.rl; rw [BE]; omega
 | i + 1, hi => by
  have h1 := zc hp i (by omega)
  have h2 := (hp.mw i (by omega)).2.1
  rw [BE]; omega
theorem vJ (hp : dh p) (b : List Int) : jh p (aM p b) where
 rl := an _ _
 rv := fun i hi => by
  show dt ((tab (tM p b) p.regs.length).getD i 0) _
  rw [aE hi]
  have := aY.1 (hp.rw i hi).1
  exact ge (by omega) (by omega)
 ml := an _ _
 mn := fun i hi => by
  show (((tab (wX p b) p.mems.length).getD i []).length : Int) = _
  rw [aE hi]
  have h2 := (hp.mw i hi).2.1
  unfold wX
  rw [an]
  omega
 mv := fun i hi j hj => by
  show dt (((tab (wX p b) p.mems.length).getD i []).getD j 0) _
  have hj' : j < ((tab (wX p b) p.mems.length).getD i []).length := hj
  rw [aE hi] at hj' ⊢
  unfold wX at hj' ⊢
  rw [an] at hj'
  rw [aE hj']
  have := aY.1 (hp.mw i hi).1
  exact ge (by omega) (by omega)
theorem tD (hp : dh p) (b : List Int) : jX p (aK p b) where
 l := an _ _
 v := fun i hi _ => by
  unfold aK
  rw [aE hi]
  have := aY.1 (hp.tw i hi).1
  exact ge (by omega) (by omega)
theorem pV : (av p b).length = p.puts.length := an _ _
def uN (hs' : List Hd) (i : Nat) : Hd := ⟨true, (hs'.getD i bo).v⟩
def Cp (p : Pr) (hs' : List Hd) : List Hd := tab (uN hs') p.takes.length
theorem sF (p : Pr) (s : Ps) (hs' : List Hd) : dQ p s (Cp p hs') (List.replicate p.puts.length true) = true := by
 unfold dQ
 rw [Bool.and_eq_true]
 refine ⟨ee.2 (fun i hi => ?_), ee.2 (fun i hi => ?_)⟩
 ·unfold du Cp; rw [aE hi]; rfl
 ·unfold d5
  have : (List.replicate p.puts.length true).getD i false = true := by simp [List.getD, hi]
  rw [this]; rfl
theorem ze (hp : dh p) (h : ∀ i, i < p.takes.length → dt (hs'.getD i bo).v (ir p i).w) : jX p (Cp p hs') where
 l := an _ _
 v := fun i hi _ => by unfold Cp; rw [aE hi]; exact h i hi
theorem AI (hp : dh p) (b : List Int) : ∀ i, i < p.takes.length → dt ((aK p b).getD i bo).v (ir p i).w := fun i hi => by
 unfold aK
 rw [aE hi]
 have := aY.1 (hp.tw i hi).1
 exact ge (by omega) (by omega)
def pm (p : Pr) (s : Ps) (hs hs' : List Hd) (i : Nat) : Hd := if co p s (aW p s hs) (ir p i).when = true then hs.getD i bo else hs'.getD i bo
def xT (p : Pr) (s : Ps) (hs hs' : List Hd) : List Hd := tab (pm p s hs hs') p.takes.length
def ra (p : Pr) (s : Ps) (hs : List Hd) (rs rs' : List Bool) (j : Nat) : Bool := if co p s (aW p s hs) (oC p j).when = true then rs.getD j false else rs'.getD j false
def zs (p : Pr) (s : Ps) (hs : List Hd) (rs rs' : List Bool) : List Bool := tab (ra p s hs rs rs') p.puts.length
theorem oG (hp : dh p) (hh : jX p hs) (hh' : jX p hs') : jX p (xT p s hs hs') where
 l := an _ _
 v := fun i hi => by
  unfold xT
  rw [aE hi]
  unfold pm
  split
  ·exact hh.v i hi
  ·exact hh'.v i hi
theorem nf (hp : dh p) : aW p s (xT p s hs hs') = aW p s hs := by
 unfold aW
 refine eS (fun i hi => ?_)
 unfold jg xT
 rw [aE hi]
 unfold pm
 by_cases hd : co p s (aW p s hs) (ir p i).when = true
 ·rw [if_pos hd]
 ·rw [if_neg hd]
  have h1 : co p s (fW p) (ir p i).when = false := by
   rw [(eT (s := s) hp hi (fW p) (aW p s hs)).1]
   simpa using hd
  rw [if_neg (by rw [h1]; simp), if_neg (by rw [h1]; simp)]
theorem xJ (hp : dh p) : dQ p s (xT p s hs hs') (zs p s hs rs rs') = dQ p s hs rs := by
 unfold dQ
 have e1 : bE (du p s (xT p s hs hs')) p.takes.length = bE (du p s hs) p.takes.length := jf (fun i hi => by
  unfold du
  rw [nf hp]
  unfold xT
  rw [aE hi]
  unfold pm
  by_cases hd : co p s (aW p s hs) (ir p i).when = true
  ·rw [if_pos hd]
  ·rw [if_neg hd, show co p s (aW p s hs) (ir p i).when = false by simpa using hd]; simp)
 have e2 : bE (d5 p s (xT p s hs hs') (zs p s hs rs rs')) p.puts.length = bE (d5 p s hs rs) p.puts.length := jf (fun i hi => by
  unfold d5
  rw [nf hp]
  unfold zs
  rw [aE hi]
  unfold ra
  by_cases hd : co p s (aW p s hs) (oC p i).when = true
  ·rw [if_pos hd]
  ·rw [if_neg hd, show co p s (aW p s hs) (oC p i).when = false by simpa using hd]; simp)
 rw [e1, e2]
theorem zf (hp : dh p) (hf : (ae p s hs rs).fires = true) : ae p s (xT p s hs hs') (zs p s hs rs rs') = ae p s hs rs := by
 have hf' : dQ p s hs rs = true := by rw [← ji]; exact hf
 rw [kG hf', kG (by rw [xJ hp]; exact hf'), nf hp]
 have e1 : tab (lq p s (xT p s hs hs')) p.takes.length = tab (lq p s hs) p.takes.length := eS (fun i _ => by unfold lq; rw [nf hp])
 have e2 : tab (lr p s (xT p s hs hs')) p.puts.length = tab (lr p s hs) p.puts.length := eS (fun i _ => by unfold lr; rw [nf hp])
 rw [e1, e2]
theorem zg {bl : Bool} {i : Nat} (h : bl = !bE (du p s hs) i) (hd : co p s (aW p s hs) (ir p i).when = true) : (bl || !(hs.getD i bo).has) = !bE (du p s hs) (i + 1) := by
 rw [h, bE]
 unfold du
 rw [hd]
 cases bE (fun i => (hs.getD i bo).has || !co p s (aW p s hs) (ir p i).when) i <;> cases (hs.getD i bo).has <;> rfl
theorem Ad {bl : Bool} {i : Nat} (h : bl = !bE (du p s hs) i) (hd : ¬co p s (aW p s hs) (ir p i).when = true) : bl = !bE (du p s hs) (i + 1) := by
 rw [h, bE]
 have : du p s hs i = true := by unfold du; rw [show co p s (aW p s hs) (ir p i).when = false by simpa using hd]; simp
 rw [this, Bool.and_true]
theorem zh {bl : Bool} {n i : Nat} (h : bl = !(bE (du p s hs) n && bE (d5 p s hs rs) i)) (hd : co p s (aW p s hs) (oC p i).when = true) : (bl || !rs.getD i false) = !(bE (du p s hs) n && bE (d5 p s hs rs) (i + 1)) := by
 have e : bE (d5 p s hs rs) (i + 1) = (bE (d5 p s hs rs) i && rs.getD i false) := by
  rw [bE]
  have : d5 p s hs rs i = rs.getD i false := by unfold d5; rw [hd]; simp
  rw [this]
 rw [h, e]
 cases bE (du p s hs) n <;> cases bE (d5 p s hs rs) i <;> cases rs.getD i false <;> rfl
theorem Ae {bl : Bool} {n i : Nat} (h : bl = !(bE (du p s hs) n && bE (d5 p s hs rs) i)) (hd : ¬co p s (aW p s hs) (oC p i).when = true) : bl = !(bE (du p s hs) n && bE (d5 p s hs rs) (i + 1)) := by
 have : d5 p s hs rs i = true := by unfold d5; rw [show co p s (aW p s hs) (oC p i).when = false by simpa using hd]; simp
 rw [h, bE, this, Bool.and_true]
theorem Af {bl : Bool} (h : bl = !(bE (du p s hs) p.takes.length && bE (d5 p s hs rs) p.puts.length)) : (ae p s hs rs).fires = !bl := by
 rw [ji, h]
 unfold dQ
 simp
def Cq (p : Pr) (s : Ps) (hs : List Hd) (rs : List Bool) (i : Nat) : Int :=
 if (ae p s hs rs).fires = true ∧ co p s (aW p s hs) (ef p i).enable = true then Int.tmod (bk p s (aW p s hs) (ef p i).addr).1 (ef p i).words else -1
def pn (p : Pr) (s : Ps) (hs : List Hd) (rs : List Bool) (i j : Nat) : Int := if (j : Int) = Cq p s hs rs i then (bk p s (aW p s hs) (ef p i).data).1 else (s.mems.getD i []).getD j 0
theorem kT (hp : dh p) (hso : jh p s) (hh : jX p hs) {i j : Nat} (hi : i < p.mems.length) (hj : (j : Int) < (ef p i).words) : ((ae p s hs rs).s.mems.getD i []).getD j 0 = pn p s hs rs i j := by
 unfold pn Cq
 cases hf : dQ p s hs rs
 ·have hs0 := pT hf
  have h1 : (ae p s hs rs).fires = false := by rw [hs0]
  have h2 : (ae p s hs rs).s = s := by rw [hs0]
  rw [h2, if_neg (show ¬((ae p s hs rs).fires = true ∧ _) by rw [h1]; simp), if_neg (by omega)]
 ·have hs0 := kG hf
  have h1 : (ae p s hs rs).fires = true := by rw [hs0]
  have h2 : (ae p s hs rs).s = cG p s (aW p s hs) := by rw [hs0]
  rw [h2]
  have e : (cG p s (aW p s hs)).mems.getD i [] = rB p s (aW p s hs) i := aE hi
  rw [e]
  unfold rB
  by_cases hd : co p s (aW p s hs) (ef p i).enable = true
  ·rw [if_pos hd, if_pos (show (ae p s hs rs).fires = true ∧ co p s (aW p s hs) (ef p i).enable = true from ⟨h1, hd⟩)]
   have ha := wQ hp hso (l6 (s := s) hp hh) hi
   have ha : 0 ≤ Int.tmod (bk p s (aW p s hs) (ef p i).addr).1 (ef p i).words ∧ Int.tmod (bk p s (aW p s hs) (ef p i).addr).1 (ef p i).words < (s.mems.getD i []).length ∧ (ef p i).words ≠ 0 := ha
   generalize Int.tmod (bk p s (aW p s hs) (ef p i).addr).1 (ef p i).words = a at *
   rw [kF (by omega)]
   by_cases h : (j : Int) = a
   ·rw [if_pos (by omega), if_pos h]
   ·rw [if_neg (by omega), if_neg h]
  ·rw [if_neg hd, if_neg (show ¬((ae p s hs rs).fires = true ∧ co p s (aW p s hs) (ef p i).enable = true) from fun h => hd h.2), if_neg (by omega)]
end
end Go.Proofs.Ytgfbfajaaaegjaa
