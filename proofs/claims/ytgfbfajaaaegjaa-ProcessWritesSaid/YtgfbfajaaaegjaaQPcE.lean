/-
  The laws of processes, plain data: described states, words and data; what blocks a process.
-/
import Derived.Test.YtgfbfajaaaegjaaQPcB
import Derived.Test.YtgfbfajaaaegjaaQPrT
namespace Go.Proofs.Ytgfbfajaaaegjaa
open Go.RowKit
set_option linter.unusedVariables false
set_option linter.unusedSimpArgs false
def tM (p : Pr) (b : List Int) (i : Nat) : Int := b.getD i 0 % 2 ^ (pR p i).w.toNat
def BF (p : Pr) : Nat → Nat
 | 0 => p.regs.length
 | i + 1 => BF p i + (en p i).words.toNat
def tC (p : Pr) (b : List Int) (i k : Nat) : Int := b.getD (BF p i + k) 0 % 2 ^ (en p i).w.toNat
def wY (p : Pr) (b : List Int) (i : Nat) : List Int := tab (tC p b i) (en p i).words.toNat
def aM (p : Pr) (b : List Int) : Ps := ⟨tab (tM p b) p.regs.length, tab (wY p b) p.mems.length⟩
def Ad (p : Pr) (b : List Int) (i : Nat) : Hd := ⟨!decide (b.getD i 0 % 4 = 3), b.getD i 0 / 4 % 2 ^ (ir p i).w.toNat⟩
def aK (p : Pr) (b : List Int) : List Hd := tab (Ad p b) p.takes.length
def AI (p : Pr) (b : List Int) (j : Nat) : Bool := !decide (b.getD (p.takes.length + j) 0 % 4 = 3)
def av (p : Pr) (b : List Int) : List Bool := tab (AI p b) p.puts.length
section
variable {p : Pr} {s : Ps} {b : List Int} {hs hs' : List Hd} {rs rs' : List Bool}
theorem ze (hp : db p) : ∀ i, i ≤ p.mems.length → BF p i ≤ 100 + 4 * i
 | 0, _ => by have := hp.rl; rw [BF]; omega
 | i + 1, hi => by
  have h1 := ze hp i (by omega)
  have h2 := (hp.mw i (by omega)).2.1
  rw [BF]; omega
theorem vK (hp : db p) (b : List Int) : jh p (aM p b) where
 rl := an _ _
 rv := fun i hi => by
  show dt ((tab (tM p b) p.regs.length).getD i 0) _
  rw [aE hi]
  have := aR.1 (hp.rw i hi).1
  exact ge (by omega) (by omega)
 ml := an _ _
 mn := fun i hi => by
  show (((tab (wY p b) p.mems.length).getD i []).length : Int) = _
  rw [aE hi]
  have h2 := (hp.mw i hi).2.1
  unfold wY
  rw [an]
  omega
 mv := fun i hi j hj => by
  show dt (((tab (wY p b) p.mems.length).getD i []).getD j 0) _
  have hj' : j < ((tab (wY p b) p.mems.length).getD i []).length := hj
  rw [aE hi] at hj' ⊢
  unfold wY at hj' ⊢
  rw [an] at hj'
  rw [aE hj']
  have := aR.1 (hp.mw i hi).1
  exact ge (by omega) (by omega)
theorem tD (hp : db p) (b : List Int) : jX p (aK p b) where
 l := an _ _
 v := fun i hi _ => by
  unfold aK
  rw [aE hi]
  have := aR.1 (hp.tw i hi).1
  exact ge (by omega) (by omega)
theorem pV : (av p b).length = p.puts.length := an _ _
def uO (hs' : List Hd) (i : Nat) : Hd := ⟨true, (hs'.getD i bp).v⟩
def Cq (p : Pr) (hs' : List Hd) : List Hd := tab (uO hs') p.takes.length
theorem sF (p : Pr) (s : Ps) (hs' : List Hd) : dQ p s (Cq p hs') (List.replicate p.puts.length true) = true := by
 unfold dQ
 rw [Bool.and_eq_true]
 refine ⟨eh.2 (fun i hi => ?_), eh.2 (fun i hi => ?_)⟩
 ·unfold du Cq; rw [aE hi]; rfl
 ·unfold d6
  have : (List.replicate p.puts.length true).getD i false = true := by simp [List.getD, hi]
  rw [this]; rfl
theorem zf (hp : db p) (h : ∀ i, i < p.takes.length → dt (hs'.getD i bp).v (ir p i).w) : jX p (Cq p hs') where
 l := an _ _
 v := fun i hi _ => by unfold Cq; rw [aE hi]; exact h i hi
theorem AJ (hp : db p) (b : List Int) : ∀ i, i < p.takes.length → dt ((aK p b).getD i bp).v (ir p i).w := fun i hi => by
 unfold aK
 rw [aE hi]
 have := aR.1 (hp.tw i hi).1
 exact ge (by omega) (by omega)
def pm (p : Pr) (s : Ps) (hs hs' : List Hd) (i : Nat) : Hd := if co p s (aX p s hs) (ir p i).when = true then hs.getD i bp else hs'.getD i bp
def xU (p : Pr) (s : Ps) (hs hs' : List Hd) : List Hd := tab (pm p s hs hs') p.takes.length
def ra (p : Pr) (s : Ps) (hs : List Hd) (rs rs' : List Bool) (j : Nat) : Bool := if co p s (aX p s hs) (oC p j).when = true then rs.getD j false else rs'.getD j false
def zt (p : Pr) (s : Ps) (hs : List Hd) (rs rs' : List Bool) : List Bool := tab (ra p s hs rs rs') p.puts.length
theorem oG (hp : db p) (hh : jX p hs) (hh' : jX p hs') : jX p (xU p s hs hs') where
 l := an _ _
 v := fun i hi => by
  unfold xU
  rw [aE hi]
  unfold pm
  split
  ·exact hh.v i hi
  ·exact hh'.v i hi
theorem nf (hp : db p) : aX p s (xU p s hs hs') = aX p s hs := by
 unfold aX
 refine eT (fun i hi => ?_)
 unfold jg xU
 rw [aE hi]
 unfold pm
 by_cases hd : co p s (aX p s hs) (ir p i).when = true
 ·rw [if_pos hd]
 ·rw [if_neg hd]
  have h1 : co p s (fW p) (ir p i).when = false := by
   rw [(eV (s := s) hp hi (fW p) (aX p s hs)).1]
   simpa using hd
  rw [if_neg (by rw [h1]; simp), if_neg (by rw [h1]; simp)]
theorem xK (hp : db p) : dQ p s (xU p s hs hs') (zt p s hs rs rs') = dQ p s hs rs := by
 unfold dQ
 have e1 : bE (du p s (xU p s hs hs')) p.takes.length = bE (du p s hs) p.takes.length := jf (fun i hi => by
  unfold du
  rw [nf hp]
  unfold xU
  rw [aE hi]
  unfold pm
  by_cases hd : co p s (aX p s hs) (ir p i).when = true
  ·rw [if_pos hd]
  ·rw [if_neg hd, show co p s (aX p s hs) (ir p i).when = false by simpa using hd]; simp)
 have e2 : bE (d6 p s (xU p s hs hs') (zt p s hs rs rs')) p.puts.length = bE (d6 p s hs rs) p.puts.length := jf (fun i hi => by
  unfold d6
  rw [nf hp]
  unfold zt
  rw [aE hi]
  unfold ra
  by_cases hd : co p s (aX p s hs) (oC p i).when = true
  ·rw [if_pos hd]
  ·rw [if_neg hd, show co p s (aX p s hs) (oC p i).when = false by simpa using hd]; simp)
 rw [e1, e2]
theorem zg (hp : db p) (hf : (ae p s hs rs).fires = true) : ae p s (xU p s hs hs') (zt p s hs rs rs') = ae p s hs rs := by
 have hf' : dQ p s hs rs = true := by rw [← ji]; exact hf
 rw [kG hf', kG (by rw [xK hp]; exact hf'), nf hp]
 have e1 : tab (lq p s (xU p s hs hs')) p.takes.length = tab (lq p s hs) p.takes.length := eT (fun i _ => by unfold lq; rw [nf hp])
 have e2 : tab (lr p s (xU p s hs hs')) p.puts.length = tab (lr p s hs) p.puts.length := eT (fun i _ => by unfold lr; rw [nf hp])
 rw [e1, e2]
theorem zh {bl : Bool} {i : Nat} (h : bl = !bE (du p s hs) i) (hd : co p s (aX p s hs) (ir p i).when = true) : (bl || !(hs.getD i bp).has) = !bE (du p s hs) (i + 1) := by
 rw [h, bE]
 unfold du
 rw [hd]
 cases bE (fun i => (hs.getD i bp).has || !co p s (aX p s hs) (ir p i).when) i <;> cases (hs.getD i bp).has <;> rfl
theorem Ae {bl : Bool} {i : Nat} (h : bl = !bE (du p s hs) i) (hd : ¬co p s (aX p s hs) (ir p i).when = true) : bl = !bE (du p s hs) (i + 1) := by
 rw [h, bE]
 have : du p s hs i = true := by unfold du; rw [show co p s (aX p s hs) (ir p i).when = false by simpa using hd]; simp
 rw [this, Bool.and_true]
theorem zi {bl : Bool} {n i : Nat} (h : bl = !(bE (du p s hs) n && bE (d6 p s hs rs) i)) (hd : co p s (aX p s hs) (oC p i).when = true) : (bl || !rs.getD i false) = !(bE (du p s hs) n && bE (d6 p s hs rs) (i + 1)) := by
 have e : bE (d6 p s hs rs) (i + 1) = (bE (d6 p s hs rs) i && rs.getD i false) := by
  rw [bE]
  have : d6 p s hs rs i = rs.getD i false := by unfold d6; rw [hd]; simp
  rw [this]
 rw [h, e]
 cases bE (du p s hs) n <;> cases bE (d6 p s hs rs) i <;> cases rs.getD i false <;> rfl
theorem Af {bl : Bool} {n i : Nat} (h : bl = !(bE (du p s hs) n && bE (d6 p s hs rs) i)) (hd : ¬co p s (aX p s hs) (oC p i).when = true) : bl = !(bE (du p s hs) n && bE (d6 p s hs rs) (i + 1)) := by
 have : d6 p s hs rs i = true := by unfold d6; rw [show co p s (aX p s hs) (oC p i).when = false by simpa using hd]; simp
 rw [h, bE, this, Bool.and_true]
theorem Ag {bl : Bool} (h : bl = !(bE (du p s hs) p.takes.length && bE (d6 p s hs rs) p.puts.length)) : (ae p s hs rs).fires = !bl := by
 rw [ji, h]
 unfold dQ
 simp
def Cr (p : Pr) (s : Ps) (hs : List Hd) (rs : List Bool) (i : Nat) : Int :=
 if (ae p s hs rs).fires = true ∧ co p s (aX p s hs) (en p i).enable = true then Int.tmod (bn p s (aX p s hs) (en p i).addr).1 (en p i).words else -1
def pn (p : Pr) (s : Ps) (hs : List Hd) (rs : List Bool) (i j : Nat) : Int := if (j : Int) = Cr p s hs rs i then (bn p s (aX p s hs) (en p i).data).1 else (s.mems.getD i []).getD j 0
theorem kT (hp : db p) (hso : jh p s) (hh : jX p hs) {i j : Nat} (hi : i < p.mems.length) (hj : (j : Int) < (en p i).words) : ((ae p s hs rs).s.mems.getD i []).getD j 0 = pn p s hs rs i j := by
 unfold pn Cr
 cases hf : dQ p s hs rs
 ·have hs0 := pT hf
  have h1 : (ae p s hs rs).fires = false := by rw [hs0]
  have h2 : (ae p s hs rs).s = s := by rw [hs0]
  rw [h2, if_neg (show ¬((ae p s hs rs).fires = true ∧ _) by rw [h1]; simp), if_neg (by omega)]
 ·have hs0 := kG hf
  have h1 : (ae p s hs rs).fires = true := by rw [hs0]
  have h2 : (ae p s hs rs).s = cG p s (aX p s hs) := by rw [hs0]
  rw [h2]
  have e : (cG p s (aX p s hs)).mems.getD i [] = rB p s (aX p s hs) i := aE hi
  rw [e]
  unfold rB
  by_cases hd : co p s (aX p s hs) (en p i).enable = true
  ·rw [if_pos hd, if_pos (show (ae p s hs rs).fires = true ∧ co p s (aX p s hs) (en p i).enable = true from ⟨h1, hd⟩)]
   have ha := wR hp hso (l6 (s := s) hp hh) hi
   have ha : 0 ≤ Int.tmod (bn p s (aX p s hs) (en p i).addr).1 (en p i).words ∧ Int.tmod (bn p s (aX p s hs) (en p i).addr).1 (en p i).words < (s.mems.getD i []).length ∧ (en p i).words ≠ 0 := ha
   generalize Int.tmod (bn p s (aX p s hs) (en p i).addr).1 (en p i).words = a at *
   rw [kF (by omega)]
   by_cases h : (j : Int) = a
   ·rw [if_pos (by omega), if_pos h]
   ·rw [if_neg (by omega), if_neg h]
  ·rw [if_neg hd, if_neg (show ¬((ae p s hs rs).fires = true ∧ co p s (aX p s hs) (en p i).enable = true) from fun h => hd h.2), if_neg (by omega)]
end
end Go.Proofs.Ytgfbfajaaaegjaa
