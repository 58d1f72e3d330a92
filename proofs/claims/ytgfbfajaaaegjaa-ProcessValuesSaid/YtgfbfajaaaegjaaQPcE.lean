/-
  The laws of processes, plain data: described states, words and data; what blocks a process.
-/
import Derived.Test.YtgfbfajaaaegjaaQPcB
import Derived.Test.YtgfbfajaaaegjaaQPrT
namespace Go.Proofs.Ytgfbfajaaaegjaa
open Go.RowKit
set_option linter.unusedVariables false
set_option linter.unusedSimpArgs false
def uF (p : Pr) (b : List Int) (i : Nat) : Int := b.getD i 0 % 2 ^ (vW p i).w.toNat
def Df (p : Pr) : Nat → Nat
 | 0 => p.regs.length
 | i + 1 => Df p i + (iu p i).words.toNat
def uq (p : Pr) (b : List Int) (i k : Nat) : Int := b.getD (Df p i + k) 0 % 2 ^ (iu p i).w.toNat
def yb (p : Pr) (b : List Int) (i : Nat) : List Int := tab (uq p b i) (iu p i).words.toNat
def b3 (p : Pr) (b : List Int) : Ps := ⟨tab (uF p b) p.regs.length, tab (yb p b) p.mems.length⟩
def Bz (p : Pr) (b : List Int) (i : Nat) : Hd := ⟨!decide (b.getD i 0 % 4 = 3), b.getD i 0 / 4 % 2 ^ (pI p i).w.toNat⟩
def ss (p : Pr) (b : List Int) : List Hd := tab (Bz p b) p.takes.length
def B6 (p : Pr) (b : List Int) (j : Nat) : Bool := !decide (b.getD (p.takes.length + j) 0 % 4 = 3)
def fZ (p : Pr) (b : List Int) : List Bool := tab (B6 p b) p.puts.length
def zb (p : Pr) (b : List Int) (i : Nat) : Int := b.getD i 0 % 2 ^ (pI p i).w.toNat
def cM (p : Pr) (b : List Int) : List Int := tab (zb p b) p.takes.length
section
variable {p : Pr} {s : Ps} {b : List Int} {hs hs' : List Hd} {rs rs' : List Bool}
theorem Ar (hp : cZ p) : ∀ i, i ≤ p.mems.length → Df p i ≤ 100 + 4 * i
 | 0, _ => by have := hp.rl; rw [Df]; omega
 | i + 1, hi => by
  have h1 := Ar hp i (by omega)
  have h2 := (hp.mw i (by omega)).2.1
  rw [Df]; omega
theorem Au (hp : cZ p) (b : List Int) : kf p (b3 p b) where
 rl := aC _ _
 rv := fun i hi => by
  show dX ((tab (uF p b) p.regs.length).getD i 0) _
  rw [bn hi]
  have := aE.1 (hp.rw i hi).1
  exact gi (by omega) (by omega)
 ml := aC _ _
 mn := fun i hi => by
  show (((tab (yb p b) p.mems.length).getD i []).length : Int) = _
  rw [bn hi]
  have h2 := (hp.mw i hi).2.1
  unfold yb
  rw [aC]
  omega
 mv := fun i hi j hj => by
  show dX (((tab (yb p b) p.mems.length).getD i []).getD j 0) _
  have hj' : j < ((tab (yb p b) p.mems.length).getD i []).length := hj
  rw [bn hi] at hj' ⊢
  unfold yb at hj' ⊢
  rw [aC] at hj'
  rw [bn hj']
  have := aE.1 (hp.mw i hi).1
  exact gi (by omega) (by omega)
theorem C0 (hp : cZ p) (b : List Int) : sn p (ss p b) where
 l := aC _ _
 v := fun i hi _ => by
  unfold ss
  rw [bn hi]
  have := aE.1 (hp.tw i hi).1
  exact gi (by omega) (by omega)
theorem BA : (fZ p b).length = p.puts.length := aC _ _
theorem C2 {i : Nat} (h : ¬i < b.length) : zb p b i = 0 := by
 unfold zb
 have : b.getD i 0 = 0 := by rw [List.getD, List.getElem?_eq_none (by omega)]; rfl
 rw [this]; simp
end
end Go.Proofs.Ytgfbfajaaaegjaa
