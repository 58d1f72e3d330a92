/-
  The laws of processes, plain data: described states, words and data; what blocks a process.
-/
import Derived.Test.YtgfbfajaaaegjaaQPcB
import Derived.Test.YtgfbfajaaaegjaaQPrT
namespace Go.Proofs.Ytgfbfajaaaegjaa
open Go.RowKit
set_option linter.unusedVariables false
set_option linter.unusedSimpArgs false
def tT (p : Pr) (b : List Int) (i : Nat) : Int := b.getD i 0 % 2 ^ (rj p i).w.toNat
def B9 (p : Pr) : Nat → Nat
 | 0 => p.regs.length
 | i + 1 => B9 p i + (fr p i).words.toNat
def tz (p : Pr) (b : List Int) (i k : Nat) : Int := b.getD (B9 p i + k) 0 % 2 ^ (fr p i).w.toNat
def w5 (p : Pr) (b : List Int) (i : Nat) : List Int := tab (tz p b i) (fr p i).words.toNat
def bD (p : Pr) (b : List Int) : Ps := ⟨tab (tT p b) p.regs.length, tab (w5 p b) p.mems.length⟩
def Al (p : Pr) (b : List Int) (i : Nat) : Hd := ⟨!decide (b.getD i 0 % 4 = 3), b.getD i 0 / 4 % 2 ^ (o0 p i).w.toNat⟩
def bR (p : Pr) (b : List Int) : List Hd := tab (Al p b) p.takes.length
def Ba (p : Pr) (b : List Int) (j : Nat) : Bool := !decide (b.getD (p.takes.length + j) 0 % 4 = 3)
def aM (p : Pr) (b : List Int) : List Bool := tab (Ba p b) p.puts.length
section
variable {p : Pr} {s : Ps} {b : List Int} {hs hs' : List Hd} {rs rs' : List Bool}
theorem y9 (hp : dA p) : ∀ i, i ≤ p.mems.length → B9 p i ≤ 100 + 4 * i
 | 0, _ => by have := hp.rl; rw [B9]; omega
 | i + 1, hi => by
  have h1 := y9 hp i (by omega)
  have h2 := (hp.mw i (by omega)).2.1
  rw [B9]; omega
theorem BI (hp : dA p) (b : List Int) : lL p (bD p b) where
 rl := aB _ _
 rv := fun i hi => by
  show dj ((tab (tT p b) p.regs.length).getD i 0) _
  rw [aZ hi]
  have := aK.1 (hp.rw i hi).1
  exact gz (by omega) (by omega)
 ml := aB _ _
 mn := fun i hi => by
  show (((tab (w5 p b) p.mems.length).getD i []).length : Int) = _
  rw [aZ hi]
  have h2 := (hp.mw i hi).2.1
  unfold w5
  rw [aB]
  omega
 mv := fun i hi j hj => by
  show dj (((tab (w5 p b) p.mems.length).getD i []).getD j 0) _
  have hj' : j < ((tab (w5 p b) p.mems.length).getD i []).length := hj
  rw [aZ hi] at hj' ⊢
  unfold w5 at hj' ⊢
  rw [aB] at hj'
  rw [aZ hj']
  have := aK.1 (hp.mw i hi).1
  exact gz (by omega) (by omega)
theorem BJ (hp : dA p) (b : List Int) : tr p (bR p b) where
 l := aB _ _
 v := fun i hi _ => by
  unfold bR
  rw [aZ hi]
  have := aK.1 (hp.tw i hi).1
  exact gz (by omega) (by omega)
theorem Am : (aM p b).length = p.puts.length := aB _ _
end
end Go.Proofs.Ytgfbfajaaaegjaa
