/-
  The laws of networks, plain data: the circuit of the examples.
-/
import Derived.Test.YtgmpoenfoacofaaGreatQNeQ
namespace Go.Proofs.YtgmpoenfoacofaaGreat
open Go.RowKit
set_option linter.unusedVariables false
set_option linter.unusedSimpArgs false
def IY : Ex := ⟨18, e0, dN, dN, []⟩
def Jp (k : Nat) : Pr := ⟨[bs [112], bs [113]].getD k .empty, [bs [97], bs [98]].getD k .empty, [], [], [⟨(k : Int), 2, eO⟩], [⟨(k : Int) + 1, 2, eO, IY⟩]⟩
def vf : Ci := ⟨tab Jp 2, [⟨bs [105, 110], 2, 0, -1, 0⟩, ⟨bs [99], 2, 1, 0, 1⟩, ⟨bs [111, 117, 116], 2, 0, 1, -1⟩]⟩
set_option maxRecDepth 100000
def x0 : Ns := aC vf
def x1 : Ns := (aU vf x0 0 [1, 2]).1
def wA : Nat → Bool := fun q => decide (q = 0)
def xa : Ns := dp vf x1 wA
def xb : Ns := dp vf xa wA
theorem wB {s : Ns} {k m : Nat} (h : l5 s k) (hk : k ≤ m) : l5 s m := fun n => Nat.le_trans (h n) hk
end Go.Proofs.YtgmpoenfoacofaaGreat
