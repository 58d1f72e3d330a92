/-
  Circuits, plain data: what the loops of a firing keep.
-/
import Derived.Test.YtgmpoenfoacofaaQNeF
namespace Go.Proofs.Ytgmpoenfoacofaa
open Go.RowKit
set_option linter.unusedVariables false
set_option linter.unusedSimpArgs false
theorem rE {f : Ch → Int} {c : Ci} {n : Int} (h : eL f c n = true) : 0 ≤ n ∧ n < c.chans.length ∧ f (jr c n.toNat) = -1 := by unfold eL at h; simpa using h
def aD (c : Ci) (s : Ns) (n : Int) (ws : List Int) : Ns × Int := if eL (·.frm) c n = true ∧ js ws (jr c n.toNat).w = true then (⟨s.procs, s.chans.set n.toNat (rC s n.toNat ++ ws)⟩, 0) else (t7, 1)
theorem kZ {c : Ci} {s : Ns} {n : Int} {ws : List Int} (h : ¬eL (·.frm) c n = true) : aD c s n ws = (t7, 1) := if_neg (fun q => h q.1)
theorem k9 {c : Ci} {s : Ns} {n : Int} {ws : List Int} (h : ¬js ws (jr c n.toNat).w = true) : aD c s n ws = (t7, 1) := if_neg (fun q => h q.2)
theorem ld {c : Ci} {s : Ns} {n : Int} {ws : List Int} (h : eL (·.frm) c n = true) (h2 : js ws (jr c n.toNat).w = true) : aD c s n ws = (⟨s.procs, s.chans.set n.toNat (rC s n.toNat ++ ws)⟩, 0) := if_pos ⟨h, h2⟩
end Go.Proofs.Ytgmpoenfoacofaa
