/-
  The laws of networks, plain data: orders, states of cases, comparisons.
-/
import Derived.Test.YtckgpflobhpnpaaQNeN
namespace Go.Proofs.Ytckgpflobhpnpaa
open Go.RowKit
set_option linter.unusedVariables false
set_option linter.unusedSimpArgs false
theorem xA {p : Pr} (hp : gE p) : pm p (aL p) where
 rl := by simp [aL]
 rv := fun i hi => by
  rw [show (aL p).regs = p.regs.map (·.init) from rfl]
  have := (hp.rw i hi).2.1
  simpa [List.getD, List.getElem?_map, List.getElem?_eq_getElem hi] using this
 ml := by simp [aL]
 mn := fun i hi => by
  have h2 := (hp.mw i hi).2.1
  rw [show (aL p).mems = p.mems.map (fun m => List.replicate m.words.toNat 0) from rfl]
  have : (p.mems.map (fun m => List.replicate m.words.toNat (0 : Int))).getD i [] = List.replicate (oe p i).words.toNat 0 := by
   simp [List.getD, List.getElem?_map, List.getElem?_eq_getElem hi]
  rw [this, List.length_replicate]; omega
 mv := fun i hi j hj => by
  rw [show (aL p).mems = p.mems.map (fun m => List.replicate m.words.toNat 0) from rfl] at hj ⊢
  have : (p.mems.map (fun m => List.replicate m.words.toNat (0 : Int))).getD i [] = List.replicate (oe p i).words.toNat 0 := by
   simp [List.getD, List.getElem?_map, List.getElem?_eq_getElem hi]
  rw [this, cu]
  exact og (hp.mw i hi).1
theorem DC {c : Ci} (hc : a8 c) : jt c (fD c) where
 pl := by simp [fD, au]
 cl := by simp [fD]
 pv := fun i hi => by
  show pm _ ((tab _ _).getD i bK)
  rw [aH hi]; exact xA (hc.pr i hi)
 cv := fun n hn i hi => by
  have h0 : vY (fD c) n = [] := by show (List.replicate _ _).getD n [] = []; exact cu
  rw [h0] at hi; simp at hi
 cc := fun n hn h1 h2 => by
  have h0 : vY (fD c) n = [] := by show (List.replicate _ _).getD n [] = []; exact cu
  rw [h0]
  simpa using hc.cp n hn
end Go.Proofs.Ytckgpflobhpnpaa
