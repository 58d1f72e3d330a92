/-
  The laws of networks, plain data: orders, states of cases, comparisons.
-/
import Derived.Test.YtgmpoenfoacofaaQNeN
namespace Go.Proofs.Ytgmpoenfoacofaa
open Go.RowKit
set_option linter.unusedVariables false
set_option linter.unusedSimpArgs false
theorem uO {p : Pr} (hp : vB p) : wN p (aP p) where
 rl := by simp [aP]
 rv := fun i hi => by
  rw [show (aP p).regs = p.regs.map (·.init) from rfl]
  have := (hp.rw i hi).2.1
  simpa [List.getD, List.getElem?_map, List.getElem?_eq_getElem hi] using this
 ml := by simp [aP]
 mn := fun i hi => by
  have h2 := (hp.mw i hi).2.1
  rw [show (aP p).mems = p.mems.map (fun m => List.replicate m.words.toNat 0) from rfl]
  have : (p.mems.map (fun m => List.replicate m.words.toNat (0 : Int))).getD i [] = List.replicate (nr p i).words.toNat 0 := by
   simp [List.getD, List.getElem?_map, List.getElem?_eq_getElem hi]
  rw [this, List.length_replicate]; omega
 mv := fun i hi j hj => by
  rw [show (aP p).mems = p.mems.map (fun m => List.replicate m.words.toNat 0) from rfl] at hj ⊢
  have : (p.mems.map (fun m => List.replicate m.words.toNat (0 : Int))).getD i [] = List.replicate (nr p i).words.toNat 0 := by
   simp [List.getD, List.getElem?_map, List.getElem?_eq_getElem hi]
  rw [this, kU]
  exact qx (hp.mw i hi).1
theorem uP {c : Ci} (hc : kV c) : pj c (aA c) where
 pl := by simp [aA, aY]
 cl := by simp [aA]
 pv := fun i hi => by
  show wN _ ((tab _ _).getD i e8)
  rw [cf hi]; exact uO (hc.pr i hi)
 cv := fun n hn i hi => by
  have h0 : rC (aA c) n = [] := by show (List.replicate _ _).getD n [] = []; exact kU
  rw [h0] at hi; simp at hi
 cc := fun n hn h1 h2 => by
  have h0 : rC (aA c) n = [] := by show (List.replicate _ _).getD n [] = []; exact kU
  rw [h0]
  simpa using hc.cp n hn
end Go.Proofs.Ytgmpoenfoacofaa
