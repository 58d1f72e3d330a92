/-
  The laws of networks, plain data: orders, states of cases, comparisons.
-/
import Derived.Test.YtckgpflobhpnpaaGreatQNeN
namespace Go.Proofs.YtckgpflobhpnpaaGreat
open Go.RowKit
set_option linter.unusedVariables false
set_option linter.unusedSimpArgs false
theorem zD {p : Pr} (hp : gP p) : qF p (aP p) where
 rl := by simp [aP]
 rv := fun i hi => by
  rw [show (aP p).regs = p.regs.map (·.init) from rfl]
  have := (hp.rw i hi).2.1
  simpa [List.getD, List.getElem?_map, List.getElem?_eq_getElem hi] using this
 ml := by simp [aP]
 mn := fun i hi => by
  have h2 := (hp.mw i hi).2.1
  rw [show (aP p).mems = p.mems.map (fun m => List.replicate m.words.toNat 0) from rfl]
  have : (p.mems.map (fun m => List.replicate m.words.toNat (0 : Int))).getD i [] = List.replicate (pF p i).words.toNat 0 := by
   simp [List.getD, List.getElem?_map, List.getElem?_eq_getElem hi]
  rw [this, List.length_replicate]; omega
 mv := fun i hi j hj => by
  rw [show (aP p).mems = p.mems.map (fun m => List.replicate m.words.toNat 0) from rfl] at hj ⊢
  have : (p.mems.map (fun m => List.replicate m.words.toNat (0 : Int))).getD i [] = List.replicate (pF p i).words.toNat 0 := by
   simp [List.getD, List.getElem?_map, List.getElem?_eq_getElem hi]
  rw [this, cI]
  exact pG (hp.mw i hi).1
theorem Gv {c : Ci} (hc : aZ c) : ja c (ge c) where
 pl := by simp [ge, ap]
 cl := by simp [ge]
 pv := fun i hi => by
  show qF _ ((tab _ _).getD i bS)
  rw [az hi]; exact zD (hc.pr i hi)
 cv := fun n hn i hi => by
  have h0 : xK (ge c) n = [] := by show (List.replicate _ _).getD n [] = []; exact cI
  rw [h0] at hi; simp at hi
 cc := fun n hn h1 h2 => by
  have h0 : xK (ge c) n = [] := by show (List.replicate _ _).getD n [] = []; exact cI
  rw [h0]
  simpa using hc.cp n hn
theorem KG {b : List Int} {i : Nat} {w : Int} {k : Nat} (h1 : 1 ≤ w) (h2 : w ≤ 62) : dn (mG b i w k) w := by
 unfold mG dn
 rw [dP (by omega) h2]
 have hp : (0 : Int) < 2 ^ w.toNat := Int.pow_pos (by omega)
 exact ⟨Int.emod_nonneg _ (by omega), by have := Int.emod_lt_of_pos (b.getD (i + (1 + k)) 0) hp; omega⟩
end Go.Proofs.YtckgpflobhpnpaaGreat
