/-
  Circuits, plain data: what the loops of a firing keep.
-/
import Derived.Test.YtnlmlkbaflmgcaaQNeF
namespace Go.Proofs.Ytnlmlkbaflmgcaa
open Go.RowKit
set_option linter.unusedVariables false
set_option linter.unusedSimpArgs false
def ti (k : Int) (q : Nat) : Bool := decide ((q : Int) = k)
section
variable {c : Ci} {s : Ns} {w : Nat → Bool} {i k : Nat}
theorem JH (h : (!w i) = true) : br c s w i = false := by
 unfold br; cases hw : w i
 ·rfl
 ·rw [hw] at h; cases h
theorem H8 (h : w5 c s i = false) : br c s w i = false := by unfold br; rw [h, Bool.and_false]
theorem H9 (h : (!w i) = false) (h2 : w5 c s i = true) : br c s w i = true := by
 unfold br; cases hw : w i
 ·rw [hw] at h; cases h
 ·rw [h2]; rfl
theorem Hh (h : br c s w i = false) : xZ s i = cL c s w i := by unfold cL; rw [if_neg (by rw [h]; simp)]
theorem Ia (h : br c s w i = true) : (az c s i).s = cL c s w i := by unfold cL; rw [if_pos h]
theorem AK (h : br c s w i = false) : pD c s w (i + 1) = pD c s w i := by rw [pD, if_neg (by rw [h]; simp), List.append_nil]
theorem Ee (h : br c s w i = true) : pD c s w (i + 1) = pD c s w i ++ sW (aZ c i) (az c s i) (aZ c i).takes.length := by rw [pD, if_pos h]
theorem AL (h : br c s w i = false) : ng c s w (i + 1) = ng c s w i := by rw [ng, if_neg (by rw [h]; simp), List.append_nil]
theorem Ef (h : br c s w i = true) : ng c s w (i + 1) = ng c s w i ++ sX (aZ c i) (az c s i) (aZ c i).puts.length := by rw [ng, if_pos h]
theorem Ib {p : Pr} {f : Fi} (h : f.pops.getD k false = false) : sW p f (k + 1) = sW p f k := by rw [sW, if_neg (by rw [h]; simp), List.append_nil]
theorem Gb {p : Pr} {f : Fi} (h : f.pops.getD k false = true) : sW p f (k + 1) = sW p f k ++ [ue p k] := by rw [sW, if_pos h]
theorem Ic {p : Pr} {f : Fi} (h : (f.puts.getD k cC).has = false) : sX p f (k + 1) = sX p f k := by rw [sX, if_neg (by rw [h]; simp), List.append_nil]
theorem Gc {p : Pr} {f : Fi} (h : (f.puts.getD k cC).has = true) : sX p f (k + 1) = sX p f k ++ [(qI p k, (f.puts.getD k cC).v)] := by rw [sX, if_pos h]
end
theorem Eg (p : Nat) : ti (p : Int) = DR p := funext fun q => by
 unfold ti DR
 by_cases h : q = p
 ·rw [decide_eq_true h, decide_eq_true (by omega)]
 ·rw [decide_eq_false h, decide_eq_false (by omega)]
theorem Eh {c : Ci} {s : Ns} {w : Nat → Bool} (hc : bS c) {k : Nat} (h : qq s k) : qq (cF c s w) (k + 1) := by
 intro n
 by_cases hn : n < c.chans.length
 ·rw [ow c s w hn]
  unfold ii
  rw [List.length_append, List.length_drop]
  have h1 : (jL s n).length ≤ k := h n
  have h2 : (gr c s w n).length ≤ 1 := by
   unfold gr; split
   ·exact sj hc n
   ·simp
  omega
 ·have : jL (cF c s w) n = [] := by show (tab _ _).getD n [] = []; exact vz (by omega)
  rw [this]; simp
theorem sq {c : Ci} {s : Ns} {p : Int} (h : ¬0 ≤ p) : ie c s p = false := by unfold ie; rw [decide_eq_false h]; rfl
theorem ss {c : Ci} {s : Ns} {p : Int} (h : ¬p < c.procs.length) : ie c s p = false := by unfold ie; rw [decide_eq_false h, Bool.false_and, Bool.and_false]
theorem qM {c : Ci} {s : Ns} {p : Int} (h : 0 ≤ p) (h2 : p < c.procs.length) : ie c s p = (az c s p.toNat).fires := by unfold ie; rw [decide_eq_true h, decide_eq_true h2]; rfl
theorem Ie {c : Ci} {s : Ns} {p : Nat} (h : p < c.procs.length) : ie c s (p : Int) = w5 c s p := by
 rw [qM (by omega) (by omega)]; rfl
end Go.Proofs.Ytnlmlkbaflmgcaa
