/-
  Circuits, plain data: what the loops of a firing keep.
-/
import Derived.Test.YtifoecfajmnjjaaGreatQNeF
namespace Go.Proofs.YtifoecfajmnjjaaGreat
open Go.RowKit
set_option linter.unusedVariables false
set_option linter.unusedSimpArgs false
abbrev d6 : Fi := ⟨false, ⟨[], []⟩, [], []⟩
def eF (k : Int) (q : Nat) : Bool := decide ((q : Int) = k)
def am (c : Ci) (cl : ByteArray) (q : Nat) : Bool := (ay c q).clock.toList == cl.toList
def BW (c : Ci) (s : Ns) (w : Nat → Bool) (p : Nat) : Fi := if w p = true then ab c s p else d6
section
variable {c : Ci} {s : Ns} {w : Nat → Bool} {i k : Nat}
theorem DC (h : (!w i) = true) : ai c s w i = false := by
 unfold ai; cases hw : w i
 ·rfl
 ·rw [hw] at h; cases h
theorem yV (h : iR c s i = false) : ai c s w i = false := by unfold ai; rw [h, Bool.and_false]
theorem yW (h : (!w i) = false) (h2 : iR c s i = true) : ai c s w i = true := by
 unfold ai; cases hw : w i
 ·rw [hw] at h; cases h
 ·rw [h2]; rfl
theorem GA (h : ai c s w i = true) : w i = true ∧ iR c s i = true := by unfold ai at h; simpa using h
theorem uw (h : ai c s w i = false) : yG s i = bX c s w i := by unfold bX; rw [if_neg (by rw [h]; simp)]
theorem yX (h : ai c s w i = true) : (ab c s i).s = bX c s w i := by unfold bX; rw [if_pos h]
theorem FN (h : (!w i) = true) : d6 = BW c s w i := by
 unfold BW; cases hw : w i
 ·rw [if_neg (by simp)]
 ·rw [hw] at h; cases h
theorem vQ (h : (!w i) = false) : ab c s i = BW c s w i := by
 unfold BW; cases hw : w i
 ·rw [hw] at h; cases h
 ·rw [if_pos rfl]
theorem ms (h : ai c s w i = false) : eZ c s w (i + 1) = eZ c s w i := by rw [eZ, if_neg (by rw [h]; simp), List.append_nil]
theorem sP (h : ai c s w i = true) : eZ c s w (i + 1) = eZ c s w i ++ fA (ay c i) (ab c s i) (ay c i).takes.length := by rw [eZ, if_pos h]
theorem rF (h : ai c s w i = false) : iT c s w (i + 1) = iT c s w i := by rw [iT, if_neg (by rw [h]; simp), List.append_nil]
theorem sQ (h : ai c s w i = true) : iT c s w (i + 1) = iT c s w i ++ fT (ay c i) (ab c s i) (ay c i).puts.length := by rw [iT, if_pos h]
theorem yY {p : Pr} {f : Fi} (h : f.pops.getD k false = false) : fA p f (k + 1) = fA p f k := by rw [fA, if_neg (by rw [h]; simp), List.append_nil]
theorem vR {p : Pr} {f : Fi} (h : f.pops.getD k false = true) : fA p f (k + 1) = fA p f k ++ [cf p k] := by rw [fA, if_pos h]
theorem yZ {p : Pr} {f : Fi} (h : (f.puts.getD k aG).has = false) : fT p f (k + 1) = fT p f k := by rw [fT, if_neg (by rw [h]; simp), List.append_nil]
theorem vS {p : Pr} {f : Fi} (h : (f.puts.getD k aG).has = true) : fT p f (k + 1) = fT p f k ++ [(bP p k, (f.puts.getD k aG).v)] := by rw [fT, if_pos h]
theorem i8 (l : List (List Int)) (a b : List Nat) : aN (aN l a) b = aN l (a ++ b) := by simp [aN, List.foldl_append]
theorem i9 (l : List (List Int)) (a b : List (Nat × Int)) : a6 (a6 l a) b = a6 l (a ++ b) := by simp [a6, List.foldl_append]
theorem rG {p : Pr} {f : Fi} : ∀ {k : Nat}, (fT p f k).length ≤ k
 | 0 => Nat.le_refl _
 | k + 1 => by
  rw [fT, List.length_append]
  have := rG (p := p) (f := f) (k := k)
  split <;> simp <;> omega
theorem xl (hc : bR c) : ∀ {P : Nat}, P ≤ c.procs.length → (iT c s w P).length ≤ 100 * P
 | 0, _ => Nat.le_refl _
 | P + 1, h => by
  rw [iT, List.length_append]
  have := xl hc (P := P) (by omega)
  have h2 := rG (p := ay c P) (f := ab c s P) (k := (ay c P).puts.length)
  have h3 := (hc.pr P (by omega)).pl
  split
  ·omega
  ·simp only [List.length_nil]; omega
theorem Am (ev : List (Nat × Int)) (l : List (List Int)) (n : Nat) (hn : n < l.length) : ((a6 l ev).getD n []).length ≤ (l.getD n []).length + ev.length := by
 rw [ly ev l n hn, List.length_append, List.length_map]
 have := List.length_filter_le (fun e : Nat × Int => e.1 == n) ev
 omega
theorem An (ev : List Nat) (l : List (List Int)) (n : Nat) (hn : n < l.length) : ((aN l ev).getD n []).length ≤ (l.getD n []).length := by
 rw [gr ev l n hn, List.length_drop]; omega
theorem GB (hc : bR c) (hi : i < c.procs.length) (hk : k < (ay c i).takes.length) {f : Fi} : (eZ c s w i ++ fA (ay c i) f k).count (cf (ay c i) k) = 0 := by
 rw [List.count_eq_zero]
 intro hm
 rcases List.mem_append.1 hm with hm | hm
 ·obtain ⟨p, h1, _, h3⟩ := xc hm
  have h4 := (vI hc (show p < c.procs.length by omega) (Nat.le_refl _) h3).2
  have h5 := (hc.tk i hi k hk).2.2.2
  have h6 : ((p : Nat) : Int) = (i : Int) := h4.symm.trans h5
  omega
 ·obtain ⟨j, h1, _, h3⟩ := me hm
  have := hc.td i hi j k (by omega) hk h3
  omega
theorem uz (hcan : iR c s i = true) (hk : k < (ay c i).takes.length) (hpop : (ab c s i).pops.getD k false = true) : 0 < (ir s (cf (ay c i) k)).length := by
 rw [yH] at hcan
 unfold ab at hpop
 rw [vD hcan] at hpop
 simp only at hpop
 rw [bA hk] at hpop
 unfold gC at hcan
 rw [Bool.and_eq_true, ck] at hcan
 have h1 := hcan.1 k hk
 unfold iQ at h1
 unfold ph at hpop
 rw [hpop] at h1
 simp only [Bool.not_true, Bool.or_false] at h1
 rw [cU, bA hk] at h1
 unfold b8 at h1
 split at h1
 ·assumption
 ·cases h1
theorem xm (hc : bR c) (hl : s.chans.length = c.chans.length) (hi : i < c.procs.length) (hcan : iR c s i = true) (hk : k < (ay c i).takes.length) (hpop : (ab c s i).pops.getD k false = true) :
  1 ≤ ((aN s.chans (eZ c s w i ++ fA (ay c i) (ab c s i) k)).getD (cf (ay c i) k) []).length := by
 have h1 := hc.tk i hi k hk
 rw [gr _ _ _ (by rw [hl]; show ((kS (ay c i) k).chan).toNat < _; omega), GB hc hi hk]
 exact uz hcan hk hpop
theorem Ao {m n : Nat} (hc : bR c) (hl : s.chans.length = c.chans.length) (hsm : kO s 4294967296) (hi : i < c.procs.length) (hm : m ≤ (ay c i).puts.length) (hn : n < c.chans.length) :
  ((a6 (aN s.chans (eZ c s w c.procs.length)) (iT c s w i ++ fT (ay c i) (ab c s i) m)).getD n []).length + 1 ≤ 137438953472 := by
 have h1 := Am (iT c s w i ++ fT (ay c i) (ab c s i) m) (aN s.chans (eZ c s w c.procs.length)) n (by rw [bf]; omega)
 have h2 := An (eZ c s w c.procs.length) s.chans n (by omega)
 have h3 : (s.chans.getD n []).length ≤ 4294967296 := hsm n
 have h4 := xl hc (s := s) (w := w) (P := i) (by omega)
 have h5 := rG (p := ay c i) (f := ab c s i) (k := m)
 have h6 := (hc.pr i hi).pl
 have h7 := hc.nl
 rw [List.length_append] at h1
 omega
end
theorem xn (p : Nat) : eF (p : Int) = xj p := funext fun q => by
 unfold eF xj
 by_cases h : q = p
 ·rw [decide_eq_true h, decide_eq_true (by omega)]
 ·rw [decide_eq_false h, decide_eq_false (by omega)]
theorem bU {c : Ci} {s : Ns} {w : Nat → Bool} (hc : bR c) {k : Nat} (h : kO s k) : kO (aD c s w) (k + 1) := by
 intro n
 by_cases hn : n < c.chans.length
 ·rw [pA c s w hn]
  unfold ff
  rw [List.length_append, List.length_drop]
  have h1 : (ir s n).length ≤ k := h n
  have h2 : (dk c s w n).length ≤ 1 := by
   unfold dk; split
   ·exact sL hc n
   ·simp
  omega
 ·have : ir (aD c s w) n = [] := by show (an _ _).getD n [] = []; exact EX (by omega)
  rw [this]; simp
def FO (c : Ci) (s : Ns) (k : Int) : Bool := E6 (an (ai c s (eF k)) c.procs.length) true
theorem jB {c : Ci} {s : Ns} {p : Int} (h : ¬0 ≤ p) : dj c s p = false := by unfold dj; rw [decide_eq_false h]; rfl
theorem jC {c : Ci} {s : Ns} {p : Int} (h : ¬p < c.procs.length) : dj c s p = false := by unfold dj; rw [decide_eq_false h, Bool.false_and, Bool.and_false]
theorem km {c : Ci} {s : Ns} {p : Int} (h : 0 ≤ p) (h2 : p < c.procs.length) : dj c s p = (ab c s p.toNat).fires := by unfold dj; rw [decide_eq_true h, decide_eq_true h2]; rfl
def cb (c : Ci) (s : Ns) (b : Int) : Ns × List Int × Int := fC c b.toNat s (List.replicate c.procs.length 0)
theorem vU {f : Ch → Int} {c : Ci} {n : Int} (h : fL f c n = true) : 0 ≤ n ∧ n < c.chans.length ∧ f (gx c n.toNat) = -1 := by unfold fL at h; simpa using h
def aI (c : Ci) (s : Ns) (n : Int) (ws : List Int) : Ns × Int := if fL (·.frm) c n = true ∧ cg ws (gx c n.toNat).w = true then (⟨s.procs, s.chans.set n.toNat (ir s n.toNat ++ ws)⟩, 0) else (HD, 1)
theorem sR {c : Ci} {s : Ns} {n : Int} {ws : List Int} (h : ¬fL (·.frm) c n = true) : aI c s n ws = (HD, 1) := if_neg (fun q => h q.1)
theorem sS {c : Ci} {s : Ns} {n : Int} {ws : List Int} (h : ¬cg ws (gx c n.toNat).w = true) : aI c s n ws = (HD, 1) := if_neg (fun q => h q.2)
theorem sT {c : Ci} {s : Ns} {n : Int} {ws : List Int} (h : fL (·.frm) c n = true) (h2 : cg ws (gx c n.toNat).w = true) : aI c s n ws = (⟨s.procs, s.chans.set n.toNat (ir s n.toNat ++ ws)⟩, 0) := if_pos ⟨h, h2⟩
def ci (c : Ci) (s : Ns) (n : Int) : List Int × Ns × Int := if fL (·.dst) c n = true then (ir s n.toNat, ⟨s.procs, s.chans.set n.toNat []⟩, 0) else ([], HD, 1)
theorem Ap {c : Ci} {s : Ns} {n : Int} (h : ¬fL (·.dst) c n = true) : ci c s n = ([], HD, 1) := if_neg h
theorem xo {c : Ci} {s : Ns} {n : Int} (h : fL (·.dst) c n = true) : ci c s n = (ir s n.toNat, ⟨s.procs, s.chans.set n.toNat []⟩, 0) := if_pos h
theorem vV {c : Ci} {s : Ns} {p : Nat} (h : p < c.procs.length) : dj c s (p : Int) = iR c s p := by
 rw [km (by omega) (by omega)]; rfl
theorem DD {cnt : List Int} {p : Nat} {b d : Int} (h : ∀ z, 0 ≤ cnt.getD z 0 ∧ cnt.getD z 0 ≤ b - d) (hd : 0 < d) : ∀ z, 0 ≤ (cnt.set p (cnt.getD p 0 + 1)).getD z 0 ∧ (cnt.set p (cnt.getD p 0 + 1)).getD z 0 ≤ b - (d - 1) := by
 intro z
 by_cases hp : p < cnt.length
 ·rw [b6 hp]
  have h1 := h p
  have h2 := h z
  split <;> omega
 ·rw [List.set_eq_of_length_le (by omega)]
  have h2 := h z
  omega
end Go.Proofs.YtifoecfajmnjjaaGreat
