/-
  Circuits, plain data: what the loops of a firing keep.
-/
import Derived.Test.YtgmpoenfoacofaaGreatQGrw
namespace Go.Proofs.YtgmpoenfoacofaaGreat
open Go.RowKit
set_option linter.unusedVariables false
set_option linter.unusedSimpArgs false
abbrev kQ : Fi := ⟨false, ⟨[], []⟩, [], []⟩
def qU (k : Int) (q : Nat) : Bool := decide ((q : Int) = k)
def cG (c : Ci) (cl : ByteArray) (q : Nat) : Bool := (bI c q).clock.toList == cl.toList
def Iu (c : Ci) (s : Ns) (w : Nat → Bool) (p : Nat) : Fi := if w p = true then ab c s p else kQ
section
variable {c : Ci} {s : Ns} {w : Nat → Bool} {i k : Nat}
theorem Iv (h : (!w i) = true) : aC c s w i = false := by
 unfold aC; cases hw : w i
 ·rfl
 ·rw [hw] at h; cases h
theorem FO (h : cS c s i = false) : aC c s w i = false := by unfold aC; rw [h, Bool.and_false]
theorem FP (h : (!w i) = false) (h2 : cS c s i = true) : aC c s w i = true := by
 unfold aC; cases hw : w i
 ·rw [hw] at h; cases h
 ·rw [h2]; rfl
theorem L1 (h : aC c s w i = true) : w i = true ∧ cS c s i = true := by unfold aC at h; simpa using h
theorem Ca (h : aC c s w i = false) : xy s i = bD c s w i := by unfold bD; rw [if_neg (by rw [h]; simp)]
theorem FQ (h : aC c s w i = true) : (ab c s i).s = bD c s w i := by unfold bD; rw [if_pos h]
theorem Kz (h : (!w i) = true) : kQ = Iu c s w i := by
 unfold Iu; cases hw : w i
 ·rw [if_neg (by simp)]
 ·rw [hw] at h; cases h
theorem FR (h : (!w i) = false) : ab c s i = Iu c s w i := by
 unfold Iu; cases hw : w i
 ·rw [hw] at h; cases h
 ·rw [if_pos rfl]
theorem sx (h : aC c s w i = false) : fZ c s w (i + 1) = fZ c s w i := by rw [fZ, if_neg (by rw [h]; simp), List.append_nil]
theorem zi (h : aC c s w i = true) : fZ c s w (i + 1) = fZ c s w i ++ nM (bI c i) (ab c s i) (bI c i).takes.length := by rw [fZ, if_pos h]
theorem xK (h : aC c s w i = false) : je c s w (i + 1) = je c s w i := by rw [je, if_neg (by rw [h]; simp), List.append_nil]
theorem zj (h : aC c s w i = true) : je c s w (i + 1) = je c s w i ++ nN (bI c i) (ab c s i) (bI c i).puts.length := by rw [je, if_pos h]
theorem FS {p : Pr} {f : Fi} (h : f.pops.getD k false = false) : nM p f (k + 1) = nM p f k := by rw [nM, if_neg (by rw [h]; simp), List.append_nil]
theorem Cb {p : Pr} {f : Fi} (h : f.pops.getD k false = true) : nM p f (k + 1) = nM p f k ++ [vb p k] := by rw [nM, if_pos h]
theorem FT {p : Pr} {f : Fi} (h : (f.puts.getD k aU).has = false) : nN p f (k + 1) = nN p f k := by rw [nN, if_neg (by rw [h]; simp), List.append_nil]
theorem Cc {p : Pr} {f : Fi} (h : (f.puts.getD k aU).has = true) : nN p f (k + 1) = nN p f k ++ [(uW p k, (f.puts.getD k aU).v)] := by rw [nN, if_pos h]
theorem rJ (l : List (List Int)) (a b : List Nat) : bv (bv l a) b = bv l (a ++ b) := by simp [bv, List.foldl_append]
theorem rK (l : List (List Int)) (a b : List (Nat × Int)) : b4 (b4 l a) b = b4 l (a ++ b) := by simp [b4, List.foldl_append]
theorem xL {p : Pr} {f : Fi} : ∀ {k : Nat}, (nN p f k).length ≤ k
 | 0 => Nat.le_refl _
 | k + 1 => by
  rw [nN, List.length_append]
  have := xL (p := p) (f := f) (k := k)
  split <;> simp <;> omega
theorem zk (hc : a8 c) : ∀ {P : Nat}, P ≤ c.procs.length → (je c s w P).length ≤ 100 * P
 | 0, _ => Nat.le_refl _
 | P + 1, h => by
  rw [je, List.length_append]
  have := zk hc (P := P) (by omega)
  have h2 := xL (p := bI c P) (f := ab c s P) (k := (bI c P).puts.length)
  have h3 := (hc.pr P (by omega)).pl
  split
  ·omega
  ·simp only [List.length_nil]; omega
theorem Ht (ev : List (Nat × Int)) (l : List (List Int)) (n : Nat) (hn : n < l.length) : ((b4 l ev).getD n []).length ≤ (l.getD n []).length + ev.length := by
 rw [rI ev l n hn, List.length_append, List.length_map]
 have := List.length_filter_le (fun e : Nat × Int => e.1 == n) ev
 omega
theorem Hu (ev : List Nat) (l : List (List Int)) (n : Nat) (hn : n < l.length) : ((bv l ev).getD n []).length ≤ (l.getD n []).length := by
 rw [lu ev l n hn, List.length_drop]; omega
theorem Jr (hc : a8 c) (hi : i < c.procs.length) (hk : k < (bI c i).takes.length) {f : Fi} : (fZ c s w i ++ nM (bI c i) f k).count (vb (bI c i) k) = 0 := by
 rw [List.count_eq_zero]
 intro hm
 rcases List.mem_append.1 hm with hm | hm
 ·obtain ⟨p, h1, _, h3⟩ := zb hm
  have h4 := (B2 hc (show p < c.procs.length by omega) (Nat.le_refl _) h3).2
  have h5 := (hc.tk i hi k hk).2.2.2
  have h6 : ((p : Nat) : Int) = (i : Int) := h4.symm.trans h5
  omega
 ·obtain ⟨j, h1, _, h3⟩ := px hm
  have := hc.td i hi j k (by omega) hk h3
  omega
theorem DP (hcan : cS c s i = true) (hk : k < (bI c i).takes.length) (hpop : (ab c s i).pops.getD k false = true) : 0 < (ef s (vb (bI c i) k)).length := by
 rw [tZ] at hcan
 unfold ab at hpop
 rw [xw hcan] at hpop
 simp only at hpop
 rw [bj hk] at hpop
 unfold ff at hcan
 rw [Bool.and_eq_true, br] at hcan
 have h1 := hcan.1 k hk
 unfold gG at h1
 unfold ll at hpop
 rw [hpop] at h1
 simp only [Bool.not_true, Bool.or_false] at h1
 rw [ck, bj hk] at h1
 unfold bS at h1
 split at h1
 ·assumption
 ·cases h1
theorem FU (hc : a8 c) (hl : s.chans.length = c.chans.length) (hi : i < c.procs.length) (hcan : cS c s i = true) (hk : k < (bI c i).takes.length) (hpop : (ab c s i).pops.getD k false = true) :
  1 ≤ ((bv s.chans (fZ c s w i ++ nM (bI c i) (ab c s i) k)).getD (vb (bI c i) k) []).length := by
 have h1 := hc.tk i hi k hk
 rw [lu _ _ _ (by rw [hl]; show ((kJ (bI c i) k).chan).toNat < _; omega), Jr hc hi hk]
 exact DP hcan hk hpop
theorem Hv {m n : Nat} (hc : a8 c) (hl : s.chans.length = c.chans.length) (hsm : ir s 4294967296) (hi : i < c.procs.length) (hm : m ≤ (bI c i).puts.length) (hn : n < c.chans.length) :
  ((b4 (bv s.chans (fZ c s w c.procs.length)) (je c s w i ++ nN (bI c i) (ab c s i) m)).getD n []).length + 1 ≤ 137438953472 := by
 have h1 := Ht (je c s w i ++ nN (bI c i) (ab c s i) m) (bv s.chans (fZ c s w c.procs.length)) n (by rw [eh]; omega)
 have h2 := Hu (fZ c s w c.procs.length) s.chans n (by omega)
 have h3 : (s.chans.getD n []).length ≤ 4294967296 := hsm n
 have h4 := zk hc (s := s) (w := w) (P := i) (by omega)
 have h5 := xL (p := bI c i) (f := ab c s i) (k := m)
 have h6 := (hc.pr i hi).pl
 have h7 := hc.nl
 rw [List.length_append] at h1
 omega
end
theorem zl (p : Nat) : qU (p : Int) = aH p := funext fun q => by
 unfold qU aH
 by_cases h : q = p
 ·rw [decide_eq_true h, decide_eq_true (by omega)]
 ·rw [decide_eq_false h, decide_eq_false (by omega)]
theorem qV {c : Ci} {s : Ns} {w : Nat → Bool} (hc : a8 c) {k : Nat} (h : ir s k) : ir (aF c s w) (k + 1) := by
 intro n
 by_cases hn : n < c.chans.length
 ·rw [en c s w hn]
  unfold cy
  rw [List.length_append, List.length_drop]
  have h1 : (ef s n).length ≤ k := h n
  have h2 : (cb c s w n).length ≤ 1 := by
   unfold cb; split
   ·exact t0 hc n
   ·simp
  omega
 ·have : ef (aF c s w) n = [] := by show (tab _ _).getD n [] = []; exact Hi (by omega)
  rw [this]; simp
theorem t8 {c : Ci} {s : Ns} {p : Int} (h : ¬0 ≤ p) : gI c s p = false := by unfold gI; rw [decide_eq_false h]; rfl
theorem t9 {c : Ci} {s : Ns} {p : Int} (h : ¬p < c.procs.length) : gI c s p = false := by unfold gI; rw [decide_eq_false h, Bool.false_and, Bool.and_false]
theorem sy {c : Ci} {s : Ns} {p : Int} (h : 0 ≤ p) (h2 : p < c.procs.length) : gI c s p = (ab c s p.toNat).fires := by unfold gI; rw [decide_eq_true h, decide_eq_true h2]; rfl
def aq (c : Ci) (s : Ns) (l : List ByteArray) : Ns := l.foldl (fun s cl => aF c s (cG c cl)) s
theorem FV {c : Ci} {s : Ns} {l : List ByteArray} {i : Nat} (h : i < l.length) : aq c s (l.take (i + 1)) = aF c (aq c s (l.take i)) (cG c (l.getD i .empty)) := by
 unfold aq
 rw [List.take_succ_eq_append_getElem h, List.foldl_append]
 simp [List.getD, List.getElem?_eq_getElem h]
def bC (c : Ci) (s : Ns) (b : Int) : Ns × List Int × Int := cC c b.toNat s (List.replicate c.procs.length 0)
theorem Cd {f : Ch → Int} {c : Ci} {n : Int} (h : iE f c n = true) : 0 ≤ n ∧ n < c.chans.length ∧ f (cL c n.toNat) = -1 := by unfold iE at h; simpa using h
def aW (c : Ci) (s : Ns) (n : Int) (ws : List Int) : Ns × Int := if iE (·.frm) c n = true ∧ cE ws (cL c n.toNat).w = true then (⟨s.procs, s.chans.set n.toNat (ef s n.toNat ++ ws)⟩, 0) else (FF, 1)
theorem ub {c : Ci} {s : Ns} {n : Int} {ws : List Int} (h : ¬iE (·.frm) c n = true) : aW c s n ws = (FF, 1) := if_neg (fun q => h q.1)
theorem ud {c : Ci} {s : Ns} {n : Int} {ws : List Int} (h : ¬cE ws (cL c n.toNat).w = true) : aW c s n ws = (FF, 1) := if_neg (fun q => h q.2)
theorem pD {c : Ci} {s : Ns} {n : Int} {ws : List Int} (h : iE (·.frm) c n = true) (h2 : cE ws (cL c n.toNat).w = true) : aW c s n ws = (⟨s.procs, s.chans.set n.toNat (ef s n.toNat ++ ws)⟩, 0) := if_pos ⟨h, h2⟩
theorem xM {c : Ci} {s : Ns} {p : Nat} (h : p < c.procs.length) : gI c s (p : Int) = cS c s p := by
 rw [sy (by omega) (by omega)]; rfl
theorem FW {cnt : List Int} {p : Nat} {b d : Int} (h : ∀ z, 0 ≤ cnt.getD z 0 ∧ cnt.getD z 0 ≤ b - d) (hd : 0 < d) : ∀ z, 0 ≤ (cnt.set p (cnt.getD p 0 + 1)).getD z 0 ∧ (cnt.set p (cnt.getD p 0 + 1)).getD z 0 ≤ b - (d - 1) := by
 intro z
 by_cases hp : p < cnt.length
 ·rw [bX hp]
  have h1 := h p
  have h2 := h z
  split <;> omega
 ·rw [List.set_eq_of_length_le (by omega)]
  have h2 := h z
  omega
end Go.Proofs.YtgmpoenfoacofaaGreat
