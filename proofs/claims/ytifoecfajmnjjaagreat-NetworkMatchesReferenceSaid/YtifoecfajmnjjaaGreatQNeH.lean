/-
  Circuits, plain data: what the loops of a firing keep.
-/
import Derived.Test.YtifoecfajmnjjaaGreatQNeF
namespace Go.Proofs.YtifoecfajmnjjaaGreat
open Go.RowKit
set_option linter.unusedVariables false
set_option linter.unusedSimpArgs false
abbrev d8 : Fi := ⟨false, ⟨[], []⟩, [], []⟩
def cy (k : Int) (q : Nat) : Bool := decide ((q : Int) = k)
def aF (c : Ci) (cl : ByteArray) (q : Nat) : Bool := (bR c q).clock.toList == cl.toList
def Df (c : Ci) (s : Ns) (w : Nat → Bool) (p : Nat) : Fi := if w p = true then ab c s p else d8
section
variable {c : Ci} {s : Ns} {w : Nat → Bool} {i k : Nat}
theorem EN (h : (!w i) = true) : ax c s w i = false := by
 unfold ax; cases hw : w i
 ·rfl
 ·rw [hw] at h; cases h
theorem zY (h : fN c s i = false) : ax c s w i = false := by unfold ax; rw [h, Bool.and_false]
theorem zZ (h : (!w i) = false) (h2 : fN c s i = true) : ax c s w i = true := by
 unfold ax; cases hw : w i
 ·rw [hw] at h; cases h
 ·rw [h2]; rfl
theorem Jc (h : ax c s w i = true) : w i = true ∧ fN c s i = true := by unfold ax at h; simpa using h
theorem vo (h : ax c s w i = false) : zL s i = cb c s w i := by unfold cb; rw [if_neg (by rw [h]; simp)]
theorem z3 (h : ax c s w i = true) : (ab c s i).s = cb c s w i := by unfold cb; rw [if_pos h]
theorem GZ (h : (!w i) = true) : d8 = Df c s w i := by
 unfold Df; cases hw : w i
 ·rw [if_neg (by simp)]
 ·rw [hw] at h; cases h
theorem wM (h : (!w i) = false) : ab c s i = Df c s w i := by
 unfold Df; cases hw : w i
 ·rw [hw] at h; cases h
 ·rw [if_pos rfl]
theorem mG (h : ax c s w i = false) : eW c s w (i + 1) = eW c s w i := by rw [eW, if_neg (by rw [h]; simp), List.append_nil]
theorem tr (h : ax c s w i = true) : eW c s w (i + 1) = eW c s w i ++ kY (bR c i) (ab c s i) (bR c i).takes.length := by rw [eW, if_pos h]
theorem sf (h : ax c s w i = false) : iY c s w (i + 1) = iY c s w i := by rw [iY, if_neg (by rw [h]; simp), List.append_nil]
theorem ts (h : ax c s w i = true) : iY c s w (i + 1) = iY c s w i ++ lf (bR c i) (ab c s i) (bR c i).puts.length := by rw [iY, if_pos h]
theorem z4 {p : Pr} {f : Fi} (h : f.pops.getD k false = false) : kY p f (k + 1) = kY p f k := by rw [kY, if_neg (by rw [h]; simp), List.append_nil]
theorem wN {p : Pr} {f : Fi} (h : f.pops.getD k false = true) : kY p f (k + 1) = kY p f k ++ [wz p k] := by rw [kY, if_pos h]
theorem z5 {p : Pr} {f : Fi} (h : (f.puts.getD k aK).has = false) : lf p f (k + 1) = lf p f k := by rw [lf, if_neg (by rw [h]; simp), List.append_nil]
theorem wO {p : Pr} {f : Fi} (h : (f.puts.getD k aK).has = true) : lf p f (k + 1) = lf p f k ++ [(u4 p k, (f.puts.getD k aK).v)] := by rw [lf, if_pos h]
theorem jd (l : List (List Int)) (a b : List Nat) : bf (bf l a) b = bf l (a ++ b) := by simp [bf, List.foldl_append]
theorem je (l : List (List Int)) (a b : List (Nat × Int)) : bE (bE l a) b = bE l (a ++ b) := by simp [bE, List.foldl_append]
theorem wP {p : Pr} {f : Fi} : ∀ {k : Nat}, (lf p f k).length ≤ k
 | 0 => Nat.le_refl _
 | k + 1 => by
  rw [lf, List.length_append]
  have := wP (p := p) (f := f) (k := k)
  split <;> simp <;> omega
theorem yi (hc : bK c) : ∀ {P : Nat}, P ≤ c.procs.length → (iY c s w P).length ≤ 100 * P
 | 0, _ => Nat.le_refl _
 | P + 1, h => by
  rw [iY, List.length_append]
  have := yi hc (P := P) (by omega)
  have h2 := wP (p := bR c P) (f := ab c s P) (k := (bR c P).puts.length)
  have h3 := (hc.pr P (by omega)).pl
  split
  ·omega
  ·simp only [List.length_nil]; omega
theorem Gc (ev : List (Nat × Int)) (l : List (List Int)) (n : Nat) (hn : n < l.length) : ((bE l ev).getD n []).length ≤ (l.getD n []).length + ev.length := by
 rw [rD ev l n hn, List.length_append, List.length_map]
 have := List.length_filter_le (fun e : Nat × Int => e.1 == n) ev
 omega
theorem Gd (ev : List Nat) (l : List (List Int)) (n : Nat) (hn : n < l.length) : ((bf l ev).getD n []).length ≤ (l.getD n []).length := by
 rw [lM ev l n hn, List.length_drop]; omega
theorem HQ (hc : bK c) (hi : i < c.procs.length) (hk : k < (bR c i).takes.length) {f : Fi} : (eW c s w i ++ kY (bR c i) f k).count (wz (bR c i) k) = 0 := by
 rw [List.count_eq_zero]
 intro hm
 rcases List.mem_append.1 hm with hm | hm
 ·obtain ⟨p, h1, _, h3⟩ := ya hm
  have h4 := (Bo hc (show p < c.procs.length by omega) (Nat.le_refl _) h3).2
  have h5 := (hc.tk i hi k hk).2.2.2
  have h6 : ((p : Nat) : Int) = (i : Int) := h4.symm.trans h5
  omega
 ·obtain ⟨j, h1, _, h3⟩ := pJ hm
  have := hc.td i hi j k (by omega) hk h3
  omega
theorem CG (hcan : fN c s i = true) (hk : k < (bR c i).takes.length) (hpop : (ab c s i).pops.getD k false = true) : 0 < (iX s (wz (bR c i) k)).length := by
 rw [zM] at hcan
 unfold ab at hpop
 rw [wx hcan] at hpop
 simp only at hpop
 rw [bq hk] at hpop
 unfold gA at hcan
 rw [Bool.and_eq_true, bQ] at hcan
 have h1 := hcan.1 k hk
 unfold iW at h1
 unfold pz at hpop
 rw [hpop] at h1
 simp only [Bool.not_true, Bool.or_false] at h1
 rw [cS, bq hk] at h1
 unfold b9 at h1
 split at h1
 ·assumption
 ·cases h1
theorem yj (hc : bK c) (hl : s.chans.length = c.chans.length) (hi : i < c.procs.length) (hcan : fN c s i = true) (hk : k < (bR c i).takes.length) (hpop : (ab c s i).pops.getD k false = true) :
  1 ≤ ((bf s.chans (eW c s w i ++ kY (bR c i) (ab c s i) k)).getD (wz (bR c i) k) []).length := by
 have h1 := hc.tk i hi k hk
 rw [lM _ _ _ (by rw [hl]; show ((lG (bR c i) k).chan).toNat < _; omega), HQ hc hi hk]
 exact CG hcan hk hpop
theorem Bw {m n : Nat} (hc : bK c) (hl : s.chans.length = c.chans.length) (hsm : fD s 4294967296) (hi : i < c.procs.length) (hm : m ≤ (bR c i).puts.length) (hn : n < c.chans.length) :
  ((bE (bf s.chans (eW c s w c.procs.length)) (iY c s w i ++ lf (bR c i) (ab c s i) m)).getD n []).length + 1 ≤ 137438953472 := by
 have h1 := Gc (iY c s w i ++ lf (bR c i) (ab c s i) m) (bf s.chans (eW c s w c.procs.length)) n (by rw [cE]; omega)
 have h2 := Gd (eW c s w c.procs.length) s.chans n (by omega)
 have h3 : (s.chans.getD n []).length ≤ 4294967296 := hsm n
 have h4 := yi hc (s := s) (w := w) (P := i) (by omega)
 have h5 := wP (p := bR c i) (f := ab c s i) (k := m)
 have h6 := (hc.pr i hi).pl
 have h7 := hc.nl
 rw [List.length_append] at h1
 omega
end
theorem tu (p : Nat) : cy (p : Int) = vf p := funext fun q => by
 unfold cy vf
 by_cases h : q = p
 ·rw [decide_eq_true h, decide_eq_true (by omega)]
 ·rw [decide_eq_false h, decide_eq_false (by omega)]
theorem gC {c : Ci} {s : Ns} {w : Nat → Bool} (hc : bK c) {k : Nat} (h : fD s k) : fD (aD c s w) (k + 1) := by
 intro n
 by_cases hn : n < c.chans.length
 ·rw [pO c s w hn]
  unfold fq
  rw [List.length_append, List.length_drop]
  have h1 : (iX s n).length ≤ k := h n
  have h2 : (fp c s w n).length ≤ 1 := by
   unfold fp; split
   ·exact tp hc n
   ·simp
  omega
 ·have : iX (aD c s w) n = [] := by show (aq _ _).getD n [] = []; exact Bd (by omega)
  rw [this]; simp
def yk (c : Ci) (s : Ns) (k : Int) : Bool := yg (aq (ax c s (cy k)) c.procs.length) true
theorem Ge {l : List Bool} {i : Nat} (hi : i < l.length) (h : l.getD i false = true) : yg l true = true := by
 unfold yg HG
 rw [kq, f6 hi (by rw [h]; rfl)]; rfl
theorem z6 {l : List Bool} (h : ∀ i, i < l.length → l.getD i false = false) : yg l true = false := by
 unfold yg HG
 rw [kq, bQ.2 (fun i hi => by rw [h i hi]; rfl)]; rfl
theorem EO (c : Ci) (s : Ns) (k : Int) : yk c s k = cf c s k := by
 unfold yk cf
 by_cases h0 : 0 ≤ k
 ·by_cases h1 : k < c.procs.length
  ·rw [decide_eq_true h0, decide_eq_true h1, Bool.true_and, Bool.true_and]
   have hk : cy k k.toNat = true := by unfold cy; exact decide_eq_true (by omega)
   cases hcan : fN c s k.toNat
   ·refine z6 (fun i hi => ?_)
    rw [aO] at hi
    rw [bq hi]
    unfold ax
    by_cases e : i = k.toNat
    ·rw [e, hcan, Bool.and_false]
    ·rw [show cy k i = false by unfold cy; exact decide_eq_false (by omega)]; rfl
   ·exact Ge (i := k.toNat) (by rw [aO]; omega) (by rw [bq (by omega)]; unfold ax; rw [hk, hcan]; rfl)
  ·rw [decide_eq_false h1, Bool.false_and, Bool.and_false]
   refine z6 (fun i hi => ?_)
   rw [aO] at hi
   rw [bq hi]; unfold ax
   rw [show cy k i = false by unfold cy; exact decide_eq_false (by omega)]; rfl
 ·rw [decide_eq_false h0, Bool.false_and]
  refine z6 (fun i hi => ?_)
  rw [aO] at hi
  rw [bq hi]; unfold ax
  rw [show cy k i = false by unfold cy; exact decide_eq_false (by omega)]; rfl
theorem jB {c : Ci} {s : Ns} {p : Int} (h : ¬0 ≤ p) : cf c s p = false := by unfold cf; rw [decide_eq_false h]; rfl
theorem jC {c : Ci} {s : Ns} {p : Int} (h : ¬p < c.procs.length) : cf c s p = false := by unfold cf; rw [decide_eq_false h, Bool.false_and, Bool.and_false]
theorem kr {c : Ci} {s : Ns} {p : Int} (h : 0 ≤ p) (h2 : p < c.procs.length) : cf c s p = (ab c s p.toNat).fires := by unfold cf; rw [decide_eq_true h, decide_eq_true h2]; rfl
def co (c : Ci) (s : Ns) (l : List ByteArray) : Ns := l.foldl (fun s cl => aD c s (aF c cl)) s
theorem yl {c : Ci} {s : Ns} {l : List ByteArray} {i : Nat} (h : i < l.length) : co c s (l.take (i + 1)) = aD c (co c s (l.take i)) (aF c (l.getD i .empty)) := by
 unfold co
 rw [List.take_succ_eq_append_getElem h, List.foldl_append]
 simp [List.getD, List.getElem?_eq_getElem h]
def aQ (c : Ci) (s : Ns) (b : Int) : Ns × List Int × Int := cB c b.toNat s (List.replicate c.procs.length 0)
theorem wQ {f : Ch → Int} {c : Ci} {n : Int} (h : dF f c n = true) : 0 ≤ n ∧ n < c.chans.length ∧ f (fF c n.toNat) = -1 := by unfold dF at h; simpa using h
def ak (c : Ci) (s : Ns) (n : Int) (ws : List Int) : Ns × Int := if dF (·.frm) c n = true ∧ b6 ws (fF c n.toNat).w = true then (⟨s.procs, s.chans.set n.toNat (iX s n.toNat ++ ws)⟩, 0) else (GY, 1)
theorem lR {c : Ci} {s : Ns} {n : Int} {ws : List Int} (h : ¬dF (·.frm) c n = true) : ak c s n ws = (GY, 1) := if_neg (fun q => h q.1)
theorem fu {c : Ci} {s : Ns} {n : Int} {ws : List Int} (h : ¬b6 ws (fF c n.toNat).w = true) : ak c s n ws = (GY, 1) := if_neg (fun q => h q.2)
theorem pR {c : Ci} {s : Ns} {n : Int} {ws : List Int} (h : dF (·.frm) c n = true) (h2 : b6 ws (fF c n.toNat).w = true) : ak c s n ws = (⟨s.procs, s.chans.set n.toNat (iX s n.toNat ++ ws)⟩, 0) := if_pos ⟨h, h2⟩
def aH (c : Ci) (s : Ns) (n : Int) : List Int × Ns × Int := if dF (·.dst) c n = true then (iX s n.toNat, ⟨s.procs, s.chans.set n.toNat []⟩, 0) else ([], GY, 1)
theorem pS {c : Ci} {s : Ns} {n : Int} (h : ¬dF (·.dst) c n = true) : aH c s n = ([], GY, 1) := if_neg h
theorem dG {c : Ci} {s : Ns} {n : Int} (h : dF (·.dst) c n = true) : aH c s n = (iX s n.toNat, ⟨s.procs, s.chans.set n.toNat []⟩, 0) := if_pos h
theorem qX {c : Ci} {s : Ns} {p : Nat} (h : p < c.procs.length) : cf c s (p : Int) = fN c s p := by
 rw [kr (by omega) (by omega)]; rfl
theorem ym {cnt : List Int} {p : Nat} {b d : Int} (h : ∀ z, 0 ≤ cnt.getD z 0 ∧ cnt.getD z 0 ≤ b - d) (hd : 0 < d) : ∀ z, 0 ≤ (cnt.set p (cnt.getD p 0 + 1)).getD z 0 ∧ (cnt.set p (cnt.getD p 0 + 1)).getD z 0 ≤ b - (d - 1) := by
 intro z
 by_cases hp : p < cnt.length
 ·rw [bV hp]
  have h1 := h p
  have h2 := h z
  split <;> omega
 ·rw [List.set_eq_of_length_le (by omega)]
  have h2 := h z
  omega
end Go.Proofs.YtifoecfajmnjjaaGreat
