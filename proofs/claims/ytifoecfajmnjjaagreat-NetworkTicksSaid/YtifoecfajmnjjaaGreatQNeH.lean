/-
  Circuits, plain data: what the loops of a firing keep.
-/
import Derived.Test.YtifoecfajmnjjaaGreatQNeF
namespace Go.Proofs.YtifoecfajmnjjaaGreat
open Go.RowKit
set_option linter.unusedVariables false
set_option linter.unusedSimpArgs false
abbrev dX : Fi := ⟨false, ⟨[], []⟩, [], []⟩
def cN (k : Int) (q : Nat) : Bool := decide ((q : Int) = k)
def aI (c : Ci) (cl : ByteArray) (q : Nat) : Bool := (bC c q).clock.toList == cl.toList
def BW (c : Ci) (s : Ns) (w : Nat → Bool) (p : Nat) : Fi := if w p = true then aa c s p else dX
section
variable {c : Ci} {s : Ns} {w : Nat → Bool} {i k : Nat}
theorem DA (h : (!w i) = true) : aq c s w i = false := by
 unfold aq; cases hw : w i
 ·rfl
 ·rw [hw] at h; cases h
theorem yN (h : dG c s i = false) : aq c s w i = false := by unfold aq; rw [h, Bool.and_false]
theorem yO (h : (!w i) = false) (h2 : dG c s i = true) : aq c s w i = true := by
 unfold aq; cases hw : w i
 ·rw [hw] at h; cases h
 ·rw [h2]; rfl
theorem HP (h : aq c s w i = true) : w i = true ∧ dG c s i = true := by unfold aq at h; simpa using h
theorem t9 (h : aq c s w i = false) : vp s i = bB c s w i := by unfold bB; rw [if_neg (by rw [h]; simp)]
theorem yP (h : aq c s w i = true) : (aa c s i).s = bB c s w i := by unfold bB; rw [if_pos h]
theorem FN (h : (!w i) = true) : dX = BW c s w i := by
 unfold BW; cases hw : w i
 ·rw [if_neg (by simp)]
 ·rw [hw] at h; cases h
theorem vE (h : (!w i) = false) : aa c s i = BW c s w i := by
 unfold BW; cases hw : w i
 ·rw [hw] at h; cases h
 ·rw [if_pos rfl]
theorem l7 (h : aq c s w i = false) : eI c s w (i + 1) = eI c s w i := by rw [eI, if_neg (by rw [h]; simp), List.append_nil]
theorem sx (h : aq c s w i = true) : eI c s w (i + 1) = eI c s w i ++ kB (bC c i) (aa c s i) (bC c i).takes.length := by rw [eI, if_pos h]
theorem rj (h : aq c s w i = false) : iz c s w (i + 1) = iz c s w i := by rw [iz, if_neg (by rw [h]; simp), List.append_nil]
theorem sy (h : aq c s w i = true) : iz c s w (i + 1) = iz c s w i ++ kE (bC c i) (aa c s i) (bC c i).puts.length := by rw [iz, if_pos h]
theorem yQ {p : Pr} {f : Fi} (h : f.pops.getD k false = false) : kB p f (k + 1) = kB p f k := by rw [kB, if_neg (by rw [h]; simp), List.append_nil]
theorem vG {p : Pr} {f : Fi} (h : f.pops.getD k false = true) : kB p f (k + 1) = kB p f k ++ [tb p k] := by rw [kB, if_pos h]
theorem yR {p : Pr} {f : Fi} (h : (f.puts.getD k aJ).has = false) : kE p f (k + 1) = kE p f k := by rw [kE, if_neg (by rw [h]; simp), List.append_nil]
theorem vH {p : Pr} {f : Fi} (h : (f.puts.getD k aJ).has = true) : kE p f (k + 1) = kE p f k ++ [(sZ p k, (f.puts.getD k aJ).v)] := by rw [kE, if_pos h]
theorem iP (l : List (List Int)) (a b : List Nat) : a8 (a8 l a) b = a8 l (a ++ b) := by simp [a8, List.foldl_append]
theorem iQ (l : List (List Int)) (a b : List (Nat × Int)) : bE (bE l a) b = bE l (a ++ b) := by simp [bE, List.foldl_append]
theorem vI {p : Pr} {f : Fi} : ∀ {k : Nat}, (kE p f k).length ≤ k
 | 0 => Nat.le_refl _
 | k + 1 => by
  rw [kE, List.length_append]
  have := vI (p := p) (f := f) (k := k)
  split <;> simp <;> omega
theorem xc (hc : bM c) : ∀ {P : Nat}, P ≤ c.procs.length → (iz c s w P).length ≤ 100 * P
 | 0, _ => Nat.le_refl _
 | P + 1, h => by
  rw [iz, List.length_append]
  have := xc hc (P := P) (by omega)
  have h2 := vI (p := bC c P) (f := aa c s P) (k := (bC c P).puts.length)
  have h3 := (hc.pr P (by omega)).pl
  split
  ·omega
  ·simp only [List.length_nil]; omega
theorem E6 (ev : List (Nat × Int)) (l : List (List Int)) (n : Nat) (hn : n < l.length) : ((bE l ev).getD n []).length ≤ (l.getD n []).length + ev.length := by
 rw [qI ev l n hn, List.length_append, List.length_map]
 have := List.length_filter_le (fun e : Nat × Int => e.1 == n) ev
 omega
theorem E7 (ev : List Nat) (l : List (List Int)) (n : Nat) (hn : n < l.length) : ((a8 l ev).getD n []).length ≤ (l.getD n []).length := by
 rw [lg ev l n hn, List.length_drop]; omega
theorem GB (hc : bM c) (hi : i < c.procs.length) (hk : k < (bC c i).takes.length) {f : Fi} : (eI c s w i ++ kB (bC c i) f k).count (tb (bC c i) k) = 0 := by
 rw [List.count_eq_zero]
 intro hm
 rcases List.mem_append.1 hm with hm | hm
 ·obtain ⟨p, h1, _, h3⟩ := wY hm
  have h4 := (z7 hc (show p < c.procs.length by omega) (Nat.le_refl _) h3).2
  have h5 := (hc.tk i hi k hk).2.2.2
  have h6 : ((p : Nat) : Int) = (i : Int) := h4.symm.trans h5
  omega
 ·obtain ⟨j, h1, _, h3⟩ := oU hm
  have := hc.td i hi j k (by omega) hk h3
  omega
theorem Br (hcan : dG c s i = true) (hk : k < (bC c i).takes.length) (hpop : (aa c s i).pops.getD k false = true) : 0 < (i4 s (tb (bC c i) k)).length := by
 rw [vq] at hcan
 unfold aa at hpop
 rw [vn hcan] at hpop
 simp only at hpop
 rw [bj hk] at hpop
 unfold fe at hcan
 rw [Bool.and_eq_true, bP] at hcan
 have h1 := hcan.1 k hk
 unfold gE at h1
 unfold kY at hpop
 rw [hpop] at h1
 simp only [Bool.not_true, Bool.or_false] at h1
 rw [cx, bj hk] at h1
 unfold bZ at h1
 split at h1
 ·assumption
 ·cases h1
theorem xd (hc : bM c) (hl : s.chans.length = c.chans.length) (hi : i < c.procs.length) (hcan : dG c s i = true) (hk : k < (bC c i).takes.length) (hpop : (aa c s i).pops.getD k false = true) :
  1 ≤ ((a8 s.chans (eI c s w i ++ kB (bC c i) (aa c s i) k)).getD (tb (bC c i) k) []).length := by
 have h1 := hc.tk i hi k hk
 rw [lg _ _ _ (by rw [hl]; show ((kt (bC c i) k).chan).toNat < _; omega), GB hc hi hk]
 exact Br hcan hk hpop
theorem Ag {m n : Nat} (hc : bM c) (hl : s.chans.length = c.chans.length) (hsm : i7 s 4294967296) (hi : i < c.procs.length) (hm : m ≤ (bC c i).puts.length) (hn : n < c.chans.length) :
  ((bE (a8 s.chans (eI c s w c.procs.length)) (iz c s w i ++ kE (bC c i) (aa c s i) m)).getD n []).length + 1 ≤ 137438953472 := by
 have h1 := E6 (iz c s w i ++ kE (bC c i) (aa c s i) m) (a8 s.chans (eI c s w c.procs.length)) n (by rw [cC]; omega)
 have h2 := E7 (eI c s w c.procs.length) s.chans n (by omega)
 have h3 : (s.chans.getD n []).length ≤ 4294967296 := hsm n
 have h4 := xc hc (s := s) (w := w) (P := i) (by omega)
 have h5 := vI (p := bC c i) (f := aa c s i) (k := m)
 have h6 := (hc.pr i hi).pl
 have h7 := hc.nl
 rw [List.length_append] at h1
 omega
end
theorem o7 (p : Nat) : cN (p : Int) = cP p := funext fun q => by
 unfold cN cP
 by_cases h : q = p
 ·rw [decide_eq_true h, decide_eq_true (by omega)]
 ·rw [decide_eq_false h, decide_eq_false (by omega)]
theorem gi {c : Ci} {s : Ns} {w : Nat → Bool} (hc : bM c) {k : Nat} (h : i7 s k) : i7 (aA c s w) (k + 1) := by
 intro n
 by_cases hn : n < c.chans.length
 ·rw [hY c s w hn]
  unfold cB
  rw [List.length_append, List.length_drop]
  have h1 : (i4 s n).length ≤ k := h n
  have h2 : (cI c s w n).length ≤ 1 := by
   unfold cI; split
   ·exact su hc n
   ·simp
  omega
 ·have : i4 (aA c s w) n = [] := by show (ap _ _).getD n [] = []; exact ET (by omega)
  rw [this]; simp
def xf (c : Ci) (s : Ns) (k : Int) : Bool := w8 (ap (aq c s (cN k)) c.procs.length) true
theorem E8 {l : List Bool} {i : Nat} (hi : i < l.length) (h : l.getD i false = true) : w8 l true = true := by
 unfold w8 Gs
 rw [jT, fN hi (by rw [h]; rfl)]; rfl
theorem yS {l : List Bool} (h : ∀ i, i < l.length → l.getD i false = false) : w8 l true = false := by
 unfold w8 Gs
 rw [jT, bP.2 (fun i hi => by rw [h i hi]; rfl)]; rfl
theorem DB (c : Ci) (s : Ns) (k : Int) : xf c s k = cM c s k := by
 unfold xf cM
 by_cases h0 : 0 ≤ k
 ·by_cases h1 : k < c.procs.length
  ·rw [decide_eq_true h0, decide_eq_true h1, Bool.true_and, Bool.true_and]
   have hk : cN k k.toNat = true := by unfold cN; exact decide_eq_true (by omega)
   cases hcan : dG c s k.toNat
   ·refine yS (fun i hi => ?_)
    rw [aR] at hi
    rw [bj hi]
    unfold aq
    by_cases e : i = k.toNat
    ·rw [e, hcan, Bool.and_false]
    ·rw [show cN k i = false by unfold cN; exact decide_eq_false (by omega)]; rfl
   ·exact E8 (i := k.toNat) (by rw [aR]; omega) (by rw [bj (by omega)]; unfold aq; rw [hk, hcan]; rfl)
  ·rw [decide_eq_false h1, Bool.false_and, Bool.and_false]
   refine yS (fun i hi => ?_)
   rw [aR] at hi
   rw [bj hi]; unfold aq
   rw [show cN k i = false by unfold cN; exact decide_eq_false (by omega)]; rfl
 ·rw [decide_eq_false h0, Bool.false_and]
  refine yS (fun i hi => ?_)
  rw [aR] at hi
  rw [bj hi]; unfold aq
  rw [show cN k i = false by unfold cN; exact decide_eq_false (by omega)]; rfl
theorem jk {c : Ci} {s : Ns} {p : Int} (h : ¬0 ≤ p) : cM c s p = false := by unfold cM; rw [decide_eq_false h]; rfl
theorem jl {c : Ci} {s : Ns} {p : Int} (h : ¬p < c.procs.length) : cM c s p = false := by unfold cM; rw [decide_eq_false h, Bool.false_and, Bool.and_false]
theorem jU {c : Ci} {s : Ns} {p : Int} (h : 0 ≤ p) (h2 : p < c.procs.length) : cM c s p = (aa c s p.toNat).fires := by unfold cM; rw [decide_eq_true h, decide_eq_true h2]; rfl
def fY (c : Ci) (s : Ns) (l : List ByteArray) : Ns := l.foldl (fun s cl => aA c s (aI c cl)) s
theorem DC {c : Ci} {s : Ns} {l : List ByteArray} {i : Nat} (h : i < l.length) : fY c s (l.take (i + 1)) = aA c (fY c s (l.take i)) (aI c (l.getD i .empty)) := by
 unfold fY
 rw [List.take_succ_eq_append_getElem h, List.foldl_append]
 simp [List.getD, List.getElem?_eq_getElem h]
def b8 (c : Ci) (s : Ns) (b : Int) : Ns × List Int × Int := fh c b.toNat s (List.replicate c.procs.length 0)
theorem vJ {f : Ch → Int} {c : Ci} {n : Int} (h : ft f c n = true) : 0 ≤ n ∧ n < c.chans.length ∧ f (f6 c n.toNat) = -1 := by unfold ft at h; simpa using h
def aF (c : Ci) (s : Ns) (n : Int) (ws : List Int) : Ns × Int := if ft (·.frm) c n = true ∧ b9 ws (f6 c n.toNat).w = true then (⟨s.procs, s.chans.set n.toNat (i4 s n.toNat ++ ws)⟩, 0) else (HG, 1)
theorem sA {c : Ci} {s : Ns} {n : Int} {ws : List Int} (h : ¬ft (·.frm) c n = true) : aF c s n ws = (HG, 1) := if_neg (fun q => h q.1)
theorem sB {c : Ci} {s : Ns} {n : Int} {ws : List Int} (h : ¬b9 ws (f6 c n.toNat).w = true) : aF c s n ws = (HG, 1) := if_neg (fun q => h q.2)
theorem sC {c : Ci} {s : Ns} {n : Int} {ws : List Int} (h : ft (·.frm) c n = true) (h2 : b9 ws (f6 c n.toNat).w = true) : aF c s n ws = (⟨s.procs, s.chans.set n.toNat (i4 s n.toNat ++ ws)⟩, 0) := if_pos ⟨h, h2⟩
def ca (c : Ci) (s : Ns) (n : Int) : List Int × Ns × Int := if ft (·.dst) c n = true then (i4 s n.toNat, ⟨s.procs, s.chans.set n.toNat []⟩, 0) else ([], HG, 1)
theorem Ah {c : Ci} {s : Ns} {n : Int} (h : ¬ft (·.dst) c n = true) : ca c s n = ([], HG, 1) := if_neg h
theorem xg {c : Ci} {s : Ns} {n : Int} (h : ft (·.dst) c n = true) : ca c s n = (i4 s n.toNat, ⟨s.procs, s.chans.set n.toNat []⟩, 0) := if_pos h
theorem ib {c : Ci} {s : Ns} {p : Nat} (h : p < c.procs.length) : cM c s (p : Int) = dG c s p := by
 rw [jU (by omega) (by omega)]; rfl
theorem DD {cnt : List Int} {p : Nat} {b d : Int} (h : ∀ z, 0 ≤ cnt.getD z 0 ∧ cnt.getD z 0 ≤ b - d) (hd : 0 < d) : ∀ z, 0 ≤ (cnt.set p (cnt.getD p 0 + 1)).getD z 0 ∧ (cnt.set p (cnt.getD p 0 + 1)).getD z 0 ≤ b - (d - 1) := by
 intro z
 by_cases hp : p < cnt.length
 ·rw [b5 hp]
  have h1 := h p
  have h2 := h z
  split <;> omega
 ·rw [List.set_eq_of_length_le (by omega)]
  have h2 := h z
  omega
end Go.Proofs.YtifoecfajmnjjaaGreat
