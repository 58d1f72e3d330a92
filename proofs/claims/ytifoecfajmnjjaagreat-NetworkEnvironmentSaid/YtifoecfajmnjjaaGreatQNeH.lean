/-
  Circuits, plain data: what the loops of a firing keep.
-/
import Derived.Test.YtifoecfajmnjjaaGreatQNeF
namespace Go.Proofs.YtifoecfajmnjjaaGreat
open Go.RowKit
set_option linter.unusedVariables false
set_option linter.unusedSimpArgs false
abbrev fw : Fi := ⟨false, ⟨[], []⟩, [], []⟩
def bz (k : Int) (q : Nat) : Bool := decide ((q : Int) = k)
def aj (c : Ci) (cl : ByteArray) (q : Nat) : Bool := (aB c q).clock.toList == cl.toList
def GM (c : Ci) (s : Ns) (w : Nat → Bool) (p : Nat) : Fi := if w p = true then ac c s p else fw
section
variable {c : Ci} {s : Ns} {w : Nat → Bool} {i k : Nat}
theorem Ii (h : (!w i) = true) : ai c s w i = false := by
 unfold ai; cases hw : w i
 ·rfl
 ·rw [hw] at h; cases h
theorem Dh (h : dD c s i = false) : ai c s w i = false := by unfold ai; rw [h, Bool.and_false]
theorem Di (h : (!w i) = false) (h2 : dD c s i = true) : ai c s w i = true := by
 unfold ai; cases hw : w i
 ·rw [hw] at h; cases h
 ·rw [h2]; rfl
theorem Lr (h : ai c s w i = true) : w i = true ∧ dD c s i = true := by unfold ai at h; simpa using h
theorem yw (h : ai c s w i = false) : xw s i = bZ c s w i := by unfold bZ; rw [if_neg (by rw [h]; simp)]
theorem Dj (h : ai c s w i = true) : (ac c s i).s = bZ c s w i := by unfold bZ; rw [if_pos h]
theorem KB (h : (!w i) = true) : fw = GM c s w i := by
 unfold GM; cases hw : w i
 ·rw [if_neg (by simp)]
 ·rw [hw] at h; cases h
theorem zU (h : (!w i) = false) : ac c s i = GM c s w i := by
 unfold GM; cases hw : w i
 ·rw [hw] at h; cases h
 ·rw [if_pos rfl]
theorem pR (h : ai c s w i = false) : gO c s w (i + 1) = gO c s w i := by rw [gO, if_neg (by rw [h]; simp), List.append_nil]
theorem wI (h : ai c s w i = true) : gO c s w (i + 1) = gO c s w i ++ ij (aB c i) (ac c s i) (aB c i).takes.length := by rw [gO, if_pos h]
theorem vp (h : ai c s w i = false) : lf c s w (i + 1) = lf c s w i := by rw [lf, if_neg (by rw [h]; simp), List.append_nil]
theorem wJ (h : ai c s w i = true) : lf c s w (i + 1) = lf c s w i ++ iL (aB c i) (ac c s i) (aB c i).puts.length := by rw [lf, if_pos h]
theorem Dk {p : Pr} {f : Fi} (h : f.pops.getD k false = false) : ij p f (k + 1) = ij p f k := by rw [ij, if_neg (by rw [h]; simp), List.append_nil]
theorem zV {p : Pr} {f : Fi} (h : f.pops.getD k false = true) : ij p f (k + 1) = ij p f k ++ [cR p k] := by rw [ij, if_pos h]
theorem Dl {p : Pr} {f : Fi} (h : (f.puts.getD k aK).has = false) : iL p f (k + 1) = iL p f k := by rw [iL, if_neg (by rw [h]; simp), List.append_nil]
theorem zW {p : Pr} {f : Fi} (h : (f.puts.getD k aK).has = true) : iL p f (k + 1) = iL p f k ++ [(cC p k, (f.puts.getD k aK).v)] := by rw [iL, if_pos h]
theorem lw (l : List (List Int)) (a b : List Nat) : aV (aV l a) b = aV l (a ++ b) := by simp [aV, List.foldl_append]
theorem lx (l : List (List Int)) (a b : List (Nat × Int)) : bk (bk l a) b = bk l (a ++ b) := by simp [bk, List.foldl_append]
theorem vq {p : Pr} {f : Fi} : ∀ {k : Nat}, (iL p f k).length ≤ k
 | 0 => Nat.le_refl _
 | k + 1 => by
  rw [iL, List.length_append]
  have := vq (p := p) (f := f) (k := k)
  split <;> simp <;> omega
theorem Bm (hc : bo c) : ∀ {P : Nat}, P ≤ c.procs.length → (lf c s w P).length ≤ 100 * P
 | 0, _ => Nat.le_refl _
 | P + 1, h => by
  rw [lf, List.length_append]
  have := Bm hc (P := P) (by omega)
  have h2 := vq (p := aB c P) (f := ac c s P) (k := (aB c P).puts.length)
  have h3 := (hc.pr P (by omega)).pl
  split
  ·omega
  ·simp only [List.length_nil]; omega
theorem ER (ev : List (Nat × Int)) (l : List (List Int)) (n : Nat) (hn : n < l.length) : ((bk l ev).getD n []).length ≤ (l.getD n []).length + ev.length := by
 rw [oO ev l n hn, List.length_append, List.length_map]
 have := List.length_filter_le (fun e : Nat × Int => e.1 == n) ev
 omega
theorem ES (ev : List Nat) (l : List (List Int)) (n : Nat) (hn : n < l.length) : ((aV l ev).getD n []).length ≤ (l.getD n []).length := by
 rw [ji ev l n hn, List.length_drop]; omega
theorem Ls (hc : bo c) (hi : i < c.procs.length) (hk : k < (aB c i).takes.length) {f : Fi} : (gO c s w i ++ ij (aB c i) f k).count (cR (aB c i) k) = 0 := by
 rw [List.count_eq_zero]
 intro hm
 rcases List.mem_append.1 hm with hm | hm
 ·obtain ⟨p, h1, _, h3⟩ := Bf hm
  have h4 := (zL hc (show p < c.procs.length by omega) (Nat.le_refl _) h3).2
  have h5 := (hc.tk i hi k hk).2.2.2
  have h6 : ((p : Nat) : Int) = (i : Int) := h4.symm.trans h5
  omega
 ·obtain ⟨j, h1, _, h3⟩ := pE hm
  have := hc.td i hi j k (by omega) hk h3
  omega
theorem yx (hcan : dD c s i = true) (hk : k < (aB c i).takes.length) (hpop : (ac c s i).pops.getD k false = true) : 0 < (gj s (cR (aB c i) k)).length := by
 rw [wE] at hcan
 unfold ac at hpop
 rw [zH hcan] at hpop
 simp only at hpop
 rw [bf hk] at hpop
 unfold ig at hcan
 rw [Bool.and_eq_true, ce] at hcan
 have h1 := hcan.1 k hk
 unfold jK at h1
 unfold oG at hpop
 rw [hpop] at h1
 simp only [Bool.not_true, Bool.or_false] at h1
 rw [cT, bf hk] at h1
 unfold cH at h1
 split at h1
 ·assumption
 ·cases h1
theorem Bn (hc : bo c) (hl : s.chans.length = c.chans.length) (hi : i < c.procs.length) (hcan : dD c s i = true) (hk : k < (aB c i).takes.length) (hpop : (ac c s i).pops.getD k false = true) :
  1 ≤ ((aV s.chans (gO c s w i ++ ij (aB c i) (ac c s i) k)).getD (cR (aB c i) k) []).length := by
 have h1 := hc.tk i hi k hk
 rw [ji _ _ _ (by rw [hl]; show ((nN (aB c i) k).chan).toNat < _; omega), Ls hc hi hk]
 exact yx hcan hk hpop
theorem ET {m n : Nat} (hc : bo c) (hl : s.chans.length = c.chans.length) (hsm : fY s 4294967296) (hi : i < c.procs.length) (hm : m ≤ (aB c i).puts.length) (hn : n < c.chans.length) :
  ((bk (aV s.chans (gO c s w c.procs.length)) (lf c s w i ++ iL (aB c i) (ac c s i) m)).getD n []).length + 1 ≤ 137438953472 := by
 have h1 := ER (lf c s w i ++ iL (aB c i) (ac c s i) m) (aV s.chans (gO c s w c.procs.length)) n (by rw [bv]; omega)
 have h2 := ES (gO c s w c.procs.length) s.chans n (by omega)
 have h3 : (s.chans.getD n []).length ≤ 4294967296 := hsm n
 have h4 := Bm hc (s := s) (w := w) (P := i) (by omega)
 have h5 := vq (p := aB c i) (f := ac c s i) (k := m)
 have h6 := (hc.pr i hi).pl
 have h7 := hc.nl
 rw [List.length_append] at h1
 omega
end
theorem fx (p : Nat) : bz (p : Int) = b4 p := funext fun q => by
 unfold bz b4
 by_cases h : q = p
 ·rw [decide_eq_true h, decide_eq_true (by omega)]
 ·rw [decide_eq_false h, decide_eq_false (by omega)]
theorem a6 {c : Ci} {s : Ns} {w : Nat → Bool} (hc : bo c) {k : Nat} (h : fY s k) : fY (ak c s w) (k + 1) := by
 intro n
 by_cases hn : n < c.chans.length
 ·rw [kA c s w hn]
  unfold dp
  rw [List.length_append, List.length_drop]
  have h1 : (gj s n).length ≤ k := h n
  have h2 : (cL c s w n).length ≤ 1 := by
   unfold cL; split
   ·exact wF hc n
   ·simp
  omega
 ·have : gj (ak c s w) n = [] := by show (ao _ _).getD n [] = []; exact Ew (by omega)
  rw [this]; simp
def Bo (c : Ci) (s : Ns) (k : Int) : Bool := Bk (ao (ai c s (bz k)) c.procs.length) true
theorem JS {l : List Bool} {i : Nat} (hi : i < l.length) (h : l.getD i false = true) : Bk l true = true := by
 unfold Bk Lg
 rw [mV, ie hi (by rw [h]; rfl)]; rfl
theorem Dm {l : List Bool} (h : ∀ i, i < l.length → l.getD i false = false) : Bk l true = false := by
 unfold Bk Lg
 rw [mV, ce.2 (fun i hi => by rw [h i hi]; rfl)]; rfl
theorem Ij (c : Ci) (s : Ns) (k : Int) : Bo c s k = bp c s k := by
 unfold Bo bp
 by_cases h0 : 0 ≤ k
 ·by_cases h1 : k < c.procs.length
  ·rw [decide_eq_true h0, decide_eq_true h1, Bool.true_and, Bool.true_and]
   have hk : bz k k.toNat = true := by unfold bz; exact decide_eq_true (by omega)
   cases hcan : dD c s k.toNat
   ·refine Dm (fun i hi => ?_)
    rw [aN] at hi
    rw [bf hi]
    unfold ai
    by_cases e : i = k.toNat
    ·rw [e, hcan, Bool.and_false]
    ·rw [show bz k i = false by unfold bz; exact decide_eq_false (by omega)]; rfl
   ·exact JS (i := k.toNat) (by rw [aN]; omega) (by rw [bf (by omega)]; unfold ai; rw [hk, hcan]; rfl)
  ·rw [decide_eq_false h1, Bool.false_and, Bool.and_false]
   refine Dm (fun i hi => ?_)
   rw [aN] at hi
   rw [bf hi]; unfold ai
   rw [show bz k i = false by unfold bz; exact decide_eq_false (by omega)]; rfl
 ·rw [decide_eq_false h0, Bool.false_and]
  refine Dm (fun i hi => ?_)
  rw [aN] at hi
  rw [bf hi]; unfold ai
  rw [show bz k i = false by unfold bz; exact decide_eq_false (by omega)]; rfl
theorem l8 {c : Ci} {s : Ns} {p : Int} (h : ¬0 ≤ p) : bp c s p = false := by unfold bp; rw [decide_eq_false h]; rfl
theorem l9 {c : Ci} {s : Ns} {p : Int} (h : ¬p < c.procs.length) : bp c s p = false := by unfold bp; rw [decide_eq_false h, Bool.false_and, Bool.and_false]
theorem mW {c : Ci} {s : Ns} {p : Int} (h : 0 ≤ p) (h2 : p < c.procs.length) : bp c s p = (ac c s p.toNat).fires := by unfold bp; rw [decide_eq_true h, decide_eq_true h2]; rfl
def bD (c : Ci) (s : Ns) (l : List ByteArray) : Ns := l.foldl (fun s cl => ak c s (aj c cl)) s
theorem Bp {c : Ci} {s : Ns} {l : List ByteArray} {i : Nat} (h : i < l.length) : bD c s (l.take (i + 1)) = ak c (bD c s (l.take i)) (aj c (l.getD i .empty)) := by
 unfold bD
 rw [List.take_succ_eq_append_getElem h, List.foldl_append]
 simp [List.getD, List.getElem?_eq_getElem h]
def aD (c : Ci) (s : Ns) (b : Int) : Ns × List Int × Int := bU c b.toNat s (List.replicate c.procs.length 0)
theorem zX {f : Ch → Int} {c : Ci} {n : Int} (h : eV f c n = true) : 0 ≤ n ∧ n < c.chans.length ∧ f (fk c n.toNat) = -1 := by unfold eV at h; simpa using h
def am (c : Ci) (s : Ns) (n : Int) (ws : List Int) : Ns × Int := if eV (·.frm) c n = true ∧ cg ws (fk c n.toNat).w = true then (⟨s.procs, s.chans.set n.toNat (gj s n.toNat ++ ws)⟩, 0) else (Jk, 1)
theorem kC {c : Ci} {s : Ns} {n : Int} {ws : List Int} (h : ¬eV (·.frm) c n = true) : am c s n ws = (Jk, 1) := if_neg (fun q => h q.1)
theorem gr {c : Ci} {s : Ns} {n : Int} {ws : List Int} (h : ¬cg ws (fk c n.toNat).w = true) : am c s n ws = (Jk, 1) := if_neg (fun q => h q.2)
theorem oV {c : Ci} {s : Ns} {n : Int} {ws : List Int} (h : eV (·.frm) c n = true) (h2 : cg ws (fk c n.toNat).w = true) : am c s n ws = (⟨s.procs, s.chans.set n.toNat (gj s n.toNat ++ ws)⟩, 0) := if_pos ⟨h, h2⟩
def aF (c : Ci) (s : Ns) (n : Int) : List Int × Ns × Int := if eV (·.dst) c n = true then (gj s n.toNat, ⟨s.procs, s.chans.set n.toNat []⟩, 0) else ([], Jk, 1)
theorem mX {c : Ci} {s : Ns} {n : Int} (h : ¬eV (·.dst) c n = true) : aF c s n = ([], Jk, 1) := if_neg h
theorem eD {c : Ci} {s : Ns} {n : Int} (h : eV (·.dst) c n = true) : aF c s n = (gj s n.toNat, ⟨s.procs, s.chans.set n.toNat []⟩, 0) := if_pos h
theorem dZ {c : Ci} {s : Ns} {p : Nat} (h : p < c.procs.length) : bp c s (p : Int) = dD c s p := by
 rw [mW (by omega) (by omega)]; rfl
theorem Bq {cnt : List Int} {p : Nat} {b d : Int} (h : ∀ z, 0 ≤ cnt.getD z 0 ∧ cnt.getD z 0 ≤ b - d) (hd : 0 < d) : ∀ z, 0 ≤ (cnt.set p (cnt.getD p 0 + 1)).getD z 0 ∧ (cnt.set p (cnt.getD p 0 + 1)).getD z 0 ≤ b - (d - 1) := by
 intro z
 by_cases hp : p < cnt.length
 ·rw [b6 hp]
  have h1 := h p
  have h2 := h z
  split <;> omega
 ·rw [List.set_eq_of_length_le (by omega)]
  have h2 := h z
  omega
end Go.Proofs.YtifoecfajmnjjaaGreat
