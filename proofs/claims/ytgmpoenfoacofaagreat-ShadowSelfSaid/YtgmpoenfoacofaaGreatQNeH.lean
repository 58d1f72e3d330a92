/-
  Circuits, plain data: what the loops of a firing keep.
-/
import Derived.Test.YtgmpoenfoacofaaGreatQGrw
namespace Go.Proofs.YtgmpoenfoacofaaGreat
open Go.RowKit
set_option linter.unusedVariables false
set_option linter.unusedSimpArgs false
abbrev kv : Fi := ⟨false, ⟨[], []⟩, [], []⟩
def qv (k : Int) (q : Nat) : Bool := decide ((q : Int) = k)
def cF (c : Ci) (cl : ByteArray) (q : Nat) : Bool := (bJ c q).clock.toList == cl.toList
def HH (c : Ci) (s : Ns) (w : Nat → Bool) (p : Nat) : Fi := if w p = true then ab c s p else kv
section
variable {c : Ci} {s : Ns} {w : Nat → Bool} {i k : Nat}
theorem HI (h : (!w i) = true) : aC c s w i = false := by
 unfold aC; cases hw : w i
 ·rfl
 ·rw [hw] at h; cases h
theorem E5 (h : cT c s i = false) : aC c s w i = false := by unfold aC; rw [h, Bool.and_false]
theorem E6 (h : (!w i) = false) (h2 : cT c s i = true) : aC c s w i = true := by
 unfold aC; cases hw : w i
 ·rw [hw] at h; cases h
 ·rw [h2]; rfl
theorem Lb (h : aC c s w i = true) : w i = true ∧ cT c s i = true := by unfold aC at h; simpa using h
theorem Bn (h : aC c s w i = false) : wG s i = bE c s w i := by unfold bE; rw [if_neg (by rw [h]; simp)]
theorem E7 (h : aC c s w i = true) : (ab c s i).s = bE c s w i := by unfold bE; rw [if_pos h]
theorem JQ (h : (!w i) = true) : kv = HH c s w i := by
 unfold HH; cases hw : w i
 ·rw [if_neg (by simp)]
 ·rw [hw] at h; cases h
theorem E8 (h : (!w i) = false) : ab c s i = HH c s w i := by
 unfold HH; cases hw : w i
 ·rw [hw] at h; cases h
 ·rw [if_pos rfl]
theorem rN (h : aC c s w i = false) : fO c s w (i + 1) = fO c s w i := by rw [fO, if_neg (by rw [h]; simp), List.append_nil]
theorem yn (h : aC c s w i = true) : fO c s w (i + 1) = fO c s w i ++ ng (bJ c i) (ab c s i) (bJ c i).takes.length := by rw [fO, if_pos h]
theorem wS (h : aC c s w i = false) : iV c s w (i + 1) = iV c s w i := by rw [iV, if_neg (by rw [h]; simp), List.append_nil]
theorem yo (h : aC c s w i = true) : iV c s w (i + 1) = iV c s w i ++ nh (bJ c i) (ab c s i) (bJ c i).puts.length := by rw [iV, if_pos h]
theorem E9 {p : Pr} {f : Fi} (h : f.pops.getD k false = false) : ng p f (k + 1) = ng p f k := by rw [ng, if_neg (by rw [h]; simp), List.append_nil]
theorem Bo {p : Pr} {f : Fi} (h : f.pops.getD k false = true) : ng p f (k + 1) = ng p f k ++ [uk p k] := by rw [ng, if_pos h]
theorem Fa {p : Pr} {f : Fi} (h : (f.puts.getD k aR).has = false) : nh p f (k + 1) = nh p f k := by rw [nh, if_neg (by rw [h]; simp), List.append_nil]
theorem Bp {p : Pr} {f : Fi} (h : (f.puts.getD k aR).has = true) : nh p f (k + 1) = nh p f k ++ [(t6 p k, (f.puts.getD k aR).v)] := by rw [nh, if_pos h]
theorem qZ (l : List (List Int)) (a b : List Nat) : bw (bw l a) b = bw l (a ++ b) := by simp [bw, List.foldl_append]
theorem ra (l : List (List Int)) (a b : List (Nat × Int)) : b4 (b4 l a) b = b4 l (a ++ b) := by simp [b4, List.foldl_append]
theorem wT {p : Pr} {f : Fi} : ∀ {k : Nat}, (nh p f k).length ≤ k
 | 0 => Nat.le_refl _
 | k + 1 => by
  rw [nh, List.length_append]
  have := wT (p := p) (f := f) (k := k)
  split <;> simp <;> omega
theorem yp (hc : a6 c) : ∀ {P : Nat}, P ≤ c.procs.length → (iV c s w P).length ≤ 100 * P
 | 0, _ => Nat.le_refl _
 | P + 1, h => by
  rw [iV, List.length_append]
  have := yp hc (P := P) (by omega)
  have h2 := wT (p := bJ c P) (f := ab c s P) (k := (bJ c P).puts.length)
  have h3 := (hc.pr P (by omega)).pl
  split
  ·omega
  ·simp only [List.length_nil]; omega
theorem GL (ev : List (Nat × Int)) (l : List (List Int)) (n : Nat) (hn : n < l.length) : ((b4 l ev).getD n []).length ≤ (l.getD n []).length + ev.length := by
 rw [qY ev l n hn, List.length_append, List.length_map]
 have := List.length_filter_le (fun e : Nat × Int => e.1 == n) ev
 omega
theorem GM (ev : List Nat) (l : List (List Int)) (n : Nat) (hn : n < l.length) : ((bw l ev).getD n []).length ≤ (l.getD n []).length := by
 rw [kU ev l n hn, List.length_drop]; omega
theorem IA (hc : a6 c) (hi : i < c.procs.length) (hk : k < (bJ c i).takes.length) {f : Fi} : (fO c s w i ++ ng (bJ c i) f k).count (uk (bJ c i) k) = 0 := by
 rw [List.count_eq_zero]
 intro hm
 rcases List.mem_append.1 hm with hm | hm
 ·obtain ⟨p, h1, _, h3⟩ := yh hm
  have h4 := (Bf hc (show p < c.procs.length by omega) (Nat.le_refl _) h3).2
  have h5 := (hc.tk i hi k hk).2.2.2
  have h6 : ((p : Nat) : Int) = (i : Int) := h4.symm.trans h5
  omega
 ·obtain ⟨j, h1, _, h3⟩ := oV hm
  have := hc.td i hi j k (by omega) hk h3
  omega
theorem C3 (hcan : cT c s i = true) (hk : k < (bJ c i).takes.length) (hpop : (ab c s i).pops.getD k false = true) : 0 < (d7 s (uk (bJ c i) k)).length := by
 rw [te] at hcan
 unfold ab at hpop
 rw [wE hcan] at hpop
 simp only at hpop
 rw [bh hk] at hpop
 unfold e9 at hcan
 rw [Bool.and_eq_true, bu] at hcan
 have h1 := hcan.1 k hk
 unfold gv at h1
 unfold kP at hpop
 rw [hpop] at h1
 simp only [Bool.not_true, Bool.or_false] at h1
 rw [ci, bh hk] at h1
 unfold bS at h1
 split at h1
 ·assumption
 ·cases h1
theorem Fb (hc : a6 c) (hl : s.chans.length = c.chans.length) (hi : i < c.procs.length) (hcan : cT c s i = true) (hk : k < (bJ c i).takes.length) (hpop : (ab c s i).pops.getD k false = true) :
  1 ≤ ((bw s.chans (fO c s w i ++ ng (bJ c i) (ab c s i) k)).getD (uk (bJ c i) k) []).length := by
 have h1 := hc.tk i hi k hk
 rw [kU _ _ _ (by rw [hl]; show ((km (bJ c i) k).chan).toNat < _; omega), IA hc hi hk]
 exact C3 hcan hk hpop
theorem GN {m n : Nat} (hc : a6 c) (hl : s.chans.length = c.chans.length) (hsm : ic s 4294967296) (hi : i < c.procs.length) (hm : m ≤ (bJ c i).puts.length) (hn : n < c.chans.length) :
  ((b4 (bw s.chans (fO c s w c.procs.length)) (iV c s w i ++ nh (bJ c i) (ab c s i) m)).getD n []).length + 1 ≤ 137438953472 := by
 have h1 := GL (iV c s w i ++ nh (bJ c i) (ab c s i) m) (bw s.chans (fO c s w c.procs.length)) n (by rw [d8]; omega)
 have h2 := GM (fO c s w c.procs.length) s.chans n (by omega)
 have h3 : (s.chans.getD n []).length ≤ 4294967296 := hsm n
 have h4 := yp hc (s := s) (w := w) (P := i) (by omega)
 have h5 := wT (p := bJ c i) (f := ab c s i) (k := m)
 have h6 := (hc.pr i hi).pl
 have h7 := hc.nl
 rw [List.length_append] at h1
 omega
end
theorem yq (p : Nat) : qv (p : Int) = aH p := funext fun q => by
 unfold qv aH
 by_cases h : q = p
 ·rw [decide_eq_true h, decide_eq_true (by omega)]
 ·rw [decide_eq_false h, decide_eq_false (by omega)]
theorem qw {c : Ci} {s : Ns} {w : Nat → Bool} (hc : a6 c) {k : Nat} (h : ic s k) : ic (aG c s w) (k + 1) := by
 intro n
 by_cases hn : n < c.chans.length
 ·rw [d9 c s w hn]
  unfold cx
  rw [List.length_append, List.length_drop]
  have h1 : (d7 s n).length ≤ k := h n
  have h2 : (ca c s w n).length ≤ 1 := by
   unfold ca; split
   ·exact tf hc n
   ·simp
  omega
 ·have : d7 (aG c s w) n = [] := by show (ao _ _).getD n [] = []; exact Gz (by omega)
  rw [this]; simp
theorem tq {c : Ci} {s : Ns} {p : Int} (h : ¬0 ≤ p) : gz c s p = false := by unfold gz; rw [decide_eq_false h]; rfl
theorem tr {c : Ci} {s : Ns} {p : Int} (h : ¬p < c.procs.length) : gz c s p = false := by unfold gz; rw [decide_eq_false h, Bool.false_and, Bool.and_false]
theorem rO {c : Ci} {s : Ns} {p : Int} (h : 0 ≤ p) (h2 : p < c.procs.length) : gz c s p = (ab c s p.toNat).fires := by unfold gz; rw [decide_eq_true h, decide_eq_true h2]; rfl
def au (c : Ci) (s : Ns) (l : List ByteArray) : Ns := l.foldl (fun s cl => aG c s (cF c cl)) s
theorem Fc {c : Ci} {s : Ns} {l : List ByteArray} {i : Nat} (h : i < l.length) : au c s (l.take (i + 1)) = aG c (au c s (l.take i)) (cF c (l.getD i .empty)) := by
 unfold au
 rw [List.take_succ_eq_append_getElem h, List.foldl_append]
 simp [List.getD, List.getElem?_eq_getElem h]
def bD (c : Ci) (s : Ns) (b : Int) : Ns × List Int × Int := cA c b.toNat s (List.replicate c.procs.length 0)
theorem Bq {f : Ch → Int} {c : Ci} {n : Int} (h : ir f c n = true) : 0 ≤ n ∧ n < c.chans.length ∧ f (cL c n.toNat) = -1 := by unfold ir at h; simpa using h
def aW (c : Ci) (s : Ns) (n : Int) (ws : List Int) : Ns × Int := if ir (·.frm) c n = true ∧ cD ws (cL c n.toNat).w = true then (⟨s.procs, s.chans.set n.toNat (d7 s n.toNat ++ ws)⟩, 0) else (EU, 1)
theorem ts {c : Ci} {s : Ns} {n : Int} {ws : List Int} (h : ¬ir (·.frm) c n = true) : aW c s n ws = (EU, 1) := if_neg (fun q => h q.1)
theorem tu {c : Ci} {s : Ns} {n : Int} {ws : List Int} (h : ¬cD ws (cL c n.toNat).w = true) : aW c s n ws = (EU, 1) := if_neg (fun q => h q.2)
theorem o6 {c : Ci} {s : Ns} {n : Int} {ws : List Int} (h : ir (·.frm) c n = true) (h2 : cD ws (cL c n.toNat).w = true) : aW c s n ws = (⟨s.procs, s.chans.set n.toNat (d7 s n.toNat ++ ws)⟩, 0) := if_pos ⟨h, h2⟩
theorem wU {c : Ci} {s : Ns} {p : Nat} (h : p < c.procs.length) : gz c s (p : Int) = cT c s p := by
 rw [rO (by omega) (by omega)]; rfl
theorem Fd {cnt : List Int} {p : Nat} {b d : Int} (h : ∀ z, 0 ≤ cnt.getD z 0 ∧ cnt.getD z 0 ≤ b - d) (hd : 0 < d) : ∀ z, 0 ≤ (cnt.set p (cnt.getD p 0 + 1)).getD z 0 ∧ (cnt.set p (cnt.getD p 0 + 1)).getD z 0 ≤ b - (d - 1) := by
 intro z
 by_cases hp : p < cnt.length
 ·rw [bZ hp]
  have h1 := h p
  have h2 := h z
  split <;> omega
 ·rw [List.set_eq_of_length_le (by omega)]
  have h2 := h z
  omega
end Go.Proofs.YtgmpoenfoacofaaGreat
