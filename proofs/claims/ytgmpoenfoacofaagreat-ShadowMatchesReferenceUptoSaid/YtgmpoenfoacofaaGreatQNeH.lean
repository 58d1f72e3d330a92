/-
  Circuits, plain data: what the loops of a firing keep.
-/
import Derived.Test.YtgmpoenfoacofaaGreatQGrw
namespace Go.Proofs.YtgmpoenfoacofaaGreat
open Go.RowKit
set_option linter.unusedVariables false
set_option linter.unusedSimpArgs false
abbrev kw : Fi := ⟨false, ⟨[], []⟩, [], []⟩
def uP (k : Int) (q : Nat) : Bool := decide ((q : Int) = k)
def bt (c : Ci) (cl : ByteArray) (q : Nat) : Bool := (bK c q).clock.toList == cl.toList
def HC (c : Ci) (s : Ns) (w : Nat → Bool) (p : Nat) : Fi := if w p = true then ab c s p else kw
section
variable {c : Ci} {s : Ns} {w : Nat → Bool} {i k : Nat}
theorem HD (h : (!w i) = true) : aM c s w i = false := by
 unfold aM; cases hw : w i
 ·rfl
 ·rw [hw] at h; cases h
theorem EW (h : nk c s i = false) : aM c s w i = false := by unfold aM; rw [h, Bool.and_false]
theorem EX (h : (!w i) = false) (h2 : nk c s i = true) : aM c s w i = true := by
 unfold aM; cases hw : w i
 ·rw [hw] at h; cases h
 ·rw [h2]; rfl
theorem Lb (h : aM c s w i = true) : w i = true ∧ nk c s i = true := by unfold aM at h; simpa using h
theorem BB (h : aM c s w i = false) : FZ s i = ce c s w i := by unfold ce; rw [if_neg (by rw [h]; simp)]
theorem EY (h : aM c s w i = true) : (ab c s i).s = ce c s w i := by unfold ce; rw [if_pos h]
theorem JJ (h : (!w i) = true) : kw = HC c s w i := by
 unfold HC; cases hw : w i
 ·rw [if_neg (by simp)]
 ·rw [hw] at h; cases h
theorem EZ (h : (!w i) = false) : ab c s i = HC c s w i := by
 unfold HC; cases hw : w i
 ·rw [hw] at h; cases h
 ·rw [if_pos rfl]
theorem r8 (h : aM c s w i = false) : fO c s w (i + 1) = fO c s w i := by rw [fO, if_neg (by rw [h]; simp), List.append_nil]
theorem yM (h : aM c s w i = true) : fO c s w (i + 1) = fO c s w i ++ nn (bK c i) (ab c s i) (bK c i).takes.length := by rw [fO, if_pos h]
theorem xo (h : aM c s w i = false) : i2 c s w (i + 1) = i2 c s w i := by rw [i2, if_neg (by rw [h]; simp), List.append_nil]
theorem yN (h : aM c s w i = true) : i2 c s w (i + 1) = i2 c s w i ++ np (bK c i) (ab c s i) (bK c i).puts.length := by rw [i2, if_pos h]
theorem E1 {p : Pr} {f : Fi} (h : f.pops.getD k false = false) : nn p f (k + 1) = nn p f k := by rw [nn, if_neg (by rw [h]; simp), List.append_nil]
theorem BC {p : Pr} {f : Fi} (h : f.pops.getD k false = true) : nn p f (k + 1) = nn p f k ++ [xd p k] := by rw [nn, if_pos h]
theorem E3 {p : Pr} {f : Fi} (h : (f.puts.getD k aO).has = false) : np p f (k + 1) = np p f k := by rw [np, if_neg (by rw [h]; simp), List.append_nil]
theorem BD {p : Pr} {f : Fi} (h : (f.puts.getD k aO).has = true) : np p f (k + 1) = np p f k ++ [(vQ p k, (f.puts.getD k aO).v)] := by rw [np, if_pos h]
theorem rk (l : List (List Int)) (a b : List Nat) : bq (bq l a) b = bq l (a ++ b) := by simp [bq, List.foldl_append]
theorem rm (l : List (List Int)) (a b : List (Nat × Int)) : bV (bV l a) b = bV l (a ++ b) := by simp [bV, List.foldl_append]
theorem xp {p : Pr} {f : Fi} : ∀ {k : Nat}, (np p f k).length ≤ k
 | 0 => Nat.le_refl _
 | k + 1 => by
  rw [np, List.length_append]
  have := xp (p := p) (f := f) (k := k)
  split <;> simp <;> omega
theorem yO (hc : bC c) : ∀ {P : Nat}, P ≤ c.procs.length → (i2 c s w P).length ≤ 100 * P
 | 0, _ => Nat.le_refl _
 | P + 1, h => by
  rw [i2, List.length_append]
  have := yO hc (P := P) (by omega)
  have h2 := xp (p := bK c P) (f := ab c s P) (k := (bK c P).puts.length)
  have h3 := (hc.pr P (by omega)).pl
  split
  ·omega
  ·simp only [List.length_nil]; omega
theorem GE (ev : List (Nat × Int)) (l : List (List Int)) (n : Nat) (hn : n < l.length) : ((bV l ev).getD n []).length ≤ (l.getD n []).length + ev.length := by
 rw [rj ev l n hn, List.length_append, List.length_map]
 have := List.length_filter_le (fun e : Nat × Int => e.1 == n) ev
 omega
theorem GF (ev : List Nat) (l : List (List Int)) (n : Nat) (hn : n < l.length) : ((bq l ev).getD n []).length ≤ (l.getD n []).length := by
 rw [kU ev l n hn, List.length_drop]; omega
theorem It (hc : bC c) (hi : i < c.procs.length) (hk : k < (bK c i).takes.length) {f : Fi} : (fO c s w i ++ nn (bK c i) f k).count (xd (bK c i) k) = 0 := by
 rw [List.count_eq_zero]
 intro hm
 rcases List.mem_append.1 hm with hm | hm
 ·obtain ⟨p, h1, _, h3⟩ := yG hm
  have h4 := (Bu hc (show p < c.procs.length by omega) (Nat.le_refl _) h3).2
  have h5 := (hc.tk i hi k hk).2.2.2
  have h6 : ((p : Nat) : Int) = (i : Int) := h4.symm.trans h5
  omega
 ·obtain ⟨j, h1, _, h3⟩ := o8 hm
  have := hc.td i hi j k (by omega) hk h3
  omega
theorem C0 (hcan : nk c s i = true) (hk : k < (bK c i).takes.length) (hpop : (ab c s i).pops.getD k false = true) : 0 < (kr s (xd (bK c i) k)).length := by
 rw [z6] at hcan
 unfold ab at hpop
 rw [w9 hcan] at hpop
 simp only at hpop
 rw [bp hk] at hpop
 unfold f9 at hcan
 rw [Bool.and_eq_true, cF] at hcan
 have h1 := hcan.1 k hk
 unfold im at h1
 unfold oT at hpop
 rw [hpop] at h1
 simp only [Bool.not_true, Bool.or_false] at h1
 rw [cy, bp hk] at h1
 unfold bR at h1
 split at h1
 ·assumption
 ·cases h1
theorem E4 (hc : bC c) (hl : s.chans.length = c.chans.length) (hi : i < c.procs.length) (hcan : nk c s i = true) (hk : k < (bK c i).takes.length) (hpop : (ab c s i).pops.getD k false = true) :
  1 ≤ ((bq s.chans (fO c s w i ++ nn (bK c i) (ab c s i) k)).getD (xd (bK c i) k) []).length := by
 have h1 := hc.tk i hi k hk
 rw [kU _ _ _ (by rw [hl]; show ((kO (bK c i) k).chan).toNat < _; omega), It hc hi hk]
 exact C0 hcan hk hpop
theorem GG {m n : Nat} (hc : bC c) (hl : s.chans.length = c.chans.length) (hsm : gw s 4294967296) (hi : i < c.procs.length) (hm : m ≤ (bK c i).puts.length) (hn : n < c.chans.length) :
  ((bV (bq s.chans (fO c s w c.procs.length)) (i2 c s w i ++ np (bK c i) (ab c s i) m)).getD n []).length + 1 ≤ 137438953472 := by
 have h1 := GE (i2 c s w i ++ np (bK c i) (ab c s i) m) (bq s.chans (fO c s w c.procs.length)) n (by rw [dV]; omega)
 have h2 := GF (fO c s w c.procs.length) s.chans n (by omega)
 have h3 : (s.chans.getD n []).length ≤ 4294967296 := hsm n
 have h4 := yO hc (s := s) (w := w) (P := i) (by omega)
 have h5 := xp (p := bK c i) (f := ab c s i) (k := m)
 have h6 := (hc.pr i hi).pl
 have h7 := hc.nl
 rw [List.length_append] at h1
 omega
end
theorem E5 (p : Nat) : uP (p : Int) = ER p := funext fun q => by
 unfold uP ER
 by_cases h : q = p
 ·rw [decide_eq_true h, decide_eq_true (by omega)]
 ·rw [decide_eq_false h, decide_eq_false (by omega)]
theorem tL {c : Ci} {s : Ns} {w : Nat → Bool} (hc : bC c) {k : Nat} (h : gw s k) : gw (bj c s w) (k + 1) := by
 intro n
 by_cases hn : n < c.chans.length
 ·rw [pc c s w hn]
  unfold e7
  rw [List.length_append, List.length_drop]
  have h1 : (kr s n).length ≤ k := h n
  have h2 : (eY c s w n).length ≤ 1 := by
   unfold eY; split
   ·exact tI hc n
   ·simp
  omega
 ·have : kr (bj c s w) n = [] := by show (tab _ _).getD n [] = []; exact Bk (by omega)
  rw [this]; simp
theorem tM {c : Ci} {s : Ns} {p : Int} (h : ¬0 ≤ p) : hJ c s p = false := by unfold hJ; rw [decide_eq_false h]; rfl
theorem tN {c : Ci} {s : Ns} {p : Int} (h : ¬p < c.procs.length) : hJ c s p = false := by unfold hJ; rw [decide_eq_false h, Bool.false_and, Bool.and_false]
theorem r9 {c : Ci} {s : Ns} {p : Int} (h : 0 ≤ p) (h2 : p < c.procs.length) : hJ c s p = (ab c s p.toNat).fires := by unfold hJ; rw [decide_eq_true h, decide_eq_true h2]; rfl
def bu (c : Ci) (s : Ns) (l : List ByteArray) : Ns := l.foldl (fun s cl => bj c s (bt c cl)) s
theorem yP {c : Ci} {s : Ns} {l : List ByteArray} {i : Nat} (h : i < l.length) : bu c s (l.take (i + 1)) = bj c (bu c s (l.take i)) (bt c (l.getD i .empty)) := by
 unfold bu
 rw [List.take_succ_eq_append_getElem h, List.foldl_append]
 simp [List.getD, List.getElem?_eq_getElem h]
theorem BE {f : Ch → Int} {c : Ci} {n : Int} (h : fP f c n = true) : 0 ≤ n ∧ n < c.chans.length ∧ f (gG c n.toNat) = -1 := by unfold fP at h; simpa using h
def aA (c : Ci) (s : Ns) (n : Int) (ws : List Int) : Ns × Int := if fP (·.frm) c n = true ∧ fN ws (gG c n.toNat).w = true then (⟨s.procs, s.chans.set n.toNat (kr s n.toNat ++ ws)⟩, 0) else (CQ, 1)
theorem kZ {c : Ci} {s : Ns} {n : Int} {ws : List Int} (h : ¬fP (·.frm) c n = true) : aA c s n ws = (CQ, 1) := if_neg (fun q => h q.1)
theorem e9 {c : Ci} {s : Ns} {n : Int} {ws : List Int} (h : ¬fN ws (gG c n.toNat).w = true) : aA c s n ws = (CQ, 1) := if_neg (fun q => h q.2)
theorem pg {c : Ci} {s : Ns} {n : Int} {ws : List Int} (h : fP (·.frm) c n = true) (h2 : fN ws (gG c n.toNat).w = true) : aA c s n ws = (⟨s.procs, s.chans.set n.toNat (kr s n.toNat ++ ws)⟩, 0) := if_pos ⟨h, h2⟩
theorem Iu {c : Ci} {s : Ns} {p : Nat} (h : p < c.procs.length) : hJ c s (p : Int) = nk c s p := by
 rw [r9 (by omega) (by omega)]; rfl
end Go.Proofs.YtgmpoenfoacofaaGreat
