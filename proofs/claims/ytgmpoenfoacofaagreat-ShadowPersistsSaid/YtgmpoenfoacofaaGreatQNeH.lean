/-
  Circuits, plain data: what the loops of a firing keep.
-/
import Derived.Test.YtgmpoenfoacofaaGreatQGrw
namespace Go.Proofs.YtgmpoenfoacofaaGreat
open Go.RowKit
set_option linter.unusedVariables false
set_option linter.unusedSimpArgs false
abbrev lH : Fi := ⟨false, ⟨[], []⟩, [], []⟩
def wj (k : Int) (q : Nat) : Bool := decide ((q : Int) = k)
def bA (c : Ci) (cl : ByteArray) (q : Nat) : Bool := (bH c q).clock.toList == cl.toList
def JC (c : Ci) (s : Ns) (w : Nat → Bool) (p : Nat) : Fi := if w p = true then ab c s p else lH
section
variable {c : Ci} {s : Ns} {w : Nat → Bool} {i k : Nat}
theorem JD (h : (!w i) = true) : aD c s w i = false := by
 unfold aD; cases hw : w i
 ·rfl
 ·rw [hw] at h; cases h
theorem GS (h : hJ c s i = false) : aD c s w i = false := by unfold aD; rw [h, Bool.and_false]
theorem GT (h : (!w i) = false) (h2 : hJ c s i = true) : aD c s w i = true := by
 unfold aD; cases hw : w i
 ·rw [hw] at h; cases h
 ·rw [h2]; rfl
theorem Nf (h : aD c s w i = true) : w i = true ∧ hJ c s i = true := by unfold aD at h; simpa using h
theorem Dh (h : aD c s w i = false) : zg s i = bL c s w i := by unfold bL; rw [if_neg (by rw [h]; simp)]
theorem GU (h : aD c s w i = true) : (ab c s i).s = bL c s w i := by unfold bL; rw [if_pos h]
theorem LN (h : (!w i) = true) : lH = JC c s w i := by
 unfold JC; cases hw : w i
 ·rw [if_neg (by simp)]
 ·rw [hw] at h; cases h
theorem GV (h : (!w i) = false) : ab c s i = JC c s w i := by
 unfold JC; cases hw : w i
 ·rw [hw] at h; cases h
 ·rw [if_pos rfl]
theorem tz (h : aD c s w i = false) : gu c s w (i + 1) = gu c s w i := by rw [gu, if_neg (by rw [h]; simp), List.append_nil]
theorem Af (h : aD c s w i = true) : gu c s w (i + 1) = gu c s w i ++ o7 (bH c i) (ab c s i) (bH c i).takes.length := by rw [gu, if_pos h]
theorem yH (h : aD c s w i = false) : jG c s w (i + 1) = jG c s w i := by rw [jG, if_neg (by rw [h]; simp), List.append_nil]
theorem Ag (h : aD c s w i = true) : jG c s w (i + 1) = jG c s w i ++ o8 (bH c i) (ab c s i) (bH c i).puts.length := by rw [jG, if_pos h]
theorem GW {p : Pr} {f : Fi} (h : f.pops.getD k false = false) : o7 p f (k + 1) = o7 p f k := by rw [o7, if_neg (by rw [h]; simp), List.append_nil]
theorem Di {p : Pr} {f : Fi} (h : f.pops.getD k false = true) : o7 p f (k + 1) = o7 p f k ++ [wi p k] := by rw [o7, if_pos h]
theorem GX {p : Pr} {f : Fi} (h : (f.puts.getD k aW).has = false) : o8 p f (k + 1) = o8 p f k := by rw [o8, if_neg (by rw [h]; simp), List.append_nil]
theorem Dj {p : Pr} {f : Fi} (h : (f.puts.getD k aW).has = true) : o8 p f (k + 1) = o8 p f k ++ [(v4 p k, (f.puts.getD k aW).v)] := by rw [o8, if_pos h]
theorem sI (l : List (List Int)) (a b : List Nat) : bz (bz l a) b = bz l (a ++ b) := by simp [bz, List.foldl_append]
theorem sJ (l : List (List Int)) (a b : List (Nat × Int)) : b8 (b8 l a) b = b8 l (a ++ b) := by simp [b8, List.foldl_append]
theorem yI {p : Pr} {f : Fi} : ∀ {k : Nat}, (o8 p f k).length ≤ k
 | 0 => Nat.le_refl _
 | k + 1 => by
  rw [o8, List.length_append]
  have := yI (p := p) (f := f) (k := k)
  split <;> simp <;> omega
theorem Ah (hc : bo c) : ∀ {P : Nat}, P ≤ c.procs.length → (jG c s w P).length ≤ 100 * P
 | 0, _ => Nat.le_refl _
 | P + 1, h => by
  rw [jG, List.length_append]
  have := Ah hc (P := P) (by omega)
  have h2 := yI (p := bH c P) (f := ab c s P) (k := (bH c P).puts.length)
  have h3 := (hc.pr P (by omega)).pl
  split
  ·omega
  ·simp only [List.length_nil]; omega
theorem IA (ev : List (Nat × Int)) (l : List (List Int)) (n : Nat) (hn : n < l.length) : ((b8 l ev).getD n []).length ≤ (l.getD n []).length + ev.length := by
 rw [sH ev l n hn, List.length_append, List.length_map]
 have := List.length_filter_le (fun e : Nat × Int => e.1 == n) ev
 omega
theorem IB (ev : List Nat) (l : List (List Int)) (n : Nat) (hn : n < l.length) : ((bz l ev).getD n []).length ≤ (l.getD n []).length := by
 rw [mb ev l n hn, List.length_drop]; omega
theorem Kr (hc : bo c) (hi : i < c.procs.length) (hk : k < (bH c i).takes.length) {f : Fi} : (gu c s w i ++ o7 (bH c i) f k).count (wi (bH c i) k) = 0 := by
 rw [List.count_eq_zero]
 intro hm
 rcases List.mem_append.1 hm with hm | hm
 ·obtain ⟨p, h1, _, h3⟩ := Aa hm
  have h4 := (C7 hc (show p < c.procs.length by omega) (Nat.le_refl _) h3).2
  have h5 := (hc.tk i hi k hk).2.2.2
  have h6 : ((p : Nat) : Int) = (i : Int) := h4.symm.trans h5
  omega
 ·obtain ⟨j, h1, _, h3⟩ := qo hm
  have := hc.td i hi j k (by omega) hk h3
  omega
theorem EP (hcan : hJ c s i = true) (hk : k < (bH c i).takes.length) (hpop : (ab c s i).pops.getD k false = true) : 0 < (fh s (wi (bH c i) k)).length := by
 rw [yx] at hcan
 unfold ab at hpop
 rw [yv hcan] at hpop
 simp only at hpop
 rw [bn hk] at hpop
 unfold fy at hcan
 rw [Bool.and_eq_true, bi] at hcan
 have h1 := hcan.1 k hk
 unfold hE at h1
 unfold l6 at hpop
 rw [hpop] at h1
 simp only [Bool.not_true, Bool.or_false] at h1
 rw [cC, bn hk] at h1
 unfold b3 at h1
 split at h1
 ·assumption
 ·cases h1
theorem GY (hc : bo c) (hl : s.chans.length = c.chans.length) (hi : i < c.procs.length) (hcan : hJ c s i = true) (hk : k < (bH c i).takes.length) (hpop : (ab c s i).pops.getD k false = true) :
  1 ≤ ((bz s.chans (gu c s w i ++ o7 (bH c i) (ab c s i) k)).getD (wi (bH c i) k) []).length := by
 have h1 := hc.tk i hi k hk
 rw [mb _ _ _ (by rw [hl]; show ((lz (bH c i) k).chan).toNat < _; omega), Kr hc hi hk]
 exact EP hcan hk hpop
theorem IC {m n : Nat} (hc : bo c) (hl : s.chans.length = c.chans.length) (hsm : ga s 4294967296) (hi : i < c.procs.length) (hm : m ≤ (bH c i).puts.length) (hn : n < c.chans.length) :
  ((b8 (bz s.chans (gu c s w c.procs.length)) (jG c s w i ++ o8 (bH c i) (ab c s i) m)).getD n []).length + 1 ≤ 137438953472 := by
 have h1 := IA (jG c s w i ++ o8 (bH c i) (ab c s i) m) (bz s.chans (gu c s w c.procs.length)) n (by rw [ew]; omega)
 have h2 := IB (gu c s w c.procs.length) s.chans n (by omega)
 have h3 : (s.chans.getD n []).length ≤ 4294967296 := hsm n
 have h4 := Ah hc (s := s) (w := w) (P := i) (by omega)
 have h5 := yI (p := bH c i) (f := ab c s i) (k := m)
 have h6 := (hc.pr i hi).pl
 have h7 := hc.nl
 rw [List.length_append] at h1
 omega
end
theorem GZ (p : Nat) : wj (p : Int) = cE p := funext fun q => by
 unfold wj cE
 by_cases h : q = p
 ·rw [decide_eq_true h, decide_eq_true (by omega)]
 ·rw [decide_eq_false h, decide_eq_false (by omega)]
theorem vg {c : Ci} {s : Ns} {w : Nat → Bool} (hc : bo c) {k : Nat} (h : ga s k) : ga (a4 c s w) (k + 1) := by
 intro n
 by_cases hn : n < c.chans.length
 ·rw [gv c s w hn]
  unfold cB
  rw [List.length_append, List.length_drop]
  have h1 : (fh s n).length ≤ k := h n
  have h2 : (cH c s w n).length ≤ 1 := by
   unfold cH; split
   ·exact u7 hc n
   ·simp
  omega
 ·have : fh (a4 c s w) n = [] := by show (tab _ _).getD n [] = []; exact CV (by omega)
  rw [this]; simp
theorem vi {c : Ci} {s : Ns} {p : Int} (h : ¬0 ≤ p) : iQ c s p = false := by unfold iQ; rw [decide_eq_false h]; rfl
theorem vj {c : Ci} {s : Ns} {p : Int} (h : ¬p < c.procs.length) : iQ c s p = false := by unfold iQ; rw [decide_eq_false h, Bool.false_and, Bool.and_false]
theorem tA {c : Ci} {s : Ns} {p : Int} (h : 0 ≤ p) (h2 : p < c.procs.length) : iQ c s p = (ab c s p.toNat).fires := by unfold iQ; rw [decide_eq_true h, decide_eq_true h2]; rfl
def aB (c : Ci) (s : Ns) (l : List ByteArray) : Ns := l.foldl (fun s cl => a4 c s (bA c cl)) s
theorem Ai {c : Ci} {s : Ns} {l : List ByteArray} {i : Nat} (h : i < l.length) : aB c s (l.take (i + 1)) = a4 c (aB c s (l.take i)) (bA c (l.getD i .empty)) := by
 unfold aB
 rw [List.take_succ_eq_append_getElem h, List.foldl_append]
 simp [List.getD, List.getElem?_eq_getElem h]
theorem Dk {f : Ch → Int} {c : Ci} {n : Int} (h : gw f c n = true) : 0 ≤ n ∧ n < c.chans.length ∧ f (dt c n.toNat) = -1 := by unfold gw at h; simpa using h
def aF (c : Ci) (s : Ns) (n : Int) (ws : List Int) : Ns × Int := if gw (·.frm) c n = true ∧ cA ws (dt c n.toNat).w = true then (⟨s.procs, s.chans.set n.toNat (fh s n.toNat ++ ws)⟩, 0) else (EG, 1)
theorem mg {c : Ci} {s : Ns} {n : Int} {ws : List Int} (h : ¬gw (·.frm) c n = true) : aF c s n ws = (EG, 1) := if_neg (fun q => h q.1)
theorem fB {c : Ci} {s : Ns} {n : Int} {ws : List Int} (h : ¬cA ws (dt c n.toNat).w = true) : aF c s n ws = (EG, 1) := if_neg (fun q => h q.2)
theorem qv {c : Ci} {s : Ns} {n : Int} {ws : List Int} (h : gw (·.frm) c n = true) (h2 : cA ws (dt c n.toNat).w = true) : aF c s n ws = (⟨s.procs, s.chans.set n.toNat (fh s n.toNat ++ ws)⟩, 0) := if_pos ⟨h, h2⟩
theorem Ks {c : Ci} {s : Ns} {p : Nat} (h : p < c.procs.length) : iQ c s (p : Int) = hJ c s p := by
 rw [tA (by omega) (by omega)]; rfl
end Go.Proofs.YtgmpoenfoacofaaGreat
