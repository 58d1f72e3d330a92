/-
  Circuits, plain data: what the loops of a firing keep.
-/
import Derived.Test.YtgmpoenfoacofaaGreatQNeF
namespace Go.Proofs.YtgmpoenfoacofaaGreat
open Go.RowKit
set_option linter.unusedVariables false
set_option linter.unusedSimpArgs false
abbrev jz : Fi := ⟨false, ⟨[], []⟩, [], []⟩
def bU (c : Ci) (cl : ByteArray) (q : Nat) : Bool := (ba c q).clock.toList == cl.toList
def EU (c : Ci) (s : Ns) (w : Nat → Bool) (p : Nat) : Fi := if w p = true then ab c s p else jz
section
variable {c : Ci} {s : Ns} {w : Nat → Bool} {i k : Nat}
theorem Hb (h : (!w i) = true) : bc c s w i = false := by
 unfold bc; cases hw : w i
 ·rfl
 ·rw [hw] at h; cases h
theorem FT (h : oI c s i = false) : bc c s w i = false := by unfold bc; rw [h, Bool.and_false]
theorem FU (h : (!w i) = false) (h2 : oI c s i = true) : bc c s w i = true := by
 unfold bc; cases hw : w i
 ·rw [hw] at h; cases h
 ·rw [h2]; rfl
theorem Iw (h : bc c s w i = true) : w i = true ∧ oI c s i = true := by unfold bc at h; simpa using h
theorem EV (h : bc c s w i = false) : BX s i = gm c s w i := by unfold gm; rw [if_neg (by rw [h]; simp)]
theorem FV (h : bc c s w i = true) : (ab c s i).s = gm c s w i := by unfold gm; rw [if_pos h]
theorem Hc (h : (!w i) = true) : jz = EU c s w i := by
 unfold EU; cases hw : w i
 ·rw [if_neg (by simp)]
 ·rw [hw] at h; cases h
theorem Cc (h : (!w i) = false) : ab c s i = EU c s w i := by
 unfold EU; cases hw : w i
 ·rw [hw] at h; cases h
 ·rw [if_pos rfl]
theorem yW (h : bc c s w i = false) : gl c s w (i + 1) = gl c s w i := by rw [gl, if_neg (by rw [h]; simp), List.append_nil]
theorem Cd (h : bc c s w i = true) : gl c s w (i + 1) = gl c s w i ++ j5 (ba c i) (ab c s i) (ba c i).takes.length := by rw [gl, if_pos h]
theorem DY (h : bc c s w i = false) : lj c s w (i + 1) = lj c s w i := by rw [lj, if_neg (by rw [h]; simp), List.append_nil]
theorem Ce (h : bc c s w i = true) : lj c s w (i + 1) = lj c s w i ++ nA (ba c i) (ab c s i) (ba c i).puts.length := by rw [lj, if_pos h]
theorem FW {p : Pr} {f : Fi} (h : f.pops.getD k false = false) : j5 p f (k + 1) = j5 p f k := by rw [j5, if_neg (by rw [h]; simp), List.append_nil]
theorem DZ {p : Pr} {f : Fi} (h : f.pops.getD k false = true) : j5 p f (k + 1) = j5 p f k ++ [oG p k] := by rw [j5, if_pos h]
theorem FX {p : Pr} {f : Fi} (h : (f.puts.getD k aY).has = false) : nA p f (k + 1) = nA p f k := by rw [nA, if_neg (by rw [h]; simp), List.append_nil]
theorem D0 {p : Pr} {f : Fi} (h : (f.puts.getD k aY).has = true) : nA p f (k + 1) = nA p f k ++ [(oH p k, (f.puts.getD k aY).v)] := by rw [nA, if_pos h]
theorem pC (l : List (List Int)) (a b : List Nat) : bn (bn l a) b = bn l (a ++ b) := by simp [bn, List.foldl_append]
theorem pD (l : List (List Int)) (a b : List (Nat × Int)) : bK (bK l a) b = bK l (a ++ b) := by simp [bK, List.foldl_append]
theorem uR {p : Pr} {f : Fi} : ∀ {k : Nat}, (nA p f k).length ≤ k
 | 0 => Nat.le_refl _
 | k + 1 => by
  rw [nA, List.length_append]
  have := uR (p := p) (f := f) (k := k)
  split <;> simp <;> omega
theorem wi (hc : b5 c) : ∀ {P : Nat}, P ≤ c.procs.length → (lj c s w P).length ≤ 100 * P
 | 0, _ => Nat.le_refl _
 | P + 1, h => by
  rw [lj, List.length_append]
  have := wi hc (P := P) (by omega)
  have h2 := uR (p := ba c P) (f := ab c s P) (k := (ba c P).puts.length)
  have h3 := (hc.pr P (by omega)).pl
  split
  ·omega
  ·simp only [List.length_nil]; omega
theorem D1 (ev : List (Nat × Int)) (l : List (List Int)) (n : Nat) (hn : n < l.length) : ((bK l ev).getD n []).length ≤ (l.getD n []).length + ev.length := by
 rw [pB ev l n hn, List.length_append, List.length_map]
 have := List.length_filter_le (fun e : Nat × Int => e.1 == n) ev
 omega
theorem D2 (ev : List Nat) (l : List (List Int)) (n : Nat) (hn : n < l.length) : ((bn l ev).getD n []).length ≤ (l.getD n []).length := by
 rw [j7 ev l n hn, List.length_drop]; omega
theorem FY (hc : b5 c) (hi : i < c.procs.length) (hk : k < (ba c i).takes.length) {f : Fi} : (gl c s w i ++ j5 (ba c i) f k).count (oG (ba c i) k) = 0 := by
 rw [List.count_eq_zero]
 intro hm
 rcases List.mem_append.1 hm with hm | hm
 ·obtain ⟨p, h1, _, h3⟩ := wb hm
  have h4 := (uM hc (show p < c.procs.length by omega) (Nat.le_refl _) h3).2
  have h5 := (hc.tk i hi k hk).2.2.2
  have h6 : ((p : Nat) : Int) = (i : Int) := h4.symm.trans h5
  omega
 ·obtain ⟨j, h1, _, h3⟩ := p9 hm
  have := hc.td i hi j k (by omega) hk h3
  omega
theorem Ah (hcan : oI c s i = true) (hk : k < (ba c i).takes.length) (hpop : (ab c s i).pops.getD k false = true) : 0 < (fk s (oG (ba c i) k)).length := by
 rw [B1] at hcan
 unfold ab at hpop
 rw [yP hcan] at hpop
 simp only at hpop
 rw [bf hk] at hpop
 unfold eo at hcan
 rw [Bool.and_eq_true, bE] at hcan
 have h1 := hcan.1 k hk
 unfold il at h1
 unfold lX at hpop
 rw [hpop] at h1
 simp only [Bool.not_true, Bool.or_false] at h1
 rw [hC, bf hk] at h1
 unfold cD at h1
 split at h1
 ·assumption
 ·cases h1
theorem Cf (hc : b5 c) (hl : s.chans.length = c.chans.length) (hi : i < c.procs.length) (hcan : oI c s i = true) (hk : k < (ba c i).takes.length) (hpop : (ab c s i).pops.getD k false = true) :
  1 ≤ ((bn s.chans (gl c s w i ++ j5 (ba c i) (ab c s i) k)).getD (oG (ba c i) k) []).length := by
 have h1 := hc.tk i hi k hk
 rw [j7 _ _ _ (by rw [hl]; show ((jE (ba c i) k).chan).toNat < _; omega), FY hc hi hk]
 exact Ah hcan hk hpop
theorem D3 {m n : Nat} (hc : b5 c) (hl : s.chans.length = c.chans.length) (hsm : l5 s 4294967296) (hi : i < c.procs.length) (hm : m ≤ (ba c i).puts.length) (hn : n < c.chans.length) :
  ((bK (bn s.chans (gl c s w c.procs.length)) (lj c s w i ++ nA (ba c i) (ab c s i) m)).getD n []).length + 1 ≤ 137438953472 := by
 have h1 := D1 (lj c s w i ++ nA (ba c i) (ab c s i) m) (bn s.chans (gl c s w c.procs.length)) n (by rw [dq]; omega)
 have h2 := D2 (gl c s w c.procs.length) s.chans n (by omega)
 have h3 : (s.chans.getD n []).length ≤ 4294967296 := hsm n
 have h4 := wi hc (s := s) (w := w) (P := i) (by omega)
 have h5 := uR (p := ba c i) (f := ab c s i) (k := m)
 have h6 := (hc.pr i hi).pl
 have h7 := hc.nl
 rw [List.length_append] at h1
 omega
end
theorem Cg {c : Ci} {s : Ns} {w : Nat → Bool} (hc : b5 c) {k : Nat} (h : l5 s k) : l5 (dp c s w) (k + 1) := by
 intro n
 by_cases hn : n < c.chans.length
 ·rw [ry c s w hn]
  unfold j6
  rw [List.length_append, List.length_drop]
  have h1 : (fk s n).length ≤ k := h n
  have h2 : (fp c s w n).length ≤ 1 := by
   unfold fp; split
   ·exact we hc n
   ·simp
  omega
 ·have : fk (dp c s w) n = [] := by show (tab _ _).getD n [] = []; exact DJ (by omega)
  rw [this]; simp
def aR (c : Ci) (s : Ns) (l : List ByteArray) : Ns := l.foldl (fun s cl => dp c s (bU c cl)) s
theorem Cj {c : Ci} {s : Ns} {l : List ByteArray} {i : Nat} (h : i < l.length) : aR c s (l.take (i + 1)) = dp c (aR c s (l.take i)) (bU c (l.getD i .empty)) := by
 unfold aR
 rw [List.take_succ_eq_append_getElem h, List.foldl_append]
 simp [List.getD, List.getElem?_eq_getElem h]
theorem yX {f : Ch → Int} {c : Ci} {n : Int} (h : i9 f c n = true) : 0 ≤ n ∧ n < c.chans.length ∧ f (dg c n.toNat) = -1 := by unfold i9 at h; simpa using h
def aU (c : Ci) (s : Ns) (n : Int) (ws : List Int) : Ns × Int := if i9 (·.frm) c n = true ∧ cy ws (dg c n.toNat).w = true then (⟨s.procs, s.chans.set n.toNat (fk s n.toNat ++ ws)⟩, 0) else (BW, 1)
theorem rC {c : Ci} {s : Ns} {n : Int} {ws : List Int} (h : ¬i9 (·.frm) c n = true) : aU c s n ws = (BW, 1) := if_neg (fun q => h q.1)
theorem rD {c : Ci} {s : Ns} {n : Int} {ws : List Int} (h : ¬cy ws (dg c n.toNat).w = true) : aU c s n ws = (BW, 1) := if_neg (fun q => h q.2)
theorem rE {c : Ci} {s : Ns} {n : Int} {ws : List Int} (h : i9 (·.frm) c n = true) (h2 : cy ws (dg c n.toNat).w = true) : aU c s n ws = (⟨s.procs, s.chans.set n.toNat (fk s n.toNat ++ ws)⟩, 0) := if_pos ⟨h, h2⟩
end Go.Proofs.YtgmpoenfoacofaaGreat
