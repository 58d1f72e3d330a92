/-
  Circuits, plain data: what the loops of a firing keep.
-/
import Derived.Test.YtckgpflobhpnpaaQNeF
namespace Go.Proofs.Ytckgpflobhpnpaa
open Go.RowKit
set_option linter.unusedVariables false
set_option linter.unusedSimpArgs false
abbrev oC : Fi := ⟨false, ⟨[], []⟩, [], []⟩
def ba (c : Ci) (cl : ByteArray) (q : Nat) : Bool := (a6 c q).clock.toList == cl.toList
def F6 (c : Ci) (s : Ns) (w : Nat → Bool) (p : Nat) : Fi := if w p = true then ac c s p else oC
section
variable {c : Ci} {s : Ns} {w : Nat → Bool} {i k : Nat}
theorem Im (h : (!w i) = true) : aq c s w i = false := by
 unfold aq; cases hw : w i
 ·rfl
 ·rw [hw] at h; cases h
theorem G2 (h : fC c s i = false) : aq c s w i = false := by unfold aq; rw [h, Bool.and_false]
theorem G3 (h : (!w i) = false) (h2 : fC c s i = true) : aq c s w i = true := by
 unfold aq; cases hw : w i
 ·rw [hw] at h; cases h
 ·rw [h2]; rfl
theorem JD (h : aq c s w i = true) : w i = true ∧ fC c s i = true := by unfold aq at h; simpa using h
theorem F7 (h : aq c s w i = false) : yH s i = cz c s w i := by unfold cz; rw [if_neg (by rw [h]; simp)]
theorem G4 (h : aq c s w i = true) : (ac c s i).s = cz c s w i := by unfold cz; rw [if_pos h]
theorem Io (h : (!w i) = true) : oC = F6 c s w i := by
 unfold F6; cases hw : w i
 ·rw [if_neg (by simp)]
 ·rw [hw] at h; cases h
theorem Dk (h : (!w i) = false) : ac c s i = F6 c s w i := by
 unfold F6; cases hw : w i
 ·rw [hw] at h; cases h
 ·rw [if_pos rfl]
theorem Ap (h : aq c s w i = false) : hU c s w (i + 1) = hU c s w i := by rw [hU, if_neg (by rw [h]; simp), List.append_nil]
theorem Dl (h : aq c s w i = true) : hU c s w (i + 1) = hU c s w i ++ kK (a6 c i) (ac c s i) (a6 c i).takes.length := by rw [hU, if_pos h]
theorem Fs (h : aq c s w i = false) : mY c s w (i + 1) = mY c s w i := by rw [mY, if_neg (by rw [h]; simp), List.append_nil]
theorem Dm (h : aq c s w i = true) : mY c s w (i + 1) = mY c s w i ++ mm (a6 c i) (ac c s i) (a6 c i).puts.length := by rw [mY, if_pos h]
theorem Dn {p : Pr} {f : Fi} (h : f.pops.getD k false = false) : kK p f (k + 1) = kK p f k := by rw [kK, if_neg (by rw [h]; simp), List.append_nil]
theorem Aq {p : Pr} {f : Fi} (h : f.pops.getD k false = true) : kK p f (k + 1) = kK p f k ++ [nq p k] := by rw [kK, if_pos h]
theorem yS {p : Pr} {f : Fi} (h : (f.puts.getD k aK).has = false) : mm p f (k + 1) = mm p f k := by rw [mm, if_neg (by rw [h]; simp), List.append_nil]
theorem v7 {p : Pr} {f : Fi} (h : (f.puts.getD k aK).has = true) : mm p f (k + 1) = mm p f k ++ [(wB p k, (f.puts.getD k aK).v)] := by rw [mm, if_pos h]
theorem qV (l : List (List Int)) (a b : List Nat) : bg (bg l a) b = bg l (a ++ b) := by simp [bg, List.foldl_append]
theorem qW (l : List (List Int)) (a b : List (Nat × Int)) : bv (bv l a) b = bv l (a ++ b) := by simp [bv, List.foldl_append]
theorem rN {p : Pr} {f : Fi} : ∀ {k : Nat}, (mm p f k).length ≤ k
 | 0 => Nat.le_refl _
 | k + 1 => by
  rw [mm, List.length_append]
  have := rN (p := p) (f := f) (k := k)
  split <;> simp <;> omega
theorem xx (hc : a8 c) : ∀ {P : Nat}, P ≤ c.procs.length → (mY c s w P).length ≤ 100 * P
 | 0, _ => Nat.le_refl _
 | P + 1, h => by
  rw [mY, List.length_append]
  have := xx hc (P := P) (by omega)
  have h2 := rN (p := a6 c P) (f := ac c s P) (k := (a6 c P).puts.length)
  have h3 := (hc.pr P (by omega)).pl
  split
  ·omega
  ·simp only [List.length_nil]; omega
theorem Ar (ev : List (Nat × Int)) (l : List (List Int)) (n : Nat) (hn : n < l.length) : ((bv l ev).getD n []).length ≤ (l.getD n []).length + ev.length := by
 rw [lu ev l n hn, List.length_append, List.length_map]
 have := List.length_filter_le (fun e : Nat × Int => e.1 == n) ev
 omega
theorem Ft (ev : List Nat) (l : List (List Int)) (n : Nat) (hn : n < l.length) : ((bg l ev).getD n []).length ≤ (l.getD n []).length := by
 rw [lr ev l n hn, List.length_drop]; omega
theorem G5 (hc : a8 c) (hi : i < c.procs.length) (hk : k < (a6 c i).takes.length) {f : Fi} : (hU c s w i ++ kK (a6 c i) f k).count (nq (a6 c i) k) = 0 := by
 rw [List.count_eq_zero]
 intro hm
 rcases List.mem_append.1 hm with hm | hm
 ·obtain ⟨p, h1, _, h3⟩ := xr hm
  have h4 := (rL hc (show p < c.procs.length by omega) (Nat.le_refl _) h3).2
  have h5 := (hc.tk i hi k hk).2.2.2
  have h6 : ((p : Nat) : Int) = (i : Int) := h4.symm.trans h5
  omega
 ·obtain ⟨j, h1, _, h3⟩ := mr hm
  have := hc.td i hi j k (by omega) hk h3
  omega
theorem Bw (hcan : fC c s i = true) (hk : k < (a6 c i).takes.length) (hpop : (ac c s i).pops.getD k false = true) : 0 < (vY s (nq (a6 c i) k)).length := by
 rw [qs] at hcan
 unfold ac at hpop
 rw [Af hcan] at hpop
 simp only at hpop
 rw [aH hk] at hpop
 unfold eN at hcan
 rw [Bool.and_eq_true, c9] at hcan
 have h1 := hcan.1 k hk
 unfold jr at h1
 unfold mW at hpop
 rw [hpop] at h1
 simp only [Bool.not_true, Bool.or_false] at h1
 rw [fB, aH hk] at h1
 unfold cx at h1
 split at h1
 ·assumption
 ·cases h1
theorem Dp (hc : a8 c) (hl : s.chans.length = c.chans.length) (hi : i < c.procs.length) (hcan : fC c s i = true) (hk : k < (a6 c i).takes.length) (hpop : (ac c s i).pops.getD k false = true) :
  1 ≤ ((bg s.chans (hU c s w i ++ kK (a6 c i) (ac c s i) k)).getD (nq (a6 c i) k) []).length := by
 have h1 := hc.tk i hi k hk
 rw [lr _ _ _ (by rw [hl]; show ((oB (a6 c i) k).chan).toNat < _; omega), G5 hc hi hk]
 exact Bw hcan hk hpop
theorem Fu {m n : Nat} (hc : a8 c) (hl : s.chans.length = c.chans.length) (hsm : IU s 4294967296) (hi : i < c.procs.length) (hm : m ≤ (a6 c i).puts.length) (hn : n < c.chans.length) :
  ((bv (bg s.chans (hU c s w c.procs.length)) (mY c s w i ++ mm (a6 c i) (ac c s i) m)).getD n []).length + 1 ≤ 137438953472 := by
 have h1 := Ar (mY c s w i ++ mm (a6 c i) (ac c s i) m) (bg s.chans (hU c s w c.procs.length)) n (by rw [dy]; omega)
 have h2 := Ft (hU c s w c.procs.length) s.chans n (by omega)
 have h3 : (s.chans.getD n []).length ≤ 4294967296 := hsm n
 have h4 := xx hc (s := s) (w := w) (P := i) (by omega)
 have h5 := rN (p := a6 c i) (f := ac c s i) (k := m)
 have h6 := (hc.pr i hi).pl
 have h7 := hc.nl
 rw [List.length_append] at h1
 omega
end
end Go.Proofs.Ytckgpflobhpnpaa
