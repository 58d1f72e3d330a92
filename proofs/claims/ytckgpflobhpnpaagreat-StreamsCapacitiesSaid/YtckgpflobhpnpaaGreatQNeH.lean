/-
  Circuits, plain data: what the loops of a firing keep.
-/
import Derived.Test.YtckgpflobhpnpaaGreatQGrw
namespace Go.Proofs.YtckgpflobhpnpaaGreat
open Go.RowKit
set_option linter.unusedVariables false
set_option linter.unusedSimpArgs false
abbrev pT : Fi := ⟨false, ⟨[], []⟩, [], []⟩
def a6 (c : Ci) (cl : ByteArray) (q : Nat) : Bool := (a8 c q).clock.toList == cl.toList
def Jl (c : Ci) (s : Ns) (w : Nat → Bool) (p : Nat) : Fi := if w p = true then ae c s p else pT
section
variable {c : Ci} {s : Ns} {w : Nat → Bool} {i k : Nat}
theorem L6 (h : (!w i) = true) : ay c s w i = false := by
 unfold ay; cases hw : w i
 ·rfl
 ·rw [hw] at h; cases h
theorem Kp (h : fq c s i = false) : ay c s w i = false := by unfold ay; rw [h, Bool.and_false]
theorem Kq (h : (!w i) = false) (h2 : fq c s i = true) : ay c s w i = true := by
 unfold ay; cases hw : w i
 ·rw [hw] at h; cases h
 ·rw [h2]; rfl
theorem NI (h : ay c s w i = true) : w i = true ∧ fq c s i = true := by unfold ay at h; simpa using h
theorem Jm (h : ay c s w i = false) : xJ s i = cM c s w i := by unfold cM; rw [if_neg (by rw [h]; simp)]
theorem Kr (h : ay c s w i = true) : (ae c s i).s = cM c s w i := by unfold cM; rw [if_pos h]
theorem L7 (h : (!w i) = true) : pT = Jl c s w i := by
 unfold Jl; cases hw : w i
 ·rw [if_neg (by simp)]
 ·rw [hw] at h; cases h
theorem F8 (h : (!w i) = false) : ae c s i = Jl c s w i := by
 unfold Jl; cases hw : w i
 ·rw [hw] at h; cases h
 ·rw [if_pos rfl]
theorem CF (h : ay c s w i = false) : iL c s w (i + 1) = iL c s w i := by rw [iL, if_neg (by rw [h]; simp), List.append_nil]
theorem F9 (h : ay c s w i = true) : iL c s w (i + 1) = iL c s w i ++ lH (a8 c i) (ae c s i) (a8 c i).takes.length := by rw [iL, if_pos h]
theorem Iv (h : ay c s w i = false) : oz c s w (i + 1) = oz c s w i := by rw [oz, if_neg (by rw [h]; simp), List.append_nil]
theorem Ga (h : ay c s w i = true) : oz c s w (i + 1) = oz c s w i ++ nr (a8 c i) (ae c s i) (a8 c i).puts.length := by rw [oz, if_pos h]
theorem Gb {p : Pr} {f : Fi} (h : f.pops.getD k false = false) : lH p f (k + 1) = lH p f k := by rw [lH, if_neg (by rw [h]; simp), List.append_nil]
theorem CG {p : Pr} {f : Fi} (h : f.pops.getD k false = true) : lH p f (k + 1) = lH p f k ++ [jG p k] := by rw [lH, if_pos h]
theorem A7 {p : Pr} {f : Fi} (h : (f.puts.getD k aO).has = false) : nr p f (k + 1) = nr p f k := by rw [nr, if_neg (by rw [h]; simp), List.append_nil]
theorem xQ {p : Pr} {f : Fi} (h : (f.puts.getD k aO).has = true) : nr p f (k + 1) = nr p f k ++ [(tz p k, (f.puts.getD k aO).v)] := by rw [nr, if_pos h]
theorem sK (l : List (List Int)) (a b : List Nat) : bp (bp l a) b = bp l (a ++ b) := by simp [bp, List.foldl_append]
theorem sL (l : List (List Int)) (a b : List (Nat × Int)) : bD (bD l a) b = bD l (a ++ b) := by simp [bD, List.foldl_append]
theorem tC {p : Pr} {f : Fi} : ∀ {k : Nat}, (nr p f k).length ≤ k
 | 0 => Nat.le_refl _
 | k + 1 => by
  rw [nr, List.length_append]
  have := tC (p := p) (f := f) (k := k)
  split <;> simp <;> omega
theorem zu (hc : aZ c) : ∀ {P : Nat}, P ≤ c.procs.length → (oz c s w P).length ≤ 100 * P
 | 0, _ => Nat.le_refl _
 | P + 1, h => by
  rw [oz, List.length_append]
  have := zu hc (P := P) (by omega)
  have h2 := tC (p := a8 c P) (f := ae c s P) (k := (a8 c P).puts.length)
  have h3 := (hc.pr P (by omega)).pl
  split
  ·omega
  ·simp only [List.length_nil]; omega
theorem CH (ev : List (Nat × Int)) (l : List (List Int)) (n : Nat) (hn : n < l.length) : ((bD l ev).getD n []).length ≤ (l.getD n []).length + ev.length := by
 rw [mu ev l n hn, List.length_append, List.length_map]
 have := List.length_filter_le (fun e : Nat × Int => e.1 == n) ev
 omega
theorem Iw (ev : List Nat) (l : List (List Int)) (n : Nat) (hn : n < l.length) : ((bp l ev).getD n []).length ≤ (l.getD n []).length := by
 rw [mt ev l n hn, List.length_drop]; omega
theorem Ks (hc : aZ c) (hi : i < c.procs.length) (hk : k < (a8 c i).takes.length) {f : Fi} : (iL c s w i ++ lH (a8 c i) f k).count (jG (a8 c i) k) = 0 := by
 rw [List.count_eq_zero]
 intro hm
 rcases List.mem_append.1 hm with hm | hm
 ·obtain ⟨p, h1, _, h3⟩ := zn hm
  have h4 := (tA hc (show p < c.procs.length by omega) (Nat.le_refl _) h3).2
  have h5 := (hc.tk i hi k hk).2.2.2
  have h6 : ((p : Nat) : Int) = (i : Int) := h4.symm.trans h5
  omega
 ·obtain ⟨j, h1, _, h3⟩ := ns hm
  have := hc.td i hi j k (by omega) hk h3
  omega
theorem D5 (hcan : fq c s i = true) (hk : k < (a8 c i).takes.length) (hpop : (ae c s i).pops.getD k false = true) : 0 < (xK s (jG (a8 c i) k)).length := by
 rw [pH] at hcan
 unfold ae at hpop
 rw [Cs hcan] at hpop
 simp only at hpop
 rw [az hk] at hpop
 unfold fp at hcan
 rw [Bool.and_eq_true, cH] at hcan
 have h1 := hcan.1 k hk
 unfold jT at h1
 unfold ou at hpop
 rw [hpop] at h1
 simp only [Bool.not_true, Bool.or_false] at h1
 rw [en, az hk] at h1
 unfold cA at h1
 split at h1
 ·assumption
 ·cases h1
theorem Gc (hc : aZ c) (hl : s.chans.length = c.chans.length) (hi : i < c.procs.length) (hcan : fq c s i = true) (hk : k < (a8 c i).takes.length) (hpop : (ae c s i).pops.getD k false = true) :
  1 ≤ ((bp s.chans (iL c s w i ++ lH (a8 c i) (ae c s i) k)).getD (jG (a8 c i) k) []).length := by
 have h1 := hc.tk i hi k hk
 rw [mt _ _ _ (by rw [hl]; show ((lG (a8 c i) k).chan).toNat < _; omega), Ks hc hi hk]
 exact D5 hcan hk hpop
theorem Ix {m n : Nat} (hc : aZ c) (hl : s.chans.length = c.chans.length) (hsm : MS s 4294967296) (hi : i < c.procs.length) (hm : m ≤ (a8 c i).puts.length) (hn : n < c.chans.length) :
  ((bD (bp s.chans (iL c s w c.procs.length)) (oz c s w i ++ nr (a8 c i) (ae c s i) m)).getD n []).length + 1 ≤ 137438953472 := by
 have h1 := CH (oz c s w i ++ nr (a8 c i) (ae c s i) m) (bp s.chans (iL c s w c.procs.length)) n (by rw [dV]; omega)
 have h2 := Iw (iL c s w c.procs.length) s.chans n (by omega)
 have h3 : (s.chans.getD n []).length ≤ 4294967296 := hsm n
 have h4 := zu hc (s := s) (w := w) (P := i) (by omega)
 have h5 := tC (p := a8 c i) (f := ae c s i) (k := m)
 have h6 := (hc.pr i hi).pl
 have h7 := hc.nl
 rw [List.length_append] at h1
 omega
end
end Go.Proofs.YtckgpflobhpnpaaGreat
