/-
  Circuits, plain data: what the loops of a firing keep.
-/
import Derived.Test.YtckgpflobhpnpaaQGrw
namespace Go.Proofs.Ytckgpflobhpnpaa
open Go.RowKit
set_option linter.unusedVariables false
set_option linter.unusedSimpArgs false
abbrev pU : Fi := ⟨false, ⟨[], []⟩, [], []⟩
def bc (c : Ci) (cl : ByteArray) (q : Nat) : Bool := (be c q).clock.toList == cl.toList
def Jp (c : Ci) (s : Ns) (w : Nat → Bool) (p : Nat) : Fi := if w p = true then af c s p else pU
section
variable {c : Ci} {s : Ns} {w : Nat → Bool} {i k : Nat}
theorem LP (h : (!w i) = true) : aA c s w i = false := by
 unfold aA; cases hw : w i
 ·rfl
 ·rw [hw] at h; cases h
theorem Ko (h : gf c s i = false) : aA c s w i = false := by unfold aA; rw [h, Bool.and_false]
theorem Kp (h : (!w i) = false) (h2 : gf c s i = true) : aA c s w i = true := by
 unfold aA; cases hw : w i
 ·rw [hw] at h; cases h
 ·rw [h2]; rfl
theorem Nf (h : aA c s w i = true) : w i = true ∧ gf c s i = true := by unfold aA at h; simpa using h
theorem Jq (h : aA c s w i = false) : AZ s i = cM c s w i := by unfold cM; rw [if_neg (by rw [h]; simp)]
theorem Kq (h : aA c s w i = true) : (af c s i).s = cM c s w i := by unfold cM; rw [if_pos h]
theorem LQ (h : (!w i) = true) : pU = Jp c s w i := by
 unfold Jp; cases hw : w i
 ·rw [if_neg (by simp)]
 ·rw [hw] at h; cases h
theorem F9 (h : (!w i) = false) : af c s i = Jp c s w i := by
 unfold Jp; cases hw : w i
 ·rw [hw] at h; cases h
 ·rw [if_pos rfl]
theorem CR (h : aA c s w i = false) : iH c s w (i + 1) = iH c s w i := by rw [iH, if_neg (by rw [h]; simp), List.append_nil]
theorem Ga (h : aA c s w i = true) : iH c s w (i + 1) = iH c s w i ++ lN (be c i) (af c s i) (be c i).takes.length := by rw [iH, if_pos h]
theorem Iy (h : aA c s w i = false) : oC c s w (i + 1) = oC c s w i := by rw [oC, if_neg (by rw [h]; simp), List.append_nil]
theorem Gb (h : aA c s w i = true) : oC c s w (i + 1) = oC c s w i ++ ny (be c i) (af c s i) (be c i).puts.length := by rw [oC, if_pos h]
theorem Gc {p : Pr} {f : Fi} (h : f.pops.getD k false = false) : lN p f (k + 1) = lN p f k := by rw [lN, if_neg (by rw [h]; simp), List.append_nil]
theorem CT {p : Pr} {f : Fi} (h : f.pops.getD k false = true) : lN p f (k + 1) = lN p f k ++ [mA p k] := by rw [lN, if_pos h]
theorem Bb {p : Pr} {f : Fi} (h : (f.puts.getD k aP).has = false) : ny p f (k + 1) = ny p f k := by rw [ny, if_neg (by rw [h]; simp), List.append_nil]
theorem xT {p : Pr} {f : Fi} (h : (f.puts.getD k aP).has = true) : ny p f (k + 1) = ny p f k ++ [(vG p k, (f.puts.getD k aP).v)] := by rw [ny, if_pos h]
theorem sK (l : List (List Int)) (a b : List Nat) : bp (bp l a) b = bp l (a ++ b) := by simp [bp, List.foldl_append]
theorem sL (l : List (List Int)) (a b : List (Nat × Int)) : bG (bG l a) b = bG l (a ++ b) := by simp [bG, List.foldl_append]
theorem tC {p : Pr} {f : Fi} : ∀ {k : Nat}, (ny p f k).length ≤ k
 | 0 => Nat.le_refl _
 | k + 1 => by
  rw [ny, List.length_append]
  have := tC (p := p) (f := f) (k := k)
  split <;> simp <;> omega
theorem zA (hc : a6 c) : ∀ {P : Nat}, P ≤ c.procs.length → (oC c s w P).length ≤ 100 * P
 | 0, _ => Nat.le_refl _
 | P + 1, h => by
  rw [oC, List.length_append]
  have := zA hc (P := P) (by omega)
  have h2 := tC (p := be c P) (f := af c s P) (k := (be c P).puts.length)
  have h3 := (hc.pr P (by omega)).pl
  split
  ·omega
  ·simp only [List.length_nil]; omega
theorem CU (ev : List (Nat × Int)) (l : List (List Int)) (n : Nat) (hn : n < l.length) : ((bG l ev).getD n []).length ≤ (l.getD n []).length + ev.length := by
 rw [mC ev l n hn, List.length_append, List.length_map]
 have := List.length_filter_le (fun e : Nat × Int => e.1 == n) ev
 omega
theorem Iz (ev : List Nat) (l : List (List Int)) (n : Nat) (hn : n < l.length) : ((bp l ev).getD n []).length ≤ (l.getD n []).length := by
 rw [mB ev l n hn, List.length_drop]; omega
theorem Kr (hc : a6 c) (hi : i < c.procs.length) (hk : k < (be c i).takes.length) {f : Fi} : (iH c s w i ++ lN (be c i) f k).count (mA (be c i) k) = 0 := by
 rw [List.count_eq_zero]
 intro hm
 rcases List.mem_append.1 hm with hm | hm
 ·obtain ⟨p, h1, _, h3⟩ := zu hm
  have h4 := (tA hc (show p < c.procs.length by omega) (Nat.le_refl _) h3).2
  have h5 := (hc.tk i hi k hk).2.2.2
  have h6 : ((p : Nat) : Int) = (i : Int) := h4.symm.trans h5
  omega
 ·obtain ⟨j, h1, _, h3⟩ := nz hm
  have := hc.td i hi j k (by omega) hk h3
  omega
theorem Ee (hcan : gf c s i = true) (hk : k < (be c i).takes.length) (hpop : (af c s i).pops.getD k false = true) : 0 < (xN s (mA (be c i) k)).length := by
 rw [rX] at hcan
 unfold af at hpop
 rw [CE hcan] at hpop
 simp only at hpop
 rw [aB hk] at hpop
 unfold fo at hcan
 rw [Bool.and_eq_true, cH] at hcan
 have h1 := hcan.1 k hk
 unfold jQ at h1
 unfold oA at hpop
 rw [hpop] at h1
 simp only [Bool.not_true, Bool.or_false] at h1
 rw [ge, aB hk] at h1
 unfold cJ at h1
 split at h1
 ·assumption
 ·cases h1
theorem Gd (hc : a6 c) (hl : s.chans.length = c.chans.length) (hi : i < c.procs.length) (hcan : gf c s i = true) (hk : k < (be c i).takes.length) (hpop : (af c s i).pops.getD k false = true) :
  1 ≤ ((bp s.chans (iH c s w i ++ lN (be c i) (af c s i) k)).getD (mA (be c i) k) []).length := by
 have h1 := hc.tk i hi k hk
 rw [mB _ _ _ (by rw [hl]; show ((lM (be c i) k).chan).toNat < _; omega), Kr hc hi hk]
 exact Ee hcan hk hpop
theorem IA {m n : Nat} (hc : a6 c) (hl : s.chans.length = c.chans.length) (hsm : Mz s 4294967296) (hi : i < c.procs.length) (hm : m ≤ (be c i).puts.length) (hn : n < c.chans.length) :
  ((bG (bp s.chans (iH c s w c.procs.length)) (oC c s w i ++ ny (be c i) (af c s i) m)).getD n []).length + 1 ≤ 137438953472 := by
 have h1 := CU (oC c s w i ++ ny (be c i) (af c s i) m) (bp s.chans (iH c s w c.procs.length)) n (by rw [dW]; omega)
 have h2 := Iz (iH c s w c.procs.length) s.chans n (by omega)
 have h3 : (s.chans.getD n []).length ≤ 4294967296 := hsm n
 have h4 := zA hc (s := s) (w := w) (P := i) (by omega)
 have h5 := tC (p := be c i) (f := af c s i) (k := m)
 have h6 := (hc.pr i hi).pl
 have h7 := hc.nl
 rw [List.length_append] at h1
 omega
end
end Go.Proofs.Ytckgpflobhpnpaa
