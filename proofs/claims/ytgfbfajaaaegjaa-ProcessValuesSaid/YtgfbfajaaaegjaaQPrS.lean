/-
  Processes, plain law: facts for the walks over steps.
-/
import Derived.Test.YtgfbfajaaaegjaaQNeA
namespace Go.Proofs.Ytgfbfajaaaegjaa
open Go.RowKit
set_option linter.unusedVariables false
set_option linter.unusedSimpArgs false
def da {α : Type} (f : Nat → α) (l : List α) (i : Nat) : List α := tab f i ++ l.drop i
theorem cv {α : Type} {f : Nat → α} {l : List α} {i : Nat} (h : i ≤ l.length) : (da f l i).length = l.length := by
 unfold da; rw [List.length_append, aC, List.length_drop]; omega
theorem bN {α : Type} {f : Nat → α} {l : List α} {i : Nat} {v : α} (h : i < l.length) (hv : f i = v) : (da f l i).set i v = da f l (i + 1) := by
 rw [← hv]; exact Bj h
theorem eW {α : Type} {f : Nat → α} {l : List α} {i : Nat} {d : α} (h : i < l.length) (hv : f i = l.getD i d) : da f l i = da f l (i + 1) := by
 unfold da
 rw [rz, List.append_assoc, hv]
 congr 1
 rw [List.drop_eq_getElem_cons h, List.getD, List.getElem?_eq_getElem h]; rfl
theorem cr {α : Type} {f : Nat → α} {l : List α} {i : Nat} (h : l.length ≤ i) : da f l i = tab f i := Ag h
theorem dt {α : Type} {f : Nat → α} {l : List α} {i j : Nat} {d : α} : (da f l i).getD j d = if j < i then f j else l.getD j d := by
 unfold da
 by_cases h : j < i
 ·rw [if_pos h, List.getD, List.getElem?_append_left (by rw [aC]; exact h), ← List.getD, bn h]
 ·rw [if_neg h, List.getD, List.getElem?_append_right (by rw [aC]; omega), aC, List.getElem?_drop, ← List.getD]
  congr 1; omega
theorem jp {α : Type} {f : Nat → α} {enc : α → List V} {i : Nat} (h : i < 137438953472) : (tab f i).length + ([f i].map enc).length ≤ 137438953472 ∧ (tab f i).map enc ++ [f i].map enc = (tab f (i + 1)).map enc := by
 refine ⟨by rw [aC]; simp; omega, ?_⟩
 rw [rz, List.map_append]
theorem iU {α : Type} {n i : Nat} {a : α} : (List.replicate n a).getD i a = a := by
 rw [List.getD, List.getElem?_replicate]; split <;> rfl
section
variable {p : Pr} {s : Ps} {hs : List Hd} {rs : List Bool} {d : List Int} {i : Nat}
theorem rE : (gO p).getD i 0 = 0 := iU
theorem d4 : (gO p).length = p.takes.length := by simp [gO]
theorem CV (hp : cZ p) (hh : sn p hs) (hi : i ≤ p.takes.length) : sm p (da (kd p s hs) (gO p) i) where
 l := by rw [cv (by rw [d4]; exact hi), d4]
 v := fun j hj => by
  rw [dt]
  split
  ·have := (rD (s := s) hp hh).v j hj
   rw [bI, bn hj] at this
   exact this
  ·exact (Ai hp).v j hj
theorem t9 {e : Ex} (h : ¬(aL p s d e).1 = 1) : dK p s d e = false := decide_eq_false h
theorem ql {e : Ex} (h : (aL p s d e).1 = 1) : dK p s d e = true := decide_eq_true h
theorem Bm (hp : cZ p) (hi : i < p.takes.length) (h : ¬(aL p s d (pI p i).when).1 = 1) : rA p s hs i = false ∧ kd p s hs i = 0 ∧ jo p s hs i = true := by
 have h0 := t9 h
 have h1 : dK p s (gO p) (pI p i).when = false := by rw [← h0]; exact (iT hp hi _ _).1
 have h2 : dK p s (bI p s hs) (pI p i).when = false := by rw [← h0]; exact (iT hp hi _ _).1
 refine ⟨h2, ?_, ?_⟩
 ·unfold kd; rw [if_neg (by rw [h1]; simp)]
 ·unfold jo; rw [h2]; simp
theorem ns (hp : cZ p) (hi : i < p.takes.length) (h : (aL p s d (pI p i).when).1 = 1) : rA p s hs i = true ∧ (kd p s hs i = if (hs.getD i bp).has = true then (hs.getD i bp).v else 0) ∧ jo p s hs i = (hs.getD i bp).has := by
 have h0 := ql h
 have h1 : dK p s (gO p) (pI p i).when = true := by rw [← h0]; exact (iT hp hi _ _).1
 have h2 : dK p s (bI p s hs) (pI p i).when = true := by rw [← h0]; exact (iT hp hi _ _).1
 refine ⟨h2, ?_, ?_⟩
 ·unfold kd; rw [h1]; simp
 ·unfold jo; rw [h2]; simp
theorem CW (h : ¬(aL p s (bI p s hs) (vV p i).when).1 = 1) : rB p s hs i = bp ∧ ke p s hs rs i = true := by
 have h0 := t9 h
 refine ⟨?_, ?_⟩
 ·unfold rB; rw [h0]; simp
 ·unfold ke; rw [h0]; simp
theorem xO (h : (aL p s (bI p s hs) (vV p i).when).1 = 1) : rB p s hs i = ⟨true, (aL p s (bI p s hs) (vV p i).data).1⟩ ∧ ke p s hs rs i = rs.getD i false := by
 have h0 := ql h
 refine ⟨?_, ?_⟩
 ·unfold rB; rw [h0]; simp
 ·unfold ke; rw [h0]; simp
theorem xP (h : t8 p s hs rs = false) : az p s hs rs = ⟨false, s, List.replicate p.takes.length false, List.replicate p.puts.length bp⟩ := if_neg (by rw [h]; simp)
theorem xQ (h : t8 p s hs rs = true) : az p s hs rs = ⟨true, cf p s (bI p s hs), tab (rA p s hs) p.takes.length, tab (rB p s hs) p.puts.length⟩ := if_pos h
theorem kS {a b : Bool} (h1 : a = ee (jo p s hs) p.takes.length) (h2 : b = (a && ee (ke p s hs rs) p.puts.length)) : t8 p s hs rs = b := by
 rw [h2, h1]; rfl
theorem nu (hp : cZ p) (hi : i < p.takes.length) : dc (f8 p) (pI p i).when = some 1 ∧ cR (pI p i).when ≤ 3 := ⟨(iT (s := Fr) hp hi [] []).2, (hp.tw i hi).2.2⟩
theorem nw (p : Pr) : aZ p = ⟨tab (fun i => (vW p i).init) p.regs.length, tab (fun i => List.replicate (iu p i).words.toNat 0) p.mems.length⟩ := by
 unfold aZ; rw [xN (d := aM), xN (d := ax)]
theorem Aj {l : List Int} {z : List Int} (h : l.length = z.length) : da (fun j => l.getD j 0) z z.length = l := by
 rw [cr (Nat.le_refl _), ← h, ← Af]
end
theorem cA {p : Pr} {s : Ps} (h : ¬s.regs.length = p.regs.length) : bi p s = false := by unfold bi; rw [decide_eq_false h]; rfl
theorem cB {p : Pr} {s : Ps} (h : ¬s.mems.length = p.mems.length) : bi p s = false := by unfold bi; rw [decide_eq_false h]; simp
theorem cC {p : Pr} {s : Ps} {i : Nat} (hi : i < s.regs.length) (h : fh (s.regs.getD i 0) (vW p i).w = false) : bi p s = false := by
 unfold bi; rw [qk hi h]; simp
theorem be {p : Pr} {s : Ps} {i : Nat} (hi : i < s.mems.length) (h : fX p s i = false) : bi p s = false := by
 unfold bi; rw [qk hi h]; simp
theorem ey {p : Pr} {s : Ps} {i : Nat} (h : ¬((s.mems.getD i []).length : Int) = (iu p i).words) : fX p s i = false := by unfold fX; rw [decide_eq_false h]; rfl
theorem ez {p : Pr} {s : Ps} {i j : Nat} (hj : j < (s.mems.getD i []).length) (h : fh ((s.mems.getD i []).getD j 0) (iu p i).w = false) : fX p s i = false := by
 unfold fX; rw [qk hj h]; simp
theorem xR {p : Pr} {s : Ps} {i : Nat} (h1 : ((s.mems.getD i []).length : Int) = (iu p i).words) (h2 : ∀ j, j < (s.mems.getD i []).length → fh ((s.mems.getD i []).getD j 0) (iu p i).w = true) : fX p s i = true := by
 unfold fX; rw [decide_eq_true h1, fd.2 h2]; rfl
theorem cD {p : Pr} {s : Ps} (h1 : s.regs.length = p.regs.length) (h2 : s.mems.length = p.mems.length) (h3 : ∀ i, i < s.regs.length → fh (s.regs.getD i 0) (vW p i).w = true) (h4 : ∀ i, i < s.mems.length → fX p s i = true) : bi p s = true := by
 unfold bi; rw [decide_eq_true h1, decide_eq_true h2, fd.2 h3, fd.2 h4]; rfl
theorem xS {v w : Int} (h0 : 0 ≤ v) (h1 : 0 ≤ w) (h2 : w ≤ 62) : (v / 2 ^ w.toNat == 0) = fh v w := by
 have hp := dV (n := w.toNat) (by omega)
 unfold fh
 rw [decide_eq_true h0, Bool.true_and, dp h1 h2]
 rw [Bool.eq_iff_iff, beq_iff_eq, decide_eq_true_eq]
 generalize (2 : Int) ^ w.toNat = m at hp ⊢
 constructor
 ·intro h
  have h3 := Int.emod_add_mul_ediv v m
  rw [h] at h3
  have h4 := Int.emod_lt_of_pos v (show 0 < m by omega)
  omega
 ·intro h
  exact Int.ediv_eq_zero_of_lt h0 (by omega)
end Go.Proofs.Ytgfbfajaaaegjaa
