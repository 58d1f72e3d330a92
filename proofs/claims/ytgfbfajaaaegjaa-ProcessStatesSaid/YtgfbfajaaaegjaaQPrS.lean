/-
  Processes, plain law: facts for the walks over steps.
-/
import Derived.Test.YtgfbfajaaaegjaaQNeA
namespace Go.Proofs.Ytgfbfajaaaegjaa
open Go.RowKit
set_option linter.unusedVariables false
set_option linter.unusedSimpArgs false
def dk {α : Type} (f : Nat → α) (l : List α) (i : Nat) : List α := tab f i ++ l.drop i
theorem eD {α : Type} {f : Nat → α} {l : List α} {i : Nat} (h : i ≤ l.length) : (dk f l i).length = l.length := by
 unfold dk; rw [List.length_append, aB, List.length_drop]; omega
theorem cc {α : Type} {f : Nat → α} {l : List α} {i : Nat} {v : α} (h : i < l.length) (hv : f i = v) : (dk f l i).set i v = dk f l (i + 1) := by
 rw [← hv]; exact Ae h
theorem ij {α : Type} {f : Nat → α} {l : List α} {i : Nat} {d : α} (h : i < l.length) (hv : f i = l.getD i d) : dk f l i = dk f l (i + 1) := by
 unfold dk
 rw [qI, List.append_assoc, hv]
 congr 1
 rw [List.drop_eq_getElem_cons h, List.getD, List.getElem?_eq_getElem h]; rfl
theorem cT {α : Type} {f : Nat → α} {l : List α} {i : Nat} (h : l.length ≤ i) : dk f l i = tab f i := y3 h
theorem dm {α : Type} {f : Nat → α} {l : List α} {i j : Nat} {d : α} : (dk f l i).getD j d = if j < i then f j else l.getD j d := by
 unfold dk
 by_cases h : j < i
 ·rw [if_pos h, List.getD, List.getElem?_append_left (by rw [aB]; exact h), ← List.getD, aZ h]
 ·rw [if_neg h, List.getD, List.getElem?_append_right (by rw [aB]; omega), aB, List.getElem?_drop, ← List.getD]
  congr 1; omega
theorem pM {α : Type} {f : Nat → α} {enc : α → List V} {i : Nat} (h : i < 137438953472) : (tab f i).length + ([f i].map enc).length ≤ 137438953472 ∧ (tab f i).map enc ++ [f i].map enc = (tab f (i + 1)).map enc := by
 refine ⟨by rw [aB]; simp; omega, ?_⟩
 rw [qI, List.map_append]
theorem gf {α : Type} {n i : Nat} {a : α} : (List.replicate n a).getD i a = a := by
 rw [List.getD, List.getElem?_replicate]; split <;> rfl
section
variable {p : Pr} {s : Ps} {hs : List Hd} {rs : List Bool} {d : List Int} {i : Nat}
theorem vU : (ri p).getD i 0 = 0 := gf
theorem iI : (ri p).length = p.takes.length := by simp [ri]
theorem BC (hp : dA p) (hh : tr p hs) (hi : i ≤ p.takes.length) : uO p (dk (oi p s hs) (ri p) i) where
 l := by rw [eD (by rw [iI]; exact hi), iI]
 v := fun j hj => by
  rw [dm]
  split
  ·have := (vS (s := s) hp hh).v j hj
   rw [jB, aZ hj] at this
   exact this
  ·exact (A7 hp).v j hj
theorem tv {e : Ex} (h : ¬(bg p s d e).1 = 1) : jA p s d e = false := decide_eq_false h
theorem pN {e : Ex} (h : (bg p s d e).1 = 1) : jA p s d e = true := decide_eq_true h
theorem Ah (hp : dA p) (hi : i < p.takes.length) (h : ¬(bg p s d (o0 p i).when).1 = 1) : px p s hs i = false ∧ oi p s hs i = 0 ∧ kV p s hs i = true := by
 have h0 := tv h
 have h1 : jA p s (ri p) (o0 p i).when = false := by rw [← h0]; exact (ii hp hi _ _).1
 have h2 : jA p s (jB p s hs) (o0 p i).when = false := by rw [← h0]; exact (ii hp hi _ _).1
 refine ⟨h2, ?_, ?_⟩
 ·unfold oi; rw [if_neg (by rw [h1]; simp)]
 ·unfold kV; rw [h2]; simp
theorem mH (hp : dA p) (hi : i < p.takes.length) (h : (bg p s d (o0 p i).when).1 = 1) : px p s hs i = true ∧ (oi p s hs i = if (hs.getD i be).has = true then (hs.getD i be).v else 0) ∧ kV p s hs i = (hs.getD i be).has := by
 have h0 := pN h
 have h1 : jA p s (ri p) (o0 p i).when = true := by rw [← h0]; exact (ii hp hi _ _).1
 have h2 : jA p s (jB p s hs) (o0 p i).when = true := by rw [← h0]; exact (ii hp hi _ _).1
 refine ⟨h2, ?_, ?_⟩
 ·unfold oi; rw [h1]; simp
 ·unfold kV; rw [h2]; simp
theorem BD (h : ¬(bg p s (jB p s hs) (tq p i).when).1 = 1) : jm p s hs i = be ∧ mG p s hs rs i = true := by
 have h0 := tv h
 refine ⟨?_, ?_⟩
 ·unfold jm; rw [h0]; simp
 ·unfold mG; rw [h0]; simp
theorem wU (h : (bg p s (jB p s hs) (tq p i).when).1 = 1) : jm p s hs i = ⟨true, (bg p s (jB p s hs) (tq p i).data).1⟩ ∧ mG p s hs rs i = rs.getD i false := by
 have h0 := pN h
 refine ⟨?_, ?_⟩
 ·unfold jm; rw [h0]; simp
 ·unfold mG; rw [h0]; simp
theorem mI (h : gT p s hs rs = false) : ae p s hs rs = ⟨false, s, List.replicate p.takes.length false, List.replicate p.puts.length be⟩ := if_neg (by rw [h]; simp)
theorem pO (h : gT p s hs rs = true) : ae p s hs rs = ⟨true, ed p s (jB p s hs), tab (px p s hs) p.takes.length, tab (jm p s hs) p.puts.length⟩ := if_pos h
theorem sv {a b : Bool} (h1 : a = eC (kV p s hs) p.takes.length) (h2 : b = (a && eC (mG p s hs rs) p.puts.length)) : gT p s hs rs = b := by
 rw [h2, h1]; rfl
theorem wV (hp : dA p) (hi : i < p.takes.length) : cz (ee p) (o0 p i).when = some 1 ∧ ce (o0 p i).when ≤ 3 := ⟨(ii (s := DX) hp hi [] []).2, (hp.tw i hi).2.2⟩
theorem uP (p : Pr) : bt p = ⟨tab (fun i => (rj p i).init) p.regs.length, tab (fun i => List.replicate (fr p i).words.toNat 0) p.mems.length⟩ := by
 unfold bt; rw [wT (d := aA), wT (d := ai)]
theorem y5 {l : List Int} {z : List Int} (h : l.length = z.length) : dk (fun j => l.getD j 0) z z.length = l := by
 rw [cT (Nat.le_refl _), ← h, ← y2]
end
theorem cl {p : Pr} {s : Ps} (h : ¬s.regs.length = p.regs.length) : ba p s = false := by unfold ba; rw [decide_eq_false h]; rfl
theorem cm {p : Pr} {s : Ps} (h : ¬s.mems.length = p.mems.length) : ba p s = false := by unfold ba; rw [decide_eq_false h]; simp
theorem co {p : Pr} {s : Ps} {i : Nat} (hi : i < s.regs.length) (h : eJ (s.regs.getD i 0) (rj p i).w = false) : ba p s = false := by
 unfold ba; rw [tp hi h]; simp
theorem a7 {p : Pr} {s : Ps} {i : Nat} (hi : i < s.mems.length) (h : fm p s i = false) : ba p s = false := by
 unfold ba; rw [tp hi h]; simp
theorem dQ {p : Pr} {s : Ps} {i : Nat} (h : ¬((s.mems.getD i []).length : Int) = (fr p i).words) : fm p s i = false := by unfold fm; rw [decide_eq_false h]; rfl
theorem dR {p : Pr} {s : Ps} {i j : Nat} (hj : j < (s.mems.getD i []).length) (h : eJ ((s.mems.getD i []).getD j 0) (fr p i).w = false) : fm p s i = false := by
 unfold fm; rw [tp hj h]; simp
theorem wW {p : Pr} {s : Ps} {i : Nat} (h1 : ((s.mems.getD i []).length : Int) = (fr p i).words) (h2 : ∀ j, j < (s.mems.getD i []).length → eJ ((s.mems.getD i []).getD j 0) (fr p i).w = true) : fm p s i = true := by
 unfold fm; rw [decide_eq_true h1, dJ.2 h2]; rfl
theorem cp {p : Pr} {s : Ps} (h1 : s.regs.length = p.regs.length) (h2 : s.mems.length = p.mems.length) (h3 : ∀ i, i < s.regs.length → eJ (s.regs.getD i 0) (rj p i).w = true) (h4 : ∀ i, i < s.mems.length → fm p s i = true) : ba p s = true := by
 unfold ba; rw [decide_eq_true h1, decide_eq_true h2, dJ.2 h3, dJ.2 h4]; rfl
theorem wX {v w : Int} (h0 : 0 ≤ v) (h1 : 0 ≤ w) (h2 : w ≤ 62) : (v / 2 ^ w.toNat == 0) = eJ v w := by
 have hp := dF (n := w.toNat) (by omega)
 unfold eJ
 rw [decide_eq_true h0, Bool.true_and, ez h1 h2]
 rw [Bool.eq_iff_iff, beq_iff_eq, decide_eq_true_eq]
 generalize (2 : Int) ^ w.toNat = m at hp ⊢
 constructor
 ·intro h
  have h3 := Int.emod_add_mul_ediv v m
  rw [h] at h3
  have h4 := Int.emod_lt_of_pos v (show 0 < m by omega)
  omega
 ·intro h
  exact Int.ediv_eq_zero_of_lt h0 (by omega)
end Go.Proofs.Ytgfbfajaaaegjaa
