/-
  Processes, plain law: facts for the walks over steps.
-/
import Derived.Test.YtgmpoenfoacofaaGreatQNeA
namespace Go.Proofs.YtgmpoenfoacofaaGreat
open Go.RowKit
set_option linter.unusedVariables false
set_option linter.unusedSimpArgs false
def cN {α : Type} (f : Nat → α) (l : List α) (i : Nat) : List α := ao f i ++ l.drop i
theorem d5 {α : Type} {f : Nat → α} {l : List α} {i : Nat} (h : i ≤ l.length) : (cN f l i).length = l.length := by
 unfold cN; rw [List.length_append, aJ, List.length_drop]; omega
theorem b5 {α : Type} {f : Nat → α} {l : List α} {i : Nat} {v : α} (h : i < l.length) (hv : f i = v) : (cN f l i).set i v = cN f l (i + 1) := by
 rw [← hv]; exact GA h
theorem b8 {α : Type} {f : Nat → α} {l : List α} {i : Nat} {d : α} (h : i < l.length) (hv : f i = l.getD i d) : cN f l i = cN f l (i + 1) := by
 unfold cN
 rw [s7, List.append_assoc, hv]
 congr 1
 rw [List.drop_eq_getElem_cons h, List.getD, List.getElem?_eq_getElem h]; rfl
theorem dj {α : Type} {f : Nat → α} {l : List α} {i : Nat} (h : l.length ≤ i) : cN f l i = ao f i := EP h
theorem kR {α : Type} {f : Nat → α} {l : List α} {i j : Nat} {d : α} : (cN f l i).getD j d = if j < i then f j else l.getD j d := by
 unfold cN
 by_cases h : j < i
 ·rw [if_pos h, List.getD, List.getElem?_append_left (by rw [aJ]; exact h), ← List.getD, bh h]
 ·rw [if_neg h, List.getD, List.getElem?_append_right (by rw [aJ]; omega), aJ, List.getElem?_drop, ← List.getD]
  congr 1; omega
theorem gw {α : Type} {f : Nat → α} {enc : α → List V} {i : Nat} (h : i < 137438953472) : (ao f i).length + ([f i].map enc).length ≤ 137438953472 ∧ (ao f i).map enc ++ [f i].map enc = (ao f (i + 1)).map enc := by
 refine ⟨by rw [aJ]; simp; omega, ?_⟩
 rw [s7, List.map_append]
theorem b6 {α : Type} {n i : Nat} {a : α} : (List.replicate n a).getD i a = a := by
 rw [List.getD, List.getElem?_replicate]; split <;> rfl
section
variable {p : Pr} {s : Ps} {hs : List Hd} {rs : List Bool} {d : List Int} {i : Nat}
theorem s9 : (hX p).getD i 0 = 0 := b6
theorem d6 : (hX p).length = p.takes.length := by simp [hX]
theorem Io (hp : fL p) (hh : yd p hs) (hi : i ≤ p.takes.length) : yc p (cN (ku p s hs) (hX p) i) where
 l := by rw [d5 (by rw [d6]; exact hi), d6]
 v := fun j hj => by
  rw [kR]
  split
  ·have := (s8 (s := s) hp hh).v j hj
   rw [bM, bh hj] at this
   exact this
  ·exact (HG hp).v j hj
theorem wD {e : Ex} (h : ¬(a5 p s d e).1 = 1) : dH p s d e = false := decide_eq_false h
theorem rL {e : Ex} (h : (a5 p s d e).1 = 1) : dH p s d e = true := decide_eq_true h
theorem GE (hp : fL p) (hi : i < p.takes.length) (h : ¬(a5 p s d (km p i).when).1 = 1) : kP p s hs i = false ∧ ku p s hs i = 0 ∧ gv p s hs i = true := by
 have h0 := wD h
 have h1 : dH p s (hX p) (km p i).when = false := by rw [← h0]; exact (gI hp hi _ _).1
 have h2 : dH p s (bM p s hs) (km p i).when = false := by rw [← h0]; exact (gI hp hi _ _).1
 refine ⟨h2, ?_, ?_⟩
 ·unfold ku; rw [if_neg (by rw [h1]; simp)]
 ·unfold gv; rw [h2]; simp
theorem oO (hp : fL p) (hi : i < p.takes.length) (h : (a5 p s d (km p i).when).1 = 1) : kP p s hs i = true ∧ (ku p s hs i = if (hs.getD i aR).has = true then (hs.getD i aR).v else 0) ∧ gv p s hs i = (hs.getD i aR).has := by
 have h0 := rL h
 have h1 : dH p s (hX p) (km p i).when = true := by rw [← h0]; exact (gI hp hi _ _).1
 have h2 : dH p s (bM p s hs) (km p i).when = true := by rw [← h0]; exact (gI hp hi _ _).1
 refine ⟨h2, ?_, ?_⟩
 ·unfold ku; rw [h1]; simp
 ·unfold gv; rw [h2]; simp
theorem Ip (h : ¬(a5 p s (bM p s hs) (qT p i).when).1 = 1) : kQ p s hs i = aR ∧ i8 p s hs rs i = true := by
 have h0 := wD h
 refine ⟨?_, ?_⟩
 ·unfold kQ; rw [h0]; simp
 ·unfold i8; rw [h0]; simp
theorem A6 (h : (a5 p s (bM p s hs) (qT p i).when).1 = 1) : kQ p s hs i = ⟨true, (a5 p s (bM p s hs) (qT p i).data).1⟩ ∧ i8 p s hs rs i = rs.getD i false := by
 have h0 := rL h
 refine ⟨?_, ?_⟩
 ·unfold kQ; rw [h0]; simp
 ·unfold i8; rw [h0]; simp
theorem A7 (h : e9 p s hs rs = false) : aK p s hs rs = ⟨false, s, List.replicate p.takes.length false, List.replicate p.puts.length aR⟩ := if_neg (by rw [h]; simp)
theorem wE (h : e9 p s hs rs = true) : aK p s hs rs = ⟨true, cg p s (bM p s hs), ao (kP p s hs) p.takes.length, ao (kQ p s hs) p.puts.length⟩ := if_pos h
theorem lK {a b : Bool} (h1 : a = cz (gv p s hs) p.takes.length) (h2 : b = (a && cz (i8 p s hs rs) p.puts.length)) : e9 p s hs rs = b := by
 rw [h2, h1]; rfl
theorem rM (hp : fL p) (hi : i < p.takes.length) : eD (oM p) (km p i).when = some 1 ∧ fc (km p i).when ≤ 3 := ⟨(gI (s := bx) hp hi [] []).2, (hp.tw i hi).2.2⟩
theorem oP (p : Pr) : aP p = ⟨ao (fun i => (CP p i).init) p.regs.length, ao (fun i => List.replicate (kt p i).words.toNat 0) p.mems.length⟩ := by
 unfold aP; rw [A5 (d := bI), A5 (d := aI)]
theorem ER {l : List Int} {z : List Int} (h : l.length = z.length) : cN (fun j => l.getD j 0) z z.length = l := by
 rw [dj (Nat.le_refl _), ← h, ← EO]
end
theorem gJ {p : Pr} {s : Ps} (h : ¬s.regs.length = p.regs.length) : bQ p s = false := by unfold bQ; rw [decide_eq_false h]; rfl
theorem gK {p : Pr} {s : Ps} (h : ¬s.mems.length = p.mems.length) : bQ p s = false := by unfold bQ; rw [decide_eq_false h]; simp
theorem gL {p : Pr} {s : Ps} {i : Nat} (hi : i < s.regs.length) (h : c8 (s.regs.getD i 0) (CP p i).w = false) : bQ p s = false := by
 unfold bQ; rw [gu hi h]; simp
theorem cU {p : Pr} {s : Ps} {i : Nat} (hi : i < s.mems.length) (h : hY p s i = false) : bQ p s = false := by
 unfold bQ; rw [gu hi h]; simp
theorem lL {p : Pr} {s : Ps} {i : Nat} (h : ¬((s.mems.getD i []).length : Int) = (kt p i).words) : hY p s i = false := by unfold hY; rw [decide_eq_false h]; rfl
theorem lM {p : Pr} {s : Ps} {i j : Nat} (hj : j < (s.mems.getD i []).length) (h : c8 ((s.mems.getD i []).getD j 0) (kt p i).w = false) : hY p s i = false := by
 unfold hY; rw [gu hj h]; simp
theorem GF {p : Pr} {s : Ps} {i : Nat} (h1 : ((s.mems.getD i []).length : Int) = (kt p i).words) (h2 : ∀ j, j < (s.mems.getD i []).length → c8 ((s.mems.getD i []).getD j 0) (kt p i).w = true) : hY p s i = true := by
 unfold hY; rw [decide_eq_true h1, bu.2 h2]; rfl
theorem gM {p : Pr} {s : Ps} (h1 : s.regs.length = p.regs.length) (h2 : s.mems.length = p.mems.length) (h3 : ∀ i, i < s.regs.length → c8 (s.regs.getD i 0) (CP p i).w = true) (h4 : ∀ i, i < s.mems.length → hY p s i = true) : bQ p s = true := by
 unfold bQ; rw [decide_eq_true h1, decide_eq_true h2, bu.2 h3, bu.2 h4]; rfl
theorem A8 {v w : Int} (h0 : 0 ≤ v) (h1 : 0 ≤ w) (h2 : w ≤ 62) : (v / 2 ^ w.toNat == 0) = c8 v w := by
 have hp := kJ (n := w.toNat) (by omega)
 unfold c8
 rw [decide_eq_true h0, Bool.true_and, cf h1 h2]
 rw [Bool.eq_iff_iff, beq_iff_eq, decide_eq_true_eq]
 generalize (2 : Int) ^ w.toNat = m at hp ⊢
 constructor
 ·intro h
  have h3 := Int.emod_add_mul_ediv v m
  rw [h] at h3
  have h4 := Int.emod_lt_of_pos v (show 0 < m by omega)
  omega
 ·intro h
  exact Int.ediv_eq_zero_of_lt h0 (by omega)
end Go.Proofs.YtgmpoenfoacofaaGreat
