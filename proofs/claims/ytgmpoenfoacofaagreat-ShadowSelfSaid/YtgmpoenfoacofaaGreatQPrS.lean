/-
  Processes, plain law: facts for the walks over steps.
-/
import Derived.Test.YtgmpoenfoacofaaGreatQNeA
namespace Go.Proofs.YtgmpoenfoacofaaGreat
open Go.RowKit
set_option linter.unusedVariables false
set_option linter.unusedSimpArgs false
def cN {α : Type} (f : Nat → α) (l : List α) (i : Nat) : List α := tab f i ++ l.drop i
theorem ec {α : Type} {f : Nat → α} {l : List α} {i : Nat} (h : i ≤ l.length) : (cN f l i).length = l.length := by
 unfold cN; rw [List.length_append, aJ, List.length_drop]; omega
theorem b6 {α : Type} {f : Nat → α} {l : List α} {i : Nat} {v : α} (h : i < l.length) (hv : f i = v) : (cN f l i).set i v = cN f l (i + 1) := by
 rw [← hv]; exact Hj h
theorem b9 {α : Type} {f : Nat → α} {l : List α} {i : Nat} {d : α} (h : i < l.length) (hv : f i = l.getD i d) : cN f l i = cN f l (i + 1) := by
 unfold cN
 rw [tV, List.append_assoc, hv]
 congr 1
 rw [List.drop_eq_getElem_cons h, List.getD, List.getElem?_eq_getElem h]; rfl
theorem dn {α : Type} {f : Nat → α} {l : List α} {i : Nat} (h : l.length ≤ i) : cN f l i = tab f i := FB h
theorem ln {α : Type} {f : Nat → α} {l : List α} {i j : Nat} {d : α} : (cN f l i).getD j d = if j < i then f j else l.getD j d := by
 unfold cN
 by_cases h : j < i
 ·rw [if_pos h, List.getD, List.getElem?_append_left (by rw [aJ]; exact h), ← List.getD, bj h]
 ·rw [if_neg h, List.getD, List.getElem?_append_right (by rw [aJ]; omega), aJ, List.getElem?_drop, ← List.getD]
  congr 1; omega
theorem gH {α : Type} {f : Nat → α} {enc : α → List V} {i : Nat} (h : i < 137438953472) : (tab f i).length + ([f i].map enc).length ≤ 137438953472 ∧ (tab f i).map enc ++ [f i].map enc = (tab f (i + 1)).map enc := by
 refine ⟨by rw [aJ]; simp; omega, ?_⟩
 rw [tV, List.map_append]
theorem b7 {α : Type} {n i : Nat} {a : α} : (List.replicate n a).getD i a = a := by
 rw [List.getD, List.getElem?_replicate]; split <;> rfl
section
variable {p : Pr} {s : Ps} {hs : List Hd} {rs : List Bool} {d : List Int} {i : Nat}
theorem tX : (im p).getD i 0 = 0 := b7
theorem ee : (im p).length = p.takes.length := by simp [im]
theorem Jg (hp : fV p) (hh : y7 p hs) (hi : i ≤ p.takes.length) : y6 p (cN (kP p s hs) (im p) i) where
 l := by rw [ec (by rw [ee]; exact hi), ee]
 v := fun j hj => by
  rw [ln]
  split
  ·have := (tW (s := s) hp hh).v j hj
   rw [bM, bj hj] at this
   exact this
  ·exact (It hp).v j hj
theorem xv {e : Ex} (h : ¬(a5 p s d e).1 = 1) : dQ p s d e = false := decide_eq_false h
theorem sv {e : Ex} (h : (a5 p s d e).1 = 1) : dQ p s d e = true := decide_eq_true h
theorem Hm (hp : fV p) (hi : i < p.takes.length) (h : ¬(a5 p s d (kJ p i).when).1 = 1) : ll p s hs i = false ∧ kP p s hs i = 0 ∧ gG p s hs i = true := by
 have h0 := xv h
 have h1 : dQ p s (im p) (kJ p i).when = false := by rw [← h0]; exact (gR hp hi _ _).1
 have h2 : dQ p s (bM p s hs) (kJ p i).when = false := by rw [← h0]; exact (gR hp hi _ _).1
 refine ⟨h2, ?_, ?_⟩
 ·unfold kP; rw [if_neg (by rw [h1]; simp)]
 ·unfold gG; rw [h2]; simp
theorem pk (hp : fV p) (hi : i < p.takes.length) (h : (a5 p s d (kJ p i).when).1 = 1) : ll p s hs i = true ∧ (kP p s hs i = if (hs.getD i aU).has = true then (hs.getD i aU).v else 0) ∧ gG p s hs i = (hs.getD i aU).has := by
 have h0 := sv h
 have h1 : dQ p s (im p) (kJ p i).when = true := by rw [← h0]; exact (gR hp hi _ _).1
 have h2 : dQ p s (bM p s hs) (kJ p i).when = true := by rw [← h0]; exact (gR hp hi _ _).1
 refine ⟨h2, ?_, ?_⟩
 ·unfold kP; rw [h1]; simp
 ·unfold gG; rw [h2]; simp
theorem Jh (h : ¬(a5 p s (bM p s hs) (rD p i).when).1 = 1) : lm p s hs i = aU ∧ js p s hs rs i = true := by
 have h0 := xv h
 refine ⟨?_, ?_⟩
 ·unfold lm; rw [h0]; simp
 ·unfold js; rw [h0]; simp
theorem BR (h : (a5 p s (bM p s hs) (rD p i).when).1 = 1) : lm p s hs i = ⟨true, (a5 p s (bM p s hs) (rD p i).data).1⟩ ∧ js p s hs rs i = rs.getD i false := by
 have h0 := sv h
 refine ⟨?_, ?_⟩
 ·unfold lm; rw [h0]; simp
 ·unfold js; rw [h0]; simp
theorem BS (h : ff p s hs rs = false) : aK p s hs rs = ⟨false, s, List.replicate p.takes.length false, List.replicate p.puts.length aU⟩ := if_neg (by rw [h]; simp)
theorem xw (h : ff p s hs rs = true) : aK p s hs rs = ⟨true, cj p s (bM p s hs), tab (ll p s hs) p.takes.length, tab (lm p s hs) p.puts.length⟩ := if_pos h
theorem l9 {a b : Bool} (h1 : a = cB (gG p s hs) p.takes.length) (h2 : b = (a && cB (js p s hs rs) p.puts.length)) : ff p s hs rs = b := by
 rw [h2, h1]; rfl
theorem sw (hp : fV p) (hi : i < p.takes.length) : eJ (pj p) (kJ p i).when = some 1 ∧ fk (kJ p i).when ≤ 3 := ⟨(gR (s := bw) hp hi [] []).2, (hp.tw i hi).2.2⟩
theorem pm (p : Pr) : aR p = ⟨tab (fun i => (DC p i).init) p.regs.length, tab (fun i => List.replicate (kO p i).words.toNat 0) p.mems.length⟩ := by
 unfold aR; rw [BQ (d := bH), BQ (d := aI)]
theorem FC {l : List Int} {z : List Int} (h : l.length = z.length) : cN (fun j => l.getD j 0) z z.length = l := by
 rw [dn (Nat.le_refl _), ← h, ← FA]
end
theorem gS {p : Pr} {s : Ps} (h : ¬s.regs.length = p.regs.length) : bQ p s = false := by unfold bQ; rw [decide_eq_false h]; rfl
theorem gT {p : Pr} {s : Ps} (h : ¬s.mems.length = p.mems.length) : bQ p s = false := by unfold bQ; rw [decide_eq_false h]; simp
theorem gU {p : Pr} {s : Ps} {i : Nat} (hi : i < s.regs.length) (h : c8 (s.regs.getD i 0) (DC p i).w = false) : bQ p s = false := by
 unfold bQ; rw [gF hi h]; simp
theorem cT {p : Pr} {s : Ps} {i : Nat} (hi : i < s.mems.length) (h : io p s i = false) : bQ p s = false := by
 unfold bQ; rw [gF hi h]; simp
theorem ma {p : Pr} {s : Ps} {i : Nat} (h : ¬((s.mems.getD i []).length : Int) = (kO p i).words) : io p s i = false := by unfold io; rw [decide_eq_false h]; rfl
theorem mb {p : Pr} {s : Ps} {i j : Nat} (hj : j < (s.mems.getD i []).length) (h : c8 ((s.mems.getD i []).getD j 0) (kO p i).w = false) : io p s i = false := by
 unfold io; rw [gF hj h]; simp
theorem Hn {p : Pr} {s : Ps} {i : Nat} (h1 : ((s.mems.getD i []).length : Int) = (kO p i).words) (h2 : ∀ j, j < (s.mems.getD i []).length → c8 ((s.mems.getD i []).getD j 0) (kO p i).w = true) : io p s i = true := by
 unfold io; rw [decide_eq_true h1, br.2 h2]; rfl
theorem gV {p : Pr} {s : Ps} (h1 : s.regs.length = p.regs.length) (h2 : s.mems.length = p.mems.length) (h3 : ∀ i, i < s.regs.length → c8 (s.regs.getD i 0) (DC p i).w = true) (h4 : ∀ i, i < s.mems.length → io p s i = true) : bQ p s = true := by
 unfold bQ; rw [decide_eq_true h1, decide_eq_true h2, br.2 h3, br.2 h4]; rfl
theorem BT {v w : Int} (h0 : 0 ≤ v) (h1 : 0 ≤ w) (h2 : w ≤ 62) : (v / 2 ^ w.toNat == 0) = c8 v w := by
 have hp := lf (n := w.toNat) (by omega)
 unfold c8
 rw [decide_eq_true h0, Bool.true_and, ci h1 h2]
 rw [Bool.eq_iff_iff, beq_iff_eq, decide_eq_true_eq]
 generalize (2 : Int) ^ w.toNat = m at hp ⊢
 constructor
 ·intro h
  have h3 := Int.emod_add_mul_ediv v m
  rw [h] at h3
  have h4 := Int.emod_lt_of_pos v (show 0 < m by omega)
  omega
 ·intro h
  exact Int.ediv_eq_zero_of_lt h0 (by omega)
end Go.Proofs.YtgmpoenfoacofaaGreat
