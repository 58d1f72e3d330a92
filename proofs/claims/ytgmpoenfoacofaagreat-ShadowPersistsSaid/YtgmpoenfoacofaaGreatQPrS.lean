/-
  Processes, plain law: facts for the walks over steps.
-/
import Derived.Test.YtgmpoenfoacofaaGreatQNeA
namespace Go.Proofs.YtgmpoenfoacofaaGreat
open Go.RowKit
set_option linter.unusedVariables false
set_option linter.unusedSimpArgs false
def cJ {α : Type} (f : Nat → α) (l : List α) (i : Nat) : List α := tab f i ++ l.drop i
theorem er {α : Type} {f : Nat → α} {l : List α} {i : Nat} (h : i ≤ l.length) : (cJ f l i).length = l.length := by
 unfold cJ; rw [List.length_append, aR, List.length_drop]; omega
theorem cb {α : Type} {f : Nat → α} {l : List α} {i : Nat} {v : α} (h : i < l.length) (hv : f i = v) : (cJ f l i).set i v = cJ f l (i + 1) := by
 rw [← hv]; exact Io h
theorem cf {α : Type} {f : Nat → α} {l : List α} {i : Nat} {d : α} (h : i < l.length) (hv : f i = l.getD i d) : cJ f l i = cJ f l (i + 1) := by
 unfold cJ
 rw [u3, List.append_assoc, hv]
 congr 1
 rw [List.drop_eq_getElem_cons h, List.getD, List.getElem?_eq_getElem h]; rfl
theorem dk {α : Type} {f : Nat → α} {l : List α} {i : Nat} (h : l.length ≤ i) : cJ f l i = tab f i := GG h
theorem l8 {α : Type} {f : Nat → α} {l : List α} {i j : Nat} {d : α} : (cJ f l i).getD j d = if j < i then f j else l.getD j d := by
 unfold cJ
 by_cases h : j < i
 ·rw [if_pos h, List.getD, List.getElem?_append_left (by rw [aR]; exact h), ← List.getD, bn h]
 ·rw [if_neg h, List.getD, List.getElem?_append_right (by rw [aR]; omega), aR, List.getElem?_drop, ← List.getD]
  congr 1; omega
theorem f9 {α : Type} {f : Nat → α} {enc : α → List V} {i : Nat} (h : i < 137438953472) : (tab f i).length + ([f i].map enc).length ≤ 137438953472 ∧ (tab f i).map enc ++ [f i].map enc = (tab f (i + 1)).map enc := by
 refine ⟨by rw [aR]; simp; omega, ?_⟩
 rw [u3, List.map_append]
theorem cr {α : Type} {n i : Nat} {a : α} : (List.replicate n a).getD i a = a := by
 rw [List.getD, List.getElem?_replicate]; split <;> rfl
section
variable {p : Pr} {s : Ps} {hs : List Hd} {rs : List Bool} {d : List Int} {i : Nat}
theorem u5 : (iL p).getD i 0 = 0 := cr
theorem eu : (iL p).length = p.takes.length := by simp [iL]
theorem Kg (hp : gm p) (hh : z6 p hs) (hi : i ≤ p.takes.length) : z5 p (cJ (lG p s hs) (iL p) i) where
 l := by rw [er (by rw [eu]; exact hi), eu]
 v := fun j hj => by
  rw [l8]
  split
  ·have := (u4 (s := s) hp hh).v j hj
   rw [bO, bn hj] at this
   exact this
  ·exact (JB hp).v j hj
theorem yu {e : Ex} (h : ¬(a8 p s d e).1 = 1) : dM p s d e = false := decide_eq_false h
theorem tv {e : Ex} (h : (a8 p s d e).1 = 1) : dM p s d e = true := decide_eq_true h
theorem Ir (hp : gm p) (hi : i < p.takes.length) (h : ¬(a8 p s d (lz p i).when).1 = 1) : l6 p s hs i = false ∧ lG p s hs i = 0 ∧ hE p s hs i = true := by
 have h0 := yu h
 have h1 : dM p s (iL p) (lz p i).when = false := by rw [← h0]; exact (ig hp hi _ _).1
 have h2 : dM p s (bO p s hs) (lz p i).when = false := by rw [← h0]; exact (ig hp hi _ _).1
 refine ⟨h2, ?_, ?_⟩
 ·unfold lG; rw [if_neg (by rw [h1]; simp)]
 ·unfold hE; rw [h2]; simp
theorem qg (hp : gm p) (hi : i < p.takes.length) (h : (a8 p s d (lz p i).when).1 = 1) : l6 p s hs i = true ∧ (lG p s hs i = if (hs.getD i aW).has = true then (hs.getD i aW).v else 0) ∧ hE p s hs i = (hs.getD i aW).has := by
 have h0 := tv h
 have h1 : dM p s (iL p) (lz p i).when = true := by rw [← h0]; exact (ig hp hi _ _).1
 have h2 : dM p s (bO p s hs) (lz p i).when = true := by rw [← h0]; exact (ig hp hi _ _).1
 refine ⟨h2, ?_, ?_⟩
 ·unfold lG; rw [h1]; simp
 ·unfold hE; rw [h2]; simp
theorem Kh (h : ¬(a8 p s (bO p s hs) (sB p i).when).1 = 1) : l7 p s hs i = aW ∧ jY p s hs rs i = true := by
 have h0 := yu h
 refine ⟨?_, ?_⟩
 ·unfold l7; rw [h0]; simp
 ·unfold jY; rw [h0]; simp
theorem CX (h : (a8 p s (bO p s hs) (sB p i).when).1 = 1) : l7 p s hs i = ⟨true, (a8 p s (bO p s hs) (sB p i).data).1⟩ ∧ jY p s hs rs i = rs.getD i false := by
 have h0 := tv h
 refine ⟨?_, ?_⟩
 ·unfold l7; rw [h0]; simp
 ·unfold jY; rw [h0]; simp
theorem CY (h : fy p s hs rs = false) : aM p s hs rs = ⟨false, s, List.replicate p.takes.length false, List.replicate p.puts.length aW⟩ := if_neg (by rw [h]; simp)
theorem yv (h : fy p s hs rs = true) : aM p s hs rs = ⟨true, co p s (bO p s hs), tab (l6 p s hs) p.takes.length, tab (l7 p s hs) p.puts.length⟩ := if_pos h
theorem mU {a b : Bool} (h1 : a = ct (hE p s hs) p.takes.length) (h2 : b = (a && ct (jY p s hs rs) p.puts.length)) : fy p s hs rs = b := by
 rw [h2, h1]; rfl
theorem tx (hp : gm p) (hi : i < p.takes.length) : eT (qf p) (lz p i).when = some 1 ∧ fF (lz p i).when ≤ 3 := ⟨(ig (s := ba) hp hi [] []).2, (hp.tw i hi).2.2⟩
theorem qh (p : Pr) : aV p = ⟨tab (fun i => (ED p i).init) p.regs.length, tab (fun i => List.replicate (lA p i).words.toNat 0) p.mems.length⟩ := by
 unfold aV; rw [CW (d := bJ), CW (d := aK)]
theorem GH {l : List Int} {z : List Int} (h : l.length = z.length) : cJ (fun j => l.getD j 0) z z.length = l := by
 rw [dk (Nat.le_refl _), ← h, ← GF]
end
theorem ii {p : Pr} {s : Ps} (h : ¬s.regs.length = p.regs.length) : bW p s = false := by unfold bW; rw [decide_eq_false h]; rfl
theorem ij {p : Pr} {s : Ps} (h : ¬s.mems.length = p.mems.length) : bW p s = false := by unfold bW; rw [decide_eq_false h]; simp
theorem ik {p : Pr} {s : Ps} {i : Nat} (hi : i < s.regs.length) (h : cT (s.regs.getD i 0) (ED p i).w = false) : bW p s = false := by
 unfold bW; rw [fx hi h]; simp
theorem cL {p : Pr} {s : Ps} {i : Nat} (hi : i < s.mems.length) (h : iM p s i = false) : bW p s = false := by
 unfold bW; rw [fx hi h]; simp
theorem mV {p : Pr} {s : Ps} {i : Nat} (h : ¬((s.mems.getD i []).length : Int) = (lA p i).words) : iM p s i = false := by unfold iM; rw [decide_eq_false h]; rfl
theorem mW {p : Pr} {s : Ps} {i j : Nat} (hj : j < (s.mems.getD i []).length) (h : cT ((s.mems.getD i []).getD j 0) (lA p i).w = false) : iM p s i = false := by
 unfold iM; rw [fx hj h]; simp
theorem It {p : Pr} {s : Ps} {i : Nat} (h1 : ((s.mems.getD i []).length : Int) = (lA p i).words) (h2 : ∀ j, j < (s.mems.getD i []).length → cT ((s.mems.getD i []).getD j 0) (lA p i).w = true) : iM p s i = true := by
 unfold iM; rw [decide_eq_true h1, bi.2 h2]; rfl
theorem il {p : Pr} {s : Ps} (h1 : s.regs.length = p.regs.length) (h2 : s.mems.length = p.mems.length) (h3 : ∀ i, i < s.regs.length → cT (s.regs.getD i 0) (ED p i).w = true) (h4 : ∀ i, i < s.mems.length → iM p s i = true) : bW p s = true := by
 unfold bW; rw [decide_eq_true h1, decide_eq_true h2, bi.2 h3, bi.2 h4]; rfl
theorem CZ {v w : Int} (h0 : 0 ≤ v) (h1 : 0 ≤ w) (h2 : w ≤ 62) : (v / 2 ^ w.toNat == 0) = cT v w := by
 have hp := lV (n := w.toNat) (by omega)
 unfold cT
 rw [decide_eq_true h0, Bool.true_and, ck h1 h2]
 rw [Bool.eq_iff_iff, beq_iff_eq, decide_eq_true_eq]
 generalize (2 : Int) ^ w.toNat = m at hp ⊢
 constructor
 ·intro h
  have h3 := Int.emod_add_mul_ediv v m
  rw [h] at h3
  have h4 := Int.emod_lt_of_pos v (show 0 < m by omega)
  omega
 ·intro h
  exact Int.ediv_eq_zero_of_lt h0 (by omega)
end Go.Proofs.YtgmpoenfoacofaaGreat
