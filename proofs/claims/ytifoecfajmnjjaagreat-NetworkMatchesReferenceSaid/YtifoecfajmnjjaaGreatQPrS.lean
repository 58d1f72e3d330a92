/-
  Processes, plain law: facts for the walks over steps.
-/
import Derived.Test.YtifoecfajmnjjaaGreatQNeA
namespace Go.Proofs.YtifoecfajmnjjaaGreat
open Go.RowKit
set_option linter.unusedVariables false
set_option linter.unusedSimpArgs false
def b8 {α : Type} (f : Nat → α) (l : List α) (i : Nat) : List α := aq f i ++ l.drop i
theorem c6 {α : Type} {f : Nat → α} {l : List α} {i : Nat} (h : i ≤ l.length) : (b8 f l i).length = l.length := by
 unfold b8; rw [List.length_append, aO, List.length_drop]; omega
theorem bL {α : Type} {f : Nat → α} {l : List α} {i : Nat} {v : α} (h : i < l.length) (hv : f i = v) : (b8 f l i).set i v = b8 f l (i + 1) := by
 rw [← hv]; exact F4 h
theorem bD {α : Type} {f : Nat → α} {l : List α} {i : Nat} {d : α} (h : i < l.length) (hv : f i = l.getD i d) : b8 f l i = b8 f l (i + 1) := by
 unfold b8
 rw [ti, List.append_assoc, hv]
 congr 1
 rw [List.drop_eq_getElem_cons h, List.getD, List.getElem?_eq_getElem h]; rfl
theorem cG {α : Type} {f : Nat → α} {l : List α} {i : Nat} (h : l.length ≤ i) : b8 f l i = aq f i := Ew h
theorem go {α : Type} {f : Nat → α} {l : List α} {i j : Nat} {d : α} : (b8 f l i).getD j d = if j < i then f j else l.getD j d := by
 unfold b8
 by_cases h : j < i
 ·rw [if_pos h, List.getD, List.getElem?_append_left (by rw [aO]; exact h), ← List.getD, bq h]
 ·rw [if_neg h, List.getD, List.getElem?_append_right (by rw [aO]; omega), aO, List.getElem?_drop, ← List.getD]
  congr 1; omega
theorem f8 {α : Type} {f : Nat → α} {enc : α → List V} {i : Nat} (h : i < 137438953472) : (aq f i).length + ([f i].map enc).length ≤ 137438953472 ∧ (aq f i).map enc ++ [f i].map enc = (aq f (i + 1)).map enc := by
 refine ⟨by rw [aO]; simp; omega, ?_⟩
 rw [ti, List.map_append]
theorem bM {α : Type} {n i : Nat} {a : α} : (List.replicate n a).getD i a = a := by
 rw [List.getD, List.getElem?_replicate]; split <;> rfl
section
variable {p : Pr} {s : Ps} {hs : List Hd} {rs : List Bool} {d : List Int} {i : Nat}
theorem tn : (iR p).getD i 0 = 0 := bM
theorem d7 : (iR p).length = p.takes.length := by simp [iR]
theorem HD (hp : fM p) (hh : xZ p hs) (hi : i ≤ p.takes.length) : xY p (b8 (lH p s hs) (iR p) i) where
 l := by rw [c6 (by rw [d7]; exact hi), d7]
 v := fun j hj => by
  rw [go]
  split
  ·have := (tj (s := s) hp hh).v j hj
   rw [bW, bq hj] at this
   exact this
  ·exact (GX hp).v j hj
theorem ww {e : Ex} (h : ¬(be p s d e).1 = 1) : dY p s d e = false := decide_eq_false h
theorem sd {e : Ex} (h : (be p s d e).1 = 1) : dY p s d e = true := decide_eq_true h
theorem F7 (hp : fM p) (hi : i < p.takes.length) (h : ¬(be p s d (lG p i).when).1 = 1) : pz p s hs i = false ∧ lH p s hs i = 0 ∧ iW p s hs i = true := by
 have h0 := ww h
 have h1 : dY p s (iR p) (lG p i).when = false := by rw [← h0]; exact (jz hp hi _ _).1
 have h2 : dY p s (bW p s hs) (lG p i).when = false := by rw [← h0]; exact (jz hp hi _ _).1
 refine ⟨h2, ?_, ?_⟩
 ·unfold lH; rw [if_neg (by rw [h1]; simp)]
 ·unfold iW; rw [h2]; simp
theorem pC (hp : fM p) (hi : i < p.takes.length) (h : (be p s d (lG p i).when).1 = 1) : pz p s hs i = true ∧ (lH p s hs i = if (hs.getD i aK).has = true then (hs.getD i aK).v else 0) ∧ iW p s hs i = (hs.getD i aK).has := by
 have h0 := sd h
 have h1 : dY p s (iR p) (lG p i).when = true := by rw [← h0]; exact (jz hp hi _ _).1
 have h2 : dY p s (bW p s hs) (lG p i).when = true := by rw [← h0]; exact (jz hp hi _ _).1
 refine ⟨h2, ?_, ?_⟩
 ·unfold lH; rw [h1]; simp
 ·unfold iW; rw [h2]; simp
theorem HF (h : ¬(be p s (bW p s hs) (rO p i).when).1 = 1) : pA p s hs i = aK ∧ kd p s hs rs i = true := by
 have h0 := ww h
 refine ⟨?_, ?_⟩
 ·unfold pA; rw [h0]; simp
 ·unfold kd; rw [h0]; simp
theorem Bf (h : (be p s (bW p s hs) (rO p i).when).1 = 1) : pA p s hs i = ⟨true, (be p s (bW p s hs) (rO p i).data).1⟩ ∧ kd p s hs rs i = rs.getD i false := by
 have h0 := sd h
 refine ⟨?_, ?_⟩
 ·unfold pA; rw [h0]; simp
 ·unfold kd; rw [h0]; simp
theorem Bg (h : gA p s hs rs = false) : aU p s hs rs = ⟨false, s, List.replicate p.takes.length false, List.replicate p.puts.length aK⟩ := if_neg (by rw [h]; simp)
theorem wx (h : gA p s hs rs = true) : aU p s hs rs = ⟨true, ci p s (bW p s hs), aq (pz p s hs) p.takes.length, aq (pA p s hs) p.puts.length⟩ := if_pos h
theorem mm {a b : Bool} (h1 : a = dh (iW p s hs) p.takes.length) (h2 : b = (a && dh (kd p s hs rs) p.puts.length)) : gA p s hs rs = b := by
 rw [h2, h1]; rfl
theorem se (hp : fM p) (hi : i < p.takes.length) : eK (pB p) (lG p i).when = some 1 ∧ ff (lG p i).when ≤ 3 := ⟨(jz (s := a7) hp hi [] []).2, (hp.tw i hi).2.2⟩
theorem pD (p : Pr) : aY p = ⟨aq (fun i => (Cs p i).init) p.regs.length, aq (fun i => List.replicate (kT p i).words.toNat 0) p.mems.length⟩ := by
 unfold aY; rw [Be (d := bH), Be (d := aP)]
theorem Ey {l : List Int} {z : List Int} (h : l.length = z.length) : b8 (fun j => l.getD j 0) z z.length = l := by
 rw [cG (Nat.le_refl _), ← h, ← Eu]
end
theorem cT {p : Pr} {s : Ps} (h : ¬s.regs.length = p.regs.length) : br p s = false := by unfold br; rw [decide_eq_false h]; rfl
theorem cU {p : Pr} {s : Ps} (h : ¬s.mems.length = p.mems.length) : br p s = false := by unfold br; rw [decide_eq_false h]; simp
theorem cX {p : Pr} {s : Ps} {i : Nat} (hi : i < s.regs.length) (h : cj (s.regs.getD i 0) (Cs p i).w = false) : br p s = false := by
 unfold br; rw [f6 hi h]; simp
theorem bl {p : Pr} {s : Ps} {i : Nat} (hi : i < s.mems.length) (h : gB p s i = false) : br p s = false := by
 unfold br; rw [f6 hi h]; simp
theorem eP {p : Pr} {s : Ps} {i : Nat} (h : ¬((s.mems.getD i []).length : Int) = (kT p i).words) : gB p s i = false := by unfold gB; rw [decide_eq_false h]; rfl
theorem eS {p : Pr} {s : Ps} {i j : Nat} (hj : j < (s.mems.getD i []).length) (h : cj ((s.mems.getD i []).getD j 0) (kT p i).w = false) : gB p s i = false := by
 unfold gB; rw [f6 hj h]; simp
theorem Bh {p : Pr} {s : Ps} {i : Nat} (h1 : ((s.mems.getD i []).length : Int) = (kT p i).words) (h2 : ∀ j, j < (s.mems.getD i []).length → cj ((s.mems.getD i []).getD j 0) (kT p i).w = true) : gB p s i = true := by
 unfold gB; rw [decide_eq_true h1, bQ.2 h2]; rfl
theorem cY {p : Pr} {s : Ps} (h1 : s.regs.length = p.regs.length) (h2 : s.mems.length = p.mems.length) (h3 : ∀ i, i < s.regs.length → cj (s.regs.getD i 0) (Cs p i).w = true) (h4 : ∀ i, i < s.mems.length → gB p s i = true) : br p s = true := by
 unfold br; rw [decide_eq_true h1, decide_eq_true h2, bQ.2 h3, bQ.2 h4]; rfl
theorem Bi {v w : Int} (h0 : 0 ≤ v) (h1 : 0 ≤ w) (h2 : w ≤ 62) : (v / 2 ^ w.toNat == 0) = cj v w := by
 have hp := lx (n := w.toNat) (by omega)
 unfold cj
 rw [decide_eq_true h0, Bool.true_and, cA h1 h2]
 rw [Bool.eq_iff_iff, beq_iff_eq, decide_eq_true_eq]
 generalize (2 : Int) ^ w.toNat = m at hp ⊢
 constructor
 ·intro h
  have h3 := Int.emod_add_mul_ediv v m
  rw [h] at h3
  have h4 := Int.emod_lt_of_pos v (show 0 < m by omega)
  omega
 ·intro h
  exact Int.ediv_eq_zero_of_lt h0 (by omega)
end Go.Proofs.YtifoecfajmnjjaaGreat
