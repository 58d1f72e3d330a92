/-
  Processes, plain law: facts for the walks over steps.
-/
import Derived.Test.YtifoecfajmnjjaaGreatQNeA
namespace Go.Proofs.YtifoecfajmnjjaaGreat
open Go.RowKit
set_option linter.unusedVariables false
set_option linter.unusedSimpArgs false
def cP {α : Type} (f : Nat → α) (l : List α) (i : Nat) : List α := ao f i ++ l.drop i
theorem ec {α : Type} {f : Nat → α} {l : List α} {i : Nat} (h : i ≤ l.length) : (cP f l i).length = l.length := by
 unfold cP; rw [List.length_append, aN, List.length_drop]; omega
theorem cr {α : Type} {f : Nat → α} {l : List α} {i : Nat} {v : α} (h : i < l.length) (hv : f i = v) : (cP f l i).set i v = cP f l (i + 1) := by
 rw [← hv]; exact JL h
theorem ca {α : Type} {f : Nat → α} {l : List α} {i : Nat} {d : α} (h : i < l.length) (hv : f i = l.getD i d) : cP f l i = cP f l (i + 1) := by
 unfold cP
 rw [wx, List.append_assoc, hv]
 congr 1
 rw [List.drop_eq_getElem_cons h, List.getD, List.getElem?_eq_getElem h]; rfl
theorem dC {α : Type} {f : Nat → α} {l : List α} {i : Nat} (h : l.length ≤ i) : cP f l i = ao f i := H2 h
theorem jg {α : Type} {f : Nat → α} {l : List α} {i j : Nat} {d : α} : (cP f l i).getD j d = if j < i then f j else l.getD j d := by
 unfold cP
 by_cases h : j < i
 ·rw [if_pos h, List.getD, List.getElem?_append_left (by rw [aN]; exact h), ← List.getD, bf h]
 ·rw [if_neg h, List.getD, List.getElem?_append_right (by rw [aN]; omega), aN, List.getElem?_drop, ← List.getD]
  congr 1; omega
theorem i3 {α : Type} {f : Nat → α} {enc : α → List V} {i : Nat} (h : i < 137438953472) : (ao f i).length + ([f i].map enc).length ≤ 137438953472 ∧ (ao f i).map enc ++ [f i].map enc = (ao f (i + 1)).map enc := by
 refine ⟨by rw [aN]; simp; omega, ?_⟩
 rw [wx, List.map_append]
theorem ct {α : Type} {n i : Nat} {a : α} : (List.replicate n a).getD i a = a := by
 rw [List.getD, List.getElem?_replicate]; split <;> rfl
section
variable {p : Pr} {s : Ps} {hs : List Hd} {rs : List Bool} {d : List Int} {i : Nat}
theorem wz : (kz p).getD i 0 = 0 := ct
theorem ft : (kz p).length = p.takes.length := by simp [kz]
theorem Lc (hp : iA p) (hh : Ba p hs) (hi : i ≤ p.takes.length) : A9 p (cP (nU p s hs) (kz p) i) where
 l := by rw [ec (by rw [ft]; exact hi), ft]
 v := fun j hj => by
  rw [jg]
  split
  ·have := (wy (s := s) hp hh).v j hj
   rw [cB, bf hj] at this
   exact this
  ·exact (KA hp).v j hj
theorem zG {e : Ex} (h : ¬(br p s d e).1 = 1) : eT p s d e = false := decide_eq_false h
theorem vi {e : Ex} (h : (br p s d e).1 = 1) : eT p s d e = true := decide_eq_true h
theorem JO (hp : iA p) (hi : i < p.takes.length) (h : ¬(br p s d (nN p i).when).1 = 1) : oG p s hs i = false ∧ nU p s hs i = 0 ∧ jK p s hs i = true := by
 have h0 := zG h
 have h1 : eT p s (kz p) (nN p i).when = false := by rw [← h0]; exact (j7 hp hi _ _).1
 have h2 : eT p s (cB p s hs) (nN p i).when = false := by rw [← h0]; exact (j7 hp hi _ _).1
 refine ⟨h2, ?_, ?_⟩
 ·unfold nU; rw [if_neg (by rw [h1]; simp)]
 ·unfold jK; rw [h2]; simp
theorem si (hp : iA p) (hi : i < p.takes.length) (h : (br p s d (nN p i).when).1 = 1) : oG p s hs i = true ∧ (nU p s hs i = if (hs.getD i aK).has = true then (hs.getD i aK).v else 0) ∧ jK p s hs i = (hs.getD i aK).has := by
 have h0 := vi h
 have h1 : eT p s (kz p) (nN p i).when = true := by rw [← h0]; exact (j7 hp hi _ _).1
 have h2 : eT p s (cB p s hs) (nN p i).when = true := by rw [← h0]; exact (j7 hp hi _ _).1
 refine ⟨h2, ?_, ?_⟩
 ·unfold nU; rw [h1]; simp
 ·unfold jK; rw [h2]; simp
theorem Ld (h : ¬(br p s (cB p s hs) (uI p i).when).1 = 1) : oH p s hs i = aK ∧ lY p s hs rs i = true := by
 have h0 := zG h
 refine ⟨?_, ?_⟩
 ·unfold oH; rw [h0]; simp
 ·unfold lY; rw [h0]; simp
theorem Ez (h : (br p s (cB p s hs) (uI p i).when).1 = 1) : oH p s hs i = ⟨true, (br p s (cB p s hs) (uI p i).data).1⟩ ∧ lY p s hs rs i = rs.getD i false := by
 have h0 := vi h
 refine ⟨?_, ?_⟩
 ·unfold oH; rw [h0]; simp
 ·unfold lY; rw [h0]; simp
theorem EA (h : ig p s hs rs = false) : aY p s hs rs = ⟨false, s, List.replicate p.takes.length false, List.replicate p.puts.length aK⟩ := if_neg (by rw [h]; simp)
theorem zH (h : ig p s hs rs = true) : aY p s hs rs = ⟨true, db p s (cB p s hs), ao (oG p s hs) p.takes.length, ao (oH p s hs) p.puts.length⟩ := if_pos h
theorem py {a b : Bool} (h1 : a = eo (jK p s hs) p.takes.length) (h2 : b = (a && eo (lY p s hs rs) p.puts.length)) : ig p s hs rs = b := by
 rw [h2, h1]; rfl
theorem vj (hp : iA p) (hi : i < p.takes.length) : gi (sg p) (nN p i).when = some 1 ∧ hT (nN p i).when ≤ 3 := ⟨(j7 (s := aU) hp hi [] []).2, (hp.tw i hi).2.2⟩
theorem sj (p : Pr) : bg p = ⟨ao (fun i => (F5 p i).init) p.regs.length, ao (fun i => List.replicate (mK p i).words.toNat 0) p.mems.length⟩ := by
 unfold bg; rw [Ey (d := ci), Ey (d := a5)]
theorem H3 {l : List Int} {z : List Int} (h : l.length = z.length) : cP (fun j => l.getD j 0) z z.length = l := by
 rw [dC (Nat.le_refl _), ← h, ← H0]
end
theorem d4 {p : Pr} {s : Ps} (h : ¬s.regs.length = p.regs.length) : bO p s = false := by unfold bO; rw [decide_eq_false h]; rfl
theorem d5 {p : Pr} {s : Ps} (h : ¬s.mems.length = p.mems.length) : bO p s = false := by unfold bO; rw [decide_eq_false h]; simp
theorem d6 {p : Pr} {s : Ps} {i : Nat} (hi : i < s.regs.length) (h : cS (s.regs.getD i 0) (F5 p i).w = false) : bO p s = false := by
 unfold bO; rw [ie hi h]; simp
theorem bK {p : Pr} {s : Ps} {i : Nat} (hi : i < s.mems.length) (h : jq p s i = false) : bO p s = false := by
 unfold bO; rw [ie hi h]; simp
theorem gC {p : Pr} {s : Ps} {i : Nat} (h : ¬((s.mems.getD i []).length : Int) = (mK p i).words) : jq p s i = false := by unfold jq; rw [decide_eq_false h]; rfl
theorem gD {p : Pr} {s : Ps} {i j : Nat} (hj : j < (s.mems.getD i []).length) (h : cS ((s.mems.getD i []).getD j 0) (mK p i).w = false) : jq p s i = false := by
 unfold jq; rw [ie hj h]; simp
theorem EB {p : Pr} {s : Ps} {i : Nat} (h1 : ((s.mems.getD i []).length : Int) = (mK p i).words) (h2 : ∀ j, j < (s.mems.getD i []).length → cS ((s.mems.getD i []).getD j 0) (mK p i).w = true) : jq p s i = true := by
 unfold jq; rw [decide_eq_true h1, ce.2 h2]; rfl
theorem d7 {p : Pr} {s : Ps} (h1 : s.regs.length = p.regs.length) (h2 : s.mems.length = p.mems.length) (h3 : ∀ i, i < s.regs.length → cS (s.regs.getD i 0) (F5 p i).w = true) (h4 : ∀ i, i < s.mems.length → jq p s i = true) : bO p s = true := by
 unfold bO; rw [decide_eq_true h1, decide_eq_true h2, ce.2 h3, ce.2 h4]; rfl
theorem EC {v w : Int} (h0 : 0 ≤ v) (h1 : 0 ≤ w) (h2 : w ≤ 62) : (v / 2 ^ w.toNat == 0) = cS v w := by
 have hp := oz (n := w.toNat) (by omega)
 unfold cS
 rw [decide_eq_true h0, Bool.true_and, da h1 h2]
 rw [Bool.eq_iff_iff, beq_iff_eq, decide_eq_true_eq]
 generalize (2 : Int) ^ w.toNat = m at hp ⊢
 constructor
 ·intro h
  have h3 := Int.emod_add_mul_ediv v m
  rw [h] at h3
  have h4 := Int.emod_lt_of_pos v (show 0 < m by omega)
  omega
 ·intro h
  exact Int.ediv_eq_zero_of_lt h0 (by omega)
end Go.Proofs.YtifoecfajmnjjaaGreat
