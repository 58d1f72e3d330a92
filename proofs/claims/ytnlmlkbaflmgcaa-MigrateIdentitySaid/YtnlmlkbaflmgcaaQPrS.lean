/-
  Processes, plain law: facts for the walks over steps.
-/
import Derived.Test.YtnlmlkbaflmgcaaQNeA
namespace Go.Proofs.Ytnlmlkbaflmgcaa
open Go.RowKit
set_option linter.unusedVariables false
set_option linter.unusedSimpArgs false
def i5 {α : Type} (f : Nat → α) (l : List α) (i : Nat) : List α := tab f i ++ l.drop i
theorem dC {α : Type} {f : Nat → α} {l : List α} {i : Nat} (h : i ≤ l.length) : (i5 f l i).length = l.length := by
 unfold i5; rw [List.length_append, aJ, List.length_drop]; omega
theorem ci {α : Type} {f : Nat → α} {l : List α} {i : Nat} {v : α} (h : i < l.length) (hv : f i = v) : (i5 f l i).set i v = i5 f l (i + 1) := by
 rw [← hv]; exact FM h
theorem jk {α : Type} {f : Nat → α} {l : List α} {i : Nat} {d : α} (h : i < l.length) (hv : f i = l.getD i d) : i5 f l i = i5 f l (i + 1) := by
 unfold i5
 rw [r9, List.append_assoc, hv]
 congr 1
 rw [List.drop_eq_getElem_cons h, List.getD, List.getElem?_eq_getElem h]; rfl
theorem cM {α : Type} {f : Nat → α} {l : List α} {i : Nat} (h : l.length ≤ i) : i5 f l i = tab f i := Dz h
theorem si {α : Type} {f : Nat → α} {l : List α} {i j : Nat} {d : α} : (i5 f l i).getD j d = if j < i then f j else l.getD j d := by
 unfold i5
 by_cases h : j < i
 ·rw [if_pos h, List.getD, List.getElem?_append_left (by rw [aJ]; exact h), ← List.getD, aL h]
 ·rw [if_neg h, List.getD, List.getElem?_append_right (by rw [aJ]; omega), aJ, List.getElem?_drop, ← List.getD]
  congr 1; omega
theorem ou {α : Type} {f : Nat → α} {enc : α → List V} {i : Nat} (h : i < 137438953472) : (tab f i).length + ([f i].map enc).length ≤ 137438953472 ∧ (tab f i).map enc ++ [f i].map enc = (tab f (i + 1)).map enc := by
 refine ⟨by rw [aJ]; simp; omega, ?_⟩
 rw [r9, List.map_append]
theorem cY {α : Type} {n i : Nat} {a : α} : (List.replicate n a).getD i a = a := by
 rw [List.getD, List.getElem?_replicate]; split <;> rfl
section
variable {p : Pr} {s : Ps} {hs : List Hd} {rs : List Bool} {d : List Int} {i : Nat}
theorem DH : (mI p).getD i 0 = 0 := cY
theorem kS : (mI p).length = p.takes.length := by simp [mI]
theorem FT (h : hX p s hs rs = false) : bk p s hs rs = ⟨false, s, List.replicate p.takes.length false, List.replicate p.puts.length cC⟩ := if_neg (by rw [h]; simp)
theorem FU (h : hX p s hs rs = true) : bk p s hs rs = ⟨true, dA p s (bL p s hs), tab (DA p s hs) p.takes.length, tab (BM p s hs) p.puts.length⟩ := if_pos h
theorem uo {a b : Bool} (h1 : a = b4 (sa p s hs) p.takes.length) (h2 : b = (a && b4 (sd p s hs rs) p.puts.length)) : hX p s hs rs = b := by
 rw [h2, h1]; rfl
theorem vL (hp : gi p) (hi : i < p.takes.length) : dp (lC p) (mi p i).when = some 1 ∧ eC (mi p i).when ≤ 3 := ⟨(BQ (s := aW) hp hi [] []).2, (hp.tw i hi).2.2⟩
theorem xa (p : Pr) : bq p = ⟨tab (fun i => (oT p i).init) p.regs.length, tab (fun i => List.replicate (dK p i).words.toNat 0) p.mems.length⟩ := by
 unfold bq; rw [Ae (d := aK), Ae (d := ax)]
end
theorem gI {p : Pr} {s : Ps} (h : ¬s.regs.length = p.regs.length) : bx p s = false := by unfold bx; rw [decide_eq_false h]; rfl
theorem gJ {p : Pr} {s : Ps} (h : ¬s.mems.length = p.mems.length) : bx p s = false := by unfold bx; rw [decide_eq_false h]; simp
theorem gK {p : Pr} {s : Ps} {i : Nat} (hi : i < s.regs.length) (h : eV (s.regs.getD i 0) (oT p i).w = false) : bx p s = false := by
 unfold bx; rw [dq hi h]; simp
theorem cy {p : Pr} {s : Ps} {i : Nat} (hi : i < s.mems.length) (h : hY p s i = false) : bx p s = false := by
 unfold bx; rw [dq hi h]; simp
theorem lF {p : Pr} {s : Ps} {i : Nat} (h : ¬((s.mems.getD i []).length : Int) = (dK p i).words) : hY p s i = false := by unfold hY; rw [decide_eq_false h]; rfl
theorem lG {p : Pr} {s : Ps} {i j : Nat} (hj : j < (s.mems.getD i []).length) (h : eV ((s.mems.getD i []).getD j 0) (dK p i).w = false) : hY p s i = false := by
 unfold hY; rw [dq hj h]; simp
theorem FV {p : Pr} {s : Ps} {i : Nat} (h1 : ((s.mems.getD i []).length : Int) = (dK p i).words) (h2 : ∀ j, j < (s.mems.getD i []).length → eV ((s.mems.getD i []).getD j 0) (dK p i).w = true) : hY p s i = true := by
 unfold hY; rw [decide_eq_true h1, aR.2 h2]; rfl
theorem gL {p : Pr} {s : Ps} (h1 : s.regs.length = p.regs.length) (h2 : s.mems.length = p.mems.length) (h3 : ∀ i, i < s.regs.length → eV (s.regs.getD i 0) (oT p i).w = true) (h4 : ∀ i, i < s.mems.length → hY p s i = true) : bx p s = true := by
 unfold bx; rw [decide_eq_true h1, decide_eq_true h2, aR.2 h3, aR.2 h4]; rfl
theorem Ao {v w : Int} (h0 : 0 ≤ v) (h1 : 0 ≤ w) (h2 : w ≤ 62) : (v / 2 ^ w.toNat == 0) = eV v w := by
 have hp := kN (n := w.toNat) (by omega)
 unfold eV
 rw [decide_eq_true h0, Bool.true_and, cI h1 h2]
 rw [Bool.eq_iff_iff, beq_iff_eq, decide_eq_true_eq]
 generalize (2 : Int) ^ w.toNat = m at hp ⊢
 constructor
 ·intro h
  have h3 := Int.emod_add_mul_ediv v m
  rw [h] at h3
  have h4 := Int.emod_lt_of_pos v (show 0 < m by omega)
  omega
 ·intro h
  exact Int.ediv_eq_zero_of_lt h0 (by omega)
end Go.Proofs.Ytnlmlkbaflmgcaa
