/-
  Processes, plain law: facts for the walks over steps.
-/
import Derived.Test.YtifoecfajmnjjaaGreatQNeA
namespace Go.Proofs.YtifoecfajmnjjaaGreat
open Go.RowKit
set_option linter.unusedVariables false
set_option linter.unusedSimpArgs false
def b6 {α : Type} (f : Nat → α) (l : List α) (i : Nat) : List α := ap f i ++ l.drop i
theorem cY {α : Type} {f : Nat → α} {l : List α} {i : Nat} (h : i ≤ l.length) : (b6 f l i).length = l.length := by
 unfold b6; rw [List.length_append, aR, List.length_drop]; omega
theorem bK {α : Type} {f : Nat → α} {l : List α} {i : Nat} {v : α} (h : i < l.length) (hv : f i = v) : (b6 f l i).set i v = b6 f l (i + 1) := by
 rw [← hv]; exact EU h
theorem bD {α : Type} {f : Nat → α} {l : List α} {i : Nat} {d : α} (h : i < l.length) (hv : f i = l.getD i d) : b6 f l i = b6 f l (i + 1) := by
 unfold b6
 rw [sq, List.append_assoc, hv]
 congr 1
 rw [List.drop_eq_getElem_cons h, List.getD, List.getElem?_eq_getElem h]; rfl
theorem cE {α : Type} {f : Nat → α} {l : List α} {i : Nat} (h : l.length ≤ i) : b6 f l i = ap f i := Dl h
theorem fW {α : Type} {f : Nat → α} {l : List α} {i j : Nat} {d : α} : (b6 f l i).getD j d = if j < i then f j else l.getD j d := by
 unfold b6
 by_cases h : j < i
 ·rw [if_pos h, List.getD, List.getElem?_append_left (by rw [aR]; exact h), ← List.getD, bj h]
 ·rw [if_neg h, List.getD, List.getElem?_append_right (by rw [aR]; omega), aR, List.getElem?_drop, ← List.getD]
  congr 1; omega
theorem gF {α : Type} {f : Nat → α} {enc : α → List V} {i : Nat} (h : i < 137438953472) : (ap f i).length + ([f i].map enc).length ≤ 137438953472 ∧ (ap f i).map enc ++ [f i].map enc = (ap f (i + 1)).map enc := by
 refine ⟨by rw [aR]; simp; omega, ?_⟩
 rw [sq, List.map_append]
theorem bQ {α : Type} {n i : Nat} {a : α} : (List.replicate n a).getD i a = a := by
 rw [List.getD, List.getElem?_replicate]; split <;> rfl
section
variable {p : Pr} {s : Ps} {hs : List Hd} {rs : List Bool} {d : List Int} {i : Nat}
theorem ss : (hU p).getD i 0 = 0 := bQ
theorem dW : (hU p).length = p.takes.length := by simp [hU]
theorem Gn (hp : fq p) (hh : wS p hs) (hi : i ≤ p.takes.length) : wR p (b6 (kA p s hs) (hU p) i) where
 l := by rw [cY (by rw [dW]; exact hi), dW]
 v := fun j hj => by
  rw [fW]
  split
  ·have := (sr (s := s) hp hh).v j hj
   rw [bO, bj hj] at this
   exact this
  ·exact (FM hp).v j hj
theorem vk {e : Ex} (h : ¬(a7 p s d e).1 = 1) : du p s d e = false := decide_eq_false h
theorem rh {e : Ex} (h : (a7 p s d e).1 = 1) : du p s d e = true := decide_eq_true h
theorem EX (hp : fq p) (hi : i < p.takes.length) (h : ¬(a7 p s d (kt p i).when).1 = 1) : kY p s hs i = false ∧ kA p s hs i = 0 ∧ gE p s hs i = true := by
 have h0 := vk h
 have h1 : du p s (hU p) (kt p i).when = false := by rw [← h0]; exact (gM hp hi _ _).1
 have h2 : du p s (bO p s hs) (kt p i).when = false := by rw [← h0]; exact (gM hp hi _ _).1
 refine ⟨h2, ?_, ?_⟩
 ·unfold kA; rw [if_neg (by rw [h1]; simp)]
 ·unfold gE; rw [h2]; simp
theorem oL (hp : fq p) (hi : i < p.takes.length) (h : (a7 p s d (kt p i).when).1 = 1) : kY p s hs i = true ∧ (kA p s hs i = if (hs.getD i aJ).has = true then (hs.getD i aJ).v else 0) ∧ gE p s hs i = (hs.getD i aJ).has := by
 have h0 := rh h
 have h1 : du p s (hU p) (kt p i).when = true := by rw [← h0]; exact (gM hp hi _ _).1
 have h2 : du p s (bO p s hs) (kt p i).when = true := by rw [← h0]; exact (gM hp hi _ _).1
 refine ⟨h2, ?_, ?_⟩
 ·unfold kA; rw [h1]; simp
 ·unfold gE; rw [h2]; simp
theorem Gp (h : ¬(a7 p s (bO p s hs) (qE p i).when).1 = 1) : kZ p s hs i = aJ ∧ jg p s hs rs i = true := by
 have h0 := vk h
 refine ⟨?_, ?_⟩
 ·unfold kZ; rw [h0]; simp
 ·unfold jg; rw [h0]; simp
theorem zV (h : (a7 p s (bO p s hs) (qE p i).when).1 = 1) : kZ p s hs i = ⟨true, (a7 p s (bO p s hs) (qE p i).data).1⟩ ∧ jg p s hs rs i = rs.getD i false := by
 have h0 := rh h
 refine ⟨?_, ?_⟩
 ·unfold kZ; rw [h0]; simp
 ·unfold jg; rw [h0]; simp
theorem zW (h : fe p s hs rs = false) : aP p s hs rs = ⟨false, s, List.replicate p.takes.length false, List.replicate p.puts.length aJ⟩ := if_neg (by rw [h]; simp)
theorem vn (h : fe p s hs rs = true) : aP p s hs rs = ⟨true, ce p s (bO p s hs), ap (kY p s hs) p.takes.length, ap (kZ p s hs) p.puts.length⟩ := if_pos h
theorem lL {a b : Bool} (h1 : a = de (gE p s hs) p.takes.length) (h2 : b = (a && de (jg p s hs rs) p.puts.length)) : fe p s hs rs = b := by
 rw [h2, h1]; rfl
theorem ri (hp : fq p) (hi : i < p.takes.length) : ex (oJ p) (kt p i).when = some 1 ∧ eX (kt p i).when ≤ 3 := ⟨(gM (s := bg) hp hi [] []).2, (hp.tw i hi).2.2⟩
theorem oM (p : Pr) : aV p = ⟨ap (fun i => (Be p i).init) p.regs.length, ap (fun i => List.replicate (ku p i).words.toNat 0) p.mems.length⟩ := by
 unfold aV; rw [zU (d := bH), zU (d := aO)]
theorem Dm {l : List Int} {z : List Int} (h : l.length = z.length) : b6 (fun j => l.getD j 0) z z.length = l := by
 rw [cE (Nat.le_refl _), ← h, ← Dk]
end
theorem cQ {p : Pr} {s : Ps} (h : ¬s.regs.length = p.regs.length) : bp p s = false := by unfold bp; rw [decide_eq_false h]; rfl
theorem cR {p : Pr} {s : Ps} (h : ¬s.mems.length = p.mems.length) : bp p s = false := by unfold bp; rw [decide_eq_false h]; simp
theorem cS {p : Pr} {s : Ps} {i : Nat} (hi : i < s.regs.length) (h : cf (s.regs.getD i 0) (Be p i).w = false) : bp p s = false := by
 unfold bp; rw [fN hi h]; simp
theorem bk {p : Pr} {s : Ps} {i : Nat} (hi : i < s.mems.length) (h : gg p s i = false) : bp p s = false := by
 unfold bp; rw [fN hi h]; simp
theorem eD {p : Pr} {s : Ps} {i : Nat} (h : ¬((s.mems.getD i []).length : Int) = (ku p i).words) : gg p s i = false := by unfold gg; rw [decide_eq_false h]; rfl
theorem eE {p : Pr} {s : Ps} {i j : Nat} (hj : j < (s.mems.getD i []).length) (h : cf ((s.mems.getD i []).getD j 0) (ku p i).w = false) : gg p s i = false := by
 unfold gg; rw [fN hj h]; simp
theorem zX {p : Pr} {s : Ps} {i : Nat} (h1 : ((s.mems.getD i []).length : Int) = (ku p i).words) (h2 : ∀ j, j < (s.mems.getD i []).length → cf ((s.mems.getD i []).getD j 0) (ku p i).w = true) : gg p s i = true := by
 unfold gg; rw [decide_eq_true h1, bP.2 h2]; rfl
theorem cT {p : Pr} {s : Ps} (h1 : s.regs.length = p.regs.length) (h2 : s.mems.length = p.mems.length) (h3 : ∀ i, i < s.regs.length → cf (s.regs.getD i 0) (Be p i).w = true) (h4 : ∀ i, i < s.mems.length → gg p s i = true) : bp p s = true := by
 unfold bp; rw [decide_eq_true h1, decide_eq_true h2, bP.2 h3, bP.2 h4]; rfl
theorem zY {v w : Int} (h0 : 0 ≤ v) (h1 : 0 ≤ w) (h2 : w ≤ 62) : (v / 2 ^ w.toNat == 0) = cf v w := by
 have hp := kS (n := w.toNat) (by omega)
 unfold cf
 rw [decide_eq_true h0, Bool.true_and, cu h1 h2]
 rw [Bool.eq_iff_iff, beq_iff_eq, decide_eq_true_eq]
 generalize (2 : Int) ^ w.toNat = m at hp ⊢
 constructor
 ·intro h
  have h3 := Int.emod_add_mul_ediv v m
  rw [h] at h3
  have h4 := Int.emod_lt_of_pos v (show 0 < m by omega)
  omega
 ·intro h
  exact Int.ediv_eq_zero_of_lt h0 (by omega)
end Go.Proofs.YtifoecfajmnjjaaGreat
