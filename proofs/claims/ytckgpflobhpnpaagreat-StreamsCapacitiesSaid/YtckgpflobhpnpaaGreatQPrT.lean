/-
  Processes, plain law: equality of states and firings; more facts for the walks.
-/
import Derived.Test.YtckgpflobhpnpaaGreatQNeA
namespace Go.Proofs.YtckgpflobhpnpaaGreat
open Go.RowKit
set_option linter.unusedVariables false
set_option linter.unusedSimpArgs false
def ci {α : Type} (f : Nat → α) (l : List α) (i : Nat) : List α := tab f i ++ l.drop i
theorem cY {α : Type} {f : Nat → α} {l : List α} {i : Nat} (h : i ≤ l.length) : (ci f l i).length = l.length := by
 unfold ci; rw [List.length_append, ap, List.length_drop]; omega
theorem bX {α : Type} {f : Nat → α} {l : List α} {i : Nat} {v : α} (h : i < l.length) (hv : f i = v) : (ci f l i).set i v = ci f l (i + 1) := by
 rw [← hv]; exact Ie h
theorem cg {α : Type} {f : Nat → α} {l : List α} {i : Nat} {d : α} (h : i < l.length) (hv : f i = l.getD i d) : ci f l i = ci f l (i + 1) := by
 unfold ci
 rw [uS, List.append_assoc, hv]
 congr 1
 rw [List.drop_eq_getElem_cons h, List.getD, List.getElem?_eq_getElem h]; rfl
theorem dt {α : Type} {f : Nat → α} {l : List α} {i : Nat} (h : l.length ≤ i) : ci f l i = tab f i := FU h
theorem iK {α : Type} {f : Nat → α} {l : List α} {i j : Nat} {d : α} : (ci f l i).getD j d = if j < i then f j else l.getD j d := by
 unfold ci
 by_cases h : j < i
 ·rw [if_pos h, List.getD, List.getElem?_append_left (by rw [ap]; exact h), ← List.getD, az h]
 ·rw [if_neg h, List.getD, List.getElem?_append_right (by rw [ap]; omega), ap, List.getElem?_drop, ← List.getD]
  congr 1; omega
theorem qH {α : Type} {f : Nat → α} {enc : α → List V} {i : Nat} (h : i < 137438953472) : (tab f i).length + ([f i].map enc).length ≤ 137438953472 ∧ (tab f i).map enc ++ [f i].map enc = (tab f (i + 1)).map enc := by
 refine ⟨by rw [ap]; simp; omega, ?_⟩
 rw [uS, List.map_append]
theorem cI {α : Type} {n i : Nat} {a : α} : (List.replicate n a).getD i a = a := by
 rw [List.getD, List.getElem?_replicate]; split <;> rfl
section
variable {p : Pr} {s : Ps} {hs : List Hd} {rs : List Bool} {d : List Int} {i : Nat}
theorem AQ : (uT p).getD i 0 = 0 := cI
theorem kL : (uT p).length = p.takes.length := by simp [uT]
theorem Kk (hp : gP p) (hh : AO p hs) (hi : i ≤ p.takes.length) : AN p (ci (qD p s hs) (uT p) i) where
 l := by rw [cY (by rw [kL]; exact hi), kL]
 v := fun j hj => by
  rw [iK]
  split
  ·have := (AP (s := s) hp hh).v j hj
   rw [i9, az hj] at this
   exact this
  ·exact (L4 hp).v j hj
theorem xI {e : Ex} (h : ¬(bx p s d e).1 = 1) : kJ p s d e = false := decide_eq_false h
theorem tx {e : Ex} (h : (bx p s d e).1 = 1) : kJ p s d e = true := decide_eq_true h
theorem Ii (hp : gP p) (hi : i < p.takes.length) (h : ¬(bx p s d (lG p i).when).1 = 1) : ou p s hs i = false ∧ qD p s hs i = 0 ∧ jT p s hs i = true := by
 have h0 := xI h
 have h1 : kJ p s (uT p) (lG p i).when = false := by rw [← h0]; exact (iq hp hi _ _).1
 have h2 : kJ p s (i9 p s hs) (lG p i).when = false := by rw [← h0]; exact (iq hp hi _ _).1
 refine ⟨h2, ?_, ?_⟩
 ·unfold qD; rw [if_neg (by rw [h1]; simp)]
 ·unfold jT; rw [h2]; simp
theorem qI (hp : gP p) (hi : i < p.takes.length) (h : (bx p s d (lG p i).when).1 = 1) : ou p s hs i = true ∧ (qD p s hs i = if (hs.getD i aO).has = true then (hs.getD i aO).v else 0) ∧ jT p s hs i = (hs.getD i aO).has := by
 have h0 := tx h
 have h1 : kJ p s (uT p) (lG p i).when = true := by rw [← h0]; exact (iq hp hi _ _).1
 have h2 : kJ p s (i9 p s hs) (lG p i).when = true := by rw [← h0]; exact (iq hp hi _ _).1
 refine ⟨h2, ?_, ?_⟩
 ·unfold qD; rw [h1]; simp
 ·unfold jT; rw [h2]; simp
theorem Kl (h : ¬(bx p s (i9 p s hs) (sH p i).when).1 = 1) : ow p s hs i = aO ∧ ot p s hs rs i = true := by
 have h0 := xI h
 refine ⟨?_, ?_⟩
 ·unfold ow; rw [h0]; simp
 ·unfold ot; rw [h0]; simp
theorem Cr (h : (bx p s (i9 p s hs) (sH p i).when).1 = 1) : ow p s hs i = ⟨true, (bx p s (i9 p s hs) (sH p i).data).1⟩ ∧ ot p s hs rs i = rs.getD i false := by
 have h0 := tx h
 refine ⟨?_, ?_⟩
 ·unfold ow; rw [h0]; simp
 ·unfold ot; rw [h0]; simp
theorem Ij (h : fp p s hs rs = false) : aI p s hs rs = ⟨false, s, List.replicate p.takes.length false, List.replicate p.puts.length aO⟩ := if_neg (by rw [h]; simp)
theorem Cs (h : fp p s hs rs = true) : aI p s hs rs = ⟨true, eD p s (i9 p s hs), tab (ou p s hs) p.takes.length, tab (ow p s hs) p.puts.length⟩ := if_pos h
theorem wy {a b : Bool} (h1 : a = dR (jT p s hs) p.takes.length) (h2 : b = (a && dR (ot p s hs rs) p.puts.length)) : fp p s hs rs = b := by
 rw [h2, h1]; rfl
theorem Ik (hp : gP p) (hi : i < p.takes.length) : e9 (qE p) (lG p i).when = some 1 ∧ fS (lG p i).when ≤ 3 := ⟨(iq (s := bS) hp hi [] []).2, (hp.tw i hi).2.2⟩
theorem zh (p : Pr) : aP p = ⟨tab (fun i => (Hm p i).init) p.regs.length, tab (fun i => List.replicate (pF p i).words.toNat 0) p.mems.length⟩ := by
 unfold aP; rw [Cq (d := co), Cq (d := be)]
theorem FW {l : List Int} {z : List Int} (h : l.length = z.length) : ci (fun j => l.getD j 0) z z.length = l := by
 rw [dt (Nat.le_refl _), ← h, ← FT]
end
theorem rT {α : Type} {a b : List α} {d : α} {k : Nat} (hl : a.length = b.length) (hk : ¬k < a.length) (h : ∀ j, j < k → a.getD j d = b.getD j d) : a = b :=
 dQ (d := d) hl (fun i hi => h i (by omega))
theorem bz {α : Type} {f : Nat → α} {x : α} {enc : α → List V} {i : Nat} (h : i < 137438953472) (hx : x = f i) : (tab f i).length + ([x].map enc).length ≤ 137438953472 ∧ (tab f i).map enc ++ [x].map enc = (tab f (i + 1)).map enc := by
 subst hx; exact qH h
section
variable {c : Sc} {p : Pr} {s : Ps} {hs : List Hd} {rs : List Bool} {d : List Int} {i : Nat}
theorem FX (h : kJ p s d (pF p i).enable = true) : (s.mems.getD i []).set (Int.tmod (bx p s d (pF p i).addr).1 (pF p i).words).toNat (bx p s d (pF p i).data).1 = zg p s d i := (if_pos h).symm
theorem Jh (h : ¬kJ p s d (pF p i).enable = true) : s.mems.getD i [] = zg p s d i := (if_neg h).symm
theorem Il (hp : gP p) (hs : qF p s) (hd : AN p d) (hi : i < p.mems.length) : 0 ≤ Int.tmod (bx p s d (pF p i).addr).1 (pF p i).words ∧ Int.tmod (bx p s d (pF p i).addr).1 (pF p i).words < (s.mems.getD i []).length ∧ (pF p i).words ≠ 0 := by
 have h := hp.mw i hi
 obtain ⟨v, hv⟩ := h.2.2.2.1.1
 have h0 := (xH (mm hp hs hd) hv h.2.2.2.1.2).2.1.1
 have hm := hs.mn i hi
 rw [hm]
 exact ⟨Int.tmod_nonneg _ h0, Int.tmod_lt_of_pos _ (by omega), by omega⟩
theorem uU {b : Bool} (h : b = dR (jT p s hs) i) (x : Bool) (hx : x = (b && jT p s hs i)) : x = dR (jT p s hs) (i + 1) := by rw [hx, h]; rfl
theorem AR {a b : Bool} (h : b = (a && dR (ot p s hs rs) i)) (x : Bool) (hx : x = (b && ot p s hs rs i)) : x = (a && dR (ot p s hs rs) (i + 1)) := by rw [hx, h, dR, Bool.and_assoc]
end
end Go.Proofs.YtckgpflobhpnpaaGreat
