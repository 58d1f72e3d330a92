/-
  Processes, plain law: equality of states and firings; more facts for the walks.
-/
import Derived.Test.YtckgpflobhpnpaaQNeA
namespace Go.Proofs.Ytckgpflobhpnpaa
open Go.RowKit
set_option linter.unusedVariables false
set_option linter.unusedSimpArgs false
def cC {α : Type} (f : Nat → α) (l : List α) (i : Nat) : List α := tab f i ++ l.drop i
theorem eG {α : Type} {f : Nat → α} {l : List α} {i : Nat} (h : i ≤ l.length) : (cC f l i).length = l.length := by
 unfold cC; rw [List.length_append, ap, List.length_drop]; omega
theorem ca {α : Type} {f : Nat → α} {l : List α} {i : Nat} {v : α} (h : i < l.length) (hv : f i = v) : (cC f l i).set i v = cC f l (i + 1) := by
 rw [← hv]; exact Ii h
theorem ct {α : Type} {f : Nat → α} {l : List α} {i : Nat} {d : α} (h : i < l.length) (hv : f i = l.getD i d) : cC f l i = cC f l (i + 1) := by
 unfold cC
 rw [uT, List.append_assoc, hv]
 congr 1
 rw [List.drop_eq_getElem_cons h, List.getD, List.getElem?_eq_getElem h]; rfl
theorem dz {α : Type} {f : Nat → α} {l : List α} {i : Nat} (h : l.length ≤ i) : cC f l i = tab f i := FW h
theorem my {α : Type} {f : Nat → α} {l : List α} {i j : Nat} {d : α} : (cC f l i).getD j d = if j < i then f j else l.getD j d := by
 unfold cC
 by_cases h : j < i
 ·rw [if_pos h, List.getD, List.getElem?_append_left (by rw [ap]; exact h), ← List.getD, aB h]
 ·rw [if_neg h, List.getD, List.getElem?_append_right (by rw [ap]; omega), ap, List.getElem?_drop, ← List.getD]
  congr 1; omega
theorem qH {α : Type} {f : Nat → α} {enc : α → List V} {i : Nat} (h : i < 137438953472) : (tab f i).length + ([f i].map enc).length ≤ 137438953472 ∧ (tab f i).map enc ++ [f i].map enc = (tab f (i + 1)).map enc := by
 refine ⟨by rw [ap]; simp; omega, ?_⟩
 rw [uT, List.map_append]
theorem cI {α : Type} {n i : Nat} {a : α} : (List.replicate n a).getD i a = a := by
 rw [List.getD, List.getElem?_replicate]; split <;> rfl
section
variable {p : Pr} {s : Ps} {hs : List Hd} {rs : List Bool} {d : List Int} {i : Nat}
theorem AW : (uU p).getD i 0 = 0 := cI
theorem kN : (uU p).length = p.takes.length := by simp [uU]
theorem Kj (hp : gP p) (hh : AU p hs) (hi : i ≤ p.takes.length) : AR p (cC (qD p s hs) (uU p) i) where
 l := by rw [eG (by rw [kN]; exact hi), kN]
 v := fun j hj => by
  rw [my]
  split
  ·have := (AV (s := s) hp hh).v j hj
   rw [i5, aB hj] at this
   exact this
  ·exact (LM hp).v j hj
theorem xM {e : Ex} (h : ¬(bx p s d e).1 = 1) : kK p s d e = false := decide_eq_false h
theorem tz {e : Ex} (h : (bx p s d e).1 = 1) : kK p s d e = true := decide_eq_true h
theorem Il (hp : gP p) (hi : i < p.takes.length) (h : ¬(bx p s d (lM p i).when).1 = 1) : oA p s hs i = false ∧ qD p s hs i = 0 ∧ jQ p s hs i = true := by
 have h0 := xM h
 have h1 : kK p s (uU p) (lM p i).when = false := by rw [← h0]; exact (il hp hi _ _).1
 have h2 : kK p s (i5 p s hs) (lM p i).when = false := by rw [← h0]; exact (il hp hi _ _).1
 refine ⟨h2, ?_, ?_⟩
 ·unfold qD; rw [if_neg (by rw [h1]; simp)]
 ·unfold jQ; rw [h2]; simp
theorem qI (hp : gP p) (hi : i < p.takes.length) (h : (bx p s d (lM p i).when).1 = 1) : oA p s hs i = true ∧ (qD p s hs i = if (hs.getD i aP).has = true then (hs.getD i aP).v else 0) ∧ jQ p s hs i = (hs.getD i aP).has := by
 have h0 := tz h
 have h1 : kK p s (uU p) (lM p i).when = true := by rw [← h0]; exact (il hp hi _ _).1
 have h2 : kK p s (i5 p s hs) (lM p i).when = true := by rw [← h0]; exact (il hp hi _ _).1
 refine ⟨h2, ?_, ?_⟩
 ·unfold qD; rw [h1]; simp
 ·unfold jQ; rw [h2]; simp
theorem Kk (h : ¬(bx p s (i5 p s hs) (sH p i).when).1 = 1) : oB p s hs i = aP ∧ oz p s hs rs i = true := by
 have h0 := xM h
 refine ⟨?_, ?_⟩
 ·unfold oB; rw [h0]; simp
 ·unfold oz; rw [h0]; simp
theorem CA (h : (bx p s (i5 p s hs) (sH p i).when).1 = 1) : oB p s hs i = ⟨true, (bx p s (i5 p s hs) (sH p i).data).1⟩ ∧ oz p s hs rs i = rs.getD i false := by
 have h0 := tz h
 refine ⟨?_, ?_⟩
 ·unfold oB; rw [h0]; simp
 ·unfold oz; rw [h0]; simp
theorem Im (h : fo p s hs rs = false) : aL p s hs rs = ⟨false, s, List.replicate p.takes.length false, List.replicate p.puts.length aP⟩ := if_neg (by rw [h]; simp)
theorem CE (h : fo p s hs rs = true) : aL p s hs rs = ⟨true, eF p s (i5 p s hs), tab (oA p s hs) p.takes.length, tab (oB p s hs) p.puts.length⟩ := if_pos h
theorem wC {a b : Bool} (h1 : a = dT (jQ p s hs) p.takes.length) (h2 : b = (a && dT (oz p s hs rs) p.puts.length)) : fo p s hs rs = b := by
 rw [h2, h1]; rfl
theorem Io (hp : gP p) (hi : i < p.takes.length) : e9 (qE p) (lM p i).when = some 1 ∧ fS (lM p i).when ≤ 3 := ⟨(il (s := bV) hp hi [] []).2, (hp.tw i hi).2.2⟩
theorem zo (p : Pr) : aQ p = ⟨tab (fun i => (Ho p i).init) p.regs.length, tab (fun i => List.replicate (pI p i).words.toNat 0) p.mems.length⟩ := by
 unfold aQ; rw [Cz (d := cr), Cz (d := bf)]
theorem FY {l : List Int} {z : List Int} (h : l.length = z.length) : cC (fun j => l.getD j 0) z z.length = l := by
 rw [dz (Nat.le_refl _), ← h, ← FV]
end
theorem rV {α : Type} {a b : List α} {d : α} {k : Nat} (hl : a.length = b.length) (hk : ¬k < a.length) (h : ∀ j, j < k → a.getD j d = b.getD j d) : a = b :=
 dR (d := d) hl (fun i hi => h i (by omega))
theorem bu {α : Type} {f : Nat → α} {x : α} {enc : α → List V} {i : Nat} (h : i < 137438953472) (hx : x = f i) : (tab f i).length + ([x].map enc).length ≤ 137438953472 ∧ (tab f i).map enc ++ [x].map enc = (tab f (i + 1)).map enc := by
 subst hx; exact qH h
section
variable {c : Sc} {p : Pr} {s : Ps} {hs : List Hd} {rs : List Bool} {d : List Int} {i : Nat}
theorem FZ (h : kK p s d (pI p i).enable = true) : (s.mems.getD i []).set (Int.tmod (bx p s d (pI p i).addr).1 (pI p i).words).toNat (bx p s d (pI p i).data).1 = zn p s d i := (if_pos h).symm
theorem Jl (h : ¬kK p s d (pI p i).enable = true) : s.mems.getD i [] = zn p s d i := (if_neg h).symm
theorem Ip (hp : gP p) (hs : qF p s) (hd : AR p d) (hi : i < p.mems.length) : 0 ≤ Int.tmod (bx p s d (pI p i).addr).1 (pI p i).words ∧ Int.tmod (bx p s d (pI p i).addr).1 (pI p i).words < (s.mems.getD i []).length ∧ (pI p i).words ≠ 0 := by
 have h := hp.mw i hi
 obtain ⟨v, hv⟩ := h.2.2.2.1.1
 have h0 := (xL (mu hp hs hd) hv h.2.2.2.1.2).2.1.1
 have hm := hs.mn i hi
 rw [hm]
 exact ⟨Int.tmod_nonneg _ h0, Int.tmod_lt_of_pos _ (by omega), by omega⟩
theorem uV {b : Bool} (h : b = dT (jQ p s hs) i) (x : Bool) (hx : x = (b && jQ p s hs i)) : x = dT (jQ p s hs) (i + 1) := by rw [hx, h]; rfl
theorem AX {a b : Bool} (h : b = (a && dT (oz p s hs rs) i)) (x : Bool) (hx : x = (b && oz p s hs rs i)) : x = (a && dT (oz p s hs rs) (i + 1)) := by rw [hx, h, dT, Bool.and_assoc]
end
end Go.Proofs.Ytckgpflobhpnpaa
