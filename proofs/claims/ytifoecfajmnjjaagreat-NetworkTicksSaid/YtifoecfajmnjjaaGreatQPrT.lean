/-
  Processes, plain law: equality of states and firings; more facts for the walks.
-/
import Derived.Test.YtifoecfajmnjjaaGreatQPrS
namespace Go.Proofs.YtifoecfajmnjjaaGreat
open Go.RowKit
set_option linter.unusedVariables false
set_option linter.unusedSimpArgs false
def dF (a b : Ps) : Bool := decide (a.regs = b.regs) && decide (a.mems = b.mems)
theorem hX {a b : Ps} : dF a b = true ↔ a = b := by
 cases a; cases b; simp [dF]
theorem dA {α : Type} {a b : List α} {d : α} {k : Nat} (hl : a.length = b.length) (hk : ¬k < a.length) (h : ∀ j, j < k → a.getD j d = b.getD j d) : a = b :=
 jf (d := d) hl (fun i hi => h i (by omega))
theorem jN {a b : Ps} (h : ¬a.regs = b.regs) : dF a b = false := Bool.eq_false_iff.2 (fun e => h (by rw [hX.1 e]))
theorem jO {a b : Ps} (h : ¬a.mems.length = b.mems.length) : dF a b = false := Bool.eq_false_iff.2 (fun e => h (by rw [hX.1 e]))
theorem jP {a b : Ps} {i : Nat} (h : ¬a.mems.getD i [] = b.mems.getD i []) : dF a b = false := Bool.eq_false_iff.2 (fun e => h (by rw [hX.1 e]))
theorem jQ {a b : Ps} (h1 : a.regs = b.regs) (h2 : a.mems = b.mems) : dF a b = true := hX.2 (by cases a; cases b; simp_all)
theorem bw {α : Type} {f : Nat → α} {x : α} {enc : α → List V} {i : Nat} (h : i < 137438953472) (hx : x = f i) : (ap f i).length + ([x].map enc).length ≤ 137438953472 ∧ (ap f i).map enc ++ [x].map enc = (ap f (i + 1)).map enc := by
 subst hx; exact gF h
section
variable {c : Sc} {p : Pr} {s : Ps} {hs : List Hd} {rs : List Bool} {d : List Int} {i : Nat}
theorem Dn (ho : p6 c p s d) {e : Ex} {v : Int} (ht : ex c e = some v) (h1 : ¬e.op = 16) (h2 : ¬e.op = 17) (h3 : ¬e.op = 18) : fT e.op (cX p s d e.args) e.k.n e.w.n = true ∧ wK (cX p s d e.args) (eu p s d e.args) = true := by
 obtain ⟨ws, hws, hc⟩ := fU ht
 obtain ⟨hl, hget⟩ := jM hws
 have hargs : ∀ i, i < e.args.length → (a7 p s d (e.args.getD i dE)).2 = ws.getD i 0 ∧ dt (a7 p s d (e.args.getD i dE)).1 (ws.getD i 0) ∧ an (ws.getD i 0) = true := fun i hi => C5 ho _ _ _ (Nat.le_refl _) (hget i hi)
 obtain ⟨q1, q2, q3, q4⟩ := zL (c := c) hl hargs
 have e1 : cX p s d e.args = ws := by rw [← q1, cX, List.map_map]; rfl
 have e2 : eu p s d e.args = (e.args.map (a7 p s d)).map (·.1) := by rw [eu, List.map_map]; rfl
 rw [e1, e2]
 rcases hc with ⟨h, _⟩ | ⟨h, _⟩ | ⟨h, _⟩ | ⟨_, _, _, h, _⟩
 ·exact absurd h h1
 ·exact absurd h h3
 ·exact absurd h h2
 ·exact ⟨h, q3⟩
theorem EY (h1 : du p s (hU p) (kt p i).when = true) (h2 : (hs.getD i aJ).has = true) : kA p s hs i = (hs.getD i aJ).v := if_pos ⟨h1, h2⟩
theorem zZ (h1 : ¬du p s (hU p) (kt p i).when = true) : kA p s hs i = (hU p).getD i 0 := by rw [ss]; exact if_neg (fun h => h1 h.1)
theorem z3 (h1 : ¬(hs.getD i aJ).has = true) : kA p s hs i = (hU p).getD i 0 := by rw [ss]; exact if_neg (fun h => h1 h.2)
theorem vo (h : du p s d (ku p i).enable = true) : (s.mems.getD i []).set (Int.tmod (a7 p s d (ku p i).addr).1 (ku p i).words).toNat (a7 p s d (ku p i).data).1 = py p s d i := (if_pos h).symm
theorem z4 (h : ¬du p s d (ku p i).enable = true) : s.mems.getD i [] = py p s d i := (if_neg h).symm
theorem z5 (hp : fq p) (hs : nj p s) (hd : wR p d) (hi : i < p.mems.length) : 0 ≤ Int.tmod (a7 p s d (ku p i).addr).1 (ku p i).words ∧ Int.tmod (a7 p s d (ku p i).addr).1 (ku p i).words < (s.mems.getD i []).length ∧ (ku p i).words ≠ 0 := by
 have h := hp.mw i hi
 obtain ⟨v, hv⟩ := h.2.2.2.1.1
 have h0 := (vi (fV hp hs hd) hv h.2.2.2.1.2).2.1.1
 have hm := hs.mn i hi
 rw [hm]
 exact ⟨Int.tmod_nonneg _ h0, Int.tmod_lt_of_pos _ (by omega), by omega⟩
theorem k9 {b : Bool} (h : b = de (gE p s hs) i) (x : Bool) (hx : x = (b && gE p s hs i)) : x = de (gE p s hs) (i + 1) := by rw [hx, h]; rfl
theorem qa {a b : Bool} (h : b = (a && de (jg p s hs rs) i)) (x : Bool) (hx : x = (b && jg p s hs rs i)) : x = (a && de (jg p s hs rs) (i + 1)) := by rw [hx, h, de, Bool.and_assoc]
end
end Go.Proofs.YtifoecfajmnjjaaGreat
