/-
  Processes, plain law: equality of states and firings; more facts for the walks.
-/
import Derived.Test.YtifoecfajmnjjaaGreatQPrS
namespace Go.Proofs.YtifoecfajmnjjaaGreat
open Go.RowKit
set_option linter.unusedVariables false
set_option linter.unusedSimpArgs false
def dA (a b : Ps) : Bool := decide (a.regs = b.regs) && decide (a.mems = b.mems)
theorem cB {a b : Ps} : dA a b = true ↔ a = b := by
 cases a; cases b; simp [dA]
theorem dK {α : Type} {a b : List α} {d : α} {k : Nat} (hl : a.length = b.length) (hk : ¬k < a.length) (h : ∀ j, j < k → a.getD j d = b.getD j d) : a = b :=
 pg (d := d) hl (fun i hi => h i (by omega))
theorem ka {a b : Ps} (h : ¬a.regs = b.regs) : dA a b = false := Bool.eq_false_iff.2 (fun e => h (by rw [cB.1 e]))
theorem kb {a b : Ps} (h : ¬a.mems.length = b.mems.length) : dA a b = false := Bool.eq_false_iff.2 (fun e => h (by rw [cB.1 e]))
theorem kd {a b : Ps} {i : Nat} (h : ¬a.mems.getD i [] = b.mems.getD i []) : dA a b = false := Bool.eq_false_iff.2 (fun e => h (by rw [cB.1 e]))
theorem ke {a b : Ps} (h1 : a.regs = b.regs) (h2 : a.mems = b.mems) : dA a b = true := cB.2 (by cases a; cases b; simp_all)
theorem bx {α : Type} {f : Nat → α} {x : α} {enc : α → List V} {i : Nat} (h : i < 137438953472) (hx : x = f i) : (an f i).length + ([x].map enc).length ≤ 137438953472 ∧ (an f i).map enc ++ [x].map enc = (an f (i + 1)).map enc := by
 subst hx; exact gW h
section
variable {c : Sc} {p : Pr} {s : Ps} {hs : List Hd} {rs : List Bool} {d : List Int} {i : Nat}
theorem Dn (ho : qu c p s d) {e : Ex} {v : Int} (ht : eH c e = some v) (h1 : ¬e.op = 16) (h2 : ¬e.op = 17) (h3 : ¬e.op = 18) : gj e.op (c6 p s d e.args) e.k.n e.w.n = true ∧ wT (c6 p s d e.args) (eE p s d e.args) = true := by
 obtain ⟨ws, hws, hc⟩ := gk ht
 obtain ⟨hl, hget⟩ := j8 hws
 have hargs : ∀ i, i < e.args.length → (bc p s d (e.args.getD i dE)).2 = ws.getD i 0 ∧ dG (bc p s d (e.args.getD i dE)).1 (ws.getD i 0) ∧ ax (ws.getD i 0) = true := fun i hi => C5 ho _ _ _ (Nat.le_refl _) (hget i hi)
 obtain ⟨q1, q2, q3, q4⟩ := zS (c := c) hl hargs
 have e1 : c6 p s d e.args = ws := by rw [← q1, c6, List.map_map]; rfl
 have e2 : eE p s d e.args = (e.args.map (bc p s d)).map (·.1) := by rw [eE, List.map_map]; rfl
 rw [e1, e2]
 rcases hc with ⟨h, _⟩ | ⟨h, _⟩ | ⟨h, _⟩ | ⟨_, _, _, h, _⟩
 ·exact absurd h h1
 ·exact absurd h h3
 ·exact absurd h h2
 ·exact ⟨h, q3⟩
theorem E4 (h1 : dW p s (iL p) (kS p i).when = true) (h2 : (hs.getD i aG).has = true) : lu p s hs i = (hs.getD i aG).v := if_pos ⟨h1, h2⟩
theorem z9 (h1 : ¬dW p s (iL p) (kS p i).when = true) : lu p s hs i = (iL p).getD i 0 := by rw [sK]; exact if_neg (fun h => h1 h.1)
theorem Aa (h1 : ¬(hs.getD i aG).has = true) : lu p s hs i = (iL p).getD i 0 := by rw [sK]; exact if_neg (fun h => h1 h.2)
theorem vE (h : dW p s d (kN p i).enable = true) : (s.mems.getD i []).set (Int.tmod (bc p s d (kN p i).addr).1 (kN p i).words).toNat (bc p s d (kN p i).data).1 = pU p s d i := (if_pos h).symm
theorem Ab (h : ¬dW p s d (kN p i).enable = true) : s.mems.getD i [] = pU p s d i := (if_neg h).symm
theorem Ac (hp : fS p) (hs : nQ p s) (hd : w3 p d) (hi : i < p.mems.length) : 0 ≤ Int.tmod (bc p s d (kN p i).addr).1 (kN p i).words ∧ Int.tmod (bc p s d (kN p i).addr).1 (kN p i).words < (s.mems.getD i []).length ∧ (kN p i).words ≠ 0 := by
 have h := hp.mw i hi
 obtain ⟨v, hv⟩ := h.2.2.2.1.1
 have h0 := (vA (gm hp hs hd) hv h.2.2.2.1.2).2.1.1
 have hm := hs.mn i hi
 rw [hm]
 exact ⟨Int.tmod_nonneg _ h0, Int.tmod_lt_of_pos _ (by omega), by omega⟩
theorem lv {b : Bool} (h : b = dq (iQ p s hs) i) (x : Bool) (hx : x = (b && iQ p s hs i)) : x = dq (iQ p s hs) (i + 1) := by rw [hx, h]; rfl
theorem qz {a b : Bool} (h : b = (a && dq (j9 p s hs rs) i)) (x : Bool) (hx : x = (b && j9 p s hs rs i)) : x = (a && dq (j9 p s hs rs) (i + 1)) := by rw [hx, h, dq, Bool.and_assoc]
end
end Go.Proofs.YtifoecfajmnjjaaGreat
