/-
  Processes, plain law: equality of states and firings; more facts for the walks.
-/
import Derived.Test.YtifoecfajmnjjaaGreatQPrS
namespace Go.Proofs.YtifoecfajmnjjaaGreat
open Go.RowKit
set_option linter.unusedVariables false
set_option linter.unusedSimpArgs false
def dR (a b : Ps) : Bool := decide (a.regs = b.regs) && decide (a.mems = b.mems)
theorem iv {a b : Ps} : dR a b = true ↔ a = b := by
 cases a; cases b; simp [dR]
theorem dM {α : Type} {a b : List α} {d : α} {k : Nat} (hl : a.length = b.length) (hk : ¬k < a.length) (h : ∀ j, j < k → a.getD j d = b.getD j d) : a = b :=
 jy (d := d) hl (fun i hi => h i (by omega))
theorem ke {a b : Ps} (h : ¬a.regs = b.regs) : dR a b = false := Bool.eq_false_iff.2 (fun e => h (by rw [iv.1 e]))
theorem kf {a b : Ps} (h : ¬a.mems.length = b.mems.length) : dR a b = false := Bool.eq_false_iff.2 (fun e => h (by rw [iv.1 e]))
theorem kg {a b : Ps} {i : Nat} (h : ¬a.mems.getD i [] = b.mems.getD i []) : dR a b = false := Bool.eq_false_iff.2 (fun e => h (by rw [iv.1 e]))
theorem kh {a b : Ps} (h1 : a.regs = b.regs) (h2 : a.mems = b.mems) : dR a b = true := iv.2 (by cases a; cases b; simp_all)
theorem bz {α : Type} {f : Nat → α} {x : α} {enc : α → List V} {i : Nat} (h : i < 137438953472) (hx : x = f i) : (aq f i).length + ([x].map enc).length ≤ 137438953472 ∧ (aq f i).map enc ++ [x].map enc = (aq f (i + 1)).map enc := by
 subst hx; exact f8 h
section
variable {c : Sc} {p : Pr} {s : Ps} {hs : List Hd} {rs : List Bool} {d : List Int} {i : Nat}
theorem Ez (ho : qM c p s d) {e : Ex} {v : Int} (ht : eK c e = some v) (h1 : ¬e.op = 16) (h2 : ¬e.op = 17) (h3 : ¬e.op = 18) : gi e.op (c5 p s d e.args) e.k.n e.w.n = true ∧ xR (c5 p s d e.args) (eG p s d e.args) = true := by
 obtain ⟨ws, hws, hc⟩ := gj ht
 obtain ⟨hl, hget⟩ := kb hws
 have hargs : ∀ i, i < e.args.length → (be p s d (e.args.getD i dE)).2 = ws.getD i 0 ∧ dD (be p s d (e.args.getD i dE)).1 (ws.getD i 0) ∧ au (ws.getD i 0) = true := fun i hi => Ed ho _ _ _ (Nat.le_refl _) (hget i hi)
 obtain ⟨q1, q2, q3, q4⟩ := A4 (c := c) hl hargs
 have e1 : c5 p s d e.args = ws := by rw [← q1, c5, List.map_map]; rfl
 have e2 : eG p s d e.args = (e.args.map (be p s d)).map (·.1) := by rw [eG, List.map_map]; rfl
 rw [e1, e2]
 rcases hc with ⟨h, _⟩ | ⟨h, _⟩ | ⟨h, _⟩ | ⟨_, _, _, h, _⟩
 ·exact absurd h h1
 ·exact absurd h h3
 ·exact absurd h h2
 ·exact ⟨h, q3⟩
theorem F8 (h1 : dY p s (iR p) (lG p i).when = true) (h2 : (hs.getD i aK).has = true) : lH p s hs i = (hs.getD i aK).v := if_pos ⟨h1, h2⟩
theorem Bj (h1 : ¬dY p s (iR p) (lG p i).when = true) : lH p s hs i = (iR p).getD i 0 := by rw [tn]; exact if_neg (fun h => h1 h.1)
theorem Bk (h1 : ¬(hs.getD i aK).has = true) : lH p s hs i = (iR p).getD i 0 := by rw [tn]; exact if_neg (fun h => h1 h.2)
theorem wy (h : dY p s d (kT p i).enable = true) : (s.mems.getD i []).set (Int.tmod (be p s d (kT p i).addr).1 (kT p i).words).toNat (be p s d (kT p i).data).1 = qh p s d i := (if_pos h).symm
theorem Bl (h : ¬dY p s d (kT p i).enable = true) : s.mems.getD i [] = qh p s d i := (if_neg h).symm
theorem Bm (hp : fM p) (hs : oa p s) (hd : xY p d) (hi : i < p.mems.length) : 0 ≤ Int.tmod (be p s d (kT p i).addr).1 (kT p i).words ∧ Int.tmod (be p s d (kT p i).addr).1 (kT p i).words < (s.mems.getD i []).length ∧ (kT p i).words ≠ 0 := by
 have h := hp.mw i hi
 obtain ⟨v, hv⟩ := h.2.2.2.1.1
 have h0 := (wu (gm hp hs hd) hv h.2.2.2.1.2).2.1.1
 have hm := hs.mn i hi
 rw [hm]
 exact ⟨Int.tmod_nonneg _ h0, Int.tmod_lt_of_pos _ (by omega), by omega⟩
theorem lI {b : Bool} (h : b = dh (iW p s hs) i) (x : Bool) (hx : x = (b && iW p s hs i)) : x = dh (iW p s hs) (i + 1) := by rw [hx, h]; rfl
theorem qQ {a b : Bool} (h : b = (a && dh (kd p s hs rs) i)) (x : Bool) (hx : x = (b && kd p s hs rs i)) : x = (a && dh (kd p s hs rs) (i + 1)) := by rw [hx, h, dh, Bool.and_assoc]
end
end Go.Proofs.YtifoecfajmnjjaaGreat
