/-
  Processes, plain law: equality of states and firings; more facts for the walks.
-/
import Derived.Test.YtgmpoenfoacofaaGreatQPrS
namespace Go.Proofs.YtgmpoenfoacofaaGreat
open Go.RowKit
set_option linter.unusedVariables false
set_option linter.unusedSimpArgs false
def dW (a b : Ps) : Bool := decide (a.regs = b.regs) && decide (a.mems = b.mems)
theorem iO {a b : Ps} : dW a b = true ↔ a = b := by
 cases a; cases b; simp [dW]
theorem dR {α : Type} {a b : List α} {d : α} {k : Nat} (hl : a.length = b.length) (hk : ¬k < a.length) (h : ∀ j, j < k → a.getD j d = b.getD j d) : a = b :=
 jX (d := d) hl (fun i hi => h i (by omega))
theorem kM {a b : Ps} (h : ¬a.regs = b.regs) : dW a b = false := Bool.eq_false_iff.2 (fun e => h (by rw [iO.1 e]))
theorem kN {a b : Ps} (h : ¬a.mems.length = b.mems.length) : dW a b = false := Bool.eq_false_iff.2 (fun e => h (by rw [iO.1 e]))
theorem kO {a b : Ps} {i : Nat} (h : ¬a.mems.getD i [] = b.mems.getD i []) : dW a b = false := Bool.eq_false_iff.2 (fun e => h (by rw [iO.1 e]))
theorem kP {a b : Ps} (h1 : a.regs = b.regs) (h2 : a.mems = b.mems) : dW a b = true := iO.2 (by cases a; cases b; simp_all)
theorem bt {α : Type} {f : Nat → α} {x : α} {enc : α → List V} {i : Nat} (h : i < 137438953472) (hx : x = f i) : (tab f i).length + ([x].map enc).length ≤ 137438953472 ∧ (tab f i).map enc ++ [x].map enc = (tab f (i + 1)).map enc := by
 subst hx; exact f9 h
section
variable {c : Sc} {p : Pr} {s : Ps} {hs : List Hd} {rs : List Bool} {d : List Int} {i : Nat}
theorem GI (ho : rL c p s d) {e : Ex} {v : Int} (ht : eT c e = some v) (h1 : ¬e.op = 16) (h2 : ¬e.op = 17) (h3 : ¬e.op = 18) : gj e.op (cS p s d e.args) e.k.n e.w.n = true ∧ zV (cS p s d e.args) (eN p s d e.args) = true := by
 obtain ⟨ws, hws, hc⟩ := gk ht
 obtain ⟨hl, hget⟩ := kL hws
 have hargs : ∀ i, i < e.args.length → (a8 p s d (e.args.getD i dE)).2 = ws.getD i 0 ∧ dq (a8 p s d (e.args.getD i dE)).1 (ws.getD i 0) ∧ ao (ws.getD i 0) = true := fun i hi => Gp ho _ _ _ (Nat.le_refl _) (hget i hi)
 obtain ⟨q1, q2, q3, q4⟩ := CI (c := c) hl hargs
 have e1 : cS p s d e.args = ws := by rw [← q1, cS, List.map_map]; rfl
 have e2 : eN p s d e.args = (e.args.map (a8 p s d)).map (·.1) := by rw [eN, List.map_map]; rfl
 rw [e1, e2]
 rcases hc with ⟨h, _⟩ | ⟨h, _⟩ | ⟨h, _⟩ | ⟨_, _, _, h, _⟩
 ·exact absurd h h1
 ·exact absurd h h3
 ·exact absurd h h2
 ·exact ⟨h, q3⟩
theorem Iu (h1 : dM p s (iL p) (lz p i).when = true) (h2 : (hs.getD i aW).has = true) : lG p s hs i = (hs.getD i aW).v := if_pos ⟨h1, h2⟩
theorem C0 (h1 : ¬dM p s (iL p) (lz p i).when = true) : lG p s hs i = (iL p).getD i 0 := by rw [u5]; exact if_neg (fun h => h1 h.1)
theorem C2 (h1 : ¬(hs.getD i aW).has = true) : lG p s hs i = (iL p).getD i 0 := by rw [u5]; exact if_neg (fun h => h1 h.2)
theorem yw (h : dM p s d (lA p i).enable = true) : (s.mems.getD i []).set (Int.tmod (a8 p s d (lA p i).addr).1 (lA p i).words).toNat (a8 p s d (lA p i).data).1 = qY p s d i := (if_pos h).symm
theorem C3 (h : ¬dM p s d (lA p i).enable = true) : s.mems.getD i [] = qY p s d i := (if_neg h).symm
theorem C4 (hp : gm p) (hs : oZ p s) (hd : z5 p d) (hi : i < p.mems.length) : 0 ≤ Int.tmod (a8 p s d (lA p i).addr).1 (lA p i).words ∧ Int.tmod (a8 p s d (lA p i).addr).1 (lA p i).words < (s.mems.getD i []).length ∧ (lA p i).words ≠ 0 := by
 have h := hp.mw i hi
 obtain ⟨v, hv⟩ := h.2.2.2.1.1
 have h0 := (yq (gr hp hs hd) hv h.2.2.2.1.2).2.1.1
 have hm := hs.mn i hi
 rw [hm]
 exact ⟨Int.tmod_nonneg _ h0, Int.tmod_lt_of_pos _ (by omega), by omega⟩
theorem l9 {b : Bool} (h : b = ct (hE p s hs) i) (x : Bool) (hx : x = (b && hE p s hs i)) : x = ct (hE p s hs) (i + 1) := by rw [hx, h]; rfl
theorem rP {a b : Bool} (h : b = (a && ct (jY p s hs rs) i)) (x : Bool) (hx : x = (b && jY p s hs rs i)) : x = (a && ct (jY p s hs rs) (i + 1)) := by rw [hx, h, ct, Bool.and_assoc]
end
end Go.Proofs.YtgmpoenfoacofaaGreat
