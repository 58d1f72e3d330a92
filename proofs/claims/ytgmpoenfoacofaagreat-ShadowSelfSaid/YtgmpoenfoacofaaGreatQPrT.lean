/-
  Processes, plain law: equality of states and firings; more facts for the walks.
-/
import Derived.Test.YtgmpoenfoacofaaGreatQPrS
namespace Go.Proofs.YtgmpoenfoacofaaGreat
open Go.RowKit
set_option linter.unusedVariables false
set_option linter.unusedSimpArgs false
theorem bp {α : Type} {f : Nat → α} {x : α} {enc : α → List V} {i : Nat} (h : i < 137438953472) (hx : x = f i) : (tab f i).length + ([x].map enc).length ≤ 137438953472 ∧ (tab f i).map enc ++ [x].map enc = (tab f (i + 1)).map enc := by
 subst hx; exact gH h
section
variable {c : Sc} {p : Pr} {s : Ps} {hs : List Hd} {rs : List Bool} {d : List Int} {i : Nat}
theorem FD (ho : qF c p s d) {e : Ex} {v : Int} (ht : eJ c e = some v) (h1 : ¬e.op = 16) (h2 : ¬e.op = 17) (h3 : ¬e.op = 18) : fT e.op (c6 p s d e.args) e.k.n e.w.n = true ∧ yV (c6 p s d e.args) (eD p s d e.args) = true := by
 obtain ⟨ws, hws, hc⟩ := fU ht
 obtain ⟨hl, hget⟩ := j9 hws
 have hargs : ∀ i, i < e.args.length → (a5 p s d (e.args.getD i dE)).2 = ws.getD i 0 ∧ dz (a5 p s d (e.args.getD i dE)).1 (ws.getD i 0) ∧ am (ws.getD i 0) = true := fun i hi => Fj ho _ _ _ (Nat.le_refl _) (hget i hi)
 obtain ⟨q1, q2, q3, q4⟩ := BH (c := c) hl hargs
 have e1 : c6 p s d e.args = ws := by rw [← q1, c6, List.map_map]; rfl
 have e2 : eD p s d e.args = (e.args.map (a5 p s d)).map (·.1) := by rw [eD, List.map_map]; rfl
 rw [e1, e2]
 rcases hc with ⟨h, _⟩ | ⟨h, _⟩ | ⟨h, _⟩ | ⟨_, _, _, h, _⟩
 ·exact absurd h h1
 ·exact absurd h h3
 ·exact absurd h h2
 ·exact ⟨h, q3⟩
theorem Ho (h1 : dQ p s (im p) (kJ p i).when = true) (h2 : (hs.getD i aU).has = true) : kP p s hs i = (hs.getD i aU).v := if_pos ⟨h1, h2⟩
theorem BU (h1 : ¬dQ p s (im p) (kJ p i).when = true) : kP p s hs i = (im p).getD i 0 := by rw [tX]; exact if_neg (fun h => h1 h.1)
theorem BV (h1 : ¬(hs.getD i aU).has = true) : kP p s hs i = (im p).getD i 0 := by rw [tX]; exact if_neg (fun h => h1 h.2)
theorem xx (h : dQ p s d (kO p i).enable = true) : (s.mems.getD i []).set (Int.tmod (a5 p s d (kO p i).addr).1 (kO p i).words).toNat (a5 p s d (kO p i).data).1 = p7 p s d i := (if_pos h).symm
theorem BW (h : ¬dQ p s d (kO p i).enable = true) : s.mems.getD i [] = p7 p s d i := (if_neg h).symm
theorem BX (hp : fV p) (hs : nG p s) (hd : y6 p d) (hi : i < p.mems.length) : 0 ≤ Int.tmod (a5 p s d (kO p i).addr).1 (kO p i).words ∧ Int.tmod (a5 p s d (kO p i).addr).1 (kO p i).words < (s.mems.getD i []).length ∧ (kO p i).words ≠ 0 := by
 have h := hp.mw i hi
 obtain ⟨v, hv⟩ := h.2.2.2.1.1
 have h0 := (xt (fW hp hs hd) hv h.2.2.2.1.2).2.1.1
 have hm := hs.mn i hi
 rw [hm]
 exact ⟨Int.tmod_nonneg _ h0, Int.tmod_lt_of_pos _ (by omega), by omega⟩
theorem lq {b : Bool} (h : b = cB (gG p s hs) i) (x : Bool) (hx : x = (b && gG p s hs i)) : x = cB (gG p s hs) (i + 1) := by rw [hx, h]; rfl
theorem qJ {a b : Bool} (h : b = (a && cB (js p s hs rs) i)) (x : Bool) (hx : x = (b && js p s hs rs i)) : x = (a && cB (js p s hs rs) (i + 1)) := by rw [hx, h, cB, Bool.and_assoc]
end
end Go.Proofs.YtgmpoenfoacofaaGreat
