/-
  Processes, plain law: equality of states and firings; more facts for the walks.
-/
import Derived.Test.YtgmpoenfoacofaaGreatQPrS
namespace Go.Proofs.YtgmpoenfoacofaaGreat
open Go.RowKit
set_option linter.unusedVariables false
set_option linter.unusedSimpArgs false
theorem bp {α : Type} {f : Nat → α} {x : α} {enc : α → List V} {i : Nat} (h : i < 137438953472) (hx : x = f i) : (ao f i).length + ([x].map enc).length ≤ 137438953472 ∧ (ao f i).map enc ++ [x].map enc = (ao f (i + 1)).map enc := by
 subst hx; exact gw h
section
variable {c : Sc} {p : Pr} {s : Ps} {hs : List Hd} {rs : List Bool} {d : List Int} {i : Nat}
theorem ES (ho : qe c p s d) {e : Ex} {v : Int} (ht : eD c e = some v) (h1 : ¬e.op = 16) (h2 : ¬e.op = 17) (h3 : ¬e.op = 18) : fJ e.op (c6 p s d e.args) e.k.n e.w.n = true ∧ x4 (c6 p s d e.args) (ey p s d e.args) = true := by
 obtain ⟨ws, hws, hc⟩ := fK ht
 obtain ⟨hl, hget⟩ := jK hws
 have hargs : ∀ i, i < e.args.length → (a5 p s d (e.args.getD i dE)).2 = ws.getD i 0 ∧ dq (a5 p s d (e.args.getD i dE)).1 (ws.getD i 0) ∧ am (ws.getD i 0) = true := fun i hi => Ez ho _ _ _ (Nat.le_refl _) (hget i hi)
 obtain ⟨q1, q2, q3, q4⟩ := AV (c := c) hl hargs
 have e1 : c6 p s d e.args = ws := by rw [← q1, c6, List.map_map]; rfl
 have e2 : ey p s d e.args = (e.args.map (a5 p s d)).map (·.1) := by rw [ey, List.map_map]; rfl
 rw [e1, e2]
 rcases hc with ⟨h, _⟩ | ⟨h, _⟩ | ⟨h, _⟩ | ⟨_, _, _, h, _⟩
 ·exact absurd h h1
 ·exact absurd h h3
 ·exact absurd h h2
 ·exact ⟨h, q3⟩
theorem GG (h1 : dH p s (hX p) (km p i).when = true) (h2 : (hs.getD i aR).has = true) : ku p s hs i = (hs.getD i aR).v := if_pos ⟨h1, h2⟩
theorem A9 (h1 : ¬dH p s (hX p) (km p i).when = true) : ku p s hs i = (hX p).getD i 0 := by rw [s9]; exact if_neg (fun h => h1 h.1)
theorem Ba (h1 : ¬(hs.getD i aR).has = true) : ku p s hs i = (hX p).getD i 0 := by rw [s9]; exact if_neg (fun h => h1 h.2)
theorem wF (h : dH p s d (kt p i).enable = true) : (s.mems.getD i []).set (Int.tmod (a5 p s d (kt p i).addr).1 (kt p i).words).toNat (a5 p s d (kt p i).data).1 = pE p s d i := (if_pos h).symm
theorem Bb (h : ¬dH p s d (kt p i).enable = true) : s.mems.getD i [] = pE p s d i := (if_neg h).symm
theorem Bc (hp : fL p) (hs : nb p s) (hd : yc p d) (hi : i < p.mems.length) : 0 ≤ Int.tmod (a5 p s d (kt p i).addr).1 (kt p i).words ∧ Int.tmod (a5 p s d (kt p i).addr).1 (kt p i).words < (s.mems.getD i []).length ∧ (kt p i).words ≠ 0 := by
 have h := hp.mw i hi
 obtain ⟨v, hv⟩ := h.2.2.2.1.1
 have h0 := (wA (fM hp hs hd) hv h.2.2.2.1.2).2.1.1
 have hm := hs.mn i hi
 rw [hm]
 exact ⟨Int.tmod_nonneg _ h0, Int.tmod_lt_of_pos _ (by omega), by omega⟩
theorem kS {b : Bool} (h : b = cz (gv p s hs) i) (x : Bool) (hx : x = (b && gv p s hs i)) : x = cz (gv p s hs) (i + 1) := by rw [hx, h]; rfl
theorem qi {a b : Bool} (h : b = (a && cz (i8 p s hs rs) i)) (x : Bool) (hx : x = (b && i8 p s hs rs i)) : x = (a && cz (i8 p s hs rs) (i + 1)) := by rw [hx, h, cz, Bool.and_assoc]
end
end Go.Proofs.YtgmpoenfoacofaaGreat
