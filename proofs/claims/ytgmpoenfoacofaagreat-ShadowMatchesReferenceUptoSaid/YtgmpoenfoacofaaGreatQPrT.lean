/-
  Processes, plain law: equality of states and firings; more facts for the walks.
-/
import Derived.Test.YtgmpoenfoacofaaGreatQPrS
namespace Go.Proofs.YtgmpoenfoacofaaGreat
open Go.RowKit
set_option linter.unusedVariables false
set_option linter.unusedSimpArgs false
def dq (a b : Ps) : Bool := decide (a.regs = b.regs) && decide (a.mems = b.mems)
theorem hE {a b : Ps} : dq a b = true ↔ a = b := by
 cases a; cases b; simp [dq]
theorem dk {α : Type} {a b : List α} {d : α} {k : Nat} (hl : a.length = b.length) (hk : ¬k < a.length) (h : ∀ j, j < k → a.getD j d = b.getD j d) : a = b :=
 jj (d := d) hl (fun i hi => h i (by omega))
theorem jS {a b : Ps} (h : ¬a.regs = b.regs) : dq a b = false := Bool.eq_false_iff.2 (fun e => h (by rw [hE.1 e]))
theorem jT {a b : Ps} (h : ¬a.mems.length = b.mems.length) : dq a b = false := Bool.eq_false_iff.2 (fun e => h (by rw [hE.1 e]))
theorem jU {a b : Ps} {i : Nat} (h : ¬a.mems.getD i [] = b.mems.getD i []) : dq a b = false := Bool.eq_false_iff.2 (fun e => h (by rw [hE.1 e]))
theorem jV {a b : Ps} (h1 : a.regs = b.regs) (h2 : a.mems = b.mems) : dq a b = true := hE.2 (by cases a; cases b; simp_all)
theorem bh {α : Type} {f : Nat → α} {x : α} {enc : α → List V} {i : Nat} (h : i < 137438953472) (hx : x = f i) : (tab f i).length + ([x].map enc).length ≤ 137438953472 ∧ (tab f i).map enc ++ [x].map enc = (tab f (i + 1)).map enc := by
 subst hx; exact fA h
section
variable {c : Sc} {p : Pr} {s : Ps} {hs : List Hd} {rs : List Bool} {d : List Int} {i : Nat}
theorem EJ (ho : qu c p s d) {e : Ex} {v : Int} (ht : ew c e = some v) (h1 : ¬e.op = 16) (h2 : ¬e.op = 17) (h3 : ¬e.op = 18) : fJ e.op (cE p s d e.args) e.k.n e.w.n = true ∧ yv (cE p s d e.args) (en p s d e.args) = true := by
 obtain ⟨ws, hws, hc⟩ := fK ht
 obtain ⟨hl, hget⟩ := jQ hws
 have hargs : ∀ i, i < e.args.length → (aZ p s d (e.args.getD i dE)).2 = ws.getD i 0 ∧ dR (aZ p s d (e.args.getD i dE)).1 (ws.getD i 0) ∧ an (ws.getD i 0) = true := fun i hi => Eo ho _ _ _ (Nat.le_refl _) (hget i hi)
 obtain ⟨q1, q2, q3, q4⟩ := Bb (c := c) hl hargs
 have e1 : cE p s d e.args = ws := by rw [← q1, cE, List.map_map]; rfl
 have e2 : en p s d e.args = (e.args.map (aZ p s d)).map (·.1) := by rw [en, List.map_map]; rfl
 rw [e1, e2]
 rcases hc with ⟨h, _⟩ | ⟨h, _⟩ | ⟨h, _⟩ | ⟨_, _, _, h, _⟩
 ·exact absurd h h1
 ·exact absurd h h3
 ·exact absurd h h2
 ·exact ⟨h, q3⟩
theorem Gy (h1 : dG p s (il p) (kO p i).when = true) (h2 : (hs.getD i aO).has = true) : kP p s hs i = (hs.getD i aO).v := if_pos ⟨h1, h2⟩
theorem Bo (h1 : ¬dG p s (il p) (kO p i).when = true) : kP p s hs i = (il p).getD i 0 := by rw [tH]; exact if_neg (fun h => h1 h.1)
theorem Bp (h1 : ¬(hs.getD i aO).has = true) : kP p s hs i = (il p).getD i 0 := by rw [tH]; exact if_neg (fun h => h1 h.2)
theorem xc (h : dG p s d (mN p i).enable = true) : (s.mems.getD i []).set (Int.tmod (aZ p s d (mN p i).addr).1 (mN p i).words).toNat (aZ p s d (mN p i).data).1 = pQ p s d i := (if_pos h).symm
theorem Bq (h : ¬dG p s d (mN p i).enable = true) : s.mems.getD i [] = pQ p s d i := (if_neg h).symm
theorem Br (hp : gv p) (hs : oW p s) (hd : yB p d) (hi : i < p.mems.length) : 0 ≤ Int.tmod (aZ p s d (mN p i).addr).1 (mN p i).words ∧ Int.tmod (aZ p s d (mN p i).addr).1 (mN p i).words < (s.mems.getD i []).length ∧ (mN p i).words ≠ 0 := by
 have h := hp.mw i hi
 obtain ⟨v, hv⟩ := h.2.2.2.1.1
 have h0 := (w5 (fL hp hs hd) hv h.2.2.2.1.2).2.1.1
 have hm := hs.mn i hi
 rw [hm]
 exact ⟨Int.tmod_nonneg _ h0, Int.tmod_lt_of_pos _ (by omega), by omega⟩
theorem kR {b : Bool} (h : b = cJ (im p s hs) i) (x : Bool) (hx : x = (b && im p s hs i)) : x = cJ (im p s hs) (i + 1) := by rw [hx, h]; rfl
theorem qz {a b : Bool} (h : b = (a && cJ (jR p s hs rs) i)) (x : Bool) (hx : x = (b && jR p s hs rs i)) : x = (a && cJ (jR p s hs rs) (i + 1)) := by rw [hx, h, cJ, Bool.and_assoc]
end
end Go.Proofs.YtgmpoenfoacofaaGreat
