/-
  Processes, plain law: equality of states and firings; more facts for the walks.
-/
import Derived.Test.YtgfbfajaaaegjaaQPrS
namespace Go.Proofs.Ytgfbfajaaaegjaa
open Go.RowKit
set_option linter.unusedVariables false
set_option linter.unusedSimpArgs false
def cy (a b : Ps) : Bool := decide (a.regs = b.regs) && decide (a.mems = b.mems)
theorem eE {a b : Ps} : cy a b = true ↔ a = b := by
 cases a; cases b; simp [cy]
def fe (a b : Hd) : Bool := (a.has == b.has) && (a.v == b.v)
theorem rF {a b : Hd} : fe a b = true ↔ a = b := by
 cases a; cases b; simp [fe]
def ck (a b : Fi) : Bool := decide (a.fires = b.fires) && cy a.s b.s && decide (a.pops = b.pops) && decide (a.puts.length = b.puts.length) && ee (fun i => fe (a.puts.getD i bp) (b.puts.getD i bp)) a.puts.length
theorem eF {a b : Fi} : ck a b = true ↔ a = b := by
 unfold ck
 simp only [Bool.and_eq_true, decide_eq_true_eq, eE, fd, rF]
 constructor
 ·rintro ⟨⟨⟨⟨h1, h2⟩, h3⟩, h4⟩, h5⟩
  have h6 := nr h4 h5
  cases a; cases b; simp_all
 ·rintro rfl; exact ⟨⟨⟨⟨rfl, rfl⟩, rfl⟩, rfl⟩, fun i _ => rfl⟩
theorem cg {α : Type} {a b : List α} {d : α} {k : Nat} (hl : a.length = b.length) (hk : ¬k < a.length) (h : ∀ j, j < k → a.getD j d = b.getD j d) : a = b :=
 nr (d := d) hl (fun i hi => h i (by omega))
theorem eG {a b : Fi} (h : ¬a.fires = b.fires) : ck a b = false := Bool.eq_false_iff.2 (fun e => h (by rw [eF.1 e]))
theorem eK {a b : Fi} (h : cy a.s b.s = false) : ck a b = false := Bool.eq_false_iff.2 (fun e => by rw [eF.1 e, eE.2 rfl] at h; cases h)
theorem eL {a b : Fi} (h : ¬a.pops.length = b.pops.length) : ck a b = false := Bool.eq_false_iff.2 (fun e => h (by rw [eF.1 e]))
theorem eM {a b : Fi} (h : ¬a.puts.length = b.puts.length) : ck a b = false := Bool.eq_false_iff.2 (fun e => h (by rw [eF.1 e]))
theorem eN {a b : Fi} {i : Nat} (h : ¬a.pops.getD i false = b.pops.getD i false) : ck a b = false := Bool.eq_false_iff.2 (fun e => h (by rw [eF.1 e]))
theorem eO {a b : Fi} {i : Nat} (h : fe (a.puts.getD i bp) (b.puts.getD i bp) = false) : ck a b = false := Bool.eq_false_iff.2 (fun e => by rw [eF.1 e, rF.2 rfl] at h; cases h)
theorem eP {a b : Fi} (h1 : a.fires = b.fires) (h2 : cy a.s b.s = true) (h3 : a.pops = b.pops) (h4 : a.puts.length = b.puts.length) (h5 : ∀ i, i < a.puts.length → fe (a.puts.getD i bp) (b.puts.getD i bp) = true) : ck a b = true := by
 unfold ck; simp only [h1, h2, h3, h4, decide_true, Bool.true_and, fd]; rw [← h4]; exact h5
theorem jq {a b : Ps} (h : ¬a.regs = b.regs) : cy a b = false := Bool.eq_false_iff.2 (fun e => h (by rw [eE.1 e]))
theorem jr {a b : Ps} (h : ¬a.mems.length = b.mems.length) : cy a b = false := Bool.eq_false_iff.2 (fun e => h (by rw [eE.1 e]))
theorem js {a b : Ps} {i : Nat} (h : ¬a.mems.getD i [] = b.mems.getD i []) : cy a b = false := Bool.eq_false_iff.2 (fun e => h (by rw [eE.1 e]))
theorem jt {a b : Ps} (h1 : a.regs = b.regs) (h2 : a.mems = b.mems) : cy a b = true := eE.2 (by cases a; cases b; simp_all)
theorem bO {α : Type} {f : Nat → α} {x : α} {enc : α → List V} {i : Nat} (h : i < 137438953472) (hx : x = f i) : (tab f i).length + ([x].map enc).length ≤ 137438953472 ∧ (tab f i).map enc ++ [x].map enc = (tab f (i + 1)).map enc := by
 subst hx; exact jp h
section
variable {c : Sc} {p : Pr} {s : Ps} {hs : List Hd} {rs : List Bool} {d : List Int} {i : Nat}
theorem vA (ho : mm c p s d) {e : Ex} {v : Int} (ht : dc c e = some v) (h1 : ¬e.op = 16) (h2 : ¬e.op = 17) (h3 : ¬e.op = 18) : fL e.op (b7 p s d e.args) e.k.n e.w.n = true ∧ vn (b7 p s d e.args) (cb p s d e.args) = true := by
 obtain ⟨ws, hws, hc⟩ := dq ht
 obtain ⟨hl, hget⟩ := fb hws
 have hargs : ∀ i, i < e.args.length → (aL p s d (e.args.getD i dE)).2 = ws.getD i 0 ∧ dX (aL p s d (e.args.getD i dE)).1 (ws.getD i 0) ∧ ai (ws.getD i 0) = true := fun i hi => xE ho _ _ _ (Nat.le_refl _) (hget i hi)
 obtain ⟨q1, q2, q3, q4⟩ := xD (c := c) hl hargs
 have e1 : b7 p s d e.args = ws := by rw [← q1, b7, List.map_map]; rfl
 have e2 : cb p s d e.args = (e.args.map (aL p s d)).map (·.1) := by rw [cb, List.map_map]; rfl
 rw [e1, e2]
 rcases hc with ⟨h, _⟩ | ⟨h, _⟩ | ⟨h, _⟩ | ⟨_, _, _, h, _⟩
 ·exact absurd h h1
 ·exact absurd h h3
 ·exact absurd h h2
 ·exact ⟨h, q3⟩
theorem Bn (h1 : dK p s (gO p) (pI p i).when = true) (h2 : (hs.getD i bp).has = true) : kd p s hs i = (hs.getD i bp).v := if_pos ⟨h1, h2⟩
theorem xT (h1 : ¬dK p s (gO p) (pI p i).when = true) : kd p s hs i = (gO p).getD i 0 := by rw [rE]; exact if_neg (fun h => h1 h.1)
theorem xU (h1 : ¬(hs.getD i bp).has = true) : kd p s hs i = (gO p).getD i 0 := by rw [rE]; exact if_neg (fun h => h1 h.2)
theorem ub (h : dK p s d (iu p i).enable = true) : (s.mems.getD i []).set (Int.tmod (aL p s d (iu p i).addr).1 (iu p i).words).toNat (aL p s d (iu p i).data).1 = od p s d i := (if_pos h).symm
theorem xV (h : ¬dK p s d (iu p i).enable = true) : s.mems.getD i [] = od p s d i := (if_neg h).symm
theorem xW (hp : cZ p) (hs : kf p s) (hd : sm p d) (hi : i < p.mems.length) : 0 ≤ Int.tmod (aL p s d (iu p i).addr).1 (iu p i).words ∧ Int.tmod (aL p s d (iu p i).addr).1 (iu p i).words < (s.mems.getD i []).length ∧ (iu p i).words ≠ 0 := by
 have h := hp.mw i hi
 obtain ⟨v, hv⟩ := h.2.2.2.1.1
 have h0 := (wH (dr hp hs hd) hv h.2.2.2.1.2).2.1.1
 have hm := hs.mn i hi
 rw [hm]
 exact ⟨Int.tmod_nonneg _ h0, Int.tmod_lt_of_pos _ (by omega), by omega⟩
theorem kg {b : Bool} (h : b = ee (jo p s hs) i) (x : Bool) (hx : x = (b && jo p s hs i)) : x = ee (jo p s hs) (i + 1) := by rw [hx, h]; rfl
theorem o8 {a b : Bool} (h : b = (a && ee (ke p s hs rs) i)) (x : Bool) (hx : x = (b && ke p s hs rs i)) : x = (a && ee (ke p s hs rs) (i + 1)) := by rw [hx, h, ee, Bool.and_assoc]
end
end Go.Proofs.Ytgfbfajaaaegjaa
