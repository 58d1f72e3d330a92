/-
  Processes, plain law: equality of states and firings; more facts for the walks.
-/
import Derived.Test.YtifoecfajmnjjaaGreatQPrS
namespace Go.Proofs.YtifoecfajmnjjaaGreat
open Go.RowKit
set_option linter.unusedVariables false
set_option linter.unusedSimpArgs false
def cf (a b : Ps) : Bool := decide (a.regs = b.regs) && decide (a.mems = b.mems)
theorem cx {a b : Ps} : cf a b = true ↔ a = b := by
 cases a; cases b; simp [cf]
def ii (a b : Hd) : Bool := (a.has == b.has) && (a.v == b.v)
theorem wC {a b : Hd} : ii a b = true ↔ a = b := by
 cases a; cases b; simp [ii]
def eM (a b : Fi) : Bool := decide (a.fires = b.fires) && cf a.s b.s && decide (a.pops = b.pops) && decide (a.puts.length = b.puts.length) && eo (fun i => ii (a.puts.getD i aK) (b.puts.getD i aK)) a.puts.length
theorem gG {a b : Fi} : eM a b = true ↔ a = b := by
 unfold eM
 simp only [Bool.and_eq_true, decide_eq_true_eq, cx, ce, wC]
 constructor
 ·rintro ⟨⟨⟨⟨h1, h2⟩, h3⟩, h4⟩, h5⟩
  have h6 := ky h4 h5
  cases a; cases b; simp_all
 ·rintro rfl; exact ⟨⟨⟨⟨rfl, rfl⟩, rfl⟩, rfl⟩, fun i _ => rfl⟩
theorem cF {α : Type} {a b : List α} {d : α} {k : Nat} (hl : a.length = b.length) (hk : ¬k < a.length) (h : ∀ j, j < k → a.getD j d = b.getD j d) : a = b :=
 ky (d := d) hl (fun i hi => h i (by omega))
theorem gH {a b : Fi} (h : ¬a.fires = b.fires) : eM a b = false := Bool.eq_false_iff.2 (fun e => h (by rw [gG.1 e]))
theorem gI {a b : Fi} (h : cf a.s b.s = false) : eM a b = false := Bool.eq_false_iff.2 (fun e => by rw [gG.1 e, cx.2 rfl] at h; cases h)
theorem gJ {a b : Fi} (h : ¬a.pops.length = b.pops.length) : eM a b = false := Bool.eq_false_iff.2 (fun e => h (by rw [gG.1 e]))
theorem gK {a b : Fi} (h : ¬a.puts.length = b.puts.length) : eM a b = false := Bool.eq_false_iff.2 (fun e => h (by rw [gG.1 e]))
theorem gL {a b : Fi} {i : Nat} (h : ¬a.pops.getD i false = b.pops.getD i false) : eM a b = false := Bool.eq_false_iff.2 (fun e => h (by rw [gG.1 e]))
theorem gM {a b : Fi} {i : Nat} (h : ii (a.puts.getD i aK) (b.puts.getD i aK) = false) : eM a b = false := Bool.eq_false_iff.2 (fun e => by rw [gG.1 e, wC.2 rfl] at h; cases h)
theorem gN {a b : Fi} (h1 : a.fires = b.fires) (h2 : cf a.s b.s = true) (h3 : a.pops = b.pops) (h4 : a.puts.length = b.puts.length) (h5 : ∀ i, i < a.puts.length → ii (a.puts.getD i aK) (b.puts.getD i aK) = true) : eM a b = true := by
 unfold eM; simp only [h1, h2, h3, h4, decide_true, Bool.true_and, ce]; rw [← h4]; exact h5
theorem mL {a b : Ps} (h : ¬a.regs = b.regs) : cf a b = false := Bool.eq_false_iff.2 (fun e => h (by rw [cx.1 e]))
theorem mM {a b : Ps} (h : ¬a.mems.length = b.mems.length) : cf a b = false := Bool.eq_false_iff.2 (fun e => h (by rw [cx.1 e]))
theorem mN {a b : Ps} {i : Nat} (h : ¬a.mems.getD i [] = b.mems.getD i []) : cf a b = false := Bool.eq_false_iff.2 (fun e => h (by rw [cx.1 e]))
theorem mO {a b : Ps} (h1 : a.regs = b.regs) (h2 : a.mems = b.mems) : cf a b = true := cx.2 (by cases a; cases b; simp_all)
theorem bS {α : Type} {f : Nat → α} {x : α} {enc : α → List V} {i : Nat} (h : i < 137438953472) (hx : x = f i) : (ao f i).length + ([x].map enc).length ≤ 137438953472 ∧ (ao f i).map enc ++ [x].map enc = (ao f (i + 1)).map enc := by
 subst hx; exact i3 h
section
variable {c : Sc} {p : Pr} {s : Ps} {hs : List Hd} {rs : List Bool} {d : List Int} {i : Nat}
theorem H4 (ho : tL c p s d) {e : Ex} {v : Int} (ht : gi c e = some v) (h1 : ¬e.op = 16) (h2 : ¬e.op = 17) (h3 : ¬e.op = 18) : jd e.op (d9 p s d e.args) e.k.n e.w.n = true ∧ A2 (d9 p s d e.args) (gf p s d e.args) = true := by
 obtain ⟨ws, hws, hc⟩ := je ht
 obtain ⟨hl, hget⟩ := mJ hws
 have hargs : ∀ i, i < e.args.length → (br p s d (e.args.getD i dE)).2 = ws.getD i 0 ∧ eF (br p s d (e.args.getD i dE)).1 (ws.getD i 0) ∧ aA (ws.getD i 0) = true := fun i hi => HL ho _ _ _ (Nat.le_refl _) (hget i hi)
 obtain ⟨q1, q2, q3, q4⟩ := Ek (c := c) hl hargs
 have e1 : d9 p s d e.args = ws := by rw [← q1, d9, List.map_map]; rfl
 have e2 : gf p s d e.args = (e.args.map (br p s d)).map (·.1) := by rw [gf, List.map_map]; rfl
 rw [e1, e2]
 rcases hc with ⟨h, _⟩ | ⟨h, _⟩ | ⟨h, _⟩ | ⟨_, _, _, h, _⟩
 ·exact absurd h h1
 ·exact absurd h h3
 ·exact absurd h h2
 ·exact ⟨h, q3⟩
theorem JP (h1 : eT p s (kz p) (nN p i).when = true) (h2 : (hs.getD i aK).has = true) : nU p s hs i = (hs.getD i aK).v := if_pos ⟨h1, h2⟩
theorem ED (h1 : ¬eT p s (kz p) (nN p i).when = true) : nU p s hs i = (kz p).getD i 0 := by rw [wz]; exact if_neg (fun h => h1 h.1)
theorem EE (h1 : ¬(hs.getD i aK).has = true) : nU p s hs i = (kz p).getD i 0 := by rw [wz]; exact if_neg (fun h => h1 h.2)
theorem zI (h : eT p s d (mK p i).enable = true) : (s.mems.getD i []).set (Int.tmod (br p s d (mK p i).addr).1 (mK p i).words).toNat (br p s d (mK p i).data).1 = s9 p s d i := (if_pos h).symm
theorem EF (h : ¬eT p s d (mK p i).enable = true) : s.mems.getD i [] = s9 p s d i := (if_neg h).symm
theorem EG (hp : iA p) (hs : rb p s) (hd : A9 p d) (hi : i < p.mems.length) : 0 ≤ Int.tmod (br p s d (mK p i).addr).1 (mK p i).words ∧ Int.tmod (br p s d (mK p i).addr).1 (mK p i).words < (s.mems.getD i []).length ∧ (mK p i).words ≠ 0 := by
 have h := hp.mw i hi
 obtain ⟨v, hv⟩ := h.2.2.2.1.1
 have h0 := (zE (jf hp hs hd) hv h.2.2.2.1.2).2.1.1
 have hm := hs.mn i hi
 rw [hm]
 exact ⟨Int.tmod_nonneg _ h0, Int.tmod_lt_of_pos _ (by omega), by omega⟩
theorem oI {b : Bool} (h : b = eo (jK p s hs) i) (x : Bool) (hx : x = (b && jK p s hs i)) : x = eo (jK p s hs) (i + 1) := by rw [hx, h]; rfl
theorem tP {a b : Bool} (h : b = (a && eo (lY p s hs rs) i)) (x : Bool) (hx : x = (b && lY p s hs rs i)) : x = (a && eo (lY p s hs rs) (i + 1)) := by rw [hx, h, eo, Bool.and_assoc]
end
end Go.Proofs.YtifoecfajmnjjaaGreat
