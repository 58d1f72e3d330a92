/-
  Circuits, plain data: what the package's own loops compute.
-/
import Derived.Test.YtnlmlkbaflmgcaaQPrS
import Derived.Test.YtnlmlkbaflmgcaaQNeC
namespace Go.Proofs.Ytnlmlkbaflmgcaa
open Go.RowKit
set_option linter.unusedVariables false
set_option linter.unusedSimpArgs false
def dj (a b : Ps) : Bool := decide (a.regs = b.regs) && decide (a.mems = b.mems)
theorem iv {a b : Ps} : dj a b = true ↔ a = b := by
 cases a; cases b; simp [dj]
theorem dh {α : Type} {a b : List α} {d : α} {k : Nat} (hl : a.length = b.length) (hk : ¬k < a.length) (h : ∀ j, j < k → a.getD j d = b.getD j d) : a = b :=
 kU (d := d) hl (fun i hi => h i (by omega))
theorem jZ {a b : Ps} (h : ¬a.regs = b.regs) : dj a b = false := Bool.eq_false_iff.2 (fun e => h (by rw [iv.1 e]))
theorem j4 {a b : Ps} (h : ¬a.mems.length = b.mems.length) : dj a b = false := Bool.eq_false_iff.2 (fun e => h (by rw [iv.1 e]))
theorem j5 {a b : Ps} {i : Nat} (h : ¬a.mems.getD i [] = b.mems.getD i []) : dj a b = false := Bool.eq_false_iff.2 (fun e => h (by rw [iv.1 e]))
theorem j6 {a b : Ps} (h1 : a.regs = b.regs) (h2 : a.mems = b.mems) : dj a b = true := iv.2 (by cases a; cases b; simp_all)
theorem aJ {α : Type} {f : Nat → α} {x : α} {enc : α → List V} {i : Nat} (h : i < 137438953472) (hx : x = f i) : (tab f i).length + ([x].map enc).length ≤ 137438953472 ∧ (tab f i).map enc ++ [x].map enc = (tab f (i + 1)).map enc := by
 subst hx; exact oz h
section
variable {c : Sc} {p : Pr} {s : Ps} {hs : List Hd} {rs : List Bool} {d : List Int} {i : Nat}
theorem DF (ho : s4 c p s d) {e : Ex} {v : Int} (ht : dA c e = some v) (h1 : ¬e.op = 16) (h2 : ¬e.op = 17) (h3 : ¬e.op = 18) : iP e.op (fv p s d e.args) e.k.n e.w.n = true ∧ Bn (fv p s d e.args) (iQ p s d e.args) = true := by
 obtain ⟨ws, hws, hc⟩ := fu ht
 obtain ⟨hl, hget⟩ := jV hws
 have hargs : ∀ i, i < e.args.length → (bx p s d (e.args.getD i dE)).2 = ws.getD i 0 ∧ dG (bx p s d (e.args.getD i dE)).1 (ws.getD i 0) ∧ aI (ws.getD i 0) = true := fun i hi => Dc ho _ _ _ (Nat.le_refl _) (hget i hi)
 obtain ⟨q1, q2, q3, q4⟩ := zL (c := c) hl hargs
 have e1 : fv p s d e.args = ws := by rw [← q1, fv, List.map_map]; rfl
 have e2 : iQ p s d e.args = (e.args.map (bx p s d)).map (·.1) := by rw [iQ, List.map_map]; rfl
 rw [e1, e2]
 rcases hc with ⟨h, _⟩ | ⟨h, _⟩ | ⟨h, _⟩ | ⟨_, _, _, h, _⟩
 ·exact absurd h h1
 ·exact absurd h h3
 ·exact absurd h h2
 ·exact ⟨h, q3⟩
theorem FS (h1 : fa p s (mN p) (mu p i).when = true) (h2 : (hs.getD i cG).has = true) : Bw p s hs i = (hs.getD i cG).v := if_pos ⟨h1, h2⟩
theorem Aa (h1 : ¬fa p s (mN p) (mu p i).when = true) : Bw p s hs i = (mN p).getD i 0 := by rw [Dv]; exact if_neg (fun h => h1 h.1)
theorem Ab (h1 : ¬(hs.getD i cG).has = true) : Bw p s hs i = (mN p).getD i 0 := by rw [Dv]; exact if_neg (fun h => h1 h.2)
theorem DG (h : fa p s d (jX p i).enable = true) : (s.mems.getD i []).set (Int.tmod (bx p s d (jX p i).addr).1 (jX p i).words).toNat (bx p s d (jX p i).data).1 = xM p s d i := (if_pos h).symm
theorem G2 (h : ¬fa p s d (jX p i).enable = true) : s.mems.getD i [] = xM p s d i := (if_neg h).symm
theorem FT (hp : im p) (hs : pA p s) (hd : Bz p d) (hi : i < p.mems.length) : 0 ≤ Int.tmod (bx p s d (jX p i).addr).1 (jX p i).words ∧ Int.tmod (bx p s d (jX p i).addr).1 (jX p i).words < (s.mems.getD i []).length ∧ (jX p i).words ≠ 0 := by
 have h := hp.mw i hi
 obtain ⟨v, hv⟩ := h.2.2.2.1.1
 have h0 := (vk (io hp hs hd) hv h.2.2.2.1.2).2.1.1
 have hm := hs.mn i hi
 rw [hm]
 exact ⟨Int.tmod_nonneg _ h0, Int.tmod_lt_of_pos _ (by omega), by omega⟩
theorem yA {b : Bool} (h : b = cJ (rV p s hs) i) (x : Bool) (hx : x = (b && rV p s hs i)) : x = cJ (rV p s hs) (i + 1) := by rw [hx, h]; rfl
theorem yB {a b : Bool} (h : b = (a && cJ (rX p s hs rs) i)) (x : Bool) (hx : x = (b && rX p s hs rs i)) : x = (a && cJ (rX p s hs rs) (i + 1)) := by rw [hx, h, cJ, Bool.and_assoc]
end
def af (f : Nat → Bool) : Nat → Int
 | 0 => -1
 | n + 1 => if cJ (fun i => !f i) n = true then (if f n = true then n else -1) else af f n
theorem bq {f : Nat → Bool} {i : Nat} (hf : f i = true) (h : ∀ z, z < i → f z = false) : ∀ {n : Nat}, i < n → af f n = i
 | 0, h0 => absurd h0 (Nat.not_lt_zero _)
 | n + 1, h0 => by
  rw [af]
  by_cases e : i = n
  ·subst e
   rw [if_pos (bh.2 (fun z hz => by rw [h z hz]; rfl)), if_pos hf]
  ·rw [if_neg (by rw [dC (show i < n by omega) (by simp [hf])]; simp), bq hf h (by omega)]
theorem bO {f : Nat → Bool} : ∀ {n : Nat}, (∀ z, z < n → f z = false) → af f n = -1
 | 0, _ => rfl
 | n + 1, h => by
  rw [af, if_pos (bh.2 (fun z hz => by rw [h z (by omega)]; rfl)), if_neg (by rw [h n (by omega)]; simp)]
theorem j7 {f : Nat → Bool} : ∀ {n : Nat}, decide (0 ≤ af f n) = !(cJ (fun i => !f i) n)
 | 0 => rfl
 | n + 1 => by
  rw [af]
  split
  ·rename_i h1
   rw [cJ, h1]
   split
   ·rename_i h2; simp [h2]
   ·rename_i h2; simp [h2]
  ·rename_i h1
   rw [j7, cJ]
   simp only [Bool.not_eq_true] at h1
   rw [h1]; rfl
theorem bz {f : Nat → Bool} : ∀ {n : Nat}, af f n < n
 | 0 => by simp [af]
 | n + 1 => by
  rw [af]
  have := bz (f := f) (n := n)
  split
  ·split <;> omega
  ·omega
def dQ (c : Ci) : Ns := ⟨tab (fun i => bo (bD c i)) c.procs.length, List.replicate c.chans.length []⟩
theorem DH {c : Ci} {s : Ns} {p m : Nat} (h : (i3 c (qF (bD c p) m)).dst = -1) : gm c s p m = true := by unfold gm; rw [decide_eq_true h]; rfl
theorem vA {c : Ci} {s : Ns} {p m : Nat} (h : ¬(i3 c (qF (bD c p) m)).dst = -1) : gm c s p m = decide (((oq s (qF (bD c p) m)).length : Int) < (i3 c (qF (bD c p) m)).cap) := by unfold gm; rw [decide_eq_false h]; rfl
def sQ (s : Ns) (k : Nat) : Prop := ∀ n, (oq s n).length ≤ k
end Go.Proofs.Ytnlmlkbaflmgcaa
