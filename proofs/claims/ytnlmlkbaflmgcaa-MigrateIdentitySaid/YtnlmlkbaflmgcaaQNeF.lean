/-
  Circuits, plain data: what the package's own loops compute.
-/
import Derived.Test.YtnlmlkbaflmgcaaQPrS
import Derived.Test.YtnlmlkbaflmgcaaQNeC
namespace Go.Proofs.Ytnlmlkbaflmgcaa
open Go.RowKit
set_option linter.unusedVariables false
set_option linter.unusedSimpArgs false
def de (a b : Ps) : Bool := decide (a.regs = b.regs) && decide (a.mems = b.mems)
theorem ik {a b : Ps} : de a b = true ↔ a = b := by
 cases a; cases b; simp [de]
theorem db {α : Type} {a b : List α} {d : α} {k : Nat} (hl : a.length = b.length) (hk : ¬k < a.length) (h : ∀ j, j < k → a.getD j d = b.getD j d) : a = b :=
 kP (d := d) hl (fun i hi => h i (by omega))
theorem jN {a b : Ps} (h : ¬a.regs = b.regs) : de a b = false := Bool.eq_false_iff.2 (fun e => h (by rw [ik.1 e]))
theorem jO {a b : Ps} (h : ¬a.mems.length = b.mems.length) : de a b = false := Bool.eq_false_iff.2 (fun e => h (by rw [ik.1 e]))
theorem jP {a b : Ps} {i : Nat} (h : ¬a.mems.getD i [] = b.mems.getD i []) : de a b = false := Bool.eq_false_iff.2 (fun e => h (by rw [ik.1 e]))
theorem jQ {a b : Ps} (h1 : a.regs = b.regs) (h2 : a.mems = b.mems) : de a b = true := ik.2 (by cases a; cases b; simp_all)
theorem aV {α : Type} {f : Nat → α} {x : α} {enc : α → List V} {i : Nat} (h : i < 137438953472) (hx : x = f i) : (tab f i).length + ([x].map enc).length ≤ 137438953472 ∧ (tab f i).map enc ++ [x].map enc = (tab f (i + 1)).map enc := by
 subst hx; exact ou h
section
variable {c : Sc} {p : Pr} {s : Ps} {hs : List Hd} {rs : List Bool} {d : List Int} {i : Nat}
theorem DS (ho : tc c p s d) {e : Ex} {v : Int} (ht : dp c e = some v) (h1 : ¬e.op = 16) (h2 : ¬e.op = 17) (h3 : ¬e.op = 18) : iC e.op (fh p s d e.args) e.k.n e.w.n = true ∧ BC (fh p s d e.args) (iE p s d e.args) = true := by
 obtain ⟨ws, hws, hc⟩ := fg ht
 obtain ⟨hl, hget⟩ := jJ hws
 have hargs : ∀ i, i < e.args.length → (bw p s d (e.args.getD i dE)).2 = ws.getD i 0 ∧ cg (bw p s d (e.args.getD i dE)).1 (ws.getD i 0) ∧ aI (ws.getD i 0) = true := fun i hi => Dn ho _ _ _ (Nat.le_refl _) (hget i hi)
 obtain ⟨q1, q2, q3, q4⟩ := z7 (c := c) hl hargs
 have e1 : fh p s d e.args = ws := by rw [← q1, fh, List.map_map]; rfl
 have e2 : iE p s d e.args = (e.args.map (bw p s d)).map (·.1) := by rw [iE, List.map_map]; rfl
 rw [e1, e2]
 rcases hc with ⟨h, _⟩ | ⟨h, _⟩ | ⟨h, _⟩ | ⟨_, _, _, h, _⟩
 ·exact absurd h h1
 ·exact absurd h h3
 ·exact absurd h h2
 ·exact ⟨h, q3⟩
theorem FY (h1 : eT p s (mI p) (mi p i).when = true) (h2 : (hs.getD i cC).has = true) : BL p s hs i = (hs.getD i cC).v := if_pos ⟨h1, h2⟩
theorem Aw (h1 : ¬eT p s (mI p) (mi p i).when = true) : BL p s hs i = (mI p).getD i 0 := by rw [DH]; exact if_neg (fun h => h1 h.1)
theorem Ax (h1 : ¬(hs.getD i cC).has = true) : BL p s hs i = (mI p).getD i 0 := by rw [DH]; exact if_neg (fun h => h1 h.2)
theorem DT (h : eT p s d (dK p i).enable = true) : (s.mems.getD i []).set (Int.tmod (bw p s d (dK p i).addr).1 (dK p i).words).toNat (bw p s d (dK p i).data).1 = xY p s d i := (if_pos h).symm
theorem He (h : ¬eT p s d (dK p i).enable = true) : s.mems.getD i [] = xY p s d i := (if_neg h).symm
theorem FZ (hp : gi p) (hs : kQ p s) (hd : BN p d) (hi : i < p.mems.length) : 0 ≤ Int.tmod (bw p s d (dK p i).addr).1 (dK p i).words ∧ Int.tmod (bw p s d (dK p i).addr).1 (dK p i).words < (s.mems.getD i []).length ∧ (dK p i).words ≠ 0 := by
 have h := hp.mw i hi
 obtain ⟨v, hv⟩ := h.2.2.2.1.1
 have h0 := (vB (ia hp hs hd) hv h.2.2.2.1.2).2.1.1
 have hm := hs.mn i hi
 rw [hm]
 exact ⟨Int.tmod_nonneg _ h0, Int.tmod_lt_of_pos _ (by omega), by omega⟩
theorem yN {b : Bool} (h : b = b4 (sa p s hs) i) (x : Bool) (hx : x = (b && sa p s hs i)) : x = b4 (sa p s hs) (i + 1) := by rw [hx, h]; rfl
theorem yO {a b : Bool} (h : b = (a && b4 (sd p s hs rs) i)) (x : Bool) (hx : x = (b && sd p s hs rs i)) : x = (a && b4 (sd p s hs rs) (i + 1)) := by rw [hx, h, b4, Bool.and_assoc]
end
def cu (f : Nat → Bool) : Nat → Int
 | 0 => -1
 | n + 1 => if b4 (fun i => !f i) n = true then (if f n = true then n else -1) else cu f n
theorem dD {f : Nat → Bool} {i : Nat} (hf : f i = true) (h : ∀ z, z < i → f z = false) : ∀ {n : Nat}, i < n → cu f n = i
 | 0, h0 => absurd h0 (Nat.not_lt_zero _)
 | n + 1, h0 => by
  rw [cu]
  by_cases e : i = n
  ·subst e
   rw [if_pos (aR.2 (fun z hz => by rw [h z hz]; rfl)), if_pos hf]
  ·rw [if_neg (by rw [dq (show i < n by omega) (by simp [hf])]; simp), dD hf h (by omega)]
theorem fI {f : Nat → Bool} : ∀ {n : Nat}, (∀ z, z < n → f z = false) → cu f n = -1
 | 0, _ => rfl
 | n + 1, h => by
  rw [cu, if_pos (aR.2 (fun z hz => by rw [h z (by omega)]; rfl)), if_neg (by rw [h n (by omega)]; simp)]
theorem jR {f : Nat → Bool} : ∀ {n : Nat}, decide (0 ≤ cu f n) = !(b4 (fun i => !f i) n)
 | 0 => rfl
 | n + 1 => by
  rw [cu]
  split
  ·rename_i h1
   rw [b4, h1]
   split
   ·rename_i h2; simp [h2]
   ·rename_i h2; simp [h2]
  ·rename_i h1
   rw [jR, b4]
   simp only [Bool.not_eq_true] at h1
   rw [h1]; rfl
section
variable {c : Ci} {s : Ns}
theorem pG (h : ¬s.procs.length = c.procs.length) : bX c s = false := by unfold bX; rw [decide_eq_false h]; rfl
theorem pH (h : ¬s.chans.length = c.chans.length) : bX c s = false := by unfold bX; rw [decide_eq_false h, Bool.and_false]; rfl
theorem pI {i : Nat} (hi : i < c.procs.length) (h : bx (aZ c i) (xZ s i) = false) : bX c s = false := by unfold bX; rw [dq hi h, Bool.and_false]; rfl
theorem gj {n : Nat} (hn : n < c.chans.length) (h : ib c s n = false) : bX c s = false := by unfold bX; rw [dq hn h, Bool.and_false]
theorem pJ (h1 : s.procs.length = c.procs.length) (h2 : s.chans.length = c.chans.length) (h3 : ∀ i, i < c.procs.length → bx (aZ c i) (xZ s i) = true) (h4 : ∀ n, n < c.chans.length → ib c s n = true) : bX c s = true := by
 unfold bX
 rw [decide_eq_true h1, decide_eq_true h2, aR.2 h3, aR.2 h4]; rfl
end
theorem jl {c : Ci} {s : Ns} {n : Nat} (h : ¬fk (jL s n) (d9 c n).w = true) : ib c s n = false := by
 simp only [Bool.not_eq_true] at h
 unfold ib; rw [h, Bool.false_and]
theorem jm {c : Ci} {s : Ns} {n : Nat} (h0 : 0 ≤ (d9 c n).frm) (h1 : 0 ≤ (d9 c n).dst) (h : ¬((jL s n).length : Int) ≤ (d9 c n).cap) : ib c s n = false := by
 unfold ib; rw [decide_eq_true h0, decide_eq_true h1, decide_eq_false h]; simp
theorem yP {c : Ci} {s : Ns} {n : Nat} (h : fk (jL s n) (d9 c n).w = true) (h0 : ¬0 ≤ (d9 c n).frm) : ib c s n = true := by
 unfold ib; rw [h, decide_eq_false h0]; rfl
theorem yQ {c : Ci} {s : Ns} {n : Nat} (h : fk (jL s n) (d9 c n).w = true) (h0 : ¬0 ≤ (d9 c n).dst) : ib c s n = true := by
 unfold ib; rw [h, decide_eq_false h0, Bool.and_false]; rfl
theorem yR {c : Ci} {s : Ns} {n : Nat} (h : fk (jL s n) (d9 c n).w = true) (h0 : ((jL s n).length : Int) ≤ (d9 c n).cap) : ib c s n = true := by
 unfold ib; rw [h, decide_eq_true h0, Bool.or_true]; rfl
def dF (c : Ci) : Ns := ⟨tab (fun i => bq (aZ c i)) c.procs.length, List.replicate c.chans.length []⟩
theorem DU {c : Ci} {s : Ns} {p m : Nat} (h : (d9 c (qI (aZ c p) m)).dst = -1) : fY c s p m = true := by unfold fY; rw [decide_eq_true h]; rfl
theorem vM {c : Ci} {s : Ns} {p m : Nat} (h : ¬(d9 c (qI (aZ c p) m)).dst = -1) : fY c s p m = decide (((jL s (qI (aZ c p) m)).length : Int) < (d9 c (qI (aZ c p) m)).cap) := by unfold fY; rw [decide_eq_false h]; rfl
def qq (s : Ns) (k : Nat) : Prop := ∀ n, (jL s n).length ≤ k
end Go.Proofs.Ytnlmlkbaflmgcaa
