/-
  Circuits, plain data: what the package's own loops compute.
-/
import Derived.Test.YtnlmlkbaflmgcaaQPrS
import Derived.Test.YtnlmlkbaflmgcaaQNeC
namespace Go.Proofs.Ytnlmlkbaflmgcaa
open Go.RowKit
set_option linter.unusedVariables false
set_option linter.unusedSimpArgs false
def dh (a b : Ps) : Bool := decide (a.regs = b.regs) && decide (a.mems = b.mems)
theorem ig {a b : Ps} : dh a b = true ↔ a = b := by
 cases a; cases b; simp [dh]
theorem de {α : Type} {a b : List α} {d : α} {k : Nat} (hl : a.length = b.length) (hk : ¬k < a.length) (h : ∀ j, j < k → a.getD j d = b.getD j d) : a = b :=
 kE (d := d) hl (fun i hi => h i (by omega))
theorem jN {a b : Ps} (h : ¬a.regs = b.regs) : dh a b = false := Bool.eq_false_iff.2 (fun e => h (by rw [ig.1 e]))
theorem jO {a b : Ps} (h : ¬a.mems.length = b.mems.length) : dh a b = false := Bool.eq_false_iff.2 (fun e => h (by rw [ig.1 e]))
theorem jP {a b : Ps} {i : Nat} (h : ¬a.mems.getD i [] = b.mems.getD i []) : dh a b = false := Bool.eq_false_iff.2 (fun e => h (by rw [ig.1 e]))
theorem jQ {a b : Ps} (h1 : a.regs = b.regs) (h2 : a.mems = b.mems) : dh a b = true := ig.2 (by cases a; cases b; simp_all)
theorem aX {α : Type} {f : Nat → α} {x : α} {enc : α → List V} {i : Nat} (h : i < 137438953472) (hx : x = f i) : (tab f i).length + ([x].map enc).length ≤ 137438953472 ∧ (tab f i).map enc ++ [x].map enc = (tab f (i + 1)).map enc := by
 subst hx; exact og h
section
variable {c : Sc} {p : Pr} {s : Ps} {hs : List Hd} {rs : List Bool} {d : List Int} {i : Nat}
theorem Dw (ho : sU c p s d) {e : Ex} {v : Int} (ht : dt c e = some v) (h1 : ¬e.op = 16) (h2 : ¬e.op = 17) (h3 : ¬e.op = 18) : iB e.op (fc p s d e.args) e.k.n e.w.n = true ∧ Be (fc p s d e.args) (iC p s d e.args) = true := by
 obtain ⟨ws, hws, hc⟩ := fa ht
 obtain ⟨hl, hget⟩ := jI hws
 have hargs : ∀ i, i < e.args.length → (bv p s d (e.args.getD i dE)).2 = ws.getD i 0 ∧ cE (bv p s d (e.args.getD i dE)).1 (ws.getD i 0) ∧ aI (ws.getD i 0) = true := fun i hi => C0 ho _ _ _ (Nat.le_refl _) (hget i hi)
 obtain ⟨q1, q2, q3, q4⟩ := zG (c := c) hl hargs
 have e1 : fc p s d e.args = ws := by rw [← q1, fc, List.map_map]; rfl
 have e2 : iC p s d e.args = (e.args.map (bv p s d)).map (·.1) := by rw [iC, List.map_map]; rfl
 rw [e1, e2]
 rcases hc with ⟨h, _⟩ | ⟨h, _⟩ | ⟨h, _⟩ | ⟨_, _, _, h, _⟩
 ·exact absurd h h1
 ·exact absurd h h3
 ·exact absurd h h2
 ·exact ⟨h, q3⟩
theorem FN (h1 : eO p s (mi p) (lY p i).when = true) (h2 : (hs.getD i cz).has = true) : Bn p s hs i = (hs.getD i cz).v := if_pos ⟨h1, h2⟩
theorem z4 (h1 : ¬eO p s (mi p) (lY p i).when = true) : Bn p s hs i = (mi p).getD i 0 := by rw [Dl]; exact if_neg (fun h => h1 h.1)
theorem z5 (h1 : ¬(hs.getD i cz).has = true) : Bn p s hs i = (mi p).getD i 0 := by rw [Dl]; exact if_neg (fun h => h1 h.2)
theorem Dx (h : eO p s d (hJ p i).enable = true) : (s.mems.getD i []).set (Int.tmod (bv p s d (hJ p i).addr).1 (hJ p i).words).toNat (bv p s d (hJ p i).data).1 = xK p s d i := (if_pos h).symm
theorem GQ (h : ¬eO p s d (hJ p i).enable = true) : s.mems.getD i [] = xK p s d i := (if_neg h).symm
theorem FO (hp : ga p) (hs : mS p s) (hd : Bp p d) (hi : i < p.mems.length) : 0 ≤ Int.tmod (bv p s d (hJ p i).addr).1 (hJ p i).words ∧ Int.tmod (bv p s d (hJ p i).addr).1 (hJ p i).words < (s.mems.getD i []).length ∧ (hJ p i).words ≠ 0 := by
 have h := hp.mw i hi
 obtain ⟨v, hv⟩ := h.2.2.2.1.1
 have h0 := (vi (hX hp hs hd) hv h.2.2.2.1.2).2.1.1
 have hm := hs.mn i hi
 rw [hm]
 exact ⟨Int.tmod_nonneg _ h0, Int.tmod_lt_of_pos _ (by omega), by omega⟩
theorem yy {b : Bool} (h : b = cF (rN p s hs) i) (x : Bool) (hx : x = (b && rN p s hs i)) : x = cF (rN p s hs) (i + 1) := by rw [hx, h]; rfl
theorem yz {a b : Bool} (h : b = (a && cF (rO p s hs rs) i)) (x : Bool) (hx : x = (b && rO p s hs rs i)) : x = (a && cF (rO p s hs rs) (i + 1)) := by rw [hx, h, cF, Bool.and_assoc]
end
def cb (f : Nat → Bool) : Nat → Int
 | 0 => -1
 | n + 1 => if cF (fun i => !f i) n = true then (if f n = true then n else -1) else cb f n
theorem cC {f : Nat → Bool} {i : Nat} (hf : f i = true) (h : ∀ z, z < i → f z = false) : ∀ {n : Nat}, i < n → cb f n = i
 | 0, h0 => absurd h0 (Nat.not_lt_zero _)
 | n + 1, h0 => by
  rw [cb]
  by_cases e : i = n
  ·subst e
   rw [if_pos (bi.2 (fun z hz => by rw [h z hz]; rfl)), if_pos hf]
  ·rw [if_neg (by rw [dP (show i < n by omega) (by simp [hf])]; simp), cC hf h (by omega)]
theorem dT {f : Nat → Bool} : ∀ {n : Nat}, (∀ z, z < n → f z = false) → cb f n = -1
 | 0, _ => rfl
 | n + 1, h => by
  rw [cb, if_pos (bi.2 (fun z hz => by rw [h z (by omega)]; rfl)), if_neg (by rw [h n (by omega)]; simp)]
theorem ii {f : Nat → Bool} : ∀ {n : Nat}, decide (0 ≤ cb f n) = !(cF (fun i => !f i) n)
 | 0 => rfl
 | n + 1 => by
  rw [cb]
  split
  ·rename_i h1
   rw [cF, h1]
   split
   ·rename_i h2; simp [h2]
   ·rename_i h2; simp [h2]
  ·rename_i h1
   rw [ii, cF]
   simp only [Bool.not_eq_true] at h1
   rw [h1]; rfl
def vy (l : List Int) (w : Int) : Int := cb (fun i => !ef (l.getD i 0) w) l.length
theorem Bw {l : List Int} {w : Int} : (!decide (0 ≤ vy l w)) = eJ l w := by
 unfold vy eJ
 rw [ii, Bool.not_not]
 exact congrArg (cF · _) (funext fun i => by rw [Bool.not_not])
section
variable {c : Ci} {s : Ns}
theorem mY (h : ¬s.procs.length = c.procs.length) : bN c s = false := by unfold bN; rw [decide_eq_false h]; rfl
theorem mZ (h : ¬s.chans.length = c.chans.length) : bN c s = false := by unfold bN; rw [decide_eq_false h, Bool.and_false]; rfl
theorem m4 {i : Nat} (hi : i < c.procs.length) (h : bw (bx c i) (yu s i) = false) : bN c s = false := by unfold bN; rw [dP hi h, Bool.and_false]; rfl
theorem fk {n : Nat} (hn : n < c.chans.length) (h : hY c s n = false) : bN c s = false := by unfold bN; rw [dP hn h, Bool.and_false]
theorem m5 (h1 : s.procs.length = c.procs.length) (h2 : s.chans.length = c.chans.length) (h3 : ∀ i, i < c.procs.length → bw (bx c i) (yu s i) = true) (h4 : ∀ n, n < c.chans.length → hY c s n = true) : bN c s = true := by
 unfold bN
 rw [decide_eq_true h1, decide_eq_true h2, bi.2 h3, bi.2 h4]; rfl
end
theorem ij {c : Ci} {s : Ns} {n : Nat} (h : ¬eJ (jJ s n) (eI c n).w = true) : hY c s n = false := by
 simp only [Bool.not_eq_true] at h
 unfold hY; rw [h, Bool.false_and]
theorem ik {c : Ci} {s : Ns} {n : Nat} (h0 : 0 ≤ (eI c n).frm) (h1 : 0 ≤ (eI c n).dst) (h : ¬((jJ s n).length : Int) ≤ (eI c n).cap) : hY c s n = false := by
 unfold hY; rw [decide_eq_true h0, decide_eq_true h1, decide_eq_false h]; simp
theorem yA {c : Ci} {s : Ns} {n : Nat} (h : eJ (jJ s n) (eI c n).w = true) (h0 : ¬0 ≤ (eI c n).frm) : hY c s n = true := by
 unfold hY; rw [h, decide_eq_false h0]; rfl
theorem yB {c : Ci} {s : Ns} {n : Nat} (h : eJ (jJ s n) (eI c n).w = true) (h0 : ¬0 ≤ (eI c n).dst) : hY c s n = true := by
 unfold hY; rw [h, decide_eq_false h0, Bool.and_false]; rfl
theorem yC {c : Ci} {s : Ns} {n : Nat} (h : eJ (jJ s n) (eI c n).w = true) (h0 : ((jJ s n).length : Int) ≤ (eI c n).cap) : hY c s n = true := by
 unfold hY; rw [h, decide_eq_true h0, Bool.or_true]; rfl
def dC (c : Ci) : Ns := ⟨tab (fun i => bp (bx c i)) c.procs.length, List.replicate c.chans.length []⟩
theorem Dy {c : Ci} {s : Ns} {p m : Nat} (h : (eI c (qx (bx c p) m)).dst = -1) : fS c s p m = true := by unfold fS; rw [decide_eq_true h]; rfl
theorem vz {c : Ci} {s : Ns} {p m : Nat} (h : ¬(eI c (qx (bx c p) m)).dst = -1) : fS c s p m = decide (((jJ s (qx (bx c p) m)).length : Int) < (eI c (qx (bx c p) m)).cap) := by unfold fS; rw [decide_eq_false h]; rfl
def pX (s : Ns) (k : Nat) : Prop := ∀ n, (jJ s n).length ≤ k
end Go.Proofs.Ytnlmlkbaflmgcaa
