/-
  Circuits, plain data: what the reference's loops compute.
-/
import Derived.Test.YtnlmlkbaflmgcaaQNeF
namespace Go.Proofs.Ytnlmlkbaflmgcaa
open Go.RowKit
set_option linter.unusedVariables false
set_option linter.unusedSimpArgs false
def s8 (k : Int) (q : Nat) : Bool := decide ((q : Int) = k)
section
variable {c : Ci} {s : Ns} {w : Nat → Bool} {i k : Nat}
theorem JO (h : (!w i) = true) : bp c s w i = false := by
 unfold bp; cases hw : w i
 ·rfl
 ·rw [hw] at h; cases h
theorem Ig (h : wR c s i = false) : bp c s w i = false := by unfold bp; rw [h, Bool.and_false]
theorem Ih (h : (!w i) = false) (h2 : wR c s i = true) : bp c s w i = true := by
 unfold bp; cases hw : w i
 ·rw [hw] at h; cases h
 ·rw [h2]; rfl
theorem G8 (h : bp c s w i = false) : E4 s i = cS c s w i := by unfold cS; rw [if_neg (by rw [h]; simp)]
theorem Ii (h : bp c s w i = true) : (aA c s i).s = cS c s w i := by unfold cS; rw [if_pos h]
theorem Az (h : bp c s w i = false) : pB c s w (i + 1) = pB c s w i := by rw [pB, if_neg (by rw [h]; simp), List.append_nil]
theorem Ed (h : bp c s w i = true) : pB c s w (i + 1) = pB c s w i ++ sO (bD c i) (aA c s i) (bD c i).takes.length := by rw [pB, if_pos h]
theorem AA (h : bp c s w i = false) : nj c s w (i + 1) = nj c s w i := by rw [nj, if_neg (by rw [h]; simp), List.append_nil]
theorem Ee (h : bp c s w i = true) : nj c s w (i + 1) = nj c s w i ++ sP (bD c i) (aA c s i) (bD c i).puts.length := by rw [nj, if_pos h]
theorem Ij {p : Pr} {f : Fi} (h : f.pops.getD k false = false) : sO p f (k + 1) = sO p f k := by rw [sO, if_neg (by rw [h]; simp), List.append_nil]
theorem F7 {p : Pr} {f : Fi} (h : f.pops.getD k false = true) : sO p f (k + 1) = sO p f k ++ [t1 p k] := by rw [sO, if_pos h]
theorem Ik {p : Pr} {f : Fi} (h : (f.puts.getD k cG).has = false) : sP p f (k + 1) = sP p f k := by rw [sP, if_neg (by rw [h]; simp), List.append_nil]
theorem F8 {p : Pr} {f : Fi} (h : (f.puts.getD k cG).has = true) : sP p f (k + 1) = sP p f k ++ [(qF p k, (f.puts.getD k cG).v)] := by rw [sP, if_pos h]
end
theorem Ef (p : Nat) : s8 (p : Int) = DE p := funext fun q => by
 unfold s8 DE
 by_cases h : q = p
 ·rw [decide_eq_true h, decide_eq_true (by omega)]
 ·rw [decide_eq_false h, decide_eq_false (by omega)]
theorem Eg {c : Ci} {s : Ns} {w : Nat → Bool} (hc : b5 c) {k : Nat} (h : sQ s k) : sQ (cK c s w) (k + 1) := by
 intro n
 by_cases hn : n < c.chans.length
 ·rw [oA c s w hn]
  unfold it
  rw [List.length_append, List.length_drop]
  have h1 : (oq s n).length ≤ k := h n
  have h2 : (gG c s w n).length ≤ 1 := by
   unfold gG; split
   ·exact r7 hc n
   ·simp
  omega
 ·have : oq (cK c s w) n = [] := by show (tab _ _).getD n [] = []; exact qE (by omega)
  rw [this]; simp
theorem se {c : Ci} {s : Ns} {p : Int} (h : ¬0 ≤ p) : iq c s p = false := by unfold iq; rw [decide_eq_false h]; rfl
theorem sf {c : Ci} {s : Ns} {p : Int} (h : ¬p < c.procs.length) : iq c s p = false := by unfold iq; rw [decide_eq_false h, Bool.false_and, Bool.and_false]
theorem qK {c : Ci} {s : Ns} {p : Int} (h : 0 ≤ p) (h2 : p < c.procs.length) : iq c s p = (aA c s p.toNat).fires := by unfold iq; rw [decide_eq_true h, decide_eq_true h2]; rfl
theorem Il {c : Ci} {s : Ns} {p : Nat} (h : p < c.procs.length) : iq c s (p : Int) = wR c s p := by
 rw [qK (by omega) (by omega)]; rfl
def G9 (a : Ns) : Prop := a.procs.length ≤ 1000000 ∧ a.chans.length ≤ 1000000 ∧ (∀ n, (a.chans.getD n []).length ≤ 1099511627776) ∧ (∀ i, (a.procs.getD i aX).regs.length ≤ 1000000) ∧ (∀ i, (a.procs.getD i aX).mems.length ≤ 1000000) ∧ ∀ i j, ((a.procs.getD i aX).mems.getD j []).length ≤ 1000000
theorem Im : G9 L2 := by
 refine ⟨by simp, by simp, fun n => by simp, fun i => by simp, fun i => by simp, fun i j => by simp⟩
def cy (a b : Ns) : Bool := decide (a.procs.length = b.procs.length) && decide (a.chans.length = b.chans.length) && cJ (fun i => dj (a.procs.getD i aX) (b.procs.getD i aX)) a.procs.length && decide (a.chans = b.chans)
section
variable {a b : Ns}
theorem iC (h : ¬a.procs.length = b.procs.length) : cy a b = false := by unfold cy; rw [decide_eq_false h]; rfl
theorem iE (h : ¬a.chans.length = b.chans.length) : cy a b = false := by unfold cy; rw [decide_eq_false h, Bool.and_false]; rfl
theorem iG {i : Nat} (hi : i < a.procs.length) (h : dj (a.procs.getD i aX) (b.procs.getD i aX) = false) : cy a b = false := by unfold cy; rw [dC hi h, Bool.and_false]; rfl
theorem iH {n : Nat} (h : ¬a.chans.getD n [] = b.chans.getD n []) : cy a b = false := by
 unfold cy; rw [decide_eq_false (show ¬a.chans = b.chans from fun e => h (by rw [e])), Bool.and_false]
theorem iI (h1 : a.procs.length = b.procs.length) (h2 : a.chans.length = b.chans.length) (h3 : ∀ i, i < a.procs.length → dj (a.procs.getD i aX) (b.procs.getD i aX) = true) (h4 : ∀ n, n < a.chans.length → a.chans.getD n [] = b.chans.getD n []) : cy a b = true := by
 unfold cy; rw [decide_eq_true h1, decide_eq_true h2, bh.2 h3, decide_eq_true (kU h2 h4)]; rfl
end
theorem xd (a : Ps) : dj a a = true := by simp [dj]
theorem yN {a b : Ns} : cy a b = true ↔ a = b := by
 constructor
 ·intro h
  unfold cy at h
  simp only [Bool.and_eq_true, decide_eq_true_eq, bh] at h
  obtain ⟨⟨⟨h1, h2⟩, h3⟩, h4⟩ := h
  have : a.procs = b.procs := kU h1 (fun i hi => by have := h3 i hi; exact iv.1 this)
  cases a; cases b; simp_all
 ·rintro rfl
  unfold cy
  simp only [Bool.and_eq_true, decide_eq_true_eq, bh]
  exact ⟨⟨⟨trivial, trivial⟩, fun i hi => xd _⟩, trivial⟩
def gK (s : Ns) (n : Nat) (l : List Int) : Ns := ⟨s.procs, s.chans.set n l⟩
def wB (l : List Bool) (q : Nat) : Bool := l.getD q false
def JP : Option Int → V
 | none => .nsl
 | some v => .sl 1 (aa .i64) 0 [v]
def Eh (o : Option Int) : List V := [JP o]
def s9 : Option Int → List Int
 | none => []
 | some v => [v]
theorem Io (o : Option Int) : (s9 o).length ≤ 1 := by cases o <;> simp [s9]
theorem JQ (o : Option Int) : B9 (JP o) (.sl 1 (aa .i64) 0 (s9 o)) := by
 cases o
 ·exact rfl
 ·simp [JP, s9, B9]
section
variable {c : Ci} {s : Ns} {w : Nat → Bool} {i k : Nat}
theorem xe (l : List Int) (a b : List Nat) : cO (cO l a) b = cO l (a ++ b) := by simp [cO, List.foldl_append]
theorem qc (l : List (Option Int)) (a b : List (Nat × Int)) : cB (cB l a) b = cB l (a ++ b) := by simp [cB, List.foldl_append]
theorem oD (ev : List (Nat × Int)) : ∀ (l : List (Option Int)) (n : Nat), (∀ e ∈ ev, e.1 ≠ n) → (cB l ev).getD n none = l.getD n none := by
 induction ev with
 | nil => intro l n h; rfl
 | cons e r ih =>
  intro l n h
  show (cB (l.set e.1 _) r).getD n none = _
  rw [ih _ n (fun e' he' => h e' (List.mem_cons_of_mem _ he'))]
  have := h e (List.mem_cons_self ..)
  simp [List.getD, List.getElem?_set, this]
theorem xf (ev : List (Nat × Int)) : ∀ (l : List (Option Int)) (n : Nat), n < l.length → l.getD n none = none → ((ev.filter (fun e => e.1 == n)).map (·.2)).length ≤ 1 → s9 ((cB l ev).getD n none) = (ev.filter (fun e => e.1 == n)).map (·.2) := by
 induction ev with
 | nil => intro l n hn h0 h; show s9 (l.getD n none) = _; rw [h0]; rfl
 | cons e r ih =>
  intro l n hn h0 h
  show s9 ((cB (l.set e.1 (some e.2)) r).getD n none) = _
  by_cases he : e.1 = n
  ·have hf : (e :: r).filter (fun e => e.1 == n) = e :: r.filter (fun e => e.1 == n) := by simp [he]
   rw [hf, List.map_cons] at h ⊢
   have hr : r.filter (fun e => e.1 == n) = [] := by
    simp only [List.length_cons, List.length_map] at h
    exact List.eq_nil_of_length_eq_zero (by omega)
   rw [hr, oD]
   ·subst he
    simp [List.getD, hn, s9]
   ·intro e' he' h1
    have : e' ∈ r.filter (fun e => e.1 == n) := by rw [List.mem_filter]; exact ⟨he', by simp [h1]⟩
    rw [hr] at this; cases this
  ·have hf : (e :: r).filter (fun e => e.1 == n) = r.filter (fun e => e.1 == n) := by simp [he]
   rw [hf] at h ⊢
   refine ih _ n (by simpa using hn) ?_ h
   have : (l.set e.1 (some e.2)).getD n none = l.getD n none := by simp [List.getD, List.getElem?_set, he]
   rw [this]; exact h0
theorem BO (hc : b5 c) (n : Nat) : (gG c s w n).length ≤ 1 := by
 unfold gG; split
 ·exact r7 hc n
 ·simp
theorem xg {e : Nat × Int} : ∀ {P : Nat}, e ∈ nj c s w P → ∃ p, p < P ∧ e ∈ sP (bD c p) (aA c s p) (bD c p).puts.length
 | 0, h => by cases h
 | P + 1, h => by
  rw [nj, List.mem_append] at h
  rcases h with h | h
  ·obtain ⟨p, h1, h2⟩ := xg h; exact ⟨p, by omega, h2⟩
  ·split at h
   ·exact ⟨P, by omega, h⟩
   ·cases h
theorem BP (hc : b5 c) (hi : i < c.procs.length) (hk : k < (bD c i).puts.length) {f : Fi} {m : Nat} : (cB (List.replicate m none) (nj c s w i ++ sP (bD c i) f k)).getD (qF (bD c i) k) none = none := by
 rw [oD _ _ _ (fun e he h => ?_)]
 ·exact cC
 ·rcases List.mem_append.1 he with he | he
  ·obtain ⟨p, h1, h3⟩ := xg he
   have h4 := (zS hc (show p < c.procs.length by omega) (Nat.le_refl _) h3).2
   rw [h] at h4
   have h5 := (hc.pt i hi k hk).2.2.2
   have h6 : ((p : Nat) : Int) = (i : Int) := h4.symm.trans h5
   omega
  ·obtain ⟨j, h1, _, h3, _⟩ := ot he
   have := hc.pd i hi j k (by omega) hk (h3.trans h)
   omega
theorem AB (hc : b5 c) {n : Nat} (hn : n < c.chans.length) : (cO (List.replicate c.chans.length 0) (pB c s w c.procs.length)).getD n 0 = (ir c s w n : Nat) := by
 rw [wS _ _ _ (by simpa using hn), cC]
 have h1 := rZ (w := w) (s := s) hc n (Nat.le_refl _)
 rw [FL hc] at h1
 split
 ·rename_i hm
  have := List.count_pos_iff.2 hm
  unfold ir at h1 ⊢
  split at h1
  ·rename_i hh; rw [if_pos hh]; rfl
  ·omega
 ·rename_i hm
  rw [List.count_eq_zero.2 hm] at h1
  rw [← h1]; rfl
theorem F9 (n : Nat) : ir c s w n ≤ (oq s n).length := by
 unfold ir; split
 ·rename_i h
  exact BD (t9 h.1).2 h.2
 ·omega
theorem Ga (hc : b5 c) {n : Nat} (hn : n < c.chans.length) :
  (oq s n).drop ((cO (List.replicate c.chans.length 0) (pB c s w c.procs.length)).getD n 0).toNat ++ s9 ((cB (List.replicate c.chans.length none) (nj c s w c.procs.length)).getD n none) = it c s w n := by
 rw [AB hc hn, Int.toNat_natCast, xf]
 ·rw [r6 hc n (Nat.le_refl _), zT]; rfl
 ·simpa using hn
 ·exact cC
 ·rw [r6 hc n (Nat.le_refl _), zT]; exact BO hc n
theorem JR {l : List Bool} (h : ¬l.getD i false = true) : bp c s (wB l) i = false := JO (by show (!l.getD i false) = true; simpa using h)
theorem Ip {l : List Bool} (h : (!(aA c s i).fires) = true) : bp c s (wB l) i = false := Ig (by show (aA c s i).fires = false; simpa using h)
theorem Iq {l : List Bool} (h : l.getD i false = true) (h2 : (!(aA c s i).fires) = false) : bp c s (wB l) i = true := Ih (by show (!l.getD i false) = false; rw [h]; rfl) (by show (aA c s i).fires = true; simpa using h2)
theorem Ei {n p : Nat} (h : p < n) : wB ((List.replicate n false).set p true) = s8 (p : Int) := funext fun q => by
 rw [Ef]; unfold wB DE
 rw [fP (by simpa using h), cC]
 by_cases e : p = q
 ·rw [if_pos e, decide_eq_true e.symm]
 ·rw [if_neg e, decide_eq_false (fun h => e h.symm)]
theorem AC (hs : gC c s) {p : Int} (h : iq c s p = false) : cK c s (s8 p) = s := DD hs (fun q hq => by
 unfold bp s8
 by_cases e : (q : Int) = p
 ·subst e
  rw [Il hq] at h
  rw [h, Bool.and_false]
 ·rw [decide_eq_false e, Bool.false_and])
end
theorem Gb {c : Ci} {s : Ns} {p : Int} (h : iq c s p = true) : 0 ≤ p ∧ p < c.procs.length := by
 unfold iq at h
 simp only [Bool.and_eq_true, decide_eq_true_eq] at h
 exact ⟨h.1, h.2.1⟩
end Go.Proofs.Ytnlmlkbaflmgcaa
