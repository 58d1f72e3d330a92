/-
  Circuits, plain data: what the reference's loops compute.
-/
import Derived.Test.YtgmpoenfoacofaaGreatQNeH
namespace Go.Proofs.YtgmpoenfoacofaaGreat
open Go.RowKit
set_option linter.unusedVariables false
set_option linter.unusedSimpArgs false
theorem xw {v w : Int} (h : v < 0) : ga v w = false := by unfold ga; rw [decide_eq_false (by omega)]; rfl
theorem xx {v w : Int} (h : v > ah w) : ga v w = false := by unfold ga; rw [decide_eq_false (show ¬v ≤ ah w by omega), Bool.and_false]
theorem GS {v w : Int} (h : ¬v < 0) (h2 : ¬v > ah w) : ga v w = true := by unfold ga; rw [decide_eq_true (show v ≤ ah w by omega), decide_eq_true (show 0 ≤ v by omega)]; rfl
theorem l5 {l : List Int} {w : Int} {i : Nat} (hi : i < l.length) (h : ga (l.getD i 0) w = false) : fN l w = false := lN (f := fun i => ga (l.getD i 0) w) hi h
theorem t1 {l : List Int} {w : Int} (h : ∀ i, i < l.length → ga (l.getD i 0) w = true) : fN l w = true := cF.2 h
def BP (a : Ns) : Prop := a.procs.length ≤ 1000000 ∧ a.chans.length ≤ 1000000 ∧ (∀ n, (a.chans.getD n []).length ≤ 1099511627776) ∧ (∀ i, (a.procs.getD i a7).regs.length ≤ 1000000) ∧ (∀ i, (a.procs.getD i a7).mems.length ≤ 1000000) ∧ ∀ i j, ((a.procs.getD i a7).mems.getD j []).length ≤ 1000000
theorem Am {c : Ci} {s : Ns} (hc : bC c) (hs : b8 c s) (hm : gw s 4294967296) : BP s := by
 have hp : ∀ i, (s.procs.getD i a7).regs.length ≤ 100 ∧ (s.procs.getD i a7).mems.length ≤ 100 ∧ ∀ j, ((s.procs.getD i a7).mems.getD j []).length ≤ 4 := by
  intro i
  by_cases hi : i < c.procs.length
  ·have h1 := hs.pv i hi
   have h2 := hc.pr i hi
   refine ⟨by rw [h1.rl]; exact h2.rl, by rw [h1.ml]; exact h2.ml, fun j => ?_⟩
   by_cases hj : j < (bK c i).mems.length
   ·have h3 := h1.mn j hj
    have h4 := (h2.mw j hj).2.1
    have h5 : (((s.procs.getD i a7).mems.getD j []).length : Int) = (mN (bK c i) j).words := h3
    omega
   ·have h6 := h1.ml
    rw [show (s.procs.getD i a7).mems.getD j [] = [] from by
     rw [List.getD, List.getElem?_eq_none (by show (FZ s i).mems.length ≤ j; omega)]; rfl]
    simp
  ·rw [show s.procs.getD i a7 = a7 from by rw [List.getD, List.getElem?_eq_none (by rw [hs.pl]; omega)]; rfl]
   simp
 have h1 := hc.nl
 have h2 := hc.cl
 refine ⟨by rw [hs.pl]; omega, by rw [hs.cl]; omega, fun n => Nat.le_trans (hm n) (by omega), fun i => Nat.le_trans (hp i).1 (by omega), fun i => Nat.le_trans (hp i).2.1 (by omega), fun i j => Nat.le_trans ((hp i).2.2 j) (by omega)⟩
theorem qH : BP CQ := by
 refine ⟨by simp, by simp, fun n => by simp, fun i => by simp, fun i => by simp, fun i j => by simp⟩
def bP (a b : Ns) : Bool := decide (a.procs.length = b.procs.length) && decide (a.chans.length = b.chans.length) && cJ (fun i => dq (a.procs.getD i a7) (b.procs.getD i a7)) a.procs.length && decide (a.chans = b.chans)
section
variable {a b : Ns}
theorem ia (h : ¬a.procs.length = b.procs.length) : bP a b = false := by unfold bP; rw [decide_eq_false h]; rfl
theorem ib (h : ¬a.chans.length = b.chans.length) : bP a b = false := by unfold bP; rw [decide_eq_false h, Bool.and_false]; rfl
theorem ic {i : Nat} (hi : i < a.procs.length) (h : dq (a.procs.getD i a7) (b.procs.getD i a7) = false) : bP a b = false := by unfold bP; rw [lN hi h, Bool.and_false]; rfl
theorem ie {n : Nat} (h : ¬a.chans.getD n [] = b.chans.getD n []) : bP a b = false := by
 unfold bP; rw [decide_eq_false (show ¬a.chans = b.chans from fun e => h (by rw [e])), Bool.and_false]
theorem ig (h1 : a.procs.length = b.procs.length) (h2 : a.chans.length = b.chans.length) (h3 : ∀ i, i < a.procs.length → dq (a.procs.getD i a7) (b.procs.getD i a7) = true) (h4 : ∀ n, n < a.chans.length → a.chans.getD n [] = b.chans.getD n []) : bP a b = true := by
 unfold bP; rw [decide_eq_true h1, decide_eq_true h2, cF.2 h3, decide_eq_true (jj h2 h4)]; rfl
end
theorem yS (a : Ps) : dq a a = true := by simp [dq]
theorem t4 {a b : Ns} : bP a b = true ↔ a = b := by
 constructor
 ·intro h
  unfold bP at h
  simp only [Bool.and_eq_true, decide_eq_true_eq, cF] at h
  obtain ⟨⟨⟨h1, h2⟩, h3⟩, h4⟩ := h
  have : a.procs = b.procs := jj h1 (fun i hi => by have := h3 i hi; exact hE.1 this)
  cases a; cases b; simp_all
 ·rintro rfl
  unfold bP
  simp only [Bool.and_eq_true, decide_eq_true_eq, cF]
  exact ⟨⟨⟨trivial, trivial⟩, fun i hi => yS _⟩, trivial⟩
def ec (s : Ns) (n : Nat) (l : List Int) : Ns := ⟨s.procs, s.chans.set n l⟩
theorem gJ {c : Ci} {s : Ns} {n : Int} {ws : List Int} (h : fP (·.frm) c n = true) (h2 : fN ws (gG c n.toNat).w = true) : aA c s n ws = (ec s n.toNat (kr s n.toNat ++ ws), 0) := pg h h2
theorem li {f : Ch → Int} {c : Ci} {n : Int} (h : ¬f (gG c n.toNat) = -1) : fP f c n = false := by unfold fP; rw [decide_eq_false h, Bool.and_false, Bool.and_false]
theorem lj {f : Ch → Int} {c : Ci} {n : Int} (h1 : 0 ≤ n) (h2 : n < c.chans.length) (h : f (gG c n.toNat) = -1) : fP f c n = true := by unfold fP; rw [decide_eq_true h1, decide_eq_true h2, decide_eq_true h]; rfl
theorem df {c : Ci} {s : Ns} {n : Int} {ws : List Int} (h : fP (·.frm) c n = false) : aA c s n ws = (CQ, 1) := kZ (by rw [h]; simp)
def wB (l : List Bool) (q : Nat) : Bool := l.getD q false
def JU : Option Int → V
 | none => .nsl
 | some v => .sl 1 (ae .i64) 0 [v]
def Fm (o : Option Int) : List V := [JU o]
def uR : Option Int → List Int
 | none => []
 | some v => [v]
theorem IB (o : Option Int) : (uR o).length ≤ 1 := by cases o <;> simp [uR]
theorem JV (o : Option Int) : DD (JU o) (.sl 1 (ae .i64) 0 (uR o)) := by
 cases o
 ·exact rfl
 ·simp [JU, uR, DD]
section
variable {c : Ci} {s : Ns} {w : Nat → Bool} {i k : Nat}
theorem yT (l : List Int) (a b : List Nat) : cM (cM l a) b = cM l (a ++ b) := by simp [cM, List.foldl_append]
theorem ry (l : List (Option Int)) (a b : List (Nat × Int)) : cG (cG l a) b = cG l (a ++ b) := by simp [cG, List.foldl_append]
theorem pA (ev : List (Nat × Int)) : ∀ (l : List (Option Int)) (n : Nat), (∀ e ∈ ev, e.1 ≠ n) → (cG l ev).getD n none = l.getD n none := by
 induction ev with
 | nil => intro l n h; rfl
 | cons e r ih =>
  intro l n h
  show (cG (l.set e.1 _) r).getD n none = _
  rw [ih _ n (fun e' he' => h e' (List.mem_cons_of_mem _ he'))]
  have := h e (List.mem_cons_self ..)
  simp [List.getD, List.getElem?_set, this]
theorem yU (ev : List (Nat × Int)) : ∀ (l : List (Option Int)) (n : Nat), n < l.length → l.getD n none = none → ((ev.filter (fun e => e.1 == n)).map (·.2)).length ≤ 1 → uR ((cG l ev).getD n none) = (ev.filter (fun e => e.1 == n)).map (·.2) := by
 induction ev with
 | nil => intro l n hn h0 h; show uR (l.getD n none) = _; rw [h0]; rfl
 | cons e r ih =>
  intro l n hn h0 h
  show uR ((cG (l.set e.1 (some e.2)) r).getD n none) = _
  by_cases he : e.1 = n
  ·have hf : (e :: r).filter (fun e => e.1 == n) = e :: r.filter (fun e => e.1 == n) := by simp [he]
   rw [hf, List.map_cons] at h ⊢
   have hr : r.filter (fun e => e.1 == n) = [] := by
    simp only [List.length_cons, List.length_map] at h
    exact List.eq_nil_of_length_eq_zero (by omega)
   rw [hr, pA]
   ·subst he
    simp [List.getD, hn, uR]
   ·intro e' he' h1
    have : e' ∈ r.filter (fun e => e.1 == n) := by rw [List.mem_filter]; exact ⟨he', by simp [h1]⟩
    rw [hr] at this; cases this
  ·have hf : (e :: r).filter (fun e => e.1 == n) = r.filter (fun e => e.1 == n) := by simp [he]
   rw [hf] at h ⊢
   refine ih _ n (by simpa using hn) ?_ h
   have : (l.set e.1 (some e.2)).getD n none = l.getD n none := by simp [List.getD, List.getElem?_set, he]
   rw [this]; exact h0
theorem Dc (hc : bC c) (n : Nat) : (eY c s w n).length ≤ 1 := by
 unfold eY; split
 ·exact tI hc n
 ·simp
theorem yV {e : Nat × Int} : ∀ {P : Nat}, e ∈ i2 c s w P → ∃ p, p < P ∧ e ∈ np (bK c p) (ab c s p) (bK c p).puts.length
 | 0, h => by cases h
 | P + 1, h => by
  rw [i2, List.mem_append] at h
  rcases h with h | h
  ·obtain ⟨p, h1, h2⟩ := yV h; exact ⟨p, by omega, h2⟩
  ·split at h
   ·exact ⟨P, by omega, h⟩
   ·cases h
theorem Dd (hc : bC c) (hi : i < c.procs.length) (hk : k < (bK c i).puts.length) {f : Fi} {m : Nat} : (cG (List.replicate m none) (i2 c s w i ++ np (bK c i) f k)).getD (vQ (bK c i) k) none = none := by
 rw [pA _ _ _ (fun e he h => ?_)]
 ·exact b7
 ·rcases List.mem_append.1 he with he | he
  ·obtain ⟨p, h1, h3⟩ := yV he
   have h4 := (Bv hc (show p < c.procs.length by omega) (Nat.le_refl _) h3).2
   rw [h] at h4
   have h5 := (hc.pt i hi k hk).2.2.2
   have h6 : ((p : Nat) : Int) = (i : Int) := h4.symm.trans h5
   omega
  ·obtain ⟨j, h1, _, h3, _⟩ := o9 he
   have := hc.pd i hi j k (by omega) hk (h3.trans h)
   omega
theorem BQ (hc : bC c) {n : Nat} (hn : n < c.chans.length) : (cM (List.replicate c.chans.length 0) (fO c s w c.procs.length)).getD n 0 = (fe c s w n : Nat) := by
 rw [yF _ _ _ (by simpa using hn), b7]
 have h1 := nq (w := w) (s := s) hc n (Nat.le_refl _)
 rw [Bw hc] at h1
 split
 ·rename_i hm
  have := List.count_pos_iff.2 hm
  unfold fe at h1 ⊢
  split at h1
  ·rename_i hh; rw [if_pos hh]; rfl
  ·omega
 ·rename_i hm
  rw [List.count_eq_zero.2 hm] at h1
  rw [← h1]; rfl
theorem GT (n : Nat) : fe c s w n ≤ (kr s n).length := by
 unfold fe; split
 ·rename_i h
  exact CT (vU h.1).2 h.2
 ·omega
theorem GU (hc : bC c) {n : Nat} (hn : n < c.chans.length) :
  (kr s n).drop ((cM (List.replicate c.chans.length 0) (fO c s w c.procs.length)).getD n 0).toNat ++ uR ((cG (List.replicate c.chans.length none) (i2 c s w c.procs.length)).getD n none) = e7 c s w n := by
 rw [BQ hc hn, Int.toNat_natCast, yU]
 ·rw [pb hc n (Nat.le_refl _), xj]; rfl
 ·simpa using hn
 ·exact b7
 ·rw [pb hc n (Nat.le_refl _), xj]; exact Dc hc n
theorem JW {l : List Bool} (h : ¬l.getD i false = true) : aM c s (wB l) i = false := HD (by show (!l.getD i false) = true; simpa using h)
theorem IC {l : List Bool} (h : (!(ab c s i).fires) = true) : aM c s (wB l) i = false := EW (by show (ab c s i).fires = false; simpa using h)
theorem IE {l : List Bool} (h : l.getD i false = true) (h2 : (!(ab c s i).fires) = false) : aM c s (wB l) i = true := EX (by show (!l.getD i false) = false; rw [h]; rfl) (by show (ab c s i).fires = true; simpa using h2)
theorem IG (f : Nat → Bool) (n : Nat) : wB (tab f n) = upto f n := funext fun q => by
 unfold wB upto
 by_cases h : q < n
 ·rw [bp h, decide_eq_true h, Bool.and_true]
 ·rw [Bk (by omega), decide_eq_false h, Bool.and_false]
theorem GV (hs : b8 c s) (f : Nat → Bool) : bj c s (wB (tab f c.procs.length)) = bj c s f := by rw [IG]; exact (GB hs).symm
theorem An (f : Nat → Bool) : tab (aM c s (wB (tab f c.procs.length))) c.procs.length = tab (aM c s f) c.procs.length := qy (fun i hi => by
 unfold aM wB; rw [bp hi])
theorem Fo {n p : Nat} (h : p < n) : wB ((List.replicate n false).set p true) = uP (p : Int) := funext fun q => by
 rw [E5]; unfold wB ER
 rw [cb (by simpa using h), b7]
 by_cases e : p = q
 ·rw [if_pos e, decide_eq_true e.symm]
 ·rw [if_neg e, decide_eq_false (fun h => e h.symm)]
theorem BR (hs : b8 c s) {p : Int} (h : hJ c s p = false) : bj c s (uP p) = s := EP hs (fun q hq => by
 unfold aM uP
 by_cases e : (q : Int) = p
 ·subst e
  rw [Iu hq] at h
  rw [h, Bool.and_false]
 ·rw [decide_eq_false e, Bool.false_and])
end
theorem GW {c : Ci} {s : Ns} {p : Int} (h : hJ c s p = true) : 0 ≤ p ∧ p < c.procs.length := by
 unfold hJ at h
 simp only [Bool.and_eq_true, decide_eq_true_eq] at h
 exact ⟨h.1, h.2.1⟩
end Go.Proofs.YtgmpoenfoacofaaGreat
