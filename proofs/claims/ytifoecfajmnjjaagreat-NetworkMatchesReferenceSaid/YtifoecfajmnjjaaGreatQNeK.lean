/-
  Circuits, plain data: what the reference's loops compute.
-/
import Derived.Test.YtifoecfajmnjjaaGreatQNeH
namespace Go.Proofs.YtifoecfajmnjjaaGreat
open Go.RowKit
set_option linter.unusedVariables false
set_option linter.unusedSimpArgs false
theorem wS {v w : Int} (h : v < 0) : cj v w = false := by unfold cj; rw [decide_eq_false (by omega)]; rfl
theorem wT {v w : Int} (h : v > aj w) : cj v w = false := by unfold cj; rw [decide_eq_false (show ¬v ≤ aj w by omega), Bool.and_false]
theorem Gg {v w : Int} (h : ¬v < 0) (h2 : ¬v > aj w) : cj v w = true := by unfold cj; rw [decide_eq_true (show v ≤ aj w by omega), decide_eq_true (show 0 ≤ v by omega)]; rfl
theorem mJ {l : List Int} {w : Int} {i : Nat} (hi : i < l.length) (h : cj (l.getD i 0) w = false) : b6 l w = false := f6 (f := fun i => cj (l.getD i 0) w) hi h
theorem tE {l : List Int} {w : Int} (h : ∀ i, i < l.length → cj (l.getD i 0) w = true) : b6 l w = true := bQ.2 h
def CT (a : Ns) : Prop := a.procs.length ≤ 1000000 ∧ a.chans.length ≤ 1000000 ∧ (∀ n, (a.chans.getD n []).length ≤ 1099511627776) ∧ (∀ i, (a.procs.getD i a7).regs.length ≤ 1000000) ∧ (∀ i, (a.procs.getD i a7).mems.length ≤ 1000000) ∧ ∀ i j, ((a.procs.getD i a7).mems.getD j []).length ≤ 1000000
theorem kB {c : Ci} {s : Ns} (hc : bK c) (hs : bX c s) (hm : fD s 4294967296) : CT s := by
 have hp : ∀ i, (s.procs.getD i a7).regs.length ≤ 100 ∧ (s.procs.getD i a7).mems.length ≤ 100 ∧ ∀ j, ((s.procs.getD i a7).mems.getD j []).length ≤ 4 := by
  intro i
  by_cases hi : i < c.procs.length
  ·have h1 := hs.pv i hi
   have h2 := hc.pr i hi
   refine ⟨by rw [h1.rl]; exact h2.rl, by rw [h1.ml]; exact h2.ml, fun j => ?_⟩
   by_cases hj : j < (bR c i).mems.length
   ·have h3 := h1.mn j hj
    have h4 := (h2.mw j hj).2.1
    have h5 : (((s.procs.getD i a7).mems.getD j []).length : Int) = (kT (bR c i) j).words := h3
    omega
   ·have h6 := h1.ml
    rw [show (s.procs.getD i a7).mems.getD j [] = [] from by
     rw [List.getD, List.getElem?_eq_none (by show (zL s i).mems.length ≤ j; omega)]; rfl]
    simp
  ·rw [show s.procs.getD i a7 = a7 from by rw [List.getD, List.getElem?_eq_none (by rw [hs.pl]; omega)]; rfl]
   simp
 have h1 := hc.nl
 have h2 := hc.cl
 refine ⟨by rw [hs.pl]; omega, by rw [hs.cl]; omega, fun n => Nat.le_trans (hm n) (by omega), fun i => Nat.le_trans (hp i).1 (by omega), fun i => Nat.le_trans (hp i).2.1 (by omega), fun i j => Nat.le_trans ((hp i).2.2 j) (by omega)⟩
theorem Af : CT GY := by
 refine ⟨by simp, by simp, fun n => by simp, fun i => by simp, fun i => by simp, fun i j => by simp⟩
def bO (a b : Ns) : Bool := decide (a.procs.length = b.procs.length) && decide (a.chans.length = b.chans.length) && dh (fun i => dR (a.procs.getD i a7) (b.procs.getD i a7)) a.procs.length && decide (a.chans = b.chans)
section
variable {a b : Ns}
theorem iH (h : ¬a.procs.length = b.procs.length) : bO a b = false := by unfold bO; rw [decide_eq_false h]; rfl
theorem iI (h : ¬a.chans.length = b.chans.length) : bO a b = false := by unfold bO; rw [decide_eq_false h, Bool.and_false]; rfl
theorem iJ {i : Nat} (hi : i < a.procs.length) (h : dR (a.procs.getD i a7) (b.procs.getD i a7) = false) : bO a b = false := by unfold bO; rw [f6 hi h, Bool.and_false]; rfl
theorem iK {n : Nat} (h : ¬a.chans.getD n [] = b.chans.getD n []) : bO a b = false := by
 unfold bO; rw [decide_eq_false (show ¬a.chans = b.chans from fun e => h (by rw [e])), Bool.and_false]
theorem iL (h1 : a.procs.length = b.procs.length) (h2 : a.chans.length = b.chans.length) (h3 : ∀ i, i < a.procs.length → dR (a.procs.getD i a7) (b.procs.getD i a7) = true) (h4 : ∀ n, n < a.chans.length → a.chans.getD n [] = b.chans.getD n []) : bO a b = true := by
 unfold bO; rw [decide_eq_true h1, decide_eq_true h2, bQ.2 h3, decide_eq_true (jy h2 h4)]; rfl
end
theorem yq (a : Ps) : dR a a = true := by simp [dR]
theorem cO {a b : Ns} : bO a b = true ↔ a = b := by
 constructor
 ·intro h
  unfold bO at h
  simp only [Bool.and_eq_true, decide_eq_true_eq, bQ] at h
  obtain ⟨⟨⟨h1, h2⟩, h3⟩, h4⟩ := h
  have : a.procs = b.procs := jy h1 (fun i hi => by have := h3 i hi; exact iv.1 this)
  cases a; cases b; simp_all
 ·rintro rfl
  unfold bO
  simp only [Bool.and_eq_true, decide_eq_true_eq, bQ]
  exact ⟨⟨⟨trivial, trivial⟩, fun i hi => yq _⟩, trivial⟩
def dp (s : Ns) (n : Nat) (l : List Int) : Ns := ⟨s.procs, s.chans.set n l⟩
theorem ib {c : Ci} {s : Ns} {n : Int} {ws : List Int} (h : dF (·.frm) c n = true) (h2 : b6 ws (fF c n.toNat).w = true) : ak c s n ws = (dp s n.toNat (iX s n.toNat ++ ws), 0) := pR h h2
theorem fx {f : Ch → Int} {c : Ci} {n : Int} (h : ¬f (fF c n.toNat) = -1) : dF f c n = false := by unfold dF; rw [decide_eq_false h, Bool.and_false, Bool.and_false]
theorem dm {f : Ch → Int} {c : Ci} {n : Int} (h1 : 0 ≤ n) (h2 : n < c.chans.length) (h : f (fF c n.toNat) = -1) : dF f c n = true := by unfold dF; rw [decide_eq_true h1, decide_eq_true h2, decide_eq_true h]; rfl
theorem dy {c : Ci} {s : Ns} {n : Int} {ws : List Int} (h : dF (·.frm) c n = false) : ak c s n ws = (GY, 1) := lR (by rw [h]; simp)
theorem dJ {c : Ci} {s : Ns} {n : Int} (h : dF (·.dst) c n = false) : aH c s n = ([], GY, 1) := pS (by rw [h]; simp)
def wB (l : List Bool) (q : Nat) : Bool := l.getD q false
def Jf : Option Int → V
 | none => .nsl
 | some v => .sl 1 (ah .i64) 0 [v]
def E1 (o : Option Int) : List V := [Jf o]
def ue : Option Int → List Int
 | none => []
 | some v => [v]
theorem HW (o : Option Int) : (ue o).length ≤ 1 := by cases o <;> simp [ue]
theorem Jg (o : Option Int) : Dr (Jf o) (.sl 1 (ah .i64) 0 (ue o)) := by
 cases o
 ·exact rfl
 ·simp [Jf, ue, Dr]
section
variable {c : Ci} {s : Ns} {w : Nat → Bool} {i k : Nat}
theorem yr (l : List Int) (a b : List Nat) : de (de l a) b = de l (a ++ b) := by simp [de, List.foldl_append]
theorem rF (l : List (Option Int)) (a b : List (Nat × Int)) : c8 (c8 l a) b = c8 l (a ++ b) := by simp [c8, List.foldl_append]
theorem pY (ev : List (Nat × Int)) : ∀ (l : List (Option Int)) (n : Nat), (∀ e ∈ ev, e.1 ≠ n) → (c8 l ev).getD n none = l.getD n none := by
 induction ev with
 | nil => intro l n h; rfl
 | cons e r ih =>
  intro l n h
  show (c8 (l.set e.1 _) r).getD n none = _
  rw [ih _ n (fun e' he' => h e' (List.mem_cons_of_mem _ he'))]
  have := h e (List.mem_cons_self ..)
  simp [List.getD, List.getElem?_set, this]
theorem yu (ev : List (Nat × Int)) : ∀ (l : List (Option Int)) (n : Nat), n < l.length → l.getD n none = none → ((ev.filter (fun e => e.1 == n)).map (·.2)).length ≤ 1 → ue ((c8 l ev).getD n none) = (ev.filter (fun e => e.1 == n)).map (·.2) := by
 induction ev with
 | nil => intro l n hn h0 h; show ue (l.getD n none) = _; rw [h0]; rfl
 | cons e r ih =>
  intro l n hn h0 h
  show ue ((c8 (l.set e.1 (some e.2)) r).getD n none) = _
  by_cases he : e.1 = n
  ·have hf : (e :: r).filter (fun e => e.1 == n) = e :: r.filter (fun e => e.1 == n) := by simp [he]
   rw [hf, List.map_cons] at h ⊢
   have hr : r.filter (fun e => e.1 == n) = [] := by
    simp only [List.length_cons, List.length_map] at h
    exact List.eq_nil_of_length_eq_zero (by omega)
   rw [hr, pY]
   ·subst he
    simp [List.getD, hn, ue]
   ·intro e' he' h1
    have : e' ∈ r.filter (fun e => e.1 == n) := by rw [List.mem_filter]; exact ⟨he', by simp [h1]⟩
    rw [hr] at this; cases this
  ·have hf : (e :: r).filter (fun e => e.1 == n) = r.filter (fun e => e.1 == n) := by simp [he]
   rw [hf] at h ⊢
   refine ih _ n (by simpa using hn) ?_ h
   have : (l.set e.1 (some e.2)).getD n none = l.getD n none := by simp [List.getD, List.getElem?_set, he]
   rw [this]; exact h0
theorem CU (hc : bK c) (n : Nat) : (fp c s w n).length ≤ 1 := by
 unfold fp; split
 ·exact tp hc n
 ·simp
theorem yv {e : Nat × Int} : ∀ {P : Nat}, e ∈ iY c s w P → ∃ p, p < P ∧ e ∈ lf (bR c p) (ab c s p) (bR c p).puts.length
 | 0, h => by cases h
 | P + 1, h => by
  rw [iY, List.mem_append] at h
  rcases h with h | h
  ·obtain ⟨p, h1, h2⟩ := yv h; exact ⟨p, by omega, h2⟩
  ·split at h
   ·exact ⟨P, by omega, h⟩
   ·cases h
theorem CV (hc : bK c) (hi : i < c.procs.length) (hk : k < (bR c i).puts.length) {f : Fi} {m : Nat} : (c8 (List.replicate m none) (iY c s w i ++ lf (bR c i) f k)).getD (u4 (bR c i) k) none = none := by
 rw [pY _ _ _ (fun e he h => ?_)]
 ·exact bM
 ·rcases List.mem_append.1 he with he | he
  ·obtain ⟨p, h1, h3⟩ := yv he
   have h4 := (Bp hc (show p < c.procs.length by omega) (Nat.le_refl _) h3).2
   rw [h] at h4
   have h5 := (hc.pt i hi k hk).2.2.2
   have h6 : ((p : Nat) : Int) = (i : Int) := h4.symm.trans h5
   omega
  ·obtain ⟨j, h1, _, h3, _⟩ := pK he
   have := hc.pd i hi j k (by omega) hk (h3.trans h)
   omega
theorem BB (hc : bK c) {n : Nat} (hn : n < c.chans.length) : (de (List.replicate c.chans.length 0) (eW c s w c.procs.length)).getD n 0 = (fG c s w n : Nat) := by
 rw [x9 _ _ _ (by simpa using hn), bM]
 have h1 := oe (w := w) (s := s) hc n (Nat.le_refl _)
 rw [Bq hc] at h1
 split
 ·rename_i hm
  have := List.count_pos_iff.2 hm
  unfold fG at h1 ⊢
  split at h1
  ·rename_i hh; rw [if_pos hh]; rfl
  ·omega
 ·rename_i hm
  rw [List.count_eq_zero.2 hm] at h1
  rw [← h1]; rfl
theorem Gh (n : Nat) : fG c s w n ≤ (iX s n).length := by
 unfold fG; split
 ·rename_i h
  exact Cx (u9 h.1).2 h.2
 ·omega
theorem Gi (hc : bK c) {n : Nat} (hn : n < c.chans.length) :
  (iX s n).drop ((de (List.replicate c.chans.length 0) (eW c s w c.procs.length)).getD n 0).toNat ++ ue ((c8 (List.replicate c.chans.length none) (iY c s w c.procs.length)).getD n none) = fq c s w n := by
 rw [BB hc hn, Int.toNat_natCast, yu]
 ·rw [pN hc n (Nat.le_refl _), wF]; rfl
 ·simpa using hn
 ·exact bM
 ·rw [pN hc n (Nat.le_refl _), wF]; exact CU hc n
theorem Jh {l : List Bool} (h : ¬l.getD i false = true) : ax c s (wB l) i = false := EN (by show (!l.getD i false) = true; simpa using h)
theorem HX {l : List Bool} (h : (!(ab c s i).fires) = true) : ax c s (wB l) i = false := zY (by show (ab c s i).fires = false; simpa using h)
theorem HY {l : List Bool} (h : l.getD i false = true) (h2 : (!(ab c s i).fires) = false) : ax c s (wB l) i = true := zZ (by show (!l.getD i false) = false; rw [h]; rfl) (by show (ab c s i).fires = true; simpa using h2)
theorem HZ (f : Nat → Bool) (n : Nat) : wB (aq f n) = kZ f n := funext fun q => by
 unfold wB kZ
 by_cases h : q < n
 ·rw [bq h, decide_eq_true h, Bool.and_true]
 ·rw [Bd (by omega), decide_eq_false h, Bool.and_false]
theorem Gj (hs : bX c s) (f : Nat → Bool) : aD c s (wB (aq f c.procs.length)) = aD c s f := by rw [HZ]; exact (pQ hs).symm
theorem Ag (f : Nat → Bool) : aq (ax c s (wB (aq f c.procs.length))) c.procs.length = aq (ax c s f) c.procs.length := mj (fun i hi => by
 unfold ax wB; rw [bq hi])
theorem E3 {n p : Nat} (h : p < n) : wB ((List.replicate n false).set p true) = cy (p : Int) := funext fun q => by
 rw [tu]; unfold wB vf
 rw [bV (by simpa using h), bM]
 by_cases e : p = q
 ·rw [if_pos e, decide_eq_true e.symm]
 ·rw [if_neg e, decide_eq_false (fun h => e h.symm)]
theorem BC (hs : bX c s) {p : Int} (h : cf c s p = false) : aD c s (cy p) = s := EH hs (fun q hq => by
 unfold ax cy
 by_cases e : (q : Int) = p
 ·subst e
  rw [qX hq] at h
  rw [h, Bool.and_false]
 ·rw [decide_eq_false e, Bool.false_and])
end
theorem Gk {c : Ci} {s : Ns} {p : Int} (h : cf c s p = true) : 0 ≤ p ∧ p < c.procs.length := by
 unfold cf at h
 simp only [Bool.and_eq_true, decide_eq_true_eq] at h
 exact ⟨h.1, h.2.1⟩
end Go.Proofs.YtifoecfajmnjjaaGreat
