/-
  Circuits, plain data: what the reference's loops compute.
-/
import Derived.Test.YtgmpoenfoacofaaGreatQNeH
namespace Go.Proofs.YtgmpoenfoacofaaGreat
open Go.RowKit
set_option linter.unusedVariables false
set_option linter.unusedSimpArgs false
theorem yP {v w : Int} (h : v < 0) : cT v w = false := by unfold cT; rw [decide_eq_false (by omega)]; rfl
theorem yQ {v w : Int} (h : v > ah w) : cT v w = false := by unfold cT; rw [decide_eq_false (show ¬v ≤ ah w by omega), Bool.and_false]
theorem IP {v w : Int} (h : ¬v < 0) (h2 : ¬v > ah w) : cT v w = true := by unfold cT; rw [decide_eq_true (show v ≤ ah w by omega), decide_eq_true (show 0 ≤ v by omega)]; rfl
theorem nh {l : List Int} {w : Int} {i : Nat} (hi : i < l.length) (h : cT (l.getD i 0) w = false) : cA l w = false := fx (f := fun i => cT (l.getD i 0) w) hi h
theorem vA {l : List Int} {w : Int} (h : ∀ i, i < l.length → cT (l.getD i 0) w = true) : cA l w = true := bi.2 h
def Dx (a : Ns) : Prop := a.procs.length ≤ 1000000 ∧ a.chans.length ≤ 1000000 ∧ (∀ n, (a.chans.getD n []).length ≤ 1099511627776) ∧ (∀ i, (a.procs.getD i ba).regs.length ≤ 1000000) ∧ (∀ i, (a.procs.getD i ba).mems.length ≤ 1000000) ∧ ∀ i j, ((a.procs.getD i ba).mems.getD j []).length ≤ 1000000
theorem BU {c : Ci} {s : Ns} (hc : bo c) (hs : bG c s) (hm : ga s 4294967296) : Dx s := by
 have hp : ∀ i, (s.procs.getD i ba).regs.length ≤ 100 ∧ (s.procs.getD i ba).mems.length ≤ 100 ∧ ∀ j, ((s.procs.getD i ba).mems.getD j []).length ≤ 4 := by
  intro i
  by_cases hi : i < c.procs.length
  ·have h1 := hs.pv i hi
   have h2 := hc.pr i hi
   refine ⟨by rw [h1.rl]; exact h2.rl, by rw [h1.ml]; exact h2.ml, fun j => ?_⟩
   by_cases hj : j < (bH c i).mems.length
   ·have h3 := h1.mn j hj
    have h4 := (h2.mw j hj).2.1
    have h5 : (((s.procs.getD i ba).mems.getD j []).length : Int) = (lA (bH c i) j).words := h3
    omega
   ·have h6 := h1.ml
    rw [show (s.procs.getD i ba).mems.getD j [] = [] from by
     rw [List.getD, List.getElem?_eq_none (by show (zg s i).mems.length ≤ j; omega)]; rfl]
    simp
  ·rw [show s.procs.getD i ba = ba from by rw [List.getD, List.getElem?_eq_none (by rw [hs.pl]; omega)]; rfl]
   simp
 have h1 := hc.nl
 have h2 := hc.cl
 refine ⟨by rw [hs.pl]; omega, by rw [hs.cl]; omega, fun n => Nat.le_trans (hm n) (by omega), fun i => Nat.le_trans (hp i).1 (by omega), fun i => Nat.le_trans (hp i).2.1 (by omega), fun i j => Nat.le_trans ((hp i).2.2 j) (by omega)⟩
theorem r9 : Dx EG := by
 refine ⟨by simp, by simp, fun n => by simp, fun i => by simp, fun i => by simp, fun i j => by simp⟩
def b5 (a b : Ns) : Bool := decide (a.procs.length = b.procs.length) && decide (a.chans.length = b.chans.length) && ct (fun i => dW (a.procs.getD i ba) (b.procs.getD i ba)) a.procs.length && decide (a.chans = b.chans)
section
variable {a b : Ns}
theorem iX (h : ¬a.procs.length = b.procs.length) : b5 a b = false := by unfold b5; rw [decide_eq_false h]; rfl
theorem iY (h : ¬a.chans.length = b.chans.length) : b5 a b = false := by unfold b5; rw [decide_eq_false h, Bool.and_false]; rfl
theorem iZ {i : Nat} (hi : i < a.procs.length) (h : dW (a.procs.getD i ba) (b.procs.getD i ba) = false) : b5 a b = false := by unfold b5; rw [fx hi h, Bool.and_false]; rfl
theorem i1 {n : Nat} (h : ¬a.chans.getD n [] = b.chans.getD n []) : b5 a b = false := by
 unfold b5; rw [decide_eq_false (show ¬a.chans = b.chans from fun e => h (by rw [e])), Bool.and_false]
theorem i2 (h1 : a.procs.length = b.procs.length) (h2 : a.chans.length = b.chans.length) (h3 : ∀ i, i < a.procs.length → dW (a.procs.getD i ba) (b.procs.getD i ba) = true) (h4 : ∀ n, n < a.chans.length → a.chans.getD n [] = b.chans.getD n []) : b5 a b = true := by
 unfold b5; rw [decide_eq_true h1, decide_eq_true h2, bi.2 h3, decide_eq_true (jX h2 h4)]; rfl
end
theorem Ao (a : Ps) : dW a a = true := by simp [dW]
theorem vB {a b : Ns} : b5 a b = true ↔ a = b := by
 constructor
 ·intro h
  unfold b5 at h
  simp only [Bool.and_eq_true, decide_eq_true_eq, bi] at h
  obtain ⟨⟨⟨h1, h2⟩, h3⟩, h4⟩ := h
  have : a.procs = b.procs := jX h1 (fun i hi => by have := h3 i hi; exact iO.1 this)
  cases a; cases b; simp_all
 ·rintro rfl
  unfold b5
  simp only [Bool.and_eq_true, decide_eq_true_eq, bi]
  exact ⟨⟨⟨trivial, trivial⟩, fun i hi => Ao _⟩, trivial⟩
def d9 (s : Ns) (n : Nat) (l : List Int) : Ns := ⟨s.procs, s.chans.set n l⟩
theorem fS {c : Ci} {s : Ns} {n : Int} {ws : List Int} (h : gw (·.frm) c n = true) (h2 : cA ws (dt c n.toNat).w = true) : aF c s n ws = (d9 s n.toNat (fh s n.toNat ++ ws), 0) := qv h h2
theorem mr {f : Ch → Int} {c : Ci} {n : Int} (h : ¬f (dt c n.toNat) = -1) : gw f c n = false := by unfold gw; rw [decide_eq_false h, Bool.and_false, Bool.and_false]
theorem kf {f : Ch → Int} {c : Ci} {n : Int} (h1 : 0 ≤ n) (h2 : n < c.chans.length) (h : f (dt c n.toNat) = -1) : gw f c n = true := by unfold gw; rw [decide_eq_true h1, decide_eq_true h2, decide_eq_true h]; rfl
theorem dG {c : Ci} {s : Ns} {n : Int} {ws : List Int} (h : gw (·.frm) c n = false) : aF c s n ws = (EG, 1) := mg (by rw [h]; simp)
def wB (l : List Bool) (q : Nat) : Bool := l.getD q false
def LX : Option Int → V
 | none => .nsl
 | some v => .sl 1 (ae .i64) 0 [v]
def Hg (o : Option Int) : List V := [LX o]
def wn : Option Int → List Int
 | none => []
 | some v => [v]
theorem Kz (o : Option Int) : (wn o).length ≤ 1 := by cases o <;> simp [wn]
theorem LZ (o : Option Int) : FE (LX o) (.sl 1 (ae .i64) 0 (wn o)) := by
 cases o
 ·exact rfl
 ·simp [LX, wn, FE]
section
variable {c : Ci} {s : Ns} {w : Nat → Bool} {i k : Nat}
theorem Ap (l : List Int) (a b : List Nat) : de (de l a) b = de l (a ++ b) := by simp [de, List.foldl_append]
theorem sR (l : List (Option Int)) (a b : List (Nat × Int)) : cU (cU l a) b = cU l (a ++ b) := by simp [cU, List.foldl_append]
theorem qH (ev : List (Nat × Int)) : ∀ (l : List (Option Int)) (n : Nat), (∀ e ∈ ev, e.1 ≠ n) → (cU l ev).getD n none = l.getD n none := by
 induction ev with
 | nil => intro l n h; rfl
 | cons e r ih =>
  intro l n h
  show (cU (l.set e.1 _) r).getD n none = _
  rw [ih _ n (fun e' he' => h e' (List.mem_cons_of_mem _ he'))]
  have := h e (List.mem_cons_self ..)
  simp [List.getD, List.getElem?_set, this]
theorem Aq (ev : List (Nat × Int)) : ∀ (l : List (Option Int)) (n : Nat), n < l.length → l.getD n none = none → ((ev.filter (fun e => e.1 == n)).map (·.2)).length ≤ 1 → wn ((cU l ev).getD n none) = (ev.filter (fun e => e.1 == n)).map (·.2) := by
 induction ev with
 | nil => intro l n hn h0 h; show wn (l.getD n none) = _; rw [h0]; rfl
 | cons e r ih =>
  intro l n hn h0 h
  show wn ((cU (l.set e.1 (some e.2)) r).getD n none) = _
  by_cases he : e.1 = n
  ·have hf : (e :: r).filter (fun e => e.1 == n) = e :: r.filter (fun e => e.1 == n) := by simp [he]
   rw [hf, List.map_cons] at h ⊢
   have hr : r.filter (fun e => e.1 == n) = [] := by
    simp only [List.length_cons, List.length_map] at h
    exact List.eq_nil_of_length_eq_zero (by omega)
   rw [hr, qH]
   ·subst he
    simp [List.getD, hn, wn]
   ·intro e' he' h1
    have : e' ∈ r.filter (fun e => e.1 == n) := by rw [List.mem_filter]; exact ⟨he', by simp [h1]⟩
    rw [hr] at this; cases this
  ·have hf : (e :: r).filter (fun e => e.1 == n) = r.filter (fun e => e.1 == n) := by simp [he]
   rw [hf] at h ⊢
   refine ih _ n (by simpa using hn) ?_ h
   have : (l.set e.1 (some e.2)).getD n none = l.getD n none := by simp [List.getD, List.getElem?_set, he]
   rw [this]; exact h0
theorem E4 (hc : bo c) (n : Nat) : (cH c s w n).length ≤ 1 := by
 unfold cH; split
 ·exact u7 hc n
 ·simp
theorem Ar {e : Nat × Int} : ∀ {P : Nat}, e ∈ jG c s w P → ∃ p, p < P ∧ e ∈ o8 (bH c p) (ab c s p) (bH c p).puts.length
 | 0, h => by cases h
 | P + 1, h => by
  rw [jG, List.mem_append] at h
  rcases h with h | h
  ·obtain ⟨p, h1, h2⟩ := Ar h; exact ⟨p, by omega, h2⟩
  ·split at h
   ·exact ⟨P, by omega, h⟩
   ·cases h
theorem E5 (hc : bo c) (hi : i < c.procs.length) (hk : k < (bH c i).puts.length) {f : Fi} {m : Nat} : (cU (List.replicate m none) (jG c s w i ++ o8 (bH c i) f k)).getD (v4 (bH c i) k) none = none := by
 rw [qH _ _ _ (fun e he h => ?_)]
 ·exact cr
 ·rcases List.mem_append.1 he with he | he
  ·obtain ⟨p, h1, h3⟩ := Ar he
   have h4 := (C8 hc (show p < c.procs.length by omega) (Nat.le_refl _) h3).2
   rw [h] at h4
   have h5 := (hc.pt i hi k hk).2.2.2
   have h6 : ((p : Nat) : Int) = (i : Int) := h4.symm.trans h5
   omega
  ·obtain ⟨j, h1, _, h3, _⟩ := qp he
   have := hc.pd i hi j k (by omega) hk (h3.trans h)
   omega
theorem Dy (hc : bo c) {n : Nat} (hn : n < c.chans.length) : (de (List.replicate c.chans.length 0) (gu c s w c.procs.length)).getD n 0 = (cX c s w n : Nat) := by
 rw [z9 _ _ _ (by simpa using hn), cr]
 have h1 := o9 (w := w) (s := s) hc n (Nat.le_refl _)
 rw [C9 hc] at h1
 split
 ·rename_i hm
  have := List.count_pos_iff.2 hm
  unfold cX at h1 ⊢
  split at h1
  ·rename_i hh; rw [if_pos hh]; rfl
  ·omega
 ·rename_i hm
  rw [List.count_eq_zero.2 hm] at h1
  rw [← h1]; rfl
theorem IQ (n : Nat) : cX c s w n ≤ (fh s n).length := by
 unfold cX; split
 ·rename_i h
  exact xj (j5 h.1).2 h.2
 ·omega
theorem IR (hc : bo c) {n : Nat} (hn : n < c.chans.length) :
  (fh s n).drop ((de (List.replicate c.chans.length 0) (gu c s w c.procs.length)).getD n 0).toNat ++ wn ((cU (List.replicate c.chans.length none) (jG c s w c.procs.length)).getD n none) = cB c s w n := by
 rw [Dy hc hn, Int.toNat_natCast, Aq]
 ·rw [qr hc n (Nat.le_refl _), yC]; rfl
 ·simpa using hn
 ·exact cr
 ·rw [qr hc n (Nat.le_refl _), yC]; exact E4 hc n
theorem L0 {l : List Bool} (h : ¬l.getD i false = true) : aD c s (wB l) i = false := JD (by show (!l.getD i false) = true; simpa using h)
theorem KA {l : List Bool} (h : (!(ab c s i).fires) = true) : aD c s (wB l) i = false := GS (by show (ab c s i).fires = false; simpa using h)
theorem KB {l : List Bool} (h : l.getD i false = true) (h2 : (!(ab c s i).fires) = false) : aD c s (wB l) i = true := GT (by show (!l.getD i false) = false; rw [h]; rfl) (by show (ab c s i).fires = true; simpa using h2)
theorem KC (f : Nat → Bool) (n : Nat) : wB (tab f n) = upto f n := funext fun q => by
 unfold wB upto
 by_cases h : q < n
 ·rw [bn h, decide_eq_true h, Bool.and_true]
 ·rw [CV (by omega), decide_eq_false h, Bool.and_false]
theorem IT (hs : bG c s) (f : Nat → Bool) : a4 c s (wB (tab f c.procs.length)) = a4 c s f := by rw [KC]; exact (Df hs).symm
theorem BV (f : Nat → Bool) : tab (aD c s (wB (tab f c.procs.length))) c.procs.length = tab (aD c s f) c.procs.length := ie (fun i hi => by
 unfold aD wB; rw [bn hi])
theorem Hh {n p : Nat} (h : p < n) : wB ((List.replicate n false).set p true) = wj (p : Int) := funext fun q => by
 rw [GZ]; unfold wB cE
 rw [ce (by simpa using h), cr]
 by_cases e : p = q
 ·rw [if_pos e, decide_eq_true e.symm]
 ·rw [if_neg e, decide_eq_false (fun h => e h.symm)]
theorem Dz (hs : bG c s) {p : Int} (h : iQ c s p = false) : a4 c s (wj p) = s := Ad hs (fun q hq => by
 unfold aD wj
 by_cases e : (q : Int) = p
 ·subst e
  rw [Ks hq] at h
  rw [h, Bool.and_false]
 ·rw [decide_eq_false e, Bool.false_and])
end
theorem IU {c : Ci} {s : Ns} {p : Int} (h : iQ c s p = true) : 0 ≤ p ∧ p < c.procs.length := by
 unfold iQ at h
 simp only [Bool.and_eq_true, decide_eq_true_eq] at h
 exact ⟨h.1, h.2.1⟩
end Go.Proofs.YtgmpoenfoacofaaGreat
