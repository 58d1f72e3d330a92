/-
  The laws of networks, plain data: orders, states of cases, comparisons.
-/
import Derived.Test.YtifoecfajmnjjaaGreatQNeN
namespace Go.Proofs.YtifoecfajmnjjaaGreat
open Go.RowKit
set_option linter.unusedVariables false
set_option linter.unusedSimpArgs false
def cP (a b : Ns) (la lb : List Int) (ea eb : Int) : Bool := decide (ea = eb) && (decide (la = lb) && bO a b)
theorem C8 {a b : Ns} {la lb : List Int} {ea eb : Int} (h : ¬ea = eb) : cP a b la lb ea eb = false := by unfold cP; rw [decide_eq_false h]; rfl
theorem rR {a b : Ns} {la lb : List Int} {ea eb : Int} (h : ea = eb) (h2 : ¬la = lb) : cP a b la lb ea eb = false := by unfold cP; rw [decide_eq_false h2, Bool.false_and, Bool.and_false]
theorem ri {a b : Ns} {la lb : List Int} {ea eb : Int} (h : ea = eb) (h2 : la = lb) : cP a b la lb ea eb = bO a b := by unfold cP; rw [decide_eq_true h, decide_eq_true h2]; rfl
theorem ef (a : Ns) (l : List Int) (e : Int) : cP a a l l e e = true := by rw [ri rfl rfl]; exact cO.2 rfl
theorem Fs {l : List Int} {n : Nat} (h : lF l) : lF (l.take n) := fun x hx => h x (List.mem_of_mem_take hx)
theorem G2 (l : List Int) : y7 (l.length : Int) 20 = ((min l.length 20 : Nat) : Int) := by unfold y7; split <;> omega
theorem Ft {p : Pr} (hp : fM p) : oa p (aY p) where
 rl := by simp [aY]
 rv := fun i hi => by
  rw [show (aY p).regs = p.regs.map (·.init) from rfl]
  have := (hp.rw i hi).2.1
  simpa [List.getD, List.getElem?_map, List.getElem?_eq_getElem hi] using this
 ml := by simp [aY]
 mn := fun i hi => by
  have h2 := (hp.mw i hi).2.1
  rw [show (aY p).mems = p.mems.map (fun m => List.replicate m.words.toNat 0) from rfl]
  have : (p.mems.map (fun m => List.replicate m.words.toNat (0 : Int))).getD i [] = List.replicate (kT p i).words.toNat 0 := by
   simp [List.getD, List.getElem?_map, List.getElem?_eq_getElem hi]
  rw [this, List.length_replicate]; omega
 mv := fun i hi j hj => by
  rw [show (aY p).mems = p.mems.map (fun m => List.replicate m.words.toNat 0) from rfl] at hj ⊢
  have : (p.mems.map (fun m => List.replicate m.words.toNat (0 : Int))).getD i [] = List.replicate (kT p i).words.toNat 0 := by
   simp [List.getD, List.getElem?_map, List.getElem?_eq_getElem hi]
  rw [this, bM]
  exact oc (hp.mw i hi).1
theorem tR {c : Ci} (hc : bK c) : bX c (ao c) where
 pl := by simp [ao, aO]
 cl := by simp [ao]
 pv := fun i hi => by
  show oa _ ((aq _ _).getD i a7)
  rw [bq hi]; exact Ft (hc.pr i hi)
 cv := fun n hn i hi => by
  have h0 : iX (ao c) n = [] := by show (List.replicate _ _).getD n [] = []; exact bM
  rw [h0] at hi; simp at hi
 cc := fun n hn h1 h2 => by
  have h0 : iX (ao c) n = [] := by show (List.replicate _ _).getD n [] = []; exact bM
  rw [h0]
  simpa using hc.cp n hn
theorem GB {c : Ci} {s : Ns} (hs : bX c s) {n : Nat} (hn : n < c.chans.length) {l : List Int} (h1 : ∀ i, i < l.length → dD (l.getD i 0) (fF c n).w) (h2 : 0 ≤ (fF c n).frm → 0 ≤ (fF c n).dst → (l.length : Int) ≤ (fF c n).cap) : bX c (dp s n l) where
 pl := hs.pl
 cl := by show (s.chans.set n l).length = _; rw [List.length_set]; exact hs.cl
 pv := hs.pv
 cv := fun m hm i hi => by
  have e : iX (dp s n l) m = if n = m then l else iX s m := bV (by rw [hs.cl]; exact hn)
  rw [e] at hi ⊢
  split at hi
  ·rename_i h; subst h; rw [if_pos rfl]; exact h1 i hi
  ·rename_i h; rw [if_neg h]; exact hs.cv m hm i hi
 cc := fun m hm a b => by
  have e : iX (dp s n l) m = if n = m then l else iX s m := bV (by rw [hs.cl]; exact hn)
  rw [e]
  split
  ·rename_i h; subst h; exact h2 a b
  ·exact hs.cc m hm a b
theorem GD {s : Ns} {k n : Nat} {l : List Int} (h : fD s k) (hl : l.length ≤ k) : fD (dp s n l) k := fun m => by
 by_cases hn : n < s.chans.length
 ·have e : iX (dp s n l) m = if n = m then l else iX s m := bV hn
  rw [e]; split
  ·exact hl
  ·exact h m
 ·have e : dp s n l = s := by show (⟨s.procs, s.chans.set n l⟩ : Ns) = s; rw [List.set_eq_of_length_le (by omega)]
  rw [e]; exact h m
theorem H6 {b : List Int} {i : Nat} {w : Int} {k : Nat} (h1 : 1 ≤ w) (h2 : w ≤ 62) : dD (ug b i w k) w := by
 unfold ug dD
 rw [cA (by omega) h2]
 have hp : (0 : Int) < 2 ^ w.toNat := Int.pow_pos (by omega)
 exact ⟨Int.emod_nonneg _ (by omega), by have := Int.emod_lt_of_pos (b.getD (i + (1 + k)) 0) hp; omega⟩
theorem Fu {c : Ci} (hc : bK c) {b : List Int} (hb : lF b) : ∀ i, i ≤ c.chans.length → bX c (tX c b i).1 ∧ fD (tX c b i).1 6
 | 0, _ => ⟨tR hc, fun n => by
  have : iX (ao c) n = [] := by show (List.replicate _ _).getD n [] = []; exact bM
  show (iX (ao c) n).length ≤ 6
  rw [this]; simp⟩
 | i + 1, h => by
  have ih := Fu hc hb i (by omega)
  by_cases hf : 0 ≤ (fF c i).frm
  ·rw [Fj hf]; exact ih
  ·rw [An hf]
   have hw := aW.1 (hc.cw i (by omega))
   have hn := Fh hb (tX c b i).2
   refine ⟨GB ih.1 (by omega) (fun j hj => ?_) (fun a _ => absurd a hf), GD ih.2 (by rw [aO]; exact hn.1)⟩
   rw [aO] at hj
   rw [bq hj]; exact H6 hw.1 (by omega)
theorem C9 {c : Ci} (hc : bK c) {b : List Int} (hb : lF b) : bX c (ec c b) ∧ fD (ec c b) 1000000000 := by
 have := Fu hc hb c.chans.length (Nat.le_refl _)
 exact ⟨this.1, fun n => Nat.le_trans (this.2 n) (by omega)⟩
theorem BS {c : Ci} (hc : bK c) : ∀ (l : List Int) {s : Ns} {k : Nat}, bX c s → fD s k → bX c (ee c s l) ∧ fD (ee c s l) (k + l.length)
 | [], s, k, h1, h2 => ⟨h1, h2⟩
 | x :: r, s, k, h1, h2 => by
  have := BS hc r (fO hc h1 (cy (x % c.procs.length))) (gC (w := cy (x % c.procs.length)) hc h2)
  refine ⟨this.1, fun n => ?_⟩
  have h3 := this.2 n
  show (iX (ee c _ r) n).length ≤ _
  simp only [List.length_cons]; omega
def ae (c : Ci) (bb l : List Int) : Ns := ee c (ec c bb) (l.take (min l.length 20))
theorem Fv {c : Ci} (hc : bK c) {bb l : List Int} (hb : lF bb) : bX c (ae c bb l) ∧ fD (ae c bb l) 100 := by
 have h1 := Fu hc hb c.chans.length (Nat.le_refl _)
 have h2 := BS hc (l.take (min l.length 20)) h1.1 h1.2
 refine ⟨h2.1, fun n => ?_⟩
 have := h2.2 n
 have h3 : (l.take (min l.length 20)).length ≤ 20 := by rw [List.length_take]; omega
 show (iX (ee c _ _) n).length ≤ 100
 unfold ec
 omega
end Go.Proofs.YtifoecfajmnjjaaGreat
