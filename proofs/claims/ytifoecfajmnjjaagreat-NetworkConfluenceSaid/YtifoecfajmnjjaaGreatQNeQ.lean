/-
  The laws of networks, plain data: orders, states of cases, comparisons.
-/
import Derived.Test.YtifoecfajmnjjaaGreatQNeN
namespace Go.Proofs.YtifoecfajmnjjaaGreat
open Go.RowKit
set_option linter.unusedVariables false
set_option linter.unusedSimpArgs false
theorem Fj (x : Int) {n : Int} (h : 0 < n) : 0 ≤ x % n ∧ x % n < n := ⟨Int.emod_nonneg _ (by omega), Int.emod_lt_of_pos _ h⟩
def I0 (l : List Int) (i : Nat) : Nat := if i < l.length then (l.getD i 0 % ((i : Int) + 1)).toNat else 0
def bP (l : List Int) : Nat → List Int
 | 0 => []
 | i + 1 => (bP l i).take (I0 l i) ++ [(i : Int)] ++ (bP l i).drop (I0 l i)
theorem Af (l : List Int) : ∀ i, (bP l i).length = i
 | 0 => rfl
 | i + 1 => by
  have := Af l i
  rw [bP]; simp only [List.length_append, List.length_take, List.length_drop, List.length_cons, List.length_nil]; omega
theorem Nc {l : List Int} {i : Nat} (h : i < l.length) : bP l (i + 1) = (bP l i).take (l.getD i 0 % ((i : Int) + 1)).toNat ++ [(i : Int)] ++ (bP l i).drop (l.getD i 0 % ((i : Int) + 1)).toNat := by rw [bP, I0, if_pos h]
theorem Nd {l : List Int} {i : Nat} (h : ¬i < l.length) : bP l (i + 1) = (bP l i).take 0 ++ [(i : Int)] ++ (bP l i).drop 0 := by rw [bP, I0, if_neg h]
theorem qi (l : List Int) : ∀ n (x : Int), x ∈ bP l n ↔ 0 ≤ x ∧ x < n
 | 0, x => by
  simp only [bP, List.not_mem_nil, false_iff]; omega
 | n + 1, x => by
  have ih := qi l n x
  rw [bP]
  simp only [List.mem_append, List.mem_singleton]
  have hs : x ∈ bP l n ↔ x ∈ (bP l n).take (I0 l n) ∨ x ∈ (bP l n).drop (I0 l n) := by
   conv => lhs; rw [← List.take_append_drop (I0 l n) (bP l n)]
   rw [List.mem_append]
  constructor
  ·rintro ((h | h) | h)
   ·have := ih.1 (hs.2 (.inl h)); omega
   ·omega
   ·have := ih.1 (hs.2 (.inr h)); omega
  ·rintro ⟨h1, h2⟩
   by_cases e : x = n
   ·exact .inl (.inr e)
   ·rcases hs.1 (ih.2 ⟨h1, by omega⟩) with h | h
    ·exact .inl (.inl h)
    ·exact .inr h
theorem uk (l : List Int) : ∀ n, (bP l n).Nodup
 | 0 => by simp [bP]
 | n + 1 => by
  have ih := uk l n
  have hm := qi l n (n : Int)
  rw [bP, List.append_assoc, List.singleton_append]
  have hp : ((bP l n).take (I0 l n) ++ (n : Int) :: (bP l n).drop (I0 l n)).Perm ((n : Int) :: bP l n) := by
   have := List.perm_middle (a := (n : Int)) (l₁ := (bP l n).take (I0 l n)) (l₂ := (bP l n).drop (I0 l n))
   rwa [List.take_append_drop] at this
  rw [hp.nodup_iff, List.nodup_cons]
  exact ⟨fun h => by have := hm.1 h; omega, ih⟩
def dR (a b : Ns) (la lb : List Int) (ea eb : Int) : Bool := decide (ea = eb) && (decide (la = lb) && bB a b)
theorem GB {a b : Ns} {la lb : List Int} {ea eb : Int} (h : ¬ea = eb) : dR a b la lb ea eb = false := by unfold dR; rw [decide_eq_false h]; rfl
theorem uV {a b : Ns} {la lb : List Int} {ea eb : Int} (h : ea = eb) (h2 : ¬la = lb) : dR a b la lb ea eb = false := by unfold dR; rw [decide_eq_false h2, Bool.false_and, Bool.and_false]
theorem un {a b : Ns} {la lb : List Int} {ea eb : Int} (h : ea = eb) (h2 : la = lb) : dR a b la lb ea eb = bB a b := by unfold dR; rw [decide_eq_true h, decide_eq_true h2]; rfl
theorem fD (a : Ns) (l : List Int) (e : Int) : dR a a l l e e = true := by rw [un rfl rfl]; exact bu.2 rfl
theorem I1 {l : List Int} {n : Nat} (h : iz l) : iz (l.take n) := fun x hx => h x (List.mem_of_mem_take hx)
theorem KE (l : List Int) : Cp (l.length : Int) 20 = ((min l.length 20 : Nat) : Int) := by unfold Cp; split <;> omega
theorem I2 {p : Pr} (hp : iA p) : rb p (bg p) where
 rl := by simp [bg]
 rv := fun i hi => by
  rw [show (bg p).regs = p.regs.map (·.init) from rfl]
  have := (hp.rw i hi).2.1
  simpa [List.getD, List.getElem?_map, List.getElem?_eq_getElem hi] using this
 ml := by simp [bg]
 mn := fun i hi => by
  have h2 := (hp.mw i hi).2.1
  rw [show (bg p).mems = p.mems.map (fun m => List.replicate m.words.toNat 0) from rfl]
  have : (p.mems.map (fun m => List.replicate m.words.toNat (0 : Int))).getD i [] = List.replicate (mK p i).words.toNat 0 := by
   simp [List.getD, List.getElem?_map, List.getElem?_eq_getElem hi]
  rw [this, List.length_replicate]; omega
 mv := fun i hi j hj => by
  rw [show (bg p).mems = p.mems.map (fun m => List.replicate m.words.toNat 0) from rfl] at hj ⊢
  have : (p.mems.map (fun m => List.replicate m.words.toNat (0 : Int))).getD i [] = List.replicate (mK p i).words.toNat 0 := by
   simp [List.getD, List.getElem?_map, List.getElem?_eq_getElem hi]
  rw [this, ct]
  exact rc (hp.mw i hi).1
theorem xf {c : Ci} (hc : bo c) : bN c (az c) where
 pl := by simp [az, aN]
 cl := by simp [az]
 pv := fun i hi => by
  show rb _ ((ao _ _).getD i aU)
  rw [bf hi]; exact I2 (hc.pr i hi)
 cv := fun n hn i hi => by
  have h0 : gj (az c) n = [] := by show (List.replicate _ _).getD n [] = []; exact ct
  rw [h0] at hi; simp at hi
 cc := fun n hn h1 h2 => by
  have h0 : gj (az c) n = [] := by show (List.replicate _ _).getD n [] = []; exact ct
  rw [h0]
  simpa using hc.cp n hn
theorem Ag {c : Ci} {s : Ns} (hs : bN c s) {n : Nat} (hn : n < c.chans.length) {l : List Int} (h1 : ∀ i, i < l.length → eF (l.getD i 0) (fk c n).w) (h2 : 0 ≤ (fk c n).frm → 0 ≤ (fk c n).dst → (l.length : Int) ≤ (fk c n).cap) : bN c (cz s n l) where
 pl := hs.pl
 cl := by show (s.chans.set n l).length = _; rw [List.length_set]; exact hs.cl
 pv := hs.pv
 cv := fun m hm i hi => by
  have e : gj (cz s n l) m = if n = m then l else gj s m := b6 (by rw [hs.cl]; exact hn)
  rw [e] at hi ⊢
  split at hi
  ·rename_i h; subst h; rw [if_pos rfl]; exact h1 i hi
  ·rename_i h; rw [if_neg h]; exact hs.cv m hm i hi
 cc := fun m hm a b => by
  have e : gj (cz s n l) m = if n = m then l else gj s m := b6 (by rw [hs.cl]; exact hn)
  rw [e]
  split
  ·rename_i h; subst h; exact h2 a b
  ·exact hs.cc m hm a b
theorem sR {s : Ns} {k n : Nat} {l : List Int} (h : fY s k) (hl : l.length ≤ k) : fY (cz s n l) k := fun m => by
 by_cases hn : n < s.chans.length
 ·have e : gj (cz s n l) m = if n = m then l else gj s m := b6 hn
  rw [e]; split
  ·exact hl
  ·exact h m
 ·have e : cz s n l = s := by show (⟨s.procs, s.chans.set n l⟩ : Ns) = s; rw [List.set_eq_of_length_le (by omega)]
  rw [e]; exact h m
theorem LL {b : List Int} {i : Nat} {w : Int} {k : Nat} (h1 : 1 ≤ w) (h2 : w ≤ 62) : eF (xy b i w k) w := by
 unfold xy eF
 rw [da (by omega) h2]
 have hp : (0 : Int) < 2 ^ w.toNat := Int.pow_pos (by omega)
 exact ⟨Int.emod_nonneg _ (by omega), by have := Int.emod_lt_of_pos (b.getD (i + (1 + k)) 0) hp; omega⟩
theorem I3 {c : Ci} (hc : bo c) {b : List Int} (hb : iz b) : ∀ i, i ≤ c.chans.length → bN c (xq c b i).1 ∧ fY (xq c b i).1 6
 | 0, _ => ⟨xf hc, fun n => by
  have : gj (az c) n = [] := by show (List.replicate _ _).getD n [] = []; exact ct
  show (gj (az c) n).length ≤ 6
  rw [this]; simp⟩
 | i + 1, h => by
  have ih := I3 hc hb i (by omega)
  by_cases hf : 0 ≤ (fk c i).frm
  ·rw [IQ hf]; exact ih
  ·rw [DE hf]
   have hw := bc.1 (hc.cw i (by omega))
   have hn := IP hb (xq c b i).2
   refine ⟨Ag ih.1 (by omega) (fun j hj => ?_) (fun a _ => absurd a hf), sR ih.2 (by rw [aN]; exact hn.1)⟩
   rw [aN] at hj
   rw [bf hj]; exact LL hw.1 (by omega)
theorem GD {c : Ci} (hc : bo c) {b : List Int} (hb : iz b) : bN c (fB c b) ∧ fY (fB c b) 1000000000 := by
 have := I3 hc hb c.chans.length (Nat.le_refl _)
 exact ⟨this.1, fun n => Nat.le_trans (this.2 n) (by omega)⟩
theorem Fk {c : Ci} (hc : bo c) : ∀ (l : List Int) {s : Ns} {k : Nat}, bN c s → fY s k → bN c (fC c s l) ∧ fY (fC c s l) (k + l.length)
 | [], s, k, h1, h2 => ⟨h1, h2⟩
 | x :: r, s, k, h1, h2 => by
  have := Fk hc r (aW hc h1 (bz (x % c.procs.length))) (a6 (w := bz (x % c.procs.length)) hc h2)
  refine ⟨this.1, fun n => ?_⟩
  have h3 := this.2 n
  show (gj (fC c _ r) n).length ≤ _
  simp only [List.length_cons]; omega
def ab (c : Ci) (bb l : List Int) : Ns := fC c (fB c bb) (l.take (min l.length 20))
theorem kR {c : Ci} (hc : bo c) {bb l : List Int} (hb : iz bb) : bN c (ab c bb l) ∧ fY (ab c bb l) 100 := by
 have h1 := I3 hc hb c.chans.length (Nat.le_refl _)
 have h2 := Fk hc (l.take (min l.length 20)) h1.1 h1.2
 refine ⟨h2.1, fun n => ?_⟩
 have := h2.2 n
 have h3 : (l.take (min l.length 20)).length ≤ 20 := by rw [List.length_take]; omega
 show (gj (fC c _ _) n).length ≤ 100
 unfold fB
 omega
end Go.Proofs.YtifoecfajmnjjaaGreat
