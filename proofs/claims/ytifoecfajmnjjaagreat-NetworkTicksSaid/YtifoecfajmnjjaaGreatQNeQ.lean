/-
  The laws of networks, plain data: orders, states of cases, comparisons.
-/
import Derived.Test.YtifoecfajmnjjaaGreatQNeN
namespace Go.Proofs.YtifoecfajmnjjaaGreat
open Go.RowKit
set_option linter.unusedVariables false
set_option linter.unusedSimpArgs false
theorem AE (x : Int) {n : Int} (h : 0 < n) : 0 ≤ x % n ∧ x % n < n := ⟨Int.emod_nonneg _ (by omega), Int.emod_lt_of_pos _ h⟩
def Ed (l : List Int) (i : Nat) : Nat := if i < l.length then (l.getD i 0 % ((i : Int) + 1)).toNat else 0
def bq (l : List Int) : Nat → List Int
 | 0 => []
 | i + 1 => (bq l i).take (Ed l i) ++ [(i : Int)] ++ (bq l i).drop (Ed l i)
theorem vY (l : List Int) : ∀ i, (bq l i).length = i
 | 0 => rfl
 | i + 1 => by
  have := vY l i
  rw [bq]; simp only [List.length_append, List.length_take, List.length_drop, List.length_cons, List.length_nil]; omega
theorem H3 {l : List Int} {i : Nat} (h : i < l.length) : bq l (i + 1) = (bq l i).take (l.getD i 0 % ((i : Int) + 1)).toNat ++ [(i : Int)] ++ (bq l i).drop (l.getD i 0 % ((i : Int) + 1)).toNat := by rw [bq, Ed, if_pos h]
theorem H4 {l : List Int} {i : Nat} (h : ¬i < l.length) : bq l (i + 1) = (bq l i).take 0 ++ [(i : Int)] ++ (bq l i).drop 0 := by rw [bq, Ed, if_neg h]
theorem mz (l : List Int) : ∀ n (x : Int), x ∈ bq l n ↔ 0 ≤ x ∧ x < n
 | 0, x => by
  simp only [bq, List.not_mem_nil, false_iff]; omega
 | n + 1, x => by
  have ih := mz l n x
  rw [bq]
  simp only [List.mem_append, List.mem_singleton]
  have hs : x ∈ bq l n ↔ x ∈ (bq l n).take (Ed l n) ∨ x ∈ (bq l n).drop (Ed l n) := by
   conv => lhs; rw [← List.take_append_drop (Ed l n) (bq l n)]
   rw [List.mem_append]
  constructor
  ·rintro ((h | h) | h)
   ·have := ih.1 (hs.2 (.inl h)); omega
   ·omega
   ·have := ih.1 (hs.2 (.inr h)); omega
  ·rintro ⟨h1, h2⟩
   by_cases e : x = n
   ·exact .inl (.inr e)
   ·rcases hs.1 (ih.2 ⟨h1, by omega⟩) with h | h
    ·exact .inl (.inl h)
    ·exact .inr h
theorem qr (l : List Int) : ∀ n, (bq l n).Nodup
 | 0 => by simp [bq]
 | n + 1 => by
  have ih := qr l n
  have hm := mz l n (n : Int)
  rw [bq, List.append_assoc, List.singleton_append]
  have hp : ((bq l n).take (Ed l n) ++ (n : Int) :: (bq l n).drop (Ed l n)).Perm ((n : Int) :: bq l n) := by
   have := List.perm_middle (a := (n : Int)) (l₁ := (bq l n).take (Ed l n)) (l₂ := (bq l n).drop (Ed l n))
   rwa [List.take_append_drop] at this
  rw [hp.nodup_iff, List.nodup_cons]
  exact ⟨fun h => by have := hm.1 h; omega, ih⟩
theorem Ee {l : List Int} {n : Nat} (h : kz l) : kz (l.take n) := fun x hx => h x (List.mem_of_mem_take hx)
theorem FP (l : List Int) : xV (l.length : Int) 20 = ((min l.length 20 : Nat) : Int) := by unfold xV; split <;> omega
theorem Ef {p : Pr} (hp : fq p) : nj p (aV p) where
 rl := by simp [aV]
 rv := fun i hi => by
  rw [show (aV p).regs = p.regs.map (·.init) from rfl]
  have := (hp.rw i hi).2.1
  simpa [List.getD, List.getElem?_map, List.getElem?_eq_getElem hi] using this
 ml := by simp [aV]
 mn := fun i hi => by
  have h2 := (hp.mw i hi).2.1
  rw [show (aV p).mems = p.mems.map (fun m => List.replicate m.words.toNat 0) from rfl]
  have : (p.mems.map (fun m => List.replicate m.words.toNat (0 : Int))).getD i [] = List.replicate (ku p i).words.toNat 0 := by
   simp [List.getD, List.getElem?_map, List.getElem?_eq_getElem hi]
  rw [this, List.length_replicate]; omega
 mv := fun i hi j hj => by
  rw [show (aV p).mems = p.mems.map (fun m => List.replicate m.words.toNat 0) from rfl] at hj ⊢
  have : (p.mems.map (fun m => List.replicate m.words.toNat (0 : Int))).getD i [] = List.replicate (ku p i).words.toNat 0 := by
   simp [List.getD, List.getElem?_map, List.getElem?_eq_getElem hi]
  rw [this, bQ]
  exact nk (hp.mw i hi).1
theorem Eg {c : Ci} (hc : bM c) : cr c (av c) where
 pl := by simp [av, aR]
 cl := by simp [av]
 pv := fun i hi => by
  show nj _ ((ap _ _).getD i bg)
  rw [bj hi]; exact Ef (hc.pr i hi)
 cv := fun n hn i hi => by
  have h0 : i4 (av c) n = [] := by show (List.replicate _ _).getD n [] = []; exact bQ
  rw [h0] at hi; simp at hi
 cc := fun n hn h1 h2 => by
  have h0 : i4 (av c) n = [] := by show (List.replicate _ _).getD n [] = []; exact bQ
  rw [h0]
  simpa using hc.cp n hn
theorem Fu {c : Ci} {s : Ns} (hs : cr c s) {n : Nat} (hn : n < c.chans.length) {l : List Int} (h1 : ∀ i, i < l.length → dt (l.getD i 0) (f6 c n).w) (h2 : 0 ≤ (f6 c n).frm → 0 ≤ (f6 c n).dst → (l.length : Int) ≤ (f6 c n).cap) : cr c (gv s n l) where
 pl := hs.pl
 cl := by show (s.chans.set n l).length = _; rw [List.length_set]; exact hs.cl
 pv := hs.pv
 cv := fun m hm i hi => by
  have e : i4 (gv s n l) m = if n = m then l else i4 s m := b5 (by rw [hs.cl]; exact hn)
  rw [e] at hi ⊢
  split at hi
  ·rename_i h; subst h; rw [if_pos rfl]; exact h1 i hi
  ·rename_i h; rw [if_neg h]; exact hs.cv m hm i hi
 cc := fun m hm a b => by
  have e : i4 (gv s n l) m = if n = m then l else i4 s m := b5 (by rw [hs.cl]; exact hn)
  rw [e]
  split
  ·rename_i h; subst h; exact h2 a b
  ·exact hs.cc m hm a b
theorem Fv {s : Ns} {k n : Nat} {l : List Int} (h : i7 s k) (hl : l.length ≤ k) : i7 (gv s n l) k := fun m => by
 by_cases hn : n < s.chans.length
 ·have e : i4 (gv s n l) m = if n = m then l else i4 s m := b5 hn
  rw [e]; split
  ·exact hl
  ·exact h m
 ·have e : gv s n l = s := by show (⟨s.procs, s.chans.set n l⟩ : Ns) = s; rw [List.set_eq_of_length_le (by omega)]
  rw [e]; exact h m
theorem GQ {b : List Int} {i : Nat} {w : Int} {k : Nat} (h1 : 1 ≤ w) (h2 : w ≤ 62) : dt (te b i w k) w := by
 unfold te dt
 rw [cu (by omega) h2]
 have hp : (0 : Int) < 2 ^ w.toNat := Int.pow_pos (by omega)
 exact ⟨Int.emod_nonneg _ (by omega), by have := Int.emod_lt_of_pos (b.getD (i + (1 + k)) 0) hp; omega⟩
theorem Eh {c : Ci} (hc : bM c) {b : List Int} (hb : kz b) : ∀ i, i ≤ c.chans.length → cr c (s5 c b i).1 ∧ i7 (s5 c b i).1 6
 | 0, _ => ⟨Eg hc, fun n => by
  have : i4 (av c) n = [] := by show (List.replicate _ _).getD n [] = []; exact bQ
  show (i4 (av c) n).length ≤ 6
  rw [this]; simp⟩
 | i + 1, h => by
  have ih := Eh hc hb i (by omega)
  by_cases hf : 0 ≤ (f6 c i).frm
  ·rw [D5 hf]; exact ih
  ·rw [zc hf]
   have hw := aU.1 (hc.cw i (by omega))
   have hn := D4 hb (s5 c b i).2
   refine ⟨Fu ih.1 (by omega) (fun j hj => ?_) (fun a _ => absurd a hf), Fv ih.2 (by rw [aR]; exact hn.1)⟩
   rw [aR] at hj
   rw [bj hj]; exact GQ hw.1 (by omega)
theorem BR {c : Ci} (hc : bM c) {b : List Int} (hb : kz b) : cr c (dZ c b) ∧ i7 (dZ c b) 1000000000 := by
 have := Eh hc hb c.chans.length (Nat.le_refl _)
 exact ⟨this.1, fun n => Nat.le_trans (this.2 n) (by omega)⟩
theorem AF {c : Ci} (hc : bM c) : ∀ (l : List Int) {s : Ns} {k : Nat}, cr c s → i7 s k → cr c (d4 c s l) ∧ i7 (d4 c s l) (k + l.length)
 | [], s, k, h1, h2 => ⟨h1, h2⟩
 | x :: r, s, k, h1, h2 => by
  have := AF hc r (gh hc h1 (cN (x % c.procs.length))) (gi (w := cN (x % c.procs.length)) hc h2)
  refine ⟨this.1, fun n => ?_⟩
  have h3 := this.2 n
  show (i4 (d4 c _ r) n).length ≤ _
  simp only [List.length_cons]; omega
def aB (c : Ci) (bb l : List Int) : Ns := d4 c (dZ c bb) (l.take (min l.length 20))
theorem Ei {c : Ci} (hc : bM c) {bb l : List Int} (hb : kz bb) : cr c (aB c bb l) ∧ i7 (aB c bb l) 100 := by
 have h1 := Eh hc hb c.chans.length (Nat.le_refl _)
 have h2 := AF hc (l.take (min l.length 20)) h1.1 h1.2
 refine ⟨h2.1, fun n => ?_⟩
 have := h2.2 n
 have h3 : (l.take (min l.length 20)).length ≤ 20 := by rw [List.length_take]; omega
 show (i4 (d4 c _ _) n).length ≤ 100
 unfold dZ
 omega
end Go.Proofs.YtifoecfajmnjjaaGreat
