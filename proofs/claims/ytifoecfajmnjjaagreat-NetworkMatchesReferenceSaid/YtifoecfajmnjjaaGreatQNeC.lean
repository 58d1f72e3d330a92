/-
  Circuits, plain law: states stay states; a process that can fire still can after others; firing one after the other.
-/
import Derived.Test.YtifoecfajmnjjaaGreatQNeB
namespace Go.Proofs.YtifoecfajmnjjaaGreat
open Go.RowKit
set_option linter.unusedVariables false
set_option linter.unusedSimpArgs false
section
variable {p : Pr} {s : Ps} {hs hs' : List Hd} {rs rs' : List Bool}
theorem u6 : gA p s hs rs = true ↔ (∀ j, j < p.takes.length → iW p s hs j = true) ∧ ∀ j, j < p.puts.length → kd p s hs rs j = true := by
 unfold gA
 rw [Bool.and_eq_true, bQ, bQ]
theorem yb (h : gA p s hs rs = true) : aU p s hs rs = ⟨true, ci p s (bW p s hs), aq (pz p s hs) p.takes.length, aq (pA p s hs) p.puts.length⟩ := if_pos h
theorem Ga (h : gA p s hs rs = true) {j : Nat} (hj : j < p.takes.length) (hpop : (aU p s hs rs).pops.getD j false = true) : (hs.getD j aK).has = true := by
 rw [yb h] at hpop
 simp only at hpop
 rw [bq hj] at hpop
 have hh := (u6.1 h).1 j hj
 unfold iW at hh
 unfold pz at hpop
 rw [hpop] at hh
 simpa using hh
theorem EE (h : gA p s hs rs = true) {j : Nat} (hj : j < p.puts.length) (hput : ((aU p s hs rs).puts.getD j aK).has = true) : rs.getD j false = true := by
 rw [yb h] at hput
 simp only at hput
 rw [bq hj] at hput
 have hh := (u6.1 h).2 j hj
 unfold kd at hh
 unfold pA at hput
 split at hput
 ·rename_i hd; rw [hd] at hh; simpa using hh
 ·cases hput
end
section
variable {c : Ci} {s : Ns} {w w' : Nat → Bool}
theorem Br (hc : bK c) {p : Nat} (hp : p < c.procs.length) {f : Fi} (n : Nat) : ∀ {k : Nat}, k ≤ (bR c p).puts.length → ((lf (bR c p) f k).filter (fun e => e.1 == n)).length ≤ 1
 | 0, _ => by simp [lf]
 | k + 1, hk => by
  have ih := Br hc hp (f := f) n (k := k) (by omega)
  rw [lf, List.filter_append, List.length_append]
  by_cases h1 : (f.puts.getD k aK).has = true
  ·rw [if_pos h1]
   by_cases e : u4 (bR c p) k = n
   ·have h0 : (lf (bR c p) f k).filter (fun e => e.1 == n) = [] := by
     rw [List.filter_eq_nil_iff]
     intro z hz hzn
     obtain ⟨j, g1, g2, g3, g4⟩ := pK hz
     have h5 : z.1 = n := by simpa using hzn
     have := hc.pd p hp j k (by omega) (by omega) (by rw [g3, e, h5])
     omega
    rw [h0]
    simp only [List.length_nil, Nat.zero_add]
    exact Nat.le_trans (List.length_filter_le _ _) (by simp)
   ·rw [List.filter_cons_of_neg (by simpa using e), List.filter_nil]; exact ih
  ·rw [if_neg h1]; exact ih
theorem tp (hc : bK c) {p : Nat} (n : Nat) : (wC c s p n).length ≤ 1 := by
 by_cases hp : p < c.procs.length
 ·unfold wC; rw [List.length_map]; exact Br hc hp n (Nat.le_refl _)
 ·rw [lN hp]; simp
theorem yc {p n : Nat} {v : Int} (h : v ∈ wC c s p n) : ∃ j, j < (bR c p).puts.length ∧ ((ab c s p).puts.getD j aK).has = true ∧ u4 (bR c p) j = n ∧ ((ab c s p).puts.getD j aK).v = v := by
 unfold wC at h
 rw [List.mem_map] at h
 obtain ⟨e, he, rfl⟩ := h
 rw [List.mem_filter] at he
 obtain ⟨j, h1, h2, h3, h4⟩ := pK he.1
 exact ⟨j, h1, h2, by rw [h3]; simpa using he.2, h4⟩
theorem Bs {p n : Nat} {v : Int} (h : v ∈ wC c s p n) : p < c.procs.length := by
 by_cases hp : p < c.procs.length
 ·exact hp
 ·rw [lN hp] at h; cases h
theorem u7 {p n : Nat} (h : km c s p n = true) : ∃ j, j < (bR c p).takes.length ∧ (ab c s p).pops.getD j false = true ∧ wz (bR c p) j = n := by
 unfold km at h
 exact pJ (of_decide_eq_true h)
theorem Cx {p n : Nat} (hcan : fN c s p = true) (h : km c s p n = true) : 0 < (iX s n).length := by
 obtain ⟨j, h1, h2, rfl⟩ := u7 h
 rw [zM] at hcan
 have := Ga hcan h1 h2
 rw [cS, bq h1] at this
 unfold b9 at this
 split at this
 ·assumption
 ·cases this
theorem u9 {p : Nat} (h : ax c s w p = true) : w p = true ∧ fN c s p = true := by
 unfold ax at h; simpa using h
theorem pO (c : Ci) (s : Ns) (w : Nat → Bool) {n : Nat} (hn : n < c.chans.length) : iX (aD c s w) n = fq c s w n := by
 show (aq _ _).getD n [] = _
 rw [bq hn]
theorem yd (c : Ci) (s : Ns) (w : Nat → Bool) {p : Nat} (hp : p < c.procs.length) : zL (aD c s w) p = cb c s w p := by
 show (aq _ _).getD p a7 = _
 rw [bq hp]
theorem EF {α : Type} {a b : List α} {i : Nat} {d : α} : (a ++ b).getD i d = if i < a.length then a.getD i d else b.getD (i - a.length) d := by
 simp only [List.getD, List.getElem?_append]
 split <;> rfl
theorem Cy {α : Type} {a : List α} {k i : Nat} {d : α} : (a.drop k).getD i d = a.getD (k + i) d := by
 simp only [List.getD, List.getElem?_drop]
theorem ve {α : Type} {l : List α} {i : Nat} {d : α} (h : i < l.length) : l.getD i d ∈ l := by
 simp [List.getD, List.getElem?_eq_getElem h]
theorem fO (hc : bK c) (hs : bX c s) (w : Nat → Bool) : bX c (aD c s w) where
 pl := by rw [aD]; exact aO _ _
 cl := by rw [aD]; exact aO _ _
 pv := fun p hp => by
  rw [yd c s w hp]
  unfold cb
  split
  ·exact t9 (hc.pr p hp) (hs.pv p hp) (pI hc hs hp)
  ·exact hs.pv p hp
 cv := fun n hn i hi => by
  rw [pO c s w hn] at hi ⊢
  unfold fq at hi ⊢
  rw [EF]
  split
  ·rename_i h
   rw [Cy]
   rw [List.length_drop] at h
   exact hs.cv n hn _ (by omega)
  ·rename_i h
   rw [List.length_append] at hi
   have hm := ve (d := (0 : Int)) (show i - ((iX s n).drop (fG c s w n)).length < (fp c s w n).length by omega)
   generalize (fp c s w n).getD _ 0 = v at hm
   unfold fp at hm
   split at hm
   ·have hlt := Bs hm
    obtain ⟨j, h1, h2, h3, h4⟩ := yc hm
    have := wv (rs := di c s (lL c n)) (hc.pr _ hlt) (hs.pv _ hlt) (pI hc hs hlt) h1 h2
    rw [← (hc.pt _ hlt j h1).2.2.1, h3] at this
    rw [← h4]; exact this
   ·cases hm
 cc := fun n hn hf hd => by
  rw [pO c s w hn]
  unfold fq
  rw [List.length_append, List.length_drop]
  have h0 := hs.cc n hn hf hd
  unfold fp
  split
  ·rename_i hfi
   have h1 := tp (s := s) hc (p := lL c n) n
   by_cases h2 : wC c s (lL c n) n = []
   ·rw [h2]; simp only [List.length_nil]; omega
   ·obtain ⟨v, hv⟩ := List.exists_mem_of_ne_nil _ h2
    have hlt := Bs hv
    obtain ⟨j, h1', h2', h3, h4⟩ := yc hv
    have hcan := (u9 hfi).2
    rw [zM] at hcan
    have hr := EE hcan h1' h2'
    rw [di, bq h1'] at hr
    unfold ca at hr
    rw [h3] at hr
    simp only [Bool.or_eq_true, decide_eq_true_eq] at hr
    omega
  ·simp only [List.length_nil]; omega
theorem EG {p : Nat} (h : ax c s w p = false) : cb c s w p = zL s p := by
 unfold cb; rw [if_neg (by rw [h]; simp)]
theorem ye {p : Nat} (hs : c.procs.length ≤ p) : km c s p = fun _ => false := by
 funext n
 cases h : km c s p n
 ·rfl
 ·exfalso
  obtain ⟨j, h1, _⟩ := u7 h
  have e : bR c p = av := by rw [bR, List.getD, List.getElem?_eq_none (by omega)]; rfl
  rw [e] at h1
  exact Nat.not_lt_zero _ h1
theorem EH (hs : bX c s) (h : ∀ p, p < c.procs.length → ax c s w p = false) : aD c s w = s := by
 have e1 : (aD c s w).procs = s.procs := by
  refine jy (d := a7) (by rw [aD, aO, hs.pl]) (fun p hp => ?_)
  rw [aD, aO] at hp
  show zL (aD c s w) p = zL s p
  rw [yd c s w hp, EG (h p hp)]
 have e2 : (aD c s w).chans = s.chans := by
  refine jy (d := []) (by rw [aD, aO, hs.cl]) (fun n hn => ?_)
  rw [aD, aO] at hn
  show iX (aD c s w) n = iX s n
  rw [pO c s w hn, fq]
  have h1 : fG c s w n = 0 := by
   rw [fG]
   by_cases hd : qR c n < c.procs.length
   ·rw [h _ hd]; simp
   ·rw [if_neg]
    rintro ⟨_, h2⟩
    rw [ye (by omega)] at h2; cases h2
  have h2 : fp c s w n = [] := by
   rw [fp]
   by_cases hd : lL c n < c.procs.length
   ·rw [h _ hd]; simp
   ·split
    ·exact lN hd
    ·rfl
  rw [h1, h2]; simp
 cases s; cases hq : aD c _ w
 rw [hq] at e1 e2
 simp only at e1 e2
 rw [e1, e2]
def vf (p : Nat) : Nat → Bool := fun q => decide (q = p)
end
end Go.Proofs.YtifoecfajmnjjaaGreat
