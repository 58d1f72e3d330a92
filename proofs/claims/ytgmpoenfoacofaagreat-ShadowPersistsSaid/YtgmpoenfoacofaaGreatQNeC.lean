/-
  Circuits, plain law: states stay states; a process that can fire still can after others; firing one after the other.
-/
import Derived.Test.YtgmpoenfoacofaaGreatQNeB
namespace Go.Proofs.YtgmpoenfoacofaaGreat
open Go.RowKit
set_option linter.unusedVariables false
set_option linter.unusedSimpArgs false
section
variable {p : Pr} {s : Ps} {hs hs' : List Hd} {rs rs' : List Bool}
theorem mZ : fy p s hs rs = true ↔ (∀ j, j < p.takes.length → hE p s hs j = true) ∧ ∀ j, j < p.puts.length → jY p s hs rs j = true := by
 unfold fy
 rw [Bool.and_eq_true, bi, bi]
theorem qs (h : fy p s hs rs = true) : aM p s hs rs = ⟨true, co p s (bO p s hs), tab (l6 p s hs) p.takes.length, tab (l7 p s hs) p.puts.length⟩ := if_pos h
theorem EI (hp : gm p) (h : fy p s hs rs = true) (h1 : ∀ j, j < p.takes.length → (hs.getD j aW).has = true → hs'.getD j aW = hs.getD j aW)
  (h2 : ∀ j, j < p.puts.length → rs.getD j false = true → rs'.getD j false = true) : aM p s hs' rs' = aM p s hs rs := by
 obtain ⟨ht, hr⟩ := mZ.1 h
 have hcur : bO p s hs' = bO p s hs := by
  unfold bO
  refine ie (fun j hj => ?_)
  unfold lG
  by_cases hd : dM p s (iL p) (lz p j).when = true
  ·have hh := ht j hj
   unfold hE at hh
   have hdue : dM p s (bO p s hs) (lz p j).when = true := by rw [← hd]; exact (ig hp hj _ _).1
   have hhas : (hs.getD j aW).has = true := by rw [hdue] at hh; simpa using hh
   rw [h1 j hj hhas]
  ·rw [if_neg (by rintro ⟨a, _⟩; exact hd a), if_neg (by rintro ⟨a, _⟩; exact hd a)]
 have hf : fy p s hs' rs' = true := by
  rw [mZ]
  refine ⟨fun j hj => ?_, fun j hj => ?_⟩
  ·have hh := ht j hj
   unfold hE at hh ⊢
   rw [hcur]
   rw [Bool.or_eq_true] at hh ⊢
   rcases hh with hh | hh
   ·left; rw [h1 j hj hh]; exact hh
   ·exact .inr hh
  ·have hh := hr j hj
   unfold jY at hh ⊢
   rw [hcur]
   rw [Bool.or_eq_true] at hh ⊢
   rcases hh with hh | hh
   ·exact .inl (h2 j hj hh)
   ·exact .inr hh
 rw [qs hf, qs h]
 have e1 : l6 p s hs' = l6 p s hs := by funext j; unfold l6; rw [hcur]
 have e2 : l7 p s hs' = l7 p s hs := by funext j; unfold l7; rw [hcur]
 rw [hcur, e1, e2]
theorem Iw (h : fy p s hs rs = true) {j : Nat} (hj : j < p.takes.length) (hpop : (aM p s hs rs).pops.getD j false = true) : (hs.getD j aW).has = true := by
 rw [qs h] at hpop
 simp only at hpop
 rw [bn hj] at hpop
 have hh := (mZ.1 h).1 j hj
 unfold hE at hh
 unfold l6 at hpop
 rw [hpop] at hh
 simpa using hh
theorem GL (h : fy p s hs rs = true) {j : Nat} (hj : j < p.puts.length) (hput : ((aM p s hs rs).puts.getD j aW).has = true) : rs.getD j false = true := by
 rw [qs h] at hput
 simp only at hput
 rw [bn hj] at hput
 have hh := (mZ.1 h).2 j hj
 unfold jY at hh
 unfold l7 at hput
 split at hput
 ·rename_i hd; rw [hd] at hh; simpa using hh
 ·cases hput
end
section
variable {c : Ci} {s : Ns} {w w' : Nat → Bool}
theorem Da (hc : bo c) {p : Nat} (hp : p < c.procs.length) {f : Fi} (n : Nat) : ∀ {k : Nat}, k ≤ (bH c p).puts.length → ((o8 (bH c p) f k).filter (fun e => e.1 == n)).length ≤ 1
 | 0, _ => by simp [o8]
 | k + 1, hk => by
  have ih := Da hc hp (f := f) n (k := k) (by omega)
  rw [o8, List.filter_append, List.length_append]
  by_cases h1 : (f.puts.getD k aW).has = true
  ·rw [if_pos h1]
   by_cases e : v4 (bH c p) k = n
   ·have h0 : (o8 (bH c p) f k).filter (fun e => e.1 == n) = [] := by
     rw [List.filter_eq_nil_iff]
     intro z hz hzn
     obtain ⟨j, g1, g2, g3, g4⟩ := qp hz
     have h5 : z.1 = n := by simpa using hzn
     have := hc.pd p hp j k (by omega) (by omega) (by rw [g3, e, h5])
     omega
    rw [h0]
    simp only [List.length_nil, Nat.zero_add]
    exact Nat.le_trans (List.length_filter_le _ _) (by simp)
   ·rw [List.filter_cons_of_neg (by simpa using e), List.filter_nil]; exact ih
  ·rw [if_neg h1]; exact ih
theorem u7 (hc : bo c) {p : Nat} (n : Nat) : (s8 c s p n).length ≤ 1 := by
 by_cases hp : p < c.procs.length
 ·unfold s8; rw [List.length_map]; exact Da hc hp n (Nat.le_refl _)
 ·rw [mc hp]; simp
theorem Ab {p n : Nat} {v : Int} (h : v ∈ s8 c s p n) : ∃ j, j < (bH c p).puts.length ∧ ((ab c s p).puts.getD j aW).has = true ∧ v4 (bH c p) j = n ∧ ((ab c s p).puts.getD j aW).v = v := by
 unfold s8 at h
 rw [List.mem_map] at h
 obtain ⟨e, he, rfl⟩ := h
 rw [List.mem_filter] at he
 obtain ⟨j, h1, h2, h3, h4⟩ := qp he.1
 exact ⟨j, h1, h2, by rw [h3]; simpa using he.2, h4⟩
theorem Db {p n : Nat} {v : Int} (h : v ∈ s8 c s p n) : p < c.procs.length := by
 by_cases hp : p < c.procs.length
 ·exact hp
 ·rw [mc hp] at h; cases h
theorem rR {p n : Nat} (h : e7 c s p n = true) : ∃ j, j < (bH c p).takes.length ∧ (ab c s p).pops.getD j false = true ∧ wi (bH c p) j = n := by
 unfold e7 at h
 exact qo (of_decide_eq_true h)
theorem xj {p n : Nat} (hcan : hJ c s p = true) (h : e7 c s p n = true) : 0 < (fh s n).length := by
 obtain ⟨j, h1, h2, rfl⟩ := rR h
 rw [yx] at hcan
 have := Iw hcan h1 h2
 rw [cC, bn h1] at this
 unfold b3 at this
 split at this
 ·assumption
 ·cases this
theorem j5 {p : Nat} (h : aD c s w p = true) : w p = true ∧ hJ c s p = true := by
 unfold aD at h; simpa using h
theorem gv (c : Ci) (s : Ns) (w : Nat → Bool) {n : Nat} (hn : n < c.chans.length) : fh (a4 c s w) n = cB c s w n := by
 show (tab _ _).getD n [] = _
 rw [bn hn]
theorem qt (c : Ci) (s : Ns) (w : Nat → Bool) {p : Nat} (hp : p < c.procs.length) : zg (a4 c s w) p = bL c s w p := by
 show (tab _ _).getD p ba = _
 rw [bn hp]
theorem qu {α : Type} {a b : List α} {i : Nat} {d : α} : (a ++ b).getD i d = if i < a.length then a.getD i d else b.getD (i - a.length) d := by
 simp only [List.getD, List.getElem?_append]
 split <;> rfl
theorem EJ {α : Type} {a : List α} {k i : Nat} {d : α} : (a.drop k).getD i d = a.getD (k + i) d := by
 simp only [List.getD, List.getElem?_drop]
theorem EK {α : Type} {l : List α} {i : Nat} {d : α} (h : i < l.length) : l.getD i d ∈ l := by
 simp [List.getD, List.getElem?_eq_getElem h]
theorem pb (hc : bo c) (hs : bG c s) (w : Nat → Bool) : bG c (a4 c s w) where
 pl := by rw [a4]; exact aR _ _
 cl := by rw [a4]; exact aR _ _
 pv := fun p hp => by
  rw [qt c s w hp]
  unfold bL
  split
  ·exact wh (hc.pr p hp) (hs.pv p hp) (qn hc hs hp)
  ·exact hs.pv p hp
 cv := fun n hn i hi => by
  rw [gv c s w hn] at hi ⊢
  unfold cB at hi ⊢
  rw [qu]
  split
  ·rename_i h
   rw [EJ]
   rw [List.length_drop] at h
   exact hs.cv n hn _ (by omega)
  ·rename_i h
   rw [List.length_append] at hi
   have hm := EK (d := (0 : Int)) (show i - ((fh s n).drop (cX c s w n)).length < (cH c s w n).length by omega)
   generalize (cH c s w n).getD _ 0 = v at hm
   unfold cH at hm
   split at hm
   ·have hlt := Db hm
    obtain ⟨j, h1, h2, h3, h4⟩ := Ab hm
    have := yr (rs := da c s (fA c n)) (hc.pr _ hlt) (hs.pv _ hlt) (qn hc hs hlt) h1 h2
    rw [← (hc.pt _ hlt j h1).2.2.1, h3] at this
    rw [← h4]; exact this
   ·cases hm
 cc := fun n hn hf hd => by
  rw [gv c s w hn]
  unfold cB
  rw [List.length_append, List.length_drop]
  have h0 := hs.cc n hn hf hd
  unfold cH
  split
  ·rename_i hfi
   have h1 := u7 (s := s) hc (p := fA c n) n
   by_cases h2 : s8 c s (fA c n) n = []
   ·rw [h2]; simp only [List.length_nil]; omega
   ·obtain ⟨v, hv⟩ := List.exists_mem_of_ne_nil _ h2
    have hlt := Db hv
    obtain ⟨j, h1', h2', h3, h4⟩ := Ab hv
    have hcan := (j5 hfi).2
    rw [yx] at hcan
    have hr := GL hcan h1' h2'
    rw [da, bn h1'] at hr
    unfold b4 at hr
    rw [h3] at hr
    simp only [Bool.or_eq_true, decide_eq_true_eq] at hr
    omega
  ·simp only [List.length_nil]; omega
theorem Kj (hc : bo c) {p j : Nat} (hp : p < c.procs.length) (hj : j < (bH c p).puts.length) : fA c (v4 (bH c p) j) = p := by
 rw [fA, (hc.pt p hp j hj).2.2.2]; rfl
theorem Kk (hc : bo c) {p j : Nat} (hp : p < c.procs.length) (hj : j < (bH c p).takes.length) : iR c (wi (bH c p) j) = p := by
 rw [iR, (hc.tk p hp j hj).2.2.2]; rfl
theorem LJ (hc : bo c) {p j : Nat} (hp : p < c.procs.length) (hj : j < (bH c p).takes.length) : wi (bH c p) j < c.chans.length := by
 have := hc.tk p hp j hj
 show (lz (bH c p) j).chan.toNat < _
 omega
theorem LK (hc : bo c) {p j : Nat} (hp : p < c.procs.length) (hj : j < (bH c p).puts.length) : v4 (bH c p) j < c.chans.length := by
 have := hc.pt p hp j hj
 show (sB (bH c p) j).chan.toNat < _
 omega
theorem Dc {n : Nat} (h : w (iR c n) = false) : cX c s w n = 0 := by
 rw [cX, if_neg]
 rintro ⟨h1, _⟩
 rw [(j5 h1).1] at h; cases h
theorem Dd {n : Nat} (h : w (fA c n) = false) : cH c s w n = [] := by
 rw [cH, if_neg]
 intro h1
 rw [(j5 h1).1] at h; cases h
theorem Ac (hc : bo c) {p : Nat} (hp : p < c.procs.length) (hcan : hJ c s p = true) (hw : w p = false) : ab c (a4 c s w) p = ab c s p ∧ zg (a4 c s w) p = zg s p := by
 have hps : zg (a4 c s w) p = zg s p := by
  rw [qt c s w hp, bL, if_neg (by unfold aD; rw [hw]; simp)]
 refine ⟨?_, hps⟩
 unfold ab
 rw [hps]
 rw [yx] at hcan
 refine EI (hc.pr p hp) hcan (fun j hj hh => ?_) (fun j hj hh => ?_)
 ·rw [cC, bn hj] at hh ⊢
  rw [cC, bn hj]
  unfold b3 at hh ⊢
  rw [gv c s w (LJ hc hp hj), cB, Dc (by rw [Kk hc hp hj]; exact hw), List.drop_zero]
  split at hh
  ·rename_i h0
   rw [if_pos h0, if_pos (by rw [List.length_append]; omega), qu, if_pos h0]
  ·cases hh
 ·rw [da, bn hj] at hh ⊢
  unfold b4 at hh ⊢
  rw [gv c s w (LK hc hp hj), cB, Dd (by rw [Kj hc hp hj]; exact hw), List.append_nil, List.length_drop]
  simp only [Bool.or_eq_true, decide_eq_true_eq] at hh ⊢
  omega
theorem xk (h : ∀ p, aD c s w p = aD c s w' p) : a4 c s w = a4 c s w' := by
 have h1 : bL c s w = bL c s w' := by funext p; unfold bL; rw [h p]
 have h2 : cB c s w = cB c s w' := by funext n; unfold cB cX cH; rw [h, h]
 unfold a4; rw [h1, h2]
theorem GM {p : Nat} (h : aD c s w p = false) : bL c s w p = zg s p := by
 unfold bL; rw [if_neg (by rw [h]; simp)]
theorem u9 {p : Nat} (hs : c.procs.length ≤ p) : e7 c s p = fun _ => false := by
 funext n
 cases h : e7 c s p n
 ·rfl
 ·exfalso
  obtain ⟨j, h1, _⟩ := rR h
  have e : bH c p = ax := by rw [bH, List.getD, List.getElem?_eq_none (by omega)]; rfl
  rw [e] at h1
  exact Nat.not_lt_zero _ h1
theorem Ad (hs : bG c s) (h : ∀ p, p < c.procs.length → aD c s w p = false) : a4 c s w = s := by
 have e1 : (a4 c s w).procs = s.procs := by
  refine jX (d := ba) (by rw [a4, aR, hs.pl]) (fun p hp => ?_)
  rw [a4, aR] at hp
  show zg (a4 c s w) p = zg s p
  rw [qt c s w hp, GM (h p hp)]
 have e2 : (a4 c s w).chans = s.chans := by
  refine jX (d := []) (by rw [a4, aR, hs.cl]) (fun n hn => ?_)
  rw [a4, aR] at hn
  show fh (a4 c s w) n = fh s n
  rw [gv c s w hn, cB]
  have h1 : cX c s w n = 0 := by
   rw [cX]
   by_cases hd : iR c n < c.procs.length
   ·rw [h _ hd]; simp
   ·rw [if_neg]
    rintro ⟨_, h2⟩
    rw [u9 (by omega)] at h2; cases h2
  have h2 : cH c s w n = [] := by
   rw [cH]
   by_cases hd : fA c n < c.procs.length
   ·rw [h _ hd]; simp
   ·split
    ·exact mc hd
    ·rfl
  rw [h1, h2]; simp
 cases s; cases hq : a4 c _ w
 rw [hq] at e1 e2
 simp only at e1 e2
 rw [e1, e2]
def cE (p : Nat) : Nat → Bool := fun q => decide (q = p)
theorem xl (p : Nat) : cE p p = true := by simp [cE]
theorem De {p q : Nat} (h : q ≠ p) : cE p q = false := by simp [cE, h]
theorem Ix (hc : bo c) {p : Nat} (hp : p < c.procs.length) (hcan : hJ c s p = true) (hw : w p = false) : a4 c (a4 c s w) (cE p) = a4 c s (fun q => w q || cE p q) := by
 obtain ⟨hst, hps⟩ := Ac (w := w) hc hp hcan hw
 have hcan2 : hJ c (a4 c s w) p = true := by unfold hJ; rw [hst]; exact hcan
 have hfp : aD c (a4 c s w) (cE p) p = true := by unfold aD; rw [xl, hcan2]; rfl
 have hfq : ∀ q, q ≠ p → aD c (a4 c s w) (cE p) q = false := fun q hq => by unfold aD; rw [De hq]; rfl
 have gp : aD c s (fun q => w q || cE p q) p = true := by unfold aD; simp [xl, hcan]
 have gq : ∀ q, q ≠ p → aD c s (fun q => w q || cE p q) q = aD c s w q := fun q hq => by unfold aD; simp [De hq]
 have e1 : ∀ q, q < c.procs.length → bL c (a4 c s w) (cE p) q = bL c s (fun q => w q || cE p q) q := by
  intro q hq
  unfold bL
  by_cases e : q = p
  ·subst e; rw [if_pos hfp, if_pos gp, hst]
  ·rw [hfq q e, gq q e, if_neg (by simp), qt c s w hq]; rfl
 have hfw : aD c s w p = false := by unfold aD; rw [hw]; rfl
 have e2 : ∀ n, n < c.chans.length → cB c (a4 c s w) (cE p) n = cB c s (fun q => w q || cE p q) n := by
  intro n hn
  unfold cB
  rw [gv c s w hn, cB]
  have hcome : cH c (a4 c s w) (cE p) n = if fA c n = p then s8 c s p n else [] := by
   unfold cH
   by_cases e : fA c n = p
   ·rw [if_pos e, e, if_pos hfp]; unfold s8; rw [hst]
   ·rw [if_neg e, hfq _ e]; simp
  have hcome2 : cH c s (fun q => w q || cE p q) n = if fA c n = p then s8 c s p n else cH c s w n := by
   unfold cH
   by_cases e : fA c n = p
   ·rw [if_pos e, e, if_pos gp]
   ·rw [if_neg e, gq _ e]
  have hcome3 : fA c n = p → cH c s w n = [] := fun e => Dd (by rw [e]; exact hw)
  have hgone : cX c (a4 c s w) (cE p) n = if iR c n = p ∧ e7 c s p n = true then 1 else 0 := by
   unfold cX
   by_cases e : iR c n = p
   ·rw [e]
    have : e7 c (a4 c s w) p n = e7 c s p n := by unfold e7; rw [hst]
    rw [this, hfp]; simp
   ·rw [hfq _ e, if_neg (by simp), if_neg (by simp [e])]
  have hgone2 : cX c s (fun q => w q || cE p q) n = if iR c n = p ∧ e7 c s p n = true then 1 else cX c s w n := by
   unfold cX
   by_cases e : iR c n = p
   ·rw [e, gp, hfw]; simp
   ·rw [gq _ e]; simp [e]
  have hgone3 : iR c n = p → cX c s w n = 0 := fun e => Dc (by rw [e]; exact hw)
  rw [hcome, hcome2, hgone, hgone2]
  have key : ∀ (z : List Int), (if fA c n = p then cH c s w n ++ z else cH c s w n) = (if fA c n = p then z else cH c s w n) := by
   intro z; split
   ·rename_i e; rw [hcome3 e]; rfl
   ·rfl
  by_cases ht : iR c n = p ∧ e7 c s p n = true
  ·rw [if_pos ht, if_pos ht, hgone3 ht.1, List.drop_zero]
   have h0 := xj hcan ht.2
   rw [List.drop_append_of_le_length (by omega)]
   by_cases e : fA c n = p
   ·rw [if_pos e, if_pos e, hcome3 e, List.append_nil]
   ·rw [if_neg e, if_neg e, List.append_nil]
  ·rw [if_neg ht, if_neg ht, List.drop_zero]
   by_cases e : fA c n = p
   ·rw [if_pos e, if_pos e, hcome3 e, List.append_nil]
   ·rw [if_neg e, if_neg e, List.append_nil]
 unfold a4
 rw [show tab (bL c ⟨tab (bL c s w) c.procs.length, tab (cB c s w) c.chans.length⟩ (cE p)) c.procs.length = tab (bL c s (fun q => w q || cE p q)) c.procs.length from ie e1,
  show tab (cB c ⟨tab (bL c s w) c.procs.length, tab (cB c s w) c.chans.length⟩ (cE p)) c.chans.length = tab (cB c s (fun q => w q || cE p q)) c.chans.length from ie e2]
end
end Go.Proofs.YtgmpoenfoacofaaGreat
