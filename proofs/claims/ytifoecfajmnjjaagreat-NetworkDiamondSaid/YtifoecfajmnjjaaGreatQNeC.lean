/-
  Circuits, plain law: states stay states; a process that can fire still can after others; firing one after the other.
-/
import Derived.Test.YtifoecfajmnjjaaGreatQNeB
namespace Go.Proofs.YtifoecfajmnjjaaGreat
open Go.RowKit
set_option linter.unusedVariables false
set_option linter.unusedSimpArgs false
section
variable {p : Pr} {s : Ps} {hs hs' : List Hd} {rs rs' : List Bool}
theorem pG : ig p s hs rs = true ↔ (∀ j, j < p.takes.length → jK p s hs j = true) ∧ ∀ j, j < p.puts.length → lY p s hs rs j = true := by
 unfold ig
 rw [Bool.and_eq_true, ce, ce]
theorem sv (h : ig p s hs rs = true) : aY p s hs rs = ⟨true, db p s (cB p s hs), ao (oG p s hs) p.takes.length, ao (oH p s hs) p.puts.length⟩ := if_pos h
theorem yl (hp : iA p) (h : ig p s hs rs = true) (h1 : ∀ j, j < p.takes.length → (hs.getD j aK).has = true → hs'.getD j aK = hs.getD j aK)
  (h2 : ∀ j, j < p.puts.length → rs.getD j false = true → rs'.getD j false = true) : aY p s hs' rs' = aY p s hs rs := by
 obtain ⟨ht, hr⟩ := pG.1 h
 have hcur : cB p s hs' = cB p s hs := by
  unfold cB
  refine iK (fun j hj => ?_)
  unfold nU
  by_cases hd : eT p s (kz p) (nN p j).when = true
  ·have hh := ht j hj
   unfold jK at hh
   have hdue : eT p s (cB p s hs) (nN p j).when = true := by rw [← hd]; exact (j7 hp hj _ _).1
   have hhas : (hs.getD j aK).has = true := by rw [hdue] at hh; simpa using hh
   rw [h1 j hj hhas]
  ·rw [if_neg (by rintro ⟨a, _⟩; exact hd a), if_neg (by rintro ⟨a, _⟩; exact hd a)]
 have hf : ig p s hs' rs' = true := by
  rw [pG]
  refine ⟨fun j hj => ?_, fun j hj => ?_⟩
  ·have hh := ht j hj
   unfold jK at hh ⊢
   rw [hcur]
   rw [Bool.or_eq_true] at hh ⊢
   rcases hh with hh | hh
   ·left; rw [h1 j hj hh]; exact hh
   ·exact .inr hh
  ·have hh := hr j hj
   unfold lY at hh ⊢
   rw [hcur]
   rw [Bool.or_eq_true] at hh ⊢
   rcases hh with hh | hh
   ·exact .inl (h2 j hj hh)
   ·exact .inr hh
 rw [sv hf, sv h]
 have e1 : oG p s hs' = oG p s hs := by funext j; unfold oG; rw [hcur]
 have e2 : oH p s hs' = oH p s hs := by funext j; unfold oH; rw [hcur]
 rw [hcur, e1, e2]
theorem JQ (h : ig p s hs rs = true) {j : Nat} (hj : j < p.takes.length) (hpop : (aY p s hs rs).pops.getD j false = true) : (hs.getD j aK).has = true := by
 rw [sv h] at hpop
 simp only at hpop
 rw [bf hj] at hpop
 have hh := (pG.1 h).1 j hj
 unfold jK at hh
 unfold oG at hpop
 rw [hpop] at hh
 simpa using hh
theorem H8 (h : ig p s hs rs = true) {j : Nat} (hj : j < p.puts.length) (hput : ((aY p s hs rs).puts.getD j aK).has = true) : rs.getD j false = true := by
 rw [sv h] at hput
 simp only at hput
 rw [bf hj] at hput
 have hh := (pG.1 h).2 j hj
 unfold lY at hh
 unfold oH at hput
 split at hput
 ·rename_i hd; rw [hd] at hh; simpa using hh
 ·cases hput
end
section
variable {c : Ci} {s : Ns} {w w' : Nat → Bool}
theorem EK (hc : bo c) {p : Nat} (hp : p < c.procs.length) {f : Fi} (n : Nat) : ∀ {k : Nat}, k ≤ (aB c p).puts.length → ((iL (aB c p) f k).filter (fun e => e.1 == n)).length ≤ 1
 | 0, _ => by simp [iL]
 | k + 1, hk => by
  have ih := EK hc hp (f := f) n (k := k) (by omega)
  rw [iL, List.filter_append, List.length_append]
  by_cases h1 : (f.puts.getD k aK).has = true
  ·rw [if_pos h1]
   by_cases e : cC (aB c p) k = n
   ·have h0 : (iL (aB c p) f k).filter (fun e => e.1 == n) = [] := by
     rw [List.filter_eq_nil_iff]
     intro z hz hzn
     obtain ⟨j, g1, g2, g3, g4⟩ := ss hz
     have h5 : z.1 = n := by simpa using hzn
     have := hc.pd p hp j k (by omega) (by omega) (by rw [g3, e, h5])
     omega
    rw [h0]
    simp only [List.length_nil, Nat.zero_add]
    exact Nat.le_trans (List.length_filter_le _ _) (by simp)
   ·rw [List.filter_cons_of_neg (by simpa using e), List.filter_nil]; exact ih
  ·rw [if_neg h1]; exact ih
theorem wF (hc : bo c) {p : Nat} (n : Nat) : (tQ c s p n).length ≤ 1 := by
 by_cases hp : p < c.procs.length
 ·unfold tQ; rw [List.length_map]; exact EK hc hp n (Nat.le_refl _)
 ·rw [oP hp]; simp
theorem Bg {p n : Nat} {v : Int} (h : v ∈ tQ c s p n) : ∃ j, j < (aB c p).puts.length ∧ ((ac c s p).puts.getD j aK).has = true ∧ cC (aB c p) j = n ∧ ((ac c s p).puts.getD j aK).v = v := by
 unfold tQ at h
 rw [List.mem_map] at h
 obtain ⟨e, he, rfl⟩ := h
 rw [List.mem_filter] at he
 obtain ⟨j, h1, h2, h3, h4⟩ := ss he.1
 exact ⟨j, h1, h2, by rw [h3]; simpa using he.2, h4⟩
theorem EL {p n : Nat} {v : Int} (h : v ∈ tQ c s p n) : p < c.procs.length := by
 by_cases hp : p < c.procs.length
 ·exact hp
 ·rw [oP hp] at h; cases h
theorem ym {p n : Nat} (h : gg c s p n = true) : ∃ j, j < (aB c p).takes.length ∧ (ac c s p).pops.getD j false = true ∧ cR (aB c p) j = n := by
 unfold gg at h
 exact pE (of_decide_eq_true h)
theorem yn {p n : Nat} (hcan : dD c s p = true) (h : gg c s p n = true) : 0 < (gj s n).length := by
 obtain ⟨j, h1, h2, rfl⟩ := ym h
 rw [wE] at hcan
 have := JQ hcan h1 h2
 rw [cT, bf h1] at this
 unfold cH at this
 split at this
 ·assumption
 ·cases this
theorem l5 {p : Nat} (h : ai c s w p = true) : w p = true ∧ dD c s p = true := by
 unfold ai at h; simpa using h
theorem kA (c : Ci) (s : Ns) (w : Nat → Bool) {n : Nat} (hn : n < c.chans.length) : gj (ak c s w) n = dp c s w n := by
 show (ao _ _).getD n [] = _
 rw [bf hn]
theorem sw (c : Ci) (s : Ns) (w : Nat → Bool) {p : Nat} (hp : p < c.procs.length) : xw (ak c s w) p = bZ c s w p := by
 show (ao _ _).getD p aU = _
 rw [bf hp]
theorem oQ {α : Type} {a b : List α} {i : Nat} {d : α} : (a ++ b).getD i d = if i < a.length then a.getD i d else b.getD (i - a.length) d := by
 simp only [List.getD, List.getElem?_append]
 split <;> rfl
theorem F9 {α : Type} {a : List α} {k i : Nat} {d : α} : (a.drop k).getD i d = a.getD (k + i) d := by
 simp only [List.getD, List.getElem?_drop]
theorem yo {α : Type} {l : List α} {i : Nat} {d : α} (h : i < l.length) : l.getD i d ∈ l := by
 simp [List.getD, List.getElem?_eq_getElem h]
theorem aW (hc : bo c) (hs : bN c s) (w : Nat → Bool) : bN c (ak c s w) where
 pl := by rw [ak]; exact aN _ _
 cl := by rw [ak]; exact aN _ _
 pv := fun p hp => by
  rw [sw c s w hp]
  unfold bZ
  split
  ·exact qF (hc.pr p hp) (hs.pv p hp) (oM hc hs hp)
  ·exact hs.pv p hp
 cv := fun n hn i hi => by
  rw [kA c s w hn] at hi ⊢
  unfold dp at hi ⊢
  rw [oQ]
  split
  ·rename_i h
   rw [F9]
   rw [List.length_drop] at h
   exact hs.cv n hn _ (by omega)
  ·rename_i h
   rw [List.length_append] at hi
   have hm := yo (d := (0 : Int)) (show i - ((gj s n).drop (dc c s w n)).length < (cL c s w n).length by omega)
   generalize (cL c s w n).getD _ 0 = v at hm
   unfold cL at hm
   split at hm
   ·have hlt := EL hm
    obtain ⟨j, h1, h2, h3, h4⟩ := Bg hm
    have := zF (rs := dK c s (fh c n)) (hc.pr _ hlt) (hs.pv _ hlt) (oM hc hs hlt) h1 h2
    rw [← (hc.pt _ hlt j h1).2.2.1, h3] at this
    rw [← h4]; exact this
   ·cases hm
 cc := fun n hn hf hd => by
  rw [kA c s w hn]
  unfold dp
  rw [List.length_append, List.length_drop]
  have h0 := hs.cc n hn hf hd
  unfold cL
  split
  ·rename_i hfi
   have h1 := wF (s := s) hc (p := fh c n) n
   by_cases h2 : tQ c s (fh c n) n = []
   ·rw [h2]; simp only [List.length_nil]; omega
   ·obtain ⟨v, hv⟩ := List.exists_mem_of_ne_nil _ h2
    have hlt := EL hv
    obtain ⟨j, h1', h2', h3, h4⟩ := Bg hv
    have hcan := (l5 hfi).2
    rw [wE] at hcan
    have hr := H8 hcan h1' h2'
    rw [dK, bf h1'] at hr
    unfold cI at hr
    rw [h3] at hr
    simp only [Bool.or_eq_true, decide_eq_true_eq] at hr
    omega
  ·simp only [List.length_nil]; omega
theorem Lf (hc : bo c) {p j : Nat} (hp : p < c.procs.length) (hj : j < (aB c p).puts.length) : fh c (cC (aB c p) j) = p := by
 rw [fh, (hc.pt p hp j hj).2.2.2]; rfl
theorem H9 (hc : bo c) {p j : Nat} (hp : p < c.procs.length) (hj : j < (aB c p).takes.length) : fu c (cR (aB c p) j) = p := by
 rw [fu, (hc.tk p hp j hj).2.2.2]; rfl
theorem yp (hc : bo c) {p j : Nat} (hp : p < c.procs.length) (hj : j < (aB c p).takes.length) : cR (aB c p) j < c.chans.length := by
 have := hc.tk p hp j hj
 show (nN (aB c p) j).chan.toNat < _
 omega
theorem Bh (hc : bo c) {p j : Nat} (hp : p < c.procs.length) (hj : j < (aB c p).puts.length) : cC (aB c p) j < c.chans.length := by
 have := hc.pt p hp j hj
 show (uI (aB c p) j).chan.toNat < _
 omega
theorem EM {n : Nat} (h : w (fu c n) = false) : dc c s w n = 0 := by
 rw [dc, if_neg]
 rintro ⟨h1, _⟩
 rw [(l5 h1).1] at h; cases h
theorem EN {n : Nat} (h : w (fh c n) = false) : cL c s w n = [] := by
 rw [cL, if_neg]
 intro h1
 rw [(l5 h1).1] at h; cases h
theorem wG (hc : bo c) {p : Nat} (hp : p < c.procs.length) (hcan : dD c s p = true) (hw : w p = false) : ac c (ak c s w) p = ac c s p ∧ xw (ak c s w) p = xw s p := by
 have hps : xw (ak c s w) p = xw s p := by
  rw [sw c s w hp, bZ, if_neg (by unfold ai; rw [hw]; simp)]
 refine ⟨?_, hps⟩
 unfold ac
 rw [hps]
 rw [wE] at hcan
 refine yl (hc.pr p hp) hcan (fun j hj hh => ?_) (fun j hj hh => ?_)
 ·rw [cT, bf hj] at hh ⊢
  rw [cT, bf hj]
  unfold cH at hh ⊢
  rw [kA c s w (yp hc hp hj), dp, EM (by rw [H9 hc hp hj]; exact hw), List.drop_zero]
  split at hh
  ·rename_i h0
   rw [if_pos h0, if_pos (by rw [List.length_append]; omega), oQ, if_pos h0]
  ·cases hh
 ·rw [dK, bf hj] at hh ⊢
  unfold cI at hh ⊢
  rw [kA c s w (Bh hc hp hj), dp, EN (by rw [Lf hc hp hj]; exact hw), List.append_nil, List.length_drop]
  simp only [Bool.or_eq_true, decide_eq_true_eq] at hh ⊢
  omega
theorem l6 (h : ∀ p, ai c s w p = ai c s w' p) : ak c s w = ak c s w' := by
 have h1 : bZ c s w = bZ c s w' := by funext p; unfold bZ; rw [h p]
 have h2 : dp c s w = dp c s w' := by funext n; unfold dp dc cL; rw [h, h]
 unfold ak; rw [h1, h2]
theorem Ia {p : Nat} (h : ai c s w p = false) : bZ c s w p = xw s p := by
 unfold bZ; rw [if_neg (by rw [h]; simp)]
theorem Bi {p : Nat} (hs : c.procs.length ≤ p) : gg c s p = fun _ => false := by
 funext n
 cases h : gg c s p n
 ·rfl
 ·exfalso
  obtain ⟨j, h1, _⟩ := ym h
  have e : aB c p = ay := by rw [aB, List.getD, List.getElem?_eq_none (by omega)]; rfl
  rw [e] at h1
  exact Nat.not_lt_zero _ h1
theorem sx (hs : bN c s) (h : ∀ p, p < c.procs.length → ai c s w p = false) : ak c s w = s := by
 have e1 : (ak c s w).procs = s.procs := by
  refine ky (d := aU) (by rw [ak, aN, hs.pl]) (fun p hp => ?_)
  rw [ak, aN] at hp
  show xw (ak c s w) p = xw s p
  rw [sw c s w hp, Ia (h p hp)]
 have e2 : (ak c s w).chans = s.chans := by
  refine ky (d := []) (by rw [ak, aN, hs.cl]) (fun n hn => ?_)
  rw [ak, aN] at hn
  show gj (ak c s w) n = gj s n
  rw [kA c s w hn, dp]
  have h1 : dc c s w n = 0 := by
   rw [dc]
   by_cases hd : fu c n < c.procs.length
   ·rw [h _ hd]; simp
   ·rw [if_neg]
    rintro ⟨_, h2⟩
    rw [Bi (by omega)] at h2; cases h2
  have h2 : cL c s w n = [] := by
   rw [cL]
   by_cases hd : fh c n < c.procs.length
   ·rw [h _ hd]; simp
   ·split
    ·exact oP hd
    ·rfl
  rw [h1, h2]; simp
 cases s; cases hq : ak c _ w
 rw [hq] at e1 e2
 simp only at e1 e2
 rw [e1, e2]
def b4 (p : Nat) : Nat → Bool := fun q => decide (q = p)
theorem tR (p : Nat) : b4 p p = true := by simp [b4]
theorem i4 {p q : Nat} (h : q ≠ p) : b4 p q = false := by simp [b4, h]
theorem vo (hc : bo c) {p : Nat} (hp : p < c.procs.length) (hcan : dD c s p = true) (hw : w p = false) : ak c (ak c s w) (b4 p) = ak c s (fun q => w q || b4 p q) := by
 obtain ⟨hst, hps⟩ := wG (w := w) hc hp hcan hw
 have hcan2 : dD c (ak c s w) p = true := by unfold dD; rw [hst]; exact hcan
 have hfp : ai c (ak c s w) (b4 p) p = true := by unfold ai; rw [tR, hcan2]; rfl
 have hfq : ∀ q, q ≠ p → ai c (ak c s w) (b4 p) q = false := fun q hq => by unfold ai; rw [i4 hq]; rfl
 have gp : ai c s (fun q => w q || b4 p q) p = true := by unfold ai; simp [tR, hcan]
 have gq : ∀ q, q ≠ p → ai c s (fun q => w q || b4 p q) q = ai c s w q := fun q hq => by unfold ai; simp [i4 hq]
 have e1 : ∀ q, q < c.procs.length → bZ c (ak c s w) (b4 p) q = bZ c s (fun q => w q || b4 p q) q := by
  intro q hq
  unfold bZ
  by_cases e : q = p
  ·subst e; rw [if_pos hfp, if_pos gp, hst]
  ·rw [hfq q e, gq q e, if_neg (by simp), sw c s w hq]; rfl
 have hfw : ai c s w p = false := by unfold ai; rw [hw]; rfl
 have e2 : ∀ n, n < c.chans.length → dp c (ak c s w) (b4 p) n = dp c s (fun q => w q || b4 p q) n := by
  intro n hn
  unfold dp
  rw [kA c s w hn, dp]
  have hcome : cL c (ak c s w) (b4 p) n = if fh c n = p then tQ c s p n else [] := by
   unfold cL
   by_cases e : fh c n = p
   ·rw [if_pos e, e, if_pos hfp]; unfold tQ; rw [hst]
   ·rw [if_neg e, hfq _ e]; simp
  have hcome2 : cL c s (fun q => w q || b4 p q) n = if fh c n = p then tQ c s p n else cL c s w n := by
   unfold cL
   by_cases e : fh c n = p
   ·rw [if_pos e, e, if_pos gp]
   ·rw [if_neg e, gq _ e]
  have hcome3 : fh c n = p → cL c s w n = [] := fun e => EN (by rw [e]; exact hw)
  have hgone : dc c (ak c s w) (b4 p) n = if fu c n = p ∧ gg c s p n = true then 1 else 0 := by
   unfold dc
   by_cases e : fu c n = p
   ·rw [e]
    have : gg c (ak c s w) p n = gg c s p n := by unfold gg; rw [hst]
    rw [this, hfp]; simp
   ·rw [hfq _ e, if_neg (by simp), if_neg (by simp [e])]
  have hgone2 : dc c s (fun q => w q || b4 p q) n = if fu c n = p ∧ gg c s p n = true then 1 else dc c s w n := by
   unfold dc
   by_cases e : fu c n = p
   ·rw [e, gp, hfw]; simp
   ·rw [gq _ e]; simp [e]
  have hgone3 : fu c n = p → dc c s w n = 0 := fun e => EM (by rw [e]; exact hw)
  rw [hcome, hcome2, hgone, hgone2]
  have key : ∀ (z : List Int), (if fh c n = p then cL c s w n ++ z else cL c s w n) = (if fh c n = p then z else cL c s w n) := by
   intro z; split
   ·rename_i e; rw [hcome3 e]; rfl
   ·rfl
  by_cases ht : fu c n = p ∧ gg c s p n = true
  ·rw [if_pos ht, if_pos ht, hgone3 ht.1, List.drop_zero]
   have h0 := yn hcan ht.2
   rw [List.drop_append_of_le_length (by omega)]
   by_cases e : fh c n = p
   ·rw [if_pos e, if_pos e, hcome3 e, List.append_nil]
   ·rw [if_neg e, if_neg e, List.append_nil]
  ·rw [if_neg ht, if_neg ht, List.drop_zero]
   by_cases e : fh c n = p
   ·rw [if_pos e, if_pos e, hcome3 e, List.append_nil]
   ·rw [if_neg e, if_neg e, List.append_nil]
 unfold ak
 rw [show ao (bZ c ⟨ao (bZ c s w) c.procs.length, ao (dp c s w) c.chans.length⟩ (b4 p)) c.procs.length = ao (bZ c s (fun q => w q || b4 p q)) c.procs.length from iK e1,
  show ao (dp c ⟨ao (bZ c s w) c.procs.length, ao (dp c s w) c.chans.length⟩ (b4 p)) c.chans.length = ao (dp c s (fun q => w q || b4 p q)) c.chans.length from iK e2]
end
end Go.Proofs.YtifoecfajmnjjaaGreat
