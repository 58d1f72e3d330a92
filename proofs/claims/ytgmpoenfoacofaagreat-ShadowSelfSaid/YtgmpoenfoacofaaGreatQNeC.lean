/-
  Circuits, plain law: states stay states; a process that can fire still can after others; firing one after the other.
-/
import Derived.Test.YtgmpoenfoacofaaGreatQNeB
namespace Go.Proofs.YtgmpoenfoacofaaGreat
open Go.RowKit
set_option linter.unusedVariables false
set_option linter.unusedSimpArgs false
section
variable {p : Pr} {s : Ps} {hs hs' : List Hd} {rs rs' : List Bool}
theorem mf : ff p s hs rs = true ↔ (∀ j, j < p.takes.length → gG p s hs j = true) ∧ ∀ j, j < p.puts.length → js p s hs rs j = true := by
 unfold ff
 rw [Bool.and_eq_true, br, br]
theorem pz (h : ff p s hs rs = true) : aK p s hs rs = ⟨true, cj p s (bM p s hs), tab (ll p s hs) p.takes.length, tab (lm p s hs) p.puts.length⟩ := if_pos h
theorem wg (hp : fV p) (h : ff p s hs rs = true) (h1 : ∀ j, j < p.takes.length → (hs.getD j aU).has = true → hs'.getD j aU = hs.getD j aU)
  (h2 : ∀ j, j < p.puts.length → rs.getD j false = true → rs'.getD j false = true) : aK p s hs' rs' = aK p s hs rs := by
 obtain ⟨ht, hr⟩ := mf.1 h
 have hcur : bM p s hs' = bM p s hs := by
  unfold bM
  refine gQ (fun j hj => ?_)
  unfold kP
  by_cases hd : dQ p s (im p) (kJ p j).when = true
  ·have hh := ht j hj
   unfold gG at hh
   have hdue : dQ p s (bM p s hs) (kJ p j).when = true := by rw [← hd]; exact (gR hp hj _ _).1
   have hhas : (hs.getD j aU).has = true := by rw [hdue] at hh; simpa using hh
   rw [h1 j hj hhas]
  ·rw [if_neg (by rintro ⟨a, _⟩; exact hd a), if_neg (by rintro ⟨a, _⟩; exact hd a)]
 have hf : ff p s hs' rs' = true := by
  rw [mf]
  refine ⟨fun j hj => ?_, fun j hj => ?_⟩
  ·have hh := ht j hj
   unfold gG at hh ⊢
   rw [hcur]
   rw [Bool.or_eq_true] at hh ⊢
   rcases hh with hh | hh
   ·left; rw [h1 j hj hh]; exact hh
   ·exact .inr hh
  ·have hh := hr j hj
   unfold js at hh ⊢
   rw [hcur]
   rw [Bool.or_eq_true] at hh ⊢
   rcases hh with hh | hh
   ·exact .inl (h2 j hj hh)
   ·exact .inr hh
 rw [pz hf, pz h]
 have e1 : ll p s hs' = ll p s hs := by funext j; unfold ll; rw [hcur]
 have e2 : lm p s hs' = lm p s hs := by funext j; unfold lm; rw [hcur]
 rw [hcur, e1, e2]
theorem Hq (h : ff p s hs rs = true) {j : Nat} (hj : j < p.takes.length) (hpop : (aK p s hs rs).pops.getD j false = true) : (hs.getD j aU).has = true := by
 rw [pz h] at hpop
 simp only at hpop
 rw [bj hj] at hpop
 have hh := (mf.1 h).1 j hj
 unfold gG at hh
 unfold ll at hpop
 rw [hpop] at hh
 simpa using hh
theorem FH (h : ff p s hs rs = true) {j : Nat} (hj : j < p.puts.length) (hput : ((aK p s hs rs).puts.getD j aU).has = true) : rs.getD j false = true := by
 rw [pz h] at hput
 simp only at hput
 rw [bj hj] at hput
 have hh := (mf.1 h).2 j hj
 unfold js at hh
 unfold lm at hput
 split at hput
 ·rename_i hd; rw [hd] at hh; simpa using hh
 ·cases hput
end
section
variable {c : Ci} {s : Ns} {w w' : Nat → Bool}
theorem B5 (hc : a8 c) {p : Nat} (hp : p < c.procs.length) {f : Fi} (n : Nat) : ∀ {k : Nat}, k ≤ (bI c p).puts.length → ((nN (bI c p) f k).filter (fun e => e.1 == n)).length ≤ 1
 | 0, _ => by simp [nN]
 | k + 1, hk => by
  have ih := B5 hc hp (f := f) n (k := k) (by omega)
  rw [nN, List.filter_append, List.length_append]
  by_cases h1 : (f.puts.getD k aU).has = true
  ·rw [if_pos h1]
   by_cases e : uW (bI c p) k = n
   ·have h0 : (nN (bI c p) f k).filter (fun e => e.1 == n) = [] := by
     rw [List.filter_eq_nil_iff]
     intro z hz hzn
     obtain ⟨j, g1, g2, g3, g4⟩ := me hz
     have h5 : z.1 = n := by simpa using hzn
     have := hc.pd p hp j k (by omega) (by omega) (by rw [g3, e, h5])
     omega
    rw [h0]
    simp only [List.length_nil, Nat.zero_add]
    exact Nat.le_trans (List.length_filter_le _ _) (by simp)
   ·rw [List.filter_cons_of_neg (by simpa using e), List.filter_nil]; exact ih
  ·rw [if_neg h1]; exact ih
theorem t0 (hc : a8 c) {p : Nat} (n : Nat) : (nO c s p n).length ≤ 1 := by
 by_cases hp : p < c.procs.length
 ·unfold nO; rw [List.length_map]; exact B5 hc hp n (Nat.le_refl _)
 ·rw [ju hp]; simp
theorem zc {p n : Nat} {v : Int} (h : v ∈ nO c s p n) : ∃ j, j < (bI c p).puts.length ∧ ((ab c s p).puts.getD j aU).has = true ∧ uW (bI c p) j = n ∧ ((ab c s p).puts.getD j aU).v = v := by
 unfold nO at h
 rw [List.mem_map] at h
 obtain ⟨e, he, rfl⟩ := h
 rw [List.mem_filter] at he
 obtain ⟨j, h1, h2, h3, h4⟩ := me he.1
 exact ⟨j, h1, h2, by rw [h3]; simpa using he.2, h4⟩
theorem B6 {p n : Nat} {v : Int} (h : v ∈ nO c s p n) : p < c.procs.length := by
 by_cases hp : p < c.procs.length
 ·exact hp
 ·rw [ju hp] at h; cases h
theorem qL {p n : Nat} (h : eE c s p n = true) : ∃ j, j < (bI c p).takes.length ∧ (ab c s p).pops.getD j false = true ∧ vb (bI c p) j = n := by
 unfold eE at h
 exact px (of_decide_eq_true h)
theorem wh {p n : Nat} (hcan : cS c s p = true) (h : eE c s p n = true) : 0 < (ef s n).length := by
 obtain ⟨j, h1, h2, rfl⟩ := qL h
 rw [tZ] at hcan
 have := Hq hcan h1 h2
 rw [ck, bj h1] at this
 unfold bS at this
 split at this
 ·assumption
 ·cases this
theorem jv {p : Nat} (h : aC c s w p = true) : w p = true ∧ cS c s p = true := by
 unfold aC at h; simpa using h
theorem en (c : Ci) (s : Ns) (w : Nat → Bool) {n : Nat} (hn : n < c.chans.length) : ef (aF c s w) n = cy c s w n := by
 show (tab _ _).getD n [] = _
 rw [bj hn]
theorem pA (c : Ci) (s : Ns) (w : Nat → Bool) {p : Nat} (hp : p < c.procs.length) : xy (aF c s w) p = bD c s w p := by
 show (tab _ _).getD p bw = _
 rw [bj hp]
theorem lv {α : Type} {a b : List α} {i : Nat} {d : α} : (a ++ b).getD i d = if i < a.length then a.getD i d else b.getD (i - a.length) d := by
 simp only [List.getD, List.getElem?_append]
 split <;> rfl
theorem DG {α : Type} {a : List α} {k i : Nat} {d : α} : (a.drop k).getD i d = a.getD (k + i) d := by
 simp only [List.getD, List.getElem?_drop]
theorem DH {α : Type} {l : List α} {i : Nat} {d : α} (h : i < l.length) : l.getD i d ∈ l := by
 simp [List.getD, List.getElem?_eq_getElem h]
theorem gi (hc : a8 c) (hs : bG c s) (w : Nat → Bool) : bG c (aF c s w) where
 pl := by rw [aF]; exact aJ _ _
 cl := by rw [aF]; exact aJ _ _
 pv := fun p hp => by
  rw [pA c s w hp]
  unfold bD
  split
  ·exact u9 (hc.pr p hp) (hs.pv p hp) (pu hc hs hp)
  ·exact hs.pv p hp
 cv := fun n hn i hi => by
  rw [en c s w hn] at hi ⊢
  unfold cy at hi ⊢
  rw [lv]
  split
  ·rename_i h
   rw [DG]
   rw [List.length_drop] at h
   exact hs.cv n hn _ (by omega)
  ·rename_i h
   rw [List.length_append] at hi
   have hm := DH (d := (0 : Int)) (show i - ((ef s n).drop (cF c s w n)).length < (cb c s w n).length by omega)
   generalize (cb c s w n).getD _ 0 = v at hm
   unfold cb at hm
   split at hm
   ·have hlt := B6 hm
    obtain ⟨j, h1, h2, h3, h4⟩ := zc hm
    have := xu (rs := cR c s (eP c n)) (hc.pr _ hlt) (hs.pv _ hlt) (pu hc hs hlt) h1 h2
    rw [← (hc.pt _ hlt j h1).2.2.1, h3] at this
    rw [← h4]; exact this
   ·cases hm
 cc := fun n hn hf hd => by
  rw [en c s w hn]
  unfold cy
  rw [List.length_append, List.length_drop]
  have h0 := hs.cc n hn hf hd
  unfold cb
  split
  ·rename_i hfi
   have h1 := t0 (s := s) hc (p := eP c n) n
   by_cases h2 : nO c s (eP c n) n = []
   ·rw [h2]; simp only [List.length_nil]; omega
   ·obtain ⟨v, hv⟩ := List.exists_mem_of_ne_nil _ h2
    have hlt := B6 hv
    obtain ⟨j, h1', h2', h3, h4⟩ := zc hv
    have hcan := (jv hfi).2
    rw [tZ] at hcan
    have hr := FH hcan h1' h2'
    rw [cR, bj h1'] at hr
    unfold bU at hr
    rw [h3] at hr
    simp only [Bool.or_eq_true, decide_eq_true_eq] at hr
    omega
  ·simp only [List.length_nil]; omega
theorem Jj (hc : a8 c) {p j : Nat} (hp : p < c.procs.length) (hj : j < (bI c p).puts.length) : eP c (uW (bI c p) j) = p := by
 rw [eP, (hc.pt p hp j hj).2.2.2]; rfl
theorem Jk (hc : a8 c) {p j : Nat} (hp : p < c.procs.length) (hj : j < (bI c p).takes.length) : gJ c (vb (bI c p) j) = p := by
 rw [gJ, (hc.tk p hp j hj).2.2.2]; rfl
theorem Kv (hc : a8 c) {p j : Nat} (hp : p < c.procs.length) (hj : j < (bI c p).takes.length) : vb (bI c p) j < c.chans.length := by
 have := hc.tk p hp j hj
 show (kJ (bI c p) j).chan.toNat < _
 omega
theorem Kw (hc : a8 c) {p j : Nat} (hp : p < c.procs.length) (hj : j < (bI c p).puts.length) : uW (bI c p) j < c.chans.length := by
 have := hc.pt p hp j hj
 show (rD (bI c p) j).chan.toNat < _
 omega
theorem B7 {n : Nat} (h : w (gJ c n) = false) : cF c s w n = 0 := by
 rw [cF, if_neg]
 rintro ⟨h1, _⟩
 rw [(jv h1).1] at h; cases h
theorem B8 {n : Nat} (h : w (eP c n) = false) : cb c s w n = [] := by
 rw [cb, if_neg]
 intro h1
 rw [(jv h1).1] at h; cases h
theorem ze (hc : a8 c) {p : Nat} (hp : p < c.procs.length) (hcan : cS c s p = true) (hw : w p = false) : ab c (aF c s w) p = ab c s p ∧ xy (aF c s w) p = xy s p := by
 have hps : xy (aF c s w) p = xy s p := by
  rw [pA c s w hp, bD, if_neg (by unfold aC; rw [hw]; simp)]
 refine ⟨?_, hps⟩
 unfold ab
 rw [hps]
 rw [tZ] at hcan
 refine wg (hc.pr p hp) hcan (fun j hj hh => ?_) (fun j hj hh => ?_)
 ·rw [ck, bj hj] at hh ⊢
  rw [ck, bj hj]
  unfold bS at hh ⊢
  rw [en c s w (Kv hc hp hj), cy, B7 (by rw [Jk hc hp hj]; exact hw), List.drop_zero]
  split at hh
  ·rename_i h0
   rw [if_pos h0, if_pos (by rw [List.length_append]; omega), lv, if_pos h0]
  ·cases hh
 ·rw [cR, bj hj] at hh ⊢
  unfold bU at hh ⊢
  rw [en c s w (Kw hc hp hj), cy, B8 (by rw [Jj hc hp hj]; exact hw), List.append_nil, List.length_drop]
  simp only [Bool.or_eq_true, decide_eq_true_eq] at hh ⊢
  omega
theorem qM (h : ∀ p, aC c s w p = aC c s w' p) : aF c s w = aF c s w' := by
 have h1 : bD c s w = bD c s w' := by funext p; unfold bD; rw [h p]
 have h2 : cy c s w = cy c s w' := by funext n; unfold cy cF cb; rw [h, h]
 unfold aF; rw [h1, h2]
theorem FI {p : Nat} (h : aC c s w p = false) : bD c s w p = xy s p := by
 unfold bD; rw [if_neg (by rw [h]; simp)]
theorem t1 {p : Nat} (hs : c.procs.length ≤ p) : eE c s p = fun _ => false := by
 funext n
 cases h : eE c s p n
 ·rfl
 ·exfalso
  obtain ⟨j, h1, _⟩ := qL h
  have e : bI c p = av := by rw [bI, List.getD, List.getElem?_eq_none (by omega)]; rfl
  rw [e] at h1
  exact Nat.not_lt_zero _ h1
theorem zf (hs : bG c s) (h : ∀ p, p < c.procs.length → aC c s w p = false) : aF c s w = s := by
 have e1 : (aF c s w).procs = s.procs := by
  refine pi (d := bw) (by rw [aF, aJ, hs.pl]) (fun p hp => ?_)
  rw [aF, aJ] at hp
  show xy (aF c s w) p = xy s p
  rw [pA c s w hp, FI (h p hp)]
 have e2 : (aF c s w).chans = s.chans := by
  refine pi (d := []) (by rw [aF, aJ, hs.cl]) (fun n hn => ?_)
  rw [aF, aJ] at hn
  show ef (aF c s w) n = ef s n
  rw [en c s w hn, cy]
  have h1 : cF c s w n = 0 := by
   rw [cF]
   by_cases hd : gJ c n < c.procs.length
   ·rw [h _ hd]; simp
   ·rw [if_neg]
    rintro ⟨_, h2⟩
    rw [t1 (by omega)] at h2; cases h2
  have h2 : cb c s w n = [] := by
   rw [cb]
   by_cases hd : eP c n < c.procs.length
   ·rw [h _ hd]; simp
   ·split
    ·exact ju hd
    ·rfl
  rw [h1, h2]; simp
 cases s; cases hq : aF c _ w
 rw [hq] at e1 e2
 simp only at e1 e2
 rw [e1, e2]
def aH (p : Nat) : Nat → Bool := fun q => decide (q = p)
theorem mg (p : Nat) : aH p p = true := by simp [aH]
theorem fM {p q : Nat} (h : q ≠ p) : aH p q = false := by simp [aH, h]
theorem xE (hc : a8 c) {p : Nat} (hp : p < c.procs.length) (hcan : cS c s p = true) (hw : w p = false) : aF c (aF c s w) (aH p) = aF c s (fun q => w q || aH p q) := by
 obtain ⟨hst, hps⟩ := ze (w := w) hc hp hcan hw
 have hcan2 : cS c (aF c s w) p = true := by unfold cS; rw [hst]; exact hcan
 have hfp : aC c (aF c s w) (aH p) p = true := by unfold aC; rw [mg, hcan2]; rfl
 have hfq : ∀ q, q ≠ p → aC c (aF c s w) (aH p) q = false := fun q hq => by unfold aC; rw [fM hq]; rfl
 have gp : aC c s (fun q => w q || aH p q) p = true := by unfold aC; simp [mg, hcan]
 have gq : ∀ q, q ≠ p → aC c s (fun q => w q || aH p q) q = aC c s w q := fun q hq => by unfold aC; simp [fM hq]
 have e1 : ∀ q, q < c.procs.length → bD c (aF c s w) (aH p) q = bD c s (fun q => w q || aH p q) q := by
  intro q hq
  unfold bD
  by_cases e : q = p
  ·subst e; rw [if_pos hfp, if_pos gp, hst]
  ·rw [hfq q e, gq q e, if_neg (by simp), pA c s w hq]; rfl
 have hfw : aC c s w p = false := by unfold aC; rw [hw]; rfl
 have e2 : ∀ n, n < c.chans.length → cy c (aF c s w) (aH p) n = cy c s (fun q => w q || aH p q) n := by
  intro n hn
  unfold cy
  rw [en c s w hn, cy]
  have hcome : cb c (aF c s w) (aH p) n = if eP c n = p then nO c s p n else [] := by
   unfold cb
   by_cases e : eP c n = p
   ·rw [if_pos e, e, if_pos hfp]; unfold nO; rw [hst]
   ·rw [if_neg e, hfq _ e]; simp
  have hcome2 : cb c s (fun q => w q || aH p q) n = if eP c n = p then nO c s p n else cb c s w n := by
   unfold cb
   by_cases e : eP c n = p
   ·rw [if_pos e, e, if_pos gp]
   ·rw [if_neg e, gq _ e]
  have hcome3 : eP c n = p → cb c s w n = [] := fun e => B8 (by rw [e]; exact hw)
  have hgone : cF c (aF c s w) (aH p) n = if gJ c n = p ∧ eE c s p n = true then 1 else 0 := by
   unfold cF
   by_cases e : gJ c n = p
   ·rw [e]
    have : eE c (aF c s w) p n = eE c s p n := by unfold eE; rw [hst]
    rw [this, hfp]; simp
   ·rw [hfq _ e, if_neg (by simp), if_neg (by simp [e])]
  have hgone2 : cF c s (fun q => w q || aH p q) n = if gJ c n = p ∧ eE c s p n = true then 1 else cF c s w n := by
   unfold cF
   by_cases e : gJ c n = p
   ·rw [e, gp, hfw]; simp
   ·rw [gq _ e]; simp [e]
  have hgone3 : gJ c n = p → cF c s w n = 0 := fun e => B7 (by rw [e]; exact hw)
  rw [hcome, hcome2, hgone, hgone2]
  have key : ∀ (z : List Int), (if eP c n = p then cb c s w n ++ z else cb c s w n) = (if eP c n = p then z else cb c s w n) := by
   intro z; split
   ·rename_i e; rw [hcome3 e]; rfl
   ·rfl
  by_cases ht : gJ c n = p ∧ eE c s p n = true
  ·rw [if_pos ht, if_pos ht, hgone3 ht.1, List.drop_zero]
   have h0 := wh hcan ht.2
   rw [List.drop_append_of_le_length (by omega)]
   by_cases e : eP c n = p
   ·rw [if_pos e, if_pos e, hcome3 e, List.append_nil]
   ·rw [if_neg e, if_neg e, List.append_nil]
  ·rw [if_neg ht, if_neg ht, List.drop_zero]
   by_cases e : eP c n = p
   ·rw [if_pos e, if_pos e, hcome3 e, List.append_nil]
   ·rw [if_neg e, if_neg e, List.append_nil]
 unfold aF
 rw [show tab (bD c ⟨tab (bD c s w) c.procs.length, tab (cy c s w) c.chans.length⟩ (aH p)) c.procs.length = tab (bD c s (fun q => w q || aH p q)) c.procs.length from gQ e1,
  show tab (cy c ⟨tab (bD c s w) c.procs.length, tab (cy c s w) c.chans.length⟩ (aH p)) c.chans.length = tab (cy c s (fun q => w q || aH p q)) c.chans.length from gQ e2]
end
end Go.Proofs.YtgmpoenfoacofaaGreat
