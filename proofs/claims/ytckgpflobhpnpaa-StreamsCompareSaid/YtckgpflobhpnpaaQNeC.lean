/-
  Circuits, plain law: states stay states; a process that can fire still can after others; firing one after the other.
-/
import Derived.Test.YtckgpflobhpnpaaQNeB
namespace Go.Proofs.Ytckgpflobhpnpaa
open Go.RowKit
set_option linter.unusedVariables false
set_option linter.unusedSimpArgs false
section
variable {p : Pr} {s : Ps} {hs hs' : List Hd} {rs rs' : List Bool}
theorem ms : eN p s hs rs = true ↔ (∀ j, j < p.takes.length → jr p s hs j = true) ∧ ∀ j, j < p.puts.length → mV p s hs rs j = true := by
 unfold eN
 rw [Bool.and_eq_true, c9, c9]
theorem pD (h : eN p s hs rs = true) : aG p s hs rs = ⟨true, d5 p s (iB p s hs), tab (mW p s hs) p.takes.length, tab (mX p s hs) p.puts.length⟩ := if_pos h
theorem mt (hp : gE p) (h : eN p s hs rs = true) (h1 : ∀ j, j < p.takes.length → (hs.getD j aK).has = true → hs'.getD j aK = hs.getD j aK)
  (h2 : ∀ j, j < p.puts.length → rs.getD j false = true → rs'.getD j false = true) : aG p s hs' rs' = aG p s hs rs := by
 obtain ⟨ht, hr⟩ := ms.1 h
 have hcur : iB p s hs' = iB p s hs := by
  unfold iB
  refine gO (fun j hj => ?_)
  unfold pk
  by_cases hd : j8 p s (sZ p) (oB p j).when = true
  ·have hh := ht j hj
   unfold jr at hh
   have hdue : j8 p s (iB p s hs) (oB p j).when = true := by rw [← hd]; exact (gP hp hj _ _).1
   have hhas : (hs.getD j aK).has = true := by rw [hdue] at hh; simpa using hh
   rw [h1 j hj hhas]
  ·rw [if_neg (by rintro ⟨a, _⟩; exact hd a), if_neg (by rintro ⟨a, _⟩; exact hd a)]
 have hf : eN p s hs' rs' = true := by
  rw [ms]
  refine ⟨fun j hj => ?_, fun j hj => ?_⟩
  ·have hh := ht j hj
   unfold jr at hh ⊢
   rw [hcur]
   rw [Bool.or_eq_true] at hh ⊢
   rcases hh with hh | hh
   ·left; rw [h1 j hj hh]; exact hh
   ·exact .inr hh
  ·have hh := hr j hj
   unfold mV at hh ⊢
   rw [hcur]
   rw [Bool.or_eq_true] at hh ⊢
   rcases hh with hh | hh
   ·exact .inl (h2 j hj hh)
   ·exact .inr hh
 rw [pD hf, pD h]
 have e1 : mW p s hs' = mW p s hs := by funext j; unfold mW; rw [hcur]
 have e2 : mX p s hs' = mX p s hs := by funext j; unfold mX; rw [hcur]
 rw [hcur, e1, e2]
theorem Aj (h : eN p s hs rs = true) {j : Nat} (hj : j < p.takes.length) (hpop : (aG p s hs rs).pops.getD j false = true) : (hs.getD j aK).has = true := by
 rw [pD h] at hpop
 simp only at hpop
 rw [aH hj] at hpop
 have hh := (ms.1 h).1 j hj
 unfold jr at hh
 unfold mW at hpop
 rw [hpop] at hh
 simpa using hh
theorem Dd (h : eN p s hs rs = true) {j : Nat} (hj : j < p.puts.length) (hput : ((aG p s hs rs).puts.getD j aK).has = true) : rs.getD j false = true := by
 rw [pD h] at hput
 simp only at hput
 rw [aH hj] at hput
 have hh := (ms.1 h).2 j hj
 unfold mV at hh
 unfold mX at hput
 split at hput
 ·rename_i hd; rw [hd] at hh; simpa using hh
 ·cases hput
end
section
variable {c : Ci} {s : Ns} {w w' : Nat → Bool}
theorem v3 (hc : a8 c) {p : Nat} (hp : p < c.procs.length) {f : Fi} (n : Nat) : ∀ {k : Nat}, k ≤ (a6 c p).puts.length → ((mm (a6 c p) f k).filter (fun e => e.1 == n)).length ≤ 1
 | 0, _ => by simp [mm]
 | k + 1, hk => by
  have ih := v3 hc hp (f := f) n (k := k) (by omega)
  rw [mm, List.filter_append, List.length_append]
  by_cases h1 : (f.puts.getD k aK).has = true
  ·rw [if_pos h1]
   by_cases e : wB (a6 c p) k = n
   ·have h0 : (mm (a6 c p) f k).filter (fun e => e.1 == n) = [] := by
     rw [List.filter_eq_nil_iff]
     intro z hz hzn
     obtain ⟨j, g1, g2, g3, g4⟩ := pC hz
     have h5 : z.1 = n := by simpa using hzn
     have := hc.pd p hp j k (by omega) (by omega) (by rw [g3, e, h5])
     omega
    rw [h0]
    simp only [List.length_nil, Nat.zero_add]
    exact Nat.le_trans (List.length_filter_le _ _) (by simp)
   ·rw [List.filter_cons_of_neg (by simpa using e), List.filter_nil]; exact ih
  ·rw [if_neg h1]; exact ih
theorem De (hc : a8 c) {p : Nat} (n : Nat) : (rk c s p n).length ≤ 1 := by
 by_cases hp : p < c.procs.length
 ·unfold rk; rw [List.length_map]; exact v3 hc hp n (Nat.le_refl _)
 ·rw [lx hp]; simp
theorem xu {p n : Nat} {v : Int} (h : v ∈ rk c s p n) : ∃ j, j < (a6 c p).puts.length ∧ ((ac c s p).puts.getD j aK).has = true ∧ wB (a6 c p) j = n ∧ ((ac c s p).puts.getD j aK).v = v := by
 unfold rk at h
 rw [List.mem_map] at h
 obtain ⟨e, he, rfl⟩ := h
 rw [List.mem_filter] at he
 obtain ⟨j, h1, h2, h3, h4⟩ := pC he.1
 exact ⟨j, h1, h2, by rw [h3]; simpa using he.2, h4⟩
theorem Ak {p n : Nat} {v : Int} (h : v ∈ rk c s p n) : p < c.procs.length := by
 by_cases hp : p < c.procs.length
 ·exact hp
 ·rw [lx hp] at h; cases h
theorem uN {p n : Nat} (h : dV c s p n = true) : ∃ j, j < (a6 c p).takes.length ∧ (ac c s p).pops.getD j false = true ∧ nq (a6 c p) j = n := by
 unfold dV at h
 exact mr (of_decide_eq_true h)
theorem uO {p n : Nat} (hcan : fC c s p = true) (h : dV c s p n = true) : 0 < (vY s n).length := by
 obtain ⟨j, h1, h2, rfl⟩ := uN h
 rw [qs] at hcan
 have := Aj hcan h1 h2
 rw [fB, aH h1] at this
 unfold cx at this
 split at this
 ·assumption
 ·cases this
theorem gQ {p : Nat} (h : aq c s w p = true) : w p = true ∧ fC c s p = true := by
 unfold aq at h; simpa using h
theorem ia (c : Ci) (s : Ns) (w : Nat → Bool) {n : Nat} (hn : n < c.chans.length) : vY (bp c s w) n = du c s w n := by
 show (tab _ _).getD n [] = _
 rw [aH hn]
theorem ly (c : Ci) (s : Ns) (w : Nat → Bool) {p : Nat} (hp : p < c.procs.length) : yH (bp c s w) p = cz c s w p := by
 show (tab _ _).getD p bK = _
 rw [aH hp]
theorem pE {α : Type} {a b : List α} {i : Nat} {d : α} : (a ++ b).getD i d = if i < a.length then a.getD i d else b.getD (i - a.length) d := by
 simp only [List.getD, List.getElem?_append]
 split <;> rfl
theorem uP {α : Type} {a : List α} {k i : Nat} {d : α} : (a.drop k).getD i d = a.getD (k + i) d := by
 simp only [List.getD, List.getElem?_drop]
theorem jv {α : Type} {l : List α} {i : Nat} {d : α} (h : i < l.length) : l.getD i d ∈ l := by
 simp [List.getD, List.getElem?_eq_getElem h]
theorem GZ (hc : a8 c) (hs : jt c s) (w : Nat → Bool) : jt c (bp c s w) where
 pl := by rw [bp]; exact au _ _
 cl := by rw [bp]; exact au _ _
 pv := fun p hp => by
  rw [ly c s w hp]
  unfold cz
  split
  ·exact np (hc.pr p hp) (hs.pv p hp) (pB hc hs hp)
  ·exact hs.pv p hp
 cv := fun n hn i hi => by
  rw [ia c s w hn] at hi ⊢
  unfold du at hi ⊢
  rw [pE]
  split
  ·rename_i h
   rw [uP]
   rw [List.length_drop] at h
   exact hs.cv n hn _ (by omega)
  ·rename_i h
   rw [List.length_append] at hi
   have hm := jv (d := (0 : Int)) (show i - ((vY s n).drop (dt c s w n)).length < (cy c s w n).length by omega)
   generalize (cy c s w n).getD _ 0 = v at hm
   unfold cy at hm
   split at hm
   ·have hlt := Ak hm
    obtain ⟨j, h1, h2, h3, h4⟩ := xu hm
    have := pn (rs := s5 c s (ee c n)) (hc.pr _ hlt) (hs.pv _ hlt) (pB hc hs hlt) h1 h2
    rw [← (hc.pt _ hlt j h1).2.2.1, h3] at this
    rw [← h4]; exact this
   ·cases hm
 cc := fun n hn hf hd => by
  rw [ia c s w hn]
  unfold du
  rw [List.length_append, List.length_drop]
  have h0 := hs.cc n hn hf hd
  unfold cy
  split
  ·rename_i hfi
   have h1 := De (s := s) hc (p := ee c n) n
   by_cases h2 : rk c s (ee c n) n = []
   ·rw [h2]; simp only [List.length_nil]; omega
   ·obtain ⟨v, hv⟩ := List.exists_mem_of_ne_nil _ h2
    have hlt := Ak hv
    obtain ⟨j, h1', h2', h3, h4⟩ := xu hv
    have hcan := (gQ hfi).2
    rw [qs] at hcan
    have hr := Dd hcan h1' h2'
    rw [s5, aH h1'] at hr
    unfold cD at hr
    rw [h3] at hr
    simp only [Bool.or_eq_true, decide_eq_true_eq] at hr
    omega
  ·simp only [List.length_nil]; omega
theorem G0 (hc : a8 c) {p j : Nat} (hp : p < c.procs.length) (hj : j < (a6 c p).puts.length) : ee c (wB (a6 c p) j) = p := by
 rw [ee, (hc.pt p hp j hj).2.2.2]; rfl
theorem G1 (hc : a8 c) {p j : Nat} (hp : p < c.procs.length) (hj : j < (a6 c p).takes.length) : gi c (nq (a6 c p) j) = p := by
 rw [gi, (hc.tk p hp j hj).2.2.2]; rfl
theorem F5 (hc : a8 c) {p j : Nat} (hp : p < c.procs.length) (hj : j < (a6 c p).takes.length) : nq (a6 c p) j < c.chans.length := by
 have := hc.tk p hp j hj
 show (oB (a6 c p) j).chan.toNat < _
 omega
theorem Il (hc : a8 c) {p j : Nat} (hp : p < c.procs.length) (hj : j < (a6 c p).puts.length) : wB (a6 c p) j < c.chans.length := by
 have := hc.pt p hp j hj
 show (vV (a6 c p) j).chan.toNat < _
 omega
theorem Al {n : Nat} (h : w (gi c n) = false) : dt c s w n = 0 := by
 rw [dt, if_neg]
 rintro ⟨h1, _⟩
 rw [(gQ h1).1] at h; cases h
theorem Am {n : Nat} (h : w (ee c n) = false) : cy c s w n = [] := by
 rw [cy, if_neg]
 intro h1
 rw [(gQ h1).1] at h; cases h
theorem s7 (hc : a8 c) {p : Nat} (hp : p < c.procs.length) (hcan : fC c s p = true) (hw : w p = false) : ac c (bp c s w) p = ac c s p ∧ yH (bp c s w) p = yH s p := by
 have hps : yH (bp c s w) p = yH s p := by
  rw [ly c s w hp, cz, if_neg (by unfold aq; rw [hw]; simp)]
 refine ⟨?_, hps⟩
 unfold ac
 rw [hps]
 rw [qs] at hcan
 refine mt (hc.pr p hp) hcan (fun j hj hh => ?_) (fun j hj hh => ?_)
 ·rw [fB, aH hj] at hh ⊢
  rw [fB, aH hj]
  unfold cx at hh ⊢
  rw [ia c s w (F5 hc hp hj), du, Al (by rw [G1 hc hp hj]; exact hw), List.drop_zero]
  split at hh
  ·rename_i h0
   rw [if_pos h0, if_pos (by rw [List.length_append]; omega), pE, if_pos h0]
  ·cases hh
 ·rw [s5, aH hj] at hh ⊢
  unfold cD at hh ⊢
  rw [ia c s w (Il hc hp hj), du, Am (by rw [G0 hc hp hj]; exact hw), List.append_nil, List.length_drop]
  simp only [Bool.or_eq_true, decide_eq_true_eq] at hh ⊢
  omega
theorem uQ (h : ∀ p, aq c s w p = aq c s w' p) : bp c s w = bp c s w' := by
 have h1 : cz c s w = cz c s w' := by funext p; unfold cz; rw [h p]
 have h2 : du c s w = du c s w' := by funext n; unfold du dt cy; rw [h, h]
 unfold bp; rw [h1, h2]
theorem Df {p : Nat} (h : aq c s w p = false) : cz c s w p = yH s p := by
 unfold cz; rw [if_neg (by rw [h]; simp)]
theorem xv {p : Nat} (hs : c.procs.length ≤ p) : dV c s p = fun _ => false := by
 funext n
 cases h : dV c s p n
 ·rfl
 ·exfalso
  obtain ⟨j, h1, _⟩ := uN h
  have e : a6 c p = ab := by rw [a6, List.getD, List.getElem?_eq_none (by omega)]; rfl
  rw [e] at h1
  exact Nat.not_lt_zero _ h1
theorem Dg (hs : jt c s) (h : ∀ p, p < c.procs.length → aq c s w p = false) : bp c s w = s := by
 have e1 : (bp c s w).procs = s.procs := by
  refine dq (d := bK) (by rw [bp, au, hs.pl]) (fun p hp => ?_)
  rw [bp, au] at hp
  show yH (bp c s w) p = yH s p
  rw [ly c s w hp, Df (h p hp)]
 have e2 : (bp c s w).chans = s.chans := by
  refine dq (d := []) (by rw [bp, au, hs.cl]) (fun n hn => ?_)
  rw [bp, au] at hn
  show vY (bp c s w) n = vY s n
  rw [ia c s w hn, du]
  have h1 : dt c s w n = 0 := by
   rw [dt]
   by_cases hd : gi c n < c.procs.length
   ·rw [h _ hd]; simp
   ·rw [if_neg]
    rintro ⟨_, h2⟩
    rw [xv (by omega)] at h2; cases h2
  have h2 : cy c s w n = [] := by
   rw [cy]
   by_cases hd : ee c n < c.procs.length
   ·rw [h _ hd]; simp
   ·split
    ·exact lx hd
    ·rfl
  rw [h1, h2]; simp
 cases s; cases hq : bp c _ w
 rw [hq] at e1 e2
 simp only at e1 e2
 rw [e1, e2]
def cA (p : Nat) : Nat → Bool := fun q => decide (q = p)
theorem jw (p : Nat) : cA p p = true := by simp [cA]
theorem rM {p q : Nat} (h : q ≠ p) : cA p q = false := by simp [cA, h]
theorem Fp (hc : a8 c) {p : Nat} (hp : p < c.procs.length) (hcan : fC c s p = true) (hw : w p = false) : bp c (bp c s w) (cA p) = bp c s (fun q => w q || cA p q) := by
 obtain ⟨hst, hps⟩ := s7 (w := w) hc hp hcan hw
 have hcan2 : fC c (bp c s w) p = true := by unfold fC; rw [hst]; exact hcan
 have hfp : aq c (bp c s w) (cA p) p = true := by unfold aq; rw [jw, hcan2]; rfl
 have hfq : ∀ q, q ≠ p → aq c (bp c s w) (cA p) q = false := fun q hq => by unfold aq; rw [rM hq]; rfl
 have gp : aq c s (fun q => w q || cA p q) p = true := by unfold aq; simp [jw, hcan]
 have gq : ∀ q, q ≠ p → aq c s (fun q => w q || cA p q) q = aq c s w q := fun q hq => by unfold aq; simp [rM hq]
 have e1 : ∀ q, q < c.procs.length → cz c (bp c s w) (cA p) q = cz c s (fun q => w q || cA p q) q := by
  intro q hq
  unfold cz
  by_cases e : q = p
  ·subst e; rw [if_pos hfp, if_pos gp, hst]
  ·rw [hfq q e, gq q e, if_neg (by simp), ly c s w hq]; rfl
 have hfw : aq c s w p = false := by unfold aq; rw [hw]; rfl
 have e2 : ∀ n, n < c.chans.length → du c (bp c s w) (cA p) n = du c s (fun q => w q || cA p q) n := by
  intro n hn
  unfold du
  rw [ia c s w hn, du]
  have hcome : cy c (bp c s w) (cA p) n = if ee c n = p then rk c s p n else [] := by
   unfold cy
   by_cases e : ee c n = p
   ·rw [if_pos e, e, if_pos hfp]; unfold rk; rw [hst]
   ·rw [if_neg e, hfq _ e]; simp
  have hcome2 : cy c s (fun q => w q || cA p q) n = if ee c n = p then rk c s p n else cy c s w n := by
   unfold cy
   by_cases e : ee c n = p
   ·rw [if_pos e, e, if_pos gp]
   ·rw [if_neg e, gq _ e]
  have hcome3 : ee c n = p → cy c s w n = [] := fun e => Am (by rw [e]; exact hw)
  have hgone : dt c (bp c s w) (cA p) n = if gi c n = p ∧ dV c s p n = true then 1 else 0 := by
   unfold dt
   by_cases e : gi c n = p
   ·rw [e]
    have : dV c (bp c s w) p n = dV c s p n := by unfold dV; rw [hst]
    rw [this, hfp]; simp
   ·rw [hfq _ e, if_neg (by simp), if_neg (by simp [e])]
  have hgone2 : dt c s (fun q => w q || cA p q) n = if gi c n = p ∧ dV c s p n = true then 1 else dt c s w n := by
   unfold dt
   by_cases e : gi c n = p
   ·rw [e, gp, hfw]; simp
   ·rw [gq _ e]; simp [e]
  have hgone3 : gi c n = p → dt c s w n = 0 := fun e => Al (by rw [e]; exact hw)
  rw [hcome, hcome2, hgone, hgone2]
  have key : ∀ (z : List Int), (if ee c n = p then cy c s w n ++ z else cy c s w n) = (if ee c n = p then z else cy c s w n) := by
   intro z; split
   ·rename_i e; rw [hcome3 e]; rfl
   ·rfl
  by_cases ht : gi c n = p ∧ dV c s p n = true
  ·rw [if_pos ht, if_pos ht, hgone3 ht.1, List.drop_zero]
   have h0 := uO hcan ht.2
   rw [List.drop_append_of_le_length (by omega)]
   by_cases e : ee c n = p
   ·rw [if_pos e, if_pos e, hcome3 e, List.append_nil]
   ·rw [if_neg e, if_neg e, List.append_nil]
  ·rw [if_neg ht, if_neg ht, List.drop_zero]
   by_cases e : ee c n = p
   ·rw [if_pos e, if_pos e, hcome3 e, List.append_nil]
   ·rw [if_neg e, if_neg e, List.append_nil]
 unfold bp
 rw [show tab (cz c ⟨tab (cz c s w) c.procs.length, tab (du c s w) c.chans.length⟩ (cA p)) c.procs.length = tab (cz c s (fun q => w q || cA p q)) c.procs.length from gO e1,
  show tab (du c ⟨tab (cz c s w) c.procs.length, tab (du c s w) c.chans.length⟩ (cA p)) c.chans.length = tab (du c s (fun q => w q || cA p q)) c.chans.length from gO e2]
end
end Go.Proofs.Ytckgpflobhpnpaa
