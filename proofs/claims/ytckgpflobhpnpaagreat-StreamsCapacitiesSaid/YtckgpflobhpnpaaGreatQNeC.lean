/-
  Circuits, plain law: states stay states; a process that can fire still can after others; firing one after the other.
-/
import Derived.Test.YtckgpflobhpnpaaGreatQNeB
namespace Go.Proofs.YtckgpflobhpnpaaGreat
open Go.RowKit
set_option linter.unusedVariables false
set_option linter.unusedSimpArgs false
section
variable {p : Pr} {s : Ps} {hs hs' : List Hd} {rs rs' : List Bool}
theorem nu : fp p s hs rs = true ↔ (∀ j, j < p.takes.length → jT p s hs j = true) ∧ ∀ j, j < p.puts.length → ot p s hs rs j = true := by
 unfold fp
 rw [Bool.and_eq_true, cH, cH]
theorem qP (h : fp p s hs rs = true) : aI p s hs rs = ⟨true, eD p s (i9 p s hs), tab (ou p s hs) p.takes.length, tab (ow p s hs) p.puts.length⟩ := if_pos h
theorem jW (hp : gP p) (h : fp p s hs rs = true) (h1 : ∀ j, j < p.takes.length → (hs.getD j aO).has = true → hs'.getD j aO = hs.getD j aO)
  (h2 : ∀ j, j < p.puts.length → rs.getD j false = true → rs'.getD j false = true) : aI p s hs' rs' = aI p s hs rs := by
 obtain ⟨ht, hr⟩ := nu.1 h
 have hcur : i9 p s hs' = i9 p s hs := by
  unfold i9
  refine ip (fun j hj => ?_)
  unfold qD
  by_cases hd : kJ p s (uT p) (lG p j).when = true
  ·have hh := ht j hj
   unfold jT at hh
   have hdue : kJ p s (i9 p s hs) (lG p j).when = true := by rw [← hd]; exact (iq hp hj _ _).1
   have hhas : (hs.getD j aO).has = true := by rw [hdue] at hh; simpa using hh
   rw [h1 j hj hhas]
  ·rw [if_neg (by rintro ⟨a, _⟩; exact hd a), if_neg (by rintro ⟨a, _⟩; exact hd a)]
 have hf : fp p s hs' rs' = true := by
  rw [nu]
  refine ⟨fun j hj => ?_, fun j hj => ?_⟩
  ·have hh := ht j hj
   unfold jT at hh ⊢
   rw [hcur]
   rw [Bool.or_eq_true] at hh ⊢
   rcases hh with hh | hh
   ·left; rw [h1 j hj hh]; exact hh
   ·exact .inr hh
  ·have hh := hr j hj
   unfold ot at hh ⊢
   rw [hcur]
   rw [Bool.or_eq_true] at hh ⊢
   rcases hh with hh | hh
   ·exact .inl (h2 j hj hh)
   ·exact .inr hh
 rw [qP hf, qP h]
 have e1 : ou p s hs' = ou p s hs := by funext j; unfold ou; rw [hcur]
 have e2 : ow p s hs' = ow p s hs := by funext j; unfold ow; rw [hcur]
 rw [hcur, e1, e2]
theorem Cw (h : fp p s hs rs = true) {j : Nat} (hj : j < p.takes.length) (hpop : (aI p s hs rs).pops.getD j false = true) : (hs.getD j aO).has = true := by
 rw [qP h] at hpop
 simp only at hpop
 rw [az hj] at hpop
 have hh := (nu.1 h).1 j hj
 unfold jT at hh
 unfold ou at hpop
 rw [hpop] at hh
 simpa using hh
theorem F0 (h : fp p s hs rs = true) {j : Nat} (hj : j < p.puts.length) (hput : ((aI p s hs rs).puts.getD j aO).has = true) : rs.getD j false = true := by
 rw [qP h] at hput
 simp only at hput
 rw [az hj] at hput
 have hh := (nu.1 h).2 j hj
 unfold ot at hh
 unfold ow at hput
 split at hput
 ·rename_i hd; rw [hd] at hh; simpa using hh
 ·cases hput
end
section
variable {c : Ci} {s : Ns} {w w' : Nat → Bool}
theorem xM (hc : aZ c) {p : Nat} (hp : p < c.procs.length) {f : Fi} (n : Nat) : ∀ {k : Nat}, k ≤ (a8 c p).puts.length → ((nr (a8 c p) f k).filter (fun e => e.1 == n)).length ≤ 1
 | 0, _ => by simp [nr]
 | k + 1, hk => by
  have ih := xM hc hp (f := f) n (k := k) (by omega)
  rw [nr, List.filter_append, List.length_append]
  by_cases h1 : (f.puts.getD k aO).has = true
  ·rw [if_pos h1]
   by_cases e : tz (a8 c p) k = n
   ·have h0 : (nr (a8 c p) f k).filter (fun e => e.1 == n) = [] := by
     rw [List.filter_eq_nil_iff]
     intro z hz hzn
     obtain ⟨j, g1, g2, g3, g4⟩ := qO hz
     have h5 : z.1 = n := by simpa using hzn
     have := hc.pd p hp j k (by omega) (by omega) (by rw [g3, e, h5])
     omega
    rw [h0]
    simp only [List.length_nil, Nat.zero_add]
    exact Nat.le_trans (List.length_filter_le _ _) (by simp)
   ·rw [List.filter_cons_of_neg (by simpa using e), List.filter_nil]; exact ih
  ·rw [if_neg h1]; exact ih
theorem F1 (hc : aZ c) {p : Nat} (n : Nat) : (sY c s p n).length ≤ 1 := by
 by_cases hp : p < c.procs.length
 ·unfold sY; rw [List.length_map]; exact xM hc hp n (Nat.le_refl _)
 ·rw [my hp]; simp
theorem zp {p n : Nat} {v : Int} (h : v ∈ sY c s p n) : ∃ j, j < (a8 c p).puts.length ∧ ((ae c s p).puts.getD j aO).has = true ∧ tz (a8 c p) j = n ∧ ((ae c s p).puts.getD j aO).v = v := by
 unfold sY at h
 rw [List.mem_map] at h
 obtain ⟨e, he, rfl⟩ := h
 rw [List.mem_filter] at he
 obtain ⟨j, h1, h2, h3, h4⟩ := qO he.1
 exact ⟨j, h1, h2, by rw [h3]; simpa using he.2, h4⟩
theorem Cx {p n : Nat} {v : Int} (h : v ∈ sY c s p n) : p < c.procs.length := by
 by_cases hp : p < c.procs.length
 ·exact hp
 ·rw [my hp] at h; cases h
theorem wC {p n : Nat} (h : eo c s p n = true) : ∃ j, j < (a8 c p).takes.length ∧ (ae c s p).pops.getD j false = true ∧ jG (a8 c p) j = n := by
 unfold eo at h
 exact ns (of_decide_eq_true h)
theorem wD {p n : Nat} (hcan : fq c s p = true) (h : eo c s p n = true) : 0 < (xK s n).length := by
 obtain ⟨j, h1, h2, rfl⟩ := wC h
 rw [pH] at hcan
 have := Cw hcan h1 h2
 rw [en, az h1] at this
 unfold cA at this
 split at this
 ·assumption
 ·cases this
theorem gd {p : Nat} (h : ay c s w p = true) : w p = true ∧ fq c s p = true := by
 unfold ay at h; simpa using h
theorem iM (c : Ci) (s : Ns) (w : Nat → Bool) {n : Nat} (hn : n < c.chans.length) : xK (bv c s w) n = dU c s w n := by
 show (tab _ _).getD n [] = _
 rw [az hn]
theorem mz (c : Ci) (s : Ns) (w : Nat → Bool) {p : Nat} (hp : p < c.procs.length) : xJ (bv c s w) p = cM c s w p := by
 show (tab _ _).getD p bS = _
 rw [az hp]
theorem mA {α : Type} {a b : List α} {i : Nat} {d : α} : (a ++ b).getD i d = if i < a.length then a.getD i d else b.getD (i - a.length) d := by
 simp only [List.getD, List.getElem?_append]
 split <;> rfl
theorem nw {α : Type} {a : List α} {k i : Nat} {d : α} : (a.drop k).getD i d = a.getD (k + i) d := by
 simp only [List.getD, List.getElem?_drop]
theorem jX {α : Type} {l : List α} {i : Nat} {d : α} (h : i < l.length) : l.getD i d ∈ l := by
 simp [List.getD, List.getElem?_eq_getElem h]
theorem AV (hc : aZ c) (hs : ja c s) (w : Nat → Bool) : ja c (bv c s w) where
 pl := by rw [bv]; exact ap _ _
 cl := by rw [bv]; exact ap _ _
 pv := fun p hp => by
  rw [mz c s w hp]
  unfold cM
  split
  ·exact oU (hc.pr p hp) (hs.pv p hp) (qN hc hs hp)
  ·exact hs.pv p hp
 cv := fun n hn i hi => by
  rw [iM c s w hn] at hi ⊢
  unfold dU at hi ⊢
  rw [mA]
  split
  ·rename_i h
   rw [nw]
   rw [List.length_drop] at h
   exact hs.cv n hn _ (by omega)
  ·rename_i h
   rw [List.length_append] at hi
   have hm := jX (d := (0 : Int)) (show i - ((xK s n).drop (dT c s w n)).length < (cL c s w n).length by omega)
   generalize (cL c s w n).getD _ 0 = v at hm
   unfold cL at hm
   split at hm
   ·have hlt := Cx hm
    obtain ⟨j, h1, h2, h3, h4⟩ := zp hm
    have := qG (rs := ms c s (eO c n)) (hc.pr _ hlt) (hs.pv _ hlt) (qN hc hs hlt) h1 h2
    rw [← (hc.pt _ hlt j h1).2.2.1, h3] at this
    rw [← h4]; exact this
   ·cases hm
 cc := fun n hn hf hd => by
  rw [iM c s w hn]
  unfold dU
  rw [List.length_append, List.length_drop]
  have h0 := hs.cc n hn hf hd
  unfold cL
  split
  ·rename_i hfi
   have h1 := F1 (s := s) hc (p := eO c n) n
   by_cases h2 : sY c s (eO c n) n = []
   ·rw [h2]; simp only [List.length_nil]; omega
   ·obtain ⟨v, hv⟩ := List.exists_mem_of_ne_nil _ h2
    have hlt := Cx hv
    obtain ⟨j, h1', h2', h3, h4⟩ := zp hv
    have hcan := (gd hfi).2
    rw [pH] at hcan
    have hr := F0 hcan h1' h2'
    rw [ms, az h1'] at hr
    unfold cJ at hr
    rw [h3] at hr
    simp only [Bool.or_eq_true, decide_eq_true_eq] at hr
    omega
  ·simp only [List.length_nil]; omega
theorem Km (hc : aZ c) {p j : Nat} (hp : p < c.procs.length) (hj : j < (a8 c p).puts.length) : eO c (tz (a8 c p) j) = p := by
 rw [eO, (hc.pt p hp j hj).2.2.2]; rfl
theorem Kn (hc : aZ c) {p j : Nat} (hp : p < c.procs.length) (hj : j < (a8 c p).takes.length) : gQ c (jG (a8 c p) j) = p := by
 rw [gQ, (hc.tk p hp j hj).2.2.2]; rfl
theorem F2 (hc : aZ c) {p j : Nat} (hp : p < c.procs.length) (hj : j < (a8 c p).takes.length) : jG (a8 c p) j < c.chans.length := by
 have := hc.tk p hp j hj
 show (lG (a8 c p) j).chan.toNat < _
 omega
theorem Jk (hc : aZ c) {p j : Nat} (hp : p < c.procs.length) (hj : j < (a8 c p).puts.length) : tz (a8 c p) j < c.chans.length := by
 have := hc.pt p hp j hj
 show (sH (a8 c p) j).chan.toNat < _
 omega
theorem Cy {n : Nat} (h : w (gQ c n) = false) : dT c s w n = 0 := by
 rw [dT, if_neg]
 rintro ⟨h1, _⟩
 rw [(gd h1).1] at h; cases h
theorem Cz {n : Nat} (h : w (eO c n) = false) : cL c s w n = [] := by
 rw [cL, if_neg]
 intro h1
 rw [(gd h1).1] at h; cases h
theorem uW (hc : aZ c) {p : Nat} (hp : p < c.procs.length) (hcan : fq c s p = true) (hw : w p = false) : ae c (bv c s w) p = ae c s p ∧ xJ (bv c s w) p = xJ s p := by
 have hps : xJ (bv c s w) p = xJ s p := by
  rw [mz c s w hp, cM, if_neg (by unfold ay; rw [hw]; simp)]
 refine ⟨?_, hps⟩
 unfold ae
 rw [hps]
 rw [pH] at hcan
 refine jW (hc.pr p hp) hcan (fun j hj hh => ?_) (fun j hj hh => ?_)
 ·rw [en, az hj] at hh ⊢
  rw [en, az hj]
  unfold cA at hh ⊢
  rw [iM c s w (F2 hc hp hj), dU, Cy (by rw [Kn hc hp hj]; exact hw), List.drop_zero]
  split at hh
  ·rename_i h0
   rw [if_pos h0, if_pos (by rw [List.length_append]; omega), mA, if_pos h0]
  ·cases hh
 ·rw [ms, az hj] at hh ⊢
  unfold cJ at hh ⊢
  rw [iM c s w (Jk hc hp hj), dU, Cz (by rw [Km hc hp hj]; exact hw), List.append_nil, List.length_drop]
  simp only [Bool.or_eq_true, decide_eq_true_eq] at hh ⊢
  omega
theorem wE (h : ∀ p, ay c s w p = ay c s w' p) : bv c s w = bv c s w' := by
 have h1 : cM c s w = cM c s w' := by funext p; unfold cM; rw [h p]
 have h2 : dU c s w = dU c s w' := by funext n; unfold dU dT cL; rw [h, h]
 unfold bv; rw [h1, h2]
theorem F3 {p : Nat} (h : ay c s w p = false) : cM c s w p = xJ s p := by
 unfold cM; rw [if_neg (by rw [h]; simp)]
theorem zq {p : Nat} (hs : c.procs.length ≤ p) : eo c s p = fun _ => false := by
 funext n
 cases h : eo c s p n
 ·rfl
 ·exfalso
  obtain ⟨j, h1, _⟩ := wC h
  have e : a8 c p = ab := by rw [a8, List.getD, List.getElem?_eq_none (by omega)]; rfl
  rw [e] at h1
  exact Nat.not_lt_zero _ h1
theorem F4 (hs : ja c s) (h : ∀ p, p < c.procs.length → ay c s w p = false) : bv c s w = s := by
 have e1 : (bv c s w).procs = s.procs := by
  refine dQ (d := bS) (by rw [bv, ap, hs.pl]) (fun p hp => ?_)
  rw [bv, ap] at hp
  show xJ (bv c s w) p = xJ s p
  rw [mz c s w hp, F3 (h p hp)]
 have e2 : (bv c s w).chans = s.chans := by
  refine dQ (d := []) (by rw [bv, ap, hs.cl]) (fun n hn => ?_)
  rw [bv, ap] at hn
  show xK (bv c s w) n = xK s n
  rw [iM c s w hn, dU]
  have h1 : dT c s w n = 0 := by
   rw [dT]
   by_cases hd : gQ c n < c.procs.length
   ·rw [h _ hd]; simp
   ·rw [if_neg]
    rintro ⟨_, h2⟩
    rw [zq (by omega)] at h2; cases h2
  have h2 : cL c s w n = [] := by
   rw [cL]
   by_cases hd : eO c n < c.procs.length
   ·rw [h _ hd]; simp
   ·split
    ·exact my hd
    ·rfl
  rw [h1, h2]; simp
 cases s; cases hq : bv c _ w
 rw [hq] at e1 e2
 simp only at e1 e2
 rw [e1, e2]
def cN (p : Nat) : Nat → Bool := fun q => decide (q = p)
theorem jY (p : Nat) : cN p p = true := by simp [cN]
theorem tB {p q : Nat} (h : q ≠ p) : cN p q = false := by simp [cN, h]
theorem Ir (hc : aZ c) {p : Nat} (hp : p < c.procs.length) (hcan : fq c s p = true) (hw : w p = false) : bv c (bv c s w) (cN p) = bv c s (fun q => w q || cN p q) := by
 obtain ⟨hst, hps⟩ := uW (w := w) hc hp hcan hw
 have hcan2 : fq c (bv c s w) p = true := by unfold fq; rw [hst]; exact hcan
 have hfp : ay c (bv c s w) (cN p) p = true := by unfold ay; rw [jY, hcan2]; rfl
 have hfq : ∀ q, q ≠ p → ay c (bv c s w) (cN p) q = false := fun q hq => by unfold ay; rw [tB hq]; rfl
 have gp : ay c s (fun q => w q || cN p q) p = true := by unfold ay; simp [jY, hcan]
 have gq : ∀ q, q ≠ p → ay c s (fun q => w q || cN p q) q = ay c s w q := fun q hq => by unfold ay; simp [tB hq]
 have e1 : ∀ q, q < c.procs.length → cM c (bv c s w) (cN p) q = cM c s (fun q => w q || cN p q) q := by
  intro q hq
  unfold cM
  by_cases e : q = p
  ·subst e; rw [if_pos hfp, if_pos gp, hst]
  ·rw [hfq q e, gq q e, if_neg (by simp), mz c s w hq]; rfl
 have hfw : ay c s w p = false := by unfold ay; rw [hw]; rfl
 have e2 : ∀ n, n < c.chans.length → dU c (bv c s w) (cN p) n = dU c s (fun q => w q || cN p q) n := by
  intro n hn
  unfold dU
  rw [iM c s w hn, dU]
  have hcome : cL c (bv c s w) (cN p) n = if eO c n = p then sY c s p n else [] := by
   unfold cL
   by_cases e : eO c n = p
   ·rw [if_pos e, e, if_pos hfp]; unfold sY; rw [hst]
   ·rw [if_neg e, hfq _ e]; simp
  have hcome2 : cL c s (fun q => w q || cN p q) n = if eO c n = p then sY c s p n else cL c s w n := by
   unfold cL
   by_cases e : eO c n = p
   ·rw [if_pos e, e, if_pos gp]
   ·rw [if_neg e, gq _ e]
  have hcome3 : eO c n = p → cL c s w n = [] := fun e => Cz (by rw [e]; exact hw)
  have hgone : dT c (bv c s w) (cN p) n = if gQ c n = p ∧ eo c s p n = true then 1 else 0 := by
   unfold dT
   by_cases e : gQ c n = p
   ·rw [e]
    have : eo c (bv c s w) p n = eo c s p n := by unfold eo; rw [hst]
    rw [this, hfp]; simp
   ·rw [hfq _ e, if_neg (by simp), if_neg (by simp [e])]
  have hgone2 : dT c s (fun q => w q || cN p q) n = if gQ c n = p ∧ eo c s p n = true then 1 else dT c s w n := by
   unfold dT
   by_cases e : gQ c n = p
   ·rw [e, gp, hfw]; simp
   ·rw [gq _ e]; simp [e]
  have hgone3 : gQ c n = p → dT c s w n = 0 := fun e => Cy (by rw [e]; exact hw)
  rw [hcome, hcome2, hgone, hgone2]
  have key : ∀ (z : List Int), (if eO c n = p then cL c s w n ++ z else cL c s w n) = (if eO c n = p then z else cL c s w n) := by
   intro z; split
   ·rename_i e; rw [hcome3 e]; rfl
   ·rfl
  by_cases ht : gQ c n = p ∧ eo c s p n = true
  ·rw [if_pos ht, if_pos ht, hgone3 ht.1, List.drop_zero]
   have h0 := wD hcan ht.2
   rw [List.drop_append_of_le_length (by omega)]
   by_cases e : eO c n = p
   ·rw [if_pos e, if_pos e, hcome3 e, List.append_nil]
   ·rw [if_neg e, if_neg e, List.append_nil]
  ·rw [if_neg ht, if_neg ht, List.drop_zero]
   by_cases e : eO c n = p
   ·rw [if_pos e, if_pos e, hcome3 e, List.append_nil]
   ·rw [if_neg e, if_neg e, List.append_nil]
 unfold bv
 rw [show tab (cM c ⟨tab (cM c s w) c.procs.length, tab (dU c s w) c.chans.length⟩ (cN p)) c.procs.length = tab (cM c s (fun q => w q || cN p q)) c.procs.length from ip e1,
  show tab (dU c ⟨tab (cM c s w) c.procs.length, tab (dU c s w) c.chans.length⟩ (cN p)) c.chans.length = tab (dU c s (fun q => w q || cN p q)) c.chans.length from ip e2]
end
end Go.Proofs.YtckgpflobhpnpaaGreat
