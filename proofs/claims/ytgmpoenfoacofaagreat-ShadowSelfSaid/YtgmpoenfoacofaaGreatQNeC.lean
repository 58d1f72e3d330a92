/-
  Circuits, plain law: states stay states; a process that can fire still can after others; firing one after the other.
-/
import Derived.Test.YtgmpoenfoacofaaGreatQNeB
namespace Go.Proofs.YtgmpoenfoacofaaGreat
open Go.RowKit
set_option linter.unusedVariables false
set_option linter.unusedSimpArgs false
section
variable {p : Pr} {s : Ps} {hs hs' : List Hd} {rs rs' : List Bool}
theorem lQ : e9 p s hs rs = true ↔ (∀ j, j < p.takes.length → gv p s hs j = true) ∧ ∀ j, j < p.puts.length → i8 p s hs rs j = true := by
 unfold e9
 rw [Bool.and_eq_true, bu, bu]
theorem oX (h : e9 p s hs rs = true) : aK p s hs rs = ⟨true, cg p s (bM p s hs), ao (kP p s hs) p.takes.length, ao (kQ p s hs) p.puts.length⟩ := if_pos h
theorem vn (hp : fL p) (h : e9 p s hs rs = true) (h1 : ∀ j, j < p.takes.length → (hs.getD j aR).has = true → hs'.getD j aR = hs.getD j aR)
  (h2 : ∀ j, j < p.puts.length → rs.getD j false = true → rs'.getD j false = true) : aK p s hs' rs' = aK p s hs rs := by
 obtain ⟨ht, hr⟩ := lQ.1 h
 have hcur : bM p s hs' = bM p s hs := by
  unfold bM
  refine gH (fun j hj => ?_)
  unfold ku
  by_cases hd : dH p s (hX p) (km p j).when = true
  ·have hh := ht j hj
   unfold gv at hh
   have hdue : dH p s (bM p s hs) (km p j).when = true := by rw [← hd]; exact (gI hp hj _ _).1
   have hhas : (hs.getD j aR).has = true := by rw [hdue] at hh; simpa using hh
   rw [h1 j hj hhas]
  ·rw [if_neg (by rintro ⟨a, _⟩; exact hd a), if_neg (by rintro ⟨a, _⟩; exact hd a)]
 have hf : e9 p s hs' rs' = true := by
  rw [lQ]
  refine ⟨fun j hj => ?_, fun j hj => ?_⟩
  ·have hh := ht j hj
   unfold gv at hh ⊢
   rw [hcur]
   rw [Bool.or_eq_true] at hh ⊢
   rcases hh with hh | hh
   ·left; rw [h1 j hj hh]; exact hh
   ·exact .inr hh
  ·have hh := hr j hj
   unfold i8 at hh ⊢
   rw [hcur]
   rw [Bool.or_eq_true] at hh ⊢
   rcases hh with hh | hh
   ·exact .inl (h2 j hj hh)
   ·exact .inr hh
 rw [oX hf, oX h]
 have e1 : kP p s hs' = kP p s hs := by funext j; unfold kP; rw [hcur]
 have e2 : kQ p s hs' = kQ p s hs := by funext j; unfold kQ; rw [hcur]
 rw [hcur, e1, e2]
theorem GI (h : e9 p s hs rs = true) {j : Nat} (hj : j < p.takes.length) (hpop : (aK p s hs rs).pops.getD j false = true) : (hs.getD j aR).has = true := by
 rw [oX h] at hpop
 simp only at hpop
 rw [bh hj] at hpop
 have hh := (lQ.1 h).1 j hj
 unfold gv at hh
 unfold kP at hpop
 rw [hpop] at hh
 simpa using hh
theorem EW (h : e9 p s hs rs = true) {j : Nat} (hj : j < p.puts.length) (hput : ((aK p s hs rs).puts.getD j aR).has = true) : rs.getD j false = true := by
 rw [oX h] at hput
 simp only at hput
 rw [bh hj] at hput
 have hh := (lQ.1 h).2 j hj
 unfold i8 at hh
 unfold kQ at hput
 split at hput
 ·rename_i hd; rw [hd] at hh; simpa using hh
 ·cases hput
end
section
variable {c : Ci} {s : Ns} {w w' : Nat → Bool}
theorem Bi (hc : a6 c) {p : Nat} (hp : p < c.procs.length) {f : Fi} (n : Nat) : ∀ {k : Nat}, k ≤ (bJ c p).puts.length → ((nh (bJ c p) f k).filter (fun e => e.1 == n)).length ≤ 1
 | 0, _ => by simp [nh]
 | k + 1, hk => by
  have ih := Bi hc hp (f := f) n (k := k) (by omega)
  rw [nh, List.filter_append, List.length_append]
  by_cases h1 : (f.puts.getD k aR).has = true
  ·rw [if_pos h1]
   by_cases e : t6 (bJ c p) k = n
   ·have h0 : (nh (bJ c p) f k).filter (fun e => e.1 == n) = [] := by
     rw [List.filter_eq_nil_iff]
     intro z hz hzn
     obtain ⟨j, g1, g2, g3, g4⟩ := lP hz
     have h5 : z.1 = n := by simpa using hzn
     have := hc.pd p hp j k (by omega) (by omega) (by rw [g3, e, h5])
     omega
    rw [h0]
    simp only [List.length_nil, Nat.zero_add]
    exact Nat.le_trans (List.length_filter_le _ _) (by simp)
   ·rw [List.filter_cons_of_neg (by simpa using e), List.filter_nil]; exact ih
  ·rw [if_neg h1]; exact ih
theorem tf (hc : a6 c) {p : Nat} (n : Nat) : (ni c s p n).length ≤ 1 := by
 by_cases hp : p < c.procs.length
 ·unfold ni; rw [List.length_map]; exact Bi hc hp n (Nat.le_refl _)
 ·rw [ja hp]; simp
theorem yi {p n : Nat} {v : Int} (h : v ∈ ni c s p n) : ∃ j, j < (bJ c p).puts.length ∧ ((ab c s p).puts.getD j aR).has = true ∧ t6 (bJ c p) j = n ∧ ((ab c s p).puts.getD j aR).v = v := by
 unfold ni at h
 rw [List.mem_map] at h
 obtain ⟨e, he, rfl⟩ := h
 rw [List.mem_filter] at he
 obtain ⟨j, h1, h2, h3, h4⟩ := lP he.1
 exact ⟨j, h1, h2, by rw [h3]; simpa using he.2, h4⟩
theorem Bj {p n : Nat} {v : Int} (h : v ∈ ni c s p n) : p < c.procs.length := by
 by_cases hp : p < c.procs.length
 ·exact hp
 ·rw [ja hp] at h; cases h
theorem qk {p n : Nat} (h : ez c s p n = true) : ∃ j, j < (bJ c p).takes.length ∧ (ab c s p).pops.getD j false = true ∧ uk (bJ c p) j = n := by
 unfold ez at h
 exact oV (of_decide_eq_true h)
theorem vo {p n : Nat} (hcan : cT c s p = true) (h : ez c s p n = true) : 0 < (d7 s n).length := by
 obtain ⟨j, h1, h2, rfl⟩ := qk h
 rw [te] at hcan
 have := GI hcan h1 h2
 rw [ci, bh h1] at this
 unfold bS at this
 split at this
 ·assumption
 ·cases this
theorem jb {p : Nat} (h : aC c s w p = true) : w p = true ∧ cT c s p = true := by
 unfold aC at h; simpa using h
theorem d9 (c : Ci) (s : Ns) (w : Nat → Bool) {n : Nat} (hn : n < c.chans.length) : d7 (aG c s w) n = cx c s w n := by
 show (ao _ _).getD n [] = _
 rw [bh hn]
theorem oY (c : Ci) (s : Ns) (w : Nat → Bool) {p : Nat} (hp : p < c.procs.length) : wG (aG c s w) p = bE c s w p := by
 show (ao _ _).getD p bx = _
 rw [bh hp]
theorem kV {α : Type} {a b : List α} {i : Nat} {d : α} : (a ++ b).getD i d = if i < a.length then a.getD i d else b.getD (i - a.length) d := by
 simp only [List.getD, List.getElem?_append]
 split <;> rfl
theorem CU {α : Type} {a : List α} {k i : Nat} {d : α} : (a.drop k).getD i d = a.getD (k + i) d := by
 simp only [List.getD, List.getElem?_drop]
theorem CV {α : Type} {l : List α} {i : Nat} {d : α} (h : i < l.length) : l.getD i d ∈ l := by
 simp [List.getD, List.getElem?_eq_getElem h]
theorem f5 (hc : a6 c) (hs : bH c s) (w : Nat → Bool) : bH c (aG c s w) where
 pl := by rw [aG]; exact aJ _ _
 cl := by rw [aG]; exact aJ _ _
 pv := fun p hp => by
  rw [oY c s w hp]
  unfold bE
  split
  ·exact uj (hc.pr p hp) (hs.pv p hp) (oU hc hs hp)
  ·exact hs.pv p hp
 cv := fun n hn i hi => by
  rw [d9 c s w hn] at hi ⊢
  unfold cx at hi ⊢
  rw [kV]
  split
  ·rename_i h
   rw [CU]
   rw [List.length_drop] at h
   exact hs.cv n hn _ (by omega)
  ·rename_i h
   rw [List.length_append] at hi
   have hm := CV (d := (0 : Int)) (show i - ((d7 s n).drop (cE c s w n)).length < (ca c s w n).length by omega)
   generalize (ca c s w n).getD _ 0 = v at hm
   unfold ca at hm
   split at hm
   ·have hlt := Bj hm
    obtain ⟨j, h1, h2, h3, h4⟩ := yi hm
    have := wC (rs := cS c s (eJ c n)) (hc.pr _ hlt) (hs.pv _ hlt) (oU hc hs hlt) h1 h2
    rw [← (hc.pt _ hlt j h1).2.2.1, h3] at this
    rw [← h4]; exact this
   ·cases hm
 cc := fun n hn hf hd => by
  rw [d9 c s w hn]
  unfold cx
  rw [List.length_append, List.length_drop]
  have h0 := hs.cc n hn hf hd
  unfold ca
  split
  ·rename_i hfi
   have h1 := tf (s := s) hc (p := eJ c n) n
   by_cases h2 : ni c s (eJ c n) n = []
   ·rw [h2]; simp only [List.length_nil]; omega
   ·obtain ⟨v, hv⟩ := List.exists_mem_of_ne_nil _ h2
    have hlt := Bj hv
    obtain ⟨j, h1', h2', h3, h4⟩ := yi hv
    have hcan := (jb hfi).2
    rw [te] at hcan
    have hr := EW hcan h1' h2'
    rw [cS, bh h1'] at hr
    unfold bU at hr
    rw [h3] at hr
    simp only [Bool.or_eq_true, decide_eq_true_eq] at hr
    omega
  ·simp only [List.length_nil]; omega
theorem Ir (hc : a6 c) {p j : Nat} (hp : p < c.procs.length) (hj : j < (bJ c p).puts.length) : eJ c (t6 (bJ c p) j) = p := by
 rw [eJ, (hc.pt p hp j hj).2.2.2]; rfl
theorem It (hc : a6 c) {p j : Nat} (hp : p < c.procs.length) (hj : j < (bJ c p).takes.length) : gA c (uk (bJ c p) j) = p := by
 rw [gA, (hc.tk p hp j hj).2.2.2]; rfl
theorem JM (hc : a6 c) {p j : Nat} (hp : p < c.procs.length) (hj : j < (bJ c p).takes.length) : uk (bJ c p) j < c.chans.length := by
 have := hc.tk p hp j hj
 show (km (bJ c p) j).chan.toNat < _
 omega
theorem JN (hc : a6 c) {p j : Nat} (hp : p < c.procs.length) (hj : j < (bJ c p).puts.length) : t6 (bJ c p) j < c.chans.length := by
 have := hc.pt p hp j hj
 show (qT (bJ c p) j).chan.toNat < _
 omega
theorem Bk {n : Nat} (h : w (gA c n) = false) : cE c s w n = 0 := by
 rw [cE, if_neg]
 rintro ⟨h1, _⟩
 rw [(jb h1).1] at h; cases h
theorem Bl {n : Nat} (h : w (eJ c n) = false) : ca c s w n = [] := by
 rw [ca, if_neg]
 intro h1
 rw [(jb h1).1] at h; cases h
theorem yj (hc : a6 c) {p : Nat} (hp : p < c.procs.length) (hcan : cT c s p = true) (hw : w p = false) : ab c (aG c s w) p = ab c s p ∧ wG (aG c s w) p = wG s p := by
 have hps : wG (aG c s w) p = wG s p := by
  rw [oY c s w hp, bE, if_neg (by unfold aC; rw [hw]; simp)]
 refine ⟨?_, hps⟩
 unfold ab
 rw [hps]
 rw [te] at hcan
 refine vn (hc.pr p hp) hcan (fun j hj hh => ?_) (fun j hj hh => ?_)
 ·rw [ci, bh hj] at hh ⊢
  rw [ci, bh hj]
  unfold bS at hh ⊢
  rw [d9 c s w (JM hc hp hj), cx, Bk (by rw [It hc hp hj]; exact hw), List.drop_zero]
  split at hh
  ·rename_i h0
   rw [if_pos h0, if_pos (by rw [List.length_append]; omega), kV, if_pos h0]
  ·cases hh
 ·rw [cS, bh hj] at hh ⊢
  unfold bU at hh ⊢
  rw [d9 c s w (JN hc hp hj), cx, Bl (by rw [Ir hc hp hj]; exact hw), List.append_nil, List.length_drop]
  simp only [Bool.or_eq_true, decide_eq_true_eq] at hh ⊢
  omega
theorem qn (h : ∀ p, aC c s w p = aC c s w' p) : aG c s w = aG c s w' := by
 have h1 : bE c s w = bE c s w' := by funext p; unfold bE; rw [h p]
 have h2 : cx c s w = cx c s w' := by funext n; unfold cx cE ca; rw [h, h]
 unfold aG; rw [h1, h2]
theorem EX {p : Nat} (h : aC c s w p = false) : bE c s w p = wG s p := by
 unfold bE; rw [if_neg (by rw [h]; simp)]
theorem tg {p : Nat} (hs : c.procs.length ≤ p) : ez c s p = fun _ => false := by
 funext n
 cases h : ez c s p n
 ·rfl
 ·exfalso
  obtain ⟨j, h1, _⟩ := qk h
  have e : bJ c p = ax := by rw [bJ, List.getD, List.getElem?_eq_none (by omega)]; rfl
  rw [e] at h1
  exact Nat.not_lt_zero _ h1
theorem yk (hs : bH c s) (h : ∀ p, p < c.procs.length → aC c s w p = false) : aG c s w = s := by
 have e1 : (aG c s w).procs = s.procs := by
  refine oL (d := bx) (by rw [aG, aJ, hs.pl]) (fun p hp => ?_)
  rw [aG, aJ] at hp
  show wG (aG c s w) p = wG s p
  rw [oY c s w hp, EX (h p hp)]
 have e2 : (aG c s w).chans = s.chans := by
  refine oL (d := []) (by rw [aG, aJ, hs.cl]) (fun n hn => ?_)
  rw [aG, aJ] at hn
  show d7 (aG c s w) n = d7 s n
  rw [d9 c s w hn, cx]
  have h1 : cE c s w n = 0 := by
   rw [cE]
   by_cases hd : gA c n < c.procs.length
   ·rw [h _ hd]; simp
   ·rw [if_neg]
    rintro ⟨_, h2⟩
    rw [tg (by omega)] at h2; cases h2
  have h2 : ca c s w n = [] := by
   rw [ca]
   by_cases hd : eJ c n < c.procs.length
   ·rw [h _ hd]; simp
   ·split
    ·exact ja hd
    ·rfl
  rw [h1, h2]; simp
 cases s; cases hq : aG c _ w
 rw [hq] at e1 e2
 simp only at e1 e2
 rw [e1, e2]
def aH (p : Nat) : Nat → Bool := fun q => decide (q = p)
theorem lR (p : Nat) : aH p p = true := by simp [aH]
theorem fD {p q : Nat} (h : q ≠ p) : aH p q = false := by simp [aH, h]
theorem wM (hc : a6 c) {p : Nat} (hp : p < c.procs.length) (hcan : cT c s p = true) (hw : w p = false) : aG c (aG c s w) (aH p) = aG c s (fun q => w q || aH p q) := by
 obtain ⟨hst, hps⟩ := yj (w := w) hc hp hcan hw
 have hcan2 : cT c (aG c s w) p = true := by unfold cT; rw [hst]; exact hcan
 have hfp : aC c (aG c s w) (aH p) p = true := by unfold aC; rw [lR, hcan2]; rfl
 have hfq : ∀ q, q ≠ p → aC c (aG c s w) (aH p) q = false := fun q hq => by unfold aC; rw [fD hq]; rfl
 have gp : aC c s (fun q => w q || aH p q) p = true := by unfold aC; simp [lR, hcan]
 have gq : ∀ q, q ≠ p → aC c s (fun q => w q || aH p q) q = aC c s w q := fun q hq => by unfold aC; simp [fD hq]
 have e1 : ∀ q, q < c.procs.length → bE c (aG c s w) (aH p) q = bE c s (fun q => w q || aH p q) q := by
  intro q hq
  unfold bE
  by_cases e : q = p
  ·subst e; rw [if_pos hfp, if_pos gp, hst]
  ·rw [hfq q e, gq q e, if_neg (by simp), oY c s w hq]; rfl
 have hfw : aC c s w p = false := by unfold aC; rw [hw]; rfl
 have e2 : ∀ n, n < c.chans.length → cx c (aG c s w) (aH p) n = cx c s (fun q => w q || aH p q) n := by
  intro n hn
  unfold cx
  rw [d9 c s w hn, cx]
  have hcome : ca c (aG c s w) (aH p) n = if eJ c n = p then ni c s p n else [] := by
   unfold ca
   by_cases e : eJ c n = p
   ·rw [if_pos e, e, if_pos hfp]; unfold ni; rw [hst]
   ·rw [if_neg e, hfq _ e]; simp
  have hcome2 : ca c s (fun q => w q || aH p q) n = if eJ c n = p then ni c s p n else ca c s w n := by
   unfold ca
   by_cases e : eJ c n = p
   ·rw [if_pos e, e, if_pos gp]
   ·rw [if_neg e, gq _ e]
  have hcome3 : eJ c n = p → ca c s w n = [] := fun e => Bl (by rw [e]; exact hw)
  have hgone : cE c (aG c s w) (aH p) n = if gA c n = p ∧ ez c s p n = true then 1 else 0 := by
   unfold cE
   by_cases e : gA c n = p
   ·rw [e]
    have : ez c (aG c s w) p n = ez c s p n := by unfold ez; rw [hst]
    rw [this, hfp]; simp
   ·rw [hfq _ e, if_neg (by simp), if_neg (by simp [e])]
  have hgone2 : cE c s (fun q => w q || aH p q) n = if gA c n = p ∧ ez c s p n = true then 1 else cE c s w n := by
   unfold cE
   by_cases e : gA c n = p
   ·rw [e, gp, hfw]; simp
   ·rw [gq _ e]; simp [e]
  have hgone3 : gA c n = p → cE c s w n = 0 := fun e => Bk (by rw [e]; exact hw)
  rw [hcome, hcome2, hgone, hgone2]
  have key : ∀ (z : List Int), (if eJ c n = p then ca c s w n ++ z else ca c s w n) = (if eJ c n = p then z else ca c s w n) := by
   intro z; split
   ·rename_i e; rw [hcome3 e]; rfl
   ·rfl
  by_cases ht : gA c n = p ∧ ez c s p n = true
  ·rw [if_pos ht, if_pos ht, hgone3 ht.1, List.drop_zero]
   have h0 := vo hcan ht.2
   rw [List.drop_append_of_le_length (by omega)]
   by_cases e : eJ c n = p
   ·rw [if_pos e, if_pos e, hcome3 e, List.append_nil]
   ·rw [if_neg e, if_neg e, List.append_nil]
  ·rw [if_neg ht, if_neg ht, List.drop_zero]
   by_cases e : eJ c n = p
   ·rw [if_pos e, if_pos e, hcome3 e, List.append_nil]
   ·rw [if_neg e, if_neg e, List.append_nil]
 unfold aG
 rw [show ao (bE c ⟨ao (bE c s w) c.procs.length, ao (cx c s w) c.chans.length⟩ (aH p)) c.procs.length = ao (bE c s (fun q => w q || aH p q)) c.procs.length from gH e1,
  show ao (cx c ⟨ao (bE c s w) c.procs.length, ao (cx c s w) c.chans.length⟩ (aH p)) c.chans.length = ao (cx c s (fun q => w q || aH p q)) c.chans.length from gH e2]
end
end Go.Proofs.YtgmpoenfoacofaaGreat
