/-
  Circuits, plain law: states stay states; a process that can fire still can after others; firing one after the other.
-/
import Derived.Test.YtckgpflobhpnpaaQNeB
namespace Go.Proofs.Ytckgpflobhpnpaa
open Go.RowKit
set_option linter.unusedVariables false
set_option linter.unusedSimpArgs false
section
variable {p : Pr} {s : Ps} {hs hs' : List Hd} {rs rs' : List Bool}
theorem nA : fo p s hs rs = true ↔ (∀ j, j < p.takes.length → jQ p s hs j = true) ∧ ∀ j, j < p.puts.length → oz p s hs rs j = true := by
 unfold fo
 rw [Bool.and_eq_true, cH, cH]
theorem qP (h : fo p s hs rs = true) : aL p s hs rs = ⟨true, eF p s (i5 p s hs), tab (oA p s hs) p.takes.length, tab (oB p s hs) p.puts.length⟩ := if_pos h
theorem jU (hp : gP p) (h : fo p s hs rs = true) (h1 : ∀ j, j < p.takes.length → (hs.getD j aP).has = true → hs'.getD j aP = hs.getD j aP)
  (h2 : ∀ j, j < p.puts.length → rs.getD j false = true → rs'.getD j false = true) : aL p s hs' rs' = aL p s hs rs := by
 obtain ⟨ht, hr⟩ := nA.1 h
 have hcur : i5 p s hs' = i5 p s hs := by
  unfold i5
  refine ik (fun j hj => ?_)
  unfold qD
  by_cases hd : kK p s (uU p) (lM p j).when = true
  ·have hh := ht j hj
   unfold jQ at hh
   have hdue : kK p s (i5 p s hs) (lM p j).when = true := by rw [← hd]; exact (il hp hj _ _).1
   have hhas : (hs.getD j aP).has = true := by rw [hdue] at hh; simpa using hh
   rw [h1 j hj hhas]
  ·rw [if_neg (by rintro ⟨a, _⟩; exact hd a), if_neg (by rintro ⟨a, _⟩; exact hd a)]
 have hf : fo p s hs' rs' = true := by
  rw [nA]
  refine ⟨fun j hj => ?_, fun j hj => ?_⟩
  ·have hh := ht j hj
   unfold jQ at hh ⊢
   rw [hcur]
   rw [Bool.or_eq_true] at hh ⊢
   rcases hh with hh | hh
   ·left; rw [h1 j hj hh]; exact hh
   ·exact .inr hh
  ·have hh := hr j hj
   unfold oz at hh ⊢
   rw [hcur]
   rw [Bool.or_eq_true] at hh ⊢
   rcases hh with hh | hh
   ·exact .inl (h2 j hj hh)
   ·exact .inr hh
 rw [qP hf, qP h]
 have e1 : oA p s hs' = oA p s hs := by funext j; unfold oA; rw [hcur]
 have e2 : oB p s hs' = oB p s hs := by funext j; unfold oB; rw [hcur]
 rw [hcur, e1, e2]
theorem CI (h : fo p s hs rs = true) {j : Nat} (hj : j < p.takes.length) (hpop : (aL p s hs rs).pops.getD j false = true) : (hs.getD j aP).has = true := by
 rw [qP h] at hpop
 simp only at hpop
 rw [aB hj] at hpop
 have hh := (nA.1 h).1 j hj
 unfold jQ at hh
 unfold oA at hpop
 rw [hpop] at hh
 simpa using hh
theorem F2 (h : fo p s hs rs = true) {j : Nat} (hj : j < p.puts.length) (hput : ((aL p s hs rs).puts.getD j aP).has = true) : rs.getD j false = true := by
 rw [qP h] at hput
 simp only at hput
 rw [aB hj] at hput
 have hh := (nA.1 h).2 j hj
 unfold oz at hh
 unfold oB at hput
 split at hput
 ·rename_i hd; rw [hd] at hh; simpa using hh
 ·cases hput
end
section
variable {c : Ci} {s : Ns} {w w' : Nat → Bool}
theorem xP (hc : a6 c) {p : Nat} (hp : p < c.procs.length) {f : Fi} (n : Nat) : ∀ {k : Nat}, k ≤ (be c p).puts.length → ((ny (be c p) f k).filter (fun e => e.1 == n)).length ≤ 1
 | 0, _ => by simp [ny]
 | k + 1, hk => by
  have ih := xP hc hp (f := f) n (k := k) (by omega)
  rw [ny, List.filter_append, List.length_append]
  by_cases h1 : (f.puts.getD k aP).has = true
  ·rw [if_pos h1]
   by_cases e : vG (be c p) k = n
   ·have h0 : (ny (be c p) f k).filter (fun e => e.1 == n) = [] := by
     rw [List.filter_eq_nil_iff]
     intro z hz hzn
     obtain ⟨j, g1, g2, g3, g4⟩ := qO hz
     have h5 : z.1 = n := by simpa using hzn
     have := hc.pd p hp j k (by omega) (by omega) (by rw [g3, e, h5])
     omega
    rw [h0]
    simp only [List.length_nil, Nat.zero_add]
    exact Nat.le_trans (List.length_filter_le _ _) (by simp)
   ·rw [List.filter_cons_of_neg (by simpa using e), List.filter_nil]; exact ih
  ·rw [if_neg h1]; exact ih
theorem F3 (hc : a6 c) {p : Nat} (n : Nat) : (s4 c s p n).length ≤ 1 := by
 by_cases hp : p < c.procs.length
 ·unfold s4; rw [List.length_map]; exact xP hc hp n (Nat.le_refl _)
 ·rw [mD hp]; simp
theorem zx {p n : Nat} {v : Int} (h : v ∈ s4 c s p n) : ∃ j, j < (be c p).puts.length ∧ ((af c s p).puts.getD j aP).has = true ∧ vG (be c p) j = n ∧ ((af c s p).puts.getD j aP).v = v := by
 unfold s4 at h
 rw [List.mem_map] at h
 obtain ⟨e, he, rfl⟩ := h
 rw [List.mem_filter] at he
 obtain ⟨j, h1, h2, h3, h4⟩ := qO he.1
 exact ⟨j, h1, h2, by rw [h3]; simpa using he.2, h4⟩
theorem CJ {p n : Nat} {v : Int} (h : v ∈ s4 c s p n) : p < c.procs.length := by
 by_cases hp : p < c.procs.length
 ·exact hp
 ·rw [mD hp] at h; cases h
theorem wG {p n : Nat} (h : eu c s p n = true) : ∃ j, j < (be c p).takes.length ∧ (af c s p).pops.getD j false = true ∧ mA (be c p) j = n := by
 unfold eu at h
 exact nz (of_decide_eq_true h)
theorem wH {p n : Nat} (hcan : gf c s p = true) (h : eu c s p n = true) : 0 < (xN s n).length := by
 obtain ⟨j, h1, h2, rfl⟩ := wG h
 rw [rX] at hcan
 have := CI hcan h1 h2
 rw [ge, aB h1] at this
 unfold cJ at this
 split at this
 ·assumption
 ·cases this
theorem im {p : Nat} (h : aA c s w p = true) : w p = true ∧ gf c s p = true := by
 unfold aA at h; simpa using h
theorem iI (c : Ci) (s : Ns) (w : Nat → Bool) {n : Nat} (hn : n < c.chans.length) : xN (bz c s w) n = dV c s w n := by
 show (tab _ _).getD n [] = _
 rw [aB hn]
theorem mE (c : Ci) (s : Ns) (w : Nat → Bool) {p : Nat} (hp : p < c.procs.length) : AZ (bz c s w) p = cM c s w p := by
 show (tab _ _).getD p bV = _
 rw [aB hp]
theorem jV {α : Type} {a b : List α} {i : Nat} {d : α} : (a ++ b).getD i d = if i < a.length then a.getD i d else b.getD (i - a.length) d := by
 simp only [List.getD, List.getElem?_append]
 split <;> rfl
theorem wI {α : Type} {a : List α} {k i : Nat} {d : α} : (a.drop k).getD i d = a.getD (k + i) d := by
 simp only [List.getD, List.getElem?_drop]
theorem jW {α : Type} {l : List α} {i : Nat} {d : α} (h : i < l.length) : l.getD i d ∈ l := by
 simp [List.getD, List.getElem?_eq_getElem h]
theorem Kl (hc : a6 c) (hs : jS c s) (w : Nat → Bool) : jS c (bz c s w) where
 pl := by rw [bz]; exact ap _ _
 cl := by rw [bz]; exact ap _ _
 pv := fun p hp => by
  rw [mE c s w hp]
  unfold cM
  split
  ·exact oY (hc.pr p hp) (hs.pv p hp) (qN hc hs hp)
  ·exact hs.pv p hp
 cv := fun n hn i hi => by
  rw [iI c s w hn] at hi ⊢
  unfold dV at hi ⊢
  rw [jV]
  split
  ·rename_i h
   rw [wI]
   rw [List.length_drop] at h
   exact hs.cv n hn _ (by omega)
  ·rename_i h
   rw [List.length_append] at hi
   have hm := jW (d := (0 : Int)) (show i - ((xN s n).drop (dU c s w n)).length < (cL c s w n).length by omega)
   generalize (cL c s w n).getD _ 0 = v at hm
   unfold cL at hm
   split at hm
   ·have hlt := CJ hm
    obtain ⟨j, h1, h2, h3, h4⟩ := zx hm
    have := qG (rs := uW c s (eP c n)) (hc.pr _ hlt) (hs.pv _ hlt) (qN hc hs hlt) h1 h2
    rw [← (hc.pt _ hlt j h1).2.2.1, h3] at this
    rw [← h4]; exact this
   ·cases hm
 cc := fun n hn hf hd => by
  rw [iI c s w hn]
  unfold dV
  rw [List.length_append, List.length_drop]
  have h0 := hs.cc n hn hf hd
  unfold cL
  split
  ·rename_i hfi
   have h1 := F3 (s := s) hc (p := eP c n) n
   by_cases h2 : s4 c s (eP c n) n = []
   ·rw [h2]; simp only [List.length_nil]; omega
   ·obtain ⟨v, hv⟩ := List.exists_mem_of_ne_nil _ h2
    have hlt := CJ hv
    obtain ⟨j, h1', h2', h3, h4⟩ := zx hv
    have hcan := (im hfi).2
    rw [rX] at hcan
    have hr := F2 hcan h1' h2'
    rw [uW, aB h1'] at hr
    unfold cQ at hr
    rw [h3] at hr
    simp only [Bool.or_eq_true, decide_eq_true_eq] at hr
    omega
  ·simp only [List.length_nil]; omega
theorem Km (hc : a6 c) {p j : Nat} (hp : p < c.procs.length) (hj : j < (be c p).puts.length) : eP c (vG (be c p) j) = p := by
 rw [eP, (hc.pt p hp j hj).2.2.2]; rfl
theorem Kn (hc : a6 c) {p j : Nat} (hp : p < c.procs.length) (hj : j < (be c p).takes.length) : gQ c (mA (be c p) j) = p := by
 rw [gQ, (hc.tk p hp j hj).2.2.2]; rfl
theorem Jo (hc : a6 c) {p j : Nat} (hp : p < c.procs.length) (hj : j < (be c p).takes.length) : mA (be c p) j < c.chans.length := by
 have := hc.tk p hp j hj
 show (lM (be c p) j).chan.toNat < _
 omega
theorem LO (hc : a6 c) {p j : Nat} (hp : p < c.procs.length) (hj : j < (be c p).puts.length) : vG (be c p) j < c.chans.length := by
 have := hc.pt p hp j hj
 show (sH (be c p) j).chan.toNat < _
 omega
theorem CL {n : Nat} (h : w (gQ c n) = false) : dU c s w n = 0 := by
 rw [dU, if_neg]
 rintro ⟨h1, _⟩
 rw [(im h1).1] at h; cases h
theorem CM {n : Nat} (h : w (eP c n) = false) : cL c s w n = [] := by
 rw [cL, if_neg]
 intro h1
 rw [(im h1).1] at h; cases h
theorem uY (hc : a6 c) {p : Nat} (hp : p < c.procs.length) (hcan : gf c s p = true) (hw : w p = false) : af c (bz c s w) p = af c s p ∧ AZ (bz c s w) p = AZ s p := by
 have hps : AZ (bz c s w) p = AZ s p := by
  rw [mE c s w hp, cM, if_neg (by unfold aA; rw [hw]; simp)]
 refine ⟨?_, hps⟩
 unfold af
 rw [hps]
 rw [rX] at hcan
 refine jU (hc.pr p hp) hcan (fun j hj hh => ?_) (fun j hj hh => ?_)
 ·rw [ge, aB hj] at hh ⊢
  rw [ge, aB hj]
  unfold cJ at hh ⊢
  rw [iI c s w (Jo hc hp hj), dV, CL (by rw [Kn hc hp hj]; exact hw), List.drop_zero]
  split at hh
  ·rename_i h0
   rw [if_pos h0, if_pos (by rw [List.length_append]; omega), jV, if_pos h0]
  ·cases hh
 ·rw [uW, aB hj] at hh ⊢
  unfold cQ at hh ⊢
  rw [iI c s w (LO hc hp hj), dV, CM (by rw [Km hc hp hj]; exact hw), List.append_nil, List.length_drop]
  simp only [Bool.or_eq_true, decide_eq_true_eq] at hh ⊢
  omega
theorem wJ (h : ∀ p, aA c s w p = aA c s w' p) : bz c s w = bz c s w' := by
 have h1 : cM c s w = cM c s w' := by funext p; unfold cM; rw [h p]
 have h2 : dV c s w = dV c s w' := by funext n; unfold dV dU cL; rw [h, h]
 unfold bz; rw [h1, h2]
theorem F4 {p : Nat} (h : aA c s w p = false) : cM c s w p = AZ s p := by
 unfold cM; rw [if_neg (by rw [h]; simp)]
theorem zy {p : Nat} (hs : c.procs.length ≤ p) : eu c s p = fun _ => false := by
 funext n
 cases h : eu c s p n
 ·rfl
 ·exfalso
  obtain ⟨j, h1, _⟩ := wG h
  have e : be c p = ac := by rw [be, List.getD, List.getElem?_eq_none (by omega)]; rfl
  rw [e] at h1
  exact Nat.not_lt_zero _ h1
theorem F5 (hs : jS c s) (h : ∀ p, p < c.procs.length → aA c s w p = false) : bz c s w = s := by
 have e1 : (bz c s w).procs = s.procs := by
  refine dR (d := bV) (by rw [bz, ap, hs.pl]) (fun p hp => ?_)
  rw [bz, ap] at hp
  show AZ (bz c s w) p = AZ s p
  rw [mE c s w hp, F4 (h p hp)]
 have e2 : (bz c s w).chans = s.chans := by
  refine dR (d := []) (by rw [bz, ap, hs.cl]) (fun n hn => ?_)
  rw [bz, ap] at hn
  show xN (bz c s w) n = xN s n
  rw [iI c s w hn, dV]
  have h1 : dU c s w n = 0 := by
   rw [dU]
   by_cases hd : gQ c n < c.procs.length
   ·rw [h _ hd]; simp
   ·rw [if_neg]
    rintro ⟨_, h2⟩
    rw [zy (by omega)] at h2; cases h2
  have h2 : cL c s w n = [] := by
   rw [cL]
   by_cases hd : eP c n < c.procs.length
   ·rw [h _ hd]; simp
   ·split
    ·exact mD hd
    ·rfl
  rw [h1, h2]; simp
 cases s; cases hq : bz c _ w
 rw [hq] at e1 e2
 simp only at e1 e2
 rw [e1, e2]
def cN (p : Nat) : Nat → Bool := fun q => decide (q = p)
theorem jX (p : Nat) : cN p p = true := by simp [cN]
theorem tB {p q : Nat} (h : q ≠ p) : cN p q = false := by simp [cN, h]
theorem Iv (hc : a6 c) {p : Nat} (hp : p < c.procs.length) (hcan : gf c s p = true) (hw : w p = false) : bz c (bz c s w) (cN p) = bz c s (fun q => w q || cN p q) := by
 obtain ⟨hst, hps⟩ := uY (w := w) hc hp hcan hw
 have hcan2 : gf c (bz c s w) p = true := by unfold gf; rw [hst]; exact hcan
 have hfp : aA c (bz c s w) (cN p) p = true := by unfold aA; rw [jX, hcan2]; rfl
 have hfq : ∀ q, q ≠ p → aA c (bz c s w) (cN p) q = false := fun q hq => by unfold aA; rw [tB hq]; rfl
 have gp : aA c s (fun q => w q || cN p q) p = true := by unfold aA; simp [jX, hcan]
 have gq : ∀ q, q ≠ p → aA c s (fun q => w q || cN p q) q = aA c s w q := fun q hq => by unfold aA; simp [tB hq]
 have e1 : ∀ q, q < c.procs.length → cM c (bz c s w) (cN p) q = cM c s (fun q => w q || cN p q) q := by
  intro q hq
  unfold cM
  by_cases e : q = p
  ·subst e; rw [if_pos hfp, if_pos gp, hst]
  ·rw [hfq q e, gq q e, if_neg (by simp), mE c s w hq]; rfl
 have hfw : aA c s w p = false := by unfold aA; rw [hw]; rfl
 have e2 : ∀ n, n < c.chans.length → dV c (bz c s w) (cN p) n = dV c s (fun q => w q || cN p q) n := by
  intro n hn
  unfold dV
  rw [iI c s w hn, dV]
  have hcome : cL c (bz c s w) (cN p) n = if eP c n = p then s4 c s p n else [] := by
   unfold cL
   by_cases e : eP c n = p
   ·rw [if_pos e, e, if_pos hfp]; unfold s4; rw [hst]
   ·rw [if_neg e, hfq _ e]; simp
  have hcome2 : cL c s (fun q => w q || cN p q) n = if eP c n = p then s4 c s p n else cL c s w n := by
   unfold cL
   by_cases e : eP c n = p
   ·rw [if_pos e, e, if_pos gp]
   ·rw [if_neg e, gq _ e]
  have hcome3 : eP c n = p → cL c s w n = [] := fun e => CM (by rw [e]; exact hw)
  have hgone : dU c (bz c s w) (cN p) n = if gQ c n = p ∧ eu c s p n = true then 1 else 0 := by
   unfold dU
   by_cases e : gQ c n = p
   ·rw [e]
    have : eu c (bz c s w) p n = eu c s p n := by unfold eu; rw [hst]
    rw [this, hfp]; simp
   ·rw [hfq _ e, if_neg (by simp), if_neg (by simp [e])]
  have hgone2 : dU c s (fun q => w q || cN p q) n = if gQ c n = p ∧ eu c s p n = true then 1 else dU c s w n := by
   unfold dU
   by_cases e : gQ c n = p
   ·rw [e, gp, hfw]; simp
   ·rw [gq _ e]; simp [e]
  have hgone3 : gQ c n = p → dU c s w n = 0 := fun e => CL (by rw [e]; exact hw)
  rw [hcome, hcome2, hgone, hgone2]
  have key : ∀ (z : List Int), (if eP c n = p then cL c s w n ++ z else cL c s w n) = (if eP c n = p then z else cL c s w n) := by
   intro z; split
   ·rename_i e; rw [hcome3 e]; rfl
   ·rfl
  by_cases ht : gQ c n = p ∧ eu c s p n = true
  ·rw [if_pos ht, if_pos ht, hgone3 ht.1, List.drop_zero]
   have h0 := wH hcan ht.2
   rw [List.drop_append_of_le_length (by omega)]
   by_cases e : eP c n = p
   ·rw [if_pos e, if_pos e, hcome3 e, List.append_nil]
   ·rw [if_neg e, if_neg e, List.append_nil]
  ·rw [if_neg ht, if_neg ht, List.drop_zero]
   by_cases e : eP c n = p
   ·rw [if_pos e, if_pos e, hcome3 e, List.append_nil]
   ·rw [if_neg e, if_neg e, List.append_nil]
 unfold bz
 rw [show tab (cM c ⟨tab (cM c s w) c.procs.length, tab (dV c s w) c.chans.length⟩ (cN p)) c.procs.length = tab (cM c s (fun q => w q || cN p q)) c.procs.length from ik e1,
  show tab (dV c ⟨tab (cM c s w) c.procs.length, tab (dV c s w) c.chans.length⟩ (cN p)) c.chans.length = tab (dV c s (fun q => w q || cN p q)) c.chans.length from ik e2]
end
end Go.Proofs.Ytckgpflobhpnpaa
