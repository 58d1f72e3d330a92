/-
  Circuits, plain law: states stay states; a process that can fire still can after others; firing one after the other.
-/
import Derived.Test.YtifoecfajmnjjaaGreatQNeB
namespace Go.Proofs.YtifoecfajmnjjaaGreat
open Go.RowKit
set_option linter.unusedVariables false
set_option linter.unusedSimpArgs false
section
variable {p : Pr} {s : Ps} {hs hs' : List Hd} {rs rs' : List Bool}
theorem lR : fe p s hs rs = true ↔ (∀ j, j < p.takes.length → gE p s hs j = true) ∧ ∀ j, j < p.puts.length → jg p s hs rs j = true := by
 unfold fe
 rw [Bool.and_eq_true, bP, bP]
theorem oZ (h : fe p s hs rs = true) : aP p s hs rs = ⟨true, ce p s (bO p s hs), ap (kY p s hs) p.takes.length, ap (kZ p s hs) p.puts.length⟩ := if_pos h
theorem Bi (hp : fq p) (h : fe p s hs rs = true) (h1 : ∀ j, j < p.takes.length → (hs.getD j aJ).has = true → hs'.getD j aJ = hs.getD j aJ)
  (h2 : ∀ j, j < p.puts.length → rs.getD j false = true → rs'.getD j false = true) : aP p s hs' rs' = aP p s hs rs := by
 obtain ⟨ht, hr⟩ := lR.1 h
 have hcur : bO p s hs' = bO p s hs := by
  unfold bO
  refine gL (fun j hj => ?_)
  unfold kA
  by_cases hd : du p s (hU p) (kt p j).when = true
  ·have hh := ht j hj
   unfold gE at hh
   have hdue : du p s (bO p s hs) (kt p j).when = true := by rw [← hd]; exact (gM hp hj _ _).1
   have hhas : (hs.getD j aJ).has = true := by rw [hdue] at hh; simpa using hh
   rw [h1 j hj hhas]
  ·rw [if_neg (by rintro ⟨a, _⟩; exact hd a), if_neg (by rintro ⟨a, _⟩; exact hd a)]
 have hf : fe p s hs' rs' = true := by
  rw [lR]
  refine ⟨fun j hj => ?_, fun j hj => ?_⟩
  ·have hh := ht j hj
   unfold gE at hh ⊢
   rw [hcur]
   rw [Bool.or_eq_true] at hh ⊢
   rcases hh with hh | hh
   ·left; rw [h1 j hj hh]; exact hh
   ·exact .inr hh
  ·have hh := hr j hj
   unfold jg at hh ⊢
   rw [hcur]
   rw [Bool.or_eq_true] at hh ⊢
   rcases hh with hh | hh
   ·exact .inl (h2 j hj hh)
   ·exact .inr hh
 rw [oZ hf, oZ h]
 have e1 : kY p s hs' = kY p s hs := by funext j; unfold kY; rw [hcur]
 have e2 : kZ p s hs' = kZ p s hs := by funext j; unfold kZ; rw [hcur]
 rw [hcur, e1, e2]
theorem E1 (h : fe p s hs rs = true) {j : Nat} (hj : j < p.takes.length) (hpop : (aP p s hs rs).pops.getD j false = true) : (hs.getD j aJ).has = true := by
 rw [oZ h] at hpop
 simp only at hpop
 rw [bj hj] at hpop
 have hh := (lR.1 h).1 j hj
 unfold gE at hh
 unfold kY at hpop
 rw [hpop] at hh
 simpa using hh
theorem Dt (h : fe p s hs rs = true) {j : Nat} (hj : j < p.puts.length) (hput : ((aP p s hs rs).puts.getD j aJ).has = true) : rs.getD j false = true := by
 rw [oZ h] at hput
 simp only at hput
 rw [bj hj] at hput
 have hh := (lR.1 h).2 j hj
 unfold jg at hh
 unfold kZ at hput
 split at hput
 ·rename_i hd; rw [hd] at hh; simpa using hh
 ·cases hput
end
section
variable {c : Ci} {s : Ns} {w w' : Nat → Bool}
theorem Aa (hc : bM c) {p : Nat} (hp : p < c.procs.length) {f : Fi} (n : Nat) : ∀ {k : Nat}, k ≤ (bC c p).puts.length → ((kE (bC c p) f k).filter (fun e => e.1 == n)).length ≤ 1
 | 0, _ => by simp [kE]
 | k + 1, hk => by
  have ih := Aa hc hp (f := f) n (k := k) (by omega)
  rw [kE, List.filter_append, List.length_append]
  by_cases h1 : (f.puts.getD k aJ).has = true
  ·rw [if_pos h1]
   by_cases e : sZ (bC c p) k = n
   ·have h0 : (kE (bC c p) f k).filter (fun e => e.1 == n) = [] := by
     rw [List.filter_eq_nil_iff]
     intro z hz hzn
     obtain ⟨j, g1, g2, g3, g4⟩ := oV hz
     have h5 : z.1 = n := by simpa using hzn
     have := hc.pd p hp j k (by omega) (by omega) (by rw [g3, e, h5])
     omega
    rw [h0]
    simp only [List.length_nil, Nat.zero_add]
    exact Nat.le_trans (List.length_filter_le _ _) (by simp)
   ·rw [List.filter_cons_of_neg (by simpa using e), List.filter_nil]; exact ih
  ·rw [if_neg h1]; exact ih
theorem su (hc : bM c) {p : Nat} (n : Nat) : (qQ c s p n).length ≤ 1 := by
 by_cases hp : p < c.procs.length
 ·unfold qQ; rw [List.length_map]; exact Aa hc hp n (Nat.le_refl _)
 ·rw [lh hp]; simp
theorem wZ {p n : Nat} {v : Int} (h : v ∈ qQ c s p n) : ∃ j, j < (bC c p).puts.length ∧ ((aa c s p).puts.getD j aJ).has = true ∧ sZ (bC c p) j = n ∧ ((aa c s p).puts.getD j aJ).v = v := by
 unfold qQ at h
 rw [List.mem_map] at h
 obtain ⟨e, he, rfl⟩ := h
 rw [List.mem_filter] at he
 obtain ⟨j, h1, h2, h3, h4⟩ := oV he.1
 exact ⟨j, h1, h2, by rw [h3]; simpa using he.2, h4⟩
theorem Ab {p n : Nat} {v : Int} (h : v ∈ qQ c s p n) : p < c.procs.length := by
 by_cases hp : p < c.procs.length
 ·exact hp
 ·rw [lh hp] at h; cases h
theorem t1 {p n : Nat} (h : eJ c s p n = true) : ∃ j, j < (bC c p).takes.length ∧ (aa c s p).pops.getD j false = true ∧ tb (bC c p) j = n := by
 unfold eJ at h
 exact oU (of_decide_eq_true h)
theorem t2 {p n : Nat} (hcan : dG c s p = true) (h : eJ c s p n = true) : 0 < (i4 s n).length := by
 obtain ⟨j, h1, h2, rfl⟩ := t1 h
 rw [vq] at hcan
 have := E1 hcan h1 h2
 rw [cx, bj h1] at this
 unfold bZ at this
 split at this
 ·assumption
 ·cases this
theorem lS {p : Nat} (h : aq c s w p = true) : w p = true ∧ dG c s p = true := by
 unfold aq at h; simpa using h
theorem hY (c : Ci) (s : Ns) (w : Nat → Bool) {n : Nat} (hn : n < c.chans.length) : i4 (aA c s w) n = cB c s w n := by
 show (ap _ _).getD n [] = _
 rw [bj hn]
theorem o0 (c : Ci) (s : Ns) (w : Nat → Bool) {p : Nat} (hp : p < c.procs.length) : vp (aA c s w) p = bB c s w p := by
 show (ap _ _).getD p bg = _
 rw [bj hp]
theorem w3 {α : Type} {a b : List α} {i : Nat} {d : α} : (a ++ b).getD i d = if i < a.length then a.getD i d else b.getD (i - a.length) d := by
 simp only [List.getD, List.getElem?_append]
 split <;> rfl
theorem Bj {α : Type} {a : List α} {k i : Nat} {d : α} : (a.drop k).getD i d = a.getD (k + i) d := by
 simp only [List.getD, List.getElem?_drop]
theorem t4 {α : Type} {l : List α} {i : Nat} {d : α} (h : i < l.length) : l.getD i d ∈ l := by
 simp [List.getD, List.getElem?_eq_getElem h]
theorem gh (hc : bM c) (hs : cr c s) (w : Nat → Bool) : cr c (aA c s w) where
 pl := by rw [aA]; exact aR _ _
 cl := by rw [aA]; exact aR _ _
 pv := fun p hp => by
  rw [o0 c s w hp]
  unfold bB
  split
  ·exact ta (hc.pr p hp) (hs.pv p hp) (oT hc hs hp)
  ·exact hs.pv p hp
 cv := fun n hn i hi => by
  rw [hY c s w hn] at hi ⊢
  unfold cB at hi ⊢
  rw [w3]
  split
  ·rename_i h
   rw [Bj]
   rw [List.length_drop] at h
   exact hs.cv n hn _ (by omega)
  ·rename_i h
   rw [List.length_append] at hi
   have hm := t4 (d := (0 : Int)) (show i - ((i4 s n).drop (df c s w n)).length < (cI c s w n).length by omega)
   generalize (cI c s w n).getD _ 0 = v at hm
   unfold cI at hm
   split at hm
   ·have hlt := Ab hm
    obtain ⟨j, h1, h2, h3, h4⟩ := wZ hm
    have := vj (rs := c4 c s (ff c n)) (hc.pr _ hlt) (hs.pv _ hlt) (oT hc hs hlt) h1 h2
    rw [← (hc.pt _ hlt j h1).2.2.1, h3] at this
    rw [← h4]; exact this
   ·cases hm
 cc := fun n hn hf hd => by
  rw [hY c s w hn]
  unfold cB
  rw [List.length_append, List.length_drop]
  have h0 := hs.cc n hn hf hd
  unfold cI
  split
  ·rename_i hfi
   have h1 := su (s := s) hc (p := ff c n) n
   by_cases h2 : qQ c s (ff c n) n = []
   ·rw [h2]; simp only [List.length_nil]; omega
   ·obtain ⟨v, hv⟩ := List.exists_mem_of_ne_nil _ h2
    have hlt := Ab hv
    obtain ⟨j, h1', h2', h3, h4⟩ := wZ hv
    have hcan := (lS hfi).2
    rw [vq] at hcan
    have hr := Dt hcan h1' h2'
    rw [c4, bj h1'] at hr
    unfold b3 at hr
    rw [h3] at hr
    simp only [Bool.or_eq_true, decide_eq_true_eq] at hr
    omega
  ·simp only [List.length_nil]; omega
theorem Gq (hc : bM c) {p j : Nat} (hp : p < c.procs.length) (hj : j < (bC c p).puts.length) : ff c (sZ (bC c p) j) = p := by
 rw [ff, (hc.pt p hp j hj).2.2.2]; rfl
theorem Gr (hc : bM c) {p j : Nat} (hp : p < c.procs.length) (hj : j < (bC c p).takes.length) : iA c (tb (bC c p) j) = p := by
 rw [iA, (hc.tk p hp j hj).2.2.2]; rfl
theorem HH (hc : bM c) {p j : Nat} (hp : p < c.procs.length) (hj : j < (bC c p).takes.length) : tb (bC c p) j < c.chans.length := by
 have := hc.tk p hp j hj
 show (kt (bC c p) j).chan.toNat < _
 omega
theorem HI (hc : bM c) {p j : Nat} (hp : p < c.procs.length) (hj : j < (bC c p).puts.length) : sZ (bC c p) j < c.chans.length := by
 have := hc.pt p hp j hj
 show (qE (bC c p) j).chan.toNat < _
 omega
theorem Ac {n : Nat} (h : w (iA c n) = false) : df c s w n = 0 := by
 rw [df, if_neg]
 rintro ⟨h1, _⟩
 rw [(lS h1).1] at h; cases h
theorem Ad {n : Nat} (h : w (ff c n) = false) : cI c s w n = [] := by
 rw [cI, if_neg]
 intro h1
 rw [(lS h1).1] at h; cases h
theorem w4 (hc : bM c) {p : Nat} (hp : p < c.procs.length) (hcan : dG c s p = true) (hw : w p = false) : aa c (aA c s w) p = aa c s p ∧ vp (aA c s w) p = vp s p := by
 have hps : vp (aA c s w) p = vp s p := by
  rw [o0 c s w hp, bB, if_neg (by unfold aq; rw [hw]; simp)]
 refine ⟨?_, hps⟩
 unfold aa
 rw [hps]
 rw [vq] at hcan
 refine Bi (hc.pr p hp) hcan (fun j hj hh => ?_) (fun j hj hh => ?_)
 ·rw [cx, bj hj] at hh ⊢
  rw [cx, bj hj]
  unfold bZ at hh ⊢
  rw [hY c s w (HH hc hp hj), cB, Ac (by rw [Gr hc hp hj]; exact hw), List.drop_zero]
  split at hh
  ·rename_i h0
   rw [if_pos h0, if_pos (by rw [List.length_append]; omega), w3, if_pos h0]
  ·cases hh
 ·rw [c4, bj hj] at hh ⊢
  unfold b3 at hh ⊢
  rw [hY c s w (HI hc hp hj), cB, Ad (by rw [Gq hc hp hj]; exact hw), List.append_nil, List.length_drop]
  simp only [Bool.or_eq_true, decide_eq_true_eq] at hh ⊢
  omega
theorem t5 (h : ∀ p, aq c s w p = aq c s w' p) : aA c s w = aA c s w' := by
 have h1 : bB c s w = bB c s w' := by funext p; unfold bB; rw [h p]
 have h2 : cB c s w = cB c s w' := by funext n; unfold cB df cI; rw [h, h]
 unfold aA; rw [h1, h2]
theorem Du {p : Nat} (h : aq c s w p = false) : bB c s w p = vp s p := by
 unfold bB; rw [if_neg (by rw [h]; simp)]
theorem w5 {p : Nat} (hs : c.procs.length ≤ p) : eJ c s p = fun _ => false := by
 funext n
 cases h : eJ c s p n
 ·rfl
 ·exfalso
  obtain ⟨j, h1, _⟩ := t1 h
  have e : bC c p = ao := by rw [bC, List.getD, List.getElem?_eq_none (by omega)]; rfl
  rw [e] at h1
  exact Nat.not_lt_zero _ h1
theorem w7 (hs : cr c s) (h : ∀ p, p < c.procs.length → aq c s w p = false) : aA c s w = s := by
 have e1 : (aA c s w).procs = s.procs := by
  refine jf (d := bg) (by rw [aA, aR, hs.pl]) (fun p hp => ?_)
  rw [aA, aR] at hp
  show vp (aA c s w) p = vp s p
  rw [o0 c s w hp, Du (h p hp)]
 have e2 : (aA c s w).chans = s.chans := by
  refine jf (d := []) (by rw [aA, aR, hs.cl]) (fun n hn => ?_)
  rw [aA, aR] at hn
  show i4 (aA c s w) n = i4 s n
  rw [hY c s w hn, cB]
  have h1 : df c s w n = 0 := by
   rw [df]
   by_cases hd : iA c n < c.procs.length
   ·rw [h _ hd]; simp
   ·rw [if_neg]
    rintro ⟨_, h2⟩
    rw [w5 (by omega)] at h2; cases h2
  have h2 : cI c s w n = [] := by
   rw [cI]
   by_cases hd : ff c n < c.procs.length
   ·rw [h _ hd]; simp
   ·split
    ·exact lh hd
    ·rfl
  rw [h1, h2]; simp
 cases s; cases hq : aA c _ w
 rw [hq] at e1 e2
 simp only at e1 e2
 rw [e1, e2]
def cP (p : Nat) : Nat → Bool := fun q => decide (q = p)
theorem qc (p : Nat) : cP p p = true := by simp [cP]
theorem vx {p q : Nat} (h : q ≠ p) : cP p q = false := by simp [cP, h]
theorem E3 (hc : bM c) {p : Nat} (hp : p < c.procs.length) (hcan : dG c s p = true) (hw : w p = false) : aA c (aA c s w) (cP p) = aA c s (fun q => w q || cP p q) := by
 obtain ⟨hst, hps⟩ := w4 (w := w) hc hp hcan hw
 have hcan2 : dG c (aA c s w) p = true := by unfold dG; rw [hst]; exact hcan
 have hfp : aq c (aA c s w) (cP p) p = true := by unfold aq; rw [qc, hcan2]; rfl
 have hfq : ∀ q, q ≠ p → aq c (aA c s w) (cP p) q = false := fun q hq => by unfold aq; rw [vx hq]; rfl
 have gp : aq c s (fun q => w q || cP p q) p = true := by unfold aq; simp [qc, hcan]
 have gq : ∀ q, q ≠ p → aq c s (fun q => w q || cP p q) q = aq c s w q := fun q hq => by unfold aq; simp [vx hq]
 have e1 : ∀ q, q < c.procs.length → bB c (aA c s w) (cP p) q = bB c s (fun q => w q || cP p q) q := by
  intro q hq
  unfold bB
  by_cases e : q = p
  ·subst e; rw [if_pos hfp, if_pos gp, hst]
  ·rw [hfq q e, gq q e, if_neg (by simp), o0 c s w hq]; rfl
 have hfw : aq c s w p = false := by unfold aq; rw [hw]; rfl
 have e2 : ∀ n, n < c.chans.length → cB c (aA c s w) (cP p) n = cB c s (fun q => w q || cP p q) n := by
  intro n hn
  unfold cB
  rw [hY c s w hn, cB]
  have hcome : cI c (aA c s w) (cP p) n = if ff c n = p then qQ c s p n else [] := by
   unfold cI
   by_cases e : ff c n = p
   ·rw [if_pos e, e, if_pos hfp]; unfold qQ; rw [hst]
   ·rw [if_neg e, hfq _ e]; simp
  have hcome2 : cI c s (fun q => w q || cP p q) n = if ff c n = p then qQ c s p n else cI c s w n := by
   unfold cI
   by_cases e : ff c n = p
   ·rw [if_pos e, e, if_pos gp]
   ·rw [if_neg e, gq _ e]
  have hcome3 : ff c n = p → cI c s w n = [] := fun e => Ad (by rw [e]; exact hw)
  have hgone : df c (aA c s w) (cP p) n = if iA c n = p ∧ eJ c s p n = true then 1 else 0 := by
   unfold df
   by_cases e : iA c n = p
   ·rw [e]
    have : eJ c (aA c s w) p n = eJ c s p n := by unfold eJ; rw [hst]
    rw [this, hfp]; simp
   ·rw [hfq _ e, if_neg (by simp), if_neg (by simp [e])]
  have hgone2 : df c s (fun q => w q || cP p q) n = if iA c n = p ∧ eJ c s p n = true then 1 else df c s w n := by
   unfold df
   by_cases e : iA c n = p
   ·rw [e, gp, hfw]; simp
   ·rw [gq _ e]; simp [e]
  have hgone3 : iA c n = p → df c s w n = 0 := fun e => Ac (by rw [e]; exact hw)
  rw [hcome, hcome2, hgone, hgone2]
  have key : ∀ (z : List Int), (if ff c n = p then cI c s w n ++ z else cI c s w n) = (if ff c n = p then z else cI c s w n) := by
   intro z; split
   ·rename_i e; rw [hcome3 e]; rfl
   ·rfl
  by_cases ht : iA c n = p ∧ eJ c s p n = true
  ·rw [if_pos ht, if_pos ht, hgone3 ht.1, List.drop_zero]
   have h0 := t2 hcan ht.2
   rw [List.drop_append_of_le_length (by omega)]
   by_cases e : ff c n = p
   ·rw [if_pos e, if_pos e, hcome3 e, List.append_nil]
   ·rw [if_neg e, if_neg e, List.append_nil]
  ·rw [if_neg ht, if_neg ht, List.drop_zero]
   by_cases e : ff c n = p
   ·rw [if_pos e, if_pos e, hcome3 e, List.append_nil]
   ·rw [if_neg e, if_neg e, List.append_nil]
 unfold aA
 rw [show ap (bB c ⟨ap (bB c s w) c.procs.length, ap (cB c s w) c.chans.length⟩ (cP p)) c.procs.length = ap (bB c s (fun q => w q || cP p q)) c.procs.length from gL e1,
  show ap (cB c ⟨ap (bB c s w) c.procs.length, ap (cB c s w) c.chans.length⟩ (cP p)) c.chans.length = ap (cB c s (fun q => w q || cP p q)) c.chans.length from gL e2]
end
end Go.Proofs.YtifoecfajmnjjaaGreat
