/-
  Edited circuits are well made, and their names differ.
-/
import Derived.Test.YtnlmlkbaflmgcaaQMjG
namespace Go.Proofs.Ytnlmlkbaflmgcaa
open Go.RowKit
set_option linter.unusedVariables false
set_option linter.unusedSimpArgs false
def kX (t : Nat) : List ByteArray := [Fc 0, Fc 1, Fc 2, Fc 3, Fc 4] ++ (List.range t).map (fun u => Hm ++ ck (4 * u))
def kY (t : Nat) : List ByteArray := [Hi 0, Hi 1, Hi 2, Hi 3] ++ (List.range t).map (fun u => Hn ++ ck (4 * u))
def pQ (i : Nat) : List ByteArray := KZ i :: (List.range 6).map (fun u => (K2 ++ bR (u : Nat)) ++ ck i)
theorem K4 {t : Nat} (h : t < 6) : ∀ x ∈ kX t, x ≠ Hm ++ ck (4 * t) := by
 have : t = 0 ∨ t = 1 ∨ t = 2 ∨ t = 3 ∨ t = 4 ∨ t = 5 := by omega
 rcases this with h | h | h | h | h | h <;> subst h <;> decide +kernel
theorem K5 {t : Nat} (h : t < 6) : ∀ x ∈ kY t, x ≠ Hn ++ ck (4 * t) := by
 have : t = 0 ∨ t = 1 ∨ t = 2 ∨ t = 3 ∨ t = 4 ∨ t = 5 := by omega
 rcases this with h | h | h | h | h | h <;> subst h <;> decide +kernel
theorem Iw : ∀ x ∈ pQ 0, ∀ y ∈ pQ 1, x ≠ y := by decide +kernel
theorem J0 {t : Nat} {k : ByteArray} (h : k ∈ kX t) : k ∈ kX (t + 1) := by
 unfold kX at *; rw [List.range_succ, List.map_append, ← List.append_assoc]; exact List.mem_append_left _ h
theorem J1 (t : Nat) : Hm ++ ck (4 * t) ∈ kX (t + 1) := by
 unfold kX; rw [List.range_succ, List.map_append]; simp
theorem J2 {t : Nat} {k : ByteArray} (h : k ∈ kY t) : k ∈ kY (t + 1) := by
 unfold kY at *; rw [List.range_succ, List.map_append, ← List.append_assoc]; exact List.mem_append_left _ h
theorem J3 (t : Nat) : Hn ++ ck (4 * t) ∈ kY (t + 1) := by
 unfold kY; rw [List.range_succ, List.map_append]; simp
theorem B8 (k : Int) : bR k = bR ((k % 6).toNat : Nat) := by
 unfold bR
 have : (((k % 6).toNat : Nat) : Int) % 6 = k % 6 := by omega
 rw [this]
theorem K6 (k2 : Int) {i : Nat} {old : ByteArray} (h : old ∈ pQ i) : oH K2 k2 i old ∈ pQ i := by
 unfold oH
 split
 ·unfold pQ
  refine List.mem_cons_of_mem _ (List.mem_map.2 ⟨(k2 / 8 % 6).toNat, List.mem_range.2 (by omega), ?_⟩)
  rw [← B8]
 ·exact h
structure Ix (p : Pr) : Prop where
 rl : p.regs.length ≤ 2
 ml : p.mems.length ≤ 1
 rn : ∀ i, i < p.regs.length → dc p i ∈ pQ i
 rk : y8 p
structure mt (c : Ci) (t : Nat) : Prop where
 cl : c.chans.length ≤ 5
 pl : c.procs.length ≤ 4
 cn : ∀ j, j < c.chans.length → be c j ∈ kX t
 cd : eW (be c) c.chans.length
 pn : ∀ j, j < c.procs.length → fu c j ∈ kY t
 pd : eW (fu c) c.procs.length
 pr : ∀ j, j < c.procs.length → Ix (c.procs.getD j ac)
theorem b6 {α : Type} {l : List α} {i j : Nat} {x d : α} (hi : i < l.length) : (l.set i x).getD j d = if j = i then x else l.getD j d := by
 by_cases e : j = i
 ·subst e; rw [if_pos rfl]; exact v5 hi
 ·rw [if_neg e, List.getD_eq_getElem?_getD, List.getElem?_set_ne (fun h => e h.symm), ← List.getD_eq_getElem?_getD]
theorem xG {f g : Nat → ByteArray} {n i : Nat} {x : ByteArray} (h : eW f n) (hx : ∀ j, j < n → f j ≠ x) (hg : ∀ j, g j = if j = i then x else f j) : eW g n := by
 intro a ha b hb
 rw [hg, hg]
 by_cases h1 : b = i
 ·rw [if_pos h1]
  by_cases h2 : a = i
  ·omega
  ·rw [if_neg h2]; exact fun e => hx a ha e.symm
 ·rw [if_neg h1]
  by_cases h2 : a = i
  ·rw [if_pos h2]; exact hx b (by omega)
  ·rw [if_neg h2]; exact h a ha b hb
theorem sE {f g : Nat → ByteArray} {n : Nat} (h : eW f n) (hg : ∀ j, g j = f j) : eW g n := by
 intro a ha b hb; rw [hg, hg]; exact h a ha b hb
theorem xH (k1 k2 : Int) : 0 ≤ (f9 k1 k2).kind ∧ (f9 k1 k2).kind ≤ 3 := by
 show 0 ≤ k1 % 4 ∧ k1 % 4 ≤ 3; omega
theorem Iy {p : Pr} (h : Ix p) (k0 k1 k2 : Int) : Ix (cB p k0 k1 k2) := by
 have hl := v6 p k0 k1 k2
 refine ⟨by rw [hl.1]; exact h.rl, by rw [hl.2]; exact h.ml, ?_, ?_⟩
 ·intro i hi
  rw [hl.1] at hi
  have h0 := h.rn i hi
  unfold cB dc
  split
  ·exact h0
  ·split
   ·rename_i hat
    show ((p.regs.set _ _).getD i aK).name ∈ _
    rw [b6 hat]
    split
    ·rename_i e; subst e; exact K6 k2 h0
    ·exact h0
   ·exact h0
 ·refine ⟨fun j hj => ?_, fun j hj => ?_⟩
  ·rw [hl.1] at hj
   have h0 := h.rk.1 j hj
   unfold cB
   split
   ·exact h0
   ·split
    ·rename_i hat
     show 0 ≤ ((p.regs.set _ _).getD j aK).rule.kind ∧ ((p.regs.set _ _).getD j aK).rule.kind ≤ 3
     rw [b6 hat]
     split
     ·exact xH k1 k2
     ·exact h0
    ·exact h0
  ·rw [hl.2] at hj
   have h0 := h.rk.2 j hj
   unfold cB
   split
   ·exact h0
   ·rename_i hne
    split
    ·exact h0
    ·rename_i hat
     have hlt := v4 (p := p) k0 hne
     show 0 ≤ ((p.mems.set _ _).getD j ax).rule.kind ∧ ((p.mems.set _ _).getD j ax).rule.kind ≤ 3
     rw [b6 (by omega)]
     split
     ·exact xH k1 k2
     ·exact h0
theorem EC (p : Pr) (k0 k1 k2 : Int) : (cB p k0 k1 k2).name = p.name := by
 unfold cB; repeat' split
 all_goals rfl
theorem Gu {c : Ci} {t : Nat} (h : mt c t) : mt c (t + 1) := ⟨h.cl, h.pl, fun j hj => J0 (h.cn j hj), h.cd, fun j hj => J2 (h.pn j hj), h.pd, h.pr⟩
theorem Iz {c : Ci} {t : Nat} (b : List Int) (ht : t < 6) (h : mt c t) : mt (qi c b (4 * t)) (t + 1) := by
 have hm := Gu h
 have hnc : ∀ j, j < c.chans.length → be c j ≠ Hm ++ ck (4 * t) := fun j hj => K4 ht _ (h.cn j hj)
 have hnp : ∀ j, j < c.procs.length → fu c j ≠ Hn ++ ck (4 * t) := fun j hj => K5 ht _ (h.pn j hj)
 unfold qi
 split
 ·split
  ·rename_i hl
   have hi := eF (b.getD (4 * t + 1) 0) hl
   generalize bv c.chans (b.getD (4 * t + 1) 0) = i at hi ⊢
   have hg : ∀ j, be (⟨c.procs, c.chans.set i { c.chans.getD i aB with name := Hm ++ ck (4 * t) }⟩ : Ci) j = if j = i then Hm ++ ck (4 * t) else be c j := by
    intro j
    show ((c.chans.set i _).getD j aB).name = _
    rw [b6 hi]
    split <;> rfl
   refine ⟨by rw [List.length_set]; exact h.cl, h.pl, fun j hj => ?_, ?_, hm.pn, h.pd, h.pr⟩
   ·rw [List.length_set] at hj
    rw [hg]
    split
    ·exact J1 t
    ·exact hm.cn j hj
   ·rw [List.length_set]; exact xG h.cd hnc hg
  ·exact hm
 ·split
  ·split
   ·rename_i hl
    have hi := eF (b.getD (4 * t + 1) 0) hl.1
    generalize bv c.chans (b.getD (4 * t + 1) 0) = i at hi ⊢
    have hg : ∀ j, be (⟨c.procs, c.chans.set i { c.chans.getD i aB with cap := 1 + b.getD (4 * t + 2) 0 % 8 }⟩ : Ci) j = be c j := by
     intro j
     show ((c.chans.set i _).getD j aB).name = (c.chans.getD j aB).name
     rw [b6 hi]
     split
     ·rename_i e; rw [e]
     ·rfl
    refine ⟨by rw [List.length_set]; exact h.cl, h.pl, fun j hj => ?_, ?_, hm.pn, h.pd, h.pr⟩
    ·rw [List.length_set] at hj
     rw [hg]; exact hm.cn j hj
    ·rw [List.length_set]; exact sE h.cd hg
   ·exact hm
  ·split
   ·split
    ·rename_i hl
     have hi := eF (b.getD (4 * t + 1) 0) hl
     generalize bv c.procs (b.getD (4 * t + 1) 0) = i at hi ⊢
     have hg : ∀ j, fu (⟨c.procs.set i { c.procs.getD i ac with name := Hn ++ ck (4 * t) }, c.chans⟩ : Ci) j = if j = i then Hn ++ ck (4 * t) else fu c j := by
      intro j
      show ((c.procs.set i _).getD j ac).name = _
      rw [b6 hi]
      split <;> rfl
     refine ⟨h.cl, by rw [List.length_set]; exact h.pl, hm.cn, h.cd, fun j hj => ?_, ?_, fun j hj => ?_⟩
     ·rw [List.length_set] at hj
      rw [hg]
      split
      ·exact J3 t
      ·exact hm.pn j hj
     ·rw [List.length_set]; exact xG h.pd hnp hg
     ·rw [List.length_set] at hj
      rw [b6 hi]
      split
      ·have q := h.pr i hi; exact ⟨q.rl, q.ml, q.rn, q.rk⟩
      ·exact h.pr j hj
    ·exact hm
   ·split
    ·rename_i hl
     have hi := eF (b.getD (4 * t + 1) 0) hl
     generalize bv c.procs (b.getD (4 * t + 1) 0) = i at hi ⊢
     generalize hk0 : b.getD (4 * t + 2) 0 = k0
     generalize hk1 : b.getD (4 * t + 3) 0 = k1
     generalize hk2 : b.getD (4 * t) 0 + k0 = k2
     have hg : ∀ j, fu (⟨c.procs.set i (cB (c.procs.getD i ac) k0 k1 k2), c.chans⟩ : Ci) j = fu c j := by
      intro j
      show ((c.procs.set i _).getD j ac).name = (c.procs.getD j ac).name
      rw [b6 hi]
      split
      ·rename_i e; rw [e, EC]
      ·rfl
     refine ⟨h.cl, by rw [List.length_set]; exact h.pl, hm.cn, h.cd, fun j hj => ?_, ?_, fun j hj => ?_⟩
     ·rw [List.length_set] at hj
      rw [hg]; exact hm.pn j hj
     ·rw [List.length_set]; exact sE h.pd hg
     ·rw [List.length_set] at hj
      rw [b6 hi]
      split
      ·exact Iy (h.pr i hi) _ _ _
      ·exact h.pr j hj
    ·exact hm
theorem ED {c : Ci} (b : List Int) (h : mt c 0) : ∀ t, t ≤ 6 → mt (s4 c b t) t
 | 0, _ => h
 | t + 1, ht => Iz b (by omega) (ED b h t (by omega))
theorem Ho {c : Ci} {t : Nat} (h : mt c t) : d7 c := by
 refine ⟨h.cd, h.pd, fun i hi => ?_, fun i hi => ?_⟩
 ·have q := h.pr i hi
  intro a ha b hb
  have := q.rl
  have e1 : a = 1 := by omega
  have e0 : b = 0 := by omega
  subst e1; subst e0
  have h0 := q.rn 0 (by omega)
  have h1 := q.rn 1 ha
  exact Iw _ h0 _ h1
 ·intro a ha b hb
  have := (h.pr i hi).ml
  omega
theorem Gv : eW Fc 5 := by unfold eW; decide +kernel
theorem Gw : eW Hi 4 := by unfold eW; decide +kernel
theorem gQ (sh : Int) (b : List Int) : (ay sh b).procs.length = (ai sh).length ∧ (ay sh b).chans.length = jr sh := ⟨aJ _ _, aJ _ _⟩
theorem Gx {sh : Int} {b : List Int} (hb : fQ b) : mt (ay sh b) 0 := by
 obtain ⟨l1, l2⟩ := gQ sh b
 have hp := kV sh
 have hn := (za sh).2
 have ec : ∀ j, j < jr sh → be (ay sh b) j = Fc j := fun j hj => by unfold be ay; rw [aL hj]; rfl
 have ep : ∀ j, j < (ai sh).length → (ay sh b).procs.getD j ac = mK b (ai sh) j := fun j hj => aL hj
 have en : ∀ j, j < (ai sh).length → fu (ay sh b) j = Hi j := fun j hj => by unfold fu; rw [ep j hj]; rfl
 refine ⟨by omega, by omega, fun j hj => ?_, fun i hi j hj => ?_, fun j hj => ?_, fun i hi j hj => ?_, fun j hj => ?_⟩
 ·rw [l2] at hj
  rw [ec j hj]
  have : j = 0 ∨ j = 1 ∨ j = 2 ∨ j = 3 ∨ j = 4 := by omega
  unfold kX
  rcases this with h | h | h | h | h <;> subst h <;> simp
 ·rw [l2] at hi
  rw [ec i hi, ec j (by omega)]
  exact Gv i (by omega) j hj
 ·rw [l1] at hj
  rw [en j hj]
  have : j = 0 ∨ j = 1 ∨ j = 2 ∨ j = 3 := by omega
  unfold kY
  rcases this with h | h | h | h <;> subst h <;> simp
 ·rw [l1] at hi
  rw [en i hi, en j (by omega)]
  exact Gw i (by omega) j hj
 ·rw [l1] at hj
  rw [ep j hj]
  generalize tn b (ai sh) j = q0 at *
  have hy := bW hb (tn b (ai sh) j)
  have hr := v2 hy.1
  have hl : (mK b (ai sh) j).regs.length = oU (b.getD (tn b (ai sh) j) 0) := aJ _ _
  refine ⟨by rw [hl]; exact hr.2, Nat.zero_le _, fun i hi => ?_, fun i hi => ?_, fun i hi => ?_⟩
  ·rw [hl] at hi
   have : dc (mK b (ai sh) j) i = KZ i := by unfold dc; rw [show (mK b (ai sh) j).regs.getD i aK = JL b _ _ _ i from aL hi]; rfl
   rw [this]
   exact List.mem_cons_self
  ·rw [hl] at hi
   rw [show (mK b (ai sh) j).regs.getD i aK = JL b _ _ _ i from aL hi]
   show 0 ≤ [1, 1, 0].getD _ (0 : Int) ∧ [1, 1, 0].getD _ (0 : Int) ≤ 3
   generalize hz : (b.getD (tn b (ai sh) j) 0 / 16 % 3).toNat = z
   have : z = 0 ∨ z = 1 ∨ z = 2 := by omega
   rcases this with h | h | h <;> subst h <;> decide
  ·exact absurd hi (Nat.not_lt_zero _)
theorem uH {sh : Int} {b : List Int} : ∀ i, i < (ay sh b).procs.length → (aZ (ay sh b) i).mems = [] := fun i hi => by
 rw [(gQ sh b).1] at hi
 rw [show aZ (ay sh b) i = mK b (ai sh) i from aL hi]; rfl
theorem Gy {c : Ci} {t : Nat} (h : mt c t) (hm : ∀ i, i < c.procs.length → (aZ c i).mems = []) (b : List Int) : mt (aG c b) t := by
 have hl := xx c b
 have hat : ∀ i, i < c.procs.length → (aG c b).procs.getD i ac = jy (c.procs.getD i ac) b i := fun i hi => AW hi
 have hn : ∀ i, i < c.procs.length → fu (aG c b) i = fu c i := fun i hi => by unfold fu; rw [hat i hi, Ew]
 refine ⟨h.cl, by rw [hl]; exact h.pl, h.cn, h.cd, fun j hj => ?_, fun i hi j hj => ?_, fun j hj => ?_⟩
 ·rw [hl] at hj; rw [hn j hj]; exact h.pn j hj
 ·rw [hl] at hi; rw [hn i hi, hn j (by omega)]; exact h.pd i hi j hj
 ·rw [hl] at hj
  rw [hat j hj]
  have q := h.pr j hj
  have hr := Eu (c.procs.getD j ac) b j
  refine ⟨by rw [hr]; exact q.rl, ?_, fun i hi => ?_, fun i hi => ?_, fun i hi => ?_⟩
  ·unfold jy; split
   ·exact Nat.le_refl 1
   ·exact q.ml
  ·unfold dc; rw [hr] at hi ⊢; exact q.rn i hi
  ·rw [hr] at hi ⊢; exact q.rk.1 i hi
  ·unfold jy at hi ⊢
   split at hi
   ·rename_i hs
    rw [if_pos hs]
    have : i = 0 := by have : i < 1 := hi; omega
    subst this
    exact ⟨(by decide : (0 : Int) ≤ 1), (by decide : (1 : Int) ≤ 3)⟩
   ·rename_i hs
    rw [if_neg hs]
    exact q.rk.2 i hi
structure iu (p q : Pr) : Prop where
 rl : q.regs.length = p.regs.length
 ml : q.mems.length = p.mems.length
 rg : ∀ i, (q.regs.getD i aK).w = (p.regs.getD i aK).w ∧ (q.regs.getD i aK).init = (p.regs.getD i aK).init ∧ (q.regs.getD i aK).next = (p.regs.getD i aK).next
 mm : ∀ i, (q.mems.getD i ax).w = (p.mems.getD i ax).w ∧ (q.mems.getD i ax).words = (p.mems.getD i ax).words ∧ (q.mems.getD i ax).enable = (p.mems.getD i ax).enable ∧ (q.mems.getD i ax).addr = (p.mems.getD i ax).addr ∧ (q.mems.getD i ax).data = (p.mems.getD i ax).data
 tk : q.takes = p.takes
 pt : q.puts = p.puts
theorem js (p : Pr) : iu p p := ⟨rfl, rfl, fun _ => ⟨rfl, rfl, rfl⟩, fun _ => ⟨rfl, rfl, rfl, rfl, rfl⟩, rfl, rfl⟩
theorem Gz {p q : Pr} (h : iu p q) : lC q = lC p ∧ HO q = HO p := by
 have e1 : q.regs.map (·.w) = p.regs.map (·.w) := by
  apply List.ext_getElem
  ·simp [h.rl]
  ·intro i h1 h2
   have := (h.rg i).1
   simp only [List.length_map] at h1 h2
   rw [bC _ _ h1, bC _ _ h2] at this
   simpa using this
 have e2 : q.mems.map (·.w) = p.mems.map (·.w) := by
  apply List.ext_getElem
  ·simp [h.ml]
  ·intro i h1 h2
   have := (h.mm i).1
   simp only [List.length_map] at h1 h2
   rw [bC _ _ h1, bC _ _ h2] at this
   simpa using this
 unfold lC HO
 rw [e1, e2, h.tk]
 exact ⟨rfl, rfl⟩
theorem GA {p q : Pr} (h : iu p q) (hp : gi p) : gi q := by
 obtain ⟨e1, e2⟩ := Gz h
 refine ⟨by rw [h.rl]; exact hp.rl, by rw [h.ml]; exact hp.ml, by rw [h.tk]; exact hp.tl, by rw [h.pt]; exact hp.pl, fun i hi => ?_, fun i hi => ?_, fun i hi => ?_, fun i hi => ?_⟩
 ·rw [h.rl] at hi
  have := hp.rw i hi
  obtain ⟨a, b, c⟩ := h.rg i
  unfold oT at this ⊢
  rw [e1, a, b, c]; exact this
 ·rw [h.ml] at hi
  have := hp.mw i hi
  obtain ⟨a, b, c, d, e⟩ := h.mm i
  unfold dK at this ⊢
  rw [e1, a, b, c, d, e]; exact this
 ·rw [h.tk] at hi
  have := hp.tw i hi
  unfold mi at this ⊢
  rw [e2, h.tk]; exact this
 ·rw [h.pt] at hi
  have := hp.pw i hi
  unfold pC at this ⊢
  rw [e1, h.pt]; exact this
theorem EE (p : Pr) (k0 k1 k2 : Int) : iu p (cB p k0 k1 k2) := by
 obtain ⟨l1, l2⟩ := v6 p k0 k1 k2
 refine ⟨l1, l2, fun i => ?_, fun i => ?_, ?_, ?_⟩
 ·unfold cB
  split
  ·exact ⟨rfl, rfl, rfl⟩
  ·split
   ·rename_i hat
    show ((p.regs.set _ _).getD i aK).w = _ ∧ ((p.regs.set _ _).getD i aK).init = _ ∧ ((p.regs.set _ _).getD i aK).next = _
    rw [b6 hat]
    split
    ·rename_i e; rw [e]; exact ⟨rfl, rfl, rfl⟩
    ·exact ⟨rfl, rfl, rfl⟩
   ·exact ⟨rfl, rfl, rfl⟩
 ·unfold cB
  split
  ·exact ⟨rfl, rfl, rfl, rfl, rfl⟩
  ·rename_i hne
   split
   ·exact ⟨rfl, rfl, rfl, rfl, rfl⟩
   ·rename_i hat
    have hlt := v4 (p := p) k0 hne
    show ((p.mems.set _ _).getD i ax).w = _ ∧ ((p.mems.set _ _).getD i ax).words = _ ∧ ((p.mems.set _ _).getD i ax).enable = _ ∧ ((p.mems.set _ _).getD i ax).addr = _ ∧ ((p.mems.set _ _).getD i ax).data = _
    rw [b6 (by omega)]
    split
    ·rename_i e; rw [e]; exact ⟨rfl, rfl, rfl, rfl, rfl⟩
    ·exact ⟨rfl, rfl, rfl, rfl, rfl⟩
 ·unfold cB; repeat' split
  all_goals rfl
 ·unfold cB; repeat' split
  all_goals rfl
structure j6 (c d : Ci) : Prop where
 pl : d.procs.length = c.procs.length
 cl : d.chans.length = c.chans.length
 pr : ∀ i, i < c.procs.length → iu (aZ c i) (aZ d i)
 cw : ∀ n, (d9 d n).w = (d9 c n).w ∧ (d9 d n).frm = (d9 c n).frm ∧ (d9 d n).dst = (d9 c n).dst
 cp : ∀ n, 0 ≤ (d9 c n).cap → 0 ≤ (d9 d n).cap
 cq : ∀ n, 0 < (d9 c n).cap → 0 < (d9 d n).cap
theorem iv (c : Ci) : j6 c c := ⟨rfl, rfl, fun _ _ => js _, fun _ => ⟨rfl, rfl, rfl⟩, fun _ h => h, fun _ h => h⟩
theorem xI {c d : Ci} (h : j6 c d) (hc : bS c) : bS d := by
 refine ⟨by rw [h.pl]; exact hc.n1, by rw [h.pl]; exact hc.nl, by rw [h.cl]; exact hc.cl, fun i hi => ?_, fun i hi j hj => ?_, fun i hi j hj => ?_, fun i hi => ?_, fun i hi => ?_, fun n hn => ?_, fun n hn => ?_⟩
 ·rw [h.pl] at hi; exact GA (h.pr i hi) (hc.pr i hi)
 ·rw [h.pl] at hi
  have q := h.pr i hi
  rw [q.tk] at hj
  have := hc.tk i hi j hj
  unfold ue mi at this ⊢
  rw [q.tk, h.cl, (h.cw _).1, (h.cw _).2.2]; exact this
 ·rw [h.pl] at hi
  have q := h.pr i hi
  rw [q.pt] at hj
  have := hc.pt i hi j hj
  unfold qI pC at this ⊢
  rw [q.pt, h.cl, (h.cw _).1, (h.cw _).2.1]; exact this
 ·rw [h.pl] at hi
  have q := h.pr i hi
  have := hc.td i hi
  unfold ue mi at this ⊢
  rw [q.tk]; exact this
 ·rw [h.pl] at hi
  have q := h.pr i hi
  have := hc.pd i hi
  unfold qI pC at this ⊢
  rw [q.pt]; exact this
 ·rw [h.cl] at hn; rw [(h.cw n).1]; exact hc.cw n hn
 ·rw [h.cl] at hn; exact h.cp n (hc.cp n hn)
theorem zd {p q r : Pr} (h : iu p q) (h2 : iu q r) : iu p r :=
 ⟨h2.rl.trans h.rl, h2.ml.trans h.ml, fun i => ⟨(h2.rg i).1.trans (h.rg i).1, (h2.rg i).2.1.trans (h.rg i).2.1, (h2.rg i).2.2.trans (h.rg i).2.2⟩,
  fun i => ⟨(h2.mm i).1.trans (h.mm i).1, (h2.mm i).2.1.trans (h.mm i).2.1, (h2.mm i).2.2.1.trans (h.mm i).2.2.1, (h2.mm i).2.2.2.1.trans (h.mm i).2.2.2.1, (h2.mm i).2.2.2.2.trans (h.mm i).2.2.2.2⟩, h2.tk.trans h.tk, h2.pt.trans h.pt⟩
theorem xJ {c d e : Ci} (h : j6 c d) (h2 : j6 d e) : j6 c e :=
 ⟨h2.pl.trans h.pl, h2.cl.trans h.cl, fun i hi => zd (h.pr i hi) (h2.pr i (by rw [h.pl]; exact hi)), fun n => ⟨(h2.cw n).1.trans (h.cw n).1, (h2.cw n).2.1.trans (h.cw n).2.1, (h2.cw n).2.2.trans (h.cw n).2.2⟩, fun n hn => h2.cp n (h.cp n hn), fun n hn => h2.cq n (h.cq n hn)⟩
theorem EF (c : Ci) (b : List Int) (i : Nat) : j6 c (qi c b i) := by
 unfold qi
 split
 ·split
  ·rename_i hl
   have hi := eF (b.getD (i + 1) 0) hl
   refine ⟨rfl, by simp, fun _ _ => js _, fun n => ?_, fun n hn => ?_, fun n hn => ?_⟩
   ·show ((c.chans.set _ _).getD n aB).w = _ ∧ ((c.chans.set _ _).getD n aB).frm = _ ∧ ((c.chans.set _ _).getD n aB).dst = _
    rw [b6 hi]; split
    ·rename_i e; rw [e]; exact ⟨rfl, rfl, rfl⟩
    ·exact ⟨rfl, rfl, rfl⟩
   ·show 0 ≤ ((c.chans.set _ _).getD n aB).cap
    rw [b6 hi]; split
    ·rename_i e; rw [e] at hn; exact hn
    ·exact hn
   ·show 0 < ((c.chans.set _ _).getD n aB).cap
    rw [b6 hi]; split
    ·rename_i e; rw [e] at hn; exact hn
    ·exact hn
  ·exact iv c
 ·split
  ·split
   ·rename_i hl
    have hi := eF (b.getD (i + 1) 0) hl.1
    refine ⟨rfl, by simp, fun _ _ => js _, fun n => ?_, fun n hn => ?_, fun n hn => ?_⟩
    ·show ((c.chans.set _ _).getD n aB).w = _ ∧ ((c.chans.set _ _).getD n aB).frm = _ ∧ ((c.chans.set _ _).getD n aB).dst = _
     rw [b6 hi]; split
     ·rename_i e; rw [e]; exact ⟨rfl, rfl, rfl⟩
     ·exact ⟨rfl, rfl, rfl⟩
    ·show 0 ≤ ((c.chans.set _ _).getD n aB).cap
     rw [b6 hi]; split
     ·show 0 ≤ 1 + b.getD (i + 2) 0 % 8; omega
     ·exact hn
    ·show 0 < ((c.chans.set _ _).getD n aB).cap
     rw [b6 hi]; split
     ·show 0 < 1 + b.getD (i + 2) 0 % 8; omega
     ·exact hn
   ·exact iv c
  ·split
   ·split
    ·rename_i hl
     have hi := eF (b.getD (i + 1) 0) hl
     refine ⟨by simp, rfl, fun j hj => ?_, fun n => ⟨rfl, rfl, rfl⟩, fun n hn => hn, fun n hn => hn⟩
     show iu (c.procs.getD j ac) ((c.procs.set _ _).getD j ac)
     rw [b6 hi]; split
     ·rename_i e; rw [e]; exact ⟨rfl, rfl, fun _ => ⟨rfl, rfl, rfl⟩, fun _ => ⟨rfl, rfl, rfl, rfl, rfl⟩, rfl, rfl⟩
     ·exact js _
    ·exact iv c
   ·split
    ·rename_i hl
     have hi := eF (b.getD (i + 1) 0) hl
     refine ⟨by simp, rfl, fun j hj => ?_, fun n => ⟨rfl, rfl, rfl⟩, fun n hn => hn, fun n hn => hn⟩
     show iu (c.procs.getD j ac) ((c.procs.set _ _).getD j ac)
     rw [b6 hi]; split
     ·rename_i e; rw [e]; exact EE _ _ _ _
     ·exact js _
    ·exact iv c
theorem sF (c : Ci) (b : List Int) : ∀ t, j6 c (s4 c b t)
 | 0 => iv c
 | t + 1 => xJ (sF c b t) (EF _ _ _)
end Go.Proofs.Ytnlmlkbaflmgcaa
