/-
  Edited circuits are well made, and their names differ.
-/
import Derived.Test.YtnlmlkbaflmgcaaQMjG
namespace Go.Proofs.Ytnlmlkbaflmgcaa
open Go.RowKit
set_option linter.unusedVariables false
set_option linter.unusedSimpArgs false
def lf (t : Nat) : List ByteArray := [E6 0, E6 1, E6 2, E6 3, E6 4] ++ (List.range t).map (fun u => Hf ++ ct (4 * u))
def lg (t : Nat) : List ByteArray := [Ha 0, Ha 1, Ha 2, Ha 3] ++ (List.range t).map (fun u => Hg ++ ct (4 * u))
def pK (i : Nat) : List ByteArray := K7 i :: (List.range 6).map (fun u => (La ++ bW (u : Nat)) ++ ct i)
theorem Lc {t : Nat} (h : t < 6) : ∀ x ∈ lf t, x ≠ Hf ++ ct (4 * t) := by
 have : t = 0 ∨ t = 1 ∨ t = 2 ∨ t = 3 ∨ t = 4 ∨ t = 5 := by omega
 rcases this with h | h | h | h | h | h <;> subst h <;> decide +kernel
theorem Ld {t : Nat} (h : t < 6) : ∀ x ∈ lg t, x ≠ Hg ++ ct (4 * t) := by
 have : t = 0 ∨ t = 1 ∨ t = 2 ∨ t = 3 ∨ t = 4 ∨ t = 5 := by omega
 rcases this with h | h | h | h | h | h <;> subst h <;> decide +kernel
theorem IB : ∀ x ∈ pK 0, ∀ y ∈ pK 1, x ≠ y := by decide +kernel
theorem J7 {t : Nat} {k : ByteArray} (h : k ∈ lf t) : k ∈ lf (t + 1) := by
 unfold lf at *; rw [List.range_succ, List.map_append, ← List.append_assoc]; exact List.mem_append_left _ h
theorem J8 (t : Nat) : Hf ++ ct (4 * t) ∈ lf (t + 1) := by
 unfold lf; rw [List.range_succ, List.map_append]; simp
theorem J9 {t : Nat} {k : ByteArray} (h : k ∈ lg t) : k ∈ lg (t + 1) := by
 unfold lg at *; rw [List.range_succ, List.map_append, ← List.append_assoc]; exact List.mem_append_left _ h
theorem Ka (t : Nat) : Hg ++ ct (4 * t) ∈ lg (t + 1) := by
 unfold lg; rw [List.range_succ, List.map_append]; simp
theorem BT (k : Int) : bW k = bW ((k % 6).toNat : Nat) := by
 unfold bW
 have : (((k % 6).toNat : Nat) : Int) % 6 = k % 6 := by omega
 rw [this]
theorem Lf (k2 : Int) {i : Nat} {old : ByteArray} (h : old ∈ pK i) : oJ La k2 i old ∈ pK i := by
 unfold oJ
 split
 ·unfold pK
  refine List.mem_cons_of_mem _ (List.mem_map.2 ⟨(k2 / 8 % 6).toNat, List.mem_range.2 (by omega), ?_⟩)
  rw [← BT]
 ·exact h
structure IC (p : Pr) : Prop where
 rl : p.regs.length ≤ 2
 ml : p.mems.length ≤ 1
 rn : ∀ i, i < p.regs.length → eo p i ∈ pK i
 rk : BM p
structure mA (c : Ci) (t : Nat) : Prop where
 cl : c.chans.length ≤ 5
 pl : c.procs.length ≤ 4
 cn : ∀ j, j < c.chans.length → bk c j ∈ lf t
 cd : fF (bk c) c.chans.length
 pn : ∀ j, j < c.procs.length → eG c j ∈ lg t
 pd : fF (eG c) c.procs.length
 pr : ∀ j, j < c.procs.length → IC (c.procs.getD j ac)
theorem ca {α : Type} {l : List α} {i j : Nat} {x d : α} (hi : i < l.length) : (l.set i x).getD j d = if j = i then x else l.getD j d := by
 by_cases e : j = i
 ·subst e; rw [if_pos rfl]; exact vV hi
 ·rw [if_neg e, List.getD_eq_getElem?_getD, List.getElem?_set_ne (fun h => e h.symm), ← List.getD_eq_getElem?_getD]
theorem xy {f g : Nat → ByteArray} {n i : Nat} {x : ByteArray} (h : fF f n) (hx : ∀ j, j < n → f j ≠ x) (hg : ∀ j, g j = if j = i then x else f j) : fF g n := by
 intro a ha b hb
 rw [hg, hg]
 by_cases h1 : b = i
 ·rw [if_pos h1]
  by_cases h2 : a = i
  ·omega
  ·rw [if_neg h2]; exact fun e => hx a ha e.symm
 ·rw [if_neg h1]
  by_cases h2 : a = i
  ·rw [if_pos h2]; exact hx b (by omega)
  ·rw [if_neg h2]; exact h a ha b hb
theorem sn {f g : Nat → ByteArray} {n : Nat} (h : fF f n) (hg : ∀ j, g j = f j) : fF g n := by
 intro a ha b hb; rw [hg, hg]; exact h a ha b hb
theorem xz (k1 k2 : Int) : 0 ≤ (gx k1 k2).kind ∧ (gx k1 k2).kind ≤ 3 := by
 show 0 ≤ k1 % 4 ∧ k1 % 4 ≤ 3; omega
theorem IE {p : Pr} (h : IC p) (k0 k1 k2 : Int) : IC (cF p k0 k1 k2) := by
 have hl := vW p k0 k1 k2
 refine ⟨by rw [hl.1]; exact h.rl, by rw [hl.2]; exact h.ml, ?_, ?_⟩
 ·intro i hi
  rw [hl.1] at hi
  have h0 := h.rn i hi
  unfold cF eo
  split
  ·exact h0
  ·split
   ·rename_i hat
    show ((p.regs.set _ _).getD i aC).name ∈ _
    rw [ca hat]
    split
    ·rename_i e; subst e; exact Lf k2 h0
    ·exact h0
   ·exact h0
 ·refine ⟨fun j hj => ?_, fun j hj => ?_⟩
  ·rw [hl.1] at hj
   have h0 := h.rk.1 j hj
   unfold cF
   split
   ·exact h0
   ·split
    ·rename_i hat
     show 0 ≤ ((p.regs.set _ _).getD j aC).rule.kind ∧ ((p.regs.set _ _).getD j aC).rule.kind ≤ 3
     rw [ca hat]
     split
     ·exact xz k1 k2
     ·exact h0
    ·exact h0
  ·rw [hl.2] at hj
   have h0 := h.rk.2 j hj
   unfold cF
   split
   ·exact h0
   ·rename_i hne
    split
    ·exact h0
    ·rename_i hat
     have hlt := vU (p := p) k0 hne
     show 0 ≤ ((p.mems.set _ _).getD j au).rule.kind ∧ ((p.mems.set _ _).getD j au).rule.kind ≤ 3
     rw [ca (by omega)]
     split
     ·exact xz k1 k2
     ·exact h0
theorem EB (p : Pr) (k0 k1 k2 : Int) : (cF p k0 k1 k2).name = p.name := by
 unfold cF; repeat' split
 all_goals rfl
theorem Gq {c : Ci} {t : Nat} (h : mA c t) : mA c (t + 1) := ⟨h.cl, h.pl, fun j hj => J7 (h.cn j hj), h.cd, fun j hj => J9 (h.pn j hj), h.pd, h.pr⟩
theorem IG {c : Ci} {t : Nat} (b : List Int) (ht : t < 6) (h : mA c t) : mA (qf c b (4 * t)) (t + 1) := by
 have hm := Gq h
 have hnc : ∀ j, j < c.chans.length → bk c j ≠ Hf ++ ct (4 * t) := fun j hj => Lc ht _ (h.cn j hj)
 have hnp : ∀ j, j < c.procs.length → eG c j ≠ Hg ++ ct (4 * t) := fun j hj => Ld ht _ (h.pn j hj)
 unfold qf
 split
 ·split
  ·rename_i hl
   have hi := eL (b.getD (4 * t + 1) 0) hl
   generalize bv c.chans (b.getD (4 * t + 1) 0) = i at hi ⊢
   have hg : ∀ j, bk (⟨c.procs, c.chans.set i { c.chans.getD i ax with name := Hf ++ ct (4 * t) }⟩ : Ci) j = if j = i then Hf ++ ct (4 * t) else bk c j := by
    intro j
    show ((c.chans.set i _).getD j ax).name = _
    rw [ca hi]
    split <;> rfl
   refine ⟨by rw [List.length_set]; exact h.cl, h.pl, fun j hj => ?_, ?_, hm.pn, h.pd, h.pr⟩
   ·rw [List.length_set] at hj
    rw [hg]
    split
    ·exact J8 t
    ·exact hm.cn j hj
   ·rw [List.length_set]; exact xy h.cd hnc hg
  ·exact hm
 ·split
  ·split
   ·rename_i hl
    have hi := eL (b.getD (4 * t + 1) 0) hl.1
    generalize bv c.chans (b.getD (4 * t + 1) 0) = i at hi ⊢
    have hg : ∀ j, bk (⟨c.procs, c.chans.set i { c.chans.getD i ax with cap := 1 + b.getD (4 * t + 2) 0 % 8 }⟩ : Ci) j = bk c j := by
     intro j
     show ((c.chans.set i _).getD j ax).name = (c.chans.getD j ax).name
     rw [ca hi]
     split
     ·rename_i e; rw [e]
     ·rfl
    refine ⟨by rw [List.length_set]; exact h.cl, h.pl, fun j hj => ?_, ?_, hm.pn, h.pd, h.pr⟩
    ·rw [List.length_set] at hj
     rw [hg]; exact hm.cn j hj
    ·rw [List.length_set]; exact sn h.cd hg
   ·exact hm
  ·split
   ·split
    ·rename_i hl
     have hi := eL (b.getD (4 * t + 1) 0) hl
     generalize bv c.procs (b.getD (4 * t + 1) 0) = i at hi ⊢
     have hg : ∀ j, eG (⟨c.procs.set i { c.procs.getD i ac with name := Hg ++ ct (4 * t) }, c.chans⟩ : Ci) j = if j = i then Hg ++ ct (4 * t) else eG c j := by
      intro j
      show ((c.procs.set i _).getD j ac).name = _
      rw [ca hi]
      split <;> rfl
     refine ⟨h.cl, by rw [List.length_set]; exact h.pl, hm.cn, h.cd, fun j hj => ?_, ?_, fun j hj => ?_⟩
     ·rw [List.length_set] at hj
      rw [hg]
      split
      ·exact Ka t
      ·exact hm.pn j hj
     ·rw [List.length_set]; exact xy h.pd hnp hg
     ·rw [List.length_set] at hj
      rw [ca hi]
      split
      ·have q := h.pr i hi; exact ⟨q.rl, q.ml, q.rn, q.rk⟩
      ·exact h.pr j hj
    ·exact hm
   ·split
    ·rename_i hl
     have hi := eL (b.getD (4 * t + 1) 0) hl
     generalize bv c.procs (b.getD (4 * t + 1) 0) = i at hi ⊢
     generalize hk0 : b.getD (4 * t + 2) 0 = k0
     generalize hk1 : b.getD (4 * t + 3) 0 = k1
     generalize hk2 : b.getD (4 * t) 0 + k0 = k2
     have hg : ∀ j, eG (⟨c.procs.set i (cF (c.procs.getD i ac) k0 k1 k2), c.chans⟩ : Ci) j = eG c j := by
      intro j
      show ((c.procs.set i _).getD j ac).name = (c.procs.getD j ac).name
      rw [ca hi]
      split
      ·rename_i e; rw [e, EB]
      ·rfl
     refine ⟨h.cl, by rw [List.length_set]; exact h.pl, hm.cn, h.cd, fun j hj => ?_, ?_, fun j hj => ?_⟩
     ·rw [List.length_set] at hj
      rw [hg]; exact hm.pn j hj
     ·rw [List.length_set]; exact sn h.pd hg
     ·rw [List.length_set] at hj
      rw [ca hi]
      split
      ·exact IE (h.pr i hi) _ _ _
      ·exact h.pr j hj
    ·exact hm
theorem EC {c : Ci} (b : List Int) (h : mA c 0) : ∀ t, t ≤ 6 → mA (sS c b t) t
 | 0, _ => h
 | t + 1, ht => IG b (by omega) (EC b h t (by omega))
theorem Hh {c : Ci} {t : Nat} (h : mA c t) : pH c := by
 refine ⟨h.cd, h.pd, fun i hi => ?_, fun i hi => ?_⟩
 ·have q := h.pr i hi
  intro a ha b hb
  have := q.rl
  have e1 : a = 1 := by omega
  have e0 : b = 0 := by omega
  subst e1; subst e0
  have h0 := q.rn 0 (by omega)
  have h1 := q.rn 1 ha
  exact IB _ h0 _ h1
 ·intro a ha b hb
  have := (h.pr i hi).ml
  omega
theorem Gr : fF E6 5 := by unfold fF; decide +kernel
theorem Gs : fF Ha 4 := by unfold fF; decide +kernel
theorem jB (sh : Int) (b : List Int) : (aB sh b).procs.length = (aj sh).length ∧ (aB sh b).chans.length = jA sh := ⟨aL _ _, aL _ _⟩
theorem Gt {sh : Int} {b : List Int} (hb : f8 b) : mA (aB sh b) 0 := by
 obtain ⟨l1, l2⟩ := jB sh b
 have hp := k9 sh
 have hn := (yO sh).2
 have ec : ∀ j, j < jA sh → bk (aB sh b) j = E6 j := fun j hj => by unfold bk aB; rw [aY hj]; rfl
 have ep : ∀ j, j < (aj sh).length → (aB sh b).procs.getD j ac = mP b (aj sh) j := fun j hj => aY hj
 have en : ∀ j, j < (aj sh).length → eG (aB sh b) j = Ha j := fun j hj => by unfold eG; rw [ep j hj]; rfl
 refine ⟨by omega, by omega, fun j hj => ?_, fun i hi j hj => ?_, fun j hj => ?_, fun i hi j hj => ?_, fun j hj => ?_⟩
 ·rw [l2] at hj
  rw [ec j hj]
  have : j = 0 ∨ j = 1 ∨ j = 2 ∨ j = 3 ∨ j = 4 := by omega
  unfold lf
  rcases this with h | h | h | h | h <;> subst h <;> simp
 ·rw [l2] at hi
  rw [ec i hi, ec j (by omega)]
  exact Gr i (by omega) j hj
 ·rw [l1] at hj
  rw [en j hj]
  have : j = 0 ∨ j = 1 ∨ j = 2 ∨ j = 3 := by omega
  unfold lg
  rcases this with h | h | h | h <;> subst h <;> simp
 ·rw [l1] at hi
  rw [en i hi, en j (by omega)]
  exact Gs i (by omega) j hj
 ·rw [l1] at hj
  rw [ep j hj]
  generalize ta b (aj sh) j = q0 at *
  have hy := bZ hb (ta b (aj sh) j)
  have hr := vP hy.1
  have hl : (mP b (aj sh) j).regs.length = oS (b.getD (ta b (aj sh) j) 0) := aL _ _
  refine ⟨by rw [hl]; exact hr.2, Nat.zero_le _, fun i hi => ?_, fun i hi => ?_, fun i hi => ?_⟩
  ·rw [hl] at hi
   have : eo (mP b (aj sh) j) i = K7 i := by unfold eo; rw [show (mP b (aj sh) j).regs.getD i aC = JS b _ _ _ i from aY hi]; rfl
   rw [this]
   exact List.mem_cons_self
  ·rw [hl] at hi
   rw [show (mP b (aj sh) j).regs.getD i aC = JS b _ _ _ i from aY hi]
   show 0 ≤ [1, 1, 0].getD _ (0 : Int) ∧ [1, 1, 0].getD _ (0 : Int) ≤ 3
   generalize hz : (b.getD (ta b (aj sh) j) 0 / 16 % 3).toNat = z
   have : z = 0 ∨ z = 1 ∨ z = 2 := by omega
   rcases this with h | h | h <;> subst h <;> decide
  ·exact absurd hi (Nat.not_lt_zero _)
theorem uu {sh : Int} {b : List Int} : ∀ i, i < (aB sh b).procs.length → (bD (aB sh b) i).mems = [] := fun i hi => by
 rw [(jB sh b).1] at hi
 rw [show bD (aB sh b) i = mP b (aj sh) i from aY hi]; rfl
theorem Gu {c : Ci} {t : Nat} (h : mA c t) (hm : ∀ i, i < c.procs.length → (bD c i).mems = []) (b : List Int) : mA (aH c b) t := by
 have hl := xo c b
 have hat : ∀ i, i < c.procs.length → (aH c b).procs.getD i ac = jK (c.procs.getD i ac) b i := fun i hi => AK hi
 have hn : ∀ i, i < c.procs.length → eG (aH c b) i = eG c i := fun i hi => by unfold eG; rw [hat i hi, Eu]
 refine ⟨h.cl, by rw [hl]; exact h.pl, h.cn, h.cd, fun j hj => ?_, fun i hi j hj => ?_, fun j hj => ?_⟩
 ·rw [hl] at hj; rw [hn j hj]; exact h.pn j hj
 ·rw [hl] at hi; rw [hn i hi, hn j (by omega)]; exact h.pd i hi j hj
 ·rw [hl] at hj
  rw [hat j hj]
  have q := h.pr j hj
  have hr := Et (c.procs.getD j ac) b j
  refine ⟨by rw [hr]; exact q.rl, ?_, fun i hi => ?_, fun i hi => ?_, fun i hi => ?_⟩
  ·unfold jK; split
   ·exact Nat.le_refl 1
   ·exact q.ml
  ·unfold eo; rw [hr] at hi ⊢; exact q.rn i hi
  ·rw [hr] at hi ⊢; exact q.rk.1 i hi
  ·unfold jK at hi ⊢
   split at hi
   ·rename_i hs
    rw [if_pos hs]
    have : i = 0 := by have : i < 1 := hi; omega
    subst this
    exact ⟨(by decide : (0 : Int) ≤ 1), (by decide : (1 : Int) ≤ 3)⟩
   ·rename_i hs
    rw [if_neg hs]
    exact q.rk.2 i hi
structure jk (p q : Pr) : Prop where
 rl : q.regs.length = p.regs.length
 ml : q.mems.length = p.mems.length
 rg : ∀ i, (q.regs.getD i aC).w = (p.regs.getD i aC).w ∧ (q.regs.getD i aC).init = (p.regs.getD i aC).init ∧ (q.regs.getD i aC).next = (p.regs.getD i aC).next
 mm : ∀ i, (q.mems.getD i au).w = (p.mems.getD i au).w ∧ (q.mems.getD i au).words = (p.mems.getD i au).words ∧ (q.mems.getD i au).enable = (p.mems.getD i au).enable ∧ (q.mems.getD i au).addr = (p.mems.getD i au).addr ∧ (q.mems.getD i au).data = (p.mems.getD i au).data
 tk : q.takes = p.takes
 pt : q.puts = p.puts
theorem jC (p : Pr) : jk p p := ⟨rfl, rfl, fun _ => ⟨rfl, rfl, rfl⟩, fun _ => ⟨rfl, rfl, rfl, rfl, rfl⟩, rfl, rfl⟩
theorem Gv {p q : Pr} (h : jk p q) : lK q = lK p ∧ HH q = HH p := by
 have e1 : q.regs.map (·.w) = p.regs.map (·.w) := by
  apply List.ext_getElem
  ·simp [h.rl]
  ·intro i h1 h2
   have := (h.rg i).1
   simp only [List.length_map] at h1 h2
   rw [bS _ _ h1, bS _ _ h2] at this
   simpa using this
 have e2 : q.mems.map (·.w) = p.mems.map (·.w) := by
  apply List.ext_getElem
  ·simp [h.ml]
  ·intro i h1 h2
   have := (h.mm i).1
   simp only [List.length_map] at h1 h2
   rw [bS _ _ h1, bS _ _ h2] at this
   simpa using this
 unfold lK HH
 rw [e1, e2, h.tk]
 exact ⟨rfl, rfl⟩
theorem Gw {p q : Pr} (h : jk p q) (hp : im p) : im q := by
 obtain ⟨e1, e2⟩ := Gv h
 refine ⟨by rw [h.rl]; exact hp.rl, by rw [h.ml]; exact hp.ml, by rw [h.tk]; exact hp.tl, by rw [h.pt]; exact hp.pl, fun i hi => ?_, fun i hi => ?_, fun i hi => ?_, fun i hi => ?_⟩
 ·rw [h.rl] at hi
  have := hp.rw i hi
  obtain ⟨a, b, c⟩ := h.rg i
  unfold Dp at this ⊢
  rw [e1, a, b, c]; exact this
 ·rw [h.ml] at hi
  have := hp.mw i hi
  obtain ⟨a, b, c, d, e⟩ := h.mm i
  unfold jX at this ⊢
  rw [e1, a, b, c, d, e]; exact this
 ·rw [h.tk] at hi
  have := hp.tw i hi
  unfold mu at this ⊢
  rw [e2, h.tk]; exact this
 ·rw [h.pt] at hi
  have := hp.pw i hi
  unfold pz at this ⊢
  rw [e1, h.pt]; exact this
theorem ED (p : Pr) (k0 k1 k2 : Int) : jk p (cF p k0 k1 k2) := by
 obtain ⟨l1, l2⟩ := vW p k0 k1 k2
 refine ⟨l1, l2, fun i => ?_, fun i => ?_, ?_, ?_⟩
 ·unfold cF
  split
  ·exact ⟨rfl, rfl, rfl⟩
  ·split
   ·rename_i hat
    show ((p.regs.set _ _).getD i aC).w = _ ∧ ((p.regs.set _ _).getD i aC).init = _ ∧ ((p.regs.set _ _).getD i aC).next = _
    rw [ca hat]
    split
    ·rename_i e; rw [e]; exact ⟨rfl, rfl, rfl⟩
    ·exact ⟨rfl, rfl, rfl⟩
   ·exact ⟨rfl, rfl, rfl⟩
 ·unfold cF
  split
  ·exact ⟨rfl, rfl, rfl, rfl, rfl⟩
  ·rename_i hne
   split
   ·exact ⟨rfl, rfl, rfl, rfl, rfl⟩
   ·rename_i hat
    have hlt := vU (p := p) k0 hne
    show ((p.mems.set _ _).getD i au).w = _ ∧ ((p.mems.set _ _).getD i au).words = _ ∧ ((p.mems.set _ _).getD i au).enable = _ ∧ ((p.mems.set _ _).getD i au).addr = _ ∧ ((p.mems.set _ _).getD i au).data = _
    rw [ca (by omega)]
    split
    ·rename_i e; rw [e]; exact ⟨rfl, rfl, rfl, rfl, rfl⟩
    ·exact ⟨rfl, rfl, rfl, rfl, rfl⟩
 ·unfold cF; repeat' split
  all_goals rfl
 ·unfold cF; repeat' split
  all_goals rfl
structure lh (c d : Ci) : Prop where
 pl : d.procs.length = c.procs.length
 cl : d.chans.length = c.chans.length
 pr : ∀ i, i < c.procs.length → jk (bD c i) (bD d i)
 cw : ∀ n, (i3 d n).w = (i3 c n).w ∧ (i3 d n).frm = (i3 c n).frm ∧ (i3 d n).dst = (i3 c n).dst
 cp : ∀ n, 0 ≤ (i3 c n).cap → 0 ≤ (i3 d n).cap
 cq : ∀ n, 0 < (i3 c n).cap → 0 < (i3 d n).cap
theorem iJ (c : Ci) : lh c c := ⟨rfl, rfl, fun _ _ => jC _, fun _ => ⟨rfl, rfl, rfl⟩, fun _ h => h, fun _ h => h⟩
theorem EE {c d : Ci} (h : lh c d) (hc : b5 c) : b5 d := by
 refine ⟨by rw [h.pl]; exact hc.n1, by rw [h.pl]; exact hc.nl, by rw [h.cl]; exact hc.cl, fun i hi => ?_, fun i hi j hj => ?_, fun i hi j hj => ?_, fun i hi => ?_, fun i hi => ?_, fun n hn => ?_, fun n hn => ?_⟩
 ·rw [h.pl] at hi; exact Gw (h.pr i hi) (hc.pr i hi)
 ·rw [h.pl] at hi
  have q := h.pr i hi
  rw [q.tk] at hj
  have := hc.tk i hi j hj
  unfold t1 mu at this ⊢
  rw [q.tk, h.cl, (h.cw _).1, (h.cw _).2.2]; exact this
 ·rw [h.pl] at hi
  have q := h.pr i hi
  rw [q.pt] at hj
  have := hc.pt i hi j hj
  unfold qF pz at this ⊢
  rw [q.pt, h.cl, (h.cw _).1, (h.cw _).2.1]; exact this
 ·rw [h.pl] at hi
  have q := h.pr i hi
  have := hc.td i hi
  unfold t1 mu at this ⊢
  rw [q.tk]; exact this
 ·rw [h.pl] at hi
  have q := h.pr i hi
  have := hc.pd i hi
  unfold qF pz at this ⊢
  rw [q.pt]; exact this
 ·rw [h.cl] at hn; rw [(h.cw n).1]; exact hc.cw n hn
 ·rw [h.cl] at hn; exact h.cp n (hc.cp n hn)
theorem yR {p q r : Pr} (h : jk p q) (h2 : jk q r) : jk p r :=
 ⟨h2.rl.trans h.rl, h2.ml.trans h.ml, fun i => ⟨(h2.rg i).1.trans (h.rg i).1, (h2.rg i).2.1.trans (h.rg i).2.1, (h2.rg i).2.2.trans (h.rg i).2.2⟩,
  fun i => ⟨(h2.mm i).1.trans (h.mm i).1, (h2.mm i).2.1.trans (h.mm i).2.1, (h2.mm i).2.2.1.trans (h.mm i).2.2.1, (h2.mm i).2.2.2.1.trans (h.mm i).2.2.2.1, (h2.mm i).2.2.2.2.trans (h.mm i).2.2.2.2⟩, h2.tk.trans h.tk, h2.pt.trans h.pt⟩
theorem xA {c d e : Ci} (h : lh c d) (h2 : lh d e) : lh c e :=
 ⟨h2.pl.trans h.pl, h2.cl.trans h.cl, fun i hi => yR (h.pr i hi) (h2.pr i (by rw [h.pl]; exact hi)), fun n => ⟨(h2.cw n).1.trans (h.cw n).1, (h2.cw n).2.1.trans (h.cw n).2.1, (h2.cw n).2.2.trans (h.cw n).2.2⟩, fun n hn => h2.cp n (h.cp n hn), fun n hn => h2.cq n (h.cq n hn)⟩
theorem EF (c : Ci) (b : List Int) (i : Nat) : lh c (qf c b i) := by
 unfold qf
 split
 ·split
  ·rename_i hl
   have hi := eL (b.getD (i + 1) 0) hl
   refine ⟨rfl, by simp, fun _ _ => jC _, fun n => ?_, fun n hn => ?_, fun n hn => ?_⟩
   ·show ((c.chans.set _ _).getD n ax).w = _ ∧ ((c.chans.set _ _).getD n ax).frm = _ ∧ ((c.chans.set _ _).getD n ax).dst = _
    rw [ca hi]; split
    ·rename_i e; rw [e]; exact ⟨rfl, rfl, rfl⟩
    ·exact ⟨rfl, rfl, rfl⟩
   ·show 0 ≤ ((c.chans.set _ _).getD n ax).cap
    rw [ca hi]; split
    ·rename_i e; rw [e] at hn; exact hn
    ·exact hn
   ·show 0 < ((c.chans.set _ _).getD n ax).cap
    rw [ca hi]; split
    ·rename_i e; rw [e] at hn; exact hn
    ·exact hn
  ·exact iJ c
 ·split
  ·split
   ·rename_i hl
    have hi := eL (b.getD (i + 1) 0) hl.1
    refine ⟨rfl, by simp, fun _ _ => jC _, fun n => ?_, fun n hn => ?_, fun n hn => ?_⟩
    ·show ((c.chans.set _ _).getD n ax).w = _ ∧ ((c.chans.set _ _).getD n ax).frm = _ ∧ ((c.chans.set _ _).getD n ax).dst = _
     rw [ca hi]; split
     ·rename_i e; rw [e]; exact ⟨rfl, rfl, rfl⟩
     ·exact ⟨rfl, rfl, rfl⟩
    ·show 0 ≤ ((c.chans.set _ _).getD n ax).cap
     rw [ca hi]; split
     ·show 0 ≤ 1 + b.getD (i + 2) 0 % 8; omega
     ·exact hn
    ·show 0 < ((c.chans.set _ _).getD n ax).cap
     rw [ca hi]; split
     ·show 0 < 1 + b.getD (i + 2) 0 % 8; omega
     ·exact hn
   ·exact iJ c
  ·split
   ·split
    ·rename_i hl
     have hi := eL (b.getD (i + 1) 0) hl
     refine ⟨by simp, rfl, fun j hj => ?_, fun n => ⟨rfl, rfl, rfl⟩, fun n hn => hn, fun n hn => hn⟩
     show jk (c.procs.getD j ac) ((c.procs.set _ _).getD j ac)
     rw [ca hi]; split
     ·rename_i e; rw [e]; exact ⟨rfl, rfl, fun _ => ⟨rfl, rfl, rfl⟩, fun _ => ⟨rfl, rfl, rfl, rfl, rfl⟩, rfl, rfl⟩
     ·exact jC _
    ·exact iJ c
   ·split
    ·rename_i hl
     have hi := eL (b.getD (i + 1) 0) hl
     refine ⟨by simp, rfl, fun j hj => ?_, fun n => ⟨rfl, rfl, rfl⟩, fun n hn => hn, fun n hn => hn⟩
     show jk (c.procs.getD j ac) ((c.procs.set _ _).getD j ac)
     rw [ca hi]; split
     ·rename_i e; rw [e]; exact ED _ _ _ _
     ·exact jC _
    ·exact iJ c
theorem sq (c : Ci) (b : List Int) : ∀ t, lh c (sS c b t)
 | 0 => iJ c
 | t + 1 => xA (sq c b t) (EF _ _ _)
end Go.Proofs.Ytnlmlkbaflmgcaa
