/-
  Edited circuits are well made, and their names differ.
-/
import Derived.Test.YtnlmlkbaflmgcaaQMjG
namespace Go.Proofs.Ytnlmlkbaflmgcaa
open Go.RowKit
set_option linter.unusedVariables false
set_option linter.unusedSimpArgs false
def kL (t : Nat) : List ByteArray := [EY 0, EY 1, EY 2, EY 3, EY 4] ++ (List.range t).map (fun u => GZ ++ cf (4 * u))
def kM (t : Nat) : List ByteArray := [GV 0, GV 1, GV 2, GV 3] ++ (List.range t).map (fun u => G0 ++ cf (4 * u))
def pE (i : Nat) : List ByteArray := KD i :: (List.range 6).map (fun u => (KG ++ bQ (u : Nat)) ++ cf i)
theorem KI {t : Nat} (h : t < 6) : ∀ x ∈ kL t, x ≠ GZ ++ cf (4 * t) := by
 have : t = 0 ∨ t = 1 ∨ t = 2 ∨ t = 3 ∨ t = 4 ∨ t = 5 := by omega
 rcases this with h | h | h | h | h | h <;> subst h <;> decide +kernel
theorem KJ {t : Nat} (h : t < 6) : ∀ x ∈ kM t, x ≠ G0 ++ cf (4 * t) := by
 have : t = 0 ∨ t = 1 ∨ t = 2 ∨ t = 3 ∨ t = 4 ∨ t = 5 := by omega
 rcases this with h | h | h | h | h | h <;> subst h <;> decide +kernel
theorem H8 : ∀ x ∈ pE 0, ∀ y ∈ pE 1, x ≠ y := by decide +kernel
theorem JF {t : Nat} {k : ByteArray} (h : k ∈ kL t) : k ∈ kL (t + 1) := by
 unfold kL at *; rw [List.range_succ, List.map_append, ← List.append_assoc]; exact List.mem_append_left _ h
theorem JG (t : Nat) : GZ ++ cf (4 * t) ∈ kL (t + 1) := by
 unfold kL; rw [List.range_succ, List.map_append]; simp
theorem JH {t : Nat} {k : ByteArray} (h : k ∈ kM t) : k ∈ kM (t + 1) := by
 unfold kM at *; rw [List.range_succ, List.map_append, ← List.append_assoc]; exact List.mem_append_left _ h
theorem JI (t : Nat) : G0 ++ cf (4 * t) ∈ kM (t + 1) := by
 unfold kM; rw [List.range_succ, List.map_append]; simp
theorem BI (k : Int) : bQ k = bQ ((k % 6).toNat : Nat) := by
 unfold bQ
 have : (((k % 6).toNat : Nat) : Int) % 6 = k % 6 := by omega
 rw [this]
theorem KK (k2 : Int) {i : Nat} {old : ByteArray} (h : old ∈ pE i) : oC KG k2 i old ∈ pE i := by
 unfold oC
 split
 ·unfold pE
  refine List.mem_cons_of_mem _ (List.mem_map.2 ⟨(k2 / 8 % 6).toNat, List.mem_range.2 (by omega), ?_⟩)
  rw [← BI]
 ·exact h
structure H9 (p : Pr) : Prop where
 rl : p.regs.length ≤ 2
 ml : p.mems.length ≤ 1
 rn : ∀ i, i < p.regs.length → l5 p i ∈ pE i
 rk : DU p
structure l6 (c : Ci) (t : Nat) : Prop where
 cl : c.chans.length ≤ 5
 pl : c.procs.length ≤ 4
 cn : ∀ j, j < c.chans.length → a6 c j ∈ kL t
 cd : gx (a6 c) c.chans.length
 pn : ∀ j, j < c.procs.length → kg c j ∈ kM t
 pd : gx (kg c) c.procs.length
 pr : ∀ j, j < c.procs.length → H9 (c.procs.getD j af)
theorem b3 {α : Type} {l : List α} {i j : Nat} {x d : α} (hi : i < l.length) : (l.set i x).getD j d = if j = i then x else l.getD j d := by
 by_cases e : j = i
 ·subst e; rw [if_pos rfl]; exact vS hi
 ·rw [if_neg e, List.getD_eq_getElem?_getD, List.getElem?_set_ne (fun h => e h.symm), ← List.getD_eq_getElem?_getD]
theorem xu {f g : Nat → ByteArray} {n i : Nat} {x : ByteArray} (h : gx f n) (hx : ∀ j, j < n → f j ≠ x) (hg : ∀ j, g j = if j = i then x else f j) : gx g n := by
 intro a ha b hb
 rw [hg, hg]
 by_cases h1 : b = i
 ·rw [if_pos h1]
  by_cases h2 : a = i
  ·omega
  ·rw [if_neg h2]; exact fun e => hx a ha e.symm
 ·rw [if_neg h1]
  by_cases h2 : a = i
  ·rw [if_pos h2]; exact hx b (by omega)
  ·rw [if_neg h2]; exact h a ha b hb
theorem r9 {f g : Nat → ByteArray} {n : Nat} (h : gx f n) (hg : ∀ j, g j = f j) : gx g n := by
 intro a ha b hb; rw [hg, hg]; exact h a ha b hb
theorem xv (k1 k2 : Int) : 0 ≤ (fW k1 k2).kind ∧ (fW k1 k2).kind ≤ 3 := by
 show 0 ≤ k1 % 4 ∧ k1 % 4 ≤ 3; omega
theorem Ia {p : Pr} (h : H9 p) (k0 k1 k2 : Int) : H9 (cy p k0 k1 k2) := by
 have hl := vU p k0 k1 k2
 refine ⟨by rw [hl.1]; exact h.rl, by rw [hl.2]; exact h.ml, ?_, ?_⟩
 ·intro i hi
  rw [hl.1] at hi
  have h0 := h.rn i hi
  unfold cy l5
  split
  ·exact h0
  ·split
   ·rename_i hat
    show ((p.regs.set _ _).getD i aO).name ∈ _
    rw [b3 hat]
    split
    ·rename_i e; subst e; exact KK k2 h0
    ·exact h0
   ·exact h0
 ·refine ⟨fun j hj => ?_, fun j hj => ?_⟩
  ·rw [hl.1] at hj
   have h0 := h.rk.1 j hj
   unfold cy
   split
   ·exact h0
   ·split
    ·rename_i hat
     show 0 ≤ ((p.regs.set _ _).getD j aO).rule.kind ∧ ((p.regs.set _ _).getD j aO).rule.kind ≤ 3
     rw [b3 hat]
     split
     ·exact xv k1 k2
     ·exact h0
    ·exact h0
  ·rw [hl.2] at hj
   have h0 := h.rk.2 j hj
   unfold cy
   split
   ·exact h0
   ·rename_i hne
    split
    ·exact h0
    ·rename_i hat
     have hlt := vR (p := p) k0 hne
     show 0 ≤ ((p.mems.set _ _).getD j aB).rule.kind ∧ ((p.mems.set _ _).getD j aB).rule.kind ≤ 3
     rw [b3 (by omega)]
     split
     ·exact xv k1 k2
     ·exact h0
theorem Eh (p : Pr) (k0 k1 k2 : Int) : (cy p k0 k1 k2).name = p.name := by
 unfold cy; repeat' split
 all_goals rfl
theorem Gd {c : Ci} {t : Nat} (h : l6 c t) : l6 c (t + 1) := ⟨h.cl, h.pl, fun j hj => JF (h.cn j hj), h.cd, fun j hj => JH (h.pn j hj), h.pd, h.pr⟩
theorem Ib {c : Ci} {t : Nat} (b : List Int) (ht : t < 6) (h : l6 c t) : l6 (p5 c b (4 * t)) (t + 1) := by
 have hm := Gd h
 have hnc : ∀ j, j < c.chans.length → a6 c j ≠ GZ ++ cf (4 * t) := fun j hj => KI ht _ (h.cn j hj)
 have hnp : ∀ j, j < c.procs.length → kg c j ≠ G0 ++ cf (4 * t) := fun j hj => KJ ht _ (h.pn j hj)
 unfold p5
 split
 ·split
  ·rename_i hl
   have hi := ey (b.getD (4 * t + 1) 0) hl
   generalize bu c.chans (b.getD (4 * t + 1) 0) = i at hi ⊢
   have hg : ∀ j, a6 (⟨c.procs, c.chans.set i { c.chans.getD i ax with name := GZ ++ cf (4 * t) }⟩ : Ci) j = if j = i then GZ ++ cf (4 * t) else a6 c j := by
    intro j
    show ((c.chans.set i _).getD j ax).name = _
    rw [b3 hi]
    split <;> rfl
   refine ⟨by rw [List.length_set]; exact h.cl, h.pl, fun j hj => ?_, ?_, hm.pn, h.pd, h.pr⟩
   ·rw [List.length_set] at hj
    rw [hg]
    split
    ·exact JG t
    ·exact hm.cn j hj
   ·rw [List.length_set]; exact xu h.cd hnc hg
  ·exact hm
 ·split
  ·split
   ·rename_i hl
    have hi := ey (b.getD (4 * t + 1) 0) hl.1
    generalize bu c.chans (b.getD (4 * t + 1) 0) = i at hi ⊢
    have hg : ∀ j, a6 (⟨c.procs, c.chans.set i { c.chans.getD i ax with cap := 1 + b.getD (4 * t + 2) 0 % 8 }⟩ : Ci) j = a6 c j := by
     intro j
     show ((c.chans.set i _).getD j ax).name = (c.chans.getD j ax).name
     rw [b3 hi]
     split
     ·rename_i e; rw [e]
     ·rfl
    refine ⟨by rw [List.length_set]; exact h.cl, h.pl, fun j hj => ?_, ?_, hm.pn, h.pd, h.pr⟩
    ·rw [List.length_set] at hj
     rw [hg]; exact hm.cn j hj
    ·rw [List.length_set]; exact r9 h.cd hg
   ·exact hm
  ·split
   ·split
    ·rename_i hl
     have hi := ey (b.getD (4 * t + 1) 0) hl
     generalize bu c.procs (b.getD (4 * t + 1) 0) = i at hi ⊢
     have hg : ∀ j, kg (⟨c.procs.set i { c.procs.getD i af with name := G0 ++ cf (4 * t) }, c.chans⟩ : Ci) j = if j = i then G0 ++ cf (4 * t) else kg c j := by
      intro j
      show ((c.procs.set i _).getD j af).name = _
      rw [b3 hi]
      split <;> rfl
     refine ⟨h.cl, by rw [List.length_set]; exact h.pl, hm.cn, h.cd, fun j hj => ?_, ?_, fun j hj => ?_⟩
     ·rw [List.length_set] at hj
      rw [hg]
      split
      ·exact JI t
      ·exact hm.pn j hj
     ·rw [List.length_set]; exact xu h.pd hnp hg
     ·rw [List.length_set] at hj
      rw [b3 hi]
      split
      ·have q := h.pr i hi; exact ⟨q.rl, q.ml, q.rn, q.rk⟩
      ·exact h.pr j hj
    ·exact hm
   ·split
    ·rename_i hl
     have hi := ey (b.getD (4 * t + 1) 0) hl
     generalize bu c.procs (b.getD (4 * t + 1) 0) = i at hi ⊢
     generalize hk0 : b.getD (4 * t + 2) 0 = k0
     generalize hk1 : b.getD (4 * t + 3) 0 = k1
     generalize hk2 : b.getD (4 * t) 0 + k0 = k2
     have hg : ∀ j, kg (⟨c.procs.set i (cy (c.procs.getD i af) k0 k1 k2), c.chans⟩ : Ci) j = kg c j := by
      intro j
      show ((c.procs.set i _).getD j af).name = (c.procs.getD j af).name
      rw [b3 hi]
      split
      ·rename_i e; rw [e, Eh]
      ·rfl
     refine ⟨h.cl, by rw [List.length_set]; exact h.pl, hm.cn, h.cd, fun j hj => ?_, ?_, fun j hj => ?_⟩
     ·rw [List.length_set] at hj
      rw [hg]; exact hm.pn j hj
     ·rw [List.length_set]; exact r9 h.pd hg
     ·rw [List.length_set] at hj
      rw [b3 hi]
      split
      ·exact Ia (h.pr i hi) _ _ _
      ·exact h.pr j hj
    ·exact hm
theorem Ei {c : Ci} (b : List Int) (h : l6 c 0) : ∀ t, t ≤ 6 → l6 (sM c b t) t
 | 0, _ => h
 | t + 1, ht => Ib b (by omega) (Ei b h t (by omega))
theorem G1 {c : Ci} {t : Nat} (h : l6 c t) : d5 c := by
 refine ⟨h.cd, h.pd, fun i hi => ?_, fun i hi => ?_⟩
 ·have q := h.pr i hi
  intro a ha b hb
  have := q.rl
  have e1 : a = 1 := by omega
  have e0 : b = 0 := by omega
  subst e1; subst e0
  have h0 := q.rn 0 (by omega)
  have h1 := q.rn 1 ha
  exact H8 _ h0 _ h1
 ·intro a ha b hb
  have := (h.pr i hi).ml
  omega
theorem Ge : gx EY 5 := by unfold gx; decide +kernel
theorem Gf : gx GV 4 := by unfold gx; decide +kernel
theorem jo (sh : Int) (b : List Int) : (az sh b).procs.length = (ai sh).length ∧ (az sh b).chans.length = jn sh := ⟨aH _ _, aH _ _⟩
theorem Gg {sh : Int} {b : List Int} (hb : eS b) : l6 (az sh b) 0 := by
 obtain ⟨l1, l2⟩ := jo sh b
 have hp := kJ sh
 have hn := (yL sh).2
 have ec : ∀ j, j < jn sh → a6 (az sh b) j = EY j := fun j hj => by unfold a6 az; rw [aR hj]; rfl
 have ep : ∀ j, j < (ai sh).length → (az sh b).procs.getD j af = mt b (ai sh) j := fun j hj => aR hj
 have en : ∀ j, j < (ai sh).length → kg (az sh b) j = GV j := fun j hj => by unfold kg; rw [ep j hj]; rfl
 refine ⟨by omega, by omega, fun j hj => ?_, fun i hi j hj => ?_, fun j hj => ?_, fun i hi j hj => ?_, fun j hj => ?_⟩
 ·rw [l2] at hj
  rw [ec j hj]
  have : j = 0 ∨ j = 1 ∨ j = 2 ∨ j = 3 ∨ j = 4 := by omega
  unfold kL
  rcases this with h | h | h | h | h <;> subst h <;> simp
 ·rw [l2] at hi
  rw [ec i hi, ec j (by omega)]
  exact Ge i (by omega) j hj
 ·rw [l1] at hj
  rw [en j hj]
  have : j = 0 ∨ j = 1 ∨ j = 2 ∨ j = 3 := by omega
  unfold kM
  rcases this with h | h | h | h <;> subst h <;> simp
 ·rw [l1] at hi
  rw [en i hi, en j (by omega)]
  exact Gf i (by omega) j hj
 ·rw [l1] at hj
  rw [ep j hj]
  generalize s5 b (ai sh) j = q0 at *
  have hy := bS hb (s5 b (ai sh) j)
  have hr := vN hy.1
  have hl : (mt b (ai sh) j).regs.length = oM (b.getD (s5 b (ai sh) j) 0) := aH _ _
  refine ⟨by rw [hl]; exact hr.2, Nat.zero_le _, fun i hi => ?_, fun i hi => ?_, fun i hi => ?_⟩
  ·rw [hl] at hi
   have : l5 (mt b (ai sh) j) i = KD i := by unfold l5; rw [show (mt b (ai sh) j).regs.getD i aO = Jq b _ _ _ i from aR hi]; rfl
   rw [this]
   exact List.mem_cons_self
  ·rw [hl] at hi
   rw [show (mt b (ai sh) j).regs.getD i aO = Jq b _ _ _ i from aR hi]
   show 0 ≤ [1, 1, 0].getD _ (0 : Int) ∧ [1, 1, 0].getD _ (0 : Int) ≤ 3
   generalize hz : (b.getD (s5 b (ai sh) j) 0 / 16 % 3).toNat = z
   have : z = 0 ∨ z = 1 ∨ z = 2 := by omega
   rcases this with h | h | h <;> subst h <;> decide
  ·exact absurd hi (Nat.not_lt_zero _)
theorem un {sh : Int} {b : List Int} : ∀ i, i < (az sh b).procs.length → (bx (az sh b) i).mems = [] := fun i hi => by
 rw [(jo sh b).1] at hi
 rw [show bx (az sh b) i = mt b (ai sh) i from aR hi]; rfl
theorem Gh {c : Ci} {t : Nat} (h : l6 c t) (hm : ∀ i, i < c.procs.length → (bx c i).mems = []) (b : List Int) : l6 (aF c b) t := by
 have hl := xk c b
 have hat : ∀ i, i < c.procs.length → (aF c b).procs.getD i af = jx (c.procs.getD i af) b i := fun i hi => Au hi
 have hn : ∀ i, i < c.procs.length → kg (aF c b) i = kg c i := fun i hi => by unfold kg; rw [hat i hi, Ec]
 refine ⟨h.cl, by rw [hl]; exact h.pl, h.cn, h.cd, fun j hj => ?_, fun i hi j hj => ?_, fun j hj => ?_⟩
 ·rw [hl] at hj; rw [hn j hj]; exact h.pn j hj
 ·rw [hl] at hi; rw [hn i hi, hn j (by omega)]; exact h.pd i hi j hj
 ·rw [hl] at hj
  rw [hat j hj]
  have q := h.pr j hj
  have hr := Eb (c.procs.getD j af) b j
  refine ⟨by rw [hr]; exact q.rl, ?_, fun i hi => ?_, fun i hi => ?_, fun i hi => ?_⟩
  ·unfold jx; split
   ·exact Nat.le_refl 1
   ·exact q.ml
  ·unfold l5; rw [hr] at hi ⊢; exact q.rn i hi
  ·rw [hr] at hi ⊢; exact q.rk.1 i hi
  ·unfold jx at hi ⊢
   split at hi
   ·rename_i hs
    rw [if_pos hs]
    have : i = 0 := by have : i < 1 := hi; omega
    subst this
    exact ⟨(by decide : (0 : Int) ≤ 1), (by decide : (1 : Int) ≤ 3)⟩
   ·rename_i hs
    rw [if_neg hs]
    exact q.rk.2 i hi
structure i5 (p q : Pr) : Prop where
 rl : q.regs.length = p.regs.length
 ml : q.mems.length = p.mems.length
 rg : ∀ i, (q.regs.getD i aO).w = (p.regs.getD i aO).w ∧ (q.regs.getD i aO).init = (p.regs.getD i aO).init ∧ (q.regs.getD i aO).next = (p.regs.getD i aO).next
 mm : ∀ i, (q.mems.getD i aB).w = (p.mems.getD i aB).w ∧ (q.mems.getD i aB).words = (p.mems.getD i aB).words ∧ (q.mems.getD i aB).enable = (p.mems.getD i aB).enable ∧ (q.mems.getD i aB).addr = (p.mems.getD i aB).addr ∧ (q.mems.getD i aB).data = (p.mems.getD i aB).data
 tk : q.takes = p.takes
 pt : q.puts = p.puts
theorem jp (p : Pr) : i5 p p := ⟨rfl, rfl, fun _ => ⟨rfl, rfl, rfl⟩, fun _ => ⟨rfl, rfl, rfl, rfl, rfl⟩, rfl, rfl⟩
theorem Gi {p q : Pr} (h : i5 p q) : lm q = lm p ∧ Hv q = Hv p := by
 have e1 : q.regs.map (·.w) = p.regs.map (·.w) := by
  apply List.ext_getElem
  ·simp [h.rl]
  ·intro i h1 h2
   have := (h.rg i).1
   simp only [List.length_map] at h1 h2
   rw [ct _ _ h1, ct _ _ h2] at this
   simpa using this
 have e2 : q.mems.map (·.w) = p.mems.map (·.w) := by
  apply List.ext_getElem
  ·simp [h.ml]
  ·intro i h1 h2
   have := (h.mm i).1
   simp only [List.length_map] at h1 h2
   rw [ct _ _ h1, ct _ _ h2] at this
   simpa using this
 unfold lm Hv
 rw [e1, e2, h.tk]
 exact ⟨rfl, rfl⟩
theorem Gj {p q : Pr} (h : i5 p q) (hp : ga p) : ga q := by
 obtain ⟨e1, e2⟩ := Gi h
 refine ⟨by rw [h.rl]; exact hp.rl, by rw [h.ml]; exact hp.ml, by rw [h.tk]; exact hp.tl, by rw [h.pt]; exact hp.pl, fun i hi => ?_, fun i hi => ?_, fun i hi => ?_, fun i hi => ?_⟩
 ·rw [h.rl] at hi
  have := hp.rw i hi
  obtain ⟨a, b, c⟩ := h.rg i
  unfold zN at this ⊢
  rw [e1, a, b, c]; exact this
 ·rw [h.ml] at hi
  have := hp.mw i hi
  obtain ⟨a, b, c, d, e⟩ := h.mm i
  unfold hJ at this ⊢
  rw [e1, a, b, c, d, e]; exact this
 ·rw [h.tk] at hi
  have := hp.tw i hi
  unfold lY at this ⊢
  rw [e2, h.tk]; exact this
 ·rw [h.pt] at hi
  have := hp.pw i hi
  unfold pu at this ⊢
  rw [e1, h.pt]; exact this
theorem Ej (p : Pr) (k0 k1 k2 : Int) : i5 p (cy p k0 k1 k2) := by
 obtain ⟨l1, l2⟩ := vU p k0 k1 k2
 refine ⟨l1, l2, fun i => ?_, fun i => ?_, ?_, ?_⟩
 ·unfold cy
  split
  ·exact ⟨rfl, rfl, rfl⟩
  ·split
   ·rename_i hat
    show ((p.regs.set _ _).getD i aO).w = _ ∧ ((p.regs.set _ _).getD i aO).init = _ ∧ ((p.regs.set _ _).getD i aO).next = _
    rw [b3 hat]
    split
    ·rename_i e; rw [e]; exact ⟨rfl, rfl, rfl⟩
    ·exact ⟨rfl, rfl, rfl⟩
   ·exact ⟨rfl, rfl, rfl⟩
 ·unfold cy
  split
  ·exact ⟨rfl, rfl, rfl, rfl, rfl⟩
  ·rename_i hne
   split
   ·exact ⟨rfl, rfl, rfl, rfl, rfl⟩
   ·rename_i hat
    have hlt := vR (p := p) k0 hne
    show ((p.mems.set _ _).getD i aB).w = _ ∧ ((p.mems.set _ _).getD i aB).words = _ ∧ ((p.mems.set _ _).getD i aB).enable = _ ∧ ((p.mems.set _ _).getD i aB).addr = _ ∧ ((p.mems.set _ _).getD i aB).data = _
    rw [b3 (by omega)]
    split
    ·rename_i e; rw [e]; exact ⟨rfl, rfl, rfl, rfl, rfl⟩
    ·exact ⟨rfl, rfl, rfl, rfl, rfl⟩
 ·unfold cy; repeat' split
  all_goals rfl
 ·unfold cy; repeat' split
  all_goals rfl
structure kN (c d : Ci) : Prop where
 pl : d.procs.length = c.procs.length
 cl : d.chans.length = c.chans.length
 pr : ∀ i, i < c.procs.length → i5 (bx c i) (bx d i)
 cw : ∀ n, (eI d n).w = (eI c n).w ∧ (eI d n).frm = (eI c n).frm ∧ (eI d n).dst = (eI c n).dst
 cp : ∀ n, 0 ≤ (eI c n).cap → 0 ≤ (eI d n).cap
 cq : ∀ n, 0 < (eI c n).cap → 0 < (eI d n).cap
theorem it (c : Ci) : kN c c := ⟨rfl, rfl, fun _ _ => jp _, fun _ => ⟨rfl, rfl, rfl⟩, fun _ h => h, fun _ h => h⟩
theorem Ek {c d : Ci} (h : kN c d) (hc : bX c) : bX d := by
 refine ⟨by rw [h.pl]; exact hc.n1, by rw [h.pl]; exact hc.nl, by rw [h.cl]; exact hc.cl, fun i hi => ?_, fun i hi j hj => ?_, fun i hi j hj => ?_, fun i hi => ?_, fun i hi => ?_, fun n hn => ?_, fun n hn => ?_⟩
 ·rw [h.pl] at hi; exact Gj (h.pr i hi) (hc.pr i hi)
 ·rw [h.pl] at hi
  have q := h.pr i hi
  rw [q.tk] at hj
  have := hc.tk i hi j hj
  unfold tV lY at this ⊢
  rw [q.tk, h.cl, (h.cw _).1, (h.cw _).2.2]; exact this
 ·rw [h.pl] at hi
  have q := h.pr i hi
  rw [q.pt] at hj
  have := hc.pt i hi j hj
  unfold qx pu at this ⊢
  rw [q.pt, h.cl, (h.cw _).1, (h.cw _).2.1]; exact this
 ·rw [h.pl] at hi
  have q := h.pr i hi
  have := hc.td i hi
  unfold tV lY at this ⊢
  rw [q.tk]; exact this
 ·rw [h.pl] at hi
  have q := h.pr i hi
  have := hc.pd i hi
  unfold qx pu at this ⊢
  rw [q.pt]; exact this
 ·rw [h.cl] at hn; rw [(h.cw n).1]; exact hc.cw n hn
 ·rw [h.cl] at hn; exact h.cp n (hc.cp n hn)
theorem yO {p q r : Pr} (h : i5 p q) (h2 : i5 q r) : i5 p r :=
 ⟨h2.rl.trans h.rl, h2.ml.trans h.ml, fun i => ⟨(h2.rg i).1.trans (h.rg i).1, (h2.rg i).2.1.trans (h.rg i).2.1, (h2.rg i).2.2.trans (h.rg i).2.2⟩,
  fun i => ⟨(h2.mm i).1.trans (h.mm i).1, (h2.mm i).2.1.trans (h.mm i).2.1, (h2.mm i).2.2.1.trans (h.mm i).2.2.1, (h2.mm i).2.2.2.1.trans (h.mm i).2.2.2.1, (h2.mm i).2.2.2.2.trans (h.mm i).2.2.2.2⟩, h2.tk.trans h.tk, h2.pt.trans h.pt⟩
theorem xw {c d e : Ci} (h : kN c d) (h2 : kN d e) : kN c e :=
 ⟨h2.pl.trans h.pl, h2.cl.trans h.cl, fun i hi => yO (h.pr i hi) (h2.pr i (by rw [h.pl]; exact hi)), fun n => ⟨(h2.cw n).1.trans (h.cw n).1, (h2.cw n).2.1.trans (h.cw n).2.1, (h2.cw n).2.2.trans (h.cw n).2.2⟩, fun n hn => h2.cp n (h.cp n hn), fun n hn => h2.cq n (h.cq n hn)⟩
theorem El (c : Ci) (b : List Int) (i : Nat) : kN c (p5 c b i) := by
 unfold p5
 split
 ·split
  ·rename_i hl
   have hi := ey (b.getD (i + 1) 0) hl
   refine ⟨rfl, by simp, fun _ _ => jp _, fun n => ?_, fun n hn => ?_, fun n hn => ?_⟩
   ·show ((c.chans.set _ _).getD n ax).w = _ ∧ ((c.chans.set _ _).getD n ax).frm = _ ∧ ((c.chans.set _ _).getD n ax).dst = _
    rw [b3 hi]; split
    ·rename_i e; rw [e]; exact ⟨rfl, rfl, rfl⟩
    ·exact ⟨rfl, rfl, rfl⟩
   ·show 0 ≤ ((c.chans.set _ _).getD n ax).cap
    rw [b3 hi]; split
    ·rename_i e; rw [e] at hn; exact hn
    ·exact hn
   ·show 0 < ((c.chans.set _ _).getD n ax).cap
    rw [b3 hi]; split
    ·rename_i e; rw [e] at hn; exact hn
    ·exact hn
  ·exact it c
 ·split
  ·split
   ·rename_i hl
    have hi := ey (b.getD (i + 1) 0) hl.1
    refine ⟨rfl, by simp, fun _ _ => jp _, fun n => ?_, fun n hn => ?_, fun n hn => ?_⟩
    ·show ((c.chans.set _ _).getD n ax).w = _ ∧ ((c.chans.set _ _).getD n ax).frm = _ ∧ ((c.chans.set _ _).getD n ax).dst = _
     rw [b3 hi]; split
     ·rename_i e; rw [e]; exact ⟨rfl, rfl, rfl⟩
     ·exact ⟨rfl, rfl, rfl⟩
    ·show 0 ≤ ((c.chans.set _ _).getD n ax).cap
     rw [b3 hi]; split
     ·show 0 ≤ 1 + b.getD (i + 2) 0 % 8; omega
     ·exact hn
    ·show 0 < ((c.chans.set _ _).getD n ax).cap
     rw [b3 hi]; split
     ·show 0 < 1 + b.getD (i + 2) 0 % 8; omega
     ·exact hn
   ·exact it c
  ·split
   ·split
    ·rename_i hl
     have hi := ey (b.getD (i + 1) 0) hl
     refine ⟨by simp, rfl, fun j hj => ?_, fun n => ⟨rfl, rfl, rfl⟩, fun n hn => hn, fun n hn => hn⟩
     show i5 (c.procs.getD j af) ((c.procs.set _ _).getD j af)
     rw [b3 hi]; split
     ·rename_i e; rw [e]; exact ⟨rfl, rfl, fun _ => ⟨rfl, rfl, rfl⟩, fun _ => ⟨rfl, rfl, rfl, rfl, rfl⟩, rfl, rfl⟩
     ·exact jp _
    ·exact it c
   ·split
    ·rename_i hl
     have hi := ey (b.getD (i + 1) 0) hl
     refine ⟨by simp, rfl, fun j hj => ?_, fun n => ⟨rfl, rfl, rfl⟩, fun n hn => hn, fun n hn => hn⟩
     show i5 (c.procs.getD j af) ((c.procs.set _ _).getD j af)
     rw [b3 hi]; split
     ·rename_i e; rw [e]; exact Ej _ _ _ _
     ·exact jp _
    ·exact it c
theorem sa (c : Ci) (b : List Int) : ∀ t, kN c (sM c b t)
 | 0 => it c
 | t + 1 => xw (sa c b t) (El _ _ _)
end Go.Proofs.Ytnlmlkbaflmgcaa
