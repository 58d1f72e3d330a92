/-
  The laws of shadows, plain data: circuits that have fired in different orders have streams that agree.
-/
import Derived.Test.YtgmpoenfoacofaaGreatQShF
import Derived.Test.YtgmpoenfoacofaaGreatQNeZ
namespace Go.Proofs.YtgmpoenfoacofaaGreat
open Go.RowKit
set_option linter.unusedVariables false
set_option linter.unusedSimpArgs false
section
variable {c : Ci} {s t u v : Ns} {w : Nat → Bool} {p n : Nat} {l : List Int}
def Reach (c : Ci) (s t : Ns) : Prop := ∃ l, iq c s l ∧ f5 c s l = t
theorem C2 : ∀ {l m : List Nat} {s : Ns}, f5 c s (l ++ m) = f5 c (f5 c s l) m
 | [], _, _ => rfl
 | p :: r, m, s => C2 (l := r) (s := aF c s (aH p))
theorem C3 : ∀ {l m : List Nat} {s : Ns}, iq c s l → iq c (f5 c s l) m → iq c s (l ++ m)
 | [], _, _, _, h => h
 | p :: r, m, s, h1, h2 => ⟨h1.1, h1.2.1, C3 (l := r) h1.2.2 h2⟩
theorem iC (c : Ci) (s : Ns) : Reach c s s := ⟨[], trivial, rfl⟩
theorem dC (h : Reach c s t) (k : Reach c t u) : Reach c s u := by
 obtain ⟨l, h1, h2⟩ := h
 obtain ⟨m, k1, k2⟩ := k
 subst h2
 exact ⟨l ++ m, C3 h1 k1, by rw [C2, k2]⟩
theorem wD (hp : p < c.procs.length) (h : cS c s p = true) : Reach c s (aF c s (aH p)) := ⟨[p], ⟨hp, h, trivial⟩, rfl⟩
theorem zL (hc : a8 c) (hs : bG c s) (h : Reach c s t) : bG c t := by
 obtain ⟨l, _, h2⟩ := h
 exact h2 ▸ Bc hc hs
theorem uO (hc : a8 c) (hs : bG c s) : ∀ {P : Nat}, P ≤ c.procs.length → Reach c s (aF c s (ke w P))
 | 0, _ => by
  rw [zf hs (fun p hp => by unfold aC ke; simp)]; exact iC c s
 | P + 1, hP => by
  have ih := uO hc hs (P := P) (by omega)
  by_cases hf : aC c s w P = true
  ·obtain ⟨hw, hcan⟩ := jv hf
   have hu : ke w P P = false := by unfold ke; simp
   have h1 := wD (c := c) (s := aF c s (ke w P)) (p := P) (by omega) (pB hc (by omega) hcan hu)
   rw [xE hc (by omega) hcan hu] at h1
   have h2 := dC ih h1
   rw [qM (w' := fun q => ke w P q || aH P q)]
   ·exact h2
   ·intro q
    unfold aC ke aH
    by_cases e : q = P
    ·subst e; simp [hw]
    ·have : decide (q < P + 1) = decide (q < P) := by simp only [decide_eq_decide]; omega
     rw [this]; simp [e]
  ·rw [qM (w' := ke w P)]
   ·exact ih
   ·intro q
    by_cases e : q = P
    ·subst e
     have h1 : aC c s (ke w (q + 1)) q = false := by
      unfold aC ke
      unfold aC at hf
      simp only [Bool.and_eq_true, not_and, Bool.not_eq_true] at hf
      cases hw : w q
      ·simp
      ·simp [hf hw]
     rw [h1]; unfold aC ke; simp
    ·unfold aC ke
     have : decide (q < P + 1) = decide (q < P) := by simp only [decide_eq_decide]; omega
     rw [this]
theorem wE (hc : a8 c) (hs : bG c s) (w : Nat → Bool) : Reach c s (aF c s w) := by
 rw [Hr hs]; exact uO hc hs (Nat.le_refl _)
theorem jM (hc : a8 c) : ∀ {l : List ByteArray} {s : Ns}, bG c s → Reach c s (aq c s l)
 | [], s, _ => iC c s
 | a :: r, s, hs => dC (wE hc hs (cG c a)) (jM hc (l := r) (gi hc hs _))
theorem oh (hc : a8 c) : ∀ {l : List Int} {s : Ns}, bG c s → Reach c s (cQ c s l)
 | [], s, _ => iC c s
 | a :: r, s, hs => dC (wE hc hs (qU (a % c.procs.length))) (oh hc (l := r) (gi hc hs _))
theorem kC {l : List Nat} (h : zg c s l t) : Reach c s t := ⟨l, h.1, h.2.1⟩
theorem IA (hc : a8 c) : ∀ {l : List Nat} {s : Ns}, iq c s l → ∀ {p : Nat}, p < c.procs.length → cS c s p = true →
  ∃ m, iq c (aF c s (aH p)) m ∧ (f5 c (aF c s (aH p)) m = f5 c s l ∨ (cS c (f5 c s l) p = true ∧ f5 c (aF c s (aH p)) m = aF c (f5 c s l) (aH p)))
 | [], s, _, p, hp, hcan => ⟨[], trivial, .inr ⟨hcan, rfl⟩⟩
 | q :: r, s, ⟨hq, hcq, hr⟩, p, hp, hcan => by
  by_cases hpq : p = q
  ·subst hpq; exact ⟨r, hr, .inl rfl⟩
  ·obtain ⟨m, h1, h2⟩ := IA hc (l := r) (s := aF c s (aH q)) hr hp (pB hc hp hcan (fM hpq))
   have hd := xF hc hp hq hpq hcan hcq
   refine ⟨q :: m, ⟨hq, pB hc hq hcq (fM (Ne.symm hpq)), ?_⟩, ?_⟩
   ·rw [hd]; exact h1
   ·show f5 c (aF c (aF c s (aH p)) (aH q)) m = f5 c (aF c s (aH q)) r ∨ (cS c (f5 c (aF c s (aH q)) r) p = true ∧ f5 c (aF c (aF c s (aH p)) (aH q)) m = aF c (f5 c (aF c s (aH q)) r) (aH p))
    rw [hd]; exact h2
theorem JK (hc : a8 c) (h : Reach c s t) (hp : p < c.procs.length) (hcan : cS c s p = true) : ∃ u, Reach c (aF c s (aH p)) u ∧ Reach c t u := by
 obtain ⟨l, h1, h2⟩ := h
 obtain ⟨m, k1, k2⟩ := IA hc h1 hp hcan
 subst h2
 rcases k2 with k2 | ⟨k2, k3⟩
 ·exact ⟨_, ⟨m, k1, k2⟩, iC c _⟩
 ·exact ⟨_, ⟨m, k1, k3⟩, wD hp k2⟩
theorem cr (hc : a8 c) : ∀ {l : List Nat} {s t : Ns}, iq c s l → Reach c s t → ∃ u, Reach c (f5 c s l) u ∧ Reach c t u
 | [], s, t, _, h => ⟨t, h, iC c t⟩
 | p :: r, s, t, ⟨hp, hcan, hr⟩, h => by
  obtain ⟨u1, a1, a2⟩ := JK hc h hp hcan
  obtain ⟨u2, b1, b2⟩ := cr hc (l := r) hr a1
  exact ⟨u2, b1, dC a2 b2⟩
def pY (c : Ci) (s t : Ns) : Prop := ∃ s0, bG c s0 ∧ Reach c s0 s ∧ Reach c s0 t
theorem uP (hc : a8 c) (h : pY c s t) : ∃ u, Reach c s u ∧ Reach c t u := by
 obtain ⟨s0, _, ⟨l, h1, h2⟩, h3⟩ := h
 subst h2
 exact cr hc h1 h3
theorem uQ (hc : a8 c) (h : pY c s t) (k : Reach c s u) (hu : FJ c u) (k2 : Reach c t v) (hv : FJ c v) : u = v := by
 have stop : ∀ {a b : Ns}, FJ c a → Reach c a b → a = b := by
  rintro a b ha ⟨l, h1, h2⟩
  cases l with
  | nil => exact h2
  | cons p r =>
   have := ha p h1.1
   rw [h1.2.1] at this; cases this
 obtain ⟨s0, h0, h1, h2⟩ := h
 obtain ⟨z, z1, z2⟩ := uP hc ⟨s0, h0, dC h1 k, dC h2 k2⟩
 rw [stop hu z1, stop hv z2]
theorem GI (hc : a8 c) (hd : (cL c n).dst = -1) : cF c s w n = 0 := by
 unfold cF
 rw [if_neg]
 rintro ⟨h1, h2⟩
 by_cases hp : gJ c n < c.procs.length
 ·obtain ⟨j, h3, _, h4⟩ := qL h2
  have := (hc.tk _ hp j h3).2.2.2
  rw [h4, hd] at this; omega
 ·rw [t1 (by omega)] at h2; cases h2
theorem H5 (hc : a8 c) (hs : bG c s) (hd : (cL c n).dst = -1) : ef s n <+: ef (aF c s w) n := by
 by_cases hn : n < c.chans.length
 ·rw [en c s w hn, cy, GI hc hd, List.drop_zero]; exact List.prefix_append _ _
 ·rw [show ef s n = [] from by rw [ef, List.getD, List.getElem?_eq_none (by rw [hs.cl]; omega)]; rfl]
  exact List.nil_prefix
theorem C4 (hc : a8 c) (hd : (cL c n).dst = -1) : ∀ {l : List Nat} {s : Ns}, bG c s → ef s n <+: ef (f5 c s l) n
 | [], s, _ => List.prefix_refl _
 | p :: r, s, hs => (H5 (w := aH p) hc hs hd).trans (C4 hc hd (l := r) (gi hc hs _))
theorem wF (hc : a8 c) (hs : bG c s) (hd : (cL c n).dst = -1) (h : Reach c s t) : ef s n <+: ef t n := by
 obtain ⟨l, _, h2⟩ := h
 subst h2
 exact C4 hc hd hs
theorem wG (hc : a8 c) (h : pY c s t) (hd : (cL c n).dst = -1) : ef s n <+: ef t n ∨ ef t n <+: ef s n := by
 obtain ⟨s0, h0, h1, h2⟩ := h
 obtain ⟨u, u1, u2⟩ := uP hc ⟨s0, h0, h1, h2⟩
 exact List.prefix_or_prefix_of_prefix (wF hc (zL hc h0 h1) hd u1) (wF hc (zL hc h0 h2) hd u2)
abbrev ng (s : Ns) (n : Nat) (l : List Int) : Ns := fg s n (ef s n ++ l)
theorem yh (hs : bG c s) (hn : n < c.chans.length) (m : Nat) : ef (ng s n l) m = if n = m then ef s n ++ l else ef s m := bX (by rw [hs.cl]; exact hn)
theorem H6 (hc : a8 c) (hs : bG c s) (hn : n < c.chans.length) (hf : (cL c n).frm = -1) (hp : p < c.procs.length) (h : cS c s p = true) : ab c (ng s n l) p = ab c s p := by
 unfold ab
 rw [tZ] at h
 refine wg (hc.pr p hp) h (fun j hj hh => ?_) (fun j hj hh => ?_)
 ·rw [ck, bj hj] at hh ⊢
  rw [ck, bj hj]
  unfold bS at hh ⊢
  rw [yh hs hn]
  split
  ·rename_i e
   rw [← e] at hh ⊢
   have h0 : 0 < (ef s n).length := by
    by_cases h0 : 0 < (ef s n).length
    ·exact h0
    ·rw [if_neg h0] at hh; cases hh
   rw [if_pos (by rw [List.length_append]; omega), if_pos h0, lv, if_pos h0]
  ·rfl
 ·rw [cR, bj hj] at hh ⊢
  unfold bU at hh ⊢
  have hq := (hc.pt p hp j hj).2.2.2
  rw [yh hs hn, if_neg (fun e => by rw [← e, hf] at hq; omega)]
  exact hh
theorem JL (hc : a8 c) (hf : (cL c n).frm = -1) (hp : p < c.procs.length) : nO c s p n = [] := by
 unfold nO
 rw [List.map_eq_nil_iff, List.filter_eq_nil_iff]
 rintro e he h
 obtain ⟨j, h1, _, h3, _⟩ := me he
 have := (hc.pt p hp j h1).2.2.2
 rw [h3] at this
 rw [beq_iff_eq] at h
 rw [h, hf] at this; omega
theorem H7 (hc : a8 c) (hs : bG c s) (hn : n < c.chans.length) (hf : (cL c n).frm = -1) (hp : p < c.procs.length) (h : cS c s p = true) :
  cS c (ng s n l) p = true ∧ aF c (ng s n l) (aH p) = ng (aF c s (aH p)) n l := by
 have hst := H6 (l := l) hc hs hn hf hp h
 have hcan : cS c (ng s n l) p = true := by unfold cS; rw [hst]; exact h
 refine ⟨hcan, ?_⟩
 have hps : ∀ q, xy (ng s n l) q = xy s q := fun q => rfl
 have hfp : aC c (ng s n l) (aH p) p = true := by unfold aC; rw [mg, hcan]; rfl
 have gp : aC c s (aH p) p = true := by unfold aC; rw [mg, h]; rfl
 have hfq : ∀ q, q ≠ p → aC c (ng s n l) (aH p) q = false := fun q hq => by unfold aC; rw [fM hq]; rfl
 have gq : ∀ q, q ≠ p → aC c s (aH p) q = false := fun q hq => by unfold aC; rw [fM hq]; rfl
 have e1 : (aF c (ng s n l) (aH p)).procs = (aF c s (aH p)).procs := by
  show tab _ _ = tab _ _
  refine gQ (fun q hq => ?_)
  unfold bD
  by_cases e : q = p
  ·subst e; rw [if_pos hfp, if_pos gp, hst]
  ·rw [hfq q e, gq q e]; rfl
 have hs' := gi hc hs (aH p)
 have e2 : (aF c (ng s n l) (aH p)).chans = (ng (aF c s (aH p)) n l).chans := by
  refine pi (d := []) (by show (tab _ _).length = ((aF c s (aH p)).chans.set n _).length; rw [aJ, List.length_set, hs'.cl]) (fun m hm => ?_)
  have hm' : m < c.chans.length := by rwa [show (aF c (ng s n l) (aH p)).chans.length = c.chans.length from aJ _ _] at hm
  show ef (aF c (ng s n l) (aH p)) m = ef (ng (aF c s (aH p)) n l) m
  rw [en c _ _ hm', yh hs' hn, en c s _ hm', en c s _ hn]
  have hgone : cF c (ng s n l) (aH p) m = cF c s (aH p) m := by
   unfold cF
   by_cases e : gJ c m = p
   ·rw [e, hfp, gp]; unfold eE; rw [hst]
   ·rw [hfq _ e, gq _ e, if_neg (by simp), if_neg (by simp)]
  have hcome : cb c (ng s n l) (aH p) m = cb c s (aH p) m := by
   unfold cb
   by_cases e : eP c m = p
   ·rw [e, if_pos hfp, if_pos gp]; unfold nO; rw [hst]
   ·rw [hfq _ e, gq _ e, if_neg (by simp), if_neg (by simp)]
  unfold cy
  rw [hgone, hcome, yh hs hn]
  by_cases e : n = m
  ·subst e
   rw [if_pos rfl, if_pos rfl]
   have hcn : cb c s (aH p) n = [] := by
    unfold cb
    split
    ·by_cases hq : eP c n < c.procs.length
     ·exact JL hc hf hq
     ·exact ju hq
    ·rfl
   rw [hcn, List.append_nil, List.append_nil, List.drop_append_of_le_length (Cv n)]
  ·rw [if_neg e, if_neg e]
 cases hq : aF c (ng s n l) (aH p)
 rw [hq] at e1 e2
 simp only at e1 e2
 rw [e1, e2]
 rfl
theorem zM (hs : bG c s) (hn : n < c.chans.length) (hw : (cL c n).w = 2) (hv : cE l 2 = true) (hf : (cL c n).frm = -1) : bG c (ng s n l) := H4 hs hn hw hv hf
theorem Bd (hc : a8 c) (hn : n < c.chans.length) (hf : (cL c n).frm = -1) : ∀ {m : List Nat} {s : Ns}, bG c s → iq c s m → iq c (ng s n l) m ∧ f5 c (ng s n l) m = ng (f5 c s m) n l
 | [], s, _, _ => ⟨trivial, rfl⟩
 | p :: r, s, hs, ⟨hp, hcan, hr⟩ => by
  obtain ⟨h1, h2⟩ := H7 (l := l) hc hs hn hf hp hcan
  obtain ⟨k1, k2⟩ := Bd hc hn hf (m := r) (gi hc hs (aH p)) hr
  refine ⟨⟨hp, h1, by rw [h2]; exact k1⟩, ?_⟩
  show f5 c (aF c (ng s n l) (aH p)) r = _
  rw [h2]; exact k2
theorem Be (hc : a8 c) (hn : n < c.chans.length) (hw : (cL c n).w = 2) (hv : cE l 2 = true) (hf : (cL c n).frm = -1) (h : pY c s t) : pY c (ng s n l) (ng t n l) := by
 obtain ⟨s0, h0, ⟨m1, a1, a2⟩, ⟨m2, b1, b2⟩⟩ := h
 subst a2
 subst b2
 obtain ⟨c1, c2⟩ := Bd (l := l) hc hn hf h0 a1
 obtain ⟨d1, d2⟩ := Bd (l := l) hc hn hf h0 b1
 exact ⟨ng s0 n l, zM h0 hn hw hv hf, ⟨m1, c1, c2⟩, ⟨m2, d1, d2⟩⟩
theorem rX (h : pY c s t) (h1 : Reach c s u) (h2 : Reach c t v) : pY c u v := by
 obtain ⟨s0, h0, a, b⟩ := h
 exact ⟨s0, h0, dC a h1, dC b h2⟩
end
def Ee (c : Ci) : Nat → List Nat
 | 0 => []
 | n + 1 => Ee c n ++ (if (cL c n).dst = -1 then [n] else [])
def vj (c : Ci) : List Nat := Ee c c.chans.length
theorem yi (c : Ci) (s : Ns) : ∀ n, qZ c s n = (Ee c n).map (fun m => (⟨(cL c m).name, ef s m⟩ : Sm))
 | 0 => rfl
 | n + 1 => by
  rw [qZ, Ee, List.map_append, yi c s n]
  unfold KD
  split <;> rfl
theorem C5 {c : Ci} {m : Nat} : ∀ {n : Nat}, m ∈ Ee c n → m < n ∧ (cL c m).dst = -1
 | 0, h => by cases h
 | n + 1, h => by
  rw [Ee, List.mem_append] at h
  rcases h with h | h
  ·have := C5 h; exact ⟨by omega, this.2⟩
  ·split at h
   ·rename_i hd; simp only [List.mem_singleton] at h; subst h; exact ⟨by omega, hd⟩
   ·cases h
theorem co (c : Ci) (s : Ns) : (aO c s).length = (vj c).length := by unfold aO vj; rw [yi, List.length_map]
theorem pZ {c : Ci} {s : Ns} {i : Nat} (hi : i < (vj c).length) : (aO c s).getD i b8 = ⟨(cL c ((vj c).getD i 0)).name, ef s ((vj c).getD i 0)⟩ := by
 unfold aO
 rw [yi]
 unfold vj at hi ⊢
 simp [List.getD, List.getElem?_map, List.getElem?_eq_getElem hi]
theorem JM {c : Ci} {i : Nat} (hi : i < (vj c).length) : (vj c).getD i 0 < c.chans.length ∧ (cL c ((vj c).getD i 0)).dst = -1 := by
 rw [gu _ _ hi]; exact C5 (List.getElem_mem hi)
theorem p5 {f g : Nat → Bool} : ∀ {n : Nat}, (∀ z, z < n → f z = g z) → bW f n = bW g n
 | 0, _ => rfl
 | n + 1, h => by
  rw [bW, bW, p5 (fun z hz => h z (by omega)), h n (by omega)]
  have : cB (fun i => !f i) n = cB (fun i => !g i) n := by
   cases h1 : cB (fun i => !g i) n
   ·cases h2 : cB (fun i => !f i) n
    ·rfl
    ·rw [br] at h2
     have h3 : cB (fun i => !g i) n = true := br.2 (fun i hi => by rw [← h i (by omega)]; exact h2 i hi)
     rw [h3] at h1; cases h1
   ·rw [br] at h1
    exact br.2 (fun i hi => by rw [h i (by omega)]; exact h1 i hi)
  rw [this]
theorem Ef {a b : List Sm} (hl : a.length = b.length) (hn : ∀ i, i < a.length → (a.getD i b8).name = (b.getD i b8).name) (nm : ByteArray) : bc b nm = bc a nm := by
 unfold bc
 rw [hl]
 refine p5 (fun z hz => ?_)
 unfold Iw
 rw [hn z (by omega)]
theorem C6 {a b : List Int} (h : a <+: b) {z : Nat} (hz : z < a.length) : a.getD z 0 = b.getD z 0 := by
 obtain ⟨r, rfl⟩ := h
 rw [lv, if_pos hz]
theorem H8 {a b : List Int} (h : a <+: b ∨ b <+: a) : lA a b = -1 := by
 refine dp (fun z hz => ?_)
 unfold ve
 rw [decide_eq_true]
 ·rfl
 ·rcases h with h | h
  ·exact C6 h (by omega)
  ·exact (C6 h (by omega)).symm
theorem JN {a b : List Sm} (hl : a.length = b.length) (hn : ∀ i, i < a.length → (a.getD i b8).name = (b.getD i b8).name) (hw : ∀ i, i < a.length → (a.getD i b8).words <+: (b.getD i b8).words ∨ (b.getD i b8).words <+: (a.getD i b8).words) : dV a b = ⟨e0, 0, true⟩ := by
 refine wq (fun z hz => ?_)
 by_cases h1 : bc a (a.getD z b8).name = (z : Int)
 ·by_cases h2 : bc b (a.getD z b8).name < 0
  ·exact ms h2
  ·refine pI ?_
   rw [Ef hl hn, h1] at h2 ⊢
   show ¬0 ≤ lA (a.getD z b8).words (iw b (z : Int)).words
   rw [zo h2, Int.toNat_natCast, H8 (hw z hz)]
   omega
 ·exact sB h1
theorem Bf {c : Ci} {s t : Ns} (h : ∀ n, n < c.chans.length → (cL c n).dst = -1 → ef s n <+: ef t n ∨ ef t n <+: ef s n) : dV (aO c s) (aO c t) = ⟨e0, 0, true⟩ := by
 refine JN (by rw [co, co]) (fun i hi => ?_) (fun i hi => ?_)
 ·rw [co] at hi; rw [pZ hi, pZ hi]
 ·rw [co] at hi; rw [pZ hi, pZ hi]
  obtain ⟨h1, h2⟩ := JM hi
  exact h _ h1 h2
theorem C7 (c : Ci) (s : Ns) : jC (aO c s) (aO c s) = true :=
 Hz (by rw [Bf (fun n _ _ => .inl (List.prefix_refl _))]) (pJ rfl (fun i _ => Cn (beq_self_eq_true _) rfl))
theorem C8 {c : Ci} {nm : ByteArray} : ∀ {n : Nat}, nm ∈ nY c n → ∃ m, m < n ∧ (cL c m).frm = -1 ∧ (cL c m).name = nm
 | 0, h => by cases h
 | n + 1, h => by
  rw [nY, List.mem_append] at h
  rcases h with h | h
  ·obtain ⟨m, h1, h2⟩ := C8 h; exact ⟨m, by omega, h2⟩
  ·unfold DW at h
   split at h
   ·rename_i hf; simp only [List.mem_singleton] at h; exact ⟨n, by omega, hf, h.symm⟩
   ·cases h
theorem H9 {c : Ci} {nm : ByteArray} (h : nm ∈ ct c) : ∃ j, j < c.chans.length ∧ bi c.chans nm = (j : Int) ∧ (cL c j).frm = -1 := by
 obtain ⟨m, h1, h2, h3⟩ := C8 h
 have hm : r8 c.chans nm m = true := by
  unfold r8
  rw [decide_eq_true (show (c.chans.getD m ba).frm = -1 from h2), show (c.chans.getD m ba).name = nm from h3]
  exact beq_self_eq_true _
 have h0 : 0 ≤ bi c.chans nm := by
  by_cases h0 : 0 ≤ bi c.chans nm
  ·exact h0
  ·have := AU (show bW (r8 c.chans nm) c.chans.length < 0 from by unfold bi at h0; omega) m h1
   rw [hm] at this; cases this
 obtain ⟨j, q1, q2, q3, _⟩ := wp h0
 refine ⟨j, q1, q2, ?_⟩
 unfold r8 at q3
 simp only [Bool.and_eq_true, decide_eq_true_eq] at q3
 exact q3.1
theorem Ia (sh : Int) (b : List Int) : (cL (aa sh b) 0).frm = -1 := by
 have e : cL (aa sh b) 0 = sM sh (aj sh) 0 := bj (by have := C0 sh b; have e : (aa sh b).chans.length = jJ sh := aJ _ _; omega)
 rw [e]
 show x8 (aj sh) ((0 : Nat) : Int) (aj sh).length = -1
 rcases iA sh with h | h | h | h | h | h <;> rw [h] <;> decide
theorem zN {c : Ci} (h0 : (cL c 0).frm = -1) : ∀ {n : Nat}, 1 ≤ n → 1 ≤ (nY c n).length
 | 0, h => by omega
 | n + 1, _ => by
  rw [nY, List.length_append]
  by_cases e : n = 0
  ·subst e; rw [DW, if_pos h0]; simp
  ·have := zN h0 (n := n) (by omega); omega
theorem GJ (sh : Int) (b : List Int) : 1 ≤ (ct (aa sh b)).length := zN (Ia sh b) (C0 sh b)
theorem zO {x : Int} (h0 : 0 ≤ x) (h3 : x ≤ 3) : cE [x] 2 = true := tY.2 (fun i hi => by
 have : i = 0 := by simp at hi; exact hi
 subst this
 show dz x 2
 unfold dz
 rw [ci (by omega) (by omega)]
 exact ⟨h0, by show x ≤ 2 ^ 2 - 1; omega⟩)
theorem GK {sh : Int} {b : List Int} {s t : Ns} {nm : ByteArray} {x : Int} (h : nm ∈ ct (aa sh b)) (h0 : 0 ≤ x) (h3 : x ≤ 3) :
  ∃ j, j < (aa sh b).chans.length ∧ (cL (aa sh b) j).frm = -1 ∧ aB (aa sh b) (aa sh b) s t nm [x] = (ng s j [x], ng t j [x], 0) := by
 obtain ⟨j, h1, h2, h4⟩ := H9 h
 have hw := rg sh b h1
 have hf : ∀ u : Ns, aW (aa sh b) u (bi (aa sh b).chans nm) [x] = (ng u j [x], 0) := fun u => by
  rw [h2, DZ (Ge (by omega) (by omega) h4) (by rw [Int.toNat_natCast, hw]; exact zO h0 h3), Int.toNat_natCast]
 refine ⟨j, h1, h4, ?_⟩
 rw [fB (by rw [h2]; omega) (by show (aW _ _ (bi (aa sh b).chans nm) _).2 = 0; rw [hf]) (by show (aW _ _ (bi (aa sh b).chans nm) _).2 = 0; rw [hf])]
 show ((aW _ s (bi (aa sh b).chans nm) _).1, (aW _ t (bi (aa sh b).chans nm) _).1, (0 : Int)) = _
 rw [hf, hf]
def kD (c : Ci) (k : Int) : Nat := (k % ((ct c).length : Int)).toNat
theorem JO {c : Ci} (h1 : 1 ≤ (ct c).length) {k : Int} (hk : 0 ≤ k) : Int.tmod k ((ct c).length : Int) = (kD c k : Int) := by
 rw [Int.tmod_eq_emod_of_nonneg hk]
 unfold kD
 have := Int.emod_nonneg k (show ((ct c).length : Int) ≠ 0 by omega)
 omega
theorem GL {c : Ci} (h1 : 1 ≤ (ct c).length) {k : Int} (hk : 0 ≤ k) : kD c k < (ct c).length := by
 unfold kD
 have := Int.emod_nonneg k (show ((ct c).length : Int) ≠ 0 by omega)
 have := Int.emod_lt_of_pos k (show (0 : Int) < (ct c).length by omega)
 omega
theorem JP {c : Ci} (h1 : 1 ≤ (ct c).length) {k : Int} (hk : 0 ≤ k) : (ct c).getD (kD c k) e0 ∈ ct c := by
 rw [gu _ _ (GL h1 hk)]; exact List.getElem_mem _
theorem lP {c : Ci} {s : Ns} (hm : ir s 4294967296) (i : Nat) : ((aO c s).getD i b8).words.length ≤ 9223372036854775807 := by
 by_cases hi : i < (vj c).length
 ·rw [pZ hi]; exact Nat.le_trans (hm _) (by decide)
 ·rw [List.getD, List.getElem?_eq_none (by rw [co]; omega)]; simp
theorem eG {c : Ci} {s : Ns} (hc : a8 c) : (aO c s).length ≤ 9223372036854775807 := by
 have := Hw (c := c) (s := s)
 have := hc.cl
 omega
theorem zP {c : Ci} (hc : a8 c) {bb l : List Int} (hb : ik bb) : pY c (pS c bb l) (pT c bb l) := by
 have h := (rc hc hb).1
 exact ⟨_, h, oh hc h, oh hc h⟩
theorem C9 {s : Ns} {k n : Nat} {l : List Int} (h : ir s k) (hl : l.length ≤ 1) : ir (ng s n l) (k + 1) := by
 refine CV (fun m => Nat.le_trans (h m) (by omega)) ?_
 have : (ef s n).length ≤ k := h n
 rw [List.length_append]; omega
theorem mL {a b : List Sm} (h : dV a b = ⟨e0, 0, true⟩) : ((dV a b).name.toList == e0.toList && ((dV a b).pos == 0 && (dV a b).is == true)) = true := by
 rw [h]
 show (e0.toList == e0.toList && _) = true
 rw [beq_self_eq_true]; rfl
end Go.Proofs.YtgmpoenfoacofaaGreat
