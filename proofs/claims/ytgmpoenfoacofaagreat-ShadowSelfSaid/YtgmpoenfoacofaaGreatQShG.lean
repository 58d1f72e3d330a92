/-
  The laws of shadows, plain data: circuits that have fired in different orders have streams that agree.
-/
import Derived.Test.YtgmpoenfoacofaaGreatQShF
import Derived.Test.YtgmpoenfoacofaaGreatQNeZ
namespace Go.Proofs.YtgmpoenfoacofaaGreat
open Go.RowKit
set_option linter.unusedVariables false
set_option linter.unusedSimpArgs false
section
variable {c : Ci} {s t u v : Ns} {w : Nat → Bool} {p n : Nat} {l : List Int}
def cR (c : Ci) (s t : Ns) : Prop := ∃ l, ib c s l ∧ fP c s l = t
theorem B7 : ∀ {l m : List Nat} {s : Ns}, fP c s (l ++ m) = fP c (fP c s l) m
 | [], _, _ => rfl
 | p :: r, m, s => B7 (l := r) (s := aG c s (aH p))
theorem B8 : ∀ {l m : List Nat} {s : Ns}, ib c s l → ib c (fP c s l) m → ib c s (l ++ m)
 | [], _, _, _, h => h
 | p :: r, m, s, h1, h2 => ⟨h1.1, h1.2.1, B8 (l := r) h1.2.2 h2⟩
theorem ip (c : Ci) (s : Ns) : cR c s s := ⟨[], trivial, rfl⟩
theorem du (h : cR c s t) (k : cR c t u) : cR c s u := by
 obtain ⟨l, h1, h2⟩ := h
 obtain ⟨m, k1, k2⟩ := k
 subst h2
 exact ⟨l ++ m, B8 h1 k1, by rw [B7, k2]⟩
theorem vI (hp : p < c.procs.length) (h : cT c s p = true) : cR c s (aG c s (aH p)) := ⟨[p], ⟨hp, h, trivial⟩, rfl⟩
theorem yR (hc : a6 c) (hs : bH c s) (h : cR c s t) : bH c t := by
 obtain ⟨l, _, h2⟩ := h
 exact h2 ▸ Aj hc hs
theorem tX (hc : a6 c) (hs : bH c s) : ∀ {P : Nat}, P ≤ c.procs.length → cR c s (aG c s (jM w P))
 | 0, _ => by
  rw [yk hs (fun p hp => by unfold aC jM; simp)]; exact ip c s
 | P + 1, hP => by
  have ih := tX hc hs (P := P) (by omega)
  by_cases hf : aC c s w P = true
  ·obtain ⟨hw, hcan⟩ := jb hf
   have hu : jM w P P = false := by unfold jM; simp
   have h1 := vI (c := c) (s := aG c s (jM w P)) (p := P) (by omega) (oZ hc (by omega) hcan hu)
   rw [wM hc (by omega) hcan hu] at h1
   have h2 := du ih h1
   rw [qn (w' := fun q => jM w P q || aH P q)]
   ·exact h2
   ·intro q
    unfold aC jM aH
    by_cases e : q = P
    ·subst e; simp [hw]
    ·have : decide (q < P + 1) = decide (q < P) := by simp only [decide_eq_decide]; omega
     rw [this]; simp [e]
  ·rw [qn (w' := jM w P)]
   ·exact ih
   ·intro q
    by_cases e : q = P
    ·subst e
     have h1 : aC c s (jM w (q + 1)) q = false := by
      unfold aC jM
      unfold aC at hf
      simp only [Bool.and_eq_true, not_and, Bool.not_eq_true] at hf
      cases hw : w q
      ·simp
      ·simp [hf hw]
     rw [h1]; unfold aC jM; simp
    ·unfold aC jM
     have : decide (q < P + 1) = decide (q < P) := by simp only [decide_eq_decide]; omega
     rw [this]
theorem vJ (hc : a6 c) (hs : bH c s) (w : Nat → Bool) : cR c s (aG c s w) := by
 rw [GJ hs]; exact tX hc hs (Nat.le_refl _)
theorem js (hc : a6 c) : ∀ {l : List ByteArray} {s : Ns}, bH c s → cR c s (au c s l)
 | [], s, _ => ip c s
 | a :: r, s, hs => du (vJ hc hs (cF c a)) (js hc (l := r) (f5 hc hs _))
theorem nC (hc : a6 c) : ∀ {l : List Int} {s : Ns}, bH c s → cR c s (cQ c s l)
 | [], s, _ => ip c s
 | a :: r, s, hs => du (vJ hc hs (qv (a % c.procs.length))) (nC hc (l := r) (f5 hc hs _))
theorem j9 {l : List Nat} (h : yl c s l t) : cR c s t := ⟨l, h.1, h.2.1⟩
theorem HN (hc : a6 c) : ∀ {l : List Nat} {s : Ns}, ib c s l → ∀ {p : Nat}, p < c.procs.length → cT c s p = true →
  ∃ m, ib c (aG c s (aH p)) m ∧ (fP c (aG c s (aH p)) m = fP c s l ∨ (cT c (fP c s l) p = true ∧ fP c (aG c s (aH p)) m = aG c (fP c s l) (aH p)))
 | [], s, _, p, hp, hcan => ⟨[], trivial, .inr ⟨hcan, rfl⟩⟩
 | q :: r, s, ⟨hq, hcq, hr⟩, p, hp, hcan => by
  by_cases hpq : p = q
  ·subst hpq; exact ⟨r, hr, .inl rfl⟩
  ·obtain ⟨m, h1, h2⟩ := HN hc (l := r) (s := aG c s (aH q)) hr hp (oZ hc hp hcan (fD hpq))
   have hd := wN hc hp hq hpq hcan hcq
   refine ⟨q :: m, ⟨hq, oZ hc hq hcq (fD (Ne.symm hpq)), ?_⟩, ?_⟩
   ·rw [hd]; exact h1
   ·show fP c (aG c (aG c s (aH p)) (aH q)) m = fP c (aG c s (aH q)) r ∨ (cT c (fP c (aG c s (aH q)) r) p = true ∧ fP c (aG c (aG c s (aH p)) (aH q)) m = aG c (fP c (aG c s (aH q)) r) (aH p))
    rw [hd]; exact h2
theorem IZ (hc : a6 c) (h : cR c s t) (hp : p < c.procs.length) (hcan : cT c s p = true) : ∃ u, cR c (aG c s (aH p)) u ∧ cR c t u := by
 obtain ⟨l, h1, h2⟩ := h
 obtain ⟨m, k1, k2⟩ := HN hc h1 hp hcan
 subst h2
 rcases k2 with k2 | ⟨k2, k3⟩
 ·exact ⟨_, ⟨m, k1, k2⟩, ip c _⟩
 ·exact ⟨_, ⟨m, k1, k3⟩, vI hp k2⟩
theorem cr (hc : a6 c) : ∀ {l : List Nat} {s t : Ns}, ib c s l → cR c s t → ∃ u, cR c (fP c s l) u ∧ cR c t u
 | [], s, t, _, h => ⟨t, h, ip c t⟩
 | p :: r, s, t, ⟨hp, hcan, hr⟩, h => by
  obtain ⟨u1, a1, a2⟩ := IZ hc h hp hcan
  obtain ⟨u2, b1, b2⟩ := cr hc (l := r) hr a1
  exact ⟨u2, b1, du a2 b2⟩
def pA (c : Ci) (s t : Ns) : Prop := ∃ s0, bH c s0 ∧ cR c s0 s ∧ cR c s0 t
theorem tY (hc : a6 c) (h : pA c s t) : ∃ u, cR c s u ∧ cR c t u := by
 obtain ⟨s0, _, ⟨l, h1, h2⟩, h3⟩ := h
 subst h2
 exact cr hc h1 h3
theorem tZ (hc : a6 c) (h : pA c s t) (k : cR c s u) (hu : EY c u) (k2 : cR c t v) (hv : EY c v) : u = v := by
 have stop : ∀ {a b : Ns}, EY c a → cR c a b → a = b := by
  rintro a b ha ⟨l, h1, h2⟩
  cases l with
  | nil => exact h2
  | cons p r =>
   have := ha p h1.1
   rw [h1.2.1] at this; cases this
 obtain ⟨s0, h0, h1, h2⟩ := h
 obtain ⟨z, z1, z2⟩ := tY hc ⟨s0, h0, du h1 k, du h2 k2⟩
 rw [stop hu z1, stop hv z2]
theorem F0 (hc : a6 c) (hd : (cL c n).dst = -1) : cE c s w n = 0 := by
 unfold cE
 rw [if_neg]
 rintro ⟨h1, h2⟩
 by_cases hp : gA c n < c.procs.length
 ·obtain ⟨j, h3, _, h4⟩ := qk h2
  have := (hc.tk _ hp j h3).2.2.2
  rw [h4, hd] at this; omega
 ·rw [tg (by omega)] at h2; cases h2
theorem Hm (hc : a6 c) (hs : bH c s) (hd : (cL c n).dst = -1) : d7 s n <+: d7 (aG c s w) n := by
 by_cases hn : n < c.chans.length
 ·rw [d9 c s w hn, cx, F0 hc hd, List.drop_zero]; exact List.prefix_append _ _
 ·rw [show d7 s n = [] from by rw [d7, List.getD, List.getElem?_eq_none (by rw [hs.cl]; omega)]; rfl]
  exact List.nil_prefix
theorem B9 (hc : a6 c) (hd : (cL c n).dst = -1) : ∀ {l : List Nat} {s : Ns}, bH c s → d7 s n <+: d7 (fP c s l) n
 | [], s, _ => List.prefix_refl _
 | p :: r, s, hs => (Hm (w := aH p) hc hs hd).trans (B9 hc hd (l := r) (f5 hc hs _))
theorem vK (hc : a6 c) (hs : bH c s) (hd : (cL c n).dst = -1) (h : cR c s t) : d7 s n <+: d7 t n := by
 obtain ⟨l, _, h2⟩ := h
 subst h2
 exact B9 hc hd hs
theorem vL (hc : a6 c) (h : pA c s t) (hd : (cL c n).dst = -1) : d7 s n <+: d7 t n ∨ d7 t n <+: d7 s n := by
 obtain ⟨s0, h0, h1, h2⟩ := h
 obtain ⟨u, u1, u2⟩ := tY hc ⟨s0, h0, h1, h2⟩
 exact List.prefix_or_prefix_of_prefix (vK hc (yR hc h0 h1) hd u1) (vK hc (yR hc h0 h2) hd u2)
abbrev mK (s : Ns) (n : Nat) (l : List Int) : Ns := fa s n (d7 s n ++ l)
theorem xo (hs : bH c s) (hn : n < c.chans.length) (m : Nat) : d7 (mK s n l) m = if n = m then d7 s n ++ l else d7 s m := bZ (by rw [hs.cl]; exact hn)
theorem Hn (hc : a6 c) (hs : bH c s) (hn : n < c.chans.length) (hf : (cL c n).frm = -1) (hp : p < c.procs.length) (h : cT c s p = true) : ab c (mK s n l) p = ab c s p := by
 unfold ab
 rw [te] at h
 refine vn (hc.pr p hp) h (fun j hj hh => ?_) (fun j hj hh => ?_)
 ·rw [ci, bh hj] at hh ⊢
  rw [ci, bh hj]
  unfold bS at hh ⊢
  rw [xo hs hn]
  split
  ·rename_i e
   rw [← e] at hh ⊢
   have h0 : 0 < (d7 s n).length := by
    by_cases h0 : 0 < (d7 s n).length
    ·exact h0
    ·rw [if_neg h0] at hh; cases hh
   rw [if_pos (by rw [List.length_append]; omega), if_pos h0, kV, if_pos h0]
  ·rfl
 ·rw [cS, bh hj] at hh ⊢
  unfold bU at hh ⊢
  have hq := (hc.pt p hp j hj).2.2.2
  rw [xo hs hn, if_neg (fun e => by rw [← e, hf] at hq; omega)]
  exact hh
theorem I0 (hc : a6 c) (hf : (cL c n).frm = -1) (hp : p < c.procs.length) : ni c s p n = [] := by
 unfold ni
 rw [List.map_eq_nil_iff, List.filter_eq_nil_iff]
 rintro e he h
 obtain ⟨j, h1, _, h3, _⟩ := lP he
 have := (hc.pt p hp j h1).2.2.2
 rw [h3] at this
 rw [beq_iff_eq] at h
 rw [h, hf] at this; omega
theorem Ho (hc : a6 c) (hs : bH c s) (hn : n < c.chans.length) (hf : (cL c n).frm = -1) (hp : p < c.procs.length) (h : cT c s p = true) :
  cT c (mK s n l) p = true ∧ aG c (mK s n l) (aH p) = mK (aG c s (aH p)) n l := by
 have hst := Hn (l := l) hc hs hn hf hp h
 have hcan : cT c (mK s n l) p = true := by unfold cT; rw [hst]; exact h
 refine ⟨hcan, ?_⟩
 have hps : ∀ q, wG (mK s n l) q = wG s q := fun q => rfl
 have hfp : aC c (mK s n l) (aH p) p = true := by unfold aC; rw [lR, hcan]; rfl
 have gp : aC c s (aH p) p = true := by unfold aC; rw [lR, h]; rfl
 have hfq : ∀ q, q ≠ p → aC c (mK s n l) (aH p) q = false := fun q hq => by unfold aC; rw [fD hq]; rfl
 have gq : ∀ q, q ≠ p → aC c s (aH p) q = false := fun q hq => by unfold aC; rw [fD hq]; rfl
 have e1 : (aG c (mK s n l) (aH p)).procs = (aG c s (aH p)).procs := by
  show ao _ _ = ao _ _
  refine gH (fun q hq => ?_)
  unfold bE
  by_cases e : q = p
  ·subst e; rw [if_pos hfp, if_pos gp, hst]
  ·rw [hfq q e, gq q e]; rfl
 have hs' := f5 hc hs (aH p)
 have e2 : (aG c (mK s n l) (aH p)).chans = (mK (aG c s (aH p)) n l).chans := by
  refine oL (d := []) (by show (ao _ _).length = ((aG c s (aH p)).chans.set n _).length; rw [aJ, List.length_set, hs'.cl]) (fun m hm => ?_)
  have hm' : m < c.chans.length := by rwa [show (aG c (mK s n l) (aH p)).chans.length = c.chans.length from aJ _ _] at hm
  show d7 (aG c (mK s n l) (aH p)) m = d7 (mK (aG c s (aH p)) n l) m
  rw [d9 c _ _ hm', xo hs' hn, d9 c s _ hm', d9 c s _ hn]
  have hgone : cE c (mK s n l) (aH p) m = cE c s (aH p) m := by
   unfold cE
   by_cases e : gA c m = p
   ·rw [e, hfp, gp]; unfold ez; rw [hst]
   ·rw [hfq _ e, gq _ e, if_neg (by simp), if_neg (by simp)]
  have hcome : ca c (mK s n l) (aH p) m = ca c s (aH p) m := by
   unfold ca
   by_cases e : eJ c m = p
   ·rw [e, if_pos hfp, if_pos gp]; unfold ni; rw [hst]
   ·rw [hfq _ e, gq _ e, if_neg (by simp), if_neg (by simp)]
  unfold cx
  rw [hgone, hcome, xo hs hn]
  by_cases e : n = m
  ·subst e
   rw [if_pos rfl, if_pos rfl]
   have hcn : ca c s (aH p) n = [] := by
    unfold ca
    split
    ·by_cases hq : eJ c n < c.procs.length
     ·exact I0 hc hf hq
     ·exact ja hq
    ·rfl
   rw [hcn, List.append_nil, List.append_nil, List.drop_append_of_le_length (BG n)]
  ·rw [if_neg e, if_neg e]
 cases hq : aG c (mK s n l) (aH p)
 rw [hq] at e1 e2
 simp only at e1 e2
 rw [e1, e2]
 rfl
theorem yS (hs : bH c s) (hn : n < c.chans.length) (hw : (cL c n).w = 2) (hv : cD l 2 = true) (hf : (cL c n).frm = -1) : bH c (mK s n l) := Hl hs hn hw hv hf
theorem Ak (hc : a6 c) (hn : n < c.chans.length) (hf : (cL c n).frm = -1) : ∀ {m : List Nat} {s : Ns}, bH c s → ib c s m → ib c (mK s n l) m ∧ fP c (mK s n l) m = mK (fP c s m) n l
 | [], s, _, _ => ⟨trivial, rfl⟩
 | p :: r, s, hs, ⟨hp, hcan, hr⟩ => by
  obtain ⟨h1, h2⟩ := Ho (l := l) hc hs hn hf hp hcan
  obtain ⟨k1, k2⟩ := Ak hc hn hf (m := r) (f5 hc hs (aH p)) hr
  refine ⟨⟨hp, h1, by rw [h2]; exact k1⟩, ?_⟩
  show fP c (aG c (mK s n l) (aH p)) r = _
  rw [h2]; exact k2
theorem Al (hc : a6 c) (hn : n < c.chans.length) (hw : (cL c n).w = 2) (hv : cD l 2 = true) (hf : (cL c n).frm = -1) (h : pA c s t) : pA c (mK s n l) (mK t n l) := by
 obtain ⟨s0, h0, ⟨m1, a1, a2⟩, ⟨m2, b1, b2⟩⟩ := h
 subst a2
 subst b2
 obtain ⟨c1, c2⟩ := Ak (l := l) hc hn hf h0 a1
 obtain ⟨d1, d2⟩ := Ak (l := l) hc hn hf h0 b1
 exact ⟨mK s0 n l, yS h0 hn hw hv hf, ⟨m1, c1, c2⟩, ⟨m2, d1, d2⟩⟩
theorem rp (h : pA c s t) (h1 : cR c s u) (h2 : cR c t v) : pA c u v := by
 obtain ⟨s0, h0, a, b⟩ := h
 exact ⟨s0, h0, du a h1, du b h2⟩
end
def Dt (c : Ci) : Nat → List Nat
 | 0 => []
 | n + 1 => Dt c n ++ (if (cL c n).dst = -1 then [n] else [])
def ut (c : Ci) : List Nat := Dt c c.chans.length
theorem xp (c : Ci) (s : Ns) : ∀ n, qA c s n = (Dt c n).map (fun m => (⟨(cL c m).name, d7 s m⟩ : Sm))
 | 0 => rfl
 | n + 1 => by
  rw [qA, Dt, List.map_append, xp c s n]
  unfold JU
  split <;> rfl
theorem Ca {c : Ci} {m : Nat} : ∀ {n : Nat}, m ∈ Dt c n → m < n ∧ (cL c m).dst = -1
 | 0, h => by cases h
 | n + 1, h => by
  rw [Dt, List.mem_append] at h
  rcases h with h | h
  ·have := Ca h; exact ⟨by omega, this.2⟩
  ·split at h
   ·rename_i hd; simp only [List.mem_singleton] at h; subst h; exact ⟨by omega, hd⟩
   ·cases h
theorem cj (c : Ci) (s : Ns) : (aM c s).length = (ut c).length := by unfold aM ut; rw [xp, List.length_map]
theorem pB {c : Ci} {s : Ns} {i : Nat} (hi : i < (ut c).length) : (aM c s).getD i b7 = ⟨(cL c ((ut c).getD i 0)).name, d7 s ((ut c).getD i 0)⟩ := by
 unfold aM
 rw [xp]
 unfold ut at hi ⊢
 simp [List.getD, List.getElem?_map, List.getElem?_eq_getElem hi]
theorem I1 {c : Ci} {i : Nat} (hi : i < (ut c).length) : (ut c).getD i 0 < c.chans.length ∧ (cL c ((ut c).getD i 0)).dst = -1 := by
 rw [gf _ _ hi]; exact Ca (List.getElem_mem hi)
theorem pC {f g : Nat → Bool} : ∀ {n : Nat}, (∀ z, z < n → f z = g z) → bX f n = bX g n
 | 0, _ => rfl
 | n + 1, h => by
  rw [bX, bX, pC (fun z hz => h z (by omega)), h n (by omega)]
  have : cz (fun i => !f i) n = cz (fun i => !g i) n := by
   cases h1 : cz (fun i => !g i) n
   ·cases h2 : cz (fun i => !f i) n
    ·rfl
    ·rw [bu] at h2
     have h3 : cz (fun i => !g i) n = true := bu.2 (fun i hi => by rw [← h i (by omega)]; exact h2 i hi)
     rw [h3] at h1; cases h1
   ·rw [bu] at h1
    exact bu.2 (fun i hi => by rw [h i (by omega)]; exact h1 i hi)
  rw [this]
theorem Du {a b : List Sm} (hl : a.length = b.length) (hn : ∀ i, i < a.length → (a.getD i b7).name = (b.getD i b7).name) (nm : ByteArray) : ba b nm = ba a nm := by
 unfold ba
 rw [hl]
 refine pC (fun z hz => ?_)
 unfold HJ
 rw [hn z (by omega)]
theorem Cb {a b : List Int} (h : a <+: b) {z : Nat} (hz : z < a.length) : a.getD z 0 = b.getD z 0 := by
 obtain ⟨r, rfl⟩ := h
 rw [kV, if_pos hz]
theorem Hp {a b : List Int} (h : a <+: b ∨ b <+: a) : k9 a b = -1 := by
 refine dk (fun z hz => ?_)
 unfold un
 rw [decide_eq_true]
 ·rfl
 ·rcases h with h | h
  ·exact Cb h (by omega)
  ·exact (Cb h (by omega)).symm
theorem I2 {a b : List Sm} (hl : a.length = b.length) (hn : ∀ i, i < a.length → (a.getD i b7).name = (b.getD i b7).name) (hw : ∀ i, i < a.length → (a.getD i b7).words <+: (b.getD i b7).words ∨ (b.getD i b7).words <+: (a.getD i b7).words) : dP a b = ⟨e0, 0, true⟩ := by
 refine vz (fun z hz => ?_)
 by_cases h1 : ba a (a.getD z b7).name = (z : Int)
 ·by_cases h2 : ba b (a.getD z b7).name < 0
  ·exact lZ h2
  ·refine pc ?_
   rw [Du hl hn, h1] at h2 ⊢
   show ¬0 ≤ k9 (a.getD z b7).words (ij b (z : Int)).words
   rw [yv h2, Int.toNat_natCast, Hp (hw z hz)]
   omega
 ·exact rQ h1
theorem Am {c : Ci} {s t : Ns} (h : ∀ n, n < c.chans.length → (cL c n).dst = -1 → d7 s n <+: d7 t n ∨ d7 t n <+: d7 s n) : dP (aM c s) (aM c t) = ⟨e0, 0, true⟩ := by
 refine I2 (by rw [cj, cj]) (fun i hi => ?_) (fun i hi => ?_)
 ·rw [cj] at hi; rw [pB hi, pB hi]
 ·rw [cj] at hi; rw [pB hi, pB hi]
  obtain ⟨h1, h2⟩ := I1 hi
  exact h _ h1 h2
theorem Cc (c : Ci) (s : Ns) : ji (aM c s) (aM c s) = true :=
 GS (by rw [Am (fun n _ _ => .inl (List.prefix_refl _))]) (pg rfl (fun i _ => Bz (beq_self_eq_true _) rfl))
theorem Cd {c : Ci} {nm : ByteArray} : ∀ {n : Nat}, nm ∈ ns c n → ∃ m, m < n ∧ (cL c m).frm = -1 ∧ (cL c m).name = nm
 | 0, h => by cases h
 | n + 1, h => by
  rw [ns, List.mem_append] at h
  rcases h with h | h
  ·obtain ⟨m, h1, h2⟩ := Cd h; exact ⟨m, by omega, h2⟩
  ·unfold Da at h
   split at h
   ·rename_i hf; simp only [List.mem_singleton] at h; exact ⟨n, by omega, hf, h.symm⟩
   ·cases h
theorem Hq {c : Ci} {nm : ByteArray} (h : nm ∈ ck c) : ∃ j, j < c.chans.length ∧ bg c.chans nm = (j : Int) ∧ (cL c j).frm = -1 := by
 obtain ⟨m, h1, h2, h3⟩ := Cd h
 have hm : ru c.chans nm m = true := by
  unfold ru
  rw [decide_eq_true (show (c.chans.getD m a8).frm = -1 from h2), show (c.chans.getD m a8).name = nm from h3]
  exact beq_self_eq_true _
 have h0 : 0 ≤ bg c.chans nm := by
  by_cases h0 : 0 ≤ bg c.chans nm
  ·exact h0
  ·have := zZ (show bX (ru c.chans nm) c.chans.length < 0 from by unfold bg at h0; omega) m h1
   rw [hm] at this; cases this
 obtain ⟨j, q1, q2, q3, _⟩ := vy h0
 refine ⟨j, q1, q2, ?_⟩
 unfold ru at q3
 simp only [Bool.and_eq_true, decide_eq_true_eq] at q3
 exact q3.1
theorem Hr (sh : Int) (b : List Int) : (cL (aa sh b) 0).frm = -1 := by
 have e : cL (aa sh b) 0 = r7 sh (aj sh) 0 := bh (by have := B6 sh b; have e : (aa sh b).chans.length = jp sh := aJ _ _; omega)
 rw [e]
 show xh (aj sh) ((0 : Nat) : Int) (aj sh).length = -1
 rcases im sh with h | h | h | h | h | h <;> rw [h] <;> decide
theorem yT {c : Ci} (h0 : (cL c 0).frm = -1) : ∀ {n : Nat}, 1 ≤ n → 1 ≤ (ns c n).length
 | 0, h => by omega
 | n + 1, _ => by
  rw [ns, List.length_append]
  by_cases e : n = 0
  ·subst e; rw [Da, if_pos h0]; simp
  ·have := yT h0 (n := n) (by omega); omega
theorem F1 (sh : Int) (b : List Int) : 1 ≤ (ck (aa sh b)).length := yT (Hr sh b) (B6 sh b)
theorem yU {x : Int} (h0 : 0 ≤ x) (h3 : x ≤ 3) : cD [x] 2 = true := tc.2 (fun i hi => by
 have : i = 0 := by simp at hi; exact hi
 subst this
 show dq x 2
 unfold dq
 rw [cf (by omega) (by omega)]
 exact ⟨h0, by show x ≤ 2 ^ 2 - 1; omega⟩)
theorem F2 {sh : Int} {b : List Int} {s t : Ns} {nm : ByteArray} {x : Int} (h : nm ∈ ck (aa sh b)) (h0 : 0 ≤ x) (h3 : x ≤ 3) :
  ∃ j, j < (aa sh b).chans.length ∧ (cL (aa sh b) j).frm = -1 ∧ az (aa sh b) (aa sh b) s t nm [x] = (mK s j [x], mK t j [x], 0) := by
 obtain ⟨j, h1, h2, h4⟩ := Hq h
 have hw := qF sh b h1
 have hf : ∀ u : Ns, aW (aa sh b) u (bg (aa sh b).chans nm) [x] = (mK u j [x], 0) := fun u => by
  rw [h2, Dd (Fx (by omega) (by omega) h4) (by rw [Int.toNat_natCast, hw]; exact yU h0 h3), Int.toNat_natCast]
 refine ⟨j, h1, h4, ?_⟩
 rw [fq (by rw [h2]; omega) (by show (aW _ _ (bg (aa sh b).chans nm) _).2 = 0; rw [hf]) (by show (aW _ _ (bg (aa sh b).chans nm) _).2 = 0; rw [hf])]
 show ((aW _ s (bg (aa sh b).chans nm) _).1, (aW _ t (bg (aa sh b).chans nm) _).1, (0 : Int)) = _
 rw [hf, hf]
def kd (c : Ci) (k : Int) : Nat := (k % ((ck c).length : Int)).toNat
theorem I3 {c : Ci} (h1 : 1 ≤ (ck c).length) {k : Int} (hk : 0 ≤ k) : Int.tmod k ((ck c).length : Int) = (kd c k : Int) := by
 rw [Int.tmod_eq_emod_of_nonneg hk]
 unfold kd
 have := Int.emod_nonneg k (show ((ck c).length : Int) ≠ 0 by omega)
 omega
theorem F3 {c : Ci} (h1 : 1 ≤ (ck c).length) {k : Int} (hk : 0 ≤ k) : kd c k < (ck c).length := by
 unfold kd
 have := Int.emod_nonneg k (show ((ck c).length : Int) ≠ 0 by omega)
 have := Int.emod_lt_of_pos k (show (0 : Int) < (ck c).length by omega)
 omega
theorem I4 {c : Ci} (h1 : 1 ≤ (ck c).length) {k : Int} (hk : 0 ≤ k) : (ck c).getD (kd c k) e0 ∈ ck c := by
 rw [gf _ _ (F3 h1 hk)]; exact List.getElem_mem _
theorem lu {c : Ci} {s : Ns} (hm : ic s 4294967296) (i : Nat) : ((aM c s).getD i b7).words.length ≤ 9223372036854775807 := by
 by_cases hi : i < (ut c).length
 ·rw [pB hi]; exact Nat.le_trans (hm _) (by decide)
 ·rw [List.getD, List.getElem?_eq_none (by rw [cj]; omega)]; simp
theorem eC {c : Ci} {s : Ns} (hc : a6 c) : (aM c s).length ≤ 9223372036854775807 := by
 have := GP (c := c) (s := s)
 have := hc.cl
 omega
theorem yV {c : Ci} (hc : a6 c) {bb l : List Int} (hb : hJ bb) : pA c (pS c bb l) (pT c bb l) := by
 have h := (qD hc hb).1
 exact ⟨_, h, nC hc h, nC hc h⟩
theorem Ce {s : Ns} {k n : Nat} {l : List Int} (h : ic s k) (hl : l.length ≤ 1) : ic (mK s n l) (k + 1) := by
 refine B1 (fun m => Nat.le_trans (h m) (by omega)) ?_
 have : (d7 s n).length ≤ k := h n
 rw [List.length_append]; omega
theorem mj {a b : List Sm} (h : dP a b = ⟨e0, 0, true⟩) : ((dP a b).name.toList == e0.toList && ((dP a b).pos == 0 && (dP a b).is == true)) = true := by
 rw [h]
 show (e0.toList == e0.toList && _) = true
 rw [beq_self_eq_true]; rfl
end Go.Proofs.YtgmpoenfoacofaaGreat
