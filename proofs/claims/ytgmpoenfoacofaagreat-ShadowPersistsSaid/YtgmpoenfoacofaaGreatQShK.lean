/-
  The laws of shadows, plain data: a first difference stays.
-/
import Derived.Test.YtgmpoenfoacofaaGreatQShG
namespace Go.Proofs.YtgmpoenfoacofaaGreat
open Go.RowKit
set_option linter.unusedVariables false
set_option linter.unusedSimpArgs false
theorem KV {a b : List Int} (h : 0 ≤ fm a b) : ∃ d : Nat, fm a b = (d : Int) ∧ d < a.length ∧ d < b.length ∧ a.getD d 0 ≠ b.getD d 0 ∧ ∀ z, z < d → a.getD z 0 = b.getD z 0 := by
 obtain ⟨d, h1, h2, h3, h4⟩ := kd h
 refine ⟨d, h2, by omega, by omega, ?_, fun z hz => ?_⟩
 ·unfold gN at h3; simpa using h3
 ·have := h4 z hz; unfold gN at this; simpa using this
theorem KW {a b : List Int} {d : Nat} (h1 : d < a.length) (h2 : d < b.length) (h3 : a.getD d 0 ≠ b.getD d 0) (h4 : ∀ z, z < d → a.getD z 0 = b.getD z 0) : fm a b = (d : Int) :=
 bu (f := gN a b) (by unfold gN; rw [decide_eq_false h3]; rfl) (fun z hz => by unfold gN; rw [decide_eq_true (h4 z hz)]; rfl) (by omega)
theorem Jj {a b a' b' : List Int} (ha : a <+: a') (hb : b <+: b') (h : 0 ≤ fm a b) : fm a' b' = fm a b := by
 obtain ⟨d, e, h1, h2, h3, h4⟩ := KV h
 have la := ha.length_le
 have lb := hb.length_le
 rw [e]
 refine KW (by omega) (by omega) ?_ (fun z hz => ?_)
 ·rw [← tZ ha h1, ← tZ hb h2]; exact h3
 ·rw [← tZ ha (show z < a.length by omega), ← tZ hb (show z < b.length by omega)]; exact h4 z hz
structure AM (a a' : List Sm) : Prop where
 l : a.length = a'.length
 n : ∀ i, i < a.length → (a.getD i aG).name = (a'.getD i aG).name
 w : ∀ i, i < a.length → (a.getD i aG).words <+: (a'.getD i aG).words
theorem y9 {a b : List Sm} {i : Nat} (h : iW a b i = true) : 0 ≤ aE b (a.getD i aG).name ∧ aE a (a.getD i aG).name = (i : Int) ∧ 0 ≤ fm (a.getD i aG).words (b9 b (aE b (a.getD i aG).name)) := by
 unfold iW at h
 simp only [Bool.and_eq_true, decide_eq_true_eq] at h
 exact ⟨h.1, h.2.1, h.2.2⟩
theorem Fq {a a' b b' : List Sm} (ha : AM a a') (hb : AM b b') {i : Nat} (hi : i < a.length) (h : iW a b i = true) : iW a' b' i = true ∧ EY a' b' i = EY a b i := by
 obtain ⟨h1, h2, h3⟩ := y9 h
 have hn := ha.n i hi
 have f1 : aE a' (a'.getD i aG).name = (i : Int) := by rw [kq ha.l ha.n, ← hn]; exact h2
 have f2 : aE b' (a'.getD i aG).name = aE b (a.getD i aG).name := by rw [kq hb.l hb.n, ← hn]
 have hlt := Dr (l := b) (nm := (a.getD i aG).name)
 have hd : fm (a'.getD i aG).words (b9 b' (aE b' (a'.getD i aG).name)) = fm (a.getD i aG).words (b9 b (aE b (a.getD i aG).name)) := by
  rw [f2]
  refine Jj (ha.w i hi) ?_ h3
  show (gC b _).words <+: (gC b' _).words
  rw [mi (by omega), mi (by omega)]
  exact hb.w _ (by omega)
 refine ⟨nf f1 (by rw [f2]; omega) (by rw [hd]; exact h3), ?_⟩
 unfold EY
 rw [hd, hn]
theorem AN (a b : List Sm) : ((∀ z, z < a.length → iW a b z = false) ∧ bl a b = ⟨e0, 0, true⟩) ∨ ∃ i, i < a.length ∧ iW a b i = true ∧ (∀ z, z < i → iW a b z = false) ∧ bl a b = EY a b i := by
 by_cases h : 0 ≤ EX a b
 ·obtain ⟨i, h1, h2, h3, h4⟩ := kd h
  exact .inr ⟨i, h1, h3, h4, r6 h1 h3 h4⟩
 ·have := BP (show bU (iW a b) a.length < 0 by unfold EX at h; omega)
  exact .inl ⟨this, sN this⟩
theorem B9 {l : List Sm} {x y : ByteArray} (h : (x.toList == y.toList) = true) : aE l x = aE l y := by
 rw [beq_iff_eq] at h
 unfold aE
 refine lr (fun z _ => ?_)
 unfold Al
 rw [h]
theorem vX {l : List Sm} {nm : ByteArray} {i : Nat} (h : aE l nm = (i : Int)) {z : Nat} (hz : z < i) : ¬((l.getD z aG).name.toList == nm.toList) = true := by
 obtain ⟨j, h1, h2, _, h4⟩ := kd (show 0 ≤ bU (Al l nm) l.length by unfold aE at h; omega)
 have e : j = i := by unfold aE at h; omega
 have := h4 z (by omega)
 unfold Al at this
 rw [this]; simp
theorem HL {l : List Sm} {a b : ByteArray} : ∀ {i : Nat}, i < l.length → (∀ z, z < i → ¬((l.getD z aG).name.toList == a.toList) = true ∧ ¬((l.getD z aG).name.toList == b.toList) = true) → kX l a b = kX (l.drop i) a b
 | 0, _, _ => rfl
 | i + 1, hi, h => by
  rw [HL (i := i) (by omega) (fun z hz => h z (by omega))]
  exact Am (by omega) (h i (by omega)).1 (h i (by omega)).2
theorem D6 {a a' b b' l : List Sm} (ha : AM a a') (hb : AM b b') (hl : l.length = a.length) (hln : ∀ i, i < a.length → (a.getD i aG).name = (l.getD i aG).name) (hno : ¬(bl a b).is = true) :
  bl a b = bl a' b' ∨ ((bl a' b').is = false ∧ ((bl a' b').name.toList == (bl a b).name.toList) = false ∧ kX l (bl a' b').name (bl a b).name = true) := by
 rcases AN a b with ⟨_, h⟩ | ⟨i, h1, h2, h3, h4⟩
 ·rw [h] at hno; exact absurd rfl hno
 obtain ⟨k1, k2⟩ := Fq ha hb h1 h2
 rcases AN a' b' with ⟨h, _⟩ | ⟨j, j1, j2, j3, j4⟩
 ·have := h i (by rw [← ha.l]; exact h1)
  rw [k1] at this; cases this
 have hji : j ≤ i := by
  refine Decidable.byContradiction fun hn => ?_
  have := j3 i (by omega)
  rw [k1] at this; cases this
 by_cases e : j = i
 ·subst e; left; rw [h4, j4, k2]
 right
 have hj : j < a.length := by omega
 have fa : aE a (a.getD i aG).name = (i : Int) := (y9 h2).2.1
 have fj : aE a (a'.getD j aG).name = (j : Int) := by rw [← kq ha.l ha.n]; exact (y9 j2).2.1
 have hne : ((bl a' b').name.toList == (bl a b).name.toList) = false := by
  rw [j4, h4]
  show ((a'.getD j aG).name.toList == (a.getD i aG).name.toList) = false
  cases hq : ((a'.getD j aG).name.toList == (a.getD i aG).name.toList)
  ·rfl
  ·have := B9 (l := a) hq
   rw [fj, fa] at this
   omega
 refine ⟨by rw [j4]; rfl, hne, ?_⟩
 rw [j4, h4]
 show kX l (a'.getD j aG).name (a.getD i aG).name = true
 have g1 : aE l (a'.getD j aG).name = (j : Int) := by rw [kq hl.symm hln]; exact fj
 have g2 : aE l (a.getD i aG).name = (i : Int) := by rw [kq hl.symm hln]; exact fa
 rw [HL (i := j) (by omega) (fun z hz => ⟨vX g1 hz, vX g2 (by omega)⟩)]
 have hn : (l.getD j aG).name = (a'.getD j aG).name := by rw [← hln j hj, ha.n j hj]
 rw [kY (by omega) (.inl (by rw [hn]; exact beq_self_eq_true _)), hn]
 exact beq_self_eq_true _
def za (c : Ci) (s t : Ns) : Prop := ∀ n, (dt c n).dst = -1 → fh s n <+: fh t n
theorem xD (c : Ci) (s : Ns) : za c s s := fun n _ => List.prefix_refl _
theorem f4 {c : Ci} {s t u : Ns} (h : za c s t) (k : za c t u) : za c s u := fun n hd => (h n hd).trans (k n hd)
theorem D7 {c : Ci} {s : Ns} (hs : bG c s) {j : Nat} (hj : j < c.chans.length) (l : List Int) : za c s (Ji s j l) := fun n hd => by
 rw [KT hs hj]
 split
 ·rename_i e; rw [← e]; exact List.prefix_append _ _
 ·exact List.prefix_refl _
theorem qU {c : Ci} {s : Ns} (hc : bo c) (hs : bG c s) (l : List ByteArray) : za c s (aB c s l) := fun n hd => Fo hc hs hd (xC hc hs)
theorem nM {c : Ci} {s t : Ns} (h : za c s t) : AM (aj c s) (aj c t) where
 l := by rw [eW, eW]
 n := fun i hi => by rw [eW] at hi; rw [lq hi, lq hi]
 w := fun i hi => by
  rw [eW] at hi; rw [lq hi, lq hi]
  exact h _ (KU hi).2
theorem xE (c : Ci) (s t : Ns) (i : Nat) (hi : i < (aj c s).length) : ((aj c s).getD i aG).name = ((aj c t).getD i aG).name := by
 rw [eW] at hi; rw [lq hi, lq hi]
theorem Jk {c : Ci} {nm : ByteArray} (h : ¬aQ c.chans nm < 0) : ∃ j, j < c.chans.length ∧ aQ c.chans nm = (j : Int) ∧ (dt c j).frm = -1 := by
 obtain ⟨j, q1, q2, q3, _⟩ := kd (show 0 ≤ bU (kU c.chans nm) c.chans.length by unfold aQ at h; omega)
 refine ⟨j, q1, q2, ?_⟩
 unfold kU at q3
 simp only [Bool.and_eq_true, decide_eq_true_eq] at q3
 exact q3.1
theorem D8 {sh : Int} {b : List Int} {u : Ns} {nm : ByteArray} {x : Int} (h : ¬aQ (aa sh b).chans nm < 0) (h0 : 0 ≤ x) (h3 : x ≤ 3) : ∃ j, j < (aa sh b).chans.length ∧ (dt (aa sh b) j).frm = -1 ∧ aF (aa sh b) u (aQ (aa sh b).chans nm) [x] = (Ji u j [x], 0) := by
 obtain ⟨j, h1, h2, h4⟩ := Jk h
 have hw := vU sh b h1
 refine ⟨j, h1, h4, ?_⟩
 rw [h2, fS (kf (by omega) (by omega) h4) (by rw [Int.toNat_natCast, hw]; exact AL h0 h3), Int.toNat_natCast]
theorem Fr {sh sh' : Int} {b b' : List Int} {s t : Ns} {nm : ByteArray} {x : Int} (h0 : 0 ≤ x) (h3 : x ≤ 3) (h : (ai (aa sh b) (aa sh' b') s t nm [x]).2.2 = 0) :
  ∃ j k, (j < (aa sh b).chans.length ∧ (dt (aa sh b) j).frm = -1) ∧ (k < (aa sh' b').chans.length ∧ (dt (aa sh' b') k).frm = -1) ∧ ai (aa sh b) (aa sh' b') s t nm [x] = (Ji s j [x], Ji t k [x], 0) := by
 by_cases hi : aQ (aa sh b).chans nm < 0 ∨ aQ (aa sh' b').chans nm < 0
 ·rw [dP hi] at h; cases h
 ·obtain ⟨j, j1, j2, j3⟩ := D8 (sh := sh) (b := b) (u := s) (nm := nm) (x := x) (fun q => hi (.inl q)) h0 h3
  obtain ⟨k, k1, k2, k3⟩ := D8 (sh := sh') (b := b') (u := t) (nm := nm) (x := x) (fun q => hi (.inr q)) h0 h3
  refine ⟨j, k, ⟨j1, j2⟩, ⟨k1, k2⟩, ?_⟩
  rw [cM hi (by show (aF _ _ (aQ (aa sh b).chans nm) _).2 = 0; rw [j3]) (by show (aF _ _ (aQ (aa sh' b').chans nm) _).2 = 0; rw [k3])]
  show ((aF _ s (aQ (aa sh b).chans nm) _).1, (aF _ t (aQ (aa sh' b').chans nm) _).1, (0 : Int)) = _
  rw [j3, k3]
theorem AO {v v' : Vd} {e : Bool} (h : v = v' ∨ (v'.is = false ∧ (v'.name.toList == v.name.toList) = false ∧ e = true)) (hn : ¬(v.name.toList == v'.name.toList && (v.pos == v'.pos && v.is == v'.is)) = true) : (¬v'.is = true) ∧ (¬(v'.name.toList == v.name.toList) = true) ∧ e = true := by
 rcases h with h | ⟨h1, h2, h3⟩
 ·subst h
  exact absurd (by rw [beq_self_eq_true, beq_self_eq_true, beq_self_eq_true]; rfl) hn
 ·exact ⟨by rw [h1]; simp, by rw [h2]; simp, h3⟩
end Go.Proofs.YtgmpoenfoacofaaGreat
