/-
  The laws of shadows, plain data: circuits that have fired in different orders have streams that agree.
-/
import Derived.Test.YtgmpoenfoacofaaGreatQShF
namespace Go.Proofs.YtgmpoenfoacofaaGreat
open Go.RowKit
set_option linter.unusedVariables false
set_option linter.unusedSimpArgs false
section
variable {c : Ci} {s : Ns} {n : Nat} {l : List Int}
theorem Jg (hs : bG c s) (hn : n < c.chans.length) (hw : (dt c n).w = 2) (hv : cA l 2 = true) (hf : (dt c n).frm = -1) : bG c (d9 s n (fh s n ++ l)) := by
 refine DU hs hn (fun i hi => ?_) (fun a _ => by omega)
 rw [qu]
 split
 ·rename_i h; exact hs.cv n hn i h
 ·rename_i h
  rw [hw]
  rw [List.length_append] at hi
  exact u6.1 hv _ (by omega)
end
theorem vU (sh : Int) (b : List Int) {n : Nat} (h : n < (aa sh b).chans.length) : (dt (aa sh b) n).w = 2 := by
 have e : dt (aa sh b) n = vK sh (ak sh) n := bn (by simpa [aa, aR] using h)
 rw [e]; rfl
section
variable {c : Ci} {s t u v : Ns} {w : Nat → Bool} {p n : Nat} {l : List Int}
def Reach (c : Ci) (s t : Ns) : Prop := ∃ l, ve c s l ∧ BA c s l = t
theorem D0 : ∀ {l m : List Nat} {s : Ns}, BA c s (l ++ m) = BA c (BA c s l) m
 | [], _, _ => rfl
 | p :: r, m, s => D0 (l := r) (s := a4 c s (cE p))
theorem D1 : ∀ {l m : List Nat} {s : Ns}, ve c s l → ve c (BA c s l) m → ve c s (l ++ m)
 | [], _, _, _, h => h
 | p :: r, m, s, h1, h2 => ⟨h1.1, h1.2.1, D1 (l := r) h1.2.2 h2⟩
theorem vV (c : Ci) (s : Ns) : Reach c s s := ⟨[], trivial, rfl⟩
theorem sV (h : Reach c s t) (k : Reach c t u) : Reach c s u := by
 obtain ⟨l, h1, h2⟩ := h
 obtain ⟨m, k1, k2⟩ := k
 subst h2
 exact ⟨l ++ m, D1 h1 k1, by rw [D0, k2]⟩
theorem Fl (hp : p < c.procs.length) (h : hJ c s p = true) : Reach c s (a4 c s (cE p)) := ⟨[p], ⟨hp, h, trivial⟩, rfl⟩
theorem vW (hc : bo c) (hs : bG c s) : ∀ {P : Nat}, P ≤ c.procs.length → Reach c s (a4 c s (upto w P))
 | 0, _ => by
  rw [Ad hs (fun p hp => by unfold aD upto; simp)]; exact vV c s
 | P + 1, hP => by
  have ih := vW hc hs (P := P) (by omega)
  by_cases hf : aD c s w P = true
  ·obtain ⟨hw, hcan⟩ := j5 hf
   have hu : upto w P P = false := by unfold upto; simp
   have h1 := Fl (c := c) (s := a4 c s (upto w P)) (p := P) (by omega) (Iy hc (by omega) hcan hu)
   rw [Ix hc (by omega) hcan hu] at h1
   have h2 := sV ih h1
   rw [xk (w' := fun q => upto w P q || cE P q)]
   ·exact h2
   ·intro q
    unfold aD upto cE
    by_cases e : q = P
    ·subst e; simp [hw]
    ·have : decide (q < P + 1) = decide (q < P) := by simp only [decide_eq_decide]; omega
     rw [this]; simp [e]
  ·rw [xk (w' := upto w P)]
   ·exact ih
   ·intro q
    by_cases e : q = P
    ·subst e
     have h1 : aD c s (upto w (q + 1)) q = false := by
      unfold aD upto
      unfold aD at hf
      simp only [Bool.and_eq_true, not_and, Bool.not_eq_true] at hf
      cases hw : w q
      ·simp
      ·simp [hf hw]
     rw [h1]; unfold aD upto; simp
    ·unfold aD upto
     have : decide (q < P + 1) = decide (q < P) := by simp only [decide_eq_decide]; omega
     rw [this]
theorem Fm (hc : bo c) (hs : bG c s) (w : Nat → Bool) : Reach c s (a4 c s w) := by
 rw [Df hs]; exact vW hc hs (Nat.le_refl _)
theorem xC (hc : bo c) : ∀ {l : List ByteArray} {s : Ns}, bG c s → Reach c s (aB c s l)
 | [], s, _ => vV c s
 | a :: r, s, hs => sV (Fm hc hs (bA c a)) (xC hc (l := r) (pb hc hs _))
theorem HK (hc : bo c) (hd : (dt c n).dst = -1) : cX c s w n = 0 := by
 unfold cX
 rw [if_neg]
 rintro ⟨h1, h2⟩
 by_cases hp : iR c n < c.procs.length
 ·obtain ⟨j, h3, _, h4⟩ := rR h2
  have := (hc.tk _ hp j h3).2.2.2
  rw [h4, hd] at this; omega
 ·rw [u9 (by omega)] at h2; cases h2
theorem Jh (hc : bo c) (hs : bG c s) (hd : (dt c n).dst = -1) : fh s n <+: fh (a4 c s w) n := by
 by_cases hn : n < c.chans.length
 ·rw [gv c s w hn, cB, HK hc hd, List.drop_zero]; exact List.prefix_append _ _
 ·rw [show fh s n = [] from by rw [fh, List.getD, List.getElem?_eq_none (by rw [hs.cl]; omega)]; rfl]
  exact List.nil_prefix
theorem D2 (hc : bo c) (hd : (dt c n).dst = -1) : ∀ {l : List Nat} {s : Ns}, bG c s → fh s n <+: fh (BA c s l) n
 | [], s, _ => List.prefix_refl _
 | p :: r, s, hs => (Jh (w := cE p) hc hs hd).trans (D2 hc hd (l := r) (pb hc hs _))
theorem Fo (hc : bo c) (hs : bG c s) (hd : (dt c n).dst = -1) (h : Reach c s t) : fh s n <+: fh t n := by
 obtain ⟨l, _, h2⟩ := h
 subst h2
 exact D2 hc hd hs
abbrev Ji (s : Ns) (n : Nat) (l : List Int) : Ns := d9 s n (fh s n ++ l)
theorem KT (hs : bG c s) (hn : n < c.chans.length) (m : Nat) : fh (Ji s n l) m = if n = m then fh s n ++ l else fh s m := ce (by rw [hs.cl]; exact hn)
theorem D3 (hs : bG c s) (hn : n < c.chans.length) (hw : (dt c n).w = 2) (hv : cA l 2 = true) (hf : (dt c n).frm = -1) : bG c (Ji s n l) := Jg hs hn hw hv hf
end
def Fp (c : Ci) : Nat → List Nat
 | 0 => []
 | n + 1 => Fp c n ++ (if (dt c n).dst = -1 then [n] else [])
def wp (c : Ci) : List Nat := Fp c c.chans.length
theorem y8 (c : Ci) (s : Ns) : ∀ n, qz c s n = (Fp c n).map (fun m => (⟨(dt c m).name, fh s m⟩ : Sm))
 | 0 => rfl
 | n + 1 => by
  rw [qz, Fp, List.map_append, y8 c s n]
  unfold LR
  split <;> rfl
theorem D4 {c : Ci} {m : Nat} : ∀ {n : Nat}, m ∈ Fp c n → m < n ∧ (dt c m).dst = -1
 | 0, h => by cases h
 | n + 1, h => by
  rw [Fp, List.mem_append] at h
  rcases h with h | h
  ·have := D4 h; exact ⟨by omega, this.2⟩
  ·split at h
   ·rename_i hd; simp only [List.mem_singleton] at h; subst h; exact ⟨by omega, hd⟩
   ·cases h
theorem eW (c : Ci) (s : Ns) : (aj c s).length = (wp c).length := by unfold aj wp; rw [y8, List.length_map]
theorem lq {c : Ci} {s : Ns} {i : Nat} (hi : i < (wp c).length) : (aj c s).getD i aG = ⟨(dt c ((wp c).getD i 0)).name, fh s ((wp c).getD i 0)⟩ := by
 unfold aj
 rw [y8]
 unfold wp at hi ⊢
 simp [List.getD, List.getElem?_map, List.getElem?_eq_getElem hi]
theorem KU {c : Ci} {i : Nat} (hi : i < (wp c).length) : (wp c).getD i 0 < c.chans.length ∧ (dt c ((wp c).getD i 0)).dst = -1 := by
 rw [fq _ _ hi]; exact D4 (List.getElem_mem hi)
theorem lr {f g : Nat → Bool} : ∀ {n : Nat}, (∀ z, z < n → f z = g z) → bU f n = bU g n
 | 0, _ => rfl
 | n + 1, h => by
  rw [bU, bU, lr (fun z hz => h z (by omega)), h n (by omega)]
  have : ct (fun i => !f i) n = ct (fun i => !g i) n := by
   cases h1 : ct (fun i => !g i) n
   ·cases h2 : ct (fun i => !f i) n
    ·rfl
    ·rw [bi] at h2
     have h3 : ct (fun i => !g i) n = true := bi.2 (fun i hi => by rw [← h i (by omega)]; exact h2 i hi)
     rw [h3] at h1; cases h1
   ·rw [bi] at h1
    exact bi.2 (fun i hi => by rw [h i (by omega)]; exact h1 i hi)
  rw [this]
theorem kq {a b : List Sm} (hl : a.length = b.length) (hn : ∀ i, i < a.length → (a.getD i aG).name = (b.getD i aG).name) (nm : ByteArray) : aE b nm = aE a nm := by
 unfold aE
 rw [hl]
 refine lr (fun z hz => ?_)
 unfold Al
 rw [hn z (by omega)]
theorem tZ {a b : List Int} (h : a <+: b) {z : Nat} (hz : z < a.length) : a.getD z 0 = b.getD z 0 := by
 obtain ⟨r, rfl⟩ := h
 rw [qu, if_pos hz]
theorem AL {x : Int} (h0 : 0 ≤ x) (h3 : x ≤ 3) : cA [x] 2 = true := u6.2 (fun i hi => by
 have : i = 0 := by simp at hi; exact hi
 subst this
 show dq x 2
 unfold dq
 rw [ck (by omega) (by omega)]
 exact ⟨h0, by show x ≤ 2 ^ 2 - 1; omega⟩)
theorem jI {c : Ci} {s : Ns} (hm : ga s 4294967296) (i : Nat) : ((aj c s).getD i aG).words.length ≤ 9223372036854775807 := by
 by_cases hi : i < (wp c).length
 ·rw [lq hi]; exact Nat.le_trans (hm _) (by decide)
 ·rw [List.getD, List.getElem?_eq_none (by rw [eW]; omega)]; simp
theorem d4 {c : Ci} {s : Ns} (hc : bo c) : (aj c s).length ≤ 9223372036854775807 := by
 have := IE (c := c) (s := s)
 have := hc.cl
 omega
theorem D5 {s : Ns} {k n : Nat} {l : List Int} (h : ga s k) (hl : l.length ≤ 1) : ga (Ji s n l) (k + 1) := by
 refine DV (fun m => Nat.le_trans (h m) (by omega)) ?_
 have : (fh s n).length ≤ k := h n
 rw [List.length_append]; omega
end Go.Proofs.YtgmpoenfoacofaaGreat
