/-
  What is carried is a state of the new circuit; when it cannot be carried; the words of its channels.
-/
import Derived.Test.YtnlmlkbaflmgcaaQMjM
namespace Go.Proofs.Ytnlmlkbaflmgcaa
open Go.RowKit
set_option linter.unusedVariables false
set_option linter.unusedSimpArgs false
theorem pH {o n : Ci} {s : Ns} (no : d5 o) (nn : d5 n) :
  (ae o n s = (⟨tab (cO o n s) n.procs.length, tab (bP o n s) n.chans.length⟩, 0) ∧ (∀ i, i < o.chans.length → mr o n s i = false) ∧ ∀ i, i < n.chans.length → bG o n s i = false) ∨
  (ae o n s = (⟨[], []⟩, 150) ∧ ((∃ i, i < o.chans.length ∧ mr o n s i = true) ∨ ∃ i, i < n.chans.length ∧ bG o n s i = true)) := by
 have hg := DW (s := s) no nn
 unfold ae
 rw [hg]
 cases h1 : cF (fun i => !mr o n s i) o.chans.length
 ·refine .inr ⟨rfl, .inl ?_⟩
  exact gy.1 (by rw [h1]; rfl)
 ·cases h2 : (List.range n.chans.length).any (bG o n s)
  ·refine .inl ⟨rfl, fun i hi => ?_, fun i hi => ?_⟩
   ·have := bi.1 h1 i hi; simpa using this
   ·rw [List.any_eq_false] at h2
    have := h2 i (List.mem_range.2 hi); simpa using this
  ·refine .inr ⟨rfl, .inr ?_⟩
   obtain ⟨i, hi, hb⟩ := List.any_eq_true.1 h2
   exact ⟨i, List.mem_range.1 hi, hb⟩
def G4 (o n : Ci) (s : Ns) (i k : Nat) : Bool := decide (a6 o i = a6 n k) && (decide ((o.chans.getD i ax).w = (n.chans.getD k ax).w) && (decide ((n.chans.getD k ax).cap = 0) || decide (((s.chans.getD i []).length : Int) ≤ (n.chans.getD k ax).cap)))
def mA (o n : Ci) (s : Ns) (i : Nat) : Bool := !cF (fun k => !G4 o n s i k) n.chans.length
def xD (o n : Ci) (s : Ns) (i : Nat) : Bool := !mA o n s i && decide (0 < (s.chans.getD i []).length)
def nh (o n : Ci) (s : Ns) : Bool := !cF (fun i => !xD o n s i) o.chans.length
theorem xE {o n : Ci} (nn : d5 n) {i : Nat} (h : BB o n i = false) : ∃ k, k < n.chans.length ∧ a6 n k = a6 o i ∧ (n.chans.getD k ax).w = (o.chans.getD i ax).w := by
 rcases i4 nn.cn (a6 o i) with ⟨k, hk, e, _, _, h3⟩ | ⟨_, _, h3⟩
 ·refine ⟨k, hk, e, ?_⟩
  unfold BB at h
  rw [show oo n (a6 o i) = Ae (a6 n) n.chans.length (a6 o i) from rfl, h3, Bool.or_eq_false_iff] at h
  simpa using h.2
 ·rw [KC (show oo n (a6 o i) < 0 by rw [show oo n (a6 o i) = Ae (a6 n) n.chans.length (a6 o i) from rfl, h3]; omega)] at h
  cases h
theorem AM {o n : Ci} (nn : d5 n) {i : Nat} (h : BB o n i = true) {k : Nat} (hk : k < n.chans.length) (e : a6 n k = a6 o i) : (n.chans.getD k ax).w ≠ (o.chans.getD i ax).w := by
 unfold BB at h
 rw [show oo n (a6 o i) = Ae (a6 n) n.chans.length (a6 o i) from rfl, ← e, yJ nn.cn hk, Bool.or_eq_true] at h
 rcases h with h | h
 ·have := of_decide_eq_true h; omega
 ·simpa using h
theorem qN {o n : Ci} (no : d5 o) {i : Nat} (hi : i < o.chans.length) : B1 (t9 o n) (a6 o i) = BB o n i := by
 rw [Bool.eq_iff_iff, vE]
 unfold t9
 rw [vG]
 constructor
 ·rintro ⟨j, hj, a, b⟩
  have := no.cn.inj hj hi b
  subst this; exact a
 ·intro h; exact ⟨i, hi, h, rfl⟩
theorem v6 {o n : Ci} {s : Ns} (no : d5 o) (nn : d5 n) {i k : Nat} (hi : i < o.chans.length) (hk : k < n.chans.length) (e : a6 o i = a6 n k) :
  bP o n s k = if (o.chans.getD i ax).w = (n.chans.getD k ax).w then s.chans.getD i [] else [] := by
 rw [Ah no nn]
 unfold Ag
 rw [show oo o (a6 n k) = Ae (a6 o) o.chans.length (a6 n k) from rfl, ← e, yJ no.cn hi, Int.toNat_natCast, qN no hi]
 cases h : BB o n i
 ·obtain ⟨k', hk', e', hw⟩ := xE nn h
  have : k' = k := nn.cn.inj hk' hk (e'.trans e)
  subst this
  rw [if_pos ⟨by omega, rfl⟩, if_pos hw.symm]
 ·have := AM nn h hk e.symm
  rw [if_neg (by simp), if_neg (fun hh => this hh.symm)]
theorem AN {o n : Ci} {s : Ns} (no : d5 o) (nn : d5 n) {k : Nat} (h : ∀ i, i < o.chans.length → a6 o i ≠ a6 n k) : bP o n s k = [] := by
 rw [Ah no nn]
 unfold Ag
 rw [show oo o (a6 n k) = Ae (a6 o) o.chans.length (a6 n k) from rfl, DK h, if_neg (by simp)]
theorem sD {o n : Ci} {s : Ns} (no : d5 o) (nn : d5 n) {k : Nat} (hk : k < n.chans.length) :
  bP o n s k = [] ∨ ∃ i, i < o.chans.length ∧ a6 o i = a6 n k ∧ (o.chans.getD i ax).w = (n.chans.getD k ax).w ∧ bP o n s k = s.chans.getD i [] := by
 rcases Af (a6 o) o.chans.length (a6 n k) with ⟨i, hi, e⟩ | h
 ·rw [v6 no nn hi hk e]
  split
  ·rename_i hw; exact .inr ⟨i, hi, e, hw, rfl⟩
  ·exact .inl rfl
 ·exact .inl (AN no nn h)
theorem uz {o n : Ci} {s : Ns} (no : d5 o) (nn : d5 n) (hcn : bX n) : nh o n s = true ↔ (ae o n s).2 = 150 := by
 have hpl : ∀ i, mA o n s i = true ↔ ∃ k, k < n.chans.length ∧ a6 o i = a6 n k ∧ (o.chans.getD i ax).w = (n.chans.getD k ax).w ∧ ((n.chans.getD k ax).cap = 0 ∨ ((s.chans.getD i []).length : Int) ≤ (n.chans.getD k ax).cap) := by
  intro i
  unfold mA
  rw [gy]
  unfold G4
  simp only [Bool.and_eq_true, Bool.or_eq_true, decide_eq_true_eq]
 have hf : nh o n s = true ↔ ∃ i, i < o.chans.length ∧ mA o n s i = false ∧ 0 < (s.chans.getD i []).length := by
  unfold nh
  rw [gy]
  unfold xD
  simp only [Bool.and_eq_true, Bool.not_eq_true', decide_eq_true_eq]
 rw [hf]
 rcases pH (s := s) no nn with ⟨e, h1, h2⟩ | ⟨e, h⟩
 ·rw [e]
  constructor
  ·rintro ⟨i, hi, hn, hl⟩
   exfalso
   have hg := h1 i hi
   unfold mr at hg
   rw [qN no hi, decide_eq_true hl, Bool.and_true] at hg
   obtain ⟨k, hk, ek, hw⟩ := xE nn hg
   have hb := h2 k hk
   unfold bG at hb
   rw [v6 no nn hi hk ek.symm, if_pos hw.symm] at hb
   have hc := hcn.cp k hk
   have : mA o n s i = true := (hpl i).2 ⟨k, hk, ek.symm, hw.symm, by
    rcases Int.lt_or_le 0 (n.chans.getD k ax).cap with h0 | h0
    ·rw [decide_eq_true h0, Bool.true_and, decide_eq_false_iff_not] at hb
     exact .inr (by omega)
    ·have : 0 ≤ (n.chans.getD k ax).cap := hc
     exact .inl (by omega)⟩
   rw [this] at hn; cases hn
  ·intro h; cases h
 ·rw [e]
  refine ⟨fun _ => rfl, fun _ => ?_⟩
  rcases h with ⟨i, hi, hb⟩ | ⟨k, hk, hb⟩
  ·unfold mr at hb
   rw [qN no hi, Bool.and_eq_true, decide_eq_true_eq] at hb
   refine ⟨i, hi, ?_, hb.2⟩
   cases hh : mA o n s i
   ·rfl
   ·obtain ⟨k, hk, ek, hw, _⟩ := (hpl i).1 hh
    exact absurd hw.symm (AM nn hb.1 hk ek.symm)
  ·unfold bG at hb
   rw [Bool.and_eq_true, decide_eq_true_eq, decide_eq_true_eq] at hb
   rcases sD (s := s) no nn hk with h0 | ⟨i, hi, ek, hw, e2⟩
   ·rw [h0] at hb; have := hb.1; have := hb.2; simp only [List.length_nil] at this; omega
   ·rw [e2] at hb
    refine ⟨i, hi, ?_, by omega⟩
    cases hh : mA o n s i
    ·rfl
    ·obtain ⟨k', hk', ek', _, hc⟩ := (hpl i).1 hh
     have : k' = k := nn.cn.inj hk' hk (ek'.symm.trans ek)
     subst this
     omega
theorem GC {r : Rg} {f : Sr} (hw : aI r.w = true) (hi : cE r.init r.w) : cE (w8 r f) r.w := by
 have hw' := aP.1 hw
 unfold w8
 split
 ·exact oA (by omega) (by omega)
 ·unfold DL
  split
  ·exact oA (by omega) (by omega)
  ·exact hi
theorem GD {m : Mm} {f : Sr} (hw : aI m.w = true) (k : Nat) : cE (rV m f k) m.w := by
 have hw' := aP.1 hw
 unfold rV
 split
 ·exact oA (by omega) (by omega)
 ·unfold DM
  split
  ·exact oA (by omega) (by omega)
  ·have := b4 (w := m.w) (by omega) (by omega)
   exact ⟨Int.le_refl _, this.1⟩
theorem EL {p : Pr} (hp : ga p) (f : Sr) : mS p (t8 p f) := by
 refine ⟨aH _ _, fun i hi => ?_, aH _ _, fun i hi => ?_, fun i hi j hj => ?_⟩
 ·rw [show (t8 p f).regs.getD i 0 = w8 (p.regs.getD i aO) f from aR hi]
  exact GC (hp.rw i hi).1 (hp.rw i hi).2.1
 ·rw [show (t8 p f).mems.getD i [] = tab (rV (p.mems.getD i aB) f) (p.mems.getD i aB).words.toNat from aR hi, aH]
  have : 1 ≤ (hJ p i).words := (hp.mw i hi).2.1.1
  have e : (p.mems.getD i aB).words = (hJ p i).words := rfl
  omega
 ·rw [show (t8 p f).mems.getD i [] = tab (rV (p.mems.getD i aB) f) (p.mems.getD i aB).words.toNat from aR hi] at hj ⊢
  rw [aH] at hj
  rw [aR hj]
  exact GD (hp.mw i hi).1 j
theorem Iq {o n : Ci} {s : Ns} (h : pG o n s) (he : (ae o n s).2 ≠ 150) : fB n (ae o n s).1 := by
 rcases pH (s := s) h.no h.nn with ⟨e, h1, h2⟩ | ⟨e, _⟩
 ·rw [e]
  refine ⟨aH _ _, aH _ _, fun i hi => ?_, fun k hk i hi => ?_, fun k hk ha hb => ?_⟩
  ·rw [show yu _ i = cO o n s i from aR hi, DV h.no (h.rn i hi)]
   exact EL (h.cn.pr i hi) _
  ·have e2 : jJ (⟨tab (cO o n s) n.procs.length, tab (bP o n s) n.chans.length⟩ : Ns) k = bP o n s k := aR hk
   rw [e2] at hi ⊢
   rcases sD (s := s) h.no h.nn hk with h0 | ⟨j, hj, _, hw, e3⟩
   ·rw [h0] at hi; cases hi
   ·rw [e3] at hi ⊢
    have := h.so.cv j hj i hi
    have e4 : (eI o j).w = (eI n k).w := hw
    rw [e4] at this; exact this
  ·have e2 : jJ (⟨tab (cO o n s) n.procs.length, tab (bP o n s) n.chans.length⟩ : Ns) k = bP o n s k := aR hk
   rw [e2]
   have hc := h.kn k hk ha hb
   have hb2 := h2 k hk
   unfold bG at hb2
   rw [decide_eq_true (show 0 < (n.chans.getD k ax).cap from hc), Bool.true_and, decide_eq_false_iff_not] at hb2
   exact Int.not_lt.1 hb2
 ·rw [e] at he; exact absurd rfl he
theorem AO {o n : Ci} {s : Ns} : (ae o n s).2 = 150 ∨ (ae o n s).2 = 0 := by
 unfold ae; split
 ·exact .inl rfl
 ·exact .inr rfl
theorem AP {o n : Ci} {s : Ns} (h : (ae o n s).2 = 150) : (ae o n s).1 = ⟨[], []⟩ := by
 unfold ae at h ⊢; split
 ·rfl
 ·rename_i hn; rw [if_neg hn] at h; cases h
def sE (f : Nat → Bool) (n : Nat) : Bool := !cF (fun i => !f i) n
theorem iY {f : Nat → Bool} {n : Nat} (h : sE f n = true) : sE f (n + 1) = true := by
 obtain ⟨i, hi, hf⟩ := gy.1 h
 exact gy.2 ⟨i, by omega, hf⟩
theorem f8 {f : Nat → Bool} {n : Nat} (h : ¬sE f n = true) : sE f (n + 1) = f n := by
 rw [Bool.eq_iff_iff]
 constructor
 ·intro h2
  obtain ⟨i, hi, hf⟩ := gy.1 h2
  by_cases e : i = n
  ·rw [← e]; exact hf
  ·exact absurd (gy.2 ⟨i, by omega, hf⟩) h
 ·intro h2; exact gy.2 ⟨n, by omega, h2⟩
end Go.Proofs.Ytnlmlkbaflmgcaa
