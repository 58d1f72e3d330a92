/-
  The words of the channels, as the law of words asks for them.
-/
import Derived.Test.YtnlmlkbaflmgcaaQBitR
namespace Go.Proofs.Ytnlmlkbaflmgcaa
open Go.RowKit
set_option linter.unusedVariables false
set_option linter.unusedSimpArgs false
theorem pT {o n : Ci} {s : Ns} (no : d7 o) (nn : d7 n) :
  (af o n s = (⟨tab (ew o n s) n.procs.length, tab (bP o n s) n.chans.length⟩, 0) ∧ (∀ i, i < o.chans.length → jq o n s i = false) ∧ ∀ i, i < n.chans.length → bz o n s i = false) ∨
  (af o n s = (⟨[], []⟩, 150) ∧ ((∃ i, i < o.chans.length ∧ jq o n s i = true) ∨ ∃ i, i < n.chans.length ∧ bz o n s i = true)) := by
 have hg := xk (s := s) no nn
 unfold af
 rw [hg]
 cases h1 : b4 (fun i => !jq o n s i) o.chans.length
 ·refine .inr ⟨rfl, .inl ?_⟩
  exact oz.1 (by rw [h1]; rfl)
 ·cases h2 : (List.range n.chans.length).any (bz o n s)
  ·refine .inl ⟨rfl, fun i hi => ?_, fun i hi => ?_⟩
   ·have := aR.1 h1 i hi; simpa using this
   ·rw [List.any_eq_false] at h2
    have := h2 i (List.mem_range.2 hi); simpa using this
  ·refine .inr ⟨rfl, .inr ?_⟩
   obtain ⟨i, hi, hb⟩ := List.any_eq_true.1 h2
   exact ⟨i, List.mem_range.1 hi, hb⟩
theorem xS {o n : Ci} (nn : d7 n) {i : Nat} (h : sY o n i = false) : ∃ k, k < n.chans.length ∧ be n k = be o i ∧ (n.chans.getD k aB).w = (o.chans.getD i aB).w := by
 rcases dG nn.cn (be o i) with ⟨k, hk, e, _, _, h3⟩ | ⟨_, _, h3⟩
 ·refine ⟨k, hk, e, ?_⟩
  unfold sY at h
  rw [show ky n (be o i) = th (be n) n.chans.length (be o i) from rfl, h3, Bool.or_eq_false_iff] at h
  simpa using h.2
 ·rw [JD (show ky n (be o i) < 0 by rw [show ky n (be o i) = th (be n) n.chans.length (be o i) from rfl, h3]; omega)] at h
  cases h
theorem ra {o n : Ci} (nn : d7 n) {i : Nat} (h : sY o n i = true) {k : Nat} (hk : k < n.chans.length) (e : be n k = be o i) : (n.chans.getD k aB).w ≠ (o.chans.getD i aB).w := by
 unfold sY at h
 rw [show ky n (be o i) = th (be n) n.chans.length (be o i) from rfl, ← e, i8 nn.cn hk, Bool.or_eq_true] at h
 rcases h with h | h
 ·have := of_decide_eq_true h; omega
 ·simpa using h
theorem rb {o n : Ci} (no : d7 o) {i : Nat} (hi : i < o.chans.length) : Cq (uz o n) (be o i) = sY o n i := by
 rw [Bool.eq_iff_iff, vR]
 unfold uz
 rw [pO]
 constructor
 ·rintro ⟨j, hj, a, b⟩
  have := no.cn.inj hj hi b
  subst this; exact a
 ·intro h; exact ⟨i, hi, h, rfl⟩
theorem rf {o n : Ci} {s : Ns} (no : d7 o) (nn : d7 n) {i k : Nat} (hi : i < o.chans.length) (hk : k < n.chans.length) (e : be o i = be n k) :
  bP o n s k = if (o.chans.getD i aB).w = (n.chans.getD k aB).w then s.chans.getD i [] else [] := by
 rw [lO no nn]
 unfold kT
 rw [show ky o (be n k) = th (be o) o.chans.length (be n k) from rfl, ← e, i8 no.cn hi, Int.toNat_natCast, rb no hi]
 cases h : sY o n i
 ·obtain ⟨k', hk', e', hw⟩ := xS nn h
  have : k' = k := nn.cn.inj hk' hk (e'.trans e)
  subst this
  rw [if_pos ⟨by omega, rfl⟩, if_pos hw.symm]
 ·have := ra nn h hk e.symm
  rw [if_neg (by simp), if_neg (fun hh => this hh.symm)]
theorem GV {o n : Ci} {s : Ns} (no : d7 o) (nn : d7 n) {k : Nat} (h : ∀ i, i < o.chans.length → be o i ≠ be n k) : bP o n s k = [] := by
 rw [lO no nn]
 unfold kT
 rw [show ky o (be n k) = th (be o) o.chans.length (be n k) from rfl, D7 h, if_neg (by simp)]
theorem nz {o n : Ci} {s : Ns} (no : d7 o) (nn : d7 n) {k : Nat} (hk : k < n.chans.length) :
  bP o n s k = [] ∨ ∃ i, i < o.chans.length ∧ be o i = be n k ∧ (o.chans.getD i aB).w = (n.chans.getD k aB).w ∧ bP o n s k = s.chans.getD i [] := by
 rcases F4 (be o) o.chans.length (be n k) with ⟨i, hi, e⟩ | h
 ·rw [rf no nn hi hk e]
  split
  ·rename_i hw; exact .inr ⟨i, hi, e, hw, rfl⟩
  ·exact .inl rfl
 ·exact .inl (GV no nn h)
theorem GW {r : Rg} {f : Sr} (hw : aI r.w = true) (hi : cg r.init r.w) : cg (pN r f) r.w := by
 have hw' := aM.1 hw
 unfold pN
 split
 ·exact oE (by omega) (by omega)
 ·unfold B1
  split
  ·exact oE (by omega) (by omega)
  ·exact hi
theorem GX {m : Mm} {f : Sr} (hw : aI m.w = true) (k : Nat) : cg (mr m f k) m.w := by
 have hw' := aM.1 hw
 unfold mr
 split
 ·exact oE (by omega) (by omega)
 ·unfold B2
  split
  ·exact oE (by omega) (by omega)
  ·have := b7 (w := m.w) (by omega) (by omega)
   exact ⟨Int.le_refl _, this.1⟩
theorem EZ {p : Pr} (hp : gi p) (f : Sr) : kQ p (gu p f) := by
 refine ⟨aJ _ _, fun i hi => ?_, aJ _ _, fun i hi => ?_, fun i hi j hj => ?_⟩
 ·rw [show (gu p f).regs.getD i 0 = pN (p.regs.getD i aK) f from aL hi]
  exact GW (hp.rw i hi).1 (hp.rw i hi).2.1
 ·rw [show (gu p f).mems.getD i [] = tab (mr (p.mems.getD i ax) f) (p.mems.getD i ax).words.toNat from aL hi, aJ]
  have : 1 ≤ (dK p i).words := (hp.mw i hi).2.1.1
  have e : (p.mems.getD i ax).words = (dK p i).words := rfl
  omega
 ·rw [show (gu p f).mems.getD i [] = tab (mr (p.mems.getD i ax) f) (p.mems.getD i ax).words.toNat from aL hi] at hj ⊢
  rw [aJ] at hj
  rw [aL hj]
  exact GX (hp.mw i hi).1 j
theorem IP {o n : Ci} {s : Ns} (h : nx o n s) (he : (af o n s).2 ≠ 150) : er n (af o n s).1 := by
 rcases pT (s := s) h.no h.nn with ⟨e, h1, h2⟩ | ⟨e, _⟩
 ·rw [e]
  refine ⟨aJ _ _, aJ _ _, fun i hi => ?_, fun k hk i hi => ?_, fun k hk ha hb => ?_⟩
  ·rw [show xZ _ i = ew o n s i from aL hi, sn h.no (h.rn i hi)]
   exact EZ (h.cn.pr i hi) _
  ·have e2 : jL (⟨tab (ew o n s) n.procs.length, tab (bP o n s) n.chans.length⟩ : Ns) k = bP o n s k := aL hk
   rw [e2] at hi ⊢
   rcases nz (s := s) h.no h.nn hk with h0 | ⟨j, hj, _, hw, e3⟩
   ·rw [h0] at hi; cases hi
   ·rw [e3] at hi ⊢
    have := h.so.cv j hj i hi
    have e4 : (d9 o j).w = (d9 n k).w := hw
    rw [e4] at this; exact this
  ·have e2 : jL (⟨tab (ew o n s) n.procs.length, tab (bP o n s) n.chans.length⟩ : Ns) k = bP o n s k := aL hk
   rw [e2]
   have hc := h.kn k hk ha hb
   have hb2 := h2 k hk
   unfold bz at hb2
   rw [decide_eq_true (show 0 < (n.chans.getD k aB).cap from hc), Bool.true_and, decide_eq_false_iff_not] at hb2
   exact Int.not_lt.1 hb2
 ·rw [e] at he; exact absurd rfl he
theorem E1 {o n : Ci} {s : Ns} (no : d7 o) (nn : d7 n) (h : (af o n s).2 = 0) : (af o n s).1 = ⟨tab (ew o n s) n.procs.length, tab (bP o n s) n.chans.length⟩ ∧ (∀ i, i < o.chans.length → jq o n s i = false) ∧ ∀ i, i < n.chans.length → bz o n s i = false := by
 rcases pT (s := s) no nn with ⟨e, h1, h2⟩ | ⟨e, _⟩
 ·rw [e]; exact ⟨rfl, h1, h2⟩
 ·rw [e] at h; cases h
theorem E3 {o n : Ci} {s : Ns} (hm : qq s 1000000) : qq (af o n s).1 1000000 := by
 intro k
 unfold af
 split
 ·exact Nat.zero_le _
 ·show ((tab (bP o n s) n.chans.length).getD k []).length ≤ _
  by_cases hi : k < n.chans.length
  ·rw [aL hi]; exact J5 hm k
  ·rw [vz (by omega)]; exact Nat.zero_le _
end Go.Proofs.Ytnlmlkbaflmgcaa
