/-
  The words of the channels, as the law of words asks for them.
-/
import Derived.Test.YtnlmlkbaflmgcaaQMjQ
namespace Go.Proofs.Ytnlmlkbaflmgcaa
open Go.RowKit
set_option linter.unusedVariables false
set_option linter.unusedSimpArgs false
def EM (o n : Ci) (s : Ns) (k : Nat) : Nat → List Int
 | 0 => []
 | i + 1 => if a6 o i = a6 n k ∧ (o.chans.getD i ax).w = (n.chans.getD k ax).w then s.chans.getD i [] else EM o n s k i
theorem ni {o n : Ci} {s : Ns} {k i : Nat} (h : a6 o i = a6 n k) (h2 : (o.chans.getD i ax).w = (n.chans.getD k ax).w) : EM o n s k (i + 1) = s.chans.getD i [] := if_pos ⟨h, h2⟩
theorem oL {o n : Ci} {s : Ns} {k i : Nat} (h : a6 o i ≠ a6 n k) : EM o n s k (i + 1) = EM o n s k i := if_neg (fun hh => h hh.1)
theorem qO {o n : Ci} {s : Ns} {k i : Nat} (h : ¬(o.chans.getD i ax).w = (n.chans.getD k ax).w) : EM o n s k (i + 1) = EM o n s k i := if_neg (fun hh => h hh.2)
theorem pI {o n : Ci} {s : Ns} {k : Nat} : ∀ m, (∀ i, i < m → a6 o i ≠ a6 n k) → EM o n s k m = []
 | 0, _ => rfl
 | m + 1, h => by rw [oL (h m (by omega)), pI m (fun i hi => h i (by omega))]
theorem xF {o n : Ci} {s : Ns} {k j : Nat} (e : a6 o j = a6 n k) : ∀ m, j < m → gx (a6 o) m → EM o n s k m = if (o.chans.getD j ax).w = (n.chans.getD k ax).w then s.chans.getD j [] else []
 | 0, h, _ => by omega
 | m + 1, h, hd => by
  by_cases hj : j = m
  ·subst hj
   split
   ·rename_i hw; exact ni e hw
   ·rename_i hw
    rw [qO hw]
    exact pI j (fun i hi => fun e2 => hd j (by omega) i hi (e2.trans e.symm))
  ·rw [oL (fun e2 => hd m (by omega) j (by omega) (e.trans e2.symm))]
   exact xF e m (by omega) (fun i hi => hd i (by omega))
theorem GE {o n : Ci} {s : Ns} (no : d5 o) (nn : d5 n) {k : Nat} (hk : k < n.chans.length) : EM o n s k o.chans.length = bP o n s k := by
 rcases Af (a6 o) o.chans.length (a6 n k) with ⟨i, hi, e⟩ | h
 ·rw [v6 no nn hi hk e, xF e _ hi no.cn]
 ·rw [AN no nn h, pI _ h]
theorem sF {o n : Ci} {s : Ns} (no : d5 o) (nn : d5 n) (h : (ae o n s).2 = 0) : (ae o n s).1 = ⟨tab (cO o n s) n.procs.length, tab (bP o n s) n.chans.length⟩ ∧ (∀ i, i < o.chans.length → mr o n s i = false) ∧ ∀ i, i < n.chans.length → bG o n s i = false := by
 rcases pH (s := s) no nn with ⟨e, h1, h2⟩ | ⟨e, _⟩
 ·rw [e]; exact ⟨rfl, h1, h2⟩
 ·rw [e] at h; cases h
theorem EN {o n : Ci} {s : Ns} (no : d5 o) (nn : d5 n) (h : (ae o n s).2 = 0) : (ae o n s).1.chans.length = n.chans.length ∧ (ae o n s).1.procs.length = n.procs.length := by
 rw [(sF no nn h).1]; exact ⟨aH _ _, aH _ _⟩
theorem EO {o n : Ci} {s : Ns} (no : d5 o) (nn : d5 n) (h : (ae o n s).2 = 0) {k : Nat} (hk : k < n.chans.length) : (ae o n s).1.chans.getD k [] = EM o n s k o.chans.length := by
 rw [(sF no nn h).1, GE no nn hk]
 exact aR hk
theorem uA {o n : Ci} {i : Nat} : ∀ d, ∃ r, aK o n (i + d) = aK o n i ++ r ∧ ∀ x ∈ r, ∃ j, i ≤ j ∧ j < i + d ∧ a6 o j = x
 | 0 => ⟨[], by simp, fun x hx => by cases hx⟩
 | d + 1 => by
  obtain ⟨r, e, h⟩ := uA (o := o) (n := n) (i := i) d
  rw [show i + (d + 1) = (i + d) + 1 by omega, aK, e]
  refine ⟨r ++ (if ff o n (i + d) = true then [a6 o (i + d)] else []), by rw [List.append_assoc], fun x hx => ?_⟩
  rcases List.mem_append.1 hx with h1 | h1
  ·obtain ⟨j, a, b, c⟩ := h x h1; exact ⟨j, a, by omega, c⟩
  ·split at h1
   ·exact ⟨i + d, by omega, by omega, (List.mem_singleton.1 h1).symm⟩
   ·cases h1
theorem AQ {o n : Ci} (no : d5 o) {i q : Nat} (hi : i < o.chans.length) (hq : q = (aK o n i).length) :
  (q < (aK o n o.chans.length).length ∧ (aK o n o.chans.length).getD q .empty = a6 o i) ↔ ff o n i = true := by
 obtain ⟨r, e, h⟩ := uA (o := o) (n := n) (i := i + 1) (o.chans.length - (i + 1))
 rw [show i + 1 + (o.chans.length - (i + 1)) = o.chans.length by omega] at e h
 subst hq
 rw [e, aK]
 by_cases hm : ff o n i = true
 ·rw [if_pos hm]
  refine ⟨fun _ => hm, fun _ => ⟨by first | (simp; done) | (simp; omega), ?_⟩⟩
  simp [List.getD]
 ·rw [if_neg hm, List.append_nil]
  refine ⟨fun ⟨h1, h2⟩ => ?_, fun h => absurd h hm⟩
  exfalso
  rw [List.length_append] at h1
  have hr : 0 < r.length := by omega
  have h3 : (aK o n i ++ r).getD (aK o n i).length .empty = r[0] := by simp [List.getD, hr]
  rw [h3] at h2
  obtain ⟨j, a, b, c⟩ := h r[0] (List.getElem_mem hr)
  exact no.cn j (by omega) i (by omega) (h2.symm.trans c.symm)
theorem sG {o n : Ci} (no : d5 o) {i q : Nat} (hi : i < o.chans.length) (hq : q = (aK o n i).length) : (aK o n (i + 1)).length = if q < (aK o n o.chans.length).length ∧ (aK o n o.chans.length).getD q .empty = a6 o i then q + 1 else q := by
 have h := AQ no hi hq
 by_cases hm : ff o n i = true
 ·rw [if_pos (h.2 hm), rS hm, List.length_append, hq]; rfl
 ·rw [if_neg (fun hh => hm (h.1 hh)), ← qA hm, hq]
theorem EP {o n : Ci} {s : Ns} (no : d5 o) (nn : d5 n) (hc : (ae o n s).2 = 0) {i q : Nat} (hi : i < o.chans.length) (hq : q = (aK o n i).length) (h1 : q < (aK o n o.chans.length).length) (h2 : (aK o n o.chans.length).getD q .empty = a6 o i) : ¬((s.chans.getD i []).length : Int) > 0 := by
 have hm := (AQ no hi hq).1 ⟨h1, h2⟩
 have hb := (sF no nn hc).2.1 i hi
 unfold mr at hb
 rw [qN no hi, ← w7 nn.cn, hm, Bool.true_and, decide_eq_false_iff_not] at hb
 omega
theorem uB {o n : Ci} {s : Ns} (h : ¬(ae o n s).2 = 0) : (ae o n s).1.chans.length = 0 ∧ (ae o n s).1.procs.length = 0 := by
 rcases AO (o := o) (n := n) (s := s) with e | e
 ·rw [AP e]; exact ⟨rfl, rfl⟩
 ·exact absurd e h
theorem ER {o n : Ci} {s : Ns} (hm : pX s 1000000) : pX (ae o n s).1 1000000 := by
 intro k
 unfold ae
 split
 ·exact Nat.zero_le _
 ·show ((tab (bP o n s) n.chans.length).getD k []).length ≤ _
  by_cases hi : k < n.chans.length
  ·rw [aR hi]; exact G3 hm k
  ·rw [nZ (by omega)]; exact Nat.zero_le _
theorem fM {x y : ByteArray} (h : (x.toList == y.toList) = true) : x = y := by rw [iu] at h; exact of_decide_eq_true h
theorem ka {x y : ByteArray} (h : ¬(x.toList == y.toList) = true) : x ≠ y := fun e => h (by rw [iu]; exact decide_eq_true e)
theorem yW {x y : ByteArray} (h : (x.toList == y.toList) = false) : x ≠ y := ka (by rw [h]; simp)
theorem JX {o n : Ci} {s : Ns} (h : (ae o n s).2 ≠ 150) : (ae o n s).2 = 0 := by
 rcases AO (o := o) (n := n) (s := s) with e | e
 ·exact absurd e h
 ·exact e
end Go.Proofs.Ytnlmlkbaflmgcaa
