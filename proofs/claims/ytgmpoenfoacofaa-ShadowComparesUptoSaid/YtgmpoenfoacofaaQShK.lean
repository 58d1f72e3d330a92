/-
  The laws of shadows, plain data: a first difference stays.
-/
import Derived.Test.YtgmpoenfoacofaaQShG
namespace Go.Proofs.Ytgmpoenfoacofaa
open Go.RowKit
set_option linter.unusedVariables false
set_option linter.unusedSimpArgs false
theorem nU {a b : List Int} (h : 0 ≤ bE a b) : ∃ d : Nat, bE a b = (d : Int) ∧ d < a.length ∧ d < b.length ∧ a.getD d 0 ≠ b.getD d 0 ∧ ∀ z, z < d → a.getD z 0 = b.getD z 0 := by
 obtain ⟨d, h1, h2, h3, h4⟩ := f4 h
 refine ⟨d, h2, by omega, by omega, ?_, fun z hz => ?_⟩
 ·unfold gf at h3; simpa using h3
 ·have := h4 z hz; unfold gf at this; simpa using this
theorem uR {a b : List Int} {d : Nat} (h1 : d < a.length) (h2 : d < b.length) (h3 : a.getD d 0 ≠ b.getD d 0) (h4 : ∀ z, z < d → a.getD z 0 = b.getD z 0) : bE a b = (d : Int) :=
 a4 (f := gf a b) (by unfold gf; rw [decide_eq_false h3]; rfl) (fun z hz => by unfold gf; rw [decide_eq_true (h4 z hz)]; rfl) (by omega)
theorem vV {a b a' b' : List Int} (ha : a <+: a') (hb : b <+: b') (h : 0 ≤ bE a b) : bE a' b' = bE a b := by
 obtain ⟨d, e, h1, h2, h3, h4⟩ := nU h
 have la := ha.length_le
 have lb := hb.length_le
 rw [e]
 refine uR (by omega) (by omega) ?_ (fun z hz => ?_)
 ·rw [← dQ ha h1, ← dQ hb h2]; exact h3
 ·rw [← dQ ha (show z < a.length by omega), ← dQ hb (show z < b.length by omega)]; exact h4 z hz
structure mK (a a' : List Sm) : Prop where
 l : a.length = a'.length
 n : ∀ i, i < a.length → (a.getD i aB).name = (a'.getD i aB).name
 w : ∀ i, i < a.length → (a.getD i aB).words <+: (a'.getD i aB).words
theorem j7 {a b : List Sm} {i : Nat} (h : cz a b i = true) : 0 ≤ au b (a.getD i aB).name ∧ au a (a.getD i aB).name = (i : Int) ∧ 0 ≤ bE (a.getD i aB).words (bC b (au b (a.getD i aB).name)) := by
 unfold cz at h
 simp only [Bool.and_eq_true, decide_eq_true_eq] at h
 exact ⟨h.1, h.2.1, h.2.2⟩
theorem sW {a a' b b' : List Sm} (ha : mK a a') (hb : mK b b') {i : Nat} (hi : i < a.length) (h : cz a b i = true) : cz a' b' i = true ∧ pu a' b' i = pu a b i := by
 obtain ⟨h1, h2, h3⟩ := j7 h
 have hn := ha.n i hi
 have f1 : au a' (a'.getD i aB).name = (i : Int) := by rw [jb ha.l ha.n, ← hn]; exact h2
 have f2 : au b' (a'.getD i aB).name = au b (a.getD i aB).name := by rw [jb hb.l hb.n, ← hn]
 have hlt := vE (l := b) (nm := (a.getD i aB).name)
 have hd : bE (a'.getD i aB).words (bC b' (au b' (a'.getD i aB).name)) = bE (a.getD i aB).words (bC b (au b (a.getD i aB).name)) := by
  rw [f2]
  refine vV (ha.w i hi) ?_ h3
  show (cj b _).words <+: (cj b' _).words
  rw [fy (by omega), fy (by omega)]
  exact hb.w _ (by omega)
 refine ⟨f5 f1 (by rw [f2]; omega) (by rw [hd]; exact h3), ?_⟩
 unfold pu
 rw [hd, hn]
theorem lI (a b : List Sm) : ((∀ z, z < a.length → cz a b z = false) ∧ aG a b = ⟨e0, 0, true⟩) ∨ ∃ i, i < a.length ∧ cz a b i = true ∧ (∀ z, z < i → cz a b z = false) ∧ aG a b = pu a b i := by
 by_cases h : 0 ≤ sP a b
 ·obtain ⟨i, h1, h2, h3, h4⟩ := f4 h
  exact .inr ⟨i, h1, h3, h4, lk h1 h3 h4⟩
 ·have := qI (show aW (cz a b) a.length < 0 by unfold sP at h; omega)
  exact .inl ⟨this, io this⟩
theorem lJ {l : List Sm} {x y : ByteArray} (h : (x.toList == y.toList) = true) : au l x = au l y := by
 rw [beq_iff_eq] at h
 unfold au
 refine da (fun z _ => ?_)
 unfold qJ
 rw [h]
end Go.Proofs.Ytgmpoenfoacofaa
