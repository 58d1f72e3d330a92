/-
  The laws of shadows, plain data: circuits that have fired in different orders have streams that agree.
-/
import Derived.Test.YtgmpoenfoacofaaQShF
import Derived.Test.YtgmpoenfoacofaaQNeU
namespace Go.Proofs.Ytgmpoenfoacofaa
open Go.RowKit
set_option linter.unusedVariables false
set_option linter.unusedSimpArgs false
section
variable {c : Ci} {s t u v : Ns} {w : Nat → Bool} {p n : Nat} {l : List Int}
def Reach (c : Ci) (s t : Ns) : Prop := ∃ l, ub c s l ∧ xZ c s l = t
end
theorem da {f g : Nat → Bool} : ∀ {n : Nat}, (∀ z, z < n → f z = g z) → aW f n = aW g n
 | 0, _ => rfl
 | n + 1, h => by
  rw [aW, aW, da (fun z hz => h z (by omega)), h n (by omega)]
  have : cZ (fun i => !f i) n = cZ (fun i => !g i) n := by
   cases h1 : cZ (fun i => !g i) n
   ·cases h2 : cZ (fun i => !f i) n
    ·rfl
    ·rw [bn] at h2
     have h3 : cZ (fun i => !g i) n = true := bn.2 (fun i hi => by rw [← h i (by omega)]; exact h2 i hi)
     rw [h3] at h1; cases h1
   ·rw [bn] at h1
    exact bn.2 (fun i hi => by rw [h i (by omega)]; exact h1 i hi)
  rw [this]
theorem jb {a b : List Sm} (hl : a.length = b.length) (hn : ∀ i, i < a.length → (a.getD i aB).name = (b.getD i aB).name) (nm : ByteArray) : au b nm = au a nm := by
 unfold au
 rw [hl]
 refine da (fun z hz => ?_)
 unfold qJ
 rw [hn z (by omega)]
theorem dQ {a b : List Int} (h : a <+: b) {z : Nat} (hz : z < a.length) : a.getD z 0 = b.getD z 0 := by
 obtain ⟨r, rfl⟩ := h
 rw [t9, if_pos hz]
theorem vU {a b : List Int} (h : a <+: b ∨ b <+: a) : bE a b = -1 := by
 refine a9 (fun z hz => ?_)
 unfold gf
 rw [decide_eq_true]
 ·rfl
 ·rcases h with h | h
  ·exact dQ h (by omega)
  ·exact (dQ h (by omega)).symm
theorem w9 {a b : List Sm} (hl : a.length = b.length) (hn : ∀ i, i < a.length → (a.getD i aB).name = (b.getD i aB).name) (hw : ∀ i, i < a.length → (a.getD i aB).words <+: (b.getD i aB).words ∨ (b.getD i aB).words <+: (a.getD i aB).words) : aG a b = ⟨e0, 0, true⟩ := by
 refine io (fun z hz => ?_)
 by_cases h1 : au a (a.getD z aB).name = (z : Int)
 ·by_cases h2 : au b (a.getD z aB).name < 0
  ·exact eN h2
  ·refine eO ?_
   rw [jb hl hn, h1] at h2 ⊢
   show ¬0 ≤ bE (a.getD z aB).words (cj b (z : Int)).words
   rw [fy h2, Int.toNat_natCast, vU (hw z hz)]
   omega
 ·exact ip h1
theorem r6 {a b : List Sm} (h : aG a b = ⟨e0, 0, true⟩) : ((aG a b).name.toList == e0.toList && ((aG a b).pos == 0 && (aG a b).is == true)) = true := by
 rw [h]
 show (e0.toList == e0.toList && _) = true
 rw [beq_self_eq_true]; rfl
end Go.Proofs.Ytgmpoenfoacofaa
