/-
  The laws of networks, plain data: the environment.
-/
import Derived.Test.YtgmpoenfoacofaaGreatQNeU
namespace Go.Proofs.YtgmpoenfoacofaaGreat
open Go.RowKit
set_option linter.unusedVariables false
set_option linter.unusedSimpArgs false
section
variable {c : Ci} {s e : Ns}
def rf (c : Ci) : Nat → Ns → List Nat
 | 0, _ => []
 | n + 1, s => if aV c s < 0 then [] else (aV c s).toNat :: rf c n (aF c s (aH (aV c s).toNat))
theorem zK : ∀ {n : Nat} {s : Ns} {cnt : List Int}, (cC c n s cnt).2.2 = 0 → (rf c n s).length ≤ n ∧ zg c s (rf c n s) (cC c n s cnt).1 := by
 intro n
 induction n with
 | zero =>
  intro s cnt h
  by_cases hf : aV c s < 0
  ·rw [fA hf]
   rcases eZ c s with ⟨h1, h2⟩ | ⟨p, h1, _⟩
   ·exact ⟨Nat.le_refl _, trivial, rfl, h2⟩
   ·omega
  ·rw [gK hf] at h; cases h
 | succ n ih =>
  intro s cnt h
  by_cases hf : aV c s < 0
  ·rw [fA hf, rf, if_pos hf]
   rcases eZ c s with ⟨h1, h2⟩ | ⟨p, h1, _⟩
   ·exact ⟨Nat.zero_le _, trivial, rfl, h2⟩
   ·omega
  ·rw [qO hf] at h ⊢
   rw [rf, if_neg hf]
   rcases eZ c s with ⟨h1, h2⟩ | ⟨p, h1, hp, hcan⟩
   ·omega
   ·rw [h1] at h ⊢
    rw [Int.toNat_natCast] at h ⊢
    obtain ⟨g1, g2, g3, g4⟩ := ih (s := aF c s (aH p)) h
    exact ⟨by simp only [List.length_cons]; omega, ⟨hp, hcan, g2⟩, g3, g4⟩
def H3 (c : Ci) (s : Ns) : List Nat := rf c 40 s
theorem lO (hc : a8 c) (h : (bC c s 40).2.2 = 0) : (H3 c s).length ≤ 40 ∧ zg c s (H3 c s) (bC c s 40).1 ∧ (bC c s 40).2.1.length = c.procs.length ∧ ∀ q, q < c.procs.length → (bC c s 40).2.1.getD q 0 = ((H3 c s).count q : Nat) := by
 obtain ⟨h1, h2⟩ := zK (c := c) (s := s) (n := 40) (cnt := List.replicate c.procs.length 0) h
 obtain ⟨_, _, h3, h4⟩ := (DJ hc 40 h2 (cnt := List.replicate c.procs.length 0) List.length_replicate).1 h1
 refine ⟨h1, h2, h3, fun q hq => ?_⟩
 have := h4 q hq
 rw [show (List.replicate c.procs.length (0 : Int)).getD q 0 = 0 by simp [List.getD, hq]] at this
 unfold bC H3
 show (cC c 40 s _).2.1.getD q 0 = _
 omega
theorem Bc (hc : a8 c) : ∀ {l : List Nat} {s : Ns}, bG c s → bG c (f5 c s l)
 | [], _, h => h
 | _ :: r, _, h => Bc hc (l := r) (gi hc h _)
theorem GH (hc : a8 c) : ∀ {l : List Nat} {s : Ns} {k : Nat}, ir s k → ir (f5 c s l) (k + l.length)
 | [], _, _, h => h
 | p :: r, s, k, h => by
  have := GH hc (l := r) (s := aF c s (aH p)) (qV hc h)
  rw [show k + (p :: r : List Nat).length = k + 1 + r.length by simp only [List.length_cons]; omega]; exact this
theorem yf (hc : a8 c) (hs : bG c s) {l0 : List Nat} (h : zg c s l0 e) : bG c e := h.2.1 ▸ Bc hc hs
theorem yg (hc : a8 c) {k : Nat} (hm : ir s k) {l0 : List Nat} (h : zg c s l0 e) : ir e (k + l0.length) := h.2.1 ▸ GH hc hm
end
end Go.Proofs.YtgmpoenfoacofaaGreat

namespace Go.Proofs.YtgmpoenfoacofaaGreat
open Go.RowKit
set_option linter.unusedVariables false
set_option linter.unusedSimpArgs false
section
variable {c : Ci} {s : Ns} {n : Nat} {l : List Int}
theorem H4 (hs : bG c s) (hn : n < c.chans.length) (hw : (cL c n).w = 2) (hv : cE l 2 = true) (hf : (cL c n).frm = -1) : bG c (fg s n (ef s n ++ l)) := by
 refine CU hs hn (fun i hi => ?_) (fun a _ => by omega)
 rw [lv]
 split
 ·rename_i h; exact hs.cv n hn i h
 ·rename_i h
  rw [hw]
  rw [List.length_append] at hi
  exact tY.1 hv _ (by omega)
end
theorem rg (sh : Int) (b : List Int) {n : Nat} (h : n < (aa sh b).chans.length) : (cL (aa sh b) n).w = 2 := by
 have e : cL (aa sh b) n = sM sh (aj sh) n := bj (by simpa [aa, aJ] using h)
 rw [e]; rfl
theorem C0 (sh : Int) (b : List Int) : 1 ≤ (aa sh b).chans.length := by
 show 1 ≤ (tab _ _).length
 rw [aJ]; unfold jJ; omega
end Go.Proofs.YtgmpoenfoacofaaGreat
