/-
  The laws of networks, plain data: the environment.
-/
import Derived.Test.YtgmpoenfoacofaaGreatQNeU
namespace Go.Proofs.YtgmpoenfoacofaaGreat
open Go.RowKit
set_option linter.unusedVariables false
set_option linter.unusedSimpArgs false
section
variable {c : Ci} {s e : Ns}
def qE (c : Ci) : Nat → Ns → List Nat
 | 0, _ => []
 | n + 1, s => if aV c s < 0 then [] else (aV c s).toNat :: qE c n (aG c s (aH (aV c s).toNat))
theorem yQ : ∀ {n : Nat} {s : Ns} {cnt : List Int}, (cA c n s cnt).2.2 = 0 → (qE c n s).length ≤ n ∧ yl c s (qE c n s) (cA c n s cnt).1 := by
 intro n
 induction n with
 | zero =>
  intro s cnt h
  by_cases hf : aV c s < 0
  ·rw [fp hf]
   rcases eS c s with ⟨h1, h2⟩ | ⟨p, h1, _⟩
   ·exact ⟨Nat.le_refl _, trivial, rfl, h2⟩
   ·omega
  ·rw [gB hf] at h; cases h
 | succ n ih =>
  intro s cnt h
  by_cases hf : aV c s < 0
  ·rw [fp hf, qE, if_pos hf]
   rcases eS c s with ⟨h1, h2⟩ | ⟨p, h1, _⟩
   ·exact ⟨Nat.zero_le _, trivial, rfl, h2⟩
   ·omega
  ·rw [qp hf] at h ⊢
   rw [qE, if_neg hf]
   rcases eS c s with ⟨h1, h2⟩ | ⟨p, h1, hp, hcan⟩
   ·omega
   ·rw [h1] at h ⊢
    rw [Int.toNat_natCast] at h ⊢
    obtain ⟨g1, g2, g3, g4⟩ := ih (s := aG c s (aH p)) h
    exact ⟨by simp only [List.length_cons]; omega, ⟨hp, hcan, g2⟩, g3, g4⟩
def Hk (c : Ci) (s : Ns) : List Nat := qE c 40 s
theorem lr (hc : a6 c) (h : (bD c s 40).2.2 = 0) : (Hk c s).length ≤ 40 ∧ yl c s (Hk c s) (bD c s 40).1 ∧ (bD c s 40).2.1.length = c.procs.length ∧ ∀ q, q < c.procs.length → (bD c s 40).2.1.getD q 0 = ((Hk c s).count q : Nat) := by
 obtain ⟨h1, h2⟩ := yQ (c := c) (s := s) (n := 40) (cnt := List.replicate c.procs.length 0) h
 obtain ⟨_, _, h3, h4⟩ := (CX hc 40 h2 (cnt := List.replicate c.procs.length 0) List.length_replicate).1 h1
 refine ⟨h1, h2, h3, fun q hq => ?_⟩
 have := h4 q hq
 rw [show (List.replicate c.procs.length (0 : Int)).getD q 0 = 0 by simp [List.getD, hq]] at this
 unfold bD Hk
 show (cA c 40 s _).2.1.getD q 0 = _
 omega
theorem Aj (hc : a6 c) : ∀ {l : List Nat} {s : Ns}, bH c s → bH c (fP c s l)
 | [], _, h => h
 | _ :: r, _, h => Aj hc (l := r) (f5 hc h _)
theorem FZ (hc : a6 c) : ∀ {l : List Nat} {s : Ns} {k : Nat}, ic s k → ic (fP c s l) (k + l.length)
 | [], _, _, h => h
 | p :: r, s, k, h => by
  have := FZ hc (l := r) (s := aG c s (aH p)) (qw hc h)
  rw [show k + (p :: r : List Nat).length = k + 1 + r.length by simp only [List.length_cons]; omega]; exact this
theorem xm (hc : a6 c) (hs : bH c s) {l0 : List Nat} (h : yl c s l0 e) : bH c e := h.2.1 ▸ Aj hc hs
theorem xn (hc : a6 c) {k : Nat} (hm : ic s k) {l0 : List Nat} (h : yl c s l0 e) : ic e (k + l0.length) := h.2.1 ▸ FZ hc hm
end
end Go.Proofs.YtgmpoenfoacofaaGreat

namespace Go.Proofs.YtgmpoenfoacofaaGreat
open Go.RowKit
set_option linter.unusedVariables false
set_option linter.unusedSimpArgs false
section
variable {c : Ci} {s : Ns} {n : Nat} {l : List Int}
theorem Hl (hs : bH c s) (hn : n < c.chans.length) (hw : (cL c n).w = 2) (hv : cD l 2 = true) (hf : (cL c n).frm = -1) : bH c (fa s n (d7 s n ++ l)) := by
 refine BZ hs hn (fun i hi => ?_) (fun a _ => by omega)
 rw [kV]
 split
 ·rename_i h; exact hs.cv n hn i h
 ·rename_i h
  rw [hw]
  rw [List.length_append] at hi
  exact tc.1 hv _ (by omega)
end
theorem qF (sh : Int) (b : List Int) {n : Nat} (h : n < (aa sh b).chans.length) : (cL (aa sh b) n).w = 2 := by
 have e : cL (aa sh b) n = r7 sh (aj sh) n := bh (by simpa [aa, aJ] using h)
 rw [e]; rfl
theorem B6 (sh : Int) (b : List Int) : 1 ≤ (aa sh b).chans.length := by
 show 1 ≤ (ao _ _).length
 rw [aJ]; unfold jp; omega
end Go.Proofs.YtgmpoenfoacofaaGreat
