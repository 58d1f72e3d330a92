/-
  Circuits, plain law: if firing ends, every order ends in the same state.
-/
import Derived.Test.YtifoecfajmnjjaaGreatQNeC
namespace Go.Proofs.YtifoecfajmnjjaaGreat
open Go.RowKit
set_option linter.unusedVariables false
set_option linter.unusedSimpArgs false
section
variable {c : Ci} {s e : Ns} {w : Nat → Bool}
def Ks (c : Ci) (s : Ns) : Prop := ∀ p, p < c.procs.length → fN c s p = false
def ft (c : Ci) (s : Ns) : Nat → Nat → Int
 | 0, _ => -1
 | n + 1, k => if fN c s k = true then k else ft c s n (k + 1)
def a5 (c : Ci) (s : Ns) : Int := ft c s c.procs.length 0
theorem pP : ∀ (n k : Nat), (ft c s n k = -1 ∧ ∀ p, k ≤ p → p < k + n → fN c s p = false) ∨ ∃ p : Nat, ft c s n k = p ∧ k ≤ p ∧ p < k + n ∧ fN c s p = true
 | 0, k => .inl ⟨rfl, fun p h1 h2 => by omega⟩
 | n + 1, k => by
  rw [ft]
  split
  ·rename_i h; exact .inr ⟨k, rfl, Nat.le_refl _, by omega, h⟩
  ·rename_i h
   rcases pP n (k + 1) with ⟨h1, h2⟩ | ⟨p, h1, h2, h3, h4⟩
   ·refine .inl ⟨h1, fun p g1 g2 => ?_⟩
    by_cases e : p = k
    ·subst e; simpa using h
    ·exact h2 p (by omega) (by omega)
   ·exact .inr ⟨p, h1, by omega, by omega, h4⟩
theorem yf (c : Ci) (s : Ns) : (a5 c s = -1 ∧ Ks c s) ∨ ∃ p : Nat, a5 c s = p ∧ p < c.procs.length ∧ fN c s p = true := by
 rcases pP (c := c) (s := s) c.procs.length 0 with ⟨h1, h2⟩ | ⟨p, h1, h2, h3, h4⟩
 ·exact .inl ⟨h1, fun p hp => h2 p (Nat.zero_le _) (by omega)⟩
 ·exact .inr ⟨p, h1, by omega, h4⟩
theorem vg {k : Nat} (hk : k < c.procs.length) (h : ¬fN c s k = true) : ft c s (c.procs.length - k) k = ft c s (c.procs.length - (k + 1)) (k + 1) := by
 rw [show c.procs.length - k = (c.procs.length - (k + 1)) + 1 by omega, ft, if_neg h]
theorem og {k : Nat} (hk : k < c.procs.length) (h : fN c s k = true) : ft c s (c.procs.length - k) k = k := by
 rw [show c.procs.length - k = (c.procs.length - (k + 1)) + 1 by omega, ft, if_pos h]
theorem oh {k : Nat} (hk : ¬k < c.procs.length) : ft c s (c.procs.length - k) k = -1 := by
 rw [show c.procs.length - k = 0 by omega, ft]
def cB (c : Ci) : Nat → Ns → List Int → Ns × List Int × Int
 | 0, s, cnt => if a5 c s < 0 then (s, cnt, 0) else (s, cnt, 7)
 | n + 1, s, cnt => if a5 c s < 0 then (s, cnt, 0) else cB c n (aD c s (vf (a5 c s).toNat)) (cnt.set (a5 c s).toNat (cnt.getD (a5 c s).toNat 0 + 1))
theorem kn {n : Nat} {cnt : List Int} (h : a5 c s < 0) : cB c n s cnt = (s, cnt, 0) := by
 cases n with
 | zero => rw [cB, if_pos h]
 | succ n => rw [cB, if_pos h]
theorem gS {cnt : List Int} (h : ¬a5 c s < 0) : cB c 0 s cnt = (s, cnt, 7) := by rw [cB, if_neg h]
theorem vi {n : Nat} {cnt : List Int} (h : ¬a5 c s < 0) : cB c (n + 1) s cnt = cB c n (aD c s (vf (a5 c s).toNat)) (cnt.set (a5 c s).toNat (cnt.getD (a5 c s).toNat 0 + 1)) := by
 rw [cB, if_neg h]
def kZ (w : Nat → Bool) (P : Nat) : Nat → Bool := fun q => w q && decide (q < P)
theorem pQ (hs : bX c s) : aD c s w = aD c s (kZ w c.procs.length) := by
 have h1 : ∀ q, q < c.procs.length → ax c s w q = ax c s (kZ w c.procs.length) q := fun q hq => by unfold ax kZ; simp [hq]
 have e1 : aq (cb c s w) c.procs.length = aq (cb c s (kZ w c.procs.length)) c.procs.length := mj (fun q hq => by unfold cb; rw [h1 q hq])
 have e2 : aq (fq c s w) c.chans.length = aq (fq c s (kZ w c.procs.length)) c.chans.length := mj (fun n hn => by
  unfold fq
  have g1 : fG c s w n = fG c s (kZ w c.procs.length) n := by
   unfold fG
   by_cases hd : qR c n < c.procs.length
   ·rw [h1 _ hd]
   ·rw [ye (by omega)]; simp
  have g2 : fp c s w n = fp c s (kZ w c.procs.length) n := by
   unfold fp
   by_cases hd : lL c n < c.procs.length
   ·rw [h1 _ hd]
   ·rw [lN hd]; simp
  rw [g1, g2])
 unfold aD; rw [e1, e2]
end
end Go.Proofs.YtifoecfajmnjjaaGreat
