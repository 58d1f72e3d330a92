/-
  Circuits, plain law: if firing ends, every order ends in the same state.
-/
import Derived.Test.YtifoecfajmnjjaaGreatQNeC
namespace Go.Proofs.YtifoecfajmnjjaaGreat
open Go.RowKit
set_option linter.unusedVariables false
set_option linter.unusedSimpArgs false
section
variable {c : Ci} {s e : Ns} {w : Nat → Bool}
theorem E4 (hc : bM c) {p : Nat} (hp : p < c.procs.length) (h1 : dG c s p = true) (hw : w p = false) : dG c (aA c s w) p = true := by
 unfold dG; rw [(w4 hc hp h1 hw).1]; exact h1
def i5 (c : Ci) (s : Ns) : Nat → Nat → Int
 | 0, _ => -1
 | n + 1, k => if dG c s k = true then k else i5 c s n (k + 1)
def fg (c : Ci) (s : Ns) : Int := i5 c s c.procs.length 0
theorem Bk {k : Nat} (hk : k < c.procs.length) (h : ¬dG c s k = true) : i5 c s (c.procs.length - k) k = i5 c s (c.procs.length - (k + 1)) (k + 1) := by
 rw [show c.procs.length - k = (c.procs.length - (k + 1)) + 1 by omega, i5, if_neg h]
theorem yA {k : Nat} (hk : k < c.procs.length) (h : dG c s k = true) : i5 c s (c.procs.length - k) k = k := by
 rw [show c.procs.length - k = (c.procs.length - (k + 1)) + 1 by omega, i5, if_pos h]
theorem yB {k : Nat} (hk : ¬k < c.procs.length) : i5 c s (c.procs.length - k) k = -1 := by
 rw [show c.procs.length - k = 0 by omega, i5]
def fh (c : Ci) : Nat → Ns → List Int → Ns × List Int × Int
 | 0, s, cnt => if fg c s < 0 then (s, cnt, 0) else (s, cnt, 7)
 | n + 1, s, cnt => if fg c s < 0 then (s, cnt, 0) else fh c n (aA c s (cP (fg c s).toNat)) (cnt.set (fg c s).toNat (cnt.getD (fg c s).toNat 0 + 1))
theorem sv {n : Nat} {cnt : List Int} (h : fg c s < 0) : fh c n s cnt = (s, cnt, 0) := by
 cases n with
 | zero => rw [fh, if_pos h]
 | succ n => rw [fh, if_pos h]
theorem o6 {cnt : List Int} (h : ¬fg c s < 0) : fh c 0 s cnt = (s, cnt, 7) := by rw [fh, if_neg h]
theorem Bl {n : Nat} {cnt : List Int} (h : ¬fg c s < 0) : fh c (n + 1) s cnt = fh c n (aA c s (cP (fg c s).toNat)) (cnt.set (fg c s).toNat (cnt.getD (fg c s).toNat 0 + 1)) := by
 rw [fh, if_neg h]
def li (w : Nat → Bool) (P : Nat) : Nat → Bool := fun q => w q && decide (q < P)
theorem lU (hs : cr c s) : aA c s w = aA c s (li w c.procs.length) := by
 have h1 : ∀ q, q < c.procs.length → aq c s w q = aq c s (li w c.procs.length) q := fun q hq => by unfold aq li; simp [hq]
 have e1 : ap (bB c s w) c.procs.length = ap (bB c s (li w c.procs.length)) c.procs.length := gL (fun q hq => by unfold bB; rw [h1 q hq])
 have e2 : ap (cB c s w) c.chans.length = ap (cB c s (li w c.procs.length)) c.chans.length := gL (fun n hn => by
  unfold cB
  have g1 : df c s w n = df c s (li w c.procs.length) n := by
   unfold df
   by_cases hd : iA c n < c.procs.length
   ·rw [h1 _ hd]
   ·rw [w5 (by omega)]; simp
  have g2 : cI c s w n = cI c s (li w c.procs.length) n := by
   unfold cI
   by_cases hd : ff c n < c.procs.length
   ·rw [h1 _ hd]
   ·rw [lh hd]; simp
  rw [g1, g2])
 unfold aA; rw [e1, e2]
end
end Go.Proofs.YtifoecfajmnjjaaGreat
