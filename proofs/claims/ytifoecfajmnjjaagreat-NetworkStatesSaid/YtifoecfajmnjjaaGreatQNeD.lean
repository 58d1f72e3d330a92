/-
  Circuits, plain law: if firing ends, every order ends in the same state.
-/
import Derived.Test.YtifoecfajmnjjaaGreatQNeC
namespace Go.Proofs.YtifoecfajmnjjaaGreat
open Go.RowKit
set_option linter.unusedVariables false
set_option linter.unusedSimpArgs false
section
variable {c : Ci} {s e : Ns} {w : Nat → Bool}
def jl (c : Ci) (s : Ns) : Nat → Nat → Int
 | 0, _ => -1
 | n + 1, k => if iR c s k = true then k else jl c s n (k + 1)
def fB (c : Ci) (s : Ns) : Int := jl c s c.procs.length 0
theorem Br {k : Nat} (hk : k < c.procs.length) (h : ¬iR c s k = true) : jl c s (c.procs.length - k) k = jl c s (c.procs.length - (k + 1)) (k + 1) := by
 rw [show c.procs.length - k = (c.procs.length - (k + 1)) + 1 by omega, jl, if_neg h]
theorem yI {k : Nat} (hk : k < c.procs.length) (h : iR c s k = true) : jl c s (c.procs.length - k) k = k := by
 rw [show c.procs.length - k = (c.procs.length - (k + 1)) + 1 by omega, jl, if_pos h]
theorem yJ {k : Nat} (hk : ¬k < c.procs.length) : jl c s (c.procs.length - k) k = -1 := by
 rw [show c.procs.length - k = 0 by omega, jl]
def fC (c : Ci) : Nat → Ns → List Int → Ns × List Int × Int
 | 0, s, cnt => if fB c s < 0 then (s, cnt, 0) else (s, cnt, 7)
 | n + 1, s, cnt => if fB c s < 0 then (s, cnt, 0) else fC c n (aD c s (xj (fB c s).toNat)) (cnt.set (fB c s).toNat (cnt.getD (fB c s).toNat 0 + 1))
theorem sM {n : Nat} {cnt : List Int} (h : fB c s < 0) : fC c n s cnt = (s, cnt, 0) := by
 cases n with
 | zero => rw [fC, if_pos h]
 | succ n => rw [fC, if_pos h]
theorem pB {cnt : List Int} (h : ¬fB c s < 0) : fC c 0 s cnt = (s, cnt, 7) := by rw [fC, if_neg h]
theorem Bs {n : Nat} {cnt : List Int} (h : ¬fB c s < 0) : fC c (n + 1) s cnt = fC c n (aD c s (xj (fB c s).toNat)) (cnt.set (fB c s).toNat (cnt.getD (fB c s).toNat 0 + 1)) := by
 rw [fC, if_neg h]
def mX (w : Nat → Bool) (P : Nat) : Nat → Bool := fun q => w q && decide (q < P)
theorem rE (hs : cT c s) : aD c s w = aD c s (mX w c.procs.length) := by
 have h1 : ∀ q, q < c.procs.length → ai c s w q = ai c s (mX w c.procs.length) q := fun q hq => by unfold ai mX; simp [hq]
 have e1 : an (bX c s w) c.procs.length = an (bX c s (mX w c.procs.length)) c.procs.length := qy (fun q hq => by unfold bX; rw [h1 q hq])
 have e2 : an (ff c s w) c.chans.length = an (ff c s (mX w c.procs.length)) c.chans.length := qy (fun n hn => by
  unfold ff
  have g1 : dt c s w n = dt c s (mX w c.procs.length) n := by
   unfold dt
   by_cases hd : fK c n < c.procs.length
   ·rw [h1 _ hd]
   ·rw [xi (by omega)]; simp
  have g2 : dk c s w n = dk c s (mX w c.procs.length) n := by
   unfold dk
   by_cases hd : gX c n < c.procs.length
   ·rw [h1 _ hd]
   ·rw [lz hd]; simp
  rw [g1, g2])
 unfold aD; rw [e1, e2]
end
end Go.Proofs.YtifoecfajmnjjaaGreat
