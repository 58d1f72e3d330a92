/-
  Circuits, plain law: if firing ends, every order ends in the same state.
-/
import Derived.Test.YtckgpflobhpnpaaQNeC
namespace Go.Proofs.Ytckgpflobhpnpaa
open Go.RowKit
set_option linter.unusedVariables false
set_option linter.unusedSimpArgs false
section
variable {c : Ci} {s e : Ns} {w : Nat → Bool}
theorem Fq (hc : a8 c) {p : Nat} (hp : p < c.procs.length) (h1 : fC c s p = true) (hw : w p = false) : fC c (bp c s w) p = true := by
 unfold fC; rw [(s7 hc hp h1 hw).1]; exact h1
def gj (w : Nat → Bool) (P : Nat) : Nat → Bool := fun q => w q && decide (q < P)
theorem v4 (hs : jt c s) : bp c s w = bp c s (gj w c.procs.length) := by
 have h1 : ∀ q, q < c.procs.length → aq c s w q = aq c s (gj w c.procs.length) q := fun q hq => by unfold aq gj; simp [hq]
 have e1 : tab (cz c s w) c.procs.length = tab (cz c s (gj w c.procs.length)) c.procs.length := gO (fun q hq => by unfold cz; rw [h1 q hq])
 have e2 : tab (du c s w) c.chans.length = tab (du c s (gj w c.procs.length)) c.chans.length := gO (fun n hn => by
  unfold du
  have g1 : dt c s w n = dt c s (gj w c.procs.length) n := by
   unfold dt
   by_cases hd : gi c n < c.procs.length
   ·rw [h1 _ hd]
   ·rw [xv (by omega)]; simp
  have g2 : cy c s w n = cy c s (gj w c.procs.length) n := by
   unfold cy
   by_cases hd : ee c n < c.procs.length
   ·rw [h1 _ hd]
   ·rw [lx hd]; simp
  rw [g1, g2])
 unfold bp; rw [e1, e2]
end
end Go.Proofs.Ytckgpflobhpnpaa
