/-
  The laws of networks, plain data: sizes of what runs, ends, feeding and collecting leave.
-/
import Derived.Test.YtifoecfajmnjjaaGreatQNeU
import Derived.Test.YtifoecfajmnjjaaGreatQNeZ
namespace Go.Proofs.YtifoecfajmnjjaaGreat
open Go.RowKit
set_option linter.unusedVariables false
set_option linter.unusedSimpArgs false
section
variable {c : Ci} {s : Ns}
theorem Ij (hc : bK c) : ∀ {n : Nat} {s : Ns} {cnt : List Int} {k : Nat}, bX c s → fD s k → bX c (cB c n s cnt).1 ∧ fD (cB c n s cnt).1 (k + n) := by
 intro n
 induction n with
 | zero => intro s cnt k hs hm; rw [cB]; split <;> exact ⟨hs, hm⟩
 | succ n ih =>
  intro s cnt k hs hm
  rw [cB]
  split
  ·exact ⟨hs, fun m => Nat.le_trans (hm m) (by omega)⟩
  ·have := ih (cnt := cnt.set (a5 c s).toNat (cnt.getD (a5 c s).toNat 0 + 1)) (fO hc hs (vf (a5 c s).toNat)) (gC hc hm)
   exact ⟨this.1, fun m => Nat.le_trans (this.2 m) (by omega)⟩
theorem FB (hc : bK c) (hs : bX c s) (hm : fD s 100) {b : Int} (hb : b ≤ 1000000) : CT (aQ c s b).1 := by
 have := Ij hc (n := b.toNat) (cnt := List.replicate c.procs.length 0) hs hm
 exact kB hc this.1 (fun m => Nat.le_trans (this.2 m) (by omega))
theorem GG : ∀ {n : Nat} {s : Ns} {cnt : List Int}, (cB c n s cnt).2.1.length = cnt.length := by
 intro n
 induction n with
 | zero => intro s cnt; rw [cB]; split <;> rfl
 | succ n ih =>
  intro s cnt
  rw [cB]
  split
  ·rfl
  ·rw [ih, List.length_set]
theorem BV (b : Int) : (aQ c s b).2.1.length = c.procs.length := by unfold aQ; rw [GG, List.length_replicate]
theorem BW (hz : CT s) {n : Nat} {l : List Int} (hl : l.length ≤ 1000000) : CT (dp s n l) := by
 obtain ⟨h1, h2, h3, h4, h5, h6⟩ := hz
 refine ⟨h1, by show (s.chans.set n l).length ≤ _; simpa using h2, fun m => ?_, h4, h5, h6⟩
 show ((s.chans.set n l).getD m []).length ≤ _
 by_cases hn : n < s.chans.length
 ·rw [bV hn]; split
  ·omega
  ·exact h3 m
 ·rw [List.set_eq_of_length_le (by omega)]; exact h3 m
theorem sB (hz : CT s) (hm : fD s 100) {n : Int} {ws : List Int} (hw : ws.length ≤ 1000) : CT (ak c s n ws).1 := by
 by_cases h : dF (·.frm) c n = true
 ·by_cases h2 : b6 ws (fF c n.toNat).w = true
  ·rw [ib h h2]
   refine BW hz ?_
   have : (iX s n.toNat).length ≤ 100 := hm n.toNat
   rw [List.length_append]; omega
  ·rw [fu h2]; exact Af
 ·rw [lR h]; exact Af
theorem BX (hz : CT s) {n : Int} : CT (aH c s n).2.1 := by
 by_cases h : dF (·.dst) c n = true
 ·rw [dG h]; exact BW hz (by simp)
 ·rw [pS h]; exact Af
theorem yN (hm : fD s 100) {n : Int} : (aH c s n).1.length ≤ 100 := by
 by_cases h : dF (·.dst) c n = true
 ·rw [dG h]; exact hm n.toNat
 ·rw [pS h]; simp
theorem FC (hc : bK c) : ∀ {l : List ByteArray} {s : Ns} {k : Nat}, bX c s → fD s k → bX c (co c s l) ∧ fD (co c s l) (k + l.length)
 | [], _, _, hs, hm => ⟨hs, hm⟩
 | a :: r, s, k, hs, hm => by
  have := FC hc (l := r) (fO hc hs (aF c a)) (gC hc hm)
  exact ⟨this.1, fun m => Nat.le_trans (this.2 m) (by simp only [List.length_cons]; omega)⟩
theorem GH (hc : bK c) (hs : bX c s) (hm : fD s 100) {l : List ByteArray} (hl : l.length ≤ 1000000) : CT (co c s l) := by
 have := FC hc (l := l) hs hm
 exact kB hc this.1 (fun m => Nat.le_trans (this.2 m) (by omega))
theorem yO : fD (ao c) 4294967296 := fun n => by
 show ((List.replicate c.chans.length ([] : List Int)).getD n []).length ≤ _
 rw [List.getD, List.getElem?_replicate]
 split <;> simp
end
end Go.Proofs.YtifoecfajmnjjaaGreat
