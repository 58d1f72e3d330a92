/-
  The laws of networks, plain data: sizes of what runs, ends, feeding and collecting leave.
-/
import Derived.Test.YtgmpoenfoacofaaGreatQShG
namespace Go.Proofs.YtgmpoenfoacofaaGreat
open Go.RowKit
set_option linter.unusedVariables false
set_option linter.unusedSimpArgs false
section
variable {c : Ci} {s : Ns}
theorem Jl (hz : Dx s) {n : Nat} {l : List Int} (hl : l.length ≤ 1000000) : Dx (d9 s n l) := by
 obtain ⟨h1, h2, h3, h4, h5, h6⟩ := hz
 refine ⟨h1, by show (s.chans.set n l).length ≤ _; simpa using h2, fun m => ?_, h4, h5, h6⟩
 show ((s.chans.set n l).getD m []).length ≤ _
 by_cases hn : n < s.chans.length
 ·rw [ce hn]; split
  ·omega
  ·exact h3 m
 ·rw [List.set_eq_of_length_le (by omega)]; exact h3 m
theorem D9 (hz : Dx s) (hm : ga s 100) {n : Int} {ws : List Int} (hw : ws.length ≤ 1000) : Dx (aF c s n ws).1 := by
 by_cases h : gw (·.frm) c n = true
 ·by_cases h2 : cA ws (dt c n.toNat).w = true
  ·rw [fS h h2]
   refine Jl hz ?_
   have : (fh s n.toNat).length ≤ 100 := hm n.toNat
   rw [List.length_append]; omega
  ·rw [fB h2]; exact r9
 ·rw [mg h]; exact r9
theorem se (hc : bo c) : ∀ {l : List ByteArray} {s : Ns} {k : Nat}, bG c s → ga s k → bG c (aB c s l) ∧ ga (aB c s l) (k + l.length)
 | [], _, _, hs, hm => ⟨hs, hm⟩
 | a :: r, s, k, hs, hm => by
  have := se hc (l := r) (pb hc hs (bA c a)) (vg hc hm)
  exact ⟨this.1, fun m => Nat.le_trans (this.2 m) (by simp only [List.length_cons]; omega)⟩
theorem Mr (hc : bo c) (hs : bG c s) (hm : ga s 100) {l : List ByteArray} (hl : l.length ≤ 1000000) : Dx (aB c s l) := by
 have := se hc (l := l) hs hm
 exact BU hc this.1 (fun m => Nat.le_trans (this.2 m) (by omega))
end
end Go.Proofs.YtgmpoenfoacofaaGreat
