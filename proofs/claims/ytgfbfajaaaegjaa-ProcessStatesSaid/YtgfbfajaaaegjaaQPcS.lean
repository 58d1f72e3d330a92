/-
  The laws of processes, plain data: what a firing says.
-/
import Derived.Test.YtgfbfajaaaegjaaQPcP
namespace Go.Proofs.Ytgfbfajaaaegjaa
open Go.RowKit
set_option linter.unusedVariables false
set_option linter.unusedSimpArgs false
section
variable {p : Pr} {s : Ps} {hs : List Hd} {rs : List Bool} {i : Nat}
theorem xe (hi : i < p.takes.length) (h : (ae p s hs rs).pops.getD i false = true) : (hs.getD i be).has = true ∧ (ae p s hs rs).fires = true := by
 cases hf : gT p s hs rs
 ·rw [mI hf] at h
  rw [show (List.replicate p.takes.length false).getD i false = false from gf] at h
  cases h
 ·rw [lM]
  rw [pO hf] at h
  have h : px p s hs i = true := by rw [← h]; exact (aZ hi).symm
  refine ⟨?_, hf⟩
  unfold gT at hf
  simp only [Bool.and_eq_true] at hf
  have h1 := dJ.1 hf.1 i hi
  unfold kV at h1
  unfold px at h
  rw [h] at h1
  simpa using h1
theorem pS (hi : i < p.puts.length) (h : ((ae p s hs rs).puts.getD i be).has = true) : rs.getD i false = true ∧ (ae p s hs rs).fires = true := by
 cases hf : gT p s hs rs
 ·rw [mI hf] at h
  rw [show (List.replicate p.puts.length be).getD i be = be from gf] at h
  cases h
 ·rw [lM]
  rw [pO hf] at h
  have h : (jm p s hs i).has = true := by rw [← h]; exact congrArg Hd.has (aZ hi).symm
  refine ⟨?_, hf⟩
  unfold gT at hf
  simp only [Bool.and_eq_true] at hf
  have h1 := dJ.1 hf.2 i hi
  unfold mG at h1
  unfold jm at h
  split at h
  ·rename_i hd
   rw [hd] at h1
   simpa using h1
  ·cases h
theorem sC (hi : i < p.puts.length) (h : ((ae p s hs rs).puts.getD i be).has = false) : ((ae p s hs rs).puts.getD i be).v = 0 := by
 cases hf : gT p s hs rs
 ·rw [mI hf]
  rw [show (List.replicate p.puts.length be).getD i be = be from gf]
 ·rw [pO hf] at h ⊢
  have e : (tab (jm p s hs) p.puts.length).getD i be = jm p s hs i := aZ hi
  have h : (jm p s hs i).has = false := by rw [← e]; exact h
  show ((tab (jm p s hs) p.puts.length).getD i be).v = 0
  rw [e]
  unfold jm at h ⊢
  split at h
  ·cases h
  ·rename_i hd; rw [if_neg hd]
theorem xU (h : (ae p s hs rs).fires = false) : (ae p s hs rs).s = s := by
 rw [lM] at h; rw [mI h]
end
end Go.Proofs.Ytgfbfajaaaegjaa
