/-
  What a row's reading of an argument says to the walks on pure data: states of processes.
-/
import Derived.Test.YtgfbfajaaaegjaaChecked
import Derived.Test.YtgfbfajaaaegjaaQOpenC
import Derived.Test.YtgfbfajaaaegjaaQOpenE
import Derived.Test.YtgfbfajaaaegjaaQPrP
namespace Go.Proofs.Ytgfbfajaaaegjaa
open Go.ChangeShapes Go.WideShapes Go.ChangeAt Go.RowKit
set_option linter.unusedVariables false
set_option linter.unusedSimpArgs false
section
variable {H : Type} {enc : TypeId × Value → H} {W : World}
theorem BI {fuel : Nat} {cs : List Value} {y : DataW H × List MemPlace} (hy : DataW.trod enc Try.prog W 0 (fun _ => true) true fuel 29 cs = some y) :
  ∃ s : Ps, (s.regs.length ≤ maxLen ∧ s.mems.length ≤ maxLen ∧ ∀ a ∈ s.mems, a.length ≤ maxLen) ∧ BH (fun b => b < W.heap.size) W (Fs s) cs := by
 obtain ⟨xs, n, _, _, hl, hlen, hf⟩ := DataW.trod_struct Try.underlying29 hy
 obtain ⟨m, hfld⟩ := r6 Try.underlying29 hy
 obtain ⟨a, b, rfl⟩ := yn cs (by rw [hl]; kernel_rfl)
 obtain ⟨y0, f0⟩ := hfld 0 _ rfl
 obtain ⟨y1, f1⟩ := hfld 1 _ rfl
 have eI : Try.prog.cellsOf 26 = 1 := by kernel_rfl
 have eJ : Try.prog.cellsOf 27 = 1 := by kernel_rfl
 simp only [List.getElem_toArray, List.getElem_cons_zero, List.getElem_cons_succ, eI, eJ, List.drop_zero, List.drop_succ_cons, List.take_succ_cons, List.take_zero] at f0 f1
 obtain ⟨u0, l0, e0_, g0, n0, r0⟩ := cJ (k := .i64) (S := fun b => b < W.heap.size) Try.underlying26 Try.underlying3 (by kernel_rfl) (fun _ h => h) f0
 obtain ⟨u1, l1, e1, g1, n1, r1⟩ := vQ (k := .i64) (S := fun b => b < W.heap.size) Try.underlying27 Try.underlying26 Try.underlying3 (by kernel_rfl) (by kernel_rfl) (fun _ h => h) f1
 simp only [List.cons.injEq, and_true] at e0_ e1
 subst e0_
 subst e1
 exact ⟨⟨l0, l1⟩, ⟨n0, n1, fun a ha => (g1 a ha).1⟩, r0, r1, trivial⟩
end
end Go.Proofs.Ytgfbfajaaaegjaa
