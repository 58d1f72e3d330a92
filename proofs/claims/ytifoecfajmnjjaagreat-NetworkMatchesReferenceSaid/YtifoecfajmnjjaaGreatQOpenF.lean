/-
  What a row's reading of an argument says to the walks on pure data: states of circuits.
-/
import Derived.Test.YtifoecfajmnjjaaGreatChecked
import Derived.Test.YtifoecfajmnjjaaGreatQOpenD
import Derived.Test.YtifoecfajmnjjaaGreatQOpenE
import Derived.Test.YtifoecfajmnjjaaGreatQNeF
namespace Go.Proofs.YtifoecfajmnjjaaGreat
open Go.ChangeShapes Go.WideShapes Go.ChangeAt Go.RowKit
set_option linter.unusedVariables false
set_option linter.unusedSimpArgs false
theorem vD {α : Type} {Q : α → Prop} {l : List α} {d : α} (hd : Q d) (h : ∀ a ∈ l, Q a) (i : Nat) : Q (l.getD i d) := by
 by_cases hi : i < l.length
 ·rw [iZ _ _ hi]; exact h _ (List.getElem_mem hi)
 ·rw [List.getD, List.getElem?_eq_none (by omega)]; exact hd
theorem mx {n : Nat} (h : n ≤ maxLen) : n ≤ 9223372036854775807 := by unfold maxLen at h; omega
section
variable {H : Type} {enc : TypeId × Value → H} {W : World}
theorem GI {fuel : Nat} {cs : List Value} {y : DataW H × List MemPlace} (hy : DataW.trod enc Tryz.prog W 0 (fun _ => true) true fuel 45 cs = some y) :
  ∃ s : Ps, (s.regs.length ≤ maxLen ∧ s.mems.length ≤ maxLen ∧ ∀ a ∈ s.mems, a.length ≤ maxLen) ∧ FD (fun b => b < W.heap.size) W (a8 s) cs := by
 obtain ⟨xs, n, _, _, hl, hlen, hf⟩ := DataW.trod_struct Tryz.underlying45 hy
 obtain ⟨m, hfld⟩ := jP Tryz.underlying45 hy
 obtain ⟨a, b, rfl⟩ := G6 cs (by rw [hl]; kernel_rfl)
 obtain ⟨y0, f0⟩ := hfld 0 _ rfl
 obtain ⟨y1, f1⟩ := hfld 1 _ rfl
 have eI : Tryz.prog.cellsOf 43 = 1 := by kernel_rfl
 have eJ : Tryz.prog.cellsOf 34 = 1 := by kernel_rfl
 simp only [List.getElem_toArray, List.getElem_cons_zero, List.getElem_cons_succ, eI, eJ, List.drop_zero, List.drop_succ_cons, List.take_succ_cons, List.take_zero] at f0 f1
 obtain ⟨u0, l0, e0_, g0, n0, r0⟩ := fe (k := .i64) (S := fun b => b < W.heap.size) Tryz.underlying43 Tryz.underlying3 (by kernel_rfl) (fun _ h => h) f0
 obtain ⟨u1, l1, e1, g1, n1, r1⟩ := rJ (k := .i64) (S := fun b => b < W.heap.size) Tryz.underlying34 Tryz.underlying43 Tryz.underlying3 (by kernel_rfl) (by kernel_rfl) (fun _ h => h) f1
 simp only [List.cons.injEq, and_true] at e0_ e1
 subst e0_
 subst e1
 exact ⟨⟨l0, l1⟩, ⟨n0, n1, fun a ha => (g1 a ha).1⟩, r0, r1, trivial⟩
theorem Ax {fuel : Nat} {cs : List Value} {y : DataW H × List MemPlace} (hy : DataW.trod enc Tryz.prog W 0 (fun _ => true) true fuel 36 cs = some y) :
  ∃ (a b : Value) (s : Ns), cs = [a, b] ∧ s.procs.length ≤ 9223372036854775807 ∧ s.chans.length ≤ 9223372036854775807 ∧ (∀ i, (s.procs.getD i a7).mems.length ≤ 9223372036854775807) ∧ fD s 9223372036854775807 ∧
   en (fun b => b < W.heap.size) W (.sl 2 a8 a7 s.procs) a ∧ en (fun b => b < W.heap.size) W (.sl 1 af [] s.chans) b := by
 obtain ⟨xs, n, _, _, hl, hlen, hf⟩ := DataW.trod_struct Tryz.underlying36 hy
 obtain ⟨m, hfld⟩ := jP Tryz.underlying36 hy
 obtain ⟨a, b, rfl⟩ := G6 cs (by rw [hl]; kernel_rfl)
 obtain ⟨y0, f0⟩ := hfld 0 _ rfl
 obtain ⟨y1, f1⟩ := hfld 1 _ rfl
 have eI : Tryz.prog.cellsOf 33 = 1 := by kernel_rfl
 have eJ : Tryz.prog.cellsOf 34 = 1 := by kernel_rfl
 simp only [List.getElem_toArray, List.getElem_cons_zero, List.getElem_cons_succ, eI, eJ, List.drop_zero, List.drop_succ_cons, List.take_succ_cons, List.take_zero] at f0 f1
 obtain ⟨u0, l0, e0_, g0, n0, r0⟩ := Aw (S := fun b => b < W.heap.size) (m := 2) (enc' := a8) (d0 := a7) (good := fun s : Ps => s.regs.length ≤ maxLen ∧ s.mems.length ≤ maxLen ∧ ∀ a ∈ s.mems, a.length ≤ maxLen) Tryz.underlying33 (by kernel_rfl) (by decide) (fun _ h => h) (fun fuel cs y hy => GI hy) f0
 obtain ⟨u1, l1, e1, g1, n1, r1⟩ := rJ (k := .i64) (S := fun b => b < W.heap.size) Tryz.underlying34 Tryz.underlying43 Tryz.underlying3 (by kernel_rfl) (by kernel_rfl) (fun _ h => h) f1
 simp only [List.cons.injEq, and_true] at e0_ e1
 subst e0_
 subst e1
 exact ⟨a, b, ⟨l0, l1⟩, rfl, mx n0, mx n1, fun i => mx (vD (Q := fun s : Ps => s.mems.length ≤ maxLen) (by simp) (fun s hs => (g0 s hs).2.1) i), fun i => mx (vD (Q := fun l : List Int => l.length ≤ maxLen) (by simp) (fun l hl => (g1 l hl).1) i), r0, r1⟩
end
end Go.Proofs.YtifoecfajmnjjaaGreat
