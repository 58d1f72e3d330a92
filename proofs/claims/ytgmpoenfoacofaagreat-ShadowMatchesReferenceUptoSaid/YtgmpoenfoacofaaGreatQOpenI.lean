/-
  What a row's reading of an argument says to the walks on pure data, with its bulk: streams of any kind.
-/
import Derived.Test.YtgmpoenfoacofaaGreatQOpenH
namespace Go.Proofs.YtgmpoenfoacofaaGreat
open Go.ChangeShapes Go.WideShapes Go.ChangeAt Go.RowKit
set_option linter.unusedVariables false
set_option linter.unusedSimpArgs false
theorem Kq {α : Type} (l : List α) (h : l.length = 5) : ∃ a b c d e, l = [a, b, c, d, e] := by
 match l, h with
 | [a, b, c, d, e], _ => exact ⟨a, b, c, d, e, rfl⟩
section
variable {H : Type} {enc : TypeId × Value → H} {W : World}
theorem FX {fuel : Nat} {cs : List Value} {y : DataW H × List MemPlace} (hy : DataW.trod enc Tryz.prog W 0 (fun _ => true) true fuel 32 cs = some y) (hk : Rows.uptoBulk y.1 ≤ 1048576) :
  ∃ (va vb vw : Value) (a b : List Sm) (zn : ByteArray) (zw : List Int) (zk : Int), cs = [va, vb, .string zn, vw, .int .u8 zk] ∧ a.length ≤ 1048576 ∧ (∀ i, (a.getD i aG).name.size ≤ 1048576 ∧ (a.getD i aG).words.length ≤ 1048576) ∧ b.length ≤ 1048576 ∧ (∀ i, (b.getD i aG).name.size ≤ 1048576 ∧ (b.getD i aG).words.length ≤ 1048576) ∧
   zn.size ≤ 1048576 ∧ zw.length ≤ 1048576 ∧ AE .u8 zk ∧ dJ (fun b => b < W.heap.size) W (.sl 2 dZ aG a) va ∧ dJ (fun b => b < W.heap.size) W (.sl 2 dZ aG b) vb ∧ dJ (fun b => b < W.heap.size) W (.sl 1 (ae .i64) 0 zw) vw := by
 obtain ⟨xs, n, _, hxe, hl, hlen, hf⟩ := DataW.trod_struct Tryz.underlying32 hy
 obtain ⟨va, vb, c2, c3, c4, rfl⟩ := Kq cs (by rw [hl]; kernel_rfl)
 have hl4 : xs.length = 4 := hlen
 have f0 := hf 0 _ rfl
 have f1 := hf 1 _ rfl
 have f2 := hf 2 _ rfl
 have f3 := hf 3 _ rfl
 rw [List.getElem?_eq_getElem (by omega)] at f0 f1 f2 f3
 have eA : Tryz.prog.cellsOf 27 = 1 := by kernel_rfl
 have eZ : Tryz.prog.cellsOf 30 = 2 := by kernel_rfl
 have eK : Tryz.prog.cellsOf 5 = 1 := by kernel_rfl
 simp only [List.getElem_toArray, List.getElem_cons_zero, List.getElem_cons_succ, eA, eZ, eK, List.drop_zero, List.drop_succ_cons, List.take_succ_cons, List.take_zero] at f0 f1 f2 f3
 have hb : ∀ z ∈ xs, Rows.uptoBulk z.1 ≤ 1048576 := fun z hz => by
  refine Nat.le_trans ?_ hk
  rw [hxe]
  have h1 := mr (d := z.1) (l := xs.map (·.1)) (List.mem_map.2 ⟨z, hz, rfl⟩)
  simp only [Rows.uptoBulk]
  omega
 obtain ⟨ua, a, ea, a1, a2, ra⟩ := pO f0 (hb _ (List.getElem_mem _))
 obtain ⟨ub, b, eb, b1, b2, rb⟩ := pO f1 (hb _ (List.getElem_mem _))
 obtain ⟨s, ⟨s1, s2⟩, rs⟩ := rE f2
 have hb2 := hb _ (List.getElem_mem (show 2 < xs.length by omega))
 obtain ⟨zk, ek, -, wk⟩ := DataW.trod_int Tryz.underlying5 f3
 simp only [List.cons.injEq, and_true] at ea eb ek
 subst ea
 subst eb
 subst ek
 obtain ⟨r1, r2, -⟩ := rs
 have e2 : c2 = .string s.name := gh (S := fun b => b < W.heap.size) (μ := fun _ => undef) (w := W) (.v _ _ r1)
 subst e2
 exact ⟨va, vb, c3, a, b, s.name, s.words, zk, rfl, a1, a2, b1, b2, by omega, by omega, wk, ra, rb, r2⟩
end
end Go.Proofs.YtgmpoenfoacofaaGreat
