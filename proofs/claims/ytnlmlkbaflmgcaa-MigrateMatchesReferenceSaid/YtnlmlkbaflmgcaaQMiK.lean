/-
  Package migrate, plain data: what is kept.
-/
import Derived.Test.YtnlmlkbaflmgcaaQNeE
namespace Go.Proofs.Ytnlmlkbaflmgcaa
open Go.RowKit
set_option linter.unusedVariables false
set_option linter.unusedSimpArgs false
def d8 (r q : Rg) : Bool := (q.name.toList == r.name.toList) && (decide (q.w = r.w) && decide (q.rule.kind = 1))
def dD (r q : Mm) : Bool := (q.name.toList == r.name.toList) && (decide (q.w = r.w) && (decide (q.words = r.words) && decide (q.rule.kind = 1)))
def DQ (l : List Rg) (r : Rg) : Bool := !(cJ (fun i => !d8 r (l.getD i aC)) l.length)
def DR (l : List Mm) (r : Mm) : Bool := !(cJ (fun i => !dD r (l.getD i au)) l.length)
def fG (p q : Pr) : Bool := cJ (fun i => DQ q.regs (p.regs.getD i aC)) p.regs.length && cJ (fun i => DR q.mems (p.mems.getD i au)) p.mems.length
theorem pE {p q : Pr} {i : Nat} (hi : i < p.regs.length) (h : DQ q.regs (p.regs.getD i aC) = false) : fG p q = false := by unfold fG; rw [dC hi h]; rfl
theorem pF {p q : Pr} {i : Nat} (hi : i < p.mems.length) (h : DR q.mems (p.mems.getD i au) = false) : fG p q = false := by unfold fG; rw [dC hi h, Bool.and_false]
theorem lO {p q : Pr} (h1 : ∀ i, i < p.regs.length → DQ q.regs (p.regs.getD i aC) = true) (h2 : ∀ i, i < p.mems.length → DR q.mems (p.mems.getD i au) = true) : fG p q = true := by unfold fG; rw [bh.2 h1, bh.2 h2]; rfl
theorem Ae {l : List ByteArray} {k : ByteArray} {i : Nat} (hi : i < l.length) (h : ((l.getD i .empty).toList == k.toList) = true) : p7 l k = true := by
 unfold p7
 refine List.any_eq_true.2 ⟨l.getD i .empty, by rw [bS _ _ hi]; exact List.getElem_mem hi, ?_⟩
 exact decide_eq_true (toList_inj (beq_iff_eq.1 h))
theorem DS {l : List ByteArray} {k : ByteArray} (h : ∀ i, i < l.length → ((l.getD i .empty).toList == k.toList) = false) : p7 l k = false := by
 unfold p7
 rw [List.any_eq_false]
 intro x hx
 obtain ⟨i, hi, e⟩ := List.getElem_of_mem hx
 have := h i hi
 rw [bS _ _ hi, e] at this
 simp only [decide_eq_true_eq]
 intro hxk
 rw [hxk] at this
 simp at this
end Go.Proofs.Ytnlmlkbaflmgcaa
