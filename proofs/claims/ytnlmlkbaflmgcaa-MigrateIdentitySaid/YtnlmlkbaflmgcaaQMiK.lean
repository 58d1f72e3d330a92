/-
  Package migrate, plain data: what is kept.
-/
import Derived.Test.YtnlmlkbaflmgcaaQNeE
namespace Go.Proofs.Ytnlmlkbaflmgcaa
open Go.RowKit
set_option linter.unusedVariables false
set_option linter.unusedSimpArgs false
def dX (r q : Rg) : Bool := (q.name.toList == r.name.toList) && (decide (q.w = r.w) && decide (q.rule.kind = 1))
def dr (r q : Mm) : Bool := (q.name.toList == r.name.toList) && (decide (q.w = r.w) && (decide (q.words = r.words) && decide (q.rule.kind = 1)))
def D1 (l : List Rg) (r : Rg) : Bool := !(b4 (fun i => !dX r (l.getD i aK)) l.length)
def D2 (l : List Mm) (r : Mm) : Bool := !(b4 (fun i => !dr r (l.getD i ax)) l.length)
def fv (p q : Pr) : Bool := b4 (fun i => D1 q.regs (p.regs.getD i aK)) p.regs.length && b4 (fun i => D2 q.mems (p.mems.getD i ax)) p.mems.length
theorem pK {p q : Pr} {i : Nat} (hi : i < p.regs.length) (h : D1 q.regs (p.regs.getD i aK) = false) : fv p q = false := by unfold fv; rw [dq hi h]; rfl
theorem pL {p q : Pr} {i : Nat} (hi : i < p.mems.length) (h : D2 q.mems (p.mems.getD i ax) = false) : fv p q = false := by unfold fv; rw [dq hi h, Bool.and_false]
theorem lJ {p q : Pr} (h1 : ∀ i, i < p.regs.length → D1 q.regs (p.regs.getD i aK) = true) (h2 : ∀ i, i < p.mems.length → D2 q.mems (p.mems.getD i ax) = true) : fv p q = true := by unfold fv; rw [aR.2 h1, aR.2 h2]; rfl
end Go.Proofs.Ytnlmlkbaflmgcaa
