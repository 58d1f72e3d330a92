/-
  Package migrate, plain data: what is kept.
-/
import Derived.Test.YtnlmlkbaflmgcaaQMiR
namespace Go.Proofs.Ytnlmlkbaflmgcaa
open Go.RowKit
set_option linter.unusedVariables false
set_option linter.unusedSimpArgs false
def eL (r q : Rg) : Bool := (q.name.toList == r.name.toList) && (decide (q.w = r.w) && decide (q.rule.kind = 1))
def dW (r q : Mm) : Bool := (q.name.toList == r.name.toList) && (decide (q.w = r.w) && (decide (q.words = r.words) && decide (q.rule.kind = 1)))
def FQ (l : List Rg) (r : Rg) : Bool := !(cF (fun i => !eL r (l.getD i aO)) l.length)
def FR (l : List Mm) (r : Mm) : Bool := !(cF (fun i => !dW r (l.getD i aB)) l.length)
def iQ (p q : Pr) : Bool := cF (fun i => FQ q.regs (p.regs.getD i aO)) p.regs.length && cF (fun i => FR q.mems (p.mems.getD i aB)) p.mems.length
theorem pA {p q : Pr} {i : Nat} (hi : i < p.regs.length) (h : FQ q.regs (p.regs.getD i aO) = false) : iQ p q = false := by unfold iQ; rw [dP hi h]; rfl
theorem pB {p q : Pr} {i : Nat} (hi : i < p.mems.length) (h : FR q.mems (p.mems.getD i aB) = false) : iQ p q = false := by unfold iQ; rw [dP hi h, Bool.and_false]
theorem pC {p q : Pr} (h1 : ∀ i, i < p.regs.length → FQ q.regs (p.regs.getD i aO) = true) (h2 : ∀ i, i < p.mems.length → FR q.mems (p.mems.getD i aB) = true) : iQ p q = true := by unfold iQ; rw [bi.2 h1, bi.2 h2]; rfl
end Go.Proofs.Ytnlmlkbaflmgcaa
