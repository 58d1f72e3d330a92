/-
  Processes, plain law: values of expressions, widths, what a process does.
-/
import Derived.Test.YtgmpoenfoacofaaQPrP
import Derived.Test.YtgmpoenfoacofaaQPrR
namespace Go.Proofs.Ytgmpoenfoacofaa
open Go.RowKit
set_option linter.unusedVariables false
set_option linter.unusedSimpArgs false
def xg (p : Pr) (s : Ps) (data : List Int) : Ex → Int × Int
 | ⟨op, _, k, w, args⟩ =>
  if op = 16 then (s.regs.getD k.n.toNat 0, (p.regs.getD k.n.toNat ce).w)
  else if op = 18 then (data.getD k.n.toNat 0, (p.takes.getD k.n.toNat qv).w)
  else if op = 17 then ((s.mems.getD k.n.toNat []).getD (Int.tmod ((evL args).getD 0 (0, 0)).1 (s.mems.getD k.n.toNat []).length).toNat 0, (p.mems.getD k.n.toNat dz).w)
  else (wG op ((evL args).map (·.2)) ((evL args).map (·.1)) [k.n, w.n], wH op ((evL args).map (·.2)) k.n w.n)
where evL : List Ex → List (Int × Int)
 | [] => []
 | a :: r => xg p s data a :: evL r
structure Sc where
 rw : List Int
 mw : List Int
 tw : List Int
def gd (c : Sc) : Ex → Option Int
 | ⟨op, _, k, w, args⟩ => match tyL args with
  | none => none
  | some ws =>
   if op = 16 then (if ws = [] ∧ 0 ≤ k.n ∧ k.n < c.rw.length then some (c.rw.getD k.n.toNat 0) else none)
   else if op = 18 then (if ws = [] ∧ 0 ≤ k.n ∧ k.n < c.tw.length then some (c.tw.getD k.n.toNat 0) else none)
   else if op = 17 then (if ws.length = 1 ∧ 0 ≤ k.n ∧ k.n < c.mw.length then some (c.mw.getD k.n.toNat 0) else none)
   else if pL op ws k.n w.n then some (ru op ws k.n w.n) else none
where tyL : List Ex → Option (List Int)
 | [] => some []
 | a :: r => match gd c a, tyL r with
  | some w, some ws => some (w :: ws)
  | _, _ => none
theorem tR {α β : Type} (f : α → β) (l : List α) (i : Nat) (d : α) (d' : β) (h : i < l.length) : (l.map f).getD i d' = f (l.getD i d) := by
 simp [List.getD, List.getElem?_eq_getElem h]
theorem mD {l : List Ex} {i : Nat} (h : i < l.length) : l.getD i dE ∈ l := by simp [List.getD, List.getElem?_eq_getElem h]
end Go.Proofs.Ytgmpoenfoacofaa
