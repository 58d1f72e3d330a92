/-
  The laws of processes, plain data: all expressions of a process, with their parts.
-/
import Derived.Test.YtgfbfajaaaegjaaQPcG
import Derived.Test.YtgfbfajaaaegjaaQPrU
namespace Go.Proofs.Ytgfbfajaaaegjaa
open Go.RowKit
set_option linter.unusedVariables false
set_option linter.unusedSimpArgs false
def ot (b : List Ex) (f : Nat → List Ex) : Nat → List Ex
 | 0 => b
 | n + 1 => ot b f n ++ f n
theorem mJ {b : List Ex} {f : Nat → List Ex} {Q : Ex → Prop} (hb : ∀ a ∈ b, Q a) : ∀ (n : Nat), (∀ i, i < n → ∀ a ∈ f i, Q a) → ∀ a ∈ ot b f n, Q a
 | 0, _, a, h => hb a h
 | n + 1, h, a, ha => by
  rw [ot, List.mem_append] at ha
  rcases ha with ha | ha
  ·exact mJ hb n (fun i hi => h i (by omega)) a ha
  ·exact h n (by omega) a ha
def fT (p : Pr) (i : Nat) : List Ex := [(o0 p i).when]
def fR (p : Pr) (i : Nat) : List Ex := [(rj p i).next]
def fM (p : Pr) (i : Nat) : List Ex := [(fr p i).enable, (fr p i).addr, (fr p i).data]
def fP (p : Pr) (i : Nat) : List Ex := [(tq p i).when, (tq p i).data]
def DR (p : Pr) : List Ex := ot [] (fT p) p.takes.length
def DS (p : Pr) : List Ex := ot (DR p) (fR p) p.regs.length
def DT (p : Pr) : List Ex := ot (DS p) (fM p) p.mems.length
def zb (p : Pr) : List Ex := ot (DT p) (fP p) p.puts.length
def cE : Ex → Nat
 | ⟨_, _, _, _, args⟩ => szL args + 1
where szL : List Ex → Nat
 | [] => 0
 | a :: r => cE a + szL r
theorem tB (e : Ex) : cE e = cE.szL e.args + 1 := by cases e with | mk op name k w args => rw [cE]
theorem iO : ∀ (a b : List Ex), cE.szL (a ++ b) = cE.szL a + cE.szL b
 | [], b => by rw [List.nil_append, cE.szL, Nat.zero_add]
 | x :: a, b => by rw [List.cons_append, cE.szL, cE.szL, iO a b, Nat.add_assoc]
theorem w7 : ∀ (l : List Ex), l.length ≤ cE.szL l
 | [] => Nat.zero_le _
 | a :: l => by rw [List.length_cons, cE.szL]; have := w7 l; have := tB a; omega
def D0 (c : Sc) (e : Ex) : Prop := ce e ≤ 3 ∧ ∃ v, cz c e = some v
theorem Ao {p : Pr} {Q : Ex → Prop} (h1 : ∀ i, i < p.takes.length → ∀ a ∈ fT p i, Q a) (h2 : ∀ i, i < p.regs.length → ∀ a ∈ fR p i, Q a) (h3 : ∀ i, i < p.mems.length → ∀ a ∈ fM p i, Q a) (h4 : ∀ i, i < p.puts.length → ∀ a ∈ fP p i, Q a) : ∀ a ∈ zb p, Q a :=
 mJ (mJ (mJ (mJ (fun a h => by cases h) _ h1) _ h2) _ h3) _ h4
end Go.Proofs.Ytgfbfajaaaegjaa
