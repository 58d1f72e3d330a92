/-
  Slices of numbers that read as lists, and small laws on them. Generic: over any program.
-/
import Derived.Test.YtckgpflobhpnpaaQReg
import Derived.WalkSpells
import Derived.Lib.Hide
import Derived.WalkLawsBesides
namespace Go.Proofs.Ytckgpflobhpnpaa
open Go.RowKit
abbrev FN (k : IntKind) (x : Int) : Prop := (Lit.int k x).wf = true
def pS {α : Type} (enc : α → Value) (S : Nat → Prop) (w : World) (v : Value) (l : List α) : Prop :=
 ∃ (p : Option Addr) (c : Nat), v = .slice p l.length c ∧ l.length ≤ c ∧ c ≤ maxLen ∧ (p = none → c = 0) ∧
  (0 < l.length → ∃ b off, p = some ⟨b, off, none⟩ ∧ S b ∧ b < w.heap.size ∧ ∀ (i : Nat) (x : α), l[i]? = some x → w.cell? ⟨b, off + i, none⟩ = some (enc x))
theorem pS.stable {α : Type} (enc : α → Value) (l : List α) : fl (fun S v w => pS enc S w v l) := by
 rintro S S' v w w' ⟨p, c, rfl, h1, h2, h3, h4⟩ hS hw hsz
 refine ⟨p, c, rfl, h1, h2, h3, fun h0 => ?_⟩
 obtain ⟨b, off, rfl, q1, q2, q3⟩ := h4 h0
 refine ⟨b, off, rfl, hS b q1 q2, by omega, fun i x hx => ?_⟩
 rw [← q3 i x hx]
 exact World.cell?_of_block (hw b q1 q2)
theorem pS.mono {α : Type} {enc : α → Value} {l : List α} {S S' : Nat → Prop} {w w' : World} {v : Value} (h : pS enc S w v l) (hS : ∀ b, S b → b < w.heap.size → S' b)
  (hb : Below w.heap.size w w') : pS enc S' w' v l := pS.stable enc l S S' v w w' h hS (fun b _ hb' => hb.block b hb') hb.size
theorem pS.hi {α : Type} {enc : α → Value} {l : List α} {S : Nat → Prop} {w : World} {p : Option Addr} {n c : Nat} (h : pS enc S w (.slice p n c) l) (k : Nat) (hk : k ≤ n) :
  pS enc S w (.slice p k c) (l.take k) := by
 obtain ⟨p', c', he, h1, h2, h3, h4⟩ := h
 simp only [Value.slice.injEq] at he
 obtain ⟨rfl, rfl, rfl⟩ := he
 have hl : (l.take k).length = k := by simp; omega
 refine ⟨p, c, by rw [hl], by omega, h2, h3, fun h0 => ?_⟩
 obtain ⟨b, off, rfl, q1, q2, q3⟩ := h4 (by omega)
 refine ⟨b, off, rfl, q1, q2, fun i x hx => q3 i x ?_⟩
 rw [List.getElem?_take] at hx
 split at hx
 ·exact hx
 ·cases hx
end Go.Proofs.Ytckgpflobhpnpaa
