/-
  Slices of numbers that read as lists, and small laws on them. Generic: over any program.
-/
import Derived.Test.YtjmfaebimgnblaaReg
import Derived.WalkSpells
import Derived.Lib.Hide
import Derived.WalkLawsBesides
namespace Go.Proofs.Ytjmfaebimgnblaa
open Go.RowKit

/-- The bounds of an integer kind. -/
abbrev Fits (k : IntKind) (x : Int) : Prop := (Lit.int k x).wf = true

/-- Value v reads as the list l: one cell an element, 'enc' its value. The cells lie in blocks of S. -/
def IsRow {α : Type} (enc : α → Value) (S : Nat → Prop) (w : World) (v : Value) (l : List α) : Prop :=
  ∃ (p : Option Addr) (c : Nat), v = .slice p l.length c ∧ l.length ≤ c ∧ c ≤ maxLen ∧ (p = none → c = 0) ∧
    (0 < l.length → ∃ b off, p = some ⟨b, off, none⟩ ∧ S b ∧ b < w.heap.size ∧ ∀ (i : Nat) (x : α), l[i]? = some x → w.cell? ⟨b, off + i, none⟩ = some (enc x))

abbrev IsInts (k : IntKind) := IsRow (fun x : Int => Value.int k x)
abbrev IsBools := IsRow Value.bool

theorem IsRow.stable {α : Type} (enc : α → Value) (l : List α) : Stable (fun S v w => IsRow enc S w v l) := by
  rintro S S' v w w' ⟨p, c, rfl, h1, h2, h3, h4⟩ hS hw hsz
  refine ⟨p, c, rfl, h1, h2, h3, fun h0 => ?_⟩
  obtain ⟨b, off, rfl, q1, q2, q3⟩ := h4 h0
  refine ⟨b, off, rfl, hS b q1 q2, by omega, fun i x hx => ?_⟩
  rw [← q3 i x hx]
  exact World.cell?_of_block (hw b q1 q2)

theorem IsRow.mono {α : Type} {enc : α → Value} {l : List α} {S S' : Nat → Prop} {w w' : World} {v : Value} (h : IsRow enc S w v l) (hS : ∀ b, S b → b < w.heap.size → S' b)
    (hb : Below w.heap.size w w') : IsRow enc S' w' v l := IsRow.stable enc l S S' v w w' h hS (fun b _ hb' => hb.block b hb') hb.size

theorem IsRow.later {α : Type} {enc : α → Value} {l : List α} {S : Nat → Prop} {w w' : World} {v : Value} (h : IsRow enc S w v l)
    (hb : Below w.heap.size w w') : IsRow enc S w' v l := h.mono (fun _ h _ => h) hb

theorem IsRow.nil {α : Type} (enc : α → Value) (S : Nat → Prop) (w : World) : IsRow enc S w (.slice none 0 0) [] :=
  ⟨none, 0, rfl, Nat.le_refl _, by simp, fun _ => rfl, fun h => absurd h (by simp)⟩

theorem IsRow.hi {α : Type} {enc : α → Value} {l : List α} {S : Nat → Prop} {w : World} {p : Option Addr} {n c : Nat} (h : IsRow enc S w (.slice p n c) l) (k : Nat) (hk : k ≤ n) :
    IsRow enc S w (.slice p k c) (l.take k) := by
  obtain ⟨p', c', he, h1, h2, h3, h4⟩ := h
  simp only [Value.slice.injEq] at he
  obtain ⟨rfl, rfl, rfl⟩ := he
  have hl : (l.take k).length = k := by simp; omega
  refine ⟨p, c, by rw [hl], by omega, h2, h3, fun h0 => ?_⟩
  obtain ⟨b, off, rfl, q1, q2, q3⟩ := h4 (by omega)
  refine ⟨b, off, rfl, q1, q2, fun i x hx => q3 i x ?_⟩
  rw [List.getElem?_take] at hx
  split at hx
  · exact hx
  · cases hx

theorem IsRow.lo {α : Type} {enc : α → Value} {l : List α} {S : Nat → Prop} {w : World} {p : Option Addr} {n c : Nat} (h : IsRow enc S w (.slice p n c) l) (k : Nat) (hk : k ≤ n) :
    IsRow enc S w (.slice (if c = k then p else p.map (·.add (k * 1))) (n - k) (c - k)) (l.drop k) := by
  obtain ⟨p', c', he, h1, h2, h3, h4⟩ := h
  simp only [Value.slice.injEq] at he
  obtain ⟨rfl, rfl, rfl⟩ := he
  have hl : (l.drop k).length = l.length - k := by simp
  refine ⟨_, c - k, by rw [hl], by omega, by omega, ?_, fun h0 => ?_⟩
  · intro hp
    by_cases hc : c = k
    · omega
    · rw [if_neg hc] at hp
      have := h3 (by simpa using hp)
      omega
  · obtain ⟨b, off, rfl, q1, q2, q3⟩ := h4 (by omega)
    refine ⟨b, off + k, ?_, q1, q2, fun i x hx => ?_⟩
    · rw [if_neg (by omega)]
      simp [Addr.add]
    · rw [List.getElem?_drop] at hx
      rw [show off + k + i = off + (k + i) from by omega]
      exact q3 (k + i) x hx

/-- The value of a slice that reads as a list: its length. -/
theorem IsRow.shape {α : Type} {enc : α → Value} {l : List α} {S : Nat → Prop} {w : World} {v : Value} (h : IsRow enc S w v l) :
    ∃ p c, v = .slice p l.length c ∧ l.length ≤ c ∧ c ≤ maxLen ∧ (p = none → c = 0) := by
  obtain ⟨p, c, rfl, h1, h2, h3, _⟩ := h
  exact ⟨p, c, rfl, h1, h2, h3⟩

theorem IsRow.cellAt {α : Type} {enc : α → Value} {l : List α} {S : Nat → Prop} {w : World} {p : Option Addr} {n c : Nat} (h : IsRow enc S w (.slice p n c) l) {k : Nat} {x : α} (hx : l[k]? = some x) :
    ∃ b off, p = some ⟨b, off, none⟩ ∧ S b ∧ b < w.heap.size ∧ w.cell? ⟨b, off + k, none⟩ = some (enc x) := by
  obtain ⟨p', c', he, h1, h2, h3, h4⟩ := h
  simp only [Value.slice.injEq] at he
  obtain ⟨rfl, rfl, rfl⟩ := he
  have := (List.getElem?_eq_some_iff.1 hx).1
  obtain ⟨b, off, rfl, q1, q2, q3⟩ := h4 (by omega)
  exact ⟨b, off, rfl, q1, q2, q3 k x hx⟩

/-- A row that the call made itself reads as a list. -/
theorem IsRow.of_block {α : Type} (enc : α → Value) (S : Nat → Prop) {w : World} {b : Nat} {cur : Array Value} {e : TypeId} {fr : Nat × Nat} {l : List α} {c : Nat} (hb : w.heap[b]? = some (.cells cur e fr)) (hS : S b)
    (hc : l.length ≤ c) (hm : c ≤ maxLen) (hl : ∀ (i : Nat) (x : α), l[i]? = some x → cur[i]? = some (enc x)) : IsRow enc S w (.slice (some ⟨b, 0, none⟩) l.length c) l := by
  refine ⟨_, c, rfl, hc, hm, fun h => (by cases h), fun _ => ⟨b, 0, rfl, hS, (Array.getElem?_eq_some_iff.1 hb).1, fun i x hx => ?_⟩⟩
  simp [World.cell?, hb, hl i x hx]

theorem IsRow.of_owns {α : Type} (enc : α → Value) {w : World} {base : Nat} {e : TypeId} {v : Value} {l : List α} (h : w.ownsRow base e 1 v l.length (l.map enc)) : IsRow enc (fun b => base ≤ b) w v l := by
  obtain ⟨h1, h2⟩ := h
  rcases h2 with ⟨rfl, h2⟩ | ⟨g, cap, cur, rfl, hb, hg, hn, hm, hs, ht⟩
  · have : l = [] := List.eq_nil_of_length_eq_zero h2
    subst this
    exact IsRow.nil enc _ w
  · refine IsRow.of_block enc _ hg hb hn hm (fun i x hx => ?_)
    have hi : i < l.length := (List.getElem?_eq_some_iff.1 hx).1
    have : (cur.toList.take (l.length * 1))[i]? = some (enc x) := by rw [ht]; simp [hx]
    rw [List.getElem?_take, if_pos (by omega)] at this
    simpa using this

/-- A slice literal. -/
theorem IsRow.built {α : Type} (enc : α → Value) (S : Nat → Prop) {w : World} {e : TypeId} (l : List α) {b n : Nat} {cur : Array Value} (hb : b = w.heap.size) (hS : S b) (hcur : cur = (l.map enc).toArray) (hn : n = l.length) (hm : n ≤ maxLen) :
    IsRow enc S (w.alloc (.cells cur e)) (.slice (some ⟨b, 0, none⟩) n n) l := by
  subst hb hcur hn
  exact IsRow.of_block enc S (heap_alloc_new w _) hS (Nat.le_refl _) hm (fun i x hx => by simp [hx])

/-- A fact of the region's base, in a world of the region. -/
theorem IsRow.base {α : Type} {enc : α → Value} {l : List α} {S0 S : Nat → Prop} {w w' : World} {v : Value} (h : IsRow enc S0 w v l) (hb : Below w.heap.size w w') (hS : ∀ b, b < w.heap.size → S b) : IsRow enc S w' v l :=
  h.mono (fun b _ hb' => hS b hb') hb
theorem IsRow.wk {α : Type} {enc : α → Value} {l : List α} {S0 S : Nat → Prop} {w : World} {v : Value} (h : IsRow enc S0 w v l) (hS : ∀ b, S0 b → S b) : IsRow enc S w v l :=
  IsRow.stable enc l _ _ _ _ _ h (fun b h _ => hS b h) (fun _ _ _ => rfl) (Nat.le_refl _)

end Go.Proofs.Ytjmfaebimgnblaa
