/-
  What a row's reading of an argument says to the walks on pure data: slices of structures, of strings. Over any program.
-/
import Derived.Test.YtifoecfajmnjjaaGreatQOpenB
namespace Go.Proofs.YtifoecfajmnjjaaGreat
open Go.ChangeShapes Go.WideShapes Go.ChangeAt Go.RowKit
set_option linter.unusedVariables false
set_option linter.unusedSimpArgs false
def FD (S : Nat → Prop) (w : World) : List V → List Value → Prop
 | [], [] => True
 | y :: ys, u :: us => en S w y u ∧ FD S w ys us
 | _, _ => False
theorem FD.at {S : Nat → Prop} {w : World} : ∀ {ys : List V} {us : List Value}, FD S w ys us → ys.length = us.length ∧ ∀ (j : Nat) (y : V), ys[j]? = some y → ∃ u, us[j]? = some u ∧ en S w y u
 | [], [], _ => ⟨rfl, fun j y hy => by simp at hy⟩
 | y :: ys, u :: us, h => by
  obtain ⟨h1, h2⟩ := h.2.at
  refine ⟨by simp [h1], fun j z hz => ?_⟩
  match j with
  | 0 => simp at hz; subst hz; exact ⟨u, rfl, h.1⟩
  | j + 1 => exact h2 j z (by simpa using hz)
 | [], _ :: _, h => h.elim
 | _ :: _, [], h => h.elim
section
variable {H : Type} {enc : TypeId × Value → H} {P : Program} {W : World}
theorem Aw {α : Type} {S : Nat → Prop} {t e : TypeId} {m : Nat} {enc' : α → List V} {d0 : α} {good : α → Prop} {fuel : Nat} {cs : List Value} {x : DataW H × List MemPlace} (ht : P.underlying t = some (.slice e)) (hc : P.cellsOf e = m) (hm0 : 0 < m) (hS : ∀ b, b < W.heap.size → S b)
  (he : ∀ fuel cs y, DataW.trod enc P W 0 (fun _ => true) true fuel e cs = some y → ∃ a, good a ∧ FD S W (enc' a) cs) (h : DataW.trod enc P W 0 (fun _ => true) true fuel t cs = some x) :
  ∃ v l, cs = [v] ∧ (∀ a ∈ l, good a) ∧ l.length ≤ maxLen ∧ en S W (.sl m enc' d0 l) v := by
 rcases DataW.trod_slice ht h with ⟨rfl, _⟩ | ⟨a, len, cap, elems, rest, n, _, rfl, rfl, _, hl, hm, hlen, hel, _, _⟩
 ·exact ⟨_, [], rfl, fun a ha => by simp at ha, by simp, .nil _ _ _ _ _ (by omega) (fun _ => rfl)⟩
 by_cases h0 : len = 0
 ·subst h0
  exact ⟨_, [], rfl, fun a ha => by simp at ha, by simp, .nil _ _ _ _ _ hm (fun h => by cases h)⟩
 have each : ∀ i, ∃ a' : α, i < len → good a' ∧ (enc' a').length = m ∧ ∀ j y, (enc' a')[j]? = some y → ∃ v, W.cell? ((a.add (i * m)).add j) = some v ∧ en S W y v := by
  intro i
  by_cases hi : i < len
  ·have h1 := hel i hi
   rw [List.getElem?_eq_getElem (by omega), hc, Option.bind_eq_some_iff] at h1
   obtain ⟨cs', hcs, hy⟩ := h1
   obtain ⟨a', g1, g2⟩ := he _ _ _ hy
   obtain ⟨-, hl', hg'⟩ := World.cells?_some hcs
   refine ⟨a', fun _ => ⟨g1, by rw [g2.at.1, hl'], fun j y hy' => ?_⟩⟩
   obtain ⟨u, hu, hr⟩ := g2.at.2 j y hy'
   have hj : j < m := by
    have := (List.getElem?_eq_some_iff.1 hu).1
    omega
   exact ⟨u, by rw [hg' j hj]; exact hu, hr⟩
  ·exact ⟨d0, fun h => (hi h).elim⟩
 obtain ⟨f, hf⟩ := Classical.axiomOfChoice each
 obtain ⟨b, off, spot⟩ := a
 have hspot : spot = none ∧ b < W.heap.size := by
  obtain ⟨_, hm', h2⟩ := hf 0 (by omega)
  obtain ⟨y, hy⟩ : ∃ y, (enc' (f 0))[0]? = some y := ⟨_, List.getElem?_eq_getElem (by omega)⟩
  obtain ⟨v, hv, -⟩ := h2 0 y hy
  have h3 : spot = none := by simpa [Addr.add] using World.cell?_spot hv
  subst h3
  refine ⟨rfl, ?_⟩
  unfold World.cell? at hv
  simp only [Addr.add, if_true, Nat.zero_mul] at hv
  split at hv
  ·rename_i hb
   exact (Array.getElem?_eq_some_iff.1 hb).1
  ·cases hv
 obtain ⟨rfl, hb⟩ := hspot
 have hadd : ∀ i, (⟨b, off, none⟩ : Addr).add i = ⟨b, off + i, none⟩ := fun i => by unfold Addr.add; split <;> simp_all
 have hadd2 : ∀ i j, ((⟨b, off, none⟩ : Addr).add i).add j = ⟨b, off + i + j, none⟩ := fun i j => by rw [hadd]; unfold Addr.add; split <;> simp_all
 have hget : ∀ (i : Nat) (x : α), ((List.range len).map f)[i]? = some x → i < len ∧ x = f i := by
  intro i x hx
  simp only [List.getElem?_map, Option.map_eq_some_iff] at hx
  obtain ⟨j, hj, rfl⟩ := hx
  obtain ⟨h1, h2⟩ := List.getElem?_eq_some_iff.1 hj
  simp at h1 h2
  exact ⟨h1, by rw [h2]⟩
 refine ⟨_, (List.range len).map f, rfl, ?_, by simp; omega, .row m enc' d0 _ b off cap len (fun i j => (W.cell? ⟨b, off + i * m + j, none⟩).getD undef) (hS b hb) hb (by simp) hl hm ?_ ?_ ?_⟩
 ·intro a' ha
  obtain ⟨i, hi⟩ := List.getElem?_of_mem ha
  obtain ⟨h1, rfl⟩ := hget i a' hi
  exact (hf i h1).1
 ·intro i x hx
  obtain ⟨h1, rfl⟩ := hget i x hx
  exact (hf i h1).2.1
 ·intro i x j y hx hy
  obtain ⟨h1, rfl⟩ := hget i x hx
  obtain ⟨v, g0, _⟩ := (hf i h1).2.2 j y hy
  rw [hadd2] at g0
  show W.cell? _ = some ((W.cell? _).getD undef)
  simp only [Nat.add_assoc] at g0 ⊢
  rw [g0]
  rfl
 ·intro i x j y hx hy
  obtain ⟨h1, rfl⟩ := hget i x hx
  obtain ⟨v, g0, g2⟩ := (hf i h1).2.2 j y hy
  rw [hadd2] at g0
  show en _ _ _ ((W.cell? _).getD undef)
  rw [g0]
  exact g2
theorem yQ {S : Nat → Prop} {t e : TypeId} {fuel : Nat} {cs : List Value} {x : DataW H × List MemPlace} (ht : P.underlying t = some (.slice e)) (he : P.underlying e = some .string) (hc : P.cellsOf e = 1) (hS : ∀ b, b < W.heap.size → S b)
  (h : DataW.trod enc P W 0 (fun _ => true) true fuel t cs = some x) : ∃ v l, cs = [v] ∧ (∀ s ∈ l, s.size ≤ maxLen) ∧ l.length ≤ maxLen ∧ en S W (.sl 1 ex .empty l) v :=
 rk ht hc hS (fun fuel cs y hy => by
  obtain ⟨s, e1, _, e3⟩ := DataW.trod_string he hy
  exact ⟨_, s, _, e1, e3, rfl, .str _⟩) h
theorem rJ {S : Nat → Prop} {t e n : TypeId} {k : IntKind} {fuel : Nat} {cs : List Value} {x : DataW H × List MemPlace} (ht : P.underlying t = some (.slice e)) (he : P.underlying e = some (.slice n)) (hn : P.underlying n = some (.int k)) (hc : P.cellsOf e = 1) (hc2 : P.cellsOf n = 1) (hS : ∀ b, b < W.heap.size → S b)
  (h : DataW.trod enc P W 0 (fun _ => true) true fuel t cs = some x) : ∃ v, ∃ l : List (List Int), cs = [v] ∧ (∀ a ∈ l, a.length ≤ maxLen ∧ ∀ n ∈ a, xh k n) ∧ l.length ≤ maxLen ∧ en S W (.sl 1 (fun a => [.sl 1 (ah k) 0 a]) [] l) v :=
 rk (good := fun a => a.length ≤ maxLen ∧ ∀ n ∈ a, xh k n) (enc' := fun a => [.sl 1 (ah k) 0 a]) (d0 := []) ht hc hS (fun fuel cs y hy => by
  obtain ⟨v, l, e1, g1, g2, g3⟩ := fe he hn hc2 hS hy
  exact ⟨v, l, _, e1, ⟨g2, g1⟩, rfl, g3⟩) h
end
end Go.Proofs.YtifoecfajmnjjaaGreat
