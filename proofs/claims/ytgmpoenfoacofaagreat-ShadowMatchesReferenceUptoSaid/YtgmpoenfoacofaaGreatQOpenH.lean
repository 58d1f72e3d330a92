/-
  What a row's reading of an argument says to the walks on pure data, with its bulk: streams.
-/
import Derived.Test.YtgmpoenfoacofaaGreatRows
import Derived.Test.YtgmpoenfoacofaaGreatChecked
import Derived.Test.YtgmpoenfoacofaaGreatQOpenE
import Derived.Test.YtgmpoenfoacofaaGreatQShA
namespace Go.Proofs.YtgmpoenfoacofaaGreat
open Go.ChangeShapes Go.WideShapes Go.ChangeAt Go.RowKit
set_option linter.unusedVariables false
set_option linter.unusedSimpArgs false
theorem FV {H : Type} (d : DataW H) : 1 ≤ Rows.uptoBulk d := by
 cases d with
 | lit l => cases l <;> simp [Rows.uptoBulk]
 | nil => simp [Rows.uptoBulk]
 | ptr d => simp [Rows.uptoBulk]
 | slice elems spare => simp [Rows.uptoBulk]
 | agg parts => simp [Rows.uptoBulk]
 | iface t d => simp [Rows.uptoBulk]
 | map entries => simp [Rows.uptoBulk]
 | held h => simp [Rows.uptoBulk]
theorem mr {H : Type} {d : DataW H} {l : List (DataW H)} (h : d ∈ l) : Rows.uptoBulk d ≤ Rows.uptoBulkAll l := by
 induction l with
 | nil => cases h
 | cons x r ih =>
  simp only [Rows.uptoBulkAll]
  cases List.mem_cons.1 h with
  | inl e => subst e; omega
  | inr e => have := ih e; omega
theorem FW {H : Type} (l : List (DataW H)) : l.length ≤ Rows.uptoBulkAll l := by
 induction l with
 | nil => simp [Rows.uptoBulkAll]
 | cons x r ih => have := FV x; simp only [Rows.uptoBulkAll, List.length_cons]; omega
theorem Hm {H : Type} {l : List (DataW H)} (hk : Rows.uptoSmall H l = true) {d : DataW H} (h : d ∈ l) : Rows.uptoBulk d ≤ 1048576 := by
 have h1 : Rows.uptoBulkAll l ≤ 1048576 := by simpa [Rows.uptoSmall] using hk
 exact Nat.le_trans (mr h) h1
section
variable {H : Type} {enc : TypeId × Value → H} {P : Program} {W : World}
theorem rD {α : Type} {t e : TypeId} {m : Nat} {enc' : α → List V} {d0 : α} {good : α → Nat → Prop} {fuel : Nat} {cs : List Value} {x : DataW H × List MemPlace} (ht : P.underlying t = some (.slice e)) (hc : P.cellsOf e = m) (hm0 : 0 < m)
  (he : ∀ fuel cs y, DataW.trod enc P W 0 (fun _ => true) true fuel e cs = some y → ∃ a, good a (Rows.uptoBulk y.1) ∧ FU (fun b => b < W.heap.size) W (enc' a) cs) (h : DataW.trod enc P W 0 (fun _ => true) true fuel t cs = some x) :
  ∃ v l, cs = [v] ∧ (∀ a ∈ l, ∃ n, n ≤ Rows.uptoBulk x.1 ∧ good a n) ∧ l.length ≤ Rows.uptoBulk x.1 ∧ l.length ≤ maxLen ∧ dJ (fun b => b < W.heap.size) W (.sl m enc' d0 l) v := by
 rcases DataW.trod_slice ht h with ⟨rfl, hx⟩ | ⟨a, len, cap, elems, rest, n, _, rfl, hx, _, hl, hm, hlen, hel, _, _⟩
 ·exact ⟨_, [], rfl, fun a ha => by simp at ha, by simp, by simp, .nil _ _ _ _ _ (by omega) (fun _ => rfl)⟩
 have hb1 : elems.length ≤ Rows.uptoBulk x.1 := by
  rw [hx]
  have h1 := FW (elems.map (·.1))
  rw [List.length_map] at h1
  simp only [Rows.uptoBulk]
  omega
 have hb2 : ∀ y ∈ elems, Rows.uptoBulk y.1 ≤ Rows.uptoBulk x.1 := fun y hy => by
  rw [hx]
  have h1 := mr (d := y.1) (l := elems.map (·.1)) (List.mem_map.2 ⟨y, hy, rfl⟩)
  simp only [Rows.uptoBulk]
  omega
 have hb3 : len ≤ Rows.uptoBulk x.1 := by rw [← hlen]; exact hb1
 subst hx
 by_cases h0 : len = 0
 ·subst h0
  exact ⟨_, [], rfl, fun a ha => by simp at ha, by simp, by simp, .nil _ _ _ _ _ hm (fun h => by cases h)⟩
 have each : ∀ i, ∃ a' : α, i < len → (∃ n, n ≤ Rows.uptoBulk (DataW.slice (elems.map (·.1)) (rest.map (·.1))) ∧ good a' n) ∧ (enc' a').length = m ∧ ∀ j y, (enc' a')[j]? = some y → ∃ v, W.cell? ((a.add (i * m)).add j) = some v ∧ dJ (fun b => b < W.heap.size) W y v := by
  intro i
  by_cases hi : i < len
  ·have h1 := hel i hi
   rw [List.getElem?_eq_getElem (by omega), hc, Option.bind_eq_some_iff] at h1
   obtain ⟨cs', hcs, hy⟩ := h1
   obtain ⟨a', g1, g2⟩ := he _ _ _ hy
   obtain ⟨-, hl', hg'⟩ := World.cells?_some hcs
   refine ⟨a', fun _ => ⟨⟨_, hb2 _ (List.getElem_mem _), g1⟩, by rw [g2.at.1, hl'], fun j y hy' => ?_⟩⟩
   obtain ⟨u, hu, hr⟩ := g2.at.2 j y hy'
   have hj : j < m := by
    have := (List.getElem?_eq_some_iff.1 hu).1
    omega
   exact ⟨u, by rw [hg' j hj]; exact hu, hr⟩
  ·exact ⟨d0, fun h => (hi h).elim⟩
 obtain ⟨f, hf⟩ := Classical.axiomOfChoice each
 obtain ⟨b, off, spot⟩ := a
 have hspot : spot = none ∧ b < W.heap.size := by
  obtain ⟨_, hm', h2⟩ := hf 0 (by omega)
  obtain ⟨y, hy⟩ : ∃ y, (enc' (f 0))[0]? = some y := ⟨_, List.getElem?_eq_getElem (by omega)⟩
  obtain ⟨v, hv, -⟩ := h2 0 y hy
  have h3 : spot = none := by simpa [Addr.add] using World.cell?_spot hv
  subst h3
  refine ⟨rfl, ?_⟩
  unfold World.cell? at hv
  simp only [Addr.add, if_true, Nat.zero_mul] at hv
  split at hv
  ·rename_i hb
   exact (Array.getElem?_eq_some_iff.1 hb).1
  ·cases hv
 obtain ⟨rfl, hb⟩ := hspot
 have hadd : ∀ i, (⟨b, off, none⟩ : Addr).add i = ⟨b, off + i, none⟩ := fun i => by unfold Addr.add; split <;> simp_all
 have hadd2 : ∀ i j, ((⟨b, off, none⟩ : Addr).add i).add j = ⟨b, off + i + j, none⟩ := fun i j => by rw [hadd]; unfold Addr.add; split <;> simp_all
 have hget : ∀ (i : Nat) (x : α), ((List.range len).map f)[i]? = some x → i < len ∧ x = f i := by
  intro i x hx
  simp only [List.getElem?_map, Option.map_eq_some_iff] at hx
  obtain ⟨j, hj, rfl⟩ := hx
  obtain ⟨h1, h2⟩ := List.getElem?_eq_some_iff.1 hj
  simp at h1 h2
  exact ⟨h1, by rw [h2]⟩
 refine ⟨_, (List.range len).map f, rfl, ?_, by rw [List.length_map, List.length_range]; exact hb3, by simp; omega, .row m enc' d0 _ b off cap len (fun i j => (W.cell? ⟨b, off + i * m + j, none⟩).getD undef) hb hb (by simp) hl hm ?_ ?_ ?_⟩
 ·intro a' ha
  obtain ⟨i, hi⟩ := List.getElem?_of_mem ha
  obtain ⟨h1, rfl⟩ := hget i a' hi
  exact (hf i h1).1
 ·intro i x hx
  obtain ⟨h1, rfl⟩ := hget i x hx
  exact (hf i h1).2.1
 ·intro i x j y hx hy
  obtain ⟨h1, rfl⟩ := hget i x hx
  obtain ⟨v, g0, _⟩ := (hf i h1).2.2 j y hy
  rw [hadd2] at g0
  show W.cell? _ = some ((W.cell? _).getD undef)
  simp only [Nat.add_assoc] at g0 ⊢
  rw [g0]
  rfl
 ·intro i x j y hx hy
  obtain ⟨h1, rfl⟩ := hget i x hx
  obtain ⟨v, g0, g2⟩ := (hf i h1).2.2 j y hy
  rw [hadd2] at g0
  show dJ _ _ _ ((W.cell? _).getD undef)
  rw [g0]
  exact g2
theorem Ds {t e : TypeId} {k : IntKind} {fuel : Nat} {cs : List Value} {x : DataW H × List MemPlace} (ht : P.underlying t = some (.slice e)) (he : P.underlying e = some (.int k)) (hc : P.cellsOf e = 1)
  (h : DataW.trod enc P W 0 (fun _ => true) true fuel t cs = some x) : ∃ v l, cs = [v] ∧ l.length ≤ Rows.uptoBulk x.1 ∧ l.length ≤ maxLen ∧ dJ (fun b => b < W.heap.size) W (.sl 1 (ae k) 0 l) v := by
 obtain ⟨v, l, h1, _, h3, h4, h5⟩ := rD (good := fun _ _ => True) (enc' := ae k) (d0 := 0) ht hc (by decide) (fun fuel cs y hy => by
  obtain ⟨n, e1, _, e3⟩ := DataW.trod_int he hy
  exact ⟨n, trivial, by rw [e1]; exact ⟨.int _ _, trivial⟩⟩) h
 exact ⟨v, l, h1, h3, h4, h5⟩
theorem rE {fuel : Nat} {cs : List Value} {y : DataW H × List MemPlace} (hy : DataW.trod enc Tryz.prog W 0 (fun _ => true) true fuel 30 cs = some y) :
  ∃ s : Sm, (s.name.size ≤ Rows.uptoBulk y.1 ∧ s.words.length ≤ Rows.uptoBulk y.1) ∧ FU (fun b => b < W.heap.size) W (dZ s) cs := by
 obtain ⟨xs, n, _, hxe, hl, hlen, hf⟩ := DataW.trod_struct Tryz.underlying30 hy
 obtain ⟨a, b, rfl⟩ := Ko cs (by rw [hl]; kernel_rfl)
 have f0 := hf 0 _ rfl
 have f1 := hf 1 _ rfl
 have hl2 : xs.length = 2 := hlen
 rw [List.getElem?_eq_getElem (by omega)] at f0 f1
 have eS : Tryz.prog.cellsOf 9 = 1 := by kernel_rfl
 have eI : Tryz.prog.cellsOf 28 = 1 := by kernel_rfl
 simp only [List.getElem_toArray, List.getElem_cons_zero, List.getElem_cons_succ, eI, eS, List.drop_zero, List.drop_succ_cons, List.take_succ_cons, List.take_zero] at f0 f1
 obtain ⟨s, e1, e2, e3⟩ := DataW.trod_string Tryz.underlying9 f0
 obtain ⟨u1, l1, e4, n1, _, r1⟩ := Ds (k := .i64) Tryz.underlying28 Tryz.underlying3 (by kernel_rfl) f1
 simp only [List.cons.injEq, and_true] at e1 e4
 subst e1
 subst e4
 have hb : ∀ z ∈ xs, Rows.uptoBulk z.1 ≤ Rows.uptoBulk y.1 := fun z hz => by
  rw [hxe]
  have h1 := mr (d := z.1) (l := xs.map (·.1)) (List.mem_map.2 ⟨z, hz, rfl⟩)
  simp only [Rows.uptoBulk]
  omega
 have b0 := hb _ (List.getElem_mem (show 0 < xs.length by omega))
 have b1 := hb _ (List.getElem_mem (show 1 < xs.length by omega))
 rw [e2] at b0
 have b2 : s.data.toList.length + 1 ≤ Rows.uptoBulk y.1 := by
  have e : Rows.uptoBulk ((DataW.lit (H := H) (.string s.data.toList), ([] : List MemPlace))).1 = s.data.toList.length + 1 := by simp only [Rows.uptoBulk]
  rw [← e]; exact b0
 refine ⟨⟨s, l1⟩, ⟨?_, Nat.le_trans n1 b1⟩, .str _, r1, trivial⟩
 have : s.size = s.data.toList.length := by rw [Array.length_toList]; rfl
 show s.size ≤ _
 omega
theorem pO {fuel : Nat} {cs : List Value} {x : DataW H × List MemPlace} (hx : DataW.trod enc Tryz.prog W 0 (fun _ => true) true fuel 27 cs = some x) (hk : Rows.uptoBulk x.1 ≤ 1048576) :
  ∃ v l, cs = [v] ∧ l.length ≤ 1048576 ∧ (∀ i, (l.getD i aG).name.size ≤ 1048576 ∧ (l.getD i aG).words.length ≤ 1048576) ∧ dJ (fun b => b < W.heap.size) W (.sl 2 dZ aG l) v := by
 obtain ⟨v, l, h1, h2, h3, _, h5⟩ := rD (m := 2) (enc' := dZ) (d0 := aG) (good := fun (s : Sm) n => s.name.size ≤ n ∧ s.words.length ≤ n) Tryz.underlying27 (by kernel_rfl) (by decide) (fun fuel cs y hy => rE hy) hx
 refine ⟨v, l, h1, by omega, fun i => ?_, h5⟩
 by_cases hi : i < l.length
 ·rw [ip _ _ hi]
  obtain ⟨n, g1, g2, g3⟩ := h2 _ (List.getElem_mem hi)
  omega
 ·rw [List.getD, List.getElem?_eq_none (by omega)]; exact ⟨by decide, by simp⟩
end
end Go.Proofs.YtgmpoenfoacofaaGreat
