/-
  What a row's reading of an argument says to the walks. Over any program.
-/
import Derived.Test.YtjmfaebimgnblaaRep
import Derived.ProofKit
import Derived.OpenShut
import Derived.ShutString
import Derived.ChangeOld
namespace Go.Proofs.Ytjmfaebimgnblaa
open Go.ChangeShapes Go.WideShapes Go.ChangeAt Go.RowKit

section
variable {H : Type} {enc : TypeId × Value → H} {P : Program} {W : World} {r : Reach} {base : Nat}

theorem ints_of_trod {t e : TypeId} {k : IntKind} {v : Value} {d : DataW H} {p : List MemPlace} (ht : P.underlying t = some (.slice e)) (he : P.underlying e = some (.int k)) (hc : P.cellsOf e = 1)
    (hv : Value.okWide P W r base t v) (h : DataW.Trod enc P W 0 (fun _ => true) true t v d p) : ∃ l, IsInts k (fun _ => True) W v l ∧ ∀ x ∈ l, Fits k x := by
  obtain ⟨a0, len, cap, rfl⟩ := okWide_slice ht hv
  obtain ⟨fuel, hf⟩ := h
  rcases open_ints ht he hc hf with ⟨hcs, _⟩ | ⟨x, l, c, zs, hcs, _, hl, hm, hz, _, hcell, hwz⟩
  · simp [Value.cells] at hcs
    obtain ⟨rfl, rfl, rfl⟩ := hcs
    exact ⟨[], IsRow.nil _ _ _, fun x hx => by cases hx⟩
  · simp [Value.cells] at hcs
    obtain ⟨rfl, rfl, rfl⟩ := hcs
    have hz : zs.length = cap := by simpa using hz
    have hlen : (zs.take len).length = len := by simp; omega
    refine ⟨zs.take len, ⟨some x, cap, by rw [hlen], by omega, hm, fun h => (by cases h), fun h0 => ?_⟩, fun y hy => hwz y (List.mem_of_mem_take hy)⟩
    obtain ⟨b, off, spot⟩ := x
    have h00 := hcell 0 (by omega)
    have hspot : spot = none := by simpa [Addr.add] using World.cell?_spot h00
    subst hspot
    have hadd : ∀ i, (⟨b, off, none⟩ : Addr).add i = ⟨b, off + i, none⟩ := fun i => by unfold Addr.add; split <;> simp_all
    refine ⟨b, off, rfl, trivial, ?_, fun i y hy => ?_⟩
    · have := h00
      unfold World.cell? at this
      simp only [Addr.add, if_true] at this
      split at this
      · rename_i hb
        exact (Array.getElem?_eq_some_iff.1 hb).1
      · cases this
    · have hi := (List.getElem?_eq_some_iff.1 hy).1
      have := hcell i (by omega)
      rw [hadd] at this
      rw [this]
      rw [List.getElem?_take, if_pos (by omega)] at hy
      simp [List.getD_eq_getElem?_getD, hy]

theorem arr_of_trod {t e : TypeId} {n : Nat} {k : IntKind} {v : Value} {d : DataW H} {p : List MemPlace} (ht : P.underlying t = some (.array n e)) (he : P.underlying e = some (.int k)) (hc : P.cellsOf e = 1) (hn : P.cellsOf t = n)
    (hv : Value.okWide P W r base t v) (h : DataW.Trod enc P W 0 (fun _ => true) true t v d p) : ∃ xs : List Int, xs.length = n ∧ v = .agg (xs.map (Value.int k)).toArray ∧ ∀ x ∈ xs, Fits k x := by
  unfold Value.okWide at hv
  rw [ht] at hv
  obtain ⟨cs, rfl, hs, _⟩ := hv
  obtain ⟨fuel, hf⟩ := h
  obtain ⟨ys, m, _, _, _, hl, hel⟩ := DataW.trod_array ht hf
  have each : ∀ i, i < n → ∃ x, cs[i]? = some (.int k x) ∧ Fits k x := by
    intro i hi
    have h1 := hel i hi
    rw [List.getElem?_eq_getElem (by omega)] at h1
    simp only [Value.cells, hc, Nat.mul_one] at h1
    have hi' : i < cs.size := by omega
    have e1 : (cs.toList.drop i).take 1 = [cs[i]] := by
      rw [List.drop_eq_getElem_cons (by simpa using hi')]
      simp
    rw [e1] at h1
    obtain ⟨x, e0, _, wf⟩ := DataW.trod_int he h1
    simp at e0
    exact ⟨x, by rw [Array.getElem?_eq_getElem hi', e0], wf⟩
  refine ⟨(List.range n).map (fun i => intOf (cs[i]?.getD undef)), by simp, ?_, ?_⟩
  · congr 1
    refine Array.ext (by simp; omega) (fun i h1 h2 => ?_)
    obtain ⟨x, hx, _⟩ := each i (by omega)
    rw [Array.getElem?_eq_getElem h1] at hx
    simp only [Option.some.injEq] at hx
    simp [hx, h1, intOf]
  · intro x hx
    simp only [List.mem_map, List.mem_range] at hx
    obtain ⟨i, hi, rfl⟩ := hx
    obtain ⟨x, hx, wf⟩ := each i hi
    rw [hx]
    exact wf

theorem fits_nat {k : IntKind} {x : Int} (h : Fits k x) (hk : k.signed = false) : ∃ n : Nat, x = n ∧ (n : Int) ≤ k.max := by
  have h1 : k.min ≤ x ∧ x ≤ k.max := by simpa [Fits, Lit.wf] using h
  have h0 : k.min = 0 := by unfold IntKind.min; rw [hk]; rfl
  obtain ⟨n, rfl⟩ := Int.eq_ofNat_of_zero_le (a := x) (by omega)
  exact ⟨n, rfl, h1.2⟩

theorem arr2_of_trod {t e : TypeId} {k : IntKind} {v : Value} {d : DataW H} {p : List MemPlace} (hs : k.signed = false) (ht : P.underlying t = some (.array 2 e)) (he : P.underlying e = some (.int k)) (hc : P.cellsOf e = 1) (hn : P.cellsOf t = 2)
    (hv : Value.okWide P W r base t v) (h : DataW.Trod enc P W 0 (fun _ => true) true t v d p) : ∃ x0 x1 : Nat, v = .agg #[.int k (x0 : Int), .int k (x1 : Int)] ∧ (x0 : Int) ≤ k.max ∧ (x1 : Int) ≤ k.max := by
  obtain ⟨xs, hl, rfl, hf⟩ := arr_of_trod ht he hc hn hv h
  match xs, hl with
  | [y0, y1], _ =>
    obtain ⟨x0, rfl, b0⟩ := fits_nat (hf y0 (by simp)) hs
    obtain ⟨x1, rfl, b1⟩ := fits_nat (hf y1 (by simp)) hs
    exact ⟨x0, x1, rfl, b0, b1⟩

theorem arr3_of_trod {t e : TypeId} {k : IntKind} {v : Value} {d : DataW H} {p : List MemPlace} (hs : k.signed = false) (ht : P.underlying t = some (.array 3 e)) (he : P.underlying e = some (.int k)) (hc : P.cellsOf e = 1) (hn : P.cellsOf t = 3)
    (hv : Value.okWide P W r base t v) (h : DataW.Trod enc P W 0 (fun _ => true) true t v d p) : ∃ x0 x1 x2 : Nat, v = .agg #[.int k (x0 : Int), .int k (x1 : Int), .int k (x2 : Int)] ∧ (x0 : Int) ≤ k.max ∧ (x1 : Int) ≤ k.max ∧ (x2 : Int) ≤ k.max := by
  obtain ⟨xs, hl, rfl, hf⟩ := arr_of_trod ht he hc hn hv h
  match xs, hl with
  | [y0, y1, y2], _ =>
    obtain ⟨x0, rfl, b0⟩ := fits_nat (hf y0 (by simp)) hs
    obtain ⟨x1, rfl, b1⟩ := fits_nat (hf y1 (by simp)) hs
    obtain ⟨x2, rfl, b2⟩ := fits_nat (hf y2 (by simp)) hs
    exact ⟨x0, x1, x2, rfl, b0, b1, b2⟩

theorem arr4_of_trod {t e : TypeId} {k : IntKind} {v : Value} {d : DataW H} {p : List MemPlace} (hs : k.signed = false) (ht : P.underlying t = some (.array 4 e)) (he : P.underlying e = some (.int k)) (hc : P.cellsOf e = 1) (hn : P.cellsOf t = 4)
    (hv : Value.okWide P W r base t v) (h : DataW.Trod enc P W 0 (fun _ => true) true t v d p) : ∃ x0 x1 x2 x3 : Nat, v = .agg #[.int k (x0 : Int), .int k (x1 : Int), .int k (x2 : Int), .int k (x3 : Int)] ∧ (x0 : Int) ≤ k.max ∧ (x1 : Int) ≤ k.max ∧ (x2 : Int) ≤ k.max ∧ (x3 : Int) ≤ k.max := by
  obtain ⟨xs, hl, rfl, hf⟩ := arr_of_trod ht he hc hn hv h
  match xs, hl with
  | [y0, y1, y2, y3], _ =>
    obtain ⟨x0, rfl, b0⟩ := fits_nat (hf y0 (by simp)) hs
    obtain ⟨x1, rfl, b1⟩ := fits_nat (hf y1 (by simp)) hs
    obtain ⟨x2, rfl, b2⟩ := fits_nat (hf y2 (by simp)) hs
    obtain ⟨x3, rfl, b3⟩ := fits_nat (hf y3 (by simp)) hs
    exact ⟨x0, x1, x2, x3, rfl, b0, b1, b2, b3⟩

end
end Go.Proofs.Ytjmfaebimgnblaa
