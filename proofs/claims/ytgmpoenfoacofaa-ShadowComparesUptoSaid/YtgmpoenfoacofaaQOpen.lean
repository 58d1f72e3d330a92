/-
  What a row's reading of an argument says to the walks. Over any program.
-/
import Derived.Test.YtgmpoenfoacofaaQRep
import Derived.ProofKit
import Derived.OpenShut
import Derived.ShutString
import Derived.ChangeOld
namespace Go.Proofs.Ytgmpoenfoacofaa
open Go.ChangeShapes Go.WideShapes Go.ChangeAt Go.RowKit
section
variable {H : Type} {enc : TypeId × Value → H} {P : Program} {W : World} {r : Reach} {base : Nat}
theorem pG {t e : TypeId} {n : Nat} {k : IntKind} {v : Value} {d : DataW H} {p : List MemPlace} (ht : P.underlying t = some (.array n e)) (he : P.underlying e = some (.int k)) (hc : P.cellsOf e = 1) (hn : P.cellsOf t = n)
  (hv : Value.okWide P W r base t v) (h : DataW.Trod enc P W 0 (fun _ => true) true t v d p) : ∃ xs : List Int, xs.length = n ∧ v = .agg (xs.map (Value.int k)).toArray ∧ ∀ x ∈ xs, vW k x := by
 unfold Value.okWide at hv
 rw [ht] at hv
 obtain ⟨cs, rfl, hs, _⟩ := hv
 obtain ⟨fuel, hf⟩ := h
 obtain ⟨ys, m, _, _, _, hl, hel⟩ := DataW.trod_array ht hf
 have each : ∀ i, i < n → ∃ x, cs[i]? = some (.int k x) ∧ vW k x := by
  intro i hi
  have h1 := hel i hi
  rw [List.getElem?_eq_getElem (by omega)] at h1
  simp only [Value.cells, hc, Nat.mul_one] at h1
  have hi' : i < cs.size := by omega
  have e1 : (cs.toList.drop i).take 1 = [cs[i]] := by
   rw [List.drop_eq_getElem_cons (by simpa using hi')]
   simp
  rw [e1] at h1
  obtain ⟨x, e0, _, wf⟩ := DataW.trod_int he h1
  simp at e0
  exact ⟨x, by rw [Array.getElem?_eq_getElem hi', e0], wf⟩
 refine ⟨(List.range n).map (fun i => intOf (cs[i]?.getD undef)), by simp, ?_, ?_⟩
 ·congr 1
  refine Array.ext (by simp; omega) (fun i h1 h2 => ?_)
  obtain ⟨x, hx, _⟩ := each i (by omega)
  rw [Array.getElem?_eq_getElem h1] at hx
  simp only [Option.some.injEq] at hx
  simp [hx, h1, intOf]
 ·intro x hx
  simp only [List.mem_map, List.mem_range] at hx
  obtain ⟨i, hi, rfl⟩ := hx
  obtain ⟨x, hx, wf⟩ := each i hi
  rw [hx]
  exact wf
theorem pH {k : IntKind} {x : Int} (h : vW k x) (hk : k.signed = false) : ∃ n : Nat, x = n ∧ (n : Int) ≤ k.max := by
 have h1 : k.min ≤ x ∧ x ≤ k.max := by simpa [vW, Lit.wf] using h
 have h0 : k.min = 0 := by unfold IntKind.min; rw [hk]; rfl
 obtain ⟨n, rfl⟩ := Int.eq_ofNat_of_zero_le (a := x) (by omega)
 exact ⟨n, rfl, h1.2⟩
theorem nZ {t e : TypeId} {k : IntKind} {v : Value} {d : DataW H} {p : List MemPlace} (hs : k.signed = false) (ht : P.underlying t = some (.array 2 e)) (he : P.underlying e = some (.int k)) (hc : P.cellsOf e = 1) (hn : P.cellsOf t = 2)
  (hv : Value.okWide P W r base t v) (h : DataW.Trod enc P W 0 (fun _ => true) true t v d p) : ∃ x0 x1 : Nat, v = .agg #[.int k (x0 : Int), .int k (x1 : Int)] ∧ (x0 : Int) ≤ k.max ∧ (x1 : Int) ≤ k.max := by
 obtain ⟨xs, hl, rfl, hf⟩ := pG ht he hc hn hv h
 match xs, hl with
 | [y0, y1], _ =>
  obtain ⟨x0, rfl, b0⟩ := pH (hf y0 (by simp)) hs
  obtain ⟨x1, rfl, b1⟩ := pH (hf y1 (by simp)) hs
  exact ⟨x0, x1, rfl, b0, b1⟩
end
end Go.Proofs.Ytgmpoenfoacofaa
