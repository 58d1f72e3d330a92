/-
  Slices that a call makes: literals, make, append; calls; and every operation in one word. Generic: over any program.
-/
import Derived.Test.YtjmfaebimgnblaaAiH
import Derived.Laws.MakeOwn
import Derived.Laws.OwnMore
namespace Go.Proofs.Ytjmfaebimgnblaa
open Go.RowKit
set_option linter.unusedVariables false
set_option linter.unusedSimpArgs false

section
variable {C : Ctx} {S : Nat → Prop} {μ : Nat → Value} {st st' : St} {a : Act} {w w' : World} {p : Prop}

theorem info_of {P : Program} {E : TypeId} {z : List D} (hz : zeroD P E = some z) : ∃ (i : TypeInfo) (v : Value), P.info? E = some i ∧ i.zero = some v ∧ z = v.cells.toList.map D.ofVal1 ∧ i.size = szOf P E ∧ i.bytes = bytesOf' P E := by
  unfold zeroD at hz
  cases hi : P.info? E with
  | none => simp [hi] at hz
  | some i =>
    cases hv : i.zero with
    | none => simp [hi, hv] at hz
    | some v =>
      simp only [hi, hv, Option.bind_some, Option.map_some, Option.some.injEq] at hz
      exact ⟨i, v, rfl, hv, hz.symm, by simp [szOf, hi], by simp [bytesOf', hi]⟩

theorem dvd_split {k sz : Nat} (h : 0 < sz) : k = (k / sz) * sz + k % sz := by
  have := Nat.div_add_mod k sz
  rw [Nat.mul_comm] at this
  omega

/-- The cells of a literal of n elements. -/
theorem flat_get {α : Type _} (z : List α) (sz : Nat) (hz : z.length = sz) (hs : 0 < sz) : ∀ (n k : Nat), (List.replicate n z).flatten[k]? = if k < n * sz then z[k % sz]? else none
  | 0, k => by simp
  | n + 1, k => by
    rw [List.replicate_succ, List.flatten_cons, Nat.succ_mul]
    by_cases hk : k < sz
    · rw [List.getElem?_append_left (by omega), if_pos (by omega), Nat.mod_eq_of_lt hk]
    · rw [List.getElem?_append_right (by omega), flat_get z sz hz hs n (k - z.length), hz]
      by_cases hk2 : k < n * sz + sz
      · rw [if_pos (by omega), if_pos hk2]
        congr 1
        rw [← Nat.mod_eq_sub_mod (by omega)]
      · rw [if_neg (by omega), if_neg hk2]

theorem flat_reps {P : Program} {z : List D} {zv : Array Value} (hz : RepsA S μ w z zv) {sz : Nat} (hzl : z.length = sz) (hs : 0 < sz) (n : Nat) : RepsA S μ w (List.replicate n z).flatten ((Array.range (n * sz)).map (zv[· % zv.size]!)) := by
  have hl : (List.replicate n z).flatten.length = n * sz := by simp [hzl]
  refine ⟨by simp [hl], fun j y u hy hu => ?_⟩
  have hj : j < n * sz := by rw [← hl]; exact (List.getElem?_eq_some_iff.1 hy).1
  rw [flat_get z sz hzl hs, if_pos hj] at hy
  have hm : j % sz < zv.size := by rw [hz.1, hzl]; exact Nat.mod_lt _ hs
  simp only [Array.getElem?_map, Array.getElem?_range, hj, if_true, Option.map_some, Option.some.injEq] at hu
  refine hz.2 (j % sz) y u hy ?_
  rw [← hu, hz.1, hzl]
  simp [hm]

theorem chunk_get (sz n : Nat) (cells : List D) {i : Nat} {x : List D} (h : (chunk sz n cells)[i]? = some x) : i < n ∧ x = (cells.drop (i * sz)).take sz := by
  unfold chunk at h
  obtain ⟨k, hk, rfl⟩ := map_inv h
  have hi := (List.getElem?_eq_some_iff.1 hk)
  obtain ⟨h1, h2⟩ := hi
  simp at h1 h2
  subst h2
  exact ⟨h1, rfl⟩

/-- A new row of cells, as an array. -/
theorem arr_new {E sz n : Nat} {cells : List D} {vs : Array Value} (hr : RepsA S μ w cells vs) (hl : cells.length = n * sz) (hn : n ≤ maxLen) {L : List (List V)} (hLl : L.length = n)
    (hL : ∀ (i : Nat) (x : List V), L[i]? = some x → x.length = sz ∧ ∀ (j : Nat) (y : V), x[j]? = some y → ∃ d, cells[i * sz + j]? = some d ∧ ∀ u, DRep S μ w d u → Rep S w y u)
    (hS : ∀ b, S b → b < w.heap.size) : ArrL S (w.alloc (.cells vs E)) E sz L (.slice (some ⟨w.heap.size, 0, none⟩) n n) := by
  subst hLl
  refine ⟨fun i x hx => (hL i x hx).1, vs.toList, World.ownsRow_lit w vs L.length (Nat.zero_le _) hn (by rw [hr.1, hl]), fun i x j y hx hy => ?_⟩
  obtain ⟨d, hd, hrep⟩ := (hL i x hx).2 j y hy
  have hlt : i * sz + j < vs.size := by rw [hr.1]; exact (List.getElem?_eq_some_iff.1 hd).1
  refine ⟨vs[i * sz + j], by simp [hlt], ?_⟩
  exact (hrep _ (hr.2 _ _ _ hd (Array.getElem?_eq_getElem hlt))).stable (fun _ h _ => h) (fun b hb hl => Below.heap_alloc w _ b hl) (by simp)

theorem run_buildSlice {P : Program} {t E : TypeId} {len : Nat} {uparts : List (Nat × Value)} {i : TypeInfo} {v : Value} (hu : P.underlying t = some (.slice E)) (hi : P.info? E = some i) (hv : i.zero = some v) (hcap : len * i.size ≤ 4096)
    {cells : Array Value} (hf : Instr.fill (fun k => some (k * i.size, i.size)) ((Array.range (len * i.size)).map (v.cells[· % v.cells.size]!)) uparts = some cells) :
    (Instr.buildSlice t len uparts.toArray).run P w = .ok (.slice (some ⟨w.heap.size, 0, none⟩) len len) (w.alloc (.cells cells E)) := by
  by_cases hn : len * i.size = 0
  · have e0 : (Array.range (len * i.size)).map (v.cells[· % v.cells.size]!) = #[] := by rw [hn]; simp [Array.range_zero']
    rw [e0] at hf
    have e1 : ∀ f : Nat → Value, (Array.range 0).map f = #[] := fun f => by simp [Array.range_zero']
    unfold Instr.buildSlice
    simp only [Sem.run_bind, run_underlying hu, Result.andThen_ok, sizeOf, typeInfo, program]
    simp only [Sem.run, hi, Sem.run_pure, Result.andThen_ok]
    rw [if_neg (by omega), if_pos hn]
    simp only [Sem.run_pure, Result.andThen_ok, hn, e1, hf]
    simp [newRow, newObj, Sem.run]
  · unfold Instr.buildSlice
    simp only [Sem.run_bind, run_underlying hu, Result.andThen_ok, sizeOf, typeInfo, program]
    simp only [Sem.run, hi, Sem.run_pure, Result.andThen_ok]
    rw [if_neg (by omega), if_neg hn]
    have hz : (zeroValue E).run P w = .ok v w := by simp [zeroValue, typeInfo, hi, hv, Sem.run_bind]
    simp only [Sem.run_bind, hz, Sem.run_pure, Result.andThen_ok, hf]
    simp [newRow, newObj, Sem.run]

end
end Go.Proofs.Ytjmfaebimgnblaa
