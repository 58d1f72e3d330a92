/-
  Variables that lie in a block of their own: filling, loading. Over any program.
-/
import Derived.Test.YtjmfaebimgnblaaApp
namespace Go.Proofs.Ytjmfaebimgnblaa
open Go.RowKit

/-- Block b holds the cells cs of a variable of type T. -/
def OBox (w : World) (b : Nat) (T : TypeId) (cs : Array Value) : Prop := w.heap[b]? = some (.cells cs T (0, 0))
theorem OBox.lt {w : World} {b : Nat} {T : TypeId} {cs : Array Value} (h : OBox w b T cs) : b < w.heap.size := (Array.getElem?_eq_some_iff.1 h).1
theorem OBox.later {w w' : World} {b : Nat} {T : TypeId} {cs : Array Value} (h : OBox w b T cs) (hb : Below w.heap.size w w') : OBox w' b T cs := (hb.block b h.lt).trans h
theorem OBox.cell {w : World} {b : Nat} {T : TypeId} {cs : Array Value} (h : OBox w b T cs) (o : Nat) {v : Value} (hv : cs[o]? = some v) : w.cell? ⟨b, o, none⟩ = some v := by
  unfold OBox at h
  simp [World.cell?, h, hv]
theorem OBox.free {w : World} {b : Nat} {T : TypeId} {cs : Array Value} (h : OBox w b T cs) (o : Nat) : w.frozen? ⟨b, o, none⟩ = false := by
  unfold OBox at h
  simp [World.frozen?, h]
theorem OBox.new (w : World) (T : TypeId) (cs : Array Value) : OBox (w.alloc (.cells cs T)) w.heap.size T cs := heap_alloc_new w _

/-- A pointer to a variable whose value is as R says. -/
def BoxOf (T : TypeId) (R : (Nat → Prop) → Value → World → Prop) (S : Nat → Prop) (v : Value) (w : World) : Prop :=
  ∃ b cs, v = .pointer (some ⟨b, 0, none⟩) ∧ S b ∧ OBox w b T cs ∧ R S (.agg cs) w
theorem BoxOf.stable (T : TypeId) {R : (Nat → Prop) → Value → World → Prop} (hR : Stable R) : Stable (BoxOf T R) := by
  rintro S S' v w w' ⟨b, cs, rfl, h1, h2, h3⟩ hS hw hsz
  exact ⟨b, cs, rfl, hS b h1 h2.lt, (hw b h1 h2.lt).trans h2, hR S S' _ w w' h3 hS hw hsz⟩
/-- The same of a variable of one cell. -/
def BoxOf1 (T : TypeId) (R : (Nat → Prop) → Value → World → Prop) (S : Nat → Prop) (v : Value) (w : World) : Prop :=
  ∃ b x, v = .pointer (some ⟨b, 0, none⟩) ∧ S b ∧ OBox w b T #[x] ∧ R S x w
theorem BoxOf1.stable (T : TypeId) {R : (Nat → Prop) → Value → World → Prop} (hR : Stable R) : Stable (BoxOf1 T R) := by
  rintro S S' v w w' ⟨b, cs, rfl, h1, h2, h3⟩ hS hw hsz
  exact ⟨b, cs, rfl, hS b h1 h2.lt, (hw b h1 h2.lt).trans h2, hR S S' _ w w' h3 hS hw hsz⟩

theorem addr_add0 (b i : Nat) : (⟨b, 0, none⟩ : Addr).add i = ⟨b, i, none⟩ := by unfold Addr.add; split <;> simp_all

section
variable {P : Program} {ρ : Operand → Value} {w : World} {o : Oper}

theorem OnlyBlock.trans {b : Nat} {x y z : World} (h : OnlyBlock b x y) (k : OnlyBlock b y z) : OnlyBlock b x z :=
  ⟨k.os.trans h.os, k.tape.trans h.tape, k.output.trans h.output, k.size.trans h.size, fun i hi => (k.block i hi).trans (h.block i hi)⟩

/-- Storing a row of cells into a block that is not frozen. -/
theorem run_storeCells_box (b : Nat) (T : TypeId) : ∀ (vs : List Value) (i : Nat) (z : Array Value) (w : World), OBox w b T z → i + vs.length ≤ z.size → (∀ v ∈ vs, v.oneCell' = true) →
    ∃ w', (storeCells ⟨b, 0, none⟩ vs i).run P w = .ok () w' ∧ OnlyBlock b w w' ∧ ∃ z', OBox w' b T z' ∧ z'.size = z.size ∧ (∀ k, k < i → z'[k]? = z[k]?) ∧ (∀ k v, vs[k]? = some v → z'[i + k]? = some v) ∧ (∀ k, i + vs.length ≤ k → z'[k]? = z[k]?) := by
  intro vs
  induction vs with
  | nil =>
    intro i z w hb hl h1
    exact ⟨w, by simp [storeCells], ⟨rfl, rfl, rfl, rfl, fun _ _ => rfl⟩, z, hb, rfl, fun _ _ => rfl, fun k v h => by simp at h, fun _ _ => rfl⟩
  | cons v vs ih =>
    intro i z w hb hl h1
    simp only [List.length_cons] at hl
    have hi : i < z.size := by omega
    have hc : w.cell? ⟨b, i, none⟩ = some z[i] := hb.cell i (Array.getElem?_eq_getElem hi)
    have hf : w.frozen? ⟨b, i, none⟩ = false := hb.free i
    have hb2 : OBox (w.setCell ⟨b, i, none⟩ v) b T (z.setIfInBounds i v) := by
      have hlt := hb.lt
      unfold OBox at hb ⊢
      simp only [World.setCell, Array.getElem?_modify, if_true, hb]
      rfl
    have hst : (store ⟨b, i, none⟩ v .plain).run P w = .ok () (w.setCell ⟨b, i, none⟩ v) := by
      rw [run_store P w ⟨b, i, none⟩ v .plain (h1 v (by simp))]
      simp [stored, hc, hf]
    obtain ⟨w', hr, ho, z', q1, q2, q3, q4, q5⟩ := ih (i + 1) (z.setIfInBounds i v) _ hb2 (by simp; omega) (fun u hu => h1 u (by simp [hu]))
    refine ⟨w', ?_, ?_, z', q1, by simpa using q2, ?_, ?_, ?_⟩
    · rw [storeCells, addr_add0]
      simp only [Sem.run_bind, hst, Result.andThen_ok]
      exact hr
    · have h0 : OnlyBlock b w (w.setCell ⟨b, i, none⟩ v) := ⟨rfl, rfl, rfl, by simp [World.setCell], fun k hk => Below.heap_setCell _ _ _ _ hk⟩
      exact h0.trans ho
    · intro k hk
      rw [q3 k (by omega), Array.getElem?_setIfInBounds_ne (by omega)]
    · intro k u hu
      cases k with
      | zero =>
        simp at hu
        subst hu
        rw [Nat.add_zero, q3 i (by omega), Array.getElem?_setIfInBounds_self_of_lt hi]
      | succ k =>
        have := q4 k u (by simpa using hu)
        rwa [show i + 1 + k = i + (k + 1) from by omega] at this
    · intro k hk
      simp only [List.length_cons] at hk
      rw [q5 k (by omega), Array.getElem?_setIfInBounds_ne (by omega)]

/-- The store that fills a new variable. -/
theorem ex_fill {T : TypeId} {p x : Operand} {b : Nat} {z : Array Value} {v : Value} {sz : Nat} (ho : o.op = .store T p x) (hp : ρ p = .pointer (some ⟨b, 0, none⟩)) (hx : ρ x = v) (hz : w.heap[b]? = some (.cells z T))
    (hi : (P.info? T).map (·.size) = some sz) (hs : z.size = sz) (hv : v.cells.size = sz) (h1 : ∀ u ∈ v.cells.toList, u.oneCell' = true) :
    ∃ w', (execOp ρ o).run P w = .ok .skip w' ∧ OnlyBlock b w w' ∧ OBox w' b T v.cells := by
  obtain ⟨w', hr, ho', z', q1, q2, _, q4, _⟩ := run_storeCells_box (P := P) b T v.cells.toList 0 z w hz (by simp; omega) h1
  refine ⟨w', ?_, ho', ?_⟩
  · have e : (storeVar T ⟨b, 0, none⟩ v).run P w = .ok () w' := by
      unfold storeVar
      simp only [Sem.run_bind, run_sizeOf hi, Result.andThen_ok]
      rw [if_neg (by omega)]
      exact hr
    simp only [execOp, ho, hp, hx, Instr.storeAt, Instr.sureAddr, Sem.run_bind, Sem.run_pure, Result.andThen_ok, e]
  · have : z' = v.cells := by
      refine Array.ext (by omega) (fun k h1 h2 => ?_)
      have := q4 k v.cells[k] (by simp)
      rw [Nat.zero_add, Array.getElem?_eq_getElem h1] at this
      exact Option.some.inj this
    rwa [this] at q1


/-- The same, by the fact on the value. -/
theorem fill_box {T : TypeId} {p x : Operand} {b : Nat} {z : Array Value} {sz : Nat} {R : (Nat → Prop) → Value → World → Prop} {S : Nat → Prop} (hR : Stable R)
    (hsh : ∀ S v w, R S v w → ∃ cs, v = .agg cs ∧ cs.size = sz ∧ ∀ u ∈ cs.toList, u.oneCell' = true) (ho : o.op = .store T p x) (hp : ρ p = .pointer (some ⟨b, 0, none⟩)) (hz : w.heap[b]? = some (.cells z T)) (hn : ¬ S b)
    (hi : (P.info? T).map (·.size) = some sz) (hs : z.size = sz) (hx : R S (ρ x) w) :
    ∃ w', (execOp ρ o).run P w = .ok .skip w' ∧ OnlyBlock b w w' ∧ BoxOf T R (fun y => S y ∨ y = b) (.pointer (some ⟨b, 0, none⟩)) w' := by
  obtain ⟨cs, hv, hcs, h1⟩ := hsh _ _ _ hx
  obtain ⟨w', q1, q2, q3⟩ := ex_fill (P := P) (ρ := ρ) ho hp hv hz hi hs hcs h1
  refine ⟨w', q1, q2, b, cs, rfl, .inr rfl, q3, ?_⟩
  rw [hv] at hx
  exact hR _ _ _ _ _ hx (fun y hy _ => .inl hy) (fun y hy _ => q2.block y (fun e => hn (e ▸ hy))) (by rw [q2.size]; exact Nat.le_refl _)

theorem fill_box1 {T : TypeId} {p x : Operand} {b : Nat} {z : Array Value} {R : (Nat → Prop) → Value → World → Prop} {S : Nat → Prop} (hR : Stable R)
    (hsh : ∀ S v w, R S v w → v.oneCell' = true) (ho : o.op = .store T p x) (hp : ρ p = .pointer (some ⟨b, 0, none⟩)) (hz : w.heap[b]? = some (.cells z T)) (hn : ¬ S b)
    (hi : (P.info? T).map (·.size) = some 1) (hs : z.size = 1) (hx : R S (ρ x) w) :
    ∃ w', (execOp ρ o).run P w = .ok .skip w' ∧ OnlyBlock b w w' ∧ BoxOf1 T R (fun y => S y ∨ y = b) (.pointer (some ⟨b, 0, none⟩)) w' := by
  have h1 := hsh _ _ _ hx
  have hc : (ρ x).cells = #[ρ x] := by
    cases h : ρ x <;> rw [h] at h1 <;> first | rfl | (simp [Value.oneCell'] at h1)
  obtain ⟨w', q1, q2, q3⟩ := ex_fill (P := P) (ρ := ρ) ho hp rfl hz hi hs (by rw [hc]; rfl) (fun u hu => by rw [hc] at hu; simp at hu; rw [hu]; exact h1)
  rw [hc] at q3
  refine ⟨w', q1, q2, b, _, rfl, .inr rfl, q3, ?_⟩
  exact hR _ _ _ _ _ hx (fun y hy _ => .inl hy) (fun y hy _ => q2.block y (fun e => hn (e ▸ hy))) (by rw [q2.size]; exact Nat.le_refl _)

end
end Go.Proofs.Ytjmfaebimgnblaa
