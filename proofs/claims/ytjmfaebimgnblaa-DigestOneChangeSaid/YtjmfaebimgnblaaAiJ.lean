/-
  Slice literals, make, append, calls; and every operation in one word: its run does what is told of it. Generic: over any program.
-/
import Derived.Test.YtjmfaebimgnblaaAiI
namespace Go.Proofs.Ytjmfaebimgnblaa
open Go.RowKit
set_option linter.unusedVariables false
set_option linter.unusedSimpArgs false

section
variable {C : Ctx} {S : Nat → Prop} {μ : Nat → Value} {st st' : St} {a : Act} {w w' : World} {p : Prop}

theorem fail_elim {X : Prop} (hp : fail2 st = (st', p)) (hob : p) : X := by
  simp only [fail2, Prod.mk.injEq] at hp
  rw [← hp.2] at hob
  exact hob.elim

theorem chunk_cell {sz n : Nat} {cells : List D} {i j : Nat} {x : List D} {d : D} (h : (chunk sz n cells)[i]? = some x) (hd : x[j]? = some d) : cells[i * sz + j]? = some d := by
  obtain ⟨_, rfl⟩ := chunk_get sz n cells h
  rw [List.getElem?_take] at hd
  split at hd
  · rw [List.getElem?_drop] at hd; exact hd
  · cases hd

theorem eSlice_sound (h : Rel C S μ st a w) {ov : Ov} {dst : Option Nat} {t : TypeId} {len : Nat} {parts : List (Nat × D)} {uparts : List (Nat × Value)} (h1 : parts.map (·.1) = uparts.map (·.1))
    (h2 : ∀ (j : Nat) (x : Nat × D) (u : Nat × Value), parts[j]? = some x → uparts[j]? = some u → DRep S μ w x.2 u.2) (hp : eSlice C.P C.nt st ov dst t len parts = (st', p)) (hob : p) :
    ∃ u w' μ', (Instr.buildSlice t len uparts.toArray).run C.P w = .ok u w' ∧ Rel C S μ' st' (a.put dst u) w' := by
  unfold eSlice at hp
  split at hp
  · rename_i E hu
    split at hp
    · rename_i z hz
      split at hp
      · rename_i hc
        simp only [Bool.and_eq_true, Nat.beq_eq, Nat.ble_eq] at hc
        obtain ⟨⟨⟨hk, hzl⟩, hs1⟩, hcap⟩ := hc
        obtain ⟨i, v, hi, hv, hzz, hsz, hby⟩ := info_of hz
        split at hp
        · rename_i cells hf
          have hzr : RepsA S μ w z v.cells := by
            obtain ⟨v', hv', hr⟩ := zeroD_sound (P := C.P) (S := S) (μ := μ) (w := w) hz
            have : v' = v := by
              have : (zeroValue E).run C.P w = .ok v w := by simp [zeroValue, typeInfo, hi, hv, Sem.run_bind]
              rw [this] at hv'
              cases hv'
              rfl
            rwa [this] at hr
          have hflat := flat_reps (P := C.P) hzr hzl (by omega) len
          obtain ⟨vs, hfill, hvs⟩ := fillD_sound h.heap parts uparts _ cells _ h1 h2 hflat hf
          rw [← hsz] at hfill
          have hrun := run_buildSlice (P := C.P) (w := w) hu hi hv (by rw [hsz]; exact hcap) hfill
          have hcl : cells.length = len * szOf C.P E := by
            have : ∀ (parts : List (Nat × D)) (c0 out : List D), fillD st.heap (fun i => some (i * szOf C.P E, szOf C.P E)) c0 parts = some out → out.length = c0.length := by
              intro parts
              induction parts with
              | nil => intro c0 out h; simp only [fillD, Option.some.injEq] at h; rw [h]
              | cons q r ih =>
                intro c0 out h
                obtain ⟨k, x⟩ := q
                unfold fillD at h
                split at h
                · split at h
                  · rename_i hcond
                    simp only [Bool.and_eq_true, Nat.ble_eq] at hcond
                    rw [ih _ _ h]
                    simp [splice]
                    omega
                  · cases h
                · cases h
            rw [this _ _ _ hf]
            simp [hzl]
          have hlen : len ≤ maxLen := by
            have : len * 1 ≤ len * szOf C.P E := Nat.mul_le_mul_left _ hs1
            simp only [maxLen]
            omega
          have fin : ∀ (L : List (List V)) (B : Box) (q : Prop), newBox st C.nt dst B (.own st.heap.length) q = (st', p) → (q → ArrL S (w.alloc (.cells vs E)) E (szOf C.P E) L (.slice (some ⟨w.heap.size, 0, none⟩) len len) ∧ (ArrL S (w.alloc (.cells vs E)) E (szOf C.P E) L (.slice (some ⟨w.heap.size, 0, none⟩) len len) → BoxRel S (updM μ st.heap.length (.slice (some ⟨w.heap.size, 0, none⟩) len len)) (w.alloc (.cells vs E)) (.slice (some ⟨w.heap.size, 0, none⟩) len len) B)) →
              ∃ u w' μ', (Instr.buildSlice t len uparts.toArray).run C.P w = .ok u w' ∧ Rel C S μ' st' (a.put dst u) w' := by
            intro L B q hp hB
            have hq : q := by
              unfold newBox at hp
              split at hp
              · split at hp
                · simp only [Prod.mk.injEq] at hp; rw [← hp.2] at hob; exact hob
                · exact fail_elim hp hob
              · exact fail_elim hp hob
            obtain ⟨b1, b2⟩ := hB hq
            refine ⟨_, _, _, hrun, (h.newBox hp hob (World.grownBy_alloc w _ none) (b2 b1) (fun b hb => by simp [blkOf] at hb; omega) ?_).2⟩
            have := DRep.own (S := S) (μ := updM μ st.heap.length (.slice (some ⟨w.heap.size, 0, none⟩) len len)) (w := w.alloc (.cells vs E)) st.heap.length
            rwa [updM_same] at this
          split at hp
          · rename_i E' sz' α enc' d' l'
            split at hp
            · rename_i hc
              simp only [Bool.and_eq_true, Nat.beq_eq] at hc
              obtain ⟨rfl, rfl⟩ := hc
              refine fin (l'.map enc') _ _ hp (fun hq => ⟨?_, fun hA => hA.box rfl⟩)
              obtain ⟨q1, q2⟩ := eqRows_inv hq
              refine arr_new hvs hcl hlen (by rw [← q1]; simp [chunk]) (fun i x hx => ?_) h.slt
              obtain ⟨r, hr, hrow⟩ := q2 i x hx
              obtain ⟨r1, r2⟩ := eqRow_inv hrow
              obtain ⟨hin, rfl⟩ := chunk_get _ _ _ hr
              refine ⟨?_, fun j y hy => ?_⟩
              · rw [← r1, List.length_take, List.length_drop, hcl]
                have : (i + 1) * szOf C.P E ≤ len * szOf C.P E := Nat.mul_le_mul_right _ hin
                rw [Nat.succ_mul] at this
                omega
              · obtain ⟨d, hd, hdy⟩ := r2 j y hy
                exact ⟨d, chunk_cell hr hd, fun u hu => eqDV_rep hdy hu⟩
            · exact fail_elim hp hob
          · split at hp
            · rename_i L hL
              refine fin L _ _ hp (fun _ => ⟨?_, fun hA => hA.box (range_map L).symm⟩)
              obtain ⟨q1, q2⟩ := toRows_inv hL
              refine arr_new hvs hcl hlen (by rw [← q1]; simp [chunk]) (fun i x hx => ?_) h.slt
              obtain ⟨r, hr, hrow⟩ := q2 i x hx
              obtain ⟨r1, r2⟩ := toVs_inv hrow
              obtain ⟨hin, rfl⟩ := chunk_get _ _ _ hr
              refine ⟨?_, fun j y hy => ?_⟩
              · rw [← r1, List.length_take, List.length_drop, hcl]
                have : (i + 1) * szOf C.P E ≤ len * szOf C.P E := Nat.mul_le_mul_right _ hin
                rw [Nat.succ_mul] at this
                omega
              · obtain ⟨d, hd, hdy⟩ := r2 j y hy
                exact ⟨d, chunk_cell hr hd, fun u hu => toV_rep hdy hu⟩
            · exact fail_elim hp hob
        · exact fail_elim hp hob
      · exact fail_elim hp hob
    · exact fail_elim hp hob
  · exact fail_elim hp hob

theorem _root_.Nat.mul_add_mod_of_lt' {k sz j : Nat} (h : j < sz) : (k * sz + j) % sz = j := by
  rw [Nat.mul_comm, Nat.mul_add_mod, Nat.mod_eq_of_lt h]

theorem BoxRel.arr_mk {E sz : Nat} {u : Value} {α : Type} {enc : α → List V} {d : α} {l : List α} (h : ArrL S w E sz (l.map enc) u) : BoxRel S μ w u (.arr E sz enc d l) := h.box rfl

theorem eMake_sound (h : Rel C S μ st a w) {ov : Ov} {dst : Option Nat} {t : TypeId} {l c : D} {ul uc : Value} (hl : DRep S μ w l ul) (hc : DRep S μ w c uc) (hp : eMake C.P C.nt st ov dst t l c = (st', p)) (hob : p) :
    ∃ u w' μ', (Instr.makeSlice t ul uc).run C.P w = .ok u w' ∧ Rel C S μ' st' (a.put dst u) w' := by
  unfold eMake at hp
  split at hp
  · rename_i E kl n kc m hu
    split at hp
    · rename_i z hz
      split at hp
      · rename_i hcond
        simp only [Bool.and_eq_true, Nat.beq_eq, Nat.ble_eq] at hcond
        obtain ⟨⟨⟨hk, hzl⟩, hs1⟩, hby1⟩ := hcond
        obtain ⟨i, v, hi, hv, hzz, hsz, hby⟩ := info_of hz
        rw [int_inv hl, int_inv hc]
        split at hp
        · rename_i E' sz' α enc' d' l'
          split at hp
          · rename_i hcc
            simp only [Bool.and_eq_true, Nat.beq_eq] at hcc
            obtain ⟨rfl, rfl⟩ := hcc
            have hq : (0 ≤ n ∧ n ≤ m ∧ m ≤ 137438953472) ∧ l'.length = n.toNat ∧ ∀ x ∈ l', eqRow z (enc' x) := by
              have hp' := hp
              unfold newBox at hp'
              split at hp'
              · split at hp'
                · simp only [Prod.mk.injEq] at hp'; rw [← hp'.2] at hob; exact hob
                · exact fail_elim hp' hob
              · exact fail_elim hp' hob
            obtain ⟨⟨h0, hnm, hm⟩, hlen, hrows⟩ := hq
            have hbm : (i.bytes : Int) * m ≤ 281474976710656 := by
              have h9 : (i.bytes : Int) ≤ 1024 := by omega
              have : (i.bytes : Int) * m ≤ 1024 * m := Int.mul_le_mul_of_nonneg_right h9 (by omega)
              omega
            have hrun := run_make (P := C.P) w t E i v hu hi hv kl kc n m h0 hnm hbm (by omega)
            refine ⟨_, _, _, hrun, (h.newBox (u := .slice (some ⟨w.heap.size, 0, none⟩) n.toNat m.toNat) hp hob (World.grownBy_alloc w _ none) (BoxRel.arr_mk ?_) (fun b hb => by simp [blkOf] at hb; omega) ?_).2⟩
            · have hzr : RepsA S μ w z v.cells := by
                rw [hzz]
                refine ⟨by simp, fun j y u hy hu => ?_⟩
                simp only [List.getElem?_map, Array.getElem?_toList, hu, Option.map_some, Option.some.injEq] at hy
                subst hy
                exact DRep.ofVal1 S μ w u
              have hvs : v.cells.size = szOf C.P E := by rw [hzr.1, hzl]
              refine ⟨fun k x hx => ?_, (madeCells v.cells (m.toNat * i.size)).toList.take (n.toNat * szOf C.P E), ?_, fun k x j y hx hy => ?_⟩
              · obtain ⟨q, hq, rfl⟩ := map_inv hx
                rw [← (eqRow_inv (hrows q (List.mem_of_getElem? hq))).1, hzl]
              · have hle : n.toNat * szOf C.P E ≤ m.toNat * i.size := by rw [hsz]; exact Nat.mul_le_mul_right _ (by omega)
                refine ⟨by simp [size_madeCells, hlen]; omega, .inr ⟨w.heap.size, m.toNat, madeCells v.cells (m.toNat * i.size), by simp [hlen], Nat.zero_le _, heap_alloc_new w _, by simp [hlen]; omega, by simp only [maxLen]; omega, by rw [size_madeCells, hsz], by simp [hlen]⟩⟩
              · obtain ⟨q, hq, rfl⟩ := map_inv hx
                have hkl : k < n.toNat := by rw [← hlen]; exact (List.getElem?_eq_some_iff.1 hq).1
                obtain ⟨r1, r2⟩ := eqRow_inv (hrows q (List.mem_of_getElem? hq))
                obtain ⟨d, hd, hdy⟩ := r2 j y hy
                have hj : j < szOf C.P E := by rw [← hzl]; exact (List.getElem?_eq_some_iff.1 hd).1
                have hjv : j < v.cells.size := by omega
                have hkk : (k + 1) * szOf C.P E ≤ n.toNat * szOf C.P E := Nat.mul_le_mul_right _ hkl
                rw [Nat.succ_mul] at hkk
                have hle : n.toNat * szOf C.P E ≤ m.toNat * i.size := by rw [hsz]; exact Nat.mul_le_mul_right _ (by omega)
                refine ⟨v.cells[j], ?_, (eqDV_rep hdy (hzr.2 j d _ hd (Array.getElem?_eq_getElem hjv))).stable (fun _ h _ => h) (fun b hb hl => Below.heap_alloc w _ b hl) (by simp)⟩
                rw [List.getElem?_take, if_pos (by omega), Array.getElem?_toList]
                unfold madeCells
                rw [Array.getElem?_map, Array.getElem?_range, if_pos (by omega)]
                simp only [Option.map_some, Option.some.injEq]
                rw [hvs, Nat.mul_add_mod_of_lt' hj]
                simp [hjv]
            · have := DRep.own (S := S) (μ := updM μ st.heap.length (.slice (some ⟨w.heap.size, 0, none⟩) n.toNat m.toNat)) (w := w.alloc (.cells (madeCells v.cells (m.toNat * i.size)) E)) st.heap.length
              rwa [updM_same] at this
          · exact fail_elim hp hob
        · exact fail_elim hp hob
      · exact fail_elim hp hob
    · exact fail_elim hp hob
  · exact fail_elim hp hob

end
end Go.Proofs.Ytjmfaebimgnblaa
