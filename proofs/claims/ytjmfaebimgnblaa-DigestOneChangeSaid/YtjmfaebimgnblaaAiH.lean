/-
  Operations that write memory or make it: their runs do what is told of them. Generic: over any program.
-/
import Derived.Test.YtjmfaebimgnblaaAiG
namespace Go.Proofs.Ytjmfaebimgnblaa
open Go.RowKit
set_option linter.unusedVariables false
set_option linter.unusedSimpArgs false

section
variable {C : Ctx} {S : Nat → Prop} {μ : Nat → Value} {st st' : St} {a : Act} {w w' : World} {p : Prop}

theorem grownBy_setRow (w : World) (g : Nat) (cs : Array Value) : w.grownBy (w.setRow g cs) (some g) :=
  ⟨rfl, rfl, rfl, by simp [World.setRow], fun k _ hk => setRow_other w g k _ (fun e => hk (by rw [e]))⟩

theorem updM_self (μ : Nat → Value) (id : Nat) : updM μ id (μ id) = μ := by
  funext i
  unfold updM
  split
  · rename_i h; rw [h]
  · rfl

/-- The rows of a spliced list of cells. -/
theorem spliceV_get {α : Type _} (cs new : List α) (off j : Nat) (ho : off + new.length ≤ cs.length) :
    (cs.take off ++ new ++ cs.drop (off + new.length))[j]? = if off ≤ j ∧ j < off + new.length then new[j - off]? else cs[j]? := by
  by_cases hc : off ≤ j ∧ j < off + new.length
  · rw [if_pos hc, List.getElem?_append_left (by simp; omega), List.getElem?_append_right (by simp; omega)]
    congr 1
    simp
    omega
  · rw [if_neg hc]
    by_cases hj : j < off
    · rw [List.getElem?_append_left (by simp; omega), List.getElem?_append_left (by simp; omega), List.getElem?_take, if_pos hj]
    · rw [List.getElem?_append_right (by simp; omega), List.getElem?_drop]
      simp only [List.length_append, List.length_take]
      rw [show off + new.length + (j - (min off cs.length + new.length)) = j from by omega]

theorem eStore_sound (h : Rel C S μ st a w) {ov : Ov} {t : TypeId} {ad x : D} {uad ux : Value} (had : DRep S μ w ad uad) (hx : DRep S μ w x ux) (hp : eStore C.P st ov t ad x = (st', p)) (hob : p) :
    ∃ w', (Instr.storeAt t uad ux).run C.P w = .ok () w' ∧ Rel C S μ st' a w' := by
  unfold eStore at hp
  split at hp
  · rename_i id i sz off new hnew
    split at hp
    · rename_i hc
      simp only [Bool.and_eq_true, Nat.beq_eq] at hc
      obtain ⟨⟨hk, hl⟩, hone⟩ := hc
      obtain ⟨b, hb, rfl⟩ := ptr_inv had
      have hcells := cellsD_sound h.heap hx hnew
      have hones := ones_of h.heap hcells hone
      -- the run, once the row is known
      have hrun : ∀ (cur : Array Value) (T : TypeId), w.heap[b]? = some (.cells cur T (0, 0)) → i * sz + off + new.length ≤ cur.size →
          (Instr.storeAt t (.pointer (some ⟨b, i * sz + off, none⟩)) ux).run C.P w = .ok () (w.setRow b (cur.toList.take (i * sz + off) ++ ux.cells.toList ++ cur.toList.drop (i * sz + off + ux.cells.toList.length)).toArray) := by
        intro cur T hcur hfit
        have hst := run_storeCells_at C.P b (i * sz + off) T ux.cells.toList 0 cur w hcur (by simp [hcells.1]; exact hfit) hones
        simp only [Nat.add_zero] at hst
        simp only [Instr.storeAt, Instr.sureAddr, Sem.run_bind, Sem.run_pure, Result.andThen_ok]
        unfold storeVar
        simp only [Sem.run_bind, run_szOf hk, Result.andThen_ok]
        rw [if_neg (by rw [hcells.1, hl]; simp)]
        exact hst
      split at hp
      · rename_i T cs hbox
        split at hp
        · rename_i hc
          simp only [Bool.and_eq_true, Nat.beq_eq, Nat.ble_eq] at hc
          obtain ⟨rfl, hfit⟩ := hc
          simp only [Prod.mk.injEq] at hp
          obtain ⟨rfl, _⟩ := hp
          obtain ⟨b', vs, hm, q1, q2, q3⟩ := h.heap.box id _ hbox
          have hbb : b' = b := by rw [hm] at hb; simpa [blkOf] using hb
          subst hbb
          refine ⟨_, hrun vs T q1 (by omega), ?_⟩
          simp only [Nat.zero_mul, Nat.zero_add]
          have hid : id < st.heap.length := (List.getElem?_eq_some_iff.1 hbox).1
          have hu := h.upd (id := id) (u := μ id) (B := .var T (splice cs new off)) (row := some b') (grownBy_setRow w b' (vs.toList.take off ++ ux.cells.toList ++ vs.toList.drop (off + ux.cells.toList.length)).toArray)
            (fun k hk => ⟨_, hbox, rfl, by cases hk; exact hb⟩) (by omega) ?_ (fun k hk => .inl (by rw [hb] at hk; exact hk)) (.inl ⟨rfl, .inl rfl⟩)
          · rw [updM_self] at hu
            have he : setBox st.heap id (.var T (splice cs new off)) = st.heap.set id (.var T (splice cs new off)) := by
              unfold setBox
              rw [if_neg (by rw [Nat.beq_eq]; omega)]
            rwa [he] at hu
          · rw [updM_self]
            refine ⟨b', _, hm, setRow_heap w b' vs _ T (0, 0) q1, ?_, fun j y z hy hz => ?_⟩
            · have := hcells.1
              simp only [List.size_toArray, List.length_append, List.length_take, List.length_drop, Array.length_toList, splice]
              omega
            · have hsz := hcells.1
              simp only [List.getElem?_toArray] at hz
              rw [spliceV_get _ _ _ _ (by simp; omega)] at hz
              unfold splice at hy
              rw [spliceV_get _ _ _ _ hfit] at hy
              have hS : ∀ k, S k → k < w.heap.size → (w.setRow b' (vs.toList.take off ++ ux.cells.toList ++ vs.toList.drop (off + ux.cells.toList.length)).toArray).heap[k]? = w.heap[k]? := fun k hk _ =>
                setRow_other w b' k _ (fun e => h.heap.notS id _ b' hbox rfl hb (e ▸ hk))
              have hss : w.heap.size ≤ (w.setRow b' (vs.toList.take off ++ ux.cells.toList ++ vs.toList.drop (off + ux.cells.toList.length)).toArray).heap.size := by simp [World.setRow]
              by_cases hcj : off ≤ j ∧ j < off + new.length
              · rw [if_pos hcj] at hy
                rw [if_pos (by simp; omega)] at hz
                exact (hcells.2 _ _ _ hy (by simpa using hz)).stable (fun _ h _ => h) hS hss (fun _ _ => rfl)
              · rw [if_neg hcj] at hy
                rw [if_neg (by simp; omega)] at hz
                exact (q3 _ _ _ hy (by simpa using hz)).stable (fun _ h _ => h) hS hss (fun _ _ => rfl)
        · cases hp; exact hob.elim
      · rename_i E sz' α enc d l hbox
        split at hp
        · rename_i nv hnv
          split at hp
          · rename_i hc
            simp only [Bool.and_eq_true, Nat.beq_eq, Nat.ble_eq] at hc
            obtain ⟨rfl, hfit⟩ := hc
            generalize hq : arrOf E sz ((l.map enc).set i ((enc (l.getD i d)).take off ++ nv ++ (enc (l.getD i d)).drop (off + nv.length))) ov = q at hp
            obtain ⟨B, q⟩ := q
            simp only [Prod.mk.injEq] at hp
            obtain ⟨rfl, rfl⟩ := hp
            obtain ⟨hi, hq'⟩ := hob
            obtain ⟨r0, xs, r1, r2⟩ := h.heap.box id _ hbox
            have hnvl := (toVs_inv hnv).1
            have hx0 : l[i]? = some (l.getD i d) := by rw [getD_lt _ _ hi]; exact List.getElem?_eq_getElem hi
            have hel := r0 i _ hx0
            have hmul : (i + 1) * sz ≤ l.length * sz := Nat.mul_le_mul_right _ hi
            rw [Nat.succ_mul] at hmul
            obtain ⟨g, cap, cur, hm, -, hh, hn, hcap, hcs, htk⟩ : ∃ g cap cur, μ id = .slice (some ⟨g, 0, none⟩) l.length cap ∧ 0 ≤ g ∧ w.heap[g]? = some (.cells cur E (0, 0)) ∧ l.length ≤ cap ∧ cap ≤ maxLen ∧ cur.size = cap * sz ∧ cur.toList.take (l.length * sz) = xs := by
              rcases r1.2 with ⟨_, h0⟩ | h1
              · omega
              · exact h1
            have hgb : g = b := by rw [hm] at hb; simpa [blkOf] using hb
            subst hgb
            have hcm : l.length * sz ≤ cap * sz := Nat.mul_le_mul_right _ hn
            refine ⟨_, hrun cur E hh (by omega), ?_⟩
            have hid : id < st.heap.length := (List.getElem?_eq_some_iff.1 hbox).1
            have hsz := hcells.1
            have hfit' : i * sz + off + new.length ≤ cur.size := by omega
            generalize hrow : (cur.toList.take (i * sz + off) ++ ux.cells.toList ++ cur.toList.drop (i * sz + off + ux.cells.toList.length)) = row
            have hrowget : ∀ j, row[j]? = if i * sz + off ≤ j ∧ j < i * sz + off + new.length then ux.cells[j - (i * sz + off)]? else cur[j]? := by
              intro j
              rw [← hrow, spliceV_get _ _ _ _ (by simp; omega)]
              simp [hsz]
            have hrowlen : row.length = cur.size := by
              rw [← hrow]
              simp only [List.length_append, List.length_take, List.length_drop, Array.length_toList]
              omega
            have hS : ∀ k, S k → k < w.heap.size → (w.setRow g row.toArray).heap[k]? = w.heap[k]? := fun k hk _ =>
              setRow_other w g k _ (fun e => h.heap.notS id _ g hbox rfl hb (e ▸ hk))
            have hss : w.heap.size ≤ (w.setRow g row.toArray).heap.size := by simp [World.setRow]
            have hA : ArrL S (w.setRow g row.toArray) E sz ((l.map enc).set i ((enc (l.getD i d)).take off ++ nv ++ (enc (l.getD i d)).drop (off + nv.length))) (μ id) := by
              refine ⟨fun k x hx => ?_, row.take (l.length * sz), ?_, fun k x j y hx hy => ?_⟩
              · by_cases hki : i = k
                · subst hki
                  rw [List.getElem?_set_self (by simpa using hi)] at hx
                  cases hx
                  simp only [List.length_append, List.length_take, List.length_drop]
                  omega
                · rw [List.getElem?_set_ne hki] at hx
                  obtain ⟨z, hz, rfl⟩ := map_inv hx
                  exact r0 k z hz
              · simp only [List.length_set, List.length_map]
                refine ⟨by rw [List.length_take, hrowlen]; omega, .inr ⟨g, cap, row.toArray, hm, Nat.zero_le _, setRow_heap w g cur _ E (0, 0) hh, hn, hcap, by simp [hrowlen, hcs], by simp⟩⟩
              · have hxl : k < l.length := by
                  have := (List.getElem?_eq_some_iff.1 hx).1
                  simpa using this
                have hk1 : (k + 1) * sz ≤ l.length * sz := Nat.mul_le_mul_right _ hxl
                rw [Nat.succ_mul] at hk1
                have old : ∀ (z : α) (j : Nat) (y : V), l[k]? = some z → (enc z)[j]? = some y → ¬ (i * sz + off ≤ k * sz + j ∧ k * sz + j < i * sz + off + new.length) →
                    ∃ u, (row.take (l.length * sz))[k * sz + j]? = some u ∧ Rep S (w.setRow g row.toArray) y u := by
                  intro z j y hz hy hno
                  obtain ⟨u, hu, hr⟩ := r2 k z j y hz hy
                  have hj := (List.getElem?_eq_some_iff.1 hy).1
                  have hzl := r0 k z hz
                  refine ⟨u, ?_, hr.stable (fun _ h _ => h) hS hss⟩
                  rw [List.getElem?_take, if_pos (by omega), hrowget, if_neg hno]
                  rw [← htk, List.getElem?_take, if_pos (by omega)] at hu
                  simpa using hu
                by_cases hki : i = k
                · subst hki
                  rw [List.getElem?_set_self (by simpa using hi)] at hx
                  cases hx
                  rw [spliceV_get _ _ _ _ (by omega)] at hy
                  by_cases hcj : off ≤ j ∧ j < off + nv.length
                  · rw [if_pos hcj] at hy
                    obtain ⟨d', hd', htv⟩ := (toVs_inv hnv).2 _ _ hy
                    have hju : j - off < ux.cells.size := by omega
                    refine ⟨ux.cells[j - off], ?_, ?_⟩
                    · rw [List.getElem?_take, if_pos (by omega), hrowget, if_pos (by omega), show i * sz + j - (i * sz + off) = j - off from by omega]
                      exact Array.getElem?_eq_getElem hju
                    · exact (toV_rep htv (hcells.2 _ _ _ hd' (Array.getElem?_eq_getElem hju))).stable (fun _ h _ => h) hS hss
                  · rw [if_neg hcj] at hy
                    exact old _ j y hx0 hy (by omega)
                · rw [List.getElem?_set_ne hki] at hx
                  obtain ⟨z, hz, rfl⟩ := map_inv hx
                  have hj := (List.getElem?_eq_some_iff.1 hy).1
                  have hzl := r0 k z hz
                  refine old z j y hz hy ?_
                  rintro ⟨c1, c2⟩
                  rcases Nat.lt_or_ge k i with hlt | hge
                  · have : (k + 1) * sz ≤ i * sz := Nat.mul_le_mul_right _ hlt
                    rw [Nat.succ_mul] at this
                    omega
                  · have : (i + 1) * sz ≤ k * sz := Nat.mul_le_mul_right _ (by omega)
                    rw [Nat.succ_mul] at this
                    omega
            obtain ⟨hB, hBa⟩ := arrOf_box (μ := μ) hq hq' hA
            have hu := h.upd (id := id) (u := μ id) (B := B) (row := some g) (grownBy_setRow w g row.toArray)
              (fun k hk => ⟨_, hbox, rfl, by cases hk; exact hb⟩) (by omega) (by rw [updM_self]; exact hB) (fun k hk => .inl (by rw [hb] at hk; exact hk)) (.inl ⟨rfl, .inr ⟨_, hbox, rfl⟩⟩)
            rw [updM_self] at hu
            have he : setBox st.heap id B = st.heap.set id B := by
              unfold setBox
              rw [if_neg (by rw [Nat.beq_eq]; omega)]
            rwa [he] at hu
          · cases hp; exact hob.elim
        · cases hp; exact hob.elim
      · cases hp; exact hob.elim
    · cases hp; exact hob.elim
  · cases hp; exact hob.elim

end
end Go.Proofs.Ytjmfaebimgnblaa
