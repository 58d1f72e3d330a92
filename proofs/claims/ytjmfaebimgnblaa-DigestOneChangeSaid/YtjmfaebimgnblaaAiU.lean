/-
  The nil slice as a slice of the call's own. Generic: over any program.
-/
import Derived.Test.YtjmfaebimgnblaaAiP
namespace Go.Proofs.Ytjmfaebimgnblaa
open Go.RowKit
set_option linter.unusedVariables false
set_option linter.unusedSimpArgs false

/-- Cell j of variable id, nil, is an empty array of the call's own. -/
def adoptS (id j E sz : Nat) {α : Type} (enc : α → List V) (d : α) (st : St) : Option St :=
  if freeE st.heap.length st.env && freeH st.heap.length st.heap then
    match st.heap[id]? with
    | some (.var T cs) => match cs[j]? with
      | some .nils => some ⟨st.env, st.heap.set id (.var T (cs.set j (.own st.heap.length))) ++ [.arr E sz enc d []]⟩
      | _ => none
    | _ => none
  else none
/-- Slot t, nil, is an empty array of the call's own. -/
def adoptE (t E sz : Nat) {α : Type} (enc : α → List V) (d : α) (st : St) : Option St :=
  if freeE st.heap.length st.env && freeH st.heap.length st.heap && hasE st.env t then
    match lookE st.env t with
    | .nils => some ⟨putE st.env t (.own st.heap.length), st.heap ++ [.arr E sz enc d []]⟩
    | _ => none
  else none

section
variable {C : Ctx} {S : Nat → Prop} {μ : Nat → Value} {st : St} {a : Act} {w : World} {Q : Exit → St → Prop}

theorem Rel.addNil (h : Rel C S μ st a w) (hf : freeE st.heap.length st.env = true) (hh : freeH st.heap.length st.heap = true) (E sz : Nat) {α : Type} (enc : α → List V) (d : α) :
    Rel C S (updM μ st.heap.length (.slice none 0 0)) ⟨st.env, st.heap ++ [.arr E sz enc d []]⟩ a w := by
  have := h.upd (id := st.heap.length) (B := .arr E sz enc d []) (row := none) (u := .slice none 0 0) (grown_refl w) (fun k hk => by cases hk) (Nat.le_refl _)
    ⟨fun i x hx => by simp at hx, [], World.ownsRow_nil w 0 E sz, fun i x j y hx => by simp at hx⟩ (fun b hb => by simp [blkOf] at hb) (.inr ⟨fun A hA => by simp at hA, hf, hh⟩)
  rw [show setBox st.heap st.heap.length (.arr E sz enc d []) = st.heap ++ [.arr E sz enc d []] from by simp [setBox]] at this
  exact this

/-- The same box in other words. -/
theorem Rel.boxTo (h : Rel C S μ st a w) {id : Nat} {A B : Box} (hA : st.heap[id]? = some A) (hAl : A.live = true) (hk : B.isArr = false ∨ A.isArr = true) (hB : BoxRel S μ w (μ id) B) : Rel C S μ ⟨st.env, st.heap.set id B⟩ a w := by
  have hid : id < st.heap.length := (List.getElem?_eq_some_iff.1 hA).1
  have e1 : updM μ id (μ id) = μ := by funext i; unfold updM; split <;> simp_all
  have := h.upd (id := id) (B := B) (row := blkOf (μ id)) (u := μ id) (w' := w) ⟨rfl, rfl, rfl, Nat.le_refl _, fun _ _ _ => rfl⟩ (fun k hk => ⟨_, hA, hAl, hk⟩) (Nat.le_of_lt hid) (by rw [e1]; exact hB) (fun b hb => .inl hb) (.inl ⟨rfl, hk.imp (fun x => x) fun hk => ⟨A, hA, hk⟩⟩)
  rw [e1] at this
  have e2 : setBox st.heap id B = st.heap.set id B := by
    unfold setBox
    have : Nat.beq id st.heap.length = false := by
      cases hb : Nat.beq id st.heap.length
      · rfl
      · rw [Nat.beq_eq] at hb; omega
    rw [this]
    rfl
  rw [e2] at this
  exact this

theorem Ev.adopt {c : Code} (id j E sz : Nat) {α : Type} (enc : α → List V) (d : α) {st' : St} (h : adoptS id j E sz enc d st = some st') (he : Ev C c Q st') : Ev C c Q st := fun a w S μ hR => by
  unfold adoptS at h
  split at h
  · rename_i hc
    simp only [Bool.and_eq_true] at hc
    split at h
    · rename_i T cs hbox
      split at h
      · rename_i hj
        simp only [Option.some.injEq] at h
        subst h
        have hid : id < st.heap.length := (List.getElem?_eq_some_iff.1 hbox).1
        have h1 := hR.addNil hc.1 hc.2 E sz enc d
        have hbox1 : (st.heap ++ [Box.arr E sz enc d []])[id]? = some (.var T cs) := by rw [List.getElem?_append_left hid]; exact hbox
        have hB := h1.heap.box id _ hbox1
        have h2 := h1.boxTo hbox1 rfl (B := .var T (cs.set j (.own st.heap.length))) (.inl rfl) (by
          obtain ⟨b, vs, e1, e2, e3, e4⟩ := hB
          refine ⟨b, vs, e1, e2, by rw [List.length_set]; exact e3, fun k y x hy hx => ?_⟩
          by_cases hk : k = j
          · subst hk
            have hlt : k < cs.length := (List.getElem?_eq_some_iff.1 hj).1
            rw [List.getElem?_set_self hlt] at hy
            cases hy
            have := e4 k _ x hj hx
            cases this
            have ho := DRep.own (S := S) (μ := updM μ st.heap.length (.slice none 0 0)) (w := w) st.heap.length
            rwa [updM_same] at ho
          · rw [List.getElem?_set_ne (fun e => hk e.symm)] at hy
            exact e4 k y x hy hx)
        have e3 : (st.heap ++ [Box.arr E sz enc d []]).set id (.var T (cs.set j (.own st.heap.length))) = st.heap.set id (.var T (cs.set j (.own st.heap.length))) ++ [Box.arr E sz enc d []] := by
          rw [List.set_append, if_pos hid]
        simp only at h2
        rw [e3] at h2
        exact he a w S _ h2
      · cases h
    · cases h
  · cases h

theorem Ev.adoptE {c : Code} (t E sz : Nat) {α : Type} (enc : α → List V) (d : α) {st' : St} (h : Proofs.Ytjmfaebimgnblaa.adoptE t E sz enc d st = some st') (he : Ev C c Q st') : Ev C c Q st := fun a w S μ hR => by
  unfold Proofs.Ytjmfaebimgnblaa.adoptE at h
  split at h
  · rename_i hc
    simp only [Bool.and_eq_true] at hc
    split at h
    · rename_i hj
      simp only [Option.some.injEq] at h
      subst h
      have h1 := hR.addNil hc.1.1 hc.1.2 E sz enc d
      have hv := h1.eval (.tmp t)
      simp only [evD] at hv
      rw [hj] at hv
      obtain ⟨e0, hm⟩ := hasE_mem hc.2
      refine he a w S _ ⟨h1.os, h1.tape, h1.output, h1.size, h1.old, h1.mono, h1.new, h1.slt, fun s e hs => ?_, h1.heap, h1.may, h1.defers, h1.tsize⟩
      rcases List.mem_cons.1 hs with hs | hs
      · cases hs
        refine ⟨(h1.env t e0 hm).1, ?_⟩
        have ho := DRep.own (S := S) (μ := updM μ st.heap.length (.slice none 0 0)) (w := w) st.heap.length
        rw [updM_same] at ho
        generalize hu : a.eval (.tmp t) = u at hv
        cases hv
        have : a.tmps.getD t undef = .slice none 0 0 := hu
        rw [this]
        exact ho
      · exact h1.env s e (dropE_mem hs).1
    · cases h
  · cases h

end
end Go.Proofs.Ytjmfaebimgnblaa
