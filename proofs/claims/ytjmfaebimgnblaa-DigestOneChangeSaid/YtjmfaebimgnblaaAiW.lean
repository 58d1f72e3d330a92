/-
  A slice of the call's own that is written no more: it becomes a list; on states. Generic: over any program.
-/
import Derived.Test.YtjmfaebimgnblaaAiF
namespace Go.Proofs.Ytjmfaebimgnblaa
open Go.RowKit
set_option linter.unusedVariables false
set_option linter.unusedSimpArgs false

mutual
def frzD (id : Nat) (x : V) : D → D
  | .own i => if Nat.beq i id then .v x else .own i
  | .agg cs => .agg (frzL id x cs)
  | .tup cs => .tup (frzL id x cs)
  | .ptr i k sz off => if Nat.beq i id then .junk else .ptr i k sz off
  | .fn f a b => .fn f (frzL id x a) (frzL id x b)
  | .v y => .v y
  | .nils => .nils
  | .iptr cs off => .iptr cs off
  | .yld i => .yld i
  | .capd y => .capd y
  | .junk => .junk
def frzL (id : Nat) (x : V) : List D → List D
  | [] => []
  | d :: r => frzD id x d :: frzL id x r
end
def frzE (id : Nat) (x : V) : List (Nat × D) → List (Nat × D)
  | [] => []
  | (t, d) :: r => (t, frzD id x d) :: frzE id x r
def frzB (id : Nat) (x : V) : Box → Box
  | .var T cs => .var T (frzL id x cs)
  | .loop l tm nt env ps as bd s p => .loop l tm nt (frzE id x env) ps as bd s p
  | .frame tm env => .frame tm (frzE id x env)
  | .dead => .dead
  | .arr E sz enc d l => .arr E sz enc d l
def frzH (id : Nat) (x : V) : List Box → List Box
  | [] => []
  | B :: r => frzB id x B :: frzH id x r

def freezeS (id : Nat) (st : St) : Option St :=
  match st.heap[id]? with
  | some (.arr _ sz enc d l) => some ⟨frzE id (.sl sz enc d l) st.env, (frzH id (.sl sz enc d l) st.heap).set id .dead⟩
  | _ => none

section
variable {P : Program} {S S' : Nat → Prop} {μ : Nat → Value} {w : World} {id : Nat} {x : V}

theorem frzL_get : ∀ (cs : List D) (j : Nat), (frzL id x cs)[j]? = (cs[j]?).map (frzD id x)
  | [], j => by simp [frzL]
  | d :: r, 0 => by simp [frzL]
  | d :: r, j + 1 => by simp [frzL, frzL_get r j]
theorem frzL_length : ∀ (cs : List D), (frzL id x cs).length = cs.length
  | [] => rfl
  | d :: r => by simp [frzL, frzL_length r]
theorem frzH_get : ∀ (H : List Box) (j : Nat), (frzH id x H)[j]? = (H[j]?).map (frzB id x)
  | [], j => by simp [frzH]
  | d :: r, 0 => by simp [frzH]
  | d :: r, j + 1 => by simp [frzH, frzH_get r j]
theorem frzE_mem : ∀ {env : List (Nat × D)} {t : Nat} {d : D}, (t, d) ∈ frzE id x env → ∃ e, (t, e) ∈ env ∧ d = frzD id x e
  | (s, e) :: r, t, d, h => by
    rcases List.mem_cons.1 h with h | h
    · cases h; exact ⟨e, List.mem_cons_self .., rfl⟩
    · obtain ⟨e', h1, h2⟩ := frzE_mem h
      exact ⟨e', List.mem_cons_of_mem _ h1, h2⟩

theorem frz_rep (hx : Rep S' w x (μ id)) (hS : ∀ b, S b → S' b) {d : D} {u : Value} (h : DRep S μ w d u) : DRep S' μ w (frzD id x d) u := by
  induction h with
  | v y u h => exact .v y u (h.stable (fun b hb _ => hS b hb) (fun _ _ _ => rfl) (Nat.le_refl _))
  | nils => exact .nils
  | own i =>
    unfold frzD
    split
    · rename_i hi
      rw [Nat.beq_eq] at hi
      subst hi
      exact .v _ _ hx
    · exact .own i
  | ptr i k sz off b h =>
    unfold frzD
    split
    · exact .junk _
    · exact .ptr i k sz off b h
  | iptr cs off b o us h1 h2 h3 h4 => exact .iptr cs off b o us (hS b h1) h2 h3 (fun j y hy => (h4 j y hy).stable (fun b hb _ => hS b hb) (fun _ _ _ => rfl) (Nat.le_refl _))
  | agg cs us h1 _ ih =>
    refine .agg _ us (by rw [frzL_length]; exact h1) (fun j y u hy hu => ?_)
    rw [frzL_get] at hy
    cases hc : cs[j]? with
    | none => rw [hc] at hy; cases hy
    | some e => rw [hc] at hy; simp at hy; subst hy; exact ih j e u hc hu
  | tup cs us h1 _ ih =>
    refine .tup _ us (by rw [frzL_length]; exact h1) (fun j y u hy hu => ?_)
    rw [frzL_get] at hy
    cases hc : cs[j]? with
    | none => rw [hc] at hy; cases hy
    | some e => rw [hc] at hy; simp at hy; subst hy; exact ih j e u hc hu
  | fn f a b us vs h1 _ h2 _ ih1 ih2 =>
    refine .fn f _ _ us vs (by rw [frzL_length]; exact h1) (fun j y u hy hu => ?_) (by rw [frzL_length]; exact h2) (fun j y u hy hu => ?_)
    · rw [frzL_get] at hy
      cases hc : a[j]? with
      | none => rw [hc] at hy; cases hy
      | some e => rw [hc] at hy; simp at hy; subst hy; exact ih1 j e u hc hu
    · rw [frzL_get] at hy
      cases hc : b[j]? with
      | none => rw [hc] at hy; cases hy
      | some e => rw [hc] at hy; simp at hy; subst hy; exact ih2 j e u hc hu
  | junk u => exact .junk u
  | yld i l h => exact .yld i l h
  | capd y p n h => exact .capd y p n (h.stable (fun b hb _ => hS b hb) (fun _ _ _ => rfl) (Nat.le_refl _))

end

section
variable {C : Ctx} {st : St}

theorem Rel.freeze {S : Nat → Prop} {μ : Nat → Value} {a : Act} {w : World} (hR : Rel C S μ st a w) {id : Nat} {st' : St} (h : freezeS id st = some st') : ∃ S', Rel C S' μ st' a w := by
  unfold freezeS at h
  split at h
  · rename_i E sz α enc d l hbox
    simp only [Option.some.injEq] at h
    subst h
    have hB := hR.heap.box id _ hbox
    have hnew : ∀ b, blkOf (μ id) = some b → C.W.heap.size ≤ b := fun b hb => hR.may id _ b hbox rfl hb
    have hlt : ∀ b, blkOf (μ id) = some b → b < w.heap.size := hB.lt rfl
    let S' : Nat → Prop := fun b => S b ∨ blkOf (μ id) = some b
    have hx : Rep S' w (.sl sz enc d l) (μ id) := own_rep hB (fun b hb => .inl hb) (fun b hb => .inr hb) hR.slt
    have hid : id < st.heap.length := (List.getElem?_eq_some_iff.1 hbox).1
    have hget : ∀ (i : Nat) (A : Box), ((frzH id (.sl sz enc d l) st.heap).set id .dead)[i]? = some A → A.live = true → i ≠ id ∧ ∃ B, st.heap[i]? = some B ∧ A = frzB id (.sl sz enc d l) B ∧ B.live = true := by
      intro i A hA hl
      by_cases hi : i = id
      · subst hi
        rw [List.getElem?_set_self (by
          have : (frzH i (V.sl sz enc d l) st.heap)[i]? = (st.heap[i]?).map _ := frzH_get st.heap i
          rw [hbox] at this
          exact (List.getElem?_eq_some_iff.1 this).1)] at hA
        cases hA
        cases hl
      · rw [List.getElem?_set_ne (fun e => hi e.symm), frzH_get] at hA
        cases hc : st.heap[i]? with
        | none => rw [hc] at hA; cases hA
        | some B =>
          rw [hc] at hA
          simp at hA
          refine ⟨hi, B, rfl, hA.symm, ?_⟩
          subst hA
          cases B <;> first | rfl | exact hl
    refine ⟨S', hR.os, hR.tape, hR.output, hR.size, hR.old, fun b hb => .inl (hR.mono b hb), ?_, ?_, ?_, ⟨?_, ?_, ?_⟩, ?_, ?_, hR.tsize⟩
    · rintro b (hb | hb)
      · exact hR.new b hb
      · exact .inr (hnew b hb)
    · rintro b (hb | hb)
      · exact hR.slt b hb
      · exact hlt b hb
    · intro t e hm
      obtain ⟨e', h1, rfl⟩ := frzE_mem hm
      obtain ⟨q1, q2⟩ := hR.env t e' h1
      exact ⟨q1, frz_rep hx (fun b hb => .inl hb) q2⟩
    · intro i A hA
      cases hl : A.live
      · cases A <;> first | trivial | cases hl
      · obtain ⟨hi, B, hB', rfl, hBl⟩ := hget i A hA hl
        have hb := hR.heap.box i B hB'
        cases B with
        | dead => cases hBl
        | arr E2 sz2 enc2 d2 l2 =>
          exact hb.stable (fun b hb _ => .inl hb) (fun _ _ _ => rfl) (Nat.le_refl _) (fun _ _ => rfl) (fun _ _ => rfl)
        | var T cs =>
          obtain ⟨b, vs, e, q1, q2, q3⟩ := hb
          refine ⟨b, vs, e, q1, by rw [frzL_length]; exact q2, fun j y z hy hz => ?_⟩
          rw [frzL_get] at hy
          cases hc : cs[j]? with
          | none => rw [hc] at hy; cases hy
          | some y' => rw [hc] at hy; simp at hy; subst hy; exact frz_rep hx (fun b hb => .inl hb) (q3 j y' z hc hz)
        | loop l tm nt env ps as bd s pe =>
          obtain ⟨r, h0, h1, h2, h3, h4, h5, h6, h7, h8, h9⟩ := hb
          refine ⟨r, h0, h1, h2, h3, h4, h5, h6, h7, h8, fun t e hm => ?_⟩
          obtain ⟨e', k1, rfl⟩ := frzE_mem hm
          exact ⟨(h9 t e' k1).1, frz_rep hx (fun b hb => .inl hb) (h9 t e' k1).2⟩
        | frame tm env =>
          obtain ⟨h1, h9⟩ := hb
          refine ⟨h1, fun t e hm => ?_⟩
          obtain ⟨e', k1, rfl⟩ := frzE_mem hm
          exact ⟨(h9 t e' k1).1, frz_rep hx (fun b hb => .inl hb) (h9 t e' k1).2⟩
    · intro i j A A' b hA hA' hl hl'
      obtain ⟨_, B, hB1, _, hBl⟩ := hget i A hA hl
      obtain ⟨_, B', hB2, _, hBl'⟩ := hget j A' hA' hl'
      exact hR.heap.apart i j B B' b hB1 hB2 hBl hBl'
    · intro i A b hA hl hb hs
      obtain ⟨hi, B, hB1, _, hBl⟩ := hget i A hA hl
      rcases hs with hs | hs
      · exact hR.heap.notS i B b hB1 hBl hb hs
      · exact hi (hR.heap.apart i id B _ b hB1 hbox hBl rfl hb hs)
    · intro i A b hA hl hb
      obtain ⟨hi, B, hB1, _, hBl⟩ := hget i A hA hl
      exact hR.may i B b hB1 hBl hb
    · obtain ⟨mk, d1, d2, d3⟩ := hR.defers
      refine ⟨mk, d1, d2, fun b hb => ?_⟩
      obtain ⟨q1, q2, q3, q4⟩ := d3 b hb
      refine ⟨q1, q2, fun hs => ?_, fun i A hA hl => ?_⟩
      · rcases hs with hs | hs
        · exact q3 hs
        · exact q4 id _ hbox rfl hs
      · obtain ⟨hi, B, hB1, _, hBl⟩ := hget i A hA hl
        exact q4 i B hB1 hBl
  · cases h

end
end Go.Proofs.Ytjmfaebimgnblaa
