/-
  append onto a row of the call's own, the elements being of one cell. Over any program.
-/
import Derived.Test.YtjmfaebimgnblaaOps
import Derived.Laws.AppendOwnNone
namespace Go.Proofs.Ytjmfaebimgnblaa
open Go.RowKit

/-- Slice v is nil, or lies at the head of a block from N on; its elements are l. -/
def Own {α : Type} (enc : α → Value) (N : Nat) (e : TypeId) (w : World) (v : Value) (l : List α) : Prop := w.ownsRow N e 1 v l.length (l.map enc)

theorem Own.toRow {α : Type} {enc : α → Value} {N : Nat} {e : TypeId} {w : World} {v : Value} {l : List α} (h : Own enc N e w v l) : IsRow enc (fun b => N ≤ b) w v l := IsRow.of_owns enc h
theorem Own.nil {α : Type} (enc : α → Value) (N : Nat) (e : TypeId) (w : World) : Own enc N e w (.slice none 0 0) [] := World.ownsRow_nil w N e 1
theorem Own.lt {α : Type} {enc : α → Value} {N : Nat} {e : TypeId} {w : World} {v : Value} {l : List α} (h : Own enc N e w v l) : ∀ k, v.ownBlock = some k → N ≤ k ∧ k < w.heap.size := World.ownsRow.lt h
theorem Own.same {α : Type} {enc : α → Value} {N : Nat} {e : TypeId} {w w' : World} {v : Value} {l : List α} (h : Own enc N e w v l) (hb : ∀ k, v.ownBlock = some k → w'.heap[k]? = w.heap[k]?) : Own enc N e w' v l := by
  refine ⟨h.1, ?_⟩
  rcases h.2 with hn | ⟨g, cap, cur, rfl, hg, hgg, rest⟩
  · exact .inl hn
  · exact .inr ⟨g, cap, cur, rfl, hg, by rw [hb g rfl]; exact hgg, rest⟩
theorem Own.later {α : Type} {enc : α → Value} {N : Nat} {e : TypeId} {w w' : World} {v : Value} {l : List α} (h : Own enc N e w v l) (hb : Below w.heap.size w w') : Own enc N e w' v l :=
  h.same fun k hk => hb.block k (h.lt k hk).2
theorem Own.mono {α : Type} {enc : α → Value} {N M : Nat} {e : TypeId} {w : World} {v : Value} {l : List α} (h : Own enc N e w v l) (hM : M ≤ N) : Own enc M e w v l := by
  refine ⟨h.1, ?_⟩
  rcases h.2 with hn | ⟨g, cap, cur, rfl, hg, hgg, rest⟩
  · exact .inl hn
  · exact .inr ⟨g, cap, cur, rfl, Nat.le_trans hM hg, hgg, rest⟩

/-- The same as a fact on a value in a region. -/
def OwnIn {α : Type} (enc : α → Value) (N : Nat) (e : TypeId) (l : List α) (S : Nat → Prop) (v : Value) (w : World) : Prop := Own enc N e w v l ∧ ∀ k, v.ownBlock = some k → S k
theorem OwnIn.stable {α : Type} (enc : α → Value) (N : Nat) (e : TypeId) (l : List α) : Stable (OwnIn enc N e l) := by
  rintro S S' v w w' ⟨h1, h2⟩ hS hw hsz
  exact ⟨h1.same fun k hk => hw k (h2 k hk) (h1.lt k hk).2, fun k hk => hS k (h2 k hk) (h1.lt k hk).2⟩

theorem wpList_append_row {α : Type} {enc : α → Value} {P : Program} {w : World} {ops : Array Oper} {rest : List Oper} {o : Oper} {a : Act} {Q : Exit → Act → World → Prop} (hgd : o.guard = none) (s x : Operand) (t : TypeId)
    (ho : o.op = .call { callee := .builtin .append, args := #[s, x], argTypes := #[t, t] }) (N : Nat) (e : TypeId) (z : Value) (bytes : Nat) (ht : P.underlying t = some (.slice e))
    (hi : (P.info? e).map (fun i => (i.zero, i.size, i.bytes)) = some (some z, 1, bytes)) (hzs : z.cells.size = 1) {v vx : Value} {l news : List α} {S : Nat → Prop} (hown : Own enc N e w v l)
    (hnew : IsRow enc S w vx news) (hs : a.eval s = v) (hx : a.eval x = vx) (h1 : ∀ y, (enc y).oneCell' = true) (h63 : l.length + news.length ≤ maxLen) (hbytes : (l.length + news.length) * bytes ≤ 140737488355328) (hN : N ≤ w.heap.size)
    (h : ∀ v' w', Own enc N e w' v' (l ++ news) → Below N w w' → (∀ k, k < w.heap.size → some k ≠ v.ownBlock → w'.heap[k]? = w.heap[k]?) → wpList P ops Q rest (a.put o.dst v') w') : wpList P ops Q (o :: rest) a w := by
  obtain ⟨i, hi1, hi2, hi3, hi4⟩ := info_parts hi
  obtain ⟨p, c, rfl, hlc, hcm, hp, hcells⟩ := hnew
  have below : ∀ (v : Value) (w' : World), Own enc N e w v l → w.grownBy w' v.ownBlock → Below N w w' := fun v w' ho hg => ⟨hg.os, hg.tape, hg.output, hg.size, fun k hk => hg.block k (by omega) (fun e => by have := ho.lt k e.symm; omega)⟩
  cases p with
  | none =>
    have hc := hp rfl
    subst hc
    have hn : news = [] := List.eq_nil_of_length_eq_zero (by omega)
    subst hn
    refine wpList_append_own_none hgd s x t ho N e i 1 ht hi1 v l.length (l.map enc) hs hown hx ?_
    exact h v w (by simpa using hown) (Below.refl _ _) (fun _ _ _ => rfl)
  | some ad =>
    refine wpList_append_own w hgd s x t ho N e i z 1 bytes ht hi1 hi2 hi3 hi4 hzs (by decide) v l.length (l.map enc) hs hown ad news.length c (news.map enc) hx (by simp) ?_ ?_ h63 hbytes hN ?_
    · intro j u hj
      rw [List.getElem?_map] at hj
      cases hnj : news[j]? with
      | none => rw [hnj] at hj; cases hj
      | some y =>
        rw [hnj] at hj
        have hjl := (List.getElem?_eq_some_iff.1 hnj).1
        obtain ⟨b, off, hpb, _, _, q⟩ := hcells (by omega)
        simp only [Option.some.injEq] at hpb
        subst hpb
        have hadd : (⟨b, off, none⟩ : Addr).add j = ⟨b, off + j, none⟩ := by unfold Addr.add; split <;> simp_all
        rw [hadd, q j y hnj]
        simpa using hj
    · intro u hu
      obtain ⟨y, _, rfl⟩ := List.mem_map.1 hu
      exact h1 y
    · intro v' w' ho' hg _
      refine h v' w' ?_ (below v w' hown hg) (fun k hk hne => hg.block k hk hne)
      have : (l ++ news).length = l.length + news.length := by simp
      unfold Own
      rw [this, List.map_append]
      exact ho'

/-- A row of the call's own, opened: its cells, and what a store makes of it. -/
theorem Own.cells {α : Type} {enc : α → Value} {N : Nat} {e : TypeId} {w : World} {v : Value} {l : List α} (h : Own enc N e w v l) (h0 : 0 < l.length) :
    ∃ g cap, v = .slice (some ⟨g, 0, none⟩) l.length cap ∧ N ≤ g ∧ g < w.heap.size ∧ l.length ≤ cap ∧ cap ≤ maxLen ∧ (∀ (k : Nat) (x : α), l[k]? = some x → w.cell? ⟨g, k, none⟩ = some (enc x)) ∧ (∀ k, w.frozen? ⟨g, k, none⟩ = false) ∧
      ∀ (k : Nat) (x : α), k < l.length → Own enc N e (w.setCell ⟨g, k, none⟩ (enc x)) v (l.set k x) := by
  obtain ⟨h1, h2⟩ := h
  rcases h2 with ⟨_, h2⟩ | ⟨g, cap, cur, rfl, hb, hg, hn, hm, hs, ht⟩
  · omega
  · have hget : ∀ (k : Nat) (x : α), l[k]? = some x → cur[k]? = some (enc x) := by
      intro k x hx
      have hk := (List.getElem?_eq_some_iff.1 hx).1
      have : (cur.toList.take (l.length * 1))[k]? = some (enc x) := by rw [ht]; simp [hx]
      rw [List.getElem?_take, if_pos (by omega)] at this
      simpa using this
    refine ⟨g, cap, rfl, hb, (Array.getElem?_eq_some_iff.1 hg).1, hn, hm, fun k x hx => by simp [World.cell?, hg, hget k x hx], fun k => by simp [World.frozen?, hg], fun k x hk => ?_⟩
    refine ⟨by simp, .inr ⟨g, cap, cur.setIfInBounds k (enc x), by simp, hb, ?_, by simpa using hn, hm, by simpa using hs, ?_⟩⟩
    · simp only [World.setCell, Array.getElem?_modify, if_true, hg]
      rfl
    · rw [Array.toList_setIfInBounds, List.length_set, List.map_set, List.take_set, ht]

end Go.Proofs.Ytjmfaebimgnblaa
