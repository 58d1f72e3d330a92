/-
  What the functions of package digest compute (continued): words, joins, tags.
-/
import Derived.Test.YtjmfaebimgnblaaDig
namespace Go.Proofs.Ytjmfaebimgnblaa
open Go.RowKit

/-- The digest's state behind k numbers. -/
def wk (l : List Int) (k : Nat) : Int := stps 512970876019 ((l.take k).map u64)
theorem wk_zero (l : List Int) : wk l 0 = 512970876019 := rfl
theorem wk_succ (l : List Int) (k : Nat) (h : k < l.length) : wk l (k + 1) = stp (wk l k) (IntKind.u64.wrap l[k]) := by
  unfold wk
  rw [List.take_succ_eq_append_getElem h, List.map_append, stps, List.foldl_append]
  rfl
theorem u64_small (n : Nat) (h : n ≤ 9223372036854775807) : u64 (n : Int) = n := by
  unfold u64
  rw [IntKind.wrap_u64]
  omega
theorem wk_end (l : List Int) (h : l.length ≤ 9223372036854775807) : stp (wk l l.length) (l.length : Int) = wordsF l := by
  unfold wk wordsF
  rw [List.take_length, u64_small _ h]

theorem joinR_calls (x y : Int) (w : World) :
    Calls Try.prog 42 #[.int .u64 x, .int .u64 y] w fun e w' => e = .returned (.int .u64 (joinF x y)) ∧ w = w' := by
  go_enter Try.func42, Try.ntmps42
  go_wp2_with (go_at_call 48; refine (step_calls _ _ _).mono ?_; rintro e w' ⟨rfl, rfl⟩)
  go_ret
  exact ⟨rfl, rfl⟩

theorem wordsR_calls (v : Value) (l : List Int) (S : Nat → Prop) (w : World) (hl : IsInts .i64 S w v l) :
    Calls Try.prog 38 #[v] w fun e w' => e = .returned (.int .u64 (wordsF l)) ∧ w = w' := by
  have HL := Lib.hid hl
  obtain ⟨p, c, rfl, hlc, hcm, hp, _⟩ := hl
  unfold maxLen at hcm
  clear hp
  go_enter Try.func38, Try.ntmps38
  go_wp2_with fail
  go_loop [3, 4] (fun h i => ∃ k : Nat, k ≤ l.length ∧ i = .int .i64 k ∧ h = .int .u64 (wk l k)) (fun _ i => l.length - (intOf i).toNat)
  case atStart => exact ⟨0, Nat.zero_le _, rfl, rfl⟩
  case round =>
    obtain ⟨k, hk, rfl, rfl⟩ := hrel
    by_cases hlt : k < l.length
    · obtain ⟨b2, off, rfl, hne, hlt2, hcell⟩ := HL.out.cellAt (List.getElem?_eq_getElem hlt)
      go_wp2_with (go_at_call 48; refine (step_calls _ _ _).mono ?_; rintro e w' ⟨rfl, rfl⟩)
      go_round
      case rel => exact ⟨k + 1, by omega, by go_num, by rw [wk_succ l k hlt]⟩
      case measure => simp [intOf]; omega
    · go_wp2_with (go_at_call 48; refine (step_calls _ _ _).mono ?_; rintro e w' ⟨rfl, rfl⟩)
      go_ret
      have : k = l.length := by omega
      subst this
      exact ⟨congrArg (fun x => Ending.returned (.int .u64 x)) (wk_end l (by omega)), rfl⟩

theorem tagR_calls (key : Int) (v : Value) (l : List Int) (S : Nat → Prop) (w : World) (hl : IsInts .i64 S w v l) :
    Calls Try.prog 44 #[.int .u64 key, v] w fun e w' => e = .returned (.int .u64 (tagF key l)) ∧ w = w' := by
  go_enter Try.func44, Try.ntmps44
  go_wp2_with (first | (go_at_call 48; refine (step_calls _ _ _).mono ?_; rintro e w' ⟨rfl, rfl⟩) | (go_at_call 38; refine (wordsR_calls _ l S _ hl).mono ?_; rintro e w' ⟨rfl, rfl⟩))
  go_ret
  exact ⟨rfl, rfl⟩

set_option maxHeartbeats 400000 in
theorem join_calls (x y : Int) (w : World) :
    Calls Try.prog 41 #[.int .u64 x, .int .u64 y] w fun e w' => e = .returned (.int .u64 (joinF x y)) ∧ Below w.heap.size w w' := by
  go_enter Try.func41, Try.ntmps41
  go_wp2_with fail
  refine (add_calls w.heap.size 1852793957 _ [x, y] _ (by rw [Below.heap_alloc _ _ _ (by simp)]; exact heap_alloc_new _ _) ?_).mono ?_
  · refine IsRow.built _ _ [x, y] ?_ ?_ rfl rfl ?_ <;> simp [maxLen]
  rintro e w' ⟨rfl, ht, hb⟩
  have hc := cell_of_one hb
  clear hb
  go_wp2_with fail
  go_ret
  refine ⟨rfl, ?_⟩
  exact (((Below.refl _ w).alloc (Nat.le_refl _) _).alloc (by simp) _).trans (ht.toBelow (by simp; omega) (Nat.le_refl _))

set_option maxHeartbeats 400000 in
theorem words_calls (v : Value) (l : List Int) (S : Nat → Prop) (w : World) (hl : IsInts .i64 S w v l) :
    Calls Try.prog 37 #[v] w fun e w' => e = .returned (.int .u64 (wordsF l)) ∧ Below w.heap.size w w' := by
  have HL := Lib.hid hl
  obtain ⟨p, c, rfl, hlc, hcm, hp, _⟩ := hl
  unfold maxLen at hcm
  clear hp
  have hadd : ∀ (W : World) (s x : Int), W.heap[w.heap.size]? = some (.cells #[.int .u64 s] 97) → w.heap.size + 1 ≤ W.heap.size →
      Calls Try.prog 59 #[.pointer (some ⟨w.heap.size, 0, none⟩), .slice (some ⟨W.heap.size, 0, none⟩) 1 1] (W.alloc (.cells #[.int .u64 x] 33)) fun e w' =>
        e = .returned (.tuple #[]) ∧ Turned w.heap.size W w' ∧ w'.heap[w.heap.size]? = some (.cells #[.int .u64 (stp s x)] 97) := by
    intro W s x hW hsz
    refine (add_calls w.heap.size s _ [x] _ (by rw [Below.heap_alloc _ _ _ (by omega)]; exact hW) ?_).mono ?_
    · refine IsRow.built _ _ [x] rfl ?_ rfl rfl ?_ <;> simp [maxLen]
      omega
    rintro e w' ⟨rfl, ht, hb⟩
    exact ⟨rfl, ((Turned.refl _ W).alloc _).trans ht, hb⟩
  have HA := Lib.hid hadd
  clear hadd
  go_enter Try.func37, Try.ntmps37
  go_wp2_with fail
  go_loopw [10] (fun i wr => ∃ k : Nat, k ≤ l.length ∧ i = .int .i64 k ∧ Below w.heap.size w wr ∧ w.heap.size + 1 ≤ wr.heap.size ∧ Hid (wr.heap[w.heap.size]? = some (.cells #[.int .u64 (wk l k)] 97))) (fun i _ => l.length - (intOf i).toNat)
  case atStart => exact ⟨0, Nat.zero_le _, rfl, (Below.refl _ w).alloc (Nat.le_refl _) _, by simp, heap_alloc_new w _⟩
  case round =>
    obtain ⟨k, hk, rfl, ht, hsz, HW⟩ := hrel
    have HL2 := HL.out.later ht
    by_cases hlt : k < l.length
    · obtain ⟨b2, off, rfl, hne, hlt2, hcell⟩ := HL2.cellAt (List.getElem?_eq_getElem hlt)
      clear HL2
      go_wp2_with fail
      refine (HA.out _ _ _ HW.out hsz).mono ?_
      rintro e w' ⟨rfl, ht2, hb⟩
      have HB := Lib.hid hb
      clear hb
      go_wp2_with fail
      go_roundw
      case rel => exact ⟨k + 1, by omega, by go_num, ht.trans (ht2.toBelow ht.size (Nat.le_refl _)), by have := ht2.size; omega, by rw [wk_succ l k hlt]; exact HB.out⟩
      case measure => simp [intOf]; omega
    · go_wp2_with fail
      refine (HA.out _ _ _ HW.out hsz).mono ?_
      rintro e w' ⟨rfl, ht2, hb⟩
      have hc := cell_of_one hb
      clear hb
      go_wp2_with fail
      go_ret
      have : k = l.length := by omega
      subst this
      exact ⟨congrArg (fun x => Ending.returned (.int .u64 x)) (wk_end l (by omega)), ht.trans (ht2.toBelow ht.size (Nat.le_refl _))⟩

end Go.Proofs.Ytjmfaebimgnblaa
