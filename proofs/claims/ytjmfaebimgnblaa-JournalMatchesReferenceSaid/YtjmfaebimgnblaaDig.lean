/-
  What the functions of package digest compute, and those of the reference that have no lists as results.
-/
import Derived.Test.YtjmfaebimgnblaaRows
import Derived.Test.YtjmfaebimgnblaaRep
import Derived.Test.YtjmfaebimgnblaaPure
namespace Go.Proofs.Ytjmfaebimgnblaa
open Go.RowKit

/-- Only block b has turned, and new ones are there. -/
structure Turned (b : Nat) (w w' : World) : Prop where
  os : w'.os = w.os
  tape : w'.tape = w.tape
  output : w'.output = w.output
  size : w.heap.size ≤ w'.heap.size
  block : ∀ k, k < w.heap.size → k ≠ b → w'.heap[k]? = w.heap[k]?

theorem Turned.refl (b : Nat) (w : World) : Turned b w w := ⟨rfl, rfl, rfl, Nat.le_refl _, fun _ _ _ => rfl⟩
theorem Turned.trans {b : Nat} {x y z : World} (h : Turned b x y) (k : Turned b y z) : Turned b x z :=
  ⟨k.os.trans h.os, k.tape.trans h.tape, k.output.trans h.output, Nat.le_trans h.size k.size, fun i hi hne => (k.block i (Nat.lt_of_lt_of_le hi h.size) hne).trans (h.block i hi hne)⟩
theorem Turned.set {b : Nat} {x y : World} (h : Turned b x y) (o : Nat) (u : Value) : Turned b x (y.setCell ⟨b, o, none⟩ u) :=
  h.trans ⟨rfl, rfl, rfl, by simp [World.setCell], fun k _ hne => Below.heap_setCell _ _ _ _ hne⟩
theorem Turned.alloc {b : Nat} {x y : World} (h : Turned b x y) (o : Obj) : Turned b x (y.alloc o) :=
  h.trans ⟨rfl, rfl, rfl, by simp, fun k hk _ => Below.heap_alloc _ _ _ hk⟩
theorem Turned.below {b : Nat} {x y z : World} (h : Turned b x y) (k : Below y.heap.size y z) : Turned b x z :=
  h.trans ⟨k.os, k.tape, k.output, k.size, fun i hi _ => k.block i hi⟩
theorem Turned.toBelow {b : Nat} {x y : World} (h : Turned b x y) {B : Nat} (hB : B ≤ x.heap.size) (hb : B ≤ b) : Below B x y :=
  ⟨h.os, h.tape, h.output, h.size, fun k hk => h.block k (by omega) (by omega)⟩

theorem IsRow.turned {α : Type} {enc : α → Value} {l : List α} {b : Nat} {w w' : World} {v : Value} (h : IsRow enc (fun x => x ≠ b) w v l) (ht : Turned b w w') : IsRow enc (fun x => x ≠ b) w' v l :=
  IsRow.stable enc l _ _ v w w' h (fun _ h _ => h) (fun k hS hk => ht.block k hk hS) ht.size

theorem step_calls (h x : Int) (w : World) :
    Calls Try.prog 48 #[.int .u64 h, .int .u64 x] w fun e w' => e = .returned (.int .u64 (stp h x)) ∧ w = w' := by
  go_enter Try.func48, Try.ntmps48
  go_wp2
  go_ret
  exact ⟨rfl, rfl⟩

theorem half_calls (n : Nat) (h : 2 ≤ n) (h2 : n ≤ 1099511627776) (w : World) :
    Calls Try.prog 51 #[.int .i64 (n : Int)] w fun e w' => e = .returned (.int .i64 (halfF n : Nat)) ∧ w = w' := by
  go_enter Try.func51, Try.ntmps51
  go_wp2
  go_loop [3] (fun v => ∃ j k : Nat, v = .int .i64 k ∧ k = 2 ^ j ∧ k < n) (fun v => n - (intOf v).toNat)
  case atStart => exact ⟨0, 1, rfl, rfl, by omega⟩
  case round =>
    obtain ⟨j, k, rfl, hk, hlt⟩ := hrel
    have H := Lib.hid hk
    have hk0 : 0 < k := by rw [hk]; exact Nat.two_pow_pos _
    clear hk
    by_cases hc : 2 * k < n
    · go_wp2
      go_round
      case rel => exact ⟨j + 1, 2 * k, by go_num, by rw [H.out, Nat.pow_succ]; omega, hc⟩
      case measure => simp [intOf]; omega
    · go_wp2
      go_ret
      refine ⟨?_, rfl⟩
      rw [← halfF_eq n j (by rw [← H.out]; exact hlt) (by rw [← H.out]; omega), H.out]
      rfl

set_option maxHeartbeats 400000 in
/-- 'func (s *sum) add(l ...uint64)': the sum's block. -/
theorem add_calls (b : Nat) (s : Int) (v : Value) (l : List Int) (w : World) (hb : w.heap[b]? = some (.cells #[.int .u64 s] 97)) (hl : IsInts .u64 (fun x => x ≠ b) w v l) :
    Calls Try.prog 59 #[.pointer (some ⟨b, 0, none⟩), v] w fun e w' => e = .returned (.tuple #[]) ∧ Turned b w w' ∧ w'.heap[b]? = some (.cells #[.int .u64 (stps s l)] 97) := by
  have HL := Lib.hid hl
  obtain ⟨p, c, rfl, hlc, hcm, hp, _⟩ := hl
  unfold maxLen at hcm
  have HB := Lib.hid hb
  clear hb hp
  go_enter Try.func59, Try.ntmps59
  go_wp2
  go_loopw [9] (fun i wr => ∃ k : Nat, k ≤ l.length ∧ i = .int .i64 k ∧ Turned b w wr ∧ Hid (wr.heap[b]? = some (.cells #[.int .u64 (stps s (l.take k))] 97))) (fun i _ => l.length - (intOf i).toNat)
  case atStart => exact ⟨0, Nat.zero_le _, rfl, Turned.refl _ _, HB.out⟩
  case round =>
    obtain ⟨k, hk, rfl, ht, HW⟩ := hrel
    have HL2 := HL.out.turned ht
    by_cases hlt : k < l.length
    · obtain ⟨b2, off, rfl, hne, hlt2, hcell⟩ := HL2.cellAt (List.getElem?_eq_getElem hlt)
      have hc0 := cell_of_one HW.out
      have hf0 := free_of_one HW.out
      clear HL2
      go_wp2
      go_roundw
      case rel =>
        refine ⟨k + 1, by omega, by go_num, ht.set 0 _, ?_⟩
        refine (one_setCell HW.out).trans ?_
        rw [stps_take s l k hlt]
        rfl
      case measure => simp [intOf]; omega
    · go_wp2
      go_end0
      have : k = l.length := by omega
      subst this
      have := HW.out
      rw [List.take_length] at this
      exact ⟨rfl, ht, this⟩

end Go.Proofs.Ytjmfaebimgnblaa
