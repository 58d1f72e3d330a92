/-
  The reference's lists: Grown, Same.
-/
import Derived.Test.YtjmfaebimgnblaaDigD
namespace Go.Proofs.Ytjmfaebimgnblaa
open Go.RowKit

def grownF (l : List Int) (n : Nat) : List Int := l.take n ++ (List.range' (min l.length n) (n - min l.length n)).map (fun k : Nat => stp (k : Int) (n : Int))
theorem grownF_len (l : List Int) (n : Nat) : (grownF l n).length = n := by
  simp [grownF]
  omega
theorem grownF_start (l : List Int) (n : Nat) : (grownF l n).take (min l.length n) = l.take (min l.length n) := by
  have : (l.take n).length = min l.length n := by simp; omega
  unfold grownF
  rw [List.take_append_of_le_length (by omega), List.take_take]
  congr 1
  omega
theorem grownF_get (l : List Int) (n k : Nat) (h1 : min l.length n ≤ k) (h2 : k < n) : (grownF l n)[k]? = some (stp (k : Int) (n : Int)) := by
  have e : (l.take n).length = min l.length n := by simp; omega
  unfold grownF
  rw [List.getElem?_append_right (by omega), e, List.getElem?_map, List.getElem?_range' (by omega)]
  simp
  congr 2
  omega
theorem grownF_succ (l : List Int) (n k : Nat) (h1 : min l.length n ≤ k) (h2 : k < n) : (grownF l n).take k ++ [stp (k : Int) (n : Int)] = (grownF l n).take (k + 1) := by
  rw [List.take_add_one, grownF_get l n k h1 h2]
  rfl

set_option maxHeartbeats 800000 in
theorem Grown_calls (v : Value) (l : List Int) (n : Nat) (S : Nat → Prop) (w : World) (hn : n ≤ 1099511627776) (hl : IsInts .u64 S w v l) :
    Calls Try.prog 16 #[v, .int .i64 (n : Int)] w fun e w' => ∃ r, e = .returned r ∧ Own (Value.int .u64) w.heap.size 33 w' r (grownF l n) ∧ Below w.heap.size w w' := by
  have HL := Lib.hid hl
  obtain ⟨p, c, rfl, hlc, hcm, hp, _⟩ := hl
  have hcm : c ≤ 9223372036854775807 := hcm
  clear hp
  obtain ⟨m, hm⟩ : ∃ m, m = min l.length n := ⟨_, rfl⟩
  have hif : (if n < l.length then (n : Int) else (l.length : Int)) = (m : Int) := by split <;> omega
  have hm1 : m ≤ l.length := by omega
  have hm2 : m ≤ n := by omega
  have HM := Lib.hid hm
  clear hm
  have hown0 : Own (Value.int .u64) w.heap.size 33 (w.alloc (.cells #[] 33)) (.slice (some ⟨w.heap.size, 0, none⟩) 0 0) [] := World.ownsRow_made w #[] 0 (Nat.le_refl _) (by simp) rfl
  have hrow := (HL.out.later ((Below.refl _ w).alloc (Nat.le_refl _) (.cells #[] 33))).hi m hm1
  have HO := Lib.hid hown0
  have HR := Lib.hid hrow
  have hc1 : ([] : List Int).length + (l.take m).length ≤ maxLen := by simp [maxLen]; omega
  have hc2 : (([] : List Int).length + (l.take m).length) * 8 ≤ 140737488355328 := by simp; omega
  have hc3 : w.heap.size ≤ (w.alloc (.cells #[] 33)).heap.size := by simp
  have HC1 := Lib.hid hc1
  have HC2 := Lib.hid hc2
  have HC3 := Lib.hid hc3
  clear hown0 hrow HL hc1 hc2 hc3
  go_enter Try.func16, Try.ntmps16
  go_wp2_with (at_builtin; refine wpList_append_row rfl (.tmp 6) (.tmp 12) 22 rfl w.heap.size 33 (.int .u64 0) 8 Try.underlying22 (by kernel_rfl) rfl HO.out HR.out rfl rfl (fun _ => rfl) HC1.out HC2.out HC3.out (fun v1 w1 ho1 hb1 _ => ?_))
  have hs := grownF_start l n
  rw [← HM.out] at hs
  have ho1 : Own (Value.int .u64) w.heap.size 33 w1 v1 ((grownF l n).take m) := by rw [hs]; exact ho1
  have HO1 := Lib.hid ho1
  have hsz := hb1.size
  rw [World.size_alloc] at hsz
  have hb1 : Below w.heap.size w w1 := ((Below.refl _ w).alloc (Nat.le_refl _) _).trans hb1
  clear hs ho1 HO HR hif
  go_wp2_with fail
  go_loopw [5] (fun v wr => ∃ k : Nat, m ≤ k ∧ k ≤ n ∧ (∃ pp cc, v = .slice pp k cc) ∧ Own (Value.int .u64) w.heap.size 33 wr v ((grownF l n).take k) ∧ Below w.heap.size w wr) (fun v _ => n - (match v with | .slice _ k _ => k | _ => 0))
  case atStart =>
    have hlen := grownF_len l n
    obtain ⟨pp, cc, he, _⟩ := HO1.out.toRow.shape
    refine ⟨m, Nat.le_refl _, hm2, ⟨pp, cc, ?_⟩, HO1.out, hb1⟩
    rw [he, List.length_take, hlen, Nat.min_eq_left hm2]
  case round =>
    obtain ⟨k, hmk, hkn, ⟨pp, cc, rfl⟩, ho, hb⟩ := hrel
    by_cases hlt : k < n
    · have hrow : IsInts .u64 (fun _ => True) (wr.alloc (.cells #[.int .u64 (stp (k : Int) (n : Int))] 33)) (.slice (some ⟨wr.heap.size, 0, none⟩) 1 1) [stp (k : Int) (n : Int)] :=
        IsRow.built _ _ [stp (k : Int) (n : Int)] rfl trivial rfl rfl (by simp [maxLen])
      have HR := Lib.hid hrow
      have HO := Lib.hid (ho.later ((Below.refl _ wr).alloc (Nat.le_refl _) (.cells #[.int .u64 (stp (k : Int) (n : Int))] 33)))
      have hsz := hb.size
      clear hrow ho
      have hlen := grownF_len l n
      have hl2 : ((grownF l n).take k).length = k := by rw [List.length_take, hlen]; omega
      have hc1 : ((grownF l n).take k).length + [stp (k : Int) (n : Int)].length ≤ maxLen := by rw [hl2]; simp [maxLen]; omega
      have hc2 : (((grownF l n).take k).length + [stp (k : Int) (n : Int)].length) * 8 ≤ 140737488355328 := by rw [hl2]; simp; omega
      have hc3 : w.heap.size ≤ (wr.alloc (.cells #[.int .u64 (stp (k : Int) (n : Int))] 33)).heap.size := by simp; omega
      have HC1 := Lib.hid hc1
      have HC2 := Lib.hid hc2
      have HC3 := Lib.hid hc3
      clear hl2 hlen hc1 hc2 hc3
      go_wp2_with (first | (go_at_call 48; refine (step_calls _ _ _).mono ?_; rintro e w' ⟨rfl, rfl⟩) | (at_builtin; refine wpList_append_row rfl (.tmp 18) (.tmp 25) 22 rfl w.heap.size 33 (.int .u64 0) 8 Try.underlying22 (by kernel_rfl) rfl HO.out HR.out rfl rfl (fun _ => rfl) HC1.out HC2.out HC3.out (fun v2 w2 ho2 hb2 _ => ?_)))
      rw [grownF_succ l n k (by rw [← HM.out]; exact hmk) hlt] at ho2
      obtain ⟨pp2, cc2, rfl, -⟩ := ho2.toRow.shape
      rw [List.length_take, grownF_len, Nat.min_eq_left (by omega)] at ho2 ⊢
      have HO2 := Lib.hid ho2
      clear ho2
      go_wp2_with fail
      go_roundw
      case rel => exact ⟨k + 1, by omega, by omega, ⟨_, _, rfl⟩, HO2.out, hb.trans ((((Below.refl _ wr).alloc (Nat.le_refl _) _).mono hsz).trans hb2)⟩
      case measure => simp; omega
    · have : k = n := by omega
      subst this
      go_wp2_with fail
      go_ret
      refine ⟨_, rfl, ?_, hb⟩
      rw [List.take_of_length_le (by rw [grownF_len]; exact Nat.le_refl _)] at ho
      exact ho

end Go.Proofs.Ytjmfaebimgnblaa
