/-
  What Up and Sides of the reference compute.
-/
import Derived.Test.YtjmfaebimgnblaaDigF
import Derived.Test.YtjmfaebimgnblaaPureF
namespace Go.Proofs.Ytjmfaebimgnblaa
open Go.RowKit

theorem Up_calls (h o : Int) (b : Bool) (w : World) :
    Calls Try.prog 22 #[.int .u64 h, .int .u64 o, .bool b] w fun e w' => e = .returned (.int .u64 (upF h o b)) ∧ w = w' := by
  cases b
  all_goals
    go_enter Try.func22, Try.ntmps22
    go_wp2_with (go_at_call 42; refine (joinR_calls _ _ _).mono ?_; rintro e w' ⟨rfl, rfl⟩)
    go_ret
    exact ⟨by simp [upF], rfl⟩

set_option maxHeartbeats 2000000 in
theorem Sides_calls (n i : Nat) (w : World) (hn : n ≤ 1099511627776) (hi : i < n) :
    Calls Try.prog 21 #[.int .i64 (n : Int), .int .i64 (i : Int)] w fun e w' => ∃ r, e = .returned r ∧ Own Value.bool w.heap.size 4 w' r (sidesF n i) ∧ Below w.heap.size w w' := by
  have HO0 : Hid (Own Value.bool w.heap.size 4 (w.alloc (.cells #[] 4)) (.slice (some ⟨w.heap.size, 0, none⟩) 0 0) []) := World.ownsRow_made w #[] 0 (Nat.le_refl _) (by simp) rfl
  go_enter Try.func21, Try.ntmps21
  go_wp2_with fail
  go_loopw [0, 1, 5] (fun a b v wr => ∃ (m k : Nat) (out : List Bool), a = .int .i64 (m : Int) ∧ b = .int .i64 (k : Int) ∧ k < m ∧ out.length + m ≤ n ∧ (∃ pp cc, v = .slice pp out.length cc) ∧ Own Value.bool w.heap.size 4 wr v out ∧ sidesF n i = out ++ sidesF m k ∧ Below w.heap.size w wr) (fun a _ _ _ => (intOf a).toNat)
  case atStart =>
    exact ⟨n, i, [], rfl, rfl, hi, by simp, ⟨_, _, rfl⟩, HO0.out, rfl, (Below.refl _ w).alloc (Nat.le_refl _) _⟩
  case round =>
    obtain ⟨m, k, out, rfl, rfl, hkm, hom, ⟨pp, cc, rfl⟩, ho, hs, hb⟩ := hrel
    by_cases hm : m ≤ 1
    · rw [sides_small m k hm, List.append_nil] at hs
      have e0 : ¬ (1 : Int) < (m : Int) := by omega
      go_wp2_with fail
      go_ret
      exact ⟨_, rfl, ho, hb⟩
    · have e0 : (1 : Int) < (m : Int) := by omega
      rw [sides_step m k (by omega)] at hs
      have HSD := Lib.hid hs
      have HB := Lib.hid hb
      have hsz := hb.size
      clear hs hb
      by_cases hk : k % 2 = 1
      · have e1 : ((k : Int) % 2 == 1) = true := by rw [show (k : Int) % 2 = 1 from by omega]; rfl
        have hAl : Below wr.heap.size wr (wr.alloc (.cells #[.bool true] 4)) := (Below.refl _ _).alloc (Nat.le_refl _) _
        have HO := Lib.hid (ho.later hAl)
        have HR : Hid (IsRow Value.bool (fun _ => True) (wr.alloc (.cells #[.bool true] 4)) (.slice (some ⟨wr.heap.size, 0, none⟩) 1 1) [true]) := IsRow.built _ _ [true] rfl trivial rfl rfl (by simp [maxLen])
        have HC1 : Hid (out.length + [true].length ≤ maxLen) := by show _ ≤ _; simp [maxLen]; omega
        have HC2 : Hid ((out.length + [true].length) * 1 ≤ 140737488355328) := by show _ ≤ _; simp; omega
        have HC3 : Hid (w.heap.size ≤ (wr.alloc (.cells #[.bool true] 4)).heap.size) := by show _ ≤ _; simp; omega
        clear ho
        go_wp2_with (at_builtin; refine wpList_append_row rfl (.tmp 12) (.tmp 13) 44 rfl w.heap.size 4 (.bool false) 1 Try.underlying44 (by kernel_rfl) rfl HO.out HR.out rfl rfl (fun _ => rfl) HC1.out HC2.out HC3.out (fun v2 w2 ho2 hb2 _ => Hid.out ?_))
        refine Lib.hid ?_
        obtain ⟨pp2, cc2, rfl, -⟩ := ho2.toRow.shape
        rw [List.length_append] at ho2 ⊢
        have HO2 := Lib.hid ho2
        clear ho2 HO HR
        go_wp2_with fail
        go_roundw
        case rel => exact ⟨(m + 1) / 2, k / 2, out ++ [true], by go_num, by go_num, by omega, by simp; omega, ⟨pp2, cc2, by simp⟩, HO2.out, by rw [HSD.out]; unfold sideB; rw [if_pos hk, List.append_assoc], HB.out.trans ((hAl.mono hsz).trans hb2)⟩
        case measure => simp [intOf]; omega
      · have e1 : ((k : Int) % 2 == 1) = false := beq_eq_false_iff_ne.2 (by omega)
        by_cases hk2 : k + 1 < m
        · have e2 : (k : Int) + 1 < (m : Int) := by omega
          have hAl : Below wr.heap.size wr (wr.alloc (.cells #[.bool false] 4)) := (Below.refl _ _).alloc (Nat.le_refl _) _
          have HO := Lib.hid (ho.later hAl)
          have HR : Hid (IsRow Value.bool (fun _ => True) (wr.alloc (.cells #[.bool false] 4)) (.slice (some ⟨wr.heap.size, 0, none⟩) 1 1) [false]) := IsRow.built _ _ [false] rfl trivial rfl rfl (by simp [maxLen])
          have HC1 : Hid (out.length + [false].length ≤ maxLen) := by show _ ≤ _; simp [maxLen]; omega
          have HC2 : Hid ((out.length + [false].length) * 1 ≤ 140737488355328) := by show _ ≤ _; simp; omega
          have HC3 : Hid (w.heap.size ≤ (wr.alloc (.cells #[.bool false] 4)).heap.size) := by show _ ≤ _; simp; omega
          clear ho
          go_wp2_with (at_builtin; refine wpList_append_row rfl (.tmp 19) (.tmp 20) 44 rfl w.heap.size 4 (.bool false) 1 Try.underlying44 (by kernel_rfl) rfl HO.out HR.out rfl rfl (fun _ => rfl) HC1.out HC2.out HC3.out (fun v2 w2 ho2 hb2 _ => Hid.out ?_))
          refine Lib.hid ?_
          obtain ⟨pp2, cc2, rfl, -⟩ := ho2.toRow.shape
          rw [List.length_append] at ho2 ⊢
          have HO2 := Lib.hid ho2
          clear ho2 HO HR
          go_wp2_with fail
          go_roundw
          case rel => exact ⟨(m + 1) / 2, k / 2, out ++ [false], by go_num, by go_num, by omega, by simp; omega, ⟨pp2, cc2, by simp⟩, HO2.out, by rw [HSD.out]; unfold sideB; rw [if_neg hk, if_pos hk2, List.append_assoc], HB.out.trans ((hAl.mono hsz).trans hb2)⟩
          case measure => simp [intOf]; omega
        · have e2 : ¬ (k : Int) + 1 < (m : Int) := by omega
          go_wp2_with fail
          go_roundw
          case rel => exact ⟨(m + 1) / 2, k / 2, out, by go_num, by go_num, by omega, by omega, ⟨pp, cc, rfl⟩, ho, by rw [HSD.out]; unfold sideB; rw [if_neg hk, if_neg hk2]; rfl, HB.out⟩
          case measure => simp [intOf]; omega

end Go.Proofs.Ytjmfaebimgnblaa
