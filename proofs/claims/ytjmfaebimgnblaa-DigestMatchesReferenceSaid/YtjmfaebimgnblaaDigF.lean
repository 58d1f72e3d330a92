/-
  The reference's comparison of two lists.
-/
import Derived.Test.YtjmfaebimgnblaaDigE
import Derived.Deep.QuietTactic
import Derived.BigQuiet
namespace Go.Proofs.Ytjmfaebimgnblaa
open Go.RowKit

theorem take_eq_succ {α : Type} (a b : List α) (k : Nat) (ha : k < a.length) (hb : k < b.length) (h : a.take k = b.take k) (hx : a[k] = b[k]) : a.take (k + 1) = b.take (k + 1) := by
  rw [List.take_succ_eq_append_getElem ha, List.take_succ_eq_append_getElem hb, h, hx]

set_option maxHeartbeats 800000 in
theorem Same_calls (va vb : Value) (a b : List Int) (S T : Nat → Prop) (w : World) (ha : IsInts .u64 S w va a) (hb : IsInts .u64 T w vb b) :
    Calls Try.prog 20 #[va, vb] w fun e w' => e = .returned (.bool (decide (a = b))) ∧ Below w.heap.size w w' := by
  have HA := Lib.hid ha
  have HB := Lib.hid hb
  obtain ⟨p, c, rfl, hlc, hcm, hp, _⟩ := ha
  obtain ⟨p', c', rfl, hlc', hcm', hp', _⟩ := hb
  have hcm : c ≤ 9223372036854775807 := hcm
  have hcm' : c' ≤ 9223372036854775807 := hcm'
  clear hp hp'
  by_cases hlen : a.length = b.length
  · have e1 : ((a.length : Int) != (b.length : Int)) = false := by rw [hlen]; simp
    have HE := Lib.hid hlen
    have hle : a.length ≤ b.length := by omega
    clear hlen
    go_enter Try.func20, Try.ntmps20
    go_wp2
    go_loopw [5] (fun i wr => ∃ k : Nat, k ≤ a.length ∧ i = .int .i64 k ∧ Hid (a.take k = b.take k) ∧ Below w.heap.size w wr) (fun i _ => a.length - (intOf i).toNat)
    case atStart => exact ⟨0, Nat.zero_le _, rfl, rfl, Below.refl _ _⟩
    case round =>
      obtain ⟨k, hk, rfl, HT, hbl⟩ := hrel
      by_cases hlt : k < a.length
      · have hlt' : k < b.length := by omega
        obtain ⟨b2, off, rfl, hne, hlt2, hcell⟩ := (HA.out.later hbl).cellAt (List.getElem?_eq_getElem hlt)
        obtain ⟨b3, off3, rfl, hne3, hlt3, hcell3⟩ := (HB.out.later hbl).cellAt (List.getElem?_eq_getElem hlt')
        by_cases hx : a[k] = b[k]
        · have e2 : (a[k] != b[k]) = false := by simp [hx]
          have HX := Lib.hid hx
          clear hx
          go_wp2
          go_quiet (fail)
          go_wp2
          go_roundw
          case rel => exact ⟨k + 1, by omega, by go_num, take_eq_succ a b k hlt hlt' HT.out HX.out, hbl.trans ⟨rfl, rfl, rfl, Nat.le_refl _, fun _ _ => rfl⟩⟩
          case measure => simp [intOf]; omega
        · have e2 : (a[k] != b[k]) = true := by simp [hx]
          have HX := Lib.hid hx
          clear hx
          go_wp2
          go_quiet (fail)
          go_wp2
          go_ret
          refine ⟨?_, hbl.trans ⟨rfl, rfl, rfl, Nat.le_refl _, fun _ _ => rfl⟩⟩
          have hne : a ≠ b := fun h => HX.out (by subst h; rfl)
          simp [hne]
      · go_wp2
        go_ret
        have : k = a.length := by omega
        subst this
        have h := HT.out
        rw [List.take_length, HE.out, List.take_length] at h
        exact ⟨by simp [h], hbl⟩
  · have e1 : ((a.length : Int) != (b.length : Int)) = true := by simp; omega
    have HE := Lib.hid hlen
    clear hlen
    go_enter Try.func20, Try.ntmps20
    go_wp2
    go_ret
    exact ⟨by simp; exact fun h => HE.out (by rw [h]), Below.refl _ _⟩

end Go.Proofs.Ytjmfaebimgnblaa
