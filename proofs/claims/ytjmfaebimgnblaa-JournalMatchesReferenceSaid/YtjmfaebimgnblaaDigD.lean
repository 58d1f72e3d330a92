/-
  What digest.Check and the law's own helpers compute.
-/
import Derived.Test.YtjmfaebimgnblaaDigC
namespace Go.Proofs.Ytjmfaebimgnblaa
open Go.RowKit

def badCheck (n i : Int) : Bool := decide (n < 1 ∨ 4096 < n ∨ i < 0 ∨ n ≤ i)
def checkF (root n i d : Int) (p : List Int) : Int :=
  if badCheck n i then 1 else if (climbF n.toNat i.toNat d p).2 = true ∧ (climbF n.toNat i.toNat d p).1 = root then 0 else 6

set_option maxHeartbeats 800000 in
theorem Check_calls (root n i d : Int) (v : Value) (q : List Int) (S : Nat → Prop) (w : World) (hl : IsInts .u64 S w v q) :
    Calls Try.prog 50 #[.int .u64 root, .int .i64 n, .agg #[.int .i64 i, .int .u64 d], v] w fun e w' => e = .returned (.int .i64 (checkF root n i d q)) ∧ Below w.heap.size w w' := by
  have HL := Lib.hid hl
  obtain ⟨p, c, rfl, hlc, hcm, hp, _⟩ := hl
  clear hp
  by_cases hbad : badCheck n i = true
  · have HB := Lib.hid hbad
    have hx : n < 1 ∨ 4096 < n ∨ i < 0 ∨ n ≤ i := of_decide_eq_true hbad
    have HX := Lib.hid hx
    clear hbad hx HL
    go_enter Try.func50, Try.ntmps50
    go_wp2_with fail
    all_goals first
      | (exfalso; have := HX.out; omega)
      | (go_ret; exact ⟨by simp [checkF, HB.out], (Below.refl _ _).alloc (Nat.le_refl _) _⟩)
  · have hx : ¬ (n < 1 ∨ 4096 < n ∨ i < 0 ∨ n ≤ i) := of_decide_eq_false (by simpa [badCheck] using hbad)
    have HB := Lib.hid hbad
    clear hbad
    obtain ⟨n, rfl⟩ := Int.eq_ofNat_of_zero_le (a := n) (by omega)
    obtain ⟨i, rfl⟩ := Int.eq_ofNat_of_zero_le (a := i) (by omega)
    have b1 : ¬ (n : Int) < 1 := by omega
    have b2 : ¬ 4096 < (n : Int) := by omega
    have b3 : i < n := by omega
    have e1 : decide ((n : Int) < 1) = false := decide_eq_false b1
    have e2 : decide (4096 < (n : Int)) = false := decide_eq_false b2
    clear hx
    have hcl := climbN_calls q.length n i d (.slice p q.length c) q S (w.alloc (.cells #[.int .i64 (i : Int), .int .u64 d] 38)) (Nat.le_refl _) (by omega) (by omega) b3 (HL.out.later ((Below.refl _ w).alloc (Nat.le_refl _) _))
    have HC := Lib.hid hcl
    clear hcl
    by_cases hfits : (climbF n i d q).2 = true
    · by_cases hroot : (climbF n i d q).1 = root
      · have g1 : ((climbF n i d q).1 != root) = false := by simp [hroot]
        have fin : checkF root n i d q = 0 := by unfold checkF; rw [if_neg HB.out, if_pos ⟨by simpa using hfits, by simpa using hroot⟩]
        have HF := Lib.hid fin
        clear fin hroot
        go_enter Try.func50, Try.ntmps50
        go_wp2_with fail
        refine HC.out.mono ?_
        rintro e w1 ⟨rfl, hb1⟩
        go_wp2_with fail
        go_ret
        exact ⟨by rw [HF.out]; rfl, ((Below.refl _ w).alloc (Nat.le_refl _) _).trans (hb1.mono (by simp))⟩
      · have g1 : ((climbF n i d q).1 != root) = true := by simp [hroot]
        have fin : checkF root n i d q = 6 := by unfold checkF; rw [if_neg HB.out, if_neg (fun h => hroot (by simpa using h.2))]
        have HF := Lib.hid fin
        clear fin hroot
        go_enter Try.func50, Try.ntmps50
        go_wp2_with fail
        refine HC.out.mono ?_
        rintro e w1 ⟨rfl, hb1⟩
        go_wp2_with fail
        go_ret
        exact ⟨by rw [HF.out]; rfl, ((Below.refl _ w).alloc (Nat.le_refl _) _).trans (hb1.mono (by simp))⟩
    · have g0 : (climbF n i d q).2 = false := by simpa using hfits
      have fin : checkF root n i d q = 6 := by unfold checkF; rw [if_neg HB.out, if_neg (fun h => hfits (by simpa using h.1))]
      have HF := Lib.hid fin
      clear fin hfits
      go_enter Try.func50, Try.ntmps50
      go_wp2_with fail
      refine HC.out.mono ?_
      rintro e w1 ⟨rfl, hb1⟩
      go_wp2_with fail
      go_ret
      exact ⟨by rw [HF.out]; rfl, ((Below.refl _ w).alloc (Nat.le_refl _) _).trans (hb1.mono (by simp))⟩

set_option maxHeartbeats 400000 in
theorem pathOf_calls (v : Value) (l : List Int) (i : Int) (S : Nat → Prop) (w : World) (hmx : l.length ≤ 1099511627776) (hl : IsInts .u64 S w v l) :
    Calls Try.prog 17 #[v, .int .i64 i] w fun e w' => ∃ r, e = .returned (.agg #[r, .int .i64 (pathErr l i)]) ∧ Own (Value.int .u64) w.heap.size 33 w' r (pathList l i) ∧ Below w.heap.size w w' := by
  have HL := Lib.hid (hl.later ((Below.refl _ w).alloc (Nat.le_refl _) (.cells #[.slice none 0 0, .int .i64 0] 29)))
  obtain ⟨p, c, rfl, hlc, hcm, hp, _⟩ := hl
  clear hp
  go_enter Try.func17, Try.ntmps17
  go_wp2_with fail
  refine (Path_calls _ l i S _ hmx HL.out).mono ?_
  rintro e w1 ⟨r, rfl, ho, hb1⟩
  obtain ⟨rp, rc, rfl, -⟩ := ho.toRow.shape
  have hw1 : w1.heap[w.heap.size]? = some (.cells #[.slice none 0 0, .int .i64 0] 29) := by rw [hb1.block _ (by simp)]; exact heap_alloc_new _ _
  have c0 : w1.cell? ⟨w.heap.size, 0, none⟩ = some (.slice none 0 0) := by simp [World.cell?, hw1]
  have c1 : w1.cell? ⟨w.heap.size, 1, none⟩ = some (.int .i64 0) := by simp [World.cell?, hw1]
  have f0 : w1.frozen? ⟨w.heap.size, 0, none⟩ = false := by simp [World.frozen?, hw1]
  have f1 : w1.frozen? ⟨w.heap.size, 1, none⟩ = false := by simp [World.frozen?, hw1]
  clear hw1
  go_wp2_with fail
  refine bodyPost_ret (v := .agg #[.slice rp (pathList l i).length rc, .int .i64 (pathErr l i)]) (by simp [results, Try.results17, go_sem, c0, c1]) rfl ⟨_, rfl, ?_, ?_⟩
  · have ho2 := ho.mono (M := w.heap.size) (by simp)
    refine ho2.same (fun k hk => ?_)
    have hlt := (ho.lt k hk).1
    rw [World.size_alloc] at hlt
    rw [Below.heap_setCell _ _ _ _ (by show k ≠ w.heap.size; omega), Below.heap_setCell _ _ _ _ (by show k ≠ w.heap.size; omega)]
  · exact ((((Below.refl _ w).alloc (Nat.le_refl _) _).trans (hb1.mono (by simp))).setCell (Nat.le_refl _) _).setCell (Nat.le_refl _) _

set_option maxHeartbeats 400000 in
theorem check_calls (root n i d : Int) (v : Value) (q : List Int) (S : Nat → Prop) (w : World) (hl : IsInts .u64 S w v q) :
    Calls Try.prog 18 #[.int .u64 root, .agg #[.int .i64 n, v], .agg #[.int .i64 i, .int .u64 d]] w fun e w' => e = .returned (.int .i64 (checkF root n i d q)) ∧ Below w.heap.size w w' := by
  have HL := Lib.hid hl
  obtain ⟨p, c, rfl, hlc, hcm, hp, _⟩ := hl
  clear hp
  go_enter Try.func18, Try.ntmps18
  go_wp2_with fail
  refine (Check_calls root n i d _ q S _ (HL.out.later (((Below.refl _ w).alloc (Nat.le_refl _) _).alloc (by simp) _))).mono ?_
  rintro e w1 ⟨rfl, hb1⟩
  go_wp2_with fail
  go_ret
  exact ⟨rfl, (((Below.refl _ w).alloc (Nat.le_refl _) _).alloc (by simp) _).trans (hb1.mono (by simp; omega))⟩

end Go.Proofs.Ytjmfaebimgnblaa
