/-
  What the functions of package digest compute: Path, climbing, Check; and the law's own helpers.
-/
import Derived.Test.YtjmfaebimgnblaaDigB
namespace Go.Proofs.Ytjmfaebimgnblaa
open Go.RowKit

def badPath (l : List Int) (i : Int) : Bool := decide (i < 0 ∨ (l.length : Int) ≤ i)
def pathErr (l : List Int) (i : Int) : Int := if badPath l i then 1 else 0
def pathList (l : List Int) (i : Int) : List Int := if badPath l i then [] else pathF l i.toNat

set_option maxHeartbeats 400000 in
theorem Path_calls (v : Value) (l : List Int) (i : Int) (S : Nat → Prop) (w : World) (hmx : l.length ≤ 1099511627776) (hl : IsInts .u64 S w v l) :
    Calls Try.prog 49 #[v, .int .i64 i] w fun e w' => ∃ r, e = .returned (.tuple #[r, .int .i64 (pathErr l i)]) ∧ Own (Value.int .u64) w.heap.size 33 w' r (pathList l i) ∧ Below w.heap.size w w' := by
  have HL := Lib.hid hl
  obtain ⟨p, c, rfl, hlc, hcm, hp, _⟩ := hl
  have hcm : c ≤ 9223372036854775807 := hcm
  clear hp
  by_cases h1 : i < 0
  · have hb : badPath l i = true := decide_eq_true (.inl h1)
    have HB := Lib.hid hb
    clear hb HL
    go_enter Try.func49, Try.ntmps49
    go_wp2_with fail
    go_ret2
    refine ⟨.slice none 0 0, by simp [pathErr, HB.out], ?_, Below.refl _ _⟩
    simp only [pathList, HB.out, if_true]
    exact Own.nil _ _ _ _
  by_cases h2 : (l.length : Int) ≤ i
  · have hb : badPath l i = true := decide_eq_true (.inr h2)
    have HB := Lib.hid hb
    clear hb HL
    go_enter Try.func49, Try.ntmps49
    go_wp2_with fail
    go_ret2
    refine ⟨.slice none 0 0, by simp [pathErr, HB.out], ?_, Below.refl _ _⟩
    simp only [pathList, HB.out, if_true]
    exact Own.nil _ _ _ _
  · have hb : badPath l i = false := decide_eq_false (by omega)
    have HB := Lib.hid hb
    clear hb
    obtain ⟨k, rfl⟩ := Int.eq_ofNat_of_zero_le (a := i) (by omega)
    go_enter Try.func49, Try.ntmps49
    go_wp2_with fail
    refine (pathN_calls l.length _ l k S _ (Nat.le_refl _) (by omega) hmx (by omega) HL.out).mono ?_
    rintro e w1 ⟨r, rfl, ho, hb1⟩
    go_wp2_with fail
    go_ret2
    refine ⟨r, by simp [pathErr, HB.out], ?_, hb1⟩
    simp only [pathList, HB.out, Bool.false_eq_true, if_false, Int.toNat_natCast]
    exact ho

theorem last_of (q : List Int) (n : Nat) (h : q.length = n + 1) : q[n]? = some (q.getLastD 0) := by
  match q, h with
  | x :: q, h =>
    simp only [List.length_cons, Nat.add_right_cancel_iff] at h
    subst h
    simp [List.getLastD, List.getLast_eq_getElem]

theorem climbN_one (f i : Nat) (h : Int) (p : List Int) : climbN f 1 i h p = (h, p.isEmpty) := by
  cases f <;> simp [climbN]
theorem climbF_nil (n i : Nat) (h : Int) (hn : n ≠ 1) : climbF n i h [] = (0, false) := by
  simp [climbF, climbN, hn]
theorem climbF_lo (n i : Nat) (h : Int) (p : List Int) (hn : n ≠ 1) (hp : p ≠ []) (hi : i < halfF n) :
    climbF n i h p = (joinF (climbF (halfF n) i h p.dropLast).1 (p.getLastD 0), (climbF (halfF n) i h p.dropLast).2) := by
  obtain ⟨k, hk⟩ : ∃ k, p.length = k + 1 := ⟨p.length - 1, by have := List.length_pos_iff.2 hp; omega⟩
  have hd : p.dropLast.length = k := by simp [hk]
  unfold climbF
  rw [hk, hd]
  simp only [climbN]
  rw [if_neg hn, if_neg hp, if_pos hi]
theorem climbF_hi (n i : Nat) (h : Int) (p : List Int) (hn : n ≠ 1) (hp : p ≠ []) (hi : halfF n ≤ i) :
    climbF n i h p = (joinF (p.getLastD 0) (climbF (n - halfF n) (i - halfF n) h p.dropLast).1, (climbF (n - halfF n) (i - halfF n) h p.dropLast).2) := by
  obtain ⟨k, hk⟩ : ∃ k, p.length = k + 1 := ⟨p.length - 1, by have := List.length_pos_iff.2 hp; omega⟩
  have hd : p.dropLast.length = k := by simp [hk]
  unfold climbF
  rw [hk, hd]
  simp only [climbN]
  rw [if_neg hn, if_neg hp, if_neg (by omega)]

set_option maxHeartbeats 800000 in
theorem climbN_calls : ∀ (f : Nat) (n i : Nat) (h : Int) (v : Value) (q : List Int) (S : Nat → Prop) (w : World), q.length ≤ f → 1 ≤ n → n ≤ 1099511627776 → i < n → IsInts .u64 S w v q →
    Calls Try.prog 63 #[.int .i64 (n : Int), .int .i64 (i : Int), .int .u64 h, v] w fun e w' => e = .returned (.tuple #[.int .u64 (climbF n i h q).1, .bool (climbF n i h q).2]) ∧ Below w.heap.size w w' := by
  intro f
  induction f with
  | zero =>
    intro n i h v q S w hf hn hmx hi hl
    have : q = [] := List.eq_nil_of_length_eq_zero (by omega)
    subst this
    obtain ⟨p, c, rfl, _⟩ := hl
    by_cases h1 : n = 1
    · have e1 : ((n : Int) == 1) = true := beq_iff_eq.2 (by omega)
      have HH := Lib.hid h1
      clear h1
      go_enter Try.func63, Try.ntmps63
      go_wp2_with fail
      go_ret2
      have h1 := HH.out
      subst h1
      exact ⟨by simp [climbF, climbN], Below.refl _ _⟩
    · have e1 : ((n : Int) == 1) = false := beq_eq_false_iff_ne.2 (by omega)
      have HH := Lib.hid h1
      clear h1
      go_enter Try.func63, Try.ntmps63
      go_wp2_with fail
      go_ret2
      exact ⟨by simp [climbF, climbN, HH.out], Below.refl _ _⟩
  | succ f ih =>
    intro n i h v q S w hf hn hmx hi hl
    have HL := Lib.hid hl
    have IH := Lib.hid ih
    obtain ⟨p, c, rfl, hlc, hcm, hp, _⟩ := hl
    have hcm : c ≤ 9223372036854775807 := hcm
    clear hp ih
    by_cases h1 : n = 1
    · have e1 : ((n : Int) == 1) = true := beq_iff_eq.2 (by omega)
      have HH := Lib.hid h1
      clear h1 HL
      go_enter Try.func63, Try.ntmps63
      go_wp2_with fail
      go_ret2
      have h1 := HH.out
      subst h1
      refine ⟨?_, Below.refl _ _⟩
      unfold climbF
      rw [climbN_one]
      cases q <;> simp
      omega
    have e1 : ((n : Int) == 1) = false := beq_eq_false_iff_ne.2 (by omega)
    by_cases h0 : q = []
    · subst h0
      have HH := Lib.hid h1
      clear h1 HL
      go_enter Try.func63, Try.ntmps63
      go_wp2_with fail
      go_ret2
      exact ⟨by simp [climbF, climbN, HH.out], Below.refl _ _⟩
    have hql : 0 < q.length := List.length_pos_iff.2 h0
    have e2 : ((q.length : Int) == 0) = false := beq_eq_false_iff_ne.2 (by omega)
    have hh := halfF_lt n (by omega)
    have hhp := halfF_pos n
    have hlast : q[q.length - 1]? = some (q.getLastD 0) := last_of q (q.length - 1) (by omega)
    have hdl : q.take (q.length - 1) = q.dropLast := (List.dropLast_eq_take).symm
    obtain ⟨b2, off, rfl, hne, hlt2, hcell⟩ := HL.out.cellAt hlast
    have HLD := HL.out.hi (q.length - 1) (by omega)
    rw [hdl] at HLD
    have HD := Lib.hid HLD
    have H1 := Lib.hid h1
    have H0 := Lib.hid h0
    clear hlast hdl h1 h0 HLD HL
    have hdn : q.dropLast.length ≤ f := by simp; omega
    by_cases hih : i < halfF n
    · go_enter Try.func63, Try.ntmps63
      go_wp2_with (go_at_call 51; refine (half_calls _ (by omega) (by omega) _).mono ?_; rintro e w' ⟨rfl, rfl⟩)
      refine (IH.out (halfF n) i h _ _ _ _ hdn (by omega) (by omega) hih HD.out).mono ?_
      rintro e w1 ⟨rfl, hb1⟩
      have hcell1 : w1.cell? ⟨b2, off + (q.length - 1), none⟩ = some (.int .u64 (q.getLastD 0)) := by rw [hb1.cell (p := ⟨b2, off + (q.length - 1), none⟩) hlt2]; exact hcell
      clear hcell
      go_wp2_with fail
      refine (join_calls _ _ _).mono ?_
      rintro e w2 ⟨rfl, hb2⟩
      go_wp2_with fail
      go_ret2
      refine ⟨?_, hb1.trans (hb2.mono hb1.size)⟩
      rw [climbF_lo n i h q H1.out H0.out hih]
      simp
    · have hsub : ((n : Int) - (halfF n : Nat)) = ((n - halfF n : Nat) : Int) := by omega
      have hsub2 : ((i : Int) - (halfF n : Nat)) = ((i - halfF n : Nat) : Int) := by omega
      have HS1 := Lib.hid hsub
      have HS2 := Lib.hid hsub2
      clear hsub hsub2
      go_enter Try.func63, Try.ntmps63
      go_wp2_with (go_at_call 51; refine (half_calls _ (by omega) (by omega) _).mono ?_; rintro e w' ⟨rfl, rfl⟩)
      rw [HS1.out, HS2.out]
      refine (IH.out (n - halfF n) (i - halfF n) h _ _ _ _ hdn (by omega) (by omega) (by omega) HD.out).mono ?_
      rintro e w1 ⟨rfl, hb1⟩
      have hcell1 : w1.cell? ⟨b2, off + (q.length - 1), none⟩ = some (.int .u64 (q.getLastD 0)) := by rw [hb1.cell (p := ⟨b2, off + (q.length - 1), none⟩) hlt2]; exact hcell
      clear hcell
      go_wp2_with fail
      refine (join_calls _ _ _).mono ?_
      rintro e w2 ⟨rfl, hb2⟩
      go_wp2_with fail
      go_ret2
      refine ⟨?_, hb1.trans (hb2.mono hb1.size)⟩
      rw [climbF_hi n i h q H1.out H0.out (by omega)]
      simp

end Go.Proofs.Ytjmfaebimgnblaa
