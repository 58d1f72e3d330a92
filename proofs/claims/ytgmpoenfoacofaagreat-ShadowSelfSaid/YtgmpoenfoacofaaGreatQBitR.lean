/-
  Operators on bits, plain law: sums, differences, De Morgan's laws, parts.
-/
import Derived.Test.YtgmpoenfoacofaaGreatQNeH
import Derived.Test.YtgmpoenfoacofaaGreatQBitP
namespace Go.Proofs.YtgmpoenfoacofaaGreat
open Go.RowKit
set_option linter.unusedVariables false
set_option linter.unusedSimpArgs false
theorem w5 {v w : Int} (h : v < 0) : c8 v w = false := by unfold c8; rw [decide_eq_false (by omega)]; rfl
theorem w7 {v w : Int} (h : v > af w) : c8 v w = false := by unfold c8; rw [decide_eq_false (show ¬v ≤ af w by omega), Bool.and_false]
theorem GY {v w : Int} (h : ¬v < 0) (h2 : ¬v > af w) : c8 v w = true := by unfold c8; rw [decide_eq_true (show v ≤ af w by omega), decide_eq_true (show 0 ≤ v by omega)]; rfl
theorem l5 {l : List Int} {w : Int} {i : Nat} (hi : i < l.length) (h : c8 (l.getD i 0) w = false) : cD l w = false := gu (f := fun i => c8 (l.getD i 0) w) hi h
theorem tK {l : List Int} {w : Int} (h : ∀ i, i < l.length → c8 (l.getD i 0) w = true) : cD l w = true := bu.2 h
def fa (s : Ns) (n : Nat) (l : List Int) : Ns := ⟨s.procs, s.chans.set n l⟩
theorem Dd {c : Ci} {s : Ns} {n : Int} {ws : List Int} (h : ir (·.frm) c n = true) (h2 : cD ws (cL c n.toNat).w = true) : aW c s n ws = (fa s n.toNat (d7 s n.toNat ++ ws), 0) := o6 h h2
theorem Fx {f : Ch → Int} {c : Ci} {n : Int} (h1 : 0 ≤ n) (h2 : n < c.chans.length) (h : f (cL c n.toNat) = -1) : ir f c n = true := by unfold ir; rw [decide_eq_true h1, decide_eq_true h2, decide_eq_true h]; rfl
def wB (l : List Bool) (q : Nat) : Bool := l.getD q false
def J0 : Option Int → V
 | none => .nsl
 | some v => .sl 1 (ae .i64) 0 [v]
def Fy (o : Option Int) : List V := [J0 o]
def uq : Option Int → List Int
 | none => []
 | some v => [v]
theorem IJ (o : Option Int) : (uq o).length ≤ 1 := by cases o <;> simp [uq]
theorem J1 (o : Option Int) : DI (J0 o) (.sl 1 (ae .i64) 0 (uq o)) := by
 cases o
 ·exact rfl
 ·simp [J0, uq, DI]
section
variable {c : Ci} {s : Ns} {w : Nat → Bool} {i k : Nat}
theorem yx (l : List Int) (a b : List Nat) : df (df l a) b = df l (a ++ b) := by simp [df, List.foldl_append]
theorem rj (l : List (Option Int)) (a b : List (Nat × Int)) : da (da l a) b = da l (a ++ b) := by simp [da, List.foldl_append]
theorem pk (ev : List (Nat × Int)) : ∀ (l : List (Option Int)) (n : Nat), (∀ e ∈ ev, e.1 ≠ n) → (da l ev).getD n none = l.getD n none := by
 induction ev with
 | nil => intro l n h; rfl
 | cons e r ih =>
  intro l n h
  show (da (l.set e.1 _) r).getD n none = _
  rw [ih _ n (fun e' he' => h e' (List.mem_cons_of_mem _ he'))]
  have := h e (List.mem_cons_self ..)
  simp [List.getD, List.getElem?_set, this]
theorem yy (ev : List (Nat × Int)) : ∀ (l : List (Option Int)) (n : Nat), n < l.length → l.getD n none = none → ((ev.filter (fun e => e.1 == n)).map (·.2)).length ≤ 1 → uq ((da l ev).getD n none) = (ev.filter (fun e => e.1 == n)).map (·.2) := by
 induction ev with
 | nil => intro l n hn h0 h; show uq (l.getD n none) = _; rw [h0]; rfl
 | cons e r ih =>
  intro l n hn h0 h
  show uq ((da (l.set e.1 (some e.2)) r).getD n none) = _
  by_cases he : e.1 = n
  ·have hf : (e :: r).filter (fun e => e.1 == n) = e :: r.filter (fun e => e.1 == n) := by simp [he]
   rw [hf, List.map_cons] at h ⊢
   have hr : r.filter (fun e => e.1 == n) = [] := by
    simp only [List.length_cons, List.length_map] at h
    exact List.eq_nil_of_length_eq_zero (by omega)
   rw [hr, pk]
   ·subst he
    simp [List.getD, hn, uq]
   ·intro e' he' h1
    have : e' ∈ r.filter (fun e => e.1 == n) := by rw [List.mem_filter]; exact ⟨he', by simp [h1]⟩
    rw [hr] at this; cases this
  ·have hf : (e :: r).filter (fun e => e.1 == n) = r.filter (fun e => e.1 == n) := by simp [he]
   rw [hf] at h ⊢
   refine ih _ n (by simpa using hn) ?_ h
   have : (l.set e.1 (some e.2)).getD n none = l.getD n none := by simp [List.getD, List.getElem?_set, he]
   rw [this]; exact h0
theorem De (hc : a6 c) (n : Nat) : (ca c s w n).length ≤ 1 := by
 unfold ca; split
 ·exact tf hc n
 ·simp
theorem yz {e : Nat × Int} : ∀ {P : Nat}, e ∈ iV c s w P → ∃ p, p < P ∧ e ∈ nh (bJ c p) (ab c s p) (bJ c p).puts.length
 | 0, h => by cases h
 | P + 1, h => by
  rw [iV, List.mem_append] at h
  rcases h with h | h
  ·obtain ⟨p, h1, h2⟩ := yz h; exact ⟨p, by omega, h2⟩
  ·split at h
   ·exact ⟨P, by omega, h⟩
   ·cases h
theorem Df (hc : a6 c) (hi : i < c.procs.length) (hk : k < (bJ c i).puts.length) {f : Fi} {m : Nat} : (da (List.replicate m none) (iV c s w i ++ nh (bJ c i) f k)).getD (t6 (bJ c i) k) none = none := by
 rw [pk _ _ _ (fun e he h => ?_)]
 ·exact b6
 ·rcases List.mem_append.1 he with he | he
  ·obtain ⟨p, h1, h3⟩ := yz he
   have h4 := (Bg hc (show p < c.procs.length by omega) (Nat.le_refl _) h3).2
   rw [h] at h4
   have h5 := (hc.pt i hi k hk).2.2.2
   have h6 : ((p : Nat) : Int) = (i : Int) := h4.symm.trans h5
   omega
  ·obtain ⟨j, h1, _, h3, _⟩ := lP he
   have := hc.pd i hi j k (by omega) hk (h3.trans h)
   omega
theorem BF (hc : a6 c) {n : Nat} (hn : n < c.chans.length) : (df (List.replicate c.chans.length 0) (fO c s w c.procs.length)).getD n 0 = (cE c s w n : Nat) := by
 rw [yg _ _ _ (by simpa using hn), b6]
 have h1 := nj (w := w) (s := s) hc n (Nat.le_refl _)
 rw [Bh hc] at h1
 split
 ·rename_i hm
  have := List.count_pos_iff.2 hm
  unfold cE at h1 ⊢
  split at h1
  ·rename_i hh; rw [if_pos hh]; rfl
  ·omega
 ·rename_i hm
  rw [List.count_eq_zero.2 hm] at h1
  rw [← h1]; rfl
theorem BG (n : Nat) : cE c s w n ≤ (d7 s n).length := by
 unfold cE; split
 ·rename_i h
  exact vo (jb h.1).2 h.2
 ·omega
theorem GZ (hc : a6 c) {n : Nat} (hn : n < c.chans.length) :
  (d7 s n).drop ((df (List.replicate c.chans.length 0) (fO c s w c.procs.length)).getD n 0).toNat ++ uq ((da (List.replicate c.chans.length none) (iV c s w c.procs.length)).getD n none) = cx c s w n := by
 rw [BF hc hn, Int.toNat_natCast, yy]
 ·rw [oW hc n (Nat.le_refl _), wL]; rfl
 ·simpa using hn
 ·exact b6
 ·rw [oW hc n (Nat.le_refl _), wL]; exact De hc n
theorem J2 {l : List Bool} (h : ¬l.getD i false = true) : aC c s (wB l) i = false := HI (by show (!l.getD i false) = true; simpa using h)
theorem IK {l : List Bool} (h : (!(ab c s i).fires) = true) : aC c s (wB l) i = false := E5 (by show (ab c s i).fires = false; simpa using h)
theorem IL {l : List Bool} (h : l.getD i false = true) (h2 : (!(ab c s i).fires) = false) : aC c s (wB l) i = true := E6 (by show (!l.getD i false) = false; rw [h]; rfl) (by show (ab c s i).fires = true; simpa using h2)
theorem FA {n p : Nat} (h : p < n) : wB ((List.replicate n false).set p true) = qv (p : Int) := funext fun q => by
 rw [yq]; unfold wB aH
 rw [bZ (by simpa using h), b6]
 by_cases e : p = q
 ·rw [if_pos e, decide_eq_true e.symm]
 ·rw [if_neg e, decide_eq_false (fun h => e h.symm)]
theorem BH (hs : bH c s) {p : Int} (h : gz c s p = false) : aG c s (qv p) = s := yk hs (fun q hq => by
 unfold aC qv
 by_cases e : (q : Int) = p
 ·subst e
  rw [wU hq] at h
  rw [h, Bool.and_false]
 ·rw [decide_eq_false e, Bool.false_and])
end
theorem G0 {c : Ci} {s : Ns} {p : Int} (h : gz c s p = true) : 0 ≤ p ∧ p < c.procs.length := by
 unfold gz at h
 simp only [Bool.and_eq_true, decide_eq_true_eq] at h
 exact ⟨h.1, h.2.1⟩
end Go.Proofs.YtgmpoenfoacofaaGreat

namespace Go.Proofs.YtgmpoenfoacofaaGreat
open Go.RowKit
set_option linter.unusedVariables false
set_option linter.unusedSimpArgs false
theorem J3 {n : Nat} (h : n ≤ 62) : af (n : Int) = ((2 ^ n - 1 : Nat) : Int) := by
 rw [cf (by omega) (by omega), Int.toNat_natCast]
 have h1 : 1 ≤ (2 : Nat) ^ n := Nat.one_le_two_pow
 have e : ((2 : Int) ^ n) = ((2 ^ n : Nat) : Int) := by simp
 rw [e]
 omega
end Go.Proofs.YtgmpoenfoacofaaGreat

namespace Go.Proofs.YtgmpoenfoacofaaGreat
open Go.RowKit
set_option linter.unusedVariables false
set_option linter.unusedSimpArgs false
theorem G1 {n z i : Nat} (hz : z < 2 ^ n) : (2 ^ n - 1 - z).testBit i = (decide (i < n) && !z.testBit i) := by
 rw [show 2 ^ n - 1 - z = 2 ^ n - (z + 1) from by omega, Nat.testBit_two_pow_sub_succ hz]
end Go.Proofs.YtgmpoenfoacofaaGreat
