/-
  Operators on bits, plain law: sums, differences, De Morgan's laws, parts.
-/
import Derived.Test.YtgmpoenfoacofaaGreatQNeH
import Derived.Test.YtgmpoenfoacofaaGreatQBitP
namespace Go.Proofs.YtgmpoenfoacofaaGreat
open Go.RowKit
set_option linter.unusedVariables false
set_option linter.unusedSimpArgs false
theorem xU {v w : Int} (h : v < 0) : c8 v w = false := by unfold c8; rw [decide_eq_false (by omega)]; rfl
theorem xV {v w : Int} (h : v > af w) : c8 v w = false := by unfold c8; rw [decide_eq_false (show ¬v ≤ af w by omega), Bool.and_false]
theorem HG {v w : Int} (h : ¬v < 0) (h2 : ¬v > af w) : c8 v w = true := by unfold c8; rw [decide_eq_true (show v ≤ af w by omega), decide_eq_true (show 0 ≤ v by omega)]; rfl
theorem mt {l : List Int} {w : Int} {i : Nat} (hi : i < l.length) (h : c8 (l.getD i 0) w = false) : cE l w = false := gF (f := fun i => c8 (l.getD i 0) w) hi h
theorem uB {l : List Int} {w : Int} (h : ∀ i, i < l.length → c8 (l.getD i 0) w = true) : cE l w = true := br.2 h
def fg (s : Ns) (n : Nat) (l : List Int) : Ns := ⟨s.procs, s.chans.set n l⟩
theorem DZ {c : Ci} {s : Ns} {n : Int} {ws : List Int} (h : iE (·.frm) c n = true) (h2 : cE ws (cL c n.toNat).w = true) : aW c s n ws = (fg s n.toNat (ef s n.toNat ++ ws), 0) := pD h h2
theorem Ge {f : Ch → Int} {c : Ci} {n : Int} (h1 : 0 ≤ n) (h2 : n < c.chans.length) (h : f (cL c n.toNat) = -1) : iE f c n = true := by unfold iE; rw [decide_eq_true h1, decide_eq_true h2, decide_eq_true h]; rfl
def wB (l : List Bool) (q : Nat) : Bool := l.getD q false
def KJ : Option Int → V
 | none => .nsl
 | some v => .sl 1 (ae .i64) 0 [v]
def Gf (o : Option Int) : List V := [KJ o]
def vg : Option Int → List Int
 | none => []
 | some v => [v]
theorem Jy (o : Option Int) : (vg o).length ≤ 1 := by cases o <;> simp [vg]
theorem KK (o : Option Int) : Et (KJ o) (.sl 1 (ae .i64) 0 (vg o)) := by
 cases o
 ·exact rfl
 ·simp [KJ, vg, Et]
section
variable {c : Ci} {s : Ns} {w : Nat → Bool} {i k : Nat}
theorem zq (l : List Int) (a b : List Nat) : df (df l a) b = df l (a ++ b) := by simp [df, List.foldl_append]
theorem rR (l : List (Option Int)) (a b : List (Nat × Int)) : da (da l a) b = da l (a ++ b) := by simp [da, List.foldl_append]
theorem pN (ev : List (Nat × Int)) : ∀ (l : List (Option Int)) (n : Nat), (∀ e ∈ ev, e.1 ≠ n) → (da l ev).getD n none = l.getD n none := by
 induction ev with
 | nil => intro l n h; rfl
 | cons e r ih =>
  intro l n h
  show (da (l.set e.1 _) r).getD n none = _
  rw [ih _ n (fun e' he' => h e' (List.mem_cons_of_mem _ he'))]
  have := h e (List.mem_cons_self ..)
  simp [List.getD, List.getElem?_set, this]
theorem zr (ev : List (Nat × Int)) : ∀ (l : List (Option Int)) (n : Nat), n < l.length → l.getD n none = none → ((ev.filter (fun e => e.1 == n)).map (·.2)).length ≤ 1 → vg ((da l ev).getD n none) = (ev.filter (fun e => e.1 == n)).map (·.2) := by
 induction ev with
 | nil => intro l n hn h0 h; show vg (l.getD n none) = _; rw [h0]; rfl
 | cons e r ih =>
  intro l n hn h0 h
  show vg ((da (l.set e.1 (some e.2)) r).getD n none) = _
  by_cases he : e.1 = n
  ·have hf : (e :: r).filter (fun e => e.1 == n) = e :: r.filter (fun e => e.1 == n) := by simp [he]
   rw [hf, List.map_cons] at h ⊢
   have hr : r.filter (fun e => e.1 == n) = [] := by
    simp only [List.length_cons, List.length_map] at h
    exact List.eq_nil_of_length_eq_zero (by omega)
   rw [hr, pN]
   ·subst he
    simp [List.getD, hn, vg]
   ·intro e' he' h1
    have : e' ∈ r.filter (fun e => e.1 == n) := by rw [List.mem_filter]; exact ⟨he', by simp [h1]⟩
    rw [hr] at this; cases this
  ·have hf : (e :: r).filter (fun e => e.1 == n) = r.filter (fun e => e.1 == n) := by simp [he]
   rw [hf] at h ⊢
   refine ih _ n (by simpa using hn) ?_ h
   have : (l.set e.1 (some e.2)).getD n none = l.getD n none := by simp [List.getD, List.getElem?_set, he]
   rw [this]; exact h0
theorem D0 (hc : a8 c) (n : Nat) : (cb c s w n).length ≤ 1 := by
 unfold cb; split
 ·exact t0 hc n
 ·simp
theorem zs {e : Nat × Int} : ∀ {P : Nat}, e ∈ je c s w P → ∃ p, p < P ∧ e ∈ nN (bI c p) (ab c s p) (bI c p).puts.length
 | 0, h => by cases h
 | P + 1, h => by
  rw [je, List.mem_append] at h
  rcases h with h | h
  ·obtain ⟨p, h1, h2⟩ := zs h; exact ⟨p, by omega, h2⟩
  ·split at h
   ·exact ⟨P, by omega, h⟩
   ·cases h
theorem D1 (hc : a8 c) (hi : i < c.procs.length) (hk : k < (bI c i).puts.length) {f : Fi} {m : Nat} : (da (List.replicate m none) (je c s w i ++ nN (bI c i) f k)).getD (uW (bI c i) k) none = none := by
 rw [pN _ _ _ (fun e he h => ?_)]
 ·exact b7
 ·rcases List.mem_append.1 he with he | he
  ·obtain ⟨p, h1, h3⟩ := zs he
   have h4 := (B3 hc (show p < c.procs.length by omega) (Nat.le_refl _) h3).2
   rw [h] at h4
   have h5 := (hc.pt i hi k hk).2.2.2
   have h6 : ((p : Nat) : Int) = (i : Int) := h4.symm.trans h5
   omega
  ·obtain ⟨j, h1, _, h3, _⟩ := me he
   have := hc.pd i hi j k (by omega) hk (h3.trans h)
   omega
theorem Cu (hc : a8 c) {n : Nat} (hn : n < c.chans.length) : (df (List.replicate c.chans.length 0) (fZ c s w c.procs.length)).getD n 0 = (cF c s w n : Nat) := by
 rw [za _ _ _ (by simpa using hn), b7]
 have h1 := nP (w := w) (s := s) hc n (Nat.le_refl _)
 rw [B4 hc] at h1
 split
 ·rename_i hm
  have := List.count_pos_iff.2 hm
  unfold cF at h1 ⊢
  split at h1
  ·rename_i hh; rw [if_pos hh]; rfl
  ·omega
 ·rename_i hm
  rw [List.count_eq_zero.2 hm] at h1
  rw [← h1]; rfl
theorem Cv (n : Nat) : cF c s w n ≤ (ef s n).length := by
 unfold cF; split
 ·rename_i h
  exact wh (jv h.1).2 h.2
 ·omega
theorem HH (hc : a8 c) {n : Nat} (hn : n < c.chans.length) :
  (ef s n).drop ((df (List.replicate c.chans.length 0) (fZ c s w c.procs.length)).getD n 0).toNat ++ vg ((da (List.replicate c.chans.length none) (je c s w c.procs.length)).getD n none) = cy c s w n := by
 rw [Cu hc hn, Int.toNat_natCast, zr]
 ·rw [py hc n (Nat.le_refl _), xD]; rfl
 ·simpa using hn
 ·exact b7
 ·rw [py hc n (Nat.le_refl _), xD]; exact D0 hc n
theorem KL {l : List Bool} (h : ¬l.getD i false = true) : aC c s (wB l) i = false := Iv (by show (!l.getD i false) = true; simpa using h)
theorem Jz {l : List Bool} (h : (!(ab c s i).fires) = true) : aC c s (wB l) i = false := FO (by show (ab c s i).fires = false; simpa using h)
theorem JA {l : List Bool} (h : l.getD i false = true) (h2 : (!(ab c s i).fires) = false) : aC c s (wB l) i = true := FP (by show (!l.getD i false) = false; rw [h]; rfl) (by show (ab c s i).fires = true; simpa using h2)
theorem Gg {n p : Nat} (h : p < n) : wB ((List.replicate n false).set p true) = qU (p : Int) := funext fun q => by
 rw [zl]; unfold wB aH
 rw [bX (by simpa using h), b7]
 by_cases e : p = q
 ·rw [if_pos e, decide_eq_true e.symm]
 ·rw [if_neg e, decide_eq_false (fun h => e h.symm)]
theorem Cw (hs : bG c s) {p : Int} (h : gI c s p = false) : aF c s (qU p) = s := zf hs (fun q hq => by
 unfold aC qU
 by_cases e : (q : Int) = p
 ·subst e
  rw [xM hq] at h
  rw [h, Bool.and_false]
 ·rw [decide_eq_false e, Bool.false_and])
end
theorem HI {c : Ci} {s : Ns} {p : Int} (h : gI c s p = true) : 0 ≤ p ∧ p < c.procs.length := by
 unfold gI at h
 simp only [Bool.and_eq_true, decide_eq_true_eq] at h
 exact ⟨h.1, h.2.1⟩
end Go.Proofs.YtgmpoenfoacofaaGreat

namespace Go.Proofs.YtgmpoenfoacofaaGreat
open Go.RowKit
set_option linter.unusedVariables false
set_option linter.unusedSimpArgs false
theorem KM {n : Nat} (h : n ≤ 62) : af (n : Int) = ((2 ^ n - 1 : Nat) : Int) := by
 rw [ci (by omega) (by omega), Int.toNat_natCast]
 have h1 : 1 ≤ (2 : Nat) ^ n := Nat.one_le_two_pow
 have e : ((2 : Int) ^ n) = ((2 ^ n : Nat) : Int) := by simp
 rw [e]
 omega
end Go.Proofs.YtgmpoenfoacofaaGreat

namespace Go.Proofs.YtgmpoenfoacofaaGreat
open Go.RowKit
set_option linter.unusedVariables false
set_option linter.unusedSimpArgs false
theorem HJ {n z i : Nat} (hz : z < 2 ^ n) : (2 ^ n - 1 - z).testBit i = (decide (i < n) && !z.testBit i) := by
 rw [show 2 ^ n - 1 - z = 2 ^ n - (z + 1) from by omega, Nat.testBit_two_pow_sub_succ hz]
end Go.Proofs.YtgmpoenfoacofaaGreat
