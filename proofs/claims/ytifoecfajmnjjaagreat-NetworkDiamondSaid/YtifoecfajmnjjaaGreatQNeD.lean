/-
  Circuits, plain law: if firing ends, every order ends in the same state.
-/
import Derived.Test.YtifoecfajmnjjaaGreatQNeC
namespace Go.Proofs.YtifoecfajmnjjaaGreat
open Go.RowKit
set_option linter.unusedVariables false
set_option linter.unusedSimpArgs false
section
variable {c : Ci} {s e : Ns} {w : Nat → Bool}
theorem zN (hc : bo c) {p q : Nat} (hp : p < c.procs.length) (hq : q < c.procs.length) (hpq : p ≠ q) (h1 : dD c s p = true) (h2 : dD c s q = true) :
  ak c (ak c s (b4 p)) (b4 q) = ak c (ak c s (b4 q)) (b4 p) := by
 rw [vo hc hq h2 (i4 (Ne.symm hpq)), vo hc hp h1 (i4 hpq)]
 exact l6 (fun r => by unfold ai; show ((b4 p r || b4 q r) && _) = ((b4 q r || b4 p r) && _); rw [Bool.or_comm])
theorem pH (hc : bo c) {p : Nat} (hp : p < c.procs.length) (h1 : dD c s p = true) (hw : w p = false) : dD c (ak c s w) p = true := by
 unfold dD; rw [(wG hc hp h1 hw).1]; exact h1
def Ga (c : Ci) (s : Ns) : List Nat → Ns
 | [] => s
 | p :: r => Ga c (ak c s (b4 p)) r
def C5 (c : Ci) (s : Ns) : List Nat → Prop
 | [] => True
 | p :: r => p < c.procs.length ∧ dD c s p = true ∧ C5 c (ak c s (b4 p)) r
def MQ (c : Ci) (s : Ns) : Prop := ∀ p, p < c.procs.length → dD c s p = false
def mS (c : Ci) (s : Ns) (l : List Nat) (e : Ns) : Prop := C5 c s l ∧ Ga c s l = e ∧ MQ c e
theorem l7 (hc : bo c) : ∀ {l : List Nat} {s : Ns}, mS c s l e → ∀ {p : Nat}, p < c.procs.length → dD c s p = true →
  ∃ l', mS c (ak c s (b4 p)) l' e ∧ l'.length + 1 = l.length ∧ ∀ q, l.count q = l'.count q + if p = q then 1 else 0
 | [], s, ⟨_, h2, h3⟩, p, hp, hcan => by
  subst h2
  have := h3 p hp
  rw [show dD c (Ga c s []) p = dD c s p from rfl, hcan] at this
  cases this
 | q :: r, s, ⟨⟨hq, hcq, hr⟩, h2, h3⟩, p, hp, hcan => by
  by_cases hpq : p = q
  ·subst hpq
   exact ⟨r, ⟨hr, h2, h3⟩, rfl, fun x => by rw [List.count_cons]; simp⟩
  ·obtain ⟨r', ⟨g1, g2, g3⟩, hl, hcnt⟩ := l7 hc (l := r) (s := ak c s (b4 q)) ⟨hr, h2, h3⟩ hp (pH hc hp hcan (i4 hpq))
   refine ⟨q :: r', ⟨⟨hq, pH hc hq hcq (i4 (Ne.symm hpq)), ?_⟩, ?_, g3⟩, by simp [hl], fun x => ?_⟩
   ·rw [zN hc hp hq hpq hcan hcq]; exact g1
   ·show Ga c (ak c (ak c s (b4 p)) (b4 q)) r' = e
    rw [zN hc hp hq hpq hcan hcq]; exact g2
   ·rw [List.count_cons, List.count_cons, hcnt x]; simp only [beq_iff_eq]; omega
def ik (c : Ci) (s : Ns) : Nat → Nat → Int
 | 0, _ => -1
 | n + 1, k => if dD c s k = true then k else ik c s n (k + 1)
def a8 (c : Ci) (s : Ns) : Int := ik c s c.procs.length 0
theorem sy : ∀ (n k : Nat), (ik c s n k = -1 ∧ ∀ p, k ≤ p → p < k + n → dD c s p = false) ∨ ∃ p : Nat, ik c s n k = p ∧ k ≤ p ∧ p < k + n ∧ dD c s p = true
 | 0, k => .inl ⟨rfl, fun p h1 h2 => by omega⟩
 | n + 1, k => by
  rw [ik]
  split
  ·rename_i h; exact .inr ⟨k, rfl, Nat.le_refl _, by omega, h⟩
  ·rename_i h
   rcases sy n (k + 1) with ⟨h1, h2⟩ | ⟨p, h1, h2, h3, h4⟩
   ·refine .inl ⟨h1, fun p g1 g2 => ?_⟩
    by_cases e : p = k
    ·subst e; simpa using h
    ·exact h2 p (by omega) (by omega)
   ·exact .inr ⟨p, h1, by omega, by omega, h4⟩
theorem gW (c : Ci) (s : Ns) : (a8 c s = -1 ∧ MQ c s) ∨ ∃ p : Nat, a8 c s = p ∧ p < c.procs.length ∧ dD c s p = true := by
 rcases sy (c := c) (s := s) c.procs.length 0 with ⟨h1, h2⟩ | ⟨p, h1, h2, h3, h4⟩
 ·exact .inl ⟨h1, fun p hp => h2 p (Nat.zero_le _) (by omega)⟩
 ·exact .inr ⟨p, h1, by omega, h4⟩
theorem yq {k : Nat} (hk : k < c.procs.length) (h : ¬dD c s k = true) : ik c s (c.procs.length - k) k = ik c s (c.procs.length - (k + 1)) (k + 1) := by
 rw [show c.procs.length - k = (c.procs.length - (k + 1)) + 1 by omega, ik, if_neg h]
theorem rg {k : Nat} (hk : k < c.procs.length) (h : dD c s k = true) : ik c s (c.procs.length - k) k = k := by
 rw [show c.procs.length - k = (c.procs.length - (k + 1)) + 1 by omega, ik, if_pos h]
theorem rh {k : Nat} (hk : ¬k < c.procs.length) : ik c s (c.procs.length - k) k = -1 := by
 rw [show c.procs.length - k = 0 by omega, ik]
def bU (c : Ci) : Nat → Ns → List Int → Ns × List Int × Int
 | 0, s, cnt => if a8 c s < 0 then (s, cnt, 0) else (s, cnt, 7)
 | n + 1, s, cnt => if a8 c s < 0 then (s, cnt, 0) else bU c n (ak c s (b4 (a8 c s).toNat)) (cnt.set (a8 c s).toNat (cnt.getD (a8 c s).toNat 0 + 1))
theorem fv {n : Nat} {cnt : List Int} (h : a8 c s < 0) : bU c n s cnt = (s, cnt, 0) := by
 cases n with
 | zero => rw [bU, if_pos h]
 | succ n => rw [bU, if_pos h]
theorem fT {cnt : List Int} (h : ¬a8 c s < 0) : bU c 0 s cnt = (s, cnt, 7) := by rw [bU, if_neg h]
theorem pI {n : Nat} {cnt : List Int} (h : ¬a8 c s < 0) : bU c (n + 1) s cnt = bU c n (ak c s (b4 (a8 c s).toNat)) (cnt.set (a8 c s).toNat (cnt.getD (a8 c s).toNat 0 + 1)) := by
 rw [bU, if_neg h]
theorem pJ (hc : bo c) : ∀ (n : Nat) {s : Ns} {l : List Nat} {cnt : List Int}, mS c s l e → cnt.length = c.procs.length →
  (l.length ≤ n → (bU c n s cnt).1 = e ∧ (bU c n s cnt).2.2 = 0 ∧ (bU c n s cnt).2.1.length = c.procs.length ∧ ∀ q, q < c.procs.length → (bU c n s cnt).2.1.getD q 0 = cnt.getD q 0 + (l.count q : Nat)) ∧
  (n < l.length → (bU c n s cnt).2.2 = 7) := by
 intro n
 induction n with
 | zero =>
  intro s l cnt he hl
  rcases gW c s with ⟨h1, h2⟩ | ⟨p, h1, hp, hcan⟩
  ·have hnil : l = [] := by
    cases l with
    | nil => rfl
    | cons q r =>
     have := h2 q he.1.1
     rw [he.1.2.1] at this; cases this
   subst hnil
   rw [fv (by omega)]
   exact ⟨fun _ => ⟨he.2.1, rfl, hl, fun q hq => by simp⟩, fun h => absurd h (by simp)⟩
  ·obtain ⟨l', g1, g2, g3⟩ := l7 hc he hp hcan
   rw [fT (by omega)]
   exact ⟨fun h => by omega, fun _ => rfl⟩
 | succ n ih =>
  intro s l cnt he hl
  rcases gW c s with ⟨h1, h2⟩ | ⟨p, h1, hp, hcan⟩
  ·have hnil : l = [] := by
    cases l with
    | nil => rfl
    | cons q r =>
     have := h2 q he.1.1
     rw [he.1.2.1] at this; cases this
   subst hnil
   rw [fv (by omega)]
   exact ⟨fun _ => ⟨he.2.1, rfl, hl, fun q hq => by simp⟩, fun h => absurd h (by simp)⟩
  ·obtain ⟨l', g1, g2, g3⟩ := l7 hc he hp hcan
   rw [pI (by omega), h1, Int.toNat_natCast]
   obtain ⟨k1, k2⟩ := ih (s := ak c s (b4 p)) (l := l') (cnt := cnt.set p (cnt.getD p 0 + 1)) g1 (by simpa using hl)
   refine ⟨fun h => ?_, fun h => k2 (by omega)⟩
   obtain ⟨m1, m2, m3, m4⟩ := k1 (by omega)
   refine ⟨m1, m2, m3, fun q hq => ?_⟩
   rw [m4 q hq, b6 (by omega), g3 q]
   by_cases e : p = q
   ·subst e; simp; omega
   ·rw [if_neg e, if_neg e]; simp
def hJ (w : Nat → Bool) (P : Nat) : Nat → Bool := fun q => w q && decide (q < P)
theorem lv (hs : bN c s) : ak c s w = ak c s (hJ w c.procs.length) := by
 have h1 : ∀ q, q < c.procs.length → ai c s w q = ai c s (hJ w c.procs.length) q := fun q hq => by unfold ai hJ; simp [hq]
 have e1 : ao (bZ c s w) c.procs.length = ao (bZ c s (hJ w c.procs.length)) c.procs.length := iK (fun q hq => by unfold bZ; rw [h1 q hq])
 have e2 : ao (dp c s w) c.chans.length = ao (dp c s (hJ w c.procs.length)) c.chans.length := iK (fun n hn => by
  unfold dp
  have g1 : dc c s w n = dc c s (hJ w c.procs.length) n := by
   unfold dc
   by_cases hd : fu c n < c.procs.length
   ·rw [h1 _ hd]
   ·rw [Bi (by omega)]; simp
  have g2 : cL c s w n = cL c s (hJ w c.procs.length) n := by
   unfold cL
   by_cases hd : fh c n < c.procs.length
   ·rw [h1 _ hd]
   ·rw [oP hd]; simp
  rw [g1, g2])
 unfold ak; rw [e1, e2]
theorem yr (hc : bo c) (hs : bN c s) {l : List Nat} (he : mS c s l e) : ∀ {P : Nat}, P ≤ c.procs.length → ∃ l', mS c (ak c s (hJ w P)) l' e ∧ l'.length ≤ l.length ∧ ((∃ p, p < P ∧ ai c s w p = true) → l'.length < l.length)
 | 0, _ => ⟨l, by rw [sx hs (fun p hp => by unfold ai hJ; simp)]; exact he, Nat.le_refl _, fun ⟨p, hp, _⟩ => absurd hp (Nat.not_lt_zero _)⟩
 | P + 1, hP => by
  obtain ⟨l1, g1, g2, g3⟩ := yr hc hs he (P := P) (by omega)
  by_cases hf : ai c s w P = true
  ·obtain ⟨hw, hcan⟩ := l5 hf
   have hu : hJ w P P = false := by unfold hJ; simp
   obtain ⟨l2, k1, k2, k3⟩ := l7 hc g1 (p := P) (by omega) (pH hc (by omega) hcan hu)
   rw [vo hc (by omega) hcan hu] at k1
   refine ⟨l2, ?_, by omega, fun _ => by omega⟩
   rw [l6 (w' := fun q => hJ w P q || b4 P q)]
   ·exact k1
   ·intro q
    unfold ai hJ b4
    by_cases e : q = P
    ·subst e; simp [hw]
    ·have : decide (q < P + 1) = decide (q < P) := by simp only [decide_eq_decide]; omega
     rw [this]; simp [e]
  ·refine ⟨l1, ?_, g2, fun ⟨p, hp, hp2⟩ => g3 ⟨p, ?_, hp2⟩⟩
   ·rw [l6 (w' := hJ w P)]
    ·exact g1
    ·intro q
     by_cases e : q = P
     ·subst e
      have h1 : ai c s (hJ w (q + 1)) q = false := by
       unfold ai hJ
       unfold ai at hf
       simp only [Bool.and_eq_true, not_and, Bool.not_eq_true] at hf
       cases hw : w q
       ·simp
       ·simp [hf hw]
      rw [h1]; unfold ai hJ; simp
     ·unfold ai hJ
      have : decide (q < P + 1) = decide (q < P) := by simp only [decide_eq_decide]; omega
      rw [this]
   ·have : p ≠ P := fun e => hf (e ▸ hp2)
    omega
theorem Bj (hc : bo c) (hs : bN c s) {l : List Nat} (he : mS c s l e) (w : Nat → Bool) : ∃ l', mS c (ak c s w) l' e ∧ l'.length ≤ l.length ∧ ((∃ p, p < c.procs.length ∧ ai c s w p = true) → l'.length < l.length) := by
 rw [lv hs]
 exact yr hc hs he (Nat.le_refl _)
end
end Go.Proofs.YtifoecfajmnjjaaGreat
