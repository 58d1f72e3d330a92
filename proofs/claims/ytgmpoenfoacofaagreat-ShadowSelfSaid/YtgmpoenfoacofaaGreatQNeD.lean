/-
  Circuits, plain law: if firing ends, every order ends in the same state.
-/
import Derived.Test.YtgmpoenfoacofaaGreatQNeC
namespace Go.Proofs.YtgmpoenfoacofaaGreat
open Go.RowKit
set_option linter.unusedVariables false
set_option linter.unusedSimpArgs false
section
variable {c : Ci} {s e : Ns} {w : Nat → Bool}
theorem xF (hc : a8 c) {p q : Nat} (hp : p < c.procs.length) (hq : q < c.procs.length) (hpq : p ≠ q) (h1 : cS c s p = true) (h2 : cS c s q = true) :
  aF c (aF c s (aH p)) (aH q) = aF c (aF c s (aH q)) (aH p) := by
 rw [xE hc hq h2 (fM (Ne.symm hpq)), xE hc hp h1 (fM hpq)]
 exact qM (fun r => by unfold aC; show ((aH p r || aH q r) && _) = ((aH q r || aH p r) && _); rw [Bool.or_comm])
theorem pB (hc : a8 c) {p : Nat} (hp : p < c.procs.length) (h1 : cS c s p = true) (hw : w p = false) : cS c (aF c s w) p = true := by
 unfold cS; rw [(ze hc hp h1 hw).1]; exact h1
def f5 (c : Ci) (s : Ns) : List Nat → Ns
 | [] => s
 | p :: r => f5 c (aF c s (aH p)) r
def iq (c : Ci) (s : Ns) : List Nat → Prop
 | [] => True
 | p :: r => p < c.procs.length ∧ cS c s p = true ∧ iq c (aF c s (aH p)) r
def FJ (c : Ci) (s : Ns) : Prop := ∀ p, p < c.procs.length → cS c s p = false
def zg (c : Ci) (s : Ns) (l : List Nat) (e : Ns) : Prop := iq c s l ∧ f5 c s l = e ∧ FJ c e
theorem qN (hc : a8 c) : ∀ {l : List Nat} {s : Ns}, zg c s l e → ∀ {p : Nat}, p < c.procs.length → cS c s p = true →
  ∃ l', zg c (aF c s (aH p)) l' e ∧ l'.length + 1 = l.length ∧ ∀ q, l.count q = l'.count q + if p = q then 1 else 0
 | [], s, ⟨_, h2, h3⟩, p, hp, hcan => by
  subst h2
  have := h3 p hp
  rw [show cS c (f5 c s []) p = cS c s p from rfl, hcan] at this
  cases this
 | q :: r, s, ⟨⟨hq, hcq, hr⟩, h2, h3⟩, p, hp, hcan => by
  by_cases hpq : p = q
  ·subst hpq
   exact ⟨r, ⟨hr, h2, h3⟩, rfl, fun x => by rw [List.count_cons]; simp⟩
  ·obtain ⟨r', ⟨g1, g2, g3⟩, hl, hcnt⟩ := qN hc (l := r) (s := aF c s (aH q)) ⟨hr, h2, h3⟩ hp (pB hc hp hcan (fM hpq))
   refine ⟨q :: r', ⟨⟨hq, pB hc hq hcq (fM (Ne.symm hpq)), ?_⟩, ?_, g3⟩, by simp [hl], fun x => ?_⟩
   ·rw [xF hc hp hq hpq hcan hcq]; exact g1
   ·show f5 c (aF c (aF c s (aH p)) (aH q)) r' = e
    rw [xF hc hp hq hpq hcan hcq]; exact g2
   ·rw [List.count_cons, List.count_cons, hcnt x]; simp only [beq_iff_eq]; omega
def fy (c : Ci) (s : Ns) : Nat → Nat → Int
 | 0, _ => -1
 | n + 1, k => if cS c s k = true then k else fy c s n (k + 1)
def aV (c : Ci) (s : Ns) : Int := fy c s c.procs.length 0
theorem pC : ∀ (n k : Nat), (fy c s n k = -1 ∧ ∀ p, k ≤ p → p < k + n → cS c s p = false) ∨ ∃ p : Nat, fy c s n k = p ∧ k ≤ p ∧ p < k + n ∧ cS c s p = true
 | 0, k => .inl ⟨rfl, fun p h1 h2 => by omega⟩
 | n + 1, k => by
  rw [fy]
  split
  ·rename_i h; exact .inr ⟨k, rfl, Nat.le_refl _, by omega, h⟩
  ·rename_i h
   rcases pC n (k + 1) with ⟨h1, h2⟩ | ⟨p, h1, h2, h3, h4⟩
   ·refine .inl ⟨h1, fun p g1 g2 => ?_⟩
    by_cases e : p = k
    ·subst e; simpa using h
    ·exact h2 p (by omega) (by omega)
   ·exact .inr ⟨p, h1, by omega, by omega, h4⟩
theorem eZ (c : Ci) (s : Ns) : (aV c s = -1 ∧ FJ c s) ∨ ∃ p : Nat, aV c s = p ∧ p < c.procs.length ∧ cS c s p = true := by
 rcases pC (c := c) (s := s) c.procs.length 0 with ⟨h1, h2⟩ | ⟨p, h1, h2, h3, h4⟩
 ·exact .inl ⟨h1, fun p hp => h2 p (Nat.zero_le _) (by omega)⟩
 ·exact .inr ⟨p, h1, by omega, h4⟩
theorem DI {k : Nat} (hk : k < c.procs.length) (h : ¬cS c s k = true) : fy c s (c.procs.length - k) k = fy c s (c.procs.length - (k + 1)) (k + 1) := by
 rw [show c.procs.length - k = (c.procs.length - (k + 1)) + 1 by omega, fy, if_neg h]
theorem t2 {k : Nat} (hk : k < c.procs.length) (h : cS c s k = true) : fy c s (c.procs.length - k) k = k := by
 rw [show c.procs.length - k = (c.procs.length - (k + 1)) + 1 by omega, fy, if_pos h]
theorem t4 {k : Nat} (hk : ¬k < c.procs.length) : fy c s (c.procs.length - k) k = -1 := by
 rw [show c.procs.length - k = 0 by omega, fy]
def cC (c : Ci) : Nat → Ns → List Int → Ns × List Int × Int
 | 0, s, cnt => if aV c s < 0 then (s, cnt, 0) else (s, cnt, 7)
 | n + 1, s, cnt => if aV c s < 0 then (s, cnt, 0) else cC c n (aF c s (aH (aV c s).toNat)) (cnt.set (aV c s).toNat (cnt.getD (aV c s).toNat 0 + 1))
theorem fA {n : Nat} {cnt : List Int} (h : aV c s < 0) : cC c n s cnt = (s, cnt, 0) := by
 cases n with
 | zero => rw [cC, if_pos h]
 | succ n => rw [cC, if_pos h]
theorem gK {cnt : List Int} (h : ¬aV c s < 0) : cC c 0 s cnt = (s, cnt, 7) := by rw [cC, if_neg h]
theorem qO {n : Nat} {cnt : List Int} (h : ¬aV c s < 0) : cC c (n + 1) s cnt = cC c n (aF c s (aH (aV c s).toNat)) (cnt.set (aV c s).toNat (cnt.getD (aV c s).toNat 0 + 1)) := by
 rw [cC, if_neg h]
theorem DJ (hc : a8 c) : ∀ (n : Nat) {s : Ns} {l : List Nat} {cnt : List Int}, zg c s l e → cnt.length = c.procs.length →
  (l.length ≤ n → (cC c n s cnt).1 = e ∧ (cC c n s cnt).2.2 = 0 ∧ (cC c n s cnt).2.1.length = c.procs.length ∧ ∀ q, q < c.procs.length → (cC c n s cnt).2.1.getD q 0 = cnt.getD q 0 + (l.count q : Nat)) ∧
  (n < l.length → (cC c n s cnt).2.2 = 7) := by
 intro n
 induction n with
 | zero =>
  intro s l cnt he hl
  rcases eZ c s with ⟨h1, h2⟩ | ⟨p, h1, hp, hcan⟩
  ·have hnil : l = [] := by
    cases l with
    | nil => rfl
    | cons q r =>
     have := h2 q he.1.1
     rw [he.1.2.1] at this; cases this
   subst hnil
   rw [fA (by omega)]
   exact ⟨fun _ => ⟨he.2.1, rfl, hl, fun q hq => by simp⟩, fun h => absurd h (by simp)⟩
  ·obtain ⟨l', g1, g2, g3⟩ := qN hc he hp hcan
   rw [gK (by omega)]
   exact ⟨fun h => by omega, fun _ => rfl⟩
 | succ n ih =>
  intro s l cnt he hl
  rcases eZ c s with ⟨h1, h2⟩ | ⟨p, h1, hp, hcan⟩
  ·have hnil : l = [] := by
    cases l with
    | nil => rfl
    | cons q r =>
     have := h2 q he.1.1
     rw [he.1.2.1] at this; cases this
   subst hnil
   rw [fA (by omega)]
   exact ⟨fun _ => ⟨he.2.1, rfl, hl, fun q hq => by simp⟩, fun h => absurd h (by simp)⟩
  ·obtain ⟨l', g1, g2, g3⟩ := qN hc he hp hcan
   rw [qO (by omega), h1, Int.toNat_natCast]
   obtain ⟨k1, k2⟩ := ih (s := aF c s (aH p)) (l := l') (cnt := cnt.set p (cnt.getD p 0 + 1)) g1 (by simpa using hl)
   refine ⟨fun h => ?_, fun h => k2 (by omega)⟩
   obtain ⟨m1, m2, m3, m4⟩ := k1 (by omega)
   refine ⟨m1, m2, m3, fun q hq => ?_⟩
   rw [m4 q hq, bX (by omega), g3 q]
   by_cases e : p = q
   ·subst e; simp; omega
   ·rw [if_neg e, if_neg e]; simp
def ke (w : Nat → Bool) (P : Nat) : Nat → Bool := fun q => w q && decide (q < P)
theorem Hr (hs : bG c s) : aF c s w = aF c s (ke w c.procs.length) := by
 have h1 : ∀ q, q < c.procs.length → aC c s w q = aC c s (ke w c.procs.length) q := fun q hq => by unfold aC ke; simp [hq]
 have e1 : tab (bD c s w) c.procs.length = tab (bD c s (ke w c.procs.length)) c.procs.length := gQ (fun q hq => by unfold bD; rw [h1 q hq])
 have e2 : tab (cy c s w) c.chans.length = tab (cy c s (ke w c.procs.length)) c.chans.length := gQ (fun n hn => by
  unfold cy
  have g1 : cF c s w n = cF c s (ke w c.procs.length) n := by
   unfold cF
   by_cases hd : gJ c n < c.procs.length
   ·rw [h1 _ hd]
   ·rw [t1 (by omega)]; simp
  have g2 : cb c s w n = cb c s (ke w c.procs.length) n := by
   unfold cb
   by_cases hd : eP c n < c.procs.length
   ·rw [h1 _ hd]
   ·rw [ju hd]; simp
  rw [g1, g2])
 unfold aF; rw [e1, e2]
end
end Go.Proofs.YtgmpoenfoacofaaGreat
