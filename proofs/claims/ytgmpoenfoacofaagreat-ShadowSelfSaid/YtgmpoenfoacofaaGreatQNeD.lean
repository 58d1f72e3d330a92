/-
  Circuits, plain law: if firing ends, every order ends in the same state.
-/
import Derived.Test.YtgmpoenfoacofaaGreatQNeC
namespace Go.Proofs.YtgmpoenfoacofaaGreat
open Go.RowKit
set_option linter.unusedVariables false
set_option linter.unusedSimpArgs false
section
variable {c : Ci} {s e : Ns} {w : Nat → Bool}
theorem wN (hc : a6 c) {p q : Nat} (hp : p < c.procs.length) (hq : q < c.procs.length) (hpq : p ≠ q) (h1 : cT c s p = true) (h2 : cT c s q = true) :
  aG c (aG c s (aH p)) (aH q) = aG c (aG c s (aH q)) (aH p) := by
 rw [wM hc hq h2 (fD (Ne.symm hpq)), wM hc hp h1 (fD hpq)]
 exact qn (fun r => by unfold aC; show ((aH p r || aH q r) && _) = ((aH q r || aH p r) && _); rw [Bool.or_comm])
theorem oZ (hc : a6 c) {p : Nat} (hp : p < c.procs.length) (h1 : cT c s p = true) (hw : w p = false) : cT c (aG c s w) p = true := by
 unfold cT; rw [(yj hc hp h1 hw).1]; exact h1
def fP (c : Ci) (s : Ns) : List Nat → Ns
 | [] => s
 | p :: r => fP c (aG c s (aH p)) r
def ib (c : Ci) (s : Ns) : List Nat → Prop
 | [] => True
 | p :: r => p < c.procs.length ∧ cT c s p = true ∧ ib c (aG c s (aH p)) r
def EY (c : Ci) (s : Ns) : Prop := ∀ p, p < c.procs.length → cT c s p = false
def yl (c : Ci) (s : Ns) (l : List Nat) (e : Ns) : Prop := ib c s l ∧ fP c s l = e ∧ EY c e
theorem qo (hc : a6 c) : ∀ {l : List Nat} {s : Ns}, yl c s l e → ∀ {p : Nat}, p < c.procs.length → cT c s p = true →
  ∃ l', yl c (aG c s (aH p)) l' e ∧ l'.length + 1 = l.length ∧ ∀ q, l.count q = l'.count q + if p = q then 1 else 0
 | [], s, ⟨_, h2, h3⟩, p, hp, hcan => by
  subst h2
  have := h3 p hp
  rw [show cT c (fP c s []) p = cT c s p from rfl, hcan] at this
  cases this
 | q :: r, s, ⟨⟨hq, hcq, hr⟩, h2, h3⟩, p, hp, hcan => by
  by_cases hpq : p = q
  ·subst hpq
   exact ⟨r, ⟨hr, h2, h3⟩, rfl, fun x => by rw [List.count_cons]; simp⟩
  ·obtain ⟨r', ⟨g1, g2, g3⟩, hl, hcnt⟩ := qo hc (l := r) (s := aG c s (aH q)) ⟨hr, h2, h3⟩ hp (oZ hc hp hcan (fD hpq))
   refine ⟨q :: r', ⟨⟨hq, oZ hc hq hcq (fD (Ne.symm hpq)), ?_⟩, ?_, g3⟩, by simp [hl], fun x => ?_⟩
   ·rw [wN hc hp hq hpq hcan hcq]; exact g1
   ·show fP c (aG c (aG c s (aH p)) (aH q)) r' = e
    rw [wN hc hp hq hpq hcan hcq]; exact g2
   ·rw [List.count_cons, List.count_cons, hcnt x]; simp only [beq_iff_eq]; omega
def fo (c : Ci) (s : Ns) : Nat → Nat → Int
 | 0, _ => -1
 | n + 1, k => if cT c s k = true then k else fo c s n (k + 1)
def aV (c : Ci) (s : Ns) : Int := fo c s c.procs.length 0
theorem o0 : ∀ (n k : Nat), (fo c s n k = -1 ∧ ∀ p, k ≤ p → p < k + n → cT c s p = false) ∨ ∃ p : Nat, fo c s n k = p ∧ k ≤ p ∧ p < k + n ∧ cT c s p = true
 | 0, k => .inl ⟨rfl, fun p h1 h2 => by omega⟩
 | n + 1, k => by
  rw [fo]
  split
  ·rename_i h; exact .inr ⟨k, rfl, Nat.le_refl _, by omega, h⟩
  ·rename_i h
   rcases o0 n (k + 1) with ⟨h1, h2⟩ | ⟨p, h1, h2, h3, h4⟩
   ·refine .inl ⟨h1, fun p g1 g2 => ?_⟩
    by_cases e : p = k
    ·subst e; simpa using h
    ·exact h2 p (by omega) (by omega)
   ·exact .inr ⟨p, h1, by omega, by omega, h4⟩
theorem eS (c : Ci) (s : Ns) : (aV c s = -1 ∧ EY c s) ∨ ∃ p : Nat, aV c s = p ∧ p < c.procs.length ∧ cT c s p = true := by
 rcases o0 (c := c) (s := s) c.procs.length 0 with ⟨h1, h2⟩ | ⟨p, h1, h2, h3, h4⟩
 ·exact .inl ⟨h1, fun p hp => h2 p (Nat.zero_le _) (by omega)⟩
 ·exact .inr ⟨p, h1, by omega, h4⟩
theorem CW {k : Nat} (hk : k < c.procs.length) (h : ¬cT c s k = true) : fo c s (c.procs.length - k) k = fo c s (c.procs.length - (k + 1)) (k + 1) := by
 rw [show c.procs.length - k = (c.procs.length - (k + 1)) + 1 by omega, fo, if_neg h]
theorem th {k : Nat} (hk : k < c.procs.length) (h : cT c s k = true) : fo c s (c.procs.length - k) k = k := by
 rw [show c.procs.length - k = (c.procs.length - (k + 1)) + 1 by omega, fo, if_pos h]
theorem ti {k : Nat} (hk : ¬k < c.procs.length) : fo c s (c.procs.length - k) k = -1 := by
 rw [show c.procs.length - k = 0 by omega, fo]
def cA (c : Ci) : Nat → Ns → List Int → Ns × List Int × Int
 | 0, s, cnt => if aV c s < 0 then (s, cnt, 0) else (s, cnt, 7)
 | n + 1, s, cnt => if aV c s < 0 then (s, cnt, 0) else cA c n (aG c s (aH (aV c s).toNat)) (cnt.set (aV c s).toNat (cnt.getD (aV c s).toNat 0 + 1))
theorem fp {n : Nat} {cnt : List Int} (h : aV c s < 0) : cA c n s cnt = (s, cnt, 0) := by
 cases n with
 | zero => rw [cA, if_pos h]
 | succ n => rw [cA, if_pos h]
theorem gB {cnt : List Int} (h : ¬aV c s < 0) : cA c 0 s cnt = (s, cnt, 7) := by rw [cA, if_neg h]
theorem qp {n : Nat} {cnt : List Int} (h : ¬aV c s < 0) : cA c (n + 1) s cnt = cA c n (aG c s (aH (aV c s).toNat)) (cnt.set (aV c s).toNat (cnt.getD (aV c s).toNat 0 + 1)) := by
 rw [cA, if_neg h]
theorem CX (hc : a6 c) : ∀ (n : Nat) {s : Ns} {l : List Nat} {cnt : List Int}, yl c s l e → cnt.length = c.procs.length →
  (l.length ≤ n → (cA c n s cnt).1 = e ∧ (cA c n s cnt).2.2 = 0 ∧ (cA c n s cnt).2.1.length = c.procs.length ∧ ∀ q, q < c.procs.length → (cA c n s cnt).2.1.getD q 0 = cnt.getD q 0 + (l.count q : Nat)) ∧
  (n < l.length → (cA c n s cnt).2.2 = 7) := by
 intro n
 induction n with
 | zero =>
  intro s l cnt he hl
  rcases eS c s with ⟨h1, h2⟩ | ⟨p, h1, hp, hcan⟩
  ·have hnil : l = [] := by
    cases l with
    | nil => rfl
    | cons q r =>
     have := h2 q he.1.1
     rw [he.1.2.1] at this; cases this
   subst hnil
   rw [fp (by omega)]
   exact ⟨fun _ => ⟨he.2.1, rfl, hl, fun q hq => by simp⟩, fun h => absurd h (by simp)⟩
  ·obtain ⟨l', g1, g2, g3⟩ := qo hc he hp hcan
   rw [gB (by omega)]
   exact ⟨fun h => by omega, fun _ => rfl⟩
 | succ n ih =>
  intro s l cnt he hl
  rcases eS c s with ⟨h1, h2⟩ | ⟨p, h1, hp, hcan⟩
  ·have hnil : l = [] := by
    cases l with
    | nil => rfl
    | cons q r =>
     have := h2 q he.1.1
     rw [he.1.2.1] at this; cases this
   subst hnil
   rw [fp (by omega)]
   exact ⟨fun _ => ⟨he.2.1, rfl, hl, fun q hq => by simp⟩, fun h => absurd h (by simp)⟩
  ·obtain ⟨l', g1, g2, g3⟩ := qo hc he hp hcan
   rw [qp (by omega), h1, Int.toNat_natCast]
   obtain ⟨k1, k2⟩ := ih (s := aG c s (aH p)) (l := l') (cnt := cnt.set p (cnt.getD p 0 + 1)) g1 (by simpa using hl)
   refine ⟨fun h => ?_, fun h => k2 (by omega)⟩
   obtain ⟨m1, m2, m3, m4⟩ := k1 (by omega)
   refine ⟨m1, m2, m3, fun q hq => ?_⟩
   rw [m4 q hq, bZ (by omega), g3 q]
   by_cases e : p = q
   ·subst e; simp; omega
   ·rw [if_neg e, if_neg e]; simp
def jM (w : Nat → Bool) (P : Nat) : Nat → Bool := fun q => w q && decide (q < P)
theorem GJ (hs : bH c s) : aG c s w = aG c s (jM w c.procs.length) := by
 have h1 : ∀ q, q < c.procs.length → aC c s w q = aC c s (jM w c.procs.length) q := fun q hq => by unfold aC jM; simp [hq]
 have e1 : ao (bE c s w) c.procs.length = ao (bE c s (jM w c.procs.length)) c.procs.length := gH (fun q hq => by unfold bE; rw [h1 q hq])
 have e2 : ao (cx c s w) c.chans.length = ao (cx c s (jM w c.procs.length)) c.chans.length := gH (fun n hn => by
  unfold cx
  have g1 : cE c s w n = cE c s (jM w c.procs.length) n := by
   unfold cE
   by_cases hd : gA c n < c.procs.length
   ·rw [h1 _ hd]
   ·rw [tg (by omega)]; simp
  have g2 : ca c s w n = ca c s (jM w c.procs.length) n := by
   unfold ca
   by_cases hd : eJ c n < c.procs.length
   ·rw [h1 _ hd]
   ·rw [ja hd]; simp
  rw [g1, g2])
 unfold aG; rw [e1, e2]
end
end Go.Proofs.YtgmpoenfoacofaaGreat
