/-
  Circuits with memories, and states with filled memories, plain data.
-/
import Derived.Test.YtnlmlkbaflmgcaaQMjC
import Derived.Test.YtnlmlkbaflmgcaaQNeU
namespace Go.Proofs.Ytnlmlkbaflmgcaa
open Go.RowKit
set_option linter.unusedVariables false
set_option linter.unusedSimpArgs false
theorem xh {c d : Sc} : ∀ (l : List Ex) (ws : List Int), (∀ a ∈ l, ∀ w, dt c a = some w → dt d a = some w) → dt.tyL c l = some ws → dt.tyL d l = some ws
 | [], ws, _, h => by rw [dt.tyL] at h ⊢; exact h
 | a :: r, ws, hm, h => by
  rw [dt.tyL] at h
  split at h
  ·rename_i w ws' h1 h2
   cases h
   rw [dt.tyL, hm a (by simp) w h1, xh r ws' (fun x hx => hm x (by simp [hx])) h2]
  ·cases h
theorem oz {r t ms : List Int} : ∀ (n : Nat) (e : Ex) (w : Int), eu e ≤ n → dt ⟨r, [], t⟩ e = some w → dt ⟨r, ms, t⟩ e = some w
 | 0, e, w, h, _ => by have := FL e; omega
 | n + 1, e, w, h, ht => by
  obtain ⟨ws, q1, q2⟩ := fa ht
  have h1 : dt.tyL ⟨r, ms, t⟩ e.args = some ws := xh e.args ws (fun a ha v hv => oz n a v (by have := vf ha; omega) hv) q1
  cases e with
  | mk op name k w0 args =>
   rw [dt]
   simp only at h1 q2 ⊢
   rw [h1]
   simp only
   rcases q2 with ⟨a, b, c, d, e⟩ | ⟨a, b, c, d, e⟩ | ⟨a, b, c, d, e⟩ | ⟨a, b, c, d, e⟩
   ·rw [if_pos a, if_pos ⟨b, c, d⟩, e]
   ·rw [if_neg (by omega), if_pos a, if_pos ⟨b, c, d⟩, e]
   ·simp at d; omega
   ·rw [if_neg a, if_neg c, if_neg b, if_pos d, e]
theorem GY {x : Int} {k : Nat} (h0 : 0 ≤ x) (h1 : x ≤ 255) : IntKind.wrap .u8 (Int.tdiv x (k : Int)) = x / k := by
 rw [Int.tdiv_eq_ediv_of_nonneg h0]
 have h2 : 0 ≤ x / (k : Int) := Int.ediv_nonneg h0 (by omega)
 have h3 : x / (k : Int) ≤ x := Int.ediv_le_self _ h0
 exact Kb rfl h2 (by omega)
theorem Jy {n : Nat} (h : n ≤ 1000000) : IntKind.wrap .i64 (Int.tdiv (n : Int) 10) = ((n / 10 : Nat) : Int) := by
 rw [Int.tdiv_eq_ediv_of_nonneg (by omega)]
 exact qr rfl (by omega) (by omega)
theorem Jz (n : Nat) : Int.tmod (n : Int) 10 = ((n % 10 : Nat) : Int) := by
 rw [Int.tmod_eq_emod_of_nonneg (by omega)]; omega
def JA : ByteArray := bs [109, 101, 109]
def Ar : Ex := ⟨1, e0, ⟨0, e0⟩, ⟨1, e0⟩, []⟩
def xi (y : Int) : Int := 1 + y / 2 % 2
def pD (y : Int) : Mm := ⟨JA, xi y, [2, 1, 4, 2].getD (y / 4 % 4).toNat 0, Ar, Ar, ⟨1, e0, ⟨0, e0⟩, ⟨xi y, e0⟩, []⟩, ⟨1, e0, 0⟩⟩
def F4 (b : List Int) (i : Nat) : Bool := decide (i < b.length) && decide (b.getD i 0 % 2 = 1)
def jx (p : Pr) (b : List Int) (i : Nat) : Pr := if F4 b i = true then { p with mems := [pD (b.getD i 0)] } else p
def aF (c : Ci) (b : List Int) : Ci := ⟨tab (fun i => jx (c.procs.getD i af) b i) c.procs.length, c.chans⟩
theorem F5 {b : List Int} {i : Nat} (h1 : i < b.length) (h2 : b.getD i 0 % 2 = 1) (p : Pr) : jx p b i = { p with mems := [pD (b.getD i 0)] } := by
 unfold jx F4; rw [decide_eq_true h1, decide_eq_true h2, if_pos (by simp)]
theorem F6 {b : List Int} {i : Nat} (h1 : ¬i < b.length) (p : Pr) : jx p b i = p := by
 unfold jx F4; rw [decide_eq_false h1, Bool.false_and, if_neg (by simp)]
theorem F7 {b : List Int} {i : Nat} (h2 : ¬b.getD i 0 % 2 = 1) (p : Pr) : jx p b i = p := by
 unfold jx F4; rw [decide_eq_false h2, Bool.and_false, if_neg (by simp)]
def ud (b : List Int) (w : Int) (q : Nat) (z : Nat) : Int := if q + z < b.length then kG (b.getD (q + z) 0) w else 0
def pZ (b : List Int) (p : Pr) (q : Nat) : Nat → Nat
 | 0 => q
 | k + 1 => pZ b p q k + (p.mems.getD k aB).words.toNat
def xL (b : List Int) (p : Pr) (q k : Nat) : List Int := tab (ud b (p.mems.getD k aB).w (pZ b p q k)) (p.mems.getD k aB).words.toNat
def i7 (b : List Int) (c : Ci) : Nat → Nat
 | 0 => 0
 | i + 1 => pZ b (c.procs.getD i af) (i7 b c i) (c.procs.getD i af).mems.length
def BH (b : List Int) (c : Ci) (s : Ns) (i : Nat) : Ps := ⟨(s.procs.getD i aZ).regs, tab (xL b (c.procs.getD i af) (i7 b c i)) (c.procs.getD i af).mems.length⟩
def fV (c : Ci) (s : Ns) (b : List Int) : Ns := ⟨tab (BH b c s) c.procs.length, s.chans⟩
theorem oA {x w : Int} (h0 : 0 ≤ w) (h : w ≤ 62) : cE (kG x w) w := by
 unfold kG; rw [if_pos ⟨h0, h⟩]; exact nW h0 h
theorem H2 (y : Int) : aI (pD y).w = true ∧ (1 ≤ (pD y).words ∧ (pD y).words ≤ 4) := by
 refine ⟨aP.2 (by show 1 ≤ 1 + y / 2 % 2 ∧ 1 + y / 2 % 2 ≤ 8; omega), ?_⟩
 have : (y / 4 % 4).toNat = 0 ∨ (y / 4 % 4).toNat = 1 ∨ (y / 4 % 4).toNat = 2 ∨ (y / 4 % 4).toNat = 3 := by omega
 show 1 ≤ [2, 1, 4, 2].getD (y / 4 % 4).toNat 0 ∧ [2, 1, 4, 2].getD (y / 4 % 4).toNat 0 ≤ (4 : Int)
 rcases this with h | h | h | h <;> rw [h] <;> decide
theorem JB {p : Pr} (hp : ga p) (hm : p.mems = []) (b : List Int) (i : Nat) : ga (jx p b i) := by
 unfold jx
 split
 ·have hs : lm p = ⟨p.regs.map (·.w), [], p.takes.map (·.w)⟩ := by unfold lm; rw [hm]; rfl
  have hn : Hv p = ⟨p.regs.map (·.w), [], []⟩ := by unfold Hv; rw [hm]; rfl
  generalize hy : b.getD i 0 = y
  have hk := H2 y
  refine ⟨hp.rl, by simp, hp.tl, hp.pl, fun j hj => ?_, fun j hj => ?_, fun j hj => ?_, fun j hj => ?_⟩
  ·have := hp.rw j hj
   rw [hs] at this
   exact ⟨this.1, this.2.1, oz _ _ _ (Nat.le_refl _) this.2.2.1, this.2.2.2⟩
  ·have : j = 0 := by have : j < 1 := hj; omega
   subst this
   refine ⟨hk.1, hk.2, ⟨rfl, by show eu Ar ≤ 3; decide⟩, ⟨⟨1, rfl⟩, by show eu Ar ≤ 3; decide⟩, ?_, ?_⟩
   ·show dt _ ⟨1, e0, ⟨0, e0⟩, ⟨xi y, e0⟩, []⟩ = some (xi y)
    have : xi y = 1 ∨ xi y = 2 := by unfold xi; omega
    rcases this with h | h <;> rw [h] <;> rfl
   ·show eu ⟨1, e0, ⟨0, e0⟩, ⟨xi y, e0⟩, []⟩ ≤ 3
    simp [eu, eu.depL]
  ·have := hp.tw j hj
   rw [hn] at this
   exact ⟨this.1, oz _ _ _ (Nat.le_refl _) this.2.1, this.2.2⟩
  ·have := hp.pw j hj
   rw [hs] at this
   exact ⟨this.1, ⟨oz _ _ _ (Nat.le_refl _) this.2.1.1, this.2.1.2⟩, oz _ _ _ (Nat.le_refl _) this.2.2.1, this.2.2.2⟩
 ·exact hp
theorem ue (p : Pr) (b : List Int) (i : Nat) : (jx p b i).takes = p.takes := by unfold jx; split <;> rfl
theorem xj (p : Pr) (b : List Int) (i : Nat) : (jx p b i).puts = p.puts := by unfold jx; split <;> rfl
theorem Eb (p : Pr) (b : List Int) (i : Nat) : (jx p b i).regs = p.regs := by unfold jx; split <;> rfl
theorem Ec (p : Pr) (b : List Int) (i : Nat) : (jx p b i).name = p.name := by unfold jx; split <;> rfl
theorem xk (c : Ci) (b : List Int) : (aF c b).procs.length = c.procs.length := aH _ _
theorem Au {c : Ci} {b : List Int} {i : Nat} (h : i < c.procs.length) : (aF c b).procs.getD i af = jx (c.procs.getD i af) b i := aR h
theorem F8 {c : Ci} (hc : bX c) (hm : ∀ i, i < c.procs.length → (bx c i).mems = []) (b : List Int) : bX (aF c b) := by
 have hl := xk c b
 have hat : ∀ i, i < c.procs.length → bx (aF c b) i = jx (bx c i) b i := fun i hi => Au hi
 refine ⟨by rw [hl]; exact hc.n1, by rw [hl]; exact hc.nl, hc.cl, fun i hi => ?_, fun i hi => ?_, fun i hi => ?_, fun i hi => ?_, fun i hi => ?_, hc.cw, hc.cp⟩ <;> rw [hl] at hi
 ·rw [hat i hi]; exact JB (hc.pr i hi) (hm i hi) b i
 ·rw [hat i hi]; unfold tV lY; rw [ue]; exact hc.tk i hi
 ·rw [hat i hi]; unfold qx pu; rw [xj]; exact hc.pt i hi
 ·rw [hat i hi]; unfold tV lY; rw [ue]; exact hc.td i hi
 ·rw [hat i hi]; unfold qx pu; rw [xj]; exact hc.pd i hi
theorem F9 {c : Ci} (hc : bX c) {s : Ns} (hs : fB c s) (b : List Int) : fB c (fV c s b) := by
 refine ⟨aH _ _, hs.cl, fun i hi => ?_, hs.cv, hs.cc⟩
 have e : yu (fV c s b) i = BH b c s i := aR hi
 rw [e]
 have h := hs.pv i hi
 have hk := (hc.pr i hi).mw
 refine ⟨h.rl, h.rv, aH _ _, fun j hj => ?_, fun j hj z hz => ?_⟩
 ·rw [show (BH b c s i).mems.getD j [] = xL b (bx c i) (i7 b c i) j from aR hj]
  unfold xL
  rw [aH]
  have := (hk j hj).2.1.1
  show (((hJ (bx c i) j).words.toNat : Nat) : Int) = (hJ (bx c i) j).words
  omega
 ·rw [show (BH b c s i).mems.getD j [] = xL b (bx c i) (i7 b c i) j from aR hj] at hz ⊢
  unfold xL at hz ⊢
  rw [aH] at hz
  rw [aR hz]
  have hw := aP.1 (hk j hj).1
  unfold ud
  split
  ·exact oA (by show 0 ≤ (hJ (bx c i) j).w; omega) (by show (hJ (bx c i) j).w ≤ 62; omega)
  ·exact ⟨Int.le_refl _, by have := b4 (w := (hJ (bx c i) j).w) (by omega) (by omega); exact this.1⟩
theorem yN {p : Pr} (hp : ga p) (b : List Int) (q : Nat) : ∀ k, k ≤ p.mems.length → pZ b p q k ≤ q + 4 * k
 | 0, _ => Nat.le_refl _
 | k + 1, h => by
  have h1 := yN hp b q k (by omega)
  have h2 := (hp.mw k (by omega)).2.1.2
  have : (hJ p k).words = (p.mems.getD k aB).words := rfl
  rw [pZ]; omega
theorem Ed {c : Ci} (hc : bX c) (b : List Int) : ∀ i, i ≤ c.procs.length → i7 b c i ≤ 400 * i
 | 0, _ => Nat.le_refl _
 | i + 1, h => by
  have h1 := Ed hc b i (by omega)
  have h2 := yN (hc.pr i (by omega)) b (i7 b c i) (bx c i).mems.length (Nat.le_refl _)
  have h3 := (hc.pr i (by omega)).ml
  rw [i7]
  show pZ b (bx c i) (i7 b c i) (bx c i).mems.length ≤ _
  omega
end Go.Proofs.Ytnlmlkbaflmgcaa
