/-
  Circuits with memories, and states with filled memories, plain data.
-/
import Derived.Test.YtnlmlkbaflmgcaaQMjC
import Derived.Test.YtnlmlkbaflmgcaaQNeU
namespace Go.Proofs.Ytnlmlkbaflmgcaa
open Go.RowKit
set_option linter.unusedVariables false
set_option linter.unusedSimpArgs false
theorem xl {c d : Sc} : ∀ (l : List Ex) (ws : List Int), (∀ a ∈ l, ∀ w, dA c a = some w → dA d a = some w) → dA.tyL c l = some ws → dA.tyL d l = some ws
 | [], ws, _, h => by rw [dA.tyL] at h ⊢; exact h
 | a :: r, ws, hm, h => by
  rw [dA.tyL] at h
  split at h
  ·rename_i w ws' h1 h2
   cases h
   rw [dA.tyL, hm a (by simp) w h1, xl r ws' (fun x hx => hm x (by simp [hx])) h2]
  ·cases h
theorem oH {r t ms : List Int} : ∀ (n : Nat) (e : Ex) (w : Int), eI e ≤ n → dA ⟨r, [], t⟩ e = some w → dA ⟨r, ms, t⟩ e = some w
 | 0, e, w, h, _ => by have := FQ e; omega
 | n + 1, e, w, h, ht => by
  obtain ⟨ws, q1, q2⟩ := fu ht
  have h1 : dA.tyL ⟨r, ms, t⟩ e.args = some ws := xl e.args ws (fun a ha v hv => oH n a v (by have := vi ha; omega) hv) q1
  cases e with
  | mk op name k w0 args =>
   rw [dA]
   simp only at h1 q2 ⊢
   rw [h1]
   simp only
   rcases q2 with ⟨a, b, c, d, e⟩ | ⟨a, b, c, d, e⟩ | ⟨a, b, c, d, e⟩ | ⟨a, b, c, d, e⟩
   ·rw [if_pos a, if_pos ⟨b, c, d⟩, e]
   ·rw [if_neg (by omega), if_pos a, if_pos ⟨b, c, d⟩, e]
   ·simp at d; omega
   ·rw [if_neg a, if_neg c, if_neg b, if_pos d, e]
theorem He {x : Int} {k : Nat} (h0 : 0 ≤ x) (h1 : x ≤ 255) : IntKind.wrap .u8 (Int.tdiv x (k : Int)) = x / k := by
 rw [Int.tdiv_eq_ediv_of_nonneg h0]
 have h2 : 0 ≤ x / (k : Int) := Int.ediv_nonneg h0 (by omega)
 have h3 : x / (k : Int) ≤ x := Int.ediv_le_self _ h0
 exact KE rfl h2 (by omega)
theorem J0 {n : Nat} (h : n ≤ 1000000) : IntKind.wrap .i64 (Int.tdiv (n : Int) 10) = ((n / 10 : Nat) : Int) := by
 rw [Int.tdiv_eq_ediv_of_nonneg (by omega)]
 exact qy rfl (by omega) (by omega)
theorem J1 (n : Nat) : Int.tmod (n : Int) 10 = ((n % 10 : Nat) : Int) := by
 rw [Int.tmod_eq_emod_of_nonneg (by omega)]; omega
def J2 : ByteArray := bs [109, 101, 109]
def AJ : Ex := ⟨1, e0, ⟨0, e0⟩, ⟨1, e0⟩, []⟩
def xm (y : Int) : Int := 1 + y / 2 % 2
def pJ (y : Int) : Mm := ⟨J2, xm y, [2, 1, 4, 2].getD (y / 4 % 4).toNat 0, AJ, AJ, ⟨1, e0, ⟨0, e0⟩, ⟨xm y, e0⟩, []⟩, ⟨1, e0, 0⟩⟩
def Gf (b : List Int) (i : Nat) : Bool := decide (i < b.length) && decide (b.getD i 0 % 2 = 1)
def jK (p : Pr) (b : List Int) (i : Nat) : Pr := if Gf b i = true then { p with mems := [pJ (b.getD i 0)] } else p
def aH (c : Ci) (b : List Int) : Ci := ⟨tab (fun i => jK (c.procs.getD i ac) b i) c.procs.length, c.chans⟩
theorem Gg {b : List Int} {i : Nat} (h1 : i < b.length) (h2 : b.getD i 0 % 2 = 1) (p : Pr) : jK p b i = { p with mems := [pJ (b.getD i 0)] } := by
 unfold jK Gf; rw [decide_eq_true h1, decide_eq_true h2, if_pos (by simp)]
theorem Gh {b : List Int} {i : Nat} (h1 : ¬i < b.length) (p : Pr) : jK p b i = p := by
 unfold jK Gf; rw [decide_eq_false h1, Bool.false_and, if_neg (by simp)]
theorem Gi {b : List Int} {i : Nat} (h2 : ¬b.getD i 0 % 2 = 1) (p : Pr) : jK p b i = p := by
 unfold jK Gf; rw [decide_eq_false h2, Bool.and_false, if_neg (by simp)]
def uo (b : List Int) (w : Int) (q : Nat) (z : Nat) : Int := if q + z < b.length then dH (b.getD (q + z) 0) w else 0
def qe (b : List Int) (p : Pr) (q : Nat) : Nat → Nat
 | 0 => q
 | k + 1 => qe b p q k + (p.mems.getD k au).words.toNat
def xP (b : List Int) (p : Pr) (q k : Nat) : List Int := tab (uo b (p.mems.getD k au).w (qe b p q k)) (p.mems.getD k au).words.toNat
def jl (b : List Int) (c : Ci) : Nat → Nat
 | 0 => 0
 | i + 1 => qe b (c.procs.getD i ac) (jl b c i) (c.procs.getD i ac).mems.length
def BS (b : List Int) (c : Ci) (s : Ns) (i : Nat) : Ps := ⟨(s.procs.getD i aX).regs, tab (xP b (c.procs.getD i ac) (jl b c i)) (c.procs.getD i ac).mems.length⟩
def gw (c : Ci) (s : Ns) (b : List Int) : Ns := ⟨tab (BS b c s) c.procs.length, s.chans⟩
theorem Gj {x w : Int} (h0 : 0 ≤ w) (h : w ≤ 62) : dG (dH x w) w := by
 unfold dH; rw [if_pos ⟨h0, h⟩]; exact oh h0 h
theorem Iv (y : Int) : aI (pJ y).w = true ∧ (1 ≤ (pJ y).words ∧ (pJ y).words ≤ 4) := by
 refine ⟨aQ.2 (by show 1 ≤ 1 + y / 2 % 2 ∧ 1 + y / 2 % 2 ≤ 8; omega), ?_⟩
 have : (y / 4 % 4).toNat = 0 ∨ (y / 4 % 4).toNat = 1 ∨ (y / 4 % 4).toNat = 2 ∨ (y / 4 % 4).toNat = 3 := by omega
 show 1 ≤ [2, 1, 4, 2].getD (y / 4 % 4).toNat 0 ∧ [2, 1, 4, 2].getD (y / 4 % 4).toNat 0 ≤ (4 : Int)
 rcases this with h | h | h | h <;> rw [h] <;> decide
theorem J3 {p : Pr} (hp : im p) (hm : p.mems = []) (b : List Int) (i : Nat) : im (jK p b i) := by
 unfold jK
 split
 ·have hs : lK p = ⟨p.regs.map (·.w), [], p.takes.map (·.w)⟩ := by unfold lK; rw [hm]; rfl
  have hn : HH p = ⟨p.regs.map (·.w), [], []⟩ := by unfold HH; rw [hm]; rfl
  generalize hy : b.getD i 0 = y
  have hk := Iv y
  refine ⟨hp.rl, by simp, hp.tl, hp.pl, fun j hj => ?_, fun j hj => ?_, fun j hj => ?_, fun j hj => ?_⟩
  ·have := hp.rw j hj
   rw [hs] at this
   exact ⟨this.1, this.2.1, oH _ _ _ (Nat.le_refl _) this.2.2.1, this.2.2.2⟩
  ·have : j = 0 := by have : j < 1 := hj; omega
   subst this
   refine ⟨hk.1, hk.2, ⟨rfl, by show eI AJ ≤ 3; decide⟩, ⟨⟨1, rfl⟩, by show eI AJ ≤ 3; decide⟩, ?_, ?_⟩
   ·show dA _ ⟨1, e0, ⟨0, e0⟩, ⟨xm y, e0⟩, []⟩ = some (xm y)
    have : xm y = 1 ∨ xm y = 2 := by unfold xm; omega
    rcases this with h | h <;> rw [h] <;> rfl
   ·show eI ⟨1, e0, ⟨0, e0⟩, ⟨xm y, e0⟩, []⟩ ≤ 3
    simp [eI, eI.depL]
  ·have := hp.tw j hj
   rw [hn] at this
   exact ⟨this.1, oH _ _ _ (Nat.le_refl _) this.2.1, this.2.2⟩
  ·have := hp.pw j hj
   rw [hs] at this
   exact ⟨this.1, ⟨oH _ _ _ (Nat.le_refl _) this.2.1.1, this.2.1.2⟩, oH _ _ _ (Nat.le_refl _) this.2.2.1, this.2.2.2⟩
 ·exact hp
theorem uq (p : Pr) (b : List Int) (i : Nat) : (jK p b i).takes = p.takes := by unfold jK; split <;> rfl
theorem xn (p : Pr) (b : List Int) (i : Nat) : (jK p b i).puts = p.puts := by unfold jK; split <;> rfl
theorem Et (p : Pr) (b : List Int) (i : Nat) : (jK p b i).regs = p.regs := by unfold jK; split <;> rfl
theorem Eu (p : Pr) (b : List Int) (i : Nat) : (jK p b i).name = p.name := by unfold jK; split <;> rfl
theorem xo (c : Ci) (b : List Int) : (aH c b).procs.length = c.procs.length := aL _ _
theorem AK {c : Ci} {b : List Int} {i : Nat} (h : i < c.procs.length) : (aH c b).procs.getD i ac = jK (c.procs.getD i ac) b i := aY h
theorem Gk {c : Ci} (hc : b5 c) (hm : ∀ i, i < c.procs.length → (bD c i).mems = []) (b : List Int) : b5 (aH c b) := by
 have hl := xo c b
 have hat : ∀ i, i < c.procs.length → bD (aH c b) i = jK (bD c i) b i := fun i hi => AK hi
 refine ⟨by rw [hl]; exact hc.n1, by rw [hl]; exact hc.nl, hc.cl, fun i hi => ?_, fun i hi => ?_, fun i hi => ?_, fun i hi => ?_, fun i hi => ?_, hc.cw, hc.cp⟩ <;> rw [hl] at hi
 ·rw [hat i hi]; exact J3 (hc.pr i hi) (hm i hi) b i
 ·rw [hat i hi]; unfold t1 mu; rw [uq]; exact hc.tk i hi
 ·rw [hat i hi]; unfold qF pz; rw [xn]; exact hc.pt i hi
 ·rw [hat i hi]; unfold t1 mu; rw [uq]; exact hc.td i hi
 ·rw [hat i hi]; unfold qF pz; rw [xn]; exact hc.pd i hi
theorem Gl {c : Ci} (hc : b5 c) {s : Ns} (hs : gC c s) (b : List Int) : gC c (gw c s b) := by
 refine ⟨aL _ _, hs.cl, fun i hi => ?_, hs.cv, hs.cc⟩
 have e : E4 (gw c s b) i = BS b c s i := aY hi
 rw [e]
 have h := hs.pv i hi
 have hk := (hc.pr i hi).mw
 refine ⟨h.rl, h.rv, aL _ _, fun j hj => ?_, fun j hj z hz => ?_⟩
 ·rw [show (BS b c s i).mems.getD j [] = xP b (bD c i) (jl b c i) j from aY hj]
  unfold xP
  rw [aL]
  have := (hk j hj).2.1.1
  show (((jX (bD c i) j).words.toNat : Nat) : Int) = (jX (bD c i) j).words
  omega
 ·rw [show (BS b c s i).mems.getD j [] = xP b (bD c i) (jl b c i) j from aY hj] at hz ⊢
  unfold xP at hz ⊢
  rw [aL] at hz
  rw [aY hz]
  have hw := aQ.1 (hk j hj).1
  unfold uo
  split
  ·exact Gj (by show 0 ≤ (jX (bD c i) j).w; omega) (by show (jX (bD c i) j).w ≤ 62; omega)
  ·exact ⟨Int.le_refl _, by have := cA (w := (jX (bD c i) j).w) (by omega) (by omega); exact this.1⟩
theorem yQ {p : Pr} (hp : im p) (b : List Int) (q : Nat) : ∀ k, k ≤ p.mems.length → qe b p q k ≤ q + 4 * k
 | 0, _ => Nat.le_refl _
 | k + 1, h => by
  have h1 := yQ hp b q k (by omega)
  have h2 := (hp.mw k (by omega)).2.1.2
  have : (jX p k).words = (p.mems.getD k au).words := rfl
  rw [qe]; omega
theorem Ew {c : Ci} (hc : b5 c) (b : List Int) : ∀ i, i ≤ c.procs.length → jl b c i ≤ 400 * i
 | 0, _ => Nat.le_refl _
 | i + 1, h => by
  have h1 := Ew hc b i (by omega)
  have h2 := yQ (hc.pr i (by omega)) b (jl b c i) (bD c i).mems.length (Nat.le_refl _)
  have h3 := (hc.pr i (by omega)).ml
  rw [jl]
  show qe b (bD c i) (jl b c i) (bD c i).mems.length ≤ _
  omega
end Go.Proofs.Ytnlmlkbaflmgcaa
