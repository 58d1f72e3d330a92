/-
  Circuits with memories, and states with filled memories, plain data.
-/
import Derived.Test.YtnlmlkbaflmgcaaQMjC
import Derived.Test.YtnlmlkbaflmgcaaQNeU
namespace Go.Proofs.Ytnlmlkbaflmgcaa
open Go.RowKit
set_option linter.unusedVariables false
set_option linter.unusedSimpArgs false
theorem xu {c d : Sc} : ∀ (l : List Ex) (ws : List Int), (∀ a ∈ l, ∀ w, dp c a = some w → dp d a = some w) → dp.tyL c l = some ws → dp.tyL d l = some ws
 | [], ws, _, h => by rw [dp.tyL] at h ⊢; exact h
 | a :: r, ws, hm, h => by
  rw [dp.tyL] at h
  split at h
  ·rename_i w ws' h1 h2
   cases h
   rw [dp.tyL, hm a (by simp) w h1, xu r ws' (fun x hx => hm x (by simp [hx])) h2]
  ·cases h
theorem oD {r t ms : List Int} : ∀ (n : Nat) (e : Ex) (w : Int), eC e ≤ n → dp ⟨r, [], t⟩ e = some w → dp ⟨r, ms, t⟩ e = some w
 | 0, e, w, h, _ => by have := FW e; omega
 | n + 1, e, w, h, ht => by
  obtain ⟨ws, q1, q2⟩ := fg ht
  have h1 : dp.tyL ⟨r, ms, t⟩ e.args = some ws := xu e.args ws (fun a ha v hv => oD n a v (by have := vy ha; omega) hv) q1
  cases e with
  | mk op name k w0 args =>
   rw [dp]
   simp only at h1 q2 ⊢
   rw [h1]
   simp only
   rcases q2 with ⟨a, b, c, d, e⟩ | ⟨a, b, c, d, e⟩ | ⟨a, b, c, d, e⟩ | ⟨a, b, c, d, e⟩
   ·rw [if_pos a, if_pos ⟨b, c, d⟩, e]
   ·rw [if_neg (by omega), if_pos a, if_pos ⟨b, c, d⟩, e]
   ·simp at d; omega
   ·rw [if_neg a, if_neg c, if_neg b, if_pos d, e]
theorem Hl {x : Int} {k : Nat} (h0 : 0 ≤ x) (h1 : x ≤ 255) : IntKind.wrap .u8 (Int.tdiv x (k : Int)) = x / k := by
 rw [Int.tdiv_eq_ediv_of_nonneg h0]
 have h2 : 0 ≤ x / (k : Int) := Int.ediv_nonneg h0 (by omega)
 have h3 : x / (k : Int) ≤ x := Int.ediv_le_self _ h0
 exact Kz rfl h2 (by omega)
theorem JT {n : Nat} (h : n ≤ 1000000) : IntKind.wrap .i64 (Int.tdiv (n : Int) 10) = ((n / 10 : Nat) : Int) := by
 rw [Int.tdiv_eq_ediv_of_nonneg (by omega)]
 exact qC rfl (by omega) (by omega)
theorem JU (n : Nat) : Int.tmod (n : Int) 10 = ((n % 10 : Nat) : Int) := by
 rw [Int.tmod_eq_emod_of_nonneg (by omega)]; omega
def JV : ByteArray := bs [109, 101, 109]
def AV : Ex := ⟨1, e0, ⟨0, e0⟩, ⟨1, e0⟩, []⟩
def xv (y : Int) : Int := 1 + y / 2 % 2
def pP (y : Int) : Mm := ⟨JV, xv y, [2, 1, 4, 2].getD (y / 4 % 4).toNat 0, AV, AV, ⟨1, e0, ⟨0, e0⟩, ⟨xv y, e0⟩, []⟩, ⟨1, e0, 0⟩⟩
def Gk (b : List Int) (i : Nat) : Bool := decide (i < b.length) && decide (b.getD i 0 % 2 = 1)
def jy (p : Pr) (b : List Int) (i : Nat) : Pr := if Gk b i = true then { p with mems := [pP (b.getD i 0)] } else p
def aG (c : Ci) (b : List Int) : Ci := ⟨tab (fun i => jy (c.procs.getD i ac) b i) c.procs.length, c.chans⟩
theorem Gl {b : List Int} {i : Nat} (h1 : i < b.length) (h2 : b.getD i 0 % 2 = 1) (p : Pr) : jy p b i = { p with mems := [pP (b.getD i 0)] } := by
 unfold jy Gk; rw [decide_eq_true h1, decide_eq_true h2, if_pos (by simp)]
theorem Gm {b : List Int} {i : Nat} (h1 : ¬i < b.length) (p : Pr) : jy p b i = p := by
 unfold jy Gk; rw [decide_eq_false h1, Bool.false_and, if_neg (by simp)]
theorem Gn {b : List Int} {i : Nat} (h2 : ¬b.getD i 0 % 2 = 1) (p : Pr) : jy p b i = p := by
 unfold jy Gk; rw [decide_eq_false h2, Bool.and_false, if_neg (by simp)]
def uD (b : List Int) (w : Int) (q : Nat) (z : Nat) : Int := if q + z < b.length then kx (b.getD (q + z) 0) w else 0
def qh (b : List Int) (p : Pr) (q : Nat) : Nat → Nat
 | 0 => q
 | k + 1 => qh b p q k + (p.mems.getD k ax).words.toNat
def x4 (b : List Int) (p : Pr) (q k : Nat) : List Int := tab (uD b (p.mems.getD k ax).w (qh b p q k)) (p.mems.getD k ax).words.toNat
def i9 (b : List Int) (c : Ci) : Nat → Nat
 | 0 => 0
 | i + 1 => qh b (c.procs.getD i ac) (i9 b c i) (c.procs.getD i ac).mems.length
def B7 (b : List Int) (c : Ci) (s : Ns) (i : Nat) : Ps := ⟨(s.procs.getD i aW).regs, tab (x4 b (c.procs.getD i ac) (i9 b c i)) (c.procs.getD i ac).mems.length⟩
def f8 (c : Ci) (s : Ns) (b : List Int) : Ns := ⟨tab (B7 b c s) c.procs.length, s.chans⟩
theorem oE {x w : Int} (h0 : 0 ≤ w) (h : w ≤ 62) : cg (kx x w) w := by
 unfold kx; rw [if_pos ⟨h0, h⟩]; exact oc h0 h
theorem Ip (y : Int) : aI (pP y).w = true ∧ (1 ≤ (pP y).words ∧ (pP y).words ≤ 4) := by
 refine ⟨aM.2 (by show 1 ≤ 1 + y / 2 % 2 ∧ 1 + y / 2 % 2 ≤ 8; omega), ?_⟩
 have : (y / 4 % 4).toNat = 0 ∨ (y / 4 % 4).toNat = 1 ∨ (y / 4 % 4).toNat = 2 ∨ (y / 4 % 4).toNat = 3 := by omega
 show 1 ≤ [2, 1, 4, 2].getD (y / 4 % 4).toNat 0 ∧ [2, 1, 4, 2].getD (y / 4 % 4).toNat 0 ≤ (4 : Int)
 rcases this with h | h | h | h <;> rw [h] <;> decide
theorem JW {p : Pr} (hp : gi p) (hm : p.mems = []) (b : List Int) (i : Nat) : gi (jy p b i) := by
 unfold jy
 split
 ·have hs : lC p = ⟨p.regs.map (·.w), [], p.takes.map (·.w)⟩ := by unfold lC; rw [hm]; rfl
  have hn : HO p = ⟨p.regs.map (·.w), [], []⟩ := by unfold HO; rw [hm]; rfl
  generalize hy : b.getD i 0 = y
  have hk := Ip y
  refine ⟨hp.rl, by simp, hp.tl, hp.pl, fun j hj => ?_, fun j hj => ?_, fun j hj => ?_, fun j hj => ?_⟩
  ·have := hp.rw j hj
   rw [hs] at this
   exact ⟨this.1, this.2.1, oD _ _ _ (Nat.le_refl _) this.2.2.1, this.2.2.2⟩
  ·have : j = 0 := by have : j < 1 := hj; omega
   subst this
   refine ⟨hk.1, hk.2, ⟨rfl, by show eC AV ≤ 3; decide⟩, ⟨⟨1, rfl⟩, by show eC AV ≤ 3; decide⟩, ?_, ?_⟩
   ·show dp _ ⟨1, e0, ⟨0, e0⟩, ⟨xv y, e0⟩, []⟩ = some (xv y)
    have : xv y = 1 ∨ xv y = 2 := by unfold xv; omega
    rcases this with h | h <;> rw [h] <;> rfl
   ·show eC ⟨1, e0, ⟨0, e0⟩, ⟨xv y, e0⟩, []⟩ ≤ 3
    simp [eC, eC.depL]
  ·have := hp.tw j hj
   rw [hn] at this
   exact ⟨this.1, oD _ _ _ (Nat.le_refl _) this.2.1, this.2.2⟩
  ·have := hp.pw j hj
   rw [hs] at this
   exact ⟨this.1, ⟨oD _ _ _ (Nat.le_refl _) this.2.1.1, this.2.1.2⟩, oD _ _ _ (Nat.le_refl _) this.2.2.1, this.2.2.2⟩
 ·exact hp
theorem uE (p : Pr) (b : List Int) (i : Nat) : (jy p b i).takes = p.takes := by unfold jy; split <;> rfl
theorem xw (p : Pr) (b : List Int) (i : Nat) : (jy p b i).puts = p.puts := by unfold jy; split <;> rfl
theorem Eu (p : Pr) (b : List Int) (i : Nat) : (jy p b i).regs = p.regs := by unfold jy; split <;> rfl
theorem Ew (p : Pr) (b : List Int) (i : Nat) : (jy p b i).name = p.name := by unfold jy; split <;> rfl
theorem xx (c : Ci) (b : List Int) : (aG c b).procs.length = c.procs.length := aJ _ _
theorem AW {c : Ci} {b : List Int} {i : Nat} (h : i < c.procs.length) : (aG c b).procs.getD i ac = jy (c.procs.getD i ac) b i := aL h
theorem Gp {c : Ci} (hc : bS c) (hm : ∀ i, i < c.procs.length → (aZ c i).mems = []) (b : List Int) : bS (aG c b) := by
 have hl := xx c b
 have hat : ∀ i, i < c.procs.length → aZ (aG c b) i = jy (aZ c i) b i := fun i hi => AW hi
 refine ⟨by rw [hl]; exact hc.n1, by rw [hl]; exact hc.nl, hc.cl, fun i hi => ?_, fun i hi => ?_, fun i hi => ?_, fun i hi => ?_, fun i hi => ?_, hc.cw, hc.cp⟩ <;> rw [hl] at hi
 ·rw [hat i hi]; exact JW (hc.pr i hi) (hm i hi) b i
 ·rw [hat i hi]; unfold ue mi; rw [uE]; exact hc.tk i hi
 ·rw [hat i hi]; unfold qI pC; rw [xw]; exact hc.pt i hi
 ·rw [hat i hi]; unfold ue mi; rw [uE]; exact hc.td i hi
 ·rw [hat i hi]; unfold qI pC; rw [xw]; exact hc.pd i hi
theorem Gq {c : Ci} (hc : bS c) {s : Ns} (hs : er c s) (b : List Int) : er c (f8 c s b) := by
 refine ⟨aJ _ _, hs.cl, fun i hi => ?_, hs.cv, hs.cc⟩
 have e : xZ (f8 c s b) i = B7 b c s i := aL hi
 rw [e]
 have h := hs.pv i hi
 have hk := (hc.pr i hi).mw
 refine ⟨h.rl, h.rv, aJ _ _, fun j hj => ?_, fun j hj z hz => ?_⟩
 ·rw [show (B7 b c s i).mems.getD j [] = x4 b (aZ c i) (i9 b c i) j from aL hj]
  unfold x4
  rw [aJ]
  have := (hk j hj).2.1.1
  show (((dK (aZ c i) j).words.toNat : Nat) : Int) = (dK (aZ c i) j).words
  omega
 ·rw [show (B7 b c s i).mems.getD j [] = x4 b (aZ c i) (i9 b c i) j from aL hj] at hz ⊢
  unfold x4 at hz ⊢
  rw [aJ] at hz
  rw [aL hz]
  have hw := aM.1 (hk j hj).1
  unfold uD
  split
  ·exact oE (by show 0 ≤ (dK (aZ c i) j).w; omega) (by show (dK (aZ c i) j).w ≤ 62; omega)
  ·exact ⟨Int.le_refl _, by have := b7 (w := (dK (aZ c i) j).w) (by omega) (by omega); exact this.1⟩
theorem zc {p : Pr} (hp : gi p) (b : List Int) (q : Nat) : ∀ k, k ≤ p.mems.length → qh b p q k ≤ q + 4 * k
 | 0, _ => Nat.le_refl _
 | k + 1, h => by
  have h1 := zc hp b q k (by omega)
  have h2 := (hp.mw k (by omega)).2.1.2
  have : (dK p k).words = (p.mems.getD k ax).words := rfl
  rw [qh]; omega
theorem Ey {c : Ci} (hc : bS c) (b : List Int) : ∀ i, i ≤ c.procs.length → i9 b c i ≤ 400 * i
 | 0, _ => Nat.le_refl _
 | i + 1, h => by
  have h1 := Ey hc b i (by omega)
  have h2 := zc (hc.pr i (by omega)) b (i9 b c i) (aZ c i).mems.length (Nat.le_refl _)
  have h3 := (hc.pr i (by omega)).ml
  rw [i9]
  show qh b (aZ c i) (i9 b c i) (aZ c i).mems.length ≤ _
  omega
end Go.Proofs.Ytnlmlkbaflmgcaa
