/-
  The laws of networks, plain data: the circuit of the examples.
-/
import Derived.Test.YtifoecfajmnjjaaGreatQNeQ
namespace Go.Proofs.YtifoecfajmnjjaaGreat
open Go.RowKit
set_option linter.unusedVariables false
set_option linter.unusedSimpArgs false
def Jv : Ex := ⟨18, e0, dN, dN, []⟩
def xg (k : Nat) : Pr := ⟨[bs [112], bs [113]].getD k .empty, [bs [97], bs [98]].getD k .empty, [], [], [⟨(k : Int), 2, fA⟩], [⟨(k : Int) + 1, 2, fA, Jv⟩]⟩
def ac : Ci := ⟨aq xg 2, [⟨bs [105, 110], 2, 0, -1, 0⟩, ⟨bs [99], 2, 1, 0, 1⟩, ⟨bs [111, 117, 116], 2, 0, 1, -1⟩]⟩
set_option maxRecDepth 100000
theorem Fy (c : Sc) : eK c fA = some 1 ∧ ff fA ≤ 3 := by
 constructor
 ·rfl
 ·decide
theorem Jw (k : Nat) : fM (xg k) where
 rl := by simp [xg]
 ml := by simp [xg]
 tl := by simp [xg]
 pl := by simp [xg]
 rw := fun i hi => by simp [xg] at hi
 mw := fun i hi => by simp [xg] at hi
 tw := fun i hi => by
  have : i = 0 := by simp [xg] at hi; exact hi
  subst this
  exact ⟨rfl, Fy _⟩
 pw := fun i hi => by
  have : i = 0 := by simp [xg] at hi; exact hi
  subst this
  exact ⟨rfl, Fy _, rfl, show ff Jv ≤ 3 by decide⟩
theorem b7 : bK ac := by
 have h2 : ac.procs.length = 2 := rfl
 have h3 : ac.chans.length = 3 := rfl
 have c2 : ∀ i, i < 2 → i = 0 ∨ i = 1 := fun i hi => by omega
 have c3 : ∀ i, i < 3 → i = 0 ∨ i = 1 ∨ i = 2 := fun i hi => by omega
 refine ⟨by decide, by decide, by decide, fun i hi => ?_, fun i hi j hj => ?_, fun i hi j hj => ?_, fun i hi j k hj hk _ => ?_, fun i hi j k hj hk _ => ?_, fun n hn => ?_, fun n hn => ?_⟩
 ·rw [h2] at hi
  rcases c2 i hi with rfl | rfl <;> exact Jw _
 ·rw [h2] at hi
  rcases c2 i hi with rfl | rfl
  ·have : j = 0 := by have : j < 1 := hj; omega
   subst this; decide
  ·have : j = 0 := by have : j < 1 := hj; omega
   subst this; decide
 ·rw [h2] at hi
  rcases c2 i hi with rfl | rfl
  ·have : j = 0 := by have : j < 1 := hj; omega
   subst this; decide
  ·have : j = 0 := by have : j < 1 := hj; omega
   subst this; decide
 ·rw [h2] at hi
  rcases c2 i hi with rfl | rfl
  ·have : j < 1 := hj
   have : k < 1 := hk
   omega
  ·have : j < 1 := hj
   have : k < 1 := hk
   omega
 ·rw [h2] at hi
  rcases c2 i hi with rfl | rfl
  ·have : j < 1 := hj
   have : k < 1 := hk
   omega
  ·have : j < 1 := hj
   have : k < 1 := hk
   omega
 ·rw [h3] at hn
  rcases c3 n hn with rfl | rfl | rfl <;> rfl
 ·rw [h3] at hn
  rcases c3 n hn with rfl | rfl | rfl <;> decide
def x0 : Ns := ao ac
def x1 : Ns := (ak ac x0 0 [1, 2]).1
theorem Jx : aV ac x0 = true := by decide
theorem Jy : aV ac x1 = true := by decide
theorem K0 : (ak ac x0 0 [1, 2]).2 = 0 := by decide
def wA : Nat → Bool := fun q => decide (q = 0)
def xa : Ns := aD ac x1 wA
theorem Jz : aV ac xa = true := by decide
theorem K1 : bX ac x0 := iw.1 Jx
theorem yK : bX ac x1 := iw.1 Jy
theorem JA : bX ac xa := iw.1 Jz
def xb : Ns := aD ac xa wA
theorem JB : aV ac xb = true := by decide
theorem JC : bX ac xb := iw.1 JB
def JD : Nat → Bool := fun q => decide (q = 1)
def xe : Ns := (aQ ac x1 10).1
theorem H8 : aV ac xe = true := by decide
theorem K2 : bX ac xe := iw.1 H8
theorem sA : (bs [97]).toList = [97] ∧ (bs [98]).toList = [98] := by constructor <;> simp [bs]
theorem G3 : kZ (aF ac (bs [97])) 2 = kZ wA 2 := funext fun q => by
 unfold kZ aF wA
 by_cases h0 : q = 0
 ·subst h0
  show ((bs [97]).toList == (bs [97]).toList && decide (0 < 2)) = _
  simp
 ·by_cases h1 : q = 1
  ·subst h1
   show ((bs [98]).toList == (bs [97]).toList && decide (1 < 2)) = _
   rw [sA.1, sA.2]; rfl
  ·rw [decide_eq_false (show ¬q < 2 by omega), Bool.and_false, Bool.and_false]
theorem G4 : kZ (aF ac (bs [98])) 2 = kZ JD 2 := funext fun q => by
 unfold kZ aF JD
 by_cases h0 : q = 0
 ·subst h0
  show ((bs [97]).toList == (bs [98]).toList && decide (0 < 2)) = _
  rw [sA.1, sA.2]; rfl
 ·by_cases h1 : q = 1
  ·subst h1
   show ((bs [98]).toList == (bs [98]).toList && decide (1 < 2)) = _
   simp
  ·rw [decide_eq_false (show ¬q < 2 by omega), Bool.and_false, Bool.and_false]
theorem yL (c : Ci) (s : Ns) (f g : Nat → Bool) (n : Nat) (h : kZ f n = kZ g n) : aq (ax c s f) n = aq (ax c s g) n := mj (fun i hi => by
 have := congrFun h i
 unfold kZ at this
 rw [decide_eq_true hi, Bool.and_true, Bool.and_true] at this
 unfold ax; rw [this])
theorem G5 {s : Ns} (hs : bX ac s) : aD ac s (aF ac (bs [97])) = aD ac s wA ∧ aq (ax ac s (aF ac (bs [97]))) ac.procs.length = aq (ax ac s wA) 2 := by
 refine ⟨?_, yL _ _ _ _ 2 G3⟩
 have e : ac.procs.length = 2 := rfl
 rw [pQ hs, e, G3, ← e, ← pQ hs]
theorem JE {s : Ns} (hs : bX ac s) : aD ac s (aF ac (bs [98])) = aD ac s JD ∧ aq (ax ac s (aF ac (bs [98]))) ac.procs.length = aq (ax ac s JD) 2 := by
 refine ⟨?_, yL _ _ _ _ 2 G4⟩
 have e : ac.procs.length = 2 := rfl
 rw [pQ hs, e, G4, ← e, ← pQ hs]
theorem K3 : aq (ax ac x1 wA) 2 = [true, false] := by decide
theorem K4 : aq (ax ac xa wA) 2 = [false, false] := by decide
theorem K5 : aq (ax ac xb JD) 2 = [false, true] := by decide
theorem K6 : (aQ ac x1 10).2.2 = 0 := by decide
theorem K7 : (aQ ac x1 10).2.1 = [2, 2] := by decide
theorem H9 : xa.chans.length = 3 ∧ xa.chans.getD 1 [] = [1] := by decide
theorem x8 : (aH ac xe 2).2.2 = 0 ∧ (aH ac xe 2).1 = [1, 2] := by decide
theorem x3 : (aQ ac x1 3).2.2 = 7 := by decide
theorem Ia : cf ac x1 0 = true ∧ cf ac x1 1 = false ∧ cf ac x1 2 = false := by decide
theorem Lq : aV ac ⟨[], []⟩ = false := by decide
theorem x4 : (ak ac x1 0 [4]).2 = 1 := by decide
theorem vA {s : Ns} {k : Nat} (h : s.chans.all (fun l => decide (l.length ≤ k)) = true) : fD s k := fun n => by
 by_cases hn : n < s.chans.length
 ·rw [List.all_eq_true] at h
  have := h _ (ve (d := []) hn)
  simpa using this
 ·show (s.chans.getD n []).length ≤ k
  rw [List.getD, List.getElem?_eq_none (by omega)]; simp
theorem JF : fD x0 10 := vA (by decide)
theorem FA : fD x1 10 := vA (by decide)
theorem JG : fD xa 10 := vA (by decide)
theorem JH : fD xb 10 := vA (by decide)
theorem Ib : fD xe 10 := vA (by decide)
abbrev wr (x : Int) : Int := IntKind.wrap .i64 x
def JI (s : Ns) (i : Nat) (a : Int) : Int := wr (a + wr (((s.procs.getD i a7).regs.length : Int) + ((s.procs.getD i a7).mems.length : Int)))
def Ic (s : Ns) (i : Nat) (a : Int) : Nat → Int
 | 0 => a
 | k + 1 => wr (Ic s i a k + (((s.procs.getD i a7).mems.getD k []).length : Int))
def Dc (s : Ns) : Nat → Int
 | 0 => wr ((s.procs.length : Int) + (s.chans.length : Int))
 | i + 1 => Ic s i (JI s i (Dc s i)) (s.procs.getD i a7).mems.length
def Ie (s : Ns) (a : Int) : Nat → Int
 | 0 => a
 | n + 1 => wr (Ie s a n + ((s.chans.getD n []).length : Int))
def Ar (s : Ns) : Int := Ie s (Dc s s.procs.length) s.chans.length
theorem bw {s : Ns} {k m : Nat} (h : fD s k) (hk : k ≤ m) : fD s m := fun n => Nat.le_trans (h n) hk
end Go.Proofs.YtifoecfajmnjjaaGreat
