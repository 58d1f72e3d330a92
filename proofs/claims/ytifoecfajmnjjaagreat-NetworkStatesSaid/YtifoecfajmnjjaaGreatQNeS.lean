/-
  The laws of networks, plain data: the circuit of the examples.
-/
import Derived.Test.YtifoecfajmnjjaaGreatQNeQ
namespace Go.Proofs.YtifoecfajmnjjaaGreat
open Go.RowKit
set_option linter.unusedVariables false
set_option linter.unusedSimpArgs false
def HX : Ex := ⟨18, e0, dN, dN, []⟩
def wc (k : Nat) : Pr := ⟨[bs [112], bs [113]].getD k .empty, [bs [97], bs [98]].getD k .empty, [], [], [⟨(k : Int), 2, fF⟩], [⟨(k : Int) + 1, 2, fF, HX⟩]⟩
def ac : Ci := ⟨an wc 2, [⟨bs [105, 110], 2, 0, -1, 0⟩, ⟨bs [99], 2, 1, 0, 1⟩, ⟨bs [111, 117, 116], 2, 0, 1, -1⟩]⟩
set_option maxRecDepth 100000
theorem Eo (c : Sc) : eH c fF = some 1 ∧ fq fF ≤ 3 := by
 constructor
 ·rfl
 ·decide
theorem HY (k : Nat) : fS (wc k) where
 rl := by simp [wc]
 ml := by simp [wc]
 tl := by simp [wc]
 pl := by simp [wc]
 rw := fun i hi => by simp [wc] at hi
 mw := fun i hi => by simp [wc] at hi
 tw := fun i hi => by
  have : i = 0 := by simp [wc] at hi; exact hi
  subst this
  exact ⟨rfl, Eo _⟩
 pw := fun i hi => by
  have : i = 0 := by simp [wc] at hi; exact hi
  subst this
  exact ⟨rfl, Eo _, rfl, show fq HX ≤ 3 by decide⟩
theorem b5 : bR ac := by
 have h2 : ac.procs.length = 2 := rfl
 have h3 : ac.chans.length = 3 := rfl
 have c2 : ∀ i, i < 2 → i = 0 ∨ i = 1 := fun i hi => by omega
 have c3 : ∀ i, i < 3 → i = 0 ∨ i = 1 ∨ i = 2 := fun i hi => by omega
 refine ⟨by decide, by decide, by decide, fun i hi => ?_, fun i hi j hj => ?_, fun i hi j hj => ?_, fun i hi j k hj hk _ => ?_, fun i hi j k hj hk _ => ?_, fun n hn => ?_, fun n hn => ?_⟩
 ·rw [h2] at hi
  rcases c2 i hi with rfl | rfl <;> exact HY _
 ·rw [h2] at hi
  rcases c2 i hi with rfl | rfl
  ·have : j = 0 := by have : j < 1 := hj; omega
   subst this; decide
  ·have : j = 0 := by have : j < 1 := hj; omega
   subst this; decide
 ·rw [h2] at hi
  rcases c2 i hi with rfl | rfl
  ·have : j = 0 := by have : j < 1 := hj; omega
   subst this; decide
  ·have : j = 0 := by have : j < 1 := hj; omega
   subst this; decide
 ·rw [h2] at hi
  rcases c2 i hi with rfl | rfl
  ·have : j < 1 := hj
   have : k < 1 := hk
   omega
  ·have : j < 1 := hj
   have : k < 1 := hk
   omega
 ·rw [h2] at hi
  rcases c2 i hi with rfl | rfl
  ·have : j < 1 := hj
   have : k < 1 := hk
   omega
  ·have : j < 1 := hj
   have : k < 1 := hk
   omega
 ·rw [h3] at hn
  rcases c3 n hn with rfl | rfl | rfl <;> rfl
 ·rw [h3] at hn
  rcases c3 n hn with rfl | rfl | rfl <;> decide
def x0 : Ns := az ac
def x1 : Ns := (aI ac x0 0 [1, 2]).1
theorem HZ : a4 ac x0 = true := by decide
theorem H0 : a4 ac x1 = true := by decide
theorem JH : (aI ac x0 0 [1, 2]).2 = 0 := by decide
def wA : Nat → Bool := fun q => decide (q = 0)
def xa : Ns := aD ac x1 wA
theorem H2 : a4 ac xa = true := by decide
theorem JI : cT ac x0 := dC.1 HZ
theorem xJ : cT ac x1 := dC.1 H0
theorem H3 : cT ac xa := dC.1 H2
def xb : Ns := aD ac xa wA
theorem H4 : a4 ac xb = true := by decide
theorem H5 : cT ac xb := dC.1 H4
def H6 : Nat → Bool := fun q => decide (q = 1)
def xe : Ns := (cb ac x1 10).1
theorem GR : a4 ac xe = true := by decide
theorem JJ : cT ac xe := dC.1 GR
theorem rR : (bs [97]).toList = [97] ∧ (bs [98]).toList = [98] := by constructor <;> simp [bs]
theorem FR : mX (am ac (bs [97])) 2 = mX wA 2 := funext fun q => by
 unfold mX am wA
 by_cases h0 : q = 0
 ·subst h0
  show ((bs [97]).toList == (bs [97]).toList && decide (0 < 2)) = _
  simp
 ·by_cases h1 : q = 1
  ·subst h1
   show ((bs [98]).toList == (bs [97]).toList && decide (1 < 2)) = _
   rw [rR.1, rR.2]; rfl
  ·rw [decide_eq_false (show ¬q < 2 by omega), Bool.and_false, Bool.and_false]
theorem FS : mX (am ac (bs [98])) 2 = mX H6 2 := funext fun q => by
 unfold mX am H6
 by_cases h0 : q = 0
 ·subst h0
  show ((bs [97]).toList == (bs [98]).toList && decide (0 < 2)) = _
  rw [rR.1, rR.2]; rfl
 ·by_cases h1 : q = 1
  ·subst h1
   show ((bs [98]).toList == (bs [98]).toList && decide (1 < 2)) = _
   simp
  ·rw [decide_eq_false (show ¬q < 2 by omega), Bool.and_false, Bool.and_false]
theorem xK (c : Ci) (s : Ns) (f g : Nat → Bool) (n : Nat) (h : mX f n = mX g n) : an (ai c s f) n = an (ai c s g) n := qy (fun i hi => by
 have := congrFun h i
 unfold mX at this
 rw [decide_eq_true hi, Bool.and_true, Bool.and_true] at this
 unfold ai; rw [this])
theorem FT {s : Ns} (hs : cT ac s) : aD ac s (am ac (bs [97])) = aD ac s wA ∧ an (ai ac s (am ac (bs [97]))) ac.procs.length = an (ai ac s wA) 2 := by
 refine ⟨?_, xK _ _ _ _ 2 FR⟩
 have e : ac.procs.length = 2 := rfl
 rw [rE hs, e, FR, ← e, ← rE hs]
theorem H7 {s : Ns} (hs : cT ac s) : aD ac s (am ac (bs [98])) = aD ac s H6 ∧ an (ai ac s (am ac (bs [98]))) ac.procs.length = an (ai ac s H6) 2 := by
 refine ⟨?_, xK _ _ _ _ 2 FS⟩
 have e : ac.procs.length = 2 := rfl
 rw [rE hs, e, FS, ← e, ← rE hs]
theorem JK : an (ai ac x1 wA) 2 = [true, false] := by decide
theorem JL : an (ai ac xa wA) 2 = [false, false] := by decide
theorem JM : an (ai ac xb H6) 2 = [false, true] := by decide
theorem JN : (cb ac x1 10).2.2 = 0 := by decide
theorem JO : (cb ac x1 10).2.1 = [2, 2] := by decide
theorem GS : xa.chans.length = 3 ∧ xa.chans.getD 1 [] = [1] := by decide
theorem x8 : (ci ac xe 2).2.2 = 0 ∧ (ci ac xe 2).1 = [1, 2] := by decide
theorem x3 : (cb ac x1 3).2.2 = 7 := by decide
theorem GT : dj ac x1 0 = true ∧ dj ac x1 1 = false ∧ dj ac x1 2 = false := by decide
theorem J5 : a4 ac ⟨[], []⟩ = false := by decide
theorem x4 : (aI ac x1 0 [4]).2 = 1 := by decide
theorem uH {s : Ns} {k : Nat} (h : s.chans.all (fun l => decide (l.length ≤ k)) = true) : kO s k := fun n => by
 by_cases hn : n < s.chans.length
 ·rw [List.all_eq_true] at h
  have := h _ (ut (d := []) hn)
  simpa using this
 ·show (s.chans.getD n []).length ≤ k
  rw [List.getD, List.getElem?_eq_none (by omega)]; simp
theorem H8 : kO x0 10 := uH (by decide)
theorem Ep : kO x1 10 := uH (by decide)
theorem H9 : kO xa 10 := uH (by decide)
theorem Ia : kO xb 10 := uH (by decide)
theorem GU : kO xe 10 := uH (by decide)
theorem bM {s : Ns} {k m : Nat} (h : kO s k) (hk : k ≤ m) : kO s m := fun n => Nat.le_trans (h n) hk
end Go.Proofs.YtifoecfajmnjjaaGreat
