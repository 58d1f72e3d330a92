/-
  The laws of networks, plain data: the circuit of the examples.
-/
import Derived.Test.YtifoecfajmnjjaaGreatQNeQ
namespace Go.Proofs.YtifoecfajmnjjaaGreat
open Go.RowKit
set_option linter.unusedVariables false
set_option linter.unusedSimpArgs false
def H9 : Ex := ⟨18, e0, dN, dN, []⟩
def v3 (k : Nat) : Pr := ⟨[bs [112], bs [113]].getD k .empty, [bs [97], bs [98]].getD k .empty, [], [], [⟨(k : Int), 2, fm⟩], [⟨(k : Int) + 1, 2, fm, H9⟩]⟩
def ab : Ci := ⟨ap v3 2, [⟨bs [105, 110], 2, 0, -1, 0⟩, ⟨bs [99], 2, 1, 0, 1⟩, ⟨bs [111, 117, 116], 2, 0, 1, -1⟩]⟩
set_option maxRecDepth 100000
theorem Em (c : Sc) : ex c fm = some 1 ∧ eX fm ≤ 3 := by
 constructor
 ·rfl
 ·decide
theorem Ia (k : Nat) : fq (v3 k) where
 rl := by simp [v3]
 ml := by simp [v3]
 tl := by simp [v3]
 pl := by simp [v3]
 rw := fun i hi => by simp [v3] at hi
 mw := fun i hi => by simp [v3] at hi
 tw := fun i hi => by
  have : i = 0 := by simp [v3] at hi; exact hi
  subst this
  exact ⟨rfl, Em _⟩
 pw := fun i hi => by
  have : i = 0 := by simp [v3] at hi; exact hi
  subst this
  exact ⟨rfl, Em _, rfl, show eX H9 ≤ 3 by decide⟩
theorem b4 : bM ab := by
 have h2 : ab.procs.length = 2 := rfl
 have h3 : ab.chans.length = 3 := rfl
 have c2 : ∀ i, i < 2 → i = 0 ∨ i = 1 := fun i hi => by omega
 have c3 : ∀ i, i < 3 → i = 0 ∨ i = 1 ∨ i = 2 := fun i hi => by omega
 refine ⟨by decide, by decide, by decide, fun i hi => ?_, fun i hi j hj => ?_, fun i hi j hj => ?_, fun i hi j k hj hk _ => ?_, fun i hi j k hj hk _ => ?_, fun n hn => ?_, fun n hn => ?_⟩
 ·rw [h2] at hi
  rcases c2 i hi with rfl | rfl <;> exact Ia _
 ·rw [h2] at hi
  rcases c2 i hi with rfl | rfl
  ·have : j = 0 := by have : j < 1 := hj; omega
   subst this; decide
  ·have : j = 0 := by have : j < 1 := hj; omega
   subst this; decide
 ·rw [h2] at hi
  rcases c2 i hi with rfl | rfl
  ·have : j = 0 := by have : j < 1 := hj; omega
   subst this; decide
  ·have : j = 0 := by have : j < 1 := hj; omega
   subst this; decide
 ·rw [h2] at hi
  rcases c2 i hi with rfl | rfl
  ·have : j < 1 := hj
   have : k < 1 := hk
   omega
  ·have : j < 1 := hj
   have : k < 1 := hk
   omega
 ·rw [h2] at hi
  rcases c2 i hi with rfl | rfl
  ·have : j < 1 := hj
   have : k < 1 := hk
   omega
  ·have : j < 1 := hj
   have : k < 1 := hk
   omega
 ·rw [h3] at hn
  rcases c3 n hn with rfl | rfl | rfl <;> rfl
 ·rw [h3] at hn
  rcases c3 n hn with rfl | rfl | rfl <;> decide
def x0 : Ns := av ab
def x1 : Ns := (aF ab x0 0 [1, 2]).1
theorem Ib : aZ ab x0 = true := by decide
theorem Ic : aZ ab x1 = true := by decide
theorem JS : (aF ab x0 0 [1, 2]).2 = 0 := by decide
def wA : Nat → Bool := fun q => decide (q = 0)
def xa : Ns := aA ab x1 wA
theorem Ie : aZ ab xa = true := by decide
theorem JT : cr ab x0 := eH.1 Ib
theorem xC : cr ab x1 := eH.1 Ic
theorem Ig : cr ab xa := eH.1 Ie
def xb : Ns := aA ab xa wA
theorem Ih : aZ ab xb = true := by decide
theorem Ii : cr ab xb := eH.1 Ih
def Ij : Nat → Bool := fun q => decide (q = 1)
def xe : Ns := (b8 ab x1 10).1
theorem GR : aZ ab xe = true := by decide
theorem JU : cr ab xe := eH.1 GR
theorem rA : (bs [97]).toList = [97] ∧ (bs [98]).toList = [98] := by constructor <;> simp [bs]
theorem FQ : li (aI ab (bs [97])) 2 = li wA 2 := funext fun q => by
 unfold li aI wA
 by_cases h0 : q = 0
 ·subst h0
  show ((bs [97]).toList == (bs [97]).toList && decide (0 < 2)) = _
  simp
 ·by_cases h1 : q = 1
  ·subst h1
   show ((bs [98]).toList == (bs [97]).toList && decide (1 < 2)) = _
   rw [rA.1, rA.2]; rfl
  ·rw [decide_eq_false (show ¬q < 2 by omega), Bool.and_false, Bool.and_false]
theorem FR : li (aI ab (bs [98])) 2 = li Ij 2 := funext fun q => by
 unfold li aI Ij
 by_cases h0 : q = 0
 ·subst h0
  show ((bs [97]).toList == (bs [98]).toList && decide (0 < 2)) = _
  rw [rA.1, rA.2]; rfl
 ·by_cases h1 : q = 1
  ·subst h1
   show ((bs [98]).toList == (bs [98]).toList && decide (1 < 2)) = _
   simp
  ·rw [decide_eq_false (show ¬q < 2 by omega), Bool.and_false, Bool.and_false]
theorem xD (c : Ci) (s : Ns) (f g : Nat → Bool) (n : Nat) (h : li f n = li g n) : ap (aq c s f) n = ap (aq c s g) n := gL (fun i hi => by
 have := congrFun h i
 unfold li at this
 rw [decide_eq_true hi, Bool.and_true, Bool.and_true] at this
 unfold aq; rw [this])
theorem FS {s : Ns} (hs : cr ab s) : aA ab s (aI ab (bs [97])) = aA ab s wA ∧ ap (aq ab s (aI ab (bs [97]))) ab.procs.length = ap (aq ab s wA) 2 := by
 refine ⟨?_, xD _ _ _ _ 2 FQ⟩
 have e : ab.procs.length = 2 := rfl
 rw [lU hs, e, FQ, ← e, ← lU hs]
theorem Ik {s : Ns} (hs : cr ab s) : aA ab s (aI ab (bs [98])) = aA ab s Ij ∧ ap (aq ab s (aI ab (bs [98]))) ab.procs.length = ap (aq ab s Ij) 2 := by
 refine ⟨?_, xD _ _ _ _ 2 FR⟩
 have e : ab.procs.length = 2 := rfl
 rw [lU hs, e, FR, ← e, ← lU hs]
theorem JV : ap (aq ab x1 wA) 2 = [true, false] := by decide
theorem JW : ap (aq ab xa wA) 2 = [false, false] := by decide
theorem JX : ap (aq ab xb Ij) 2 = [false, true] := by decide
theorem JY : (b8 ab x1 10).2.2 = 0 := by decide
theorem JZ : (b8 ab x1 10).2.1 = [2, 2] := by decide
theorem GS : xa.chans.length = 3 ∧ xa.chans.getD 1 [] = [1] := by decide
theorem x8 : (ca ab xe 2).2.2 = 0 ∧ (ca ab xe 2).1 = [1, 2] := by decide
theorem x3 : (b8 ab x1 3).2.2 = 7 := by decide
theorem GT : cM ab x1 0 = true ∧ cM ab x1 1 = false ∧ cM ab x1 2 = false := by decide
theorem Kg : aZ ab ⟨[], []⟩ = false := by decide
theorem x4 : (aF ab x1 0 [4]).2 = 1 := by decide
theorem uq {s : Ns} {k : Nat} (h : s.chans.all (fun l => decide (l.length ≤ k)) = true) : i7 s k := fun n => by
 by_cases hn : n < s.chans.length
 ·rw [List.all_eq_true] at h
  have := h _ (t4 (d := []) hn)
  simpa using this
 ·show (s.chans.getD n []).length ≤ k
  rw [List.getD, List.getElem?_eq_none (by omega)]; simp
theorem Il : i7 x0 10 := uq (by decide)
theorem Eo : i7 x1 10 := uq (by decide)
theorem Im : i7 xa 10 := uq (by decide)
theorem Io : i7 xb 10 := uq (by decide)
theorem GU : i7 xe 10 := uq (by decide)
theorem dj {s : Ns} {k m : Nat} (h : i7 s k) (hk : k ≤ m) : i7 s m := fun n => Nat.le_trans (h n) hk
end Go.Proofs.YtifoecfajmnjjaaGreat
