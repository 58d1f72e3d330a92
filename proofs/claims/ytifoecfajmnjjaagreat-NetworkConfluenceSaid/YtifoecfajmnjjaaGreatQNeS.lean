/-
  The laws of networks, plain data: the circuit of the examples.
-/
import Derived.Test.YtifoecfajmnjjaaGreatQNeQ
namespace Go.Proofs.YtifoecfajmnjjaaGreat
open Go.RowKit
set_option linter.unusedVariables false
set_option linter.unusedSimpArgs false
def Nh : Ex := ⟨18, e0, dN, dN, []⟩
def Ai (k : Nat) : Pr := ⟨[bs [112], bs [113]].getD k .empty, [bs [97], bs [98]].getD k .empty, [], [], [⟨(k : Int), 2, ip⟩], [⟨(k : Int) + 1, 2, ip, Nh⟩]⟩
def ae : Ci := ⟨ao Ai 2, [⟨bs [105, 110], 2, 0, -1, 0⟩, ⟨bs [99], 2, 1, 0, 1⟩, ⟨bs [111, 117, 116], 2, 0, 1, -1⟩]⟩
set_option maxRecDepth 100000
theorem I5 (c : Sc) : gi c ip = some 1 ∧ hT ip ≤ 3 := by
 constructor
 ·rfl
 ·decide
theorem Ni (k : Nat) : iA (Ai k) where
 rl := by simp [Ai]
 ml := by simp [Ai]
 tl := by simp [Ai]
 pl := by simp [Ai]
 rw := fun i hi => by simp [Ai] at hi
 mw := fun i hi => by simp [Ai] at hi
 tw := fun i hi => by
  have : i = 0 := by simp [Ai] at hi; exact hi
  subst this
  exact ⟨rfl, I5 _⟩
 pw := fun i hi => by
  have : i = 0 := by simp [Ai] at hi; exact hi
  subst this
  exact ⟨rfl, I5 _, rfl, show hT Nh ≤ 3 by decide⟩
theorem cM : bo ae := by
 have h2 : ae.procs.length = 2 := rfl
 have h3 : ae.chans.length = 3 := rfl
 have c2 : ∀ i, i < 2 → i = 0 ∨ i = 1 := fun i hi => by omega
 have c3 : ∀ i, i < 3 → i = 0 ∨ i = 1 ∨ i = 2 := fun i hi => by omega
 refine ⟨by decide, by decide, by decide, fun i hi => ?_, fun i hi j hj => ?_, fun i hi j hj => ?_, fun i hi j k hj hk _ => ?_, fun i hi j k hj hk _ => ?_, fun n hn => ?_, fun n hn => ?_⟩
 ·rw [h2] at hi
  rcases c2 i hi with rfl | rfl <;> exact Ni _
 ·rw [h2] at hi
  rcases c2 i hi with rfl | rfl
  ·have : j = 0 := by have : j < 1 := hj; omega
   subst this; decide
  ·have : j = 0 := by have : j < 1 := hj; omega
   subst this; decide
 ·rw [h2] at hi
  rcases c2 i hi with rfl | rfl
  ·have : j = 0 := by have : j < 1 := hj; omega
   subst this; decide
  ·have : j = 0 := by have : j < 1 := hj; omega
   subst this; decide
 ·rw [h2] at hi
  rcases c2 i hi with rfl | rfl
  ·have : j < 1 := hj
   have : k < 1 := hk
   omega
  ·have : j < 1 := hj
   have : k < 1 := hk
   omega
 ·rw [h2] at hi
  rcases c2 i hi with rfl | rfl
  ·have : j < 1 := hj
   have : k < 1 := hk
   omega
  ·have : j < 1 := hj
   have : k < 1 := hk
   omega
 ·rw [h3] at hn
  rcases c3 n hn with rfl | rfl | rfl <;> rfl
 ·rw [h3] at hn
  rcases c3 n hn with rfl | rfl | rfl <;> decide
def x0 : Ns := az ae
def x1 : Ns := (am ae x0 0 [1, 2]).1
theorem Nj : aP ae x0 = true := by decide
theorem Nk : aP ae x1 = true := by decide
theorem OS : (am ae x0 0 [1, 2]).2 = 0 := by decide
def wA : Nat → Bool := fun q => decide (q = 0)
def xa : Ns := ak ae x1 wA
theorem Nl : aP ae xa = true := by decide
theorem OT : bN ae x0 := bE.1 Nj
theorem BM : bN ae x1 := bE.1 Nk
theorem Nn : bN ae xa := bE.1 Nl
def xb : Ns := ak ae xa wA
theorem No : aP ae xb = true := by decide
theorem Np : bN ae xb := bE.1 No
def Nq : Nat → Bool := fun q => decide (q = 1)
def xe : Ns := (aD ae x1 10).1
theorem LM : aP ae xe = true := by decide
theorem OU : bN ae xe := bE.1 LM
theorem vJ : (bs [97]).toList = [97] ∧ (bs [98]).toList = [98] := by constructor <;> simp [bs]
theorem KF : hJ (aj ae (bs [97])) 2 = hJ wA 2 := funext fun q => by
 unfold hJ aj wA
 by_cases h0 : q = 0
 ·subst h0
  show ((bs [97]).toList == (bs [97]).toList && decide (0 < 2)) = _
  simp
 ·by_cases h1 : q = 1
  ·subst h1
   show ((bs [98]).toList == (bs [97]).toList && decide (1 < 2)) = _
   rw [vJ.1, vJ.2]; rfl
  ·rw [decide_eq_false (show ¬q < 2 by omega), Bool.and_false, Bool.and_false]
theorem KG : hJ (aj ae (bs [98])) 2 = hJ Nq 2 := funext fun q => by
 unfold hJ aj Nq
 by_cases h0 : q = 0
 ·subst h0
  show ((bs [97]).toList == (bs [98]).toList && decide (0 < 2)) = _
  rw [vJ.1, vJ.2]; rfl
 ·by_cases h1 : q = 1
  ·subst h1
   show ((bs [98]).toList == (bs [98]).toList && decide (1 < 2)) = _
   simp
  ·rw [decide_eq_false (show ¬q < 2 by omega), Bool.and_false, Bool.and_false]
theorem BN (c : Ci) (s : Ns) (f g : Nat → Bool) (n : Nat) (h : hJ f n = hJ g n) : ao (ai c s f) n = ao (ai c s g) n := iK (fun i hi => by
 have := congrFun h i
 unfold hJ at this
 rw [decide_eq_true hi, Bool.and_true, Bool.and_true] at this
 unfold ai; rw [this])
theorem KH {s : Ns} (hs : bN ae s) : ak ae s (aj ae (bs [97])) = ak ae s wA ∧ ao (ai ae s (aj ae (bs [97]))) ae.procs.length = ao (ai ae s wA) 2 := by
 refine ⟨?_, BN _ _ _ _ 2 KF⟩
 have e : ae.procs.length = 2 := rfl
 rw [lv hs, e, KF, ← e, ← lv hs]
theorem Nr {s : Ns} (hs : bN ae s) : ak ae s (aj ae (bs [98])) = ak ae s Nq ∧ ao (ai ae s (aj ae (bs [98]))) ae.procs.length = ao (ai ae s Nq) 2 := by
 refine ⟨?_, BN _ _ _ _ 2 KG⟩
 have e : ae.procs.length = 2 := rfl
 rw [lv hs, e, KG, ← e, ← lv hs]
theorem OV : ao (ai ae x1 wA) 2 = [true, false] := by decide
theorem OW : ao (ai ae xa wA) 2 = [false, false] := by decide
theorem OX : ao (ai ae xb Nq) 2 = [false, true] := by decide
theorem OY : (aD ae x1 10).2.2 = 0 := by decide
theorem OZ : (aD ae x1 10).2.1 = [2, 2] := by decide
theorem LN : xa.chans.length = 3 ∧ xa.chans.getD 1 [] = [1] := by decide
theorem x8 : (aF ae xe 2).2.2 = 0 ∧ (aF ae xe 2).1 = [1, 2] := by decide
theorem x3 : (aD ae x1 3).2.2 = 7 := by decide
theorem LO : bp ae x1 0 = true ∧ bp ae x1 1 = false ∧ bp ae x1 2 = false := by decide
theorem Pf : aP ae ⟨[], []⟩ = false := by decide
theorem x4 : (am ae x1 0 [4]).2 = 1 := by decide
theorem yG {s : Ns} {k : Nat} (h : s.chans.all (fun l => decide (l.length ≤ k)) = true) : fY s k := fun n => by
 by_cases hn : n < s.chans.length
 ·rw [List.all_eq_true] at h
  have := h _ (yo (d := []) hn)
  simpa using this
 ·show (s.chans.getD n []).length ≤ k
  rw [List.getD, List.getElem?_eq_none (by omega)]; simp
theorem Nt : fY x0 10 := yG (by decide)
theorem I6 : fY x1 10 := yG (by decide)
theorem Nu : fY xa 10 := yG (by decide)
theorem Nv : fY xb 10 := yG (by decide)
theorem LP : fY xe 10 := yG (by decide)
abbrev wr (x : Int) : Int := IntKind.wrap .i64 x
def Nw (s : Ns) (i : Nat) (a : Int) : Int := wr (a + wr (((s.procs.getD i aU).regs.length : Int) + ((s.procs.getD i aU).mems.length : Int)))
def LQ (s : Ns) (i : Nat) (a : Int) : Nat → Int
 | 0 => a
 | k + 1 => wr (LQ s i a k + (((s.procs.getD i aU).mems.getD k []).length : Int))
def GF (s : Ns) : Nat → Int
 | 0 => wr ((s.procs.length : Int) + (s.chans.length : Int))
 | i + 1 => LQ s i (Nw s i (GF s i)) (s.procs.getD i aU).mems.length
def LR (s : Ns) (a : Int) : Nat → Int
 | 0 => a
 | n + 1 => wr (LR s a n + ((s.chans.getD n []).length : Int))
def DK (s : Ns) : Int := LR s (GF s s.procs.length) s.chans.length
theorem aH {s : Ns} {k m : Nat} (h : fY s k) (hk : k ≤ m) : fY s m := fun n => Nat.le_trans (h n) hk
end Go.Proofs.YtifoecfajmnjjaaGreat
