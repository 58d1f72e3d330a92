/-
  The laws of streams, plain data: results, the circuit of the examples.
-/
import Derived.Test.YtckgpflobhpnpaaQStF
namespace Go.Proofs.Ytckgpflobhpnpaa
open Go.RowKit
set_option linter.unusedVariables false
set_option linter.unusedSimpArgs false
set_option maxRecDepth 100000
theorem G6 (c : Sc) : e9 c fu = some 1 ∧ fS fu ≤ 3 := by
 constructor
 ·rfl
 ·decide
structure Rs where
 l : List (List Int)
 c : List Int
 e : Int
def sj (a b : List Int) : Bool := !decide (dk a b < a.length)
def pS (a b : List (List Int)) : Bool := dm a b && dm b a
def oD (a b : Rs) : Bool := decide (a.e = b.e) && (pS a.l b.l && decide (a.c = b.c))
def bK (c : Ci) (inp : List (List Int)) (n : Int) : Rs := ⟨(eR c inp n).1, (eR c inp n).2.1, (eR c inp n).2.2⟩
def bO (c : Ci) (inp : List (List Int)) (cls : List ByteArray) : Rs := ⟨(gT c inp cls).1, (gT c inp cls).2.1, (gT c inp cls).2.2⟩
section
variable {a b : List Int} {i : Nat}
theorem ym (h2 : a.length ≤ b.length) (h : ∀ j, j < a.length → a.getD j 0 = b.getD j 0) : sj a b = true := by
 unfold sj
 rw [sa (Nat.le_refl _) h2 h (by omega), decide_eq_false (Nat.lt_irrefl _)]; rfl
theorem oa (hi : i < a.length) (hb : i ≤ b.length) (h : ∀ j, j < i → a.getD j 0 = b.getD j 0) (h3 : ¬(i < b.length ∧ a.getD i 0 = b.getD i 0)) : sj a b = false := by
 unfold sj
 rw [sa (by omega) hb h (fun q => h3 q.2), decide_eq_true hi]; rfl
theorem G7 {x y : List (List Int)} (h : ¬dm x y = true) : pS x y = false := by
 unfold pS; rw [show dm x y = false by simpa using h]; rfl
theorem Dg {x y : List (List Int)} (h : dm x y = true) : pS x y = dm y x := by unfold pS; rw [h]; rfl
theorem yn {x y : Rs} (h : ¬x.e = y.e) : oD x y = false := by unfold oD; rw [decide_eq_false h]; rfl
theorem yo {x y : Rs} (h : ¬pS x.l y.l = true) : oD x y = false := by unfold oD; rw [show pS x.l y.l = false by simpa using h]; simp
theorem yp {x y : Rs} (h : x.e = y.e) (h2 : pS x.l y.l = true) : oD x y = decide (x.c = y.c) := by unfold oD; rw [decide_eq_true h, h2]; rfl
end
def s8 (b : List Int) (i : Nat) : ByteArray := ([(bs [97]), (bs [98]), (bs [97]), (bs [98]), (bs [97]), (bs [98]), (bs [99])]).getD (b.getD i 0 % 7).toNat .empty
def Eu (b : List Int) : Nat := min b.length 40
def a7 (b : List Int) : List ByteArray := tab (s8 b) (Eu b)
theorem yq (b : List Int) : (a7 b).length ≤ 40 := by unfold a7; rw [ap]; unfold Eu; omega
def mV (a b : List Int) : Bool := decide (a.length = b.length) && dT (fun i => decide (a.getD i 0 ≤ b.getD i 0)) a.length
theorem yr {a b : List Int} (h : ¬a.length = b.length) : mV a b = false := by unfold mV; rw [decide_eq_false h]; rfl
theorem yu {a b : List Int} {i : Nat} (hi : i < a.length) (h : ¬a.getD i 0 ≤ b.getD i 0) : mV a b = false := by unfold mV; rw [qC hi (decide_eq_false h), Bool.and_false]
theorem tN {a b : List Int} (h : a.length = b.length) (h2 : ∀ i, i < a.length → decide (a.getD i 0 ≤ b.getD i 0) = true) : mV a b = true := by unfold mV; rw [decide_eq_true h, cH.2 h2]; rfl
def L5 (a b : List (List Int)) : Nat := (du a b).1.toNat
def L6 (a b : List (List Int)) : Nat := (du a b).2.1.toNat
theorem zT (a b : List (List Int)) : (du a b).1 = (L5 a b : Int) ∧ (du a b).2.1 = (L6 a b : Int) := by
 have h : 0 ≤ (du a b).1 ∧ 0 ≤ (du a b).2.1 := by
  rcases wR (a := a) (b := b) (min a.length b.length) 0 with ⟨h1, _⟩ | ⟨j, _, _, h3, _⟩
  ·rw [show du a b = _ from h1]; simp
  ·rw [show du a b = _ from h3]; simp
 exact ⟨(Int.toNat_of_nonneg h.1).symm, (Int.toNat_of_nonneg h.2).symm⟩
theorem pT {l : List (List Int)} (h : l.all (fun x => decide (x.length ≤ 1000)) = true) (i : Nat) : (l.getD i []).length ≤ 9223372036854775807 := by
 by_cases hi : i < l.length
 ·rw [List.all_eq_true] at h
  have := h _ (jW (d := []) hi)
  simp only [decide_eq_true_eq] at this
  omega
 ·rw [List.getD_eq_getElem?_getD, List.getElem?_eq_none (by omega)]; simp
section
variable {c : Ci} {inp : List (List Int)} {n : Int} {cls : List ByteArray}
theorem Dh (c : Ci) (n : Nat) : ∀ (k : Nat) (u : Uf), (Hq c n k u).length ≤ k
 | 0, u => by simp [Hq]
 | k + 1, u => by
  unfold Hq
  split
  ·rename_i p _
   have := Dh c n k (am c u p)
   simp only [List.length_cons]; omega
  ·simp
theorem IQ (hc : a6 c) (h : fT c inp) {n : Nat} (hn : n ≤ 100) (k : Nat) : ((cu c inp n).l k).length ≤ 11000 := by
 have h1 := rb hc k (l := Bm c inp n) (ya c inp n).can
 have h2 := Dh c n (n * c.procs.length) (u0 c inp)
 have h3 : n * c.procs.length ≤ 100 * 100 := Nat.mul_le_mul hn hc.nl
 have h4 : ((u0 c inp).l k).length ≤ 1000 := h.sm k
 unfold cu
 have h5 : (Bm c inp n).length ≤ n * c.procs.length := h2
 omega
theorem Di {f : Nat → List Int} {m : Nat} (h : ∀ k, (f k).length ≤ 11000) (i : Nat) : ((tab f m).getD i []).length ≤ 9223372036854775807 := by
 by_cases hi : i < m
 ·rw [aB hi]; have := h i; omega
 ·rw [kJ (by omega)]; simp
theorem li (hc : a6 c) : (bK c inp n).l.length ≤ 9223372036854775807 ∧ (∀ i, ((bK c inp n).l.getD i []).length ≤ 9223372036854775807) ∧ (bK c inp n).c.length ≤ 9223372036854775807 := by
 have h1 := hc.cl
 have h2 := hc.nl
 unfold bK
 by_cases h : dZ c inp = true ∧ 0 ≤ n ∧ n ≤ 100
 ·rw [j7 h.1 h.2]
  exact ⟨by show (tab _ _).length ≤ _; rw [ap]; omega, Di (IQ hc (dn.1 h.1) (by omega)), by show (tab _ _).length ≤ _; rw [ap]; omega⟩
 ·rw [qY h]
  exact ⟨by simp, fun i => by simp, by simp⟩
theorem lj (hc : a6 c) : (bO c inp cls).l.length ≤ 9223372036854775807 ∧ (∀ i, ((bO c inp cls).l.getD i []).length ≤ 9223372036854775807) ∧ (bO c inp cls).c.length ≤ 9223372036854775807 := by
 have h1 := hc.cl
 have h2 := hc.nl
 unfold bO
 by_cases h : dZ c inp = true ∧ cls.length ≤ 100
 ·rw [j8 h.1 h.2]
  have hin := dn.1 h.1
  exact ⟨by show (tab _ _).length ≤ _; rw [ap]; omega, Di (fun k => by rw [← tL (Nat.le_refl _)]; exact Bs hc hin h.2 k), by show (tab _ _).length ≤ _; rw [ap]; omega⟩
 ·rw [tH h]
  exact ⟨by simp, fun i => by simp, by simp⟩
end
def IR : Ex := ⟨6, e0, dN, dN, [⟨16, e0, dN, dN, []⟩, ⟨18, e0, dN, dN, []⟩]⟩
def L7 : Pr := ⟨bs [112], bs [97], [⟨bs [114], 2, 0, IR, Kb⟩], [], [⟨0, 2, fu⟩], [⟨1, 2, fu, IR⟩]⟩
def aH : Ci := ⟨[L7], [⟨bs [105], 2, 0, -1, 0⟩, ⟨bs [111], 2, 0, 0, -1⟩]⟩
set_option maxRecDepth 100000
theorem IT : gP L7 where
 rl := by decide
 ml := by decide
 tl := by decide
 pl := by decide
 rw := fun i hi => by
  have : i = 0 := by have : i < 1 := hi; omega
  subst this
  exact ⟨rfl, ⟨by decide, by decide⟩, rfl, show fS IR ≤ 3 by decide⟩
 mw := fun i hi => absurd hi (Nat.not_lt_zero _)
 tw := fun i hi => by
  have : i = 0 := by have : i < 1 := hi; omega
  subst this
  exact ⟨rfl, G6 _⟩
 pw := fun i hi => by
  have : i = 0 := by have : i < 1 := hi; omega
  subst this
  exact ⟨rfl, G6 _, rfl, show fS IR ≤ 3 by decide⟩
theorem cy : a6 aH := by
 have h2 : aH.procs.length = 1 := rfl
 have h3 : aH.chans.length = 2 := rfl
 have c2 : ∀ i, i < 2 → i = 0 ∨ i = 1 := fun i hi => by omega
 refine ⟨by decide, by decide, by decide, fun i hi => ?_, fun i hi j hj => ?_, fun i hi j hj => ?_, fun i hi j k hj hk _ => ?_, fun i hi j k hj hk _ => ?_, fun n hn => ?_, fun n hn => ?_⟩
 ·rw [h2] at hi
  have : i = 0 := by omega
  subst this; exact IT
 ·have : i = 0 := by rw [h2] at hi; omega
  subst this
  have : j = 0 := by have : j < 1 := hj; omega
  subst this; decide
 ·have : i = 0 := by rw [h2] at hi; omega
  subst this
  have : j = 0 := by have : j < 1 := hj; omega
  subst this; decide
 ·have : i = 0 := by rw [h2] at hi; omega
  subst this
  have : j < 1 := hj
  have : k < 1 := hk
  omega
 ·have : i = 0 := by rw [h2] at hi; omega
  subst this
  have : j < 1 := hj
  have : k < 1 := hk
  omega
 ·rw [h3] at hn
  rcases c2 n hn with rfl | rfl <;> decide
 ·rw [h3] at hn
  rcases c2 n hn with rfl | rfl <;> decide
theorem mW : IH aH := fun p hp => by
 have : p = 0 := by have : p < 1 := hp; omega
 subst this; decide
theorem Nw : eR aH [[1, 2, 2], []] 100 = ([[1, 2, 2], [1, 3, 1]], [3], 0) := by decide
theorem Nx : eR aH [[1, 2, 2], []] 2 = ([[1, 2, 2], [1, 3]], [2], 0) := by decide
def wT (q : Nat) : Bool := decide (q = 0)
theorem Jy : gR (bc aH (bs [97])) 1 = gR wT 1 := funext fun q => by
 unfold gR bc wT
 by_cases h : q < 1
 ·have : q = 0 := by omega
  subst this
  rw [show (be aH 0).clock = bs [97] from rfl]
  simp
 ·simp [h]
theorem L8 {s : Ns} (hs : jS aH s) : bz aH s (bc aH (bs [97])) = bz aH s wT := by
 have e : aH.procs.length = 1 := rfl
 rw [xQ hs, e, Jy, ← e, ← xQ hs]
theorem Jz (s : Ns) : jz aH s (bc aH (bs [97])) aH.procs.length = jz aH s wT aH.procs.length := by
 unfold jz
 refine List.filter_congr fun q hq => ?_
 have : q = 0 := by have : q < 1 := List.mem_range.1 hq; omega
 subst this
 have := congrFun Jy 0
 unfold gR at this
 have h2 : bc aH (bs [97]) 0 = wT 0 := by simpa using this
 unfold aA
 rw [h2]
theorem L9 {s : Ns} (hs : jS aH s) : ft aH s [bc aH (bs [97]), bc aH (bs [97])] = ft aH s [wT, wT] := by
 simp only [ft]
 rw [Jz, L8 hs, Jz]
theorem JA : fT aH [[1, 2, 2], []] := dn.1 (by decide)
theorem Ny : gT aH [[1, 2, 2], []] [bs [97], bs [97]] = ([[1, 2, 2], [1, 3]], [2], 0) := by
 rw [j8 (dn.2 JA) (by decide)]
 have h : qZ aH [[1, 2, 2], []] [bs [97], bs [97]] = bP aH (u0 aH [[1, 2, 2], []]) (ft aH (C4 aH [[1, 2, 2], []]) [wT, wT]) := by
  rw [← L9 (Gv cy JA)]; rfl
 rw [h]
 decide
theorem Nz : (eR aH [[4], []] 1).2.2 = 1 := by decide
theorem NA : (eR aH [[1, 2, 2], []] 101).2.2 = 1 := by decide
end Go.Proofs.Ytckgpflobhpnpaa
