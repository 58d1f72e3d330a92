/-
  The laws of streams, plain data: results, the circuit of the examples.
-/
import Derived.Test.YtckgpflobhpnpaaQStF
import Derived.Test.YtckgpflobhpnpaaQNeS
namespace Go.Proofs.Ytckgpflobhpnpaa
open Go.RowKit
set_option linter.unusedVariables false
set_option linter.unusedSimpArgs false
structure Rs where
 l : List (List Int)
 c : List Int
 e : Int
def iE (a b : List Int) : Bool := !decide (bO a b < a.length)
def lQ (a b : List (List Int)) : Bool := aV a b && aV b a
def mZ (a b : Rs) : Bool := decide (a.e = b.e) && (lQ a.l b.l && decide (a.c = b.c))
def gd (c : Ci) (inp : List (List Int)) (n : Int) : Rs := ⟨(ef c inp n).1, (ef c inp n).2.1, (ef c inp n).2.2⟩
def kL (c : Ci) (inp : List (List Int)) (cls : List ByteArray) : Rs := ⟨(gl c inp cls).1, (gl c inp cls).2.1, (gl c inp cls).2.2⟩
section
variable {a b : List Int} {i : Nat}
theorem wq (h2 : a.length ≤ b.length) (h : ∀ j, j < a.length → a.getD j 0 = b.getD j 0) : iE a b = true := by
 unfold iE
 rw [qy (Nat.le_refl _) h2 h (by omega), decide_eq_false (Nat.lt_irrefl _)]; rfl
theorem mN (hi : i < a.length) (hb : i ≤ b.length) (h : ∀ j, j < i → a.getD j 0 = b.getD j 0) (h3 : ¬(i < b.length ∧ a.getD i 0 = b.getD i 0)) : iE a b = false := by
 unfold iE
 rw [qy (by omega) hb h (fun q => h3 q.2), decide_eq_true hi]; rfl
theorem D9 {x y : List (List Int)} (h : ¬aV x y = true) : lQ x y = false := by
 unfold lQ; rw [show aV x y = false by simpa using h]; rfl
theorem rZ {x y : List (List Int)} (h : aV x y = true) : lQ x y = aV y x := by unfold lQ; rw [h]; rfl
theorem wt {x y : Rs} (h : ¬x.e = y.e) : mZ x y = false := by unfold mZ; rw [decide_eq_false h]; rfl
theorem wu {x y : Rs} (h : ¬lQ x.l y.l = true) : mZ x y = false := by unfold mZ; rw [show lQ x.l y.l = false by simpa using h]; simp
theorem wv {x y : Rs} (h : x.e = y.e) (h2 : lQ x.l y.l = true) : mZ x y = decide (x.c = y.c) := by unfold mZ; rw [decide_eq_true h, h2]; rfl
end
def Hs (l : List (List Int)) : Nat → Int
 | 0 => (l.length : Int)
 | i + 1 => IntKind.wrap .i64 (Hs l i + ((l.getD i []).length : Int))
def rp (l : List (List Int)) : Bool := decide (Hs l l.length ≤ 60)
def aX (a b : List (List Int)) : Nat := (ao a b).1.toNat
def a7 (a b : List (List Int)) : Nat := (ao a b).2.1.toNat
theorem xL (a b : List (List Int)) : (ao a b).1 = (aX a b : Int) ∧ (ao a b).2.1 = (a7 a b : Int) := by
 have h : 0 ≤ (ao a b).1 ∧ 0 ≤ (ao a b).2.1 := by
  rcases mB (a := a) (b := b) (min a.length b.length) 0 with ⟨h1, _⟩ | ⟨j, _, _, h3, _⟩
  ·rw [show ao a b = _ from h1]; simp
  ·rw [show ao a b = _ from h3]; simp
 exact ⟨(Int.toNat_of_nonneg h.1).symm, (Int.toNat_of_nonneg h.2).symm⟩
theorem oA {l : List (List Int)} (h : l.all (fun x => decide (x.length ≤ 1000)) = true) (i : Nat) : (l.getD i []).length ≤ 9223372036854775807 := by
 by_cases hi : i < l.length
 ·rw [List.all_eq_true] at h
  have := h _ (jv (d := []) hi)
  simp only [decide_eq_true_eq] at this
  omega
 ·rw [List.getD_eq_getElem?_getD, List.getElem?_eq_none (by omega)]; simp
section
variable {c : Ci} {inp : List (List Int)} {n : Int} {cls : List ByteArray}
theorem AJ (c : Ci) (n : Nat) : ∀ (k : Nat) (u : Uf), (Eg c n k u).length ≤ k
 | 0, u => by simp [Eg]
 | k + 1, u => by
  unfold Eg
  split
  ·rename_i p _
   have := AJ c n k (ah c u p)
   simp only [List.length_cons]; omega
  ·simp
theorem FG (hc : a8 c) (h : tc c inp) {n : Nat} (hn : n ≤ 100) (k : Nat) : ((df c inp n).l k).length ≤ 11000 := by
 have h1 := pK hc k (l := BF c inp n) (DD c inp n).can
 have h2 := AJ c n (n * c.procs.length) (u0 c inp)
 have h3 : n * c.procs.length ≤ 100 * 100 := Nat.mul_le_mul hn hc.nl
 have h4 : ((u0 c inp).l k).length ≤ 1000 := h.sm k
 unfold df
 have h5 : (BF c inp n).length ≤ n * c.procs.length := h2
 omega
theorem AK {f : Nat → List Int} {m : Nat} (h : ∀ k, (f k).length ≤ 11000) (i : Nat) : ((tab f m).getD i []).length ≤ 9223372036854775807 := by
 by_cases hi : i < m
 ·rw [aH hi]; have := h i; omega
 ·rw [Fa (by omega)]; simp
theorem qE (hc : a8 c) : (gd c inp n).l.length ≤ 9223372036854775807 ∧ (∀ i, ((gd c inp n).l.getD i []).length ≤ 9223372036854775807) ∧ (gd c inp n).c.length ≤ 9223372036854775807 := by
 have h1 := hc.cl
 have h2 := hc.nl
 unfold gd
 by_cases h : dA c inp = true ∧ 0 ≤ n ∧ n ≤ 100
 ·rw [lF h.1 h.2]
  exact ⟨by show (tab _ _).length ≤ _; rw [au]; omega, AK (FG hc (dR.1 h.1) (by omega)), by show (tab _ _).length ≤ _; rw [au]; omega⟩
 ·rw [pI h]
  exact ⟨by simp, fun i => by simp, by simp⟩
theorem zc (hc : a8 c) : (kL c inp cls).l.length ≤ 9223372036854775807 ∧ (∀ i, ((kL c inp cls).l.getD i []).length ≤ 9223372036854775807) ∧ (kL c inp cls).c.length ≤ 9223372036854775807 := by
 have h1 := hc.cl
 have h2 := hc.nl
 unfold kL
 by_cases h : dA c inp = true ∧ cls.length ≤ 100
 ·rw [lG h.1 h.2]
  have hin := dR.1 h.1
  exact ⟨by show (tab _ _).length ≤ _; rw [au]; omega, AK (fun k => by rw [← rX (Nat.le_refl _)]; exact y7 hc hin h.2 k), by show (tab _ _).length ≤ _; rw [au]; omega⟩
 ·rw [rS h]
  exact ⟨by simp, fun i => by simp, by simp⟩
end
def FH : Ex := ⟨6, e0, dN, dN, [⟨16, e0, dN, dN, []⟩, ⟨18, e0, dN, dN, []⟩]⟩
def IB : Pr := ⟨bs [112], bs [97], [⟨bs [114], 2, 0, FH, GS⟩], [], [⟨0, 2, Fw⟩], [⟨1, 2, Fw, FH⟩]⟩
def aB : Ci := ⟨[IB], [⟨bs [105], 2, 0, -1, 0⟩, ⟨bs [111], 2, 0, 0, -1⟩]⟩
set_option maxRecDepth 100000
theorem FI : gE IB where
 rl := by decide
 ml := by decide
 tl := by decide
 pl := by decide
 rw := fun i hi => by
  have : i = 0 := by have : i < 1 := hi; omega
  subst this
  exact ⟨rfl, ⟨by decide, by decide⟩, rfl, show mf FH ≤ 3 by decide⟩
 mw := fun i hi => absurd hi (Nat.not_lt_zero _)
 tw := fun i hi => by
  have : i = 0 := by have : i < 1 := hi; omega
  subst this
  exact ⟨rfl, D8 _⟩
 pw := fun i hi => by
  have : i = 0 := by have : i < 1 := hi; omega
  subst this
  exact ⟨rfl, D8 _, rfl, show mf FH ≤ 3 by decide⟩
theorem cb : a8 aB := by
 have h2 : aB.procs.length = 1 := rfl
 have h3 : aB.chans.length = 2 := rfl
 have c2 : ∀ i, i < 2 → i = 0 ∨ i = 1 := fun i hi => by omega
 refine ⟨by decide, by decide, by decide, fun i hi => ?_, fun i hi j hj => ?_, fun i hi j hj => ?_, fun i hi j k hj hk _ => ?_, fun i hi j k hj hk _ => ?_, fun n hn => ?_, fun n hn => ?_⟩
 ·rw [h2] at hi
  have : i = 0 := by omega
  subst this; exact FI
 ·have : i = 0 := by rw [h2] at hi; omega
  subst this
  have : j = 0 := by have : j < 1 := hj; omega
  subst this; decide
 ·have : i = 0 := by rw [h2] at hi; omega
  subst this
  have : j = 0 := by have : j < 1 := hj; omega
  subst this; decide
 ·have : i = 0 := by rw [h2] at hi; omega
  subst this
  have : j < 1 := hj
  have : k < 1 := hk
  omega
 ·have : i = 0 := by rw [h2] at hi; omega
  subst this
  have : j < 1 := hj
  have : k < 1 := hk
  omega
 ·rw [h3] at hn
  rcases c2 n hn with rfl | rfl <;> decide
 ·rw [h3] at hn
  rcases c2 n hn with rfl | rfl <;> decide
theorem lR : HB aB := fun p hp => by
 have : p = 0 := by have : p < 1 := hp; omega
 subst this; decide
theorem JO : ef aB [[1, 2, 2], []] 100 = ([[1, 2, 2], [1, 3, 1]], [3], 0) := by decide
theorem JP : ef aB [[1, 2, 2], []] 2 = ([[1, 2, 2], [1, 3]], [2], 0) := by decide
def wT (q : Nat) : Bool := decide (q = 0)
theorem Gc : gj (ba aB (bs [97])) 1 = gj wT 1 := funext fun q => by
 unfold gj ba wT
 by_cases h : q < 1
 ·have : q = 0 := by omega
  subst this
  rw [show (a6 aB 0).clock = bs [97] from rfl]
  simp
 ·simp [h]
theorem IC {s : Ns} (hs : jt aB s) : bp aB s (ba aB (bs [97])) = bp aB s wT := by
 have e : aB.procs.length = 1 := rfl
 rw [v4 hs, e, Gc, ← e, ← v4 hs]
theorem Gd (s : Ns) : ja aB s (ba aB (bs [97])) aB.procs.length = ja aB s wT aB.procs.length := by
 unfold ja
 refine List.filter_congr fun q hq => ?_
 have : q = 0 := by have : q < 1 := List.mem_range.1 hq; omega
 subst this
 have := congrFun Gc 0
 unfold gj at this
 have h2 : ba aB (bs [97]) 0 = wT 0 := by simpa using this
 unfold aq
 rw [h2]
theorem IE {s : Ns} (hs : jt aB s) : gk aB s [ba aB (bs [97]), ba aB (bs [97])] = gk aB s [wT, wT] := by
 simp only [gk]
 rw [Gd, IC hs, Gd]
theorem Ge : tc aB [[1, 2, 2], []] := dR.1 (by decide)
theorem JQ : gl aB [[1, 2, 2], []] [bs [97], bs [97]] = ([[1, 2, 2], [1, 3]], [2], 0) := by
 rw [lG (dR.2 Ge) (by decide)]
 have h : y2 aB [[1, 2, 2], []] [bs [97], bs [97]] = bX aB (u0 aB [[1, 2, 2], []]) (gk aB (Eh aB [[1, 2, 2], []]) [wT, wT]) := by
  rw [← IE (F9 cb Ge)]; rfl
 rw [h]
 decide
theorem JR : (ef aB [[4], []] 1).2.2 = 1 := by decide
theorem JS : (ef aB [[1, 2, 2], []] 101).2.2 = 1 := by decide
end Go.Proofs.Ytckgpflobhpnpaa
