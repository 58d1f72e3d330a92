/-
  The laws of streams, plain data: results, the circuit of the examples.
-/
import Derived.Test.YtckgpflobhpnpaaGreatQStF
import Derived.Test.YtckgpflobhpnpaaGreatQNeS
namespace Go.Proofs.YtckgpflobhpnpaaGreat
open Go.RowKit
set_option linter.unusedVariables false
set_option linter.unusedSimpArgs false
structure Rs where
 l : List (List Int)
 c : List Int
 e : Int
def sg (a b : List Int) : Bool := !decide (dj a b < a.length)
def pR (a b : List (List Int)) : Bool := er a b && er b a
def oA (a b : Rs) : Bool := decide (a.e = b.e) && (pR a.l b.l && decide (a.c = b.c))
def gK (c : Ci) (inp : List (List Int)) (n : Int) : Rs := ⟨(eP c inp n).1, (eP c inp n).2.1, (eP c inp n).2.2⟩
def cO (c : Ci) (inp : List (List Int)) (cls : List ByteArray) : Rs := ⟨(gX c inp cls).1, (gX c inp cls).2.1, (gX c inp cls).2.2⟩
section
variable {a b : List Int} {i : Nat}
theorem yj (h2 : a.length ≤ b.length) (h : ∀ j, j < a.length → a.getD j 0 = b.getD j 0) : sg a b = true := by
 unfold sg
 rw [r8 (Nat.le_refl _) h2 h (by omega), decide_eq_false (Nat.lt_irrefl _)]; rfl
theorem nY (hi : i < a.length) (hb : i ≤ b.length) (h : ∀ j, j < i → a.getD j 0 = b.getD j 0) (h3 : ¬(i < b.length ∧ a.getD i 0 = b.getD i 0)) : sg a b = false := by
 unfold sg
 rw [r8 (by omega) hb h (fun q => h3 q.2), decide_eq_true hi]; rfl
theorem G8 {x y : List (List Int)} (h : ¬er x y = true) : pR x y = false := by
 unfold pR; rw [show er x y = false by simpa using h]; rfl
theorem C7 {x y : List (List Int)} (h : er x y = true) : pR x y = er y x := by unfold pR; rw [h]; rfl
theorem yk {x y : Rs} (h : ¬x.e = y.e) : oA x y = false := by unfold oA; rw [decide_eq_false h]; rfl
theorem yl {x y : Rs} (h : ¬pR x.l y.l = true) : oA x y = false := by unfold oA; rw [show pR x.l y.l = false by simpa using h]; simp
theorem ym {x y : Rs} (h : x.e = y.e) (h2 : pR x.l y.l = true) : oA x y = decide (x.c = y.c) := by unfold oA; rw [decide_eq_true h, h2]; rfl
end
def s7 (b : List Int) (i : Nat) : ByteArray := ([(bs [97]), (bs [98]), (bs [97]), (bs [98]), (bs [97]), (bs [98]), (bs [99])]).getD (b.getD i 0 % 7).toNat .empty
def El (b : List Int) : Nat := min b.length 40
def eV (b : List Int) : List ByteArray := tab (s7 b) (El b)
theorem IL (b : List Int) : (eV b).length ≤ 40 := by unfold eV; rw [ap]; unfold El; omega
def si (a b : List Int) : Bool := decide (a.length = b.length) && dR (fun i => decide (a.getD i 0 ≤ b.getD i 0)) a.length
theorem yn {a b : List Int} (h : ¬a.length = b.length) : si a b = false := by unfold si; rw [decide_eq_false h]; rfl
theorem yo {a b : List Int} {i : Nat} (hi : i < a.length) (h : ¬a.getD i 0 ≤ b.getD i 0) : si a b = false := by unfold si; rw [qC hi (decide_eq_false h), Bool.and_false]
theorem tN {a b : List Int} (h : a.length = b.length) (h2 : ∀ i, i < a.length → decide (a.getD i 0 ≤ b.getD i 0) = true) : si a b = true := by unfold si; rw [decide_eq_true h, cH.2 h2]; rfl
def Mp (a b : List (List Int)) : Nat := (dp a b).1.toNat
def Mq (a b : List (List Int)) : Nat := (dp a b).2.1.toNat
theorem zP (a b : List (List Int)) : (dp a b).1 = (Mp a b : Int) ∧ (dp a b).2.1 = (Mq a b : Int) := by
 have h : 0 ≤ (dp a b).1 ∧ 0 ≤ (dp a b).2.1 := by
  rcases wL (a := a) (b := b) (min a.length b.length) 0 with ⟨h1, _⟩ | ⟨j, _, _, h3, _⟩
  ·rw [show dp a b = _ from h1]; simp
  ·rw [show dp a b = _ from h3]; simp
 exact ⟨(Int.toNat_of_nonneg h.1).symm, (Int.toNat_of_nonneg h.2).symm⟩
theorem pS {l : List (List Int)} (h : l.all (fun x => decide (x.length ≤ 1000)) = true) (i : Nat) : (l.getD i []).length ≤ 9223372036854775807 := by
 by_cases hi : i < l.length
 ·rw [List.all_eq_true] at h
  have := h _ (jX (d := []) hi)
  simp only [decide_eq_true_eq] at this
  omega
 ·rw [List.getD_eq_getElem?_getD, List.getElem?_eq_none (by omega)]; simp
section
variable {c : Ci} {inp : List (List Int)} {n : Int} {cls : List ByteArray}
theorem C8 (c : Ci) (n : Nat) : ∀ (k : Nat) (u : Uf), (Ho c n k u).length ≤ k
 | 0, u => by simp [Ho]
 | k + 1, u => by
  unfold Ho
  split
  ·rename_i p _
   have := C8 c n k (ak c u p)
   simp only [List.length_cons]; omega
  ·simp
theorem IM (hc : aZ c) (h : lJ c inp) {n : Nat} (hn : n ≤ 100) (k : Nat) : ((dA c inp n).l k).length ≤ 11000 := by
 have h1 := qY hc k (l := Ef c inp n) (Gw c inp n).can
 have h2 := C8 c n (n * c.procs.length) (u0 c inp)
 have h3 : n * c.procs.length ≤ 100 * 100 := Nat.mul_le_mul hn hc.nl
 have h4 : ((u0 c inp).l k).length ≤ 1000 := h.sm k
 unfold dA
 have h5 : (Ef c inp n).length ≤ n * c.procs.length := h2
 omega
theorem C9 {f : Nat → List Int} {m : Nat} (h : ∀ k, (f k).length ≤ 11000) (i : Nat) : ((tab f m).getD i []).length ≤ 9223372036854775807 := by
 by_cases hi : i < m
 ·rw [az hi]; have := h i; omega
 ·rw [Cp (by omega)]; simp
theorem sj (hc : aZ c) : (gK c inp n).l.length ≤ 9223372036854775807 ∧ (∀ i, ((gK c inp n).l.getD i []).length ≤ 9223372036854775807) ∧ (gK c inp n).c.length ≤ 9223372036854775807 := by
 have h1 := hc.cl
 have h2 := hc.nl
 unfold gK
 by_cases h : dX c inp = true ∧ 0 ≤ n ∧ n ≤ 100
 ·rw [mH h.1 h.2]
  exact ⟨by show (tab _ _).length ≤ _; rw [ap]; omega, C9 (IM hc (dH.1 h.1) (by omega)), by show (tab _ _).length ≤ _; rw [ap]; omega⟩
 ·rw [qW h]
  exact ⟨by simp, fun i => by simp, by simp⟩
theorem sk (hc : aZ c) : (cO c inp cls).l.length ≤ 9223372036854775807 ∧ (∀ i, ((cO c inp cls).l.getD i []).length ≤ 9223372036854775807) ∧ (cO c inp cls).c.length ≤ 9223372036854775807 := by
 have h1 := hc.cl
 have h2 := hc.nl
 unfold cO
 by_cases h : dX c inp = true ∧ cls.length ≤ 100
 ·rw [j8 h.1 h.2]
  have hin := dH.1 h.1
  exact ⟨by show (tab _ _).length ≤ _; rw [ap]; omega, C9 (fun k => by rw [← tL (Nat.le_refl _)]; exact Bl hc hin h.2 k), by show (tab _ _).length ≤ _; rw [ap]; omega⟩
 ·rw [tH h]
  exact ⟨by simp, fun i => by simp, by simp⟩
end
def IP : Ex := ⟨6, e0, dN, dN, [⟨16, e0, dN, dN, []⟩, ⟨18, e0, dN, dN, []⟩]⟩
def Mr : Pr := ⟨bs [112], bs [97], [⟨bs [114], 2, 0, IP, Kc⟩], [], [⟨0, 2, fu⟩], [⟨1, 2, fu, IP⟩]⟩
def aF : Ci := ⟨[Mr], [⟨bs [105], 2, 0, -1, 0⟩, ⟨bs [111], 2, 0, 0, -1⟩]⟩
set_option maxRecDepth 100000
theorem IQ : gP Mr where
 rl := by decide
 ml := by decide
 tl := by decide
 pl := by decide
 rw := fun i hi => by
  have : i = 0 := by have : i < 1 := hi; omega
  subst this
  exact ⟨rfl, ⟨by decide, by decide⟩, rfl, show fS IP ≤ 3 by decide⟩
 mw := fun i hi => absurd hi (Nat.not_lt_zero _)
 tw := fun i hi => by
  have : i = 0 := by have : i < 1 := hi; omega
  subst this
  exact ⟨rfl, G7 _⟩
 pw := fun i hi => by
  have : i = 0 := by have : i < 1 := hi; omega
  subst this
  exact ⟨rfl, G7 _, rfl, show fS IP ≤ 3 by decide⟩
theorem cx : aZ aF := by
 have h2 : aF.procs.length = 1 := rfl
 have h3 : aF.chans.length = 2 := rfl
 have c2 : ∀ i, i < 2 → i = 0 ∨ i = 1 := fun i hi => by omega
 refine ⟨by decide, by decide, by decide, fun i hi => ?_, fun i hi j hj => ?_, fun i hi j hj => ?_, fun i hi j k hj hk _ => ?_, fun i hi j k hj hk _ => ?_, fun n hn => ?_, fun n hn => ?_⟩
 ·rw [h2] at hi
  have : i = 0 := by omega
  subst this; exact IQ
 ·have : i = 0 := by rw [h2] at hi; omega
  subst this
  have : j = 0 := by have : j < 1 := hj; omega
  subst this; decide
 ·have : i = 0 := by rw [h2] at hi; omega
  subst this
  have : j = 0 := by have : j < 1 := hj; omega
  subst this; decide
 ·have : i = 0 := by rw [h2] at hi; omega
  subst this
  have : j < 1 := hj
  have : k < 1 := hk
  omega
 ·have : i = 0 := by rw [h2] at hi; omega
  subst this
  have : j < 1 := hj
  have : k < 1 := hk
  omega
 ·rw [h3] at hn
  rcases c2 n hn with rfl | rfl <;> decide
 ·rw [h3] at hn
  rcases c2 n hn with rfl | rfl <;> decide
theorem mR : Ju aF := fun p hp => by
 have : p = 0 := by have : p < 1 := hp; omega
 subst this; decide
theorem NX : eP aF [[1, 2, 2], []] 100 = ([[1, 2, 2], [1, 3, 1]], [3], 0) := by decide
theorem NY : eP aF [[1, 2, 2], []] 2 = ([[1, 2, 2], [1, 3]], [2], 0) := by decide
def wT (q : Nat) : Bool := decide (q = 0)
theorem Jv : gR (a6 aF (bs [97])) 1 = gR wT 1 := funext fun q => by
 unfold gR a6 wT
 by_cases h : q < 1
 ·have : q = 0 := by omega
  subst this
  rw [show (a8 aF 0).clock = bs [97] from rfl]
  simp
 ·simp [h]
theorem Ms {s : Ns} (hs : ja aF s) : bv aF s (a6 aF (bs [97])) = bv aF s wT := by
 have e : aF.procs.length = 1 := rfl
 rw [xN hs, e, Jv, ← e, ← xN hs]
theorem Jw (s : Ns) : gW aF s (a6 aF (bs [97])) aF.procs.length = gW aF s wT aF.procs.length := by
 unfold gW
 refine List.filter_congr fun q hq => ?_
 have : q = 0 := by have : q < 1 := List.mem_range.1 hq; omega
 subst this
 have := congrFun Jv 0
 unfold gR at this
 have h2 : a6 aF (bs [97]) 0 = wT 0 := by simpa using this
 unfold ay
 rw [h2]
theorem Mt {s : Ns} (hs : ja aF s) : eF aF s [a6 aF (bs [97]), a6 aF (bs [97])] = eF aF s [wT, wT] := by
 simp only [eF]
 rw [Jw, Ms hs, Jw]
theorem Jx : lJ aF [[1, 2, 2], []] := dH.1 (by decide)
theorem NZ : gX aF [[1, 2, 2], []] [bs [97], bs [97]] = ([[1, 2, 2], [1, 3]], [2], 0) := by
 rw [j8 (dH.2 Jx) (by decide)]
 have h : pQ aF [[1, 2, 2], []] [bs [97], bs [97]] = bc aF (u0 aF [[1, 2, 2], []]) (eF aF (Eg aF [[1, 2, 2], []]) [wT, wT]) := by
  rw [← Mt (CU cx Jx)]; rfl
 rw [h]
 decide
theorem N0 : (eP aF [[4], []] 1).2.2 = 1 := by decide
theorem N1 : (eP aF [[1, 2, 2], []] 101).2.2 = 1 := by decide
end Go.Proofs.YtckgpflobhpnpaaGreat
