/-
  Pairs of circuits, and a state of the first, as the laws draw them.
-/
import Derived.Test.YtnlmlkbaflmgcaaQMjK
namespace Go.Proofs.Ytnlmlkbaflmgcaa
open Go.RowKit
set_option linter.unusedVariables false
set_option linter.unusedSimpArgs false
def mN (c : Ci) : Prop := ∀ n, n < c.chans.length → 0 ≤ (d9 c n).frm → 0 ≤ (d9 c n).dst → 0 < (d9 c n).cap
theorem EG (sh : Int) (b : List Int) : mN (ay sh b) := by
 intro n hn h1 h2
 rw [(gQ sh b).2] at hn
 have e : d9 (ay sh b) n = qP sh (ai sh) n := aL hn
 rw [e] at h1 h2 ⊢
 show 0 < (if 0 ≤ uC (ai sh) n (ai sh).length ∧ 0 ≤ uB (ai sh) n (ai sh).length then 1 + (sh / 6 + n) % 3 else 0)
 rw [if_pos ⟨h1, h2⟩]; omega
theorem B9 {c d : Ci} (h : j6 c d) (hc : mN c) : mN d := by
 intro n hn h1 h2
 rw [h.cl] at hn
 rw [(h.cw n).2.1] at h1
 rw [(h.cw n).2.2] at h2
 exact h.cq n (hc n hn h1 h2)
def aH (sx : Int) (b1 me : List Int) : Ci := aG (ay sx b1) me
def pR (sx : Int) (b1 : List Int) (sy : Int) (b2 : List Int) (oth : Bool) (fe me : List Int) : Ci := if oth = true then aG (ay sy b2) fe else aH sx b1 me
def bH (sx : Int) (b1 : List Int) (sy : Int) (b2 : List Int) (oth : Bool) (ed fe me : List Int) : Ci := cP (pR sx b1 sy b2 oth fe me) ed
def bg (sx : Int) (b1 fe pl me : List Int) : Ns := f8 (aH sx b1 me) (b8 (aH sx b1 me) (bG (aH sx b1 me) fe) (pl.take (min pl.length 24))) me
structure nx (o n : Ci) (s : Ns) : Prop where
 co : bS o
 cn : bS n
 no : d7 o
 nn : d7 n
 ro : ∀ i, i < o.procs.length → y8 (o.procs.getD i ac)
 rn : ∀ i, i < n.procs.length → y8 (n.procs.getD i ac)
 so : er o s
 sm : qq s 100
 ko : mN o
 kn : mN n
theorem EH (l : List Int) : Bk (l.length : Int) 24 = ((min l.length 24 : Nat) : Int) := by unfold Bk; split <;> omega
theorem AZ {sh : Int} {b : List Int} (h0 : 0 ≤ sh) (h1 : sh ≤ 255) (hb : fQ b) (me : List Int) : bS (aG (ay sh b) me) ∧ mt (aG (ay sh b) me) 0 ∧ mN (aG (ay sh b) me) :=
 ⟨Gp (JS h0 h1 hb) uH me, Gy (Gx hb) uH me, EG sh b⟩
theorem GB {c : Ci} (hc : bS c) (he : mt c 0) (hk : mN c) (b : List Int) : bS (cP c b) ∧ mt (cP c b) (s5 b) ∧ mN (cP c b) :=
 ⟨xI (sF c b _) hc, ED b he _ (by unfold s5; omega), B9 (sF c b _) hk⟩
theorem Hp {c : Ci} {t : Nat} (h : mt c t) : ∀ j, Fe (c.procs.getD j ac) := by
 intro j
 by_cases hj : j < c.procs.length
 ·have q := h.pr j hj
  have := q.rl; have := q.ml
  unfold Fe; omega
 ·rw [show c.procs.getD j ac = ac from by simp [List.getD, List.getElem?_eq_none (show c.procs.length ≤ j by omega)]]
  exact Nat.zero_le _
theorem v8 {sx : Int} {b1 me : List Int} (h0 : 0 ≤ sx) (h1 : sx ≤ 255) (hb : fQ b1) : bS (aH sx b1 me) ∧ mt (aH sx b1 me) 0 ∧ mN (aH sx b1 me) := AZ h0 h1 hb me
theorem EI {sx sy : Int} {b1 b2 fe me : List Int} {oth : Bool} (h0 : 0 ≤ sx) (h1 : sx ≤ 255) (hb : fQ b1) (g0 : 0 ≤ sy) (g1 : sy ≤ 255) (hb2 : fQ b2) : bS (pR sx b1 sy b2 oth fe me) ∧ mt (pR sx b1 sy b2 oth fe me) 0 ∧ mN (pR sx b1 sy b2 oth fe me) := by
 unfold pR; split
 ·exact AZ g0 g1 hb2 fe
 ·exact v8 h0 h1 hb
theorem J4 {sx : Int} {b1 fe pl me : List Int} (h0 : 0 ≤ sx) (h1 : sx ≤ 255) (hb : fQ b1) (hf : fQ fe) : er (aH sx b1 me) (bg sx b1 fe pl me) ∧ qq (bg sx b1 fe pl me) 100 := by
 have hc := (v8 (me := me) h0 h1 hb).1
 have h2 := AR hc hf _ (Nat.le_refl _)
 have h3 := v3 hc (pl.take (min pl.length 24)) h2.1 h2.2
 refine ⟨Gq hc h3.1 me, fun n => ?_⟩
 have := h3.2 n
 rw [List.length_take] at this
 exact Nat.le_trans this (by omega)
theorem GC {sx sy : Int} {b1 b2 ed fe pl me : List Int} {oth : Bool} (h0 : 0 ≤ sx) (h1 : sx ≤ 255) (hb : fQ b1) (g0 : 0 ≤ sy) (g1 : sy ≤ 255) (hb2 : fQ b2) (hf : fQ fe) :
  nx (aH sx b1 me) (bH sx b1 sy b2 oth ed fe me) (bg sx b1 fe pl me) := by
 obtain ⟨q1, q2, q3⟩ := v8 (me := me) h0 h1 hb
 obtain ⟨m1, m2, m3⟩ := EI (oth := oth) (fe := fe) (me := me) h0 h1 hb g0 g1 hb2
 obtain ⟨n1, n2, n3⟩ := GB m1 m2 m3 ed
 obtain ⟨s1, s2⟩ := J4 (fe := fe) (pl := pl) (me := me) h0 h1 hb hf
 exact ⟨q1, n1, Ho q2, Ho n2, fun i hi => (q2.pr i hi).rk, fun i hi => (n2.pr i hi).rk, s1, s2, q3, n3⟩
theorem cZ {α : Type} {l : List α} {i : Nat} {d : α} (h : l.length ≤ i) : l.getD i d = d := by simp [List.getD, List.getElem?_eq_none h]
theorem qR {o n : Ci} {s : Ns} (hco : bS o) (hcn : bS n) (hr : ∀ i, i < n.procs.length → y8 (n.procs.getD i ac)) (hs : er o s) (hm : qq s 1000000) : D9 o n s := by
 have h1 := hco.cl; have h2 := hcn.cl; have h3 := hco.nl; have h4 := hcn.nl
 refine ⟨⟨by omega, by omega, by omega, by omega, hs.pl, hs.cl, fun i hi => (hs.pv i hi).rl, fun i hi => (hs.pv i hi).ml, fun i hi => ?_, fun i hi => ?_, fun i hi => (hr i hi).1, fun i hi j hj => ?_, hm⟩, fun i hi j hj => ?_, fun i hi j hj => ?_, fun i j => ?_⟩
 ·have q := hco.pr i hi
  exact ⟨Nat.le_trans q.rl (by decide), Nat.le_trans q.ml (by decide)⟩
 ·have q := hcn.pr i hi
  exact ⟨Nat.le_trans q.rl (by decide), Nat.le_trans q.ml (by decide)⟩
 ·have q : 1 ≤ ((n.procs.getD i ac).mems.getD j ax).words ∧ ((n.procs.getD i ac).mems.getD j ax).words ≤ 4 := ((hcn.pr i hi).mw j hj).2.1
  exact ⟨(hr i hi).2 j hj, by omega, by omega⟩
 ·have q : 1 ≤ ((n.procs.getD i ac).regs.getD j aK).w ∧ ((n.procs.getD i ac).regs.getD j aK).w ≤ 8 := aM.1 ((hcn.pr i hi).rw j hj).1
  omega
 ·have q : 1 ≤ ((n.procs.getD i ac).mems.getD j ax).w ∧ ((n.procs.getD i ac).mems.getD j ax).w ≤ 8 := aM.1 ((hcn.pr i hi).mw j hj).1
  omega
 ·by_cases hi : i < o.procs.length
  ·have q := hs.pv i hi
   by_cases hj : j < (aZ o i).mems.length
   ·have a1 : (((s.procs.getD i aW).mems.getD j []).length : Int) = (dK (aZ o i) j).words := q.mn j hj
    have := ((hco.pr i hi).mw j hj).2.1.2
    omega
   ·have hml : ((s.procs.getD i aW).mems).length ≤ j := by have a1 : ((s.procs.getD i aW).mems).length = (aZ o i).mems.length := q.ml; omega
    rw [cZ hml]; exact Nat.zero_le _
  ·rw [cZ (l := s.procs) (by rw [hs.pl]; omega)]; exact Nat.zero_le _
theorem nx.rc {o n : Ci} {s : Ns} (h : nx o n s) : D9 o n s := qR h.co h.cn h.rn h.so (fun i => Nat.le_trans (h.sm i) (by decide))
theorem sG {c : Ci} (hc : bS c) : ∀ i, i < c.procs.length → D4 (c.procs.getD i ac) := fun i hi => ⟨Nat.le_trans (hc.pr i hi).rl (by decide), Nat.le_trans (hc.pr i hi).ml (by decide)⟩
theorem J5 {o n : Ci} {s : Ns} {k : Nat} (hm : qq s k) (i : Nat) : (bP o n s i).length ≤ k := by
 unfold bP; split
 ·exact hm _
 ·exact Nat.zero_le _
end Go.Proofs.Ytnlmlkbaflmgcaa
