/-
  Pairs of circuits, and a state of the first, as the laws draw them.
-/
import Derived.Test.YtnlmlkbaflmgcaaQMjK
namespace Go.Proofs.Ytnlmlkbaflmgcaa
open Go.RowKit
set_option linter.unusedVariables false
set_option linter.unusedSimpArgs false
def mS (c : Ci) : Prop := ∀ n, n < c.chans.length → 0 ≤ (i3 c n).frm → 0 ≤ (i3 c n).dst → 0 < (i3 c n).cap
theorem EG (sh : Int) (b : List Int) : mS (aB sh b) := by
 intro n hn h1 h2
 rw [(jB sh b).2] at hn
 have e : i3 (aB sh b) n = sk sh (aj sh) n := aY hn
 rw [e] at h1 h2 ⊢
 show 0 < (if 0 ≤ vR (aj sh) n (aj sh).length ∧ 0 ≤ vQ (aj sh) n (aj sh).length then 1 + (sh / 6 + n) % 3 else 0)
 rw [if_pos ⟨h1, h2⟩]; omega
theorem BU {c d : Ci} (h : lh c d) (hc : mS c) : mS d := by
 intro n hn h1 h2
 rw [h.cl] at hn
 rw [(h.cw n).2.1] at h1
 rw [(h.cw n).2.2] at h2
 exact h.cq n (hc n hn h1 h2)
def be (sx : Int) (b1 me : List Int) : Ci := aH (aB sx b1) me
def pL (sx : Int) (b1 : List Int) (sy : Int) (b2 : List Int) (oth : Bool) (fe me : List Int) : Ci := if oth = true then aH (aB sy b2) fe else be sx b1 me
def bw (sx : Int) (b1 : List Int) (sy : Int) (b2 : List Int) (oth : Bool) (ed fe me : List Int) : Ci := cW (pL sx b1 sy b2 oth fe me) ed
def dk (sx : Int) (b1 fe pl me : List Int) : Ns := gw (be sx b1 me) (cb (be sx b1 me) (bJ (be sx b1 me) fe) (pl.take (min pl.length 24))) me
structure vY (o n : Ci) (s : Ns) : Prop where
 co : b5 o
 cn : b5 n
 no : pH o
 nn : pH n
 ro : ∀ i, i < o.procs.length → BM (o.procs.getD i ac)
 rn : ∀ i, i < n.procs.length → BM (n.procs.getD i ac)
 so : gC o s
 sm : sQ s 100
 ko : mS o
 kn : mS n
theorem EH (l : List Int) : A7 (l.length : Int) 24 = ((min l.length 24 : Nat) : Int) := by unfold A7; split <;> omega
theorem AN {sh : Int} {b : List Int} (h0 : 0 ≤ sh) (h1 : sh ≤ 255) (hb : f8 b) (me : List Int) : b5 (aH (aB sh b) me) ∧ mA (aH (aB sh b) me) 0 ∧ mS (aH (aB sh b) me) :=
 ⟨Gk (JZ h0 h1 hb) uu me, Gu (Gt hb) uu me, EG sh b⟩
theorem Gx {c : Ci} (hc : b5 c) (he : mA c 0) (hk : mS c) (b : List Int) : b5 (cW c b) ∧ mA (cW c b) (sT b) ∧ mS (cW c b) :=
 ⟨EE (sq c b _) hc, EC b he _ (by unfold sT; omega), BU (sq c b _) hk⟩
theorem Hi {c : Ci} {t : Nat} (h : mA c t) : ∀ j, E8 (c.procs.getD j ac) := by
 intro j
 by_cases hj : j < c.procs.length
 ·have q := h.pr j hj
  have := q.rl; have := q.ml
  unfold E8; omega
 ·rw [show c.procs.getD j ac = ac from by simp [List.getD, List.getElem?_eq_none (show c.procs.length ≤ j by omega)]]
  exact Nat.zero_le _
theorem vZ {sx : Int} {b1 me : List Int} (h0 : 0 ≤ sx) (h1 : sx ≤ 255) (hb : f8 b1) : b5 (be sx b1 me) ∧ mA (be sx b1 me) 0 ∧ mS (be sx b1 me) := AN h0 h1 hb me
theorem EI {sx sy : Int} {b1 b2 fe me : List Int} {oth : Bool} (h0 : 0 ≤ sx) (h1 : sx ≤ 255) (hb : f8 b1) (g0 : 0 ≤ sy) (g1 : sy ≤ 255) (hb2 : f8 b2) : b5 (pL sx b1 sy b2 oth fe me) ∧ mA (pL sx b1 sy b2 oth fe me) 0 ∧ mS (pL sx b1 sy b2 oth fe me) := by
 unfold pL; split
 ·exact AN g0 g1 hb2 fe
 ·exact vZ h0 h1 hb
theorem Kb {sx : Int} {b1 fe pl me : List Int} (h0 : 0 ≤ sx) (h1 : sx ≤ 255) (hb : f8 b1) (hf : f8 fe) : gC (be sx b1 me) (dk sx b1 fe pl me) ∧ sQ (dk sx b1 fe pl me) 100 := by
 have hc := (vZ (me := me) h0 h1 hb).1
 have h2 := AH hc hf _ (Nat.le_refl _)
 have h3 := vS hc (pl.take (min pl.length 24)) h2.1 h2.2
 refine ⟨Gl hc h3.1 me, fun n => ?_⟩
 have := h3.2 n
 rw [List.length_take] at this
 exact Nat.le_trans this (by omega)
theorem Gy {sx sy : Int} {b1 b2 ed fe pl me : List Int} {oth : Bool} (h0 : 0 ≤ sx) (h1 : sx ≤ 255) (hb : f8 b1) (g0 : 0 ≤ sy) (g1 : sy ≤ 255) (hb2 : f8 b2) (hf : f8 fe) :
  vY (be sx b1 me) (bw sx b1 sy b2 oth ed fe me) (dk sx b1 fe pl me) := by
 obtain ⟨q1, q2, q3⟩ := vZ (me := me) h0 h1 hb
 obtain ⟨m1, m2, m3⟩ := EI (oth := oth) (fe := fe) (me := me) h0 h1 hb g0 g1 hb2
 obtain ⟨n1, n2, n3⟩ := Gx m1 m2 m3 ed
 obtain ⟨s1, s2⟩ := Kb (fe := fe) (pl := pl) (me := me) h0 h1 hb hf
 exact ⟨q1, n1, Hh q2, Hh n2, fun i hi => (q2.pr i hi).rk, fun i hi => (n2.pr i hi).rk, s1, s2, q3, n3⟩
theorem ss {α : Type} {l : List α} {i : Nat} {d : α} (h : l.length ≤ i) : l.getD i d = d := by simp [List.getD, List.getElem?_eq_none h]
theorem Gz {o n : Ci} {s : Ns} (hco : b5 o) (hcn : b5 n) (hr : ∀ i, i < n.procs.length → BM (n.procs.getD i ac)) (hs : gC o s) (hm : sQ s 1000000) : vI o n s := by
 have h1 := hco.cl; have h2 := hcn.cl; have h3 := hco.nl; have h4 := hcn.nl
 refine ⟨⟨by omega, by omega, by omega, by omega, hs.pl, hs.cl, fun i hi => (hs.pv i hi).rl, fun i hi => (hs.pv i hi).ml, fun i hi => ?_, fun i hi => ?_, fun i hi => (hr i hi).1, fun i hi j hj => ?_, hm⟩, fun i hi j hj => ?_, fun i hi j hj => ?_, fun i j => ?_⟩
 ·have q := hco.pr i hi
  exact ⟨Nat.le_trans q.rl (by decide), Nat.le_trans q.ml (by decide)⟩
 ·have q := hcn.pr i hi
  exact ⟨Nat.le_trans q.rl (by decide), Nat.le_trans q.ml (by decide)⟩
 ·have q : 1 ≤ ((n.procs.getD i ac).mems.getD j au).words ∧ ((n.procs.getD i ac).mems.getD j au).words ≤ 4 := ((hcn.pr i hi).mw j hj).2.1
  exact ⟨(hr i hi).2 j hj, by omega, by omega⟩
 ·have q : 1 ≤ ((n.procs.getD i ac).regs.getD j aC).w ∧ ((n.procs.getD i ac).regs.getD j aC).w ≤ 8 := aQ.1 ((hcn.pr i hi).rw j hj).1
  omega
 ·have q : 1 ≤ ((n.procs.getD i ac).mems.getD j au).w ∧ ((n.procs.getD i ac).mems.getD j au).w ≤ 8 := aQ.1 ((hcn.pr i hi).mw j hj).1
  omega
 ·by_cases hi : i < o.procs.length
  ·have q := hs.pv i hi
   by_cases hj : j < (bD o i).mems.length
   ·have a1 : (((s.procs.getD i aX).mems.getD j []).length : Int) = (jX (bD o i) j).words := q.mn j hj
    have := ((hco.pr i hi).mw j hj).2.1.2
    omega
   ·have hml : ((s.procs.getD i aX).mems).length ≤ j := by have a1 : ((s.procs.getD i aX).mems).length = (bD o i).mems.length := q.ml; omega
    rw [ss hml]; exact Nat.zero_le _
  ·rw [ss (l := s.procs) (by rw [hs.pl]; omega)]; exact Nat.zero_le _
theorem vY.rc {o n : Ci} {s : Ns} (h : vY o n s) : vI o n s := Gz h.co h.cn h.rn h.so (fun i => Nat.le_trans (h.sm i) (by decide))
theorem li {c : Ci} (hc : b5 c) : ∀ i, i < c.procs.length → Ca (c.procs.getD i ac) := fun i hi => ⟨Nat.le_trans (hc.pr i hi).rl (by decide), Nat.le_trans (hc.pr i hi).ml (by decide)⟩
theorem Kc {o n : Ci} {s : Ns} {k : Nat} (hm : sQ s k) (i : Nat) : (cT o n s i).length ≤ k := by
 unfold cT; split
 ·exact hm _
 ·exact Nat.zero_le _
theorem IH {o n : Ci} {s : Ns} (hcn : b5 n) (hm : sQ s 1000000) : G9 (aq o n s).1 := by
 have h2 := hcn.cl; have h4 := hcn.nl
 unfold aq
 split
 ·exact Im
 ·have hp : ∀ i, (tab (d7 o n s) n.procs.length).getD i aX = if i < n.procs.length then d7 o n s i else aX := fun i => by
   split
   ·rename_i h; exact aY h
   ·rename_i h; exact qE (by omega)
  refine ⟨by rw [aL]; omega, by rw [aL]; omega, fun i => ?_, fun i => ?_, fun i => ?_, fun i j => ?_⟩
  ·show ((tab (cT o n s) n.chans.length).getD i []).length ≤ _
   by_cases hi : i < n.chans.length
   ·rw [aY hi]; exact Nat.le_trans (Kc hm i) (by decide)
   ·rw [qE (by omega)]; exact Nat.zero_le _
  ·show ((tab (d7 o n s) n.procs.length).getD i aX).regs.length ≤ _
   rw [hp]; split
   ·rename_i hi
    unfold d7 DJ; rw [aL]; exact Nat.le_trans (hcn.pr i hi).rl (by decide)
   ·exact Nat.zero_le _
  ·show ((tab (d7 o n s) n.procs.length).getD i aX).mems.length ≤ _
   rw [hp]; split
   ·rename_i hi
    unfold d7 DJ; rw [aL]; exact Nat.le_trans (hcn.pr i hi).ml (by decide)
   ·exact Nat.zero_le _
  ·show (((tab (d7 o n s) n.procs.length).getD i aX).mems.getD j []).length ≤ _
   rw [hp]; split
   ·rename_i hi
    unfold d7 DJ
    by_cases hj : j < (n.procs.getD i ac).mems.length
    ·rw [aY hj]
     have q : ((n.procs.getD i ac).mems.getD j au).words ≤ 4 := ((hcn.pr i hi).mw j hj).2.1.2
     unfold fD
     rw [List.length_map, List.length_range]
     omega
    ·rw [qE (by omega)]; exact Nat.zero_le _
   ·exact Nat.zero_le _
end Go.Proofs.Ytnlmlkbaflmgcaa
