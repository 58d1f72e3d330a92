/-
  The examples of the laws, plain data: facts that are computed.
-/
import Derived.Test.YtnlmlkbaflmgcaaQMjK
namespace Go.Proofs.Ytnlmlkbaflmgcaa
open Go.RowKit
set_option linter.unusedVariables false
set_option linter.unusedSimpArgs false
def mz (c : Ci) : Prop := ∀ n, n < c.chans.length → 0 ≤ (eI c n).frm → 0 ≤ (eI c n).dst → 0 < (eI c n).cap
theorem Em (sh : Int) (b : List Int) : mz (az sh b) := by
 intro n hn h1 h2
 rw [(jo sh b).2] at hn
 have e : eI (az sh b) n = r8 sh (ai sh) n := aR hn
 rw [e] at h1 h2 ⊢
 show 0 < (if 0 ≤ vP (ai sh) n (ai sh).length ∧ 0 ≤ vO (ai sh) n (ai sh).length then 1 + (sh / 6 + n) % 3 else 0)
 rw [if_pos ⟨h1, h2⟩]; omega
theorem BJ {c d : Ci} (h : kN c d) (hc : mz c) : mz d := by
 intro n hn h1 h2
 rw [h.cl] at hn
 rw [(h.cw n).2.1] at h1
 rw [(h.cw n).2.2] at h2
 exact h.cq n (hc n hn h1 h2)
def aG (sx : Int) (b1 me : List Int) : Ci := aF (az sx b1) me
def pF (sx : Int) (b1 : List Int) (sy : Int) (b2 : List Int) (oth : Bool) (fe me : List Int) : Ci := if oth = true then aF (az sy b2) fe else aG sx b1 me
def aJ (sx : Int) (b1 : List Int) (sy : Int) (b2 : List Int) (oth : Bool) (ed fe me : List Int) : Ci := cT (pF sx b1 sy b2 oth fe me) ed
def be (sx : Int) (b1 fe pl me : List Int) : Ns := fV (aG sx b1 me) (b5 (aG sx b1 me) (bC (aG sx b1 me) fe) (pl.take (min pl.length 24))) me
structure pG (o n : Ci) (s : Ns) : Prop where
 co : bX o
 cn : bX n
 no : d5 o
 nn : d5 n
 ro : ∀ i, i < o.procs.length → DU (o.procs.getD i af)
 rn : ∀ i, i < n.procs.length → DU (n.procs.getD i af)
 so : fB o s
 sm : pX s 100
 ko : mz o
 kn : mz n
theorem Eo (l : List Int) : AX (l.length : Int) 24 = ((min l.length 24 : Nat) : Int) := by unfold AX; split <;> omega
theorem Ax {sh : Int} {b : List Int} (h0 : 0 ≤ sh) (h1 : sh ≤ 255) (hb : eS b) (me : List Int) : bX (aF (az sh b) me) ∧ l6 (aF (az sh b) me) 0 ∧ mz (aF (az sh b) me) :=
 ⟨F8 (Jx h0 h1 hb) un me, Gh (Gg hb) un me, Em sh b⟩
theorem Gk {c : Ci} (hc : bX c) (he : l6 c 0) (hk : mz c) (b : List Int) : bX (cT c b) ∧ l6 (cT c b) (sN b) ∧ mz (cT c b) :=
 ⟨Ek (sa c b _) hc, Ei b he _ (by unfold sN; omega), BJ (sa c b _) hk⟩
theorem G2 {c : Ci} {t : Nat} (h : l6 c t) : ∀ j, E1 (c.procs.getD j af) := by
 intro j
 by_cases hj : j < c.procs.length
 ·have q := h.pr j hj
  have := q.rl; have := q.ml
  unfold E1; omega
 ·rw [show c.procs.getD j af = af from by simp [List.getD, List.getElem?_eq_none (show c.procs.length ≤ j by omega)]]
  exact Nat.zero_le _
theorem vW {sx : Int} {b1 me : List Int} (h0 : 0 ≤ sx) (h1 : sx ≤ 255) (hb : eS b1) : bX (aG sx b1 me) ∧ l6 (aG sx b1 me) 0 ∧ mz (aG sx b1 me) := Ax h0 h1 hb me
theorem Ep {sx sy : Int} {b1 b2 fe me : List Int} {oth : Bool} (h0 : 0 ≤ sx) (h1 : sx ≤ 255) (hb : eS b1) (g0 : 0 ≤ sy) (g1 : sy ≤ 255) (hb2 : eS b2) : bX (pF sx b1 sy b2 oth fe me) ∧ l6 (pF sx b1 sy b2 oth fe me) 0 ∧ mz (pF sx b1 sy b2 oth fe me) := by
 unfold pF; split
 ·exact Ax g0 g1 hb2 fe
 ·exact vW h0 h1 hb
theorem JJ {sx : Int} {b1 fe pl me : List Int} (h0 : 0 ≤ sx) (h1 : sx ≤ 255) (hb : eS b1) (hf : eS fe) : fB (aG sx b1 me) (be sx b1 fe pl me) ∧ pX (be sx b1 fe pl me) 100 := by
 have hc := (vW (me := me) h0 h1 hb).1
 have h2 := Ap hc hf _ (Nat.le_refl _)
 have h3 := vQ hc (pl.take (min pl.length 24)) h2.1 h2.2
 refine ⟨F9 hc h3.1 me, fun n => ?_⟩
 have := h3.2 n
 rw [List.length_take] at this
 exact Nat.le_trans this (by omega)
theorem Ay {sx sy : Int} {b1 b2 ed fe pl me : List Int} {oth : Bool} (h0 : 0 ≤ sx) (h1 : sx ≤ 255) (hb : eS b1) (g0 : 0 ≤ sy) (g1 : sy ≤ 255) (hb2 : eS b2) (hf : eS fe) :
  pG (aG sx b1 me) (aJ sx b1 sy b2 oth ed fe me) (be sx b1 fe pl me) := by
 obtain ⟨q1, q2, q3⟩ := vW (me := me) h0 h1 hb
 obtain ⟨m1, m2, m3⟩ := Ep (oth := oth) (fe := fe) (me := me) h0 h1 hb g0 g1 hb2
 obtain ⟨n1, n2, n3⟩ := Gk m1 m2 m3 ed
 obtain ⟨s1, s2⟩ := JJ (fe := fe) (pl := pl) (me := me) h0 h1 hb hf
 exact ⟨q1, n1, G1 q2, G1 n2, fun i hi => (q2.pr i hi).rk, fun i hi => (n2.pr i hi).rk, s1, s2, q3, n3⟩
theorem sd {α : Type} {l : List α} {i : Nat} {d : α} (h : l.length ≤ i) : l.getD i d = d := by simp [List.getD, List.getElem?_eq_none h]
theorem Gl {o n : Ci} {s : Ns} (hco : bX o) (hcn : bX n) (hr : ∀ i, i < n.procs.length → DU (n.procs.getD i af)) (hs : fB o s) (hm : pX s 1000000) : DP o n s := by
 have h1 := hco.cl; have h2 := hcn.cl; have h3 := hco.nl; have h4 := hcn.nl
 refine ⟨⟨by omega, by omega, by omega, by omega, hs.pl, hs.cl, fun i hi => (hs.pv i hi).rl, fun i hi => (hs.pv i hi).ml, fun i hi => ?_, fun i hi => ?_, fun i hi => (hr i hi).1, fun i hi j hj => ?_, hm⟩, fun i hi j hj => ?_, fun i hi j hj => ?_, fun i j => ?_⟩
 ·have q := hco.pr i hi
  exact ⟨Nat.le_trans q.rl (by decide), Nat.le_trans q.ml (by decide)⟩
 ·have q := hcn.pr i hi
  exact ⟨Nat.le_trans q.rl (by decide), Nat.le_trans q.ml (by decide)⟩
 ·have q : 1 ≤ ((n.procs.getD i af).mems.getD j aB).words ∧ ((n.procs.getD i af).mems.getD j aB).words ≤ 4 := ((hcn.pr i hi).mw j hj).2.1
  exact ⟨(hr i hi).2 j hj, by omega, by omega⟩
 ·have q : 1 ≤ ((n.procs.getD i af).regs.getD j aO).w ∧ ((n.procs.getD i af).regs.getD j aO).w ≤ 8 := aP.1 ((hcn.pr i hi).rw j hj).1
  omega
 ·have q : 1 ≤ ((n.procs.getD i af).mems.getD j aB).w ∧ ((n.procs.getD i af).mems.getD j aB).w ≤ 8 := aP.1 ((hcn.pr i hi).mw j hj).1
  omega
 ·by_cases hi : i < o.procs.length
  ·have q := hs.pv i hi
   by_cases hj : j < (bx o i).mems.length
   ·have a1 : (((s.procs.getD i aZ).mems.getD j []).length : Int) = (hJ (bx o i) j).words := q.mn j hj
    have := ((hco.pr i hi).mw j hj).2.1.2
    omega
   ·have hml : ((s.procs.getD i aZ).mems).length ≤ j := by have a1 : ((s.procs.getD i aZ).mems).length = (bx o i).mems.length := q.ml; omega
    rw [sd hml]; exact Nat.zero_le _
  ·rw [sd (l := s.procs) (by rw [hs.pl]; omega)]; exact Nat.zero_le _
theorem pG.rc {o n : Ci} {s : Ns} (h : pG o n s) : DP o n s := Gl h.co h.cn h.rn h.so (fun i => Nat.le_trans (h.sm i) (by decide))
theorem G3 {o n : Ci} {s : Ns} {k : Nat} (hm : pX s k) (i : Nat) : (bP o n s i).length ≤ k := by
 unfold bP; split
 ·exact hm _
 ·exact Nat.zero_le _
theorem Ic {o n : Ci} {s : Ns} (hcn : bX n) (hm : pX s 1000000) : GU (ae o n s).1 := by
 have h2 := hcn.cl; have h4 := hcn.nl
 unfold ae
 split
 ·exact HU
 ·have hp : ∀ i, (tab (cO o n s) n.procs.length).getD i aZ = if i < n.procs.length then cO o n s i else aZ := fun i => by
   split
   ·rename_i h; exact aR h
   ·rename_i h; exact nZ (by omega)
  refine ⟨by rw [aH]; omega, by rw [aH]; omega, fun i => ?_, fun i => ?_, fun i => ?_, fun i j => ?_⟩
  ·show ((tab (bP o n s) n.chans.length).getD i []).length ≤ _
   by_cases hi : i < n.chans.length
   ·rw [aR hi]; exact Nat.le_trans (G3 hm i) (by decide)
   ·rw [nZ (by omega)]; exact Nat.zero_le _
  ·show ((tab (cO o n s) n.procs.length).getD i aZ).regs.length ≤ _
   rw [hp]; split
   ·rename_i hi
    unfold cO DA; rw [aH]; exact Nat.le_trans (hcn.pr i hi).rl (by decide)
   ·exact Nat.zero_le _
  ·show ((tab (cO o n s) n.procs.length).getD i aZ).mems.length ≤ _
   rw [hp]; split
   ·rename_i hi
    unfold cO DA; rw [aH]; exact Nat.le_trans (hcn.pr i hi).ml (by decide)
   ·exact Nat.zero_le _
  ·show (((tab (cO o n s) n.procs.length).getD i aZ).mems.getD j []).length ≤ _
   rw [hp]; split
   ·rename_i hi
    unfold cO DA
    by_cases hj : j < (n.procs.getD i af).mems.length
    ·rw [aR hj]
     have q : ((n.procs.getD i af).mems.getD j aB).words ≤ 4 := ((hcn.pr i hi).mw j hj).2.1.2
     unfold fp
     rw [List.length_map, List.length_range]
     omega
    ·rw [nZ (by omega)]; exact Nat.zero_le _
   ·exact Nat.zero_le _
def ab (nm : ByteArray) (w : Int) (r : ao) : Rg := ⟨nm, w, 0, ⟨16, e0, ⟨0, e0⟩, ⟨0, e0⟩, []⟩, r⟩
def KL : Ex := ⟨1, e0, ⟨0, e0⟩, ⟨1, e0⟩, []⟩
def Lk : Ex := ⟨1, e0, ⟨0, e0⟩, ⟨2, e0⟩, []⟩
def aj (nm : ByteArray) (n : Int) (r : ao) : Mm := ⟨nm, 2, n, KL, KL, Lk, r⟩
def ak (r : List Rg) (m : List Mm) : Ci := ⟨[⟨bs [112], bs [97], r, m, [], []⟩], []⟩
def ez (a b : Ns) (ea eb : Int) : Bool := decide (ea = eb) && ck a b
theorem Gm {a b : Ns} {ea eb : Int} (h : ¬ea = eb) : ez a b ea eb = false := by unfold ez; rw [decide_eq_false h]; rfl
theorem Er {a b : Ns} {ea eb : Int} (h : ea = eb) : ez a b ea eb = ck a b := by unfold ez; rw [decide_eq_true h]; rfl
theorem vX (a : Ns) (e : Int) : ez a a e e = true := by rw [Er rfl]; exact yK.2 rfl
theorem iu (a b : ByteArray) : (a.toList == b.toList) = decide (a = b) := by
 by_cases h : a = b
 ·rw [h, decide_eq_true rfl]; simp
 ·rw [decide_eq_false h]; exact beq_eq_false_iff_ne.2 (fun e => h (toList_inj e))
theorem Ie {x y : ByteArray} (h : (!(x.toList == y.toList)) = false) : x = y := by
 rw [iu] at h; simpa using h
theorem yP {x : ByteArray} (h : (!(x.toList == x.toList)) = true) : False := by
 rw [iu] at h; simp at h
def rK : ao := ⟨1, e0, 0⟩
def rC (s : ByteArray) : ao := ⟨2, s, 0⟩
def rA (s : ByteArray) (n : Int) : ao := ⟨3, s, n⟩
def s7 : Ci := ak [ab (bs [114]) 2 rK] [aj (bs [109]) 2 rK]
def JK : Ci := ak [ab (bs [114]) 2 rK] []
def JL : Ci := ak [ab (bs [120]) 1 (rC (bs [114]))] [aj (bs [110]) 4 (rC (bs [109]))]
def JM : Ci := ak [ab (bs [120]) 3 (rA (bs [114]) 2)] [aj (bs [110]) 4 (rA (bs [109]) 1)]
def xM : Ns := ⟨[⟨[3], [[1, 2]]⟩], []⟩
def kq : Ci := ⟨[⟨bs [112], bs [97], [], [], [], [⟨0, 2, KL, Lk⟩]⟩], [⟨bs [99], 2, 0, 0, -1⟩]⟩
def JN : Ns := ⟨[⟨[], []⟩], [[1]]⟩
theorem Ll : ae s7 JK xM = (⟨[⟨[3], []⟩], []⟩, 0) := by rfl
theorem Lm : ae s7 JL xM = (⟨[⟨[1], [[1, 2, 0, 0]]⟩], []⟩, 0) := by rfl
theorem Ln : ae s7 JM xM = (⟨[⟨[5], [[2, 3, 1, 1]]⟩], []⟩, 0) := by rfl
theorem Lz : (ae kq Kd JN).2 = 150 := by rfl
theorem LA : (ae kq kq JN).2 = 0 := by rfl
theorem LC : aK kq Kd kq.chans.length = [bs [99]] := by rfl
theorem LD : cP s7 s7 = true := by
 unfold cP kh iQ FQ FR eL dW iR mq
 simp only [iu]
 decide +kernel
theorem LF : cP s7 (ak [] []) = false := by
 refine gL (i := 0) (by decide) ?_
 unfold kh iQ FQ FR eL dW iR
 simp only [iu]
 decide +kernel
theorem se {o n : Ci} {s : Ns} (h1 : o.chans.length ≤ 1000000) (h2 : n.chans.length ≤ 1000000) (h3 : o.procs.length ≤ 1000000) (h4 : n.procs.length ≤ 1000000) (h5 : s.procs.length = o.procs.length) (h6 : s.chans.length = o.chans.length)
  (h7 : ∀ i, i < o.procs.length → (s.procs.getD i aZ).regs.length = (o.procs.getD i af).regs.length ∧ (s.procs.getD i aZ).mems.length = (o.procs.getD i af).mems.length ∧ (o.procs.getD i af).regs.length ≤ 1000000 ∧ (o.procs.getD i af).mems.length ≤ 1000000)
  (h8 : ∀ i, i < n.procs.length → (n.procs.getD i af).regs.length ≤ 1000000 ∧ (n.procs.getD i af).mems.length ≤ 1000000 ∧ (∀ j, j < (n.procs.getD i af).regs.length → 0 ≤ ((n.procs.getD i af).regs.getD j aO).rule.kind ∧ ((n.procs.getD i af).regs.getD j aO).rule.kind ≤ 3) ∧ ∀ j, j < (n.procs.getD i af).mems.length → (0 ≤ ((n.procs.getD i af).mems.getD j aB).rule.kind ∧ ((n.procs.getD i af).mems.getD j aB).rule.kind ≤ 3) ∧ 0 ≤ ((n.procs.getD i af).mems.getD j aB).words ∧ ((n.procs.getD i af).mems.getD j aB).words ≤ 1000000)
  (h9 : pX s 1000000) : oi o n s :=
 ⟨h1, h2, h3, h4, h5, h6, fun i hi => (h7 i hi).1, fun i hi => (h7 i hi).2.1, fun i hi => (h7 i hi).2.2, fun i hi => ⟨(h8 i hi).1, (h8 i hi).2.1⟩, fun i hi => (h8 i hi).2.2.1, fun i hi => (h8 i hi).2.2.2, h9⟩
theorem Ig : pX xM 1000000 := GX (by decide)
theorem JO : pX JN 1000000 := GX (by decide)
theorem KM : oi s7 JK xM := se (by decide) (by decide) (by decide) (by decide) rfl rfl (by decide) (by decide) Ig
theorem KN : oi s7 JL xM := se (by decide) (by decide) (by decide) (by decide) rfl rfl (by decide) (by decide) Ig
theorem KO : oi s7 JM xM := se (by decide) (by decide) (by decide) (by decide) rfl rfl (by decide) (by decide) Ig
theorem KP : oi kq Kd JN := se (by decide) (by decide) (by decide) (by decide) rfl rfl (by decide) (by decide) JO
theorem KQ : oi kq kq JN := se (by decide) (by decide) (by decide) (by decide) rfl rfl (by decide) (by decide) JO
theorem sf {α : Type} {l : List α} {d : α} {P : α → Prop} (h : ∀ x ∈ l, P x) (hd : P d) (i : Nat) : P (l.getD i d) := by
 by_cases hi : i < l.length
 ·rw [ct _ _ hi]; exact h _ (List.getElem_mem hi)
 ·rw [sd (by omega)]; exact hd
theorem vY {a : Ns} (h1 : a.procs.length ≤ 1000000) (h2 : a.chans.length ≤ 1000000) (h3 : ∀ l ∈ a.chans, l.length ≤ 1099511627776) (h4 : ∀ p ∈ a.procs, p.regs.length ≤ 1000000 ∧ p.mems.length ≤ 1000000 ∧ ∀ l ∈ p.mems, l.length ≤ 1000000) : GU a := by
 have hp := fun i => sf (d := aZ) (P := fun (p : Ps) => p.regs.length ≤ 1000000 ∧ p.mems.length ≤ 1000000 ∧ ∀ l ∈ p.mems, l.length ≤ 1000000) h4 ⟨Nat.zero_le _, Nat.zero_le _, fun l hl => by cases hl⟩ i
 exact ⟨h1, h2, fun n => sf (P := fun (l : List Int) => l.length ≤ 1099511627776) h3 (Nat.zero_le _) n, fun i => (hp i).1, fun i => (hp i).2.1, fun i j => sf (P := fun (l : List Int) => l.length ≤ 1000000) (hp i).2.2 (Nat.zero_le _) j⟩
theorem KR : ez (ae s7 JK xM).1 ⟨[⟨[3], []⟩], []⟩ (ae s7 JK xM).2 0 = true := by rw [Ll]; exact vX _ _
theorem KS : ez (ae s7 JL xM).1 ⟨[⟨[1], [[1, 2, 0, 0]]⟩], []⟩ (ae s7 JL xM).2 0 = true := by rw [Lm]; exact vX _ _
theorem KT : ez (ae s7 JM xM).1 ⟨[⟨[5], [[2, 3, 1, 1]]⟩], []⟩ (ae s7 JM xM).2 0 = true := by rw [Ln]; exact vX _ _
theorem KU : GU (ae s7 JK xM).1 := by rw [Ll]; exact vY (by decide) (by decide) (by decide) (by decide)
theorem KV : GU (ae s7 JL xM).1 := by rw [Lm]; exact vY (by decide) (by decide) (by decide) (by decide)
theorem KW : GU (ae s7 JM xM).1 := by rw [Ln]; exact vY (by decide) (by decide) (by decide) (by decide)
theorem KX : ¬cP s7 (ak [] []) = true := by rw [LF]; simp
theorem Ih : ∀ i, i < s7.procs.length → FS (s7.procs.getD i af) := by unfold FS; decide
theorem KY : ∀ i, i < (ak [] []).procs.length → FS ((ak [] []).procs.getD i af) := by unfold FS; decide
end Go.Proofs.Ytnlmlkbaflmgcaa
