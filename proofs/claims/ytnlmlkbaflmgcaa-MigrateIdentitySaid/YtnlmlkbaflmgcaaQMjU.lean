/-
  What is carried to a circuit that keeps everything, and back.
-/
import Derived.Test.YtnlmlkbaflmgcaaQMjR
namespace Go.Proofs.Ytnlmlkbaflmgcaa
open Go.RowKit
set_option linter.unusedVariables false
set_option linter.unusedSimpArgs false
theorem E4 {v w : Int} (h : cg v w) (hw : aI w = true) : kx v w = v := by
 have hw := aM.1 hw
 obtain ⟨h0, h1⟩ := h
 rw [cI (by omega) (by omega)] at h1
 unfold kx
 rw [if_pos (by omega)]
 exact Int.emod_eq_of_lt h0 (by omega)
theorem LH {r : Rg} {f : Sr} {j : Nat} (hk : r.rule.kind = 1) (hf : f.is = true) (hj : j < f.p.regs.length) (hd : eW (dc f.p) f.p.regs.length) (hn : (f.p.regs.getD j aK).name = r.name) (hw : (f.p.regs.getD j aK).w = r.w) (hv : cg (f.s.regs.getD j 0) r.w) (hw' : aI r.w = true) : pN r f = f.s.regs.getD j 0 := by
 have hx : mq f.p r.name = (j : Int) := by
  show th (dc f.p) f.p.regs.length r.name = _
  rw [← hn]; exact i8 hd hj
 have hi : H7 r f = (j : Int) := by
  unfold H7
  rw [if_neg (by rw [hk]; omega), if_pos ⟨hf, hk⟩, hx, Int.toNat_natCast, if_neg (fun hh => hh.2 hw)]
 unfold pN B1
 rw [if_neg (by omega), hi, if_pos (by omega), Int.toNat_natCast]
 exact E4 hv hw'
theorem LJ {m : Mm} {f : Sr} {j z : Nat} (hk : m.rule.kind = 1) (hf : f.is = true) (hj : j < f.p.mems.length) (hd : eW (d4 f.p) f.p.mems.length) (hn : (f.p.mems.getD j ax).name = m.name) (hw : (f.p.mems.getD j ax).w = m.w) (hwo : (f.p.mems.getD j ax).words = m.words)
  (hz : z < (f.s.mems.getD j []).length) (hv : cg ((f.s.mems.getD j []).getD z 0) m.w) (hw' : aI m.w = true) : mr m f z = (f.s.mems.getD j []).getD z 0 := by
 have hx : jX f.p m.name = (j : Int) := by
  show th (d4 f.p) f.p.mems.length m.name = _
  rw [← hn]; exact i8 hd hj
 have hi : Hg m f = (j : Int) := by
  unfold Hg
  rw [if_neg (by rw [hk]; omega), if_pos ⟨hf, hk⟩, hx, Int.toNat_natCast, if_neg (fun hh => by rcases hh.2 with h | h; exact h hw; exact h hwo)]
 unfold mr B2
 rw [if_neg (by omega), hi, Int.toNat_natCast, if_pos ⟨by omega, hz⟩]
 exact E4 hv hw'
theorem fq {α : Type} {f : Nat → α} {l : List α} {n : Nat} (d : α) (hl : l.length = n) (h : ∀ i, i < n → f i = l.getD i d) : tab f n = l := by
 subst hl
 apply List.ext_getElem (aJ _ _)
 intro i h1 h2
 have := aL (f := f) (n := l.length) (d := d) h2
 rw [bC _ _ h1, h i h2, bC _ _ h2] at this
 exact this
theorem E5 {a b : Ps} (h1 : a.regs = b.regs) (h2 : a.mems = b.mems) : a = b := by cases a; cases b; simp_all
structure tr (o d : Ci) : Prop where
 pl : d.procs.length = o.procs.length
 ch : d.chans = o.chans
 pn : ∀ i, fu d i = fu o i
 rl : ∀ i, (aZ d i).regs.length = (aZ o i).regs.length
 ml : ∀ i, (aZ d i).mems.length = (aZ o i).mems.length
 rg : ∀ i j, (oT (aZ d i) j).name = (oT (aZ o i) j).name ∧ (oT (aZ d i) j).w = (oT (aZ o i) j).w
 mm : ∀ i j, (dK (aZ d i) j).name = (dK (aZ o i) j).name ∧ (dK (aZ d i) j).w = (dK (aZ o i) j).w ∧ (dK (aZ d i) j).words = (dK (aZ o i) j).words
 rk : ∀ i j, j < (aZ d i).regs.length → (oT (aZ d i) j).rule.kind = 1
 mk' : ∀ i j, j < (aZ d i).mems.length → (dK (aZ d i) j).rule.kind = 1
theorem rh {o d : Ci} (t : tr o d) (h : d7 o) : d7 d := by
 refine ⟨?_, ?_, fun i hi => ?_, fun i hi => ?_⟩
 ·intro i hi j hj; unfold be; rw [t.ch] at hi ⊢; exact h.cn i hi j hj
 ·intro i hi j hj; rw [t.pl] at hi; rw [t.pn, t.pn]; exact h.pn i hi j hj
 ·rw [t.pl] at hi
  intro a ha b hb
  have ha' : a < (aZ o i).regs.length := by rw [← t.rl]; exact ha
  have := h.rn i hi a ha' b hb
  unfold dc at this ⊢
  intro e; exact this ((t.rg i b).1.symm.trans (e.trans (t.rg i a).1))
 ·rw [t.pl] at hi
  intro a ha b hb
  have ha' : a < (aZ o i).mems.length := by rw [← t.ml]; exact ha
  have := h.mn i hi a ha' b hb
  unfold d4 at this ⊢
  intro e; exact this ((t.mm i b).1.symm.trans (e.trans (t.mm i a).1))
theorem oQ {o d : Ci} (t : tr o d) : ∀ i, i < d.procs.length → y8 (d.procs.getD i ac) := fun i _ =>
 ⟨fun j hj => by have := t.rk i j hj; show 0 ≤ (oT (aZ d i) j).rule.kind ∧ (oT (aZ d i) j).rule.kind ≤ 3; omega, fun j hj => by have := t.mk' i j hj; show 0 ≤ (dK (aZ d i) j).rule.kind ∧ (dK (aZ d i) j).rule.kind ≤ 3; omega⟩
theorem E6 {p : Pr} {f : Sr} (hf : f.is = true) {st : Ps} (hrl : st.regs.length = p.regs.length) (hml : st.mems.length = p.mems.length)
  (hr : ∀ j, j < p.regs.length → pN (p.regs.getD j aK) f = st.regs.getD j 0) (hm : ∀ j, j < p.mems.length → (st.mems.getD j []).length = (p.mems.getD j ax).words.toNat ∧ ∀ z, z < (p.mems.getD j ax).words.toNat → mr (p.mems.getD j ax) f z = (st.mems.getD j []).getD z 0) : gu p f = st := by
 refine E5 ?_ ?_
 ·exact fq 0 hrl hr
 ·exact fq [] hml (fun j hj => fq 0 (hm j hj).1 (hm j hj).2)
def xT (c : Ci) : Prop := ∀ n, n < c.chans.length → 0 < (d9 c n).cap → 0 ≤ (d9 c n).frm ∧ 0 ≤ (d9 c n).dst
theorem E7 (sh : Int) (b : List Int) : xT (ay sh b) := by
 intro n hn h
 rw [(gQ sh b).2] at hn
 have e : d9 (ay sh b) n = qP sh (ai sh) n := aL hn
 rw [e] at h ⊢
 have h : 0 < (if 0 ≤ uC (ai sh) n (ai sh).length ∧ 0 ≤ uB (ai sh) n (ai sh).length then 1 + (sh / 6 + n) % 3 else 0) := h
 split at h
 ·rename_i hh; exact hh
 ·omega
theorem sR {o : Ci} (no : d7 o) {i : Nat} (hi : i < o.procs.length) {k : ByteArray} (e : fu o i = k) : pM o k = (i : Int) := by
 rw [← e]; exact i8 no.pn hi
theorem sS {o d : Ci} {s : Ns} (t : tr o d) (hco : bS o) (no : d7 o) (hs : er o s) (hci : xT o) : af o d s = (s, 0) := by
 have nd := rh t no
 have hcl : d.chans.length = o.chans.length := by rw [t.ch]
 have hrm : ∀ i, i < o.chans.length → sY o d i = false := by
  intro i hi
  cases h : sY o d i
  ·rfl
  ·exact absurd (by rw [t.ch]) (ra nd h (k := i) (by omega) (by unfold be; rw [t.ch]))
 rw [AJ no nd (oQ t)]
 have hw : ∀ i, i < d.chans.length → kT o d s i = s.chans.getD i [] := by
  intro i hi
  rw [← lO no nd, rf no nd (i := i) (by omega) hi (by unfold be; rw [t.ch]), if_pos (by rw [t.ch])]
 rw [AI (fun i hi => by unfold jq; rw [rb no hi, hrm i hi]; rfl) (fun i hi => by
  unfold iT
  rw [hw i hi, t.ch]
  rcases Int.lt_or_le 0 (o.chans.getD i aB).cap with h0 | h0
  ·obtain ⟨a, b⟩ := hci i (by omega) h0
   have := hs.cc i (by omega) a b
   have e1 : ((s.chans.getD i []).length : Int) ≤ (o.chans.getD i aB).cap := this
   rw [show decide ((o.chans.getD i aB).cap < ((s.chans.getD i []).length : Int)) = false from decide_eq_false (by omega), Bool.and_false]
  ·rw [decide_eq_false (by omega)]; rfl)]
 have hp : tab (j4 o d s) d.procs.length = s.procs := by
  refine fq aW (by rw [hs.pl, t.pl]) (fun i hi => ?_)
  rw [t.pl] at hi
  have hv := hs.pv i hi
  have hpo := hco.pr i hi
  unfold j4
  rw [y7 (by rw [sR no hi (t.pn i).symm]; omega), sR no hi (t.pn i).symm, Int.toNat_natCast]
  refine E6 rfl (by rw [hv.rl]; exact (t.rl i).symm) (by rw [hv.ml]; exact (t.ml i).symm) (fun j hj => ?_) (fun j hj => ?_)
  ·have hj' : j < (aZ o i).regs.length := by rw [← t.rl]; exact hj
   obtain ⟨q1, q2⟩ := t.rg i j
   have e2 : (d.procs.getD i ac).regs.getD j aK = oT (aZ d i) j := rfl
   rw [e2]
   exact LH (f := ⟨true, o.procs.getD i ac, s.procs.getD i aW⟩) (t.rk i j hj) rfl hj' (no.rn i hi) q1.symm q2.symm (by rw [q2]; exact hv.rv j hj') (by rw [q2]; exact (hpo.rw j hj').1)
  ·have hj' : j < (aZ o i).mems.length := by rw [← t.ml]; exact hj
   obtain ⟨q1, q2, q3⟩ := t.mm i j
   have e2 : (d.procs.getD i ac).mems.getD j ax = dK (aZ d i) j := rfl
   rw [e2, q3]
   have hl := hv.mn j hj'
   have hl' : ((s.procs.getD i aW).mems.getD j []).length = (dK (aZ o i) j).words.toNat := by have : (((s.procs.getD i aW).mems.getD j []).length : Int) = (dK (aZ o i) j).words := hl; omega
   refine ⟨hl', fun z hz => ?_⟩
   exact LJ (f := ⟨true, o.procs.getD i ac, s.procs.getD i aW⟩) (t.mk' i j hj) rfl hj' (no.mn i hi) q1.symm q2.symm q3.symm (by show z < ((s.procs.getD i aW).mems.getD j []).length; omega) (by rw [q2]; exact hv.mv j hj' z (by show z < ((s.procs.getD i aW).mems.getD j []).length; omega)) (by rw [q2]; exact (hpo.mw j hj').1)
 have hc : tab (kT o d s) d.chans.length = s.chans := fq [] (by rw [hs.cl, hcl]) hw
 rw [hp, hc]
theorem zp {o d : Ci} (t : tr o d) (no : d7 o) : bQ d d = true := by
 have nd := rh t no
 rw [xj nd]
 have hrm : ∀ i, i < d.chans.length → sY d d i = false := by
  intro i hi
  cases h : sY d d i
  ·rfl
  ·exact absurd rfl (ra nd h (k := i) hi rfl)
 have hnil : yX d d d.chans.length = [] := by
  rw [List.eq_nil_iff_forall_not_mem]
  intro x hx
  obtain ⟨j, hj, a, _⟩ := (pO _).1 hx
  rw [hrm j hj] at a; cases a
 refine F3 (by rw [hnil]; simp) (fun i hi => ?_) (fun i hi => ?_)
 ·unfold yY D5
  rw [show ky d (be d i) = (i : Int) from i8 nd.cn hi, Int.toNat_natCast]
  by_cases h0 : (d.chans.getD i aB).cap = 0
  ·rw [h0]; rfl
  ·rw [il h0, decide_eq_false (show ¬(d.chans.getD i aB).cap < (d.chans.getD i aB).cap by omega), Bool.and_false]; rfl
 ·unfold yZ
  rw [sR nd hi rfl, if_neg (by omega), Int.toNat_natCast]
  refine F2 (fun j hj => ?_) (fun j hj => ?_)
  ·have hx : mq (d.procs.getD i ac) (dc (d.procs.getD i ac) j) = (j : Int) := i8 (nd.rn i hi) hj
   exact JE (by rw [hx]; omega) (by rw [hx]; rfl) (by rw [hx]; exact t.rk i j hj)
  ·have hx : jX (d.procs.getD i ac) (d4 (d.procs.getD i ac) j) = (j : Int) := i8 (nd.mn i hi) hj
   exact JF (by rw [hx]; omega) (by rw [hx]; rfl) (by rw [hx]; rfl) (by rw [hx]; exact t.mk' i j hj)
structure GY (o n : Ci) (s : Ns) : Prop where
 rm : ∀ i, i < o.chans.length → sY o n i = false
 ro : ∀ i, i < o.chans.length → yY o n i = true
 rk : ∀ i, i < o.procs.length → yZ o n i = true
 lo : ∀ i, i < o.chans.length → (o.chans.getD i aB).cap = 0 → (s.chans.getD i []).length ≤ 8
theorem Kk {o n : Ci} {s : Ns} (nn : d7 n) (h : bQ o n = true) (hl : ∀ i, i < o.chans.length → (o.chans.getD i aB).cap = 0 → (s.chans.getD i []).length ≤ 8) : GY o n s := by
 rw [xj nn] at h
 unfold D6 at h
 rw [Bool.and_eq_true, Bool.and_eq_true, aR, aR] at h
 obtain ⟨h1, h2, h3⟩ := h
 exact ⟨vQ (List.isEmpty_iff.1 h1), h2, h3, hl⟩
theorem xU {o n : Ci} {s : Ns} (h : nx o n s) (hx : GY o n s) (hci : xT o) : (af o n s).2 = 0 := by
 rcases pT (s := s) h.no h.nn with ⟨e, _, _⟩ | ⟨e, hb⟩
 ·rw [e]
 ·exfalso
  rcases hb with ⟨i, hi, hb⟩ | ⟨k, hk, hb⟩
  ·unfold jq at hb
   rw [rb h.no hi, hx.rm i hi] at hb; cases hb
  ·unfold bz at hb
   rw [Bool.and_eq_true, decide_eq_true_eq, decide_eq_true_eq] at hb
   rcases nz (s := s) h.no h.nn hk with h0 | ⟨i, hi, e2, hw, e3⟩
   ·rw [h0] at hb; have := hb.1; have := hb.2; simp only [List.length_nil] at this; omega
   ·rw [e3] at hb
    have hr := hx.ro i hi
    unfold yY D5 at hr
    rw [show ky n (be o i) = (k : Int) from by rw [e2]; exact i8 h.nn.cn hk, Int.toNat_natCast, decide_eq_true hb.1, Bool.true_and, Bool.not_eq_true', decide_eq_false_iff_not] at hr
    by_cases h0 : (o.chans.getD i aB).cap = 0
    ·rw [i7 h0] at hr
     have := hx.lo i hi h0
     omega
    ·rw [il h0] at hr
     have hc0 : 0 ≤ (o.chans.getD i aB).cap := h.co.cp i hi
     obtain ⟨a, b⟩ := hci i hi (show 0 < (o.chans.getD i aB).cap by omega)
     have : ((s.chans.getD i []).length : Int) ≤ (o.chans.getD i aB).cap := h.so.cc i hi a b
     omega
theorem GZ {o n d : Ci} {s : Ns} (h : nx o n s) (hx : GY o n s) (hci : xT o) (t : tr o d) : af n d (af o n s).1 = (s, 0) := by
 have nd := rh t h.no
 have no := h.no
 have nn := h.nn
 have hcl : d.chans.length = o.chans.length := by rw [t.ch]
 have hcd : ∀ i, be d i = be o i := fun i => by unfold be; rw [t.ch]
 rw [(E1 no nn (xU h hx hci)).1]
 generalize htt : (⟨tab (ew o n s) n.procs.length, tab (bP o n s) n.chans.length⟩ : Ns) = tt
 have hcw : ∀ k, k < n.chans.length → tt.chans.getD k [] = bP o n s k := fun k hk => by rw [← htt]; exact aL hk
 have hpp : ∀ k, k < n.procs.length → tt.procs.getD k aW = ew o n s k := fun k hk => by rw [← htt]; exact aL hk
 rw [AJ nn nd (oQ t)]
 have hw : ∀ i, i < d.chans.length → kT n d tt i = s.chans.getD i [] := by
  intro i hi
  have hi' : i < o.chans.length := by omega
  obtain ⟨k, hk, ek, hwk⟩ := xS nn (hx.rm i hi')
  rw [← lO nn nd, rf nn nd hk hi (by rw [hcd]; exact ek), if_pos (by rw [t.ch]; exact hwk), hcw k hk, rf no nn hi' hk ek.symm, if_pos hwk.symm]
 have hcap : ∀ i, i < d.chans.length → iT n d tt i = false := by
  intro i hi
  unfold iT
  rw [hw i hi, t.ch]
  rcases Int.lt_or_le 0 (o.chans.getD i aB).cap with h0 | h0
  ·obtain ⟨a, b⟩ := hci i (by omega) h0
   have e1 : ((s.chans.getD i []).length : Int) ≤ (o.chans.getD i aB).cap := h.so.cc i (by omega) a b
   rw [show decide ((o.chans.getD i aB).cap < ((s.chans.getD i []).length : Int)) = false from decide_eq_false (by omega), Bool.and_false]
  ·rw [decide_eq_false (by omega)]; rfl
 have hgb : ∀ k, k < n.chans.length → jq n d tt k = false := by
  intro k hk
  unfold jq
  rw [rb nn hk, hcw k hk]
  cases hm : sY n d k
  ·rfl
  ·rw [Bool.true_and, decide_eq_false_iff_not]
   rcases nz (s := s) no nn hk with h0 | ⟨i, hi, e2, hwi, e3⟩
   ·rw [h0]; simp
   ·exfalso
    refine ra nd hm (k := i) (by omega) ((hcd i).trans e2) ?_
    rw [t.ch]; exact hwi
 rw [AI hgb hcap]
 have hp : tab (j4 n d tt) d.procs.length = s.procs := by
  refine fq aW (by rw [h.so.pl, t.pl]) (fun i hi => ?_)
  rw [t.pl] at hi
  have hv := h.so.pv i hi
  have hpo := h.co.pr i hi
  have hrk := hx.rk i hi
  unfold yZ at hrk
  unfold j4
  rcases dG nn.pn (fu o i) with ⟨k, hk, ek, _, _, e3⟩ | ⟨h1, _, e3⟩
  ·have hpx : pM n (fu o i) = (k : Int) := e3
   rw [hpx, if_neg (by omega), Int.toNat_natCast] at hrk
   unfold IW at hrk
   rw [Bool.and_eq_true, aR, aR] at hrk
   rw [y7 (by rw [t.pn, hpx]; omega), t.pn, hpx, Int.toNat_natCast, hpp k hk, sn no (h.rn k hk)]
   have hsrc : F8 o n s k = ⟨true, o.procs.getD i ac, s.procs.getD i aW⟩ := by
    rw [y7 (by rw [sR no hi ek.symm]; omega), sR no hi ek.symm, Int.toNat_natCast]
   unfold j4
   rw [hsrc]
   refine E6 rfl (by rw [hv.rl]; exact (t.rl i).symm) (by rw [hv.ml]; exact (t.ml i).symm) (fun j hj => ?_) (fun j hj => ?_)
   ·have hj' : j < (aZ o i).regs.length := by rw [← t.rl]; exact hj
    obtain ⟨q1, q2⟩ := t.rg i j
    have hr := hrk.1 j hj'
    unfold H3 at hr
    rcases dG (nn.rn k hk) (dc (o.procs.getD i ac) j) with ⟨m, hm, em, _, _, e4⟩ | ⟨_, _, e4⟩
    ·have hrx : mq (n.procs.getD k ac) (dc (o.procs.getD i ac) j) = (m : Int) := e4
     rw [hrx, Int.toNat_natCast, Bool.and_eq_true, Bool.and_eq_true, decide_eq_true_eq, decide_eq_true_eq, decide_eq_true_eq] at hr
     obtain ⟨_, hw1, hk1⟩ := hr
     have hval : pN ((n.procs.getD k ac).regs.getD m aK) ⟨true, o.procs.getD i ac, s.procs.getD i aW⟩ = (s.procs.getD i aW).regs.getD j 0 :=
      LH (f := ⟨true, o.procs.getD i ac, s.procs.getD i aW⟩) hk1 rfl hj' (no.rn i hi) em.symm hw1.symm (by rw [hw1]; exact hv.rv j hj') (by rw [hw1]; exact (hpo.rw j hj').1)
     have hget : (gu (n.procs.getD k ac) ⟨true, o.procs.getD i ac, s.procs.getD i aW⟩).regs.getD m 0 = (s.procs.getD i aW).regs.getD j 0 := by
      rw [show (gu (n.procs.getD k ac) ⟨true, o.procs.getD i ac, s.procs.getD i aW⟩).regs.getD m 0 = pN ((n.procs.getD k ac).regs.getD m aK) ⟨true, o.procs.getD i ac, s.procs.getD i aW⟩ from aL hm]
      exact hval
     have e2 : (d.procs.getD i ac).regs.getD j aK = oT (aZ d i) j := rfl
     rw [e2, ← hget]
     refine LH (j := m) (f := ⟨true, n.procs.getD k ac, gu (n.procs.getD k ac) ⟨true, o.procs.getD i ac, s.procs.getD i aW⟩⟩) (t.rk i j hj) rfl hm (nn.rn k hk) ?_ ?_ ?_ ?_
     ·rw [q1]; exact em
     ·rw [q2]; exact hw1
     ·show cg ((gu (n.procs.getD k ac) ⟨true, o.procs.getD i ac, s.procs.getD i aW⟩).regs.getD m 0) _
      rw [hget, q2]; exact hv.rv j hj'
     ·rw [q2]; exact (hpo.rw j hj').1
    ·exfalso
     rw [show mq (n.procs.getD k ac) (dc (o.procs.getD i ac) j) = -1 from e4] at hr
     simp at hr
   ·have hj' : j < (aZ o i).mems.length := by rw [← t.ml]; exact hj
    obtain ⟨q1, q2, q3⟩ := t.mm i j
    have hr := hrk.2 j hj'
    unfold H4 at hr
    have hl' : ((s.procs.getD i aW).mems.getD j []).length = (dK (aZ o i) j).words.toNat := by have : (((s.procs.getD i aW).mems.getD j []).length : Int) = (dK (aZ o i) j).words := hv.mn j hj'; omega
    have e2 : (d.procs.getD i ac).mems.getD j ax = dK (aZ d i) j := rfl
    rw [e2, q3]
    refine ⟨hl', fun z hz => ?_⟩
    rcases dG (nn.mn k hk) (d4 (o.procs.getD i ac) j) with ⟨m, hm, em, _, _, e4⟩ | ⟨_, _, e4⟩
    ·have hrx : jX (n.procs.getD k ac) (d4 (o.procs.getD i ac) j) = (m : Int) := e4
     rw [hrx, Int.toNat_natCast, Bool.and_eq_true, Bool.and_eq_true, Bool.and_eq_true, decide_eq_true_eq, decide_eq_true_eq, decide_eq_true_eq, decide_eq_true_eq] at hr
     obtain ⟨_, hw1, hwo1, hk1⟩ := hr
     have hz' : z < ((s.procs.getD i aW).mems.getD j []).length := by omega
     have hval : mr ((n.procs.getD k ac).mems.getD m ax) ⟨true, o.procs.getD i ac, s.procs.getD i aW⟩ z = ((s.procs.getD i aW).mems.getD j []).getD z 0 :=
      LJ (f := ⟨true, o.procs.getD i ac, s.procs.getD i aW⟩) hk1 rfl hj' (no.mn i hi) em.symm hw1.symm hwo1.symm hz' (by rw [hw1]; exact hv.mv j hj' z hz') (by rw [hw1]; exact (hpo.mw j hj').1)
     have hwz : z < ((n.procs.getD k ac).mems.getD m ax).words.toNat := by
      have e5 : ((n.procs.getD k ac).mems.getD m ax).words = (dK (aZ o i) j).words := hwo1
      rw [e5]; exact hz
     have hrow : (gu (n.procs.getD k ac) ⟨true, o.procs.getD i ac, s.procs.getD i aW⟩).mems.getD m [] = tab (mr ((n.procs.getD k ac).mems.getD m ax) ⟨true, o.procs.getD i ac, s.procs.getD i aW⟩) ((n.procs.getD k ac).mems.getD m ax).words.toNat := aL hm
     have hget : ((gu (n.procs.getD k ac) ⟨true, o.procs.getD i ac, s.procs.getD i aW⟩).mems.getD m []).getD z 0 = ((s.procs.getD i aW).mems.getD j []).getD z 0 := by
      rw [hrow, aL hwz]; exact hval
     rw [← hget]
     refine LJ (j := m) (f := ⟨true, n.procs.getD k ac, gu (n.procs.getD k ac) ⟨true, o.procs.getD i ac, s.procs.getD i aW⟩⟩) (t.mk' i j hj) rfl hm (nn.mn k hk) ?_ ?_ ?_ ?_ ?_ ?_
     ·rw [q1]; exact em
     ·rw [q2]; exact hw1
     ·rw [q3]; exact hwo1
     ·show z < ((gu (n.procs.getD k ac) ⟨true, o.procs.getD i ac, s.procs.getD i aW⟩).mems.getD m []).length
      rw [hrow, aJ]; exact hwz
     ·show cg (((gu (n.procs.getD k ac) ⟨true, o.procs.getD i ac, s.procs.getD i aW⟩).mems.getD m []).getD z 0) _
      rw [hget, q2]; exact hv.mv j hj' z hz'
     ·rw [q2]; exact (hpo.mw j hj').1
    ·exfalso
     rw [show jX (n.procs.getD k ac) (d4 (o.procs.getD i ac) j) = -1 from e4] at hr
     simp at hr
  ·have hpx : pM n (fu o i) = -1 := e3
   rw [hpx, if_pos (by omega), decide_eq_true_eq] at hrk
   have l1 : (aZ o i).regs.length = 0 := by have : ¬(((aZ o i).regs.length : Int) + ((aZ o i).mems.length : Int) > 0) := hrk; omega
   have l2 : (aZ o i).mems.length = 0 := by have : ¬(((aZ o i).regs.length : Int) + ((aZ o i).mems.length : Int) > 0) := hrk; omega
   have d1 : (d.procs.getD i ac).regs.length = 0 := (t.rl i).trans l1
   have d2 : (d.procs.getD i ac).mems.length = 0 := (t.ml i).trans l2
   have s1 : (s.procs.getD i aW).regs.length = 0 := (hv.rl).trans l1
   have s2 : (s.procs.getD i aW).mems.length = 0 := (hv.ml).trans l2
   refine E5 ?_ ?_
   ·exact fq 0 (by rw [s1, d1]) (fun j hj => by omega)
   ·exact fq [] (by rw [s2, d2]) (fun j hj => by omega)
 have hc : tab (kT n d tt) d.chans.length = s.chans := fq [] (by rw [h.so.cl, hcl]) hw
 rw [hp, hc]
theorem xV {c : Ci} {r : aj} {i : Nat} (h : i < c.procs.length) : aZ (aD c r) i = gb r (aZ c i) := aL h
theorem oS {α β : Type} {f : α → β} {l : List α} {i : Nat} {d : α} {d' : β} (h : i < l.length) : (l.map f).getD i d' = f (l.getD i d) := by
 rw [bC _ _ (by rw [List.length_map]; exact h), bC _ _ h, List.getElem_map]
theorem zq (c : Ci) (r : aj) (hr : r.kind = 1) : tr c (aD c r) := by
 have hat : ∀ i, i < c.procs.length → aZ (aD c r) i = gb r (aZ c i) := fun i h => xV h
 have hout : ∀ i, ¬i < c.procs.length → aZ (aD c r) i = ac ∧ aZ c i = ac := fun i h => ⟨vz (by omega), cZ (by omega)⟩
 have hrg : ∀ i j, i < c.procs.length → j < (aZ c i).regs.length → oT (gb r (aZ c i)) j = v9 r (oT (aZ c i) j) := fun i j hi hj => oS hj
 have hmm : ∀ i j, i < c.procs.length → j < (aZ c i).mems.length → dK (gb r (aZ c i)) j = wa r (dK (aZ c i) j) := fun i j hi hj => oS hj
 refine ⟨aJ _ _, rfl, fun i => ?_, fun i => ?_, fun i => ?_, fun i j => ?_, fun i j => ?_, fun i j hj => ?_, fun i j hj => ?_⟩
 ·by_cases hi : i < c.procs.length
  ·show (aZ (aD c r) i).name = (aZ c i).name; rw [hat i hi]; rfl
  ·show (aZ (aD c r) i).name = (aZ c i).name; rw [(hout i hi).1, (hout i hi).2]
 ·by_cases hi : i < c.procs.length
  ·rw [hat i hi]; simp [gb]
  ·rw [(hout i hi).1, (hout i hi).2]
 ·by_cases hi : i < c.procs.length
  ·rw [hat i hi]; simp [gb]
  ·rw [(hout i hi).1, (hout i hi).2]
 ·by_cases hi : i < c.procs.length
  ·rw [hat i hi]
   by_cases hj : j < (aZ c i).regs.length
   ·rw [hrg i j hi hj]; exact ⟨rfl, rfl⟩
   ·rw [show oT (gb r (aZ c i)) j = aK from cZ (by show ((aZ c i).regs.map _).length ≤ j; rw [List.length_map]; omega), show oT (aZ c i) j = aK from cZ (by omega)]; exact ⟨rfl, rfl⟩
  ·rw [(hout i hi).1, (hout i hi).2]; exact ⟨rfl, rfl⟩
 ·by_cases hi : i < c.procs.length
  ·rw [hat i hi]
   by_cases hj : j < (aZ c i).mems.length
   ·rw [hmm i j hi hj]; exact ⟨rfl, rfl, rfl⟩
   ·rw [show dK (gb r (aZ c i)) j = ax from cZ (by show ((aZ c i).mems.map _).length ≤ j; rw [List.length_map]; omega), show dK (aZ c i) j = ax from cZ (by omega)]; exact ⟨rfl, rfl, rfl⟩
  ·rw [(hout i hi).1, (hout i hi).2]; exact ⟨rfl, rfl, rfl⟩
 ·by_cases hi : i < c.procs.length
  ·rw [hat i hi] at hj ⊢
   have hj' : j < (aZ c i).regs.length := by simpa [gb] using hj
   rw [hrg i j hi hj']; exact hr
  ·rw [(hout i hi).1] at hj; exact absurd hj (Nat.not_lt_zero _)
 ·by_cases hi : i < c.procs.length
  ·rw [hat i hi] at hj ⊢
   have hj' : j < (aZ c i).mems.length := by simpa [gb] using hj
   rw [hmm i j hi hj']; exact hr
  ·rw [(hout i hi).1] at hj; exact absurd hj (Nat.not_lt_zero _)
theorem sT (c : Ci) (r : aj) : j6 c (aD c r) := by
 refine ⟨aJ _ _, rfl, fun i hi => ?_, fun n => ⟨rfl, rfl, rfl⟩, fun n h => h, fun n h => h⟩
 rw [xV hi]
 refine ⟨by simp [gb], by simp [gb], fun j => ?_, fun j => ?_, rfl, rfl⟩
 ·by_cases hj : j < (aZ c i).regs.length
  ·rw [show (gb r (aZ c i)).regs.getD j aK = v9 r ((aZ c i).regs.getD j aK) from oS hj]; exact ⟨rfl, rfl, rfl⟩
  ·rw [show (gb r (aZ c i)).regs.getD j aK = aK from cZ (by show ((aZ c i).regs.map _).length ≤ j; rw [List.length_map]; omega), show (aZ c i).regs.getD j aK = aK from cZ (by omega)]; exact ⟨rfl, rfl, rfl⟩
 ·by_cases hj : j < (aZ c i).mems.length
  ·rw [show (gb r (aZ c i)).mems.getD j ax = wa r ((aZ c i).mems.getD j ax) from oS hj]; exact ⟨rfl, rfl, rfl, rfl, rfl⟩
  ·rw [show (gb r (aZ c i)).mems.getD j ax = ax from cZ (by show ((aZ c i).mems.map _).length ≤ j; rw [List.length_map]; omega), show (aZ c i).mems.getD j ax = ax from cZ (by omega)]; exact ⟨rfl, rfl, rfl, rfl, rfl⟩
theorem G0 {p q : Pr} (h : iu p q) {s : Ps} (hs : kQ p s) : kQ q s := by
 refine ⟨by rw [h.rl]; exact hs.rl, fun i hi => ?_, by rw [h.ml]; exact hs.ml, fun i hi => ?_, fun i hi j hj => ?_⟩
 ·rw [h.rl] at hi; have := hs.rv i hi; have e := (h.rg i).1; unfold oT at *; rw [e]; exact this
 ·rw [h.ml] at hi; have := hs.mn i hi; have e := (h.mm i).2.1; unfold dK at *; rw [e]; exact this
 ·rw [h.ml] at hi; have := hs.mv i hi j hj; have e := (h.mm i).1; unfold dK at *; rw [e]; exact this
theorem E8 {c : Ci} {r : aj} {s : Ns} (hs : er c s) : er (aD c r) s := by
 have h := sT c r
 exact ⟨by rw [h.pl]; exact hs.pl, hs.cl, fun i hi => by rw [h.pl] at hi; exact G0 (h.pr i hi) (hs.pv i hi), hs.cv, hs.cc⟩
theorem Be {α β : Type} (f : α → β) (l : List α) (d : α) : tab (fun i => f (l.getD i d)) l.length = l.map f := by
 apply List.ext_getElem (by rw [aJ, List.length_map])
 intro i h1 h2
 have h3 : i < l.length := by rw [aJ] at h1; exact h1
 have := aL (f := fun i => f (l.getD i d)) (n := l.length) (d := f d) h3
 rw [bC _ _ h1] at this
 rw [this, List.getElem_map, bC _ _ h3]
theorem Cn {o d : Ci} (t : tr o d) : tr d d := ⟨rfl, rfl, fun _ => rfl, fun _ => rfl, fun _ => rfl, fun _ _ => ⟨rfl, rfl⟩, fun _ _ => ⟨rfl, rfl, rfl⟩, t.rk, t.mk'⟩
theorem E9 {o n : Ci} {s : Ns} (nn : d7 n) (h : GY o n s) : a7 o n o.chans.length = [] := by
 rw [jY nn.cn, List.eq_nil_iff_forall_not_mem]
 intro x hx
 obtain ⟨j, hj, a, _⟩ := (pO _).1 hx
 rw [h.rm j hj] at a; cases a
end Go.Proofs.Ytnlmlkbaflmgcaa
