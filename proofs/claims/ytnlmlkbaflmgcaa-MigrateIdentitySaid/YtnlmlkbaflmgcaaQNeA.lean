/-
  Processes and circuits, plain data: what a process does at a tick, what a circuit does.
-/
import Derived.Test.YtnlmlkbaflmgcaaQPrG
namespace Go.Proofs.Ytnlmlkbaflmgcaa
open Go.RowKit
set_option linter.unusedVariables false
set_option linter.unusedSimpArgs false
def tab {α : Type} (f : Nat → α) (n : Nat) : List α := (List.range n).map f
theorem r9 {α : Type} (f : Nat → α) (n : Nat) : tab f (n + 1) = tab f n ++ [f n] := by simp [tab, List.range_succ]
theorem aJ {α : Type} (f : Nat → α) (n : Nat) : (tab f n).length = n := by simp [tab]
theorem aL {α : Type} {f : Nat → α} {n i : Nat} {d : α} (h : i < n) : (tab f n).getD i d = f i := by
 simp [tab, List.getD, List.getElem?_eq_getElem, h]
theorem vz {α : Type} {f : Nat → α} {n i : Nat} {d : α} (h : n ≤ i) : (tab f n).getD i d = d := by
 rw [List.getD, List.getElem?_eq_none (by rw [aJ]; exact h)]; rfl
theorem eM {α : Type} {f g : Nat → α} {n : Nat} (h : ∀ i, i < n → f i = g i) : tab f n = tab g n := by
 unfold tab
 exact List.map_congr_left (fun a ha => h a (List.mem_range.1 ha))
theorem kP {α : Type} {a b : List α} {d : α} (hl : a.length = b.length) (h : ∀ i, i < a.length → a.getD i d = b.getD i d) : a = b := by
 apply List.ext_getElem hl
 intro i h1 h2
 have := h i h1
 simpa [List.getD, List.getElem?_eq_getElem h1, List.getElem?_eq_getElem h2] using this
theorem Ae {α β : Type} {l : List α} {d : α} (f : α → β) : l.map f = tab (fun i => f (l.getD i d)) l.length := by
 apply List.ext_getElem
 ·simp [aJ]
 ·intro i h1 h2; rw [List.length_map] at h1; simp [tab, List.getD, List.getElem?_eq_getElem h1]
theorem FM {α : Type} {f : Nat → α} {l : List α} {k : Nat} (hk : k < l.length) : (tab f k ++ l.drop k).set k (f k) = tab f (k + 1) ++ l.drop (k + 1) := by
 rw [List.set_append_right _ _ (by rw [aJ]; omega), aJ, Nat.sub_self, r9, List.append_assoc]
 congr 1
 rw [List.drop_eq_getElem_cons hk]; rfl
theorem Dz {α : Type} {f : Nat → α} {l : List α} {k : Nat} (hk : l.length ≤ k) : tab f k ++ l.drop k = tab f k := by rw [List.drop_eq_nil_of_le hk, List.append_nil]
theorem fF {α : Type} {l : List α} {i j : Nat} {x d : α} (h : i < l.length) : (l.set i x).getD j d = if i = j then x else l.getD j d := by
 simp only [List.getD, List.getElem?_set]
 split
 ·rename_i e; subst e; simp [h]
 ·rfl
def b4 (f : Nat → Bool) : Nat → Bool
 | 0 => true
 | n + 1 => b4 f n && f n
theorem aR {f : Nat → Bool} : ∀ {n : Nat}, b4 f n = true ↔ ∀ i, i < n → f i = true
 | 0 => ⟨fun _ i hi => absurd hi (Nat.not_lt_zero _), fun _ => rfl⟩
 | n + 1 => by
  rw [b4, Bool.and_eq_true, aR]
  constructor
  ·rintro ⟨h1, h2⟩ i hi
   rcases Nat.lt_or_ge i n with h | h
   ·exact h1 i h
   ·rw [show i = n by omega]; exact h2
  ·intro h; exact ⟨fun i hi => h i (by omega), h n (by omega)⟩
theorem dq {f : Nat → Bool} {n i : Nat} (hi : i < n) (h : f i = false) : b4 f n = false := by
 cases hh : b4 f n
 ·rfl
 ·rw [aR.1 hh i hi] at h; cases h
theorem jK {f g : Nat → Bool} {n : Nat} (h : ∀ i, i < n → f i = g i) : b4 f n = b4 g n := by
 induction n with
 | zero => rfl
 | succ n ih => rw [b4, b4, ih (fun i hi => h i (by omega)), h n (by omega)]
def eT (p : Pr) (s : Ps) (data : List Int) (e : Ex) : Bool := decide ((bw p s data e).1 = 1)
def mI (p : Pr) : List Int := List.replicate p.takes.length 0
abbrev mi (p : Pr) (i : Nat) : Tk := p.takes.getD i bO
abbrev pC (p : Pr) (i : Nat) : Pt := p.puts.getD i bU
abbrev oT (p : Pr) (i : Nat) : Rg := p.regs.getD i aK
abbrev dK (p : Pr) (i : Nat) : Mm := p.mems.getD i ax
def BL (p : Pr) (s : Ps) (hs : List Hd) (i : Nat) : Int := if eT p s (mI p) (mi p i).when = true ∧ (hs.getD i cC).has = true then (hs.getD i cC).v else 0
def bL (p : Pr) (s : Ps) (hs : List Hd) : List Int := tab (BL p s hs) p.takes.length
def xY (p : Pr) (s : Ps) (data : List Int) (i : Nat) : List Int :=
 if eT p s data (dK p i).enable = true then (s.mems.getD i []).set (Int.tmod (bw p s data (dK p i).addr).1 (dK p i).words).toNat (bw p s data (dK p i).data).1 else s.mems.getD i []
def dA (p : Pr) (s : Ps) (data : List Int) : Ps := ⟨tab (fun i => (bw p s data (oT p i).next).1) p.regs.length, tab (xY p s data) p.mems.length⟩
def sa (p : Pr) (s : Ps) (hs : List Hd) (i : Nat) : Bool := (hs.getD i cC).has || !eT p s (bL p s hs) (mi p i).when
def sd (p : Pr) (s : Ps) (hs : List Hd) (rs : List Bool) (i : Nat) : Bool := rs.getD i false || !eT p s (bL p s hs) (pC p i).when
def hX (p : Pr) (s : Ps) (hs : List Hd) (rs : List Bool) : Bool := b4 (sa p s hs) p.takes.length && b4 (sd p s hs rs) p.puts.length
def DA (p : Pr) (s : Ps) (hs : List Hd) (i : Nat) : Bool := eT p s (bL p s hs) (mi p i).when
def BM (p : Pr) (s : Ps) (hs : List Hd) (i : Nat) : Hd := if eT p s (bL p s hs) (pC p i).when = true then ⟨true, (bw p s (bL p s hs) (pC p i).data).1⟩ else cC
def bk (p : Pr) (s : Ps) (hs : List Hd) (rs : List Bool) : Fi :=
 if hX p s hs rs = true then ⟨true, dA p s (bL p s hs), tab (DA p s hs) p.takes.length, tab (BM p s hs) p.puts.length⟩
 else ⟨false, s, List.replicate p.takes.length false, List.replicate p.puts.length cC⟩
def bq (p : Pr) : Ps := ⟨p.regs.map (·.init), p.mems.map (fun m => List.replicate m.words.toNat 0)⟩
def eV (v w : Int) : Bool := decide (0 ≤ v) && decide (v ≤ aC w)
theorem w4 {v w : Int} : eV v w = true ↔ cg v w := by simp [eV, cg]
def hY (p : Pr) (s : Ps) (i : Nat) : Bool := decide (((s.mems.getD i []).length : Int) = (dK p i).words) && b4 (fun j => eV ((s.mems.getD i []).getD j 0) (dK p i).w) (s.mems.getD i []).length
def bx (p : Pr) (s : Ps) : Bool := decide (s.regs.length = p.regs.length) && decide (s.mems.length = p.mems.length) && b4 (fun i => eV (s.regs.getD i 0) (oT p i).w) s.regs.length && b4 (hY p s) s.mems.length
def lC (p : Pr) : Sc := ⟨p.regs.map (·.w), p.mems.map (·.w), p.takes.map (·.w)⟩
def HO (p : Pr) : Sc := ⟨p.regs.map (·.w), p.mems.map (·.w), []⟩
structure gi (p : Pr) : Prop where
 rl : p.regs.length ≤ 100
 ml : p.mems.length ≤ 100
 tl : p.takes.length ≤ 100
 pl : p.puts.length ≤ 100
 rw : ∀ i, i < p.regs.length → aI (oT p i).w = true ∧ cg (oT p i).init (oT p i).w ∧ dp (lC p) (oT p i).next = some (oT p i).w ∧ eC (oT p i).next ≤ 3
 mw : ∀ i, i < p.mems.length → aI (dK p i).w = true ∧ (1 ≤ (dK p i).words ∧ (dK p i).words ≤ 4) ∧ (dp (lC p) (dK p i).enable = some 1 ∧ eC (dK p i).enable ≤ 3) ∧ ((∃ v, dp (lC p) (dK p i).addr = some v) ∧ eC (dK p i).addr ≤ 3) ∧ dp (lC p) (dK p i).data = some (dK p i).w ∧ eC (dK p i).data ≤ 3
 tw : ∀ i, i < p.takes.length → aI (mi p i).w = true ∧ dp (HO p) (mi p i).when = some 1 ∧ eC (mi p i).when ≤ 3
 pw : ∀ i, i < p.puts.length → aI (pC p i).w = true ∧ (dp (lC p) (pC p i).when = some 1 ∧ eC (pC p i).when ≤ 3) ∧ dp (lC p) (pC p i).data = some (pC p i).w ∧ eC (pC p i).data ≤ 3
structure kQ (p : Pr) (s : Ps) : Prop where
 rl : s.regs.length = p.regs.length
 rv : ∀ i, i < p.regs.length → cg (s.regs.getD i 0) (oT p i).w
 ml : s.mems.length = p.mems.length
 mn : ∀ i, i < p.mems.length → ((s.mems.getD i []).length : Int) = (dK p i).words
 mv : ∀ i, i < p.mems.length → ∀ j, j < (s.mems.getD i []).length → cg ((s.mems.getD i []).getD j 0) (dK p i).w
structure BN (p : Pr) (d : List Int) : Prop where
 l : d.length = p.takes.length
 v : ∀ i, i < p.takes.length → cg (d.getD i 0) (mi p i).w
structure BO (p : Pr) (hs : List Hd) : Prop where
 l : hs.length = p.takes.length
 v : ∀ i, i < p.takes.length → (hs.getD i cC).has = true → cg (hs.getD i cC).v (mi p i).w
theorem BP {p : Pr} {s : Ps} : bx p s = true ↔ kQ p s := by
 unfold bx hY
 simp only [Bool.and_eq_true, decide_eq_true_eq, aR, w4]
 constructor
 ·rintro ⟨⟨⟨h1, h2⟩, h3⟩, h4⟩
  exact ⟨h1, fun i hi => h3 i (by omega), h2, fun i hi => (h4 i (by omega)).1, fun i hi => (h4 i (by omega)).2⟩
 ·intro h
  exact ⟨⟨⟨h.rl, h.ml⟩, fun i hi => h.rv i (by have := h.rl; omega)⟩, fun i hi => ⟨h.mn i (by have := h.ml; omega), h.mv i (by have := h.ml; omega)⟩⟩
set_option maxHeartbeats 1600000 in
theorem ia {p : Pr} {s : Ps} {d : List Int} (hp : gi p) (hs : kQ p s) (hd : BN p d) : tc (lC p) p s d where
 prl := by simp [lC]
 prw := fun i hi => by
  have hi' : i < p.regs.length := by simpa [lC] using hi
  show (p.regs.getD i aK).w = (p.regs.map (·.w)).getD i 0
  rw [cJ (·.w) p.regs i aK 0 hi']
 pml := by simp [lC]
 pmw := fun i hi => by
  have hi' : i < p.mems.length := by simpa [lC] using hi
  show (p.mems.getD i ax).w = (p.mems.map (·.w)).getD i 0
  rw [cJ (·.w) p.mems i ax 0 hi']
 ptl := by simp [lC]
 ptw := fun i hi => by
  have hi' : i < p.takes.length := by simpa [lC] using hi
  show (p.takes.getD i bO).w = (p.takes.map (·.w)).getD i 0
  rw [cJ (·.w) p.takes i bO 0 hi']
 srl := (hs.rl).trans (by simp [lC])
 srv := fun i hi => by
  have hi' : i < p.regs.length := by simpa [lC] using hi
  show cg _ ((p.regs.map (·.w)).getD i 0)
  rw [cJ (·.w) p.regs i aK 0 hi']
  exact hs.rv i hi'
 sml := (hs.ml).trans (by simp [lC])
 smn := fun i hi => by
  have hi' : i < p.mems.length := by simpa [lC] using hi
  have := hs.mn i hi'
  have := (hp.mw i hi').2.1
  omega
 smv := fun i hi j hj => by
  have hi' : i < p.mems.length := by simpa [lC] using hi
  show cg _ ((p.mems.map (·.w)).getD i 0)
  rw [cJ (·.w) p.mems i ax 0 hi']
  exact hs.mv i hi' j hj
 dl := (hd.l).trans (by simp [lC])
 dv := fun i hi => by
  have hi' : i < p.takes.length := by simpa [lC] using hi
  show cg _ ((p.takes.map (·.w)).getD i 0)
  rw [cJ (·.w) p.takes i bO 0 hi']
  exact hd.v i hi'
 rok := fun i hi => by
  have hi' : i < p.regs.length := by simpa [lC] using hi
  show aI ((p.regs.map (·.w)).getD i 0) = true
  rw [cJ (·.w) p.regs i aK 0 hi']
  exact (hp.rw i hi').1
 mok := fun i hi => by
  have hi' : i < p.mems.length := by simpa [lC] using hi
  show aI ((p.mems.map (·.w)).getD i 0) = true
  rw [cJ (·.w) p.mems i ax 0 hi']
  exact (hp.mw i hi').1
 tok := fun i hi => by
  have hi' : i < p.takes.length := by simpa [lC] using hi
  show aI ((p.takes.map (·.w)).getD i 0) = true
  rw [cJ (·.w) p.takes i bO 0 hi']
  exact (hp.tw i hi').1
theorem FN {c : Sc} {p : Pr} {s : Ps} (d d' : List Int) : ∀ (n : Nat) (e : Ex) (w : Int), eC e ≤ n → dp ⟨c.rw, c.mw, []⟩ e = some w → dp c e = some w ∧ bw p s d e = bw p s d' e := by
 intro n
 induction n with
 | zero => intro e w hd; cases e with | mk op name k w args => rw [eC] at hd; omega
 | succ n ih =>
  intro e w hd hty
  obtain ⟨ws, hws, hc⟩ := fg hty
  obtain ⟨hl, hget⟩ := jJ hws
  have hargs : ∀ i, i < e.args.length → dp c (e.args.getD i dE) = some (ws.getD i 0) ∧ bw p s d (e.args.getD i dE) = bw p s d' (e.args.getD i dE) := fun i hi => ih _ _ (by have := z6 hi; omega) (hget i hi)
  have hL : ∀ (l : List Ex) (ws : List Int), ws.length = l.length → (∀ i, i < l.length → dp c (l.getD i dE) = some (ws.getD i 0)) → dp.tyL c l = some ws := by
   intro l
   induction l with
   | nil => intro ws h _; cases ws with | nil => rfl | cons a r => cases h
   | cons a r ihr =>
    intro ws h hh
    cases ws with
    | nil => cases h
    | cons w0 wr =>
     have h0 : dp c a = some w0 := hh 0 (by simp)
     have h1 := ihr wr (by simpa using h) (fun i hi => hh (i + 1) (by simpa using hi))
     rw [dp.tyL, h0, h1]
  have hmap : e.args.map (bw p s d) = e.args.map (bw p s d') := by
   apply List.map_congr_left
   intro a ha
   obtain ⟨i, hi, rfl⟩ := List.mem_iff_getElem.1 ha
   have := (hargs i hi).2
   simpa [List.getD, List.getElem?_eq_getElem hi] using this
  have hws' := hL e.args ws hl (fun i hi => (hargs i hi).1)
  refine ⟨?_, ?_⟩
  ·cases e with
   | mk op name k w0 args =>
    rw [dp, hws']
    simp only at hc ⊢
    rcases hc with ⟨h1, h2, h3, h4, rfl⟩ | ⟨h1, h2, h3, h4, rfl⟩ | ⟨h1, h2, h3, h4, rfl⟩ | ⟨h1, h2, h2', h3, rfl⟩
    ·rw [if_pos h1, if_pos ⟨h2, h3, h4⟩]
    ·exact absurd h4 (by simp; omega)
    ·rw [if_neg (by omega), if_neg (by omega), if_pos h1, if_pos ⟨h2, h3, h4⟩]
    ·rw [if_neg h1, if_neg h2', if_neg h2, if_pos h3]
  ·rw [nc, nc p s d', hmap]
   have h18 : e.op ≠ 18 := by
    rcases hc with ⟨h1, h2, h3, h4, rfl⟩ | ⟨h1, h2, h3, h4, rfl⟩ | ⟨h1, h2, h3, h4, rfl⟩ | ⟨h1, h2, h2', h3, rfl⟩
    ·omega
    ·exact absurd h4 (by simp; omega)
    ·omega
    ·exact h2'
   rw [if_neg h18, if_neg h18]
theorem BQ {p : Pr} {s : Ps} (hp : gi p) {i : Nat} (hi : i < p.takes.length) (d d' : List Int) : eT p s d (mi p i).when = eT p s d' (mi p i).when ∧ dp (lC p) (mi p i).when = some 1 := by
 obtain ⟨h1, h2, h3⟩ := hp.tw i hi
 have h := FN (c := lC p) (p := p) (s := s) d d' 3 _ 1 h3 h2
 exact ⟨by unfold eT; rw [h.2], h.1⟩
theorem nf {w : Int} (h : aI w = true) : cg 0 w := by
 have := aM.1 h
 exact ⟨by omega, (b7 (by omega) (by omega)).1⟩
theorem Ju {p : Pr} (hp : gi p) : BN p (mI p) where
 l := by simp [mI]
 v := fun i hi => by
  have e : (mI p).getD i 0 = 0 := by simp [mI, List.getD, List.getElem?_replicate]; split <;> rfl
  rw [e]; exact nf (hp.tw i hi).1
theorem vA {p : Pr} {s : Ps} {hs : List Hd} (hp : gi p) (hh : BO p hs) : BN p (bL p s hs) where
 l := by rw [bL, aJ]
 v := fun i hi => by
  rw [bL, aL hi, BL]
  split
  ·rename_i h; exact hh.v i hi h.2
  ·exact nf (hp.tw i hi).1
theorem yJ (p : Pr) (s : Ps) (hs : List Hd) (rs : List Bool) : (bk p s hs rs).fires = hX p s hs rs := by
 unfold bk; split <;> simp_all
theorem te (p : Pr) (s : Ps) (hs : List Hd) (rs : List Bool) : (bk p s hs rs).pops.length = p.takes.length := by
 unfold bk; split <;> simp [aJ]
theorem tf (p : Pr) (s : Ps) (hs : List Hd) (rs : List Bool) : (bk p s hs rs).puts.length = p.puts.length := by
 unfold bk; split <;> simp [aJ]
theorem vB {p : Pr} {s : Ps} {d : List Int} {e : Ex} {w : Int} (ho : tc (lC p) p s d) (h : dp (lC p) e = some w) (hd : eC e ≤ 3) : (bw p s d e).2 = w ∧ cg (bw p s d e).1 w ∧ aI w = true := Dn ho 3 e w hd h
theorem FO {p : Pr} {s : Ps} {d : List Int} (hp : gi p) (hs : kQ p s) (hd : BN p d) : kQ p (dA p s d) where
 rl := by rw [dA]; simp [aJ]
 rv := fun i hi => by
  rw [dA]; simp only; rw [aL hi]
  have h := hp.rw i hi
  exact (vB (ia hp hs hd) h.2.2.1 h.2.2.2).2.1
 ml := by rw [dA]; simp [aJ]
 mn := fun i hi => by
  rw [dA]; simp only; rw [aL hi, xY]
  split
  ·rw [List.length_set]; exact hs.mn i hi
  ·exact hs.mn i hi
 mv := fun i hi j hj => by
  rw [dA] at hj ⊢; simp only at hj ⊢; rw [aL hi, xY] at hj ⊢
  have h := hp.mw i hi
  split at hj
  ·rename_i he
   rw [if_pos he]
   rw [List.length_set] at hj
   by_cases hm : (Int.tmod (bw p s d (dK p i).addr).1 (dK p i).words).toNat < (s.mems.getD i []).length
   ·rw [fF hm]
    split
    ·exact (vB (ia hp hs hd) h.2.2.2.2.1 h.2.2.2.2.2).2.1
    ·exact hs.mv i hi j hj
   ·rw [List.set_eq_of_length_le (by omega)]
    exact hs.mv i hi j hj
  ·rename_i he
   rw [if_neg he]
   exact hs.mv i hi j hj
theorem tg {p : Pr} {s : Ps} {hs : List Hd} {rs : List Bool} (hp : gi p) (hso : kQ p s) (hh : BO p hs) : kQ p (bk p s hs rs).s := by
 unfold bk
 split
 ·exact FO hp hso (vA hp hh)
 ·exact hso
theorem vC {p : Pr} {s : Ps} {hs : List Hd} {rs : List Bool} (hp : gi p) (hso : kQ p s) (hh : BO p hs) {i : Nat} (hi : i < p.puts.length) (hhas : ((bk p s hs rs).puts.getD i cC).has = true) : cg ((bk p s hs rs).puts.getD i cC).v (pC p i).w := by
 unfold bk at hhas ⊢
 split
 ·rename_i hf
  rw [if_pos hf] at hhas
  simp only at hhas ⊢
  rw [aL hi] at hhas ⊢
  unfold BM at hhas ⊢
  split
  ·have h := hp.pw i hi
   exact (vB (ia hp hso (vA hp hh)) h.2.2.1 h.2.2.2).2.1
  ·rename_i hn; rw [if_neg hn] at hhas; cases hhas
 ·rename_i hf
  rw [if_neg hf] at hhas
  simp [List.getD, List.getElem?_replicate, hi] at hhas
end Go.Proofs.Ytnlmlkbaflmgcaa
