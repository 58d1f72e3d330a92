/-
  Processes and circuits, plain data: what a process does at a tick, what a circuit does.
-/
import Derived.Test.YtifoecfajmnjjaaGreatQPrG
namespace Go.Proofs.YtifoecfajmnjjaaGreat
open Go.RowKit
set_option linter.unusedVariables false
set_option linter.unusedSimpArgs false
def aq {α : Type} (f : Nat → α) (n : Nat) : List α := (List.range n).map f
theorem ti {α : Type} (f : Nat → α) (n : Nat) : aq f (n + 1) = aq f n ++ [f n] := by simp [aq, List.range_succ]
theorem aO {α : Type} (f : Nat → α) (n : Nat) : (aq f n).length = n := by simp [aq]
theorem bq {α : Type} {f : Nat → α} {n i : Nat} {d : α} (h : i < n) : (aq f n).getD i d = f i := by
 simp [aq, List.getD, List.getElem?_eq_getElem, h]
theorem Bd {α : Type} {f : Nat → α} {n i : Nat} {d : α} (h : n ≤ i) : (aq f n).getD i d = d := by
 rw [List.getD, List.getElem?_eq_none (by rw [aO]; exact h)]; rfl
theorem mj {α : Type} {f g : Nat → α} {n : Nat} (h : ∀ i, i < n → f i = g i) : aq f n = aq g n := by
 unfold aq
 exact List.map_congr_left (fun a ha => h a (List.mem_range.1 ha))
theorem Eu {α : Type} {l : List α} {d : α} : l = aq (fun i => l.getD i d) l.length := by
 apply List.ext_getElem
 ·rw [aO]
 ·intro i h1 h2; simp [aq, List.getD, List.getElem?_eq_getElem h1]
theorem jy {α : Type} {a b : List α} {d : α} (hl : a.length = b.length) (h : ∀ i, i < a.length → a.getD i d = b.getD i d) : a = b := by
 apply List.ext_getElem hl
 intro i h1 h2
 have := h i h1
 simpa [List.getD, List.getElem?_eq_getElem h1, List.getElem?_eq_getElem h2] using this
theorem Be {α β : Type} {l : List α} {d : α} (f : α → β) : l.map f = aq (fun i => f (l.getD i d)) l.length := by
 apply List.ext_getElem
 ·simp [aO]
 ·intro i h1 h2; rw [List.length_map] at h1; simp [aq, List.getD, List.getElem?_eq_getElem h1]
theorem F4 {α : Type} {f : Nat → α} {l : List α} {k : Nat} (hk : k < l.length) : (aq f k ++ l.drop k).set k (f k) = aq f (k + 1) ++ l.drop (k + 1) := by
 rw [List.set_append_right _ _ (by rw [aO]; omega), aO, Nat.sub_self, ti, List.append_assoc]
 congr 1
 rw [List.drop_eq_getElem_cons hk]; rfl
theorem Ew {α : Type} {f : Nat → α} {l : List α} {k : Nat} (hk : l.length ≤ k) : aq f k ++ l.drop k = aq f k := by rw [List.drop_eq_nil_of_le hk, List.append_nil]
theorem bV {α : Type} {l : List α} {i j : Nat} {x d : α} (h : i < l.length) : (l.set i x).getD j d = if i = j then x else l.getD j d := by
 simp only [List.getD, List.getElem?_set]
 split
 ·rename_i e; subst e; simp [h]
 ·rfl
def dh (f : Nat → Bool) : Nat → Bool
 | 0 => true
 | n + 1 => dh f n && f n
theorem bQ {f : Nat → Bool} : ∀ {n : Nat}, dh f n = true ↔ ∀ i, i < n → f i = true
 | 0 => ⟨fun _ i hi => absurd hi (Nat.not_lt_zero _), fun _ => rfl⟩
 | n + 1 => by
  rw [dh, Bool.and_eq_true, bQ]
  constructor
  ·rintro ⟨h1, h2⟩ i hi
   rcases Nat.lt_or_ge i n with h | h
   ·exact h1 i h
   ·rw [show i = n by omega]; exact h2
  ·intro h; exact ⟨fun i hi => h i (by omega), h n (by omega)⟩
theorem f6 {f : Nat → Bool} {n i : Nat} (hi : i < n) (h : f i = false) : dh f n = false := by
 cases hh : dh f n
 ·rfl
 ·rw [bQ.1 hh i hi] at h; cases h
def dY (p : Pr) (s : Ps) (data : List Int) (e : Ex) : Bool := decide ((be p s data e).1 = 1)
def iR (p : Pr) : List Int := List.replicate p.takes.length 0
abbrev lG (p : Pr) (i : Nat) : Tk := p.takes.getD i bo
abbrev rO (p : Pr) (i : Nat) : Pt := p.puts.getD i a6
abbrev Cs (p : Pr) (i : Nat) : Rg := p.regs.getD i bH
abbrev kT (p : Pr) (i : Nat) : Mm := p.mems.getD i aP
def lH (p : Pr) (s : Ps) (hs : List Hd) (i : Nat) : Int := if dY p s (iR p) (lG p i).when = true ∧ (hs.getD i aK).has = true then (hs.getD i aK).v else 0
def bW (p : Pr) (s : Ps) (hs : List Hd) : List Int := aq (lH p s hs) p.takes.length
def qh (p : Pr) (s : Ps) (data : List Int) (i : Nat) : List Int :=
 if dY p s data (kT p i).enable = true then (s.mems.getD i []).set (Int.tmod (be p s data (kT p i).addr).1 (kT p i).words).toNat (be p s data (kT p i).data).1 else s.mems.getD i []
def ci (p : Pr) (s : Ps) (data : List Int) : Ps := ⟨aq (fun i => (be p s data (Cs p i).next).1) p.regs.length, aq (qh p s data) p.mems.length⟩
def iW (p : Pr) (s : Ps) (hs : List Hd) (i : Nat) : Bool := (hs.getD i aK).has || !dY p s (bW p s hs) (lG p i).when
def kd (p : Pr) (s : Ps) (hs : List Hd) (rs : List Bool) (i : Nat) : Bool := rs.getD i false || !dY p s (bW p s hs) (rO p i).when
def gA (p : Pr) (s : Ps) (hs : List Hd) (rs : List Bool) : Bool := dh (iW p s hs) p.takes.length && dh (kd p s hs rs) p.puts.length
def pz (p : Pr) (s : Ps) (hs : List Hd) (i : Nat) : Bool := dY p s (bW p s hs) (lG p i).when
def pA (p : Pr) (s : Ps) (hs : List Hd) (i : Nat) : Hd := if dY p s (bW p s hs) (rO p i).when = true then ⟨true, (be p s (bW p s hs) (rO p i).data).1⟩ else aK
def aU (p : Pr) (s : Ps) (hs : List Hd) (rs : List Bool) : Fi :=
 if gA p s hs rs = true then ⟨true, ci p s (bW p s hs), aq (pz p s hs) p.takes.length, aq (pA p s hs) p.puts.length⟩
 else ⟨false, s, List.replicate p.takes.length false, List.replicate p.puts.length aK⟩
def aY (p : Pr) : Ps := ⟨p.regs.map (·.init), p.mems.map (fun m => List.replicate m.words.toNat 0)⟩
def cj (v w : Int) : Bool := decide (0 ≤ v) && decide (v ≤ aj w)
theorem xX {v w : Int} : cj v w = true ↔ dD v w := by simp [cj, dD]
def gB (p : Pr) (s : Ps) (i : Nat) : Bool := decide (((s.mems.getD i []).length : Int) = (kT p i).words) && dh (fun j => cj ((s.mems.getD i []).getD j 0) (kT p i).w) (s.mems.getD i []).length
def br (p : Pr) (s : Ps) : Bool := decide (s.regs.length = p.regs.length) && decide (s.mems.length = p.mems.length) && dh (fun i => cj (s.regs.getD i 0) (Cs p i).w) s.regs.length && dh (gB p s) s.mems.length
def pB (p : Pr) : Sc := ⟨p.regs.map (·.w), p.mems.map (·.w), p.takes.map (·.w)⟩
def Lg (p : Pr) : Sc := ⟨p.regs.map (·.w), p.mems.map (·.w), []⟩
structure fM (p : Pr) : Prop where
 rl : p.regs.length ≤ 100
 ml : p.mems.length ≤ 100
 tl : p.takes.length ≤ 100
 pl : p.puts.length ≤ 100
 rw : ∀ i, i < p.regs.length → au (Cs p i).w = true ∧ dD (Cs p i).init (Cs p i).w ∧ eK (pB p) (Cs p i).next = some (Cs p i).w ∧ ff (Cs p i).next ≤ 3
 mw : ∀ i, i < p.mems.length → au (kT p i).w = true ∧ (1 ≤ (kT p i).words ∧ (kT p i).words ≤ 4) ∧ (eK (pB p) (kT p i).enable = some 1 ∧ ff (kT p i).enable ≤ 3) ∧ ((∃ v, eK (pB p) (kT p i).addr = some v) ∧ ff (kT p i).addr ≤ 3) ∧ eK (pB p) (kT p i).data = some (kT p i).w ∧ ff (kT p i).data ≤ 3
 tw : ∀ i, i < p.takes.length → au (lG p i).w = true ∧ eK (Lg p) (lG p i).when = some 1 ∧ ff (lG p i).when ≤ 3
 pw : ∀ i, i < p.puts.length → au (rO p i).w = true ∧ (eK (pB p) (rO p i).when = some 1 ∧ ff (rO p i).when ≤ 3) ∧ eK (pB p) (rO p i).data = some (rO p i).w ∧ ff (rO p i).data ≤ 3
structure oa (p : Pr) (s : Ps) : Prop where
 rl : s.regs.length = p.regs.length
 rv : ∀ i, i < p.regs.length → dD (s.regs.getD i 0) (Cs p i).w
 ml : s.mems.length = p.mems.length
 mn : ∀ i, i < p.mems.length → ((s.mems.getD i []).length : Int) = (kT p i).words
 mv : ∀ i, i < p.mems.length → ∀ j, j < (s.mems.getD i []).length → dD ((s.mems.getD i []).getD j 0) (kT p i).w
structure xY (p : Pr) (d : List Int) : Prop where
 l : d.length = p.takes.length
 v : ∀ i, i < p.takes.length → dD (d.getD i 0) (lG p i).w
structure xZ (p : Pr) (hs : List Hd) : Prop where
 l : hs.length = p.takes.length
 v : ∀ i, i < p.takes.length → (hs.getD i aK).has = true → dD (hs.getD i aK).v (lG p i).w
theorem Cu {p : Pr} {s : Ps} : br p s = true ↔ oa p s := by
 unfold br gB
 simp only [Bool.and_eq_true, decide_eq_true_eq, bQ, xX]
 constructor
 ·rintro ⟨⟨⟨h1, h2⟩, h3⟩, h4⟩
  exact ⟨h1, fun i hi => h3 i (by omega), h2, fun i hi => (h4 i (by omega)).1, fun i hi => (h4 i (by omega)).2⟩
 ·intro h
  exact ⟨⟨⟨h.rl, h.ml⟩, fun i hi => h.rv i (by have := h.rl; omega)⟩, fun i hi => ⟨h.mn i (by have := h.ml; omega), h.mv i (by have := h.ml; omega)⟩⟩
set_option maxHeartbeats 1600000 in
theorem gm {p : Pr} {s : Ps} {d : List Int} (hp : fM p) (hs : oa p s) (hd : xY p d) : qM (pB p) p s d where
 prl := by simp [pB]
 prw := fun i hi => by
  have hi' : i < p.regs.length := by simpa [pB] using hi
  show (p.regs.getD i bH).w = (p.regs.map (·.w)).getD i 0
  rw [dg (·.w) p.regs i bH 0 hi']
 pml := by simp [pB]
 pmw := fun i hi => by
  have hi' : i < p.mems.length := by simpa [pB] using hi
  show (p.mems.getD i aP).w = (p.mems.map (·.w)).getD i 0
  rw [dg (·.w) p.mems i aP 0 hi']
 ptl := by simp [pB]
 ptw := fun i hi => by
  have hi' : i < p.takes.length := by simpa [pB] using hi
  show (p.takes.getD i bo).w = (p.takes.map (·.w)).getD i 0
  rw [dg (·.w) p.takes i bo 0 hi']
 srl := (hs.rl).trans (by simp [pB])
 srv := fun i hi => by
  have hi' : i < p.regs.length := by simpa [pB] using hi
  show dD _ ((p.regs.map (·.w)).getD i 0)
  rw [dg (·.w) p.regs i bH 0 hi']
  exact hs.rv i hi'
 sml := (hs.ml).trans (by simp [pB])
 smn := fun i hi => by
  have hi' : i < p.mems.length := by simpa [pB] using hi
  have := hs.mn i hi'
  have := (hp.mw i hi').2.1
  omega
 smv := fun i hi j hj => by
  have hi' : i < p.mems.length := by simpa [pB] using hi
  show dD _ ((p.mems.map (·.w)).getD i 0)
  rw [dg (·.w) p.mems i aP 0 hi']
  exact hs.mv i hi' j hj
 dl := (hd.l).trans (by simp [pB])
 dv := fun i hi => by
  have hi' : i < p.takes.length := by simpa [pB] using hi
  show dD _ ((p.takes.map (·.w)).getD i 0)
  rw [dg (·.w) p.takes i bo 0 hi']
  exact hd.v i hi'
 rok := fun i hi => by
  have hi' : i < p.regs.length := by simpa [pB] using hi
  show au ((p.regs.map (·.w)).getD i 0) = true
  rw [dg (·.w) p.regs i bH 0 hi']
  exact (hp.rw i hi').1
 mok := fun i hi => by
  have hi' : i < p.mems.length := by simpa [pB] using hi
  show au ((p.mems.map (·.w)).getD i 0) = true
  rw [dg (·.w) p.mems i aP 0 hi']
  exact (hp.mw i hi').1
 tok := fun i hi => by
  have hi' : i < p.takes.length := by simpa [pB] using hi
  show au ((p.takes.map (·.w)).getD i 0) = true
  rw [dg (·.w) p.takes i bo 0 hi']
  exact (hp.tw i hi').1
theorem F5 {c : Sc} {p : Pr} {s : Ps} (d d' : List Int) : ∀ (n : Nat) (e : Ex) (w : Int), ff e ≤ n → eK ⟨c.rw, c.mw, []⟩ e = some w → eK c e = some w ∧ be p s d e = be p s d' e := by
 intro n
 induction n with
 | zero => intro e w hd; cases e with | mk op name k w args => rw [ff] at hd; omega
 | succ n ih =>
  intro e w hd hty
  obtain ⟨ws, hws, hc⟩ := gj hty
  obtain ⟨hl, hget⟩ := kb hws
  have hargs : ∀ i, i < e.args.length → eK c (e.args.getD i dE) = some (ws.getD i 0) ∧ be p s d (e.args.getD i dE) = be p s d' (e.args.getD i dE) := fun i hi => ih _ _ (by have := A3 hi; omega) (hget i hi)
  have hL : ∀ (l : List Ex) (ws : List Int), ws.length = l.length → (∀ i, i < l.length → eK c (l.getD i dE) = some (ws.getD i 0)) → eK.tyL c l = some ws := by
   intro l
   induction l with
   | nil => intro ws h _; cases ws with | nil => rfl | cons a r => cases h
   | cons a r ihr =>
    intro ws h hh
    cases ws with
    | nil => cases h
    | cons w0 wr =>
     have h0 : eK c a = some w0 := hh 0 (by simp)
     have h1 := ihr wr (by simpa using h) (fun i hi => hh (i + 1) (by simpa using hi))
     rw [eK.tyL, h0, h1]
  have hmap : e.args.map (be p s d) = e.args.map (be p s d') := by
   apply List.map_congr_left
   intro a ha
   obtain ⟨i, hi, rfl⟩ := List.mem_iff_getElem.1 ha
   have := (hargs i hi).2
   simpa [List.getD, List.getElem?_eq_getElem hi] using this
  have hws' := hL e.args ws hl (fun i hi => (hargs i hi).1)
  refine ⟨?_, ?_⟩
  ·cases e with
   | mk op name k w0 args =>
    rw [eK, hws']
    simp only at hc ⊢
    rcases hc with ⟨h1, h2, h3, h4, rfl⟩ | ⟨h1, h2, h3, h4, rfl⟩ | ⟨h1, h2, h3, h4, rfl⟩ | ⟨h1, h2, h2', h3, rfl⟩
    ·rw [if_pos h1, if_pos ⟨h2, h3, h4⟩]
    ·exact absurd h4 (by simp; omega)
    ·rw [if_neg (by omega), if_neg (by omega), if_pos h1, if_pos ⟨h2, h3, h4⟩]
    ·rw [if_neg h1, if_neg h2', if_neg h2, if_pos h3]
  ·rw [n9, n9 p s d', hmap]
   have h18 : e.op ≠ 18 := by
    rcases hc with ⟨h1, h2, h3, h4, rfl⟩ | ⟨h1, h2, h3, h4, rfl⟩ | ⟨h1, h2, h3, h4, rfl⟩ | ⟨h1, h2, h2', h3, rfl⟩
    ·omega
    ·exact absurd h4 (by simp; omega)
    ·omega
    ·exact h2'
   rw [if_neg h18, if_neg h18]
theorem jz {p : Pr} {s : Ps} (hp : fM p) {i : Nat} (hi : i < p.takes.length) (d d' : List Int) : dY p s d (lG p i).when = dY p s d' (lG p i).when ∧ eK (pB p) (lG p i).when = some 1 := by
 obtain ⟨h1, h2, h3⟩ := hp.tw i hi
 have h := F5 (c := pB p) (p := p) (s := s) d d' 3 _ 1 h3 h2
 exact ⟨by unfold dY; rw [h.2], h.1⟩
theorem oc {w : Int} (h : au w = true) : dD 0 w := by
 have := aW.1 h
 exact ⟨by omega, (az (by omega) (by omega)).1⟩
theorem GX {p : Pr} (hp : fM p) : xY p (iR p) where
 l := by simp [iR]
 v := fun i hi => by
  have e : (iR p).getD i 0 = 0 := by simp [iR, List.getD, List.getElem?_replicate]; split <;> rfl
  rw [e]; exact oc (hp.tw i hi).1
theorem tj {p : Pr} {s : Ps} {hs : List Hd} (hp : fM p) (hh : xZ p hs) : xY p (bW p s hs) where
 l := by rw [bW, aO]
 v := fun i hi => by
  rw [bW, bq hi, lH]
  split
  ·rename_i h; exact hh.v i hi h.2
  ·exact oc (hp.tw i hi).1
theorem zJ (p : Pr) (s : Ps) (hs : List Hd) (rs : List Bool) : (aU p s hs rs).fires = gA p s hs rs := by
 unfold aU; split <;> simp_all
theorem jq (p : Pr) (s : Ps) (hs : List Hd) (rs : List Bool) : (aU p s hs rs).pops.length = p.takes.length := by
 unfold aU; split <;> simp [aO]
theorem jr (p : Pr) (s : Ps) (hs : List Hd) (rs : List Bool) : (aU p s hs rs).puts.length = p.puts.length := by
 unfold aU; split <;> simp [aO]
theorem wu {p : Pr} {s : Ps} {d : List Int} {e : Ex} {w : Int} (ho : qM (pB p) p s d) (h : eK (pB p) e = some w) (hd : ff e ≤ 3) : (be p s d e).2 = w ∧ dD (be p s d e).1 w ∧ au w = true := Ed ho 3 e w hd h
theorem F6 {p : Pr} {s : Ps} {d : List Int} (hp : fM p) (hs : oa p s) (hd : xY p d) : oa p (ci p s d) where
 rl := by rw [ci]; simp [aO]
 rv := fun i hi => by
  rw [ci]; simp only; rw [bq hi]
  have h := hp.rw i hi
  exact (wu (gm hp hs hd) h.2.2.1 h.2.2.2).2.1
 ml := by rw [ci]; simp [aO]
 mn := fun i hi => by
  rw [ci]; simp only; rw [bq hi, qh]
  split
  ·rw [List.length_set]; exact hs.mn i hi
  ·exact hs.mn i hi
 mv := fun i hi j hj => by
  rw [ci] at hj ⊢; simp only at hj ⊢; rw [bq hi, qh] at hj ⊢
  have h := hp.mw i hi
  split at hj
  ·rename_i he
   rw [if_pos he]
   rw [List.length_set] at hj
   by_cases hm : (Int.tmod (be p s d (kT p i).addr).1 (kT p i).words).toNat < (s.mems.getD i []).length
   ·rw [bV hm]
    split
    ·exact (wu (gm hp hs hd) h.2.2.2.2.1 h.2.2.2.2.2).2.1
    ·exact hs.mv i hi j hj
   ·rw [List.set_eq_of_length_le (by omega)]
    exact hs.mv i hi j hj
  ·rename_i he
   rw [if_neg he]
   exact hs.mv i hi j hj
theorem t9 {p : Pr} {s : Ps} {hs : List Hd} {rs : List Bool} (hp : fM p) (hso : oa p s) (hh : xZ p hs) : oa p (aU p s hs rs).s := by
 unfold aU
 split
 ·exact F6 hp hso (tj hp hh)
 ·exact hso
theorem wv {p : Pr} {s : Ps} {hs : List Hd} {rs : List Bool} (hp : fM p) (hso : oa p s) (hh : xZ p hs) {i : Nat} (hi : i < p.puts.length) (hhas : ((aU p s hs rs).puts.getD i aK).has = true) : dD ((aU p s hs rs).puts.getD i aK).v (rO p i).w := by
 unfold aU at hhas ⊢
 split
 ·rename_i hf
  rw [if_pos hf] at hhas
  simp only at hhas ⊢
  rw [bq hi] at hhas ⊢
  unfold pA at hhas ⊢
  split
  ·have h := hp.pw i hi
   exact (wu (gm hp hso (tj hp hh)) h.2.2.1 h.2.2.2).2.1
  ·rename_i hn; rw [if_neg hn] at hhas; cases hhas
 ·rename_i hf
  rw [if_neg hf] at hhas
  simp [List.getD, List.getElem?_replicate, hi] at hhas
end Go.Proofs.YtifoecfajmnjjaaGreat
