/-
  Processes and circuits, plain data: what a process does at a tick, what a circuit does.
-/
import Derived.Test.YtgfbfajaaaegjaaQPrG
namespace Go.Proofs.Ytgfbfajaaaegjaa
open Go.RowKit
set_option linter.unusedVariables false
set_option linter.unusedSimpArgs false
def tab {α : Type} (f : Nat → α) (n : Nat) : List α := (List.range n).map f
theorem qI {α : Type} (f : Nat → α) (n : Nat) : tab f (n + 1) = tab f n ++ [f n] := by simp [tab, List.range_succ]
theorem aB {α : Type} (f : Nat → α) (n : Nat) : (tab f n).length = n := by simp [tab]
theorem aZ {α : Type} {f : Nat → α} {n i : Nat} {d : α} (h : i < n) : (tab f n).getD i d = f i := by
 simp [tab, List.getD, List.getElem?_eq_getElem, h]
theorem y2 {α : Type} {l : List α} {d : α} : l = tab (fun i => l.getD i d) l.length := by
 apply List.ext_getElem
 ·rw [aB]
 ·intro i h1 h2; simp [tab, List.getD, List.getElem?_eq_getElem h1]
theorem qJ {α : Type} {a b : List α} {d : α} (hl : a.length = b.length) (h : ∀ i, i < a.length → a.getD i d = b.getD i d) : a = b := by
 apply List.ext_getElem hl
 intro i h1 h2
 have := h i h1
 simpa [List.getD, List.getElem?_eq_getElem h1, List.getElem?_eq_getElem h2] using this
theorem wT {α β : Type} {l : List α} {d : α} (f : α → β) : l.map f = tab (fun i => f (l.getD i d)) l.length := by
 apply List.ext_getElem
 ·simp [aB]
 ·intro i h1 h2; rw [List.length_map] at h1; simp [tab, List.getD, List.getElem?_eq_getElem h1]
theorem Ae {α : Type} {f : Nat → α} {l : List α} {k : Nat} (hk : k < l.length) : (tab f k ++ l.drop k).set k (f k) = tab f (k + 1) ++ l.drop (k + 1) := by
 rw [List.set_append_right _ _ (by rw [aB]; omega), aB, Nat.sub_self, qI, List.append_assoc]
 congr 1
 rw [List.drop_eq_getElem_cons hk]; rfl
theorem y3 {α : Type} {f : Nat → α} {l : List α} {k : Nat} (hk : l.length ≤ k) : tab f k ++ l.drop k = tab f k := by rw [List.drop_eq_nil_of_le hk, List.append_nil]
theorem oh {α : Type} {l : List α} {i j : Nat} {x d : α} (h : i < l.length) : (l.set i x).getD j d = if i = j then x else l.getD j d := by
 simp only [List.getD, List.getElem?_set]
 split
 ·rename_i e; subst e; simp [h]
 ·rfl
def eC (f : Nat → Bool) : Nat → Bool
 | 0 => true
 | n + 1 => eC f n && f n
theorem dJ {f : Nat → Bool} : ∀ {n : Nat}, eC f n = true ↔ ∀ i, i < n → f i = true
 | 0 => ⟨fun _ i hi => absurd hi (Nat.not_lt_zero _), fun _ => rfl⟩
 | n + 1 => by
  rw [eC, Bool.and_eq_true, dJ]
  constructor
  ·rintro ⟨h1, h2⟩ i hi
   rcases Nat.lt_or_ge i n with h | h
   ·exact h1 i h
   ·rw [show i = n by omega]; exact h2
  ·intro h; exact ⟨fun i hi => h i (by omega), h n (by omega)⟩
theorem tp {f : Nat → Bool} {n i : Nat} (hi : i < n) (h : f i = false) : eC f n = false := by
 cases hh : eC f n
 ·rfl
 ·rw [dJ.1 hh i hi] at h; cases h
def jA (p : Pr) (s : Ps) (data : List Int) (e : Ex) : Bool := decide ((bg p s data e).1 = 1)
def ri (p : Pr) : List Int := List.replicate p.takes.length 0
abbrev o0 (p : Pr) (i : Nat) : Tk := p.takes.getD i aJ
abbrev tq (p : Pr) (i : Nat) : Pt := p.puts.getD i ay
abbrev rj (p : Pr) (i : Nat) : Rg := p.regs.getD i aA
abbrev fr (p : Pr) (i : Nat) : Mm := p.mems.getD i ai
def oi (p : Pr) (s : Ps) (hs : List Hd) (i : Nat) : Int := if jA p s (ri p) (o0 p i).when = true ∧ (hs.getD i be).has = true then (hs.getD i be).v else 0
def jB (p : Pr) (s : Ps) (hs : List Hd) : List Int := tab (oi p s hs) p.takes.length
def uN (p : Pr) (s : Ps) (data : List Int) (i : Nat) : List Int :=
 if jA p s data (fr p i).enable = true then (s.mems.getD i []).set (Int.tmod (bg p s data (fr p i).addr).1 (fr p i).words).toNat (bg p s data (fr p i).data).1 else s.mems.getD i []
def ed (p : Pr) (s : Ps) (data : List Int) : Ps := ⟨tab (fun i => (bg p s data (rj p i).next).1) p.regs.length, tab (uN p s data) p.mems.length⟩
def kV (p : Pr) (s : Ps) (hs : List Hd) (i : Nat) : Bool := (hs.getD i be).has || !jA p s (jB p s hs) (o0 p i).when
def mG (p : Pr) (s : Ps) (hs : List Hd) (rs : List Bool) (i : Nat) : Bool := rs.getD i false || !jA p s (jB p s hs) (tq p i).when
def gT (p : Pr) (s : Ps) (hs : List Hd) (rs : List Bool) : Bool := eC (kV p s hs) p.takes.length && eC (mG p s hs rs) p.puts.length
def px (p : Pr) (s : Ps) (hs : List Hd) (i : Nat) : Bool := jA p s (jB p s hs) (o0 p i).when
def jm (p : Pr) (s : Ps) (hs : List Hd) (i : Nat) : Hd := if jA p s (jB p s hs) (tq p i).when = true then ⟨true, (bg p s (jB p s hs) (tq p i).data).1⟩ else be
def ae (p : Pr) (s : Ps) (hs : List Hd) (rs : List Bool) : Fi :=
 if gT p s hs rs = true then ⟨true, ed p s (jB p s hs), tab (px p s hs) p.takes.length, tab (jm p s hs) p.puts.length⟩
 else ⟨false, s, List.replicate p.takes.length false, List.replicate p.puts.length be⟩
def bt (p : Pr) : Ps := ⟨p.regs.map (·.init), p.mems.map (fun m => List.replicate m.words.toNat 0)⟩
def eJ (v w : Int) : Bool := decide (0 ≤ v) && decide (v ≤ af w)
theorem y4 {v w : Int} : eJ v w = true ↔ dj v w := by simp [eJ, dj]
def fm (p : Pr) (s : Ps) (i : Nat) : Bool := decide (((s.mems.getD i []).length : Int) = (fr p i).words) && eC (fun j => eJ ((s.mems.getD i []).getD j 0) (fr p i).w) (s.mems.getD i []).length
def ba (p : Pr) (s : Ps) : Bool := decide (s.regs.length = p.regs.length) && decide (s.mems.length = p.mems.length) && eC (fun i => eJ (s.regs.getD i 0) (rj p i).w) s.regs.length && eC (fm p s) s.mems.length
def ee (p : Pr) : Sc := ⟨p.regs.map (·.w), p.mems.map (·.w), p.takes.map (·.w)⟩
def DQ (p : Pr) : Sc := ⟨p.regs.map (·.w), p.mems.map (·.w), []⟩
structure dA (p : Pr) : Prop where
 rl : p.regs.length ≤ 100
 ml : p.mems.length ≤ 100
 tl : p.takes.length ≤ 100
 pl : p.puts.length ≤ 100
 rw : ∀ i, i < p.regs.length → an (rj p i).w = true ∧ dj (rj p i).init (rj p i).w ∧ cz (ee p) (rj p i).next = some (rj p i).w ∧ ce (rj p i).next ≤ 3
 mw : ∀ i, i < p.mems.length → an (fr p i).w = true ∧ (1 ≤ (fr p i).words ∧ (fr p i).words ≤ 4) ∧ (cz (ee p) (fr p i).enable = some 1 ∧ ce (fr p i).enable ≤ 3) ∧ ((∃ v, cz (ee p) (fr p i).addr = some v) ∧ ce (fr p i).addr ≤ 3) ∧ cz (ee p) (fr p i).data = some (fr p i).w ∧ ce (fr p i).data ≤ 3
 tw : ∀ i, i < p.takes.length → an (o0 p i).w = true ∧ cz (DQ p) (o0 p i).when = some 1 ∧ ce (o0 p i).when ≤ 3
 pw : ∀ i, i < p.puts.length → an (tq p i).w = true ∧ (cz (ee p) (tq p i).when = some 1 ∧ ce (tq p i).when ≤ 3) ∧ cz (ee p) (tq p i).data = some (tq p i).w ∧ ce (tq p i).data ≤ 3
structure lL (p : Pr) (s : Ps) : Prop where
 rl : s.regs.length = p.regs.length
 rv : ∀ i, i < p.regs.length → dj (s.regs.getD i 0) (rj p i).w
 ml : s.mems.length = p.mems.length
 mn : ∀ i, i < p.mems.length → ((s.mems.getD i []).length : Int) = (fr p i).words
 mv : ∀ i, i < p.mems.length → ∀ j, j < (s.mems.getD i []).length → dj ((s.mems.getD i []).getD j 0) (fr p i).w
structure uO (p : Pr) (d : List Int) : Prop where
 l : d.length = p.takes.length
 v : ∀ i, i < p.takes.length → dj (d.getD i 0) (o0 p i).w
structure tr (p : Pr) (hs : List Hd) : Prop where
 l : hs.length = p.takes.length
 v : ∀ i, i < p.takes.length → (hs.getD i be).has = true → dj (hs.getD i be).v (o0 p i).w
theorem su {p : Pr} {s : Ps} : ba p s = true ↔ lL p s := by
 unfold ba fm
 simp only [Bool.and_eq_true, decide_eq_true_eq, dJ, y4]
 constructor
 ·rintro ⟨⟨⟨h1, h2⟩, h3⟩, h4⟩
  exact ⟨h1, fun i hi => h3 i (by omega), h2, fun i hi => (h4 i (by omega)).1, fun i hi => (h4 i (by omega)).2⟩
 ·intro h
  exact ⟨⟨⟨h.rl, h.ml⟩, fun i hi => h.rv i (by have := h.rl; omega)⟩, fun i hi => ⟨h.mn i (by have := h.ml; omega), h.mv i (by have := h.ml; omega)⟩⟩
set_option maxHeartbeats 1600000 in
theorem ge {p : Pr} {s : Ps} {d : List Int} (hp : dA p) (hs : lL p s) (hd : uO p d) : qF (ee p) p s d where
 prl := by simp [ee]
 prw := fun i hi => by
  have hi' : i < p.regs.length := by simpa [ee] using hi
  show (p.regs.getD i aA).w = (p.regs.map (·.w)).getD i 0
  rw [bz (·.w) p.regs i aA 0 hi']
 pml := by simp [ee]
 pmw := fun i hi => by
  have hi' : i < p.mems.length := by simpa [ee] using hi
  show (p.mems.getD i ai).w = (p.mems.map (·.w)).getD i 0
  rw [bz (·.w) p.mems i ai 0 hi']
 ptl := by simp [ee]
 ptw := fun i hi => by
  have hi' : i < p.takes.length := by simpa [ee] using hi
  show (p.takes.getD i aJ).w = (p.takes.map (·.w)).getD i 0
  rw [bz (·.w) p.takes i aJ 0 hi']
 srl := (hs.rl).trans (by simp [ee])
 srv := fun i hi => by
  have hi' : i < p.regs.length := by simpa [ee] using hi
  show dj _ ((p.regs.map (·.w)).getD i 0)
  rw [bz (·.w) p.regs i aA 0 hi']
  exact hs.rv i hi'
 sml := (hs.ml).trans (by simp [ee])
 smn := fun i hi => by
  have hi' : i < p.mems.length := by simpa [ee] using hi
  have := hs.mn i hi'
  have := (hp.mw i hi').2.1
  omega
 smv := fun i hi j hj => by
  have hi' : i < p.mems.length := by simpa [ee] using hi
  show dj _ ((p.mems.map (·.w)).getD i 0)
  rw [bz (·.w) p.mems i ai 0 hi']
  exact hs.mv i hi' j hj
 dl := (hd.l).trans (by simp [ee])
 dv := fun i hi => by
  have hi' : i < p.takes.length := by simpa [ee] using hi
  show dj _ ((p.takes.map (·.w)).getD i 0)
  rw [bz (·.w) p.takes i aJ 0 hi']
  exact hd.v i hi'
 rok := fun i hi => by
  have hi' : i < p.regs.length := by simpa [ee] using hi
  show an ((p.regs.map (·.w)).getD i 0) = true
  rw [bz (·.w) p.regs i aA 0 hi']
  exact (hp.rw i hi').1
 mok := fun i hi => by
  have hi' : i < p.mems.length := by simpa [ee] using hi
  show an ((p.mems.map (·.w)).getD i 0) = true
  rw [bz (·.w) p.mems i ai 0 hi']
  exact (hp.mw i hi').1
 tok := fun i hi => by
  have hi' : i < p.takes.length := by simpa [ee] using hi
  show an ((p.takes.map (·.w)).getD i 0) = true
  rw [bz (·.w) p.takes i aJ 0 hi']
  exact (hp.tw i hi').1
theorem Af {c : Sc} {p : Pr} {s : Ps} (d d' : List Int) : ∀ (n : Nat) (e : Ex) (w : Int), ce e ≤ n → cz ⟨c.rw, c.mw, []⟩ e = some w → cz c e = some w ∧ bg p s d e = bg p s d' e := by
 intro n
 induction n with
 | zero => intro e w hd; cases e with | mk op name k w args => rw [ce] at hd; omega
 | succ n ih =>
  intro e w hd hty
  obtain ⟨ws, hws, hc⟩ := cS hty
  obtain ⟨hl, hget⟩ := e7 hws
  have hargs : ∀ i, i < e.args.length → cz c (e.args.getD i dE) = some (ws.getD i 0) ∧ bg p s d (e.args.getD i dE) = bg p s d' (e.args.getD i dE) := fun i hi => ih _ _ (by have := wN hi; omega) (hget i hi)
  have hL : ∀ (l : List Ex) (ws : List Int), ws.length = l.length → (∀ i, i < l.length → cz c (l.getD i dE) = some (ws.getD i 0)) → cz.tyL c l = some ws := by
   intro l
   induction l with
   | nil => intro ws h _; cases ws with | nil => rfl | cons a r => cases h
   | cons a r ihr =>
    intro ws h hh
    cases ws with
    | nil => cases h
    | cons w0 wr =>
     have h0 : cz c a = some w0 := hh 0 (by simp)
     have h1 := ihr wr (by simpa using h) (fun i hi => hh (i + 1) (by simpa using hi))
     rw [cz.tyL, h0, h1]
  have hmap : e.args.map (bg p s d) = e.args.map (bg p s d') := by
   apply List.map_congr_left
   intro a ha
   obtain ⟨i, hi, rfl⟩ := List.mem_iff_getElem.1 ha
   have := (hargs i hi).2
   simpa [List.getD, List.getElem?_eq_getElem hi] using this
  have hws' := hL e.args ws hl (fun i hi => (hargs i hi).1)
  refine ⟨?_, ?_⟩
  ·cases e with
   | mk op name k w0 args =>
    rw [cz, hws']
    simp only at hc ⊢
    rcases hc with ⟨h1, h2, h3, h4, rfl⟩ | ⟨h1, h2, h3, h4, rfl⟩ | ⟨h1, h2, h3, h4, rfl⟩ | ⟨h1, h2, h2', h3, rfl⟩
    ·rw [if_pos h1, if_pos ⟨h2, h3, h4⟩]
    ·exact absurd h4 (by simp; omega)
    ·rw [if_neg (by omega), if_neg (by omega), if_pos h1, if_pos ⟨h2, h3, h4⟩]
    ·rw [if_neg h1, if_neg h2', if_neg h2, if_pos h3]
  ·rw [lJ, lJ p s d', hmap]
   have h18 : e.op ≠ 18 := by
    rcases hc with ⟨h1, h2, h3, h4, rfl⟩ | ⟨h1, h2, h3, h4, rfl⟩ | ⟨h1, h2, h3, h4, rfl⟩ | ⟨h1, h2, h2', h3, rfl⟩
    ·omega
    ·exact absurd h4 (by simp; omega)
    ·omega
    ·exact h2'
   rw [if_neg h18, if_neg h18]
theorem ii {p : Pr} {s : Ps} (hp : dA p) {i : Nat} (hi : i < p.takes.length) (d d' : List Int) : jA p s d (o0 p i).when = jA p s d' (o0 p i).when ∧ cz (ee p) (o0 p i).when = some 1 := by
 obtain ⟨h1, h2, h3⟩ := hp.tw i hi
 have h := Af (c := ee p) (p := p) (s := s) d d' 3 _ 1 h3 h2
 exact ⟨by unfold jA; rw [h.2], h.1⟩
theorem qK {w : Int} (h : an w = true) : dj 0 w := by
 have := aK.1 h
 exact ⟨by omega, (ap (by omega) (by omega)).1⟩
theorem A7 {p : Pr} (hp : dA p) : uO p (ri p) where
 l := by simp [ri]
 v := fun i hi => by
  have e : (ri p).getD i 0 = 0 := by simp [ri, List.getD, List.getElem?_replicate]; split <;> rfl
  rw [e]; exact qK (hp.tw i hi).1
theorem vS {p : Pr} {s : Ps} {hs : List Hd} (hp : dA p) (hh : tr p hs) : uO p (jB p s hs) where
 l := by rw [jB, aB]
 v := fun i hi => by
  rw [jB, aZ hi, oi]
  split
  ·rename_i h; exact hh.v i hi h.2
  ·exact qK (hp.tw i hi).1
theorem lM (p : Pr) (s : Ps) (hs : List Hd) (rs : List Bool) : (ae p s hs rs).fires = gT p s hs rs := by
 unfold ae; split <;> simp_all
theorem ln (p : Pr) (s : Ps) (hs : List Hd) (rs : List Bool) : (ae p s hs rs).pops.length = p.takes.length := by
 unfold ae; split <;> simp [aB]
theorem lp (p : Pr) (s : Ps) (hs : List Hd) (rs : List Bool) : (ae p s hs rs).puts.length = p.puts.length := by
 unfold ae; split <;> simp [aB]
theorem ts {p : Pr} {s : Ps} {d : List Int} {e : Ex} {w : Int} (ho : qF (ee p) p s d) (h : cz (ee p) e = some w) (hd : ce e ≤ 3) : (bg p s d e).2 = w ∧ dj (bg p s d e).1 w ∧ an w = true := yO ho 3 e w hd h
theorem Ag {p : Pr} {s : Ps} {d : List Int} (hp : dA p) (hs : lL p s) (hd : uO p d) : lL p (ed p s d) where
 rl := by rw [ed]; simp [aB]
 rv := fun i hi => by
  rw [ed]; simp only; rw [aZ hi]
  have h := hp.rw i hi
  exact (ts (ge hp hs hd) h.2.2.1 h.2.2.2).2.1
 ml := by rw [ed]; simp [aB]
 mn := fun i hi => by
  rw [ed]; simp only; rw [aZ hi, uN]
  split
  ·rw [List.length_set]; exact hs.mn i hi
  ·exact hs.mn i hi
 mv := fun i hi j hj => by
  rw [ed] at hj ⊢; simp only at hj ⊢; rw [aZ hi, uN] at hj ⊢
  have h := hp.mw i hi
  split at hj
  ·rename_i he
   rw [if_pos he]
   rw [List.length_set] at hj
   by_cases hm : (Int.tmod (bg p s d (fr p i).addr).1 (fr p i).words).toNat < (s.mems.getD i []).length
   ·rw [oh hm]
    split
    ·exact (ts (ge hp hs hd) h.2.2.2.2.1 h.2.2.2.2.2).2.1
    ·exact hs.mv i hi j hj
   ·rw [List.set_eq_of_length_le (by omega)]
    exact hs.mv i hi j hj
  ·rename_i he
   rw [if_neg he]
   exact hs.mv i hi j hj
theorem lq {p : Pr} {s : Ps} {hs : List Hd} {rs : List Bool} (hp : dA p) (hso : lL p s) (hh : tr p hs) : lL p (ae p s hs rs).s := by
 unfold ae
 split
 ·exact Ag hp hso (vS hp hh)
 ·exact hso
theorem tu {p : Pr} {s : Ps} {hs : List Hd} {rs : List Bool} (hp : dA p) (hso : lL p s) (hh : tr p hs) {i : Nat} (hi : i < p.puts.length) (hhas : ((ae p s hs rs).puts.getD i be).has = true) : dj ((ae p s hs rs).puts.getD i be).v (tq p i).w := by
 unfold ae at hhas ⊢
 split
 ·rename_i hf
  rw [if_pos hf] at hhas
  simp only at hhas ⊢
  rw [aZ hi] at hhas ⊢
  unfold jm at hhas ⊢
  split
  ·have h := hp.pw i hi
   exact (ts (ge hp hso (vS hp hh)) h.2.2.1 h.2.2.2).2.1
  ·rename_i hn; rw [if_neg hn] at hhas; cases hhas
 ·rename_i hf
  rw [if_neg hf] at hhas
  simp [List.getD, List.getElem?_replicate, hi] at hhas
end Go.Proofs.Ytgfbfajaaaegjaa
