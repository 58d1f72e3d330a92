/-
  Processes and circuits, plain data: what a process does at a tick, what a circuit does.
-/
import Derived.Test.YtifoecfajmnjjaaGreatQPrG
namespace Go.Proofs.YtifoecfajmnjjaaGreat
open Go.RowKit
set_option linter.unusedVariables false
set_option linter.unusedSimpArgs false
def ap {α : Type} (f : Nat → α) (n : Nat) : List α := (List.range n).map f
theorem sq {α : Type} (f : Nat → α) (n : Nat) : ap f (n + 1) = ap f n ++ [f n] := by simp [ap, List.range_succ]
theorem aR {α : Type} (f : Nat → α) (n : Nat) : (ap f n).length = n := by simp [ap]
theorem bj {α : Type} {f : Nat → α} {n i : Nat} {d : α} (h : i < n) : (ap f n).getD i d = f i := by
 simp [ap, List.getD, List.getElem?_eq_getElem, h]
theorem ET {α : Type} {f : Nat → α} {n i : Nat} {d : α} (h : n ≤ i) : (ap f n).getD i d = d := by
 rw [List.getD, List.getElem?_eq_none (by rw [aR]; exact h)]; rfl
theorem gL {α : Type} {f g : Nat → α} {n : Nat} (h : ∀ i, i < n → f i = g i) : ap f n = ap g n := by
 unfold ap
 exact List.map_congr_left (fun a ha => h a (List.mem_range.1 ha))
theorem Dk {α : Type} {l : List α} {d : α} : l = ap (fun i => l.getD i d) l.length := by
 apply List.ext_getElem
 ·rw [aR]
 ·intro i h1 h2; simp [ap, List.getD, List.getElem?_eq_getElem h1]
theorem jf {α : Type} {a b : List α} {d : α} (hl : a.length = b.length) (h : ∀ i, i < a.length → a.getD i d = b.getD i d) : a = b := by
 apply List.ext_getElem hl
 intro i h1 h2
 have := h i h1
 simpa [List.getD, List.getElem?_eq_getElem h1, List.getElem?_eq_getElem h2] using this
theorem zU {α β : Type} {l : List α} {d : α} (f : α → β) : l.map f = ap (fun i => f (l.getD i d)) l.length := by
 apply List.ext_getElem
 ·simp [aR]
 ·intro i h1 h2; rw [List.length_map] at h1; simp [ap, List.getD, List.getElem?_eq_getElem h1]
theorem EU {α : Type} {f : Nat → α} {l : List α} {k : Nat} (hk : k < l.length) : (ap f k ++ l.drop k).set k (f k) = ap f (k + 1) ++ l.drop (k + 1) := by
 rw [List.set_append_right _ _ (by rw [aR]; omega), aR, Nat.sub_self, sq, List.append_assoc]
 congr 1
 rw [List.drop_eq_getElem_cons hk]; rfl
theorem Dl {α : Type} {f : Nat → α} {l : List α} {k : Nat} (hk : l.length ≤ k) : ap f k ++ l.drop k = ap f k := by rw [List.drop_eq_nil_of_le hk, List.append_nil]
theorem b5 {α : Type} {l : List α} {i j : Nat} {x d : α} (h : i < l.length) : (l.set i x).getD j d = if i = j then x else l.getD j d := by
 simp only [List.getD, List.getElem?_set]
 split
 ·rename_i e; subst e; simp [h]
 ·rfl
def de (f : Nat → Bool) : Nat → Bool
 | 0 => true
 | n + 1 => de f n && f n
theorem bP {f : Nat → Bool} : ∀ {n : Nat}, de f n = true ↔ ∀ i, i < n → f i = true
 | 0 => ⟨fun _ i hi => absurd hi (Nat.not_lt_zero _), fun _ => rfl⟩
 | n + 1 => by
  rw [de, Bool.and_eq_true, bP]
  constructor
  ·rintro ⟨h1, h2⟩ i hi
   rcases Nat.lt_or_ge i n with h | h
   ·exact h1 i h
   ·rw [show i = n by omega]; exact h2
  ·intro h; exact ⟨fun i hi => h i (by omega), h n (by omega)⟩
theorem fN {f : Nat → Bool} {n i : Nat} (hi : i < n) (h : f i = false) : de f n = false := by
 cases hh : de f n
 ·rfl
 ·rw [bP.1 hh i hi] at h; cases h
def du (p : Pr) (s : Ps) (data : List Int) (e : Ex) : Bool := decide ((a7 p s data e).1 = 1)
def hU (p : Pr) : List Int := List.replicate p.takes.length 0
abbrev kt (p : Pr) (i : Nat) : Tk := p.takes.getD i bn
abbrev qE (p : Pr) (i : Nat) : Pt := p.puts.getD i aY
abbrev Be (p : Pr) (i : Nat) : Rg := p.regs.getD i bH
abbrev ku (p : Pr) (i : Nat) : Mm := p.mems.getD i aO
def kA (p : Pr) (s : Ps) (hs : List Hd) (i : Nat) : Int := if du p s (hU p) (kt p i).when = true ∧ (hs.getD i aJ).has = true then (hs.getD i aJ).v else 0
def bO (p : Pr) (s : Ps) (hs : List Hd) : List Int := ap (kA p s hs) p.takes.length
def py (p : Pr) (s : Ps) (data : List Int) (i : Nat) : List Int :=
 if du p s data (ku p i).enable = true then (s.mems.getD i []).set (Int.tmod (a7 p s data (ku p i).addr).1 (ku p i).words).toNat (a7 p s data (ku p i).data).1 else s.mems.getD i []
def ce (p : Pr) (s : Ps) (data : List Int) : Ps := ⟨ap (fun i => (a7 p s data (Be p i).next).1) p.regs.length, ap (py p s data) p.mems.length⟩
def gE (p : Pr) (s : Ps) (hs : List Hd) (i : Nat) : Bool := (hs.getD i aJ).has || !du p s (bO p s hs) (kt p i).when
def jg (p : Pr) (s : Ps) (hs : List Hd) (rs : List Bool) (i : Nat) : Bool := rs.getD i false || !du p s (bO p s hs) (qE p i).when
def fe (p : Pr) (s : Ps) (hs : List Hd) (rs : List Bool) : Bool := de (gE p s hs) p.takes.length && de (jg p s hs rs) p.puts.length
def kY (p : Pr) (s : Ps) (hs : List Hd) (i : Nat) : Bool := du p s (bO p s hs) (kt p i).when
def kZ (p : Pr) (s : Ps) (hs : List Hd) (i : Nat) : Hd := if du p s (bO p s hs) (qE p i).when = true then ⟨true, (a7 p s (bO p s hs) (qE p i).data).1⟩ else aJ
def aP (p : Pr) (s : Ps) (hs : List Hd) (rs : List Bool) : Fi :=
 if fe p s hs rs = true then ⟨true, ce p s (bO p s hs), ap (kY p s hs) p.takes.length, ap (kZ p s hs) p.puts.length⟩
 else ⟨false, s, List.replicate p.takes.length false, List.replicate p.puts.length aJ⟩
def aV (p : Pr) : Ps := ⟨p.regs.map (·.init), p.mems.map (fun m => List.replicate m.words.toNat 0)⟩
def cf (v w : Int) : Bool := decide (0 ≤ v) && decide (v ≤ ah w)
theorem wQ {v w : Int} : cf v w = true ↔ dt v w := by simp [cf, dt]
def gg (p : Pr) (s : Ps) (i : Nat) : Bool := decide (((s.mems.getD i []).length : Int) = (ku p i).words) && de (fun j => cf ((s.mems.getD i []).getD j 0) (ku p i).w) (s.mems.getD i []).length
def bp (p : Pr) (s : Ps) : Bool := decide (s.regs.length = p.regs.length) && decide (s.mems.length = p.mems.length) && de (fun i => cf (s.regs.getD i 0) (Be p i).w) s.regs.length && de (gg p s) s.mems.length
def oJ (p : Pr) : Sc := ⟨p.regs.map (·.w), p.mems.map (·.w), p.takes.map (·.w)⟩
def J6 (p : Pr) : Sc := ⟨p.regs.map (·.w), p.mems.map (·.w), []⟩
structure fq (p : Pr) : Prop where
 rl : p.regs.length ≤ 100
 ml : p.mems.length ≤ 100
 tl : p.takes.length ≤ 100
 pl : p.puts.length ≤ 100
 rw : ∀ i, i < p.regs.length → an (Be p i).w = true ∧ dt (Be p i).init (Be p i).w ∧ ex (oJ p) (Be p i).next = some (Be p i).w ∧ eX (Be p i).next ≤ 3
 mw : ∀ i, i < p.mems.length → an (ku p i).w = true ∧ (1 ≤ (ku p i).words ∧ (ku p i).words ≤ 4) ∧ (ex (oJ p) (ku p i).enable = some 1 ∧ eX (ku p i).enable ≤ 3) ∧ ((∃ v, ex (oJ p) (ku p i).addr = some v) ∧ eX (ku p i).addr ≤ 3) ∧ ex (oJ p) (ku p i).data = some (ku p i).w ∧ eX (ku p i).data ≤ 3
 tw : ∀ i, i < p.takes.length → an (kt p i).w = true ∧ ex (J6 p) (kt p i).when = some 1 ∧ eX (kt p i).when ≤ 3
 pw : ∀ i, i < p.puts.length → an (qE p i).w = true ∧ (ex (oJ p) (qE p i).when = some 1 ∧ eX (qE p i).when ≤ 3) ∧ ex (oJ p) (qE p i).data = some (qE p i).w ∧ eX (qE p i).data ≤ 3
structure nj (p : Pr) (s : Ps) : Prop where
 rl : s.regs.length = p.regs.length
 rv : ∀ i, i < p.regs.length → dt (s.regs.getD i 0) (Be p i).w
 ml : s.mems.length = p.mems.length
 mn : ∀ i, i < p.mems.length → ((s.mems.getD i []).length : Int) = (ku p i).words
 mv : ∀ i, i < p.mems.length → ∀ j, j < (s.mems.getD i []).length → dt ((s.mems.getD i []).getD j 0) (ku p i).w
structure wR (p : Pr) (d : List Int) : Prop where
 l : d.length = p.takes.length
 v : ∀ i, i < p.takes.length → dt (d.getD i 0) (kt p i).w
structure wS (p : Pr) (hs : List Hd) : Prop where
 l : hs.length = p.takes.length
 v : ∀ i, i < p.takes.length → (hs.getD i aJ).has = true → dt (hs.getD i aJ).v (kt p i).w
theorem Bf {p : Pr} {s : Ps} : bp p s = true ↔ nj p s := by
 unfold bp gg
 simp only [Bool.and_eq_true, decide_eq_true_eq, bP, wQ]
 constructor
 ·rintro ⟨⟨⟨h1, h2⟩, h3⟩, h4⟩
  exact ⟨h1, fun i hi => h3 i (by omega), h2, fun i hi => (h4 i (by omega)).1, fun i hi => (h4 i (by omega)).2⟩
 ·intro h
  exact ⟨⟨⟨h.rl, h.ml⟩, fun i hi => h.rv i (by have := h.rl; omega)⟩, fun i hi => ⟨h.mn i (by have := h.ml; omega), h.mv i (by have := h.ml; omega)⟩⟩
set_option maxHeartbeats 1600000 in
theorem fV {p : Pr} {s : Ps} {d : List Int} (hp : fq p) (hs : nj p s) (hd : wR p d) : p6 (oJ p) p s d where
 prl := by simp [oJ]
 prw := fun i hi => by
  have hi' : i < p.regs.length := by simpa [oJ] using hi
  show (p.regs.getD i bH).w = (p.regs.map (·.w)).getD i 0
  rw [dc (·.w) p.regs i bH 0 hi']
 pml := by simp [oJ]
 pmw := fun i hi => by
  have hi' : i < p.mems.length := by simpa [oJ] using hi
  show (p.mems.getD i aO).w = (p.mems.map (·.w)).getD i 0
  rw [dc (·.w) p.mems i aO 0 hi']
 ptl := by simp [oJ]
 ptw := fun i hi => by
  have hi' : i < p.takes.length := by simpa [oJ] using hi
  show (p.takes.getD i bn).w = (p.takes.map (·.w)).getD i 0
  rw [dc (·.w) p.takes i bn 0 hi']
 srl := (hs.rl).trans (by simp [oJ])
 srv := fun i hi => by
  have hi' : i < p.regs.length := by simpa [oJ] using hi
  show dt _ ((p.regs.map (·.w)).getD i 0)
  rw [dc (·.w) p.regs i bH 0 hi']
  exact hs.rv i hi'
 sml := (hs.ml).trans (by simp [oJ])
 smn := fun i hi => by
  have hi' : i < p.mems.length := by simpa [oJ] using hi
  have := hs.mn i hi'
  have := (hp.mw i hi').2.1
  omega
 smv := fun i hi j hj => by
  have hi' : i < p.mems.length := by simpa [oJ] using hi
  show dt _ ((p.mems.map (·.w)).getD i 0)
  rw [dc (·.w) p.mems i aO 0 hi']
  exact hs.mv i hi' j hj
 dl := (hd.l).trans (by simp [oJ])
 dv := fun i hi => by
  have hi' : i < p.takes.length := by simpa [oJ] using hi
  show dt _ ((p.takes.map (·.w)).getD i 0)
  rw [dc (·.w) p.takes i bn 0 hi']
  exact hd.v i hi'
 rok := fun i hi => by
  have hi' : i < p.regs.length := by simpa [oJ] using hi
  show an ((p.regs.map (·.w)).getD i 0) = true
  rw [dc (·.w) p.regs i bH 0 hi']
  exact (hp.rw i hi').1
 mok := fun i hi => by
  have hi' : i < p.mems.length := by simpa [oJ] using hi
  show an ((p.mems.map (·.w)).getD i 0) = true
  rw [dc (·.w) p.mems i aO 0 hi']
  exact (hp.mw i hi').1
 tok := fun i hi => by
  have hi' : i < p.takes.length := by simpa [oJ] using hi
  show an ((p.takes.map (·.w)).getD i 0) = true
  rw [dc (·.w) p.takes i bn 0 hi']
  exact (hp.tw i hi').1
theorem EV {c : Sc} {p : Pr} {s : Ps} (d d' : List Int) : ∀ (n : Nat) (e : Ex) (w : Int), eX e ≤ n → ex ⟨c.rw, c.mw, []⟩ e = some w → ex c e = some w ∧ a7 p s d e = a7 p s d' e := by
 intro n
 induction n with
 | zero => intro e w hd; cases e with | mk op name k w args => rw [eX] at hd; omega
 | succ n ih =>
  intro e w hd hty
  obtain ⟨ws, hws, hc⟩ := fU hty
  obtain ⟨hl, hget⟩ := jM hws
  have hargs : ∀ i, i < e.args.length → ex c (e.args.getD i dE) = some (ws.getD i 0) ∧ a7 p s d (e.args.getD i dE) = a7 p s d' (e.args.getD i dE) := fun i hi => ih _ _ (by have := zK hi; omega) (hget i hi)
  have hL : ∀ (l : List Ex) (ws : List Int), ws.length = l.length → (∀ i, i < l.length → ex c (l.getD i dE) = some (ws.getD i 0)) → ex.tyL c l = some ws := by
   intro l
   induction l with
   | nil => intro ws h _; cases ws with | nil => rfl | cons a r => cases h
   | cons a r ihr =>
    intro ws h hh
    cases ws with
    | nil => cases h
    | cons w0 wr =>
     have h0 : ex c a = some w0 := hh 0 (by simp)
     have h1 := ihr wr (by simpa using h) (fun i hi => hh (i + 1) (by simpa using hi))
     rw [ex.tyL, h0, h1]
  have hmap : e.args.map (a7 p s d) = e.args.map (a7 p s d') := by
   apply List.map_congr_left
   intro a ha
   obtain ⟨i, hi, rfl⟩ := List.mem_iff_getElem.1 ha
   have := (hargs i hi).2
   simpa [List.getD, List.getElem?_eq_getElem hi] using this
  have hws' := hL e.args ws hl (fun i hi => (hargs i hi).1)
  refine ⟨?_, ?_⟩
  ·cases e with
   | mk op name k w0 args =>
    rw [ex, hws']
    simp only at hc ⊢
    rcases hc with ⟨h1, h2, h3, h4, rfl⟩ | ⟨h1, h2, h3, h4, rfl⟩ | ⟨h1, h2, h3, h4, rfl⟩ | ⟨h1, h2, h2', h3, rfl⟩
    ·rw [if_pos h1, if_pos ⟨h2, h3, h4⟩]
    ·exact absurd h4 (by simp; omega)
    ·rw [if_neg (by omega), if_neg (by omega), if_pos h1, if_pos ⟨h2, h3, h4⟩]
    ·rw [if_neg h1, if_neg h2', if_neg h2, if_pos h3]
  ·rw [ni, ni p s d', hmap]
   have h18 : e.op ≠ 18 := by
    rcases hc with ⟨h1, h2, h3, h4, rfl⟩ | ⟨h1, h2, h3, h4, rfl⟩ | ⟨h1, h2, h3, h4, rfl⟩ | ⟨h1, h2, h2', h3, rfl⟩
    ·omega
    ·exact absurd h4 (by simp; omega)
    ·omega
    ·exact h2'
   rw [if_neg h18, if_neg h18]
theorem gM {p : Pr} {s : Ps} (hp : fq p) {i : Nat} (hi : i < p.takes.length) (d d' : List Int) : du p s d (kt p i).when = du p s d' (kt p i).when ∧ ex (oJ p) (kt p i).when = some 1 := by
 obtain ⟨h1, h2, h3⟩ := hp.tw i hi
 have h := EV (c := oJ p) (p := p) (s := s) d d' 3 _ 1 h3 h2
 exact ⟨by unfold du; rw [h.2], h.1⟩
theorem nk {w : Int} (h : an w = true) : dt 0 w := by
 have := aU.1 h
 exact ⟨by omega, (ay (by omega) (by omega)).1⟩
theorem FM {p : Pr} (hp : fq p) : wR p (hU p) where
 l := by simp [hU]
 v := fun i hi => by
  have e : (hU p).getD i 0 = 0 := by simp [hU, List.getD, List.getElem?_replicate]; split <;> rfl
  rw [e]; exact nk (hp.tw i hi).1
theorem sr {p : Pr} {s : Ps} {hs : List Hd} (hp : fq p) (hh : wS p hs) : wR p (bO p s hs) where
 l := by rw [bO, aR]
 v := fun i hi => by
  rw [bO, bj hi, kA]
  split
  ·rename_i h; exact hh.v i hi h.2
  ·exact nk (hp.tw i hi).1
theorem yy (p : Pr) (s : Ps) (hs : List Hd) (rs : List Bool) : (aP p s hs rs).fires = fe p s hs rs := by
 unfold aP; split <;> simp_all
theorem i2 (p : Pr) (s : Ps) (hs : List Hd) (rs : List Bool) : (aP p s hs rs).pops.length = p.takes.length := by
 unfold aP; split <;> simp [aR]
theorem i3 (p : Pr) (s : Ps) (hs : List Hd) (rs : List Bool) : (aP p s hs rs).puts.length = p.puts.length := by
 unfold aP; split <;> simp [aR]
theorem vi {p : Pr} {s : Ps} {d : List Int} {e : Ex} {w : Int} (ho : p6 (oJ p) p s d) (h : ex (oJ p) e = some w) (hd : eX e ≤ 3) : (a7 p s d e).2 = w ∧ dt (a7 p s d e).1 w ∧ an w = true := C5 ho 3 e w hd h
theorem EW {p : Pr} {s : Ps} {d : List Int} (hp : fq p) (hs : nj p s) (hd : wR p d) : nj p (ce p s d) where
 rl := by rw [ce]; simp [aR]
 rv := fun i hi => by
  rw [ce]; simp only; rw [bj hi]
  have h := hp.rw i hi
  exact (vi (fV hp hs hd) h.2.2.1 h.2.2.2).2.1
 ml := by rw [ce]; simp [aR]
 mn := fun i hi => by
  rw [ce]; simp only; rw [bj hi, py]
  split
  ·rw [List.length_set]; exact hs.mn i hi
  ·exact hs.mn i hi
 mv := fun i hi j hj => by
  rw [ce] at hj ⊢; simp only at hj ⊢; rw [bj hi, py] at hj ⊢
  have h := hp.mw i hi
  split at hj
  ·rename_i he
   rw [if_pos he]
   rw [List.length_set] at hj
   by_cases hm : (Int.tmod (a7 p s d (ku p i).addr).1 (ku p i).words).toNat < (s.mems.getD i []).length
   ·rw [b5 hm]
    split
    ·exact (vi (fV hp hs hd) h.2.2.2.2.1 h.2.2.2.2.2).2.1
    ·exact hs.mv i hi j hj
   ·rw [List.set_eq_of_length_le (by omega)]
    exact hs.mv i hi j hj
  ·rename_i he
   rw [if_neg he]
   exact hs.mv i hi j hj
theorem ta {p : Pr} {s : Ps} {hs : List Hd} {rs : List Bool} (hp : fq p) (hso : nj p s) (hh : wS p hs) : nj p (aP p s hs rs).s := by
 unfold aP
 split
 ·exact EW hp hso (sr hp hh)
 ·exact hso
theorem vj {p : Pr} {s : Ps} {hs : List Hd} {rs : List Bool} (hp : fq p) (hso : nj p s) (hh : wS p hs) {i : Nat} (hi : i < p.puts.length) (hhas : ((aP p s hs rs).puts.getD i aJ).has = true) : dt ((aP p s hs rs).puts.getD i aJ).v (qE p i).w := by
 unfold aP at hhas ⊢
 split
 ·rename_i hf
  rw [if_pos hf] at hhas
  simp only at hhas ⊢
  rw [bj hi] at hhas ⊢
  unfold kZ at hhas ⊢
  split
  ·have h := hp.pw i hi
   exact (vi (fV hp hso (sr hp hh)) h.2.2.1 h.2.2.2).2.1
  ·rename_i hn; rw [if_neg hn] at hhas; cases hhas
 ·rename_i hf
  rw [if_neg hf] at hhas
  simp [List.getD, List.getElem?_replicate, hi] at hhas
end Go.Proofs.YtifoecfajmnjjaaGreat
