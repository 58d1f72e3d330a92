/-
  Processes and circuits, plain data: what a process does at a tick, what a circuit does.
-/
import Derived.Test.YtgmpoenfoacofaaGreatQPrG
namespace Go.Proofs.YtgmpoenfoacofaaGreat
open Go.RowKit
set_option linter.unusedVariables false
set_option linter.unusedSimpArgs false
def tab {α : Type} (f : Nat → α) (n : Nat) : List α := (List.range n).map f
theorem tV {α : Type} (f : Nat → α) (n : Nat) : tab f (n + 1) = tab f n ++ [f n] := by simp [tab, List.range_succ]
theorem aJ {α : Type} (f : Nat → α) (n : Nat) : (tab f n).length = n := by simp [tab]
theorem bj {α : Type} {f : Nat → α} {n i : Nat} {d : α} (h : i < n) : (tab f n).getD i d = f i := by
 simp [tab, List.getD, List.getElem?_eq_getElem, h]
theorem Hi {α : Type} {f : Nat → α} {n i : Nat} {d : α} (h : n ≤ i) : (tab f n).getD i d = d := by
 rw [List.getD, List.getElem?_eq_none (by rw [aJ]; exact h)]; rfl
theorem gQ {α : Type} {f g : Nat → α} {n : Nat} (h : ∀ i, i < n → f i = g i) : tab f n = tab g n := by
 unfold tab
 exact List.map_congr_left (fun a ha => h a (List.mem_range.1 ha))
theorem FA {α : Type} {l : List α} {d : α} : l = tab (fun i => l.getD i d) l.length := by
 apply List.ext_getElem
 ·rw [aJ]
 ·intro i h1 h2; simp [tab, List.getD, List.getElem?_eq_getElem h1]
theorem pi {α : Type} {a b : List α} {d : α} (hl : a.length = b.length) (h : ∀ i, i < a.length → a.getD i d = b.getD i d) : a = b := by
 apply List.ext_getElem hl
 intro i h1 h2
 have := h i h1
 simpa [List.getD, List.getElem?_eq_getElem h1, List.getElem?_eq_getElem h2] using this
theorem BQ {α β : Type} {l : List α} {d : α} (f : α → β) : l.map f = tab (fun i => f (l.getD i d)) l.length := by
 apply List.ext_getElem
 ·simp [aJ]
 ·intro i h1 h2; rw [List.length_map] at h1; simp [tab, List.getD, List.getElem?_eq_getElem h1]
theorem Hj {α : Type} {f : Nat → α} {l : List α} {k : Nat} (hk : k < l.length) : (tab f k ++ l.drop k).set k (f k) = tab f (k + 1) ++ l.drop (k + 1) := by
 rw [List.set_append_right _ _ (by rw [aJ]; omega), aJ, Nat.sub_self, tV, List.append_assoc]
 congr 1
 rw [List.drop_eq_getElem_cons hk]; rfl
theorem FB {α : Type} {f : Nat → α} {l : List α} {k : Nat} (hk : l.length ≤ k) : tab f k ++ l.drop k = tab f k := by rw [List.drop_eq_nil_of_le hk, List.append_nil]
theorem bX {α : Type} {l : List α} {i j : Nat} {x d : α} (h : i < l.length) : (l.set i x).getD j d = if i = j then x else l.getD j d := by
 simp only [List.getD, List.getElem?_set]
 split
 ·rename_i e; subst e; simp [h]
 ·rfl
def cB (f : Nat → Bool) : Nat → Bool
 | 0 => true
 | n + 1 => cB f n && f n
theorem br {f : Nat → Bool} : ∀ {n : Nat}, cB f n = true ↔ ∀ i, i < n → f i = true
 | 0 => ⟨fun _ i hi => absurd hi (Nat.not_lt_zero _), fun _ => rfl⟩
 | n + 1 => by
  rw [cB, Bool.and_eq_true, br]
  constructor
  ·rintro ⟨h1, h2⟩ i hi
   rcases Nat.lt_or_ge i n with h | h
   ·exact h1 i h
   ·rw [show i = n by omega]; exact h2
  ·intro h; exact ⟨fun i hi => h i (by omega), h n (by omega)⟩
theorem gF {f : Nat → Bool} {n i : Nat} (hi : i < n) (h : f i = false) : cB f n = false := by
 cases hh : cB f n
 ·rfl
 ·rw [br.1 hh i hi] at h; cases h
def dQ (p : Pr) (s : Ps) (data : List Int) (e : Ex) : Bool := decide ((a5 p s data e).1 = 1)
def im (p : Pr) : List Int := List.replicate p.takes.length 0
abbrev kJ (p : Pr) (i : Nat) : Tk := p.takes.getD i bJ
abbrev rD (p : Pr) (i : Nat) : Pt := p.puts.getD i bn
abbrev DC (p : Pr) (i : Nat) : Rg := p.regs.getD i bH
abbrev kO (p : Pr) (i : Nat) : Mm := p.mems.getD i aI
def kP (p : Pr) (s : Ps) (hs : List Hd) (i : Nat) : Int := if dQ p s (im p) (kJ p i).when = true ∧ (hs.getD i aU).has = true then (hs.getD i aU).v else 0
def bM (p : Pr) (s : Ps) (hs : List Hd) : List Int := tab (kP p s hs) p.takes.length
def p7 (p : Pr) (s : Ps) (data : List Int) (i : Nat) : List Int :=
 if dQ p s data (kO p i).enable = true then (s.mems.getD i []).set (Int.tmod (a5 p s data (kO p i).addr).1 (kO p i).words).toNat (a5 p s data (kO p i).data).1 else s.mems.getD i []
def cj (p : Pr) (s : Ps) (data : List Int) : Ps := ⟨tab (fun i => (a5 p s data (DC p i).next).1) p.regs.length, tab (p7 p s data) p.mems.length⟩
def gG (p : Pr) (s : Ps) (hs : List Hd) (i : Nat) : Bool := (hs.getD i aU).has || !dQ p s (bM p s hs) (kJ p i).when
def js (p : Pr) (s : Ps) (hs : List Hd) (rs : List Bool) (i : Nat) : Bool := rs.getD i false || !dQ p s (bM p s hs) (rD p i).when
def ff (p : Pr) (s : Ps) (hs : List Hd) (rs : List Bool) : Bool := cB (gG p s hs) p.takes.length && cB (js p s hs rs) p.puts.length
def ll (p : Pr) (s : Ps) (hs : List Hd) (i : Nat) : Bool := dQ p s (bM p s hs) (kJ p i).when
def lm (p : Pr) (s : Ps) (hs : List Hd) (i : Nat) : Hd := if dQ p s (bM p s hs) (rD p i).when = true then ⟨true, (a5 p s (bM p s hs) (rD p i).data).1⟩ else aU
def aK (p : Pr) (s : Ps) (hs : List Hd) (rs : List Bool) : Fi :=
 if ff p s hs rs = true then ⟨true, cj p s (bM p s hs), tab (ll p s hs) p.takes.length, tab (lm p s hs) p.puts.length⟩
 else ⟨false, s, List.replicate p.takes.length false, List.replicate p.puts.length aU⟩
def aR (p : Pr) : Ps := ⟨p.regs.map (·.init), p.mems.map (fun m => List.replicate m.words.toNat 0)⟩
def c8 (v w : Int) : Bool := decide (0 ≤ v) && decide (v ≤ af w)
theorem y5 {v w : Int} : c8 v w = true ↔ dz v w := by simp [c8, dz]
def io (p : Pr) (s : Ps) (i : Nat) : Bool := decide (((s.mems.getD i []).length : Int) = (kO p i).words) && cB (fun j => c8 ((s.mems.getD i []).getD j 0) (kO p i).w) (s.mems.getD i []).length
def bQ (p : Pr) (s : Ps) : Bool := decide (s.regs.length = p.regs.length) && decide (s.mems.length = p.mems.length) && cB (fun i => c8 (s.regs.getD i 0) (DC p i).w) s.regs.length && cB (io p s) s.mems.length
def pj (p : Pr) : Sc := ⟨p.regs.map (·.w), p.mems.map (·.w), p.takes.map (·.w)⟩
def ME (p : Pr) : Sc := ⟨p.regs.map (·.w), p.mems.map (·.w), []⟩
structure fV (p : Pr) : Prop where
 rl : p.regs.length ≤ 100
 ml : p.mems.length ≤ 100
 tl : p.takes.length ≤ 100
 pl : p.puts.length ≤ 100
 rw : ∀ i, i < p.regs.length → am (DC p i).w = true ∧ dz (DC p i).init (DC p i).w ∧ eJ (pj p) (DC p i).next = some (DC p i).w ∧ fk (DC p i).next ≤ 3
 mw : ∀ i, i < p.mems.length → am (kO p i).w = true ∧ (1 ≤ (kO p i).words ∧ (kO p i).words ≤ 4) ∧ (eJ (pj p) (kO p i).enable = some 1 ∧ fk (kO p i).enable ≤ 3) ∧ ((∃ v, eJ (pj p) (kO p i).addr = some v) ∧ fk (kO p i).addr ≤ 3) ∧ eJ (pj p) (kO p i).data = some (kO p i).w ∧ fk (kO p i).data ≤ 3
 tw : ∀ i, i < p.takes.length → am (kJ p i).w = true ∧ eJ (ME p) (kJ p i).when = some 1 ∧ fk (kJ p i).when ≤ 3
 pw : ∀ i, i < p.puts.length → am (rD p i).w = true ∧ (eJ (pj p) (rD p i).when = some 1 ∧ fk (rD p i).when ≤ 3) ∧ eJ (pj p) (rD p i).data = some (rD p i).w ∧ fk (rD p i).data ≤ 3
structure nG (p : Pr) (s : Ps) : Prop where
 rl : s.regs.length = p.regs.length
 rv : ∀ i, i < p.regs.length → dz (s.regs.getD i 0) (DC p i).w
 ml : s.mems.length = p.mems.length
 mn : ∀ i, i < p.mems.length → ((s.mems.getD i []).length : Int) = (kO p i).words
 mv : ∀ i, i < p.mems.length → ∀ j, j < (s.mems.getD i []).length → dz ((s.mems.getD i []).getD j 0) (kO p i).w
structure y6 (p : Pr) (d : List Int) : Prop where
 l : d.length = p.takes.length
 v : ∀ i, i < p.takes.length → dz (d.getD i 0) (kJ p i).w
structure y7 (p : Pr) (hs : List Hd) : Prop where
 l : hs.length = p.takes.length
 v : ∀ i, i < p.takes.length → (hs.getD i aU).has = true → dz (hs.getD i aU).v (kJ p i).w
theorem DD {p : Pr} {s : Ps} : bQ p s = true ↔ nG p s := by
 unfold bQ io
 simp only [Bool.and_eq_true, decide_eq_true_eq, br, y5]
 constructor
 ·rintro ⟨⟨⟨h1, h2⟩, h3⟩, h4⟩
  exact ⟨h1, fun i hi => h3 i (by omega), h2, fun i hi => (h4 i (by omega)).1, fun i hi => (h4 i (by omega)).2⟩
 ·intro h
  exact ⟨⟨⟨h.rl, h.ml⟩, fun i hi => h.rv i (by have := h.rl; omega)⟩, fun i hi => ⟨h.mn i (by have := h.ml; omega), h.mv i (by have := h.ml; omega)⟩⟩
set_option maxHeartbeats 1600000 in
theorem fW {p : Pr} {s : Ps} {d : List Int} (hp : fV p) (hs : nG p s) (hd : y6 p d) : qF (pj p) p s d where
 prl := by simp [pj]
 prw := fun i hi => by
  have hi' : i < p.regs.length := by simpa [pj] using hi
  show (p.regs.getD i bH).w = (p.regs.map (·.w)).getD i 0
  rw [dm (·.w) p.regs i bH 0 hi']
 pml := by simp [pj]
 pmw := fun i hi => by
  have hi' : i < p.mems.length := by simpa [pj] using hi
  show (p.mems.getD i aI).w = (p.mems.map (·.w)).getD i 0
  rw [dm (·.w) p.mems i aI 0 hi']
 ptl := by simp [pj]
 ptw := fun i hi => by
  have hi' : i < p.takes.length := by simpa [pj] using hi
  show (p.takes.getD i bJ).w = (p.takes.map (·.w)).getD i 0
  rw [dm (·.w) p.takes i bJ 0 hi']
 srl := (hs.rl).trans (by simp [pj])
 srv := fun i hi => by
  have hi' : i < p.regs.length := by simpa [pj] using hi
  show dz _ ((p.regs.map (·.w)).getD i 0)
  rw [dm (·.w) p.regs i bH 0 hi']
  exact hs.rv i hi'
 sml := (hs.ml).trans (by simp [pj])
 smn := fun i hi => by
  have hi' : i < p.mems.length := by simpa [pj] using hi
  have := hs.mn i hi'
  have := (hp.mw i hi').2.1
  omega
 smv := fun i hi j hj => by
  have hi' : i < p.mems.length := by simpa [pj] using hi
  show dz _ ((p.mems.map (·.w)).getD i 0)
  rw [dm (·.w) p.mems i aI 0 hi']
  exact hs.mv i hi' j hj
 dl := (hd.l).trans (by simp [pj])
 dv := fun i hi => by
  have hi' : i < p.takes.length := by simpa [pj] using hi
  show dz _ ((p.takes.map (·.w)).getD i 0)
  rw [dm (·.w) p.takes i bJ 0 hi']
  exact hd.v i hi'
 rok := fun i hi => by
  have hi' : i < p.regs.length := by simpa [pj] using hi
  show am ((p.regs.map (·.w)).getD i 0) = true
  rw [dm (·.w) p.regs i bH 0 hi']
  exact (hp.rw i hi').1
 mok := fun i hi => by
  have hi' : i < p.mems.length := by simpa [pj] using hi
  show am ((p.mems.map (·.w)).getD i 0) = true
  rw [dm (·.w) p.mems i aI 0 hi']
  exact (hp.mw i hi').1
 tok := fun i hi => by
  have hi' : i < p.takes.length := by simpa [pj] using hi
  show am ((p.takes.map (·.w)).getD i 0) = true
  rw [dm (·.w) p.takes i bJ 0 hi']
  exact (hp.tw i hi').1
theorem Hk {c : Sc} {p : Pr} {s : Ps} (d d' : List Int) : ∀ (n : Nat) (e : Ex) (w : Int), fk e ≤ n → eJ ⟨c.rw, c.mw, []⟩ e = some w → eJ c e = some w ∧ a5 p s d e = a5 p s d' e := by
 intro n
 induction n with
 | zero => intro e w hd; cases e with | mk op name k w args => rw [fk] at hd; omega
 | succ n ih =>
  intro e w hd hty
  obtain ⟨ws, hws, hc⟩ := fU hty
  obtain ⟨hl, hget⟩ := j9 hws
  have hargs : ∀ i, i < e.args.length → eJ c (e.args.getD i dE) = some (ws.getD i 0) ∧ a5 p s d (e.args.getD i dE) = a5 p s d' (e.args.getD i dE) := fun i hi => ih _ _ (by have := BG hi; omega) (hget i hi)
  have hL : ∀ (l : List Ex) (ws : List Int), ws.length = l.length → (∀ i, i < l.length → eJ c (l.getD i dE) = some (ws.getD i 0)) → eJ.tyL c l = some ws := by
   intro l
   induction l with
   | nil => intro ws h _; cases ws with | nil => rfl | cons a r => cases h
   | cons a r ihr =>
    intro ws h hh
    cases ws with
    | nil => cases h
    | cons w0 wr =>
     have h0 : eJ c a = some w0 := hh 0 (by simp)
     have h1 := ihr wr (by simpa using h) (fun i hi => hh (i + 1) (by simpa using hi))
     rw [eJ.tyL, h0, h1]
  have hmap : e.args.map (a5 p s d) = e.args.map (a5 p s d') := by
   apply List.map_congr_left
   intro a ha
   obtain ⟨i, hi, rfl⟩ := List.mem_iff_getElem.1 ha
   have := (hargs i hi).2
   simpa [List.getD, List.getElem?_eq_getElem hi] using this
  have hws' := hL e.args ws hl (fun i hi => (hargs i hi).1)
  refine ⟨?_, ?_⟩
  ·cases e with
   | mk op name k w0 args =>
    rw [eJ, hws']
    simp only at hc ⊢
    rcases hc with ⟨h1, h2, h3, h4, rfl⟩ | ⟨h1, h2, h3, h4, rfl⟩ | ⟨h1, h2, h3, h4, rfl⟩ | ⟨h1, h2, h2', h3, rfl⟩
    ·rw [if_pos h1, if_pos ⟨h2, h3, h4⟩]
    ·exact absurd h4 (by simp; omega)
    ·rw [if_neg (by omega), if_neg (by omega), if_pos h1, if_pos ⟨h2, h3, h4⟩]
    ·rw [if_neg h1, if_neg h2', if_neg h2, if_pos h3]
  ·rw [nC, nC p s d', hmap]
   have h18 : e.op ≠ 18 := by
    rcases hc with ⟨h1, h2, h3, h4, rfl⟩ | ⟨h1, h2, h3, h4, rfl⟩ | ⟨h1, h2, h3, h4, rfl⟩ | ⟨h1, h2, h2', h3, rfl⟩
    ·omega
    ·exact absurd h4 (by simp; omega)
    ·omega
    ·exact h2'
   rw [if_neg h18, if_neg h18]
theorem gR {p : Pr} {s : Ps} (hp : fV p) {i : Nat} (hi : i < p.takes.length) (d d' : List Int) : dQ p s d (kJ p i).when = dQ p s d' (kJ p i).when ∧ eJ (pj p) (kJ p i).when = some 1 := by
 obtain ⟨h1, h2, h3⟩ := hp.tw i hi
 have h := Hk (c := pj p) (p := p) (s := s) d d' 3 _ 1 h3 h2
 exact ⟨by unfold dQ; rw [h.2], h.1⟩
theorem nI {w : Int} (h : am w = true) : dz 0 w := by
 have := aP.1 h
 exact ⟨by omega, (ap (by omega) (by omega)).1⟩
theorem It {p : Pr} (hp : fV p) : y6 p (im p) where
 l := by simp [im]
 v := fun i hi => by
  have e : (im p).getD i 0 = 0 := by simp [im, List.getD, List.getElem?_replicate]; split <;> rfl
  rw [e]; exact nI (hp.tw i hi).1
theorem tW {p : Pr} {s : Ps} {hs : List Hd} (hp : fV p) (hh : y7 p hs) : y6 p (bM p s hs) where
 l := by rw [bM, aJ]
 v := fun i hi => by
  rw [bM, bj hi, kP]
  split
  ·rename_i h; exact hh.v i hi h.2
  ·exact nI (hp.tw i hi).1
theorem AC (p : Pr) (s : Ps) (hs : List Hd) (rs : List Bool) : (aK p s hs rs).fires = ff p s hs rs := by
 unfold aK; split <;> simp_all
theorem na (p : Pr) (s : Ps) (hs : List Hd) (rs : List Bool) : (aK p s hs rs).pops.length = p.takes.length := by
 unfold aK; split <;> simp [aJ]
theorem nb (p : Pr) (s : Ps) (hs : List Hd) (rs : List Bool) : (aK p s hs rs).puts.length = p.puts.length := by
 unfold aK; split <;> simp [aJ]
theorem xt {p : Pr} {s : Ps} {d : List Int} {e : Ex} {w : Int} (ho : qF (pj p) p s d) (h : eJ (pj p) e = some w) (hd : fk e ≤ 3) : (a5 p s d e).2 = w ∧ dz (a5 p s d e).1 w ∧ am w = true := Fj ho 3 e w hd h
theorem Hl {p : Pr} {s : Ps} {d : List Int} (hp : fV p) (hs : nG p s) (hd : y6 p d) : nG p (cj p s d) where
 rl := by rw [cj]; simp [aJ]
 rv := fun i hi => by
  rw [cj]; simp only; rw [bj hi]
  have h := hp.rw i hi
  exact (xt (fW hp hs hd) h.2.2.1 h.2.2.2).2.1
 ml := by rw [cj]; simp [aJ]
 mn := fun i hi => by
  rw [cj]; simp only; rw [bj hi, p7]
  split
  ·rw [List.length_set]; exact hs.mn i hi
  ·exact hs.mn i hi
 mv := fun i hi j hj => by
  rw [cj] at hj ⊢; simp only at hj ⊢; rw [bj hi, p7] at hj ⊢
  have h := hp.mw i hi
  split at hj
  ·rename_i he
   rw [if_pos he]
   rw [List.length_set] at hj
   by_cases hm : (Int.tmod (a5 p s d (kO p i).addr).1 (kO p i).words).toNat < (s.mems.getD i []).length
   ·rw [bX hm]
    split
    ·exact (xt (fW hp hs hd) h.2.2.2.2.1 h.2.2.2.2.2).2.1
    ·exact hs.mv i hi j hj
   ·rw [List.set_eq_of_length_le (by omega)]
    exact hs.mv i hi j hj
  ·rename_i he
   rw [if_neg he]
   exact hs.mv i hi j hj
theorem u9 {p : Pr} {s : Ps} {hs : List Hd} {rs : List Bool} (hp : fV p) (hso : nG p s) (hh : y7 p hs) : nG p (aK p s hs rs).s := by
 unfold aK
 split
 ·exact Hl hp hso (tW hp hh)
 ·exact hso
theorem xu {p : Pr} {s : Ps} {hs : List Hd} {rs : List Bool} (hp : fV p) (hso : nG p s) (hh : y7 p hs) {i : Nat} (hi : i < p.puts.length) (hhas : ((aK p s hs rs).puts.getD i aU).has = true) : dz ((aK p s hs rs).puts.getD i aU).v (rD p i).w := by
 unfold aK at hhas ⊢
 split
 ·rename_i hf
  rw [if_pos hf] at hhas
  simp only at hhas ⊢
  rw [bj hi] at hhas ⊢
  unfold lm at hhas ⊢
  split
  ·have h := hp.pw i hi
   exact (xt (fW hp hso (tW hp hh)) h.2.2.1 h.2.2.2).2.1
  ·rename_i hn; rw [if_neg hn] at hhas; cases hhas
 ·rename_i hf
  rw [if_neg hf] at hhas
  simp [List.getD, List.getElem?_replicate, hi] at hhas
end Go.Proofs.YtgmpoenfoacofaaGreat
