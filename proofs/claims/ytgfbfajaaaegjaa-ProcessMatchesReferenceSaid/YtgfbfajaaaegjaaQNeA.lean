/-
  Processes and circuits, plain data: what a process does at a tick, what a circuit does.
-/
import Derived.Test.YtgfbfajaaaegjaaQPrG
namespace Go.Proofs.Ytgfbfajaaaegjaa
open Go.RowKit
set_option linter.unusedVariables false
set_option linter.unusedSimpArgs false
def tab {α : Type} (f : Nat → α) (n : Nat) : List α := (List.range n).map f
theorem rz {α : Type} (f : Nat → α) (n : Nat) : tab f (n + 1) = tab f n ++ [f n] := by simp [tab, List.range_succ]
theorem aC {α : Type} (f : Nat → α) (n : Nat) : (tab f n).length = n := by simp [tab]
theorem bn {α : Type} {f : Nat → α} {n i : Nat} {d : α} (h : i < n) : (tab f n).getD i d = f i := by
 simp [tab, List.getD, List.getElem?_eq_getElem, h]
theorem Af {α : Type} {l : List α} {d : α} : l = tab (fun i => l.getD i d) l.length := by
 apply List.ext_getElem
 ·rw [aC]
 ·intro i h1 h2; simp [tab, List.getD, List.getElem?_eq_getElem h1]
theorem nr {α : Type} {a b : List α} {d : α} (hl : a.length = b.length) (h : ∀ i, i < a.length → a.getD i d = b.getD i d) : a = b := by
 apply List.ext_getElem hl
 intro i h1 h2
 have := h i h1
 simpa [List.getD, List.getElem?_eq_getElem h1, List.getElem?_eq_getElem h2] using this
theorem xN {α β : Type} {l : List α} {d : α} (f : α → β) : l.map f = tab (fun i => f (l.getD i d)) l.length := by
 apply List.ext_getElem
 ·simp [aC]
 ·intro i h1 h2; rw [List.length_map] at h1; simp [tab, List.getD, List.getElem?_eq_getElem h1]
theorem Bj {α : Type} {f : Nat → α} {l : List α} {k : Nat} (hk : k < l.length) : (tab f k ++ l.drop k).set k (f k) = tab f (k + 1) ++ l.drop (k + 1) := by
 rw [List.set_append_right _ _ (by rw [aC]; omega), aC, Nat.sub_self, rz, List.append_assoc]
 congr 1
 rw [List.drop_eq_getElem_cons hk]; rfl
theorem Ag {α : Type} {f : Nat → α} {l : List α} {k : Nat} (hk : l.length ≤ k) : tab f k ++ l.drop k = tab f k := by rw [List.drop_eq_nil_of_le hk, List.append_nil]
theorem o7 {α : Type} {l : List α} {i j : Nat} {x d : α} (h : i < l.length) : (l.set i x).getD j d = if i = j then x else l.getD j d := by
 simp only [List.getD, List.getElem?_set]
 split
 ·rename_i e; subst e; simp [h]
 ·rfl
def ee (f : Nat → Bool) : Nat → Bool
 | 0 => true
 | n + 1 => ee f n && f n
theorem fd {f : Nat → Bool} : ∀ {n : Nat}, ee f n = true ↔ ∀ i, i < n → f i = true
 | 0 => ⟨fun _ i hi => absurd hi (Nat.not_lt_zero _), fun _ => rfl⟩
 | n + 1 => by
  rw [ee, Bool.and_eq_true, fd]
  constructor
  ·rintro ⟨h1, h2⟩ i hi
   rcases Nat.lt_or_ge i n with h | h
   ·exact h1 i h
   ·rw [show i = n by omega]; exact h2
  ·intro h; exact ⟨fun i hi => h i (by omega), h n (by omega)⟩
theorem qk {f : Nat → Bool} {n i : Nat} (hi : i < n) (h : f i = false) : ee f n = false := by
 cases hh : ee f n
 ·rfl
 ·rw [fd.1 hh i hi] at h; cases h
def dK (p : Pr) (s : Ps) (data : List Int) (e : Ex) : Bool := decide ((aL p s data e).1 = 1)
def gO (p : Pr) : List Int := List.replicate p.takes.length 0
abbrev pI (p : Pr) (i : Nat) : Tk := p.takes.getD i aX
abbrev vV (p : Pr) (i : Nat) : Pt := p.puts.getD i bg
abbrev vW (p : Pr) (i : Nat) : Rg := p.regs.getD i aM
abbrev iu (p : Pr) (i : Nat) : Mm := p.mems.getD i ax
def kd (p : Pr) (s : Ps) (hs : List Hd) (i : Nat) : Int := if dK p s (gO p) (pI p i).when = true ∧ (hs.getD i bp).has = true then (hs.getD i bp).v else 0
def bI (p : Pr) (s : Ps) (hs : List Hd) : List Int := tab (kd p s hs) p.takes.length
def od (p : Pr) (s : Ps) (data : List Int) (i : Nat) : List Int :=
 if dK p s data (iu p i).enable = true then (s.mems.getD i []).set (Int.tmod (aL p s data (iu p i).addr).1 (iu p i).words).toNat (aL p s data (iu p i).data).1 else s.mems.getD i []
def cf (p : Pr) (s : Ps) (data : List Int) : Ps := ⟨tab (fun i => (aL p s data (vW p i).next).1) p.regs.length, tab (od p s data) p.mems.length⟩
def jo (p : Pr) (s : Ps) (hs : List Hd) (i : Nat) : Bool := (hs.getD i bp).has || !dK p s (bI p s hs) (pI p i).when
def ke (p : Pr) (s : Ps) (hs : List Hd) (rs : List Bool) (i : Nat) : Bool := rs.getD i false || !dK p s (bI p s hs) (vV p i).when
def t8 (p : Pr) (s : Ps) (hs : List Hd) (rs : List Bool) : Bool := ee (jo p s hs) p.takes.length && ee (ke p s hs rs) p.puts.length
def rA (p : Pr) (s : Ps) (hs : List Hd) (i : Nat) : Bool := dK p s (bI p s hs) (pI p i).when
def rB (p : Pr) (s : Ps) (hs : List Hd) (i : Nat) : Hd := if dK p s (bI p s hs) (vV p i).when = true then ⟨true, (aL p s (bI p s hs) (vV p i).data).1⟩ else bp
def az (p : Pr) (s : Ps) (hs : List Hd) (rs : List Bool) : Fi :=
 if t8 p s hs rs = true then ⟨true, cf p s (bI p s hs), tab (rA p s hs) p.takes.length, tab (rB p s hs) p.puts.length⟩
 else ⟨false, s, List.replicate p.takes.length false, List.replicate p.puts.length bp⟩
def aZ (p : Pr) : Ps := ⟨p.regs.map (·.init), p.mems.map (fun m => List.replicate m.words.toNat 0)⟩
def fh (v w : Int) : Bool := decide (0 ≤ v) && decide (v ≤ ae w)
theorem Ah {v w : Int} : fh v w = true ↔ dX v w := by simp [fh, dX]
def fX (p : Pr) (s : Ps) (i : Nat) : Bool := decide (((s.mems.getD i []).length : Int) = (iu p i).words) && ee (fun j => fh ((s.mems.getD i []).getD j 0) (iu p i).w) (s.mems.getD i []).length
def bi (p : Pr) (s : Ps) : Bool := decide (s.regs.length = p.regs.length) && decide (s.mems.length = p.mems.length) && ee (fun i => fh (s.regs.getD i 0) (vW p i).w) s.regs.length && ee (fX p s) s.mems.length
def f8 (p : Pr) : Sc := ⟨p.regs.map (·.w), p.mems.map (·.w), p.takes.map (·.w)⟩
def EY (p : Pr) : Sc := ⟨p.regs.map (·.w), p.mems.map (·.w), []⟩
structure cZ (p : Pr) : Prop where
 rl : p.regs.length ≤ 100
 ml : p.mems.length ≤ 100
 tl : p.takes.length ≤ 100
 pl : p.puts.length ≤ 100
 rw : ∀ i, i < p.regs.length → ai (vW p i).w = true ∧ dX (vW p i).init (vW p i).w ∧ dc (f8 p) (vW p i).next = some (vW p i).w ∧ cR (vW p i).next ≤ 3
 mw : ∀ i, i < p.mems.length → ai (iu p i).w = true ∧ (1 ≤ (iu p i).words ∧ (iu p i).words ≤ 4) ∧ (dc (f8 p) (iu p i).enable = some 1 ∧ cR (iu p i).enable ≤ 3) ∧ ((∃ v, dc (f8 p) (iu p i).addr = some v) ∧ cR (iu p i).addr ≤ 3) ∧ dc (f8 p) (iu p i).data = some (iu p i).w ∧ cR (iu p i).data ≤ 3
 tw : ∀ i, i < p.takes.length → ai (pI p i).w = true ∧ dc (EY p) (pI p i).when = some 1 ∧ cR (pI p i).when ≤ 3
 pw : ∀ i, i < p.puts.length → ai (vV p i).w = true ∧ (dc (f8 p) (vV p i).when = some 1 ∧ cR (vV p i).when ≤ 3) ∧ dc (f8 p) (vV p i).data = some (vV p i).w ∧ cR (vV p i).data ≤ 3
structure kf (p : Pr) (s : Ps) : Prop where
 rl : s.regs.length = p.regs.length
 rv : ∀ i, i < p.regs.length → dX (s.regs.getD i 0) (vW p i).w
 ml : s.mems.length = p.mems.length
 mn : ∀ i, i < p.mems.length → ((s.mems.getD i []).length : Int) = (iu p i).words
 mv : ∀ i, i < p.mems.length → ∀ j, j < (s.mems.getD i []).length → dX ((s.mems.getD i []).getD j 0) (iu p i).w
structure sm (p : Pr) (d : List Int) : Prop where
 l : d.length = p.takes.length
 v : ∀ i, i < p.takes.length → dX (d.getD i 0) (pI p i).w
structure sn (p : Pr) (hs : List Hd) : Prop where
 l : hs.length = p.takes.length
 v : ∀ i, i < p.takes.length → (hs.getD i bp).has = true → dX (hs.getD i bp).v (pI p i).w
theorem yV {p : Pr} {s : Ps} : bi p s = true ↔ kf p s := by
 unfold bi fX
 simp only [Bool.and_eq_true, decide_eq_true_eq, fd, Ah]
 constructor
 ·rintro ⟨⟨⟨h1, h2⟩, h3⟩, h4⟩
  exact ⟨h1, fun i hi => h3 i (by omega), h2, fun i hi => (h4 i (by omega)).1, fun i hi => (h4 i (by omega)).2⟩
 ·intro h
  exact ⟨⟨⟨h.rl, h.ml⟩, fun i hi => h.rv i (by have := h.rl; omega)⟩, fun i hi => ⟨h.mn i (by have := h.ml; omega), h.mv i (by have := h.ml; omega)⟩⟩
set_option maxHeartbeats 1600000 in
theorem dr {p : Pr} {s : Ps} {d : List Int} (hp : cZ p) (hs : kf p s) (hd : sm p d) : mm (f8 p) p s d where
 prl := by simp [f8]
 prw := fun i hi => by
  have hi' : i < p.regs.length := by simpa [f8] using hi
  show (p.regs.getD i aM).w = (p.regs.map (·.w)).getD i 0
  rw [bB (·.w) p.regs i aM 0 hi']
 pml := by simp [f8]
 pmw := fun i hi => by
  have hi' : i < p.mems.length := by simpa [f8] using hi
  show (p.mems.getD i ax).w = (p.mems.map (·.w)).getD i 0
  rw [bB (·.w) p.mems i ax 0 hi']
 ptl := by simp [f8]
 ptw := fun i hi => by
  have hi' : i < p.takes.length := by simpa [f8] using hi
  show (p.takes.getD i aX).w = (p.takes.map (·.w)).getD i 0
  rw [bB (·.w) p.takes i aX 0 hi']
 srl := (hs.rl).trans (by simp [f8])
 srv := fun i hi => by
  have hi' : i < p.regs.length := by simpa [f8] using hi
  show dX _ ((p.regs.map (·.w)).getD i 0)
  rw [bB (·.w) p.regs i aM 0 hi']
  exact hs.rv i hi'
 sml := (hs.ml).trans (by simp [f8])
 smn := fun i hi => by
  have hi' : i < p.mems.length := by simpa [f8] using hi
  have := hs.mn i hi'
  have := (hp.mw i hi').2.1
  omega
 smv := fun i hi j hj => by
  have hi' : i < p.mems.length := by simpa [f8] using hi
  show dX _ ((p.mems.map (·.w)).getD i 0)
  rw [bB (·.w) p.mems i ax 0 hi']
  exact hs.mv i hi' j hj
 dl := (hd.l).trans (by simp [f8])
 dv := fun i hi => by
  have hi' : i < p.takes.length := by simpa [f8] using hi
  show dX _ ((p.takes.map (·.w)).getD i 0)
  rw [bB (·.w) p.takes i aX 0 hi']
  exact hd.v i hi'
 rok := fun i hi => by
  have hi' : i < p.regs.length := by simpa [f8] using hi
  show ai ((p.regs.map (·.w)).getD i 0) = true
  rw [bB (·.w) p.regs i aM 0 hi']
  exact (hp.rw i hi').1
 mok := fun i hi => by
  have hi' : i < p.mems.length := by simpa [f8] using hi
  show ai ((p.mems.map (·.w)).getD i 0) = true
  rw [bB (·.w) p.mems i ax 0 hi']
  exact (hp.mw i hi').1
 tok := fun i hi => by
  have hi' : i < p.takes.length := by simpa [f8] using hi
  show ai ((p.takes.map (·.w)).getD i 0) = true
  rw [bB (·.w) p.takes i aX 0 hi']
  exact (hp.tw i hi').1
theorem Bk {c : Sc} {p : Pr} {s : Ps} (d d' : List Int) : ∀ (n : Nat) (e : Ex) (w : Int), cR e ≤ n → dc ⟨c.rw, c.mw, []⟩ e = some w → dc c e = some w ∧ aL p s d e = aL p s d' e := by
 intro n
 induction n with
 | zero => intro e w hd; cases e with | mk op name k w args => rw [cR] at hd; omega
 | succ n ih =>
  intro e w hd hty
  obtain ⟨ws, hws, hc⟩ := dq hty
  obtain ⟨hl, hget⟩ := fb hws
  have hargs : ∀ i, i < e.args.length → dc c (e.args.getD i dE) = some (ws.getD i 0) ∧ aL p s d (e.args.getD i dE) = aL p s d' (e.args.getD i dE) := fun i hi => ih _ _ (by have := xC hi; omega) (hget i hi)
  have hL : ∀ (l : List Ex) (ws : List Int), ws.length = l.length → (∀ i, i < l.length → dc c (l.getD i dE) = some (ws.getD i 0)) → dc.tyL c l = some ws := by
   intro l
   induction l with
   | nil => intro ws h _; cases ws with | nil => rfl | cons a r => cases h
   | cons a r ihr =>
    intro ws h hh
    cases ws with
    | nil => cases h
    | cons w0 wr =>
     have h0 : dc c a = some w0 := hh 0 (by simp)
     have h1 := ihr wr (by simpa using h) (fun i hi => hh (i + 1) (by simpa using hi))
     rw [dc.tyL, h0, h1]
  have hmap : e.args.map (aL p s d) = e.args.map (aL p s d') := by
   apply List.map_congr_left
   intro a ha
   obtain ⟨i, hi, rfl⟩ := List.mem_iff_getElem.1 ha
   have := (hargs i hi).2
   simpa [List.getD, List.getElem?_eq_getElem hi] using this
  have hws' := hL e.args ws hl (fun i hi => (hargs i hi).1)
  refine ⟨?_, ?_⟩
  ·cases e with
   | mk op name k w0 args =>
    rw [dc, hws']
    simp only at hc ⊢
    rcases hc with ⟨h1, h2, h3, h4, rfl⟩ | ⟨h1, h2, h3, h4, rfl⟩ | ⟨h1, h2, h3, h4, rfl⟩ | ⟨h1, h2, h2', h3, rfl⟩
    ·rw [if_pos h1, if_pos ⟨h2, h3, h4⟩]
    ·exact absurd h4 (by simp; omega)
    ·rw [if_neg (by omega), if_neg (by omega), if_pos h1, if_pos ⟨h2, h3, h4⟩]
    ·rw [if_neg h1, if_neg h2', if_neg h2, if_pos h3]
  ·rw [mj, mj p s d', hmap]
   have h18 : e.op ≠ 18 := by
    rcases hc with ⟨h1, h2, h3, h4, rfl⟩ | ⟨h1, h2, h3, h4, rfl⟩ | ⟨h1, h2, h3, h4, rfl⟩ | ⟨h1, h2, h2', h3, rfl⟩
    ·omega
    ·exact absurd h4 (by simp; omega)
    ·omega
    ·exact h2'
   rw [if_neg h18, if_neg h18]
theorem iT {p : Pr} {s : Ps} (hp : cZ p) {i : Nat} (hi : i < p.takes.length) (d d' : List Int) : dK p s d (pI p i).when = dK p s d' (pI p i).when ∧ dc (f8 p) (pI p i).when = some 1 := by
 obtain ⟨h1, h2, h3⟩ := hp.tw i hi
 have h := Bk (c := f8 p) (p := p) (s := s) d d' 3 _ 1 h3 h2
 exact ⟨by unfold dK; rw [h.2], h.1⟩
theorem rC {w : Int} (h : ai w = true) : dX 0 w := by
 have := aE.1 h
 exact ⟨by omega, (am (by omega) (by omega)).1⟩
theorem Ai {p : Pr} (hp : cZ p) : sm p (gO p) where
 l := by simp [gO]
 v := fun i hi => by
  have e : (gO p).getD i 0 = 0 := by simp [gO, List.getD, List.getElem?_replicate]; split <;> rfl
  rw [e]; exact rC (hp.tw i hi).1
theorem rD {p : Pr} {s : Ps} {hs : List Hd} (hp : cZ p) (hh : sn p hs) : sm p (bI p s hs) where
 l := by rw [bI, aC]
 v := fun i hi => by
  rw [bI, bn hi, kd]
  split
  ·rename_i h; exact hh.v i hi h.2
  ·exact rC (hp.tw i hi).1
theorem so (p : Pr) (s : Ps) (hs : List Hd) (rs : List Bool) : (az p s hs rs).pops.length = p.takes.length := by
 unfold az; split <;> simp [aC]
theorem sq (p : Pr) (s : Ps) (hs : List Hd) (rs : List Bool) : (az p s hs rs).puts.length = p.puts.length := by
 unfold az; split <;> simp [aC]
theorem wH {p : Pr} {s : Ps} {d : List Int} {e : Ex} {w : Int} (ho : mm (f8 p) p s d) (h : dc (f8 p) e = some w) (hd : cR e ≤ 3) : (aL p s d e).2 = w ∧ dX (aL p s d e).1 w ∧ ai w = true := xE ho 3 e w hd h
theorem Bl {p : Pr} {s : Ps} {d : List Int} (hp : cZ p) (hs : kf p s) (hd : sm p d) : kf p (cf p s d) where
 rl := by rw [cf]; simp [aC]
 rv := fun i hi => by
  rw [cf]; simp only; rw [bn hi]
  have h := hp.rw i hi
  exact (wH (dr hp hs hd) h.2.2.1 h.2.2.2).2.1
 ml := by rw [cf]; simp [aC]
 mn := fun i hi => by
  rw [cf]; simp only; rw [bn hi, od]
  split
  ·rw [List.length_set]; exact hs.mn i hi
  ·exact hs.mn i hi
 mv := fun i hi j hj => by
  rw [cf] at hj ⊢; simp only at hj ⊢; rw [bn hi, od] at hj ⊢
  have h := hp.mw i hi
  split at hj
  ·rename_i he
   rw [if_pos he]
   rw [List.length_set] at hj
   by_cases hm : (Int.tmod (aL p s d (iu p i).addr).1 (iu p i).words).toNat < (s.mems.getD i []).length
   ·rw [o7 hm]
    split
    ·exact (wH (dr hp hs hd) h.2.2.2.2.1 h.2.2.2.2.2).2.1
    ·exact hs.mv i hi j hj
   ·rw [List.set_eq_of_length_le (by omega)]
    exact hs.mv i hi j hj
  ·rename_i he
   rw [if_neg he]
   exact hs.mv i hi j hj
theorem sr {p : Pr} {s : Ps} {hs : List Hd} {rs : List Bool} (hp : cZ p) (hso : kf p s) (hh : sn p hs) : kf p (az p s hs rs).s := by
 unfold az
 split
 ·exact Bl hp hso (rD hp hh)
 ·exact hso
end Go.Proofs.Ytgfbfajaaaegjaa
