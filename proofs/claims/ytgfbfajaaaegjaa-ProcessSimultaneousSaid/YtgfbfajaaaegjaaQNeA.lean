/-
  Processes and circuits, plain data: what a process does at a tick, what a circuit does.
-/
import Derived.Test.YtgfbfajaaaegjaaQPrG
namespace Go.Proofs.Ytgfbfajaaaegjaa
open Go.RowKit
set_option linter.unusedVariables false
set_option linter.unusedSimpArgs false
def tab {α : Type} (f : Nat → α) (n : Nat) : List α := (List.range n).map f
theorem qM {α : Type} (f : Nat → α) (n : Nat) : tab f (n + 1) = tab f n ++ [f n] := by simp [tab, List.range_succ]
theorem an {α : Type} (f : Nat → α) (n : Nat) : (tab f n).length = n := by simp [tab]
theorem aE {α : Type} {f : Nat → α} {n i : Nat} {d : α} (h : i < n) : (tab f n).getD i d = f i := by
 simp [tab, List.getD, List.getElem?_eq_getElem, h]
theorem eS {α : Type} {f g : Nat → α} {n : Nat} (h : ∀ i, i < n → f i = g i) : tab f n = tab g n := by
 unfold tab
 exact List.map_congr_left (fun a ha => h a (List.mem_range.1 ha))
theorem y4 {α : Type} {l : List α} {d : α} : l = tab (fun i => l.getD i d) l.length := by
 apply List.ext_getElem
 ·rw [an]
 ·intro i h1 h2; simp [tab, List.getD, List.getElem?_eq_getElem h1]
theorem qN {α : Type} {a b : List α} {d : α} (hl : a.length = b.length) (h : ∀ i, i < a.length → a.getD i d = b.getD i d) : a = b := by
 apply List.ext_getElem hl
 intro i h1 h2
 have := h i h1
 simpa [List.getD, List.getElem?_eq_getElem h1, List.getElem?_eq_getElem h2] using this
theorem mZ {α β : Type} {l : List α} {d : α} (f : α → β) : l.map f = tab (fun i => f (l.getD i d)) l.length := by
 apply List.ext_getElem
 ·simp [an]
 ·intro i h1 h2; rw [List.length_map] at h1; simp [tab, List.getD, List.getElem?_eq_getElem h1]
theorem zZ {α : Type} {f : Nat → α} {l : List α} {k : Nat} (hk : k < l.length) : (tab f k ++ l.drop k).set k (f k) = tab f (k + 1) ++ l.drop (k + 1) := by
 rw [List.set_append_right _ _ (by rw [an]; omega), an, Nat.sub_self, qM, List.append_assoc]
 congr 1
 rw [List.drop_eq_getElem_cons hk]; rfl
theorem y5 {α : Type} {f : Nat → α} {l : List α} {k : Nat} (hk : l.length ≤ k) : tab f k ++ l.drop k = tab f k := by rw [List.drop_eq_nil_of_le hk, List.append_nil]
theorem kF {α : Type} {l : List α} {i j : Nat} {x d : α} (h : i < l.length) : (l.set i x).getD j d = if i = j then x else l.getD j d := by
 simp only [List.getD, List.getElem?_set]
 split
 ·rename_i e; subst e; simp [h]
 ·rfl
def bE (f : Nat → Bool) : Nat → Bool
 | 0 => true
 | n + 1 => bE f n && f n
theorem ee {f : Nat → Bool} : ∀ {n : Nat}, bE f n = true ↔ ∀ i, i < n → f i = true
 | 0 => ⟨fun _ i hi => absurd hi (Nat.not_lt_zero _), fun _ => rfl⟩
 | n + 1 => by
  rw [bE, Bool.and_eq_true, ee]
  constructor
  ·rintro ⟨h1, h2⟩ i hi
   rcases Nat.lt_or_ge i n with h | h
   ·exact h1 i h
   ·rw [show i = n by omega]; exact h2
  ·intro h; exact ⟨fun i hi => h i (by omega), h n (by omega)⟩
theorem tv {f : Nat → Bool} {n i : Nat} (hi : i < n) (h : f i = false) : bE f n = false := by
 cases hh : bE f n
 ·rfl
 ·rw [ee.1 hh i hi] at h; cases h
theorem jf {f g : Nat → Bool} {n : Nat} (h : ∀ i, i < n → f i = g i) : bE f n = bE g n := by
 induction n with
 | zero => rfl
 | succ n ih => rw [bE, bE, ih (fun i hi => h i (by omega)), h n (by omega)]
def co (p : Pr) (s : Ps) (data : List Int) (e : Ex) : Bool := decide ((bk p s data e).1 = 1)
def fW (p : Pr) : List Int := List.replicate p.takes.length 0
abbrev ir (p : Pr) (i : Nat) : Tk := p.takes.getD i bp
abbrev oC (p : Pr) (i : Nat) : Pt := p.puts.getD i bj
abbrev pR (p : Pr) (i : Nat) : Rg := p.regs.getD i aI
abbrev ef (p : Pr) (i : Nat) : Mm := p.mems.getD i aj
def jg (p : Pr) (s : Ps) (hs : List Hd) (i : Nat) : Int := if co p s (fW p) (ir p i).when = true ∧ (hs.getD i bo).has = true then (hs.getD i bo).v else 0
def aW (p : Pr) (s : Ps) (hs : List Hd) : List Int := tab (jg p s hs) p.takes.length
def rB (p : Pr) (s : Ps) (data : List Int) (i : Nat) : List Int :=
 if co p s data (ef p i).enable = true then (s.mems.getD i []).set (Int.tmod (bk p s data (ef p i).addr).1 (ef p i).words).toNat (bk p s data (ef p i).data).1 else s.mems.getD i []
def cG (p : Pr) (s : Ps) (data : List Int) : Ps := ⟨tab (fun i => (bk p s data (pR p i).next).1) p.regs.length, tab (rB p s data) p.mems.length⟩
def du (p : Pr) (s : Ps) (hs : List Hd) (i : Nat) : Bool := (hs.getD i bo).has || !co p s (aW p s hs) (ir p i).when
def d5 (p : Pr) (s : Ps) (hs : List Hd) (rs : List Bool) (i : Nat) : Bool := rs.getD i false || !co p s (aW p s hs) (oC p i).when
def dQ (p : Pr) (s : Ps) (hs : List Hd) (rs : List Bool) : Bool := bE (du p s hs) p.takes.length && bE (d5 p s hs rs) p.puts.length
def lq (p : Pr) (s : Ps) (hs : List Hd) (i : Nat) : Bool := co p s (aW p s hs) (ir p i).when
def lr (p : Pr) (s : Ps) (hs : List Hd) (i : Nat) : Hd := if co p s (aW p s hs) (oC p i).when = true then ⟨true, (bk p s (aW p s hs) (oC p i).data).1⟩ else bo
def ae (p : Pr) (s : Ps) (hs : List Hd) (rs : List Bool) : Fi :=
 if dQ p s hs rs = true then ⟨true, cG p s (aW p s hs), tab (lq p s hs) p.takes.length, tab (lr p s hs) p.puts.length⟩
 else ⟨false, s, List.replicate p.takes.length false, List.replicate p.puts.length bo⟩
def aR (p : Pr) : Ps := ⟨p.regs.map (·.init), p.mems.map (fun m => List.replicate m.words.toNat 0)⟩
def fg (v w : Int) : Bool := decide (0 ≤ v) && decide (v ≤ af w)
theorem y6 {v w : Int} : fg v w = true ↔ dt v w := by simp [fg, dt]
def fT (p : Pr) (s : Ps) (i : Nat) : Bool := decide (((s.mems.getD i []).length : Int) = (ef p i).words) && bE (fun j => fg ((s.mems.getD i []).getD j 0) (ef p i).w) (s.mems.getD i []).length
def bt (p : Pr) (s : Ps) : Bool := decide (s.regs.length = p.regs.length) && decide (s.mems.length = p.mems.length) && bE (fun i => fg (s.regs.getD i 0) (pR p i).w) s.regs.length && bE (fT p s) s.mems.length
def it (p : Pr) : Sc := ⟨p.regs.map (·.w), p.mems.map (·.w), p.takes.map (·.w)⟩
def z5 (p : Pr) : Sc := ⟨p.regs.map (·.w), p.mems.map (·.w), []⟩
structure dh (p : Pr) : Prop where
 rl : p.regs.length ≤ 100
 ml : p.mems.length ≤ 100
 tl : p.takes.length ≤ 100
 pl : p.puts.length ≤ 100
 rw : ∀ i, i < p.regs.length → aq (pR p i).w = true ∧ dt (pR p i).init (pR p i).w ∧ cU (it p) (pR p i).next = some (pR p i).w ∧ da (pR p i).next ≤ 3
 mw : ∀ i, i < p.mems.length → aq (ef p i).w = true ∧ (1 ≤ (ef p i).words ∧ (ef p i).words ≤ 4) ∧ (cU (it p) (ef p i).enable = some 1 ∧ da (ef p i).enable ≤ 3) ∧ ((∃ v, cU (it p) (ef p i).addr = some v) ∧ da (ef p i).addr ≤ 3) ∧ cU (it p) (ef p i).data = some (ef p i).w ∧ da (ef p i).data ≤ 3
 tw : ∀ i, i < p.takes.length → aq (ir p i).w = true ∧ cU (z5 p) (ir p i).when = some 1 ∧ da (ir p i).when ≤ 3
 pw : ∀ i, i < p.puts.length → aq (oC p i).w = true ∧ (cU (it p) (oC p i).when = some 1 ∧ da (oC p i).when ≤ 3) ∧ cU (it p) (oC p i).data = some (oC p i).w ∧ da (oC p i).data ≤ 3
structure jh (p : Pr) (s : Ps) : Prop where
 rl : s.regs.length = p.regs.length
 rv : ∀ i, i < p.regs.length → dt (s.regs.getD i 0) (pR p i).w
 ml : s.mems.length = p.mems.length
 mn : ∀ i, i < p.mems.length → ((s.mems.getD i []).length : Int) = (ef p i).words
 mv : ∀ i, i < p.mems.length → ∀ j, j < (s.mems.getD i []).length → dt ((s.mems.getD i []).getD j 0) (ef p i).w
structure uD (p : Pr) (d : List Int) : Prop where
 l : d.length = p.takes.length
 v : ∀ i, i < p.takes.length → dt (d.getD i 0) (ir p i).w
structure jX (p : Pr) (hs : List Hd) : Prop where
 l : hs.length = p.takes.length
 v : ∀ i, i < p.takes.length → (hs.getD i bo).has = true → dt (hs.getD i bo).v (ir p i).w
theorem xH {p : Pr} {s : Ps} : bt p s = true ↔ jh p s := by
 unfold bt fT
 simp only [Bool.and_eq_true, decide_eq_true_eq, ee, y6]
 constructor
 ·rintro ⟨⟨⟨h1, h2⟩, h3⟩, h4⟩
  exact ⟨h1, fun i hi => h3 i (by omega), h2, fun i hi => (h4 i (by omega)).1, fun i hi => (h4 i (by omega)).2⟩
 ·intro h
  exact ⟨⟨⟨h.rl, h.ml⟩, fun i hi => h.rv i (by have := h.rl; omega)⟩, fun i hi => ⟨h.mn i (by have := h.ml; omega), h.mv i (by have := h.ml; omega)⟩⟩
set_option maxHeartbeats 1600000 in
theorem dR {p : Pr} {s : Ps} {d : List Int} (hp : dh p) (hs : jh p s) (hd : uD p d) : pD (it p) p s d where
 prl := by simp [it]
 prw := fun i hi => by
  have hi' : i < p.regs.length := by simpa [it] using hi
  show (p.regs.getD i aI).w = (p.regs.map (·.w)).getD i 0
  rw [b9 (·.w) p.regs i aI 0 hi']
 pml := by simp [it]
 pmw := fun i hi => by
  have hi' : i < p.mems.length := by simpa [it] using hi
  show (p.mems.getD i aj).w = (p.mems.map (·.w)).getD i 0
  rw [b9 (·.w) p.mems i aj 0 hi']
 ptl := by simp [it]
 ptw := fun i hi => by
  have hi' : i < p.takes.length := by simpa [it] using hi
  show (p.takes.getD i bp).w = (p.takes.map (·.w)).getD i 0
  rw [b9 (·.w) p.takes i bp 0 hi']
 srl := (hs.rl).trans (by simp [it])
 srv := fun i hi => by
  have hi' : i < p.regs.length := by simpa [it] using hi
  show dt _ ((p.regs.map (·.w)).getD i 0)
  rw [b9 (·.w) p.regs i aI 0 hi']
  exact hs.rv i hi'
 sml := (hs.ml).trans (by simp [it])
 smn := fun i hi => by
  have hi' : i < p.mems.length := by simpa [it] using hi
  have := hs.mn i hi'
  have := (hp.mw i hi').2.1
  omega
 smv := fun i hi j hj => by
  have hi' : i < p.mems.length := by simpa [it] using hi
  show dt _ ((p.mems.map (·.w)).getD i 0)
  rw [b9 (·.w) p.mems i aj 0 hi']
  exact hs.mv i hi' j hj
 dl := (hd.l).trans (by simp [it])
 dv := fun i hi => by
  have hi' : i < p.takes.length := by simpa [it] using hi
  show dt _ ((p.takes.map (·.w)).getD i 0)
  rw [b9 (·.w) p.takes i bp 0 hi']
  exact hd.v i hi'
 rok := fun i hi => by
  have hi' : i < p.regs.length := by simpa [it] using hi
  show aq ((p.regs.map (·.w)).getD i 0) = true
  rw [b9 (·.w) p.regs i aI 0 hi']
  exact (hp.rw i hi').1
 mok := fun i hi => by
  have hi' : i < p.mems.length := by simpa [it] using hi
  show aq ((p.mems.map (·.w)).getD i 0) = true
  rw [b9 (·.w) p.mems i aj 0 hi']
  exact (hp.mw i hi').1
 tok := fun i hi => by
  have hi' : i < p.takes.length := by simpa [it] using hi
  show aq ((p.takes.map (·.w)).getD i 0) = true
  rw [b9 (·.w) p.takes i bp 0 hi']
  exact (hp.tw i hi').1
theorem z6 {c : Sc} {p : Pr} {s : Ps} (d d' : List Int) : ∀ (n : Nat) (e : Ex) (w : Int), da e ≤ n → cU ⟨c.rw, c.mw, []⟩ e = some w → cU c e = some w ∧ bk p s d e = bk p s d' e := by
 intro n
 induction n with
 | zero => intro e w hd; cases e with | mk op name k w args => rw [da] at hd; omega
 | succ n ih =>
  intro e w hd hty
  obtain ⟨ws, hws, hc⟩ := ec hty
  obtain ⟨hl, hget⟩ := kB hws
  have hargs : ∀ i, i < e.args.length → cU c (e.args.getD i dE) = some (ws.getD i 0) ∧ bk p s d (e.args.getD i dE) = bk p s d' (e.args.getD i dE) := fun i hi => ih _ _ (by have := wA hi; omega) (hget i hi)
  have hL : ∀ (l : List Ex) (ws : List Int), ws.length = l.length → (∀ i, i < l.length → cU c (l.getD i dE) = some (ws.getD i 0)) → cU.tyL c l = some ws := by
   intro l
   induction l with
   | nil => intro ws h _; cases ws with | nil => rfl | cons a r => cases h
   | cons a r ihr =>
    intro ws h hh
    cases ws with
    | nil => cases h
    | cons w0 wr =>
     have h0 : cU c a = some w0 := hh 0 (by simp)
     have h1 := ihr wr (by simpa using h) (fun i hi => hh (i + 1) (by simpa using hi))
     rw [cU.tyL, h0, h1]
  have hmap : e.args.map (bk p s d) = e.args.map (bk p s d') := by
   apply List.map_congr_left
   intro a ha
   obtain ⟨i, hi, rfl⟩ := List.mem_iff_getElem.1 ha
   have := (hargs i hi).2
   simpa [List.getD, List.getElem?_eq_getElem hi] using this
  have hws' := hL e.args ws hl (fun i hi => (hargs i hi).1)
  refine ⟨?_, ?_⟩
  ·cases e with
   | mk op name k w0 args =>
    rw [cU, hws']
    simp only at hc ⊢
    rcases hc with ⟨h1, h2, h3, h4, rfl⟩ | ⟨h1, h2, h3, h4, rfl⟩ | ⟨h1, h2, h3, h4, rfl⟩ | ⟨h1, h2, h2', h3, rfl⟩
    ·rw [if_pos h1, if_pos ⟨h2, h3, h4⟩]
    ·exact absurd h4 (by simp; omega)
    ·rw [if_neg (by omega), if_neg (by omega), if_pos h1, if_pos ⟨h2, h3, h4⟩]
    ·rw [if_neg h1, if_neg h2', if_neg h2, if_pos h3]
  ·rw [je, je p s d', hmap]
   have h18 : e.op ≠ 18 := by
    rcases hc with ⟨h1, h2, h3, h4, rfl⟩ | ⟨h1, h2, h3, h4, rfl⟩ | ⟨h1, h2, h3, h4, rfl⟩ | ⟨h1, h2, h2', h3, rfl⟩
    ·omega
    ·exact absurd h4 (by simp; omega)
    ·omega
    ·exact h2'
   rw [if_neg h18, if_neg h18]
theorem eT {p : Pr} {s : Ps} (hp : dh p) {i : Nat} (hi : i < p.takes.length) (d d' : List Int) : co p s d (ir p i).when = co p s d' (ir p i).when ∧ cU (it p) (ir p i).when = some 1 := by
 obtain ⟨h1, h2, h3⟩ := hp.tw i hi
 have h := z6 (c := it p) (p := p) (s := s) d d' 3 _ 1 h3 h2
 exact ⟨by unfold co; rw [h.2], h.1⟩
theorem qO {w : Int} (h : aq w = true) : dt 0 w := by
 have := aY.1 h
 exact ⟨by omega, (ao (by omega) (by omega)).1⟩
theorem y7 {p : Pr} (hp : dh p) : uD p (fW p) where
 l := by simp [fW]
 v := fun i hi => by
  have e : (fW p).getD i 0 = 0 := by simp [fW, List.getD, List.getElem?_replicate]; split <;> rfl
  rw [e]; exact qO (hp.tw i hi).1
theorem l6 {p : Pr} {s : Ps} {hs : List Hd} (hp : dh p) (hh : jX p hs) : uD p (aW p s hs) where
 l := by rw [aW, an]
 v := fun i hi => by
  rw [aW, aE hi, jg]
  split
  ·rename_i h; exact hh.v i hi h.2
  ·exact qO (hp.tw i hi).1
theorem ji (p : Pr) (s : Ps) (hs : List Hd) (rs : List Bool) : (ae p s hs rs).fires = dQ p s hs rs := by
 unfold ae; split <;> simp_all
theorem rC (p : Pr) (s : Ps) (hs : List Hd) (rs : List Bool) : (ae p s hs rs).pops.length = p.takes.length := by
 unfold ae; split <;> simp [an]
theorem rD (p : Pr) (s : Ps) (hs : List Hd) (rs : List Bool) : (ae p s hs rs).puts.length = p.puts.length := by
 unfold ae; split <;> simp [an]
theorem vE {p : Pr} {s : Ps} {d : List Int} {e : Ex} {w : Int} (ho : pD (it p) p s d) (h : cU (it p) e = some w) (hd : da e ≤ 3) : (bk p s d e).2 = w ∧ dt (bk p s d e).1 w ∧ aq w = true := AC ho 3 e w hd h
theorem z7 {p : Pr} {s : Ps} {d : List Int} (hp : dh p) (hs : jh p s) (hd : uD p d) : jh p (cG p s d) where
 rl := by rw [cG]; simp [an]
 rv := fun i hi => by
  rw [cG]; simp only; rw [aE hi]
  have h := hp.rw i hi
  exact (vE (dR hp hs hd) h.2.2.1 h.2.2.2).2.1
 ml := by rw [cG]; simp [an]
 mn := fun i hi => by
  rw [cG]; simp only; rw [aE hi, rB]
  split
  ·rw [List.length_set]; exact hs.mn i hi
  ·exact hs.mn i hi
 mv := fun i hi j hj => by
  rw [cG] at hj ⊢; simp only at hj ⊢; rw [aE hi, rB] at hj ⊢
  have h := hp.mw i hi
  split at hj
  ·rename_i he
   rw [if_pos he]
   rw [List.length_set] at hj
   by_cases hm : (Int.tmod (bk p s d (ef p i).addr).1 (ef p i).words).toNat < (s.mems.getD i []).length
   ·rw [kF hm]
    split
    ·exact (vE (dR hp hs hd) h.2.2.2.2.1 h.2.2.2.2.2).2.1
    ·exact hs.mv i hi j hj
   ·rw [List.set_eq_of_length_le (by omega)]
    exact hs.mv i hi j hj
  ·rename_i he
   rw [if_neg he]
   exact hs.mv i hi j hj
theorem lK {p : Pr} {s : Ps} {hs : List Hd} {rs : List Bool} (hp : dh p) (hso : jh p s) (hh : jX p hs) : jh p (ae p s hs rs).s := by
 unfold ae
 split
 ·exact z7 hp hso (l6 hp hh)
 ·exact hso
end Go.Proofs.Ytgfbfajaaaegjaa
