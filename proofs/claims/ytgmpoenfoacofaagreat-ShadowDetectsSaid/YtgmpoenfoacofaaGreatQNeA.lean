/-
  Processes and circuits, plain data: what a process does at a tick, what a circuit does.
-/
import Derived.Test.YtgmpoenfoacofaaGreatQPrG
namespace Go.Proofs.YtgmpoenfoacofaaGreat
open Go.RowKit
set_option linter.unusedVariables false
set_option linter.unusedSimpArgs false
def tab {α : Type} (f : Nat → α) (n : Nat) : List α := (List.range n).map f
theorem rn {α : Type} (f : Nat → α) (n : Nat) : tab f (n + 1) = tab f n ++ [f n] := by simp [tab, List.range_succ]
theorem aK {α : Type} (f : Nat → α) (n : Nat) : (tab f n).length = n := by simp [tab]
theorem bf {α : Type} {f : Nat → α} {n i : Nat} {d : α} (h : i < n) : (tab f n).getD i d = f i := by
 simp [tab, List.getD, List.getElem?_eq_getElem, h]
theorem DJ {α : Type} {f : Nat → α} {n i : Nat} {d : α} (h : n ≤ i) : (tab f n).getD i d = d := by
 rw [List.getD, List.getElem?_eq_none (by rw [aK]; exact h)]; rfl
theorem d6 {α : Type} {f g : Nat → α} {n : Nat} (h : ∀ i, i < n → f i = g i) : tab f n = tab g n := by
 unfold tab
 exact List.map_congr_left (fun a ha => h a (List.mem_range.1 ha))
theorem BR {α : Type} {l : List α} {d : α} : l = tab (fun i => l.getD i d) l.length := by
 apply List.ext_getElem
 ·rw [aK]
 ·intro i h1 h2; simp [tab, List.getD, List.getElem?_eq_getElem h1]
theorem v7 {α : Type} {a b : List α} {d : α} (hl : a.length = b.length) (h : ∀ i, i < a.length → a.getD i d = b.getD i d) : a = b := by
 apply List.ext_getElem hl
 intro i h1 h2
 have := h i h1
 simpa [List.getD, List.getElem?_eq_getElem h1, List.getElem?_eq_getElem h2] using this
theorem yN {α β : Type} {l : List α} {d : α} (f : α → β) : l.map f = tab (fun i => f (l.getD i d)) l.length := by
 apply List.ext_getElem
 ·simp [aK]
 ·intro i h1 h2; rw [List.length_map] at h1; simp [tab, List.getD, List.getElem?_eq_getElem h1]
theorem DK {α : Type} {f : Nat → α} {l : List α} {k : Nat} (hk : k < l.length) : (tab f k ++ l.drop k).set k (f k) = tab f (k + 1) ++ l.drop (k + 1) := by
 rw [List.set_append_right _ _ (by rw [aK]; omega), aK, Nat.sub_self, rn, List.append_assoc]
 congr 1
 rw [List.drop_eq_getElem_cons hk]; rfl
theorem BS {α : Type} {f : Nat → α} {l : List α} {k : Nat} (hk : l.length ≤ k) : tab f k ++ l.drop k = tab f k := by rw [List.drop_eq_nil_of_le hk, List.append_nil]
theorem b3 {α : Type} {l : List α} {i j : Nat} {x d : α} (h : i < l.length) : (l.set i x).getD j d = if i = j then x else l.getD j d := by
 simp only [List.getD, List.getElem?_set]
 split
 ·rename_i e; subst e; simp [h]
 ·rfl
def bW (f : Nat → Bool) : Nat → Bool
 | 0 => true
 | n + 1 => bW f n && f n
theorem bE {f : Nat → Bool} : ∀ {n : Nat}, bW f n = true ↔ ∀ i, i < n → f i = true
 | 0 => ⟨fun _ i hi => absurd hi (Nat.not_lt_zero _), fun _ => rfl⟩
 | n + 1 => by
  rw [bW, Bool.and_eq_true, bE]
  constructor
  ·rintro ⟨h1, h2⟩ i hi
   rcases Nat.lt_or_ge i n with h | h
   ·exact h1 i h
   ·rw [show i = n by omega]; exact h2
  ·intro h; exact ⟨fun i hi => h i (by omega), h n (by omega)⟩
theorem fA {f : Nat → Bool} {n i : Nat} (hi : i < n) (h : f i = false) : bW f n = false := by
 cases hh : bW f n
 ·rfl
 ·rw [bE.1 hh i hi] at h; cases h
theorem rp {f g : Nat → Bool} {n : Nat} (h : ∀ i, i < n → f i = g i) : bW f n = bW g n := by
 induction n with
 | zero => rfl
 | succ n ih => rw [bW, bW, ih (fun i hi => h i (by omega)), h n (by omega)]
def ik (p : Pr) (s : Ps) (data : List Int) (e : Ex) : Bool := decide ((bj p s data e).1 = 1)
def sm (p : Pr) : List Int := List.replicate p.takes.length 0
abbrev jE (p : Pr) (i : Nat) : Tk := p.takes.getD i cm
abbrev fa (p : Pr) (i : Nat) : Pt := p.puts.getD i bt
abbrev xt (p : Pr) (i : Nat) : Rg := p.regs.getD i bJ
abbrev jx (p : Pr) (i : Nat) : Mm := p.mems.getD i aX
def m3 (p : Pr) (s : Ps) (hs : List Hd) (i : Nat) : Int := if ik p s (sm p) (jE p i).when = true ∧ (hs.getD i aY).has = true then (hs.getD i aY).v else 0
def fB (p : Pr) (s : Ps) (hs : List Hd) : List Int := tab (m3 p s hs) p.takes.length
def tx (p : Pr) (s : Ps) (data : List Int) (i : Nat) : List Int :=
 if ik p s data (jx p i).enable = true then (s.mems.getD i []).set (Int.tmod (bj p s data (jx p i).addr).1 (jx p i).words).toNat (bj p s data (jx p i).data).1 else s.mems.getD i []
def cS (p : Pr) (s : Ps) (data : List Int) : Ps := ⟨tab (fun i => (bj p s data (xt p i).next).1) p.regs.length, tab (tx p s data) p.mems.length⟩
def il (p : Pr) (s : Ps) (hs : List Hd) (i : Nat) : Bool := (hs.getD i aY).has || !ik p s (fB p s hs) (jE p i).when
def jy (p : Pr) (s : Ps) (hs : List Hd) (rs : List Bool) (i : Nat) : Bool := rs.getD i false || !ik p s (fB p s hs) (fa p i).when
def eo (p : Pr) (s : Ps) (hs : List Hd) (rs : List Bool) : Bool := bW (il p s hs) p.takes.length && bW (jy p s hs rs) p.puts.length
def lX (p : Pr) (s : Ps) (hs : List Hd) (i : Nat) : Bool := ik p s (fB p s hs) (jE p i).when
def gg (p : Pr) (s : Ps) (hs : List Hd) (i : Nat) : Hd := if ik p s (fB p s hs) (fa p i).when = true then ⟨true, (bj p s (fB p s hs) (fa p i).data).1⟩ else aY
def a6 (p : Pr) (s : Ps) (hs : List Hd) (rs : List Bool) : Fi :=
 if eo p s hs rs = true then ⟨true, cS p s (fB p s hs), tab (lX p s hs) p.takes.length, tab (gg p s hs) p.puts.length⟩
 else ⟨false, s, List.replicate p.takes.length false, List.replicate p.puts.length aY⟩
def aJ (p : Pr) : Ps := ⟨p.regs.map (·.init), p.mems.map (fun m => List.replicate m.words.toNat 0)⟩
def cj (v w : Int) : Bool := decide (0 ≤ v) && decide (v ≤ aj w)
theorem v8 {v w : Int} : cj v w = true ↔ cJ v w := by simp [cj, cJ]
def gh (p : Pr) (s : Ps) (i : Nat) : Bool := decide (((s.mems.getD i []).length : Int) = (jx p i).words) && bW (fun j => cj ((s.mems.getD i []).getD j 0) (jx p i).w) (s.mems.getD i []).length
def bC (p : Pr) (s : Ps) : Bool := decide (s.regs.length = p.regs.length) && decide (s.mems.length = p.mems.length) && bW (fun i => cj (s.regs.getD i 0) (xt p i).w) s.regs.length && bW (gh p s) s.mems.length
def lG (p : Pr) : Sc := ⟨p.regs.map (·.w), p.mems.map (·.w), p.takes.map (·.w)⟩
def Jb (p : Pr) : Sc := ⟨p.regs.map (·.w), p.mems.map (·.w), []⟩
structure gi (p : Pr) : Prop where
 rl : p.regs.length ≤ 100
 ml : p.mems.length ≤ 100
 tl : p.takes.length ≤ 100
 pl : p.puts.length ≤ 100
 rw : ∀ i, i < p.regs.length → av (xt p i).w = true ∧ cJ (xt p i).init (xt p i).w ∧ dK (lG p) (xt p i).next = some (xt p i).w ∧ df (xt p i).next ≤ 3
 mw : ∀ i, i < p.mems.length → av (jx p i).w = true ∧ (1 ≤ (jx p i).words ∧ (jx p i).words ≤ 4) ∧ (dK (lG p) (jx p i).enable = some 1 ∧ df (jx p i).enable ≤ 3) ∧ ((∃ v, dK (lG p) (jx p i).addr = some v) ∧ df (jx p i).addr ≤ 3) ∧ dK (lG p) (jx p i).data = some (jx p i).w ∧ df (jx p i).data ≤ 3
 tw : ∀ i, i < p.takes.length → av (jE p i).w = true ∧ dK (Jb p) (jE p i).when = some 1 ∧ df (jE p i).when ≤ 3
 pw : ∀ i, i < p.puts.length → av (fa p i).w = true ∧ (dK (lG p) (fa p i).when = some 1 ∧ df (fa p i).when ≤ 3) ∧ dK (lG p) (fa p i).data = some (fa p i).w ∧ df (fa p i).data ≤ 3
structure oE (p : Pr) (s : Ps) : Prop where
 rl : s.regs.length = p.regs.length
 rv : ∀ i, i < p.regs.length → cJ (s.regs.getD i 0) (xt p i).w
 ml : s.mems.length = p.mems.length
 mn : ∀ i, i < p.mems.length → ((s.mems.getD i []).length : Int) = (jx p i).words
 mv : ∀ i, i < p.mems.length → ∀ j, j < (s.mems.getD i []).length → cJ ((s.mems.getD i []).getD j 0) (jx p i).w
structure xu (p : Pr) (d : List Int) : Prop where
 l : d.length = p.takes.length
 v : ∀ i, i < p.takes.length → cJ (d.getD i 0) (jE p i).w
structure xv (p : Pr) (hs : List Hd) : Prop where
 l : hs.length = p.takes.length
 v : ∀ i, i < p.takes.length → (hs.getD i aY).has = true → cJ (hs.getD i aY).v (jE p i).w
theorem z6 {p : Pr} {s : Ps} : bC p s = true ↔ oE p s := by
 unfold bC gh
 simp only [Bool.and_eq_true, decide_eq_true_eq, bE, v8]
 constructor
 ·rintro ⟨⟨⟨h1, h2⟩, h3⟩, h4⟩
  exact ⟨h1, fun i hi => h3 i (by omega), h2, fun i hi => (h4 i (by omega)).1, fun i hi => (h4 i (by omega)).2⟩
 ·intro h
  exact ⟨⟨⟨h.rl, h.ml⟩, fun i hi => h.rv i (by have := h.rl; omega)⟩, fun i hi => ⟨h.mn i (by have := h.ml; omega), h.mv i (by have := h.ml; omega)⟩⟩
set_option maxHeartbeats 1600000 in
theorem im {p : Pr} {s : Ps} {d : List Int} (hp : gi p) (hs : oE p s) (hd : xu p d) : uD (lG p) p s d where
 prl := by simp [lG]
 prw := fun i hi => by
  have hi' : i < p.regs.length := by simpa [lG] using hi
  show (p.regs.getD i bJ).w = (p.regs.map (·.w)).getD i 0
  rw [ci (·.w) p.regs i bJ 0 hi']
 pml := by simp [lG]
 pmw := fun i hi => by
  have hi' : i < p.mems.length := by simpa [lG] using hi
  show (p.mems.getD i aX).w = (p.mems.map (·.w)).getD i 0
  rw [ci (·.w) p.mems i aX 0 hi']
 ptl := by simp [lG]
 ptw := fun i hi => by
  have hi' : i < p.takes.length := by simpa [lG] using hi
  show (p.takes.getD i cm).w = (p.takes.map (·.w)).getD i 0
  rw [ci (·.w) p.takes i cm 0 hi']
 srl := (hs.rl).trans (by simp [lG])
 srv := fun i hi => by
  have hi' : i < p.regs.length := by simpa [lG] using hi
  show cJ _ ((p.regs.map (·.w)).getD i 0)
  rw [ci (·.w) p.regs i bJ 0 hi']
  exact hs.rv i hi'
 sml := (hs.ml).trans (by simp [lG])
 smn := fun i hi => by
  have hi' : i < p.mems.length := by simpa [lG] using hi
  have := hs.mn i hi'
  have := (hp.mw i hi').2.1
  omega
 smv := fun i hi j hj => by
  have hi' : i < p.mems.length := by simpa [lG] using hi
  show cJ _ ((p.mems.map (·.w)).getD i 0)
  rw [ci (·.w) p.mems i aX 0 hi']
  exact hs.mv i hi' j hj
 dl := (hd.l).trans (by simp [lG])
 dv := fun i hi => by
  have hi' : i < p.takes.length := by simpa [lG] using hi
  show cJ _ ((p.takes.map (·.w)).getD i 0)
  rw [ci (·.w) p.takes i cm 0 hi']
  exact hd.v i hi'
 rok := fun i hi => by
  have hi' : i < p.regs.length := by simpa [lG] using hi
  show av ((p.regs.map (·.w)).getD i 0) = true
  rw [ci (·.w) p.regs i bJ 0 hi']
  exact (hp.rw i hi').1
 mok := fun i hi => by
  have hi' : i < p.mems.length := by simpa [lG] using hi
  show av ((p.mems.map (·.w)).getD i 0) = true
  rw [ci (·.w) p.mems i aX 0 hi']
  exact (hp.mw i hi').1
 tok := fun i hi => by
  have hi' : i < p.takes.length := by simpa [lG] using hi
  show av ((p.takes.map (·.w)).getD i 0) = true
  rw [ci (·.w) p.takes i cm 0 hi']
  exact (hp.tw i hi').1
theorem DL {c : Sc} {p : Pr} {s : Ps} (d d' : List Int) : ∀ (n : Nat) (e : Ex) (w : Int), df e ≤ n → dK ⟨c.rw, c.mw, []⟩ e = some w → dK c e = some w ∧ bj p s d e = bj p s d' e := by
 intro n
 induction n with
 | zero => intro e w hd; cases e with | mk op name k w args => rw [df] at hd; omega
 | succ n ih =>
  intro e w hd hty
  obtain ⟨ws, hws, hc⟩ := gd hty
  obtain ⟨hl, hget⟩ := kB hws
  have hargs : ∀ i, i < e.args.length → dK c (e.args.getD i dE) = some (ws.getD i 0) ∧ bj p s d (e.args.getD i dE) = bj p s d' (e.args.getD i dE) := fun i hi => ih _ _ (by have := yG hi; omega) (hget i hi)
  have hL : ∀ (l : List Ex) (ws : List Int), ws.length = l.length → (∀ i, i < l.length → dK c (l.getD i dE) = some (ws.getD i 0)) → dK.tyL c l = some ws := by
   intro l
   induction l with
   | nil => intro ws h _; cases ws with | nil => rfl | cons a r => cases h
   | cons a r ihr =>
    intro ws h hh
    cases ws with
    | nil => cases h
    | cons w0 wr =>
     have h0 : dK c a = some w0 := hh 0 (by simp)
     have h1 := ihr wr (by simpa using h) (fun i hi => hh (i + 1) (by simpa using hi))
     rw [dK.tyL, h0, h1]
  have hmap : e.args.map (bj p s d) = e.args.map (bj p s d') := by
   apply List.map_congr_left
   intro a ha
   obtain ⟨i, hi, rfl⟩ := List.mem_iff_getElem.1 ha
   have := (hargs i hi).2
   simpa [List.getD, List.getElem?_eq_getElem hi] using this
  have hws' := hL e.args ws hl (fun i hi => (hargs i hi).1)
  refine ⟨?_, ?_⟩
  ·cases e with
   | mk op name k w0 args =>
    rw [dK, hws']
    simp only at hc ⊢
    rcases hc with ⟨h1, h2, h3, h4, rfl⟩ | ⟨h1, h2, h3, h4, rfl⟩ | ⟨h1, h2, h3, h4, rfl⟩ | ⟨h1, h2, h2', h3, rfl⟩
    ·rw [if_pos h1, if_pos ⟨h2, h3, h4⟩]
    ·exact absurd h4 (by simp; omega)
    ·rw [if_neg (by omega), if_neg (by omega), if_pos h1, if_pos ⟨h2, h3, h4⟩]
    ·rw [if_neg h1, if_neg h2', if_neg h2, if_pos h3]
  ·rw [gZ, gZ p s d', hmap]
   have h18 : e.op ≠ 18 := by
    rcases hc with ⟨h1, h2, h3, h4, rfl⟩ | ⟨h1, h2, h3, h4, rfl⟩ | ⟨h1, h2, h3, h4, rfl⟩ | ⟨h1, h2, h2', h3, rfl⟩
    ·omega
    ·exact absurd h4 (by simp; omega)
    ·omega
    ·exact h2'
   rw [if_neg h18, if_neg h18]
theorem io {p : Pr} {s : Ps} (hp : gi p) {i : Nat} (hi : i < p.takes.length) (d d' : List Int) : ik p s d (jE p i).when = ik p s d' (jE p i).when ∧ dK (lG p) (jE p i).when = some 1 := by
 obtain ⟨h1, h2, h3⟩ := hp.tw i hi
 have h := DL (c := lG p) (p := p) (s := s) d d' 3 _ 1 h3 h2
 exact ⟨by unfold ik; rw [h.2], h.1⟩
theorem lY {w : Int} (h : av w = true) : cJ 0 w := by
 have := bh.1 h
 exact ⟨by omega, (ax (by omega) (by omega)).1⟩
theorem G8 {p : Pr} (hp : gi p) : xu p (sm p) where
 l := by simp [sm]
 v := fun i hi => by
  have e : (sm p).getD i 0 = 0 := by simp [sm, List.getD, List.getElem?_replicate]; split <;> rfl
  rw [e]; exact lY (hp.tw i hi).1
theorem uG {p : Pr} {s : Ps} {hs : List Hd} (hp : gi p) (hh : xv p hs) : xu p (fB p s hs) where
 l := by rw [fB, aK]
 v := fun i hi => by
  rw [fB, bf hi, m3]
  split
  ·rename_i h; exact hh.v i hi h.2
  ·exact lY (hp.tw i hi).1
theorem xw (p : Pr) (s : Ps) (hs : List Hd) (rs : List Bool) : (a6 p s hs rs).fires = eo p s hs rs := by
 unfold a6; split <;> simp_all
theorem sv (p : Pr) (s : Ps) (hs : List Hd) (rs : List Bool) : (a6 p s hs rs).pops.length = p.takes.length := by
 unfold a6; split <;> simp [aK]
theorem sw (p : Pr) (s : Ps) (hs : List Hd) (rs : List Bool) : (a6 p s hs rs).puts.length = p.puts.length := by
 unfold a6; split <;> simp [aK]
theorem uH {p : Pr} {s : Ps} {d : List Int} {e : Ex} {w : Int} (ho : uD (lG p) p s d) (h : dK (lG p) e = some w) (hd : df e ≤ 3) : (bj p s d e).2 = w ∧ cJ (bj p s d e).1 w ∧ av w = true := BE ho 3 e w hd h
theorem DM {p : Pr} {s : Ps} {d : List Int} (hp : gi p) (hs : oE p s) (hd : xu p d) : oE p (cS p s d) where
 rl := by rw [cS]; simp [aK]
 rv := fun i hi => by
  rw [cS]; simp only; rw [bf hi]
  have h := hp.rw i hi
  exact (uH (im hp hs hd) h.2.2.1 h.2.2.2).2.1
 ml := by rw [cS]; simp [aK]
 mn := fun i hi => by
  rw [cS]; simp only; rw [bf hi, tx]
  split
  ·rw [List.length_set]; exact hs.mn i hi
  ·exact hs.mn i hi
 mv := fun i hi j hj => by
  rw [cS] at hj ⊢; simp only at hj ⊢; rw [bf hi, tx] at hj ⊢
  have h := hp.mw i hi
  split at hj
  ·rename_i he
   rw [if_pos he]
   rw [List.length_set] at hj
   by_cases hm : (Int.tmod (bj p s d (jx p i).addr).1 (jx p i).words).toNat < (s.mems.getD i []).length
   ·rw [b3 hm]
    split
    ·exact (uH (im hp hs hd) h.2.2.2.2.1 h.2.2.2.2.2).2.1
    ·exact hs.mv i hi j hj
   ·rw [List.set_eq_of_length_le (by omega)]
    exact hs.mv i hi j hj
  ·rename_i he
   rw [if_neg he]
   exact hs.mv i hi j hj
theorem sx {p : Pr} {s : Ps} {hs : List Hd} {rs : List Bool} (hp : gi p) (hso : oE p s) (hh : xv p hs) : oE p (a6 p s hs rs).s := by
 unfold a6
 split
 ·exact DM hp hso (uG hp hh)
 ·exact hso
theorem uI {p : Pr} {s : Ps} {hs : List Hd} {rs : List Bool} (hp : gi p) (hso : oE p s) (hh : xv p hs) {i : Nat} (hi : i < p.puts.length) (hhas : ((a6 p s hs rs).puts.getD i aY).has = true) : cJ ((a6 p s hs rs).puts.getD i aY).v (fa p i).w := by
 unfold a6 at hhas ⊢
 split
 ·rename_i hf
  rw [if_pos hf] at hhas
  simp only at hhas ⊢
  rw [bf hi] at hhas ⊢
  unfold gg at hhas ⊢
  split
  ·have h := hp.pw i hi
   exact (uH (im hp hso (uG hp hh)) h.2.2.1 h.2.2.2).2.1
  ·rename_i hn; rw [if_neg hn] at hhas; cases hhas
 ·rename_i hf
  rw [if_neg hf] at hhas
  simp [List.getD, List.getElem?_replicate, hi] at hhas
end Go.Proofs.YtgmpoenfoacofaaGreat
