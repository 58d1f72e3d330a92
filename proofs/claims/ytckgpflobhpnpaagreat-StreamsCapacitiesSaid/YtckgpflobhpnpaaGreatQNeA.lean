/-
  Processes and circuits, plain data: what a process does at a tick, what a circuit does.
-/
import Derived.Test.YtckgpflobhpnpaaGreatQPrG
namespace Go.Proofs.YtckgpflobhpnpaaGreat
open Go.RowKit
set_option linter.unusedVariables false
set_option linter.unusedSimpArgs false
def tab {α : Type} (f : Nat → α) (n : Nat) : List α := (List.range n).map f
theorem uS {α : Type} (f : Nat → α) (n : Nat) : tab f (n + 1) = tab f n ++ [f n] := by simp [tab, List.range_succ]
theorem ap {α : Type} (f : Nat → α) (n : Nat) : (tab f n).length = n := by simp [tab]
theorem az {α : Type} {f : Nat → α} {n i : Nat} {d : α} (h : i < n) : (tab f n).getD i d = f i := by
 simp [tab, List.getD, List.getElem?_eq_getElem, h]
theorem Cp {α : Type} {f : Nat → α} {n i : Nat} {d : α} (h : n ≤ i) : (tab f n).getD i d = d := by
 rw [List.getD, List.getElem?_eq_none (by rw [ap]; exact h)]; rfl
theorem ip {α : Type} {f g : Nat → α} {n : Nat} (h : ∀ i, i < n → f i = g i) : tab f n = tab g n := by
 unfold tab
 exact List.map_congr_left (fun a ha => h a (List.mem_range.1 ha))
theorem FT {α : Type} {l : List α} {d : α} : l = tab (fun i => l.getD i d) l.length := by
 apply List.ext_getElem
 ·rw [ap]
 ·intro i h1 h2; simp [tab, List.getD, List.getElem?_eq_getElem h1]
theorem dQ {α : Type} {a b : List α} {d : α} (hl : a.length = b.length) (h : ∀ i, i < a.length → a.getD i d = b.getD i d) : a = b := by
 apply List.ext_getElem hl
 intro i h1 h2
 have := h i h1
 simpa [List.getD, List.getElem?_eq_getElem h1, List.getElem?_eq_getElem h2] using this
theorem Cq {α β : Type} {l : List α} {d : α} (f : α → β) : l.map f = tab (fun i => f (l.getD i d)) l.length := by
 apply List.ext_getElem
 ·simp [ap]
 ·intro i h1 h2; rw [List.length_map] at h1; simp [tab, List.getD, List.getElem?_eq_getElem h1]
theorem Ie {α : Type} {f : Nat → α} {l : List α} {k : Nat} (hk : k < l.length) : (tab f k ++ l.drop k).set k (f k) = tab f (k + 1) ++ l.drop (k + 1) := by
 rw [List.set_append_right _ _ (by rw [ap]; omega), ap, Nat.sub_self, uS, List.append_assoc]
 congr 1
 rw [List.drop_eq_getElem_cons hk]; rfl
theorem FU {α : Type} {f : Nat → α} {l : List α} {k : Nat} (hk : l.length ≤ k) : tab f k ++ l.drop k = tab f k := by rw [List.drop_eq_nil_of_le hk, List.append_nil]
theorem cX {α : Type} {l : List α} {i j : Nat} {x d : α} (h : i < l.length) : (l.set i x).getD j d = if i = j then x else l.getD j d := by
 simp only [List.getD, List.getElem?_set]
 split
 ·rename_i e; subst e; simp [h]
 ·rfl
def dR (f : Nat → Bool) : Nat → Bool
 | 0 => true
 | n + 1 => dR f n && f n
theorem cH {f : Nat → Bool} : ∀ {n : Nat}, dR f n = true ↔ ∀ i, i < n → f i = true
 | 0 => ⟨fun _ i hi => absurd hi (Nat.not_lt_zero _), fun _ => rfl⟩
 | n + 1 => by
  rw [dR, Bool.and_eq_true, cH]
  constructor
  ·rintro ⟨h1, h2⟩ i hi
   rcases Nat.lt_or_ge i n with h | h
   ·exact h1 i h
   ·rw [show i = n by omega]; exact h2
  ·intro h; exact ⟨fun i hi => h i (by omega), h n (by omega)⟩
theorem qC {f : Nat → Bool} {n i : Nat} (hi : i < n) (h : f i = false) : dR f n = false := by
 cases hh : dR f n
 ·rfl
 ·rw [cH.1 hh i hi] at h; cases h
def kJ (p : Pr) (s : Ps) (data : List Int) (e : Ex) : Bool := decide ((bx p s data e).1 = 1)
def uT (p : Pr) : List Int := List.replicate p.takes.length 0
abbrev lG (p : Pr) (i : Nat) : Tk := p.takes.getD i aQ
abbrev sH (p : Pr) (i : Nat) : Pt := p.puts.getD i aL
abbrev Hm (p : Pr) (i : Nat) : Rg := p.regs.getD i co
abbrev pF (p : Pr) (i : Nat) : Mm := p.mems.getD i be
def qD (p : Pr) (s : Ps) (hs : List Hd) (i : Nat) : Int := if kJ p s (uT p) (lG p i).when = true ∧ (hs.getD i aO).has = true then (hs.getD i aO).v else 0
def i9 (p : Pr) (s : Ps) (hs : List Hd) : List Int := tab (qD p s hs) p.takes.length
def zg (p : Pr) (s : Ps) (data : List Int) (i : Nat) : List Int :=
 if kJ p s data (pF p i).enable = true then (s.mems.getD i []).set (Int.tmod (bx p s data (pF p i).addr).1 (pF p i).words).toNat (bx p s data (pF p i).data).1 else s.mems.getD i []
def eD (p : Pr) (s : Ps) (data : List Int) : Ps := ⟨tab (fun i => (bx p s data (Hm p i).next).1) p.regs.length, tab (zg p s data) p.mems.length⟩
def jT (p : Pr) (s : Ps) (hs : List Hd) (i : Nat) : Bool := (hs.getD i aO).has || !kJ p s (i9 p s hs) (lG p i).when
def ot (p : Pr) (s : Ps) (hs : List Hd) (rs : List Bool) (i : Nat) : Bool := rs.getD i false || !kJ p s (i9 p s hs) (sH p i).when
def fp (p : Pr) (s : Ps) (hs : List Hd) (rs : List Bool) : Bool := dR (jT p s hs) p.takes.length && dR (ot p s hs rs) p.puts.length
def ou (p : Pr) (s : Ps) (hs : List Hd) (i : Nat) : Bool := kJ p s (i9 p s hs) (lG p i).when
def ow (p : Pr) (s : Ps) (hs : List Hd) (i : Nat) : Hd := if kJ p s (i9 p s hs) (sH p i).when = true then ⟨true, (bx p s (i9 p s hs) (sH p i).data).1⟩ else aO
def aI (p : Pr) (s : Ps) (hs : List Hd) (rs : List Bool) : Fi :=
 if fp p s hs rs = true then ⟨true, eD p s (i9 p s hs), tab (ou p s hs) p.takes.length, tab (ow p s hs) p.puts.length⟩
 else ⟨false, s, List.replicate p.takes.length false, List.replicate p.puts.length aO⟩
def aP (p : Pr) : Ps := ⟨p.regs.map (·.init), p.mems.map (fun m => List.replicate m.words.toNat 0)⟩
def kK (v w : Int) : Bool := decide (0 ≤ v) && decide (v ≤ am w)
theorem FV {v w : Int} : kK v w = true ↔ dn v w := by simp [kK, dn]
def qE (p : Pr) : Sc := ⟨p.regs.map (·.w), p.mems.map (·.w), p.takes.map (·.w)⟩
def Oi (p : Pr) : Sc := ⟨p.regs.map (·.w), p.mems.map (·.w), []⟩
structure gP (p : Pr) : Prop where
 rl : p.regs.length ≤ 100
 ml : p.mems.length ≤ 100
 tl : p.takes.length ≤ 100
 pl : p.puts.length ≤ 100
 rw : ∀ i, i < p.regs.length → av (Hm p i).w = true ∧ dn (Hm p i).init (Hm p i).w ∧ e9 (qE p) (Hm p i).next = some (Hm p i).w ∧ fS (Hm p i).next ≤ 3
 mw : ∀ i, i < p.mems.length → av (pF p i).w = true ∧ (1 ≤ (pF p i).words ∧ (pF p i).words ≤ 4) ∧ (e9 (qE p) (pF p i).enable = some 1 ∧ fS (pF p i).enable ≤ 3) ∧ ((∃ v, e9 (qE p) (pF p i).addr = some v) ∧ fS (pF p i).addr ≤ 3) ∧ e9 (qE p) (pF p i).data = some (pF p i).w ∧ fS (pF p i).data ≤ 3
 tw : ∀ i, i < p.takes.length → av (lG p i).w = true ∧ e9 (Oi p) (lG p i).when = some 1 ∧ fS (lG p i).when ≤ 3
 pw : ∀ i, i < p.puts.length → av (sH p i).w = true ∧ (e9 (qE p) (sH p i).when = some 1 ∧ fS (sH p i).when ≤ 3) ∧ e9 (qE p) (sH p i).data = some (sH p i).w ∧ fS (sH p i).data ≤ 3
structure qF (p : Pr) (s : Ps) : Prop where
 rl : s.regs.length = p.regs.length
 rv : ∀ i, i < p.regs.length → dn (s.regs.getD i 0) (Hm p i).w
 ml : s.mems.length = p.mems.length
 mn : ∀ i, i < p.mems.length → ((s.mems.getD i []).length : Int) = (pF p i).words
 mv : ∀ i, i < p.mems.length → ∀ j, j < (s.mems.getD i []).length → dn ((s.mems.getD i []).getD j 0) (pF p i).w
structure AN (p : Pr) (d : List Int) : Prop where
 l : d.length = p.takes.length
 v : ∀ i, i < p.takes.length → dn (d.getD i 0) (lG p i).w
structure AO (p : Pr) (hs : List Hd) : Prop where
 l : hs.length = p.takes.length
 v : ∀ i, i < p.takes.length → (hs.getD i aO).has = true → dn (hs.getD i aO).v (lG p i).w
set_option maxHeartbeats 1600000 in
theorem mm {p : Pr} {s : Ps} {d : List Int} (hp : gP p) (hs : qF p s) (hd : AN p d) : xF (qE p) p s d where
 prl := by simp [qE]
 prw := fun i hi => by
  have hi' : i < p.regs.length := by simpa [qE] using hi
  show (p.regs.getD i co).w = (p.regs.map (·.w)).getD i 0
  rw [cU (·.w) p.regs i co 0 hi']
 pml := by simp [qE]
 pmw := fun i hi => by
  have hi' : i < p.mems.length := by simpa [qE] using hi
  show (p.mems.getD i be).w = (p.mems.map (·.w)).getD i 0
  rw [cU (·.w) p.mems i be 0 hi']
 ptl := by simp [qE]
 ptw := fun i hi => by
  have hi' : i < p.takes.length := by simpa [qE] using hi
  show (p.takes.getD i aQ).w = (p.takes.map (·.w)).getD i 0
  rw [cU (·.w) p.takes i aQ 0 hi']
 srl := (hs.rl).trans (by simp [qE])
 srv := fun i hi => by
  have hi' : i < p.regs.length := by simpa [qE] using hi
  show dn _ ((p.regs.map (·.w)).getD i 0)
  rw [cU (·.w) p.regs i co 0 hi']
  exact hs.rv i hi'
 sml := (hs.ml).trans (by simp [qE])
 smn := fun i hi => by
  have hi' : i < p.mems.length := by simpa [qE] using hi
  have := hs.mn i hi'
  have := (hp.mw i hi').2.1
  omega
 smv := fun i hi j hj => by
  have hi' : i < p.mems.length := by simpa [qE] using hi
  show dn _ ((p.mems.map (·.w)).getD i 0)
  rw [cU (·.w) p.mems i be 0 hi']
  exact hs.mv i hi' j hj
 dl := (hd.l).trans (by simp [qE])
 dv := fun i hi => by
  have hi' : i < p.takes.length := by simpa [qE] using hi
  show dn _ ((p.takes.map (·.w)).getD i 0)
  rw [cU (·.w) p.takes i aQ 0 hi']
  exact hd.v i hi'
 rok := fun i hi => by
  have hi' : i < p.regs.length := by simpa [qE] using hi
  show av ((p.regs.map (·.w)).getD i 0) = true
  rw [cU (·.w) p.regs i co 0 hi']
  exact (hp.rw i hi').1
 mok := fun i hi => by
  have hi' : i < p.mems.length := by simpa [qE] using hi
  show av ((p.mems.map (·.w)).getD i 0) = true
  rw [cU (·.w) p.mems i be 0 hi']
  exact (hp.mw i hi').1
 tok := fun i hi => by
  have hi' : i < p.takes.length := by simpa [qE] using hi
  show av ((p.takes.map (·.w)).getD i 0) = true
  rw [cU (·.w) p.takes i aQ 0 hi']
  exact (hp.tw i hi').1
theorem Ig {c : Sc} {p : Pr} {s : Ps} (d d' : List Int) : ∀ (n : Nat) (e : Ex) (w : Int), fS e ≤ n → e9 ⟨c.rw, c.mw, []⟩ e = some w → e9 c e = some w ∧ bx p s d e = bx p s d' e := by
 intro n
 induction n with
 | zero => intro e w hd; cases e with | mk op name k w args => rw [fS] at hd; omega
 | succ n ih =>
  intro e w hd hty
  obtain ⟨ws, hws, hc⟩ := iG hty
  obtain ⟨hl, hget⟩ := ni hws
  have hargs : ∀ i, i < e.args.length → e9 c (e.args.getD i dE) = some (ws.getD i 0) ∧ bx p s d (e.args.getD i dE) = bx p s d' (e.args.getD i dE) := fun i hi => ih _ _ (by have := Cf hi; omega) (hget i hi)
  have hL : ∀ (l : List Ex) (ws : List Int), ws.length = l.length → (∀ i, i < l.length → e9 c (l.getD i dE) = some (ws.getD i 0)) → e9.tyL c l = some ws := by
   intro l
   induction l with
   | nil => intro ws h _; cases ws with | nil => rfl | cons a r => cases h
   | cons a r ihr =>
    intro ws h hh
    cases ws with
    | nil => cases h
    | cons w0 wr =>
     have h0 : e9 c a = some w0 := hh 0 (by simp)
     have h1 := ihr wr (by simpa using h) (fun i hi => hh (i + 1) (by simpa using hi))
     rw [e9.tyL, h0, h1]
  have hmap : e.args.map (bx p s d) = e.args.map (bx p s d') := by
   apply List.map_congr_left
   intro a ha
   obtain ⟨i, hi, rfl⟩ := List.mem_iff_getElem.1 ha
   have := (hargs i hi).2
   simpa [List.getD, List.getElem?_eq_getElem hi] using this
  have hws' := hL e.args ws hl (fun i hi => (hargs i hi).1)
  refine ⟨?_, ?_⟩
  ·cases e with
   | mk op name k w0 args =>
    rw [e9, hws']
    simp only at hc ⊢
    rcases hc with ⟨h1, h2, h3, h4, rfl⟩ | ⟨h1, h2, h3, h4, rfl⟩ | ⟨h1, h2, h3, h4, rfl⟩ | ⟨h1, h2, h2', h3, rfl⟩
    ·rw [if_pos h1, if_pos ⟨h2, h3, h4⟩]
    ·exact absurd h4 (by simp; omega)
    ·rw [if_neg (by omega), if_neg (by omega), if_pos h1, if_pos ⟨h2, h3, h4⟩]
    ·rw [if_neg h1, if_neg h2', if_neg h2, if_pos h3]
  ·rw [pE, pE p s d', hmap]
   have h18 : e.op ≠ 18 := by
    rcases hc with ⟨h1, h2, h3, h4, rfl⟩ | ⟨h1, h2, h3, h4, rfl⟩ | ⟨h1, h2, h3, h4, rfl⟩ | ⟨h1, h2, h2', h3, rfl⟩
    ·omega
    ·exact absurd h4 (by simp; omega)
    ·omega
    ·exact h2'
   rw [if_neg h18, if_neg h18]
theorem iq {p : Pr} {s : Ps} (hp : gP p) {i : Nat} (hi : i < p.takes.length) (d d' : List Int) : kJ p s d (lG p i).when = kJ p s d' (lG p i).when ∧ e9 (qE p) (lG p i).when = some 1 := by
 obtain ⟨h1, h2, h3⟩ := hp.tw i hi
 have h := Ig (c := qE p) (p := p) (s := s) d d' 3 _ 1 h3 h2
 exact ⟨by unfold kJ; rw [h.2], h.1⟩
theorem pG {w : Int} (h : av w = true) : dn 0 w := by
 have := bo.1 h
 exact ⟨by omega, (ax (by omega) (by omega)).1⟩
theorem L4 {p : Pr} (hp : gP p) : AN p (uT p) where
 l := by simp [uT]
 v := fun i hi => by
  have e : (uT p).getD i 0 = 0 := by simp [uT, List.getD, List.getElem?_replicate]; split <;> rfl
  rw [e]; exact pG (hp.tw i hi).1
theorem AP {p : Pr} {s : Ps} {hs : List Hd} (hp : gP p) (hh : AO p hs) : AN p (i9 p s hs) where
 l := by rw [i9, ap]
 v := fun i hi => by
  rw [i9, az hi, qD]
  split
  ·rename_i h; exact hh.v i hi h.2
  ·exact pG (hp.tw i hi).1
theorem iJ (p : Pr) (s : Ps) (hs : List Hd) (rs : List Bool) : (aI p s hs rs).fires = fp p s hs rs := by
 unfold aI; split <;> simp_all
theorem oT (p : Pr) (s : Ps) (hs : List Hd) (rs : List Bool) : (aI p s hs rs).pops.length = p.takes.length := by
 unfold aI; split <;> simp [ap]
theorem jB (p : Pr) (s : Ps) (hs : List Hd) (rs : List Bool) : (aI p s hs rs).puts.length = p.puts.length := by
 unfold aI; split <;> simp [ap]
theorem xH {p : Pr} {s : Ps} {d : List Int} {e : Ex} {w : Int} (ho : xF (qE p) p s d) (h : e9 (qE p) e = some w) (hd : fS e ≤ 3) : (bx p s d e).2 = w ∧ dn (bx p s d e).1 w ∧ av w = true := Jg ho 3 e w hd h
theorem Ih {p : Pr} {s : Ps} {d : List Int} (hp : gP p) (hs : qF p s) (hd : AN p d) : qF p (eD p s d) where
 rl := by rw [eD]; simp [ap]
 rv := fun i hi => by
  rw [eD]; simp only; rw [az hi]
  have h := hp.rw i hi
  exact (xH (mm hp hs hd) h.2.2.1 h.2.2.2).2.1
 ml := by rw [eD]; simp [ap]
 mn := fun i hi => by
  rw [eD]; simp only; rw [az hi, zg]
  split
  ·rw [List.length_set]; exact hs.mn i hi
  ·exact hs.mn i hi
 mv := fun i hi j hj => by
  rw [eD] at hj ⊢; simp only at hj ⊢; rw [az hi, zg] at hj ⊢
  have h := hp.mw i hi
  split at hj
  ·rename_i he
   rw [if_pos he]
   rw [List.length_set] at hj
   by_cases hm : (Int.tmod (bx p s d (pF p i).addr).1 (pF p i).words).toNat < (s.mems.getD i []).length
   ·rw [cX hm]
    split
    ·exact (xH (mm hp hs hd) h.2.2.2.2.1 h.2.2.2.2.2).2.1
    ·exact hs.mv i hi j hj
   ·rw [List.set_eq_of_length_le (by omega)]
    exact hs.mv i hi j hj
  ·rename_i he
   rw [if_neg he]
   exact hs.mv i hi j hj
theorem oU {p : Pr} {s : Ps} {hs : List Hd} {rs : List Bool} (hp : gP p) (hso : qF p s) (hh : AO p hs) : qF p (aI p s hs rs).s := by
 unfold aI
 split
 ·exact Ih hp hso (AP hp hh)
 ·exact hso
theorem qG {p : Pr} {s : Ps} {hs : List Hd} {rs : List Bool} (hp : gP p) (hso : qF p s) (hh : AO p hs) {i : Nat} (hi : i < p.puts.length) (hhas : ((aI p s hs rs).puts.getD i aO).has = true) : dn ((aI p s hs rs).puts.getD i aO).v (sH p i).w := by
 unfold aI at hhas ⊢
 split
 ·rename_i hf
  rw [if_pos hf] at hhas
  simp only at hhas ⊢
  rw [az hi] at hhas ⊢
  unfold ow at hhas ⊢
  split
  ·have h := hp.pw i hi
   exact (xH (mm hp hso (AP hp hh)) h.2.2.1 h.2.2.2).2.1
  ·rename_i hn; rw [if_neg hn] at hhas; cases hhas
 ·rename_i hf
  rw [if_neg hf] at hhas
  simp [List.getD, List.getElem?_replicate, hi] at hhas
end Go.Proofs.YtckgpflobhpnpaaGreat
