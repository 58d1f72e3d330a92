/-
  Processes and circuits, plain data: what a process does at a tick, what a circuit does.
-/
import Derived.Test.YtckgpflobhpnpaaQPrQ
namespace Go.Proofs.Ytckgpflobhpnpaa
open Go.RowKit
set_option linter.unusedVariables false
set_option linter.unusedSimpArgs false
def tab {α : Type} (f : Nat → α) (n : Nat) : List α := (List.range n).map f
theorem sY {α : Type} (f : Nat → α) (n : Nat) : tab f (n + 1) = tab f n ++ [f n] := by simp [tab, List.range_succ]
theorem au {α : Type} (f : Nat → α) (n : Nat) : (tab f n).length = n := by simp [tab]
theorem aH {α : Type} {f : Nat → α} {n i : Nat} {d : α} (h : i < n) : (tab f n).getD i d = f i := by
 simp [tab, List.getD, List.getElem?_eq_getElem, h]
theorem Fa {α : Type} {f : Nat → α} {n i : Nat} {d : α} (h : n ≤ i) : (tab f n).getD i d = d := by
 rw [List.getD, List.getElem?_eq_none (by rw [au]; exact h)]; rfl
theorem gO {α : Type} {f g : Nat → α} {n : Nat} (h : ∀ i, i < n → f i = g i) : tab f n = tab g n := by
 unfold tab
 exact List.map_congr_left (fun a ha => h a (List.mem_range.1 ha))
theorem C6 {α : Type} {l : List α} {d : α} : l = tab (fun i => l.getD i d) l.length := by
 apply List.ext_getElem
 ·rw [au]
 ·intro i h1 h2; simp [tab, List.getD, List.getElem?_eq_getElem h1]
theorem dq {α : Type} {a b : List α} {d : α} (hl : a.length = b.length) (h : ∀ i, i < a.length → a.getD i d = b.getD i d) : a = b := by
 apply List.ext_getElem hl
 intro i h1 h2
 have := h i h1
 simpa [List.getD, List.getElem?_eq_getElem h1, List.getElem?_eq_getElem h2] using this
theorem Ad {α β : Type} {l : List α} {d : α} (f : α → β) : l.map f = tab (fun i => f (l.getD i d)) l.length := by
 apply List.ext_getElem
 ·simp [au]
 ·intro i h1 h2; rw [List.length_map] at h1; simp [tab, List.getD, List.getElem?_eq_getElem h1]
theorem Fb {α : Type} {f : Nat → α} {l : List α} {k : Nat} (hk : k < l.length) : (tab f k ++ l.drop k).set k (f k) = tab f (k + 1) ++ l.drop (k + 1) := by
 rw [List.set_append_right _ _ (by rw [au]; omega), au, Nat.sub_self, sY, List.append_assoc]
 congr 1
 rw [List.drop_eq_getElem_cons hk]; rfl
theorem C7 {α : Type} {f : Nat → α} {l : List α} {k : Nat} (hk : l.length ≤ k) : tab f k ++ l.drop k = tab f k := by rw [List.drop_eq_nil_of_le hk, List.append_nil]
theorem cI {α : Type} {l : List α} {i j : Nat} {x d : α} (h : i < l.length) : (l.set i x).getD j d = if i = j then x else l.getD j d := by
 simp only [List.getD, List.getElem?_set]
 split
 ·rename_i e; subst e; simp [h]
 ·rfl
def dP (f : Nat → Bool) : Nat → Bool
 | 0 => true
 | n + 1 => dP f n && f n
theorem c9 {f : Nat → Bool} : ∀ {n : Nat}, dP f n = true ↔ ∀ i, i < n → f i = true
 | 0 => ⟨fun _ i hi => absurd hi (Nat.not_lt_zero _), fun _ => rfl⟩
 | n + 1 => by
  rw [dP, Bool.and_eq_true, c9]
  constructor
  ·rintro ⟨h1, h2⟩ i hi
   rcases Nat.lt_or_ge i n with h | h
   ·exact h1 i h
   ·rw [show i = n by omega]; exact h2
  ·intro h; exact ⟨fun i hi => h i (by omega), h n (by omega)⟩
theorem vU {f : Nat → Bool} {n i : Nat} (hi : i < n) (h : f i = false) : dP f n = false := by
 cases hh : dP f n
 ·rfl
 ·rw [c9.1 hh i hi] at h; cases h
def j8 (p : Pr) (s : Ps) (data : List Int) (e : Ex) : Bool := decide ((bo p s data e).1 = 1)
def sZ (p : Pr) : List Int := List.replicate p.takes.length 0
abbrev oB (p : Pr) (i : Nat) : Tk := p.takes.getD i aQ
abbrev vV (p : Pr) (i : Nat) : Pt := p.puts.getD i aI
abbrev Fc (p : Pr) (i : Nat) : Rg := p.regs.getD i eD
abbrev oe (p : Pr) (i : Nat) : Mm := p.mems.getD i bh
def pk (p : Pr) (s : Ps) (hs : List Hd) (i : Nat) : Int := if j8 p s (sZ p) (oB p i).when = true ∧ (hs.getD i aK).has = true then (hs.getD i aK).v else 0
def iB (p : Pr) (s : Ps) (hs : List Hd) : List Int := tab (pk p s hs) p.takes.length
def xm (p : Pr) (s : Ps) (data : List Int) (i : Nat) : List Int :=
 if j8 p s data (oe p i).enable = true then (s.mems.getD i []).set (Int.tmod (bo p s data (oe p i).addr).1 (oe p i).words).toNat (bo p s data (oe p i).data).1 else s.mems.getD i []
def d5 (p : Pr) (s : Ps) (data : List Int) : Ps := ⟨tab (fun i => (bo p s data (Fc p i).next).1) p.regs.length, tab (xm p s data) p.mems.length⟩
def jr (p : Pr) (s : Ps) (hs : List Hd) (i : Nat) : Bool := (hs.getD i aK).has || !j8 p s (iB p s hs) (oB p i).when
def mV (p : Pr) (s : Ps) (hs : List Hd) (rs : List Bool) (i : Nat) : Bool := rs.getD i false || !j8 p s (iB p s hs) (vV p i).when
def eN (p : Pr) (s : Ps) (hs : List Hd) (rs : List Bool) : Bool := dP (jr p s hs) p.takes.length && dP (mV p s hs rs) p.puts.length
def mW (p : Pr) (s : Ps) (hs : List Hd) (i : Nat) : Bool := j8 p s (iB p s hs) (oB p i).when
def mX (p : Pr) (s : Ps) (hs : List Hd) (i : Nat) : Hd := if j8 p s (iB p s hs) (vV p i).when = true then ⟨true, (bo p s (iB p s hs) (vV p i).data).1⟩ else aK
def aG (p : Pr) (s : Ps) (hs : List Hd) (rs : List Bool) : Fi :=
 if eN p s hs rs = true then ⟨true, d5 p s (iB p s hs), tab (mW p s hs) p.takes.length, tab (mX p s hs) p.puts.length⟩
 else ⟨false, s, List.replicate p.takes.length false, List.replicate p.puts.length aK⟩
def aL (p : Pr) : Ps := ⟨p.regs.map (·.init), p.mems.map (fun m => List.replicate m.words.toNat 0)⟩
def j9 (v w : Int) : Bool := decide (0 ≤ v) && decide (v ≤ ak w)
theorem C8 {v w : Int} : j9 v w = true ↔ dM v w := by simp [j9, dM]
def pV (p : Pr) : Sc := ⟨p.regs.map (·.w), p.mems.map (·.w), p.takes.map (·.w)⟩
def Kp (p : Pr) : Sc := ⟨p.regs.map (·.w), p.mems.map (·.w), []⟩
structure gE (p : Pr) : Prop where
 rl : p.regs.length ≤ 100
 ml : p.mems.length ≤ 100
 tl : p.takes.length ≤ 100
 pl : p.puts.length ≤ 100
 rw : ∀ i, i < p.regs.length → aw (Fc p i).w = true ∧ dM (Fc p i).init (Fc p i).w ∧ kI (pV p) (Fc p i).next = some (Fc p i).w ∧ mf (Fc p i).next ≤ 3
 mw : ∀ i, i < p.mems.length → aw (oe p i).w = true ∧ (1 ≤ (oe p i).words ∧ (oe p i).words ≤ 4) ∧ (kI (pV p) (oe p i).enable = some 1 ∧ mf (oe p i).enable ≤ 3) ∧ ((∃ v, kI (pV p) (oe p i).addr = some v) ∧ mf (oe p i).addr ≤ 3) ∧ kI (pV p) (oe p i).data = some (oe p i).w ∧ mf (oe p i).data ≤ 3
 tw : ∀ i, i < p.takes.length → aw (oB p i).w = true ∧ kI (Kp p) (oB p i).when = some 1 ∧ mf (oB p i).when ≤ 3
 pw : ∀ i, i < p.puts.length → aw (vV p i).w = true ∧ (kI (pV p) (vV p i).when = some 1 ∧ mf (vV p i).when ≤ 3) ∧ kI (pV p) (vV p i).data = some (vV p i).w ∧ mf (vV p i).data ≤ 3
structure pm (p : Pr) (s : Ps) : Prop where
 rl : s.regs.length = p.regs.length
 rv : ∀ i, i < p.regs.length → dM (s.regs.getD i 0) (Fc p i).w
 ml : s.mems.length = p.mems.length
 mn : ∀ i, i < p.mems.length → ((s.mems.getD i []).length : Int) = (oe p i).words
 mv : ∀ i, i < p.mems.length → ∀ j, j < (s.mems.getD i []).length → dM ((s.mems.getD i []).getD j 0) (oe p i).w
structure yB (p : Pr) (d : List Int) : Prop where
 l : d.length = p.takes.length
 v : ∀ i, i < p.takes.length → dM (d.getD i 0) (oB p i).w
structure yC (p : Pr) (hs : List Hd) : Prop where
 l : hs.length = p.takes.length
 v : ∀ i, i < p.takes.length → (hs.getD i aK).has = true → dM (hs.getD i aK).v (oB p i).w
set_option maxHeartbeats 1600000 in
theorem lp {p : Pr} {s : Ps} {d : List Int} (hp : gE p) (hs : pm p s) (hd : yB p d) : vR (pV p) p s d where
 prl := by simp [pV]
 prw := fun i hi => by
  have hi' : i < p.regs.length := by simpa [pV] using hi
  show (p.regs.getD i eD).w = (p.regs.map (·.w)).getD i 0
  rw [c8 (·.w) p.regs i eD 0 hi']
 pml := by simp [pV]
 pmw := fun i hi => by
  have hi' : i < p.mems.length := by simpa [pV] using hi
  show (p.mems.getD i bh).w = (p.mems.map (·.w)).getD i 0
  rw [c8 (·.w) p.mems i bh 0 hi']
 ptl := by simp [pV]
 ptw := fun i hi => by
  have hi' : i < p.takes.length := by simpa [pV] using hi
  show (p.takes.getD i aQ).w = (p.takes.map (·.w)).getD i 0
  rw [c8 (·.w) p.takes i aQ 0 hi']
 srl := (hs.rl).trans (by simp [pV])
 srv := fun i hi => by
  have hi' : i < p.regs.length := by simpa [pV] using hi
  show dM _ ((p.regs.map (·.w)).getD i 0)
  rw [c8 (·.w) p.regs i eD 0 hi']
  exact hs.rv i hi'
 sml := (hs.ml).trans (by simp [pV])
 smn := fun i hi => by
  have hi' : i < p.mems.length := by simpa [pV] using hi
  have := hs.mn i hi'
  have := (hp.mw i hi').2.1
  omega
 smv := fun i hi j hj => by
  have hi' : i < p.mems.length := by simpa [pV] using hi
  show dM _ ((p.mems.map (·.w)).getD i 0)
  rw [c8 (·.w) p.mems i bh 0 hi']
  exact hs.mv i hi' j hj
 dl := (hd.l).trans (by simp [pV])
 dv := fun i hi => by
  have hi' : i < p.takes.length := by simpa [pV] using hi
  show dM _ ((p.takes.map (·.w)).getD i 0)
  rw [c8 (·.w) p.takes i aQ 0 hi']
  exact hd.v i hi'
 rok := fun i hi => by
  have hi' : i < p.regs.length := by simpa [pV] using hi
  show aw ((p.regs.map (·.w)).getD i 0) = true
  rw [c8 (·.w) p.regs i eD 0 hi']
  exact (hp.rw i hi').1
 mok := fun i hi => by
  have hi' : i < p.mems.length := by simpa [pV] using hi
  show aw ((p.mems.map (·.w)).getD i 0) = true
  rw [c8 (·.w) p.mems i bh 0 hi']
  exact (hp.mw i hi').1
 tok := fun i hi => by
  have hi' : i < p.takes.length := by simpa [pV] using hi
  show aw ((p.takes.map (·.w)).getD i 0) = true
  rw [c8 (·.w) p.takes i aQ 0 hi']
  exact (hp.tw i hi').1
theorem Fd {c : Sc} {p : Pr} {s : Ps} (d d' : List Int) : ∀ (n : Nat) (e : Ex) (w : Int), mf e ≤ n → kI ⟨c.rw, c.mw, []⟩ e = some w → kI c e = some w ∧ bo p s d e = bo p s d' e := by
 intro n
 induction n with
 | zero => intro e w hd; cases e with | mk op name k w args => rw [mf] at hd; omega
 | succ n ih =>
  intro e w hd hty
  obtain ⟨ws, hws, hc⟩ := hJ hty
  obtain ⟨hl, hget⟩ := mh hws
  have hargs : ∀ i, i < e.args.length → kI c (e.args.getD i dE) = some (ws.getD i 0) ∧ bo p s d (e.args.getD i dE) = bo p s d' (e.args.getD i dE) := fun i hi => ih _ _ (by have := z9 hi; omega) (hget i hi)
  have hL : ∀ (l : List Ex) (ws : List Int), ws.length = l.length → (∀ i, i < l.length → kI c (l.getD i dE) = some (ws.getD i 0)) → kI.tyL c l = some ws := by
   intro l
   induction l with
   | nil => intro ws h _; cases ws with | nil => rfl | cons a r => cases h
   | cons a r ihr =>
    intro ws h hh
    cases ws with
    | nil => cases h
    | cons w0 wr =>
     have h0 : kI c a = some w0 := hh 0 (by simp)
     have h1 := ihr wr (by simpa using h) (fun i hi => hh (i + 1) (by simpa using hi))
     rw [kI.tyL, h0, h1]
  have hmap : e.args.map (bo p s d) = e.args.map (bo p s d') := by
   apply List.map_congr_left
   intro a ha
   obtain ⟨i, hi, rfl⟩ := List.mem_iff_getElem.1 ha
   have := (hargs i hi).2
   simpa [List.getD, List.getElem?_eq_getElem hi] using this
  have hws' := hL e.args ws hl (fun i hi => (hargs i hi).1)
  refine ⟨?_, ?_⟩
  ·cases e with
   | mk op name k w0 args =>
    rw [kI, hws']
    simp only at hc ⊢
    rcases hc with ⟨h1, h2, h3, h4, rfl⟩ | ⟨h1, h2, h3, h4, rfl⟩ | ⟨h1, h2, h3, h4, rfl⟩ | ⟨h1, h2, h2', h3, rfl⟩
    ·rw [if_pos h1, if_pos ⟨h2, h3, h4⟩]
    ·exact absurd h4 (by simp; omega)
    ·rw [if_neg (by omega), if_neg (by omega), if_pos h1, if_pos ⟨h2, h3, h4⟩]
    ·rw [if_neg h1, if_neg h2', if_neg h2, if_pos h3]
  ·rw [od, od p s d', hmap]
   have h18 : e.op ≠ 18 := by
    rcases hc with ⟨h1, h2, h3, h4, rfl⟩ | ⟨h1, h2, h3, h4, rfl⟩ | ⟨h1, h2, h3, h4, rfl⟩ | ⟨h1, h2, h2', h3, rfl⟩
    ·omega
    ·exact absurd h4 (by simp; omega)
    ·omega
    ·exact h2'
   rw [if_neg h18, if_neg h18]
theorem gP {p : Pr} {s : Ps} (hp : gE p) {i : Nat} (hi : i < p.takes.length) (d d' : List Int) : j8 p s d (oB p i).when = j8 p s d' (oB p i).when ∧ kI (pV p) (oB p i).when = some 1 := by
 obtain ⟨h1, h2, h3⟩ := hp.tw i hi
 have h := Fd (c := pV p) (p := p) (s := s) d d' 3 _ 1 h3 h2
 exact ⟨by unfold j8; rw [h.2], h.1⟩
theorem og {w : Int} (h : aw w = true) : dM 0 w := by
 have := dp.1 h
 exact ⟨by omega, (ap (by omega) (by omega)).1⟩
theorem Ij {p : Pr} (hp : gE p) : yB p (sZ p) where
 l := by simp [sZ]
 v := fun i hi => by
  have e : (sZ p).getD i 0 = 0 := by simp [sZ, List.getD, List.getElem?_replicate]; split <;> rfl
  rw [e]; exact og (hp.tw i hi).1
theorem yD {p : Pr} {s : Ps} {hs : List Hd} (hp : gE p) (hh : yC p hs) : yB p (iB p s hs) where
 l := by rw [iB, au]
 v := fun i hi => by
  rw [iB, aH hi, pk]
  split
  ·rename_i h; exact hh.v i hi h.2
  ·exact og (hp.tw i hi).1
theorem oh (p : Pr) (s : Ps) (hs : List Hd) (rs : List Bool) : (aG p s hs rs).fires = eN p s hs rs := by
 unfold aG; split <;> simp_all
theorem nm (p : Pr) (s : Ps) (hs : List Hd) (rs : List Bool) : (aG p s hs rs).pops.length = p.takes.length := by
 unfold aG; split <;> simp [au]
theorem i8 (p : Pr) (s : Ps) (hs : List Hd) (rs : List Bool) : (aG p s hs rs).puts.length = p.puts.length := by
 unfold aG; split <;> simp [au]
theorem vW {p : Pr} {s : Ps} {d : List Int} {e : Ex} {w : Int} (ho : vR (pV p) p s d) (h : kI (pV p) e = some w) (hd : mf e ≤ 3) : (bo p s d e).2 = w ∧ dM (bo p s d e).1 w ∧ aw w = true := F1 ho 3 e w hd h
theorem Fe {p : Pr} {s : Ps} {d : List Int} (hp : gE p) (hs : pm p s) (hd : yB p d) : pm p (d5 p s d) where
 rl := by rw [d5]; simp [au]
 rv := fun i hi => by
  rw [d5]; simp only; rw [aH hi]
  have h := hp.rw i hi
  exact (vW (lp hp hs hd) h.2.2.1 h.2.2.2).2.1
 ml := by rw [d5]; simp [au]
 mn := fun i hi => by
  rw [d5]; simp only; rw [aH hi, xm]
  split
  ·rw [List.length_set]; exact hs.mn i hi
  ·exact hs.mn i hi
 mv := fun i hi j hj => by
  rw [d5] at hj ⊢; simp only at hj ⊢; rw [aH hi, xm] at hj ⊢
  have h := hp.mw i hi
  split at hj
  ·rename_i he
   rw [if_pos he]
   rw [List.length_set] at hj
   by_cases hm : (Int.tmod (bo p s d (oe p i).addr).1 (oe p i).words).toNat < (s.mems.getD i []).length
   ·rw [cI hm]
    split
    ·exact (vW (lp hp hs hd) h.2.2.2.2.1 h.2.2.2.2.2).2.1
    ·exact hs.mv i hi j hj
   ·rw [List.set_eq_of_length_le (by omega)]
    exact hs.mv i hi j hj
  ·rename_i he
   rw [if_neg he]
   exact hs.mv i hi j hj
theorem np {p : Pr} {s : Ps} {hs : List Hd} {rs : List Bool} (hp : gE p) (hso : pm p s) (hh : yC p hs) : pm p (aG p s hs rs).s := by
 unfold aG
 split
 ·exact Fe hp hso (yD hp hh)
 ·exact hso
theorem pn {p : Pr} {s : Ps} {hs : List Hd} {rs : List Bool} (hp : gE p) (hso : pm p s) (hh : yC p hs) {i : Nat} (hi : i < p.puts.length) (hhas : ((aG p s hs rs).puts.getD i aK).has = true) : dM ((aG p s hs rs).puts.getD i aK).v (vV p i).w := by
 unfold aG at hhas ⊢
 split
 ·rename_i hf
  rw [if_pos hf] at hhas
  simp only at hhas ⊢
  rw [aH hi] at hhas ⊢
  unfold mX at hhas ⊢
  split
  ·have h := hp.pw i hi
   exact (vW (lp hp hso (yD hp hh)) h.2.2.1 h.2.2.2).2.1
  ·rename_i hn; rw [if_neg hn] at hhas; cases hhas
 ·rename_i hf
  rw [if_neg hf] at hhas
  simp [List.getD, List.getElem?_replicate, hi] at hhas
end Go.Proofs.Ytckgpflobhpnpaa
