/-
  Processes and circuits, plain data: what a process does at a tick, what a circuit does.
-/
import Derived.Test.YtgmpoenfoacofaaGreatQPrG
namespace Go.Proofs.YtgmpoenfoacofaaGreat
open Go.RowKit
set_option linter.unusedVariables false
set_option linter.unusedSimpArgs false
def ao {α : Type} (f : Nat → α) (n : Nat) : List α := (List.range n).map f
theorem s7 {α : Type} (f : Nat → α) (n : Nat) : ao f (n + 1) = ao f n ++ [f n] := by simp [ao, List.range_succ]
theorem aJ {α : Type} (f : Nat → α) (n : Nat) : (ao f n).length = n := by simp [ao]
theorem bh {α : Type} {f : Nat → α} {n i : Nat} {d : α} (h : i < n) : (ao f n).getD i d = f i := by
 simp [ao, List.getD, List.getElem?_eq_getElem, h]
theorem Gz {α : Type} {f : Nat → α} {n i : Nat} {d : α} (h : n ≤ i) : (ao f n).getD i d = d := by
 rw [List.getD, List.getElem?_eq_none (by rw [aJ]; exact h)]; rfl
theorem gH {α : Type} {f g : Nat → α} {n : Nat} (h : ∀ i, i < n → f i = g i) : ao f n = ao g n := by
 unfold ao
 exact List.map_congr_left (fun a ha => h a (List.mem_range.1 ha))
theorem EO {α : Type} {l : List α} {d : α} : l = ao (fun i => l.getD i d) l.length := by
 apply List.ext_getElem
 ·rw [aJ]
 ·intro i h1 h2; simp [ao, List.getD, List.getElem?_eq_getElem h1]
theorem oL {α : Type} {a b : List α} {d : α} (hl : a.length = b.length) (h : ∀ i, i < a.length → a.getD i d = b.getD i d) : a = b := by
 apply List.ext_getElem hl
 intro i h1 h2
 have := h i h1
 simpa [List.getD, List.getElem?_eq_getElem h1, List.getElem?_eq_getElem h2] using this
theorem A5 {α β : Type} {l : List α} {d : α} (f : α → β) : l.map f = ao (fun i => f (l.getD i d)) l.length := by
 apply List.ext_getElem
 ·simp [aJ]
 ·intro i h1 h2; rw [List.length_map] at h1; simp [ao, List.getD, List.getElem?_eq_getElem h1]
theorem GA {α : Type} {f : Nat → α} {l : List α} {k : Nat} (hk : k < l.length) : (ao f k ++ l.drop k).set k (f k) = ao f (k + 1) ++ l.drop (k + 1) := by
 rw [List.set_append_right _ _ (by rw [aJ]; omega), aJ, Nat.sub_self, s7, List.append_assoc]
 congr 1
 rw [List.drop_eq_getElem_cons hk]; rfl
theorem EP {α : Type} {f : Nat → α} {l : List α} {k : Nat} (hk : l.length ≤ k) : ao f k ++ l.drop k = ao f k := by rw [List.drop_eq_nil_of_le hk, List.append_nil]
theorem bZ {α : Type} {l : List α} {i j : Nat} {x d : α} (h : i < l.length) : (l.set i x).getD j d = if i = j then x else l.getD j d := by
 simp only [List.getD, List.getElem?_set]
 split
 ·rename_i e; subst e; simp [h]
 ·rfl
def cz (f : Nat → Bool) : Nat → Bool
 | 0 => true
 | n + 1 => cz f n && f n
theorem bu {f : Nat → Bool} : ∀ {n : Nat}, cz f n = true ↔ ∀ i, i < n → f i = true
 | 0 => ⟨fun _ i hi => absurd hi (Nat.not_lt_zero _), fun _ => rfl⟩
 | n + 1 => by
  rw [cz, Bool.and_eq_true, bu]
  constructor
  ·rintro ⟨h1, h2⟩ i hi
   rcases Nat.lt_or_ge i n with h | h
   ·exact h1 i h
   ·rw [show i = n by omega]; exact h2
  ·intro h; exact ⟨fun i hi => h i (by omega), h n (by omega)⟩
theorem gu {f : Nat → Bool} {n i : Nat} (hi : i < n) (h : f i = false) : cz f n = false := by
 cases hh : cz f n
 ·rfl
 ·rw [bu.1 hh i hi] at h; cases h
def dH (p : Pr) (s : Ps) (data : List Int) (e : Ex) : Bool := decide ((a5 p s data e).1 = 1)
def hX (p : Pr) : List Int := List.replicate p.takes.length 0
abbrev km (p : Pr) (i : Nat) : Tk := p.takes.getD i bK
abbrev qT (p : Pr) (i : Nat) : Pt := p.puts.getD i bn
abbrev CP (p : Pr) (i : Nat) : Rg := p.regs.getD i bI
abbrev kt (p : Pr) (i : Nat) : Mm := p.mems.getD i aI
def ku (p : Pr) (s : Ps) (hs : List Hd) (i : Nat) : Int := if dH p s (hX p) (km p i).when = true ∧ (hs.getD i aR).has = true then (hs.getD i aR).v else 0
def bM (p : Pr) (s : Ps) (hs : List Hd) : List Int := ao (ku p s hs) p.takes.length
def pE (p : Pr) (s : Ps) (data : List Int) (i : Nat) : List Int :=
 if dH p s data (kt p i).enable = true then (s.mems.getD i []).set (Int.tmod (a5 p s data (kt p i).addr).1 (kt p i).words).toNat (a5 p s data (kt p i).data).1 else s.mems.getD i []
def cg (p : Pr) (s : Ps) (data : List Int) : Ps := ⟨ao (fun i => (a5 p s data (CP p i).next).1) p.regs.length, ao (pE p s data) p.mems.length⟩
def gv (p : Pr) (s : Ps) (hs : List Hd) (i : Nat) : Bool := (hs.getD i aR).has || !dH p s (bM p s hs) (km p i).when
def i8 (p : Pr) (s : Ps) (hs : List Hd) (rs : List Bool) (i : Nat) : Bool := rs.getD i false || !dH p s (bM p s hs) (qT p i).when
def e9 (p : Pr) (s : Ps) (hs : List Hd) (rs : List Bool) : Bool := cz (gv p s hs) p.takes.length && cz (i8 p s hs rs) p.puts.length
def kP (p : Pr) (s : Ps) (hs : List Hd) (i : Nat) : Bool := dH p s (bM p s hs) (km p i).when
def kQ (p : Pr) (s : Ps) (hs : List Hd) (i : Nat) : Hd := if dH p s (bM p s hs) (qT p i).when = true then ⟨true, (a5 p s (bM p s hs) (qT p i).data).1⟩ else aR
def aK (p : Pr) (s : Ps) (hs : List Hd) (rs : List Bool) : Fi :=
 if e9 p s hs rs = true then ⟨true, cg p s (bM p s hs), ao (kP p s hs) p.takes.length, ao (kQ p s hs) p.puts.length⟩
 else ⟨false, s, List.replicate p.takes.length false, List.replicate p.puts.length aR⟩
def aP (p : Pr) : Ps := ⟨p.regs.map (·.init), p.mems.map (fun m => List.replicate m.words.toNat 0)⟩
def c8 (v w : Int) : Bool := decide (0 ≤ v) && decide (v ≤ af w)
theorem ya {v w : Int} : c8 v w = true ↔ dq v w := by simp [c8, dq]
def hY (p : Pr) (s : Ps) (i : Nat) : Bool := decide (((s.mems.getD i []).length : Int) = (kt p i).words) && cz (fun j => c8 ((s.mems.getD i []).getD j 0) (kt p i).w) (s.mems.getD i []).length
def bQ (p : Pr) (s : Ps) : Bool := decide (s.regs.length = p.regs.length) && decide (s.mems.length = p.mems.length) && cz (fun i => c8 (s.regs.getD i 0) (CP p i).w) s.regs.length && cz (hY p s) s.mems.length
def oM (p : Pr) : Sc := ⟨p.regs.map (·.w), p.mems.map (·.w), p.takes.map (·.w)⟩
def LR (p : Pr) : Sc := ⟨p.regs.map (·.w), p.mems.map (·.w), []⟩
structure fL (p : Pr) : Prop where
 rl : p.regs.length ≤ 100
 ml : p.mems.length ≤ 100
 tl : p.takes.length ≤ 100
 pl : p.puts.length ≤ 100
 rw : ∀ i, i < p.regs.length → am (CP p i).w = true ∧ dq (CP p i).init (CP p i).w ∧ eD (oM p) (CP p i).next = some (CP p i).w ∧ fc (CP p i).next ≤ 3
 mw : ∀ i, i < p.mems.length → am (kt p i).w = true ∧ (1 ≤ (kt p i).words ∧ (kt p i).words ≤ 4) ∧ (eD (oM p) (kt p i).enable = some 1 ∧ fc (kt p i).enable ≤ 3) ∧ ((∃ v, eD (oM p) (kt p i).addr = some v) ∧ fc (kt p i).addr ≤ 3) ∧ eD (oM p) (kt p i).data = some (kt p i).w ∧ fc (kt p i).data ≤ 3
 tw : ∀ i, i < p.takes.length → am (km p i).w = true ∧ eD (LR p) (km p i).when = some 1 ∧ fc (km p i).when ≤ 3
 pw : ∀ i, i < p.puts.length → am (qT p i).w = true ∧ (eD (oM p) (qT p i).when = some 1 ∧ fc (qT p i).when ≤ 3) ∧ eD (oM p) (qT p i).data = some (qT p i).w ∧ fc (qT p i).data ≤ 3
structure nb (p : Pr) (s : Ps) : Prop where
 rl : s.regs.length = p.regs.length
 rv : ∀ i, i < p.regs.length → dq (s.regs.getD i 0) (CP p i).w
 ml : s.mems.length = p.mems.length
 mn : ∀ i, i < p.mems.length → ((s.mems.getD i []).length : Int) = (kt p i).words
 mv : ∀ i, i < p.mems.length → ∀ j, j < (s.mems.getD i []).length → dq ((s.mems.getD i []).getD j 0) (kt p i).w
structure yc (p : Pr) (d : List Int) : Prop where
 l : d.length = p.takes.length
 v : ∀ i, i < p.takes.length → dq (d.getD i 0) (km p i).w
structure yd (p : Pr) (hs : List Hd) : Prop where
 l : hs.length = p.takes.length
 v : ∀ i, i < p.takes.length → (hs.getD i aR).has = true → dq (hs.getD i aR).v (km p i).w
theorem CQ {p : Pr} {s : Ps} : bQ p s = true ↔ nb p s := by
 unfold bQ hY
 simp only [Bool.and_eq_true, decide_eq_true_eq, bu, ya]
 constructor
 ·rintro ⟨⟨⟨h1, h2⟩, h3⟩, h4⟩
  exact ⟨h1, fun i hi => h3 i (by omega), h2, fun i hi => (h4 i (by omega)).1, fun i hi => (h4 i (by omega)).2⟩
 ·intro h
  exact ⟨⟨⟨h.rl, h.ml⟩, fun i hi => h.rv i (by have := h.rl; omega)⟩, fun i hi => ⟨h.mn i (by have := h.ml; omega), h.mv i (by have := h.ml; omega)⟩⟩
set_option maxHeartbeats 1600000 in
theorem fM {p : Pr} {s : Ps} {d : List Int} (hp : fL p) (hs : nb p s) (hd : yc p d) : qe (oM p) p s d where
 prl := by simp [oM]
 prw := fun i hi => by
  have hi' : i < p.regs.length := by simpa [oM] using hi
  show (p.regs.getD i bI).w = (p.regs.map (·.w)).getD i 0
  rw [di (·.w) p.regs i bI 0 hi']
 pml := by simp [oM]
 pmw := fun i hi => by
  have hi' : i < p.mems.length := by simpa [oM] using hi
  show (p.mems.getD i aI).w = (p.mems.map (·.w)).getD i 0
  rw [di (·.w) p.mems i aI 0 hi']
 ptl := by simp [oM]
 ptw := fun i hi => by
  have hi' : i < p.takes.length := by simpa [oM] using hi
  show (p.takes.getD i bK).w = (p.takes.map (·.w)).getD i 0
  rw [di (·.w) p.takes i bK 0 hi']
 srl := (hs.rl).trans (by simp [oM])
 srv := fun i hi => by
  have hi' : i < p.regs.length := by simpa [oM] using hi
  show dq _ ((p.regs.map (·.w)).getD i 0)
  rw [di (·.w) p.regs i bI 0 hi']
  exact hs.rv i hi'
 sml := (hs.ml).trans (by simp [oM])
 smn := fun i hi => by
  have hi' : i < p.mems.length := by simpa [oM] using hi
  have := hs.mn i hi'
  have := (hp.mw i hi').2.1
  omega
 smv := fun i hi j hj => by
  have hi' : i < p.mems.length := by simpa [oM] using hi
  show dq _ ((p.mems.map (·.w)).getD i 0)
  rw [di (·.w) p.mems i aI 0 hi']
  exact hs.mv i hi' j hj
 dl := (hd.l).trans (by simp [oM])
 dv := fun i hi => by
  have hi' : i < p.takes.length := by simpa [oM] using hi
  show dq _ ((p.takes.map (·.w)).getD i 0)
  rw [di (·.w) p.takes i bK 0 hi']
  exact hd.v i hi'
 rok := fun i hi => by
  have hi' : i < p.regs.length := by simpa [oM] using hi
  show am ((p.regs.map (·.w)).getD i 0) = true
  rw [di (·.w) p.regs i bI 0 hi']
  exact (hp.rw i hi').1
 mok := fun i hi => by
  have hi' : i < p.mems.length := by simpa [oM] using hi
  show am ((p.mems.map (·.w)).getD i 0) = true
  rw [di (·.w) p.mems i aI 0 hi']
  exact (hp.mw i hi').1
 tok := fun i hi => by
  have hi' : i < p.takes.length := by simpa [oM] using hi
  show am ((p.takes.map (·.w)).getD i 0) = true
  rw [di (·.w) p.takes i bK 0 hi']
  exact (hp.tw i hi').1
theorem GB {c : Sc} {p : Pr} {s : Ps} (d d' : List Int) : ∀ (n : Nat) (e : Ex) (w : Int), fc e ≤ n → eD ⟨c.rw, c.mw, []⟩ e = some w → eD c e = some w ∧ a5 p s d e = a5 p s d' e := by
 intro n
 induction n with
 | zero => intro e w hd; cases e with | mk op name k w args => rw [fc] at hd; omega
 | succ n ih =>
  intro e w hd hty
  obtain ⟨ws, hws, hc⟩ := fK hty
  obtain ⟨hl, hget⟩ := jK hws
  have hargs : ∀ i, i < e.args.length → eD c (e.args.getD i dE) = some (ws.getD i 0) ∧ a5 p s d (e.args.getD i dE) = a5 p s d' (e.args.getD i dE) := fun i hi => ih _ _ (by have := AU hi; omega) (hget i hi)
  have hL : ∀ (l : List Ex) (ws : List Int), ws.length = l.length → (∀ i, i < l.length → eD c (l.getD i dE) = some (ws.getD i 0)) → eD.tyL c l = some ws := by
   intro l
   induction l with
   | nil => intro ws h _; cases ws with | nil => rfl | cons a r => cases h
   | cons a r ihr =>
    intro ws h hh
    cases ws with
    | nil => cases h
    | cons w0 wr =>
     have h0 : eD c a = some w0 := hh 0 (by simp)
     have h1 := ihr wr (by simpa using h) (fun i hi => hh (i + 1) (by simpa using hi))
     rw [eD.tyL, h0, h1]
  have hmap : e.args.map (a5 p s d) = e.args.map (a5 p s d') := by
   apply List.map_congr_left
   intro a ha
   obtain ⟨i, hi, rfl⟩ := List.mem_iff_getElem.1 ha
   have := (hargs i hi).2
   simpa [List.getD, List.getElem?_eq_getElem hi] using this
  have hws' := hL e.args ws hl (fun i hi => (hargs i hi).1)
  refine ⟨?_, ?_⟩
  ·cases e with
   | mk op name k w0 args =>
    rw [eD, hws']
    simp only at hc ⊢
    rcases hc with ⟨h1, h2, h3, h4, rfl⟩ | ⟨h1, h2, h3, h4, rfl⟩ | ⟨h1, h2, h3, h4, rfl⟩ | ⟨h1, h2, h2', h3, rfl⟩
    ·rw [if_pos h1, if_pos ⟨h2, h3, h4⟩]
    ·exact absurd h4 (by simp; omega)
    ·rw [if_neg (by omega), if_neg (by omega), if_pos h1, if_pos ⟨h2, h3, h4⟩]
    ·rw [if_neg h1, if_neg h2', if_neg h2, if_pos h3]
  ·rw [na, na p s d', hmap]
   have h18 : e.op ≠ 18 := by
    rcases hc with ⟨h1, h2, h3, h4, rfl⟩ | ⟨h1, h2, h3, h4, rfl⟩ | ⟨h1, h2, h3, h4, rfl⟩ | ⟨h1, h2, h2', h3, rfl⟩
    ·omega
    ·exact absurd h4 (by simp; omega)
    ·omega
    ·exact h2'
   rw [if_neg h18, if_neg h18]
theorem gI {p : Pr} {s : Ps} (hp : fL p) {i : Nat} (hi : i < p.takes.length) (d d' : List Int) : dH p s d (km p i).when = dH p s d' (km p i).when ∧ eD (oM p) (km p i).when = some 1 := by
 obtain ⟨h1, h2, h3⟩ := hp.tw i hi
 have h := GB (c := oM p) (p := p) (s := s) d d' 3 _ 1 h3 h2
 exact ⟨by unfold dH; rw [h.2], h.1⟩
theorem nc {w : Int} (h : am w = true) : dq 0 w := by
 have := aN.1 h
 exact ⟨by omega, (aq (by omega) (by omega)).1⟩
theorem HG {p : Pr} (hp : fL p) : yc p (hX p) where
 l := by simp [hX]
 v := fun i hi => by
  have e : (hX p).getD i 0 = 0 := by simp [hX, List.getD, List.getElem?_replicate]; split <;> rfl
  rw [e]; exact nc (hp.tw i hi).1
theorem s8 {p : Pr} {s : Ps} {hs : List Hd} (hp : fL p) (hh : yd p hs) : yc p (bM p s hs) where
 l := by rw [bM, aJ]
 v := fun i hi => by
  rw [bM, bh hi, ku]
  split
  ·rename_i h; exact hh.v i hi h.2
  ·exact nc (hp.tw i hi).1
theorem zK (p : Pr) (s : Ps) (hs : List Hd) (rs : List Bool) : (aK p s hs rs).fires = e9 p s hs rs := by
 unfold aK; split <;> simp_all
theorem mG (p : Pr) (s : Ps) (hs : List Hd) (rs : List Bool) : (aK p s hs rs).pops.length = p.takes.length := by
 unfold aK; split <;> simp [aJ]
theorem mH (p : Pr) (s : Ps) (hs : List Hd) (rs : List Bool) : (aK p s hs rs).puts.length = p.puts.length := by
 unfold aK; split <;> simp [aJ]
theorem wA {p : Pr} {s : Ps} {d : List Int} {e : Ex} {w : Int} (ho : qe (oM p) p s d) (h : eD (oM p) e = some w) (hd : fc e ≤ 3) : (a5 p s d e).2 = w ∧ dq (a5 p s d e).1 w ∧ am w = true := Ez ho 3 e w hd h
theorem GD {p : Pr} {s : Ps} {d : List Int} (hp : fL p) (hs : nb p s) (hd : yc p d) : nb p (cg p s d) where
 rl := by rw [cg]; simp [aJ]
 rv := fun i hi => by
  rw [cg]; simp only; rw [bh hi]
  have h := hp.rw i hi
  exact (wA (fM hp hs hd) h.2.2.1 h.2.2.2).2.1
 ml := by rw [cg]; simp [aJ]
 mn := fun i hi => by
  rw [cg]; simp only; rw [bh hi, pE]
  split
  ·rw [List.length_set]; exact hs.mn i hi
  ·exact hs.mn i hi
 mv := fun i hi j hj => by
  rw [cg] at hj ⊢; simp only at hj ⊢; rw [bh hi, pE] at hj ⊢
  have h := hp.mw i hi
  split at hj
  ·rename_i he
   rw [if_pos he]
   rw [List.length_set] at hj
   by_cases hm : (Int.tmod (a5 p s d (kt p i).addr).1 (kt p i).words).toNat < (s.mems.getD i []).length
   ·rw [bZ hm]
    split
    ·exact (wA (fM hp hs hd) h.2.2.2.2.1 h.2.2.2.2.2).2.1
    ·exact hs.mv i hi j hj
   ·rw [List.set_eq_of_length_le (by omega)]
    exact hs.mv i hi j hj
  ·rename_i he
   rw [if_neg he]
   exact hs.mv i hi j hj
theorem uj {p : Pr} {s : Ps} {hs : List Hd} {rs : List Bool} (hp : fL p) (hso : nb p s) (hh : yd p hs) : nb p (aK p s hs rs).s := by
 unfold aK
 split
 ·exact GD hp hso (s8 hp hh)
 ·exact hso
theorem wC {p : Pr} {s : Ps} {hs : List Hd} {rs : List Bool} (hp : fL p) (hso : nb p s) (hh : yd p hs) {i : Nat} (hi : i < p.puts.length) (hhas : ((aK p s hs rs).puts.getD i aR).has = true) : dq ((aK p s hs rs).puts.getD i aR).v (qT p i).w := by
 unfold aK at hhas ⊢
 split
 ·rename_i hf
  rw [if_pos hf] at hhas
  simp only at hhas ⊢
  rw [bh hi] at hhas ⊢
  unfold kQ at hhas ⊢
  split
  ·have h := hp.pw i hi
   exact (wA (fM hp hso (s8 hp hh)) h.2.2.1 h.2.2.2).2.1
  ·rename_i hn; rw [if_neg hn] at hhas; cases hhas
 ·rename_i hf
  rw [if_neg hf] at hhas
  simp [List.getD, List.getElem?_replicate, hi] at hhas
end Go.Proofs.YtgmpoenfoacofaaGreat
