/-
  Processes and circuits, plain data: what a process does at a tick, what a circuit does.
-/
import Derived.Test.YtifoecfajmnjjaaGreatQPrG
namespace Go.Proofs.YtifoecfajmnjjaaGreat
open Go.RowKit
set_option linter.unusedVariables false
set_option linter.unusedSimpArgs false
def ao {α : Type} (f : Nat → α) (n : Nat) : List α := (List.range n).map f
theorem wx {α : Type} (f : Nat → α) (n : Nat) : ao f (n + 1) = ao f n ++ [f n] := by simp [ao, List.range_succ]
theorem aN {α : Type} (f : Nat → α) (n : Nat) : (ao f n).length = n := by simp [ao]
theorem bf {α : Type} {f : Nat → α} {n i : Nat} {d : α} (h : i < n) : (ao f n).getD i d = f i := by
 simp [ao, List.getD, List.getElem?_eq_getElem, h]
theorem Ew {α : Type} {f : Nat → α} {n i : Nat} {d : α} (h : n ≤ i) : (ao f n).getD i d = d := by
 rw [List.getD, List.getElem?_eq_none (by rw [aN]; exact h)]; rfl
theorem iK {α : Type} {f g : Nat → α} {n : Nat} (h : ∀ i, i < n → f i = g i) : ao f n = ao g n := by
 unfold ao
 exact List.map_congr_left (fun a ha => h a (List.mem_range.1 ha))
theorem H0 {α : Type} {l : List α} {d : α} : l = ao (fun i => l.getD i d) l.length := by
 apply List.ext_getElem
 ·rw [aN]
 ·intro i h1 h2; simp [ao, List.getD, List.getElem?_eq_getElem h1]
theorem ky {α : Type} {a b : List α} {d : α} (hl : a.length = b.length) (h : ∀ i, i < a.length → a.getD i d = b.getD i d) : a = b := by
 apply List.ext_getElem hl
 intro i h1 h2
 have := h i h1
 simpa [List.getD, List.getElem?_eq_getElem h1, List.getElem?_eq_getElem h2] using this
theorem Ey {α β : Type} {l : List α} {d : α} (f : α → β) : l.map f = ao (fun i => f (l.getD i d)) l.length := by
 apply List.ext_getElem
 ·simp [aN]
 ·intro i h1 h2; rw [List.length_map] at h1; simp [ao, List.getD, List.getElem?_eq_getElem h1]
theorem JL {α : Type} {f : Nat → α} {l : List α} {k : Nat} (hk : k < l.length) : (ao f k ++ l.drop k).set k (f k) = ao f (k + 1) ++ l.drop (k + 1) := by
 rw [List.set_append_right _ _ (by rw [aN]; omega), aN, Nat.sub_self, wx, List.append_assoc]
 congr 1
 rw [List.drop_eq_getElem_cons hk]; rfl
theorem H2 {α : Type} {f : Nat → α} {l : List α} {k : Nat} (hk : l.length ≤ k) : ao f k ++ l.drop k = ao f k := by rw [List.drop_eq_nil_of_le hk, List.append_nil]
theorem b6 {α : Type} {l : List α} {i j : Nat} {x d : α} (h : i < l.length) : (l.set i x).getD j d = if i = j then x else l.getD j d := by
 simp only [List.getD, List.getElem?_set]
 split
 ·rename_i e; subst e; simp [h]
 ·rfl
def eo (f : Nat → Bool) : Nat → Bool
 | 0 => true
 | n + 1 => eo f n && f n
theorem ce {f : Nat → Bool} : ∀ {n : Nat}, eo f n = true ↔ ∀ i, i < n → f i = true
 | 0 => ⟨fun _ i hi => absurd hi (Nat.not_lt_zero _), fun _ => rfl⟩
 | n + 1 => by
  rw [eo, Bool.and_eq_true, ce]
  constructor
  ·rintro ⟨h1, h2⟩ i hi
   rcases Nat.lt_or_ge i n with h | h
   ·exact h1 i h
   ·rw [show i = n by omega]; exact h2
  ·intro h; exact ⟨fun i hi => h i (by omega), h n (by omega)⟩
theorem ie {f : Nat → Bool} {n i : Nat} (hi : i < n) (h : f i = false) : eo f n = false := by
 cases hh : eo f n
 ·rfl
 ·rw [ce.1 hh i hi] at h; cases h
def eT (p : Pr) (s : Ps) (data : List Int) (e : Ex) : Bool := decide ((br p s data e).1 = 1)
def kz (p : Pr) : List Int := List.replicate p.takes.length 0
abbrev nN (p : Pr) (i : Nat) : Tk := p.takes.getD i bM
abbrev uI (p : Pr) (i : Nat) : Pt := p.puts.getD i bj
abbrev F5 (p : Pr) (i : Nat) : Rg := p.regs.getD i ci
abbrev mK (p : Pr) (i : Nat) : Mm := p.mems.getD i a5
def nU (p : Pr) (s : Ps) (hs : List Hd) (i : Nat) : Int := if eT p s (kz p) (nN p i).when = true ∧ (hs.getD i aK).has = true then (hs.getD i aK).v else 0
def cB (p : Pr) (s : Ps) (hs : List Hd) : List Int := ao (nU p s hs) p.takes.length
def s9 (p : Pr) (s : Ps) (data : List Int) (i : Nat) : List Int :=
 if eT p s data (mK p i).enable = true then (s.mems.getD i []).set (Int.tmod (br p s data (mK p i).addr).1 (mK p i).words).toNat (br p s data (mK p i).data).1 else s.mems.getD i []
def db (p : Pr) (s : Ps) (data : List Int) : Ps := ⟨ao (fun i => (br p s data (F5 p i).next).1) p.regs.length, ao (s9 p s data) p.mems.length⟩
def jK (p : Pr) (s : Ps) (hs : List Hd) (i : Nat) : Bool := (hs.getD i aK).has || !eT p s (cB p s hs) (nN p i).when
def lY (p : Pr) (s : Ps) (hs : List Hd) (rs : List Bool) (i : Nat) : Bool := rs.getD i false || !eT p s (cB p s hs) (uI p i).when
def ig (p : Pr) (s : Ps) (hs : List Hd) (rs : List Bool) : Bool := eo (jK p s hs) p.takes.length && eo (lY p s hs rs) p.puts.length
def oG (p : Pr) (s : Ps) (hs : List Hd) (i : Nat) : Bool := eT p s (cB p s hs) (nN p i).when
def oH (p : Pr) (s : Ps) (hs : List Hd) (i : Nat) : Hd := if eT p s (cB p s hs) (uI p i).when = true then ⟨true, (br p s (cB p s hs) (uI p i).data).1⟩ else aK
def aY (p : Pr) (s : Ps) (hs : List Hd) (rs : List Bool) : Fi :=
 if ig p s hs rs = true then ⟨true, db p s (cB p s hs), ao (oG p s hs) p.takes.length, ao (oH p s hs) p.puts.length⟩
 else ⟨false, s, List.replicate p.takes.length false, List.replicate p.puts.length aK⟩
def bg (p : Pr) : Ps := ⟨p.regs.map (·.init), p.mems.map (fun m => List.replicate m.words.toNat 0)⟩
def cS (v w : Int) : Bool := decide (0 ≤ v) && decide (v ≤ ap w)
theorem A8 {v w : Int} : cS v w = true ↔ eF v w := by simp [cS, eF]
def jq (p : Pr) (s : Ps) (i : Nat) : Bool := decide (((s.mems.getD i []).length : Int) = (mK p i).words) && eo (fun j => cS ((s.mems.getD i []).getD j 0) (mK p i).w) (s.mems.getD i []).length
def bO (p : Pr) (s : Ps) : Bool := decide (s.regs.length = p.regs.length) && decide (s.mems.length = p.mems.length) && eo (fun i => cS (s.regs.getD i 0) (F5 p i).w) s.regs.length && eo (jq p s) s.mems.length
def sg (p : Pr) : Sc := ⟨p.regs.map (·.w), p.mems.map (·.w), p.takes.map (·.w)⟩
def O6 (p : Pr) : Sc := ⟨p.regs.map (·.w), p.mems.map (·.w), []⟩
structure iA (p : Pr) : Prop where
 rl : p.regs.length ≤ 100
 ml : p.mems.length ≤ 100
 tl : p.takes.length ≤ 100
 pl : p.puts.length ≤ 100
 rw : ∀ i, i < p.regs.length → aA (F5 p i).w = true ∧ eF (F5 p i).init (F5 p i).w ∧ gi (sg p) (F5 p i).next = some (F5 p i).w ∧ hT (F5 p i).next ≤ 3
 mw : ∀ i, i < p.mems.length → aA (mK p i).w = true ∧ (1 ≤ (mK p i).words ∧ (mK p i).words ≤ 4) ∧ (gi (sg p) (mK p i).enable = some 1 ∧ hT (mK p i).enable ≤ 3) ∧ ((∃ v, gi (sg p) (mK p i).addr = some v) ∧ hT (mK p i).addr ≤ 3) ∧ gi (sg p) (mK p i).data = some (mK p i).w ∧ hT (mK p i).data ≤ 3
 tw : ∀ i, i < p.takes.length → aA (nN p i).w = true ∧ gi (O6 p) (nN p i).when = some 1 ∧ hT (nN p i).when ≤ 3
 pw : ∀ i, i < p.puts.length → aA (uI p i).w = true ∧ (gi (sg p) (uI p i).when = some 1 ∧ hT (uI p i).when ≤ 3) ∧ gi (sg p) (uI p i).data = some (uI p i).w ∧ hT (uI p i).data ≤ 3
structure rb (p : Pr) (s : Ps) : Prop where
 rl : s.regs.length = p.regs.length
 rv : ∀ i, i < p.regs.length → eF (s.regs.getD i 0) (F5 p i).w
 ml : s.mems.length = p.mems.length
 mn : ∀ i, i < p.mems.length → ((s.mems.getD i []).length : Int) = (mK p i).words
 mv : ∀ i, i < p.mems.length → ∀ j, j < (s.mems.getD i []).length → eF ((s.mems.getD i []).getD j 0) (mK p i).w
structure A9 (p : Pr) (d : List Int) : Prop where
 l : d.length = p.takes.length
 v : ∀ i, i < p.takes.length → eF (d.getD i 0) (nN p i).w
structure Ba (p : Pr) (hs : List Hd) : Prop where
 l : hs.length = p.takes.length
 v : ∀ i, i < p.takes.length → (hs.getD i aK).has = true → eF (hs.getD i aK).v (nN p i).w
theorem F6 {p : Pr} {s : Ps} : bO p s = true ↔ rb p s := by
 unfold bO jq
 simp only [Bool.and_eq_true, decide_eq_true_eq, ce, A8]
 constructor
 ·rintro ⟨⟨⟨h1, h2⟩, h3⟩, h4⟩
  exact ⟨h1, fun i hi => h3 i (by omega), h2, fun i hi => (h4 i (by omega)).1, fun i hi => (h4 i (by omega)).2⟩
 ·intro h
  exact ⟨⟨⟨h.rl, h.ml⟩, fun i hi => h.rv i (by have := h.rl; omega)⟩, fun i hi => ⟨h.mn i (by have := h.ml; omega), h.mv i (by have := h.ml; omega)⟩⟩
set_option maxHeartbeats 1600000 in
theorem jf {p : Pr} {s : Ps} {d : List Int} (hp : iA p) (hs : rb p s) (hd : A9 p d) : tL (sg p) p s d where
 prl := by simp [sg]
 prw := fun i hi => by
  have hi' : i < p.regs.length := by simpa [sg] using hi
  show (p.regs.getD i ci).w = (p.regs.map (·.w)).getD i 0
  rw [ez (·.w) p.regs i ci 0 hi']
 pml := by simp [sg]
 pmw := fun i hi => by
  have hi' : i < p.mems.length := by simpa [sg] using hi
  show (p.mems.getD i a5).w = (p.mems.map (·.w)).getD i 0
  rw [ez (·.w) p.mems i a5 0 hi']
 ptl := by simp [sg]
 ptw := fun i hi => by
  have hi' : i < p.takes.length := by simpa [sg] using hi
  show (p.takes.getD i bM).w = (p.takes.map (·.w)).getD i 0
  rw [ez (·.w) p.takes i bM 0 hi']
 srl := (hs.rl).trans (by simp [sg])
 srv := fun i hi => by
  have hi' : i < p.regs.length := by simpa [sg] using hi
  show eF _ ((p.regs.map (·.w)).getD i 0)
  rw [ez (·.w) p.regs i ci 0 hi']
  exact hs.rv i hi'
 sml := (hs.ml).trans (by simp [sg])
 smn := fun i hi => by
  have hi' : i < p.mems.length := by simpa [sg] using hi
  have := hs.mn i hi'
  have := (hp.mw i hi').2.1
  omega
 smv := fun i hi j hj => by
  have hi' : i < p.mems.length := by simpa [sg] using hi
  show eF _ ((p.mems.map (·.w)).getD i 0)
  rw [ez (·.w) p.mems i a5 0 hi']
  exact hs.mv i hi' j hj
 dl := (hd.l).trans (by simp [sg])
 dv := fun i hi => by
  have hi' : i < p.takes.length := by simpa [sg] using hi
  show eF _ ((p.takes.map (·.w)).getD i 0)
  rw [ez (·.w) p.takes i bM 0 hi']
  exact hd.v i hi'
 rok := fun i hi => by
  have hi' : i < p.regs.length := by simpa [sg] using hi
  show aA ((p.regs.map (·.w)).getD i 0) = true
  rw [ez (·.w) p.regs i ci 0 hi']
  exact (hp.rw i hi').1
 mok := fun i hi => by
  have hi' : i < p.mems.length := by simpa [sg] using hi
  show aA ((p.mems.map (·.w)).getD i 0) = true
  rw [ez (·.w) p.mems i a5 0 hi']
  exact (hp.mw i hi').1
 tok := fun i hi => by
  have hi' : i < p.takes.length := by simpa [sg] using hi
  show aA ((p.takes.map (·.w)).getD i 0) = true
  rw [ez (·.w) p.takes i bM 0 hi']
  exact (hp.tw i hi').1
theorem JM {c : Sc} {p : Pr} {s : Ps} (d d' : List Int) : ∀ (n : Nat) (e : Ex) (w : Int), hT e ≤ n → gi ⟨c.rw, c.mw, []⟩ e = some w → gi c e = some w ∧ br p s d e = br p s d' e := by
 intro n
 induction n with
 | zero => intro e w hd; cases e with | mk op name k w args => rw [hT] at hd; omega
 | succ n ih =>
  intro e w hd hty
  obtain ⟨ws, hws, hc⟩ := je hty
  obtain ⟨hl, hget⟩ := mJ hws
  have hargs : ∀ i, i < e.args.length → gi c (e.args.getD i dE) = some (ws.getD i 0) ∧ br p s d (e.args.getD i dE) = br p s d' (e.args.getD i dE) := fun i hi => ih _ _ (by have := Ej hi; omega) (hget i hi)
  have hL : ∀ (l : List Ex) (ws : List Int), ws.length = l.length → (∀ i, i < l.length → gi c (l.getD i dE) = some (ws.getD i 0)) → gi.tyL c l = some ws := by
   intro l
   induction l with
   | nil => intro ws h _; cases ws with | nil => rfl | cons a r => cases h
   | cons a r ihr =>
    intro ws h hh
    cases ws with
    | nil => cases h
    | cons w0 wr =>
     have h0 : gi c a = some w0 := hh 0 (by simp)
     have h1 := ihr wr (by simpa using h) (fun i hi => hh (i + 1) (by simpa using hi))
     rw [gi.tyL, h0, h1]
  have hmap : e.args.map (br p s d) = e.args.map (br p s d') := by
   apply List.map_congr_left
   intro a ha
   obtain ⟨i, hi, rfl⟩ := List.mem_iff_getElem.1 ha
   have := (hargs i hi).2
   simpa [List.getD, List.getElem?_eq_getElem hi] using this
  have hws' := hL e.args ws hl (fun i hi => (hargs i hi).1)
  refine ⟨?_, ?_⟩
  ·cases e with
   | mk op name k w0 args =>
    rw [gi, hws']
    simp only at hc ⊢
    rcases hc with ⟨h1, h2, h3, h4, rfl⟩ | ⟨h1, h2, h3, h4, rfl⟩ | ⟨h1, h2, h3, h4, rfl⟩ | ⟨h1, h2, h2', h3, rfl⟩
    ·rw [if_pos h1, if_pos ⟨h2, h3, h4⟩]
    ·exact absurd h4 (by simp; omega)
    ·rw [if_neg (by omega), if_neg (by omega), if_pos h1, if_pos ⟨h2, h3, h4⟩]
    ·rw [if_neg h1, if_neg h2', if_neg h2, if_pos h3]
  ·rw [ra, ra p s d', hmap]
   have h18 : e.op ≠ 18 := by
    rcases hc with ⟨h1, h2, h3, h4, rfl⟩ | ⟨h1, h2, h3, h4, rfl⟩ | ⟨h1, h2, h3, h4, rfl⟩ | ⟨h1, h2, h2', h3, rfl⟩
    ·omega
    ·exact absurd h4 (by simp; omega)
    ·omega
    ·exact h2'
   rw [if_neg h18, if_neg h18]
theorem j7 {p : Pr} {s : Ps} (hp : iA p) {i : Nat} (hi : i < p.takes.length) (d d' : List Int) : eT p s d (nN p i).when = eT p s d' (nN p i).when ∧ gi (sg p) (nN p i).when = some 1 := by
 obtain ⟨h1, h2, h3⟩ := hp.tw i hi
 have h := JM (c := sg p) (p := p) (s := s) d d' 3 _ 1 h3 h2
 exact ⟨by unfold eT; rw [h.2], h.1⟩
theorem rc {w : Int} (h : aA w = true) : eF 0 w := by
 have := bc.1 h
 exact ⟨by omega, (aE (by omega) (by omega)).1⟩
theorem KA {p : Pr} (hp : iA p) : A9 p (kz p) where
 l := by simp [kz]
 v := fun i hi => by
  have e : (kz p).getD i 0 = 0 := by simp [kz, List.getD, List.getElem?_replicate]; split <;> rfl
  rw [e]; exact rc (hp.tw i hi).1
theorem wy {p : Pr} {s : Ps} {hs : List Hd} (hp : iA p) (hh : Ba p hs) : A9 p (cB p s hs) where
 l := by rw [cB, aN]
 v := fun i hi => by
  rw [cB, bf hi, nU]
  split
  ·rename_i h; exact hh.v i hi h.2
  ·exact rc (hp.tw i hi).1
theorem C3 (p : Pr) (s : Ps) (hs : List Hd) (rs : List Bool) : (aY p s hs rs).fires = ig p s hs rs := by
 unfold aY; split <;> simp_all
theorem eZ (p : Pr) (s : Ps) (hs : List Hd) (rs : List Bool) : (aY p s hs rs).pops.length = p.takes.length := by
 unfold aY; split <;> simp [aN]
theorem e7 (p : Pr) (s : Ps) (hs : List Hd) (rs : List Bool) : (aY p s hs rs).puts.length = p.puts.length := by
 unfold aY; split <;> simp [aN]
theorem zE {p : Pr} {s : Ps} {d : List Int} {e : Ex} {w : Int} (ho : tL (sg p) p s d) (h : gi (sg p) e = some w) (hd : hT e ≤ 3) : (br p s d e).2 = w ∧ eF (br p s d e).1 w ∧ aA w = true := HL ho 3 e w hd h
theorem JN {p : Pr} {s : Ps} {d : List Int} (hp : iA p) (hs : rb p s) (hd : A9 p d) : rb p (db p s d) where
 rl := by rw [db]; simp [aN]
 rv := fun i hi => by
  rw [db]; simp only; rw [bf hi]
  have h := hp.rw i hi
  exact (zE (jf hp hs hd) h.2.2.1 h.2.2.2).2.1
 ml := by rw [db]; simp [aN]
 mn := fun i hi => by
  rw [db]; simp only; rw [bf hi, s9]
  split
  ·rw [List.length_set]; exact hs.mn i hi
  ·exact hs.mn i hi
 mv := fun i hi j hj => by
  rw [db] at hj ⊢; simp only at hj ⊢; rw [bf hi, s9] at hj ⊢
  have h := hp.mw i hi
  split at hj
  ·rename_i he
   rw [if_pos he]
   rw [List.length_set] at hj
   by_cases hm : (Int.tmod (br p s d (mK p i).addr).1 (mK p i).words).toNat < (s.mems.getD i []).length
   ·rw [b6 hm]
    split
    ·exact (zE (jf hp hs hd) h.2.2.2.2.1 h.2.2.2.2.2).2.1
    ·exact hs.mv i hi j hj
   ·rw [List.set_eq_of_length_le (by omega)]
    exact hs.mv i hi j hj
  ·rename_i he
   rw [if_neg he]
   exact hs.mv i hi j hj
theorem qF {p : Pr} {s : Ps} {hs : List Hd} {rs : List Bool} (hp : iA p) (hso : rb p s) (hh : Ba p hs) : rb p (aY p s hs rs).s := by
 unfold aY
 split
 ·exact JN hp hso (wy hp hh)
 ·exact hso
theorem zF {p : Pr} {s : Ps} {hs : List Hd} {rs : List Bool} (hp : iA p) (hso : rb p s) (hh : Ba p hs) {i : Nat} (hi : i < p.puts.length) (hhas : ((aY p s hs rs).puts.getD i aK).has = true) : eF ((aY p s hs rs).puts.getD i aK).v (uI p i).w := by
 unfold aY at hhas ⊢
 split
 ·rename_i hf
  rw [if_pos hf] at hhas
  simp only at hhas ⊢
  rw [bf hi] at hhas ⊢
  unfold oH at hhas ⊢
  split
  ·have h := hp.pw i hi
   exact (zE (jf hp hso (wy hp hh)) h.2.2.1 h.2.2.2).2.1
  ·rename_i hn; rw [if_neg hn] at hhas; cases hhas
 ·rename_i hf
  rw [if_neg hf] at hhas
  simp [List.getD, List.getElem?_replicate, hi] at hhas
end Go.Proofs.YtifoecfajmnjjaaGreat
