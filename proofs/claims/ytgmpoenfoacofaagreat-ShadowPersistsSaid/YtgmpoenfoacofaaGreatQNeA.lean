/-
  Processes and circuits, plain data: what a process does at a tick, what a circuit does.
-/
import Derived.Test.YtgmpoenfoacofaaGreatQPrG
namespace Go.Proofs.YtgmpoenfoacofaaGreat
open Go.RowKit
set_option linter.unusedVariables false
set_option linter.unusedSimpArgs false
def tab {α : Type} (f : Nat → α) (n : Nat) : List α := (List.range n).map f
theorem u3 {α : Type} (f : Nat → α) (n : Nat) : tab f (n + 1) = tab f n ++ [f n] := by simp [tab, List.range_succ]
theorem aR {α : Type} (f : Nat → α) (n : Nat) : (tab f n).length = n := by simp [tab]
theorem bn {α : Type} {f : Nat → α} {n i : Nat} {d : α} (h : i < n) : (tab f n).getD i d = f i := by
 simp [tab, List.getD, List.getElem?_eq_getElem, h]
theorem CV {α : Type} {f : Nat → α} {n i : Nat} {d : α} (h : n ≤ i) : (tab f n).getD i d = d := by
 rw [List.getD, List.getElem?_eq_none (by rw [aR]; exact h)]; rfl
theorem ie {α : Type} {f g : Nat → α} {n : Nat} (h : ∀ i, i < n → f i = g i) : tab f n = tab g n := by
 unfold tab
 exact List.map_congr_left (fun a ha => h a (List.mem_range.1 ha))
theorem GF {α : Type} {l : List α} {d : α} : l = tab (fun i => l.getD i d) l.length := by
 apply List.ext_getElem
 ·rw [aR]
 ·intro i h1 h2; simp [tab, List.getD, List.getElem?_eq_getElem h1]
theorem jX {α : Type} {a b : List α} {d : α} (hl : a.length = b.length) (h : ∀ i, i < a.length → a.getD i d = b.getD i d) : a = b := by
 apply List.ext_getElem hl
 intro i h1 h2
 have := h i h1
 simpa [List.getD, List.getElem?_eq_getElem h1, List.getElem?_eq_getElem h2] using this
theorem CW {α β : Type} {l : List α} {d : α} (f : α → β) : l.map f = tab (fun i => f (l.getD i d)) l.length := by
 apply List.ext_getElem
 ·simp [aR]
 ·intro i h1 h2; rw [List.length_map] at h1; simp [tab, List.getD, List.getElem?_eq_getElem h1]
theorem Io {α : Type} {f : Nat → α} {l : List α} {k : Nat} (hk : k < l.length) : (tab f k ++ l.drop k).set k (f k) = tab f (k + 1) ++ l.drop (k + 1) := by
 rw [List.set_append_right _ _ (by rw [aR]; omega), aR, Nat.sub_self, u3, List.append_assoc]
 congr 1
 rw [List.drop_eq_getElem_cons hk]; rfl
theorem GG {α : Type} {f : Nat → α} {l : List α} {k : Nat} (hk : l.length ≤ k) : tab f k ++ l.drop k = tab f k := by rw [List.drop_eq_nil_of_le hk, List.append_nil]
theorem ce {α : Type} {l : List α} {i j : Nat} {x d : α} (h : i < l.length) : (l.set i x).getD j d = if i = j then x else l.getD j d := by
 simp only [List.getD, List.getElem?_set]
 split
 ·rename_i e; subst e; simp [h]
 ·rfl
def ct (f : Nat → Bool) : Nat → Bool
 | 0 => true
 | n + 1 => ct f n && f n
theorem bi {f : Nat → Bool} : ∀ {n : Nat}, ct f n = true ↔ ∀ i, i < n → f i = true
 | 0 => ⟨fun _ i hi => absurd hi (Nat.not_lt_zero _), fun _ => rfl⟩
 | n + 1 => by
  rw [ct, Bool.and_eq_true, bi]
  constructor
  ·rintro ⟨h1, h2⟩ i hi
   rcases Nat.lt_or_ge i n with h | h
   ·exact h1 i h
   ·rw [show i = n by omega]; exact h2
  ·intro h; exact ⟨fun i hi => h i (by omega), h n (by omega)⟩
theorem fx {f : Nat → Bool} {n i : Nat} (hi : i < n) (h : f i = false) : ct f n = false := by
 cases hh : ct f n
 ·rfl
 ·rw [bi.1 hh i hi] at h; cases h
def dM (p : Pr) (s : Ps) (data : List Int) (e : Ex) : Bool := decide ((a8 p s data e).1 = 1)
def iL (p : Pr) : List Int := List.replicate p.takes.length 0
abbrev lz (p : Pr) (i : Nat) : Tk := p.takes.getD i bK
abbrev sB (p : Pr) (i : Nat) : Pt := p.puts.getD i bp
abbrev ED (p : Pr) (i : Nat) : Rg := p.regs.getD i bJ
abbrev lA (p : Pr) (i : Nat) : Mm := p.mems.getD i aK
def lG (p : Pr) (s : Ps) (hs : List Hd) (i : Nat) : Int := if dM p s (iL p) (lz p i).when = true ∧ (hs.getD i aW).has = true then (hs.getD i aW).v else 0
def bO (p : Pr) (s : Ps) (hs : List Hd) : List Int := tab (lG p s hs) p.takes.length
def qY (p : Pr) (s : Ps) (data : List Int) (i : Nat) : List Int :=
 if dM p s data (lA p i).enable = true then (s.mems.getD i []).set (Int.tmod (a8 p s data (lA p i).addr).1 (lA p i).words).toNat (a8 p s data (lA p i).data).1 else s.mems.getD i []
def co (p : Pr) (s : Ps) (data : List Int) : Ps := ⟨tab (fun i => (a8 p s data (ED p i).next).1) p.regs.length, tab (qY p s data) p.mems.length⟩
def hE (p : Pr) (s : Ps) (hs : List Hd) (i : Nat) : Bool := (hs.getD i aW).has || !dM p s (bO p s hs) (lz p i).when
def jY (p : Pr) (s : Ps) (hs : List Hd) (rs : List Bool) (i : Nat) : Bool := rs.getD i false || !dM p s (bO p s hs) (sB p i).when
def fy (p : Pr) (s : Ps) (hs : List Hd) (rs : List Bool) : Bool := ct (hE p s hs) p.takes.length && ct (jY p s hs rs) p.puts.length
def l6 (p : Pr) (s : Ps) (hs : List Hd) (i : Nat) : Bool := dM p s (bO p s hs) (lz p i).when
def l7 (p : Pr) (s : Ps) (hs : List Hd) (i : Nat) : Hd := if dM p s (bO p s hs) (sB p i).when = true then ⟨true, (a8 p s (bO p s hs) (sB p i).data).1⟩ else aW
def aM (p : Pr) (s : Ps) (hs : List Hd) (rs : List Bool) : Fi :=
 if fy p s hs rs = true then ⟨true, co p s (bO p s hs), tab (l6 p s hs) p.takes.length, tab (l7 p s hs) p.puts.length⟩
 else ⟨false, s, List.replicate p.takes.length false, List.replicate p.puts.length aW⟩
def aV (p : Pr) : Ps := ⟨p.regs.map (·.init), p.mems.map (fun m => List.replicate m.words.toNat 0)⟩
def cT (v w : Int) : Bool := decide (0 ≤ v) && decide (v ≤ ah w)
theorem z4 {v w : Int} : cT v w = true ↔ dq v w := by simp [cT, dq]
def iM (p : Pr) (s : Ps) (i : Nat) : Bool := decide (((s.mems.getD i []).length : Int) = (lA p i).words) && ct (fun j => cT ((s.mems.getD i []).getD j 0) (lA p i).w) (s.mems.getD i []).length
def bW (p : Pr) (s : Ps) : Bool := decide (s.regs.length = p.regs.length) && decide (s.mems.length = p.mems.length) && ct (fun i => cT (s.regs.getD i 0) (ED p i).w) s.regs.length && ct (iM p s) s.mems.length
def qf (p : Pr) : Sc := ⟨p.regs.map (·.w), p.mems.map (·.w), p.takes.map (·.w)⟩
def NX (p : Pr) : Sc := ⟨p.regs.map (·.w), p.mems.map (·.w), []⟩
structure gm (p : Pr) : Prop where
 rl : p.regs.length ≤ 100
 ml : p.mems.length ≤ 100
 tl : p.takes.length ≤ 100
 pl : p.puts.length ≤ 100
 rw : ∀ i, i < p.regs.length → ao (ED p i).w = true ∧ dq (ED p i).init (ED p i).w ∧ eT (qf p) (ED p i).next = some (ED p i).w ∧ fF (ED p i).next ≤ 3
 mw : ∀ i, i < p.mems.length → ao (lA p i).w = true ∧ (1 ≤ (lA p i).words ∧ (lA p i).words ≤ 4) ∧ (eT (qf p) (lA p i).enable = some 1 ∧ fF (lA p i).enable ≤ 3) ∧ ((∃ v, eT (qf p) (lA p i).addr = some v) ∧ fF (lA p i).addr ≤ 3) ∧ eT (qf p) (lA p i).data = some (lA p i).w ∧ fF (lA p i).data ≤ 3
 tw : ∀ i, i < p.takes.length → ao (lz p i).w = true ∧ eT (NX p) (lz p i).when = some 1 ∧ fF (lz p i).when ≤ 3
 pw : ∀ i, i < p.puts.length → ao (sB p i).w = true ∧ (eT (qf p) (sB p i).when = some 1 ∧ fF (sB p i).when ≤ 3) ∧ eT (qf p) (sB p i).data = some (sB p i).w ∧ fF (sB p i).data ≤ 3
structure oZ (p : Pr) (s : Ps) : Prop where
 rl : s.regs.length = p.regs.length
 rv : ∀ i, i < p.regs.length → dq (s.regs.getD i 0) (ED p i).w
 ml : s.mems.length = p.mems.length
 mn : ∀ i, i < p.mems.length → ((s.mems.getD i []).length : Int) = (lA p i).words
 mv : ∀ i, i < p.mems.length → ∀ j, j < (s.mems.getD i []).length → dq ((s.mems.getD i []).getD j 0) (lA p i).w
structure z5 (p : Pr) (d : List Int) : Prop where
 l : d.length = p.takes.length
 v : ∀ i, i < p.takes.length → dq (d.getD i 0) (lz p i).w
structure z6 (p : Pr) (hs : List Hd) : Prop where
 l : hs.length = p.takes.length
 v : ∀ i, i < p.takes.length → (hs.getD i aW).has = true → dq (hs.getD i aW).v (lz p i).w
theorem EE {p : Pr} {s : Ps} : bW p s = true ↔ oZ p s := by
 unfold bW iM
 simp only [Bool.and_eq_true, decide_eq_true_eq, bi, z4]
 constructor
 ·rintro ⟨⟨⟨h1, h2⟩, h3⟩, h4⟩
  exact ⟨h1, fun i hi => h3 i (by omega), h2, fun i hi => (h4 i (by omega)).1, fun i hi => (h4 i (by omega)).2⟩
 ·intro h
  exact ⟨⟨⟨h.rl, h.ml⟩, fun i hi => h.rv i (by have := h.rl; omega)⟩, fun i hi => ⟨h.mn i (by have := h.ml; omega), h.mv i (by have := h.ml; omega)⟩⟩
set_option maxHeartbeats 1600000 in
theorem gr {p : Pr} {s : Ps} {d : List Int} (hp : gm p) (hs : oZ p s) (hd : z5 p d) : rL (qf p) p s d where
 prl := by simp [qf]
 prw := fun i hi => by
  have hi' : i < p.regs.length := by simpa [qf] using hi
  show (p.regs.getD i bJ).w = (p.regs.map (·.w)).getD i 0
  rw [dj (·.w) p.regs i bJ 0 hi']
 pml := by simp [qf]
 pmw := fun i hi => by
  have hi' : i < p.mems.length := by simpa [qf] using hi
  show (p.mems.getD i aK).w = (p.mems.map (·.w)).getD i 0
  rw [dj (·.w) p.mems i aK 0 hi']
 ptl := by simp [qf]
 ptw := fun i hi => by
  have hi' : i < p.takes.length := by simpa [qf] using hi
  show (p.takes.getD i bK).w = (p.takes.map (·.w)).getD i 0
  rw [dj (·.w) p.takes i bK 0 hi']
 srl := (hs.rl).trans (by simp [qf])
 srv := fun i hi => by
  have hi' : i < p.regs.length := by simpa [qf] using hi
  show dq _ ((p.regs.map (·.w)).getD i 0)
  rw [dj (·.w) p.regs i bJ 0 hi']
  exact hs.rv i hi'
 sml := (hs.ml).trans (by simp [qf])
 smn := fun i hi => by
  have hi' : i < p.mems.length := by simpa [qf] using hi
  have := hs.mn i hi'
  have := (hp.mw i hi').2.1
  omega
 smv := fun i hi j hj => by
  have hi' : i < p.mems.length := by simpa [qf] using hi
  show dq _ ((p.mems.map (·.w)).getD i 0)
  rw [dj (·.w) p.mems i aK 0 hi']
  exact hs.mv i hi' j hj
 dl := (hd.l).trans (by simp [qf])
 dv := fun i hi => by
  have hi' : i < p.takes.length := by simpa [qf] using hi
  show dq _ ((p.takes.map (·.w)).getD i 0)
  rw [dj (·.w) p.takes i bK 0 hi']
  exact hd.v i hi'
 rok := fun i hi => by
  have hi' : i < p.regs.length := by simpa [qf] using hi
  show ao ((p.regs.map (·.w)).getD i 0) = true
  rw [dj (·.w) p.regs i bJ 0 hi']
  exact (hp.rw i hi').1
 mok := fun i hi => by
  have hi' : i < p.mems.length := by simpa [qf] using hi
  show ao ((p.mems.map (·.w)).getD i 0) = true
  rw [dj (·.w) p.mems i aK 0 hi']
  exact (hp.mw i hi').1
 tok := fun i hi => by
  have hi' : i < p.takes.length := by simpa [qf] using hi
  show ao ((p.takes.map (·.w)).getD i 0) = true
  rw [dj (·.w) p.takes i bK 0 hi']
  exact (hp.tw i hi').1
theorem Ip {c : Sc} {p : Pr} {s : Ps} (d d' : List Int) : ∀ (n : Nat) (e : Ex) (w : Int), fF e ≤ n → eT ⟨c.rw, c.mw, []⟩ e = some w → eT c e = some w ∧ a8 p s d e = a8 p s d' e := by
 intro n
 induction n with
 | zero => intro e w hd; cases e with | mk op name k w args => rw [fF] at hd; omega
 | succ n ih =>
  intro e w hd hty
  obtain ⟨ws, hws, hc⟩ := gk hty
  obtain ⟨hl, hget⟩ := kL hws
  have hargs : ∀ i, i < e.args.length → eT c (e.args.getD i dE) = some (ws.getD i 0) ∧ a8 p s d (e.args.getD i dE) = a8 p s d' (e.args.getD i dE) := fun i hi => ih _ _ (by have := CH hi; omega) (hget i hi)
  have hL : ∀ (l : List Ex) (ws : List Int), ws.length = l.length → (∀ i, i < l.length → eT c (l.getD i dE) = some (ws.getD i 0)) → eT.tyL c l = some ws := by
   intro l
   induction l with
   | nil => intro ws h _; cases ws with | nil => rfl | cons a r => cases h
   | cons a r ihr =>
    intro ws h hh
    cases ws with
    | nil => cases h
    | cons w0 wr =>
     have h0 : eT c a = some w0 := hh 0 (by simp)
     have h1 := ihr wr (by simpa using h) (fun i hi => hh (i + 1) (by simpa using hi))
     rw [eT.tyL, h0, h1]
  have hmap : e.args.map (a8 p s d) = e.args.map (a8 p s d') := by
   apply List.map_congr_left
   intro a ha
   obtain ⟨i, hi, rfl⟩ := List.mem_iff_getElem.1 ha
   have := (hargs i hi).2
   simpa [List.getD, List.getElem?_eq_getElem hi] using this
  have hws' := hL e.args ws hl (fun i hi => (hargs i hi).1)
  refine ⟨?_, ?_⟩
  ·cases e with
   | mk op name k w0 args =>
    rw [eT, hws']
    simp only at hc ⊢
    rcases hc with ⟨h1, h2, h3, h4, rfl⟩ | ⟨h1, h2, h3, h4, rfl⟩ | ⟨h1, h2, h3, h4, rfl⟩ | ⟨h1, h2, h2', h3, rfl⟩
    ·rw [if_pos h1, if_pos ⟨h2, h3, h4⟩]
    ·exact absurd h4 (by simp; omega)
    ·rw [if_neg (by omega), if_neg (by omega), if_pos h1, if_pos ⟨h2, h3, h4⟩]
    ·rw [if_neg h1, if_neg h2', if_neg h2, if_pos h3]
  ·rw [oY, oY p s d', hmap]
   have h18 : e.op ≠ 18 := by
    rcases hc with ⟨h1, h2, h3, h4, rfl⟩ | ⟨h1, h2, h3, h4, rfl⟩ | ⟨h1, h2, h3, h4, rfl⟩ | ⟨h1, h2, h2', h3, rfl⟩
    ·omega
    ·exact absurd h4 (by simp; omega)
    ·omega
    ·exact h2'
   rw [if_neg h18, if_neg h18]
theorem ig {p : Pr} {s : Ps} (hp : gm p) {i : Nat} (hi : i < p.takes.length) (d d' : List Int) : dM p s d (lz p i).when = dM p s d' (lz p i).when ∧ eT (qf p) (lz p i).when = some 1 := by
 obtain ⟨h1, h2, h3⟩ := hp.tw i hi
 have h := Ip (c := qf p) (p := p) (s := s) d d' 3 _ 1 h3 h2
 exact ⟨by unfold dM; rw [h.2], h.1⟩
theorem o0 {w : Int} (h : ao w = true) : dq 0 w := by
 have := aU.1 h
 exact ⟨by omega, (au (by omega) (by omega)).1⟩
theorem JB {p : Pr} (hp : gm p) : z5 p (iL p) where
 l := by simp [iL]
 v := fun i hi => by
  have e : (iL p).getD i 0 = 0 := by simp [iL, List.getD, List.getElem?_replicate]; split <;> rfl
  rw [e]; exact o0 (hp.tw i hi).1
theorem u4 {p : Pr} {s : Ps} {hs : List Hd} (hp : gm p) (hh : z6 p hs) : z5 p (bO p s hs) where
 l := by rw [bO, aR]
 v := fun i hi => by
  rw [bO, bn hi, lG]
  split
  ·rename_i h; exact hh.v i hi h.2
  ·exact o0 (hp.tw i hi).1
theorem Bz (p : Pr) (s : Ps) (hs : List Hd) (rs : List Bool) : (aM p s hs rs).fires = fy p s hs rs := by
 unfold aM; split <;> simp_all
theorem ow (p : Pr) (s : Ps) (hs : List Hd) (rs : List Bool) : (aM p s hs rs).pops.length = p.takes.length := by
 unfold aM; split <;> simp [aR]
theorem oz (p : Pr) (s : Ps) (hs : List Hd) (rs : List Bool) : (aM p s hs rs).puts.length = p.puts.length := by
 unfold aM; split <;> simp [aR]
theorem yq {p : Pr} {s : Ps} {d : List Int} {e : Ex} {w : Int} (ho : rL (qf p) p s d) (h : eT (qf p) e = some w) (hd : fF e ≤ 3) : (a8 p s d e).2 = w ∧ dq (a8 p s d e).1 w ∧ ao w = true := Gp ho 3 e w hd h
theorem Iq {p : Pr} {s : Ps} {d : List Int} (hp : gm p) (hs : oZ p s) (hd : z5 p d) : oZ p (co p s d) where
 rl := by rw [co]; simp [aR]
 rv := fun i hi => by
  rw [co]; simp only; rw [bn hi]
  have h := hp.rw i hi
  exact (yq (gr hp hs hd) h.2.2.1 h.2.2.2).2.1
 ml := by rw [co]; simp [aR]
 mn := fun i hi => by
  rw [co]; simp only; rw [bn hi, qY]
  split
  ·rw [List.length_set]; exact hs.mn i hi
  ·exact hs.mn i hi
 mv := fun i hi j hj => by
  rw [co] at hj ⊢; simp only at hj ⊢; rw [bn hi, qY] at hj ⊢
  have h := hp.mw i hi
  split at hj
  ·rename_i he
   rw [if_pos he]
   rw [List.length_set] at hj
   by_cases hm : (Int.tmod (a8 p s d (lA p i).addr).1 (lA p i).words).toNat < (s.mems.getD i []).length
   ·rw [ce hm]
    split
    ·exact (yq (gr hp hs hd) h.2.2.2.2.1 h.2.2.2.2.2).2.1
    ·exact hs.mv i hi j hj
   ·rw [List.set_eq_of_length_le (by omega)]
    exact hs.mv i hi j hj
  ·rename_i he
   rw [if_neg he]
   exact hs.mv i hi j hj
theorem wh {p : Pr} {s : Ps} {hs : List Hd} {rs : List Bool} (hp : gm p) (hso : oZ p s) (hh : z6 p hs) : oZ p (aM p s hs rs).s := by
 unfold aM
 split
 ·exact Iq hp hso (u4 hp hh)
 ·exact hso
theorem yr {p : Pr} {s : Ps} {hs : List Hd} {rs : List Bool} (hp : gm p) (hso : oZ p s) (hh : z6 p hs) {i : Nat} (hi : i < p.puts.length) (hhas : ((aM p s hs rs).puts.getD i aW).has = true) : dq ((aM p s hs rs).puts.getD i aW).v (sB p i).w := by
 unfold aM at hhas ⊢
 split
 ·rename_i hf
  rw [if_pos hf] at hhas
  simp only at hhas ⊢
  rw [bn hi] at hhas ⊢
  unfold l7 at hhas ⊢
  split
  ·have h := hp.pw i hi
   exact (yq (gr hp hso (u4 hp hh)) h.2.2.1 h.2.2.2).2.1
  ·rename_i hn; rw [if_neg hn] at hhas; cases hhas
 ·rename_i hf
  rw [if_neg hf] at hhas
  simp [List.getD, List.getElem?_replicate, hi] at hhas
end Go.Proofs.YtgmpoenfoacofaaGreat
