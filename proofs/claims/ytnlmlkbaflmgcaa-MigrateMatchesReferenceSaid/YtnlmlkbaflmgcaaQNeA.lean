/-
  Processes and circuits, plain data: what a process does at a tick, what a circuit does.
-/
import Derived.Test.YtnlmlkbaflmgcaaQPrG
namespace Go.Proofs.Ytnlmlkbaflmgcaa
open Go.RowKit
set_option linter.unusedVariables false
set_option linter.unusedSimpArgs false
def tab {α : Type} (f : Nat → α) (n : Nat) : List α := (List.range n).map f
theorem rU {α : Type} (f : Nat → α) (n : Nat) : tab f (n + 1) = tab f n ++ [f n] := by simp [tab, List.range_succ]
theorem aL {α : Type} (f : Nat → α) (n : Nat) : (tab f n).length = n := by simp [tab]
theorem aY {α : Type} {f : Nat → α} {n i : Nat} {d : α} (h : i < n) : (tab f n).getD i d = f i := by
 simp [tab, List.getD, List.getElem?_eq_getElem, h]
theorem qE {α : Type} {f : Nat → α} {n i : Nat} {d : α} (h : n ≤ i) : (tab f n).getD i d = d := by
 rw [List.getD, List.getElem?_eq_none (by rw [aL]; exact h)]; rfl
theorem eW {α : Type} {f g : Nat → α} {n : Nat} (h : ∀ i, i < n → f i = g i) : tab f n = tab g n := by
 unfold tab
 exact List.map_congr_left (fun a ha => h a (List.mem_range.1 ha))
theorem kU {α : Type} {a b : List α} {d : α} (hl : a.length = b.length) (h : ∀ i, i < a.length → a.getD i d = b.getD i d) : a = b := by
 apply List.ext_getElem hl
 intro i h1 h2
 have := h i h1
 simpa [List.getD, List.getElem?_eq_getElem h1, List.getElem?_eq_getElem h2] using this
theorem zR {α β : Type} {l : List α} {d : α} (f : α → β) : l.map f = tab (fun i => f (l.getD i d)) l.length := by
 apply List.ext_getElem
 ·simp [aL]
 ·intro i h1 h2; rw [List.length_map] at h1; simp [tab, List.getD, List.getElem?_eq_getElem h1]
theorem FH {α : Type} {f : Nat → α} {l : List α} {k : Nat} (hk : k < l.length) : (tab f k ++ l.drop k).set k (f k) = tab f (k + 1) ++ l.drop (k + 1) := by
 rw [List.set_append_right _ _ (by rw [aL]; omega), aL, Nat.sub_self, rU, List.append_assoc]
 congr 1
 rw [List.drop_eq_getElem_cons hk]; rfl
theorem Dn {α : Type} {f : Nat → α} {l : List α} {k : Nat} (hk : l.length ≤ k) : tab f k ++ l.drop k = tab f k := by rw [List.drop_eq_nil_of_le hk, List.append_nil]
theorem fP {α : Type} {l : List α} {i j : Nat} {x d : α} (h : i < l.length) : (l.set i x).getD j d = if i = j then x else l.getD j d := by
 simp only [List.getD, List.getElem?_set]
 split
 ·rename_i e; subst e; simp [h]
 ·rfl
def cJ (f : Nat → Bool) : Nat → Bool
 | 0 => true
 | n + 1 => cJ f n && f n
theorem bh {f : Nat → Bool} : ∀ {n : Nat}, cJ f n = true ↔ ∀ i, i < n → f i = true
 | 0 => ⟨fun _ i hi => absurd hi (Nat.not_lt_zero _), fun _ => rfl⟩
 | n + 1 => by
  rw [cJ, Bool.and_eq_true, bh]
  constructor
  ·rintro ⟨h1, h2⟩ i hi
   rcases Nat.lt_or_ge i n with h | h
   ·exact h1 i h
   ·rw [show i = n by omega]; exact h2
  ·intro h; exact ⟨fun i hi => h i (by omega), h n (by omega)⟩
theorem dC {f : Nat → Bool} {n i : Nat} (hi : i < n) (h : f i = false) : cJ f n = false := by
 cases hh : cJ f n
 ·rfl
 ·rw [bh.1 hh i hi] at h; cases h
theorem jW {f g : Nat → Bool} {n : Nat} (h : ∀ i, i < n → f i = g i) : cJ f n = cJ g n := by
 induction n with
 | zero => rfl
 | succ n ih => rw [cJ, cJ, ih (fun i hi => h i (by omega)), h n (by omega)]
def fa (p : Pr) (s : Ps) (data : List Int) (e : Ex) : Bool := decide ((bx p s data e).1 = 1)
def mN (p : Pr) : List Int := List.replicate p.takes.length 0
abbrev mu (p : Pr) (i : Nat) : Tk := p.takes.getD i bB
abbrev pz (p : Pr) (i : Nat) : Pt := p.puts.getD i bK
abbrev Dp (p : Pr) (i : Nat) : Rg := p.regs.getD i aC
abbrev jX (p : Pr) (i : Nat) : Mm := p.mems.getD i au
def Bw (p : Pr) (s : Ps) (hs : List Hd) (i : Nat) : Int := if fa p s (mN p) (mu p i).when = true ∧ (hs.getD i cG).has = true then (hs.getD i cG).v else 0
def bN (p : Pr) (s : Ps) (hs : List Hd) : List Int := tab (Bw p s hs) p.takes.length
def xM (p : Pr) (s : Ps) (data : List Int) (i : Nat) : List Int :=
 if fa p s data (jX p i).enable = true then (s.mems.getD i []).set (Int.tmod (bx p s data (jX p i).addr).1 (jX p i).words).toNat (bx p s data (jX p i).data).1 else s.mems.getD i []
def dP (p : Pr) (s : Ps) (data : List Int) : Ps := ⟨tab (fun i => (bx p s data (Dp p i).next).1) p.regs.length, tab (xM p s data) p.mems.length⟩
def rV (p : Pr) (s : Ps) (hs : List Hd) (i : Nat) : Bool := (hs.getD i cG).has || !fa p s (bN p s hs) (mu p i).when
def rX (p : Pr) (s : Ps) (hs : List Hd) (rs : List Bool) (i : Nat) : Bool := rs.getD i false || !fa p s (bN p s hs) (pz p i).when
def il (p : Pr) (s : Ps) (hs : List Hd) (rs : List Bool) : Bool := cJ (rV p s hs) p.takes.length && cJ (rX p s hs rs) p.puts.length
def Dq (p : Pr) (s : Ps) (hs : List Hd) (i : Nat) : Bool := fa p s (bN p s hs) (mu p i).when
def Bx (p : Pr) (s : Ps) (hs : List Hd) (i : Nat) : Hd := if fa p s (bN p s hs) (pz p i).when = true then ⟨true, (bx p s (bN p s hs) (pz p i).data).1⟩ else cG
def bi (p : Pr) (s : Ps) (hs : List Hd) (rs : List Bool) : Fi :=
 if il p s hs rs = true then ⟨true, dP p s (bN p s hs), tab (Dq p s hs) p.takes.length, tab (Bx p s hs) p.puts.length⟩
 else ⟨false, s, List.replicate p.takes.length false, List.replicate p.puts.length cG⟩
def bo (p : Pr) : Ps := ⟨p.regs.map (·.init), p.mems.map (fun m => List.replicate m.words.toNat 0)⟩
def lK (p : Pr) : Sc := ⟨p.regs.map (·.w), p.mems.map (·.w), p.takes.map (·.w)⟩
def HH (p : Pr) : Sc := ⟨p.regs.map (·.w), p.mems.map (·.w), []⟩
structure im (p : Pr) : Prop where
 rl : p.regs.length ≤ 100
 ml : p.mems.length ≤ 100
 tl : p.takes.length ≤ 100
 pl : p.puts.length ≤ 100
 rw : ∀ i, i < p.regs.length → aI (Dp p i).w = true ∧ dG (Dp p i).init (Dp p i).w ∧ dA (lK p) (Dp p i).next = some (Dp p i).w ∧ eI (Dp p i).next ≤ 3
 mw : ∀ i, i < p.mems.length → aI (jX p i).w = true ∧ (1 ≤ (jX p i).words ∧ (jX p i).words ≤ 4) ∧ (dA (lK p) (jX p i).enable = some 1 ∧ eI (jX p i).enable ≤ 3) ∧ ((∃ v, dA (lK p) (jX p i).addr = some v) ∧ eI (jX p i).addr ≤ 3) ∧ dA (lK p) (jX p i).data = some (jX p i).w ∧ eI (jX p i).data ≤ 3
 tw : ∀ i, i < p.takes.length → aI (mu p i).w = true ∧ dA (HH p) (mu p i).when = some 1 ∧ eI (mu p i).when ≤ 3
 pw : ∀ i, i < p.puts.length → aI (pz p i).w = true ∧ (dA (lK p) (pz p i).when = some 1 ∧ eI (pz p i).when ≤ 3) ∧ dA (lK p) (pz p i).data = some (pz p i).w ∧ eI (pz p i).data ≤ 3
structure pA (p : Pr) (s : Ps) : Prop where
 rl : s.regs.length = p.regs.length
 rv : ∀ i, i < p.regs.length → dG (s.regs.getD i 0) (Dp p i).w
 ml : s.mems.length = p.mems.length
 mn : ∀ i, i < p.mems.length → ((s.mems.getD i []).length : Int) = (jX p i).words
 mv : ∀ i, i < p.mems.length → ∀ j, j < (s.mems.getD i []).length → dG ((s.mems.getD i []).getD j 0) (jX p i).w
structure Bz (p : Pr) (d : List Int) : Prop where
 l : d.length = p.takes.length
 v : ∀ i, i < p.takes.length → dG (d.getD i 0) (mu p i).w
structure BA (p : Pr) (hs : List Hd) : Prop where
 l : hs.length = p.takes.length
 v : ∀ i, i < p.takes.length → (hs.getD i cG).has = true → dG (hs.getD i cG).v (mu p i).w
set_option maxHeartbeats 1600000 in
theorem io {p : Pr} {s : Ps} {d : List Int} (hp : im p) (hs : pA p s) (hd : Bz p d) : s4 (lK p) p s d where
 prl := by simp [lK]
 prw := fun i hi => by
  have hi' : i < p.regs.length := by simpa [lK] using hi
  show (p.regs.getD i aC).w = (p.regs.map (·.w)).getD i 0
  rw [cQ (·.w) p.regs i aC 0 hi']
 pml := by simp [lK]
 pmw := fun i hi => by
  have hi' : i < p.mems.length := by simpa [lK] using hi
  show (p.mems.getD i au).w = (p.mems.map (·.w)).getD i 0
  rw [cQ (·.w) p.mems i au 0 hi']
 ptl := by simp [lK]
 ptw := fun i hi => by
  have hi' : i < p.takes.length := by simpa [lK] using hi
  show (p.takes.getD i bB).w = (p.takes.map (·.w)).getD i 0
  rw [cQ (·.w) p.takes i bB 0 hi']
 srl := (hs.rl).trans (by simp [lK])
 srv := fun i hi => by
  have hi' : i < p.regs.length := by simpa [lK] using hi
  show dG _ ((p.regs.map (·.w)).getD i 0)
  rw [cQ (·.w) p.regs i aC 0 hi']
  exact hs.rv i hi'
 sml := (hs.ml).trans (by simp [lK])
 smn := fun i hi => by
  have hi' : i < p.mems.length := by simpa [lK] using hi
  have := hs.mn i hi'
  have := (hp.mw i hi').2.1
  omega
 smv := fun i hi j hj => by
  have hi' : i < p.mems.length := by simpa [lK] using hi
  show dG _ ((p.mems.map (·.w)).getD i 0)
  rw [cQ (·.w) p.mems i au 0 hi']
  exact hs.mv i hi' j hj
 dl := (hd.l).trans (by simp [lK])
 dv := fun i hi => by
  have hi' : i < p.takes.length := by simpa [lK] using hi
  show dG _ ((p.takes.map (·.w)).getD i 0)
  rw [cQ (·.w) p.takes i bB 0 hi']
  exact hd.v i hi'
 rok := fun i hi => by
  have hi' : i < p.regs.length := by simpa [lK] using hi
  show aI ((p.regs.map (·.w)).getD i 0) = true
  rw [cQ (·.w) p.regs i aC 0 hi']
  exact (hp.rw i hi').1
 mok := fun i hi => by
  have hi' : i < p.mems.length := by simpa [lK] using hi
  show aI ((p.mems.map (·.w)).getD i 0) = true
  rw [cQ (·.w) p.mems i au 0 hi']
  exact (hp.mw i hi').1
 tok := fun i hi => by
  have hi' : i < p.takes.length := by simpa [lK] using hi
  show aI ((p.takes.map (·.w)).getD i 0) = true
  rw [cQ (·.w) p.takes i bB 0 hi']
  exact (hp.tw i hi').1
theorem FI {c : Sc} {p : Pr} {s : Ps} (d d' : List Int) : ∀ (n : Nat) (e : Ex) (w : Int), eI e ≤ n → dA ⟨c.rw, c.mw, []⟩ e = some w → dA c e = some w ∧ bx p s d e = bx p s d' e := by
 intro n
 induction n with
 | zero => intro e w hd; cases e with | mk op name k w args => rw [eI] at hd; omega
 | succ n ih =>
  intro e w hd hty
  obtain ⟨ws, hws, hc⟩ := fu hty
  obtain ⟨hl, hget⟩ := jV hws
  have hargs : ∀ i, i < e.args.length → dA c (e.args.getD i dE) = some (ws.getD i 0) ∧ bx p s d (e.args.getD i dE) = bx p s d' (e.args.getD i dE) := fun i hi => ih _ _ (by have := zK hi; omega) (hget i hi)
  have hL : ∀ (l : List Ex) (ws : List Int), ws.length = l.length → (∀ i, i < l.length → dA c (l.getD i dE) = some (ws.getD i 0)) → dA.tyL c l = some ws := by
   intro l
   induction l with
   | nil => intro ws h _; cases ws with | nil => rfl | cons a r => cases h
   | cons a r ihr =>
    intro ws h hh
    cases ws with
    | nil => cases h
    | cons w0 wr =>
     have h0 : dA c a = some w0 := hh 0 (by simp)
     have h1 := ihr wr (by simpa using h) (fun i hi => hh (i + 1) (by simpa using hi))
     rw [dA.tyL, h0, h1]
  have hmap : e.args.map (bx p s d) = e.args.map (bx p s d') := by
   apply List.map_congr_left
   intro a ha
   obtain ⟨i, hi, rfl⟩ := List.mem_iff_getElem.1 ha
   have := (hargs i hi).2
   simpa [List.getD, List.getElem?_eq_getElem hi] using this
  have hws' := hL e.args ws hl (fun i hi => (hargs i hi).1)
  refine ⟨?_, ?_⟩
  ·cases e with
   | mk op name k w0 args =>
    rw [dA, hws']
    simp only at hc ⊢
    rcases hc with ⟨h1, h2, h3, h4, rfl⟩ | ⟨h1, h2, h3, h4, rfl⟩ | ⟨h1, h2, h3, h4, rfl⟩ | ⟨h1, h2, h2', h3, rfl⟩
    ·rw [if_pos h1, if_pos ⟨h2, h3, h4⟩]
    ·exact absurd h4 (by simp; omega)
    ·rw [if_neg (by omega), if_neg (by omega), if_pos h1, if_pos ⟨h2, h3, h4⟩]
    ·rw [if_neg h1, if_neg h2', if_neg h2, if_pos h3]
  ·rw [nh, nh p s d', hmap]
   have h18 : e.op ≠ 18 := by
    rcases hc with ⟨h1, h2, h3, h4, rfl⟩ | ⟨h1, h2, h3, h4, rfl⟩ | ⟨h1, h2, h3, h4, rfl⟩ | ⟨h1, h2, h2', h3, rfl⟩
    ·omega
    ·exact absurd h4 (by simp; omega)
    ·omega
    ·exact h2'
   rw [if_neg h18, if_neg h18]
theorem BB {p : Pr} {s : Ps} (hp : im p) {i : Nat} (hi : i < p.takes.length) (d d' : List Int) : fa p s d (mu p i).when = fa p s d' (mu p i).when ∧ dA (lK p) (mu p i).when = some 1 := by
 obtain ⟨h1, h2, h3⟩ := hp.tw i hi
 have h := FI (c := lK p) (p := p) (s := s) d d' 3 _ 1 h3 h2
 exact ⟨by unfold fa; rw [h.2], h.1⟩
theorem ni {w : Int} (h : aI w = true) : dG 0 w := by
 have := aQ.1 h
 exact ⟨by omega, (cA (by omega) (by omega)).1⟩
theorem JA {p : Pr} (hp : im p) : Bz p (mN p) where
 l := by simp [mN]
 v := fun i hi => by
  have e : (mN p).getD i 0 = 0 := by simp [mN, List.getD, List.getElem?_replicate]; split <;> rfl
  rw [e]; exact ni (hp.tw i hi).1
theorem vj {p : Pr} {s : Ps} {hs : List Hd} (hp : im p) (hh : BA p hs) : Bz p (bN p s hs) where
 l := by rw [bN, aL]
 v := fun i hi => by
  rw [bN, aY hi, Bw]
  split
  ·rename_i h; exact hh.v i hi h.2
  ·exact ni (hp.tw i hi).1
theorem yx (p : Pr) (s : Ps) (hs : List Hd) (rs : List Bool) : (bi p s hs rs).fires = il p s hs rs := by
 unfold bi; split <;> simp_all
theorem s5 (p : Pr) (s : Ps) (hs : List Hd) (rs : List Bool) : (bi p s hs rs).pops.length = p.takes.length := by
 unfold bi; split <;> simp [aL]
theorem s6 (p : Pr) (s : Ps) (hs : List Hd) (rs : List Bool) : (bi p s hs rs).puts.length = p.puts.length := by
 unfold bi; split <;> simp [aL]
theorem vk {p : Pr} {s : Ps} {d : List Int} {e : Ex} {w : Int} (ho : s4 (lK p) p s d) (h : dA (lK p) e = some w) (hd : eI e ≤ 3) : (bx p s d e).2 = w ∧ dG (bx p s d e).1 w ∧ aI w = true := Dc ho 3 e w hd h
theorem FJ {p : Pr} {s : Ps} {d : List Int} (hp : im p) (hs : pA p s) (hd : Bz p d) : pA p (dP p s d) where
 rl := by rw [dP]; simp [aL]
 rv := fun i hi => by
  rw [dP]; simp only; rw [aY hi]
  have h := hp.rw i hi
  exact (vk (io hp hs hd) h.2.2.1 h.2.2.2).2.1
 ml := by rw [dP]; simp [aL]
 mn := fun i hi => by
  rw [dP]; simp only; rw [aY hi, xM]
  split
  ·rw [List.length_set]; exact hs.mn i hi
  ·exact hs.mn i hi
 mv := fun i hi j hj => by
  rw [dP] at hj ⊢; simp only at hj ⊢; rw [aY hi, xM] at hj ⊢
  have h := hp.mw i hi
  split at hj
  ·rename_i he
   rw [if_pos he]
   rw [List.length_set] at hj
   by_cases hm : (Int.tmod (bx p s d (jX p i).addr).1 (jX p i).words).toNat < (s.mems.getD i []).length
   ·rw [fP hm]
    split
    ·exact (vk (io hp hs hd) h.2.2.2.2.1 h.2.2.2.2.2).2.1
    ·exact hs.mv i hi j hj
   ·rw [List.set_eq_of_length_le (by omega)]
    exact hs.mv i hi j hj
  ·rename_i he
   rw [if_neg he]
   exact hs.mv i hi j hj
theorem s7 {p : Pr} {s : Ps} {hs : List Hd} {rs : List Bool} (hp : im p) (hso : pA p s) (hh : BA p hs) : pA p (bi p s hs rs).s := by
 unfold bi
 split
 ·exact FJ hp hso (vj hp hh)
 ·exact hso
theorem vo {p : Pr} {s : Ps} {hs : List Hd} {rs : List Bool} (hp : im p) (hso : pA p s) (hh : BA p hs) {i : Nat} (hi : i < p.puts.length) (hhas : ((bi p s hs rs).puts.getD i cG).has = true) : dG ((bi p s hs rs).puts.getD i cG).v (pz p i).w := by
 unfold bi at hhas ⊢
 split
 ·rename_i hf
  rw [if_pos hf] at hhas
  simp only at hhas ⊢
  rw [aY hi] at hhas ⊢
  unfold Bx at hhas ⊢
  split
  ·have h := hp.pw i hi
   exact (vk (io hp hso (vj hp hh)) h.2.2.1 h.2.2.2).2.1
  ·rename_i hn; rw [if_neg hn] at hhas; cases hhas
 ·rename_i hf
  rw [if_neg hf] at hhas
  simp [List.getD, List.getElem?_replicate, hi] at hhas
end Go.Proofs.Ytnlmlkbaflmgcaa
