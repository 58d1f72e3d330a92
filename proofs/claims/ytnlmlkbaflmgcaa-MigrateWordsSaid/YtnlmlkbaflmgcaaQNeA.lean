/-
  Processes and circuits, plain data: what a process does at a tick, what a circuit does.
-/
import Derived.Test.YtnlmlkbaflmgcaaQPrG
namespace Go.Proofs.Ytnlmlkbaflmgcaa
open Go.RowKit
set_option linter.unusedVariables false
set_option linter.unusedSimpArgs false
def tab {α : Type} (f : Nat → α) (n : Nat) : List α := (List.range n).map f
theorem rM {α : Type} (f : Nat → α) (n : Nat) : tab f (n + 1) = tab f n ++ [f n] := by simp [tab, List.range_succ]
theorem aH {α : Type} (f : Nat → α) (n : Nat) : (tab f n).length = n := by simp [tab]
theorem aR {α : Type} {f : Nat → α} {n i : Nat} {d : α} (h : i < n) : (tab f n).getD i d = f i := by
 simp [tab, List.getD, List.getElem?_eq_getElem, h]
theorem nZ {α : Type} {f : Nat → α} {n i : Nat} {d : α} (h : n ≤ i) : (tab f n).getD i d = d := by
 rw [List.getD, List.getElem?_eq_none (by rw [aH]; exact h)]; rfl
theorem gD {α : Type} {f g : Nat → α} {n : Nat} (h : ∀ i, i < n → f i = g i) : tab f n = tab g n := by
 unfold tab
 exact List.map_congr_left (fun a ha => h a (List.mem_range.1 ha))
theorem kE {α : Type} {a b : List α} {d : α} (hl : a.length = b.length) (h : ∀ i, i < a.length → a.getD i d = b.getD i d) : a = b := by
 apply List.ext_getElem hl
 intro i h1 h2
 have := h i h1
 simpa [List.getD, List.getElem?_eq_getElem h1, List.getElem?_eq_getElem h2] using this
theorem zM {α β : Type} {l : List α} {d : α} (f : α → β) : l.map f = tab (fun i => f (l.getD i d)) l.length := by
 apply List.ext_getElem
 ·simp [aH]
 ·intro i h1 h2; rw [List.length_map] at h1; simp [tab, List.getD, List.getElem?_eq_getElem h1]
theorem FB {α : Type} {f : Nat → α} {l : List α} {k : Nat} (hk : k < l.length) : (tab f k ++ l.drop k).set k (f k) = tab f (k + 1) ++ l.drop (k + 1) := by
 rw [List.set_append_right _ _ (by rw [aH]; omega), aH, Nat.sub_self, rM, List.append_assoc]
 congr 1
 rw [List.drop_eq_getElem_cons hk]; rfl
theorem Dc {α : Type} {f : Nat → α} {l : List α} {k : Nat} (hk : l.length ≤ k) : tab f k ++ l.drop k = tab f k := by rw [List.drop_eq_nil_of_le hk, List.append_nil]
theorem fA {α : Type} {l : List α} {i j : Nat} {x d : α} (h : i < l.length) : (l.set i x).getD j d = if i = j then x else l.getD j d := by
 simp only [List.getD, List.getElem?_set]
 split
 ·rename_i e; subst e; simp [h]
 ·rfl
def cF (f : Nat → Bool) : Nat → Bool
 | 0 => true
 | n + 1 => cF f n && f n
theorem bi {f : Nat → Bool} : ∀ {n : Nat}, cF f n = true ↔ ∀ i, i < n → f i = true
 | 0 => ⟨fun _ i hi => absurd hi (Nat.not_lt_zero _), fun _ => rfl⟩
 | n + 1 => by
  rw [cF, Bool.and_eq_true, bi]
  constructor
  ·rintro ⟨h1, h2⟩ i hi
   rcases Nat.lt_or_ge i n with h | h
   ·exact h1 i h
   ·rw [show i = n by omega]; exact h2
  ·intro h; exact ⟨fun i hi => h i (by omega), h n (by omega)⟩
theorem dP {f : Nat → Bool} {n i : Nat} (hi : i < n) (h : f i = false) : cF f n = false := by
 cases hh : cF f n
 ·rfl
 ·rw [bi.1 hh i hi] at h; cases h
def eO (p : Pr) (s : Ps) (data : List Int) (e : Ex) : Bool := decide ((bv p s data e).1 = 1)
def mi (p : Pr) : List Int := List.replicate p.takes.length 0
abbrev lY (p : Pr) (i : Nat) : Tk := p.takes.getD i bO
abbrev pu (p : Pr) (i : Nat) : Pt := p.puts.getD i bV
abbrev zN (p : Pr) (i : Nat) : Rg := p.regs.getD i aO
abbrev hJ (p : Pr) (i : Nat) : Mm := p.mems.getD i aB
def Bn (p : Pr) (s : Ps) (hs : List Hd) (i : Nat) : Int := if eO p s (mi p) (lY p i).when = true ∧ (hs.getD i cz).has = true then (hs.getD i cz).v else 0
def bJ (p : Pr) (s : Ps) (hs : List Hd) : List Int := tab (Bn p s hs) p.takes.length
def xK (p : Pr) (s : Ps) (data : List Int) (i : Nat) : List Int :=
 if eO p s data (hJ p i).enable = true then (s.mems.getD i []).set (Int.tmod (bv p s data (hJ p i).addr).1 (hJ p i).words).toNat (bv p s data (hJ p i).data).1 else s.mems.getD i []
def dA (p : Pr) (s : Ps) (data : List Int) : Ps := ⟨tab (fun i => (bv p s data (zN p i).next).1) p.regs.length, tab (xK p s data) p.mems.length⟩
def rN (p : Pr) (s : Ps) (hs : List Hd) (i : Nat) : Bool := (hs.getD i cz).has || !eO p s (bJ p s hs) (lY p i).when
def rO (p : Pr) (s : Ps) (hs : List Hd) (rs : List Bool) (i : Nat) : Bool := rs.getD i false || !eO p s (bJ p s hs) (pu p i).when
def hT (p : Pr) (s : Ps) (hs : List Hd) (rs : List Bool) : Bool := cF (rN p s hs) p.takes.length && cF (rO p s hs rs) p.puts.length
def Dd (p : Pr) (s : Ps) (hs : List Hd) (i : Nat) : Bool := eO p s (bJ p s hs) (lY p i).when
def Bo (p : Pr) (s : Ps) (hs : List Hd) (i : Nat) : Hd := if eO p s (bJ p s hs) (pu p i).when = true then ⟨true, (bv p s (bJ p s hs) (pu p i).data).1⟩ else cz
def bk (p : Pr) (s : Ps) (hs : List Hd) (rs : List Bool) : Fi :=
 if hT p s hs rs = true then ⟨true, dA p s (bJ p s hs), tab (Dd p s hs) p.takes.length, tab (Bo p s hs) p.puts.length⟩
 else ⟨false, s, List.replicate p.takes.length false, List.replicate p.puts.length cz⟩
def bp (p : Pr) : Ps := ⟨p.regs.map (·.init), p.mems.map (fun m => List.replicate m.words.toNat 0)⟩
def ef (v w : Int) : Bool := decide (0 ≤ v) && decide (v ≤ aD w)
theorem wP {v w : Int} : ef v w = true ↔ cE v w := by simp [ef, cE]
def hU (p : Pr) (s : Ps) (i : Nat) : Bool := decide (((s.mems.getD i []).length : Int) = (hJ p i).words) && cF (fun j => ef ((s.mems.getD i []).getD j 0) (hJ p i).w) (s.mems.getD i []).length
def bw (p : Pr) (s : Ps) : Bool := decide (s.regs.length = p.regs.length) && decide (s.mems.length = p.mems.length) && cF (fun i => ef (s.regs.getD i 0) (zN p i).w) s.regs.length && cF (hU p s) s.mems.length
def lm (p : Pr) : Sc := ⟨p.regs.map (·.w), p.mems.map (·.w), p.takes.map (·.w)⟩
def Hv (p : Pr) : Sc := ⟨p.regs.map (·.w), p.mems.map (·.w), []⟩
structure ga (p : Pr) : Prop where
 rl : p.regs.length ≤ 100
 ml : p.mems.length ≤ 100
 tl : p.takes.length ≤ 100
 pl : p.puts.length ≤ 100
 rw : ∀ i, i < p.regs.length → aI (zN p i).w = true ∧ cE (zN p i).init (zN p i).w ∧ dt (lm p) (zN p i).next = some (zN p i).w ∧ eu (zN p i).next ≤ 3
 mw : ∀ i, i < p.mems.length → aI (hJ p i).w = true ∧ (1 ≤ (hJ p i).words ∧ (hJ p i).words ≤ 4) ∧ (dt (lm p) (hJ p i).enable = some 1 ∧ eu (hJ p i).enable ≤ 3) ∧ ((∃ v, dt (lm p) (hJ p i).addr = some v) ∧ eu (hJ p i).addr ≤ 3) ∧ dt (lm p) (hJ p i).data = some (hJ p i).w ∧ eu (hJ p i).data ≤ 3
 tw : ∀ i, i < p.takes.length → aI (lY p i).w = true ∧ dt (Hv p) (lY p i).when = some 1 ∧ eu (lY p i).when ≤ 3
 pw : ∀ i, i < p.puts.length → aI (pu p i).w = true ∧ (dt (lm p) (pu p i).when = some 1 ∧ eu (pu p i).when ≤ 3) ∧ dt (lm p) (pu p i).data = some (pu p i).w ∧ eu (pu p i).data ≤ 3
structure mS (p : Pr) (s : Ps) : Prop where
 rl : s.regs.length = p.regs.length
 rv : ∀ i, i < p.regs.length → cE (s.regs.getD i 0) (zN p i).w
 ml : s.mems.length = p.mems.length
 mn : ∀ i, i < p.mems.length → ((s.mems.getD i []).length : Int) = (hJ p i).words
 mv : ∀ i, i < p.mems.length → ∀ j, j < (s.mems.getD i []).length → cE ((s.mems.getD i []).getD j 0) (hJ p i).w
structure Bp (p : Pr) (d : List Int) : Prop where
 l : d.length = p.takes.length
 v : ∀ i, i < p.takes.length → cE (d.getD i 0) (lY p i).w
structure Bq (p : Pr) (hs : List Hd) : Prop where
 l : hs.length = p.takes.length
 v : ∀ i, i < p.takes.length → (hs.getD i cz).has = true → cE (hs.getD i cz).v (lY p i).w
theorem Br {p : Pr} {s : Ps} : bw p s = true ↔ mS p s := by
 unfold bw hU
 simp only [Bool.and_eq_true, decide_eq_true_eq, bi, wP]
 constructor
 ·rintro ⟨⟨⟨h1, h2⟩, h3⟩, h4⟩
  exact ⟨h1, fun i hi => h3 i (by omega), h2, fun i hi => (h4 i (by omega)).1, fun i hi => (h4 i (by omega)).2⟩
 ·intro h
  exact ⟨⟨⟨h.rl, h.ml⟩, fun i hi => h.rv i (by have := h.rl; omega)⟩, fun i hi => ⟨h.mn i (by have := h.ml; omega), h.mv i (by have := h.ml; omega)⟩⟩
set_option maxHeartbeats 1600000 in
theorem hX {p : Pr} {s : Ps} {d : List Int} (hp : ga p) (hs : mS p s) (hd : Bp p d) : sU (lm p) p s d where
 prl := by simp [lm]
 prw := fun i hi => by
  have hi' : i < p.regs.length := by simpa [lm] using hi
  show (p.regs.getD i aO).w = (p.regs.map (·.w)).getD i 0
  rw [cK (·.w) p.regs i aO 0 hi']
 pml := by simp [lm]
 pmw := fun i hi => by
  have hi' : i < p.mems.length := by simpa [lm] using hi
  show (p.mems.getD i aB).w = (p.mems.map (·.w)).getD i 0
  rw [cK (·.w) p.mems i aB 0 hi']
 ptl := by simp [lm]
 ptw := fun i hi => by
  have hi' : i < p.takes.length := by simpa [lm] using hi
  show (p.takes.getD i bO).w = (p.takes.map (·.w)).getD i 0
  rw [cK (·.w) p.takes i bO 0 hi']
 srl := (hs.rl).trans (by simp [lm])
 srv := fun i hi => by
  have hi' : i < p.regs.length := by simpa [lm] using hi
  show cE _ ((p.regs.map (·.w)).getD i 0)
  rw [cK (·.w) p.regs i aO 0 hi']
  exact hs.rv i hi'
 sml := (hs.ml).trans (by simp [lm])
 smn := fun i hi => by
  have hi' : i < p.mems.length := by simpa [lm] using hi
  have := hs.mn i hi'
  have := (hp.mw i hi').2.1
  omega
 smv := fun i hi j hj => by
  have hi' : i < p.mems.length := by simpa [lm] using hi
  show cE _ ((p.mems.map (·.w)).getD i 0)
  rw [cK (·.w) p.mems i aB 0 hi']
  exact hs.mv i hi' j hj
 dl := (hd.l).trans (by simp [lm])
 dv := fun i hi => by
  have hi' : i < p.takes.length := by simpa [lm] using hi
  show cE _ ((p.takes.map (·.w)).getD i 0)
  rw [cK (·.w) p.takes i bO 0 hi']
  exact hd.v i hi'
 rok := fun i hi => by
  have hi' : i < p.regs.length := by simpa [lm] using hi
  show aI ((p.regs.map (·.w)).getD i 0) = true
  rw [cK (·.w) p.regs i aO 0 hi']
  exact (hp.rw i hi').1
 mok := fun i hi => by
  have hi' : i < p.mems.length := by simpa [lm] using hi
  show aI ((p.mems.map (·.w)).getD i 0) = true
  rw [cK (·.w) p.mems i aB 0 hi']
  exact (hp.mw i hi').1
 tok := fun i hi => by
  have hi' : i < p.takes.length := by simpa [lm] using hi
  show aI ((p.takes.map (·.w)).getD i 0) = true
  rw [cK (·.w) p.takes i bO 0 hi']
  exact (hp.tw i hi').1
theorem FC {c : Sc} {p : Pr} {s : Ps} (d d' : List Int) : ∀ (n : Nat) (e : Ex) (w : Int), eu e ≤ n → dt ⟨c.rw, c.mw, []⟩ e = some w → dt c e = some w ∧ bv p s d e = bv p s d' e := by
 intro n
 induction n with
 | zero => intro e w hd; cases e with | mk op name k w args => rw [eu] at hd; omega
 | succ n ih =>
  intro e w hd hty
  obtain ⟨ws, hws, hc⟩ := fa hty
  obtain ⟨hl, hget⟩ := jI hws
  have hargs : ∀ i, i < e.args.length → dt c (e.args.getD i dE) = some (ws.getD i 0) ∧ bv p s d (e.args.getD i dE) = bv p s d' (e.args.getD i dE) := fun i hi => ih _ _ (by have := zF hi; omega) (hget i hi)
  have hL : ∀ (l : List Ex) (ws : List Int), ws.length = l.length → (∀ i, i < l.length → dt c (l.getD i dE) = some (ws.getD i 0)) → dt.tyL c l = some ws := by
   intro l
   induction l with
   | nil => intro ws h _; cases ws with | nil => rfl | cons a r => cases h
   | cons a r ihr =>
    intro ws h hh
    cases ws with
    | nil => cases h
    | cons w0 wr =>
     have h0 : dt c a = some w0 := hh 0 (by simp)
     have h1 := ihr wr (by simpa using h) (fun i hi => hh (i + 1) (by simpa using hi))
     rw [dt.tyL, h0, h1]
  have hmap : e.args.map (bv p s d) = e.args.map (bv p s d') := by
   apply List.map_congr_left
   intro a ha
   obtain ⟨i, hi, rfl⟩ := List.mem_iff_getElem.1 ha
   have := (hargs i hi).2
   simpa [List.getD, List.getElem?_eq_getElem hi] using this
  have hws' := hL e.args ws hl (fun i hi => (hargs i hi).1)
  refine ⟨?_, ?_⟩
  ·cases e with
   | mk op name k w0 args =>
    rw [dt, hws']
    simp only at hc ⊢
    rcases hc with ⟨h1, h2, h3, h4, rfl⟩ | ⟨h1, h2, h3, h4, rfl⟩ | ⟨h1, h2, h3, h4, rfl⟩ | ⟨h1, h2, h2', h3, rfl⟩
    ·rw [if_pos h1, if_pos ⟨h2, h3, h4⟩]
    ·exact absurd h4 (by simp; omega)
    ·rw [if_neg (by omega), if_neg (by omega), if_pos h1, if_pos ⟨h2, h3, h4⟩]
    ·rw [if_neg h1, if_neg h2', if_neg h2, if_pos h3]
  ·rw [mR, mR p s d', hmap]
   have h18 : e.op ≠ 18 := by
    rcases hc with ⟨h1, h2, h3, h4, rfl⟩ | ⟨h1, h2, h3, h4, rfl⟩ | ⟨h1, h2, h3, h4, rfl⟩ | ⟨h1, h2, h2', h3, rfl⟩
    ·omega
    ·exact absurd h4 (by simp; omega)
    ·omega
    ·exact h2'
   rw [if_neg h18, if_neg h18]
theorem Bs {p : Pr} {s : Ps} (hp : ga p) {i : Nat} (hi : i < p.takes.length) (d d' : List Int) : eO p s d (lY p i).when = eO p s d' (lY p i).when ∧ dt (lm p) (lY p i).when = some 1 := by
 obtain ⟨h1, h2, h3⟩ := hp.tw i hi
 have h := FC (c := lm p) (p := p) (s := s) d d' 3 _ 1 h3 h2
 exact ⟨by unfold eO; rw [h.2], h.1⟩
theorem mU {w : Int} (h : aI w = true) : cE 0 w := by
 have := aP.1 h
 exact ⟨by omega, (b4 (by omega) (by omega)).1⟩
theorem Ja {p : Pr} (hp : ga p) : Bp p (mi p) where
 l := by simp [mi]
 v := fun i hi => by
  have e : (mi p).getD i 0 = 0 := by simp [mi, List.getD, List.getElem?_replicate]; split <;> rfl
  rw [e]; exact mU (hp.tw i hi).1
theorem vg {p : Pr} {s : Ps} {hs : List Hd} (hp : ga p) (hh : Bq p hs) : Bp p (bJ p s hs) where
 l := by rw [bJ, aH]
 v := fun i hi => by
  rw [bJ, aR hi, Bn]
  split
  ·rename_i h; exact hh.v i hi h.2
  ·exact mU (hp.tw i hi).1
theorem yr (p : Pr) (s : Ps) (hs : List Hd) (rs : List Bool) : (bk p s hs rs).fires = hT p s hs rs := by
 unfold bk; split <;> simp_all
theorem sV (p : Pr) (s : Ps) (hs : List Hd) (rs : List Bool) : (bk p s hs rs).pops.length = p.takes.length := by
 unfold bk; split <;> simp [aH]
theorem sW (p : Pr) (s : Ps) (hs : List Hd) (rs : List Bool) : (bk p s hs rs).puts.length = p.puts.length := by
 unfold bk; split <;> simp [aH]
theorem vi {p : Pr} {s : Ps} {d : List Int} {e : Ex} {w : Int} (ho : sU (lm p) p s d) (h : dt (lm p) e = some w) (hd : eu e ≤ 3) : (bv p s d e).2 = w ∧ cE (bv p s d e).1 w ∧ aI w = true := C0 ho 3 e w hd h
theorem FD {p : Pr} {s : Ps} {d : List Int} (hp : ga p) (hs : mS p s) (hd : Bp p d) : mS p (dA p s d) where
 rl := by rw [dA]; simp [aH]
 rv := fun i hi => by
  rw [dA]; simp only; rw [aR hi]
  have h := hp.rw i hi
  exact (vi (hX hp hs hd) h.2.2.1 h.2.2.2).2.1
 ml := by rw [dA]; simp [aH]
 mn := fun i hi => by
  rw [dA]; simp only; rw [aR hi, xK]
  split
  ·rw [List.length_set]; exact hs.mn i hi
  ·exact hs.mn i hi
 mv := fun i hi j hj => by
  rw [dA] at hj ⊢; simp only at hj ⊢; rw [aR hi, xK] at hj ⊢
  have h := hp.mw i hi
  split at hj
  ·rename_i he
   rw [if_pos he]
   rw [List.length_set] at hj
   by_cases hm : (Int.tmod (bv p s d (hJ p i).addr).1 (hJ p i).words).toNat < (s.mems.getD i []).length
   ·rw [fA hm]
    split
    ·exact (vi (hX hp hs hd) h.2.2.2.2.1 h.2.2.2.2.2).2.1
    ·exact hs.mv i hi j hj
   ·rw [List.set_eq_of_length_le (by omega)]
    exact hs.mv i hi j hj
  ·rename_i he
   rw [if_neg he]
   exact hs.mv i hi j hj
theorem sX {p : Pr} {s : Ps} {hs : List Hd} {rs : List Bool} (hp : ga p) (hso : mS p s) (hh : Bq p hs) : mS p (bk p s hs rs).s := by
 unfold bk
 split
 ·exact FD hp hso (vg hp hh)
 ·exact hso
theorem vj {p : Pr} {s : Ps} {hs : List Hd} {rs : List Bool} (hp : ga p) (hso : mS p s) (hh : Bq p hs) {i : Nat} (hi : i < p.puts.length) (hhas : ((bk p s hs rs).puts.getD i cz).has = true) : cE ((bk p s hs rs).puts.getD i cz).v (pu p i).w := by
 unfold bk at hhas ⊢
 split
 ·rename_i hf
  rw [if_pos hf] at hhas
  simp only at hhas ⊢
  rw [aR hi] at hhas ⊢
  unfold Bo at hhas ⊢
  split
  ·have h := hp.pw i hi
   exact (vi (hX hp hso (vg hp hh)) h.2.2.1 h.2.2.2).2.1
  ·rename_i hn; rw [if_neg hn] at hhas; cases hhas
 ·rename_i hf
  rw [if_neg hf] at hhas
  simp [List.getD, List.getElem?_replicate, hi] at hhas
end Go.Proofs.Ytnlmlkbaflmgcaa
