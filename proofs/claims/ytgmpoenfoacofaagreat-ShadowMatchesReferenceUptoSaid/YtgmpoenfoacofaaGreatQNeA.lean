/-
  Processes and circuits, plain data: what a process does at a tick, what a circuit does.
-/
import Derived.Test.YtgmpoenfoacofaaGreatQPrG
namespace Go.Proofs.YtgmpoenfoacofaaGreat
open Go.RowKit
set_option linter.unusedVariables false
set_option linter.unusedSimpArgs false
def tab {α : Type} (f : Nat → α) (n : Nat) : List α := (List.range n).map f
theorem tF {α : Type} (f : Nat → α) (n : Nat) : tab f (n + 1) = tab f n ++ [f n] := by simp [tab, List.range_succ]
theorem aQ {α : Type} (f : Nat → α) (n : Nat) : (tab f n).length = n := by simp [tab]
theorem bp {α : Type} {f : Nat → α} {n i : Nat} {d : α} (h : i < n) : (tab f n).getD i d = f i := by
 simp [tab, List.getD, List.getElem?_eq_getElem, h]
theorem Bk {α : Type} {f : Nat → α} {n i : Nat} {d : α} (h : n ≤ i) : (tab f n).getD i d = d := by
 rw [List.getD, List.getElem?_eq_none (by rw [aQ]; exact h)]; rfl
theorem qy {α : Type} {f g : Nat → α} {n : Nat} (h : ∀ i, i < n → f i = g i) : tab f n = tab g n := by
 unfold tab
 exact List.map_congr_left (fun a ha => h a (List.mem_range.1 ha))
theorem EG {α : Type} {l : List α} {d : α} : l = tab (fun i => l.getD i d) l.length := by
 apply List.ext_getElem
 ·rw [aQ]
 ·intro i h1 h2; simp [tab, List.getD, List.getElem?_eq_getElem h1]
theorem jj {α : Type} {a b : List α} {d : α} (hl : a.length = b.length) (h : ∀ i, i < a.length → a.getD i d = b.getD i d) : a = b := by
 apply List.ext_getElem hl
 intro i h1 h2
 have := h i h1
 simpa [List.getD, List.getElem?_eq_getElem h1, List.getElem?_eq_getElem h2] using this
theorem Bl {α β : Type} {l : List α} {d : α} (f : α → β) : l.map f = tab (fun i => f (l.getD i d)) l.length := by
 apply List.ext_getElem
 ·simp [aQ]
 ·intro i h1 h2; rw [List.length_map] at h1; simp [tab, List.getD, List.getElem?_eq_getElem h1]
theorem Gu {α : Type} {f : Nat → α} {l : List α} {k : Nat} (hk : k < l.length) : (tab f k ++ l.drop k).set k (f k) = tab f (k + 1) ++ l.drop (k + 1) := by
 rw [List.set_append_right _ _ (by rw [aQ]; omega), aQ, Nat.sub_self, tF, List.append_assoc]
 congr 1
 rw [List.drop_eq_getElem_cons hk]; rfl
theorem EH {α : Type} {f : Nat → α} {l : List α} {k : Nat} (hk : l.length ≤ k) : tab f k ++ l.drop k = tab f k := by rw [List.drop_eq_nil_of_le hk, List.append_nil]
theorem cb {α : Type} {l : List α} {i j : Nat} {x d : α} (h : i < l.length) : (l.set i x).getD j d = if i = j then x else l.getD j d := by
 simp only [List.getD, List.getElem?_set]
 split
 ·rename_i e; subst e; simp [h]
 ·rfl
def cJ (f : Nat → Bool) : Nat → Bool
 | 0 => true
 | n + 1 => cJ f n && f n
theorem cF {f : Nat → Bool} : ∀ {n : Nat}, cJ f n = true ↔ ∀ i, i < n → f i = true
 | 0 => ⟨fun _ i hi => absurd hi (Nat.not_lt_zero _), fun _ => rfl⟩
 | n + 1 => by
  rw [cJ, Bool.and_eq_true, cF]
  constructor
  ·rintro ⟨h1, h2⟩ i hi
   rcases Nat.lt_or_ge i n with h | h
   ·exact h1 i h
   ·rw [show i = n by omega]; exact h2
  ·intro h; exact ⟨fun i hi => h i (by omega), h n (by omega)⟩
theorem lN {f : Nat → Bool} {n i : Nat} (hi : i < n) (h : f i = false) : cJ f n = false := by
 cases hh : cJ f n
 ·rfl
 ·rw [cF.1 hh i hi] at h; cases h
def dG (p : Pr) (s : Ps) (data : List Int) (e : Ex) : Bool := decide ((aZ p s data e).1 = 1)
def il (p : Pr) : List Int := List.replicate p.takes.length 0
abbrev kO (p : Pr) (i : Nat) : Tk := p.takes.getD i bB
abbrev rJ (p : Pr) (i : Nat) : Pt := p.puts.getD i bf
abbrev FY (p : Pr) (i : Nat) : Rg := p.regs.getD i bG
abbrev mN (p : Pr) (i : Nat) : Mm := p.mems.getD i aI
def kP (p : Pr) (s : Ps) (hs : List Hd) (i : Nat) : Int := if dG p s (il p) (kO p i).when = true ∧ (hs.getD i aO).has = true then (hs.getD i aO).v else 0
def bL (p : Pr) (s : Ps) (hs : List Hd) : List Int := tab (kP p s hs) p.takes.length
def pQ (p : Pr) (s : Ps) (data : List Int) (i : Nat) : List Int :=
 if dG p s data (mN p i).enable = true then (s.mems.getD i []).set (Int.tmod (aZ p s data (mN p i).addr).1 (mN p i).words).toNat (aZ p s data (mN p i).data).1 else s.mems.getD i []
def b6 (p : Pr) (s : Ps) (data : List Int) : Ps := ⟨tab (fun i => (aZ p s data (FY p i).next).1) p.regs.length, tab (pQ p s data) p.mems.length⟩
def im (p : Pr) (s : Ps) (hs : List Hd) (i : Nat) : Bool := (hs.getD i aO).has || !dG p s (bL p s hs) (kO p i).when
def jR (p : Pr) (s : Ps) (hs : List Hd) (rs : List Bool) (i : Nat) : Bool := rs.getD i false || !dG p s (bL p s hs) (rJ p i).when
def f9 (p : Pr) (s : Ps) (hs : List Hd) (rs : List Bool) : Bool := cJ (im p s hs) p.takes.length && cJ (jR p s hs rs) p.puts.length
def oT (p : Pr) (s : Ps) (hs : List Hd) (i : Nat) : Bool := dG p s (bL p s hs) (kO p i).when
def oU (p : Pr) (s : Ps) (hs : List Hd) (i : Nat) : Hd := if dG p s (bL p s hs) (rJ p i).when = true then ⟨true, (aZ p s (bL p s hs) (rJ p i).data).1⟩ else aO
def aJ (p : Pr) (s : Ps) (hs : List Hd) (rs : List Bool) : Fi :=
 if f9 p s hs rs = true then ⟨true, b6 p s (bL p s hs), tab (oT p s hs) p.takes.length, tab (oU p s hs) p.puts.length⟩
 else ⟨false, s, List.replicate p.takes.length false, List.replicate p.puts.length aO⟩
def aN (p : Pr) : Ps := ⟨p.regs.map (·.init), p.mems.map (fun m => List.replicate m.words.toNat 0)⟩
def ga (v w : Int) : Bool := decide (0 ≤ v) && decide (v ≤ ah w)
def oV (p : Pr) : Sc := ⟨p.regs.map (·.w), p.mems.map (·.w), p.takes.map (·.w)⟩
def LZ (p : Pr) : Sc := ⟨p.regs.map (·.w), p.mems.map (·.w), []⟩
structure gv (p : Pr) : Prop where
 rl : p.regs.length ≤ 100
 ml : p.mems.length ≤ 100
 tl : p.takes.length ≤ 100
 pl : p.puts.length ≤ 100
 rw : ∀ i, i < p.regs.length → an (FY p i).w = true ∧ dR (FY p i).init (FY p i).w ∧ ew (oV p) (FY p i).next = some (FY p i).w ∧ fc (FY p i).next ≤ 3
 mw : ∀ i, i < p.mems.length → an (mN p i).w = true ∧ (1 ≤ (mN p i).words ∧ (mN p i).words ≤ 4) ∧ (ew (oV p) (mN p i).enable = some 1 ∧ fc (mN p i).enable ≤ 3) ∧ ((∃ v, ew (oV p) (mN p i).addr = some v) ∧ fc (mN p i).addr ≤ 3) ∧ ew (oV p) (mN p i).data = some (mN p i).w ∧ fc (mN p i).data ≤ 3
 tw : ∀ i, i < p.takes.length → an (kO p i).w = true ∧ ew (LZ p) (kO p i).when = some 1 ∧ fc (kO p i).when ≤ 3
 pw : ∀ i, i < p.puts.length → an (rJ p i).w = true ∧ (ew (oV p) (rJ p i).when = some 1 ∧ fc (rJ p i).when ≤ 3) ∧ ew (oV p) (rJ p i).data = some (rJ p i).w ∧ fc (rJ p i).data ≤ 3
structure oW (p : Pr) (s : Ps) : Prop where
 rl : s.regs.length = p.regs.length
 rv : ∀ i, i < p.regs.length → dR (s.regs.getD i 0) (FY p i).w
 ml : s.mems.length = p.mems.length
 mn : ∀ i, i < p.mems.length → ((s.mems.getD i []).length : Int) = (mN p i).words
 mv : ∀ i, i < p.mems.length → ∀ j, j < (s.mems.getD i []).length → dR ((s.mems.getD i []).getD j 0) (mN p i).w
structure yB (p : Pr) (d : List Int) : Prop where
 l : d.length = p.takes.length
 v : ∀ i, i < p.takes.length → dR (d.getD i 0) (kO p i).w
structure yC (p : Pr) (hs : List Hd) : Prop where
 l : hs.length = p.takes.length
 v : ∀ i, i < p.takes.length → (hs.getD i aO).has = true → dR (hs.getD i aO).v (kO p i).w
set_option maxHeartbeats 1600000 in
theorem fL {p : Pr} {s : Ps} {d : List Int} (hp : gv p) (hs : oW p s) (hd : yB p d) : qu (oV p) p s d where
 prl := by simp [oV]
 prw := fun i hi => by
  have hi' : i < p.regs.length := by simpa [oV] using hi
  show (p.regs.getD i bG).w = (p.regs.map (·.w)).getD i 0
  rw [cR (·.w) p.regs i bG 0 hi']
 pml := by simp [oV]
 pmw := fun i hi => by
  have hi' : i < p.mems.length := by simpa [oV] using hi
  show (p.mems.getD i aI).w = (p.mems.map (·.w)).getD i 0
  rw [cR (·.w) p.mems i aI 0 hi']
 ptl := by simp [oV]
 ptw := fun i hi => by
  have hi' : i < p.takes.length := by simpa [oV] using hi
  show (p.takes.getD i bB).w = (p.takes.map (·.w)).getD i 0
  rw [cR (·.w) p.takes i bB 0 hi']
 srl := (hs.rl).trans (by simp [oV])
 srv := fun i hi => by
  have hi' : i < p.regs.length := by simpa [oV] using hi
  show dR _ ((p.regs.map (·.w)).getD i 0)
  rw [cR (·.w) p.regs i bG 0 hi']
  exact hs.rv i hi'
 sml := (hs.ml).trans (by simp [oV])
 smn := fun i hi => by
  have hi' : i < p.mems.length := by simpa [oV] using hi
  have := hs.mn i hi'
  have := (hp.mw i hi').2.1
  omega
 smv := fun i hi j hj => by
  have hi' : i < p.mems.length := by simpa [oV] using hi
  show dR _ ((p.mems.map (·.w)).getD i 0)
  rw [cR (·.w) p.mems i aI 0 hi']
  exact hs.mv i hi' j hj
 dl := (hd.l).trans (by simp [oV])
 dv := fun i hi => by
  have hi' : i < p.takes.length := by simpa [oV] using hi
  show dR _ ((p.takes.map (·.w)).getD i 0)
  rw [cR (·.w) p.takes i bB 0 hi']
  exact hd.v i hi'
 rok := fun i hi => by
  have hi' : i < p.regs.length := by simpa [oV] using hi
  show an ((p.regs.map (·.w)).getD i 0) = true
  rw [cR (·.w) p.regs i bG 0 hi']
  exact (hp.rw i hi').1
 mok := fun i hi => by
  have hi' : i < p.mems.length := by simpa [oV] using hi
  show an ((p.mems.map (·.w)).getD i 0) = true
  rw [cR (·.w) p.mems i aI 0 hi']
  exact (hp.mw i hi').1
 tok := fun i hi => by
  have hi' : i < p.takes.length := by simpa [oV] using hi
  show an ((p.takes.map (·.w)).getD i 0) = true
  rw [cR (·.w) p.takes i bB 0 hi']
  exact (hp.tw i hi').1
theorem Gv {c : Sc} {p : Pr} {s : Ps} (d d' : List Int) : ∀ (n : Nat) (e : Ex) (w : Int), fc e ≤ n → ew ⟨c.rw, c.mw, []⟩ e = some w → ew c e = some w ∧ aZ p s d e = aZ p s d' e := by
 intro n
 induction n with
 | zero => intro e w hd; cases e with | mk op name k w args => rw [fc] at hd; omega
 | succ n ih =>
  intro e w hd hty
  obtain ⟨ws, hws, hc⟩ := fK hty
  obtain ⟨hl, hget⟩ := jQ hws
  have hargs : ∀ i, i < e.args.length → ew c (e.args.getD i dE) = some (ws.getD i 0) ∧ aZ p s d (e.args.getD i dE) = aZ p s d' (e.args.getD i dE) := fun i hi => ih _ _ (by have := Ba hi; omega) (hget i hi)
  have hL : ∀ (l : List Ex) (ws : List Int), ws.length = l.length → (∀ i, i < l.length → ew c (l.getD i dE) = some (ws.getD i 0)) → ew.tyL c l = some ws := by
   intro l
   induction l with
   | nil => intro ws h _; cases ws with | nil => rfl | cons a r => cases h
   | cons a r ihr =>
    intro ws h hh
    cases ws with
    | nil => cases h
    | cons w0 wr =>
     have h0 : ew c a = some w0 := hh 0 (by simp)
     have h1 := ihr wr (by simpa using h) (fun i hi => hh (i + 1) (by simpa using hi))
     rw [ew.tyL, h0, h1]
  have hmap : e.args.map (aZ p s d) = e.args.map (aZ p s d') := by
   apply List.map_congr_left
   intro a ha
   obtain ⟨i, hi, rfl⟩ := List.mem_iff_getElem.1 ha
   have := (hargs i hi).2
   simpa [List.getD, List.getElem?_eq_getElem hi] using this
  have hws' := hL e.args ws hl (fun i hi => (hargs i hi).1)
  refine ⟨?_, ?_⟩
  ·cases e with
   | mk op name k w0 args =>
    rw [ew, hws']
    simp only at hc ⊢
    rcases hc with ⟨h1, h2, h3, h4, rfl⟩ | ⟨h1, h2, h3, h4, rfl⟩ | ⟨h1, h2, h3, h4, rfl⟩ | ⟨h1, h2, h2', h3, rfl⟩
    ·rw [if_pos h1, if_pos ⟨h2, h3, h4⟩]
    ·exact absurd h4 (by simp; omega)
    ·rw [if_neg (by omega), if_neg (by omega), if_pos h1, if_pos ⟨h2, h3, h4⟩]
    ·rw [if_neg h1, if_neg h2', if_neg h2, if_pos h3]
  ·rw [nh, nh p s d', hmap]
   have h18 : e.op ≠ 18 := by
    rcases hc with ⟨h1, h2, h3, h4, rfl⟩ | ⟨h1, h2, h3, h4, rfl⟩ | ⟨h1, h2, h3, h4, rfl⟩ | ⟨h1, h2, h2', h3, rfl⟩
    ·omega
    ·exact absurd h4 (by simp; omega)
    ·omega
    ·exact h2'
   rw [if_neg h18, if_neg h18]
theorem jk {p : Pr} {s : Ps} (hp : gv p) {i : Nat} (hi : i < p.takes.length) (d d' : List Int) : dG p s d (kO p i).when = dG p s d' (kO p i).when ∧ ew (oV p) (kO p i).when = some 1 := by
 obtain ⟨h1, h2, h3⟩ := hp.tw i hi
 have h := Gv (c := oV p) (p := p) (s := s) d d' 3 _ 1 h3 h2
 exact ⟨by unfold dG; rw [h.2], h.1⟩
theorem ni {w : Int} (h : an w = true) : dR 0 w := by
 have := aP.1 h
 exact ⟨by omega, (ap (by omega) (by omega)).1⟩
theorem HB {p : Pr} (hp : gv p) : yB p (il p) where
 l := by simp [il]
 v := fun i hi => by
  have e : (il p).getD i 0 = 0 := by simp [il, List.getD, List.getElem?_replicate]; split <;> rfl
  rw [e]; exact ni (hp.tw i hi).1
theorem tG {p : Pr} {s : Ps} {hs : List Hd} (hp : gv p) (hh : yC p hs) : yB p (bL p s hs) where
 l := by rw [bL, aQ]
 v := fun i hi => by
  rw [bL, bp hi, kP]
  split
  ·rename_i h; exact hh.v i hi h.2
  ·exact ni (hp.tw i hi).1
theorem z5 (p : Pr) (s : Ps) (hs : List Hd) (rs : List Bool) : (aJ p s hs rs).fires = f9 p s hs rs := by
 unfold aJ; split <;> simp_all
theorem mO (p : Pr) (s : Ps) (hs : List Hd) (rs : List Bool) : (aJ p s hs rs).pops.length = p.takes.length := by
 unfold aJ; split <;> simp [aQ]
theorem mP (p : Pr) (s : Ps) (hs : List Hd) (rs : List Bool) : (aJ p s hs rs).puts.length = p.puts.length := by
 unfold aJ; split <;> simp [aQ]
theorem w5 {p : Pr} {s : Ps} {d : List Int} {e : Ex} {w : Int} (ho : qu (oV p) p s d) (h : ew (oV p) e = some w) (hd : fc e ≤ 3) : (aZ p s d e).2 = w ∧ dR (aZ p s d e).1 w ∧ an w = true := Eo ho 3 e w hd h
theorem Gw {p : Pr} {s : Ps} {d : List Int} (hp : gv p) (hs : oW p s) (hd : yB p d) : oW p (b6 p s d) where
 rl := by rw [b6]; simp [aQ]
 rv := fun i hi => by
  rw [b6]; simp only; rw [bp hi]
  have h := hp.rw i hi
  exact (w5 (fL hp hs hd) h.2.2.1 h.2.2.2).2.1
 ml := by rw [b6]; simp [aQ]
 mn := fun i hi => by
  rw [b6]; simp only; rw [bp hi, pQ]
  split
  ·rw [List.length_set]; exact hs.mn i hi
  ·exact hs.mn i hi
 mv := fun i hi j hj => by
  rw [b6] at hj ⊢; simp only at hj ⊢; rw [bp hi, pQ] at hj ⊢
  have h := hp.mw i hi
  split at hj
  ·rename_i he
   rw [if_pos he]
   rw [List.length_set] at hj
   by_cases hm : (Int.tmod (aZ p s d (mN p i).addr).1 (mN p i).words).toNat < (s.mems.getD i []).length
   ·rw [cb hm]
    split
    ·exact (w5 (fL hp hs hd) h.2.2.2.2.1 h.2.2.2.2.2).2.1
    ·exact hs.mv i hi j hj
   ·rw [List.set_eq_of_length_le (by omega)]
    exact hs.mv i hi j hj
  ·rename_i he
   rw [if_neg he]
   exact hs.mv i hi j hj
theorem uO {p : Pr} {s : Ps} {hs : List Hd} {rs : List Bool} (hp : gv p) (hso : oW p s) (hh : yC p hs) : oW p (aJ p s hs rs).s := by
 unfold aJ
 split
 ·exact Gw hp hso (tG hp hh)
 ·exact hso
theorem w7 {p : Pr} {s : Ps} {hs : List Hd} {rs : List Bool} (hp : gv p) (hso : oW p s) (hh : yC p hs) {i : Nat} (hi : i < p.puts.length) (hhas : ((aJ p s hs rs).puts.getD i aO).has = true) : dR ((aJ p s hs rs).puts.getD i aO).v (rJ p i).w := by
 unfold aJ at hhas ⊢
 split
 ·rename_i hf
  rw [if_pos hf] at hhas
  simp only at hhas ⊢
  rw [bp hi] at hhas ⊢
  unfold oU at hhas ⊢
  split
  ·have h := hp.pw i hi
   exact (w5 (fL hp hso (tG hp hh)) h.2.2.1 h.2.2.2).2.1
  ·rename_i hn; rw [if_neg hn] at hhas; cases hhas
 ·rename_i hf
  rw [if_neg hf] at hhas
  simp [List.getD, List.getElem?_replicate, hi] at hhas
end Go.Proofs.YtgmpoenfoacofaaGreat
