/-
  Processes and circuits, plain data: what a process does at a tick, what a circuit does.
-/
import Derived.Test.YtifoecfajmnjjaaGreatQPrG
namespace Go.Proofs.YtifoecfajmnjjaaGreat
open Go.RowKit
set_option linter.unusedVariables false
set_option linter.unusedSimpArgs false
def an {α : Type} (f : Nat → α) (n : Nat) : List α := (List.range n).map f
theorem sI {α : Type} (f : Nat → α) (n : Nat) : an f (n + 1) = an f n ++ [f n] := by simp [an, List.range_succ]
theorem aM {α : Type} (f : Nat → α) (n : Nat) : (an f n).length = n := by simp [an]
theorem bA {α : Type} {f : Nat → α} {n i : Nat} {d : α} (h : i < n) : (an f n).getD i d = f i := by
 simp [an, List.getD, List.getElem?_eq_getElem, h]
theorem EX {α : Type} {f : Nat → α} {n i : Nat} {d : α} (h : n ≤ i) : (an f n).getD i d = d := by
 rw [List.getD, List.getElem?_eq_none (by rw [aM]; exact h)]; rfl
theorem qy {α : Type} {f g : Nat → α} {n : Nat} (h : ∀ i, i < n → f i = g i) : an f n = an g n := by
 unfold an
 exact List.map_congr_left (fun a ha => h a (List.mem_range.1 ha))
theorem Dk {α : Type} {l : List α} {d : α} : l = an (fun i => l.getD i d) l.length := by
 apply List.ext_getElem
 ·rw [aM]
 ·intro i h1 h2; simp [an, List.getD, List.getElem?_eq_getElem h1]
theorem pg {α : Type} {a b : List α} {d : α} (hl : a.length = b.length) (h : ∀ i, i < a.length → a.getD i d = b.getD i d) : a = b := by
 apply List.ext_getElem hl
 intro i h1 h2
 have := h i h1
 simpa [List.getD, List.getElem?_eq_getElem h1, List.getElem?_eq_getElem h2] using this
theorem z4 {α β : Type} {l : List α} {d : α} (f : α → β) : l.map f = an (fun i => f (l.getD i d)) l.length := by
 apply List.ext_getElem
 ·simp [aM]
 ·intro i h1 h2; rw [List.length_map] at h1; simp [an, List.getD, List.getElem?_eq_getElem h1]
theorem EY {α : Type} {f : Nat → α} {l : List α} {k : Nat} (hk : k < l.length) : (an f k ++ l.drop k).set k (f k) = an f (k + 1) ++ l.drop (k + 1) := by
 rw [List.set_append_right _ _ (by rw [aM]; omega), aM, Nat.sub_self, sI, List.append_assoc]
 congr 1
 rw [List.drop_eq_getElem_cons hk]; rfl
theorem Dl {α : Type} {f : Nat → α} {l : List α} {k : Nat} (hk : l.length ≤ k) : an f k ++ l.drop k = an f k := by rw [List.drop_eq_nil_of_le hk, List.append_nil]
theorem b6 {α : Type} {l : List α} {i j : Nat} {x d : α} (h : i < l.length) : (l.set i x).getD j d = if i = j then x else l.getD j d := by
 simp only [List.getD, List.getElem?_set]
 split
 ·rename_i e; subst e; simp [h]
 ·rfl
def dq (f : Nat → Bool) : Nat → Bool
 | 0 => true
 | n + 1 => dq f n && f n
theorem ck {f : Nat → Bool} : ∀ {n : Nat}, dq f n = true ↔ ∀ i, i < n → f i = true
 | 0 => ⟨fun _ i hi => absurd hi (Nat.not_lt_zero _), fun _ => rfl⟩
 | n + 1 => by
  rw [dq, Bool.and_eq_true, ck]
  constructor
  ·rintro ⟨h1, h2⟩ i hi
   rcases Nat.lt_or_ge i n with h | h
   ·exact h1 i h
   ·rw [show i = n by omega]; exact h2
  ·intro h; exact ⟨fun i hi => h i (by omega), h n (by omega)⟩
theorem i5 {f : Nat → Bool} {n i : Nat} (hi : i < n) (h : f i = false) : dq f n = false := by
 cases hh : dq f n
 ·rfl
 ·rw [ck.1 hh i hi] at h; cases h
def dW (p : Pr) (s : Ps) (data : List Int) (e : Ex) : Bool := decide ((bc p s data e).1 = 1)
def iL (p : Pr) : List Int := List.replicate p.takes.length 0
abbrev kS (p : Pr) (i : Nat) : Tk := p.takes.getD i bq
abbrev qW (p : Pr) (i : Nat) : Pt := p.puts.getD i a5
abbrev Bl (p : Pr) (i : Nat) : Rg := p.regs.getD i bG
abbrev kN (p : Pr) (i : Nat) : Mm := p.mems.getD i aR
def lu (p : Pr) (s : Ps) (hs : List Hd) (i : Nat) : Int := if dW p s (iL p) (kS p i).when = true ∧ (hs.getD i aG).has = true then (hs.getD i aG).v else 0
def bV (p : Pr) (s : Ps) (hs : List Hd) : List Int := an (lu p s hs) p.takes.length
def pU (p : Pr) (s : Ps) (data : List Int) (i : Nat) : List Int :=
 if dW p s data (kN p i).enable = true then (s.mems.getD i []).set (Int.tmod (bc p s data (kN p i).addr).1 (kN p i).words).toNat (bc p s data (kN p i).data).1 else s.mems.getD i []
def co (p : Pr) (s : Ps) (data : List Int) : Ps := ⟨an (fun i => (bc p s data (Bl p i).next).1) p.regs.length, an (pU p s data) p.mems.length⟩
def iQ (p : Pr) (s : Ps) (hs : List Hd) (i : Nat) : Bool := (hs.getD i aG).has || !dW p s (bV p s hs) (kS p i).when
def j9 (p : Pr) (s : Ps) (hs : List Hd) (rs : List Bool) (i : Nat) : Bool := rs.getD i false || !dW p s (bV p s hs) (qW p i).when
def gC (p : Pr) (s : Ps) (hs : List Hd) (rs : List Bool) : Bool := dq (iQ p s hs) p.takes.length && dq (j9 p s hs rs) p.puts.length
def ph (p : Pr) (s : Ps) (hs : List Hd) (i : Nat) : Bool := dW p s (bV p s hs) (kS p i).when
def pi (p : Pr) (s : Ps) (hs : List Hd) (i : Nat) : Hd := if dW p s (bV p s hs) (qW p i).when = true then ⟨true, (bc p s (bV p s hs) (qW p i).data).1⟩ else aG
def aV (p : Pr) (s : Ps) (hs : List Hd) (rs : List Bool) : Fi :=
 if gC p s hs rs = true then ⟨true, co p s (bV p s hs), an (ph p s hs) p.takes.length, an (pi p s hs) p.puts.length⟩
 else ⟨false, s, List.replicate p.takes.length false, List.replicate p.puts.length aG⟩
def aX (p : Pr) : Ps := ⟨p.regs.map (·.init), p.mems.map (fun m => List.replicate m.words.toNat 0)⟩
def cr (v w : Int) : Bool := decide (0 ≤ v) && decide (v ≤ aj w)
theorem wZ {v w : Int} : cr v w = true ↔ dG v w := by simp [cr, dG]
def gD (p : Pr) (s : Ps) (i : Nat) : Bool := decide (((s.mems.getD i []).length : Int) = (kN p i).words) && dq (fun j => cr ((s.mems.getD i []).getD j 0) (kN p i).w) (s.mems.getD i []).length
def br (p : Pr) (s : Ps) : Bool := decide (s.regs.length = p.regs.length) && decide (s.mems.length = p.mems.length) && dq (fun i => cr (s.regs.getD i 0) (Bl p i).w) s.regs.length && dq (gD p s) s.mems.length
def pj (p : Pr) : Sc := ⟨p.regs.map (·.w), p.mems.map (·.w), p.takes.map (·.w)⟩
def JV (p : Pr) : Sc := ⟨p.regs.map (·.w), p.mems.map (·.w), []⟩
structure fS (p : Pr) : Prop where
 rl : p.regs.length ≤ 100
 ml : p.mems.length ≤ 100
 tl : p.takes.length ≤ 100
 pl : p.puts.length ≤ 100
 rw : ∀ i, i < p.regs.length → ax (Bl p i).w = true ∧ dG (Bl p i).init (Bl p i).w ∧ eH (pj p) (Bl p i).next = some (Bl p i).w ∧ fq (Bl p i).next ≤ 3
 mw : ∀ i, i < p.mems.length → ax (kN p i).w = true ∧ (1 ≤ (kN p i).words ∧ (kN p i).words ≤ 4) ∧ (eH (pj p) (kN p i).enable = some 1 ∧ fq (kN p i).enable ≤ 3) ∧ ((∃ v, eH (pj p) (kN p i).addr = some v) ∧ fq (kN p i).addr ≤ 3) ∧ eH (pj p) (kN p i).data = some (kN p i).w ∧ fq (kN p i).data ≤ 3
 tw : ∀ i, i < p.takes.length → ax (kS p i).w = true ∧ eH (JV p) (kS p i).when = some 1 ∧ fq (kS p i).when ≤ 3
 pw : ∀ i, i < p.puts.length → ax (qW p i).w = true ∧ (eH (pj p) (qW p i).when = some 1 ∧ fq (qW p i).when ≤ 3) ∧ eH (pj p) (qW p i).data = some (qW p i).w ∧ fq (qW p i).data ≤ 3
structure nQ (p : Pr) (s : Ps) : Prop where
 rl : s.regs.length = p.regs.length
 rv : ∀ i, i < p.regs.length → dG (s.regs.getD i 0) (Bl p i).w
 ml : s.mems.length = p.mems.length
 mn : ∀ i, i < p.mems.length → ((s.mems.getD i []).length : Int) = (kN p i).words
 mv : ∀ i, i < p.mems.length → ∀ j, j < (s.mems.getD i []).length → dG ((s.mems.getD i []).getD j 0) (kN p i).w
structure w3 (p : Pr) (d : List Int) : Prop where
 l : d.length = p.takes.length
 v : ∀ i, i < p.takes.length → dG (d.getD i 0) (kS p i).w
structure w4 (p : Pr) (hs : List Hd) : Prop where
 l : hs.length = p.takes.length
 v : ∀ i, i < p.takes.length → (hs.getD i aG).has = true → dG (hs.getD i aG).v (kS p i).w
theorem Bm {p : Pr} {s : Ps} : br p s = true ↔ nQ p s := by
 unfold br gD
 simp only [Bool.and_eq_true, decide_eq_true_eq, ck, wZ]
 constructor
 ·rintro ⟨⟨⟨h1, h2⟩, h3⟩, h4⟩
  exact ⟨h1, fun i hi => h3 i (by omega), h2, fun i hi => (h4 i (by omega)).1, fun i hi => (h4 i (by omega)).2⟩
 ·intro h
  exact ⟨⟨⟨h.rl, h.ml⟩, fun i hi => h.rv i (by have := h.rl; omega)⟩, fun i hi => ⟨h.mn i (by have := h.ml; omega), h.mv i (by have := h.ml; omega)⟩⟩
set_option maxHeartbeats 1600000 in
theorem gm {p : Pr} {s : Ps} {d : List Int} (hp : fS p) (hs : nQ p s) (hd : w3 p d) : qu (pj p) p s d where
 prl := by simp [pj]
 prw := fun i hi => by
  have hi' : i < p.regs.length := by simpa [pj] using hi
  show (p.regs.getD i bG).w = (p.regs.map (·.w)).getD i 0
  rw [dh (·.w) p.regs i bG 0 hi']
 pml := by simp [pj]
 pmw := fun i hi => by
  have hi' : i < p.mems.length := by simpa [pj] using hi
  show (p.mems.getD i aR).w = (p.mems.map (·.w)).getD i 0
  rw [dh (·.w) p.mems i aR 0 hi']
 ptl := by simp [pj]
 ptw := fun i hi => by
  have hi' : i < p.takes.length := by simpa [pj] using hi
  show (p.takes.getD i bq).w = (p.takes.map (·.w)).getD i 0
  rw [dh (·.w) p.takes i bq 0 hi']
 srl := (hs.rl).trans (by simp [pj])
 srv := fun i hi => by
  have hi' : i < p.regs.length := by simpa [pj] using hi
  show dG _ ((p.regs.map (·.w)).getD i 0)
  rw [dh (·.w) p.regs i bG 0 hi']
  exact hs.rv i hi'
 sml := (hs.ml).trans (by simp [pj])
 smn := fun i hi => by
  have hi' : i < p.mems.length := by simpa [pj] using hi
  have := hs.mn i hi'
  have := (hp.mw i hi').2.1
  omega
 smv := fun i hi j hj => by
  have hi' : i < p.mems.length := by simpa [pj] using hi
  show dG _ ((p.mems.map (·.w)).getD i 0)
  rw [dh (·.w) p.mems i aR 0 hi']
  exact hs.mv i hi' j hj
 dl := (hd.l).trans (by simp [pj])
 dv := fun i hi => by
  have hi' : i < p.takes.length := by simpa [pj] using hi
  show dG _ ((p.takes.map (·.w)).getD i 0)
  rw [dh (·.w) p.takes i bq 0 hi']
  exact hd.v i hi'
 rok := fun i hi => by
  have hi' : i < p.regs.length := by simpa [pj] using hi
  show ax ((p.regs.map (·.w)).getD i 0) = true
  rw [dh (·.w) p.regs i bG 0 hi']
  exact (hp.rw i hi').1
 mok := fun i hi => by
  have hi' : i < p.mems.length := by simpa [pj] using hi
  show ax ((p.mems.map (·.w)).getD i 0) = true
  rw [dh (·.w) p.mems i aR 0 hi']
  exact (hp.mw i hi').1
 tok := fun i hi => by
  have hi' : i < p.takes.length := by simpa [pj] using hi
  show ax ((p.takes.map (·.w)).getD i 0) = true
  rw [dh (·.w) p.takes i bq 0 hi']
  exact (hp.tw i hi').1
theorem EZ {c : Sc} {p : Pr} {s : Ps} (d d' : List Int) : ∀ (n : Nat) (e : Ex) (w : Int), fq e ≤ n → eH ⟨c.rw, c.mw, []⟩ e = some w → eH c e = some w ∧ bc p s d e = bc p s d' e := by
 intro n
 induction n with
 | zero => intro e w hd; cases e with | mk op name k w args => rw [fq] at hd; omega
 | succ n ih =>
  intro e w hd hty
  obtain ⟨ws, hws, hc⟩ := gk hty
  obtain ⟨hl, hget⟩ := j8 hws
  have hargs : ∀ i, i < e.args.length → eH c (e.args.getD i dE) = some (ws.getD i 0) ∧ bc p s d (e.args.getD i dE) = bc p s d' (e.args.getD i dE) := fun i hi => ih _ _ (by have := zR hi; omega) (hget i hi)
  have hL : ∀ (l : List Ex) (ws : List Int), ws.length = l.length → (∀ i, i < l.length → eH c (l.getD i dE) = some (ws.getD i 0)) → eH.tyL c l = some ws := by
   intro l
   induction l with
   | nil => intro ws h _; cases ws with | nil => rfl | cons a r => cases h
   | cons a r ihr =>
    intro ws h hh
    cases ws with
    | nil => cases h
    | cons w0 wr =>
     have h0 : eH c a = some w0 := hh 0 (by simp)
     have h1 := ihr wr (by simpa using h) (fun i hi => hh (i + 1) (by simpa using hi))
     rw [eH.tyL, h0, h1]
  have hmap : e.args.map (bc p s d) = e.args.map (bc p s d') := by
   apply List.map_congr_left
   intro a ha
   obtain ⟨i, hi, rfl⟩ := List.mem_iff_getElem.1 ha
   have := (hargs i hi).2
   simpa [List.getD, List.getElem?_eq_getElem hi] using this
  have hws' := hL e.args ws hl (fun i hi => (hargs i hi).1)
  refine ⟨?_, ?_⟩
  ·cases e with
   | mk op name k w0 args =>
    rw [eH, hws']
    simp only at hc ⊢
    rcases hc with ⟨h1, h2, h3, h4, rfl⟩ | ⟨h1, h2, h3, h4, rfl⟩ | ⟨h1, h2, h3, h4, rfl⟩ | ⟨h1, h2, h2', h3, rfl⟩
    ·rw [if_pos h1, if_pos ⟨h2, h3, h4⟩]
    ·exact absurd h4 (by simp; omega)
    ·rw [if_neg (by omega), if_neg (by omega), if_pos h1, if_pos ⟨h2, h3, h4⟩]
    ·rw [if_neg h1, if_neg h2', if_neg h2, if_pos h3]
  ·rw [nP, nP p s d', hmap]
   have h18 : e.op ≠ 18 := by
    rcases hc with ⟨h1, h2, h3, h4, rfl⟩ | ⟨h1, h2, h3, h4, rfl⟩ | ⟨h1, h2, h3, h4, rfl⟩ | ⟨h1, h2, h2', h3, rfl⟩
    ·omega
    ·exact absurd h4 (by simp; omega)
    ·omega
    ·exact h2'
   rw [if_neg h18, if_neg h18]
theorem jx {p : Pr} {s : Ps} (hp : fS p) {i : Nat} (hi : i < p.takes.length) (d d' : List Int) : dW p s d (kS p i).when = dW p s d' (kS p i).when ∧ eH (pj p) (kS p i).when = some 1 := by
 obtain ⟨h1, h2, h3⟩ := hp.tw i hi
 have h := EZ (c := pj p) (p := p) (s := s) d d' 3 _ 1 h3 h2
 exact ⟨by unfold dW; rw [h.2], h.1⟩
theorem nR {w : Int} (h : ax w = true) : dG 0 w := by
 have := aW.1 h
 exact ⟨by omega, (aB (by omega) (by omega)).1⟩
theorem FM {p : Pr} (hp : fS p) : w3 p (iL p) where
 l := by simp [iL]
 v := fun i hi => by
  have e : (iL p).getD i 0 = 0 := by simp [iL, List.getD, List.getElem?_replicate]; split <;> rfl
  rw [e]; exact nR (hp.tw i hi).1
theorem sJ {p : Pr} {s : Ps} {hs : List Hd} (hp : fS p) (hh : w4 p hs) : w3 p (bV p s hs) where
 l := by rw [bV, aM]
 v := fun i hi => by
  rw [bV, bA hi, lu]
  split
  ·rename_i h; exact hh.v i hi h.2
  ·exact nR (hp.tw i hi).1
theorem yE (p : Pr) (s : Ps) (hs : List Hd) (rs : List Bool) : (aV p s hs rs).fires = gC p s hs rs := by
 unfold aV; split <;> simp_all
theorem eK (p : Pr) (s : Ps) (hs : List Hd) (rs : List Bool) : (aV p s hs rs).pops.length = p.takes.length := by
 unfold aV; split <;> simp [aM]
theorem eL (p : Pr) (s : Ps) (hs : List Hd) (rs : List Bool) : (aV p s hs rs).puts.length = p.puts.length := by
 unfold aV; split <;> simp [aM]
theorem vA {p : Pr} {s : Ps} {d : List Int} {e : Ex} {w : Int} (ho : qu (pj p) p s d) (h : eH (pj p) e = some w) (hd : fq e ≤ 3) : (bc p s d e).2 = w ∧ dG (bc p s d e).1 w ∧ ax w = true := C5 ho 3 e w hd h
theorem E1 {p : Pr} {s : Ps} {d : List Int} (hp : fS p) (hs : nQ p s) (hd : w3 p d) : nQ p (co p s d) where
 rl := by rw [co]; simp [aM]
 rv := fun i hi => by
  rw [co]; simp only; rw [bA hi]
  have h := hp.rw i hi
  exact (vA (gm hp hs hd) h.2.2.1 h.2.2.2).2.1
 ml := by rw [co]; simp [aM]
 mn := fun i hi => by
  rw [co]; simp only; rw [bA hi, pU]
  split
  ·rw [List.length_set]; exact hs.mn i hi
  ·exact hs.mn i hi
 mv := fun i hi j hj => by
  rw [co] at hj ⊢; simp only at hj ⊢; rw [bA hi, pU] at hj ⊢
  have h := hp.mw i hi
  split at hj
  ·rename_i he
   rw [if_pos he]
   rw [List.length_set] at hj
   by_cases hm : (Int.tmod (bc p s d (kN p i).addr).1 (kN p i).words).toNat < (s.mems.getD i []).length
   ·rw [b6 hm]
    split
    ·exact (vA (gm hp hs hd) h.2.2.2.2.1 h.2.2.2.2.2).2.1
    ·exact hs.mv i hi j hj
   ·rw [List.set_eq_of_length_le (by omega)]
    exact hs.mv i hi j hj
  ·rename_i he
   rw [if_neg he]
   exact hs.mv i hi j hj
theorem tv {p : Pr} {s : Ps} {hs : List Hd} {rs : List Bool} (hp : fS p) (hso : nQ p s) (hh : w4 p hs) : nQ p (aV p s hs rs).s := by
 unfold aV
 split
 ·exact E1 hp hso (sJ hp hh)
 ·exact hso
theorem vB {p : Pr} {s : Ps} {hs : List Hd} {rs : List Bool} (hp : fS p) (hso : nQ p s) (hh : w4 p hs) {i : Nat} (hi : i < p.puts.length) (hhas : ((aV p s hs rs).puts.getD i aG).has = true) : dG ((aV p s hs rs).puts.getD i aG).v (qW p i).w := by
 unfold aV at hhas ⊢
 split
 ·rename_i hf
  rw [if_pos hf] at hhas
  simp only at hhas ⊢
  rw [bA hi] at hhas ⊢
  unfold pi at hhas ⊢
  split
  ·have h := hp.pw i hi
   exact (vA (gm hp hso (sJ hp hh)) h.2.2.1 h.2.2.2).2.1
  ·rename_i hn; rw [if_neg hn] at hhas; cases hhas
 ·rename_i hf
  rw [if_neg hf] at hhas
  simp [List.getD, List.getElem?_replicate, hi] at hhas
end Go.Proofs.YtifoecfajmnjjaaGreat
