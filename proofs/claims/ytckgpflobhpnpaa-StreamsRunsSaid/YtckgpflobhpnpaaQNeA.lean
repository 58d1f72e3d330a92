/-
  Processes and circuits, plain data: what a process does at a tick, what a circuit does.
-/
import Derived.Test.YtckgpflobhpnpaaQPrG
namespace Go.Proofs.Ytckgpflobhpnpaa
open Go.RowKit
set_option linter.unusedVariables false
set_option linter.unusedSimpArgs false
def tab {α : Type} (f : Nat → α) (n : Nat) : List α := (List.range n).map f
theorem uT {α : Type} (f : Nat → α) (n : Nat) : tab f (n + 1) = tab f n ++ [f n] := by simp [tab, List.range_succ]
theorem ap {α : Type} (f : Nat → α) (n : Nat) : (tab f n).length = n := by simp [tab]
theorem aB {α : Type} {f : Nat → α} {n i : Nat} {d : α} (h : i < n) : (tab f n).getD i d = f i := by
 simp [tab, List.getD, List.getElem?_eq_getElem, h]
theorem kJ {α : Type} {f : Nat → α} {n i : Nat} {d : α} (h : n ≤ i) : (tab f n).getD i d = d := by
 rw [List.getD, List.getElem?_eq_none (by rw [ap]; exact h)]; rfl
theorem ik {α : Type} {f g : Nat → α} {n : Nat} (h : ∀ i, i < n → f i = g i) : tab f n = tab g n := by
 unfold tab
 exact List.map_congr_left (fun a ha => h a (List.mem_range.1 ha))
theorem FV {α : Type} {l : List α} {d : α} : l = tab (fun i => l.getD i d) l.length := by
 apply List.ext_getElem
 ·rw [ap]
 ·intro i h1 h2; simp [tab, List.getD, List.getElem?_eq_getElem h1]
theorem dR {α : Type} {a b : List α} {d : α} (hl : a.length = b.length) (h : ∀ i, i < a.length → a.getD i d = b.getD i d) : a = b := by
 apply List.ext_getElem hl
 intro i h1 h2
 have := h i h1
 simpa [List.getD, List.getElem?_eq_getElem h1, List.getElem?_eq_getElem h2] using this
theorem Cz {α β : Type} {l : List α} {d : α} (f : α → β) : l.map f = tab (fun i => f (l.getD i d)) l.length := by
 apply List.ext_getElem
 ·simp [ap]
 ·intro i h1 h2; rw [List.length_map] at h1; simp [tab, List.getD, List.getElem?_eq_getElem h1]
theorem Ii {α : Type} {f : Nat → α} {l : List α} {k : Nat} (hk : k < l.length) : (tab f k ++ l.drop k).set k (f k) = tab f (k + 1) ++ l.drop (k + 1) := by
 rw [List.set_append_right _ _ (by rw [ap]; omega), ap, Nat.sub_self, uT, List.append_assoc]
 congr 1
 rw [List.drop_eq_getElem_cons hk]; rfl
theorem FW {α : Type} {f : Nat → α} {l : List α} {k : Nat} (hk : l.length ≤ k) : tab f k ++ l.drop k = tab f k := by rw [List.drop_eq_nil_of_le hk, List.append_nil]
theorem cZ {α : Type} {l : List α} {i j : Nat} {x d : α} (h : i < l.length) : (l.set i x).getD j d = if i = j then x else l.getD j d := by
 simp only [List.getD, List.getElem?_set]
 split
 ·rename_i e; subst e; simp [h]
 ·rfl
def dT (f : Nat → Bool) : Nat → Bool
 | 0 => true
 | n + 1 => dT f n && f n
theorem cH {f : Nat → Bool} : ∀ {n : Nat}, dT f n = true ↔ ∀ i, i < n → f i = true
 | 0 => ⟨fun _ i hi => absurd hi (Nat.not_lt_zero _), fun _ => rfl⟩
 | n + 1 => by
  rw [dT, Bool.and_eq_true, cH]
  constructor
  ·rintro ⟨h1, h2⟩ i hi
   rcases Nat.lt_or_ge i n with h | h
   ·exact h1 i h
   ·rw [show i = n by omega]; exact h2
  ·intro h; exact ⟨fun i hi => h i (by omega), h n (by omega)⟩
theorem qC {f : Nat → Bool} {n i : Nat} (hi : i < n) (h : f i = false) : dT f n = false := by
 cases hh : dT f n
 ·rfl
 ·rw [cH.1 hh i hi] at h; cases h
def kK (p : Pr) (s : Ps) (data : List Int) (e : Ex) : Bool := decide ((bx p s data e).1 = 1)
def uU (p : Pr) : List Int := List.replicate p.takes.length 0
abbrev lM (p : Pr) (i : Nat) : Tk := p.takes.getD i aR
abbrev sH (p : Pr) (i : Nat) : Pt := p.puts.getD i aN
abbrev Ho (p : Pr) (i : Nat) : Rg := p.regs.getD i cr
abbrev pI (p : Pr) (i : Nat) : Mm := p.mems.getD i bf
def qD (p : Pr) (s : Ps) (hs : List Hd) (i : Nat) : Int := if kK p s (uU p) (lM p i).when = true ∧ (hs.getD i aP).has = true then (hs.getD i aP).v else 0
def i5 (p : Pr) (s : Ps) (hs : List Hd) : List Int := tab (qD p s hs) p.takes.length
def zn (p : Pr) (s : Ps) (data : List Int) (i : Nat) : List Int :=
 if kK p s data (pI p i).enable = true then (s.mems.getD i []).set (Int.tmod (bx p s data (pI p i).addr).1 (pI p i).words).toNat (bx p s data (pI p i).data).1 else s.mems.getD i []
def eF (p : Pr) (s : Ps) (data : List Int) : Ps := ⟨tab (fun i => (bx p s data (Ho p i).next).1) p.regs.length, tab (zn p s data) p.mems.length⟩
def jQ (p : Pr) (s : Ps) (hs : List Hd) (i : Nat) : Bool := (hs.getD i aP).has || !kK p s (i5 p s hs) (lM p i).when
def oz (p : Pr) (s : Ps) (hs : List Hd) (rs : List Bool) (i : Nat) : Bool := rs.getD i false || !kK p s (i5 p s hs) (sH p i).when
def fo (p : Pr) (s : Ps) (hs : List Hd) (rs : List Bool) : Bool := dT (jQ p s hs) p.takes.length && dT (oz p s hs rs) p.puts.length
def oA (p : Pr) (s : Ps) (hs : List Hd) (i : Nat) : Bool := kK p s (i5 p s hs) (lM p i).when
def oB (p : Pr) (s : Ps) (hs : List Hd) (i : Nat) : Hd := if kK p s (i5 p s hs) (sH p i).when = true then ⟨true, (bx p s (i5 p s hs) (sH p i).data).1⟩ else aP
def aL (p : Pr) (s : Ps) (hs : List Hd) (rs : List Bool) : Fi :=
 if fo p s hs rs = true then ⟨true, eF p s (i5 p s hs), tab (oA p s hs) p.takes.length, tab (oB p s hs) p.puts.length⟩
 else ⟨false, s, List.replicate p.takes.length false, List.replicate p.puts.length aP⟩
def aQ (p : Pr) : Ps := ⟨p.regs.map (·.init), p.mems.map (fun m => List.replicate m.words.toNat 0)⟩
def kL (v w : Int) : Bool := decide (0 ≤ v) && decide (v ≤ an w)
theorem FX {v w : Int} : kL v w = true ↔ dt v w := by simp [kL, dt]
def qE (p : Pr) : Sc := ⟨p.regs.map (·.w), p.mems.map (·.w), p.takes.map (·.w)⟩
def NP (p : Pr) : Sc := ⟨p.regs.map (·.w), p.mems.map (·.w), []⟩
structure gP (p : Pr) : Prop where
 rl : p.regs.length ≤ 100
 ml : p.mems.length ≤ 100
 tl : p.takes.length ≤ 100
 pl : p.puts.length ≤ 100
 rw : ∀ i, i < p.regs.length → ay (Ho p i).w = true ∧ dt (Ho p i).init (Ho p i).w ∧ e9 (qE p) (Ho p i).next = some (Ho p i).w ∧ fS (Ho p i).next ≤ 3
 mw : ∀ i, i < p.mems.length → ay (pI p i).w = true ∧ (1 ≤ (pI p i).words ∧ (pI p i).words ≤ 4) ∧ (e9 (qE p) (pI p i).enable = some 1 ∧ fS (pI p i).enable ≤ 3) ∧ ((∃ v, e9 (qE p) (pI p i).addr = some v) ∧ fS (pI p i).addr ≤ 3) ∧ e9 (qE p) (pI p i).data = some (pI p i).w ∧ fS (pI p i).data ≤ 3
 tw : ∀ i, i < p.takes.length → ay (lM p i).w = true ∧ e9 (NP p) (lM p i).when = some 1 ∧ fS (lM p i).when ≤ 3
 pw : ∀ i, i < p.puts.length → ay (sH p i).w = true ∧ (e9 (qE p) (sH p i).when = some 1 ∧ fS (sH p i).when ≤ 3) ∧ e9 (qE p) (sH p i).data = some (sH p i).w ∧ fS (sH p i).data ≤ 3
structure qF (p : Pr) (s : Ps) : Prop where
 rl : s.regs.length = p.regs.length
 rv : ∀ i, i < p.regs.length → dt (s.regs.getD i 0) (Ho p i).w
 ml : s.mems.length = p.mems.length
 mn : ∀ i, i < p.mems.length → ((s.mems.getD i []).length : Int) = (pI p i).words
 mv : ∀ i, i < p.mems.length → ∀ j, j < (s.mems.getD i []).length → dt ((s.mems.getD i []).getD j 0) (pI p i).w
structure AR (p : Pr) (d : List Int) : Prop where
 l : d.length = p.takes.length
 v : ∀ i, i < p.takes.length → dt (d.getD i 0) (lM p i).w
structure AU (p : Pr) (hs : List Hd) : Prop where
 l : hs.length = p.takes.length
 v : ∀ i, i < p.takes.length → (hs.getD i aP).has = true → dt (hs.getD i aP).v (lM p i).w
set_option maxHeartbeats 1600000 in
theorem mu {p : Pr} {s : Ps} {d : List Int} (hp : gP p) (hs : qF p s) (hd : AR p d) : xJ (qE p) p s d where
 prl := by simp [qE]
 prw := fun i hi => by
  have hi' : i < p.regs.length := by simpa [qE] using hi
  show (p.regs.getD i cr).w = (p.regs.map (·.w)).getD i 0
  rw [cY (·.w) p.regs i cr 0 hi']
 pml := by simp [qE]
 pmw := fun i hi => by
  have hi' : i < p.mems.length := by simpa [qE] using hi
  show (p.mems.getD i bf).w = (p.mems.map (·.w)).getD i 0
  rw [cY (·.w) p.mems i bf 0 hi']
 ptl := by simp [qE]
 ptw := fun i hi => by
  have hi' : i < p.takes.length := by simpa [qE] using hi
  show (p.takes.getD i aR).w = (p.takes.map (·.w)).getD i 0
  rw [cY (·.w) p.takes i aR 0 hi']
 srl := (hs.rl).trans (by simp [qE])
 srv := fun i hi => by
  have hi' : i < p.regs.length := by simpa [qE] using hi
  show dt _ ((p.regs.map (·.w)).getD i 0)
  rw [cY (·.w) p.regs i cr 0 hi']
  exact hs.rv i hi'
 sml := (hs.ml).trans (by simp [qE])
 smn := fun i hi => by
  have hi' : i < p.mems.length := by simpa [qE] using hi
  have := hs.mn i hi'
  have := (hp.mw i hi').2.1
  omega
 smv := fun i hi j hj => by
  have hi' : i < p.mems.length := by simpa [qE] using hi
  show dt _ ((p.mems.map (·.w)).getD i 0)
  rw [cY (·.w) p.mems i bf 0 hi']
  exact hs.mv i hi' j hj
 dl := (hd.l).trans (by simp [qE])
 dv := fun i hi => by
  have hi' : i < p.takes.length := by simpa [qE] using hi
  show dt _ ((p.takes.map (·.w)).getD i 0)
  rw [cY (·.w) p.takes i aR 0 hi']
  exact hd.v i hi'
 rok := fun i hi => by
  have hi' : i < p.regs.length := by simpa [qE] using hi
  show ay ((p.regs.map (·.w)).getD i 0) = true
  rw [cY (·.w) p.regs i cr 0 hi']
  exact (hp.rw i hi').1
 mok := fun i hi => by
  have hi' : i < p.mems.length := by simpa [qE] using hi
  show ay ((p.mems.map (·.w)).getD i 0) = true
  rw [cY (·.w) p.mems i bf 0 hi']
  exact (hp.mw i hi').1
 tok := fun i hi => by
  have hi' : i < p.takes.length := by simpa [qE] using hi
  show ay ((p.takes.map (·.w)).getD i 0) = true
  rw [cY (·.w) p.takes i aR 0 hi']
  exact (hp.tw i hi').1
theorem Ij {c : Sc} {p : Pr} {s : Ps} (d d' : List Int) : ∀ (n : Nat) (e : Ex) (w : Int), fS e ≤ n → e9 ⟨c.rw, c.mw, []⟩ e = some w → e9 c e = some w ∧ bx p s d e = bx p s d' e := by
 intro n
 induction n with
 | zero => intro e w hd; cases e with | mk op name k w args => rw [fS] at hd; omega
 | succ n ih =>
  intro e w hd hty
  obtain ⟨ws, hws, hc⟩ := iC hty
  obtain ⟨hl, hget⟩ := nr hws
  have hargs : ∀ i, i < e.args.length → e9 c (e.args.getD i dE) = some (ws.getD i 0) ∧ bx p s d (e.args.getD i dE) = bx p s d' (e.args.getD i dE) := fun i hi => ih _ _ (by have := Cq hi; omega) (hget i hi)
  have hL : ∀ (l : List Ex) (ws : List Int), ws.length = l.length → (∀ i, i < l.length → e9 c (l.getD i dE) = some (ws.getD i 0)) → e9.tyL c l = some ws := by
   intro l
   induction l with
   | nil => intro ws h _; cases ws with | nil => rfl | cons a r => cases h
   | cons a r ihr =>
    intro ws h hh
    cases ws with
    | nil => cases h
    | cons w0 wr =>
     have h0 : e9 c a = some w0 := hh 0 (by simp)
     have h1 := ihr wr (by simpa using h) (fun i hi => hh (i + 1) (by simpa using hi))
     rw [e9.tyL, h0, h1]
  have hmap : e.args.map (bx p s d) = e.args.map (bx p s d') := by
   apply List.map_congr_left
   intro a ha
   obtain ⟨i, hi, rfl⟩ := List.mem_iff_getElem.1 ha
   have := (hargs i hi).2
   simpa [List.getD, List.getElem?_eq_getElem hi] using this
  have hws' := hL e.args ws hl (fun i hi => (hargs i hi).1)
  refine ⟨?_, ?_⟩
  ·cases e with
   | mk op name k w0 args =>
    rw [e9, hws']
    simp only at hc ⊢
    rcases hc with ⟨h1, h2, h3, h4, rfl⟩ | ⟨h1, h2, h3, h4, rfl⟩ | ⟨h1, h2, h3, h4, rfl⟩ | ⟨h1, h2, h2', h3, rfl⟩
    ·rw [if_pos h1, if_pos ⟨h2, h3, h4⟩]
    ·exact absurd h4 (by simp; omega)
    ·rw [if_neg (by omega), if_neg (by omega), if_pos h1, if_pos ⟨h2, h3, h4⟩]
    ·rw [if_neg h1, if_neg h2', if_neg h2, if_pos h3]
  ·rw [pH, pH p s d', hmap]
   have h18 : e.op ≠ 18 := by
    rcases hc with ⟨h1, h2, h3, h4, rfl⟩ | ⟨h1, h2, h3, h4, rfl⟩ | ⟨h1, h2, h3, h4, rfl⟩ | ⟨h1, h2, h2', h3, rfl⟩
    ·omega
    ·exact absurd h4 (by simp; omega)
    ·omega
    ·exact h2'
   rw [if_neg h18, if_neg h18]
theorem il {p : Pr} {s : Ps} (hp : gP p) {i : Nat} (hi : i < p.takes.length) (d d' : List Int) : kK p s d (lM p i).when = kK p s d' (lM p i).when ∧ e9 (qE p) (lM p i).when = some 1 := by
 obtain ⟨h1, h2, h3⟩ := hp.tw i hi
 have h := Ij (c := qE p) (p := p) (s := s) d d' 3 _ 1 h3 h2
 exact ⟨by unfold kK; rw [h.2], h.1⟩
theorem pJ {w : Int} (h : ay w = true) : dt 0 w := by
 have := bo.1 h
 exact ⟨by omega, (az (by omega) (by omega)).1⟩
theorem LM {p : Pr} (hp : gP p) : AR p (uU p) where
 l := by simp [uU]
 v := fun i hi => by
  have e : (uU p).getD i 0 = 0 := by simp [uU, List.getD, List.getElem?_replicate]; split <;> rfl
  rw [e]; exact pJ (hp.tw i hi).1
theorem AV {p : Pr} {s : Ps} {hs : List Hd} (hp : gP p) (hh : AU p hs) : AR p (i5 p s hs) where
 l := by rw [i5, ap]
 v := fun i hi => by
  rw [i5, aB hi, qD]
  split
  ·rename_i h; exact hh.v i hi h.2
  ·exact pJ (hp.tw i hi).1
theorem kM (p : Pr) (s : Ps) (hs : List Hd) (rs : List Bool) : (aL p s hs rs).fires = fo p s hs rs := by
 unfold aL; split <;> simp_all
theorem oX (p : Pr) (s : Ps) (hs : List Hd) (rs : List Bool) : (aL p s hs rs).pops.length = p.takes.length := by
 unfold aL; split <;> simp [ap]
theorem jy (p : Pr) (s : Ps) (hs : List Hd) (rs : List Bool) : (aL p s hs rs).puts.length = p.puts.length := by
 unfold aL; split <;> simp [ap]
theorem xL {p : Pr} {s : Ps} {d : List Int} {e : Ex} {w : Int} (ho : xJ (qE p) p s d) (h : e9 (qE p) e = some w) (hd : fS e ≤ 3) : (bx p s d e).2 = w ∧ dt (bx p s d e).1 w ∧ ay w = true := Jk ho 3 e w hd h
theorem Ik {p : Pr} {s : Ps} {d : List Int} (hp : gP p) (hs : qF p s) (hd : AR p d) : qF p (eF p s d) where
 rl := by rw [eF]; simp [ap]
 rv := fun i hi => by
  rw [eF]; simp only; rw [aB hi]
  have h := hp.rw i hi
  exact (xL (mu hp hs hd) h.2.2.1 h.2.2.2).2.1
 ml := by rw [eF]; simp [ap]
 mn := fun i hi => by
  rw [eF]; simp only; rw [aB hi, zn]
  split
  ·rw [List.length_set]; exact hs.mn i hi
  ·exact hs.mn i hi
 mv := fun i hi j hj => by
  rw [eF] at hj ⊢; simp only at hj ⊢; rw [aB hi, zn] at hj ⊢
  have h := hp.mw i hi
  split at hj
  ·rename_i he
   rw [if_pos he]
   rw [List.length_set] at hj
   by_cases hm : (Int.tmod (bx p s d (pI p i).addr).1 (pI p i).words).toNat < (s.mems.getD i []).length
   ·rw [cZ hm]
    split
    ·exact (xL (mu hp hs hd) h.2.2.2.2.1 h.2.2.2.2.2).2.1
    ·exact hs.mv i hi j hj
   ·rw [List.set_eq_of_length_le (by omega)]
    exact hs.mv i hi j hj
  ·rename_i he
   rw [if_neg he]
   exact hs.mv i hi j hj
theorem oY {p : Pr} {s : Ps} {hs : List Hd} {rs : List Bool} (hp : gP p) (hso : qF p s) (hh : AU p hs) : qF p (aL p s hs rs).s := by
 unfold aL
 split
 ·exact Ik hp hso (AV hp hh)
 ·exact hso
theorem qG {p : Pr} {s : Ps} {hs : List Hd} {rs : List Bool} (hp : gP p) (hso : qF p s) (hh : AU p hs) {i : Nat} (hi : i < p.puts.length) (hhas : ((aL p s hs rs).puts.getD i aP).has = true) : dt ((aL p s hs rs).puts.getD i aP).v (sH p i).w := by
 unfold aL at hhas ⊢
 split
 ·rename_i hf
  rw [if_pos hf] at hhas
  simp only at hhas ⊢
  rw [aB hi] at hhas ⊢
  unfold oB at hhas ⊢
  split
  ·have h := hp.pw i hi
   exact (xL (mu hp hso (AV hp hh)) h.2.2.1 h.2.2.2).2.1
  ·rename_i hn; rw [if_neg hn] at hhas; cases hhas
 ·rename_i hf
  rw [if_neg hf] at hhas
  simp [List.getD, List.getElem?_replicate, hi] at hhas
end Go.Proofs.Ytckgpflobhpnpaa
