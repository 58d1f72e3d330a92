/-
  Processes and circuits, plain data: what a process does at a tick, what a circuit does.
-/
import Derived.Test.YtgmpoenfoacofaaQPrG
namespace Go.Proofs.Ytgmpoenfoacofaa
open Go.RowKit
set_option linter.unusedVariables false
set_option linter.unusedSimpArgs false
def tab {α : Type} (f : Nat → α) (n : Nat) : List α := (List.range n).map f
theorem pc {α : Type} (f : Nat → α) (n : Nat) : tab f (n + 1) = tab f n ++ [f n] := by simp [tab, List.range_succ]
theorem aY {α : Type} (f : Nat → α) (n : Nat) : (tab f n).length = n := by simp [tab]
theorem cf {α : Type} {f : Nat → α} {n i : Nat} {d : α} (h : i < n) : (tab f n).getD i d = f i := by
 simp [tab, List.getD, List.getElem?_eq_getElem, h]
theorem rB {α β : Type} {l : List α} {d : α} (f : α → β) : l.map f = tab (fun i => f (l.getD i d)) l.length := by
 apply List.ext_getElem
 ·simp [aY]
 ·intro i h1 h2; rw [List.length_map] at h1; simp [tab, List.getD, List.getElem?_eq_getElem h1]
theorem vA {α : Type} {f : Nat → α} {l : List α} {k : Nat} (hk : k < l.length) : (tab f k ++ l.drop k).set k (f k) = tab f (k + 1) ++ l.drop (k + 1) := by
 rw [List.set_append_right _ _ (by rw [aY]; omega), aY, Nat.sub_self, pc, List.append_assoc]
 congr 1
 rw [List.drop_eq_getElem_cons hk]; rfl
theorem t2 {α : Type} {f : Nat → α} {l : List α} {k : Nat} (hk : l.length ≤ k) : tab f k ++ l.drop k = tab f k := by rw [List.drop_eq_nil_of_le hk, List.append_nil]
def cZ (f : Nat → Bool) : Nat → Bool
 | 0 => true
 | n + 1 => cZ f n && f n
theorem bn {f : Nat → Bool} : ∀ {n : Nat}, cZ f n = true ↔ ∀ i, i < n → f i = true
 | 0 => ⟨fun _ i hi => absurd hi (Nat.not_lt_zero _), fun _ => rfl⟩
 | n + 1 => by
  rw [cZ, Bool.and_eq_true, bn]
  constructor
  ·rintro ⟨h1, h2⟩ i hi
   rcases Nat.lt_or_ge i n with h | h
   ·exact h1 i h
   ·rw [show i = n by omega]; exact h2
  ·intro h; exact ⟨fun i hi => h i (by omega), h n (by omega)⟩
theorem nq {f : Nat → Bool} {n i : Nat} (hi : i < n) (h : f i = false) : cZ f n = false := by
 cases hh : cZ f n
 ·rfl
 ·rw [bn.1 hh i hi] at h; cases h
def sD (p : Pr) (s : Ps) (data : List Int) (e : Ex) : Bool := decide ((xg p s data e).1 = 1)
def zI (p : Pr) : List Int := List.replicate p.takes.length 0
abbrev pg (p : Pr) (i : Nat) : Tk := p.takes.getD i qv
abbrev mH (p : Pr) (i : Nat) : Pt := p.puts.getD i s4
abbrev uZ (p : Pr) (i : Nat) : Rg := p.regs.getD i ce
abbrev nr (p : Pr) (i : Nat) : Mm := p.mems.getD i dz
def yE (p : Pr) (s : Ps) (hs : List Hd) (i : Nat) : Int := if sD p s (zI p) (pg p i).when = true ∧ (hs.getD i wh).has = true then (hs.getD i wh).v else 0
def sF (p : Pr) (s : Ps) (hs : List Hd) : List Int := tab (yE p s hs) p.takes.length
def zJ (p : Pr) (s : Ps) (data : List Int) (i : Nat) : List Int :=
 if sD p s data (nr p i).enable = true then (s.mems.getD i []).set (Int.tmod (xg p s data (nr p i).addr).1 (nr p i).words).toNat (xg p s data (nr p i).data).1 else s.mems.getD i []
def xN (p : Pr) (s : Ps) (data : List Int) : Ps := ⟨tab (fun i => (xg p s data (uZ p i).next).1) p.regs.length, tab (zJ p s data) p.mems.length⟩
def yF (p : Pr) (s : Ps) (hs : List Hd) (i : Nat) : Bool := (hs.getD i wh).has || !sD p s (sF p s hs) (pg p i).when
def yG (p : Pr) (s : Ps) (hs : List Hd) (rs : List Bool) (i : Nat) : Bool := rs.getD i false || !sD p s (sF p s hs) (mH p i).when
def wL (p : Pr) (s : Ps) (hs : List Hd) (rs : List Bool) : Bool := cZ (yF p s hs) p.takes.length && cZ (yG p s hs rs) p.puts.length
def yH (p : Pr) (s : Ps) (hs : List Hd) (i : Nat) : Bool := sD p s (sF p s hs) (pg p i).when
def yI (p : Pr) (s : Ps) (hs : List Hd) (i : Nat) : Hd := if sD p s (sF p s hs) (mH p i).when = true then ⟨true, (xg p s (sF p s hs) (mH p i).data).1⟩ else wh
def xO (p : Pr) (s : Ps) (hs : List Hd) (rs : List Bool) : Fi :=
 if wL p s hs rs = true then ⟨true, xN p s (sF p s hs), tab (yH p s hs) p.takes.length, tab (yI p s hs) p.puts.length⟩
 else ⟨false, s, List.replicate p.takes.length false, List.replicate p.puts.length wh⟩
def aP (p : Pr) : Ps := ⟨p.regs.map (·.init), p.mems.map (fun m => List.replicate m.words.toNat 0)⟩
def gI (v w : Int) : Bool := decide (0 ≤ v) && decide (v ≤ cb w)
def wM (p : Pr) : Sc := ⟨p.regs.map (·.w), p.mems.map (·.w), p.takes.map (·.w)⟩
def zu (p : Pr) : Sc := ⟨p.regs.map (·.w), p.mems.map (·.w), []⟩
structure vB (p : Pr) : Prop where
 rl : p.regs.length ≤ 100
 ml : p.mems.length ≤ 100
 tl : p.takes.length ≤ 100
 pl : p.puts.length ≤ 100
 rw : ∀ i, i < p.regs.length → br (uZ p i).w = true ∧ o8 (uZ p i).init (uZ p i).w ∧ gd (wM p) (uZ p i).next = some (uZ p i).w ∧ gt (uZ p i).next ≤ 3
 mw : ∀ i, i < p.mems.length → br (nr p i).w = true ∧ (1 ≤ (nr p i).words ∧ (nr p i).words ≤ 4) ∧ (gd (wM p) (nr p i).enable = some 1 ∧ gt (nr p i).enable ≤ 3) ∧ ((∃ v, gd (wM p) (nr p i).addr = some v) ∧ gt (nr p i).addr ≤ 3) ∧ gd (wM p) (nr p i).data = some (nr p i).w ∧ gt (nr p i).data ≤ 3
 tw : ∀ i, i < p.takes.length → br (pg p i).w = true ∧ gd (zu p) (pg p i).when = some 1 ∧ gt (pg p i).when ≤ 3
 pw : ∀ i, i < p.puts.length → br (mH p i).w = true ∧ (gd (wM p) (mH p i).when = some 1 ∧ gt (mH p i).when ≤ 3) ∧ gd (wM p) (mH p i).data = some (mH p i).w ∧ gt (mH p i).data ≤ 3
structure wN (p : Pr) (s : Ps) : Prop where
 rl : s.regs.length = p.regs.length
 rv : ∀ i, i < p.regs.length → o8 (s.regs.getD i 0) (uZ p i).w
 ml : s.mems.length = p.mems.length
 mn : ∀ i, i < p.mems.length → ((s.mems.getD i []).length : Int) = (nr p i).words
 mv : ∀ i, i < p.mems.length → ∀ j, j < (s.mems.getD i []).length → o8 ((s.mems.getD i []).getD j 0) (nr p i).w
theorem qx {w : Int} (h : br w = true) : o8 0 w := by
 have := bl.1 h
 exact ⟨by omega, (o7 (by omega) (by omega)).1⟩
end Go.Proofs.Ytgmpoenfoacofaa
