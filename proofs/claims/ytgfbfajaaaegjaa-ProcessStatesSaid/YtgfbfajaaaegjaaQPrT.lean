/-
  Processes, plain law: equality of states and firings; more facts for the walks.
-/
import Derived.Test.YtgfbfajaaaegjaaQPrS
namespace Go.Proofs.Ytgfbfajaaaegjaa
open Go.RowKit
set_option linter.unusedVariables false
set_option linter.unusedSimpArgs false
def cj (a b : Ps) : Bool := decide (a.regs = b.regs) && decide (a.mems = b.mems)
theorem dV {a b : Ps} : cj a b = true ↔ a = b := by
 cases a; cases b; simp [cj]
def eE (a b : Hd) : Bool := (a.has == b.has) && (a.v == b.v)
theorem qN {a b : Hd} : eE a b = true ↔ a = b := by
 cases a; cases b; simp [eE]
def b8 (a b : Fi) : Bool := decide (a.fires = b.fires) && cj a.s b.s && decide (a.pops = b.pops) && decide (a.puts.length = b.puts.length) && eC (fun i => eE (a.puts.getD i be) (b.puts.getD i be)) a.puts.length
theorem eX {a b : Fi} : b8 a b = true ↔ a = b := by
 unfold b8
 simp only [Bool.and_eq_true, decide_eq_true_eq, dV, dJ, qN]
 constructor
 ·rintro ⟨⟨⟨⟨h1, h2⟩, h3⟩, h4⟩, h5⟩
  have h6 := qJ h4 h5
  cases a; cases b; simp_all
 ·rintro rfl; exact ⟨⟨⟨⟨rfl, rfl⟩, rfl⟩, rfl⟩, fun i _ => rfl⟩
theorem bZ {α : Type} {a b : List α} {d : α} {k : Nat} (hl : a.length = b.length) (hk : ¬k < a.length) (h : ∀ j, j < k → a.getD j d = b.getD j d) : a = b :=
 qJ (d := d) hl (fun i hi => h i (by omega))
theorem dW {a b : Fi} (h : ¬a.fires = b.fires) : b8 a b = false := Bool.eq_false_iff.2 (fun e => h (by rw [eX.1 e]))
theorem dX {a b : Fi} (h : cj a.s b.s = false) : b8 a b = false := Bool.eq_false_iff.2 (fun e => by rw [eX.1 e, dV.2 rfl] at h; cases h)
theorem dY {a b : Fi} (h : ¬a.pops.length = b.pops.length) : b8 a b = false := Bool.eq_false_iff.2 (fun e => h (by rw [eX.1 e]))
theorem dZ {a b : Fi} (h : ¬a.puts.length = b.puts.length) : b8 a b = false := Bool.eq_false_iff.2 (fun e => h (by rw [eX.1 e]))
theorem d4 {a b : Fi} {i : Nat} (h : ¬a.pops.getD i false = b.pops.getD i false) : b8 a b = false := Bool.eq_false_iff.2 (fun e => h (by rw [eX.1 e]))
theorem d5 {a b : Fi} {i : Nat} (h : eE (a.puts.getD i be) (b.puts.getD i be) = false) : b8 a b = false := Bool.eq_false_iff.2 (fun e => by rw [eX.1 e, qN.2 rfl] at h; cases h)
theorem d6 {a b : Fi} (h1 : a.fires = b.fires) (h2 : cj a.s b.s = true) (h3 : a.pops = b.pops) (h4 : a.puts.length = b.puts.length) (h5 : ∀ i, i < a.puts.length → eE (a.puts.getD i be) (b.puts.getD i be) = true) : b8 a b = true := by
 unfold b8; simp only [h1, h2, h3, h4, decide_true, Bool.true_and, dJ]; rw [← h4]; exact h5
theorem iJ {a b : Ps} (h : ¬a.regs = b.regs) : cj a b = false := Bool.eq_false_iff.2 (fun e => h (by rw [dV.1 e]))
theorem iK {a b : Ps} (h : ¬a.mems.length = b.mems.length) : cj a b = false := Bool.eq_false_iff.2 (fun e => h (by rw [dV.1 e]))
theorem iL {a b : Ps} {i : Nat} (h : ¬a.mems.getD i [] = b.mems.getD i []) : cj a b = false := Bool.eq_false_iff.2 (fun e => h (by rw [dV.1 e]))
theorem iM {a b : Ps} (h1 : a.regs = b.regs) (h2 : a.mems = b.mems) : cj a b = true := dV.2 (by cases a; cases b; simp_all)
theorem bX {α : Type} {f : Nat → α} {x : α} {enc : α → List V} {i : Nat} (h : i < 137438953472) (hx : x = f i) : (tab f i).length + ([x].map enc).length ≤ 137438953472 ∧ (tab f i).map enc ++ [x].map enc = (tab f (i + 1)).map enc := by
 subst hx; exact pM h
section
variable {c : Sc} {p : Pr} {s : Ps} {hs : List Hd} {rs : List Bool} {d : List Int} {i : Nat}
theorem y8 (h : jA p s d (fr p i).enable = true) : (s.mems.getD i []).set (Int.tmod (bg p s d (fr p i).addr).1 (fr p i).words).toNat (bg p s d (fr p i).data).1 = uN p s d i := (if_pos h).symm
theorem A9 (h : ¬jA p s d (fr p i).enable = true) : s.mems.getD i [] = uN p s d i := (if_neg h).symm
theorem Ak (hp : dA p) (hs : lL p s) (hd : uO p d) (hi : i < p.mems.length) : 0 ≤ Int.tmod (bg p s d (fr p i).addr).1 (fr p i).words ∧ Int.tmod (bg p s d (fr p i).addr).1 (fr p i).words < (s.mems.getD i []).length ∧ (fr p i).words ≠ 0 := by
 have h := hp.mw i hi
 obtain ⟨v, hv⟩ := h.2.2.2.1.1
 have h0 := (ts (ge hp hs hd) hv h.2.2.2.1.2).2.1.1
 have hm := hs.mn i hi
 rw [hm]
 exact ⟨Int.tmod_nonneg _ h0, Int.tmod_lt_of_pos _ (by omega), by omega⟩
theorem qO {b : Bool} (h : b = eC (kV p s hs) i) (x : Bool) (hx : x = (b && kV p s hs i)) : x = eC (kV p s hs) (i + 1) := by rw [hx, h]; rfl
theorem vW {a b : Bool} (h : b = (a && eC (mG p s hs rs) i)) (x : Bool) (hx : x = (b && mG p s hs rs i)) : x = (a && eC (mG p s hs rs) (i + 1)) := by rw [hx, h, eC, Bool.and_assoc]
end
end Go.Proofs.Ytgfbfajaaaegjaa
