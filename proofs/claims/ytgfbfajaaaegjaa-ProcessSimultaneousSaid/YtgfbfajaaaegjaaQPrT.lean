/-
  Processes, plain law: equality of states and firings; more facts for the walks.
-/
import Derived.Test.YtgfbfajaaaegjaaQPrS
namespace Go.Proofs.Ytgfbfajaaaegjaa
open Go.RowKit
set_option linter.unusedVariables false
set_option linter.unusedSimpArgs false
def cw (a b : Ps) : Bool := decide (a.regs = b.regs) && decide (a.mems = b.mems)
theorem eE {a b : Ps} : cw a b = true ↔ a = b := by
 cases a; cases b; simp [cw]
def fd (a b : Hd) : Bool := (a.has == b.has) && (a.v == b.v)
theorem qS {a b : Hd} : fd a b = true ↔ a = b := by
 cases a; cases b; simp [fd]
def cc (a b : Fi) : Bool := decide (a.fires = b.fires) && cw a.s b.s && decide (a.pops = b.pops) && decide (a.puts.length = b.puts.length) && bE (fun i => fd (a.puts.getD i bo) (b.puts.getD i bo)) a.puts.length
theorem dV {a b : Fi} : cc a b = true ↔ a = b := by
 unfold cc
 simp only [Bool.and_eq_true, decide_eq_true_eq, eE, ee, qS]
 constructor
 ·rintro ⟨⟨⟨⟨h1, h2⟩, h3⟩, h4⟩, h5⟩
  have h6 := qN h4 h5
  cases a; cases b; simp_all
 ·rintro rfl; exact ⟨⟨⟨⟨rfl, rfl⟩, rfl⟩, rfl⟩, fun i _ => rfl⟩
theorem ci {α : Type} {a b : List α} {d : α} {k : Nat} (hl : a.length = b.length) (hk : ¬k < a.length) (h : ∀ j, j < k → a.getD j d = b.getD j d) : a = b :=
 qN (d := d) hl (fun i hi => h i (by omega))
theorem eF {a b : Fi} (h : ¬a.fires = b.fires) : cc a b = false := Bool.eq_false_iff.2 (fun e => h (by rw [dV.1 e]))
theorem eG {a b : Fi} (h : cw a.s b.s = false) : cc a b = false := Bool.eq_false_iff.2 (fun e => by rw [dV.1 e, eE.2 rfl] at h; cases h)
theorem eI {a b : Fi} (h : ¬a.pops.length = b.pops.length) : cc a b = false := Bool.eq_false_iff.2 (fun e => h (by rw [dV.1 e]))
theorem eJ {a b : Fi} (h : ¬a.puts.length = b.puts.length) : cc a b = false := Bool.eq_false_iff.2 (fun e => h (by rw [dV.1 e]))
theorem eK {a b : Fi} {i : Nat} (h : ¬a.pops.getD i false = b.pops.getD i false) : cc a b = false := Bool.eq_false_iff.2 (fun e => h (by rw [dV.1 e]))
theorem eL {a b : Fi} {i : Nat} (h : fd (a.puts.getD i bo) (b.puts.getD i bo) = false) : cc a b = false := Bool.eq_false_iff.2 (fun e => by rw [dV.1 e, qS.2 rfl] at h; cases h)
theorem eM {a b : Fi} (h1 : a.fires = b.fires) (h2 : cw a.s b.s = true) (h3 : a.pops = b.pops) (h4 : a.puts.length = b.puts.length) (h5 : ∀ i, i < a.puts.length → fd (a.puts.getD i bo) (b.puts.getD i bo) = true) : cc a b = true := by
 unfold cc; simp only [h1, h2, h3, h4, decide_true, Bool.true_and, ee]; rw [← h4]; exact h5
theorem jj {a b : Ps} (h : ¬a.regs = b.regs) : cw a b = false := Bool.eq_false_iff.2 (fun e => h (by rw [eE.1 e]))
theorem jk {a b : Ps} (h : ¬a.mems.length = b.mems.length) : cw a b = false := Bool.eq_false_iff.2 (fun e => h (by rw [eE.1 e]))
theorem jl {a b : Ps} {i : Nat} (h : ¬a.mems.getD i [] = b.mems.getD i []) : cw a b = false := Bool.eq_false_iff.2 (fun e => h (by rw [eE.1 e]))
theorem jm {a b : Ps} (h1 : a.regs = b.regs) (h2 : a.mems = b.mems) : cw a b = true := eE.2 (by cases a; cases b; simp_all)
theorem bf {α : Type} {f : Nat → α} {x : α} {enc : α → List V} {i : Nat} (h : i < 137438953472) (hx : x = f i) : (tab f i).length + ([x].map enc).length ≤ 137438953472 ∧ (tab f i).map enc ++ [x].map enc = (tab f (i + 1)).map enc := by
 subst hx; exact pS h
section
variable {c : Sc} {p : Pr} {s : Ps} {hs : List Hd} {rs : List Bool} {d : List Int} {i : Nat}
theorem z9 (h1 : co p s (fW p) (ir p i).when = true) (h2 : (hs.getD i bo).has = true) : jg p s hs i = (hs.getD i bo).v := if_pos ⟨h1, h2⟩
theorem wO (h1 : ¬co p s (fW p) (ir p i).when = true) : jg p s hs i = (fW p).getD i 0 := by rw [qQ]; exact if_neg (fun h => h1 h.1)
theorem wP (h1 : ¬(hs.getD i bo).has = true) : jg p s hs i = (fW p).getD i 0 := by rw [qQ]; exact if_neg (fun h => h1 h.2)
theorem y9 (h : co p s d (ef p i).enable = true) : (s.mems.getD i []).set (Int.tmod (bk p s d (ef p i).addr).1 (ef p i).words).toNat (bk p s d (ef p i).data).1 = rB p s d i := (if_pos h).symm
theorem AD (h : ¬co p s d (ef p i).enable = true) : s.mems.getD i [] = rB p s d i := (if_neg h).symm
theorem wQ (hp : dh p) (hs : jh p s) (hd : uD p d) (hi : i < p.mems.length) : 0 ≤ Int.tmod (bk p s d (ef p i).addr).1 (ef p i).words ∧ Int.tmod (bk p s d (ef p i).addr).1 (ef p i).words < (s.mems.getD i []).length ∧ (ef p i).words ≠ 0 := by
 have h := hp.mw i hi
 obtain ⟨v, hv⟩ := h.2.2.2.1.1
 have h0 := (vE (dR hp hs hd) hv h.2.2.2.1.2).2.1.1
 have hm := hs.mn i hi
 rw [hm]
 exact ⟨Int.tmod_nonneg _ h0, Int.tmod_lt_of_pos _ (by omega), by omega⟩
theorem qU {b : Bool} (h : b = bE (du p s hs) i) (x : Bool) (hx : x = (b && du p s hs i)) : x = bE (du p s hs) (i + 1) := by rw [hx, h]; rfl
theorem vG {a b : Bool} (h : b = (a && bE (d5 p s hs rs) i)) (x : Bool) (hx : x = (b && d5 p s hs rs i)) : x = (a && bE (d5 p s hs rs) (i + 1)) := by rw [hx, h, bE, Bool.and_assoc]
end
end Go.Proofs.Ytgfbfajaaaegjaa
