/-
  The result of a valid operation on values of its arguments' widths is a value of its width.
-/
import Derived.Test.YtnlmlkbaflmgcaaQVc
import Derived.Test.YtnlmlkbaflmgcaaQBitP
namespace Go.Proofs.Ytnlmlkbaflmgcaa
open Go.RowKit
set_option linter.unusedVariables false
set_option linter.unusedSimpArgs false
structure Nm where
 n : Int
 p : ByteArray
structure Ex where
 op : Int
 name : ByteArray
 k : Nm
 w : Nm
 args : List Ex
abbrev e0 : ByteArray := ByteArray.empty
abbrev bs (l : List UInt8) : ByteArray := ⟨l.toArray⟩
abbrev dN : Nm := ⟨0, e0⟩
abbrev dE : Ex := ⟨0, e0, dN, dN, []⟩
structure aj where
 kind : Int
 src : ByteArray
 n : Int
structure Rg where
 name : ByteArray
 w : Int
 init : Int
 next : Ex
 rule : aj
structure Mm where
 name : ByteArray
 w : Int
 words : Int
 enable : Ex
 addr : Ex
 data : Ex
 rule : aj
structure Tk where
 chan : Int
 w : Int
 when : Ex
structure Pt where
 chan : Int
 w : Int
 when : Ex
 data : Ex
structure Pr where
 name : ByteArray
 clock : ByteArray
 regs : List Rg
 mems : List Mm
 takes : List Tk
 puts : List Pt
structure Ps where
 regs : List Int
 mems : List (List Int)
structure Hd where
 has : Bool
 v : Int
structure Fi where
 fires : Bool
 s : Ps
 pops : List Bool
 puts : List Hd
abbrev Js : aj := ⟨0, e0, 0⟩
abbrev aK : Rg := ⟨e0, 0, 0, dE, Js⟩
abbrev ax : Mm := ⟨e0, 0, 0, dE, dE, dE, Js⟩
abbrev bO : Tk := ⟨0, 0, dE⟩
abbrev bU : Pt := ⟨0, 0, dE, dE⟩
abbrev ac : Pr := ⟨e0, e0, [], [], [], []⟩
abbrev aW : Ps := ⟨[], []⟩
abbrev cC : Hd := ⟨false, 0⟩
def eA : Nat → Ex → List V
 | 0, _ => []
 | n + 1, e => [.int .i64 e.op, .str e.name, .int .i64 e.k.n, .str e.k.p, .int .i64 e.w.n, .str e.w.p, .sl 7 (eA n) dE e.args]
def ae (l : List Int) : List V := [.sl 1 (aa .i64) 0 l]
def bA (r : Rg) : List V := [.str r.name, .int .i64 r.w, .int .i64 r.init, .int .i64 r.next.op, .str r.next.name, .int .i64 r.next.k.n, .str r.next.k.p, .int .i64 r.next.w.n, .str r.next.w.p, .sl 7 (eA 2) dE r.next.args, .int .i64 r.rule.kind, .str r.rule.src, .int .i64 r.rule.n]
def bV (r : Mm) : List V := [.str r.name, .int .i64 r.w, .int .i64 r.words, .int .i64 r.enable.op, .str r.enable.name, .int .i64 r.enable.k.n, .str r.enable.k.p, .int .i64 r.enable.w.n, .str r.enable.w.p, .sl 7 (eA 2) dE r.enable.args,
 .int .i64 r.addr.op, .str r.addr.name, .int .i64 r.addr.k.n, .str r.addr.k.p, .int .i64 r.addr.w.n, .str r.addr.w.p, .sl 7 (eA 2) dE r.addr.args,
 .int .i64 r.data.op, .str r.data.name, .int .i64 r.data.k.n, .str r.data.k.p, .int .i64 r.data.w.n, .str r.data.w.p, .sl 7 (eA 2) dE r.data.args, .int .i64 r.rule.kind, .str r.rule.src, .int .i64 r.rule.n]
def dJ (r : Tk) : List V := [.int .i64 r.chan, .int .i64 r.w, .int .i64 r.when.op, .str r.when.name, .int .i64 r.when.k.n, .str r.when.k.p, .int .i64 r.when.w.n, .str r.when.w.p, .sl 7 (eA 2) dE r.when.args]
def dz (r : Pt) : List V := [.int .i64 r.chan, .int .i64 r.w, .int .i64 r.when.op, .str r.when.name, .int .i64 r.when.k.n, .str r.when.k.p, .int .i64 r.when.w.n, .str r.when.w.p, .sl 7 (eA 2) dE r.when.args,
 .int .i64 r.data.op, .str r.data.name, .int .i64 r.data.k.n, .str r.data.k.p, .int .i64 r.data.w.n, .str r.data.w.p, .sl 7 (eA 2) dE r.data.args]
def bm (p : Pr) : List V := [.str p.name, .str p.clock, .sl 13 bA aK p.regs, .sl 27 bV ax p.mems, .sl 9 dJ bO p.takes, .sl 16 dz bU p.puts]
def bl (s : Ps) : List V := [.sl 1 (aa .i64) 0 s.regs, .sl 1 ae [] s.mems]
def gH (h : Hd) : List V := [.bool h.has, .int .i64 h.v]
def eC : Ex → Nat
 | ⟨_, _, _, _, args⟩ => depL args + 1
where depL : List Ex → Nat
 | [] => 0
 | a :: r => max (eC a) (depL r)
theorem iM {x w : Int} (h0 : 0 ≤ w) (h : w ≤ 62) : x ≤ aC w ↔ x < 2 ^ w.toNat := by
 rw [cI h0 h]; omega
theorem dR {x : Int} {n : Nat} (h0 : 0 ≤ x) (h : x < 2 ^ n) : x.toNat < 2 ^ n := by
 have e : ((2 : Int) ^ n) = ((2 ^ n : Nat) : Int) := by simp
 rw [e] at h
 omega
theorem wW {x n : Nat} (h : x < 2 ^ n) : (x : Int) < 2 ^ n := by
 have e : ((2 : Int) ^ n) = ((2 ^ n : Nat) : Int) := by simp
 rw [e]
 omega
theorem BF {a b : Int} (h : a ≤ b) (h0 : 0 ≤ a) (hb : b ≤ 62) : aC a ≤ aC b := by
 rw [cI h0 (by omega), cI (by omega) hb]
 have : (2 : Nat) ^ a.toNat ≤ 2 ^ b.toNat := Nat.pow_le_pow_right (by omega) (by omega)
 have e1 : ((2 : Int) ^ a.toNat) = ((2 ^ a.toNat : Nat) : Int) := by simp
 have e2 : ((2 : Int) ^ b.toNat) = ((2 ^ b.toNat : Nat) : Int) := by simp
 rw [e1, e2]
 omega
def cg (v w : Int) : Prop := 0 ≤ v ∧ v ≤ aC w
theorem oc {x w : Int} (h0 : 0 ≤ w) (h : w ≤ 62) : cg (x % 2 ^ w.toNat) w := by
 have hp := kN (n := w.toNat) (by omega)
 refine ⟨Int.emod_nonneg _ (by omega), ?_⟩
 rw [iM h0 h]
 exact Int.emod_lt_of_pos _ (by omega)
theorem og {x : Nat} {w : Int} (h0 : 0 ≤ w) (h : w ≤ 62) (hx : x < 2 ^ w.toNat) : cg (x : Int) w := by
 refine ⟨by omega, ?_⟩
 rw [iM h0 h]
 exact wW hx
theorem yH {ws : List Int} (h : bZ ws ≠ 0) : ws.getD 0 0 = ws.getD 1 0 ∧ bZ ws = ws.getD 0 0 := by
 unfold bZ at h ⊢
 split at h
 ·exact absurd rfl h
 ·rename_i hn
  rw [if_neg hn]
  exact ⟨Decidable.not_not.1 hn, rfl⟩
theorem Dm {op : Int} {ws xs : List Int} {k w : Int} (h : iC op ws k w = true) (hx : xs.length = ws.length) (hin : BC ws xs = true) : cg (wm op ws xs k w) (eX op ws k w) := by
 obtain ⟨h1, hf, h3⟩ := jI h
 have h3 := aM.1 h3
 have hop : 1 ≤ op ∧ op ≤ 13 := by
  by_cases hr : op < 1 ∨ 13 < op
  ·have : cD op = -1 := by unfold cD; rw [if_neg (by omega), if_neg (by omega), if_neg (by omega), if_neg (by omega)]
   omega
  ·omega
 have f0 : 0 < ws.length → 1 ≤ ws.getD 0 0 ∧ ws.getD 0 0 ≤ 8 := fun h => dQ hf h
 have f1 : 1 < ws.length → 1 ≤ ws.getD 1 0 ∧ ws.getD 1 0 ≤ 8 := fun h => dQ hf h
 have f2 : 2 < ws.length → 1 ≤ ws.getD 2 0 ∧ ws.getD 2 0 ≤ 8 := fun h => dQ hf h
 have a0 : 0 < ws.length → 0 ≤ xs.getD 0 0 ∧ xs.getD 0 0 ≤ aC (ws.getD 0 0) := fun h => hT hin (by omega)
 have a1 : 1 < ws.length → 0 ≤ xs.getD 1 0 ∧ xs.getD 1 0 ≤ aC (ws.getD 1 0) := fun h => hT hin (by omega)
 have a2 : 2 < ws.length → 0 ≤ xs.getD 2 0 ∧ xs.getD 2 0 ≤ aC (ws.getD 2 0) := fun h => hT hin (by omega)
 have two : ∀ {op : Int}, cD op = 2 → (ws.length : Int) = cD op → eX op ws k w = bZ ws → 1 ≤ eX op ws k w ∧ eX op ws k w ≤ 8 → ws.getD 0 0 = ws.getD 1 0 ∧ eX op ws k w = ws.getD 0 0 ∧ (xs.getD 0 0).toNat < 2 ^ (ws.getD 0 0).toNat ∧ (xs.getD 1 0).toNat < 2 ^ (ws.getD 0 0).toNat ∧ 1 ≤ ws.getD 0 0 ∧ ws.getD 0 0 ≤ 8 := by
  intro op hA hl hw hb
  have hl2 : ws.length = 2 := by omega
  obtain ⟨e1, e2⟩ := yH (ws := ws) (by rw [← hw]; omega)
  have b0 := f0 (by omega)
  have c0 := a0 (by omega)
  have c1 := a1 (by omega)
  refine ⟨e1, by rw [hw, e2], dR c0.1 ((iM (by omega) (by omega)).1 c0.2), ?_, b0⟩
  have := (iM (w := ws.getD 1 0) (by omega) (by omega)).1 c1.2
  rw [← e1] at this
  exact dR c1.1 this
 have hcase : op = 1 ∨ op = 2 ∨ op = 3 ∨ op = 4 ∨ op = 5 ∨ op = 6 ∨ op = 7 ∨ op = 8 ∨ op = 9 ∨ op = 10 ∨ op = 11 ∨ op = 12 ∨ op = 13 := by omega
 rcases hcase with rfl | rfl | rfl | rfl | rfl | rfl | rfl | rfl | rfl | rfl | rfl | rfl | rfl
 ·show cg k (if aI w = false ∨ k < 0 ∨ aC w < k then 0 else w)
  have e : eX 1 ws k w = (if aI w = false ∨ k < 0 ∨ aC w < k then 0 else w) := rfl
  rw [e] at h3
  split at h3
  ·omega
  ·rename_i hn
   rw [if_neg hn]
   simp only [not_or, Int.not_lt] at hn
   exact ⟨hn.2.1, hn.2.2⟩
 ·have hl : (ws.length : Int) = 1 := h1
  have b0 := f0 (by omega)
  have c0 := a0 (by omega)
  show cg (((xs.getD 0 0).toNat ^^^ (aC (ws.getD 0 0)).toNat : Nat) : Int) (ws.getD 0 0)
  refine og (by omega) (by omega) (Nat.xor_lt_two_pow (dR c0.1 ((iM (by omega) (by omega)).1 c0.2)) ?_)
  have m0 := b7 (w := ws.getD 0 0) (by omega) (by omega)
  exact dR m0.1 ((iM (by omega) (by omega)).1 (Int.le_refl _))
 ·obtain ⟨e1, e2, e3, e4, e5, e6⟩ := two (op := 3) (by decide) h1 rfl h3
  rw [e2]
  exact og (by omega) (by omega) (Nat.lt_of_le_of_lt Nat.and_le_left e3)
 ·obtain ⟨e1, e2, e3, e4, e5, e6⟩ := two (op := 4) (by decide) h1 rfl h3
  rw [e2]
  exact og (by omega) (by omega) (Nat.or_lt_two_pow e3 e4)
 ·obtain ⟨e1, e2, e3, e4, e5, e6⟩ := two (op := 5) (by decide) h1 rfl h3
  rw [e2]
  exact og (by omega) (by omega) (Nat.xor_lt_two_pow e3 e4)
 ·obtain ⟨e1, e2, e3, e4, e5, e6⟩ := two (op := 6) (by decide) h1 rfl h3
  rw [e2]
  exact oc (by omega) (by omega)
 ·obtain ⟨e1, e2, e3, e4, e5, e6⟩ := two (op := 7) (by decide) h1 rfl h3
  rw [e2]
  exact oc (by omega) (by omega)
 ·have e : eX 8 ws k w = min (bZ ws) 1 := rfl
  rw [e] at h3 ⊢
  have e1 : min (bZ ws) 1 = 1 := by omega
  rw [e1]
  show cg (if xs.getD 0 0 = xs.getD 1 0 then 1 else 0) 1
  split <;> exact ⟨by decide, by decide⟩
 ·have e : eX 9 ws k w = min (bZ ws) 1 := rfl
  rw [e] at h3 ⊢
  have e1 : min (bZ ws) 1 = 1 := by omega
  rw [e1]
  show cg (if xs.getD 0 0 < xs.getD 1 0 then 1 else 0) 1
  split <;> exact ⟨by decide, by decide⟩
 ·have hl : (ws.length : Int) = 3 := h1
  have hm1 := z3 h
  have c0 := a0 (by omega)
  rw [hm1] at c0
  have c0' : xs.getD 0 0 ≤ 1 := c0.2
  have c1 := a1 (by omega)
  have c2 := a2 (by omega)
  have e : eX 10 ws k w = (if ws.getD 0 0 ≠ 1 ∨ ws.getD 1 0 ≠ ws.getD 2 0 then 0 else ws.getD 1 0) := rfl
  rw [e] at h3 ⊢
  split at h3
  ·omega
  ·rename_i hn
   rw [if_neg hn]
   have hs : ws.getD 1 0 = ws.getD 2 0 := Decidable.byContradiction fun hh => hn (.inr hh)
   show cg (xs.getD (2 - xs.getD 0 0).toNat 0) (ws.getD 1 0)
   have hc : xs.getD 0 0 = 0 ∨ xs.getD 0 0 = 1 := by omega
   rcases hc with hc | hc
   ·rw [hc, hs]; exact c2
   ·rw [hc]; exact c1
 ·have hl : (ws.length : Int) = 2 := h1
  have b0 := f0 (by omega)
  have b1 := f1 (by omega)
  have c0 := a0 (by omega)
  have c1 := a1 (by omega)
  have e : eX 11 ws k w = ws.getD 0 0 + ws.getD 1 0 := rfl
  rw [e] at h3 ⊢
  show cg ((((xs.getD 0 0).toNat * 2 ^ (ws.getD 1 0).toNat ||| (xs.getD 1 0).toNat : Nat)) : Int) (ws.getD 0 0 + ws.getD 1 0)
  have d0 := dR c0.1 ((iM (by omega) (by omega)).1 c0.2)
  have d1 := dR c1.1 ((iM (by omega) (by omega)).1 c1.2)
  have hs : (ws.getD 0 0 + ws.getD 1 0).toNat = (ws.getD 0 0).toNat + (ws.getD 1 0).toNat := by omega
  refine og (by omega) (by omega) ?_
  rw [hs, Nat.pow_add]
  refine (Nat.pow_add 2 _ _) ▸ Nat.or_lt_two_pow ?_ ?_
  ·rw [Nat.pow_add]; exact Nat.mul_lt_mul_of_pos_right d0 (Nat.two_pow_pos _)
  ·exact Nat.lt_of_lt_of_le d1 (Nat.pow_le_pow_right (by omega) (by omega))
 ·have hk := z4 h
  have e : eX 12 ws k w = (if aI w = false ∨ k < 0 ∨ ws.getD 0 0 - w < k then 0 else w) := rfl
  rw [e] at h3 ⊢
  split at h3
  ·omega
  ·rename_i hn
   rw [if_neg hn]
   have hw := aM.1 hk.2.2
   exact oc (by omega) (by omega)
 ·have hl : (ws.length : Int) = 1 := h1
  have b0 := f0 (by omega)
  have c0 := a0 (by omega)
  have e : eX 13 ws k w = (if w < ws.getD 0 0 then 0 else w) := rfl
  rw [e] at h3 ⊢
  split at h3
  ·omega
  ·rename_i hn
   rw [if_neg hn]
   show cg (xs.getD 0 0) w
   exact ⟨c0.1, Int.le_trans c0.2 (BF (by omega) (by omega) (by omega))⟩
theorem BG {op : Int} {ws xs nums : List Int} {k w : Int} (h : iC op ws k w = true) (hx : xs.length = ws.length) (hin : BC ws xs = true) (hn : nums.length = 2) (h0 : nums.getD 0 0 = k) (h1 : nums.getD 1 0 = w) :
  ff op ws xs nums = wm op ws xs k w ∧ cg (ff op ws xs nums) (eX op ws k w) := by
 have e := (py hn hx (by rw [h0, h1]; exact h) hin).1
 rw [h0, h1] at e
 exact ⟨e, by rw [e]; exact Dm h hx hin⟩
end Go.Proofs.Ytnlmlkbaflmgcaa
