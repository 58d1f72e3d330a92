/-
  The result of a valid operation on values of its arguments' widths is a value of its width.
-/
import Derived.Test.YtnlmlkbaflmgcaaQVc
import Derived.Test.YtnlmlkbaflmgcaaQBitP
namespace Go.Proofs.Ytnlmlkbaflmgcaa
open Go.RowKit
set_option linter.unusedVariables false
set_option linter.unusedSimpArgs false
structure Nm where
 n : Int
 p : ByteArray
structure Ex where
 op : Int
 name : ByteArray
 k : Nm
 w : Nm
 args : List Ex
abbrev e0 : ByteArray := ByteArray.empty
abbrev bs (l : List UInt8) : ByteArray := ⟨l.toArray⟩
abbrev dN : Nm := ⟨0, e0⟩
abbrev dE : Ex := ⟨0, e0, dN, dN, []⟩
structure ao where
 kind : Int
 src : ByteArray
 n : Int
structure Rg where
 name : ByteArray
 w : Int
 init : Int
 next : Ex
 rule : ao
structure Mm where
 name : ByteArray
 w : Int
 words : Int
 enable : Ex
 addr : Ex
 data : Ex
 rule : ao
structure Tk where
 chan : Int
 w : Int
 when : Ex
structure Pt where
 chan : Int
 w : Int
 when : Ex
 data : Ex
structure Pr where
 name : ByteArray
 clock : ByteArray
 regs : List Rg
 mems : List Mm
 takes : List Tk
 puts : List Pt
structure Ps where
 regs : List Int
 mems : List (List Int)
structure Hd where
 has : Bool
 v : Int
structure Fi where
 fires : Bool
 s : Ps
 pops : List Bool
 puts : List Hd
abbrev Jy : ao := ⟨0, e0, 0⟩
abbrev aC : Rg := ⟨e0, 0, 0, dE, Jy⟩
abbrev au : Mm := ⟨e0, 0, 0, dE, dE, dE, Jy⟩
abbrev bB : Tk := ⟨0, 0, dE⟩
abbrev bK : Pt := ⟨0, 0, dE, dE⟩
abbrev ac : Pr := ⟨e0, e0, [], [], [], []⟩
abbrev aX : Ps := ⟨[], []⟩
abbrev cG : Hd := ⟨false, 0⟩
def eA : Nat → Ex → List V
 | 0, _ => []
 | n + 1, e => [.int .i64 e.op, .str e.name, .int .i64 e.k.n, .str e.k.p, .int .i64 e.w.n, .str e.w.p, .sl 7 (eA n) dE e.args]
def ab (l : List Int) : List V := [.sl 1 (aa .i64) 0 l]
def bA (r : Rg) : List V := [.str r.name, .int .i64 r.w, .int .i64 r.init, .int .i64 r.next.op, .str r.next.name, .int .i64 r.next.k.n, .str r.next.k.p, .int .i64 r.next.w.n, .str r.next.w.p, .sl 7 (eA 2) dE r.next.args, .int .i64 r.rule.kind, .str r.rule.src, .int .i64 r.rule.n]
def bX (r : Mm) : List V := [.str r.name, .int .i64 r.w, .int .i64 r.words, .int .i64 r.enable.op, .str r.enable.name, .int .i64 r.enable.k.n, .str r.enable.k.p, .int .i64 r.enable.w.n, .str r.enable.w.p, .sl 7 (eA 2) dE r.enable.args,
 .int .i64 r.addr.op, .str r.addr.name, .int .i64 r.addr.k.n, .str r.addr.k.p, .int .i64 r.addr.w.n, .str r.addr.w.p, .sl 7 (eA 2) dE r.addr.args,
 .int .i64 r.data.op, .str r.data.name, .int .i64 r.data.k.n, .str r.data.k.p, .int .i64 r.data.w.n, .str r.data.w.p, .sl 7 (eA 2) dE r.data.args, .int .i64 r.rule.kind, .str r.rule.src, .int .i64 r.rule.n]
def cP (r : Tk) : List V := [.int .i64 r.chan, .int .i64 r.w, .int .i64 r.when.op, .str r.when.name, .int .i64 r.when.k.n, .str r.when.k.p, .int .i64 r.when.w.n, .str r.when.w.p, .sl 7 (eA 2) dE r.when.args]
def cN (r : Pt) : List V := [.int .i64 r.chan, .int .i64 r.w, .int .i64 r.when.op, .str r.when.name, .int .i64 r.when.k.n, .str r.when.k.p, .int .i64 r.when.w.n, .str r.when.w.p, .sl 7 (eA 2) dE r.when.args,
 .int .i64 r.data.op, .str r.data.name, .int .i64 r.data.k.n, .str r.data.k.p, .int .i64 r.data.w.n, .str r.data.w.p, .sl 7 (eA 2) dE r.data.args]
def bm (p : Pr) : List V := [.str p.name, .str p.clock, .sl 13 bA aC p.regs, .sl 27 bX au p.mems, .sl 9 cP bB p.takes, .sl 16 cN bK p.puts]
def a9 (s : Ps) : List V := [.sl 1 (aa .i64) 0 s.regs, .sl 1 ab [] s.mems]
def gW (h : Hd) : List V := [.bool h.has, .int .i64 h.v]
def eI : Ex → Nat
 | ⟨_, _, _, _, args⟩ => depL args + 1
where depL : List Ex → Nat
 | [] => 0
 | a :: r => max (eI a) (depL r)
theorem iY {x w : Int} (h0 : 0 ≤ w) (h : w ≤ 62) : x ≤ aG w ↔ x < 2 ^ w.toNat := by
 rw [dM h0 h]; omega
theorem dY {x : Int} {n : Nat} (h0 : 0 ≤ x) (h : x < 2 ^ n) : x.toNat < 2 ^ n := by
 have e : ((2 : Int) ^ n) = ((2 ^ n : Nat) : Int) := by simp
 rw [e] at h
 omega
theorem wM {x n : Nat} (h : x < 2 ^ n) : (x : Int) < 2 ^ n := by
 have e : ((2 : Int) ^ n) = ((2 ^ n : Nat) : Int) := by simp
 rw [e]
 omega
theorem Bq {a b : Int} (h : a ≤ b) (h0 : 0 ≤ a) (hb : b ≤ 62) : aG a ≤ aG b := by
 rw [dM h0 (by omega), dM (by omega) hb]
 have : (2 : Nat) ^ a.toNat ≤ 2 ^ b.toNat := Nat.pow_le_pow_right (by omega) (by omega)
 have e1 : ((2 : Int) ^ a.toNat) = ((2 ^ a.toNat : Nat) : Int) := by simp
 have e2 : ((2 : Int) ^ b.toNat) = ((2 ^ b.toNat : Nat) : Int) := by simp
 rw [e1, e2]
 omega
def dG (v w : Int) : Prop := 0 ≤ v ∧ v ≤ aG w
theorem oh {x w : Int} (h0 : 0 ≤ w) (h : w ≤ 62) : dG (x % 2 ^ w.toNat) w := by
 have hp := mM (n := w.toNat) (by omega)
 refine ⟨Int.emod_nonneg _ (by omega), ?_⟩
 rw [iY h0 h]
 exact Int.emod_lt_of_pos _ (by omega)
theorem oi {x : Nat} {w : Int} (h0 : 0 ≤ w) (h : w ≤ 62) (hx : x < 2 ^ w.toNat) : dG (x : Int) w := by
 refine ⟨by omega, ?_⟩
 rw [iY h0 h]
 exact wM hx
theorem yv {ws : List Int} (h : b3 ws ≠ 0) : ws.getD 0 0 = ws.getD 1 0 ∧ b3 ws = ws.getD 0 0 := by
 unfold b3 at h ⊢
 split at h
 ·exact absurd rfl h
 ·rename_i hn
  rw [if_neg hn]
  exact ⟨Decidable.not_not.1 hn, rfl⟩
theorem Db {op : Int} {ws xs : List Int} {k w : Int} (h : iP op ws k w = true) (hx : xs.length = ws.length) (hin : Bn ws xs = true) : dG (wa op ws xs k w) (fc op ws k w) := by
 obtain ⟨h1, hf, h3⟩ := jU h
 have h3 := aQ.1 h3
 have hop : 1 ≤ op ∧ op ≤ 13 := by
  by_cases hr : op < 1 ∨ 13 < op
  ·have : cH op = -1 := by unfold cH; rw [if_neg (by omega), if_neg (by omega), if_neg (by omega), if_neg (by omega)]
   omega
  ·omega
 have f0 : 0 < ws.length → 1 ≤ ws.getD 0 0 ∧ ws.getD 0 0 ≤ 8 := fun h => dX hf h
 have f1 : 1 < ws.length → 1 ≤ ws.getD 1 0 ∧ ws.getD 1 0 ≤ 8 := fun h => dX hf h
 have f2 : 2 < ws.length → 1 ≤ ws.getD 2 0 ∧ ws.getD 2 0 ≤ 8 := fun h => dX hf h
 have a0 : 0 < ws.length → 0 ≤ xs.getD 0 0 ∧ xs.getD 0 0 ≤ aG (ws.getD 0 0) := fun h => ij hin (by omega)
 have a1 : 1 < ws.length → 0 ≤ xs.getD 1 0 ∧ xs.getD 1 0 ≤ aG (ws.getD 1 0) := fun h => ij hin (by omega)
 have a2 : 2 < ws.length → 0 ≤ xs.getD 2 0 ∧ xs.getD 2 0 ≤ aG (ws.getD 2 0) := fun h => ij hin (by omega)
 have two : ∀ {op : Int}, cH op = 2 → (ws.length : Int) = cH op → fc op ws k w = b3 ws → 1 ≤ fc op ws k w ∧ fc op ws k w ≤ 8 → ws.getD 0 0 = ws.getD 1 0 ∧ fc op ws k w = ws.getD 0 0 ∧ (xs.getD 0 0).toNat < 2 ^ (ws.getD 0 0).toNat ∧ (xs.getD 1 0).toNat < 2 ^ (ws.getD 0 0).toNat ∧ 1 ≤ ws.getD 0 0 ∧ ws.getD 0 0 ≤ 8 := by
  intro op hA hl hw hb
  have hl2 : ws.length = 2 := by omega
  obtain ⟨e1, e2⟩ := yv (ws := ws) (by rw [← hw]; omega)
  have b0 := f0 (by omega)
  have c0 := a0 (by omega)
  have c1 := a1 (by omega)
  refine ⟨e1, by rw [hw, e2], dY c0.1 ((iY (by omega) (by omega)).1 c0.2), ?_, b0⟩
  have := (iY (w := ws.getD 1 0) (by omega) (by omega)).1 c1.2
  rw [← e1] at this
  exact dY c1.1 this
 have hcase : op = 1 ∨ op = 2 ∨ op = 3 ∨ op = 4 ∨ op = 5 ∨ op = 6 ∨ op = 7 ∨ op = 8 ∨ op = 9 ∨ op = 10 ∨ op = 11 ∨ op = 12 ∨ op = 13 := by omega
 rcases hcase with rfl | rfl | rfl | rfl | rfl | rfl | rfl | rfl | rfl | rfl | rfl | rfl | rfl
 ·show dG k (if aI w = false ∨ k < 0 ∨ aG w < k then 0 else w)
  have e : fc 1 ws k w = (if aI w = false ∨ k < 0 ∨ aG w < k then 0 else w) := rfl
  rw [e] at h3
  split at h3
  ·omega
  ·rename_i hn
   rw [if_neg hn]
   simp only [not_or, Int.not_lt] at hn
   exact ⟨hn.2.1, hn.2.2⟩
 ·have hl : (ws.length : Int) = 1 := h1
  have b0 := f0 (by omega)
  have c0 := a0 (by omega)
  show dG (((xs.getD 0 0).toNat ^^^ (aG (ws.getD 0 0)).toNat : Nat) : Int) (ws.getD 0 0)
  refine oi (by omega) (by omega) (Nat.xor_lt_two_pow (dY c0.1 ((iY (by omega) (by omega)).1 c0.2)) ?_)
  have m0 := cA (w := ws.getD 0 0) (by omega) (by omega)
  exact dY m0.1 ((iY (by omega) (by omega)).1 (Int.le_refl _))
 ·obtain ⟨e1, e2, e3, e4, e5, e6⟩ := two (op := 3) (by decide) h1 rfl h3
  rw [e2]
  exact oi (by omega) (by omega) (Nat.lt_of_le_of_lt Nat.and_le_left e3)
 ·obtain ⟨e1, e2, e3, e4, e5, e6⟩ := two (op := 4) (by decide) h1 rfl h3
  rw [e2]
  exact oi (by omega) (by omega) (Nat.or_lt_two_pow e3 e4)
 ·obtain ⟨e1, e2, e3, e4, e5, e6⟩ := two (op := 5) (by decide) h1 rfl h3
  rw [e2]
  exact oi (by omega) (by omega) (Nat.xor_lt_two_pow e3 e4)
 ·obtain ⟨e1, e2, e3, e4, e5, e6⟩ := two (op := 6) (by decide) h1 rfl h3
  rw [e2]
  exact oh (by omega) (by omega)
 ·obtain ⟨e1, e2, e3, e4, e5, e6⟩ := two (op := 7) (by decide) h1 rfl h3
  rw [e2]
  exact oh (by omega) (by omega)
 ·have e : fc 8 ws k w = min (b3 ws) 1 := rfl
  rw [e] at h3 ⊢
  have e1 : min (b3 ws) 1 = 1 := by omega
  rw [e1]
  show dG (if xs.getD 0 0 = xs.getD 1 0 then 1 else 0) 1
  split <;> exact ⟨by decide, by decide⟩
 ·have e : fc 9 ws k w = min (b3 ws) 1 := rfl
  rw [e] at h3 ⊢
  have e1 : min (b3 ws) 1 = 1 := by omega
  rw [e1]
  show dG (if xs.getD 0 0 < xs.getD 1 0 then 1 else 0) 1
  split <;> exact ⟨by decide, by decide⟩
 ·have hl : (ws.length : Int) = 3 := h1
  have hm1 := zH h
  have c0 := a0 (by omega)
  rw [hm1] at c0
  have c0' : xs.getD 0 0 ≤ 1 := c0.2
  have c1 := a1 (by omega)
  have c2 := a2 (by omega)
  have e : fc 10 ws k w = (if ws.getD 0 0 ≠ 1 ∨ ws.getD 1 0 ≠ ws.getD 2 0 then 0 else ws.getD 1 0) := rfl
  rw [e] at h3 ⊢
  split at h3
  ·omega
  ·rename_i hn
   rw [if_neg hn]
   have hs : ws.getD 1 0 = ws.getD 2 0 := Decidable.byContradiction fun hh => hn (.inr hh)
   show dG (xs.getD (2 - xs.getD 0 0).toNat 0) (ws.getD 1 0)
   have hc : xs.getD 0 0 = 0 ∨ xs.getD 0 0 = 1 := by omega
   rcases hc with hc | hc
   ·rw [hc, hs]; exact c2
   ·rw [hc]; exact c1
 ·have hl : (ws.length : Int) = 2 := h1
  have b0 := f0 (by omega)
  have b1 := f1 (by omega)
  have c0 := a0 (by omega)
  have c1 := a1 (by omega)
  have e : fc 11 ws k w = ws.getD 0 0 + ws.getD 1 0 := rfl
  rw [e] at h3 ⊢
  show dG ((((xs.getD 0 0).toNat * 2 ^ (ws.getD 1 0).toNat ||| (xs.getD 1 0).toNat : Nat)) : Int) (ws.getD 0 0 + ws.getD 1 0)
  have d0 := dY c0.1 ((iY (by omega) (by omega)).1 c0.2)
  have d1 := dY c1.1 ((iY (by omega) (by omega)).1 c1.2)
  have hs : (ws.getD 0 0 + ws.getD 1 0).toNat = (ws.getD 0 0).toNat + (ws.getD 1 0).toNat := by omega
  refine oi (by omega) (by omega) ?_
  rw [hs, Nat.pow_add]
  refine (Nat.pow_add 2 _ _) ▸ Nat.or_lt_two_pow ?_ ?_
  ·rw [Nat.pow_add]; exact Nat.mul_lt_mul_of_pos_right d0 (Nat.two_pow_pos _)
  ·exact Nat.lt_of_lt_of_le d1 (Nat.pow_le_pow_right (by omega) (by omega))
 ·have hk := zI h
  have e : fc 12 ws k w = (if aI w = false ∨ k < 0 ∨ ws.getD 0 0 - w < k then 0 else w) := rfl
  rw [e] at h3 ⊢
  split at h3
  ·omega
  ·rename_i hn
   rw [if_neg hn]
   have hw := aQ.1 hk.2.2
   exact oh (by omega) (by omega)
 ·have hl : (ws.length : Int) = 1 := h1
  have b0 := f0 (by omega)
  have c0 := a0 (by omega)
  have e : fc 13 ws k w = (if w < ws.getD 0 0 then 0 else w) := rfl
  rw [e] at h3 ⊢
  split at h3
  ·omega
  ·rename_i hn
   rw [if_neg hn]
   show dG (xs.getD 0 0) w
   exact ⟨c0.1, Int.le_trans c0.2 (Bq (by omega) (by omega) (by omega))⟩
theorem Br {op : Int} {ws xs nums : List Int} {k w : Int} (h : iP op ws k w = true) (hx : xs.length = ws.length) (hin : Bn ws xs = true) (hn : nums.length = 2) (h0 : nums.getD 0 0 = k) (h1 : nums.getD 1 0 = w) :
  ft op ws xs nums = wa op ws xs k w ∧ dG (ft op ws xs nums) (fc op ws k w) := by
 have e := (pp hn hx (by rw [h0, h1]; exact h) hin).1
 rw [h0, h1] at e
 exact ⟨e, by rw [e]; exact Db h hx hin⟩
end Go.Proofs.Ytnlmlkbaflmgcaa
