/-
  Operators on bits, plain law: sums, differences, De Morgan's laws, parts.
-/
import Derived.Test.YtnlmlkbaflmgcaaQMjL
namespace Go.Proofs.Ytnlmlkbaflmgcaa
open Go.RowKit
set_option linter.unusedVariables false
set_option linter.unusedSimpArgs false
def v9 (r : aj) (g : Rg) : Rg := { g with rule := r }
def wa (r : aj) (g : Mm) : Mm := { g with rule := r }
def gb (r : aj) (p : Pr) : Pr := { p with regs := p.regs.map (v9 r), mems := p.mems.map (wa r) }
def aD (c : Ci) (r : aj) : Ci := ⟨tab (fun i => gb r (c.procs.getD i ac)) c.procs.length, c.chans⟩
def ab (nm : ByteArray) (w : Int) (r : aj) : Rg := ⟨nm, w, 0, ⟨16, e0, ⟨0, e0⟩, ⟨0, e0⟩, []⟩, r⟩
def K7 : Ex := ⟨1, e0, ⟨0, e0⟩, ⟨1, e0⟩, []⟩
def LP : Ex := ⟨1, e0, ⟨0, e0⟩, ⟨2, e0⟩, []⟩
def ak (nm : ByteArray) (n : Int) (r : aj) : Mm := ⟨nm, 2, n, K7, K7, LP, r⟩
def an (r : List Rg) (m : List Mm) : Ci := ⟨[⟨bs [112], bs [97], r, m, [], []⟩], []⟩
def dH (a b : Ns) (ea eb : Int) : Bool := decide (ea = eb) && cx a b
theorem GD {a b : Ns} {ea eb : Int} (h : ¬ea = eb) : dH a b ea eb = false := by unfold dH; rw [decide_eq_false h]; rfl
theorem EJ {a b : Ns} {ea eb : Int} (h : ea = eb) : dH a b ea eb = cx a b := by unfold dH; rw [decide_eq_true h]; rfl
theorem pS (a : Ns) (e : Int) : dH a a e e = true := by rw [EJ rfl]; exact y9.2 rfl
theorem wb (a b : ByteArray) : (a.toList == b.toList) = decide (a = b) := by
 by_cases h : a = b
 ·rw [h, decide_eq_true rfl]; simp
 ·rw [decide_eq_false h]; exact beq_eq_false_iff_ne.2 (fun e => h (toList_inj e))
theorem IA {x y : ByteArray} (h : (!(x.toList == y.toList)) = false) : x = y := by
 rw [wb] at h; simpa using h
theorem ze {x : ByteArray} (h : (!(x.toList == x.toList)) = true) : False := by
 rw [wb] at h; simp at h
def rK : aj := ⟨1, e0, 0⟩
def rC (s : ByteArray) : aj := ⟨2, s, 0⟩
def rA (s : ByteArray) (n : Int) : aj := ⟨3, s, n⟩
def tq : Ci := an [ab (bs [114]) 2 rK] [ak (bs [109]) 2 rK]
def J6 : Ci := an [ab (bs [114]) 2 rK] []
def J7 : Ci := an [ab (bs [120]) 1 (rC (bs [114]))] [ak (bs [110]) 4 (rC (bs [109]))]
def J8 : Ci := an [ab (bs [120]) 3 (rA (bs [114]) 2)] [ak (bs [110]) 4 (rA (bs [109]) 1)]
def x5 : Ns := ⟨[⟨[3], [[1, 2]]⟩], []⟩
def kA : Ci := ⟨[⟨bs [112], bs [97], [], [], [], [⟨0, 2, K7, LP⟩]⟩], [⟨bs [99], 2, 0, 0, -1⟩]⟩
def J9 : Ns := ⟨[⟨[], []⟩], [[1]]⟩
theorem LQ : af tq J6 x5 = (⟨[⟨[3], []⟩], []⟩, 0) := by rfl
theorem LR : af tq J7 x5 = (⟨[⟨[1], [[1, 2, 0, 0]]⟩], []⟩, 0) := by rfl
theorem LS : af tq J8 x5 = (⟨[⟨[5], [[2, 3, 1, 1]]⟩], []⟩, 0) := by rfl
theorem L3 : (af kA KC J9).2 = 150 := by rfl
theorem L4 : (af kA kA J9).2 = 0 := by rfl
theorem L5 : a7 kA KC kA.chans.length = [bs [99]] := by rfl
theorem L6 : bQ tq tq = true := by
 unfold bQ iR fv D1 D2 dX dr fw kv
 simp only [wb]
 decide +kernel
theorem L7 : bQ tq (an [] []) = false := by
 refine gP (i := 0) (by decide) ?_
 unfold iR fv D1 D2 dX dr fw
 simp only [wb]
 decide +kernel
theorem sH {o n : Ci} {s : Ns} (h1 : o.chans.length ≤ 1000000) (h2 : n.chans.length ≤ 1000000) (h3 : o.procs.length ≤ 1000000) (h4 : n.procs.length ≤ 1000000) (h5 : s.procs.length = o.procs.length) (h6 : s.chans.length = o.chans.length)
  (h7 : ∀ i, i < o.procs.length → (s.procs.getD i aW).regs.length = (o.procs.getD i ac).regs.length ∧ (s.procs.getD i aW).mems.length = (o.procs.getD i ac).mems.length ∧ (o.procs.getD i ac).regs.length ≤ 1000000 ∧ (o.procs.getD i ac).mems.length ≤ 1000000)
  (h8 : ∀ i, i < n.procs.length → (n.procs.getD i ac).regs.length ≤ 1000000 ∧ (n.procs.getD i ac).mems.length ≤ 1000000 ∧ (∀ j, j < (n.procs.getD i ac).regs.length → 0 ≤ ((n.procs.getD i ac).regs.getD j aK).rule.kind ∧ ((n.procs.getD i ac).regs.getD j aK).rule.kind ≤ 3) ∧ ∀ j, j < (n.procs.getD i ac).mems.length → (0 ≤ ((n.procs.getD i ac).mems.getD j ax).rule.kind ∧ ((n.procs.getD i ac).mems.getD j ax).rule.kind ≤ 3) ∧ 0 ≤ ((n.procs.getD i ac).mems.getD j ax).words ∧ ((n.procs.getD i ac).mems.getD j ax).words ≤ 1000000)
  (h9 : qq s 1000000) : ku o n s :=
 ⟨h1, h2, h3, h4, h5, h6, fun i hi => (h7 i hi).1, fun i hi => (h7 i hi).2.1, fun i hi => (h7 i hi).2.2, fun i hi => ⟨(h8 i hi).1, (h8 i hi).2.1⟩, fun i hi => (h8 i hi).2.2.1, fun i hi => (h8 i hi).2.2.2, h9⟩
theorem IB : qq x5 1000000 := Hk (by decide)
theorem Ka : qq J9 1000000 := Hk (by decide)
theorem K8 : ku tq J6 x5 := sH (by decide) (by decide) (by decide) (by decide) rfl rfl (by decide) (by decide) IB
theorem K9 : ku tq J7 x5 := sH (by decide) (by decide) (by decide) (by decide) rfl rfl (by decide) (by decide) IB
theorem La : ku tq J8 x5 := sH (by decide) (by decide) (by decide) (by decide) rfl rfl (by decide) (by decide) IB
theorem Lb : ku kA KC J9 := sH (by decide) (by decide) (by decide) (by decide) rfl rfl (by decide) (by decide) Ka
theorem Lc : ku kA kA J9 := sH (by decide) (by decide) (by decide) (by decide) rfl rfl (by decide) (by decide) Ka
theorem sI {α : Type} {l : List α} {d : α} {P : α → Prop} (h : ∀ x ∈ l, P x) (hd : P d) (i : Nat) : P (l.getD i d) := by
 by_cases hi : i < l.length
 ·rw [bC _ _ hi]; exact h _ (List.getElem_mem hi)
 ·rw [cZ (by omega)]; exact hd
theorem wc {a : Ns} (h1 : a.procs.length ≤ 1000000) (h2 : a.chans.length ≤ 1000000) (h3 : ∀ l ∈ a.chans, l.length ≤ 1099511627776) (h4 : ∀ p ∈ a.procs, p.regs.length ≤ 1000000 ∧ p.mems.length ≤ 1000000 ∧ ∀ l ∈ p.mems, l.length ≤ 1000000) : Ig a := by
 have hp := fun i => sI (d := aW) (P := fun (p : Ps) => p.regs.length ≤ 1000000 ∧ p.mems.length ≤ 1000000 ∧ ∀ l ∈ p.mems, l.length ≤ 1000000) h4 ⟨Nat.zero_le _, Nat.zero_le _, fun l hl => by cases hl⟩ i
 exact ⟨h1, h2, fun n => sI (P := fun (l : List Int) => l.length ≤ 1099511627776) h3 (Nat.zero_le _) n, fun i => (hp i).1, fun i => (hp i).2.1, fun i j => sI (P := fun (l : List Int) => l.length ≤ 1000000) (hp i).2.2 (Nat.zero_le _) j⟩
theorem Ld : dH (af tq J6 x5).1 ⟨[⟨[3], []⟩], []⟩ (af tq J6 x5).2 0 = true := by rw [LQ]; exact pS _ _
theorem Lf : dH (af tq J7 x5).1 ⟨[⟨[1], [[1, 2, 0, 0]]⟩], []⟩ (af tq J7 x5).2 0 = true := by rw [LR]; exact pS _ _
theorem Lg : dH (af tq J8 x5).1 ⟨[⟨[5], [[2, 3, 1, 1]]⟩], []⟩ (af tq J8 x5).2 0 = true := by rw [LS]; exact pS _ _
theorem Lh : Ig (af tq J6 x5).1 := by rw [LQ]; exact wc (by decide) (by decide) (by decide) (by decide)
theorem Li : Ig (af tq J7 x5).1 := by rw [LR]; exact wc (by decide) (by decide) (by decide) (by decide)
theorem Lj : Ig (af tq J8 x5).1 := by rw [LS]; exact wc (by decide) (by decide) (by decide) (by decide)
theorem Lk : ¬bQ tq (an [] []) = true := by rw [L7]; simp
theorem IC : ∀ i, i < tq.procs.length → D4 (tq.procs.getD i ac) := by unfold D4; decide
theorem Ll : ∀ i, i < (an [] []).procs.length → D4 ((an [] []).procs.getD i ac) := by unfold D4; decide
theorem Kb {n : Nat} (h : n ≤ 62) : aC (n : Int) = ((2 ^ n - 1 : Nat) : Int) := by
 rw [cI (by omega) (by omega), Int.toNat_natCast]
 have h1 : 1 ≤ (2 : Nat) ^ n := Nat.one_le_two_pow
 have e : ((2 : Int) ^ n) = ((2 ^ n : Nat) : Int) := by simp
 rw [e]
 omega
theorem GE {n z i : Nat} (hz : z < 2 ^ n) : (2 ^ n - 1 - z).testBit i = (decide (i < n) && !z.testBit i) := by
 rw [show 2 ^ n - 1 - z = 2 ^ n - (z + 1) from by omega, Nat.testBit_two_pow_sub_succ hz]
end Go.Proofs.Ytnlmlkbaflmgcaa
