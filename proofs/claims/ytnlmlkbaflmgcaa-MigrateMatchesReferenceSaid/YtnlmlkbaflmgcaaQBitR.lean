/-
  Operators on bits, plain law: sums, differences, De Morgan's laws, parts.
-/
import Derived.Test.YtnlmlkbaflmgcaaQMjL
namespace Go.Proofs.Ytnlmlkbaflmgcaa
open Go.RowKit
set_option linter.unusedVariables false
set_option linter.unusedSimpArgs false
def ae (nm : ByteArray) (w : Int) (r : ao) : Rg := ⟨nm, w, 0, ⟨16, e0, ⟨0, e0⟩, ⟨0, e0⟩, []⟩, r⟩
def Lg : Ex := ⟨1, e0, ⟨0, e0⟩, ⟨1, e0⟩, []⟩
def LR : Ex := ⟨1, e0, ⟨0, e0⟩, ⟨2, e0⟩, []⟩
def ak (nm : ByteArray) (n : Int) (r : ao) : Mm := ⟨nm, 2, n, Lg, Lg, LR, r⟩
def am (r : List Rg) (m : List Mm) : Ci := ⟨[⟨bs [112], bs [97], r, m, [], []⟩], []⟩
def eM (a b : Ns) (ea eb : Int) : Bool := decide (ea = eb) && cy a b
theorem GA {a b : Ns} {ea eb : Int} (h : ¬ea = eb) : eM a b ea eb = false := by unfold eM; rw [decide_eq_false h]; rfl
theorem EJ {a b : Ns} {ea eb : Int} (h : ea = eb) : eM a b ea eb = cy a b := by unfold eM; rw [decide_eq_true h]; rfl
theorem v1 (a : Ns) (e : Int) : eM a a e e = true := by rw [EJ rfl]; exact yN.2 rfl
theorem v2 (a b : ByteArray) : (a.toList == b.toList) = decide (a = b) := by
 by_cases h : a = b
 ·rw [h, decide_eq_true rfl]; simp
 ·rw [decide_eq_false h]; exact beq_eq_false_iff_ne.2 (fun e => h (toList_inj e))
theorem II {x y : ByteArray} (h : (!(x.toList == y.toList)) = false) : x = y := by
 rw [v2] at h; simpa using h
theorem yS {x : ByteArray} (h : (!(x.toList == x.toList)) = true) : False := by
 rw [v2] at h; simp at h
def rK : ao := ⟨1, e0, 0⟩
def rC (s : ByteArray) : ao := ⟨2, s, 0⟩
def rA (s : ByteArray) (n : Int) : ao := ⟨3, s, n⟩
def tc : Ci := am [ae (bs [114]) 2 rK] [ak (bs [109]) 2 rK]
def Kd : Ci := am [ae (bs [114]) 2 rK] []
def Ke : Ci := am [ae (bs [120]) 1 (rC (bs [114]))] [ak (bs [110]) 4 (rC (bs [109]))]
def Kf : Ci := am [ae (bs [120]) 3 (rA (bs [114]) 2)] [ak (bs [110]) 4 (rA (bs [109]) 1)]
def xQ : Ns := ⟨[⟨[3], [[1, 2]]⟩], []⟩
def kG : Ci := ⟨[⟨bs [112], bs [97], [], [], [], [⟨0, 2, Lg, LR⟩]⟩], [⟨bs [99], 2, 0, 0, -1⟩]⟩
def Kg : Ns := ⟨[⟨[], []⟩], [[1]]⟩
theorem LS : aq tc Kd xQ = (⟨[⟨[3], []⟩], []⟩, 0) := by rfl
theorem LU : aq tc Ke xQ = (⟨[⟨[1], [[1, 2, 0, 0]]⟩], []⟩, 0) := by rfl
theorem LV : aq tc Kf xQ = (⟨[⟨[5], [[2, 3, 1, 1]]⟩], []⟩, 0) := by rfl
theorem L6 : (aq kG KH Kg).2 = 150 := by rfl
theorem L7 : (aq kG kG Kg).2 = 0 := by rfl
theorem L8 : a4 kG KH kG.chans.length = [bs [99]] := by rfl
theorem L9 : b8 tc tc = true := by
 unfold b8 i5 fG DQ DR d8 dD fH kC
 simp only [v2]
 decide +kernel
theorem Ma : b8 tc (am [] []) = false := by
 refine hC (i := 0) (by decide) ?_
 unfold i5 fG DQ DR d8 dD fH
 simp only [v2]
 decide +kernel
theorem sA {o n : Ci} {s : Ns} (h1 : o.chans.length ≤ 1000000) (h2 : n.chans.length ≤ 1000000) (h3 : o.procs.length ≤ 1000000) (h4 : n.procs.length ≤ 1000000) (h5 : s.procs.length = o.procs.length) (h6 : s.chans.length = o.chans.length)
  (h7 : ∀ i, i < o.procs.length → (s.procs.getD i aX).regs.length = (o.procs.getD i ac).regs.length ∧ (s.procs.getD i aX).mems.length = (o.procs.getD i ac).mems.length ∧ (o.procs.getD i ac).regs.length ≤ 1000000 ∧ (o.procs.getD i ac).mems.length ≤ 1000000)
  (h8 : ∀ i, i < n.procs.length → (n.procs.getD i ac).regs.length ≤ 1000000 ∧ (n.procs.getD i ac).mems.length ≤ 1000000 ∧ (∀ j, j < (n.procs.getD i ac).regs.length → 0 ≤ ((n.procs.getD i ac).regs.getD j aC).rule.kind ∧ ((n.procs.getD i ac).regs.getD j aC).rule.kind ≤ 3) ∧ ∀ j, j < (n.procs.getD i ac).mems.length → (0 ≤ ((n.procs.getD i ac).mems.getD j au).rule.kind ∧ ((n.procs.getD i ac).mems.getD j au).rule.kind ≤ 3) ∧ 0 ≤ ((n.procs.getD i ac).mems.getD j au).words ∧ ((n.procs.getD i ac).mems.getD j au).words ≤ 1000000)
  (h9 : sQ s 1000000) : oB o n s :=
 ⟨h1, h2, h3, h4, h5, h6, fun i hi => (h7 i hi).1, fun i hi => (h7 i hi).2.1, fun i hi => (h7 i hi).2.2, fun i hi => ⟨(h8 i hi).1, (h8 i hi).2.1⟩, fun i hi => (h8 i hi).2.2.1, fun i hi => (h8 i hi).2.2.2, h9⟩
theorem IJ : sQ xQ 1000000 := Hc (by decide)
theorem Kh : sQ Kg 1000000 := Hc (by decide)
theorem Lh : oB tc Kd xQ := sA (by decide) (by decide) (by decide) (by decide) rfl rfl (by decide) (by decide) IJ
theorem Li : oB tc Ke xQ := sA (by decide) (by decide) (by decide) (by decide) rfl rfl (by decide) (by decide) IJ
theorem Lj : oB tc Kf xQ := sA (by decide) (by decide) (by decide) (by decide) rfl rfl (by decide) (by decide) IJ
theorem Lk : oB kG KH Kg := sA (by decide) (by decide) (by decide) (by decide) rfl rfl (by decide) (by decide) Kh
theorem Ll : oB kG kG Kg := sA (by decide) (by decide) (by decide) (by decide) rfl rfl (by decide) (by decide) Kh
theorem sB {α : Type} {l : List α} {d : α} {P : α → Prop} (h : ∀ x ∈ l, P x) (hd : P d) (i : Nat) : P (l.getD i d) := by
 by_cases hi : i < l.length
 ·rw [bS _ _ hi]; exact h _ (List.getElem_mem hi)
 ·rw [ss (by omega)]; exact hd
theorem v3 {a : Ns} (h1 : a.procs.length ≤ 1000000) (h2 : a.chans.length ≤ 1000000) (h3 : ∀ l ∈ a.chans, l.length ≤ 1099511627776) (h4 : ∀ p ∈ a.procs, p.regs.length ≤ 1000000 ∧ p.mems.length ≤ 1000000 ∧ ∀ l ∈ p.mems, l.length ≤ 1000000) : G9 a := by
 have hp := fun i => sB (d := aX) (P := fun (p : Ps) => p.regs.length ≤ 1000000 ∧ p.mems.length ≤ 1000000 ∧ ∀ l ∈ p.mems, l.length ≤ 1000000) h4 ⟨Nat.zero_le _, Nat.zero_le _, fun l hl => by cases hl⟩ i
 exact ⟨h1, h2, fun n => sB (P := fun (l : List Int) => l.length ≤ 1099511627776) h3 (Nat.zero_le _) n, fun i => (hp i).1, fun i => (hp i).2.1, fun i j => sB (P := fun (l : List Int) => l.length ≤ 1000000) (hp i).2.2 (Nat.zero_le _) j⟩
theorem Lm : eM (aq tc Kd xQ).1 ⟨[⟨[3], []⟩], []⟩ (aq tc Kd xQ).2 0 = true := by rw [LS]; exact v1 _ _
theorem Ln : eM (aq tc Ke xQ).1 ⟨[⟨[1], [[1, 2, 0, 0]]⟩], []⟩ (aq tc Ke xQ).2 0 = true := by rw [LU]; exact v1 _ _
theorem Lo : eM (aq tc Kf xQ).1 ⟨[⟨[5], [[2, 3, 1, 1]]⟩], []⟩ (aq tc Kf xQ).2 0 = true := by rw [LV]; exact v1 _ _
theorem Lq : G9 (aq tc Kd xQ).1 := by rw [LS]; exact v3 (by decide) (by decide) (by decide) (by decide)
theorem Lr : G9 (aq tc Ke xQ).1 := by rw [LU]; exact v3 (by decide) (by decide) (by decide) (by decide)
theorem Ls : G9 (aq tc Kf xQ).1 := by rw [LV]; exact v3 (by decide) (by decide) (by decide) (by decide)
theorem Lu : ¬b8 tc (am [] []) = true := by rw [Ma]; simp
theorem IK : ∀ i, i < tc.procs.length → Ca (tc.procs.getD i ac) := by unfold Ca; decide
theorem Lv : ∀ i, i < (am [] []).procs.length → Ca ((am [] []).procs.getD i ac) := by unfold Ca; decide
theorem Ki {n : Nat} (h : n ≤ 62) : aG (n : Int) = ((2 ^ n - 1 : Nat) : Int) := by
 rw [dM (by omega) (by omega), Int.toNat_natCast]
 have h1 : 1 ≤ (2 : Nat) ^ n := Nat.one_le_two_pow
 have e : ((2 : Int) ^ n) = ((2 ^ n : Nat) : Int) := by simp
 rw [e]
 omega
theorem GB {n z i : Nat} (hz : z < 2 ^ n) : (2 ^ n - 1 - z).testBit i = (decide (i < n) && !z.testBit i) := by
 rw [show 2 ^ n - 1 - z = 2 ^ n - (z + 1) from by omega, Nat.testBit_two_pow_sub_succ hz]
end Go.Proofs.Ytnlmlkbaflmgcaa
