/-
  Streams of outputs, plain data: the documentation's examples; the pair of a case.
-/
import Derived.Test.YtgmpoenfoacofaaGreatQShA
import Derived.Test.YtgmpoenfoacofaaGreatQNeU
namespace Go.Proofs.YtgmpoenfoacofaaGreat
open Go.RowKit
set_option linter.unusedVariables false
set_option linter.unusedSimpArgs false
theorem pW {n m : ByteArray} {b : List Int} : bc [⟨m, b⟩] n = if (m.toList == n.toList) = true then 0 else -1 := by
 unfold bc Iw
 show bW (fun i => ([(⟨m, b⟩ : Sm)].getD i b8).name.toList == n.toList) 1 = _
 rw [bW, bW]
 show (if cB (fun i => !([(⟨m, b⟩ : Sm)].getD i b8).name.toList == n.toList) 0 = true then (if (m.toList == n.toList) = true then ((0 : Nat) : Int) else -1) else -1) = _
 rw [if_pos (show cB (fun i => !([(⟨m, b⟩ : Sm)].getD i b8).name.toList == n.toList) 0 = true from rfl)]; rfl
theorem uL {n m : ByteArray} {a b : List Int} : dV [⟨n, a⟩] [⟨m, b⟩] = if (m.toList == n.toList) = true ∧ 0 ≤ lA a b then ⟨n, lA a b, false⟩ else ⟨e0, 0, true⟩ := by
 by_cases h : (m.toList == n.toList) = true
 ·by_cases h2 : 0 ≤ lA a b
  ·rw [if_pos ⟨h, h2⟩]
   have hf : bc [⟨m, b⟩] n = 0 := by rw [pW, if_pos h]
   have hs : iw [(⟨m, b⟩ : Sm)] 0 = ⟨m, b⟩ := rfl
   have hc : pH [⟨n, a⟩] [⟨m, b⟩] 0 = true := xP (by show bc [⟨n, a⟩] n = _; rw [pW, if_pos (beq_self_eq_true _)]; rfl) (by show ¬bc [⟨m, b⟩] n < 0; rw [hf]; omega) (by show 0 ≤ lA a (kk [⟨m, b⟩] (bc [⟨m, b⟩] n)); rw [hf]; exact h2)
   rw [AV (i := 0) (by simp) hc (fun z hz => by omega)]
   show (⟨n, lA a (kk [⟨m, b⟩] (bc [⟨m, b⟩] n)), false⟩ : Vd) = _
   rw [hf]; rfl
  ·rw [if_neg (fun q => h2 q.2)]
   refine wq (fun z hz => ?_)
   have : z = 0 := by simp at hz; exact hz
   subst this
   refine pI ?_
   show ¬0 ≤ lA a (kk [⟨m, b⟩] (bc [⟨m, b⟩] n))
   rw [pW, if_pos h]; exact h2
 ·rw [if_neg (fun q => h q.1)]
  refine wq (fun z hz => ?_)
  have : z = 0 := by simp at hz; exact hz
  subst this
  exact ms (by show bc [⟨m, b⟩] n < 0; rw [pW, if_neg h]; omega)
theorem JJ {a : List Sm} : dV a [] = ⟨e0, 0, true⟩ := wq (fun z hz => ms (by show (-1 : Int) < 0; omega))
abbrev Bb : ByteArray := bs [111, 117, 116]
abbrev Mt : ByteArray := bs [111, 116, 104, 101, 114]
abbrev zI : List Sm := [⟨Bb, [1, 2]⟩]
abbrev K3 : List Sm := [⟨Bb, [1]⟩]
abbrev JV : List Sm := [⟨Bb, [1, 3, 4]⟩]
abbrev MR : List Sm := [⟨Mt, [5]⟩]
theorem MS : (dV zI K3).is = true := by rw [uL, if_neg (fun q => absurd q.2 (by decide))]
theorem MT : (dV K3 zI).is = true := by rw [uL, if_neg (fun q => absurd q.2 (by decide))]
theorem MG : dV zI JV = ⟨Bb, 1, false⟩ := by rw [uL, if_pos ⟨beq_self_eq_true _, by decide⟩]; rfl
theorem MU : (dV zI MR).is = true := by rw [uL, if_neg (fun q => absurd q.1 (by simp [bs]))]
theorem MV : (dV zI []).is = true := by rw [JJ]
theorem MW : jC zI K3 = false := by rw [pK, show nX zI K3 = false from sC (i := 0) (by simp) (Hy (by show ¬2 = 1; omega)), Bool.and_false]
theorem MX : jC zI zI = true := by
 rw [pK, uL, if_neg (fun q => absurd q.2 (by decide))]
 show (true && nX zI zI) = true
 rw [Bool.true_and]
 exact pJ rfl (fun i hi => Cn (beq_self_eq_true _) rfl)
theorem MY : jC zI JV = false := by rw [pK, MG]; rfl
def dX : Ci := aa 0 []
def sX : Ns := aD dX
theorem pX : a8 dX := CY (by omega) (by omega) (fun x hx => by cases hx)
theorem uM : bG dX sX := zH pX
theorem uN : ir sX 4294967296 := fun n => by
 show ((List.replicate dX.chans.length ([] : List Int)).getD n []).length ≤ _
 rw [List.getD, List.getElem?_replicate]
 split <;> simp
abbrev zJ : ByteArray := bs [99, 48]
abbrev Lg : ByteArray := bs [99, 49]
theorem GE : dX.chans.length = 2 := by decide
theorem K4 : dX.chans.getD 0 ba = ⟨zJ, 2, 0, -1, 0⟩ := by rfl
theorem Mu : dX.chans.getD 1 ba = ⟨Lg, 2, 0, 0, -1⟩ := by rfl
theorem Ed : bi dX.chans zJ = 0 := by
 refine cJ (i := 0) ?_ (fun z hz => by omega) (by rw [GE]; omega)
 unfold r8; rw [K4]; exact Bool.and_eq_true_iff.2 ⟨rfl, beq_self_eq_true _⟩
theorem Mv : bi dX.chans Lg = -1 := by
 refine dp (fun z hz => ?_)
 rw [GE] at hz
 unfold r8
 rcases (show z = 0 ∨ z = 1 by omega) with rfl | rfl
 ·rw [K4, show ((⟨zJ, 2, 0, -1, 0⟩ : Ch).name.toList == Lg.toList) = false by simp [bs], Bool.and_false]
 ·rw [Mu]; rfl
theorem fX : (aW dX sX 0 [1, 2]).2 = 0 ∧ (aW dX sX 0 [1, 2]).1.chans.length = 2 ∧ ((aW dX sX 0 [1, 2]).1.chans.getD 0 []).length = 2 := by decide
theorem MZ : (aW dX sX 0 [4]).2 = 1 := by decide
theorem K5 : aB dX dX sX sX zJ [1, 2] = ((aW dX sX 0 [1, 2]).1, (aW dX sX 0 [1, 2]).1, 0) := by
 rw [fB (by rw [Ed]; omega) (by show (aW dX sX (bi dX.chans zJ) [1, 2]).2 = 0; rw [Ed]; exact fX.1) (by show (aW dX sX (bi dX.chans zJ) [1, 2]).2 = 0; rw [Ed]; exact fX.1)]
 show ((aW dX sX (bi dX.chans zJ) [1, 2]).1, (aW dX sX (bi dX.chans zJ) [1, 2]).1, 0) = _
 rw [Ed]
theorem Mw : (aB dX dX sX sX Lg []).2.2 = 4 := by rw [jD (.inl (by rw [Mv]; omega))]
theorem Mx : (aB dX dX sX sX zJ [4]).2.2 = 1 := by
 rw [dq (by rw [Ed]; omega) (fun q => by
  have h : (aW dX sX (bi dX.chans zJ) [4]).2 = 0 := q.1
  rw [Ed, MZ] at h; cases h)]
theorem My : ¬jC zI K3 = true := by rw [MW]; simp
theorem Mz : ¬jC zI JV = true := by rw [MY]; simp
theorem MA : ((dV zI JV).name.toList == Bb.toList && ((dV zI JV).pos == 1 && (dV zI JV).is == false)) = true := by
 rw [MG]
 show (Bb.toList == Bb.toList && _) = true
 rw [beq_self_eq_true]; rfl
theorem M0 : (aB dX dX sX sX zJ [1, 2]).2.2 = 0 := by rw [K5]
theorem MH : ((aB dX dX sX sX zJ [1, 2]).1.chans.length : Int) = 2 := by rw [K5]; show ((aW dX sX 0 [1, 2]).1.chans.length : Int) = 2; rw [fX.2.1]; rfl
theorem MI : ((aB dX dX sX sX zJ [1, 2]).2.1.chans.length : Int) = 2 := by rw [K5]; show ((aW dX sX 0 [1, 2]).1.chans.length : Int) = 2; rw [fX.2.1]; rfl
theorem M1 : (((aB dX dX sX sX zJ [1, 2]).1.chans.getD 0 []).length : Int) = 2 := by rw [K5]; show (((aW dX sX 0 [1, 2]).1.chans.getD 0 []).length : Int) = 2; rw [fX.2.2]; rfl
theorem M2 : (((aB dX dX sX sX zJ [1, 2]).2.1.chans.getD 0 []).length : Int) = 2 := by rw [K5]; show (((aW dX sX 0 [1, 2]).1.chans.getD 0 []).length : Int) = 2; rw [fX.2.2]; rfl
theorem M3 : 0 ≤ (0 : Int) ∧ (0 : Int) < ((aB dX dX sX sX zJ [1, 2]).1.chans.length : Int) := by rw [MH]; omega
theorem M4 : 0 ≤ (0 : Int) ∧ (0 : Int) < ((aB dX dX sX sX zJ [1, 2]).2.1.chans.length : Int) := by rw [MI]; omega
def pS (c : Ci) (bb l : List Int) : Ns := cQ c (ca c bb) (l.take (min (l.length / 2) 12))
def pT (d : Ci) (bb l : List Int) : Ns := cQ d (ca d bb) ((l.take (min l.length (l.length / 2 + 12))).drop (l.length / 2))
theorem CZ {c : Ci} (hc : a8 c) {bb l : List Int} (hb : ik bb) (hl : l.length ≤ 12) : bG c (cQ c (ca c bb) l) ∧ ir (cQ c (ca c bb) l) 100 := by
 have h1 := GD hc hb c.chans.length (Nat.le_refl _)
 have h2 := CW hc l h1.1 h1.2
 exact ⟨h2.1, fun n => by have := h2.2 n; unfold ca; omega⟩
theorem K6 {c : Ci} (hc : a8 c) {bb l : List Int} (hb : ik bb) : bG c (pS c bb l) ∧ ir (pS c bb l) 100 := CZ hc hb (by rw [List.length_take]; omega)
theorem K7 {c : Ci} (hc : a8 c) {bb l : List Int} (hb : ik bb) : bG c (pT c bb l) ∧ ir (pT c bb l) 100 := CZ hc hb (by rw [List.length_drop, List.length_take]; omega)
theorem GF {l : List Int} {n : Nat} (h : ik l) : ik (l.drop n) := fun x hx => h x (List.mem_of_mem_drop hx)
end Go.Proofs.YtgmpoenfoacofaaGreat
