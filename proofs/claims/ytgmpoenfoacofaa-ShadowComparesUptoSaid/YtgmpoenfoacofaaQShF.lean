/-
  Streams of outputs, plain data: the documentation's examples; the pair of a case.
-/
import Derived.Test.YtgmpoenfoacofaaQShA
import Derived.Test.YtgmpoenfoacofaaQNeU
namespace Go.Proofs.Ytgmpoenfoacofaa
open Go.RowKit
set_option linter.unusedVariables false
set_option linter.unusedSimpArgs false
theorem fD {n m : ByteArray} {b : List Int} : au [⟨m, b⟩] n = if (m.toList == n.toList) = true then 0 else -1 := by
 unfold au qJ
 show aW (fun i => ([(⟨m, b⟩ : Sm)].getD i aB).name.toList == n.toList) 1 = _
 rw [aW, aW]
 show (if cZ (fun i => !([(⟨m, b⟩ : Sm)].getD i aB).name.toList == n.toList) 0 = true then (if (m.toList == n.toList) = true then ((0 : Nat) : Int) else -1) else -1) = _
 rw [if_pos (show cZ (fun i => !([(⟨m, b⟩ : Sm)].getD i aB).name.toList == n.toList) 0 = true from rfl)]; rfl
theorem lF {n m : ByteArray} {a b : List Int} : aG [⟨n, a⟩] [⟨m, b⟩] = if (m.toList == n.toList) = true ∧ 0 ≤ bE a b then ⟨n, bE a b, false⟩ else ⟨e0, 0, true⟩ := by
 by_cases h : (m.toList == n.toList) = true
 ·by_cases h2 : 0 ≤ bE a b
  ·rw [if_pos ⟨h, h2⟩]
   have hf : au [⟨m, b⟩] n = 0 := by rw [fD, if_pos h]
   have hs : cj [(⟨m, b⟩ : Sm)] 0 = ⟨m, b⟩ := rfl
   have hc : cz [⟨n, a⟩] [⟨m, b⟩] 0 = true := f5 (by show au [⟨n, a⟩] n = _; rw [fD, if_pos (beq_self_eq_true _)]; rfl) (by show ¬au [⟨m, b⟩] n < 0; rw [hf]; omega) (by show 0 ≤ bE a (bC [⟨m, b⟩] (au [⟨m, b⟩] n)); rw [hf]; exact h2)
   rw [lk (i := 0) (by simp) hc (fun z hz => by omega)]
   show (⟨n, bE a (bC [⟨m, b⟩] (au [⟨m, b⟩] n)), false⟩ : Vd) = _
   rw [hf]; rfl
  ·rw [if_neg (fun q => h2 q.2)]
   refine io (fun z hz => ?_)
   have : z = 0 := by simp at hz; exact hz
   subst this
   refine eO ?_
   show ¬0 ≤ bE a (bC [⟨m, b⟩] (au [⟨m, b⟩] n))
   rw [fD, if_pos h]; exact h2
 ·rw [if_neg (fun q => h q.1)]
  refine io (fun z hz => ?_)
  have : z = 0 := by simp at hz; exact hz
  subst this
  exact eN (by show au [⟨m, b⟩] n < 0; rw [fD, if_neg h]; omega)
theorem w8 {a : List Sm} : aG a [] = ⟨e0, 0, true⟩ := io (fun z hz => eN (by show (-1 : Int) < 0; omega))
abbrev qR : ByteArray := bs [111, 117, 116]
abbrev zj : ByteArray := bs [111, 116, 104, 101, 114]
abbrev pD : List Sm := [⟨qR, [1, 2]⟩]
abbrev yj : List Sm := [⟨qR, [1]⟩]
abbrev xj : List Sm := [⟨qR, [1, 3, 4]⟩]
abbrev zN : List Sm := [⟨zj, [5]⟩]
theorem zO : (aG pD yj).is = true := by rw [lF, if_neg (fun q => absurd q.2 (by decide))]
theorem zP : (aG yj pD).is = true := by rw [lF, if_neg (fun q => absurd q.2 (by decide))]
theorem zz : aG pD xj = ⟨qR, 1, false⟩ := by rw [lF, if_pos ⟨beq_self_eq_true _, by decide⟩]; rfl
theorem zQ : (aG pD zN).is = true := by rw [lF, if_neg (fun q => absurd q.1 (by simp [bs]))]
theorem zR : (aG pD []).is = true := by rw [w8]
theorem zS : eM pD yj = false := by rw [ln, show iq pD yj = false from jQ (i := 0) (by simp) (vG (by show ¬2 = 1; omega)), Bool.and_false]
theorem zT : eM pD pD = true := by
 rw [ln, lF, if_neg (fun q => absurd q.2 (by decide))]
 show (true && iq pD pD) = true
 rw [Bool.true_and]
 exact jR rfl (fun i hi => vH (beq_self_eq_true _) rfl)
theorem zU : eM pD xj = false := by rw [ln, zz]; rfl
def dX : Ci := an 0 []
def sX : Ns := aA dX
theorem iy : kV dX := yi (by omega) (by omega) (fun x hx => by cases hx)
theorem lG : pj dX sX := uP iy
theorem lH : wR sX 4294967296 := fun n => by
 show ((List.replicate dX.chans.length ([] : List Int)).getD n []).length ≤ _
 rw [List.getD, List.getElem?_replicate]
 split <;> simp
abbrev pE : ByteArray := bs [99, 48]
abbrev yx : ByteArray := bs [99, 49]
theorem uQ : dX.chans.length = 2 := by decide
theorem yk : dX.chans.getD 0 bO = ⟨pE, 2, 0, -1, 0⟩ := by rfl
theorem zk : dX.chans.getD 1 bO = ⟨yx, 2, 0, 0, -1⟩ := by rfl
theorem sV : aK dX.chans pE = 0 := by
 refine a4 (i := 0) ?_ (fun z hz => by omega) (by rw [uQ]; omega)
 unfold po; rw [yk]; exact Bool.and_eq_true_iff.2 ⟨rfl, beq_self_eq_true _⟩
theorem zl : aK dX.chans yx = -1 := by
 refine a9 (fun z hz => ?_)
 rw [uQ] at hz
 unfold po
 rcases (show z = 0 ∨ z = 1 by omega) with rfl | rfl
 ·rw [yk, show ((⟨pE, 2, 0, -1, 0⟩ : Ch).name.toList == yx.toList) = false by simp [bs], Bool.and_false]
 ·rw [zk]; rfl
theorem fX : (aD dX sX 0 [1, 2]).2 = 0 ∧ (aD dX sX 0 [1, 2]).1.chans.length = 2 ∧ ((aD dX sX 0 [1, 2]).1.chans.getD 0 []).length = 2 := by decide
theorem zV : (aD dX sX 0 [4]).2 = 1 := by decide
theorem yl : ao dX dX sX sX pE [1, 2] = ((aD dX sX 0 [1, 2]).1, (aD dX sX 0 [1, 2]).1, 0) := by
 rw [df (by rw [sV]; omega) (by show (aD dX sX (aK dX.chans pE) [1, 2]).2 = 0; rw [sV]; exact fX.1) (by show (aD dX sX (aK dX.chans pE) [1, 2]).2 = 0; rw [sV]; exact fX.1)]
 show ((aD dX sX (aK dX.chans pE) [1, 2]).1, (aD dX sX (aK dX.chans pE) [1, 2]).1, 0) = _
 rw [sV]
theorem zm : (ao dX dX sX sX yx []).2.2 = 4 := by rw [eo (.inl (by rw [zl]; omega))]
theorem zn : (ao dX dX sX sX pE [4]).2.2 = 1 := by
 rw [bo (by rw [sV]; omega) (fun q => by
  have h : (aD dX sX (aK dX.chans pE) [4]).2 = 0 := q.1
  rw [sV, zV] at h; cases h)]
theorem zo : ¬eM pD yj = true := by rw [zS]; simp
theorem zp : ¬eM pD xj = true := by rw [zU]; simp
theorem zq : ((aG pD xj).name.toList == qR.toList && ((aG pD xj).pos == 1 && (aG pD xj).is == false)) = true := by
 rw [zz]
 show (qR.toList == qR.toList && _) = true
 rw [beq_self_eq_true]; rfl
theorem zW : (ao dX dX sX sX pE [1, 2]).2.2 = 0 := by rw [yl]
theorem zA : ((ao dX dX sX sX pE [1, 2]).1.chans.length : Int) = 2 := by rw [yl]; show ((aD dX sX 0 [1, 2]).1.chans.length : Int) = 2; rw [fX.2.1]; rfl
theorem zB : ((ao dX dX sX sX pE [1, 2]).2.1.chans.length : Int) = 2 := by rw [yl]; show ((aD dX sX 0 [1, 2]).1.chans.length : Int) = 2; rw [fX.2.1]; rfl
theorem zX : (((ao dX dX sX sX pE [1, 2]).1.chans.getD 0 []).length : Int) = 2 := by rw [yl]; show (((aD dX sX 0 [1, 2]).1.chans.getD 0 []).length : Int) = 2; rw [fX.2.2]; rfl
theorem zY : (((ao dX dX sX sX pE [1, 2]).2.1.chans.getD 0 []).length : Int) = 2 := by rw [yl]; show (((aD dX sX 0 [1, 2]).1.chans.getD 0 []).length : Int) = 2; rw [fX.2.2]; rfl
theorem zZ : 0 ≤ (0 : Int) ∧ (0 : Int) < ((ao dX dX sX sX pE [1, 2]).1.chans.length : Int) := by rw [zA]; omega
theorem z4 : 0 ≤ (0 : Int) ∧ (0 : Int) < ((ao dX dX sX sX pE [1, 2]).2.1.chans.length : Int) := by rw [zB]; omega
end Go.Proofs.Ytgmpoenfoacofaa
