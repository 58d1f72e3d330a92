/-
  Streams of outputs, plain data: the documentation's examples; the pair of a case.
-/
import Derived.Test.YtgmpoenfoacofaaGreatQShA
import Derived.Test.YtgmpoenfoacofaaGreatQNeU
namespace Go.Proofs.YtgmpoenfoacofaaGreat
open Go.RowKit
set_option linter.unusedVariables false
set_option linter.unusedSimpArgs false
theorem nx {n m : ByteArray} {b : List Int} : aW [⟨m, b⟩] n = if (m.toList == n.toList) = true then 0 else -1 := by
 unfold aW EW
 show ca (fun i => ([(⟨m, b⟩ : Sm)].getD i bP).name.toList == n.toList) 1 = _
 rw [ca, ca]
 show (if bW (fun i => !([(⟨m, b⟩ : Sm)].getD i bP).name.toList == n.toList) 0 = true then (if (m.toList == n.toList) = true then ((0 : Nat) : Int) else -1) else -1) = _
 rw [if_pos (show bW (fun i => !([(⟨m, b⟩ : Sm)].getD i bP).name.toList == n.toList) 0 = true from rfl)]; rfl
theorem sa {n m : ByteArray} {a b : List Int} : d8 [⟨n, a⟩] [⟨m, b⟩] = if (m.toList == n.toList) = true ∧ 0 ≤ gu a b then ⟨n, gu a b, false⟩ else ⟨e0, 0, true⟩ := by
 by_cases h : (m.toList == n.toList) = true
 ·by_cases h2 : 0 ≤ gu a b
  ·rw [if_pos ⟨h, h2⟩]
   have hf : aW [⟨m, b⟩] n = 0 := by rw [nx, if_pos h]
   have hs : gt [(⟨m, b⟩ : Sm)] 0 = ⟨m, b⟩ := rfl
   have hc : jB [⟨n, a⟩] [⟨m, b⟩] 0 = true := qe (by show aW [⟨n, a⟩] n = _; rw [nx, if_pos (beq_self_eq_true _)]; rfl) (by show ¬aW [⟨m, b⟩] n < 0; rw [hf]; omega) (by show 0 ≤ gu a (ep [⟨m, b⟩] (aW [⟨m, b⟩] n)); rw [hf]; exact h2)
   rw [uV (i := 0) (by simp) hc (fun z hz => by omega)]
   show (⟨n, gu a (ep [⟨m, b⟩] (aW [⟨m, b⟩] n)), false⟩ : Vd) = _
   rw [hf]; rfl
  ·rw [if_neg (fun q => h2 q.2)]
   refine tJ (fun z hz => ?_)
   have : z = 0 := by simp at hz; exact hz
   subst this
   refine qc ?_
   show ¬0 ≤ gu a (ep [⟨m, b⟩] (aW [⟨m, b⟩] n))
   rw [nx, if_pos h]; exact h2
 ·rw [if_neg (fun q => h q.1)]
  refine tJ (fun z hz => ?_)
  have : z = 0 := by simp at hz; exact hz
  subst this
  exact nj (by show aW [⟨m, b⟩] n < 0; rw [nx, if_neg h]; omega)
theorem Ge {a : List Sm} : d8 a [] = ⟨e0, 0, true⟩ := tJ (fun z hz => nj (by show (-1 : Int) < 0; omega))
abbrev xZ : ByteArray := bs [111, 117, 116]
abbrev IZ : ByteArray := bs [111, 116, 104, 101, 114]
abbrev wC : List Sm := [⟨xZ, [1, 2]⟩]
abbrev Hy : List Sm := [⟨xZ, [1]⟩]
abbrev Gv : List Sm := [⟨xZ, [1, 3, 4]⟩]
abbrev Jq : List Sm := [⟨IZ, [5]⟩]
theorem Jr : (d8 wC Hy).is = true := by rw [sa, if_neg (fun q => absurd q.2 (by decide))]
theorem Js : (d8 Hy wC).is = true := by rw [sa, if_neg (fun q => absurd q.2 (by decide))]
theorem Jd : d8 wC Gv = ⟨xZ, 1, false⟩ := by rw [sa, if_pos ⟨beq_self_eq_true _, by decide⟩]; rfl
theorem Jt : (d8 wC Jq).is = true := by rw [sa, if_neg (fun q => absurd q.1 (by simp [bs]))]
theorem Ju : (d8 wC []).is = true := by rw [Ge]
theorem Jv : lk wC Hy = false := by rw [rN, show nk wC Hy = false from qf (i := 0) (by simp) (D6 (by show ¬2 = 1; omega)), Bool.and_false]
theorem Jw : lk wC wC = true := by
 rw [rN, sa, if_neg (fun q => absurd q.2 (by decide))]
 show (true && nk wC wC) = true
 rw [Bool.true_and]
 exact qg rfl (fun i hi => D7 (beq_self_eq_true _) rfl)
theorem Jx : lk wC Gv = false := by rw [rN, Jd]; rfl
def dX : Ci := aa 0 []
def sX : Ns := aC dX
theorem ny : b5 dX := E1 (by omega) (by omega) (fun x hx => by cases hx)
theorem sd : cT dX sX := wz ny
theorem se : l5 sX 4294967296 := fun n => by
 show ((List.replicate dX.chans.length ([] : List Int)).getD n []).length ≤ _
 rw [List.getD, List.getElem?_replicate]
 split <;> simp
abbrev wD : ByteArray := bs [99, 48]
abbrev HM : ByteArray := bs [99, 49]
theorem CT : dX.chans.length = 2 := by decide
theorem Hz : dX.chans.getD 0 be = ⟨wD, 2, 0, -1, 0⟩ := by rfl
theorem I0 : dX.chans.getD 1 be = ⟨HM, 2, 0, 0, -1⟩ := by rfl
theorem Az : bg dX.chans wD = 0 := by
 refine bM (i := 0) ?_ (fun z hz => by omega) (by rw [CT]; omega)
 unfold wk; rw [Hz]; exact Bool.and_eq_true_iff.2 ⟨rfl, beq_self_eq_true _⟩
theorem I1 : bg dX.chans HM = -1 := by
 refine cY (fun z hz => ?_)
 rw [CT] at hz
 unfold wk
 rcases (show z = 0 ∨ z = 1 by omega) with rfl | rfl
 ·rw [Hz, show ((⟨wD, 2, 0, -1, 0⟩ : Ch).name.toList == HM.toList) = false by simp [bs], Bool.and_false]
 ·rw [I0]; rfl
theorem fX : (aU dX sX 0 [1, 2]).2 = 0 ∧ (aU dX sX 0 [1, 2]).1.chans.length = 2 ∧ ((aU dX sX 0 [1, 2]).1.chans.getD 0 []).length = 2 := by decide
theorem Jy : (aU dX sX 0 [4]).2 = 1 := by decide
theorem HA : aE dX dX sX sX wD [1, 2] = ((aU dX sX 0 [1, 2]).1, (aU dX sX 0 [1, 2]).1, 0) := by
 rw [fN (by rw [Az]; omega) (by show (aU dX sX (bg dX.chans wD) [1, 2]).2 = 0; rw [Az]; exact fX.1) (by show (aU dX sX (bg dX.chans wD) [1, 2]).2 = 0; rw [Az]; exact fX.1)]
 show ((aU dX sX (bg dX.chans wD) [1, 2]).1, (aU dX sX (bg dX.chans wD) [1, 2]).1, 0) = _
 rw [Az]
theorem I2 : (aE dX dX sX sX HM []).2.2 = 4 := by rw [iz (.inl (by rw [I1]; omega))]
theorem I3 : (aE dX dX sX sX wD [4]).2.2 = 1 := by
 rw [cz (by rw [Az]; omega) (fun q => by
  have h : (aU dX sX (bg dX.chans wD) [4]).2 = 0 := q.1
  rw [Az, Jy] at h; cases h)]
theorem I4 : ¬lk wC Hy = true := by rw [Jv]; simp
theorem I5 : ¬lk wC Gv = true := by rw [Jx]; simp
theorem I6 : ((d8 wC Gv).name.toList == xZ.toList && ((d8 wC Gv).pos == 1 && (d8 wC Gv).is == false)) = true := by
 rw [Jd]
 show (xZ.toList == xZ.toList && _) = true
 rw [beq_self_eq_true]; rfl
theorem Jz : (aE dX dX sX sX wD [1, 2]).2.2 = 0 := by rw [HA]
theorem Je : ((aE dX dX sX sX wD [1, 2]).1.chans.length : Int) = 2 := by rw [HA]; show ((aU dX sX 0 [1, 2]).1.chans.length : Int) = 2; rw [fX.2.1]; rfl
theorem Jf : ((aE dX dX sX sX wD [1, 2]).2.1.chans.length : Int) = 2 := by rw [HA]; show ((aU dX sX 0 [1, 2]).1.chans.length : Int) = 2; rw [fX.2.1]; rfl
theorem JA : (((aE dX dX sX sX wD [1, 2]).1.chans.getD 0 []).length : Int) = 2 := by rw [HA]; show (((aU dX sX 0 [1, 2]).1.chans.getD 0 []).length : Int) = 2; rw [fX.2.2]; rfl
theorem JB : (((aE dX dX sX sX wD [1, 2]).2.1.chans.getD 0 []).length : Int) = 2 := by rw [HA]; show (((aU dX sX 0 [1, 2]).1.chans.getD 0 []).length : Int) = 2; rw [fX.2.2]; rfl
theorem JC : 0 ≤ (0 : Int) ∧ (0 : Int) < ((aE dX dX sX sX wD [1, 2]).1.chans.length : Int) := by rw [Je]; omega
theorem JD : 0 ≤ (0 : Int) ∧ (0 : Int) < ((aE dX dX sX sX wD [1, 2]).2.1.chans.length : Int) := by rw [Jf]; omega
end Go.Proofs.YtgmpoenfoacofaaGreat
