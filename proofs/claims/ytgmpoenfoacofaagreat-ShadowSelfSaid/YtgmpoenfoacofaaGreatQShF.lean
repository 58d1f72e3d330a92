/-
  Streams of outputs, plain data: the documentation's examples; the pair of a case.
-/
import Derived.Test.YtgmpoenfoacofaaGreatQShA
import Derived.Test.YtgmpoenfoacofaaGreatQNeU
namespace Go.Proofs.YtgmpoenfoacofaaGreat
open Go.RowKit
set_option linter.unusedVariables false
set_option linter.unusedSimpArgs false
theorem pz {n m : ByteArray} {b : List Int} : ba [⟨m, b⟩] n = if (m.toList == n.toList) = true then 0 else -1 := by
 unfold ba HJ
 show bX (fun i => ([(⟨m, b⟩ : Sm)].getD i b7).name.toList == n.toList) 1 = _
 rw [bX, bX]
 show (if cB (fun i => !([(⟨m, b⟩ : Sm)].getD i b7).name.toList == n.toList) 0 = true then (if (m.toList == n.toList) = true then ((0 : Nat) : Int) else -1) else -1) = _
 rw [if_pos (show cB (fun i => !([(⟨m, b⟩ : Sm)].getD i b7).name.toList == n.toList) 0 = true from rfl)]; rfl
theorem tU {n m : ByteArray} {a b : List Int} : dP [⟨n, a⟩] [⟨m, b⟩] = if (m.toList == n.toList) = true ∧ 0 ≤ ld a b then ⟨n, ld a b, false⟩ else ⟨e0, 0, true⟩ := by
 by_cases h : (m.toList == n.toList) = true
 ·by_cases h2 : 0 ≤ ld a b
  ·rw [if_pos ⟨h, h2⟩]
   have hf : ba [⟨m, b⟩] n = 0 := by rw [pz, if_pos h]
   have hs : ij [(⟨m, b⟩ : Sm)] 0 = ⟨m, b⟩ := rfl
   have hc : pc [⟨n, a⟩] [⟨m, b⟩] 0 = true := wX (by show ba [⟨n, a⟩] n = _; rw [pz, if_pos (beq_self_eq_true _)]; rfl) (by show ¬ba [⟨m, b⟩] n < 0; rw [hf]; omega) (by show 0 ≤ ld a (jR [⟨m, b⟩] (ba [⟨m, b⟩] n)); rw [hf]; exact h2)
   rw [z3 (i := 0) (by simp) hc (fun z hz => by omega)]
   show (⟨n, ld a (jR [⟨m, b⟩] (ba [⟨m, b⟩] n)), false⟩ : Vd) = _
   rw [hf]; rfl
  ·rw [if_neg (fun q => h2 q.2)]
   refine vz (fun z hz => ?_)
   have : z = 0 := by simp at hz; exact hz
   subst this
   refine pg ?_
   show ¬0 ≤ ld a (jR [⟨m, b⟩] (ba [⟨m, b⟩] n))
   rw [pz, if_pos h]; exact h2
 ·rw [if_neg (fun q => h q.1)]
  refine vz (fun z hz => ?_)
  have : z = 0 := by simp at hz; exact hz
  subst this
  exact l5 (by show ba [⟨m, b⟩] n < 0; rw [pz, if_neg h]; omega)
theorem IY {a : List Sm} : dP a [] = ⟨e0, 0, true⟩ := vz (fun z hz => l5 (by show (-1 : Int) < 0; omega))
abbrev Ai : ByteArray := bs [111, 117, 116]
abbrev LG : ByteArray := bs [111, 116, 104, 101, 114]
abbrev yO : List Sm := [⟨Ai, [1, 2]⟩]
abbrev Kl : List Sm := [⟨Ai, [1]⟩]
abbrev Jc : List Sm := [⟨Ai, [1, 3, 4]⟩]
abbrev L6 : List Sm := [⟨LG, [5]⟩]
theorem L7 : (dP yO Kl).is = true := by rw [tU, if_neg (fun q => absurd q.2 (by decide))]
theorem L8 : (dP Kl yO).is = true := by rw [tU, if_neg (fun q => absurd q.2 (by decide))]
theorem LV : dP yO Jc = ⟨Ai, 1, false⟩ := by rw [tU, if_pos ⟨beq_self_eq_true _, by decide⟩]; rfl
theorem L9 : (dP yO L6).is = true := by rw [tU, if_neg (fun q => absurd q.1 (by simp [bs]))]
theorem Ma : (dP yO []).is = true := by rw [IY]
theorem Mb : jj yO Kl = false := by rw [pi, show ns yO Kl = false from rR (i := 0) (by simp) (GR (by show ¬2 = 1; omega)), Bool.and_false]
theorem Mc : jj yO yO = true := by
 rw [pi, tU, if_neg (fun q => absurd q.2 (by decide))]
 show (true && ns yO yO) = true
 rw [Bool.true_and]
 exact ph rfl (fun i hi => Bz (beq_self_eq_true _) rfl)
theorem Md : jj yO Jc = false := by rw [pi, LV]; rfl
def dX : Ci := aa 0 []
def sX : Ns := aE dX
theorem pA : a7 dX := B4 (by omega) (by omega) (fun x hx => by cases hx)
theorem tV : bH dX sX := yN pA
theorem tW : ic sX 4294967296 := fun n => by
 show ((List.replicate dX.chans.length ([] : List Int)).getD n []).length ≤ _
 rw [List.getD, List.getElem?_replicate]
 split <;> simp
abbrev yP : ByteArray := bs [99, 48]
abbrev Ky : ByteArray := bs [99, 49]
theorem FW : dX.chans.length = 2 := by decide
theorem Km : dX.chans.getD 0 a6 = ⟨yP, 2, 0, -1, 0⟩ := by rfl
theorem LH : dX.chans.getD 1 a6 = ⟨Ky, 2, 0, 0, -1⟩ := by rfl
theorem Ds : be dX.chans yP = 0 := by
 refine b9 (i := 0) ?_ (fun z hz => by omega) (by rw [FW]; omega)
 unfold ji; rw [Km]; exact Bool.and_eq_true_iff.2 ⟨rfl, beq_self_eq_true _⟩
theorem LJ : be dX.chans Ky = -1 := by
 refine cH (fun z hz => ?_)
 rw [FW] at hz
 unfold ji
 rcases (show z = 0 ∨ z = 1 by omega) with rfl | rfl
 ·rw [Km, show ((⟨yP, 2, 0, -1, 0⟩ : Ch).name.toList == Ky.toList) = false by simp [bs], Bool.and_false]
 ·rw [LH]; rfl
theorem fX : (aW dX sX 0 [1, 2]).2 = 0 ∧ (aW dX sX 0 [1, 2]).1.chans.length = 2 ∧ ((aW dX sX 0 [1, 2]).1.chans.getD 0 []).length = 2 := by decide
theorem Me : (aW dX sX 0 [4]).2 = 1 := by decide
theorem Kn : az dX dX sX sX yP [1, 2] = ((aW dX sX 0 [1, 2]).1, (aW dX sX 0 [1, 2]).1, 0) := by
 rw [fq (by rw [Ds]; omega) (by show (aW dX sX (be dX.chans yP) [1, 2]).2 = 0; rw [Ds]; exact fX.1) (by show (aW dX sX (be dX.chans yP) [1, 2]).2 = 0; rw [Ds]; exact fX.1)]
 show ((aW dX sX (be dX.chans yP) [1, 2]).1, (aW dX sX (be dX.chans yP) [1, 2]).1, 0) = _
 rw [Ds]
theorem LK : (az dX dX sX sX Ky []).2.2 = 4 := by rw [jk (.inl (by rw [LJ]; omega))]
theorem LL : (az dX dX sX sX yP [4]).2.2 = 1 := by
 rw [dm (by rw [Ds]; omega) (fun q => by
  have h : (aW dX sX (be dX.chans yP) [4]).2 = 0 := q.1
  rw [Ds, Me] at h; cases h)]
theorem LM : ¬jj yO Kl = true := by rw [Mb]; simp
theorem LN : ¬jj yO Jc = true := by rw [Md]; simp
theorem LO : ((dP yO Jc).name.toList == Ai.toList && ((dP yO Jc).pos == 1 && (dP yO Jc).is == false)) = true := by
 rw [LV]
 show (Ai.toList == Ai.toList && _) = true
 rw [beq_self_eq_true]; rfl
theorem Mf : (az dX dX sX sX yP [1, 2]).2.2 = 0 := by rw [Kn]
theorem LW : ((az dX dX sX sX yP [1, 2]).1.chans.length : Int) = 2 := by rw [Kn]; show ((aW dX sX 0 [1, 2]).1.chans.length : Int) = 2; rw [fX.2.1]; rfl
theorem LX : ((az dX dX sX sX yP [1, 2]).2.1.chans.length : Int) = 2 := by rw [Kn]; show ((aW dX sX 0 [1, 2]).1.chans.length : Int) = 2; rw [fX.2.1]; rfl
theorem Mg : (((az dX dX sX sX yP [1, 2]).1.chans.getD 0 []).length : Int) = 2 := by rw [Kn]; show (((aW dX sX 0 [1, 2]).1.chans.getD 0 []).length : Int) = 2; rw [fX.2.2]; rfl
theorem Mh : (((az dX dX sX sX yP [1, 2]).2.1.chans.getD 0 []).length : Int) = 2 := by rw [Kn]; show (((aW dX sX 0 [1, 2]).1.chans.getD 0 []).length : Int) = 2; rw [fX.2.2]; rfl
theorem Mi : 0 ≤ (0 : Int) ∧ (0 : Int) < ((az dX dX sX sX yP [1, 2]).1.chans.length : Int) := by rw [LW]; omega
theorem Mj : 0 ≤ (0 : Int) ∧ (0 : Int) < ((az dX dX sX sX yP [1, 2]).2.1.chans.length : Int) := by rw [LX]; omega
def pS (c : Ci) (bb l : List Int) : Ns := cR c (ca c bb) (l.take (min (l.length / 2) 12))
def pT (d : Ci) (bb l : List Int) : Ns := cR d (ca d bb) ((l.take (min l.length (l.length / 2 + 12))).drop (l.length / 2))
theorem B5 {c : Ci} (hc : a7 c) {bb l : List Int} (hb : hJ bb) (hl : l.length ≤ 12) : bH c (cR c (ca c bb) l) ∧ ic (cR c (ca c bb) l) 100 := by
 have h1 := FV hc hb c.chans.length (Nat.le_refl _)
 have h2 := B2 hc l h1.1 h1.2
 exact ⟨h2.1, fun n => by have := h2.2 n; unfold ca; omega⟩
theorem Ko {c : Ci} (hc : a7 c) {bb l : List Int} (hb : hJ bb) : bH c (pS c bb l) ∧ ic (pS c bb l) 100 := B5 hc hb (by rw [List.length_take]; omega)
theorem Kp {c : Ci} (hc : a7 c) {bb l : List Int} (hb : hJ bb) : bH c (pT c bb l) ∧ ic (pT c bb l) 100 := B5 hc hb (by rw [List.length_drop, List.length_take]; omega)
theorem FX {l : List Int} {n : Nat} (h : hJ l) : hJ (l.drop n) := fun x hx => h x (List.mem_of_mem_drop hx)
end Go.Proofs.YtgmpoenfoacofaaGreat
