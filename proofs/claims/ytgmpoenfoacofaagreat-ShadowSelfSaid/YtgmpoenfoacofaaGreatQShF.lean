/-
  Streams of outputs, plain data: the documentation's examples; the pair of a case.
-/
import Derived.Test.YtgmpoenfoacofaaGreatQShA
import Derived.Test.YtgmpoenfoacofaaGreatQNeU
namespace Go.Proofs.YtgmpoenfoacofaaGreat
open Go.RowKit
set_option linter.unusedVariables false
set_option linter.unusedSimpArgs false
theorem py {n m : ByteArray} {b : List Int} : ba [⟨m, b⟩] n = if (m.toList == n.toList) = true then 0 else -1 := by
 unfold ba HJ
 show bX (fun i => ([(⟨m, b⟩ : Sm)].getD i b7).name.toList == n.toList) 1 = _
 rw [bX, bX]
 show (if cz (fun i => !([(⟨m, b⟩ : Sm)].getD i b7).name.toList == n.toList) 0 = true then (if (m.toList == n.toList) = true then ((0 : Nat) : Int) else -1) else -1) = _
 rw [if_pos (show cz (fun i => !([(⟨m, b⟩ : Sm)].getD i b7).name.toList == n.toList) 0 = true from rfl)]; rfl
theorem tU {n m : ByteArray} {a b : List Int} : dP [⟨n, a⟩] [⟨m, b⟩] = if (m.toList == n.toList) = true ∧ 0 ≤ k9 a b then ⟨n, k9 a b, false⟩ else ⟨e0, 0, true⟩ := by
 by_cases h : (m.toList == n.toList) = true
 ·by_cases h2 : 0 ≤ k9 a b
  ·rw [if_pos ⟨h, h2⟩]
   have hf : ba [⟨m, b⟩] n = 0 := by rw [py, if_pos h]
   have hs : ij [(⟨m, b⟩ : Sm)] 0 = ⟨m, b⟩ := rfl
   have hc : pb [⟨n, a⟩] [⟨m, b⟩] 0 = true := wX (by show ba [⟨n, a⟩] n = _; rw [py, if_pos (beq_self_eq_true _)]; rfl) (by show ¬ba [⟨m, b⟩] n < 0; rw [hf]; omega) (by show 0 ≤ k9 a (jQ [⟨m, b⟩] (ba [⟨m, b⟩] n)); rw [hf]; exact h2)
   rw [z3 (i := 0) (by simp) hc (fun z hz => by omega)]
   show (⟨n, k9 a (jQ [⟨m, b⟩] (ba [⟨m, b⟩] n)), false⟩ : Vd) = _
   rw [hf]; rfl
  ·rw [if_neg (fun q => h2 q.2)]
   refine vz (fun z hz => ?_)
   have : z = 0 := by simp at hz; exact hz
   subst this
   refine pc ?_
   show ¬0 ≤ k9 a (jQ [⟨m, b⟩] (ba [⟨m, b⟩] n))
   rw [py, if_pos h]; exact h2
 ·rw [if_neg (fun q => h q.1)]
  refine vz (fun z hz => ?_)
  have : z = 0 := by simp at hz; exact hz
  subst this
  exact lZ (by show ba [⟨m, b⟩] n < 0; rw [py, if_neg h]; omega)
theorem IY {a : List Sm} : dP a [] = ⟨e0, 0, true⟩ := vz (fun z hz => lZ (by show (-1 : Int) < 0; omega))
abbrev Ai : ByteArray := bs [111, 117, 116]
abbrev LF : ByteArray := bs [111, 116, 104, 101, 114]
abbrev yO : List Sm := [⟨Ai, [1, 2]⟩]
abbrev Kk : List Sm := [⟨Ai, [1]⟩]
abbrev Jb : List Sm := [⟨Ai, [1, 3, 4]⟩]
abbrev L5 : List Sm := [⟨LF, [5]⟩]
theorem L6 : (dP yO Kk).is = true := by rw [tU, if_neg (fun q => absurd q.2 (by decide))]
theorem L7 : (dP Kk yO).is = true := by rw [tU, if_neg (fun q => absurd q.2 (by decide))]
theorem LU : dP yO Jb = ⟨Ai, 1, false⟩ := by rw [tU, if_pos ⟨beq_self_eq_true _, by decide⟩]; rfl
theorem L8 : (dP yO L5).is = true := by rw [tU, if_neg (fun q => absurd q.1 (by simp [bs]))]
theorem L9 : (dP yO []).is = true := by rw [IY]
theorem Ma : ji yO Kk = false := by rw [ph, show nr yO Kk = false from rR (i := 0) (by simp) (GR (by show ¬2 = 1; omega)), Bool.and_false]
theorem Mb : ji yO yO = true := by
 rw [ph, tU, if_neg (fun q => absurd q.2 (by decide))]
 show (true && nr yO yO) = true
 rw [Bool.true_and]
 exact pg rfl (fun i hi => Bz (beq_self_eq_true _) rfl)
theorem Mc : ji yO Jb = false := by rw [ph, LU]; rfl
def dX : Ci := aa 0 []
def sX : Ns := aE dX
theorem pz : a6 dX := B4 (by omega) (by omega) (fun x hx => by cases hx)
theorem tV : bH dX sX := yN pz
theorem tW : ic sX 4294967296 := fun n => by
 show ((List.replicate dX.chans.length ([] : List Int)).getD n []).length ≤ _
 rw [List.getD, List.getElem?_replicate]
 split <;> simp
abbrev yP : ByteArray := bs [99, 48]
abbrev Kx : ByteArray := bs [99, 49]
theorem FW : dX.chans.length = 2 := by decide
theorem Kl : dX.chans.getD 0 a8 = ⟨yP, 2, 0, -1, 0⟩ := by rfl
theorem LG : dX.chans.getD 1 a8 = ⟨Kx, 2, 0, 0, -1⟩ := by rfl
theorem Ds : bg dX.chans yP = 0 := by
 refine cJ (i := 0) ?_ (fun z hz => by omega) (by rw [FW]; omega)
 unfold ru; rw [Kl]; exact Bool.and_eq_true_iff.2 ⟨rfl, beq_self_eq_true _⟩
theorem LH : bg dX.chans Kx = -1 := by
 refine dk (fun z hz => ?_)
 rw [FW] at hz
 unfold ru
 rcases (show z = 0 ∨ z = 1 by omega) with rfl | rfl
 ·rw [Kl, show ((⟨yP, 2, 0, -1, 0⟩ : Ch).name.toList == Kx.toList) = false by simp [bs], Bool.and_false]
 ·rw [LG]; rfl
theorem fX : (aW dX sX 0 [1, 2]).2 = 0 ∧ (aW dX sX 0 [1, 2]).1.chans.length = 2 ∧ ((aW dX sX 0 [1, 2]).1.chans.getD 0 []).length = 2 := by decide
theorem Md : (aW dX sX 0 [4]).2 = 1 := by decide
theorem Km : az dX dX sX sX yP [1, 2] = ((aW dX sX 0 [1, 2]).1, (aW dX sX 0 [1, 2]).1, 0) := by
 rw [fq (by rw [Ds]; omega) (by show (aW dX sX (bg dX.chans yP) [1, 2]).2 = 0; rw [Ds]; exact fX.1) (by show (aW dX sX (bg dX.chans yP) [1, 2]).2 = 0; rw [Ds]; exact fX.1)]
 show ((aW dX sX (bg dX.chans yP) [1, 2]).1, (aW dX sX (bg dX.chans yP) [1, 2]).1, 0) = _
 rw [Ds]
theorem LJ : (az dX dX sX sX Kx []).2.2 = 4 := by rw [jj (.inl (by rw [LH]; omega))]
theorem LK : (az dX dX sX sX yP [4]).2.2 = 1 := by
 rw [dm (by rw [Ds]; omega) (fun q => by
  have h : (aW dX sX (bg dX.chans yP) [4]).2 = 0 := q.1
  rw [Ds, Md] at h; cases h)]
theorem LL : ¬ji yO Kk = true := by rw [Ma]; simp
theorem LM : ¬ji yO Jb = true := by rw [Mc]; simp
theorem LN : ((dP yO Jb).name.toList == Ai.toList && ((dP yO Jb).pos == 1 && (dP yO Jb).is == false)) = true := by
 rw [LU]
 show (Ai.toList == Ai.toList && _) = true
 rw [beq_self_eq_true]; rfl
theorem Me : (az dX dX sX sX yP [1, 2]).2.2 = 0 := by rw [Km]
theorem LV : ((az dX dX sX sX yP [1, 2]).1.chans.length : Int) = 2 := by rw [Km]; show ((aW dX sX 0 [1, 2]).1.chans.length : Int) = 2; rw [fX.2.1]; rfl
theorem LW : ((az dX dX sX sX yP [1, 2]).2.1.chans.length : Int) = 2 := by rw [Km]; show ((aW dX sX 0 [1, 2]).1.chans.length : Int) = 2; rw [fX.2.1]; rfl
theorem Mf : (((az dX dX sX sX yP [1, 2]).1.chans.getD 0 []).length : Int) = 2 := by rw [Km]; show (((aW dX sX 0 [1, 2]).1.chans.getD 0 []).length : Int) = 2; rw [fX.2.2]; rfl
theorem Mg : (((az dX dX sX sX yP [1, 2]).2.1.chans.getD 0 []).length : Int) = 2 := by rw [Km]; show (((aW dX sX 0 [1, 2]).1.chans.getD 0 []).length : Int) = 2; rw [fX.2.2]; rfl
theorem Mh : 0 ≤ (0 : Int) ∧ (0 : Int) < ((az dX dX sX sX yP [1, 2]).1.chans.length : Int) := by rw [LV]; omega
theorem Mi : 0 ≤ (0 : Int) ∧ (0 : Int) < ((az dX dX sX sX yP [1, 2]).2.1.chans.length : Int) := by rw [LW]; omega
def pS (c : Ci) (bb l : List Int) : Ns := cQ c (b9 c bb) (l.take (min (l.length / 2) 12))
def pT (d : Ci) (bb l : List Int) : Ns := cQ d (b9 d bb) ((l.take (min l.length (l.length / 2 + 12))).drop (l.length / 2))
theorem B5 {c : Ci} (hc : a6 c) {bb l : List Int} (hb : hJ bb) (hl : l.length ≤ 12) : bH c (cQ c (b9 c bb) l) ∧ ic (cQ c (b9 c bb) l) 100 := by
 have h1 := FV hc hb c.chans.length (Nat.le_refl _)
 have h2 := B2 hc l h1.1 h1.2
 exact ⟨h2.1, fun n => by have := h2.2 n; unfold b9; omega⟩
theorem Kn {c : Ci} (hc : a6 c) {bb l : List Int} (hb : hJ bb) : bH c (pS c bb l) ∧ ic (pS c bb l) 100 := B5 hc hb (by rw [List.length_take]; omega)
theorem Ko {c : Ci} (hc : a6 c) {bb l : List Int} (hb : hJ bb) : bH c (pT c bb l) ∧ ic (pT c bb l) 100 := B5 hc hb (by rw [List.length_drop, List.length_take]; omega)
theorem FX {l : List Int} {n : Nat} (h : hJ l) : hJ (l.drop n) := fun x hx => h x (List.mem_of_mem_drop hx)
end Go.Proofs.YtgmpoenfoacofaaGreat
