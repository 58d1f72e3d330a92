/-
  Streams of outputs, plain data: the documentation's examples; the pair of a case.
-/
import Derived.Test.YtgmpoenfoacofaaGreatQShA
import Derived.Test.YtgmpoenfoacofaaGreatQNeU
namespace Go.Proofs.YtgmpoenfoacofaaGreat
open Go.RowKit
set_option linter.unusedVariables false
set_option linter.unusedSimpArgs false
theorem qR {n m : ByteArray} {b : List Int} : aE [⟨m, b⟩] n = if (m.toList == n.toList) = true then 0 else -1 := by
 unfold aE Al
 show bU (fun i => ([(⟨m, b⟩ : Sm)].getD i aG).name.toList == n.toList) 1 = _
 rw [bU, bU]
 show (if ct (fun i => !([(⟨m, b⟩ : Sm)].getD i aG).name.toList == n.toList) 0 = true then (if (m.toList == n.toList) = true then ((0 : Nat) : Int) else -1) else -1) = _
 rw [if_pos (show ct (fun i => !([(⟨m, b⟩ : Sm)].getD i aG).name.toList == n.toList) 0 = true from rfl)]; rfl
theorem vP {n m : ByteArray} {a b : List Int} : bl [⟨n, a⟩] [⟨m, b⟩] = if (m.toList == n.toList) = true ∧ 0 ≤ fm a b then ⟨n, fm a b, false⟩ else ⟨e0, 0, true⟩ := by
 by_cases h : (m.toList == n.toList) = true
 ·by_cases h2 : 0 ≤ fm a b
  ·rw [if_pos ⟨h, h2⟩]
   have hf : aE [⟨m, b⟩] n = 0 := by rw [qR, if_pos h]
   have hs : gC [(⟨m, b⟩ : Sm)] 0 = ⟨m, b⟩ := rfl
   have hc : iW [⟨n, a⟩] [⟨m, b⟩] 0 = true := nf (by show aE [⟨n, a⟩] n = _; rw [qR, if_pos (beq_self_eq_true _)]; rfl) (by show ¬aE [⟨m, b⟩] n < 0; rw [hf]; omega) (by show 0 ≤ fm a (b9 [⟨m, b⟩] (aE [⟨m, b⟩] n)); rw [hf]; exact h2)
   rw [r6 (i := 0) (by simp) hc (fun z hz => by omega)]
   show (⟨n, fm a (b9 [⟨m, b⟩] (aE [⟨m, b⟩] n)), false⟩ : Vd) = _
   rw [hf]; rfl
  ·rw [if_neg (fun q => h2 q.2)]
   refine sN (fun z hz => ?_)
   have : z = 0 := by simp at hz; exact hz
   subst this
   refine kV ?_
   show ¬0 ≤ fm a (b9 [⟨m, b⟩] (aE [⟨m, b⟩] n))
   rw [qR, if_pos h]; exact h2
 ·rw [if_neg (fun q => h q.1)]
  refine sN (fun z hz => ?_)
  have : z = 0 := by simp at hz; exact hz
  subst this
  exact jo (by show aE [⟨m, b⟩] n < 0; rw [qR, if_neg h]; omega)
theorem KO {a : List Sm} : bl a [] = ⟨e0, 0, true⟩ := sN (fun z hz => jo (by show (-1 : Int) < 0; omega))
abbrev B7 : ByteArray := bs [111, 117, 116]
abbrev NM : ByteArray := bs [111, 116, 104, 101, 114]
abbrev AI : List Sm := [⟨B7, [1, 2]⟩]
abbrev Mo : List Sm := [⟨B7, [1]⟩]
abbrev K2 : List Sm := [⟨B7, [1, 3, 4]⟩]
abbrev Ob : List Sm := [⟨NM, [5]⟩]
theorem Oc : (bl AI Mo).is = true := by rw [vP, if_neg (fun q => absurd q.2 (by decide))]
theorem Od : (bl Mo AI).is = true := by rw [vP, if_neg (fun q => absurd q.2 (by decide))]
theorem NZ : bl AI K2 = ⟨B7, 1, false⟩ := by rw [vP, if_pos ⟨beq_self_eq_true _, by decide⟩]; rfl
theorem Oe : (bl AI Ob).is = true := by rw [vP, if_neg (fun q => absurd q.1 (by simp [bs]))]
theorem Og : (bl AI []).is = true := by rw [KO]
theorem Oh : fo AI Mo = false := by rw [mj, show nU AI Mo = false from d8 (i := 0) (by simp) (ng (by show ¬2 = 1; omega)), Bool.and_false]
theorem Oi : fo AI AI = true := by
 rw [mj, vP, if_neg (fun q => absurd q.2 (by decide))]
 show (true && nU AI AI) = true
 rw [Bool.true_and]
 exact hU rfl (fun i hi => Ds (beq_self_eq_true _) rfl)
theorem Oj : fo AI K2 = false := by rw [mj, NZ]; rfl
def dX : Ci := aa 0 []
def sX : Ns := aH dX
theorem qS : bo dX := vO (by omega) (by omega) (fun x hx => by cases hx)
theorem vQ : bG dX sX := AH qS
theorem vR : ga sX 4294967296 := fun n => by
 show ((List.replicate dX.chans.length ([] : List Int)).getD n []).length ≤ _
 rw [List.getD, List.getElem?_replicate]
 split <;> simp
abbrev AJ : ByteArray := bs [99, 48]
abbrev MB : ByteArray := bs [99, 49]
theorem HI : dX.chans.length = 2 := by decide
theorem Mp : dX.chans.getD 0 aX = ⟨AJ, 2, 0, -1, 0⟩ := by rfl
theorem NN : dX.chans.getD 1 aX = ⟨MB, 2, 0, 0, -1⟩ := by rfl
theorem Fk : aQ dX.chans AJ = 0 := by
 refine bu (i := 0) ?_ (fun z hz => by omega) (by rw [HI]; omega)
 unfold kU; rw [Mp]; exact Bool.and_eq_true_iff.2 ⟨rfl, beq_self_eq_true _⟩
theorem NO : aQ dX.chans MB = -1 := by
 refine bV (fun z hz => ?_)
 rw [HI] at hz
 unfold kU
 rcases (show z = 0 ∨ z = 1 by omega) with rfl | rfl
 ·rw [Mp, show ((⟨AJ, 2, 0, -1, 0⟩ : Ch).name.toList == MB.toList) = false by simp [bs], Bool.and_false]
 ·rw [NN]; rfl
theorem fX : (aF dX sX 0 [1, 2]).2 = 0 ∧ (aF dX sX 0 [1, 2]).1.chans.length = 2 ∧ ((aF dX sX 0 [1, 2]).1.chans.getD 0 []).length = 2 := by decide
theorem Ok : (aF dX sX 0 [4]).2 = 1 := by decide
theorem Mq : ai dX dX sX sX AJ [1, 2] = ((aF dX sX 0 [1, 2]).1, (aF dX sX 0 [1, 2]).1, 0) := by
 rw [cM (by rw [Fk]; omega) (by show (aF dX sX (aQ dX.chans AJ) [1, 2]).2 = 0; rw [Fk]; exact fX.1) (by show (aF dX sX (aQ dX.chans AJ) [1, 2]).2 = 0; rw [Fk]; exact fX.1)]
 show ((aF dX sX (aQ dX.chans AJ) [1, 2]).1, (aF dX sX (aQ dX.chans AJ) [1, 2]).1, 0) = _
 rw [Fk]
theorem NP : (ai dX dX sX sX MB []).2.2 = 4 := by rw [dP (.inl (by rw [NO]; omega))]
theorem NQ : (ai dX dX sX sX AJ [4]).2.2 = 1 := by
 rw [bx (by rw [Fk]; omega) (fun q => by
  have h : (aF dX sX (aQ dX.chans AJ) [4]).2 = 0 := q.1
  rw [Fk, Ok] at h; cases h)]
theorem NR : ¬fo AI Mo = true := by rw [Oh]; simp
theorem NS : ¬fo AI K2 = true := by rw [Oj]; simp
theorem NT : ((bl AI K2).name.toList == B7.toList && ((bl AI K2).pos == 1 && (bl AI K2).is == false)) = true := by
 rw [NZ]
 show (B7.toList == B7.toList && _) = true
 rw [beq_self_eq_true]; rfl
theorem Ol : (ai dX dX sX sX AJ [1, 2]).2.2 = 0 := by rw [Mq]
theorem N0 : ((ai dX dX sX sX AJ [1, 2]).1.chans.length : Int) = 2 := by rw [Mq]; show ((aF dX sX 0 [1, 2]).1.chans.length : Int) = 2; rw [fX.2.1]; rfl
theorem N1 : ((ai dX dX sX sX AJ [1, 2]).2.1.chans.length : Int) = 2 := by rw [Mq]; show ((aF dX sX 0 [1, 2]).1.chans.length : Int) = 2; rw [fX.2.1]; rfl
theorem Om : (((ai dX dX sX sX AJ [1, 2]).1.chans.getD 0 []).length : Int) = 2 := by rw [Mq]; show (((aF dX sX 0 [1, 2]).1.chans.getD 0 []).length : Int) = 2; rw [fX.2.2]; rfl
theorem Oo : (((ai dX dX sX sX AJ [1, 2]).2.1.chans.getD 0 []).length : Int) = 2 := by rw [Mq]; show (((aF dX sX 0 [1, 2]).1.chans.getD 0 []).length : Int) = 2; rw [fX.2.2]; rfl
theorem Oq : 0 ≤ (0 : Int) ∧ (0 : Int) < ((ai dX dX sX sX AJ [1, 2]).1.chans.length : Int) := by rw [N0]; omega
theorem Ot : 0 ≤ (0 : Int) ∧ (0 : Int) < ((ai dX dX sX sX AJ [1, 2]).2.1.chans.length : Int) := by rw [N1]; omega
def fD (s t : Ns) (e : Int) (s' t' : Ns) (e' : Int) : Bool := decide (e = e') && (b5 s s' && b5 t t')
theorem KP {s t s' t' : Ns} {e e' : Int} (h : ¬e = e') : fD s t e s' t' e' = false := by unfold fD; rw [decide_eq_false h]; rfl
theorem KQ {s t s' t' : Ns} {e e' : Int} (h : e = e') (h2 : b5 s s' = false) : fD s t e s' t' e' = false := by unfold fD; rw [h2, Bool.false_and, Bool.and_false]
theorem Je {s t s' t' : Ns} {e e' : Int} (h : e = e') (h2 : b5 s s' = true) : fD s t e s' t' e' = b5 t t' := by unfold fD; rw [decide_eq_true h, h2]; rfl
theorem B8 (s t : Ns) (e : Int) : fD s t e s t e = true := by rw [Je rfl (vB.2 rfl)]; exact vB.2 rfl
def pS (c : Ci) (bb l : List Int) : Ns := cY c (cg c bb) (l.take (min (l.length / 2) 12))
def pT (d : Ci) (bb l : List Int) : Ns := cY d (cg d bb) ((l.take (min l.length (l.length / 2 + 12))).drop (l.length / 2))
theorem DY {c : Ci} (hc : bo c) {bb l : List Int} (hb : gR bb) (hl : l.length ≤ 12) : bG c (cY c (cg c bb) l) ∧ ga (cY c (cg c bb) l) 100 := by
 have h1 := HH hc hb c.chans.length (Nat.le_refl _)
 have h2 := DW hc l h1.1 h1.2
 exact ⟨h2.1, fun n => by have := h2.2 n; unfold cg; omega⟩
theorem JG {c : Ci} (hc : bo c) {bb l : List Int} (hb : gR bb) : bG c (pS c bb l) ∧ ga (pS c bb l) 100 := DY hc hb (by rw [List.length_take]; omega)
theorem JH {c : Ci} (hc : bo c) {bb l : List Int} (hb : gR bb) : bG c (pT c bb l) ∧ ga (pT c bb l) 100 := DY hc hb (by rw [List.length_drop, List.length_take]; omega)
theorem HJ {l : List Int} {n : Nat} (h : gR l) : gR (l.drop n) := fun x hx => h x (List.mem_of_mem_drop hx)
end Go.Proofs.YtgmpoenfoacofaaGreat
