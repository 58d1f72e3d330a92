/-
  Streams of outputs, plain data: the documentation's examples; the pair of a case.
-/
import Derived.Test.YtgmpoenfoacofaaGreatQShA
import Derived.Test.YtgmpoenfoacofaaGreatQNeU
namespace Go.Proofs.YtgmpoenfoacofaaGreat
open Go.RowKit
set_option linter.unusedVariables false
set_option linter.unusedSimpArgs false
theorem pK {n m : ByteArray} {b : List Int} : aE [⟨m, b⟩] n = if (m.toList == n.toList) = true then 0 else -1 := by
 unfold aE C8
 show dt (fun i => ([(⟨m, b⟩ : Sm)].getD i aG).name.toList == n.toList) 1 = _
 rw [dt, dt]
 show (if cJ (fun i => !([(⟨m, b⟩ : Sm)].getD i aG).name.toList == n.toList) 0 = true then (if (m.toList == n.toList) = true then ((0 : Nat) : Int) else -1) else -1) = _
 rw [if_pos (show cJ (fun i => !([(⟨m, b⟩ : Sm)].getD i aG).name.toList == n.toList) 0 = true from rfl)]; rfl
theorem uu {n m : ByteArray} {a b : List Int} : dj [⟨n, a⟩] [⟨m, b⟩] = if (m.toList == n.toList) = true ∧ 0 ≤ i3 a b then ⟨n, i3 a b, false⟩ else ⟨e0, 0, true⟩ := by
 by_cases h : (m.toList == n.toList) = true
 ·by_cases h2 : 0 ≤ i3 a b
  ·rw [if_pos ⟨h, h2⟩]
   have hf : aE [⟨m, b⟩] n = 0 := by rw [pK, if_pos h]
   have hs : gz [(⟨m, b⟩ : Sm)] 0 = ⟨m, b⟩ := rfl
   have hc : nx [⟨n, a⟩] [⟨m, b⟩] 0 = true := po (by show aE [⟨n, a⟩] n = _; rw [pK, if_pos (beq_self_eq_true _)]; rfl) (by show ¬aE [⟨m, b⟩] n < 0; rw [hf]; omega) (by show 0 ≤ i3 a (ci [⟨m, b⟩] (aE [⟨m, b⟩] n)); rw [hf]; exact h2)
   rw [tU (i := 0) (by simp) hc (fun z hz => by omega)]
   show (⟨n, i3 a (ci [⟨m, b⟩] (aE [⟨m, b⟩] n)), false⟩ : Vd) = _
   rw [hf]; rfl
  ·rw [if_neg (fun q => h2 q.2)]
   refine tV (fun z hz => ?_)
   have : z = 0 := by simp at hz; exact hz
   subst this
   refine j5 ?_
   show ¬0 ≤ i3 a (ci [⟨m, b⟩] (aE [⟨m, b⟩] n))
   rw [pK, if_pos h]; exact h2
 ·rw [if_neg (fun q => h q.1)]
  refine tV (fun z hz => ?_)
  have : z = 0 := by simp at hz; exact hz
  subst this
  exact iK (by show aE [⟨m, b⟩] n < 0; rw [pK, if_neg h]; omega)
theorem IW {a : List Sm} : dj a [] = ⟨e0, 0, true⟩ := tV (fun z hz => iK (by show (-1 : Int) < 0; omega))
abbrev AA : ByteArray := bs [111, 117, 116]
abbrev LL : ByteArray := bs [111, 116, 104, 101, 114]
abbrev ze : List Sm := [⟨AA, [1, 2]⟩]
abbrev Ki : List Sm := [⟨AA, [1]⟩]
abbrev I6 : List Sm := [⟨AA, [1, 3, 4]⟩]
abbrev Mc : List Sm := [⟨LL, [5]⟩]
theorem Md : (dj ze Ki).is = true := by rw [uu, if_neg (fun q => absurd q.2 (by decide))]
theorem Me : (dj Ki ze).is = true := by rw [uu, if_neg (fun q => absurd q.2 (by decide))]
theorem L1 : dj ze I6 = ⟨AA, 1, false⟩ := by rw [uu, if_pos ⟨beq_self_eq_true _, by decide⟩]; rfl
theorem Mf : (dj ze Mc).is = true := by rw [uu, if_neg (fun q => absurd q.1 (by simp [bs]))]
theorem Mg : (dj ze []).is = true := by rw [IW]
theorem Mh : eO ze Ki = false := by rw [lf, show mu ze Ki = false from dF (i := 0) (by simp) (lZ (by show ¬2 = 1; omega)), Bool.and_false]
theorem Mi : eO ze ze = true := by
 rw [lf, uu, if_neg (fun q => absurd q.2 (by decide))]
 show (true && mu ze ze) = true
 rw [Bool.true_and]
 exact gA rfl (fun i hi => BK (beq_self_eq_true _) rfl)
theorem Mj : eO ze I6 = false := by rw [lf, L1]; rfl
def dX : Ci := aa 0 []
def sX : Ns := aB dX
theorem pL : bC dX := zc (by omega) (by omega) (fun x hx => by cases hx)
theorem uv : b8 dX sX := zb pL
theorem uw : gw sX 4294967296 := fun n => by
 show ((List.replicate dX.chans.length ([] : List Int)).getD n []).length ≤ _
 rw [List.getD, List.getElem?_replicate]
 split <;> simp
abbrev zf : ByteArray := bs [99, 48]
abbrev Ky : ByteArray := bs [99, 49]
theorem FP : dX.chans.length = 2 := by decide
theorem Kj : dX.chans.getD 0 bi = ⟨zf, 2, 0, -1, 0⟩ := by rfl
theorem LM : dX.chans.getD 1 bi = ⟨Ky, 2, 0, 0, -1⟩ := by rfl
theorem Dq : aR dX.chans zf = 0 := by
 refine bo (i := 0) ?_ (fun z hz => by omega) (by rw [FP]; omega)
 unfold k9; rw [Kj]; exact Bool.and_eq_true_iff.2 ⟨rfl, beq_self_eq_true _⟩
theorem LN : aR dX.chans Ky = -1 := by
 refine bM (fun z hz => ?_)
 rw [FP] at hz
 unfold k9
 rcases (show z = 0 ∨ z = 1 by omega) with rfl | rfl
 ·rw [Kj, show ((⟨zf, 2, 0, -1, 0⟩ : Ch).name.toList == Ky.toList) = false by simp [bs], Bool.and_false]
 ·rw [LM]; rfl
theorem fX : (aA dX sX 0 [1, 2]).2 = 0 ∧ (aA dX sX 0 [1, 2]).1.chans.length = 2 ∧ ((aA dX sX 0 [1, 2]).1.chans.getD 0 []).length = 2 := by decide
theorem Ml : (aA dX sX 0 [4]).2 = 1 := by decide
theorem Kk : ai dX dX sX sX zf [1, 2] = ((aA dX sX 0 [1, 2]).1, (aA dX sX 0 [1, 2]).1, 0) := by
 rw [cU (by rw [Dq]; omega) (by show (aA dX sX (aR dX.chans zf) [1, 2]).2 = 0; rw [Dq]; exact fX.1) (by show (aA dX sX (aR dX.chans zf) [1, 2]).2 = 0; rw [Dq]; exact fX.1)]
 show ((aA dX sX (aR dX.chans zf) [1, 2]).1, (aA dX sX (aR dX.chans zf) [1, 2]).1, 0) = _
 rw [Dq]
theorem LO : (ai dX dX sX sX Ky []).2.2 = 4 := by rw [dY (.inl (by rw [LN]; omega))]
theorem LP : (ai dX dX sX sX zf [4]).2.2 = 1 := by
 rw [bn (by rw [Dq]; omega) (fun q => by
  have h : (aA dX sX (aR dX.chans zf) [4]).2 = 0 := q.1
  rw [Dq, Ml] at h; cases h)]
theorem LQ : ¬eO ze Ki = true := by rw [Mh]; simp
theorem LR : ¬eO ze I6 = true := by rw [Mj]; simp
theorem LS : ((dj ze I6).name.toList == AA.toList && ((dj ze I6).pos == 1 && (dj ze I6).is == false)) = true := by
 rw [L1]
 show (AA.toList == AA.toList && _) = true
 rw [beq_self_eq_true]; rfl
theorem Mn : (ai dX dX sX sX zf [1, 2]).2.2 = 0 := by rw [Kk]
theorem L2 : ((ai dX dX sX sX zf [1, 2]).1.chans.length : Int) = 2 := by rw [Kk]; show ((aA dX sX 0 [1, 2]).1.chans.length : Int) = 2; rw [fX.2.1]; rfl
theorem L3 : ((ai dX dX sX sX zf [1, 2]).2.1.chans.length : Int) = 2 := by rw [Kk]; show ((aA dX sX 0 [1, 2]).1.chans.length : Int) = 2; rw [fX.2.1]; rfl
theorem Mo : (((ai dX dX sX sX zf [1, 2]).1.chans.getD 0 []).length : Int) = 2 := by rw [Kk]; show (((aA dX sX 0 [1, 2]).1.chans.getD 0 []).length : Int) = 2; rw [fX.2.2]; rfl
theorem Mp : (((ai dX dX sX sX zf [1, 2]).2.1.chans.getD 0 []).length : Int) = 2 := by rw [Kk]; show (((aA dX sX 0 [1, 2]).1.chans.getD 0 []).length : Int) = 2; rw [fX.2.2]; rfl
theorem Mq : 0 ≤ (0 : Int) ∧ (0 : Int) < ((ai dX dX sX sX zf [1, 2]).1.chans.length : Int) := by rw [L2]; omega
theorem Mr : 0 ≤ (0 : Int) ∧ (0 : Int) < ((ai dX dX sX sX zf [1, 2]).2.1.chans.length : Int) := by rw [L3]; omega
def fb (s t : Ns) (e : Int) (s' t' : Ns) (e' : Int) : Bool := decide (e = e') && (bP s s' && bP t t')
theorem IY {s t s' t' : Ns} {e e' : Int} (h : ¬e = e') : fb s t e s' t' e' = false := by unfold fb; rw [decide_eq_false h]; rfl
theorem IZ {s t s' t' : Ns} {e e' : Int} (h : e = e') (h2 : bP s s' = false) : fb s t e s' t' e' = false := by unfold fb; rw [h2, Bool.false_and, Bool.and_false]
theorem Hg {s t s' t' : Ns} {e e' : Int} (h : e = e') (h2 : bP s s' = true) : fb s t e s' t' e' = bP t t' := by unfold fb; rw [decide_eq_true h, h2]; rfl
theorem AB (s t : Ns) (e : Int) : fb s t e s t e = true := by rw [Hg rfl (t4.2 rfl)]; exact t4.2 rfl
def pS (c : Ci) (bb l : List Int) : Ns := cH c (b3 c bb) (l.take (min (l.length / 2) 12))
def pT (d : Ci) (bb l : List Int) : Ns := cH d (b3 d bb) ((l.take (min l.length (l.length / 2 + 12))).drop (l.length / 2))
theorem Ce {c : Ci} (hc : bC c) {bb l : List Int} (hb : iG bb) (hl : l.length ≤ 12) : b8 c (cH c (b3 c bb) l) ∧ gw (cH c (b3 c bb) l) 100 := by
 have h1 := FO hc hb c.chans.length (Nat.le_refl _)
 have h2 := Cc hc l h1.1 h1.2
 exact ⟨h2.1, fun n => by have := h2.2 n; unfold b3; omega⟩
theorem Kl {c : Ci} (hc : bC c) {bb l : List Int} (hb : iG bb) : b8 c (pS c bb l) ∧ gw (pS c bb l) 100 := Ce hc hb (by rw [List.length_take]; omega)
theorem Km {c : Ci} (hc : bC c) {bb l : List Int} (hb : iG bb) : b8 c (pT c bb l) ∧ gw (pT c bb l) 100 := Ce hc hb (by rw [List.length_drop, List.length_take]; omega)
theorem FQ {l : List Int} {n : Nat} (h : iG l) : iG (l.drop n) := fun x hx => h x (List.mem_of_mem_drop hx)
end Go.Proofs.YtgmpoenfoacofaaGreat
