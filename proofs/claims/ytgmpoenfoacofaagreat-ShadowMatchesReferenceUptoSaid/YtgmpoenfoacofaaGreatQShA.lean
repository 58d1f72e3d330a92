/-
  Streams of outputs, plain data: outputs, inputs, first differences, agreement.
-/
import Derived.Test.YtgmpoenfoacofaaGreatQNeH
namespace Go.Proofs.YtgmpoenfoacofaaGreat
open Go.RowKit
set_option linter.unusedVariables false
set_option linter.unusedSimpArgs false
structure Sm where
 name : ByteArray
 words : List Int
def dZ (s : Sm) : List V := [.str s.name, .sl 1 (ae .i64) 0 s.words]
abbrev aG : Sm := ⟨e0, []⟩
def JN (c : Ci) (s : Ns) (n : Nat) : List Sm := if (gG c n).dst = -1 then [⟨(gG c n).name, kr s n⟩] else []
def pk (c : Ci) (s : Ns) : Nat → List Sm
 | 0 => []
 | n + 1 => pk c s n ++ JN c s n
def br (c : Ci) (s : Ns) : List Sm := pk c s c.chans.length
theorem xt {c : Ci} {s : Ns} {n : Nat} (h : ¬(gG c n).dst = -1) : pk c s (n + 1) = pk c s n := by rw [pk, JN, if_neg h, List.append_nil]
theorem sd {c : Ci} {s : Ns} {n : Nat} (h : (gG c n).dst = -1) : pk c s (n + 1) = pk c s n ++ [⟨(gG c n).name, kr s n⟩] := by rw [pk, JN, if_pos h]
theorem pm {c : Ci} {s : Ns} : ∀ n, (pk c s n).length ≤ n
 | 0 => Nat.le_refl _
 | n + 1 => by
  have := pm (c := c) (s := s) n
  rw [pk, List.length_append]
  unfold JN
  split <;> simp <;> omega
theorem GH {c : Ci} {s : Ns} : (br c s).length ≤ c.chans.length := pm _
def k9 (l : List Ch) (nm : ByteArray) (i : Nat) : Bool := decide ((l.getD i bi).frm = -1) && ((l.getD i bi).name.toList == nm.toList)
def aR (l : List Ch) (nm : ByteArray) : Int := dt (k9 l nm) l.length
abbrev C7 (c : Ci) (nm : ByteArray) : Int := aR c.chans nm
def ld (l : List Ch) (i : Int) : Ch := if i < 0 then bi else l.getD i.toNat bi
theorem BI {l : List Ch} {i : Int} (h : i < 0) : ld l i = bi := if_pos h
theorem yR {l : List Ch} {i : Int} (h : ¬i < 0) : ld l i = l.getD i.toNat bi := if_neg h
def C8 (l : List Sm) (nm : ByteArray) (i : Nat) : Bool := (l.getD i aG).name.toList == nm.toList
def aE (l : List Sm) (nm : ByteArray) : Int := dt (C8 l nm) l.length
def jq (a b : List Int) (i : Nat) : Bool := !decide (a.getD i 0 = b.getD i 0)
def i3 (a b : List Int) : Int := dt (jq a b) (min a.length b.length)
def gz (l : List Sm) (i : Int) : Sm := if i < 0 then aG else l.getD i.toNat aG
theorem BJ {l : List Sm} {i : Int} (h : i < 0) : gz l i = aG := if_pos h
theorem tT {l : List Sm} {i : Int} (h : ¬i < 0) : gz l i = l.getD i.toNat aG := if_neg h
abbrev ci (l : List Sm) (k : Int) : List Int := (gz l k).words
def nx (a b : List Sm) (i : Nat) : Bool := decide (0 ≤ aE b (a.getD i aG).name) && (decide (aE a (a.getD i aG).name = (i : Int)) && decide (0 ≤ i3 (a.getD i aG).words (ci b (aE b (a.getD i aG).name))))
def GI (a b : List Sm) : Int := dt (nx a b) a.length
structure Vd where
 name : ByteArray
 pos : Int
 is : Bool
def JO (a b : List Sm) (i : Nat) : Vd := ⟨(a.getD i aG).name, i3 (a.getD i aG).words (ci b (aE b (a.getD i aG).name)), false⟩
def dj (a b : List Sm) : Vd := if GI a b < 0 then ⟨e0, 0, true⟩ else JO a b (GI a b).toNat
theorem tU {a b : List Sm} {i : Nat} (hi : i < a.length) (h : nx a b i = true) (h2 : ∀ z, z < i → nx a b z = false) : dj a b = JO a b i := by
 have : GI a b = (i : Int) := bo h h2 hi
 unfold dj
 rw [this, if_neg (by omega), Int.toNat_natCast]
theorem tV {a b : List Sm} (h : ∀ z, z < a.length → nx a b z = false) : dj a b = ⟨e0, 0, true⟩ := by
 have : GI a b = -1 := bM h
 unfold dj
 rw [this, if_pos (by omega)]
def pn (a b : List Sm) (i : Nat) : Bool := ((a.getD i aG).name.toList == (b.getD i aG).name.toList) && decide ((a.getD i aG).words.length = (b.getD i aG).words.length)
def eO (a b : List Sm) : Bool := (dj a b).is && (decide (a.length = b.length) && cJ (pn a b) a.length)
def ai (c d : Ci) (s t : Ns) (nm : ByteArray) (ws : List Int) : Ns × Ns × Int :=
 if C7 c nm < 0 ∨ C7 d nm < 0 then (CQ, CQ, 4)
 else if (aA c s (C7 c nm) ws).2 = 0 ∧ (aA d t (C7 d nm) ws).2 = 0 then ((aA c s (C7 c nm) ws).1, (aA d t (C7 d nm) ws).1, 0) else (CQ, CQ, 1)
theorem GJ {l : List Sm} {nm : ByteArray} : aE l nm < l.length := lR
theorem lY {a b : List Sm} {i : Nat} (h : ¬aE a (a.getD i aG).name = (i : Int)) : nx a b i = false := by unfold nx; rw [decide_eq_false h]; simp
theorem iK {a b : List Sm} {i : Nat} (h : aE b (a.getD i aG).name < 0) : nx a b i = false := by unfold nx; rw [decide_eq_false (by omega)]; rfl
theorem j5 {a b : List Sm} {i : Nat} (h : ¬0 ≤ i3 (a.getD i aG).words (ci b (aE b (a.getD i aG).name))) : nx a b i = false := by unfold nx; rw [decide_eq_false h]; simp
theorem po {a b : List Sm} {i : Nat} (h1 : aE a (a.getD i aG).name = (i : Int)) (h2 : ¬aE b (a.getD i aG).name < 0) (h3 : 0 ≤ i3 (a.getD i aG).words (ci b (aE b (a.getD i aG).name))) : nx a b i = true := by unfold nx; rw [decide_eq_true h1, decide_eq_true (show 0 ≤ aE b (a.getD i aG).name by omega), decide_eq_true h3]; rfl
theorem j6 {a b : List Sm} (h : ¬(dj a b).is = true) : eO a b = false := by unfold eO; rw [show (dj a b).is = false by simpa using h]; rfl
theorem Fb {a b : List Sm} (h : (dj a b).is = true) : eO a b = (decide (a.length = b.length) && cJ (pn a b) a.length) := by unfold eO; rw [h]; rfl
def mu (a b : List Sm) : Bool := decide (a.length = b.length) && cJ (pn a b) a.length
theorem iL {a b : List Sm} (h : ¬a.length = b.length) : mu a b = false := by unfold mu; rw [decide_eq_false h]; rfl
theorem dF {a b : List Sm} {i : Nat} (hi : i < a.length) (h : pn a b i = false) : mu a b = false := by unfold mu; rw [lN hi h, Bool.and_false]
theorem gA {a b : List Sm} (h : a.length = b.length) (h2 : ∀ i, i < a.length → pn a b i = true) : mu a b = true := by unfold mu; rw [decide_eq_true h, cF.2 h2]; rfl
theorem dY {c d : Ci} {s t : Ns} {nm : ByteArray} {ws : List Int} (h : aR c.chans nm < 0 ∨ aR d.chans nm < 0) : ai c d s t nm ws = (CQ, CQ, 4) := if_pos h
theorem bn {c d : Ci} {s t : Ns} {nm : ByteArray} {ws : List Int} (h : ¬(aR c.chans nm < 0 ∨ aR d.chans nm < 0)) (h2 : ¬((aA c s (aR c.chans nm) ws).2 = 0 ∧ (aA d t (aR d.chans nm) ws).2 = 0)) : ai c d s t nm ws = (CQ, CQ, 1) := by unfold ai; rw [if_neg h, if_neg h2]
theorem cU {c d : Ci} {s t : Ns} {nm : ByteArray} {ws : List Int} (h : ¬(aR c.chans nm < 0 ∨ aR d.chans nm < 0)) (h2 : (aA c s (aR c.chans nm) ws).2 = 0) (h3 : (aA d t (aR d.chans nm) ws).2 = 0) : ai c d s t nm ws = ((aA c s (aR c.chans nm) ws).1, (aA d t (aR d.chans nm) ws).1, 0) := by unfold ai; rw [if_neg h, if_pos ⟨h2, h3⟩]
theorem i4 {c : Ci} {s : Ns} {n : Int} {ws : List Int} : (aA c s n ws).2 = 0 ∨ (aA c s n ws).2 = 1 := by unfold aA; split <;> simp
def Fc (a b : List Sm) (i : Nat) : Bool := ((a.getD i aG).name.toList == (b.getD i aG).name.toList) && decide ((a.getD i aG).words = (b.getD i aG).words)
def qF (a b : List Sm) : Bool := decide (a.length = b.length) && cJ (Fc a b) a.length
theorem se {a b : List Sm} (h : ¬a.length = b.length) : qF a b = false := by unfold qF; rw [decide_eq_false h]; rfl
theorem iM {a b : List Sm} {i : Nat} (hi : i < a.length) (h : Fc a b i = false) : qF a b = false := by unfold qF; rw [lN hi h, Bool.and_false]
theorem pp {a b : List Sm} (h : a.length = b.length) (h2 : ∀ i, i < a.length → Fc a b i = true) : qF a b = true := by unfold qF; rw [decide_eq_true h, cF.2 h2]; rfl
theorem GK (a : List Sm) : qF a a = true := pp rfl (fun i _ => by unfold Fc; simp)
theorem sf {a b : List Sm} {i : Nat} (h : ¬((a.getD i aG).name.toList == (b.getD i aG).name.toList) = true) : Fc a b i = false := by
 unfold Fc; rw [show ((a.getD i aG).name.toList == (b.getD i aG).name.toList) = false by simpa using h]; rfl
theorem sg {a b : List Sm} {i : Nat} (h : ¬(a.getD i aG).words = (b.getD i aG).words) : Fc a b i = false := by unfold Fc; rw [decide_eq_false h, Bool.and_false]
theorem GL {a b : List Sm} {i : Nat} (h : ((a.getD i aG).name.toList == (b.getD i aG).name.toList) = true) (h2 : (a.getD i aG).words = (b.getD i aG).words) : Fc a b i = true := by unfold Fc; rw [h, decide_eq_true h2]; rfl
theorem pu {a b : List Sm} {i : Nat} (h : ¬((a.getD i aG).name.toList == (b.getD i aG).name.toList) = true) : pn a b i = false := by
 unfold pn; rw [show ((a.getD i aG).name.toList == (b.getD i aG).name.toList) = false by simpa using h]; rfl
theorem lZ {a b : List Sm} {i : Nat} (h : ¬(a.getD i aG).words.length = (b.getD i aG).words.length) : pn a b i = false := by unfold pn; rw [decide_eq_false h, Bool.and_false]
theorem BK {a b : List Sm} {i : Nat} (h : ((a.getD i aG).name.toList == (b.getD i aG).name.toList) = true) (h2 : (a.getD i aG).words.length = (b.getD i aG).words.length) : pn a b i = true := by unfold pn; rw [h, decide_eq_true h2]; rfl
theorem lf {a b : List Sm} : eO a b = ((dj a b).is && mu a b) := rfl
theorem eC {a b : List Sm} (h : mu a b = false) : eO a b = false := by rw [lf, h, Bool.and_false]
theorem px {a b : List Sm} (h : (dj a b).is = true) (h2 : mu a b = true) : eO a b = true := by rw [lf, h, h2]; rfl
def uQ (l : List Int) (i : Nat) : ByteArray := [bs [97], bs [98]].getD (l.getD i 0 % 2).toNat e0
def c6 (l : List Int) : List ByteArray := tab (uQ l) l.length
end Go.Proofs.YtgmpoenfoacofaaGreat
