/-
  Streams of outputs, plain data: outputs, inputs, first differences, agreement.
-/
import Derived.Test.YtgmpoenfoacofaaGreatQNeH
namespace Go.Proofs.YtgmpoenfoacofaaGreat
open Go.RowKit
set_option linter.unusedVariables false
set_option linter.unusedSimpArgs false
structure Sm where
 name : ByteArray
 words : List Int
def ey (s : Sm) : List V := [.str s.name, .sl 1 (ae .i64) 0 s.words]
abbrev aG : Sm := ⟨e0, []⟩
def LR (c : Ci) (s : Ns) (n : Nat) : List Sm := if (dt c n).dst = -1 then [⟨(dt c n).name, fh s n⟩] else []
def qz (c : Ci) (s : Ns) : Nat → List Sm
 | 0 => []
 | n + 1 => qz c s n ++ LR c s n
def aj (c : Ci) (s : Ns) : List Sm := qz c s c.chans.length
theorem yL {c : Ci} {s : Ns} {n : Nat} (h : ¬(dt c n).dst = -1) : qz c s (n + 1) = qz c s n := by rw [qz, LR, if_neg h, List.append_nil]
theorem tC {c : Ci} {s : Ns} {n : Nat} (h : (dt c n).dst = -1) : qz c s (n + 1) = qz c s n ++ [⟨(dt c n).name, fh s n⟩] := by rw [qz, LR, if_pos h]
theorem qA {c : Ci} {s : Ns} : ∀ n, (qz c s n).length ≤ n
 | 0 => Nat.le_refl _
 | n + 1 => by
  have := qA (c := c) (s := s) n
  rw [qz, List.length_append]
  unfold LR
  split <;> simp <;> omega
theorem IE {c : Ci} {s : Ns} : (aj c s).length ≤ c.chans.length := qA _
def kU (l : List Ch) (nm : ByteArray) (i : Nat) : Bool := decide ((l.getD i aX).frm = -1) && ((l.getD i aX).name.toList == nm.toList)
def aQ (l : List Ch) (nm : ByteArray) : Int := bU (kU l nm) l.length
abbrev EW (c : Ci) (nm : ByteArray) : Int := aQ c.chans nm
def mh (l : List Ch) (i : Int) : Ch := if i < 0 then aX else l.getD i.toNat aX
theorem Dp {l : List Ch} {i : Int} (h : i < 0) : mh l i = aX := if_pos h
theorem Ak {l : List Ch} {i : Int} (h : ¬i < 0) : mh l i = l.getD i.toNat aX := if_neg h
theorem kd {f : Nat → Bool} : ∀ {n : Nat}, 0 ≤ bU f n → ∃ i, i < n ∧ bU f n = (i : Int) ∧ f i = true ∧ ∀ z, z < i → f z = false
 | 0, h => by simp [bU] at h
 | n + 1, h => by
  rw [bU] at h ⊢
  split at h
  ·rename_i h1
   rw [if_pos h1]
   split at h
   ·rename_i h2
    rw [if_pos h2]
    exact ⟨n, by omega, rfl, h2, fun z hz => by have := bi.1 h1 z hz; simpa using this⟩
   ·omega
  ·rename_i h1
   rw [if_neg h1]
   obtain ⟨i, a, b, c, d⟩ := kd h
   exact ⟨i, by omega, b, c, d⟩
theorem BP {f : Nat → Bool} {n : Nat} (h : bU f n < 0) : ∀ z, z < n → f z = false := by
 induction n with
 | zero => intro z hz; omega
 | succ n ih =>
  rw [bU] at h
  split at h
  ·rename_i h1
   split at h
   ·omega
   ·rename_i h2
    intro z hz
    by_cases e : z = n
    ·rw [e]; simpa using h2
    ·have := bi.1 h1 z (by omega); simpa using this
  ·rename_i h1
   exfalso
   apply h1
   exact bi.2 (fun i hi => by rw [ih h i hi]; rfl)
def Al (l : List Sm) (nm : ByteArray) (i : Nat) : Bool := (l.getD i aG).name.toList == nm.toList
def aE (l : List Sm) (nm : ByteArray) : Int := bU (Al l nm) l.length
def gN (a b : List Int) (i : Nat) : Bool := !decide (a.getD i 0 = b.getD i 0)
def fm (a b : List Int) : Int := bU (gN a b) (min a.length b.length)
def gC (l : List Sm) (i : Int) : Sm := if i < 0 then aG else l.getD i.toNat aG
theorem Dq {l : List Sm} {i : Int} (h : i < 0) : gC l i = aG := if_pos h
theorem mi {l : List Sm} {i : Int} (h : ¬i < 0) : gC l i = l.getD i.toNat aG := if_neg h
abbrev b9 (l : List Sm) (k : Int) : List Int := (gC l k).words
def iW (a b : List Sm) (i : Nat) : Bool := decide (0 ≤ aE b (a.getD i aG).name) && (decide (aE a (a.getD i aG).name = (i : Int)) && decide (0 ≤ fm (a.getD i aG).words (b9 b (aE b (a.getD i aG).name))))
def EX (a b : List Sm) : Int := bU (iW a b) a.length
structure Vd where
 name : ByteArray
 pos : Int
 is : Bool
def EY (a b : List Sm) (i : Nat) : Vd := ⟨(a.getD i aG).name, fm (a.getD i aG).words (b9 b (aE b (a.getD i aG).name)), false⟩
def bl (a b : List Sm) : Vd := if EX a b < 0 then ⟨e0, 0, true⟩ else EY a b (EX a b).toNat
theorem r6 {a b : List Sm} {i : Nat} (hi : i < a.length) (h : iW a b i = true) (h2 : ∀ z, z < i → iW a b z = false) : bl a b = EY a b i := by
 have : EX a b = (i : Int) := bu h h2 hi
 unfold bl
 rw [this, if_neg (by omega), Int.toNat_natCast]
theorem sN {a b : List Sm} (h : ∀ z, z < a.length → iW a b z = false) : bl a b = ⟨e0, 0, true⟩ := by
 have : EX a b = -1 := bV h
 unfold bl
 rw [this, if_pos (by omega)]
def qB (a b : List Sm) (i : Nat) : Bool := ((a.getD i aG).name.toList == (b.getD i aG).name.toList) && decide ((a.getD i aG).words.length = (b.getD i aG).words.length)
def fo (a b : List Sm) : Bool := (bl a b).is && (decide (a.length = b.length) && ct (qB a b) a.length)
def ai (c d : Ci) (s t : Ns) (nm : ByteArray) (ws : List Int) : Ns × Ns × Int :=
 if EW c nm < 0 ∨ EW d nm < 0 then (EG, EG, 4)
 else if (aF c s (EW c nm) ws).2 = 0 ∧ (aF d t (EW d nm) ws).2 = 0 then ((aF c s (EW c nm) ws).1, (aF d t (EW d nm) ws).1, 0) else (EG, EG, 1)
theorem Dr {l : List Sm} {nm : ByteArray} : aE l nm < l.length := m3
theorem nc {a b : List Sm} {i : Nat} (h : ¬aE a (a.getD i aG).name = (i : Int)) : iW a b i = false := by unfold iW; rw [decide_eq_false h]; simp
theorem jo {a b : List Sm} {i : Nat} (h : aE b (a.getD i aG).name < 0) : iW a b i = false := by unfold iW; rw [decide_eq_false (by omega)]; rfl
theorem kV {a b : List Sm} {i : Nat} (h : ¬0 ≤ fm (a.getD i aG).words (b9 b (aE b (a.getD i aG).name))) : iW a b i = false := by unfold iW; rw [decide_eq_false h]; simp
theorem nf {a b : List Sm} {i : Nat} (h1 : aE a (a.getD i aG).name = (i : Int)) (h2 : ¬aE b (a.getD i aG).name < 0) (h3 : 0 ≤ fm (a.getD i aG).words (b9 b (aE b (a.getD i aG).name))) : iW a b i = true := by unfold iW; rw [decide_eq_true h1, decide_eq_true (show 0 ≤ aE b (a.getD i aG).name by omega), decide_eq_true h3]; rfl
theorem kW {a b : List Sm} (h : ¬(bl a b).is = true) : fo a b = false := by unfold fo; rw [show (bl a b).is = false by simpa using h]; rfl
theorem G5 {a b : List Sm} (h : (bl a b).is = true) : fo a b = (decide (a.length = b.length) && ct (qB a b) a.length) := by unfold fo; rw [h]; rfl
def nU (a b : List Sm) : Bool := decide (a.length = b.length) && ct (qB a b) a.length
theorem jp {a b : List Sm} (h : ¬a.length = b.length) : nU a b = false := by unfold nU; rw [decide_eq_false h]; rfl
theorem d8 {a b : List Sm} {i : Nat} (hi : i < a.length) (h : qB a b i = false) : nU a b = false := by unfold nU; rw [fx hi h, Bool.and_false]
theorem hU {a b : List Sm} (h : a.length = b.length) (h2 : ∀ i, i < a.length → qB a b i = true) : nU a b = true := by unfold nU; rw [decide_eq_true h, bi.2 h2]; rfl
theorem dP {c d : Ci} {s t : Ns} {nm : ByteArray} {ws : List Int} (h : aQ c.chans nm < 0 ∨ aQ d.chans nm < 0) : ai c d s t nm ws = (EG, EG, 4) := if_pos h
theorem bx {c d : Ci} {s t : Ns} {nm : ByteArray} {ws : List Int} (h : ¬(aQ c.chans nm < 0 ∨ aQ d.chans nm < 0)) (h2 : ¬((aF c s (aQ c.chans nm) ws).2 = 0 ∧ (aF d t (aQ d.chans nm) ws).2 = 0)) : ai c d s t nm ws = (EG, EG, 1) := by unfold ai; rw [if_neg h, if_neg h2]
theorem cM {c d : Ci} {s t : Ns} {nm : ByteArray} {ws : List Int} (h : ¬(aQ c.chans nm < 0 ∨ aQ d.chans nm < 0)) (h2 : (aF c s (aQ c.chans nm) ws).2 = 0) (h3 : (aF d t (aQ d.chans nm) ws).2 = 0) : ai c d s t nm ws = ((aF c s (aQ c.chans nm) ws).1, (aF d t (aQ d.chans nm) ws).1, 0) := by unfold ai; rw [if_neg h, if_pos ⟨h2, h3⟩]
theorem jH {c : Ci} {s : Ns} {n : Int} {ws : List Int} : (aF c s n ws).2 = 0 ∨ (aF c s n ws).2 = 1 := by unfold aF; split <;> simp
def G6 (a b : List Sm) (i : Nat) : Bool := ((a.getD i aG).name.toList == (b.getD i aG).name.toList) && decide ((a.getD i aG).words = (b.getD i aG).words)
def r7 (a b : List Sm) : Bool := decide (a.length = b.length) && ct (G6 a b) a.length
theorem tD {a b : List Sm} (h : ¬a.length = b.length) : r7 a b = false := by unfold r7; rw [decide_eq_false h]; rfl
theorem jq {a b : List Sm} {i : Nat} (hi : i < a.length) (h : G6 a b i = false) : r7 a b = false := by unfold r7; rw [fx hi h, Bool.and_false]
theorem qC {a b : List Sm} (h : a.length = b.length) (h2 : ∀ i, i < a.length → G6 a b i = true) : r7 a b = true := by unfold r7; rw [decide_eq_true h, bi.2 h2]; rfl
theorem IG (a : List Sm) : r7 a a = true := qC rfl (fun i _ => by unfold G6; simp)
theorem tE {a b : List Sm} {i : Nat} (h : ¬((a.getD i aG).name.toList == (b.getD i aG).name.toList) = true) : G6 a b i = false := by
 unfold G6; rw [show ((a.getD i aG).name.toList == (b.getD i aG).name.toList) = false by simpa using h]; rfl
theorem tF {a b : List Sm} {i : Nat} (h : ¬(a.getD i aG).words = (b.getD i aG).words) : G6 a b i = false := by unfold G6; rw [decide_eq_false h, Bool.and_false]
theorem IH {a b : List Sm} {i : Nat} (h : ((a.getD i aG).name.toList == (b.getD i aG).name.toList) = true) (h2 : (a.getD i aG).words = (b.getD i aG).words) : G6 a b i = true := by unfold G6; rw [h, decide_eq_true h2]; rfl
theorem qD {a b : List Sm} {i : Nat} (h : ¬((a.getD i aG).name.toList == (b.getD i aG).name.toList) = true) : qB a b i = false := by
 unfold qB; rw [show ((a.getD i aG).name.toList == (b.getD i aG).name.toList) = false by simpa using h]; rfl
theorem ng {a b : List Sm} {i : Nat} (h : ¬(a.getD i aG).words.length = (b.getD i aG).words.length) : qB a b i = false := by unfold qB; rw [decide_eq_false h, Bool.and_false]
theorem Ds {a b : List Sm} {i : Nat} (h : ((a.getD i aG).name.toList == (b.getD i aG).name.toList) = true) (h2 : (a.getD i aG).words.length = (b.getD i aG).words.length) : qB a b i = true := by unfold qB; rw [h, decide_eq_true h2]; rfl
theorem mj {a b : List Sm} : fo a b = ((bl a b).is && nU a b) := rfl
theorem e9 {a b : List Sm} (h : nU a b = false) : fo a b = false := by rw [mj, h, Bool.and_false]
theorem qE {a b : List Sm} (h : (bl a b).is = true) (h2 : nU a b = true) : fo a b = true := by rw [mj, h, h2]; rfl
def wm (l : List Int) (i : Nat) : ByteArray := [bs [97], bs [98]].getD (l.getD i 0 % 2).toNat e0
def aq (l : List Int) : List ByteArray := tab (wm l) l.length
def kX (l : List Sm) (a b : ByteArray) : Bool := match l with
 | [] => false
 | s :: r => if (s.name.toList == a.toList) = true ∨ (s.name.toList == b.toList) = true then s.name.toList == a.toList else kX r a b
theorem Am {l : List Sm} {a b : ByteArray} {i : Nat} (hi : i < l.length) (h1 : ¬((l.getD i aG).name.toList == a.toList) = true) (h2 : ¬((l.getD i aG).name.toList == b.toList) = true) : kX (l.drop i) a b = kX (l.drop (i + 1)) a b := by
 rw [List.drop_eq_getElem_cons hi, kX]
 rw [fq _ _ hi] at h1 h2
 rw [if_neg (fun h => h.elim h1 h2)]
theorem kY {l : List Sm} {a b : ByteArray} {i : Nat} (hi : i < l.length) (h : ((l.getD i aG).name.toList == a.toList) = true ∨ ((l.getD i aG).name.toList == b.toList) = true) : kX (l.drop i) a b = ((l.getD i aG).name.toList == a.toList) := by
 rw [List.drop_eq_getElem_cons hi, kX]
 rw [fq _ _ hi] at h ⊢
 rw [if_pos h]
theorem yM {l : List Sm} {a b : ByteArray} {i : Nat} (hi : ¬i < l.length) : kX (l.drop i) a b = false := by
 rw [List.drop_of_length_le (by omega)]; rfl
end Go.Proofs.YtgmpoenfoacofaaGreat
