/-
  Streams of outputs, plain data: outputs, inputs, first differences, agreement.
-/
import Derived.Test.YtgmpoenfoacofaaGreatQNeH
namespace Go.Proofs.YtgmpoenfoacofaaGreat
open Go.RowKit
set_option linter.unusedVariables false
set_option linter.unusedSimpArgs false
structure Sm where
 name : ByteArray
 words : List Int
def mr (s : Sm) : List V := [.str s.name, .sl 1 (ae .i64) 0 s.words]
abbrev b8 : Sm := ⟨e0, []⟩
def KD (c : Ci) (s : Ns) (n : Nat) : List Sm := if (cL c n).dst = -1 then [⟨(cL c n).name, ef s n⟩] else []
def qZ (c : Ci) (s : Ns) : Nat → List Sm
 | 0 => []
 | n + 1 => qZ c s n ++ KD c s n
def aO (c : Ci) (s : Ns) : List Sm := qZ c s c.chans.length
theorem F2 {c : Ci} {s : Ns} {n : Nat} (h : ¬(cL c n).dst = -1) : qZ c s (n + 1) = qZ c s n := by rw [qZ, KD, if_neg h, List.append_nil]
theorem Cj {c : Ci} {s : Ns} {n : Nat} (h : (cL c n).dst = -1) : qZ c s (n + 1) = qZ c s n ++ [⟨(cL c n).name, ef s n⟩] := by rw [qZ, KD, if_pos h]
theorem uq {c : Ci} {s : Ns} : ∀ n, (qZ c s n).length ≤ n
 | 0 => Nat.le_refl _
 | n + 1 => by
  have := uq (c := c) (s := s) n
  rw [qZ, List.length_append]
  unfold KD
  split <;> simp <;> omega
theorem Hw {c : Ci} {s : Ns} : (aO c s).length ≤ c.chans.length := uq _
def r8 (l : List Ch) (nm : ByteArray) (i : Nat) : Bool := decide ((l.getD i ba).frm = -1) && ((l.getD i ba).name.toList == nm.toList)
def bi (l : List Ch) (nm : ByteArray) : Int := bW (r8 l nm) l.length
abbrev DV (c : Ci) (nm : ByteArray) : Int := bi c.chans nm
def lz (l : List Ch) (i : Int) : Ch := if i < 0 then ba else l.getD i.toNat ba
theorem Ck {l : List Ch} {i : Int} (h : i < 0) : lz l i = ba := if_pos h
theorem zn {l : List Ch} {i : Int} (h : ¬i < 0) : lz l i = l.getD i.toNat ba := if_neg h
theorem wp {f : Nat → Bool} : ∀ {n : Nat}, 0 ≤ bW f n → ∃ i, i < n ∧ bW f n = (i : Int) ∧ f i = true ∧ ∀ z, z < i → f z = false
 | 0, h => by simp [bW] at h
 | n + 1, h => by
  rw [bW] at h ⊢
  split at h
  ·rename_i h1
   rw [if_pos h1]
   split at h
   ·rename_i h2
    rw [if_pos h2]
    exact ⟨n, by omega, rfl, h2, fun z hz => by have := br.1 h1 z hz; simpa using this⟩
   ·omega
  ·rename_i h1
   rw [if_neg h1]
   obtain ⟨i, a, b, c, d⟩ := wp h
   exact ⟨i, by omega, b, c, d⟩
theorem AU {f : Nat → Bool} {n : Nat} (h : bW f n < 0) : ∀ z, z < n → f z = false := by
 induction n with
 | zero => intro z hz; omega
 | succ n ih =>
  rw [bW] at h
  split at h
  ·rename_i h1
   split at h
   ·omega
   ·rename_i h2
    intro z hz
    by_cases e : z = n
    ·rw [e]; simpa using h2
    ·have := br.1 h1 z (by omega); simpa using this
  ·rename_i h1
   exfalso
   apply h1
   exact br.2 (fun i hi => by rw [ih h i hi]; rfl)
def Iw (l : List Sm) (nm : ByteArray) (i : Nat) : Bool := (l.getD i b8).name.toList == nm.toList
def bc (l : List Sm) (nm : ByteArray) : Int := bW (Iw l nm) l.length
def ve (a b : List Int) (i : Nat) : Bool := !decide (a.getD i 0 = b.getD i 0)
def lA (a b : List Int) : Int := bW (ve a b) (min a.length b.length)
def iw (l : List Sm) (i : Int) : Sm := if i < 0 then b8 else l.getD i.toNat b8
theorem Cl {l : List Sm} {i : Int} (h : i < 0) : iw l i = b8 := if_pos h
theorem zo {l : List Sm} {i : Int} (h : ¬i < 0) : iw l i = l.getD i.toNat b8 := if_neg h
abbrev kk (l : List Sm) (k : Int) : List Int := (iw l k).words
def pH (a b : List Sm) (i : Nat) : Bool := decide (0 ≤ bc b (a.getD i b8).name) && (decide (bc a (a.getD i b8).name = (i : Int)) && decide (0 ≤ lA (a.getD i b8).words (kk b (bc b (a.getD i b8).name))))
def Hx (a b : List Sm) : Int := bW (pH a b) a.length
structure Vd where
 name : ByteArray
 pos : Int
 is : Bool
def KE (a b : List Sm) (i : Nat) : Vd := ⟨(a.getD i b8).name, lA (a.getD i b8).words (kk b (bc b (a.getD i b8).name)), false⟩
def dV (a b : List Sm) : Vd := if Hx a b < 0 then ⟨e0, 0, true⟩ else KE a b (Hx a b).toNat
theorem AV {a b : List Sm} {i : Nat} (hi : i < a.length) (h : pH a b i = true) (h2 : ∀ z, z < i → pH a b z = false) : dV a b = KE a b i := by
 have : Hx a b = (i : Int) := cJ h h2 hi
 unfold dV
 rw [this, if_neg (by omega), Int.toNat_natCast]
theorem wq {a b : List Sm} (h : ∀ z, z < a.length → pH a b z = false) : dV a b = ⟨e0, 0, true⟩ := by
 have : Hx a b = -1 := dp h
 unfold dV
 rw [this, if_pos (by omega)]
def ur (a b : List Sm) (i : Nat) : Bool := ((a.getD i b8).name.toList == (b.getD i b8).name.toList) && decide ((a.getD i b8).words.length = (b.getD i b8).words.length)
def jC (a b : List Sm) : Bool := (dV a b).is && (decide (a.length = b.length) && cB (ur a b) a.length)
def aB (c d : Ci) (s t : Ns) (nm : ByteArray) (ws : List Int) : Ns × Ns × Int :=
 if DV c nm < 0 ∨ DV d nm < 0 then (FF, FF, 4)
 else if (aW c s (DV c nm) ws).2 = 0 ∧ (aW d t (DV d nm) ws).2 = 0 then ((aW c s (DV c nm) ws).1, (aW d t (DV d nm) ws).1, 0) else (FF, FF, 1)
theorem sB {a b : List Sm} {i : Nat} (h : ¬bc a (a.getD i b8).name = (i : Int)) : pH a b i = false := by unfold pH; rw [decide_eq_false h]; simp
theorem ms {a b : List Sm} {i : Nat} (h : bc b (a.getD i b8).name < 0) : pH a b i = false := by unfold pH; rw [decide_eq_false (by omega)]; rfl
theorem pI {a b : List Sm} {i : Nat} (h : ¬0 ≤ lA (a.getD i b8).words (kk b (bc b (a.getD i b8).name))) : pH a b i = false := by unfold pH; rw [decide_eq_false h]; simp
theorem xP {a b : List Sm} {i : Nat} (h1 : bc a (a.getD i b8).name = (i : Int)) (h2 : ¬bc b (a.getD i b8).name < 0) (h3 : 0 ≤ lA (a.getD i b8).words (kk b (bc b (a.getD i b8).name))) : pH a b i = true := by unfold pH; rw [decide_eq_true h1, decide_eq_true (show 0 ≤ bc b (a.getD i b8).name by omega), decide_eq_true h3]; rfl
theorem Cm {a b : List Sm} (h : ¬(dV a b).is = true) : jC a b = false := by unfold jC; rw [show (dV a b).is = false by simpa using h]; rfl
theorem F3 {a b : List Sm} (h : (dV a b).is = true) : jC a b = (decide (a.length = b.length) && cB (ur a b) a.length) := by unfold jC; rw [h]; rfl
def nX (a b : List Sm) : Bool := decide (a.length = b.length) && cB (ur a b) a.length
theorem xQ {a b : List Sm} (h : ¬a.length = b.length) : nX a b = false := by unfold nX; rw [decide_eq_false h]; rfl
theorem sC {a b : List Sm} {i : Nat} (hi : i < a.length) (h : ur a b i = false) : nX a b = false := by unfold nX; rw [gF hi h, Bool.and_false]
theorem pJ {a b : List Sm} (h : a.length = b.length) (h2 : ∀ i, i < a.length → ur a b i = true) : nX a b = true := by unfold nX; rw [decide_eq_true h, br.2 h2]; rfl
theorem jD {c d : Ci} {s t : Ns} {nm : ByteArray} {ws : List Int} (h : bi c.chans nm < 0 ∨ bi d.chans nm < 0) : aB c d s t nm ws = (FF, FF, 4) := if_pos h
theorem dq {c d : Ci} {s t : Ns} {nm : ByteArray} {ws : List Int} (h : ¬(bi c.chans nm < 0 ∨ bi d.chans nm < 0)) (h2 : ¬((aW c s (bi c.chans nm) ws).2 = 0 ∧ (aW d t (bi d.chans nm) ws).2 = 0)) : aB c d s t nm ws = (FF, FF, 1) := by unfold aB; rw [if_neg h, if_neg h2]
theorem fB {c d : Ci} {s t : Ns} {nm : ByteArray} {ws : List Int} (h : ¬(bi c.chans nm < 0 ∨ bi d.chans nm < 0)) (h2 : (aW c s (bi c.chans nm) ws).2 = 0) (h3 : (aW d t (bi d.chans nm) ws).2 = 0) : aB c d s t nm ws = ((aW c s (bi c.chans nm) ws).1, (aW d t (bi d.chans nm) ws).1, 0) := by unfold aB; rw [if_neg h, if_pos ⟨h2, h3⟩]
theorem ut {c : Ci} {s : Ns} {n : Int} {ws : List Int} : (aW c s n ws).2 = 0 ∨ (aW c s n ws).2 = 1 := by unfold aW; split <;> simp
theorem Hy {a b : List Sm} {i : Nat} (h : ¬(a.getD i b8).words.length = (b.getD i b8).words.length) : ur a b i = false := by unfold ur; rw [decide_eq_false h, Bool.and_false]
theorem Cn {a b : List Sm} {i : Nat} (h : ((a.getD i b8).name.toList == (b.getD i b8).name.toList) = true) (h2 : (a.getD i b8).words.length = (b.getD i b8).words.length) : ur a b i = true := by unfold ur; rw [h, decide_eq_true h2]; rfl
theorem pK {a b : List Sm} : jC a b = ((dV a b).is && nX a b) := rfl
theorem Hz {a b : List Sm} (h : (dV a b).is = true) (h2 : nX a b = true) : jC a b = true := by rw [pK, h, h2]; rfl
def vf (l : List Int) (i : Nat) : ByteArray := [bs [97], bs [98]].getD (l.getD i 0 % 2).toNat e0
def ai (l : List Int) : List ByteArray := tab (vf l) l.length
def DW (c : Ci) (n : Nat) : List ByteArray := if (cL c n).frm = -1 then [(cL c n).name] else []
def nY (c : Ci) : Nat → List ByteArray
 | 0 => []
 | n + 1 => nY c n ++ DW c n
def ct (c : Ci) : List ByteArray := nY c c.chans.length
theorem F4 {c : Ci} {n : Nat} (h : ¬(cL c n).frm = -1) : nY c (n + 1) = nY c n := by rw [nY, DW, if_neg h, List.append_nil]
theorem Co {c : Ci} {n : Nat} (h : (cL c n).frm = -1) : nY c (n + 1) = nY c n ++ [(cL c n).name] := by rw [nY, DW, if_pos h]
theorem zp {c : Ci} : ∀ n, (nY c n).length ≤ n
 | 0 => Nat.le_refl _
 | n + 1 => by
  have := zp (c := c) n
  rw [nY, List.length_append]
  unfold DW
  split <;> simp <;> omega
end Go.Proofs.YtgmpoenfoacofaaGreat
