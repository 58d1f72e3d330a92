/-
  Streams of outputs, plain data: outputs, inputs, first differences, agreement.
-/
import Derived.Test.YtgmpoenfoacofaaGreatQNeH
namespace Go.Proofs.YtgmpoenfoacofaaGreat
open Go.RowKit
set_option linter.unusedVariables false
set_option linter.unusedSimpArgs false
structure Sm where
 name : ByteArray
 words : List Int
def kN (s : Sm) : List V := [.str s.name, .sl 1 (ah .i64) 0 s.words]
abbrev bP : Sm := ⟨e0, []⟩
def Hh (c : Ci) (s : Ns) (n : Nat) : List Sm := if (dg c n).dst = -1 then [⟨(dg c n).name, fk s n⟩] else []
def jA (c : Ci) (s : Ns) : Nat → List Sm
 | 0 => []
 | n + 1 => jA c s n ++ Hh c s n
def cU (c : Ci) (s : Ns) : List Sm := jA c s c.chans.length
theorem xO {c : Ci} {s : Ns} {n : Nat} (h : ¬(dg c n).dst = -1) : jA c s (n + 1) = jA c s n := by rw [jA, Hh, if_neg h, List.append_nil]
theorem uU {c : Ci} {s : Ns} {n : Nat} (h : (dg c n).dst = -1) : jA c s (n + 1) = jA c s n ++ [⟨(dg c n).name, fk s n⟩] := by rw [jA, Hh, if_pos h]
theorem rK {c : Ci} {s : Ns} : ∀ n, (jA c s n).length ≤ n
 | 0 => Nat.le_refl _
 | n + 1 => by
  have := rK (c := c) (s := s) n
  rw [jA, List.length_append]
  unfold Hh
  split <;> simp <;> omega
theorem D4 {c : Ci} {s : Ns} : (cU c s).length ≤ c.chans.length := rK _
def wk (l : List Ch) (nm : ByteArray) (i : Nat) : Bool := decide ((l.getD i be).frm = -1) && ((l.getD i be).name.toList == nm.toList)
def bg (l : List Ch) (nm : ByteArray) : Int := ca (wk l nm) l.length
abbrev An (c : Ci) (nm : ByteArray) : Int := bg c.chans nm
def ka (l : List Ch) (i : Int) : Ch := if i < 0 then be else l.getD i.toNat be
theorem y3 {l : List Ch} {i : Int} (h : i < 0) : ka l i = be := if_pos h
theorem wl {l : List Ch} {i : Int} (h : ¬i < 0) : ka l i = l.getD i.toNat be := if_neg h
theorem tI {f : Nat → Bool} : ∀ {n : Nat}, 0 ≤ ca f n → ∃ i, i < n ∧ ca f n = (i : Int) ∧ f i = true ∧ ∀ z, z < i → f z = false
 | 0, h => by simp [ca] at h
 | n + 1, h => by
  rw [ca] at h ⊢
  split at h
  ·rename_i h1
   rw [if_pos h1]
   split at h
   ·rename_i h2
    rw [if_pos h2]
    exact ⟨n, by omega, rfl, h2, fun z hz => by have := bE.1 h1 z hz; simpa using this⟩
   ·omega
  ·rename_i h1
   rw [if_neg h1]
   obtain ⟨i, a, b, c, d⟩ := tI h
   exact ⟨i, by omega, b, c, d⟩
def EW (l : List Sm) (nm : ByteArray) (i : Nat) : Bool := (l.getD i bP).name.toList == nm.toList
def aW (l : List Sm) (nm : ByteArray) : Int := ca (EW l nm) l.length
def ni (a b : List Int) (i : Nat) : Bool := !decide (a.getD i 0 = b.getD i 0)
def gu (a b : List Int) : Int := ca (ni a b) (min a.length b.length)
def gt (l : List Sm) (i : Int) : Sm := if i < 0 then bP else l.getD i.toNat bP
theorem y4 {l : List Sm} {i : Int} (h : i < 0) : gt l i = bP := if_pos h
theorem wm {l : List Sm} {i : Int} (h : ¬i < 0) : gt l i = l.getD i.toNat bP := if_neg h
abbrev ep (l : List Sm) (k : Int) : List Int := (gt l k).words
def jB (a b : List Sm) (i : Nat) : Bool := decide (0 ≤ aW b (a.getD i bP).name) && (decide (aW a (a.getD i bP).name = (i : Int)) && decide (0 ≤ gu (a.getD i bP).words (ep b (aW b (a.getD i bP).name))))
def D5 (a b : List Sm) : Int := ca (jB a b) a.length
structure Vd where
 name : ByteArray
 pos : Int
 is : Bool
def F1 (a b : List Sm) (i : Nat) : Vd := ⟨(a.getD i bP).name, gu (a.getD i bP).words (ep b (aW b (a.getD i bP).name)), false⟩
def d8 (a b : List Sm) : Vd := if D5 a b < 0 then ⟨e0, 0, true⟩ else F1 a b (D5 a b).toNat
theorem uV {a b : List Sm} {i : Nat} (hi : i < a.length) (h : jB a b i = true) (h2 : ∀ z, z < i → jB a b z = false) : d8 a b = F1 a b i := by
 have : D5 a b = (i : Int) := bM h h2 hi
 unfold d8
 rw [this, if_neg (by omega), Int.toNat_natCast]
theorem tJ {a b : List Sm} (h : ∀ z, z < a.length → jB a b z = false) : d8 a b = ⟨e0, 0, true⟩ := by
 have : D5 a b = -1 := cY h
 unfold d8
 rw [this, if_pos (by omega)]
def rL (a b : List Sm) (i : Nat) : Bool := ((a.getD i bP).name.toList == (b.getD i bP).name.toList) && decide ((a.getD i bP).words.length = (b.getD i bP).words.length)
def lk (a b : List Sm) : Bool := (d8 a b).is && (decide (a.length = b.length) && bW (rL a b) a.length)
def aE (c d : Ci) (s t : Ns) (nm : ByteArray) (ws : List Int) : Ns × Ns × Int :=
 if An c nm < 0 ∨ An d nm < 0 then (BW, BW, 4)
 else if (aU c s (An c nm) ws).2 = 0 ∧ (aU d t (An d nm) ws).2 = 0 then ((aU c s (An c nm) ws).1, (aU d t (An d nm) ws).1, 0) else (BW, BW, 1)
theorem uW {a b : List Sm} {i : Nat} (h : ¬aW a (a.getD i bP).name = (i : Int)) : jB a b i = false := by unfold jB; rw [decide_eq_false h]; simp
theorem nj {a b : List Sm} {i : Nat} (h : aW b (a.getD i bP).name < 0) : jB a b i = false := by unfold jB; rw [decide_eq_false (by omega)]; rfl
theorem qc {a b : List Sm} {i : Nat} (h : ¬0 ≤ gu (a.getD i bP).words (ep b (aW b (a.getD i bP).name))) : jB a b i = false := by unfold jB; rw [decide_eq_false h]; simp
theorem qe {a b : List Sm} {i : Nat} (h1 : aW a (a.getD i bP).name = (i : Int)) (h2 : ¬aW b (a.getD i bP).name < 0) (h3 : 0 ≤ gu (a.getD i bP).words (ep b (aW b (a.getD i bP).name))) : jB a b i = true := by unfold jB; rw [decide_eq_true h1, decide_eq_true (show 0 ≤ aW b (a.getD i bP).name by omega), decide_eq_true h3]; rfl
theorem y5 {a b : List Sm} (h : ¬(d8 a b).is = true) : lk a b = false := by unfold lk; rw [show (d8 a b).is = false by simpa using h]; rfl
theorem Cp {a b : List Sm} (h : (d8 a b).is = true) : lk a b = (decide (a.length = b.length) && bW (rL a b) a.length) := by unfold lk; rw [h]; rfl
def nk (a b : List Sm) : Bool := decide (a.length = b.length) && bW (rL a b) a.length
theorem uX {a b : List Sm} (h : ¬a.length = b.length) : nk a b = false := by unfold nk; rw [decide_eq_false h]; rfl
theorem qf {a b : List Sm} {i : Nat} (hi : i < a.length) (h : rL a b i = false) : nk a b = false := by unfold nk; rw [fA hi h, Bool.and_false]
theorem qg {a b : List Sm} (h : a.length = b.length) (h2 : ∀ i, i < a.length → rL a b i = true) : nk a b = true := by unfold nk; rw [decide_eq_true h, bE.2 h2]; rfl
theorem iz {c d : Ci} {s t : Ns} {nm : ByteArray} {ws : List Int} (h : bg c.chans nm < 0 ∨ bg d.chans nm < 0) : aE c d s t nm ws = (BW, BW, 4) := if_pos h
theorem cz {c d : Ci} {s t : Ns} {nm : ByteArray} {ws : List Int} (h : ¬(bg c.chans nm < 0 ∨ bg d.chans nm < 0)) (h2 : ¬((aU c s (bg c.chans nm) ws).2 = 0 ∧ (aU d t (bg d.chans nm) ws).2 = 0)) : aE c d s t nm ws = (BW, BW, 1) := by unfold aE; rw [if_neg h, if_neg h2]
theorem fN {c d : Ci} {s t : Ns} {nm : ByteArray} {ws : List Int} (h : ¬(bg c.chans nm < 0 ∨ bg d.chans nm < 0)) (h2 : (aU c s (bg c.chans nm) ws).2 = 0) (h3 : (aU d t (bg d.chans nm) ws).2 = 0) : aE c d s t nm ws = ((aU c s (bg c.chans nm) ws).1, (aU d t (bg d.chans nm) ws).1, 0) := by unfold aE; rw [if_neg h, if_pos ⟨h2, h3⟩]
theorem rM {c : Ci} {s : Ns} {n : Int} {ws : List Int} : (aU c s n ws).2 = 0 ∨ (aU c s n ws).2 = 1 := by unfold aU; split <;> simp
theorem D6 {a b : List Sm} {i : Nat} (h : ¬(a.getD i bP).words.length = (b.getD i bP).words.length) : rL a b i = false := by unfold rL; rw [decide_eq_false h, Bool.and_false]
theorem D7 {a b : List Sm} {i : Nat} (h : ((a.getD i bP).name.toList == (b.getD i bP).name.toList) = true) (h2 : (a.getD i bP).words.length = (b.getD i bP).words.length) : rL a b i = true := by unfold rL; rw [h, decide_eq_true h2]; rfl
theorem rN {a b : List Sm} : lk a b = ((d8 a b).is && nk a b) := rfl
def sy (l : List Int) (i : Nat) : ByteArray := [bs [97], bs [98]].getD (l.getD i 0 % 2).toNat e0
def aM (l : List Int) : List ByteArray := tab (sy l) l.length
end Go.Proofs.YtgmpoenfoacofaaGreat
