/-
  Streams of outputs, plain data: outputs, inputs, first differences, agreement.
-/
import Derived.Test.YtgmpoenfoacofaaGreatQNeH
namespace Go.Proofs.YtgmpoenfoacofaaGreat
open Go.RowKit
set_option linter.unusedVariables false
set_option linter.unusedSimpArgs false
structure Sm where
 name : ByteArray
 words : List Int
def lY (s : Sm) : List V := [.str s.name, .sl 1 (ae .i64) 0 s.words]
abbrev b7 : Sm := ⟨e0, []⟩
def JU (c : Ci) (s : Ns) (n : Nat) : List Sm := if (cL c n).dst = -1 then [⟨(cL c n).name, d7 s n⟩] else []
def qA (c : Ci) (s : Ns) : Nat → List Sm
 | 0 => []
 | n + 1 => qA c s n ++ JU c s n
def aM (c : Ci) (s : Ns) : List Sm := qA c s c.chans.length
theorem Fk {c : Ci} {s : Ns} {n : Nat} (h : ¬(cL c n).dst = -1) : qA c s (n + 1) = qA c s n := by rw [qA, JU, if_neg h, List.append_nil]
theorem Bu {c : Ci} {s : Ns} {n : Nat} (h : (cL c n).dst = -1) : qA c s (n + 1) = qA c s n ++ [⟨(cL c n).name, d7 s n⟩] := by rw [qA, JU, if_pos h]
theorem tC {c : Ci} {s : Ns} : ∀ n, (qA c s n).length ≤ n
 | 0 => Nat.le_refl _
 | n + 1 => by
  have := tC (c := c) (s := s) n
  rw [qA, List.length_append]
  unfold JU
  split <;> simp <;> omega
theorem GP {c : Ci} {s : Ns} : (aM c s).length ≤ c.chans.length := tC _
def ru (l : List Ch) (nm : ByteArray) (i : Nat) : Bool := decide ((l.getD i a8).frm = -1) && ((l.getD i a8).name.toList == nm.toList)
def bg (l : List Ch) (nm : ByteArray) : Int := bX (ru l nm) l.length
abbrev C9 (c : Ci) (nm : ByteArray) : Int := bg c.chans nm
def kZ (l : List Ch) (i : Int) : Ch := if i < 0 then a8 else l.getD i.toNat a8
theorem Bv {l : List Ch} {i : Int} (h : i < 0) : kZ l i = a8 := if_pos h
theorem yu {l : List Ch} {i : Int} (h : ¬i < 0) : kZ l i = l.getD i.toNat a8 := if_neg h
theorem vy {f : Nat → Bool} : ∀ {n : Nat}, 0 ≤ bX f n → ∃ i, i < n ∧ bX f n = (i : Int) ∧ f i = true ∧ ∀ z, z < i → f z = false
 | 0, h => by simp [bX] at h
 | n + 1, h => by
  rw [bX] at h ⊢
  split at h
  ·rename_i h1
   rw [if_pos h1]
   split at h
   ·rename_i h2
    rw [if_pos h2]
    exact ⟨n, by omega, rfl, h2, fun z hz => by have := bu.1 h1 z hz; simpa using this⟩
   ·omega
  ·rename_i h1
   rw [if_neg h1]
   obtain ⟨i, a, b, c, d⟩ := vy h
   exact ⟨i, by omega, b, c, d⟩
theorem zZ {f : Nat → Bool} {n : Nat} (h : bX f n < 0) : ∀ z, z < n → f z = false := by
 induction n with
 | zero => intro z hz; omega
 | succ n ih =>
  rw [bX] at h
  split at h
  ·rename_i h1
   split at h
   ·omega
   ·rename_i h2
    intro z hz
    by_cases e : z = n
    ·rw [e]; simpa using h2
    ·have := bu.1 h1 z (by omega); simpa using this
  ·rename_i h1
   exfalso
   apply h1
   exact bu.2 (fun i hi => by rw [ih h i hi]; rfl)
def HJ (l : List Sm) (nm : ByteArray) (i : Nat) : Bool := (l.getD i b7).name.toList == nm.toList
def ba (l : List Sm) (nm : ByteArray) : Int := bX (HJ l nm) l.length
def un (a b : List Int) (i : Nat) : Bool := !decide (a.getD i 0 = b.getD i 0)
def k9 (a b : List Int) : Int := bX (un a b) (min a.length b.length)
def ij (l : List Sm) (i : Int) : Sm := if i < 0 then b7 else l.getD i.toNat b7
theorem Bw {l : List Sm} {i : Int} (h : i < 0) : ij l i = b7 := if_pos h
theorem yv {l : List Sm} {i : Int} (h : ¬i < 0) : ij l i = l.getD i.toNat b7 := if_neg h
abbrev jQ (l : List Sm) (k : Int) : List Int := (ij l k).words
def pb (a b : List Sm) (i : Nat) : Bool := decide (0 ≤ ba b (a.getD i b7).name) && (decide (ba a (a.getD i b7).name = (i : Int)) && decide (0 ≤ k9 (a.getD i b7).words (jQ b (ba b (a.getD i b7).name))))
def GQ (a b : List Sm) : Int := bX (pb a b) a.length
structure Vd where
 name : ByteArray
 pos : Int
 is : Bool
def JV (a b : List Sm) (i : Nat) : Vd := ⟨(a.getD i b7).name, k9 (a.getD i b7).words (jQ b (ba b (a.getD i b7).name)), false⟩
def dP (a b : List Sm) : Vd := if GQ a b < 0 then ⟨e0, 0, true⟩ else JV a b (GQ a b).toNat
theorem z3 {a b : List Sm} {i : Nat} (hi : i < a.length) (h : pb a b i = true) (h2 : ∀ z, z < i → pb a b z = false) : dP a b = JV a b i := by
 have : GQ a b = (i : Int) := cJ h h2 hi
 unfold dP
 rw [this, if_neg (by omega), Int.toNat_natCast]
theorem vz {a b : List Sm} (h : ∀ z, z < a.length → pb a b z = false) : dP a b = ⟨e0, 0, true⟩ := by
 have : GQ a b = -1 := dk h
 unfold dP
 rw [this, if_pos (by omega)]
def tD (a b : List Sm) (i : Nat) : Bool := ((a.getD i b7).name.toList == (b.getD i b7).name.toList) && decide ((a.getD i b7).words.length = (b.getD i b7).words.length)
def ji (a b : List Sm) : Bool := (dP a b).is && (decide (a.length = b.length) && cz (tD a b) a.length)
def az (c d : Ci) (s t : Ns) (nm : ByteArray) (ws : List Int) : Ns × Ns × Int :=
 if C9 c nm < 0 ∨ C9 d nm < 0 then (EU, EU, 4)
 else if (aW c s (C9 c nm) ws).2 = 0 ∧ (aW d t (C9 d nm) ws).2 = 0 then ((aW c s (C9 c nm) ws).1, (aW d t (C9 d nm) ws).1, 0) else (EU, EU, 1)
theorem rQ {a b : List Sm} {i : Nat} (h : ¬ba a (a.getD i b7).name = (i : Int)) : pb a b i = false := by unfold pb; rw [decide_eq_false h]; simp
theorem lZ {a b : List Sm} {i : Nat} (h : ba b (a.getD i b7).name < 0) : pb a b i = false := by unfold pb; rw [decide_eq_false (by omega)]; rfl
theorem pc {a b : List Sm} {i : Nat} (h : ¬0 ≤ k9 (a.getD i b7).words (jQ b (ba b (a.getD i b7).name))) : pb a b i = false := by unfold pb; rw [decide_eq_false h]; simp
theorem wX {a b : List Sm} {i : Nat} (h1 : ba a (a.getD i b7).name = (i : Int)) (h2 : ¬ba b (a.getD i b7).name < 0) (h3 : 0 ≤ k9 (a.getD i b7).words (jQ b (ba b (a.getD i b7).name))) : pb a b i = true := by unfold pb; rw [decide_eq_true h1, decide_eq_true (show 0 ≤ ba b (a.getD i b7).name by omega), decide_eq_true h3]; rfl
theorem Bx {a b : List Sm} (h : ¬(dP a b).is = true) : ji a b = false := by unfold ji; rw [show (dP a b).is = false by simpa using h]; rfl
theorem Fl {a b : List Sm} (h : (dP a b).is = true) : ji a b = (decide (a.length = b.length) && cz (tD a b) a.length) := by unfold ji; rw [h]; rfl
def nr (a b : List Sm) : Bool := decide (a.length = b.length) && cz (tD a b) a.length
theorem wY {a b : List Sm} (h : ¬a.length = b.length) : nr a b = false := by unfold nr; rw [decide_eq_false h]; rfl
theorem rR {a b : List Sm} {i : Nat} (hi : i < a.length) (h : tD a b i = false) : nr a b = false := by unfold nr; rw [gu hi h, Bool.and_false]
theorem pg {a b : List Sm} (h : a.length = b.length) (h2 : ∀ i, i < a.length → tD a b i = true) : nr a b = true := by unfold nr; rw [decide_eq_true h, bu.2 h2]; rfl
theorem jj {c d : Ci} {s t : Ns} {nm : ByteArray} {ws : List Int} (h : bg c.chans nm < 0 ∨ bg d.chans nm < 0) : az c d s t nm ws = (EU, EU, 4) := if_pos h
theorem dm {c d : Ci} {s t : Ns} {nm : ByteArray} {ws : List Int} (h : ¬(bg c.chans nm < 0 ∨ bg d.chans nm < 0)) (h2 : ¬((aW c s (bg c.chans nm) ws).2 = 0 ∧ (aW d t (bg d.chans nm) ws).2 = 0)) : az c d s t nm ws = (EU, EU, 1) := by unfold az; rw [if_neg h, if_neg h2]
theorem fq {c d : Ci} {s t : Ns} {nm : ByteArray} {ws : List Int} (h : ¬(bg c.chans nm < 0 ∨ bg d.chans nm < 0)) (h2 : (aW c s (bg c.chans nm) ws).2 = 0) (h3 : (aW d t (bg d.chans nm) ws).2 = 0) : az c d s t nm ws = ((aW c s (bg c.chans nm) ws).1, (aW d t (bg d.chans nm) ws).1, 0) := by unfold az; rw [if_neg h, if_pos ⟨h2, h3⟩]
theorem tE {c : Ci} {s : Ns} {n : Int} {ws : List Int} : (aW c s n ws).2 = 0 ∨ (aW c s n ws).2 = 1 := by unfold aW; split <;> simp
theorem GR {a b : List Sm} {i : Nat} (h : ¬(a.getD i b7).words.length = (b.getD i b7).words.length) : tD a b i = false := by unfold tD; rw [decide_eq_false h, Bool.and_false]
theorem Bz {a b : List Sm} {i : Nat} (h : ((a.getD i b7).name.toList == (b.getD i b7).name.toList) = true) (h2 : (a.getD i b7).words.length = (b.getD i b7).words.length) : tD a b i = true := by unfold tD; rw [h, decide_eq_true h2]; rfl
theorem ph {a b : List Sm} : ji a b = ((dP a b).is && nr a b) := rfl
theorem GS {a b : List Sm} (h : (dP a b).is = true) (h2 : nr a b = true) : ji a b = true := by rw [ph, h, h2]; rfl
def uo (l : List Int) (i : Nat) : ByteArray := [bs [97], bs [98]].getD (l.getD i 0 % 2).toNat e0
def ai (l : List Int) : List ByteArray := ao (uo l) l.length
def Da (c : Ci) (n : Nat) : List ByteArray := if (cL c n).frm = -1 then [(cL c n).name] else []
def ns (c : Ci) : Nat → List ByteArray
 | 0 => []
 | n + 1 => ns c n ++ Da c n
def ck (c : Ci) : List ByteArray := ns c c.chans.length
theorem Fm {c : Ci} {n : Nat} (h : ¬(cL c n).frm = -1) : ns c (n + 1) = ns c n := by rw [ns, Da, if_neg h, List.append_nil]
theorem BA {c : Ci} {n : Nat} (h : (cL c n).frm = -1) : ns c (n + 1) = ns c n ++ [(cL c n).name] := by rw [ns, Da, if_pos h]
theorem yw {c : Ci} : ∀ n, (ns c n).length ≤ n
 | 0 => Nat.le_refl _
 | n + 1 => by
  have := yw (c := c) n
  rw [ns, List.length_append]
  unfold Da
  split <;> simp <;> omega
end Go.Proofs.YtgmpoenfoacofaaGreat
