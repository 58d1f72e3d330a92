/-
  Streams of outputs, plain data: outputs, inputs, first differences, agreement.
-/
import Derived.Test.YtgmpoenfoacofaaGreatQNeH
namespace Go.Proofs.YtgmpoenfoacofaaGreat
open Go.RowKit
set_option linter.unusedVariables false
set_option linter.unusedSimpArgs false
structure Sm where
 name : ByteArray
 words : List Int
def lZ (s : Sm) : List V := [.str s.name, .sl 1 (ae .i64) 0 s.words]
abbrev b7 : Sm := ⟨e0, []⟩
def JV (c : Ci) (s : Ns) (n : Nat) : List Sm := if (cM c n).dst = -1 then [⟨(cM c n).name, d7 s n⟩] else []
def qB (c : Ci) (s : Ns) : Nat → List Sm
 | 0 => []
 | n + 1 => qB c s n ++ JV c s n
def aM (c : Ci) (s : Ns) : List Sm := qB c s c.chans.length
theorem Fk {c : Ci} {s : Ns} {n : Nat} (h : ¬(cM c n).dst = -1) : qB c s (n + 1) = qB c s n := by rw [qB, JV, if_neg h, List.append_nil]
theorem Bu {c : Ci} {s : Ns} {n : Nat} (h : (cM c n).dst = -1) : qB c s (n + 1) = qB c s n ++ [⟨(cM c n).name, d7 s n⟩] := by rw [qB, JV, if_pos h]
theorem tC {c : Ci} {s : Ns} : ∀ n, (qB c s n).length ≤ n
 | 0 => Nat.le_refl _
 | n + 1 => by
  have := tC (c := c) (s := s) n
  rw [qB, List.length_append]
  unfold JV
  split <;> simp <;> omega
theorem GP {c : Ci} {s : Ns} : (aM c s).length ≤ c.chans.length := tC _
def ji (l : List Ch) (nm : ByteArray) (i : Nat) : Bool := decide ((l.getD i a6).frm = -1) && ((l.getD i a6).name.toList == nm.toList)
def be (l : List Ch) (nm : ByteArray) : Int := bX (ji l nm) l.length
abbrev C9 (c : Ci) (nm : ByteArray) : Int := be c.chans nm
def k9 (l : List Ch) (i : Int) : Ch := if i < 0 then a6 else l.getD i.toNat a6
theorem Bv {l : List Ch} {i : Int} (h : i < 0) : k9 l i = a6 := if_pos h
theorem yu {l : List Ch} {i : Int} (h : ¬i < 0) : k9 l i = l.getD i.toNat a6 := if_neg h
theorem vy {f : Nat → Bool} : ∀ {n : Nat}, 0 ≤ bX f n → ∃ i, i < n ∧ bX f n = (i : Int) ∧ f i = true ∧ ∀ z, z < i → f z = false
 | 0, h => by simp [bX] at h
 | n + 1, h => by
  rw [bX] at h ⊢
  split at h
  ·rename_i h1
   rw [if_pos h1]
   split at h
   ·rename_i h2
    rw [if_pos h2]
    exact ⟨n, by omega, rfl, h2, fun z hz => by have := bu.1 h1 z hz; simpa using this⟩
   ·omega
  ·rename_i h1
   rw [if_neg h1]
   obtain ⟨i, a, b, c, d⟩ := vy h
   exact ⟨i, by omega, b, c, d⟩
theorem zZ {f : Nat → Bool} {n : Nat} (h : bX f n < 0) : ∀ z, z < n → f z = false := by
 induction n with
 | zero => intro z hz; omega
 | succ n ih =>
  rw [bX] at h
  split at h
  ·rename_i h1
   split at h
   ·omega
   ·rename_i h2
    intro z hz
    by_cases e : z = n
    ·rw [e]; simpa using h2
    ·have := bu.1 h1 z (by omega); simpa using this
  ·rename_i h1
   exfalso
   apply h1
   exact bu.2 (fun i hi => by rw [ih h i hi]; rfl)
def HJ (l : List Sm) (nm : ByteArray) (i : Nat) : Bool := (l.getD i b7).name.toList == nm.toList
def ba (l : List Sm) (nm : ByteArray) : Int := bX (HJ l nm) l.length
def un (a b : List Int) (i : Nat) : Bool := !decide (a.getD i 0 = b.getD i 0)
def ld (a b : List Int) : Int := bX (un a b) (min a.length b.length)
def ij (l : List Sm) (i : Int) : Sm := if i < 0 then b7 else l.getD i.toNat b7
theorem Bw {l : List Sm} {i : Int} (h : i < 0) : ij l i = b7 := if_pos h
theorem yv {l : List Sm} {i : Int} (h : ¬i < 0) : ij l i = l.getD i.toNat b7 := if_neg h
abbrev jR (l : List Sm) (k : Int) : List Int := (ij l k).words
def pc (a b : List Sm) (i : Nat) : Bool := decide (0 ≤ ba b (a.getD i b7).name) && (decide (ba a (a.getD i b7).name = (i : Int)) && decide (0 ≤ ld (a.getD i b7).words (jR b (ba b (a.getD i b7).name))))
def GQ (a b : List Sm) : Int := bX (pc a b) a.length
structure Vd where
 name : ByteArray
 pos : Int
 is : Bool
def JW (a b : List Sm) (i : Nat) : Vd := ⟨(a.getD i b7).name, ld (a.getD i b7).words (jR b (ba b (a.getD i b7).name)), false⟩
def dP (a b : List Sm) : Vd := if GQ a b < 0 then ⟨e0, 0, true⟩ else JW a b (GQ a b).toNat
theorem z3 {a b : List Sm} {i : Nat} (hi : i < a.length) (h : pc a b i = true) (h2 : ∀ z, z < i → pc a b z = false) : dP a b = JW a b i := by
 have : GQ a b = (i : Int) := b9 h h2 hi
 unfold dP
 rw [this, if_neg (by omega), Int.toNat_natCast]
theorem vz {a b : List Sm} (h : ∀ z, z < a.length → pc a b z = false) : dP a b = ⟨e0, 0, true⟩ := by
 have : GQ a b = -1 := cH h
 unfold dP
 rw [this, if_pos (by omega)]
def tD (a b : List Sm) (i : Nat) : Bool := ((a.getD i b7).name.toList == (b.getD i b7).name.toList) && decide ((a.getD i b7).words.length = (b.getD i b7).words.length)
def jj (a b : List Sm) : Bool := (dP a b).is && (decide (a.length = b.length) && cB (tD a b) a.length)
def az (c d : Ci) (s t : Ns) (nm : ByteArray) (ws : List Int) : Ns × Ns × Int :=
 if C9 c nm < 0 ∨ C9 d nm < 0 then (EU, EU, 4)
 else if (aW c s (C9 c nm) ws).2 = 0 ∧ (aW d t (C9 d nm) ws).2 = 0 then ((aW c s (C9 c nm) ws).1, (aW d t (C9 d nm) ws).1, 0) else (EU, EU, 1)
theorem rQ {a b : List Sm} {i : Nat} (h : ¬ba a (a.getD i b7).name = (i : Int)) : pc a b i = false := by unfold pc; rw [decide_eq_false h]; simp
theorem l5 {a b : List Sm} {i : Nat} (h : ba b (a.getD i b7).name < 0) : pc a b i = false := by unfold pc; rw [decide_eq_false (by omega)]; rfl
theorem pg {a b : List Sm} {i : Nat} (h : ¬0 ≤ ld (a.getD i b7).words (jR b (ba b (a.getD i b7).name))) : pc a b i = false := by unfold pc; rw [decide_eq_false h]; simp
theorem wX {a b : List Sm} {i : Nat} (h1 : ba a (a.getD i b7).name = (i : Int)) (h2 : ¬ba b (a.getD i b7).name < 0) (h3 : 0 ≤ ld (a.getD i b7).words (jR b (ba b (a.getD i b7).name))) : pc a b i = true := by unfold pc; rw [decide_eq_true h1, decide_eq_true (show 0 ≤ ba b (a.getD i b7).name by omega), decide_eq_true h3]; rfl
theorem Bx {a b : List Sm} (h : ¬(dP a b).is = true) : jj a b = false := by unfold jj; rw [show (dP a b).is = false by simpa using h]; rfl
theorem Fl {a b : List Sm} (h : (dP a b).is = true) : jj a b = (decide (a.length = b.length) && cB (tD a b) a.length) := by unfold jj; rw [h]; rfl
def ns (a b : List Sm) : Bool := decide (a.length = b.length) && cB (tD a b) a.length
theorem wY {a b : List Sm} (h : ¬a.length = b.length) : ns a b = false := by unfold ns; rw [decide_eq_false h]; rfl
theorem rR {a b : List Sm} {i : Nat} (hi : i < a.length) (h : tD a b i = false) : ns a b = false := by unfold ns; rw [gu hi h, Bool.and_false]
theorem ph {a b : List Sm} (h : a.length = b.length) (h2 : ∀ i, i < a.length → tD a b i = true) : ns a b = true := by unfold ns; rw [decide_eq_true h, bu.2 h2]; rfl
theorem jk {c d : Ci} {s t : Ns} {nm : ByteArray} {ws : List Int} (h : be c.chans nm < 0 ∨ be d.chans nm < 0) : az c d s t nm ws = (EU, EU, 4) := if_pos h
theorem dm {c d : Ci} {s t : Ns} {nm : ByteArray} {ws : List Int} (h : ¬(be c.chans nm < 0 ∨ be d.chans nm < 0)) (h2 : ¬((aW c s (be c.chans nm) ws).2 = 0 ∧ (aW d t (be d.chans nm) ws).2 = 0)) : az c d s t nm ws = (EU, EU, 1) := by unfold az; rw [if_neg h, if_neg h2]
theorem fq {c d : Ci} {s t : Ns} {nm : ByteArray} {ws : List Int} (h : ¬(be c.chans nm < 0 ∨ be d.chans nm < 0)) (h2 : (aW c s (be c.chans nm) ws).2 = 0) (h3 : (aW d t (be d.chans nm) ws).2 = 0) : az c d s t nm ws = ((aW c s (be c.chans nm) ws).1, (aW d t (be d.chans nm) ws).1, 0) := by unfold az; rw [if_neg h, if_pos ⟨h2, h3⟩]
theorem tE {c : Ci} {s : Ns} {n : Int} {ws : List Int} : (aW c s n ws).2 = 0 ∨ (aW c s n ws).2 = 1 := by unfold aW; split <;> simp
theorem GR {a b : List Sm} {i : Nat} (h : ¬(a.getD i b7).words.length = (b.getD i b7).words.length) : tD a b i = false := by unfold tD; rw [decide_eq_false h, Bool.and_false]
theorem Bz {a b : List Sm} {i : Nat} (h : ((a.getD i b7).name.toList == (b.getD i b7).name.toList) = true) (h2 : (a.getD i b7).words.length = (b.getD i b7).words.length) : tD a b i = true := by unfold tD; rw [h, decide_eq_true h2]; rfl
theorem pi {a b : List Sm} : jj a b = ((dP a b).is && ns a b) := rfl
theorem GS {a b : List Sm} (h : (dP a b).is = true) (h2 : ns a b = true) : jj a b = true := by rw [pi, h, h2]; rfl
def uo (l : List Int) (i : Nat) : ByteArray := [bs [97], bs [98]].getD (l.getD i 0 % 2).toNat e0
def ai (l : List Int) : List ByteArray := ao (uo l) l.length
def Da (c : Ci) (n : Nat) : List ByteArray := if (cM c n).frm = -1 then [(cM c n).name] else []
def nu (c : Ci) : Nat → List ByteArray
 | 0 => []
 | n + 1 => nu c n ++ Da c n
def co (c : Ci) : List ByteArray := nu c c.chans.length
theorem Fm {c : Ci} {n : Nat} (h : ¬(cM c n).frm = -1) : nu c (n + 1) = nu c n := by rw [nu, Da, if_neg h, List.append_nil]
theorem BA {c : Ci} {n : Nat} (h : (cM c n).frm = -1) : nu c (n + 1) = nu c n ++ [(cM c n).name] := by rw [nu, Da, if_pos h]
theorem yw {c : Ci} : ∀ n, (nu c n).length ≤ n
 | 0 => Nat.le_refl _
 | n + 1 => by
  have := yw (c := c) n
  rw [nu, List.length_append]
  unfold Da
  split <;> simp <;> omega
end Go.Proofs.YtgmpoenfoacofaaGreat
