/-
  Streams of outputs, plain data: outputs, inputs, first differences, agreement.
-/
import Derived.Test.YtgmpoenfoacofaaQNeH
namespace Go.Proofs.Ytgmpoenfoacofaa
open Go.RowKit
set_option linter.unusedVariables false
set_option linter.unusedSimpArgs false
structure Sm where
 name : ByteArray
 words : List Int
def b6 (s : Sm) : List V := [.str s.name, .sl 1 (af .i64) 0 s.words]
abbrev aB : Sm := ⟨e0, []⟩
def yv (c : Ci) (s : Ns) (n : Nat) : List Sm := if (jr c n).dst = -1 then [⟨(jr c n).name, rC s n⟩] else []
def lj (c : Ci) (s : Ns) : Nat → List Sm
 | 0 => []
 | n + 1 => lj c s n ++ yv c s n
def vD (c : Ci) (s : Ns) : List Sm := lj c s c.chans.length
theorem uq {c : Ci} {s : Ns} {n : Nat} (h : ¬(jr c n).dst = -1) : lj c s (n + 1) = lj c s n := by rw [lj, yv, if_neg h, List.append_nil]
theorem rJ {c : Ci} {s : Ns} {n : Nat} (h : (jr c n).dst = -1) : lj c s (n + 1) = lj c s n ++ [⟨(jr c n).name, rC s n⟩] := by rw [lj, yv, if_pos h]
theorem pn {c : Ci} {s : Ns} : ∀ n, (lj c s n).length ≤ n
 | 0 => Nat.le_refl _
 | n + 1 => by
  have := pn (c := c) (s := s) n
  rw [lj, List.length_append]
  unfold yv
  split <;> simp <;> omega
def po (l : List Ch) (nm : ByteArray) (i : Nat) : Bool := decide ((l.getD i bO).frm = -1) && ((l.getD i bO).name.toList == nm.toList)
def aK (l : List Ch) (nm : ByteArray) : Int := aW (po l nm) l.length
abbrev sO (c : Ci) (nm : ByteArray) : Int := aK c.chans nm
def fx (l : List Ch) (i : Int) : Ch := if i < 0 then bO else l.getD i.toNat bO
theorem rK {l : List Ch} {i : Int} (h : i < 0) : fx l i = bO := if_pos h
theorem pp {l : List Ch} {i : Int} (h : ¬i < 0) : fx l i = l.getD i.toNat bO := if_neg h
theorem f4 {f : Nat → Bool} : ∀ {n : Nat}, 0 ≤ aW f n → ∃ i, i < n ∧ aW f n = (i : Int) ∧ f i = true ∧ ∀ z, z < i → f z = false
 | 0, h => by simp [aW] at h
 | n + 1, h => by
  rw [aW] at h ⊢
  split at h
  ·rename_i h1
   rw [if_pos h1]
   split at h
   ·rename_i h2
    rw [if_pos h2]
    exact ⟨n, by omega, rfl, h2, fun z hz => by have := bn.1 h1 z hz; simpa using this⟩
   ·omega
  ·rename_i h1
   rw [if_neg h1]
   obtain ⟨i, a, b, c, d⟩ := f4 h
   exact ⟨i, by omega, b, c, d⟩
theorem qI {f : Nat → Bool} {n : Nat} (h : aW f n < 0) : ∀ z, z < n → f z = false := by
 induction n with
 | zero => intro z hz; omega
 | succ n ih =>
  rw [aW] at h
  split at h
  ·rename_i h1
   split at h
   ·omega
   ·rename_i h2
    intro z hz
    by_cases e : z = n
    ·rw [e]; simpa using h2
    ·have := bn.1 h1 z (by omega); simpa using this
  ·rename_i h1
   exfalso
   apply h1
   exact bn.2 (fun i hi => by rw [ih h i hi]; rfl)
def qJ (l : List Sm) (nm : ByteArray) (i : Nat) : Bool := (l.getD i aB).name.toList == nm.toList
def au (l : List Sm) (nm : ByteArray) : Int := aW (qJ l nm) l.length
def gf (a b : List Int) (i : Nat) : Bool := !decide (a.getD i 0 = b.getD i 0)
def bE (a b : List Int) : Int := aW (gf a b) (min a.length b.length)
def cj (l : List Sm) (i : Int) : Sm := if i < 0 then aB else l.getD i.toNat aB
theorem rL {l : List Sm} {i : Int} (h : i < 0) : cj l i = aB := if_pos h
theorem fy {l : List Sm} {i : Int} (h : ¬i < 0) : cj l i = l.getD i.toNat aB := if_neg h
abbrev bC (l : List Sm) (k : Int) : List Int := (cj l k).words
def cz (a b : List Sm) (i : Nat) : Bool := decide (0 ≤ au b (a.getD i aB).name) && (decide (au a (a.getD i aB).name = (i : Int)) && decide (0 ≤ bE (a.getD i aB).words (bC b (au b (a.getD i aB).name))))
def sP (a b : List Sm) : Int := aW (cz a b) a.length
structure Vd where
 name : ByteArray
 pos : Int
 is : Bool
def pu (a b : List Sm) (i : Nat) : Vd := ⟨(a.getD i aB).name, bE (a.getD i aB).words (bC b (au b (a.getD i aB).name)), false⟩
def aG (a b : List Sm) : Vd := if sP a b < 0 then ⟨e0, 0, true⟩ else pu a b (sP a b).toNat
theorem lk {a b : List Sm} {i : Nat} (hi : i < a.length) (h : cz a b i = true) (h2 : ∀ z, z < i → cz a b z = false) : aG a b = pu a b i := by
 have : sP a b = (i : Int) := a4 h h2 hi
 unfold aG
 rw [this, if_neg (by omega), Int.toNat_natCast]
theorem io {a b : List Sm} (h : ∀ z, z < a.length → cz a b z = false) : aG a b = ⟨e0, 0, true⟩ := by
 have : sP a b = -1 := a9 h
 unfold aG
 rw [this, if_pos (by omega)]
def ll (a b : List Sm) (i : Nat) : Bool := ((a.getD i aB).name.toList == (b.getD i aB).name.toList) && decide ((a.getD i aB).words.length = (b.getD i aB).words.length)
def eM (a b : List Sm) : Bool := (aG a b).is && (decide (a.length = b.length) && cZ (ll a b) a.length)
def ao (c d : Ci) (s t : Ns) (nm : ByteArray) (ws : List Int) : Ns × Ns × Int :=
 if sO c nm < 0 ∨ sO d nm < 0 then (t7, t7, 4)
 else if (aD c s (sO c nm) ws).2 = 0 ∧ (aD d t (sO d nm) ws).2 = 0 then ((aD c s (sO c nm) ws).1, (aD d t (sO d nm) ws).1, 0) else (t7, t7, 1)
theorem vE {l : List Sm} {nm : ByteArray} : au l nm < l.length := fU
theorem ip {a b : List Sm} {i : Nat} (h : ¬au a (a.getD i aB).name = (i : Int)) : cz a b i = false := by unfold cz; rw [decide_eq_false h]; simp
theorem eN {a b : List Sm} {i : Nat} (h : au b (a.getD i aB).name < 0) : cz a b i = false := by unfold cz; rw [decide_eq_false (by omega)]; rfl
theorem eO {a b : List Sm} {i : Nat} (h : ¬0 ≤ bE (a.getD i aB).words (bC b (au b (a.getD i aB).name))) : cz a b i = false := by unfold cz; rw [decide_eq_false h]; simp
theorem f5 {a b : List Sm} {i : Nat} (h1 : au a (a.getD i aB).name = (i : Int)) (h2 : ¬au b (a.getD i aB).name < 0) (h3 : 0 ≤ bE (a.getD i aB).words (bC b (au b (a.getD i aB).name))) : cz a b i = true := by unfold cz; rw [decide_eq_true h1, decide_eq_true (show 0 ≤ au b (a.getD i aB).name by omega), decide_eq_true h3]; rfl
theorem ny {a b : List Sm} (h : ¬(aG a b).is = true) : eM a b = false := by unfold eM; rw [show (aG a b).is = false by simpa using h]; rfl
theorem ur {a b : List Sm} (h : (aG a b).is = true) : eM a b = (decide (a.length = b.length) && cZ (ll a b) a.length) := by unfold eM; rw [h]; rfl
def iq (a b : List Sm) : Bool := decide (a.length = b.length) && cZ (ll a b) a.length
theorem nz {a b : List Sm} (h : ¬a.length = b.length) : iq a b = false := by unfold iq; rw [decide_eq_false h]; rfl
theorem jQ {a b : List Sm} {i : Nat} (hi : i < a.length) (h : ll a b i = false) : iq a b = false := by unfold iq; rw [nq hi h, Bool.and_false]
theorem jR {a b : List Sm} (h : a.length = b.length) (h2 : ∀ i, i < a.length → ll a b i = true) : iq a b = true := by unfold iq; rw [decide_eq_true h, bn.2 h2]; rfl
theorem eo {c d : Ci} {s t : Ns} {nm : ByteArray} {ws : List Int} (h : aK c.chans nm < 0 ∨ aK d.chans nm < 0) : ao c d s t nm ws = (t7, t7, 4) := if_pos h
theorem bo {c d : Ci} {s t : Ns} {nm : ByteArray} {ws : List Int} (h : ¬(aK c.chans nm < 0 ∨ aK d.chans nm < 0)) (h2 : ¬((aD c s (aK c.chans nm) ws).2 = 0 ∧ (aD d t (aK d.chans nm) ws).2 = 0)) : ao c d s t nm ws = (t7, t7, 1) := by unfold ao; rw [if_neg h, if_neg h2]
theorem df {c d : Ci} {s t : Ns} {nm : ByteArray} {ws : List Int} (h : ¬(aK c.chans nm < 0 ∨ aK d.chans nm < 0)) (h2 : (aD c s (aK c.chans nm) ws).2 = 0) (h3 : (aD d t (aK d.chans nm) ws).2 = 0) : ao c d s t nm ws = ((aD c s (aK c.chans nm) ws).1, (aD d t (aK d.chans nm) ws).1, 0) := by unfold ao; rw [if_neg h, if_pos ⟨h2, h3⟩]
theorem lm {c : Ci} {s : Ns} {n : Int} {ws : List Int} : (aD c s n ws).2 = 0 ∨ (aD c s n ws).2 = 1 := by unfold aD; split <;> simp
theorem vG {a b : List Sm} {i : Nat} (h : ¬(a.getD i aB).words.length = (b.getD i aB).words.length) : ll a b i = false := by unfold ll; rw [decide_eq_false h, Bool.and_false]
theorem vH {a b : List Sm} {i : Nat} (h : ((a.getD i aB).name.toList == (b.getD i aB).name.toList) = true) (h2 : (a.getD i aB).words.length = (b.getD i aB).words.length) : ll a b i = true := by unfold ll; rw [h, decide_eq_true h2]; rfl
theorem ln {a b : List Sm} : eM a b = ((aG a b).is && iq a b) := rfl
end Go.Proofs.Ytgmpoenfoacofaa
