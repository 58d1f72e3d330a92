/-
  Made circuits, plain data.
-/
import Derived.Test.YtnlmlkbaflmgcaaQNeK
namespace Go.Proofs.Ytnlmlkbaflmgcaa
open Go.RowKit
set_option linter.unusedVariables false
set_option linter.unusedSimpArgs false
structure En where
 takes : List Int
 puts : List Int
def oB (e : En) : List V := [.sl 1 (aa .i64) 0 e.takes, .sl 1 (aa .i64) 0 e.puts]
abbrev cb : En := ⟨[], []⟩
def gj : Ex := ⟨1, e0, ⟨1, e0⟩, ⟨1, e0⟩, []⟩
def aP (s : Sg) (b : List Int) (i : Nat) : Ex × Nat := if b.getD i 0 % 4 = 1 then ao s b 2 (i + 1) 1 else (gj, i + 1)
def LZ : ByteArray := bs [97]
def L0 : ByteArray := bs [98]
def KY (k : Nat) : ByteArray := [bs [114], bs [115]].getD k e0
def Hh (k : Nat) : ByteArray := [bs [112], bs [113], bs [117], bs [118]].getD k e0
def Fb (k : Nat) : ByteArray := [bs [99, 48], bs [99, 49], bs [99, 50], bs [99, 51], bs [99, 52]].getD k e0
def bo (y : Int) (k : Nat) : Int := 1 + (y / 4 + k) % 2
def oU (y : Int) : Nat := (1 + y / 2 % 2).toNat
def IW (y : Int) : List Int := tab (bo y) (oU y)
def IY (y : Int) : Sg := ⟨IW y, [], [], false⟩
def xp (y : Int) (n : Nat) : Sg := ⟨IW y, List.replicate n 2, [], true⟩
def sB (y : Int) (k : Nat) : Rg := ⟨KY k, bo y k, y / 8 % 2 ^ (bo y k).toNat, dE, ⟨[1, 1, 0].getD (y / 16 % 3).toNat 0, e0, 0⟩⟩
def xq (b : List Int) (y : Int) (i : Nat) : Nat → Nat
 | 0 => i
 | k + 1 => (aP (IY y) b (xq b y i k)).2
def vV (b : List Int) (y : Int) (n : Nat) (i : Nat) : Nat → Nat
 | 0 => i
 | k + 1 => (ao (xp y n) b 3 (vV b y n i k) (bo y k)).2
def sC (b : List Int) (y : Int) (n : Nat) (i : Nat) : Nat → Nat
 | 0 => i
 | k + 1 => (ao (xp y n) b 2 (aP (xp y n) b (sC b y n i k)).2 2).2
def Cq (b : List Int) (y : Int) (i : Nat) (e : En) (k : Nat) : Tk := ⟨e.takes.getD k 0, 2, (aP (IY y) b (xq b y i k)).1⟩
def JK (b : List Int) (y : Int) (n i k : Nat) : Rg := { sB y k with next := (ao (xp y n) b 3 (vV b y n i k) (bo y k)).1 }
def Fc (b : List Int) (y : Int) (n i : Nat) (e : En) (k : Nat) : Pt := ⟨e.puts.getD k 0, 2, (aP (xp y n) b (sC b y n i k)).1, (ao (xp y n) b 2 (aP (xp y n) b (sC b y n i k)).2 2).1⟩
def KZ (y : Int) : ByteArray := [LZ, L0].getD (y % 2).toNat e0
def kU (b : List Int) (i : Nat) (e : En) : Nat := xq b (b.getD i 0) (i + 1) e.takes.length
def ky (b : List Int) (i : Nat) (e : En) : Nat := vV b (b.getD i 0) e.takes.length (kU b i e) (oU (b.getD i 0))
def bj (b : List Int) (i : Nat) (nm : ByteArray) (e : En) : Pr × Nat :=
 (⟨nm, KZ (b.getD i 0), tab (JK b (b.getD i 0) e.takes.length (kU b i e)) (oU (b.getD i 0)), [], tab (Cq b (b.getD i 0) (i + 1) e) e.takes.length, tab (Fc b (b.getD i 0) e.takes.length (ky b i e) e) e.puts.length⟩,
  sC b (b.getD i 0) e.takes.length (ky b i e) e.puts.length)
def ai (s : Int) : List En :=
 if s % 6 = 0 then [⟨[0], [1]⟩]
 else if s % 6 = 1 then [⟨[0], [1]⟩, ⟨[1], [2]⟩]
 else if s % 6 = 2 then [⟨[0], [1, 2]⟩, ⟨[1], [3]⟩, ⟨[2], [4]⟩]
 else if s % 6 = 3 then [⟨[0, 2], [1]⟩, ⟨[1], [2, 3]⟩]
 else if s % 6 = 4 then [⟨[0], [2]⟩, ⟨[1], [3]⟩, ⟨[2, 3], [4]⟩]
 else [⟨[0], [1]⟩, ⟨[1], [2]⟩, ⟨[2], [3]⟩, ⟨[3], [4]⟩]
theorem vW {s : Sg} {b : List Int} {i : Nat} (h : b.getD i 0 % 4 = 1) : aP s b i = ao s b 2 (i + 1) 1 := if_pos h
theorem vX {s : Sg} {b : List Int} {i : Nat} (h : ¬b.getD i 0 % 4 = 1) : aP s b i = (gj, i + 1) := if_neg h
def qq (l : List Int) (n : Int) : Bool := !b4 (fun i => !decide (l.getD i 0 = n)) l.length
theorem xr {l : List Int} {n : Int} {i : Nat} (hi : i < l.length) (h : l.getD i 0 = n) : qq l n = true := by
 unfold qq; rw [dq hi (by rw [decide_eq_true h]; rfl)]; rfl
theorem AN {l : List Int} {n : Int} (h : ∀ i, i < l.length → ¬l.getD i 0 = n) : qq l n = false := by
 unfold qq; rw [aR.2 (fun i hi => by rw [decide_eq_false (h i hi)]; rfl)]; rfl
theorem uA {x w : Int} (h0 : 0 ≤ w) (h6 : w ≤ 62) : IntKind.wrap .i64 ((BitVec.ofInt (IntKind.i64).bits x &&& BitVec.ofInt (IntKind.i64).bits (aC w)).toNat : Int) = x % 2 ^ w.toNat := by
 rw [cI h0 h6]; exact kM (by omega)
theorem vY {s : Sg} {b : List Int} (hb : fP b) {d i : Nat} {w : Int} (hd : d ≤ 3) (h1 : 1 ≤ w) (h2 : w + d ≤ 8) : i ≤ (ao s b d i w).2 ∧ (ao s b d i w).2 ≤ i + 64 := by
 have h := (r7 (s := s) hb d i w hd h1 h2).2.2
 have : 4 ^ d ≤ 4 ^ 3 := Nat.pow_le_pow_right (by omega) hd
 omega
theorem sD {s : Sg} {b : List Int} (hb : fP b) {i : Nat} : i ≤ (aP s b i).2 ∧ (aP s b i).2 ≤ i + 100 := by
 unfold aP
 split
 ·have := vY (s := s) hb (d := 2) (i := i + 1) (w := 1) (by omega) (by omega) (by omega); omega
 ·simp only; omega
theorem vZ (y : Int) (k : Nat) : 1 ≤ bo y k ∧ bo y k ≤ 2 := by unfold bo; omega
theorem qM {b : List Int} (hb : fP b) (y : Int) (i : Nat) : ∀ k, i ≤ xq b y i k ∧ xq b y i k ≤ i + 100 * k
 | 0 => ⟨Nat.le_refl _, Nat.le_refl _⟩
 | k + 1 => by
  have h1 := qM hb y i k
  have h2 := sD (s := IY y) hb (i := xq b y i k)
  rw [xq]; omega
theorem qN {b : List Int} (hb : fP b) (y : Int) (n i : Nat) : ∀ k, i ≤ vV b y n i k ∧ vV b y n i k ≤ i + 100 * k
 | 0 => ⟨Nat.le_refl _, Nat.le_refl _⟩
 | k + 1 => by
  have h1 := qN hb y n i k
  have h3 := vZ y k
  have h2 := vY (s := xp y n) hb (d := 3) (i := vV b y n i k) (w := bo y k) (by omega) (by omega) (by omega)
  rw [vV]; omega
theorem v1 {b : List Int} (hb : fP b) (y : Int) (n i : Nat) : ∀ k, i ≤ sC b y n i k ∧ sC b y n i k ≤ i + 200 * k
 | 0 => ⟨Nat.le_refl _, Nat.le_refl _⟩
 | k + 1 => by
  have h1 := v1 hb y n i k
  have h3 := sD (s := xp y n) hb (i := sC b y n i k)
  have h2 := vY (s := xp y n) hb (d := 2) (i := (aP (xp y n) b (sC b y n i k)).2) (w := 2) (by omega) (by omega) (by omega)
  rw [sC]; omega
theorem v2 {y : Int} (h : 0 ≤ y) : (oU y : Int) = 1 + y / 2 % 2 ∧ oU y ≤ 2 := by unfold oU; omega
def tn (b : List Int) (l : List En) : Nat → Nat
 | 0 => 0
 | i + 1 => (bj b (tn b l i) (Hh i) (l.getD i cb)).2
def mK (b : List Int) (l : List En) (i : Nat) : Pr := (bj b (tn b l i) (Hh i) (l.getD i cb)).1
def JL (l : List Int) (a : Int) : Nat → Int
 | 0 => a
 | k + 1 => Hs (JL l a k) (l.getD k 0)
def oC (l : List En) : Nat → Int
 | 0 => 0
 | i + 1 => JL (l.getD i cb).puts (oC l i) (l.getD i cb).puts.length
def uB (l : List En) (n : Int) : Nat → Int
 | 0 => -1
 | i + 1 => if qq (l.getD i cb).takes n = true then (i : Int) else uB l n i
def uC (l : List En) (n : Int) : Nat → Int
 | 0 => -1
 | i + 1 => if qq (l.getD i cb).puts n = true then (i : Int) else uC l n i
def qO (sh : Int) (l : List En) (n : Nat) : Ch := ⟨Fb n, 2, if 0 ≤ uC l n l.length ∧ 0 ≤ uB l n l.length then 1 + (sh / 6 + n) % 3 else 0, uC l n l.length, uB l n l.length⟩
def jr (sh : Int) : Nat := (oC (ai sh) (ai sh).length).toNat + 1
def ay (sh : Int) (b : List Int) : Ci := ⟨tab (mK b (ai sh)) (ai sh).length, tab (qO sh (ai sh)) (jr sh)⟩
theorem j4 (sh : Int) : ai sh = [⟨[0], [1]⟩] ∨ ai sh = [⟨[0], [1]⟩, ⟨[1], [2]⟩] ∨ ai sh = [⟨[0], [1, 2]⟩, ⟨[1], [3]⟩, ⟨[2], [4]⟩] ∨ ai sh = [⟨[0, 2], [1]⟩, ⟨[1], [2, 3]⟩] ∨ ai sh = [⟨[0], [2]⟩, ⟨[1], [3]⟩, ⟨[2, 3], [4]⟩] ∨ ai sh = [⟨[0], [1]⟩, ⟨[1], [2]⟩, ⟨[2], [3]⟩, ⟨[3], [4]⟩] := by
 unfold ai
 split
 ·exact .inl rfl
 split
 ·exact .inr (.inl rfl)
 split
 ·exact .inr (.inr (.inl rfl))
 split
 ·exact .inr (.inr (.inr (.inl rfl)))
 split
 ·exact .inr (.inr (.inr (.inr (.inl rfl))))
 ·exact .inr (.inr (.inr (.inr (.inr rfl))))
theorem kV (sh : Int) : 1 ≤ (ai sh).length ∧ (ai sh).length ≤ 4 := by
 rcases j4 sh with h | h | h | h | h | h <;> rw [h] <;> decide
theorem lQ (sh : Int) (i : Nat) : ((ai sh).getD i cb).takes.length ≤ 2 ∧ ((ai sh).getD i cb).puts.length ≤ 2 := by
 have key : ∀ e ∈ ai sh, e.takes.length ≤ 2 ∧ e.puts.length ≤ 2 := by
  rcases j4 sh with h | h | h | h | h | h <;> rw [h] <;> simp
 by_cases hi : i < (ai sh).length
 ·rw [bC _ _ hi]; exact key _ (List.getElem_mem hi)
 ·rw [List.getD, List.getElem?_eq_none (by omega)]; decide
theorem AO (sh : Int) : 0 ≤ oC (ai sh) (ai sh).length ∧ oC (ai sh) (ai sh).length ≤ 4 := by
 rcases j4 sh with h | h | h | h | h | h <;> rw [h] <;> decide
theorem y9 (sh : Int) : (jr sh : Int) = oC (ai sh) (ai sh).length + 1 ∧ jr sh ≤ 5 := by
 have := AO sh; unfold jr; omega
theorem AP {b : List Int} (hb : fP b) (sh : Int) : ∀ i, tn b (ai sh) i ≤ 1000 * i
 | 0 => Nat.le_refl _
 | i + 1 => by
  have h1 := AP hb sh i
  have he := lQ sh i
  rw [tn]
  unfold bj
  simp only
  generalize tn b (ai sh) i = p at *
  generalize (ai sh).getD i cb = e at *
  have hy := bW hb p
  have hn := v2 hy.1
  have a1 : p + 1 ≤ kU b p e ∧ kU b p e ≤ p + 1 + 100 * e.takes.length := qM hb (b.getD p 0) (p + 1) e.takes.length
  have a2 : kU b p e ≤ ky b p e ∧ ky b p e ≤ kU b p e + 100 * oU (b.getD p 0) := qN hb (b.getD p 0) e.takes.length (kU b p e) (oU (b.getD p 0))
  have a3 := v1 hb (b.getD p 0) e.takes.length (ky b p e) e.puts.length
  omega
theorem Ej (l : List En) (n : Int) : ∀ i, -1 ≤ uB l n i ∧ uB l n i < i
 | 0 => by simp [uB]
 | i + 1 => by have := Ej l n i; rw [uB]; split <;> omega
theorem Ek (l : List En) (n : Int) : ∀ i, -1 ≤ uC l n i ∧ uC l n i < i
 | 0 => by simp [uC]
 | i + 1 => by have := Ek l n i; rw [uC]; split <;> omega
theorem Hi {x : Int} (h0 : 0 ≤ x) (h1 : x ≤ 255) : IntKind.wrap .u8 x = x := Ky rfl h0 h1
def qP (b : List Int) (i : Nat) : Nat := (b.getD i 0 % 7).toNat
def tp (b : List Int) (i : Nat) (w : Int) (k : Nat) : Int := b.getD (i + (1 + k)) 0 % 2 ^ w.toNat
def sZ (c : Ci) (b : List Int) : Nat → Ns × Nat
 | 0 => (dF c, 0)
 | i + 1 => if 0 ≤ (d9 c i).frm then sZ c b i else (gu (sZ c b i).1 i (tab (tp b (sZ c b i).2 (d9 c i).w) (qP b (sZ c b i).2)), (sZ c b i).2 + (1 + qP b (sZ c b i).2))
def bG (c : Ci) (b : List Int) : Ns := (sZ c b c.chans.length).1
theorem El {b : List Int} (hb : fP b) (i : Nat) : qP b i ≤ 6 ∧ (qP b i : Int) = b.getD i 0 % 7 := by
 have := bW hb i; unfold qP; omega
theorem Em {c : Ci} {b : List Int} {i : Nat} (h : 0 ≤ (d9 c i).frm) : sZ c b (i + 1) = sZ c b i := by rw [sZ, if_pos h]
theorem za {c : Ci} {b : List Int} {i : Nat} (h : ¬0 ≤ (d9 c i).frm) : sZ c b (i + 1) = (gu (sZ c b i).1 i (tab (tp b (sZ c b i).2 (d9 c i).w) (qP b (sZ c b i).2)), (sZ c b i).2 + (1 + qP b (sZ c b i).2)) := by rw [sZ, if_neg h]
def b8 (c : Ci) (s : Ns) (l : List Int) : Ns := l.foldl (fun u k => cF c u (ti (k % c.procs.length))) s
theorem B4 {c : Ci} {s : Ns} {l : List Int} {i : Nat} (h : i < l.length) : b8 c s (l.take (i + 1)) = cF c (b8 c s (l.take i)) (ti (l.getD i 0 % c.procs.length)) := by
 unfold b8
 rw [List.take_succ_eq_append_getElem h, List.foldl_append]
 simp [List.getD, List.getElem?_eq_getElem h]
theorem K0 {x : Int} (h0 : 0 ≤ x) (h1 : x ≤ 255) : IntKind.wrap .u8 (Int.tdiv x 6) = x / 6 := by
 rw [Int.tdiv_eq_ediv_of_nonneg h0]; exact Hi (by omega) (by omega)
theorem Eo {sh : Int} {l : List En} {n : Nat} {fr to : Int} (h1 : 0 ≤ uC l n l.length) (h2 : 0 ≤ uB l n l.length) (h3 : fr = uC l n l.length) (h4 : to = uB l n l.length) : (⟨Fb n, 2, 1 + (sh / 6 + n) % 3, fr, to⟩ : Ch) = qO sh l n := by
 unfold qO; rw [if_pos ⟨h1, h2⟩, h3, h4]
theorem Ep {sh : Int} {l : List En} {n : Nat} {fr to : Int} (h : ¬(0 ≤ uC l n l.length ∧ 0 ≤ uB l n l.length)) (h3 : fr = uC l n l.length) (h4 : to = uB l n l.length) : (⟨Fb n, 2, 0, fr, to⟩ : Ch) = qO sh l n := by
 unfold qO; rw [if_neg h, h3, h4]
end Go.Proofs.Ytnlmlkbaflmgcaa
