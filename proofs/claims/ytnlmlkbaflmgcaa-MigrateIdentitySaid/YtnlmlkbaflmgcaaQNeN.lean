/-
  Made circuits, plain data.
-/
import Derived.Test.YtnlmlkbaflmgcaaQNeK
namespace Go.Proofs.Ytnlmlkbaflmgcaa
open Go.RowKit
set_option linter.unusedVariables false
set_option linter.unusedSimpArgs false
structure En where
 takes : List Int
 puts : List Int
def oB (e : En) : List V := [.sl 1 (aa .i64) 0 e.takes, .sl 1 (aa .i64) 0 e.puts]
abbrev cb : En := ⟨[], []⟩
def gk : Ex := ⟨1, e0, ⟨1, e0⟩, ⟨1, e0⟩, []⟩
def aP (s : Sg) (b : List Int) (i : Nat) : Ex × Nat := if b.getD i 0 % 4 = 1 then ao s b 2 (i + 1) 1 else (gk, i + 1)
def L0 : ByteArray := bs [97]
def L1 : ByteArray := bs [98]
def KZ (k : Nat) : ByteArray := [bs [114], bs [115]].getD k e0
def Hi (k : Nat) : ByteArray := [bs [112], bs [113], bs [117], bs [118]].getD k e0
def Fc (k : Nat) : ByteArray := [bs [99, 48], bs [99, 49], bs [99, 50], bs [99, 51], bs [99, 52]].getD k e0
def bo (y : Int) (k : Nat) : Int := 1 + (y / 4 + k) % 2
def oU (y : Int) : Nat := (1 + y / 2 % 2).toNat
def IY (y : Int) : List Int := tab (bo y) (oU y)
def IZ (y : Int) : Sg := ⟨IY y, [], [], false⟩
def xp (y : Int) (n : Nat) : Sg := ⟨IY y, List.replicate n 2, [], true⟩
def sB (y : Int) (k : Nat) : Rg := ⟨KZ k, bo y k, y / 8 % 2 ^ (bo y k).toNat, dE, ⟨[1, 1, 0].getD (y / 16 % 3).toNat 0, e0, 0⟩⟩
def xq (b : List Int) (y : Int) (i : Nat) : Nat → Nat
 | 0 => i
 | k + 1 => (aP (IZ y) b (xq b y i k)).2
def vV (b : List Int) (y : Int) (n : Nat) (i : Nat) : Nat → Nat
 | 0 => i
 | k + 1 => (ao (xp y n) b 3 (vV b y n i k) (bo y k)).2
def sC (b : List Int) (y : Int) (n : Nat) (i : Nat) : Nat → Nat
 | 0 => i
 | k + 1 => (ao (xp y n) b 2 (aP (xp y n) b (sC b y n i k)).2 2).2
def Cr (b : List Int) (y : Int) (i : Nat) (e : En) (k : Nat) : Tk := ⟨e.takes.getD k 0, 2, (aP (IZ y) b (xq b y i k)).1⟩
def JL (b : List Int) (y : Int) (n i k : Nat) : Rg := { sB y k with next := (ao (xp y n) b 3 (vV b y n i k) (bo y k)).1 }
def Fd (b : List Int) (y : Int) (n i : Nat) (e : En) (k : Nat) : Pt := ⟨e.puts.getD k 0, 2, (aP (xp y n) b (sC b y n i k)).1, (ao (xp y n) b 2 (aP (xp y n) b (sC b y n i k)).2 2).1⟩
def K0 (y : Int) : ByteArray := [L0, L1].getD (y % 2).toNat e0
def kU (b : List Int) (i : Nat) (e : En) : Nat := xq b (b.getD i 0) (i + 1) e.takes.length
def kz (b : List Int) (i : Nat) (e : En) : Nat := vV b (b.getD i 0) e.takes.length (kU b i e) (oU (b.getD i 0))
def bj (b : List Int) (i : Nat) (nm : ByteArray) (e : En) : Pr × Nat :=
 (⟨nm, K0 (b.getD i 0), tab (JL b (b.getD i 0) e.takes.length (kU b i e)) (oU (b.getD i 0)), [], tab (Cr b (b.getD i 0) (i + 1) e) e.takes.length, tab (Fd b (b.getD i 0) e.takes.length (kz b i e) e) e.puts.length⟩,
  sC b (b.getD i 0) e.takes.length (kz b i e) e.puts.length)
def ai (s : Int) : List En :=
 if s % 6 = 0 then [⟨[0], [1]⟩]
 else if s % 6 = 1 then [⟨[0], [1]⟩, ⟨[1], [2]⟩]
 else if s % 6 = 2 then [⟨[0], [1, 2]⟩, ⟨[1], [3]⟩, ⟨[2], [4]⟩]
 else if s % 6 = 3 then [⟨[0, 2], [1]⟩, ⟨[1], [2, 3]⟩]
 else if s % 6 = 4 then [⟨[0], [2]⟩, ⟨[1], [3]⟩, ⟨[2, 3], [4]⟩]
 else [⟨[0], [1]⟩, ⟨[1], [2]⟩, ⟨[2], [3]⟩, ⟨[3], [4]⟩]
theorem vW {s : Sg} {b : List Int} {i : Nat} (h : b.getD i 0 % 4 = 1) : aP s b i = ao s b 2 (i + 1) 1 := if_pos h
theorem vX {s : Sg} {b : List Int} {i : Nat} (h : ¬b.getD i 0 % 4 = 1) : aP s b i = (gk, i + 1) := if_neg h
def qr (l : List Int) (n : Int) : Bool := !b4 (fun i => !decide (l.getD i 0 = n)) l.length
theorem xr {l : List Int} {n : Int} {i : Nat} (hi : i < l.length) (h : l.getD i 0 = n) : qr l n = true := by
 unfold qr; rw [dq hi (by rw [decide_eq_true h]; rfl)]; rfl
theorem AO {l : List Int} {n : Int} (h : ∀ i, i < l.length → ¬l.getD i 0 = n) : qr l n = false := by
 unfold qr; rw [aR.2 (fun i hi => by rw [decide_eq_false (h i hi)]; rfl)]; rfl
theorem uA {x w : Int} (h0 : 0 ≤ w) (h6 : w ≤ 62) : IntKind.wrap .i64 ((BitVec.ofInt (IntKind.i64).bits x &&& BitVec.ofInt (IntKind.i64).bits (aC w)).toNat : Int) = x % 2 ^ w.toNat := by
 rw [cI h0 h6]; exact kM (by omega)
theorem vY {s : Sg} {b : List Int} (hb : fQ b) {d i : Nat} {w : Int} (hd : d ≤ 3) (h1 : 1 ≤ w) (h2 : w + d ≤ 8) : i ≤ (ao s b d i w).2 ∧ (ao s b d i w).2 ≤ i + 64 := by
 have h := (r7 (s := s) hb d i w hd h1 h2).2.2
 have : 4 ^ d ≤ 4 ^ 3 := Nat.pow_le_pow_right (by omega) hd
 omega
theorem sD {s : Sg} {b : List Int} (hb : fQ b) {i : Nat} : i ≤ (aP s b i).2 ∧ (aP s b i).2 ≤ i + 100 := by
 unfold aP
 split
 ·have := vY (s := s) hb (d := 2) (i := i + 1) (w := 1) (by omega) (by omega) (by omega); omega
 ·simp only; omega
theorem vZ (y : Int) (k : Nat) : 1 ≤ bo y k ∧ bo y k ≤ 2 := by unfold bo; omega
theorem qN {b : List Int} (hb : fQ b) (y : Int) (i : Nat) : ∀ k, i ≤ xq b y i k ∧ xq b y i k ≤ i + 100 * k
 | 0 => ⟨Nat.le_refl _, Nat.le_refl _⟩
 | k + 1 => by
  have h1 := qN hb y i k
  have h2 := sD (s := IZ y) hb (i := xq b y i k)
  rw [xq]; omega
theorem qO {b : List Int} (hb : fQ b) (y : Int) (n i : Nat) : ∀ k, i ≤ vV b y n i k ∧ vV b y n i k ≤ i + 100 * k
 | 0 => ⟨Nat.le_refl _, Nat.le_refl _⟩
 | k + 1 => by
  have h1 := qO hb y n i k
  have h3 := vZ y k
  have h2 := vY (s := xp y n) hb (d := 3) (i := vV b y n i k) (w := bo y k) (by omega) (by omega) (by omega)
  rw [vV]; omega
theorem v1 {b : List Int} (hb : fQ b) (y : Int) (n i : Nat) : ∀ k, i ≤ sC b y n i k ∧ sC b y n i k ≤ i + 200 * k
 | 0 => ⟨Nat.le_refl _, Nat.le_refl _⟩
 | k + 1 => by
  have h1 := v1 hb y n i k
  have h3 := sD (s := xp y n) hb (i := sC b y n i k)
  have h2 := vY (s := xp y n) hb (d := 2) (i := (aP (xp y n) b (sC b y n i k)).2) (w := 2) (by omega) (by omega) (by omega)
  rw [sC]; omega
theorem v2 {y : Int} (h : 0 ≤ y) : (oU y : Int) = 1 + y / 2 % 2 ∧ oU y ≤ 2 := by unfold oU; omega
def tn (b : List Int) (l : List En) : Nat → Nat
 | 0 => 0
 | i + 1 => (bj b (tn b l i) (Hi i) (l.getD i cb)).2
def mK (b : List Int) (l : List En) (i : Nat) : Pr := (bj b (tn b l i) (Hi i) (l.getD i cb)).1
def JM (l : List Int) (a : Int) : Nat → Int
 | 0 => a
 | k + 1 => Ht (JM l a k) (l.getD k 0)
def oC (l : List En) : Nat → Int
 | 0 => 0
 | i + 1 => JM (l.getD i cb).puts (oC l i) (l.getD i cb).puts.length
def uB (l : List En) (n : Int) : Nat → Int
 | 0 => -1
 | i + 1 => if qr (l.getD i cb).takes n = true then (i : Int) else uB l n i
def uC (l : List En) (n : Int) : Nat → Int
 | 0 => -1
 | i + 1 => if qr (l.getD i cb).puts n = true then (i : Int) else uC l n i
def qP (sh : Int) (l : List En) (n : Nat) : Ch := ⟨Fc n, 2, if 0 ≤ uC l n l.length ∧ 0 ≤ uB l n l.length then 1 + (sh / 6 + n) % 3 else 0, uC l n l.length, uB l n l.length⟩
def jr (sh : Int) : Nat := (oC (ai sh) (ai sh).length).toNat + 1
def ay (sh : Int) (b : List Int) : Ci := ⟨tab (mK b (ai sh)) (ai sh).length, tab (qP sh (ai sh)) (jr sh)⟩
theorem j5 (sh : Int) : ai sh = [⟨[0], [1]⟩] ∨ ai sh = [⟨[0], [1]⟩, ⟨[1], [2]⟩] ∨ ai sh = [⟨[0], [1, 2]⟩, ⟨[1], [3]⟩, ⟨[2], [4]⟩] ∨ ai sh = [⟨[0, 2], [1]⟩, ⟨[1], [2, 3]⟩] ∨ ai sh = [⟨[0], [2]⟩, ⟨[1], [3]⟩, ⟨[2, 3], [4]⟩] ∨ ai sh = [⟨[0], [1]⟩, ⟨[1], [2]⟩, ⟨[2], [3]⟩, ⟨[3], [4]⟩] := by
 unfold ai
 split
 ·exact .inl rfl
 split
 ·exact .inr (.inl rfl)
 split
 ·exact .inr (.inr (.inl rfl))
 split
 ·exact .inr (.inr (.inr (.inl rfl)))
 split
 ·exact .inr (.inr (.inr (.inr (.inl rfl))))
 ·exact .inr (.inr (.inr (.inr (.inr rfl))))
theorem kV (sh : Int) : 1 ≤ (ai sh).length ∧ (ai sh).length ≤ 4 := by
 rcases j5 sh with h | h | h | h | h | h <;> rw [h] <;> decide
theorem lQ (sh : Int) (i : Nat) : ((ai sh).getD i cb).takes.length ≤ 2 ∧ ((ai sh).getD i cb).puts.length ≤ 2 := by
 have key : ∀ e ∈ ai sh, e.takes.length ≤ 2 ∧ e.puts.length ≤ 2 := by
  rcases j5 sh with h | h | h | h | h | h <;> rw [h] <;> simp
 by_cases hi : i < (ai sh).length
 ·rw [bC _ _ hi]; exact key _ (List.getElem_mem hi)
 ·rw [List.getD, List.getElem?_eq_none (by omega)]; decide
theorem AP (sh : Int) : 0 ≤ oC (ai sh) (ai sh).length ∧ oC (ai sh) (ai sh).length ≤ 4 := by
 rcases j5 sh with h | h | h | h | h | h <;> rw [h] <;> decide
theorem za (sh : Int) : (jr sh : Int) = oC (ai sh) (ai sh).length + 1 ∧ jr sh ≤ 5 := by
 have := AP sh; unfold jr; omega
theorem AQ {b : List Int} (hb : fQ b) (sh : Int) : ∀ i, tn b (ai sh) i ≤ 1000 * i
 | 0 => Nat.le_refl _
 | i + 1 => by
  have h1 := AQ hb sh i
  have he := lQ sh i
  rw [tn]
  unfold bj
  simp only
  generalize tn b (ai sh) i = p at *
  generalize (ai sh).getD i cb = e at *
  have hy := bW hb p
  have hn := v2 hy.1
  have a1 : p + 1 ≤ kU b p e ∧ kU b p e ≤ p + 1 + 100 * e.takes.length := qN hb (b.getD p 0) (p + 1) e.takes.length
  have a2 : kU b p e ≤ kz b p e ∧ kz b p e ≤ kU b p e + 100 * oU (b.getD p 0) := qO hb (b.getD p 0) e.takes.length (kU b p e) (oU (b.getD p 0))
  have a3 := v1 hb (b.getD p 0) e.takes.length (kz b p e) e.puts.length
  omega
theorem Ek (l : List En) (n : Int) : ∀ i, -1 ≤ uB l n i ∧ uB l n i < i
 | 0 => by simp [uB]
 | i + 1 => by have := Ek l n i; rw [uB]; split <;> omega
theorem El (l : List En) (n : Int) : ∀ i, -1 ≤ uC l n i ∧ uC l n i < i
 | 0 => by simp [uC]
 | i + 1 => by have := El l n i; rw [uC]; split <;> omega
theorem Hj {x : Int} (h0 : 0 ≤ x) (h1 : x ≤ 255) : IntKind.wrap .u8 x = x := Kz rfl h0 h1
def qQ (b : List Int) (i : Nat) : Nat := (b.getD i 0 % 7).toNat
def tp (b : List Int) (i : Nat) (w : Int) (k : Nat) : Int := b.getD (i + (1 + k)) 0 % 2 ^ w.toNat
def sZ (c : Ci) (b : List Int) : Nat → Ns × Nat
 | 0 => (dF c, 0)
 | i + 1 => if 0 ≤ (d9 c i).frm then sZ c b i else (gv (sZ c b i).1 i (tab (tp b (sZ c b i).2 (d9 c i).w) (qQ b (sZ c b i).2)), (sZ c b i).2 + (1 + qQ b (sZ c b i).2))
def bG (c : Ci) (b : List Int) : Ns := (sZ c b c.chans.length).1
theorem Em {b : List Int} (hb : fQ b) (i : Nat) : qQ b i ≤ 6 ∧ (qQ b i : Int) = b.getD i 0 % 7 := by
 have := bW hb i; unfold qQ; omega
theorem Eo {c : Ci} {b : List Int} {i : Nat} (h : 0 ≤ (d9 c i).frm) : sZ c b (i + 1) = sZ c b i := by rw [sZ, if_pos h]
theorem zb {c : Ci} {b : List Int} {i : Nat} (h : ¬0 ≤ (d9 c i).frm) : sZ c b (i + 1) = (gv (sZ c b i).1 i (tab (tp b (sZ c b i).2 (d9 c i).w) (qQ b (sZ c b i).2)), (sZ c b i).2 + (1 + qQ b (sZ c b i).2)) := by rw [sZ, if_neg h]
def b8 (c : Ci) (s : Ns) (l : List Int) : Ns := l.foldl (fun u k => cF c u (ti (k % c.procs.length))) s
theorem B5 {c : Ci} {s : Ns} {l : List Int} {i : Nat} (h : i < l.length) : b8 c s (l.take (i + 1)) = cF c (b8 c s (l.take i)) (ti (l.getD i 0 % c.procs.length)) := by
 unfold b8
 rw [List.take_succ_eq_append_getElem h, List.foldl_append]
 simp [List.getD, List.getElem?_eq_getElem h]
theorem K1 {x : Int} (h0 : 0 ≤ x) (h1 : x ≤ 255) : IntKind.wrap .u8 (Int.tdiv x 6) = x / 6 := by
 rw [Int.tdiv_eq_ediv_of_nonneg h0]; exact Hj (by omega) (by omega)
theorem Ep {sh : Int} {l : List En} {n : Nat} {fr to : Int} (h1 : 0 ≤ uC l n l.length) (h2 : 0 ≤ uB l n l.length) (h3 : fr = uC l n l.length) (h4 : to = uB l n l.length) : (⟨Fc n, 2, 1 + (sh / 6 + n) % 3, fr, to⟩ : Ch) = qP sh l n := by
 unfold qP; rw [if_pos ⟨h1, h2⟩, h3, h4]
theorem Er {sh : Int} {l : List En} {n : Nat} {fr to : Int} (h : ¬(0 ≤ uC l n l.length ∧ 0 ≤ uB l n l.length)) (h3 : fr = uC l n l.length) (h4 : to = uB l n l.length) : (⟨Fc n, 2, 0, fr, to⟩ : Ch) = qP sh l n := by
 unfold qP; rw [if_neg h, h3, h4]
end Go.Proofs.Ytnlmlkbaflmgcaa
