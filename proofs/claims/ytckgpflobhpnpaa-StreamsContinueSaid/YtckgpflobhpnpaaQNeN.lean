/-
  Made circuits, plain data.
-/
import Derived.Test.YtckgpflobhpnpaaQNeH
namespace Go.Proofs.Ytckgpflobhpnpaa
open Go.RowKit
set_option linter.unusedVariables false
set_option linter.unusedSimpArgs false
structure En where
 takes : List Int
 puts : List Int
def qT (e : En) : List V := [.sl 1 (aa .i64) 0 e.takes, .sl 1 (aa .i64) 0 e.puts]
abbrev co : En := ⟨[], []⟩
def fu : Ex := ⟨1, e0, ⟨1, e0⟩, ⟨1, e0⟩, []⟩
def aM (s : Sg) (b : List Int) (i : Nat) : Ex × Nat := if b.getD i 0 % 4 = 1 then ak s b 2 (i + 1) 1 else (fu, i + 1)
def Oi : ByteArray := bs [97]
def Oj : ByteArray := bs [98]
def Ok (k : Nat) : ByteArray := [bs [114], bs [115]].getD k e0
def NR (k : Nat) : ByteArray := [bs [112], bs [113], bs [117], bs [118]].getD k e0
def Nk (k : Nat) : ByteArray := [bs [99, 48], bs [99, 49], bs [99, 50], bs [99, 51], bs [99, 52]].getD k e0
def bw (y : Int) (k : Nat) : Int := 1 + (y / 4 + k) % 2
def r9 (y : Int) : Nat := (1 + y / 2 % 2).toNat
def K0 (y : Int) : List Int := tab (bw y) (r9 y)
def K1 (y : Int) : Sg := ⟨K0 y, [], [], false⟩
def zD (y : Int) (n : Nat) : Sg := ⟨K0 y, List.replicate n 2, [], true⟩
def u6 (y : Int) (k : Nat) : Rg := ⟨Ok k, bw y k, y / 8 % 2 ^ (bw y k).toNat, dE, ⟨[1, 1, 0].getD (y / 16 % 3).toNat 0, e0, 0⟩⟩
def zE (b : List Int) (y : Int) (i : Nat) : Nat → Nat
 | 0 => i
 | k + 1 => (aM (K1 y) b (zE b y i k)).2
def x4 (b : List Int) (y : Int) (n : Nat) (i : Nat) : Nat → Nat
 | 0 => i
 | k + 1 => (ak (zD y n) b 3 (x4 b y n i k) (bw y k)).2
def u7 (b : List Int) (y : Int) (n : Nat) (i : Nat) : Nat → Nat
 | 0 => i
 | k + 1 => (ak (zD y n) b 2 (aM (zD y n) b (u7 b y n i k)).2 2).2
def EB (b : List Int) (y : Int) (i : Nat) (e : En) (k : Nat) : Tk := ⟨e.takes.getD k 0, 2, (aM (K1 y) b (zE b y i k)).1⟩
def Nl (b : List Int) (y : Int) (n i k : Nat) : Rg := { u6 y k with next := (ak (zD y n) b 3 (x4 b y n i k) (bw y k)).1 }
def Hp (b : List Int) (y : Int) (n i : Nat) (e : En) (k : Nat) : Pt := ⟨e.puts.getD k 0, 2, (aM (zD y n) b (u7 b y n i k)).1, (ak (zD y n) b 2 (aM (zD y n) b (u7 b y n i k)).2 2).1⟩
def Nn (y : Int) : ByteArray := [Oi, Oj].getD (y % 2).toNat e0
def mJ (b : List Int) (i : Nat) (e : En) : Nat := zE b (b.getD i 0) (i + 1) e.takes.length
def lO (b : List Int) (i : Nat) (e : En) : Nat := x4 b (b.getD i 0) e.takes.length (mJ b i e) (r9 (b.getD i 0))
def bn (b : List Int) (i : Nat) (nm : ByteArray) (e : En) : Pr × Nat :=
 (⟨nm, Nn (b.getD i 0), tab (Nl b (b.getD i 0) e.takes.length (mJ b i e)) (r9 (b.getD i 0)), [], tab (EB b (b.getD i 0) (i + 1) e) e.takes.length, tab (Hp b (b.getD i 0) e.takes.length (lO b i e) e) e.puts.length⟩,
  u7 b (b.getD i 0) e.takes.length (lO b i e) e.puts.length)
def ah (s : Int) : List En :=
 if s % 6 = 0 then [⟨[0], [1]⟩]
 else if s % 6 = 1 then [⟨[0], [1]⟩, ⟨[1], [2]⟩]
 else if s % 6 = 2 then [⟨[0], [1, 2]⟩, ⟨[1], [3]⟩, ⟨[2], [4]⟩]
 else if s % 6 = 3 then [⟨[0, 2], [1]⟩, ⟨[1], [2, 3]⟩]
 else if s % 6 = 4 then [⟨[0], [2]⟩, ⟨[1], [3]⟩, ⟨[2, 3], [4]⟩]
 else [⟨[0], [1]⟩, ⟨[1], [2]⟩, ⟨[2], [3]⟩, ⟨[3], [4]⟩]
theorem x5 {s : Sg} {b : List Int} {i : Nat} (h : b.getD i 0 % 4 = 1) : aM s b i = ak s b 2 (i + 1) 1 := if_pos h
theorem x6 {s : Sg} {b : List Int} {i : Nat} (h : ¬b.getD i 0 % 4 = 1) : aM s b i = (fu, i + 1) := if_neg h
def s6 (l : List Int) (n : Int) : Bool := !dT (fun i => !decide (l.getD i 0 = n)) l.length
theorem zF {l : List Int} {n : Int} {i : Nat} (hi : i < l.length) (h : l.getD i 0 = n) : s6 l n = true := by
 unfold s6; rw [qC hi (by rw [decide_eq_true h]; rfl)]; rfl
theorem CY {l : List Int} {n : Int} (h : ∀ i, i < l.length → ¬l.getD i 0 = n) : s6 l n = false := by
 unfold s6; rw [cH.2 (fun i hi => by rw [decide_eq_false (h i hi)]; rfl)]; rfl
theorem wP {x w : Int} (h0 : 0 ≤ w) (h6 : w ≤ 62) : IntKind.wrap .i64 ((BitVec.ofInt (IntKind.i64).bits x &&& BitVec.ofInt (IntKind.i64).bits (an w)).toNat : Int) = x % 2 ^ w.toNat := by
 rw [dQ h0 h6]; exact mf (by omega)
theorem x7 {s : Sg} {b : List Int} (hb : lL b) {d i : Nat} {w : Int} (hd : d ≤ 3) (h1 : 1 ≤ w) (h2 : w + d ≤ 8) : i ≤ (ak s b d i w).2 ∧ (ak s b d i w).2 ≤ i + 64 := by
 have h := (uR (s := s) hb d i w hd h1 h2).2.2
 have : 4 ^ d ≤ 4 ^ 3 := Nat.pow_le_pow_right (by omega) hd
 omega
theorem u9 {s : Sg} {b : List Int} (hb : lL b) {i : Nat} : i ≤ (aM s b i).2 ∧ (aM s b i).2 ≤ i + 100 := by
 unfold aM
 split
 ·have := x7 (s := s) hb (d := 2) (i := i + 1) (w := 1) (by omega) (by omega) (by omega); omega
 ·simp only; omega
theorem x8 (y : Int) (k : Nat) : 1 ≤ bw y k ∧ bw y k ≤ 2 := by unfold bw; omega
theorem tE {b : List Int} (hb : lL b) (y : Int) (i : Nat) : ∀ k, i ≤ zE b y i k ∧ zE b y i k ≤ i + 100 * k
 | 0 => ⟨Nat.le_refl _, Nat.le_refl _⟩
 | k + 1 => by
  have h1 := tE hb y i k
  have h2 := u9 (s := K1 y) hb (i := zE b y i k)
  rw [zE]; omega
theorem tF {b : List Int} (hb : lL b) (y : Int) (n i : Nat) : ∀ k, i ≤ x4 b y n i k ∧ x4 b y n i k ≤ i + 100 * k
 | 0 => ⟨Nat.le_refl _, Nat.le_refl _⟩
 | k + 1 => by
  have h1 := tF hb y n i k
  have h3 := x8 y k
  have h2 := x7 (s := zD y n) hb (d := 3) (i := x4 b y n i k) (w := bw y k) (by omega) (by omega) (by omega)
  rw [x4]; omega
theorem x9 {b : List Int} (hb : lL b) (y : Int) (n i : Nat) : ∀ k, i ≤ u7 b y n i k ∧ u7 b y n i k ≤ i + 200 * k
 | 0 => ⟨Nat.le_refl _, Nat.le_refl _⟩
 | k + 1 => by
  have h1 := x9 hb y n i k
  have h3 := u9 (s := zD y n) hb (i := u7 b y n i k)
  have h2 := x7 (s := zD y n) hb (d := 2) (i := (aM (zD y n) b (u7 b y n i k)).2) (w := 2) (by omega) (by omega) (by omega)
  rw [u7]; omega
theorem Bj {y : Int} (h : 0 ≤ y) : (r9 y : Int) = 1 + y / 2 % 2 ∧ r9 y ≤ 2 := by unfold r9; omega
def Ek (b : List Int) (l : List En) : Nat → Nat
 | 0 => 0
 | i + 1 => (bn b (Ek b l i) (NR i) (l.getD i co)).2
def rn (b : List Int) (l : List En) (i : Nat) : Pr := (bn b (Ek b l i) (NR i) (l.getD i co)).1
def LU (l : List Int) (a : Int) : Nat → Int
 | 0 => a
 | k + 1 => JG (LU l a k) (l.getD k 0)
def qU (l : List En) : Nat → Int
 | 0 => 0
 | i + 1 => LU (l.getD i co).puts (qU l i) (l.getD i co).puts.length
def yD (l : List En) (n : Int) : Nat → Int
 | 0 => -1
 | i + 1 => if s6 (l.getD i co).takes n = true then (i : Int) else yD l n i
def yE (l : List En) (n : Int) : Nat → Int
 | 0 => -1
 | i + 1 => if s6 (l.getD i co).puts n = true then (i : Int) else yE l n i
def vd (sh : Int) (l : List En) (n : Nat) : Ch := ⟨Nk n, 2, if 0 ≤ yE l n l.length ∧ 0 ≤ yD l n l.length then 1 + (sh / 6 + n) % 3 else 0, yE l n l.length, yD l n l.length⟩
def j5 (sh : Int) : Nat := (qU (ah sh) (ah sh).length).toNat + 1
def ae (sh : Int) (b : List Int) : Ci := ⟨tab (rn b (ah sh)) (ah sh).length, tab (vd sh (ah sh)) (j5 sh)⟩
theorem iO (sh : Int) : ah sh = [⟨[0], [1]⟩] ∨ ah sh = [⟨[0], [1]⟩, ⟨[1], [2]⟩] ∨ ah sh = [⟨[0], [1, 2]⟩, ⟨[1], [3]⟩, ⟨[2], [4]⟩] ∨ ah sh = [⟨[0, 2], [1]⟩, ⟨[1], [2, 3]⟩] ∨ ah sh = [⟨[0], [2]⟩, ⟨[1], [3]⟩, ⟨[2, 3], [4]⟩] ∨ ah sh = [⟨[0], [1]⟩, ⟨[1], [2]⟩, ⟨[2], [3]⟩, ⟨[3], [4]⟩] := by
 unfold ah
 split
 ·exact .inl rfl
 split
 ·exact .inr (.inl rfl)
 split
 ·exact .inr (.inr (.inl rfl))
 split
 ·exact .inr (.inr (.inr (.inl rfl)))
 split
 ·exact .inr (.inr (.inr (.inr (.inl rfl))))
 ·exact .inr (.inr (.inr (.inr (.inr rfl))))
theorem zG (sh : Int) : 1 ≤ (ah sh).length ∧ (ah sh).length ≤ 4 := by
 rcases iO sh with h | h | h | h | h | h <;> rw [h] <;> decide
theorem nM (sh : Int) (i : Nat) : ((ah sh).getD i co).takes.length ≤ 2 ∧ ((ah sh).getD i co).puts.length ≤ 2 := by
 have key : ∀ e ∈ ah sh, e.takes.length ≤ 2 ∧ e.puts.length ≤ 2 := by
  rcases iO sh with h | h | h | h | h | h <;> rw [h] <;> simp
 by_cases hi : i < (ah sh).length
 ·rw [d9 _ _ hi]; exact key _ (List.getElem_mem hi)
 ·rw [List.getD, List.getElem?_eq_none (by omega)]; decide
theorem CZ (sh : Int) : 0 ≤ qU (ah sh) (ah sh).length ∧ qU (ah sh) (ah sh).length ≤ 4 := by
 rcases iO sh with h | h | h | h | h | h <;> rw [h] <;> decide
theorem Gq (sh : Int) : (j5 sh : Int) = qU (ah sh) (ah sh).length + 1 ∧ j5 sh ≤ 5 := by
 have := CZ sh; unfold j5; omega
theorem C0 {b : List Int} (hb : lL b) (sh : Int) : ∀ i, Ek b (ah sh) i ≤ 1000 * i
 | 0 => Nat.le_refl _
 | i + 1 => by
  have h1 := C0 hb sh i
  have he := nM sh i
  rw [Ek]
  unfold bn
  simp only
  generalize Ek b (ah sh) i = p at *
  generalize (ah sh).getD i co = e at *
  have hy := eh hb p
  have hn := Bj hy.1
  have a1 : p + 1 ≤ mJ b p e ∧ mJ b p e ≤ p + 1 + 100 * e.takes.length := tE hb (b.getD p 0) (p + 1) e.takes.length
  have a2 : mJ b p e ≤ lO b p e ∧ lO b p e ≤ mJ b p e + 100 * r9 (b.getD p 0) := tF hb (b.getD p 0) e.takes.length (mJ b p e) (r9 (b.getD p 0))
  have a3 := x9 hb (b.getD p 0) e.takes.length (lO b p e) e.puts.length
  omega
theorem Gr (l : List En) (n : Int) : ∀ i, -1 ≤ yD l n i ∧ yD l n i < i
 | 0 => by simp [yD]
 | i + 1 => by have := Gr l n i; rw [yD]; split <;> omega
theorem Bk (l : List En) (n : Int) : ∀ i, -1 ≤ yE l n i ∧ yE l n i < i
 | 0 => by simp [yE]
 | i + 1 => by have := Bk l n i; rw [yE]; split <;> omega
theorem Js {x : Int} (h0 : 0 ≤ x) (h1 : x ≤ 255) : IntKind.wrap .u8 x = x := NL rfl h0 h1
def mK (b : List Int) (i : Nat) (w : Int) (k : Nat) : Int := b.getD (i + (1 + k)) 0 % 2 ^ w.toNat
theorem No {x : Int} (h0 : 0 ≤ x) (h1 : x ≤ 255) : IntKind.wrap .u8 (Int.tdiv x 6) = x / 6 := by
 rw [Int.tdiv_eq_ediv_of_nonneg h0]; exact Js (by omega) (by omega)
theorem Gs {sh : Int} {l : List En} {n : Nat} {fr to : Int} (h1 : 0 ≤ yE l n l.length) (h2 : 0 ≤ yD l n l.length) (h3 : fr = yE l n l.length) (h4 : to = yD l n l.length) : (⟨Nk n, 2, 1 + (sh / 6 + n) % 3, fr, to⟩ : Ch) = vd sh l n := by
 unfold vd; rw [if_pos ⟨h1, h2⟩, h3, h4]
theorem Gt {sh : Int} {l : List En} {n : Nat} {fr to : Int} (h : ¬(0 ≤ yE l n l.length ∧ 0 ≤ yD l n l.length)) (h3 : fr = yE l n l.length) (h4 : to = yD l n l.length) : (⟨Nk n, 2, 0, fr, to⟩ : Ch) = vd sh l n := by
 unfold vd; rw [if_neg h, h3, h4]
end Go.Proofs.Ytckgpflobhpnpaa
