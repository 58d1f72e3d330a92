/-
  Made circuits, plain data.
-/
import Derived.Test.YtckgpflobhpnpaaGreatQNeH
namespace Go.Proofs.YtckgpflobhpnpaaGreat
open Go.RowKit
set_option linter.unusedVariables false
set_option linter.unusedSimpArgs false
structure En where
 takes : List Int
 puts : List Int
def qS (e : En) : List V := [.sl 1 (aa .i64) 0 e.takes, .sl 1 (aa .i64) 0 e.puts]
abbrev cm : En := ⟨[], []⟩
def fu : Ex := ⟨1, e0, ⟨1, e0⟩, ⟨1, e0⟩, []⟩
def aK (s : Sg) (b : List Int) (i : Nat) : Ex × Nat := if b.getD i 0 % 4 = 1 then aj s b 2 (i + 1) 1 else (fu, i + 1)
def OB : ByteArray := bs [97]
def OC : ByteArray := bs [98]
def OD (k : Nat) : ByteArray := [bs [114], bs [115]].getD k e0
def Oj (k : Nat) : ByteArray := [bs [112], bs [113], bs [117], bs [118]].getD k e0
def NM (k : Nat) : ByteArray := [bs [99, 48], bs [99, 49], bs [99, 50], bs [99, 51], bs [99, 52]].getD k e0
def bw (y : Int) (k : Nat) : Int := 1 + (y / 4 + k) % 2
def r6 (y : Int) : Nat := (1 + y / 2 % 2).toNat
def Li (y : Int) : List Int := tab (bw y) (r6 y)
def Lj (y : Int) : Sg := ⟨Li y, [], [], false⟩
def zz (y : Int) (n : Nat) : Sg := ⟨Li y, List.replicate n 2, [], true⟩
def u3 (y : Int) (k : Nat) : Rg := ⟨OD k, bw y k, y / 8 % 2 ^ (bw y k).toNat, dE, ⟨[1, 1, 0].getD (y / 16 % 3).toNat 0, e0, 0⟩⟩
def zA (b : List Int) (y : Int) (i : Nat) : Nat → Nat
 | 0 => i
 | k + 1 => (aK (Lj y) b (zA b y i k)).2
def xW (b : List Int) (y : Int) (n : Nat) (i : Nat) : Nat → Nat
 | 0 => i
 | k + 1 => (aj (zz y n) b 3 (xW b y n i k) (bw y k)).2
def u4 (b : List Int) (y : Int) (n : Nat) (i : Nat) : Nat → Nat
 | 0 => i
 | k + 1 => (aj (zz y n) b 2 (aK (zz y n) b (u4 b y n i k)).2 2).2
def Ey (b : List Int) (y : Int) (i : Nat) (e : En) (k : Nat) : Tk := ⟨e.takes.getD k 0, 2, (aK (Lj y) b (zA b y i k)).1⟩
def NN (b : List Int) (y : Int) (n i k : Nat) : Rg := { u3 y k with next := (aj (zz y n) b 3 (xW b y n i k) (bw y k)).1 }
def Hn (b : List Int) (y : Int) (n i : Nat) (e : En) (k : Nat) : Pt := ⟨e.puts.getD k 0, 2, (aK (zz y n) b (u4 b y n i k)).1, (aj (zz y n) b 2 (aK (zz y n) b (u4 b y n i k)).2 2).1⟩
def NO (y : Int) : ByteArray := [OB, OC].getD (y % 2).toNat e0
def mE (b : List Int) (i : Nat) (e : En) : Nat := zA b (b.getD i 0) (i + 1) e.takes.length
def lI (b : List Int) (i : Nat) (e : En) : Nat := xW b (b.getD i 0) e.takes.length (mE b i e) (r6 (b.getD i 0))
def bn (b : List Int) (i : Nat) (nm : ByteArray) (e : En) : Pr × Nat :=
 (⟨nm, NO (b.getD i 0), tab (NN b (b.getD i 0) e.takes.length (mE b i e)) (r6 (b.getD i 0)), [], tab (Ey b (b.getD i 0) (i + 1) e) e.takes.length, tab (Hn b (b.getD i 0) e.takes.length (lI b i e) e) e.puts.length⟩,
  u4 b (b.getD i 0) e.takes.length (lI b i e) e.puts.length)
def af (s : Int) : List En :=
 if s % 6 = 0 then [⟨[0], [1]⟩]
 else if s % 6 = 1 then [⟨[0], [1]⟩, ⟨[1], [2]⟩]
 else if s % 6 = 2 then [⟨[0], [1, 2]⟩, ⟨[1], [3]⟩, ⟨[2], [4]⟩]
 else if s % 6 = 3 then [⟨[0, 2], [1]⟩, ⟨[1], [2, 3]⟩]
 else if s % 6 = 4 then [⟨[0], [2]⟩, ⟨[1], [3]⟩, ⟨[2, 3], [4]⟩]
 else [⟨[0], [1]⟩, ⟨[1], [2]⟩, ⟨[2], [3]⟩, ⟨[3], [4]⟩]
theorem xX {s : Sg} {b : List Int} {i : Nat} (h : b.getD i 0 % 4 = 1) : aK s b i = aj s b 2 (i + 1) 1 := if_pos h
theorem xY {s : Sg} {b : List Int} {i : Nat} (h : ¬b.getD i 0 % 4 = 1) : aK s b i = (fu, i + 1) := if_neg h
def s4 (l : List Int) (n : Int) : Bool := !dR (fun i => !decide (l.getD i 0 = n)) l.length
theorem zB {l : List Int} {n : Int} {i : Nat} (hi : i < l.length) (h : l.getD i 0 = n) : s4 l n = true := by
 unfold s4; rw [qC hi (by rw [decide_eq_true h]; rfl)]; rfl
theorem CP {l : List Int} {n : Int} (h : ∀ i, i < l.length → ¬l.getD i 0 = n) : s4 l n = false := by
 unfold s4; rw [cH.2 (fun i hi => by rw [decide_eq_false (h i hi)]; rfl)]; rfl
theorem wJ {x w : Int} (h0 : 0 ≤ w) (h6 : w ≤ 62) : IntKind.wrap .i64 ((BitVec.ofInt (IntKind.i64).bits x &&& BitVec.ofInt (IntKind.i64).bits (am w)).toNat : Int) = x % 2 ^ w.toNat := by
 rw [dP h0 h6]; exact l9 (by omega)
theorem xZ {s : Sg} {b : List Int} (hb : lK b) {d i : Nat} {w : Int} (hd : d ≤ 3) (h1 : 1 ≤ w) (h2 : w + d ≤ 8) : i ≤ (aj s b d i w).2 ∧ (aj s b d i w).2 ≤ i + 64 := by
 have h := (uQ (s := s) hb d i w hd h1 h2).2.2
 have : 4 ^ d ≤ 4 ^ 3 := Nat.pow_le_pow_right (by omega) hd
 omega
theorem u5 {s : Sg} {b : List Int} (hb : lK b) {i : Nat} : i ≤ (aK s b i).2 ∧ (aK s b i).2 ≤ i + 100 := by
 unfold aK
 split
 ·have := xZ (s := s) hb (d := 2) (i := i + 1) (w := 1) (by omega) (by omega) (by omega); omega
 ·simp only; omega
theorem x4 (y : Int) (k : Nat) : 1 ≤ bw y k ∧ bw y k ≤ 2 := by unfold bw; omega
theorem tE {b : List Int} (hb : lK b) (y : Int) (i : Nat) : ∀ k, i ≤ zA b y i k ∧ zA b y i k ≤ i + 100 * k
 | 0 => ⟨Nat.le_refl _, Nat.le_refl _⟩
 | k + 1 => by
  have h1 := tE hb y i k
  have h2 := u5 (s := Lj y) hb (i := zA b y i k)
  rw [zA]; omega
theorem tF {b : List Int} (hb : lK b) (y : Int) (n i : Nat) : ∀ k, i ≤ xW b y n i k ∧ xW b y n i k ≤ i + 100 * k
 | 0 => ⟨Nat.le_refl _, Nat.le_refl _⟩
 | k + 1 => by
  have h1 := tF hb y n i k
  have h3 := x4 y k
  have h2 := xZ (s := zz y n) hb (d := 3) (i := xW b y n i k) (w := bw y k) (by omega) (by omega) (by omega)
  rw [xW]; omega
theorem x5 {b : List Int} (hb : lK b) (y : Int) (n i : Nat) : ∀ k, i ≤ u4 b y n i k ∧ u4 b y n i k ≤ i + 200 * k
 | 0 => ⟨Nat.le_refl _, Nat.le_refl _⟩
 | k + 1 => by
  have h1 := x5 hb y n i k
  have h3 := u5 (s := zz y n) hb (i := u4 b y n i k)
  have h2 := xZ (s := zz y n) hb (d := 2) (i := (aK (zz y n) b (u4 b y n i k)).2) (w := 2) (by omega) (by omega) (by omega)
  rw [u4]; omega
theorem Bc {y : Int} (h : 0 ≤ y) : (r6 y : Int) = 1 + y / 2 % 2 ∧ r6 y ≤ 2 := by unfold r6; omega
def Ec (b : List Int) (l : List En) : Nat → Nat
 | 0 => 0
 | i + 1 => (bn b (Ec b l i) (Oj i) (l.getD i cm)).2
def rk (b : List Int) (l : List En) (i : Nat) : Pr := (bn b (Ec b l i) (Oj i) (l.getD i cm)).1
def Mc (l : List Int) (a : Int) : Nat → Int
 | 0 => a
 | k + 1 => JE (Mc l a k) (l.getD k 0)
def qT (l : List En) : Nat → Int
 | 0 => 0
 | i + 1 => Mc (l.getD i cm).puts (qT l i) (l.getD i cm).puts.length
def yy (l : List En) (n : Int) : Nat → Int
 | 0 => -1
 | i + 1 => if s4 (l.getD i cm).takes n = true then (i : Int) else yy l n i
def yz (l : List En) (n : Int) : Nat → Int
 | 0 => -1
 | i + 1 => if s4 (l.getD i cm).puts n = true then (i : Int) else yz l n i
def s5 (sh : Int) (l : List En) (n : Nat) : Ch := ⟨NM n, 2, if 0 ≤ yz l n l.length ∧ 0 ≤ yy l n l.length then 1 + (sh / 6 + n) % 3 else 0, yz l n l.length, yy l n l.length⟩
def jb (sh : Int) : Nat := (qT (af sh) (af sh).length).toNat + 1
def aM (sh : Int) (b : List Int) : Ci := ⟨tab (rk b (af sh)) (af sh).length, tab (s5 sh (af sh)) (jb sh)⟩
theorem iR (sh : Int) : af sh = [⟨[0], [1]⟩] ∨ af sh = [⟨[0], [1]⟩, ⟨[1], [2]⟩] ∨ af sh = [⟨[0], [1, 2]⟩, ⟨[1], [3]⟩, ⟨[2], [4]⟩] ∨ af sh = [⟨[0, 2], [1]⟩, ⟨[1], [2, 3]⟩] ∨ af sh = [⟨[0], [2]⟩, ⟨[1], [3]⟩, ⟨[2, 3], [4]⟩] ∨ af sh = [⟨[0], [1]⟩, ⟨[1], [2]⟩, ⟨[2], [3]⟩, ⟨[3], [4]⟩] := by
 unfold af
 split
 ·exact .inl rfl
 split
 ·exact .inr (.inl rfl)
 split
 ·exact .inr (.inr (.inl rfl))
 split
 ·exact .inr (.inr (.inr (.inl rfl)))
 split
 ·exact .inr (.inr (.inr (.inr (.inl rfl))))
 ·exact .inr (.inr (.inr (.inr (.inr rfl))))
theorem zC (sh : Int) : 1 ≤ (af sh).length ∧ (af sh).length ≤ 4 := by
 rcases iR sh with h | h | h | h | h | h <;> rw [h] <;> decide
theorem nG (sh : Int) (i : Nat) : ((af sh).getD i cm).takes.length ≤ 2 ∧ ((af sh).getD i cm).puts.length ≤ 2 := by
 have key : ∀ e ∈ af sh, e.takes.length ≤ 2 ∧ e.puts.length ≤ 2 := by
  rcases iR sh with h | h | h | h | h | h <;> rw [h] <;> simp
 by_cases hi : i < (af sh).length
 ·rw [d6 _ _ hi]; exact key _ (List.getElem_mem hi)
 ·rw [List.getD, List.getElem?_eq_none (by omega)]; decide
theorem CQ (sh : Int) : 0 ≤ qT (af sh) (af sh).length ∧ qT (af sh) (af sh).length ≤ 4 := by
 rcases iR sh with h | h | h | h | h | h <;> rw [h] <;> decide
theorem Gr (sh : Int) : (jb sh : Int) = qT (af sh) (af sh).length + 1 ∧ jb sh ≤ 5 := by
 have := CQ sh; unfold jb; omega
theorem CR {b : List Int} (hb : lK b) (sh : Int) : ∀ i, Ec b (af sh) i ≤ 1000 * i
 | 0 => Nat.le_refl _
 | i + 1 => by
  have h1 := CR hb sh i
  have he := nG sh i
  rw [Ec]
  unfold bn
  simp only
  generalize Ec b (af sh) i = p at *
  generalize (af sh).getD i cm = e at *
  have hy := di hb p
  have hn := Bc hy.1
  have a1 : p + 1 ≤ mE b p e ∧ mE b p e ≤ p + 1 + 100 * e.takes.length := tE hb (b.getD p 0) (p + 1) e.takes.length
  have a2 : mE b p e ≤ lI b p e ∧ lI b p e ≤ mE b p e + 100 * r6 (b.getD p 0) := tF hb (b.getD p 0) e.takes.length (mE b p e) (r6 (b.getD p 0))
  have a3 := x5 hb (b.getD p 0) e.takes.length (lI b p e) e.puts.length
  omega
theorem Gs (l : List En) (n : Int) : ∀ i, -1 ≤ yy l n i ∧ yy l n i < i
 | 0 => by simp [yy]
 | i + 1 => by have := Gs l n i; rw [yy]; split <;> omega
theorem Bd (l : List En) (n : Int) : ∀ i, -1 ≤ yz l n i ∧ yz l n i < i
 | 0 => by simp [yz]
 | i + 1 => by have := Bd l n i; rw [yz]; split <;> omega
theorem Jo {x : Int} (h0 : 0 ≤ x) (h1 : x ≤ 255) : IntKind.wrap .u8 x = x := Oe rfl h0 h1
def mG (b : List Int) (i : Nat) (w : Int) (k : Nat) : Int := b.getD (i + (1 + k)) 0 % 2 ^ w.toNat
theorem NP {x : Int} (h0 : 0 ≤ x) (h1 : x ≤ 255) : IntKind.wrap .u8 (Int.tdiv x 6) = x / 6 := by
 rw [Int.tdiv_eq_ediv_of_nonneg h0]; exact Jo (by omega) (by omega)
theorem Gt {sh : Int} {l : List En} {n : Nat} {fr to : Int} (h1 : 0 ≤ yz l n l.length) (h2 : 0 ≤ yy l n l.length) (h3 : fr = yz l n l.length) (h4 : to = yy l n l.length) : (⟨NM n, 2, 1 + (sh / 6 + n) % 3, fr, to⟩ : Ch) = s5 sh l n := by
 unfold s5; rw [if_pos ⟨h1, h2⟩, h3, h4]
theorem Gu {sh : Int} {l : List En} {n : Nat} {fr to : Int} (h : ¬(0 ≤ yz l n l.length ∧ 0 ≤ yy l n l.length)) (h3 : fr = yz l n l.length) (h4 : to = yy l n l.length) : (⟨NM n, 2, 0, fr, to⟩ : Ch) = s5 sh l n := by
 unfold s5; rw [if_neg h, h3, h4]
end Go.Proofs.YtckgpflobhpnpaaGreat
