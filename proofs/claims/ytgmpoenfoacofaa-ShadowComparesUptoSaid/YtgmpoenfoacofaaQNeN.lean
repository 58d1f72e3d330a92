/-
  Made circuits, plain data.
-/
import Derived.Test.YtgmpoenfoacofaaQNeH
namespace Go.Proofs.Ytgmpoenfoacofaa
open Go.RowKit
set_option linter.unusedVariables false
set_option linter.unusedSimpArgs false
structure En where
 takes : List Int
 puts : List Int
def iu (e : En) : List V := [.sl 1 (af .i64) 0 e.takes, .sl 1 (af .i64) 0 e.puts]
abbrev ba : En := ⟨[], []⟩
def cO : Ex := ⟨1, e0, ⟨1, e0⟩, ⟨1, e0⟩, []⟩
def av (s : Sg) (b : List Int) (i : Nat) : Ex × Nat := if b.getD i 0 % 4 = 1 then ab s b 2 (i + 1) 1 else (cO, i + 1)
def zK : ByteArray := bs [97]
def zL : ByteArray := bs [98]
def zM (k : Nat) : ByteArray := [bs [114], bs [115]].getD k e0
def zy (k : Nat) : ByteArray := [bs [112], bs [113], bs [117], bs [118]].getD k e0
def za (k : Nat) : ByteArray := [bs [99, 48], bs [99, 49], bs [99, 50], bs [99, 51], bs [99, 52]].getD k e0
def aO (y : Int) (k : Nat) : Int := 1 + (y / 4 + k) % 2
def ja (y : Int) : Nat := (1 + y / 2 % 2).toNat
def xh (y : Int) : List Int := tab (aO y) (ja y)
def xi (y : Int) : Sg := ⟨xh y, [], [], false⟩
def py (y : Int) (n : Nat) : Sg := ⟨xh y, List.replicate n 2, [], true⟩
def lz (y : Int) (k : Nat) : Rg := ⟨zM k, aO y k, y / 8 % 2 ^ (aO y k).toNat, dE, ⟨[1, 1, 0].getD (y / 16 % 3).toNat 0, e0, 0⟩⟩
def pz (b : List Int) (y : Int) (i : Nat) : Nat → Nat
 | 0 => i
 | k + 1 => (av (xi y) b (pz b y i k)).2
def nC (b : List Int) (y : Int) (n : Nat) (i : Nat) : Nat → Nat
 | 0 => i
 | k + 1 => (ab (py y n) b 3 (nC b y n i k) (aO y k)).2
def lA (b : List Int) (y : Int) (n : Nat) (i : Nat) : Nat → Nat
 | 0 => i
 | k + 1 => (ab (py y n) b 2 (av (py y n) b (lA b y n i k)).2 2).2
def s5 (b : List Int) (y : Int) (i : Nat) (e : En) (k : Nat) : Tk := ⟨e.takes.getD k 0, 2, (av (xi y) b (pz b y i k)).1⟩
def zb (b : List Int) (y : Int) (n i k : Nat) : Rg := { lz y k with next := (ab (py y n) b 3 (nC b y n i k) (aO y k)).1 }
def u3 (b : List Int) (y : Int) (n i : Nat) (e : En) (k : Nat) : Pt := ⟨e.puts.getD k 0, 2, (av (py y n) b (lA b y n i k)).1, (ab (py y n) b 2 (av (py y n) b (lA b y n i k)).2 2).1⟩
def zc (y : Int) : ByteArray := [zK, zL].getD (y % 2).toNat e0
def fC (b : List Int) (i : Nat) (e : En) : Nat := pz b (b.getD i 0) (i + 1) e.takes.length
def fd (b : List Int) (i : Nat) (e : En) : Nat := nC b (b.getD i 0) e.takes.length (fC b i e) (ja (b.getD i 0))
def aM (b : List Int) (i : Nat) (nm : ByteArray) (e : En) : Pr × Nat :=
 (⟨nm, zc (b.getD i 0), tab (zb b (b.getD i 0) e.takes.length (fC b i e)) (ja (b.getD i 0)), [], tab (s5 b (b.getD i 0) (i + 1) e) e.takes.length, tab (u3 b (b.getD i 0) e.takes.length (fd b i e) e) e.puts.length⟩,
  lA b (b.getD i 0) e.takes.length (fd b i e) e.puts.length)
def aa (s : Int) : List En :=
 if s % 6 = 0 then [⟨[0], [1]⟩]
 else if s % 6 = 1 then [⟨[0], [1]⟩, ⟨[1], [2]⟩]
 else if s % 6 = 2 then [⟨[0], [1, 2]⟩, ⟨[1], [3]⟩, ⟨[2], [4]⟩]
 else if s % 6 = 3 then [⟨[0, 2], [1]⟩, ⟨[1], [2, 3]⟩]
 else if s % 6 = 4 then [⟨[0], [2]⟩, ⟨[1], [3]⟩, ⟨[2, 3], [4]⟩]
 else [⟨[0], [1]⟩, ⟨[1], [2]⟩, ⟨[2], [3]⟩, ⟨[3], [4]⟩]
theorem nG {s : Sg} {b : List Int} {i : Nat} (h : b.getD i 0 % 4 = 1) : av s b i = ab s b 2 (i + 1) 1 := if_pos h
theorem nI {s : Sg} {b : List Int} {i : Nat} (h : ¬b.getD i 0 % 4 = 1) : av s b i = (cO, i + 1) := if_neg h
def jD (l : List Int) (n : Int) : Bool := !cZ (fun i => !decide (l.getD i 0 = n)) l.length
theorem pA {l : List Int} {n : Int} {i : Nat} (hi : i < l.length) (h : l.getD i 0 = n) : jD l n = true := by
 unfold jD; rw [nq hi (by rw [decide_eq_true h]; rfl)]; rfl
theorem rQ {l : List Int} {n : Int} (h : ∀ i, i < l.length → ¬l.getD i 0 = n) : jD l n = false := by
 unfold jD; rw [bn.2 (fun i hi => by rw [decide_eq_false (h i hi)]; rfl)]; rfl
theorem sS {x w : Int} (h0 : 0 ≤ w) (h6 : w ≤ 62) : IntKind.wrap .i64 ((BitVec.ofInt (IntKind.i64).bits x &&& BitVec.ofInt (IntKind.i64).bits (cb w)).toNat : Int) = x % 2 ^ w.toNat := by
 rw [fw h0 h6]; exact o6 (by omega)
theorem nJ {s : Sg} {b : List Int} (hb : lR b) {d i : Nat} {w : Int} (hd : d ≤ 3) (h1 : 1 ≤ w) (h2 : w + d ≤ 8) : i ≤ (ab s b d i w).2 ∧ (ab s b d i w).2 ≤ i + 64 := by
 have h := (kS (s := s) hb d i w hd h1 h2).2.2
 have : 4 ^ d ≤ 4 ^ 3 := Nat.pow_le_pow_right (by omega) hd
 omega
theorem lC {s : Sg} {b : List Int} (hb : lR b) {i : Nat} : i ≤ (av s b i).2 ∧ (av s b i).2 ≤ i + 100 := by
 unfold av
 split
 ·have := nJ (s := s) hb (d := 2) (i := i + 1) (w := 1) (by omega) (by omega) (by omega); omega
 ·simp only; omega
theorem nM (y : Int) (k : Nat) : 1 ≤ aO y k ∧ aO y k ≤ 2 := by unfold aO; omega
theorem jW {b : List Int} (hb : lR b) (y : Int) (i : Nat) : ∀ k, i ≤ pz b y i k ∧ pz b y i k ≤ i + 100 * k
 | 0 => ⟨Nat.le_refl _, Nat.le_refl _⟩
 | k + 1 => by
  have h1 := jW hb y i k
  have h2 := lC (s := xi y) hb (i := pz b y i k)
  rw [pz]; omega
theorem jX {b : List Int} (hb : lR b) (y : Int) (n i : Nat) : ∀ k, i ≤ nC b y n i k ∧ nC b y n i k ≤ i + 100 * k
 | 0 => ⟨Nat.le_refl _, Nat.le_refl _⟩
 | k + 1 => by
  have h1 := jX hb y n i k
  have h3 := nM y k
  have h2 := nJ (s := py y n) hb (d := 3) (i := nC b y n i k) (w := aO y k) (by omega) (by omega) (by omega)
  rw [nC]; omega
theorem nN {b : List Int} (hb : lR b) (y : Int) (n i : Nat) : ∀ k, i ≤ lA b y n i k ∧ lA b y n i k ≤ i + 200 * k
 | 0 => ⟨Nat.le_refl _, Nat.le_refl _⟩
 | k + 1 => by
  have h1 := nN hb y n i k
  have h3 := lC (s := py y n) hb (i := lA b y n i k)
  have h2 := nJ (s := py y n) hb (d := 2) (i := (av (py y n) b (lA b y n i k)).2) (w := 2) (by omega) (by omega) (by omega)
  rw [lA]; omega
theorem qO {y : Int} (h : 0 ≤ y) : (ja y : Int) = 1 + y / 2 % 2 ∧ ja y ≤ 2 := by unfold ja; omega
def sT (b : List Int) (l : List En) : Nat → Nat
 | 0 => 0
 | i + 1 => (aM b (sT b l i) (zy i) (l.getD i ba)).2
def jx (b : List Int) (l : List En) (i : Nat) : Pr := (aM b (sT b l i) (zy i) (l.getD i ba)).1
def x9 (l : List Int) (a : Int) : Nat → Int
 | 0 => a
 | k + 1 => wq (x9 l a k) (l.getD k 0)
def iv (l : List En) : Nat → Int
 | 0 => 0
 | i + 1 => x9 (l.getD i ba).puts (iv l i) (l.getD i ba).puts.length
def ob (l : List En) (n : Int) : Nat → Int
 | 0 => -1
 | i + 1 => if jD (l.getD i ba).takes n = true then (i : Int) else ob l n i
def oc (l : List En) (n : Int) : Nat → Int
 | 0 => -1
 | i + 1 => if jD (l.getD i ba).puts n = true then (i : Int) else oc l n i
def lK (sh : Int) (l : List En) (n : Nat) : Ch := ⟨za n, 2, if 0 ≤ oc l n l.length ∧ 0 ≤ ob l n l.length then 1 + (sh / 6 + n) % 3 else 0, oc l n l.length, ob l n l.length⟩
def fe (sh : Int) : Nat := (iv (aa sh) (aa sh).length).toNat + 1
def an (sh : Int) (b : List Int) : Ci := ⟨tab (jx b (aa sh)) (aa sh).length, tab (lK sh (aa sh)) (fe sh)⟩
theorem eP (sh : Int) : aa sh = [⟨[0], [1]⟩] ∨ aa sh = [⟨[0], [1]⟩, ⟨[1], [2]⟩] ∨ aa sh = [⟨[0], [1, 2]⟩, ⟨[1], [3]⟩, ⟨[2], [4]⟩] ∨ aa sh = [⟨[0, 2], [1]⟩, ⟨[1], [2, 3]⟩] ∨ aa sh = [⟨[0], [2]⟩, ⟨[1], [3]⟩, ⟨[2, 3], [4]⟩] ∨ aa sh = [⟨[0], [1]⟩, ⟨[1], [2]⟩, ⟨[2], [3]⟩, ⟨[3], [4]⟩] := by
 unfold aa
 split
 ·exact .inl rfl
 split
 ·exact .inr (.inl rfl)
 split
 ·exact .inr (.inr (.inl rfl))
 split
 ·exact .inr (.inr (.inr (.inl rfl)))
 split
 ·exact .inr (.inr (.inr (.inr (.inl rfl))))
 ·exact .inr (.inr (.inr (.inr (.inr rfl))))
theorem pB (sh : Int) : 1 ≤ (aa sh).length ∧ (aa sh).length ≤ 4 := by
 rcases eP sh with h | h | h | h | h | h <;> rw [h] <;> decide
theorem f6 (sh : Int) (i : Nat) : ((aa sh).getD i ba).takes.length ≤ 2 ∧ ((aa sh).getD i ba).puts.length ≤ 2 := by
 have key : ∀ e ∈ aa sh, e.takes.length ≤ 2 ∧ e.puts.length ≤ 2 := by
  rcases eP sh with h | h | h | h | h | h <;> rw [h] <;> simp
 by_cases hi : i < (aa sh).length
 ·rw [cR _ _ hi]; exact key _ (List.getElem_mem hi)
 ·rw [List.getD, List.getElem?_eq_none (by omega)]; decide
theorem rR (sh : Int) : 0 ≤ iv (aa sh) (aa sh).length ∧ iv (aa sh) (aa sh).length ≤ 4 := by
 rcases eP sh with h | h | h | h | h | h <;> rw [h] <;> decide
theorem uF (sh : Int) : (fe sh : Int) = iv (aa sh) (aa sh).length + 1 ∧ fe sh ≤ 5 := by
 have := rR sh; unfold fe; omega
theorem rS {b : List Int} (hb : lR b) (sh : Int) : ∀ i, sT b (aa sh) i ≤ 1000 * i
 | 0 => Nat.le_refl _
 | i + 1 => by
  have h1 := rS hb sh i
  have he := f6 sh i
  rw [sT]
  unfold aM
  simp only
  generalize sT b (aa sh) i = p at *
  generalize (aa sh).getD i ba = e at *
  have hy := cY hb p
  have hn := qO hy.1
  have a1 : p + 1 ≤ fC b p e ∧ fC b p e ≤ p + 1 + 100 * e.takes.length := jW hb (b.getD p 0) (p + 1) e.takes.length
  have a2 : fC b p e ≤ fd b p e ∧ fd b p e ≤ fC b p e + 100 * ja (b.getD p 0) := jX hb (b.getD p 0) e.takes.length (fC b p e) (ja (b.getD p 0))
  have a3 := nN hb (b.getD p 0) e.takes.length (fd b p e) e.puts.length
  omega
theorem uG (l : List En) (n : Int) : ∀ i, -1 ≤ ob l n i ∧ ob l n i < i
 | 0 => by simp [ob]
 | i + 1 => by have := uG l n i; rw [ob]; split <;> omega
theorem uH (l : List En) (n : Int) : ∀ i, -1 ≤ oc l n i ∧ oc l n i < i
 | 0 => by simp [oc]
 | i + 1 => by have := uH l n i; rw [oc]; split <;> omega
theorem wj {x : Int} (h0 : 0 ≤ x) (h1 : x ≤ 255) : IntKind.wrap .u8 x = x := zs rfl h0 h1
theorem ze {x : Int} (h0 : 0 ≤ x) (h1 : x ≤ 255) : IntKind.wrap .u8 (Int.tdiv x 6) = x / 6 := by
 rw [Int.tdiv_eq_ediv_of_nonneg h0]; exact wj (by omega) (by omega)
theorem uI {sh : Int} {l : List En} {n : Nat} {fr to : Int} (h1 : 0 ≤ oc l n l.length) (h2 : 0 ≤ ob l n l.length) (h3 : fr = oc l n l.length) (h4 : to = ob l n l.length) : (⟨za n, 2, 1 + (sh / 6 + n) % 3, fr, to⟩ : Ch) = lK sh l n := by
 unfold lK; rw [if_pos ⟨h1, h2⟩, h3, h4]
theorem uJ {sh : Int} {l : List En} {n : Nat} {fr to : Int} (h : ¬(0 ≤ oc l n l.length ∧ 0 ≤ ob l n l.length)) (h3 : fr = oc l n l.length) (h4 : to = ob l n l.length) : (⟨za n, 2, 0, fr, to⟩ : Ch) = lK sh l n := by
 unfold lK; rw [if_neg h, h3, h4]
end Go.Proofs.Ytgmpoenfoacofaa
