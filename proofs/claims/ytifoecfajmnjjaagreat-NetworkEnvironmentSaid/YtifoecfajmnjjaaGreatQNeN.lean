/-
  Made circuits, plain data.
-/
import Derived.Test.YtifoecfajmnjjaaGreatQNeK
namespace Go.Proofs.YtifoecfajmnjjaaGreat
open Go.RowKit
set_option linter.unusedVariables false
set_option linter.unusedSimpArgs false
structure En where
 takes : List Int
 puts : List Int
def sN (e : En) : List V := [.sl 1 (ah .i64) 0 e.takes, .sl 1 (ah .i64) 0 e.puts]
abbrev dH : En := ⟨[], []⟩
def ip : Ex := ⟨1, e0, ⟨1, e0⟩, ⟨1, e0⟩, []⟩
def a7 (s : Sg) (b : List Int) (i : Nat) : Ex × Nat := if b.getD i 0 % 4 = 1 then ax s b 2 (i + 1) 1 else (ip, i + 1)
def Pc : ByteArray := bs [97]
def Pd : ByteArray := bs [98]
def Pe (k : Nat) : ByteArray := [bs [114], bs [115]].getD k e0
def O7 (k : Nat) : ByteArray := [bs [112], bs [113], bs [117], bs [118]].getD k e0
def OI (k : Nat) : ByteArray := [bs [99, 48], bs [99, 49], bs [99, 50], bs [99, 51], bs [99, 52]].getD k e0
def cj (y : Int) (k : Nat) : Int := 1 + (y / 4 + k) % 2
def ug (y : Int) : Nat := (1 + y / 2 % 2).toNat
def Me (y : Int) : List Int := ao (cj y) (ug y)
def Mf (y : Int) : Sg := ⟨Me y, [], [], false⟩
def BG (y : Int) (n : Nat) : Sg := ⟨Me y, List.replicate n 2, [], true⟩
def wZ (y : Int) (k : Nat) : Rg := ⟨Pe k, cj y k, y / 8 % 2 ^ (cj y k).toNat, dE, ⟨[1, 1, 0].getD (y / 16 % 3).toNat 0, e0, 0⟩⟩
def BH (b : List Int) (y : Int) (i : Nat) : Nat → Nat
 | 0 => i
 | k + 1 => (a7 (Mf y) b (BH b y i k)).2
def z7 (b : List Int) (y : Int) (n : Nat) (i : Nat) : Nat → Nat
 | 0 => i
 | k + 1 => (ax (BG y n) b 3 (z7 b y n i k) (cj y k)).2
def w7 (b : List Int) (y : Int) (n : Nat) (i : Nat) : Nat → Nat
 | 0 => i
 | k + 1 => (ax (BG y n) b 2 (a7 (BG y n) b (w7 b y n i k)).2 2).2
def GN (b : List Int) (y : Int) (i : Nat) (e : En) (k : Nat) : Tk := ⟨e.takes.getD k 0, 2, (a7 (Mf y) b (BH b y i k)).1⟩
def OJ (b : List Int) (y : Int) (n i k : Nat) : Rg := { wZ y k with next := (ax (BG y n) b 3 (z7 b y n i k) (cj y k)).1 }
def Jl (b : List Int) (y : Int) (n i : Nat) (e : En) (k : Nat) : Pt := ⟨e.puts.getD k 0, 2, (a7 (BG y n) b (w7 b y n i k)).1, (ax (BG y n) b 2 (a7 (BG y n) b (w7 b y n i k)).2 2).1⟩
def J8 (y : Int) : ByteArray := [Pc, Pd].getD (y % 2).toNat e0
def o9 (b : List Int) (i : Nat) (e : En) : Nat := BH b (b.getD i 0) (i + 1) e.takes.length
def nX (b : List Int) (i : Nat) (e : En) : Nat := z7 b (b.getD i 0) e.takes.length (o9 b i e) (ug (b.getD i 0))
def b5 (b : List Int) (i : Nat) (nm : ByteArray) (e : En) : Pr × Nat :=
 (⟨nm, J8 (b.getD i 0), ao (OJ b (b.getD i 0) e.takes.length (o9 b i e)) (ug (b.getD i 0)), [], ao (GN b (b.getD i 0) (i + 1) e) e.takes.length, ao (Jl b (b.getD i 0) e.takes.length (nX b i e) e) e.puts.length⟩,
  w7 b (b.getD i 0) e.takes.length (nX b i e) e.puts.length)
def av (s : Int) : List En :=
 if s % 6 = 0 then [⟨[0], [1]⟩]
 else if s % 6 = 1 then [⟨[0], [1]⟩, ⟨[1], [2]⟩]
 else if s % 6 = 2 then [⟨[0], [1, 2]⟩, ⟨[1], [3]⟩, ⟨[2], [4]⟩]
 else if s % 6 = 3 then [⟨[0, 2], [1]⟩, ⟨[1], [2, 3]⟩]
 else if s % 6 = 4 then [⟨[0], [2]⟩, ⟨[1], [3]⟩, ⟨[2, 3], [4]⟩]
 else [⟨[0], [1]⟩, ⟨[1], [2]⟩, ⟨[2], [3]⟩, ⟨[3], [4]⟩]
theorem z8 {s : Sg} {b : List Int} {i : Nat} (h : b.getD i 0 % 4 = 1) : a7 s b i = ax s b 2 (i + 1) 1 := if_pos h
theorem z9 {s : Sg} {b : List Int} {i : Nat} (h : ¬b.getD i 0 % 4 = 1) : a7 s b i = (ip, i + 1) := if_neg h
def uU (l : List Int) (n : Int) : Bool := !eo (fun i => !decide (l.getD i 0 = n)) l.length
theorem BI {l : List Int} {n : Int} {i : Nat} (hi : i < l.length) (h : l.getD i 0 = n) : uU l n = true := by
 unfold uU; rw [ie hi (by rw [decide_eq_true h]; rfl)]; rfl
theorem Fa {l : List Int} {n : Int} (h : ∀ i, i < l.length → ¬l.getD i 0 = n) : uU l n = false := by
 unfold uU; rw [ce.2 (fun i hi => by rw [decide_eq_false (h i hi)]; rfl)]; rfl
theorem yD {x w : Int} (h0 : 0 ≤ w) (h6 : w ≤ 62) : IntKind.wrap .i64 ((BitVec.ofInt (IntKind.i64).bits x &&& BitVec.ofInt (IntKind.i64).bits (ap w)).toNat : Int) = x % 2 ^ w.toNat := by
 rw [da h0 h6]; exact jc (by omega)
theorem Aa {s : Sg} {b : List Int} (hb : iz b) {d i : Nat} {w : Int} (hd : d ≤ 3) (h1 : 1 ≤ w) (h2 : w + d ≤ 8) : i ≤ (ax s b d i w).2 ∧ (ax s b d i w).2 ≤ i + 64 := by
 have h := (wv (s := s) hb d i w hd h1 h2).2.2
 have : 4 ^ d ≤ 4 ^ 3 := Nat.pow_le_pow_right (by omega) hd
 omega
theorem w8 {s : Sg} {b : List Int} (hb : iz b) {i : Nat} : i ≤ (a7 s b i).2 ∧ (a7 s b i).2 ≤ i + 100 := by
 unfold a7
 split
 ·have := Aa (s := s) hb (d := 2) (i := i + 1) (w := 1) (by omega) (by omega) (by omega); omega
 ·simp only; omega
theorem Ab (y : Int) (k : Nat) : 1 ≤ cj y k ∧ cj y k ≤ 2 := by unfold cj; omega
theorem vB {b : List Int} (hb : iz b) (y : Int) (i : Nat) : ∀ k, i ≤ BH b y i k ∧ BH b y i k ≤ i + 100 * k
 | 0 => ⟨Nat.le_refl _, Nat.le_refl _⟩
 | k + 1 => by
  have h1 := vB hb y i k
  have h2 := w8 (s := Mf y) hb (i := BH b y i k)
  rw [BH]; omega
theorem vC {b : List Int} (hb : iz b) (y : Int) (n i : Nat) : ∀ k, i ≤ z7 b y n i k ∧ z7 b y n i k ≤ i + 100 * k
 | 0 => ⟨Nat.le_refl _, Nat.le_refl _⟩
 | k + 1 => by
  have h1 := vC hb y n i k
  have h3 := Ab y k
  have h2 := Aa (s := BG y n) hb (d := 3) (i := z7 b y n i k) (w := cj y k) (by omega) (by omega) (by omega)
  rw [z7]; omega
theorem Ac {b : List Int} (hb : iz b) (y : Int) (n i : Nat) : ∀ k, i ≤ w7 b y n i k ∧ w7 b y n i k ≤ i + 200 * k
 | 0 => ⟨Nat.le_refl _, Nat.le_refl _⟩
 | k + 1 => by
  have h1 := Ac hb y n i k
  have h3 := w8 (s := BG y n) hb (i := w7 b y n i k)
  have h2 := Aa (s := BG y n) hb (d := 2) (i := (a7 (BG y n) b (w7 b y n i k)).2) (w := 2) (by omega) (by omega) (by omega)
  rw [w7]; omega
theorem DD {y : Int} (h : 0 ≤ y) : (ug y : Int) = 1 + y / 2 % 2 ∧ ug y ≤ 2 := by unfold ug; omega
def Gw (b : List Int) (l : List En) : Nat → Nat
 | 0 => 0
 | i + 1 => (b5 b (Gw b l i) (O7 i) (l.getD i dH)).2
def uj (b : List Int) (l : List En) (i : Nat) : Pr := (b5 b (Gw b l i) (O7 i) (l.getD i dH)).1
def M9 (l : List Int) (a : Int) : Nat → Int
 | 0 => a
 | k + 1 => KM (M9 l a k) (l.getD k 0)
def sO (l : List En) : Nat → Int
 | 0 => 0
 | i + 1 => M9 (l.getD i dH).puts (sO l i) (l.getD i dH).puts.length
def Ar (l : List En) (n : Int) : Nat → Int
 | 0 => -1
 | i + 1 => if uU (l.getD i dH).takes n = true then (i : Int) else Ar l n i
def Au (l : List En) (n : Int) : Nat → Int
 | 0 => -1
 | i + 1 => if uU (l.getD i dH).puts n = true then (i : Int) else Au l n i
def w9 (sh : Int) (l : List En) (n : Nat) : Ch := ⟨OI n, 2, if 0 ≤ Au l n l.length ∧ 0 ≤ Ar l n l.length then 1 + (sh / 6 + n) % 3 else 0, Au l n l.length, Ar l n l.length⟩
def np (sh : Int) : Nat := (sO (av sh) (av sh).length).toNat + 1
def aa (sh : Int) (b : List Int) : Ci := ⟨ao (uj b (av sh)) (av sh).length, ao (w9 sh (av sh)) (np sh)⟩
theorem nq (sh : Int) : av sh = [⟨[0], [1]⟩] ∨ av sh = [⟨[0], [1]⟩, ⟨[1], [2]⟩] ∨ av sh = [⟨[0], [1, 2]⟩, ⟨[1], [3]⟩, ⟨[2], [4]⟩] ∨ av sh = [⟨[0, 2], [1]⟩, ⟨[1], [2, 3]⟩] ∨ av sh = [⟨[0], [2]⟩, ⟨[1], [3]⟩, ⟨[2, 3], [4]⟩] ∨ av sh = [⟨[0], [1]⟩, ⟨[1], [2]⟩, ⟨[2], [3]⟩, ⟨[3], [4]⟩] := by
 unfold av
 split
 ·exact .inl rfl
 split
 ·exact .inr (.inl rfl)
 split
 ·exact .inr (.inr (.inl rfl))
 split
 ·exact .inr (.inr (.inr (.inl rfl)))
 split
 ·exact .inr (.inr (.inr (.inr (.inl rfl))))
 ·exact .inr (.inr (.inr (.inr (.inr rfl))))
theorem BJ (sh : Int) : 1 ≤ (av sh).length ∧ (av sh).length ≤ 4 := by
 rcases nq sh with h | h | h | h | h | h <;> rw [h] <;> decide
theorem qe (sh : Int) (i : Nat) : ((av sh).getD i dH).takes.length ≤ 2 ∧ ((av sh).getD i dH).puts.length ≤ 2 := by
 have key : ∀ e ∈ av sh, e.takes.length ≤ 2 ∧ e.puts.length ≤ 2 := by
  rcases nq sh with h | h | h | h | h | h <;> rw [h] <;> simp
 by_cases hi : i < (av sh).length
 ·rw [gz _ _ hi]; exact key _ (List.getElem_mem hi)
 ·rw [List.getD, List.getElem?_eq_none (by omega)]; decide
theorem Fb (sh : Int) : 0 ≤ sO (av sh) (av sh).length ∧ sO (av sh) (av sh).length ≤ 4 := by
 rcases nq sh with h | h | h | h | h | h <;> rw [h] <;> decide
theorem IK (sh : Int) : (np sh : Int) = sO (av sh) (av sh).length + 1 ∧ np sh ≤ 5 := by
 have := Fb sh; unfold np; omega
theorem Fc {b : List Int} (hb : iz b) (sh : Int) : ∀ i, Gw b (av sh) i ≤ 1000 * i
 | 0 => Nat.le_refl _
 | i + 1 => by
  have h1 := Fc hb sh i
  have he := qe sh i
  rw [Gw]
  unfold b5
  simp only
  generalize Gw b (av sh) i = p at *
  generalize (av sh).getD i dH = e at *
  have hy := eL hb p
  have hn := DD hy.1
  have a1 : p + 1 ≤ o9 b p e ∧ o9 b p e ≤ p + 1 + 100 * e.takes.length := vB hb (b.getD p 0) (p + 1) e.takes.length
  have a2 : o9 b p e ≤ nX b p e ∧ nX b p e ≤ o9 b p e + 100 * ug (b.getD p 0) := vC hb (b.getD p 0) e.takes.length (o9 b p e) (ug (b.getD p 0))
  have a3 := Ac hb (b.getD p 0) e.takes.length (nX b p e) e.puts.length
  omega
theorem IL (l : List En) (n : Int) : ∀ i, -1 ≤ Ar l n i ∧ Ar l n i < i
 | 0 => by simp [Ar]
 | i + 1 => by have := IL l n i; rw [Ar]; split <;> omega
theorem IM (l : List En) (n : Int) : ∀ i, -1 ≤ Au l n i ∧ Au l n i < i
 | 0 => by simp [Au]
 | i + 1 => by have := IM l n i; rw [Au]; split <;> omega
theorem KD {x : Int} (h0 : 0 ≤ x) (h1 : x ≤ 255) : IntKind.wrap .u8 x = x := O3 rfl h0 h1
def vD (b : List Int) (i : Nat) : Nat := (b.getD i 0 % 7).toNat
def xy (b : List Int) (i : Nat) (w : Int) (k : Nat) : Int := b.getD (i + (1 + k)) 0 % 2 ^ w.toNat
def xq (c : Ci) (b : List Int) : Nat → Ns × Nat
 | 0 => (az c, 0)
 | i + 1 => if 0 ≤ (fk c i).frm then xq c b i else (cz (xq c b i).1 i (ao (xy b (xq c b i).2 (fk c i).w) (vD b (xq c b i).2)), (xq c b i).2 + (1 + vD b (xq c b i).2))
def fB (c : Ci) (b : List Int) : Ns := (xq c b c.chans.length).1
theorem IP {b : List Int} (hb : iz b) (i : Nat) : vD b i ≤ 6 ∧ (vD b i : Int) = b.getD i 0 % 7 := by
 have := eL hb i; unfold vD; omega
theorem IQ {c : Ci} {b : List Int} {i : Nat} (h : 0 ≤ (fk c i).frm) : xq c b (i + 1) = xq c b i := by rw [xq, if_pos h]
theorem DE {c : Ci} {b : List Int} {i : Nat} (h : ¬0 ≤ (fk c i).frm) : xq c b (i + 1) = (cz (xq c b i).1 i (ao (xy b (xq c b i).2 (fk c i).w) (vD b (xq c b i).2)), (xq c b i).2 + (1 + vD b (xq c b i).2)) := by rw [xq, if_neg h]
def fC (c : Ci) (s : Ns) (l : List Int) : Ns := l.foldl (fun u k => ak c u (bz (k % c.procs.length))) s
theorem Gx {c : Ci} {s : Ns} {l : List Int} {i : Nat} (h : i < l.length) : fC c s (l.take (i + 1)) = ak c (fC c s (l.take i)) (bz (l.getD i 0 % c.procs.length)) := by
 unfold fC
 rw [List.take_succ_eq_append_getElem h, List.foldl_append]
 simp [List.getD, List.getElem?_eq_getElem h]
theorem OK {x : Int} (h0 : 0 ≤ x) (h1 : x ≤ 255) : IntKind.wrap .u8 (Int.tdiv x 6) = x / 6 := by
 rw [Int.tdiv_eq_ediv_of_nonneg h0]; exact KD (by omega) (by omega)
theorem IR {sh : Int} {l : List En} {n : Nat} {fr to : Int} (h1 : 0 ≤ Au l n l.length) (h2 : 0 ≤ Ar l n l.length) (h3 : fr = Au l n l.length) (h4 : to = Ar l n l.length) : (⟨OI n, 2, 1 + (sh / 6 + n) % 3, fr, to⟩ : Ch) = w9 sh l n := by
 unfold w9; rw [if_pos ⟨h1, h2⟩, h3, h4]
theorem IT {sh : Int} {l : List En} {n : Nat} {fr to : Int} (h : ¬(0 ≤ Au l n l.length ∧ 0 ≤ Ar l n l.length)) (h3 : fr = Au l n l.length) (h4 : to = Ar l n l.length) : (⟨OI n, 2, 0, fr, to⟩ : Ch) = w9 sh l n := by
 unfold w9; rw [if_neg h, h3, h4]
end Go.Proofs.YtifoecfajmnjjaaGreat
