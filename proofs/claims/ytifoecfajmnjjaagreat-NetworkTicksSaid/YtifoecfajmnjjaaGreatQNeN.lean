/-
  Made circuits, plain data.
-/
import Derived.Test.YtifoecfajmnjjaaGreatQNeK
namespace Go.Proofs.YtifoecfajmnjjaaGreat
open Go.RowKit
set_option linter.unusedVariables false
set_option linter.unusedSimpArgs false
structure En where
 takes : List Int
 puts : List Int
def pn (e : En) : List V := [.sl 1 (af .i64) 0 e.takes, .sl 1 (af .i64) 0 e.puts]
abbrev cG : En := ⟨[], []⟩
def fm : Ex := ⟨1, e0, ⟨1, e0⟩, ⟨1, e0⟩, []⟩
def aQ (s : Sg) (b : List Int) (i : Nat) : Ex × Nat := if b.getD i 0 % 4 = 1 then ak s b 2 (i + 1) 1 else (fm, i + 1)
def Kd : ByteArray := bs [97]
def Ke : ByteArray := bs [98]
def Kf (k : Nat) : ByteArray := [bs [114], bs [115]].getD k e0
def J8 (k : Nat) : ByteArray := [bs [112], bs [113], bs [117], bs [118]].getD k e0
def JG (k : Nat) : ByteArray := [bs [99, 48], bs [99, 49], bs [99, 50], bs [99, 51], bs [99, 52]].getD k e0
def bI (y : Int) (k : Nat) : Int := 1 + (y / 4 + k) % 2
def qq (y : Int) : Nat := (1 + y / 2 % 2).toNat
def G4 (y : Int) : List Int := ap (bI y) (qq y)
def G5 (y : Int) : Sg := ⟨G4 y, [], [], false⟩
def xv (y : Int) (n : Nat) : Sg := ⟨G4 y, List.replicate n 2, [], true⟩
def sR (y : Int) (k : Nat) : Rg := ⟨Kf k, bI y k, y / 8 % 2 ^ (bI y k).toNat, dE, ⟨[1, 1, 0].getD (y / 16 % 3).toNat 0, e0, 0⟩⟩
def xw (b : List Int) (y : Int) (i : Nat) : Nat → Nat
 | 0 => i
 | k + 1 => (aQ (G5 y) b (xw b y i k)).2
def vP (b : List Int) (y : Int) (n : Nat) (i : Nat) : Nat → Nat
 | 0 => i
 | k + 1 => (ak (xv y n) b 3 (vP b y n i k) (bI y k)).2
def sS (b : List Int) (y : Int) (n : Nat) (i : Nat) : Nat → Nat
 | 0 => i
 | k + 1 => (ak (xv y n) b 2 (aQ (xv y n) b (sS b y n i k)).2 2).2
def BX (b : List Int) (y : Int) (i : Nat) (e : En) (k : Nat) : Tk := ⟨e.takes.getD k 0, 2, (aQ (G5 y) b (xw b y i k)).1⟩
def JH (b : List Int) (y : Int) (n i k : Nat) : Rg := { sR y k with next := (ak (xv y n) b 3 (vP b y n i k) (bI y k)).1 }
def Ep (b : List Int) (y : Int) (n i : Nat) (e : En) (k : Nat) : Pt := ⟨e.puts.getD k 0, 2, (aQ (xv y n) b (sS b y n i k)).1, (ak (xv y n) b 2 (aQ (xv y n) b (sS b y n i k)).2 2).1⟩
def JI (y : Int) : ByteArray := [Kd, Ke].getD (y % 2).toNat e0
def lw (b : List Int) (i : Nat) (e : En) : Nat := xw b (b.getD i 0) (i + 1) e.takes.length
def kC (b : List Int) (i : Nat) (e : En) : Nat := vP b (b.getD i 0) e.takes.length (lw b i e) (qq (b.getD i 0))
def bA (b : List Int) (i : Nat) (nm : ByteArray) (e : En) : Pr × Nat :=
 (⟨nm, JI (b.getD i 0), ap (JH b (b.getD i 0) e.takes.length (lw b i e)) (qq (b.getD i 0)), [], ap (BX b (b.getD i 0) (i + 1) e) e.takes.length, ap (Ep b (b.getD i 0) e.takes.length (kC b i e) e) e.puts.length⟩,
  sS b (b.getD i 0) e.takes.length (kC b i e) e.puts.length)
def aj (s : Int) : List En :=
 if s % 6 = 0 then [⟨[0], [1]⟩]
 else if s % 6 = 1 then [⟨[0], [1]⟩, ⟨[1], [2]⟩]
 else if s % 6 = 2 then [⟨[0], [1, 2]⟩, ⟨[1], [3]⟩, ⟨[2], [4]⟩]
 else if s % 6 = 3 then [⟨[0, 2], [1]⟩, ⟨[1], [2, 3]⟩]
 else if s % 6 = 4 then [⟨[0], [2]⟩, ⟨[1], [3]⟩, ⟨[2, 3], [4]⟩]
 else [⟨[0], [1]⟩, ⟨[1], [2]⟩, ⟨[2], [3]⟩, ⟨[3], [4]⟩]
theorem vQ {s : Sg} {b : List Int} {i : Nat} (h : b.getD i 0 % 4 = 1) : aQ s b i = ak s b 2 (i + 1) 1 := if_pos h
theorem vR {s : Sg} {b : List Int} {i : Nat} (h : ¬b.getD i 0 % 4 = 1) : aQ s b i = (fm, i + 1) := if_neg h
def qR (l : List Int) (n : Int) : Bool := !de (fun i => !decide (l.getD i 0 = n)) l.length
theorem xx {l : List Int} {n : Int} {i : Nat} (hi : i < l.length) (h : l.getD i 0 = n) : qR l n = true := by
 unfold qR; rw [fN hi (by rw [decide_eq_true h]; rfl)]; rfl
theorem Aw {l : List Int} {n : Int} (h : ∀ i, i < l.length → ¬l.getD i 0 = n) : qR l n = false := by
 unfold qR; rw [bP.2 (fun i hi => by rw [decide_eq_false (h i hi)]; rfl)]; rfl
theorem un {x w : Int} (h0 : 0 ≤ w) (h6 : w ≤ 62) : IntKind.wrap .i64 ((BitVec.ofInt (IntKind.i64).bits x &&& BitVec.ofInt (IntKind.i64).bits (ah w)).toNat : Int) = x % 2 ^ w.toNat := by
 rw [cu h0 h6]; exact jd (by omega)
theorem vS {s : Sg} {b : List Int} (hb : kz b) {d i : Nat} {w : Int} (hd : d ≤ 3) (h1 : 1 ≤ w) (h2 : w + d ≤ 8) : i ≤ (ak s b d i w).2 ∧ (ak s b d i w).2 ≤ i + 64 := by
 have h := (sn (s := s) hb d i w hd h1 h2).2.2
 have : 4 ^ d ≤ 4 ^ 3 := Nat.pow_le_pow_right (by omega) hd
 omega
theorem sT {s : Sg} {b : List Int} (hb : kz b) {i : Nat} : i ≤ (aQ s b i).2 ∧ (aQ s b i).2 ≤ i + 100 := by
 unfold aQ
 split
 ·have := vS (s := s) hb (d := 2) (i := i + 1) (w := 1) (by omega) (by omega) (by omega); omega
 ·simp only; omega
theorem vU (y : Int) (k : Nat) : 1 ≤ bI y k ∧ bI y k ≤ 2 := by unfold bI; omega
theorem rq {b : List Int} (hb : kz b) (y : Int) (i : Nat) : ∀ k, i ≤ xw b y i k ∧ xw b y i k ≤ i + 100 * k
 | 0 => ⟨Nat.le_refl _, Nat.le_refl _⟩
 | k + 1 => by
  have h1 := rq hb y i k
  have h2 := sT (s := G5 y) hb (i := xw b y i k)
  rw [xw]; omega
theorem rr {b : List Int} (hb : kz b) (y : Int) (n i : Nat) : ∀ k, i ≤ vP b y n i k ∧ vP b y n i k ≤ i + 100 * k
 | 0 => ⟨Nat.le_refl _, Nat.le_refl _⟩
 | k + 1 => by
  have h1 := rr hb y n i k
  have h3 := vU y k
  have h2 := vS (s := xv y n) hb (d := 3) (i := vP b y n i k) (w := bI y k) (by omega) (by omega) (by omega)
  rw [vP]; omega
theorem vV {b : List Int} (hb : kz b) (y : Int) (n i : Nat) : ∀ k, i ≤ sS b y n i k ∧ sS b y n i k ≤ i + 200 * k
 | 0 => ⟨Nat.le_refl _, Nat.le_refl _⟩
 | k + 1 => by
  have h1 := vV hb y n i k
  have h3 := sT (s := xv y n) hb (i := sS b y n i k)
  have h2 := vS (s := xv y n) hb (d := 2) (i := (aQ (xv y n) b (sS b y n i k)).2) (w := 2) (by omega) (by omega) (by omega)
  rw [sS]; omega
theorem zb {y : Int} (h : 0 ≤ y) : (qq y : Int) = 1 + y / 2 % 2 ∧ qq y ≤ 2 := by unfold qq; omega
def BM (b : List Int) (l : List En) : Nat → Nat
 | 0 => 0
 | i + 1 => (bA b (BM b l i) (J8 i) (l.getD i cG)).2
def qM (b : List Int) (l : List En) (i : Nat) : Pr := (bA b (BM b l i) (J8 i) (l.getD i cG)).1
def HZ (l : List Int) (a : Int) : Nat → Int
 | 0 => a
 | k + 1 => FX (HZ l a k) (l.getD k 0)
def po (l : List En) : Nat → Int
 | 0 => 0
 | i + 1 => HZ (l.getD i cG).puts (po l i) (l.getD i cG).puts.length
def v8 (l : List En) (n : Int) : Nat → Int
 | 0 => -1
 | i + 1 => if qR (l.getD i cG).takes n = true then (i : Int) else v8 l n i
def v9 (l : List En) (n : Int) : Nat → Int
 | 0 => -1
 | i + 1 => if qR (l.getD i cG).puts n = true then (i : Int) else v9 l n i
def s4 (sh : Int) (l : List En) (n : Nat) : Ch := ⟨JG n, 2, if 0 ≤ v9 l n l.length ∧ 0 ≤ v8 l n l.length then 1 + (sh / 6 + n) % 3 else 0, v9 l n l.length, v8 l n l.length⟩
def kD (sh : Int) : Nat := (po (aj sh) (aj sh).length).toNat + 1
def ae (sh : Int) (b : List Int) : Ci := ⟨ap (qM b (aj sh)) (aj sh).length, ap (s4 sh (aj sh)) (kD sh)⟩
theorem kd (sh : Int) : aj sh = [⟨[0], [1]⟩] ∨ aj sh = [⟨[0], [1]⟩, ⟨[1], [2]⟩] ∨ aj sh = [⟨[0], [1, 2]⟩, ⟨[1], [3]⟩, ⟨[2], [4]⟩] ∨ aj sh = [⟨[0, 2], [1]⟩, ⟨[1], [2, 3]⟩] ∨ aj sh = [⟨[0], [2]⟩, ⟨[1], [3]⟩, ⟨[2, 3], [4]⟩] ∨ aj sh = [⟨[0], [1]⟩, ⟨[1], [2]⟩, ⟨[2], [3]⟩, ⟨[3], [4]⟩] := by
 unfold aj
 split
 ·exact .inl rfl
 split
 ·exact .inr (.inl rfl)
 split
 ·exact .inr (.inr (.inl rfl))
 split
 ·exact .inr (.inr (.inr (.inl rfl)))
 split
 ·exact .inr (.inr (.inr (.inr (.inl rfl))))
 ·exact .inr (.inr (.inr (.inr (.inr rfl))))
theorem xy (sh : Int) : 1 ≤ (aj sh).length ∧ (aj sh).length ≤ 4 := by
 rcases kd sh with h | h | h | h | h | h <;> rw [h] <;> decide
theorem ms (sh : Int) (i : Nat) : ((aj sh).getD i cG).takes.length ≤ 2 ∧ ((aj sh).getD i cG).puts.length ≤ 2 := by
 have key : ∀ e ∈ aj sh, e.takes.length ≤ 2 ∧ e.puts.length ≤ 2 := by
  rcases kd sh with h | h | h | h | h | h <;> rw [h] <;> simp
 by_cases hi : i < (aj sh).length
 ·rw [eZ _ _ hi]; exact key _ (List.getElem_mem hi)
 ·rw [List.getD, List.getElem?_eq_none (by omega)]; decide
theorem Ax (sh : Int) : 0 ≤ po (aj sh) (aj sh).length ∧ po (aj sh) (aj sh).length ≤ 4 := by
 rcases kd sh with h | h | h | h | h | h <;> rw [h] <;> decide
theorem D1 (sh : Int) : (kD sh : Int) = po (aj sh) (aj sh).length + 1 ∧ kD sh ≤ 5 := by
 have := Ax sh; unfold kD; omega
theorem Ay {b : List Int} (hb : kz b) (sh : Int) : ∀ i, BM b (aj sh) i ≤ 1000 * i
 | 0 => Nat.le_refl _
 | i + 1 => by
  have h1 := Ay hb sh i
  have he := ms sh i
  rw [BM]
  unfold bA
  simp only
  generalize BM b (aj sh) i = p at *
  generalize (aj sh).getD i cG = e at *
  have hy := dQ hb p
  have hn := zb hy.1
  have a1 : p + 1 ≤ lw b p e ∧ lw b p e ≤ p + 1 + 100 * e.takes.length := rq hb (b.getD p 0) (p + 1) e.takes.length
  have a2 : lw b p e ≤ kC b p e ∧ kC b p e ≤ lw b p e + 100 * qq (b.getD p 0) := rr hb (b.getD p 0) e.takes.length (lw b p e) (qq (b.getD p 0))
  have a3 := vV hb (b.getD p 0) e.takes.length (kC b p e) e.puts.length
  omega
theorem D2 (l : List En) (n : Int) : ∀ i, -1 ≤ v8 l n i ∧ v8 l n i < i
 | 0 => by simp [v8]
 | i + 1 => by have := D2 l n i; rw [v8]; split <;> omega
theorem D3 (l : List En) (n : Int) : ∀ i, -1 ≤ v9 l n i ∧ v9 l n i < i
 | 0 => by simp [v9]
 | i + 1 => by have := D3 l n i; rw [v9]; split <;> omega
theorem FO {x : Int} (h0 : 0 ≤ x) (h1 : x ≤ 255) : IntKind.wrap .u8 x = x := J3 rfl h0 h1
def rt (b : List Int) (i : Nat) : Nat := (b.getD i 0 % 7).toNat
def te (b : List Int) (i : Nat) (w : Int) (k : Nat) : Int := b.getD (i + (1 + k)) 0 % 2 ^ w.toNat
def s5 (c : Ci) (b : List Int) : Nat → Ns × Nat
 | 0 => (av c, 0)
 | i + 1 => if 0 ≤ (f6 c i).frm then s5 c b i else (gv (s5 c b i).1 i (ap (te b (s5 c b i).2 (f6 c i).w) (rt b (s5 c b i).2)), (s5 c b i).2 + (1 + rt b (s5 c b i).2))
def dZ (c : Ci) (b : List Int) : Ns := (s5 c b c.chans.length).1
theorem D4 {b : List Int} (hb : kz b) (i : Nat) : rt b i ≤ 6 ∧ (rt b i : Int) = b.getD i 0 % 7 := by
 have := dQ hb i; unfold rt; omega
theorem D5 {c : Ci} {b : List Int} {i : Nat} (h : 0 ≤ (f6 c i).frm) : s5 c b (i + 1) = s5 c b i := by rw [s5, if_pos h]
theorem zc {c : Ci} {b : List Int} {i : Nat} (h : ¬0 ≤ (f6 c i).frm) : s5 c b (i + 1) = (gv (s5 c b i).1 i (ap (te b (s5 c b i).2 (f6 c i).w) (rt b (s5 c b i).2)), (s5 c b i).2 + (1 + rt b (s5 c b i).2)) := by rw [s5, if_neg h]
def d4 (c : Ci) (s : Ns) (l : List Int) : Ns := l.foldl (fun u k => aA c u (cN (k % c.procs.length))) s
theorem BN {c : Ci} {s : Ns} {l : List Int} {i : Nat} (h : i < l.length) : d4 c s (l.take (i + 1)) = aA c (d4 c s (l.take i)) (cN (l.getD i 0 % c.procs.length)) := by
 unfold d4
 rw [List.take_succ_eq_append_getElem h, List.foldl_append]
 simp [List.getD, List.getElem?_eq_getElem h]
theorem JJ {x : Int} (h0 : 0 ≤ x) (h1 : x ≤ 255) : IntKind.wrap .u8 (Int.tdiv x 6) = x / 6 := by
 rw [Int.tdiv_eq_ediv_of_nonneg h0]; exact FO (by omega) (by omega)
theorem D6 {sh : Int} {l : List En} {n : Nat} {fr to : Int} (h1 : 0 ≤ v9 l n l.length) (h2 : 0 ≤ v8 l n l.length) (h3 : fr = v9 l n l.length) (h4 : to = v8 l n l.length) : (⟨JG n, 2, 1 + (sh / 6 + n) % 3, fr, to⟩ : Ch) = s4 sh l n := by
 unfold s4; rw [if_pos ⟨h1, h2⟩, h3, h4]
theorem D7 {sh : Int} {l : List En} {n : Nat} {fr to : Int} (h : ¬(0 ≤ v9 l n l.length ∧ 0 ≤ v8 l n l.length)) (h3 : fr = v9 l n l.length) (h4 : to = v8 l n l.length) : (⟨JG n, 2, 0, fr, to⟩ : Ch) = s4 sh l n := by
 unfold s4; rw [if_neg h, h3, h4]
end Go.Proofs.YtifoecfajmnjjaaGreat
