/-
  Made circuits, plain data.
-/
import Derived.Test.YtgmpoenfoacofaaGreatQNeK
namespace Go.Proofs.YtgmpoenfoacofaaGreat
open Go.RowKit
set_option linter.unusedVariables false
set_option linter.unusedSimpArgs false
structure En where
 takes : List Int
 puts : List Int
def pF (e : En) : List V := [.sl 1 (ae .i64) 0 e.takes, .sl 1 (ae .i64) 0 e.puts]
abbrev co : En := ⟨[], []⟩
def fw : Ex := ⟨1, e0, ⟨1, e0⟩, ⟨1, e0⟩, []⟩
def aH (s : Sg) (b : List Int) (i : Nat) : Ex × Nat := if b.getD i 0 % 4 = 1 then ak s b 2 (i + 1) 1 else (fw, i + 1)
def L8 : ByteArray := bs [97]
def L9 : ByteArray := bs [98]
def Ma (k : Nat) : ByteArray := [bs [114], bs [115]].getD k e0
def L0 (k : Nat) : ByteArray := [bs [112], bs [113], bs [117], bs [118]].getD k e0
def Lw (k : Nat) : ByteArray := [bs [99, 48], bs [99, 49], bs [99, 50], bs [99, 51], bs [99, 52]].getD k e0
def bz (y : Int) (k : Nat) : Int := 1 + (y / 4 + k) % 2
def qJ (y : Int) : Nat := (1 + y / 2 % 2).toNat
def I4 (y : Int) : List Int := tab (bz y) (qJ y)
def I5 (y : Int) : Sg := ⟨I4 y, [], [], false⟩
def y4 (y : Int) (n : Nat) : Sg := ⟨I4 y, List.replicate n 2, [], true⟩
def uj (y : Int) (k : Nat) : Rg := ⟨Ma k, bz y k, y / 8 % 2 ^ (bz y k).toNat, dE, ⟨[1, 1, 0].getD (y / 16 % 3).toNat 0, e0, 0⟩⟩
def y5 (b : List Int) (y : Int) (i : Nat) : Nat → Nat
 | 0 => i
 | k + 1 => (aH (I5 y) b (y5 b y i k)).2
def xA (b : List Int) (y : Int) (n : Nat) (i : Nat) : Nat → Nat
 | 0 => i
 | k + 1 => (ak (y4 y n) b 3 (xA b y n i k) (bz y k)).2
def uk (b : List Int) (y : Int) (n : Nat) (i : Nat) : Nat → Nat
 | 0 => i
 | k + 1 => (ak (y4 y n) b 2 (aH (y4 y n) b (uk b y n i k)).2 2).2
def Du (b : List Int) (y : Int) (i : Nat) (e : En) (k : Nat) : Tk := ⟨e.takes.getD k 0, 2, (aH (I5 y) b (y5 b y i k)).1⟩
def Lx (b : List Int) (y : Int) (n i k : Nat) : Rg := { uj y k with next := (ak (y4 y n) b 3 (xA b y n i k) (bz y k)).1 }
def F0 (b : List Int) (y : Int) (n i : Nat) (e : En) (k : Nat) : Pt := ⟨e.puts.getD k 0, 2, (aH (y4 y n) b (uk b y n i k)).1, (ak (y4 y n) b 2 (aH (y4 y n) b (uk b y n i k)).2 2).1⟩
def Ly (y : Int) : ByteArray := [L8, L9].getD (y % 2).toNat e0
def lu (b : List Int) (i : Nat) (e : En) : Nat := y5 b (b.getD i 0) (i + 1) e.takes.length
def kx (b : List Int) (i : Nat) (e : En) : Nat := xA b (b.getD i 0) e.takes.length (lu b i e) (qJ (b.getD i 0))
def bl (b : List Int) (i : Nat) (nm : ByteArray) (e : En) : Pr × Nat :=
 (⟨nm, Ly (b.getD i 0), tab (Lx b (b.getD i 0) e.takes.length (lu b i e)) (qJ (b.getD i 0)), [], tab (Du b (b.getD i 0) (i + 1) e) e.takes.length, tab (F0 b (b.getD i 0) e.takes.length (kx b i e) e) e.puts.length⟩,
  uk b (b.getD i 0) e.takes.length (kx b i e) e.puts.length)
def aj (s : Int) : List En :=
 if s % 6 = 0 then [⟨[0], [1]⟩]
 else if s % 6 = 1 then [⟨[0], [1]⟩, ⟨[1], [2]⟩]
 else if s % 6 = 2 then [⟨[0], [1, 2]⟩, ⟨[1], [3]⟩, ⟨[2], [4]⟩]
 else if s % 6 = 3 then [⟨[0, 2], [1]⟩, ⟨[1], [2, 3]⟩]
 else if s % 6 = 4 then [⟨[0], [2]⟩, ⟨[1], [3]⟩, ⟨[2, 3], [4]⟩]
 else [⟨[0], [1]⟩, ⟨[1], [2]⟩, ⟨[2], [3]⟩, ⟨[3], [4]⟩]
theorem xB {s : Sg} {b : List Int} {i : Nat} (h : b.getD i 0 % 4 = 1) : aH s b i = ak s b 2 (i + 1) 1 := if_pos h
theorem xC {s : Sg} {b : List Int} {i : Nat} (h : ¬b.getD i 0 % 4 = 1) : aH s b i = (fw, i + 1) := if_neg h
def rK (l : List Int) (n : Int) : Bool := !cJ (fun i => !decide (l.getD i 0 = n)) l.length
theorem y6 {l : List Int} {n : Int} {i : Nat} (hi : i < l.length) (h : l.getD i 0 = n) : rK l n = true := by
 unfold rK; rw [lN hi (by rw [decide_eq_true h]; rfl)]; rfl
theorem B2 {l : List Int} {n : Int} (h : ∀ i, i < l.length → ¬l.getD i 0 = n) : rK l n = false := by
 unfold rK; rw [cF.2 (fun i hi => by rw [decide_eq_false (h i hi)]; rfl)]; rfl
theorem v8 {x w : Int} (h0 : 0 ≤ w) (h6 : w ≤ 62) : IntKind.wrap .i64 ((BitVec.ofInt (IntKind.i64).bits x &&& BitVec.ofInt (IntKind.i64).bits (ah w)).toNat : Int) = x % 2 ^ w.toNat := by
 rw [cr h0 h6]; exact jg (by omega)
theorem xD {s : Sg} {b : List Int} (hb : iG b) {d i : Nat} {w : Int} (hd : d ≤ 3) (h1 : 1 ≤ w) (h2 : w + d ≤ 8) : i ≤ (ak s b d i w).2 ∧ (ak s b d i w).2 ≤ i + 64 := by
 have h := (tD (s := s) hb d i w hd h1 h2).2.2
 have : 4 ^ d ≤ 4 ^ 3 := Nat.pow_le_pow_right (by omega) hd
 omega
theorem un {s : Sg} {b : List Int} (hb : iG b) {i : Nat} : i ≤ (aH s b i).2 ∧ (aH s b i).2 ≤ i + 100 := by
 unfold aH
 split
 ·have := xD (s := s) hb (d := 2) (i := i + 1) (w := 1) (by omega) (by omega) (by omega); omega
 ·simp only; omega
theorem xE (y : Int) (k : Nat) : 1 ≤ bz y k ∧ bz y k ≤ 2 := by unfold bz; omega
theorem sv {b : List Int} (hb : iG b) (y : Int) (i : Nat) : ∀ k, i ≤ y5 b y i k ∧ y5 b y i k ≤ i + 100 * k
 | 0 => ⟨Nat.le_refl _, Nat.le_refl _⟩
 | k + 1 => by
  have h1 := sv hb y i k
  have h2 := un (s := I5 y) hb (i := y5 b y i k)
  rw [y5]; omega
theorem sw {b : List Int} (hb : iG b) (y : Int) (n i : Nat) : ∀ k, i ≤ xA b y n i k ∧ xA b y n i k ≤ i + 100 * k
 | 0 => ⟨Nat.le_refl _, Nat.le_refl _⟩
 | k + 1 => by
  have h1 := sw hb y n i k
  have h3 := xE y k
  have h2 := xD (s := y4 y n) hb (d := 3) (i := xA b y n i k) (w := bz y k) (by omega) (by omega) (by omega)
  rw [xA]; omega
theorem xF {b : List Int} (hb : iG b) (y : Int) (n i : Nat) : ∀ k, i ≤ uk b y n i k ∧ uk b y n i k ≤ i + 200 * k
 | 0 => ⟨Nat.le_refl _, Nat.le_refl _⟩
 | k + 1 => by
  have h1 := xF hb y n i k
  have h3 := un (s := y4 y n) hb (i := uk b y n i k)
  have h2 := xD (s := y4 y n) hb (d := 2) (i := (aH (y4 y n) b (uk b y n i k)).2) (w := 2) (by omega) (by omega) (by omega)
  rw [uk]; omega
theorem Av {y : Int} (h : 0 ≤ y) : (qJ y : Int) = 1 + y / 2 % 2 ∧ qJ y ≤ 2 := by unfold qJ; omega
def Dk (b : List Int) (l : List En) : Nat → Nat
 | 0 => 0
 | i + 1 => (bl b (Dk b l i) (L0 i) (l.getD i co)).2
def rC (b : List Int) (l : List En) (i : Nat) : Pr := (bl b (Dk b l i) (L0 i) (l.getD i co)).1
def J3 (l : List Int) (a : Int) : Nat → Int
 | 0 => a
 | k + 1 => HL (J3 l a k) (l.getD k 0)
def pG (l : List En) : Nat → Int
 | 0 => 0
 | i + 1 => J3 (l.getD i co).puts (pG l i) (l.getD i co).puts.length
def xP (l : List En) (n : Int) : Nat → Int
 | 0 => -1
 | i + 1 => if rK (l.getD i co).takes n = true then (i : Int) else xP l n i
def xQ (l : List En) (n : Int) : Nat → Int
 | 0 => -1
 | i + 1 => if rK (l.getD i co).puts n = true then (i : Int) else xQ l n i
def uE (sh : Int) (l : List En) (n : Nat) : Ch := ⟨Lw n, 2, if 0 ≤ xQ l n l.length ∧ 0 ≤ xP l n l.length then 1 + (sh / 6 + n) % 3 else 0, xQ l n l.length, xP l n l.length⟩
def ky (sh : Int) : Nat := (pG (aj sh) (aj sh).length).toNat + 1
def aa (sh : Int) (b : List Int) : Ci := ⟨tab (rC b (aj sh)) (aj sh).length, tab (uE sh (aj sh)) (ky sh)⟩
theorem j9 (sh : Int) : aj sh = [⟨[0], [1]⟩] ∨ aj sh = [⟨[0], [1]⟩, ⟨[1], [2]⟩] ∨ aj sh = [⟨[0], [1, 2]⟩, ⟨[1], [3]⟩, ⟨[2], [4]⟩] ∨ aj sh = [⟨[0, 2], [1]⟩, ⟨[1], [2, 3]⟩] ∨ aj sh = [⟨[0], [2]⟩, ⟨[1], [3]⟩, ⟨[2, 3], [4]⟩] ∨ aj sh = [⟨[0], [1]⟩, ⟨[1], [2]⟩, ⟨[2], [3]⟩, ⟨[3], [4]⟩] := by
 unfold aj
 split
 ·exact .inl rfl
 split
 ·exact .inr (.inl rfl)
 split
 ·exact .inr (.inr (.inl rfl))
 split
 ·exact .inr (.inr (.inr (.inl rfl)))
 split
 ·exact .inr (.inr (.inr (.inr (.inl rfl))))
 ·exact .inr (.inr (.inr (.inr (.inr rfl))))
theorem y7 (sh : Int) : 1 ≤ (aj sh).length ∧ (aj sh).length ≤ 4 := by
 rcases j9 sh with h | h | h | h | h | h <;> rw [h] <;> decide
theorem me (sh : Int) (i : Nat) : ((aj sh).getD i co).takes.length ≤ 2 ∧ ((aj sh).getD i co).puts.length ≤ 2 := by
 have key : ∀ e ∈ aj sh, e.takes.length ≤ 2 ∧ e.puts.length ≤ 2 := by
  rcases j9 sh with h | h | h | h | h | h <;> rw [h] <;> simp
 by_cases hi : i < (aj sh).length
 ·rw [ip _ _ hi]; exact key _ (List.getElem_mem hi)
 ·rw [List.getD, List.getElem?_eq_none (by omega)]; decide
theorem B3 (sh : Int) : 0 ≤ pG (aj sh) (aj sh).length ∧ pG (aj sh) (aj sh).length ≤ 4 := by
 rcases j9 sh with h | h | h | h | h | h <;> rw [h] <;> decide
theorem FC (sh : Int) : (ky sh : Int) = pG (aj sh) (aj sh).length + 1 ∧ ky sh ≤ 5 := by
 have := B3 sh; unfold ky; omega
theorem B4 {b : List Int} (hb : iG b) (sh : Int) : ∀ i, Dk b (aj sh) i ≤ 1000 * i
 | 0 => Nat.le_refl _
 | i + 1 => by
  have h1 := B4 hb sh i
  have he := me sh i
  rw [Dk]
  unfold bl
  simp only
  generalize Dk b (aj sh) i = p at *
  generalize (aj sh).getD i co = e at *
  have hy := dC hb p
  have hn := Av hy.1
  have a1 : p + 1 ≤ lu b p e ∧ lu b p e ≤ p + 1 + 100 * e.takes.length := sv hb (b.getD p 0) (p + 1) e.takes.length
  have a2 : lu b p e ≤ kx b p e ∧ kx b p e ≤ lu b p e + 100 * qJ (b.getD p 0) := sw hb (b.getD p 0) e.takes.length (lu b p e) (qJ (b.getD p 0))
  have a3 := xF hb (b.getD p 0) e.takes.length (kx b p e) e.puts.length
  omega
theorem FD (l : List En) (n : Int) : ∀ i, -1 ≤ xP l n i ∧ xP l n i < i
 | 0 => by simp [xP]
 | i + 1 => by have := FD l n i; rw [xP]; split <;> omega
theorem FE (l : List En) (n : Int) : ∀ i, -1 ≤ xQ l n i ∧ xQ l n i < i
 | 0 => by simp [xQ]
 | i + 1 => by have := FE l n i; rw [xQ]; split <;> omega
theorem HF {x : Int} (h0 : 0 ≤ x) (h1 : x ≤ 255) : IntKind.wrap .u8 x = x := Kw rfl h0 h1
def sx (b : List Int) (i : Nat) : Nat := (b.getD i 0 % 7).toNat
def uS (b : List Int) (i : Nat) (w : Int) (k : Nat) : Int := b.getD (i + (1 + k)) 0 % 2 ^ w.toNat
def uF (c : Ci) (b : List Int) : Nat → Ns × Nat
 | 0 => (aB c, 0)
 | i + 1 => if 0 ≤ (gG c i).frm then uF c b i else (ec (uF c b i).1 i (tab (uS b (uF c b i).2 (gG c i).w) (sx b (uF c b i).2)), (uF c b i).2 + (1 + sx b (uF c b i).2))
def b3 (c : Ci) (b : List Int) : Ns := (uF c b c.chans.length).1
theorem FF {b : List Int} (hb : iG b) (i : Nat) : sx b i ≤ 6 ∧ (sx b i : Int) = b.getD i 0 % 7 := by
 have := dC hb i; unfold sx; omega
theorem FG {c : Ci} {b : List Int} {i : Nat} (h : 0 ≤ (gG c i).frm) : uF c b (i + 1) = uF c b i := by rw [uF, if_pos h]
theorem Aw {c : Ci} {b : List Int} {i : Nat} (h : ¬0 ≤ (gG c i).frm) : uF c b (i + 1) = (ec (uF c b i).1 i (tab (uS b (uF c b i).2 (gG c i).w) (sx b (uF c b i).2)), (uF c b i).2 + (1 + sx b (uF c b i).2)) := by rw [uF, if_neg h]
def cH (c : Ci) (s : Ns) (l : List Int) : Ns := l.foldl (fun u k => bj c u (uP (k % c.procs.length))) s
theorem Dl {c : Ci} {s : Ns} {l : List Int} {i : Nat} (h : i < l.length) : cH c s (l.take (i + 1)) = bj c (cH c s (l.take i)) (uP (l.getD i 0 % c.procs.length)) := by
 unfold cH
 rw [List.take_succ_eq_append_getElem h, List.foldl_append]
 simp [List.getD, List.getElem?_eq_getElem h]
theorem Lz {x : Int} (h0 : 0 ≤ x) (h1 : x ≤ 255) : IntKind.wrap .u8 (Int.tdiv x 6) = x / 6 := by
 rw [Int.tdiv_eq_ediv_of_nonneg h0]; exact HF (by omega) (by omega)
theorem FH {sh : Int} {l : List En} {n : Nat} {fr to : Int} (h1 : 0 ≤ xQ l n l.length) (h2 : 0 ≤ xP l n l.length) (h3 : fr = xQ l n l.length) (h4 : to = xP l n l.length) : (⟨Lw n, 2, 1 + (sh / 6 + n) % 3, fr, to⟩ : Ch) = uE sh l n := by
 unfold uE; rw [if_pos ⟨h1, h2⟩, h3, h4]
theorem FI {sh : Int} {l : List En} {n : Nat} {fr to : Int} (h : ¬(0 ≤ xQ l n l.length ∧ 0 ≤ xP l n l.length)) (h3 : fr = xQ l n l.length) (h4 : to = xP l n l.length) : (⟨Lw n, 2, 0, fr, to⟩ : Ch) = uE sh l n := by
 unfold uE; rw [if_neg h, h3, h4]
end Go.Proofs.YtgmpoenfoacofaaGreat
