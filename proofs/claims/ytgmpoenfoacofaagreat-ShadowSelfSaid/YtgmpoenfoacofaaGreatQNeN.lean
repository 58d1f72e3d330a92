/-
  Made circuits, plain data.
-/
import Derived.Test.YtgmpoenfoacofaaGreatQBitR
namespace Go.Proofs.YtgmpoenfoacofaaGreat
open Go.RowKit
set_option linter.unusedVariables false
set_option linter.unusedSimpArgs false
structure En where
 takes : List Int
 puts : List Int
def pQ (e : En) : List V := [.sl 1 (ae .i64) 0 e.takes, .sl 1 (ae .i64) 0 e.puts]
abbrev cI : En := ⟨[], []⟩
def fJ : Ex := ⟨1, e0, ⟨1, e0⟩, ⟨1, e0⟩, []⟩
def aL (s : Sg) (b : List Int) (i : Nat) : Ex × Nat := if b.getD i 0 % 4 = 1 then ak s b 2 (i + 1) 1 else (fJ, i + 1)
def MN : ByteArray := bs [97]
def MO : ByteArray := bs [98]
def MP (k : Nat) : ByteArray := [bs [114], bs [115]].getD k e0
def MF (k : Nat) : ByteArray := [bs [112], bs [113], bs [117], bs [118]].getD k e0
def Mh (k : Nat) : ByteArray := [bs [99, 48], bs [99, 49], bs [99, 50], bs [99, 51], bs [99, 52]].getD k e0
def bB (y : Int) (k : Nat) : Int := 1 + (y / 4 + k) % 2
def rb (y : Int) : Nat := (1 + y / 2 % 2).toNat
def JT (y : Int) : List Int := tab (bB y) (rb y)
def JU (y : Int) : Sg := ⟨JT y, [], [], false⟩
def zA (y : Int) (n : Nat) : Sg := ⟨JT y, List.replicate n 2, [], true⟩
def uG (y : Int) (k : Nat) : Rg := ⟨MP k, bB y k, y / 8 % 2 ^ (bB y k).toNat, dE, ⟨[1, 1, 0].getD (y / 16 % 3).toNat 0, e0, 0⟩⟩
def zB (b : List Int) (y : Int) (i : Nat) : Nat → Nat
 | 0 => i
 | k + 1 => (aL (JU y) b (zB b y i k)).2
def xY (b : List Int) (y : Int) (n : Nat) (i : Nat) : Nat → Nat
 | 0 => i
 | k + 1 => (ak (zA y n) b 3 (xY b y n i k) (bB y k)).2
def uH (b : List Int) (y : Int) (n : Nat) (i : Nat) : Nat → Nat
 | 0 => i
 | k + 1 => (ak (zA y n) b 2 (aL (zA y n) b (uH b y n i k)).2 2).2
def Ej (b : List Int) (y : Int) (i : Nat) (e : En) (k : Nat) : Tk := ⟨e.takes.getD k 0, 2, (aL (JU y) b (zB b y i k)).1⟩
def Mi (b : List Int) (y : Int) (n i k : Nat) : Rg := { uG y k with next := (ak (zA y n) b 3 (xY b y n i k) (bB y k)).1 }
def GN (b : List Int) (y : Int) (n i : Nat) (e : En) (k : Nat) : Pt := ⟨e.puts.getD k 0, 2, (aL (zA y n) b (uH b y n i k)).1, (ak (zA y n) b 2 (aL (zA y n) b (uH b y n i k)).2 2).1⟩
def Mj (y : Int) : ByteArray := [MN, MO].getD (y % 2).toNat e0
def lM (b : List Int) (i : Nat) (e : En) : Nat := zB b (b.getD i 0) (i + 1) e.takes.length
def kR (b : List Int) (i : Nat) (e : En) : Nat := xY b (b.getD i 0) e.takes.length (lM b i e) (rb (b.getD i 0))
def bu (b : List Int) (i : Nat) (nm : ByteArray) (e : En) : Pr × Nat :=
 (⟨nm, Mj (b.getD i 0), tab (Mi b (b.getD i 0) e.takes.length (lM b i e)) (rb (b.getD i 0)), [], tab (Ej b (b.getD i 0) (i + 1) e) e.takes.length, tab (GN b (b.getD i 0) e.takes.length (kR b i e) e) e.puts.length⟩,
  uH b (b.getD i 0) e.takes.length (kR b i e) e.puts.length)
def aj (s : Int) : List En :=
 if s % 6 = 0 then [⟨[0], [1]⟩]
 else if s % 6 = 1 then [⟨[0], [1]⟩, ⟨[1], [2]⟩]
 else if s % 6 = 2 then [⟨[0], [1, 2]⟩, ⟨[1], [3]⟩, ⟨[2], [4]⟩]
 else if s % 6 = 3 then [⟨[0, 2], [1]⟩, ⟨[1], [2, 3]⟩]
 else if s % 6 = 4 then [⟨[0], [2]⟩, ⟨[1], [3]⟩, ⟨[2, 3], [4]⟩]
 else [⟨[0], [1]⟩, ⟨[1], [2]⟩, ⟨[2], [3]⟩, ⟨[3], [4]⟩]
theorem xZ {s : Sg} {b : List Int} {i : Nat} (h : b.getD i 0 % 4 = 1) : aL s b i = ak s b 2 (i + 1) 1 := if_pos h
theorem x4 {s : Sg} {b : List Int} {i : Nat} (h : ¬b.getD i 0 % 4 = 1) : aL s b i = (fJ, i + 1) := if_neg h
def r9 (l : List Int) (n : Int) : Bool := !cB (fun i => !decide (l.getD i 0 = n)) l.length
theorem zC {l : List Int} {n : Int} {i : Nat} (hi : i < l.length) (h : l.getD i 0 = n) : r9 l n = true := by
 unfold r9; rw [gF hi (by rw [decide_eq_true h]; rfl)]; rfl
theorem CI {l : List Int} {n : Int} (h : ∀ i, i < l.length → ¬l.getD i 0 = n) : r9 l n = false := by
 unfold r9; rw [br.2 (fun i hi => by rw [decide_eq_false (h i hi)]; rfl)]; rfl
theorem wz {x w : Int} (h0 : 0 ≤ w) (h6 : w ≤ 62) : IntKind.wrap .i64 ((BitVec.ofInt (IntKind.i64).bits x &&& BitVec.ofInt (IntKind.i64).bits (af w)).toNat : Int) = x % 2 ^ w.toNat := by
 rw [ci h0 h6]; exact jp (by omega)
theorem x5 {s : Sg} {b : List Int} (hb : ik b) {d i : Nat} {w : Int} (hd : d ≤ 3) (h1 : 1 ≤ w) (h2 : w + d ≤ 8) : i ≤ (ak s b d i w).2 ∧ (ak s b d i w).2 ≤ i + 64 := by
 have h := (tT (s := s) hb d i w hd h1 h2).2.2
 have : 4 ^ d ≤ 4 ^ 3 := Nat.pow_le_pow_right (by omega) hd
 omega
theorem uI {s : Sg} {b : List Int} (hb : ik b) {i : Nat} : i ≤ (aL s b i).2 ∧ (aL s b i).2 ≤ i + 100 := by
 unfold aL
 split
 ·have := x5 (s := s) hb (d := 2) (i := i + 1) (w := 1) (by omega) (by omega) (by omega); omega
 ·simp only; omega
theorem x6 (y : Int) (k : Nat) : 1 ≤ bB y k ∧ bB y k ≤ 2 := by unfold bB; omega
theorem sK {b : List Int} (hb : ik b) (y : Int) (i : Nat) : ∀ k, i ≤ zB b y i k ∧ zB b y i k ≤ i + 100 * k
 | 0 => ⟨Nat.le_refl _, Nat.le_refl _⟩
 | k + 1 => by
  have h1 := sK hb y i k
  have h2 := uI (s := JU y) hb (i := zB b y i k)
  rw [zB]; omega
theorem sL {b : List Int} (hb : ik b) (y : Int) (n i : Nat) : ∀ k, i ≤ xY b y n i k ∧ xY b y n i k ≤ i + 100 * k
 | 0 => ⟨Nat.le_refl _, Nat.le_refl _⟩
 | k + 1 => by
  have h1 := sL hb y n i k
  have h3 := x6 y k
  have h2 := x5 (s := zA y n) hb (d := 3) (i := xY b y n i k) (w := bB y k) (by omega) (by omega) (by omega)
  rw [xY]; omega
theorem x7 {b : List Int} (hb : ik b) (y : Int) (n i : Nat) : ∀ k, i ≤ uH b y n i k ∧ uH b y n i k ≤ i + 200 * k
 | 0 => ⟨Nat.le_refl _, Nat.le_refl _⟩
 | k + 1 => by
  have h1 := x7 hb y n i k
  have h3 := uI (s := zA y n) hb (i := uH b y n i k)
  have h2 := x5 (s := zA y n) hb (d := 2) (i := (aL (zA y n) b (uH b y n i k)).2) (w := 2) (by omega) (by omega) (by omega)
  rw [uH]; omega
theorem A5 {y : Int} (h : 0 ≤ y) : (rb y : Int) = 1 + y / 2 % 2 ∧ rb y ≤ 2 := by unfold rb; omega
def D9 (b : List Int) (l : List En) : Nat → Nat
 | 0 => 0
 | i + 1 => (bu b (D9 b l i) (MF i) (l.getD i cI)).2
def rV (b : List Int) (l : List En) (i : Nat) : Pr := (bu b (D9 b l i) (MF i) (l.getD i cI)).1
def KS (l : List Int) (a : Int) : Nat → Int
 | 0 => a
 | k + 1 => II (KS l a k) (l.getD k 0)
def pR (l : List En) : Nat → Int
 | 0 => 0
 | i + 1 => KS (l.getD i cI).puts (pR l i) (l.getD i cI).puts.length
def ym (l : List En) (n : Int) : Nat → Int
 | 0 => -1
 | i + 1 => if r9 (l.getD i cI).takes n = true then (i : Int) else ym l n i
def x8 (l : List En) (n : Int) : Nat → Int
 | 0 => -1
 | i + 1 => if r9 (l.getD i cI).puts n = true then (i : Int) else x8 l n i
def sM (sh : Int) (l : List En) (n : Nat) : Ch := ⟨Mh n, 2, if 0 ≤ x8 l n l.length ∧ 0 ≤ ym l n l.length then 1 + (sh / 6 + n) % 3 else 0, x8 l n l.length, ym l n l.length⟩
def jJ (sh : Int) : Nat := (pR (aj sh) (aj sh).length).toNat + 1
def aa (sh : Int) (b : List Int) : Ci := ⟨tab (rV b (aj sh)) (aj sh).length, tab (sM sh (aj sh)) (jJ sh)⟩
theorem iA (sh : Int) : aj sh = [⟨[0], [1]⟩] ∨ aj sh = [⟨[0], [1]⟩, ⟨[1], [2]⟩] ∨ aj sh = [⟨[0], [1, 2]⟩, ⟨[1], [3]⟩, ⟨[2], [4]⟩] ∨ aj sh = [⟨[0, 2], [1]⟩, ⟨[1], [2, 3]⟩] ∨ aj sh = [⟨[0], [2]⟩, ⟨[1], [3]⟩, ⟨[2, 3], [4]⟩] ∨ aj sh = [⟨[0], [1]⟩, ⟨[1], [2]⟩, ⟨[2], [3]⟩, ⟨[3], [4]⟩] := by
 unfold aj
 split
 ·exact .inl rfl
 split
 ·exact .inr (.inl rfl)
 split
 ·exact .inr (.inr (.inl rfl))
 split
 ·exact .inr (.inr (.inr (.inl rfl)))
 split
 ·exact .inr (.inr (.inr (.inr (.inl rfl))))
 ·exact .inr (.inr (.inr (.inr (.inr rfl))))
theorem zD (sh : Int) : 1 ≤ (aj sh).length ∧ (aj sh).length ≤ 4 := by
 rcases iA sh with h | h | h | h | h | h <;> rw [h] <;> decide
theorem mH (sh : Int) (i : Nat) : ((aj sh).getD i cI).takes.length ≤ 2 ∧ ((aj sh).getD i cI).puts.length ≤ 2 := by
 have key : ∀ e ∈ aj sh, e.takes.length ≤ 2 ∧ e.puts.length ≤ 2 := by
  rcases iA sh with h | h | h | h | h | h <;> rw [h] <;> simp
 by_cases hi : i < (aj sh).length
 ·rw [gu _ _ hi]; exact key _ (List.getElem_mem hi)
 ·rw [List.getD, List.getElem?_eq_none (by omega)]; decide
theorem CJ (sh : Int) : 0 ≤ pR (aj sh) (aj sh).length ∧ pR (aj sh) (aj sh).length ≤ 4 := by
 rcases iA sh with h | h | h | h | h | h <;> rw [h] <;> decide
theorem Gr (sh : Int) : (jJ sh : Int) = pR (aj sh) (aj sh).length + 1 ∧ jJ sh ≤ 5 := by
 have := CJ sh; unfold jJ; omega
theorem CL {b : List Int} (hb : ik b) (sh : Int) : ∀ i, D9 b (aj sh) i ≤ 1000 * i
 | 0 => Nat.le_refl _
 | i + 1 => by
  have h1 := CL hb sh i
  have he := mH sh i
  rw [D9]
  unfold bu
  simp only
  generalize D9 b (aj sh) i = p at *
  generalize (aj sh).getD i cI = e at *
  have hy := dH hb p
  have hn := A5 hy.1
  have a1 : p + 1 ≤ lM b p e ∧ lM b p e ≤ p + 1 + 100 * e.takes.length := sK hb (b.getD p 0) (p + 1) e.takes.length
  have a2 : lM b p e ≤ kR b p e ∧ kR b p e ≤ lM b p e + 100 * rb (b.getD p 0) := sL hb (b.getD p 0) e.takes.length (lM b p e) (rb (b.getD p 0))
  have a3 := x7 hb (b.getD p 0) e.takes.length (kR b p e) e.puts.length
  omega
theorem Gs (l : List En) (n : Int) : ∀ i, -1 ≤ ym l n i ∧ ym l n i < i
 | 0 => by simp [ym]
 | i + 1 => by have := Gs l n i; rw [ym]; split <;> omega
theorem Gt (l : List En) (n : Int) : ∀ i, -1 ≤ x8 l n i ∧ x8 l n i < i
 | 0 => by simp [x8]
 | i + 1 => by have := Gt l n i; rw [x8]; split <;> omega
theorem Ix {x : Int} (h0 : 0 ≤ x) (h1 : x ≤ 255) : IntKind.wrap .u8 x = x := Lj rfl h0 h1
def sN (b : List Int) (i : Nat) : Nat := (b.getD i 0 % 7).toNat
def vi (b : List Int) (i : Nat) (w : Int) (k : Nat) : Int := b.getD (i + (1 + k)) 0 % 2 ^ w.toNat
def uX (c : Ci) (b : List Int) : Nat → Ns × Nat
 | 0 => (aD c, 0)
 | i + 1 => if 0 ≤ (cL c i).frm then uX c b i else (fg (uX c b i).1 i (tab (vi b (uX c b i).2 (cL c i).w) (sN b (uX c b i).2)), (uX c b i).2 + (1 + sN b (uX c b i).2))
def ca (c : Ci) (b : List Int) : Ns := (uX c b c.chans.length).1
theorem Gu {b : List Int} (hb : ik b) (i : Nat) : sN b i ≤ 6 ∧ (sN b i : Int) = b.getD i 0 % 7 := by
 have := dH hb i; unfold sN; omega
theorem Gv {c : Ci} {b : List Int} {i : Nat} (h : 0 ≤ (cL c i).frm) : uX c b (i + 1) = uX c b i := by rw [uX, if_pos h]
theorem A6 {c : Ci} {b : List Int} {i : Nat} (h : ¬0 ≤ (cL c i).frm) : uX c b (i + 1) = (fg (uX c b i).1 i (tab (vi b (uX c b i).2 (cL c i).w) (sN b (uX c b i).2)), (uX c b i).2 + (1 + sN b (uX c b i).2)) := by rw [uX, if_neg h]
def cQ (c : Ci) (s : Ns) (l : List Int) : Ns := l.foldl (fun u k => aF c u (qU (k % c.procs.length))) s
theorem Ea {c : Ci} {s : Ns} {l : List Int} {i : Nat} (h : i < l.length) : cQ c s (l.take (i + 1)) = aF c (cQ c s (l.take i)) (qU (l.getD i 0 % c.procs.length)) := by
 unfold cQ
 rw [List.take_succ_eq_append_getElem h, List.foldl_append]
 simp [List.getD, List.getElem?_eq_getElem h]
theorem Ml {x : Int} (h0 : 0 ≤ x) (h1 : x ≤ 255) : IntKind.wrap .u8 (Int.tdiv x 6) = x / 6 := by
 rw [Int.tdiv_eq_ediv_of_nonneg h0]; exact Ix (by omega) (by omega)
theorem Gw {sh : Int} {l : List En} {n : Nat} {fr to : Int} (h1 : 0 ≤ x8 l n l.length) (h2 : 0 ≤ ym l n l.length) (h3 : fr = x8 l n l.length) (h4 : to = ym l n l.length) : (⟨Mh n, 2, 1 + (sh / 6 + n) % 3, fr, to⟩ : Ch) = sM sh l n := by
 unfold sM; rw [if_pos ⟨h1, h2⟩, h3, h4]
theorem Gx {sh : Int} {l : List En} {n : Nat} {fr to : Int} (h : ¬(0 ≤ x8 l n l.length ∧ 0 ≤ ym l n l.length)) (h3 : fr = x8 l n l.length) (h4 : to = ym l n l.length) : (⟨Mh n, 2, 0, fr, to⟩ : Ch) = sM sh l n := by
 unfold sM; rw [if_neg h, h3, h4]
end Go.Proofs.YtgmpoenfoacofaaGreat
