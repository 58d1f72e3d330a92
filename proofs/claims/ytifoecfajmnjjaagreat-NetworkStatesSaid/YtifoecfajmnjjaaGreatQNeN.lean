/-
  Made circuits, plain data.
-/
import Derived.Test.YtifoecfajmnjjaaGreatQNeK
namespace Go.Proofs.YtifoecfajmnjjaaGreat
open Go.RowKit
set_option linter.unusedVariables false
set_option linter.unusedSimpArgs false
structure En where
 takes : List Int
 puts : List Int
def pM (e : En) : List V := [.sl 1 (ah .i64) 0 e.takes, .sl 1 (ah .i64) 0 e.puts]
abbrev cM : En := ⟨[], []⟩
def fF : Ex := ⟨1, e0, ⟨1, e0⟩, ⟨1, e0⟩, []⟩
def aU (s : Sg) (b : List Int) (i : Nat) : Ex × Nat := if b.getD i 0 % 4 = 1 then aq s b 2 (i + 1) 1 else (fF, i + 1)
def J2 : ByteArray := bs [97]
def J3 : ByteArray := bs [98]
def J4 (k : Nat) : ByteArray := [bs [114], bs [115]].getD k e0
def JX (k : Nat) : ByteArray := [bs [112], bs [113], bs [117], bs [118]].getD k e0
def Jv (k : Nat) : ByteArray := [bs [99, 48], bs [99, 49], bs [99, 50], bs [99, 51], bs [99, 52]].getD k e0
def bH (y : Int) (k : Nat) : Int := 1 + (y / 4 + k) % 2
def qJ (y : Int) : Nat := (1 + y / 2 % 2).toNat
def G2 (y : Int) : List Int := an (bH y) (qJ y)
def G3 (y : Int) : Sg := ⟨G2 y, [], [], false⟩
def xD (y : Int) (n : Nat) : Sg := ⟨G2 y, List.replicate n 2, [], true⟩
def tb (y : Int) (k : Nat) : Rg := ⟨J4 k, bH y k, y / 8 % 2 ^ (bH y k).toNat, dE, ⟨[1, 1, 0].getD (y / 16 % 3).toNat 0, e0, 0⟩⟩
def xE (b : List Int) (y : Int) (i : Nat) : Nat → Nat
 | 0 => i
 | k + 1 => (aU (G3 y) b (xE b y i k)).2
def v3 (b : List Int) (y : Int) (n : Nat) (i : Nat) : Nat → Nat
 | 0 => i
 | k + 1 => (aq (xD y n) b 3 (v3 b y n i k) (bH y k)).2
def tc (b : List Int) (y : Int) (n : Nat) (i : Nat) : Nat → Nat
 | 0 => i
 | k + 1 => (aq (xD y n) b 2 (aU (xD y n) b (tc b y n i k)).2 2).2
def BX (b : List Int) (y : Int) (i : Nat) (e : En) (k : Nat) : Tk := ⟨e.takes.getD k 0, 2, (aU (G3 y) b (xE b y i k)).1⟩
def Jw (b : List Int) (y : Int) (n i k : Nat) : Rg := { tb y k with next := (aq (xD y n) b 3 (v3 b y n i k) (bH y k)).1 }
def Eu (b : List Int) (y : Int) (n i : Nat) (e : En) (k : Nat) : Pt := ⟨e.puts.getD k 0, 2, (aU (xD y n) b (tc b y n i k)).1, (aq (xD y n) b 2 (aU (xD y n) b (tc b y n i k)).2 2).1⟩
def Jx (y : Int) : ByteArray := [J2, J3].getD (y % 2).toNat e0
def lN (b : List Int) (i : Nat) (e : En) : Nat := xE b (b.getD i 0) (i + 1) e.takes.length
def kQ (b : List Int) (i : Nat) (e : En) : Nat := v3 b (b.getD i 0) e.takes.length (lN b i e) (qJ (b.getD i 0))
def bC (b : List Int) (i : Nat) (nm : ByteArray) (e : En) : Pr × Nat :=
 (⟨nm, Jx (b.getD i 0), an (Jw b (b.getD i 0) e.takes.length (lN b i e)) (qJ (b.getD i 0)), [], an (BX b (b.getD i 0) (i + 1) e) e.takes.length, an (Eu b (b.getD i 0) e.takes.length (kQ b i e) e) e.puts.length⟩,
  tc b (b.getD i 0) e.takes.length (kQ b i e) e.puts.length)
def ao (s : Int) : List En :=
 if s % 6 = 0 then [⟨[0], [1]⟩]
 else if s % 6 = 1 then [⟨[0], [1]⟩, ⟨[1], [2]⟩]
 else if s % 6 = 2 then [⟨[0], [1, 2]⟩, ⟨[1], [3]⟩, ⟨[2], [4]⟩]
 else if s % 6 = 3 then [⟨[0, 2], [1]⟩, ⟨[1], [2, 3]⟩]
 else if s % 6 = 4 then [⟨[0], [2]⟩, ⟨[1], [3]⟩, ⟨[2, 3], [4]⟩]
 else [⟨[0], [1]⟩, ⟨[1], [2]⟩, ⟨[2], [3]⟩, ⟨[3], [4]⟩]
theorem v4 {s : Sg} {b : List Int} {i : Nat} (h : b.getD i 0 % 4 = 1) : aU s b i = aq s b 2 (i + 1) 1 := if_pos h
theorem v5 {s : Sg} {b : List Int} {i : Nat} (h : ¬b.getD i 0 % 4 = 1) : aU s b i = (fF, i + 1) := if_neg h
def rk (l : List Int) (n : Int) : Bool := !dq (fun i => !decide (l.getD i 0 = n)) l.length
theorem xF {l : List Int} {n : Int} {i : Nat} (hi : i < l.length) (h : l.getD i 0 = n) : rk l n = true := by
 unfold rk; rw [i5 hi (by rw [decide_eq_true h]; rfl)]; rfl
theorem AF {l : List Int} {n : Int} (h : ∀ i, i < l.length → ¬l.getD i 0 = n) : rk l n = false := by
 unfold rk; rw [ck.2 (fun i hi => by rw [decide_eq_false (h i hi)]; rfl)]; rfl
theorem uG {x w : Int} (h0 : 0 ≤ w) (h6 : w ≤ 62) : IntKind.wrap .i64 ((BitVec.ofInt (IntKind.i64).bits x &&& BitVec.ofInt (IntKind.i64).bits (aj w)).toNat : Int) = x % 2 ^ w.toNat := by
 rw [cC h0 h6]; exact jv (by omega)
theorem v6 {s : Sg} {b : List Int} (hb : lr b) {d i : Nat} {w : Int} (hd : d ≤ 3) (h1 : 1 ≤ w) (h2 : w + d ≤ 8) : i ≤ (aq s b d i w).2 ∧ (aq s b d i w).2 ≤ i + 64 := by
 have h := (sG (s := s) hb d i w hd h1 h2).2.2
 have : 4 ^ d ≤ 4 ^ 3 := Nat.pow_le_pow_right (by omega) hd
 omega
theorem te {s : Sg} {b : List Int} (hb : lr b) {i : Nat} : i ≤ (aU s b i).2 ∧ (aU s b i).2 ≤ i + 100 := by
 unfold aU
 split
 ·have := v6 (s := s) hb (d := 2) (i := i + 1) (w := 1) (by omega) (by omega) (by omega); omega
 ·simp only; omega
theorem v7 (y : Int) (k : Nat) : 1 ≤ bH y k ∧ bH y k ≤ 2 := by unfold bH; omega
theorem rK {b : List Int} (hb : lr b) (y : Int) (i : Nat) : ∀ k, i ≤ xE b y i k ∧ xE b y i k ≤ i + 100 * k
 | 0 => ⟨Nat.le_refl _, Nat.le_refl _⟩
 | k + 1 => by
  have h1 := rK hb y i k
  have h2 := te (s := G3 y) hb (i := xE b y i k)
  rw [xE]; omega
theorem rL {b : List Int} (hb : lr b) (y : Int) (n i : Nat) : ∀ k, i ≤ v3 b y n i k ∧ v3 b y n i k ≤ i + 100 * k
 | 0 => ⟨Nat.le_refl _, Nat.le_refl _⟩
 | k + 1 => by
  have h1 := rL hb y n i k
  have h3 := v7 y k
  have h2 := v6 (s := xD y n) hb (d := 3) (i := v3 b y n i k) (w := bH y k) (by omega) (by omega) (by omega)
  rw [v3]; omega
theorem v8 {b : List Int} (hb : lr b) (y : Int) (n i : Nat) : ∀ k, i ≤ tc b y n i k ∧ tc b y n i k ≤ i + 200 * k
 | 0 => ⟨Nat.le_refl _, Nat.le_refl _⟩
 | k + 1 => by
  have h1 := v8 hb y n i k
  have h3 := te (s := xD y n) hb (i := tc b y n i k)
  have h2 := v6 (s := xD y n) hb (d := 2) (i := (aU (xD y n) b (tc b y n i k)).2) (w := 2) (by omega) (by omega) (by omega)
  rw [tc]; omega
theorem zg {y : Int} (h : 0 ≤ y) : (qJ y : Int) = 1 + y / 2 % 2 ∧ qJ y ≤ 2 := by unfold qJ; omega
def BO (b : List Int) (l : List En) : Nat → Nat
 | 0 => 0
 | i + 1 => (bC b (BO b l i) (JX i) (l.getD i cM)).2
def rf (b : List Int) (l : List En) (i : Nat) : Pr := (bC b (BO b l i) (JX i) (l.getD i cM)).1
def HS (l : List Int) (a : Int) : Nat → Int
 | 0 => a
 | k + 1 => FY (HS l a k) (l.getD k 0)
def pN (l : List En) : Nat → Int
 | 0 => 0
 | i + 1 => HS (l.getD i cM).puts (pN l i) (l.getD i cM).puts.length
def wj (l : List En) (n : Int) : Nat → Int
 | 0 => -1
 | i + 1 => if rk (l.getD i cM).takes n = true then (i : Int) else wj l n i
def wk (l : List En) (n : Int) : Nat → Int
 | 0 => -1
 | i + 1 => if rk (l.getD i cM).puts n = true then (i : Int) else wk l n i
def tn (sh : Int) (l : List En) (n : Nat) : Ch := ⟨Jv n, 2, if 0 ≤ wk l n l.length ∧ 0 ≤ wj l n l.length then 1 + (sh / 6 + n) % 3 else 0, wk l n l.length, wj l n l.length⟩
def kR (sh : Int) : Nat := (pN (ao sh) (ao sh).length).toNat + 1
def aa (sh : Int) (b : List Int) : Ci := ⟨an (rf b (ao sh)) (ao sh).length, an (tn sh (ao sh)) (kR sh)⟩
theorem kB (sh : Int) : ao sh = [⟨[0], [1]⟩] ∨ ao sh = [⟨[0], [1]⟩, ⟨[1], [2]⟩] ∨ ao sh = [⟨[0], [1, 2]⟩, ⟨[1], [3]⟩, ⟨[2], [4]⟩] ∨ ao sh = [⟨[0, 2], [1]⟩, ⟨[1], [2, 3]⟩] ∨ ao sh = [⟨[0], [2]⟩, ⟨[1], [3]⟩, ⟨[2, 3], [4]⟩] ∨ ao sh = [⟨[0], [1]⟩, ⟨[1], [2]⟩, ⟨[2], [3]⟩, ⟨[3], [4]⟩] := by
 unfold ao
 split
 ·exact .inl rfl
 split
 ·exact .inr (.inl rfl)
 split
 ·exact .inr (.inr (.inl rfl))
 split
 ·exact .inr (.inr (.inr (.inl rfl)))
 split
 ·exact .inr (.inr (.inr (.inr (.inl rfl))))
 ·exact .inr (.inr (.inr (.inr (.inr rfl))))
theorem xG (sh : Int) : 1 ≤ (ao sh).length ∧ (ao sh).length ≤ 4 := by
 rcases kB sh with h | h | h | h | h | h <;> rw [h] <;> decide
theorem mK (sh : Int) (i : Nat) : ((ao sh).getD i cM).takes.length ≤ 2 ∧ ((ao sh).getD i cM).puts.length ≤ 2 := by
 have key : ∀ e ∈ ao sh, e.takes.length ≤ 2 ∧ e.puts.length ≤ 2 := by
  rcases kB sh with h | h | h | h | h | h <;> rw [h] <;> simp
 by_cases hi : i < (ao sh).length
 ·rw [jR _ _ hi]; exact key _ (List.getElem_mem hi)
 ·rw [List.getD, List.getElem?_eq_none (by omega)]; decide
theorem AH (sh : Int) : 0 ≤ pN (ao sh) (ao sh).length ∧ pN (ao sh) (ao sh).length ≤ 4 := by
 rcases kB sh with h | h | h | h | h | h <;> rw [h] <;> decide
theorem D3 (sh : Int) : (kR sh : Int) = pN (ao sh) (ao sh).length + 1 ∧ kR sh ≤ 5 := by
 have := AH sh; unfold kR; omega
theorem AI {b : List Int} (hb : lr b) (sh : Int) : ∀ i, BO b (ao sh) i ≤ 1000 * i
 | 0 => Nat.le_refl _
 | i + 1 => by
  have h1 := AI hb sh i
  have he := mK sh i
  rw [BO]
  unfold bC
  simp only
  generalize BO b (ao sh) i = p at *
  generalize (ao sh).getD i cM = e at *
  have hy := ez hb p
  have hn := zg hy.1
  have a1 : p + 1 ≤ lN b p e ∧ lN b p e ≤ p + 1 + 100 * e.takes.length := rK hb (b.getD p 0) (p + 1) e.takes.length
  have a2 : lN b p e ≤ kQ b p e ∧ kQ b p e ≤ lN b p e + 100 * qJ (b.getD p 0) := rL hb (b.getD p 0) e.takes.length (lN b p e) (qJ (b.getD p 0))
  have a3 := v8 hb (b.getD p 0) e.takes.length (kQ b p e) e.puts.length
  omega
theorem D4 (l : List En) (n : Int) : ∀ i, -1 ≤ wj l n i ∧ wj l n i < i
 | 0 => by simp [wj]
 | i + 1 => by have := D4 l n i; rw [wj]; split <;> omega
theorem D5 (l : List En) (n : Int) : ∀ i, -1 ≤ wk l n i ∧ wk l n i < i
 | 0 => by simp [wk]
 | i + 1 => by have := D5 l n i; rw [wk]; split <;> omega
theorem FP {x : Int} (h0 : 0 ≤ x) (h1 : x ≤ 255) : IntKind.wrap .u8 x = x := JS rfl h0 h1
def rM (b : List Int) (i : Nat) : Nat := (b.getD i 0 % 7).toNat
def tA (b : List Int) (i : Nat) (w : Int) (k : Nat) : Int := b.getD (i + (1 + k)) 0 % 2 ^ w.toNat
def tp (c : Ci) (b : List Int) : Nat → Ns × Nat
 | 0 => (az c, 0)
 | i + 1 => if 0 ≤ (gx c i).frm then tp c b i else (gM (tp c b i).1 i (an (tA b (tp c b i).2 (gx c i).w) (rM b (tp c b i).2)), (tp c b i).2 + (1 + rM b (tp c b i).2))
def d8 (c : Ci) (b : List Int) : Ns := (tp c b c.chans.length).1
theorem D6 {b : List Int} (hb : lr b) (i : Nat) : rM b i ≤ 6 ∧ (rM b i : Int) = b.getD i 0 % 7 := by
 have := ez hb i; unfold rM; omega
theorem D7 {c : Ci} {b : List Int} {i : Nat} (h : 0 ≤ (gx c i).frm) : tp c b (i + 1) = tp c b i := by rw [tp, if_pos h]
theorem zh {c : Ci} {b : List Int} {i : Nat} (h : ¬0 ≤ (gx c i).frm) : tp c b (i + 1) = (gM (tp c b i).1 i (an (tA b (tp c b i).2 (gx c i).w) (rM b (tp c b i).2)), (tp c b i).2 + (1 + rM b (tp c b i).2)) := by rw [tp, if_neg h]
def d9 (c : Ci) (s : Ns) (l : List Int) : Ns := l.foldl (fun u k => aD c u (eF (k % c.procs.length))) s
theorem BP {c : Ci} {s : Ns} {l : List Int} {i : Nat} (h : i < l.length) : d9 c s (l.take (i + 1)) = aD c (d9 c s (l.take i)) (eF (l.getD i 0 % c.procs.length)) := by
 unfold d9
 rw [List.take_succ_eq_append_getElem h, List.foldl_append]
 simp [List.getD, List.getElem?_eq_getElem h]
theorem Jy {x : Int} (h0 : 0 ≤ x) (h1 : x ≤ 255) : IntKind.wrap .u8 (Int.tdiv x 6) = x / 6 := by
 rw [Int.tdiv_eq_ediv_of_nonneg h0]; exact FP (by omega) (by omega)
theorem D8 {sh : Int} {l : List En} {n : Nat} {fr to : Int} (h1 : 0 ≤ wk l n l.length) (h2 : 0 ≤ wj l n l.length) (h3 : fr = wk l n l.length) (h4 : to = wj l n l.length) : (⟨Jv n, 2, 1 + (sh / 6 + n) % 3, fr, to⟩ : Ch) = tn sh l n := by
 unfold tn; rw [if_pos ⟨h1, h2⟩, h3, h4]
theorem D9 {sh : Int} {l : List En} {n : Nat} {fr to : Int} (h : ¬(0 ≤ wk l n l.length ∧ 0 ≤ wj l n l.length)) (h3 : fr = wk l n l.length) (h4 : to = wj l n l.length) : (⟨Jv n, 2, 0, fr, to⟩ : Ch) = tn sh l n := by
 unfold tn; rw [if_neg h, h3, h4]
end Go.Proofs.YtifoecfajmnjjaaGreat
