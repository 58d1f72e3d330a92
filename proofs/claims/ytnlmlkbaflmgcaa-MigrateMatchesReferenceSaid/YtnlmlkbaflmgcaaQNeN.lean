/-
  Made circuits, plain data.
-/
import Derived.Test.YtnlmlkbaflmgcaaQNeK
namespace Go.Proofs.Ytnlmlkbaflmgcaa
open Go.RowKit
set_option linter.unusedVariables false
set_option linter.unusedSimpArgs false
structure En where
 takes : List Int
 puts : List Int
def oE (e : En) : List V := [.sl 1 (aa .i64) 0 e.takes, .sl 1 (aa .i64) 0 e.puts]
abbrev cg : En := ⟨[], []⟩
def gD : Ex := ⟨1, e0, ⟨1, e0⟩, ⟨1, e0⟩, []⟩
def aN (s : Sg) (b : List Int) (i : Nat) : Ex × Nat := if b.getD i 0 % 4 = 1 then an s b 2 (i + 1) 1 else (gD, i + 1)
def L3 : ByteArray := bs [97]
def L4 : ByteArray := bs [98]
def K7 (k : Nat) : ByteArray := [bs [114], bs [115]].getD k e0
def Ha (k : Nat) : ByteArray := [bs [112], bs [113], bs [117], bs [118]].getD k e0
def E6 (k : Nat) : ByteArray := [bs [99, 48], bs [99, 49], bs [99, 50], bs [99, 51], bs [99, 52]].getD k e0
def bl (y : Int) (k : Nat) : Int := 1 + (y / 4 + k) % 2
def oS (y : Int) : Nat := (1 + y / 2 % 2).toNat
def I3 (y : Int) : List Int := tab (bl y) (oS y)
def I4 (y : Int) : Sg := ⟨I3 y, [], [], false⟩
def xh (y : Int) (n : Nat) : Sg := ⟨I3 y, List.replicate n 2, [], true⟩
def sg (y : Int) (k : Nat) : Rg := ⟨K7 k, bl y k, y / 8 % 2 ^ (bl y k).toNat, dE, ⟨[1, 1, 0].getD (y / 16 % 3).toNat 0, e0, 0⟩⟩
def xi (b : List Int) (y : Int) (i : Nat) : Nat → Nat
 | 0 => i
 | k + 1 => (aN (I4 y) b (xi b y i k)).2
def vJ (b : List Int) (y : Int) (n : Nat) (i : Nat) : Nat → Nat
 | 0 => i
 | k + 1 => (an (xh y n) b 3 (vJ b y n i k) (bl y k)).2
def si (b : List Int) (y : Int) (n : Nat) (i : Nat) : Nat → Nat
 | 0 => i
 | k + 1 => (an (xh y n) b 2 (aN (xh y n) b (si b y n i k)).2 2).2
def Cc (b : List Int) (y : Int) (i : Nat) (e : En) (k : Nat) : Tk := ⟨e.takes.getD k 0, 2, (aN (I4 y) b (xi b y i k)).1⟩
def JS (b : List Int) (y : Int) (n i k : Nat) : Rg := { sg y k with next := (an (xh y n) b 3 (vJ b y n i k) (bl y k)).1 }
def E7 (b : List Int) (y : Int) (n i : Nat) (e : En) (k : Nat) : Pt := ⟨e.puts.getD k 0, 2, (aN (xh y n) b (si b y n i k)).1, (an (xh y n) b 2 (aN (xh y n) b (si b y n i k)).2 2).1⟩
def K8 (y : Int) : ByteArray := [L3, L4].getD (y % 2).toNat e0
def kZ (b : List Int) (i : Nat) (e : En) : Nat := xi b (b.getD i 0) (i + 1) e.takes.length
def kF (b : List Int) (i : Nat) (e : En) : Nat := vJ b (b.getD i 0) e.takes.length (kZ b i e) (oS (b.getD i 0))
def bg (b : List Int) (i : Nat) (nm : ByteArray) (e : En) : Pr × Nat :=
 (⟨nm, K8 (b.getD i 0), tab (JS b (b.getD i 0) e.takes.length (kZ b i e)) (oS (b.getD i 0)), [], tab (Cc b (b.getD i 0) (i + 1) e) e.takes.length, tab (E7 b (b.getD i 0) e.takes.length (kF b i e) e) e.puts.length⟩,
  si b (b.getD i 0) e.takes.length (kF b i e) e.puts.length)
def aj (s : Int) : List En :=
 if s % 6 = 0 then [⟨[0], [1]⟩]
 else if s % 6 = 1 then [⟨[0], [1]⟩, ⟨[1], [2]⟩]
 else if s % 6 = 2 then [⟨[0], [1, 2]⟩, ⟨[1], [3]⟩, ⟨[2], [4]⟩]
 else if s % 6 = 3 then [⟨[0, 2], [1]⟩, ⟨[1], [2, 3]⟩]
 else if s % 6 = 4 then [⟨[0], [2]⟩, ⟨[1], [3]⟩, ⟨[2, 3], [4]⟩]
 else [⟨[0], [1]⟩, ⟨[1], [2]⟩, ⟨[2], [3]⟩, ⟨[3], [4]⟩]
theorem vK {s : Sg} {b : List Int} {i : Nat} (h : b.getD i 0 % 4 = 1) : aN s b i = an s b 2 (i + 1) 1 := if_pos h
theorem vL {s : Sg} {b : List Int} {i : Nat} (h : ¬b.getD i 0 % 4 = 1) : aN s b i = (gD, i + 1) := if_neg h
def qo (l : List Int) (n : Int) : Bool := !cJ (fun i => !decide (l.getD i 0 = n)) l.length
theorem xj {l : List Int} {n : Int} {i : Nat} (hi : i < l.length) (h : l.getD i 0 = n) : qo l n = true := by
 unfold qo; rw [dC hi (by rw [decide_eq_true h]; rfl)]; rfl
theorem AD {l : List Int} {n : Int} (h : ∀ i, i < l.length → ¬l.getD i 0 = n) : qo l n = false := by
 unfold qo; rw [bh.2 (fun i hi => by rw [decide_eq_false (h i hi)]; rfl)]; rfl
theorem un {x w : Int} (h0 : 0 ≤ w) (h6 : w ≤ 62) : IntKind.wrap .i64 ((BitVec.ofInt (IntKind.i64).bits x &&& BitVec.ofInt (IntKind.i64).bits (aG w)).toNat : Int) = x % 2 ^ w.toNat := by
 rw [dM h0 h6]; exact kS (by omega)
theorem vM {s : Sg} {b : List Int} (hb : f8 b) {d i : Nat} {w : Int} (hd : d ≤ 3) (h1 : 1 ≤ w) (h2 : w + d ≤ 8) : i ≤ (an s b d i w).2 ∧ (an s b d i w).2 ≤ i + 64 := by
 have h := (rS (s := s) hb d i w hd h1 h2).2.2
 have : 4 ^ d ≤ 4 ^ 3 := Nat.pow_le_pow_right (by omega) hd
 omega
theorem sj {s : Sg} {b : List Int} (hb : f8 b) {i : Nat} : i ≤ (aN s b i).2 ∧ (aN s b i).2 ≤ i + 100 := by
 unfold aN
 split
 ·have := vM (s := s) hb (d := 2) (i := i + 1) (w := 1) (by omega) (by omega) (by omega); omega
 ·simp only; omega
theorem vN (y : Int) (k : Nat) : 1 ≤ bl y k ∧ bl y k ≤ 2 := by unfold bl; omega
theorem qL {b : List Int} (hb : f8 b) (y : Int) (i : Nat) : ∀ k, i ≤ xi b y i k ∧ xi b y i k ≤ i + 100 * k
 | 0 => ⟨Nat.le_refl _, Nat.le_refl _⟩
 | k + 1 => by
  have h1 := qL hb y i k
  have h2 := sj (s := I4 y) hb (i := xi b y i k)
  rw [xi]; omega
theorem qM {b : List Int} (hb : f8 b) (y : Int) (n i : Nat) : ∀ k, i ≤ vJ b y n i k ∧ vJ b y n i k ≤ i + 100 * k
 | 0 => ⟨Nat.le_refl _, Nat.le_refl _⟩
 | k + 1 => by
  have h1 := qM hb y n i k
  have h3 := vN y k
  have h2 := vM (s := xh y n) hb (d := 3) (i := vJ b y n i k) (w := bl y k) (by omega) (by omega) (by omega)
  rw [vJ]; omega
theorem vO {b : List Int} (hb : f8 b) (y : Int) (n i : Nat) : ∀ k, i ≤ si b y n i k ∧ si b y n i k ≤ i + 200 * k
 | 0 => ⟨Nat.le_refl _, Nat.le_refl _⟩
 | k + 1 => by
  have h1 := vO hb y n i k
  have h3 := sj (s := xh y n) hb (i := si b y n i k)
  have h2 := vM (s := xh y n) hb (d := 2) (i := (aN (xh y n) b (si b y n i k)).2) (w := 2) (by omega) (by omega) (by omega)
  rw [si]; omega
theorem vP {y : Int} (h : 0 ≤ y) : (oS y : Int) = 1 + y / 2 % 2 ∧ oS y ≤ 2 := by unfold oS; omega
def ta (b : List Int) (l : List En) : Nat → Nat
 | 0 => 0
 | i + 1 => (bg b (ta b l i) (Ha i) (l.getD i cg)).2
def mP (b : List Int) (l : List En) (i : Nat) : Pr := (bg b (ta b l i) (Ha i) (l.getD i cg)).1
def JT (l : List Int) (a : Int) : Nat → Int
 | 0 => a
 | k + 1 => Hm (JT l a k) (l.getD k 0)
def oG (l : List En) : Nat → Int
 | 0 => 0
 | i + 1 => JT (l.getD i cg).puts (oG l i) (l.getD i cg).puts.length
def vQ (l : List En) (n : Int) : Nat → Int
 | 0 => -1
 | i + 1 => if qo (l.getD i cg).takes n = true then (i : Int) else vQ l n i
def vR (l : List En) (n : Int) : Nat → Int
 | 0 => -1
 | i + 1 => if qo (l.getD i cg).puts n = true then (i : Int) else vR l n i
def sk (sh : Int) (l : List En) (n : Nat) : Ch := ⟨E6 n, 2, if 0 ≤ vR l n l.length ∧ 0 ≤ vQ l n l.length then 1 + (sh / 6 + n) % 3 else 0, vR l n l.length, vQ l n l.length⟩
def jA (sh : Int) : Nat := (oG (aj sh) (aj sh).length).toNat + 1
def aB (sh : Int) (b : List Int) : Ci := ⟨tab (mP b (aj sh)) (aj sh).length, tab (sk sh (aj sh)) (jA sh)⟩
theorem kr (sh : Int) : aj sh = [⟨[0], [1]⟩] ∨ aj sh = [⟨[0], [1]⟩, ⟨[1], [2]⟩] ∨ aj sh = [⟨[0], [1, 2]⟩, ⟨[1], [3]⟩, ⟨[2], [4]⟩] ∨ aj sh = [⟨[0, 2], [1]⟩, ⟨[1], [2, 3]⟩] ∨ aj sh = [⟨[0], [2]⟩, ⟨[1], [3]⟩, ⟨[2, 3], [4]⟩] ∨ aj sh = [⟨[0], [1]⟩, ⟨[1], [2]⟩, ⟨[2], [3]⟩, ⟨[3], [4]⟩] := by
 unfold aj
 split
 ·exact .inl rfl
 split
 ·exact .inr (.inl rfl)
 split
 ·exact .inr (.inr (.inl rfl))
 split
 ·exact .inr (.inr (.inr (.inl rfl)))
 split
 ·exact .inr (.inr (.inr (.inr (.inl rfl))))
 ·exact .inr (.inr (.inr (.inr (.inr rfl))))
theorem k9 (sh : Int) : 1 ≤ (aj sh).length ∧ (aj sh).length ≤ 4 := by
 rcases kr sh with h | h | h | h | h | h <;> rw [h] <;> decide
theorem l5 (sh : Int) (i : Nat) : ((aj sh).getD i cg).takes.length ≤ 2 ∧ ((aj sh).getD i cg).puts.length ≤ 2 := by
 have key : ∀ e ∈ aj sh, e.takes.length ≤ 2 ∧ e.puts.length ≤ 2 := by
  rcases kr sh with h | h | h | h | h | h <;> rw [h] <;> simp
 by_cases hi : i < (aj sh).length
 ·rw [bS _ _ hi]; exact key _ (List.getElem_mem hi)
 ·rw [List.getD, List.getElem?_eq_none (by omega)]; decide
theorem AE (sh : Int) : 0 ≤ oG (aj sh) (aj sh).length ∧ oG (aj sh) (aj sh).length ≤ 4 := by
 rcases kr sh with h | h | h | h | h | h <;> rw [h] <;> decide
theorem yO (sh : Int) : (jA sh : Int) = oG (aj sh) (aj sh).length + 1 ∧ jA sh ≤ 5 := by
 have := AE sh; unfold jA; omega
theorem AF {b : List Int} (hb : f8 b) (sh : Int) : ∀ i, ta b (aj sh) i ≤ 1000 * i
 | 0 => Nat.le_refl _
 | i + 1 => by
  have h1 := AF hb sh i
  have he := l5 sh i
  rw [ta]
  unfold bg
  simp only
  generalize ta b (aj sh) i = p at *
  generalize (aj sh).getD i cg = e at *
  have hy := bZ hb p
  have hn := vP hy.1
  have a1 : p + 1 ≤ kZ b p e ∧ kZ b p e ≤ p + 1 + 100 * e.takes.length := qL hb (b.getD p 0) (p + 1) e.takes.length
  have a2 : kZ b p e ≤ kF b p e ∧ kF b p e ≤ kZ b p e + 100 * oS (b.getD p 0) := qM hb (b.getD p 0) e.takes.length (kZ b p e) (oS (b.getD p 0))
  have a3 := vO hb (b.getD p 0) e.takes.length (kF b p e) e.puts.length
  omega
theorem Ej (l : List En) (n : Int) : ∀ i, -1 ≤ vQ l n i ∧ vQ l n i < i
 | 0 => by simp [vQ]
 | i + 1 => by have := Ej l n i; rw [vQ]; split <;> omega
theorem Ek (l : List En) (n : Int) : ∀ i, -1 ≤ vR l n i ∧ vR l n i < i
 | 0 => by simp [vR]
 | i + 1 => by have := Ek l n i; rw [vR]; split <;> omega
theorem Hb {x : Int} (h0 : 0 ≤ x) (h1 : x ≤ 255) : IntKind.wrap .u8 x = x := KE rfl h0 h1
def qN (b : List Int) (i : Nat) : Nat := (b.getD i 0 % 7).toNat
def tb (b : List Int) (i : Nat) (w : Int) (k : Nat) : Int := b.getD (i + (1 + k)) 0 % 2 ^ w.toNat
def sR (c : Ci) (b : List Int) : Nat → Ns × Nat
 | 0 => (dQ c, 0)
 | i + 1 => if 0 ≤ (i3 c i).frm then sR c b i else (gK (sR c b i).1 i (tab (tb b (sR c b i).2 (i3 c i).w) (qN b (sR c b i).2)), (sR c b i).2 + (1 + qN b (sR c b i).2))
def bJ (c : Ci) (b : List Int) : Ns := (sR c b c.chans.length).1
theorem El {b : List Int} (hb : f8 b) (i : Nat) : qN b i ≤ 6 ∧ (qN b i : Int) = b.getD i 0 % 7 := by
 have := bZ hb i; unfold qN; omega
theorem Em {c : Ci} {b : List Int} {i : Nat} (h : 0 ≤ (i3 c i).frm) : sR c b (i + 1) = sR c b i := by rw [sR, if_pos h]
theorem yP {c : Ci} {b : List Int} {i : Nat} (h : ¬0 ≤ (i3 c i).frm) : sR c b (i + 1) = (gK (sR c b i).1 i (tab (tb b (sR c b i).2 (i3 c i).w) (qN b (sR c b i).2)), (sR c b i).2 + (1 + qN b (sR c b i).2)) := by rw [sR, if_neg h]
def cb (c : Ci) (s : Ns) (l : List Int) : Ns := l.foldl (fun u k => cK c u (s8 (k % c.procs.length))) s
theorem BQ {c : Ci} {s : Ns} {l : List Int} {i : Nat} (h : i < l.length) : cb c s (l.take (i + 1)) = cK c (cb c s (l.take i)) (s8 (l.getD i 0 % c.procs.length)) := by
 unfold cb
 rw [List.take_succ_eq_append_getElem h, List.foldl_append]
 simp [List.getD, List.getElem?_eq_getElem h]
theorem K9 {x : Int} (h0 : 0 ≤ x) (h1 : x ≤ 255) : IntKind.wrap .u8 (Int.tdiv x 6) = x / 6 := by
 rw [Int.tdiv_eq_ediv_of_nonneg h0]; exact Hb (by omega) (by omega)
theorem Eo {sh : Int} {l : List En} {n : Nat} {fr to : Int} (h1 : 0 ≤ vR l n l.length) (h2 : 0 ≤ vQ l n l.length) (h3 : fr = vR l n l.length) (h4 : to = vQ l n l.length) : (⟨E6 n, 2, 1 + (sh / 6 + n) % 3, fr, to⟩ : Ch) = sk sh l n := by
 unfold sk; rw [if_pos ⟨h1, h2⟩, h3, h4]
theorem Ep {sh : Int} {l : List En} {n : Nat} {fr to : Int} (h : ¬(0 ≤ vR l n l.length ∧ 0 ≤ vQ l n l.length)) (h3 : fr = vR l n l.length) (h4 : to = vQ l n l.length) : (⟨E6 n, 2, 0, fr, to⟩ : Ch) = sk sh l n := by
 unfold sk; rw [if_neg h, h3, h4]
end Go.Proofs.Ytnlmlkbaflmgcaa
