/-
  Made circuits, plain data.
-/
import Derived.Test.YtifoecfajmnjjaaGreatQNeK
namespace Go.Proofs.YtifoecfajmnjjaaGreat
open Go.RowKit
set_option linter.unusedVariables false
set_option linter.unusedSimpArgs false
structure En where
 takes : List Int
 puts : List Int
def p9 (e : En) : List V := [.sl 1 (ah .i64) 0 e.takes, .sl 1 (ah .i64) 0 e.puts]
abbrev cI : En := ⟨[], []⟩
def fA : Ex := ⟨1, e0, ⟨1, e0⟩, ⟨1, e0⟩, []⟩
def aR (s : Sg) (b : List Int) (i : Nat) : Ex × Nat := if b.getD i 0 % 4 = 1 then an s b 2 (i + 1) 1 else (fA, i + 1)
def Lm : ByteArray := bs [97]
def Ln : ByteArray := bs [98]
def Lo (k : Nat) : ByteArray := [bs [114], bs [115]].getD k e0
def Lh (k : Nat) : ByteArray := [bs [112], bs [113], bs [117], bs [118]].getD k e0
def KP (k : Nat) : ByteArray := [bs [99, 48], bs [99, 49], bs [99, 50], bs [99, 51], bs [99, 52]].getD k e0
def bI (y : Int) (k : Nat) : Int := 1 + (y / 4 + k) % 2
def rh (y : Int) : Nat := (1 + y / 2 % 2).toNat
def Ip (y : Int) : List Int := aq (bI y) (rh y)
def Iq (y : Int) : Sg := ⟨Ip y, [], [], false⟩
def yD (y : Int) (n : Nat) : Sg := ⟨Ip y, List.replicate n 2, [], true⟩
def tM (y : Int) (k : Nat) : Rg := ⟨Lo k, bI y k, y / 8 % 2 ^ (bI y k).toNat, dE, ⟨[1, 1, 0].getD (y / 16 % 3).toNat 0, e0, 0⟩⟩
def yE (b : List Int) (y : Int) (i : Nat) : Nat → Nat
 | 0 => i
 | k + 1 => (aR (Iq y) b (yE b y i k)).2
def wY (b : List Int) (y : Int) (n : Nat) (i : Nat) : Nat → Nat
 | 0 => i
 | k + 1 => (an (yD y n) b 3 (wY b y n i k) (bI y k)).2
def tN (b : List Int) (y : Int) (n : Nat) (i : Nat) : Nat → Nat
 | 0 => i
 | k + 1 => (an (yD y n) b 2 (aR (yD y n) b (tN b y n i k)).2 2).2
def Dg (b : List Int) (y : Int) (i : Nat) (e : En) (k : Nat) : Tk := ⟨e.takes.getD k 0, 2, (aR (Iq y) b (yE b y i k)).1⟩
def KQ (b : List Int) (y : Int) (n i k : Nat) : Rg := { tM y k with next := (an (yD y n) b 3 (wY b y n i k) (bI y k)).1 }
def FE (b : List Int) (y : Int) (n i : Nat) (e : En) (k : Nat) : Pt := ⟨e.puts.getD k 0, 2, (aR (yD y n) b (tN b y n i k)).1, (an (yD y n) b 2 (aR (yD y n) b (tN b y n i k)).2 2).1⟩
def KR (y : Int) : ByteArray := [Lm, Ln].getD (y % 2).toNat e0
def l6 (b : List Int) (i : Nat) (e : En) : Nat := yE b (b.getD i 0) (i + 1) e.takes.length
def k9 (b : List Int) (i : Nat) (e : En) : Nat := wY b (b.getD i 0) e.takes.length (l6 b i e) (rh (b.getD i 0))
def bC (b : List Int) (i : Nat) (nm : ByteArray) (e : En) : Pr × Nat :=
 (⟨nm, KR (b.getD i 0), aq (KQ b (b.getD i 0) e.takes.length (l6 b i e)) (rh (b.getD i 0)), [], aq (Dg b (b.getD i 0) (i + 1) e) e.takes.length, aq (FE b (b.getD i 0) e.takes.length (k9 b i e) e) e.puts.length⟩,
  tN b (b.getD i 0) e.takes.length (k9 b i e) e.puts.length)
def am (s : Int) : List En :=
 if s % 6 = 0 then [⟨[0], [1]⟩]
 else if s % 6 = 1 then [⟨[0], [1]⟩, ⟨[1], [2]⟩]
 else if s % 6 = 2 then [⟨[0], [1, 2]⟩, ⟨[1], [3]⟩, ⟨[2], [4]⟩]
 else if s % 6 = 3 then [⟨[0, 2], [1]⟩, ⟨[1], [2, 3]⟩]
 else if s % 6 = 4 then [⟨[0], [2]⟩, ⟨[1], [3]⟩, ⟨[2, 3], [4]⟩]
 else [⟨[0], [1]⟩, ⟨[1], [2]⟩, ⟨[2], [3]⟩, ⟨[3], [4]⟩]
theorem wZ {s : Sg} {b : List Int} {i : Nat} (h : b.getD i 0 % 4 = 1) : aR s b i = an s b 2 (i + 1) 1 := if_pos h
theorem w7 {s : Sg} {b : List Int} {i : Nat} (h : ¬b.getD i 0 % 4 = 1) : aR s b i = (fA, i + 1) := if_neg h
def rQ (l : List Int) (n : Int) : Bool := !dh (fun i => !decide (l.getD i 0 = n)) l.length
theorem yF {l : List Int} {n : Int} {i : Nat} (hi : i < l.length) (h : l.getD i 0 = n) : rQ l n = true := by
 unfold rQ; rw [f6 hi (by rw [decide_eq_true h]; rfl)]; rfl
theorem BK {l : List Int} {n : Int} (h : ∀ i, i < l.length → ¬l.getD i 0 = n) : rQ l n = false := by
 unfold rQ; rw [bQ.2 (fun i hi => by rw [decide_eq_false (h i hi)]; rfl)]; rfl
theorem vy {x w : Int} (h0 : 0 ≤ w) (h6 : w ≤ 62) : IntKind.wrap .i64 ((BitVec.ofInt (IntKind.i64).bits x &&& BitVec.ofInt (IntKind.i64).bits (aj w)).toNat : Int) = x % 2 ^ w.toNat := by
 rw [cA h0 h6]; exact ir (by omega)
theorem w8 {s : Sg} {b : List Int} (hb : lF b) {d i : Nat} {w : Int} (hd : d ≤ 3) (h1 : 1 ≤ w) (h2 : w + d ≤ 8) : i ≤ (an s b d i w).2 ∧ (an s b d i w).2 ≤ i + 64 := by
 have h := (tg (s := s) hb d i w hd h1 h2).2.2
 have : 4 ^ d ≤ 4 ^ 3 := Nat.pow_le_pow_right (by omega) hd
 omega
theorem tO {s : Sg} {b : List Int} (hb : lF b) {i : Nat} : i ≤ (aR s b i).2 ∧ (aR s b i).2 ≤ i + 100 := by
 unfold aR
 split
 ·have := w8 (s := s) hb (d := 2) (i := i + 1) (w := 1) (by omega) (by omega) (by omega); omega
 ·simp only; omega
theorem w9 (y : Int) (k : Nat) : 1 ≤ bI y k ∧ bI y k ≤ 2 := by unfold bI; omega
theorem sr {b : List Int} (hb : lF b) (y : Int) (i : Nat) : ∀ k, i ≤ yE b y i k ∧ yE b y i k ≤ i + 100 * k
 | 0 => ⟨Nat.le_refl _, Nat.le_refl _⟩
 | k + 1 => by
  have h1 := sr hb y i k
  have h2 := tO (s := Iq y) hb (i := yE b y i k)
  rw [yE]; omega
theorem ss {b : List Int} (hb : lF b) (y : Int) (n i : Nat) : ∀ k, i ≤ wY b y n i k ∧ wY b y n i k ≤ i + 100 * k
 | 0 => ⟨Nat.le_refl _, Nat.le_refl _⟩
 | k + 1 => by
  have h1 := ss hb y n i k
  have h3 := w9 y k
  have h2 := w8 (s := yD y n) hb (d := 3) (i := wY b y n i k) (w := bI y k) (by omega) (by omega) (by omega)
  rw [wY]; omega
theorem xc {b : List Int} (hb : lF b) (y : Int) (n i : Nat) : ∀ k, i ≤ tN b y n i k ∧ tN b y n i k ≤ i + 200 * k
 | 0 => ⟨Nat.le_refl _, Nat.le_refl _⟩
 | k + 1 => by
  have h1 := xc hb y n i k
  have h3 := tO (s := yD y n) hb (i := tN b y n i k)
  have h2 := w8 (s := yD y n) hb (d := 2) (i := (aR (yD y n) b (tN b y n i k)).2) (w := 2) (by omega) (by omega) (by omega)
  rw [tN]; omega
theorem Am {y : Int} (h : 0 ≤ y) : (rh y : Int) = 1 + y / 2 % 2 ∧ rh y ≤ 2 := by unfold rh; omega
def C3 (b : List Int) (l : List En) : Nat → Nat
 | 0 => 0
 | i + 1 => (bC b (C3 b l i) (Lh i) (l.getD i cI)).2
def rI (b : List Int) (l : List En) (i : Nat) : Pr := (bC b (C3 b l i) (Lh i) (l.getD i cI)).1
def Jq (l : List Int) (a : Int) : Nat → Int
 | 0 => a
 | k + 1 => Hb (Jq l a k) (l.getD k 0)
def qa (l : List En) : Nat → Int
 | 0 => 0
 | i + 1 => Jq (l.getD i cI).puts (qa l i) (l.getD i cI).puts.length
def xk (l : List En) (n : Int) : Nat → Int
 | 0 => -1
 | i + 1 => if rQ (l.getD i cI).takes n = true then (i : Int) else xk l n i
def xl (l : List En) (n : Int) : Nat → Int
 | 0 => -1
 | i + 1 => if rQ (l.getD i cI).puts n = true then (i : Int) else xl l n i
def tW (sh : Int) (l : List En) (n : Nat) : Ch := ⟨KP n, 2, if 0 ≤ xl l n l.length ∧ 0 ≤ xk l n l.length then 1 + (sh / 6 + n) % 3 else 0, xl l n l.length, xk l n l.length⟩
def ld (sh : Int) : Nat := (qa (am sh) (am sh).length).toNat + 1
def aa (sh : Int) (b : List Int) : Ci := ⟨aq (rI b (am sh)) (am sh).length, aq (tW sh (am sh)) (ld sh)⟩
theorem kG (sh : Int) : am sh = [⟨[0], [1]⟩] ∨ am sh = [⟨[0], [1]⟩, ⟨[1], [2]⟩] ∨ am sh = [⟨[0], [1, 2]⟩, ⟨[1], [3]⟩, ⟨[2], [4]⟩] ∨ am sh = [⟨[0, 2], [1]⟩, ⟨[1], [2, 3]⟩] ∨ am sh = [⟨[0], [2]⟩, ⟨[1], [3]⟩, ⟨[2, 3], [4]⟩] ∨ am sh = [⟨[0], [1]⟩, ⟨[1], [2]⟩, ⟨[2], [3]⟩, ⟨[3], [4]⟩] := by
 unfold am
 split
 ·exact .inl rfl
 split
 ·exact .inr (.inl rfl)
 split
 ·exact .inr (.inr (.inl rfl))
 split
 ·exact .inr (.inr (.inr (.inl rfl)))
 split
 ·exact .inr (.inr (.inr (.inr (.inl rfl))))
 ·exact .inr (.inr (.inr (.inr (.inr rfl))))
theorem yG (sh : Int) : 1 ≤ (am sh).length ∧ (am sh).length ≤ 4 := by
 rcases kG sh with h | h | h | h | h | h <;> rw [h] <;> decide
theorem mX (sh : Int) (i : Nat) : ((am sh).getD i cI).takes.length ≤ 2 ∧ ((am sh).getD i cI).puts.length ≤ 2 := by
 have key : ∀ e ∈ am sh, e.takes.length ≤ 2 ∧ e.puts.length ≤ 2 := by
  rcases kG sh with h | h | h | h | h | h <;> rw [h] <;> simp
 by_cases hi : i < (am sh).length
 ·rw [iZ _ _ hi]; exact key _ (List.getElem_mem hi)
 ·rw [List.getD, List.getElem?_eq_none (by omega)]; decide
theorem BL (sh : Int) : 0 ≤ qa (am sh) (am sh).length ∧ qa (am sh) (am sh).length ≤ 4 := by
 rcases kG sh with h | h | h | h | h | h <;> rw [h] <;> decide
theorem Fe (sh : Int) : (ld sh : Int) = qa (am sh) (am sh).length + 1 ∧ ld sh ≤ 5 := by
 have := BL sh; unfold ld; omega
theorem BM {b : List Int} (hb : lF b) (sh : Int) : ∀ i, C3 b (am sh) i ≤ 1000 * i
 | 0 => Nat.le_refl _
 | i + 1 => by
  have h1 := BM hb sh i
  have he := mX sh i
  rw [C3]
  unfold bC
  simp only
  generalize C3 b (am sh) i = p at *
  generalize (am sh).getD i cI = e at *
  have hy := eC hb p
  have hn := Am hy.1
  have a1 : p + 1 ≤ l6 b p e ∧ l6 b p e ≤ p + 1 + 100 * e.takes.length := sr hb (b.getD p 0) (p + 1) e.takes.length
  have a2 : l6 b p e ≤ k9 b p e ∧ k9 b p e ≤ l6 b p e + 100 * rh (b.getD p 0) := ss hb (b.getD p 0) e.takes.length (l6 b p e) (rh (b.getD p 0))
  have a3 := xc hb (b.getD p 0) e.takes.length (k9 b p e) e.puts.length
  omega
theorem Ff (l : List En) (n : Int) : ∀ i, -1 ≤ xk l n i ∧ xk l n i < i
 | 0 => by simp [xk]
 | i + 1 => by have := Ff l n i; rw [xk]; split <;> omega
theorem Fg (l : List En) (n : Int) : ∀ i, -1 ≤ xl l n i ∧ xl l n i < i
 | 0 => by simp [xl]
 | i + 1 => by have := Fg l n i; rw [xl]; split <;> omega
theorem G1 {x : Int} (h0 : 0 ≤ x) (h1 : x ≤ 255) : IntKind.wrap .u8 x = x := Lc rfl h0 h1
def su (b : List Int) (i : Nat) : Nat := (b.getD i 0 % 7).toNat
def ug (b : List Int) (i : Nat) (w : Int) (k : Nat) : Int := b.getD (i + (1 + k)) 0 % 2 ^ w.toNat
def tX (c : Ci) (b : List Int) : Nat → Ns × Nat
 | 0 => (ao c, 0)
 | i + 1 => if 0 ≤ (fF c i).frm then tX c b i else (dp (tX c b i).1 i (aq (ug b (tX c b i).2 (fF c i).w) (su b (tX c b i).2)), (tX c b i).2 + (1 + su b (tX c b i).2))
def ec (c : Ci) (b : List Int) : Ns := (tX c b c.chans.length).1
theorem Fh {b : List Int} (hb : lF b) (i : Nat) : su b i ≤ 6 ∧ (su b i : Int) = b.getD i 0 % 7 := by
 have := eC hb i; unfold su; omega
theorem Fj {c : Ci} {b : List Int} {i : Nat} (h : 0 ≤ (fF c i).frm) : tX c b (i + 1) = tX c b i := by rw [tX, if_pos h]
theorem An {c : Ci} {b : List Int} {i : Nat} (h : ¬0 ≤ (fF c i).frm) : tX c b (i + 1) = (dp (tX c b i).1 i (aq (ug b (tX c b i).2 (fF c i).w) (su b (tX c b i).2)), (tX c b i).2 + (1 + su b (tX c b i).2)) := by rw [tX, if_neg h]
def ee (c : Ci) (s : Ns) (l : List Int) : Ns := l.foldl (fun u k => aD c u (cy (k % c.procs.length))) s
theorem C4 {c : Ci} {s : Ns} {l : List Int} {i : Nat} (h : i < l.length) : ee c s (l.take (i + 1)) = aD c (ee c s (l.take i)) (cy (l.getD i 0 % c.procs.length)) := by
 unfold ee
 rw [List.take_succ_eq_append_getElem h, List.foldl_append]
 simp [List.getD, List.getElem?_eq_getElem h]
theorem KS {x : Int} (h0 : 0 ≤ x) (h1 : x ≤ 255) : IntKind.wrap .u8 (Int.tdiv x 6) = x / 6 := by
 rw [Int.tdiv_eq_ediv_of_nonneg h0]; exact G1 (by omega) (by omega)
theorem Fk {sh : Int} {l : List En} {n : Nat} {fr to : Int} (h1 : 0 ≤ xl l n l.length) (h2 : 0 ≤ xk l n l.length) (h3 : fr = xl l n l.length) (h4 : to = xk l n l.length) : (⟨KP n, 2, 1 + (sh / 6 + n) % 3, fr, to⟩ : Ch) = tW sh l n := by
 unfold tW; rw [if_pos ⟨h1, h2⟩, h3, h4]
theorem Fl {sh : Int} {l : List En} {n : Nat} {fr to : Int} (h : ¬(0 ≤ xl l n l.length ∧ 0 ≤ xk l n l.length)) (h3 : fr = xl l n l.length) (h4 : to = xk l n l.length) : (⟨KP n, 2, 0, fr, to⟩ : Ch) = tW sh l n := by
 unfold tW; rw [if_neg h, h3, h4]
end Go.Proofs.YtifoecfajmnjjaaGreat
