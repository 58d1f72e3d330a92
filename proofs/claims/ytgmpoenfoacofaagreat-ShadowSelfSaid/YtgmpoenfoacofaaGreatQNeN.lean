/-
  Made circuits, plain data.
-/
import Derived.Test.YtgmpoenfoacofaaGreatQBitR
namespace Go.Proofs.YtgmpoenfoacofaaGreat
open Go.RowKit
set_option linter.unusedVariables false
set_option linter.unusedSimpArgs false
structure En where
 takes : List Int
 puts : List Int
def po (e : En) : List V := [.sl 1 (ae .i64) 0 e.takes, .sl 1 (ae .i64) 0 e.puts]
abbrev cH : En := ⟨[], []⟩
def f7 : Ex := ⟨1, e0, ⟨1, e0⟩, ⟨1, e0⟩, []⟩
def aL (s : Sg) (b : List Int) (i : Nat) : Ex × Nat := if b.getD i 0 % 4 = 1 then ak s b 2 (i + 1) 1 else (f7, i + 1)
def L2 : ByteArray := bs [97]
def L3 : ByteArray := bs [98]
def L4 (k : Nat) : ByteArray := [bs [114], bs [115]].getD k e0
def LS (k : Nat) : ByteArray := [bs [112], bs [113], bs [117], bs [118]].getD k e0
def Lu (k : Nat) : ByteArray := [bs [99, 48], bs [99, 49], bs [99, 50], bs [99, 51], bs [99, 52]].getD k e0
def bC (y : Int) (k : Nat) : Int := 1 + (y / 4 + k) % 2
def qC (y : Int) : Nat := (1 + y / 2 % 2).toNat
def I9 (y : Int) : List Int := ao (bC y) (qC y)
def Ja (y : Int) : Sg := ⟨I9 y, [], [], false⟩
def yG (y : Int) (n : Nat) : Sg := ⟨I9 y, List.replicate n 2, [], true⟩
def tP (y : Int) (k : Nat) : Rg := ⟨L4 k, bC y k, y / 8 % 2 ^ (bC y k).toNat, dE, ⟨[1, 1, 0].getD (y / 16 % 3).toNat 0, e0, 0⟩⟩
def yH (b : List Int) (y : Int) (i : Nat) : Nat → Nat
 | 0 => i
 | k + 1 => (aL (Ja y) b (yH b y i k)).2
def xa (b : List Int) (y : Int) (n : Nat) (i : Nat) : Nat → Nat
 | 0 => i
 | k + 1 => (ak (yG y n) b 3 (xa b y n i k) (bC y k)).2
def tQ (b : List Int) (y : Int) (n : Nat) (i : Nat) : Nat → Nat
 | 0 => i
 | k + 1 => (ak (yG y n) b 2 (aL (yG y n) b (tQ b y n i k)).2 2).2
def Dy (b : List Int) (y : Int) (i : Nat) (e : En) (k : Nat) : Tk := ⟨e.takes.getD k 0, 2, (aL (Ja y) b (yH b y i k)).1⟩
def Lv (b : List Int) (y : Int) (n i k : Nat) : Rg := { tP y k with next := (ak (yG y n) b 3 (xa b y n i k) (bC y k)).1 }
def F5 (b : List Int) (y : Int) (n i : Nat) (e : En) (k : Nat) : Pt := ⟨e.puts.getD k 0, 2, (aL (yG y n) b (tQ b y n i k)).1, (ak (yG y n) b 2 (aL (yG y n) b (tQ b y n i k)).2 2).1⟩
def Lw (y : Int) : ByteArray := [L2, L3].getD (y % 2).toNat e0
def ln (b : List Int) (i : Nat) (e : En) : Nat := yH b (b.getD i 0) (i + 1) e.takes.length
def kw (b : List Int) (i : Nat) (e : En) : Nat := xa b (b.getD i 0) e.takes.length (ln b i e) (qC (b.getD i 0))
def bv (b : List Int) (i : Nat) (nm : ByteArray) (e : En) : Pr × Nat :=
 (⟨nm, Lw (b.getD i 0), ao (Lv b (b.getD i 0) e.takes.length (ln b i e)) (qC (b.getD i 0)), [], ao (Dy b (b.getD i 0) (i + 1) e) e.takes.length, ao (F5 b (b.getD i 0) e.takes.length (kw b i e) e) e.puts.length⟩,
  tQ b (b.getD i 0) e.takes.length (kw b i e) e.puts.length)
def aj (s : Int) : List En :=
 if s % 6 = 0 then [⟨[0], [1]⟩]
 else if s % 6 = 1 then [⟨[0], [1]⟩, ⟨[1], [2]⟩]
 else if s % 6 = 2 then [⟨[0], [1, 2]⟩, ⟨[1], [3]⟩, ⟨[2], [4]⟩]
 else if s % 6 = 3 then [⟨[0, 2], [1]⟩, ⟨[1], [2, 3]⟩]
 else if s % 6 = 4 then [⟨[0], [2]⟩, ⟨[1], [3]⟩, ⟨[2, 3], [4]⟩]
 else [⟨[0], [1]⟩, ⟨[1], [2]⟩, ⟨[2], [3]⟩, ⟨[3], [4]⟩]
theorem xc {s : Sg} {b : List Int} {i : Nat} (h : b.getD i 0 % 4 = 1) : aL s b i = ak s b 2 (i + 1) 1 := if_pos h
theorem xd {s : Sg} {b : List Int} {i : Nat} (h : ¬b.getD i 0 % 4 = 1) : aL s b i = (f7, i + 1) := if_neg h
def rx (l : List Int) (n : Int) : Bool := !cz (fun i => !decide (l.getD i 0 = n)) l.length
theorem yI {l : List Int} {n : Int} {i : Nat} (hi : i < l.length) (h : l.getD i 0 = n) : rx l n = true := by
 unfold rx; rw [gu hi (by rw [decide_eq_true h]; rfl)]; rfl
theorem BQ {l : List Int} {n : Int} (h : ∀ i, i < l.length → ¬l.getD i 0 = n) : rx l n = false := by
 unfold rx; rw [bu.2 (fun i hi => by rw [decide_eq_false (h i hi)]; rfl)]; rfl
theorem vG {x w : Int} (h0 : 0 ≤ w) (h6 : w ≤ 62) : IntKind.wrap .i64 ((BitVec.ofInt (IntKind.i64).bits x &&& BitVec.ofInt (IntKind.i64).bits (af w)).toNat : Int) = x % 2 ^ w.toNat := by
 rw [cf h0 h6]; exact i4 (by omega)
theorem xe {s : Sg} {b : List Int} (hb : hJ b) {d i : Nat} {w : Int} (hd : d ≤ 3) (h1 : 1 ≤ w) (h2 : w + d ≤ 8) : i ≤ (ak s b d i w).2 ∧ (ak s b d i w).2 ≤ i + 64 := by
 have h := (s5 (s := s) hb d i w hd h1 h2).2.2
 have : 4 ^ d ≤ 4 ^ 3 := Nat.pow_le_pow_right (by omega) hd
 omega
theorem tR {s : Sg} {b : List Int} (hb : hJ b) {i : Nat} : i ≤ (aL s b i).2 ∧ (aL s b i).2 ≤ i + 100 := by
 unfold aL
 split
 ·have := xe (s := s) hb (d := 2) (i := i + 1) (w := 1) (by omega) (by omega) (by omega); omega
 ·simp only; omega
theorem xf (y : Int) (k : Nat) : 1 ≤ bC y k ∧ bC y k ≤ 2 := by unfold bC; omega
theorem rZ {b : List Int} (hb : hJ b) (y : Int) (i : Nat) : ∀ k, i ≤ yH b y i k ∧ yH b y i k ≤ i + 100 * k
 | 0 => ⟨Nat.le_refl _, Nat.le_refl _⟩
 | k + 1 => by
  have h1 := rZ hb y i k
  have h2 := tR (s := Ja y) hb (i := yH b y i k)
  rw [yH]; omega
theorem r6 {b : List Int} (hb : hJ b) (y : Int) (n i : Nat) : ∀ k, i ≤ xa b y n i k ∧ xa b y n i k ≤ i + 100 * k
 | 0 => ⟨Nat.le_refl _, Nat.le_refl _⟩
 | k + 1 => by
  have h1 := r6 hb y n i k
  have h3 := xf y k
  have h2 := xe (s := yG y n) hb (d := 3) (i := xa b y n i k) (w := bC y k) (by omega) (by omega) (by omega)
  rw [xa]; omega
theorem xg {b : List Int} (hb : hJ b) (y : Int) (n i : Nat) : ∀ k, i ≤ tQ b y n i k ∧ tQ b y n i k ≤ i + 200 * k
 | 0 => ⟨Nat.le_refl _, Nat.le_refl _⟩
 | k + 1 => by
  have h1 := xg hb y n i k
  have h3 := tR (s := yG y n) hb (i := tQ b y n i k)
  have h2 := xe (s := yG y n) hb (d := 2) (i := (aL (yG y n) b (tQ b y n i k)).2) (w := 2) (by omega) (by omega) (by omega)
  rw [tQ]; omega
theorem Ac {y : Int} (h : 0 ≤ y) : (qC y : Int) = 1 + y / 2 % 2 ∧ qC y ≤ 2 := by unfold qC; omega
def Dn (b : List Int) (l : List En) : Nat → Nat
 | 0 => 0
 | i + 1 => (bv b (Dn b l i) (LS i) (l.getD i cH)).2
def ro (b : List Int) (l : List En) (i : Nat) : Pr := (bv b (Dn b l i) (LS i) (l.getD i cH)).1
def J9 (l : List Int) (a : Int) : Nat → Int
 | 0 => a
 | k + 1 => HS (J9 l a k) (l.getD k 0)
def pp (l : List En) : Nat → Int
 | 0 => 0
 | i + 1 => J9 (l.getD i cH).puts (pp l i) (l.getD i cH).puts.length
def xw (l : List En) (n : Int) : Nat → Int
 | 0 => -1
 | i + 1 => if rx (l.getD i cH).takes n = true then (i : Int) else xw l n i
def xh (l : List En) (n : Int) : Nat → Int
 | 0 => -1
 | i + 1 => if rx (l.getD i cH).puts n = true then (i : Int) else xh l n i
def r7 (sh : Int) (l : List En) (n : Nat) : Ch := ⟨Lu n, 2, if 0 ≤ xh l n l.length ∧ 0 ≤ xw l n l.length then 1 + (sh / 6 + n) % 3 else 0, xh l n l.length, xw l n l.length⟩
def jp (sh : Int) : Nat := (pp (aj sh) (aj sh).length).toNat + 1
def aa (sh : Int) (b : List Int) : Ci := ⟨ao (ro b (aj sh)) (aj sh).length, ao (r7 sh (aj sh)) (jp sh)⟩
theorem im (sh : Int) : aj sh = [⟨[0], [1]⟩] ∨ aj sh = [⟨[0], [1]⟩, ⟨[1], [2]⟩] ∨ aj sh = [⟨[0], [1, 2]⟩, ⟨[1], [3]⟩, ⟨[2], [4]⟩] ∨ aj sh = [⟨[0, 2], [1]⟩, ⟨[1], [2, 3]⟩] ∨ aj sh = [⟨[0], [2]⟩, ⟨[1], [3]⟩, ⟨[2, 3], [4]⟩] ∨ aj sh = [⟨[0], [1]⟩, ⟨[1], [2]⟩, ⟨[2], [3]⟩, ⟨[3], [4]⟩] := by
 unfold aj
 split
 ·exact .inl rfl
 split
 ·exact .inr (.inl rfl)
 split
 ·exact .inr (.inr (.inl rfl))
 split
 ·exact .inr (.inr (.inr (.inl rfl)))
 split
 ·exact .inr (.inr (.inr (.inr (.inl rfl))))
 ·exact .inr (.inr (.inr (.inr (.inr rfl))))
theorem yJ (sh : Int) : 1 ≤ (aj sh).length ∧ (aj sh).length ≤ 4 := by
 rcases im sh with h | h | h | h | h | h <;> rw [h] <;> decide
theorem mf (sh : Int) (i : Nat) : ((aj sh).getD i cH).takes.length ≤ 2 ∧ ((aj sh).getD i cH).puts.length ≤ 2 := by
 have key : ∀ e ∈ aj sh, e.takes.length ≤ 2 ∧ e.puts.length ≤ 2 := by
  rcases im sh with h | h | h | h | h | h <;> rw [h] <;> simp
 by_cases hi : i < (aj sh).length
 ·rw [gf _ _ hi]; exact key _ (List.getElem_mem hi)
 ·rw [List.getD, List.getElem?_eq_none (by omega)]; decide
theorem BR (sh : Int) : 0 ≤ pp (aj sh) (aj sh).length ∧ pp (aj sh) (aj sh).length ≤ 4 := by
 rcases im sh with h | h | h | h | h | h <;> rw [h] <;> decide
theorem FK (sh : Int) : (jp sh : Int) = pp (aj sh) (aj sh).length + 1 ∧ jp sh ≤ 5 := by
 have := BR sh; unfold jp; omega
theorem BS {b : List Int} (hb : hJ b) (sh : Int) : ∀ i, Dn b (aj sh) i ≤ 1000 * i
 | 0 => Nat.le_refl _
 | i + 1 => by
  have h1 := BS hb sh i
  have he := mf sh i
  rw [Dn]
  unfold bv
  simp only
  generalize Dn b (aj sh) i = p at *
  generalize (aj sh).getD i cH = e at *
  have hy := dC hb p
  have hn := Ac hy.1
  have a1 : p + 1 ≤ ln b p e ∧ ln b p e ≤ p + 1 + 100 * e.takes.length := rZ hb (b.getD p 0) (p + 1) e.takes.length
  have a2 : ln b p e ≤ kw b p e ∧ kw b p e ≤ ln b p e + 100 * qC (b.getD p 0) := r6 hb (b.getD p 0) e.takes.length (ln b p e) (qC (b.getD p 0))
  have a3 := xg hb (b.getD p 0) e.takes.length (kw b p e) e.puts.length
  omega
theorem FL (l : List En) (n : Int) : ∀ i, -1 ≤ xw l n i ∧ xw l n i < i
 | 0 => by simp [xw]
 | i + 1 => by have := FL l n i; rw [xw]; split <;> omega
theorem FM (l : List En) (n : Int) : ∀ i, -1 ≤ xh l n i ∧ xh l n i < i
 | 0 => by simp [xh]
 | i + 1 => by have := FM l n i; rw [xh]; split <;> omega
theorem HK {x : Int} (h0 : 0 ≤ x) (h1 : x ≤ 255) : IntKind.wrap .u8 x = x := KA rfl h0 h1
def r8 (b : List Int) (i : Nat) : Nat := (b.getD i 0 % 7).toNat
def ur (b : List Int) (i : Nat) (w : Int) (k : Nat) : Int := b.getD (i + (1 + k)) 0 % 2 ^ w.toNat
def t7 (c : Ci) (b : List Int) : Nat → Ns × Nat
 | 0 => (aE c, 0)
 | i + 1 => if 0 ≤ (cL c i).frm then t7 c b i else (fa (t7 c b i).1 i (ao (ur b (t7 c b i).2 (cL c i).w) (r8 b (t7 c b i).2)), (t7 c b i).2 + (1 + r8 b (t7 c b i).2))
def b9 (c : Ci) (b : List Int) : Ns := (t7 c b c.chans.length).1
theorem FN {b : List Int} (hb : hJ b) (i : Nat) : r8 b i ≤ 6 ∧ (r8 b i : Int) = b.getD i 0 % 7 := by
 have := dC hb i; unfold r8; omega
theorem FO {c : Ci} {b : List Int} {i : Nat} (h : 0 ≤ (cL c i).frm) : t7 c b (i + 1) = t7 c b i := by rw [t7, if_pos h]
theorem Ad {c : Ci} {b : List Int} {i : Nat} (h : ¬0 ≤ (cL c i).frm) : t7 c b (i + 1) = (fa (t7 c b i).1 i (ao (ur b (t7 c b i).2 (cL c i).w) (r8 b (t7 c b i).2)), (t7 c b i).2 + (1 + r8 b (t7 c b i).2)) := by rw [t7, if_neg h]
def cQ (c : Ci) (s : Ns) (l : List Int) : Ns := l.foldl (fun u k => aG c u (qv (k % c.procs.length))) s
theorem Dp {c : Ci} {s : Ns} {l : List Int} {i : Nat} (h : i < l.length) : cQ c s (l.take (i + 1)) = aG c (cQ c s (l.take i)) (qv (l.getD i 0 % c.procs.length)) := by
 unfold cQ
 rw [List.take_succ_eq_append_getElem h, List.foldl_append]
 simp [List.getD, List.getElem?_eq_getElem h]
theorem Lx {x : Int} (h0 : 0 ≤ x) (h1 : x ≤ 255) : IntKind.wrap .u8 (Int.tdiv x 6) = x / 6 := by
 rw [Int.tdiv_eq_ediv_of_nonneg h0]; exact HK (by omega) (by omega)
theorem FP {sh : Int} {l : List En} {n : Nat} {fr to : Int} (h1 : 0 ≤ xh l n l.length) (h2 : 0 ≤ xw l n l.length) (h3 : fr = xh l n l.length) (h4 : to = xw l n l.length) : (⟨Lu n, 2, 1 + (sh / 6 + n) % 3, fr, to⟩ : Ch) = r7 sh l n := by
 unfold r7; rw [if_pos ⟨h1, h2⟩, h3, h4]
theorem FQ {sh : Int} {l : List En} {n : Nat} {fr to : Int} (h : ¬(0 ≤ xh l n l.length ∧ 0 ≤ xw l n l.length)) (h3 : fr = xh l n l.length) (h4 : to = xw l n l.length) : (⟨Lu n, 2, 0, fr, to⟩ : Ch) = r7 sh l n := by
 unfold r7; rw [if_neg h, h3, h4]
end Go.Proofs.YtgmpoenfoacofaaGreat
