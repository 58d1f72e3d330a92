/-
  Made circuits, plain data.
-/
import Derived.Test.YtgmpoenfoacofaaGreatQNeK
namespace Go.Proofs.YtgmpoenfoacofaaGreat
open Go.RowKit
set_option linter.unusedVariables false
set_option linter.unusedSimpArgs false
structure En where
 takes : List Int
 puts : List Int
def qM (e : En) : List V := [.sl 1 (ae .i64) 0 e.takes, .sl 1 (ae .i64) 0 e.puts]
abbrev cG : En := ⟨[], []⟩
def fZ : Ex := ⟨1, e0, ⟨1, e0⟩, ⟨1, e0⟩, []⟩
def aN (s : Sg) (b : List Int) (i : Nat) : Ex × Nat := if b.getD i 0 % 4 = 1 then am s b 2 (i + 1) 1 else (fZ, i + 1)
def N7 : ByteArray := bs [97]
def N8 : ByteArray := bs [98]
def N9 (k : Nat) : ByteArray := [bs [114], bs [115]].getD k e0
def NY (k : Nat) : ByteArray := [bs [112], bs [113], bs [117], bs [118]].getD k e0
def Nz (k : Nat) : ByteArray := [bs [99, 48], bs [99, 49], bs [99, 50], bs [99, 51], bs [99, 52]].getD k e0
def bE (y : Int) (k : Nat) : Int := 1 + (y / 4 + k) % 2
def sd (y : Int) : Nat := (1 + y / 2 % 2).toNat
def K0 (y : Int) : List Int := tab (bE y) (sd y)
def K1 (y : Int) : Sg := ⟨K0 y, [], [], false⟩
def Az (y : Int) (n : Nat) : Sg := ⟨K0 y, List.replicate n 2, [], true⟩
def vH (y : Int) (k : Nat) : Rg := ⟨N9 k, bE y k, y / 8 % 2 ^ (bE y k).toNat, dE, ⟨[1, 1, 0].getD (y / 16 % 3).toNat 0, e0, 0⟩⟩
def AA (b : List Int) (y : Int) (i : Nat) : Nat → Nat
 | 0 => i
 | k + 1 => (aN (K1 y) b (AA b y i k)).2
def yT (b : List Int) (y : Int) (n : Nat) (i : Nat) : Nat → Nat
 | 0 => i
 | k + 1 => (am (Az y n) b 3 (yT b y n i k) (bE y k)).2
def vI (b : List Int) (y : Int) (n : Nat) (i : Nat) : Nat → Nat
 | 0 => i
 | k + 1 => (am (Az y n) b 2 (aN (Az y n) b (vI b y n i k)).2 2).2
def Fv (b : List Int) (y : Int) (i : Nat) (e : En) (k : Nat) : Tk := ⟨e.takes.getD k 0, 2, (aN (K1 y) b (AA b y i k)).1⟩
def NA (b : List Int) (y : Int) (n i k : Nat) : Rg := { vH y k with next := (am (Az y n) b 3 (yT b y n i k) (bE y k)).1 }
def HR (b : List Int) (y : Int) (n i : Nat) (e : En) (k : Nat) : Pt := ⟨e.puts.getD k 0, 2, (aN (Az y n) b (vI b y n i k)).1, (am (Az y n) b 2 (aN (Az y n) b (vI b y n i k)).2 2).1⟩
def NB (y : Int) : ByteArray := [N7, N8].getD (y % 2).toNat e0
def mC (b : List Int) (i : Nat) (e : En) : Nat := AA b (b.getD i 0) (i + 1) e.takes.length
def lI (b : List Int) (i : Nat) (e : En) : Nat := yT b (b.getD i 0) e.takes.length (mC b i e) (sd (b.getD i 0))
def bw (b : List Int) (i : Nat) (nm : ByteArray) (e : En) : Pr × Nat :=
 (⟨nm, NB (b.getD i 0), tab (NA b (b.getD i 0) e.takes.length (mC b i e)) (sd (b.getD i 0)), [], tab (Fv b (b.getD i 0) (i + 1) e) e.takes.length, tab (HR b (b.getD i 0) e.takes.length (lI b i e) e) e.puts.length⟩,
  vI b (b.getD i 0) e.takes.length (lI b i e) e.puts.length)
def ak (s : Int) : List En :=
 if s % 6 = 0 then [⟨[0], [1]⟩]
 else if s % 6 = 1 then [⟨[0], [1]⟩, ⟨[1], [2]⟩]
 else if s % 6 = 2 then [⟨[0], [1, 2]⟩, ⟨[1], [3]⟩, ⟨[2], [4]⟩]
 else if s % 6 = 3 then [⟨[0, 2], [1]⟩, ⟨[1], [2, 3]⟩]
 else if s % 6 = 4 then [⟨[0], [2]⟩, ⟨[1], [3]⟩, ⟨[2, 3], [4]⟩]
 else [⟨[0], [1]⟩, ⟨[1], [2]⟩, ⟨[2], [3]⟩, ⟨[3], [4]⟩]
theorem yU {s : Sg} {b : List Int} {i : Nat} (h : b.getD i 0 % 4 = 1) : aN s b i = am s b 2 (i + 1) 1 := if_pos h
theorem yV {s : Sg} {b : List Int} {i : Nat} (h : ¬b.getD i 0 % 4 = 1) : aN s b i = (fZ, i + 1) := if_neg h
def s9 (l : List Int) (n : Int) : Bool := !ct (fun i => !decide (l.getD i 0 = n)) l.length
theorem AB {l : List Int} {n : Int} {i : Nat} (hi : i < l.length) (h : l.getD i 0 = n) : s9 l n = true := by
 unfold s9; rw [fx hi (by rw [decide_eq_true h]; rfl)]; rfl
theorem DJ {l : List Int} {n : Int} (h : ∀ i, i < l.length → ¬l.getD i 0 = n) : s9 l n = false := by
 unfold s9; rw [bi.2 (fun i hi => by rw [decide_eq_false (h i hi)]; rfl)]; rfl
theorem xx {x w : Int} (h0 : 0 ≤ w) (h6 : w ≤ 62) : IntKind.wrap .i64 ((BitVec.ofInt (IntKind.i64).bits x &&& BitVec.ofInt (IntKind.i64).bits (ah w)).toNat : Int) = x % 2 ^ w.toNat := by
 rw [ck h0 h6]; exact jU (by omega)
theorem yW {s : Sg} {b : List Int} (hb : gR b) {d i : Nat} {w : Int} (hd : d ≤ 3) (h1 : 1 ≤ w) (h2 : w + d ≤ 8) : i ≤ (am s b d i w).2 ∧ (am s b d i w).2 ≤ i + 64 := by
 have h := (uZ (s := s) hb d i w hd h1 h2).2.2
 have : 4 ^ d ≤ 4 ^ 3 := Nat.pow_le_pow_right (by omega) hd
 omega
theorem vJ {s : Sg} {b : List Int} (hb : gR b) {i : Nat} : i ≤ (aN s b i).2 ∧ (aN s b i).2 ≤ i + 100 := by
 unfold aN
 split
 ·have := yW (s := s) hb (d := 2) (i := i + 1) (w := 1) (by omega) (by omega) (by omega); omega
 ·simp only; omega
theorem yX (y : Int) (k : Nat) : 1 ≤ bE y k ∧ bE y k ≤ 2 := by unfold bE; omega
theorem tP {b : List Int} (hb : gR b) (y : Int) (i : Nat) : ∀ k, i ≤ AA b y i k ∧ AA b y i k ≤ i + 100 * k
 | 0 => ⟨Nat.le_refl _, Nat.le_refl _⟩
 | k + 1 => by
  have h1 := tP hb y i k
  have h2 := vJ (s := K1 y) hb (i := AA b y i k)
  rw [AA]; omega
theorem tQ {b : List Int} (hb : gR b) (y : Int) (n i : Nat) : ∀ k, i ≤ yT b y n i k ∧ yT b y n i k ≤ i + 100 * k
 | 0 => ⟨Nat.le_refl _, Nat.le_refl _⟩
 | k + 1 => by
  have h1 := tQ hb y n i k
  have h3 := yX y k
  have h2 := yW (s := Az y n) hb (d := 3) (i := yT b y n i k) (w := bE y k) (by omega) (by omega) (by omega)
  rw [yT]; omega
theorem yY {b : List Int} (hb : gR b) (y : Int) (n i : Nat) : ∀ k, i ≤ vI b y n i k ∧ vI b y n i k ≤ i + 200 * k
 | 0 => ⟨Nat.le_refl _, Nat.le_refl _⟩
 | k + 1 => by
  have h1 := yY hb y n i k
  have h3 := vJ (s := Az y n) hb (i := vI b y n i k)
  have h2 := yW (s := Az y n) hb (d := 2) (i := (aN (Az y n) b (vI b y n i k)).2) (w := 2) (by omega) (by omega) (by omega)
  rw [vI]; omega
theorem B2 {y : Int} (h : 0 ≤ y) : (sd y : Int) = 1 + y / 2 % 2 ∧ sd y ≤ 2 := by unfold sd; omega
def Fe (b : List Int) (l : List En) : Nat → Nat
 | 0 => 0
 | i + 1 => (bw b (Fe b l i) (NY i) (l.getD i cG)).2
def sU (b : List Int) (l : List En) (i : Nat) : Pr := (bw b (Fe b l i) (NY i) (l.getD i cG)).1
def L8 (l : List Int) (a : Int) : Nat → Int
 | 0 => a
 | k + 1 => JN (L8 l a k) (l.getD k 0)
def qN (l : List En) : Nat → Int
 | 0 => 0
 | i + 1 => L8 (l.getD i cG).puts (qN l i) (l.getD i cG).puts.length
def zh (l : List En) (n : Int) : Nat → Int
 | 0 => -1
 | i + 1 => if s9 (l.getD i cG).takes n = true then (i : Int) else zh l n i
def zi (l : List En) (n : Int) : Nat → Int
 | 0 => -1
 | i + 1 => if s9 (l.getD i cG).puts n = true then (i : Int) else zi l n i
def vK (sh : Int) (l : List En) (n : Nat) : Ch := ⟨Nz n, 2, if 0 ≤ zi l n l.length ∧ 0 ≤ zh l n l.length then 1 + (sh / 6 + n) % 3 else 0, zi l n l.length, zh l n l.length⟩
def lJ (sh : Int) : Nat := (qN (ak sh) (ak sh).length).toNat + 1
def aa (sh : Int) (b : List Int) : Ci := ⟨tab (sU b (ak sh)) (ak sh).length, tab (vK sh (ak sh)) (lJ sh)⟩
theorem lf (sh : Int) : ak sh = [⟨[0], [1]⟩] ∨ ak sh = [⟨[0], [1]⟩, ⟨[1], [2]⟩] ∨ ak sh = [⟨[0], [1, 2]⟩, ⟨[1], [3]⟩, ⟨[2], [4]⟩] ∨ ak sh = [⟨[0, 2], [1]⟩, ⟨[1], [2, 3]⟩] ∨ ak sh = [⟨[0], [2]⟩, ⟨[1], [3]⟩, ⟨[2, 3], [4]⟩] ∨ ak sh = [⟨[0], [1]⟩, ⟨[1], [2]⟩, ⟨[2], [3]⟩, ⟨[3], [4]⟩] := by
 unfold ak
 split
 ·exact .inl rfl
 split
 ·exact .inr (.inl rfl)
 split
 ·exact .inr (.inr (.inl rfl))
 split
 ·exact .inr (.inr (.inr (.inl rfl)))
 split
 ·exact .inr (.inr (.inr (.inr (.inl rfl))))
 ·exact .inr (.inr (.inr (.inr (.inr rfl))))
theorem AC (sh : Int) : 1 ≤ (ak sh).length ∧ (ak sh).length ≤ 4 := by
 rcases lf sh with h | h | h | h | h | h <;> rw [h] <;> decide
theorem ny (sh : Int) (i : Nat) : ((ak sh).getD i cG).takes.length ≤ 2 ∧ ((ak sh).getD i cG).puts.length ≤ 2 := by
 have key : ∀ e ∈ ak sh, e.takes.length ≤ 2 ∧ e.puts.length ≤ 2 := by
  rcases lf sh with h | h | h | h | h | h <;> rw [h] <;> simp
 by_cases hi : i < (ak sh).length
 ·rw [fq _ _ hi]; exact key _ (List.getElem_mem hi)
 ·rw [List.getD, List.getElem?_eq_none (by omega)]; decide
theorem DK (sh : Int) : 0 ≤ qN (ak sh) (ak sh).length ∧ qN (ak sh) (ak sh).length ≤ 4 := by
 rcases lf sh with h | h | h | h | h | h <;> rw [h] <;> decide
theorem Hu (sh : Int) : (lJ sh : Int) = qN (ak sh) (ak sh).length + 1 ∧ lJ sh ≤ 5 := by
 have := DK sh; unfold lJ; omega
theorem DL {b : List Int} (hb : gR b) (sh : Int) : ∀ i, Fe b (ak sh) i ≤ 1000 * i
 | 0 => Nat.le_refl _
 | i + 1 => by
  have h1 := DL hb sh i
  have he := ny sh i
  rw [Fe]
  unfold bw
  simp only
  generalize Fe b (ak sh) i = p at *
  generalize (ak sh).getD i cG = e at *
  have hy := dD hb p
  have hn := B2 hy.1
  have a1 : p + 1 ≤ mC b p e ∧ mC b p e ≤ p + 1 + 100 * e.takes.length := tP hb (b.getD p 0) (p + 1) e.takes.length
  have a2 : mC b p e ≤ lI b p e ∧ lI b p e ≤ mC b p e + 100 * sd (b.getD p 0) := tQ hb (b.getD p 0) e.takes.length (mC b p e) (sd (b.getD p 0))
  have a3 := yY hb (b.getD p 0) e.takes.length (lI b p e) e.puts.length
  omega
theorem Hv (l : List En) (n : Int) : ∀ i, -1 ≤ zh l n i ∧ zh l n i < i
 | 0 => by simp [zh]
 | i + 1 => by have := Hv l n i; rw [zh]; split <;> omega
theorem Hw (l : List En) (n : Int) : ∀ i, -1 ≤ zi l n i ∧ zi l n i < i
 | 0 => by simp [zi]
 | i + 1 => by have := Hw l n i; rw [zi]; split <;> omega
theorem JE {x : Int} (h0 : 0 ≤ x) (h1 : x ≤ 255) : IntKind.wrap .u8 x = x := Lj rfl h0 h1
def tR (b : List Int) (i : Nat) : Nat := (b.getD i 0 % 7).toNat
def wo (b : List Int) (i : Nat) (w : Int) (k : Nat) : Int := b.getD (i + (1 + k)) 0 % 2 ^ w.toNat
def v5 (c : Ci) (b : List Int) : Nat → Ns × Nat
 | 0 => (aH c, 0)
 | i + 1 => if 0 ≤ (dt c i).frm then v5 c b i else (d9 (v5 c b i).1 i (tab (wo b (v5 c b i).2 (dt c i).w) (tR b (v5 c b i).2)), (v5 c b i).2 + (1 + tR b (v5 c b i).2))
def cg (c : Ci) (b : List Int) : Ns := (v5 c b c.chans.length).1
theorem Hx {b : List Int} (hb : gR b) (i : Nat) : tR b i ≤ 6 ∧ (tR b i : Int) = b.getD i 0 % 7 := by
 have := dD hb i; unfold tR; omega
theorem Hy {c : Ci} {b : List Int} {i : Nat} (h : 0 ≤ (dt c i).frm) : v5 c b (i + 1) = v5 c b i := by rw [v5, if_pos h]
theorem B3 {c : Ci} {b : List Int} {i : Nat} (h : ¬0 ≤ (dt c i).frm) : v5 c b (i + 1) = (d9 (v5 c b i).1 i (tab (wo b (v5 c b i).2 (dt c i).w) (tR b (v5 c b i).2)), (v5 c b i).2 + (1 + tR b (v5 c b i).2)) := by rw [v5, if_neg h]
def cY (c : Ci) (s : Ns) (l : List Int) : Ns := l.foldl (fun u k => a4 c u (wj (k % c.procs.length))) s
theorem Ff {c : Ci} {s : Ns} {l : List Int} {i : Nat} (h : i < l.length) : cY c s (l.take (i + 1)) = a4 c (cY c s (l.take i)) (wj (l.getD i 0 % c.procs.length)) := by
 unfold cY
 rw [List.take_succ_eq_append_getElem h, List.foldl_append]
 simp [List.getD, List.getElem?_eq_getElem h]
theorem NC {x : Int} (h0 : 0 ≤ x) (h1 : x ≤ 255) : IntKind.wrap .u8 (Int.tdiv x 6) = x / 6 := by
 rw [Int.tdiv_eq_ediv_of_nonneg h0]; exact JE (by omega) (by omega)
theorem Hz {sh : Int} {l : List En} {n : Nat} {fr to : Int} (h1 : 0 ≤ zi l n l.length) (h2 : 0 ≤ zh l n l.length) (h3 : fr = zi l n l.length) (h4 : to = zh l n l.length) : (⟨Nz n, 2, 1 + (sh / 6 + n) % 3, fr, to⟩ : Ch) = vK sh l n := by
 unfold vK; rw [if_pos ⟨h1, h2⟩, h3, h4]
theorem HA {sh : Int} {l : List En} {n : Nat} {fr to : Int} (h : ¬(0 ≤ zi l n l.length ∧ 0 ≤ zh l n l.length)) (h3 : fr = zi l n l.length) (h4 : to = zh l n l.length) : (⟨Nz n, 2, 0, fr, to⟩ : Ch) = vK sh l n := by
 unfold vK; rw [if_neg h, h3, h4]
end Go.Proofs.YtgmpoenfoacofaaGreat
