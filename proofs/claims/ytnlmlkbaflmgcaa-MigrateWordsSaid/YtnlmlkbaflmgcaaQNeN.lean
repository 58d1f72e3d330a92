/-
  Made circuits, plain data.
-/
import Derived.Test.YtnlmlkbaflmgcaaQNeK
namespace Go.Proofs.Ytnlmlkbaflmgcaa
open Go.RowKit
set_option linter.unusedVariables false
set_option linter.unusedSimpArgs false
structure En where
 takes : List Int
 puts : List Int
def ou (e : En) : List V := [.sl 1 (aa .i64) 0 e.takes, .sl 1 (aa .i64) 0 e.puts]
abbrev b8 : En := ⟨[], []⟩
def gb : Ex := ⟨1, e0, ⟨1, e0⟩, ⟨1, e0⟩, []⟩
def aN (s : Sg) (b : List Int) (i : Nat) : Ex × Nat := if b.getD i 0 % 4 = 1 then an s b 2 (i + 1) 1 else (gb, i + 1)
def Lw : ByteArray := bs [97]
def Lx : ByteArray := bs [98]
def KD (k : Nat) : ByteArray := [bs [114], bs [115]].getD k e0
def GV (k : Nat) : ByteArray := [bs [112], bs [113], bs [117], bs [118]].getD k e0
def EY (k : Nat) : ByteArray := [bs [99, 48], bs [99, 49], bs [99, 50], bs [99, 51], bs [99, 52]].getD k e0
def bm (y : Int) (k : Nat) : Int := 1 + (y / 4 + k) % 2
def oM (y : Int) : Nat := (1 + y / 2 % 2).toNat
def Ix (y : Int) : List Int := tab (bm y) (oM y)
def Iy (y : Int) : Sg := ⟨Ix y, [], [], false⟩
def xd (y : Int) (n : Nat) : Sg := ⟨Ix y, List.replicate n 2, [], true⟩
def rZ (y : Int) (k : Nat) : Rg := ⟨KD k, bm y k, y / 8 % 2 ^ (bm y k).toNat, dE, ⟨[1, 1, 0].getD (y / 16 % 3).toNat 0, e0, 0⟩⟩
def xe (b : List Int) (y : Int) (i : Nat) : Nat → Nat
 | 0 => i
 | k + 1 => (aN (Iy y) b (xe b y i k)).2
def vH (b : List Int) (y : Int) (n : Nat) (i : Nat) : Nat → Nat
 | 0 => i
 | k + 1 => (an (xd y n) b 3 (vH b y n i k) (bm y k)).2
def r6 (b : List Int) (y : Int) (n : Nat) (i : Nat) : Nat → Nat
 | 0 => i
 | k + 1 => (an (xd y n) b 2 (aN (xd y n) b (r6 b y n i k)).2 2).2
def B2 (b : List Int) (y : Int) (i : Nat) (e : En) (k : Nat) : Tk := ⟨e.takes.getD k 0, 2, (aN (Iy y) b (xe b y i k)).1⟩
def Jq (b : List Int) (y : Int) (n i k : Nat) : Rg := { rZ y k with next := (an (xd y n) b 3 (vH b y n i k) (bm y k)).1 }
def EZ (b : List Int) (y : Int) (n i : Nat) (e : En) (k : Nat) : Pt := ⟨e.puts.getD k 0, 2, (aN (xd y n) b (r6 b y n i k)).1, (an (xd y n) b 2 (aN (xd y n) b (r6 b y n i k)).2 2).1⟩
def KE (y : Int) : ByteArray := [Lw, Lx].getD (y % 2).toNat e0
def kI (b : List Int) (i : Nat) (e : En) : Nat := xe b (b.getD i 0) (i + 1) e.takes.length
def km (b : List Int) (i : Nat) (e : En) : Nat := vH b (b.getD i 0) e.takes.length (kI b i e) (oM (b.getD i 0))
def bj (b : List Int) (i : Nat) (nm : ByteArray) (e : En) : Pr × Nat :=
 (⟨nm, KE (b.getD i 0), tab (Jq b (b.getD i 0) e.takes.length (kI b i e)) (oM (b.getD i 0)), [], tab (B2 b (b.getD i 0) (i + 1) e) e.takes.length, tab (EZ b (b.getD i 0) e.takes.length (km b i e) e) e.puts.length⟩,
  r6 b (b.getD i 0) e.takes.length (km b i e) e.puts.length)
def ai (s : Int) : List En :=
 if s % 6 = 0 then [⟨[0], [1]⟩]
 else if s % 6 = 1 then [⟨[0], [1]⟩, ⟨[1], [2]⟩]
 else if s % 6 = 2 then [⟨[0], [1, 2]⟩, ⟨[1], [3]⟩, ⟨[2], [4]⟩]
 else if s % 6 = 3 then [⟨[0, 2], [1]⟩, ⟨[1], [2, 3]⟩]
 else if s % 6 = 4 then [⟨[0], [2]⟩, ⟨[1], [3]⟩, ⟨[2, 3], [4]⟩]
 else [⟨[0], [1]⟩, ⟨[1], [2]⟩, ⟨[2], [3]⟩, ⟨[3], [4]⟩]
theorem vI {s : Sg} {b : List Int} {i : Nat} (h : b.getD i 0 % 4 = 1) : aN s b i = an s b 2 (i + 1) 1 := if_pos h
theorem vJ {s : Sg} {b : List Int} {i : Nat} (h : ¬b.getD i 0 % 4 = 1) : aN s b i = (gb, i + 1) := if_neg h
def qg (l : List Int) (n : Int) : Bool := !cF (fun i => !decide (l.getD i 0 = n)) l.length
theorem xf {l : List Int} {n : Int} {i : Nat} (hi : i < l.length) (h : l.getD i 0 = n) : qg l n = true := by
 unfold qg; rw [dP hi (by rw [decide_eq_true h]; rfl)]; rfl
theorem Am {l : List Int} {n : Int} (h : ∀ i, i < l.length → ¬l.getD i 0 = n) : qg l n = false := by
 unfold qg; rw [bi.2 (fun i hi => by rw [decide_eq_false (h i hi)]; rfl)]; rfl
theorem ub {x w : Int} (h0 : 0 ≤ w) (h6 : w ≤ 62) : IntKind.wrap .i64 ((BitVec.ofInt (IntKind.i64).bits x &&& BitVec.ofInt (IntKind.i64).bits (aD w)).toNat : Int) = x % 2 ^ w.toNat := by
 rw [cJ h0 h6]; exact kC (by omega)
theorem vK {s : Sg} {b : List Int} (hb : eS b) {d i : Nat} {w : Int} (hd : d ≤ 3) (h1 : 1 ≤ w) (h2 : w + d ≤ 8) : i ≤ (an s b d i w).2 ∧ (an s b d i w).2 ≤ i + 64 := by
 have h := (rJ (s := s) hb d i w hd h1 h2).2.2
 have : 4 ^ d ≤ 4 ^ 3 := Nat.pow_le_pow_right (by omega) hd
 omega
theorem r7 {s : Sg} {b : List Int} (hb : eS b) {i : Nat} : i ≤ (aN s b i).2 ∧ (aN s b i).2 ≤ i + 100 := by
 unfold aN
 split
 ·have := vK (s := s) hb (d := 2) (i := i + 1) (w := 1) (by omega) (by omega) (by omega); omega
 ·simp only; omega
theorem vL (y : Int) (k : Nat) : 1 ≤ bm y k ∧ bm y k ≤ 2 := by unfold bm; omega
theorem qC {b : List Int} (hb : eS b) (y : Int) (i : Nat) : ∀ k, i ≤ xe b y i k ∧ xe b y i k ≤ i + 100 * k
 | 0 => ⟨Nat.le_refl _, Nat.le_refl _⟩
 | k + 1 => by
  have h1 := qC hb y i k
  have h2 := r7 (s := Iy y) hb (i := xe b y i k)
  rw [xe]; omega
theorem qD {b : List Int} (hb : eS b) (y : Int) (n i : Nat) : ∀ k, i ≤ vH b y n i k ∧ vH b y n i k ≤ i + 100 * k
 | 0 => ⟨Nat.le_refl _, Nat.le_refl _⟩
 | k + 1 => by
  have h1 := qD hb y n i k
  have h3 := vL y k
  have h2 := vK (s := xd y n) hb (d := 3) (i := vH b y n i k) (w := bm y k) (by omega) (by omega) (by omega)
  rw [vH]; omega
theorem vM {b : List Int} (hb : eS b) (y : Int) (n i : Nat) : ∀ k, i ≤ r6 b y n i k ∧ r6 b y n i k ≤ i + 200 * k
 | 0 => ⟨Nat.le_refl _, Nat.le_refl _⟩
 | k + 1 => by
  have h1 := vM hb y n i k
  have h3 := r7 (s := xd y n) hb (i := r6 b y n i k)
  have h2 := vK (s := xd y n) hb (d := 2) (i := (aN (xd y n) b (r6 b y n i k)).2) (w := 2) (by omega) (by omega) (by omega)
  rw [r6]; omega
theorem vN {y : Int} (h : 0 ≤ y) : (oM y : Int) = 1 + y / 2 % 2 ∧ oM y ≤ 2 := by unfold oM; omega
def s5 (b : List Int) (l : List En) : Nat → Nat
 | 0 => 0
 | i + 1 => (bj b (s5 b l i) (GV i) (l.getD i b8)).2
def mt (b : List Int) (l : List En) (i : Nat) : Pr := (bj b (s5 b l i) (GV i) (l.getD i b8)).1
def Jr (l : List Int) (a : Int) : Nat → Int
 | 0 => a
 | k + 1 => G9 (Jr l a k) (l.getD k 0)
def ow (l : List En) : Nat → Int
 | 0 => 0
 | i + 1 => Jr (l.getD i b8).puts (ow l i) (l.getD i b8).puts.length
def vO (l : List En) (n : Int) : Nat → Int
 | 0 => -1
 | i + 1 => if qg (l.getD i b8).takes n = true then (i : Int) else vO l n i
def vP (l : List En) (n : Int) : Nat → Int
 | 0 => -1
 | i + 1 => if qg (l.getD i b8).puts n = true then (i : Int) else vP l n i
def r8 (sh : Int) (l : List En) (n : Nat) : Ch := ⟨EY n, 2, if 0 ≤ vP l n l.length ∧ 0 ≤ vO l n l.length then 1 + (sh / 6 + n) % 3 else 0, vP l n l.length, vO l n l.length⟩
def jn (sh : Int) : Nat := (ow (ai sh) (ai sh).length).toNat + 1
def az (sh : Int) (b : List Int) : Ci := ⟨tab (mt b (ai sh)) (ai sh).length, tab (r8 sh (ai sh)) (jn sh)⟩
theorem jZ (sh : Int) : ai sh = [⟨[0], [1]⟩] ∨ ai sh = [⟨[0], [1]⟩, ⟨[1], [2]⟩] ∨ ai sh = [⟨[0], [1, 2]⟩, ⟨[1], [3]⟩, ⟨[2], [4]⟩] ∨ ai sh = [⟨[0, 2], [1]⟩, ⟨[1], [2, 3]⟩] ∨ ai sh = [⟨[0], [2]⟩, ⟨[1], [3]⟩, ⟨[2, 3], [4]⟩] ∨ ai sh = [⟨[0], [1]⟩, ⟨[1], [2]⟩, ⟨[2], [3]⟩, ⟨[3], [4]⟩] := by
 unfold ai
 split
 ·exact .inl rfl
 split
 ·exact .inr (.inl rfl)
 split
 ·exact .inr (.inr (.inl rfl))
 split
 ·exact .inr (.inr (.inr (.inl rfl)))
 split
 ·exact .inr (.inr (.inr (.inr (.inl rfl))))
 ·exact .inr (.inr (.inr (.inr (.inr rfl))))
theorem kJ (sh : Int) : 1 ≤ (ai sh).length ∧ (ai sh).length ≤ 4 := by
 rcases jZ sh with h | h | h | h | h | h <;> rw [h] <;> decide
theorem lF (sh : Int) (i : Nat) : ((ai sh).getD i b8).takes.length ≤ 2 ∧ ((ai sh).getD i b8).puts.length ≤ 2 := by
 have key : ∀ e ∈ ai sh, e.takes.length ≤ 2 ∧ e.puts.length ≤ 2 := by
  rcases jZ sh with h | h | h | h | h | h <;> rw [h] <;> simp
 by_cases hi : i < (ai sh).length
 ·rw [ct _ _ hi]; exact key _ (List.getElem_mem hi)
 ·rw [List.getD, List.getElem?_eq_none (by omega)]; decide
theorem An (sh : Int) : 0 ≤ ow (ai sh) (ai sh).length ∧ ow (ai sh) (ai sh).length ≤ 4 := by
 rcases jZ sh with h | h | h | h | h | h <;> rw [h] <;> decide
theorem yL (sh : Int) : (jn sh : Int) = ow (ai sh) (ai sh).length + 1 ∧ jn sh ≤ 5 := by
 have := An sh; unfold jn; omega
theorem Ao {b : List Int} (hb : eS b) (sh : Int) : ∀ i, s5 b (ai sh) i ≤ 1000 * i
 | 0 => Nat.le_refl _
 | i + 1 => by
  have h1 := Ao hb sh i
  have he := lF sh i
  rw [s5]
  unfold bj
  simp only
  generalize s5 b (ai sh) i = p at *
  generalize (ai sh).getD i b8 = e at *
  have hy := bS hb p
  have hn := vN hy.1
  have a1 : p + 1 ≤ kI b p e ∧ kI b p e ≤ p + 1 + 100 * e.takes.length := qC hb (b.getD p 0) (p + 1) e.takes.length
  have a2 : kI b p e ≤ km b p e ∧ km b p e ≤ kI b p e + 100 * oM (b.getD p 0) := qD hb (b.getD p 0) e.takes.length (kI b p e) (oM (b.getD p 0))
  have a3 := vM hb (b.getD p 0) e.takes.length (km b p e) e.puts.length
  omega
theorem D3 (l : List En) (n : Int) : ∀ i, -1 ≤ vO l n i ∧ vO l n i < i
 | 0 => by simp [vO]
 | i + 1 => by have := D3 l n i; rw [vO]; split <;> omega
theorem D4 (l : List En) (n : Int) : ∀ i, -1 ≤ vP l n i ∧ vP l n i < i
 | 0 => by simp [vP]
 | i + 1 => by have := D4 l n i; rw [vP]; split <;> omega
theorem GW {x : Int} (h0 : 0 ≤ x) (h1 : x ≤ 255) : IntKind.wrap .u8 x = x := Kb rfl h0 h1
def qE (b : List Int) (i : Nat) : Nat := (b.getD i 0 % 7).toNat
def s6 (b : List Int) (i : Nat) (w : Int) (k : Nat) : Int := b.getD (i + (1 + k)) 0 % 2 ^ w.toNat
def sL (c : Ci) (b : List Int) : Nat → Ns × Nat
 | 0 => (dC c, 0)
 | i + 1 => if 0 ≤ (eI c i).frm then sL c b i else (gk (sL c b i).1 i (tab (s6 b (sL c b i).2 (eI c i).w) (qE b (sL c b i).2)), (sL c b i).2 + (1 + qE b (sL c b i).2))
def bC (c : Ci) (b : List Int) : Ns := (sL c b c.chans.length).1
theorem D5 {b : List Int} (hb : eS b) (i : Nat) : qE b i ≤ 6 ∧ (qE b i : Int) = b.getD i 0 % 7 := by
 have := bS hb i; unfold qE; omega
theorem D6 {c : Ci} {b : List Int} {i : Nat} (h : 0 ≤ (eI c i).frm) : sL c b (i + 1) = sL c b i := by rw [sL, if_pos h]
theorem yM {c : Ci} {b : List Int} {i : Nat} (h : ¬0 ≤ (eI c i).frm) : sL c b (i + 1) = (gk (sL c b i).1 i (tab (s6 b (sL c b i).2 (eI c i).w) (qE b (sL c b i).2)), (sL c b i).2 + (1 + qE b (sL c b i).2)) := by rw [sL, if_neg h]
def b5 (c : Ci) (s : Ns) (l : List Int) : Ns := l.foldl (fun u k => cG c u (sZ (k % c.procs.length))) s
theorem BF {c : Ci} {s : Ns} {l : List Int} {i : Nat} (h : i < l.length) : b5 c s (l.take (i + 1)) = cG c (b5 c s (l.take i)) (sZ (l.getD i 0 % c.procs.length)) := by
 unfold b5
 rw [List.take_succ_eq_append_getElem h, List.foldl_append]
 simp [List.getD, List.getElem?_eq_getElem h]
theorem KF {x : Int} (h0 : 0 ≤ x) (h1 : x ≤ 255) : IntKind.wrap .u8 (Int.tdiv x 6) = x / 6 := by
 rw [Int.tdiv_eq_ediv_of_nonneg h0]; exact GW (by omega) (by omega)
theorem D7 {sh : Int} {l : List En} {n : Nat} {fr to : Int} (h1 : 0 ≤ vP l n l.length) (h2 : 0 ≤ vO l n l.length) (h3 : fr = vP l n l.length) (h4 : to = vO l n l.length) : (⟨EY n, 2, 1 + (sh / 6 + n) % 3, fr, to⟩ : Ch) = r8 sh l n := by
 unfold r8; rw [if_pos ⟨h1, h2⟩, h3, h4]
theorem D8 {sh : Int} {l : List En} {n : Nat} {fr to : Int} (h : ¬(0 ≤ vP l n l.length ∧ 0 ≤ vO l n l.length)) (h3 : fr = vP l n l.length) (h4 : to = vO l n l.length) : (⟨EY n, 2, 0, fr, to⟩ : Ch) = r8 sh l n := by
 unfold r8; rw [if_neg h, h3, h4]
end Go.Proofs.Ytnlmlkbaflmgcaa
