/-
  Made circuits, plain data.
-/
import Derived.Test.YtgmpoenfoacofaaGreatQVrA
namespace Go.Proofs.YtgmpoenfoacofaaGreat
open Go.RowKit
set_option linter.unusedVariables false
set_option linter.unusedSimpArgs false
structure En where
 takes : List Int
 puts : List Int
def nq (e : En) : List V := [.sl 1 (ah .i64) 0 e.takes, .sl 1 (ah .i64) 0 e.puts]
abbrev bV : En := ⟨[], []⟩
def eO : Ex := ⟨1, e0, ⟨1, e0⟩, ⟨1, e0⟩, []⟩
def aH (s : Sg) (b : List Int) (i : Nat) : Ex × Nat := if b.getD i 0 % 4 = 1 then ai s b 2 (i + 1) 1 else (eO, i + 1)
def Jm : ByteArray := bs [97]
def Jn : ByteArray := bs [98]
def Jo (k : Nat) : ByteArray := [bs [114], bs [115]].getD k e0
def Jc (k : Nat) : ByteArray := [bs [112], bs [113], bs [117], bs [118]].getD k e0
def IL (k : Nat) : ByteArray := [bs [99, 48], bs [99, 49], bs [99, 50], bs [99, 51], bs [99, 52]].getD k e0
def br (y : Int) (k : Nat) : Int := 1 + (y / 4 + k) % 2
def oX (y : Int) : Nat := (1 + y / 2 % 2).toNat
def Gs (y : Int) : List Int := tab (br y) (oX y)
def Gt (y : Int) : Sg := ⟨Gs y, [], [], false⟩
def wu (y : Int) (n : Nat) : Sg := ⟨Gs y, List.replicate n 2, [], true⟩
def rX (y : Int) (k : Nat) : Rg := ⟨Jo k, br y k, y / 8 % 2 ^ (br y k).toNat, dE, ⟨[1, 1, 0].getD (y / 16 % 3).toNat 0, e0, 0⟩⟩
def wv (b : List Int) (y : Int) (i : Nat) : Nat → Nat
 | 0 => i
 | k + 1 => (aH (Gt y) b (wv b y i k)).2
def u3 (b : List Int) (y : Int) (n : Nat) (i : Nat) : Nat → Nat
 | 0 => i
 | k + 1 => (ai (wu y n) b 3 (u3 b y n i k) (br y k)).2
def rY (b : List Int) (y : Int) (n : Nat) (i : Nat) : Nat → Nat
 | 0 => i
 | k + 1 => (ai (wu y n) b 2 (aH (wu y n) b (rY b y n i k)).2 2).2
def AJ (b : List Int) (y : Int) (i : Nat) (e : En) (k : Nat) : Tk := ⟨e.takes.getD k 0, 2, (aH (Gt y) b (wv b y i k)).1⟩
def IM (b : List Int) (y : Int) (n i k : Nat) : Rg := { rX y k with next := (ai (wu y n) b 3 (u3 b y n i k) (br y k)).1 }
def Cz (b : List Int) (y : Int) (n i : Nat) (e : En) (k : Nat) : Pt := ⟨e.puts.getD k 0, 2, (aH (wu y n) b (rY b y n i k)).1, (ai (wu y n) b 2 (aH (wu y n) b (rY b y n i k)).2 2).1⟩
def IP (y : Int) : ByteArray := [Jm, Jn].getD (y % 2).toNat e0
def kg (b : List Int) (i : Nat) (e : En) : Nat := wv b (b.getD i 0) (i + 1) e.takes.length
def jC (b : List Int) (i : Nat) (e : En) : Nat := u3 b (b.getD i 0) e.takes.length (kg b i e) (oX (b.getD i 0))
def bl (b : List Int) (i : Nat) (nm : ByteArray) (e : En) : Pr × Nat :=
 (⟨nm, IP (b.getD i 0), tab (IM b (b.getD i 0) e.takes.length (kg b i e)) (oX (b.getD i 0)), [], tab (AJ b (b.getD i 0) (i + 1) e) e.takes.length, tab (Cz b (b.getD i 0) e.takes.length (jC b i e) e) e.puts.length⟩,
  rY b (b.getD i 0) e.takes.length (jC b i e) e.puts.length)
def ae (s : Int) : List En :=
 if s % 6 = 0 then [⟨[0], [1]⟩]
 else if s % 6 = 1 then [⟨[0], [1]⟩, ⟨[1], [2]⟩]
 else if s % 6 = 2 then [⟨[0], [1, 2]⟩, ⟨[1], [3]⟩, ⟨[2], [4]⟩]
 else if s % 6 = 3 then [⟨[0, 2], [1]⟩, ⟨[1], [2, 3]⟩]
 else if s % 6 = 4 then [⟨[0], [2]⟩, ⟨[1], [3]⟩, ⟨[2, 3], [4]⟩]
 else [⟨[0], [1]⟩, ⟨[1], [2]⟩, ⟨[2], [3]⟩, ⟨[3], [4]⟩]
theorem u4 {s : Sg} {b : List Int} {i : Nat} (h : b.getD i 0 % 4 = 1) : aH s b i = ai s b 2 (i + 1) 1 := if_pos h
theorem u5 {s : Sg} {b : List Int} {i : Nat} (h : ¬b.getD i 0 % 4 = 1) : aH s b i = (eO, i + 1) := if_neg h
def pP (l : List Int) (n : Int) : Bool := !bW (fun i => !decide (l.getD i 0 = n)) l.length
theorem ww {l : List Int} {n : Int} {i : Nat} (hi : i < l.length) (h : l.getD i 0 = n) : pP l n = true := by
 unfold pP; rw [fA hi (by rw [decide_eq_true h]; rfl)]; rfl
theorem zc {l : List Int} {n : Int} (h : ∀ i, i < l.length → ¬l.getD i 0 = n) : pP l n = false := by
 unfold pP; rw [bE.2 (fun i hi => by rw [decide_eq_false (h i hi)]; rfl)]; rfl
theorem tL {x w : Int} (h0 : 0 ≤ w) (h6 : w ≤ 62) : IntKind.wrap .i64 ((BitVec.ofInt (IntKind.i64).bits x &&& BitVec.ofInt (IntKind.i64).bits (aj w)).toNat : Int) = x % 2 ^ w.toNat := by
 rw [cR h0 h6]; exact jQ (by omega)
theorem u6 {s : Sg} {b : List Int} (hb : lW b) {d i : Nat} {w : Int} (hd : d ≤ 3) (h1 : 1 ≤ w) (h2 : w + d ≤ 8) : i ≤ (ai s b d i w).2 ∧ (ai s b d i w).2 ≤ i + 64 := by
 have h := (oC (s := s) hb d i w hd h1 h2).2.2
 have : 4 ^ d ≤ 4 ^ 3 := Nat.pow_le_pow_right (by omega) hd
 omega
theorem rZ {s : Sg} {b : List Int} (hb : lW b) {i : Nat} : i ≤ (aH s b i).2 ∧ (aH s b i).2 ≤ i + 100 := by
 unfold aH
 split
 ·have := u6 (s := s) hb (d := 2) (i := i + 1) (w := 1) (by omega) (by omega) (by omega); omega
 ·simp only; omega
theorem u7 (y : Int) (k : Nat) : 1 ≤ br y k ∧ br y k ≤ 2 := by unfold br; omega
theorem ql {b : List Int} (hb : lW b) (y : Int) (i : Nat) : ∀ k, i ≤ wv b y i k ∧ wv b y i k ≤ i + 100 * k
 | 0 => ⟨Nat.le_refl _, Nat.le_refl _⟩
 | k + 1 => by
  have h1 := ql hb y i k
  have h2 := rZ (s := Gt y) hb (i := wv b y i k)
  rw [wv]; omega
theorem qn {b : List Int} (hb : lW b) (y : Int) (n i : Nat) : ∀ k, i ≤ u3 b y n i k ∧ u3 b y n i k ≤ i + 100 * k
 | 0 => ⟨Nat.le_refl _, Nat.le_refl _⟩
 | k + 1 => by
  have h1 := qn hb y n i k
  have h3 := u7 y k
  have h2 := u6 (s := wu y n) hb (d := 3) (i := u3 b y n i k) (w := br y k) (by omega) (by omega) (by omega)
  rw [u3]; omega
theorem u9 {b : List Int} (hb : lW b) (y : Int) (n i : Nat) : ∀ k, i ≤ rY b y n i k ∧ rY b y n i k ≤ i + 200 * k
 | 0 => ⟨Nat.le_refl _, Nat.le_refl _⟩
 | k + 1 => by
  have h1 := u9 hb y n i k
  have h3 := rZ (s := wu y n) hb (i := rY b y n i k)
  have h2 := u6 (s := wu y n) hb (d := 2) (i := (aH (wu y n) b (rY b y n i k)).2) (w := 2) (by omega) (by omega) (by omega)
  rw [rY]; omega
theorem xT {y : Int} (h : 0 ≤ y) : (oX y : Int) = 1 + y / 2 % 2 ∧ oX y ≤ 2 := by unfold oX; omega
def Av (b : List Int) (l : List En) : Nat → Nat
 | 0 => 0
 | i + 1 => (bl b (Av b l i) (Jc i) (l.getD i bV)).2
def nr (b : List Int) (l : List En) (i : Nat) : Pr := (bl b (Av b l i) (Jc i) (l.getD i bV)).1
def Ho (l : List Int) (a : Int) : Nat → Int
 | 0 => a
 | k + 1 => E9 (Ho l a k) (l.getD k 0)
def ns (l : List En) : Nat → Int
 | 0 => 0
 | i + 1 => Ho (l.getD i bV).puts (ns l i) (l.getD i bV).puts.length
def tM (l : List En) (n : Int) : Nat → Int
 | 0 => -1
 | i + 1 => if pP (l.getD i bV).takes n = true then (i : Int) else tM l n i
def vl (l : List En) (n : Int) : Nat → Int
 | 0 => -1
 | i + 1 => if pP (l.getD i bV).puts n = true then (i : Int) else vl l n i
def r6 (sh : Int) (l : List En) (n : Nat) : Ch := ⟨IL n, 2, if 0 ≤ vl l n l.length ∧ 0 ≤ tM l n l.length then 1 + (sh / 6 + n) % 3 else 0, vl l n l.length, tM l n l.length⟩
def eP (sh : Int) : Nat := (ns (ae sh) (ae sh).length).toNat + 1
def aa (sh : Int) (b : List Int) : Ci := ⟨tab (nr b (ae sh)) (ae sh).length, tab (r6 sh (ae sh)) (eP sh)⟩
theorem jg (sh : Int) : ae sh = [⟨[0], [1]⟩] ∨ ae sh = [⟨[0], [1]⟩, ⟨[1], [2]⟩] ∨ ae sh = [⟨[0], [1, 2]⟩, ⟨[1], [3]⟩, ⟨[2], [4]⟩] ∨ ae sh = [⟨[0, 2], [1]⟩, ⟨[1], [2, 3]⟩] ∨ ae sh = [⟨[0], [2]⟩, ⟨[1], [3]⟩, ⟨[2, 3], [4]⟩] ∨ ae sh = [⟨[0], [1]⟩, ⟨[1], [2]⟩, ⟨[2], [3]⟩, ⟨[3], [4]⟩] := by
 unfold ae
 split
 ·exact .inl rfl
 split
 ·exact .inr (.inl rfl)
 split
 ·exact .inr (.inr (.inl rfl))
 split
 ·exact .inr (.inr (.inr (.inl rfl)))
 split
 ·exact .inr (.inr (.inr (.inr (.inl rfl))))
 ·exact .inr (.inr (.inr (.inr (.inr rfl))))
theorem r7 (sh : Int) : 1 ≤ (ae sh).length ∧ (ae sh).length ≤ 4 := by
 rcases jg sh with h | h | h | h | h | h <;> rw [h] <;> decide
theorem kV (sh : Int) (i : Nat) : ((ae sh).getD i bV).takes.length ≤ 2 ∧ ((ae sh).getD i bV).puts.length ≤ 2 := by
 have key : ∀ e ∈ ae sh, e.takes.length ≤ 2 ∧ e.puts.length ≤ 2 := by
  rcases jg sh with h | h | h | h | h | h <;> rw [h] <;> simp
 by_cases hi : i < (ae sh).length
 ·rw [gy _ _ hi]; exact key _ (List.getElem_mem hi)
 ·rw [List.getD, List.getElem?_eq_none (by omega)]; decide
theorem ze (sh : Int) : 0 ≤ ns (ae sh) (ae sh).length ∧ ns (ae sh) (ae sh).length ≤ 4 := by
 rcases jg sh with h | h | h | h | h | h <;> rw [h] <;> decide
theorem CA (sh : Int) : (eP sh : Int) = ns (ae sh) (ae sh).length + 1 ∧ eP sh ≤ 5 := by
 have := ze sh; unfold eP; omega
theorem zf {b : List Int} (hb : lW b) (sh : Int) : ∀ i, Av b (ae sh) i ≤ 1000 * i
 | 0 => Nat.le_refl _
 | i + 1 => by
  have h1 := zf hb sh i
  have he := kV sh i
  rw [Av]
  unfold bl
  simp only
  generalize Av b (ae sh) i = p at *
  generalize (ae sh).getD i bV = e at *
  have hy := dD hb p
  have hn := xT hy.1
  have a1 : p + 1 ≤ kg b p e ∧ kg b p e ≤ p + 1 + 100 * e.takes.length := ql hb (b.getD p 0) (p + 1) e.takes.length
  have a2 : kg b p e ≤ jC b p e ∧ jC b p e ≤ kg b p e + 100 * oX (b.getD p 0) := qn hb (b.getD p 0) e.takes.length (kg b p e) (oX (b.getD p 0))
  have a3 := u9 hb (b.getD p 0) e.takes.length (jC b p e) e.puts.length
  omega
theorem CE (l : List En) (n : Int) : ∀ i, -1 ≤ tM l n i ∧ tM l n i < i
 | 0 => by simp [tM]
 | i + 1 => by have := CE l n i; rw [tM]; split <;> omega
theorem CF (l : List En) (n : Int) : ∀ i, -1 ≤ vl l n i ∧ vl l n i < i
 | 0 => by simp [vl]
 | i + 1 => by have := CF l n i; rw [vl]; split <;> omega
theorem EY {x : Int} (h0 : 0 ≤ x) (h1 : x ≤ 255) : IntKind.wrap .u8 x = x := I9 rfl h0 h1
def qo (b : List Int) (i : Nat) : Nat := (b.getD i 0 % 7).toNat
def sA (b : List Int) (i : Nat) (w : Int) (k : Nat) : Int := b.getD (i + (1 + k)) 0 % 2 ^ w.toNat
def mf (c : Ci) (b : List Int) : Nat → Ns × Nat
 | 0 => (aC c, 0)
 | i + 1 => if 0 ≤ (dg c i).frm then mf c b i else (ft (mf c b i).1 i (tab (sA b (mf c b i).2 (dg c i).w) (qo b (mf c b i).2)), (mf c b i).2 + (1 + qo b (mf c b i).2))
def ay (c : Ci) (b : List Int) : Ns := (mf c b c.chans.length).1
theorem CG {b : List Int} (hb : lW b) (i : Nat) : qo b i ≤ 6 ∧ (qo b i : Int) = b.getD i 0 % 7 := by
 have := dD hb i; unfold qo; omega
theorem CH {c : Ci} {b : List Int} {i : Nat} (h : 0 ≤ (dg c i).frm) : mf c b (i + 1) = mf c b i := by rw [mf, if_pos h]
theorem xU {c : Ci} {b : List Int} {i : Nat} (h : ¬0 ≤ (dg c i).frm) : mf c b (i + 1) = (ft (mf c b i).1 i (tab (sA b (mf c b i).2 (dg c i).w) (qo b (mf c b i).2)), (mf c b i).2 + (1 + qo b (mf c b i).2)) := by rw [mf, if_neg h]
theorem IQ {x : Int} (h0 : 0 ≤ x) (h1 : x ≤ 255) : IntKind.wrap .u8 (Int.tdiv x 6) = x / 6 := by
 rw [Int.tdiv_eq_ediv_of_nonneg h0]; exact EY (by omega) (by omega)
theorem CI {sh : Int} {l : List En} {n : Nat} {fr to : Int} (h1 : 0 ≤ vl l n l.length) (h2 : 0 ≤ tM l n l.length) (h3 : fr = vl l n l.length) (h4 : to = tM l n l.length) : (⟨IL n, 2, 1 + (sh / 6 + n) % 3, fr, to⟩ : Ch) = r6 sh l n := by
 unfold r6; rw [if_pos ⟨h1, h2⟩, h3, h4]
theorem CJ {sh : Int} {l : List En} {n : Nat} {fr to : Int} (h : ¬(0 ≤ vl l n l.length ∧ 0 ≤ tM l n l.length)) (h3 : fr = vl l n l.length) (h4 : to = tM l n l.length) : (⟨IL n, 2, 0, fr, to⟩ : Ch) = r6 sh l n := by
 unfold r6; rw [if_neg h, h3, h4]
end Go.Proofs.YtgmpoenfoacofaaGreat
