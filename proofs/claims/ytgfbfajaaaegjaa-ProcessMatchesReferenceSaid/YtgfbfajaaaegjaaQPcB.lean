/-
  Made processes, plain data.
-/
import Derived.Test.YtgfbfajaaaegjaaQPrS
namespace Go.Proofs.Ytgfbfajaaaegjaa
open Go.RowKit
set_option linter.unusedVariables false
set_option linter.unusedSimpArgs false
def bk (n : Int) : ByteArray := [bs [97], bs [98], bs [99, 48], bs [119], bs [120, 49, 121], bs [116, 111, 112], bs [122, 57], bs [109]].getD (n % 8).toNat e0
def EZ : ByteArray := bs [114]
def D3 : ByteArray := bs [109, 101, 109, 48]
def cS (b : Int) (nm : ByteArray) : Ep := if b % 4 = 1 then ⟨1, e0, 0⟩ else if b % 4 = 2 then ⟨2, nm, 0⟩ else if b % 4 = 3 then ⟨3, nm, b / 4 % 5⟩ else vw
def aF (y : Int) : Nat := (([1, 1, 2, 3] : List Int).getD (y % 4).toNat 0).toNat
def aB (y : Int) : Nat := (([1, 0, 1, 2] : List Int).getD (y / 16 % 4).toNat 0).toNat
def fQ (y : Int) : Nat := (([1, 1, 0, 2] : List Int).getD (y / 64 % 4).toNat 0).toNat
def dM (n : Int) : Int := ([1, 2, 1, 3] : List Int).getD (n % 4).toNat 0
def rL (n : Int) : Int := ([2, 1, 4, 2] : List Int).getD (n / 2 % 4).toNat 0
def bJ (b : List Int) (k : Nat) : Rg := ⟨EZ ++ bk k, dM (b.getD (1 + k) 0), b.getD (1 + k) 0 / 4 % 2 ^ (dM (b.getD (1 + k) 0)).toNat, dE, cS (b.getD (1 + k) 0 / 16) (EZ ++ bk (b.getD (1 + k) 0 / 16 % 3))⟩
def av (b : List Int) : Mm := ⟨D3, 1 + b.getD 4 0 % 2, rL (b.getD 4 0), dE, dE, dE, cS (b.getD 4 0 / 8) D3⟩
def bz (b : List Int) (k : Nat) : Tk := ⟨(k : Nat), 1 + b.getD (5 + k) 0 % 2, dE⟩
def b8 (b : List Int) (nt k : Nat) : Pt := ⟨((nt + k : Nat) : Int), 1 + b.getD (7 + k) 0 % 2, dE, dE⟩
def mr (b : List Int) : List Mm := if b.getD 0 0 / 4 % 4 = 3 then [av b] else []
def aA (b : List Int) (k : Nat) : Int := dM (b.getD (1 + k) 0)
def aI (b : List Int) (k : Nat) : Int := 1 + b.getD (5 + k) 0 % 2
def fS (b : List Int) (k : Nat) : Int := 1 + b.getD (7 + k) 0 % 2
def B4 (b : List Int) : List Int := tab (aA b) (aF (b.getD 0 0))
def Er (b : List Int) : List Int := tab (aI b) (aB (b.getD 0 0))
def kq (b : List Int) : Sg := ⟨B4 b, [], mr b, false⟩
def br (b : List Int) : Sg := ⟨B4 b, Er b, mr b, true⟩
def qT (b : List Int) : Nat → Nat
 | 0 => 9
 | k + 1 => (a8 (kq b) b (qT b k)).2
def fY (k : Nat) : Nat := 3 - min k 1
def qR (b : List Int) : Nat → Nat
 | 0 => qT b (aB (b.getD 0 0))
 | k + 1 => (af (br b) b (fY k) (qR b k) (aA b k)).2
def qP (b : List Int) : Nat → Nat
 | 0 => qR b (aF (b.getD 0 0))
 | k + 1 => (af (br b) b 2 (a8 (br b) b (qP b k)).2 (fS b k)).2
def B5 (b : List Int) (k : Nat) : Tk := { bz b k with when := (a8 (kq b) b (qT b k)).1 }
def AL (b : List Int) (k : Nat) : Rg := { bJ b k with next := (af (br b) b (fY k) (qR b k) (aA b k)).1 }
def De (b : List Int) (k : Nat) : Pt := { b8 b (aB (b.getD 0 0)) k with when := (a8 (br b) b (qP b k)).1, data := (af (br b) b 2 (a8 (br b) b (qP b k)).2 (fS b k)).1 }
def mE (b : List Int) : Ex × Nat := a8 (br b) b (qP b (fQ (b.getD 0 0)))
def mA (b : List Int) : Ex × Nat := af (br b) b 1 (mE b).2 (1 + (b.length : Int) % 2)
def mD (b : List Int) : Ex × Nat := af (br b) b 2 (mA b).2 (1 + b.getD 4 0 % 2)
def AM (b : List Int) : Mm := { av b with enable := (mE b).1, addr := (mA b).1, data := (mD b).1 }
def Bx (b : List Int) : List Mm := if b.getD 0 0 / 4 % 4 = 3 then [AM b] else []
def Fu : ByteArray := bs [112]
def EM : ByteArray := bs [97]
def aa (b : List Int) : Pr := ⟨Fu, EM, tab (AL b) (aF (b.getD 0 0)), Bx b, tab (B5 b) (aB (b.getD 0 0)), tab (De b) (fQ (b.getD 0 0))⟩
theorem lp (n : Int) : (bk n).size ≤ 3 := by
 unfold bk
 have : (n % 8).toNat = 0 ∨ (n % 8).toNat = 1 ∨ (n % 8).toNat = 2 ∨ (n % 8).toNat = 3 ∨ (n % 8).toNat = 4 ∨ (n % 8).toNat = 5 ∨ (n % 8).toNat = 6 ∨ (n % 8).toNat = 7 := by omega
 rcases this with h | h | h | h | h | h | h | h <;> rw [h] <;> decide
theorem rM (y : Int) : aF y ≤ 3 ∧ (aF y : Int) = ([1, 1, 2, 3] : List Int).getD (y % 4).toNat 0 := by
 unfold aF
 have : (y % 4).toNat = 0 ∨ (y % 4).toNat = 1 ∨ (y % 4).toNat = 2 ∨ (y % 4).toNat = 3 := by omega
 rcases this with h | h | h | h <;> rw [h] <;> decide
theorem rN (y : Int) : aB y ≤ 2 ∧ (aB y : Int) = ([1, 0, 1, 2] : List Int).getD (y / 16 % 4).toNat 0 := by
 unfold aB
 have : (y / 16 % 4).toNat = 0 ∨ (y / 16 % 4).toNat = 1 ∨ (y / 16 % 4).toNat = 2 ∨ (y / 16 % 4).toNat = 3 := by omega
 rcases this with h | h | h | h <;> rw [h] <;> decide
theorem un (y : Int) : fQ y ≤ 2 ∧ (fQ y : Int) = ([1, 1, 0, 2] : List Int).getD (y / 64 % 4).toNat 0 := by
 unfold fQ
 have : (y / 64 % 4).toNat = 0 ∨ (y / 64 % 4).toNat = 1 ∨ (y / 64 % 4).toNat = 2 ∨ (y / 64 % 4).toNat = 3 := by omega
 rcases this with h | h | h | h <;> rw [h] <;> decide
theorem o9 (n : Int) : 1 ≤ dM n ∧ dM n ≤ 3 := by
 unfold dM
 have : (n % 4).toNat = 0 ∨ (n % 4).toNat = 1 ∨ (n % 4).toNat = 2 ∨ (n % 4).toNat = 3 := by omega
 rcases this with h | h | h | h <;> rw [h] <;> decide
theorem CY (n : Int) : 1 ≤ rL n ∧ rL n ≤ 4 := by
 unfold rL
 have : (n / 2 % 4).toNat = 0 ∨ (n / 2 % 4).toNat = 1 ∨ (n / 2 % 4).toNat = 2 ∨ (n / 2 % 4).toNat = 3 := by omega
 rcases this with h | h | h | h <;> rw [h] <;> decide
theorem uo (k : Nat) : 2 ≤ fY k ∧ fY k ≤ 3 := by unfold fY; omega
theorem rO {s : Sg} {b : List Int} (hb : np b) {d i : Nat} {w : Int} (hd : d ≤ 3) (h1 : 1 ≤ w) (h2 : w + d ≤ 8) : i ≤ (af s b d i w).2 ∧ (af s b d i w).2 ≤ i + 64 := by
 have h := (mq (s := s) hb d i w hd h1 h2).2.2
 have : 4 ^ d ≤ 4 ^ 3 := Nat.pow_le_pow_right (by omega) hd
 omega
section
variable {b : List Int}
theorem x8 (hb : np b) : ∀ k, 9 ≤ qT b k ∧ qT b k ≤ 9 + 20 * k
 | 0 => ⟨Nat.le_refl _, Nat.le_refl _⟩
 | k + 1 => by
  have h1 := x8 hb k
  have h2 := j9 (s := kq b) hb (qT b k)
  rw [qT]; omega
theorem x9 (hb : np b) : ∀ k, 9 ≤ qR b k ∧ qR b k ≤ 100 + 64 * k
 | 0 => by
  have h1 := x8 hb (aB (b.getD 0 0))
  have h2 := rN (b.getD 0 0)
  rw [qR]; omega
 | k + 1 => by
  have h1 := x9 hb k
  have h3 := o9 (b.getD (1 + k) 0)
  have h4 := uo k
  have h2 := rO (s := br b) hb (d := fY k) (i := qR b k) (w := aA b k) (by omega) h3.1 (by show dM _ + _ ≤ _; omega)
  rw [qR]; omega
theorem vJ (hb : np b) : ∀ k, 9 ≤ qP b k ∧ qP b k ≤ 400 + 100 * k
 | 0 => by
  have h1 := x9 hb (aF (b.getD 0 0))
  have h2 := rM (b.getD 0 0)
  rw [qP]; omega
 | k + 1 => by
  have h1 := vJ hb k
  have h2 := j9 (s := br b) hb (qP b k)
  have h3 := rO (s := br b) hb (d := 2) (i := (a8 (br b) b (qP b k)).2) (w := fS b k) (by omega) (by unfold fS; omega) (by unfold fS; omega)
  rw [qP]; omega
theorem ya : (Bx b).length = (mr b).length ∧ (mr b).length ≤ 1 := by
 unfold Bx mr; split <;> simp
theorem D4 : (Bx b).map (·.w) = (mr b).map (·.w) := by
 unfold Bx mr; split <;> rfl
theorem CZ : EY (aa b) = (kq b).sc := by
 show (⟨(tab (AL b) _).map (·.w), (Bx b).map (·.w), []⟩ : Sc) = ⟨B4 b, (mr b).map (·.w), []⟩
 rw [D4]
 have : (tab (AL b) (aF (b.getD 0 0))).map (·.w) = B4 b := by unfold B4 tab; rw [List.map_map]; rfl
 rw [this]
theorem wN : f8 (aa b) = (br b).sc := by
 show (⟨(tab (AL b) _).map (·.w), (Bx b).map (·.w), (tab (B5 b) _).map (·.w)⟩ : Sc) = ⟨B4 b, (mr b).map (·.w), Er b⟩
 rw [D4]
 have h1 : (tab (AL b) (aF (b.getD 0 0))).map (·.w) = B4 b := by unfold B4 tab; rw [List.map_map]; rfl
 have h2 : (tab (B5 b) (aB (b.getD 0 0))).map (·.w) = Er b := by unfold Er tab; rw [List.map_map]; rfl
 rw [h1, h2]
theorem pb (h : b.getD 0 0 / 4 % 4 = 3) : (aa b).mems = [AM b] := if_pos h
theorem pc (h : ¬b.getD 0 0 / 4 % 4 = 3) : (aa b).mems = [] := if_neg h
theorem vK (hb : np b) : cZ (aa b) := by
 have hn := rM (b.getD 0 0)
 have ht := rN (b.getD 0 0)
 have hp := un (b.getD 0 0)
 have l1 : (aa b).regs.length = aF (b.getD 0 0) := aC _ _
 have l2 : (aa b).takes.length = aB (b.getD 0 0) := aC _ _
 have l3 : (aa b).puts.length = fQ (b.getD 0 0) := aC _ _
 have l4 : (aa b).mems.length = (mr b).length := ya.1
 have l5 := (ya (b := b)).2
 refine ⟨by omega, by omega, by omega, by omega, fun k hk => ?_, fun k hk => ?_, fun k hk => ?_, fun k hk => ?_⟩
 ·rw [wN]
  rw [l1] at hk
  have e1 : vW (aa b) k = AL b k := bn hk
  rw [e1]
  have hw := o9 (b.getD (1 + k) 0)
  have hd := uo k
  have h := mq (s := br b) hb (fY k) (qR b k) (aA b k) (by omega) hw.1 (by show dM _ + _ ≤ _; omega)
  refine ⟨aE.2 (by show 1 ≤ dM _ ∧ dM _ ≤ 8; omega), ?_, h.1, by have := h.2.1; show cR (af _ b _ _ _).1 ≤ 3; omega⟩
  show dX (b.getD (1 + k) 0 / 4 % 2 ^ (dM (b.getD (1 + k) 0)).toNat) (dM (b.getD (1 + k) 0))
  exact gi (by omega) (by omega)
 ·rw [wN]
  have hm : b.getD 0 0 / 4 % 4 = 3 := by
   by_cases h : b.getD 0 0 / 4 % 4 = 3
   ·exact h
   ·exfalso
    rw [l4] at hk
    unfold mr at hk
    rw [if_neg h] at hk
    exact absurd hk (Nat.not_lt_zero _)
  have e1 : (aa b).mems = [AM b] := by show Bx b = _; unfold Bx; rw [if_pos hm]
  have hk0 : k = 0 := by rw [e1] at hk; simpa using hk
  subst hk0
  have e2 : iu (aa b) 0 = AM b := by show (aa b).mems.getD 0 ax = _; rw [e1]; rfl
  rw [e2]
  have h1 := j9 (s := br b) hb (qP b (fQ (b.getD 0 0)))
  have h2 := mq (s := br b) hb 1 (mE b).2 (1 + (b.length : Int) % 2) (by omega) (by omega) (by omega)
  have h3 := mq (s := br b) hb 2 (mA b).2 (1 + b.getD 4 0 % 2) (by omega) (by omega) (by omega)
  refine ⟨aE.2 (by show 1 ≤ 1 + _ % 2 ∧ 1 + _ % 2 ≤ 8; omega), CY _, ⟨h1.2.2.1, by have := h1.2.2.2; show cR (a8 _ b _).1 ≤ 3; omega⟩, ⟨⟨_, h2.1⟩, by have := h2.2.1; show cR (af _ b _ _ _).1 ≤ 3; omega⟩, h3.1, by have := h3.2.1; show cR (af _ b _ _ _).1 ≤ 3; omega⟩
 ·rw [CZ]
  rw [l2] at hk
  have e1 : pI (aa b) k = B5 b k := bn hk
  rw [e1]
  have h := j9 (s := kq b) hb (qT b k)
  exact ⟨aE.2 (by show 1 ≤ 1 + _ % 2 ∧ 1 + _ % 2 ≤ 8; omega), h.2.2.1, by have := h.2.2.2; show cR (a8 _ b _).1 ≤ 3; omega⟩
 ·rw [wN]
  rw [l3] at hk
  have e1 : vV (aa b) k = De b k := bn hk
  rw [e1]
  have h := j9 (s := br b) hb (qP b k)
  have h3 := mq (s := br b) hb 2 (a8 (br b) b (qP b k)).2 (fS b k) (by omega) (by unfold fS; omega) (by unfold fS; omega)
  exact ⟨aE.2 (by show 1 ≤ 1 + _ % 2 ∧ 1 + _ % 2 ≤ 8; omega), ⟨h.2.2.1, by have := h.2.2.2; show cR (a8 _ b _).1 ≤ 3; omega⟩, h3.1, by have := h3.2.1; show cR (af _ b _ _ _).1 ≤ 3; omega⟩
end
end Go.Proofs.Ytgfbfajaaaegjaa
