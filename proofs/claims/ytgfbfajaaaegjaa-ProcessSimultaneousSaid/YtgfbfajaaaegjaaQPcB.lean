/-
  Made processes, plain data.
-/
import Derived.Test.YtgfbfajaaaegjaaQPrS
namespace Go.Proofs.Ytgfbfajaaaegjaa
open Go.RowKit
set_option linter.unusedVariables false
set_option linter.unusedSimpArgs false
def br (n : Int) : ByteArray := [bs [97], bs [98], bs [99, 48], bs [119], bs [120, 49, 121], bs [116, 111, 112], bs [122, 57], bs [109]].getD (n % 8).toNat e0
def Dc : ByteArray := bs [114]
def Cn : ByteArray := bs [109, 101, 109, 48]
def cJ (b : Int) (nm : ByteArray) : CJ := if b % 4 = 1 then ⟨1, e0, 0⟩ else if b % 4 = 2 then ⟨2, nm, 0⟩ else if b % 4 = 3 then ⟨3, nm, b / 4 % 5⟩ else uw
def aD (y : Int) : Nat := (([1, 1, 2, 3] : List Int).getD (y % 4).toNat 0).toNat
def aB (y : Int) : Nat := (([1, 0, 1, 2] : List Int).getD (y / 16 % 4).toNat 0).toNat
def fX (y : Int) : Nat := (([1, 1, 0, 2] : List Int).getD (y / 64 % 4).toNat 0).toNat
def dG (n : Int) : Int := ([1, 2, 1, 3] : List Int).getD (n % 4).toNat 0
def qV (n : Int) : Int := ([2, 1, 4, 2] : List Int).getD (n / 2 % 4).toNat 0
def bO (b : List Int) (k : Nat) : Rg := ⟨Dc ++ br k, dG (b.getD (1 + k) 0), b.getD (1 + k) 0 / 4 % 2 ^ (dG (b.getD (1 + k) 0)).toNat, dE, cJ (b.getD (1 + k) 0 / 16) (Dc ++ br (b.getD (1 + k) 0 / 16 % 3))⟩
def ar (b : List Int) : Mm := ⟨Cn, 1 + b.getD 4 0 % 2, qV (b.getD 4 0), dE, dE, dE, cJ (b.getD 4 0 / 8) Cn⟩
def bI (b : List Int) (k : Nat) : Tk := ⟨(k : Nat), 1 + b.getD (5 + k) 0 % 2, dE⟩
def ca (b : List Int) (nt k : Nat) : Pt := ⟨((nt + k : Nat) : Int), 1 + b.getD (7 + k) 0 % 2, dE, dE⟩
def l7 (b : List Int) : List Mm := if b.getD 0 0 / 4 % 4 = 3 then [ar b] else []
def aA (b : List Int) (k : Nat) : Int := dG (b.getD (1 + k) 0)
def aG (b : List Int) (k : Nat) : Int := 1 + b.getD (5 + k) 0 % 2
def fO (b : List Int) (k : Nat) : Int := 1 + b.getD (7 + k) 0 % 2
def AE (b : List Int) : List Int := tab (aA b) (aD (b.getD 0 0))
def CL (b : List Int) : List Int := tab (aG b) (aB (b.getD 0 0))
def j4 (b : List Int) : Sg := ⟨AE b, [], l7 b, false⟩
def bz (b : List Int) : Sg := ⟨AE b, CL b, l7 b, true⟩
def qT (b : List Int) : Nat → Nat
 | 0 => 9
 | k + 1 => (bc (j4 b) b (qT b k)).2
def fU (k : Nat) : Nat := 3 - min k 1
def qR (b : List Int) : Nat → Nat
 | 0 => qT b (aB (b.getD 0 0))
 | k + 1 => (ab (bz b) b (fU k) (qR b k) (aA b k)).2
def qP (b : List Int) : Nat → Nat
 | 0 => qR b (aD (b.getD 0 0))
 | k + 1 => (ab (bz b) b 2 (bc (bz b) b (qP b k)).2 (fO b k)).2
def BD (b : List Int) (k : Nat) : Tk := { bI b k with when := (bc (j4 b) b (qT b k)).1 }
def AF (b : List Int) (k : Nat) : Rg := { bO b k with next := (ab (bz b) b (fU k) (qR b k) (aA b k)).1 }
def CM (b : List Int) (k : Nat) : Pt := { ca b (aB (b.getD 0 0)) k with when := (bc (bz b) b (qP b k)).1, data := (ab (bz b) b 2 (bc (bz b) b (qP b k)).2 (fO b k)).1 }
def mE (b : List Int) : Ex × Nat := bc (bz b) b (qP b (fX (b.getD 0 0)))
def mA (b : List Int) : Ex × Nat := ab (bz b) b 1 (mE b).2 (1 + (b.length : Int) % 2)
def mD (b : List Int) : Ex × Nat := ab (bz b) b 2 (mA b).2 (1 + b.getD 4 0 % 2)
def Aa (b : List Int) : Mm := { ar b with enable := (mE b).1, addr := (mA b).1, data := (mD b).1 }
def Ab (b : List Int) : List Mm := if b.getD 0 0 / 4 % 4 = 3 then [Aa b] else []
def DC : ByteArray := bs [112]
def C4 : ByteArray := bs [97]
def aa (b : List Int) : Pr := ⟨DC, C4, tab (AF b) (aD (b.getD 0 0)), Ab b, tab (BD b) (aB (b.getD 0 0)), tab (CM b) (fX (b.getD 0 0))⟩
theorem kS (n : Int) : (br n).size ≤ 3 := by
 unfold br
 have : (n % 8).toNat = 0 ∨ (n % 8).toNat = 1 ∨ (n % 8).toNat = 2 ∨ (n % 8).toNat = 3 ∨ (n % 8).toNat = 4 ∨ (n % 8).toNat = 5 ∨ (n % 8).toNat = 6 ∨ (n % 8).toNat = 7 := by omega
 rcases this with h | h | h | h | h | h | h | h <;> rw [h] <;> decide
theorem qW (y : Int) : aD y ≤ 3 ∧ (aD y : Int) = ([1, 1, 2, 3] : List Int).getD (y % 4).toNat 0 := by
 unfold aD
 have : (y % 4).toNat = 0 ∨ (y % 4).toNat = 1 ∨ (y % 4).toNat = 2 ∨ (y % 4).toNat = 3 := by omega
 rcases this with h | h | h | h <;> rw [h] <;> decide
theorem qX (y : Int) : aB y ≤ 2 ∧ (aB y : Int) = ([1, 0, 1, 2] : List Int).getD (y / 16 % 4).toNat 0 := by
 unfold aB
 have : (y / 16 % 4).toNat = 0 ∨ (y / 16 % 4).toNat = 1 ∨ (y / 16 % 4).toNat = 2 ∨ (y / 16 % 4).toNat = 3 := by omega
 rcases this with h | h | h | h <;> rw [h] <;> decide
theorem tA (y : Int) : fX y ≤ 2 ∧ (fX y : Int) = ([1, 1, 0, 2] : List Int).getD (y / 64 % 4).toNat 0 := by
 unfold fX
 have : (y / 64 % 4).toNat = 0 ∨ (y / 64 % 4).toNat = 1 ∨ (y / 64 % 4).toNat = 2 ∨ (y / 64 % 4).toNat = 3 := by omega
 rcases this with h | h | h | h <;> rw [h] <;> decide
theorem oE (n : Int) : 1 ≤ dG n ∧ dG n ≤ 3 := by
 unfold dG
 have : (n % 4).toNat = 0 ∨ (n % 4).toNat = 1 ∨ (n % 4).toNat = 2 ∨ (n % 4).toNat = 3 := by omega
 rcases this with h | h | h | h <;> rw [h] <;> decide
theorem Br (n : Int) : 1 ≤ qV n ∧ qV n ≤ 4 := by
 unfold qV
 have : (n / 2 % 4).toNat = 0 ∨ (n / 2 % 4).toNat = 1 ∨ (n / 2 % 4).toNat = 2 ∨ (n / 2 % 4).toNat = 3 := by omega
 rcases this with h | h | h | h <;> rw [h] <;> decide
theorem tB (k : Nat) : 2 ≤ fU k ∧ fU k ≤ 3 := by unfold fU; omega
theorem qY {s : Sg} {b : List Int} (hb : lY b) {d i : Nat} {w : Int} (hd : d ≤ 3) (h1 : 1 ≤ w) (h2 : w + d ≤ 8) : i ≤ (ab s b d i w).2 ∧ (ab s b d i w).2 ≤ i + 64 := by
 have h := (lZ (s := s) hb d i w hd h1 h2).2.2
 have : 4 ^ d ≤ 4 ^ 3 := Nat.pow_le_pow_right (by omega) hd
 omega
section
variable {b : List Int}
theorem wU (hb : lY b) : ∀ k, 9 ≤ qT b k ∧ qT b k ≤ 9 + 20 * k
 | 0 => ⟨Nat.le_refl _, Nat.le_refl _⟩
 | k + 1 => by
  have h1 := wU hb k
  have h2 := jW (s := j4 b) hb (qT b k)
  rw [qT]; omega
theorem wV (hb : lY b) : ∀ k, 9 ≤ qR b k ∧ qR b k ≤ 100 + 64 * k
 | 0 => by
  have h1 := wU hb (aB (b.getD 0 0))
  have h2 := qX (b.getD 0 0)
  rw [qR]; omega
 | k + 1 => by
  have h1 := wV hb k
  have h3 := oE (b.getD (1 + k) 0)
  have h4 := tB k
  have h2 := qY (s := bz b) hb (d := fU k) (i := qR b k) (w := aA b k) (by omega) h3.1 (by show dG _ + _ ≤ _; omega)
  rw [qR]; omega
theorem uJ (hb : lY b) : ∀ k, 9 ≤ qP b k ∧ qP b k ≤ 400 + 100 * k
 | 0 => by
  have h1 := wV hb (aD (b.getD 0 0))
  have h2 := qW (b.getD 0 0)
  rw [qP]; omega
 | k + 1 => by
  have h1 := uJ hb k
  have h2 := jW (s := bz b) hb (qP b k)
  have h3 := qY (s := bz b) hb (d := 2) (i := (bc (bz b) b (qP b k)).2) (w := fO b k) (by omega) (by unfold fO; omega) (by unfold fO; omega)
  rw [qP]; omega
theorem wW : (Ab b).length = (l7 b).length ∧ (l7 b).length ≤ 1 := by
 unfold Ab l7; split <;> simp
theorem Co : (Ab b).map (·.w) = (l7 b).map (·.w) := by
 unfold Ab l7; split <;> rfl
theorem Bs : z5 (aa b) = (j4 b).sc := by
 show (⟨(tab (AF b) _).map (·.w), (Ab b).map (·.w), []⟩ : Sc) = ⟨AE b, (l7 b).map (·.w), []⟩
 rw [Co]
 have : (tab (AF b) (aD (b.getD 0 0))).map (·.w) = AE b := by unfold AE tab; rw [List.map_map]; rfl
 rw [this]
theorem vI : it (aa b) = (bz b).sc := by
 show (⟨(tab (AF b) _).map (·.w), (Ab b).map (·.w), (tab (BD b) _).map (·.w)⟩ : Sc) = ⟨AE b, (l7 b).map (·.w), CL b⟩
 rw [Co]
 have h1 : (tab (AF b) (aD (b.getD 0 0))).map (·.w) = AE b := by unfold AE tab; rw [List.map_map]; rfl
 have h2 : (tab (BD b) (aB (b.getD 0 0))).map (·.w) = CL b := by unfold CL tab; rw [List.map_map]; rfl
 rw [h1, h2]
theorem sC (h : b.getD 0 0 / 4 % 4 = 3) : (aa b).mems = [Aa b] := if_pos h
theorem sD (h : ¬b.getD 0 0 / 4 % 4 = 3) : (aa b).mems = [] := if_neg h
theorem qZ (hb : lY b) : dh (aa b) := by
 have hn := qW (b.getD 0 0)
 have ht := qX (b.getD 0 0)
 have hp := tA (b.getD 0 0)
 have l1 : (aa b).regs.length = aD (b.getD 0 0) := an _ _
 have l2 : (aa b).takes.length = aB (b.getD 0 0) := an _ _
 have l3 : (aa b).puts.length = fX (b.getD 0 0) := an _ _
 have l4 : (aa b).mems.length = (l7 b).length := wW.1
 have l5 := (wW (b := b)).2
 refine ⟨by omega, by omega, by omega, by omega, fun k hk => ?_, fun k hk => ?_, fun k hk => ?_, fun k hk => ?_⟩
 ·rw [vI]
  rw [l1] at hk
  have e1 : pR (aa b) k = AF b k := aE hk
  rw [e1]
  have hw := oE (b.getD (1 + k) 0)
  have hd := tB k
  have h := lZ (s := bz b) hb (fU k) (qR b k) (aA b k) (by omega) hw.1 (by show dG _ + _ ≤ _; omega)
  refine ⟨aY.2 (by show 1 ≤ dG _ ∧ dG _ ≤ 8; omega), ?_, h.1, by have := h.2.1; show da (ab _ b _ _ _).1 ≤ 3; omega⟩
  show dt (b.getD (1 + k) 0 / 4 % 2 ^ (dG (b.getD (1 + k) 0)).toNat) (dG (b.getD (1 + k) 0))
  exact ge (by omega) (by omega)
 ·rw [vI]
  have hm : b.getD 0 0 / 4 % 4 = 3 := by
   by_cases h : b.getD 0 0 / 4 % 4 = 3
   ·exact h
   ·exfalso
    rw [l4] at hk
    unfold l7 at hk
    rw [if_neg h] at hk
    exact absurd hk (Nat.not_lt_zero _)
  have e1 : (aa b).mems = [Aa b] := by show Ab b = _; unfold Ab; rw [if_pos hm]
  have hk0 : k = 0 := by rw [e1] at hk; simpa using hk
  subst hk0
  have e2 : ef (aa b) 0 = Aa b := by show (aa b).mems.getD 0 aj = _; rw [e1]; rfl
  rw [e2]
  have h1 := jW (s := bz b) hb (qP b (fX (b.getD 0 0)))
  have h2 := lZ (s := bz b) hb 1 (mE b).2 (1 + (b.length : Int) % 2) (by omega) (by omega) (by omega)
  have h3 := lZ (s := bz b) hb 2 (mA b).2 (1 + b.getD 4 0 % 2) (by omega) (by omega) (by omega)
  refine ⟨aY.2 (by show 1 ≤ 1 + _ % 2 ∧ 1 + _ % 2 ≤ 8; omega), Br _, ⟨h1.2.2.1, by have := h1.2.2.2; show da (bc _ b _).1 ≤ 3; omega⟩, ⟨⟨_, h2.1⟩, by have := h2.2.1; show da (ab _ b _ _ _).1 ≤ 3; omega⟩, h3.1, by have := h3.2.1; show da (ab _ b _ _ _).1 ≤ 3; omega⟩
 ·rw [Bs]
  rw [l2] at hk
  have e1 : ir (aa b) k = BD b k := aE hk
  rw [e1]
  have h := jW (s := j4 b) hb (qT b k)
  exact ⟨aY.2 (by show 1 ≤ 1 + _ % 2 ∧ 1 + _ % 2 ≤ 8; omega), h.2.2.1, by have := h.2.2.2; show da (bc _ b _).1 ≤ 3; omega⟩
 ·rw [vI]
  rw [l3] at hk
  have e1 : oC (aa b) k = CM b k := aE hk
  rw [e1]
  have h := jW (s := bz b) hb (qP b k)
  have h3 := lZ (s := bz b) hb 2 (bc (bz b) b (qP b k)).2 (fO b k) (by omega) (by unfold fO; omega) (by unfold fO; omega)
  exact ⟨aY.2 (by show 1 ≤ 1 + _ % 2 ∧ 1 + _ % 2 ≤ 8; omega), ⟨h.2.2.1, by have := h.2.2.2; show da (bc _ b _).1 ≤ 3; omega⟩, h3.1, by have := h3.2.1; show da (ab _ b _ _ _).1 ≤ 3; omega⟩
end
end Go.Proofs.Ytgfbfajaaaegjaa
