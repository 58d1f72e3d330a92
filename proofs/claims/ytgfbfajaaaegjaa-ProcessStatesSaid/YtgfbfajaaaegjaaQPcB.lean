/-
  Made processes, plain data.
-/
import Derived.Test.YtgfbfajaaaegjaaQPrS
namespace Go.Proofs.Ytgfbfajaaaegjaa
open Go.RowKit
set_option linter.unusedVariables false
set_option linter.unusedSimpArgs false
def a6 (n : Int) : ByteArray := [bs [97], bs [98], bs [99, 48], bs [119], bs [120, 49, 121], bs [116, 111, 112], bs [122, 57], bs [109]].getD (n % 8).toNat e0
def CM : ByteArray := bs [114]
def BE : ByteArray := bs [109, 101, 109, 48]
def ci (b : Int) (nm : ByteArray) : Dj := if b % 4 = 1 then ⟨1, e0, 0⟩ else if b % 4 = 2 then ⟨2, nm, 0⟩ else if b % 4 = 3 then ⟨3, nm, b / 4 % 5⟩ else uI
def aD (y : Int) : Nat := (([1, 1, 2, 3] : List Int).getD (y % 4).toNat 0).toNat
def ax (y : Int) : Nat := (([1, 0, 1, 2] : List Int).getD (y / 16 % 4).toNat 0).toNat
def fe (y : Int) : Nat := (([1, 1, 0, 2] : List Int).getD (y / 64 % 4).toNat 0).toNat
def de (n : Int) : Int := ([1, 2, 1, 3] : List Int).getD (n % 4).toNat 0
def lN (n : Int) : Int := ([2, 1, 4, 2] : List Int).getD (n / 2 % 4).toNat 0
def bB (b : List Int) (k : Nat) : Rg := ⟨CM ++ a6 k, de (b.getD (1 + k) 0), b.getD (1 + k) 0 / 4 % 2 ^ (de (b.getD (1 + k) 0)).toNat, dE, ci (b.getD (1 + k) 0 / 16) (CM ++ a6 (b.getD (1 + k) 0 / 16 % 3))⟩
def aq (b : List Int) : Mm := ⟨BE, 1 + b.getD 4 0 % 2, lN (b.getD 4 0), dE, dE, dE, ci (b.getD 4 0 / 8) BE⟩
def bp (b : List Int) (k : Nat) : Tk := ⟨(k : Nat), 1 + b.getD (5 + k) 0 % 2, dE⟩
def bQ (b : List Int) (nt k : Nat) : Pt := ⟨((nt + k : Nat) : Int), 1 + b.getD (7 + k) 0 % 2, dE, dE⟩
def kW (b : List Int) : List Mm := if b.getD 0 0 / 4 % 4 = 3 then [aq b] else []
def av (b : List Int) (k : Nat) : Int := de (b.getD (1 + k) 0)
def aF (b : List Int) (k : Nat) : Int := 1 + b.getD (5 + k) 0 % 2
def fg (b : List Int) (k : Nat) : Int := 1 + b.getD (7 + k) 0 % 2
def A8 (b : List Int) : List Int := tab (av b) (aD (b.getD 0 0))
def Dk (b : List Int) : List Int := tab (aF b) (ax (b.getD 0 0))
def jC (b : List Int) : Sg := ⟨A8 b, [], kW b, false⟩
def bi (b : List Int) : Sg := ⟨A8 b, Dk b, kW b, true⟩
def qT (b : List Int) : Nat → Nat
 | 0 => 9
 | k + 1 => (aY (jC b) b (qT b k)).2
def fo (k : Nat) : Nat := 3 - min k 1
def qR (b : List Int) : Nat → Nat
 | 0 => qT b (ax (b.getD 0 0))
 | k + 1 => (ab (bi b) b (fo k) (qR b k) (av b k)).2
def qP (b : List Int) : Nat → Nat
 | 0 => qR b (aD (b.getD 0 0))
 | k + 1 => (ab (bi b) b 2 (aY (bi b) b (qP b k)).2 (fg b k)).2
def Ai (b : List Int) (k : Nat) : Tk := { bp b k with when := (aY (jC b) b (qT b k)).1 }
def y6 (b : List Int) (k : Nat) : Rg := { bB b k with next := (ab (bi b) b (fo k) (qR b k) (av b k)).1 }
def BF (b : List Int) (k : Nat) : Pt := { bQ b (ax (b.getD 0 0)) k with when := (aY (bi b) b (qP b k)).1, data := (ab (bi b) b 2 (aY (bi b) b (qP b k)).2 (fg b k)).1 }
def mE (b : List Int) : Ex × Nat := aY (bi b) b (qP b (fe (b.getD 0 0)))
def mA (b : List Int) : Ex × Nat := ab (bi b) b 1 (mE b).2 (1 + (b.length : Int) % 2)
def mD (b : List Int) : Ex × Nat := ab (bi b) b 2 (mA b).2 (1 + b.getD 4 0 % 2)
def y7 (b : List Int) : Mm := { aq b with enable := (mE b).1, addr := (mA b).1, data := (mD b).1 }
def Aj (b : List Int) : List Mm := if b.getD 0 0 / 4 % 4 = 3 then [y7 b] else []
def DZ : ByteArray := bs [112]
def Dv : ByteArray := bs [97]
def aa (b : List Int) : Pr := ⟨DZ, Dv, tab (y6 b) (aD (b.getD 0 0)), Aj b, tab (Ai b) (ax (b.getD 0 0)), tab (BF b) (fe (b.getD 0 0))⟩
theorem kf (n : Int) : (a6 n).size ≤ 3 := by
 unfold a6
 have : (n % 8).toNat = 0 ∨ (n % 8).toNat = 1 ∨ (n % 8).toNat = 2 ∨ (n % 8).toNat = 3 ∨ (n % 8).toNat = 4 ∨ (n % 8).toNat = 5 ∨ (n % 8).toNat = 6 ∨ (n % 8).toNat = 7 := by omega
 rcases this with h | h | h | h | h | h | h | h <;> rw [h] <;> decide
theorem ol (y : Int) : aD y ≤ 3 ∧ (aD y : Int) = ([1, 1, 2, 3] : List Int).getD (y % 4).toNat 0 := by
 unfold aD
 have : (y % 4).toNat = 0 ∨ (y % 4).toNat = 1 ∨ (y % 4).toNat = 2 ∨ (y % 4).toNat = 3 := by omega
 rcases this with h | h | h | h <;> rw [h] <;> decide
theorem oo (y : Int) : ax y ≤ 2 ∧ (ax y : Int) = ([1, 0, 1, 2] : List Int).getD (y / 16 % 4).toNat 0 := by
 unfold ax
 have : (y / 16 % 4).toNat = 0 ∨ (y / 16 % 4).toNat = 1 ∨ (y / 16 % 4).toNat = 2 ∨ (y / 16 % 4).toNat = 3 := by omega
 rcases this with h | h | h | h <;> rw [h] <;> decide
theorem qL (y : Int) : fe y ≤ 2 ∧ (fe y : Int) = ([1, 1, 0, 2] : List Int).getD (y / 64 % 4).toNat 0 := by
 unfold fe
 have : (y / 64 % 4).toNat = 0 ∨ (y / 64 % 4).toNat = 1 ∨ (y / 64 % 4).toNat = 2 ∨ (y / 64 % 4).toNat = 3 := by omega
 rcases this with h | h | h | h <;> rw [h] <;> decide
theorem oq (n : Int) : 1 ≤ de n ∧ de n ≤ 3 := by
 unfold de
 have : (n % 4).toNat = 0 ∨ (n % 4).toNat = 1 ∨ (n % 4).toNat = 2 ∨ (n % 4).toNat = 3 := by omega
 rcases this with h | h | h | h <;> rw [h] <;> decide
theorem BG (n : Int) : 1 ≤ lN n ∧ lN n ≤ 4 := by
 unfold lN
 have : (n / 2 % 4).toNat = 0 ∨ (n / 2 % 4).toNat = 1 ∨ (n / 2 % 4).toNat = 2 ∨ (n / 2 % 4).toNat = 3 := by omega
 rcases this with h | h | h | h <;> rw [h] <;> decide
theorem tx (k : Nat) : 2 ≤ fo k ∧ fo k ≤ 3 := by unfold fo; omega
theorem qM {s : Sg} {b : List Int} (hb : pv b) {d i : Nat} {w : Int} (hd : d ≤ 3) (h1 : 1 ≤ w) (h2 : w + d ≤ 8) : i ≤ (ab s b d i w).2 ∧ (ab s b d i w).2 ≤ i + 64 := by
 have h := (lK (s := s) hb d i w hd h1 h2).2.2
 have : 4 ^ d ≤ 4 ^ 3 := Nat.pow_le_pow_right (by omega) hd
 omega
section
variable {b : List Int}
theorem wY (hb : pv b) : ∀ k, 9 ≤ qT b k ∧ qT b k ≤ 9 + 20 * k
 | 0 => ⟨Nat.le_refl _, Nat.le_refl _⟩
 | k + 1 => by
  have h1 := wY hb k
  have h2 := jz (s := jC b) hb (qT b k)
  rw [qT]; omega
theorem wZ (hb : pv b) : ∀ k, 9 ≤ qR b k ∧ qR b k ≤ 100 + 64 * k
 | 0 => by
  have h1 := wY hb (ax (b.getD 0 0))
  have h2 := oo (b.getD 0 0)
  rw [qR]; omega
 | k + 1 => by
  have h1 := wZ hb k
  have h3 := oq (b.getD (1 + k) 0)
  have h4 := tx k
  have h2 := qM (s := bi b) hb (d := fo k) (i := qR b k) (w := av b k) (by omega) h3.1 (by show de _ + _ ≤ _; omega)
  rw [qR]; omega
theorem uQ (hb : pv b) : ∀ k, 9 ≤ qP b k ∧ qP b k ≤ 400 + 100 * k
 | 0 => by
  have h1 := wZ hb (aD (b.getD 0 0))
  have h2 := ol (b.getD 0 0)
  rw [qP]; omega
 | k + 1 => by
  have h1 := uQ hb k
  have h2 := jz (s := bi b) hb (qP b k)
  have h3 := qM (s := bi b) hb (d := 2) (i := (aY (bi b) b (qP b k)).2) (w := fg b k) (by omega) (by unfold fg; omega) (by unfold fg; omega)
  rw [qP]; omega
theorem pP : (Aj b).length = (kW b).length ∧ (kW b).length ≤ 1 := by
 unfold Aj kW; split <;> simp
theorem CO : (Aj b).map (·.w) = (kW b).map (·.w) := by
 unfold Aj kW; split <;> rfl
theorem BH : DQ (aa b) = (jC b).sc := by
 show (⟨(tab (y6 b) _).map (·.w), (Aj b).map (·.w), []⟩ : Sc) = ⟨A8 b, (kW b).map (·.w), []⟩
 rw [CO]
 have : (tab (y6 b) (aD (b.getD 0 0))).map (·.w) = A8 b := by unfold A8 tab; rw [List.map_map]; rfl
 rw [this]
theorem vV : ee (aa b) = (bi b).sc := by
 show (⟨(tab (y6 b) _).map (·.w), (Aj b).map (·.w), (tab (Ai b) _).map (·.w)⟩ : Sc) = ⟨A8 b, (kW b).map (·.w), Dk b⟩
 rw [CO]
 have h1 : (tab (y6 b) (aD (b.getD 0 0))).map (·.w) = A8 b := by unfold A8 tab; rw [List.map_map]; rfl
 have h2 : (tab (Ai b) (ax (b.getD 0 0))).map (·.w) = Dk b := by unfold Dk tab; rw [List.map_map]; rfl
 rw [h1, h2]
theorem kg (h : b.getD 0 0 / 4 % 4 = 3) : (aa b).mems = [y7 b] := if_pos h
theorem kh (h : ¬b.getD 0 0 / 4 % 4 = 3) : (aa b).mems = [] := if_neg h
theorem uR (hb : pv b) : dA (aa b) := by
 have hn := ol (b.getD 0 0)
 have ht := oo (b.getD 0 0)
 have hp := qL (b.getD 0 0)
 have l1 : (aa b).regs.length = aD (b.getD 0 0) := aB _ _
 have l2 : (aa b).takes.length = ax (b.getD 0 0) := aB _ _
 have l3 : (aa b).puts.length = fe (b.getD 0 0) := aB _ _
 have l4 : (aa b).mems.length = (kW b).length := pP.1
 have l5 := (pP (b := b)).2
 refine ⟨by omega, by omega, by omega, by omega, fun k hk => ?_, fun k hk => ?_, fun k hk => ?_, fun k hk => ?_⟩
 ·rw [vV]
  rw [l1] at hk
  have e1 : rj (aa b) k = y6 b k := aZ hk
  rw [e1]
  have hw := oq (b.getD (1 + k) 0)
  have hd := tx k
  have h := lK (s := bi b) hb (fo k) (qR b k) (av b k) (by omega) hw.1 (by show de _ + _ ≤ _; omega)
  refine ⟨aK.2 (by show 1 ≤ de _ ∧ de _ ≤ 8; omega), ?_, h.1, by have := h.2.1; show ce (ab _ b _ _ _).1 ≤ 3; omega⟩
  show dj (b.getD (1 + k) 0 / 4 % 2 ^ (de (b.getD (1 + k) 0)).toNat) (de (b.getD (1 + k) 0))
  exact gz (by omega) (by omega)
 ·rw [vV]
  have hm : b.getD 0 0 / 4 % 4 = 3 := by
   by_cases h : b.getD 0 0 / 4 % 4 = 3
   ·exact h
   ·exfalso
    rw [l4] at hk
    unfold kW at hk
    rw [if_neg h] at hk
    exact absurd hk (Nat.not_lt_zero _)
  have e1 : (aa b).mems = [y7 b] := by show Aj b = _; unfold Aj; rw [if_pos hm]
  have hk0 : k = 0 := by rw [e1] at hk; simpa using hk
  subst hk0
  have e2 : fr (aa b) 0 = y7 b := by show (aa b).mems.getD 0 ai = _; rw [e1]; rfl
  rw [e2]
  have h1 := jz (s := bi b) hb (qP b (fe (b.getD 0 0)))
  have h2 := lK (s := bi b) hb 1 (mE b).2 (1 + (b.length : Int) % 2) (by omega) (by omega) (by omega)
  have h3 := lK (s := bi b) hb 2 (mA b).2 (1 + b.getD 4 0 % 2) (by omega) (by omega) (by omega)
  refine ⟨aK.2 (by show 1 ≤ 1 + _ % 2 ∧ 1 + _ % 2 ≤ 8; omega), BG _, ⟨h1.2.2.1, by have := h1.2.2.2; show ce (aY _ b _).1 ≤ 3; omega⟩, ⟨⟨_, h2.1⟩, by have := h2.2.1; show ce (ab _ b _ _ _).1 ≤ 3; omega⟩, h3.1, by have := h3.2.1; show ce (ab _ b _ _ _).1 ≤ 3; omega⟩
 ·rw [BH]
  rw [l2] at hk
  have e1 : o0 (aa b) k = Ai b k := aZ hk
  rw [e1]
  have h := jz (s := jC b) hb (qT b k)
  exact ⟨aK.2 (by show 1 ≤ 1 + _ % 2 ∧ 1 + _ % 2 ≤ 8; omega), h.2.2.1, by have := h.2.2.2; show ce (aY _ b _).1 ≤ 3; omega⟩
 ·rw [vV]
  rw [l3] at hk
  have e1 : tq (aa b) k = BF b k := aZ hk
  rw [e1]
  have h := jz (s := bi b) hb (qP b k)
  have h3 := lK (s := bi b) hb 2 (aY (bi b) b (qP b k)).2 (fg b k) (by omega) (by unfold fg; omega) (by unfold fg; omega)
  exact ⟨aK.2 (by show 1 ≤ 1 + _ % 2 ∧ 1 + _ % 2 ≤ 8; omega), ⟨h.2.2.1, by have := h.2.2.2; show ce (aY _ b _).1 ≤ 3; omega⟩, h3.1, by have := h3.2.1; show ce (ab _ b _ _ _).1 ≤ 3; omega⟩
end
end Go.Proofs.Ytgfbfajaaaegjaa
