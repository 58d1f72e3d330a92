/-
  The law on ranges of operations, plain data.
-/
import Derived.Test.YtaghhicmnalmmaaQPrR
namespace Go.Proofs.Ytaghhicmnalmmaa
open Go.RowKit
set_option linter.unusedVariables false
set_option linter.unusedSimpArgs false
def aN (x w : Int) : Int := if 0 ≤ w ∧ w ≤ 62 then x % 2 ^ w.toNat else 0
theorem gZ {x w : Int} : IntKind.wrap .i64 ((BitVec.ofInt (IntKind.i64).bits x &&& BitVec.ofInt (IntKind.i64).bits (aa w)).toNat : Int) = aN x w := by
 unfold aN
 by_cases h : 0 ≤ w ∧ w ≤ 62
 ·rw [if_pos h, cy h.1 h.2]
  exact eM (n := w.toNat) (by omega)
 ·rw [if_neg h, show aa w = 0 from if_pos (by omega)]
  rw [show BitVec.ofInt (IntKind.i64).bits 0 = 0#_ from by simp, BitVec.and_zero]
  rfl
def ma : List Int → List Int → List Int
 | z :: zs, w :: ws => aN z w :: ma zs ws
 | _, _ => []
theorem gr : ∀ (zs ws : List Int), zs.length = ws.length → (ma zs ws).length = ws.length
 | [], [], _ => rfl
 | z :: zs, w :: ws, h => by simp [ma, gr zs ws (by simpa using h)]
theorem pE : ∀ (zs ws : List Int), zs.length = ws.length → ws.all ao = true → ∀ j, j < (ma zs ws).length → 0 ≤ (ma zs ws).getD j 0 ∧ (ma zs ws).getD j 0 ≤ aa (ws.getD j 0)
 | [], [], _, _, j, hj => absurd hj (Nat.not_lt_zero _)
 | z :: zs, w :: ws, h, hf, 0, _ => by
  simp only [List.all_cons, Bool.and_eq_true] at hf
  have hw := bM.1 hf.1
  show 0 ≤ aN z w ∧ aN z w ≤ aa w
  unfold aN
  rw [if_pos (by omega), cy (by omega) (by omega)]
  have hp : (0 : Int) < 2 ^ w.toNat := Int.pow_pos (by omega)
  have := Int.emod_nonneg z (show (2 : Int) ^ w.toNat ≠ 0 by omega)
  have := Int.emod_lt_of_pos z hp
  omega
 | z :: zs, w :: ws, h, hf, j + 1, hj => by
  simp only [List.all_cons, Bool.and_eq_true] at hf
  simpa [ma] using pE zs ws (by simpa using h) hf.2 j (by simpa [ma] using hj)
theorem iK {op z0 z1 : Int} {ws xs : List Int} (h : ¬aJ op ws z0 z1 = 0) : aJ op ws z0 z1 = 1 ∧ aA op ws z0 z1 = 0 ∧ aF op ws xs [z0, z1] = 1 ∧ aB op ws xs [z0, z1] = 0 := by
 unfold aJ at h
 have hk : jp op ws z0 z1 = false := by
  cases hk : jp op ws z0 z1
  ·rfl
  ·rw [hk] at h; exact absurd rfl h
 have ha : bu op ws xs [z0, z1] = false := by
  unfold bu
  rw [show ([z0, z1] : List Int).getD 0 0 = z0 from rfl, show ([z0, z1] : List Int).getD 1 0 = z1 from rfl, hk]
  simp
 unfold aJ aA aF aB
 rw [hk, ha]
 exact ⟨rfl, rfl, rfl, rfl⟩
theorem lj {op z0 z1 : Int} {ws zs : List Int} (h : aJ op ws z0 z1 = 0) (hl : zs.length = ws.length) : aF op ws (ma zs ws) [z0, z1] = 0 ∧ 1 ≤ aA op ws z0 z1 ∧ aA op ws z0 z1 ≤ 8 ∧ 0 ≤ aB op ws (ma zs ws) [z0, z1] ∧ aB op ws (ma zs ws) [z0, z1] ≤ aa (aA op ws z0 z1) := by
 have hk : jp op ws z0 z1 = true := by
  unfold aJ at h
  cases hk : jp op ws z0 z1
  ·rw [hk] at h; exact absurd h (by decide)
  ·rfl
 obtain ⟨h1, h2, h3⟩ := jq hk
 have hin : oI ws (ma zs ws) = true := po (fun j hj => pE zs ws hl h2 j (by rw [gr zs ws hl]; first | exact hj | (rw [gr zs ws hl] at hj; exact hj)))
 have ha := bU (op := op) (nums := [z0, z1]) rfl (gr zs ws hl) hk hin
 have hr := pD hk (gr zs ws hl) hin
 have hw := bM.1 h3
 have e : aA op ws z0 z1 = aG op ws z0 z1 := by unfold aA; rw [if_pos hk]
 rw [e, ha.1]
 exact ⟨ha.2, hw.1, hw.2, hr.1, hr.2⟩
theorem jw {op z0 z1 : Int} {ws : List Int} (h : am op < 0) : aJ op ws z0 z1 = 1 := by
 unfold aJ
 have hk : jp op ws z0 z1 = false := by
  unfold jp
  rw [decide_eq_false (by omega)]
  rfl
 rw [hk]; rfl
theorem pF (op : Int) : am op = -1 ∨ am op = 0 ∨ am op = 1 ∨ am op = 2 ∨ am op = 3 := by
 unfold am
 split
 ·omega
 ·split
  ·omega
  ·split
   ·omega
   ·split <;> omega
end Go.Proofs.Ytaghhicmnalmmaa
