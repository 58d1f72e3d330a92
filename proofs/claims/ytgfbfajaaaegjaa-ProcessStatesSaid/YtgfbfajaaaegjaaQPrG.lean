/-
  Made processes, plain law: expressions that bytes describe.
-/
import Derived.Test.YtgfbfajaaaegjaaQPrQ
namespace Go.Proofs.Ytgfbfajaaaegjaa
open Go.RowKit
set_option linter.unusedVariables false
set_option linter.unusedSimpArgs false
def pv (b : List Int) : Prop := ∀ x ∈ b, 0 ≤ x ∧ x ≤ 255
theorem bO {b : List Int} (h : pv b) (i : Nat) : 0 ≤ b.getD i 0 ∧ b.getD i 0 ≤ 255 := by
 by_cases hi : i < b.length
 ·simp only [List.getD, List.getElem?_eq_getElem hi, Option.getD_some]
  exact h _ (List.getElem_mem hi)
 ·simp [List.getD, List.getElem?_eq_none (Nat.le_of_not_lt hi)]
structure Sg where
 regs : List Int
 takes : List Int
 mems : List Mm
 data : Bool
def Sg.sc (s : Sg) : Sc := ⟨s.regs, s.mems.map (·.w), if s.data then s.takes else []⟩
def cb (v w : Int) : Ex := ⟨1, e0, ⟨v % 2 ^ w.toNat, e0⟩, ⟨w, e0⟩, []⟩
def xK (i : Nat) : Ex := ⟨16, e0, ⟨i, e0⟩, dN, []⟩
def yQ (i : Nat) : Ex := ⟨18, e0, ⟨i, e0⟩, dN, []⟩
def dH (f : Nat → Ex) (w : Int) (l : List Int) : Nat → List Ex
 | 0 => []
 | k + 1 => dH f w l k ++ (if l.getD k 0 = w then [f k] else [])
def ca (s : Sg) (w : Int) : List Ex := dH xK w s.regs s.regs.length ++ (if s.data then dH yQ w s.takes s.takes.length else [])
def aW (s : Sg) (w b : Int) : Ex := if (ca s w).length = 0 ∨ b % 4 = 0 then cb (b / 4) w else (ca s w).getD (b / 4 % (ca s w).length).toNat dE
def kU (l : List Mm) (w : Int) : Nat → Nat → Option Nat
 | 0, _ => none
 | n + 1, k => if (l.getD k ai).w = w then some k else kU l w n (k + 1)
def gd (k : Int) : Int := [2, 3, 4, 5, 6, 7, 10, 8, 9, 11].getD (k - 4).toNat 0
def od (y w : Int) : Int := let o := gd (y % 14); if (o = 8 ∨ o = 9) ∧ w > 1 then 5 else if o = 11 ∧ w = 1 then 3 else o
def gC (y w : Int) : List Int := let o := gd (y % 14)
 if o = 2 then [w] else if o = 10 then [1, w, w] else if o = 8 ∨ o = 9 then (if w > 1 then [w, w] else [1 + y / 14 % 3, 1 + y / 14 % 3]) else if o = 11 then (if w = 1 then [w, w] else [w - 1, 1]) else [w, w]
def a8 (t : Nat → Int → Ex × Nat) : List Int → Nat → List Ex × Nat
 | [], i => ([], i)
 | w :: r, i => ((t i w).1 :: (a8 t r (t i w).2).1, (a8 t r (t i w).2).2)
def bh (s : Sg) (t : Nat → Int → Ex × Nat) (w b : Int) (i : Nat) : Ex × Nat :=
 match (if b % 3 = 0 then kU s.mems w s.mems.length 0 else none) with
 | some m => let x := t i (1 + b / 3 % 3); (⟨17, e0, ⟨m, e0⟩, dN, [x.1]⟩, x.2)
 | none => if b % 3 = 1 ∧ w > 1 then let x := t i (w - 1); (⟨13, e0, dN, ⟨w, e0⟩, [x.1]⟩, x.2)
  else let x := t i (w + b / 3 % 2); (⟨12, e0, ⟨b / 3 % 2, e0⟩, ⟨w, e0⟩, [x.1]⟩, x.2)
def ab (s : Sg) (b : List Int) : Nat → Nat → Int → Ex × Nat
 | 0, i, w => (aW s w (b.getD i 0 / 14), i + 1)
 | d + 1, i, w =>
  let y := b.getD i 0
  if d = 0 ∨ y % 14 < 2 then (aW s w (y / 14), i + 1)
  else if y % 14 = 2 ∨ y % 14 = 3 then bh s (ab s b d) w (y / 14) (i + 1)
  else (⟨od y w, e0, dN, dN, (a8 (ab s b d) (gC y w) (i + 1)).1⟩, (a8 (ab s b d) (gC y w) (i + 1)).2)
theorem wP {s : Sg} {w : Int} {acc : List Ex} {j : Nat} (h : acc = dH xK w s.regs s.regs.length ++ dH yQ w s.takes j) (h0 : s.data = false → j = 0) (h1 : s.data = true → j = s.takes.length) : acc = ca s w := by
 rw [h]; unfold ca
 cases hs : s.data
 ·rw [h0 hs]; simp [dH]
 ·rw [h1 hs]; simp
theorem ke {f : Nat → Ex} {w : Int} {l : List Int} {k : Nat} (h : l.getD k 0 = w) : dH f w l k ++ [f k] = dH f w l (k + 1) := by rw [dH, if_pos h]
theorem mC {f : Nat → Ex} {w : Int} {l : List Int} {k : Nat} (h : ¬l.getD k 0 = w) : dH f w l k = dH f w l (k + 1) := by rw [dH, if_neg h, List.append_nil]
theorem Ad (s : Sg) (w : Int) : (ca s w).length ≤ s.regs.length + s.takes.length := by
 have key : ∀ (f : Nat → Ex) (l : List Int) (k : Nat), (dH f w l k).length ≤ k := by
  intro f l k
  induction k with
  | zero => simp [dH]
  | succ k ih => rw [dH]; simp only [List.length_append]; split <;> simp <;> omega
 unfold ca
 have h1 := key xK s.regs s.regs.length
 have h2 := key yQ s.takes s.takes.length
 rw [List.length_append]
 split
 ·omega
 ·simp; omega
theorem ig {f : Nat → Ex} {w : Int} {l : List Int} {e : Ex} : ∀ (k : Nat), e ∈ dH f w l k → ∃ i, i < k ∧ e = f i ∧ l.getD i 0 = w
 | 0, h => by cases h
 | k + 1, h => by
  rw [dH, List.mem_append] at h
  rcases h with h | h
  ·obtain ⟨i, h1, h2⟩ := ig k h; exact ⟨i, by omega, h2⟩
  ·split at h
   ·rename_i hw
    simp only [List.mem_singleton] at h
    exact ⟨k, by omega, h, hw⟩
   ·cases h
theorem yR {c : Sc} {v w : Int} (hw : an w = true) : cz c (cb v w) = some w := by
 have h := aK.1 hw
 unfold cb
 rw [cz, cz.tyL]
 simp only
 rw [if_neg (by decide), if_neg (by decide), if_neg (by decide)]
 have hm := gz (x := v) (w := w) (by omega) (by omega)
 have e : bc 1 [] (v % 2 ^ w.toNat) w = w := by
  show (if an w = false ∨ v % 2 ^ w.toNat < 0 ∨ af w < v % 2 ^ w.toNat then 0 else w) = w
  rw [if_neg]
  rintro (h1 | h1 | h1)
  ·rw [hw] at h1; cases h1
  ·have := hm.1; omega
  ·have := hm.2; omega
 have ho : kS 1 [] (v % 2 ^ w.toNat) w = true := by
  unfold kS
  rw [e, hw]
  rfl
 rw [if_pos ho, e]
theorem yS {s : Sg} {w : Int} {e : Ex} (h : e ∈ ca s w) : cz s.sc e = some w ∧ e.args = [] ∧ ce e = 1 := by
 unfold ca at h
 rw [List.mem_append] at h
 rcases h with h | h
 ·obtain ⟨i, h1, rfl, h2⟩ := ig _ h
  refine ⟨?_, rfl, rfl⟩
  unfold xK
  rw [cz, cz.tyL]
  simp only
  rw [if_pos trivial, if_pos ⟨by trivial, by simp, by show ((i : Nat) : Int) < (s.regs.length : Int); omega⟩]
  show some (s.regs.getD (i : Int).toNat 0) = some w
  rw [Int.toNat_natCast, h2]
 ·split at h
  ·rename_i hd
   obtain ⟨i, h1, rfl, h2⟩ := ig _ h
   refine ⟨?_, rfl, rfl⟩
   have ht : s.sc.tw = s.takes := by show (if s.data then s.takes else []) = s.takes; rw [if_pos hd]
   unfold yQ
   rw [cz, cz.tyL]
   simp only
   rw [if_neg (by decide), if_pos trivial, ht, if_pos ⟨by trivial, by simp, by omega⟩, Int.toNat_natCast, h2]
  ·cases h
theorem wQ {s : Sg} {w b : Int} (hw : an w = true) (hb : 0 ≤ b) : cz s.sc (aW s w b) = some w ∧ (aW s w b).args = [] ∧ ce (aW s w b) = 1 := by
 unfold aW
 split
 ·exact ⟨yR hw, rfl, rfl⟩
 ·rename_i hn
  simp only [not_or] at hn
  have h1 := Int.emod_lt_of_pos (b / 4) (show (0 : Int) < ((ca s w).length : Int) by omega)
  have h0 := Int.emod_nonneg (b / 4) (show ((ca s w).length : Int) ≠ 0 by omega)
  exact yS (eW (by omega))
theorem sr {l : List Mm} {w : Int} : ∀ {n k m : Nat}, kU l w n k = some m → k ≤ m ∧ m < k + n ∧ (l.getD m ai).w = w
 | 0, k, m, h => by cases h
 | n + 1, k, m, h => by
  rw [kU] at h
  split at h
  ·rename_i hw; cases h; exact ⟨by omega, by omega, hw⟩
  ·obtain ⟨h1, h2, h3⟩ := sr h; exact ⟨by omega, by omega, h3⟩
theorem uL {t : Nat → Int → Ex × Nat} : ∀ (ws : List Int) (i : Nat), (a8 t ws i).1.length = ws.length
 | [], i => rfl
 | w :: r, i => by rw [a8]; simp [uL r]
theorem wR {c : Sc} {t : Nat → Int → Ex × Nat} : ∀ (ws : List Int) (i : Nat), (∀ w ∈ ws, ∀ i, cz c (t i w).1 = some w) → cz.tyL c (a8 t ws i).1 = some ws
 | [], i, _ => rfl
 | w :: r, i, h => by
  rw [a8, cz.tyL, h w (by simp) i, wR r _ (fun w hw => h w (by simp [hw]))]
theorem uM {t : Nat → Int → Ex × Nat} {n : Nat} : ∀ (ws : List Int) (i : Nat), (∀ w ∈ ws, ∀ i, ce (t i w).1 ≤ n) → ce.depL (a8 t ws i).1 ≤ n
 | [], i, _ => by rw [a8, ce.depL]; exact Nat.zero_le _
 | w :: r, i, h => by
  rw [a8, ce.depL]
  have h1 := h w (by simp) i
  have h2 := uM r (t i w).2 (fun w hw => h w (by simp [hw]))
  omega
theorem qG {t : Nat → Int → Ex × Nat} {n : Nat} : ∀ (ws : List Int) (i : Nat), (∀ w ∈ ws, ∀ i, i ≤ (t i w).2 ∧ (t i w).2 ≤ i + n) → i ≤ (a8 t ws i).2 ∧ (a8 t ws i).2 ≤ i + n * ws.length
 | [], i, _ => ⟨Nat.le_refl _, Nat.le_add_right _ _⟩
 | w :: r, i, h => by
  rw [a8]
  have h1 := h w (by simp) i
  have h2 := qG r (t i w).2 (fun w hw => h w (by simp [hw]))
  have : n * (w :: r).length = n * r.length + n := by rw [List.length_cons, Nat.mul_succ]
  show i ≤ (a8 t r (t i w).2).2 ∧ (a8 t r (t i w).2).2 ≤ i + n * (w :: r).length
  omega
theorem xL {k : Int} (h : 4 ≤ k) (h2 : k < 14) : gd k = 2 ∨ gd k = 3 ∨ gd k = 4 ∨ gd k = 5 ∨ gd k = 6 ∨ gd k = 7 ∨ gd k = 10 ∨ gd k = 8 ∨ gd k = 9 ∨ gd k = 11 := by
 have : k = 4 ∨ k = 5 ∨ k = 6 ∨ k = 7 ∨ k = 8 ∨ k = 9 ∨ k = 10 ∨ k = 11 ∨ k = 12 ∨ k = 13 := by omega
 rcases this with rfl | rfl | rfl | rfl | rfl | rfl | rfl | rfl | rfl | rfl <;> decide
theorem u4 {op : Int} {w k v : Int} (hop : op = 3 ∨ op = 4 ∨ op = 5 ∨ op = 6 ∨ op = 7) (hw : an w = true) : kS op [w, w] k v = true ∧ bc op [w, w] k v = w := by
 have e : ∀ op, bc op [w, w] k v = w ∨ True := fun _ => .inr trivial
 have ha : bK [w, w] = w := by unfold bK; rw [if_neg (by simp)]; rfl
 have hv : bc op [w, w] k v = bK [w, w] := by rcases hop with rfl | rfl | rfl | rfl | rfl <;> rfl
 have hA : bo op = 2 := by rcases hop with rfl | rfl | rfl | rfl | rfl <;> decide
 refine ⟨?_, by rw [hv, ha]⟩
 unfold kS
 rw [hv, ha, hA]
 simp [hw]
theorem yT {y w : Int} (hk : 4 ≤ y % 14) (h0 : 0 ≤ y) (hw : 1 ≤ w) (hw8 : w ≤ 8) : kS (od y w) (gC y w) 0 0 = true ∧ bc (od y w) (gC y w) 0 0 = w ∧ (od y w ≠ 16 ∧ od y w ≠ 18 ∧ od y w ≠ 17) ∧ (∀ v ∈ gC y w, 1 ≤ v ∧ (v ≤ w ∨ v ≤ 3)) ∧ (gC y w).length ≤ 3 := by
 have hf : an w = true := aK.2 ⟨hw, hw8⟩
 have hc := xL hk (by omega)
 unfold od gC
 simp only
 have hn : (1 : Int) ≤ 1 + y / 14 % 3 ∧ 1 + y / 14 % 3 ≤ 3 := by omega
 generalize hv : 1 + y / 14 % 3 = v at *
 have hfv : an v = true := aK.2 ⟨hn.1, by omega⟩
 rcases hc with h | h | h | h | h | h | h | h | h | h <;> rw [h] <;> simp only [Int.reduceEq, false_or, or_false, false_and, if_false, true_and, if_true, or_true, true_or]
 ·refine ⟨?_, rfl, by decide, by simp; omega, by simp⟩
  show (decide (([w].length : Int) = bo 2) && [w].all an && an w) = true
  simp [hf]; decide
 ·exact ⟨(u4 (by simp) hf).1, (u4 (by simp) hf).2, by decide, by simp; omega, by simp⟩
 ·exact ⟨(u4 (by simp) hf).1, (u4 (by simp) hf).2, by decide, by simp; omega, by simp⟩
 ·exact ⟨(u4 (by simp) hf).1, (u4 (by simp) hf).2, by decide, by simp; omega, by simp⟩
 ·exact ⟨(u4 (by simp) hf).1, (u4 (by simp) hf).2, by decide, by simp; omega, by simp⟩
 ·exact ⟨(u4 (by simp) hf).1, (u4 (by simp) hf).2, by decide, by simp; omega, by simp⟩
 ·have e : bc 10 [1, w, w] 0 0 = w := by
   show (if (1 : Int) ≠ 1 ∨ w ≠ w then 0 else w) = w
   rw [if_neg (by simp)]
  refine ⟨?_, e, by decide, by simp; omega, by simp⟩
  unfold kS
  rw [e]
  simp [hf]; decide
 ·split
  ·exact ⟨(u4 (by simp) hf).1, (u4 (by simp) hf).2, by decide, by simp; omega, by simp⟩
  ·have hw1 : w = 1 := by omega
   subst hw1
   have ha : bK [v, v] = v := by unfold bK; rw [if_neg (by simp)]; rfl
   have e : bc 8 [v, v] 0 0 = 1 := by
    show min (bK [v, v]) 1 = 1
    rw [ha]; omega
   refine ⟨?_, e, by decide, by simp; omega, by simp⟩
   unfold kS
   rw [e]
   simp [hfv]; decide
 ·split
  ·exact ⟨(u4 (by simp) hf).1, (u4 (by simp) hf).2, by decide, by simp; omega, by simp⟩
  ·have hw1 : w = 1 := by omega
   subst hw1
   have ha : bK [v, v] = v := by unfold bK; rw [if_neg (by simp)]; rfl
   have e : bc 9 [v, v] 0 0 = 1 := by
    show min (bK [v, v]) 1 = 1
    rw [ha]; omega
   refine ⟨?_, e, by decide, by simp; omega, by simp⟩
   unfold kS
   rw [e]
   simp [hfv]; decide
 ·split
  ·exact ⟨(u4 (by simp) hf).1, (u4 (by simp) hf).2, by decide, by simp; omega, by simp⟩
  ·have e : bc 11 [w - 1, 1] 0 0 = w := by
    show (w - 1) + 1 = w
    omega
   have hf1 : an (w - 1) = true := aK.2 ⟨by omega, by omega⟩
   refine ⟨?_, e, by decide, by simp; omega, by simp⟩
   unfold kS
   rw [e]
   simp [hf, hf1]; decide
theorem lK {s : Sg} {b : List Int} (hb : pv b) : ∀ (d i : Nat) (w : Int), d ≤ 3 → 1 ≤ w → w + d ≤ 8 → cz s.sc (ab s b d i w).1 = some w ∧ ce (ab s b d i w).1 ≤ max d 1 ∧ i ≤ (ab s b d i w).2 ∧ (ab s b d i w).2 ≤ i + 4 ^ d := by
 intro d
 induction d with
 | zero =>
  intro i w h3 h1 h2
  have hy := bO hb i
  obtain ⟨q1, q2, q3⟩ := wQ (s := s) (w := w) (b := b.getD i 0 / 14) (aK.2 ⟨h1, by omega⟩) (by omega)
  rw [ab]
  exact ⟨q1, by show ce (aW s w (b.getD i 0 / 14)) ≤ 1; omega, by show i ≤ i + 1; omega, by show i + 1 ≤ i + 4 ^ 0; omega⟩
 | succ d ih =>
  intro i w h3 h1 h2
  have hy := bO hb i
  have hp : 1 ≤ 4 ^ d := Nat.one_le_pow _ _ (by omega)
  have hpow : 4 ^ (d + 1) = 4 * 4 ^ d := by rw [Nat.pow_succ]; omega
  rw [ab]
  split
  ·obtain ⟨q1, q2, q3⟩ := wQ (s := s) (w := w) (b := b.getD i 0 / 14) (aK.2 ⟨h1, by omega⟩) (by omega)
   exact ⟨q1, by show ce (aW s w (b.getD i 0 / 14)) ≤ _; omega, by show i ≤ i + 1; omega, by show i + 1 ≤ i + 4 ^ (d + 1); omega⟩
  ·rename_i hn
   simp only [not_or] at hn
   split
   ·generalize hz : b.getD i 0 / 14 = z
    have hz0 : 0 ≤ z := by omega
    unfold bh
    split
    ·rename_i m hm
     split at hm
     ·obtain ⟨e1, e2, e3⟩ := sr hm
      obtain ⟨q1, q2, q3, q4⟩ := ih (i + 1) (1 + z / 3 % 3) (by omega) (by omega) (by omega)
      refine ⟨?_, ?_, by simp only; omega, by simp only; omega⟩
      ·simp only
       rw [cz, cz.tyL, q1, cz.tyL]
       simp only
       rw [if_neg (by decide), if_neg (by decide), if_pos trivial]
       have hl : (s.sc.mw.length : Int) = s.mems.length := by show ((s.mems.map (·.w)).length : Int) = _; simp
       rw [if_pos ⟨rfl, by simp, by rw [hl]; show ((m : Nat) : Int) < _; omega⟩]
       show some ((s.mems.map (·.w)).getD (m : Int).toNat 0) = some w
       rw [Int.toNat_natCast, bz (·.w) s.mems m ai 0 (by omega), e3]
      ·rw [ce, ce.depL, ce.depL]; omega
     ·cases hm
    ·rename_i hm
     split
     ·rename_i hc
      obtain ⟨q1, q2, q3, q4⟩ := ih (i + 1) (w - 1) (by omega) (by omega) (by omega)
      refine ⟨?_, ?_, by simp only; omega, by simp only; omega⟩
      ·simp only
       rw [cz, cz.tyL, q1, cz.tyL]
       simp only
       rw [if_neg (by decide), if_neg (by decide), if_neg (by decide)]
       have e : bc 13 [w - 1] 0 w = w := by
        show (if w < w - 1 then 0 else w) = w
        rw [if_neg (by omega)]
       have ho : kS 13 [w - 1] 0 w = true := by
        unfold kS
        rw [e]
        have f1 : an w = true := aK.2 ⟨h1, by omega⟩
        have f2 : an (w - 1) = true := aK.2 ⟨by omega, by omega⟩
        simp [f1, f2]; decide
       rw [if_pos ho, e]
      ·rw [ce, ce.depL, ce.depL]; omega
     ·have hm2 : z / 3 % 2 = 0 ∨ z / 3 % 2 = 1 := by omega
      obtain ⟨q1, q2, q3, q4⟩ := ih (i + 1) (w + z / 3 % 2) (by omega) (by omega) (by omega)
      refine ⟨?_, ?_, by simp only; omega, by simp only; omega⟩
      ·simp only
       rw [cz, cz.tyL, q1, cz.tyL]
       simp only
       rw [if_neg (by decide), if_neg (by decide), if_neg (by decide)]
       have f1 : an w = true := aK.2 ⟨h1, by omega⟩
       have f2 : an (w + z / 3 % 2) = true := aK.2 ⟨by omega, by omega⟩
       have e : bc 12 [w + z / 3 % 2] (z / 3 % 2) w = w := by
        show (if an w = false ∨ z / 3 % 2 < 0 ∨ (w + z / 3 % 2) - w < z / 3 % 2 then 0 else w) = w
        rw [if_neg]
        rintro (hh | hh | hh)
        ·rw [f1] at hh; cases hh
        ·omega
        ·omega
       have ho : kS 12 [w + z / 3 % 2] (z / 3 % 2) w = true := by
        unfold kS
        rw [e]
        simp [f1, f2]; decide
       rw [if_pos ho, e]
      ·rw [ce, ce.depL, ce.depL]; omega
   ·obtain ⟨o1, o2, o3, o4, o5⟩ := yT (y := b.getD i 0) (w := w) (by omega) hy.1 h1 (by omega)
    have key : ∀ v ∈ gC (b.getD i 0) w, ∀ i, cz s.sc (ab s b d i v).1 = some v ∧ ce (ab s b d i v).1 ≤ max d 1 ∧ i ≤ (ab s b d i v).2 ∧ (ab s b d i v).2 ≤ i + 4 ^ d := by
     intro v hv j
     have := o4 v hv
     exact ih j v (by omega) this.1 (by omega)
    have hty := wR (c := s.sc) (t := ab s b d) (gC (b.getD i 0) w) (i + 1) (fun v hv j => (key v hv j).1)
    have hdp := uM (t := ab s b d) (n := max d 1) (gC (b.getD i 0) w) (i + 1) (fun v hv j => (key v hv j).2.1)
    have hps := qG (t := ab s b d) (n := 4 ^ d) (gC (b.getD i 0) w) (i + 1) (fun v hv j => (key v hv j).2.2)
    refine ⟨?_, ?_, by simp only; omega, ?_⟩
    ·rw [cz, hty]
     simp only
     rw [if_neg o3.1, if_neg o3.2.1, if_neg o3.2.2, if_pos o1, o2]
    ·rw [ce]; omega
    ·simp only
     have : 4 ^ d * (gC (b.getD i 0) w).length ≤ 4 ^ d * 3 := Nat.mul_le_mul_left _ o5
     omega
theorem yU {s : Sg} {w b : Int} (h : (ca s w).length = 0 ∨ b % 4 = 0) : aW s w b = cb (b / 4) w := if_pos h
theorem yV {s : Sg} {w b : Int} (h1 : ¬((ca s w).length : Int) = 0) (h2 : ¬b % 4 = 0) : aW s w b = (ca s w).getD (b / 4 % ((ca s w).length : Int)).toNat dE := if_neg (by rintro (h | h) <;> omega)
theorem ss (s : Sg) (w b : Int) : (aW s w b).args = [] := by
 unfold aW
 split
 ·rfl
 ·by_cases h : (b / 4 % ((ca s w).length : Int)).toNat < (ca s w).length
  ·exact (yS (eW h)).2.1
  ·rw [List.getD, List.getElem?_eq_none (by omega)]; rfl
theorem CL {s : Sg} {t : Nat → Int → Ex × Nat} {w b : Int} {i k : Nat} (h : b % 3 = 0) (hm : kU s.mems w s.mems.length 0 = some k) : bh s t w b i = (⟨17, e0, ⟨k, e0⟩, dN, [(t i (1 + b / 3 % 3)).1]⟩, (t i (1 + b / 3 % 3)).2) := by
 unfold bh; rw [if_pos h, hm]
theorem yW {s : Sg} {t : Nat → Int → Ex × Nat} {w b : Int} {i : Nat} (h : b % 3 = 1) (hw : w > 1) : bh s t w b i = (⟨13, e0, dN, ⟨w, e0⟩, [(t i (w - 1)).1]⟩, (t i (w - 1)).2) := by
 unfold bh; rw [if_neg (by omega)]; simp only; rw [if_pos ⟨h, hw⟩]
theorem yX {s : Sg} {t : Nat → Int → Ex × Nat} {w b : Int} {i : Nat} (hm : b % 3 = 0 → kU s.mems w s.mems.length 0 = none) (h : ¬(b % 3 = 1 ∧ w > 1)) : bh s t w b i = (⟨12, e0, ⟨b / 3 % 2, e0⟩, ⟨w, e0⟩, [(t i (w + b / 3 % 2)).1]⟩, (t i (w + b / 3 % 2)).2) := by
 unfold bh
 have e : (if b % 3 = 0 then kU s.mems w s.mems.length 0 else none) = none := by split; exact hm ‹_›; rfl
 rw [e]; simp only; rw [if_neg h]
theorem wS {l : List Mm} {w : Int} {k : Nat} (hk : k < l.length) (h : ¬(l.getD k ai).w = w) : kU l w (l.length - k) k = kU l w (l.length - (k + 1)) (k + 1) := by
 have e : l.length - k = (l.length - (k + 1)) + 1 := by omega
 rw [e, kU, if_neg h]
theorem yY {l : List Mm} {w : Int} {k : Nat} (hk : k < l.length) (h : (l.getD k ai).w = w) : kU l w (l.length - k) k = some k := by
 have e : l.length - k = (l.length - (k + 1)) + 1 := by omega
 rw [e, kU, if_pos h]
theorem qH {l : List Mm} {w : Int} {k : Nat} (hk : ¬k < l.length) : kU l w (l.length - k) k = none := by
 have e : l.length - k = 0 := by omega
 rw [e, kU]
theorem yZ {s : Sg} {b : List Int} {d i : Nat} {w : Int} (h : d ≤ 1) : ab s b d i w = (aW s w (b.getD i 0 / 14), i + 1) := by
 cases d with
 | zero => rfl
 | succ d => rw [ab]; rw [if_pos (.inl (by omega))]
theorem BA {s : Sg} {b : List Int} {d i : Nat} {w : Int} (h : b.getD i 0 % 14 < 2) : ab s b (d + 1 + 1) i w = (aW s w (b.getD i 0 / 14), i + 1) := by
 rw [ab]; rw [if_pos (.inr h)]
theorem y1 {s : Sg} {b : List Int} {d i : Nat} {w : Int} (h : b.getD i 0 % 14 = 2 ∨ b.getD i 0 % 14 = 3) : ab s b (d + 1 + 1) i w = bh s (ab s b (d + 1)) w (b.getD i 0 / 14) (i + 1) := by
 rw [ab]; rw [if_neg (by omega), if_pos h]
theorem vR {s : Sg} {b : List Int} {d i : Nat} {w : Int} (h : ¬b.getD i 0 % 14 < 2) (h2 : ¬b.getD i 0 % 14 = 2) (h3 : ¬b.getD i 0 % 14 = 3) : ab s b (d + 1 + 1) i w = (⟨od (b.getD i 0) w, e0, dN, dN, (a8 (ab s b (d + 1)) (gC (b.getD i 0) w) (i + 1)).1⟩, (a8 (ab s b (d + 1)) (gC (b.getD i 0) w) (i + 1)).2) := by
 rw [ab]; rw [if_neg (by omega), if_neg (by omega)]
theorem oe {t : Nat → Int → Ex × Nat} : ∀ (l : List Int) (i k : Nat), k < l.length → a8 t (l.take (k + 1)) i = ((a8 t (l.take k) i).1 ++ [(t (a8 t (l.take k) i).2 (l.getD k 0)).1], (t (a8 t (l.take k) i).2 (l.getD k 0)).2)
 | [], i, k, h => by cases h
 | w :: r, i, 0, h => by simp [a8]
 | w :: r, i, k + 1, h => by
  simp only [List.take_succ_cons, a8]
  rw [oe r _ k (by simpa using h)]
  simp
theorem BB {s : Sg} {b : List Int} (hb : pv b) {y w : Int} {d k : Nat} (i : Nat) (h1 : 1 ≤ w) (h2 : w + (d + 2 : Nat) ≤ 8) (h3 : d + 2 ≤ 3) (hy : 4 ≤ y % 14) (hy0 : 0 ≤ y) (hk : k < (gC y w).length) : 1 ≤ (gC y w).getD k 0 ∧ (gC y w).getD k 0 + (d + 1 : Nat) ≤ 8 ∧ i ≤ (a8 (ab s b (d + 1)) ((gC y w).take k) i).2 ∧ (a8 (ab s b (d + 1)) ((gC y w).take k) i).2 + 4 ^ (d + 1) + 1 ≤ i + 4 ^ (d + 2) := by
 obtain ⟨o1, o2, o3, o4, o5⟩ := yT hy hy0 h1 (by omega : w ≤ 8)
 have hm : (gC y w).getD k 0 ∈ gC y w := by
  rw [List.getD, List.getElem?_eq_getElem hk]; exact List.getElem_mem hk
 have hv := o4 _ hm
 have hps := qG (t := ab s b (d + 1)) (n := 4 ^ (d + 1)) ((gC y w).take k) i (fun v hv j => by
  have hh := o4 v (List.mem_of_mem_take hv)
  exact (lK hb (d + 1) j v (by omega) hh.1 (by omega)).2.2)
 have hl : ((gC y w).take k).length ≤ 2 := by rw [List.length_take]; omega
 have hq : 4 ^ (d + 1) * ((gC y w).take k).length ≤ 4 ^ (d + 1) * 2 := Nat.mul_le_mul_left _ hl
 have hp : 1 ≤ 4 ^ (d + 1) := Nat.one_le_pow _ _ (by omega)
 have hpow : 4 ^ (d + 2) = 4 * 4 ^ (d + 1) := by rw [Nat.pow_succ]; omega
 exact ⟨hv.1, by omega, hps.1, by omega⟩
def aY (s : Sg) (b : List Int) (i : Nat) : Ex × Nat := if b.getD i 0 % 3 = 0 then (cb 1 1, i + 1) else ab s b 2 (i + 1) 1
theorem jz {s : Sg} {b : List Int} (hb : pv b) (i : Nat) : i ≤ (aY s b i).2 ∧ (aY s b i).2 ≤ i + 17 ∧ cz s.sc (aY s b i).1 = some 1 ∧ ce (aY s b i).1 ≤ 2 := by
 have h := lK (s := s) hb 2 (i + 1) 1 (by omega) (by omega) (by omega)
 unfold aY
 split
 ·exact ⟨Nat.le_succ _, by simp only; omega, yR (by decide), (show ce (cb 1 1) ≤ 2 by decide)⟩
 ·exact ⟨by omega, by omega, h.1, by omega⟩
theorem DY {x : Int} {n : Nat} (h : ¬(n : Int) = 0) : IX (x % (n : Int)) (n : Int) := ⟨Int.emod_nonneg x h, Int.emod_lt_of_pos x (by omega)⟩
end Go.Proofs.Ytgfbfajaaaegjaa
