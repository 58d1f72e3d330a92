/-
  Made processes, plain law: expressions that bytes describe.
-/
import Derived.Test.YtgfbfajaaaegjaaQPrQ
namespace Go.Proofs.Ytgfbfajaaaegjaa
open Go.RowKit
set_option linter.unusedVariables false
set_option linter.unusedSimpArgs false
def lY (b : List Int) : Prop := ∀ x ∈ b, 0 ≤ x ∧ x ≤ 255
theorem b7 {b : List Int} (h : lY b) (i : Nat) : 0 ≤ b.getD i 0 ∧ b.getD i 0 ≤ 255 := by
 by_cases hi : i < b.length
 ·simp only [List.getD, List.getElem?_eq_getElem hi, Option.getD_some]
  exact h _ (List.getElem_mem hi)
 ·simp [List.getD, List.getElem?_eq_none (Nat.le_of_not_lt hi)]
structure Sg where
 regs : List Int
 takes : List Int
 mems : List Mm
 data : Bool
def Sg.sc (s : Sg) : Sc := ⟨s.regs, s.mems.map (·.w), if s.data then s.takes else []⟩
def cr (v w : Int) : Ex := ⟨1, e0, ⟨v % 2 ^ w.toNat, e0⟩, ⟨w, e0⟩, []⟩
def xD (i : Nat) : Ex := ⟨16, e0, ⟨i, e0⟩, dN, []⟩
def yQ (i : Nat) : Ex := ⟨18, e0, ⟨i, e0⟩, dN, []⟩
def ed (f : Nat → Ex) (w : Int) (l : List Int) : Nat → List Ex
 | 0 => []
 | k + 1 => ed f w l k ++ (if l.getD k 0 = w then [f k] else [])
def ct (s : Sg) (w : Int) : List Ex := ed xD w s.regs s.regs.length ++ (if s.data then ed yQ w s.takes s.takes.length else [])
def be (s : Sg) (w b : Int) : Ex := if (ct s w).length = 0 ∨ b % 4 = 0 then cr (b / 4) w else (ct s w).getD (b / 4 % (ct s w).length).toNat dE
def ln (l : List Mm) (w : Int) : Nat → Nat → Option Nat
 | 0, _ => none
 | n + 1, k => if (l.getD k aj).w = w then some k else ln l w n (k + 1)
def gI (k : Int) : Int := [2, 3, 4, 5, 6, 7, 10, 8, 9, 11].getD (k - 4).toNat 0
def oz (y w : Int) : Int := let o := gI (y % 14); if (o = 8 ∨ o = 9) ∧ w > 1 then 5 else if o = 11 ∧ w = 1 then 3 else o
def hE (y w : Int) : List Int := let o := gI (y % 14)
 if o = 2 then [w] else if o = 10 then [1, w, w] else if o = 8 ∨ o = 9 then (if w > 1 then [w, w] else [1 + y / 14 % 3, 1 + y / 14 % 3]) else if o = 11 then (if w = 1 then [w, w] else [w - 1, 1]) else [w, w]
def bq (t : Nat → Int → Ex × Nat) : List Int → Nat → List Ex × Nat
 | [], i => ([], i)
 | w :: r, i => ((t i w).1 :: (bq t r (t i w).2).1, (bq t r (t i w).2).2)
def bA (s : Sg) (t : Nat → Int → Ex × Nat) (w b : Int) (i : Nat) : Ex × Nat :=
 match (if b % 3 = 0 then ln s.mems w s.mems.length 0 else none) with
 | some m => let x := t i (1 + b / 3 % 3); (⟨17, e0, ⟨m, e0⟩, dN, [x.1]⟩, x.2)
 | none => if b % 3 = 1 ∧ w > 1 then let x := t i (w - 1); (⟨13, e0, dN, ⟨w, e0⟩, [x.1]⟩, x.2)
  else let x := t i (w + b / 3 % 2); (⟨12, e0, ⟨b / 3 % 2, e0⟩, ⟨w, e0⟩, [x.1]⟩, x.2)
def ab (s : Sg) (b : List Int) : Nat → Nat → Int → Ex × Nat
 | 0, i, w => (be s w (b.getD i 0 / 14), i + 1)
 | d + 1, i, w =>
  let y := b.getD i 0
  if d = 0 ∨ y % 14 < 2 then (be s w (y / 14), i + 1)
  else if y % 14 = 2 ∨ y % 14 = 3 then bA s (ab s b d) w (y / 14) (i + 1)
  else (⟨oz y w, e0, dN, dN, (bq (ab s b d) (hE y w) (i + 1)).1⟩, (bq (ab s b d) (hE y w) (i + 1)).2)
theorem wE {s : Sg} {w : Int} {acc : List Ex} {j : Nat} (h : acc = ed xD w s.regs s.regs.length ++ ed yQ w s.takes j) (h0 : s.data = false → j = 0) (h1 : s.data = true → j = s.takes.length) : acc = ct s w := by
 rw [h]; unfold ct
 cases hs : s.data
 ·rw [h0 hs]; simp [ed]
 ·rw [h1 hs]; simp
theorem kE {f : Nat → Ex} {w : Int} {l : List Int} {k : Nat} (h : l.getD k 0 = w) : ed f w l k ++ [f k] = ed f w l (k + 1) := by rw [ed, if_pos h]
theorem mY {f : Nat → Ex} {w : Int} {l : List Int} {k : Nat} (h : ¬l.getD k 0 = w) : ed f w l k = ed f w l (k + 1) := by rw [ed, if_neg h, List.append_nil]
theorem zX (s : Sg) (w : Int) : (ct s w).length ≤ s.regs.length + s.takes.length := by
 have key : ∀ (f : Nat → Ex) (l : List Int) (k : Nat), (ed f w l k).length ≤ k := by
  intro f l k
  induction k with
  | zero => simp [ed]
  | succ k ih => rw [ed]; simp only [List.length_append]; split <;> simp <;> omega
 unfold ct
 have h1 := key xD s.regs s.regs.length
 have h2 := key yQ s.takes s.takes.length
 rw [List.length_append]
 split
 ·omega
 ·simp; omega
theorem oA {f : Nat → Ex} {w : Int} {l : List Int} {e : Ex} : ∀ (k : Nat), e ∈ ed f w l k → ∃ i, i < k ∧ e = f i ∧ l.getD i 0 = w
 | 0, h => by cases h
 | k + 1, h => by
  rw [ed, List.mem_append] at h
  rcases h with h | h
  ·obtain ⟨i, h1, h2⟩ := oA k h; exact ⟨i, by omega, h2⟩
  ·split at h
   ·rename_i hw
    simp only [List.mem_singleton] at h
    exact ⟨k, by omega, h, hw⟩
   ·cases h
theorem yR {c : Sc} {v w : Int} (hw : aq w = true) : cU c (cr v w) = some w := by
 have h := aY.1 hw
 unfold cr
 rw [cU, cU.tyL]
 simp only
 rw [if_neg (by decide), if_neg (by decide), if_neg (by decide)]
 have hm := ge (x := v) (w := w) (by omega) (by omega)
 have e : bu 1 [] (v % 2 ^ w.toNat) w = w := by
  show (if aq w = false ∨ v % 2 ^ w.toNat < 0 ∨ af w < v % 2 ^ w.toNat then 0 else w) = w
  rw [if_neg]
  rintro (h1 | h1 | h1)
  ·rw [hw] at h1; cases h1
  ·have := hm.1; omega
  ·have := hm.2; omega
 have ho : ll 1 [] (v % 2 ^ w.toNat) w = true := by
  unfold ll
  rw [e, hw]
  rfl
 rw [if_pos ho, e]
theorem yS {s : Sg} {w : Int} {e : Ex} (h : e ∈ ct s w) : cU s.sc e = some w ∧ e.args = [] ∧ da e = 1 := by
 unfold ct at h
 rw [List.mem_append] at h
 rcases h with h | h
 ·obtain ⟨i, h1, rfl, h2⟩ := oA _ h
  refine ⟨?_, rfl, rfl⟩
  unfold xD
  rw [cU, cU.tyL]
  simp only
  rw [if_pos trivial, if_pos ⟨by trivial, by simp, by show ((i : Nat) : Int) < (s.regs.length : Int); omega⟩]
  show some (s.regs.getD (i : Int).toNat 0) = some w
  rw [Int.toNat_natCast, h2]
 ·split at h
  ·rename_i hd
   obtain ⟨i, h1, rfl, h2⟩ := oA _ h
   refine ⟨?_, rfl, rfl⟩
   have ht : s.sc.tw = s.takes := by show (if s.data then s.takes else []) = s.takes; rw [if_pos hd]
   unfold yQ
   rw [cU, cU.tyL]
   simp only
   rw [if_neg (by decide), if_pos trivial, ht, if_pos ⟨by trivial, by simp, by omega⟩, Int.toNat_natCast, h2]
  ·cases h
theorem wF {s : Sg} {w b : Int} (hw : aq w = true) (hb : 0 ≤ b) : cU s.sc (be s w b) = some w ∧ (be s w b).args = [] ∧ da (be s w b) = 1 := by
 unfold be
 split
 ·exact ⟨yR hw, rfl, rfl⟩
 ·rename_i hn
  simp only [not_or] at hn
  have h1 := Int.emod_lt_of_pos (b / 4) (show (0 : Int) < ((ct s w).length : Int) by omega)
  have h0 := Int.emod_nonneg (b / 4) (show ((ct s w).length : Int) ≠ 0 by omega)
  exact yS (gk (by omega))
theorem sv {l : List Mm} {w : Int} : ∀ {n k m : Nat}, ln l w n k = some m → k ≤ m ∧ m < k + n ∧ (l.getD m aj).w = w
 | 0, k, m, h => by cases h
 | n + 1, k, m, h => by
  rw [ln] at h
  split at h
  ·rename_i hw; cases h; exact ⟨by omega, by omega, hw⟩
  ·obtain ⟨h1, h2, h3⟩ := sv h; exact ⟨by omega, by omega, h3⟩
theorem uB {t : Nat → Int → Ex × Nat} : ∀ (ws : List Int) (i : Nat), (bq t ws i).1.length = ws.length
 | [], i => rfl
 | w :: r, i => by rw [bq]; simp [uB r]
theorem wG {c : Sc} {t : Nat → Int → Ex × Nat} : ∀ (ws : List Int) (i : Nat), (∀ w ∈ ws, ∀ i, cU c (t i w).1 = some w) → cU.tyL c (bq t ws i).1 = some ws
 | [], i, _ => rfl
 | w :: r, i, h => by
  rw [bq, cU.tyL, h w (by simp) i, wG r _ (fun w hw => h w (by simp [hw]))]
theorem uC {t : Nat → Int → Ex × Nat} {n : Nat} : ∀ (ws : List Int) (i : Nat), (∀ w ∈ ws, ∀ i, da (t i w).1 ≤ n) → da.depL (bq t ws i).1 ≤ n
 | [], i, _ => by rw [bq, da.depL]; exact Nat.zero_le _
 | w :: r, i, h => by
  rw [bq, da.depL]
  have h1 := h w (by simp) i
  have h2 := uC r (t i w).2 (fun w hw => h w (by simp [hw]))
  omega
theorem qJ {t : Nat → Int → Ex × Nat} {n : Nat} : ∀ (ws : List Int) (i : Nat), (∀ w ∈ ws, ∀ i, i ≤ (t i w).2 ∧ (t i w).2 ≤ i + n) → i ≤ (bq t ws i).2 ∧ (bq t ws i).2 ≤ i + n * ws.length
 | [], i, _ => ⟨Nat.le_refl _, Nat.le_add_right _ _⟩
 | w :: r, i, h => by
  rw [bq]
  have h1 := h w (by simp) i
  have h2 := qJ r (t i w).2 (fun w hw => h w (by simp [hw]))
  have : n * (w :: r).length = n * r.length + n := by rw [List.length_cons, Nat.mul_succ]
  show i ≤ (bq t r (t i w).2).2 ∧ (bq t r (t i w).2).2 ≤ i + n * (w :: r).length
  omega
theorem xE {k : Int} (h : 4 ≤ k) (h2 : k < 14) : gI k = 2 ∨ gI k = 3 ∨ gI k = 4 ∨ gI k = 5 ∨ gI k = 6 ∨ gI k = 7 ∨ gI k = 10 ∨ gI k = 8 ∨ gI k = 9 ∨ gI k = 11 := by
 have : k = 4 ∨ k = 5 ∨ k = 6 ∨ k = 7 ∨ k = 8 ∨ k = 9 ∨ k = 10 ∨ k = 11 ∨ k = 12 ∨ k = 13 := by omega
 rcases this with rfl | rfl | rfl | rfl | rfl | rfl | rfl | rfl | rfl | rfl <;> decide
theorem uM {op : Int} {w k v : Int} (hop : op = 3 ∨ op = 4 ∨ op = 5 ∨ op = 6 ∨ op = 7) (hw : aq w = true) : ll op [w, w] k v = true ∧ bu op [w, w] k v = w := by
 have e : ∀ op, bu op [w, w] k v = w ∨ True := fun _ => .inr trivial
 have ha : b4 [w, w] = w := by unfold b4; rw [if_neg (by simp)]; rfl
 have hv : bu op [w, w] k v = b4 [w, w] := by rcases hop with rfl | rfl | rfl | rfl | rfl <;> rfl
 have hA : bH op = 2 := by rcases hop with rfl | rfl | rfl | rfl | rfl <;> decide
 refine ⟨?_, by rw [hv, ha]⟩
 unfold ll
 rw [hv, ha, hA]
 simp [hw]
theorem yT {y w : Int} (hk : 4 ≤ y % 14) (h0 : 0 ≤ y) (hw : 1 ≤ w) (hw8 : w ≤ 8) : ll (oz y w) (hE y w) 0 0 = true ∧ bu (oz y w) (hE y w) 0 0 = w ∧ (oz y w ≠ 16 ∧ oz y w ≠ 18 ∧ oz y w ≠ 17) ∧ (∀ v ∈ hE y w, 1 ≤ v ∧ (v ≤ w ∨ v ≤ 3)) ∧ (hE y w).length ≤ 3 := by
 have hf : aq w = true := aY.2 ⟨hw, hw8⟩
 have hc := xE hk (by omega)
 unfold oz hE
 simp only
 have hn : (1 : Int) ≤ 1 + y / 14 % 3 ∧ 1 + y / 14 % 3 ≤ 3 := by omega
 generalize hv : 1 + y / 14 % 3 = v at *
 have hfv : aq v = true := aY.2 ⟨hn.1, by omega⟩
 rcases hc with h | h | h | h | h | h | h | h | h | h <;> rw [h] <;> simp only [Int.reduceEq, false_or, or_false, false_and, if_false, true_and, if_true, or_true, true_or]
 ·refine ⟨?_, rfl, by decide, by simp; omega, by simp⟩
  show (decide (([w].length : Int) = bH 2) && [w].all aq && aq w) = true
  simp [hf]; decide
 ·exact ⟨(uM (by simp) hf).1, (uM (by simp) hf).2, by decide, by simp; omega, by simp⟩
 ·exact ⟨(uM (by simp) hf).1, (uM (by simp) hf).2, by decide, by simp; omega, by simp⟩
 ·exact ⟨(uM (by simp) hf).1, (uM (by simp) hf).2, by decide, by simp; omega, by simp⟩
 ·exact ⟨(uM (by simp) hf).1, (uM (by simp) hf).2, by decide, by simp; omega, by simp⟩
 ·exact ⟨(uM (by simp) hf).1, (uM (by simp) hf).2, by decide, by simp; omega, by simp⟩
 ·have e : bu 10 [1, w, w] 0 0 = w := by
   show (if (1 : Int) ≠ 1 ∨ w ≠ w then 0 else w) = w
   rw [if_neg (by simp)]
  refine ⟨?_, e, by decide, by simp; omega, by simp⟩
  unfold ll
  rw [e]
  simp [hf]; decide
 ·split
  ·exact ⟨(uM (by simp) hf).1, (uM (by simp) hf).2, by decide, by simp; omega, by simp⟩
  ·have hw1 : w = 1 := by omega
   subst hw1
   have ha : b4 [v, v] = v := by unfold b4; rw [if_neg (by simp)]; rfl
   have e : bu 8 [v, v] 0 0 = 1 := by
    show min (b4 [v, v]) 1 = 1
    rw [ha]; omega
   refine ⟨?_, e, by decide, by simp; omega, by simp⟩
   unfold ll
   rw [e]
   simp [hfv]; decide
 ·split
  ·exact ⟨(uM (by simp) hf).1, (uM (by simp) hf).2, by decide, by simp; omega, by simp⟩
  ·have hw1 : w = 1 := by omega
   subst hw1
   have ha : b4 [v, v] = v := by unfold b4; rw [if_neg (by simp)]; rfl
   have e : bu 9 [v, v] 0 0 = 1 := by
    show min (b4 [v, v]) 1 = 1
    rw [ha]; omega
   refine ⟨?_, e, by decide, by simp; omega, by simp⟩
   unfold ll
   rw [e]
   simp [hfv]; decide
 ·split
  ·exact ⟨(uM (by simp) hf).1, (uM (by simp) hf).2, by decide, by simp; omega, by simp⟩
  ·have e : bu 11 [w - 1, 1] 0 0 = w := by
    show (w - 1) + 1 = w
    omega
   have hf1 : aq (w - 1) = true := aY.2 ⟨by omega, by omega⟩
   refine ⟨?_, e, by decide, by simp; omega, by simp⟩
   unfold ll
   rw [e]
   simp [hf, hf1]; decide
theorem lZ {s : Sg} {b : List Int} (hb : lY b) : ∀ (d i : Nat) (w : Int), d ≤ 3 → 1 ≤ w → w + d ≤ 8 → cU s.sc (ab s b d i w).1 = some w ∧ da (ab s b d i w).1 ≤ max d 1 ∧ i ≤ (ab s b d i w).2 ∧ (ab s b d i w).2 ≤ i + 4 ^ d := by
 intro d
 induction d with
 | zero =>
  intro i w h3 h1 h2
  have hy := b7 hb i
  obtain ⟨q1, q2, q3⟩ := wF (s := s) (w := w) (b := b.getD i 0 / 14) (aY.2 ⟨h1, by omega⟩) (by omega)
  rw [ab]
  exact ⟨q1, by show da (be s w (b.getD i 0 / 14)) ≤ 1; omega, by show i ≤ i + 1; omega, by show i + 1 ≤ i + 4 ^ 0; omega⟩
 | succ d ih =>
  intro i w h3 h1 h2
  have hy := b7 hb i
  have hp : 1 ≤ 4 ^ d := Nat.one_le_pow _ _ (by omega)
  have hpow : 4 ^ (d + 1) = 4 * 4 ^ d := by rw [Nat.pow_succ]; omega
  rw [ab]
  split
  ·obtain ⟨q1, q2, q3⟩ := wF (s := s) (w := w) (b := b.getD i 0 / 14) (aY.2 ⟨h1, by omega⟩) (by omega)
   exact ⟨q1, by show da (be s w (b.getD i 0 / 14)) ≤ _; omega, by show i ≤ i + 1; omega, by show i + 1 ≤ i + 4 ^ (d + 1); omega⟩
  ·rename_i hn
   simp only [not_or] at hn
   split
   ·generalize hz : b.getD i 0 / 14 = z
    have hz0 : 0 ≤ z := by omega
    unfold bA
    split
    ·rename_i m hm
     split at hm
     ·obtain ⟨e1, e2, e3⟩ := sv hm
      obtain ⟨q1, q2, q3, q4⟩ := ih (i + 1) (1 + z / 3 % 3) (by omega) (by omega) (by omega)
      refine ⟨?_, ?_, by simp only; omega, by simp only; omega⟩
      ·simp only
       rw [cU, cU.tyL, q1, cU.tyL]
       simp only
       rw [if_neg (by decide), if_neg (by decide), if_pos trivial]
       have hl : (s.sc.mw.length : Int) = s.mems.length := by show ((s.mems.map (·.w)).length : Int) = _; simp
       rw [if_pos ⟨rfl, by simp, by rw [hl]; show ((m : Nat) : Int) < _; omega⟩]
       show some ((s.mems.map (·.w)).getD (m : Int).toNat 0) = some w
       rw [Int.toNat_natCast, b9 (·.w) s.mems m aj 0 (by omega), e3]
      ·rw [da, da.depL, da.depL]; omega
     ·cases hm
    ·rename_i hm
     split
     ·rename_i hc
      obtain ⟨q1, q2, q3, q4⟩ := ih (i + 1) (w - 1) (by omega) (by omega) (by omega)
      refine ⟨?_, ?_, by simp only; omega, by simp only; omega⟩
      ·simp only
       rw [cU, cU.tyL, q1, cU.tyL]
       simp only
       rw [if_neg (by decide), if_neg (by decide), if_neg (by decide)]
       have e : bu 13 [w - 1] 0 w = w := by
        show (if w < w - 1 then 0 else w) = w
        rw [if_neg (by omega)]
       have ho : ll 13 [w - 1] 0 w = true := by
        unfold ll
        rw [e]
        have f1 : aq w = true := aY.2 ⟨h1, by omega⟩
        have f2 : aq (w - 1) = true := aY.2 ⟨by omega, by omega⟩
        simp [f1, f2]; decide
       rw [if_pos ho, e]
      ·rw [da, da.depL, da.depL]; omega
     ·have hm2 : z / 3 % 2 = 0 ∨ z / 3 % 2 = 1 := by omega
      obtain ⟨q1, q2, q3, q4⟩ := ih (i + 1) (w + z / 3 % 2) (by omega) (by omega) (by omega)
      refine ⟨?_, ?_, by simp only; omega, by simp only; omega⟩
      ·simp only
       rw [cU, cU.tyL, q1, cU.tyL]
       simp only
       rw [if_neg (by decide), if_neg (by decide), if_neg (by decide)]
       have f1 : aq w = true := aY.2 ⟨h1, by omega⟩
       have f2 : aq (w + z / 3 % 2) = true := aY.2 ⟨by omega, by omega⟩
       have e : bu 12 [w + z / 3 % 2] (z / 3 % 2) w = w := by
        show (if aq w = false ∨ z / 3 % 2 < 0 ∨ (w + z / 3 % 2) - w < z / 3 % 2 then 0 else w) = w
        rw [if_neg]
        rintro (hh | hh | hh)
        ·rw [f1] at hh; cases hh
        ·omega
        ·omega
       have ho : ll 12 [w + z / 3 % 2] (z / 3 % 2) w = true := by
        unfold ll
        rw [e]
        simp [f1, f2]; decide
       rw [if_pos ho, e]
      ·rw [da, da.depL, da.depL]; omega
   ·obtain ⟨o1, o2, o3, o4, o5⟩ := yT (y := b.getD i 0) (w := w) (by omega) hy.1 h1 (by omega)
    have key : ∀ v ∈ hE (b.getD i 0) w, ∀ i, cU s.sc (ab s b d i v).1 = some v ∧ da (ab s b d i v).1 ≤ max d 1 ∧ i ≤ (ab s b d i v).2 ∧ (ab s b d i v).2 ≤ i + 4 ^ d := by
     intro v hv j
     have := o4 v hv
     exact ih j v (by omega) this.1 (by omega)
    have hty := wG (c := s.sc) (t := ab s b d) (hE (b.getD i 0) w) (i + 1) (fun v hv j => (key v hv j).1)
    have hdp := uC (t := ab s b d) (n := max d 1) (hE (b.getD i 0) w) (i + 1) (fun v hv j => (key v hv j).2.1)
    have hps := qJ (t := ab s b d) (n := 4 ^ d) (hE (b.getD i 0) w) (i + 1) (fun v hv j => (key v hv j).2.2)
    refine ⟨?_, ?_, by simp only; omega, ?_⟩
    ·rw [cU, hty]
     simp only
     rw [if_neg o3.1, if_neg o3.2.1, if_neg o3.2.2, if_pos o1, o2]
    ·rw [da]; omega
    ·simp only
     have : 4 ^ d * (hE (b.getD i 0) w).length ≤ 4 ^ d * 3 := Nat.mul_le_mul_left _ o5
     omega
theorem yU {s : Sg} {w b : Int} (h : (ct s w).length = 0 ∨ b % 4 = 0) : be s w b = cr (b / 4) w := if_pos h
theorem yV {s : Sg} {w b : Int} (h1 : ¬((ct s w).length : Int) = 0) (h2 : ¬b % 4 = 0) : be s w b = (ct s w).getD (b / 4 % ((ct s w).length : Int)).toNat dE := if_neg (by rintro (h | h) <;> omega)
theorem sw (s : Sg) (w b : Int) : (be s w b).args = [] := by
 unfold be
 split
 ·rfl
 ·by_cases h : (b / 4 % ((ct s w).length : Int)).toNat < (ct s w).length
  ·exact (yS (gk h)).2.1
  ·rw [List.getD, List.getElem?_eq_none (by omega)]; rfl
theorem Cj {s : Sg} {t : Nat → Int → Ex × Nat} {w b : Int} {i k : Nat} (h : b % 3 = 0) (hm : ln s.mems w s.mems.length 0 = some k) : bA s t w b i = (⟨17, e0, ⟨k, e0⟩, dN, [(t i (1 + b / 3 % 3)).1]⟩, (t i (1 + b / 3 % 3)).2) := by
 unfold bA; rw [if_pos h, hm]
theorem yW {s : Sg} {t : Nat → Int → Ex × Nat} {w b : Int} {i : Nat} (h : b % 3 = 1) (hw : w > 1) : bA s t w b i = (⟨13, e0, dN, ⟨w, e0⟩, [(t i (w - 1)).1]⟩, (t i (w - 1)).2) := by
 unfold bA; rw [if_neg (by omega)]; simp only; rw [if_pos ⟨h, hw⟩]
theorem yX {s : Sg} {t : Nat → Int → Ex × Nat} {w b : Int} {i : Nat} (hm : b % 3 = 0 → ln s.mems w s.mems.length 0 = none) (h : ¬(b % 3 = 1 ∧ w > 1)) : bA s t w b i = (⟨12, e0, ⟨b / 3 % 2, e0⟩, ⟨w, e0⟩, [(t i (w + b / 3 % 2)).1]⟩, (t i (w + b / 3 % 2)).2) := by
 unfold bA
 have e : (if b % 3 = 0 then ln s.mems w s.mems.length 0 else none) = none := by split; exact hm ‹_›; rfl
 rw [e]; simp only; rw [if_neg h]
theorem wH {l : List Mm} {w : Int} {k : Nat} (hk : k < l.length) (h : ¬(l.getD k aj).w = w) : ln l w (l.length - k) k = ln l w (l.length - (k + 1)) (k + 1) := by
 have e : l.length - k = (l.length - (k + 1)) + 1 := by omega
 rw [e, ln, if_neg h]
theorem yY {l : List Mm} {w : Int} {k : Nat} (hk : k < l.length) (h : (l.getD k aj).w = w) : ln l w (l.length - k) k = some k := by
 have e : l.length - k = (l.length - (k + 1)) + 1 := by omega
 rw [e, ln, if_pos h]
theorem qK {l : List Mm} {w : Int} {k : Nat} (hk : ¬k < l.length) : ln l w (l.length - k) k = none := by
 have e : l.length - k = 0 := by omega
 rw [e, ln]
theorem yZ {s : Sg} {b : List Int} {d i : Nat} {w : Int} (h : d ≤ 1) : ab s b d i w = (be s w (b.getD i 0 / 14), i + 1) := by
 cases d with
 | zero => rfl
 | succ d => rw [ab]; rw [if_pos (.inl (by omega))]
theorem Bj {s : Sg} {b : List Int} {d i : Nat} {w : Int} (h : b.getD i 0 % 14 < 2) : ab s b (d + 1 + 1) i w = (be s w (b.getD i 0 / 14), i + 1) := by
 rw [ab]; rw [if_pos (.inr h)]
theorem y1 {s : Sg} {b : List Int} {d i : Nat} {w : Int} (h : b.getD i 0 % 14 = 2 ∨ b.getD i 0 % 14 = 3) : ab s b (d + 1 + 1) i w = bA s (ab s b (d + 1)) w (b.getD i 0 / 14) (i + 1) := by
 rw [ab]; rw [if_neg (by omega), if_pos h]
theorem vD {s : Sg} {b : List Int} {d i : Nat} {w : Int} (h : ¬b.getD i 0 % 14 < 2) (h2 : ¬b.getD i 0 % 14 = 2) (h3 : ¬b.getD i 0 % 14 = 3) : ab s b (d + 1 + 1) i w = (⟨oz (b.getD i 0) w, e0, dN, dN, (bq (ab s b (d + 1)) (hE (b.getD i 0) w) (i + 1)).1⟩, (bq (ab s b (d + 1)) (hE (b.getD i 0) w) (i + 1)).2) := by
 rw [ab]; rw [if_neg (by omega), if_neg (by omega)]
theorem oB {t : Nat → Int → Ex × Nat} : ∀ (l : List Int) (i k : Nat), k < l.length → bq t (l.take (k + 1)) i = ((bq t (l.take k) i).1 ++ [(t (bq t (l.take k) i).2 (l.getD k 0)).1], (t (bq t (l.take k) i).2 (l.getD k 0)).2)
 | [], i, k, h => by cases h
 | w :: r, i, 0, h => by simp [bq]
 | w :: r, i, k + 1, h => by
  simp only [List.take_succ_cons, bq]
  rw [oB r _ k (by simpa using h)]
  simp
theorem Bk {s : Sg} {b : List Int} (hb : lY b) {y w : Int} {d k : Nat} (i : Nat) (h1 : 1 ≤ w) (h2 : w + (d + 2 : Nat) ≤ 8) (h3 : d + 2 ≤ 3) (hy : 4 ≤ y % 14) (hy0 : 0 ≤ y) (hk : k < (hE y w).length) : 1 ≤ (hE y w).getD k 0 ∧ (hE y w).getD k 0 + (d + 1 : Nat) ≤ 8 ∧ i ≤ (bq (ab s b (d + 1)) ((hE y w).take k) i).2 ∧ (bq (ab s b (d + 1)) ((hE y w).take k) i).2 + 4 ^ (d + 1) + 1 ≤ i + 4 ^ (d + 2) := by
 obtain ⟨o1, o2, o3, o4, o5⟩ := yT hy hy0 h1 (by omega : w ≤ 8)
 have hm : (hE y w).getD k 0 ∈ hE y w := by
  rw [List.getD, List.getElem?_eq_getElem hk]; exact List.getElem_mem hk
 have hv := o4 _ hm
 have hps := qJ (t := ab s b (d + 1)) (n := 4 ^ (d + 1)) ((hE y w).take k) i (fun v hv j => by
  have hh := o4 v (List.mem_of_mem_take hv)
  exact (lZ hb (d + 1) j v (by omega) hh.1 (by omega)).2.2)
 have hl : ((hE y w).take k).length ≤ 2 := by rw [List.length_take]; omega
 have hq : 4 ^ (d + 1) * ((hE y w).take k).length ≤ 4 ^ (d + 1) * 2 := Nat.mul_le_mul_left _ hl
 have hp : 1 ≤ 4 ^ (d + 1) := Nat.one_le_pow _ _ (by omega)
 have hpow : 4 ^ (d + 2) = 4 * 4 ^ (d + 1) := by rw [Nat.pow_succ]; omega
 exact ⟨hv.1, by omega, hps.1, by omega⟩
def bc (s : Sg) (b : List Int) (i : Nat) : Ex × Nat := if b.getD i 0 % 3 = 0 then (cr 1 1, i + 1) else ab s b 2 (i + 1) 1
theorem jW {s : Sg} {b : List Int} (hb : lY b) (i : Nat) : i ≤ (bc s b i).2 ∧ (bc s b i).2 ≤ i + 17 ∧ cU s.sc (bc s b i).1 = some 1 ∧ da (bc s b i).1 ≤ 2 := by
 have h := lZ (s := s) hb 2 (i + 1) 1 (by omega) (by omega) (by omega)
 unfold bc
 split
 ·exact ⟨Nat.le_succ _, by simp only; omega, yR (by decide), (show da (cr 1 1) ≤ 2 by decide)⟩
 ·exact ⟨by omega, by omega, h.1, by omega⟩
theorem DB {x : Int} {n : Nat} (h : ¬(n : Int) = 0) : IX (x % (n : Int)) (n : Int) := ⟨Int.emod_nonneg x h, Int.emod_lt_of_pos x (by omega)⟩
end Go.Proofs.Ytgfbfajaaaegjaa
