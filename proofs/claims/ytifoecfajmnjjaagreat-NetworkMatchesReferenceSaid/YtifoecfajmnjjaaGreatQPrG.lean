/-
  Made processes, plain law: expressions that bytes describe.
-/
import Derived.Test.YtifoecfajmnjjaaGreatQPrQ
namespace Go.Proofs.YtifoecfajmnjjaaGreat
open Go.RowKit
set_option linter.unusedVariables false
set_option linter.unusedSimpArgs false
def lF (b : List Int) : Prop := ∀ x ∈ b, 0 ≤ x ∧ x ≤ 255
theorem eC {b : List Int} (h : lF b) (i : Nat) : 0 ≤ b.getD i 0 ∧ b.getD i 0 ≤ 255 := by
 by_cases hi : i < b.length
 ·simp only [List.getD, List.getElem?_eq_getElem hi, Option.getD_some]
  exact h _ (List.getElem_mem hi)
 ·simp [List.getD, List.getElem?_eq_none (Nat.le_of_not_lt hi)]
structure Sg where
 regs : List Int
 takes : List Int
 mems : List Mm
 data : Bool
def Sg.sc (s : Sg) : Sc := ⟨s.regs, s.mems.map (·.w), if s.data then s.takes else []⟩
def eD (v w : Int) : Ex := ⟨1, e0, ⟨v % 2 ^ w.toNat, e0⟩, ⟨w, e0⟩, []⟩
def Cq (i : Nat) : Ex := ⟨16, e0, ⟨i, e0⟩, dN, []⟩
def Ei (i : Nat) : Ex := ⟨18, e0, ⟨i, e0⟩, dN, []⟩
def eM (f : Nat → Ex) (w : Int) (l : List Int) : Nat → List Ex
 | 0 => []
 | k + 1 => eM f w l k ++ (if l.getD k 0 = w then [f k] else [])
def cQ (s : Sg) (w : Int) : List Ex := eM Cq w s.regs s.regs.length ++ (if s.data then eM Ei w s.takes s.takes.length else [])
def bj (s : Sg) (w b : Int) : Ex := if (cQ s w).length = 0 ∨ b % 4 = 0 then eD (b / 4) w else (cQ s w).getD (b / 4 % (cQ s w).length).toNat dE
def nc (l : List Mm) (w : Int) : Nat → Nat → Option Nat
 | 0, _ => none
 | n + 1, k => if (l.getD k aP).w = w then some k else nc l w n (k + 1)
def iu (k : Int) : Int := [2, 3, 4, 5, 6, 7, 10, 8, 9, 11].getD (k - 4).toNat 0
def qN (y w : Int) : Int := let o := iu (y % 14); if (o = 8 ∨ o = 9) ∧ w > 1 then 5 else if o = 11 ∧ w = 1 then 3 else o
def jb (y w : Int) : List Int := let o := iu (y % 14)
 if o = 2 then [w] else if o = 10 then [1, w, w] else if o = 8 ∨ o = 9 then (if w > 1 then [w, w] else [1 + y / 14 % 3, 1 + y / 14 % 3]) else if o = 11 then (if w = 1 then [w, w] else [w - 1, 1]) else [w, w]
def bB (t : Nat → Int → Ex × Nat) : List Int → Nat → List Ex × Nat
 | [], i => ([], i)
 | w :: r, i => ((t i w).1 :: (bB t r (t i w).2).1, (bB t r (t i w).2).2)
def bG (s : Sg) (t : Nat → Int → Ex × Nat) (w b : Int) (i : Nat) : Ex × Nat :=
 match (if b % 3 = 0 then nc s.mems w s.mems.length 0 else none) with
 | some m => let x := t i (1 + b / 3 % 3); (⟨17, e0, ⟨m, e0⟩, dN, [x.1]⟩, x.2)
 | none => if b % 3 = 1 ∧ w > 1 then let x := t i (w - 1); (⟨13, e0, dN, ⟨w, e0⟩, [x.1]⟩, x.2)
  else let x := t i (w + b / 3 % 2); (⟨12, e0, ⟨b / 3 % 2, e0⟩, ⟨w, e0⟩, [x.1]⟩, x.2)
def an (s : Sg) (b : List Int) : Nat → Nat → Int → Ex × Nat
 | 0, i, w => (bj s w (b.getD i 0 / 14), i + 1)
 | d + 1, i, w =>
  let y := b.getD i 0
  if d = 0 ∨ y % 14 < 2 then (bj s w (y / 14), i + 1)
  else if y % 14 = 2 ∨ y % 14 = 3 then bG s (an s b d) w (y / 14) (i + 1)
  else (⟨qN y w, e0, dN, dN, (bB (an s b d) (jb y w) (i + 1)).1⟩, (bB (an s b d) (jb y w) (i + 1)).2)
theorem A9 {s : Sg} {w : Int} {acc : List Ex} {j : Nat} (h : acc = eM Cq w s.regs s.regs.length ++ eM Ei w s.takes j) (h0 : s.data = false → j = 0) (h1 : s.data = true → j = s.takes.length) : acc = cQ s w := by
 rw [h]; unfold cQ
 cases hs : s.data
 ·rw [h0 hs]; simp [eM]
 ·rw [h1 hs]; simp
theorem mi {f : Nat → Ex} {w : Int} {l : List Int} {k : Nat} (h : l.getD k 0 = w) : eM f w l k ++ [f k] = eM f w l (k + 1) := by rw [eM, if_pos h]
theorem py {f : Nat → Ex} {w : Int} {l : List Int} {k : Nat} (h : ¬l.getD k 0 = w) : eM f w l k = eM f w l (k + 1) := by rw [eM, if_neg h, List.append_nil]
theorem F3 (s : Sg) (w : Int) : (cQ s w).length ≤ s.regs.length + s.takes.length := by
 have key : ∀ (f : Nat → Ex) (l : List Int) (k : Nat), (eM f w l k).length ≤ k := by
  intro f l k
  induction k with
  | zero => simp [eM]
  | succ k ih => rw [eM]; simp only [List.length_append]; split <;> simp <;> omega
 unfold cQ
 have h1 := key Cq s.regs s.regs.length
 have h2 := key Ei s.takes s.takes.length
 rw [List.length_append]
 split
 ·omega
 ·simp; omega
theorem qO {f : Nat → Ex} {w : Int} {l : List Int} {e : Ex} : ∀ (k : Nat), e ∈ eM f w l k → ∃ i, i < k ∧ e = f i ∧ l.getD i 0 = w
 | 0, h => by cases h
 | k + 1, h => by
  rw [eM, List.mem_append] at h
  rcases h with h | h
  ·obtain ⟨i, h1, h2⟩ := qO k h; exact ⟨i, by omega, h2⟩
  ·split at h
   ·rename_i hw
    simp only [List.mem_singleton] at h
    exact ⟨k, by omega, h, hw⟩
   ·cases h
theorem HA {c : Sc} {v w : Int} (hw : au w = true) : eK c (eD v w) = some w := by
 have h := aW.1 hw
 unfold eD
 rw [eK, eK.tyL]
 simp only
 rw [if_neg (by decide), if_neg (by decide), if_neg (by decide)]
 have hm := r9 (x := v) (w := w) (by omega) (by omega)
 have e : bi 1 [] (v % 2 ^ w.toNat) w = w := by
  show (if au w = false ∨ v % 2 ^ w.toNat < 0 ∨ aj w < v % 2 ^ w.toNat then 0 else w) = w
  rw [if_neg]
  rintro (h1 | h1 | h1)
  ·rw [hw] at h1; cases h1
  ·have := hm.1; omega
  ·have := hm.2; omega
 have ho : gi 1 [] (v % 2 ^ w.toNat) w = true := by
  unfold gi
  rw [e, hw]
  rfl
 rw [if_pos ho, e]
theorem Ej {s : Sg} {w : Int} {e : Ex} (h : e ∈ cQ s w) : eK s.sc e = some w ∧ e.args = [] ∧ ff e = 1 := by
 unfold cQ at h
 rw [List.mem_append] at h
 rcases h with h | h
 ·obtain ⟨i, h1, rfl, h2⟩ := qO _ h
  refine ⟨?_, rfl, rfl⟩
  unfold Cq
  rw [eK, eK.tyL]
  simp only
  rw [if_pos trivial, if_pos ⟨by trivial, by simp, by show ((i : Nat) : Int) < (s.regs.length : Int); omega⟩]
  show some (s.regs.getD (i : Int).toNat 0) = some w
  rw [Int.toNat_natCast, h2]
 ·split at h
  ·rename_i hd
   obtain ⟨i, h1, rfl, h2⟩ := qO _ h
   refine ⟨?_, rfl, rfl⟩
   have ht : s.sc.tw = s.takes := by show (if s.data then s.takes else []) = s.takes; rw [if_pos hd]
   unfold Ei
   rw [eK, eK.tyL]
   simp only
   rw [if_neg (by decide), if_pos trivial, ht, if_pos ⟨by trivial, by simp, by omega⟩, Int.toNat_natCast, h2]
  ·cases h
theorem Ba {s : Sg} {w b : Int} (hw : au w = true) (hb : 0 ≤ b) : eK s.sc (bj s w b) = some w ∧ (bj s w b).args = [] ∧ ff (bj s w b) = 1 := by
 unfold bj
 split
 ·exact ⟨HA hw, rfl, rfl⟩
 ·rename_i hn
  simp only [not_or] at hn
  have h1 := Int.emod_lt_of_pos (b / 4) (show (0 : Int) < ((cQ s w).length : Int) by omega)
  have h0 := Int.emod_nonneg (b / 4) (show ((cQ s w).length : Int) ≠ 0 by omega)
  exact Ej (hJ (by omega))
theorem uZ {l : List Mm} {w : Int} : ∀ {n k m : Nat}, nc l w n k = some m → k ≤ m ∧ m < k + n ∧ (l.getD m aP).w = w
 | 0, k, m, h => by cases h
 | n + 1, k, m, h => by
  rw [nc] at h
  split at h
  ·rename_i hw; cases h; exact ⟨by omega, by omega, hw⟩
  ·obtain ⟨h1, h2, h3⟩ := uZ h; exact ⟨by omega, by omega, h3⟩
theorem xV {t : Nat → Int → Ex × Nat} : ∀ (ws : List Int) (i : Nat), (bB t ws i).1.length = ws.length
 | [], i => rfl
 | w :: r, i => by rw [bB]; simp [xV r]
theorem Bb {c : Sc} {t : Nat → Int → Ex × Nat} : ∀ (ws : List Int) (i : Nat), (∀ w ∈ ws, ∀ i, eK c (t i w).1 = some w) → eK.tyL c (bB t ws i).1 = some ws
 | [], i, _ => rfl
 | w :: r, i, h => by
  rw [bB, eK.tyL, h w (by simp) i, Bb r _ (fun w hw => h w (by simp [hw]))]
theorem xW {t : Nat → Int → Ex × Nat} {n : Nat} : ∀ (ws : List Int) (i : Nat), (∀ w ∈ ws, ∀ i, ff (t i w).1 ≤ n) → ff.depL (bB t ws i).1 ≤ n
 | [], i, _ => by rw [bB, ff.depL]; exact Nat.zero_le _
 | w :: r, i, h => by
  rw [bB, ff.depL]
  have h1 := h w (by simp) i
  have h2 := xW r (t i w).2 (fun w hw => h w (by simp [hw]))
  omega
theorem tf {t : Nat → Int → Ex × Nat} {n : Nat} : ∀ (ws : List Int) (i : Nat), (∀ w ∈ ws, ∀ i, i ≤ (t i w).2 ∧ (t i w).2 ≤ i + n) → i ≤ (bB t ws i).2 ∧ (bB t ws i).2 ≤ i + n * ws.length
 | [], i, _ => ⟨Nat.le_refl _, Nat.le_add_right _ _⟩
 | w :: r, i, h => by
  rw [bB]
  have h1 := h w (by simp) i
  have h2 := tf r (t i w).2 (fun w hw => h w (by simp [hw]))
  have : n * (w :: r).length = n * r.length + n := by rw [List.length_cons, Nat.mul_succ]
  show i ≤ (bB t r (t i w).2).2 ∧ (bB t r (t i w).2).2 ≤ i + n * (w :: r).length
  omega
theorem Cr {k : Int} (h : 4 ≤ k) (h2 : k < 14) : iu k = 2 ∨ iu k = 3 ∨ iu k = 4 ∨ iu k = 5 ∨ iu k = 6 ∨ iu k = 7 ∨ iu k = 10 ∨ iu k = 8 ∨ iu k = 9 ∨ iu k = 11 := by
 have : k = 4 ∨ k = 5 ∨ k = 6 ∨ k = 7 ∨ k = 8 ∨ k = 9 ∨ k = 10 ∨ k = 11 ∨ k = 12 ∨ k = 13 := by omega
 rcases this with rfl | rfl | rfl | rfl | rfl | rfl | rfl | rfl | rfl | rfl <;> decide
theorem yS {op : Int} {w k v : Int} (hop : op = 3 ∨ op = 4 ∨ op = 5 ∨ op = 6 ∨ op = 7) (hw : au w = true) : gi op [w, w] k v = true ∧ bi op [w, w] k v = w := by
 have e : ∀ op, bi op [w, w] k v = w ∨ True := fun _ => .inr trivial
 have ha : bJ [w, w] = w := by unfold bJ; rw [if_neg (by simp)]; rfl
 have hv : bi op [w, w] k v = bJ [w, w] := by rcases hop with rfl | rfl | rfl | rfl | rfl <;> rfl
 have hA : bk op = 2 := by rcases hop with rfl | rfl | rfl | rfl | rfl <;> decide
 refine ⟨?_, by rw [hv, ha]⟩
 unfold gi
 rw [hv, ha, hA]
 simp [hw]
theorem Ek {y w : Int} (hk : 4 ≤ y % 14) (h0 : 0 ≤ y) (hw : 1 ≤ w) (hw8 : w ≤ 8) : gi (qN y w) (jb y w) 0 0 = true ∧ bi (qN y w) (jb y w) 0 0 = w ∧ (qN y w ≠ 16 ∧ qN y w ≠ 18 ∧ qN y w ≠ 17) ∧ (∀ v ∈ jb y w, 1 ≤ v ∧ (v ≤ w ∨ v ≤ 3)) ∧ (jb y w).length ≤ 3 := by
 have hf : au w = true := aW.2 ⟨hw, hw8⟩
 have hc := Cr hk (by omega)
 unfold qN jb
 simp only
 have hn : (1 : Int) ≤ 1 + y / 14 % 3 ∧ 1 + y / 14 % 3 ≤ 3 := by omega
 generalize hv : 1 + y / 14 % 3 = v at *
 have hfv : au v = true := aW.2 ⟨hn.1, by omega⟩
 rcases hc with h | h | h | h | h | h | h | h | h | h <;> rw [h] <;> simp only [Int.reduceEq, false_or, or_false, false_and, if_false, true_and, if_true, or_true, true_or]
 ·refine ⟨?_, rfl, by decide, by simp; omega, by simp⟩
  show (decide (([w].length : Int) = bk 2) && [w].all au && au w) = true
  simp [hf]; decide
 ·exact ⟨(yS (by simp) hf).1, (yS (by simp) hf).2, by decide, by simp; omega, by simp⟩
 ·exact ⟨(yS (by simp) hf).1, (yS (by simp) hf).2, by decide, by simp; omega, by simp⟩
 ·exact ⟨(yS (by simp) hf).1, (yS (by simp) hf).2, by decide, by simp; omega, by simp⟩
 ·exact ⟨(yS (by simp) hf).1, (yS (by simp) hf).2, by decide, by simp; omega, by simp⟩
 ·exact ⟨(yS (by simp) hf).1, (yS (by simp) hf).2, by decide, by simp; omega, by simp⟩
 ·have e : bi 10 [1, w, w] 0 0 = w := by
   show (if (1 : Int) ≠ 1 ∨ w ≠ w then 0 else w) = w
   rw [if_neg (by simp)]
  refine ⟨?_, e, by decide, by simp; omega, by simp⟩
  unfold gi
  rw [e]
  simp [hf]; decide
 ·split
  ·exact ⟨(yS (by simp) hf).1, (yS (by simp) hf).2, by decide, by simp; omega, by simp⟩
  ·have hw1 : w = 1 := by omega
   subst hw1
   have ha : bJ [v, v] = v := by unfold bJ; rw [if_neg (by simp)]; rfl
   have e : bi 8 [v, v] 0 0 = 1 := by
    show min (bJ [v, v]) 1 = 1
    rw [ha]; omega
   refine ⟨?_, e, by decide, by simp; omega, by simp⟩
   unfold gi
   rw [e]
   simp [hfv]; decide
 ·split
  ·exact ⟨(yS (by simp) hf).1, (yS (by simp) hf).2, by decide, by simp; omega, by simp⟩
  ·have hw1 : w = 1 := by omega
   subst hw1
   have ha : bJ [v, v] = v := by unfold bJ; rw [if_neg (by simp)]; rfl
   have e : bi 9 [v, v] 0 0 = 1 := by
    show min (bJ [v, v]) 1 = 1
    rw [ha]; omega
   refine ⟨?_, e, by decide, by simp; omega, by simp⟩
   unfold gi
   rw [e]
   simp [hfv]; decide
 ·split
  ·exact ⟨(yS (by simp) hf).1, (yS (by simp) hf).2, by decide, by simp; omega, by simp⟩
  ·have e : bi 11 [w - 1, 1] 0 0 = w := by
    show (w - 1) + 1 = w
    omega
   have hf1 : au (w - 1) = true := aW.2 ⟨by omega, by omega⟩
   refine ⟨?_, e, by decide, by simp; omega, by simp⟩
   unfold gi
   rw [e]
   simp [hf, hf1]; decide
theorem tg {s : Sg} {b : List Int} (hb : lF b) : ∀ (d i : Nat) (w : Int), d ≤ 3 → 1 ≤ w → w + d ≤ 8 → eK s.sc (an s b d i w).1 = some w ∧ ff (an s b d i w).1 ≤ max d 1 ∧ i ≤ (an s b d i w).2 ∧ (an s b d i w).2 ≤ i + 4 ^ d := by
 intro d
 induction d with
 | zero =>
  intro i w h3 h1 h2
  have hy := eC hb i
  obtain ⟨q1, q2, q3⟩ := Ba (s := s) (w := w) (b := b.getD i 0 / 14) (aW.2 ⟨h1, by omega⟩) (by omega)
  rw [an]
  exact ⟨q1, by show ff (bj s w (b.getD i 0 / 14)) ≤ 1; omega, by show i ≤ i + 1; omega, by show i + 1 ≤ i + 4 ^ 0; omega⟩
 | succ d ih =>
  intro i w h3 h1 h2
  have hy := eC hb i
  have hp : 1 ≤ 4 ^ d := Nat.one_le_pow _ _ (by omega)
  have hpow : 4 ^ (d + 1) = 4 * 4 ^ d := by rw [Nat.pow_succ]; omega
  rw [an]
  split
  ·obtain ⟨q1, q2, q3⟩ := Ba (s := s) (w := w) (b := b.getD i 0 / 14) (aW.2 ⟨h1, by omega⟩) (by omega)
   exact ⟨q1, by show ff (bj s w (b.getD i 0 / 14)) ≤ _; omega, by show i ≤ i + 1; omega, by show i + 1 ≤ i + 4 ^ (d + 1); omega⟩
  ·rename_i hn
   simp only [not_or] at hn
   split
   ·generalize hz : b.getD i 0 / 14 = z
    have hz0 : 0 ≤ z := by omega
    unfold bG
    split
    ·rename_i m hm
     split at hm
     ·obtain ⟨e1, e2, e3⟩ := uZ hm
      obtain ⟨q1, q2, q3, q4⟩ := ih (i + 1) (1 + z / 3 % 3) (by omega) (by omega) (by omega)
      refine ⟨?_, ?_, by simp only; omega, by simp only; omega⟩
      ·simp only
       rw [eK, eK.tyL, q1, eK.tyL]
       simp only
       rw [if_neg (by decide), if_neg (by decide), if_pos trivial]
       have hl : (s.sc.mw.length : Int) = s.mems.length := by show ((s.mems.map (·.w)).length : Int) = _; simp
       rw [if_pos ⟨rfl, by simp, by rw [hl]; show ((m : Nat) : Int) < _; omega⟩]
       show some ((s.mems.map (·.w)).getD (m : Int).toNat 0) = some w
       rw [Int.toNat_natCast, dg (·.w) s.mems m aP 0 (by omega), e3]
      ·rw [ff, ff.depL, ff.depL]; omega
     ·cases hm
    ·rename_i hm
     split
     ·rename_i hc
      obtain ⟨q1, q2, q3, q4⟩ := ih (i + 1) (w - 1) (by omega) (by omega) (by omega)
      refine ⟨?_, ?_, by simp only; omega, by simp only; omega⟩
      ·simp only
       rw [eK, eK.tyL, q1, eK.tyL]
       simp only
       rw [if_neg (by decide), if_neg (by decide), if_neg (by decide)]
       have e : bi 13 [w - 1] 0 w = w := by
        show (if w < w - 1 then 0 else w) = w
        rw [if_neg (by omega)]
       have ho : gi 13 [w - 1] 0 w = true := by
        unfold gi
        rw [e]
        have f1 : au w = true := aW.2 ⟨h1, by omega⟩
        have f2 : au (w - 1) = true := aW.2 ⟨by omega, by omega⟩
        simp [f1, f2]; decide
       rw [if_pos ho, e]
      ·rw [ff, ff.depL, ff.depL]; omega
     ·have hm2 : z / 3 % 2 = 0 ∨ z / 3 % 2 = 1 := by omega
      obtain ⟨q1, q2, q3, q4⟩ := ih (i + 1) (w + z / 3 % 2) (by omega) (by omega) (by omega)
      refine ⟨?_, ?_, by simp only; omega, by simp only; omega⟩
      ·simp only
       rw [eK, eK.tyL, q1, eK.tyL]
       simp only
       rw [if_neg (by decide), if_neg (by decide), if_neg (by decide)]
       have f1 : au w = true := aW.2 ⟨h1, by omega⟩
       have f2 : au (w + z / 3 % 2) = true := aW.2 ⟨by omega, by omega⟩
       have e : bi 12 [w + z / 3 % 2] (z / 3 % 2) w = w := by
        show (if au w = false ∨ z / 3 % 2 < 0 ∨ (w + z / 3 % 2) - w < z / 3 % 2 then 0 else w) = w
        rw [if_neg]
        rintro (hh | hh | hh)
        ·rw [f1] at hh; cases hh
        ·omega
        ·omega
       have ho : gi 12 [w + z / 3 % 2] (z / 3 % 2) w = true := by
        unfold gi
        rw [e]
        simp [f1, f2]; decide
       rw [if_pos ho, e]
      ·rw [ff, ff.depL, ff.depL]; omega
   ·obtain ⟨o1, o2, o3, o4, o5⟩ := Ek (y := b.getD i 0) (w := w) (by omega) hy.1 h1 (by omega)
    have key : ∀ v ∈ jb (b.getD i 0) w, ∀ i, eK s.sc (an s b d i v).1 = some v ∧ ff (an s b d i v).1 ≤ max d 1 ∧ i ≤ (an s b d i v).2 ∧ (an s b d i v).2 ≤ i + 4 ^ d := by
     intro v hv j
     have := o4 v hv
     exact ih j v (by omega) this.1 (by omega)
    have hty := Bb (c := s.sc) (t := an s b d) (jb (b.getD i 0) w) (i + 1) (fun v hv j => (key v hv j).1)
    have hdp := xW (t := an s b d) (n := max d 1) (jb (b.getD i 0) w) (i + 1) (fun v hv j => (key v hv j).2.1)
    have hps := tf (t := an s b d) (n := 4 ^ d) (jb (b.getD i 0) w) (i + 1) (fun v hv j => (key v hv j).2.2)
    refine ⟨?_, ?_, by simp only; omega, ?_⟩
    ·rw [eK, hty]
     simp only
     rw [if_neg o3.1, if_neg o3.2.1, if_neg o3.2.2, if_pos o1, o2]
    ·rw [ff]; omega
    ·simp only
     have : 4 ^ d * (jb (b.getD i 0) w).length ≤ 4 ^ d * 3 := Nat.mul_le_mul_left _ o5
     omega
theorem El {s : Sg} {w b : Int} (h : (cQ s w).length = 0 ∨ b % 4 = 0) : bj s w b = eD (b / 4) w := if_pos h
theorem Em {s : Sg} {w b : Int} (h1 : ¬((cQ s w).length : Int) = 0) (h2 : ¬b % 4 = 0) : bj s w b = (cQ s w).getD (b / 4 % ((cQ s w).length : Int)).toNat dE := if_neg (by rintro (h | h) <;> omega)
theorem u2 (s : Sg) (w b : Int) : (bj s w b).args = [] := by
 unfold bj
 split
 ·rfl
 ·by_cases h : (b / 4 % ((cQ s w).length : Int)).toNat < (cQ s w).length
  ·exact (Ej (hJ h)).2.1
  ·rw [List.getD, List.getElem?_eq_none (by omega)]; rfl
theorem I4 {s : Sg} {t : Nat → Int → Ex × Nat} {w b : Int} {i k : Nat} (h : b % 3 = 0) (hm : nc s.mems w s.mems.length 0 = some k) : bG s t w b i = (⟨17, e0, ⟨k, e0⟩, dN, [(t i (1 + b / 3 % 3)).1]⟩, (t i (1 + b / 3 % 3)).2) := by
 unfold bG; rw [if_pos h, hm]
theorem Eo {s : Sg} {t : Nat → Int → Ex × Nat} {w b : Int} {i : Nat} (h : b % 3 = 1) (hw : w > 1) : bG s t w b i = (⟨13, e0, dN, ⟨w, e0⟩, [(t i (w - 1)).1]⟩, (t i (w - 1)).2) := by
 unfold bG; rw [if_neg (by omega)]; simp only; rw [if_pos ⟨h, hw⟩]
theorem Ep {s : Sg} {t : Nat → Int → Ex × Nat} {w b : Int} {i : Nat} (hm : b % 3 = 0 → nc s.mems w s.mems.length 0 = none) (h : ¬(b % 3 = 1 ∧ w > 1)) : bG s t w b i = (⟨12, e0, ⟨b / 3 % 2, e0⟩, ⟨w, e0⟩, [(t i (w + b / 3 % 2)).1]⟩, (t i (w + b / 3 % 2)).2) := by
 unfold bG
 have e : (if b % 3 = 0 then nc s.mems w s.mems.length 0 else none) = none := by split; exact hm ‹_›; rfl
 rw [e]; simp only; rw [if_neg h]
theorem Bc {l : List Mm} {w : Int} {k : Nat} (hk : k < l.length) (h : ¬(l.getD k aP).w = w) : nc l w (l.length - k) k = nc l w (l.length - (k + 1)) (k + 1) := by
 have e : l.length - k = (l.length - (k + 1)) + 1 := by omega
 rw [e, nc, if_neg h]
theorem Er {l : List Mm} {w : Int} {k : Nat} (hk : k < l.length) (h : (l.getD k aP).w = w) : nc l w (l.length - k) k = some k := by
 have e : l.length - k = (l.length - (k + 1)) + 1 := by omega
 rw [e, nc, if_pos h]
theorem th {l : List Mm} {w : Int} {k : Nat} (hk : ¬k < l.length) : nc l w (l.length - k) k = none := by
 have e : l.length - k = 0 := by omega
 rw [e, nc]
theorem Es {s : Sg} {b : List Int} {d i : Nat} {w : Int} (h : d ≤ 1) : an s b d i w = (bj s w (b.getD i 0 / 14), i + 1) := by
 cases d with
 | zero => rfl
 | succ d => rw [an]; rw [if_pos (.inl (by omega))]
theorem HB {s : Sg} {b : List Int} {d i : Nat} {w : Int} (h : b.getD i 0 % 14 < 2) : an s b (d + 1 + 1) i w = (bj s w (b.getD i 0 / 14), i + 1) := by
 rw [an]; rw [if_pos (.inr h)]
theorem Et {s : Sg} {b : List Int} {d i : Nat} {w : Int} (h : b.getD i 0 % 14 = 2 ∨ b.getD i 0 % 14 = 3) : an s b (d + 1 + 1) i w = bG s (an s b (d + 1)) w (b.getD i 0 / 14) (i + 1) := by
 rw [an]; rw [if_neg (by omega), if_pos h]
theorem zI {s : Sg} {b : List Int} {d i : Nat} {w : Int} (h : ¬b.getD i 0 % 14 < 2) (h2 : ¬b.getD i 0 % 14 = 2) (h3 : ¬b.getD i 0 % 14 = 3) : an s b (d + 1 + 1) i w = (⟨qN (b.getD i 0) w, e0, dN, dN, (bB (an s b (d + 1)) (jb (b.getD i 0) w) (i + 1)).1⟩, (bB (an s b (d + 1)) (jb (b.getD i 0) w) (i + 1)).2) := by
 rw [an]; rw [if_neg (by omega), if_neg (by omega)]
theorem qP {t : Nat → Int → Ex × Nat} : ∀ (l : List Int) (i k : Nat), k < l.length → bB t (l.take (k + 1)) i = ((bB t (l.take k) i).1 ++ [(t (bB t (l.take k) i).2 (l.getD k 0)).1], (t (bB t (l.take k) i).2 (l.getD k 0)).2)
 | [], i, k, h => by cases h
 | w :: r, i, 0, h => by simp [bB]
 | w :: r, i, k + 1, h => by
  simp only [List.take_succ_cons, bB]
  rw [qP r _ k (by simpa using h)]
  simp
theorem HC {s : Sg} {b : List Int} (hb : lF b) {y w : Int} {d k : Nat} (i : Nat) (h1 : 1 ≤ w) (h2 : w + (d + 2 : Nat) ≤ 8) (h3 : d + 2 ≤ 3) (hy : 4 ≤ y % 14) (hy0 : 0 ≤ y) (hk : k < (jb y w).length) : 1 ≤ (jb y w).getD k 0 ∧ (jb y w).getD k 0 + (d + 1 : Nat) ≤ 8 ∧ i ≤ (bB (an s b (d + 1)) ((jb y w).take k) i).2 ∧ (bB (an s b (d + 1)) ((jb y w).take k) i).2 + 4 ^ (d + 1) + 1 ≤ i + 4 ^ (d + 2) := by
 obtain ⟨o1, o2, o3, o4, o5⟩ := Ek hy hy0 h1 (by omega : w ≤ 8)
 have hm : (jb y w).getD k 0 ∈ jb y w := by
  rw [List.getD, List.getElem?_eq_getElem hk]; exact List.getElem_mem hk
 have hv := o4 _ hm
 have hps := tf (t := an s b (d + 1)) (n := 4 ^ (d + 1)) ((jb y w).take k) i (fun v hv j => by
  have hh := o4 v (List.mem_of_mem_take hv)
  exact (tg hb (d + 1) j v (by omega) hh.1 (by omega)).2.2)
 have hl : ((jb y w).take k).length ≤ 2 := by rw [List.length_take]; omega
 have hq : 4 ^ (d + 1) * ((jb y w).take k).length ≤ 4 ^ (d + 1) * 2 := Nat.mul_le_mul_left _ hl
 have hp : 1 ≤ 4 ^ (d + 1) := Nat.one_le_pow _ _ (by omega)
 have hpow : 4 ^ (d + 2) = 4 * 4 ^ (d + 1) := by rw [Nat.pow_succ]; omega
 exact ⟨hv.1, by omega, hps.1, by omega⟩
theorem Ll {x : Int} {n : Nat} (h : ¬(n : Int) = 0) : IX (x % (n : Int)) (n : Int) := ⟨Int.emod_nonneg x h, Int.emod_lt_of_pos x (by omega)⟩
end Go.Proofs.YtifoecfajmnjjaaGreat
