/-
  Made processes, plain law: expressions that bytes describe.
-/
import Derived.Test.YtnlmlkbaflmgcaaQPrQ
namespace Go.Proofs.Ytnlmlkbaflmgcaa
open Go.RowKit
set_option linter.unusedVariables false
set_option linter.unusedSimpArgs false
def f8 (b : List Int) : Prop := ∀ x ∈ b, 0 ≤ x ∧ x ≤ 255
theorem bZ {b : List Int} (h : f8 b) (i : Nat) : 0 ≤ b.getD i 0 ∧ b.getD i 0 ≤ 255 := by
 by_cases hi : i < b.length
 ·simp only [List.getD, List.getElem?_eq_getElem hi, Option.getD_some]
  exact h _ (List.getElem_mem hi)
 ·simp [List.getD, List.getElem?_eq_none (Nat.le_of_not_lt hi)]
structure Sg where
 regs : List Int
 takes : List Int
 mems : List Mm
 data : Bool
def Sg.sc (s : Sg) : Sc := ⟨s.regs, s.mems.map (·.w), if s.data then s.takes else []⟩
def dZ (v w : Int) : Ex := ⟨1, e0, ⟨v % 2 ^ w.toNat, e0⟩, ⟨w, e0⟩, []⟩
def Bu (i : Nat) : Ex := ⟨16, e0, ⟨i, e0⟩, dN, []⟩
def Dd (i : Nat) : Ex := ⟨18, e0, ⟨i, e0⟩, dN, []⟩
def eC (f : Nat → Ex) (w : Int) (l : List Int) : Nat → List Ex
 | 0 => []
 | k + 1 => eC f w l k ++ (if l.getD k 0 = w then [f k] else [])
def cr (s : Sg) (w : Int) : List Ex := eC Bu w s.regs s.regs.length ++ (if s.data then eC Dd w s.takes s.takes.length else [])
def a5 (s : Sg) (w b : Int) : Ex := if (cr s w).length = 0 ∨ b % 4 = 0 then dZ (b / 4) w else (cr s w).getD (b / 4 % (cr s w).length).toNat dE
def mt (l : List Mm) (w : Int) : Nat → Nat → Option Nat
 | 0, _ => none
 | n + 1, k => if (l.getD k au).w = w then some k else mt l w n (k + 1)
def ik (k : Int) : Int := [2, 3, 4, 5, 6, 7, 10, 8, 9, 11].getD (k - 4).toNat 0
def pu (y w : Int) : Int := let o := ik (y % 14); if (o = 8 ∨ o = 9) ∧ w > 1 then 5 else if o = 11 ∧ w = 1 then 3 else o
def i2 (y w : Int) : List Int := let o := ik (y % 14)
 if o = 2 then [w] else if o = 10 then [1, w, w] else if o = 8 ∨ o = 9 then (if w > 1 then [w, w] else [1 + y / 14 % 3, 1 + y / 14 % 3]) else if o = 11 then (if w = 1 then [w, w] else [w - 1, 1]) else [w, w]
def bf (t : Nat → Int → Ex × Nat) : List Int → Nat → List Ex × Nat
 | [], i => ([], i)
 | w :: r, i => ((t i w).1 :: (bf t r (t i w).2).1, (bf t r (t i w).2).2)
def bj (s : Sg) (t : Nat → Int → Ex × Nat) (w b : Int) (i : Nat) : Ex × Nat :=
 match (if b % 3 = 0 then mt s.mems w s.mems.length 0 else none) with
 | some m => let x := t i (1 + b / 3 % 3); (⟨17, e0, ⟨m, e0⟩, dN, [x.1]⟩, x.2)
 | none => if b % 3 = 1 ∧ w > 1 then let x := t i (w - 1); (⟨13, e0, dN, ⟨w, e0⟩, [x.1]⟩, x.2)
  else let x := t i (w + b / 3 % 2); (⟨12, e0, ⟨b / 3 % 2, e0⟩, ⟨w, e0⟩, [x.1]⟩, x.2)
def an (s : Sg) (b : List Int) : Nat → Nat → Int → Ex × Nat
 | 0, i, w => (a5 s w (b.getD i 0 / 14), i + 1)
 | d + 1, i, w =>
  let y := b.getD i 0
  if d = 0 ∨ y % 14 < 2 then (a5 s w (y / 14), i + 1)
  else if y % 14 = 2 ∨ y % 14 = 3 then bj s (an s b d) w (y / 14) (i + 1)
  else (⟨pu y w, e0, dN, dN, (bf (an s b d) (i2 y w) (i + 1)).1⟩, (bf (an s b d) (i2 y w) (i + 1)).2)
theorem zN {s : Sg} {w : Int} {acc : List Ex} {j : Nat} (h : acc = eC Bu w s.regs s.regs.length ++ eC Dd w s.takes j) (h0 : s.data = false → j = 0) (h1 : s.data = true → j = s.takes.length) : acc = cr s w := by
 rw [h]; unfold cr
 cases hs : s.data
 ·rw [h0 hs]; simp [eC]
 ·rw [h1 hs]; simp
theorem lJ {f : Nat → Ex} {w : Int} {l : List Int} {k : Nat} (h : l.getD k 0 = w) : eC f w l k ++ [f k] = eC f w l (k + 1) := by rw [eC, if_pos h]
theorem oo {f : Nat → Ex} {w : Int} {l : List Int} {k : Nat} (h : ¬l.getD k 0 = w) : eC f w l k = eC f w l (k + 1) := by rw [eC, if_neg h, List.append_nil]
theorem FG (s : Sg) (w : Int) : (cr s w).length ≤ s.regs.length + s.takes.length := by
 have key : ∀ (f : Nat → Ex) (l : List Int) (k : Nat), (eC f w l k).length ≤ k := by
  intro f l k
  induction k with
  | zero => simp [eC]
  | succ k ih => rw [eC]; simp only [List.length_append]; split <;> simp <;> omega
 unfold cr
 have h1 := key Bu s.regs s.regs.length
 have h2 := key Dd s.takes s.takes.length
 rw [List.length_append]
 split
 ·omega
 ·simp; omega
theorem px {f : Nat → Ex} {w : Int} {l : List Int} {e : Ex} : ∀ (k : Nat), e ∈ eC f w l k → ∃ i, i < k ∧ e = f i ∧ l.getD i 0 = w
 | 0, h => by cases h
 | k + 1, h => by
  rw [eC, List.mem_append] at h
  rcases h with h | h
  ·obtain ⟨i, h1, h2⟩ := px k h; exact ⟨i, by omega, h2⟩
  ·split at h
   ·rename_i hw
    simp only [List.mem_singleton] at h
    exact ⟨k, by omega, h, hw⟩
   ·cases h
theorem HE {c : Sc} {v w : Int} (hw : aI w = true) : dA c (dZ v w) = some w := by
 have h := aQ.1 hw
 unfold dZ
 rw [dA, dA.tyL]
 simp only
 rw [if_neg (by decide), if_neg (by decide), if_neg (by decide)]
 have hm := oh (x := v) (w := w) (by omega) (by omega)
 have e : fc 1 [] (v % 2 ^ w.toNat) w = w := by
  show (if aI w = false ∨ v % 2 ^ w.toNat < 0 ∨ aG w < v % 2 ^ w.toNat then 0 else w) = w
  rw [if_neg]
  rintro (h1 | h1 | h1)
  ·rw [hw] at h1; cases h1
  ·have := hm.1; omega
  ·have := hm.2; omega
 have ho : iP 1 [] (v % 2 ^ w.toNat) w = true := by
  unfold iP
  rw [e, hw]
  rfl
 rw [if_pos ho, e]
theorem De {s : Sg} {w : Int} {e : Ex} (h : e ∈ cr s w) : dA s.sc e = some w ∧ e.args = [] ∧ eI e = 1 := by
 unfold cr at h
 rw [List.mem_append] at h
 rcases h with h | h
 ·obtain ⟨i, h1, rfl, h2⟩ := px _ h
  refine ⟨?_, rfl, rfl⟩
  unfold Bu
  rw [dA, dA.tyL]
  simp only
  rw [if_pos trivial, if_pos ⟨by trivial, by simp, by show ((i : Nat) : Int) < (s.regs.length : Int); omega⟩]
  show some (s.regs.getD (i : Int).toNat 0) = some w
  rw [Int.toNat_natCast, h2]
 ·split at h
  ·rename_i hd
   obtain ⟨i, h1, rfl, h2⟩ := px _ h
   refine ⟨?_, rfl, rfl⟩
   have ht : s.sc.tw = s.takes := by show (if s.data then s.takes else []) = s.takes; rw [if_pos hd]
   unfold Dd
   rw [dA, dA.tyL]
   simp only
   rw [if_neg (by decide), if_pos trivial, ht, if_pos ⟨by trivial, by simp, by omega⟩, Int.toNat_natCast, h2]
  ·cases h
theorem zO {s : Sg} {w b : Int} (hw : aI w = true) (hb : 0 ≤ b) : dA s.sc (a5 s w b) = some w ∧ (a5 s w b).args = [] ∧ eI (a5 s w b) = 1 := by
 unfold a5
 split
 ·exact ⟨HE hw, rfl, rfl⟩
 ·rename_i hn
  simp only [not_or] at hn
  have h1 := Int.emod_lt_of_pos (b / 4) (show (0 : Int) < ((cr s w).length : Int) by omega)
  have h0 := Int.emod_nonneg (b / 4) (show ((cr s w).length : Int) ≠ 0 by omega)
  exact De (lI (by omega))
theorem tZ {l : List Mm} {w : Int} : ∀ {n k m : Nat}, mt l w n k = some m → k ≤ m ∧ m < k + n ∧ (l.getD m au).w = w
 | 0, k, m, h => by cases h
 | n + 1, k, m, h => by
  rw [mt] at h
  split at h
  ·rename_i hw; cases h; exact ⟨by omega, by omega, hw⟩
  ·obtain ⟨h1, h2, h3⟩ := tZ h; exact ⟨by omega, by omega, h3⟩
theorem wP {t : Nat → Int → Ex × Nat} : ∀ (ws : List Int) (i : Nat), (bf t ws i).1.length = ws.length
 | [], i => rfl
 | w :: r, i => by rw [bf]; simp [wP r]
theorem zP {c : Sc} {t : Nat → Int → Ex × Nat} : ∀ (ws : List Int) (i : Nat), (∀ w ∈ ws, ∀ i, dA c (t i w).1 = some w) → dA.tyL c (bf t ws i).1 = some ws
 | [], i, _ => rfl
 | w :: r, i, h => by
  rw [bf, dA.tyL, h w (by simp) i, zP r _ (fun w hw => h w (by simp [hw]))]
theorem wQ {t : Nat → Int → Ex × Nat} {n : Nat} : ∀ (ws : List Int) (i : Nat), (∀ w ∈ ws, ∀ i, eI (t i w).1 ≤ n) → eI.depL (bf t ws i).1 ≤ n
 | [], i, _ => by rw [bf, eI.depL]; exact Nat.zero_le _
 | w :: r, i, h => by
  rw [bf, eI.depL]
  have h1 := h w (by simp) i
  have h2 := wQ r (t i w).2 (fun w hw => h w (by simp [hw]))
  omega
theorem rR {t : Nat → Int → Ex × Nat} {n : Nat} : ∀ (ws : List Int) (i : Nat), (∀ w ∈ ws, ∀ i, i ≤ (t i w).2 ∧ (t i w).2 ≤ i + n) → i ≤ (bf t ws i).2 ∧ (bf t ws i).2 ≤ i + n * ws.length
 | [], i, _ => ⟨Nat.le_refl _, Nat.le_add_right _ _⟩
 | w :: r, i, h => by
  rw [bf]
  have h1 := h w (by simp) i
  have h2 := rR r (t i w).2 (fun w hw => h w (by simp [hw]))
  have : n * (w :: r).length = n * r.length + n := by rw [List.length_cons, Nat.mul_succ]
  show i ≤ (bf t r (t i w).2).2 ∧ (bf t r (t i w).2).2 ≤ i + n * (w :: r).length
  omega
theorem Bv {k : Int} (h : 4 ≤ k) (h2 : k < 14) : ik k = 2 ∨ ik k = 3 ∨ ik k = 4 ∨ ik k = 5 ∨ ik k = 6 ∨ ik k = 7 ∨ ik k = 10 ∨ ik k = 8 ∨ ik k = 9 ∨ ik k = 11 := by
 have : k = 4 ∨ k = 5 ∨ k = 6 ∨ k = 7 ∨ k = 8 ∨ k = 9 ∨ k = 10 ∨ k = 11 ∨ k = 12 ∨ k = 13 := by omega
 rcases this with rfl | rfl | rfl | rfl | rfl | rfl | rfl | rfl | rfl | rfl <;> decide
theorem xL {op : Int} {w k v : Int} (hop : op = 3 ∨ op = 4 ∨ op = 5 ∨ op = 6 ∨ op = 7) (hw : aI w = true) : iP op [w, w] k v = true ∧ fc op [w, w] k v = w := by
 have e : ∀ op, fc op [w, w] k v = w ∨ True := fun _ => .inr trivial
 have ha : b3 [w, w] = w := by unfold b3; rw [if_neg (by simp)]; rfl
 have hv : fc op [w, w] k v = b3 [w, w] := by rcases hop with rfl | rfl | rfl | rfl | rfl <;> rfl
 have hA : cH op = 2 := by rcases hop with rfl | rfl | rfl | rfl | rfl <;> decide
 refine ⟨?_, by rw [hv, ha]⟩
 unfold iP
 rw [hv, ha, hA]
 simp [hw]
theorem Df {y w : Int} (hk : 4 ≤ y % 14) (h0 : 0 ≤ y) (hw : 1 ≤ w) (hw8 : w ≤ 8) : iP (pu y w) (i2 y w) 0 0 = true ∧ fc (pu y w) (i2 y w) 0 0 = w ∧ (pu y w ≠ 16 ∧ pu y w ≠ 18 ∧ pu y w ≠ 17) ∧ (∀ v ∈ i2 y w, 1 ≤ v ∧ (v ≤ w ∨ v ≤ 3)) ∧ (i2 y w).length ≤ 3 := by
 have hf : aI w = true := aQ.2 ⟨hw, hw8⟩
 have hc := Bv hk (by omega)
 unfold pu i2
 simp only
 have hn : (1 : Int) ≤ 1 + y / 14 % 3 ∧ 1 + y / 14 % 3 ≤ 3 := by omega
 generalize hv : 1 + y / 14 % 3 = v at *
 have hfv : aI v = true := aQ.2 ⟨hn.1, by omega⟩
 rcases hc with h | h | h | h | h | h | h | h | h | h <;> rw [h] <;> simp only [Int.reduceEq, false_or, or_false, false_and, if_false, true_and, if_true, or_true, true_or]
 ·refine ⟨?_, rfl, by decide, by simp; omega, by simp⟩
  show (decide (([w].length : Int) = cH 2) && [w].all aI && aI w) = true
  simp [hf]; decide
 ·exact ⟨(xL (by simp) hf).1, (xL (by simp) hf).2, by decide, by simp; omega, by simp⟩
 ·exact ⟨(xL (by simp) hf).1, (xL (by simp) hf).2, by decide, by simp; omega, by simp⟩
 ·exact ⟨(xL (by simp) hf).1, (xL (by simp) hf).2, by decide, by simp; omega, by simp⟩
 ·exact ⟨(xL (by simp) hf).1, (xL (by simp) hf).2, by decide, by simp; omega, by simp⟩
 ·exact ⟨(xL (by simp) hf).1, (xL (by simp) hf).2, by decide, by simp; omega, by simp⟩
 ·have e : fc 10 [1, w, w] 0 0 = w := by
   show (if (1 : Int) ≠ 1 ∨ w ≠ w then 0 else w) = w
   rw [if_neg (by simp)]
  refine ⟨?_, e, by decide, by simp; omega, by simp⟩
  unfold iP
  rw [e]
  simp [hf]; decide
 ·split
  ·exact ⟨(xL (by simp) hf).1, (xL (by simp) hf).2, by decide, by simp; omega, by simp⟩
  ·have hw1 : w = 1 := by omega
   subst hw1
   have ha : b3 [v, v] = v := by unfold b3; rw [if_neg (by simp)]; rfl
   have e : fc 8 [v, v] 0 0 = 1 := by
    show min (b3 [v, v]) 1 = 1
    rw [ha]; omega
   refine ⟨?_, e, by decide, by simp; omega, by simp⟩
   unfold iP
   rw [e]
   simp [hfv]; decide
 ·split
  ·exact ⟨(xL (by simp) hf).1, (xL (by simp) hf).2, by decide, by simp; omega, by simp⟩
  ·have hw1 : w = 1 := by omega
   subst hw1
   have ha : b3 [v, v] = v := by unfold b3; rw [if_neg (by simp)]; rfl
   have e : fc 9 [v, v] 0 0 = 1 := by
    show min (b3 [v, v]) 1 = 1
    rw [ha]; omega
   refine ⟨?_, e, by decide, by simp; omega, by simp⟩
   unfold iP
   rw [e]
   simp [hfv]; decide
 ·split
  ·exact ⟨(xL (by simp) hf).1, (xL (by simp) hf).2, by decide, by simp; omega, by simp⟩
  ·have e : fc 11 [w - 1, 1] 0 0 = w := by
    show (w - 1) + 1 = w
    omega
   have hf1 : aI (w - 1) = true := aQ.2 ⟨by omega, by omega⟩
   refine ⟨?_, e, by decide, by simp; omega, by simp⟩
   unfold iP
   rw [e]
   simp [hf, hf1]; decide
theorem rS {s : Sg} {b : List Int} (hb : f8 b) : ∀ (d i : Nat) (w : Int), d ≤ 3 → 1 ≤ w → w + d ≤ 8 → dA s.sc (an s b d i w).1 = some w ∧ eI (an s b d i w).1 ≤ max d 1 ∧ i ≤ (an s b d i w).2 ∧ (an s b d i w).2 ≤ i + 4 ^ d := by
 intro d
 induction d with
 | zero =>
  intro i w h3 h1 h2
  have hy := bZ hb i
  obtain ⟨q1, q2, q3⟩ := zO (s := s) (w := w) (b := b.getD i 0 / 14) (aQ.2 ⟨h1, by omega⟩) (by omega)
  rw [an]
  exact ⟨q1, by show eI (a5 s w (b.getD i 0 / 14)) ≤ 1; omega, by show i ≤ i + 1; omega, by show i + 1 ≤ i + 4 ^ 0; omega⟩
 | succ d ih =>
  intro i w h3 h1 h2
  have hy := bZ hb i
  have hp : 1 ≤ 4 ^ d := Nat.one_le_pow _ _ (by omega)
  have hpow : 4 ^ (d + 1) = 4 * 4 ^ d := by rw [Nat.pow_succ]; omega
  rw [an]
  split
  ·obtain ⟨q1, q2, q3⟩ := zO (s := s) (w := w) (b := b.getD i 0 / 14) (aQ.2 ⟨h1, by omega⟩) (by omega)
   exact ⟨q1, by show eI (a5 s w (b.getD i 0 / 14)) ≤ _; omega, by show i ≤ i + 1; omega, by show i + 1 ≤ i + 4 ^ (d + 1); omega⟩
  ·rename_i hn
   simp only [not_or] at hn
   split
   ·generalize hz : b.getD i 0 / 14 = z
    have hz0 : 0 ≤ z := by omega
    unfold bj
    split
    ·rename_i m hm
     split at hm
     ·obtain ⟨e1, e2, e3⟩ := tZ hm
      obtain ⟨q1, q2, q3, q4⟩ := ih (i + 1) (1 + z / 3 % 3) (by omega) (by omega) (by omega)
      refine ⟨?_, ?_, by simp only; omega, by simp only; omega⟩
      ·simp only
       rw [dA, dA.tyL, q1, dA.tyL]
       simp only
       rw [if_neg (by decide), if_neg (by decide), if_pos trivial]
       have hl : (s.sc.mw.length : Int) = s.mems.length := by show ((s.mems.map (·.w)).length : Int) = _; simp
       rw [if_pos ⟨rfl, by simp, by rw [hl]; show ((m : Nat) : Int) < _; omega⟩]
       show some ((s.mems.map (·.w)).getD (m : Int).toNat 0) = some w
       rw [Int.toNat_natCast, cQ (·.w) s.mems m au 0 (by omega), e3]
      ·rw [eI, eI.depL, eI.depL]; omega
     ·cases hm
    ·rename_i hm
     split
     ·rename_i hc
      obtain ⟨q1, q2, q3, q4⟩ := ih (i + 1) (w - 1) (by omega) (by omega) (by omega)
      refine ⟨?_, ?_, by simp only; omega, by simp only; omega⟩
      ·simp only
       rw [dA, dA.tyL, q1, dA.tyL]
       simp only
       rw [if_neg (by decide), if_neg (by decide), if_neg (by decide)]
       have e : fc 13 [w - 1] 0 w = w := by
        show (if w < w - 1 then 0 else w) = w
        rw [if_neg (by omega)]
       have ho : iP 13 [w - 1] 0 w = true := by
        unfold iP
        rw [e]
        have f1 : aI w = true := aQ.2 ⟨h1, by omega⟩
        have f2 : aI (w - 1) = true := aQ.2 ⟨by omega, by omega⟩
        simp [f1, f2]; decide
       rw [if_pos ho, e]
      ·rw [eI, eI.depL, eI.depL]; omega
     ·have hm2 : z / 3 % 2 = 0 ∨ z / 3 % 2 = 1 := by omega
      obtain ⟨q1, q2, q3, q4⟩ := ih (i + 1) (w + z / 3 % 2) (by omega) (by omega) (by omega)
      refine ⟨?_, ?_, by simp only; omega, by simp only; omega⟩
      ·simp only
       rw [dA, dA.tyL, q1, dA.tyL]
       simp only
       rw [if_neg (by decide), if_neg (by decide), if_neg (by decide)]
       have f1 : aI w = true := aQ.2 ⟨h1, by omega⟩
       have f2 : aI (w + z / 3 % 2) = true := aQ.2 ⟨by omega, by omega⟩
       have e : fc 12 [w + z / 3 % 2] (z / 3 % 2) w = w := by
        show (if aI w = false ∨ z / 3 % 2 < 0 ∨ (w + z / 3 % 2) - w < z / 3 % 2 then 0 else w) = w
        rw [if_neg]
        rintro (hh | hh | hh)
        ·rw [f1] at hh; cases hh
        ·omega
        ·omega
       have ho : iP 12 [w + z / 3 % 2] (z / 3 % 2) w = true := by
        unfold iP
        rw [e]
        simp [f1, f2]; decide
       rw [if_pos ho, e]
      ·rw [eI, eI.depL, eI.depL]; omega
   ·obtain ⟨o1, o2, o3, o4, o5⟩ := Df (y := b.getD i 0) (w := w) (by omega) hy.1 h1 (by omega)
    have key : ∀ v ∈ i2 (b.getD i 0) w, ∀ i, dA s.sc (an s b d i v).1 = some v ∧ eI (an s b d i v).1 ≤ max d 1 ∧ i ≤ (an s b d i v).2 ∧ (an s b d i v).2 ≤ i + 4 ^ d := by
     intro v hv j
     have := o4 v hv
     exact ih j v (by omega) this.1 (by omega)
    have hty := zP (c := s.sc) (t := an s b d) (i2 (b.getD i 0) w) (i + 1) (fun v hv j => (key v hv j).1)
    have hdp := wQ (t := an s b d) (n := max d 1) (i2 (b.getD i 0) w) (i + 1) (fun v hv j => (key v hv j).2.1)
    have hps := rR (t := an s b d) (n := 4 ^ d) (i2 (b.getD i 0) w) (i + 1) (fun v hv j => (key v hv j).2.2)
    refine ⟨?_, ?_, by simp only; omega, ?_⟩
    ·rw [dA, hty]
     simp only
     rw [if_neg o3.1, if_neg o3.2.1, if_neg o3.2.2, if_pos o1, o2]
    ·rw [eI]; omega
    ·simp only
     have : 4 ^ d * (i2 (b.getD i 0) w).length ≤ 4 ^ d * 3 := Nat.mul_le_mul_left _ o5
     omega
theorem Dg {s : Sg} {w b : Int} (h : (cr s w).length = 0 ∨ b % 4 = 0) : a5 s w b = dZ (b / 4) w := if_pos h
theorem Dh {s : Sg} {w b : Int} (h1 : ¬((cr s w).length : Int) = 0) (h2 : ¬b % 4 = 0) : a5 s w b = (cr s w).getD (b / 4 % ((cr s w).length : Int)).toNat dE := if_neg (by rintro (h | h) <;> omega)
theorem t0 (s : Sg) (w b : Int) : (a5 s w b).args = [] := by
 unfold a5
 split
 ·rfl
 ·by_cases h : (b / 4 % ((cr s w).length : Int)).toNat < (cr s w).length
  ·exact (De (lI h)).2.1
  ·rw [List.getD, List.getElem?_eq_none (by omega)]; rfl
theorem Jz {s : Sg} {t : Nat → Int → Ex × Nat} {w b : Int} {i k : Nat} (h : b % 3 = 0) (hm : mt s.mems w s.mems.length 0 = some k) : bj s t w b i = (⟨17, e0, ⟨k, e0⟩, dN, [(t i (1 + b / 3 % 3)).1]⟩, (t i (1 + b / 3 % 3)).2) := by
 unfold bj; rw [if_pos h, hm]
theorem Di {s : Sg} {t : Nat → Int → Ex × Nat} {w b : Int} {i : Nat} (h : b % 3 = 1) (hw : w > 1) : bj s t w b i = (⟨13, e0, dN, ⟨w, e0⟩, [(t i (w - 1)).1]⟩, (t i (w - 1)).2) := by
 unfold bj; rw [if_neg (by omega)]; simp only; rw [if_pos ⟨h, hw⟩]
theorem Dj {s : Sg} {t : Nat → Int → Ex × Nat} {w b : Int} {i : Nat} (hm : b % 3 = 0 → mt s.mems w s.mems.length 0 = none) (h : ¬(b % 3 = 1 ∧ w > 1)) : bj s t w b i = (⟨12, e0, ⟨b / 3 % 2, e0⟩, ⟨w, e0⟩, [(t i (w + b / 3 % 2)).1]⟩, (t i (w + b / 3 % 2)).2) := by
 unfold bj
 have e : (if b % 3 = 0 then mt s.mems w s.mems.length 0 else none) = none := by split; exact hm ‹_›; rfl
 rw [e]; simp only; rw [if_neg h]
theorem zQ {l : List Mm} {w : Int} {k : Nat} (hk : k < l.length) (h : ¬(l.getD k au).w = w) : mt l w (l.length - k) k = mt l w (l.length - (k + 1)) (k + 1) := by
 have e : l.length - k = (l.length - (k + 1)) + 1 := by omega
 rw [e, mt, if_neg h]
theorem Dk {l : List Mm} {w : Int} {k : Nat} (hk : k < l.length) (h : (l.getD k au).w = w) : mt l w (l.length - k) k = some k := by
 have e : l.length - k = (l.length - (k + 1)) + 1 := by omega
 rw [e, mt, if_pos h]
theorem rT {l : List Mm} {w : Int} {k : Nat} (hk : ¬k < l.length) : mt l w (l.length - k) k = none := by
 have e : l.length - k = 0 := by omega
 rw [e, mt]
theorem Dl {s : Sg} {b : List Int} {d i : Nat} {w : Int} (h : d ≤ 1) : an s b d i w = (a5 s w (b.getD i 0 / 14), i + 1) := by
 cases d with
 | zero => rfl
 | succ d => rw [an]; rw [if_pos (.inl (by omega))]
theorem HF {s : Sg} {b : List Int} {d i : Nat} {w : Int} (h : b.getD i 0 % 14 < 2) : an s b (d + 1 + 1) i w = (a5 s w (b.getD i 0 / 14), i + 1) := by
 rw [an]; rw [if_pos (.inr h)]
theorem Dm {s : Sg} {b : List Int} {d i : Nat} {w : Int} (h : b.getD i 0 % 14 = 2 ∨ b.getD i 0 % 14 = 3) : an s b (d + 1 + 1) i w = bj s (an s b (d + 1)) w (b.getD i 0 / 14) (i + 1) := by
 rw [an]; rw [if_neg (by omega), if_pos h]
theorem yw {s : Sg} {b : List Int} {d i : Nat} {w : Int} (h : ¬b.getD i 0 % 14 < 2) (h2 : ¬b.getD i 0 % 14 = 2) (h3 : ¬b.getD i 0 % 14 = 3) : an s b (d + 1 + 1) i w = (⟨pu (b.getD i 0) w, e0, dN, dN, (bf (an s b (d + 1)) (i2 (b.getD i 0) w) (i + 1)).1⟩, (bf (an s b (d + 1)) (i2 (b.getD i 0) w) (i + 1)).2) := by
 rw [an]; rw [if_neg (by omega), if_neg (by omega)]
theorem py {t : Nat → Int → Ex × Nat} : ∀ (l : List Int) (i k : Nat), k < l.length → bf t (l.take (k + 1)) i = ((bf t (l.take k) i).1 ++ [(t (bf t (l.take k) i).2 (l.getD k 0)).1], (t (bf t (l.take k) i).2 (l.getD k 0)).2)
 | [], i, k, h => by cases h
 | w :: r, i, 0, h => by simp [bf]
 | w :: r, i, k + 1, h => by
  simp only [List.take_succ_cons, bf]
  rw [py r _ k (by simpa using h)]
  simp
theorem HG {s : Sg} {b : List Int} (hb : f8 b) {y w : Int} {d k : Nat} (i : Nat) (h1 : 1 ≤ w) (h2 : w + (d + 2 : Nat) ≤ 8) (h3 : d + 2 ≤ 3) (hy : 4 ≤ y % 14) (hy0 : 0 ≤ y) (hk : k < (i2 y w).length) : 1 ≤ (i2 y w).getD k 0 ∧ (i2 y w).getD k 0 + (d + 1 : Nat) ≤ 8 ∧ i ≤ (bf (an s b (d + 1)) ((i2 y w).take k) i).2 ∧ (bf (an s b (d + 1)) ((i2 y w).take k) i).2 + 4 ^ (d + 1) + 1 ≤ i + 4 ^ (d + 2) := by
 obtain ⟨o1, o2, o3, o4, o5⟩ := Df hy hy0 h1 (by omega : w ≤ 8)
 have hm : (i2 y w).getD k 0 ∈ i2 y w := by
  rw [List.getD, List.getElem?_eq_getElem hk]; exact List.getElem_mem hk
 have hv := o4 _ hm
 have hps := rR (t := an s b (d + 1)) (n := 4 ^ (d + 1)) ((i2 y w).take k) i (fun v hv j => by
  have hh := o4 v (List.mem_of_mem_take hv)
  exact (rS hb (d + 1) j v (by omega) hh.1 (by omega)).2.2)
 have hl : ((i2 y w).take k).length ≤ 2 := by rw [List.length_take]; omega
 have hq : 4 ^ (d + 1) * ((i2 y w).take k).length ≤ 4 ^ (d + 1) * 2 := Nat.mul_le_mul_left _ hl
 have hp : 1 ≤ 4 ^ (d + 1) := Nat.one_le_pow _ _ (by omega)
 have hpow : 4 ^ (d + 2) = 4 * 4 ^ (d + 1) := by rw [Nat.pow_succ]; omega
 exact ⟨hv.1, by omega, hps.1, by omega⟩
theorem L1 {x : Int} {n : Nat} (h : ¬(n : Int) = 0) : IX (x % (n : Int)) (n : Int) := ⟨Int.emod_nonneg x h, Int.emod_lt_of_pos x (by omega)⟩
end Go.Proofs.Ytnlmlkbaflmgcaa
