/-
  Made processes, plain law: expressions that bytes describe.
-/
import Derived.Test.YtgmpoenfoacofaaGreatQPrQ
namespace Go.Proofs.YtgmpoenfoacofaaGreat
open Go.RowKit
set_option linter.unusedVariables false
set_option linter.unusedSimpArgs false
def lW (b : List Int) : Prop := ∀ x ∈ b, 0 ≤ x ∧ x ≤ 255
theorem dD {b : List Int} (h : lW b) (i : Nat) : 0 ≤ b.getD i 0 ∧ b.getD i 0 ≤ 255 := by
 by_cases hi : i < b.length
 ·simp only [List.getD, List.getElem?_eq_getElem hi, Option.getD_some]
  exact h _ (List.getElem_mem hi)
 ·simp [List.getD, List.getElem?_eq_none (Nat.le_of_not_lt hi)]
structure Sg where
 regs : List Int
 takes : List Int
 mems : List Mm
 data : Bool
def Sg.sc (s : Sg) : Sc := ⟨s.regs, s.mems.map (·.w), if s.data then s.takes else []⟩
def dF (v w : Int) : Ex := ⟨1, e0, ⟨v % 2 ^ w.toNat, e0⟩, ⟨w, e0⟩, []⟩
def z4 (i : Nat) : Ex := ⟨16, e0, ⟨i, e0⟩, dN, []⟩
def BH (i : Nat) : Ex := ⟨18, e0, ⟨i, e0⟩, dN, []⟩
def dQ (f : Nat → Ex) (w : Int) (l : List Int) : Nat → List Ex
 | 0 => []
 | k + 1 => dQ f w l k ++ (if l.getD k 0 = w then [f k] else [])
def b7 (s : Sg) (w : Int) : List Ex := dQ z4 w s.regs s.regs.length ++ (if s.data then dQ BH w s.takes s.takes.length else [])
def a7 (s : Sg) (w b : Int) : Ex := if (b7 s w).length = 0 ∨ b % 4 = 0 then dF (b / 4) w else (b7 s w).getD (b / 4 % (b7 s w).length).toNat dE
def li (l : List Mm) (w : Int) : Nat → Nat → Option Nat
 | 0, _ => none
 | n + 1, k => if (l.getD k aX).w = w then some k else li l w n (k + 1)
def gf (k : Int) : Int := [2, 3, 4, 5, 6, 7, 10, 8, 9, 11].getD (k - 4).toNat 0
def oA (y w : Int) : Int := let o := gf (y % 14); if (o = 8 ∨ o = 9) ∧ w > 1 then 5 else if o = 11 ∧ w = 1 then 3 else o
def gM (y w : Int) : List Int := let o := gf (y % 14)
 if o = 2 then [w] else if o = 10 then [1, w, w] else if o = 8 ∨ o = 9 then (if w > 1 then [w, w] else [1 + y / 14 % 3, 1 + y / 14 % 3]) else if o = 11 then (if w = 1 then [w, w] else [w - 1, 1]) else [w, w]
def bk (t : Nat → Int → Ex × Nat) : List Int → Nat → List Ex × Nat
 | [], i => ([], i)
 | w :: r, i => ((t i w).1 :: (bk t r (t i w).2).1, (bk t r (t i w).2).2)
def bo (s : Sg) (t : Nat → Int → Ex × Nat) (w b : Int) (i : Nat) : Ex × Nat :=
 match (if b % 3 = 0 then li s.mems w s.mems.length 0 else none) with
 | some m => let x := t i (1 + b / 3 % 3); (⟨17, e0, ⟨m, e0⟩, dN, [x.1]⟩, x.2)
 | none => if b % 3 = 1 ∧ w > 1 then let x := t i (w - 1); (⟨13, e0, dN, ⟨w, e0⟩, [x.1]⟩, x.2)
  else let x := t i (w + b / 3 % 2); (⟨12, e0, ⟨b / 3 % 2, e0⟩, ⟨w, e0⟩, [x.1]⟩, x.2)
def ai (s : Sg) (b : List Int) : Nat → Nat → Int → Ex × Nat
 | 0, i, w => (a7 s w (b.getD i 0 / 14), i + 1)
 | d + 1, i, w =>
  let y := b.getD i 0
  if d = 0 ∨ y % 14 < 2 then (a7 s w (y / 14), i + 1)
  else if y % 14 = 2 ∨ y % 14 = 3 then bo s (ai s b d) w (y / 14) (i + 1)
  else (⟨oA y w, e0, dN, dN, (bk (ai s b d) (gM y w) (i + 1)).1⟩, (bk (ai s b d) (gM y w) (i + 1)).2)
theorem yJ {s : Sg} {w : Int} {acc : List Ex} {j : Nat} (h : acc = dQ z4 w s.regs s.regs.length ++ dQ BH w s.takes j) (h0 : s.data = false → j = 0) (h1 : s.data = true → j = s.takes.length) : acc = b7 s w := by
 rw [h]; unfold b7
 cases hs : s.data
 ·rw [h0 hs]; simp [dQ]
 ·rw [h1 hs]; simp
theorem kD {f : Nat → Ex} {w : Int} {l : List Int} {k : Nat} (h : l.getD k 0 = w) : dQ f w l k ++ [f k] = dQ f w l (k + 1) := by rw [dQ, if_pos h]
theorem mZ {f : Nat → Ex} {w : Int} {l : List Int} {k : Nat} (h : ¬l.getD k 0 = w) : dQ f w l k = dQ f w l (k + 1) := by rw [dQ, if_neg h, List.append_nil]
theorem DI (s : Sg) (w : Int) : (b7 s w).length ≤ s.regs.length + s.takes.length := by
 have key : ∀ (f : Nat → Ex) (l : List Int) (k : Nat), (dQ f w l k).length ≤ k := by
  intro f l k
  induction k with
  | zero => simp [dQ]
  | succ k ih => rw [dQ]; simp only [List.length_append]; split <;> simp <;> omega
 unfold b7
 have h1 := key z4 s.regs s.regs.length
 have h2 := key BH s.takes s.takes.length
 rw [List.length_append]
 split
 ·omega
 ·simp; omega
theorem oB {f : Nat → Ex} {w : Int} {l : List Int} {e : Ex} : ∀ (k : Nat), e ∈ dQ f w l k → ∃ i, i < k ∧ e = f i ∧ l.getD i 0 = w
 | 0, h => by cases h
 | k + 1, h => by
  rw [dQ, List.mem_append] at h
  rcases h with h | h
  ·obtain ⟨i, h1, h2⟩ := oB k h; exact ⟨i, by omega, h2⟩
  ·split at h
   ·rename_i hw
    simp only [List.mem_singleton] at h
    exact ⟨k, by omega, h, hw⟩
   ·cases h
theorem FH {c : Sc} {v w : Int} (hw : av w = true) : dK c (dF v w) = some w := by
 have h := bh.1 hw
 unfold dF
 rw [dK, dK.tyL]
 simp only
 rw [if_neg (by decide), if_neg (by decide), if_neg (by decide)]
 have hm := p7 (x := v) (w := w) (by omega) (by omega)
 have e : bi 1 [] (v % 2 ^ w.toNat) w = w := by
  show (if av w = false ∨ v % 2 ^ w.toNat < 0 ∨ aj w < v % 2 ^ w.toNat then 0 else w) = w
  rw [if_neg]
  rintro (h1 | h1 | h1)
  ·rw [hw] at h1; cases h1
  ·have := hm.1; omega
  ·have := hm.2; omega
 have ho : lf 1 [] (v % 2 ^ w.toNat) w = true := by
  unfold lf
  rw [e, hw]
  rfl
 rw [if_pos ho, e]
theorem BI {s : Sg} {w : Int} {e : Ex} (h : e ∈ b7 s w) : dK s.sc e = some w ∧ e.args = [] ∧ df e = 1 := by
 unfold b7 at h
 rw [List.mem_append] at h
 rcases h with h | h
 ·obtain ⟨i, h1, rfl, h2⟩ := oB _ h
  refine ⟨?_, rfl, rfl⟩
  unfold z4
  rw [dK, dK.tyL]
  simp only
  rw [if_pos trivial, if_pos ⟨by trivial, by simp, by show ((i : Nat) : Int) < (s.regs.length : Int); omega⟩]
  show some (s.regs.getD (i : Int).toNat 0) = some w
  rw [Int.toNat_natCast, h2]
 ·split at h
  ·rename_i hd
   obtain ⟨i, h1, rfl, h2⟩ := oB _ h
   refine ⟨?_, rfl, rfl⟩
   have ht : s.sc.tw = s.takes := by show (if s.data then s.takes else []) = s.takes; rw [if_pos hd]
   unfold BH
   rw [dK, dK.tyL]
   simp only
   rw [if_neg (by decide), if_pos trivial, ht, if_pos ⟨by trivial, by simp, by omega⟩, Int.toNat_natCast, h2]
  ·cases h
theorem yK {s : Sg} {w b : Int} (hw : av w = true) (hb : 0 ≤ b) : dK s.sc (a7 s w b) = some w ∧ (a7 s w b).args = [] ∧ df (a7 s w b) = 1 := by
 unfold a7
 split
 ·exact ⟨FH hw, rfl, rfl⟩
 ·rename_i hn
  simp only [not_or] at hn
  have h1 := Int.emod_lt_of_pos (b / 4) (show (0 : Int) < ((b7 s w).length : Int) by omega)
  have h0 := Int.emod_nonneg (b / 4) (show ((b7 s w).length : Int) ≠ 0 by omega)
  exact BI (kC (by omega))
theorem tu {l : List Mm} {w : Int} : ∀ {n k m : Nat}, li l w n k = some m → k ≤ m ∧ m < k + n ∧ (l.getD m aX).w = w
 | 0, k, m, h => by cases h
 | n + 1, k, m, h => by
  rw [li] at h
  split at h
  ·rename_i hw; cases h; exact ⟨by omega, by omega, hw⟩
  ·obtain ⟨h1, h2, h3⟩ := tu h; exact ⟨by omega, by omega, h3⟩
theorem v5 {t : Nat → Int → Ex × Nat} : ∀ (ws : List Int) (i : Nat), (bk t ws i).1.length = ws.length
 | [], i => rfl
 | w :: r, i => by rw [bk]; simp [v5 r]
theorem yL {c : Sc} {t : Nat → Int → Ex × Nat} : ∀ (ws : List Int) (i : Nat), (∀ w ∈ ws, ∀ i, dK c (t i w).1 = some w) → dK.tyL c (bk t ws i).1 = some ws
 | [], i, _ => rfl
 | w :: r, i, h => by
  rw [bk, dK.tyL, h w (by simp) i, yL r _ (fun w hw => h w (by simp [hw]))]
theorem v6 {t : Nat → Int → Ex × Nat} {n : Nat} : ∀ (ws : List Int) (i : Nat), (∀ w ∈ ws, ∀ i, df (t i w).1 ≤ n) → df.depL (bk t ws i).1 ≤ n
 | [], i, _ => by rw [bk, df.depL]; exact Nat.zero_le _
 | w :: r, i, h => by
  rw [bk, df.depL]
  have h1 := h w (by simp) i
  have h2 := v6 r (t i w).2 (fun w hw => h w (by simp [hw]))
  omega
theorem rk {t : Nat → Int → Ex × Nat} {n : Nat} : ∀ (ws : List Int) (i : Nat), (∀ w ∈ ws, ∀ i, i ≤ (t i w).2 ∧ (t i w).2 ≤ i + n) → i ≤ (bk t ws i).2 ∧ (bk t ws i).2 ≤ i + n * ws.length
 | [], i, _ => ⟨Nat.le_refl _, Nat.le_add_right _ _⟩
 | w :: r, i, h => by
  rw [bk]
  have h1 := h w (by simp) i
  have h2 := rk r (t i w).2 (fun w hw => h w (by simp [hw]))
  have : n * (w :: r).length = n * r.length + n := by rw [List.length_cons, Nat.mul_succ]
  show i ≤ (bk t r (t i w).2).2 ∧ (bk t r (t i w).2).2 ≤ i + n * (w :: r).length
  omega
theorem z5 {k : Int} (h : 4 ≤ k) (h2 : k < 14) : gf k = 2 ∨ gf k = 3 ∨ gf k = 4 ∨ gf k = 5 ∨ gf k = 6 ∨ gf k = 7 ∨ gf k = 10 ∨ gf k = 8 ∨ gf k = 9 ∨ gf k = 11 := by
 have : k = 4 ∨ k = 5 ∨ k = 6 ∨ k = 7 ∨ k = 8 ∨ k = 9 ∨ k = 10 ∨ k = 11 ∨ k = 12 ∨ k = 13 := by omega
 rcases this with rfl | rfl | rfl | rfl | rfl | rfl | rfl | rfl | rfl | rfl <;> decide
theorem wH {op : Int} {w k v : Int} (hop : op = 3 ∨ op = 4 ∨ op = 5 ∨ op = 6 ∨ op = 7) (hw : av w = true) : lf op [w, w] k v = true ∧ bi op [w, w] k v = w := by
 have e : ∀ op, bi op [w, w] k v = w ∨ True := fun _ => .inr trivial
 have ha : bH [w, w] = w := by unfold bH; rw [if_neg (by simp)]; rfl
 have hv : bi op [w, w] k v = bH [w, w] := by rcases hop with rfl | rfl | rfl | rfl | rfl <;> rfl
 have hA : bv op = 2 := by rcases hop with rfl | rfl | rfl | rfl | rfl <;> decide
 refine ⟨?_, by rw [hv, ha]⟩
 unfold lf
 rw [hv, ha, hA]
 simp [hw]
theorem BJ {y w : Int} (hk : 4 ≤ y % 14) (h0 : 0 ≤ y) (hw : 1 ≤ w) (hw8 : w ≤ 8) : lf (oA y w) (gM y w) 0 0 = true ∧ bi (oA y w) (gM y w) 0 0 = w ∧ (oA y w ≠ 16 ∧ oA y w ≠ 18 ∧ oA y w ≠ 17) ∧ (∀ v ∈ gM y w, 1 ≤ v ∧ (v ≤ w ∨ v ≤ 3)) ∧ (gM y w).length ≤ 3 := by
 have hf : av w = true := bh.2 ⟨hw, hw8⟩
 have hc := z5 hk (by omega)
 unfold oA gM
 simp only
 have hn : (1 : Int) ≤ 1 + y / 14 % 3 ∧ 1 + y / 14 % 3 ≤ 3 := by omega
 generalize hv : 1 + y / 14 % 3 = v at *
 have hfv : av v = true := bh.2 ⟨hn.1, by omega⟩
 rcases hc with h | h | h | h | h | h | h | h | h | h <;> rw [h] <;> simp only [Int.reduceEq, false_or, or_false, false_and, if_false, true_and, if_true, or_true, true_or]
 ·refine ⟨?_, rfl, by decide, by simp; omega, by simp⟩
  show (decide (([w].length : Int) = bv 2) && [w].all av && av w) = true
  simp [hf]; decide
 ·exact ⟨(wH (by simp) hf).1, (wH (by simp) hf).2, by decide, by simp; omega, by simp⟩
 ·exact ⟨(wH (by simp) hf).1, (wH (by simp) hf).2, by decide, by simp; omega, by simp⟩
 ·exact ⟨(wH (by simp) hf).1, (wH (by simp) hf).2, by decide, by simp; omega, by simp⟩
 ·exact ⟨(wH (by simp) hf).1, (wH (by simp) hf).2, by decide, by simp; omega, by simp⟩
 ·exact ⟨(wH (by simp) hf).1, (wH (by simp) hf).2, by decide, by simp; omega, by simp⟩
 ·have e : bi 10 [1, w, w] 0 0 = w := by
   show (if (1 : Int) ≠ 1 ∨ w ≠ w then 0 else w) = w
   rw [if_neg (by simp)]
  refine ⟨?_, e, by decide, by simp; omega, by simp⟩
  unfold lf
  rw [e]
  simp [hf]; decide
 ·split
  ·exact ⟨(wH (by simp) hf).1, (wH (by simp) hf).2, by decide, by simp; omega, by simp⟩
  ·have hw1 : w = 1 := by omega
   subst hw1
   have ha : bH [v, v] = v := by unfold bH; rw [if_neg (by simp)]; rfl
   have e : bi 8 [v, v] 0 0 = 1 := by
    show min (bH [v, v]) 1 = 1
    rw [ha]; omega
   refine ⟨?_, e, by decide, by simp; omega, by simp⟩
   unfold lf
   rw [e]
   simp [hfv]; decide
 ·split
  ·exact ⟨(wH (by simp) hf).1, (wH (by simp) hf).2, by decide, by simp; omega, by simp⟩
  ·have hw1 : w = 1 := by omega
   subst hw1
   have ha : bH [v, v] = v := by unfold bH; rw [if_neg (by simp)]; rfl
   have e : bi 9 [v, v] 0 0 = 1 := by
    show min (bH [v, v]) 1 = 1
    rw [ha]; omega
   refine ⟨?_, e, by decide, by simp; omega, by simp⟩
   unfold lf
   rw [e]
   simp [hfv]; decide
 ·split
  ·exact ⟨(wH (by simp) hf).1, (wH (by simp) hf).2, by decide, by simp; omega, by simp⟩
  ·have e : bi 11 [w - 1, 1] 0 0 = w := by
    show (w - 1) + 1 = w
    omega
   have hf1 : av (w - 1) = true := bh.2 ⟨by omega, by omega⟩
   refine ⟨?_, e, by decide, by simp; omega, by simp⟩
   unfold lf
   rw [e]
   simp [hf, hf1]; decide
theorem oC {s : Sg} {b : List Int} (hb : lW b) : ∀ (d i : Nat) (w : Int), d ≤ 3 → 1 ≤ w → w + d ≤ 8 → dK s.sc (ai s b d i w).1 = some w ∧ df (ai s b d i w).1 ≤ max d 1 ∧ i ≤ (ai s b d i w).2 ∧ (ai s b d i w).2 ≤ i + 4 ^ d := by
 intro d
 induction d with
 | zero =>
  intro i w h3 h1 h2
  have hy := dD hb i
  obtain ⟨q1, q2, q3⟩ := yK (s := s) (w := w) (b := b.getD i 0 / 14) (bh.2 ⟨h1, by omega⟩) (by omega)
  rw [ai]
  exact ⟨q1, by show df (a7 s w (b.getD i 0 / 14)) ≤ 1; omega, by show i ≤ i + 1; omega, by show i + 1 ≤ i + 4 ^ 0; omega⟩
 | succ d ih =>
  intro i w h3 h1 h2
  have hy := dD hb i
  have hp : 1 ≤ 4 ^ d := Nat.one_le_pow _ _ (by omega)
  have hpow : 4 ^ (d + 1) = 4 * 4 ^ d := by rw [Nat.pow_succ]; omega
  rw [ai]
  split
  ·obtain ⟨q1, q2, q3⟩ := yK (s := s) (w := w) (b := b.getD i 0 / 14) (bh.2 ⟨h1, by omega⟩) (by omega)
   exact ⟨q1, by show df (a7 s w (b.getD i 0 / 14)) ≤ _; omega, by show i ≤ i + 1; omega, by show i + 1 ≤ i + 4 ^ (d + 1); omega⟩
  ·rename_i hn
   simp only [not_or] at hn
   split
   ·generalize hz : b.getD i 0 / 14 = z
    have hz0 : 0 ≤ z := by omega
    unfold bo
    split
    ·rename_i m hm
     split at hm
     ·obtain ⟨e1, e2, e3⟩ := tu hm
      obtain ⟨q1, q2, q3, q4⟩ := ih (i + 1) (1 + z / 3 % 3) (by omega) (by omega) (by omega)
      refine ⟨?_, ?_, by simp only; omega, by simp only; omega⟩
      ·simp only
       rw [dK, dK.tyL, q1, dK.tyL]
       simp only
       rw [if_neg (by decide), if_neg (by decide), if_pos trivial]
       have hl : (s.sc.mw.length : Int) = s.mems.length := by show ((s.mems.map (·.w)).length : Int) = _; simp
       rw [if_pos ⟨rfl, by simp, by rw [hl]; show ((m : Nat) : Int) < _; omega⟩]
       show some ((s.mems.map (·.w)).getD (m : Int).toNat 0) = some w
       rw [Int.toNat_natCast, ci (·.w) s.mems m aX 0 (by omega), e3]
      ·rw [df, df.depL, df.depL]; omega
     ·cases hm
    ·rename_i hm
     split
     ·rename_i hc
      obtain ⟨q1, q2, q3, q4⟩ := ih (i + 1) (w - 1) (by omega) (by omega) (by omega)
      refine ⟨?_, ?_, by simp only; omega, by simp only; omega⟩
      ·simp only
       rw [dK, dK.tyL, q1, dK.tyL]
       simp only
       rw [if_neg (by decide), if_neg (by decide), if_neg (by decide)]
       have e : bi 13 [w - 1] 0 w = w := by
        show (if w < w - 1 then 0 else w) = w
        rw [if_neg (by omega)]
       have ho : lf 13 [w - 1] 0 w = true := by
        unfold lf
        rw [e]
        have f1 : av w = true := bh.2 ⟨h1, by omega⟩
        have f2 : av (w - 1) = true := bh.2 ⟨by omega, by omega⟩
        simp [f1, f2]; decide
       rw [if_pos ho, e]
      ·rw [df, df.depL, df.depL]; omega
     ·have hm2 : z / 3 % 2 = 0 ∨ z / 3 % 2 = 1 := by omega
      obtain ⟨q1, q2, q3, q4⟩ := ih (i + 1) (w + z / 3 % 2) (by omega) (by omega) (by omega)
      refine ⟨?_, ?_, by simp only; omega, by simp only; omega⟩
      ·simp only
       rw [dK, dK.tyL, q1, dK.tyL]
       simp only
       rw [if_neg (by decide), if_neg (by decide), if_neg (by decide)]
       have f1 : av w = true := bh.2 ⟨h1, by omega⟩
       have f2 : av (w + z / 3 % 2) = true := bh.2 ⟨by omega, by omega⟩
       have e : bi 12 [w + z / 3 % 2] (z / 3 % 2) w = w := by
        show (if av w = false ∨ z / 3 % 2 < 0 ∨ (w + z / 3 % 2) - w < z / 3 % 2 then 0 else w) = w
        rw [if_neg]
        rintro (hh | hh | hh)
        ·rw [f1] at hh; cases hh
        ·omega
        ·omega
       have ho : lf 12 [w + z / 3 % 2] (z / 3 % 2) w = true := by
        unfold lf
        rw [e]
        simp [f1, f2]; decide
       rw [if_pos ho, e]
      ·rw [df, df.depL, df.depL]; omega
   ·obtain ⟨o1, o2, o3, o4, o5⟩ := BJ (y := b.getD i 0) (w := w) (by omega) hy.1 h1 (by omega)
    have key : ∀ v ∈ gM (b.getD i 0) w, ∀ i, dK s.sc (ai s b d i v).1 = some v ∧ df (ai s b d i v).1 ≤ max d 1 ∧ i ≤ (ai s b d i v).2 ∧ (ai s b d i v).2 ≤ i + 4 ^ d := by
     intro v hv j
     have := o4 v hv
     exact ih j v (by omega) this.1 (by omega)
    have hty := yL (c := s.sc) (t := ai s b d) (gM (b.getD i 0) w) (i + 1) (fun v hv j => (key v hv j).1)
    have hdp := v6 (t := ai s b d) (n := max d 1) (gM (b.getD i 0) w) (i + 1) (fun v hv j => (key v hv j).2.1)
    have hps := rk (t := ai s b d) (n := 4 ^ d) (gM (b.getD i 0) w) (i + 1) (fun v hv j => (key v hv j).2.2)
    refine ⟨?_, ?_, by simp only; omega, ?_⟩
    ·rw [dK, hty]
     simp only
     rw [if_neg o3.1, if_neg o3.2.1, if_neg o3.2.2, if_pos o1, o2]
    ·rw [df]; omega
    ·simp only
     have : 4 ^ d * (gM (b.getD i 0) w).length ≤ 4 ^ d * 3 := Nat.mul_le_mul_left _ o5
     omega
theorem BK {s : Sg} {w b : Int} (h : (b7 s w).length = 0 ∨ b % 4 = 0) : a7 s w b = dF (b / 4) w := if_pos h
theorem BL {s : Sg} {w b : Int} (h1 : ¬((b7 s w).length : Int) = 0) (h2 : ¬b % 4 = 0) : a7 s w b = (b7 s w).getD (b / 4 % ((b7 s w).length : Int)).toNat dE := if_neg (by rintro (h | h) <;> omega)
theorem tv (s : Sg) (w b : Int) : (a7 s w b).args = [] := by
 unfold a7
 split
 ·rfl
 ·by_cases h : (b / 4 % ((b7 s w).length : Int)).toNat < (b7 s w).length
  ·exact (BI (kC h)).2.1
  ·rw [List.getD, List.getElem?_eq_none (by omega)]; rfl
theorem G7 {s : Sg} {t : Nat → Int → Ex × Nat} {w b : Int} {i k : Nat} (h : b % 3 = 0) (hm : li s.mems w s.mems.length 0 = some k) : bo s t w b i = (⟨17, e0, ⟨k, e0⟩, dN, [(t i (1 + b / 3 % 3)).1]⟩, (t i (1 + b / 3 % 3)).2) := by
 unfold bo; rw [if_pos h, hm]
theorem BM {s : Sg} {t : Nat → Int → Ex × Nat} {w b : Int} {i : Nat} (h : b % 3 = 1) (hw : w > 1) : bo s t w b i = (⟨13, e0, dN, ⟨w, e0⟩, [(t i (w - 1)).1]⟩, (t i (w - 1)).2) := by
 unfold bo; rw [if_neg (by omega)]; simp only; rw [if_pos ⟨h, hw⟩]
theorem BN {s : Sg} {t : Nat → Int → Ex × Nat} {w b : Int} {i : Nat} (hm : b % 3 = 0 → li s.mems w s.mems.length 0 = none) (h : ¬(b % 3 = 1 ∧ w > 1)) : bo s t w b i = (⟨12, e0, ⟨b / 3 % 2, e0⟩, ⟨w, e0⟩, [(t i (w + b / 3 % 2)).1]⟩, (t i (w + b / 3 % 2)).2) := by
 unfold bo
 have e : (if b % 3 = 0 then li s.mems w s.mems.length 0 else none) = none := by split; exact hm ‹_›; rfl
 rw [e]; simp only; rw [if_neg h]
theorem yM {l : List Mm} {w : Int} {k : Nat} (hk : k < l.length) (h : ¬(l.getD k aX).w = w) : li l w (l.length - k) k = li l w (l.length - (k + 1)) (k + 1) := by
 have e : l.length - k = (l.length - (k + 1)) + 1 := by omega
 rw [e, li, if_neg h]
theorem BO {l : List Mm} {w : Int} {k : Nat} (hk : k < l.length) (h : (l.getD k aX).w = w) : li l w (l.length - k) k = some k := by
 have e : l.length - k = (l.length - (k + 1)) + 1 := by omega
 rw [e, li, if_pos h]
theorem rm {l : List Mm} {w : Int} {k : Nat} (hk : ¬k < l.length) : li l w (l.length - k) k = none := by
 have e : l.length - k = 0 := by omega
 rw [e, li]
theorem BP {s : Sg} {b : List Int} {d i : Nat} {w : Int} (h : d ≤ 1) : ai s b d i w = (a7 s w (b.getD i 0 / 14), i + 1) := by
 cases d with
 | zero => rfl
 | succ d => rw [ai]; rw [if_pos (.inl (by omega))]
theorem FI {s : Sg} {b : List Int} {d i : Nat} {w : Int} (h : b.getD i 0 % 14 < 2) : ai s b (d + 1 + 1) i w = (a7 s w (b.getD i 0 / 14), i + 1) := by
 rw [ai]; rw [if_pos (.inr h)]
theorem BQ {s : Sg} {b : List Int} {d i : Nat} {w : Int} (h : b.getD i 0 % 14 = 2 ∨ b.getD i 0 % 14 = 3) : ai s b (d + 1 + 1) i w = bo s (ai s b (d + 1)) w (b.getD i 0 / 14) (i + 1) := by
 rw [ai]; rw [if_neg (by omega), if_pos h]
theorem xr {s : Sg} {b : List Int} {d i : Nat} {w : Int} (h : ¬b.getD i 0 % 14 < 2) (h2 : ¬b.getD i 0 % 14 = 2) (h3 : ¬b.getD i 0 % 14 = 3) : ai s b (d + 1 + 1) i w = (⟨oA (b.getD i 0) w, e0, dN, dN, (bk (ai s b (d + 1)) (gM (b.getD i 0) w) (i + 1)).1⟩, (bk (ai s b (d + 1)) (gM (b.getD i 0) w) (i + 1)).2) := by
 rw [ai]; rw [if_neg (by omega), if_neg (by omega)]
theorem oD {t : Nat → Int → Ex × Nat} : ∀ (l : List Int) (i k : Nat), k < l.length → bk t (l.take (k + 1)) i = ((bk t (l.take k) i).1 ++ [(t (bk t (l.take k) i).2 (l.getD k 0)).1], (t (bk t (l.take k) i).2 (l.getD k 0)).2)
 | [], i, k, h => by cases h
 | w :: r, i, 0, h => by simp [bk]
 | w :: r, i, k + 1, h => by
  simp only [List.take_succ_cons, bk]
  rw [oD r _ k (by simpa using h)]
  simp
theorem FJ {s : Sg} {b : List Int} (hb : lW b) {y w : Int} {d k : Nat} (i : Nat) (h1 : 1 ≤ w) (h2 : w + (d + 2 : Nat) ≤ 8) (h3 : d + 2 ≤ 3) (hy : 4 ≤ y % 14) (hy0 : 0 ≤ y) (hk : k < (gM y w).length) : 1 ≤ (gM y w).getD k 0 ∧ (gM y w).getD k 0 + (d + 1 : Nat) ≤ 8 ∧ i ≤ (bk (ai s b (d + 1)) ((gM y w).take k) i).2 ∧ (bk (ai s b (d + 1)) ((gM y w).take k) i).2 + 4 ^ (d + 1) + 1 ≤ i + 4 ^ (d + 2) := by
 obtain ⟨o1, o2, o3, o4, o5⟩ := BJ hy hy0 h1 (by omega : w ≤ 8)
 have hm : (gM y w).getD k 0 ∈ gM y w := by
  rw [List.getD, List.getElem?_eq_getElem hk]; exact List.getElem_mem hk
 have hv := o4 _ hm
 have hps := rk (t := ai s b (d + 1)) (n := 4 ^ (d + 1)) ((gM y w).take k) i (fun v hv j => by
  have hh := o4 v (List.mem_of_mem_take hv)
  exact (oC hb (d + 1) j v (by omega) hh.1 (by omega)).2.2)
 have hl : ((gM y w).take k).length ≤ 2 := by rw [List.length_take]; omega
 have hq : 4 ^ (d + 1) * ((gM y w).take k).length ≤ 4 ^ (d + 1) * 2 := Nat.mul_le_mul_left _ hl
 have hp : 1 ≤ 4 ^ (d + 1) := Nat.one_le_pow _ _ (by omega)
 have hpow : 4 ^ (d + 2) = 4 * 4 ^ (d + 1) := by rw [Nat.pow_succ]; omega
 exact ⟨hv.1, by omega, hps.1, by omega⟩
theorem Jl {x : Int} {n : Nat} (h : ¬(n : Int) = 0) : IX (x % (n : Int)) (n : Int) := ⟨Int.emod_nonneg x h, Int.emod_lt_of_pos x (by omega)⟩
end Go.Proofs.YtgmpoenfoacofaaGreat
