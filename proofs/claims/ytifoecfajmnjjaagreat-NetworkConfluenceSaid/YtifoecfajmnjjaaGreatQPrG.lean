/-
  Made processes, plain law: expressions that bytes describe.
-/
import Derived.Test.YtifoecfajmnjjaaGreatQPrQ
namespace Go.Proofs.YtifoecfajmnjjaaGreat
open Go.RowKit
set_option linter.unusedVariables false
set_option linter.unusedSimpArgs false
def iz (b : List Int) : Prop := ∀ x ∈ b, 0 ≤ x ∧ x ≤ 255
theorem eL {b : List Int} (h : iz b) (i : Nat) : 0 ≤ b.getD i 0 ∧ b.getD i 0 ≤ 255 := by
 by_cases hi : i < b.length
 ·simp only [List.getD, List.getElem?_eq_getElem hi, Option.getD_some]
  exact h _ (List.getElem_mem hi)
 ·simp [List.getD, List.getElem?_eq_none (Nat.le_of_not_lt hi)]
structure Sg where
 regs : List Int
 takes : List Int
 mems : List Mm
 data : Bool
def Sg.sc (s : Sg) : Sc := ⟨s.regs, s.mems.map (·.w), if s.data then s.takes else []⟩
def fS (v w : Int) : Ex := ⟨1, e0, ⟨v % 2 ^ w.toNat, e0⟩, ⟨w, e0⟩, []⟩
def F3 (i : Nat) : Ex := ⟨16, e0, ⟨i, e0⟩, dN, []⟩
def HQ (i : Nat) : Ex := ⟨18, e0, ⟨i, e0⟩, dN, []⟩
def go (f : Nat → Ex) (w : Int) (l : List Int) : Nat → List Ex
 | 0 => []
 | k + 1 => go f w l k ++ (if l.getD k 0 = w then [f k] else [])
def dX (s : Sg) (w : Int) : List Ex := go F3 w s.regs s.regs.length ++ (if s.data then go HQ w s.takes s.takes.length else [])
def bG (s : Sg) (w b : Int) : Ex := if (dX s w).length = 0 ∨ b % 4 = 0 then fS (b / 4) w else (dX s w).getD (b / 4 % (dX s w).length).toNat dE
def qs (l : List Mm) (w : Int) : Nat → Nat → Option Nat
 | 0, _ => none
 | n + 1, k => if (l.getD k a5).w = w then some k else qs l w n (k + 1)
def kx (k : Int) : Int := [2, 3, 4, 5, 6, 7, 10, 8, 9, 11].getD (k - 4).toNat 0
def tM (y w : Int) : Int := let o := kx (y % 14); if (o = 8 ∨ o = 9) ∧ w > 1 then 5 else if o = 11 ∧ w = 1 then 3 else o
def lr (y w : Int) : List Int := let o := kx (y % 14)
 if o = 2 then [w] else if o = 10 then [1, w, w] else if o = 8 ∨ o = 9 then (if w > 1 then [w, w] else [1 + y / 14 % 3, 1 + y / 14 % 3]) else if o = 11 then (if w = 1 then [w, w] else [w - 1, 1]) else [w, w]
def bX (t : Nat → Int → Ex × Nat) : List Int → Nat → List Ex × Nat
 | [], i => ([], i)
 | w :: r, i => ((t i w).1 :: (bX t r (t i w).2).1, (bX t r (t i w).2).2)
def cb (s : Sg) (t : Nat → Int → Ex × Nat) (w b : Int) (i : Nat) : Ex × Nat :=
 match (if b % 3 = 0 then qs s.mems w s.mems.length 0 else none) with
 | some m => let x := t i (1 + b / 3 % 3); (⟨17, e0, ⟨m, e0⟩, dN, [x.1]⟩, x.2)
 | none => if b % 3 = 1 ∧ w > 1 then let x := t i (w - 1); (⟨13, e0, dN, ⟨w, e0⟩, [x.1]⟩, x.2)
  else let x := t i (w + b / 3 % 2); (⟨12, e0, ⟨b / 3 % 2, e0⟩, ⟨w, e0⟩, [x.1]⟩, x.2)
def ax (s : Sg) (b : List Int) : Nat → Nat → Int → Ex × Nat
 | 0, i, w => (bG s w (b.getD i 0 / 14), i + 1)
 | d + 1, i, w =>
  let y := b.getD i 0
  if d = 0 ∨ y % 14 < 2 then (bG s w (y / 14), i + 1)
  else if y % 14 = 2 ∨ y % 14 = 3 then cb s (ax s b d) w (y / 14) (i + 1)
  else (⟨tM y w, e0, dN, dN, (bX (ax s b d) (lr y w) (i + 1)).1⟩, (bX (ax s b d) (lr y w) (i + 1)).2)
theorem Er {s : Sg} {w : Int} {acc : List Ex} {j : Nat} (h : acc = go F3 w s.regs s.regs.length ++ go HQ w s.takes j) (h0 : s.data = false → j = 0) (h1 : s.data = true → j = s.takes.length) : acc = dX s w := by
 rw [h]; unfold dX
 cases hs : s.data
 ·rw [h0 hs]; simp [go]
 ·rw [h1 hs]; simp
theorem px {f : Nat → Ex} {w : Int} {l : List Int} {k : Nat} (h : l.getD k 0 = w) : go f w l k ++ [f k] = go f w l (k + 1) := by rw [go, if_pos h]
theorem sf {f : Nat → Ex} {w : Int} {l : List Int} {k : Nat} (h : ¬l.getD k 0 = w) : go f w l k = go f w l (k + 1) := by rw [go, if_neg h, List.append_nil]
theorem JK (s : Sg) (w : Int) : (dX s w).length ≤ s.regs.length + s.takes.length := by
 have key : ∀ (f : Nat → Ex) (l : List Int) (k : Nat), (go f w l k).length ≤ k := by
  intro f l k
  induction k with
  | zero => simp [go]
  | succ k ih => rw [go]; simp only [List.length_append]; split <;> simp <;> omega
 unfold dX
 have h1 := key F3 s.regs s.regs.length
 have h2 := key HQ s.takes s.takes.length
 rw [List.length_append]
 split
 ·omega
 ·simp; omega
theorem tN {f : Nat → Ex} {w : Int} {l : List Int} {e : Ex} : ∀ (k : Nat), e ∈ go f w l k → ∃ i, i < k ∧ e = f i ∧ l.getD i 0 = w
 | 0, h => by cases h
 | k + 1, h => by
  rw [go, List.mem_append] at h
  rcases h with h | h
  ·obtain ⟨i, h1, h2⟩ := tN k h; exact ⟨i, by omega, h2⟩
  ·split at h
   ·rename_i hw
    simp only [List.mem_singleton] at h
    exact ⟨k, by omega, h, hw⟩
   ·cases h
theorem K9 {c : Sc} {v w : Int} (hw : aA w = true) : gi c (fS v w) = some w := by
 have h := bc.1 hw
 unfold fS
 rw [gi, gi.tyL]
 simp only
 rw [if_neg (by decide), if_neg (by decide), if_neg (by decide)]
 have hm := vf (x := v) (w := w) (by omega) (by omega)
 have e : bC 1 [] (v % 2 ^ w.toNat) w = w := by
  show (if aA w = false ∨ v % 2 ^ w.toNat < 0 ∨ ap w < v % 2 ^ w.toNat then 0 else w) = w
  rw [if_neg]
  rintro (h1 | h1 | h1)
  ·rw [hw] at h1; cases h1
  ·have := hm.1; omega
  ·have := hm.2; omega
 have ho : jd 1 [] (v % 2 ^ w.toNat) w = true := by
  unfold jd
  rw [e, hw]
  rfl
 rw [if_pos ho, e]
theorem HR {s : Sg} {w : Int} {e : Ex} (h : e ∈ dX s w) : gi s.sc e = some w ∧ e.args = [] ∧ hT e = 1 := by
 unfold dX at h
 rw [List.mem_append] at h
 rcases h with h | h
 ·obtain ⟨i, h1, rfl, h2⟩ := tN _ h
  refine ⟨?_, rfl, rfl⟩
  unfold F3
  rw [gi, gi.tyL]
  simp only
  rw [if_pos trivial, if_pos ⟨by trivial, by simp, by show ((i : Nat) : Int) < (s.regs.length : Int); omega⟩]
  show some (s.regs.getD (i : Int).toNat 0) = some w
  rw [Int.toNat_natCast, h2]
 ·split at h
  ·rename_i hd
   obtain ⟨i, h1, rfl, h2⟩ := tN _ h
   refine ⟨?_, rfl, rfl⟩
   have ht : s.sc.tw = s.takes := by show (if s.data then s.takes else []) = s.takes; rw [if_pos hd]
   unfold HQ
   rw [gi, gi.tyL]
   simp only
   rw [if_neg (by decide), if_pos trivial, ht, if_pos ⟨by trivial, by simp, by omega⟩, Int.toNat_natCast, h2]
  ·cases h
theorem Es {s : Sg} {w b : Int} (hw : aA w = true) (hb : 0 ≤ b) : gi s.sc (bG s w b) = some w ∧ (bG s w b).args = [] ∧ hT (bG s w b) = 1 := by
 unfold bG
 split
 ·exact ⟨K9 hw, rfl, rfl⟩
 ·rename_i hn
  simp only [not_or] at hn
  have h1 := Int.emod_lt_of_pos (b / 4) (show (0 : Int) < ((dX s w).length : Int) by omega)
  have h0 := Int.emod_nonneg (b / 4) (show ((dX s w).length : Int) ≠ 0 by omega)
  exact HR (jZ (by omega))
theorem yh {l : List Mm} {w : Int} : ∀ {n k m : Nat}, qs l w n k = some m → k ≤ m ∧ m < k + n ∧ (l.getD m a5).w = w
 | 0, k, m, h => by cases h
 | n + 1, k, m, h => by
  rw [qs] at h
  split at h
  ·rename_i hw; cases h; exact ⟨by omega, by omega, hw⟩
  ·obtain ⟨h1, h2, h3⟩ := yh h; exact ⟨by omega, by omega, h3⟩
theorem A6 {t : Nat → Int → Ex × Nat} : ∀ (ws : List Int) (i : Nat), (bX t ws i).1.length = ws.length
 | [], i => rfl
 | w :: r, i => by rw [bX]; simp [A6 r]
theorem Et {c : Sc} {t : Nat → Int → Ex × Nat} : ∀ (ws : List Int) (i : Nat), (∀ w ∈ ws, ∀ i, gi c (t i w).1 = some w) → gi.tyL c (bX t ws i).1 = some ws
 | [], i, _ => rfl
 | w :: r, i, h => by
  rw [bX, gi.tyL, h w (by simp) i, Et r _ (fun w hw => h w (by simp [hw]))]
theorem A7 {t : Nat → Int → Ex × Nat} {n : Nat} : ∀ (ws : List Int) (i : Nat), (∀ w ∈ ws, ∀ i, hT (t i w).1 ≤ n) → hT.depL (bX t ws i).1 ≤ n
 | [], i, _ => by rw [bX, hT.depL]; exact Nat.zero_le _
 | w :: r, i, h => by
  rw [bX, hT.depL]
  have h1 := h w (by simp) i
  have h2 := A7 r (t i w).2 (fun w hw => h w (by simp [hw]))
  omega
theorem wu {t : Nat → Int → Ex × Nat} {n : Nat} : ∀ (ws : List Int) (i : Nat), (∀ w ∈ ws, ∀ i, i ≤ (t i w).2 ∧ (t i w).2 ≤ i + n) → i ≤ (bX t ws i).2 ∧ (bX t ws i).2 ≤ i + n * ws.length
 | [], i, _ => ⟨Nat.le_refl _, Nat.le_add_right _ _⟩
 | w :: r, i, h => by
  rw [bX]
  have h1 := h w (by simp) i
  have h2 := wu r (t i w).2 (fun w hw => h w (by simp [hw]))
  have : n * (w :: r).length = n * r.length + n := by rw [List.length_cons, Nat.mul_succ]
  show i ≤ (bX t r (t i w).2).2 ∧ (bX t r (t i w).2).2 ≤ i + n * (w :: r).length
  omega
theorem F4 {k : Int} (h : 4 ≤ k) (h2 : k < 14) : kx k = 2 ∨ kx k = 3 ∨ kx k = 4 ∨ kx k = 5 ∨ kx k = 6 ∨ kx k = 7 ∨ kx k = 10 ∨ kx k = 8 ∨ kx k = 9 ∨ kx k = 11 := by
 have : k = 4 ∨ k = 5 ∨ k = 6 ∨ k = 7 ∨ k = 8 ∨ k = 9 ∨ k = 10 ∨ k = 11 ∨ k = 12 ∨ k = 13 := by omega
 rcases this with rfl | rfl | rfl | rfl | rfl | rfl | rfl | rfl | rfl | rfl <;> decide
theorem Cb {op : Int} {w k v : Int} (hop : op = 3 ∨ op = 4 ∨ op = 5 ∨ op = 6 ∨ op = 7) (hw : aA w = true) : jd op [w, w] k v = true ∧ bC op [w, w] k v = w := by
 have e : ∀ op, bC op [w, w] k v = w ∨ True := fun _ => .inr trivial
 have ha : ck [w, w] = w := by unfold ck; rw [if_neg (by simp)]; rfl
 have hv : bC op [w, w] k v = ck [w, w] := by rcases hop with rfl | rfl | rfl | rfl | rfl <;> rfl
 have hA : bJ op = 2 := by rcases hop with rfl | rfl | rfl | rfl | rfl <;> decide
 refine ⟨?_, by rw [hv, ha]⟩
 unfold jd
 rw [hv, ha, hA]
 simp [hw]
theorem HS {y w : Int} (hk : 4 ≤ y % 14) (h0 : 0 ≤ y) (hw : 1 ≤ w) (hw8 : w ≤ 8) : jd (tM y w) (lr y w) 0 0 = true ∧ bC (tM y w) (lr y w) 0 0 = w ∧ (tM y w ≠ 16 ∧ tM y w ≠ 18 ∧ tM y w ≠ 17) ∧ (∀ v ∈ lr y w, 1 ≤ v ∧ (v ≤ w ∨ v ≤ 3)) ∧ (lr y w).length ≤ 3 := by
 have hf : aA w = true := bc.2 ⟨hw, hw8⟩
 have hc := F4 hk (by omega)
 unfold tM lr
 simp only
 have hn : (1 : Int) ≤ 1 + y / 14 % 3 ∧ 1 + y / 14 % 3 ≤ 3 := by omega
 generalize hv : 1 + y / 14 % 3 = v at *
 have hfv : aA v = true := bc.2 ⟨hn.1, by omega⟩
 rcases hc with h | h | h | h | h | h | h | h | h | h <;> rw [h] <;> simp only [Int.reduceEq, false_or, or_false, false_and, if_false, true_and, if_true, or_true, true_or]
 ·refine ⟨?_, rfl, by decide, by simp; omega, by simp⟩
  show (decide (([w].length : Int) = bJ 2) && [w].all aA && aA w) = true
  simp [hf]; decide
 ·exact ⟨(Cb (by simp) hf).1, (Cb (by simp) hf).2, by decide, by simp; omega, by simp⟩
 ·exact ⟨(Cb (by simp) hf).1, (Cb (by simp) hf).2, by decide, by simp; omega, by simp⟩
 ·exact ⟨(Cb (by simp) hf).1, (Cb (by simp) hf).2, by decide, by simp; omega, by simp⟩
 ·exact ⟨(Cb (by simp) hf).1, (Cb (by simp) hf).2, by decide, by simp; omega, by simp⟩
 ·exact ⟨(Cb (by simp) hf).1, (Cb (by simp) hf).2, by decide, by simp; omega, by simp⟩
 ·have e : bC 10 [1, w, w] 0 0 = w := by
   show (if (1 : Int) ≠ 1 ∨ w ≠ w then 0 else w) = w
   rw [if_neg (by simp)]
  refine ⟨?_, e, by decide, by simp; omega, by simp⟩
  unfold jd
  rw [e]
  simp [hf]; decide
 ·split
  ·exact ⟨(Cb (by simp) hf).1, (Cb (by simp) hf).2, by decide, by simp; omega, by simp⟩
  ·have hw1 : w = 1 := by omega
   subst hw1
   have ha : ck [v, v] = v := by unfold ck; rw [if_neg (by simp)]; rfl
   have e : bC 8 [v, v] 0 0 = 1 := by
    show min (ck [v, v]) 1 = 1
    rw [ha]; omega
   refine ⟨?_, e, by decide, by simp; omega, by simp⟩
   unfold jd
   rw [e]
   simp [hfv]; decide
 ·split
  ·exact ⟨(Cb (by simp) hf).1, (Cb (by simp) hf).2, by decide, by simp; omega, by simp⟩
  ·have hw1 : w = 1 := by omega
   subst hw1
   have ha : ck [v, v] = v := by unfold ck; rw [if_neg (by simp)]; rfl
   have e : bC 9 [v, v] 0 0 = 1 := by
    show min (ck [v, v]) 1 = 1
    rw [ha]; omega
   refine ⟨?_, e, by decide, by simp; omega, by simp⟩
   unfold jd
   rw [e]
   simp [hfv]; decide
 ·split
  ·exact ⟨(Cb (by simp) hf).1, (Cb (by simp) hf).2, by decide, by simp; omega, by simp⟩
  ·have e : bC 11 [w - 1, 1] 0 0 = w := by
    show (w - 1) + 1 = w
    omega
   have hf1 : aA (w - 1) = true := bc.2 ⟨by omega, by omega⟩
   refine ⟨?_, e, by decide, by simp; omega, by simp⟩
   unfold jd
   rw [e]
   simp [hf, hf1]; decide
theorem wv {s : Sg} {b : List Int} (hb : iz b) : ∀ (d i : Nat) (w : Int), d ≤ 3 → 1 ≤ w → w + d ≤ 8 → gi s.sc (ax s b d i w).1 = some w ∧ hT (ax s b d i w).1 ≤ max d 1 ∧ i ≤ (ax s b d i w).2 ∧ (ax s b d i w).2 ≤ i + 4 ^ d := by
 intro d
 induction d with
 | zero =>
  intro i w h3 h1 h2
  have hy := eL hb i
  obtain ⟨q1, q2, q3⟩ := Es (s := s) (w := w) (b := b.getD i 0 / 14) (bc.2 ⟨h1, by omega⟩) (by omega)
  rw [ax]
  exact ⟨q1, by show hT (bG s w (b.getD i 0 / 14)) ≤ 1; omega, by show i ≤ i + 1; omega, by show i + 1 ≤ i + 4 ^ 0; omega⟩
 | succ d ih =>
  intro i w h3 h1 h2
  have hy := eL hb i
  have hp : 1 ≤ 4 ^ d := Nat.one_le_pow _ _ (by omega)
  have hpow : 4 ^ (d + 1) = 4 * 4 ^ d := by rw [Nat.pow_succ]; omega
  rw [ax]
  split
  ·obtain ⟨q1, q2, q3⟩ := Es (s := s) (w := w) (b := b.getD i 0 / 14) (bc.2 ⟨h1, by omega⟩) (by omega)
   exact ⟨q1, by show hT (bG s w (b.getD i 0 / 14)) ≤ _; omega, by show i ≤ i + 1; omega, by show i + 1 ≤ i + 4 ^ (d + 1); omega⟩
  ·rename_i hn
   simp only [not_or] at hn
   split
   ·generalize hz : b.getD i 0 / 14 = z
    have hz0 : 0 ≤ z := by omega
    unfold cb
    split
    ·rename_i m hm
     split at hm
     ·obtain ⟨e1, e2, e3⟩ := yh hm
      obtain ⟨q1, q2, q3, q4⟩ := ih (i + 1) (1 + z / 3 % 3) (by omega) (by omega) (by omega)
      refine ⟨?_, ?_, by simp only; omega, by simp only; omega⟩
      ·simp only
       rw [gi, gi.tyL, q1, gi.tyL]
       simp only
       rw [if_neg (by decide), if_neg (by decide), if_pos trivial]
       have hl : (s.sc.mw.length : Int) = s.mems.length := by show ((s.mems.map (·.w)).length : Int) = _; simp
       rw [if_pos ⟨rfl, by simp, by rw [hl]; show ((m : Nat) : Int) < _; omega⟩]
       show some ((s.mems.map (·.w)).getD (m : Int).toNat 0) = some w
       rw [Int.toNat_natCast, ez (·.w) s.mems m a5 0 (by omega), e3]
      ·rw [hT, hT.depL, hT.depL]; omega
     ·cases hm
    ·rename_i hm
     split
     ·rename_i hc
      obtain ⟨q1, q2, q3, q4⟩ := ih (i + 1) (w - 1) (by omega) (by omega) (by omega)
      refine ⟨?_, ?_, by simp only; omega, by simp only; omega⟩
      ·simp only
       rw [gi, gi.tyL, q1, gi.tyL]
       simp only
       rw [if_neg (by decide), if_neg (by decide), if_neg (by decide)]
       have e : bC 13 [w - 1] 0 w = w := by
        show (if w < w - 1 then 0 else w) = w
        rw [if_neg (by omega)]
       have ho : jd 13 [w - 1] 0 w = true := by
        unfold jd
        rw [e]
        have f1 : aA w = true := bc.2 ⟨h1, by omega⟩
        have f2 : aA (w - 1) = true := bc.2 ⟨by omega, by omega⟩
        simp [f1, f2]; decide
       rw [if_pos ho, e]
      ·rw [hT, hT.depL, hT.depL]; omega
     ·have hm2 : z / 3 % 2 = 0 ∨ z / 3 % 2 = 1 := by omega
      obtain ⟨q1, q2, q3, q4⟩ := ih (i + 1) (w + z / 3 % 2) (by omega) (by omega) (by omega)
      refine ⟨?_, ?_, by simp only; omega, by simp only; omega⟩
      ·simp only
       rw [gi, gi.tyL, q1, gi.tyL]
       simp only
       rw [if_neg (by decide), if_neg (by decide), if_neg (by decide)]
       have f1 : aA w = true := bc.2 ⟨h1, by omega⟩
       have f2 : aA (w + z / 3 % 2) = true := bc.2 ⟨by omega, by omega⟩
       have e : bC 12 [w + z / 3 % 2] (z / 3 % 2) w = w := by
        show (if aA w = false ∨ z / 3 % 2 < 0 ∨ (w + z / 3 % 2) - w < z / 3 % 2 then 0 else w) = w
        rw [if_neg]
        rintro (hh | hh | hh)
        ·rw [f1] at hh; cases hh
        ·omega
        ·omega
       have ho : jd 12 [w + z / 3 % 2] (z / 3 % 2) w = true := by
        unfold jd
        rw [e]
        simp [f1, f2]; decide
       rw [if_pos ho, e]
      ·rw [hT, hT.depL, hT.depL]; omega
   ·obtain ⟨o1, o2, o3, o4, o5⟩ := HS (y := b.getD i 0) (w := w) (by omega) hy.1 h1 (by omega)
    have key : ∀ v ∈ lr (b.getD i 0) w, ∀ i, gi s.sc (ax s b d i v).1 = some v ∧ hT (ax s b d i v).1 ≤ max d 1 ∧ i ≤ (ax s b d i v).2 ∧ (ax s b d i v).2 ≤ i + 4 ^ d := by
     intro v hv j
     have := o4 v hv
     exact ih j v (by omega) this.1 (by omega)
    have hty := Et (c := s.sc) (t := ax s b d) (lr (b.getD i 0) w) (i + 1) (fun v hv j => (key v hv j).1)
    have hdp := A7 (t := ax s b d) (n := max d 1) (lr (b.getD i 0) w) (i + 1) (fun v hv j => (key v hv j).2.1)
    have hps := wu (t := ax s b d) (n := 4 ^ d) (lr (b.getD i 0) w) (i + 1) (fun v hv j => (key v hv j).2.2)
    refine ⟨?_, ?_, by simp only; omega, ?_⟩
    ·rw [gi, hty]
     simp only
     rw [if_neg o3.1, if_neg o3.2.1, if_neg o3.2.2, if_pos o1, o2]
    ·rw [hT]; omega
    ·simp only
     have : 4 ^ d * (lr (b.getD i 0) w).length ≤ 4 ^ d * 3 := Nat.mul_le_mul_left _ o5
     omega
theorem HT {s : Sg} {w b : Int} (h : (dX s w).length = 0 ∨ b % 4 = 0) : bG s w b = fS (b / 4) w := if_pos h
theorem HU {s : Sg} {w b : Int} (h1 : ¬((dX s w).length : Int) = 0) (h2 : ¬b % 4 = 0) : bG s w b = (dX s w).getD (b / 4 % ((dX s w).length : Int)).toNat dE := if_neg (by rintro (h | h) <;> omega)
theorem yi (s : Sg) (w b : Int) : (bG s w b).args = [] := by
 unfold bG
 split
 ·rfl
 ·by_cases h : (b / 4 % ((dX s w).length : Int)).toNat < (dX s w).length
  ·exact (HR (jZ h)).2.1
  ·rw [List.getD, List.getElem?_eq_none (by omega)]; rfl
theorem MO {s : Sg} {t : Nat → Int → Ex × Nat} {w b : Int} {i k : Nat} (h : b % 3 = 0) (hm : qs s.mems w s.mems.length 0 = some k) : cb s t w b i = (⟨17, e0, ⟨k, e0⟩, dN, [(t i (1 + b / 3 % 3)).1]⟩, (t i (1 + b / 3 % 3)).2) := by
 unfold cb; rw [if_pos h, hm]
theorem HV {s : Sg} {t : Nat → Int → Ex × Nat} {w b : Int} {i : Nat} (h : b % 3 = 1) (hw : w > 1) : cb s t w b i = (⟨13, e0, dN, ⟨w, e0⟩, [(t i (w - 1)).1]⟩, (t i (w - 1)).2) := by
 unfold cb; rw [if_neg (by omega)]; simp only; rw [if_pos ⟨h, hw⟩]
theorem HW {s : Sg} {t : Nat → Int → Ex × Nat} {w b : Int} {i : Nat} (hm : b % 3 = 0 → qs s.mems w s.mems.length 0 = none) (h : ¬(b % 3 = 1 ∧ w > 1)) : cb s t w b i = (⟨12, e0, ⟨b / 3 % 2, e0⟩, ⟨w, e0⟩, [(t i (w + b / 3 % 2)).1]⟩, (t i (w + b / 3 % 2)).2) := by
 unfold cb
 have e : (if b % 3 = 0 then qs s.mems w s.mems.length 0 else none) = none := by split; exact hm ‹_›; rfl
 rw [e]; simp only; rw [if_neg h]
theorem Eu {l : List Mm} {w : Int} {k : Nat} (hk : k < l.length) (h : ¬(l.getD k a5).w = w) : qs l w (l.length - k) k = qs l w (l.length - (k + 1)) (k + 1) := by
 have e : l.length - k = (l.length - (k + 1)) + 1 := by omega
 rw [e, qs, if_neg h]
theorem HX {l : List Mm} {w : Int} {k : Nat} (hk : k < l.length) (h : (l.getD k a5).w = w) : qs l w (l.length - k) k = some k := by
 have e : l.length - k = (l.length - (k + 1)) + 1 := by omega
 rw [e, qs, if_pos h]
theorem ww {l : List Mm} {w : Int} {k : Nat} (hk : ¬k < l.length) : qs l w (l.length - k) k = none := by
 have e : l.length - k = 0 := by omega
 rw [e, qs]
theorem HY {s : Sg} {b : List Int} {d i : Nat} {w : Int} (h : d ≤ 1) : ax s b d i w = (bG s w (b.getD i 0 / 14), i + 1) := by
 cases d with
 | zero => rfl
 | succ d => rw [ax]; rw [if_pos (.inl (by omega))]
theorem La {s : Sg} {b : List Int} {d i : Nat} {w : Int} (h : b.getD i 0 % 14 < 2) : ax s b (d + 1 + 1) i w = (bG s w (b.getD i 0 / 14), i + 1) := by
 rw [ax]; rw [if_pos (.inr h)]
theorem HZ {s : Sg} {b : List Int} {d i : Nat} {w : Int} (h : b.getD i 0 % 14 = 2 ∨ b.getD i 0 % 14 = 3) : ax s b (d + 1 + 1) i w = cb s (ax s b (d + 1)) w (b.getD i 0 / 14) (i + 1) := by
 rw [ax]; rw [if_neg (by omega), if_pos h]
theorem C2 {s : Sg} {b : List Int} {d i : Nat} {w : Int} (h : ¬b.getD i 0 % 14 < 2) (h2 : ¬b.getD i 0 % 14 = 2) (h3 : ¬b.getD i 0 % 14 = 3) : ax s b (d + 1 + 1) i w = (⟨tM (b.getD i 0) w, e0, dN, dN, (bX (ax s b (d + 1)) (lr (b.getD i 0) w) (i + 1)).1⟩, (bX (ax s b (d + 1)) (lr (b.getD i 0) w) (i + 1)).2) := by
 rw [ax]; rw [if_neg (by omega), if_neg (by omega)]
theorem tO {t : Nat → Int → Ex × Nat} : ∀ (l : List Int) (i k : Nat), k < l.length → bX t (l.take (k + 1)) i = ((bX t (l.take k) i).1 ++ [(t (bX t (l.take k) i).2 (l.getD k 0)).1], (t (bX t (l.take k) i).2 (l.getD k 0)).2)
 | [], i, k, h => by cases h
 | w :: r, i, 0, h => by simp [bX]
 | w :: r, i, k + 1, h => by
  simp only [List.take_succ_cons, bX]
  rw [tO r _ k (by simpa using h)]
  simp
theorem Lb {s : Sg} {b : List Int} (hb : iz b) {y w : Int} {d k : Nat} (i : Nat) (h1 : 1 ≤ w) (h2 : w + (d + 2 : Nat) ≤ 8) (h3 : d + 2 ≤ 3) (hy : 4 ≤ y % 14) (hy0 : 0 ≤ y) (hk : k < (lr y w).length) : 1 ≤ (lr y w).getD k 0 ∧ (lr y w).getD k 0 + (d + 1 : Nat) ≤ 8 ∧ i ≤ (bX (ax s b (d + 1)) ((lr y w).take k) i).2 ∧ (bX (ax s b (d + 1)) ((lr y w).take k) i).2 + 4 ^ (d + 1) + 1 ≤ i + 4 ^ (d + 2) := by
 obtain ⟨o1, o2, o3, o4, o5⟩ := HS hy hy0 h1 (by omega : w ≤ 8)
 have hm : (lr y w).getD k 0 ∈ lr y w := by
  rw [List.getD, List.getElem?_eq_getElem hk]; exact List.getElem_mem hk
 have hv := o4 _ hm
 have hps := wu (t := ax s b (d + 1)) (n := 4 ^ (d + 1)) ((lr y w).take k) i (fun v hv j => by
  have hh := o4 v (List.mem_of_mem_take hv)
  exact (wv hb (d + 1) j v (by omega) hh.1 (by omega)).2.2)
 have hl : ((lr y w).take k).length ≤ 2 := by rw [List.length_take]; omega
 have hq : 4 ^ (d + 1) * ((lr y w).take k).length ≤ 4 ^ (d + 1) * 2 := Nat.mul_le_mul_left _ hl
 have hp : 1 ≤ 4 ^ (d + 1) := Nat.one_le_pow _ _ (by omega)
 have hpow : 4 ^ (d + 2) = 4 * 4 ^ (d + 1) := by rw [Nat.pow_succ]; omega
 exact ⟨hv.1, by omega, hps.1, by omega⟩
theorem Pb {x : Int} {n : Nat} (h : ¬(n : Int) = 0) : IX (x % (n : Int)) (n : Int) := ⟨Int.emod_nonneg x h, Int.emod_lt_of_pos x (by omega)⟩
end Go.Proofs.YtifoecfajmnjjaaGreat
