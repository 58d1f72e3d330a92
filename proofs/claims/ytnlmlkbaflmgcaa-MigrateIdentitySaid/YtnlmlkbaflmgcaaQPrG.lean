/-
  Made processes, plain law: expressions that bytes describe.
-/
import Derived.Test.YtnlmlkbaflmgcaaQPrQ
namespace Go.Proofs.Ytnlmlkbaflmgcaa
open Go.RowKit
set_option linter.unusedVariables false
set_option linter.unusedSimpArgs false
def fQ (b : List Int) : Prop := ∀ x ∈ b, 0 ≤ x ∧ x ≤ 255
theorem bW {b : List Int} (h : fQ b) (i : Nat) : 0 ≤ b.getD i 0 ∧ b.getD i 0 ≤ 255 := by
 by_cases hi : i < b.length
 ·simp only [List.getD, List.getElem?_eq_getElem hi, Option.getD_some]
  exact h _ (List.getElem_mem hi)
 ·simp [List.getD, List.getElem?_eq_none (Nat.le_of_not_lt hi)]
structure Sg where
 regs : List Int
 takes : List Int
 mems : List Mm
 data : Bool
def Sg.sc (s : Sg) : Sc := ⟨s.regs, s.mems.map (·.w), if s.data then s.takes else []⟩
def dT (v w : Int) : Ex := ⟨1, e0, ⟨v % 2 ^ w.toNat, e0⟩, ⟨w, e0⟩, []⟩
def BJ (i : Nat) : Ex := ⟨16, e0, ⟨i, e0⟩, dN, []⟩
def Dp (i : Nat) : Ex := ⟨18, e0, ⟨i, e0⟩, dN, []⟩
def eo (f : Nat → Ex) (w : Int) (l : List Int) : Nat → List Ex
 | 0 => []
 | k + 1 => eo f w l k ++ (if l.getD k 0 = w then [f k] else [])
def cj (s : Sg) (w : Int) : List Ex := eo BJ w s.regs s.regs.length ++ (if s.data then eo Dp w s.takes s.takes.length else [])
def a6 (s : Sg) (w b : Int) : Ex := if (cj s w).length = 0 ∨ b % 4 = 0 then dT (b / 4) w else (cj s w).getD (b / 4 % (cj s w).length).toNat dE
def mh (l : List Mm) (w : Int) : Nat → Nat → Option Nat
 | 0, _ => none
 | n + 1, k => if (l.getD k ax).w = w then some k else mh l w n (k + 1)
def hU (k : Int) : Int := [2, 3, 4, 5, 6, 7, 10, 8, 9, 11].getD (k - 4).toNat 0
def pz (y w : Int) : Int := let o := hU (y % 14); if (o = 8 ∨ o = 9) ∧ w > 1 then 5 else if o = 11 ∧ w = 1 then 3 else o
def iQ (y w : Int) : List Int := let o := hU (y % 14)
 if o = 2 then [w] else if o = 10 then [1, w, w] else if o = 8 ∨ o = 9 then (if w > 1 then [w, w] else [1 + y / 14 % 3, 1 + y / 14 % 3]) else if o = 11 then (if w = 1 then [w, w] else [w - 1, 1]) else [w, w]
def bi (t : Nat → Int → Ex × Nat) : List Int → Nat → List Ex × Nat
 | [], i => ([], i)
 | w :: r, i => ((t i w).1 :: (bi t r (t i w).2).1, (bi t r (t i w).2).2)
def bn (s : Sg) (t : Nat → Int → Ex × Nat) (w b : Int) (i : Nat) : Ex × Nat :=
 match (if b % 3 = 0 then mh s.mems w s.mems.length 0 else none) with
 | some m => let x := t i (1 + b / 3 % 3); (⟨17, e0, ⟨m, e0⟩, dN, [x.1]⟩, x.2)
 | none => if b % 3 = 1 ∧ w > 1 then let x := t i (w - 1); (⟨13, e0, dN, ⟨w, e0⟩, [x.1]⟩, x.2)
  else let x := t i (w + b / 3 % 2); (⟨12, e0, ⟨b / 3 % 2, e0⟩, ⟨w, e0⟩, [x.1]⟩, x.2)
def ao (s : Sg) (b : List Int) : Nat → Nat → Int → Ex × Nat
 | 0, i, w => (a6 s w (b.getD i 0 / 14), i + 1)
 | d + 1, i, w =>
  let y := b.getD i 0
  if d = 0 ∨ y % 14 < 2 then (a6 s w (y / 14), i + 1)
  else if y % 14 = 2 ∨ y % 14 = 3 then bn s (ao s b d) w (y / 14) (i + 1)
  else (⟨pz y w, e0, dN, dN, (bi (ao s b d) (iQ y w) (i + 1)).1⟩, (bi (ao s b d) (iQ y w) (i + 1)).2)
theorem Aa {s : Sg} {w : Int} {acc : List Ex} {j : Nat} (h : acc = eo BJ w s.regs s.regs.length ++ eo Dp w s.takes j) (h0 : s.data = false → j = 0) (h1 : s.data = true → j = s.takes.length) : acc = cj s w := by
 rw [h]; unfold cj
 cases hs : s.data
 ·rw [h0 hs]; simp [eo]
 ·rw [h1 hs]; simp
theorem lA {f : Nat → Ex} {w : Int} {l : List Int} {k : Nat} (h : l.getD k 0 = w) : eo f w l k ++ [f k] = eo f w l (k + 1) := by rw [eo, if_pos h]
theorem oh {f : Nat → Ex} {w : Int} {l : List Int} {k : Nat} (h : ¬l.getD k 0 = w) : eo f w l k = eo f w l (k + 1) := by rw [eo, if_neg h, List.append_nil]
theorem FL (s : Sg) (w : Int) : (cj s w).length ≤ s.regs.length + s.takes.length := by
 have key : ∀ (f : Nat → Ex) (l : List Int) (k : Nat), (eo f w l k).length ≤ k := by
  intro f l k
  induction k with
  | zero => simp [eo]
  | succ k ih => rw [eo]; simp only [List.length_append]; split <;> simp <;> omega
 unfold cj
 have h1 := key BJ s.regs s.regs.length
 have h2 := key Dp s.takes s.takes.length
 rw [List.length_append]
 split
 ·omega
 ·simp; omega
theorem pA {f : Nat → Ex} {w : Int} {l : List Int} {e : Ex} : ∀ (k : Nat), e ∈ eo f w l k → ∃ i, i < k ∧ e = f i ∧ l.getD i 0 = w
 | 0, h => by cases h
 | k + 1, h => by
  rw [eo, List.mem_append] at h
  rcases h with h | h
  ·obtain ⟨i, h1, h2⟩ := pA k h; exact ⟨i, by omega, h2⟩
  ·split at h
   ·rename_i hw
    simp only [List.mem_singleton] at h
    exact ⟨k, by omega, h, hw⟩
   ·cases h
theorem HL {c : Sc} {v w : Int} (hw : aI w = true) : dp c (dT v w) = some w := by
 have h := aM.1 hw
 unfold dT
 rw [dp, dp.tyL]
 simp only
 rw [if_neg (by decide), if_neg (by decide), if_neg (by decide)]
 have hm := oc (x := v) (w := w) (by omega) (by omega)
 have e : eX 1 [] (v % 2 ^ w.toNat) w = w := by
  show (if aI w = false ∨ v % 2 ^ w.toNat < 0 ∨ aC w < v % 2 ^ w.toNat then 0 else w) = w
  rw [if_neg]
  rintro (h1 | h1 | h1)
  ·rw [hw] at h1; cases h1
  ·have := hm.1; omega
  ·have := hm.2; omega
 have ho : iC 1 [] (v % 2 ^ w.toNat) w = true := by
  unfold iC
  rw [e, hw]
  rfl
 rw [if_pos ho, e]
theorem Dq {s : Sg} {w : Int} {e : Ex} (h : e ∈ cj s w) : dp s.sc e = some w ∧ e.args = [] ∧ eC e = 1 := by
 unfold cj at h
 rw [List.mem_append] at h
 rcases h with h | h
 ·obtain ⟨i, h1, rfl, h2⟩ := pA _ h
  refine ⟨?_, rfl, rfl⟩
  unfold BJ
  rw [dp, dp.tyL]
  simp only
  rw [if_pos trivial, if_pos ⟨by trivial, by simp, by show ((i : Nat) : Int) < (s.regs.length : Int); omega⟩]
  show some (s.regs.getD (i : Int).toNat 0) = some w
  rw [Int.toNat_natCast, h2]
 ·split at h
  ·rename_i hd
   obtain ⟨i, h1, rfl, h2⟩ := pA _ h
   refine ⟨?_, rfl, rfl⟩
   have ht : s.sc.tw = s.takes := by show (if s.data then s.takes else []) = s.takes; rw [if_pos hd]
   unfold Dp
   rw [dp, dp.tyL]
   simp only
   rw [if_neg (by decide), if_pos trivial, ht, if_pos ⟨by trivial, by simp, by omega⟩, Int.toNat_natCast, h2]
  ·cases h
theorem Ab {s : Sg} {w b : Int} (hw : aI w = true) (hb : 0 ≤ b) : dp s.sc (a6 s w b) = some w ∧ (a6 s w b).args = [] ∧ eC (a6 s w b) = 1 := by
 unfold a6
 split
 ·exact ⟨HL hw, rfl, rfl⟩
 ·rename_i hn
  simp only [not_or] at hn
  have h1 := Int.emod_lt_of_pos (b / 4) (show (0 : Int) < ((cj s w).length : Int) by omega)
  have h0 := Int.emod_nonneg (b / 4) (show ((cj s w).length : Int) ≠ 0 by omega)
  exact Dq (lz (by omega))
theorem ub {l : List Mm} {w : Int} : ∀ {n k m : Nat}, mh l w n k = some m → k ≤ m ∧ m < k + n ∧ (l.getD m ax).w = w
 | 0, k, m, h => by cases h
 | n + 1, k, m, h => by
  rw [mh] at h
  split at h
  ·rename_i hw; cases h; exact ⟨by omega, by omega, hw⟩
  ·obtain ⟨h1, h2, h3⟩ := ub h; exact ⟨by omega, by omega, h3⟩
theorem wZ {t : Nat → Int → Ex × Nat} : ∀ (ws : List Int) (i : Nat), (bi t ws i).1.length = ws.length
 | [], i => rfl
 | w :: r, i => by rw [bi]; simp [wZ r]
theorem Ac {c : Sc} {t : Nat → Int → Ex × Nat} : ∀ (ws : List Int) (i : Nat), (∀ w ∈ ws, ∀ i, dp c (t i w).1 = some w) → dp.tyL c (bi t ws i).1 = some ws
 | [], i, _ => rfl
 | w :: r, i, h => by
  rw [bi, dp.tyL, h w (by simp) i, Ac r _ (fun w hw => h w (by simp [hw]))]
theorem w3 {t : Nat → Int → Ex × Nat} {n : Nat} : ∀ (ws : List Int) (i : Nat), (∀ w ∈ ws, ∀ i, eC (t i w).1 ≤ n) → eC.depL (bi t ws i).1 ≤ n
 | [], i, _ => by rw [bi, eC.depL]; exact Nat.zero_le _
 | w :: r, i, h => by
  rw [bi, eC.depL]
  have h1 := h w (by simp) i
  have h2 := w3 r (t i w).2 (fun w hw => h w (by simp [hw]))
  omega
theorem r6 {t : Nat → Int → Ex × Nat} {n : Nat} : ∀ (ws : List Int) (i : Nat), (∀ w ∈ ws, ∀ i, i ≤ (t i w).2 ∧ (t i w).2 ≤ i + n) → i ≤ (bi t ws i).2 ∧ (bi t ws i).2 ≤ i + n * ws.length
 | [], i, _ => ⟨Nat.le_refl _, Nat.le_add_right _ _⟩
 | w :: r, i, h => by
  rw [bi]
  have h1 := h w (by simp) i
  have h2 := r6 r (t i w).2 (fun w hw => h w (by simp [hw]))
  have : n * (w :: r).length = n * r.length + n := by rw [List.length_cons, Nat.mul_succ]
  show i ≤ (bi t r (t i w).2).2 ∧ (bi t r (t i w).2).2 ≤ i + n * (w :: r).length
  omega
theorem BK {k : Int} (h : 4 ≤ k) (h2 : k < 14) : hU k = 2 ∨ hU k = 3 ∨ hU k = 4 ∨ hU k = 5 ∨ hU k = 6 ∨ hU k = 7 ∨ hU k = 10 ∨ hU k = 8 ∨ hU k = 9 ∨ hU k = 11 := by
 have : k = 4 ∨ k = 5 ∨ k = 6 ∨ k = 7 ∨ k = 8 ∨ k = 9 ∨ k = 10 ∨ k = 11 ∨ k = 12 ∨ k = 13 := by omega
 rcases this with rfl | rfl | rfl | rfl | rfl | rfl | rfl | rfl | rfl | rfl <;> decide
theorem xX {op : Int} {w k v : Int} (hop : op = 3 ∨ op = 4 ∨ op = 5 ∨ op = 6 ∨ op = 7) (hw : aI w = true) : iC op [w, w] k v = true ∧ eX op [w, w] k v = w := by
 have e : ∀ op, eX op [w, w] k v = w ∨ True := fun _ => .inr trivial
 have ha : bZ [w, w] = w := by unfold bZ; rw [if_neg (by simp)]; rfl
 have hv : eX op [w, w] k v = bZ [w, w] := by rcases hop with rfl | rfl | rfl | rfl | rfl <;> rfl
 have hA : cD op = 2 := by rcases hop with rfl | rfl | rfl | rfl | rfl <;> decide
 refine ⟨?_, by rw [hv, ha]⟩
 unfold iC
 rw [hv, ha, hA]
 simp [hw]
theorem Dr {y w : Int} (hk : 4 ≤ y % 14) (h0 : 0 ≤ y) (hw : 1 ≤ w) (hw8 : w ≤ 8) : iC (pz y w) (iQ y w) 0 0 = true ∧ eX (pz y w) (iQ y w) 0 0 = w ∧ (pz y w ≠ 16 ∧ pz y w ≠ 18 ∧ pz y w ≠ 17) ∧ (∀ v ∈ iQ y w, 1 ≤ v ∧ (v ≤ w ∨ v ≤ 3)) ∧ (iQ y w).length ≤ 3 := by
 have hf : aI w = true := aM.2 ⟨hw, hw8⟩
 have hc := BK hk (by omega)
 unfold pz iQ
 simp only
 have hn : (1 : Int) ≤ 1 + y / 14 % 3 ∧ 1 + y / 14 % 3 ≤ 3 := by omega
 generalize hv : 1 + y / 14 % 3 = v at *
 have hfv : aI v = true := aM.2 ⟨hn.1, by omega⟩
 rcases hc with h | h | h | h | h | h | h | h | h | h <;> rw [h] <;> simp only [Int.reduceEq, false_or, or_false, false_and, if_false, true_and, if_true, or_true, true_or]
 ·refine ⟨?_, rfl, by decide, by simp; omega, by simp⟩
  show (decide (([w].length : Int) = cD 2) && [w].all aI && aI w) = true
  simp [hf]; decide
 ·exact ⟨(xX (by simp) hf).1, (xX (by simp) hf).2, by decide, by simp; omega, by simp⟩
 ·exact ⟨(xX (by simp) hf).1, (xX (by simp) hf).2, by decide, by simp; omega, by simp⟩
 ·exact ⟨(xX (by simp) hf).1, (xX (by simp) hf).2, by decide, by simp; omega, by simp⟩
 ·exact ⟨(xX (by simp) hf).1, (xX (by simp) hf).2, by decide, by simp; omega, by simp⟩
 ·exact ⟨(xX (by simp) hf).1, (xX (by simp) hf).2, by decide, by simp; omega, by simp⟩
 ·have e : eX 10 [1, w, w] 0 0 = w := by
   show (if (1 : Int) ≠ 1 ∨ w ≠ w then 0 else w) = w
   rw [if_neg (by simp)]
  refine ⟨?_, e, by decide, by simp; omega, by simp⟩
  unfold iC
  rw [e]
  simp [hf]; decide
 ·split
  ·exact ⟨(xX (by simp) hf).1, (xX (by simp) hf).2, by decide, by simp; omega, by simp⟩
  ·have hw1 : w = 1 := by omega
   subst hw1
   have ha : bZ [v, v] = v := by unfold bZ; rw [if_neg (by simp)]; rfl
   have e : eX 8 [v, v] 0 0 = 1 := by
    show min (bZ [v, v]) 1 = 1
    rw [ha]; omega
   refine ⟨?_, e, by decide, by simp; omega, by simp⟩
   unfold iC
   rw [e]
   simp [hfv]; decide
 ·split
  ·exact ⟨(xX (by simp) hf).1, (xX (by simp) hf).2, by decide, by simp; omega, by simp⟩
  ·have hw1 : w = 1 := by omega
   subst hw1
   have ha : bZ [v, v] = v := by unfold bZ; rw [if_neg (by simp)]; rfl
   have e : eX 9 [v, v] 0 0 = 1 := by
    show min (bZ [v, v]) 1 = 1
    rw [ha]; omega
   refine ⟨?_, e, by decide, by simp; omega, by simp⟩
   unfold iC
   rw [e]
   simp [hfv]; decide
 ·split
  ·exact ⟨(xX (by simp) hf).1, (xX (by simp) hf).2, by decide, by simp; omega, by simp⟩
  ·have e : eX 11 [w - 1, 1] 0 0 = w := by
    show (w - 1) + 1 = w
    omega
   have hf1 : aI (w - 1) = true := aM.2 ⟨by omega, by omega⟩
   refine ⟨?_, e, by decide, by simp; omega, by simp⟩
   unfold iC
   rw [e]
   simp [hf, hf1]; decide
theorem r7 {s : Sg} {b : List Int} (hb : fQ b) : ∀ (d i : Nat) (w : Int), d ≤ 3 → 1 ≤ w → w + d ≤ 8 → dp s.sc (ao s b d i w).1 = some w ∧ eC (ao s b d i w).1 ≤ max d 1 ∧ i ≤ (ao s b d i w).2 ∧ (ao s b d i w).2 ≤ i + 4 ^ d := by
 intro d
 induction d with
 | zero =>
  intro i w h3 h1 h2
  have hy := bW hb i
  obtain ⟨q1, q2, q3⟩ := Ab (s := s) (w := w) (b := b.getD i 0 / 14) (aM.2 ⟨h1, by omega⟩) (by omega)
  rw [ao]
  exact ⟨q1, by show eC (a6 s w (b.getD i 0 / 14)) ≤ 1; omega, by show i ≤ i + 1; omega, by show i + 1 ≤ i + 4 ^ 0; omega⟩
 | succ d ih =>
  intro i w h3 h1 h2
  have hy := bW hb i
  have hp : 1 ≤ 4 ^ d := Nat.one_le_pow _ _ (by omega)
  have hpow : 4 ^ (d + 1) = 4 * 4 ^ d := by rw [Nat.pow_succ]; omega
  rw [ao]
  split
  ·obtain ⟨q1, q2, q3⟩ := Ab (s := s) (w := w) (b := b.getD i 0 / 14) (aM.2 ⟨h1, by omega⟩) (by omega)
   exact ⟨q1, by show eC (a6 s w (b.getD i 0 / 14)) ≤ _; omega, by show i ≤ i + 1; omega, by show i + 1 ≤ i + 4 ^ (d + 1); omega⟩
  ·rename_i hn
   simp only [not_or] at hn
   split
   ·generalize hz : b.getD i 0 / 14 = z
    have hz0 : 0 ≤ z := by omega
    unfold bn
    split
    ·rename_i m hm
     split at hm
     ·obtain ⟨e1, e2, e3⟩ := ub hm
      obtain ⟨q1, q2, q3, q4⟩ := ih (i + 1) (1 + z / 3 % 3) (by omega) (by omega) (by omega)
      refine ⟨?_, ?_, by simp only; omega, by simp only; omega⟩
      ·simp only
       rw [dp, dp.tyL, q1, dp.tyL]
       simp only
       rw [if_neg (by decide), if_neg (by decide), if_pos trivial]
       have hl : (s.sc.mw.length : Int) = s.mems.length := by show ((s.mems.map (·.w)).length : Int) = _; simp
       rw [if_pos ⟨rfl, by simp, by rw [hl]; show ((m : Nat) : Int) < _; omega⟩]
       show some ((s.mems.map (·.w)).getD (m : Int).toNat 0) = some w
       rw [Int.toNat_natCast, cJ (·.w) s.mems m ax 0 (by omega), e3]
      ·rw [eC, eC.depL, eC.depL]; omega
     ·cases hm
    ·rename_i hm
     split
     ·rename_i hc
      obtain ⟨q1, q2, q3, q4⟩ := ih (i + 1) (w - 1) (by omega) (by omega) (by omega)
      refine ⟨?_, ?_, by simp only; omega, by simp only; omega⟩
      ·simp only
       rw [dp, dp.tyL, q1, dp.tyL]
       simp only
       rw [if_neg (by decide), if_neg (by decide), if_neg (by decide)]
       have e : eX 13 [w - 1] 0 w = w := by
        show (if w < w - 1 then 0 else w) = w
        rw [if_neg (by omega)]
       have ho : iC 13 [w - 1] 0 w = true := by
        unfold iC
        rw [e]
        have f1 : aI w = true := aM.2 ⟨h1, by omega⟩
        have f2 : aI (w - 1) = true := aM.2 ⟨by omega, by omega⟩
        simp [f1, f2]; decide
       rw [if_pos ho, e]
      ·rw [eC, eC.depL, eC.depL]; omega
     ·have hm2 : z / 3 % 2 = 0 ∨ z / 3 % 2 = 1 := by omega
      obtain ⟨q1, q2, q3, q4⟩ := ih (i + 1) (w + z / 3 % 2) (by omega) (by omega) (by omega)
      refine ⟨?_, ?_, by simp only; omega, by simp only; omega⟩
      ·simp only
       rw [dp, dp.tyL, q1, dp.tyL]
       simp only
       rw [if_neg (by decide), if_neg (by decide), if_neg (by decide)]
       have f1 : aI w = true := aM.2 ⟨h1, by omega⟩
       have f2 : aI (w + z / 3 % 2) = true := aM.2 ⟨by omega, by omega⟩
       have e : eX 12 [w + z / 3 % 2] (z / 3 % 2) w = w := by
        show (if aI w = false ∨ z / 3 % 2 < 0 ∨ (w + z / 3 % 2) - w < z / 3 % 2 then 0 else w) = w
        rw [if_neg]
        rintro (hh | hh | hh)
        ·rw [f1] at hh; cases hh
        ·omega
        ·omega
       have ho : iC 12 [w + z / 3 % 2] (z / 3 % 2) w = true := by
        unfold iC
        rw [e]
        simp [f1, f2]; decide
       rw [if_pos ho, e]
      ·rw [eC, eC.depL, eC.depL]; omega
   ·obtain ⟨o1, o2, o3, o4, o5⟩ := Dr (y := b.getD i 0) (w := w) (by omega) hy.1 h1 (by omega)
    have key : ∀ v ∈ iQ (b.getD i 0) w, ∀ i, dp s.sc (ao s b d i v).1 = some v ∧ eC (ao s b d i v).1 ≤ max d 1 ∧ i ≤ (ao s b d i v).2 ∧ (ao s b d i v).2 ≤ i + 4 ^ d := by
     intro v hv j
     have := o4 v hv
     exact ih j v (by omega) this.1 (by omega)
    have hty := Ac (c := s.sc) (t := ao s b d) (iQ (b.getD i 0) w) (i + 1) (fun v hv j => (key v hv j).1)
    have hdp := w3 (t := ao s b d) (n := max d 1) (iQ (b.getD i 0) w) (i + 1) (fun v hv j => (key v hv j).2.1)
    have hps := r6 (t := ao s b d) (n := 4 ^ d) (iQ (b.getD i 0) w) (i + 1) (fun v hv j => (key v hv j).2.2)
    refine ⟨?_, ?_, by simp only; omega, ?_⟩
    ·rw [dp, hty]
     simp only
     rw [if_neg o3.1, if_neg o3.2.1, if_neg o3.2.2, if_pos o1, o2]
    ·rw [eC]; omega
    ·simp only
     have : 4 ^ d * (iQ (b.getD i 0) w).length ≤ 4 ^ d * 3 := Nat.mul_le_mul_left _ o5
     omega
theorem Ds {s : Sg} {w b : Int} (h : (cj s w).length = 0 ∨ b % 4 = 0) : a6 s w b = dT (b / 4) w := if_pos h
theorem Dt {s : Sg} {w b : Int} (h1 : ¬((cj s w).length : Int) = 0) (h2 : ¬b % 4 = 0) : a6 s w b = (cj s w).getD (b / 4 % ((cj s w).length : Int)).toNat dE := if_neg (by rintro (h | h) <;> omega)
theorem ud (s : Sg) (w b : Int) : (a6 s w b).args = [] := by
 unfold a6
 split
 ·rfl
 ·by_cases h : (b / 4 % ((cj s w).length : Int)).toNat < (cj s w).length
  ·exact (Dq (lz h)).2.1
  ·rw [List.getD, List.getElem?_eq_none (by omega)]; rfl
theorem Jt {s : Sg} {t : Nat → Int → Ex × Nat} {w b : Int} {i k : Nat} (h : b % 3 = 0) (hm : mh s.mems w s.mems.length 0 = some k) : bn s t w b i = (⟨17, e0, ⟨k, e0⟩, dN, [(t i (1 + b / 3 % 3)).1]⟩, (t i (1 + b / 3 % 3)).2) := by
 unfold bn; rw [if_pos h, hm]
theorem Du {s : Sg} {t : Nat → Int → Ex × Nat} {w b : Int} {i : Nat} (h : b % 3 = 1) (hw : w > 1) : bn s t w b i = (⟨13, e0, dN, ⟨w, e0⟩, [(t i (w - 1)).1]⟩, (t i (w - 1)).2) := by
 unfold bn; rw [if_neg (by omega)]; simp only; rw [if_pos ⟨h, hw⟩]
theorem Dv {s : Sg} {t : Nat → Int → Ex × Nat} {w b : Int} {i : Nat} (hm : b % 3 = 0 → mh s.mems w s.mems.length 0 = none) (h : ¬(b % 3 = 1 ∧ w > 1)) : bn s t w b i = (⟨12, e0, ⟨b / 3 % 2, e0⟩, ⟨w, e0⟩, [(t i (w + b / 3 % 2)).1]⟩, (t i (w + b / 3 % 2)).2) := by
 unfold bn
 have e : (if b % 3 = 0 then mh s.mems w s.mems.length 0 else none) = none := by split; exact hm ‹_›; rfl
 rw [e]; simp only; rw [if_neg h]
theorem Ad {l : List Mm} {w : Int} {k : Nat} (hk : k < l.length) (h : ¬(l.getD k ax).w = w) : mh l w (l.length - k) k = mh l w (l.length - (k + 1)) (k + 1) := by
 have e : l.length - k = (l.length - (k + 1)) + 1 := by omega
 rw [e, mh, if_neg h]
theorem Dw {l : List Mm} {w : Int} {k : Nat} (hk : k < l.length) (h : (l.getD k ax).w = w) : mh l w (l.length - k) k = some k := by
 have e : l.length - k = (l.length - (k + 1)) + 1 := by omega
 rw [e, mh, if_pos h]
theorem r8 {l : List Mm} {w : Int} {k : Nat} (hk : ¬k < l.length) : mh l w (l.length - k) k = none := by
 have e : l.length - k = 0 := by omega
 rw [e, mh]
theorem Dx {s : Sg} {b : List Int} {d i : Nat} {w : Int} (h : d ≤ 1) : ao s b d i w = (a6 s w (b.getD i 0 / 14), i + 1) := by
 cases d with
 | zero => rfl
 | succ d => rw [ao]; rw [if_pos (.inl (by omega))]
theorem HM {s : Sg} {b : List Int} {d i : Nat} {w : Int} (h : b.getD i 0 % 14 < 2) : ao s b (d + 1 + 1) i w = (a6 s w (b.getD i 0 / 14), i + 1) := by
 rw [ao]; rw [if_pos (.inr h)]
theorem Dy {s : Sg} {b : List Int} {d i : Nat} {w : Int} (h : b.getD i 0 % 14 = 2 ∨ b.getD i 0 % 14 = 3) : ao s b (d + 1 + 1) i w = bn s (ao s b (d + 1)) w (b.getD i 0 / 14) (i + 1) := by
 rw [ao]; rw [if_neg (by omega), if_pos h]
theorem yI {s : Sg} {b : List Int} {d i : Nat} {w : Int} (h : ¬b.getD i 0 % 14 < 2) (h2 : ¬b.getD i 0 % 14 = 2) (h3 : ¬b.getD i 0 % 14 = 3) : ao s b (d + 1 + 1) i w = (⟨pz (b.getD i 0) w, e0, dN, dN, (bi (ao s b (d + 1)) (iQ (b.getD i 0) w) (i + 1)).1⟩, (bi (ao s b (d + 1)) (iQ (b.getD i 0) w) (i + 1)).2) := by
 rw [ao]; rw [if_neg (by omega), if_neg (by omega)]
theorem pB {t : Nat → Int → Ex × Nat} : ∀ (l : List Int) (i k : Nat), k < l.length → bi t (l.take (k + 1)) i = ((bi t (l.take k) i).1 ++ [(t (bi t (l.take k) i).2 (l.getD k 0)).1], (t (bi t (l.take k) i).2 (l.getD k 0)).2)
 | [], i, k, h => by cases h
 | w :: r, i, 0, h => by simp [bi]
 | w :: r, i, k + 1, h => by
  simp only [List.take_succ_cons, bi]
  rw [pB r _ k (by simpa using h)]
  simp
theorem HN {s : Sg} {b : List Int} (hb : fQ b) {y w : Int} {d k : Nat} (i : Nat) (h1 : 1 ≤ w) (h2 : w + (d + 2 : Nat) ≤ 8) (h3 : d + 2 ≤ 3) (hy : 4 ≤ y % 14) (hy0 : 0 ≤ y) (hk : k < (iQ y w).length) : 1 ≤ (iQ y w).getD k 0 ∧ (iQ y w).getD k 0 + (d + 1 : Nat) ≤ 8 ∧ i ≤ (bi (ao s b (d + 1)) ((iQ y w).take k) i).2 ∧ (bi (ao s b (d + 1)) ((iQ y w).take k) i).2 + 4 ^ (d + 1) + 1 ≤ i + 4 ^ (d + 2) := by
 obtain ⟨o1, o2, o3, o4, o5⟩ := Dr hy hy0 h1 (by omega : w ≤ 8)
 have hm : (iQ y w).getD k 0 ∈ iQ y w := by
  rw [List.getD, List.getElem?_eq_getElem hk]; exact List.getElem_mem hk
 have hv := o4 _ hm
 have hps := r6 (t := ao s b (d + 1)) (n := 4 ^ (d + 1)) ((iQ y w).take k) i (fun v hv j => by
  have hh := o4 v (List.mem_of_mem_take hv)
  exact (r7 hb (d + 1) j v (by omega) hh.1 (by omega)).2.2)
 have hl : ((iQ y w).take k).length ≤ 2 := by rw [List.length_take]; omega
 have hq : 4 ^ (d + 1) * ((iQ y w).take k).length ≤ 4 ^ (d + 1) * 2 := Nat.mul_le_mul_left _ hl
 have hp : 1 ≤ 4 ^ (d + 1) := Nat.one_le_pow _ _ (by omega)
 have hpow : 4 ^ (d + 2) = 4 * 4 ^ (d + 1) := by rw [Nat.pow_succ]; omega
 exact ⟨hv.1, by omega, hps.1, by omega⟩
theorem LZ {x : Int} {n : Nat} (h : ¬(n : Int) = 0) : IX (x % (n : Int)) (n : Int) := ⟨Int.emod_nonneg x h, Int.emod_lt_of_pos x (by omega)⟩
end Go.Proofs.Ytnlmlkbaflmgcaa
