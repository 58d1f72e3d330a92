/-
  Made processes, plain law: expressions that bytes describe.
-/
import Derived.Test.YtckgpflobhpnpaaQPrQ
namespace Go.Proofs.Ytckgpflobhpnpaa
open Go.RowKit
set_option linter.unusedVariables false
set_option linter.unusedSimpArgs false
def lL (b : List Int) : Prop := ∀ x ∈ b, 0 ≤ x ∧ x ≤ 255
theorem eh {b : List Int} (h : lL b) (i : Nat) : 0 ≤ b.getD i 0 ∧ b.getD i 0 ≤ 255 := by
 by_cases hi : i < b.length
 ·simp only [List.getD, List.getElem?_eq_getElem hi, Option.getD_some]
  exact h _ (List.getElem_mem hi)
 ·simp [List.getD, List.getElem?_eq_none (Nat.le_of_not_lt hi)]
structure Sg where
 regs : List Int
 takes : List Int
 mems : List Mm
 data : Bool
def Sg.sc (s : Sg) : Sc := ⟨s.regs, s.mems.map (·.w), if s.data then s.takes else []⟩
def en (v w : Int) : Ex := ⟨1, e0, ⟨v % 2 ^ w.toNat, e0⟩, ⟨w, e0⟩, []⟩
def D6 (i : Nat) : Ex := ⟨16, e0, ⟨i, e0⟩, dN, []⟩
def FL (i : Nat) : Ex := ⟨18, e0, ⟨i, e0⟩, dN, []⟩
def eE (f : Nat → Ex) (w : Int) (l : List Int) : Nat → List Ex
 | 0 => []
 | k + 1 => eE f w l k ++ (if l.getD k 0 = w then [f k] else [])
def cz (s : Sg) (w : Int) : List Ex := eE D6 w s.regs s.regs.length ++ (if s.data then eE FL w s.takes s.takes.length else [])
def a8 (s : Sg) (w b : Int) : Ex := if (cz s w).length = 0 ∨ b % 4 = 0 then en (b / 4) w else (cz s w).getD (b / 4 % (cz s w).length).toNat dE
def ow (l : List Mm) (w : Int) : Nat → Nat → Option Nat
 | 0, _ => none
 | n + 1, k => if (l.getD k bf).w = w then some k else ow l w n (k + 1)
def iG (k : Int) : Int := [2, 3, 4, 5, 6, 7, 10, 8, 9, 11].getD (k - 4).toNat 0
def rS (y w : Int) : Int := let o := iG (y % 14); if (o = 8 ∨ o = 9) ∧ w > 1 then 5 else if o = 11 ∧ w = 1 then 3 else o
def jk (y w : Int) : List Int := let o := iG (y % 14)
 if o = 2 then [w] else if o = 10 then [1, w, w] else if o = 8 ∨ o = 9 then (if w > 1 then [w, w] else [1 + y / 14 % 3, 1 + y / 14 % 3]) else if o = 11 then (if w = 1 then [w, w] else [w - 1, 1]) else [w, w]
def bk (t : Nat → Int → Ex × Nat) : List Int → Nat → List Ex × Nat
 | [], i => ([], i)
 | w :: r, i => ((t i w).1 :: (bk t r (t i w).2).1, (bk t r (t i w).2).2)
def bt (s : Sg) (t : Nat → Int → Ex × Nat) (w b : Int) (i : Nat) : Ex × Nat :=
 match (if b % 3 = 0 then ow s.mems w s.mems.length 0 else none) with
 | some m => let x := t i (1 + b / 3 % 3); (⟨17, e0, ⟨m, e0⟩, dN, [x.1]⟩, x.2)
 | none => if b % 3 = 1 ∧ w > 1 then let x := t i (w - 1); (⟨13, e0, dN, ⟨w, e0⟩, [x.1]⟩, x.2)
  else let x := t i (w + b / 3 % 2); (⟨12, e0, ⟨b / 3 % 2, e0⟩, ⟨w, e0⟩, [x.1]⟩, x.2)
def ak (s : Sg) (b : List Int) : Nat → Nat → Int → Ex × Nat
 | 0, i, w => (a8 s w (b.getD i 0 / 14), i + 1)
 | d + 1, i, w =>
  let y := b.getD i 0
  if d = 0 ∨ y % 14 < 2 then (a8 s w (y / 14), i + 1)
  else if y % 14 = 2 ∨ y % 14 = 3 then bt s (ak s b d) w (y / 14) (i + 1)
  else (⟨rS y w, e0, dN, dN, (bk (ak s b d) (jk y w) (i + 1)).1⟩, (bk (ak s b d) (jk y w) (i + 1)).2)
theorem Cv {s : Sg} {w : Int} {acc : List Ex} {j : Nat} (h : acc = eE D6 w s.regs s.regs.length ++ eE FL w s.takes j) (h0 : s.data = false → j = 0) (h1 : s.data = true → j = s.takes.length) : acc = cz s w := by
 rw [h]; unfold cz
 cases hs : s.data
 ·rw [h0 hs]; simp [eE]
 ·rw [h1 hs]; simp
theorem nu {f : Nat → Ex} {w : Int} {l : List Int} {k : Nat} (h : l.getD k 0 = w) : eE f w l k ++ [f k] = eE f w l (k + 1) := by rw [eE, if_pos h]
theorem qB {f : Nat → Ex} {w : Int} {l : List Int} {k : Nat} (h : ¬l.getD k 0 = w) : eE f w l k = eE f w l (k + 1) := by rw [eE, if_neg h, List.append_nil]
theorem Ih (s : Sg) (w : Int) : (cz s w).length ≤ s.regs.length + s.takes.length := by
 have key : ∀ (f : Nat → Ex) (l : List Int) (k : Nat), (eE f w l k).length ≤ k := by
  intro f l k
  induction k with
  | zero => simp [eE]
  | succ k ih => rw [eE]; simp only [List.length_append]; split <;> simp <;> omega
 unfold cz
 have h1 := key D6 s.regs s.regs.length
 have h2 := key FL s.takes s.takes.length
 rw [List.length_append]
 split
 ·omega
 ·simp; omega
theorem rT {f : Nat → Ex} {w : Int} {l : List Int} {e : Ex} : ∀ (k : Nat), e ∈ eE f w l k → ∃ i, i < k ∧ e = f i ∧ l.getD i 0 = w
 | 0, h => by cases h
 | k + 1, h => by
  rw [eE, List.mem_append] at h
  rcases h with h | h
  ·obtain ⟨i, h1, h2⟩ := rT k h; exact ⟨i, by omega, h2⟩
  ·split at h
   ·rename_i hw
    simp only [List.mem_singleton] at h
    exact ⟨k, by omega, h, hw⟩
   ·cases h
theorem Kg {c : Sc} {v w : Int} (hw : ay w = true) : e9 c (en v w) = some w := by
 have h := bo.1 hw
 unfold en
 rw [e9, e9.tyL]
 simp only
 rw [if_neg (by decide), if_neg (by decide), if_neg (by decide)]
 have hm := tx (x := v) (w := w) (by omega) (by omega)
 have e : bh 1 [] (v % 2 ^ w.toNat) w = w := by
  show (if ay w = false ∨ v % 2 ^ w.toNat < 0 ∨ an w < v % 2 ^ w.toNat then 0 else w) = w
  rw [if_neg]
  rintro (h1 | h1 | h1)
  ·rw [hw] at h1; cases h1
  ·have := hm.1; omega
  ·have := hm.2; omega
 have ho : oq 1 [] (v % 2 ^ w.toNat) w = true := by
  unfold oq
  rw [e, hw]
  rfl
 rw [if_pos ho, e]
theorem FM {s : Sg} {w : Int} {e : Ex} (h : e ∈ cz s w) : e9 s.sc e = some w ∧ e.args = [] ∧ fS e = 1 := by
 unfold cz at h
 rw [List.mem_append] at h
 rcases h with h | h
 ·obtain ⟨i, h1, rfl, h2⟩ := rT _ h
  refine ⟨?_, rfl, rfl⟩
  unfold D6
  rw [e9, e9.tyL]
  simp only
  rw [if_pos trivial, if_pos ⟨by trivial, by simp, by show ((i : Nat) : Int) < (s.regs.length : Int); omega⟩]
  show some (s.regs.getD (i : Int).toNat 0) = some w
  rw [Int.toNat_natCast, h2]
 ·split at h
  ·rename_i hd
   obtain ⟨i, h1, rfl, h2⟩ := rT _ h
   refine ⟨?_, rfl, rfl⟩
   have ht : s.sc.tw = s.takes := by show (if s.data then s.takes else []) = s.takes; rw [if_pos hd]
   unfold FL
   rw [e9, e9.tyL]
   simp only
   rw [if_neg (by decide), if_pos trivial, ht, if_pos ⟨by trivial, by simp, by omega⟩, Int.toNat_natCast, h2]
  ·cases h
theorem Cw {s : Sg} {w b : Int} (hw : ay w = true) (hb : 0 ≤ b) : e9 s.sc (a8 s w b) = some w ∧ (a8 s w b).args = [] ∧ fS (a8 s w b) = 1 := by
 unfold a8
 split
 ·exact ⟨Kg hw, rfl, rfl⟩
 ·rename_i hn
  simp only [not_or] at hn
  have h1 := Int.emod_lt_of_pos (b / 4) (show (0 : Int) < ((cz s w).length : Int) by omega)
  have h0 := Int.emod_nonneg (b / 4) (show ((cz s w).length : Int) ≠ 0 by omega)
  exact FM (ns (by omega))
theorem wA {l : List Mm} {w : Int} : ∀ {n k m : Nat}, ow l w n k = some m → k ≤ m ∧ m < k + n ∧ (l.getD m bf).w = w
 | 0, k, m, h => by cases h
 | n + 1, k, m, h => by
  rw [ow] at h
  split at h
  ·rename_i hw; cases h; exact ⟨by omega, by omega, hw⟩
  ·obtain ⟨h1, h2, h3⟩ := wA h; exact ⟨by omega, by omega, h3⟩
theorem zl {t : Nat → Int → Ex × Nat} : ∀ (ws : List Int) (i : Nat), (bk t ws i).1.length = ws.length
 | [], i => rfl
 | w :: r, i => by rw [bk]; simp [zl r]
theorem Cx {c : Sc} {t : Nat → Int → Ex × Nat} : ∀ (ws : List Int) (i : Nat), (∀ w ∈ ws, ∀ i, e9 c (t i w).1 = some w) → e9.tyL c (bk t ws i).1 = some ws
 | [], i, _ => rfl
 | w :: r, i, h => by
  rw [bk, e9.tyL, h w (by simp) i, Cx r _ (fun w hw => h w (by simp [hw]))]
theorem zm {t : Nat → Int → Ex × Nat} {n : Nat} : ∀ (ws : List Int) (i : Nat), (∀ w ∈ ws, ∀ i, fS (t i w).1 ≤ n) → fS.depL (bk t ws i).1 ≤ n
 | [], i, _ => by rw [bk, fS.depL]; exact Nat.zero_le _
 | w :: r, i, h => by
  rw [bk, fS.depL]
  have h1 := h w (by simp) i
  have h2 := zm r (t i w).2 (fun w hw => h w (by simp [hw]))
  omega
theorem uQ {t : Nat → Int → Ex × Nat} {n : Nat} : ∀ (ws : List Int) (i : Nat), (∀ w ∈ ws, ∀ i, i ≤ (t i w).2 ∧ (t i w).2 ≤ i + n) → i ≤ (bk t ws i).2 ∧ (bk t ws i).2 ≤ i + n * ws.length
 | [], i, _ => ⟨Nat.le_refl _, Nat.le_add_right _ _⟩
 | w :: r, i, h => by
  rw [bk]
  have h1 := h w (by simp) i
  have h2 := uQ r (t i w).2 (fun w hw => h w (by simp [hw]))
  have : n * (w :: r).length = n * r.length + n := by rw [List.length_cons, Nat.mul_succ]
  show i ≤ (bk t r (t i w).2).2 ∧ (bk t r (t i w).2).2 ≤ i + n * (w :: r).length
  omega
theorem D7 {k : Int} (h : 4 ≤ k) (h2 : k < 14) : iG k = 2 ∨ iG k = 3 ∨ iG k = 4 ∨ iG k = 5 ∨ iG k = 6 ∨ iG k = 7 ∨ iG k = 10 ∨ iG k = 8 ∨ iG k = 9 ∨ iG k = 11 := by
 have : k = 4 ∨ k = 5 ∨ k = 6 ∨ k = 7 ∨ k = 8 ∨ k = 9 ∨ k = 10 ∨ k = 11 ∨ k = 12 ∨ k = 13 := by omega
 rcases this with rfl | rfl | rfl | rfl | rfl | rfl | rfl | rfl | rfl | rfl <;> decide
theorem z6 {op : Int} {w k v : Int} (hop : op = 3 ∨ op = 4 ∨ op = 5 ∨ op = 6 ∨ op = 7) (hw : ay w = true) : oq op [w, w] k v = true ∧ bh op [w, w] k v = w := by
 have e : ∀ op, bh op [w, w] k v = w ∨ True := fun _ => .inr trivial
 have ha : bW [w, w] = w := by unfold bW; rw [if_neg (by simp)]; rfl
 have hv : bh op [w, w] k v = bW [w, w] := by rcases hop with rfl | rfl | rfl | rfl | rfl <;> rfl
 have hA : bE op = 2 := by rcases hop with rfl | rfl | rfl | rfl | rfl <;> decide
 refine ⟨?_, by rw [hv, ha]⟩
 unfold oq
 rw [hv, ha, hA]
 simp [hw]
theorem FN {y w : Int} (hk : 4 ≤ y % 14) (h0 : 0 ≤ y) (hw : 1 ≤ w) (hw8 : w ≤ 8) : oq (rS y w) (jk y w) 0 0 = true ∧ bh (rS y w) (jk y w) 0 0 = w ∧ (rS y w ≠ 16 ∧ rS y w ≠ 18 ∧ rS y w ≠ 17) ∧ (∀ v ∈ jk y w, 1 ≤ v ∧ (v ≤ w ∨ v ≤ 3)) ∧ (jk y w).length ≤ 3 := by
 have hf : ay w = true := bo.2 ⟨hw, hw8⟩
 have hc := D7 hk (by omega)
 unfold rS jk
 simp only
 have hn : (1 : Int) ≤ 1 + y / 14 % 3 ∧ 1 + y / 14 % 3 ≤ 3 := by omega
 generalize hv : 1 + y / 14 % 3 = v at *
 have hfv : ay v = true := bo.2 ⟨hn.1, by omega⟩
 rcases hc with h | h | h | h | h | h | h | h | h | h <;> rw [h] <;> simp only [Int.reduceEq, false_or, or_false, false_and, if_false, true_and, if_true, or_true, true_or]
 ·refine ⟨?_, rfl, by decide, by simp; omega, by simp⟩
  show (decide (([w].length : Int) = bE 2) && [w].all ay && ay w) = true
  simp [hf]; decide
 ·exact ⟨(z6 (by simp) hf).1, (z6 (by simp) hf).2, by decide, by simp; omega, by simp⟩
 ·exact ⟨(z6 (by simp) hf).1, (z6 (by simp) hf).2, by decide, by simp; omega, by simp⟩
 ·exact ⟨(z6 (by simp) hf).1, (z6 (by simp) hf).2, by decide, by simp; omega, by simp⟩
 ·exact ⟨(z6 (by simp) hf).1, (z6 (by simp) hf).2, by decide, by simp; omega, by simp⟩
 ·exact ⟨(z6 (by simp) hf).1, (z6 (by simp) hf).2, by decide, by simp; omega, by simp⟩
 ·have e : bh 10 [1, w, w] 0 0 = w := by
   show (if (1 : Int) ≠ 1 ∨ w ≠ w then 0 else w) = w
   rw [if_neg (by simp)]
  refine ⟨?_, e, by decide, by simp; omega, by simp⟩
  unfold oq
  rw [e]
  simp [hf]; decide
 ·split
  ·exact ⟨(z6 (by simp) hf).1, (z6 (by simp) hf).2, by decide, by simp; omega, by simp⟩
  ·have hw1 : w = 1 := by omega
   subst hw1
   have ha : bW [v, v] = v := by unfold bW; rw [if_neg (by simp)]; rfl
   have e : bh 8 [v, v] 0 0 = 1 := by
    show min (bW [v, v]) 1 = 1
    rw [ha]; omega
   refine ⟨?_, e, by decide, by simp; omega, by simp⟩
   unfold oq
   rw [e]
   simp [hfv]; decide
 ·split
  ·exact ⟨(z6 (by simp) hf).1, (z6 (by simp) hf).2, by decide, by simp; omega, by simp⟩
  ·have hw1 : w = 1 := by omega
   subst hw1
   have ha : bW [v, v] = v := by unfold bW; rw [if_neg (by simp)]; rfl
   have e : bh 9 [v, v] 0 0 = 1 := by
    show min (bW [v, v]) 1 = 1
    rw [ha]; omega
   refine ⟨?_, e, by decide, by simp; omega, by simp⟩
   unfold oq
   rw [e]
   simp [hfv]; decide
 ·split
  ·exact ⟨(z6 (by simp) hf).1, (z6 (by simp) hf).2, by decide, by simp; omega, by simp⟩
  ·have e : bh 11 [w - 1, 1] 0 0 = w := by
    show (w - 1) + 1 = w
    omega
   have hf1 : ay (w - 1) = true := bo.2 ⟨by omega, by omega⟩
   refine ⟨?_, e, by decide, by simp; omega, by simp⟩
   unfold oq
   rw [e]
   simp [hf, hf1]; decide
theorem uR {s : Sg} {b : List Int} (hb : lL b) : ∀ (d i : Nat) (w : Int), d ≤ 3 → 1 ≤ w → w + d ≤ 8 → e9 s.sc (ak s b d i w).1 = some w ∧ fS (ak s b d i w).1 ≤ max d 1 ∧ i ≤ (ak s b d i w).2 ∧ (ak s b d i w).2 ≤ i + 4 ^ d := by
 intro d
 induction d with
 | zero =>
  intro i w h3 h1 h2
  have hy := eh hb i
  obtain ⟨q1, q2, q3⟩ := Cw (s := s) (w := w) (b := b.getD i 0 / 14) (bo.2 ⟨h1, by omega⟩) (by omega)
  rw [ak]
  exact ⟨q1, by show fS (a8 s w (b.getD i 0 / 14)) ≤ 1; omega, by show i ≤ i + 1; omega, by show i + 1 ≤ i + 4 ^ 0; omega⟩
 | succ d ih =>
  intro i w h3 h1 h2
  have hy := eh hb i
  have hp : 1 ≤ 4 ^ d := Nat.one_le_pow _ _ (by omega)
  have hpow : 4 ^ (d + 1) = 4 * 4 ^ d := by rw [Nat.pow_succ]; omega
  rw [ak]
  split
  ·obtain ⟨q1, q2, q3⟩ := Cw (s := s) (w := w) (b := b.getD i 0 / 14) (bo.2 ⟨h1, by omega⟩) (by omega)
   exact ⟨q1, by show fS (a8 s w (b.getD i 0 / 14)) ≤ _; omega, by show i ≤ i + 1; omega, by show i + 1 ≤ i + 4 ^ (d + 1); omega⟩
  ·rename_i hn
   simp only [not_or] at hn
   split
   ·generalize hz : b.getD i 0 / 14 = z
    have hz0 : 0 ≤ z := by omega
    unfold bt
    split
    ·rename_i m hm
     split at hm
     ·obtain ⟨e1, e2, e3⟩ := wA hm
      obtain ⟨q1, q2, q3, q4⟩ := ih (i + 1) (1 + z / 3 % 3) (by omega) (by omega) (by omega)
      refine ⟨?_, ?_, by simp only; omega, by simp only; omega⟩
      ·simp only
       rw [e9, e9.tyL, q1, e9.tyL]
       simp only
       rw [if_neg (by decide), if_neg (by decide), if_pos trivial]
       have hl : (s.sc.mw.length : Int) = s.mems.length := by show ((s.mems.map (·.w)).length : Int) = _; simp
       rw [if_pos ⟨rfl, by simp, by rw [hl]; show ((m : Nat) : Int) < _; omega⟩]
       show some ((s.mems.map (·.w)).getD (m : Int).toNat 0) = some w
       rw [Int.toNat_natCast, cY (·.w) s.mems m bf 0 (by omega), e3]
      ·rw [fS, fS.depL, fS.depL]; omega
     ·cases hm
    ·rename_i hm
     split
     ·rename_i hc
      obtain ⟨q1, q2, q3, q4⟩ := ih (i + 1) (w - 1) (by omega) (by omega) (by omega)
      refine ⟨?_, ?_, by simp only; omega, by simp only; omega⟩
      ·simp only
       rw [e9, e9.tyL, q1, e9.tyL]
       simp only
       rw [if_neg (by decide), if_neg (by decide), if_neg (by decide)]
       have e : bh 13 [w - 1] 0 w = w := by
        show (if w < w - 1 then 0 else w) = w
        rw [if_neg (by omega)]
       have ho : oq 13 [w - 1] 0 w = true := by
        unfold oq
        rw [e]
        have f1 : ay w = true := bo.2 ⟨h1, by omega⟩
        have f2 : ay (w - 1) = true := bo.2 ⟨by omega, by omega⟩
        simp [f1, f2]; decide
       rw [if_pos ho, e]
      ·rw [fS, fS.depL, fS.depL]; omega
     ·have hm2 : z / 3 % 2 = 0 ∨ z / 3 % 2 = 1 := by omega
      obtain ⟨q1, q2, q3, q4⟩ := ih (i + 1) (w + z / 3 % 2) (by omega) (by omega) (by omega)
      refine ⟨?_, ?_, by simp only; omega, by simp only; omega⟩
      ·simp only
       rw [e9, e9.tyL, q1, e9.tyL]
       simp only
       rw [if_neg (by decide), if_neg (by decide), if_neg (by decide)]
       have f1 : ay w = true := bo.2 ⟨h1, by omega⟩
       have f2 : ay (w + z / 3 % 2) = true := bo.2 ⟨by omega, by omega⟩
       have e : bh 12 [w + z / 3 % 2] (z / 3 % 2) w = w := by
        show (if ay w = false ∨ z / 3 % 2 < 0 ∨ (w + z / 3 % 2) - w < z / 3 % 2 then 0 else w) = w
        rw [if_neg]
        rintro (hh | hh | hh)
        ·rw [f1] at hh; cases hh
        ·omega
        ·omega
       have ho : oq 12 [w + z / 3 % 2] (z / 3 % 2) w = true := by
        unfold oq
        rw [e]
        simp [f1, f2]; decide
       rw [if_pos ho, e]
      ·rw [fS, fS.depL, fS.depL]; omega
   ·obtain ⟨o1, o2, o3, o4, o5⟩ := FN (y := b.getD i 0) (w := w) (by omega) hy.1 h1 (by omega)
    have key : ∀ v ∈ jk (b.getD i 0) w, ∀ i, e9 s.sc (ak s b d i v).1 = some v ∧ fS (ak s b d i v).1 ≤ max d 1 ∧ i ≤ (ak s b d i v).2 ∧ (ak s b d i v).2 ≤ i + 4 ^ d := by
     intro v hv j
     have := o4 v hv
     exact ih j v (by omega) this.1 (by omega)
    have hty := Cx (c := s.sc) (t := ak s b d) (jk (b.getD i 0) w) (i + 1) (fun v hv j => (key v hv j).1)
    have hdp := zm (t := ak s b d) (n := max d 1) (jk (b.getD i 0) w) (i + 1) (fun v hv j => (key v hv j).2.1)
    have hps := uQ (t := ak s b d) (n := 4 ^ d) (jk (b.getD i 0) w) (i + 1) (fun v hv j => (key v hv j).2.2)
    refine ⟨?_, ?_, by simp only; omega, ?_⟩
    ·rw [e9, hty]
     simp only
     rw [if_neg o3.1, if_neg o3.2.1, if_neg o3.2.2, if_pos o1, o2]
    ·rw [fS]; omega
    ·simp only
     have : 4 ^ d * (jk (b.getD i 0) w).length ≤ 4 ^ d * 3 := Nat.mul_le_mul_left _ o5
     omega
theorem FO {s : Sg} {w b : Int} (h : (cz s w).length = 0 ∨ b % 4 = 0) : a8 s w b = en (b / 4) w := if_pos h
theorem FP {s : Sg} {w b : Int} (h1 : ¬((cz s w).length : Int) = 0) (h2 : ¬b % 4 = 0) : a8 s w b = (cz s w).getD (b / 4 % ((cz s w).length : Int)).toNat dE := if_neg (by rintro (h | h) <;> omega)
theorem wB (s : Sg) (w b : Int) : (a8 s w b).args = [] := by
 unfold a8
 split
 ·rfl
 ·by_cases h : (b / 4 % ((cz s w).length : Int)).toNat < (cz s w).length
  ·exact (FM (ns h)).2.1
  ·rw [List.getD, List.getElem?_eq_none (by omega)]; rfl
theorem LL {s : Sg} {t : Nat → Int → Ex × Nat} {w b : Int} {i k : Nat} (h : b % 3 = 0) (hm : ow s.mems w s.mems.length 0 = some k) : bt s t w b i = (⟨17, e0, ⟨k, e0⟩, dN, [(t i (1 + b / 3 % 3)).1]⟩, (t i (1 + b / 3 % 3)).2) := by
 unfold bt; rw [if_pos h, hm]
theorem FQ {s : Sg} {t : Nat → Int → Ex × Nat} {w b : Int} {i : Nat} (h : b % 3 = 1) (hw : w > 1) : bt s t w b i = (⟨13, e0, dN, ⟨w, e0⟩, [(t i (w - 1)).1]⟩, (t i (w - 1)).2) := by
 unfold bt; rw [if_neg (by omega)]; simp only; rw [if_pos ⟨h, hw⟩]
theorem FR {s : Sg} {t : Nat → Int → Ex × Nat} {w b : Int} {i : Nat} (hm : b % 3 = 0 → ow s.mems w s.mems.length 0 = none) (h : ¬(b % 3 = 1 ∧ w > 1)) : bt s t w b i = (⟨12, e0, ⟨b / 3 % 2, e0⟩, ⟨w, e0⟩, [(t i (w + b / 3 % 2)).1]⟩, (t i (w + b / 3 % 2)).2) := by
 unfold bt
 have e : (if b % 3 = 0 then ow s.mems w s.mems.length 0 else none) = none := by split; exact hm ‹_›; rfl
 rw [e]; simp only; rw [if_neg h]
theorem Cy {l : List Mm} {w : Int} {k : Nat} (hk : k < l.length) (h : ¬(l.getD k bf).w = w) : ow l w (l.length - k) k = ow l w (l.length - (k + 1)) (k + 1) := by
 have e : l.length - k = (l.length - (k + 1)) + 1 := by omega
 rw [e, ow, if_neg h]
theorem FS {l : List Mm} {w : Int} {k : Nat} (hk : k < l.length) (h : (l.getD k bf).w = w) : ow l w (l.length - k) k = some k := by
 have e : l.length - k = (l.length - (k + 1)) + 1 := by omega
 rw [e, ow, if_pos h]
theorem uS {l : List Mm} {w : Int} {k : Nat} (hk : ¬k < l.length) : ow l w (l.length - k) k = none := by
 have e : l.length - k = 0 := by omega
 rw [e, ow]
theorem FT {s : Sg} {b : List Int} {d i : Nat} {w : Int} (h : d ≤ 1) : ak s b d i w = (a8 s w (b.getD i 0 / 14), i + 1) := by
 cases d with
 | zero => rfl
 | succ d => rw [ak]; rw [if_pos (.inl (by omega))]
theorem Kh {s : Sg} {b : List Int} {d i : Nat} {w : Int} (h : b.getD i 0 % 14 < 2) : ak s b (d + 1 + 1) i w = (a8 s w (b.getD i 0 / 14), i + 1) := by
 rw [ak]; rw [if_pos (.inr h)]
theorem FU {s : Sg} {b : List Int} {d i : Nat} {w : Int} (h : b.getD i 0 % 14 = 2 ∨ b.getD i 0 % 14 = 3) : ak s b (d + 1 + 1) i w = bt s (ak s b (d + 1)) w (b.getD i 0 / 14) (i + 1) := by
 rw [ak]; rw [if_neg (by omega), if_pos h]
theorem AQ {s : Sg} {b : List Int} {d i : Nat} {w : Int} (h : ¬b.getD i 0 % 14 < 2) (h2 : ¬b.getD i 0 % 14 = 2) (h3 : ¬b.getD i 0 % 14 = 3) : ak s b (d + 1 + 1) i w = (⟨rS (b.getD i 0) w, e0, dN, dN, (bk (ak s b (d + 1)) (jk (b.getD i 0) w) (i + 1)).1⟩, (bk (ak s b (d + 1)) (jk (b.getD i 0) w) (i + 1)).2) := by
 rw [ak]; rw [if_neg (by omega), if_neg (by omega)]
theorem rU {t : Nat → Int → Ex × Nat} : ∀ (l : List Int) (i k : Nat), k < l.length → bk t (l.take (k + 1)) i = ((bk t (l.take k) i).1 ++ [(t (bk t (l.take k) i).2 (l.getD k 0)).1], (t (bk t (l.take k) i).2 (l.getD k 0)).2)
 | [], i, k, h => by cases h
 | w :: r, i, 0, h => by simp [bk]
 | w :: r, i, k + 1, h => by
  simp only [List.take_succ_cons, bk]
  rw [rU r _ k (by simpa using h)]
  simp
theorem Ki {s : Sg} {b : List Int} (hb : lL b) {y w : Int} {d k : Nat} (i : Nat) (h1 : 1 ≤ w) (h2 : w + (d + 2 : Nat) ≤ 8) (h3 : d + 2 ≤ 3) (hy : 4 ≤ y % 14) (hy0 : 0 ≤ y) (hk : k < (jk y w).length) : 1 ≤ (jk y w).getD k 0 ∧ (jk y w).getD k 0 + (d + 1 : Nat) ≤ 8 ∧ i ≤ (bk (ak s b (d + 1)) ((jk y w).take k) i).2 ∧ (bk (ak s b (d + 1)) ((jk y w).take k) i).2 + 4 ^ (d + 1) + 1 ≤ i + 4 ^ (d + 2) := by
 obtain ⟨o1, o2, o3, o4, o5⟩ := FN hy hy0 h1 (by omega : w ≤ 8)
 have hm : (jk y w).getD k 0 ∈ jk y w := by
  rw [List.getD, List.getElem?_eq_getElem hk]; exact List.getElem_mem hk
 have hv := o4 _ hm
 have hps := uQ (t := ak s b (d + 1)) (n := 4 ^ (d + 1)) ((jk y w).take k) i (fun v hv j => by
  have hh := o4 v (List.mem_of_mem_take hv)
  exact (uR hb (d + 1) j v (by omega) hh.1 (by omega)).2.2)
 have hl : ((jk y w).take k).length ≤ 2 := by rw [List.length_take]; omega
 have hq : 4 ^ (d + 1) * ((jk y w).take k).length ≤ 4 ^ (d + 1) * 2 := Nat.mul_le_mul_left _ hl
 have hp : 1 ≤ 4 ^ (d + 1) := Nat.one_le_pow _ _ (by omega)
 have hpow : 4 ^ (d + 2) = 4 * 4 ^ (d + 1) := by rw [Nat.pow_succ]; omega
 exact ⟨hv.1, by omega, hps.1, by omega⟩
theorem Og {x : Int} {n : Nat} (h : ¬(n : Int) = 0) : IX (x % (n : Int)) (n : Int) := ⟨Int.emod_nonneg x h, Int.emod_lt_of_pos x (by omega)⟩
end Go.Proofs.Ytckgpflobhpnpaa
