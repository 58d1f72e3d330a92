/-
  Made processes, plain law: expressions that bytes describe.
-/
import Derived.Test.YtckgpflobhpnpaaGreatQPrQ
namespace Go.Proofs.YtckgpflobhpnpaaGreat
open Go.RowKit
set_option linter.unusedVariables false
set_option linter.unusedSimpArgs false
def lK (b : List Int) : Prop := ∀ x ∈ b, 0 ≤ x ∧ x ≤ 255
theorem di {b : List Int} (h : lK b) (i : Nat) : 0 ≤ b.getD i 0 ∧ b.getD i 0 ≤ 255 := by
 by_cases hi : i < b.length
 ·simp only [List.getD, List.getElem?_eq_getElem hi, Option.getD_some]
  exact h _ (List.getElem_mem hi)
 ·simp [List.getD, List.getElem?_eq_none (Nat.le_of_not_lt hi)]
structure Sg where
 regs : List Int
 takes : List Int
 mems : List Mm
 data : Bool
def Sg.sc (s : Sg) : Sc := ⟨s.regs, s.mems.map (·.w), if s.data then s.takes else []⟩
def ed (v w : Int) : Ex := ⟨1, e0, ⟨v % 2 ^ w.toNat, e0⟩, ⟨w, e0⟩, []⟩
def DX (i : Nat) : Ex := ⟨16, e0, ⟨i, e0⟩, dN, []⟩
def FJ (i : Nat) : Ex := ⟨18, e0, ⟨i, e0⟩, dN, []⟩
def eC (f : Nat → Ex) (w : Int) (l : List Int) : Nat → List Ex
 | 0 => []
 | k + 1 => eC f w l k ++ (if l.getD k 0 = w then [f k] else [])
def cy (s : Sg) (w : Int) : List Ex := eC DX w s.regs s.regs.length ++ (if s.data then eC FJ w s.takes s.takes.length else [])
def a7 (s : Sg) (w b : Int) : Ex := if (cy s w).length = 0 ∨ b % 4 = 0 then ed (b / 4) w else (cy s w).getD (b / 4 % (cy s w).length).toNat dE
def oq (l : List Mm) (w : Int) : Nat → Nat → Option Nat
 | 0, _ => none
 | n + 1, k => if (l.getD k be).w = w then some k else oq l w n (k + 1)
def iI (k : Int) : Int := [2, 3, 4, 5, 6, 7, 10, 8, 9, 11].getD (k - 4).toNat 0
def rQ (y w : Int) : Int := let o := iI (y % 14); if (o = 8 ∨ o = 9) ∧ w > 1 then 5 else if o = 11 ∧ w = 1 then 3 else o
def jo (y w : Int) : List Int := let o := iI (y % 14)
 if o = 2 then [w] else if o = 10 then [1, w, w] else if o = 8 ∨ o = 9 then (if w > 1 then [w, w] else [1 + y / 14 % 3, 1 + y / 14 % 3]) else if o = 11 then (if w = 1 then [w, w] else [w - 1, 1]) else [w, w]
def bj (t : Nat → Int → Ex × Nat) : List Int → Nat → List Ex × Nat
 | [], i => ([], i)
 | w :: r, i => ((t i w).1 :: (bj t r (t i w).2).1, (bj t r (t i w).2).2)
def bt (s : Sg) (t : Nat → Int → Ex × Nat) (w b : Int) (i : Nat) : Ex × Nat :=
 match (if b % 3 = 0 then oq s.mems w s.mems.length 0 else none) with
 | some m => let x := t i (1 + b / 3 % 3); (⟨17, e0, ⟨m, e0⟩, dN, [x.1]⟩, x.2)
 | none => if b % 3 = 1 ∧ w > 1 then let x := t i (w - 1); (⟨13, e0, dN, ⟨w, e0⟩, [x.1]⟩, x.2)
  else let x := t i (w + b / 3 % 2); (⟨12, e0, ⟨b / 3 % 2, e0⟩, ⟨w, e0⟩, [x.1]⟩, x.2)
def aj (s : Sg) (b : List Int) : Nat → Nat → Int → Ex × Nat
 | 0, i, w => (a7 s w (b.getD i 0 / 14), i + 1)
 | d + 1, i, w =>
  let y := b.getD i 0
  if d = 0 ∨ y % 14 < 2 then (a7 s w (y / 14), i + 1)
  else if y % 14 = 2 ∨ y % 14 = 3 then bt s (aj s b d) w (y / 14) (i + 1)
  else (⟨rQ y w, e0, dN, dN, (bj (aj s b d) (jo y w) (i + 1)).1⟩, (bj (aj s b d) (jo y w) (i + 1)).2)
theorem Cl {s : Sg} {w : Int} {acc : List Ex} {j : Nat} (h : acc = eC DX w s.regs s.regs.length ++ eC FJ w s.takes j) (h0 : s.data = false → j = 0) (h1 : s.data = true → j = s.takes.length) : acc = cy s w := by
 rw [h]; unfold cy
 cases hs : s.data
 ·rw [h0 hs]; simp [eC]
 ·rw [h1 hs]; simp
theorem nk {f : Nat → Ex} {w : Int} {l : List Int} {k : Nat} (h : l.getD k 0 = w) : eC f w l k ++ [f k] = eC f w l (k + 1) := by rw [eC, if_pos h]
theorem qB {f : Nat → Ex} {w : Int} {l : List Int} {k : Nat} (h : ¬l.getD k 0 = w) : eC f w l k = eC f w l (k + 1) := by rw [eC, if_neg h, List.append_nil]
theorem Ic (s : Sg) (w : Int) : (cy s w).length ≤ s.regs.length + s.takes.length := by
 have key : ∀ (f : Nat → Ex) (l : List Int) (k : Nat), (eC f w l k).length ≤ k := by
  intro f l k
  induction k with
  | zero => simp [eC]
  | succ k ih => rw [eC]; simp only [List.length_append]; split <;> simp <;> omega
 unfold cy
 have h1 := key DX s.regs s.regs.length
 have h2 := key FJ s.takes s.takes.length
 rw [List.length_append]
 split
 ·omega
 ·simp; omega
theorem rR {f : Nat → Ex} {w : Int} {l : List Int} {e : Ex} : ∀ (k : Nat), e ∈ eC f w l k → ∃ i, i < k ∧ e = f i ∧ l.getD i 0 = w
 | 0, h => by cases h
 | k + 1, h => by
  rw [eC, List.mem_append] at h
  rcases h with h | h
  ·obtain ⟨i, h1, h2⟩ := rR k h; exact ⟨i, by omega, h2⟩
  ·split at h
   ·rename_i hw
    simp only [List.mem_singleton] at h
    exact ⟨k, by omega, h, hw⟩
   ·cases h
theorem Kh {c : Sc} {v w : Int} (hw : av w = true) : e9 c (ed v w) = some w := by
 have h := bo.1 hw
 unfold ed
 rw [e9, e9.tyL]
 simp only
 rw [if_neg (by decide), if_neg (by decide), if_neg (by decide)]
 have hm := tv (x := v) (w := w) (by omega) (by omega)
 have e : bg 1 [] (v % 2 ^ w.toNat) w = w := by
  show (if av w = false ∨ v % 2 ^ w.toNat < 0 ∨ am w < v % 2 ^ w.toNat then 0 else w) = w
  rw [if_neg]
  rintro (h1 | h1 | h1)
  ·rw [hw] at h1; cases h1
  ·have := hm.1; omega
  ·have := hm.2; omega
 have ho : oi 1 [] (v % 2 ^ w.toNat) w = true := by
  unfold oi
  rw [e, hw]
  rfl
 rw [if_pos ho, e]
theorem FK {s : Sg} {w : Int} {e : Ex} (h : e ∈ cy s w) : e9 s.sc e = some w ∧ e.args = [] ∧ fS e = 1 := by
 unfold cy at h
 rw [List.mem_append] at h
 rcases h with h | h
 ·obtain ⟨i, h1, rfl, h2⟩ := rR _ h
  refine ⟨?_, rfl, rfl⟩
  unfold DX
  rw [e9, e9.tyL]
  simp only
  rw [if_pos trivial, if_pos ⟨by trivial, by simp, by show ((i : Nat) : Int) < (s.regs.length : Int); omega⟩]
  show some (s.regs.getD (i : Int).toNat 0) = some w
  rw [Int.toNat_natCast, h2]
 ·split at h
  ·rename_i hd
   obtain ⟨i, h1, rfl, h2⟩ := rR _ h
   refine ⟨?_, rfl, rfl⟩
   have ht : s.sc.tw = s.takes := by show (if s.data then s.takes else []) = s.takes; rw [if_pos hd]
   unfold FJ
   rw [e9, e9.tyL]
   simp only
   rw [if_neg (by decide), if_pos trivial, ht, if_pos ⟨by trivial, by simp, by omega⟩, Int.toNat_natCast, h2]
  ·cases h
theorem Cm {s : Sg} {w b : Int} (hw : av w = true) (hb : 0 ≤ b) : e9 s.sc (a7 s w b) = some w ∧ (a7 s w b).args = [] ∧ fS (a7 s w b) = 1 := by
 unfold a7
 split
 ·exact ⟨Kh hw, rfl, rfl⟩
 ·rename_i hn
  simp only [not_or] at hn
  have h1 := Int.emod_lt_of_pos (b / 4) (show (0 : Int) < ((cy s w).length : Int) by omega)
  have h0 := Int.emod_nonneg (b / 4) (show ((cy s w).length : Int) ≠ 0 by omega)
  exact FK (nj (by omega))
theorem ww {l : List Mm} {w : Int} : ∀ {n k m : Nat}, oq l w n k = some m → k ≤ m ∧ m < k + n ∧ (l.getD m be).w = w
 | 0, k, m, h => by cases h
 | n + 1, k, m, h => by
  rw [oq] at h
  split at h
  ·rename_i hw; cases h; exact ⟨by omega, by omega, hw⟩
  ·obtain ⟨h1, h2, h3⟩ := ww h; exact ⟨by omega, by omega, h3⟩
theorem ze {t : Nat → Int → Ex × Nat} : ∀ (ws : List Int) (i : Nat), (bj t ws i).1.length = ws.length
 | [], i => rfl
 | w :: r, i => by rw [bj]; simp [ze r]
theorem Cn {c : Sc} {t : Nat → Int → Ex × Nat} : ∀ (ws : List Int) (i : Nat), (∀ w ∈ ws, ∀ i, e9 c (t i w).1 = some w) → e9.tyL c (bj t ws i).1 = some ws
 | [], i, _ => rfl
 | w :: r, i, h => by
  rw [bj, e9.tyL, h w (by simp) i, Cn r _ (fun w hw => h w (by simp [hw]))]
theorem zf {t : Nat → Int → Ex × Nat} {n : Nat} : ∀ (ws : List Int) (i : Nat), (∀ w ∈ ws, ∀ i, fS (t i w).1 ≤ n) → fS.depL (bj t ws i).1 ≤ n
 | [], i, _ => by rw [bj, fS.depL]; exact Nat.zero_le _
 | w :: r, i, h => by
  rw [bj, fS.depL]
  have h1 := h w (by simp) i
  have h2 := zf r (t i w).2 (fun w hw => h w (by simp [hw]))
  omega
theorem uP {t : Nat → Int → Ex × Nat} {n : Nat} : ∀ (ws : List Int) (i : Nat), (∀ w ∈ ws, ∀ i, i ≤ (t i w).2 ∧ (t i w).2 ≤ i + n) → i ≤ (bj t ws i).2 ∧ (bj t ws i).2 ≤ i + n * ws.length
 | [], i, _ => ⟨Nat.le_refl _, Nat.le_add_right _ _⟩
 | w :: r, i, h => by
  rw [bj]
  have h1 := h w (by simp) i
  have h2 := uP r (t i w).2 (fun w hw => h w (by simp [hw]))
  have : n * (w :: r).length = n * r.length + n := by rw [List.length_cons, Nat.mul_succ]
  show i ≤ (bj t r (t i w).2).2 ∧ (bj t r (t i w).2).2 ≤ i + n * (w :: r).length
  omega
theorem DY {k : Int} (h : 4 ≤ k) (h2 : k < 14) : iI k = 2 ∨ iI k = 3 ∨ iI k = 4 ∨ iI k = 5 ∨ iI k = 6 ∨ iI k = 7 ∨ iI k = 10 ∨ iI k = 8 ∨ iI k = 9 ∨ iI k = 11 := by
 have : k = 4 ∨ k = 5 ∨ k = 6 ∨ k = 7 ∨ k = 8 ∨ k = 9 ∨ k = 10 ∨ k = 11 ∨ k = 12 ∨ k = 13 := by omega
 rcases this with rfl | rfl | rfl | rfl | rfl | rfl | rfl | rfl | rfl | rfl <;> decide
theorem zW {op : Int} {w k v : Int} (hop : op = 3 ∨ op = 4 ∨ op = 5 ∨ op = 6 ∨ op = 7) (hw : av w = true) : oi op [w, w] k v = true ∧ bg op [w, w] k v = w := by
 have e : ∀ op, bg op [w, w] k v = w ∨ True := fun _ => .inr trivial
 have ha : bU [w, w] = w := by unfold bU; rw [if_neg (by simp)]; rfl
 have hv : bg op [w, w] k v = bU [w, w] := by rcases hop with rfl | rfl | rfl | rfl | rfl <;> rfl
 have hA : bC op = 2 := by rcases hop with rfl | rfl | rfl | rfl | rfl <;> decide
 refine ⟨?_, by rw [hv, ha]⟩
 unfold oi
 rw [hv, ha, hA]
 simp [hw]
theorem FL {y w : Int} (hk : 4 ≤ y % 14) (h0 : 0 ≤ y) (hw : 1 ≤ w) (hw8 : w ≤ 8) : oi (rQ y w) (jo y w) 0 0 = true ∧ bg (rQ y w) (jo y w) 0 0 = w ∧ (rQ y w ≠ 16 ∧ rQ y w ≠ 18 ∧ rQ y w ≠ 17) ∧ (∀ v ∈ jo y w, 1 ≤ v ∧ (v ≤ w ∨ v ≤ 3)) ∧ (jo y w).length ≤ 3 := by
 have hf : av w = true := bo.2 ⟨hw, hw8⟩
 have hc := DY hk (by omega)
 unfold rQ jo
 simp only
 have hn : (1 : Int) ≤ 1 + y / 14 % 3 ∧ 1 + y / 14 % 3 ≤ 3 := by omega
 generalize hv : 1 + y / 14 % 3 = v at *
 have hfv : av v = true := bo.2 ⟨hn.1, by omega⟩
 rcases hc with h | h | h | h | h | h | h | h | h | h <;> rw [h] <;> simp only [Int.reduceEq, false_or, or_false, false_and, if_false, true_and, if_true, or_true, true_or]
 ·refine ⟨?_, rfl, by decide, by simp; omega, by simp⟩
  show (decide (([w].length : Int) = bC 2) && [w].all av && av w) = true
  simp [hf]; decide
 ·exact ⟨(zW (by simp) hf).1, (zW (by simp) hf).2, by decide, by simp; omega, by simp⟩
 ·exact ⟨(zW (by simp) hf).1, (zW (by simp) hf).2, by decide, by simp; omega, by simp⟩
 ·exact ⟨(zW (by simp) hf).1, (zW (by simp) hf).2, by decide, by simp; omega, by simp⟩
 ·exact ⟨(zW (by simp) hf).1, (zW (by simp) hf).2, by decide, by simp; omega, by simp⟩
 ·exact ⟨(zW (by simp) hf).1, (zW (by simp) hf).2, by decide, by simp; omega, by simp⟩
 ·have e : bg 10 [1, w, w] 0 0 = w := by
   show (if (1 : Int) ≠ 1 ∨ w ≠ w then 0 else w) = w
   rw [if_neg (by simp)]
  refine ⟨?_, e, by decide, by simp; omega, by simp⟩
  unfold oi
  rw [e]
  simp [hf]; decide
 ·split
  ·exact ⟨(zW (by simp) hf).1, (zW (by simp) hf).2, by decide, by simp; omega, by simp⟩
  ·have hw1 : w = 1 := by omega
   subst hw1
   have ha : bU [v, v] = v := by unfold bU; rw [if_neg (by simp)]; rfl
   have e : bg 8 [v, v] 0 0 = 1 := by
    show min (bU [v, v]) 1 = 1
    rw [ha]; omega
   refine ⟨?_, e, by decide, by simp; omega, by simp⟩
   unfold oi
   rw [e]
   simp [hfv]; decide
 ·split
  ·exact ⟨(zW (by simp) hf).1, (zW (by simp) hf).2, by decide, by simp; omega, by simp⟩
  ·have hw1 : w = 1 := by omega
   subst hw1
   have ha : bU [v, v] = v := by unfold bU; rw [if_neg (by simp)]; rfl
   have e : bg 9 [v, v] 0 0 = 1 := by
    show min (bU [v, v]) 1 = 1
    rw [ha]; omega
   refine ⟨?_, e, by decide, by simp; omega, by simp⟩
   unfold oi
   rw [e]
   simp [hfv]; decide
 ·split
  ·exact ⟨(zW (by simp) hf).1, (zW (by simp) hf).2, by decide, by simp; omega, by simp⟩
  ·have e : bg 11 [w - 1, 1] 0 0 = w := by
    show (w - 1) + 1 = w
    omega
   have hf1 : av (w - 1) = true := bo.2 ⟨by omega, by omega⟩
   refine ⟨?_, e, by decide, by simp; omega, by simp⟩
   unfold oi
   rw [e]
   simp [hf, hf1]; decide
theorem uQ {s : Sg} {b : List Int} (hb : lK b) : ∀ (d i : Nat) (w : Int), d ≤ 3 → 1 ≤ w → w + d ≤ 8 → e9 s.sc (aj s b d i w).1 = some w ∧ fS (aj s b d i w).1 ≤ max d 1 ∧ i ≤ (aj s b d i w).2 ∧ (aj s b d i w).2 ≤ i + 4 ^ d := by
 intro d
 induction d with
 | zero =>
  intro i w h3 h1 h2
  have hy := di hb i
  obtain ⟨q1, q2, q3⟩ := Cm (s := s) (w := w) (b := b.getD i 0 / 14) (bo.2 ⟨h1, by omega⟩) (by omega)
  rw [aj]
  exact ⟨q1, by show fS (a7 s w (b.getD i 0 / 14)) ≤ 1; omega, by show i ≤ i + 1; omega, by show i + 1 ≤ i + 4 ^ 0; omega⟩
 | succ d ih =>
  intro i w h3 h1 h2
  have hy := di hb i
  have hp : 1 ≤ 4 ^ d := Nat.one_le_pow _ _ (by omega)
  have hpow : 4 ^ (d + 1) = 4 * 4 ^ d := by rw [Nat.pow_succ]; omega
  rw [aj]
  split
  ·obtain ⟨q1, q2, q3⟩ := Cm (s := s) (w := w) (b := b.getD i 0 / 14) (bo.2 ⟨h1, by omega⟩) (by omega)
   exact ⟨q1, by show fS (a7 s w (b.getD i 0 / 14)) ≤ _; omega, by show i ≤ i + 1; omega, by show i + 1 ≤ i + 4 ^ (d + 1); omega⟩
  ·rename_i hn
   simp only [not_or] at hn
   split
   ·generalize hz : b.getD i 0 / 14 = z
    have hz0 : 0 ≤ z := by omega
    unfold bt
    split
    ·rename_i m hm
     split at hm
     ·obtain ⟨e1, e2, e3⟩ := ww hm
      obtain ⟨q1, q2, q3, q4⟩ := ih (i + 1) (1 + z / 3 % 3) (by omega) (by omega) (by omega)
      refine ⟨?_, ?_, by simp only; omega, by simp only; omega⟩
      ·simp only
       rw [e9, e9.tyL, q1, e9.tyL]
       simp only
       rw [if_neg (by decide), if_neg (by decide), if_pos trivial]
       have hl : (s.sc.mw.length : Int) = s.mems.length := by show ((s.mems.map (·.w)).length : Int) = _; simp
       rw [if_pos ⟨rfl, by simp, by rw [hl]; show ((m : Nat) : Int) < _; omega⟩]
       show some ((s.mems.map (·.w)).getD (m : Int).toNat 0) = some w
       rw [Int.toNat_natCast, cU (·.w) s.mems m be 0 (by omega), e3]
      ·rw [fS, fS.depL, fS.depL]; omega
     ·cases hm
    ·rename_i hm
     split
     ·rename_i hc
      obtain ⟨q1, q2, q3, q4⟩ := ih (i + 1) (w - 1) (by omega) (by omega) (by omega)
      refine ⟨?_, ?_, by simp only; omega, by simp only; omega⟩
      ·simp only
       rw [e9, e9.tyL, q1, e9.tyL]
       simp only
       rw [if_neg (by decide), if_neg (by decide), if_neg (by decide)]
       have e : bg 13 [w - 1] 0 w = w := by
        show (if w < w - 1 then 0 else w) = w
        rw [if_neg (by omega)]
       have ho : oi 13 [w - 1] 0 w = true := by
        unfold oi
        rw [e]
        have f1 : av w = true := bo.2 ⟨h1, by omega⟩
        have f2 : av (w - 1) = true := bo.2 ⟨by omega, by omega⟩
        simp [f1, f2]; decide
       rw [if_pos ho, e]
      ·rw [fS, fS.depL, fS.depL]; omega
     ·have hm2 : z / 3 % 2 = 0 ∨ z / 3 % 2 = 1 := by omega
      obtain ⟨q1, q2, q3, q4⟩ := ih (i + 1) (w + z / 3 % 2) (by omega) (by omega) (by omega)
      refine ⟨?_, ?_, by simp only; omega, by simp only; omega⟩
      ·simp only
       rw [e9, e9.tyL, q1, e9.tyL]
       simp only
       rw [if_neg (by decide), if_neg (by decide), if_neg (by decide)]
       have f1 : av w = true := bo.2 ⟨h1, by omega⟩
       have f2 : av (w + z / 3 % 2) = true := bo.2 ⟨by omega, by omega⟩
       have e : bg 12 [w + z / 3 % 2] (z / 3 % 2) w = w := by
        show (if av w = false ∨ z / 3 % 2 < 0 ∨ (w + z / 3 % 2) - w < z / 3 % 2 then 0 else w) = w
        rw [if_neg]
        rintro (hh | hh | hh)
        ·rw [f1] at hh; cases hh
        ·omega
        ·omega
       have ho : oi 12 [w + z / 3 % 2] (z / 3 % 2) w = true := by
        unfold oi
        rw [e]
        simp [f1, f2]; decide
       rw [if_pos ho, e]
      ·rw [fS, fS.depL, fS.depL]; omega
   ·obtain ⟨o1, o2, o3, o4, o5⟩ := FL (y := b.getD i 0) (w := w) (by omega) hy.1 h1 (by omega)
    have key : ∀ v ∈ jo (b.getD i 0) w, ∀ i, e9 s.sc (aj s b d i v).1 = some v ∧ fS (aj s b d i v).1 ≤ max d 1 ∧ i ≤ (aj s b d i v).2 ∧ (aj s b d i v).2 ≤ i + 4 ^ d := by
     intro v hv j
     have := o4 v hv
     exact ih j v (by omega) this.1 (by omega)
    have hty := Cn (c := s.sc) (t := aj s b d) (jo (b.getD i 0) w) (i + 1) (fun v hv j => (key v hv j).1)
    have hdp := zf (t := aj s b d) (n := max d 1) (jo (b.getD i 0) w) (i + 1) (fun v hv j => (key v hv j).2.1)
    have hps := uP (t := aj s b d) (n := 4 ^ d) (jo (b.getD i 0) w) (i + 1) (fun v hv j => (key v hv j).2.2)
    refine ⟨?_, ?_, by simp only; omega, ?_⟩
    ·rw [e9, hty]
     simp only
     rw [if_neg o3.1, if_neg o3.2.1, if_neg o3.2.2, if_pos o1, o2]
    ·rw [fS]; omega
    ·simp only
     have : 4 ^ d * (jo (b.getD i 0) w).length ≤ 4 ^ d * 3 := Nat.mul_le_mul_left _ o5
     omega
theorem FM {s : Sg} {w b : Int} (h : (cy s w).length = 0 ∨ b % 4 = 0) : a7 s w b = ed (b / 4) w := if_pos h
theorem FN {s : Sg} {w b : Int} (h1 : ¬((cy s w).length : Int) = 0) (h2 : ¬b % 4 = 0) : a7 s w b = (cy s w).getD (b / 4 % ((cy s w).length : Int)).toNat dE := if_neg (by rintro (h | h) <;> omega)
theorem wx (s : Sg) (w b : Int) : (a7 s w b).args = [] := by
 unfold a7
 split
 ·rfl
 ·by_cases h : (b / 4 % ((cy s w).length : Int)).toNat < (cy s w).length
  ·exact (FK (nj h)).2.1
  ·rw [List.getD, List.getElem?_eq_none (by omega)]; rfl
theorem L3 {s : Sg} {t : Nat → Int → Ex × Nat} {w b : Int} {i k : Nat} (h : b % 3 = 0) (hm : oq s.mems w s.mems.length 0 = some k) : bt s t w b i = (⟨17, e0, ⟨k, e0⟩, dN, [(t i (1 + b / 3 % 3)).1]⟩, (t i (1 + b / 3 % 3)).2) := by
 unfold bt; rw [if_pos h, hm]
theorem FO {s : Sg} {t : Nat → Int → Ex × Nat} {w b : Int} {i : Nat} (h : b % 3 = 1) (hw : w > 1) : bt s t w b i = (⟨13, e0, dN, ⟨w, e0⟩, [(t i (w - 1)).1]⟩, (t i (w - 1)).2) := by
 unfold bt; rw [if_neg (by omega)]; simp only; rw [if_pos ⟨h, hw⟩]
theorem FP {s : Sg} {t : Nat → Int → Ex × Nat} {w b : Int} {i : Nat} (hm : b % 3 = 0 → oq s.mems w s.mems.length 0 = none) (h : ¬(b % 3 = 1 ∧ w > 1)) : bt s t w b i = (⟨12, e0, ⟨b / 3 % 2, e0⟩, ⟨w, e0⟩, [(t i (w + b / 3 % 2)).1]⟩, (t i (w + b / 3 % 2)).2) := by
 unfold bt
 have e : (if b % 3 = 0 then oq s.mems w s.mems.length 0 else none) = none := by split; exact hm ‹_›; rfl
 rw [e]; simp only; rw [if_neg h]
theorem Co {l : List Mm} {w : Int} {k : Nat} (hk : k < l.length) (h : ¬(l.getD k be).w = w) : oq l w (l.length - k) k = oq l w (l.length - (k + 1)) (k + 1) := by
 have e : l.length - k = (l.length - (k + 1)) + 1 := by omega
 rw [e, oq, if_neg h]
theorem FQ {l : List Mm} {w : Int} {k : Nat} (hk : k < l.length) (h : (l.getD k be).w = w) : oq l w (l.length - k) k = some k := by
 have e : l.length - k = (l.length - (k + 1)) + 1 := by omega
 rw [e, oq, if_pos h]
theorem uR {l : List Mm} {w : Int} {k : Nat} (hk : ¬k < l.length) : oq l w (l.length - k) k = none := by
 have e : l.length - k = 0 := by omega
 rw [e, oq]
theorem FR {s : Sg} {b : List Int} {d i : Nat} {w : Int} (h : d ≤ 1) : aj s b d i w = (a7 s w (b.getD i 0 / 14), i + 1) := by
 cases d with
 | zero => rfl
 | succ d => rw [aj]; rw [if_pos (.inl (by omega))]
theorem Ki {s : Sg} {b : List Int} {d i : Nat} {w : Int} (h : b.getD i 0 % 14 < 2) : aj s b (d + 1 + 1) i w = (a7 s w (b.getD i 0 / 14), i + 1) := by
 rw [aj]; rw [if_pos (.inr h)]
theorem FS {s : Sg} {b : List Int} {d i : Nat} {w : Int} (h : b.getD i 0 % 14 = 2 ∨ b.getD i 0 % 14 = 3) : aj s b (d + 1 + 1) i w = bt s (aj s b (d + 1)) w (b.getD i 0 / 14) (i + 1) := by
 rw [aj]; rw [if_neg (by omega), if_pos h]
theorem AM {s : Sg} {b : List Int} {d i : Nat} {w : Int} (h : ¬b.getD i 0 % 14 < 2) (h2 : ¬b.getD i 0 % 14 = 2) (h3 : ¬b.getD i 0 % 14 = 3) : aj s b (d + 1 + 1) i w = (⟨rQ (b.getD i 0) w, e0, dN, dN, (bj (aj s b (d + 1)) (jo (b.getD i 0) w) (i + 1)).1⟩, (bj (aj s b (d + 1)) (jo (b.getD i 0) w) (i + 1)).2) := by
 rw [aj]; rw [if_neg (by omega), if_neg (by omega)]
theorem rS {t : Nat → Int → Ex × Nat} : ∀ (l : List Int) (i k : Nat), k < l.length → bj t (l.take (k + 1)) i = ((bj t (l.take k) i).1 ++ [(t (bj t (l.take k) i).2 (l.getD k 0)).1], (t (bj t (l.take k) i).2 (l.getD k 0)).2)
 | [], i, k, h => by cases h
 | w :: r, i, 0, h => by simp [bj]
 | w :: r, i, k + 1, h => by
  simp only [List.take_succ_cons, bj]
  rw [rS r _ k (by simpa using h)]
  simp
theorem Kj {s : Sg} {b : List Int} (hb : lK b) {y w : Int} {d k : Nat} (i : Nat) (h1 : 1 ≤ w) (h2 : w + (d + 2 : Nat) ≤ 8) (h3 : d + 2 ≤ 3) (hy : 4 ≤ y % 14) (hy0 : 0 ≤ y) (hk : k < (jo y w).length) : 1 ≤ (jo y w).getD k 0 ∧ (jo y w).getD k 0 + (d + 1 : Nat) ≤ 8 ∧ i ≤ (bj (aj s b (d + 1)) ((jo y w).take k) i).2 ∧ (bj (aj s b (d + 1)) ((jo y w).take k) i).2 + 4 ^ (d + 1) + 1 ≤ i + 4 ^ (d + 2) := by
 obtain ⟨o1, o2, o3, o4, o5⟩ := FL hy hy0 h1 (by omega : w ≤ 8)
 have hm : (jo y w).getD k 0 ∈ jo y w := by
  rw [List.getD, List.getElem?_eq_getElem hk]; exact List.getElem_mem hk
 have hv := o4 _ hm
 have hps := uP (t := aj s b (d + 1)) (n := 4 ^ (d + 1)) ((jo y w).take k) i (fun v hv j => by
  have hh := o4 v (List.mem_of_mem_take hv)
  exact (uQ hb (d + 1) j v (by omega) hh.1 (by omega)).2.2)
 have hl : ((jo y w).take k).length ≤ 2 := by rw [List.length_take]; omega
 have hq : 4 ^ (d + 1) * ((jo y w).take k).length ≤ 4 ^ (d + 1) * 2 := Nat.mul_le_mul_left _ hl
 have hp : 1 ≤ 4 ^ (d + 1) := Nat.one_le_pow _ _ (by omega)
 have hpow : 4 ^ (d + 2) = 4 * 4 ^ (d + 1) := by rw [Nat.pow_succ]; omega
 exact ⟨hv.1, by omega, hps.1, by omega⟩
theorem Oz {x : Int} {n : Nat} (h : ¬(n : Int) = 0) : IX (x % (n : Int)) (n : Int) := ⟨Int.emod_nonneg x h, Int.emod_lt_of_pos x (by omega)⟩
end Go.Proofs.YtckgpflobhpnpaaGreat
