/-
  Made processes, plain law: expressions that bytes describe.
-/
import Derived.Test.YtgmpoenfoacofaaQPrQ
namespace Go.Proofs.Ytgmpoenfoacofaa
open Go.RowKit
set_option linter.unusedVariables false
set_option linter.unusedSimpArgs false
def lR (b : List Int) : Prop := ∀ x ∈ b, 0 ≤ x ∧ x ≤ 255
theorem cY {b : List Int} (h : lR b) (i : Nat) : 0 ≤ b.getD i 0 ∧ b.getD i 0 ≤ 255 := by
 by_cases hi : i < b.length
 ·simp only [List.getD, List.getElem?_eq_getElem hi, Option.getD_some]
  exact h _ (List.getElem_mem hi)
 ·simp [List.getD, List.getElem?_eq_none (Nat.le_of_not_lt hi)]
structure Sg where
 regs : List Int
 takes : List Int
 mems : List Mm
 data : Bool
def Sg.sc (s : Sg) : Sc := ⟨s.regs, s.mems.map (·.w), if s.data then s.takes else []⟩
def bN (v w : Int) : Ex := ⟨1, e0, ⟨v % 2 ^ w.toNat, e0⟩, ⟨w, e0⟩, []⟩
def sB (i : Nat) : Ex := ⟨16, e0, ⟨i, e0⟩, dN, []⟩
def tS (i : Nat) : Ex := ⟨18, e0, ⟨i, e0⟩, dN, []⟩
def bR (f : Nat → Ex) (w : Int) (l : List Int) : Nat → List Ex
 | 0 => []
 | k + 1 => bR f w l k ++ (if l.getD k 0 = w then [f k] else [])
def bc (s : Sg) (w : Int) : List Ex := bR sB w s.regs s.regs.length ++ (if s.data then bR tS w s.takes s.takes.length else [])
def aH (s : Sg) (w b : Int) : Ex := if (bc s w).length = 0 ∨ b % 4 = 0 then bN (b / 4) w else (bc s w).getD (b / 4 % (bc s w).length).toNat dE
def ge (l : List Mm) (w : Int) : Nat → Nat → Option Nat
 | 0, _ => none
 | n + 1, k => if (l.getD k dz).w = w then some k else ge l w n (k + 1)
def dv (k : Int) : Int := [2, 3, 4, 5, 6, 7, 10, 8, 9, 11].getD (k - 4).toNat 0
def i7 (y w : Int) : Int := let o := dv (y % 14); if (o = 8 ∨ o = 9) ∧ w > 1 then 5 else if o = 11 ∧ w = 1 then 3 else o
def dM (y w : Int) : List Int := let o := dv (y % 14)
 if o = 2 then [w] else if o = 10 then [1, w, w] else if o = 8 ∨ o = 9 then (if w > 1 then [w, w] else [1 + y / 14 % 3, 1 + y / 14 % 3]) else if o = 11 then (if w = 1 then [w, w] else [w - 1, 1]) else [w, w]
def aL (t : Nat → Int → Ex × Nat) : List Int → Nat → List Ex × Nat
 | [], i => ([], i)
 | w :: r, i => ((t i w).1 :: (aL t r (t i w).2).1, (aL t r (t i w).2).2)
def aN (s : Sg) (t : Nat → Int → Ex × Nat) (w b : Int) (i : Nat) : Ex × Nat :=
 match (if b % 3 = 0 then ge s.mems w s.mems.length 0 else none) with
 | some m => let x := t i (1 + b / 3 % 3); (⟨17, e0, ⟨m, e0⟩, dN, [x.1]⟩, x.2)
 | none => if b % 3 = 1 ∧ w > 1 then let x := t i (w - 1); (⟨13, e0, dN, ⟨w, e0⟩, [x.1]⟩, x.2)
  else let x := t i (w + b / 3 % 2); (⟨12, e0, ⟨b / 3 % 2, e0⟩, ⟨w, e0⟩, [x.1]⟩, x.2)
def ab (s : Sg) (b : List Int) : Nat → Nat → Int → Ex × Nat
 | 0, i, w => (aH s w (b.getD i 0 / 14), i + 1)
 | d + 1, i, w =>
  let y := b.getD i 0
  if d = 0 ∨ y % 14 < 2 then (aH s w (y / 14), i + 1)
  else if y % 14 = 2 ∨ y % 14 = 3 then aN s (ab s b d) w (y / 14) (i + 1)
  else (⟨i7 y w, e0, dN, dN, (aL (ab s b d) (dM y w) (i + 1)).1⟩, (aL (ab s b d) (dM y w) (i + 1)).2)
theorem rx {s : Sg} {w : Int} {acc : List Ex} {j : Nat} (h : acc = bR sB w s.regs s.regs.length ++ bR tS w s.takes j) (h0 : s.data = false → j = 0) (h1 : s.data = true → j = s.takes.length) : acc = bc s w := by
 rw [h]; unfold bc
 cases hs : s.data
 ·rw [h0 hs]; simp [bR]
 ·rw [h1 hs]; simp
theorem fR {f : Nat → Ex} {w : Int} {l : List Int} {k : Nat} (h : l.getD k 0 = w) : bR f w l k ++ [f k] = bR f w l (k + 1) := by rw [bR, if_pos h]
theorem ii {f : Nat → Ex} {w : Int} {l : List Int} {k : Nat} (h : ¬l.getD k 0 = w) : bR f w l k = bR f w l (k + 1) := by rw [bR, if_neg h, List.append_nil]
theorem vz (s : Sg) (w : Int) : (bc s w).length ≤ s.regs.length + s.takes.length := by
 have key : ∀ (f : Nat → Ex) (l : List Int) (k : Nat), (bR f w l k).length ≤ k := by
  intro f l k
  induction k with
  | zero => simp [bR]
  | succ k ih => rw [bR]; simp only [List.length_append]; split <;> simp <;> omega
 unfold bc
 have h1 := key sB s.regs s.regs.length
 have h2 := key tS s.takes s.takes.length
 rw [List.length_append]
 split
 ·omega
 ·simp; omega
theorem i8 {f : Nat → Ex} {w : Int} {l : List Int} {e : Ex} : ∀ (k : Nat), e ∈ bR f w l k → ∃ i, i < k ∧ e = f i ∧ l.getD i 0 = w
 | 0, h => by cases h
 | k + 1, h => by
  rw [bR, List.mem_append] at h
  rcases h with h | h
  ·obtain ⟨i, h1, h2⟩ := i8 k h; exact ⟨i, by omega, h2⟩
  ·split at h
   ·rename_i hw
    simp only [List.mem_singleton] at h
    exact ⟨k, by omega, h, hw⟩
   ·cases h
theorem wI {c : Sc} {v w : Int} (hw : br w = true) : gd c (bN v w) = some w := by
 have h := bl.1 hw
 unfold bN
 rw [gd, gd.tyL]
 simp only
 rw [if_neg (by decide), if_neg (by decide), if_neg (by decide)]
 have hm := vy (x := v) (w := w) (by omega) (by omega)
 have e : ru 1 [] (v % 2 ^ w.toNat) w = w := by
  show (if br w = false ∨ v % 2 ^ w.toNat < 0 ∨ cb w < v % 2 ^ w.toNat then 0 else w) = w
  rw [if_neg]
  rintro (h1 | h1 | h1)
  ·rw [hw] at h1; cases h1
  ·have := hm.1; omega
  ·have := hm.2; omega
 have ho : pL 1 [] (v % 2 ^ w.toNat) w = true := by
  unfold pL
  rw [e, hw]
  rfl
 rw [if_pos ho, e]
theorem tT {s : Sg} {w : Int} {e : Ex} (h : e ∈ bc s w) : gd s.sc e = some w ∧ e.args = [] ∧ gt e = 1 := by
 unfold bc at h
 rw [List.mem_append] at h
 rcases h with h | h
 ·obtain ⟨i, h1, rfl, h2⟩ := i8 _ h
  refine ⟨?_, rfl, rfl⟩
  unfold sB
  rw [gd, gd.tyL]
  simp only
  rw [if_pos trivial, if_pos ⟨by trivial, by simp, by show ((i : Nat) : Int) < (s.regs.length : Int); omega⟩]
  show some (s.regs.getD (i : Int).toNat 0) = some w
  rw [Int.toNat_natCast, h2]
 ·split at h
  ·rename_i hd
   obtain ⟨i, h1, rfl, h2⟩ := i8 _ h
   refine ⟨?_, rfl, rfl⟩
   have ht : s.sc.tw = s.takes := by show (if s.data then s.takes else []) = s.takes; rw [if_pos hd]
   unfold tS
   rw [gd, gd.tyL]
   simp only
   rw [if_neg (by decide), if_pos trivial, ht, if_pos ⟨by trivial, by simp, by omega⟩, Int.toNat_natCast, h2]
  ·cases h
theorem ry {s : Sg} {w b : Int} (hw : br w = true) (hb : 0 ≤ b) : gd s.sc (aH s w b) = some w ∧ (aH s w b).args = [] ∧ gt (aH s w b) = 1 := by
 unfold aH
 split
 ·exact ⟨wI hw, rfl, rfl⟩
 ·rename_i hn
  simp only [not_or] at hn
  have h1 := Int.emod_lt_of_pos (b / 4) (show (0 : Int) < ((bc s w).length : Int) by omega)
  have h0 := Int.emod_nonneg (b / 4) (show ((bc s w).length : Int) ≠ 0 by omega)
  exact tT (mD (by omega))
theorem mE {l : List Mm} {w : Int} : ∀ {n k m : Nat}, ge l w n k = some m → k ≤ m ∧ m < k + n ∧ (l.getD m dz).w = w
 | 0, k, m, h => by cases h
 | n + 1, k, m, h => by
  rw [ge] at h
  split at h
  ·rename_i hw; cases h; exact ⟨by omega, by omega, hw⟩
  ·obtain ⟨h1, h2, h3⟩ := mE h; exact ⟨by omega, by omega, h3⟩
theorem o9 {t : Nat → Int → Ex × Nat} : ∀ (ws : List Int) (i : Nat), (aL t ws i).1.length = ws.length
 | [], i => rfl
 | w :: r, i => by rw [aL]; simp [o9 r]
theorem rz {c : Sc} {t : Nat → Int → Ex × Nat} : ∀ (ws : List Int) (i : Nat), (∀ w ∈ ws, ∀ i, gd c (t i w).1 = some w) → gd.tyL c (aL t ws i).1 = some ws
 | [], i, _ => rfl
 | w :: r, i, h => by
  rw [aL, gd.tyL, h w (by simp) i, rz r _ (fun w hw => h w (by simp [hw]))]
theorem pb {t : Nat → Int → Ex × Nat} {n : Nat} : ∀ (ws : List Int) (i : Nat), (∀ w ∈ ws, ∀ i, gt (t i w).1 ≤ n) → gt.depL (aL t ws i).1 ≤ n
 | [], i, _ => by rw [aL, gt.depL]; exact Nat.zero_le _
 | w :: r, i, h => by
  rw [aL, gt.depL]
  have h1 := h w (by simp) i
  have h2 := pb r (t i w).2 (fun w hw => h w (by simp [hw]))
  omega
theorem kR {t : Nat → Int → Ex × Nat} {n : Nat} : ∀ (ws : List Int) (i : Nat), (∀ w ∈ ws, ∀ i, i ≤ (t i w).2 ∧ (t i w).2 ≤ i + n) → i ≤ (aL t ws i).2 ∧ (aL t ws i).2 ≤ i + n * ws.length
 | [], i, _ => ⟨Nat.le_refl _, Nat.le_add_right _ _⟩
 | w :: r, i, h => by
  rw [aL]
  have h1 := h w (by simp) i
  have h2 := kR r (t i w).2 (fun w hw => h w (by simp [hw]))
  have : n * (w :: r).length = n * r.length + n := by rw [List.length_cons, Nat.mul_succ]
  show i ≤ (aL t r (t i w).2).2 ∧ (aL t r (t i w).2).2 ≤ i + n * (w :: r).length
  omega
theorem sC {k : Int} (h : 4 ≤ k) (h2 : k < 14) : dv k = 2 ∨ dv k = 3 ∨ dv k = 4 ∨ dv k = 5 ∨ dv k = 6 ∨ dv k = 7 ∨ dv k = 10 ∨ dv k = 8 ∨ dv k = 9 ∨ dv k = 11 := by
 have : k = 4 ∨ k = 5 ∨ k = 6 ∨ k = 7 ∨ k = 8 ∨ k = 9 ∨ k = 10 ∨ k = 11 ∨ k = 12 ∨ k = 13 := by omega
 rcases this with rfl | rfl | rfl | rfl | rfl | rfl | rfl | rfl | rfl | rfl <;> decide
theorem pM {op : Int} {w k v : Int} (hop : op = 3 ∨ op = 4 ∨ op = 5 ∨ op = 6 ∨ op = 7) (hw : br w = true) : pL op [w, w] k v = true ∧ ru op [w, w] k v = w := by
 have e : ∀ op, ru op [w, w] k v = w ∨ True := fun _ => .inr trivial
 have ha : du [w, w] = w := by unfold du; rw [if_neg (by simp)]; rfl
 have hv : ru op [w, w] k v = du [w, w] := by rcases hop with rfl | rfl | rfl | rfl | rfl <;> rfl
 have hA : qu op = 2 := by rcases hop with rfl | rfl | rfl | rfl | rfl <;> decide
 refine ⟨?_, by rw [hv, ha]⟩
 unfold pL
 rw [hv, ha, hA]
 simp [hw]
theorem tU {y w : Int} (hk : 4 ≤ y % 14) (h0 : 0 ≤ y) (hw : 1 ≤ w) (hw8 : w ≤ 8) : pL (i7 y w) (dM y w) 0 0 = true ∧ ru (i7 y w) (dM y w) 0 0 = w ∧ (i7 y w ≠ 16 ∧ i7 y w ≠ 18 ∧ i7 y w ≠ 17) ∧ (∀ v ∈ dM y w, 1 ≤ v ∧ (v ≤ w ∨ v ≤ 3)) ∧ (dM y w).length ≤ 3 := by
 have hf : br w = true := bl.2 ⟨hw, hw8⟩
 have hc := sC hk (by omega)
 unfold i7 dM
 simp only
 have hn : (1 : Int) ≤ 1 + y / 14 % 3 ∧ 1 + y / 14 % 3 ≤ 3 := by omega
 generalize hv : 1 + y / 14 % 3 = v at *
 have hfv : br v = true := bl.2 ⟨hn.1, by omega⟩
 rcases hc with h | h | h | h | h | h | h | h | h | h <;> rw [h] <;> simp only [Int.reduceEq, false_or, or_false, false_and, if_false, true_and, if_true, or_true, true_or]
 ·refine ⟨?_, rfl, by decide, by simp; omega, by simp⟩
  show (decide (([w].length : Int) = qu 2) && [w].all br && br w) = true
  simp [hf]; decide
 ·exact ⟨(pM (by simp) hf).1, (pM (by simp) hf).2, by decide, by simp; omega, by simp⟩
 ·exact ⟨(pM (by simp) hf).1, (pM (by simp) hf).2, by decide, by simp; omega, by simp⟩
 ·exact ⟨(pM (by simp) hf).1, (pM (by simp) hf).2, by decide, by simp; omega, by simp⟩
 ·exact ⟨(pM (by simp) hf).1, (pM (by simp) hf).2, by decide, by simp; omega, by simp⟩
 ·exact ⟨(pM (by simp) hf).1, (pM (by simp) hf).2, by decide, by simp; omega, by simp⟩
 ·have e : ru 10 [1, w, w] 0 0 = w := by
   show (if (1 : Int) ≠ 1 ∨ w ≠ w then 0 else w) = w
   rw [if_neg (by simp)]
  refine ⟨?_, e, by decide, by simp; omega, by simp⟩
  unfold pL
  rw [e]
  simp [hf]; decide
 ·split
  ·exact ⟨(pM (by simp) hf).1, (pM (by simp) hf).2, by decide, by simp; omega, by simp⟩
  ·have hw1 : w = 1 := by omega
   subst hw1
   have ha : du [v, v] = v := by unfold du; rw [if_neg (by simp)]; rfl
   have e : ru 8 [v, v] 0 0 = 1 := by
    show min (du [v, v]) 1 = 1
    rw [ha]; omega
   refine ⟨?_, e, by decide, by simp; omega, by simp⟩
   unfold pL
   rw [e]
   simp [hfv]; decide
 ·split
  ·exact ⟨(pM (by simp) hf).1, (pM (by simp) hf).2, by decide, by simp; omega, by simp⟩
  ·have hw1 : w = 1 := by omega
   subst hw1
   have ha : du [v, v] = v := by unfold du; rw [if_neg (by simp)]; rfl
   have e : ru 9 [v, v] 0 0 = 1 := by
    show min (du [v, v]) 1 = 1
    rw [ha]; omega
   refine ⟨?_, e, by decide, by simp; omega, by simp⟩
   unfold pL
   rw [e]
   simp [hfv]; decide
 ·split
  ·exact ⟨(pM (by simp) hf).1, (pM (by simp) hf).2, by decide, by simp; omega, by simp⟩
  ·have e : ru 11 [w - 1, 1] 0 0 = w := by
    show (w - 1) + 1 = w
    omega
   have hf1 : br (w - 1) = true := bl.2 ⟨by omega, by omega⟩
   refine ⟨?_, e, by decide, by simp; omega, by simp⟩
   unfold pL
   rw [e]
   simp [hf, hf1]; decide
theorem kS {s : Sg} {b : List Int} (hb : lR b) : ∀ (d i : Nat) (w : Int), d ≤ 3 → 1 ≤ w → w + d ≤ 8 → gd s.sc (ab s b d i w).1 = some w ∧ gt (ab s b d i w).1 ≤ max d 1 ∧ i ≤ (ab s b d i w).2 ∧ (ab s b d i w).2 ≤ i + 4 ^ d := by
 intro d
 induction d with
 | zero =>
  intro i w h3 h1 h2
  have hy := cY hb i
  obtain ⟨q1, q2, q3⟩ := ry (s := s) (w := w) (b := b.getD i 0 / 14) (bl.2 ⟨h1, by omega⟩) (by omega)
  rw [ab]
  exact ⟨q1, by show gt (aH s w (b.getD i 0 / 14)) ≤ 1; omega, by show i ≤ i + 1; omega, by show i + 1 ≤ i + 4 ^ 0; omega⟩
 | succ d ih =>
  intro i w h3 h1 h2
  have hy := cY hb i
  have hp : 1 ≤ 4 ^ d := Nat.one_le_pow _ _ (by omega)
  have hpow : 4 ^ (d + 1) = 4 * 4 ^ d := by rw [Nat.pow_succ]; omega
  rw [ab]
  split
  ·obtain ⟨q1, q2, q3⟩ := ry (s := s) (w := w) (b := b.getD i 0 / 14) (bl.2 ⟨h1, by omega⟩) (by omega)
   exact ⟨q1, by show gt (aH s w (b.getD i 0 / 14)) ≤ _; omega, by show i ≤ i + 1; omega, by show i + 1 ≤ i + 4 ^ (d + 1); omega⟩
  ·rename_i hn
   simp only [not_or] at hn
   split
   ·generalize hz : b.getD i 0 / 14 = z
    have hz0 : 0 ≤ z := by omega
    unfold aN
    split
    ·rename_i m hm
     split at hm
     ·obtain ⟨e1, e2, e3⟩ := mE hm
      obtain ⟨q1, q2, q3, q4⟩ := ih (i + 1) (1 + z / 3 % 3) (by omega) (by omega) (by omega)
      refine ⟨?_, ?_, by simp only; omega, by simp only; omega⟩
      ·simp only
       rw [gd, gd.tyL, q1, gd.tyL]
       simp only
       rw [if_neg (by decide), if_neg (by decide), if_pos trivial]
       have hl : (s.sc.mw.length : Int) = s.mems.length := by show ((s.mems.map (·.w)).length : Int) = _; simp
       rw [if_pos ⟨rfl, by simp, by rw [hl]; show ((m : Nat) : Int) < _; omega⟩]
       show some ((s.mems.map (·.w)).getD (m : Int).toNat 0) = some w
       rw [Int.toNat_natCast, tR (·.w) s.mems m dz 0 (by omega), e3]
      ·rw [gt, gt.depL, gt.depL]; omega
     ·cases hm
    ·rename_i hm
     split
     ·rename_i hc
      obtain ⟨q1, q2, q3, q4⟩ := ih (i + 1) (w - 1) (by omega) (by omega) (by omega)
      refine ⟨?_, ?_, by simp only; omega, by simp only; omega⟩
      ·simp only
       rw [gd, gd.tyL, q1, gd.tyL]
       simp only
       rw [if_neg (by decide), if_neg (by decide), if_neg (by decide)]
       have e : ru 13 [w - 1] 0 w = w := by
        show (if w < w - 1 then 0 else w) = w
        rw [if_neg (by omega)]
       have ho : pL 13 [w - 1] 0 w = true := by
        unfold pL
        rw [e]
        have f1 : br w = true := bl.2 ⟨h1, by omega⟩
        have f2 : br (w - 1) = true := bl.2 ⟨by omega, by omega⟩
        simp [f1, f2]; decide
       rw [if_pos ho, e]
      ·rw [gt, gt.depL, gt.depL]; omega
     ·have hm2 : z / 3 % 2 = 0 ∨ z / 3 % 2 = 1 := by omega
      obtain ⟨q1, q2, q3, q4⟩ := ih (i + 1) (w + z / 3 % 2) (by omega) (by omega) (by omega)
      refine ⟨?_, ?_, by simp only; omega, by simp only; omega⟩
      ·simp only
       rw [gd, gd.tyL, q1, gd.tyL]
       simp only
       rw [if_neg (by decide), if_neg (by decide), if_neg (by decide)]
       have f1 : br w = true := bl.2 ⟨h1, by omega⟩
       have f2 : br (w + z / 3 % 2) = true := bl.2 ⟨by omega, by omega⟩
       have e : ru 12 [w + z / 3 % 2] (z / 3 % 2) w = w := by
        show (if br w = false ∨ z / 3 % 2 < 0 ∨ (w + z / 3 % 2) - w < z / 3 % 2 then 0 else w) = w
        rw [if_neg]
        rintro (hh | hh | hh)
        ·rw [f1] at hh; cases hh
        ·omega
        ·omega
       have ho : pL 12 [w + z / 3 % 2] (z / 3 % 2) w = true := by
        unfold pL
        rw [e]
        simp [f1, f2]; decide
       rw [if_pos ho, e]
      ·rw [gt, gt.depL, gt.depL]; omega
   ·obtain ⟨o1, o2, o3, o4, o5⟩ := tU (y := b.getD i 0) (w := w) (by omega) hy.1 h1 (by omega)
    have key : ∀ v ∈ dM (b.getD i 0) w, ∀ i, gd s.sc (ab s b d i v).1 = some v ∧ gt (ab s b d i v).1 ≤ max d 1 ∧ i ≤ (ab s b d i v).2 ∧ (ab s b d i v).2 ≤ i + 4 ^ d := by
     intro v hv j
     have := o4 v hv
     exact ih j v (by omega) this.1 (by omega)
    have hty := rz (c := s.sc) (t := ab s b d) (dM (b.getD i 0) w) (i + 1) (fun v hv j => (key v hv j).1)
    have hdp := pb (t := ab s b d) (n := max d 1) (dM (b.getD i 0) w) (i + 1) (fun v hv j => (key v hv j).2.1)
    have hps := kR (t := ab s b d) (n := 4 ^ d) (dM (b.getD i 0) w) (i + 1) (fun v hv j => (key v hv j).2.2)
    refine ⟨?_, ?_, by simp only; omega, ?_⟩
    ·rw [gd, hty]
     simp only
     rw [if_neg o3.1, if_neg o3.2.1, if_neg o3.2.2, if_pos o1, o2]
    ·rw [gt]; omega
    ·simp only
     have : 4 ^ d * (dM (b.getD i 0) w).length ≤ 4 ^ d * 3 := Nat.mul_le_mul_left _ o5
     omega
theorem tV {s : Sg} {w b : Int} (h : (bc s w).length = 0 ∨ b % 4 = 0) : aH s w b = bN (b / 4) w := if_pos h
theorem tW {s : Sg} {w b : Int} (h1 : ¬((bc s w).length : Int) = 0) (h2 : ¬b % 4 = 0) : aH s w b = (bc s w).getD (b / 4 % ((bc s w).length : Int)).toNat dE := if_neg (by rintro (h | h) <;> omega)
theorem mG (s : Sg) (w b : Int) : (aH s w b).args = [] := by
 unfold aH
 split
 ·rfl
 ·by_cases h : (b / 4 % ((bc s w).length : Int)).toNat < (bc s w).length
  ·exact (tT (mD h)).2.1
  ·rw [List.getD, List.getElem?_eq_none (by omega)]; rfl
theorem xM {s : Sg} {t : Nat → Int → Ex × Nat} {w b : Int} {i k : Nat} (h : b % 3 = 0) (hm : ge s.mems w s.mems.length 0 = some k) : aN s t w b i = (⟨17, e0, ⟨k, e0⟩, dN, [(t i (1 + b / 3 % 3)).1]⟩, (t i (1 + b / 3 % 3)).2) := by
 unfold aN; rw [if_pos h, hm]
theorem tX {s : Sg} {t : Nat → Int → Ex × Nat} {w b : Int} {i : Nat} (h : b % 3 = 1) (hw : w > 1) : aN s t w b i = (⟨13, e0, dN, ⟨w, e0⟩, [(t i (w - 1)).1]⟩, (t i (w - 1)).2) := by
 unfold aN; rw [if_neg (by omega)]; simp only; rw [if_pos ⟨h, hw⟩]
theorem tY {s : Sg} {t : Nat → Int → Ex × Nat} {w b : Int} {i : Nat} (hm : b % 3 = 0 → ge s.mems w s.mems.length 0 = none) (h : ¬(b % 3 = 1 ∧ w > 1)) : aN s t w b i = (⟨12, e0, ⟨b / 3 % 2, e0⟩, ⟨w, e0⟩, [(t i (w + b / 3 % 2)).1]⟩, (t i (w + b / 3 % 2)).2) := by
 unfold aN
 have e : (if b % 3 = 0 then ge s.mems w s.mems.length 0 else none) = none := by split; exact hm ‹_›; rfl
 rw [e]; simp only; rw [if_neg h]
theorem rA {l : List Mm} {w : Int} {k : Nat} (hk : k < l.length) (h : ¬(l.getD k dz).w = w) : ge l w (l.length - k) k = ge l w (l.length - (k + 1)) (k + 1) := by
 have e : l.length - k = (l.length - (k + 1)) + 1 := by omega
 rw [e, ge, if_neg h]
theorem tZ {l : List Mm} {w : Int} {k : Nat} (hk : k < l.length) (h : (l.getD k dz).w = w) : ge l w (l.length - k) k = some k := by
 have e : l.length - k = (l.length - (k + 1)) + 1 := by omega
 rw [e, ge, if_pos h]
theorem kT {l : List Mm} {w : Int} {k : Nat} (hk : ¬k < l.length) : ge l w (l.length - k) k = none := by
 have e : l.length - k = 0 := by omega
 rw [e, ge]
theorem t0 {s : Sg} {b : List Int} {d i : Nat} {w : Int} (h : d ≤ 1) : ab s b d i w = (aH s w (b.getD i 0 / 14), i + 1) := by
 cases d with
 | zero => rfl
 | succ d => rw [ab]; rw [if_pos (.inl (by omega))]
theorem wJ {s : Sg} {b : List Int} {d i : Nat} {w : Int} (h : b.getD i 0 % 14 < 2) : ab s b (d + 1 + 1) i w = (aH s w (b.getD i 0 / 14), i + 1) := by
 rw [ab]; rw [if_pos (.inr h)]
theorem t1 {s : Sg} {b : List Int} {d i : Nat} {w : Int} (h : b.getD i 0 % 14 = 2 ∨ b.getD i 0 % 14 = 3) : ab s b (d + 1 + 1) i w = aN s (ab s b (d + 1)) w (b.getD i 0 / 14) (i + 1) := by
 rw [ab]; rw [if_neg (by omega), if_pos h]
theorem qw {s : Sg} {b : List Int} {d i : Nat} {w : Int} (h : ¬b.getD i 0 % 14 < 2) (h2 : ¬b.getD i 0 % 14 = 2) (h3 : ¬b.getD i 0 % 14 = 3) : ab s b (d + 1 + 1) i w = (⟨i7 (b.getD i 0) w, e0, dN, dN, (aL (ab s b (d + 1)) (dM (b.getD i 0) w) (i + 1)).1⟩, (aL (ab s b (d + 1)) (dM (b.getD i 0) w) (i + 1)).2) := by
 rw [ab]; rw [if_neg (by omega), if_neg (by omega)]
theorem i9 {t : Nat → Int → Ex × Nat} : ∀ (l : List Int) (i k : Nat), k < l.length → aL t (l.take (k + 1)) i = ((aL t (l.take k) i).1 ++ [(t (aL t (l.take k) i).2 (l.getD k 0)).1], (t (aL t (l.take k) i).2 (l.getD k 0)).2)
 | [], i, k, h => by cases h
 | w :: r, i, 0, h => by simp [aL]
 | w :: r, i, k + 1, h => by
  simp only [List.take_succ_cons, aL]
  rw [i9 r _ k (by simpa using h)]
  simp
theorem wK {s : Sg} {b : List Int} (hb : lR b) {y w : Int} {d k : Nat} (i : Nat) (h1 : 1 ≤ w) (h2 : w + (d + 2 : Nat) ≤ 8) (h3 : d + 2 ≤ 3) (hy : 4 ≤ y % 14) (hy0 : 0 ≤ y) (hk : k < (dM y w).length) : 1 ≤ (dM y w).getD k 0 ∧ (dM y w).getD k 0 + (d + 1 : Nat) ≤ 8 ∧ i ≤ (aL (ab s b (d + 1)) ((dM y w).take k) i).2 ∧ (aL (ab s b (d + 1)) ((dM y w).take k) i).2 + 4 ^ (d + 1) + 1 ≤ i + 4 ^ (d + 2) := by
 obtain ⟨o1, o2, o3, o4, o5⟩ := tU hy hy0 h1 (by omega : w ≤ 8)
 have hm : (dM y w).getD k 0 ∈ dM y w := by
  rw [List.getD, List.getElem?_eq_getElem hk]; exact List.getElem_mem hk
 have hv := o4 _ hm
 have hps := kR (t := ab s b (d + 1)) (n := 4 ^ (d + 1)) ((dM y w).take k) i (fun v hv j => by
  have hh := o4 v (List.mem_of_mem_take hv)
  exact (kS hb (d + 1) j v (by omega) hh.1 (by omega)).2.2)
 have hl : ((dM y w).take k).length ≤ 2 := by rw [List.length_take]; omega
 have hq : 4 ^ (d + 1) * ((dM y w).take k).length ≤ 4 ^ (d + 1) * 2 := Nat.mul_le_mul_left _ hl
 have hp : 1 ≤ 4 ^ (d + 1) := Nat.one_le_pow _ _ (by omega)
 have hpow : 4 ^ (d + 2) = 4 * 4 ^ (d + 1) := by rw [Nat.pow_succ]; omega
 exact ⟨hv.1, by omega, hps.1, by omega⟩
theorem zH {x : Int} {n : Nat} (h : ¬(n : Int) = 0) : IX (x % (n : Int)) (n : Int) := ⟨Int.emod_nonneg x h, Int.emod_lt_of_pos x (by omega)⟩
end Go.Proofs.Ytgmpoenfoacofaa
