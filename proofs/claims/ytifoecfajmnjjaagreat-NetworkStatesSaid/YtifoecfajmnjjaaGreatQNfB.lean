/-
  The laws of networks, plain data: what a tick leaves of each channel.
-/
import Derived.Test.YtifoecfajmnjjaaGreatQNeV
namespace Go.Proofs.YtifoecfajmnjjaaGreat
open Go.RowKit
set_option linter.unusedVariables false
set_option linter.unusedSimpArgs false
def fH (c : Ci) (s : Ns) (w : Nat → Bool) : Nat → List (List Int)
 | 0 => s.chans
 | p + 1 => if ai c s w p = true then a6 (aN (fH c s w p) (fA (ay c p) (ab c s p) (ay c p).takes.length)) (fT (ay c p) (ab c s p) (ay c p).puts.length) else fH c s w p
section
variable {c : Ci} {s : Ns} {w : Nat → Bool} {p q n : Nat}
theorem pQ (h : ai c s w p = false) : fH c s w (p + 1) = fH c s w p := by rw [fH, if_neg (by rw [h]; simp)]
theorem lP (h : ai c s w p = true) : fH c s w (p + 1) = a6 (aN (fH c s w p) (fA (ay c p) (ab c s p) (ay c p).takes.length)) (fT (ay c p) (ab c s p) (ay c p).puts.length) := by rw [fH, if_pos h]
theorem cD : ∀ p, (fH c s w p).length = s.chans.length
 | 0 => rfl
 | p + 1 => by
  rw [fH]; split
  ·rw [ct, bf]; exact cD p
  ·exact cD p
theorem Er (h : ai c s w (fK c n) = false) : dt c s w n = 0 := by unfold dt; rw [if_neg (by rw [h]; simp)]
theorem Es (h : ai c s w (gX c n) = false) : dk c s w n = [] := by unfold dk; rw [if_neg (by rw [h]; simp)]
theorem J6 (x P g : Nat) (hx : x = P → g = 0) : (if x < P then g else 0) = if x < P + 1 then g else 0 := by
 by_cases h1 : x < P
 ·rw [if_pos h1, if_pos (Nat.lt_succ_of_lt h1)]
 ·by_cases h2 : x = P
  ·rw [hx h2]; simp
  ·rw [if_neg h1, if_neg (by omega)]
theorem J7 (x P : Nat) (g : List Int) (hx : x = P → g = []) : (if x < P then g else []) = if x < P + 1 then g else [] := by
 by_cases h1 : x < P
 ·rw [if_pos h1, if_pos (Nat.lt_succ_of_lt h1)]
 ·by_cases h2 : x = P
  ·rw [hx h2]; simp
  ·rw [if_neg h1, if_neg (by omega)]
theorem J8 (x P : Nat) (g : List Int) : (if x < P then g else []) ++ (if x = P then g else []) = if x < P + 1 then g else [] := by
 by_cases h1 : x < P
 ·rw [if_pos h1, if_neg (by omega), if_pos (Nat.lt_succ_of_lt h1), List.append_nil]
 ·by_cases h2 : x = P
  ·rw [if_neg h1, if_pos h2, if_pos (by omega), List.nil_append]
  ·rw [if_neg h1, if_neg h2, if_neg (by omega)]; rfl
theorem pR (hc : bR c) (hl : s.chans.length = c.chans.length) (hn : n < c.chans.length) : ∀ P, P ≤ c.procs.length →
  (fH c s w P).getD n [] = (ir s n).drop (if fK c n < P then dt c s w n else 0) ++ (if gX c n < P then dk c s w n else [])
 | 0, _ => by
  rw [if_neg (Nat.not_lt_zero _), if_neg (Nat.not_lt_zero _), List.append_nil]; rfl
 | P + 1, h => by
  have ih := pR hc hl hn P (by omega)
  cases hf : ai c s w P
  ·rw [pQ hf, ih, J6 _ _ _ (fun h1 => Er (by rw [h1]; exact hf)), J7 _ _ _ (fun h1 => Es (by rw [h1]; exact hf))]
  ·have hlen : n < (fH c s w P).length := by rw [cD, hl]; exact hn
   rw [lP hf, ly _ _ _ (by rw [bf]; exact hlen), gr _ _ _ hlen, ih]
   have hcnt : (fA (ay c P) (ab c s P) (ay c P).takes.length).count n = if fK c n = P then dt c s w n else 0 := by
    rw [mf hc n (by omega) (Nat.le_refl _)]
    by_cases h1 : fK c n = P
    ·rw [if_pos h1]
     unfold dt jk
     rw [h1, hf]
     simp
    ·rw [if_neg h1, if_neg (fun hm => ?_)]
     have := (vI hc (by omega) (Nat.le_refl _) hm).2
     exact h1 (by unfold fK; omega)
   have hput : ((fT (ay c P) (ab c s P) (ay c P).puts.length).filter (fun e => e.1 == n)).map (·.2) = if gX c n = P then dk c s w n else [] := by
    by_cases h1 : gX c n = P
    ·rw [if_pos h1]
     unfold dk tx
     rw [h1, if_pos hf]
    ·rw [if_neg h1, Af hc (by omega) h1]; rfl
   rw [hcnt, hput]
   have hgl := Aw (c := c) (s := s) (w := w) n
   have hd : ((ir s n).drop (if fK c n < P then dt c s w n else 0) ++ (if gX c n < P then dk c s w n else [])).drop (if fK c n = P then dt c s w n else 0) = (ir s n).drop (if fK c n < P + 1 then dt c s w n else 0) ++ (if gX c n < P then dk c s w n else []) := by
    by_cases h1 : fK c n = P
    ·rw [if_pos h1, if_neg (show ¬fK c n < P by omega), if_pos (show fK c n < P + 1 by omega), List.drop_zero, List.drop_append_of_le_length hgl]
    ·rw [if_neg h1, List.drop_zero]
     by_cases h3 : fK c n < P
     ·rw [if_pos h3, if_pos (Nat.lt_succ_of_lt h3)]
     ·rw [if_neg h3, if_neg (show ¬fK c n < P + 1 by omega)]
   rw [hd, List.append_assoc, J8]
theorem pS (hc : bR c) (hl : s.chans.length = c.chans.length) (hn : n < c.chans.length) : (fH c s w c.procs.length).getD n [] = (aD c s w).chans.getD n [] := by
 rw [pR hc hl hn _ (Nat.le_refl _), vJ hc, rD]
 show _ = (an (ff c s w) c.chans.length).getD n []
 rw [bA hn]; rfl
theorem pT (hc : bR c) (hl : s.chans.length = c.chans.length) (hp : p < c.procs.length) (hf : ai c s w p = true) (hq : q < (ay c p).takes.length) (hpop : (ab c s p).pops.getD q false = true) :
  1 ≤ ((aN (fH c s w p) (fA (ay c p) (ab c s p) q)).getD (cf (ay c p) q) []).length := by
 have hn := xh hc hp hq
 have hd := Gr hc hp hq
 have hcan := (GA hf).2
 have hh := uz hcan hq hpop
 rw [gr _ _ _ (by rw [cD, hl]; exact hn), pR hc hl hn p (by omega), hd, if_neg (by omega), List.drop_zero]
 have hcount : (fA (ay c p) (ab c s p) q).count (cf (ay c p) q) = 0 := by
  rw [List.count_eq_zero]
  intro hm
  obtain ⟨j, h1, _, h3⟩ := me hm
  have := hc.td p hp j q (by omega) hq h3
  omega
 rw [hcount, List.drop_zero, List.length_append]
 omega
theorem mP (hc : bR c) (hs : cT c s) (hm : kO s 100) (hp : p < c.procs.length) (hq : q ≤ (ay c p).puts.length) (hn : n < c.chans.length) :
  ((a6 (aN (fH c s w p) (fA (ay c p) (ab c s p) (ay c p).takes.length)) (fT (ay c p) (ab c s p) q)).getD n []).length ≤ 1000 := by
 have h1 := Am (fT (ay c p) (ab c s p) q) (aN (fH c s w p) (fA (ay c p) (ab c s p) (ay c p).takes.length)) n (by rw [bf, cD, hs.cl]; exact hn)
 have h2 := An (fA (ay c p) (ab c s p) (ay c p).takes.length) (fH c s w p) n (by rw [cD, hs.cl]; exact hn)
 rw [pR hc hs.cl hn p (by omega), List.length_append, List.length_drop] at h2
 have h3 : (ir s n).length ≤ 100 := hm n
 have h4 := rG (p := ay c p) (f := ab c s p) (k := q)
 have h5 := (hc.pr p hp).pl
 have h6 : (if gX c n < p then dk c s w n else []).length ≤ 1 := by
  split
  ·exact uB hc n
  ·simp
 omega
theorem bJ {cl : ByteArray} (hp : p < c.procs.length) : (an (ai c s (am c cl)) c.procs.length).getD p false = ai c s (am c cl) p := bA hp
theorem we {cl : ByteArray} (hp : p < c.procs.length) (h : ((ay c p).clock.toList == cl.toList) = true) : (an (ai c s (am c cl)) c.procs.length).getD p false = dj c s (p : Int) := by
 rw [bJ hp, vV hp]; unfold ai am; rw [h, Bool.true_and]
theorem AR {cl : ByteArray} (hp : p < c.procs.length) (h : ¬((ay c p).clock.toList == cl.toList) = true) : (an (ai c s (am c cl)) c.procs.length).getD p false = false := by
 rw [bJ hp]; unfold ai am; rw [show ((ay c p).clock.toList == cl.toList) = false by simpa using h, Bool.false_and]
theorem wg (hp : p < c.procs.length) (h : ai c s w p = true) : (aD c s w).procs.getD p a7 = (ab c s p).s := by
 show (an (bX c s w) c.procs.length).getD p a7 = _
 rw [bA hp]; exact if_pos h
theorem AU (hp : p < c.procs.length) (h : ai c s w p = false) : (aD c s w).procs.getD p a7 = s.procs.getD p a7 := by
 show (an (bX c s w) c.procs.length).getD p a7 = _
 rw [bA hp]; exact if_neg (by rw [h]; simp)
theorem mQ {u v : List (List Int)} (h : v = aN u (fA (ay c p) (ab c s p) q)) (hp : (ab c s p).pops.getD q false = true) : v.set (cf (ay c p) q) ((v.getD (cf (ay c p) q) []).drop 1) = aN u (fA (ay c p) (ab c s p) (q + 1)) := by
 rw [fA, if_pos hp, kg, h]
theorem mR {u v : List (List Int)} (h : v = aN u (fA (ay c p) (ab c s p) q)) (hp : (ab c s p).pops.getD q false = false) : v = aN u (fA (ay c p) (ab c s p) (q + 1)) := by
 rw [fA, if_neg (by rw [hp]; simp), List.append_nil, h]
theorem mS {u v : List (List Int)} (h : v = a6 u (fT (ay c p) (ab c s p) q)) (hp : ((ab c s p).puts.getD q aG).has = true) : v.set (bP (ay c p) q) (v.getD (bP (ay c p) q) [] ++ [((ab c s p).puts.getD q aG).v]) = a6 u (fT (ay c p) (ab c s p) (q + 1)) := by
 rw [fT, if_pos hp, kh, h]
theorem mU {u v : List (List Int)} (h : v = a6 u (fT (ay c p) (ab c s p) q)) (hp : ((ab c s p).puts.getD q aG).has = false) : v = a6 u (fT (ay c p) (ab c s p) (q + 1)) := by
 rw [fT, if_neg (by rw [hp]; simp), List.append_nil, h]
end
end Go.Proofs.YtifoecfajmnjjaaGreat
