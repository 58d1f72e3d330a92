/-
  The laws of networks, plain data: the environment.
-/
import Derived.Test.YtifoecfajmnjjaaGreatQNeV
namespace Go.Proofs.YtifoecfajmnjjaaGreat
open Go.RowKit
set_option linter.unusedVariables false
set_option linter.unusedSimpArgs false
def b8 (ch : Int) (c : Ci) : Nat := ((ch % 2 ^ 3) % (c.chans.length : Int)).toNat
def w3 (ws : List Int) (i : Nat) : Int := ws.getD i 0 % 2 ^ 2
theorem O1 (x : Int) : IntKind.wrap .i64 ((BitVec.ofInt (IntKind.i64).bits x &&& BitVec.ofInt (IntKind.i64).bits 7).toNat : Int) = x % 2 ^ 3 := jc (n := 3) (by omega)
theorem ND (x : Int) : IntKind.wrap .i64 ((BitVec.ofInt (IntKind.i64).bits x &&& BitVec.ofInt (IntKind.i64).bits 3).toNat : Int) = x % 2 ^ 2 := jc (n := 2) (by omega)
section
variable {c : Ci} {s : Ns} {n : Nat} {l : List Int}
theorem LZ (h1 : 1 ≤ c.chans.length) (ch : Int) : Int.tmod (ch % 2 ^ 3) (c.chans.length : Int) = (b8 ch c : Int) := by
 have h0 : 0 ≤ ch % 2 ^ 3 := Int.emod_nonneg _ (by decide)
 rw [Int.tmod_eq_emod_of_nonneg h0]
 unfold b8
 have := Int.emod_nonneg (ch % 2 ^ 3) (show (c.chans.length : Int) ≠ 0 by omega)
 omega
theorem L0 (h1 : 1 ≤ c.chans.length) (ch : Int) : b8 ch c < c.chans.length := by
 unfold b8
 have := Int.emod_nonneg (ch % 2 ^ 3) (show (c.chans.length : Int) ≠ 0 by omega)
 have := Int.emod_lt_of_pos (ch % 2 ^ 3) (show (0 : Int) < c.chans.length by omega)
 omega
theorem L1 (ws : List Int) (i : Nat) : eF (w3 ws i) 2 := by
 unfold w3 eF
 rw [da (by omega) (by omega)]
 have h0 : 0 ≤ ws.getD i 0 % 2 ^ 2 := Int.emod_nonneg _ (by decide)
 have h1 : ws.getD i 0 % 2 ^ 2 < 2 ^ 2 := Int.emod_lt_of_pos _ (by decide)
 have h2 : ((2 : Int) ^ (2 : Int).toNat - 1) = 3 := by decide
 omega
theorem Kd (ws : List Int) (k : Nat) : cg (ao (w3 ws) k) 2 = true := wD.2 (fun i hi => by
 rw [aN] at hi
 rw [bf hi]; exact L1 ws i)
theorem I8 (l : List Int) : cg (l ++ [4]) 2 = false := by
 unfold cg
 refine ie (f := fun i => cS ((l ++ [4]).getD i 0) 2) (i := l.length) (show l.length < (l ++ [4]).length by simp) ?_
 show cS ((l ++ [4]).getD l.length 0) 2 = false
 rw [oQ, if_neg (Nat.lt_irrefl _), Nat.sub_self]
 decide
theorem Ke (hw : (fk c n).w = 2) : (am c s (n : Int) (l ++ [4])).2 = 1 := by
 rw [gr (by rw [Int.toNat_natCast, hw, I8]; exact Bool.false_ne_true)]
theorem I9 : (am c s (c.chans.length : Int) l).2 = 1 := by rw [kC (by rw [dt (by omega)]; simp)]
theorem Kf : (aF c s (-1)).2.2 = 1 := by rw [mX (by rw [dq (by omega)]; simp)]
theorem xn (hn : n < c.chans.length) (hw : (fk c n).w = 2) (hv : cg l 2 = true) : am c s (n : Int) l = if (fk c n).frm = -1 then (cz s n (gj s n ++ l), 0) else (Jk, 1) := by
 split
 ·rename_i h
  rw [oV (dQ (by omega) (by omega) (by rw [Int.toNat_natCast]; exact h)) (by rw [Int.toNat_natCast, hw]; exact hv), Int.toNat_natCast]; rfl
 ·rename_i h
  rw [kC (by rw [fA (by rw [Int.toNat_natCast]; exact h)]; simp)]
theorem BU (hn : n < c.chans.length) : aF c s (n : Int) = if (fk c n).dst = -1 then (gj s n, cz s n [], 0) else ([], Jk, 1) := by
 split
 ·rename_i h
  rw [eD (dQ (by omega) (by omega) (by rw [Int.toNat_natCast]; exact h)), Int.toNat_natCast]; rfl
 ·rename_i h
  rw [mX (by rw [fA (by rw [Int.toNat_natCast]; exact h)]; simp)]
theorem L2 (hn : n < c.chans.length) (hw : (fk c n).w = 2) (hv : cg l 2 = true) : decide ((am c s (n : Int) l).2 = 0) = decide ((fk c n).frm = -1) := by
 rw [xn hn hw hv]; split
 ·rename_i h; rw [decide_eq_true h]; rfl
 ·rename_i h; rw [decide_eq_false h]; rfl
theorem L3 (hn : n < c.chans.length) : decide ((aF c s (n : Int)).2.2 = 0) = decide ((fk c n).dst = -1) := by
 rw [BU hn]; split
 ·rename_i h; rw [decide_eq_true h]; rfl
 ·rename_i h; rw [decide_eq_false h]; rfl
theorem lF (hn : n < c.chans.length) (h : (aF c s (n : Int)).2.2 = 0) : aF c s (n : Int) = (gj s n, cz s n [], 0) := by
 rw [BU hn] at h ⊢
 split at h
 ·rename_i hd; rw [if_pos hd]
 ·cases h
theorem Fs (hn : n < c.chans.length) (hw : (fk c n).w = 2) (hv : cg l 2 = true) (h : (am c s (n : Int) l).2 = 0) : am c s (n : Int) l = (cz s n (gj s n ++ l), 0) ∧ (fk c n).frm = -1 := by
 rw [xn hn hw hv] at h ⊢
 split at h
 ·rename_i hd; rw [if_pos hd]; exact ⟨rfl, hd⟩
 ·cases h
theorem BV (hn : n < c.chans.length) (hw : (fk c n).w = 2) (hv : cg l 2 = true) (h : ¬(am c s (n : Int) l).2 = 0) : (am c s (n : Int) l).2 = 1 := by
 rw [xn hn hw hv] at h ⊢
 split
 ·rename_i hd; rw [if_pos hd] at h; exact absurd rfl h
 ·rfl
theorem Al (hs : bN c s) (hn : n < c.chans.length) (l : List Int) : (cz s n l).chans.getD n [] = l := by
 show (s.chans.set n l).getD n [] = l
 rw [b6 (by rw [hs.cl]; exact hn), if_pos rfl]
theorem Am (hs : bN c s) (hn : n < c.chans.length) (h0 : 0 ≤ (fk c n).cap) : bN c (cz s n []) := Ag hs hn (fun i hi => by simp at hi) (fun _ _ => by simpa using h0)
theorem Ft (hs : bN c s) (hn : n < c.chans.length) (hw : (fk c n).w = 2) (hv : cg l 2 = true) (hf : (fk c n).frm = -1) : bN c (cz s n (gj s n ++ l)) := by
 refine Ag hs hn (fun i hi => ?_) (fun a _ => by omega)
 rw [oQ]
 split
 ·rename_i h; exact hs.cv n hn i h
 ·rename_i h
  rw [hw]
  rw [List.length_append] at hi
  exact wD.1 hv _ (by omega)
theorem BW (hc : bo c) (hs : bN c s) (hn : n < c.chans.length) (hf : (fk c n).frm = -1) {p : Nat} (hp : p < c.procs.length) (h : bp c s (p : Int) = true) : bp c (cz s n (gj s n ++ l)) (p : Int) = true := by
 rw [dZ hp] at h ⊢
 have hget : ∀ m, gj (cz s n (gj s n ++ l)) m = if n = m then gj s n ++ l else gj s m := fun m => b6 (by rw [hs.cl]; exact hn)
 have hst : ac c (cz s n (gj s n ++ l)) p = ac c s p := by
  unfold ac
  rw [wE] at h
  refine yl (hc.pr p hp) h (fun j hj hh => ?_) (fun j hj hh => ?_)
  ·rw [cT, bf hj] at hh ⊢
   rw [cT, bf hj]
   unfold cH at hh ⊢
   rw [hget]
   split
   ·rename_i e
    rw [← e] at hh ⊢
    have h0 : 0 < (gj s n).length := by
     by_cases h0 : 0 < (gj s n).length
     ·exact h0
     ·rw [if_neg h0] at hh; cases hh
    rw [if_pos (by rw [List.length_append]; omega), if_pos h0, oQ, if_pos h0]
   ·rfl
  ·rw [dK, bf hj] at hh ⊢
   unfold cI at hh ⊢
   have hq := (hc.pt p hp j hj).2.2.2
   rw [hget, if_neg (fun e => by rw [← e, hf] at hq; omega)]
   exact hh
 unfold dD at h ⊢
 rw [hst]; exact h
end
theorem L4 (sh : Int) (b : List Int) {n : Nat} (h : n < (aa sh b).chans.length) : (fk (aa sh b) n).w = 2 := by
 have e : fk (aa sh b) n = w9 sh (av sh) n := bf (by simpa [aa, aN] using h)
 rw [e]; rfl
theorem Kg (sh : Int) (b : List Int) : 1 ≤ (aa sh b).chans.length := by
 show 1 ≤ (ao _ _).length
 rw [aN]; unfold np; omega
end Go.Proofs.YtifoecfajmnjjaaGreat
