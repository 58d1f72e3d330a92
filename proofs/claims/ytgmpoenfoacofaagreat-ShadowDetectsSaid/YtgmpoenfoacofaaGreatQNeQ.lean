/-
  The laws of networks, plain data: orders, states of cases, comparisons.
-/
import Derived.Test.YtgmpoenfoacofaaGreatQNeN
namespace Go.Proofs.YtgmpoenfoacofaaGreat
open Go.RowKit
set_option linter.unusedVariables false
set_option linter.unusedSimpArgs false
theorem CR {p : Pr} (hp : gi p) : oE p (aJ p) where
 rl := by simp [aJ]
 rv := fun i hi => by
  rw [show (aJ p).regs = p.regs.map (·.init) from rfl]
  have := (hp.rw i hi).2.1
  simpa [List.getD, List.getElem?_map, List.getElem?_eq_getElem hi] using this
 ml := by simp [aJ]
 mn := fun i hi => by
  have h2 := (hp.mw i hi).2.1
  rw [show (aJ p).mems = p.mems.map (fun m => List.replicate m.words.toNat 0) from rfl]
  have : (p.mems.map (fun m => List.replicate m.words.toNat (0 : Int))).getD i [] = List.replicate (jx p i).words.toNat 0 := by
   simp [List.getD, List.getElem?_map, List.getElem?_eq_getElem hi]
  rw [this, List.length_replicate]; omega
 mv := fun i hi j hj => by
  rw [show (aJ p).mems = p.mems.map (fun m => List.replicate m.words.toNat 0) from rfl] at hj ⊢
  have : (p.mems.map (fun m => List.replicate m.words.toNat (0 : Int))).getD i [] = List.replicate (jx p i).words.toNat 0 := by
   simp [List.getD, List.getElem?_map, List.getElem?_eq_getElem hi]
  rw [this, dR]
  exact lY (hp.mw i hi).1
theorem wz {c : Ci} (hc : b5 c) : cT c (aC c) where
 pl := by simp [aC, aK]
 cl := by simp [aC]
 pv := fun i hi => by
  show oE _ ((tab _ _).getD i b4)
  rw [bf hi]; exact CR (hc.pr i hi)
 cv := fun n hn i hi => by
  have h0 : fk (aC c) n = [] := by show (List.replicate _ _).getD n [] = []; exact dR
  rw [h0] at hi; simp at hi
 cc := fun n hn h1 h2 => by
  have h0 : fk (aC c) n = [] := by show (List.replicate _ _).getD n [] = []; exact dR
  rw [h0]
  simpa using hc.cp n hn
theorem Ej {c : Ci} {s : Ns} (hs : cT c s) {n : Nat} (hn : n < c.chans.length) {l : List Int} (h1 : ∀ i, i < l.length → cJ (l.getD i 0) (dg c n).w) (h2 : 0 ≤ (dg c n).frm → 0 ≤ (dg c n).dst → (l.length : Int) ≤ (dg c n).cap) : cT c (ft s n l) where
 pl := hs.pl
 cl := by show (s.chans.set n l).length = _; rw [List.length_set]; exact hs.cl
 pv := hs.pv
 cv := fun m hm i hi => by
  have e : fk (ft s n l) m = if n = m then l else fk s m := b3 (by rw [hs.cl]; exact hn)
  rw [e] at hi ⊢
  split at hi
  ·rename_i h; subst h; rw [if_pos rfl]; exact h1 i hi
  ·rename_i h; rw [if_neg h]; exact hs.cv m hm i hi
 cc := fun m hm a b => by
  have e : fk (ft s n l) m = if n = m then l else fk s m := b3 (by rw [hs.cl]; exact hn)
  rw [e]
  split
  ·rename_i h; subst h; exact h2 a b
  ·exact hs.cc m hm a b
theorem Ek {s : Ns} {k n : Nat} {l : List Int} (h : l5 s k) (hl : l.length ≤ k) : l5 (ft s n l) k := fun m => by
 by_cases hn : n < s.chans.length
 ·have e : fk (ft s n l) m = if n = m then l else fk s m := b3 hn
  rw [e]; split
  ·exact hl
  ·exact h m
 ·have e : ft s n l = s := by show (⟨s.procs, s.chans.set n l⟩ : Ns) = s; rw [List.set_eq_of_length_le (by omega)]
  rw [e]; exact h m
theorem Gb {b : List Int} {i : Nat} {w : Int} {k : Nat} (h1 : 1 ≤ w) (h2 : w ≤ 62) : cJ (sA b i w k) w := by
 unfold sA cJ
 rw [cR (by omega) h2]
 have hp : (0 : Int) < 2 ^ w.toNat := Int.pow_pos (by omega)
 exact ⟨Int.emod_nonneg _ (by omega), by have := Int.emod_lt_of_pos (b.getD (i + (1 + k)) 0) hp; omega⟩
theorem EZ {c : Ci} (hc : b5 c) {b : List Int} (hb : lW b) : ∀ i, i ≤ c.chans.length → cT c (mf c b i).1 ∧ l5 (mf c b i).1 6
 | 0, _ => ⟨wz hc, fun n => by
  have : fk (aC c) n = [] := by show (List.replicate _ _).getD n [] = []; exact dR
  show (fk (aC c) n).length ≤ 6
  rw [this]; simp⟩
 | i + 1, h => by
  have ih := EZ hc hb i (by omega)
  by_cases hf : 0 ≤ (dg c i).frm
  ·rw [CH hf]; exact ih
  ·rw [xU hf]
   have hw := bh.1 (hc.cw i (by omega))
   have hn := CG hb (mf c b i).2
   refine ⟨Ej ih.1 (by omega) (fun j hj => ?_) (fun a _ => absurd a hf), Ek ih.2 (by rw [aK]; exact hn.1)⟩
   rw [aK] at hj
   rw [bf hj]; exact Gb hw.1 (by omega)
theorem Ay {c : Ci} (hc : b5 c) {b : List Int} (hb : lW b) : cT c (ay c b) ∧ l5 (ay c b) 1000000000 := by
 have := EZ hc hb c.chans.length (Nat.le_refl _)
 exact ⟨this.1, fun n => Nat.le_trans (this.2 n) (by omega)⟩
end Go.Proofs.YtgmpoenfoacofaaGreat
