/-
  The laws of networks, plain data: orders, states of cases, comparisons.
-/
import Derived.Test.YtifoecfajmnjjaaGreatQNeN
namespace Go.Proofs.YtifoecfajmnjjaaGreat
open Go.RowKit
set_option linter.unusedVariables false
set_option linter.unusedSimpArgs false
theorem Ef {l : List Int} {n : Nat} (h : lr l) : lr (l.take n) := fun x hx => h x (List.mem_of_mem_take hx)
theorem FQ (l : List Int) : x6 (l.length : Int) 20 = ((min l.length 20 : Nat) : Int) := by unfold x6; split <;> omega
theorem Eg {p : Pr} (hp : fS p) : nQ p (aX p) where
 rl := by simp [aX]
 rv := fun i hi => by
  rw [show (aX p).regs = p.regs.map (·.init) from rfl]
  have := (hp.rw i hi).2.1
  simpa [List.getD, List.getElem?_map, List.getElem?_eq_getElem hi] using this
 ml := by simp [aX]
 mn := fun i hi => by
  have h2 := (hp.mw i hi).2.1
  rw [show (aX p).mems = p.mems.map (fun m => List.replicate m.words.toNat 0) from rfl]
  have : (p.mems.map (fun m => List.replicate m.words.toNat (0 : Int))).getD i [] = List.replicate (kN p i).words.toNat 0 := by
   simp [List.getD, List.getElem?_map, List.getElem?_eq_getElem hi]
  rw [this, List.length_replicate]; omega
 mv := fun i hi j hj => by
  rw [show (aX p).mems = p.mems.map (fun m => List.replicate m.words.toNat 0) from rfl] at hj ⊢
  have : (p.mems.map (fun m => List.replicate m.words.toNat (0 : Int))).getD i [] = List.replicate (kN p i).words.toNat 0 := by
   simp [List.getD, List.getElem?_map, List.getElem?_eq_getElem hi]
  rw [this, bO]
  exact nR (hp.mw i hi).1
theorem Eh {c : Ci} (hc : bR c) : cT c (az c) where
 pl := by simp [az, aM]
 cl := by simp [az]
 pv := fun i hi => by
  show nQ _ ((an _ _).getD i a7)
  rw [bA hi]; exact Eg (hc.pr i hi)
 cv := fun n hn i hi => by
  have h0 : ir (az c) n = [] := by show (List.replicate _ _).getD n [] = []; exact bO
  rw [h0] at hi; simp at hi
 cc := fun n hn h1 h2 => by
  have h0 : ir (az c) n = [] := by show (List.replicate _ _).getD n [] = []; exact bO
  rw [h0]
  simpa using hc.cp n hn
theorem Ft {c : Ci} {s : Ns} (hs : cT c s) {n : Nat} (hn : n < c.chans.length) {l : List Int} (h1 : ∀ i, i < l.length → dG (l.getD i 0) (gx c n).w) (h2 : 0 ≤ (gx c n).frm → 0 ≤ (gx c n).dst → (l.length : Int) ≤ (gx c n).cap) : cT c (gM s n l) where
 pl := hs.pl
 cl := by show (s.chans.set n l).length = _; rw [List.length_set]; exact hs.cl
 pv := hs.pv
 cv := fun m hm i hi => by
  have e : ir (gM s n l) m = if n = m then l else ir s m := b6 (by rw [hs.cl]; exact hn)
  rw [e] at hi ⊢
  split at hi
  ·rename_i h; subst h; rw [if_pos rfl]; exact h1 i hi
  ·rename_i h; rw [if_neg h]; exact hs.cv m hm i hi
 cc := fun m hm a b => by
  have e : ir (gM s n l) m = if n = m then l else ir s m := b6 (by rw [hs.cl]; exact hn)
  rw [e]
  split
  ·rename_i h; subst h; exact h2 a b
  ·exact hs.cc m hm a b
theorem Fu {s : Ns} {k n : Nat} {l : List Int} (h : kO s k) (hl : l.length ≤ k) : kO (gM s n l) k := fun m => by
 by_cases hn : n < s.chans.length
 ·have e : ir (gM s n l) m = if n = m then l else ir s m := b6 hn
  rw [e]; split
  ·exact hl
  ·exact h m
 ·have e : gM s n l = s := by show (⟨s.procs, s.chans.set n l⟩ : Ns) = s; rw [List.set_eq_of_length_le (by omega)]
  rw [e]; exact h m
theorem GQ {b : List Int} {i : Nat} {w : Int} {k : Nat} (h1 : 1 ≤ w) (h2 : w ≤ 62) : dG (tA b i w k) w := by
 unfold tA dG
 rw [cC (by omega) h2]
 have hp : (0 : Int) < 2 ^ w.toNat := Int.pow_pos (by omega)
 exact ⟨Int.emod_nonneg _ (by omega), by have := Int.emod_lt_of_pos (b.getD (i + (1 + k)) 0) hp; omega⟩
theorem Ei {c : Ci} (hc : bR c) {b : List Int} (hb : lr b) : ∀ i, i ≤ c.chans.length → cT c (tp c b i).1 ∧ kO (tp c b i).1 6
 | 0, _ => ⟨Eh hc, fun n => by
  have : ir (az c) n = [] := by show (List.replicate _ _).getD n [] = []; exact bO
  show (ir (az c) n).length ≤ 6
  rw [this]; simp⟩
 | i + 1, h => by
  have ih := Ei hc hb i (by omega)
  by_cases hf : 0 ≤ (gx c i).frm
  ·rw [D7 hf]; exact ih
  ·rw [zh hf]
   have hw := aW.1 (hc.cw i (by omega))
   have hn := D6 hb (tp c b i).2
   refine ⟨Ft ih.1 (by omega) (fun j hj => ?_) (fun a _ => absurd a hf), Fu ih.2 (by rw [aM]; exact hn.1)⟩
   rw [aM] at hj
   rw [bA hj]; exact GQ hw.1 (by omega)
theorem BT {c : Ci} (hc : bR c) {b : List Int} (hb : lr b) : cT c (d8 c b) ∧ kO (d8 c b) 1000000000 := by
 have := Ei hc hb c.chans.length (Nat.le_refl _)
 exact ⟨this.1, fun n => Nat.le_trans (this.2 n) (by omega)⟩
theorem AO {c : Ci} (hc : bR c) : ∀ (l : List Int) {s : Ns} {k : Nat}, cT c s → kO s k → cT c (d9 c s l) ∧ kO (d9 c s l) (k + l.length)
 | [], s, k, h1, h2 => ⟨h1, h2⟩
 | x :: r, s, k, h1, h2 => by
  have := AO hc r (b4 hc h1 (eF (x % c.procs.length))) (bU (w := eF (x % c.procs.length)) hc h2)
  refine ⟨this.1, fun n => ?_⟩
  have h3 := this.2 n
  show (ir (d9 c _ r) n).length ≤ _
  simp only [List.length_cons]; omega
def ae (c : Ci) (bb l : List Int) : Ns := d9 c (d8 c bb) (l.take (min l.length 20))
theorem Ej {c : Ci} (hc : bR c) {bb l : List Int} (hb : lr bb) : cT c (ae c bb l) ∧ kO (ae c bb l) 100 := by
 have h1 := Ei hc hb c.chans.length (Nat.le_refl _)
 have h2 := AO hc (l.take (min l.length 20)) h1.1 h1.2
 refine ⟨h2.1, fun n => ?_⟩
 have := h2.2 n
 have h3 : (l.take (min l.length 20)).length ≤ 20 := by rw [List.length_take]; omega
 show (ir (d9 c _ _) n).length ≤ 100
 unfold d8
 omega
end Go.Proofs.YtifoecfajmnjjaaGreat
