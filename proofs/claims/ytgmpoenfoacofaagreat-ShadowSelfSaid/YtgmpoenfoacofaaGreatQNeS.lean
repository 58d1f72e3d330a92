/-
  The laws of networks, plain data: the circuit of the examples.
-/
import Derived.Test.YtgmpoenfoacofaaGreatQNeN
namespace Go.Proofs.YtgmpoenfoacofaaGreat
open Go.RowKit
set_option linter.unusedVariables false
set_option linter.unusedSimpArgs false
theorem yM {l : List Int} {n : Nat} (h : hJ l) : hJ (l.take n) := fun x hx => h x (List.mem_of_mem_take hx)
theorem FU {p : Pr} (hp : fL p) : nb p (aP p) where
 rl := by simp [aP]
 rv := fun i hi => by
  rw [show (aP p).regs = p.regs.map (·.init) from rfl]
  have := (hp.rw i hi).2.1
  simpa [List.getD, List.getElem?_map, List.getElem?_eq_getElem hi] using this
 ml := by simp [aP]
 mn := fun i hi => by
  have h2 := (hp.mw i hi).2.1
  rw [show (aP p).mems = p.mems.map (fun m => List.replicate m.words.toNat 0) from rfl]
  have : (p.mems.map (fun m => List.replicate m.words.toNat (0 : Int))).getD i [] = List.replicate (kt p i).words.toNat 0 := by
   simp [List.getD, List.getElem?_map, List.getElem?_eq_getElem hi]
  rw [this, List.length_replicate]; omega
 mv := fun i hi j hj => by
  rw [show (aP p).mems = p.mems.map (fun m => List.replicate m.words.toNat 0) from rfl] at hj ⊢
  have : (p.mems.map (fun m => List.replicate m.words.toNat (0 : Int))).getD i [] = List.replicate (kt p i).words.toNat 0 := by
   simp [List.getD, List.getElem?_map, List.getElem?_eq_getElem hi]
  rw [this, b6]
  exact nc (hp.mw i hi).1
theorem yN {c : Ci} (hc : a6 c) : bH c (aE c) where
 pl := by simp [aE, aJ]
 cl := by simp [aE]
 pv := fun i hi => by
  show nb _ ((ao _ _).getD i bx)
  rw [bh hi]; exact FU (hc.pr i hi)
 cv := fun n hn i hi => by
  have h0 : d7 (aE c) n = [] := by show (List.replicate _ _).getD n [] = []; exact b6
  rw [h0] at hi; simp at hi
 cc := fun n hn h1 h2 => by
  have h0 : d7 (aE c) n = [] := by show (List.replicate _ _).getD n [] = []; exact b6
  rw [h0]
  simpa using hc.cp n hn
theorem BZ {c : Ci} {s : Ns} (hs : bH c s) {n : Nat} (hn : n < c.chans.length) {l : List Int} (h1 : ∀ i, i < l.length → dq (l.getD i 0) (cL c n).w) (h2 : 0 ≤ (cL c n).frm → 0 ≤ (cL c n).dst → (l.length : Int) ≤ (cL c n).cap) : bH c (fa s n l) where
 pl := hs.pl
 cl := by show (s.chans.set n l).length = _; rw [List.length_set]; exact hs.cl
 pv := hs.pv
 cv := fun m hm i hi => by
  have e : d7 (fa s n l) m = if n = m then l else d7 s m := bZ (by rw [hs.cl]; exact hn)
  rw [e] at hi ⊢
  split at hi
  ·rename_i h; subst h; rw [if_pos rfl]; exact h1 i hi
  ·rename_i h; rw [if_neg h]; exact hs.cv m hm i hi
 cc := fun m hm a b => by
  have e : d7 (fa s n l) m = if n = m then l else d7 s m := bZ (by rw [hs.cl]; exact hn)
  rw [e]
  split
  ·rename_i h; subst h; exact h2 a b
  ·exact hs.cc m hm a b
theorem B1 {s : Ns} {k n : Nat} {l : List Int} (h : ic s k) (hl : l.length ≤ k) : ic (fa s n l) k := fun m => by
 by_cases hn : n < s.chans.length
 ·have e : d7 (fa s n l) m = if n = m then l else d7 s m := bZ hn
  rw [e]; split
  ·exact hl
  ·exact h m
 ·have e : fa s n l = s := by show (⟨s.procs, s.chans.set n l⟩ : Ns) = s; rw [List.set_eq_of_length_le (by omega)]
  rw [e]; exact h m
theorem IU {b : List Int} {i : Nat} {w : Int} {k : Nat} (h1 : 1 ≤ w) (h2 : w ≤ 62) : dq (ur b i w k) w := by
 unfold ur dq
 rw [cf (by omega) h2]
 have hp : (0 : Int) < 2 ^ w.toNat := Int.pow_pos (by omega)
 exact ⟨Int.emod_nonneg _ (by omega), by have := Int.emod_lt_of_pos (b.getD (i + (1 + k)) 0) hp; omega⟩
theorem FV {c : Ci} (hc : a6 c) {b : List Int} (hb : hJ b) : ∀ i, i ≤ c.chans.length → bH c (t7 c b i).1 ∧ ic (t7 c b i).1 6
 | 0, _ => ⟨yN hc, fun n => by
  have : d7 (aE c) n = [] := by show (List.replicate _ _).getD n [] = []; exact b6
  show (d7 (aE c) n).length ≤ 6
  rw [this]; simp⟩
 | i + 1, h => by
  have ih := FV hc hb i (by omega)
  by_cases hf : 0 ≤ (cL c i).frm
  ·rw [FO hf]; exact ih
  ·rw [Ad hf]
   have hw := aN.1 (hc.cw i (by omega))
   have hn := FN hb (t7 c b i).2
   refine ⟨BZ ih.1 (by omega) (fun j hj => ?_) (fun a _ => absurd a hf), B1 ih.2 (by rw [aJ]; exact hn.1)⟩
   rw [aJ] at hj
   rw [bh hj]; exact IU hw.1 (by omega)
theorem qD {c : Ci} (hc : a6 c) {b : List Int} (hb : hJ b) : bH c (b9 c b) ∧ ic (b9 c b) 1000000000 := by
 have := FV hc hb c.chans.length (Nat.le_refl _)
 exact ⟨this.1, fun n => Nat.le_trans (this.2 n) (by omega)⟩
theorem B2 {c : Ci} (hc : a6 c) : ∀ (l : List Int) {s : Ns} {k : Nat}, bH c s → ic s k → bH c (cQ c s l) ∧ ic (cQ c s l) (k + l.length)
 | [], s, k, h1, h2 => ⟨h1, h2⟩
 | x :: r, s, k, h1, h2 => by
  have := B2 hc r (f5 hc h1 (qv (x % c.procs.length))) (qw (w := qv (x % c.procs.length)) hc h2)
  refine ⟨this.1, fun n => ?_⟩
  have h3 := this.2 n
  show (d7 (cQ c _ r) n).length ≤ _
  simp only [List.length_cons]; omega
end Go.Proofs.YtgmpoenfoacofaaGreat

namespace Go.Proofs.YtgmpoenfoacofaaGreat
open Go.RowKit
set_option linter.unusedVariables false
set_option linter.unusedSimpArgs false
set_option maxRecDepth 100000
def x1 : Ns := (aW relayF x0 0 [1, 2]).1
theorem cb {s : Ns} {k m : Nat} (h : ic s k) (hk : k ≤ m) : ic s m := fun n => Nat.le_trans (h n) hk
end Go.Proofs.YtgmpoenfoacofaaGreat
