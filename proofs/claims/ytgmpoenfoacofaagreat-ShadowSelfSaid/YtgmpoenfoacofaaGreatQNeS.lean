/-
  The laws of networks, plain data: the circuit of the examples.
-/
import Derived.Test.YtgmpoenfoacofaaGreatQNeN
namespace Go.Proofs.YtgmpoenfoacofaaGreat
open Go.RowKit
set_option linter.unusedVariables false
set_option linter.unusedSimpArgs false
theorem zG {l : List Int} {n : Nat} (h : ik l) : ik (l.take n) := fun x hx => h x (List.mem_of_mem_take hx)
theorem GB {p : Pr} (hp : fV p) : nG p (aR p) where
 rl := by simp [aR]
 rv := fun i hi => by
  rw [show (aR p).regs = p.regs.map (·.init) from rfl]
  have := (hp.rw i hi).2.1
  simpa [List.getD, List.getElem?_map, List.getElem?_eq_getElem hi] using this
 ml := by simp [aR]
 mn := fun i hi => by
  have h2 := (hp.mw i hi).2.1
  rw [show (aR p).mems = p.mems.map (fun m => List.replicate m.words.toNat 0) from rfl]
  have : (p.mems.map (fun m => List.replicate m.words.toNat (0 : Int))).getD i [] = List.replicate (kO p i).words.toNat 0 := by
   simp [List.getD, List.getElem?_map, List.getElem?_eq_getElem hi]
  rw [this, List.length_replicate]; omega
 mv := fun i hi j hj => by
  rw [show (aR p).mems = p.mems.map (fun m => List.replicate m.words.toNat 0) from rfl] at hj ⊢
  have : (p.mems.map (fun m => List.replicate m.words.toNat (0 : Int))).getD i [] = List.replicate (kO p i).words.toNat 0 := by
   simp [List.getD, List.getElem?_map, List.getElem?_eq_getElem hi]
  rw [this, b7]
  exact nI (hp.mw i hi).1
theorem zH {c : Ci} (hc : a8 c) : bG c (aD c) where
 pl := by simp [aD, aJ]
 cl := by simp [aD]
 pv := fun i hi => by
  show nG _ ((tab _ _).getD i bw)
  rw [bj hi]; exact GB (hc.pr i hi)
 cv := fun n hn i hi => by
  have h0 : ef (aD c) n = [] := by show (List.replicate _ _).getD n [] = []; exact b7
  rw [h0] at hi; simp at hi
 cc := fun n hn h1 h2 => by
  have h0 : ef (aD c) n = [] := by show (List.replicate _ _).getD n [] = []; exact b7
  rw [h0]
  simpa using hc.cp n hn
theorem CU {c : Ci} {s : Ns} (hs : bG c s) {n : Nat} (hn : n < c.chans.length) {l : List Int} (h1 : ∀ i, i < l.length → dz (l.getD i 0) (cL c n).w) (h2 : 0 ≤ (cL c n).frm → 0 ≤ (cL c n).dst → (l.length : Int) ≤ (cL c n).cap) : bG c (fg s n l) where
 pl := hs.pl
 cl := by show (s.chans.set n l).length = _; rw [List.length_set]; exact hs.cl
 pv := hs.pv
 cv := fun m hm i hi => by
  have e : ef (fg s n l) m = if n = m then l else ef s m := bX (by rw [hs.cl]; exact hn)
  rw [e] at hi ⊢
  split at hi
  ·rename_i h; subst h; rw [if_pos rfl]; exact h1 i hi
  ·rename_i h; rw [if_neg h]; exact hs.cv m hm i hi
 cc := fun m hm a b => by
  have e : ef (fg s n l) m = if n = m then l else ef s m := bX (by rw [hs.cl]; exact hn)
  rw [e]
  split
  ·rename_i h; subst h; exact h2 a b
  ·exact hs.cc m hm a b
theorem CV {s : Ns} {k n : Nat} {l : List Int} (h : ir s k) (hl : l.length ≤ k) : ir (fg s n l) k := fun m => by
 by_cases hn : n < s.chans.length
 ·have e : ef (fg s n l) m = if n = m then l else ef s m := bX hn
  rw [e]; split
  ·exact hl
  ·exact h m
 ·have e : fg s n l = s := by show (⟨s.procs, s.chans.set n l⟩ : Ns) = s; rw [List.set_eq_of_length_le (by omega)]
  rw [e]; exact h m
theorem JG {b : List Int} {i : Nat} {w : Int} {k : Nat} (h1 : 1 ≤ w) (h2 : w ≤ 62) : dz (vi b i w k) w := by
 unfold vi dz
 rw [ci (by omega) h2]
 have hp : (0 : Int) < 2 ^ w.toNat := Int.pow_pos (by omega)
 exact ⟨Int.emod_nonneg _ (by omega), by have := Int.emod_lt_of_pos (b.getD (i + (1 + k)) 0) hp; omega⟩
theorem GD {c : Ci} (hc : a8 c) {b : List Int} (hb : ik b) : ∀ i, i ≤ c.chans.length → bG c (uX c b i).1 ∧ ir (uX c b i).1 6
 | 0, _ => ⟨zH hc, fun n => by
  have : ef (aD c) n = [] := by show (List.replicate _ _).getD n [] = []; exact b7
  show (ef (aD c) n).length ≤ 6
  rw [this]; simp⟩
 | i + 1, h => by
  have ih := GD hc hb i (by omega)
  by_cases hf : 0 ≤ (cL c i).frm
  ·rw [Gv hf]; exact ih
  ·rw [A6 hf]
   have hw := aP.1 (hc.cw i (by omega))
   have hn := Gu hb (uX c b i).2
   refine ⟨CU ih.1 (by omega) (fun j hj => ?_) (fun a _ => absurd a hf), CV ih.2 (by rw [aJ]; exact hn.1)⟩
   rw [aJ] at hj
   rw [bj hj]; exact JG hw.1 (by omega)
theorem rc {c : Ci} (hc : a8 c) {b : List Int} (hb : ik b) : bG c (ca c b) ∧ ir (ca c b) 1000000000 := by
 have := GD hc hb c.chans.length (Nat.le_refl _)
 exact ⟨this.1, fun n => Nat.le_trans (this.2 n) (by omega)⟩
theorem CW {c : Ci} (hc : a8 c) : ∀ (l : List Int) {s : Ns} {k : Nat}, bG c s → ir s k → bG c (cQ c s l) ∧ ir (cQ c s l) (k + l.length)
 | [], s, k, h1, h2 => ⟨h1, h2⟩
 | x :: r, s, k, h1, h2 => by
  have := CW hc r (gi hc h1 (qU (x % c.procs.length))) (qV (w := qU (x % c.procs.length)) hc h2)
  refine ⟨this.1, fun n => ?_⟩
  have h3 := this.2 n
  show (ef (cQ c _ r) n).length ≤ _
  simp only [List.length_cons]; omega
end Go.Proofs.YtgmpoenfoacofaaGreat

namespace Go.Proofs.YtgmpoenfoacofaaGreat
open Go.RowKit
set_option linter.unusedVariables false
set_option linter.unusedSimpArgs false
def Ms : Ex := ⟨18, e0, dN, dN, []⟩
def MQ (k : Nat) : Pr := ⟨[bs [112], bs [113]].getD k .empty, [bs [97], bs [98]].getD k .empty, [], [], [⟨(k : Int), 2, fJ⟩], [⟨(k : Int) + 1, 2, fJ, Ms⟩]⟩
def yd : Ci := ⟨tab MQ 2, [⟨bs [105, 110], 2, 0, -1, 0⟩, ⟨bs [99], 2, 1, 0, 1⟩, ⟨bs [111, 117, 116], 2, 0, 1, -1⟩]⟩
set_option maxRecDepth 100000
def x0 : Ns := aD yd
def x1 : Ns := (aW yd x0 0 [1, 2]).1
def wA : Nat → Bool := fun q => decide (q = 0)
def xa : Ns := aF yd x1 wA
def xb : Ns := aF yd xa wA
theorem ce {s : Ns} {k m : Nat} (h : ir s k) (hk : k ≤ m) : ir s m := fun n => Nat.le_trans (h n) hk
end Go.Proofs.YtgmpoenfoacofaaGreat
