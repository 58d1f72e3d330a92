/-
  The laws of networks, plain data: the circuit of the examples.
-/
import Derived.Test.YtgmpoenfoacofaaGreatQNeN
namespace Go.Proofs.YtgmpoenfoacofaaGreat
open Go.RowKit
set_option linter.unusedVariables false
set_option linter.unusedSimpArgs false
theorem AF {l : List Int} {n : Nat} (h : gR l) : gR (l.take n) := fun x hx => h x (List.mem_of_mem_take hx)
theorem HG {p : Pr} (hp : gm p) : oZ p (aV p) where
 rl := by simp [aV]
 rv := fun i hi => by
  rw [show (aV p).regs = p.regs.map (·.init) from rfl]
  have := (hp.rw i hi).2.1
  simpa [List.getD, List.getElem?_map, List.getElem?_eq_getElem hi] using this
 ml := by simp [aV]
 mn := fun i hi => by
  have h2 := (hp.mw i hi).2.1
  rw [show (aV p).mems = p.mems.map (fun m => List.replicate m.words.toNat 0) from rfl]
  have : (p.mems.map (fun m => List.replicate m.words.toNat (0 : Int))).getD i [] = List.replicate (lA p i).words.toNat 0 := by
   simp [List.getD, List.getElem?_map, List.getElem?_eq_getElem hi]
  rw [this, List.length_replicate]; omega
 mv := fun i hi j hj => by
  rw [show (aV p).mems = p.mems.map (fun m => List.replicate m.words.toNat 0) from rfl] at hj ⊢
  have : (p.mems.map (fun m => List.replicate m.words.toNat (0 : Int))).getD i [] = List.replicate (lA p i).words.toNat 0 := by
   simp [List.getD, List.getElem?_map, List.getElem?_eq_getElem hi]
  rw [this, cr]
  exact o0 (hp.mw i hi).1
theorem AH {c : Ci} (hc : bo c) : bG c (aH c) where
 pl := by simp [aH, aR]
 cl := by simp [aH]
 pv := fun i hi => by
  show oZ _ ((tab _ _).getD i ba)
  rw [bn hi]; exact HG (hc.pr i hi)
 cv := fun n hn i hi => by
  have h0 : fh (aH c) n = [] := by show (List.replicate _ _).getD n [] = []; exact cr
  rw [h0] at hi; simp at hi
 cc := fun n hn h1 h2 => by
  have h0 : fh (aH c) n = [] := by show (List.replicate _ _).getD n [] = []; exact cr
  rw [h0]
  simpa using hc.cp n hn
theorem DU {c : Ci} {s : Ns} (hs : bG c s) {n : Nat} (hn : n < c.chans.length) {l : List Int} (h1 : ∀ i, i < l.length → dq (l.getD i 0) (dt c n).w) (h2 : 0 ≤ (dt c n).frm → 0 ≤ (dt c n).dst → (l.length : Int) ≤ (dt c n).cap) : bG c (d9 s n l) where
 pl := hs.pl
 cl := by show (s.chans.set n l).length = _; rw [List.length_set]; exact hs.cl
 pv := hs.pv
 cv := fun m hm i hi => by
  have e : fh (d9 s n l) m = if n = m then l else fh s m := ce (by rw [hs.cl]; exact hn)
  rw [e] at hi ⊢
  split at hi
  ·rename_i h; subst h; rw [if_pos rfl]; exact h1 i hi
  ·rename_i h; rw [if_neg h]; exact hs.cv m hm i hi
 cc := fun m hm a b => by
  have e : fh (d9 s n l) m = if n = m then l else fh s m := ce (by rw [hs.cl]; exact hn)
  rw [e]
  split
  ·rename_i h; subst h; exact h2 a b
  ·exact hs.cc m hm a b
theorem DV {s : Ns} {k n : Nat} {l : List Int} (h : ga s k) (hl : l.length ≤ k) : ga (d9 s n l) k := fun m => by
 by_cases hn : n < s.chans.length
 ·have e : fh (d9 s n l) m = if n = m then l else fh s m := ce hn
  rw [e]; split
  ·exact hl
  ·exact h m
 ·have e : d9 s n l = s := by show (⟨s.procs, s.chans.set n l⟩ : Ns) = s; rw [List.set_eq_of_length_le (by omega)]
  rw [e]; exact h m
theorem KL {b : List Int} {i : Nat} {w : Int} {k : Nat} (h1 : 1 ≤ w) (h2 : w ≤ 62) : dq (wo b i w k) w := by
 unfold wo dq
 rw [ck (by omega) h2]
 have hp : (0 : Int) < 2 ^ w.toNat := Int.pow_pos (by omega)
 exact ⟨Int.emod_nonneg _ (by omega), by have := Int.emod_lt_of_pos (b.getD (i + (1 + k)) 0) hp; omega⟩
theorem HH {c : Ci} (hc : bo c) {b : List Int} (hb : gR b) : ∀ i, i ≤ c.chans.length → bG c (v5 c b i).1 ∧ ga (v5 c b i).1 6
 | 0, _ => ⟨AH hc, fun n => by
  have : fh (aH c) n = [] := by show (List.replicate _ _).getD n [] = []; exact cr
  show (fh (aH c) n).length ≤ 6
  rw [this]; simp⟩
 | i + 1, h => by
  have ih := HH hc hb i (by omega)
  by_cases hf : 0 ≤ (dt c i).frm
  ·rw [Hy hf]; exact ih
  ·rw [B3 hf]
   have hw := aU.1 (hc.cw i (by omega))
   have hn := Hx hb (v5 c b i).2
   refine ⟨DU ih.1 (by omega) (fun j hj => ?_) (fun a _ => absurd a hf), DV ih.2 (by rw [aR]; exact hn.1)⟩
   rw [aR] at hj
   rw [bn hj]; exact KL hw.1 (by omega)
theorem xB {c : Ci} (hc : bo c) {b : List Int} (hb : gR b) : bG c (cg c b) ∧ ga (cg c b) 1000000000 := by
 have := HH hc hb c.chans.length (Nat.le_refl _)
 exact ⟨this.1, fun n => Nat.le_trans (this.2 n) (by omega)⟩
theorem DW {c : Ci} (hc : bo c) : ∀ (l : List Int) {s : Ns} {k : Nat}, bG c s → ga s k → bG c (cY c s l) ∧ ga (cY c s l) (k + l.length)
 | [], s, k, h1, h2 => ⟨h1, h2⟩
 | x :: r, s, k, h1, h2 => by
  have := DW hc r (pb hc h1 (wj (x % c.procs.length))) (vg (w := wj (x % c.procs.length)) hc h2)
  refine ⟨this.1, fun n => ?_⟩
  have h3 := this.2 n
  show (fh (cY c _ r) n).length ≤ _
  simp only [List.length_cons]; omega
def NL : Ex := ⟨18, e0, dN, dN, []⟩
def Oa (k : Nat) : Pr := ⟨[bs [112], bs [113]].getD k .empty, [bs [97], bs [98]].getD k .empty, [], [], [⟨(k : Int), 2, fZ⟩], [⟨(k : Int) + 1, 2, fZ, NL⟩]⟩
def y6 : Ci := ⟨tab Oa 2, [⟨bs [105, 110], 2, 0, -1, 0⟩, ⟨bs [99], 2, 1, 0, 1⟩, ⟨bs [111, 117, 116], 2, 0, 1, -1⟩]⟩
set_option maxRecDepth 100000
def x0 : Ns := aH y6
def x1 : Ns := (aF y6 x0 0 [1, 2]).1
def wA : Nat → Bool := fun q => decide (q = 0)
def xa : Ns := a4 y6 x1 wA
def xb : Ns := a4 y6 xa wA
theorem bP {s : Ns} {k m : Nat} (h : ga s k) (hk : k ≤ m) : ga s m := fun n => Nat.le_trans (h n) hk
end Go.Proofs.YtgmpoenfoacofaaGreat
