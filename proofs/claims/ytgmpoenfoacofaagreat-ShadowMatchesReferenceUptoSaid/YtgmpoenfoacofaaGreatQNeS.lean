/-
  The laws of networks, plain data: the circuit of the examples.
-/
import Derived.Test.YtgmpoenfoacofaaGreatQNeN
namespace Go.Proofs.YtgmpoenfoacofaaGreat
open Go.RowKit
set_option linter.unusedVariables false
set_option linter.unusedSimpArgs false
theorem za {l : List Int} {n : Nat} (h : iG l) : iG (l.take n) := fun x hx => h x (List.mem_of_mem_take hx)
theorem FN {p : Pr} (hp : gv p) : oW p (aN p) where
 rl := by simp [aN]
 rv := fun i hi => by
  rw [show (aN p).regs = p.regs.map (·.init) from rfl]
  have := (hp.rw i hi).2.1
  simpa [List.getD, List.getElem?_map, List.getElem?_eq_getElem hi] using this
 ml := by simp [aN]
 mn := fun i hi => by
  have h2 := (hp.mw i hi).2.1
  rw [show (aN p).mems = p.mems.map (fun m => List.replicate m.words.toNat 0) from rfl]
  have : (p.mems.map (fun m => List.replicate m.words.toNat (0 : Int))).getD i [] = List.replicate (mN p i).words.toNat 0 := by
   simp [List.getD, List.getElem?_map, List.getElem?_eq_getElem hi]
  rw [this, List.length_replicate]; omega
 mv := fun i hi j hj => by
  rw [show (aN p).mems = p.mems.map (fun m => List.replicate m.words.toNat 0) from rfl] at hj ⊢
  have : (p.mems.map (fun m => List.replicate m.words.toNat (0 : Int))).getD i [] = List.replicate (mN p i).words.toNat 0 := by
   simp [List.getD, List.getElem?_map, List.getElem?_eq_getElem hi]
  rw [this, b7]
  exact ni (hp.mw i hi).1
theorem zb {c : Ci} (hc : bC c) : b8 c (aB c) where
 pl := by simp [aB, aQ]
 cl := by simp [aB]
 pv := fun i hi => by
  show oW _ ((tab _ _).getD i a7)
  rw [bp hi]; exact FN (hc.pr i hi)
 cv := fun n hn i hi => by
  have h0 : kr (aB c) n = [] := by show (List.replicate _ _).getD n [] = []; exact b7
  rw [h0] at hi; simp at hi
 cc := fun n hn h1 h2 => by
  have h0 : kr (aB c) n = [] := by show (List.replicate _ _).getD n [] = []; exact b7
  rw [h0]
  simpa using hc.cp n hn
theorem Hc {c : Ci} {s : Ns} (hs : b8 c s) {n : Nat} (hn : n < c.chans.length) {l : List Int} (h1 : ∀ i, i < l.length → dR (l.getD i 0) (gG c n).w) (h2 : 0 ≤ (gG c n).frm → 0 ≤ (gG c n).dst → (l.length : Int) ≤ (gG c n).cap) : b8 c (ec s n l) where
 pl := hs.pl
 cl := by show (s.chans.set n l).length = _; rw [List.length_set]; exact hs.cl
 pv := hs.pv
 cv := fun m hm i hi => by
  have e : kr (ec s n l) m = if n = m then l else kr s m := cb (by rw [hs.cl]; exact hn)
  rw [e] at hi ⊢
  split at hi
  ·rename_i h; subst h; rw [if_pos rfl]; exact h1 i hi
  ·rename_i h; rw [if_neg h]; exact hs.cv m hm i hi
 cc := fun m hm a b => by
  have e : kr (ec s n l) m = if n = m then l else kr s m := cb (by rw [hs.cl]; exact hn)
  rw [e]
  split
  ·rename_i h; subst h; exact h2 a b
  ·exact hs.cc m hm a b
theorem He {s : Ns} {k n : Nat} {l : List Int} (h : gw s k) (hl : l.length ≤ k) : gw (ec s n l) k := fun m => by
 by_cases hn : n < s.chans.length
 ·have e : kr (ec s n l) m = if n = m then l else kr s m := cb hn
  rw [e]; split
  ·exact hl
  ·exact h m
 ·have e : ec s n l = s := by show (⟨s.procs, s.chans.set n l⟩ : Ns) = s; rw [List.set_eq_of_length_le (by omega)]
  rw [e]; exact h m
theorem IT {b : List Int} {i : Nat} {w : Int} {k : Nat} (h1 : 1 ≤ w) (h2 : w ≤ 62) : dR (uS b i w k) w := by
 unfold uS dR
 rw [cr (by omega) h2]
 have hp : (0 : Int) < 2 ^ w.toNat := Int.pow_pos (by omega)
 exact ⟨Int.emod_nonneg _ (by omega), by have := Int.emod_lt_of_pos (b.getD (i + (1 + k)) 0) hp; omega⟩
theorem FO {c : Ci} (hc : bC c) {b : List Int} (hb : iG b) : ∀ i, i ≤ c.chans.length → b8 c (uF c b i).1 ∧ gw (uF c b i).1 6
 | 0, _ => ⟨zb hc, fun n => by
  have : kr (aB c) n = [] := by show (List.replicate _ _).getD n [] = []; exact b7
  show (kr (aB c) n).length ≤ 6
  rw [this]; simp⟩
 | i + 1, h => by
  have ih := FO hc hb i (by omega)
  by_cases hf : 0 ≤ (gG c i).frm
  ·rw [FG hf]; exact ih
  ·rw [Aw hf]
   have hw := aP.1 (hc.cw i (by omega))
   have hn := FF hb (uF c b i).2
   refine ⟨Hc ih.1 (by omega) (fun j hj => ?_) (fun a _ => absurd a hf), He ih.2 (by rw [aQ]; exact hn.1)⟩
   rw [aQ] at hj
   rw [bp hj]; exact IT hw.1 (by omega)
theorem wc {c : Ci} (hc : bC c) {b : List Int} (hb : iG b) : b8 c (b3 c b) ∧ gw (b3 c b) 1000000000 := by
 have := FO hc hb c.chans.length (Nat.le_refl _)
 exact ⟨this.1, fun n => Nat.le_trans (this.2 n) (by omega)⟩
theorem Cc {c : Ci} (hc : bC c) : ∀ (l : List Int) {s : Ns} {k : Nat}, b8 c s → gw s k → b8 c (cH c s l) ∧ gw (cH c s l) (k + l.length)
 | [], s, k, h1, h2 => ⟨h1, h2⟩
 | x :: r, s, k, h1, h2 => by
  have := Cc hc r (tJ hc h1 (uP (x % c.procs.length))) (tL (w := uP (x % c.procs.length)) hc h2)
  refine ⟨this.1, fun n => ?_⟩
  have h3 := this.2 n
  show (kr (cH c _ r) n).length ≤ _
  simp only [List.length_cons]; omega
def LK : Ex := ⟨18, e0, dN, dN, []⟩
def Mb (k : Nat) : Pr := ⟨[bs [112], bs [113]].getD k .empty, [bs [97], bs [98]].getD k .empty, [], [], [⟨(k : Int), 2, fw⟩], [⟨(k : Int) + 1, 2, fw, LK⟩]⟩
def xJ : Ci := ⟨tab Mb 2, [⟨bs [105, 110], 2, 0, -1, 0⟩, ⟨bs [99], 2, 1, 0, 1⟩, ⟨bs [111, 117, 116], 2, 0, 1, -1⟩]⟩
set_option maxRecDepth 100000
def x0 : Ns := aB xJ
def x1 : Ns := (aA xJ x0 0 [1, 2]).1
def wA : Nat → Bool := fun q => decide (q = 0)
def xa : Ns := bj xJ x1 wA
def xb : Ns := bj xJ xa wA
theorem ee {s : Ns} {k m : Nat} (h : gw s k) (hk : k ≤ m) : gw s m := fun n => Nat.le_trans (h n) hk
end Go.Proofs.YtgmpoenfoacofaaGreat
