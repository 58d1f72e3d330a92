/-
  Circuits, plain law: states stay states; a process that can fire still can after others; firing one after the other.
-/
import Derived.Test.YtifoecfajmnjjaaGreatQNeB
namespace Go.Proofs.YtifoecfajmnjjaaGreat
open Go.RowKit
set_option linter.unusedVariables false
set_option linter.unusedSimpArgs false
section
variable {p : Pr} {s : Ps} {hs hs' : List Hd} {rs rs' : List Bool}
theorem uo : gC p s hs rs = true ↔ (∀ j, j < p.takes.length → iQ p s hs j = true) ∧ ∀ j, j < p.puts.length → j9 p s hs rs j = true := by
 unfold gC
 rw [Bool.and_eq_true, ck, ck]
theorem xd (h : gC p s hs rs = true) : aV p s hs rs = ⟨true, co p s (bV p s hs), an (ph p s hs) p.takes.length, an (pi p s hs) p.puts.length⟩ := if_pos h
theorem E5 (h : gC p s hs rs = true) {j : Nat} (hj : j < p.takes.length) (hpop : (aV p s hs rs).pops.getD j false = true) : (hs.getD j aG).has = true := by
 rw [xd h] at hpop
 simp only at hpop
 rw [bA hj] at hpop
 have hh := (uo.1 h).1 j hj
 unfold iQ at hh
 unfold ph at hpop
 rw [hpop] at hh
 simpa using hh
theorem Dt (h : gC p s hs rs = true) {j : Nat} (hj : j < p.puts.length) (hput : ((aV p s hs rs).puts.getD j aG).has = true) : rs.getD j false = true := by
 rw [xd h] at hput
 simp only at hput
 rw [bA hj] at hput
 have hh := (uo.1 h).2 j hj
 unfold j9 at hh
 unfold pi at hput
 split at hput
 ·rename_i hd; rw [hd] at hh; simpa using hh
 ·cases hput
end
section
variable {c : Ci} {s : Ns} {w w' : Nat → Bool}
theorem Ag (hc : bR c) {p : Nat} (hp : p < c.procs.length) {f : Fi} (n : Nat) : ∀ {k : Nat}, k ≤ (ay c p).puts.length → ((fT (ay c p) f k).filter (fun e => e.1 == n)).length ≤ 1
 | 0, _ => by simp [fT]
 | k + 1, hk => by
  have ih := Ag hc hp (f := f) n (k := k) (by omega)
  rw [fT, List.filter_append, List.length_append]
  by_cases h1 : (f.puts.getD k aG).has = true
  ·rw [if_pos h1]
   by_cases e : bP (ay c p) k = n
   ·have h0 : (fT (ay c p) f k).filter (fun e => e.1 == n) = [] := by
     rw [List.filter_eq_nil_iff]
     intro z hz hzn
     obtain ⟨j, g1, g2, g3, g4⟩ := py hz
     have h5 : z.1 = n := by simpa using hzn
     have := hc.pd p hp j k (by omega) (by omega) (by rw [g3, e, h5])
     omega
    rw [h0]
    simp only [List.length_nil, Nat.zero_add]
    exact Nat.le_trans (List.length_filter_le _ _) (by simp)
   ·rw [List.filter_cons_of_neg (by simpa using e), List.filter_nil]; exact ih
  ·rw [if_neg h1]; exact ih
theorem sL (hc : bR c) {p : Nat} (n : Nat) : (tx c s p n).length ≤ 1 := by
 by_cases hp : p < c.procs.length
 ·unfold tx; rw [List.length_map]; exact Ag hc hp n (Nat.le_refl _)
 ·rw [lz hp]; simp
theorem xf {p n : Nat} {v : Int} (h : v ∈ tx c s p n) : ∃ j, j < (ay c p).puts.length ∧ ((ab c s p).puts.getD j aG).has = true ∧ bP (ay c p) j = n ∧ ((ab c s p).puts.getD j aG).v = v := by
 unfold tx at h
 rw [List.mem_map] at h
 obtain ⟨e, he, rfl⟩ := h
 rw [List.mem_filter] at he
 obtain ⟨j, h1, h2, h3, h4⟩ := py he.1
 exact ⟨j, h1, h2, by rw [h3]; simpa using he.2, h4⟩
theorem Ah {p n : Nat} {v : Int} (h : v ∈ tx c s p n) : p < c.procs.length := by
 by_cases hp : p < c.procs.length
 ·exact hp
 ·rw [lz hp] at h; cases h
theorem uq {p n : Nat} (h : jk c s p n = true) : ∃ j, j < (ay c p).takes.length ∧ (ab c s p).pops.getD j false = true ∧ cf (ay c p) j = n := by
 unfold jk at h
 exact me (of_decide_eq_true h)
theorem Bp {p n : Nat} (hcan : iR c s p = true) (h : jk c s p n = true) : 0 < (ir s n).length := by
 obtain ⟨j, h1, h2, rfl⟩ := uq h
 rw [yH] at hcan
 have := E5 hcan h1 h2
 rw [cU, bA h1] at this
 unfold b8 at this
 split at this
 ·assumption
 ·cases this
theorem ur {p : Nat} (h : ai c s w p = true) : w p = true ∧ iR c s p = true := by
 unfold ai at h; simpa using h
theorem pA (c : Ci) (s : Ns) (w : Nat → Bool) {n : Nat} (hn : n < c.chans.length) : ir (aD c s w) n = ff c s w n := by
 show (an _ _).getD n [] = _
 rw [bA hn]
theorem xg (c : Ci) (s : Ns) (w : Nat → Bool) {p : Nat} (hp : p < c.procs.length) : yG (aD c s w) p = bX c s w p := by
 show (an _ _).getD p a7 = _
 rw [bA hp]
theorem Du {α : Type} {a b : List α} {i : Nat} {d : α} : (a ++ b).getD i d = if i < a.length then a.getD i d else b.getD (i - a.length) d := by
 simp only [List.getD, List.getElem?_append]
 split <;> rfl
theorem Bq {α : Type} {a : List α} {k i : Nat} {d : α} : (a.drop k).getD i d = a.getD (k + i) d := by
 simp only [List.getD, List.getElem?_drop]
theorem ut {α : Type} {l : List α} {i : Nat} {d : α} (h : i < l.length) : l.getD i d ∈ l := by
 simp [List.getD, List.getElem?_eq_getElem h]
theorem b4 (hc : bR c) (hs : cT c s) (w : Nat → Bool) : cT c (aD c s w) where
 pl := by rw [aD]; exact aM _ _
 cl := by rw [aD]; exact aM _ _
 pv := fun p hp => by
  rw [xg c s w hp]
  unfold bX
  split
  ·exact tv (hc.pr p hp) (hs.pv p hp) (px hc hs hp)
  ·exact hs.pv p hp
 cv := fun n hn i hi => by
  rw [pA c s w hn] at hi ⊢
  unfold ff at hi ⊢
  rw [Du]
  split
  ·rename_i h
   rw [Bq]
   rw [List.length_drop] at h
   exact hs.cv n hn _ (by omega)
  ·rename_i h
   rw [List.length_append] at hi
   have hm := ut (d := (0 : Int)) (show i - ((ir s n).drop (dt c s w n)).length < (dk c s w n).length by omega)
   generalize (dk c s w n).getD _ 0 = v at hm
   unfold dk at hm
   split at hm
   ·have hlt := Ah hm
    obtain ⟨j, h1, h2, h3, h4⟩ := xf hm
    have := vB (rs := di c s (gX c n)) (hc.pr _ hlt) (hs.pv _ hlt) (px hc hs hlt) h1 h2
    rw [← (hc.pt _ hlt j h1).2.2.1, h3] at this
    rw [← h4]; exact this
   ·cases hm
 cc := fun n hn hf hd => by
  rw [pA c s w hn]
  unfold ff
  rw [List.length_append, List.length_drop]
  have h0 := hs.cc n hn hf hd
  unfold dk
  split
  ·rename_i hfi
   have h1 := sL (s := s) hc (p := gX c n) n
   by_cases h2 : tx c s (gX c n) n = []
   ·rw [h2]; simp only [List.length_nil]; omega
   ·obtain ⟨v, hv⟩ := List.exists_mem_of_ne_nil _ h2
    have hlt := Ah hv
    obtain ⟨j, h1', h2', h3, h4⟩ := xf hv
    have hcan := (ur hfi).2
    rw [yH] at hcan
    have hr := Dt hcan h1' h2'
    rw [di, bA h1'] at hr
    unfold b9 at hr
    rw [h3] at hr
    simp only [Bool.or_eq_true, decide_eq_true_eq] at hr
    omega
  ·simp only [List.length_nil]; omega
theorem Gr (hc : bR c) {p j : Nat} (hp : p < c.procs.length) (hj : j < (ay c p).takes.length) : fK c (cf (ay c p) j) = p := by
 rw [fK, (hc.tk p hp j hj).2.2.2]; rfl
theorem xh (hc : bR c) {p j : Nat} (hp : p < c.procs.length) (hj : j < (ay c p).takes.length) : cf (ay c p) j < c.chans.length := by
 have := hc.tk p hp j hj
 show (kS (ay c p) j).chan.toNat < _
 omega
theorem Ai (hc : bR c) {p j : Nat} (hp : p < c.procs.length) (hj : j < (ay c p).puts.length) : bP (ay c p) j < c.chans.length := by
 have := hc.pt p hp j hj
 show (qW (ay c p) j).chan.toNat < _
 omega
theorem Dv {p : Nat} (h : ai c s w p = false) : bX c s w p = yG s p := by
 unfold bX; rw [if_neg (by rw [h]; simp)]
theorem xi {p : Nat} (hs : c.procs.length ≤ p) : jk c s p = fun _ => false := by
 funext n
 cases h : jk c s p n
 ·rfl
 ·exfalso
  obtain ⟨j, h1, _⟩ := uq h
  have e : ay c p = av := by rw [ay, List.getD, List.getElem?_eq_none (by omega)]; rfl
  rw [e] at h1
  exact Nat.not_lt_zero _ h1
theorem Dw (hs : cT c s) (h : ∀ p, p < c.procs.length → ai c s w p = false) : aD c s w = s := by
 have e1 : (aD c s w).procs = s.procs := by
  refine pg (d := a7) (by rw [aD, aM, hs.pl]) (fun p hp => ?_)
  rw [aD, aM] at hp
  show yG (aD c s w) p = yG s p
  rw [xg c s w hp, Dv (h p hp)]
 have e2 : (aD c s w).chans = s.chans := by
  refine pg (d := []) (by rw [aD, aM, hs.cl]) (fun n hn => ?_)
  rw [aD, aM] at hn
  show ir (aD c s w) n = ir s n
  rw [pA c s w hn, ff]
  have h1 : dt c s w n = 0 := by
   rw [dt]
   by_cases hd : fK c n < c.procs.length
   ·rw [h _ hd]; simp
   ·rw [if_neg]
    rintro ⟨_, h2⟩
    rw [xi (by omega)] at h2; cases h2
  have h2 : dk c s w n = [] := by
   rw [dk]
   by_cases hd : gX c n < c.procs.length
   ·rw [h _ hd]; simp
   ·split
    ·exact lz hd
    ·rfl
  rw [h1, h2]; simp
 cases s; cases hq : aD c _ w
 rw [hq] at e1 e2
 simp only at e1 e2
 rw [e1, e2]
def xj (p : Nat) : Nat → Bool := fun q => decide (q = p)
end
end Go.Proofs.YtifoecfajmnjjaaGreat
