/-
  Circuits, plain law: states stay states; a process that can fire still can after others; firing one after the other.
-/
import Derived.Test.YtgmpoenfoacofaaGreatQNeB
namespace Go.Proofs.YtgmpoenfoacofaaGreat
open Go.RowKit
set_option linter.unusedVariables false
set_option linter.unusedSimpArgs false
section
variable {p : Pr} {s : Ps} {hs hs' : List Hd} {rs rs' : List Bool}
theorem z9 : eo p s hs rs = true ↔ (∀ j, j < p.takes.length → il p s hs j = true) ∧ ∀ j, j < p.puts.length → jy p s hs rs j = true := by
 unfold eo
 rw [Bool.and_eq_true, bE, bE]
theorem B3 (h : eo p s hs rs = true) : a6 p s hs rs = ⟨true, cS p s (fB p s hs), tab (lX p s hs) p.takes.length, tab (gg p s hs) p.puts.length⟩ := if_pos h
theorem B4 (h : eo p s hs rs = true) {j : Nat} (hj : j < p.puts.length) (hput : ((a6 p s hs rs).puts.getD j aY).has = true) : rs.getD j false = true := by
 rw [B3 h] at hput
 simp only at hput
 rw [bf hj] at hput
 have hh := (z9.1 h).2 j hj
 unfold jy at hh
 unfold gg at hput
 split at hput
 ·rename_i hd; rw [hd] at hh; simpa using hh
 ·cases hput
end
section
variable {c : Ci} {s : Ns} {w w' : Nat → Bool}
theorem yT (hc : b5 c) {p : Nat} (hp : p < c.procs.length) {f : Fi} (n : Nat) : ∀ {k : Nat}, k ≤ (ba c p).puts.length → ((nA (ba c p) f k).filter (fun e => e.1 == n)).length ≤ 1
 | 0, _ => by simp [nA]
 | k + 1, hk => by
  have ih := yT hc hp (f := f) n (k := k) (by omega)
  rw [nA, List.filter_append, List.length_append]
  by_cases h1 : (f.puts.getD k aY).has = true
  ·rw [if_pos h1]
   by_cases e : oH (ba c p) k = n
   ·have h0 : (nA (ba c p) f k).filter (fun e => e.1 == n) = [] := by
     rw [List.filter_eq_nil_iff]
     intro z hz hzn
     obtain ⟨j, g1, g2, g3, g4⟩ := qa hz
     have h5 : z.1 = n := by simpa using hzn
     have := hc.pd p hp j k (by omega) (by omega) (by rw [g3, e, h5])
     omega
    rw [h0]
    simp only [List.length_nil, Nat.zero_add]
    exact Nat.le_trans (List.length_filter_le _ _) (by simp)
   ·rw [List.filter_cons_of_neg (by simpa using e), List.filter_nil]; exact ih
  ·rw [if_neg h1]; exact ih
theorem we (hc : b5 c) {p : Nat} (n : Nat) : (iq c s p n).length ≤ 1 := by
 by_cases hp : p < c.procs.length
 ·unfold iq; rw [List.length_map]; exact yT hc hp n (Nat.le_refl _)
 ·rw [rx hp]; simp
theorem wg {p n : Nat} {v : Int} (h : v ∈ iq c s p n) : ∃ j, j < (ba c p).puts.length ∧ ((ab c s p).puts.getD j aY).has = true ∧ oH (ba c p) j = n ∧ ((ab c s p).puts.getD j aY).v = v := by
 unfold iq at h
 rw [List.mem_map] at h
 obtain ⟨e, he, rfl⟩ := h
 rw [List.mem_filter] at he
 obtain ⟨j, h1, h2, h3, h4⟩ := qa he.1
 exact ⟨j, h1, h2, by rw [h3]; simpa using he.2, h4⟩
theorem yU {p n : Nat} {v : Int} (h : v ∈ iq c s p n) : p < c.procs.length := by
 by_cases hp : p < c.procs.length
 ·exact hp
 ·rw [rx hp] at h; cases h
theorem Aa {p : Nat} (h : bc c s w p = true) : w p = true ∧ oI c s p = true := by
 unfold bc at h; simpa using h
theorem ry (c : Ci) (s : Ns) (w : Nat → Bool) {n : Nat} (hn : n < c.chans.length) : fk (dp c s w) n = j6 c s w n := by
 show (tab _ _).getD n [] = _
 rw [bf hn]
theorem B5 (c : Ci) (s : Ns) (w : Nat → Bool) {p : Nat} (hp : p < c.procs.length) : BX (dp c s w) p = gm c s w p := by
 show (tab _ _).getD p b4 = _
 rw [bf hp]
theorem B6 {α : Type} {a b : List α} {i : Nat} {d : α} : (a ++ b).getD i d = if i < a.length then a.getD i d else b.getD (i - a.length) d := by
 simp only [List.getD, List.getElem?_append]
 split <;> rfl
theorem Ab {α : Type} {a : List α} {k i : Nat} {d : α} : (a.drop k).getD i d = a.getD (k + i) d := by
 simp only [List.getD, List.getElem?_drop]
theorem Ac {α : Type} {l : List α} {i : Nat} {d : α} (h : i < l.length) : l.getD i d ∈ l := by
 simp [List.getD, List.getElem?_eq_getElem h]
theorem xz (hc : b5 c) (hs : cT c s) (w : Nat → Bool) : cT c (dp c s w) where
 pl := by rw [dp]; exact aK _ _
 cl := by rw [dp]; exact aK _ _
 pv := fun p hp => by
  rw [B5 c s w hp]
  unfold gm
  split
  ·exact sx (hc.pr p hp) (hs.pv p hp) (nd hc hs hp)
  ·exact hs.pv p hp
 cv := fun n hn i hi => by
  rw [ry c s w hn] at hi ⊢
  unfold j6 at hi ⊢
  rw [B6]
  split
  ·rename_i h
   rw [Ab]
   rw [List.length_drop] at h
   exact hs.cv n hn _ (by omega)
  ·rename_i h
   rw [List.length_append] at hi
   have hm := Ac (d := (0 : Int)) (show i - ((fk s n).drop (jt c s w n)).length < (fp c s w n).length by omega)
   generalize (fp c s w n).getD _ 0 = v at hm
   unfold fp at hm
   split at hm
   ·have hlt := yU hm
    obtain ⟨j, h1, h2, h3, h4⟩ := wg hm
    have := uI (rs := i7 c s (i8 c n)) (hc.pr _ hlt) (hs.pv _ hlt) (nd hc hs hlt) h1 h2
    rw [← (hc.pt _ hlt j h1).2.2.1, h3] at this
    rw [← h4]; exact this
   ·cases hm
 cc := fun n hn hf hd => by
  rw [ry c s w hn]
  unfold j6
  rw [List.length_append, List.length_drop]
  have h0 := hs.cc n hn hf hd
  unfold fp
  split
  ·rename_i hfi
   have h1 := we (s := s) hc (p := i8 c n) n
   by_cases h2 : iq c s (i8 c n) n = []
   ·rw [h2]; simp only [List.length_nil]; omega
   ·obtain ⟨v, hv⟩ := List.exists_mem_of_ne_nil _ h2
    have hlt := yU hv
    obtain ⟨j, h1', h2', h3, h4⟩ := wg hv
    have hcan := (Aa hfi).2
    rw [B1] at hcan
    have hr := B4 hcan h1' h2'
    rw [i7, bf h1'] at hr
    unfold co at hr
    rw [h3] at hr
    simp only [Bool.or_eq_true, decide_eq_true_eq] at hr
    omega
  ·simp only [List.length_nil]; omega
end
end Go.Proofs.YtgmpoenfoacofaaGreat
