/-
  Circuits, plain law: states stay states; a process that can fire still can after others; firing one after the other.
-/
import Derived.Test.YtgmpoenfoacofaaGreatQNeB
namespace Go.Proofs.YtgmpoenfoacofaaGreat
open Go.RowKit
set_option linter.unusedVariables false
set_option linter.unusedSimpArgs false
section
variable {p : Pr} {s : Ps} {hs hs' : List Hd} {rs rs' : List Bool}
theorem vR : f9 p s hs rs = true ↔ (∀ j, j < p.takes.length → im p s hs j = true) ∧ ∀ j, j < p.puts.length → jR p s hs rs j = true := by
 unfold f9
 rw [Bool.and_eq_true, cF, cF]
theorem yH (h : f9 p s hs rs = true) : aJ p s hs rs = ⟨true, b6 p s (bL p s hs), tab (oT p s hs) p.takes.length, tab (oU p s hs) p.puts.length⟩ := if_pos h
theorem GA (h : f9 p s hs rs = true) {j : Nat} (hj : j < p.takes.length) (hpop : (aJ p s hs rs).pops.getD j false = true) : (hs.getD j aO).has = true := by
 rw [yH h] at hpop
 simp only at hpop
 rw [bp hj] at hpop
 have hh := (vR.1 h).1 j hj
 unfold im at hh
 unfold oT at hpop
 rw [hpop] at hh
 simpa using hh
theorem EM (h : f9 p s hs rs = true) {j : Nat} (hj : j < p.puts.length) (hput : ((aJ p s hs rs).puts.getD j aO).has = true) : rs.getD j false = true := by
 rw [yH h] at hput
 simp only at hput
 rw [bp hj] at hput
 have hh := (vR.1 h).2 j hj
 unfold jR at hh
 unfold oU at hput
 split at hput
 ·rename_i hd; rw [hd] at hh; simpa using hh
 ·cases hput
end
section
variable {c : Ci} {s : Ns} {w w' : Nat → Bool}
theorem Bx (hc : bC c) {p : Nat} (hp : p < c.procs.length) {f : Fi} (n : Nat) : ∀ {k : Nat}, k ≤ (bK c p).puts.length → ((np (bK c p) f k).filter (fun e => e.1 == n)).length ≤ 1
 | 0, _ => by simp [np]
 | k + 1, hk => by
  have ih := Bx hc hp (f := f) n (k := k) (by omega)
  rw [np, List.filter_append, List.length_append]
  by_cases h1 : (f.puts.getD k aO).has = true
  ·rw [if_pos h1]
   by_cases e : vQ (bK c p) k = n
   ·have h0 : (np (bK c p) f k).filter (fun e => e.1 == n) = [] := by
     rw [List.filter_eq_nil_iff]
     intro z hz hzn
     obtain ⟨j, g1, g2, g3, g4⟩ := o9 hz
     have h5 : z.1 = n := by simpa using hzn
     have := hc.pd p hp j k (by omega) (by omega) (by rw [g3, e, h5])
     omega
    rw [h0]
    simp only [List.length_nil, Nat.zero_add]
    exact Nat.le_trans (List.length_filter_le _ _) (by simp)
   ·rw [List.filter_cons_of_neg (by simpa using e), List.filter_nil]; exact ih
  ·rw [if_neg h1]; exact ih
theorem tI (hc : bC c) {p : Nat} (n : Nat) : (xe c s p n).length ≤ 1 := by
 by_cases hp : p < c.procs.length
 ·unfold xe; rw [List.length_map]; exact Bx hc hp n (Nat.le_refl _)
 ·rw [kV hp]; simp
theorem yI {p n : Nat} {v : Int} (h : v ∈ xe c s p n) : ∃ j, j < (bK c p).puts.length ∧ ((ab c s p).puts.getD j aO).has = true ∧ vQ (bK c p) j = n ∧ ((ab c s p).puts.getD j aO).v = v := by
 unfold xe at h
 rw [List.mem_map] at h
 obtain ⟨e, he, rfl⟩ := h
 rw [List.mem_filter] at he
 obtain ⟨j, h1, h2, h3, h4⟩ := o9 he.1
 exact ⟨j, h1, h2, by rw [h3]; simpa using he.2, h4⟩
theorem Bz {p n : Nat} {v : Int} (h : v ∈ xe c s p n) : p < c.procs.length := by
 by_cases hp : p < c.procs.length
 ·exact hp
 ·rw [kV hp] at h; cases h
theorem vS {p n : Nat} (h : jX c s p n = true) : ∃ j, j < (bK c p).takes.length ∧ (ab c s p).pops.getD j false = true ∧ xd (bK c p) j = n := by
 unfold jX at h
 exact o8 (of_decide_eq_true h)
theorem CT {p n : Nat} (hcan : nk c s p = true) (h : jX c s p n = true) : 0 < (kr s n).length := by
 obtain ⟨j, h1, h2, rfl⟩ := vS h
 rw [z6] at hcan
 have := GA hcan h1 h2
 rw [cy, bp h1] at this
 unfold bR at this
 split at this
 ·assumption
 ·cases this
theorem vU {p : Nat} (h : aM c s w p = true) : w p = true ∧ nk c s p = true := by
 unfold aM at h; simpa using h
theorem pc (c : Ci) (s : Ns) (w : Nat → Bool) {n : Nat} (hn : n < c.chans.length) : kr (bj c s w) n = e7 c s w n := by
 show (tab _ _).getD n [] = _
 rw [bp hn]
theorem yJ (c : Ci) (s : Ns) (w : Nat → Bool) {p : Nat} (hp : p < c.procs.length) : FZ (bj c s w) p = ce c s w p := by
 show (tab _ _).getD p a7 = _
 rw [bp hp]
theorem EN {α : Type} {a b : List α} {i : Nat} {d : α} : (a ++ b).getD i d = if i < a.length then a.getD i d else b.getD (i - a.length) d := by
 simp only [List.getD, List.getElem?_append]
 split <;> rfl
theorem CU {α : Type} {a : List α} {k i : Nat} {d : α} : (a.drop k).getD i d = a.getD (k + i) d := by
 simp only [List.getD, List.getElem?_drop]
theorem CV {α : Type} {l : List α} {i : Nat} {d : α} (h : i < l.length) : l.getD i d ∈ l := by
 simp [List.getD, List.getElem?_eq_getElem h]
theorem tJ (hc : bC c) (hs : b8 c s) (w : Nat → Bool) : b8 c (bj c s w) where
 pl := by rw [bj]; exact aQ _ _
 cl := by rw [bj]; exact aQ _ _
 pv := fun p hp => by
  rw [yJ c s w hp]
  unfold ce
  split
  ·exact uO (hc.pr p hp) (hs.pv p hp) (o7 hc hs hp)
  ·exact hs.pv p hp
 cv := fun n hn i hi => by
  rw [pc c s w hn] at hi ⊢
  unfold e7 at hi ⊢
  rw [EN]
  split
  ·rename_i h
   rw [CU]
   rw [List.length_drop] at h
   exact hs.cv n hn _ (by omega)
  ·rename_i h
   rw [List.length_append] at hi
   have hm := CV (d := (0 : Int)) (show i - ((kr s n).drop (fe c s w n)).length < (eY c s w n).length by omega)
   generalize (eY c s w n).getD _ 0 = v at hm
   unfold eY at hm
   split at hm
   ·have hlt := Bz hm
    obtain ⟨j, h1, h2, h3, h4⟩ := yI hm
    have := w7 (rs := cT c s (kT c n)) (hc.pr _ hlt) (hs.pv _ hlt) (o7 hc hs hlt) h1 h2
    rw [← (hc.pt _ hlt j h1).2.2.1, h3] at this
    rw [← h4]; exact this
   ·cases hm
 cc := fun n hn hf hd => by
  rw [pc c s w hn]
  unfold e7
  rw [List.length_append, List.length_drop]
  have h0 := hs.cc n hn hf hd
  unfold eY
  split
  ·rename_i hfi
   have h1 := tI (s := s) hc (p := kT c n) n
   by_cases h2 : xe c s (kT c n) n = []
   ·rw [h2]; simp only [List.length_nil]; omega
   ·obtain ⟨v, hv⟩ := List.exists_mem_of_ne_nil _ h2
    have hlt := Bz hv
    obtain ⟨j, h1', h2', h3, h4⟩ := yI hv
    have hcan := (vU hfi).2
    rw [z6] at hcan
    have hr := EM hcan h1' h2'
    rw [cT, bp h1'] at hr
    unfold bS at hr
    rw [h3] at hr
    simp only [Bool.or_eq_true, decide_eq_true_eq] at hr
    omega
  ·simp only [List.length_nil]; omega
theorem EO {p : Nat} (h : aM c s w p = false) : ce c s w p = FZ s p := by
 unfold ce; rw [if_neg (by rw [h]; simp)]
theorem yK {p : Nat} (hs : c.procs.length ≤ p) : jX c s p = fun _ => false := by
 funext n
 cases h : jX c s p n
 ·rfl
 ·exfalso
  obtain ⟨j, h1, _⟩ := vS h
  have e : bK c p = au := by rw [bK, List.getD, List.getElem?_eq_none (by omega)]; rfl
  rw [e] at h1
  exact Nat.not_lt_zero _ h1
theorem EP (hs : b8 c s) (h : ∀ p, p < c.procs.length → aM c s w p = false) : bj c s w = s := by
 have e1 : (bj c s w).procs = s.procs := by
  refine jj (d := a7) (by rw [bj, aQ, hs.pl]) (fun p hp => ?_)
  rw [bj, aQ] at hp
  show FZ (bj c s w) p = FZ s p
  rw [yJ c s w hp, EO (h p hp)]
 have e2 : (bj c s w).chans = s.chans := by
  refine jj (d := []) (by rw [bj, aQ, hs.cl]) (fun n hn => ?_)
  rw [bj, aQ] at hn
  show kr (bj c s w) n = kr s n
  rw [pc c s w hn, e7]
  have h1 : fe c s w n = 0 := by
   rw [fe]
   by_cases hd : qA c n < c.procs.length
   ·rw [h _ hd]; simp
   ·rw [if_neg]
    rintro ⟨_, h2⟩
    rw [yK (by omega)] at h2; cases h2
  have h2 : eY c s w n = [] := by
   rw [eY]
   by_cases hd : kT c n < c.procs.length
   ·rw [h _ hd]; simp
   ·split
    ·exact kV hd
    ·rfl
  rw [h1, h2]; simp
 cases s; cases hq : bj c _ w
 rw [hq] at e1 e2
 simp only at e1 e2
 rw [e1, e2]
def ER (p : Nat) : Nat → Bool := fun q => decide (q = p)
end
end Go.Proofs.YtgmpoenfoacofaaGreat
