/-
  Circuits, plain law: states stay states; a process that can fire still can after others; firing one after the other.
-/
import Derived.Test.YtnlmlkbaflmgcaaQNeB
namespace Go.Proofs.Ytnlmlkbaflmgcaa
open Go.RowKit
set_option linter.unusedVariables false
set_option linter.unusedSimpArgs false
theorem FO (e : Ex) : 1 ≤ eI e := by cases e with | mk op name k w args => rw [eI]; omega
def Dv : List D → List D → Prop
 | [], [] => True
 | x :: xs, y :: ys => cu x y ∧ Dv xs ys
 | _, _ => False
theorem Dw {xs ys : List D} (h : Dv xs ys) : cu (.agg xs) (.agg ys) := by
 intro S μ w u hu
 obtain ⟨us, rfl, h1, h2⟩ := dr hu
 have key : ∀ (xs ys : List D), Dv xs ys → xs.length = ys.length ∧ ∀ (j : Nat) (y : D), ys[j]? = some y → ∃ x, xs[j]? = some x ∧ cu x y := by
  intro xs
  induction xs with
  | nil =>
   intro ys h
   cases ys with
   | nil => exact ⟨rfl, fun j y hy => by simp at hy⟩
   | cons _ _ => exact h.elim
  | cons x xs ih =>
   intro ys h
   cases ys with
   | nil => exact h.elim
   | cons y ys =>
    obtain ⟨q1, q2⟩ := ih ys h.2
    refine ⟨by simp [q1], fun j z hz => ?_⟩
    cases j with
    | zero => simp at hz; subst hz; exact ⟨x, rfl, h.1⟩
    | succ j => simpa using q2 j z (by simpa using hz)
 obtain ⟨q1, q2⟩ := key xs ys h
 refine .agg _ _ (by rw [← q1]; exact h1) (fun j y v hy hv => ?_)
 obtain ⟨x, hx, hl⟩ := q2 j y hy
 exact hl S μ w v (h2 j x v hx hv)
theorem z5 (x : D) : cu x x := fun _ _ _ _ h => h
section
variable {p : Pr} {s : Ps} {hs hs' : List Hd} {rs rs' : List Bool}
theorem t7 : ik p s hs rs = true ↔ (∀ j, j < p.takes.length → rV p s hs j = true) ∧ ∀ j, j < p.puts.length → rX p s hs rs j = true := by
 unfold ik
 rw [Bool.and_eq_true, bh, bh]
theorem wX (h : ik p s hs rs = true) : bi p s hs rs = ⟨true, dP p s (bN p s hs), tab (Dp p s hs) p.takes.length, tab (Bw p s hs) p.puts.length⟩ := if_pos h
theorem FP (h : ik p s hs rs = true) {j : Nat} (hj : j < p.takes.length) (hpop : (bi p s hs rs).pops.getD j false = true) : (hs.getD j cG).has = true := by
 rw [wX h] at hpop
 simp only at hpop
 rw [aY hj] at hpop
 have hh := (t7.1 h).1 j hj
 unfold rV at hh
 unfold Dp at hpop
 rw [hpop] at hh
 simpa using hh
theorem Dx (h : ik p s hs rs = true) {j : Nat} (hj : j < p.puts.length) (hput : ((bi p s hs rs).puts.getD j cG).has = true) : rs.getD j false = true := by
 rw [wX h] at hput
 simp only at hput
 rw [aY hj] at hput
 have hh := (t7.1 h).2 j hj
 unfold rX at hh
 unfold Bw at hput
 split at hput
 ·rename_i hd; rw [hd] at hh; simpa using hh
 ·cases hput
end
section
variable {c : Ci} {s : Ns} {w w' : Nat → Bool}
theorem z6 (hc : b5 c) {p : Nat} (hp : p < c.procs.length) {f : Fi} (n : Nat) : ∀ {k : Nat}, k ≤ (bD c p).puts.length → ((sP (bD c p) f k).filter (fun e => e.1 == n)).length ≤ 1
 | 0, _ => by simp [sP]
 | k + 1, hk => by
  have ih := z6 hc hp (f := f) n (k := k) (by omega)
  rw [sP, List.filter_append, List.length_append]
  by_cases h1 : (f.puts.getD k cG).has = true
  ·rw [if_pos h1]
   by_cases e : qE (bD c p) k = n
   ·have h0 : (sP (bD c p) f k).filter (fun e => e.1 == n) = [] := by
     rw [List.filter_eq_nil_iff]
     intro z hz hzn
     obtain ⟨j, g1, g2, g3, g4⟩ := ot hz
     have h5 : z.1 = n := by simpa using hzn
     have := hc.pd p hp j k (by omega) (by omega) (by rw [g3, e, h5])
     omega
    rw [h0]
    simp only [List.length_nil, Nat.zero_add]
    exact Nat.le_trans (List.length_filter_le _ _) (by simp)
   ·rw [List.filter_cons_of_neg (by simpa using e), List.filter_nil]; exact ih
  ·rw [if_neg h1]; exact ih
theorem r7 (hc : b5 c) {p : Nat} (n : Nat) : (vp c s p n).length ≤ 1 := by
 by_cases hp : p < c.procs.length
 ·unfold vp; rw [List.length_map]; exact z6 hc hp n (Nat.le_refl _)
 ·rw [ou hp]; simp
theorem wY {p n : Nat} {v : Int} (h : v ∈ vp c s p n) : ∃ j, j < (bD c p).puts.length ∧ ((aA c s p).puts.getD j cG).has = true ∧ qE (bD c p) j = n ∧ ((aA c s p).puts.getD j cG).v = v := by
 unfold vp at h
 rw [List.mem_map] at h
 obtain ⟨e, he, rfl⟩ := h
 rw [List.mem_filter] at he
 obtain ⟨j, h1, h2, h3, h4⟩ := ot he.1
 exact ⟨j, h1, h2, by rw [h3]; simpa using he.2, h4⟩
theorem z7 {p n : Nat} {v : Int} (h : v ∈ vp c s p n) : p < c.procs.length := by
 by_cases hp : p < c.procs.length
 ·exact hp
 ·rw [ou hp] at h; cases h
theorem t8 {p n : Nat} (h : jX c s p n = true) : ∃ j, j < (bD c p).takes.length ∧ (aA c s p).pops.getD j false = true ∧ t1 (bD c p) j = n := by
 unfold jX at h
 exact qF (of_decide_eq_true h)
theorem BC {p n : Nat} (hcan : wR c s p = true) (h : jX c s p n = true) : 0 < (oq s n).length := by
 obtain ⟨j, h1, h2, rfl⟩ := t8 h
 rw [Dq] at hcan
 have := FP hcan h1 h2
 rw [cI, aY h1] at this
 unfold io at this
 split at this
 ·assumption
 ·cases this
theorem t9 {p : Nat} (h : bp c s w p = true) : w p = true ∧ wR c s p = true := by
 unfold bp at h; simpa using h
theorem oA (c : Ci) (s : Ns) (w : Nat → Bool) {n : Nat} (hn : n < c.chans.length) : oq (cK c s w) n = ir c s w n := by
 show (tab _ _).getD n [] = _
 rw [aY hn]
theorem wZ (c : Ci) (s : Ns) (w : Nat → Bool) {p : Nat} (hp : p < c.procs.length) : E3 (cK c s w) p = cS c s w p := by
 show (tab _ _).getD p aX = _
 rw [aY hp]
theorem Dy {α : Type} {a b : List α} {i : Nat} {d : α} : (a ++ b).getD i d = if i < a.length then a.getD i d else b.getD (i - a.length) d := by
 simp only [List.getD, List.getElem?_append]
 split <;> rfl
theorem BD {α : Type} {a : List α} {k i : Nat} {d : α} : (a.drop k).getD i d = a.getD (k + i) d := by
 simp only [List.getD, List.getElem?_drop]
theorem ub {α : Type} {l : List α} {i : Nat} {d : α} (h : i < l.length) : l.getD i d ∈ l := by
 simp [List.getD, List.getElem?_eq_getElem h]
theorem Dz (hc : b5 c) (hs : gB c s) (w : Nat → Bool) : gB c (cK c s w) where
 pl := by rw [cK]; exact aL _ _
 cl := by rw [cK]; exact aL _ _
 pv := fun p hp => by
  rw [wZ c s w hp]
  unfold cS
  split
  ·exact s7 (hc.pr p hp) (hs.pv p hp) (rY hc hs hp)
  ·exact hs.pv p hp
 cv := fun n hn i hi => by
  rw [oA c s w hn] at hi ⊢
  unfold ir at hi ⊢
  rw [Dy]
  split
  ·rename_i h
   rw [BD]
   rw [List.length_drop] at h
   exact hs.cv n hn _ (by omega)
  ·rename_i h
   rw [List.length_append] at hi
   have hm := ub (d := (0 : Int)) (show i - ((oq s n).drop (iq c s w n)).length < (gF c s w n).length by omega)
   generalize (gF c s w n).getD _ 0 = v at hm
   unfold gF at hm
   split at hm
   ·have hlt := z7 hm
    obtain ⟨j, h1, h2, h3, h4⟩ := wY hm
    have := vo (rs := cR c s (my c n)) (hc.pr _ hlt) (hs.pv _ hlt) (rY hc hs hlt) h1 h2
    rw [← (hc.pt _ hlt j h1).2.2.1, h3] at this
    rw [← h4]; exact this
   ·cases hm
 cc := fun n hn hf hd => by
  rw [oA c s w hn]
  unfold ir
  rw [List.length_append, List.length_drop]
  have h0 := hs.cc n hn hf hd
  unfold gF
  split
  ·rename_i hfi
   have h1 := r7 (s := s) hc (p := my c n) n
   by_cases h2 : vp c s (my c n) n = []
   ·rw [h2]; simp only [List.length_nil]; omega
   ·obtain ⟨v, hv⟩ := List.exists_mem_of_ne_nil _ h2
    have hlt := z7 hv
    obtain ⟨j, h1', h2', h3, h4⟩ := wY hv
    have hcan := (t9 hfi).2
    rw [Dq] at hcan
    have hr := Dx hcan h1' h2'
    rw [cR, aY h1'] at hr
    unfold gk at hr
    rw [h3] at hr
    simp only [Bool.or_eq_true, decide_eq_true_eq] at hr
    omega
  ·simp only [List.length_nil]; omega
theorem DA {p : Nat} (h : bp c s w p = false) : cS c s w p = E3 s p := by
 unfold cS; rw [if_neg (by rw [h]; simp)]
theorem DB {p : Nat} (hs : c.procs.length ≤ p) : jX c s p = fun _ => false := by
 funext n
 cases h : jX c s p n
 ·rfl
 ·exfalso
  obtain ⟨j, h1, _⟩ := t8 h
  have e : bD c p = ac := by rw [bD, List.getD, List.getElem?_eq_none (by omega)]; rfl
  rw [e] at h1
  exact Nat.not_lt_zero _ h1
theorem DC (hs : gB c s) (h : ∀ p, p < c.procs.length → bp c s w p = false) : cK c s w = s := by
 have e1 : (cK c s w).procs = s.procs := by
  refine kU (d := aX) (by rw [cK, aL, hs.pl]) (fun p hp => ?_)
  rw [cK, aL] at hp
  show E3 (cK c s w) p = E3 s p
  rw [wZ c s w hp, DA (h p hp)]
 have e2 : (cK c s w).chans = s.chans := by
  refine kU (d := []) (by rw [cK, aL, hs.cl]) (fun n hn => ?_)
  rw [cK, aL] at hn
  show oq (cK c s w) n = oq s n
  rw [oA c s w hn, ir]
  have h1 : iq c s w n = 0 := by
   rw [iq]
   by_cases hd : ql c n < c.procs.length
   ·rw [h _ hd]; simp
   ·rw [if_neg]
    rintro ⟨_, h2⟩
    rw [DB (by omega)] at h2; cases h2
  have h2 : gF c s w n = [] := by
   rw [gF]
   by_cases hd : my c n < c.procs.length
   ·rw [h _ hd]; simp
   ·split
    ·exact ou hd
    ·rfl
  rw [h1, h2]; simp
 cases s; cases hq : cK c _ w
 rw [hq] at e1 e2
 simp only at e1 e2
 rw [e1, e2]
def DD (p : Nat) : Nat → Bool := fun q => decide (q = p)
end
end Go.Proofs.Ytnlmlkbaflmgcaa
