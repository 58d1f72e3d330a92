/-
  Circuits, plain law: states stay states; a process that can fire still can after others; firing one after the other.
-/
import Derived.Test.YtnlmlkbaflmgcaaQNeB
namespace Go.Proofs.Ytnlmlkbaflmgcaa
open Go.RowKit
set_option linter.unusedVariables false
set_option linter.unusedSimpArgs false
theorem FQ (e : Ex) : 1 ≤ eI e := by cases e with | mk op name k w args => rw [eI]; omega
def Dw : List D → List D → Prop
 | [], [] => True
 | x :: xs, y :: ys => cu x y ∧ Dw xs ys
 | _, _ => False
theorem Dx {xs ys : List D} (h : Dw xs ys) : cu (.agg xs) (.agg ys) := by
 intro S μ w u hu
 obtain ⟨us, rfl, h1, h2⟩ := dr hu
 have key : ∀ (xs ys : List D), Dw xs ys → xs.length = ys.length ∧ ∀ (j : Nat) (y : D), ys[j]? = some y → ∃ x, xs[j]? = some x ∧ cu x y := by
  intro xs
  induction xs with
  | nil =>
   intro ys h
   cases ys with
   | nil => exact ⟨rfl, fun j y hy => by simp at hy⟩
   | cons _ _ => exact h.elim
  | cons x xs ih =>
   intro ys h
   cases ys with
   | nil => exact h.elim
   | cons y ys =>
    obtain ⟨q1, q2⟩ := ih ys h.2
    refine ⟨by simp [q1], fun j z hz => ?_⟩
    cases j with
    | zero => simp at hz; subst hz; exact ⟨x, rfl, h.1⟩
    | succ j => simpa using q2 j z (by simpa using hz)
 obtain ⟨q1, q2⟩ := key xs ys h
 refine .agg _ _ (by rw [← q1]; exact h1) (fun j y v hy hv => ?_)
 obtain ⟨x, hx, hl⟩ := q2 j y hy
 exact hl S μ w v (h2 j x v hx hv)
theorem z6 (x : D) : cu x x := fun _ _ _ _ h => h
section
variable {p : Pr} {s : Ps} {hs hs' : List Hd} {rs rs' : List Bool}
theorem t7 : il p s hs rs = true ↔ (∀ j, j < p.takes.length → rV p s hs j = true) ∧ ∀ j, j < p.puts.length → rX p s hs rs j = true := by
 unfold il
 rw [Bool.and_eq_true, bh, bh]
theorem wX (h : il p s hs rs = true) : bi p s hs rs = ⟨true, dP p s (bN p s hs), tab (Dq p s hs) p.takes.length, tab (Bx p s hs) p.puts.length⟩ := if_pos h
theorem FR (h : il p s hs rs = true) {j : Nat} (hj : j < p.takes.length) (hpop : (bi p s hs rs).pops.getD j false = true) : (hs.getD j cG).has = true := by
 rw [wX h] at hpop
 simp only at hpop
 rw [aY hj] at hpop
 have hh := (t7.1 h).1 j hj
 unfold rV at hh
 unfold Dq at hpop
 rw [hpop] at hh
 simpa using hh
theorem Dy (h : il p s hs rs = true) {j : Nat} (hj : j < p.puts.length) (hput : ((bi p s hs rs).puts.getD j cG).has = true) : rs.getD j false = true := by
 rw [wX h] at hput
 simp only at hput
 rw [aY hj] at hput
 have hh := (t7.1 h).2 j hj
 unfold rX at hh
 unfold Bx at hput
 split at hput
 ·rename_i hd; rw [hd] at hh; simpa using hh
 ·cases hput
end
section
variable {c : Ci} {s : Ns} {w w' : Nat → Bool}
theorem z7 (hc : b5 c) {p : Nat} (hp : p < c.procs.length) {f : Fi} (n : Nat) : ∀ {k : Nat}, k ≤ (bD c p).puts.length → ((sP (bD c p) f k).filter (fun e => e.1 == n)).length ≤ 1
 | 0, _ => by simp [sP]
 | k + 1, hk => by
  have ih := z7 hc hp (f := f) n (k := k) (by omega)
  rw [sP, List.filter_append, List.length_append]
  by_cases h1 : (f.puts.getD k cG).has = true
  ·rw [if_pos h1]
   by_cases e : qF (bD c p) k = n
   ·have h0 : (sP (bD c p) f k).filter (fun e => e.1 == n) = [] := by
     rw [List.filter_eq_nil_iff]
     intro z hz hzn
     obtain ⟨j, g1, g2, g3, g4⟩ := ot hz
     have h5 : z.1 = n := by simpa using hzn
     have := hc.pd p hp j k (by omega) (by omega) (by rw [g3, e, h5])
     omega
    rw [h0]
    simp only [List.length_nil, Nat.zero_add]
    exact Nat.le_trans (List.length_filter_le _ _) (by simp)
   ·rw [List.filter_cons_of_neg (by simpa using e), List.filter_nil]; exact ih
  ·rw [if_neg h1]; exact ih
theorem r7 (hc : b5 c) {p : Nat} (n : Nat) : (vp c s p n).length ≤ 1 := by
 by_cases hp : p < c.procs.length
 ·unfold vp; rw [List.length_map]; exact z7 hc hp n (Nat.le_refl _)
 ·rw [ou hp]; simp
theorem wY {p n : Nat} {v : Int} (h : v ∈ vp c s p n) : ∃ j, j < (bD c p).puts.length ∧ ((aA c s p).puts.getD j cG).has = true ∧ qF (bD c p) j = n ∧ ((aA c s p).puts.getD j cG).v = v := by
 unfold vp at h
 rw [List.mem_map] at h
 obtain ⟨e, he, rfl⟩ := h
 rw [List.mem_filter] at he
 obtain ⟨j, h1, h2, h3, h4⟩ := ot he.1
 exact ⟨j, h1, h2, by rw [h3]; simpa using he.2, h4⟩
theorem z8 {p n : Nat} {v : Int} (h : v ∈ vp c s p n) : p < c.procs.length := by
 by_cases hp : p < c.procs.length
 ·exact hp
 ·rw [ou hp] at h; cases h
theorem t8 {p n : Nat} (h : jY c s p n = true) : ∃ j, j < (bD c p).takes.length ∧ (aA c s p).pops.getD j false = true ∧ t1 (bD c p) j = n := by
 unfold jY at h
 exact qG (of_decide_eq_true h)
theorem BD {p n : Nat} (hcan : wR c s p = true) (h : jY c s p n = true) : 0 < (oq s n).length := by
 obtain ⟨j, h1, h2, rfl⟩ := t8 h
 rw [Dr] at hcan
 have := FR hcan h1 h2
 rw [cI, aY h1] at this
 unfold ip at this
 split at this
 ·assumption
 ·cases this
theorem t9 {p : Nat} (h : bp c s w p = true) : w p = true ∧ wR c s p = true := by
 unfold bp at h; simpa using h
theorem oA (c : Ci) (s : Ns) (w : Nat → Bool) {n : Nat} (hn : n < c.chans.length) : oq (cK c s w) n = it c s w n := by
 show (tab _ _).getD n [] = _
 rw [aY hn]
theorem wZ (c : Ci) (s : Ns) (w : Nat → Bool) {p : Nat} (hp : p < c.procs.length) : E4 (cK c s w) p = cS c s w p := by
 show (tab _ _).getD p aX = _
 rw [aY hp]
theorem Dz {α : Type} {a b : List α} {i : Nat} {d : α} : (a ++ b).getD i d = if i < a.length then a.getD i d else b.getD (i - a.length) d := by
 simp only [List.getD, List.getElem?_append]
 split <;> rfl
theorem BE {α : Type} {a : List α} {k i : Nat} {d : α} : (a.drop k).getD i d = a.getD (k + i) d := by
 simp only [List.getD, List.getElem?_drop]
theorem ub {α : Type} {l : List α} {i : Nat} {d : α} (h : i < l.length) : l.getD i d ∈ l := by
 simp [List.getD, List.getElem?_eq_getElem h]
theorem DA (hc : b5 c) (hs : gC c s) (w : Nat → Bool) : gC c (cK c s w) where
 pl := by rw [cK]; exact aL _ _
 cl := by rw [cK]; exact aL _ _
 pv := fun p hp => by
  rw [wZ c s w hp]
  unfold cS
  split
  ·exact s7 (hc.pr p hp) (hs.pv p hp) (rY hc hs hp)
  ·exact hs.pv p hp
 cv := fun n hn i hi => by
  rw [oA c s w hn] at hi ⊢
  unfold it at hi ⊢
  rw [Dz]
  split
  ·rename_i h
   rw [BE]
   rw [List.length_drop] at h
   exact hs.cv n hn _ (by omega)
  ·rename_i h
   rw [List.length_append] at hi
   have hm := ub (d := (0 : Int)) (show i - ((oq s n).drop (ir c s w n)).length < (gG c s w n).length by omega)
   generalize (gG c s w n).getD _ 0 = v at hm
   unfold gG at hm
   split at hm
   ·have hlt := z8 hm
    obtain ⟨j, h1, h2, h3, h4⟩ := wY hm
    have := vo (rs := cR c s (my c n)) (hc.pr _ hlt) (hs.pv _ hlt) (rY hc hs hlt) h1 h2
    rw [← (hc.pt _ hlt j h1).2.2.1, h3] at this
    rw [← h4]; exact this
   ·cases hm
 cc := fun n hn hf hd => by
  rw [oA c s w hn]
  unfold it
  rw [List.length_append, List.length_drop]
  have h0 := hs.cc n hn hf hd
  unfold gG
  split
  ·rename_i hfi
   have h1 := r7 (s := s) hc (p := my c n) n
   by_cases h2 : vp c s (my c n) n = []
   ·rw [h2]; simp only [List.length_nil]; omega
   ·obtain ⟨v, hv⟩ := List.exists_mem_of_ne_nil _ h2
    have hlt := z8 hv
    obtain ⟨j, h1', h2', h3, h4⟩ := wY hv
    have hcan := (t9 hfi).2
    rw [Dr] at hcan
    have hr := Dy hcan h1' h2'
    rw [cR, aY h1'] at hr
    unfold gm at hr
    rw [h3] at hr
    simp only [Bool.or_eq_true, decide_eq_true_eq] at hr
    omega
  ·simp only [List.length_nil]; omega
theorem DB {p : Nat} (h : bp c s w p = false) : cS c s w p = E4 s p := by
 unfold cS; rw [if_neg (by rw [h]; simp)]
theorem DC {p : Nat} (hs : c.procs.length ≤ p) : jY c s p = fun _ => false := by
 funext n
 cases h : jY c s p n
 ·rfl
 ·exfalso
  obtain ⟨j, h1, _⟩ := t8 h
  have e : bD c p = ac := by rw [bD, List.getD, List.getElem?_eq_none (by omega)]; rfl
  rw [e] at h1
  exact Nat.not_lt_zero _ h1
theorem DD (hs : gC c s) (h : ∀ p, p < c.procs.length → bp c s w p = false) : cK c s w = s := by
 have e1 : (cK c s w).procs = s.procs := by
  refine kU (d := aX) (by rw [cK, aL, hs.pl]) (fun p hp => ?_)
  rw [cK, aL] at hp
  show E4 (cK c s w) p = E4 s p
  rw [wZ c s w hp, DB (h p hp)]
 have e2 : (cK c s w).chans = s.chans := by
  refine kU (d := []) (by rw [cK, aL, hs.cl]) (fun n hn => ?_)
  rw [cK, aL] at hn
  show oq (cK c s w) n = oq s n
  rw [oA c s w hn, it]
  have h1 : ir c s w n = 0 := by
   rw [ir]
   by_cases hd : qn c n < c.procs.length
   ·rw [h _ hd]; simp
   ·rw [if_neg]
    rintro ⟨_, h2⟩
    rw [DC (by omega)] at h2; cases h2
  have h2 : gG c s w n = [] := by
   rw [gG]
   by_cases hd : my c n < c.procs.length
   ·rw [h _ hd]; simp
   ·split
    ·exact ou hd
    ·rfl
  rw [h1, h2]; simp
 cases s; cases hq : cK c _ w
 rw [hq] at e1 e2
 simp only at e1 e2
 rw [e1, e2]
def DE (p : Nat) : Nat → Bool := fun q => decide (q = p)
end
end Go.Proofs.Ytnlmlkbaflmgcaa
