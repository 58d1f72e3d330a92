/-
  Circuits, plain law: states stay states; a process that can fire still can after others; firing one after the other.
-/
import Derived.Test.YtnlmlkbaflmgcaaQNeB
namespace Go.Proofs.Ytnlmlkbaflmgcaa
open Go.RowKit
set_option linter.unusedVariables false
set_option linter.unusedSimpArgs false
theorem FL (e : Ex) : 1 ≤ eu e := by cases e with | mk op name k w args => rw [eu]; omega
def Dm : List D → List D → Prop
 | [], [] => True
 | x :: xs, y :: ys => cg x y ∧ Dm xs ys
 | _, _ => False
theorem Dn {xs ys : List D} (h : Dm xs ys) : cg (.agg xs) (.agg ys) := by
 intro S μ w u hu
 obtain ⟨us, rfl, h1, h2⟩ := dn hu
 have key : ∀ (xs ys : List D), Dm xs ys → xs.length = ys.length ∧ ∀ (j : Nat) (y : D), ys[j]? = some y → ∃ x, xs[j]? = some x ∧ cg x y := by
  intro xs
  induction xs with
  | nil =>
   intro ys h
   cases ys with
   | nil => exact ⟨rfl, fun j y hy => by simp at hy⟩
   | cons _ _ => exact h.elim
  | cons x xs ih =>
   intro ys h
   cases ys with
   | nil => exact h.elim
   | cons y ys =>
    obtain ⟨q1, q2⟩ := ih ys h.2
    refine ⟨by simp [q1], fun j z hz => ?_⟩
    cases j with
    | zero => simp at hz; subst hz; exact ⟨x, rfl, h.1⟩
    | succ j => simpa using q2 j z (by simpa using hz)
 obtain ⟨q1, q2⟩ := key xs ys h
 refine .agg _ _ (by rw [← q1]; exact h1) (fun j y v hy hv => ?_)
 obtain ⟨x, hx, hl⟩ := q2 j y hy
 exact hl S μ w v (h2 j x v hx hv)
theorem zY (x : D) : cg x x := fun _ _ _ _ h => h
section
variable {p : Pr} {s : Ps} {hs hs' : List Hd} {rs rs' : List Bool}
theorem t0 : hT p s hs rs = true ↔ (∀ j, j < p.takes.length → rN p s hs j = true) ∧ ∀ j, j < p.puts.length → rO p s hs rs j = true := by
 unfold hT
 rw [Bool.and_eq_true, bi, bi]
theorem wU (h : hT p s hs rs = true) : bk p s hs rs = ⟨true, dA p s (bJ p s hs), tab (Dd p s hs) p.takes.length, tab (Bo p s hs) p.puts.length⟩ := if_pos h
theorem FM (h : hT p s hs rs = true) {j : Nat} (hj : j < p.takes.length) (hpop : (bk p s hs rs).pops.getD j false = true) : (hs.getD j cz).has = true := by
 rw [wU h] at hpop
 simp only at hpop
 rw [aR hj] at hpop
 have hh := (t0.1 h).1 j hj
 unfold rN at hh
 unfold Dd at hpop
 rw [hpop] at hh
 simpa using hh
theorem Dp (h : hT p s hs rs = true) {j : Nat} (hj : j < p.puts.length) (hput : ((bk p s hs rs).puts.getD j cz).has = true) : rs.getD j false = true := by
 rw [wU h] at hput
 simp only at hput
 rw [aR hj] at hput
 have hh := (t0.1 h).2 j hj
 unfold rO at hh
 unfold Bo at hput
 split at hput
 ·rename_i hd; rw [hd] at hh; simpa using hh
 ·cases hput
end
section
variable {c : Ci} {s : Ns} {w w' : Nat → Bool}
theorem zZ (hc : bX c) {p : Nat} (hp : p < c.procs.length) {f : Fi} (n : Nat) : ∀ {k : Nat}, k ≤ (bx c p).puts.length → ((sK (bx c p) f k).filter (fun e => e.1 == n)).length ≤ 1
 | 0, _ => by simp [sK]
 | k + 1, hk => by
  have ih := zZ hc hp (f := f) n (k := k) (by omega)
  rw [sK, List.filter_append, List.length_append]
  by_cases h1 : (f.puts.getD k cz).has = true
  ·rw [if_pos h1]
   by_cases e : qx (bx c p) k = n
   ·have h0 : (sK (bx c p) f k).filter (fun e => e.1 == n) = [] := by
     rw [List.filter_eq_nil_iff]
     intro z hz hzn
     obtain ⟨j, g1, g2, g3, g4⟩ := n9 hz
     have h5 : z.1 = n := by simpa using hzn
     have := hc.pd p hp j k (by omega) (by omega) (by rw [g3, e, h5])
     omega
    rw [h0]
    simp only [List.length_nil, Nat.zero_add]
    exact Nat.le_trans (List.length_filter_le _ _) (by simp)
   ·rw [List.filter_cons_of_neg (by simpa using e), List.filter_nil]; exact ih
  ·rw [if_neg h1]; exact ih
theorem rT (hc : bX c) {p : Nat} (n : Nat) : (vk c s p n).length ≤ 1 := by
 by_cases hp : p < c.procs.length
 ·unfold vk; rw [List.length_map]; exact zZ hc hp n (Nat.le_refl _)
 ·rw [oa hp]; simp
theorem wV {p n : Nat} {v : Int} (h : v ∈ vk c s p n) : ∃ j, j < (bx c p).puts.length ∧ ((ay c s p).puts.getD j cz).has = true ∧ qx (bx c p) j = n ∧ ((ay c s p).puts.getD j cz).v = v := by
 unfold vk at h
 rw [List.mem_map] at h
 obtain ⟨e, he, rfl⟩ := h
 rw [List.mem_filter] at he
 obtain ⟨j, h1, h2, h3, h4⟩ := n9 he.1
 exact ⟨j, h1, h2, by rw [h3]; simpa using he.2, h4⟩
theorem z3 {p n : Nat} {v : Int} (h : v ∈ vk c s p n) : p < c.procs.length := by
 by_cases hp : p < c.procs.length
 ·exact hp
 ·rw [oa hp] at h; cases h
theorem t1 {p n : Nat} (h : jK c s p n = true) : ∃ j, j < (bx c p).takes.length ∧ (ay c s p).pops.getD j false = true ∧ tV (bx c p) j = n := by
 unfold jK at h
 exact qy (of_decide_eq_true h)
theorem Bu {p n : Nat} (hcan : wQ c s p = true) (h : jK c s p n = true) : 0 < (jJ s n).length := by
 obtain ⟨j, h1, h2, rfl⟩ := t1 h
 rw [Df] at hcan
 have := FM hcan h1 h2
 rw [cB, aR h1] at this
 unfold ia at this
 split at this
 ·assumption
 ·cases this
theorem t3 {p : Nat} (h : bq c s w p = true) : w p = true ∧ wQ c s p = true := by
 unfold bq at h; simpa using h
theorem oh (c : Ci) (s : Ns) (w : Nat → Bool) {n : Nat} (hn : n < c.chans.length) : jJ (cG c s w) n = ie c s w n := by
 show (tab _ _).getD n [] = _
 rw [aR hn]
theorem wW (c : Ci) (s : Ns) (w : Nat → Bool) {p : Nat} (hp : p < c.procs.length) : yu (cG c s w) p = cM c s w p := by
 show (tab _ _).getD p aZ = _
 rw [aR hp]
theorem Dq {α : Type} {a b : List α} {i : Nat} {d : α} : (a ++ b).getD i d = if i < a.length then a.getD i d else b.getD (i - a.length) d := by
 simp only [List.getD, List.getElem?_append]
 split <;> rfl
theorem Bv {α : Type} {a : List α} {k i : Nat} {d : α} : (a.drop k).getD i d = a.getD (k + i) d := by
 simp only [List.getD, List.getElem?_drop]
theorem t4 {α : Type} {l : List α} {i : Nat} {d : α} (h : i < l.length) : l.getD i d ∈ l := by
 simp [List.getD, List.getElem?_eq_getElem h]
theorem Dr (hc : bX c) (hs : fB c s) (w : Nat → Bool) : fB c (cG c s w) where
 pl := by rw [cG]; exact aH _ _
 cl := by rw [cG]; exact aH _ _
 pv := fun p hp => by
  rw [wW c s w hp]
  unfold cM
  split
  ·exact sX (hc.pr p hp) (hs.pv p hp) (rP hc hs hp)
  ·exact hs.pv p hp
 cv := fun n hn i hi => by
  rw [oh c s w hn] at hi ⊢
  unfold ie at hi ⊢
  rw [Dq]
  split
  ·rename_i h
   rw [Bv]
   rw [List.length_drop] at h
   exact hs.cv n hn _ (by omega)
  ·rename_i h
   rw [List.length_append] at hi
   have hm := t4 (d := (0 : Int)) (show i - ((jJ s n).drop (ic c s w n)).length < (gi c s w n).length by omega)
   generalize (gi c s w n).getD _ 0 = v at hm
   unfold gi at hm
   split at hm
   ·have hlt := z3 hm
    obtain ⟨j, h1, h2, h3, h4⟩ := wV hm
    have := vj (rs := cL c s (lZ c n)) (hc.pr _ hlt) (hs.pv _ hlt) (rP hc hs hlt) h1 h2
    rw [← (hc.pt _ hlt j h1).2.2.1, h3] at this
    rw [← h4]; exact this
   ·cases hm
 cc := fun n hn hf hd => by
  rw [oh c s w hn]
  unfold ie
  rw [List.length_append, List.length_drop]
  have h0 := hs.cc n hn hf hd
  unfold gi
  split
  ·rename_i hfi
   have h1 := rT (s := s) hc (p := lZ c n) n
   by_cases h2 : vk c s (lZ c n) n = []
   ·rw [h2]; simp only [List.length_nil]; omega
   ·obtain ⟨v, hv⟩ := List.exists_mem_of_ne_nil _ h2
    have hlt := z3 hv
    obtain ⟨j, h1', h2', h3, h4⟩ := wV hv
    have hcan := (t3 hfi).2
    rw [Df] at hcan
    have hr := Dp hcan h1' h2'
    rw [cL, aR h1'] at hr
    unfold fS at hr
    rw [h3] at hr
    simp only [Bool.or_eq_true, decide_eq_true_eq] at hr
    omega
  ·simp only [List.length_nil]; omega
theorem Ds {p : Nat} (h : bq c s w p = false) : cM c s w p = yu s p := by
 unfold cM; rw [if_neg (by rw [h]; simp)]
theorem Dt {p : Nat} (hs : c.procs.length ≤ p) : jK c s p = fun _ => false := by
 funext n
 cases h : jK c s p n
 ·rfl
 ·exfalso
  obtain ⟨j, h1, _⟩ := t1 h
  have e : bx c p = af := by rw [bx, List.getD, List.getElem?_eq_none (by omega)]; rfl
  rw [e] at h1
  exact Nat.not_lt_zero _ h1
theorem Du (hs : fB c s) (h : ∀ p, p < c.procs.length → bq c s w p = false) : cG c s w = s := by
 have e1 : (cG c s w).procs = s.procs := by
  refine kE (d := aZ) (by rw [cG, aH, hs.pl]) (fun p hp => ?_)
  rw [cG, aH] at hp
  show yu (cG c s w) p = yu s p
  rw [wW c s w hp, Ds (h p hp)]
 have e2 : (cG c s w).chans = s.chans := by
  refine kE (d := []) (by rw [cG, aH, hs.cl]) (fun n hn => ?_)
  rw [cG, aH] at hn
  show jJ (cG c s w) n = jJ s n
  rw [oh c s w hn, ie]
  have h1 : ic c s w n = 0 := by
   rw [ic]
   by_cases hd : qf c n < c.procs.length
   ·rw [h _ hd]; simp
   ·rw [if_neg]
    rintro ⟨_, h2⟩
    rw [Dt (by omega)] at h2; cases h2
  have h2 : gi c s w n = [] := by
   rw [gi]
   by_cases hd : lZ c n < c.procs.length
   ·rw [h _ hd]; simp
   ·split
    ·exact oa hd
    ·rfl
  rw [h1, h2]; simp
 cases s; cases hq : cG c _ w
 rw [hq] at e1 e2
 simp only at e1 e2
 rw [e1, e2]
def Dv (p : Nat) : Nat → Bool := fun q => decide (q = p)
end
end Go.Proofs.Ytnlmlkbaflmgcaa
