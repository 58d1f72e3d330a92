/-
  Circuits, plain law: states stay states; a process that can fire still can after others; firing one after the other.
-/
import Derived.Test.YtnlmlkbaflmgcaaQNeB
namespace Go.Proofs.Ytnlmlkbaflmgcaa
open Go.RowKit
set_option linter.unusedVariables false
set_option linter.unusedSimpArgs false
theorem FW (e : Ex) : 1 ≤ eC e := by cases e with | mk op name k w args => rw [eC]; omega
def DI : List D → List D → Prop
 | [], [] => True
 | x :: xs, y :: ys => cr x y ∧ DI xs ys
 | _, _ => False
theorem DJ {xs ys : List D} (h : DI xs ys) : cr (.agg xs) (.agg ys) := by
 intro S μ w u hu
 obtain ⟨us, rfl, h1, h2⟩ := dj hu
 have key : ∀ (xs ys : List D), DI xs ys → xs.length = ys.length ∧ ∀ (j : Nat) (y : D), ys[j]? = some y → ∃ x, xs[j]? = some x ∧ cr x y := by
  intro xs
  induction xs with
  | nil =>
   intro ys h
   cases ys with
   | nil => exact ⟨rfl, fun j y hy => by simp at hy⟩
   | cons _ _ => exact h.elim
  | cons x xs ih =>
   intro ys h
   cases ys with
   | nil => exact h.elim
   | cons y ys =>
    obtain ⟨q1, q2⟩ := ih ys h.2
    refine ⟨by simp [q1], fun j z hz => ?_⟩
    cases j with
    | zero => simp at hz; subst hz; exact ⟨x, rfl, h.1⟩
    | succ j => simpa using q2 j z (by simpa using hz)
 obtain ⟨q1, q2⟩ := key xs ys h
 refine .agg _ _ (by rw [← q1]; exact h1) (fun j y v hy hv => ?_)
 obtain ⟨x, hx, hl⟩ := q2 j y hy
 exact hl S μ w v (h2 j x v hx hv)
theorem Ar (x : D) : cr x x := fun _ _ _ _ h => h
section
variable {p : Pr} {s : Ps} {hs hs' : List Hd} {rs rs' : List Bool}
theorem uq : hX p s hs rs = true ↔ (∀ j, j < p.takes.length → sa p s hs j = true) ∧ ∀ j, j < p.puts.length → sd p s hs rs j = true := by
 unfold hX
 rw [Bool.and_eq_true, aR, aR]
theorem xb (h : hX p s hs rs = true) : bk p s hs rs = ⟨true, dA p s (bL p s hs), tab (DA p s hs) p.takes.length, tab (BM p s hs) p.puts.length⟩ := if_pos h
theorem FX (h : hX p s hs rs = true) {j : Nat} (hj : j < p.takes.length) (hpop : (bk p s hs rs).pops.getD j false = true) : (hs.getD j cC).has = true := by
 rw [xb h] at hpop
 simp only at hpop
 rw [aL hj] at hpop
 have hh := (uq.1 h).1 j hj
 unfold sa at hh
 unfold DA at hpop
 rw [hpop] at hh
 simpa using hh
theorem DK (h : hX p s hs rs = true) {j : Nat} (hj : j < p.puts.length) (hput : ((bk p s hs rs).puts.getD j cC).has = true) : rs.getD j false = true := by
 rw [xb h] at hput
 simp only at hput
 rw [aL hj] at hput
 have hh := (uq.1 h).2 j hj
 unfold sd at hh
 unfold BM at hput
 split at hput
 ·rename_i hd; rw [hd] at hh; simpa using hh
 ·cases hput
end
section
variable {c : Ci} {s : Ns} {w w' : Nat → Bool}
theorem Au (hc : bS c) {p : Nat} (hp : p < c.procs.length) {f : Fi} (n : Nat) : ∀ {k : Nat}, k ≤ (aZ c p).puts.length → ((sX (aZ c p) f k).filter (fun e => e.1 == n)).length ≤ 1
 | 0, _ => by simp [sX]
 | k + 1, hk => by
  have ih := Au hc hp (f := f) n (k := k) (by omega)
  rw [sX, List.filter_append, List.length_append]
  by_cases h1 : (f.puts.getD k cC).has = true
  ·rw [if_pos h1]
   by_cases e : qI (aZ c p) k = n
   ·have h0 : (sX (aZ c p) f k).filter (fun e => e.1 == n) = [] := by
     rw [List.filter_eq_nil_iff]
     intro z hz hzn
     obtain ⟨j, g1, g2, g3, g4⟩ := oi hz
     have h5 : z.1 = n := by simpa using hzn
     have := hc.pd p hp j k (by omega) (by omega) (by rw [g3, e, h5])
     omega
    rw [h0]
    simp only [List.length_nil, Nat.zero_add]
    exact Nat.le_trans (List.length_filter_le _ _) (by simp)
   ·rw [List.filter_cons_of_neg (by simpa using e), List.filter_nil]; exact ih
  ·rw [if_neg h1]; exact ih
theorem sj (hc : bS c) {p : Nat} (n : Nat) : (vD c s p n).length ≤ 1 := by
 by_cases hp : p < c.procs.length
 ·unfold vD; rw [List.length_map]; exact Au hc hp n (Nat.le_refl _)
 ·rw [oo hp]; simp
theorem xc {p n : Nat} {v : Int} (h : v ∈ vD c s p n) : ∃ j, j < (aZ c p).puts.length ∧ ((az c s p).puts.getD j cC).has = true ∧ qI (aZ c p) j = n ∧ ((az c s p).puts.getD j cC).v = v := by
 unfold vD at h
 rw [List.mem_map] at h
 obtain ⟨e, he, rfl⟩ := h
 rw [List.mem_filter] at he
 obtain ⟨j, h1, h2, h3, h4⟩ := oi he.1
 exact ⟨j, h1, h2, by rw [h3]; simpa using he.2, h4⟩
theorem Av {p n : Nat} {v : Int} (h : v ∈ vD c s p n) : p < c.procs.length := by
 by_cases hp : p < c.procs.length
 ·exact hp
 ·rw [oo hp] at h; cases h
theorem ur {p n : Nat} (h : jM c s p n = true) : ∃ j, j < (aZ c p).takes.length ∧ (az c s p).pops.getD j false = true ∧ ue (aZ c p) j = n := by
 unfold jM at h
 exact qJ (of_decide_eq_true h)
theorem BS {p n : Nat} (hcan : w5 c s p = true) (h : jM c s p n = true) : 0 < (jL s n).length := by
 obtain ⟨j, h1, h2, rfl⟩ := ur h
 rw [DC] at hcan
 have := FX hcan h1 h2
 rw [cE, aL h1] at this
 unfold ic at this
 split at this
 ·assumption
 ·cases this
theorem ut {p : Nat} (h : br c s w p = true) : w p = true ∧ w5 c s p = true := by
 unfold br at h; simpa using h
theorem ow (c : Ci) (s : Ns) (w : Nat → Bool) {n : Nat} (hn : n < c.chans.length) : jL (cF c s w) n = ii c s w n := by
 show (tab _ _).getD n [] = _
 rw [aL hn]
theorem xd (c : Ci) (s : Ns) (w : Nat → Bool) {p : Nat} (hp : p < c.procs.length) : xZ (cF c s w) p = cL c s w p := by
 show (tab _ _).getD p aW = _
 rw [aL hp]
theorem DL {α : Type} {a b : List α} {i : Nat} {d : α} : (a ++ b).getD i d = if i < a.length then a.getD i d else b.getD (i - a.length) d := by
 simp only [List.getD, List.getElem?_append]
 split <;> rfl
theorem BT {α : Type} {a : List α} {k i : Nat} {d : α} : (a.drop k).getD i d = a.getD (k + i) d := by
 simp only [List.getD, List.getElem?_drop]
theorem uu {α : Type} {l : List α} {i : Nat} {d : α} (h : i < l.length) : l.getD i d ∈ l := by
 simp [List.getD, List.getElem?_eq_getElem h]
theorem DM (hc : bS c) (hs : er c s) (w : Nat → Bool) : er c (cF c s w) where
 pl := by rw [cF]; exact aJ _ _
 cl := by rw [cF]; exact aJ _ _
 pv := fun p hp => by
  rw [xd c s w hp]
  unfold cL
  split
  ·exact tg (hc.pr p hp) (hs.pv p hp) (se hc hs hp)
  ·exact hs.pv p hp
 cv := fun n hn i hi => by
  rw [ow c s w hn] at hi ⊢
  unfold ii at hi ⊢
  rw [DL]
  split
  ·rename_i h
   rw [BT]
   rw [List.length_drop] at h
   exact hs.cv n hn _ (by omega)
  ·rename_i h
   rw [List.length_append] at hi
   have hm := uu (d := (0 : Int)) (show i - ((jL s n).drop (ig c s w n)).length < (gr c s w n).length by omega)
   generalize (gr c s w n).getD _ 0 = v at hm
   unfold gr at hm
   split at hm
   ·have hlt := Av hm
    obtain ⟨j, h1, h2, h3, h4⟩ := xc hm
    have := vC (rs := cK c s (mj c n)) (hc.pr _ hlt) (hs.pv _ hlt) (se hc hs hlt) h1 h2
    rw [← (hc.pt _ hlt j h1).2.2.1, h3] at this
    rw [← h4]; exact this
   ·cases hm
 cc := fun n hn hf hd => by
  rw [ow c s w hn]
  unfold ii
  rw [List.length_append, List.length_drop]
  have h0 := hs.cc n hn hf hd
  unfold gr
  split
  ·rename_i hfi
   have h1 := sj (s := s) hc (p := mj c n) n
   by_cases h2 : vD c s (mj c n) n = []
   ·rw [h2]; simp only [List.length_nil]; omega
   ·obtain ⟨v, hv⟩ := List.exists_mem_of_ne_nil _ h2
    have hlt := Av hv
    obtain ⟨j, h1', h2', h3, h4⟩ := xc hv
    have hcan := (ut hfi).2
    rw [DC] at hcan
    have hr := DK hcan h1' h2'
    rw [cK, aL h1'] at hr
    unfold fY at hr
    rw [h3] at hr
    simp only [Bool.or_eq_true, decide_eq_true_eq] at hr
    omega
  ·simp only [List.length_nil]; omega
theorem DN {p : Nat} (h : br c s w p = false) : cL c s w p = xZ s p := by
 unfold cL; rw [if_neg (by rw [h]; simp)]
theorem DP {p : Nat} (hs : c.procs.length ≤ p) : jM c s p = fun _ => false := by
 funext n
 cases h : jM c s p n
 ·rfl
 ·exfalso
  obtain ⟨j, h1, _⟩ := ur h
  have e : aZ c p = ac := by rw [aZ, List.getD, List.getElem?_eq_none (by omega)]; rfl
  rw [e] at h1
  exact Nat.not_lt_zero _ h1
theorem DQ (hs : er c s) (h : ∀ p, p < c.procs.length → br c s w p = false) : cF c s w = s := by
 have e1 : (cF c s w).procs = s.procs := by
  refine kP (d := aW) (by rw [cF, aJ, hs.pl]) (fun p hp => ?_)
  rw [cF, aJ] at hp
  show xZ (cF c s w) p = xZ s p
  rw [xd c s w hp, DN (h p hp)]
 have e2 : (cF c s w).chans = s.chans := by
  refine kP (d := []) (by rw [cF, aJ, hs.cl]) (fun n hn => ?_)
  rw [cF, aJ] at hn
  show jL (cF c s w) n = jL s n
  rw [ow c s w hn, ii]
  have h1 : ig c s w n = 0 := by
   rw [ig]
   by_cases hd : qp c n < c.procs.length
   ·rw [h _ hd]; simp
   ·rw [if_neg]
    rintro ⟨_, h2⟩
    rw [DP (by omega)] at h2; cases h2
  have h2 : gr c s w n = [] := by
   rw [gr]
   by_cases hd : mj c n < c.procs.length
   ·rw [h _ hd]; simp
   ·split
    ·exact oo hd
    ·rfl
  rw [h1, h2]; simp
 cases s; cases hq : cF c _ w
 rw [hq] at e1 e2
 simp only at e1 e2
 rw [e1, e2]
def DR (p : Nat) : Nat → Bool := fun q => decide (q = p)
end
end Go.Proofs.Ytnlmlkbaflmgcaa
