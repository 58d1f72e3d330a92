/-
  Runs of networks are unbounded runs.
-/
import Derived.Test.YtckgpflobhpnpaaQStA
import Derived.Test.YtckgpflobhpnpaaQNeD
namespace Go.Proofs.Ytckgpflobhpnpaa
open Go.RowKit
set_option linter.unusedVariables false
set_option linter.unusedSimpArgs false
structure NU (c : Ci) (s : Ns) (u : Uf) : Prop where
 ps : ∀ p, p < c.procs.length → yH s p = u.s p
 wd : ∀ n, n < c.chans.length → vY s n = (u.l n).drop (u.rd n)
 le : ∀ n, n < c.chans.length → u.rd n ≤ (u.l n).length
section
variable {c : Ci} {s : Ns} {u : Uf} {p n : Nat} {w : Nat → Bool}
theorem Dx (hc : a8 c) (h : NU c s u) (hp : p < c.procs.length) : fB c s p = tF c u p := by
 unfold fB tF
 refine gO fun j hj => ?_
 have hn := F5 hc hp hj
 unfold cx G7
 rw [h.wd _ hn, List.length_drop]
 have hle := h.le _ hn
 by_cases hlt : u.rd (nq (a6 c p) j) < (u.l (nq (a6 c p) j)).length
 ·rw [if_pos hlt, if_pos (by omega), uP]; rfl
 ·rw [if_neg hlt, if_neg (by omega)]
theorem wc (hc : a8 c) (h : NU c s u) (hp : p < c.procs.length) (hcan : fC c s p = true) : fk c u p = ac c s p := by
 rw [qs] at hcan
 unfold fk ac
 rw [← Dx hc h hp, ← h.ps p hp]
 refine mt (hc.pr p hp) hcan (fun j hj hh => rfl) (fun j hj _ => ?_)
 unfold Dt
 rw [eE _ _ (by rw [List.length_replicate]; exact hj), List.getElem_replicate]
theorem G9 (hc : a8 c) (h : NU c s u) (hp : p < c.procs.length) (hcan : fC c s p = true) : iC c u p = true := by
 unfold iC; rw [wc hc h hp hcan]; exact hcan
theorem Dy (hc : a8 c) (hp : p < c.procs.length) (hcan : fC c s p = true) : dt c s (cA p) n = i9 c p (ac c s p) n := by
 unfold dt i9
 by_cases hm : n ∈ kK (a6 c p) (ac c s p) (a6 c p).takes.length
 ·have hd := (rL hc hp (Nat.le_refl _) hm).2
  have hdn : gi c n = p := by unfold gi; rw [hd]; rfl
  rw [if_pos hm, hdn, if_pos]
  refine ⟨?_, ?_⟩
  ·unfold aq; rw [jw, hcan]; rfl
  ·unfold dV; exact decide_eq_true hm
 ·rw [if_neg hm, if_neg]
  rintro ⟨h1, h2⟩
  have he : gi c n = p := by
   unfold aq cA at h1
   rw [Bool.and_eq_true] at h1
   exact of_decide_eq_true h1.1
  rw [he] at h2
  exact hm (of_decide_eq_true h2)
theorem Dz (hc : a8 c) (hp : p < c.procs.length) (hcan : fC c s p = true) : cy c s (cA p) n = gG c p (ac c s p) n := by
 unfold cy
 by_cases he : ee c n = p
 ·rw [he, if_pos (by unfold aq; rw [jw, hcan]; rfl)]; rfl
 ·rw [if_neg (by unfold aq; rw [rM he]; simp)]
  refine (Classical.byContradiction fun hh => ?_ : [] = _)
  have := ta hc hp (n := n) (f := ac c s p) (fun e => hh e.symm)
  apply he
  unfold ee; rw [this]; rfl
theorem xz (hc : a8 c) (h : NU c s u) (hp : p < c.procs.length) (hcan : fC c s p = true) (hn : n < c.chans.length) : i9 c p (ac c s p) n ≤ (vY s n).length := by
 unfold i9
 split
 ·rename_i hm
  exact uO hcan (decide_eq_true hm)
 ·exact Nat.zero_le _
theorem Ha (hc : a8 c) (h : NU c s u) (hp : p < c.procs.length) (hcan : fC c s p = true) : NU c (bp c s (cA p)) (ah c u p) := by
 have hst := wc hc h hp hcan
 refine ⟨fun q hq => ?_, fun m hm => ?_, fun m hm => ?_⟩
 ·rw [ly c s _ hq]
  show cz c s (cA p) q = if q = p then (fk c u p).s else u.s q
  unfold cz aq
  by_cases e : q = p
  ·subst e; rw [jw, hcan, if_pos (by rfl), if_pos rfl, hst]
  ·rw [rM e, if_neg e]; exact h.ps q hq
 ·rw [ia c s _ hm]
  unfold du
  rw [Dy hc hp hcan, Dz hc hp hcan, h.wd m hm, List.drop_drop]
  show _ = (u.l m ++ gG c p (fk c u p) m).drop (u.rd m + i9 c p (fk c u p) m)
  rw [hst]
  have h1 := xz hc h hp hcan hm
  rw [h.wd m hm, List.length_drop] at h1
  have h2 := h.le m hm
  rw [List.drop_append_of_le_length (by omega)]
 ·show u.rd m + i9 c p (fk c u p) m ≤ (u.l m ++ gG c p (fk c u p) m).length
  rw [hst, List.length_append]
  have h1 := xz hc h hp hcan hm
  rw [h.wd m hm, List.length_drop] at h1
  have h2 := h.le m hm
  omega
def ja (c : Ci) (s : Ns) (w : Nat → Bool) (P : Nat) : List Nat := (List.range P).filter (aq c s w)
theorem qY (q : Nat) : ∀ P, (List.range P).count q = if q < P then 1 else 0
 | 0 => by simp
 | P + 1 => by
  rw [List.range_succ, List.count_append, qY q P, List.count_cons, List.count_nil]
  by_cases e : P = q
  ·subst e; simp
  ·have e2 : (P == q) = false := beq_eq_false_iff_ne.2 e
   rw [e2, if_neg (show ¬(false = true) by simp)]
   by_cases g : q < P
   ·rw [if_pos g, if_pos (by omega)]
   ·rw [if_neg g, if_neg (by omega)]
theorem uV (c : Ci) (s : Ns) (w : Nat → Bool) (q P : Nat) : (ja c s w P).count q = if q < P ∧ aq c s w q = true then 1 else 0 := by
 unfold ja
 by_cases hf : aq c s w q = true
 ·rw [List.count_filter hf, qY]
  by_cases g : q < P
  ·rw [if_pos g, if_pos ⟨g, hf⟩]
  ·rw [if_neg g, if_neg (fun h => g h.1)]
 ·rw [if_neg (fun h => hf h.2)]
  exact List.count_eq_zero.2 (fun hm => hf (List.mem_filter.1 hm).2)
theorem DA (hc : a8 c) (hP : n < c.procs.length) : bp c s (gj w (n + 1)) = if aq c s w n = true then bp c (bp c s (gj w n)) (cA n) else bp c s (gj w n) := by
 split
 ·rename_i hf
  obtain ⟨hw, hcan⟩ := gQ hf
  have hu : gj w n n = false := by unfold gj; simp
  rw [Fp hc hP hcan hu]
  refine uQ (fun q => ?_)
  unfold aq gj cA
  by_cases e : q = n
  ·subst e; simp [hw]
  ·have : decide (q < n + 1) = decide (q < n) := by simp only [decide_eq_decide]; omega
   rw [this]; simp [e]
 ·rename_i hf
  refine uQ (fun q => ?_)
  by_cases e : q = n
  ·subst e
   have h1 : aq c s (gj w (q + 1)) q = false := by
    unfold aq gj
    unfold aq at hf
    simp only [Bool.and_eq_true, not_and, Bool.not_eq_true] at hf
    cases hw : w q
    ·simp
    ·simp [hf hw]
   rw [h1]; unfold aq gj; simp
  ·unfold aq gj
   have : decide (q < n + 1) = decide (q < n) := by simp only [decide_eq_decide]; omega
   rw [this]
theorem rO (hc : a8 c) (hs : jt c s) (h : NU c s u) (w : Nat → Bool) : ∀ P, P ≤ c.procs.length → jz c u (ja c s w P) ∧ NU c (bp c s (gj w P)) (bX c u (ja c s w P)) ∧ ∀ p, p < P → aq c s w p = true → fk c (bX c u (ja c s w p)) p = ac c s p
 | 0, _ => by
  rw [Dg hs (fun p hp => by unfold aq gj; simp)]
  exact ⟨trivial, h, fun p hp => by omega⟩
 | P + 1, hP => by
  obtain ⟨a, b, d⟩ := rO hc hs h w P (by omega)
  have e : ja c s w (P + 1) = ja c s w P ++ (if aq c s w P = true then [P] else []) := by
   unfold ja
   rw [List.range_succ, List.filter_append]
   split
   ·rename_i hf; rw [List.filter_cons_of_pos hf, List.filter_nil]
   ·rename_i hf; rw [List.filter_cons_of_neg hf, List.filter_nil]
  rw [e, DA hc (by omega)]
  by_cases hf : aq c s w P = true
  ·rw [if_pos hf, if_pos hf]
   obtain ⟨hw, hcan⟩ := gQ hf
   have hu : gj w P P = false := by unfold gj; simp
   have hcan2 := Fq hc (show P < c.procs.length by omega) hcan hu
   have hst := s7 hc (show P < c.procs.length by omega) hcan hu
   have hk := Ha hc b (show P < c.procs.length by omega) hcan2
   refine ⟨pF a ⟨by omega, G9 hc b (by omega) hcan2, trivial⟩, by rw [jA]; exact hk, fun p hp hfp => ?_⟩
   by_cases ep : p = P
   ·subst ep
    rw [wc hc b (by omega) hcan2]; exact hst.1
   ·exact d p (by omega) hfp
  ·rw [if_neg hf, if_neg hf, List.append_nil]
   refine ⟨a, b, fun p hp hfp => ?_⟩
   by_cases ep : p = P
   ·subst ep; exact absurd hfp hf
   ·exact d p (by omega) hfp
theorem Fv (hc : a8 c) (hs : jt c s) (h : NU c s u) (w : Nat → Bool) : jz c u (ja c s w c.procs.length) ∧ NU c (bp c s w) (bX c u (ja c s w c.procs.length)) := by
 obtain ⟨a, b, _⟩ := rO hc hs h w _ (Nat.le_refl _)
 rw [v4 hs]
 exact ⟨a, b⟩
def gk (c : Ci) : Ns → List (Nat → Bool) → List Nat
 | _, [] => []
 | s, w :: r => ja c s w c.procs.length ++ gk c (bp c s w) r
def tG (c : Ci) : Ns → List (Nat → Bool) → Ns
 | s, [] => s
 | s, w :: r => tG c (bp c s w) r
theorem DB (hc : a8 c) : ∀ {l : List (Nat → Bool)} {s : Ns} {u : Uf}, jt c s → NU c s u → jz c u (gk c s l) ∧ NU c (tG c s l) (bX c u (gk c s l)) ∧ jt c (tG c s l) ∧ ∀ q, (gk c s l).count q ≤ l.length
 | [], s, u, hs, h => ⟨trivial, h, hs, fun q => by simp [gk]⟩
 | w :: r, s, u, hs, h => by
  obtain ⟨a, b⟩ := Fv hc hs h w
  obtain ⟨a2, b2, d2, e2⟩ := DB hc (l := r) (GZ hc hs w) b
  refine ⟨pF a a2, by rw [gk, jA]; exact b2, d2, fun q => ?_⟩
  rw [gk, List.count_append, uV, List.length_cons]
  have := e2 q
  split <;> omega
theorem Ax : ∀ {l m : List (Nat → Bool)} {s : Ns}, gk c s (l ++ m) = gk c s l ++ gk c (tG c s l) m
 | [], _, _ => rfl
 | w :: r, m, s => by rw [List.cons_append, gk, gk, Ax (l := r), List.append_assoc]; rfl
end
end Go.Proofs.Ytckgpflobhpnpaa
