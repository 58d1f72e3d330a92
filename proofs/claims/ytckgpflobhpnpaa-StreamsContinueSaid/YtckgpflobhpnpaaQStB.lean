/-
  Runs of networks are unbounded runs.
-/
import Derived.Test.YtckgpflobhpnpaaQStA
import Derived.Test.YtckgpflobhpnpaaQGrw
namespace Go.Proofs.Ytckgpflobhpnpaa
open Go.RowKit
set_option linter.unusedVariables false
set_option linter.unusedSimpArgs false
structure NU (c : Ci) (s : Ns) (u : Uf) : Prop where
 ps : ∀ p, p < c.procs.length → AZ s p = u.s p
 wd : ∀ n, n < c.chans.length → xN s n = (u.l n).drop (u.rd n)
 le : ∀ n, n < c.chans.length → u.rd n ≤ (u.l n).length
section
variable {c : Ci} {s : Ns} {u : Uf} {p n : Nat} {w : Nat → Bool}
theorem Gl (hc : a6 c) (h : NU c s u) (hp : p < c.procs.length) : ge c s p = u3 c u p := by
 unfold ge u3
 refine ik fun j hj => ?_
 have hn := Jo hc hp hj
 unfold cJ Jr
 rw [h.wd _ hn, List.length_drop]
 have hle := h.le _ hn
 by_cases hlt : u.rd (mA (be c p) j) < (u.l (mA (be c p) j)).length
 ·rw [if_pos hlt, if_pos (by omega), wI]; rfl
 ·rw [if_neg hlt, if_neg (by omega)]
theorem xY (hc : a6 c) (h : NU c s u) (hp : p < c.procs.length) (hcan : gf c s p = true) : ew c u p = af c s p := by
 rw [rX] at hcan
 unfold ew af
 rw [← Gl hc h hp, ← h.ps p hp]
 refine jU (hc.pr p hp) hcan (fun j hj hh => rfl) (fun j hj _ => ?_)
 unfold Gi
 rw [d9 _ _ (by rw [List.length_replicate]; exact hj), List.getElem_replicate]
theorem Kt (hc : a6 c) (h : NU c s u) (hp : p < c.procs.length) (hcan : gf c s p = true) : gF c u p = true := by
 unfold gF; rw [xY hc h hp hcan]; exact hcan
theorem Gm (hc : a6 c) (hp : p < c.procs.length) (hcan : gf c s p = true) : dU c s (cN p) n = i7 c p (af c s p) n := by
 unfold dU i7
 by_cases hm : n ∈ lN (be c p) (af c s p) (be c p).takes.length
 ·have hd := (tA hc hp (Nat.le_refl _) hm).2
  have hdn : gQ c n = p := by unfold gQ; rw [hd]; rfl
  rw [if_pos hm, hdn, if_pos]
  refine ⟨?_, ?_⟩
  ·unfold aA; rw [jX, hcan]; rfl
  ·unfold eu; exact decide_eq_true hm
 ·rw [if_neg hm, if_neg]
  rintro ⟨h1, h2⟩
  have he : gQ c n = p := by
   unfold aA cN at h1
   rw [Bool.and_eq_true] at h1
   exact of_decide_eq_true h1.1
  rw [he] at h2
  exact hm (of_decide_eq_true h2)
theorem Gn (hc : a6 c) (hp : p < c.procs.length) (hcan : gf c s p = true) : cL c s (cN p) n = fq c p (af c s p) n := by
 unfold cL
 by_cases he : eP c n = p
 ·rw [he, if_pos (by unfold aA; rw [jX, hcan]; rfl)]; rfl
 ·rw [if_neg (by unfold aA; rw [tB he]; simp)]
  refine (Classical.byContradiction fun hh => ?_ : [] = _)
  have := qQ hc hp (n := n) (f := af c s p) (fun e => hh e.symm)
  apply he
  unfold eP; rw [this]; rfl
theorem zC (hc : a6 c) (h : NU c s u) (hp : p < c.procs.length) (hcan : gf c s p = true) (hn : n < c.chans.length) : i7 c p (af c s p) n ≤ (xN s n).length := by
 unfold i7
 split
 ·rename_i hm
  exact wH hcan (decide_eq_true hm)
 ·exact Nat.zero_le _
theorem Ku (hc : a6 c) (h : NU c s u) (hp : p < c.procs.length) (hcan : gf c s p = true) : NU c (bz c s (cN p)) (am c u p) := by
 have hst := xY hc h hp hcan
 refine ⟨fun q hq => ?_, fun m hm => ?_, fun m hm => ?_⟩
 ·rw [mE c s _ hq]
  show cM c s (cN p) q = if q = p then (ew c u p).s else u.s q
  unfold cM aA
  by_cases e : q = p
  ·subst e; rw [jX, hcan, if_pos (by rfl), if_pos rfl, hst]
  ·rw [tB e, if_neg e]; exact h.ps q hq
 ·rw [iI c s _ hm]
  unfold dV
  rw [Gm hc hp hcan, Gn hc hp hcan, h.wd m hm, List.drop_drop]
  show _ = (u.l m ++ fq c p (ew c u p) m).drop (u.rd m + i7 c p (ew c u p) m)
  rw [hst]
  have h1 := zC hc h hp hcan hm
  rw [h.wd m hm, List.length_drop] at h1
  have h2 := h.le m hm
  rw [List.drop_append_of_le_length (by omega)]
 ·show u.rd m + i7 c p (ew c u p) m ≤ (u.l m ++ fq c p (ew c u p) m).length
  rw [hst, List.length_append]
  have h1 := zC hc h hp hcan hm
  rw [h.wd m hm, List.length_drop] at h1
  have h2 := h.le m hm
  omega
def jz (c : Ci) (s : Ns) (w : Nat → Bool) (P : Nat) : List Nat := (List.range P).filter (aA c s w)
theorem sN (q : Nat) : ∀ P, (List.range P).count q = if q < P then 1 else 0
 | 0 => by simp
 | P + 1 => by
  rw [List.range_succ, List.count_append, sN q P, List.count_cons, List.count_nil]
  by_cases e : P = q
  ·subst e; simp
  ·have e2 : (P == q) = false := beq_eq_false_iff_ne.2 e
   rw [e2, if_neg (show ¬(false = true) by simp)]
   by_cases g : q < P
   ·rw [if_pos g, if_pos (by omega)]
   ·rw [if_neg g, if_neg (by omega)]
theorem wO (c : Ci) (s : Ns) (w : Nat → Bool) (q P : Nat) : (jz c s w P).count q = if q < P ∧ aA c s w q = true then 1 else 0 := by
 unfold jz
 by_cases hf : aA c s w q = true
 ·rw [List.count_filter hf, sN]
  by_cases g : q < P
  ·rw [if_pos g, if_pos ⟨g, hf⟩]
  ·rw [if_neg g, if_neg (fun h => g h.1)]
 ·rw [if_neg (fun h => hf h.2)]
  exact List.count_eq_zero.2 (fun hm => hf (List.mem_filter.1 hm).2)
theorem Gp (hc : a6 c) (hP : n < c.procs.length) : bz c s (gR w (n + 1)) = if aA c s w n = true then bz c (bz c s (gR w n)) (cN n) else bz c s (gR w n) := by
 split
 ·rename_i hf
  obtain ⟨hw, hcan⟩ := im hf
  have hu : gR w n n = false := by unfold gR; simp
  rw [Iv hc hP hcan hu]
  refine wJ (fun q => ?_)
  unfold aA gR cN
  by_cases e : q = n
  ·subst e; simp [hw]
  ·have : decide (q < n + 1) = decide (q < n) := by simp only [decide_eq_decide]; omega
   rw [this]; simp [e]
 ·rename_i hf
  refine wJ (fun q => ?_)
  by_cases e : q = n
  ·subst e
   have h1 : aA c s (gR w (q + 1)) q = false := by
    unfold aA gR
    unfold aA at hf
    simp only [Bool.and_eq_true, not_and, Bool.not_eq_true] at hf
    cases hw : w q
    ·simp
    ·simp [hf hw]
   rw [h1]; unfold aA gR; simp
  ·unfold aA gR
   have : decide (q < n + 1) = decide (q < n) := by simp only [decide_eq_decide]; omega
   rw [this]
theorem tD (hc : a6 c) (hs : jS c s) (h : NU c s u) (w : Nat → Bool) : ∀ P, P ≤ c.procs.length → hU c u (jz c s w P) ∧ NU c (bz c s (gR w P)) (bP c u (jz c s w P)) ∧ ∀ p, p < P → aA c s w p = true → ew c (bP c u (jz c s w p)) p = af c s p
 | 0, _ => by
  rw [F5 hs (fun p hp => by unfold aA gR; simp)]
  exact ⟨trivial, h, fun p hp => by omega⟩
 | P + 1, hP => by
  obtain ⟨a, b, d⟩ := tD hc hs h w P (by omega)
  have e : jz c s w (P + 1) = jz c s w P ++ (if aA c s w P = true then [P] else []) := by
   unfold jz
   rw [List.range_succ, List.filter_append]
   split
   ·rename_i hf; rw [List.filter_cons_of_pos hf, List.filter_nil]
   ·rename_i hf; rw [List.filter_cons_of_neg hf, List.filter_nil]
  rw [e, Gp hc (by omega)]
  by_cases hf : aA c s w P = true
  ·rw [if_pos hf, if_pos hf]
   obtain ⟨hw, hcan⟩ := im hf
   have hu : gR w P P = false := by unfold gR; simp
   have hcan2 := Iw hc (show P < c.procs.length by omega) hcan hu
   have hst := uY hc (show P < c.procs.length by omega) hcan hu
   have hk := Ku hc b (show P < c.procs.length by omega) hcan2
   refine ⟨qR a ⟨by omega, Kt hc b (by omega) hcan2, trivial⟩, by rw [iM]; exact hk, fun p hp hfp => ?_⟩
   by_cases ep : p = P
   ·subst ep
    rw [xY hc b (by omega) hcan2]; exact hst.1
   ·exact d p (by omega) hfp
  ·rw [if_neg hf, if_neg hf, List.append_nil]
   refine ⟨a, b, fun p hp hfp => ?_⟩
   by_cases ep : p = P
   ·subst ep; exact absurd hfp hf
   ·exact d p (by omega) hfp
theorem IB (hc : a6 c) (hs : jS c s) (h : NU c s u) (w : Nat → Bool) : hU c u (jz c s w c.procs.length) ∧ NU c (bz c s w) (bP c u (jz c s w c.procs.length)) := by
 obtain ⟨a, b, _⟩ := tD hc hs h w _ (Nat.le_refl _)
 rw [xQ hs]
 exact ⟨a, b⟩
def ft (c : Ci) : Ns → List (Nat → Bool) → List Nat
 | _, [] => []
 | s, w :: r => jz c s w c.procs.length ++ ft c (bz c s w) r
def u5 (c : Ci) : Ns → List (Nat → Bool) → Ns
 | s, [] => s
 | s, w :: r => u5 c (bz c s w) r
theorem Bi (hc : a6 c) : ∀ {l : List (Nat → Bool)} {s : Ns} {u : Uf}, jS c s → NU c s u → hU c u (ft c s l) ∧ NU c (u5 c s l) (bP c u (ft c s l)) ∧ jS c (u5 c s l) ∧ ∀ q, (ft c s l).count q ≤ l.length
 | [], s, u, hs, h => ⟨trivial, h, hs, fun q => by simp [ft]⟩
 | w :: r, s, u, hs, h => by
  obtain ⟨a, b⟩ := IB hc hs h w
  obtain ⟨a2, b2, d2, e2⟩ := Bi hc (l := r) (Kl hc hs w) b
  refine ⟨qR a a2, by rw [ft, iM]; exact b2, d2, fun q => ?_⟩
  rw [ft, List.count_append, wO, List.length_cons]
  have := e2 q
  split <;> omega
theorem xZ : ∀ {l m : List (Nat → Bool)} {s : Ns}, ft c s (l ++ m) = ft c s l ++ ft c (u5 c s l) m
 | [], _, _ => rfl
 | w :: r, m, s => by rw [List.cons_append, ft, ft, xZ (l := r), List.append_assoc]; rfl
end
end Go.Proofs.Ytckgpflobhpnpaa
