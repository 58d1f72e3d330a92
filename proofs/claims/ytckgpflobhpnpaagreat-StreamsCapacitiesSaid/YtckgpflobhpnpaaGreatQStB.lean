/-
  Runs of networks are unbounded runs.
-/
import Derived.Test.YtckgpflobhpnpaaGreatQStA
import Derived.Test.YtckgpflobhpnpaaGreatQGrw
namespace Go.Proofs.YtckgpflobhpnpaaGreat
open Go.RowKit
set_option linter.unusedVariables false
set_option linter.unusedSimpArgs false
structure NU (c : Ci) (s : Ns) (u : Uf) : Prop where
 ps : ∀ p, p < c.procs.length → xJ s p = u.s p
 wd : ∀ n, n < c.chans.length → xK s n = (u.l n).drop (u.rd n)
 le : ∀ n, n < c.chans.length → u.rd n ≤ (u.l n).length
section
variable {c : Ci} {s : Ns} {u : Uf} {p n : Nat} {w : Nat → Bool}
theorem Gl (hc : aZ c) (h : NU c s u) (hp : p < c.procs.length) : en c s p = uZ c u p := by
 unfold en uZ
 refine ip fun j hj => ?_
 have hn := F2 hc hp hj
 unfold cA Jn
 rw [h.wd _ hn, List.length_drop]
 have hle := h.le _ hn
 by_cases hlt : u.rd (jG (a8 c p) j) < (u.l (jG (a8 c p) j)).length
 ·rw [if_pos hlt, if_pos (by omega), nw]; rfl
 ·rw [if_neg hlt, if_neg (by omega)]
theorem xU (hc : aZ c) (h : NU c s u) (hp : p < c.procs.length) (hcan : fq c s p = true) : fc c u p = ae c s p := by
 rw [pH] at hcan
 unfold fc ae
 rw [← Gl hc h hp, ← h.ps p hp]
 refine jW (hc.pr p hp) hcan (fun j hj hh => rfl) (fun j hj _ => ?_)
 unfold Eb
 rw [d6 _ _ (by rw [List.length_replicate]; exact hj), List.getElem_replicate]
theorem KE (hc : aZ c) (h : NU c s u) (hp : p < c.procs.length) (hcan : fq c s p = true) : gV c u p = true := by
 unfold gV; rw [xU hc h hp hcan]; exact hcan
theorem Gm (hc : aZ c) (hp : p < c.procs.length) (hcan : fq c s p = true) : dT c s (cN p) n = ie c p (ae c s p) n := by
 unfold dT ie
 by_cases hm : n ∈ lH (a8 c p) (ae c s p) (a8 c p).takes.length
 ·have hd := (tA hc hp (Nat.le_refl _) hm).2
  have hdn : gQ c n = p := by unfold gQ; rw [hd]; rfl
  rw [if_pos hm, hdn, if_pos]
  refine ⟨?_, ?_⟩
  ·unfold ay; rw [jY, hcan]; rfl
  ·unfold eo; exact decide_eq_true hm
 ·rw [if_neg hm, if_neg]
  rintro ⟨h1, h2⟩
  have he : gQ c n = p := by
   unfold ay cN at h1
   rw [Bool.and_eq_true] at h1
   exact of_decide_eq_true h1.1
  rw [he] at h2
  exact hm (of_decide_eq_true h2)
theorem Gn (hc : aZ c) (hp : p < c.procs.length) (hcan : fq c s p = true) : cL c s (cN p) n = gg c p (ae c s p) n := by
 unfold cL
 by_cases he : eO c n = p
 ·rw [he, if_pos (by unfold ay; rw [jY, hcan]; rfl)]; rfl
 ·rw [if_neg (by unfold ay; rw [tB he]; simp)]
  refine (Classical.byContradiction fun hh => ?_ : [] = _)
  have := qQ hc hp (n := n) (f := ae c s p) (fun e => hh e.symm)
  apply he
  unfold eO; rw [this]; rfl
theorem zy (hc : aZ c) (h : NU c s u) (hp : p < c.procs.length) (hcan : fq c s p = true) (hn : n < c.chans.length) : ie c p (ae c s p) n ≤ (xK s n).length := by
 unfold ie
 split
 ·rename_i hm
  exact wD hcan (decide_eq_true hm)
 ·exact Nat.zero_le _
theorem KF (hc : aZ c) (h : NU c s u) (hp : p < c.procs.length) (hcan : fq c s p = true) : NU c (bv c s (cN p)) (ak c u p) := by
 have hst := xU hc h hp hcan
 refine ⟨fun q hq => ?_, fun m hm => ?_, fun m hm => ?_⟩
 ·rw [mz c s _ hq]
  show cM c s (cN p) q = if q = p then (fc c u p).s else u.s q
  unfold cM ay
  by_cases e : q = p
  ·subst e; rw [jY, hcan, if_pos (by rfl), if_pos rfl, hst]
  ·rw [tB e, if_neg e]; exact h.ps q hq
 ·rw [iM c s _ hm]
  unfold dU
  rw [Gm hc hp hcan, Gn hc hp hcan, h.wd m hm, List.drop_drop]
  show _ = (u.l m ++ gg c p (fc c u p) m).drop (u.rd m + ie c p (fc c u p) m)
  rw [hst]
  have h1 := zy hc h hp hcan hm
  rw [h.wd m hm, List.length_drop] at h1
  have h2 := h.le m hm
  rw [List.drop_append_of_le_length (by omega)]
 ·show u.rd m + ie c p (fc c u p) m ≤ (u.l m ++ gg c p (fc c u p) m).length
  rw [hst, List.length_append]
  have h1 := zy hc h hp hcan hm
  rw [h.wd m hm, List.length_drop] at h1
  have h2 := h.le m hm
  omega
def gW (c : Ci) (s : Ns) (w : Nat → Bool) (P : Nat) : List Nat := (List.range P).filter (ay c s w)
theorem sN (q : Nat) : ∀ P, (List.range P).count q = if q < P then 1 else 0
 | 0 => by simp
 | P + 1 => by
  rw [List.range_succ, List.count_append, sN q P, List.count_cons, List.count_nil]
  by_cases e : P = q
  ·subst e; simp
  ·have e2 : (P == q) = false := beq_eq_false_iff_ne.2 e
   rw [e2, if_neg (show ¬(false = true) by simp)]
   by_cases g : q < P
   ·rw [if_pos g, if_pos (by omega)]
   ·rw [if_neg g, if_neg (by omega)]
theorem nC (c : Ci) (s : Ns) (w : Nat → Bool) (q P : Nat) : (gW c s w P).count q = if q < P ∧ ay c s w q = true then 1 else 0 := by
 unfold gW
 by_cases hf : ay c s w q = true
 ·rw [List.count_filter hf, sN]
  by_cases g : q < P
  ·rw [if_pos g, if_pos ⟨g, hf⟩]
  ·rw [if_neg g, if_neg (fun h => g h.1)]
 ·rw [if_neg (fun h => hf h.2)]
  exact List.count_eq_zero.2 (fun hm => hf (List.mem_filter.1 hm).2)
theorem Gp (hc : aZ c) (hP : n < c.procs.length) : bv c s (gR w (n + 1)) = if ay c s w n = true then bv c (bv c s (gR w n)) (cN n) else bv c s (gR w n) := by
 split
 ·rename_i hf
  obtain ⟨hw, hcan⟩ := gd hf
  have hu : gR w n n = false := by unfold gR; simp
  rw [Ir hc hP hcan hu]
  refine wE (fun q => ?_)
  unfold ay gR cN
  by_cases e : q = n
  ·subst e; simp [hw]
  ·have : decide (q < n + 1) = decide (q < n) := by simp only [decide_eq_decide]; omega
   rw [this]; simp [e]
 ·rename_i hf
  refine wE (fun q => ?_)
  by_cases e : q = n
  ·subst e
   have h1 : ay c s (gR w (q + 1)) q = false := by
    unfold ay gR
    unfold ay at hf
    simp only [Bool.and_eq_true, not_and, Bool.not_eq_true] at hf
    cases hw : w q
    ·simp
    ·simp [hf hw]
   rw [h1]; unfold ay gR; simp
  ·unfold ay gR
   have : decide (q < n + 1) = decide (q < n) := by simp only [decide_eq_decide]; omega
   rw [this]
theorem tD (hc : aZ c) (hs : ja c s) (h : NU c s u) (w : Nat → Bool) : ∀ P, P ≤ c.procs.length → dW c u (gW c s w P) ∧ NU c (bv c s (gR w P)) (bc c u (gW c s w P)) ∧ ∀ p, p < P → ay c s w p = true → fc c (bc c u (gW c s w p)) p = ae c s p
 | 0, _ => by
  rw [F4 hs (fun p hp => by unfold ay gR; simp)]
  exact ⟨trivial, h, fun p hp => by omega⟩
 | P + 1, hP => by
  obtain ⟨a, b, d⟩ := tD hc hs h w P (by omega)
  have e : gW c s w (P + 1) = gW c s w P ++ (if ay c s w P = true then [P] else []) := by
   unfold gW
   rw [List.range_succ, List.filter_append]
   split
   ·rename_i hf; rw [List.filter_cons_of_pos hf, List.filter_nil]
   ·rename_i hf; rw [List.filter_cons_of_neg hf, List.filter_nil]
  rw [e, Gp hc (by omega)]
  by_cases hf : ay c s w P = true
  ·rw [if_pos hf, if_pos hf]
   obtain ⟨hw, hcan⟩ := gd hf
   have hu : gR w P P = false := by unfold gR; simp
   have hcan2 := It hc (show P < c.procs.length by omega) hcan hu
   have hst := uW hc (show P < c.procs.length by omega) hcan hu
   have hk := KF hc b (show P < c.procs.length by omega) hcan2
   refine ⟨j6 a ⟨by omega, KE hc b (by omega) hcan2, trivial⟩, by rw [gE]; exact hk, fun p hp hfp => ?_⟩
   by_cases ep : p = P
   ·subst ep
    rw [xU hc b (by omega) hcan2]; exact hst.1
   ·exact d p (by omega) hfp
  ·rw [if_neg hf, if_neg hf, List.append_nil]
   refine ⟨a, b, fun p hp hfp => ?_⟩
   by_cases ep : p = P
   ·subst ep; exact absurd hfp hf
   ·exact d p (by omega) hfp
theorem xV (hc : aZ c) (hs : ja c s) (h : NU c s u) (w : Nat → Bool) : dW c u (gW c s w c.procs.length) ∧ NU c (bv c s w) (bc c u (gW c s w c.procs.length)) := by
 obtain ⟨a, b, _⟩ := tD hc hs h w _ (Nat.le_refl _)
 rw [xN hs]
 exact ⟨a, b⟩
def eF (c : Ci) : Ns → List (Nat → Bool) → List Nat
 | _, [] => []
 | s, w :: r => gW c s w c.procs.length ++ eF c (bv c s w) r
def vy (c : Ci) : Ns → List (Nat → Bool) → Ns
 | s, [] => s
 | s, w :: r => vy c (bv c s w) r
theorem Gq (hc : aZ c) : ∀ {l : List (Nat → Bool)} {s : Ns} {u : Uf}, ja c s → NU c s u → dW c u (eF c s l) ∧ NU c (vy c s l) (bc c u (eF c s l)) ∧ ja c (vy c s l) ∧ ∀ q, (eF c s l).count q ≤ l.length
 | [], s, u, hs, h => ⟨trivial, h, hs, fun q => by simp [eF]⟩
 | w :: r, s, u, hs, h => by
  obtain ⟨a, b⟩ := xV hc hs h w
  obtain ⟨a2, b2, d2, e2⟩ := Gq hc (l := r) (AV hc hs w) b
  refine ⟨j6 a a2, by rw [eF, gE]; exact b2, d2, fun q => ?_⟩
  rw [eF, List.count_append, nC, List.length_cons]
  have := e2 q
  split <;> omega
theorem CM : ∀ {l m : List (Nat → Bool)} {s : Ns}, eF c s (l ++ m) = eF c s l ++ eF c (vy c s l) m
 | [], _, _ => rfl
 | w :: r, m, s => by rw [List.cons_append, eF, eF, CM (l := r), List.append_assoc]; rfl
end
end Go.Proofs.YtckgpflobhpnpaaGreat
