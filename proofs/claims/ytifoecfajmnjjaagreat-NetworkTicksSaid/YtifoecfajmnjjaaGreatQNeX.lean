/-
  The laws of networks, plain data: a tick is firings in any order.
-/
import Derived.Test.YtifoecfajmnjjaaGreatQNeU
namespace Go.Proofs.YtifoecfajmnjjaaGreat
open Go.RowKit
set_option linter.unusedVariables false
set_option linter.unusedSimpArgs false
def wT (c : Ci) (cl : ByteArray) (l : List Int) (i : Nat) (q : Nat) : Bool := aI c cl q && decide ((q : Int) ∈ l.take i)
section
variable {c : Ci} {s : Ns} {cl : ByteArray} {l : List Int} {i q : Nat}
theorem AJ (hi : i < l.length) (hq : l.getD i 0 = (q : Int)) (r : Nat) : wT c cl l (i + 1) r = (wT c cl l i r || (aI c cl r && decide (r = q))) := by
 unfold wT
 have e : l.take (i + 1) = l.take i ++ [(q : Int)] := by
  rw [List.take_succ_eq_append_getElem hi, ← hq, eZ _ _ hi]
 rw [e]
 have : decide ((r : Int) ∈ l.take i ++ [(q : Int)]) = (decide ((r : Int) ∈ l.take i) || decide (r = q)) := by
  rw [← Bool.decide_or]
  refine decide_eq_decide.2 ?_
  rw [List.mem_append, List.mem_singleton]
  constructor
  ·rintro (h | h)
   ·exact .inl h
   ·exact .inr (by omega)
  ·rintro (h | h)
   ·exact .inl h
   ·exact .inr (by omega)
 rw [this]
 cases aI c cl r <;> simp
theorem GX (hd : l.Nodup) (hi : i < l.length) (hq : l.getD i 0 = (q : Int)) : wT c cl l i q = false := by
 unfold wT
 rw [decide_eq_false, Bool.and_false]
 intro h
 rw [← hq, eZ _ _ hi, List.mem_take_iff_getElem] at h
 obtain ⟨j, hj, he⟩ := h
 have hp := List.pairwise_iff_getElem.1 hd j i (by omega) hi (by omega)
 exact hp he
theorem rB (hi : i < l.length) (hq : l.getD i 0 = (q : Int)) (h : aq c s (aI c cl) q = false) : aA c s (wT c cl l i) = aA c s (wT c cl l (i + 1)) := by
 refine t5 (fun r => ?_)
 unfold aq at h ⊢
 rw [AJ hi hq]
 by_cases e : r = q
 ·subst e
  rw [decide_eq_true rfl, Bool.and_true]
  cases h1 : dG c s r
  ·rw [Bool.and_false, Bool.and_false]
  ·rw [h1, Bool.and_true] at h
   rw [h, Bool.or_false]
 ·rw [decide_eq_false e, Bool.and_false, Bool.or_false]
theorem xF (hc : bM c) (hd : l.Nodup) (hi : i < l.length) (hq : l.getD i 0 = (q : Int)) (hn : q < c.procs.length) (h1 : aI c cl q = true) (h2 : dG c s q = true) :
  dG c (aA c s (wT c cl l i)) q = true ∧ aA c (aA c s (wT c cl l i)) (cP q) = aA c s (wT c cl l (i + 1)) := by
 have hw := GX (c := c) (cl := cl) hd hi hq
 refine ⟨E4 hc hn h2 hw, ?_⟩
 rw [E3 hc hn h2 hw]
 refine t5 (fun r => ?_)
 unfold aq
 rw [AJ hi hq]
 by_cases e : r = q
 ·subst e
  show ((wT c cl l i r || cP r r) && _) = _
  rw [h1, qc, decide_eq_true rfl]; rfl
 ·show ((wT c cl l i r || cP q r) && _) = _
  rw [vx e, decide_eq_false e, Bool.and_false]
theorem ur (hs : cr c s) : aA c s (wT c cl l 0) = s := w7 hs (fun p _ => by unfold aq wT; simp)
theorem xG (hs : cr c s) (hi : l.length ≤ i) (hm : ∀ x : Int, x ∈ l ↔ 0 ≤ x ∧ x < c.procs.length) : aA c s (wT c cl l i) = aA c s (aI c cl) := by
 rw [lU hs, lU (w := aI c cl) hs]
 congr 1
 funext q
 unfold li wT
 rw [List.take_of_length_le hi]
 by_cases h : q < c.procs.length
 ·rw [decide_eq_true ((hm q).2 (by omega)), Bool.and_true]
 ·rw [decide_eq_false h, Bool.and_false, Bool.and_false]
end
end Go.Proofs.YtifoecfajmnjjaaGreat
