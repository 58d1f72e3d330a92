/-
  Processes, plain law: facts for the walks over steps.
-/
import Derived.Test.YtnlmlkbaflmgcaaQNeA
namespace Go.Proofs.Ytnlmlkbaflmgcaa
open Go.RowKit
set_option linter.unusedVariables false
set_option linter.unusedSimpArgs false
def jM {α : Type} (f : Nat → α) (l : List α) (i : Nat) : List α := tab f i ++ l.drop i
theorem fh {α : Type} {f : Nat → α} {l : List α} {i : Nat} (h : i ≤ l.length) : (jM f l i).length = l.length := by
 unfold jM; rw [List.length_append, aH, List.length_drop]; omega
theorem cN {α : Type} {f : Nat → α} {l : List α} {i : Nat} {v : α} (h : i < l.length) (hv : f i = v) : (jM f l i).set i v = jM f l (i + 1) := by
 rw [← hv]; exact FB h
theorem ji {α : Type} {f : Nat → α} {l : List α} {i : Nat} {d : α} (h : i < l.length) (hv : f i = l.getD i d) : jM f l i = jM f l (i + 1) := by
 unfold jM
 rw [rM, List.append_assoc, hv]
 congr 1
 rw [List.drop_eq_getElem_cons h, List.getD, List.getElem?_eq_getElem h]; rfl
theorem dR {α : Type} {f : Nat → α} {l : List α} {i : Nat} (h : l.length ≤ i) : jM f l i = tab f i := Dc h
theorem Dk {α : Type} {f : Nat → α} {l : List α} {i j : Nat} {d : α} : (jM f l i).getD j d = if j < i then f j else l.getD j d := by
 unfold jM
 by_cases h : j < i
 ·rw [if_pos h, List.getD, List.getElem?_append_left (by rw [aH]; exact h), ← List.getD, aR h]
 ·rw [if_neg h, List.getD, List.getElem?_append_right (by rw [aH]; omega), aH, List.getElem?_drop, ← List.getD]
  congr 1; omega
theorem og {α : Type} {f : Nat → α} {enc : α → List V} {i : Nat} (h : i < 137438953472) : (tab f i).length + ([f i].map enc).length ≤ 137438953472 ∧ (tab f i).map enc ++ [f i].map enc = (tab f (i + 1)).map enc := by
 refine ⟨by rw [aH]; simp; omega, ?_⟩
 rw [rM, List.map_append]
theorem db {α : Type} {n i : Nat} {a : α} : (List.replicate n a).getD i a = a := by
 rw [List.getD, List.getElem?_replicate]; split <;> rfl
section
variable {p : Pr} {s : Ps} {hs : List Hd} {rs : List Bool} {d : List Int} {i : Nat}
theorem Dl : (mi p).getD i 0 = 0 := db
theorem kH : (mi p).length = p.takes.length := by simp [mi]
theorem FI (h : hT p s hs rs = false) : bk p s hs rs = ⟨false, s, List.replicate p.takes.length false, List.replicate p.puts.length cz⟩ := if_neg (by rw [h]; simp)
theorem FJ (h : hT p s hs rs = true) : bk p s hs rs = ⟨true, dA p s (bJ p s hs), tab (Dd p s hs) p.takes.length, tab (Bo p s hs) p.puts.length⟩ := if_pos h
theorem tZ {a b : Bool} (h1 : a = cF (rN p s hs) p.takes.length) (h2 : b = (a && cF (rO p s hs rs) p.puts.length)) : hT p s hs rs = b := by
 rw [h2, h1]; rfl
theorem vx (hp : ga p) (hi : i < p.takes.length) : dt (lm p) (lY p i).when = some 1 ∧ eu (lY p i).when ≤ 3 := ⟨(Bs (s := aZ) hp hi [] []).2, (hp.tw i hi).2.2⟩
theorem wT (p : Pr) : bp p = ⟨tab (fun i => (zN p i).init) p.regs.length, tab (fun i => List.replicate (hJ p i).words.toNat 0) p.mems.length⟩ := by
 unfold bp; rw [zM (d := aO), zM (d := aB)]
end
theorem gE {p : Pr} {s : Ps} (h : ¬s.regs.length = p.regs.length) : bw p s = false := by unfold bw; rw [decide_eq_false h]; rfl
theorem gF {p : Pr} {s : Ps} (h : ¬s.mems.length = p.mems.length) : bw p s = false := by unfold bw; rw [decide_eq_false h]; simp
theorem gG {p : Pr} {s : Ps} {i : Nat} (hi : i < s.regs.length) (h : ef (s.regs.getD i 0) (zN p i).w = false) : bw p s = false := by
 unfold bw; rw [dP hi h]; simp
theorem cr {p : Pr} {s : Ps} {i : Nat} (hi : i < s.mems.length) (h : hU p s i = false) : bw p s = false := by
 unfold bw; rw [dP hi h]; simp
theorem lq {p : Pr} {s : Ps} {i : Nat} (h : ¬((s.mems.getD i []).length : Int) = (hJ p i).words) : hU p s i = false := by unfold hU; rw [decide_eq_false h]; rfl
theorem lr {p : Pr} {s : Ps} {i j : Nat} (hj : j < (s.mems.getD i []).length) (h : ef ((s.mems.getD i []).getD j 0) (hJ p i).w = false) : hU p s i = false := by
 unfold hU; rw [dP hj h]; simp
theorem FK {p : Pr} {s : Ps} {i : Nat} (h1 : ((s.mems.getD i []).length : Int) = (hJ p i).words) (h2 : ∀ j, j < (s.mems.getD i []).length → ef ((s.mems.getD i []).getD j 0) (hJ p i).w = true) : hU p s i = true := by
 unfold hU; rw [decide_eq_true h1, bi.2 h2]; rfl
theorem gH {p : Pr} {s : Ps} (h1 : s.regs.length = p.regs.length) (h2 : s.mems.length = p.mems.length) (h3 : ∀ i, i < s.regs.length → ef (s.regs.getD i 0) (zN p i).w = true) (h4 : ∀ i, i < s.mems.length → hU p s i = true) : bw p s = true := by
 unfold bw; rw [decide_eq_true h1, decide_eq_true h2, bi.2 h3, bi.2 h4]; rfl
end Go.Proofs.Ytnlmlkbaflmgcaa
