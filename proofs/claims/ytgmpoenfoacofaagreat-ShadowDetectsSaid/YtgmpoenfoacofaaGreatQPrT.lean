/-
  Processes, plain law: equality of states and firings; more facts for the walks.
-/
import Derived.Test.YtgmpoenfoacofaaGreatQPrS
namespace Go.Proofs.YtgmpoenfoacofaaGreat
open Go.RowKit
set_option linter.unusedVariables false
set_option linter.unusedSimpArgs false
theorem bX {α : Type} {f : Nat → α} {x : α} {enc : α → List V} {i : Nat} (h : i < 137438953472) (hx : x = f i) : (tab f i).length + ([x].map enc).length ≤ 137438953472 ∧ (tab f i).map enc ++ [x].map enc = (tab f (i + 1)).map enc := by
 subst hx; exact gN h
section
variable {c : Sc} {p : Pr} {s : Ps} {hs : List Hd} {rs : List Bool} {d : List Int} {i : Nat}
theorem BU (h : ik p s d (jx p i).enable = true) : (s.mems.getD i []).set (Int.tmod (bj p s d (jx p i).addr).1 (jx p i).words).toNat (bj p s d (jx p i).data).1 = tx p s d i := (if_pos h).symm
theorem ET (h : ¬ik p s d (jx p i).enable = true) : s.mems.getD i [] = tx p s d i := (if_neg h).symm
theorem DS (hp : gi p) (hs : oE p s) (hd : xu p d) (hi : i < p.mems.length) : 0 ≤ Int.tmod (bj p s d (jx p i).addr).1 (jx p i).words ∧ Int.tmod (bj p s d (jx p i).addr).1 (jx p i).words < (s.mems.getD i []).length ∧ (jx p i).words ≠ 0 := by
 have h := hp.mw i hi
 obtain ⟨v, hv⟩ := h.2.2.2.1.1
 have h0 := (uH (im hp hs hd) hv h.2.2.2.1.2).2.1.1
 have hm := hs.mn i hi
 rw [hm]
 exact ⟨Int.tmod_nonneg _ h0, Int.tmod_lt_of_pos _ (by omega), by omega⟩
theorem rq {b : Bool} (h : b = bW (il p s hs) i) (x : Bool) (hx : x = (b && il p s hs i)) : x = bW (il p s hs) (i + 1) := by rw [hx, h]; rfl
theorem xy {a b : Bool} (h : b = (a && bW (jy p s hs rs) i)) (x : Bool) (hx : x = (b && jy p s hs rs i)) : x = (a && bW (jy p s hs rs) (i + 1)) := by rw [hx, h, bW, Bool.and_assoc]
end
end Go.Proofs.YtgmpoenfoacofaaGreat
