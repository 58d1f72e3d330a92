/-
  Processes, plain law: equality of states and firings; more facts for the walks.
-/
import Derived.Test.YtckgpflobhpnpaaQPrS
namespace Go.Proofs.Ytckgpflobhpnpaa
open Go.RowKit
set_option linter.unusedVariables false
set_option linter.unusedSimpArgs false
theorem qr {α : Type} {a b : List α} {d : α} {k : Nat} (hl : a.length = b.length) (hk : ¬k < a.length) (h : ∀ j, j < k → a.getD j d = b.getD j d) : a = b :=
 dq (d := d) hl (fun i hi => h i (by omega))
theorem fZ {α : Type} {f : Nat → α} {x : α} {enc : α → List V} {i : Nat} (h : i < 137438953472) (hx : x = f i) : (tab f i).length + ([x].map enc).length ≤ 137438953472 ∧ (tab f i).map enc ++ [x].map enc = (tab f (i + 1)).map enc := by
 subst hx; exact pp h
section
variable {c : Sc} {p : Pr} {s : Ps} {hs : List Hd} {rs : List Bool} {d : List Int} {i : Nat}
theorem Da (h : j8 p s d (oe p i).enable = true) : (s.mems.getD i []).set (Int.tmod (bo p s d (oe p i).addr).1 (oe p i).words).toNat (bo p s d (oe p i).data).1 = xm p s d i := (if_pos h).symm
theorem F2 (h : ¬j8 p s d (oe p i).enable = true) : s.mems.getD i [] = xm p s d i := (if_neg h).symm
theorem Fj (hp : gE p) (hs : pm p s) (hd : yB p d) (hi : i < p.mems.length) : 0 ≤ Int.tmod (bo p s d (oe p i).addr).1 (oe p i).words ∧ Int.tmod (bo p s d (oe p i).addr).1 (oe p i).words < (s.mems.getD i []).length ∧ (oe p i).words ≠ 0 := by
 have h := hp.mw i hi
 obtain ⟨v, hv⟩ := h.2.2.2.1.1
 have h0 := (vW (lp hp hs hd) hv h.2.2.2.1.2).2.1.1
 have hm := hs.mn i hi
 rw [hm]
 exact ⟨Int.tmod_nonneg _ h0, Int.tmod_lt_of_pos _ (by omega), by omega⟩
theorem s4 {b : Bool} (h : b = dP (jr p s hs) i) (x : Bool) (hx : x = (b && jr p s hs i)) : x = dP (jr p s hs) (i + 1) := by rw [hx, h]; rfl
theorem yF {a b : Bool} (h : b = (a && dP (mV p s hs rs) i)) (x : Bool) (hx : x = (b && mV p s hs rs i)) : x = (a && dP (mV p s hs rs) (i + 1)) := by rw [hx, h, dP, Bool.and_assoc]
end
end Go.Proofs.Ytckgpflobhpnpaa
