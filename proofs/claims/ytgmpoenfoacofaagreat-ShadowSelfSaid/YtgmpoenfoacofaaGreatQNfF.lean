/-
  The laws of networks, plain data: sizes of what runs, ends, feeding and collecting leave.
-/
import Derived.Test.YtgmpoenfoacofaaGreatQNeZ
namespace Go.Proofs.YtgmpoenfoacofaaGreat
open Go.RowKit
set_option linter.unusedVariables false
set_option linter.unusedSimpArgs false
section
variable {c : Ci} {s : Ns}
theorem uR (hc : a8 c) : ∀ {l : List ByteArray} {s : Ns} {k : Nat}, bG c s → ir s k → bG c (aq c s l) ∧ ir (aq c s l) (k + l.length)
 | [], _, _, hs, hm => ⟨hs, hm⟩
 | a :: r, s, k, hs, hm => by
  have := uR hc (l := r) (gi hc hs (cG c a)) (qV hc hm)
  exact ⟨this.1, fun m => Nat.le_trans (this.2 m) (by simp only [List.length_cons]; omega)⟩
end
end Go.Proofs.YtgmpoenfoacofaaGreat
