/-
  The reference of package bits, at valid operations.
-/
import Derived.Test.YtgmpoenfoacofaaGreatQNeH
import Derived.Test.YtgmpoenfoacofaaGreatQVbM
namespace Go.Proofs.YtgmpoenfoacofaaGreat
open Go.RowKit
set_option linter.unusedVariables false
set_option linter.unusedSimpArgs false
theorem u1 {v w : Int} (h : v < 0) : cj v w = false := by unfold cj; rw [decide_eq_false (by omega)]; rfl
theorem u2 {v w : Int} (h : v > aj w) : cj v w = false := by unfold cj; rw [decide_eq_false (show ¬v ≤ aj w by omega), Bool.and_false]
theorem Ed {v w : Int} (h : ¬v < 0) (h2 : ¬v > aj w) : cj v w = true := by unfold cj; rw [decide_eq_true (show v ≤ aj w by omega), decide_eq_true (show 0 ≤ v by omega)]; rfl
theorem kO {l : List Int} {w : Int} {i : Nat} (hi : i < l.length) (h : cj (l.getD i 0) w = false) : cy l w = false := fA (f := fun i => cj (l.getD i 0) w) hi h
theorem rT {l : List Int} {w : Int} (h : ∀ i, i < l.length → cj (l.getD i 0) w = true) : cy l w = true := bE.2 h
def ft (s : Ns) (n : Nat) (l : List Int) : Ns := ⟨s.procs, s.chans.set n l⟩
set_option maxRecDepth 100000
abbrev F8 (w : Int) : Ct := ⟨55,[(i6 w)],false,(i6 (aj w))⟩
theorem rU (w : Int) : CC (F8 w) := by
 refine af.vc (V := TT 1 (CS (w < 0) (TT 2 ((True∧(decide (w < 0)) = true)∧TT 5 ((0 : Int) = (aj w)∧True))) (TT 2 ((True∧(decide (w < 0)) = false)∧TT 3 (CD (w > 62) (TT 2 ((0 : Int) = (aj w)∧True)) (TT 1 ((True∧IntKind.u64.wrap w = w)∧SH w∧W6 ((2 ^ w.toNat) - 1)∧TT 2 (((2 ^ w.toNat) - 1) = (aj w)∧True)))))))) (.s 1 (w < 0) (.w 1 [(2,.val (dB true))] <| .e) (.w 1 [(2,.val (dB false))] <| .b 8 (.e) (.w 3 [(1,.val (dI .u64 w)),(2,.val (i6 (2 ^ w.toNat))),(3,.val (i6 ((2 ^ w.toNat) - 1)))] <| .e))) Tryz.func55 rfl rfl rfl (by kernel_rfl) ?_
 refine tt ⟨fun hs0 => ?_,fun hs0 => ?_⟩
 · refine tt ⟨(vT hs0),tt ⟨?_,oK⟩⟩
   unfold aj; first | exact (if_pos (by omega)).symm | exact (if_neg (by omega)).symm
 · refine tt ⟨(vF hs0),tt (cd (fun hc8 => ?_) (fun hc8 => ?_))⟩
   · refine tt ⟨?_,oK⟩
     unfold aj; first | exact (if_pos (by omega)).symm | exact (if_neg (by omega)).symm
   · refine tt ⟨⟨oK,Fe rfl om om⟩,⟨sh,⟨(w6 (by have := jR (n := w.toNat) (by omega); omega) (by have := jR (n := w.toNat) (by omega); omega)),tt ⟨?_,oK⟩⟩⟩⟩
     unfold aj; first | exact (if_pos (by omega)).symm | exact (if_neg (by omega)).symm
end Go.Proofs.YtgmpoenfoacofaaGreat
