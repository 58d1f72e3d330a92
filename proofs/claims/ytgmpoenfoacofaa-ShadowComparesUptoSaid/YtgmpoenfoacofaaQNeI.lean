/-
  Package network: firing.
-/
import Derived.Test.YtgmpoenfoacofaaQNeG
import Derived.Test.YtgmpoenfoacofaaQNeH
namespace Go.Proofs.Ytgmpoenfoacofaa
open Go.RowKit
set_option linter.unusedVariables false
set_option linter.unusedSimpArgs false
set_option maxRecDepth 100000
abbrev y2 (l ws : List Int) : Ct := ⟨70,[(LI l),(.iptr [(.sl 1 (af .i64) 0 ws)] 0)],true,(LI (l ++ ws))⟩
theorem qH (l ws : List Int) (h : l.length + ws.length ≤ 137438953472) : CC (y2 l ws) := by
 refine ai.vc (V := TT 3 (ak [[(LI l)],[(LI ws)]] ([l,ws].map ax)∧CK (yV [l,ws])∧TT 2 (([l,ws].flatten).map (af .i64) = (l ++ ws).map (af .i64)))) (.w 1 [(2,.box 38 1 ax [] [l,ws]),(3,(yV [l,ws]).O')] <| .e) Try.func70 rfl rfl rfl (by kernel_rfl) ?_
 refine tt ⟨⟨⟨rfl,oK⟩,⟨rfl,oK⟩,oK⟩,⟨⟨kQ _ rfl,(sL [l,ws] (by simp) (by simpa using h))⟩,tt (congrArg _ (?_ : ([l,ws].flatten) = (l ++ ws)))⟩⟩
 simp
end Go.Proofs.Ytgmpoenfoacofaa
