/-
  Package shadow: the reference.
-/
import Derived.Test.YtgmpoenfoacofaaGreatQShC
import Derived.Test.YtgmpoenfoacofaaGreatQNeP
namespace Go.Proofs.YtgmpoenfoacofaaGreat
open Go.RowKit
set_option linter.unusedVariables false
set_option linter.unusedSimpArgs false
set_option maxRecDepth 100000
abbrev IW (l : List Int) : Ct := ⟨17,[(LY l)],true,(dL 1 eI .empty (aM l))⟩
abbrev jm (l : List Int) : Lp (Nat) := jO [0,3,4] 1 (fun (i : Nat) => ⟨[(0,(LY l)),(3,(.own 0)),(4,(i6 (i : Int)))],[(.arr 9 1 eI .empty (tab (sy l) i))]⟩) (fun (i : Nat) => i ≤ l.length) (fun (i : Nat) => l.length - i)
theorem xY (l : List Int) (hl : l.length ≤ 1000000) (go : lW l) : CC (IW l) := by
 refine af.vc (V := TT 1 (an [] ((tab (sy l) 0).map eI)∧TT 2 (GO (jm l) 0 (∀ i,(jm l).inv i → TT 4 (CD ((i : Int) < (l.length : Int)) (TT 1 (an [[(dS (bs [97]))],[(dS (bs [98]))]] ([(bs [97]),(bs [98])].map eI)∧TT 2 (IX (i : Int) l.length∧TT 1 (QM (l.getD i 0) 2∧IX ((l.getD i 0) % 2) ([(bs [97]),(bs [98])].length)∧(((l.getD i 0) % 2).toNat < [(bs [97]),(bs [98])].length∧True)∧an [[(dS (([(bs [97]),(bs [98])]).getD (((l.getD i 0) % 2).toNat) .empty))]] ([(([(bs [97]),(bs [98])]).getD (((l.getD i 0) % 2).toNat) .empty)].map eI)∧((tab (sy l) i).length + ([(([(bs [97]),(bs [98])]).getD (((l.getD i 0) % 2).toNat) .empty)].map eI).length ≤ 137438953472∧(tab (sy l) i).map eI ++ [(([(bs [97]),(bs [98])]).getD (((l.getD i 0) % 2).toNat) .empty)].map eI = (tab (sy l) (i + 1)).map eI)∧TT 2 (W6 ((i + 1 : Nat) : Int)∧TT 1 (AG (jm l) i (i + 1))))))) (TT 3 ((tab (sy l) i).map eI = (aM l).map eI))))))) (.w 1 [(0,.box 9 1 eI .empty (tab (sy l) 0))] <| .l (jm l) 0 (fun i => .b 9 (.w 5 [(1,.box 9 1 eI .empty [(bs [97]),(bs [98])]),(6,.val (dI .u8 ((l.getD i 0) % 2))),(9,.box 9 1 eI .empty [(([(bs [97]),(bs [98])]).getD (((l.getD i 0) % 2).toNat) .empty)]),(10,.box 9 1 eI .empty (tab (sy l) (i + 1)))] <| .w 4 [(1,.val (i6 ((i + 1 : Nat) : Int)))] <| .e) (.e))) Tryz.func17 rfl rfl rfl (by kernel_rfl) ?_
 refine tt ⟨oK,tt ⟨rfl,(by omega),?_⟩⟩
 intro i hinv
 have hi := hinv
 refine tt (cd (fun hc9 => ?_) (fun hc9 => ?_))
 · have hgi := dD go i
   refine tt ⟨⟨⟨rfl,oK⟩,⟨rfl,oK⟩,oK⟩,tt ⟨ix,tt ⟨qm,⟨ix,⟨⟨om,oK⟩,⟨⟨⟨rfl,oK⟩,oK⟩,⟨(bX (by omega) rfl),tt ⟨w6,tt ⟨(i + 1),rfl,(?_ : (i + 1) ≤ l.length),(?_ : l.length - (i + 1) < l.length - i)⟩⟩⟩⟩⟩⟩⟩⟩⟩
   · omega
   · omega
 · refine tt (congrArg _ (?_ : (tab (sy l) i) = (aM l)))
   rw [show i = l.length by omega]; rfl
end Go.Proofs.YtgmpoenfoacofaaGreat
