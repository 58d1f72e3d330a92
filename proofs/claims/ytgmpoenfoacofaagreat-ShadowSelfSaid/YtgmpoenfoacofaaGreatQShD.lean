/-
  Package shadow: the reference.
-/
import Derived.Test.YtgmpoenfoacofaaGreatQShC
import Derived.Test.YtgmpoenfoacofaaGreatQNeP
namespace Go.Proofs.YtgmpoenfoacofaaGreat
open Go.RowKit
set_option linter.unusedVariables false
set_option linter.unusedSimpArgs false
abbrev Iz (c : Ci) : List D := [(dL 6 eO av c.procs),(dL 5 eY ba c.chans)]
set_option maxRecDepth 100000
abbrev HX (l : List Int) : Ct := ⟨17,[(LY l)],true,(dL 1 dj .empty (ai l))⟩
abbrev kz (l : List Int) : Lp (Nat) := iP [0,3,4] 1 (fun (i : Nat) => ⟨[(0,(LY l)),(3,(.own 0)),(4,(i6 (i : Int)))],[(.arr 9 1 dj .empty (tab (vf l) i))]⟩) (fun (i : Nat) => i ≤ l.length) (fun (i : Nat) => l.length - i)
theorem kA (l : List Int) (hl : l.length ≤ 1000000) (go : ik l) : CC (HX l) := by
 refine ah.vc (V := TT 1 (an [] ((tab (vf l) 0).map dj)∧TT 2 (GO (kz l) 0 (∀ i,(kz l).inv i → TT 4 (CD ((i : Int) < (l.length : Int)) (TT 1 (an [[(dS (bs [97]))],[(dS (bs [98]))]] ([(bs [97]),(bs [98])].map dj)∧TT 2 (IX (i : Int) l.length∧TT 1 (QM (l.getD i 0) 2∧IX ((l.getD i 0) % 2) ([(bs [97]),(bs [98])].length)∧(((l.getD i 0) % 2).toNat < [(bs [97]),(bs [98])].length∧True)∧an [[(dS (([(bs [97]),(bs [98])]).getD (((l.getD i 0) % 2).toNat) .empty))]] ([(([(bs [97]),(bs [98])]).getD (((l.getD i 0) % 2).toNat) .empty)].map dj)∧((tab (vf l) i).length + ([(([(bs [97]),(bs [98])]).getD (((l.getD i 0) % 2).toNat) .empty)].map dj).length ≤ 137438953472∧(tab (vf l) i).map dj ++ [(([(bs [97]),(bs [98])]).getD (((l.getD i 0) % 2).toNat) .empty)].map dj = (tab (vf l) (i + 1)).map dj)∧TT 2 (W6 ((i + 1 : Nat) : Int)∧TT 1 (AG (kz l) i (i + 1))))))) (TT 3 ((tab (vf l) i).map dj = (ai l).map dj))))))) (.w 1 [(0,.box 9 1 dj .empty (tab (vf l) 0))] <| .l (kz l) 0 (fun i => .b 9 (.w 5 [(1,.box 9 1 dj .empty [(bs [97]),(bs [98])]),(6,.val (dI .u8 ((l.getD i 0) % 2))),(9,.box 9 1 dj .empty [(([(bs [97]),(bs [98])]).getD (((l.getD i 0) % 2).toNat) .empty)]),(10,.box 9 1 dj .empty (tab (vf l) (i + 1)))] <| .w 4 [(1,.val (i6 ((i + 1 : Nat) : Int)))] <| .e) (.e))) Tryz.func17 rfl rfl rfl (by kernel_rfl) ?_
 refine tt ⟨oK,tt ⟨rfl,(by omega),?_⟩⟩
 intro i hinv
 have hi := hinv
 refine tt (cd (fun hc9 => ?_) (fun hc9 => ?_))
 · have hgi := dH go i
   refine tt ⟨⟨⟨rfl,oK⟩,⟨rfl,oK⟩,oK⟩,tt ⟨ix,tt ⟨qm,⟨ix,⟨⟨om,oK⟩,⟨⟨⟨rfl,oK⟩,oK⟩,⟨(bp (by omega) rfl),tt ⟨w6,tt ⟨(i + 1),rfl,(?_ : (i + 1) ≤ l.length),(?_ : l.length - (i + 1) < l.length - i)⟩⟩⟩⟩⟩⟩⟩⟩⟩
   · omega
   · omega
 · refine tt (congrArg _ (?_ : (tab (vf l) i) = (ai l)))
   rw [show i = l.length by omega]; rfl
abbrev Mr (c : Ci) : Ct := ⟨23,[(.agg (Iz c))],true,(dL 1 dj .empty (ct c))⟩
abbrev iB (c : Ci) : Lp (Nat × List ByteArray) := vX [1,3,4] 2 (fun (i : Nat) (o : List ByteArray) => ⟨[(1,(.ptr 0 0 0 0)),(3,(.own 1)),(4,(i6 (i : Int)))],[(.var 38 (Iz c)),(.arr 9 1 dj .empty o)]⟩) (fun (i : Nat) (o : List ByteArray) => i ≤ c.chans.length∧o = nY c i) (fun (i : Nat) (o : List ByteArray) => c.chans.length - i)
theorem Ba (c : Ci) (hl : c.chans.length ≤ 100) : CC (Mr c) := by
 refine ah.vc (V := TT 2 (an [] (([] : List ByteArray).map dj)∧TT 2 (GO (iB c) (0,([] : List ByteArray)) (∀ i o,(iB c).inv (i,o) → TT 5 (CD ((i : Int) < (c.chans.length : Int)) (TT 3 (IX (i : Int) c.chans.length∧TT 3 (CD (((c.chans.getD i ba).frm) = (-1)) (TT 4 (IX (i : Int) c.chans.length∧TT 2 (an [[(dS ((c.chans.getD i ba).name))]] ([(c.chans.getD i ba).name].map dj)∧(o.length + ([(c.chans.getD i ba).name].map dj).length ≤ 137438953472∧o.map dj ++ [(c.chans.getD i ba).name].map dj = (o ++ [(c.chans.getD i ba).name]).map dj)∧TT 2 (W6 ((i + 1 : Nat) : Int)∧TT 1 (AG (iB c) (i,o) (i + 1,o ++ [(c.chans.getD i ba).name])))))) (TT 1 (W6 ((i + 1 : Nat) : Int)∧TT 1 (AG (iB c) (i,o) (i + 1,o))))))) (TT 3 (o.map dj = (ct c).map dj))))))) (.w 1 [(0,.box 9 1 dj .empty ([] : List ByteArray))] <| .l (iB c) (0,([] : List ByteArray)) (fun ⟨i,o⟩ => .b 10 (.b 19 (.w 6 [(7,.box 9 1 dj .empty [(c.chans.getD i ba).name]),(8,.box 9 1 dj .empty (o ++ [(c.chans.getD i ba).name]))] <| .w 4 [(1,.val (i6 ((i + 1 : Nat) : Int)))] <| .e) (.w 4 [(1,.val (i6 ((i + 1 : Nat) : Int)))] <| .e)) (.e))) Tryz.func23 rfl rfl rfl (by kernel_rfl) ?_
 refine tt ⟨oK,tt ⟨rfl,⟨by omega,rfl⟩,?_⟩⟩
 intro i o hinv
 obtain ⟨hi,ho⟩ := hinv
 refine tt (cd (fun hc10 => ?_) (fun hc10 => ?_))
 · refine tt ⟨ix,tt (cd (fun hc19 => ?_) (fun hc19 => ?_))⟩
   · refine tt ⟨ix,tt ⟨⟨⟨rfl,oK⟩,oK⟩,⟨⟨by simp only [List.length_map,List.length_cons,List.length_nil]; have := zp (c := c) i; rw [ho]; omega,by simp only [List.map_append,List.map_nil,List.append_nil]⟩,tt ⟨w6,tt ⟨(i + 1,o ++ [(c.chans.getD i ba).name]),rfl,?_,(?_ : c.chans.length - (i + 1) < c.chans.length - i)⟩⟩⟩⟩⟩
     · exact ⟨by omega,by rw [ho]; first | exact (Co hc19).symm | exact (F4 hc19).symm⟩
     · omega
   · refine tt ⟨w6,tt ⟨(i + 1,o),rfl,?_,(?_ : c.chans.length - (i + 1) < c.chans.length - i)⟩⟩
     · exact ⟨by omega,by rw [ho]; first | exact (Co hc19).symm | exact (F4 hc19).symm⟩
     · omega
 · refine tt (congrArg _ (?_ : o = (ct c)))
   rw [ho,show i = c.chans.length by omega]; rfl
end Go.Proofs.YtgmpoenfoacofaaGreat
