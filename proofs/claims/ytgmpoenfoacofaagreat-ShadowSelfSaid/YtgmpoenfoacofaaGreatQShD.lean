/-
  Package shadow: the reference.
-/
import Derived.Test.YtgmpoenfoacofaaGreatQShC
import Derived.Test.YtgmpoenfoacofaaGreatQNeP
namespace Go.Proofs.YtgmpoenfoacofaaGreat
open Go.RowKit
set_option linter.unusedVariables false
set_option linter.unusedSimpArgs false
abbrev HM (c : Ci) : List D := [(dL 6 eI ax c.procs),(dL 5 eP a6 c.chans)]
set_option maxRecDepth 100000
theorem Jb (c : Ci) (nm : ByteArray) (hl : c.chans.length ≤ 100) : CC (c36 c nm) := by
 refine ah.vc (V := TT 3 (GO (Lrinput_0 c nm) 0 (∀ i,(Lrinput_0 c nm).inv i → TT 5 (CD ((i : Int) < (c.chans.length : Int)) (CS (((c.chans.getD i a6).frm) = (-1)) (TT 3 (IX (i : Int) c.chans.length∧TT 3 ((True∧(decide (((c.chans.getD i a6).frm) = (-1))) = true)∧TT 3 (IX (i : Int) c.chans.length∧TT 5 (CB (((c.chans.getD i a6).name).toList == nm.toList) (TT 3 ((i : Int) = (be c.chans nm)∧True)) (TT 1 (W6 ((i + 1 : Nat) : Int)∧TT 1 (AG (Lrinput_0 c nm) i (i + 1))))))))) (TT 3 (IX (i : Int) c.chans.length∧TT 3 ((True∧(decide (((c.chans.getD i a6).frm) = (-1))) = false)∧TT 10 (W6 ((i + 1 : Nat) : Int)∧TT 1 (AG (Lrinput_0 c nm) i (i + 1))))))) (TT 2 ((-1) = (be c.chans nm)∧True)))))) (.l (Lrinput_0 c nm) 0 (fun i => .b 10 (.s 4 (((c.chans.getD i a6).frm) = (-1)) (.w 4 [(7,.val (dB true))] <| .b 29 (.e) (.w 3 [(1,.val (i6 ((i + 1 : Nat) : Int)))] <| .e)) (.w 4 [(7,.val (dB false))] <| .w 3 [(1,.val (i6 ((i + 1 : Nat) : Int)))] <| .e)) (.e))) Tryz.func36 rfl rfl rfl (by kernel_rfl) ?_
 refine tt ⟨rfl,⟨by omega,fun q hq => by omega⟩,?_⟩
 intro i hinv
 obtain ⟨hi,h3⟩ := hinv
 refine tt (cd (fun hc10 => ?_) (fun hc10 => ?_))
 · refine ⟨fun hs0 => ?_,fun hs0 => ?_⟩
   · refine tt ⟨ix,tt ⟨(vT hs0),tt ⟨ix,tt ⟨fun hc29 => ?_,fun hc29 => ?_⟩⟩⟩⟩
     · refine tt ⟨?_,oK⟩
       first | exact (b9 (f := ji c.chans nm) (by unfold ji; rw [decide_eq_true hs0,Bool.true_and]; exact hc29) h3 (by omega)).symm | exact (cH (f := ji c.chans nm) (fun q hq => h3 q (by omega))).symm
     · refine tt ⟨w6,tt ⟨(i + 1),rfl,?_,(?_ : c.chans.length - (i + 1) < c.chans.length - i)⟩⟩
       · exact ⟨by omega,cu h3 (by unfold ji; first | (rw [show ((c.chans.getD i a6).name.toList == nm.toList) = false by simpa using hc29,Bool.and_false]) | (rw [decide_eq_false (by assumption)]; rfl))⟩
       · omega
   · refine tt ⟨ix,tt ⟨(vF hs0),tt ⟨w6,tt ⟨(i + 1),rfl,?_,(?_ : c.chans.length - (i + 1) < c.chans.length - i)⟩⟩⟩⟩
     · exact ⟨by omega,cu h3 (by unfold ji; first | (rw [show ((c.chans.getD i a6).name.toList == nm.toList) = false by simpa using hc29,Bool.and_false]) | (rw [decide_eq_false (by assumption)]; rfl))⟩
     · omega
 · refine tt ⟨?_,oK⟩
   first | exact (b9 (f := ji c.chans nm) (by unfold ji; rw [decide_eq_true hs0,Bool.true_and]; exact hc29) h3 (by omega)).symm | exact (cH (f := ji c.chans nm) (fun q hq => h3 q (by omega))).symm
abbrev Hg (l : List Int) : Ct := ⟨17,[(LY l)],true,(dL 1 dh .empty (ai l))⟩
abbrev j7 (l : List Int) : Lp (Nat) := iy [0,3,4] 1 (fun (i : Nat) => ⟨[(0,(LY l)),(3,(.own 0)),(4,(i6 (i : Int)))],[(.arr 9 1 dh .empty (ao (uo l) i))]⟩) (fun (i : Nat) => i ≤ l.length) (fun (i : Nat) => l.length - i)
theorem j8 (l : List Int) (hl : l.length ≤ 1000000) (go : hJ l) : CC (Hg l) := by
 refine ah.vc (V := TT 1 (an [] ((ao (uo l) 0).map dh)∧TT 2 (GO (j7 l) 0 (∀ i,(j7 l).inv i → TT 4 (CD ((i : Int) < (l.length : Int)) (TT 1 (an [[(dS (bs [97]))],[(dS (bs [98]))]] ([(bs [97]),(bs [98])].map dh)∧TT 2 (IX (i : Int) l.length∧TT 1 (QM (l.getD i 0) 2∧IX ((l.getD i 0) % 2) ([(bs [97]),(bs [98])].length)∧(((l.getD i 0) % 2).toNat < [(bs [97]),(bs [98])].length∧True)∧an [[(dS (([(bs [97]),(bs [98])]).getD (((l.getD i 0) % 2).toNat) .empty))]] ([(([(bs [97]),(bs [98])]).getD (((l.getD i 0) % 2).toNat) .empty)].map dh)∧((ao (uo l) i).length + ([(([(bs [97]),(bs [98])]).getD (((l.getD i 0) % 2).toNat) .empty)].map dh).length ≤ 137438953472∧(ao (uo l) i).map dh ++ [(([(bs [97]),(bs [98])]).getD (((l.getD i 0) % 2).toNat) .empty)].map dh = (ao (uo l) (i + 1)).map dh)∧TT 2 (W6 ((i + 1 : Nat) : Int)∧TT 1 (AG (j7 l) i (i + 1))))))) (TT 3 ((ao (uo l) i).map dh = (ai l).map dh))))))) (.w 1 [(0,.box 9 1 dh .empty (ao (uo l) 0))] <| .l (j7 l) 0 (fun i => .b 9 (.w 5 [(1,.box 9 1 dh .empty [(bs [97]),(bs [98])]),(6,.val (dI .u8 ((l.getD i 0) % 2))),(9,.box 9 1 dh .empty [(([(bs [97]),(bs [98])]).getD (((l.getD i 0) % 2).toNat) .empty)]),(10,.box 9 1 dh .empty (ao (uo l) (i + 1)))] <| .w 4 [(1,.val (i6 ((i + 1 : Nat) : Int)))] <| .e) (.e))) Tryz.func17 rfl rfl rfl (by kernel_rfl) ?_
 refine tt ⟨oK,tt ⟨rfl,(by omega),?_⟩⟩
 intro i hinv
 have hi := hinv
 refine tt (cd (fun hc9 => ?_) (fun hc9 => ?_))
 · have hgi := dC go i
   refine tt ⟨⟨⟨rfl,oK⟩,⟨rfl,oK⟩,oK⟩,tt ⟨ix,tt ⟨qm,⟨ix,⟨⟨om,oK⟩,⟨⟨⟨rfl,oK⟩,oK⟩,⟨(bp (by omega) rfl),tt ⟨w6,tt ⟨(i + 1),rfl,(?_ : (i + 1) ≤ l.length),(?_ : l.length - (i + 1) < l.length - i)⟩⟩⟩⟩⟩⟩⟩⟩⟩
   · omega
   · omega
 · refine tt (congrArg _ (?_ : (ao (uo l) i) = (ai l)))
   rw [show i = l.length by omega]; rfl
abbrev LF (c : Ci) : Ct := ⟨23,[(.agg (HM c))],true,(dL 1 dh .empty (co c))⟩
abbrev io (c : Ci) : Lp (Nat × List ByteArray) := uZ [1,3,4] 2 (fun (i : Nat) (o : List ByteArray) => ⟨[(1,(.ptr 0 0 0 0)),(3,(.own 1)),(4,(i6 (i : Int)))],[(.var 38 (HM c)),(.arr 9 1 dh .empty o)]⟩) (fun (i : Nat) (o : List ByteArray) => i ≤ c.chans.length∧o = nu c i) (fun (i : Nat) (o : List ByteArray) => c.chans.length - i)
theorem Ah (c : Ci) (hl : c.chans.length ≤ 100) : CC (LF c) := by
 refine ah.vc (V := TT 2 (an [] (([] : List ByteArray).map dh)∧TT 2 (GO (io c) (0,([] : List ByteArray)) (∀ i o,(io c).inv (i,o) → TT 5 (CD ((i : Int) < (c.chans.length : Int)) (TT 3 (IX (i : Int) c.chans.length∧TT 3 (CD (((c.chans.getD i a6).frm) = (-1)) (TT 4 (IX (i : Int) c.chans.length∧TT 2 (an [[(dS ((c.chans.getD i a6).name))]] ([(c.chans.getD i a6).name].map dh)∧(o.length + ([(c.chans.getD i a6).name].map dh).length ≤ 137438953472∧o.map dh ++ [(c.chans.getD i a6).name].map dh = (o ++ [(c.chans.getD i a6).name]).map dh)∧TT 2 (W6 ((i + 1 : Nat) : Int)∧TT 1 (AG (io c) (i,o) (i + 1,o ++ [(c.chans.getD i a6).name])))))) (TT 1 (W6 ((i + 1 : Nat) : Int)∧TT 1 (AG (io c) (i,o) (i + 1,o))))))) (TT 3 (o.map dh = (co c).map dh))))))) (.w 1 [(0,.box 9 1 dh .empty ([] : List ByteArray))] <| .l (io c) (0,([] : List ByteArray)) (fun ⟨i,o⟩ => .b 10 (.b 19 (.w 6 [(7,.box 9 1 dh .empty [(c.chans.getD i a6).name]),(8,.box 9 1 dh .empty (o ++ [(c.chans.getD i a6).name]))] <| .w 4 [(1,.val (i6 ((i + 1 : Nat) : Int)))] <| .e) (.w 4 [(1,.val (i6 ((i + 1 : Nat) : Int)))] <| .e)) (.e))) Tryz.func23 rfl rfl rfl (by kernel_rfl) ?_
 refine tt ⟨oK,tt ⟨rfl,⟨by omega,rfl⟩,?_⟩⟩
 intro i o hinv
 obtain ⟨hi,ho⟩ := hinv
 refine tt (cd (fun hc10 => ?_) (fun hc10 => ?_))
 · refine tt ⟨ix,tt (cd (fun hc19 => ?_) (fun hc19 => ?_))⟩
   · refine tt ⟨ix,tt ⟨⟨⟨rfl,oK⟩,oK⟩,⟨⟨by simp only [List.length_map,List.length_cons,List.length_nil]; have := yw (c := c) i; rw [ho]; omega,by simp only [List.map_append,List.map_nil,List.append_nil]⟩,tt ⟨w6,tt ⟨(i + 1,o ++ [(c.chans.getD i a6).name]),rfl,?_,(?_ : c.chans.length - (i + 1) < c.chans.length - i)⟩⟩⟩⟩⟩
     · exact ⟨by omega,by rw [ho]; first | exact (BA hc19).symm | exact (Fm hc19).symm⟩
     · omega
   · refine tt ⟨w6,tt ⟨(i + 1,o),rfl,?_,(?_ : c.chans.length - (i + 1) < c.chans.length - i)⟩⟩
     · exact ⟨by omega,by rw [ho]; first | exact (BA hc19).symm | exact (Fm hc19).symm⟩
     · omega
 · refine tt (congrArg _ (?_ : o = (co c)))
   rw [ho,show i = c.chans.length by omega]; rfl
end Go.Proofs.YtgmpoenfoacofaaGreat
