/-
  Package migrate: missing channels.
-/
import Derived.Test.YtnlmlkbaflmgcaaQMiA
namespace Go.Proofs.Ytnlmlkbaflmgcaa
open Go.RowKit
set_option linter.unusedVariables false
set_option linter.unusedSimpArgs false
set_option maxRecDepth 100000
abbrev Fb (o n : Ci) : Ct := ⟨14,[(.agg [(dL 6 bm ac o.procs),(dL 5 bI aB o.chans)]),(.agg [(dL 6 bm ac n.procs),(dL 5 bI aB n.chans)])],true,(dL 1 cR .empty (a7 o n o.chans.length))⟩
abbrev dU (o : Ci) (n : Ci) : Lp (Nat × List ByteArray) := px [3,5,6,14,15,16] 3 (fun (i : Nat) (acc : List ByteArray) => ⟨[(3,(.ptr 1 0 0 0)),(5,(.v (.sm false (aa .i64) 0 (b3 [] (be n) n.chans.length)))),(6,(.own 2)),(14,(dL 5 bI aB o.chans)),(15,(i6 (o.chans.length : Int))),(16,(i6 (i : Int)))],[(.var 31 [(dL 6 bm ac o.procs),(dL 5 bI aB o.chans)]),(.var 31 [(dL 6 bm ac n.procs),(dL 5 bI aB n.chans)]),(.arr 9 1 cR .empty acc)]⟩) (fun (i : Nat) (acc : List ByteArray) => i ≤ o.chans.length∧acc = a7 o n i) (fun (i : Nat) (acc : List ByteArray) => o.chans.length - i)
theorem lD (o n : Ci) (hol : o.chans.length ≤ 1000000) (hnl : n.chans.length ≤ 1000000) : CC (Fb o n) := by
 refine aq.vc (V := TT 4 (CC (HP n)∧TT 6 (GO (dU o n) (0,[]) (∀ i acc,(dU o n).inv (i,acc) → TT 1 (CD ((i : Int) < (o.chans.length : Int)) (IX (i : Int) o.chans.length∧TT 6 (((cr (i6 0) (ft false ((aa .i64) 0)))∧(false = false → ∀ p ∈ (b3 [] (be n) n.chans.length),((aa .i64) p.2).length = 1))∧TT 5 (CS ((aY (b3 [] (be n) n.chans.length) ((o.chans.getD i aB).name)) = true) (TT 2 ((True∧(!(aY (b3 [] (be n) n.chans.length) ((o.chans.getD i aB).name))) = false)∧TT 3 (IX (ah 0 (b3 [] (be n) n.chans.length) ((o.chans.getD i aB).name)) n.chans.length∧TT 6 (CN (((n.chans.getD ((ah 0 (b3 [] (be n) n.chans.length) ((o.chans.getD i aB).name)).toNat) aB).w) = ((o.chans.getD i aB).w)) (TT 3 (am [[(dS ((o.chans.getD i aB).name))]] ([(o.chans.getD i aB).name].map cR)∧(acc.length + ([(o.chans.getD i aB).name].map cR).length ≤ 137438953472∧acc.map cR ++ [(o.chans.getD i aB).name].map cR = (a7 o n (i + 1)).map cR)∧TT 1 (W6 ((i + 1 : Nat) : Int)∧TT 1 (AG (dU o n) (i,acc) (i + 1,a7 o n (i + 1)))))) (W6 ((i + 1 : Nat) : Int)∧TT 1 (AG (dU o n) (i,acc) (i + 1,acc))))))) (TT 2 ((True∧(!(aY (b3 [] (be n) n.chans.length) ((o.chans.getD i aB).name))) = true)∧TT 4 (am [[(dS ((o.chans.getD i aB).name))]] ([(o.chans.getD i aB).name].map cR)∧(acc.length + ([(o.chans.getD i aB).name].map cR).length ≤ 137438953472∧acc.map cR ++ [(o.chans.getD i aB).name].map cR = (a7 o n (i + 1)).map cR)∧TT 1 (W6 ((i + 1 : Nat) : Int)∧TT 1 (AG (dU o n) (i,acc) (i + 1,a7 o n (i + 1)))))))))) (TT 3 (acc.map cR = (a7 o n o.chans.length).map cR))))))) (.w 1 [(1,(HP n).O)] <| .gs 3 6 9 1 cR .empty <| .l (dU o n) (0,[]) (fun ⟨i,acc⟩ => .b 17 (.s 7 ((aY (b3 [] (be n) n.chans.length) ((o.chans.getD i aB).name)) = true) (.w 7 [(2,.val (dB false))] <| .b 39 (.w 8 [(3,.box 9 1 cR .empty [(o.chans.getD i aB).name]),(4,.box 9 1 cR .empty (a7 o n (i + 1)))] <| .w 9 [(0,.val (i6 ((i + 1 : Nat) : Int)))] <| .e) (.w 9 [(0,.val (i6 ((i + 1 : Nat) : Int)))] <| .e)) (.w 7 [(2,.val (dB true))] <| .w 8 [(3,.box 9 1 cR .empty [(o.chans.getD i aB).name]),(4,.box 9 1 cR .empty (a7 o n (i + 1)))] <| .w 9 [(0,.val (i6 ((i + 1 : Nat) : Int)))] <| .e)) (.e))) Try.func14 rfl rfl rfl (by kernel_rfl) ?_
 refine tt ⟨(nh n (by omega)),tt ⟨rfl,⟨by omega,rfl⟩,?_⟩⟩
 intro i acc hinv
 obtain ⟨hi,hacc⟩ := hinv
 refine tt (cd (fun hc17 => ?_) (fun hc17 => ?_))
 · refine ⟨ix,tt ⟨⟨(cr.refl _),(fun _ _ _ => rfl)⟩,tt ?_⟩⟩
   have hin := ug (f := be n) (k := be o i) n.chans.length
   refine ⟨fun hs0 => ?_,fun hs0 => ?_⟩
   · have hin2 : 0 ≤ ah 0 (b3 [] (be n) n.chans.length) (o.chans.getD i aB).name∧ah 0 (b3 [] (be n) n.chans.length) (o.chans.getD i aB).name < (n.chans.length : Int) := hin hs0
     refine tt ⟨(mF hs0),tt ⟨ix,tt (cn (fun hc39 => ?_) (fun hc39 => ?_))⟩⟩
     · refine tt ⟨⟨⟨rfl,oK⟩,oK⟩,⟨⟨by simp only [List.length_map,List.length_cons,List.length_nil]; rw [hacc]; have := oq o n i; omega,by rw [hacc,w8 (o := o) (n := n) (i := i) (by first | exact qK hs0 | exact qK (Bool.eq_false_iff.2 hs0) | exact Aj hc39),List.map_append]; rfl⟩,tt ⟨w6,tt ⟨(i + 1,a7 o n (i + 1)),rfl,?_,(?_ : o.chans.length - (i + 1) < o.chans.length - i)⟩⟩⟩⟩
       · exact ⟨by omega,by first | rfl | (rw [hacc]; exact vJ (vI hs0 hc39))⟩
       · omega
     · refine ⟨w6,tt ⟨(i + 1,acc),rfl,?_,(?_ : o.chans.length - (i + 1) < o.chans.length - i)⟩⟩
       · exact ⟨by omega,by first | rfl | (rw [hacc]; exact vJ (vI hs0 hc39))⟩
       · omega
   · refine tt ⟨(mT hs0),tt ⟨⟨⟨rfl,oK⟩,oK⟩,⟨⟨by simp only [List.length_map,List.length_cons,List.length_nil]; rw [hacc]; have := oq o n i; omega,by rw [hacc,w8 (o := o) (n := n) (i := i) (by first | exact qK hs0 | exact qK (Bool.eq_false_iff.2 hs0) | exact Aj hc39),List.map_append]; rfl⟩,tt ⟨w6,tt ⟨(i + 1,a7 o n (i + 1)),rfl,?_,(?_ : o.chans.length - (i + 1) < o.chans.length - i)⟩⟩⟩⟩⟩
     · exact ⟨by omega,by first | rfl | (rw [hacc]; exact vJ (vI hs0 hc39))⟩
     · omega
 · have hie : i = o.chans.length := by omega
   refine tt (congrArg _ (?_ : acc = (a7 o n o.chans.length)))
   rw [hacc,hie]
end Go.Proofs.Ytnlmlkbaflmgcaa
