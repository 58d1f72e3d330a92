/- Parts of a proof. -/
import Derived.Test.YtckgpflobhpnpaaGreatQNeO
namespace Go.Proofs.YtckgpflobhpnpaaGreat
open Go.RowKit
set_option linter.unusedVariables false
set_option linter.unusedSimpArgs false
set_option maxRecDepth 100000
abbrev c9 (sh:Int) (b:List Int):Ct:=⟨9,[(.agg [(dI .u8 sh),(LY b)])],true,(.agg [(dL 6 fS ac ((a9 sh b).U)),(dL 5 ga bK ((a9 sh b).J))])⟩
abbrev u2 (sh:Int) (b:List Int):Lp (Nat×Nat×Int):=LQ [1,2,3,4,5,6,7] 5 (fun (i:Nat) (p0:Nat) (mo:Int)=>⟨[(1,(.ptr 0 0 0 0)),(2,(.ptr 1 0 0 0)),(3,(dL 2 rK cS (ak sh))),(4,(.ptr 2 0 0 0)),(5,(.ptr 3 0 0 0)),(6,(i6 mo)),(7,(i6 (i:Int)))],[(.var 24 [(dI .u8 sh),(LY b)]),(.var 33 [.nils,.nils]),(.var 33 [(.own 4),.nils]),(.var 84 [(LY b),(i6 (p0:Int))]),(.arr 63 6 fS ac (tab (sg b (ak sh)) i))]⟩) (fun (i:Nat) (p0:Nat) (mo:Int)=>i≤(ak sh).length∧p0=GM b (ak sh) i∧mo=rL (ak sh) i) (fun (i:Nat) (p0:Nat) (mo:Int)=>(ak sh).length-i)
abbrev u3 (sh:Int) (b:List Int) (i:Nat) (p0:Nat) (mo:Int):Lp (Nat):=io [1,2,3,4,5,6,7,9] 17 (fun (j:Nat)=>⟨[(1,(.ptr 0 0 0 0)),(2,(.ptr 1 0 0 0)),(3,(dL 2 rK cS (ak sh))),(4,(.ptr 2 0 0 0)),(5,(.ptr 3 0 0 0)),(6,(i6 (OX ((ak sh).getD i cS).Rv mo j))),(7,(i6 (i:Int))),(9,(i6 (j:Int)))],[(.var 24 [(dI .u8 sh),(LY b)]),(.var 33 [.nils,.nils]),(.var 33 [(.own 4),.nils]),(.var 84 [(LY b),(i6 (((bz b p0 ([(bs [112]),(bs [113]),(bs [117]),(bs [118])].getD i .empty) ((ak sh).getD i cS)).2:Nat):Int))]),(.arr 63 6 fS ac (tab (sg b (ak sh)) (i+1))),.dead,.dead,.dead,.dead,.dead,.dead,.dead,.dead,.dead,.dead,(.var 86 [(dS (((bz b p0 ([(bs [112]),(bs [113]),(bs [117]),(bs [118])].getD i .empty) ((ak sh).getD i cS)).1).name)),(dS (((bz b p0 ([(bs [112]),(bs [113]),(bs [117]),(bs [118])].getD i .empty) ((ak sh).getD i cS)).1).clock)),(dL 13 gM bH (((bz b p0 ([(bs [112]),(bs [113]),(bs [117]),(bs [118])].getD i .empty) ((ak sh).getD i cS)).1).Ry)),(dL 27 m3 aP (((bz b p0 ([(bs [112]),(bs [113]),(bs [117]),(bs [118])].getD i .empty) ((ak sh).getD i cS)).1).Rx)),(dL 9 ir aF (((bz b p0 ([(bs [112]),(bs [113]),(bs [117]),(bs [118])].getD i .empty) ((ak sh).getD i cS)).1).I)),(dL 16 gd aB (((bz b p0 ([(bs [112]),(bs [113]),(bs [117]),(bs [118])].getD i .empty) ((ak sh).getD i cS)).1).Rv)),(LY b),(i6 (((bz b p0 ([(bs [112]),(bs [113]),(bs [117]),(bs [118])].getD i .empty) ((ak sh).getD i cS)).2:Nat):Int))]),(.arr 63 6 fS ac [(bz b p0 ([(bs [112]),(bs [113]),(bs [117]),(bs [118])].getD i .empty) ((ak sh).getD i cS)).1])]⟩) (fun (j:Nat)=>j≤((ak sh).getD i cS).Rv.length) (fun (j:Nat)=>((ak sh).getD i cS).Rv.length-j)
abbrev pj (sh:Int) (b:List Int) (i:Nat) (p0:Nat) (mo:Int):Lp (Nat):=io [1,2,3,4,6,10] 6 (fun (n:Nat)=>⟨[(1,(.ptr 0 0 0 0)),(2,(.ptr 1 0 0 0)),(3,(dL 2 rK cS (ak sh))),(4,(.ptr 2 0 0 0)),(6,(i6 mo)),(10,(i6 (n:Int)))],[(.var 24 [(dI .u8 sh),(LY b)]),(.var 33 [.nils,.nils]),(.var 33 [(.own 4),(.own 5)]),(.var 84 [(LY b),(i6 (p0:Int))]),(.arr 63 6 fS ac (tab (sg b (ak sh)) i)),(.arr 78 5 ga bK (tab (wq sh (ak sh)) n))]⟩) (fun (n:Nat)=>n≤ky sh) (fun (n:Nat)=>ky sh-n)
abbrev mj (sh:Int) (b:List Int) (i:Nat) (p0:Nat) (mo:Int) (n:Nat):Lp (Nat×Int×Int):=LQ [1,2,3,4,6,10,11,12] 8 (fun (k:Nat) (fr:Int) (to:Int)=>⟨[(1,(.ptr 0 0 0 0)),(2,(.ptr 1 0 0 0)),(3,(dL 2 rK cS (ak sh))),(4,(.ptr 2 0 0 0)),(6,(i6 mo)),(10,(i6 (n:Int))),(11,(.ptr 7 0 0 0)),(12,(i6 (k:Int)))],[(.var 24 [(dI .u8 sh),(LY b)]),(.var 33 [.nils,.nils]),(.var 33 [(.own 4),(.own 5)]),(.var 84 [(LY b),(i6 (p0:Int))]),(.arr 63 6 fS ac (tab (sg b (ak sh)) i)),(.arr 78 5 ga bK (tab (wq sh (ak sh)) n)),.dead,(.var 78 [(dS ([(bs [99,48]),(bs [99,49]),(bs [99,50]),(bs [99,51]),(bs [99,52])].getD n .empty)),(i6 2),(i6 0),(i6 fr),(i6 to)])]⟩) (fun (k:Nat) (fr:Int) (to:Int)=>k≤(ak sh).length∧fr=AB (ak sh) n k∧to=AA (ak sh) n k) (fun (k:Nat) (fr:Int) (to:Int)=>(ak sh).length-k)
theorem Lo (sh:Int) (b:List Int) (h0:0≤sh) (h1:sh≤255) (hb:qy b):CC (c9 sh b):=by
 have Xf:=BH sh
 have hnc:=I9 sh
 have hmi:=Fl sh
 refine ah.vc (V:=TT 4 (CC (QS sh)∧TT 11 (GO (u2 sh b) (0,0,0) (∀i p0 mo,(u2 sh b).inv (i,p0,mo)→TT 4 (CD ((i:Int)<(((ak sh).length:Nat):Int)) (TT 1 (ai [[(dS (bs [112]))],[(dS (bs [113]))],[(dS (bs [117]))],[(dS (bs [118]))]] ([(bs [112]),(bs [113]),(bs [117]),(bs [118])].map dc)∧TT 1 (IX (i:Int) ([(bs [112]),(bs [113]),(bs [117]),(bs [118])].length)∧TT 3 (IX (i:Int) ((ak sh).length)∧TT 1 (CC (QT b p0 ([(bs [112]),(bs [113]),(bs [117]),(bs [118])].getD i .empty) ((ak sh).getD i cS))∧TT 9 (ai [[(dS (((bz b p0 ([(bs [112]),(bs [113]),(bs [117]),(bs [118])].getD i .empty) ((ak sh).getD i cS)).1).name)),(dS (((bz b p0 ([(bs [112]),(bs [113]),(bs [117]),(bs [118])].getD i .empty) ((ak sh).getD i cS)).1).clock)),(dL 13 gM bH (((bz b p0 ([(bs [112]),(bs [113]),(bs [117]),(bs [118])].getD i .empty) ((ak sh).getD i cS)).1).Ry)),(dL 27 m3 aP (((bz b p0 ([(bs [112]),(bs [113]),(bs [117]),(bs [118])].getD i .empty) ((ak sh).getD i cS)).1).Rx)),(dL 9 ir aF (((bz b p0 ([(bs [112]),(bs [113]),(bs [117]),(bs [118])].getD i .empty) ((ak sh).getD i cS)).1).I)),(dL 16 gd aB (((bz b p0 ([(bs [112]),(bs [113]),(bs [117]),(bs [118])].getD i .empty) ((ak sh).getD i cS)).1).Rv))]] ([(bz b p0 ([(bs [112]),(bs [113]),(bs [117]),(bs [118])].getD i .empty) ((ak sh).getD i cS)).1].map fS)∧((tab (sg b (ak sh)) i).length+([(bz b p0 ([(bs [112]),(bs [113]),(bs [117]),(bs [118])].getD i .empty) ((ak sh).getD i cS)).1].map fS).length≤137438953472∧(tab (sg b (ak sh)) i).map fS++[(bz b p0 ([(bs [112]),(bs [113]),(bs [117]),(bs [118])].getD i .empty) ((ak sh).getD i cS)).1].map fS=(tab (sg b (ak sh)) (i+1)).map fS)∧TT 3 (GO (u3 sh b i p0 mo) 0 (∀j,(u3 sh b i p0 mo).inv j→TT 3 (IX (i:Int) ((ak sh).length)∧TT 4 (CD ((j:Int)<(((((ak sh).getD i cS).Rv).length:Nat):Int)) (TT 3 (IX (i:Int) ((ak sh).length)∧TT 3 (IX (j:Int) ((((ak sh).getD i cS).Rv).length)∧TT 4 (W6 ((j+1:Nat):Int)∧TT 1 (AG (u3 sh b i p0 mo) j (j+1)))))) (TT 1 (W6 ((i+1:Nat):Int)∧TT 1 (AG (u2 sh b) (i,p0,mo) (i+1,(bz b p0 ([(bs [112]),(bs [113]),(bs [117]),(bs [118])].getD i .empty) ((ak sh).getD i cS)).2,OX ((ak sh).getD i cS).Rv mo j)))))))))))))) (TT 1 (GO (pj sh b i p0 mo) 0 (∀n,(pj sh b i p0 mo).inv n→TT 3 (CD ((n:Int)≤mo) (ai [[(dS (bs [99,48]))],[(dS (bs [99,49]))],[(dS (bs [99,50]))],[(dS (bs [99,51]))],[(dS (bs [99,52]))]] ([(bs [99,48]),(bs [99,49]),(bs [99,50]),(bs [99,51]),(bs [99,52])].map dc)∧TT 1 (IX (n:Int) ([(bs [99,48]),(bs [99,49]),(bs [99,50]),(bs [99,51]),(bs [99,52])].length)∧TT 5 (GO (mj sh b i p0 mo n) (0,(-1),(-1)) (∀k fr to,(mj sh b i p0 mo n).inv (k,fr,to)→TT 4 (CD ((k:Int)<(((ak sh).length:Nat):Int)) (TT 2 (IX (k:Int) ((ak sh).length)∧TT 3 (CC (NI (((ak sh).getD k cS).I) (n:Int))∧CB (t6 (((ak sh).getD k cS).I) (n:Int)) (TT 5 (IX (k:Int) ((ak sh).length)∧TT 3 (CC (NI (((ak sh).getD k cS).Rv) (n:Int))∧CB (t6 (((ak sh).getD k cS).Rv) (n:Int)) (TT 4 (W6 ((k+1:Nat):Int)∧TT 1 (AG (mj sh b i p0 mo n) (k,fr,to) (k+1,(k:Int),(k:Int))))) (TT 1 (W6 ((k+1:Nat):Int)∧TT 1 (AG (mj sh b i p0 mo n) (k,fr,to) (k+1,fr,(k:Int)))))))) (TT 2 (IX (k:Int) ((ak sh).length)∧TT 3 (CC (NI (((ak sh).getD k cS).Rv) (n:Int))∧CB (t6 (((ak sh).getD k cS).Rv) (n:Int)) (TT 4 (W6 ((k+1:Nat):Int)∧TT 1 (AG (mj sh b i p0 mo n) (k,fr,to) (k+1,(k:Int),to)))) (TT 1 (W6 ((k+1:Nat):Int)∧TT 1 (AG (mj sh b i p0 mo n) (k,fr,to) (k+1,fr,to)))))))))) (CS (fr≥0) (TT 3 ((True∧(decide (fr≥0))=true)∧TT 4 (CD (to≥0) (TT 2 (((6:Int)≠0∧(IntKind.wrap .u8 (Int.tdiv sh 6))=(sh / 6))∧TT 1 ((True∧IntKind.u8.wrap (n:Int)=(n:Int))∧(True∧(IntKind.wrap .u8 ((sh / 6)+(n:Int)))=(sh / 6+(n:Int)))∧W6 (sh / 6+(n:Int))∧QM (sh / 6+(n:Int)) 3∧W6 (1+((sh / 6+(n:Int))%3))∧TT 5 (ai [[(dS ([(bs [99,48]),(bs [99,49]),(bs [99,50]),(bs [99,51]),(bs [99,52])].getD n .empty)),(i6 2),(i6 (1+((sh / 6+(n:Int))%3))),(i6 fr),(i6 to)]] ([(⟨([(bs [99,48]),(bs [99,49]),(bs [99,50]),(bs [99,51]),(bs [99,52])].getD n .empty),2,1+((sh / 6+(n:Int))%3),fr,to⟩:Ch)].map ga)∧((tab (wq sh (ak sh)) n).length+([(⟨([(bs [99,48]),(bs [99,49]),(bs [99,50]),(bs [99,51]),(bs [99,52])].getD n .empty),2,1+((sh / 6+(n:Int))%3),fr,to⟩:Ch)].map ga).length≤137438953472∧(tab (wq sh (ak sh)) n).map ga++[(⟨([(bs [99,48]),(bs [99,49]),(bs [99,50]),(bs [99,51]),(bs [99,52])].getD n .empty),2,1+((sh / 6+(n:Int))%3),fr,to⟩:Ch)].map ga=(tab (wq sh (ak sh)) (n+1)).map ga)∧TT 3 (W6 ((n+1:Nat):Int)∧TT 1 (AG (pj sh b i p0 mo) n (n+1))))))) (TT 3 (ai [[(dS ([(bs [99,48]),(bs [99,49]),(bs [99,50]),(bs [99,51]),(bs [99,52])].getD n .empty)),(i6 2),(i6 0),(i6 fr),(i6 to)]] ([(⟨([(bs [99,48]),(bs [99,49]),(bs [99,50]),(bs [99,51]),(bs [99,52])].getD n .empty),2,0,fr,to⟩:Ch)].map ga)∧((tab (wq sh (ak sh)) n).length+([(⟨([(bs [99,48]),(bs [99,49]),(bs [99,50]),(bs [99,51]),(bs [99,52])].getD n .empty),2,0,fr,to⟩:Ch)].map ga).length≤137438953472∧(tab (wq sh (ak sh)) n).map ga++[(⟨([(bs [99,48]),(bs [99,49]),(bs [99,50]),(bs [99,51]),(bs [99,52])].getD n .empty),2,0,fr,to⟩:Ch)].map ga=(tab (wq sh (ak sh)) (n+1)).map ga)∧TT 3 (W6 ((n+1:Nat):Int)∧TT 1 (AG (pj sh b i p0 mo) n (n+1)))))))) (TT 3 ((True∧(decide (fr≥0))=false)∧TT 7 (ai [[(dS ([(bs [99,48]),(bs [99,49]),(bs [99,50]),(bs [99,51]),(bs [99,52])].getD n .empty)),(i6 2),(i6 0),(i6 fr),(i6 to)]] ([(⟨([(bs [99,48]),(bs [99,49]),(bs [99,50]),(bs [99,51]),(bs [99,52])].getD n .empty),2,0,fr,to⟩:Ch)].map ga)∧((tab (wq sh (ak sh)) n).length+([(⟨([(bs [99,48]),(bs [99,49]),(bs [99,50]),(bs [99,51]),(bs [99,52])].getD n .empty),2,0,fr,to⟩:Ch)].map ga).length≤137438953472∧(tab (wq sh (ak sh)) n).map ga++[(⟨([(bs [99,48]),(bs [99,49]),(bs [99,50]),(bs [99,51]),(bs [99,52])].getD n .empty),2,0,fr,to⟩:Ch)].map ga=(tab (wq sh (ak sh)) (n+1)).map ga)∧TT 3 (W6 ((n+1:Nat):Int)∧TT 1 (AG (pj sh b i p0 mo) n (n+1)))))))))))) (TT 3 ((tab (sg b (ak sh)) i).map fS=((a9 sh b).U).map fS∧(tab (wq sh (ak sh)) n).map ga=((a9 sh b).J).map ga∧True))))))))))) (.w 1 [(2,(QS sh).O)]<|.g 5 2 0 63 6 fS ac<|.l (u2 sh b) (0,0,0) (fun ⟨i,p0,mo⟩=>.b 23 (.w 8 [(1,.box 9 1 dc .empty [(bs [112]),(bs [113]),(bs [117]),(bs [118])]),(9,(QT b p0 ([(bs [112]),(bs [113]),(bs [117]),(bs [118])].getD i .empty) ((ak sh).getD i cS)).O)]<|.w 10 [(4,.box 63 6 fS ac [(bz b p0 ([(bs [112]),(bs [113]),(bs [117]),(bs [118])].getD i .empty) ((ak sh).getD i cS)).1]),(5,.box 63 6 fS ac (tab (sg b (ak sh)) (i+1)))]<|.l (u3 sh b i p0 mo) 0 (fun j=>.b 52 (.w 13 [(1,.val (i6 ((j+1:Nat):Int)))]<|.e) (.w 7 [(1,.val (i6 ((i+1:Nat):Int)))]<|.e))) (.g 15 2 1 78 5 ga bK<|.l (pj sh b i p0 mo) 0 (fun n=>.b 67 (.w 18 [(0,.frz 9 1 dc .empty [(bs [99,48]),(bs [99,49]),(bs [99,50]),(bs [99,51]),(bs [99,52])])]<|.l (mj sh b i p0 mo n) (0,(-1),(-1)) (fun ⟨k,fr,to⟩=>.b 78 (.w 22 [(6,(NI (((ak sh).getD k cS).I) (n:Int)).O)]<|.b 87 (.w 24 [(6,(NI (((ak sh).getD k cS).Rv) (n:Int)).O)]<|.b 96 (.w 21 [(1,.val (i6 ((k+1:Nat):Int)))]<|.e) (.w 21 [(1,.val (i6 ((k+1:Nat):Int)))]<|.e)) (.w 24 [(6,(NI (((ak sh).getD k cS).Rv) (n:Int)).O)]<|.b 96 (.w 21 [(1,.val (i6 ((k+1:Nat):Int)))]<|.e) (.w 21 [(1,.val (i6 ((k+1:Nat):Int)))]<|.e))) (.s 26 (fr≥0) (.w 26 [(3,.val (dB true))]<|.b 106 (.w 27 [(2,.val (dI .u8 (sh / 6))),(4,.val (dI .u8 (n:Int))),(5,.val (dI .u8 (sh / 6+(n:Int)))),(6,.val (i6 (sh / 6+(n:Int)))),(7,.val (i6 ((sh / 6+(n:Int))%3))),(8,.val (i6 (1+((sh / 6+(n:Int))%3))))]<|.w 28 [(3,.box 78 5 ga bK [(⟨([(bs [99,48]),(bs [99,49]),(bs [99,50]),(bs [99,51]),(bs [99,52])].getD n .empty),2,1+((sh / 6+(n:Int))%3),fr,to⟩:Ch)]),(4,.box 78 5 ga bK (tab (wq sh (ak sh)) (n+1)))]<|.w 17 [(1,.val (i6 ((n+1:Nat):Int)))]<|.e) (.w 28 [(3,.box 78 5 ga bK [(⟨([(bs [99,48]),(bs [99,49]),(bs [99,50]),(bs [99,51]),(bs [99,52])].getD n .empty),2,0,fr,to⟩:Ch)]),(4,.box 78 5 ga bK (tab (wq sh (ak sh)) (n+1)))]<|.w 17 [(1,.val (i6 ((n+1:Nat):Int)))]<|.e)) (.w 26 [(3,.val (dB false))]<|.w 28 [(3,.box 78 5 ga bK [(⟨([(bs [99,48]),(bs [99,49]),(bs [99,50]),(bs [99,51]),(bs [99,52])].getD n .empty),2,0,fr,to⟩:Ch)]),(4,.box 78 5 ga bK (tab (wq sh (ak sh)) (n+1)))]<|.w 17 [(1,.val (i6 ((n+1:Nat):Int)))]<|.e)))) (.e))))) Tryz.func9 rfl rfl rfl (by kernel_rfl) ?_
 refine tt ⟨(Ln sh om om),tt ⟨rfl,⟨by omega,rfl,rfl⟩,?_⟩⟩
 intro i p0 mo I'
 obtain⟨hi,Ze,hmo⟩:=I'
 have hpi:=Fm hb sh i
 have hen:=oU sh i
 refine tt (cd (fun WT=>?_) (fun WT=>?_))
 · refine tt ⟨⟨⟨rfl,oK⟩,⟨rfl,oK⟩,⟨rfl,oK⟩,⟨rfl,oK⟩,oK⟩,tt ⟨ix,tt ⟨ix,tt ⟨(DR b p0 ([(bs [112]),(bs [113]),(bs [117]),(bs [118])].getD i .empty) ((ak sh).getD i cS) hb om om om),tt ⟨⟨⟨rfl,rfl,rfl,rfl,rfl,rfl,oK⟩,oK⟩,⟨(a6 (by omega) (by rw[Ze];rfl)),tt ⟨rfl,(by omega),?_⟩⟩⟩⟩⟩⟩⟩
   intro j I'
   have hj:=I'
   refine tt ⟨ix,tt (cd (fun hc52=>?_) (fun hc52=>?_))⟩
   · refine tt ⟨ix,tt ⟨ix,tt ⟨w6,tt ⟨(j+1),rfl,(?_:(j+1)≤((ak sh).getD i cS).Rv.length),(?_:((ak sh).getD i cS).Rv.length-(j+1)<((ak sh).getD i cS).Rv.length-j)⟩⟩⟩⟩
     · omega
     · omega
   · refine tt ⟨w6,tt ⟨(i+1,(bz b p0 ([(bs [112]),(bs [113]),(bs [117]),(bs [118])].getD i .empty) ((ak sh).getD i cS)).2,OX ((ak sh).getD i cS).Rv mo j),rfl,?_,(?_:(ak sh).length-(i+1)<(ak sh).length-i)⟩⟩
     · exact⟨by omega,by rw[Ze];rfl,by rw[hmo,show j=((ak sh).getD i cS).Rv.length by omega];rfl⟩
     · omega
 · have Vp:i=(ak sh).length:=by omega
   have X6:mo=rL (ak sh) (ak sh).length:=by rw[hmo,Vp]
   refine tt ⟨rfl,(by omega),?_⟩
   intro n I'
   have hn:=I'
   refine tt (cd (fun Zf=>?_) (fun Zf=>?_))
   · refine⟨⟨⟨rfl,oK⟩,⟨rfl,oK⟩,⟨rfl,oK⟩,⟨rfl,oK⟩,⟨rfl,oK⟩,oK⟩,tt ⟨ix,tt ⟨rfl,⟨by omega,rfl,rfl⟩,?_⟩⟩⟩
     intro k fr to I'
     obtain⟨hk,VW,Ym⟩:=I'
     have hen:=oU sh k
     refine tt (cd (fun XW=>?_) (fun XW=>?_))
     · refine tt ⟨ix,tt ⟨(DQ (((ak sh).getD k cS).I) (n:Int) om),⟨fun VV=>?_,fun VV=>?_⟩⟩⟩
       · refine tt ⟨ix,tt ⟨(DQ (((ak sh).getD k cS).Rv) (n:Int) om),⟨fun XY=>?_,fun XY=>?_⟩⟩⟩
         · refine tt ⟨w6,tt ⟨(k+1,(k:Int),(k:Int)),rfl,?_,(?_:(ak sh).length-(k+1)<(ak sh).length-k)⟩⟩
           · exact⟨by omega,by rw[AB];rw[RH XY],by rw[AA];rw[RH VV]⟩
           · omega
         · refine tt ⟨w6,tt ⟨(k+1,fr,(k:Int)),rfl,?_,(?_:(ak sh).length-(k+1)<(ak sh).length-k)⟩⟩
           · exact⟨by omega,by rw[AB];rw[RE (by rw[XY];simp)];exact VW,by rw[AA];rw[RH VV]⟩
           · omega
       · refine tt ⟨ix,tt ⟨(DQ (((ak sh).getD k cS).Rv) (n:Int) om),⟨fun XY=>?_,fun XY=>?_⟩⟩⟩
         · refine tt ⟨w6,tt ⟨(k+1,(k:Int),to),rfl,?_,(?_:(ak sh).length-(k+1)<(ak sh).length-k)⟩⟩
           · exact⟨by omega,by rw[AB];rw[RH XY],by rw[AA];rw[RE (by rw[VV];simp)];exact Ym⟩
           · omega
         · refine tt ⟨w6,tt ⟨(k+1,fr,to),rfl,?_,(?_:(ak sh).length-(k+1)<(ak sh).length-k)⟩⟩
           · exact⟨by omega,by rw[AB];rw[RE (by rw[XY];simp)];exact VW,by rw[AA];rw[RE (by rw[VV];simp)];exact Ym⟩
           · omega
     · have Wd:k=(ak sh).length:=by omega
       have hfi:=Dw (ak sh) n k
       have hti:=Ja (ak sh) n k
       refine⟨fun T7=>?_,fun T7=>?_⟩
       · refine tt ⟨(vT T7),tt (cd (fun hc106=>?_) (fun hc106=>?_))⟩
         · refine tt ⟨⟨om,(Qx h0 h1)⟩,tt ⟨⟨oK,Q5 rfl om om⟩,⟨⟨oK,(L1 (by omega) (by omega))⟩,⟨w6,⟨qm,⟨w6,tt ⟨⟨⟨rfl,rfl,rfl,rfl,rfl,oK⟩,oK⟩,⟨(a6 (by omega) (by first | exact Jc (by rw[← Wd,← VW];omega) (by rw[← Wd,← Ym];omega) (by rw[← Wd];exact VW) (by rw[← Wd];exact Ym) | exact Jd (by rw[← Wd,← VW,← Ym];omega) (by rw[← Wd];exact VW) (by rw[← Wd];exact Ym))),tt ⟨w6,tt ⟨(n+1),rfl,(?_:(n+1)≤ky sh),(?_:ky sh-(n+1)<ky sh-n)⟩⟩⟩⟩⟩⟩⟩⟩⟩⟩
           · omega
           · omega
         · refine tt ⟨⟨⟨rfl,rfl,rfl,rfl,rfl,oK⟩,oK⟩,⟨(a6 (by omega) (by first | exact Jc (by rw[← Wd,← VW];omega) (by rw[← Wd,← Ym];omega) (by rw[← Wd];exact VW) (by rw[← Wd];exact Ym) | exact Jd (by rw[← Wd,← VW,← Ym];omega) (by rw[← Wd];exact VW) (by rw[← Wd];exact Ym))),tt ⟨w6,tt ⟨(n+1),rfl,(?_:(n+1)≤ky sh),(?_:ky sh-(n+1)<ky sh-n)⟩⟩⟩⟩
           · omega
           · omega
       · refine tt ⟨(vF T7),tt ⟨⟨⟨rfl,rfl,rfl,rfl,rfl,oK⟩,oK⟩,⟨(a6 (by omega) (by first | exact Jc (by rw[← Wd,← VW];omega) (by rw[← Wd,← Ym];omega) (by rw[← Wd];exact VW) (by rw[← Wd];exact Ym) | exact Jd (by rw[← Wd,← VW,← Ym];omega) (by rw[← Wd];exact VW) (by rw[← Wd];exact Ym))),tt ⟨w6,tt ⟨(n+1),rfl,(?_:(n+1)≤ky sh),(?_:ky sh-(n+1)<ky sh-n)⟩⟩⟩⟩⟩
         · omega
         · omega
   · refine tt ⟨(congrArg _ (?_:(tab (sg b (ak sh)) i)=((a9 sh b).U))),(congrArg _ (?_:(tab (wq sh (ak sh)) n)=((a9 sh b).J))),oK⟩
     · rw[Vp];rfl
     · rw[show n=ky sh by omega];rfl
abbrev Aw (k:IntKind) (x:Int):Prop:=(Lit.int k x).wf=true
def se {α:Type} (enc:α→Value) (S:Nat→Prop) (w:World) (v:Value) (l:List α):Prop :=
 ∃(p:Option Addr) (c:Nat),v=.slice p l.length c∧l.length≤c∧c≤maxLen∧(p=none→c=0) ∧
  (0<l.length→∃b M',p=some ⟨b,M',none⟩∧S b∧b<w.heap.size∧∀(i:Nat) (x:α),l[i]?=some x→w.cell? ⟨b,M'+i,none⟩=some (enc x))
theorem se.stable {α:Type} (enc:α→Value) (l:List α):ge (fun S v w=>se enc S w v l):=by
 rintro S S' v w w' ⟨p,c,rfl,h1,h2,h3,h4⟩ hS hw Ul
 refine⟨p,c,rfl,h1,h2,h3,fun h0=>?_⟩
 obtain⟨b,M',rfl,q1,q2,q3⟩:=h4 h0
 refine⟨b,M',rfl,hS b q1 q2,by omega,fun i x hx=>?_⟩
 rw[← q3 i x hx]
 exact Tw (hw b q1 q2)
theorem se.mono {α:Type} {enc:α→Value} {l:List α} {S S':Nat→Prop} {w w':World} {v:Value} (h:se enc S w v l) (hS:∀b,S b→b<w.heap.size→S' b)
  (hb:Below w.heap.size w w'):se enc S' w' v l:=se.stable enc l S S' v w w' h hS (fun b _ UN=>hb.block b UN) hb.size
theorem se.hi {α:Type} {enc:α→Value} {l:List α} {S:Nat→Prop} {w:World} {p:Option Addr} {n c:Nat} (h:se enc S w (.slice p n c) l) (k:Nat) (hk:k≤n) :
  se enc S w (.slice p k c) (l.take k):=by
 obtain⟨p',c',he,h1,h2,h3,h4⟩:=h
 simp only[Value.slice.injEq]at he
 obtain⟨rfl,rfl,rfl⟩:=he
 have hl:(l.take k).length=k:=by simp;omega
 refine⟨p,c,by rw[hl],by omega,h2,h3,fun h0=>?_⟩
 obtain⟨b,M',rfl,q1,q2,q3⟩:=h4 (by omega)
 refine⟨b,M',rfl,q1,q2,fun i x hx=>q3 i x ?_⟩
 rw[R8]at hx
 split at hx
 ·exact hx
 ·cases hx
open Go.ChangeShapes Go.WideShapes Go.ChangeAt Go.RowKit
set_option linter.unusedVariables false
set_option linter.unusedSimpArgs false
section
variable {H:Type} {enc:TypeId×Value→H} {P:Program} {W:World}
theorem yz {α:Type} {S:Nat→Prop} {t e:TypeId} {Up:α→List V} {d0:α} {Z7:α→Prop} {fuel:Nat} {cs:List Value} {x:DataW H×List MemPlace} (ht:P.underlying t=some (.slice e)) (hc:P.cellsOf e=1) (hS:∀b,b<W.heap.size→S b)
  (he:∀fuel cs y,DataW.trod enc P W 0 (fun _=>true) true fuel e cs=some y→∃v a y0,cs=[v]∧Z7 a∧Up a=[y0]∧dM S W y0 v) (h:DataW.trod enc P W 0 (fun _=>true) true fuel t cs=some x) :
  ∃v l,cs=[v]∧(∀a∈l,Z7 a)∧l.length≤maxLen∧dM S W (.sl 1 Up d0 l) v:=by
 rcases DataW.trod_slice ht h with ⟨rfl,_⟩ | ⟨a,len,cap,elems,rest,n,_,rfl,rfl,_,hl,hm,Ud,YC,_,_⟩
 ·exact⟨_,[],rfl,fun a ha=>by simp at ha,by simp,.nil _ _ _ _ _ (by omega) (fun _=>rfl)⟩
 by_cases h0:len=0
 ·subst h0
  exact⟨_,[],rfl,fun a ha=>by simp at ha,by simp,.nil _ _ _ _ _ hm (fun h=>by cases h)⟩
 have each:∀i,∃a':α,i<len→∃v y0,W.cell? (a.add i)=some v∧Z7 a'∧Up a'=[y0]∧dM S W y0 v:=by
  intro i
  by_cases hi:i<len
  ·have h1:=YC i hi
   rw[RB (by omega),hc,Nat.mul_one,Option.bind_eq_some_iff]at h1
   obtain⟨YH,hcs,hy⟩:=h1
   obtain⟨v,a',y0,rfl,g1,g2,g3⟩:=he _ _ _ hy
   exact⟨a',fun _=>⟨v,y0,cell_of_cells?_one hcs,g1,g2,g3⟩⟩
  ·exact⟨d0,fun h=>(hi h).elim⟩
 obtain⟨f,hf⟩:=Classical.axiomOfChoice each
 obtain⟨b,M',spot⟩:=a
 obtain⟨v0,_,h00,_⟩:=hf 0 (by omega)
 have hspot:spot=none:=by simpa[Addr.add]using World.cell?_spot h00
 subst hspot
 have ZY:∀i,(⟨b,M',none⟩:Addr).add i=⟨b,M'+i,none⟩:=fun i=>by unfold Addr.add;split<;>simp_all
 have hb:b<W.heap.size:=by
  have:=h00
  unfold World.cell? at this
  simp only[Addr.add,Tj]at this
  split at this
  ·rename_i hb
   exact(RU.1 hb).1
  ·cases this
 have UK:∀(i:Nat) (x:α),((List.range len).map f)[i]?=some x→i<len∧x=f i:=by
  intro i x hx
  simp only[R3,Option.map_eq_some_iff]at hx
  obtain⟨j,hj,rfl⟩:=hx
  obtain⟨h1,h2⟩:=Rz.1 hj
  simp at h1 h2
  exact⟨h1,by rw[h2]⟩
 refine⟨_,(List.range len).map f,rfl,?_,by simp;omega,.row 1 Up d0 _ b M' cap len (fun i _=>(W.cell? ⟨b,M'+i,none⟩).getD undef) (hS b hb) hb (by simp) hl hm ?_ ?_ ?_⟩
 ·intro a' ha
  obtain⟨i,hi⟩:=List.getElem?_of_mem ha
  obtain⟨h1,rfl⟩:=UK i a' hi
  obtain⟨_,_,_,g,_⟩:=hf i h1
  exact g
 ·intro i x hx
  obtain⟨h1,rfl⟩:=UK i x hx
  obtain⟨_,_,_,_,g,_⟩:=hf i h1
  rw[g];rfl
 ·intro i x j y hx hy
  obtain⟨h1,rfl⟩:=UK i x hx
  obtain⟨v,y0,g0,_,g,g2⟩:=hf i h1
  rw[g]at hy
  have hj:j=0:=by
   cases j with
   | zero=>rfl
   | succ j=>simp at hy
  subst hj
  rw[ZY]at g0
  rw[Nat.mul_one,SY,g0]
  rfl
 ·intro i x j y hx hy
  obtain⟨h1,rfl⟩:=UK i x hx
  obtain⟨v,y0,g0,_,g,g2⟩:=hf i h1
  rw[g]at hy
  have hj:j=0:=by
   cases j with
   | zero=>rfl
   | succ j=>simp at hy
  subst hj
  simp only[TG,RM]at hy
  subst hy
  rw[ZY]at g0
  simp only[g0,Option.getD_some]
  exact g2
theorem n9 {S:Nat→Prop} {t e:TypeId} {k:IntKind} {fuel:Nat} {cs:List Value} {x:DataW H×List MemPlace} (ht:P.underlying t=some (.slice e)) (he:P.underlying e=some (.int k)) (hc:P.cellsOf e=1) (hS:∀b,b<W.heap.size→S b)
  (h:DataW.trod enc P W 0 (fun _=>true) true fuel t cs=some x):∃v l,cs=[v]∧(∀n∈l,Aw k n)∧l.length≤maxLen∧dM S W (.sl 1 (ab k) 0 l) v :=
 yz ht hc hS (fun fuel cs y hy=>by
  obtain⟨n,e1,_,e3⟩:=DataW.trod_int he hy
  exact⟨_,n,_,e1,e3,rfl,.int _ _⟩) h
theorem tj {S:Nat→Prop} {r:Reach} {base:Nat} {t e:TypeId} {k:IntKind} {v:Value} {d:DataW H} {p:List MemPlace} (ht:P.underlying t=some (.slice e)) (he:P.underlying e=some (.int k)) (hc:P.cellsOf e=1) (hS:∀b,b<W.heap.size→S b)
  (hv:Value.okWide P W r base t v) (h:DataW.Trod enc P W 0 (fun _=>true) true t v d p):∃l,(∀n∈l,Aw k n)∧l.length≤maxLen∧dM S W (.sl 1 (ab k) 0 l) v:=by
 obtain⟨a0,len,cap,rfl⟩:=okWide_slice ht hv
 obtain⟨fuel,hf⟩:=h
 obtain⟨v,l,e1,h1,h2,h3⟩:=n9 ht he hc hS hf
 simp only[Value.cells,SN,T3]at e1
 subst e1
 exact⟨l,h1,h2,h3⟩
theorem DU {f:FuncId} {ys:List D} {al b:Bool} (h:ah P f ys [] al (dB b) []) (us:Array Value) (W:World) (hr:aM (fun b=>b<W.heap.size) (fun _=>undef) W ys us) (hg:gf (fun b=>b<W.heap.size) W:=by exact FW rfl) :
  Calls P f us W (fun e W'=>e=.returned (.bool b)∧Below W.heap.size W W'):=by
 refine(h (fun b=>b<W.heap.size) (fun _=>undef) W us (fun _ h=>h) hg ⟨fun id B hB=>by simp at hB,fun i j A B b hA=>by simp at hA,fun i A b hA=>by simp at hA⟩ hr).mono ?_
 rintro e w' ⟨u,μ',S',rfl,h1,h2,h3,h4,h5,_,_,_,h9,_⟩
 refine⟨?_,⟨h1,h2,h3,h4,fun k hk=>h5 k hk (fun i A hA=>by simp at hA)⟩⟩
 rw[fK h9]
theorem wR {x:Int} (h:Aw .u8 x):0≤x∧x<256:=by
 have h1:IntKind.u8.min≤x∧x≤IntKind.u8.max:=by simpa[Aw,Lit.wf]using h
 have h2:IntKind.u8.min=0:=rfl
 have h3:IntKind.u8.max=255:=rfl
 omega
theorem Co {t:TypeId} {fs:Array Field} {fuel:Nat} {cs:List Value} {x:DataW H×List MemPlace} (ht:P.underlying t=some (.struct fs)) (h:DataW.trod enc P W 0 (fun _=>true) true fuel t cs=some x) :
  ∃n,∀(i:Nat) (f:Field),fs[i]?=some f→∃y,DataW.trod enc P W 0 (fun _=>true) true n f.type ((cs.drop f.offset).take (P.cellsOf f.type))=some y:=by
 obtain⟨xs,n,_,_,_,Ud,hf⟩:=DataW.trod_struct ht h
 refine⟨n,fun i f hi=>?_⟩
 have h1:=hf i f hi
 have h2:=(RU.1 hi).1
 rw[RB (by omega)]at h1
 exact⟨_,h1⟩
theorem pT {r:Reach} {base:Nat} {t:TypeId} {fs:Array Field} {v:Value} {m:Nat} (ht:P.underlying t=some (.struct fs)) (hm:P.cellsOf t=m) (hv:Value.okWide P W r base t v):∃cs:List Value,v=.agg cs.toArray∧cs.length=m:=by
 unfold Value.okWide at hv
 rw[ht]at hv
 obtain⟨cs,rfl,hs,_⟩:=hv
 exact⟨cs.toList,by simp,by simp[hs,hm]⟩
def Ax (S:Nat→Prop) (μ:Nat→Value) (w:World):List D→List Value→Prop
 | [],[]=>True
 | d::ds,u::us=>an S μ w d u∧Ax S μ w ds us
 | _,_=>False
theorem Ax.at {S:Nat→Prop} {μ:Nat→Value} {w:World}:∀{ds:List D} {us:List Value},Ax S μ w ds us→us.length=ds.length∧∀(j:Nat) (y:D) (u:Value),ds[j]?=some y→us[j]?=some u→an S μ w y u
 | [],[],_=>⟨rfl,fun j y u hy=>by simp at hy⟩
 | d::ds,u::us,h=>by
  obtain⟨h1,h2⟩:=h.2.at
  refine⟨by simp[h1],fun j y z hy hz=>?_⟩
  match j with
  | 0=>simp at hy hz;subst hy hz;exact h.1
  | j+1=>exact h2 j y z (by simpa using hy) (by simpa using hz)
 | [],_::_,h=>h.elim
 | _::_,[],h=>h.elim
theorem FS {S:Nat→Prop} {μ:Nat→Value} {w:World} {ds:List D} {us:List Value} (h:Ax S μ w ds us):an S μ w (.agg ds) (.agg us.toArray) :=
 .agg _ _ (by simpa using h.at.1) (fun j y u hy hu=>h.at.2 j y u hy (by simpa using hu))
theorem NT {S:Nat→Prop} {μ:Nat→Value} {w:World} {x y q:D} {u v t:Value} (h:an S μ w x u) (k:an S μ w y v) (m:an S μ w q t):aM S μ w [x,y,q] #[u,v,t]:=⟨rfl,fun j y z hy hz=>by
 match j with
 | 0=>simp at hy hz;subst hy hz;exact h
 | 1=>simp at hy hz;subst hy hz;exact k
 | 2=>simp at hy hz;subst hy hz;exact m
 | j+3=>simp at hy⟩
end
open Go.ChangeShapes Go.WideShapes Go.ChangeAt Go.RowKit
section
variable {H:Type} {enc:TypeId×Value→H} {P:Program} {W:World}
theorem Pv {α:Type} (l:List α) (h:l.length=2):∃a b,l=[a,b]:=by
 match l,h with
 | [a,b],_=>exact⟨a,b,rfl⟩
end
theorem Pw {α:Type} (l:List α) (h:l.length=4):∃a b c d,l=[a,b,c,d]:=by
 match l,h with
 | [a,b,c,d],_=>exact⟨a,b,c,d,rfl⟩
theorem JY {l:List Int} (h:∀n∈l,Aw .u8 n):qy l:=fun x hx=>by
 have:=wR (h x hx);omega
theorem Mg {x:Int} (h:Aw .u8 x):0≤x∧x≤255:=by have:=wR h;omega
theorem PE {n:Nat} (h:n≤maxLen):n≤9223372036854775807:=by unfold maxLen at h;omega
theorem Ay {k:IntKind} {l:List (List Int)} (h:∀a∈l,a.length≤maxLen∧∀n∈a,Aw k n) (i:Nat):(l.getD i []).length≤9223372036854775807:=by
 by_cases hi:i<l.length
 ·have:=h _ (show l.getD i []∈l by rw[Sk,RB hi];exact Tp hi)
  exact PE this.1
 ·rw[Sk,Sm (by omega)];simp
section
variable {H:Type} {enc:TypeId×Value→H} {P:Program} {W:World}
theorem oc {S:Nat→Prop} {t e n:TypeId} {k:IntKind} {fuel:Nat} {cs:List Value} {x:DataW H×List MemPlace} (ht:P.underlying t=some (.slice e)) (he:P.underlying e=some (.slice n)) (hn:P.underlying n=some (.int k)) (hc:P.cellsOf e=1) (WM:P.cellsOf n=1) (hS:∀b,b<W.heap.size→S b)
  (h:DataW.trod enc P W 0 (fun _=>true) true fuel t cs=some x):∃v,∃l:List (List Int),cs=[v]∧(∀a∈l,a.length≤maxLen∧∀n∈a,Aw k n)∧l.length≤maxLen∧dM S W (.sl 1 (fun a=>[.sl 1 (ab k) 0 a]) [] l) v :=
 yz (Z7:=fun a=>a.length≤maxLen∧∀n∈a,Aw k n) (Up:=fun a=>[.sl 1 (ab k) 0 a]) (d0:=[]) ht hc hS (fun fuel cs y hy=>by
  obtain⟨v,l,e1,g1,g2,g3⟩:=n9 he hn WM hS hy
  exact⟨v,l,_,e1,⟨g2,g1⟩,rfl,g3⟩) h
end
abbrev Jq (c:Ci) (n:Nat):D:=(.fn (.func 96) [] [(.iptr [(.sl 6 fS ac c.U),(.sl 5 ga bK c.J)] 0),(.iptr [(.int .i64 (n:Int))] 0)])
set_option maxRecDepth 100000
abbrev O2 (a b:List Int):Ct:=⟨49,[(LI a),(LI b)],false,(i6 (((dA a b):Nat):Int))⟩
abbrev uR (a:List Int) (b:List Int):Lp (Nat):=io [0,1,5] 0 (fun (n:Nat)=>⟨[(0,(LI a)),(1,(LI b)),(5,(i6 (n:Int)))],[]⟩) (fun (n:Nat)=>n≤a.length∧n≤b.length∧∀j,j<n→a.getD j 0=b.getD j 0) (fun (n:Nat)=>a.length-n)
theorem Fq (a b:List Int) (ha:a.length≤9223372036854775807):CC (O2 a b):=by
 refine ah.vc (V:=TT 2 (GO (uR a b) 0 (∀n,(uR a b).inv n→CS ((n:Int)<(((min a.length b.length):Nat):Int)) (TT 5 ((True∧(tY (a.length:Int) (b.length:Int))=(((min a.length b.length):Nat):Int))∧TT 1 ((True∧(decide ((n:Int)<(((min a.length b.length):Nat):Int)))=true)∧TT 2 (IX (n:Int) a.length∧TT 3 (IX (n:Int) b.length∧TT 3 (CD ((a.getD n 0)=(b.getD n 0)) (TT 1 (W6 ((n+1:Nat):Int)∧TT 1 (AG (uR a b) n (n+1)))) (TT 3 ((n:Int)=(((dA a b):Nat):Int)∧True)))))))) (TT 5 ((True∧(tY (a.length:Int) (b.length:Int))=(((min a.length b.length):Nat):Int))∧TT 1 ((True∧(decide ((n:Int)<(((min a.length b.length):Nat):Int)))=false)∧TT 4 ((n:Int)=(((dA a b):Nat):Int)∧True))))))) (.l (uR a b) 0 (fun n=>.s 2 ((n:Int)<(((min a.length b.length):Nat):Int)) (.w 2 [(5,.val (i6 (((min a.length b.length):Nat):Int))),(7,.val (dB true))]<|.b 23 (.w 3 [(1,.val (i6 ((n+1:Nat):Int)))]<|.e) (.e)) (.w 2 [(5,.val (i6 (((min a.length b.length):Nat):Int))),(7,.val (dB false))]<|.e))) Tryz.func49 rfl rfl rfl (by kernel_rfl) ?_
 refine tt ⟨rfl,⟨by omega,by omega,fun j hj=>by omega⟩,?_⟩
 intro n I'
 obtain⟨hn1,hn2,hn3⟩:=I'
 refine⟨fun T7=>?_,fun T7=>?_⟩
 · refine tt ⟨⟨oK,(by unfold tY;split<;>omega)⟩,tt ⟨(vT T7),tt ⟨ix,tt ⟨ix,tt (cd (fun WT=>?_) (fun WT=>?_))⟩⟩⟩⟩
   · refine tt ⟨w6,tt ⟨(n+1),rfl,?_,(?_:a.length-(n+1)<a.length-n)⟩⟩
     · exact⟨by omega,by omega,di hn3 WT⟩
     · omega
   · refine tt ⟨?_,oK⟩
     first | exact congrArg _ (lK hn1 hn2 hn3 (by omega)).symm | exact congrArg _ (lK hn1 hn2 hn3 (fun q=>WT q.2.2)).symm
 · refine tt ⟨⟨oK,(by unfold tY;split<;>omega)⟩,tt ⟨(vF T7),tt ⟨?_,oK⟩⟩⟩
   first | exact congrArg _ (lK hn1 hn2 hn3 (by omega)).symm | exact congrArg _ (lK hn1 hn2 hn3 (fun q=>WT q.2.2)).symm
abbrev K4 (a b:List (List Int)):Ct:=⟨17,[(dL 1 aa [] a),(dL 1 aa [] b)],false,(dB (e9 a b))⟩
abbrev uS (a:List (List Int)) (b:List (List Int)):Lp (Nat):=io [0,1,12,13] 0 (fun (i:Nat)=>⟨[(0,(dL 1 aa [] a)),(1,(dL 1 aa [] b)),(12,(i6 (a.length:Int))),(13,(i6 (i:Int)))],[]⟩) (fun (i:Nat)=>i≤a.length∧∀q,q<i→(!decide (dA (a.getD q []) (b.getD q [])<(a.getD q []).length))=true) (fun (i:Nat)=>a.length-i)
theorem uT (a b:List (List Int)) (ha:a.length≤9223372036854775807) (YE:∀i,(a.getD i []).length≤9223372036854775807):CC (K4 a b):=by
 refine ah.vc (V:=TT 6 (CN ((a.length:Int)=(b.length:Int)) (TT 2 (false=(e9 a b)∧True)) (TT 3 (GO (uS a b) 0 (∀i,(uS a b).inv i→TT 1 (CD ((i:Int)<(a.length:Int)) (TT 4 (IX (i:Int) a.length∧TT 3 (IX (i:Int) b.length∧TT 1 (CC (O2 (a.getD i []) (b.getD i []))∧TT 2 (IX (i:Int) a.length∧TT 3 (CD ((((dA (a.getD i []) (b.getD i [])):Nat):Int)<(((a.getD i []).length:Nat):Int)) (TT 2 (false=(e9 a b)∧True)) (W6 ((i+1:Nat):Int)∧TT 1 (AG (uS a b) i (i+1))))))))) (TT 2 (true=(e9 a b)∧True)))))))) (.b 10 (.e) (.l (uS a b) 0 (fun i=>.b 14 (.w 6 [(8,(O2 (a.getD i []) (b.getD i [])).O)]<|.b 30 (.e) (.w 8 [(0,.val (i6 ((i+1:Nat):Int)))]<|.e)) (.e)))) Tryz.func17 rfl rfl rfl (by kernel_rfl) ?_
 refine tt (cn (fun X1=>?_) (fun X1=>?_))
 · refine tt ⟨?_,oK⟩
   first | exact(oW (by omega)).symm | exact(oX (i:=i) (by omega) (by omega)).symm | exact(oY (by omega) (fun q hq=>h3 q (by omega))).symm
 · refine tt ⟨rfl,⟨by omega,fun q hq=>by omega⟩,?_⟩
   intro i I'
   obtain⟨hi,h3⟩:=I'
   refine tt (cd (fun VT=>?_) (fun VT=>?_))
   · refine tt ⟨ix,tt ⟨ix,tt ⟨(Fq (a.getD i []) (b.getD i []) (YE i)),tt ⟨ix,tt (cd (fun Z9=>?_) (fun Z9=>?_))⟩⟩⟩⟩
     · refine tt ⟨?_,oK⟩
       first | exact(oW (by omega)).symm | exact(oX (i:=i) (by omega) (by omega)).symm | exact(oY (by omega) (fun q hq=>h3 q (by omega))).symm
     · refine⟨w6,tt ⟨(i+1),rfl,?_,(?_:a.length-(i+1)<a.length-i)⟩⟩
       · exact⟨by omega,di h3 (by rw[R6 (by omega)];rfl)⟩
       · omega
   · refine tt ⟨?_,oK⟩
     first | exact(oW (by omega)).symm | exact(oX (i:=i) (by omega) (by omega)).symm | exact(oY (by omega) (fun q hq=>h3 q (by omega))).symm
abbrev Qy (a b:List (List Int)):Ct:=⟨51,[(dL 1 aa [] a),(dL 1 aa [] b)],false,(.tup [(i6 ((cx a b).1)),(i6 ((cx a b).2.1)),(dB ((cx a b).2.2))])⟩
abbrev rQ (a:List (List Int)) (b:List (List Int)):Lp (Nat):=io [0,1,13,14] 0 (fun (i:Nat)=>⟨[(0,(dL 1 aa [] a)),(1,(dL 1 aa [] b)),(13,(i6 (((min a.length b.length):Nat):Int))),(14,(i6 (i:Int)))],[]⟩) (fun (i:Nat)=>i≤min a.length b.length∧rN a b (min a.length b.length-i) i=cx a b) (fun (i:Nat)=>min a.length b.length-i)
theorem Jr (a b:List (List Int)) (ha:a.length≤9223372036854775807) (YE:∀i,(a.getD i []).length≤9223372036854775807):CC (Qy a b):=by
 refine ah.vc (V:=TT 7 ((True∧(tY (a.length:Int) (b.length:Int))=(((min a.length b.length):Nat):Int))∧TT 1 (GO (rQ a b) 0 (∀i,(rQ a b).inv i→TT 1 (CD ((i:Int)<(((min a.length b.length):Nat):Int)) (TT 4 (IX (i:Int) a.length∧TT 3 (IX (i:Int) b.length∧TT 1 (CC (O2 (a.getD i []) (b.getD i []))∧TT 4 (IX (i:Int) a.length∧TT 4 (IX (i:Int) b.length∧TT 2 ((True∧(tY (((a.getD i []).length:Nat):Int) (((b.getD i []).length:Nat):Int))=(((min (a.getD i []).length (b.getD i []).length):Nat):Int))∧TT 1 (CD ((((dA (a.getD i []) (b.getD i [])):Nat):Int)<(((min (a.getD i []).length (b.getD i []).length):Nat):Int)) (TT 8 (((i:Int)=((cx a b).1)∧(((dA (a.getD i []) (b.getD i [])):Nat):Int)=((cx a b).2.1)∧true=((cx a b).2.2)∧True)∧(True∧True∧True∧True))) (W6 ((i+1:Nat):Int)∧TT 1 (AG (rQ a b) i (i+1))))))))))) (TT 6 (((0:Int)=((cx a b).1)∧(0:Int)=((cx a b).2.1)∧false=((cx a b).2.2)∧True)∧(True∧True∧True∧True)))))))) (.w 1 [(4,.val (i6 (((min a.length b.length):Nat):Int)))]<|.l (rQ a b) 0 (fun i=>.b 15 (.w 4 [(8,(O2 (a.getD i []) (b.getD i [])).O)]<|.w 5 [(11,.val (i6 (((min (a.getD i []).length (b.getD i []).length):Nat):Int)))]<|.b 38 (.e) (.w 7 [(0,.val (i6 ((i+1:Nat):Int)))]<|.e)) (.e))) Tryz.func51 rfl rfl rfl (by kernel_rfl) ?_
 refine tt ⟨⟨oK,(by unfold tY;split<;>omega)⟩,tt ⟨rfl,⟨by omega,rfl⟩,?_⟩⟩
 intro i I'
 obtain⟨hi,h3⟩:=I'
 refine tt (cd (fun UP=>?_) (fun UP=>?_))
 · refine tt ⟨ix,tt ⟨ix,tt ⟨(Fq (a.getD i []) (b.getD i []) (YE i)),tt ⟨ix,tt ⟨ix,tt ⟨⟨oK,(by unfold tY;split<;>omega)⟩,tt (cd (fun hc38=>?_) (fun hc38=>?_))⟩⟩⟩⟩⟩⟩
   · refine tt ⟨⟨?_,?_,?_,oK⟩,⟨oK,oK,oK,oK⟩⟩
     all_goals (all_goals (rw[← h3];first | (rw[z5 (by omega) (by omega)];done) | (rw[z6 (by omega)];done)))
   · refine⟨w6,tt ⟨(i+1),rfl,?_,(?_:min a.length b.length-(i+1)<min a.length b.length-i)⟩⟩
     · exact⟨by omega,by rw[← h3];exact(Dz (by omega) (by omega)).symm⟩
     · omega
 · refine tt ⟨⟨?_,?_,?_,oK⟩,⟨oK,oK,oK,oK⟩⟩
   all_goals (all_goals (rw[← h3];first | (rw[z5 (by omega) (by omega)];done) | (rw[z6 (by omega)];done)))
abbrev Qz (v:Int) (c:Ci) (n:Nat):Ct:=⟨96,[(i6 v),(.iptr [(.sl 6 fS ac c.U),(.sl 5 ga bK c.J)] 0),(.iptr [(.int .i64 (n:Int))] 0)],false,(dB (!(fU v (f9 c n).w)))⟩
theorem DA (v:Int) (c:Ci) (n:Nat) (hc:be c) (hn:n<c.J.length):CC (Qz v c n):=by
 have hw:1≤(c.J.getD n bK).w∧(c.J.getD n bK).w≤8:=aW.1 (hc.cw n (by omega))
 refine ah.vc (V:=TT 1 (CS (v<0) (TT 2 ((True∧(decide (v<0))=true)∧TT 12 (true=(!(fU v (f9 c n).w))∧True))) (TT 2 ((True∧(decide (v<0))=false)∧TT 4 (IX (n:Int) c.J.length∧TT 2 (SH ((c.J.getD n bK).w)∧TT 4 ((decide (v≥(2^(((c.J.getD n bK).w).toNat))))=(!(fU v (f9 c n).w))∧True))))))) (.s 1 (v<0) (.w 1 [(2,.val (dB true))]<|.e) (.w 1 [(2,.val (dB false)),(10,.val (i6 (2^(((c.J.getD n bK).w).toNat))))]<|.e)) Tryz.func96 rfl rfl rfl (by kernel_rfl) ?_
 refine tt ⟨fun T7=>?_,fun T7=>?_⟩
 · refine tt ⟨(vT T7),tt ⟨?_,oK⟩⟩
   show _=!(fU v (c.J.getD n bK).w)
   first | (unfold fU;rw[R6 (by omega)];rfl) | (unfold fU;rw[RX (show(0:Int)≤v by omega),cY (by omega) (by omega),Tc];by_cases hq:v<2^(c.J.getD n bK).w.toNat<;>first | (rw[R6 (by omega),RX (by omega)];rfl) | (rw[RX (by omega),R6 (by omega)];rfl))
 · refine tt ⟨(vF T7),tt ⟨ix,tt ⟨(sh (by have:=pJ (n:=(c.J.getD n bK).w.toNat) (by omega);omega) (by have:=pJ (n:=(c.J.getD n bK).w.toNat) (by omega);omega)),tt ⟨?_,oK⟩⟩⟩⟩
   show _=!(fU v (c.J.getD n bK).w)
   first | (unfold fU;rw[R6 (by omega)];rfl) | (unfold fU;rw[RX (show(0:Int)≤v by omega),cY (by omega) (by omega),Tc];by_cases hq:v<2^(c.J.getD n bK).w.toNat<;>first | (rw[R6 (by omega),RX (by omega)];rfl) | (rw[RX (by omega),R6 (by omega)];rfl))
abbrev Js (l:List Int) (c:Ci) (n:Nat):Ct:=⟨106,[(LI l),(Jq c n)],false,(i6 (t5 l (f9 c n).w))⟩
abbrev uU (l:List Int) (c:Ci) (n:Nat):Lp (Nat):=io [0,1,7,8] 0 (fun (i:Nat)=>⟨[(0,(LI l)),(1,(Jq c n)),(7,(i6 (l.length:Int))),(8,(i6 (i:Int)))],[]⟩) (fun (i:Nat)=>i≤l.length∧∀z,z<i→(!fU (l.getD z 0) (f9 c n).w)=false) (fun (i:Nat)=>l.length-i)
theorem K5 (l:List Int) (c:Ci) (n:Nat) (hc:be c) (hn:n<c.J.length) (hl:l.length≤9223372036854775807):CC (Js l c n):=by
 refine ah.vc (V:=TT 4 (GO (uU l c n) 0 (∀i,(uU l c n).inv i→TT 1 (CD ((i:Int)<(l.length:Int)) (TT 5 (IX (i:Int) l.length∧TT 1 (CC (Qz (l.getD i 0) c n)∧CB (!(fU (l.getD i 0) (f9 c n).w)) (TT 3 ((i:Int)=(t5 l (f9 c n).w)∧True)) (W6 ((i+1:Nat):Int)∧TT 1 (AG (uU l c n) i (i+1)))))) (TT 2 ((-1)=(t5 l (f9 c n).w)∧True)))))) (.l (uU l c n) 0 (fun i=>.b 9 (.w 4 [(5,(Qz (l.getD i 0) c n).O)]<|.b 16 (.e) (.w 6 [(0,.val (i6 ((i+1:Nat):Int)))]<|.e)) (.e))) Tryz.func106 rfl rfl rfl (by kernel_rfl) ?_
 refine tt ⟨rfl,⟨by omega,fun z hz=>by omega⟩,?_⟩
 intro i I'
 obtain⟨hi,h3⟩:=I'
 refine tt (cd (fun Yw=>?_) (fun Yw=>?_))
 · refine tt ⟨ix,tt ⟨(DA (l.getD i 0) c n hc hn),⟨fun Ws=>?_,fun Ws=>?_⟩⟩⟩
   · refine tt ⟨?_,oK⟩
     first | exact(qo (f:=fun i=>!fU (l.getD i 0) (f9 c n).w) Ws h3 (by omega)).symm | exact(ya (f:=fun i=>!fU (l.getD i 0) (f9 c n).w) (fun z hz=>h3 z (by omega))).symm
   · refine⟨w6,tt ⟨(i+1),rfl,?_,(?_:l.length-(i+1)<l.length-i)⟩⟩
     · exact⟨by omega,di h3 Ws⟩
     · omega
 · refine tt ⟨?_,oK⟩
   first | exact(qo (f:=fun i=>!fU (l.getD i 0) (f9 c n).w) Ws h3 (by omega)).symm | exact(ya (f:=fun i=>!fU (l.getD i 0) (f9 c n).w) (fun z hz=>h3 z (by omega))).symm
abbrev Jt (l:List Int) (c:Ci) (n:Nat):Ct:=⟨82,[(LI l),(Jq c n)],false,(dB (decide (0≤t5 l (f9 c n).w)))⟩
theorem Fr (l:List Int) (c:Ci) (n:Nat) (hc:be c) (hn:n<c.J.length) (hl:l.length≤9223372036854775807):CC (Jt l c n):=by
 refine ah.vc (V:=TT 3 (CC (Js l c n)∧TT 3 ((decide ((t5 l (f9 c n).w)≥0))=(decide (0≤t5 l (f9 c n).w))∧True))) (.w 1 [(2,(Js l c n).O)]<|.e) Tryz.func82 rfl rfl rfl (by kernel_rfl) ?_
 refine tt ⟨(K5 l c n hc hn hl),tt ⟨?_,oK⟩⟩
 rfl
abbrev Ju (c:Ci) (D':List (List Int)):Ct:=⟨65,[(.agg [(dL 6 fS ac c.U),(dL 5 ga bK c.J)]),(dL 1 aa [] D')],false,(dB (cJ c D'))⟩
abbrev kz (c:Ci) (D':List (List Int)):Lp (Nat):=io [2,14,15,16] 1 (fun (n:Nat)=>⟨[(2,(.iptr [(.sl 6 fS ac c.U),(.sl 5 ga bK c.J)] 0)),(14,(dL 1 aa [] D')),(15,(i6 (D'.length:Int))),(16,(i6 (n:Int)))],[.dead]⟩) (fun (n:Nat)=>n≤D'.length∧∀z,z<n→lM c D' z=true) (fun (n:Nat)=>D'.length-n)
theorem kA (c:Ci) (D':List (List Int)) (hc:be c) (hl:D'.length≤9223372036854775807) (hs:∀i,(D'.getD i []).length≤9223372036854775807):CC (Ju c D'):=by
 have UU:=hc.nl
 have hcl:=hc.cl
 refine ah.vc (V:=TT 8 (CN ((D'.length:Int)=(c.J.length:Int)) (TT 2 (false=(cJ c D')∧True)) (TT 3 (GO (kz c D') 0 (∀n,(kz c D').inv n→TT 1 (CD ((n:Int)<(D'.length:Int)) (TT 1 (IX (n:Int) D'.length∧TT 6 (CS ((((D'.getD n []).length:Nat):Int)>1000) (TT 3 ((True∧(decide ((((D'.getD n []).length:Nat):Int)>1000))=true)∧TT 20 (false=(cJ c D')∧True))) (CS ((((D'.getD n []).length:Nat):Int)>0) (CS (((c.J.getD n bK).frm)=(-1)) (TT 3 ((True∧(decide ((((D'.getD n []).length:Nat):Int)>1000))=false)∧TT 3 ((True∧(decide ((((D'.getD n []).length:Nat):Int)>0))=true)∧TT 3 (IX (n:Int) c.J.length∧TT 5 ((True∧(!decide (((c.J.getD n bK).frm)=(-1)))=false)∧TT 2 (CC (Jt (D'.getD n []) c n)∧TT 1 (CD (0≤t5 (D'.getD n []) (f9 c n).w) (TT 2 (false=(cJ c D')∧True)) (W6 ((n+1:Nat):Int)∧TT 1 (AG (kz c D') n (n+1)))))))))) (TT 3 ((True∧(decide ((((D'.getD n []).length:Nat):Int)>1000))=false)∧TT 3 ((True∧(decide ((((D'.getD n []).length:Nat):Int)>0))=true)∧TT 3 (IX (n:Int) c.J.length∧TT 5 ((True∧(!decide (((c.J.getD n bK).frm)=(-1)))=true)∧TT 6 (false=(cJ c D')∧True))))))) (TT 3 ((True∧(decide ((((D'.getD n []).length:Nat):Int)>1000))=false)∧TT 3 ((True∧(decide ((((D'.getD n []).length:Nat):Int)>0))=false)∧TT 12 (CC (Jt (D'.getD n []) c n)∧TT 1 (CD (0≤t5 (D'.getD n []) (f9 c n).w) (TT 2 (false=(cJ c D')∧True)) (W6 ((n+1:Nat):Int)∧TT 1 (AG (kz c D') n (n+1)))))))))))) (TT 2 (true=(cJ c D')∧True)))))))) (.b 13 (.e) (.f 3 0<|.l (kz c D') 0 (fun n=>.b 17 (.f 6 1<|.s 7 ((((D'.getD n []).length:Nat):Int)>1000) (.w 7 [(3,.val (dB true))]<|.e) (.s 7 ((((D'.getD n []).length:Nat):Int)>0) (.s 7 (((c.J.getD n bK).frm)=(-1)) (.w 7 [(3,.val (dB false)),(7,.val (dB true)),(17,.val (dB false)),(20,(Jt (D'.getD n []) c n).O)]<|.b 43 (.e) (.w 9 [(0,.val (i6 ((n+1:Nat):Int)))]<|.e)) (.w 7 [(3,.val (dB false)),(7,.val (dB true)),(17,.val (dB true))]<|.e)) (.w 7 [(3,.val (dB false)),(7,.val (dB false)),(20,(Jt (D'.getD n []) c n).O)]<|.b 43 (.e) (.w 9 [(0,.val (i6 ((n+1:Nat):Int)))]<|.e)))) (.e)))) Tryz.func65 rfl rfl rfl (by kernel_rfl) ?_
 refine tt (cn (fun Zh=>?_) (fun Zh=>?_))
 · refine tt ⟨?_,oK⟩
   first | exact(fp (by omega)).symm | exact(oZ (n:=n) (by omega) (by omega)).symm | exact(o0 (n:=n) (by omega) (by omega) (by show ¬(c.J.getD n bK).frm=-1;omega)).symm | exact(o6 (n:=n) (by omega) (by first | assumption | simpa using UD)).symm | exact(fq (by omega) (fun z hz=>h3 z (by omega))).symm
 · refine tt ⟨rfl,⟨by omega,fun z hz=>by omega⟩,?_⟩
   intro n I'
   obtain⟨hn,h3⟩:=I'
   refine tt (cd (fun Wq=>?_) (fun Wq=>?_))
   · refine tt ⟨ix,tt ⟨fun T7=>?_,fun T7=>?_⟩⟩
     · refine tt ⟨(vT T7),tt ⟨?_,oK⟩⟩
       first | exact(fp (by omega)).symm | exact(oZ (n:=n) (by omega) (by omega)).symm | exact(o0 (n:=n) (by omega) (by omega) (by show ¬(c.J.getD n bK).frm=-1;omega)).symm | exact(o6 (n:=n) (by omega) (by first | assumption | simpa using UD)).symm | exact(fq (by omega) (fun z hz=>h3 z (by omega))).symm
     · refine⟨fun Ur=>?_,fun Ur=>?_⟩
       · refine⟨fun Vs=>?_,fun Vs=>?_⟩
         · refine tt ⟨(vF T7),tt ⟨(vT Ur),tt ⟨ix,tt ⟨(nF Vs),tt ⟨(Fr (D'.getD n []) c n hc (show n<c.J.length by omega) (hs n)),tt (cd (fun UD=>?_) (fun UD=>?_))⟩⟩⟩⟩⟩
           · refine tt ⟨?_,oK⟩
             first | exact(fp (by omega)).symm | exact(oZ (n:=n) (by omega) (by omega)).symm | exact(o0 (n:=n) (by omega) (by omega) (by show ¬(c.J.getD n bK).frm=-1;omega)).symm | exact(o6 (n:=n) (by omega) (by first | assumption | simpa using UD)).symm | exact(fq (by omega) (fun z hz=>h3 z (by omega))).symm
           · refine⟨w6,tt ⟨(n+1),rfl,?_,(?_:D'.length-(n+1)<D'.length-n)⟩⟩
             · exact⟨by omega,di h3 (L6 (by omega) (by first | exact .inl (by omega) | exact .inr (by show(c.J.getD n bK).frm=-1;omega)) (by first | assumption | simpa using UD))⟩
             · omega
         · refine tt ⟨(vF T7),tt ⟨(vT Ur),tt ⟨ix,tt ⟨(nT Vs),tt ⟨?_,oK⟩⟩⟩⟩⟩
           first | exact(fp (by omega)).symm | exact(oZ (n:=n) (by omega) (by omega)).symm | exact(o0 (n:=n) (by omega) (by omega) (by show ¬(c.J.getD n bK).frm=-1;omega)).symm | exact(o6 (n:=n) (by omega) (by first | assumption | simpa using UD)).symm | exact(fq (by omega) (fun z hz=>h3 z (by omega))).symm
       · refine tt ⟨(vF T7),tt ⟨(vF Ur),tt ⟨(Fr (D'.getD n []) c n hc (show n<c.J.length by omega) (hs n)),tt (cd (fun UD=>?_) (fun UD=>?_))⟩⟩⟩
         · refine tt ⟨?_,oK⟩
           first | exact(fp (by omega)).symm | exact(oZ (n:=n) (by omega) (by omega)).symm | exact(o0 (n:=n) (by omega) (by omega) (by show ¬(c.J.getD n bK).frm=-1;omega)).symm | exact(o6 (n:=n) (by omega) (by first | assumption | simpa using UD)).symm | exact(fq (by omega) (fun z hz=>h3 z (by omega))).symm
         · refine⟨w6,tt ⟨(n+1),rfl,?_,(?_:D'.length-(n+1)<D'.length-n)⟩⟩
           · exact⟨by omega,di h3 (L6 (by omega) (by first | exact .inl (by omega) | exact .inr (by show(c.J.getD n bK).frm=-1;omega)) (by first | assumption | simpa using UD))⟩
           · omega
   · refine tt ⟨?_,oK⟩
     first | exact(fp (by omega)).symm | exact(oZ (n:=n) (by omega) (by omega)).symm | exact(o0 (n:=n) (by omega) (by omega) (by show ¬(c.J.getD n bK).frm=-1;omega)).symm | exact(o6 (n:=n) (by omega) (by first | assumption | simpa using UD)).symm | exact(fq (by omega) (fun z hz=>h3 z (by omega))).symm
theorem Aa (w:World) (cs YH:Array Value) (T:TypeId):(w.alloc (.cells cs T)).setRow w.heap.size YH=w.alloc (.cells YH T):=by
 unfold World.setRow World.alloc
 congr 1
 apply Array.ext
 ·simp
 ·intro k h1 h2
  simp only[Array.getElem_modify]
  by_cases hk:w.heap.size=k
  ·subst hk;simp
  ·simp only[Array.size_push,Array.size_modify]at h1
   simp[hk,Array.getElem_push,show k<w.heap.size by omega]
theorem Jv (w:World) {x y:Value} {T:TypeId}:(w.alloc (Obj.cells #[x,y] T)).cell? ((⟨w.heap.size,0,none⟩:Addr).add 0)=some x:=by
 have h:=SF w (Obj.cells #[x,y] T)
 rw[show((⟨w.heap.size,0,none⟩:Addr).add 0)=⟨w.heap.size,0,none⟩from rfl]
 simp only[World.cell?,h]
 rfl
theorem Below.heap_alloc' (w:World) (o:Obj):Below w.heap.size w (w.alloc o):=(Below.refl _ w).alloc (RD _) o
theorem BM {w:World} {g n:Nat} {xs:List Value} (h:w.heap[g]?=some (Obj.cells xs.toArray 4 (0,0))) (hn:xs.length=n:=by rfl) (hm:n≤2:=by decide):w.ownsRow 0 4 1 (.slice (some ⟨g,0,none⟩) n n) n xs :=
 ⟨by omega,.inr ⟨g,n,_,rfl,Su _,h,RD _,by simp only[maxLen];omega,by simp;omega,by simp[Th (Nat.le_of_eq hn)]⟩⟩
theorem yi {w w':World} (h:Below w.heap.size w w'):w.grownBy w' none:=⟨h.os,h.tape,h.output,h.size,fun k hk _=>h.block k hk⟩
theorem O3 {S:Nat→Prop} {w:World} {k:IntKind} {n:Int} {u:Value} (h:dM S w (.int k n) u):u=.int k n:=by cases h;rfl
theorem Nx {S:Nat→Prop} {μ:Nat→Value} {w:World} {x y:V} {us:Array Value} (h:aM S μ w [.v x,.v y] us):∃u v,us=#[u,v]∧dM S w x u∧dM S w y v:=by
 obtain⟨h1,h2⟩:=h
 have h1':us.size=2:=h1
 refine⟨us[0]'(by omega),us[1]'(by omega),?_,bv (h2 0 _ _ rfl (R0 _)),bv (h2 1 _ _ rfl (R0 _))⟩
 apply Array.ext
 ·simpa using h1
 ·intro i a b
  have:i=0∨i=1:=by omega
  rcases this with rfl | rfl<;>rfl
def QA (A:Act) (R:World→Prop):Exit→Act→World→Prop
 | .normal,a,w=>a=A∧R w
 | _,_,_=>False
theorem Ny {P:Program} {c:Code} {a:Act} {w:World} {Q:Exit→Act→World→Prop} {R:World→Prop} {A:Act} (h:c.wp P (QA A R) a w) (h2:∀w',R w'→Q .normal A w'):c.wp P Q a w :=
 Code.wp_mono (fun e a' w' h=>by cases e<;>first | exact h.elim | (obtain⟨h4,h5⟩:=h;subst h4;exact h2 w' h5)) h
theorem wx (w:World) (n b o c:Nat) (hn:1≤n) (cs:Array Value) (hcs:cs.size=n) (x:Value) (hx:x.oneCell'=true) (hb:w.cell? ⟨b,o,none⟩=some x) (W0:b<w.heap.size) :
  (Builtin.copy_ #[98,98] 3 #[.slice (some ⟨w.heap.size,0,none⟩) n n,.slice (some ⟨b,o,none⟩) 1 c]).run Tryz.prog (w.alloc (.cells cs 4))=.ok (.int .i64 1) (w.alloc (.cells (x::cs.toList.drop 1).toArray 4)):=by
 have h:=run_copy_row (P:=Tryz.prog) (w.alloc (.cells cs 4)) 98 98 3 4 w.heap.size 0 n n ⟨b,o,none⟩ 1 c cs 4 [x] (by kernel_rfl) (by kernel_rfl) (SF w _) (by show 1=Nat.min 1 n;exact(TU hn).symm) (fun j v hj=>by
  cases j with
  | zero =>
   simp at hj;subst hj
   rw[← hb]
   exact Tw (by show(w.heap.push _)[b]?=_;rw[S5,RE (by omega)];rfl)
  | succ j=>simp at hj) (by simp;omega) (by simpa using hx)
 rw[h,Aa]
 rfl
set_option maxRecDepth 100000 in
set_option maxHeartbeats 1600000 in
theorem DB (w:World) (b o c:Nat) (hb:w.cell? ⟨b,o,none⟩=some (.bool true)) (W0:b<w.heap.size):Calls Tryz.prog 103 #[.slice (some ⟨b,o,none⟩) 1 c,.int .i64 1] w (fun e w'=>∃v,e=.returned v∧w'.ownsRow 0 4 1 v 1 [.bool true]∧w.grownBy w' none∧∀k,aI v=some k→w.heap.size≤k):=by
 have Yz:∀w,(Instr.makeSlice 98 (.int .i64 1) (.int .i64 1)).run Tryz.prog w=.ok (.slice (some ⟨w.heap.size,0,none⟩) 1 1) (w.alloc (.cells #[.bool false] 4)):=fun _=>by kernel_rfl
 have k1:bits BinOp.and IntKind.u64 1 4294967295=1:=by decide
 have k0:bits BinOp.and IntKind.u64 0 4294967295=0:=by decide
 have Xn:=wx w 1 b o c (by omega) #[.bool false] rfl (.bool true) rfl hb W0
 go_enter Tryz.func103,Tryz.ntmps103
 go_wp2
 refine wp_loop_rounds 1 ?_
 unfold Code.rounds
 have UL:(w.alloc (Obj.cells #[Value.bool true] 4)).heap[w.heap.size]?=some (Obj.cells #[Value.bool true] 4 (0,0)):=SF w _
 have hbe:=Below.heap_alloc' w (Obj.cells #[Value.bool true] 4)
 go_wp2
 go_ret
 exact⟨_,rfl,BM UL,yi hbe,fun k hk=>by simp[aI]at hk;omega⟩
set_option maxRecDepth 100000 in
set_option maxHeartbeats 1600000 in
theorem DC (w:World) (b o c:Nat) (hb:w.cell? ⟨b,o,none⟩=some (.bool true)) (W0:b<w.heap.size):Calls Tryz.prog 103 #[.slice (some ⟨b,o,none⟩) 1 c,.int .i64 2] w (fun e w'=>∃v,e=.returned v∧w'.ownsRow 0 4 1 v 2 [.bool true,.bool true]∧w.grownBy w' none∧∀k,aI v=some k→w.heap.size≤k):=by
 have Yz:∀w,(Instr.makeSlice 98 (.int .i64 2) (.int .i64 2)).run Tryz.prog w=.ok (.slice (some ⟨w.heap.size,0,none⟩) 2 2) (w.alloc (.cells #[.bool false,.bool false] 4)):=fun _=>by kernel_rfl
 have k1:bits BinOp.and IntKind.u64 1 4294967295=1:=by decide
 have k2:bits BinOp.and IntKind.u64 2 4294967295=2:=by decide
 have k0:bits BinOp.and IntKind.u64 0 4294967295=0:=by decide
 have Xn:=wx w 2 b o c (by omega) #[.bool false,.bool false] rfl (.bool true) rfl hb W0
 go_enter Tryz.func103,Tryz.ntmps103
 go_wp2
 refine wp_loop_rounds 2 ?_
 unfold Code.rounds
 go_wp2
 have UL:(w.alloc (Obj.cells #[Value.bool true,Value.bool false] 4)).heap[w.heap.size]?=some (Obj.cells #[Value.bool true,Value.bool false] 4 (0,0)):=SF w _
 have hce:=Jv (x:=.bool true) (y:=.bool false) (T:=4) w
 have hbe:=Below.heap_alloc' w (Obj.cells #[Value.bool true,Value.bool false] 4)
 generalize w.alloc (Obj.cells #[Value.bool true,Value.bool false] 4)=W at UL hce hbe ⊢
 apply Ny (R:=fun w'=>w'.heap[w.heap.size]?=some (Obj.cells #[Value.bool true,Value.bool true] 4 (0,0))∧Below w.heap.size w w')
 ·go_region_law (refine step_copy_splice (by kernel_rfl) (.tmp 41) (.tmp 44) 98 98 (by kernel_rfl) 4 (by kernel_rfl) (by kernel_rfl) (some ⟨w.heap.size,1,none⟩) (some ⟨w.heap.size,0,none⟩) 1 1 1 2 (by kernel_rfl) (by kernel_rfl) w.heap.size 1 [.bool true,.bool false] 4 UL [.bool true] rfl (fun _=>⟨rfl,_,rfl,fun j v hj=>by cases j with | zero=>simp at hj;subst hj;exact hce | succ j=>simp at hj⟩) (by simp) (by simp[Value.oneCell']) w.heap.size w (by first | exact hbe | exact hbe.drew) (RD _) ?_;intro w4 hg4 hb4)
  refine⟨?_,hg4,hb4⟩
  exact(by kernel_rfl:_=Act.mk #[.slice (some ⟨b,o,none⟩) 1 c,.int .i64 2,undef,undef,.slice none 0 0,.int .u64 0,.int .u64 2,.slice (some ⟨w.heap.size,0,none⟩) 2 2,.int .i64 2,.int .i64 2,.bool false,undef,.tuple #[.int .u64 0,.int .u64 2],.slice (some ⟨b,o,none⟩) 1 c,.int .i64 1,.int .u64 1,.int .i64 2,.int .u64 2,.tuple #[.int .u64 0,.int .u64 2],.int .u64 0,.int .u64 2,.int .u64 0,.bool false,.bool false,.int .u64 2,.bool false,.bool false,undef,.int .u64 2,.int .i64 2,.slice (some ⟨w.heap.size,0,none⟩) 2 2,.slice (some ⟨w.heap.size,0,none⟩) 2 2,.slice (some ⟨b,o,none⟩) 1 c,.int .i64 1,.int .i64 1,.slice (some ⟨w.heap.size,0,none⟩) 2 2,.int .i64 2,.bool true,.int .i64 1,.slice (some ⟨w.heap.size,0,none⟩) 2 2,.int .i64 1,.slice (some ⟨w.heap.size,1,none⟩) 1 1,.slice (some ⟨w.heap.size,0,none⟩) 2 2,.int .i64 1,.slice (some ⟨w.heap.size,0,none⟩) 1 2,.int .i64 1,.int .i64 2,undef] [])
 ·rintro w5 ⟨h5,h6⟩
  go_wp2
  unfold Code.rounds
  go_wp2
  go_ret
  exact⟨_,rfl,BM h5,yi h6,fun k hk=>by simp[aI]at hk;omega⟩
theorem ah.of_bools {P:Program} {f:FuncId} {ds:List D} {E:TypeId} {l:List Bool}
  (h:∀(S:Nat→Prop) (μ:Nat→Value) (w:World) (us:Array Value),aM S μ w ds us→Calls P f us w (fun e w'=>∃v,e=.returned v∧w'.ownsRow 0 E 1 v l.length (l.map Value.bool)∧w.grownBy w' none∧∀k,aI v=some k→w.heap.size≤k)):ah P f ds [] false (dL 1 aL false l) []:=by
 intro S μ w us hS _ hH UG
 refine(h S μ w us UG).mono ?_
 rintro e w' ⟨v,rfl,ho,hg,Wl⟩
 have Vf:v.oneCell'=true:=by rcases ho.2 with ⟨rfl,_⟩ | ⟨g,cap,UH,rfl,_⟩<;>rfl
 have hB:aH (fun _=>False) μ w' v (.arr E 1 aL false l):=by
  refine⟨fun i x hx=>rfl,l.map Value.bool,by simpa using ho,fun i x j y hx hy=>?_⟩
  have hj:j=0:=by
   cases j with
   | zero=>rfl
   | succ j=>simp[aL]at hy
  subst hj
  simp only[aL,TG,RM]at hy
  subst hy
  exact⟨.bool x,by rw[Nat.mul_one,SY,R3,hx];rfl,.bool _⟩
 have Un:∀b,bL v b→b<w'.heap.size:=fun b hb=>hB.lt rfl b hb
 have hr:=iI (S':=fun b=>(S b∨(w.heap.size≤b∧b<w'.heap.size))∧(False∨w.heap.size≤b)) hB (fun b h=>h.elim) (fun b hb=>⟨.inr ⟨Wl b (hb.bl Vf),Un b hb⟩,.inr (Wl b (hb.bl Vf))⟩) (fun b h=>h.elim)
 refine⟨v,μ,fun b=>S b∨(w.heap.size≤b∧b<w'.heap.size),rfl,hg.os,hg.tape,hg.output,hg.size,fun k hk _=>hg.block k hk (by simp),fun _ h=>.inl h,fun b h=>h.imp id (·.1),fun b UN=>UN.elim (fun h=>SA (hS b h) hg.size) (·.2),.v _ _ (hr.stable (fun b h1 _=>⟨h1.1,h1.2.imp (fun h=>h.elim) id⟩) (fun _ _ _=>rfl) (RD _)),⟨fun id B hB=>by simp at hB,fun i j A B b hA=>by simp at hA,fun i A b hA=>by simp at hA⟩,fun i A b hA=>by simp at hA,fun i A hA=>by simp at hA⟩
abbrev DD (n:Nat):Ct:=⟨103,[(dL 1 aL false [true]),(i6 (n:Int))],false,dL 1 aL false (List.replicate n true)⟩
theorem ta (n:Nat) (h1:1≤n) (h2:n≤2):CC (DD n):=by
 refine ah.of_bools (E:=4) (fun S μ w us UG=>?_)
 obtain⟨u,x,rfl,hu,hx⟩:=Nx UG
 cases O3 hx
 obtain⟨q,c,rfl,q1,q2,q3,q4⟩:=fJ hu
 obtain⟨bb,M',us,rfl,r1,r2,r3,r4,r5⟩:=q4 (by simp)
 have hc:=r4 0 true 0 (.bool true) rfl rfl
 have hv:=r5 0 true 0 (.bool true) rfl rfl
 have hb:us 0 0=.bool true:=by
  generalize us 0 0=z at hv
  cases hv;rfl
 rw[hb]at hc
 have WM:w.cell? ⟨bb,M',none⟩=some (.bool true):=by simpa using hc
 have:n=1∨n=2:=by omega
 rcases this with rfl | rfl
 ·exact DB w bb M' c WM r2
 ·exact DC w bb M' c WM r2
abbrev L9 (c:Ci) (k:Nat):D:=(.agg [(dS ((c.U.getD k ac).name)),(dS ((c.U.getD k ac).clock)),(dL 13 gM bH ((c.U.getD k ac).Ry)),(dL 27 m3 aP ((c.U.getD k ac).Rx)),(dL 9 ir aF ((c.U.getD k ac).I)),(dL 16 gd aB ((c.U.getD k ac).Rv))])
abbrev jF (c:Ci):List D:=[(dL 6 fS ac c.U),(dL 5 ga bK c.J)]
abbrev yj (c:Ci) (sv:Ns) (k:Nat):List D:=[(dB ((dD c sv k).fires)),(LI (((dD c sv k).s).Ry)),(dL 1 aa [] (((dD c sv k).s).Rx)),(LB ((dD c sv k).pops)),(dL 2 bt aJ ((dD c sv k).Rv))]
abbrev BR (k:Nat) (J':List ByteArray) (i:Nat) (c:Ci) (sv:Ns):List (Nat×D):=[(3,(.ptr 0 0 0 0)),(9,(.ptr 1 0 0 0)),(10,(.own 12)),(11,(.own 9)),(14,(.ptr 13 0 0 0)),(16,(i6 (k:Int))),(38,(dL 1 dc .empty J')),(39,(i6 (J'.length:Int))),(40,(i6 (i:Int))),(51,(LB (tab (av c sv (aU c (J'.getD i .empty))) c.U.length))),(52,(i6 (((tab (av c sv (aU c (J'.getD i .empty))) c.U.length).length:Nat):Int))),(53,(i6 (k:Int))),(65,(.own 12)),(66,(.ptr 0 0 0 0)),(67,(dL 6 fS ac c.U)),(68,(i6 (k:Int))),(69,(.iptr (fS (c.U.getD k ac)) 0)),(70,(L9 c k)),(71,(.agg (jF c))),(72,(.agg [(dL 2 bn bh sv.U),(dL 1 aa [] sv.J)])),(73,(i6 (k:Int))),(74,(.agg (yj c sv k)))]
abbrev Jy (c:Ci) (k m:Nat):ap:=(.var 117 [(i6 ((((c.U.getD k ac).Rv).getD m aB).chan)),(i6 ((((c.U.getD k ac).Rv).getD m aB).w)),(i6 (((((c.U.getD k ac).Rv).getD m aB).when).op)),(dS (((((c.U.getD k ac).Rv).getD m aB).when).name)),(i6 ((((((c.U.getD k ac).Rv).getD m aB).when).k).n)),(dS ((((((c.U.getD k ac).Rv).getD m aB).when).k).p)),(i6 ((((((c.U.getD k ac).Rv).getD m aB).when).w).n)),(dS ((((((c.U.getD k ac).Rv).getD m aB).when).w).p)),(dL 7 (eA 2) dE (((((c.U.getD k ac).Rv).getD m aB).when).args)),(i6 (((((c.U.getD k ac).Rv).getD m aB).data).op)),(dS (((((c.U.getD k ac).Rv).getD m aB).data).name)),(i6 ((((((c.U.getD k ac).Rv).getD m aB).data).k).n)),(dS ((((((c.U.getD k ac).Rv).getD m aB).data).k).p)),(i6 ((((((c.U.getD k ac).Rv).getD m aB).data).w).n)),(dS ((((((c.U.getD k ac).Rv).getD m aB).data).w).p)),(dL 7 (eA 2) dE (((((c.U.getD k ac).Rv).getD m aB).data).args))])
abbrev BS (c:Ci) (k:Nat):ap:=(.var 63 [(dS ((c.U.getD k ac).name)),(dS ((c.U.getD k ac).clock)),(dL 13 gM bH ((c.U.getD k ac).Ry)),(dL 27 m3 aP ((c.U.getD k ac).Rx)),(dL 9 ir aF ((c.U.getD k ac).I)),(dL 16 gd aB ((c.U.getD k ac).Rv))])
abbrev rS (c:Ci) (sv:Ns) (J':List ByteArray) (i:Nat):ap:=(.var 70 [(dL 2 bn bh ((bk c sv (aU c (J'.getD i .empty))).U)),(dL 1 aa [] ((bk c sv (aU c (J'.getD i .empty))).J))])
abbrev pQ (sv:Ns):ap:=(.var 70 [(dL 2 bn bh sv.U),(dL 1 aa [] sv.J)])
abbrev tQ (c:Ci) (vv:Uf) (k:Nat):ap:=(.arr 3 1 (ab .i64) 0 (bO c (aj c vv k)))
set_option maxRecDepth 100000
abbrev QB (c:Ci) (s:Ns) (k:Nat):Ct:=⟨76,[(.agg (jF c)),(.agg [(dL 2 bn bh s.U),(dL 1 aa [] s.J)]),(i6 (k:Int))],true,(.agg [(dB ((dD c s k).fires)),(LI (((dD c s k).s).Ry)),(dL 1 aa [] (((dD c s k).s).Rx)),(LB ((dD c s k).pops)),(dL 2 bt aJ ((dD c s k).Rv))])⟩
abbrev kB (c:Ci) (s:Ns) (k:Nat):Lp (Nat×List Hd):=pI [2,4,6,7,8,22,23,24] 5 (fun (i:Nat) (hh:List Hd)=>⟨[(2,(i6 (k:Int))),(4,(.ptr 1 0 0 0)),(6,(.ptr 2 0 0 0)),(7,(.ptr 3 0 0 0)),(8,(.own 4)),(22,(dL 9 ir aF ((c.U.getD k ac).I))),(23,(i6 ((((c.U.getD k ac).I).length:Nat):Int))),(24,(i6 (i:Int)))],[(.var 33 (jF c)),(.var 70 [(dL 2 bn bh s.U),(dL 1 aa [] s.J)]),(.var 101 [(dB false),.nils,.nils,.nils,.nils]),(BS c k),(.arr 115 2 bt aJ hh)]⟩) (fun (i:Nat) (hh:List Hd)=>i≤(c.U.getD k ac).I.length∧hh=cM (cb c s k) (List.replicate (c.U.getD k ac).I.length aJ) i) (fun (i:Nat) (hh:List Hd)=>(c.U.getD k ac).I.length-i)
theorem GS (c:Ci) (s:Ns) (k:Nat) (hc:be c) (hq:J5 c) (hs:it c s) (hk:k<c.U.length):CC (QB c s k):=by
 have UU:=hc.nl
 have hcl:=hc.cl
 have Vt:fk (c.U.getD k ac):=hc.pr k hk
 have Yj:(c.U.getD k ac).I.length≤100:=Vt.tl
 have ZC:(c.U.getD k ac).Rv.length≤100:=Vt.pl
 obtain⟨V1,Wn⟩:1≤(c.U.getD k ac).Rv.length∧(c.U.getD k ac).Rv.length≤2:=hq k hk
 have Wp:=hs.pl
 have VJ:=hs.cl
 refine ah.vc (V:=TT 6 (IX (k:Int) c.U.length∧TT 6 ((((0:Int)≤((((c.U.getD k ac).I).length:Nat):Int)∧((((c.U.getD k ac).I).length:Nat):Int)≤((((c.U.getD k ac).I).length:Nat):Int)∧((((c.U.getD k ac).I).length:Nat):Int)≤137438953472)∧(List.replicate (c.U.getD k ac).I.length aJ).length=((c.U.getD k ac).I).length∧∀x∈(List.replicate (c.U.getD k ac).I.length aJ),cg [(dB false),(i6 0)] (bt x))∧TT 5 (GO (kB c s k) (0,(List.replicate (c.U.getD k ac).I.length aJ)) (∀i hh,(kB c s k).inv (i,hh)→TT 1 (CD ((i:Int)<((((c.U.getD k ac).I).length:Nat):Int)) (TT 1 (IX (i:Int) (((c.U.getD k ac).I).length)∧TT 8 (IX ((((c.U.getD k ac).I).getD i aF).chan) s.J.length∧TT 5 (CD ((((s.J.getD (((((c.U.getD k ac).I).getD i aF).chan).toNat) []).length:Nat):Int)>0) (TT 3 (IX 0 ((s.J.getD (((((c.U.getD k ac).I).getD i aF).chan).toNat) []).length)∧TT 2 (IX (i:Int) hh.length∧(i<hh.length∧(hh.map bt).set i ((bt (hh.getD i aJ)).take 0++[(.bool true),(.int .i64 ((s.J.getD (((((c.U.getD k ac).I).getD i aF).chan).toNat) []).getD 0 0))]++(bt (hh.getD i aJ)).drop (0+2))=(hh.set i (⟨true,((s.J.getD (((((c.U.getD k ac).I).getD i aF).chan).toNat) []).getD 0 0)⟩:Hd)).map bt)∧W6 ((i+1:Nat):Int)∧TT 1 (AG (kB c s k) (i,hh) (i+1,hh.set i (⟨true,((s.J.getD (((((c.U.getD k ac).I).getD i aF).chan).toNat) []).getD 0 0)⟩:Hd)))))) (W6 ((i+1:Nat):Int)∧TT 1 (AG (kB c s k) (i,hh) (i+1,hh))))))) (TT 4 (IX (k:Int) s.U.length∧TT 2 (ai [[(dB true)]] ([true].map aL)∧TT 3 (CC (DD (((c.U.getD k ac).Rv).length))∧CC (KP (c.U.getD k ac) (s.U.getD k bh) hh (List.replicate (((c.U.getD k ac).Rv).length) true))∧TT 2 (((ax (c.U.getD k ac) (s.U.getD k bh) hh (List.replicate (((c.U.getD k ac).Rv).length) true)).fires)=((dD c s k).fires)∧(((ax (c.U.getD k ac) (s.U.getD k bh) hh (List.replicate (((c.U.getD k ac).Rv).length) true)).s).Ry).map (ab .i64)=(((dD c s k).s).Ry).map (ab .i64)∧(((ax (c.U.getD k ac) (s.U.getD k bh) hh (List.replicate (((c.U.getD k ac).Rv).length) true)).s).Rx).map aa=(((dD c s k).s).Rx).map aa∧((ax (c.U.getD k ac) (s.U.getD k bh) hh (List.replicate (((c.U.getD k ac).Rv).length) true)).pops).map aL=((dD c s k).pops).map aL∧((ax (c.U.getD k ac) (s.U.getD k bh) hh (List.replicate (((c.U.getD k ac).Rv).length) true)).Rv).map bt=((dD c s k).Rv).map bt∧True))))))))))) (.w 2 [(3,.box 115 2 bt aJ (List.replicate (c.U.getD k ac).I.length aJ))]<|.l (kB c s k) (0,(List.replicate (c.U.getD k ac).I.length aJ)) (fun ⟨i,hh⟩=>.b 25 (.b 37 (.w 8 [(7,.box 115 2 bt aJ (hh.set i (⟨true,((s.J.getD (((((c.U.getD k ac).I).getD i aF).chan).toNat) []).getD 0 0)⟩:Hd)))]<|.w 9 [(0,.val (i6 ((i+1:Nat):Int)))]<|.e) (.w 9 [(0,.val (i6 ((i+1:Nat):Int)))]<|.e)) (.f 10 4<|.w 10 [(7,.box 4 1 aL false [true]),(11,(DD (((c.U.getD k ac).Rv).length)).O),(12,(KP (c.U.getD k ac) (s.U.getD k bh) hh (List.replicate (((c.U.getD k ac).Rv).length) true)).O)]<|.e))) Tryz.func76 rfl rfl rfl (by kernel_rfl) ?_
 refine tt ⟨ix,tt ⟨⟨by omega,RC,fun x hx=>by rw[RS hx];exact⟨rfl,rfl,oK⟩⟩,tt ⟨rfl,⟨by omega,rfl⟩,?_⟩⟩⟩
 intro i hh I'
 obtain⟨hi,Yo⟩:=I'
 have hhl:hh.length=(c.U.getD k ac).I.length:=by rw[Yo,dm (by rw[RC];omega),RC]
 refine tt (cd (fun Uv=>?_) (fun Uv=>?_))
 · refine tt ⟨ix,?_⟩
   have WB:0≤((c.U.getD k ac).I.getD i aF).chan∧((c.U.getD k ac).I.getD i aF).chan<c.J.length:=⟨(hc.tk k hk i (show i<(c.U.getD k ac).I.length by omega)).1,(hc.tk k hk i (show i<(c.U.getD k ac).I.length by omega)).2.1⟩
   refine tt ⟨ix,tt (cd (fun Wf=>?_) (fun Wf=>?_))⟩
   · refine tt ⟨ix,tt ⟨ix,⟨⟨om,by simp only[Ss];rfl⟩,⟨w6,tt ⟨(i+1,hh.set i (⟨true,((s.J.getD (((((c.U.getD k ac).I).getD i aF).chan).toNat) []).getD 0 0)⟩:Hd)),rfl,?_,(?_:(c.U.getD k ac).I.length-(i+1)<(c.U.getD k ac).I.length-i)⟩⟩⟩⟩⟩
     · exact⟨by omega,by rw[Yo];exact bR (by rw[RC];omega) (RH (show 0<(s.J.getD ((c.U.getD k ac).I.getD i aF).chan.toNat []).length by omega))⟩
     · omega
   · refine⟨w6,tt ⟨(i+1,hh),rfl,?_,(?_:(c.U.getD k ac).I.length-(i+1)<(c.U.getD k ac).I.length-i)⟩⟩
     · exact⟨by omega,by rw[Yo];exact bP (d:=aJ) (by rw[RC];omega) (by rw[ca];exact RE (show ¬(0<(s.J.getD ((c.U.getD k ac).I.getD i aF).chan.toNat []).length) by omega))⟩
     · omega
 · have YF:hh=cr c s k:=by rw[Yo,show i=(c.U.getD k ac).I.length by omega];exact cH (by rw[RC];exact RD _)
   refine tt ⟨ix,tt ⟨⟨⟨rfl,oK⟩,oK⟩,tt ⟨(ta (((c.U.getD k ac).Rv).length) V1 Wn),⟨(rD (c.U.getD k ac) (s.U.getD k bh) hh (List.replicate (((c.U.getD k ac).Rv).length) true) Vt (hs.pv k hk) (by rw[YF];exact nh hc hs hk) RC),tt ⟨?_,(congrArg _ (?_:(((ax (c.U.getD k ac) (s.U.getD k bh) hh (List.replicate (((c.U.getD k ac).Rv).length) true)).s).Ry)=(((dD c s k).s).Ry))),(congrArg _ (?_:(((ax (c.U.getD k ac) (s.U.getD k bh) hh (List.replicate (((c.U.getD k ac).Rv).length) true)).s).Rx)=(((dD c s k).s).Rx))),(congrArg _ (?_:((ax (c.U.getD k ac) (s.U.getD k bh) hh (List.replicate (((c.U.getD k ac).Rv).length) true)).pops)=((dD c s k).pops))),(congrArg _ (?_:((ax (c.U.getD k ac) (s.U.getD k bh) hh (List.replicate (((c.U.getD k ac).Rv).length) true)).Rv)=((dD c s k).Rv))),oK⟩⟩⟩⟩⟩
   all_goals (all_goals (rw[YF];rfl))
abbrev cG (g zi zj:Nat):D:=.gr g zi
abbrev cT (g q R zi zj:Nat):D:=if zi=R then .own q else .gr g zi
abbrev cK (g q R zi zj:Nat):D:=killD q (cT g q R zi zj)
abbrev NA (n m g R q:Nat):Prop:=R<n∧∀zi zj,zi<m→zj<1→HN g R q (cG g zi zj) (cT g q R zi zj)
abbrev Ma (n m g R q:Nat) (W W2:List (List Int)) (l:List Int):Prop:=R≤n∧n=max n (R+1)∧(∀z8,z8<n→bu W2 z8=if z8=R then (⟨3,1,Int,ab .i64,0,l⟩:qC)else jR (bu W) R (ju (bu W R)) z8)∧∀zi zj,zi<m→zj<1→Bc g R q (cT g q R zi zj) (cG g zi zj)
abbrev Jz (n m g:Nat):Prop:=n=m∧∀zi zj,zi<n→zj<1→cG g zi zj=cG g zi zj∧∀z8,[g].all (fun g=>!(Nat.beq g z8))=true→(cG g zi zj).free z8=true
theorem rT {g k i:Nat} (h:[g].all (fun g=>!(Nat.beq g k))=true):D.free k (.gr g i)=true:=by simpa[D.free]using h
theorem K7 {g q R i:Nat}:HN g R q (.gr g i) (if i=R then .own q else .gr g i):=by
  by_cases h:i=R
  · exact .inl ⟨by rw[h],RH h⟩
  · exact .inr ⟨RE h,.inl ⟨i,rfl,h⟩⟩
theorem tR {R q:Nat} {d:D}:p6 (if R=R then .own q else d) (.own q):=by rw[RH rfl];exact rfl
theorem rU {g q R n:Nat} (h:(!(Nat.beq g q))=true):mJ 1 n R 0 [.own q] [q,g] (fun i j=>killD q (if i=R then .own q else .gr g i)) (fun i j=>if i=R then .own q else .gr g i):=by
  intro i j hi hj
  have ZF:j=0:=by omega
  subst ZF
  have hk:killD q (.gr g i)=.gr g i:=by unfold killD;rw[RH (show D.free q (.gr g i)=true from h)]
  refine⟨by by_cases h:i=R<;>simp[h];rw[hk],fun id Uh=>?_⟩
  simp only[TD,List.all_nil,Tr,RA]at Uh
  show D.free id (if i=R then .own q else .gr g i)=true
  split
  · exact Uh.1
  · exact Uh.2
theorem NB {g q R i:Nat}:Bc g R q (if i=R then .own q else .gr g i) (.gr g i):=by
  by_cases h:i=R
  · exact .inl ⟨RH h,by rw[h]⟩
  · exact .inr ⟨(RE h).symm,.inl ⟨i,RE h,h⟩⟩
theorem GT {n m g R q:Nat} (h:R<n):NA n m g R q:=⟨h,fun i j _ _=>K7⟩
theorem xa {n m g:Nat} (h:n=m):Jz n m g:=⟨h,fun i j _ _=>⟨rfl,fun k hk=>rT hk⟩⟩
theorem NC {W W2:List (List Int)} {R k:Nat} {l:List Int} (h:W2.getD k []=if k=R then l else W.getD k []):bu W2 k=if k=R then (⟨3,1,Int,ab .i64,0,l⟩:qC)else jR (bu W) R (ju (bu W R)) k:=by
  by_cases e:k=R
  · rw[RH e]at h ⊢
    show(⟨_,_,_,_,_,W2.getD k []⟩:qC)=_
    rw[h]
  · rw[RE e]at h ⊢
    unfold jR
    rw[RE e]
    show(⟨_,_,_,_,_,W2.getD k []⟩:qC)=⟨_,_,_,_,_,W.getD k []⟩
    rw[h]
theorem jG {n R g q nn:Nat} {W W2:List (List Int)} {l:List Int} (hR:R<n) (h:∀k,k<n→W2.getD k []=if k=R then l else W.getD k []):R≤n∧n=max n (R+1)∧(∀k,k<n→bu W2 k=if k=R then (⟨3,1,Int,ab .i64,0,l⟩:qC)else jR (bu W) R (ju (bu W R)) k)∧∀i j,i<nn→j<1→Bc g R q (if i=R then .own q else .gr g i) (.gr g i) :=
  ⟨Nat.le_of_lt hR,by omega,fun k hk=>NC (h k hk),fun i j _ _=>NB⟩
theorem uV {k R:Nat} {W:List (List Int)}:W.getD k []=if k=R then W.getD R []else W.getD k []:=by
  split
  · rename_i h;rw[h]
  · rfl
theorem Af {k R n:Nat} {W:List (List Int)} {l:List Int} (hk:k<n) (hn:W.length=n) (hR:R<n):(W.set R l).getD k []=if k=R then l else W.getD k []:=by
  rw[cU (by omega)]
  by_cases h:R=k
  · rw[RH h,RH h.symm]
  · rw[RE h,RE (fun e=>h e.symm)]
theorem yk {l:List (List Int)} {n g:Nat}:∀i j,i<n→j<1→eO g (.gs (fun zr=>.sl (bu l zr).sz (bu l zr).enc (bu l zr).d (bu l zr).l)) (.gr g i)=fg aa [] l i j:=by
  intro i j hi hj
  have ZF:j=0:=by omega
  subst ZF
  unfold eO
  rw[RH (TM g)]
  rfl
abbrev QC (c:Ci) (D':List (List Int)) (J':List ByteArray):Ct:=⟨46,[(.agg (jF c)),(dL 1 aa [] D'),(dL 1 dc .empty J')],true,(.tup [(dL 1 aa [] ((iA c D' J').1)),(LI ((iA c D' J').2.1)),(i6 ((iA c D' J').2.2))])⟩
abbrev o7 (c:Ci) (D':List (List Int)) (J':List ByteArray):Lp (Nat×Ns×Uf):=LQ [3,9,10,11,38,39,40] 13 (fun (i:Nat) (sv:Ns) (uv:Uf)=>⟨[(3,(.ptr 0 0 0 0)),(9,(.ptr 1 0 0 0)),(10,(.own 12)),(11,(.own 9)),(38,(dL 1 dc .empty J')),(39,(i6 (J'.length:Int))),(40,(i6 (i:Int)))],[(.var 33 (jF c)),(pQ sv),.dead,.dead,.dead,(.grp c.J.length (bu (br c uv))),.dead,.dead,.dead,(.arr 3 1 (ab .i64) 0 (bO c uv)),.dead,.dead,(.arrD 42 1 c.J.length [5] (cG 5))]⟩) (fun (i:Nat) (sv:Ns) (uv:Uf)=>i≤J'.length∧sv=Jw c D' J' i∧uv=Ha c D' J' i) (fun (i:Nat) (sv:Ns) (uv:Uf)=>J'.length-i)
abbrev kC (c:Ci) (J':List ByteArray) (i:Nat) (sv:Ns) (uv:Uf):Lp (Nat×Uf):=pI [3,9,10,11,14,38,39,40,51,52,53] 14 (fun (k:Nat) (vv:Uf)=>⟨[(3,(.ptr 0 0 0 0)),(9,(.ptr 1 0 0 0)),(10,(.own 12)),(11,(.own 9)),(14,(.ptr 13 0 0 0)),(38,(dL 1 dc .empty J')),(39,(i6 (J'.length:Int))),(40,(i6 (i:Int))),(51,(LB (tab (av c sv (aU c (J'.getD i .empty))) c.U.length))),(52,(i6 (((tab (av c sv (aU c (J'.getD i .empty))) c.U.length).length:Nat):Int))),(53,(i6 (k:Int)))],[(.var 33 (jF c)),(pQ sv),.dead,.dead,.dead,(.grp c.J.length (bu (br c vv))),.dead,.dead,.dead,(.arr 3 1 (ab .i64) 0 (bO c vv)),.dead,.dead,(.arrD 42 1 c.J.length [5] (cG 5)),(rS c sv J' i)]⟩) (fun (k:Nat) (vv:Uf)=>k≤c.U.length∧vv=GR c sv uv (aU c (J'.getD i .empty)) k) (fun (k:Nat) (vv:Uf)=>c.U.length-k)
abbrev GU (c:Ci) (J':List ByteArray) (i:Nat) (sv:Ns) (k:Nat) (vv:Uf):List ap:=[(.var 33 (jF c)),(pQ sv),.dead,.dead,.dead,(.grp c.J.length (bu (br c vv))),.dead,.dead,.dead,(tQ c vv k),.dead,.dead,(.arrD 42 1 c.J.length [5] (cG 5)),(rS c sv J' i),.dead,.dead,.dead,.dead,.dead,.dead,.dead,.dead,.dead,.dead]
abbrev kD (c:Ci) (J':List ByteArray) (i:Nat) (sv:Ns) (k:Nat):List (Nat×D):=(BR k J' i c sv)
abbrev tc (c:Ci) (J':List ByteArray) (i:Nat) (sv:Ns) (k:Nat) (vv:Uf):List ap:=[(.var 33 (jF c)),(pQ sv),.dead,.dead,.dead,(.grp c.J.length (bu (br c (aj c vv k)))),.dead,.dead,.dead,(tQ c vv k),.dead,.dead,(.arrD 42 1 c.J.length [5] (cG 5)),(rS c sv J' i),.dead,.dead,.dead,.dead,.dead,.dead,.dead,.dead,.dead,.dead]
abbrev kE (c:Ci) (J':List ByteArray) (i:Nat) (sv:Ns) (k:Nat) (vv:Uf) (T9:Array Value):Lp (Nat×List (List Int)):=pI [0,5,9,10,11] 27 (fun (m:Nat) (em:List (List Int))=>⟨[(0,(.own 12)),(5,(.ptr 26 0 0 0)),(9,(dL 16 gd aB ((c.U.getD k ac).Rv))),(10,(i6 ((((c.U.getD k ac).Rv).length:Nat):Int))),(11,(i6 (m:Int)))],[(.var 33 (jF c)),(pQ sv),.dead,.dead,.dead,(.grp c.J.length (bu em)),.dead,.dead,.dead,(tQ c vv k),.dead,.dead,(.arrD 42 1 c.J.length [5] (cG 5)),(rS c sv J' i),.dead,.dead,.dead,.dead,.dead,.dead,.dead,.dead,.dead,.dead,(.frame T9 (BR k J' i c sv)),(BS c k),(.var 101 (yj c sv k))]⟩) (fun (m:Nat) (em:List (List Int))=>m≤(c.U.getD k ac).Rv.length∧em=bB (br c vv) (kS (c.U.getD k ac) (dD c sv k) m)) (fun (m:Nat) (em:List (List Int))=>(c.U.getD k ac).Rv.length-m)
abbrev BT (c:Ci) (J':List ByteArray) (i:Nat) (sv:Ns) (k:Nat) (vv:Uf) (T9:Array Value) (m:Nat) (em:List (List Int)):List ap:=[(.var 33 (jF c)),(pQ sv),.dead,.dead,.dead,(.grp c.J.length (jR (bu em) (((c.U.getD k ac).Rv.getD m aB).chan.toNat) (ju (bu em (((c.U.getD k ac).Rv.getD m aB).chan.toNat))))),.dead,.dead,.dead,(tQ c vv k),.dead,.dead,(.arrD 42 1 c.J.length [28,5] (cT 5 28 (((c.U.getD k ac).Rv.getD m aB).chan.toNat))),(rS c sv J' i),.dead,.dead,.dead,.dead,.dead,.dead,.dead,.dead,.dead,.dead,(.frame T9 (BR k J' i c sv)),(BS c k),(.var 101 (yj c sv k)),(Jy c k m),(.arr 3 1 (ab .i64) 0 (em.getD (((c.U.getD k ac).Rv.getD m aB).chan.toNat) [])),.dead,.dead,.dead,.dead,.dead,.dead,.dead,.dead,.dead,.dead,.dead,.dead,.dead,.dead,.dead]
abbrev BU (c:Ci) (J':List ByteArray) (i:Nat) (sv:Ns) (k:Nat) (vv:Uf) (T9:Array Value) (m:Nat) (em:List (List Int)):List ap:=[(.var 33 (jF c)),(pQ sv),.dead,.dead,.dead,(.grp c.J.length (jR (bu em) (((c.U.getD k ac).Rv.getD m aB).chan.toNat) (ju (bu em (((c.U.getD k ac).Rv.getD m aB).chan.toNat))))),.dead,.dead,.dead,(tQ c vv k),.dead,.dead,(.arrD 42 1 c.J.length [5] (cK 5 28 (((c.U.getD k ac).Rv.getD m aB).chan.toNat))),(rS c sv J' i),.dead,.dead,.dead,.dead,.dead,.dead,.dead,.dead,.dead,.dead,(.frame T9 (BR k J' i c sv)),(BS c k),(.var 101 (yj c sv k)),(Jy c k m),(.arr 3 1 (ab .i64) 0 ((em.getD (((c.U.getD k ac).Rv.getD m aB).chan.toNat) [])++[(((dD c sv k)).Rv.getD m aJ).v])),.dead,.dead,.dead,.dead,.dead,.dead,.dead,.dead,.dead,.dead,.dead,.dead,.dead,.dead,.dead]
abbrev BV (c:Ci) (J':List ByteArray) (i:Nat) (sv:Ns) (k:Nat) (vv:Uf) (T9:Array Value) (m:Nat) (em:List (List Int)):List ap:=[(.var 33 (jF c)),(pQ sv),.dead,.dead,.dead,(.grp c.J.length (jR (bu em) (((c.U.getD k ac).Rv.getD m aB).chan.toNat) (ju (bu em (((c.U.getD k ac).Rv.getD m aB).chan.toNat))))),.dead,.dead,.dead,(tQ c vv k),.dead,.dead,(.arrD 42 1 c.J.length [28,5] (cT 5 28 (((c.U.getD k ac).Rv.getD m aB).chan.toNat))),(rS c sv J' i),.dead,.dead,.dead,.dead,.dead,.dead,.dead,.dead,.dead,.dead,(.frame T9 (BR k J' i c sv)),(BS c k),(.var 101 (yj c sv k)),(Jy c k m),(.arr 3 1 (ab .i64) 0 ((em.getD (((c.U.getD k ac).Rv.getD m aB).chan.toNat) [])++[(((dD c sv k)).Rv.getD m aJ).v])),.dead,.dead,.dead,.dead,.dead,.dead,.dead,.dead,.dead,.dead,.dead,.dead,.dead,.dead,.dead]
def te (c:Ci) (J':List ByteArray) (i:Nat) (sv:Ns) (k:Nat) (vv:Uf) (T9:Array Value) (m:Nat) (em:List (List Int)) (zn:Nat):St:=⟨fE zn [(0,0,0,0,(.own 12)),(5,0,0,0,(.ptr 26 0 0 0)),(7,0,0,196614,(.ptr 27 0 0 0)),(9,0,0,0,(dL 16 gd aB ((c.U.getD k ac).Rv))),(10,0,0,0,(i6 ((((c.U.getD k ac).Rv).length:Nat):Int))),(11,0,0,0,(i6 (m:Int))),(22,1,0,196608,(.own 12)),(23,2,0,196612,(.ptr 27 0 0 0)),(24,6,0,196608,(i6 ((((c.U.getD k ac).Rv).getD m aB).chan))),(29,0,0,229376,(.own 28)),(36,0,0,229376,(LI [(((dD c sv k)).Rv.getD m aJ).v])),(37,32768,0,131072,(.own 28)),(38,98311,0,131072,(.ptr 12 (((((c.U.getD k ac).Rv).getD m aB).chan).toNat) 1 0))],(if Nat.beq (zn &&& 229383) 229383 then (BV c J' i sv k vv T9 m em)else (if Nat.beq (zn &&& 32768) 32768 then (BU c J' i sv k vv T9 m em)else (BT c J' i sv k vv T9 m em)))⟩
theorem GV (c:Ci) (D':List (List Int)) (J':List ByteArray) (hc:be c) (hq:J5 c) (hl:D'.length≤9223372036854775807) (hs:∀i,(D'.getD i []).length≤9223372036854775807) (hcl:J'.length≤9223372036854775807):CC (QC c D' J'):=by
 have UU:=hc.nl
 have hcl:=hc.cl
 refine ah.vc (V:=TT 4 (CS ((cJ c D')=true) (TT 2 (CC (Ju c D')∧TT 1 ((True∧(!(cJ c D'))=false)∧TT 4 (CD ((J'.length:Int)>100) (TT 6 (((iA c D' J').1)=[]∧((iA c D' J').2.1)=[]∧(1:Int)=((iA c D' J').2.2)∧True)) (TT 1 (CC (Qp c)∧TT 3 (CO (Nu D')∧TT 3 ((D'.length=D'.length∧(∀x∈D',(aa x).length=1)∧∀zi zj,zi<D'.length→zj<1→(fun (zi zj:Nat)=>eO 2 (.gs (fun zr=>.sl ((bu D') zr).sz ((bu D') zr).enc ((bu D') zr).d ((bu D') zr).l)) ((fun (zi zj:Nat)=>Gi 2 ((fun i _=>.me i) zi zj)) zi zj)) zi zj=fg aa [] D' zi zj)∧TT 1 (CO (Nu D')∧TT 3 ((((0:Int)≤(c.U.length:Int)∧(c.U.length:Int)≤(c.U.length:Int)∧(c.U.length:Int)≤137438953472)∧(bO c (u0 c D')).length=c.U.length∧∀x∈(bO c (u0 c D')),cg [(i6 0)] ((ab .i64) x))∧TT 3 ((c.J.length=D'.length∧∀zi zj,zi<c.J.length→zj<1→(cG 5) zi zj=(fun (zi zj:Nat)=>Gi 5 ((fun i _=>.me i) zi zj)) zi zj∧∀z8,[5].all (fun g=>!(Nat.beq g z8))=true→((cG 5) zi zj).free z8=true)∧(c.J.length=D'.length∧∀z8,z8<c.J.length→bu (br c (u0 c D')) z8=(bu D') z8)∧TT 3 (GO (o7 c D' J') (0,G9 c D',u0 c D') (∀i sv uv,(o7 c D' J').inv (i,sv,uv)→TT 1 (CD ((i:Int)<(J'.length:Int)) (IX (i:Int) J'.length∧TT 5 (CC (Qt c sv (J'.getD i .empty))∧TT 9 (GO (kC c J' i sv uv) (0,uv) (∀k vv,(kC c J' i sv uv).inv (k,vv)→TT 1 (CD ((k:Int)<(((tab (av c sv (aU c (J'.getD i .empty))) c.U.length).length:Nat):Int)) (TT 1 (IX (k:Int) ((tab (av c sv (aU c (J'.getD i .empty))) c.U.length).length)∧TT 4 (CB (((tab (av c sv (aU c (J'.getD i .empty))) c.U.length).getD k false)) (TT 2 (IX (k:Int) ((bO c vv).length)∧(k<(bO c vv).length∧True)∧W6 (((bO c vv).getD k 0)+1)∧IX (k:Int) ((bO c vv).length)∧(k<(bO c vv).length∧((bO c vv).map (ab .i64)).set k (((ab .i64) ((bO c vv).getD k 0)).take 0++[(.int .i64 (((bO c vv).getD k 0)+1))]++((ab .i64) ((bO c vv).getD k 0)).drop (0+1))=(bO c (aj c vv k)).map (ab .i64))∧TT 4 (IX (k:Int) c.U.length∧TT 4 (CC (QB c sv k)∧vU Tryz.prog 75 [(.own 12),(L9 c k),(.agg (yj c sv k))] (GU c J' i sv k vv) (kD c J' i sv k) (tc c J' i sv k vv) [] (.tup [])∧W6 ((k+1:Nat):Int)∧TT 1 (AG (kC c J' i sv uv) (k,vv) (k+1,aj c vv k)))))) (W6 ((k+1:Nat):Int)∧TT 1 (AG (kC c J' i sv uv) (k,vv) (k+1,vv)))))) (TT 2 (W6 ((i+1:Nat):Int)∧TT 1 (AG (o7 c D' J') (i,sv,uv) (i+1,bk c sv (aU c (J'.getD i .empty)),vv))))))))) (((br c uv).length=c.J.length∧(∀x∈(br c uv),(aa x).length=1)∧∀zi zj,zi<c.J.length→zj<1→(fun (zi zj:Nat)=>eO 5 (.gs (fun zr=>.sl ((bu (br c uv)) zr).sz ((bu (br c uv)) zr).enc ((bu (br c uv)) zr).d ((bu (br c uv)) zr).l)) ((cG 5) zi zj)) zi zj=fg aa [] (br c uv) zi zj)∧TT 8 ((br c uv).map aa=((iA c D' J').1).map aa∧(bO c uv).map (ab .i64)=((iA c D' J').2.1).map (ab .i64)∧(0:Int)=((iA c D' J').2.2)∧True)))))))))))))))) (TT 2 (CC (Ju c D')∧TT 1 ((True∧(!(cJ c D'))=true)∧TT 10 (((iA c D' J').1)=[]∧((iA c D' J').2.1)=[]∧(1:Int)=((iA c D' J').2.2)∧True)))))) (.s 1 ((cJ c D')=true) (.w 1 [(2,(Ju c D').O),(4,.val (dB false))]<|.b 26 (.e) (.w 3 [(1,(Qp c).O)]<|.w 4 [(1,(Nu D').O)]<|.gh 5 (xN 2)<|.f 5 2<|.gh 5 (Km 3 aa [] D')<|.f 5 3<|.w 5 [(1,(Nu D').O),(5,.box 3 1 (ab .i64) 0 (bO c (u0 c D')))]<|.gh 6 (xN 5)<|.gh 6 (eE 12 c.J.length [5] (cG 5))<|.gh 6 (tz 5 c.J.length (bu (br c (u0 c D'))))<|.l (o7 c D' J') (0,G9 c D',u0 c D') (fun ⟨i,sv,uv⟩=>.b 41 (.w 9 [(3,(Qt c sv (J'.getD i .empty)).O)]<|.l (kC c J' i sv uv) (0,uv) (fun ⟨k,vv⟩=>.b 54 (.b 58 (.w 14 [(4,.val (i6 (((bO c vv).getD k 0)+1))),(6,.box 3 1 (ab .i64) 0 (bO c (aj c vv k)))]<|.q 15 [3,9,10,11,14,16,38,39,40,51,52,53] 14<|.w 15 [(9,(QB c sv k).O),(10,.inl (.tup []) (kD c J' i sv k) ((tc c J' i sv k vv)++.dead::[]))]<|.w 16 [(0,.val (i6 ((k+1:Nat):Int)))]<|.e) (.w 16 [(0,.val (i6 ((k+1:Nat):Int)))]<|.e)) (.w 18 [(0,.val (i6 ((i+1:Nat):Int)))]<|.e))) (.f 19 5<|.gh 19 (Km 12 aa [] (br c uv))<|.f 19 12<|.e)))) (.w 1 [(2,(Ju c D').O),(4,.val (dB true))]<|.e)) Tryz.func46 rfl rfl rfl (by kernel_rfl) ?_
 refine tt ⟨fun T7=>?_,fun T7=>?_⟩
 · refine tt ⟨(kA c D' hc hl hs),tt ⟨(mF T7),tt (cd (fun Wh=>?_) (fun Wh=>?_))⟩⟩
   · refine tt ⟨?_,?_,?_,oK⟩
     all_goals (all_goals (first | (rw[lN (by rintro⟨q1,q2⟩;first | omega | (simp_all;done))];done) | (rw[ia (bM.2 hin) (by omega),← lP (show J'.length≤i by omega),← Zl])))
   · have hin:nz c D':=bM.1 (by first | assumption | simpa using T7)
     have WL:bO c (u0 c D')=List.replicate c.U.length (0:Int):=Ad
     have X2:br c (u0 c D')=D':=Ac 0 hin.l
     refine tt ⟨(GD c hc),tt ⟨(qv D' (lO hin hc).1 (lO hin hc).2),tt ⟨⟨rfl,fun _ _=>rfl,yk⟩,tt ⟨(qv D' (lO hin hc).1 (lO hin hc).2),tt ⟨⟨by omega,by rw[WL,RC],fun x hx=>by rw[WL]at hx;rw[RS hx];exact⟨rfl,oK⟩⟩,tt ⟨⟨hin.l.symm,fun i j _ _=>⟨rfl,fun k hk=>rT hk⟩⟩,⟨⟨hin.l.symm,fun k _=>by rw[X2]⟩,tt ⟨rfl,⟨by omega,rfl,rfl⟩,?_⟩⟩⟩⟩⟩⟩⟩⟩
     intro i sv uv I'
     obtain⟨hi,hsv,Zl⟩:=I'
     obtain⟨UL,hnu,W7,ZD⟩:=Fv (J':=J') (i:=i) hc hin
     have XU:=L7 (J':=J') (i:=i) hc hin (by omega)
     have ZA:=Ab (J':=J') (i:=i) hc hin (by omega)
     rw[← hsv]at W7 hnu XU
     rw[← Zl]at hnu ZA ZD
     have Wp:=W7.pl
     have VJ:=W7.cl
     refine tt (cd (fun hc41=>?_) (fun hc41=>?_))
     · refine⟨ix,tt ⟨(IZ c sv (J'.getD i .empty) hc W7 (fun n=>SG (XU n) (by decide))),tt ⟨rfl,⟨by omega,rfl⟩,?_⟩⟩⟩
       intro k vv I'
       obtain⟨hk0,V7⟩:=I'
       have YY:=Fx (w:=(aU c (J'.getD i .empty))) (k:=k) hc W7 hnu (by omega)
       have hvc:=Fy (c:=c) (s:=sv) (u:=uv) (w:=(aU c (J'.getD i .empty))) (k:=k)
       rw[← V7]at YY hvc
       have hvcl:(bO c vv).length=c.U.length:=am _ _
       have htl:(tab (av c sv (aU c (J'.getD i .empty))) c.U.length).length=c.U.length:=am _ _
       refine tt (cd (fun U4=>?_) (fun U4=>?_))
       · refine tt ⟨ix,tt ⟨fun Wi=>?_,fun Wi=>?_⟩⟩
         · have hf:av c sv (aU c (J'.getD i .empty)) k=true:=by rw[← Wi];exact(aD (show k<c.U.length by omega)).symm
           have Uz:fw c vv k=dD c sv k:=by rw[V7];exact Nz hc W7 hnu (by omega) hf
           have XQ:(bO c vv).getD k 0=(vv.cnt k:Int):=tb (by omega)
           have hvck:=hvc k
           have hcnk:=ZD k
           refine tt ⟨ix,⟨⟨om,oK⟩,⟨w6,⟨ix,⟨⟨by rw[am];omega,by rw[← zZ (show k<c.U.length by omega),XQ,Ss];rfl⟩,tt ⟨ix,tt ⟨(GS c sv k hc hq W7 (by omega)),⟨?_,?_⟩⟩⟩⟩⟩⟩⟩⟩
           · intro T9
             refine fO.vc (V:=TT 6 (GO (kE c J' i sv k vv T9) (0,br c vv) (∀m em,(kE c J' i sv k vv T9).inv (m,em)→TT 1 (CD ((m:Int)<((((c.U.getD k ac).Rv).length:Nat):Int)) (TT 1 (IX (m:Int) (((c.U.getD k ac).Rv).length)∧TT 7 (IX (m:Int) (((dD c sv k).Rv).length)∧TT 2 (CB ((((dD c sv k).Rv).getD m aJ).has) (NA c.J.length c.J.length 5 (((c.U.getD k ac).Rv.getD m aB).chan.toNat) 28∧TT 6 (IX ((((c.U.getD k ac).Rv).getD m aB).chan) c.J.length∧((((((c.U.getD k ac).Rv).getD m aB).chan).toNat<c.J.length∧True)∧p6 ((cT 5 28 (((c.U.getD k ac).Rv.getD m aB).chan.toNat)) (((((c.U.getD k ac).Rv).getD m aB).chan).toNat) 0) (.own 28))∧TT 3 (IX (m:Int) (((dD c sv k).Rv).length)∧TT 2 (ai [[(i6 ((((dD c sv k).Rv).getD m aJ).v))]] ([(((dD c sv k)).Rv.getD m aJ).v].map (ab .i64))∧(fun (zz:Nat→St)=>zz 32767=zz 32767∧zz 32766=zz 32766∧zz 32763=zz 32763∧zz 32762=zz 32762∧zz 32761=zz 32761∧zz 32760=zz 32760∧True) (te c J' i sv k vv T9 m em)∧(fun (zz:Nat→St) (U2 YG zp2:Prop)=>(sE (zz 65535) U2∧True)∧(sE (zz 32767) True∧sE (zz 65534) U2∧True)∧(sE (zz 32767) True∧sE (zz 65531) U2∧True)∧(sE (zz 32763) True∧sE (zz 32766) True∧sE (zz 65530) U2∧True)∧(sE (zz 32763) True∧sE (zz 65529) U2∧True)∧(sE (zz 32761) True∧sE (zz 32762) True∧sE (zz 65528) U2∧True)∧(sE (zz 131071) YG∧True)∧(sE (zz 65535) True∧True)∧(sE (zz 65535) True∧True)∧(sE (zz 65531) True∧sE (zz 65534) True∧True)∧(sE (zz 65531) True∧True)∧(sE (zz 65529) True∧sE (zz 65530) True∧True)∧(sE (zz 262143) zp2∧True)∧True∧True) (te c J' i sv k vv T9 m em) ((em.getD (((c.U.getD k ac).Rv.getD m aB).chan.toNat) []).length+([(((dD c sv k)).Rv.getD m aJ).v].map (ab .i64)).length≤137438953472∧(em.getD (((c.U.getD k ac).Rv.getD m aB).chan.toNat) []).map (ab .i64)++[(((dD c sv k)).Rv.getD m aJ).v].map (ab .i64)=((em.getD (((c.U.getD k ac).Rv.getD m aB).chan.toNat) [])++[(((dD c sv k)).Rv.getD m aJ).v]).map (ab .i64)) (IX ((((c.U.getD k ac).Rv).getD m aB).chan) c.J.length) (((((c.U.getD k ac).Rv).getD m aB).chan).toNat<c.J.length∧mJ 1 c.J.length (((((c.U.getD k ac).Rv).getD m aB).chan).toNat) 0 [(.own 28)] [28,5] (cK 5 28 (((c.U.getD k ac).Rv.getD m aB).chan.toNat)) (cT 5 28 (((c.U.getD k ac).Rv.getD m aB).chan.toNat)))∧Ma c.J.length c.J.length 5 (((c.U.getD k ac).Rv.getD m aB).chan.toNat) 28 em (em.set (((c.U.getD k ac).Rv.getD m aB).chan.toNat) (em.getD (((c.U.getD k ac).Rv.getD m aB).chan.toNat) []++[(((dD c sv k)).Rv.getD m aJ).v])) ((em.getD (((c.U.getD k ac).Rv.getD m aB).chan.toNat) [])++[(((dD c sv k)).Rv.getD m aJ).v])∧Jz c.J.length c.J.length 5∧W6 ((m+1:Nat):Int)∧TT 1 (AG (kE c J' i sv k vv T9) (m,em) (m+1,em.set (((c.U.getD k ac).Rv.getD m aB).chan.toNat) (em.getD (((c.U.getD k ac).Rv.getD m aB).chan.toNat) []++[(((dD c sv k)).Rv.getD m aJ).v]))))))) (W6 ((m+1:Nat):Int)∧TT 1 (AG (kE c J' i sv k vv T9) (m,em) (m+1,em))))))) (True∧([(.var 33 (jF c)),(pQ sv),.dead,.dead,.dead,(.grp c.J.length (bu em)),.dead,.dead,.dead,(tQ c vv k),.dead,.dead,(.arrD 42 1 c.J.length [5] (cG 5)),(rS c sv J' i),.dead,.dead,.dead,.dead,.dead,.dead,.dead,.dead,.dead,.dead,.frame T9 (kD c J' i sv k)]:List ap)=(tc c J' i sv k vv)++.frame T9 (kD c J' i sv k)::[]))))) (.l (kE c J' i sv k vv T9) (0,br c vv) (fun ⟨m,em⟩=>.b 12 (.b 21 (.gh 5 (take 12 5 (((c.U.getD k ac).Rv.getD m aB).chan.toNat) (cT 5 28 (((c.U.getD k ac).Rv.getD m aB).chan.toNat)))<|.y 5 [(7,.val (.own 28)),(14,.box 3 1 (ab .i64) 0 [(((dD c sv k)).Rv.getD m aJ).v]),(15,.box 3 1 (ab .i64) 0 ((em.getD (((c.U.getD k ac).Rv.getD m aB).chan.toNat) [])++[(((dD c sv k)).Rv.getD m aJ).v])),(17,.cells [28,5] (cT 5 28 (((c.U.getD k ac).Rv.getD m aB).chan.toNat)))] ((fun (zz:Nat→St)=>[(bm 18 32767,zz 32767),(bm 18 32766,zz 32766),(bm 18 32763,zz 32763),(bm 18 32762,zz 32762),(bm 18 32761,zz 32761),(bm 18 32760,zz 32760),(bm 18 65535,zz 65535),(bm 18 65534,zz 65534),(bm 18 65531,zz 65531),(bm 18 65530,zz 65530),(bm 18 65529,zz 65529),(bm 18 65528,zz 65528),(bm 18 131071,zz 131071),(bm 18 262143,zz 262143)]) (te c J' i sv k vv T9 m em))<|.gh 6 (put 12 5 28 (((c.U.getD k ac).Rv.getD m aB).chan.toNat) c.J.length (cG 5) (bu (em.set (((c.U.getD k ac).Rv.getD m aB).chan.toNat) (em.getD (((c.U.getD k ac).Rv.getD m aB).chan.toNat) []++[(((dD c sv k)).Rv.getD m aJ).v]))))<|.gh 6 (eE 12 c.J.length [5] (cG 5))<|.w 6 [(0,.val (i6 ((m+1:Nat):Int)))]<|.e) (.w 6 [(0,.val (i6 ((m+1:Nat):Int)))]<|.e)) (.e))) Tryz.func75 rfl rfl (by kernel_rfl) ?_
             have Xf:((dD c sv k)).Rv.length=(c.U.getD k ac).Rv.length:=eh _ _ _ _
             have ht3:(c.U.getD k ac).Rv.length≤100:=(hc.pr k (by omega)).pl
             refine tt ⟨rfl,⟨by omega,rfl⟩,?_⟩
             intro m em I'
             obtain⟨hm,VS⟩:=I'
             have YC:em.length=c.J.length:=by rw[VS,cR];exact am _ _
             refine tt (cd (fun VQ=>?_) (fun VQ=>?_))
             · refine tt ⟨ix,tt ⟨ix,tt ⟨fun W8=>?_,fun W8=>?_⟩⟩⟩
               · have W9:m<(c.U.getD k ac).Rv.length:=by omega
                 have WB:0≤((c.U.getD k ac).Rv.getD m aB).chan∧((c.U.getD k ac).Rv.getD m aB).chan<c.J.length:=⟨(hc.pt k (by omega) m W9).1,(hc.pt k (by omega) m W9).2.1⟩
                 have X5:(em.getD ((c.U.getD k ac).Rv.getD m aB).chan.toNat []).length+1≤137438953472:=by
                   rw[VS]
                   exact SG (Nat.succ_le_succ (Fp (p:=k) (by omega))) (by have:=YY (((c.U.getD k ac).Rv.getD m aB).chan.toNat);have:=ZA (((c.U.getD k ac).Rv.getD m aB).chan.toNat);omega)
                 refine⟨(GT om),tt ⟨ix,⟨⟨⟨om,oK⟩,tR⟩,tt ⟨ix,tt ⟨⟨⟨rfl,oK⟩,oK⟩,⟨⟨rfl,rfl,rfl,rfl,rfl,rfl,oK⟩,⟨⟨⟨⟨rfl,⟨by simp only[RJ,RK,RN];first | omega | (simp;first | done | omega),by simp only[RO,R4,RL]⟩,oK⟩,oK⟩,⟨⟨rfl,oK,oK⟩,⟨rfl,⟨by simp only[RJ,RK,RN];first | omega | (simp;first | done | omega),by simp only[RO,R4,RL]⟩,oK⟩,oK⟩,⟨⟨rfl,oK,oK⟩,⟨rfl,⟨by simp only[RJ,RK,RN];first | omega | (simp;first | done | omega),by simp only[RO,R4,RL]⟩,oK⟩,oK⟩,⟨⟨rfl,oK,oK⟩,⟨rfl,oK,oK⟩,⟨rfl,⟨by simp only[RJ,RK,RN];first | omega | (simp;first | done | omega),by simp only[RO,R4,RL]⟩,oK⟩,oK⟩,⟨⟨rfl,oK,oK⟩,⟨rfl,⟨by simp only[RJ,RK,RN];first | omega | (simp;first | done | omega),by simp only[RO,R4,RL]⟩,oK⟩,oK⟩,⟨⟨rfl,oK,oK⟩,⟨rfl,oK,oK⟩,⟨rfl,⟨by simp only[RJ,RK,RN];first | omega | (simp;first | done | omega),by simp only[RO,R4,RL]⟩,oK⟩,oK⟩,⟨⟨rfl,ix,oK⟩,oK⟩,⟨⟨rfl,oK,oK⟩,oK⟩,⟨⟨rfl,oK,oK⟩,oK⟩,⟨⟨rfl,oK,oK⟩,⟨rfl,oK,oK⟩,oK⟩,⟨⟨rfl,oK,oK⟩,oK⟩,⟨⟨rfl,oK,oK⟩,⟨rfl,oK,oK⟩,oK⟩,⟨⟨rfl,⟨om,rU rfl⟩,oK⟩,oK⟩,oK,oK⟩,⟨(jG (by omega) (fun k9 hk9=>Af (n:=c.J.length) (R:=((c.U.getD k ac).Rv.getD m aB).chan.toNat) hk9 YC (by omega))),⟨(xa rfl),⟨w6,tt ⟨(m+1,em.set (((c.U.getD k ac).Rv.getD m aB).chan.toNat) (em.getD (((c.U.getD k ac).Rv.getD m aB).chan.toNat) []++[(((dD c sv k)).Rv.getD m aJ).v])),rfl,?_,(?_:(c.U.getD k ac).Rv.length-(m+1)<(c.U.getD k ac).Rv.length-m)⟩⟩⟩⟩⟩⟩⟩⟩⟩⟩⟩
                 · exact⟨by omega,by rw[oQ W8,VS];exact(fW _ _ _ _).symm⟩
                 · omega
               · refine⟨w6,tt ⟨(m+1,em),rfl,?_,(?_:(c.U.getD k ac).Rv.length-(m+1)<(c.U.getD k ac).Rv.length-m)⟩⟩
                 · exact⟨by omega,by rw[sX W8,VS]⟩
                 · omega
             · refine⟨oK,congrArg (fun (z0:List (List Int))=>([(.var 33 (jF c)),(pQ sv),.dead,.dead,.dead,(.grp c.J.length (bu z0)),.dead,.dead,.dead,(tQ c vv k),.dead,.dead,(.arrD 42 1 c.J.length [5] (cG 5)),(rS c sv J' i),.dead,.dead,.dead,.dead,.dead,.dead,.dead,.dead,.dead,.dead,.frame T9 (kD c J' i sv k)]:List ap)) (?_:em=(br c (aj c vv k)))⟩
               rw[VS,show m=(c.U.getD k ac).Rv.length by omega,← z4 hc (by omega),Uz]
           refine⟨w6,tt ⟨(k+1,aj c vv k),rfl,?_,(?_:c.U.length-(k+1)<c.U.length-k)⟩⟩
           · exact⟨by omega,by rw[V7];exact(Fw hf).symm⟩
           · omega
         · have hf:av c sv (aU c (J'.getD i .empty)) k=false:=by rw[← Wi];exact(aD (show k<c.U.length by omega)).symm
           refine⟨w6,tt ⟨(k+1,vv),rfl,?_,(?_:c.U.length-(k+1)<c.U.length-k)⟩⟩
           · exact⟨by omega,by rw[V7];exact(Jx hf).symm⟩
           · omega
       · refine tt ⟨w6,tt ⟨(i+1,bk c sv (aU c (J'.getD i .empty)),vv),rfl,?_,(?_:J'.length-(i+1)<J'.length-i)⟩⟩
         · exact⟨by omega,by rw[BO (by omega),← hsv],by rw[V7,show k=c.U.length by omega,BP (by omega),← hsv,← Zl];rfl⟩
         · omega
     · refine⟨⟨(am _ _),fun _ _=>rfl,yk⟩,tt ⟨(congrArg _ (?_:(br c uv)=((iA c D' J').1))),(congrArg _ (?_:(bO c uv)=((iA c D' J').2.1))),?_,oK⟩⟩
       all_goals (all_goals (first | (rw[lN (by rintro⟨q1,q2⟩;first | omega | (simp_all;done))];done) | (rw[ia (bM.2 hin) (by omega),← lP (show J'.length≤i by omega),← Zl])))
 · refine tt ⟨(kA c D' hc hl hs),tt ⟨(mT T7),tt ⟨?_,?_,?_,oK⟩⟩⟩
   all_goals (all_goals (first | (rw[lN (by rintro⟨q1,q2⟩;first | omega | (simp_all;done))];done) | (rw[ia (bM.2 hin) (by omega),← lP (show J'.length≤i by omega),← Zl])))
abbrev tS (c:Ci) (n:Int) (w:Uf) (k:Nat):List D:=[(dB ((b7 c n.toNat w k).fires)),(LI (((b7 c n.toNat w k).s).Ry)),(dL 1 aa [] (((b7 c n.toNat w k).s).Rx)),(LB ((b7 c n.toNat w k).pops)),(dL 2 bt aJ ((b7 c n.toNat w k).Rv))]
abbrev tf:D:=(.fn (.func 98) [] [(.ptr 19 0 0 0)])
abbrev cL:D:=(.ptr 14 0 0 0)
abbrev rV:List (Nat×D):=[(60,tf),(59,cL),(6,.nils),(7,.nils),(8,(i6 0)),(9,(.ptr 15 0 0 0))]
abbrev cj (c:Ci) (n:Int):ap:=(.var 155 [(dL 6 fS ac c.U),(dL 5 ga bK c.J),(.own 16),(.own 17),(.own 7),(.own 11),(i6 n)])
abbrev bC (k:Nat):D:=(i6 (k:Int))
abbrev jZ (c:Ci):D:=(i6 (c.U.length:Int))
abbrev ib (Um:Array Value) (c:Ci) (n:Int) (w:Uf) (k:Nat):ap:=(.frame Um [(46,(.agg (tS c n w k))),(45,(bC k)),(44,(.yld 20)),(0,(.yld 20)),(1,(.ptr 19 0 0 0)),(3,(bC k)),(4,(bC k)),(5,(.ptr 22 0 0 0)),(26,(jZ c)),(27,(bC k))])
abbrev wy (c:Ci) (k:Nat):D:=(dL 9 ir aF ((c.U.getD k ac).I))
abbrev JA (c:Ci) (k:Nat):D:=(.agg [(dS ((c.U.getD k ac).name)),(dS ((c.U.getD k ac).clock)),(dL 13 gM bH ((c.U.getD k ac).Ry)),(dL 27 m3 aP ((c.U.getD k ac).Rx)),(wy c k),(dL 16 gd aB ((c.U.getD k ac).Rv))])
abbrev BW (k:Nat) (c:Ci) (n:Int) (w:Uf):List (Nat×D):=[(0,cL),(1,(bC k)),(5,(.ptr 26 0 0 0)),(56,cL),(57,cL),(58,(.ptr 14 0 0 3)),(59,(.own 17)),(60,cL),(61,cL),(62,cL),(63,cL),(64,(dL 6 fS ac c.U)),(65,(bC k)),(66,(.iptr (fS (c.U.getD k ac)) 0)),(67,(JA c k)),(68,(.agg (tS c n w k)))]
abbrev pR (c:Ci) (k:Nat):ap:=(.var 63 [(dS ((c.U.getD k ac).name)),(dS ((c.U.getD k ac).clock)),(dL 13 gM bH ((c.U.getD k ac).Ry)),(dL 27 m3 aP ((c.U.getD k ac).Rx)),(wy c k),(dL 16 gd aB ((c.U.getD k ac).Rv))])
abbrev pS (c:Ci) (n:Int) (w:Uf) (k:Nat):List D:=[(dB ((b7 c n.toNat (aj c w k) k).fires)),(LI (((b7 c n.toNat (aj c w k) k).s).Ry)),(dL 1 aa [] (((b7 c n.toNat (aj c w k) k).s).Rx)),(LB ((b7 c n.toNat (aj c w k) k).pops)),(dL 2 bt aJ ((b7 c n.toNat (aj c w k) k).Rv))]
abbrev bV (c:Ci):ap:=(.var 33 [(dL 6 fS ac c.U),(dL 5 ga bK c.J)])
abbrev JB (c:Ci) (k m:Nat):ap:=(.var 117 [(i6 ((((c.U.getD k ac).Rv).getD m aB).chan)),(i6 ((((c.U.getD k ac).Rv).getD m aB).w)),(i6 (((((c.U.getD k ac).Rv).getD m aB).when).op)),(dS (((((c.U.getD k ac).Rv).getD m aB).when).name)),(i6 ((((((c.U.getD k ac).Rv).getD m aB).when).k).n)),(dS ((((((c.U.getD k ac).Rv).getD m aB).when).k).p)),(i6 ((((((c.U.getD k ac).Rv).getD m aB).when).w).n)),(dS ((((((c.U.getD k ac).Rv).getD m aB).when).w).p)),(dL 7 (eA 2) dE (((((c.U.getD k ac).Rv).getD m aB).when).args)),(i6 (((((c.U.getD k ac).Rv).getD m aB).data).op)),(dS (((((c.U.getD k ac).Rv).getD m aB).data).name)),(i6 ((((((c.U.getD k ac).Rv).getD m aB).data).k).n)),(dS ((((((c.U.getD k ac).Rv).getD m aB).data).k).p)),(i6 ((((((c.U.getD k ac).Rv).getD m aB).data).w).n)),(dS ((((((c.U.getD k ac).Rv).getD m aB).data).w).p)),(dL 7 (eA 2) dE (((((c.U.getD k ac).Rv).getD m aB).data).args))])
abbrev aR:ap:=(.var 153 [cL])
abbrev j5 (c:Ci) (n:Int) (v:Uf) (k:Nat):List D:=[(dB ((b7 c n.toNat v k).fires)),(LI (((b7 c n.toNat v k).s).Ry)),(dL 1 aa [] (((b7 c n.toNat v k).s).Rx)),(LB ((b7 c n.toNat v k).pops)),(dL 2 bt aJ ((b7 c n.toNat v k).Rv))]
abbrev j6 (c:Ci) (n:Int) (w:Uf) (k:Nat):List (Nat×D):=[(65,(.agg (tS c n w k))),(64,(bC k)),(63,cL),(9,(.ptr 15 0 0 0)),(12,(bC k)),(13,(.ptr 24 0 0 0))]
abbrev DE (c:Ci) (k:Nat) (w:Uf) (hh:List Hd):D:=(dB ((ax (c.U.getD k ac) ((aj c w k).s k) hh (List.replicate (((c.U.getD k ac).Rv).length) true)).fires))
abbrev JC (c:Ci) (k:Nat) (w:Uf) (hh:List Hd):ap:=(.var 101 [(DE c k w hh),(LI (((ax (c.U.getD k ac) ((aj c w k).s k) hh (List.replicate (((c.U.getD k ac).Rv).length) true)).s).Ry)),(dL 1 aa [] (((ax (c.U.getD k ac) ((aj c w k).s k) hh (List.replicate (((c.U.getD k ac).Rv).length) true)).s).Rx)),(LB ((ax (c.U.getD k ac) ((aj c w k).s k) hh (List.replicate (((c.U.getD k ac).Rv).length) true)).pops)),(dL 2 bt aJ ((ax (c.U.getD k ac) ((aj c w k).s k) hh (List.replicate (((c.U.getD k ac).Rv).length) true)).Rv))])
abbrev dX (c:Ci) (w:Uf) (k:Nat):ap:=(.arr 3 1 (ab .i64) 0 (bO c (aj c w k)))
abbrev DF (c:Ci) (k:Nat) (v:Uf) (hh:List Hd):D:=(dB ((ax (c.U.getD k ac) (v.s k) hh (List.replicate (((c.U.getD k ac).Rv).length) true)).fires))
abbrev JD (c:Ci) (k:Nat) (v:Uf) (hh:List Hd):ap:=(.var 101 [(DF c k v hh),(LI (((ax (c.U.getD k ac) (v.s k) hh (List.replicate (((c.U.getD k ac).Rv).length) true)).s).Ry)),(dL 1 aa [] (((ax (c.U.getD k ac) (v.s k) hh (List.replicate (((c.U.getD k ac).Rv).length) true)).s).Rx)),(LB ((ax (c.U.getD k ac) (v.s k) hh (List.replicate (((c.U.getD k ac).Rv).length) true)).pops)),(dL 2 bt aJ ((ax (c.U.getD k ac) (v.s k) hh (List.replicate (((c.U.getD k ac).Rv).length) true)).Rv))])
abbrev dY (c:Ci) (w:Uf) (k:Nat):ap:=(.arr 56 2 bn bh (en c (aj c w k)))
abbrev DG (c:Ci) (i:Nat):ap:=(.var 63 [(dS ((c.U.getD i ac).name)),(dS ((c.U.getD i ac).clock)),(dL 13 gM bH ((c.U.getD i ac).Ry)),(dL 27 m3 aP ((c.U.getD i ac).Rx)),(dL 9 ir aF ((c.U.getD i ac).I)),(dL 16 gd aB ((c.U.getD i ac).Rv))])
abbrev bf (c:Ci) (n:Int) (w:Uf) (k:Nat):ap:=(.var 101 (tS c n w k))
abbrev fa (Ui:Nat) (R':Array Value) (T5 Uk:Code):ap:=(.loop Ui R' 75 rV [61,62] T5 Uk .ready none)
abbrev DH (T9:Array Value) (k:Nat) (c:Ci):ap:=(.frame T9 [(39,(bC k)),(38,cL),(0,(.yld 20)),(1,(.ptr 19 0 0 0)),(3,(bC k)),(4,(bC k)),(5,(.ptr 22 0 0 0)),(26,(jZ c)),(27,(bC k))])
abbrev DI (T9:Array Value) (k:Nat) (lv:Int) (c:Ci):ap:=(.frame T9 [(32,(bC k)),(31,cL),(0,(.yld 20)),(1,(.ptr 19 0 0 0)),(3,(i6 lv)),(4,(bC k)),(26,(jZ c)),(27,(bC k))])
abbrev gD (Ui:Nat) (R':Array Value) (T5 Uk:Code):ap:=(.loop Ui R' 75 rV [61,62] T5 Uk .busy none)
abbrev lQ (c:Ci) (w:Uf) (k:Nat):ap:=(.arr 3 1 (ab .i64) 0 (eW c (aj c w k)))
abbrev nC (c:Ci) (D':List (List Int)):ap:=(.arr 3 1 (ab .i64) 0 (eW c (u0 c D')))
abbrev nG (c:Ci) (D':List (List Int)):ap:=(.arr 3 1 (ab .i64) 0 (bO c (u0 c D')))
abbrev DJ (c:Ci) (n:Int):ap:=(.var 155 [(dL 6 fS ac c.U),(dL 5 ga bK c.J),(.own 16),(.gr 3 0),(.own 7),(.own 11),(i6 n)])
abbrev j7 (rd:List Int):ap:=(.arr 3 1 (ab .i64) 0 rd)
abbrev Ag:ap:=(.var 101 [(dB false),.nils,.nils,.nils,.nils])
set_option maxRecDepth 100000
abbrev QE (c:Ci) (D':List (List Int)) (n:Int):Ct:=⟨39,[(.agg [(dL 6 fS ac c.U),(dL 5 ga bK c.J)]),(dL 1 aa [] D'),(i6 n)],true,(.tup [(dL 1 aa [] ((fy c D' n).1)),(LI ((fy c D' n).2.1)),(i6 ((fy c D' n).2.2))])⟩
abbrev jH (c:Ci) (D':List (List Int)) (n:Int):Lp (Nat):=io [6,7,8,9,41,42,43] 17 (fun (i:Nat)=>⟨[(6,.nils),(7,.nils),(8,(i6 0)),(9,(.ptr 15 0 0 0)),(41,(dL 6 fS ac c.U)),(42,(jZ c)),(43,(i6 (i:Int)))],[(bV c),.dead,.dead,(.nest 42 1 D'.length (fun i _=>.me i) D'.length (bu D')),.dead,.dead,.dead,(nC c D'),.dead,.dead,.dead,(nG c D'),.dead,.dead,(DJ c n),aR,(.arr 56 2 bn bh (tab (u0 c D').s i))]⟩) (fun (i:Nat)=>i≤c.U.length) (fun (i:Nat)=>c.U.length-i)
abbrev xb (c:Ci) (D':List (List Int)) (n:Int) (i:Nat):List ap:=[(bV c),.dead,.dead,(.nest 42 1 D'.length (fun i _=>.me i) D'.length (bu D')),.dead,.dead,.dead,(nC c D'),.dead,.dead,.dead,(nG c D'),.dead,.dead,(DJ c n),aR,(.arr 56 2 bn bh (tab (u0 c D').s i)),(DG c i),.dead,.dead,.dead,.dead,.dead,.dead,.dead,.dead]
abbrev xc (c:Ci) (D':List (List Int)) (n:Int) (i:Nat):List ap:=[(bV c),.dead,.dead,(.nest 42 1 D'.length (fun i _=>.me i) D'.length (bu D')),.dead,.dead,.dead,(nC c D'),.dead,.dead,.dead,(nG c D'),.dead,.dead,(.var 155 [(dL 6 fS ac c.U),(dL 5 ga bK c.J),.junk,(.gr 3 0),(.own 7),(.own 11),(i6 n)]),aR,(.arr 56 2 bn bh (tab (u0 c D').s (i+1))),(DG c i),.dead,.dead,.dead,.dead,.dead,.dead,.dead,.dead]
abbrev xd (c:Ci) (D':List (List Int)) (n:Int) (i:Nat):List ap:=[(bV c),.dead,.dead,(.nest 42 1 D'.length (fun i _=>.me i) D'.length (bu D')),.dead,.dead,.dead,(nC c D'),.dead,.dead,.dead,(nG c D'),.dead,.dead,(DJ c n),aR,(.arr 56 2 bn bh (tab (u0 c D').s (i+1))),(DG c i),.dead,.dead,.dead,.dead,.dead,.dead,.dead,.dead]
def nI (c:Ci) (D':List (List Int)) (n:Int) (i:Nat) (zn:Nat):St:=⟨fE zn [(6,0,0,0,.nils),(7,0,0,0,.nils),(8,0,0,0,(i6 0)),(9,0,0,0,(.ptr 15 0 0 0)),(41,0,0,0,(dL 6 fS ac c.U)),(42,0,0,0,(jZ c)),(43,0,0,0,(i6 (i:Int))),(47,1,0,3584,cL),(51,0,0,3840,(.own 16)),(54,0,0,3840,(dL 2 bn bh [(⟨(aC (c.U.getD i ac)).Ry,(aC (c.U.getD i ac)).Rx⟩:Ps)])),(55,256,0,2048,(.own 16)),(56,769,0,3072,cL),(57,1793,0,2048,(.ptr 14 0 0 2))],(if Nat.beq (zn &&& 3841) 3841 then (xd c D' n i)else (if Nat.beq (zn &&& 256) 256 then (xc c D' n i)else (xb c D' n i)))⟩
abbrev BX (c:Ci) (D':List (List Int)) (n:Int):List ap:=[(bV c),.dead,.dead,(.grp c.J.length (bu (br c (u0 c D')))),.dead,.dead,.dead,(nC c D'),.dead,.dead,.dead,(nG c D'),.dead,.dead,(cj c n),aR,(.arr 56 2 bn bh (en c (u0 c D'))),(.arrD 42 1 c.J.length [3] (cG 3))]
abbrev jI:List (Nat×D):=[(59,cL),(6,.nils),(7,.nils),(8,(i6 0)),(9,(.ptr 15 0 0 0))]
abbrev nJ (c:Ci) (D':List (List Int)) (n:Int):List ap:=[(bV c),.dead,.dead,(.grp c.J.length (bu (br c (u0 c D')))),.dead,.dead,.dead,(nC c D'),.dead,.dead,.dead,(nG c D'),.dead,.dead,(cj c n),aR,(.arr 56 2 bn bh (en c (u0 c D'))),(.arrD 42 1 c.J.length [3] (cG 3))]
abbrev nM:List ap:=[aR]
abbrev jJ (c:Ci) (D':List (List Int)) (n:Int) (Ui:Nat) (R':Array Value) (T5:Code) (Uk:Code):Lp (Uf×Int):=pI [0,1,3] 21 (fun (u:Uf) (la:Int)=>⟨[(0,(.yld 20)),(1,(.ptr 19 0 0 0)),(3,(i6 la))],[(bV c),.dead,.dead,(.grp c.J.length (bu (br c u))),.dead,.dead,.dead,(.arr 3 1 (ab .i64) 0 (eW c u)),.dead,.dead,.dead,(.arr 3 1 (ab .i64) 0 (bO c u)),.dead,.dead,(cj c n),aR,(.arr 56 2 bn bh (en c u)),(.arrD 42 1 c.J.length [3] (cG 3)),.dead,aR,(fa Ui R' T5 Uk)]⟩) (fun (u:Uf) (la:Int)=>UI c D' n.toNat u∧(la=(c.U.length:Int)→∀q,q<c.U.length→rP c n.toNat u q=false)) (fun (u:Uf) (la:Int)=>2*fx n.toNat u.cnt c.U.length+(if la=(c.U.length:Int)then 0 else 1))
abbrev iT (c:Ci) (D':List (List Int)) (n:Int) (Ui:Nat) (R':Array Value) (T5:Code) (Uk:Code) (u:Uf):Lp (Nat×Uf×Int):=LQ [0,1,3,26,27] 21 (fun (k:Nat) (v:Uf) (lv:Int)=>⟨[(0,(.yld 20)),(1,(.ptr 19 0 0 0)),(3,(i6 lv)),(26,(jZ c)),(27,(bC k))],[(bV c),.dead,.dead,(.grp c.J.length (bu (br c v))),.dead,.dead,.dead,(.arr 3 1 (ab .i64) 0 (eW c v)),.dead,.dead,.dead,(.arr 3 1 (ab .i64) 0 (bO c v)),.dead,.dead,(cj c n),aR,(.arr 56 2 bn bh (en c v)),(.arrD 42 1 c.J.length [3] (cG 3)),.dead,aR,(fa Ui R' T5 Uk)]⟩) (fun (k:Nat) (v:Uf) (lv:Int)=>k≤c.U.length∧UI c D' n.toNat v∧fx n.toNat v.cnt c.U.length≤fx n.toNat u.cnt c.U.length∧((lv=(c.U.length:Int)∧∀q,q<k→rP c n.toNat v q=false)∨(0≤lv∧lv<(c.U.length:Int)∧fx n.toNat v.cnt c.U.length<fx n.toNat u.cnt c.U.length))) (fun (k:Nat) (v:Uf) (lv:Int)=>c.U.length-k)
abbrev lR (c:Ci) (n:Int) (Ui:Nat) (R':Array Value) (T5:Code) (Uk:Code) (v:Uf):List ap:=[(bV c),.dead,.dead,(.grp c.J.length (bu (br c v))),.dead,.dead,.dead,(.arr 3 1 (ab .i64) 0 (eW c v)),.dead,.dead,.dead,(.arr 3 1 (ab .i64) 0 (bO c v)),.dead,.dead,(cj c n),aR,(.arr 56 2 bn bh (en c v)),(.arrD 42 1 c.J.length [3] (cG 3)),.dead,aR,(fa Ui R' T5 Uk)]
abbrev lS (c:Ci) (k:Nat) (lv:Int):List (Nat×D):=[(32,(bC k)),(31,cL),(0,(.yld 20)),(1,(.ptr 19 0 0 0)),(3,(i6 lv)),(4,(bC k)),(26,(jZ c)),(27,(bC k))]
abbrev fY (c:Ci) (n:Int) (Ui:Nat) (R':Array Value) (T5:Code) (Uk:Code) (k:Nat) (v:Uf) (lv:Int) (T9:Array Value):Lp (Nat×List Hd):=pI [0,1,4,6,7,25,26,27] 25 (fun (i:Nat) (hh:List Hd)=>⟨[(0,cL),(1,(bC k)),(4,(.ptr 22 0 0 0)),(6,(.ptr 23 0 0 0)),(7,(.own 24)),(25,(wy c k)),(26,(i6 ((((c.U.getD k ac).I).length:Nat):Int))),(27,(i6 (i:Int)))],[(bV c),.dead,.dead,(.grp c.J.length (bu (br c v))),.dead,.dead,.dead,(.arr 3 1 (ab .i64) 0 (eW c v)),.dead,.dead,.dead,(.arr 3 1 (ab .i64) 0 (bO c v)),.dead,.dead,(cj c n),aR,(.arr 56 2 bn bh (en c v)),(.arrD 42 1 c.J.length [3] (cG 3)),.dead,aR,(fa Ui R' T5 Uk),(DI T9 k lv c),Ag,(pR c k),(.arr 115 2 bt aJ hh)]⟩) (fun (i:Nat) (hh:List Hd)=>i≤(c.U.getD k ac).I.length∧hh=cM (KW c v k) (List.replicate (c.U.getD k ac).I.length aJ) i) (fun (i:Nat) (hh:List Hd)=>(c.U.getD k ac).I.length-i)
abbrev wz (c:Ci) (n:Int) (Ui:Nat) (R':Array Value) (T5:Code) (Uk:Code) (k:Nat) (v:Uf) (lv:Int) (T9:Array Value) (hh:List Hd):List ap:=[(bV c),.dead,.dead,(.grp c.J.length (bu (br c v))),.dead,.dead,.dead,(.arr 3 1 (ab .i64) 0 (eW c v)),.dead,.dead,.dead,(.arr 3 1 (ab .i64) 0 (bO c v)),.dead,.dead,(cj c n),aR,(.arr 56 2 bn bh (en c v)),(.arrD 42 1 c.J.length [3] (cG 3)),.dead,aR,(fa Ui R' T5 Uk),(DI T9 k lv c),Ag,(pR c k),.dead,.dead,.dead,.dead,.dead,.dead,.dead,.dead,.dead,.dead,.dead,.dead,.dead,.dead,.dead,.dead,.dead,.dead,.dead,.dead,.dead,.dead,.dead,.dead,.dead,.dead,.dead,.dead,(JD c k v hh),.dead,.dead,.dead]
abbrev wA (c:Ci) (n:Int) (Ui:Nat) (R':Array Value) (T5:Code) (Uk:Code) (k:Nat) (v:Uf) (lv:Int) (T9:Array Value) (hh:List Hd):List ap:=[(bV c),.dead,.dead,(.grp c.J.length (bu (br c v))),.dead,.dead,.dead,(.arr 3 1 (ab .i64) 0 (eW c v)),.dead,.dead,.dead,(.arr 3 1 (ab .i64) 0 (bO c v)),.dead,.dead,(cj c n),aR,(.arr 56 2 bn bh (en c v)),(.arrD 42 1 c.J.length [3] (cG 3)),.dead,aR,(fa Ui R' T5 Uk),(DI T9 k lv c),(.var 101 (j5 c n v k)),(pR c k),.dead,.dead,.dead,.dead,.dead,.dead,.dead,.dead,.dead,.dead,.dead,.dead,.dead,.dead,.dead,.dead,.dead,.dead,.dead,.dead,.dead,.dead,.dead,.dead,.dead,.dead,.dead,.dead,(JD c k v hh),.dead,.dead,.dead]
def lU (c:Ci) (n:Int) (Ui:Nat) (R':Array Value) (T5:Code) (Uk:Code) (k:Nat) (v:Uf) (lv:Int) (T9:Array Value) (hh:List Hd) (zn:Nat):St:=⟨fE zn [(4,0,0,0,(.ptr 22 0 0 0)),(5,30,0,0,(DF c k v hh)),(11,0,0,22,(.ptr 52 0 0 0)),(95,0,0,24,(.agg (j5 c n v k))),(96,2,0,20,(.ptr 52 0 0 0)),(97,6,0,16,(DF c k v hh))],(if Nat.beq (zn &&& 8) 8 then (wA c n Ui R' T5 Uk k v lv T9 hh)else (wz c n Ui R' T5 Uk k v lv T9 hh))⟩
abbrev iU (c:Ci) (D':List (List Int)) (n:Int) (Ui:Nat) (R':Array Value) (T5:Code) (Uk:Code) (u:Uf) (k:Nat):Lp (Uf×Int):=pI [0,1,3,4,5,6,26,27] 23 (fun (w:Uf) (lw:Int)=>⟨[(0,(.yld 20)),(1,(.ptr 19 0 0 0)),(3,(i6 lw)),(4,(bC k)),(5,(.ptr 22 0 0 0)),(6,(dB (rP c n.toNat w k))),(26,(jZ c)),(27,(bC k))],[(bV c),.dead,.dead,(.grp c.J.length (bu (br c w))),.dead,.dead,.dead,(.arr 3 1 (ab .i64) 0 (eW c w)),.dead,.dead,.dead,(.arr 3 1 (ab .i64) 0 (bO c w)),.dead,.dead,(cj c n),aR,(.arr 56 2 bn bh (en c w)),(.arrD 42 1 c.J.length [3] (cG 3)),.dead,aR,(fa Ui R' T5 Uk),.dead,(bf c n w k)]⟩) (fun (w:Uf) (lw:Int)=>UI c D' n.toNat w∧fx n.toNat w.cnt c.U.length≤fx n.toNat u.cnt c.U.length∧((lw=(c.U.length:Int)∧∀q,q<k→rP c n.toNat w q=false)∨(0≤lw∧lw<(c.U.length:Int)∧fx n.toNat w.cnt c.U.length<fx n.toNat u.cnt c.U.length))) (fun (w:Uf) (lw:Int)=>fx n.toNat w.cnt c.U.length)
abbrev Ah (c:Ci) (n:Int) (Ui:Nat) (R':Array Value) (T5:Code) (Uk:Code) (k:Nat) (w:Uf) (Um:Array Value):List ap:=[(bV c),.dead,.dead,(.grp c.J.length (bu (br c w))),.dead,.dead,.dead,(.arr 3 1 (ab .i64) 0 (eW c w)),.dead,.dead,.dead,(.arr 3 1 (ab .i64) 0 (bO c w)),.dead,.dead,(cj c n),aR,(.arr 56 2 bn bh (en c w)),(.arrD 42 1 c.J.length [3] (cG 3)),.dead,aR,(gD Ui R' T5 Uk),.dead,(bf c n w k),(ib Um c n w k),(bf c n w k)]
abbrev fZ (c:Ci) (n:Int) (k:Nat) (w:Uf):List (Nat×D):=(j6 c n w k)
abbrev lV (c:Ci) (n:Int) (Ui:Nat) (R':Array Value) (T5:Code) (Uk:Code) (k:Nat) (w:Uf) (Um:Array Value):List ap:=[(bV c),.dead,.dead,(.grp c.J.length (bu (br c (aj c w k)))),.dead,.dead,.dead,(lQ c w k),.dead,.dead,.dead,(dX c w k),.dead,.dead,(cj c n),aR,(dY c w k),(.arrD 42 1 c.J.length [3] (cG 3)),.dead,aR,(gD Ui R' T5 Uk),.dead,(bf c n w k),(ib Um c n w k),(bf c n w k)]
abbrev f4 (c:Ci) (n:Int) (Ui:Nat) (R':Array Value) (T5:Code) (Uk:Code) (k:Nat) (w:Uf) (Um:Array Value) (UM:Array Value):Lp (Nat×List Int):=pI [0,1,5,33,34,35] 35 (fun (i:Nat) (rd:List Int)=>⟨[(0,cL),(1,(bC k)),(5,(.ptr 26 0 0 0)),(33,(wy c k)),(34,(i6 ((((c.U.getD k ac).I).length:Nat):Int))),(35,(i6 (i:Int)))],[(bV c),.dead,.dead,(.grp c.J.length (bu (br c w))),.dead,.dead,.dead,(j7 rd),.dead,.dead,.dead,(dX c w k),.dead,.dead,(cj c n),aR,(dY c w k),(.arrD 42 1 c.J.length [3] (cG 3)),.dead,aR,(gD Ui R' T5 Uk),.dead,(bf c n w k),(ib Um c n w k),(bf c n w k),(.frame UM (j6 c n w k)),(bf c n w k),.dead,.dead,.dead,.dead,.dead,.dead,.dead,.dead]⟩) (fun (i:Nat) (rd:List Int)=>i≤(c.U.getD k ac).I.length∧rd=jp (eW c w) (kR (c.U.getD k ac) (fw c w k) i)) (fun (i:Nat) (rd:List Int)=>(c.U.getD k ac).I.length-i)
abbrev Ai (c:Ci) (n:Int) (Ui:Nat) (R':Array Value) (T5:Code) (Uk:Code) (k:Nat) (w:Uf) (Um:Array Value) (UM:Array Value) (rd:List Int):List ap:=[(bV c),.dead,.dead,(.grp c.J.length (bu (br c w))),.dead,.dead,.dead,(j7 rd),.dead,.dead,.dead,(dX c w k),.dead,.dead,(cj c n),aR,(dY c w k),(.arrD 42 1 c.J.length [3] (cG 3)),.dead,aR,(gD Ui R' T5 Uk),.dead,(bf c n w k),(ib Um c n w k),(bf c n w k),(.frame UM (j6 c n w k)),(bf c n w k),.dead,.dead,.dead,.dead,.dead,.dead,.dead,.dead,.dead,.dead,.dead,.dead,.dead,.dead,.dead,.dead,.dead,.dead,.dead,.dead,.dead]
abbrev f5 (c:Ci) (n:Int) (k:Nat) (w:Uf):List (Nat×D):=(BW k c n w)
abbrev lW (c:Ci) (n:Int) (Ui:Nat) (R':Array Value) (T5:Code) (Uk:Code) (k:Nat) (w:Uf) (Um:Array Value) (UM:Array Value) (rd:List Int):List ap:=[(bV c),.dead,.dead,(.grp c.J.length (bu (br c (aj c w k)))),.dead,.dead,.dead,(j7 rd),.dead,.dead,.dead,(dX c w k),.dead,.dead,(cj c n),aR,(dY c w k),(.arrD 42 1 c.J.length [3] (cG 3)),.dead,aR,(gD Ui R' T5 Uk),.dead,(bf c n w k),(ib Um c n w k),(bf c n w k),(.frame UM (j6 c n w k)),(bf c n w k),.dead,.dead,.dead,.dead,.dead,.dead,.dead,.dead,.dead,.dead,.dead,.dead,.dead,.dead,.dead,.dead,.dead,.dead,.dead,.dead,.dead]
abbrev f6 (c:Ci) (n:Int) (Ui:Nat) (R':Array Value) (T5:Code) (Uk:Code) (k:Nat) (w:Uf) (Um:Array Value) (UM:Array Value) (rd:List Int) (V9:Array Value):Lp (Nat×List (List Int)):=pI [0,5,9,10,11] 51 (fun (m:Nat) (em:List (List Int))=>⟨[(0,(.own 17)),(5,(.ptr 50 0 0 0)),(9,(dL 16 gd aB ((c.U.getD k ac).Rv))),(10,(i6 ((((c.U.getD k ac).Rv).length:Nat):Int))),(11,(i6 (m:Int)))],[(bV c),.dead,.dead,(.grp c.J.length (bu em)),.dead,.dead,.dead,(j7 rd),.dead,.dead,.dead,(dX c w k),.dead,.dead,(cj c n),aR,(dY c w k),(.arrD 42 1 c.J.length [3] (cG 3)),.dead,aR,(gD Ui R' T5 Uk),.dead,(bf c n w k),(ib Um c n w k),(bf c n w k),(.frame UM (j6 c n w k)),(bf c n w k),.dead,.dead,.dead,.dead,.dead,.dead,.dead,.dead,.dead,.dead,.dead,.dead,.dead,.dead,.dead,.dead,.dead,.dead,.dead,.dead,.dead,(.frame V9 (BW k c n w)),(pR c k),(bf c n w k)]⟩) (fun (m:Nat) (em:List (List Int))=>m≤(c.U.getD k ac).Rv.length∧em=bB (br c w) (kS (c.U.getD k ac) (b7 c n.toNat w k) m)) (fun (m:Nat) (em:List (List Int))=>(c.U.getD k ac).Rv.length-m)
abbrev wC (c:Ci) (n:Int) (Ui:Nat) (R':Array Value) (T5:Code) (Uk:Code) (k:Nat) (w:Uf) (Um:Array Value) (UM:Array Value) (rd:List Int) (V9:Array Value) (m:Nat) (em:List (List Int)):List ap:=[(bV c),.dead,.dead,(.grp c.J.length (jR (bu em) (((c.U.getD k ac).Rv.getD m aB).chan.toNat) (ju (bu em (((c.U.getD k ac).Rv.getD m aB).chan.toNat))))),.dead,.dead,.dead,(j7 rd),.dead,.dead,.dead,(dX c w k),.dead,.dead,(cj c n),aR,(dY c w k),(.arrD 42 1 c.J.length [52,3] (cT 3 52 (((c.U.getD k ac).Rv.getD m aB).chan.toNat))),.dead,aR,(gD Ui R' T5 Uk),.dead,(bf c n w k),(ib Um c n w k),(bf c n w k),(.frame UM (j6 c n w k)),(bf c n w k),.dead,.dead,.dead,.dead,.dead,.dead,.dead,.dead,.dead,.dead,.dead,.dead,.dead,.dead,.dead,.dead,.dead,.dead,.dead,.dead,.dead,(.frame V9 (BW k c n w)),(pR c k),(bf c n w k),(JB c k m),(.arr 3 1 (ab .i64) 0 (em.getD (((c.U.getD k ac).Rv.getD m aB).chan.toNat) [])),.dead,.dead,.dead,.dead,.dead,.dead,.dead,.dead,.dead,.dead,.dead,.dead,.dead,.dead,.dead]
abbrev wD (c:Ci) (n:Int) (Ui:Nat) (R':Array Value) (T5:Code) (Uk:Code) (k:Nat) (w:Uf) (Um:Array Value) (UM:Array Value) (rd:List Int) (V9:Array Value) (m:Nat) (em:List (List Int)):List ap:=[(bV c),.dead,.dead,(.grp c.J.length (jR (bu em) (((c.U.getD k ac).Rv.getD m aB).chan.toNat) (ju (bu em (((c.U.getD k ac).Rv.getD m aB).chan.toNat))))),.dead,.dead,.dead,(j7 rd),.dead,.dead,.dead,(dX c w k),.dead,.dead,(cj c n),aR,(dY c w k),(.arrD 42 1 c.J.length [3] (cK 3 52 (((c.U.getD k ac).Rv.getD m aB).chan.toNat))),.dead,aR,(gD Ui R' T5 Uk),.dead,(bf c n w k),(ib Um c n w k),(bf c n w k),(.frame UM (j6 c n w k)),(bf c n w k),.dead,.dead,.dead,.dead,.dead,.dead,.dead,.dead,.dead,.dead,.dead,.dead,.dead,.dead,.dead,.dead,.dead,.dead,.dead,.dead,.dead,(.frame V9 (BW k c n w)),(pR c k),(bf c n w k),(JB c k m),(.arr 3 1 (ab .i64) 0 ((em.getD (((c.U.getD k ac).Rv.getD m aB).chan.toNat) [])++[(((b7 c n.toNat w k)).Rv.getD m aJ).v])),.dead,.dead,.dead,.dead,.dead,.dead,.dead,.dead,.dead,.dead,.dead,.dead,.dead,.dead,.dead]
abbrev wE (c:Ci) (n:Int) (Ui:Nat) (R':Array Value) (T5:Code) (Uk:Code) (k:Nat) (w:Uf) (Um:Array Value) (UM:Array Value) (rd:List Int) (V9:Array Value) (m:Nat) (em:List (List Int)):List ap:=[(bV c),.dead,.dead,(.grp c.J.length (jR (bu em) (((c.U.getD k ac).Rv.getD m aB).chan.toNat) (ju (bu em (((c.U.getD k ac).Rv.getD m aB).chan.toNat))))),.dead,.dead,.dead,(j7 rd),.dead,.dead,.dead,(dX c w k),.dead,.dead,(cj c n),aR,(dY c w k),(.arrD 42 1 c.J.length [52,3] (cT 3 52 (((c.U.getD k ac).Rv.getD m aB).chan.toNat))),.dead,aR,(gD Ui R' T5 Uk),.dead,(bf c n w k),(ib Um c n w k),(bf c n w k),(.frame UM (j6 c n w k)),(bf c n w k),.dead,.dead,.dead,.dead,.dead,.dead,.dead,.dead,.dead,.dead,.dead,.dead,.dead,.dead,.dead,.dead,.dead,.dead,.dead,.dead,.dead,(.frame V9 (BW k c n w)),(pR c k),(bf c n w k),(JB c k m),(.arr 3 1 (ab .i64) 0 ((em.getD (((c.U.getD k ac).Rv.getD m aB).chan.toNat) [])++[(((b7 c n.toNat w k)).Rv.getD m aJ).v])),.dead,.dead,.dead,.dead,.dead,.dead,.dead,.dead,.dead,.dead,.dead,.dead,.dead,.dead,.dead]
def lZ (c:Ci) (n:Int) (Ui:Nat) (R':Array Value) (T5:Code) (Uk:Code) (k:Nat) (w:Uf) (Um:Array Value) (UM:Array Value) (rd:List Int) (V9:Array Value) (m:Nat) (em:List (List Int)) (zn:Nat):St:=⟨fE zn [(0,0,0,0,(.own 17)),(5,0,0,0,(.ptr 50 0 0 0)),(7,0,0,196614,(.ptr 51 0 0 0)),(9,0,0,0,(dL 16 gd aB ((c.U.getD k ac).Rv))),(10,0,0,0,(i6 ((((c.U.getD k ac).Rv).length:Nat):Int))),(11,0,0,0,(i6 (m:Int))),(22,1,0,196608,(.own 17)),(23,2,0,196612,(.ptr 51 0 0 0)),(24,6,0,196608,(i6 ((((c.U.getD k ac).Rv).getD m aB).chan))),(29,0,0,229376,(.own 52)),(36,0,0,229376,(LI [(((b7 c n.toNat w k)).Rv.getD m aJ).v])),(37,32768,0,131072,(.own 52)),(38,98311,0,131072,(.ptr 17 (((((c.U.getD k ac).Rv).getD m aB).chan).toNat) 1 0))],(if Nat.beq (zn &&& 229383) 229383 then (wE c n Ui R' T5 Uk k w Um UM rd V9 m em)else (if Nat.beq (zn &&& 32768) 32768 then (wD c n Ui R' T5 Uk k w Um UM rd V9 m em)else (wC c n Ui R' T5 Uk k w Um UM rd V9 m em)))⟩
abbrev l5 (c:Ci) (n:Int) (Ui:Nat) (R':Array Value) (T5:Code) (Uk:Code) (k:Nat) (w:Uf):List ap:=[(bV c),.dead,.dead,(.grp c.J.length (bu (br c (aj c w k)))),.dead,.dead,.dead,(lQ c w k),.dead,.dead,.dead,(dX c w k),.dead,.dead,(cj c n),aR,(dY c w k),(.arrD 42 1 c.J.length [3] (cG 3)),.dead,aR,(fa Ui R' T5 Uk),.dead,(bf c n w k),.dead,.dead]
abbrev l6 (c:Ci) (k:Nat):List (Nat×D):=[(39,(bC k)),(38,cL),(0,(.yld 20)),(1,(.ptr 19 0 0 0)),(3,(bC k)),(4,(bC k)),(5,(.ptr 22 0 0 0)),(26,(jZ c)),(27,(bC k))]
abbrev f7 (c:Ci) (n:Int) (Ui:Nat) (R':Array Value) (T5:Code) (Uk:Code) (k:Nat) (w:Uf) (T9:Array Value):Lp (Nat×List Hd):=pI [0,1,4,6,7,25,26,27] 29 (fun (i:Nat) (hh:List Hd)=>⟨[(0,cL),(1,(bC k)),(4,(.ptr 26 0 0 0)),(6,(.ptr 27 0 0 0)),(7,(.own 28)),(25,(wy c k)),(26,(i6 ((((c.U.getD k ac).I).length:Nat):Int))),(27,(i6 (i:Int)))],[(bV c),.dead,.dead,(.grp c.J.length (bu (br c (aj c w k)))),.dead,.dead,.dead,(lQ c w k),.dead,.dead,.dead,(dX c w k),.dead,.dead,(cj c n),aR,(dY c w k),(.arrD 42 1 c.J.length [3] (cG 3)),.dead,aR,(fa Ui R' T5 Uk),.dead,(bf c n w k),.dead,.dead,(DH T9 k c),Ag,(pR c k),(.arr 115 2 bt aJ hh)]⟩) (fun (i:Nat) (hh:List Hd)=>i≤(c.U.getD k ac).I.length∧hh=cM (KW c (aj c w k) k) (List.replicate (c.U.getD k ac).I.length aJ) i) (fun (i:Nat) (hh:List Hd)=>(c.U.getD k ac).I.length-i)
abbrev wF (c:Ci) (n:Int) (Ui:Nat) (R':Array Value) (T5:Code) (Uk:Code) (k:Nat) (w:Uf) (T9:Array Value) (hh:List Hd):List ap:=[(bV c),.dead,.dead,(.grp c.J.length (bu (br c (aj c w k)))),.dead,.dead,.dead,(lQ c w k),.dead,.dead,.dead,(dX c w k),.dead,.dead,(cj c n),aR,(dY c w k),(.arrD 42 1 c.J.length [3] (cG 3)),.dead,aR,(fa Ui R' T5 Uk),.dead,(bf c n w k),.dead,.dead,(DH T9 k c),Ag,(pR c k),.dead,.dead,.dead,.dead,.dead,.dead,.dead,.dead,.dead,.dead,.dead,.dead,.dead,.dead,.dead,.dead,.dead,.dead,.dead,.dead,.dead,.dead,.dead,.dead,.dead,.dead,.dead,.dead,(JC c k w hh),.dead,.dead,.dead]
abbrev wG (c:Ci) (n:Int) (Ui:Nat) (R':Array Value) (T5:Code) (Uk:Code) (k:Nat) (w:Uf) (T9:Array Value) (hh:List Hd):List ap:=[(bV c),.dead,.dead,(.grp c.J.length (bu (br c (aj c w k)))),.dead,.dead,.dead,(lQ c w k),.dead,.dead,.dead,(dX c w k),.dead,.dead,(cj c n),aR,(dY c w k),(.arrD 42 1 c.J.length [3] (cG 3)),.dead,aR,(fa Ui R' T5 Uk),.dead,(bf c n w k),.dead,.dead,(DH T9 k c),(.var 101 (pS c n w k)),(pR c k),.dead,.dead,.dead,.dead,.dead,.dead,.dead,.dead,.dead,.dead,.dead,.dead,.dead,.dead,.dead,.dead,.dead,.dead,.dead,.dead,.dead,.dead,.dead,.dead,.dead,.dead,.dead,.dead,(JC c k w hh),.dead,.dead,.dead]
def l7 (c:Ci) (n:Int) (Ui:Nat) (R':Array Value) (T5:Code) (Uk:Code) (k:Nat) (w:Uf) (T9:Array Value) (hh:List Hd) (zn:Nat):St:=⟨fE zn [(4,0,0,0,(.ptr 26 0 0 0)),(5,30,0,0,(DE c k w hh)),(11,0,0,22,(.ptr 56 0 0 0)),(95,0,0,24,(.agg (pS c n w k))),(96,2,0,20,(.ptr 56 0 0 0)),(97,6,0,16,(DE c k w hh))],(if Nat.beq (zn &&& 8) 8 then (wG c n Ui R' T5 Uk k w T9 hh)else (wF c n Ui R' T5 Uk k w T9 hh))⟩
theorem BZ (c:Ci) (D':List (List Int)) (n:Int) (hc:be c) (hq:J5 c) (hl:D'.length≤9223372036854775807) (hs:∀i,(D'.getD i []).length≤9223372036854775807):CC (QE c D' n):=by
 have UU:=hc.nl
 have hcl:=hc.cl
 refine ah.vc (V:=TT 4 (CS ((cJ c D')=true) (CS (n<0) (TT 2 (CC (Ju c D')∧TT 1 ((True∧(!(cJ c D'))=false)∧TT 3 ((True∧(decide (n<0))=true)∧TT 9 (((fy c D' n).1)=[]∧((fy c D' n).2.1)=[]∧(1:Int)=((fy c D' n).2.2)∧True))))) (TT 2 (CC (Ju c D')∧TT 1 ((True∧(!(cJ c D'))=false)∧TT 3 ((True∧(decide (n<0))=false)∧TT 3 (CD (n>100) (TT 6 (((fy c D' n).1)=[]∧((fy c D' n).2.1)=[]∧(1:Int)=((fy c D' n).2.2)∧True)) (TT 2 (CO (Nu D')∧TT 3 ((((0:Int)≤(c.J.length:Int)∧(c.J.length:Int)≤(c.J.length:Int)∧(c.J.length:Int)≤137438953472)∧(eW c (u0 c D')).length=c.J.length∧∀x∈(eW c (u0 c D')),cg [(i6 0)] ((ab .i64) x))∧TT 3 ((((0:Int)≤(c.U.length:Int)∧(c.U.length:Int)≤(c.U.length:Int)∧(c.U.length:Int)≤137438953472)∧(bO c (u0 c D')).length=c.U.length∧∀x∈(bO c (u0 c D')),cg [(i6 0)] ((ab .i64) x))∧TT 9 (GO (jH c D' n) 0 (∀i,(jH c D' n).inv i→TT 1 (CD ((i:Int)<(c.U.length:Int)) (IX (i:Int) c.U.length∧TT 9 (CC (OL (c.U.getD i ac))∧ai [[(LI ((aC (c.U.getD i ac)).Ry)),(dL 1 aa [] ((aC (c.U.getD i ac)).Rx))]] ([(⟨(aC (c.U.getD i ac)).Ry,(aC (c.U.getD i ac)).Rx⟩:Ps)].map bn)∧(fun (zz:Nat→St)=>zz 255=zz 255∧zz 254=zz 254∧True) (nI c D' n i)∧(fun (zz:Nat→St) (U2:Prop)=>(sE (zz 511) U2∧True)∧(sE (zz 255) True∧sE (zz 510) U2∧True)∧(sE (zz 1023) True∧True)∧(sE (zz 511) True∧True)∧(sE (zz 2047) True∧True)∧(sE (zz 4095) True∧True)∧True∧True) (nI c D' n i) ((tab (u0 c D').s i).length+([(⟨(aC (c.U.getD i ac)).Ry,(aC (c.U.getD i ac)).Rx⟩:Ps)].map bn).length≤137438953472∧(tab (u0 c D').s i).map bn++[(⟨(aC (c.U.getD i ac)).Ry,(aC (c.U.getD i ac)).Rx⟩:Ps)].map bn=(tab (u0 c D').s (i+1)).map bn)∧W6 ((i+1:Nat):Int)∧TT 1 (AG (jH c D' n) i (i+1)))) (TT 1 ((c.J.length=D'.length∧∀zi zj,zi<c.J.length→zj<1→(cG 3) zi zj=(fun (zi zj:Nat)=>Gi 3 ((fun i _=>.me i) zi zj)) zi zj∧∀z8,[3].all (fun g=>!(Nat.beq g z8))=true→((cG 3) zi zj).free z8=true)∧(c.J.length=D'.length∧∀z8,z8<c.J.length→bu (br c (u0 c D')) z8=(bu D') z8)∧TT 1 (((en c (u0 c D')).length=(tab (u0 c D').s i).length∧(∀z7∈(en c (u0 c D')),(bn z7).length=2)∧∀zi zj,zi<(tab (u0 c D').s i).length→zj<2→fg bn bh (tab (u0 c D').s i) zi zj=fg bn bh (en c (u0 c D')) zi zj)∧TT 1 (vU Tryz.prog 67 [cL] (BX c D' n) jI (nJ c D' n) nM tf∧qX Tryz.prog 75 (Ri Tryz.prog 39 61) ⟨rV,[(bV c),.dead,.dead,(.grp c.J.length (bu (br c (u0 c D')))),.dead,.dead,.dead,(nC c D'),.dead,.dead,.dead,(nG c D'),.dead,.dead,(cj c n),aR,(.arr 56 2 bn bh (en c (u0 c D'))),(.arrD 42 1 c.J.length [3] (cG 3)),.dead,aR]⟩ .normal ⟨rV,[(bV c),.dead,.dead,(.grp c.J.length (bu (br c (ef c D' n.toNat)))),.dead,.dead,.dead,(.arr 3 1 (ab .i64) 0 (eW c (ef c D' n.toNat))),.dead,.dead,.dead,(.arr 3 1 (ab .i64) 0 (bO c (ef c D' n.toNat))),.dead,.dead,(cj c n),aR,(.arr 56 2 bn bh (en c (ef c D' n.toNat))),(.arrD 42 1 c.J.length [3] (cG 3)),.dead,aR,.dead]⟩∧((br c (ef c D' n.toNat)).length=c.J.length∧(∀x∈(br c (ef c D' n.toNat)),(aa x).length=1)∧∀zi zj,zi<c.J.length→zj<1→(fun (zi zj:Nat)=>eO 3 (.gs (fun zr=>.sl ((bu (br c (ef c D' n.toNat))) zr).sz ((bu (br c (ef c D' n.toNat))) zr).enc ((bu (br c (ef c D' n.toNat))) zr).d ((bu (br c (ef c D' n.toNat))) zr).l)) ((cG 3) zi zj)) zi zj=fg aa [] (br c (ef c D' n.toNat)) zi zj)∧TT 14 ((br c (ef c D' n.toNat)).map aa=((fy c D' n).1).map aa∧(bO c (ef c D' n.toNat)).map (ab .i64)=((fy c D' n).2.1).map (ab .i64)∧(0:Int)=((fy c D' n).2.2)∧True)))))))))))))))))) (TT 2 (CC (Ju c D')∧TT 1 ((True∧(!(cJ c D'))=true)∧TT 13 (((fy c D' n).1)=[]∧((fy c D' n).2.1)=[]∧(1:Int)=((fy c D' n).2.2)∧True)))))) (.s 1 ((cJ c D')=true) (.s 1 (n<0) (.w 1 [(2,(Ju c D').O),(4,.val (dB false)),(8,.val (dB true))]<|.e) (.w 1 [(2,(Ju c D').O),(4,.val (dB false)),(8,.val (dB false))]<|.b 25 (.e) (.w 3 [(2,(Nu D').O),(6,.box 3 1 (ab .i64) 0 (eW c (u0 c D'))),(10,.box 3 1 (ab .i64) 0 (bO c (u0 c D')))]<|.g 4 14 2 56 2 bn bh<|.l (jH c D' n) 0 (fun i=>.b 44 (.y 7 [(6,(OL (c.U.getD i ac)).O),(7,.box 56 2 bn bh [(⟨(aC (c.U.getD i ac)).Ry,(aC (c.U.getD i ac)).Rx⟩:Ps)]),(8,.box 56 2 bn bh (tab (u0 c D').s (i+1)))] ((fun (zz:Nat→St)=>[(bm 12 255,zz 255),(bm 12 254,zz 254),(bm 12 511,zz 511),(bm 12 510,zz 510),(bm 12 1023,zz 1023),(bm 12 2047,zz 2047),(bm 12 4095,zz 4095)]) (nI c D' n i))<|.w 8 [(0,.val (i6 ((i+1:Nat):Int)))]<|.e) (.q 9 [6,7,8,9] 17<|.gh 9 (xN 3)<|.gh 9 (eE 17 c.J.length [3] (cG 3))<|.gh 9 (tz 3 c.J.length (bu (br c (u0 c D'))))<|.gh 9 (Oj 16)<|.gh 9 (Km 16 bn bh (en c (u0 c D')))<|.w 9 [(1,.inl tf jI ((nJ c D' n)++.dead::nM))]<|.rg .normal ⟨rV,[(bV c),.dead,.dead,(.grp c.J.length (bu (br c (ef c D' n.toNat)))),.dead,.dead,.dead,(.arr 3 1 (ab .i64) 0 (eW c (ef c D' n.toNat))),.dead,.dead,.dead,(.arr 3 1 (ab .i64) 0 (bO c (ef c D' n.toNat))),.dead,.dead,(cj c n),aR,(.arr 56 2 bn bh (en c (ef c D' n.toNat))),(.arrD 42 1 c.J.length [3] (cG 3)),.dead,aR,.dead]⟩ (.f 13 3<|.gh 13 (Km 17 aa [] (br c (ef c D' n.toNat)))<|.f 13 17<|.e)))))) (.w 1 [(2,(Ju c D').O),(4,.val (dB true))]<|.e)) Tryz.func39 rfl rfl rfl (by kernel_rfl) ?_
 refine tt ⟨fun T7=>?_,fun T7=>?_⟩
 · refine⟨fun Ur=>?_,fun Ur=>?_⟩
   · refine tt ⟨(kA c D' hc hl hs),tt ⟨(mF T7),tt ⟨(vT Ur),tt ⟨?_,?_,?_,oK⟩⟩⟩⟩
     all_goals (all_goals (first | (rw[iR (by rintro⟨q1,q2,q3⟩;first | omega | (simp_all;done))];done) | (rw[dW (bM.2 hin) hnn])))
   · refine tt ⟨(kA c D' hc hl hs),tt ⟨(mF T7),tt ⟨(vF Ur),tt (cd (fun Uv=>?_) (fun Uv=>?_))⟩⟩⟩
     · refine tt ⟨?_,?_,?_,oK⟩
       all_goals (all_goals (first | (rw[iR (by rintro⟨q1,q2,q3⟩;first | omega | (simp_all;done))];done) | (rw[dW (bM.2 hin) hnn])))
     · have hin:nz c D':=bM.1 (by first | assumption | simpa using T7)
       have WL:bO c (u0 c D')=List.replicate c.U.length (0:Int):=Ad
       have Zm:eW c (u0 c D')=List.replicate c.J.length (0:Int):=L8
       have X2:br c (u0 c D')=D':=Ac 0 hin.l
       have hnn:0≤n∧n≤100:=by omega
       have hnP:n.toNat*c.U.length≤100*100:=Tt (by omega) UU
       refine tt ⟨(qv D' (lO hin hc).1 (lO hin hc).2),tt ⟨⟨by omega,by rw[Zm,RC],fun x hx=>by rw[Zm]at hx;rw[RS hx];exact⟨rfl,oK⟩⟩,tt ⟨⟨by omega,by rw[WL,RC],fun x hx=>by rw[WL]at hx;rw[RS hx];exact⟨rfl,oK⟩⟩,tt ⟨rfl,(by omega),?_⟩⟩⟩⟩
       intro i I'
       have hi:=I'
       refine tt (cd (fun Xb=>?_) (fun Xb=>?_))
       · refine⟨ix,?_⟩
         have Vt:fk (c.U.getD i ac):=hc.pr i (by omega)
         refine tt ⟨(x6 (c.U.getD i ac) Vt),⟨⟨⟨rfl,rfl,oK⟩,oK⟩,⟨⟨rfl,rfl,oK⟩,⟨⟨⟨⟨rfl,(a6 (f:=(u0 c D').s) (by omega) (show aC (bg c i)=(u0 c D').s i from (RH (by omega)).symm)),oK⟩,oK⟩,⟨⟨rfl,oK,oK⟩,⟨rfl,(a6 (f:=(u0 c D').s) (by omega) (show aC (bg c i)=(u0 c D').s i from (RH (by omega)).symm)),oK⟩,oK⟩,⟨⟨rfl,oK,oK⟩,oK⟩,⟨⟨rfl,oK,oK⟩,oK⟩,⟨⟨rfl,oK,oK⟩,oK⟩,⟨⟨rfl,oK,oK⟩,oK⟩,oK,oK⟩,⟨w6,tt ⟨(i+1),rfl,(?_:(i+1)≤c.U.length),(?_:c.U.length-(i+1)<c.U.length-i)⟩⟩⟩⟩⟩⟩
         · omega
         · omega
       · refine tt ⟨⟨hin.l.symm,fun i j _ _=>⟨rfl,fun k hk=>rT hk⟩⟩,⟨⟨hin.l.symm,fun k _=>by rw[X2]⟩,tt ⟨(sJ (by rw[show i=c.U.length by omega]) (fun _=>rfl)),tt ⟨?_,?_⟩⟩⟩⟩
         · intro T9
           refine fO.vc (V:=TT 5 ((tf:D)=tf∧([(bV c),.dead,.dead,(.grp c.J.length (bu (br c (u0 c D')))),.dead,.dead,.dead,(nC c D'),.dead,.dead,.dead,(nG c D'),.dead,.dead,(cj c n),aR,(.arr 56 2 bn bh (en c (u0 c D'))),(.arrD 42 1 c.J.length [3] (cG 3)),.frame T9 jI,aR]:List ap)=(nJ c D' n)++.frame T9 jI::nM)) (.e) Tryz.func67 rfl rfl (by kernel_rfl) ?_
           exact tt ⟨rfl,rfl⟩
         refine⟨?_,?_⟩
         · refine qX.vc (YD:=98) (first:=[]) (cap:=[(.ptr 19 0 0 0)]) (by kernel_rfl) (by kernel_rfl) Tryz.func98 rfl (by kernel_rfl) (by kernel_rfl) rfl (by kernel_rfl) (by kernel_rfl) ?_
           intro Ui R' T5 Uk hasg0 hbd0
           refine ED.vc (V:=TT 1 (GO (jJ c D' n Ui R' T5 Uk) (u0 c D',(-1)) (∀u la,(jJ c D' n Ui R' T5 Uk).inv (u,la)→TT 8 (CN (la=(c.U.length:Int)) (TT 14 (GO (iT c D' n Ui R' T5 Uk u) (0,u,(c.U.length:Int)) (∀k v lv,(iT c D' n Ui R' T5 Uk u).inv (k,v,lv)→TT 1 (CD ((k:Int)<(c.U.length:Int)) (TT 4 (Ke Tryz.prog 99 [cL,(bC k)] (lR c n Ui R' T5 Uk v) (lS c k lv) (.tup [(.agg (j5 c n v k)),(dB (rP c n.toNat v k))])∧TT 6 (GO (iU c D' n Ui R' T5 Uk u k) (v,lv) (∀w lw,(iU c D' n Ui R' T5 Uk u k).inv (w,lw)→TT 1 (CB (rP c n.toNat w k) (TT 5 ((∀Um:Array Value,qO Tryz.prog Ui 75 T5 Uk ⟨[(62,(.agg (tS c n w k))),(61,(bC k)),(60,tf),(59,cL),(6,.nils),(7,.nils),(8,(i6 0)),(9,(.ptr 15 0 0 0))],[(bV c),.dead,.dead,(.grp c.J.length (bu (br c w))),.dead,.dead,.dead,(.arr 3 1 (ab .i64) 0 (eW c w)),.dead,.dead,.dead,(.arr 3 1 (ab .i64) 0 (bO c w)),.dead,.dead,(cj c n),aR,(.arr 56 2 bn bh (en c w)),(.arrD 42 1 c.J.length [3] (cG 3)),.dead,aR,(fa Ui R' T5 Uk),.dead,(bf c n w k),(ib Um c n w k)]⟩ 20 true [(bV c),.dead,.dead,(.grp c.J.length (bu (br c (aj c w k)))),.dead,.dead,.dead,(lQ c w k),.dead,.dead,.dead,(dX c w k),.dead,.dead,(cj c n),aR,(dY c w k),(.arrD 42 1 c.J.length [3] (cG 3)),.dead,aR,(fa Ui R' T5 Uk),.dead,(bf c n w k),(ib Um c n w k)])∧TT 7 (Ke Tryz.prog 99 [cL,(bC k)] (l5 c n Ui R' T5 Uk k w) (l6 c k) (.tup [(.agg (pS c n w k)),(dB (rP c n.toNat (aj c w k) k))])∧TT 5 (AG (iU c D' n Ui R' T5 Uk u k) (w,lw) (aj c w k,(k:Int)))))) (W6 ((k+1:Nat):Int)∧TT 1 (AG (iT c D' n Ui R' T5 Uk u) (k,v,lv) (k+1,w,lw)))))))) (AG (jJ c D' n Ui R' T5 Uk) (u,la) (v,lv)))))) ((Ui=Ui∧R'=R'∧(75:Nat)=75)∧(.normal:Exit)=.normal∧(⟨rV,[(bV c),.dead,.dead,(.grp c.J.length (bu (br c u))),.dead,.dead,.dead,(.arr 3 1 (ab .i64) 0 (eW c u)),.dead,.dead,.dead,(.arr 3 1 (ab .i64) 0 (bO c u)),.dead,.dead,(cj c n),aR,(.arr 56 2 bn bh (en c u)),(.arrD 42 1 c.J.length [3] (cG 3)),.dead,aR,.dead]⟩:St)=⟨rV,[(bV c),.dead,.dead,(.grp c.J.length (bu (br c (ef c D' n.toNat)))),.dead,.dead,.dead,(.arr 3 1 (ab .i64) 0 (eW c (ef c D' n.toNat))),.dead,.dead,.dead,(.arr 3 1 (ab .i64) 0 (bO c (ef c D' n.toNat))),.dead,.dead,(cj c n),aR,(.arr 56 2 bn bh (en c (ef c D' n.toNat))),(.arrD 42 1 c.J.length [3] (cG 3)),.dead,aR,.dead]⟩))))) (.l (jJ c D' n Ui R' T5 Uk) (u0 c D',(-1)) (fun ⟨u,la⟩=>.b 14 (.l (iT c D' n Ui R' T5 Uk u) (0,u,(c.U.length:Int)) (fun ⟨k,v,lv⟩=>.b 28 (.q 6 [0,1,3,4,26,27] 21<|.w 6 [(2,.inls (.tup [(.agg (j5 c n v k)),(dB (rP c n.toNat v k))]))]<|.l (iU c D' n Ui R' T5 Uk u k) (v,lv) (fun ⟨w,lw⟩=>.b 36 (.q 10 [0,1,3,4,5,26,27] 23<|.w 10 [(3,.yld true [(46,(.agg (tS c n w k))),(45,(bC k)),(44,(.yld 20)),(0,(.yld 20)),(1,(.ptr 19 0 0 0)),(3,(bC k)),(4,(bC k)),(5,(.ptr 22 0 0 0)),(26,(jZ c)),(27,(bC k))] [(bV c),.dead,.dead,(.grp c.J.length (bu (br c (aj c w k)))),.dead,.dead,.dead,(lQ c w k),.dead,.dead,.dead,(dX c w k),.dead,.dead,(cj c n),aR,(dY c w k),(.arrD 42 1 c.J.length [3] (cG 3)),.dead,aR,(fa Ui R' T5 Uk),.dead,(bf c n w k),.dead])]<|.q 8 [0,1,3,4,5,26,27] 25<|.gh 8 (Rf 24 22)<|.w 8 [(2,.inls (.tup [(.agg (pS c n w k)),(dB (rP c n.toNat (aj c w k) k))]))]<|.e) (.w 13 [(0,.val (i6 ((k+1:Nat):Int)))]<|.e))) (.e))) (.e))) (by kernel_rfl) ?_
           refine tt ⟨rfl,⟨BL hc hin n.toNat,fun h=>by omega⟩,?_⟩
           intro u la I'
           obtain⟨hui,hla⟩:=I'
           refine tt (cn (fun VT=>?_) (fun VT=>?_))
           · refine tt ⟨rfl,⟨by omega,hui,RD _,.inl ⟨rfl,fun q hq9=>by omega⟩⟩,?_⟩
             intro k v lv I'
             obtain⟨hk0,X3,hvr,hlv⟩:=I'
             refine tt (cd (fun VR=>?_) (fun VR=>?_))
             · have hk:k<c.U.length:=by omega
               have huo:=X3.ok
               refine tt ⟨?_,?_⟩
               · intro T9
                 refine fO.vc (V:=TT 8 (IX (k:Int) c.U.length∧TT 6 ((((0:Int)≤((((c.U.getD k ac).I).length:Nat):Int)∧((((c.U.getD k ac).I).length:Nat):Int)≤((((c.U.getD k ac).I).length:Nat):Int)∧((((c.U.getD k ac).I).length:Nat):Int)≤137438953472)∧(List.replicate (c.U.getD k ac).I.length aJ).length=((c.U.getD k ac).I).length∧∀x∈(List.replicate (c.U.getD k ac).I.length aJ),cg [(dB false),(i6 0)] (bt x))∧TT 5 (GO (fY c n Ui R' T5 Uk k v lv T9) (0,(List.replicate (c.U.getD k ac).I.length aJ)) (∀i hh,(fY c n Ui R' T5 Uk k v lv T9).inv (i,hh)→TT 1 (CD ((i:Int)<((((c.U.getD k ac).I).length:Nat):Int)) (TT 1 (IX (i:Int) (((c.U.getD k ac).I).length)∧TT 10 (IX ((((c.U.getD k ac).I).getD i aF).chan) ((eW c v).length)∧((((((c.U.getD k ac).I).getD i aF).chan).toNat<(eW c v).length∧True)∧((eW c v).getD (((((c.U.getD k ac).I).getD i aF).chan).toNat) 0)=((v.rd ((c.U.getD k ac).I.getD i aF).chan.toNat:Nat):Int))∧TT 1 (NA c.J.length c.J.length 3 (((c.U.getD k ac).I.getD i aF).chan.toNat) 35∧TT 7 (IX ((((c.U.getD k ac).I).getD i aF).chan) c.J.length∧((((((c.U.getD k ac).I).getD i aF).chan).toNat<c.J.length∧True)∧p6 ((cT 3 35 (((c.U.getD k ac).I.getD i aF).chan.toNat)) (((((c.U.getD k ac).I).getD i aF).chan).toNat) 0) (.own 35))∧TT 2 (CD (((v.rd ((c.U.getD k ac).I.getD i aF).chan.toNat:Nat):Int)<((((br c v).getD (((c.U.getD k ac).I.getD i aF).chan.toNat) []).length:Nat):Int)) (TT 8 (IX ((((c.U.getD k ac).I).getD i aF).chan) c.J.length∧((((((c.U.getD k ac).I).getD i aF).chan).toNat<c.J.length∧True)∧p6 ((cT 3 35 (((c.U.getD k ac).I.getD i aF).chan.toNat)) (((((c.U.getD k ac).I).getD i aF).chan).toNat) 0) (.own 35))∧TT 1 (IX ((v.rd ((c.U.getD k ac).I.getD i aF).chan.toNat:Nat):Int) (((br c v).getD (((c.U.getD k ac).I.getD i aF).chan.toNat) []).length)∧(v.rd ((c.U.getD k ac).I.getD i aF).chan.toNat<((br c v).getD (((c.U.getD k ac).I.getD i aF).chan.toNat) []).length∧True)∧TT 1 (IX (i:Int) hh.length∧(i<hh.length∧(hh.map bt).set i ((bt (hh.getD i aJ)).take 0++[(.bool true),(.int .i64 (((br c v).getD (((c.U.getD k ac).I.getD i aF).chan.toNat) []).getD (v.rd ((c.U.getD k ac).I.getD i aF).chan.toNat) 0))]++(bt (hh.getD i aJ)).drop (0+2))=(hh.set i (⟨true,(((br c v).getD (((c.U.getD k ac).I.getD i aF).chan.toNat) []).getD (v.rd ((c.U.getD k ac).I.getD i aF).chan.toNat) 0)⟩:Hd)).map bt)∧Ma c.J.length c.J.length 3 (((c.U.getD k ac).I.getD i aF).chan.toNat) 35 (br c v) (br c v) ((br c v).getD (((c.U.getD k ac).I.getD i aF).chan.toNat) [])∧Jz c.J.length c.J.length 3∧W6 ((i+1:Nat):Int)∧TT 1 (AG (fY c n Ui R' T5 Uk k v lv T9) (i,hh) (i+1,hh.set i (⟨true,(((br c v).getD (((c.U.getD k ac).I.getD i aF).chan.toNat) []).getD (v.rd ((c.U.getD k ac).I.getD i aF).chan.toNat) 0)⟩:Hd))))))) (Ma c.J.length c.J.length 3 (((c.U.getD k ac).I.getD i aF).chan.toNat) 35 (br c v) (br c v) ((br c v).getD (((c.U.getD k ac).I.getD i aF).chan.toNat) [])∧Jz c.J.length c.J.length 3∧W6 ((i+1:Nat):Int)∧TT 1 (AG (fY c n Ui R' T5 Uk k v lv T9) (i,hh) (i+1,hh))))))))) (TT 5 (IX (k:Int) ((bO c v).length)∧((k<(bO c v).length∧True)∧((bO c v).getD k 0)=((v.cnt k:Nat):Int))∧TT 5 (CD (((v.cnt k:Nat):Int)≥n) ((True∧(false=((b7 c n.toNat v k).fires)∧(((b7 c n.toNat v k).s).Ry)=[]∧(((b7 c n.toNat v k).s).Rx)=[]∧((b7 c n.toNat v k).pops)=[]∧((b7 c n.toNat v k).Rv)=[]∧True))∧TT 4 ((((.agg (j5 c n v k)):D)=(.agg (j5 c n v k))∧false=(rP c n.toNat v k)∧True)∧HE ((lR c n Ui R' T5 Uk v)++[.frame T9 (lS c k lv)]))) (TT 6 (IX (k:Int) ((en c v).length)∧((k<(en c v).length∧True)∧((((en c v).getD k bh).Ry).map (ab .i64)=((v.s k).Ry).map (ab .i64)∧(((en c v).getD k bh).Rx).map aa=((v.s k).Rx).map aa∧True))∧TT 1 (ai [[(dB true)]] ([true].map aL)∧TT 3 (CC (DD (((c.U.getD k ac).Rv).length))∧CC (KP (c.U.getD k ac) (v.s k) hh (List.replicate (((c.U.getD k ac).Rv).length) true))∧TT 2 ((True∧(((ax (c.U.getD k ac) (v.s k) hh (List.replicate (((c.U.getD k ac).Rv).length) true)).fires)=((b7 c n.toNat v k).fires)∧(((ax (c.U.getD k ac) (v.s k) hh (List.replicate (((c.U.getD k ac).Rv).length) true)).s).Ry).map (ab .i64)=(((b7 c n.toNat v k).s).Ry).map (ab .i64)∧(((ax (c.U.getD k ac) (v.s k) hh (List.replicate (((c.U.getD k ac).Rv).length) true)).s).Rx).map aa=(((b7 c n.toNat v k).s).Rx).map aa∧((ax (c.U.getD k ac) (v.s k) hh (List.replicate (((c.U.getD k ac).Rv).length) true)).pops).map aL=((b7 c n.toNat v k).pops).map aL∧((ax (c.U.getD k ac) (v.s k) hh (List.replicate (((c.U.getD k ac).Rv).length) true)).Rv).map bt=((b7 c n.toNat v k).Rv).map bt∧True))∧TT 2 ((fun (zz:Nat→St)=>zz 7=zz 7∧zz 3=zz 3∧zz 1=zz 1∧True) (lU c n Ui R' T5 Uk k v lv T9 hh)∧(fun (zz:Nat→St)=>(sE (zz 15) True∧True)∧(sE (zz 7) True∧sE (zz 11) True∧True)∧(sE (zz 3) True∧sE (zz 9) True∧True)∧(sE (zz 31) True∧True)∧(sE (zz 15) True∧True)∧(sE (zz 11) True∧True)∧True∧True) (lU c n Ui R' T5 Uk k v lv T9 hh)∧TT 2 ((((.agg (j5 c n v k)):D)=(.agg (j5 c n v k))∧((ax (c.U.getD k ac) (v.s k) hh (List.replicate (((c.U.getD k ac).Rv).length) true)).fires)=(rP c n.toNat v k)∧True)∧HE ((lR c n Ui R' T5 Uk v)++[.frame T9 (lS c k lv)]))))))))))))))))) (.w 2 [(3,.box 115 2 bt aJ (List.replicate (c.U.getD k ac).I.length aJ))]<|.l (fY c n Ui R' T5 Uk k v lv T9) (0,(List.replicate (c.U.getD k ac).I.length aJ)) (fun ⟨i,hh⟩=>.b 28 (.w 6 [(7,.val (i6 ((v.rd ((c.U.getD k ac).I.getD i aF).chan.toNat:Nat):Int)))]<|.gh 7 (take 17 3 (((c.U.getD k ac).I.getD i aF).chan.toNat) (cT 3 35 (((c.U.getD k ac).I.getD i aF).chan.toNat)))<|.w 7 [(8,.val (.own 35))]<|.b 50 (.w 8 [(9,.val (.own 35)),(15,.box 115 2 bt aJ (hh.set i (⟨true,(((br c v).getD (((c.U.getD k ac).I.getD i aF).chan.toNat) []).getD (v.rd ((c.U.getD k ac).I.getD i aF).chan.toNat) 0)⟩:Hd)))]<|.gh 9 (put 17 3 35 (((c.U.getD k ac).I.getD i aF).chan.toNat) c.J.length (cG 3) (bu (br c v)))<|.gh 9 (eE 17 c.J.length [3] (cG 3))<|.w 9 [(0,.val (i6 ((i+1:Nat):Int)))]<|.e) (.gh 9 (put 17 3 35 (((c.U.getD k ac).I.getD i aF).chan.toNat) c.J.length (cG 3) (bu (br c v)))<|.gh 9 (eE 17 c.J.length [3] (cG 3))<|.w 9 [(0,.val (i6 ((i+1:Nat):Int)))]<|.e)) (.w 10 [(6,.val (i6 ((v.cnt k:Nat):Int)))]<|.b 78 (.w 11 [(0,.val (.agg (j5 c n v k)))]<|.e) (.f 12 24<|.w 12 [(7,.val (.agg [(LI ((v.s k).Ry)),(dL 1 aa [] ((v.s k).Rx))])),(9,.box 4 1 aL false [true]),(13,(DD (((c.U.getD k ac).Rv).length)).O),(14,(KP (c.U.getD k ac) (v.s k) hh (List.replicate (((c.U.getD k ac).Rv).length) true)).O)]<|.y 13 [(0,.val (.agg (j5 c n v k)))] ((fun (zz:Nat→St)=>[(bm 5 7,zz 7),(bm 5 3,zz 3),(bm 5 1,zz 1),(bm 5 15,zz 15),(bm 5 11,zz 11),(bm 5 9,zz 9),(bm 5 31,zz 31)]) (lU c n Ui R' T5 Uk k v lv T9 hh))<|.e)))) Tryz.func99 rfl rfl (by kernel_rfl) ?_
                 have UU:=hc.nl
                 have hcl:=hc.cl
                 have Vt:fk (c.U.getD k ac):=hc.pr k hk
                 have Yj:(c.U.getD k ac).I.length≤100:=Vt.tl
                 have ZC:(c.U.getD k ac).Rv.length≤100:=Vt.pl
                 obtain⟨V1,Wn⟩:1≤(c.U.getD k ac).Rv.length∧(c.U.getD k ac).Rv.length≤2:=hq k hk
                 have hcl5:(bO c v).length=c.U.length:=am _ _
                 have hsl5:(en c v).length=c.U.length:=am _ _
                 have hrl5:(eW c v).length=c.J.length:=am _ _
                 refine tt ⟨ix,tt ⟨⟨by omega,RC,fun x hx=>by rw[RS hx];exact⟨rfl,rfl,oK⟩⟩,tt ⟨rfl,⟨by omega,rfl⟩,?_⟩⟩⟩
                 intro i hh I'
                 obtain⟨hi,Yo⟩:=I'
                 have hhl:hh.length=(c.U.getD k ac).I.length:=by rw[Yo,dm (by rw[RC];omega),RC]
                 refine tt (cd (fun VR=>?_) (fun VR=>?_))
                 · refine tt ⟨ix,?_⟩
                   have WB:0≤((c.U.getD k ac).I.getD i aF).chan∧((c.U.getD k ac).I.getD i aF).chan<c.J.length:=⟨(hc.tk k hk i (show i<(c.U.getD k ac).I.length by omega)).1,(hc.tk k hk i (show i<(c.U.getD k ac).I.length by omega)).2.1⟩
                   have hrg:(eW c v).getD ((c.U.getD k ac).I.getD i aF).chan.toNat 0=(v.rd ((c.U.getD k ac).I.getD i aF).chan.toNat:Int):=Ae (by omega)
                   have hwg:(br c v).getD ((c.U.getD k ac).I.getD i aF).chan.toNat []=v.l ((c.U.getD k ac).I.getD i aF).chan.toNat:=aD (by omega)
                   refine tt ⟨ix,⟨⟨⟨om,oK⟩,hrg⟩,tt ⟨(GT om),tt ⟨ix,⟨⟨⟨om,oK⟩,tR⟩,tt (cd (fun WK=>?_) (fun WK=>?_))⟩⟩⟩⟩⟩
                   · refine tt ⟨ix,⟨⟨⟨om,oK⟩,tR⟩,tt ⟨ix,⟨⟨om,oK⟩,tt ⟨ix,⟨⟨om,by simp only[Ss];rfl⟩,⟨(jG (by omega) (fun k hk=>uV)),⟨(xa rfl),⟨w6,tt ⟨(i+1,hh.set i (⟨true,(((br c v).getD (((c.U.getD k ac).I.getD i aF).chan.toNat) []).getD (v.rd ((c.U.getD k ac).I.getD i aF).chan.toNat) 0)⟩:Hd)),rfl,?_,(?_:(c.U.getD k ac).I.length-(i+1)<(c.U.getD k ac).I.length-i)⟩⟩⟩⟩⟩⟩⟩⟩⟩⟩
                     · exact⟨by omega,by rw[Yo];exact bR (by rw[RC];omega) (by rw[hwg];exact RH (show v.rd ((c.U.getD k ac).I.getD i aF).chan.toNat<(v.l ((c.U.getD k ac).I.getD i aF).chan.toNat).length by rw[hwg]at WK;omega))⟩
                     · omega
                   · refine⟨(jG (by omega) (fun k hk=>uV)),⟨(xa rfl),⟨w6,tt ⟨(i+1,hh),rfl,?_,(?_:(c.U.getD k ac).I.length-(i+1)<(c.U.getD k ac).I.length-i)⟩⟩⟩⟩
                     · exact⟨by omega,by rw[Yo];exact bP (d:=aJ) (by rw[RC];omega) (by rw[ca];exact RE (show ¬(v.rd ((c.U.getD k ac).I.getD i aF).chan.toNat<(v.l ((c.U.getD k ac).I.getD i aF).chan.toNat).length) by rw[hwg]at WK;omega))⟩
                     · omega
                 · have XQ:(bO c v).getD k 0=(v.cnt k:Int):=tb hk
                   refine tt ⟨ix,⟨⟨⟨om,oK⟩,XQ⟩,tt (cd (fun XW=>?_) (fun XW=>?_))⟩⟩
                   · refine⟨⟨oK,(by rw[Jm (by omega)];exact⟨rfl,rfl,rfl,rfl,rfl,oK⟩)⟩,tt ⟨⟨rfl,?_,oK⟩,rfl⟩⟩
                     all_goals (first | (rw[BK (by omega)];done) | (rw[s9 (by omega)];rw[YF];rfl))
                   · have YF:hh=cB c v k:=by rw[Yo,show i=(c.U.getD k ac).I.length by omega];exact cH (by rw[RC];exact RD _)
                     refine tt ⟨ix,⟨⟨⟨om,oK⟩,(by rw[show(en c v).getD k bh=v.s k from aD hk];exact⟨rfl,rfl,oK⟩)⟩,tt ⟨⟨⟨rfl,oK⟩,oK⟩,tt ⟨(ta (((c.U.getD k ac).Rv).length) V1 Wn),⟨(rD (c.U.getD k ac) (v.s k) hh (List.replicate (((c.U.getD k ac).Rv).length) true) Vt (huo.ps k hk) (by rw[YF];exact rO hc huo hk) RC),tt ⟨⟨oK,(by rw[zX (by omega),YF];exact⟨rfl,rfl,rfl,rfl,rfl,oK⟩)⟩,tt ⟨⟨rfl,rfl,rfl,oK⟩,⟨⟨⟨⟨rfl,oK,oK⟩,oK⟩,⟨⟨rfl,oK,oK⟩,⟨rfl,oK,oK⟩,oK⟩,⟨⟨rfl,oK,oK⟩,⟨rfl,oK,oK⟩,oK⟩,⟨⟨rfl,oK,oK⟩,oK⟩,⟨⟨rfl,oK,oK⟩,oK⟩,⟨⟨rfl,oK,oK⟩,oK⟩,oK,oK⟩,tt ⟨⟨rfl,?_,oK⟩,rfl⟩⟩⟩⟩⟩⟩⟩⟩⟩
                     all_goals (first | (rw[BK (by omega)];done) | (rw[s9 (by omega)];rw[YF];rfl))
               refine tt ⟨rfl,⟨X3,hvr,hlv⟩,?_⟩
               intro w lw I'
               obtain⟨hwi,hwr,hlw⟩:=I'
               refine tt ⟨fun Xa=>?_,fun Xa=>?_⟩
               · have Ua:rP c n.toNat w k=true:=Xa
                 have hui:=hwi
                 have huo:=hwi.ok
                 have hk:k<c.U.length:=by omega
                 refine tt ⟨?_,?_⟩
                 · intro Um
                   refine qO.vc (V:=TT 3 (Ui=Ui∧TT 3 (vU Tryz.prog 68 [cL,(bC k),(.agg (tS c n w k))] (Ah c n Ui R' T5 Uk k w Um) (fZ c n k w) (lV c n Ui R' T5 Uk k w Um) [] (.tup [])∧Ui=Ui∧(true:Bool)=true∧([(bV c),.dead,.dead,(.grp c.J.length (bu (br c (aj c w k)))),.dead,.dead,.dead,(lQ c w k),.dead,.dead,.dead,(dX c w k),.dead,.dead,(cj c n),aR,(dY c w k),(.arrD 42 1 c.J.length [3] (cG 3)),.dead,aR,(fa Ui R' T5 Uk),.dead,(bf c n w k),(ib Um c n w k)]:List ap)=[(bV c),.dead,.dead,(.grp c.J.length (bu (br c (aj c w k)))),.dead,.dead,.dead,(lQ c w k),.dead,.dead,.dead,(dX c w k),.dead,.dead,(cj c n),aR,(dY c w k),(.arrD 42 1 c.J.length [3] (cG 3)),.dead,aR,(fa Ui R' T5 Uk),.dead,(bf c n w k),(ib Um c n w k)]))) (.q 12 [9,12,13] 25<|.w 12 [(3,.inl (.tup []) (fZ c n k w) ((lV c n Ui R' T5 Uk k w Um)++.dead::[]))]<|.e) hasg0 hbd0 (by kernel_rfl) (by kernel_rfl) ?_
                   refine tt ⟨rfl,tt ⟨?_,?_⟩⟩
                   · intro UM
                     refine fO.vc (V:=TT 8 (IX (k:Int) ((en c w).length)∧(k<(en c w).length∧((en c w).map bn).set k ((bn ((en c w).getD k bh)).take 0++[(.sl 1 (ab .i64) 0 (((b7 c n.toNat w k).s).Ry)),(.sl 1 aa [] (((b7 c n.toNat w k).s).Rx))]++(bn ((en c w).getD k bh)).drop (0+2))=(en c (aj c w k)).map bn)∧TT 5 (IX (k:Int) ((bO c w).length)∧(k<(bO c w).length∧True)∧W6 (((bO c w).getD k 0)+1)∧IX (k:Int) ((bO c w).length)∧(k<(bO c w).length∧((bO c w).map (ab .i64)).set k (((ab .i64) ((bO c w).getD k 0)).take 0++[(.int .i64 (((bO c w).getD k 0)+1))]++((ab .i64) ((bO c w).getD k 0)).drop (0+1))=(bO c (aj c w k)).map (ab .i64))∧TT 6 (IX (k:Int) c.U.length∧TT 4 (GO (f4 c n Ui R' T5 Uk k w Um UM) (0,eW c w) (∀i rd,(f4 c n Ui R' T5 Uk k w Um UM).inv (i,rd)→TT 1 (CD ((i:Int)<((((c.U.getD k ac).I).length:Nat):Int)) (TT 1 (IX (i:Int) (((c.U.getD k ac).I).length)∧TT 7 (IX (i:Int) (((b7 c n.toNat w k).pops).length)∧TT 1 (CB ((((b7 c n.toNat w k).pops).getD i false)) (TT 6 (IX ((((c.U.getD k ac).I).getD i aF).chan) rd.length∧(((((c.U.getD k ac).I).getD i aF).chan).toNat<rd.length∧True)∧W6 ((rd.getD (((((c.U.getD k ac).I).getD i aF).chan).toNat) 0)+1)∧IX ((((c.U.getD k ac).I).getD i aF).chan) rd.length∧(((((c.U.getD k ac).I).getD i aF).chan).toNat<rd.length∧(rd.map (ab .i64)).set (((((c.U.getD k ac).I).getD i aF).chan).toNat) (((ab .i64) (rd.getD (((((c.U.getD k ac).I).getD i aF).chan).toNat) 0)).take 0++[(.int .i64 ((rd.getD (((((c.U.getD k ac).I).getD i aF).chan).toNat) 0)+1))]++((ab .i64) (rd.getD (((((c.U.getD k ac).I).getD i aF).chan).toNat) 0)).drop (0+1))=(rd.set (((((c.U.getD k ac).I).getD i aF).chan).toNat) (rd.getD (((((c.U.getD k ac).I).getD i aF).chan).toNat) 0+1)).map (ab .i64))∧W6 ((i+1:Nat):Int)∧TT 1 (AG (f4 c n Ui R' T5 Uk k w Um UM) (i,rd) (i+1,rd.set (((((c.U.getD k ac).I).getD i aF).chan).toNat) (rd.getD (((((c.U.getD k ac).I).getD i aF).chan).toNat) 0+1))))) (W6 ((i+1:Nat):Int)∧TT 1 (AG (f4 c n Ui R' T5 Uk k w Um UM) (i,rd) (i+1,rd))))))) (TT 10 (IX (k:Int) c.U.length∧TT 2 (vU Tryz.prog 75 [(.own 17),(JA c k),(.agg (tS c n w k))] (Ai c n Ui R' T5 Uk k w Um UM rd) (f5 c n k w) (lW c n Ui R' T5 Uk k w Um UM rd) [] (.tup [])∧True∧([(bV c),.dead,.dead,(.grp c.J.length (bu (br c (aj c w k)))),.dead,.dead,.dead,(j7 rd),.dead,.dead,.dead,(dX c w k),.dead,.dead,(cj c n),aR,(dY c w k),(.arrD 42 1 c.J.length [3] (cG 3)),.dead,aR,(gD Ui R' T5 Uk),.dead,(bf c n w k),(ib Um c n w k),(bf c n w k),.frame UM (fZ c n k w)]:List ap)=(lV c n Ui R' T5 Uk k w Um)++.frame UM (fZ c n k w)::[])))))))))) (.w 1 [(8,.box 56 2 bn bh (en c (aj c w k)))]<|.w 2 [(7,.val (i6 (((bO c w).getD k 0)+1))),(9,.box 3 1 (ab .i64) 0 (bO c (aj c w k)))]<|.l (f4 c n Ui R' T5 Uk k w Um UM) (0,eW c w) (fun ⟨i,rd⟩=>.b 36 (.b 44 (.w 7 [(8,.val (i6 ((rd.getD (((((c.U.getD k ac).I).getD i aF).chan).toNat) 0)+1))),(10,.box 3 1 (ab .i64) 0 (rd.set (((((c.U.getD k ac).I).getD i aF).chan).toNat) (rd.getD (((((c.U.getD k ac).I).getD i aF).chan).toNat) 0+1)))]<|.w 8 [(0,.val (i6 ((i+1:Nat):Int)))]<|.e) (.w 8 [(0,.val (i6 ((i+1:Nat):Int)))]<|.e)) (.q 9 [0,1,5] 35<|.w 9 [(13,.inl (.tup []) (f5 c n k w) ((lW c n Ui R' T5 Uk k w Um UM rd)++.dead::[]))]<|.e))) Tryz.func68 rfl rfl (by kernel_rfl) ?_
                     have Vt:fk (c.U.getD k ac):=hc.pr k hk
                     have Yj:(c.U.getD k ac).I.length≤100:=Vt.tl
                     have Uz:b7 c n.toNat w k=fw c w k:=zX (wu Ua).1
                     have XQ:(bO c w).getD k 0=(w.cnt k:Int):=tb hk
                     have hcl5:(bO c w).length=c.U.length:=am _ _
                     have hsl5:(en c w).length=c.U.length:=am _ _
                     have hpo:(b7 c n.toNat w k).pops.length=(c.U.getD k ac).I.length:=by rw[Uz];exact gN _ _ _ _
                     have hcn5:=hui.cn k
                     refine tt ⟨ix,⟨⟨by rw[am];exact hk,by rw[← Jo hk,Ss,← Uz];rfl⟩,tt ⟨ix,⟨⟨om,oK⟩,⟨w6,⟨ix,⟨⟨by rw[am];exact hk,by rw[← zZ hk,XQ,Ss];rfl⟩,tt ⟨ix,tt ⟨rfl,⟨by omega,rfl⟩,?_⟩⟩⟩⟩⟩⟩⟩⟩⟩
                     intro i rd I'
                     obtain⟨hi,Xj⟩:=I'
                     have hrdl:rd.length=c.J.length:=by rw[Xj,oV];exact am _ _
                     refine tt (cd (fun Xa=>?_) (fun Xa=>?_))
                     · refine tt ⟨ix,tt ⟨ix,tt ⟨fun Xb=>?_,fun Xb=>?_⟩⟩⟩
                       · have WB:0≤((c.U.getD k ac).I.getD i aF).chan∧((c.U.getD k ac).I.getD i aF).chan<c.J.length:=⟨(hc.tk k hk i (show i<(c.U.getD k ac).I.length by omega)).1,(hc.tk k hk i (show i<(c.U.getD k ac).I.length by omega)).2.1⟩
                         have hrb:=L5 (u:=w) (f:=fw c w k) (n:=((c.U.getD k ac).I.getD i aF).chan.toNat) hc hk (show i≤(bg c k).I.length from hi) (by omega)
                         have hrn:=huo.rd (((c.U.getD k ac).I.getD i aF).chan.toNat) (by omega)
                         have ZA:=wv hui (((c.U.getD k ac).I.getD i aF).chan.toNat)
                         rw[show jp (eW c w) (kR (bg c k) (fw c w k) i)=rd from Xj.symm]at hrb
                         refine tt ⟨ix,⟨⟨om,oK⟩,⟨w6,⟨ix,⟨⟨by omega,by simp only[Ss];rfl⟩,⟨w6,tt ⟨(i+1,rd.set (((((c.U.getD k ac).I).getD i aF).chan).toNat) (rd.getD (((((c.U.getD k ac).I).getD i aF).chan).toNat) 0+1)),rfl,?_,(?_:(c.U.getD k ac).I.length-(i+1)<(c.U.getD k ac).I.length-i)⟩⟩⟩⟩⟩⟩⟩
                         · exact⟨by omega,by rw[uN (by rw[← Uz];exact Xb),Xj];exact(ww _ _ _).symm⟩
                         · omega
                       · refine⟨w6,tt ⟨(i+1,rd),rfl,?_,(?_:(c.U.getD k ac).I.length-(i+1)<(c.U.getD k ac).I.length-i)⟩⟩
                         · exact⟨by omega,by rw[zI (by rw[← Uz];exact Xb),Xj]⟩
                         · omega
                     · refine tt ⟨ix,tt ⟨?_,?_⟩⟩
                       · intro V9
                         refine fO.vc (V:=TT 6 (GO (f6 c n Ui R' T5 Uk k w Um UM rd V9) (0,br c w) (∀m em,(f6 c n Ui R' T5 Uk k w Um UM rd V9).inv (m,em)→TT 1 (CD ((m:Int)<((((c.U.getD k ac).Rv).length:Nat):Int)) (TT 1 (IX (m:Int) (((c.U.getD k ac).Rv).length)∧TT 7 (IX (m:Int) (((b7 c n.toNat w k).Rv).length)∧TT 2 (CB ((((b7 c n.toNat w k).Rv).getD m aJ).has) (NA c.J.length c.J.length 3 (((c.U.getD k ac).Rv.getD m aB).chan.toNat) 52∧TT 6 (IX ((((c.U.getD k ac).Rv).getD m aB).chan) c.J.length∧((((((c.U.getD k ac).Rv).getD m aB).chan).toNat<c.J.length∧True)∧p6 ((cT 3 52 (((c.U.getD k ac).Rv.getD m aB).chan.toNat)) (((((c.U.getD k ac).Rv).getD m aB).chan).toNat) 0) (.own 52))∧TT 3 (IX (m:Int) (((b7 c n.toNat w k).Rv).length)∧TT 2 (ai [[(i6 ((((b7 c n.toNat w k).Rv).getD m aJ).v))]] ([(((b7 c n.toNat w k)).Rv.getD m aJ).v].map (ab .i64))∧(fun (zz:Nat→St)=>zz 32767=zz 32767∧zz 32766=zz 32766∧zz 32763=zz 32763∧zz 32762=zz 32762∧zz 32761=zz 32761∧zz 32760=zz 32760∧True) (lZ c n Ui R' T5 Uk k w Um UM rd V9 m em)∧(fun (zz:Nat→St) (U2 YG zp2:Prop)=>(sE (zz 65535) U2∧True)∧(sE (zz 32767) True∧sE (zz 65534) U2∧True)∧(sE (zz 32767) True∧sE (zz 65531) U2∧True)∧(sE (zz 32763) True∧sE (zz 32766) True∧sE (zz 65530) U2∧True)∧(sE (zz 32763) True∧sE (zz 65529) U2∧True)∧(sE (zz 32761) True∧sE (zz 32762) True∧sE (zz 65528) U2∧True)∧(sE (zz 131071) YG∧True)∧(sE (zz 65535) True∧True)∧(sE (zz 65535) True∧True)∧(sE (zz 65531) True∧sE (zz 65534) True∧True)∧(sE (zz 65531) True∧True)∧(sE (zz 65529) True∧sE (zz 65530) True∧True)∧(sE (zz 262143) zp2∧True)∧True∧True) (lZ c n Ui R' T5 Uk k w Um UM rd V9 m em) ((em.getD (((c.U.getD k ac).Rv.getD m aB).chan.toNat) []).length+([(((b7 c n.toNat w k)).Rv.getD m aJ).v].map (ab .i64)).length≤137438953472∧(em.getD (((c.U.getD k ac).Rv.getD m aB).chan.toNat) []).map (ab .i64)++[(((b7 c n.toNat w k)).Rv.getD m aJ).v].map (ab .i64)=((em.getD (((c.U.getD k ac).Rv.getD m aB).chan.toNat) [])++[(((b7 c n.toNat w k)).Rv.getD m aJ).v]).map (ab .i64)) (IX ((((c.U.getD k ac).Rv).getD m aB).chan) c.J.length) (((((c.U.getD k ac).Rv).getD m aB).chan).toNat<c.J.length∧mJ 1 c.J.length (((((c.U.getD k ac).Rv).getD m aB).chan).toNat) 0 [(.own 52)] [52,3] (cK 3 52 (((c.U.getD k ac).Rv.getD m aB).chan.toNat)) (cT 3 52 (((c.U.getD k ac).Rv.getD m aB).chan.toNat)))∧Ma c.J.length c.J.length 3 (((c.U.getD k ac).Rv.getD m aB).chan.toNat) 52 em (em.set (((c.U.getD k ac).Rv.getD m aB).chan.toNat) (em.getD (((c.U.getD k ac).Rv.getD m aB).chan.toNat) []++[(((b7 c n.toNat w k)).Rv.getD m aJ).v])) ((em.getD (((c.U.getD k ac).Rv.getD m aB).chan.toNat) [])++[(((b7 c n.toNat w k)).Rv.getD m aJ).v])∧Jz c.J.length c.J.length 3∧W6 ((m+1:Nat):Int)∧TT 1 (AG (f6 c n Ui R' T5 Uk k w Um UM rd V9) (m,em) (m+1,em.set (((c.U.getD k ac).Rv.getD m aB).chan.toNat) (em.getD (((c.U.getD k ac).Rv.getD m aB).chan.toNat) []++[(((b7 c n.toNat w k)).Rv.getD m aJ).v]))))))) (W6 ((m+1:Nat):Int)∧TT 1 (AG (f6 c n Ui R' T5 Uk k w Um UM rd V9) (m,em) (m+1,em))))))) (True∧([(bV c),.dead,.dead,(.grp c.J.length (bu em)),.dead,.dead,.dead,(j7 rd),.dead,.dead,.dead,(dX c w k),.dead,.dead,(cj c n),aR,(dY c w k),(.arrD 42 1 c.J.length [3] (cG 3)),.dead,aR,(gD Ui R' T5 Uk),.dead,(bf c n w k),(ib Um c n w k),(bf c n w k),(.frame UM (j6 c n w k)),(bf c n w k),.dead,.dead,.dead,.dead,.dead,.dead,.dead,.dead,.dead,.dead,.dead,.dead,.dead,.dead,.dead,.dead,.dead,.dead,.dead,.dead,.dead,.frame V9 (f5 c n k w)]:List ap)=(lW c n Ui R' T5 Uk k w Um UM rd)++.frame V9 (f5 c n k w)::[]))))) (.l (f6 c n Ui R' T5 Uk k w Um UM rd V9) (0,br c w) (fun ⟨m,em⟩=>.b 12 (.b 21 (.gh 5 (take 17 3 (((c.U.getD k ac).Rv.getD m aB).chan.toNat) (cT 3 52 (((c.U.getD k ac).Rv.getD m aB).chan.toNat)))<|.y 5 [(7,.val (.own 52)),(14,.box 3 1 (ab .i64) 0 [(((b7 c n.toNat w k)).Rv.getD m aJ).v]),(15,.box 3 1 (ab .i64) 0 ((em.getD (((c.U.getD k ac).Rv.getD m aB).chan.toNat) [])++[(((b7 c n.toNat w k)).Rv.getD m aJ).v])),(17,.cells [52,3] (cT 3 52 (((c.U.getD k ac).Rv.getD m aB).chan.toNat)))] ((fun (zz:Nat→St)=>[(bm 18 32767,zz 32767),(bm 18 32766,zz 32766),(bm 18 32763,zz 32763),(bm 18 32762,zz 32762),(bm 18 32761,zz 32761),(bm 18 32760,zz 32760),(bm 18 65535,zz 65535),(bm 18 65534,zz 65534),(bm 18 65531,zz 65531),(bm 18 65530,zz 65530),(bm 18 65529,zz 65529),(bm 18 65528,zz 65528),(bm 18 131071,zz 131071),(bm 18 262143,zz 262143)]) (lZ c n Ui R' T5 Uk k w Um UM rd V9 m em))<|.gh 6 (put 17 3 52 (((c.U.getD k ac).Rv.getD m aB).chan.toNat) c.J.length (cG 3) (bu (em.set (((c.U.getD k ac).Rv.getD m aB).chan.toNat) (em.getD (((c.U.getD k ac).Rv.getD m aB).chan.toNat) []++[(((b7 c n.toNat w k)).Rv.getD m aJ).v]))))<|.gh 6 (eE 17 c.J.length [3] (cG 3))<|.w 6 [(0,.val (i6 ((m+1:Nat):Int)))]<|.e) (.w 6 [(0,.val (i6 ((m+1:Nat):Int)))]<|.e)) (.e))) Tryz.func75 rfl rfl (by kernel_rfl) ?_
                         have Xf:((b7 c n.toNat w k)).Rv.length=(c.U.getD k ac).Rv.length:=by rw[Uz];exact eh _ _ _ _
                         have ht3:(c.U.getD k ac).Rv.length≤100:=(hc.pr k (by omega)).pl
                         refine tt ⟨rfl,⟨by omega,rfl⟩,?_⟩
                         intro m em I'
                         obtain⟨hm,VS⟩:=I'
                         have YC:em.length=c.J.length:=by rw[VS,cR];exact am _ _
                         refine tt (cd (fun VQ=>?_) (fun VQ=>?_))
                         · refine tt ⟨ix,tt ⟨ix,tt ⟨fun W8=>?_,fun W8=>?_⟩⟩⟩
                           · have W9:m<(c.U.getD k ac).Rv.length:=by omega
                             have WB:0≤((c.U.getD k ac).Rv.getD m aB).chan∧((c.U.getD k ac).Rv.getD m aB).chan<c.J.length:=⟨(hc.pt k (by omega) m W9).1,(hc.pt k (by omega) m W9).2.1⟩
                             have X5:(em.getD ((c.U.getD k ac).Rv.getD m aB).chan.toNat []).length+1≤137438953472:=by
                               rw[VS]
                               exact SG (Nat.succ_le_succ (Fp (p:=k) (by omega))) (by have:=wv hui (((c.U.getD k ac).Rv.getD m aB).chan.toNat);omega)
                             refine⟨(GT om),tt ⟨ix,⟨⟨⟨om,oK⟩,tR⟩,tt ⟨ix,tt ⟨⟨⟨rfl,oK⟩,oK⟩,⟨⟨rfl,rfl,rfl,rfl,rfl,rfl,oK⟩,⟨⟨⟨⟨rfl,⟨by simp only[RJ,RK,RN];first | omega | (simp;first | done | omega),by simp only[RO,R4,RL]⟩,oK⟩,oK⟩,⟨⟨rfl,oK,oK⟩,⟨rfl,⟨by simp only[RJ,RK,RN];first | omega | (simp;first | done | omega),by simp only[RO,R4,RL]⟩,oK⟩,oK⟩,⟨⟨rfl,oK,oK⟩,⟨rfl,⟨by simp only[RJ,RK,RN];first | omega | (simp;first | done | omega),by simp only[RO,R4,RL]⟩,oK⟩,oK⟩,⟨⟨rfl,oK,oK⟩,⟨rfl,oK,oK⟩,⟨rfl,⟨by simp only[RJ,RK,RN];first | omega | (simp;first | done | omega),by simp only[RO,R4,RL]⟩,oK⟩,oK⟩,⟨⟨rfl,oK,oK⟩,⟨rfl,⟨by simp only[RJ,RK,RN];first | omega | (simp;first | done | omega),by simp only[RO,R4,RL]⟩,oK⟩,oK⟩,⟨⟨rfl,oK,oK⟩,⟨rfl,oK,oK⟩,⟨rfl,⟨by simp only[RJ,RK,RN];first | omega | (simp;first | done | omega),by simp only[RO,R4,RL]⟩,oK⟩,oK⟩,⟨⟨rfl,ix,oK⟩,oK⟩,⟨⟨rfl,oK,oK⟩,oK⟩,⟨⟨rfl,oK,oK⟩,oK⟩,⟨⟨rfl,oK,oK⟩,⟨rfl,oK,oK⟩,oK⟩,⟨⟨rfl,oK,oK⟩,oK⟩,⟨⟨rfl,oK,oK⟩,⟨rfl,oK,oK⟩,oK⟩,⟨⟨rfl,⟨om,rU rfl⟩,oK⟩,oK⟩,oK,oK⟩,⟨(jG (by omega) (fun k9 hk9=>Af (n:=c.J.length) (R:=((c.U.getD k ac).Rv.getD m aB).chan.toNat) hk9 YC (by omega))),⟨(xa rfl),⟨w6,tt ⟨(m+1,em.set (((c.U.getD k ac).Rv.getD m aB).chan.toNat) (em.getD (((c.U.getD k ac).Rv.getD m aB).chan.toNat) []++[(((b7 c n.toNat w k)).Rv.getD m aJ).v])),rfl,?_,(?_:(c.U.getD k ac).Rv.length-(m+1)<(c.U.getD k ac).Rv.length-m)⟩⟩⟩⟩⟩⟩⟩⟩⟩⟩⟩
                             · exact⟨by omega,by rw[oQ W8,VS];exact(fW _ _ _ _).symm⟩
                             · omega
                           · refine⟨w6,tt ⟨(m+1,em),rfl,?_,(?_:(c.U.getD k ac).Rv.length-(m+1)<(c.U.getD k ac).Rv.length-m)⟩⟩
                             · exact⟨by omega,by rw[sX W8,VS]⟩
                             · omega
                         · refine⟨oK,congrArg (fun (z0:List (List Int))=>([(bV c),.dead,.dead,(.grp c.J.length (bu z0)),.dead,.dead,.dead,(j7 rd),.dead,.dead,.dead,(dX c w k),.dead,.dead,(cj c n),aR,(dY c w k),(.arrD 42 1 c.J.length [3] (cG 3)),.dead,aR,(gD Ui R' T5 Uk),.dead,(bf c n w k),(ib Um c n w k),(bf c n w k),(.frame UM (j6 c n w k)),(bf c n w k),.dead,.dead,.dead,.dead,.dead,.dead,.dead,.dead,.dead,.dead,.dead,.dead,.dead,.dead,.dead,.dead,.dead,.dead,.dead,.dead,.dead,.frame V9 (f5 c n k w)]:List ap)) (?_:em=(br c (aj c w k)))⟩
                           rw[VS,show m=(c.U.getD k ac).Rv.length by omega,Uz,← z4 hc hk]
                       refine⟨oK,congrArg (fun (z0:List Int)=>([(bV c),.dead,.dead,(.grp c.J.length (bu (br c (aj c w k)))),.dead,.dead,.dead,(.arr 3 1 (ab .i64) 0 z0),.dead,.dead,.dead,(dX c w k),.dead,.dead,(cj c n),aR,(dY c w k),(.arrD 42 1 c.J.length [3] (cG 3)),.dead,aR,(gD Ui R' T5 Uk),.dead,(bf c n w k),(ib Um c n w k),(bf c n w k),.frame UM (fZ c n k w)]:List ap)) (?_:rd=(eW c (aj c w k)))⟩
                       rw[Xj,show i=(c.U.getD k ac).I.length by omega];exact Jp hc hk
                   exact⟨rfl,rfl,rfl⟩
                 have huo:=(zY hc hwi hk Ua).ok
                 refine tt ⟨?_,?_⟩
                 · intro T9
                   refine fO.vc (V:=TT 8 (IX (k:Int) c.U.length∧TT 6 ((((0:Int)≤((((c.U.getD k ac).I).length:Nat):Int)∧((((c.U.getD k ac).I).length:Nat):Int)≤((((c.U.getD k ac).I).length:Nat):Int)∧((((c.U.getD k ac).I).length:Nat):Int)≤137438953472)∧(List.replicate (c.U.getD k ac).I.length aJ).length=((c.U.getD k ac).I).length∧∀x∈(List.replicate (c.U.getD k ac).I.length aJ),cg [(dB false),(i6 0)] (bt x))∧TT 5 (GO (f7 c n Ui R' T5 Uk k w T9) (0,(List.replicate (c.U.getD k ac).I.length aJ)) (∀i hh,(f7 c n Ui R' T5 Uk k w T9).inv (i,hh)→TT 1 (CD ((i:Int)<((((c.U.getD k ac).I).length:Nat):Int)) (TT 1 (IX (i:Int) (((c.U.getD k ac).I).length)∧TT 10 (IX ((((c.U.getD k ac).I).getD i aF).chan) ((eW c (aj c w k)).length)∧((((((c.U.getD k ac).I).getD i aF).chan).toNat<(eW c (aj c w k)).length∧True)∧((eW c (aj c w k)).getD (((((c.U.getD k ac).I).getD i aF).chan).toNat) 0)=(((aj c w k).rd ((c.U.getD k ac).I.getD i aF).chan.toNat:Nat):Int))∧TT 1 (NA c.J.length c.J.length 3 (((c.U.getD k ac).I.getD i aF).chan.toNat) 39∧TT 7 (IX ((((c.U.getD k ac).I).getD i aF).chan) c.J.length∧((((((c.U.getD k ac).I).getD i aF).chan).toNat<c.J.length∧True)∧p6 ((cT 3 39 (((c.U.getD k ac).I.getD i aF).chan.toNat)) (((((c.U.getD k ac).I).getD i aF).chan).toNat) 0) (.own 39))∧TT 2 (CD ((((aj c w k).rd ((c.U.getD k ac).I.getD i aF).chan.toNat:Nat):Int)<((((br c (aj c w k)).getD (((c.U.getD k ac).I.getD i aF).chan.toNat) []).length:Nat):Int)) (TT 8 (IX ((((c.U.getD k ac).I).getD i aF).chan) c.J.length∧((((((c.U.getD k ac).I).getD i aF).chan).toNat<c.J.length∧True)∧p6 ((cT 3 39 (((c.U.getD k ac).I.getD i aF).chan.toNat)) (((((c.U.getD k ac).I).getD i aF).chan).toNat) 0) (.own 39))∧TT 1 (IX (((aj c w k).rd ((c.U.getD k ac).I.getD i aF).chan.toNat:Nat):Int) (((br c (aj c w k)).getD (((c.U.getD k ac).I.getD i aF).chan.toNat) []).length)∧((aj c w k).rd ((c.U.getD k ac).I.getD i aF).chan.toNat<((br c (aj c w k)).getD (((c.U.getD k ac).I.getD i aF).chan.toNat) []).length∧True)∧TT 1 (IX (i:Int) hh.length∧(i<hh.length∧(hh.map bt).set i ((bt (hh.getD i aJ)).take 0++[(.bool true),(.int .i64 (((br c (aj c w k)).getD (((c.U.getD k ac).I.getD i aF).chan.toNat) []).getD ((aj c w k).rd ((c.U.getD k ac).I.getD i aF).chan.toNat) 0))]++(bt (hh.getD i aJ)).drop (0+2))=(hh.set i (⟨true,(((br c (aj c w k)).getD (((c.U.getD k ac).I.getD i aF).chan.toNat) []).getD ((aj c w k).rd ((c.U.getD k ac).I.getD i aF).chan.toNat) 0)⟩:Hd)).map bt)∧Ma c.J.length c.J.length 3 (((c.U.getD k ac).I.getD i aF).chan.toNat) 39 (br c (aj c w k)) (br c (aj c w k)) ((br c (aj c w k)).getD (((c.U.getD k ac).I.getD i aF).chan.toNat) [])∧Jz c.J.length c.J.length 3∧W6 ((i+1:Nat):Int)∧TT 1 (AG (f7 c n Ui R' T5 Uk k w T9) (i,hh) (i+1,hh.set i (⟨true,(((br c (aj c w k)).getD (((c.U.getD k ac).I.getD i aF).chan.toNat) []).getD ((aj c w k).rd ((c.U.getD k ac).I.getD i aF).chan.toNat) 0)⟩:Hd))))))) (Ma c.J.length c.J.length 3 (((c.U.getD k ac).I.getD i aF).chan.toNat) 39 (br c (aj c w k)) (br c (aj c w k)) ((br c (aj c w k)).getD (((c.U.getD k ac).I.getD i aF).chan.toNat) [])∧Jz c.J.length c.J.length 3∧W6 ((i+1:Nat):Int)∧TT 1 (AG (f7 c n Ui R' T5 Uk k w T9) (i,hh) (i+1,hh))))))))) (TT 5 (IX (k:Int) ((bO c (aj c w k)).length)∧((k<(bO c (aj c w k)).length∧True)∧((bO c (aj c w k)).getD k 0)=(((aj c w k).cnt k:Nat):Int))∧TT 5 (CD ((((aj c w k).cnt k:Nat):Int)≥n) ((True∧(false=((b7 c n.toNat (aj c w k) k).fires)∧(((b7 c n.toNat (aj c w k) k).s).Ry)=[]∧(((b7 c n.toNat (aj c w k) k).s).Rx)=[]∧((b7 c n.toNat (aj c w k) k).pops)=[]∧((b7 c n.toNat (aj c w k) k).Rv)=[]∧True))∧TT 4 ((((.agg (pS c n w k)):D)=(.agg (pS c n w k))∧false=(rP c n.toNat (aj c w k) k)∧True)∧HE ((l5 c n Ui R' T5 Uk k w)++[.frame T9 (l6 c k)]))) (TT 6 (IX (k:Int) ((en c (aj c w k)).length)∧((k<(en c (aj c w k)).length∧True)∧((((en c (aj c w k)).getD k bh).Ry).map (ab .i64)=(((aj c w k).s k).Ry).map (ab .i64)∧(((en c (aj c w k)).getD k bh).Rx).map aa=(((aj c w k).s k).Rx).map aa∧True))∧TT 1 (ai [[(dB true)]] ([true].map aL)∧TT 3 (CC (DD (((c.U.getD k ac).Rv).length))∧CC (KP (c.U.getD k ac) ((aj c w k).s k) hh (List.replicate (((c.U.getD k ac).Rv).length) true))∧TT 2 ((True∧(((ax (c.U.getD k ac) ((aj c w k).s k) hh (List.replicate (((c.U.getD k ac).Rv).length) true)).fires)=((b7 c n.toNat (aj c w k) k).fires)∧(((ax (c.U.getD k ac) ((aj c w k).s k) hh (List.replicate (((c.U.getD k ac).Rv).length) true)).s).Ry).map (ab .i64)=(((b7 c n.toNat (aj c w k) k).s).Ry).map (ab .i64)∧(((ax (c.U.getD k ac) ((aj c w k).s k) hh (List.replicate (((c.U.getD k ac).Rv).length) true)).s).Rx).map aa=(((b7 c n.toNat (aj c w k) k).s).Rx).map aa∧((ax (c.U.getD k ac) ((aj c w k).s k) hh (List.replicate (((c.U.getD k ac).Rv).length) true)).pops).map aL=((b7 c n.toNat (aj c w k) k).pops).map aL∧((ax (c.U.getD k ac) ((aj c w k).s k) hh (List.replicate (((c.U.getD k ac).Rv).length) true)).Rv).map bt=((b7 c n.toNat (aj c w k) k).Rv).map bt∧True))∧TT 2 ((fun (zz:Nat→St)=>zz 7=zz 7∧zz 3=zz 3∧zz 1=zz 1∧True) (l7 c n Ui R' T5 Uk k w T9 hh)∧(fun (zz:Nat→St)=>(sE (zz 15) True∧True)∧(sE (zz 7) True∧sE (zz 11) True∧True)∧(sE (zz 3) True∧sE (zz 9) True∧True)∧(sE (zz 31) True∧True)∧(sE (zz 15) True∧True)∧(sE (zz 11) True∧True)∧True∧True) (l7 c n Ui R' T5 Uk k w T9 hh)∧TT 2 ((((.agg (pS c n w k)):D)=(.agg (pS c n w k))∧((ax (c.U.getD k ac) ((aj c w k).s k) hh (List.replicate (((c.U.getD k ac).Rv).length) true)).fires)=(rP c n.toNat (aj c w k) k)∧True)∧HE ((l5 c n Ui R' T5 Uk k w)++[.frame T9 (l6 c k)]))))))))))))))))) (.w 2 [(3,.box 115 2 bt aJ (List.replicate (c.U.getD k ac).I.length aJ))]<|.l (f7 c n Ui R' T5 Uk k w T9) (0,(List.replicate (c.U.getD k ac).I.length aJ)) (fun ⟨i,hh⟩=>.b 28 (.w 6 [(7,.val (i6 (((aj c w k).rd ((c.U.getD k ac).I.getD i aF).chan.toNat:Nat):Int)))]<|.gh 7 (take 17 3 (((c.U.getD k ac).I.getD i aF).chan.toNat) (cT 3 39 (((c.U.getD k ac).I.getD i aF).chan.toNat)))<|.w 7 [(8,.val (.own 39))]<|.b 50 (.w 8 [(9,.val (.own 39)),(15,.box 115 2 bt aJ (hh.set i (⟨true,(((br c (aj c w k)).getD (((c.U.getD k ac).I.getD i aF).chan.toNat) []).getD ((aj c w k).rd ((c.U.getD k ac).I.getD i aF).chan.toNat) 0)⟩:Hd)))]<|.gh 9 (put 17 3 39 (((c.U.getD k ac).I.getD i aF).chan.toNat) c.J.length (cG 3) (bu (br c (aj c w k))))<|.gh 9 (eE 17 c.J.length [3] (cG 3))<|.w 9 [(0,.val (i6 ((i+1:Nat):Int)))]<|.e) (.gh 9 (put 17 3 39 (((c.U.getD k ac).I.getD i aF).chan.toNat) c.J.length (cG 3) (bu (br c (aj c w k))))<|.gh 9 (eE 17 c.J.length [3] (cG 3))<|.w 9 [(0,.val (i6 ((i+1:Nat):Int)))]<|.e)) (.w 10 [(6,.val (i6 (((aj c w k).cnt k:Nat):Int)))]<|.b 78 (.w 11 [(0,.val (.agg (pS c n w k)))]<|.e) (.f 12 28<|.w 12 [(7,.val (.agg [(LI (((aj c w k).s k).Ry)),(dL 1 aa [] (((aj c w k).s k).Rx))])),(9,.box 4 1 aL false [true]),(13,(DD (((c.U.getD k ac).Rv).length)).O),(14,(KP (c.U.getD k ac) ((aj c w k).s k) hh (List.replicate (((c.U.getD k ac).Rv).length) true)).O)]<|.y 13 [(0,.val (.agg (pS c n w k)))] ((fun (zz:Nat→St)=>[(bm 5 7,zz 7),(bm 5 3,zz 3),(bm 5 1,zz 1),(bm 5 15,zz 15),(bm 5 11,zz 11),(bm 5 9,zz 9),(bm 5 31,zz 31)]) (l7 c n Ui R' T5 Uk k w T9 hh))<|.e)))) Tryz.func99 rfl rfl (by kernel_rfl) ?_
                   have UU:=hc.nl
                   have hcl:=hc.cl
                   have Vt:fk (c.U.getD k ac):=hc.pr k hk
                   have Yj:(c.U.getD k ac).I.length≤100:=Vt.tl
                   have ZC:(c.U.getD k ac).Rv.length≤100:=Vt.pl
                   obtain⟨V1,Wn⟩:1≤(c.U.getD k ac).Rv.length∧(c.U.getD k ac).Rv.length≤2:=hq k hk
                   have hcl5:(bO c (aj c w k)).length=c.U.length:=am _ _
                   have hsl5:(en c (aj c w k)).length=c.U.length:=am _ _
                   have hrl5:(eW c (aj c w k)).length=c.J.length:=am _ _
                   refine tt ⟨ix,tt ⟨⟨by omega,RC,fun x hx=>by rw[RS hx];exact⟨rfl,rfl,oK⟩⟩,tt ⟨rfl,⟨by omega,rfl⟩,?_⟩⟩⟩
                   intro i hh I'
                   obtain⟨hi,Yo⟩:=I'
                   have hhl:hh.length=(c.U.getD k ac).I.length:=by rw[Yo,dm (by rw[RC];omega),RC]
                   refine tt (cd (fun VR=>?_) (fun VR=>?_))
                   · refine tt ⟨ix,?_⟩
                     have WB:0≤((c.U.getD k ac).I.getD i aF).chan∧((c.U.getD k ac).I.getD i aF).chan<c.J.length:=⟨(hc.tk k hk i (show i<(c.U.getD k ac).I.length by omega)).1,(hc.tk k hk i (show i<(c.U.getD k ac).I.length by omega)).2.1⟩
                     have hrg:(eW c (aj c w k)).getD ((c.U.getD k ac).I.getD i aF).chan.toNat 0=((aj c w k).rd ((c.U.getD k ac).I.getD i aF).chan.toNat:Int):=Ae (by omega)
                     have hwg:(br c (aj c w k)).getD ((c.U.getD k ac).I.getD i aF).chan.toNat []=(aj c w k).l ((c.U.getD k ac).I.getD i aF).chan.toNat:=aD (by omega)
                     refine tt ⟨ix,⟨⟨⟨om,oK⟩,hrg⟩,tt ⟨(GT om),tt ⟨ix,⟨⟨⟨om,oK⟩,tR⟩,tt (cd (fun WK=>?_) (fun WK=>?_))⟩⟩⟩⟩⟩
                     · refine tt ⟨ix,⟨⟨⟨om,oK⟩,tR⟩,tt ⟨ix,⟨⟨om,oK⟩,tt ⟨ix,⟨⟨om,by simp only[Ss];rfl⟩,⟨(jG (by omega) (fun k hk=>uV)),⟨(xa rfl),⟨w6,tt ⟨(i+1,hh.set i (⟨true,(((br c (aj c w k)).getD (((c.U.getD k ac).I.getD i aF).chan.toNat) []).getD ((aj c w k).rd ((c.U.getD k ac).I.getD i aF).chan.toNat) 0)⟩:Hd)),rfl,?_,(?_:(c.U.getD k ac).I.length-(i+1)<(c.U.getD k ac).I.length-i)⟩⟩⟩⟩⟩⟩⟩⟩⟩⟩
                       · exact⟨by omega,by rw[Yo];exact bR (by rw[RC];omega) (by rw[hwg];exact RH (show(aj c w k).rd ((c.U.getD k ac).I.getD i aF).chan.toNat<((aj c w k).l ((c.U.getD k ac).I.getD i aF).chan.toNat).length by rw[hwg]at WK;omega))⟩
                       · omega
                     · refine⟨(jG (by omega) (fun k hk=>uV)),⟨(xa rfl),⟨w6,tt ⟨(i+1,hh),rfl,?_,(?_:(c.U.getD k ac).I.length-(i+1)<(c.U.getD k ac).I.length-i)⟩⟩⟩⟩
                       · exact⟨by omega,by rw[Yo];exact bP (d:=aJ) (by rw[RC];omega) (by rw[ca];exact RE (show ¬((aj c w k).rd ((c.U.getD k ac).I.getD i aF).chan.toNat<((aj c w k).l ((c.U.getD k ac).I.getD i aF).chan.toNat).length) by rw[hwg]at WK;omega))⟩
                       · omega
                   · have XQ:(bO c (aj c w k)).getD k 0=((aj c w k).cnt k:Int):=tb hk
                     refine tt ⟨ix,⟨⟨⟨om,oK⟩,XQ⟩,tt (cd (fun XW=>?_) (fun XW=>?_))⟩⟩
                     · refine⟨⟨oK,(by rw[Jm (by omega)];exact⟨rfl,rfl,rfl,rfl,rfl,oK⟩)⟩,tt ⟨⟨rfl,?_,oK⟩,rfl⟩⟩
                       all_goals (first | (rw[BK (by omega)];done) | (rw[s9 (by omega)];rw[YF];rfl))
                     · have YF:hh=cB c (aj c w k) k:=by rw[Yo,show i=(c.U.getD k ac).I.length by omega];exact cH (by rw[RC];exact RD _)
                       refine tt ⟨ix,⟨⟨⟨om,oK⟩,(by rw[show(en c (aj c w k)).getD k bh=(aj c w k).s k from aD hk];exact⟨rfl,rfl,oK⟩)⟩,tt ⟨⟨⟨rfl,oK⟩,oK⟩,tt ⟨(ta (((c.U.getD k ac).Rv).length) V1 Wn),⟨(rD (c.U.getD k ac) ((aj c w k).s k) hh (List.replicate (((c.U.getD k ac).Rv).length) true) Vt (huo.ps k hk) (by rw[YF];exact rO hc huo hk) RC),tt ⟨⟨oK,(by rw[zX (by omega),YF];exact⟨rfl,rfl,rfl,rfl,rfl,oK⟩)⟩,tt ⟨⟨rfl,rfl,rfl,oK⟩,⟨⟨⟨⟨rfl,oK,oK⟩,oK⟩,⟨⟨rfl,oK,oK⟩,⟨rfl,oK,oK⟩,oK⟩,⟨⟨rfl,oK,oK⟩,⟨rfl,oK,oK⟩,oK⟩,⟨⟨rfl,oK,oK⟩,oK⟩,⟨⟨rfl,oK,oK⟩,oK⟩,⟨⟨rfl,oK,oK⟩,oK⟩,oK,oK⟩,tt ⟨⟨rfl,?_,oK⟩,rfl⟩⟩⟩⟩⟩⟩⟩⟩⟩
                       all_goals (first | (rw[BK (by omega)];done) | (rw[s9 (by omega)];rw[YF];rfl))
                 refine tt ⟨(aj c w k,(k:Int)),rfl,?_,(?_:fx n.toNat (aj c w k).cnt c.U.length<fx n.toNat w.cnt c.U.length)⟩
                 · exact⟨zY hc hwi hk Ua,by have:=nA (n:=n.toNat) hk Ua;omega,.inr ⟨by omega,by omega,by have:=nA (n:=n.toNat) hk Ua;omega⟩⟩
                 · have:=nA (n:=n.toNat) hk Ua;omega
               · refine⟨w6,tt ⟨(k+1,w,lw),rfl,?_,(?_:c.U.length-(k+1)<c.U.length-k)⟩⟩
                 · refine⟨by omega,hwi,hwr,?_⟩
                   rcases hlw with ⟨h1,h2⟩ | h1
                   · refine .inl ⟨h1,di h2 ?_⟩
                     simpa using Xa
                   · exact .inr h1
                 · omega
             · refine⟨(v,lv),rfl,?_,(?_:2*fx n.toNat v.cnt c.U.length+(if lv=(c.U.length:Int)then 0 else 1)<2*fx n.toNat u.cnt c.U.length+(if la=(c.U.length:Int)then 0 else 1))⟩
               · refine⟨X3,fun hl q hq9=>?_⟩
                 rcases hlv with ⟨h1,h2⟩ | ⟨h1,h2,h3⟩
                 · exact h2 q (by omega)
                 · omega
               · rcases hlv with ⟨h1,h2⟩ | ⟨h1,h2,h3⟩<;>simp only[show ¬(la=(c.U.length:Int)) by omega,Ti,h1]<;>first | (simp only[Tj];omega) | (rw[RE (by omega)];omega)
           · have WE:u=ef c D' n.toNat:=Jn hc hui (hla (by omega))
             refine⟨⟨rfl,rfl,rfl⟩,rfl,(show ∀(z0 z0':List (List Int)) (z1 z1':List Int) (z2 z2':List Int) (z3 z3':List Ps),z0=z0'→z1=z1'→z2=z2'→z3=z3'→(⟨rV,[(bV c),.dead,.dead,(.grp c.J.length (bu z0)),.dead,.dead,.dead,(.arr 3 1 (ab .i64) 0 z1),.dead,.dead,.dead,(.arr 3 1 (ab .i64) 0 z2),.dead,.dead,(cj c n),aR,(.arr 56 2 bn bh z3),(.arrD 42 1 c.J.length [3] (cG 3)),.dead,aR,.dead]⟩:St)=(⟨rV,[(bV c),.dead,.dead,(.grp c.J.length (bu z0')),.dead,.dead,.dead,(.arr 3 1 (ab .i64) 0 z1'),.dead,.dead,.dead,(.arr 3 1 (ab .i64) 0 z2'),.dead,.dead,(cj c n),aR,(.arr 56 2 bn bh z3'),(.arrD 42 1 c.J.length [3] (cG 3)),.dead,aR,.dead]⟩:St)from fun _ _ _ _ _ _ _ _ h0 h1 h2 h3=>by subst h0;subst h1;subst h2;subst h3;rfl) (br c u) (br c (ef c D' n.toNat)) (eW c u) (eW c (ef c D' n.toNat)) (bO c u) (bO c (ef c D' n.toNat)) (en c u) (en c (ef c D' n.toNat)) ?_ ?_ ?_ ?_⟩
             all_goals (rw[WE])
         refine⟨⟨(am _ _),fun _ _=>rfl,yk⟩,tt ⟨(congrArg _ (?_:(br c (ef c D' n.toNat))=((fy c D' n).1))),(congrArg _ (?_:(bO c (ef c D' n.toNat))=((fy c D' n).2.1))),?_,oK⟩⟩
         all_goals (all_goals (first | (rw[iR (by rintro⟨q1,q2,q3⟩;first | omega | (simp_all;done))];done) | (rw[dW (bM.2 hin) hnn])))
 · refine tt ⟨(kA c D' hc hl hs),tt ⟨(mT T7),tt ⟨?_,?_,?_,oK⟩⟩⟩
   all_goals (all_goals (first | (rw[iR (by rintro⟨q1,q2,q3⟩;first | omega | (simp_all;done))];done) | (rw[dW (bM.2 hin) hnn])))
end Go.Proofs.YtckgpflobhpnpaaGreat
