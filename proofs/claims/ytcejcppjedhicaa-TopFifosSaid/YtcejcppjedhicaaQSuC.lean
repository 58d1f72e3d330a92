/- Parts of a proof. -/
import Derived.Test.YtcejcppjedhicaaQNeO
namespace Go.Proofs.Ytcejcppjedhicaa
open Go.RowKit
set_option linter.unusedVariables false
set_option linter.unusedSimpArgs false
set_option maxRecDepth 100000
abbrev c5 (sh:Int) (b:List Int):Ct:=⟨5,[(.agg [(dI .u8 sh),(LY b)])],true,(.agg [(dL 6 mB aa ((ab sh b).U)),(dL 5 js bx ((ab sh b).J))])⟩
abbrev s7 (sh:Int) (b:List Int):Lp (Nat×Nat×Int):=Hm [1,2,3,4,5,6,7] 5 (fun (i:Nat) (p0:Nat) (mo:Int)=>⟨[(1,(.ptr 0 0 0 0)),(2,(.ptr 1 0 0 0)),(3,(dL 2 pZ co (ah sh))),(4,(.ptr 2 0 0 0)),(5,(.ptr 3 0 0 0)),(6,(i6 mo)),(7,(i6 (i:Int)))],[(.var 24 [(dI .u8 sh),(LY b)]),(.var 29 [.nils,.nils]),(.var 29 [(.own 4),.nils]),(.var 86 [(LY b),(i6 (p0:Int))]),(.arr 57 6 mB aa (tab (qq b (ah sh)) i))]⟩) (fun (i:Nat) (p0:Nat) (mo:Int)=>i≤(ah sh).length∧p0=DZ b (ah sh) i∧mo=p6 (ah sh) i) (fun (i:Nat) (p0:Nat) (mo:Int)=>(ah sh).length-i)
abbrev s8 (sh:Int) (b:List Int) (i:Nat) (p0:Nat) (mo:Int):Lp (Nat):=lm [1,2,3,4,5,6,7,9] 17 (fun (j:Nat)=>⟨[(1,(.ptr 0 0 0 0)),(2,(.ptr 1 0 0 0)),(3,(dL 2 pZ co (ah sh))),(4,(.ptr 2 0 0 0)),(5,(.ptr 3 0 0 0)),(6,(i6 (Lq ((ah sh).getD i co).NG mo j))),(7,(i6 (i:Int))),(9,(i6 (j:Int)))],[(.var 24 [(dI .u8 sh),(LY b)]),(.var 29 [.nils,.nils]),(.var 29 [(.own 4),.nils]),(.var 86 [(LY b),(i6 (((bo b p0 ([(bs [112]),(bs [113]),(bs [117]),(bs [118])].getD i .empty) ((ah sh).getD i co)).2:Nat):Int))]),(.arr 57 6 mB aa (tab (qq b (ah sh)) (i+1))),.dead,.dead,.dead,.dead,.dead,.dead,.dead,.dead,.dead,.dead,(.var 88 [(dS (((bo b p0 ([(bs [112]),(bs [113]),(bs [117]),(bs [118])].getD i .empty) ((ah sh).getD i co)).1).name)),(dS (((bo b p0 ([(bs [112]),(bs [113]),(bs [117]),(bs [118])].getD i .empty) ((ah sh).getD i co)).1).clock)),(dL 13 jY bU (((bo b p0 ([(bs [112]),(bs [113]),(bs [117]),(bs [118])].getD i .empty) ((ah sh).getD i co)).1).NI)),(dL 27 t7 a6 (((bo b p0 ([(bs [112]),(bs [113]),(bs [117]),(bs [118])].getD i .empty) ((ah sh).getD i co)).1).NH)),(dL 9 oJ aD (((bo b p0 ([(bs [112]),(bs [113]),(bs [117]),(bs [118])].getD i .empty) ((ah sh).getD i co)).1).I)),(dL 16 nR an (((bo b p0 ([(bs [112]),(bs [113]),(bs [117]),(bs [118])].getD i .empty) ((ah sh).getD i co)).1).NG)),(LY b),(i6 (((bo b p0 ([(bs [112]),(bs [113]),(bs [117]),(bs [118])].getD i .empty) ((ah sh).getD i co)).2:Nat):Int))]),(.arr 57 6 mB aa [(bo b p0 ([(bs [112]),(bs [113]),(bs [117]),(bs [118])].getD i .empty) ((ah sh).getD i co)).1])]⟩) (fun (j:Nat)=>j≤((ah sh).getD i co).NG.length) (fun (j:Nat)=>((ah sh).getD i co).NG.length-j)
abbrev na (sh:Int) (b:List Int) (i:Nat) (p0:Nat) (mo:Int):Lp (Nat):=lm [1,2,3,4,6,10] 6 (fun (n:Nat)=>⟨[(1,(.ptr 0 0 0 0)),(2,(.ptr 1 0 0 0)),(3,(dL 2 pZ co (ah sh))),(4,(.ptr 2 0 0 0)),(6,(i6 mo)),(10,(i6 (n:Int)))],[(.var 24 [(dI .u8 sh),(LY b)]),(.var 29 [.nils,.nils]),(.var 29 [(.own 4),(.own 5)]),(.var 86 [(LY b),(i6 (p0:Int))]),(.arr 57 6 mB aa (tab (qq b (ah sh)) i)),(.arr 47 5 js bx (tab (ss sh (ah sh)) n))]⟩) (fun (n:Nat)=>n≤iH sh) (fun (n:Nat)=>iH sh-n)
abbrev kv (sh:Int) (b:List Int) (i:Nat) (p0:Nat) (mo:Int) (n:Nat):Lp (Nat×Int×Int):=Hm [1,2,3,4,6,10,11,12] 8 (fun (k:Nat) (fr:Int) (to:Int)=>⟨[(1,(.ptr 0 0 0 0)),(2,(.ptr 1 0 0 0)),(3,(dL 2 pZ co (ah sh))),(4,(.ptr 2 0 0 0)),(6,(i6 mo)),(10,(i6 (n:Int))),(11,(.ptr 7 0 0 0)),(12,(i6 (k:Int)))],[(.var 24 [(dI .u8 sh),(LY b)]),(.var 29 [.nils,.nils]),(.var 29 [(.own 4),(.own 5)]),(.var 86 [(LY b),(i6 (p0:Int))]),(.arr 57 6 mB aa (tab (qq b (ah sh)) i)),(.arr 47 5 js bx (tab (ss sh (ah sh)) n)),.dead,(.var 47 [(dS ([(bs [99,48]),(bs [99,49]),(bs [99,50]),(bs [99,51]),(bs [99,52])].getD n .empty)),(i6 2),(i6 0),(i6 fr),(i6 to)])]⟩) (fun (k:Nat) (fr:Int) (to:Int)=>k≤(ah sh).length∧fr=ye (ah sh) n k∧to=yd (ah sh) n k) (fun (k:Nat) (fr:Int) (to:Int)=>(ah sh).length-k)
theorem H9 (sh:Int) (b:List Int) (h0:0≤sh) (h1:sh≤255) (hb:oM b):CC (c5 sh b):=by
 have Tn:=ze sh
 have hnc:=FX sh
 have hmi:=CL sh
 refine ap.vc (V:=TT 4 (CC (MP sh)∧TT 11 (GO (s7 sh b) (0,0,0) (∀i p0 mo,(s7 sh b).inv (i,p0,mo)→TT 4 (CD ((i:Int)<(((ah sh).length:Nat):Int)) (TT 1 (av [[(dS (bs [112]))],[(dS (bs [113]))],[(dS (bs [117]))],[(dS (bs [118]))]] ([(bs [112]),(bs [113]),(bs [117]),(bs [118])].map eS)∧TT 1 (IX (i:Int) ([(bs [112]),(bs [113]),(bs [117]),(bs [118])].length)∧TT 3 (IX (i:Int) ((ah sh).length)∧TT 1 (CC (MQ b p0 ([(bs [112]),(bs [113]),(bs [117]),(bs [118])].getD i .empty) ((ah sh).getD i co))∧TT 9 (av [[(dS (((bo b p0 ([(bs [112]),(bs [113]),(bs [117]),(bs [118])].getD i .empty) ((ah sh).getD i co)).1).name)),(dS (((bo b p0 ([(bs [112]),(bs [113]),(bs [117]),(bs [118])].getD i .empty) ((ah sh).getD i co)).1).clock)),(dL 13 jY bU (((bo b p0 ([(bs [112]),(bs [113]),(bs [117]),(bs [118])].getD i .empty) ((ah sh).getD i co)).1).NI)),(dL 27 t7 a6 (((bo b p0 ([(bs [112]),(bs [113]),(bs [117]),(bs [118])].getD i .empty) ((ah sh).getD i co)).1).NH)),(dL 9 oJ aD (((bo b p0 ([(bs [112]),(bs [113]),(bs [117]),(bs [118])].getD i .empty) ((ah sh).getD i co)).1).I)),(dL 16 nR an (((bo b p0 ([(bs [112]),(bs [113]),(bs [117]),(bs [118])].getD i .empty) ((ah sh).getD i co)).1).NG))]] ([(bo b p0 ([(bs [112]),(bs [113]),(bs [117]),(bs [118])].getD i .empty) ((ah sh).getD i co)).1].map mB)∧((tab (qq b (ah sh)) i).length+([(bo b p0 ([(bs [112]),(bs [113]),(bs [117]),(bs [118])].getD i .empty) ((ah sh).getD i co)).1].map mB).length≤137438953472∧(tab (qq b (ah sh)) i).map mB++[(bo b p0 ([(bs [112]),(bs [113]),(bs [117]),(bs [118])].getD i .empty) ((ah sh).getD i co)).1].map mB=(tab (qq b (ah sh)) (i+1)).map mB)∧TT 3 (GO (s8 sh b i p0 mo) 0 (∀j,(s8 sh b i p0 mo).inv j→TT 3 (IX (i:Int) ((ah sh).length)∧TT 4 (CD ((j:Int)<(((((ah sh).getD i co).NG).length:Nat):Int)) (TT 3 (IX (i:Int) ((ah sh).length)∧TT 3 (IX (j:Int) ((((ah sh).getD i co).NG).length)∧TT 4 (W6 ((j+1:Nat):Int)∧TT 1 (AG (s8 sh b i p0 mo) j (j+1)))))) (TT 1 (W6 ((i+1:Nat):Int)∧TT 1 (AG (s7 sh b) (i,p0,mo) (i+1,(bo b p0 ([(bs [112]),(bs [113]),(bs [117]),(bs [118])].getD i .empty) ((ah sh).getD i co)).2,Lq ((ah sh).getD i co).NG mo j)))))))))))))) (TT 1 (GO (na sh b i p0 mo) 0 (∀n,(na sh b i p0 mo).inv n→TT 3 (CD ((n:Int)≤mo) (av [[(dS (bs [99,48]))],[(dS (bs [99,49]))],[(dS (bs [99,50]))],[(dS (bs [99,51]))],[(dS (bs [99,52]))]] ([(bs [99,48]),(bs [99,49]),(bs [99,50]),(bs [99,51]),(bs [99,52])].map eS)∧TT 1 (IX (n:Int) ([(bs [99,48]),(bs [99,49]),(bs [99,50]),(bs [99,51]),(bs [99,52])].length)∧TT 5 (GO (kv sh b i p0 mo n) (0,(-1),(-1)) (∀k fr to,(kv sh b i p0 mo n).inv (k,fr,to)→TT 4 (CD ((k:Int)<(((ah sh).length:Nat):Int)) (TT 2 (IX (k:Int) ((ah sh).length)∧TT 3 (CC (Kd (((ah sh).getD k co).I) (n:Int))∧CB (sr (((ah sh).getD k co).I) (n:Int)) (TT 5 (IX (k:Int) ((ah sh).length)∧TT 3 (CC (Kd (((ah sh).getD k co).NG) (n:Int))∧CB (sr (((ah sh).getD k co).NG) (n:Int)) (TT 4 (W6 ((k+1:Nat):Int)∧TT 1 (AG (kv sh b i p0 mo n) (k,fr,to) (k+1,(k:Int),(k:Int))))) (TT 1 (W6 ((k+1:Nat):Int)∧TT 1 (AG (kv sh b i p0 mo n) (k,fr,to) (k+1,fr,(k:Int)))))))) (TT 2 (IX (k:Int) ((ah sh).length)∧TT 3 (CC (Kd (((ah sh).getD k co).NG) (n:Int))∧CB (sr (((ah sh).getD k co).NG) (n:Int)) (TT 4 (W6 ((k+1:Nat):Int)∧TT 1 (AG (kv sh b i p0 mo n) (k,fr,to) (k+1,(k:Int),to)))) (TT 1 (W6 ((k+1:Nat):Int)∧TT 1 (AG (kv sh b i p0 mo n) (k,fr,to) (k+1,fr,to)))))))))) (CS (fr≥0) (TT 3 ((True∧(decide (fr≥0))=true)∧TT 4 (CD (to≥0) (TT 2 (((6:Int)≠0∧(IntKind.wrap .u8 (Int.tdiv sh 6))=(sh / 6))∧TT 1 ((True∧IntKind.u8.wrap (n:Int)=(n:Int))∧(True∧(IntKind.wrap .u8 ((sh / 6)+(n:Int)))=(sh / 6+(n:Int)))∧W6 (sh / 6+(n:Int))∧QM (sh / 6+(n:Int)) 3∧W6 (1+((sh / 6+(n:Int))%3))∧TT 5 (av [[(dS ([(bs [99,48]),(bs [99,49]),(bs [99,50]),(bs [99,51]),(bs [99,52])].getD n .empty)),(i6 2),(i6 (1+((sh / 6+(n:Int))%3))),(i6 fr),(i6 to)]] ([(⟨([(bs [99,48]),(bs [99,49]),(bs [99,50]),(bs [99,51]),(bs [99,52])].getD n .empty),2,1+((sh / 6+(n:Int))%3),fr,to⟩:Ch)].map js)∧((tab (ss sh (ah sh)) n).length+([(⟨([(bs [99,48]),(bs [99,49]),(bs [99,50]),(bs [99,51]),(bs [99,52])].getD n .empty),2,1+((sh / 6+(n:Int))%3),fr,to⟩:Ch)].map js).length≤137438953472∧(tab (ss sh (ah sh)) n).map js++[(⟨([(bs [99,48]),(bs [99,49]),(bs [99,50]),(bs [99,51]),(bs [99,52])].getD n .empty),2,1+((sh / 6+(n:Int))%3),fr,to⟩:Ch)].map js=(tab (ss sh (ah sh)) (n+1)).map js)∧TT 3 (W6 ((n+1:Nat):Int)∧TT 1 (AG (na sh b i p0 mo) n (n+1))))))) (TT 3 (av [[(dS ([(bs [99,48]),(bs [99,49]),(bs [99,50]),(bs [99,51]),(bs [99,52])].getD n .empty)),(i6 2),(i6 0),(i6 fr),(i6 to)]] ([(⟨([(bs [99,48]),(bs [99,49]),(bs [99,50]),(bs [99,51]),(bs [99,52])].getD n .empty),2,0,fr,to⟩:Ch)].map js)∧((tab (ss sh (ah sh)) n).length+([(⟨([(bs [99,48]),(bs [99,49]),(bs [99,50]),(bs [99,51]),(bs [99,52])].getD n .empty),2,0,fr,to⟩:Ch)].map js).length≤137438953472∧(tab (ss sh (ah sh)) n).map js++[(⟨([(bs [99,48]),(bs [99,49]),(bs [99,50]),(bs [99,51]),(bs [99,52])].getD n .empty),2,0,fr,to⟩:Ch)].map js=(tab (ss sh (ah sh)) (n+1)).map js)∧TT 3 (W6 ((n+1:Nat):Int)∧TT 1 (AG (na sh b i p0 mo) n (n+1)))))))) (TT 3 ((True∧(decide (fr≥0))=false)∧TT 7 (av [[(dS ([(bs [99,48]),(bs [99,49]),(bs [99,50]),(bs [99,51]),(bs [99,52])].getD n .empty)),(i6 2),(i6 0),(i6 fr),(i6 to)]] ([(⟨([(bs [99,48]),(bs [99,49]),(bs [99,50]),(bs [99,51]),(bs [99,52])].getD n .empty),2,0,fr,to⟩:Ch)].map js)∧((tab (ss sh (ah sh)) n).length+([(⟨([(bs [99,48]),(bs [99,49]),(bs [99,50]),(bs [99,51]),(bs [99,52])].getD n .empty),2,0,fr,to⟩:Ch)].map js).length≤137438953472∧(tab (ss sh (ah sh)) n).map js++[(⟨([(bs [99,48]),(bs [99,49]),(bs [99,50]),(bs [99,51]),(bs [99,52])].getD n .empty),2,0,fr,to⟩:Ch)].map js=(tab (ss sh (ah sh)) (n+1)).map js)∧TT 3 (W6 ((n+1:Nat):Int)∧TT 1 (AG (na sh b i p0 mo) n (n+1)))))))))))) (TT 3 ((tab (qq b (ah sh)) i).map mB=((ab sh b).U).map mB∧(tab (ss sh (ah sh)) n).map js=((ab sh b).J).map js∧True))))))))))) (.w 1 [(2,(MP sh).O)]<|.g 5 2 0 57 6 mB aa<|.l (s7 sh b) (0,0,0) (fun ⟨i,p0,mo⟩=>.b 23 (.w 8 [(1,.box 9 1 eS .empty [(bs [112]),(bs [113]),(bs [117]),(bs [118])]),(9,(MQ b p0 ([(bs [112]),(bs [113]),(bs [117]),(bs [118])].getD i .empty) ((ah sh).getD i co)).O)]<|.w 10 [(4,.box 57 6 mB aa [(bo b p0 ([(bs [112]),(bs [113]),(bs [117]),(bs [118])].getD i .empty) ((ah sh).getD i co)).1]),(5,.box 57 6 mB aa (tab (qq b (ah sh)) (i+1)))]<|.l (s8 sh b i p0 mo) 0 (fun j=>.b 52 (.w 13 [(1,.val (i6 ((j+1:Nat):Int)))]<|.e) (.w 7 [(1,.val (i6 ((i+1:Nat):Int)))]<|.e))) (.g 15 2 1 47 5 js bx<|.l (na sh b i p0 mo) 0 (fun n=>.b 67 (.w 18 [(0,.frz 9 1 eS .empty [(bs [99,48]),(bs [99,49]),(bs [99,50]),(bs [99,51]),(bs [99,52])])]<|.l (kv sh b i p0 mo n) (0,(-1),(-1)) (fun ⟨k,fr,to⟩=>.b 78 (.w 22 [(6,(Kd (((ah sh).getD k co).I) (n:Int)).O)]<|.b 87 (.w 24 [(6,(Kd (((ah sh).getD k co).NG) (n:Int)).O)]<|.b 96 (.w 21 [(1,.val (i6 ((k+1:Nat):Int)))]<|.e) (.w 21 [(1,.val (i6 ((k+1:Nat):Int)))]<|.e)) (.w 24 [(6,(Kd (((ah sh).getD k co).NG) (n:Int)).O)]<|.b 96 (.w 21 [(1,.val (i6 ((k+1:Nat):Int)))]<|.e) (.w 21 [(1,.val (i6 ((k+1:Nat):Int)))]<|.e))) (.s 26 (fr≥0) (.w 26 [(3,.val (dB true))]<|.b 106 (.w 27 [(2,.val (dI .u8 (sh / 6))),(4,.val (dI .u8 (n:Int))),(5,.val (dI .u8 (sh / 6+(n:Int)))),(6,.val (i6 (sh / 6+(n:Int)))),(7,.val (i6 ((sh / 6+(n:Int))%3))),(8,.val (i6 (1+((sh / 6+(n:Int))%3))))]<|.w 28 [(3,.box 47 5 js bx [(⟨([(bs [99,48]),(bs [99,49]),(bs [99,50]),(bs [99,51]),(bs [99,52])].getD n .empty),2,1+((sh / 6+(n:Int))%3),fr,to⟩:Ch)]),(4,.box 47 5 js bx (tab (ss sh (ah sh)) (n+1)))]<|.w 17 [(1,.val (i6 ((n+1:Nat):Int)))]<|.e) (.w 28 [(3,.box 47 5 js bx [(⟨([(bs [99,48]),(bs [99,49]),(bs [99,50]),(bs [99,51]),(bs [99,52])].getD n .empty),2,0,fr,to⟩:Ch)]),(4,.box 47 5 js bx (tab (ss sh (ah sh)) (n+1)))]<|.w 17 [(1,.val (i6 ((n+1:Nat):Int)))]<|.e)) (.w 26 [(3,.val (dB false))]<|.w 28 [(3,.box 47 5 js bx [(⟨([(bs [99,48]),(bs [99,49]),(bs [99,50]),(bs [99,51]),(bs [99,52])].getD n .empty),2,0,fr,to⟩:Ch)]),(4,.box 47 5 js bx (tab (ss sh (ah sh)) (n+1)))]<|.w 17 [(1,.val (i6 ((n+1:Nat):Int)))]<|.e)))) (.e))))) Try.func5 rfl rfl rfl (by kernel_rfl) ?_
 refine tt ⟨(H8 sh om om),tt ⟨rfl,⟨by omega,rfl,rfl⟩,?_⟩⟩
 intro i p0 mo L'
 obtain⟨hi,UT,hmo⟩:=L'
 have hpi:=CM hb sh i
 have hen:=mP sh i
 refine tt (cd (fun S5=>?_) (fun S5=>?_))
 · refine tt ⟨⟨⟨rfl,oK⟩,⟨rfl,oK⟩,⟨rfl,oK⟩,⟨rfl,oK⟩,oK⟩,tt ⟨ix,tt ⟨ix,tt ⟨(Bl b p0 ([(bs [112]),(bs [113]),(bs [117]),(bs [118])].getD i .empty) ((ah sh).getD i co) hb om om om),tt ⟨⟨⟨rfl,rfl,rfl,rfl,rfl,rfl,oK⟩,oK⟩,⟨(ba (by omega) (by rw[UT];rfl)),tt ⟨rfl,(by omega),?_⟩⟩⟩⟩⟩⟩⟩
   intro j L'
   have hj:=L'
   refine tt ⟨ix,tt (cd (fun hc52=>?_) (fun hc52=>?_))⟩
   · refine tt ⟨ix,tt ⟨ix,tt ⟨w6,tt ⟨(j+1),rfl,(?_:(j+1)≤((ah sh).getD i co).NG.length),(?_:((ah sh).getD i co).NG.length-(j+1)<((ah sh).getD i co).NG.length-j)⟩⟩⟩⟩
     · omega
     · omega
   · refine tt ⟨w6,tt ⟨(i+1,(bo b p0 ([(bs [112]),(bs [113]),(bs [117]),(bs [118])].getD i .empty) ((ah sh).getD i co)).2,Lq ((ah sh).getD i co).NG mo j),rfl,?_,(?_:(ah sh).length-(i+1)<(ah sh).length-i)⟩⟩
     · exact⟨by omega,by rw[UT];rfl,by rw[hmo,show j=((ah sh).getD i co).NG.length by omega];rfl⟩
     · omega
 · have SA:i=(ah sh).length:=by omega
   have Uk:mo=p6 (ah sh) (ah sh).length:=by rw[hmo,SA]
   refine tt ⟨rfl,(by omega),?_⟩
   intro n L'
   have hn:=L'
   refine tt (cd (fun hc67=>?_) (fun hc67=>?_))
   · refine⟨⟨⟨rfl,oK⟩,⟨rfl,oK⟩,⟨rfl,oK⟩,⟨rfl,oK⟩,⟨rfl,oK⟩,oK⟩,tt ⟨ix,tt ⟨rfl,⟨by omega,rfl,rfl⟩,?_⟩⟩⟩
     intro k fr to L'
     obtain⟨hk,RN,Ux⟩:=L'
     have hen:=mP sh k
     refine tt (cd (fun Ua=>?_) (fun Ua=>?_))
     · refine tt ⟨ix,tt ⟨(Bk (((ah sh).getD k co).I) (n:Int) om),⟨fun Ub=>?_,fun Ub=>?_⟩⟩⟩
       · refine tt ⟨ix,tt ⟨(Bk (((ah sh).getD k co).NG) (n:Int) om),⟨fun SO=>?_,fun SO=>?_⟩⟩⟩
         · refine tt ⟨w6,tt ⟨(k+1,(k:Int),(k:Int)),rfl,?_,(?_:(ah sh).length-(k+1)<(ah sh).length-k)⟩⟩
           · exact⟨by omega,by rw[ye];rw[NT SO],by rw[yd];rw[NT Ub]⟩
           · omega
         · refine tt ⟨w6,tt ⟨(k+1,fr,(k:Int)),rfl,?_,(?_:(ah sh).length-(k+1)<(ah sh).length-k)⟩⟩
           · exact⟨by omega,by rw[ye];rw[NQ (by rw[SO];simp)];exact RN,by rw[yd];rw[NT Ub]⟩
           · omega
       · refine tt ⟨ix,tt ⟨(Bk (((ah sh).getD k co).NG) (n:Int) om),⟨fun SO=>?_,fun SO=>?_⟩⟩⟩
         · refine tt ⟨w6,tt ⟨(k+1,(k:Int),to),rfl,?_,(?_:(ah sh).length-(k+1)<(ah sh).length-k)⟩⟩
           · exact⟨by omega,by rw[ye];rw[NT SO],by rw[yd];rw[NQ (by rw[Ub];simp)];exact Ux⟩
           · omega
         · refine tt ⟨w6,tt ⟨(k+1,fr,to),rfl,?_,(?_:(ah sh).length-(k+1)<(ah sh).length-k)⟩⟩
           · exact⟨by omega,by rw[ye];rw[NQ (by rw[SO];simp)];exact RN,by rw[yd];rw[NQ (by rw[Ub];simp)];exact Ux⟩
           · omega
     · have R5:k=(ah sh).length:=by omega
       have hfi:=A5 (ah sh) n k
       have hti:=FY (ah sh) n k
       refine⟨fun Qe=>?_,fun Qe=>?_⟩
       · refine tt ⟨(vT Qe),tt (cd (fun hc106=>?_) (fun hc106=>?_))⟩
         · refine tt ⟨⟨om,(MB h0 h1)⟩,tt ⟨⟨oK,MZ rfl om om⟩,⟨⟨oK,(IT (by omega) (by omega))⟩,⟨w6,⟨qm,⟨w6,tt ⟨⟨⟨rfl,rfl,rfl,rfl,rfl,oK⟩,oK⟩,⟨(ba (by omega) (by first | exact FZ (by rw[← R5,← RN];omega) (by rw[← R5,← Ux];omega) (by rw[← R5];exact RN) (by rw[← R5];exact Ux) | exact F0 (by rw[← R5,← RN,← Ux];omega) (by rw[← R5];exact RN) (by rw[← R5];exact Ux))),tt ⟨w6,tt ⟨(n+1),rfl,(?_:(n+1)≤iH sh),(?_:iH sh-(n+1)<iH sh-n)⟩⟩⟩⟩⟩⟩⟩⟩⟩⟩
           · omega
           · omega
         · refine tt ⟨⟨⟨rfl,rfl,rfl,rfl,rfl,oK⟩,oK⟩,⟨(ba (by omega) (by first | exact FZ (by rw[← R5,← RN];omega) (by rw[← R5,← Ux];omega) (by rw[← R5];exact RN) (by rw[← R5];exact Ux) | exact F0 (by rw[← R5,← RN,← Ux];omega) (by rw[← R5];exact RN) (by rw[← R5];exact Ux))),tt ⟨w6,tt ⟨(n+1),rfl,(?_:(n+1)≤iH sh),(?_:iH sh-(n+1)<iH sh-n)⟩⟩⟩⟩
           · omega
           · omega
       · refine tt ⟨(vF Qe),tt ⟨⟨⟨rfl,rfl,rfl,rfl,rfl,oK⟩,oK⟩,⟨(ba (by omega) (by first | exact FZ (by rw[← R5,← RN];omega) (by rw[← R5,← Ux];omega) (by rw[← R5];exact RN) (by rw[← R5];exact Ux) | exact F0 (by rw[← R5,← RN,← Ux];omega) (by rw[← R5];exact RN) (by rw[← R5];exact Ux))),tt ⟨w6,tt ⟨(n+1),rfl,(?_:(n+1)≤iH sh),(?_:iH sh-(n+1)<iH sh-n)⟩⟩⟩⟩⟩
         · omega
         · omega
   · refine tt ⟨(congrArg _ (?_:(tab (qq b (ah sh)) i)=((ab sh b).U))),(congrArg _ (?_:(tab (ss sh (ah sh)) n)=((ab sh b).J))),oK⟩
     · rw[SA];rfl
     · rw[show n=iH sh by omega];rfl
theorem C8 {s:Sg} {b:List Int} (hb:oM b) (i:Nat):eT s.sc (aN s b i).1=some 1∧fP (aN s b i).1≤3:=by
 unfold aN
 split
 ·have h:=t9 (s:=s) hb 2 (i+1) 1 (by omega) (by omega) (by omega)
  exact⟨h.1,by have:=h.2.1;omega⟩
 ·exact⟨rfl,by show fP gH≤3;decide⟩
theorem Km (y:Int) (f:Nat→Rg) (hf:∀k,(f k).w=bB y k):(⟨(tab f (ra y)).map (·.w),[],[]⟩:Sc)=(KC y).sc:=by
 have:(tab f (ra y)).map (·.w)=KB y:=by
  unfold KB tab
  rw[List.map_map]
  exact Pz (fun k _=>hf k)
 rw[this];rfl
theorem Kn (y:Int) (n:Nat) (f:Nat→Rg) (g:Nat→Tk) (hf:∀k,(f k).w=bB y k) (hg:∀k,(g k).w=2):(⟨(tab f (ra y)).map (·.w),[],(tab g n).map (·.w)⟩:Sc)=(zb y n).sc:=by
 have e1:(tab f (ra y)).map (·.w)=KB y:=by
  unfold KB tab
  rw[List.map_map]
  exact Pz (fun k _=>hf k)
 have e2:(tab g n).map (·.w)=List.replicate n 2:=by
  apply Pj
  ·simp[ax]
  ·intro i h1 h2
   simp[tab,hg]
 rw[e1,e2];rfl
theorem Il {b:List Int} (hb:oM b) {i:Nat} {nm:ByteArray} {e:En} (ht:e.I.length≤2) (hp:e.NG.length≤2):gt (bo b i nm e).1:=by
 have hy:=d6 hb i
 have hn:=A4 hy.1
 have Qe:M1 (bo b i nm e).1=(KC (b.getD i 0)).sc:=Km _ _ (fun k=>rfl)
 have Qy:pO (bo b i nm e).1=(zb (b.getD i 0) e.I.length).sc:=Kn _ _ _ _ (fun k=>rfl) (fun k=>rfl)
 have l1:(bo b i nm e).1.NI.length=ra (b.getD i 0):=ax _ _
 have l2:(bo b i nm e).1.I.length=e.I.length:=ax _ _
 have l3:(bo b i nm e).1.NG.length=e.NG.length:=ax _ _
 have l4:(bo b i nm e).1.NH.length=0:=rfl
 refine⟨by omega,by omega,by omega,by omega,fun k hk=>?_,fun k hk=>by omega,fun k hk=>?_,fun k hk=>?_⟩
 ·rw[Qy]
  rw[l1]at hk
  have e1:DW (bo b i nm e).1 k=Mz b (b.getD i 0) e.I.length (lP b i e) k:=aI hk
  rw[e1]
  have hw:=xL (b.getD i 0) k
  have h:=t9 (s:=zb (b.getD i 0) e.I.length) hb 3 (xH b (b.getD i 0) e.I.length (lP b i e) k) (bB (b.getD i 0) k) (by omega) (by omega) (by omega)
  refine⟨bf.2 (by show 1≤bB (b.getD i 0) k∧bB (b.getD i 0) k≤8;omega),?_,h.1,by have:=h.2.1;show fP (am _ b 3 _ _).1≤3;omega⟩
  show dk (b.getD i 0 / 8%2^(bB (b.getD i 0) k).toNat) (bB (b.getD i 0) k)
  unfold dk
  rw[dr (by omega) (by omega)]
  have hp2:(0:Int)<2^(bB (b.getD i 0) k).toNat:=Int.pow_pos (by omega)
  exact⟨Pm _ (by omega),by have:=Pg (b.getD i 0 / 8) hp2;omega⟩
 ·rw[Qe]
  rw[l2]at hk
  have e1:lI (bo b i nm e).1 k=Ep b (b.getD i 0) (i+1) e k:=aI hk
  rw[e1]
  exact⟨rfl,C8 hb _⟩
 ·rw[Qy]
  rw[l3]at hk
  have e1:rT (bo b i nm e).1 k=GX b (b.getD i 0) e.I.length (kK b i e) e k:=aI hk
  rw[e1]
  have h:=t9 (s:=zb (b.getD i 0) e.I.length) hb 2 (aN (zb (b.getD i 0) e.I.length) b (uz b (b.getD i 0) e.I.length (kK b i e) k)).2 2 (by omega) (by omega) (by omega)
  exact⟨rfl,C8 hb _,h.1,by have:=h.2.1;show fP (am _ b 2 _ _).1≤3;omega⟩
def LJ (l:List En):Prop:=∀i,i<l.length→∀j,j<(l.getD i co).I.length→0≤(l.getD i co).I.getD j 0∧(l.getD i co).I.getD j 0<p6 l l.length+1∧yd l ((l.getD i co).I.getD j 0) l.length=(i:Int)
def LK (l:List En):Prop:=∀i,i<l.length→∀j,j<(l.getD i co).NG.length→0≤(l.getD i co).NG.getD j 0∧(l.getD i co).NG.getD j 0<p6 l l.length+1∧ye l ((l.getD i co).NG.getD j 0) l.length=(i:Int)
def LL (l:List En):Prop:=∀i,i<l.length→∀j,j<(l.getD i co).I.length→∀k,k<(l.getD i co).I.length→(l.getD i co).I.getD j 0=(l.getD i co).I.getD k 0→j=k
def LM (l:List En):Prop:=∀i,i<l.length→∀j,j<(l.getD i co).NG.length→∀k,k<(l.getD i co).NG.length→(l.getD i co).NG.getD j 0=(l.getD i co).NG.getD k 0→j=k
theorem LN (sh:Int):LJ (ah sh)∧LK (ah sh)∧LL (ah sh)∧LM (ah sh):=by
 unfold LJ LK LL LM
 rcases iw sh with h | h | h | h | h | h<;>rw[h]<;>decide
theorem I0 {sh:Int} {b:List Int} (h0:0≤sh) (h1:sh≤255) (hb:oM b):bE (ab sh b):=by
 have Tn:=ze sh
 have hnc:=FX sh
 obtain⟨q1,q2,q3,q4⟩:=LN sh
 have lp:(ab sh b).U.length=(ah sh).length:=ax _ _
 have lc:(ab sh b).J.length=iH sh:=ax _ _
 have gp:∀i,i<(ah sh).length→aJ (ab sh b) i=qq b (ah sh) i:=fun i hi=>aI hi
 have gc:∀n,n<iH sh→b9 (ab sh b) n=ss sh (ah sh) n:=fun n hn=>aI hn
 have ltk:∀i,(qq b (ah sh) i).I.length=((ah sh).getD i co).I.length:=fun i=>ax _ _
 have lpt:∀i,(qq b (ah sh) i).NG.length=((ah sh).getD i co).NG.length:=fun i=>ax _ _
 have ctk:∀i j,j<((ah sh).getD i co).I.length→(lI (qq b (ah sh) i) j).chan=((ah sh).getD i co).I.getD j 0∧(lI (qq b (ah sh) i) j).w=2:=fun i j hj=>by
  have:lI (qq b (ah sh) i) j=Ep b _ _ ((ah sh).getD i co) j:=aI hj
  rw[this];exact⟨rfl,rfl⟩
 have cpt:∀i j,j<((ah sh).getD i co).NG.length→(rT (qq b (ah sh) i) j).chan=((ah sh).getD i co).NG.getD j 0∧(rT (qq b (ah sh) i) j).w=2:=fun i j hj=>by
  have:rT (qq b (ah sh) i) j=GX b _ _ _ ((ah sh).getD i co) j:=aI hj
  rw[this];exact⟨rfl,rfl⟩
 have cast:∀x:Int,0≤x→((x.toNat:Nat):Int)=x:=fun x hx=>by omega
 refine⟨by omega,by omega,by omega,fun i hi=>?_,fun i hi j hj=>?_,fun i hi j hj=>?_,fun i hi j k hj hk he=>?_,fun i hi j k hj hk he=>?_,fun n hn=>?_,fun n hn=>?_⟩
 ·rw[lp]at hi
  rw[gp i hi]
  have he:=mP sh i
  exact Il hb he.1 he.2
 ·rw[lp]at hi
  rw[gp i hi]at hj ⊢
  rw[ltk]at hj
  obtain⟨a1,a2,a3⟩:=q1 i hi j hj
  obtain⟨c1,c2⟩:=ctk i j hj
  have e:cj (qq b (ah sh) i) j=(((ah sh).getD i co).I.getD j 0).toNat:=by show(lI _ j).chan.toNat=_;rw[c1]
  rw[c1,c2,e,gc _ (by omega),lc]
  refine⟨a1,by omega,rfl,?_⟩
  show yd _ _ _=_
  rw[cast _ a1];exact a3
 ·rw[lp]at hi
  rw[gp i hi]at hj ⊢
  rw[lpt]at hj
  obtain⟨a1,a2,a3⟩:=q2 i hi j hj
  obtain⟨c1,c2⟩:=cpt i j hj
  have e:ep (qq b (ah sh) i) j=(((ah sh).getD i co).NG.getD j 0).toNat:=by show(rT _ j).chan.toNat=_;rw[c1]
  rw[c1,c2,e,gc _ (by omega),lc]
  refine⟨a1,by omega,rfl,?_⟩
  show ye _ _ _=_
  rw[cast _ a1];exact a3
 ·rw[lp]at hi
  rw[gp i hi]at hj hk he
  rw[ltk]at hj hk
  have a1:=(q1 i hi j hj).1
  have a2:=(q1 i hi k hk).1
  have e1:cj (qq b (ah sh) i) j=(((ah sh).getD i co).I.getD j 0).toNat:=by show(lI _ j).chan.toNat=_;rw[(ctk i j hj).1]
  have e2:cj (qq b (ah sh) i) k=(((ah sh).getD i co).I.getD k 0).toNat:=by show(lI _ k).chan.toNat=_;rw[(ctk i k hk).1]
  exact q3 i hi j hj k hk (by omega)
 ·rw[lp]at hi
  rw[gp i hi]at hj hk he
  rw[lpt]at hj hk
  have a1:=(q2 i hi j hj).1
  have a2:=(q2 i hi k hk).1
  have e1:ep (qq b (ah sh) i) j=(((ah sh).getD i co).NG.getD j 0).toNat:=by show(rT _ j).chan.toNat=_;rw[(cpt i j hj).1]
  have e2:ep (qq b (ah sh) i) k=(((ah sh).getD i co).NG.getD k 0).toNat:=by show(rT _ k).chan.toNat=_;rw[(cpt i k hk).1]
  exact q4 i hi j hj k hk (by omega)
 ·rw[lc]at hn
  rw[gc n hn];rfl
 ·rw[lc]at hn
  rw[gc n hn]
  show(0:Int)≤if _ then _ else _
  split
  ·exact Int.add_nonneg (by decide) (Pm _ (by decide))
  ·exact Int.le_refl 0
abbrev Ej (k:IntKind) (x:Int):Prop:=(Lit.int k x).wf=true
def wN {α:Type} (enc:α→Value) (S:Nat→Prop) (w:World) (v:Value) (l:List α):Prop :=
 ∃(p:Option Addr) (c:Nat),v=.slice p l.length c∧l.length≤c∧c≤maxLen∧(p=none→c=0) ∧
  (0<l.length→∃b I',p=some ⟨b,I',none⟩∧S b∧b<w.heap.size∧∀(i:Nat) (x:α),l[i]?=some x→w.cell? ⟨b,I'+i,none⟩=some (enc x))
theorem wN.stable {α:Type} (enc:α→Value) (l:List α):fx (fun S v w=>wN enc S w v l):=by
 rintro S S' v w w' ⟨p,c,rfl,h1,h2,h3,h4⟩ hS hw Qk
 refine⟨p,c,rfl,h1,h2,h3,fun h0=>?_⟩
 obtain⟨b,I',rfl,q1,q2,q3⟩:=h4 h0
 refine⟨b,I',rfl,hS b q1 q2,by omega,fun i x hx=>?_⟩
 rw[← q3 i x hx]
 exact PH (hw b q1 q2)
theorem wN.mono {α:Type} {enc:α→Value} {l:List α} {S S':Nat→Prop} {w w':World} {v:Value} (h:wN enc S w v l) (hS:∀b,S b→b<w.heap.size→S' b)
  (hb:Below w.heap.size w w'):wN enc S' w' v l:=wN.stable enc l S S' v w w' h hS (fun b _ QJ=>hb.block b QJ) hb.size
open Go.ChangeShapes Go.WideShapes Go.ChangeAt Go.RowKit
section
variable {H:Type} {enc:TypeId×Value→H} {P:Program} {W:World}
theorem Ek {α:Type} {S:Nat→Prop} {t e:TypeId} {Qb:α→List V} {d0:α} {good:α→Prop} {fuel:Nat} {cs:List Value} {x:DataW H×List MemPlace} (ht:P.underlying t=some (.slice e)) (hc:P.cellsOf e=1) (hS:∀b,b<W.heap.size→S b)
  (he:∀fuel cs y,DataW.trod enc P W 0 (fun _=>true) true fuel e cs=some y→∃v a y0,cs=[v]∧good a∧Qb a=[y0]∧cz S W y0 v) (h:DataW.trod enc P W 0 (fun _=>true) true fuel t cs=some x) :
  ∃v l,cs=[v]∧(∀a∈l,good a)∧l.length≤maxLen∧cz S W (.sl 1 Qb d0 l) v:=by
 rcases DataW.trod_slice ht h with ⟨rfl,_⟩ | ⟨a,len,cap,elems,rest,n,_,rfl,rfl,_,hl,hm,Qi,VC,_,_⟩
 ·exact⟨_,[],rfl,fun a ha=>by simp at ha,by simp,.nil _ _ _ _ _ (by omega) (fun _=>rfl)⟩
 by_cases h0:len=0
 ·subst h0
  exact⟨_,[],rfl,fun a ha=>by simp at ha,by simp,.nil _ _ _ _ _ hm (fun h=>by cases h)⟩
 have each:∀i,∃a':α,i<len→∃v y0,W.cell? (a.add i)=some v∧good a'∧Qb a'=[y0]∧cz S W y0 v:=by
  intro i
  by_cases hi:i<len
  ·have h1:=VC i hi
   rw[NM (by omega),hc,Nat.mul_one,Option.bind_eq_some_iff]at h1
   obtain⟨UV,hcs,hy⟩:=h1
   obtain⟨v,a',y0,rfl,g1,g2,g3⟩:=he _ _ _ hy
   exact⟨a',fun _=>⟨v,y0,cell_of_cells?_one hcs,g1,g2,g3⟩⟩
  ·exact⟨d0,fun h=>(hi h).elim⟩
 obtain⟨f,hf⟩:=Classical.axiomOfChoice each
 obtain⟨b,I',spot⟩:=a
 obtain⟨v0,_,h00,_⟩:=hf 0 (by omega)
 have hspot:spot=none:=by simpa[Addr.add]using World.cell?_spot h00
 subst hspot
 have VY:∀i,(⟨b,I',none⟩:Addr).add i=⟨b,I'+i,none⟩:=fun i=>by unfold Addr.add;split<;>simp_all
 have hb:b<W.heap.size:=by
  have:=h00
  unfold World.cell? at this
  simp only[Addr.add,Pe]at this
  split at this
  ·rename_i hb
   exact(NV.1 hb).1
  ·cases this
 have QN:∀(i:Nat) (x:α),((List.range len).map f)[i]?=some x→i<len∧x=f i:=by
  intro i x hx
  simp only[N4,Option.map_eq_some_iff]at hx
  obtain⟨j,hj,rfl⟩:=hx
  obtain⟨h1,h2⟩:=NL.1 hj
  simp at h1 h2
  exact⟨h1,by rw[h2]⟩
 refine⟨_,(List.range len).map f,rfl,?_,by simp;omega,.row 1 Qb d0 _ b I' cap len (fun i _=>(W.cell? ⟨b,I'+i,none⟩).getD undef) (hS b hb) hb (by simp) hl hm ?_ ?_ ?_⟩
 ·intro a' ha
  obtain⟨i,hi⟩:=List.getElem?_of_mem ha
  obtain⟨h1,rfl⟩:=QN i a' hi
  obtain⟨_,_,_,g,_⟩:=hf i h1
  exact g
 ·intro i x hx
  obtain⟨h1,rfl⟩:=QN i x hx
  obtain⟨_,_,_,_,g,_⟩:=hf i h1
  rw[g];rfl
 ·intro i x j y hx hy
  obtain⟨h1,rfl⟩:=QN i x hx
  obtain⟨v,y0,g0,_,g,g2⟩:=hf i h1
  rw[g]at hy
  have hj:j=0:=by
   cases j with
   | zero=>rfl
   | succ j=>simp at hy
  subst hj
  rw[VY]at g0
  rw[Nat.mul_one,Ph,g0]
  rfl
 ·intro i x j y hx hy
  obtain⟨h1,rfl⟩:=QN i x hx
  obtain⟨v,y0,g0,_,g,g2⟩:=hf i h1
  rw[g]at hy
  have hj:j=0:=by
   cases j with
   | zero=>rfl
   | succ j=>simp at hy
  subst hj
  simp only[PP,NW]at hy
  subst hy
  rw[VY]at g0
  simp only[g0,P3]
  exact g2
theorem r9 {S:Nat→Prop} {t e:TypeId} {k:IntKind} {fuel:Nat} {cs:List Value} {x:DataW H×List MemPlace} (ht:P.underlying t=some (.slice e)) (he:P.underlying e=some (.int k)) (hc:P.cellsOf e=1) (hS:∀b,b<W.heap.size→S b)
  (h:DataW.trod enc P W 0 (fun _=>true) true fuel t cs=some x):∃v l,cs=[v]∧(∀n∈l,Ej k n)∧l.length≤maxLen∧cz S W (.sl 1 (ac k) 0 l) v :=
 Ek ht hc hS (fun fuel cs y hy=>by
  obtain⟨n,e1,_,e3⟩:=DataW.trod_int he hy
  exact⟨_,n,_,e1,e3,rfl,.int _ _⟩) h
theorem jA {S:Nat→Prop} {r:Reach} {base:Nat} {t e:TypeId} {k:IntKind} {v:Value} {d:DataW H} {p:List MemPlace} (ht:P.underlying t=some (.slice e)) (he:P.underlying e=some (.int k)) (hc:P.cellsOf e=1) (hS:∀b,b<W.heap.size→S b)
  (hv:Value.okWide P W r base t v) (h:DataW.Trod enc P W 0 (fun _=>true) true t v d p):∃l,(∀n∈l,Ej k n)∧l.length≤maxLen∧cz S W (.sl 1 (ac k) 0 l) v:=by
 obtain⟨a0,len,cap,rfl⟩:=okWide_slice ht hv
 obtain⟨fuel,hf⟩:=h
 obtain⟨v,l,e1,h1,h2,h3⟩:=r9 ht he hc hS hf
 simp only[Value.cells,Pn,and_true]at e1
 subst e1
 exact⟨l,h1,h2,h3⟩
theorem Bw {f:FuncId} {ys:List D} {al b:Bool} (h:ap P f ys [] al (dB b) []) (us:Array Value) (W:World) (hr:aK (fun b=>b<W.heap.size) (fun _=>undef) W ys us) (hg:fy (fun b=>b<W.heap.size) W:=by exact Dk rfl) :
  Calls P f us W (fun e W'=>e=.returned (.bool b)∧Below W.heap.size W W'):=by
 refine(h (fun b=>b<W.heap.size) (fun _=>undef) W us (fun _ h=>h) hg ⟨fun id B hB=>by simp at hB,fun i j A B b hA=>by simp at hA,fun i A b hA=>by simp at hA⟩ hr).mono ?_
 rintro e w' ⟨u,μ',S',rfl,h1,h2,h3,h4,h5,_,_,_,h9,_⟩
 refine⟨?_,⟨h1,h2,h3,h4,fun k hk=>h5 k hk (fun i A hA=>by simp at hA)⟩⟩
 rw[eY h9]
theorem u4 {x:Int} (h:Ej .u8 x):0≤x∧x<256:=by
 have h1:IntKind.u8.min≤x∧x≤IntKind.u8.max:=by simpa[Ej,Lit.wf]using h
 have h2:IntKind.u8.min=0:=rfl
 have h3:IntKind.u8.max=255:=rfl
 omega
theorem GT {t:TypeId} {fs:Array Field} {fuel:Nat} {cs:List Value} {x:DataW H×List MemPlace} (ht:P.underlying t=some (.struct fs)) (h:DataW.trod enc P W 0 (fun _=>true) true fuel t cs=some x) :
  ∃n,∀(i:Nat) (f:Field),fs[i]?=some f→∃y,DataW.trod enc P W 0 (fun _=>true) true n f.type ((cs.drop f.offset).take (P.cellsOf f.type))=some y:=by
 obtain⟨xs,n,_,_,_,Qi,hf⟩:=DataW.trod_struct ht h
 refine⟨n,fun i f hi=>?_⟩
 have h1:=hf i f hi
 have h2:=(NV.1 hi).1
 rw[NM (by omega)]at h1
 exact⟨_,h1⟩
theorem vj {r:Reach} {base:Nat} {t:TypeId} {fs:Array Field} {v:Value} {m:Nat} (ht:P.underlying t=some (.struct fs)) (hm:P.cellsOf t=m) (hv:Value.okWide P W r base t v):∃cs:List Value,v=.agg cs.toArray∧cs.length=m:=by
 unfold Value.okWide at hv
 rw[ht]at hv
 obtain⟨cs,rfl,hs,_⟩:=hv
 exact⟨cs.toList,by simp,by simp[hs,hm]⟩
def yb (S:Nat→Prop) (μ:Nat→Value) (w:World):List D→List Value→Prop
 | [],[]=>True
 | d::ds,u::us=>ai S μ w d u∧yb S μ w ds us
 | _,_=>False
theorem yb.at {S:Nat→Prop} {μ:Nat→Value} {w:World}:∀{ds:List D} {us:List Value},yb S μ w ds us→us.length=ds.length∧∀(j:Nat) (y:D) (u:Value),ds[j]?=some y→us[j]?=some u→ai S μ w y u
 | [],[],_=>⟨rfl,fun j y u hy=>by simp at hy⟩
 | d::ds,u::us,h=>by
  obtain⟨h1,h2⟩:=h.2.at
  refine⟨by simp[h1],fun j y z hy hz=>?_⟩
  match j with
  | 0=>simp at hy hz;subst hy hz;exact h.1
  | j+1=>exact h2 j y z (by simpa using hy) (by simpa using hz)
 | [],_::_,h=>h.elim
 | _::_,[],h=>h.elim
theorem It {S:Nat→Prop} {μ:Nat→Value} {w:World} {ds:List D} {us:List Value} (h:yb S μ w ds us):ai S μ w (.agg ds) (.agg us.toArray) :=
 .agg _ _ (by simpa using h.at.1) (fun j y u hy hu=>h.at.2 j y u hy (by simpa using hu))
theorem Kw {S:Nat→Prop} {μ:Nat→Value} {w:World} {x y q:D} {u v t:Value} (h:ai S μ w x u) (k:ai S μ w y v) (m:ai S μ w q t):aK S μ w [x,y,q] #[u,v,t]:=⟨rfl,fun j y z hy hz=>by
 match j with
 | 0=>simp at hy hz;subst hy hz;exact h
 | 1=>simp at hy hz;subst hy hz;exact k
 | 2=>simp at hy hz;subst hy hz;exact m
 | j+3=>simp at hy⟩
end
section
variable {H:Type} {enc:TypeId×Value→H} {P:Program} {W:World}
theorem L1 {α:Type} (l:List α) (h:l.length=2):∃a b,l=[a,b]:=by
 match l,h with
 | [a,b],_=>exact⟨a,b,rfl⟩
end
theorem Bx {l:List Int} (h:∀n∈l,Ej .u8 n):oM l:=fun x hx=>by
 have:=u4 (h x hx);omega
theorem I4 {x:Int} (h:Ej .u8 x):0≤x∧x≤255:=by have:=u4 h;omega
abbrev cU (l:List (List Int)) (r:Nat):qo:=⟨3,1,Int,ac .i64,0,l.getD r []⟩
abbrev rY (l:List (List Int)) (k i j:Nat):D:=if i<k then .gr 1 i else gn af [] (List.replicate l.length []) i j
theorem F7 (l:List (List Int)) (k:Nat):tv 1 l.length k 0 [.own 2] [1,2] (fun i j=>rY l k i j) (fun i j=>if i=k then .own 2 else rY l k i j):=by
  intro i j hi hj
  have VI:j=0:=by omega
  subst VI
  refine⟨by by_cases h:i=k<;>simp[h],fun g hg=>?_⟩
  simp only[PX,NK]at hg
  show D.free g (if i=k then .own 2 else rY l k i 0)=true
  split
  · exact hg.2.1
  · unfold rY
    split
    · exact hg.1
    · rfl
theorem JU (l:List (List Int)) (k:Nat):∀i j,i<l.length→j<1→DD 1 k 2 (if i=k then .own 2 else rY l k i j) (rY l (k+1) i j):=by
  intro i j hi hj
  by_cases h:i=k
  · subst h
    exact .inl ⟨NT rfl,NT (Nat.lt_succ_self i)⟩
  · refine .inr ⟨?_,?_⟩
    · rw[NQ h];unfold rY;by_cases h2:i<k
      · rw[NT h2,NT (by omega)]
      · rw[NQ h2,NQ (by omega)]
    · rw[NQ h];unfold rY;by_cases h2:i<k
      · rw[NT h2];exact .inl ⟨i,rfl,h⟩
      · rw[NQ h2];exact .inr (.inl ⟨_,rfl⟩)
theorem HZ (l:List (List Int)) (k i j q:Nat) (hq:[1].all (fun g=>!(Nat.beq g q))=true):(rY l k i j).free q=true:=by
  unfold rY
  split
  · simpa[D.free]using hq
  · rfl
theorem F8 (l:List (List Int)) {k:Nat} (h:l.length≤k):∀i j,i<l.length→j<1→AL 1 (rY l k i j) (.me i):=by
  intro i j hi hj
  exact .inl ⟨i,NT (by omega),rfl⟩
abbrev MC (l:List (List Int)):Eo:=⟨36,[(dL 1 af [] l)],(.gr 0 0),(.nest 35 1 l.length (fun i _=>.me i) l.length (cU l))⟩
abbrev j8 (l:List (List Int)):Lp (Nat):=lm [0,3,9,10] 2 (fun (k:Nat)=>⟨[(0,(dL 1 af [] l)),(3,(.own 0)),(9,(i6 (l.length:Int))),(10,(i6 (k:Int)))],[(.arrD 35 1 l.length [1] (fun i j=>rY l k i j)),(.grp k (cU l))]⟩) (fun (k:Nat)=>k≤l.length) (fun (k:Nat)=>l.length-k)
theorem A7 (l:List (List Int)) (hl:l.length≤100000) (hs:∀z∈l,z.length≤100000):CO (MC l):=by
 refine ap.vcO (V:=TT 3 ((((0:Int)≤(l.length:Int)∧(l.length:Int)≤(l.length:Int)∧(l.length:Int)≤137438953472)∧(List.replicate l.length ([]:List Int)).length=l.length∧∀x∈(List.replicate l.length ([]:List Int)),dp [.nils] (af x))∧TT 3 ((l.length=(List.replicate l.length ([]:List Int)).length∧∀i j,i<l.length→j<1→rY l 0 i j=gn af [] (List.replicate l.length []) i j∧∀k,[1].all (fun g=>!(Nat.beq g k))=true→(rY l 0 i j).free k=true)∧TT 3 (GO (j8 l) 0 (∀k,(j8 l).inv k→TT 1 (CD ((k:Int)<(l.length:Int)) (TT 6 (IX (k:Int) l.length∧TT 1 (CO (Lm (l.getD k []))∧IX (k:Int) l.length∧(k<l.length∧tv 1 l.length k 0 [(.own 2)] [1,2] (fun i j=>rY l k i j) (fun i j=>if i=k then .own 2 else rY l k i j))∧(k≤k∧k+1=max k (k+1)∧(∀q,q<k+1→cU l q=if q=k then cU l k else cU l q)∧∀i j,i<l.length→j<1→DD 1 k 2 (if i=k then .own 2 else rY l k i j) (rY l (k+1) i j))∧(l.length=l.length∧∀i j,i<l.length→j<1→rY l (k+1) i j=rY l (k+1) i j∧∀q,[1].all (fun g=>!(Nat.beq g q))=true→(rY l (k+1) i j).free q=true)∧W6 ((k+1:Nat):Int)∧TT 1 (AG (j8 l) k (k+1))))) ((l.length=k∧∀q,q<l.length→cU l q=cU l q)∧(∀i j,i<l.length→j<1→AL 1 (rY l k i j) (.me i))∧TT 3 (((.gr 0 0):D)=.gr 0 0∧((.nest 35 1 l.length (fun i _=>.me i) l.length (cU l)):ak)=(.nest 35 1 l.length (fun i _=>.me i) l.length (cU l)))))))))) (.w 1 [(2,.box 35 1 af [] (List.replicate l.length ([]:List Int)))]<|.gh 2 (KU 0)<|.gh 2 (Mf (cU l))<|.gh 2 (ll 0 l.length [1] (fun i j=>rY l 0 i j))<|.l (j8 l) 0 (fun k=>.b 11 (.w 5 [(6,(Lm (l.getD k [])).O),(8,.cells [1,2] (fun i j=>if i=k then .own 2 else rY l k i j))]<|.gh 6 (put 0 1 2 k (k+1) (fun i j=>rY l (k+1) i j) (cU l))<|.gh 6 (ll 0 l.length [1] (fun i j=>rY l (k+1) i j))<|.w 6 [(0,.val (i6 ((k+1:Nat):Int)))]<|.e) (.gh 7 (IH 1 l.length (cU l))<|.gh 7 (KW 0 1 (fun i _=>.me i))<|.e))) Try.func36 rfl rfl rfl (by kernel_rfl) ?_
 refine tt ⟨⟨by omega,NR,fun x hx=>by rw[Ol hx];exact⟨rfl,oK⟩⟩,tt ⟨⟨(NR ..).symm,fun i j _ _=>⟨rfl,fun _ _=>rfl⟩⟩,tt ⟨rfl,(Oy _),?_⟩⟩⟩
 intro k L'
 have hk:=L'
 refine tt (cd (fun RE=>?_) (fun RE=>?_))
 · have hz:(l.getD k []).length≤100000:=by rw[Od,NM (by omega)];exact hs _ (Pq _)
   refine tt ⟨ix,tt ⟨(wy (l.getD k []) om),⟨ix,⟨⟨by omega,F7 l k⟩,⟨⟨NN k,by omega,fun q _=>by split<;>simp_all,JU l k⟩,⟨⟨rfl,fun i j _ _=>⟨rfl,fun q hq=>HZ l _ i j q hq⟩⟩,⟨w6,tt ⟨(k+1),rfl,(?_:(k+1)≤l.length),(?_:l.length-(k+1)<l.length-k)⟩⟩⟩⟩⟩⟩⟩⟩
   · omega
   · omega
 · exact⟨⟨by omega,fun _ _=>rfl⟩,⟨F8 l (by omega),tt ⟨rfl,rfl⟩⟩⟩
abbrev Gc (c:Ci) (n:Nat):D:=(.fn (.func 51) [] [(.iptr [(.sl 6 mB aa c.U),(.sl 5 js bx c.J)] 0),(.iptr [(.int .i64 (n:Int))] 0)])
set_option maxRecDepth 100000
abbrev MF (a b:List Int):Ct:=⟨40,[(LI a),(LI b)],false,(i6 (((gx a b):Nat):Int))⟩
abbrev sX (a:List Int) (b:List Int):Lp (Nat):=lm [0,1,5] 0 (fun (n:Nat)=>⟨[(0,(LI a)),(1,(LI b)),(5,(i6 (n:Int)))],[]⟩) (fun (n:Nat)=>n≤a.length∧n≤b.length∧∀j,j<n→a.getD j 0=b.getD j 0) (fun (n:Nat)=>a.length-n)
theorem H0 (a b:List Int) (ha:a.length≤9223372036854775807):CC (MF a b):=by
 refine ap.vc (V:=TT 2 (GO (sX a b) 0 (∀n,(sX a b).inv n→CS ((n:Int)<(((min a.length b.length):Nat):Int)) (TT 5 ((True∧(yk (a.length:Int) (b.length:Int))=(((min a.length b.length):Nat):Int))∧TT 1 ((True∧(decide ((n:Int)<(((min a.length b.length):Nat):Int)))=true)∧TT 2 (IX (n:Int) a.length∧TT 3 (IX (n:Int) b.length∧TT 3 (CD ((a.getD n 0)=(b.getD n 0)) (TT 1 (W6 ((n+1:Nat):Int)∧TT 1 (AG (sX a b) n (n+1)))) (TT 3 ((n:Int)=(((gx a b):Nat):Int)∧True)))))))) (TT 5 ((True∧(yk (a.length:Int) (b.length:Int))=(((min a.length b.length):Nat):Int))∧TT 1 ((True∧(decide ((n:Int)<(((min a.length b.length):Nat):Int)))=false)∧TT 4 ((n:Int)=(((gx a b):Nat):Int)∧True))))))) (.l (sX a b) 0 (fun n=>.s 2 ((n:Int)<(((min a.length b.length):Nat):Int)) (.w 2 [(5,.val (i6 (((min a.length b.length):Nat):Int))),(7,.val (dB true))]<|.b 23 (.w 3 [(1,.val (i6 ((n+1:Nat):Int)))]<|.e) (.e)) (.w 2 [(5,.val (i6 (((min a.length b.length):Nat):Int))),(7,.val (dB false))]<|.e))) Try.func40 rfl rfl rfl (by kernel_rfl) ?_
 refine tt ⟨rfl,⟨by omega,by omega,fun j hj=>by omega⟩,?_⟩
 intro n L'
 obtain⟨hn1,Ws,hn3⟩:=L'
 refine⟨fun Qe=>?_,fun Qe=>?_⟩
 · refine tt ⟨⟨oK,(by unfold yk;split<;>omega)⟩,tt ⟨(vT Qe),tt ⟨ix,tt ⟨ix,tt (cd (fun S5=>?_) (fun S5=>?_))⟩⟩⟩⟩
   · refine tt ⟨w6,tt ⟨(n+1),rfl,?_,(?_:a.length-(n+1)<a.length-n)⟩⟩
     · exact⟨by omega,by omega,d4 hn3 S5⟩
     · omega
   · refine tt ⟨?_,oK⟩
     first | exact congrArg _ (xO hn1 Ws hn3 (by omega)).symm | exact congrArg _ (xO hn1 Ws hn3 (fun q=>S5 q.2.2)).symm
 · refine tt ⟨⟨oK,(by unfold yk;split<;>omega)⟩,tt ⟨(vF Qe),tt ⟨?_,oK⟩⟩⟩
   first | exact congrArg _ (xO hn1 Ws hn3 (by omega)).symm | exact congrArg _ (xO hn1 Ws hn3 (fun q=>S5 q.2.2)).symm
abbrev MG (a b:List (List Int)):Ct:=⟨15,[(dL 1 af [] a),(dL 1 af [] b)],false,(dB (p8 a b))⟩
abbrev sY (a:List (List Int)) (b:List (List Int)):Lp (Nat):=lm [0,1,12,13] 0 (fun (i:Nat)=>⟨[(0,(dL 1 af [] a)),(1,(dL 1 af [] b)),(12,(i6 (a.length:Int))),(13,(i6 (i:Int)))],[]⟩) (fun (i:Nat)=>i≤a.length∧∀q,q<i→(!decide (gx (a.getD q []) (b.getD q [])<(a.getD q []).length))=true) (fun (i:Nat)=>a.length-i)
theorem H2 (a b:List (List Int)) (ha:a.length≤9223372036854775807) (hsa:∀i,(a.getD i []).length≤9223372036854775807):CC (MG a b):=by
 refine ap.vc (V:=TT 6 (CN ((a.length:Int)=(b.length:Int)) (TT 2 (false=(p8 a b)∧True)) (TT 3 (GO (sY a b) 0 (∀i,(sY a b).inv i→TT 1 (CD ((i:Int)<(a.length:Int)) (TT 4 (IX (i:Int) a.length∧TT 3 (IX (i:Int) b.length∧TT 1 (CC (MF (a.getD i []) (b.getD i []))∧TT 2 (IX (i:Int) a.length∧TT 3 (CD ((((gx (a.getD i []) (b.getD i [])):Nat):Int)<(((a.getD i []).length:Nat):Int)) (TT 2 (false=(p8 a b)∧True)) (W6 ((i+1:Nat):Int)∧TT 1 (AG (sY a b) i (i+1))))))))) (TT 2 (true=(p8 a b)∧True)))))))) (.b 10 (.e) (.l (sY a b) 0 (fun i=>.b 14 (.w 6 [(8,(MF (a.getD i []) (b.getD i [])).O)]<|.b 30 (.e) (.w 8 [(0,.val (i6 ((i+1:Nat):Int)))]<|.e)) (.e)))) Try.func15 rfl rfl rfl (by kernel_rfl) ?_
 refine tt (cn (fun hc10=>?_) (fun hc10=>?_))
 · refine tt ⟨?_,oK⟩
   first | exact(xQ (by omega)).symm | exact(xR (i:=i) (by omega) (by omega)).symm | exact(xS (by omega) (fun q hq=>h3 q (by omega))).symm
 · refine tt ⟨rfl,⟨by omega,fun q hq=>by omega⟩,?_⟩
   intro i L'
   obtain⟨hi,h3⟩:=L'
   refine tt (cd (fun SP=>?_) (fun SP=>?_))
   · refine tt ⟨ix,tt ⟨ix,tt ⟨(H0 (a.getD i []) (b.getD i []) (hsa i)),tt ⟨ix,tt (cd (fun V4=>?_) (fun V4=>?_))⟩⟩⟩⟩
     · refine tt ⟨?_,oK⟩
       first | exact(xQ (by omega)).symm | exact(xR (i:=i) (by omega) (by omega)).symm | exact(xS (by omega) (fun q hq=>h3 q (by omega))).symm
     · refine⟨w6,tt ⟨(i+1),rfl,?_,(?_:a.length-(i+1)<a.length-i)⟩⟩
       · exact⟨by omega,d4 h3 (by rw[N5 (by omega)];rfl)⟩
       · omega
   · refine tt ⟨?_,oK⟩
     first | exact(xQ (by omega)).symm | exact(xR (i:=i) (by omega) (by omega)).symm | exact(xS (by omega) (fun q hq=>h3 q (by omega))).symm
abbrev MH (v:Int) (c:Ci) (n:Nat):Ct:=⟨51,[(i6 v),(.iptr [(.sl 6 mB aa c.U),(.sl 5 js bx c.J)] 0),(.iptr [(.int .i64 (n:Int))] 0)],false,(dB (!(cy v (b9 c n).w)))⟩
theorem Ba (v:Int) (c:Ci) (n:Nat) (hc:bE c) (hn:n<c.J.length):CC (MH v c n):=by
 have hw:1≤(c.J.getD n bx).w∧(c.J.getD n bx).w≤8:=bf.1 (hc.cw n (by omega))
 refine ap.vc (V:=TT 1 (CS (v<0) (TT 2 ((True∧(decide (v<0))=true)∧TT 12 (true=(!(cy v (b9 c n).w))∧True))) (TT 2 ((True∧(decide (v<0))=false)∧TT 4 (IX (n:Int) c.J.length∧TT 2 (SH ((c.J.getD n bx).w)∧TT 4 ((decide (v≥(2^(((c.J.getD n bx).w).toNat))))=(!(cy v (b9 c n).w))∧True))))))) (.s 1 (v<0) (.w 1 [(2,.val (dB true))]<|.e) (.w 1 [(2,.val (dB false)),(10,.val (i6 (2^(((c.J.getD n bx).w).toNat))))]<|.e)) Try.func51 rfl rfl rfl (by kernel_rfl) ?_
 refine tt ⟨fun Qe=>?_,fun Qe=>?_⟩
 · refine tt ⟨(vT Qe),tt ⟨?_,oK⟩⟩
   show _=!(cy v (c.J.getD n bx).w)
   first | (unfold cy;rw[N5 (by omega)];rfl) | (unfold cy;rw[Og (show(0:Int)≤v by omega),dr (by omega) (by omega),Pw];by_cases hq:v<2^(c.J.getD n bx).w.toNat<;>first | (rw[N5 (by omega),Og (by omega)];rfl) | (rw[Og (by omega),N5 (by omega)];rfl))
 · refine tt ⟨(vF Qe),tt ⟨ix,tt ⟨(sh (by have:=lx (n:=(c.J.getD n bx).w.toNat) (by omega);omega) (by have:=lx (n:=(c.J.getD n bx).w.toNat) (by omega);omega)),tt ⟨?_,oK⟩⟩⟩⟩
   show _=!(cy v (c.J.getD n bx).w)
   first | (unfold cy;rw[N5 (by omega)];rfl) | (unfold cy;rw[Og (show(0:Int)≤v by omega),dr (by omega) (by omega),Pw];by_cases hq:v<2^(c.J.getD n bx).w.toNat<;>first | (rw[N5 (by omega),Og (by omega)];rfl) | (rw[Og (by omega),N5 (by omega)];rfl))
abbrev J0 (l:List Int) (c:Ci) (n:Nat):Ct:=⟨61,[(LI l),(Gc c n)],false,(i6 (so l (b9 c n).w))⟩
abbrev sZ (l:List Int) (c:Ci) (n:Nat):Lp (Nat):=lm [0,1,7,8] 0 (fun (i:Nat)=>⟨[(0,(LI l)),(1,(Gc c n)),(7,(i6 (l.length:Int))),(8,(i6 (i:Int)))],[]⟩) (fun (i:Nat)=>i≤l.length∧∀z,z<i→(!cy (l.getD z 0) (b9 c n).w)=false) (fun (i:Nat)=>l.length-i)
theorem H3 (l:List Int) (c:Ci) (n:Nat) (hc:bE c) (hn:n<c.J.length) (hl:l.length≤9223372036854775807):CC (J0 l c n):=by
 refine ap.vc (V:=TT 4 (GO (sZ l c n) 0 (∀i,(sZ l c n).inv i→TT 1 (CD ((i:Int)<(l.length:Int)) (TT 5 (IX (i:Int) l.length∧TT 1 (CC (MH (l.getD i 0) c n)∧CB (!(cy (l.getD i 0) (b9 c n).w)) (TT 3 ((i:Int)=(so l (b9 c n).w)∧True)) (W6 ((i+1:Nat):Int)∧TT 1 (AG (sZ l c n) i (i+1)))))) (TT 2 ((-1)=(so l (b9 c n).w)∧True)))))) (.l (sZ l c n) 0 (fun i=>.b 9 (.w 4 [(5,(MH (l.getD i 0) c n).O)]<|.b 16 (.e) (.w 6 [(0,.val (i6 ((i+1:Nat):Int)))]<|.e)) (.e))) Try.func61 rfl rfl rfl (by kernel_rfl) ?_
 refine tt ⟨rfl,⟨by omega,fun z hz=>by omega⟩,?_⟩
 intro i L'
 obtain⟨hi,h3⟩:=L'
 refine tt (cd (fun V2=>?_) (fun V2=>?_))
 · refine tt ⟨ix,tt ⟨(Ba (l.getD i 0) c n hc hn),⟨fun Ty=>?_,fun Ty=>?_⟩⟩⟩
   · refine tt ⟨?_,oK⟩
     first | exact(oQ (f:=fun i=>!cy (l.getD i 0) (b9 c n).w) Ty h3 (by omega)).symm | exact(ww (f:=fun i=>!cy (l.getD i 0) (b9 c n).w) (fun z hz=>h3 z (by omega))).symm
   · refine⟨w6,tt ⟨(i+1),rfl,?_,(?_:l.length-(i+1)<l.length-i)⟩⟩
     · exact⟨by omega,d4 h3 Ty⟩
     · omega
 · refine tt ⟨?_,oK⟩
   first | exact(oQ (f:=fun i=>!cy (l.getD i 0) (b9 c n).w) Ty h3 (by omega)).symm | exact(ww (f:=fun i=>!cy (l.getD i 0) (b9 c n).w) (fun z hz=>h3 z (by omega))).symm
abbrev Gd (l:List Int) (c:Ci) (n:Nat):Ct:=⟨52,[(LI l),(Gc c n)],false,(dB (decide (0≤so l (b9 c n).w)))⟩
theorem CV (l:List Int) (c:Ci) (n:Nat) (hc:bE c) (hn:n<c.J.length) (hl:l.length≤9223372036854775807):CC (Gd l c n):=by
 refine ap.vc (V:=TT 3 (CC (J0 l c n)∧TT 3 ((decide ((so l (b9 c n).w)≥0))=(decide (0≤so l (b9 c n).w))∧True))) (.w 1 [(2,(J0 l c n).O)]<|.e) Try.func52 rfl rfl rfl (by kernel_rfl) ?_
 refine tt ⟨(H3 l c n hc hn hl),tt ⟨?_,oK⟩⟩
 rfl
abbrev J1 (c:Ci) (F':List (List Int)):Ct:=⟨35,[(.agg [(dL 6 mB aa c.U),(dL 5 js bx c.J)]),(dL 1 af [] F')],false,(dB (gy c F'))⟩
abbrev ju (c:Ci) (F':List (List Int)):Lp (Nat):=lm [2,14,15,16] 1 (fun (n:Nat)=>⟨[(2,(.iptr [(.sl 6 mB aa c.U),(.sl 5 js bx c.J)] 0)),(14,(dL 1 af [] F')),(15,(i6 (F'.length:Int))),(16,(i6 (n:Int)))],[.dead]⟩) (fun (n:Nat)=>n≤F'.length∧∀z,z<n→ve c F' z=true) (fun (n:Nat)=>F'.length-n)
theorem rf (c:Ci) (F':List (List Int)) (hc:bE c) (hl:F'.length≤9223372036854775807) (hs:∀i,(F'.getD i []).length≤9223372036854775807):CC (J1 c F'):=by
 have Re:=hc.nl
 have hcl:=hc.cl
 refine ap.vc (V:=TT 8 (CN ((F'.length:Int)=(c.J.length:Int)) (TT 2 (false=(gy c F')∧True)) (TT 3 (GO (ju c F') 0 (∀n,(ju c F').inv n→TT 1 (CD ((n:Int)<(F'.length:Int)) (TT 1 (IX (n:Int) F'.length∧TT 6 (CS ((((F'.getD n []).length:Nat):Int)>1000) (TT 3 ((True∧(decide ((((F'.getD n []).length:Nat):Int)>1000))=true)∧TT 20 (false=(gy c F')∧True))) (CS ((((F'.getD n []).length:Nat):Int)>0) (CS (((c.J.getD n bx).frm)=(-1)) (TT 3 ((True∧(decide ((((F'.getD n []).length:Nat):Int)>1000))=false)∧TT 3 ((True∧(decide ((((F'.getD n []).length:Nat):Int)>0))=true)∧TT 3 (IX (n:Int) c.J.length∧TT 5 ((True∧(!decide (((c.J.getD n bx).frm)=(-1)))=false)∧TT 2 (CC (Gd (F'.getD n []) c n)∧TT 1 (CD (0≤so (F'.getD n []) (b9 c n).w) (TT 2 (false=(gy c F')∧True)) (W6 ((n+1:Nat):Int)∧TT 1 (AG (ju c F') n (n+1)))))))))) (TT 3 ((True∧(decide ((((F'.getD n []).length:Nat):Int)>1000))=false)∧TT 3 ((True∧(decide ((((F'.getD n []).length:Nat):Int)>0))=true)∧TT 3 (IX (n:Int) c.J.length∧TT 5 ((True∧(!decide (((c.J.getD n bx).frm)=(-1)))=true)∧TT 6 (false=(gy c F')∧True))))))) (TT 3 ((True∧(decide ((((F'.getD n []).length:Nat):Int)>1000))=false)∧TT 3 ((True∧(decide ((((F'.getD n []).length:Nat):Int)>0))=false)∧TT 12 (CC (Gd (F'.getD n []) c n)∧TT 1 (CD (0≤so (F'.getD n []) (b9 c n).w) (TT 2 (false=(gy c F')∧True)) (W6 ((n+1:Nat):Int)∧TT 1 (AG (ju c F') n (n+1)))))))))))) (TT 2 (true=(gy c F')∧True)))))))) (.b 13 (.e) (.f 3 0<|.l (ju c F') 0 (fun n=>.b 17 (.f 6 1<|.s 7 ((((F'.getD n []).length:Nat):Int)>1000) (.w 7 [(3,.val (dB true))]<|.e) (.s 7 ((((F'.getD n []).length:Nat):Int)>0) (.s 7 (((c.J.getD n bx).frm)=(-1)) (.w 7 [(3,.val (dB false)),(7,.val (dB true)),(17,.val (dB false)),(20,(Gd (F'.getD n []) c n).O)]<|.b 43 (.e) (.w 9 [(0,.val (i6 ((n+1:Nat):Int)))]<|.e)) (.w 7 [(3,.val (dB false)),(7,.val (dB true)),(17,.val (dB true))]<|.e)) (.w 7 [(3,.val (dB false)),(7,.val (dB false)),(20,(Gd (F'.getD n []) c n).O)]<|.b 43 (.e) (.w 9 [(0,.val (i6 ((n+1:Nat):Int)))]<|.e)))) (.e)))) Try.func35 rfl rfl rfl (by kernel_rfl) ?_
 refine tt (cn (fun Vm=>?_) (fun Vm=>?_))
 · refine tt ⟨?_,oK⟩
   first | exact(mR (by omega)).symm | exact(mS (n:=n) (by omega) (by omega)).symm | exact(mU (n:=n) (by omega) (by omega) (by show ¬(c.J.getD n bx).frm=-1;omega)).symm | exact(mV (n:=n) (by omega) (by first | assumption | simpa using Qx)).symm | exact(mW (by omega) (fun z hz=>h3 z (by omega))).symm
 · refine tt ⟨rfl,⟨by omega,fun z hz=>by omega⟩,?_⟩
   intro n L'
   obtain⟨hn,h3⟩:=L'
   refine tt (cd (fun Tu=>?_) (fun Tu=>?_))
   · refine tt ⟨ix,tt ⟨fun Qe=>?_,fun Qe=>?_⟩⟩
     · refine tt ⟨(vT Qe),tt ⟨?_,oK⟩⟩
       first | exact(mR (by omega)).symm | exact(mS (n:=n) (by omega) (by omega)).symm | exact(mU (n:=n) (by omega) (by omega) (by show ¬(c.J.getD n bx).frm=-1;omega)).symm | exact(mV (n:=n) (by omega) (by first | assumption | simpa using Qx)).symm | exact(mW (by omega) (fun z hz=>h3 z (by omega))).symm
     · refine⟨fun Qy=>?_,fun Qy=>?_⟩
       · refine⟨fun Ss=>?_,fun Ss=>?_⟩
         · refine tt ⟨(vF Qe),tt ⟨(vT Qy),tt ⟨ix,tt ⟨(nF Ss),tt ⟨(CV (F'.getD n []) c n hc (show n<c.J.length by omega) (hs n)),tt (cd (fun Qx=>?_) (fun Qx=>?_))⟩⟩⟩⟩⟩
           · refine tt ⟨?_,oK⟩
             first | exact(mR (by omega)).symm | exact(mS (n:=n) (by omega) (by omega)).symm | exact(mU (n:=n) (by omega) (by omega) (by show ¬(c.J.getD n bx).frm=-1;omega)).symm | exact(mV (n:=n) (by omega) (by first | assumption | simpa using Qx)).symm | exact(mW (by omega) (fun z hz=>h3 z (by omega))).symm
           · refine⟨w6,tt ⟨(n+1),rfl,?_,(?_:F'.length-(n+1)<F'.length-n)⟩⟩
             · exact⟨by omega,d4 h3 (IY (by omega) (by first | exact .inl (by omega) | exact .inr (by show(c.J.getD n bx).frm=-1;omega)) (by first | assumption | simpa using Qx))⟩
             · omega
         · refine tt ⟨(vF Qe),tt ⟨(vT Qy),tt ⟨ix,tt ⟨(nT Ss),tt ⟨?_,oK⟩⟩⟩⟩⟩
           first | exact(mR (by omega)).symm | exact(mS (n:=n) (by omega) (by omega)).symm | exact(mU (n:=n) (by omega) (by omega) (by show ¬(c.J.getD n bx).frm=-1;omega)).symm | exact(mV (n:=n) (by omega) (by first | assumption | simpa using Qx)).symm | exact(mW (by omega) (fun z hz=>h3 z (by omega))).symm
       · refine tt ⟨(vF Qe),tt ⟨(vF Qy),tt ⟨(CV (F'.getD n []) c n hc (show n<c.J.length by omega) (hs n)),tt (cd (fun Qx=>?_) (fun Qx=>?_))⟩⟩⟩
         · refine tt ⟨?_,oK⟩
           first | exact(mR (by omega)).symm | exact(mS (n:=n) (by omega) (by omega)).symm | exact(mU (n:=n) (by omega) (by omega) (by show ¬(c.J.getD n bx).frm=-1;omega)).symm | exact(mV (n:=n) (by omega) (by first | assumption | simpa using Qx)).symm | exact(mW (by omega) (fun z hz=>h3 z (by omega))).symm
         · refine⟨w6,tt ⟨(n+1),rfl,?_,(?_:F'.length-(n+1)<F'.length-n)⟩⟩
           · exact⟨by omega,d4 h3 (IY (by omega) (by first | exact .inl (by omega) | exact .inr (by show(c.J.getD n bx).frm=-1;omega)) (by first | assumption | simpa using Qx))⟩
           · omega
   · refine tt ⟨?_,oK⟩
     first | exact(mR (by omega)).symm | exact(mS (n:=n) (by omega) (by omega)).symm | exact(mU (n:=n) (by omega) (by omega) (by show ¬(c.J.getD n bx).frm=-1;omega)).symm | exact(mV (n:=n) (by omega) (by first | assumption | simpa using Qx)).symm | exact(mW (by omega) (fun z hz=>h3 z (by omega))).symm
theorem xT (w:World) (cs UV:Array Value) (T:TypeId):(w.alloc (.cells cs T)).setRow w.heap.size UV=w.alloc (.cells UV T):=by
 unfold World.setRow World.alloc
 congr 1
 apply Array.ext
 ·simp
 ·intro k h1 h2
  simp only[Array.getElem_modify]
  by_cases hk:w.heap.size=k
  ·subst hk;simp
  ·simp only[Array.size_push,Array.size_modify]at h1
   simp[hk,Array.getElem_push,show k<w.heap.size by omega]
theorem Ge (w:World) {x y:Value} {T:TypeId}:(w.alloc (Obj.cells #[x,y] T)).cell? ((⟨w.heap.size,0,none⟩:Addr).add 0)=some x:=by
 have h:=OM w (Obj.cells #[x,y] T)
 rw[show((⟨w.heap.size,0,none⟩:Addr).add 0)=⟨w.heap.size,0,none⟩from rfl]
 simp only[World.cell?,h]
 rfl
theorem Below.heap_alloc' (w:World) (o:Obj):Below w.heap.size w (w.alloc o):=(Below.refl _ w).alloc (NN _) o
theorem zh {w:World} {g n:Nat} {xs:List Value} (h:w.heap[g]?=some (Obj.cells xs.toArray 4 (0,0))) (hn:xs.length=n:=by rfl) (hm:n≤2:=by decide):w.ownsRow 0 4 1 (.slice (some ⟨g,0,none⟩) n n) n xs :=
 ⟨by omega,.inr ⟨g,n,_,rfl,Oy _,h,NN _,by simp only[maxLen];omega,by simp;omega,by simp[List.take_of_length_le (Nat.le_of_eq hn)]⟩⟩
theorem wB {w w':World} (h:Below w.heap.size w w'):w.grownBy w' none:=⟨h.os,h.tape,h.output,h.size,fun k hk _=>h.block k hk⟩
theorem Lv {S:Nat→Prop} {w:World} {k:IntKind} {n:Int} {u:Value} (h:cz S w (.int k n) u):u=.int k n:=by cases h;rfl
theorem J2 {S:Nat→Prop} {μ:Nat→Value} {w:World} {x y:V} {us:Array Value} (h:aK S μ w [.v x,.v y] us):∃u v,us=#[u,v]∧cz S w x u∧cz S w y v:=by
 obtain⟨h1,h2⟩:=h
 have h1':us.size=2:=h1
 refine⟨us[0]'(by omega),us[1]'(by omega),?_,bg (h2 0 _ _ rfl (N7 _)),bg (h2 1 _ _ rfl (N7 _))⟩
 apply Array.ext
 ·simpa using h1
 ·intro i a b
  have:i=0∨i=1:=by omega
  rcases this with rfl | rfl<;>rfl
def MI (A:Act) (R:World→Prop):Exit→Act→World→Prop
 | .normal,a,w=>a=A∧R w
 | _,_,_=>False
theorem J3 {P:Program} {c:Code} {a:Act} {w:World} {Q:Exit→Act→World→Prop} {R:World→Prop} {A:Act} (h:c.wp P (MI A R) a w) (h2:∀w',R w'→Q .normal A w'):c.wp P Q a w :=
 Code.wp_mono (fun e a' w' h=>by cases e<;>first | exact h.elim | (obtain⟨h4,h5⟩:=h;subst h4;exact h2 w' h5)) h
theorem uE (w:World) (n b o c:Nat) (hn:1≤n) (cs:Array Value) (hcs:cs.size=n) (x:Value) (hx:x.oneCell'=true) (hb:w.cell? ⟨b,o,none⟩=some x) (Tr:b<w.heap.size) :
  (Builtin.copy_ #[60,60] 3 #[.slice (some ⟨w.heap.size,0,none⟩) n n,.slice (some ⟨b,o,none⟩) 1 c]).run Try.prog (w.alloc (.cells cs 4))=.ok (.int .i64 1) (w.alloc (.cells (x::cs.toList.drop 1).toArray 4)):=by
 have h:=run_copy_row (P:=Try.prog) (w.alloc (.cells cs 4)) 60 60 3 4 w.heap.size 0 n n ⟨b,o,none⟩ 1 c cs 4 [x] (by kernel_rfl) (by kernel_rfl) (OM w _) (by show 1=Nat.min 1 n;exact(P6 hn).symm) (fun j v hj=>by
  cases j with
  | zero =>
   simp at hj;subst hj
   rw[← hb]
   exact PH (by show(w.heap.push _)[b]?=_;rw[O3,NQ (by omega)];rfl)
  | succ j=>simp at hj) (by simp;omega) (by simpa using hx)
 rw[h,xT]
 rfl
set_option maxRecDepth 100000 in
set_option maxHeartbeats 1600000 in
theorem Bb (w:World) (b o c:Nat) (hb:w.cell? ⟨b,o,none⟩=some (.bool true)) (Tr:b<w.heap.size):Calls Try.prog 62 #[.slice (some ⟨b,o,none⟩) 1 c,.int .i64 1] w (fun e w'=>∃v,e=.returned v∧w'.ownsRow 0 4 1 v 1 [.bool true]∧w.grownBy w' none∧∀k,aF v=some k→w.heap.size≤k):=by
 have UP:∀w,(Instr.makeSlice 60 (.int .i64 1) (.int .i64 1)).run Try.prog w=.ok (.slice (some ⟨w.heap.size,0,none⟩) 1 1) (w.alloc (.cells #[.bool false] 4)):=fun _=>by kernel_rfl
 have k1:bits BinOp.and IntKind.u64 1 4294967295=1:=by decide
 have k0:bits BinOp.and IntKind.u64 0 4294967295=0:=by decide
 have Uy:=uE w 1 b o c (by omega) #[.bool false] rfl (.bool true) rfl hb Tr
 go_enter Try.func62,Try.ntmps62
 go_wp2
 refine wp_loop_rounds 1 ?_
 unfold Code.rounds
 have QG:(w.alloc (Obj.cells #[Value.bool true] 4)).heap[w.heap.size]?=some (Obj.cells #[Value.bool true] 4 (0,0)):=OM w _
 have hbe:=Below.heap_alloc' w (Obj.cells #[Value.bool true] 4)
 go_wp2
 go_ret
 exact⟨_,rfl,zh QG,wB hbe,fun k hk=>by simp[aF]at hk;omega⟩
set_option maxRecDepth 100000 in
set_option maxHeartbeats 1600000 in
theorem Bc (w:World) (b o c:Nat) (hb:w.cell? ⟨b,o,none⟩=some (.bool true)) (Tr:b<w.heap.size):Calls Try.prog 62 #[.slice (some ⟨b,o,none⟩) 1 c,.int .i64 2] w (fun e w'=>∃v,e=.returned v∧w'.ownsRow 0 4 1 v 2 [.bool true,.bool true]∧w.grownBy w' none∧∀k,aF v=some k→w.heap.size≤k):=by
 have UP:∀w,(Instr.makeSlice 60 (.int .i64 2) (.int .i64 2)).run Try.prog w=.ok (.slice (some ⟨w.heap.size,0,none⟩) 2 2) (w.alloc (.cells #[.bool false,.bool false] 4)):=fun _=>by kernel_rfl
 have k1:bits BinOp.and IntKind.u64 1 4294967295=1:=by decide
 have k2:bits BinOp.and IntKind.u64 2 4294967295=2:=by decide
 have k0:bits BinOp.and IntKind.u64 0 4294967295=0:=by decide
 have Uy:=uE w 2 b o c (by omega) #[.bool false,.bool false] rfl (.bool true) rfl hb Tr
 go_enter Try.func62,Try.ntmps62
 go_wp2
 refine wp_loop_rounds 2 ?_
 unfold Code.rounds
 go_wp2
 have QG:(w.alloc (Obj.cells #[Value.bool true,Value.bool false] 4)).heap[w.heap.size]?=some (Obj.cells #[Value.bool true,Value.bool false] 4 (0,0)):=OM w _
 have hce:=Ge (x:=.bool true) (y:=.bool false) (T:=4) w
 have hbe:=Below.heap_alloc' w (Obj.cells #[Value.bool true,Value.bool false] 4)
 generalize w.alloc (Obj.cells #[Value.bool true,Value.bool false] 4)=W at QG hce hbe ⊢
 apply J3 (R:=fun w'=>w'.heap[w.heap.size]?=some (Obj.cells #[Value.bool true,Value.bool true] 4 (0,0))∧Below w.heap.size w w')
 ·go_region_law (refine step_copy_splice (by kernel_rfl) (.tmp 41) (.tmp 44) 60 60 (by kernel_rfl) 4 (by kernel_rfl) (by kernel_rfl) (some ⟨w.heap.size,1,none⟩) (some ⟨w.heap.size,0,none⟩) 1 1 1 2 (by kernel_rfl) (by kernel_rfl) w.heap.size 1 [.bool true,.bool false] 4 QG [.bool true] rfl (fun _=>⟨rfl,_,rfl,fun j v hj=>by cases j with | zero=>simp at hj;subst hj;exact hce | succ j=>simp at hj⟩) (by simp) (by simp[Value.oneCell']) w.heap.size w (by first | exact hbe | exact hbe.drew) (NN _) ?_;intro w4 hg4 hb4)
  refine⟨?_,hg4,hb4⟩
  exact(by kernel_rfl:_=Act.mk #[.slice (some ⟨b,o,none⟩) 1 c,.int .i64 2,undef,undef,.slice none 0 0,.int .u64 0,.int .u64 2,.slice (some ⟨w.heap.size,0,none⟩) 2 2,.int .i64 2,.int .i64 2,.bool false,undef,.tuple #[.int .u64 0,.int .u64 2],.slice (some ⟨b,o,none⟩) 1 c,.int .i64 1,.int .u64 1,.int .i64 2,.int .u64 2,.tuple #[.int .u64 0,.int .u64 2],.int .u64 0,.int .u64 2,.int .u64 0,.bool false,.bool false,.int .u64 2,.bool false,.bool false,undef,.int .u64 2,.int .i64 2,.slice (some ⟨w.heap.size,0,none⟩) 2 2,.slice (some ⟨w.heap.size,0,none⟩) 2 2,.slice (some ⟨b,o,none⟩) 1 c,.int .i64 1,.int .i64 1,.slice (some ⟨w.heap.size,0,none⟩) 2 2,.int .i64 2,.bool true,.int .i64 1,.slice (some ⟨w.heap.size,0,none⟩) 2 2,.int .i64 1,.slice (some ⟨w.heap.size,1,none⟩) 1 1,.slice (some ⟨w.heap.size,0,none⟩) 2 2,.int .i64 1,.slice (some ⟨w.heap.size,0,none⟩) 1 2,.int .i64 1,.int .i64 2,undef] [])
 ·rintro w5 ⟨h5,h6⟩
  go_wp2
  unfold Code.rounds
  go_wp2
  go_ret
  exact⟨_,rfl,zh h5,wB h6,fun k hk=>by simp[aF]at hk;omega⟩
theorem ap.of_bools {P:Program} {f:FuncId} {ds:List D} {E:TypeId} {l:List Bool}
  (h:∀(S:Nat→Prop) (μ:Nat→Value) (w:World) (us:Array Value),aK S μ w ds us→Calls P f us w (fun e w'=>∃v,e=.returned v∧w'.ownsRow 0 E 1 v l.length (l.map Value.bool)∧w.grownBy w' none∧∀k,aF v=some k→w.heap.size≤k)):ap P f ds [] false (dL 1 ck false l) []:=by
 intro S μ w us hS _ hH QF
 refine(h S μ w us QF).mono ?_
 rintro e w' ⟨v,rfl,ho,hg,Sz⟩
 have Rm:v.oneCell'=true:=by rcases ho.2 with ⟨rfl,_⟩ | ⟨g,cap,Qz,rfl,_⟩<;>rfl
 have hB:aG (fun _=>False) μ w' v (.arr E 1 ck false l):=by
  refine⟨fun i x hx=>rfl,l.map Value.bool,by simpa using ho,fun i x j y hx hy=>?_⟩
  have hj:j=0:=by
   cases j with
   | zero=>rfl
   | succ j=>simp[ck]at hy
  subst hj
  simp only[ck,PP,NW]at hy
  subst hy
  exact⟨.bool x,by rw[Nat.mul_one,Ph,N4,hx];rfl,.bool _⟩
 have Ql:∀b,bu v b→b<w'.heap.size:=fun b hb=>hB.lt rfl b hb
 have hr:=dh (S':=fun b=>(S b∨(w.heap.size≤b∧b<w'.heap.size))∧(False∨w.heap.size≤b)) hB (fun b h=>h.elim) (fun b hb=>⟨.inr ⟨Sz b (hb.bl Rm),Ql b hb⟩,.inr (Sz b (hb.bl Rm))⟩) (fun b h=>h.elim)
 refine⟨v,μ,fun b=>S b∨(w.heap.size≤b∧b<w'.heap.size),rfl,hg.os,hg.tape,hg.output,hg.size,fun k hk _=>hg.block k hk (by simp),fun _ h=>.inl h,fun b h=>h.imp id (·.1),fun b QJ=>QJ.elim (fun h=>OV (hS b h) hg.size) (·.2),.v _ _ (hr.stable (fun b h1 _=>⟨h1.1,h1.2.imp (fun h=>h.elim) id⟩) (fun _ _ _=>rfl) (NN _)),⟨fun id B hB=>by simp at hB,fun i j A B b hA=>by simp at hA,fun i A b hA=>by simp at hA⟩,fun i A b hA=>by simp at hA,fun i A hA=>by simp at hA⟩
abbrev Lw (n:Nat):Ct:=⟨62,[(dL 1 ck false [true]),(i6 (n:Int))],false,dL 1 ck false (List.replicate n true)⟩
theorem wC (n:Nat) (h1:1≤n) (h2:n≤2):CC (Lw n):=by
 refine ap.of_bools (E:=4) (fun S μ w us QF=>?_)
 obtain⟨u,x,rfl,hu,hx⟩:=J2 QF
 cases Lv hx
 obtain⟨q,c,rfl,q1,q2,q3,q4⟩:=eF hu
 obtain⟨bb,I',us,rfl,r1,r2,r3,r4,r5⟩:=q4 (by simp)
 have hc:=r4 0 true 0 (.bool true) rfl rfl
 have hv:=r5 0 true 0 (.bool true) rfl rfl
 have hb:us 0 0=.bool true:=by
  generalize us 0 0=z at hv
  cases hv;rfl
 rw[hb]at hc
 have TM:w.cell? ⟨bb,I',none⟩=some (.bool true):=by simpa using hc
 have:n=1∨n=2:=by omega
 rcases this with rfl | rfl
 ·exact Bb w bb I' c TM r2
 ·exact Bc w bb I' c TM r2
abbrev cG (g zi zj:Nat):D:=.gr g zi
abbrev cT (g q R zi zj:Nat):D:=if zi=R then .own q else .gr g zi
abbrev cK (g q R zi zj:Nat):D:=killD q (cT g q R zi zj)
abbrev Ma (n m g R q:Nat):Prop:=R<n∧∀zi zj,zi<m→zj<1→E7 g R q (cG g zi zj) (cT g q R zi zj)
abbrev Ly (n m g R q:Nat) (W W2:List (List Int)) (l:List Int):Prop:=R≤n∧n=max n (R+1)∧(∀z8,z8<n→cU W2 z8=if z8=R then (⟨3,1,Int,ac .i64,0,l⟩:qo)else sj (cU W) R (qM (cU W R)) z8)∧∀zi zj,zi<m→zj<1→DD g R q (cT g q R zi zj) (cG g zi zj)
abbrev KD (n m g:Nat):Prop:=n=m∧∀zi zj,zi<n→zj<1→cG g zi zj=cG g zi zj∧∀z8,[g].all (fun g=>!(Nat.beq g z8))=true→(cG g zi zj).free z8=true
theorem CW {g k i:Nat} (h:[g].all (fun g=>!(Nat.beq g k))=true):D.free k (.gr g i)=true:=by simpa[D.free]using h
theorem H4 {g q R i:Nat}:E7 g R q (.gr g i) (if i=R then .own q else .gr g i):=by
 by_cases h:i=R
 ·exact .inl ⟨by rw[h],NT h⟩
 ·exact .inr ⟨NQ h,.inl ⟨i,rfl,h⟩⟩
theorem zl {R q:Nat} {d:D}:qp (if R=R then .own q else d) (.own q):=by rw[NT rfl];exact rfl
theorem Gg {g q R n:Nat} (h:(!(Nat.beq g q))=true):tv 1 n R 0 [.own q] [q,g] (fun i j=>killD q (if i=R then .own q else .gr g i)) (fun i j=>if i=R then .own q else .gr g i):=by
 intro i j hi hj
 have VI:j=0:=by omega
 subst VI
 have hk:killD q (.gr g i)=.gr g i:=by unfold killD;rw[NT (show D.free q (.gr g i)=true from h)]
 refine⟨by by_cases h:i=R<;>simp[h];rw[hk],fun id Qh=>?_⟩
 simp only[PX,List.all_nil,PD,NK]at Qh
 show D.free id (if i=R then .own q else .gr g i)=true
 split
 ·exact Qh.1
 ·exact Qh.2
theorem J6 {g q R i:Nat}:DD g R q (if i=R then .own q else .gr g i) (.gr g i):=by
 by_cases h:i=R
 ·exact .inl ⟨NT h,by rw[h]⟩
 ·exact .inr ⟨(NQ h).symm,.inl ⟨i,NQ h,h⟩⟩
theorem J7 {n m g R q:Nat} (h:R<n):Ma n m g R q:=⟨h,fun i j _ _=>H4⟩
theorem Gi {n m g:Nat} (h:n=m):KD n m g:=⟨h,fun i j _ _=>⟨rfl,fun k hk=>CW hk⟩⟩
theorem J8 {W W2:List (List Int)} {R k:Nat} {l:List Int} (h:W2.getD k []=if k=R then l else W.getD k []):cU W2 k=if k=R then (⟨3,1,Int,ac .i64,0,l⟩:qo)else sj (cU W) R (qM (cU W R)) k:=by
 by_cases e:k=R
 ·rw[NT e]at h ⊢
  show(⟨_,_,_,_,_,W2.getD k []⟩:qo)=_
  rw[h]
 ·rw[NQ e]at h ⊢
  unfold sj
  rw[NQ e]
  show(⟨_,_,_,_,_,W2.getD k []⟩:qo)=⟨_,_,_,_,_,W.getD k []⟩
  rw[h]
theorem qb {n R g q nn:Nat} {W W2:List (List Int)} {l:List Int} (hR:R<n) (h:∀k,k<n→W2.getD k []=if k=R then l else W.getD k []):R≤n∧n=max n (R+1)∧(∀k,k<n→cU W2 k=if k=R then (⟨3,1,Int,ac .i64,0,l⟩:qo)else sj (cU W) R (qM (cU W R)) k)∧∀i j,i<nn→j<1→DD g R q (if i=R then .own q else .gr g i) (.gr g i) :=
 ⟨Nat.le_of_lt hR,by omega,fun k hk=>J8 (h k hk),fun i j _ _=>J6⟩
theorem s4 {k R:Nat} {W:List (List Int)}:W.getD k []=if k=R then W.getD R []else W.getD k []:=by
 split
 ·rename_i h;rw[h]
 ·rfl
theorem J9 {k R n:Nat} {W:List (List Int)} {l:List Int} (hk:k<n) (hn:W.length=n) (hR:R<n):(W.set R l).getD k []=if k=R then l else W.getD k []:=by
 rw[be (by omega)]
 by_cases h:R=k
 ·rw[NT h,NT h.symm]
 ·rw[NQ h,NQ (fun e=>h e.symm)]
theorem Lz {l:List (List Int)} {n g:Nat}:∀i j,i<n→j<1→cu g (.gs (fun zr=>.sl (cU l zr).sz (cU l zr).enc (cU l zr).d (cU l zr).l)) (.gr g i)=gn af [] l i j:=by
 intro i j hi hj
 have VI:j=0:=by omega
 subst VI
 unfold cu
 rw[NT (PE g)]
 rfl
end Go.Proofs.Ytcejcppjedhicaa
