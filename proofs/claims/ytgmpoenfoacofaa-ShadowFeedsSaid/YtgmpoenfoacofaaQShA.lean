/- Parts of a proof. -/
import Derived.Test.YtgmpoenfoacofaaQNeO
namespace Go.Proofs.Ytgmpoenfoacofaa
open Go.RowKit
set_option linter.unusedVariables false
set_option linter.unusedSimpArgs false
abbrev xz (c:Ci):List D:=[(dL 6 eK aO c.U),(dL 5 dq aN c.J)]
set_option maxRecDepth 100000
abbrev Gs (sh:Int) (b:List Int):Ct:=⟨18,[(.agg [(dI .u8 sh),(LY b)])],true,(.agg [(dL 6 eK aO ((aa sh b).U)),(dL 5 dq aN ((aa sh b).J))])⟩
abbrev qW (sh:Int) (b:List Int):Lp (Nat×Nat×Int):=I0 [1,2,3,4,5,6,7] 5 (fun (i:Nat) (p0:Nat) (mo:Int)=>⟨[(1,(.ptr 0 0 0 0)),(2,(.ptr 1 0 0 0)),(3,(dL 2 oa bV (af sh))),(4,(.ptr 2 0 0 0)),(5,(.ptr 3 0 0 0)),(6,(i6 mo)),(7,(i6 (i:Int)))],[(.var 35 [(dI .u8 sh),(LY b)]),(.var 42 [.nils,.nils]),(.var 42 [(.own 4),.nils]),(.var 96 [(LY b),(i6 (p0:Int))]),(.arr 86 6 eK aO (tab (pO b (af sh)) i))]⟩) (fun (i:Nat) (p0:Nat) (mo:Int)=>i≤(af sh).length∧p0=B4 b (af sh) i∧mo=ob (af sh) i) (fun (i:Nat) (p0:Nat) (mo:Int)=>(af sh).length-i)
abbrev qX (sh:Int) (b:List Int) (i:Nat) (p0:Nat) (mo:Int):Lp (Nat):=il [1,2,3,4,5,6,7,9] 17 (fun (j:Nat)=>⟨[(1,(.ptr 0 0 0 0)),(2,(.ptr 1 0 0 0)),(3,(dL 2 oa bV (af sh))),(4,(.ptr 2 0 0 0)),(5,(.ptr 3 0 0 0)),(6,(i6 (Iv ((af sh).getD i bV).KA mo j))),(7,(i6 (i:Int))),(9,(i6 (j:Int)))],[(.var 35 [(dI .u8 sh),(LY b)]),(.var 42 [.nils,.nils]),(.var 42 [(.own 4),.nils]),(.var 96 [(LY b),(i6 (((a5 b p0 ([(bs [112]),(bs [113]),(bs [117]),(bs [118])].getD i .empty) ((af sh).getD i bV)).2:Nat):Int))]),(.arr 86 6 eK aO (tab (pO b (af sh)) (i+1))),.dead,.dead,.dead,.dead,.dead,.dead,.dead,.dead,.dead,.dead,(.var 98 [(dS (((a5 b p0 ([(bs [112]),(bs [113]),(bs [117]),(bs [118])].getD i .empty) ((af sh).getD i bV)).1).name)),(dS (((a5 b p0 ([(bs [112]),(bs [113]),(bs [117]),(bs [118])].getD i .empty) ((af sh).getD i bV)).1).clock)),(dL 13 jN bE (((a5 b p0 ([(bs [112]),(bs [113]),(bs [117]),(bs [118])].getD i .empty) ((af sh).getD i bV)).1).KC)),(dL 27 vu a7 (((a5 b p0 ([(bs [112]),(bs [113]),(bs [117]),(bs [118])].getD i .empty) ((af sh).getD i bV)).1).KB)),(dL 9 nq cU (((a5 b p0 ([(bs [112]),(bs [113]),(bs [117]),(bs [118])].getD i .empty) ((af sh).getD i bV)).1).I)),(dL 16 oZ dj (((a5 b p0 ([(bs [112]),(bs [113]),(bs [117]),(bs [118])].getD i .empty) ((af sh).getD i bV)).1).KA)),(LY b),(i6 (((a5 b p0 ([(bs [112]),(bs [113]),(bs [117]),(bs [118])].getD i .empty) ((af sh).getD i bV)).2:Nat):Int))]),(.arr 86 6 eK aO [(a5 b p0 ([(bs [112]),(bs [113]),(bs [117]),(bs [118])].getD i .empty) ((af sh).getD i bV)).1])]⟩) (fun (j:Nat)=>j≤((af sh).getD i bV).KA.length) (fun (j:Nat)=>((af sh).getD i bV).KA.length-j)
abbrev lF (sh:Int) (b:List Int) (i:Nat) (p0:Nat) (mo:Int):Lp (Nat):=il [1,2,3,4,6,10] 6 (fun (n:Nat)=>⟨[(1,(.ptr 0 0 0 0)),(2,(.ptr 1 0 0 0)),(3,(dL 2 oa bV (af sh))),(4,(.ptr 2 0 0 0)),(6,(i6 mo)),(10,(i6 (n:Int)))],[(.var 35 [(dI .u8 sh),(LY b)]),(.var 42 [.nils,.nils]),(.var 42 [(.own 4),(.own 5)]),(.var 96 [(LY b),(i6 (p0:Int))]),(.arr 86 6 eK aO (tab (pO b (af sh)) i)),(.arr 77 5 dq aN (tab (sP sh (af sh)) n))]⟩) (fun (n:Nat)=>n≤jM sh) (fun (n:Nat)=>jM sh-n)
abbrev ju (sh:Int) (b:List Int) (i:Nat) (p0:Nat) (mo:Int) (n:Nat):Lp (Nat×Int×Int):=I0 [1,2,3,4,6,10,11,12] 8 (fun (k:Nat) (fr:Int) (to:Int)=>⟨[(1,(.ptr 0 0 0 0)),(2,(.ptr 1 0 0 0)),(3,(dL 2 oa bV (af sh))),(4,(.ptr 2 0 0 0)),(6,(i6 mo)),(10,(i6 (n:Int))),(11,(.ptr 7 0 0 0)),(12,(i6 (k:Int)))],[(.var 35 [(dI .u8 sh),(LY b)]),(.var 42 [.nils,.nils]),(.var 42 [(.own 4),(.own 5)]),(.var 96 [(LY b),(i6 (p0:Int))]),(.arr 86 6 eK aO (tab (pO b (af sh)) i)),(.arr 77 5 dq aN (tab (sP sh (af sh)) n)),.dead,(.var 77 [(dS ([(bs [99,48]),(bs [99,49]),(bs [99,50]),(bs [99,51]),(bs [99,52])].getD n .empty)),(i6 2),(i6 0),(i6 fr),(i6 to)])]⟩) (fun (k:Nat) (fr:Int) (to:Int)=>k≤(af sh).length∧fr=we (af sh) n k∧to=wd (af sh) n k) (fun (k:Nat) (fr:Int) (to:Int)=>(af sh).length-k)
theorem v4 (sh:Int) (b:List Int) (h0:0≤sh) (h1:sh≤255) (hb:ip b):CC (Gs sh b):=by
 have PF:=xx sh
 have hnc:=Ek sh
 have hmi:=AM sh
 refine ai.vc (V:=TT 4 (CC (JP sh)∧TT 11 (GO (qW sh b) (0,0,0) (∀i p0 mo,(qW sh b).inv (i,p0,mo)→TT 4 (CD ((i:Int)<(((af sh).length:Nat):Int)) (TT 1 (an [[(dS (bs [112]))],[(dS (bs [113]))],[(dS (bs [117]))],[(dS (bs [118]))]] ([(bs [112]),(bs [113]),(bs [117]),(bs [118])].map tc)∧TT 1 (IX (i:Int) ([(bs [112]),(bs [113]),(bs [117]),(bs [118])].length)∧TT 3 (IX (i:Int) ((af sh).length)∧TT 1 (CC (JQ b p0 ([(bs [112]),(bs [113]),(bs [117]),(bs [118])].getD i .empty) ((af sh).getD i bV))∧TT 9 (an [[(dS (((a5 b p0 ([(bs [112]),(bs [113]),(bs [117]),(bs [118])].getD i .empty) ((af sh).getD i bV)).1).name)),(dS (((a5 b p0 ([(bs [112]),(bs [113]),(bs [117]),(bs [118])].getD i .empty) ((af sh).getD i bV)).1).clock)),(dL 13 jN bE (((a5 b p0 ([(bs [112]),(bs [113]),(bs [117]),(bs [118])].getD i .empty) ((af sh).getD i bV)).1).KC)),(dL 27 vu a7 (((a5 b p0 ([(bs [112]),(bs [113]),(bs [117]),(bs [118])].getD i .empty) ((af sh).getD i bV)).1).KB)),(dL 9 nq cU (((a5 b p0 ([(bs [112]),(bs [113]),(bs [117]),(bs [118])].getD i .empty) ((af sh).getD i bV)).1).I)),(dL 16 oZ dj (((a5 b p0 ([(bs [112]),(bs [113]),(bs [117]),(bs [118])].getD i .empty) ((af sh).getD i bV)).1).KA))]] ([(a5 b p0 ([(bs [112]),(bs [113]),(bs [117]),(bs [118])].getD i .empty) ((af sh).getD i bV)).1].map eK)∧((tab (pO b (af sh)) i).length+([(a5 b p0 ([(bs [112]),(bs [113]),(bs [117]),(bs [118])].getD i .empty) ((af sh).getD i bV)).1].map eK).length≤137438953472∧(tab (pO b (af sh)) i).map eK++[(a5 b p0 ([(bs [112]),(bs [113]),(bs [117]),(bs [118])].getD i .empty) ((af sh).getD i bV)).1].map eK=(tab (pO b (af sh)) (i+1)).map eK)∧TT 3 (GO (qX sh b i p0 mo) 0 (∀j,(qX sh b i p0 mo).inv j→TT 3 (IX (i:Int) ((af sh).length)∧TT 4 (CD ((j:Int)<(((((af sh).getD i bV).KA).length:Nat):Int)) (TT 3 (IX (i:Int) ((af sh).length)∧TT 3 (IX (j:Int) ((((af sh).getD i bV).KA).length)∧TT 4 (W6 ((j+1:Nat):Int)∧TT 1 (AG (qX sh b i p0 mo) j (j+1)))))) (TT 1 (W6 ((i+1:Nat):Int)∧TT 1 (AG (qW sh b) (i,p0,mo) (i+1,(a5 b p0 ([(bs [112]),(bs [113]),(bs [117]),(bs [118])].getD i .empty) ((af sh).getD i bV)).2,Iv ((af sh).getD i bV).KA mo j)))))))))))))) (TT 1 (GO (lF sh b i p0 mo) 0 (∀n,(lF sh b i p0 mo).inv n→TT 3 (CD ((n:Int)≤mo) (an [[(dS (bs [99,48]))],[(dS (bs [99,49]))],[(dS (bs [99,50]))],[(dS (bs [99,51]))],[(dS (bs [99,52]))]] ([(bs [99,48]),(bs [99,49]),(bs [99,50]),(bs [99,51]),(bs [99,52])].map tc)∧TT 1 (IX (n:Int) ([(bs [99,48]),(bs [99,49]),(bs [99,50]),(bs [99,51]),(bs [99,52])].length)∧TT 5 (GO (ju sh b i p0 mo n) (0,(-1),(-1)) (∀k fr to,(ju sh b i p0 mo n).inv (k,fr,to)→TT 4 (CD ((k:Int)<(((af sh).length:Nat):Int)) (TT 2 (IX (k:Int) ((af sh).length)∧TT 3 (CC (Hi (((af sh).getD k bV).I) (n:Int))∧CB (p7 (((af sh).getD k bV).I) (n:Int)) (TT 5 (IX (k:Int) ((af sh).length)∧TT 3 (CC (Hi (((af sh).getD k bV).KA) (n:Int))∧CB (p7 (((af sh).getD k bV).KA) (n:Int)) (TT 4 (W6 ((k+1:Nat):Int)∧TT 1 (AG (ju sh b i p0 mo n) (k,fr,to) (k+1,(k:Int),(k:Int))))) (TT 1 (W6 ((k+1:Nat):Int)∧TT 1 (AG (ju sh b i p0 mo n) (k,fr,to) (k+1,fr,(k:Int)))))))) (TT 2 (IX (k:Int) ((af sh).length)∧TT 3 (CC (Hi (((af sh).getD k bV).KA) (n:Int))∧CB (p7 (((af sh).getD k bV).KA) (n:Int)) (TT 4 (W6 ((k+1:Nat):Int)∧TT 1 (AG (ju sh b i p0 mo n) (k,fr,to) (k+1,(k:Int),to)))) (TT 1 (W6 ((k+1:Nat):Int)∧TT 1 (AG (ju sh b i p0 mo n) (k,fr,to) (k+1,fr,to)))))))))) (CS (fr≥0) (TT 3 ((True∧(decide (fr≥0))=true)∧TT 4 (CD (to≥0) (TT 2 (((6:Int)≠0∧(IntKind.wrap .u8 (Int.tdiv sh 6))=(sh / 6))∧TT 1 ((True∧IntKind.u8.wrap (n:Int)=(n:Int))∧(True∧(IntKind.wrap .u8 ((sh / 6)+(n:Int)))=(sh / 6+(n:Int)))∧W6 (sh / 6+(n:Int))∧QM (sh / 6+(n:Int)) 3∧W6 (1+((sh / 6+(n:Int))%3))∧TT 5 (an [[(dS ([(bs [99,48]),(bs [99,49]),(bs [99,50]),(bs [99,51]),(bs [99,52])].getD n .empty)),(i6 2),(i6 (1+((sh / 6+(n:Int))%3))),(i6 fr),(i6 to)]] ([(⟨([(bs [99,48]),(bs [99,49]),(bs [99,50]),(bs [99,51]),(bs [99,52])].getD n .empty),2,1+((sh / 6+(n:Int))%3),fr,to⟩:Ch)].map dq)∧((tab (sP sh (af sh)) n).length+([(⟨([(bs [99,48]),(bs [99,49]),(bs [99,50]),(bs [99,51]),(bs [99,52])].getD n .empty),2,1+((sh / 6+(n:Int))%3),fr,to⟩:Ch)].map dq).length≤137438953472∧(tab (sP sh (af sh)) n).map dq++[(⟨([(bs [99,48]),(bs [99,49]),(bs [99,50]),(bs [99,51]),(bs [99,52])].getD n .empty),2,1+((sh / 6+(n:Int))%3),fr,to⟩:Ch)].map dq=(tab (sP sh (af sh)) (n+1)).map dq)∧TT 3 (W6 ((n+1:Nat):Int)∧TT 1 (AG (lF sh b i p0 mo) n (n+1))))))) (TT 3 (an [[(dS ([(bs [99,48]),(bs [99,49]),(bs [99,50]),(bs [99,51]),(bs [99,52])].getD n .empty)),(i6 2),(i6 0),(i6 fr),(i6 to)]] ([(⟨([(bs [99,48]),(bs [99,49]),(bs [99,50]),(bs [99,51]),(bs [99,52])].getD n .empty),2,0,fr,to⟩:Ch)].map dq)∧((tab (sP sh (af sh)) n).length+([(⟨([(bs [99,48]),(bs [99,49]),(bs [99,50]),(bs [99,51]),(bs [99,52])].getD n .empty),2,0,fr,to⟩:Ch)].map dq).length≤137438953472∧(tab (sP sh (af sh)) n).map dq++[(⟨([(bs [99,48]),(bs [99,49]),(bs [99,50]),(bs [99,51]),(bs [99,52])].getD n .empty),2,0,fr,to⟩:Ch)].map dq=(tab (sP sh (af sh)) (n+1)).map dq)∧TT 3 (W6 ((n+1:Nat):Int)∧TT 1 (AG (lF sh b i p0 mo) n (n+1)))))))) (TT 3 ((True∧(decide (fr≥0))=false)∧TT 7 (an [[(dS ([(bs [99,48]),(bs [99,49]),(bs [99,50]),(bs [99,51]),(bs [99,52])].getD n .empty)),(i6 2),(i6 0),(i6 fr),(i6 to)]] ([(⟨([(bs [99,48]),(bs [99,49]),(bs [99,50]),(bs [99,51]),(bs [99,52])].getD n .empty),2,0,fr,to⟩:Ch)].map dq)∧((tab (sP sh (af sh)) n).length+([(⟨([(bs [99,48]),(bs [99,49]),(bs [99,50]),(bs [99,51]),(bs [99,52])].getD n .empty),2,0,fr,to⟩:Ch)].map dq).length≤137438953472∧(tab (sP sh (af sh)) n).map dq++[(⟨([(bs [99,48]),(bs [99,49]),(bs [99,50]),(bs [99,51]),(bs [99,52])].getD n .empty),2,0,fr,to⟩:Ch)].map dq=(tab (sP sh (af sh)) (n+1)).map dq)∧TT 3 (W6 ((n+1:Nat):Int)∧TT 1 (AG (lF sh b i p0 mo) n (n+1)))))))))))) (TT 3 ((tab (pO b (af sh)) i).map eK=((aa sh b).U).map eK∧(tab (sP sh (af sh)) n).map dq=((aa sh b).J).map dq∧True))))))))))) (.w 1 [(2,(JP sh).O)]<|.g 5 2 0 86 6 eK aO<|.l (qW sh b) (0,0,0) (fun ⟨i,p0,mo⟩=>.b 23 (.w 8 [(1,.box 9 1 tc .empty [(bs [112]),(bs [113]),(bs [117]),(bs [118])]),(9,(JQ b p0 ([(bs [112]),(bs [113]),(bs [117]),(bs [118])].getD i .empty) ((af sh).getD i bV)).O)]<|.w 10 [(4,.box 86 6 eK aO [(a5 b p0 ([(bs [112]),(bs [113]),(bs [117]),(bs [118])].getD i .empty) ((af sh).getD i bV)).1]),(5,.box 86 6 eK aO (tab (pO b (af sh)) (i+1)))]<|.l (qX sh b i p0 mo) 0 (fun j=>.b 52 (.w 13 [(1,.val (i6 ((j+1:Nat):Int)))]<|.e) (.w 7 [(1,.val (i6 ((i+1:Nat):Int)))]<|.e))) (.g 15 2 1 77 5 dq aN<|.l (lF sh b i p0 mo) 0 (fun n=>.b 67 (.w 18 [(0,.frz 9 1 tc .empty [(bs [99,48]),(bs [99,49]),(bs [99,50]),(bs [99,51]),(bs [99,52])])]<|.l (ju sh b i p0 mo n) (0,(-1),(-1)) (fun ⟨k,fr,to⟩=>.b 78 (.w 22 [(6,(Hi (((af sh).getD k bV).I) (n:Int)).O)]<|.b 87 (.w 24 [(6,(Hi (((af sh).getD k bV).KA) (n:Int)).O)]<|.b 96 (.w 21 [(1,.val (i6 ((k+1:Nat):Int)))]<|.e) (.w 21 [(1,.val (i6 ((k+1:Nat):Int)))]<|.e)) (.w 24 [(6,(Hi (((af sh).getD k bV).KA) (n:Int)).O)]<|.b 96 (.w 21 [(1,.val (i6 ((k+1:Nat):Int)))]<|.e) (.w 21 [(1,.val (i6 ((k+1:Nat):Int)))]<|.e))) (.s 26 (fr≥0) (.w 26 [(3,.val (dB true))]<|.b 106 (.w 27 [(2,.val (dI .u8 (sh / 6))),(4,.val (dI .u8 (n:Int))),(5,.val (dI .u8 (sh / 6+(n:Int)))),(6,.val (i6 (sh / 6+(n:Int)))),(7,.val (i6 ((sh / 6+(n:Int))%3))),(8,.val (i6 (1+((sh / 6+(n:Int))%3))))]<|.w 28 [(3,.box 77 5 dq aN [(⟨([(bs [99,48]),(bs [99,49]),(bs [99,50]),(bs [99,51]),(bs [99,52])].getD n .empty),2,1+((sh / 6+(n:Int))%3),fr,to⟩:Ch)]),(4,.box 77 5 dq aN (tab (sP sh (af sh)) (n+1)))]<|.w 17 [(1,.val (i6 ((n+1:Nat):Int)))]<|.e) (.w 28 [(3,.box 77 5 dq aN [(⟨([(bs [99,48]),(bs [99,49]),(bs [99,50]),(bs [99,51]),(bs [99,52])].getD n .empty),2,0,fr,to⟩:Ch)]),(4,.box 77 5 dq aN (tab (sP sh (af sh)) (n+1)))]<|.w 17 [(1,.val (i6 ((n+1:Nat):Int)))]<|.e)) (.w 26 [(3,.val (dB false))]<|.w 28 [(3,.box 77 5 dq aN [(⟨([(bs [99,48]),(bs [99,49]),(bs [99,50]),(bs [99,51]),(bs [99,52])].getD n .empty),2,0,fr,to⟩:Ch)]),(4,.box 77 5 dq aN (tab (sP sh (af sh)) (n+1)))]<|.w 17 [(1,.val (i6 ((n+1:Nat):Int)))]<|.e)))) (.e))))) Try.func18 rfl rfl rfl (by kernel_rfl) ?_
 refine tt ⟨(F1 sh om om),tt ⟨rfl,⟨by omega,rfl,rfl⟩,?_⟩⟩
 intro i p0 mo J'
 obtain⟨hi,hp0,hmo⟩:=J'
 have hpi:=AN hb sh i
 have hen:=lC sh i
 refine tt (cd (fun Qc=>?_) (fun Qc=>?_))
 · refine tt ⟨⟨⟨rfl,oK⟩,⟨rfl,oK⟩,⟨rfl,oK⟩,⟨rfl,oK⟩,oK⟩,tt ⟨ix,tt ⟨ix,tt ⟨(y9 b p0 ([(bs [112]),(bs [113]),(bs [117]),(bs [118])].getD i .empty) ((af sh).getD i bV) hb om om om),tt ⟨⟨⟨rfl,rfl,rfl,rfl,rfl,rfl,oK⟩,oK⟩,⟨(bw (by omega) (by rw[hp0];rfl)),tt ⟨rfl,(by omega),?_⟩⟩⟩⟩⟩⟩⟩
   intro j J'
   have hj:=J'
   refine tt ⟨ix,tt (cd (fun hc52=>?_) (fun hc52=>?_))⟩
   · refine tt ⟨ix,tt ⟨ix,tt ⟨w6,tt ⟨(j+1),rfl,(?_:(j+1)≤((af sh).getD i bV).KA.length),(?_:((af sh).getD i bV).KA.length-(j+1)<((af sh).getD i bV).KA.length-j)⟩⟩⟩⟩
     · omega
     · omega
   · refine tt ⟨w6,tt ⟨(i+1,(a5 b p0 ([(bs [112]),(bs [113]),(bs [117]),(bs [118])].getD i .empty) ((af sh).getD i bV)).2,Iv ((af sh).getD i bV).KA mo j),rfl,?_,(?_:(af sh).length-(i+1)<(af sh).length-i)⟩⟩
     · exact⟨by omega,by rw[hp0];rfl,by rw[hmo,show j=((af sh).getD i bV).KA.length by omega];rfl⟩
     · omega
 · have O2:i=(af sh).length:=by omega
   have Qn:mo=ob (af sh) (af sh).length:=by rw[hmo,O2]
   refine tt ⟨rfl,(by omega),?_⟩
   intro n J'
   have hn:=J'
   refine tt (cd (fun hc67=>?_) (fun hc67=>?_))
   · refine⟨⟨⟨rfl,oK⟩,⟨rfl,oK⟩,⟨rfl,oK⟩,⟨rfl,oK⟩,⟨rfl,oK⟩,oK⟩,tt ⟨ix,tt ⟨rfl,⟨by omega,rfl,rfl⟩,?_⟩⟩⟩
     intro k fr to J'
     obtain⟨hk,Pb,QA⟩:=J'
     have hen:=lC sh k
     refine tt (cd (fun hc78=>?_) (fun hc78=>?_))
     · refine tt ⟨ix,tt ⟨(y8 (((af sh).getD k bV).I) (n:Int) om),⟨fun Ob=>?_,fun Ob=>?_⟩⟩⟩
       · refine tt ⟨ix,tt ⟨(y8 (((af sh).getD k bV).KA) (n:Int) om),⟨fun Qe=>?_,fun Qe=>?_⟩⟩⟩
         · refine tt ⟨w6,tt ⟨(k+1,(k:Int),(k:Int)),rfl,?_,(?_:(af sh).length-(k+1)<(af sh).length-k)⟩⟩
           · exact⟨by omega,by rw[we];rw[KT Qe],by rw[wd];rw[KT Ob]⟩
           · omega
         · refine tt ⟨w6,tt ⟨(k+1,fr,(k:Int)),rfl,?_,(?_:(af sh).length-(k+1)<(af sh).length-k)⟩⟩
           · exact⟨by omega,by rw[we];rw[KK (by rw[Qe];simp)];exact Pb,by rw[wd];rw[KT Ob]⟩
           · omega
       · refine tt ⟨ix,tt ⟨(y8 (((af sh).getD k bV).KA) (n:Int) om),⟨fun Qe=>?_,fun Qe=>?_⟩⟩⟩
         · refine tt ⟨w6,tt ⟨(k+1,(k:Int),to),rfl,?_,(?_:(af sh).length-(k+1)<(af sh).length-k)⟩⟩
           · exact⟨by omega,by rw[we];rw[KT Qe],by rw[wd];rw[KK (by rw[Ob];simp)];exact QA⟩
           · omega
         · refine tt ⟨w6,tt ⟨(k+1,fr,to),rfl,?_,(?_:(af sh).length-(k+1)<(af sh).length-k)⟩⟩
           · exact⟨by omega,by rw[we];rw[KK (by rw[Qe];simp)];exact Pb,by rw[wd];rw[KK (by rw[Ob];simp)];exact QA⟩
           · omega
     · have OG:k=(af sh).length:=by omega
       have hfi:=Em (af sh) n k
       have hti:=El (af sh) n k
       refine⟨fun MV=>?_,fun MV=>?_⟩
       · refine tt ⟨(vT MV),tt (cd (fun hc106=>?_) (fun hc106=>?_))⟩
         · refine tt ⟨⟨om,(JM h0 h1)⟩,tt ⟨⟨oK,J5 rfl om om⟩,⟨⟨oK,(Gr (by omega) (by omega))⟩,⟨w6,⟨qm,⟨w6,tt ⟨⟨⟨rfl,rfl,rfl,rfl,rfl,oK⟩,oK⟩,⟨(bw (by omega) (by first | exact Er (by rw[← OG,← Pb];omega) (by rw[← OG,← QA];omega) (by rw[← OG];exact Pb) (by rw[← OG];exact QA) | exact Es (by rw[← OG,← Pb,← QA];omega) (by rw[← OG];exact Pb) (by rw[← OG];exact QA))),tt ⟨w6,tt ⟨(n+1),rfl,(?_:(n+1)≤jM sh),(?_:jM sh-(n+1)<jM sh-n)⟩⟩⟩⟩⟩⟩⟩⟩⟩⟩
           · omega
           · omega
         · refine tt ⟨⟨⟨rfl,rfl,rfl,rfl,rfl,oK⟩,oK⟩,⟨(bw (by omega) (by first | exact Er (by rw[← OG,← Pb];omega) (by rw[← OG,← QA];omega) (by rw[← OG];exact Pb) (by rw[← OG];exact QA) | exact Es (by rw[← OG,← Pb,← QA];omega) (by rw[← OG];exact Pb) (by rw[← OG];exact QA))),tt ⟨w6,tt ⟨(n+1),rfl,(?_:(n+1)≤jM sh),(?_:jM sh-(n+1)<jM sh-n)⟩⟩⟩⟩
           · omega
           · omega
       · refine tt ⟨(vF MV),tt ⟨⟨⟨rfl,rfl,rfl,rfl,rfl,oK⟩,oK⟩,⟨(bw (by omega) (by first | exact Er (by rw[← OG,← Pb];omega) (by rw[← OG,← QA];omega) (by rw[← OG];exact Pb) (by rw[← OG];exact QA) | exact Es (by rw[← OG,← Pb,← QA];omega) (by rw[← OG];exact Pb) (by rw[← OG];exact QA))),tt ⟨w6,tt ⟨(n+1),rfl,(?_:(n+1)≤jM sh),(?_:jM sh-(n+1)<jM sh-n)⟩⟩⟩⟩⟩
         · omega
         · omega
   · refine tt ⟨(congrArg _ (?_:(tab (pO b (af sh)) i)=((aa sh b).U))),(congrArg _ (?_:(tab (sP sh (af sh)) n)=((aa sh b).J))),oK⟩
     · rw[O2];rfl
     · rw[show n=jM sh by omega];rfl
abbrev Iz (c:Ci) (b:List Int):Ct:=⟨25,[(.agg (xz c)),(LY b)],true,(.agg [(dL 2 aU aY ((bI c b).U)),(dL 1 ac [] ((bI c b).J))])⟩
abbrev kD (c:Ci) (b:List Int):Lp (Nat×Ns×Nat):=I0 [2,4,5,6,7] 4 (fun (i:Nat) (u:Ns) (p0:Nat)=>⟨[(2,(.ptr 0 0 0 0)),(4,(.ptr 1 0 0 0)),(5,(.ptr 2 0 0 0)),(6,(.ptr 3 0 0 0)),(7,(i6 (i:Int)))],[(.var 42 (xz c)),(.var 46 [.nils,.nils]),(.var 46 [(dL 2 aU aY u.U),(dL 1 ac [] u.J)]),(.var 96 [(LY b),(i6 (p0:Int))])]⟩) (fun (i:Nat) (u:Ns) (p0:Nat)=>i≤c.J.length∧u=(s6 c b i).1∧p0=(s6 c b i).2∧p0≤10*i∧(u).J.length=c.J.length) (fun (i:Nat) (u:Ns) (p0:Nat)=>c.J.length-i)
abbrev oe (c:Ci) (b:List Int) (i:Nat) (u:Ns) (p0:Nat):Lp (Nat):=il [2,4,5,6,7,8,9,10] 5 (fun (k:Nat)=>⟨[(2,(.ptr 0 0 0 0)),(4,(.ptr 1 0 0 0)),(5,(.ptr 2 0 0 0)),(6,(.ptr 3 0 0 0)),(7,(i6 (i:Int))),(8,(i6 ((qT b p0:Nat):Int))),(9,(.own 4)),(10,(i6 (k:Int)))],[(.var 42 (xz c)),(.var 46 [.nils,.nils]),(.var 46 [(dL 2 aU aY u.U),(dL 1 ac [] u.J)]),(.var 96 [(LY b),(i6 (p0:Int))]),(.arr 3 1 (ab .i64) 0 (tab (tn b p0 (c.J.getD i aN).w) k))]⟩) (fun (k:Nat)=>k≤qT b p0) (fun (k:Nat)=>qT b p0-k)
theorem xA (c:Ci) (b:List Int) (hc:bO c) (hb:ip b):CC (Iz c b):=by
 have NC:=hc.nl
 have hcl:=hc.cl
 refine ai.vc (V:=TT 3 (CC (JE c)∧TT 7 (GO (kD c b) (0,(aC c),0) (∀i u p0,(kD c b).inv (i,u,p0)→TT 5 (CD ((i:Int)<(c.J.length:Int)) (TT 3 (IX (i:Int) c.J.length∧TT 3 (CD (((c.J.getD i aN).frm)≥0) (TT 1 (W6 ((i+1:Nat):Int)∧TT 1 (AG (kD c b) (i,u,p0) (i+1,u,p0)))) (TT 1 (CC (B6 b p0)∧((7:Int)≠0∧(Int.tmod (b.getD p0 0) 7)=((qT b p0:Nat):Int))∧TT 1 (an [] (([]:List Int).map (ab .i64))∧TT 2 (GO (oe c b i u p0) 0 (∀k,(oe c b i u p0).inv k→TT 3 (CD ((k:Int)<((qT b p0:Nat):Int)) (TT 3 (W6 ((1+k:Nat):Int)∧CC (y7 b p0 (1+k))∧CC (B6 b (p0+(1+k)))∧TT 3 (IX (i:Int) c.J.length∧TT 2 (CC (yX ((c.J.getD i aN).w))∧(True∧(IntKind.wrap .i64 (BitVec.ofInt (IntKind.i64).bits (b.getD (p0+(1+k)) 0) &&& BitVec.ofInt (IntKind.i64).bits (aB ((c.J.getD i aN).w))).toNat)=(tn b p0 (c.J.getD i aN).w k))∧an [[(i6 (tn b p0 (c.J.getD i aN).w k))]] ([tn b p0 (c.J.getD i aN).w k].map (ab .i64))∧((tab (tn b p0 (c.J.getD i aN).w) k).length+([tn b p0 (c.J.getD i aN).w k].map (ab .i64)).length≤137438953472∧(tab (tn b p0 (c.J.getD i aN).w) k).map (ab .i64)++[tn b p0 (c.J.getD i aN).w k].map (ab .i64)=(tab (tn b p0 (c.J.getD i aN).w) (k+1)).map (ab .i64))∧TT 2 (W6 ((k+1:Nat):Int)∧TT 1 (AG (oe c b i u p0) k (k+1))))))) (TT 2 (W6 ((1+(qT b p0):Nat):Int)∧CC (y7 b p0 (1+(qT b p0)))∧TT 4 (CC (Iq u (i:Int) (tab (tn b p0 (c.J.getD i aN).w) k))∧TT 2 (W6 ((i+1:Nat):Int)∧TT 1 (AG (kD c b) (i,u,p0) (i+1,(dp u ((i:Nat):Int).toNat (tab (tn b p0 (c.J.getD i aN).w) k)),p0+(1+(qT b p0))))))))))))))))) (TT 3 (u.U.map aU=((bI c b).U).map aU∧u.J.map ac=((bI c b).J).map ac∧True))))))) (.w 1 [(1,(JE c).O)]<|.l (kD c b) (0,(aC c),0) (fun ⟨i,u,p0⟩=>.b 19 (.b 28 (.w 5 [(1,.val (i6 ((i+1:Nat):Int)))]<|.e) (.w 7 [(1,(B6 b p0).O),(2,.val (i6 ((qT b p0:Nat):Int)))]<|.w 8 [(0,.box 3 1 (ab .i64) 0 ([]:List Int))]<|.l (oe c b i u p0) 0 (fun k=>.b 35 (.w 12 [(3,.val (i6 ((1+k:Nat):Int))),(4,(y7 b p0 (1+k)).O),(5,(B6 b (p0+(1+k))).O),(12,(yX ((c.J.getD i aN).w)).O),(13,.val (i6 (tn b p0 (c.J.getD i aN).w k))),(14,.box 3 1 (ab .i64) 0 [tn b p0 (c.J.getD i aN).w k]),(15,.box 3 1 (ab .i64) 0 (tab (tn b p0 (c.J.getD i aN).w) (k+1)))]<|.w 11 [(1,.val (i6 ((k+1:Nat):Int)))]<|.e) (.w 13 [(2,.val (i6 ((1+(qT b p0):Nat):Int))),(3,(y7 b p0 (1+(qT b p0))).O)]<|.f 14 4<|.w 14 [(3,(Iq u (i:Int) (tab (tn b p0 (c.J.getD i aN).w) k)).O)]<|.w 5 [(1,.val (i6 ((i+1:Nat):Int)))]<|.e)))) (.e))) Try.func25 rfl rfl rfl (by kernel_rfl) ?_
 refine tt ⟨(B3 c hc),tt ⟨rfl,⟨by omega,rfl,rfl,by omega,by simp[aC]⟩,?_⟩⟩
 intro i u p0 J'
 obtain⟨hi,hu,hp0,hpb,hcl2⟩:=J'
 have hy:=dy hb p0
 have QX:=Eo hb p0
 refine tt (cd (fun RA=>?_) (fun RA=>?_))
 · refine tt ⟨ix,tt (cd (fun NP=>?_) (fun NP=>?_))⟩
   · refine tt ⟨w6,tt ⟨(i+1,u,p0),rfl,?_,(?_:c.J.length-(i+1)<c.J.length-i)⟩⟩
     · exact⟨by omega,by rw[Ep NP];exact hu,by rw[Ep NP];exact hp0,by omega,hcl2⟩
     · omega
   · refine tt ⟨(lD b p0 hb),⟨⟨om,(by rw[QX.2];exact L4 hy.1)⟩,tt ⟨oK,tt ⟨rfl,(by omega),?_⟩⟩⟩⟩
     intro k J'
     have hk:=J'
     refine tt (cd (fun Nz=>?_) (fun Nz=>?_))
     · have hw:1≤(c.J.getD i aN).w∧(c.J.getD i aN).w≤8:=aJ.1 (hc.cw i (by omega))
       have hyk:=dy hb (p0+(1+k))
       refine tt ⟨w6,⟨(sQ b p0 (1+k) om),⟨(lD b (p0+(1+k)) hb),tt ⟨ix,tt ⟨(gN ((c.J.getD i aN).w)),⟨⟨oK,(uI (by omega) (by omega))⟩,⟨⟨⟨rfl,oK⟩,oK⟩,⟨(bw (by omega) rfl),tt ⟨w6,tt ⟨(k+1),rfl,(?_:(k+1)≤qT b p0),(?_:qT b p0-(k+1)<qT b p0-k)⟩⟩⟩⟩⟩⟩⟩⟩⟩⟩
       · omega
       · omega
     · refine tt ⟨w6,⟨(sQ b p0 (1+(qT b p0)) om),tt ⟨(AJ u (i:Int) (tab (tn b p0 (c.J.getD i aN).w) k) (by omega) (by omega) (by omega)),tt ⟨w6,tt ⟨(i+1,(dp u ((i:Nat):Int).toNat (tab (tn b p0 (c.J.getD i aN).w) k)),p0+(1+(qT b p0))),rfl,?_,(?_:c.J.length-(i+1)<c.J.length-i)⟩⟩⟩⟩⟩
       · exact⟨by omega,by rw[y6 NP,hu,show k=qT b p0 by omega,hp0,Ly],by rw[y6 NP,hp0],by omega,by show(u.J.set _ _).length=_;rw[LF];exact hcl2⟩
       · omega
 · refine tt ⟨(congrArg _ (?_:u.U=((bI c b).U))),(congrArg _ (?_:u.J=((bI c b).J))),oK⟩
   all_goals (all_goals (rw[hu,show i=c.J.length by omega];rfl))
abbrev IA (c:Ci) (s:Ns) (l:List Int):Ct:=⟨24,[(.agg (xz c)),(.agg [(dL 2 aU aY s.U),(dL 1 ac [] s.J)]),(LY l)],true,(.agg [(dL 2 aU aY ((ct c s l).U)),(dL 1 ac [] ((ct c s l).J))])⟩
abbrev lG (c:Ci) (s:Ns) (l:List Int):Lp (Nat×Ns):=zS [2,3,4,6,7] 3 (fun (i:Nat) (u:Ns)=>⟨[(2,(LY l)),(3,(.ptr 0 0 0 0)),(4,(.ptr 1 0 0 0)),(6,(.ptr 2 0 0 0)),(7,(i6 (i:Int)))],[(.var 42 (xz c)),(.var 46 [(dL 2 aU aY u.U),(dL 1 ac [] u.J)]),(.var 46 [.nils,.nils])]⟩) (fun (i:Nat) (u:Ns)=>i≤l.length∧u=ct c s (l.take i)∧cA c u∧jJ u (1000000000+i)) (fun (i:Nat) (u:Ns)=>l.length-i)
theorem uJ (c:Ci) (s:Ns) (l:List Int) (hc:bO c) (hs:cA c s) (O4:jJ s 1000000000) (hl:l.length≤1000000) (hl8:ip l):CC (IA c s l):=by
 have NC:=hc.nl
 have hcl:=hc.cl
 refine ai.vc (V:=TT 4 (GO (lG c s l) (0,s) (∀i u,(lG c s l).inv (i,u)→CS ((i:Int)<(l.length:Int)) (TT 4 ((True∧(decide ((i:Int)<(l.length:Int)))=true)∧TT 5 (CD ((c.U.length:Int)>0) (TT 4 (IX (i:Int) l.length∧TT 1 (W6 (l.getD i 0)∧TT 3 (((c.U.length:Int)≠0∧(Int.tmod (l.getD i 0) (c.U.length:Int))=(l.getD i 0%(c.U.length:Int)))∧CC (JI c u (l.getD i 0%(c.U.length:Int)))∧TT 3 (W6 ((i+1:Nat):Int)∧TT 1 (AG (lG c s l) (i,u) (i+1,b6 c u (ti (l.getD i 0%(c.U.length:Int)))))))))) (TT 3 (u.U.map aU=((ct c s l).U).map aU∧u.J.map ac=((ct c s l).J).map ac∧True))))) (TT 4 ((True∧(decide ((i:Int)<(l.length:Int)))=false)∧TT 8 (u.U.map aU=((ct c s l).U).map aU∧u.J.map ac=((ct c s l).J).map ac∧True)))))) (.l (lG c s l) (0,s) (fun ⟨i,u⟩=>.s 2 ((i:Int)<(l.length:Int)) (.w 2 [(4,.val (dB true))]<|.b 17 (.w 4 [(6,.val (i6 (l.getD i 0))),(10,.val (i6 (l.getD i 0%(c.U.length:Int)))),(11,(JI c u (l.getD i 0%(c.U.length:Int))).O)]<|.w 3 [(1,.val (i6 ((i+1:Nat):Int)))]<|.e) (.e)) (.w 2 [(4,.val (dB false))]<|.e))) Try.func24 rfl rfl rfl (by kernel_rfl) ?_
 refine tt ⟨rfl,⟨by omega,rfl,hs,O4⟩,?_⟩
 intro i u J'
 obtain⟨hi,hu,Nj,hum⟩:=J'
 have hyi:=dy hl8 i
 have hn1:=hc.n1
 refine⟨fun MV=>?_,fun MV=>?_⟩
 · refine tt ⟨(vT MV),tt (cd (fun QN=>?_) (fun QN=>?_))⟩
   · refine tt ⟨ix,tt ⟨w6,tt ⟨⟨om,(L4 (by omega))⟩,⟨(Ej c u (l.getD i 0%(c.U.length:Int)) hc Nj (fun n=>by have:=hum n;omega)),tt ⟨w6,tt ⟨(i+1,b6 c u (ti (l.getD i 0%(c.U.length:Int)))),rfl,?_,(?_:l.length-(i+1)<l.length-i)⟩⟩⟩⟩⟩⟩
     · exact⟨by omega,by rw[hu];exact(B5 (by omega)).symm,DI hc Nj _,DT hc hum⟩
     · omega
   · refine tt ⟨(congrArg _ (?_:u.U=((ct c s l).U))),(congrArg _ (?_:u.J=((ct c s l).J))),oK⟩
     all_goals (all_goals (rw[hu,Mh (by omega)]))
 · refine tt ⟨(vF MV),tt ⟨(congrArg _ (?_:u.U=((ct c s l).U))),(congrArg _ (?_:u.J=((ct c s l).J))),oK⟩⟩
   all_goals (all_goals (rw[hu,Mh (by omega)]))
theorem xB {l:List Int} {n:Nat} (h:ip l):ip (l.take n):=fun x hx=>h x (List.mem_of_mem_take hx)
theorem Ey {p:Pr} (hp:iG p):nx p (aI p) where
 rl:=by simp[aI]
 rv:=fun i hi=>by
  rw[show(aI p).KC=p.KC.map (·.init)from rfl]
  have:=(hp.rw i hi).2.1
  simpa[List.getD,KX,KF hi]using this
 ml:=by simp[aI]
 mn:=fun i hi=>by
  have h2:=(hp.mw i hi).2.1
  rw[show(aI p).KB=p.KB.map (fun m=>List.replicate m.words.toNat 0)from rfl]
  have:(p.KB.map (fun m=>List.replicate m.words.toNat (0:Int))).getD i []=List.replicate (jH p i).words.toNat 0:=by
   simp[List.getD,KX,KF hi]
  rw[this,Ll];omega
 mv:=fun i hi j hj=>by
  rw[show(aI p).KB=p.KB.map (fun m=>List.replicate m.words.toNat 0)from rfl]at hj ⊢
  have:(p.KB.map (fun m=>List.replicate m.words.toNat (0:Int))).getD i []=List.replicate (jH p i).words.toNat 0:=by
   simp[List.getD,KX,KF hi]
  rw[this,cY]
  exact mI (hp.mw i hi).1
theorem xC {c:Ci} (hc:bO c):cA c (aC c) where
 pl:=by simp[aC,ay]
 cl:=by simp[aC]
 pv:=fun i hi=>by
  show nx _ ((tab _ _).getD i aY)
  rw[bq hi];exact Ey (hc.pr i hi)
 cv:=fun n hn i hi=>by
  have h0:gS (aC c) n=[]:=by show(List.replicate _ _).getD n []=[];exact cY
  rw[h0]at hi;simp at hi
 cc:=fun n hn h1 h2=>by
  have h0:gS (aC c) n=[]:=by show(List.replicate _ _).getD n []=[];exact cY
  rw[h0]
  simpa using hc.cp n hn
theorem AV {c:Ci} {s:Ns} (hs:cA c s) {n:Nat} (hn:n<c.J.length) {l:List Int} (h1:∀i,i<l.length→cH (l.getD i 0) (dn c n).w) (h2:0≤(dn c n).frm→0≤(dn c n).dst→(l.length:Int)≤(dn c n).cap):cA c (dp s n l) where
 pl:=hs.pl
 cl:=by show(s.J.set n l).length=_;rw[LF];exact hs.cl
 pv:=hs.pv
 cv:=fun m hm i hi=>by
  have e:gS (dp s n l) m=if n=m then l else gS s m:=eM (by rw[hs.cl];exact hn)
  rw[e]at hi ⊢
  split at hi
  ·rename_i h;subst h;rw[KT rfl];exact h1 i hi
  ·rename_i h;rw[KK h];exact hs.cv m hm i hi
 cc:=fun m hm a b=>by
  have e:gS (dp s n l) m=if n=m then l else gS s m:=eM (by rw[hs.cl];exact hn)
  rw[e]
  split
  ·rename_i h;subst h;exact h2 a b
  ·exact hs.cc m hm a b
theorem AW {s:Ns} {k n:Nat} {l:List Int} (h:jJ s k) (hl:l.length≤k):jJ (dp s n l) k:=fun m=>by
 by_cases hn:n<s.J.length
 ·have e:gS (dp s n l) m=if n=m then l else gS s m:=eM hn
  rw[e];split
  ·exact hl
  ·exact h m
 ·have e:dp s n l=s:=by show(⟨s.U,s.J.set n l⟩:Ns)=s;rw[List.set_eq_of_length_le (by omega)]
  rw[e];exact h m
theorem Hj {b:List Int} {i:Nat} {w:Int} {k:Nat} (h1:1≤w) (h2:w≤62):cH (tn b i w k) w:=by
 unfold tn cH
 rw[bW (by omega) h2]
 have hp:(0:Int)<2^w.toNat:=Int.pow_pos (by omega)
 exact⟨Mo _ (by omega),by have:=Mj (b.getD (i+(1+k)) 0) hp;omega⟩
theorem Ez {c:Ci} (hc:bO c) {b:List Int} (hb:ip b):∀i,i≤c.J.length→cA c (s6 c b i).1∧jJ (s6 c b i).1 6
 | 0,_=>⟨xC hc,fun n=>by
  have:gS (aC c) n=[]:=by show(List.replicate _ _).getD n []=[];exact cY
  show(gS (aC c) n).length≤6
  rw[this];simp⟩
 | i+1,h=>by
  have ih:=Ez hc hb i (by omega)
  by_cases hf:0≤(dn c i).frm
  ·rw[Ep hf];exact ih
  ·rw[y6 hf]
   have hw:=aJ.1 (hc.cw i (by omega))
   have hn:=Eo hb (s6 c b i).2
   refine⟨AV ih.1 (by omega) (fun j hj=>?_) (fun a _=>absurd a hf),AW ih.2 (by rw[ay];exact hn.1)⟩
   rw[ay]at hj
   rw[bq hj];exact Hj hw.1 (by omega)
theorem uL {c:Ci} (hc:bO c) {b:List Int} (hb:ip b):cA c (bI c b)∧jJ (bI c b) 1000000000:=by
 have:=Ez hc hb c.J.length (KI _)
 exact⟨this.1,fun n=>LO (this.2 n) (by omega)⟩
theorem AX {c:Ci} (hc:bO c):∀(l:List Int) {s:Ns} {k:Nat},cA c s→jJ s k→cA c (ct c s l)∧jJ (ct c s l) (k+l.length)
 | [],s,k,h1,h2=>⟨h1,h2⟩
 | x::r,s,k,h1,h2=>by
  have:=AX hc r (DI hc h1 (ti (x%c.U.length))) (DT (w:=ti (x%c.U.length)) hc h2)
  refine⟨this.1,fun n=>?_⟩
  have h3:=this.2 n
  show(gS (ct c _ r) n).length≤_
  simp only[K1];omega
def JR:Ex:=⟨18,e0,dN,dN,[]⟩
def Kl (k:Nat):Pr:=⟨[bs [112],bs [113]].getD k .empty,[bs [97],bs [98]].getD k .empty,[],[],[⟨(k:Int),2,eV⟩],[⟨(k:Int)+1,2,eV,JR⟩]⟩
def v5:Ci:=⟨tab Kl 2,[⟨bs [105,110],2,0,-1,0⟩,⟨bs [99],2,1,0,1⟩,⟨bs [111,117,116],2,0,1,-1⟩]⟩
set_option maxRecDepth 100000
def x0:Ns:=aC v5
def x1:Ns:=(aq v5 x0 0 [1,2]).1
def wA:Nat→Bool:=fun q=>decide (q=0)
def xa:Ns:=b6 v5 x1 wA
def xb:Ns:=b6 v5 xa wA
theorem jI {s:Ns} {k m:Nat} (h:jJ s k) (hk:k≤m):jJ s m:=fun n=>LO (h n) hk
theorem AY {s:Sg} {b:List Int} (hb:ip b) (i:Nat):dR s.sc (aH s b i).1=some 1∧eL (aH s b i).1≤3:=by
 unfold aH
 split
 ·have h:=rY (s:=s) hb 2 (i+1) 1 (by omega) (by omega) (by omega)
  exact⟨h.1,by have:=h.2.1;omega⟩
 ·exact⟨rfl,by show eL eV≤3;decide⟩
theorem Hk (y:Int) (f:Nat→Rg) (hf:∀k,(f k).w=bg y k):(⟨(tab f (pi y)).map (·.w),[],[]⟩:Sc)=(Ht y).sc:=by
 have:(tab f (pi y)).map (·.w)=Hs y:=by
  unfold Hs tab
  rw[MN]
  exact List.map_congr_left (fun k _=>hf k)
 rw[this];rfl
theorem Hl (y:Int) (n:Nat) (f:Nat→Rg) (g:Nat→Tk) (hf:∀k,(f k).w=bg y k) (hg:∀k,(g k).w=2):(⟨(tab f (pi y)).map (·.w),[],(tab g n).map (·.w)⟩:Sc)=(xu y n).sc:=by
 have e1:(tab f (pi y)).map (·.w)=Hs y:=by
  unfold Hs tab
  rw[MN]
  exact List.map_congr_left (fun k _=>hf k)
 have e2:(tab g n).map (·.w)=List.replicate n 2:=by
  apply Mw
  ·simp[ay]
  ·intro i h1 h2
   simp[tab,hg]
 rw[e1,e2];rfl
theorem F2 {b:List Int} (hb:ip b) {i:Nat} {nm:ByteArray} {e:En} (ht:e.I.length≤2) (hp:e.KA.length≤2):iG (a5 b i nm e).1:=by
 have hy:=dy hb i
 have hn:=y5 hy.1
 have MV:J7 (a5 b i nm e).1=(Ht (b.getD i 0)).sc:=Hk _ _ (fun k=>rfl)
 have Nl:nu (a5 b i nm e).1=(xu (b.getD i 0) e.I.length).sc:=Hl _ _ _ _ (fun k=>rfl) (fun k=>rfl)
 have l1:(a5 b i nm e).1.KC.length=pi (b.getD i 0):=ay _ _
 have l2:(a5 b i nm e).1.I.length=e.I.length:=ay _ _
 have l3:(a5 b i nm e).1.KA.length=e.KA.length:=ay _ _
 have l4:(a5 b i nm e).1.KB.length=0:=rfl
 refine⟨by omega,by omega,by omega,by omega,fun k hk=>?_,fun k hk=>by omega,fun k hk=>?_,fun k hk=>?_⟩
 ·rw[Nl]
  rw[l1]at hk
  have e1:BC (a5 b i nm e).1 k=JK b (b.getD i 0) e.I.length (kC b i e) k:=bq hk
  rw[e1]
  have hw:=vX (b.getD i 0) k
  have h:=rY (s:=xu (b.getD i 0) e.I.length) hb 3 (vS b (b.getD i 0) e.I.length (kC b i e) k) (bg (b.getD i 0) k) (by omega) (by omega) (by omega)
  refine⟨aJ.2 (by show 1≤bg (b.getD i 0) k∧bg (b.getD i 0) k≤8;omega),?_,h.1,by have:=h.2.1;show eL (aj _ b 3 _ _).1≤3;omega⟩
  show cH (b.getD i 0 / 8%2^(bg (b.getD i 0) k).toNat) (bg (b.getD i 0) k)
  unfold cH
  rw[bW (by omega) (by omega)]
  have hp2:(0:Int)<2^(bg (b.getD i 0) k).toNat:=Int.pow_pos (by omega)
  exact⟨Mo _ (by omega),by have:=Mj (b.getD i 0 / 8) hp2;omega⟩
 ·rw[MV]
  rw[l2]at hk
  have e1:oz (a5 b i nm e).1 k=Ck b (b.getD i 0) (i+1) e k:=bq hk
  rw[e1]
  exact⟨rfl,AY hb _⟩
 ·rw[Nl]
  rw[l3]at hk
  have e1:sZ (a5 b i nm e).1 k=EP b (b.getD i 0) e.I.length (jL b i e) e k:=bq hk
  rw[e1]
  have h:=rY (s:=xu (b.getD i 0) e.I.length) hb 2 (aH (xu (b.getD i 0) e.I.length) b (sN b (b.getD i 0) e.I.length (jL b i e) k)).2 2 (by omega) (by omega) (by omega)
  exact⟨rfl,AY hb _,h.1,by have:=h.2.1;show eL (aj _ b 2 _ _).1≤3;omega⟩
def IC (l:List En):Prop:=∀i,i<l.length→∀j,j<(l.getD i bV).I.length→0≤(l.getD i bV).I.getD j 0∧(l.getD i bV).I.getD j 0<ob l l.length+1∧wd l ((l.getD i bV).I.getD j 0) l.length=(i:Int)
def IE (l:List En):Prop:=∀i,i<l.length→∀j,j<(l.getD i bV).KA.length→0≤(l.getD i bV).KA.getD j 0∧(l.getD i bV).KA.getD j 0<ob l l.length+1∧we l ((l.getD i bV).KA.getD j 0) l.length=(i:Int)
def IG (l:List En):Prop:=∀i,i<l.length→∀j,j<(l.getD i bV).I.length→∀k,k<(l.getD i bV).I.length→(l.getD i bV).I.getD j 0=(l.getD i bV).I.getD k 0→j=k
def IH (l:List En):Prop:=∀i,i<l.length→∀j,j<(l.getD i bV).KA.length→∀k,k<(l.getD i bV).KA.length→(l.getD i bV).KA.getD j 0=(l.getD i bV).KA.getD k 0→j=k
theorem II (sh:Int):IC (af sh)∧IE (af sh)∧IG (af sh)∧IH (af sh):=by
 unfold IC IE IG IH
 rcases jp sh with h | h | h | h | h | h<;>rw[h]<;>decide
theorem xD {sh:Int} {b:List Int} (h0:0≤sh) (h1:sh≤255) (hb:ip b):bO (aa sh b):=by
 have PF:=xx sh
 have hnc:=Ek sh
 obtain⟨q1,q2,q3,q4⟩:=II sh
 have lp:(aa sh b).U.length=(af sh).length:=ay _ _
 have lc:(aa sh b).J.length=jM sh:=ay _ _
 have gp:∀i,i<(af sh).length→bD (aa sh b) i=pO b (af sh) i:=fun i hi=>bq hi
 have gc:∀n,n<jM sh→dn (aa sh b) n=sP sh (af sh) n:=fun n hn=>bq hn
 have ltk:∀i,(pO b (af sh) i).I.length=((af sh).getD i bV).I.length:=fun i=>ay _ _
 have lpt:∀i,(pO b (af sh) i).KA.length=((af sh).getD i bV).KA.length:=fun i=>ay _ _
 have ctk:∀i j,j<((af sh).getD i bV).I.length→(oz (pO b (af sh) i) j).chan=((af sh).getD i bV).I.getD j 0∧(oz (pO b (af sh) i) j).w=2:=fun i j hj=>by
  have:oz (pO b (af sh) i) j=Ck b _ _ ((af sh).getD i bV) j:=bq hj
  rw[this];exact⟨rfl,rfl⟩
 have cpt:∀i j,j<((af sh).getD i bV).KA.length→(sZ (pO b (af sh) i) j).chan=((af sh).getD i bV).KA.getD j 0∧(sZ (pO b (af sh) i) j).w=2:=fun i j hj=>by
  have:sZ (pO b (af sh) i) j=EP b _ _ _ ((af sh).getD i bV) j:=bq hj
  rw[this];exact⟨rfl,rfl⟩
 have cast:∀x:Int,0≤x→((x.toNat:Nat):Int)=x:=fun x hx=>by omega
 refine⟨by omega,by omega,by omega,fun i hi=>?_,fun i hi j hj=>?_,fun i hi j hj=>?_,fun i hi j k hj hk he=>?_,fun i hi j k hj hk he=>?_,fun n hn=>?_,fun n hn=>?_⟩
 ·rw[lp]at hi
  rw[gp i hi]
  have he:=lC sh i
  exact F2 hb he.1 he.2
 ·rw[lp]at hi
  rw[gp i hi]at hj ⊢
  rw[ltk]at hj
  obtain⟨a1,a2,a3⟩:=q1 i hi j hj
  obtain⟨c1,c2⟩:=ctk i j hj
  have e:xQ (pO b (af sh) i) j=(((af sh).getD i bV).I.getD j 0).toNat:=by show(oz _ j).chan.toNat=_;rw[c1]
  rw[c1,c2,e,gc _ (by omega),lc]
  refine⟨a1,by omega,rfl,?_⟩
  show wd _ _ _=_
  rw[cast _ a1];exact a3
 ·rw[lp]at hi
  rw[gp i hi]at hj ⊢
  rw[lpt]at hj
  obtain⟨a1,a2,a3⟩:=q2 i hi j hj
  obtain⟨c1,c2⟩:=cpt i j hj
  have e:uo (pO b (af sh) i) j=(((af sh).getD i bV).KA.getD j 0).toNat:=by show(sZ _ j).chan.toNat=_;rw[c1]
  rw[c1,c2,e,gc _ (by omega),lc]
  refine⟨a1,by omega,rfl,?_⟩
  show we _ _ _=_
  rw[cast _ a1];exact a3
 ·rw[lp]at hi
  rw[gp i hi]at hj hk he
  rw[ltk]at hj hk
  have a1:=(q1 i hi j hj).1
  have a2:=(q1 i hi k hk).1
  have e1:xQ (pO b (af sh) i) j=(((af sh).getD i bV).I.getD j 0).toNat:=by show(oz _ j).chan.toNat=_;rw[(ctk i j hj).1]
  have e2:xQ (pO b (af sh) i) k=(((af sh).getD i bV).I.getD k 0).toNat:=by show(oz _ k).chan.toNat=_;rw[(ctk i k hk).1]
  exact q3 i hi j hj k hk (by omega)
 ·rw[lp]at hi
  rw[gp i hi]at hj hk he
  rw[lpt]at hj hk
  have a1:=(q2 i hi j hj).1
  have a2:=(q2 i hi k hk).1
  have e1:uo (pO b (af sh) i) j=(((af sh).getD i bV).KA.getD j 0).toNat:=by show(sZ _ j).chan.toNat=_;rw[(cpt i j hj).1]
  have e2:uo (pO b (af sh) i) k=(((af sh).getD i bV).KA.getD k 0).toNat:=by show(sZ _ k).chan.toNat=_;rw[(cpt i k hk).1]
  exact q4 i hi j hj k hk (by omega)
 ·rw[lc]at hn
  rw[gc n hn];rfl
 ·rw[lc]at hn
  rw[gc n hn]
  show(0:Int)≤if _ then _ else _
  split
  ·exact Int.add_nonneg (by decide) (Mo _ (by decide))
  ·exact Int.le_refl 0
section
variable {c:Ci} {s:Ns} {n:Nat} {l:List Int}
theorem F4 (hs:cA c s) (hn:n<c.J.length) (hw:(dn c n).w=2) (hv:bM l 2=true) (hf:(dn c n).frm=-1):cA c (dp s n (gS s n++l)):=by
 refine AV hs hn (fun i hi=>?_) (fun a _=>by omega)
 rw[w9]
 split
 ·rename_i h;exact hs.cv n hn i h
 ·rename_i h
  rw[hw]
  rw[KN]at hi
  exact nz.1 hv _ (by omega)
end
theorem EK (sh:Int) (b:List Int) {n:Nat} (h:n<(aa sh b).J.length):(dn (aa sh b) n).w=2:=by
 have e:dn (aa sh b) n=sP sh (af sh) n:=bq (by simpa[aa,ay]using h)
 rw[e];rfl
abbrev xK (k:IntKind) (x:Int):Prop:=(Lit.int k x).wf=true
def ow {α:Type} (enc:α→Value) (S:Nat→Prop) (w:World) (v:Value) (l:List α):Prop :=
 ∃(p:Option Addr) (c:Nat),v=.slice p l.length c∧l.length≤c∧c≤maxLen∧(p=none→c=0) ∧
  (0<l.length→∃b L',p=some ⟨b,L',none⟩∧S b∧b<w.heap.size∧∀(i:Nat) (x:α),l[i]?=some x→w.cell? ⟨b,L'+i,none⟩=some (enc x))
theorem ow.stable {α:Type} (enc:α→Value) (l:List α):ii (fun S v w=>ow enc S w v l):=by
 rintro S S' v w w' ⟨p,c,rfl,h1,h2,h3,h4⟩ hS hw M0
 refine⟨p,c,rfl,h1,h2,h3,fun h0=>?_⟩
 obtain⟨b,L',rfl,q1,q2,q3⟩:=h4 h0
 refine⟨b,L',rfl,hS b q1 q2,by omega,fun i x hx=>?_⟩
 rw[← q3 i x hx]
 exact MD (hw b q1 q2)
theorem ow.mono {α:Type} {enc:α→Value} {l:List α} {S S':Nat→Prop} {w w':World} {v:Value} (h:ow enc S w v l) (hS:∀b,S b→b<w.heap.size→S' b)
  (hb:Below w.heap.size w w'):ow enc S' w' v l:=ow.stable enc l S S' v w w' h hS (fun b _ Nn=>hb.block b Nn) hb.size
theorem ow.base {α:Type} {enc:α→Value} {l:List α} {S0 S:Nat→Prop} {w w':World} {v:Value} (h:ow enc S0 w v l) (hb:Below w.heap.size w w') (hS:∀b,b<w.heap.size→S b):ow enc S w' v l :=
 h.mono (fun b _ Nn=>hS b Nn) hb
open Go.ChangeShapes Go.WideShapes Go.ChangeAt Go.RowKit
section
variable {H:Type} {enc:TypeId×Value→H} {P:Program} {W:World} {r:Reach} {base:Nat}
theorem EL {k:IntKind} {x:Int} (h:xK k x) (hk:k.signed=false):∃n:Nat,x=n∧(n:Int)≤k.max:=by
 have h1:k.min≤x∧x≤k.max:=by simpa[xK,Lit.wf]using h
 have h0:k.min=0:=by unfold IntKind.min;rw[hk];rfl
 obtain⟨n,rfl⟩:=Lq (a:=x) (by omega)
 exact⟨n,rfl,h1.2⟩
end
section
variable {H:Type} {enc:TypeId×Value→H} {P:Program} {W:World}
theorem Cg {α:Type} {S:Nat→Prop} {t e:TypeId} {MW:α→List V} {d0:α} {good:α→Prop} {fuel:Nat} {cs:List Value} {x:DataW H×List MemPlace} (ht:P.underlying t=some (.slice e)) (hc:P.cellsOf e=1) (hS:∀b,b<W.heap.size→S b)
  (he:∀fuel cs y,DataW.trod enc P W 0 (fun _=>true) true fuel e cs=some y→∃v a y0,cs=[v]∧good a∧MW a=[y0]∧ci S W y0 v) (h:DataW.trod enc P W 0 (fun _=>true) true fuel t cs=some x) :
  ∃v l,cs=[v]∧(∀a∈l,good a)∧l.length≤maxLen∧ci S W (.sl 1 MW d0 l) v:=by
 rcases DataW.trod_slice ht h with ⟨rfl,_⟩ | ⟨a,len,cap,elems,rest,n,_,rfl,rfl,_,hl,hm,MZ,hel,_,_⟩
 ·exact⟨_,[],rfl,fun a ha=>by simp at ha,by simp,.nil _ _ _ _ _ (by omega) (fun _=>rfl)⟩
 by_cases h0:len=0
 ·subst h0
  exact⟨_,[],rfl,fun a ha=>by simp at ha,by simp,.nil _ _ _ _ _ hm (fun h=>by cases h)⟩
 have each:∀i,∃a':α,i<len→∃v y0,W.cell? (a.add i)=some v∧good a'∧MW a'=[y0]∧ci S W y0 v:=by
  intro i
  by_cases hi:i<len
  ·have h1:=hel i hi
   rw[KF (by omega),hc,Nat.mul_one,Option.bind_eq_some_iff]at h1
   obtain⟨Sl,hcs,hy⟩:=h1
   obtain⟨v,a',y0,rfl,g1,g2,g3⟩:=he _ _ _ hy
   exact⟨a',fun _=>⟨v,y0,cell_of_cells?_one hcs,g1,g2,g3⟩⟩
  ·exact⟨d0,fun h=>(hi h).elim⟩
 obtain⟨f,hf⟩:=Classical.axiomOfChoice each
 obtain⟨b,L',spot⟩:=a
 obtain⟨v0,_,h00,_⟩:=hf 0 (by omega)
 have hspot:spot=none:=by simpa[Addr.add]using World.cell?_spot h00
 subst hspot
 have R9:∀i,(⟨b,L',none⟩:Addr).add i=⟨b,L'+i,none⟩:=fun i=>by unfold Addr.add;split<;>simp_all
 have hb:b<W.heap.size:=by
  have:=h00
  unfold World.cell? at this
  simp only[Addr.add,L9]at this
  split at this
  ·rename_i hb
   exact(KQ.1 hb).1
  ·cases this
 have Nh:∀(i:Nat) (x:α),((List.range len).map f)[i]?=some x→i<len∧x=f i:=by
  intro i x hx
  simp only[KX,Option.map_eq_some_iff]at hx
  obtain⟨j,hj,rfl⟩:=hx
  obtain⟨h1,h2⟩:=KE.1 hj
  simp at h1 h2
  exact⟨h1,by rw[h2]⟩
 refine⟨_,(List.range len).map f,rfl,?_,by simp;omega,.row 1 MW d0 _ b L' cap len (fun i _=>(W.cell? ⟨b,L'+i,none⟩).getD undef) (hS b hb) hb (by simp) hl hm ?_ ?_ ?_⟩
 ·intro a' ha
  obtain⟨i,hi⟩:=List.getElem?_of_mem ha
  obtain⟨h1,rfl⟩:=Nh i a' hi
  obtain⟨_,_,_,g,_⟩:=hf i h1
  exact g
 ·intro i x hx
  obtain⟨h1,rfl⟩:=Nh i x hx
  obtain⟨_,_,_,_,g,_⟩:=hf i h1
  rw[g];rfl
 ·intro i x j y hx hy
  obtain⟨h1,rfl⟩:=Nh i x hx
  obtain⟨v,y0,g0,_,g,g2⟩:=hf i h1
  rw[g]at hy
  have hj:j=0:=by
   cases j with
   | zero=>rfl
   | succ j=>simp at hy
  subst hj
  rw[R9]at g0
  rw[Nat.mul_one,Ma,g0]
  rfl
 ·intro i x j y hx hy
  obtain⟨h1,rfl⟩:=Nh i x hx
  obtain⟨v,y0,g0,_,g,g2⟩:=hf i h1
  rw[g]at hy
  have hj:j=0:=by
   cases j with
   | zero=>rfl
   | succ j=>simp at hy
  subst hj
  simp only[List.getElem?_cons_zero,KP]at hy
  subst hy
  rw[R9]at g0
  simp only[g0,MG]
  exact g2
theorem fB {S:Nat→Prop} {t e:TypeId} {k:IntKind} {fuel:Nat} {cs:List Value} {x:DataW H×List MemPlace} (ht:P.underlying t=some (.slice e)) (he:P.underlying e=some (.int k)) (hc:P.cellsOf e=1) (hS:∀b,b<W.heap.size→S b)
  (h:DataW.trod enc P W 0 (fun _=>true) true fuel t cs=some x):∃v l,cs=[v]∧(∀n∈l,xK k n)∧l.length≤maxLen∧ci S W (.sl 1 (ab k) 0 l) v :=
 Cg ht hc hS (fun fuel cs y hy=>by
  obtain⟨n,e1,_,e3⟩:=DataW.trod_int he hy
  exact⟨_,n,_,e1,e3,rfl,.int _ _⟩) h
theorem pu {S:Nat→Prop} {r:Reach} {base:Nat} {t e:TypeId} {k:IntKind} {v:Value} {d:DataW H} {p:List MemPlace} (ht:P.underlying t=some (.slice e)) (he:P.underlying e=some (.int k)) (hc:P.cellsOf e=1) (hS:∀b,b<W.heap.size→S b)
  (hv:Value.okWide P W r base t v) (h:DataW.Trod enc P W 0 (fun _=>true) true t v d p):∃l,(∀n∈l,xK k n)∧l.length≤maxLen∧ci S W (.sl 1 (ab k) 0 l) v:=by
 obtain⟨a0,len,cap,rfl⟩:=okWide_slice ht hv
 obtain⟨fuel,hf⟩:=h
 obtain⟨v,l,e1,h1,h2,h3⟩:=fB ht he hc hS hf
 simp only[Value.cells,LM,MQ]at e1
 subst e1
 exact⟨l,h1,h2,h3⟩
theorem zf {f:FuncId} {ys:List D} {al b:Bool} (h:ai P f ys [] al (dB b) []) (us:Array Value) (W:World) (hr:aE (fun b=>b<W.heap.size) (fun _=>undef) W ys us) (hg:er (fun b=>b<W.heap.size) W:=by exact A5 rfl) :
  Calls P f us W (fun e W'=>e=.returned (.bool b)∧Below W.heap.size W W'):=by
 refine(h (fun b=>b<W.heap.size) (fun _=>undef) W us (fun _ h=>h) hg ⟨fun id B hB=>by simp at hB,fun i j A B b hA=>by simp at hA,fun i A b hA=>by simp at hA⟩ hr).mono ?_
 rintro e w' ⟨u,μ',S',rfl,h1,h2,h3,h4,h5,_,_,_,h9,_⟩
 refine⟨?_,⟨h1,h2,h3,h4,fun k hk=>h5 k hk (fun i A hA=>by simp at hA)⟩⟩
 rw[dZ h9]
theorem sW {x:Int} (h:xK .u8 x):0≤x∧x<256:=by
 have h1:IntKind.u8.min≤x∧x≤IntKind.u8.max:=by simpa[xK,Lit.wf]using h
 have h2:IntKind.u8.min=0:=rfl
 have h3:IntKind.u8.max=255:=rfl
 omega
theorem F7 {r:Reach} {base:Nat} {t:TypeId} {v:Value} {d:DataW H} {p:List MemPlace} (ht:P.underlying t=some (.int .u8)) (hv:Value.okWide P W r base t v) (h:DataW.Trod enc P W 0 (fun _=>true) true t v d p):∃n:Nat,v=.int .u8 (n:Int)∧n≤255:=by
 obtain⟨n,rfl,-,-,fn⟩:=open_int ht hv h
 obtain⟨n,rfl,bn⟩:=EL fn rfl
 have:IntKind.u8.max=255:=rfl
 exact⟨n,rfl,by omega⟩
theorem sY {t:TypeId} {fs:Array Field} {fuel:Nat} {cs:List Value} {x:DataW H×List MemPlace} (ht:P.underlying t=some (.struct fs)) (h:DataW.trod enc P W 0 (fun _=>true) true fuel t cs=some x) :
  ∃n,∀(i:Nat) (f:Field),fs[i]?=some f→∃y,DataW.trod enc P W 0 (fun _=>true) true n f.type ((cs.drop f.offset).take (P.cellsOf f.type))=some y:=by
 obtain⟨xs,n,_,_,_,MZ,hf⟩:=DataW.trod_struct ht h
 refine⟨n,fun i f hi=>?_⟩
 have h1:=hf i f hi
 have h2:=(KQ.1 hi).1
 rw[KF (by omega)]at h1
 exact⟨_,h1⟩
theorem tp {r:Reach} {base:Nat} {t:TypeId} {fs:Array Field} {v:Value} {m:Nat} (ht:P.underlying t=some (.struct fs)) (hm:P.cellsOf t=m) (hv:Value.okWide P W r base t v):∃cs:List Value,v=.agg cs.toArray∧cs.length=m:=by
 unfold Value.okWide at hv
 rw[ht]at hv
 obtain⟨cs,rfl,hs,_⟩:=hv
 exact⟨cs.toList,by simp,by simp[hs,hm]⟩
def v9 (S:Nat→Prop) (μ:Nat→Value) (w:World):List D→List Value→Prop
 | [],[]=>True
 | d::ds,u::us=>ah S μ w d u∧v9 S μ w ds us
 | _,_=>False
theorem v9.at {S:Nat→Prop} {μ:Nat→Value} {w:World}:∀{ds:List D} {us:List Value},v9 S μ w ds us→us.length=ds.length∧∀(j:Nat) (y:D) (u:Value),ds[j]?=some y→us[j]?=some u→ah S μ w y u
 | [],[],_=>⟨rfl,fun j y u hy=>by simp at hy⟩
 | d::ds,u::us,h=>by
  obtain⟨h1,h2⟩:=h.2.at
  refine⟨by simp[h1],fun j y z hy hz=>?_⟩
  match j with
  | 0=>simp at hy hz;subst hy hz;exact h.1
  | j+1=>exact h2 j y z (by simpa using hy) (by simpa using hz)
 | [],_::_,h=>h.elim
 | _::_,[],h=>h.elim
theorem F8 {S:Nat→Prop} {μ:Nat→Value} {w:World} {ds:List D} {us:List Value} (h:v9 S μ w ds us):ah S μ w (.agg ds) (.agg us.toArray) :=
 .agg _ _ (by simpa using h.at.1) (fun j y u hy hu=>h.at.2 j y u hy (by simpa using hu))
theorem Ho {S:Nat→Prop} {μ:Nat→Value} {w:World} {x y q:D} {u v t:Value} (h:ah S μ w x u) (k:ah S μ w y v) (m:ah S μ w q t):aE S μ w [x,y,q] #[u,v,t]:=⟨rfl,fun j y z hy hz=>by
 match j with
 | 0=>simp at hy hz;subst hy hz;exact h
 | 1=>simp at hy hz;subst hy hz;exact k
 | 2=>simp at hy hz;subst hy hz;exact m
 | j+3=>simp at hy⟩
end
theorem wa {l:List Int} (h:∀n∈l,xK .u8 n):ip l:=fun x hx=>by
 have:=sW (h x hx);omega
theorem A2 {x:Int} (h:xK .u8 x):0≤x∧x≤255:=by have:=sW h;omega
theorem IT {α:Type} (l:List α) (h:l.length=6):∃a b c d e f,l=[a,b,c,d,e,f]:=by
 match l,h with
 | [a,b,c,d,e,f],_=>exact⟨a,b,c,d,e,f,rfl⟩
theorem Kc {n:Nat} (h:n≤maxLen):n≤9223372036854775807:=by unfold maxLen at h;omega
structure Sm where
 name:ByteArray
 words:List Int
def lj (s:Sm):List V:=[.str s.name,.sl 1 (ab .i64) 0 s.words]
abbrev bQ:Sm:=⟨e0,[]⟩
def I3 (c:Ci) (s:Ns) (n:Nat):List Sm:=if (dn c n).dst=-1 then [⟨(dn c n).name,gS s n⟩]else []
def ss (c:Ci) (s:Ns):Nat→List Sm
 | 0=>[]
 | n+1=>ss c s n++I3 c s n
def FE (c:Ci) (s:Ns):List Sm:=ss c s c.J.length
theorem DX {c:Ci} {s:Ns} {n:Nat} (h:¬(dn c n).dst=-1):ss c s (n+1)=ss c s n:=by rw[ss,I3,KK h,K9]
theorem Au {c:Ci} {s:Ns} {n:Nat} (h:(dn c n).dst=-1):ss c s (n+1)=ss c s n++[⟨(dn c n).name,gS s n⟩]:=by rw[ss,I3,KT h]
theorem xf {c:Ci} {s:Ns}:∀n,(ss c s n).length≤n
 | 0=>KI _
 | n+1=>by
  have:=xf (c:=c) (s:=s) n
  rw[ss,KN]
  unfold I3
  split<;>simp<;>omega
def jk (l:List Ch) (nm:ByteArray) (i:Nat):Bool:=decide ((l.getD i aN).frm=-1)&&((l.getD i aN).name.toList==nm.toList)
def au (l:List Ch) (nm:ByteArray):Int:=bX (jk l nm) l.length
abbrev BQ (c:Ci) (nm:ByteArray):Int:=au c.J nm
def dK (l:List Ch) (i:Int):Ch:=if i<0 then aN else l.getD i.toNat aN
theorem qF {l:List Ch} {i:Int} (h:i<0):dK l i=aN:=KT h
theorem nP {l:List Ch} {i:Int} (h:¬i<0):dK l i=l.getD i.toNat aN:=KK h
theorem uz {f:Nat→Bool}:∀{n:Nat},0≤bX f n→∃i,i<n∧bX f n=(i:Int)∧f i=true∧∀z,z<i→f z=false
 | 0,h=>by simp[bX]at h
 | n+1,h=>by
  rw[bX]at h ⊢
  split at h
  ·rename_i h1
   rw[KT h1]
   split at h
   ·rename_i h2
    rw[KT h2]
    exact⟨n,by omega,rfl,h2,fun z hz=>by have:=bo.1 h1 z hz;simpa using this⟩
   ·omega
  ·rename_i h1
   rw[KK h1]
   obtain⟨i,a,b,c,d⟩:=uz h
   exact⟨i,by omega,b,c,d⟩
def G7 (l:List Sm) (nm:ByteArray) (i:Nat):Bool:=(l.getD i bQ).name.toList==nm.toList
def aX (l:List Sm) (nm:ByteArray):Int:=bX (G7 l nm) l.length
def vJ (a b:List Int) (i:Nat):Bool:=!decide (a.getD i 0=b.getD i 0)
def mL (a b:List Int):Int:=bX (vJ a b) (min a.length b.length)
def gT (l:List Sm) (i:Int):Sm:=if i<0 then bQ else l.getD i.toNat bQ
theorem Av {l:List Sm} {i:Int} (h:i<0):gT l i=bQ:=KT h
theorem DY {l:List Sm} {i:Int} (h:¬i<0):gT l i=l.getD i.toNat bQ:=KK h
abbrev jl (l:List Sm) (k:Int):List Int:=(gT l k).words
def nQ (a b:List Sm) (i:Nat):Bool:=decide (0≤aX b (a.getD i bQ).name)&&(decide (aX a (a.getD i bQ).name=(i:Int))&&decide (0≤mL (a.getD i bQ).words (jl b (aX b (a.getD i bQ).name))))
def FF (a b:List Sm):Int:=bX (nQ a b) a.length
structure Vd where
 name:ByteArray
 pos:Int
 is:Bool
def H9 (a b:List Sm) (i:Nat):Vd:=⟨(a.getD i bQ).name,mL (a.getD i bQ).words (jl b (aX b (a.getD i bQ).name)),false⟩
def fZ (a b:List Sm):Vd:=if FF a b<0 then ⟨e0,0,true⟩else H9 a b (FF a b).toNat
theorem yQ {a b:List Sm} {i:Nat} (hi:i<a.length) (h:nQ a b i=true) (h2:∀z,z<i→nQ a b z=false):fZ a b=H9 a b i:=by
 have:FF a b=(i:Int):=bH h h2 hi
 unfold fZ
 rw[this,KK (by omega),Ly]
theorem xg {a b:List Sm} (h:∀z,z<a.length→nQ a b z=false):fZ a b=⟨e0,0,true⟩:=by
 have:FF a b=-1:=ca h
 unfold fZ
 rw[this,KT (by omega)]
def su (a b:List Sm) (i:Nat):Bool:=((a.getD i bQ).name.toList==(b.getD i bQ).name.toList)&&decide ((a.getD i bQ).words.length=(b.getD i bQ).words.length)
def lO (a b:List Sm):Bool:=(fZ a b).is&&(decide (a.length=b.length)&&dk (su a b) a.length)
def ae (c d:Ci) (s t:Ns) (nm:ByteArray) (ws:List Int):Ns×Ns×Int :=
 if BQ c nm<0∨BQ d nm<0 then (Cj,Cj,4)
 else if (aq c s (BQ c nm) ws).2=0∧(aq d t (BQ d nm) ws).2=0 then ((aq c s (BQ c nm) ws).1,(aq d t (BQ d nm) ws).1,0)else (Cj,Cj,1)
theorem vK {a b:List Sm} {i:Nat} (h:¬aX a (a.getD i bQ).name=(i:Int)):nQ a b i=false:=by unfold nQ;rw[KS h];simp
theorem nR {a b:List Sm} {i:Nat} (h:aX b (a.getD i bQ).name<0):nQ a b i=false:=by unfold nQ;rw[KS (by omega)];rfl
theorem qG {a b:List Sm} {i:Nat} (h:¬0≤mL (a.getD i bQ).words (jl b (aX b (a.getD i bQ).name))):nQ a b i=false:=by unfold nQ;rw[KS h];simp
theorem vL {a b:List Sm} {i:Nat} (h1:aX a (a.getD i bQ).name=(i:Int)) (h2:¬aX b (a.getD i bQ).name<0) (h3:0≤mL (a.getD i bQ).words (jl b (aX b (a.getD i bQ).name))):nQ a b i=true:=by unfold nQ;rw[KO h1,KO (show 0≤aX b (a.getD i bQ).name by omega),KO h3];rfl
theorem Aw {a b:List Sm} (h:¬(fZ a b).is=true):lO a b=false:=by unfold lO;rw[show(fZ a b).is=false by simpa using h];rfl
theorem DZ {a b:List Sm} (h:(fZ a b).is=true):lO a b=(decide (a.length=b.length)&&dk (su a b) a.length):=by unfold lO;rw[h];rfl
def nU (a b:List Sm):Bool:=decide (a.length=b.length)&&dk (su a b) a.length
theorem vM {a b:List Sm} (h:¬a.length=b.length):nU a b=false:=by unfold nU;rw[KS h];rfl
theorem qH {a b:List Sm} {i:Nat} (hi:i<a.length) (h:su a b i=false):nU a b=false:=by unfold nU;rw[eZ hi h,Lw]
theorem qI {a b:List Sm} (h:a.length=b.length) (h2:∀i,i<a.length→su a b i=true):nU a b=true:=by unfold nU;rw[KO h,bo.2 h2];rfl
theorem bZ {c d:Ci} {s t:Ns} {nm:ByteArray} {ws:List Int} (h:au c.J nm<0∨au d.J nm<0):ae c d s t nm ws=(Cj,Cj,4):=KT h
theorem aZ {c d:Ci} {s t:Ns} {nm:ByteArray} {ws:List Int} (h:¬(au c.J nm<0∨au d.J nm<0)) (h2:¬((aq c s (au c.J nm) ws).2=0∧(aq d t (au d.J nm) ws).2=0)):ae c d s t nm ws=(Cj,Cj,1):=by unfold ae;rw[KK h,KK h2]
theorem cb {c d:Ci} {s t:Ns} {nm:ByteArray} {ws:List Int} (h:¬(au c.J nm<0∨au d.J nm<0)) (h2:(aq c s (au c.J nm) ws).2=0) (h3:(aq d t (au d.J nm) ws).2=0):ae c d s t nm ws=((aq c s (au c.J nm) ws).1,(aq d t (au d.J nm) ws).1,0):=by unfold ae;rw[KK h,KT ⟨h2,h3⟩]
theorem im {c:Ci} {s:Ns} {n:Int} {ws:List Int}:(aq c s n ws).2=0∨(aq c s n ws).2=1:=by unfold aq;split<;>simp
theorem FG {a b:List Sm} {i:Nat} (h:¬(a.getD i bQ).words.length=(b.getD i bQ).words.length):su a b i=false:=by unfold su;rw[KS h,Lw]
theorem FH {a b:List Sm} {i:Nat} (h:((a.getD i bQ).name.toList==(b.getD i bQ).name.toList)=true) (h2:(a.getD i bQ).words.length=(b.getD i bQ).words.length):su a b i=true:=by unfold su;rw[h,KO h2];rfl
theorem sv {a b:List Sm}:lO a b=((fZ a b).is&&nU a b):=rfl
end Go.Proofs.Ytgmpoenfoacofaa
