/- Parts of a proof. -/
import Derived.Test.YtcejcppjedhicaaQSuD
namespace Go.Proofs.Ytcejcppjedhicaa
open Go.RowKit
set_option linter.unusedVariables false
set_option linter.unusedSimpArgs false
set_option maxRecDepth 100000
abbrev Ke (a b:List Int):Ct:=⟨17,[(LI a),(LI b)],false,(dB (decide (a=b)))⟩
abbrev qf (a:List Int) (b:List Int):Lp (Nat):=lm [0,1,5] 0 (fun (k:Nat)=>⟨[(0,(LI a)),(1,(LI b)),(5,(i6 (k:Int)))],[]⟩) (fun (k:Nat)=>k≤a.length∧∀z,z<k→a.getD z 0=b.getD z 0) (fun (k:Nat)=>a.length-k)
theorem Gr (a b:List Int) (ha:a.length≤9223372036854775807):CC (Ke a b):=by
 refine ap.vc (V:=TT 6 (CN ((a.length:Int)=(b.length:Int)) (TT 2 (false=(decide (a=b))∧True)) (TT 1 (GO (qf a b) 0 (∀k,(qf a b).inv k→TT 4 (CD ((k:Int)<(a.length:Int)) (TT 2 (IX (k:Int) a.length∧TT 3 (IX (k:Int) b.length∧TT 2 (CN ((a.getD k 0)=(b.getD k 0)) (TT 2 (false=(decide (a=b))∧True)) (TT 1 (W6 ((k+1:Nat):Int)∧TT 1 (AG (qf a b) k (k+1)))))))) (TT 2 (true=(decide (a=b))∧True)))))))) (.b 10 (.e) (.l (qf a b) 0 (fun k=>.b 14 (.b 25 (.e) (.w 5 [(1,.val (i6 ((k+1:Nat):Int)))]<|.e)) (.e)))) Try.func17 rfl rfl rfl (by kernel_rfl) ?_
 refine tt (cn (fun hc10=>?_) (fun hc10=>?_))
 · refine tt ⟨?_,oK⟩
   first | exact(N5 (fun e=>by subst e;omega)).symm | exact(N5 (same_no (k:=k) (by simpa using QC))).symm | exact(Og (qY (by omega) (by omega) hall)).symm
 · refine tt ⟨rfl,⟨by omega,fun z hz=>by omega⟩,?_⟩
   intro k L'
   obtain⟨hk,hall⟩:=L'
   refine tt (cd (fun SP=>?_) (fun SP=>?_))
   · refine tt ⟨ix,tt ⟨ix,tt (cn (fun QC=>?_) (fun QC=>?_))⟩⟩
     · refine tt ⟨?_,oK⟩
       first | exact(N5 (fun e=>by subst e;omega)).symm | exact(N5 (same_no (k:=k) (by simpa using QC))).symm | exact(Og (qY (by omega) (by omega) hall)).symm
     · refine tt ⟨w6,tt ⟨(k+1),rfl,?_,(?_:a.length-(k+1)<a.length-k)⟩⟩
       · exact⟨by omega,d4 hall (by simpa using QC)⟩
       · omega
   · refine tt ⟨?_,oK⟩
     first | exact(N5 (fun e=>by subst e;omega)).symm | exact(N5 (same_no (k:=k) (by simpa using QC))).symm | exact(Og (qY (by omega) (by omega) hall)).symm
abbrev c6 (c:Ci) (b:List Int):Ct:=⟨6,[(.agg [(dL 6 mB aa c.U),(dL 5 js bx c.J)]),(LY b)],true,(dL 1 af [] (bc c b))⟩
abbrev fU (c:Ci) (b:List Int):Lp (Nat×Nat):=yP [2,5,6,7] 3 (fun (i:Nat) (p0:Nat)=>⟨[(2,(.ptr 0 0 0 0)),(5,(.own 1)),(6,(.ptr 2 0 0 0)),(7,(i6 (i:Int)))],[(.var 29 [(dL 6 mB aa c.U),(dL 5 js bx c.J)]),(.arr 35 1 af [] (tab (rb c b) i)),(.var 86 [(LY b),(i6 (p0:Int))])]⟩) (fun (i:Nat) (p0:Nat)=>i≤c.J.length∧p0=inQ c b i∧p0≤10*i) (fun (i:Nat) (p0:Nat)=>c.J.length-i)
abbrev nc (c:Ci) (b:List Int) (i:Nat) (p0:Nat):Lp (Nat):=lm [2,5,6,7,8,9,10] 4 (fun (k:Nat)=>⟨[(2,(.ptr 0 0 0 0)),(5,(.own 1)),(6,(.ptr 2 0 0 0)),(7,(i6 (i:Int))),(8,(.own 3)),(9,(i6 (((b.getD p0 0%8).toNat:Nat):Int))),(10,(i6 (k:Int)))],[(.var 29 [(dL 6 mB aa c.U),(dL 5 js bx c.J)]),(.arr 35 1 af [] (tab (rb c b) i)),(.var 86 [(LY b),(i6 (p0:Int))]),(.arr 3 1 (ac .i64) 0 (tab (lQ b p0 (c.J.getD i bx).w) k))]⟩) (fun (k:Nat)=>k≤(b.getD p0 0%8).toNat∧(k=0∨(c.J.getD i bx).frm<0)) (fun (k:Nat)=>(b.getD p0 0%8).toNat-k)
theorem D8 (c:Ci) (b:List Int) (hc:bE c) (hb:oM b):CC (c6 c b):=by
 have Re:=hc.nl
 have hcl:=hc.cl
 refine ap.vc (V:=TT 2 (av [] ((tab (rb c b) 0).map af)∧TT 6 (GO (fU c b) (0,0) (∀i p0,(fU c b).inv (i,p0)→TT 5 (CD ((i:Int)<(c.J.length:Int)) (av [] (([]:List Int).map (ac .i64))∧TT 2 (CC (D6 b p0)∧((8:Int)≠0∧(Int.tmod (b.getD p0 0) 8)=(((b.getD p0 0%8).toNat:Nat):Int))∧TT 2 (GO (nc c b i p0) 0 (∀k,(nc c b i p0).inv k→CS ((k:Int)<(((b.getD p0 0%8).toNat:Nat):Int)) (TT 3 ((True∧(decide ((k:Int)<(((b.getD p0 0%8).toNat:Nat):Int)))=true)∧TT 3 (IX (i:Int) c.J.length∧TT 4 (CD (((c.J.getD i bx).frm)<0) (TT 3 (W6 ((1+k:Nat):Int)∧CC (zu b p0 (1+k))∧CC (D6 b (p0+(1+k)))∧TT 3 (IX (i:Int) c.J.length∧TT 2 (CC (Kb ((c.J.getD i bx).w))∧(True∧(IntKind.wrap .i64 (BitVec.ofInt (IntKind.i64).bits (b.getD (p0+(1+k)) 0) &&& BitVec.ofInt (IntKind.i64).bits (ao ((c.J.getD i bx).w))).toNat)=(lQ b p0 (c.J.getD i bx).w k))∧av [[(i6 (lQ b p0 (c.J.getD i bx).w k))]] ([lQ b p0 (c.J.getD i bx).w k].map (ac .i64))∧((tab (lQ b p0 (c.J.getD i bx).w) k).length+([lQ b p0 (c.J.getD i bx).w k].map (ac .i64)).length≤137438953472∧(tab (lQ b p0 (c.J.getD i bx).w) k).map (ac .i64)++[lQ b p0 (c.J.getD i bx).w k].map (ac .i64)=(tab (lQ b p0 (c.J.getD i bx).w) (k+1)).map (ac .i64))∧TT 2 (W6 ((k+1:Nat):Int)∧TT 1 (AG (nc c b i p0) k (k+1))))))) (TT 3 (IX (i:Int) c.J.length∧TT 3 (CD (((c.J.getD i bx).frm)<0) (TT 2 (W6 ((1+((b.getD p0 0%8).toNat):Nat):Int)∧CC (zu b p0 (1+((b.getD p0 0%8).toNat)))∧TT 3 (av [[(LI (tab (lQ b p0 (c.J.getD i bx).w) k))]] ([tab (lQ b p0 (c.J.getD i bx).w) k].map af)∧((tab (rb c b) i).length+([tab (lQ b p0 (c.J.getD i bx).w) k].map af).length≤137438953472∧(tab (rb c b) i).map af++[tab (lQ b p0 (c.J.getD i bx).w) k].map af=(tab (rb c b) (i+1)).map af)∧TT 2 (W6 ((i+1:Nat):Int)∧TT 1 (AG (fU c b) (i,p0) (i+1,p0+(1+(b.getD p0 0%8).toNat))))))) (TT 2 (av [[(LI (tab (lQ b p0 (c.J.getD i bx).w) k))]] ([tab (lQ b p0 (c.J.getD i bx).w) k].map af)∧((tab (rb c b) i).length+([tab (lQ b p0 (c.J.getD i bx).w) k].map af).length≤137438953472∧(tab (rb c b) i).map af++[tab (lQ b p0 (c.J.getD i bx).w) k].map af=(tab (rb c b) (i+1)).map af)∧TT 2 (W6 ((i+1:Nat):Int)∧TT 1 (AG (fU c b) (i,p0) (i+1,p0)))))))))))) (TT 3 ((True∧(decide ((k:Int)<(((b.getD p0 0%8).toNat:Nat):Int)))=false)∧TT 11 (IX (i:Int) c.J.length∧TT 3 (CD (((c.J.getD i bx).frm)<0) (TT 2 (W6 ((1+((b.getD p0 0%8).toNat):Nat):Int)∧CC (zu b p0 (1+((b.getD p0 0%8).toNat)))∧TT 3 (av [[(LI (tab (lQ b p0 (c.J.getD i bx).w) k))]] ([tab (lQ b p0 (c.J.getD i bx).w) k].map af)∧((tab (rb c b) i).length+([tab (lQ b p0 (c.J.getD i bx).w) k].map af).length≤137438953472∧(tab (rb c b) i).map af++[tab (lQ b p0 (c.J.getD i bx).w) k].map af=(tab (rb c b) (i+1)).map af)∧TT 2 (W6 ((i+1:Nat):Int)∧TT 1 (AG (fU c b) (i,p0) (i+1,p0+(1+(b.getD p0 0%8).toNat))))))) (TT 2 (av [[(LI (tab (lQ b p0 (c.J.getD i bx).w) k))]] ([tab (lQ b p0 (c.J.getD i bx).w) k].map af)∧((tab (rb c b) i).length+([tab (lQ b p0 (c.J.getD i bx).w) k].map af).length≤137438953472∧(tab (rb c b) i).map af++[tab (lQ b p0 (c.J.getD i bx).w) k].map af=(tab (rb c b) (i+1)).map af)∧TT 2 (W6 ((i+1:Nat):Int)∧TT 1 (AG (fU c b) (i,p0) (i+1,p0))))))))))))) (TT 3 ((tab (rb c b) i).map af=(bc c b).map af))))))) (.w 1 [(0,.box 35 1 af [] (tab (rb c b) 0))]<|.l (fU c b) (0,0) (fun ⟨i,p0⟩=>.b 18 (.w 6 [(0,.box 3 1 (ac .i64) 0 ([]:List Int))]<|.w 7 [(1,(D6 b p0).O),(2,.val (i6 (((b.getD p0 0%8).toNat:Nat):Int)))]<|.l (nc c b i p0) 0 (fun k=>.s 9 ((k:Int)<(((b.getD p0 0%8).toNat:Nat):Int)) (.w 9 [(3,.val (dB true))]<|.b 36 (.w 11 [(3,.val (i6 ((1+k:Nat):Int))),(4,(zu b p0 (1+k)).O),(5,(D6 b (p0+(1+k))).O),(12,(Kb ((c.J.getD i bx).w)).O),(13,.val (i6 (lQ b p0 (c.J.getD i bx).w k))),(14,.box 3 1 (ac .i64) 0 [lQ b p0 (c.J.getD i bx).w k]),(15,.box 3 1 (ac .i64) 0 (tab (lQ b p0 (c.J.getD i bx).w) (k+1)))]<|.w 10 [(1,.val (i6 ((k+1:Nat):Int)))]<|.e) (.b 61 (.w 13 [(2,.val (i6 ((1+((b.getD p0 0%8).toNat):Nat):Int))),(3,(zu b p0 (1+((b.getD p0 0%8).toNat))).O)]<|.f 14 3<|.w 14 [(2,.box 35 1 af [] [tab (lQ b p0 (c.J.getD i bx).w) k]),(3,.box 35 1 af [] (tab (rb c b) (i+1)))]<|.w 5 [(1,.val (i6 ((i+1:Nat):Int)))]<|.e) (.f 14 3<|.w 14 [(2,.box 35 1 af [] [tab (lQ b p0 (c.J.getD i bx).w) k]),(3,.box 35 1 af [] (tab (rb c b) (i+1)))]<|.w 5 [(1,.val (i6 ((i+1:Nat):Int)))]<|.e))) (.w 9 [(3,.val (dB false))]<|.b 61 (.w 13 [(2,.val (i6 ((1+((b.getD p0 0%8).toNat):Nat):Int))),(3,(zu b p0 (1+((b.getD p0 0%8).toNat))).O)]<|.f 14 3<|.w 14 [(2,.box 35 1 af [] [tab (lQ b p0 (c.J.getD i bx).w) k]),(3,.box 35 1 af [] (tab (rb c b) (i+1)))]<|.w 5 [(1,.val (i6 ((i+1:Nat):Int)))]<|.e) (.f 14 3<|.w 14 [(2,.box 35 1 af [] [tab (lQ b p0 (c.J.getD i bx).w) k]),(3,.box 35 1 af [] (tab (rb c b) (i+1)))]<|.w 5 [(1,.val (i6 ((i+1:Nat):Int)))]<|.e)))) (.e))) Try.func6 rfl rfl rfl (by kernel_rfl) ?_
 refine tt ⟨oK,tt ⟨rfl,⟨by omega,rfl,by omega⟩,?_⟩⟩
 intro i p0 L'
 obtain⟨hi,UT,hpb⟩:=L'
 have hy:=d6 hb p0
 refine tt (cd (fun Tw=>?_) (fun Tw=>?_))
 · refine⟨oK,tt ⟨(m6 b p0 hb),⟨⟨om,(by rw[show(((b.getD p0 0%8).toNat:Nat):Int)=b.getD p0 0%8 from PL (by omega)];exact OI hy.1)⟩,tt ⟨rfl,⟨by omega,.inl rfl⟩,?_⟩⟩⟩⟩
   intro k L'
   obtain⟨hk,hkf⟩:=L'
   refine⟨fun Qe=>?_,fun Qe=>?_⟩
   · refine tt ⟨(vT Qe),tt ⟨ix,tt (cd (fun Tc=>?_) (fun Tc=>?_))⟩⟩
     · have hw:1≤(c.J.getD i bx).w∧(c.J.getD i bx).w≤8:=bf.1 (hc.cw i (by omega))
       have hyk:=d6 hb (p0+(1+k))
       refine tt ⟨w6,⟨(r6 b p0 (1+k) om),⟨(m6 b (p0+(1+k)) hb),tt ⟨ix,tt ⟨(uN ((c.J.getD i bx).w)),⟨⟨oK,(wz (by omega) (by omega))⟩,⟨⟨⟨rfl,oK⟩,oK⟩,⟨(ba (by omega) rfl),tt ⟨w6,tt ⟨(k+1),rfl,?_,(?_:(b.getD p0 0%8).toNat-(k+1)<(b.getD p0 0%8).toNat-k)⟩⟩⟩⟩⟩⟩⟩⟩⟩⟩
       · exact⟨by omega,.inr (by first | assumption | omega)⟩
       · omega
     · have VR:k=IV c b p0 i:=by unfold IV;split<;>rename_i RN<;>(have RN:_:=RN;unfold b9 at RN;omega)
       refine tt ⟨ix,tt (cd (fun Te=>?_) (fun Te=>?_))⟩
       · refine tt ⟨w6,⟨(r6 b p0 (1+((b.getD p0 0%8).toNat)) om),tt ⟨⟨⟨rfl,oK⟩,oK⟩,⟨(ba (by omega) (by rw[VR,UT];rfl)),tt ⟨w6,tt ⟨(i+1,p0+(1+(b.getD p0 0%8).toNat)),rfl,?_,(?_:c.J.length-(i+1)<c.J.length-i)⟩⟩⟩⟩⟩⟩
         · exact⟨by omega,by rw[inQ,NT Te,← UT],by omega⟩
         · omega
       · refine tt ⟨⟨⟨rfl,oK⟩,oK⟩,⟨(ba (by omega) (by rw[VR,UT];rfl)),tt ⟨w6,tt ⟨(i+1,p0),rfl,?_,(?_:c.J.length-(i+1)<c.J.length-i)⟩⟩⟩⟩
         · exact⟨by omega,by rw[inQ,NQ Te];exact UT,by omega⟩
         · omega
   · refine tt ⟨(vF Qe),?_⟩
     have VR:k=IV c b p0 i:=by unfold IV;split<;>rename_i RN<;>(have RN:_:=RN;unfold b9 at RN;omega)
     refine tt ⟨ix,tt (cd (fun Te=>?_) (fun Te=>?_))⟩
     · refine tt ⟨w6,⟨(r6 b p0 (1+((b.getD p0 0%8).toNat)) om),tt ⟨⟨⟨rfl,oK⟩,oK⟩,⟨(ba (by omega) (by rw[VR,UT];rfl)),tt ⟨w6,tt ⟨(i+1,p0+(1+(b.getD p0 0%8).toNat)),rfl,?_,(?_:c.J.length-(i+1)<c.J.length-i)⟩⟩⟩⟩⟩⟩
       · exact⟨by omega,by rw[inQ,NT Te,← UT],by omega⟩
       · omega
     · refine tt ⟨⟨⟨rfl,oK⟩,oK⟩,⟨(ba (by omega) (by rw[VR,UT];rfl)),tt ⟨w6,tt ⟨(i+1,p0),rfl,?_,(?_:c.J.length-(i+1)<c.J.length-i)⟩⟩⟩⟩
       · exact⟨by omega,by rw[inQ,NQ Te];exact UT,by omega⟩
       · omega
 · refine tt (congrArg _ (?_:(tab (rb c b) i)=(bc c b)))
   rw[show i=c.J.length by omega];rfl
abbrev c7 (b:List Int):Ct:=⟨7,[(LY b)],true,(dL 1 eS .empty (cC b))⟩
abbrev nd (b:List Int):Lp (Nat):=lm [0,3,4] 1 (fun (i:Nat)=>⟨[(0,(LY b)),(3,(.own 0)),(4,(i6 (i:Int)))],[(.arr 9 1 eS .empty (tab (sv b) i))]⟩) (fun (i:Nat)=>i≤b.length∧i≤40) (fun (i:Nat)=>b.length-i)
theorem D9 (b:List Int) (hb:oM b):CC (c7 b):=by
 refine ap.vc (V:=TT 1 (av [] ((tab (sv b) 0).map eS)∧TT 2 (GO (nd b) 0 (∀i,(nd b).inv i→CS ((i:Int)<(b.length:Int)) (TT 4 ((True∧(decide ((i:Int)<(b.length:Int)))=true)∧TT 3 (CD ((i:Int)<40) (TT 1 (av [[(dS (bs [97]))],[(dS (bs [98]))],[(dS (bs [97]))],[(dS (bs [98]))],[(dS (bs [97]))],[(dS (bs [98]))],[(dS (bs [99]))]] ([(bs [97]),(bs [98]),(bs [97]),(bs [98]),(bs [97]),(bs [98]),(bs [99])].map eS)∧TT 2 (IX (i:Int) b.length∧TT 1 (QM (b.getD i 0) 7∧IX ((b.getD i 0)%7) ([(bs [97]),(bs [98]),(bs [97]),(bs [98]),(bs [97]),(bs [98]),(bs [99])].length)∧(((b.getD i 0)%7).toNat<[(bs [97]),(bs [98]),(bs [97]),(bs [98]),(bs [97]),(bs [98]),(bs [99])].length∧True)∧av [[(dS (([(bs [97]),(bs [98]),(bs [97]),(bs [98]),(bs [97]),(bs [98]),(bs [99])]).getD (((b.getD i 0)%7).toNat) .empty))]] ([(([(bs [97]),(bs [98]),(bs [97]),(bs [98]),(bs [97]),(bs [98]),(bs [99])]).getD (((b.getD i 0)%7).toNat) .empty)].map eS)∧((tab (sv b) i).length+([(([(bs [97]),(bs [98]),(bs [97]),(bs [98]),(bs [97]),(bs [98]),(bs [99])]).getD (((b.getD i 0)%7).toNat) .empty)].map eS).length≤137438953472∧(tab (sv b) i).map eS++[(([(bs [97]),(bs [98]),(bs [97]),(bs [98]),(bs [97]),(bs [98]),(bs [99])]).getD (((b.getD i 0)%7).toNat) .empty)].map eS=(tab (sv b) (i+1)).map eS)∧TT 2 (W6 ((i+1:Nat):Int)∧TT 1 (AG (nd b) i (i+1))))))) (TT 3 ((tab (sv b) i).map eS=(cC b).map eS))))) (TT 4 ((True∧(decide ((i:Int)<(b.length:Int)))=false)∧TT 6 ((tab (sv b) i).map eS=(cC b).map eS))))))) (.w 1 [(0,.box 9 1 eS .empty (tab (sv b) 0))]<|.l (nd b) 0 (fun i=>.s 3 ((i:Int)<(b.length:Int)) (.w 3 [(4,.val (dB true))]<|.b 13 (.w 5 [(1,.box 9 1 eS .empty [(bs [97]),(bs [98]),(bs [97]),(bs [98]),(bs [97]),(bs [98]),(bs [99])]),(6,.val (dI .u8 ((b.getD i 0)%7))),(9,.box 9 1 eS .empty [(([(bs [97]),(bs [98]),(bs [97]),(bs [98]),(bs [97]),(bs [98]),(bs [99])]).getD (((b.getD i 0)%7).toNat) .empty)]),(10,.box 9 1 eS .empty (tab (sv b) (i+1)))]<|.w 4 [(1,.val (i6 ((i+1:Nat):Int)))]<|.e) (.e)) (.w 3 [(4,.val (dB false))]<|.e))) Try.func7 rfl rfl rfl (by kernel_rfl) ?_
 refine tt ⟨oK,tt ⟨rfl,(by omega),?_⟩⟩
 intro i L'
 obtain⟨hi,hi2⟩:=L'
 refine⟨fun Qe=>?_,fun Qe=>?_⟩
 · refine tt ⟨(vT Qe),tt (cd (fun Vm=>?_) (fun Vm=>?_))⟩
   · have hy:=d6 hb i
     refine tt ⟨⟨⟨rfl,oK⟩,⟨rfl,oK⟩,⟨rfl,oK⟩,⟨rfl,oK⟩,⟨rfl,oK⟩,⟨rfl,oK⟩,⟨rfl,oK⟩,oK⟩,tt ⟨ix,tt ⟨qm,⟨ix,⟨⟨om,oK⟩,⟨⟨⟨rfl,oK⟩,oK⟩,⟨(ba (by omega) rfl),tt ⟨w6,tt ⟨(i+1),rfl,(?_:(i+1)≤b.length∧(i+1)≤40),(?_:b.length-(i+1)<b.length-i)⟩⟩⟩⟩⟩⟩⟩⟩⟩
     · omega
     · omega
   · refine tt (congrArg _ (?_:(tab (sv b) i)=(cC b)))
     rw[show i=D3 b by unfold D3;omega];rfl
 · refine tt ⟨(vF Qe),tt (congrArg _ (?_:(tab (sv b) i)=(cC b)))⟩
   rw[show i=D3 b by unfold D3;omega];rfl
structure Qf where
 cap:Int
 NJ:List Int
 wr:Int
 rd:Int
 ws0:Int
 ws1:Int
 rs0:Int
 rs1:Int
def ay:Qf:=⟨0,[],0,0,0,0,0,0⟩
def cD (c a b:Int):Int:=if b≤a then a-b else a-b+2*c
def da (c p:Int):Int:=if p+1=2*c then 0 else p+1
def b8 (f:Qf):Int:=cD f.cap f.wr f.rd
def uQ (f:Qf):Int:=cD f.cap f.rd f.rs0+cD f.cap f.rs0 f.rs1
def Ea (f:Qf):Int:=cD f.cap f.wr f.ws0+cD f.cap f.ws0 f.ws1
structure gJ (f:Qf):Prop where
 c1:1≤f.cap
 c8:f.cap≤8
 wl:(f.NJ.length:Int)=f.cap
 p0:0≤f.wr∧f.wr<2*f.cap
 p1:0≤f.rd∧f.rd<2*f.cap
 p2:0≤f.ws0∧f.ws0<2*f.cap
 p3:0≤f.ws1∧f.ws1<2*f.cap
 p4:0≤f.rs0∧f.rs0<2*f.cap
 p5:0≤f.rs1∧f.rs1<2*f.cap
 lb:b8 f+uQ f≤f.cap
 ul:Ea f≤b8 f
theorem Ia {c a b:Int} (ha:0≤a∧a<2*c) (hb:0≤b∧b<2*c):(a-b+2*c)%(2*c)=cD c a b:=by
 unfold cD
 split
 ·rw[Int.add_emod_right,Pd (by omega) (by omega)]
 ·rw[Pd (by omega) (by omega)]
theorem dR {c a b:Int} (ha:0≤a∧a<2*c) (hb:0≤b∧b<2*c):0≤cD c a b∧cD c a b<2*c:=by
 unfold cD
 split<;>constructor<;>omega
theorem Ib {c p:Int} (h:0≤p∧p<2*c):(p+1)%(2*c)=da c p:=by
 unfold da
 split
 ·rename_i e;rw[e];exact Int.emod_self
 ·rw[Pd (by omega) (by omega)]
theorem Gs {c p:Int} (h:0≤p∧p<2*c):0≤da c p∧da c p<2*c:=by
 unfold da
 split<;>constructor<;>omega
theorem qg (c a:Int):cD c a a=0:=by unfold cD;rw[NT (Int.le_refl _)];omega
theorem qh {c a b:Int} (ha:0≤a∧a<2*c) (hb:0≤b∧b<2*c) (h:cD c a b=0):a=b:=by
 unfold cD at h
 split at h<;>omega
theorem Ic {c a b b':Int} (ha:0≤a∧a<2*c) (hb:0≤b∧b<2*c) (QJ:0≤b'∧b'<2*c) (h:cD c a b=cD c a b'):b=b':=by
 unfold cD at h
 split at h<;>split at h<;>omega
theorem C3 {c a b d:Int} (ha:0≤a∧a<2*c) (hb:0≤b∧b<2*c) (hd:0≤d∧d<2*c) (h:cD c a b+cD c b d<2*c):cD c a d=cD c a b+cD c b d:=by
 unfold cD at *
 split at h<;>split at h<;>split<;>omega
theorem Kf {c a b:Int} (ha:0≤a∧a<2*c) (hb:0≤b∧b<2*c) (h:cD c a b+1<2*c):cD c (da c a) b=cD c a b+1:=by
 unfold cD da at *
 split at h<;>split<;>split<;>omega
theorem C4 {c a b:Int} (ha:0≤a∧a<2*c) (hb:0≤b∧b<2*c):cD c (da c a) b≤cD c a b+1:=by
 unfold cD da
 split<;>split<;>split<;>omega
theorem Kg {c a b:Int} (ha:0≤a∧a<2*c) (hb:0≤b∧b<2*c) (h:0<cD c a b):cD c a (da c b)=cD c a b-1:=by
 unfold cD da at *
 split at h<;>split<;>split<;>omega
theorem Kh {c x:Int} (hc:1≤c) (h0:0≤x) (h:x<4*c):(0≤x%c∧x%c<c)∧(x%c=x∨x%c=x-c∨x%c=x-2*c∨x%c=x-3*c):=by
 refine⟨⟨Pm _ (by omega),Pg _ (by omega)⟩,?_⟩
 have key:∀k:Int,0≤x-k*c→x-k*c<c→x%c=x-k*c:=fun k h1 h2=>by
  have:x%c=(x-k*c)%c:=by rw[Int.sub_mul_emod_self_right]
  rw[this,Pd h1 h2]
 by_cases e0:x<c
 ·exact .inl (Pd h0 e0)
 ·by_cases e1:x<2*c
  ·exact .inr (.inl (by have:=key 1 (by omega) (by omega);omega))
  ·by_cases e2:x<3*c
   ·exact .inr (.inr (.inl (by have:=key 2 (by omega) (by omega);omega)))
   ·exact .inr (.inr (.inr (by have:=key 3 (by omega) (by omega);omega)))
def wQ (f:Qf) (i:Nat):Int:=f.NJ.getD ((f.rd+i)%f.cap).toNat 0
def qW (f:Qf):List Int:=tab (wQ f) (b8 f).toNat
def bw (f:Qf):Bool:=decide (cD f.cap f.wr f.rs1≠f.cap)
def eW (f:Qf):Bool:=decide (f.ws1≠f.rd)
def ae (f:Qf) (has:Bool) (w:Int):Qf :=
 if has=true∧bw f=true then ⟨f.cap,f.NJ.set (f.wr%f.cap).toNat w,da f.cap f.wr,f.rd,f.ws0,f.ws1,f.rd,f.rs0⟩else ⟨f.cap,f.NJ,f.wr,f.rd,f.ws0,f.ws1,f.rd,f.rs0⟩
def aH (f:Qf) (t:Bool):Qf :=
 if t=true∧eW f=true then ⟨f.cap,f.NJ,f.wr,da f.cap f.rd,f.wr,f.ws0,f.rs0,f.rs1⟩else ⟨f.cap,f.NJ,f.wr,f.rd,f.wr,f.ws0,f.rs0,f.rs1⟩
def bp (c:Int):Qf:=⟨c,List.replicate c.toNat 0,0,0,0,0,0,0⟩
section
variable {f:Qf}
theorem ri (h:gJ f):0≤b8 f∧b8 f≤f.cap:=by
 have h1:=dR h.p0 h.p1
 have h2:=dR h.p1 h.p4
 have h3:=dR h.p4 h.p5
 have h4:=h.lb
 unfold b8 uQ at *
 omega
theorem Gt (h:gJ f):((qW f).length:Int)=b8 f:=by
 have:=(ri h).1
 unfold qW
 rw[ax];omega
theorem xZ {c:Int} (h1:1≤c) (h8:c≤8):gJ (bp c)∧qW (bp c)=[]:=by
 have e:cD c 0 0=0:=by unfold cD;rw[NT (by omega)];omega
 refine⟨⟨h1,h8,?_,⟨by show(0:Int)≤0;omega,by show(0:Int)<2*c;omega⟩,⟨by show(0:Int)≤0;omega,by show(0:Int)<2*c;omega⟩,⟨by show(0:Int)≤0;omega,by show(0:Int)<2*c;omega⟩,⟨by show(0:Int)≤0;omega,by show(0:Int)<2*c;omega⟩,⟨by show(0:Int)≤0;omega,by show(0:Int)<2*c;omega⟩,⟨by show(0:Int)≤0;omega,by show(0:Int)<2*c;omega⟩,?_,?_⟩,?_⟩
 ·show((List.replicate c.toNat (0:Int)).length:Int)=c
  rw[NR];omega
 ·show cD c 0 0+(cD c 0 0+cD c 0 0)≤c
  omega
 ·show cD c 0 0+cD c 0 0≤cD c 0 0
  omega
 ·unfold qW
  rw[show b8 (bp c)=0 from e];rfl
theorem Ie (h:gJ f) (hr:bw f=true):b8 f+uQ f<f.cap:=by
 have hr:=O4 hr
 have h4:=h.lb
 have RH:=h.c1
 have e1:=C3 h.p0 h.p1 h.p4
 have e2:=C3 h.p0 h.p4 h.p5
 have n3:=dR h.p4 h.p5
 unfold b8 uQ at *
 omega
theorem Gu (h:gJ f) (hh:eW f=true):0<b8 f:=by
 have hh:=O4 hh
 have h4:=h.ul
 have n1:=dR h.p0 h.p1
 have n2:=dR h.p0 h.p2
 have n3:=dR h.p2 h.p3
 have z1:=qh h.p0 h.p1
 have z2:=qh h.p0 h.p2
 have z3:=qh h.p2 h.p3
 unfold b8 Ea at *
 omega
theorem rj (w:Int) (hr:bw f=true):ae f true w=⟨f.cap,f.NJ.set (f.wr%f.cap).toNat w,da f.cap f.wr,f.rd,f.ws0,f.ws1,f.rd,f.rs0⟩:=NT ⟨rfl,hr⟩
theorem zx (w:Int):ae f false w=⟨f.cap,f.NJ,f.wr,f.rd,f.ws0,f.ws1,f.rd,f.rs0⟩:=NQ (fun q=>by cases q.1)
theorem zy (hh:eW f=true):aH f true=⟨f.cap,f.NJ,f.wr,da f.cap f.rd,f.wr,f.ws0,f.rs0,f.rs1⟩:=NT ⟨rfl,hh⟩
theorem C5:aH f false=⟨f.cap,f.NJ,f.wr,f.rd,f.wr,f.ws0,f.rs0,f.rs1⟩:=NQ (fun q=>by cases q.1)
theorem wD (h:gJ f) (w:Int):gJ (ae f false w)∧qW (ae f false w)=qW f:=by
 rw[zx]
 have h4:=h.lb
 have n3:=dR h.p4 h.p5
 have e0:=qg f.cap f.rd
 refine⟨⟨h.c1,h.c8,h.wl,h.p0,h.p1,h.p2,h.p3,h.p1,h.p4,?_,h.ul⟩,rfl⟩
 show cD f.cap f.wr f.rd+(cD f.cap f.rd f.rd+cD f.cap f.rd f.rs0)≤f.cap
 unfold b8 uQ at h4
 omega
theorem rk (h:gJ f) (w:Int) (hr:bw f=true):gJ (ae f true w)∧qW (ae f true w)=qW f++[w]:=by
 have Ql:=Ie h hr
 have hln:=ri h
 rw[rj w hr]
 have hb:=dR h.p1 h.p4
 have RU:=dR h.p4 h.p5
 have SX:0≤uQ f:=by unfold uQ;omega
 have h5:=h.ul
 have RH:=h.c1
 obtain⟨a1,a2⟩:=h.p0
 obtain⟨b1,b2⟩:=h.p1
 have e0:=qg f.cap f.rd
 have u1:=Kf h.p0 h.p1
 have u2:=C4 h.p0 h.p2
 have Ut:b8 (⟨f.cap,f.NJ.set (f.wr%f.cap).toNat w,da f.cap f.wr,f.rd,f.ws0,f.ws1,f.rd,f.rs0⟩:Qf)=b8 f+1:=by
  show cD f.cap (da f.cap f.wr) f.rd=cD f.cap f.wr f.rd+1
  refine u1 ?_
  unfold b8 uQ at Ql
  omega
 refine⟨⟨h.c1,h.c8,?_,Gs h.p0,h.p1,h.p2,h.p3,h.p1,h.p4,?_,?_⟩,?_⟩
 ·show((f.NJ.set _ _).length:Int)=_
  rw[Ok];exact h.wl
 ·rw[Ut]
  show b8 f+1+(cD f.cap f.rd f.rd+cD f.cap f.rd f.rs0)≤f.cap
  unfold uQ at Ql
  omega
 ·rw[Ut]
  show cD f.cap (da f.cap f.wr) f.ws0+cD f.cap f.ws0 f.ws1≤b8 f+1
  unfold Ea at h5
  omega
 ·unfold qW
  rw[Ut,show(b8 f+1).toNat=(b8 f).toNat+1 by omega]
  have Tj:=h.wl
  have hwr:f.wr=f.rd+b8 f∨f.wr=f.rd+b8 f-2*f.cap:=by
   unfold b8 cD
   split<;>omega
  obtain⟨⟨m1,m2⟩,m3⟩:=Kh (x:=f.wr) RH a1 (by omega)
  unfold tab
  rw[List.range_succ,Ox,OQ,OG]
  congr 1
  ·refine Pz fun i hi=>?_
   have hi:i<(b8 f).toNat:=OJ.1 hi
   show(f.NJ.set (f.wr%f.cap).toNat w).getD ((f.rd+(i:Int))%f.cap).toNat 0=f.NJ.getD ((f.rd+(i:Int))%f.cap).toNat 0
   obtain⟨⟨n1,n2⟩,n3⟩:=Kh (x:=f.rd+i) RH (by omega) (by omega)
   have QI:(f.wr%f.cap).toNat≠((f.rd+(i:Int))%f.cap).toNat:=by omega
   rw[Od,NZ QI,← Od]
  ·show[(f.NJ.set (f.wr%f.cap).toNat w).getD ((f.rd+(((b8 f).toNat:Nat):Int))%f.cap).toNat 0]=_
   obtain⟨⟨n1,n2⟩,n3⟩:=Kh (x:=f.rd+((b8 f).toNat:Nat)) RH (by omega) (by omega)
   have UN:((f.rd+(((b8 f).toNat:Nat):Int))%f.cap).toNat=(f.wr%f.cap).toNat:=by omega
   have UK:(f.wr%f.cap).toNat<f.NJ.length:=by omega
   rw[Od,UN,N0 UK]
   rfl
theorem uR (h:gJ f):gJ (aH f false)∧qW (aH f false)=qW f:=by
 rw[C5]
 have h5:=h.ul
 have n3:=dR h.p2 h.p3
 have e0:=qg f.cap f.wr
 refine⟨⟨h.c1,h.c8,h.wl,h.p0,h.p1,h.p0,h.p2,h.p4,h.p5,h.lb,?_⟩,rfl⟩
 show cD f.cap f.wr f.wr+cD f.cap f.wr f.ws0≤cD f.cap f.wr f.rd
 unfold b8 Ea at h5
 omega
theorem zA (h:gJ f) (hh:eW f=true):gJ (aH f true)∧qW f=wQ f 0::qW (aH f true):=by
 have Ql:=Gu h hh
 have hln:=ri h
 have hh':=O4 hh
 rw[zy hh]
 have h4:=h.lb
 have h5:=h.ul
 have n2:=dR h.p0 h.p2
 have n3:=dR h.p2 h.p3
 have z3:=qh h.p2 h.p3
 have e0:=qg f.cap f.wr
 have d1:=Kg h.p0 h.p1
 have u1:=C4 h.p1 h.p4
 have i1:=Ic h.p0 h.p1 h.p2
 obtain⟨b1,b2⟩:=h.p1
 have Ut:b8 (⟨f.cap,f.NJ,f.wr,da f.cap f.rd,f.wr,f.ws0,f.rs0,f.rs1⟩:Qf)=b8 f-1:=d1 Ql
 refine⟨⟨h.c1,h.c8,h.wl,h.p0,Gs h.p1,h.p0,h.p2,h.p4,h.p5,?_,?_⟩,?_⟩
 ·rw[Ut]
  show b8 f-1+(cD f.cap (da f.cap f.rd) f.rs0+cD f.cap f.rs0 f.rs1)≤f.cap
  unfold uQ at h4
  omega
 ·rw[Ut]
  show cD f.cap f.wr f.wr+cD f.cap f.wr f.ws0≤b8 f-1
  unfold b8 Ea at *
  omega
 ·unfold qW
  rw[Ut,show(b8 f).toNat=(b8 f-1).toNat+1 by omega]
  unfold tab
  rw[List.range_succ_eq_map,OQ,List.map_map]
  congr 1
  refine Pz fun i hi=>?_
  have e:da f.cap f.rd=f.rd+1∨da f.cap f.rd=f.rd+1-2*f.cap:=by
   unfold da
   split<;>omega
  have e2:(f.rd+((i+1:Nat):Int))%f.cap=(da f.cap f.rd+(i:Int))%f.cap:=by
   rcases e with e | e
   ·rw[e];congr 1;omega
   ·rw[e,show f.rd+1-2*f.cap+(i:Int)=f.rd+((i+1:Nat):Int)-2*f.cap by omega,Int.sub_mul_emod_self_right]
  show f.NJ.getD ((f.rd+((i+1:Nat):Int))%f.cap).toNat 0=f.NJ.getD ((da f.cap f.rd+(i:Int))%f.cap).toNat 0
  rw[e2]
end
structure Wf where
 s:List Ps
 q:List Qf
 wait:List (List Int)
 seen:List (List Int)
 cnt:List Int
def bL (c:Ci) (w:Wf) (p j:Nat):Hd :=
 if (b9 c (cj (aJ c p) j)).frm<0 then (if 0<(w.wait.getD (cj (aJ c p) j) []).length then ⟨true,(w.wait.getD (cj (aJ c p) j) []).getD 0 0⟩else aj)
 else if eW (w.q.getD (cj (aJ c p) j) ay)=true∧0<(qW (w.q.getD (cj (aJ c p) j) ay)).length then ⟨true,(qW (w.q.getD (cj (aJ c p) j) ay)).getD 0 0⟩else aj
def fw (c:Ci) (w:Wf) (p j:Nat):Bool:=decide ((b9 c (ep (aJ c p) j)).dst<0)||bw (w.q.getD (ep (aJ c p) j) ay)
def fV (c:Ci) (w:Wf) (p:Nat):List Hd:=tab (bL c w p) (aJ c p).I.length
def iz (c:Ci) (w:Wf) (p:Nat):List Bool:=tab (fw c w p) (aJ c p).NG.length
def eX (c:Ci) (w:Wf) (p:Nat):Fi:=aR (aJ c p) (w.s.getD p cB) (fV c w p) (iz c w p)
def dT (c:Ci) (p:Nat) (f:Fi) (l:List (List Int)):Nat→List (List Int)
 | 0=>l
 | k+1=>if (b9 c (cj (aJ c p) k)).frm<0∧f.pops.getD k false=true∧0<((dT c p f l k).getD (cj (aJ c p) k) []).length then (dT c p f l k).set (cj (aJ c p) k) (((dT c p f l k).getD (cj (aJ c p) k) []).drop 1)else dT c p f l k
def qT (c:Ci) (p:Nat) (f:Fi) (l:List Qf):Nat→List Qf
 | 0=>l
 | k+1=>if (b9 c (cj (aJ c p) k)).frm<0 then qT c p f l k else (qT c p f l k).set (cj (aJ c p) k) (aH ((qT c p f l k).getD (cj (aJ c p) k) ay) (f.pops.getD k false))
def eD (c:Ci) (p:Nat) (f:Fi) (l:List (List Int)):Nat→List (List Int)
 | 0=>l
 | k+1=>if (f.NG.getD k aj).has=true then (eD c p f l k).set (ep (aJ c p) k) ((eD c p f l k).getD (ep (aJ c p) k) []++[(f.NG.getD k aj).v])else eD c p f l k
def qP (c:Ci) (p:Nat) (f:Fi) (l:List Qf):Nat→List Qf
 | 0=>l
 | k+1=>if (b9 c (ep (aJ c p) k)).dst<0 then qP c p f l k else (qP c p f l k).set (ep (aJ c p) k) (ae ((qP c p f l k).getD (ep (aJ c p) k) ay) (f.NG.getD k aj).has (f.NG.getD k aj).v)
def uS (w:Wf) (p:Nat) (f:Fi):List Int:=if f.fires=true then w.cnt.set p (w.cnt.getD p 0+1)else w.cnt
def bi (c:Ci) (w:Wf) (p:Nat) (f:Fi):Wf :=
 ⟨w.s.set p f.s,qP c p f (qT c p f w.q (aJ c p).I.length) (aJ c p).NG.length,dT c p f w.wait (aJ c p).I.length,eD c p f w.seen (aJ c p).NG.length,uS w p f⟩
section
variable {c:Ci} {w:Wf} {u:Uf} {p n k:Nat} {f:Fi}
theorem fW (l:List (List Int)):∀k,(dT c p f l k).length=l.length
 | 0=>rfl
 | k+1=>by rw[dT];split;rw[Ok];exact fW l k;exact fW l k
theorem cM (l:List Qf):∀k,(qT c p f l k).length=l.length
 | 0=>rfl
 | k+1=>by rw[qT];split;exact cM l k;rw[Ok];exact cM l k
theorem ib (l:List (List Int)):∀k,(eD c p f l k).length=l.length
 | 0=>rfl
 | k+1=>by rw[eD];split;rw[Ok];exact ib l k;exact ib l k
theorem kw (l:List Qf):∀k,(qP c p f l k).length=l.length
 | 0=>rfl
 | k+1=>by rw[qP];split;exact kw l k;rw[Ok];exact kw l k
theorem Ig (hc:bE c) (hp:p<c.U.length) (hk:k<(aJ c p).I.length):cj (aJ c p) k∉nZ (aJ c p) f k:=fun h=>by
 obtain⟨j,h1,_,h3⟩:=gU h
 have:=hc.td p hp j k (by omega) hk h3
 omega
theorem rm (hc:bE c) (hp:p<c.U.length) {l:List (List Int)} (hl:l.length=c.J.length):∀{k:Nat},k≤(aJ c p).I.length→∀n,(b9 c n).frm<0→(dT c p f l k).getD n []=(l.getD n []).drop (if n∈nZ (aJ c p) f k then 1 else 0)
 | 0,_,n,_=>by rw[dT,NQ (by simp[nZ])];rfl
 | k+1,hk,n,hn=>by
  have ih:=rm hc hp hl (k:=k) (by omega)
  have Ql:=wv hc hp (show k<(aJ c p).I.length by omega)
  have Qv:=Ig (f:=f) hc hp (show k<(aJ c p).I.length by omega)
  rw[dT,nZ]
  by_cases e:cj (aJ c p) k=n
  ·subst e
   have UR:=ih _ hn
   rw[NQ Qv,List.drop_zero]at UR
   by_cases QO:f.pops.getD k false=true
   ·rw[NT QO,NT (show cj (aJ c p) k∈nZ (aJ c p) f k++[cj (aJ c p) k] by simp)]
    split
    ·rw[be (by rw[fW,hl];exact Ql),NT rfl,UR]
    ·rename_i h0
     have:¬0<((dT c p f l k).getD (cj (aJ c p) k) []).length:=fun q=>h0 ⟨hn,QO,q⟩
     rw[UR]at this ⊢
     rw[Oj (by omega:(l.getD (cj (aJ c p) k) []).length=0)];rfl
   ·rw[NQ QO,Om,NQ Qv,NQ (fun q=>QO q.2.1),UR];rfl
  ·have hm:(n∈nZ (aJ c p) f k++(if f.pops.getD k false=true then [cj (aJ c p) k]else []))↔n∈nZ (aJ c p) f k:=by
    rw[OZ]
    constructor
    ·rintro(h | h)
     ·exact h
     ·split at h
      ·exact absurd (O7.1 h).symm e
      ·cases h
    ·exact .inl
   simp only[hm]
   rw[← ih n hn]
   split
   ·rw[be (by rw[fW,hl];exact Ql),NQ e]
   ·rfl
theorem l6 (hc:bE c) (hp:p<c.U.length) {l:List Qf} (hl:l.length=c.J.length):∀{k:Nat},k≤(aJ c p).I.length→∀n,(qT c p f l k).getD n ay=l.getD n ay∨∃j,j<k∧cj (aJ c p) j=n∧¬(b9 c n).frm<0∧(qT c p f l k).getD n ay=aH (l.getD n ay) (f.pops.getD j false)
 | 0,_,n=>.inl rfl
 | k+1,hk,n=>by
  have ih:=l6 hc hp hl (k:=k) (by omega) n
  have Ql:=wv hc hp (show k<(aJ c p).I.length by omega)
  have step:∀x:Qf,(qT c p f l k).getD n ay=x→cj (aJ c p) k≠n∨(b9 c (cj (aJ c p) k)).frm<0→(qT c p f l (k+1)).getD n ay=x:=fun x hx h=>by
   rw[qT]
   split
   ·exact hx
   ·rename_i h0
    rw[be (by rw[cM,hl];exact Ql),NQ (h.resolve_right h0)];exact hx
  by_cases e:cj (aJ c p) k=n
  ·have RP:(qT c p f l k).getD n ay=l.getD n ay:=by
    rcases ih with h | ⟨j,h1,h2,_,_⟩
    ·exact h
    ·have:=hc.td p hp j k (by omega) (by omega) (h2.trans e.symm)
     omega
   by_cases h0:(b9 c (cj (aJ c p) k)).frm<0
   ·exact .inl (step _ RP (.inr h0))
   ·refine .inr ⟨k,by omega,e,by rw[← e];exact h0,?_⟩
    rw[qT,NQ h0,be (by rw[cM,hl];exact Ql),NT e,e,RP]
  ·rcases ih with h | ⟨j,h1,h2,h3,h4⟩
   ·exact .inl (step _ h (.inl e))
   ·exact .inr ⟨j,by omega,h2,h3,step _ h4 (.inl e)⟩
theorem Gv (hc:bE c) (hp:p<c.U.length) {l:List Qf} (hl:l.length=c.J.length) {j:Nat} (hj:j<(aJ c p).I.length) (h0:¬(b9 c (cj (aJ c p) j)).frm<0):∀{k:Nat},j<k→k≤(aJ c p).I.length→(qT c p f l k).getD (cj (aJ c p) j) ay=aH (l.getD (cj (aJ c p) j) ay) (f.pops.getD j false)
 | 0,h,_=>absurd h (Po _)
 | k+1,h,hk=>by
  have Ql:=wv hc hp (show k<(aJ c p).I.length by omega)
  by_cases e:j=k
  ·subst e
   have RP:(qT c p f l j).getD (cj (aJ c p) j) ay=l.getD (cj (aJ c p) j) ay:=by
    rcases l6 hc hp hl (f:=f) (k:=j) (by omega) (cj (aJ c p) j)with h | ⟨i,h1,h2,_,_⟩
    ·exact h
    ·have:=hc.td p hp i j (by omega) hj h2
     omega
   rw[qT,NQ h0,be (by rw[cM,hl];exact Ql),NT rfl,RP]
  ·have QI:cj (aJ c p) k≠cj (aJ c p) j:=fun q=>e (hc.td p hp j k hj (by omega) q.symm)
   rw[qT]
   split
   ·exact Gv hc hp hl hj h0 (by omega) (by omega)
   ·rw[be (by rw[cM,hl];exact Ql),NQ QI]
    exact Gv hc hp hl hj h0 (by omega) (by omega)
theorem wE (hc:bE c) (hp:p<c.U.length) {l:List (List Int)} (hl:l.length=c.J.length):∀{k:Nat},k≤(aJ c p).NG.length→∀n,(eD c p f l k).getD n []=l.getD n []++((pW (aJ c p) f k).filter (fun e=>e.1==n)).map (·.2)
 | 0,_,n=>by simp[eD,pW]
 | k+1,hk,n=>by
  have ih:=wE hc hp hl (k:=k) (by omega)
  have Ql:=y8 hc hp (show k<(aJ c p).NG.length by omega)
  rw[eD,pW]
  by_cases hh:(f.NG.getD k aj).has=true
  ·rw[NT hh,NT hh,be (by rw[ib,hl];exact Ql),PC,Ox,← OE,← ih n]
   by_cases e:ep (aJ c p) k=n
   ·rw[NT e,e];simp
   ·rw[NQ e,PR (by simpa using e)];simp
  ·rw[NQ hh,NQ hh,Om];exact ih n
theorem oS (hc:bE c) (hp:p<c.U.length) {l:List Qf} (hl:l.length=c.J.length):∀{k:Nat},k≤(aJ c p).NG.length→∀n,(qP c p f l k).getD n ay=l.getD n ay∨∃j,j<k∧ep (aJ c p) j=n∧¬(b9 c n).dst<0∧(qP c p f l k).getD n ay=ae (l.getD n ay) (f.NG.getD j aj).has (f.NG.getD j aj).v
 | 0,_,n=>.inl rfl
 | k+1,hk,n=>by
  have ih:=oS hc hp hl (k:=k) (by omega) n
  have Ql:=y8 hc hp (show k<(aJ c p).NG.length by omega)
  have step:∀x:Qf,(qP c p f l k).getD n ay=x→ep (aJ c p) k≠n∨(b9 c (ep (aJ c p) k)).dst<0→(qP c p f l (k+1)).getD n ay=x:=fun x hx h=>by
   rw[qP]
   split
   ·exact hx
   ·rename_i h0
    rw[be (by rw[kw,hl];exact Ql),NQ (h.resolve_right h0)];exact hx
  by_cases e:ep (aJ c p) k=n
  ·have RP:(qP c p f l k).getD n ay=l.getD n ay:=by
    rcases ih with h | ⟨j,h1,h2,_,_⟩
    ·exact h
    ·have:=hc.pd p hp j k (by omega) (by omega) (h2.trans e.symm)
     omega
   by_cases h0:(b9 c (ep (aJ c p) k)).dst<0
   ·exact .inl (step _ RP (.inr h0))
   ·refine .inr ⟨k,by omega,e,by rw[← e];exact h0,?_⟩
    rw[qP,NQ h0,be (by rw[kw,hl];exact Ql),NT e,e,RP]
  ·rcases ih with h | ⟨j,h1,h2,h3,h4⟩
   ·exact .inl (step _ h (.inl e))
   ·exact .inr ⟨j,by omega,h2,h3,step _ h4 (.inl e)⟩
theorem Gw (hc:bE c) (hp:p<c.U.length) {l:List Qf} (hl:l.length=c.J.length) {j:Nat} (hj:j<(aJ c p).NG.length) (h0:¬(b9 c (ep (aJ c p) j)).dst<0):∀{k:Nat},j<k→k≤(aJ c p).NG.length→(qP c p f l k).getD (ep (aJ c p) j) ay=ae (l.getD (ep (aJ c p) j) ay) (f.NG.getD j aj).has (f.NG.getD j aj).v
 | 0,h,_=>absurd h (Po _)
 | k+1,h,hk=>by
  have Ql:=y8 hc hp (show k<(aJ c p).NG.length by omega)
  by_cases e:j=k
  ·subst e
   have RP:(qP c p f l j).getD (ep (aJ c p) j) ay=l.getD (ep (aJ c p) j) ay:=by
    rcases oS hc hp hl (f:=f) (k:=j) (by omega) (ep (aJ c p) j)with h | ⟨i,h1,h2,_,_⟩
    ·exact h
    ·have:=hc.pd p hp i j (by omega) hj h2
     omega
   rw[qP,NQ h0,be (by rw[kw,hl];exact Ql),NT rfl,RP]
  ·have QI:ep (aJ c p) k≠ep (aJ c p) j:=fun q=>e (hc.pd p hp j k hj (by omega) q.symm)
   rw[qP]
   split
   ·exact Gw hc hp hl hj h0 (by omega) (by omega)
   ·rw[be (by rw[kw,hl];exact Ql),NQ QI]
    exact Gw hc hp hl hj h0 (by omega) (by omega)
end
section
variable {c:Ci} {w:Wf} {u:Uf} {p n k:Nat} {f:Fi}
theorem Gx (hc:bE c) (hp:p<c.U.length) {l:List Qf} (hl:l.length=c.J.length) (hk:k<(aJ c p).I.length):(qT c p f l k).getD (cj (aJ c p) k) ay=l.getD (cj (aJ c p) k) ay:=by
 rcases l6 hc hp hl (f:=f) (k:=k) (by omega) (cj (aJ c p) k)with h | ⟨i,h1,h2,_,_⟩
 ·exact h
 ·have:=hc.td p hp i k (by omega) hk h2
  omega
theorem l7 (hc:bE c) (hp:p<c.U.length) {l:List Qf} (hl:l.length=c.J.length) (hk:k<(aJ c p).NG.length):(qP c p f l k).getD (ep (aJ c p) k) ay=l.getD (ep (aJ c p) k) ay:=by
 rcases oS hc hp hl (f:=f) (k:=k) (by omega) (ep (aJ c p) k)with h | ⟨i,h1,h2,_,_⟩
 ·exact h
 ·have:=hc.pd p hp i k (by omega) hk h2
  omega
theorem uT {p:Pr} {f:Fi} {n:Nat}:∀{k:Nat},(∀j,j<k→ep p j≠n)→(pW p f k).filter (fun e=>e.1==n)=[]
 | 0,_=>by simp[pW]
 | k+1,h=>by
  rw[pW,PC,uT (fun j hj=>h j (by omega))]
  split
  ·have:=h k (by omega)
   rw[PR (by simpa using this)];rfl
  ·rfl
theorem Gy (hc:bE c) (hp:p<c.U.length) {j:Nat} (hj:j<(aJ c p).NG.length):∀{k:Nat},j<k→k≤(aJ c p).NG.length→((pW (aJ c p) f k).filter (fun e=>e.1==ep (aJ c p) j)).map (·.2)=if (f.NG.getD j aj).has=true then [(f.NG.getD j aj).v]else []
 | 0,h,_=>absurd h (Po _)
 | k+1,h,hk=>by
  rw[pW,PC,Ox]
  by_cases e:j=k
  ·subst e
   rw[uT (fun i hi q=>by have:=hc.pd p hp i j (by omega) hj q;omega)]
   split
   ·simp
   ·rfl
  ·rw[Gy hc hp hj (k:=k) (by omega) (by omega)]
   have QI:ep (aJ c p) k≠ep (aJ c p) j:=fun q=>e (hc.pd p hp j k hj (by omega) q.symm)
   have e2:(if (f.NG.getD k aj).has=true then [(ep (aJ c p) k,(f.NG.getD k aj).v)]else []).filter (fun e=>e.1==ep (aJ c p) j)=[]:=by
    split
    ·rw[PR (by show ¬((ep (aJ c p) k==ep (aJ c p) j)=true);rw[P5];exact QI)];rfl
    ·rfl
   rw[e2,OG,Om]
theorem Ki (hc:bE c) (hp:p<c.U.length) {j:Nat} (hj:j<(aJ c p).I.length):cj (aJ c p) j∈nZ (aJ c p) f (aJ c p).I.length↔f.pops.getD j false=true:=by
 constructor
 ·intro h
  obtain⟨i,h1,h2,h3⟩:=gU h
  have:=hc.td p hp i j h1 hj h3
  rw[← this];exact h2
 ·intro h
  exact FT h hj
theorem wF (x:Qf) (b:Bool):bw (aH x b)=bw x:=by
 unfold aH
 split<;>rfl
theorem qi {x:Qf} (h:gJ x) {b:Bool} (hb:b=true→eW x=true):gJ (aH x b)∧qW (aH x b)=(qW x).drop (if b=true then 1 else 0):=by
 cases b with
 | false=>exact⟨(uR h).1,by rw[(uR h).2];rfl⟩
 | true=>exact⟨(zA h (hb rfl)).1,by rw[(zA h (hb rfl)).2];rfl⟩
theorem eE {x:Qf} (h:gJ x) {b:Bool} (v:Int) (hb:b=true→bw x=true):gJ (ae x b v)∧qW (ae x b v)=qW x++(if b=true then [v]else []):=by
 cases b with
 | false=>exact⟨(wD h v).1,by rw[(wD h v).2];simp⟩
 | true=>exact⟨(rk h v (hb rfl)).1,by rw[(rk h v (hb rfl)).2];rfl⟩
structure WU (c:Ci) (w:Wf) (u:Uf):Prop where
 sl:w.s.length=c.U.length
 ql:w.q.length=c.J.length
 wl:w.wait.length=c.J.length
 el:w.seen.length=c.J.length
 cl:w.cnt.length=c.U.length
 s:∀p,p<c.U.length→w.s.getD p cB=u.s p
 cn:∀p,p<c.U.length→w.cnt.getD p 0=(u.cnt p:Int)
 se:∀n,n<c.J.length→w.seen.getD n []=u.l n
 wa:∀n,n<c.J.length→(b9 c n).frm<0→w.wait.getD n []=(u.l n).drop (u.rd n)
 q:∀n,n<c.J.length→gJ (w.q.getD n ay)
 qw:∀n,n<c.J.length→¬(b9 c n).frm<0→¬(b9 c n).dst<0→qW (w.q.getD n ay)=(u.l n).drop (u.rd n)
 le:∀n,n<c.J.length→u.rd n≤(u.l n).length
structure Gz (c:Ci) (w:Wf) (p:Nat) (f:Fi):Prop where
 ps:pP (aJ c p) f.s
 pl:f.pops.length=(aJ c p).I.length
 ul:f.NG.length=(aJ c p).NG.length
 tq:∀j,j<(aJ c p).I.length→gJ (w.q.getD (cj (aJ c p) j) ay)∧(¬(b9 c (cj (aJ c p) j)).frm<0→f.pops.getD j false=true→eW (w.q.getD (cj (aJ c p) j) ay)=true)
 pq:∀j,j<(aJ c p).NG.length→gJ ((qT c p f w.q (aJ c p).I.length).getD (ep (aJ c p) j) ay)∧(¬(b9 c (ep (aJ c p) j)).dst<0→(f.NG.getD j aj).has=true→bw ((qT c p f w.q (aJ c p).I.length).getD (ep (aJ c p) j) ay)=true)
 pv:∀j,j<(aJ c p).NG.length→(f.NG.getD j aj).has=true→dk (f.NG.getD j aj).v (b9 c (ep (aJ c p) j)).w
theorem C6 (hc:bE c) (hW:WU c w u) (hp:p<c.U.length) {j:Nat} (hj:j<(aJ c p).I.length) (hh:(bL c w p j).has=true):HV c u p j=bL c w p j:=by
 have hn:=wv hc hp hj
 have hd:(b9 c (cj (aJ c p) j)).dst=p:=(hc.tk p hp j hj).2.2.2
 have UW:=hW.le _ hn
 unfold bL at hh ⊢
 unfold HV
 by_cases hf:(b9 c (cj (aJ c p) j)).frm<0
 ·rw[NT hf,hW.wa _ hn hf,N9]at hh
  rw[NT hf,hW.wa _ hn hf,N9]
  split at hh
  ·rename_i h0
   rw[NT h0,NT (by omega),wq];rfl
  ·cases hh
 ·have e:=hW.qw _ hn hf (by omega)
  rw[NQ hf,e,N9]at hh
  rw[NQ hf,e,N9]
  split at hh
  ·rename_i h0
   rw[NT h0,NT (by have:=h0.2;omega),wq];rfl
  ·cases hh
theorem x4 (hc:bE c) (hW:WU c w u) (hU:CQ c u) (hp:p<c.U.length):AU (aJ c p) (fV c w p) where
 l:=by rw[fV,ax]
 v:=fun i hi hh=>by
  rw[fV,aI hi]at hh ⊢
  have e:=C6 hc hW hp hi hh
  have:=(p9 hc hU hp).v i hi
  rw[ur,aI hi,e]at this
  exact this hh
theorem Kj (hc:bE c) (hW:WU c w u) (hp:p<c.U.length) (hf:(eX c w p).fires=true):ft c u p=eX c w p:=by
 unfold eX at hf ⊢
 rw[dQ]at hf
 unfold ft
 rw[← hW.s p hp]
 refine wo (hc.pr p hp) hf (fun j hj hh=>?_) (fun j hj _=>?_)
 ·rw[fV,aI hj]at hh ⊢
  rw[ur,aI hj]
  exact C6 hc hW hp hj hh
 ·unfold JO
  rw[cO _ _ (by rw[NR];exact hj),PU]
theorem x5 (h:¬(eX c w p).fires=true):(eX c w p).s=w.s.getD p cB∧(∀j,(eX c w p).pops.getD j false=false)∧∀j,((eX c w p).NG.getD j aj).has=false:=by
 unfold eX at h ⊢
 rw[dQ,P2]at h
 rw[Cz h]
 refine⟨rfl,fun j=>?_,fun j=>?_⟩
 ·rw[Od,OW];split<;>rfl
 ·rw[Od,OW];split<;>rfl
theorem C7 (hc:bE c) (hW:WU c w u) (hU:CQ c u) (hp:p<c.U.length):Gz c w p (eX c w p) where
 ps:=nX (hc.pr p hp) (by rw[hW.s p hp];exact hU.ps p hp) (x4 hc hW hU hp)
 pl:=nU _ _ _ _
 ul:=nW _ _ _ _
 tq:=fun j hj=>⟨hW.q _ (wv hc hp hj),fun h0 QO=>by
  by_cases hf:(eX c w p).fires=true
  ·have TL:=hf
   unfold eX at TL QO
   rw[dQ]at TL
   have hh:=sT TL hj QO
   rw[fV,aI hj]at hh
   unfold bL at hh
   rw[NQ h0]at hh
   split at hh
   ·rename_i h1;exact h1.1
   ·cases hh
  ·rw[(x5 hf).2.1 j]at QO;cases QO⟩
 pq:=fun j hj=>by
  have hq:=hW.q _ (y8 hc hp hj)
  have key:∀y:Qf,y=(qT c p (eX c w p) w.q (aJ c p).I.length).getD (ep (aJ c p) j) ay→gJ y∧bw y=bw (w.q.getD (ep (aJ c p) j) ay):=by
   intro y hy
   rcases l6 hc hp hW.ql (f:=eX c w p) (NN (aJ c p).I.length) (ep (aJ c p) j)with h | ⟨i,h1,h2,h3,h4⟩
   ·rw[hy,h];exact⟨hq,rfl⟩
   ·rw[hy,h4]
    refine⟨(qi hq (fun QO=>?_)).1,wF _ _⟩
    by_cases hf:(eX c w p).fires=true
    ·have TL:=hf
     unfold eX at TL QO
     rw[dQ]at TL
     have hh:=sT TL h1 QO
     rw[fV,aI h1]at hh
     unfold bL at hh
     rw[NQ (by rw[h2];exact h3),h2]at hh
     split at hh
     ·rename_i h1;exact h1.1
     ·cases hh
    ·rw[(x5 hf).2.1 i]at QO;cases QO
  obtain⟨k1,k2⟩:=key _ rfl
  refine⟨k1,fun h0 Q2=>?_⟩
  rw[k2]
  by_cases hf:(eX c w p).fires=true
  ·have TL:=hf
   unfold eX at TL Q2
   rw[dQ]at TL
   have hh:=FU TL hj Q2
   rw[iz,aI hj]at hh
   unfold fw at hh
   rw[N5 h0,Bool.false_or]at hh
   exact hh
  ·rw[(x5 hf).2.2 j]at Q2;cases Q2
 pv:=fun j hj Q2=>by
  have:=pQ (rs:=iz c w p) (hc.pr p hp) (by rw[hW.s p hp];exact hU.ps p hp) (x4 hc hW hU hp) hj Q2
  rw[← (hc.pt p hp j hj).2.2.1]at this
  exact this
theorem zB (hc:bE c) (hW:WU c w u) (hp:p<c.U.length) (hM:Gz c w p f) (hn:n<c.J.length) :
  (bi c w p f).seen.getD n []=u.l n++eV c p f n∧((b9 c n).frm<0→(bi c w p f).wait.getD n []=(u.l n).drop (u.rd n+fS c p f n))∧gJ ((bi c w p f).q.getD n ay) ∧
   (¬(b9 c n).frm<0→¬(b9 c n).dst<0→qW ((bi c w p f).q.getD n ay)=((u.l n).drop (u.rd n)).drop (fS c p f n)++eV c p f n):=by
 have hq:=hW.q n hn
 refine⟨?_,fun hf=>?_,?_⟩
 ·show(eD c p f w.seen _).getD n []=_
  rw[wE hc hp hW.el (NN _),hW.se n hn];rfl
 ·show(dT c p f w.wait _).getD n []=_
  rw[rm hc hp hW.wl (NN _) n hf,hW.wa n hn hf,List.drop_drop];rfl
 ·have ht:gJ ((qT c p f w.q (aJ c p).I.length).getD n ay)∧(¬(b9 c n).frm<0→qW ((qT c p f w.q (aJ c p).I.length).getD n ay)=(qW (w.q.getD n ay)).drop (fS c p f n)):=by
   by_cases Ul:∃j,j<(aJ c p).I.length∧cj (aJ c p) j=n
   ·obtain⟨j,hj,rfl⟩:=Ul
    by_cases hf:(b9 c (cj (aJ c p) j)).frm<0
    ·refine⟨?_,fun q=>absurd hf q⟩
     rcases l6 hc hp hW.ql (f:=f) (NN (aJ c p).I.length) (cj (aJ c p) j)with h | ⟨i,h1,h2,h3,h4⟩
     ·rw[h];exact hq
     ·exact absurd hf h3
    ·have e:=Gv hc hp hW.ql (f:=f) hj hf hj (NN _)
     have hr:=qi hq (b:=f.pops.getD j false) (fun QO=>(hM.tq j hj).2 hf QO)
     rw[e]
     refine⟨hr.1,fun _=>?_⟩
     rw[hr.2]
     unfold fS
     simp only[Ki hc hp hj]
   ·have e:(qT c p f w.q (aJ c p).I.length).getD n ay=w.q.getD n ay:=by
     rcases l6 hc hp hW.ql (f:=f) (NN (aJ c p).I.length) n with h | ⟨i,h1,h2,h3,h4⟩
     ·exact h
     ·exact absurd ⟨i,h1,h2⟩ Ul
    rw[e]
    refine⟨hq,fun _=>?_⟩
    unfold fS
    rw[NQ (fun h=>by obtain⟨j,h1,_,h3⟩:=gU h;exact Ul ⟨j,h1,h3⟩)];rfl
  have R8:(qT c p f w.q (aJ c p).I.length).length=c.J.length:=by rw[cM];exact hW.ql
  by_cases Ul:∃j,j<(aJ c p).NG.length∧ep (aJ c p) j=n
  ·obtain⟨j,hj,rfl⟩:=Ul
   by_cases hd:(b9 c (ep (aJ c p) j)).dst<0
   ·refine⟨?_,fun _ q=>absurd hd q⟩
    show gJ ((qP c p f _ _).getD _ ay)
    rcases oS hc hp R8 (f:=f) (NN (aJ c p).NG.length) (ep (aJ c p) j)with h | ⟨i,h1,h2,h3,h4⟩
    ·rw[h];exact ht.1
    ·exact absurd hd h3
   ·have e:=Gw hc hp R8 (f:=f) hj hd hj (NN _)
    have hr:=eE ht.1 (b:=(f.NG.getD j aj).has) (f.NG.getD j aj).v (fun Q2=>(hM.pq j hj).2 hd Q2)
    show gJ ((qP c p f _ _).getD _ ay)∧(_→_→qW ((qP c p f _ _).getD _ ay)=_)
    rw[e]
    refine⟨hr.1,fun h1 h2=>?_⟩
    rw[hr.2,ht.2 h1,hW.qw _ hn h1 h2]
    congr 1
    exact(Gy hc hp hj hj (NN _)).symm
  ·have e:(qP c p f (qT c p f w.q (aJ c p).I.length) (aJ c p).NG.length).getD n ay=(qT c p f w.q (aJ c p).I.length).getD n ay:=by
    rcases oS hc hp R8 (f:=f) (NN (aJ c p).NG.length) n with h | ⟨i,h1,h2,h3,h4⟩
    ·exact h
    ·exact absurd ⟨i,h1,h2⟩ Ul
   show gJ ((qP c p f _ _).getD _ ay)∧(_→_→qW ((qP c p f _ _).getD _ ay)=_)
   rw[e]
   refine⟨ht.1,fun h1 h2=>?_⟩
   rw[ht.2 h1,hW.qw _ hn h1 h2]
   unfold eV
   rw[uT (fun j hj q=>Ul ⟨j,hj,q⟩)];simp
end
section
variable {c:Ci} {w:Wf} {u:Uf} {p q n k:Nat} {f:Fi}
theorem GA (hc:bE c) (hU:CQ c u) (hp:p<c.U.length) (QH:gG c u p=true) (hn:n<c.J.length):u.rd n+fS c p (ft c u p) n≤(u.l n).length:=by
 have h0:=hU.rd n hn
 unfold fS
 split
 ·rename_i hm
  obtain⟨j,j1,j2,j3⟩:=gU hm
  unfold gG ft at QH
  rw[dQ]at QH
  have:=sT QH j1 j2
  rw[ur,aI j1]at this
  unfold HV at this
  split at this
  ·rename_i Ql;rw[j3]at Ql;omega
  ·cases this
 ·omega
theorem wG (h:WU c w u):(bi c w p f).s.length=c.U.length∧(bi c w p f).q.length=c.J.length∧(bi c w p f).wait.length=c.J.length∧(bi c w p f).seen.length=c.J.length∧(bi c w p f).cnt.length=c.U.length:=by
 refine⟨?_,?_,?_,?_,?_⟩
 ·show(w.s.set _ _).length=_;rw[Ok];exact h.sl
 ·show(qP _ _ _ _ _).length=_;rw[kw,cM];exact h.ql
 ·show(dT _ _ _ _ _).length=_;rw[fW];exact h.wl
 ·show(eD _ _ _ _ _).length=_;rw[ib];exact h.el
 ·show(uS _ _ _).length=_
  unfold uS
  split
  ·rw[Ok];exact h.cl
  ·exact h.cl
theorem GB (hc:bE c) (hW:WU c w u) (hU:CQ c u) (hp:p<c.U.length) (hf:(eX c w p).fires=true):gG c u p=true∧WU c (bi c w p (eX c w p)) (au c u p):=by
 have e:=Kj hc hW hp hf
 have QH:gG c u p=true:=by unfold gG;rw[e];exact hf
 have hM:=C7 hc hW hU hp
 have hg:=fun n hn=>zB (n:=n) hc hW hp hM hn
 obtain⟨l1,l2,l3,l4,l5⟩:=wG (p:=p) (f:=eX c w p) hW
 refine⟨QH,⟨l1,l2,l3,l4,l5,fun q hq=>?_,fun q hq=>?_,fun n hn=>?_,fun n hn hf0=>?_,fun n hn=>(hg n hn).2.2.1,fun n hn h1 h2=>?_,fun n hn=>?_⟩⟩
 ·show(w.s.set p _).getD q cB=if q=p then _ else u.s q
  rw[be (by rw[hW.sl];exact hp)]
  by_cases e2:q=p
  ·rw[NT e2.symm,NT e2,e]
  ·rw[NQ (PN e2),NQ e2];exact hW.s q hq
 ·show(uS w p _).getD q 0=((if q=p then u.cnt q+1 else u.cnt q:Nat):Int)
  unfold uS
  rw[NT hf,be (by rw[hW.cl];exact hp)]
  by_cases e2:q=p
  ·rw[NT e2.symm,NT e2,hW.cn p hp,e2];omega
  ·rw[NQ (PN e2),NQ e2];exact hW.cn q hq
 ·rw[(hg n hn).1,← e];rfl
 ·rw[(hg n hn).2.1 hf0,← e]
  show _=(u.l n++eV c p (ft c u p) n).drop (u.rd n+fS c p (ft c u p) n)
  have:eV c p (ft c u p) n=[]:=Classical.byContradiction fun h=>by
   have:=ut hc hp h;omega
  rw[this,Om]
 ·rw[(hg n hn).2.2.2 h1 h2,← e]
  show _=(u.l n++eV c p (ft c u p) n).drop (u.rd n+fS c p (ft c u p) n)
  rw[List.drop_drop,List.drop_append_of_le_length (GA hc hU hp QH hn)]
 ·show u.rd n+fS c p (ft c u p) n≤(u.l n++eV c p (ft c u p) n).length
  have:=GA hc hU hp QH hn
  rw[NY];omega
theorem Ih (hc:bE c) (hW:WU c w u) (hU:CQ c u) (hp:p<c.U.length) (hf:¬(eX c w p).fires=true):WU c (bi c w p (eX c w p)) u:=by
 have hM:=C7 hc hW hU hp
 obtain⟨e1,e2,e3⟩:=x5 hf
 have ht:∀n,fS c p (eX c w p) n=0:=fun n=>by
  unfold fS
  rw[NQ]
  intro h
  obtain⟨j,_,j2,_⟩:=gU h
  rw[e2 j]at j2;cases j2
 have hu:∀n,eV c p (eX c w p) n=[]:=fun n=>by
  unfold eV
  rw[List.map_eq_nil_iff,List.filter_eq_nil_iff]
  intro x hx
  obtain⟨j,_,j2,_⟩:=pX hx
  rw[e3 j]at j2;cases j2
 have hg:=fun n hn=>zB (n:=n) hc hW hp hM hn
 obtain⟨l1,l2,l3,l4,l5⟩:=wG (p:=p) (f:=eX c w p) hW
 refine⟨l1,l2,l3,l4,l5,fun q hq=>?_,fun q hq=>?_,fun n hn=>?_,fun n hn hf0=>?_,fun n hn=>(hg n hn).2.2.1,fun n hn h1 h2=>?_,hW.le⟩
 ·show(w.s.set p _).getD q cB=u.s q
  rw[be (by rw[hW.sl];exact hp)]
  by_cases e4:p=q
  ·rw[NT e4,e1,e4];exact hW.s q hq
  ·rw[NQ e4];exact hW.s q hq
 ·show(uS w p _).getD q 0=_
  unfold uS
  rw[NQ hf];exact hW.cn q hq
 ·rw[(hg n hn).1,hu,Om]
 ·rw[(hg n hn).2.1 hf0,ht];rfl
 ·rw[(hg n hn).2.2.2 h1 h2,ht,hu,Om];rfl
theorem Eb (x:Qf) (b:Bool) (v:Int):eW (ae x b v)=eW x:=by
 unfold ae
 split<;>rfl
theorem Ii (hc:bE c) (hW:WU c w u) (hU:CQ c u) (hp:p<c.U.length) (hq:q<c.U.length) (QI:q≠p):eX c (bi c w p (eX c w p)) q=eX c w q:=by
 have hM:=C7 hc hW hU hp
 have R8:(qT c p (eX c w p) w.q (aJ c p).I.length).length=c.J.length:=by rw[cM];exact hW.ql
 have es:(bi c w p (eX c w p)).s.getD q cB=w.s.getD q cB:=by
  show(w.s.set p _).getD q cB=_
  rw[be (by rw[hW.sl];exact hp),NQ (PN QI)]
 have eh:fV c (bi c w p (eX c w p)) q=fV c w q:=by
  unfold fV
  refine mG fun j hj=>?_
  have hd:(b9 c (cj (aJ c q) j)).dst=q:=(hc.tk q hq j hj).2.2.2
  have hn:=wv hc hq hj
  generalize Wz:cj (aJ c q) j=n at *
  unfold bL
  rw[Wz]
  by_cases hf:(b9 c n).frm<0
  ·rw[NT hf,NT hf]
   have e:(bi c w p (eX c w p)).wait.getD n []=w.wait.getD n []:=by
    show(dT c p _ w.wait _).getD n []=_
    rw[rm hc hp hW.wl (NN _) n hf,NQ]
    ·rfl
    ·intro h
     have:=(CF hc hp (NN _) h).2
     omega
   rw[e]
  ·rw[NQ hf,NQ hf]
   have e1:(qT c p (eX c w p) w.q (aJ c p).I.length).getD n ay=w.q.getD n ay:=by
    rcases l6 hc hp hW.ql (f:=eX c w p) (NN (aJ c p).I.length) n with h | ⟨i,h1,h2,h3,h4⟩
    ·exact h
    ·have:=(hc.tk p hp i h1).2.2.2
     rw[h2]at this
     omega
   have hx:=hW.q n hn
   rcases oS hc hp R8 (f:=eX c w p) (NN (aJ c p).NG.length) n with h | ⟨i,h1,h2,h3,h4⟩
   ·have e:(bi c w p (eX c w p)).q.getD n ay=w.q.getD n ay:=h.trans e1
    rw[e]
   ·have e:(bi c w p (eX c w p)).q.getD n ay=ae (w.q.getD n ay) ((eX c w p).NG.getD i aj).has ((eX c w p).NG.getD i aj).v:=by rw[← e1];exact h4
    have hr:=(hM.pq i h1).2
    rw[h2,e1]at hr
    rw[e,Eb,(eE hx _ (hr h3)).2]
    by_cases hh:eW (w.q.getD n ay)=true
    ·have Ql:=Gu hx hh
     have hlq:=Gt hx
     have SZ:0<(qW (w.q.getD n ay)).length:=by omega
     have hh2:eW (w.q.getD n ay)=true∧0<(qW (w.q.getD n ay)++(if ((eX c w p).NG.getD i aj).has=true then [((eX c w p).NG.getD i aj).v]else [])).length:=⟨hh,by rw[NY];omega⟩
     have hh3:eW (w.q.getD n ay)=true∧0<(qW (w.q.getD n ay)).length:=⟨hh,SZ⟩
     rw[NT hh2,NT hh3,lM,NT SZ]
    ·rw[NQ (fun z=>hh z.1),NQ (fun z=>hh z.1)]
 have er:iz c (bi c w p (eX c w p)) q=iz c w q:=by
  unfold iz
  refine mG fun j hj=>?_
  have hd:(b9 c (ep (aJ c q) j)).frm=q:=(hc.pt q hq j hj).2.2.2
  have hn:=y8 hc hq hj
  generalize Wz:ep (aJ c q) j=n at *
  unfold fw
  rw[Wz]
  congr 1
  have e1:(bi c w p (eX c w p)).q.getD n ay=(qT c p (eX c w p) w.q (aJ c p).I.length).getD n ay:=by
   show(qP c p _ _ _).getD n ay=_
   rcases oS hc hp R8 (f:=eX c w p) (NN (aJ c p).NG.length) n with h | ⟨i,h1,h2,h3,h4⟩
   ·exact h
   ·have:=(hc.pt p hp i h1).2.2.2
    rw[h2]at this
    omega
  rw[e1]
  rcases l6 hc hp hW.ql (f:=eX c w p) (NN (aJ c p).I.length) n with h | ⟨i,h1,h2,h3,h4⟩
  ·rw[h]
  ·rw[h4,wF]
 show aR (aJ c q) ((bi c w p (eX c w p)).s.getD q cB) (fV c (bi c w p (eX c w p)) q) (iz c (bi c w p (eX c w p)) q)=aR (aJ c q) (w.s.getD q cB) (fV c w q) (iz c w q)
 rw[es,eh,er]
structure Fr where
 p:Int
 f:Fi
def kM:Fr:=⟨0,⟨false,cB,[],[]⟩⟩
def Kk (c:Ci) (cl:ByteArray) (p:Nat):Bool:=(aJ c p).clock.toList==cl.toList
def cN (c:Ci) (w:Wf) (cl:ByteArray):Nat→List Fr
 | 0=>[]
 | k+1=>cN c w cl k++(if Kk c cl k=true then [⟨(k:Int),eX c w k⟩]else [])
theorem uU {cl:ByteArray} {z:Fr}:∀{k:Nat},z∈cN c w cl k→∃p,p<k∧z=⟨(p:Int),eX c w p⟩
 | 0,h=>by cases h
 | k+1,h=>by
  rw[cN,OZ]at h
  rcases h with h | h
  ·obtain⟨p,h1,h2⟩:=uU h;exact⟨p,by omega,h2⟩
  ·split at h
   ·exact⟨k,by omega,O7.1 h⟩
   ·cases h
theorem qj {cl:ByteArray}:∀{k:Nat},(cN c w cl k).length≤k
 | 0=>NN _
 | k+1=>by
  have:=qj (cl:=cl) (k:=k)
  rw[cN,NY]
  split<;>simp<;>omega
theorem zC {cl:ByteArray}:∀{k:Nat} {i j:Nat},i<j→j<(cN c w cl k).length→((cN c w cl k).getD i kM).p<((cN c w cl k).getD j kM).p
 | 0,i,j,_,h=>absurd h (Po _)
 | k+1,i,j,VD,hj=>by
  rw[cN]at hj ⊢
  rw[lM,lM]
  by_cases h1:j<(cN c w cl k).length
  ·rw[NT (by omega),NT h1];exact zC VD h1
  ·rw[NY]at hj
   split at hj
   ·rename_i hb
    simp only[Ow,Ot]at hj
    rw[NT (by omega),NQ h1,NT hb,show j-(cN c w cl k).length=0 by omega]
    obtain⟨p,h2,h3⟩:=uU (mN (d:=kM) (show i<(cN c w cl k).length by omega))
    rw[h3]
    show(p:Int)<(k:Int)
    omega
   ·simp only[Ot]at hj;omega
structure Bm (c:Ci) (w0:Wf) (u:Uf) (l:List Fr) (k:Nat) (x:Wf) (m:List Nat):Prop where
 al:iu c u m
 wu:WU c x (b6 c u m)
 uo:CQ c (b6 c u m)
 ct:∀q,m.count q≤1
 lt:∀j,k≤j→j<l.length→m.count (l.getD j kM).p.toNat=0
 st:∀j,k≤j→j<l.length→eX c x (l.getD j kM).p.toNat=(l.getD j kM).f
 ml:m.length≤k
theorem s9 {cl:ByteArray} {j:Nat} (hj:j<(cN c w cl k).length):∃p,p<k∧(cN c w cl k).getD j kM=⟨(p:Int),eX c w p⟩:=uU (mN hj)
theorem GD (hW:WU c w u) (hU:CQ c u) (cl:ByteArray):Bm c w u (cN c w cl c.U.length) 0 w [] where
 al:=trivial
 wu:=hW
 uo:=hU
 ct:=fun q=>by simp
 lt:=fun j _ _=>by simp
 st:=fun j _ hj=>by
  obtain⟨p,_,h2⟩:=s9 hj
  rw[h2];rfl
 ml:=Oy _
theorem Ij (hc:bE c) {cl:ByteArray} {x:Wf} {m:List Nat} (h:Bm c w u (cN c w cl c.U.length) k x m) (hk:k<(cN c w cl c.U.length).length) :
  ∃m',Bm c w u (cN c w cl c.U.length) (k+1) (bi c x ((cN c w cl c.U.length).getD k kM).p.toNat ((cN c w cl c.U.length).getD k kM).f) m':=by
 obtain⟨p,hp,hz⟩:=s9 hk
 have QU:=h.st k (NN _) hk
 have Ql:=h.lt k (NN _) hk
 have hpp:((cN c w cl c.U.length).getD k kM).p.toNat=p:=by rw[hz];rfl
 have hoth:∀j,k+1≤j→j<(cN c w cl c.U.length).length→∃q,q<c.U.length∧((cN c w cl c.U.length).getD j kM).p.toNat=q∧q≠p:=fun j hj Th=>by
  obtain⟨q,hq,Sl⟩:=s9 Th
  have:=zC (c:=c) (w:=w) (cl:=cl) (show k<j by omega) Th
  rw[hz,Sl]at this
  refine⟨q,hq,by rw[Sl];rfl,?_⟩
  have:(p:Int)<(q:Int):=this
  omega
 rw[hpp]at QU Ql ⊢
 rw[← QU]
 have WA:∀j,k+1≤j→j<(cN c w cl c.U.length).length→eX c (bi c x p (eX c x p)) ((cN c w cl c.U.length).getD j kM).p.toNat=((cN c w cl c.U.length).getD j kM).f:=fun j hj Th=>by
  obtain⟨q,hq,e,QI⟩:=hoth j hj Th
  rw[e,Ii hc h.wu h.uo hp hq QI,← e]
  exact h.st j (by omega) Th
 by_cases hf:(eX c x p).fires=true
 ·obtain⟨h1,h2⟩:=GB hc h.wu h.uo hp hf
  refine⟨m++[p],lO h.al ⟨hp,h1,trivial⟩,?_,?_,fun q=>?_,fun j hj Th=>?_,WA,by rw[NY];have:=h.ml;simp;omega⟩
  ·rw[iv];exact h2
  ·rw[iv];exact zg hc h.uo hp h1
  ·rw[List.count_append]
   by_cases e:q=p
   ·subst e;rw[Ql];simp
   ·have:=h.ct q
    rw[List.count_cons_of_ne (fun z=>e z.symm)];simpa using this
  ·obtain⟨q,hq,e,QI⟩:=hoth j hj Th
   rw[e,List.count_append,List.count_cons_of_ne (fun z=>QI z.symm),← e]
   simpa using h.lt j (by omega) Th
 ·exact⟨m,h.al,Ih hc h.wu h.uo hp hf,h.uo,h.ct,fun j hj Th=>h.lt j (by omega) Th,WA,by have:=h.ml;omega⟩
theorem LH (hc:bE c) {cl:ByteArray} {x:Wf} {m:List Nat} (h:Bm c w u (cN c w cl c.U.length) k x m) (hk:k<(cN c w cl c.U.length).length) :
  ((cN c w cl c.U.length).getD k kM).p.toNat<c.U.length∧0≤((cN c w cl c.U.length).getD k kM).p∧Gz c x ((cN c w cl c.U.length).getD k kM).p.toNat ((cN c w cl c.U.length).getD k kM).f:=by
 obtain⟨p,hp,hz⟩:=s9 hk
 have QU:=h.st k (NN _) hk
 have hpp:((cN c w cl c.U.length).getD k kM).p.toNat=p:=by rw[hz];rfl
 rw[← QU,hpp]
 exact⟨hp,by rw[hz];exact Int.natCast_nonneg p,C7 hc h.wu h.uo hp⟩
def Ec (c:Ci) (F':List (List Int)) (t:Nat) (x:Wf):Prop:=∃m,iu c (u0 c F') m∧WU c x (b6 c (u0 c F') m)∧CQ c (b6 c (u0 c F') m)∧(∀q,m.count q≤t)∧m.length≤100*t
theorem Ik {F':List (List Int)} {cl:ByteArray} {x:Wf} {t:Nat} {m0 m:List Nat} (Re:c.U.length≤100) (h1:iu c (u0 c F') m0) (h4:∀q,m0.count q≤t) (h5:m0.length≤100*t)
  (h:Bm c w (b6 c (u0 c F') m0) (cN c w cl c.U.length) (cN c w cl c.U.length).length x m):Ec c F' (t+1) x :=
 ⟨m0++m,lO h1 h.al,by rw[iv];exact h.wu,by rw[iv];exact h.uo,fun q=>by
  have:=h4 q
  have:=h.ct q
  rw[List.count_append];omega,by
  have:=h.ml
  have:=qj (c:=c) (w:=w) (cl:=cl) (k:=c.U.length)
  rw[NY];omega⟩
theorem Kl (hc:bE c) {F':List (List Int)} {x:Wf} {t:Nat} (h:Ec c F' t x):(∀n,n<c.J.length→x.seen.getD n [] <+: (cg c F' t).l n)∧(∀p,p<c.U.length→x.cnt.getD p 0≤((cg c F' t).cnt p:Int)) ∧
  (∀n,n<c.J.length→gJ (x.q.getD n ay)∧(¬(b9 c n).frm<0→¬(b9 c n).dst<0→∃k,k≤(x.seen.getD n []).length∧qW (x.q.getD n ay)=(x.seen.getD n []).drop k))∧x.seen.length=c.J.length∧x.cnt.length=c.U.length∧x.q.length=c.J.length:=by
 obtain⟨m,h1,h2,h3,h4,_⟩:=h
 obtain⟨k1,k2⟩:=D2 hc h1 h4
 refine⟨fun n hn=>by rw[h2.se n hn];exact k1 n,fun p hp=>?_,fun n hn=>⟨h2.q n hn,fun q1 q2=>⟨_,by rw[h2.se n hn];exact h2.le n hn,by rw[h2.se n hn];exact h2.qw n hn q1 q2⟩⟩,h2.el,h2.cl,h2.ql⟩
 rw[h2.cn p hp,fe]
 have:=k2 p
 show((0+m.count p:Nat):Int)≤_
 omega
end
theorem LO {sh:Int} {b:List Int}:MJ (ab sh b):=by
 have key:∀e∈ah sh,1≤e.NG.length∧e.NG.length≤2:=by
  rcases iw sh with h | h | h | h | h | h<;>rw[h]<;>simp
 intro p hp
 have Ru:p<(ah sh).length:=by rw[show(ab sh b).U.length=(ah sh).length from ax _ _]at hp;exact hp
 have e:aJ (ab sh b) p=qq b (ah sh) p:=aI Ru
 have hl:(qq b (ah sh) p).NG.length=((ah sh).getD p co).NG.length:=by
  show(tab _ _).length=_
  rw[ax]
 rw[e,hl,cO _ _ Ru]
 exact key _ (Pq Ru)
theorem GE {sh:Int} {b:List Int}:∀n,n<(ab sh b).J.length→-1≤(b9 (ab sh b) n).frm:=by
 intro n hn
 have hn':n<iH sh:=by rw[show(ab sh b).J.length=iH sh from ax _ _]at hn;exact hn
 rw[show b9 (ab sh b) n=ss sh (ah sh) n from aI hn']
 exact(A5 _ _ _).1
theorem LP {sh:Int} {b bb:List Int} (h0:0≤sh) (h1:sh≤255) (hb:oM b) (hbb:oM bb):su (ab sh b) (bc (ab sh b) bb):=Lr (I0 h0 h1 hb) hbb GE
section
variable {c:Ci} {F' inp2:List (List Int)} {n n2:Nat} {cls cl2:List ByteArray}
theorem Ko (h:su c F') (hc:bE c):F'.length≤100000∧∀z∈F',z.length≤100000:=by
 refine⟨by rw[h.l];have:=hc.cl;omega,fun z hz=>?_⟩
 obtain⟨i,hi,rfl⟩:=PQ hz
 have:=h.sm i
 rw[cO _ _ hi]at this
 omega
theorem Kp (h:su c F') (hn:n≤100):Ka c F' (n:Int)=⟨cr c (cg c F' n),eM c (cg c F' n),0⟩:=by
 unfold Ka
 rw[lR (mQ.2 h) (by omega),PI]
end
section
variable {c:Ci} {b:List Int} {n:Nat}
theorem uV {sh:Int} {b:List Int} (n:Nat) (hn:n<(ab sh b).J.length):(b9 (ab sh b) n).cap≤8:=by
 have hn':n<iH sh:=by rw[show(ab sh b).J.length=iH sh from ax _ _]at hn;exact hn
 rw[show b9 (ab sh b) n=ss sh (ah sh) n from aI hn']
 unfold ss
 show(if _ then _ else _:Int)≤8
 split
 ·show 1+(sh / 6+(n:Int))%3≤8
  omega
 ·decide
end
def cP (f:Qf):List V:=[.int .i64 f.cap,.sl 1 (ac .i64) 0 f.NJ,.int .i64 f.wr,.int .i64 f.rd,.int .i64 f.ws0,.int .i64 f.ws1,.int .i64 f.rs0,.int .i64 f.rs1]
def GF (z:Fr):List V:=.int .i64 z.p::Nz z.f
def gA (f:Qf) (t:Bool):Hd:=if t=true∧eW f=true then ⟨true,f.NJ.getD (f.rd%f.cap).toNat 0⟩else aj
theorem rn {f:Qf} (h:eW f=true):gA f true=⟨true,f.NJ.getD (f.rd%f.cap).toNat 0⟩:=NT ⟨rfl,h⟩
theorem rp {f:Qf}:gA f false=aj:=NQ (fun q=>by cases q.1)
theorem wH {f:Qf} {t:Bool} (h:¬eW f=true):gA f t=aj:=NQ (fun q=>h q.2)
theorem rq {f:Qf} {t:Bool} (h:¬eW f=true):aH f t=⟨f.cap,f.NJ,f.wr,f.rd,f.wr,f.ws0,f.rs0,f.rs1⟩:=NQ (fun q=>h q.2)
theorem Bn {f:Qf} {b:Bool} (w:Int) (h:¬bw f=true):ae f b w=⟨f.cap,f.NJ,f.wr,f.rd,f.ws0,f.ws1,f.rd,f.rs0⟩:=NQ (fun q=>h q.2)
theorem Kq {c a b:Int} (ha:0≤a∧a<2*c) (hb:0≤b∧b<2*c):Int.tmod (Int.tmod (a-b) (2*c)+2*c) (2*c)=cD c a b:=by
 by_cases h:b≤a
 ·rw[OI (by omega:0≤a-b),Pd (by omega) (by omega),OI (by omega),Int.add_emod_right,Pd (by omega) (by omega)]
  unfold cD;rw[NT h]
 ·have e:Int.tmod (a-b) (2*c)=a-b:=by
   rw[show a-b=-(b-a) by omega,Int.neg_tmod,OI (by omega),Pd (by omega) (by omega)]
  rw[e,OI (by omega),Pd (by omega) (by omega)]
  unfold cD;rw[NQ h]
theorem Im {c a b:Int} (ha:0≤a∧a<2*c) (hb:0≤b∧b<2*c):Int.tmod (a-b+2*c) (2*c)=cD c a b:=by
 rw[OI (by omega)];exact Ia ha hb
theorem Kr {c p:Int} (h:0≤p∧p<2*c):Int.tmod (p+1) (2*c)=da c p:=by
 rw[OI (by omega)];exact Ib h
theorem ef {c p:Int} (hc:1≤c) (h:0≤p):((p%c).toNat:Int)=p%c∧Int.tmod p c=p%c∧p%c<c :=
 ⟨PL (Pm _ (by omega)),OI h,Pg _ (by omega)⟩
section
variable {c:Ci} {w:Wf} {p k:Nat} {f:Fi} {l:List (List Int)} {ql:List Qf}
theorem rr (h:(b9 c (cj (aJ c p) k)).frm<0):qT c p f ql (k+1)=qT c p f ql k:=NT h
theorem GG (h:¬(b9 c (cj (aJ c p) k)).frm<0):qT c p f ql (k+1)=(qT c p f ql k).set (cj (aJ c p) k) (aH ((qT c p f ql k).getD (cj (aJ c p) k) ay) (f.pops.getD k false)):=NQ h
theorem zD (h1:(b9 c (cj (aJ c p) k)).frm<0) (h2:f.pops.getD k false=true) (h3:0<((dT c p f l k).getD (cj (aJ c p) k) []).length):dT c p f l (k+1)=(dT c p f l k).set (cj (aJ c p) k) (((dT c p f l k).getD (cj (aJ c p) k) []).drop 1):=NT ⟨h1,h2,h3⟩
theorem jx (h:¬((b9 c (cj (aJ c p) k)).frm<0∧f.pops.getD k false=true∧0<((dT c p f l k).getD (cj (aJ c p) k) []).length)):dT c p f l (k+1)=dT c p f l k:=NQ h
theorem eN (h:(f.NG.getD k aj).has=true):eD c p f l (k+1)=(eD c p f l k).set (ep (aJ c p) k) ((eD c p f l k).getD (ep (aJ c p) k) []++[(f.NG.getD k aj).v]):=NT h
theorem gB (h:¬(f.NG.getD k aj).has=true):eD c p f l (k+1)=eD c p f l k:=NQ h
theorem l8 (h:(b9 c (ep (aJ c p) k)).dst<0):qP c p f ql (k+1)=qP c p f ql k:=NT h
theorem l9 (h:¬(b9 c (ep (aJ c p) k)).dst<0):qP c p f ql (k+1)=(qP c p f ql k).set (ep (aJ c p) k) (ae ((qP c p f ql k).getD (ep (aJ c p) k) ay) (f.NG.getD k aj).has (f.NG.getD k aj).v):=NQ h
theorem GH {cl:ByteArray} (h:Kk c cl k=true):cN c w cl (k+1)=cN c w cl k++[⟨(k:Int),eX c w k⟩]:=by rw[cN,NT h]
theorem Io {cl:ByteArray} (h:¬Kk c cl k=true):cN c w cl (k+1)=cN c w cl k:=by rw[cN,NQ h,Om]
theorem uW {x:Qf} (h:gJ x) (b:Bool):gJ (aH x b):=by
 by_cases hh:eW x=true
 ·exact(qi h (fun _=>hh)).1
 ·have e:aH x b=aH x false:=by rw[rq hh,rq hh]
  rw[e];exact(uR h).1
theorem uX:∀(k n:Nat),((eD c p f l k).getD n []).length≤(l.getD n []).length+k
 | 0,n=>NN _
 | k+1,n=>by
  have ih:=uX k n
  rw[eD]
  split
  ·by_cases Ql:ep (aJ c p) k<(eD c p f l k).length
   ·rw[be Ql]
    split
    ·rename_i e
     rw[NY,e];simp only[Ow,Ot];omega
    ·omega
   ·rw[List.set_eq_of_length_le (by omega)];omega
  ·omega
theorem GI {j:Nat} (h:(b9 c (cj (aJ c p) j)).frm≥0) (hh:eW (w.q.getD (cj (aJ c p) j) ay)=true) (hl:((qW (w.q.getD (cj (aJ c p) j) ay)).length:Int)>0):(⟨decide (((qW (w.q.getD (cj (aJ c p) j) ay)).length:Int)>0),(qW (w.q.getD (cj (aJ c p) j) ay)).getD 0 0⟩:Hd)=bL c w p j:=by
 have R8:0<(qW (w.q.getD (cj (aJ c p) j) ay)).length:=by omega
 unfold bL
 rw[NQ (by omega),NT ⟨hh,R8⟩,Og hl]
theorem GJ {j:Nat} (h:(b9 c (cj (aJ c p) j)).frm≥0) (hl:¬((qW (w.q.getD (cj (aJ c p) j) ay)).length:Int)>0):(⟨decide (((qW (w.q.getD (cj (aJ c p) j) ay)).length:Int)>0),0⟩:Hd)=bL c w p j:=by
 unfold bL
 rw[NQ (by omega),NQ (fun q=>by have:=q.2;omega),N5 hl]
theorem GK {j:Nat} (h:(b9 c (cj (aJ c p) j)).frm≥0) (hh:¬eW (w.q.getD (cj (aJ c p) j) ay)=true):(⟨false,0⟩:Hd)=bL c w p j:=by
 unfold bL
 rw[NQ (by omega),NQ (fun q=>hh q.1)]
theorem GL {j:Nat} (h:¬(b9 c (cj (aJ c p) j)).frm≥0) (hl:((w.wait.getD (cj (aJ c p) j) []).length:Int)>0):(⟨decide (((w.wait.getD (cj (aJ c p) j) []).length:Int)>0),(w.wait.getD (cj (aJ c p) j) []).getD 0 0⟩:Hd)=bL c w p j:=by
 unfold bL
 rw[NT (by omega),NT (by omega),Og hl]
theorem GM {j:Nat} (h:¬(b9 c (cj (aJ c p) j)).frm≥0) (hl:¬((w.wait.getD (cj (aJ c p) j) []).length:Int)>0):(⟨decide (((w.wait.getD (cj (aJ c p) j) []).length:Int)>0),0⟩:Hd)=bL c w p j:=by
 unfold bL
 rw[NT (by omega),NQ (by omega),N5 hl]
theorem LQ {j:Nat} (h:(b9 c (ep (aJ c p) j)).dst<0):true=fw c w p j:=by unfold fw;rw[Og h];rfl
theorem LR {j:Nat} (h:¬(b9 c (ep (aJ c p) j)).dst<0):bw (w.q.getD (ep (aJ c p) j) ay)=fw c w p j:=by unfold fw;rw[N5 h];rfl
theorem wI {x:Qf} {b:Bool} (h:b=true→eW x=true):(gA x b).has=b:=by
 cases b with
 | false=>rw[rp]
 | true=>rw[rn (h rfl)]
theorem eO {x:Qf} {b:Bool} (h:b=true→bw x=true):(b&&bw x)=b:=by
 cases b with
 | false=>rfl
 | true=>rw[h rfl];rfl
theorem I1 {v w:Int} (h:dk v w):iW [v] w=true:=y7.2 (fun i hi=>by
 have:i=0:=by simpa using hi
 subst this
 exact h)
end
section
variable {c:Ci} {F':List (List Int)} {x:Wf} {t:Nat}
def dD (c:Ci) (i:Nat):Int:=if 1<(b9 c i).cap then (b9 c i).cap else 1
def zE (c:Ci) (F':List (List Int)) (i:Nat):List Int:=if (b9 c i).frm<0 then F'.getD i []else []
def fp (c:Ci) (F':List (List Int)) (k:Nat):List (List Int):=tab (fun i=>if i<k then zE c F' i else []) c.J.length
def w0 (c:Ci) (F':List (List Int)):Wf:=⟨tab (fun i=>aQ (aJ c i)) c.U.length,tab (fun i=>bp (dD c i)) c.J.length,F',fp c F' c.J.length,List.replicate c.U.length 0⟩
theorem Ip:List.replicate c.J.length ([]:List Int)=fp c F' 0:=by
 refine Pj (by rw[NR,fp,ax]) fun i h1 h2=>?_
 have hi:i<c.J.length:=by rw[NR]at h1;exact h1
 rw[PU]
 have:=aI (f:=fun i=>if i<0 then zE c F' i else []) (d:=[]) hi
 rw[NQ (by omega),Od,NM (by rw[ax];exact hi)]at this
 exact this.symm
theorem wJ {k:Nat} (hk:k<c.J.length) (h:(b9 c k).frm<0):(fp c F' k).set k (F'.getD k [])=fp c F' (k+1):=by
 unfold fp
 refine Pj (by rw[Ok,ax,ax]) fun i h1 h2=>?_
 have hi:i<c.J.length:=by rw[ax]at h2;exact h2
 rw[List.getElem_set]
 have e:∀(f:Nat→List Int) (hh:i<(tab f c.J.length).length),(tab f c.J.length)[i]=f i:=fun f hh=>by
  have:=aI (f:=f) (d:=[]) hi
  rw[Od,NM hh]at this
  exact this
 rw[e,e]
 by_cases q:k=i
 ·subst q
  rw[NT rfl,NT (by omega)];unfold zE;rw[NT h]
 ·rw[NQ q]
  by_cases q2:i<k
  ·rw[NT q2,NT (by omega)]
  ·rw[NQ q2,NQ (by omega)]
theorem zF {k:Nat} (h:¬(b9 c k).frm<0):fp c F' k=fp c F' (k+1):=by
 unfold fp
 refine mG fun i hi=>?_
 by_cases q:i=k
 ·subst q
  rw[NQ (by omega),NT (by omega)];unfold zE;rw[NQ h]
 ·by_cases q2:i<k
  ·rw[NT q2,NT (by omega)]
  ·rw[NQ q2,NQ (by omega)]
theorem i2 (h8:∀n,n<c.J.length→(b9 c n).cap≤8) {i:Nat} (hi:i<c.J.length):1≤dD c i∧dD c i≤8:=by
 have:=h8 i hi
 unfold dD
 split<;>omega
theorem LS (hc:bE c) (h:su c F') (h8:∀n,n<c.J.length→(b9 c n).cap≤8) (hf:∀n,n<c.J.length→-1≤(b9 c n).frm):Ec c F' 0 (w0 c F'):=by
 refine⟨[],trivial,⟨ax _ _,ax _ _,h.l,by show(fp c F' _).length=_;rw[fp,ax],NR,fun p hp=>?_,fun p hp=>?_,fun n hn=>?_,fun n hn RN=>?_,fun n hn=>?_,fun n hn h1 h2=>?_,fun n _=>Oy _⟩,IW hc h,fun q=>by simp,NN _⟩
 ·show(tab _ _).getD p cB=if p<c.U.length then aQ (aJ c p)else cB
  rw[aI hp,NT hp]
 ·show(List.replicate _ (0:Int)).getD p 0=((0:Nat):Int)
  rw[cO _ _ (by rw[NR];exact hp),PU];rfl
 ·show(fp c F' _).getD n []=F'.getD n []
  rw[fp,aI hn,NT hn]
  unfold zE
  split
  ·rfl
  ·exact(h.ex n hn (by have:=hf n hn;omega)).symm
 ·show F'.getD n []=(F'.getD n []).drop 0
  rfl
 ·show gJ ((tab _ _).getD n ay)
  rw[aI hn]
  exact(xZ (i2 h8 hn).1 (i2 h8 hn).2).1
 ·show qW ((tab _ _).getD n ay)=(F'.getD n []).drop 0
  rw[aI hn,(xZ (i2 h8 hn).1 (i2 h8 hn).2).2,h.ex n hn (by have:=hf n hn;omega)];rfl
structure MR (c:Ci) (F':List (List Int)) (t:Nat) (x:Wf):Prop where
 e:cX c F' (t:Int)=(cr c (cg c F' t),eM c (cg c F' t),0)
 pr:p8 x.seen (cr c (cg c F' t))=true
 cl:(eM c (cg c F' t)).length=x.cnt.length
 cn:∀i,i<(eM c (cg c F' t)).length→x.cnt.getD i 0≤(eM c (cg c F' t)).getD i 0
 q:∀n,n<c.J.length→gJ (x.q.getD n ay)
 sf:∀n,n<c.J.length→¬(b9 c n).frm<0→¬(b9 c n).dst<0→(qW (x.q.getD n ay)).length≤(x.seen.getD n []).length∧qW (x.q.getD n ay)=(x.seen.getD n []).drop ((x.seen.getD n []).length-(qW (x.q.getD n ay)).length)
theorem LU (hc:bE c) (hin:su c F') (ht:t≤100) (h:Ec c F' t x):MR c F' t x:=by
 obtain⟨h1,h2,h3,h4,h5,h6⟩:=Kl hc h
 refine⟨?_,?_,?_,fun i hi=>?_,fun n hn=>(h3 n hn).1,fun n hn k1 k2=>?_⟩
 ·have:=Kp hin ht
  unfold Ka at this
  have e1:=congrArg Rs.l this
  have e2:=congrArg Rs.c this
  have e3:=congrArg Rs.e this
  exact Prod.ext e1 (Prod.ext e2 e3)
 ·refine HY.2 ⟨by rw[h4];unfold cr;rw[ax],fun i hi=>?_⟩
  have hi:i<c.J.length:=by omega
  unfold cr
  rw[aI hi]
  exact h1 i hi
 ·unfold eM;rw[ax,h5]
 ·have hi:i<c.U.length:=by unfold eM at hi;rw[ax]at hi;exact hi
  unfold eM
  rw[aI hi]
  exact h2 i hi
 ·obtain⟨k,hk,e⟩:=(h3 n hn).2 k1 k2
  have hl:(qW (x.q.getD n ay)).length=(x.seen.getD n []).length-k:=by rw[e,N9]
  refine⟨by omega,?_⟩
  rw[hl,show(x.seen.getD n []).length-((x.seen.getD n []).length-k)=k by omega]
  exact e
theorem I2 (hc:bE c) (hin:su c F') {m:List Nat} (hm:iu c (u0 c F') m) (hl:m.length≤10000) (h:WU c x (b6 c (u0 c F') m)) (n:Nat):(x.seen.getD n []).length≤100000:=by
 by_cases hn:n<c.J.length
 ·rw[h.se n hn]
  have:=zk hc n hm
  have h0:((u0 c F').l n).length≤1000:=hin.sm n
  omega
 ·rw[Od,OL (by rw[h.el];omega)];exact Oy _
theorem Ks {m:List Nat} (hl:m.length≤10000) {p:Nat} (hp:p<c.U.length) (h:WU c x (b6 c (u0 c F') m)):x.cnt.getD p 0≤10000∧0≤x.cnt.getD p 0:=by
 rw[h.cn p hp,fe]
 have:=List.count_le_length (a:=p) (l:=m)
 show((0+m.count p:Nat):Int)≤10000∧(0:Int)≤((0+m.count p:Nat):Int)
 omega
end
abbrev bV:ak:=(.var 42 [(i6 0),.nils,(i6 0),(i6 0),(i6 0),(i6 0),(i6 0),(i6 0)])
abbrev fq (f:Qf):List D:=[(i6 f.cap),(LI f.NJ),(i6 f.wr),(i6 f.rd),(i6 f.ws0),(i6 f.ws1),(i6 f.rs0),(i6 f.rs1)]
abbrev eo:D:=(.ptr 0 0 0 4)
abbrev mb (f:Qf):List (Nat×D):=[(30,(i6 f.wr)),(29,(.ptr 0 0 0 2)),(28,eo),(2,(.ptr 0 0 0 0)),(4,(.ptr 1 0 0 0)),(5,(.ptr 2 0 0 0)),(6,(.ptr 3 0 0 0))]
abbrev i3 (f:Qf):List D:=[(i6 f.cap),(LI f.NJ),(i6 f.wr),(i6 f.rd),(i6 f.wr),(i6 f.ws0),(i6 f.rs0),(i6 f.rs1)]
abbrev bW:ak:=(.var 80 [(dB false),(i6 0)])
abbrev qk (f:Qf):List D:=[(i6 f.cap),(LI f.NJ),(i6 f.wr),(i6 (da f.cap f.rd)),(i6 f.wr),(i6 f.ws0),(i6 f.rs0),(i6 f.rs1)]
abbrev dU:D:=(.ptr 0 0 0 6)
abbrev r7 (f:Qf):List (Nat×D):=[(36,(i6 f.rd)),(35,(.ptr 0 0 0 3)),(34,dU),(3,(.ptr 0 0 0 0)),(6,(.ptr 1 0 0 0)),(8,(dB (bw f)))]
abbrev oc (f:Qf):ak:=(.var 80 [(dB true),(i6 (f.NJ.getD ((f.rd%f.cap).toNat) 0))])
abbrev wK (f:Qf):ak:=(.var 42 [(i6 f.cap),(LI f.NJ),(i6 f.wr),(i6 f.rd),(i6 f.ws0),(i6 f.ws1),(i6 f.rd),(i6 f.rs0)])
abbrev C9 (f:Qf):List (Nat×D):=[(36,(i6 f.rd)),(35,(.ptr 0 0 0 3)),(34,dU),(3,(.ptr 0 0 0 0)),(6,(.ptr 1 0 0 0)),(8,(dB false))]
abbrev rt (f:Qf) (v:Int):ak:=(.arr 3 1 (ac .i64) 0 (f.NJ.set ((f.wr%f.cap).toNat) v))
abbrev Bo (f:Qf):ak:=(.var 42 [(i6 f.cap),(.own 2),(i6 (da f.cap f.wr)),(i6 f.rd),(i6 f.ws0),(i6 f.ws1),(i6 f.rd),(i6 f.rs0)])
abbrev GN (f:Qf) (Qa:Array Value):List ak:=[(.var 42 [(i6 f.cap),(LI f.NJ),(i6 f.wr),(i6 f.rd),(i6 f.ws0),(i6 f.ws0),(i6 f.rs0),(i6 f.rs1)]),bV,bW,bW,(.frame Qa (mb f)),.dead,.dead,.dead,.dead,.dead,.dead,.dead,.dead,.dead,.dead]
set_option maxRecDepth 100000
theorem Da (a b:Int):(a != b)=decide (a≠b):=by by_cases h:a=b<;>simp[h]
abbrev LV (c a b:Int):Ct:=⟨47,[(i6 c),(i6 a),(i6 b)],false,(i6 (cD c a b))⟩
theorem wL (c a b:Int) (RH:1≤c) (S8:c≤8) (ha:0≤a∧a<2*c) (hb:0≤b∧b<2*c):CC (LV c a b):=by
 refine ap.vc (V:=TT 3 (W6 (a-b)∧TT 1 (W6 (2*c)∧(2*c)≠0∧TT 1 (W6 (2*c)∧W6 ((Int.tmod (a-b) (2*c))+(2*c))∧TT 1 (W6 (2*c)∧((2*c)≠0∧(Int.tmod ((Int.tmod (a-b) (2*c))+(2*c)) (2*c))=(cD c a b))∧TT 2 ((cD c a b)=(cD c a b)∧True)))))) (.w 1 [(2,.val (i6 (a-b))),(4,.val (i6 (2*c))),(7,.val (i6 (2*c))),(8,.val (i6 ((Int.tmod (a-b) (2*c))+(2*c)))),(10,.val (i6 (2*c))),(11,.val (i6 (cD c a b)))]<|.e) Try.func47 rfl rfl rfl (by kernel_rfl) ?_
 have q1:=Int.lt_tmod_of_pos (a-b) (show 0<2*c by omega)
 have q2:=Int.tmod_lt_of_pos (a-b) (show 0<2*c by omega)
 exact tt ⟨w6,tt ⟨w6,⟨om,tt ⟨w6,⟨w6,tt ⟨w6,⟨⟨om,(Kq ha hb)⟩,tt ⟨rfl,oK⟩⟩⟩⟩⟩⟩⟩⟩
abbrev LW (c p:Int):Ct:=⟨43,[(i6 c),(i6 p)],false,(i6 (da c p))⟩
theorem zG (c p:Int) (RH:1≤c) (S8:c≤8) (hp:0≤p∧p<2*c):CC (LW c p):=by
 refine ap.vc (V:=TT 2 (W6 (p+1)∧TT 1 (W6 (2*c)∧((2*c)≠0∧(Int.tmod (p+1) (2*c))=(da c p))∧TT 2 ((da c p)=(da c p)∧True)))) (.w 1 [(1,.val (i6 (p+1))),(3,.val (i6 (2*c))),(4,.val (i6 (da c p)))]<|.e) Try.func43 rfl rfl rfl (by kernel_rfl) ?_
 exact tt ⟨w6,tt ⟨w6,⟨⟨om,(Kr hp)⟩,tt ⟨rfl,oK⟩⟩⟩⟩
abbrev MS (f:Qf):Ct:=⟨41,[(.agg (fq f))],false,(i6 (b8 f))⟩
theorem Iq (f:Qf) (h:gJ f):CC (MS f):=by
 have RH:=h.c1
 have S8:=h.c8
 have Tj:=h.wl
 obtain⟨a1,a2⟩:=h.p0
 obtain⟨b1,b2⟩:=h.p1
 obtain⟨d1,d2⟩:=h.p2
 obtain⟨e1,e2⟩:=h.p3
 obtain⟨g1,g2⟩:=h.p4
 obtain⟨k1,k2⟩:=h.p5
 have UU:=ef RH a1
 have WB:=ef RH b1
 refine ap.vc (V:=TT 8 (CC (LV f.cap f.wr f.rd)∧TT 2 ((cD f.cap f.wr f.rd)=(b8 f)∧True))) (.w 1 [(6,(LV f.cap f.wr f.rd).O)]<|.e) Try.func41 rfl rfl rfl (by kernel_rfl) ?_
 refine tt ⟨(wL f.cap f.wr f.rd (by omega) (by omega) (by omega) (by omega)),tt ⟨?_,oK⟩⟩
 rfl
abbrev LX (f:Qf):Ct:=⟨29,[(.agg (fq f))],false,(dB (bw f))⟩
theorem zH (f:Qf) (h:gJ f):CC (LX f):=by
 have RH:=h.c1
 have S8:=h.c8
 have Tj:=h.wl
 obtain⟨a1,a2⟩:=h.p0
 obtain⟨b1,b2⟩:=h.p1
 obtain⟨d1,d2⟩:=h.p2
 obtain⟨e1,e2⟩:=h.p3
 obtain⟨g1,g2⟩:=h.p4
 obtain⟨k1,k2⟩:=h.p5
 have UU:=ef RH a1
 have WB:=ef RH b1
 refine ap.vc (V:=TT 7 (((0≤(1:Int)∧1<(2:Int))∧True)∧TT 1 (CC (LV f.cap f.wr f.rs1)∧TT 5 (((cD f.cap f.wr f.rs1) != f.cap)=(bw f)∧True)))) (.w 1 [(7,(LV f.cap f.wr f.rs1).O)]<|.e) Try.func29 rfl rfl rfl (by kernel_rfl) ?_
 refine tt ⟨⟨by omega,oK⟩,tt ⟨(wL f.cap f.wr f.rs1 (by omega) (by omega) (by omega) (by omega)),tt ⟨?_,oK⟩⟩⟩
 exact Da _ _
abbrev Kt (f:Qf):Ct:=⟨28,[(.agg (fq f))],false,(dB (eW f))⟩
theorem x6 (f:Qf):CC (Kt f):=by
 refine ap.vc (V:=TT 3 (((0≤(1:Int)∧1<(2:Int))∧True)∧TT 6 ((f.ws1 != f.rd)=(eW f)∧True))) (.e) Try.func28 rfl rfl rfl (by kernel_rfl) ?_
 refine tt ⟨⟨by omega,oK⟩,tt ⟨?_,oK⟩⟩
 exact Da _ _
abbrev c8 (c:Int):Ct:=⟨8,[(i6 c)],true,(.tup [(.agg [(i6 ((bp c).cap)),(LI ((bp c).NJ)),(i6 ((bp c).wr)),(i6 ((bp c).rd)),(i6 ((bp c).ws0)),(i6 ((bp c).ws1)),(i6 ((bp c).rs0)),(i6 ((bp c).rs1))]),(i6 0)])⟩
theorem Db (c:Int) (RH:1≤c) (S8:c≤8):CC (c8 c):=by
 refine ap.vc (V:=TT 4 ((True∧(decide (c<1))=false)∧TT 3 ((decide (c>8))=false∧TT 2 ((((0:Int)≤c∧c≤c∧c≤137438953472)∧(List.replicate c.toNat (0:Int)).length=c.toNat∧∀x∈(List.replicate c.toNat (0:Int)),dp [(i6 0)] ((ac .i64) x))∧TT 5 ((c=((bp c).cap)∧(List.replicate c.toNat (0:Int)).map (ac .i64)=((bp c).NJ).map (ac .i64)∧(0:Int)=((bp c).wr)∧(0:Int)=((bp c).rd)∧(0:Int)=((bp c).ws0)∧(0:Int)=((bp c).ws1)∧(0:Int)=((bp c).rs0)∧(0:Int)=((bp c).rs1)∧True)∧(0:Int)=0∧True))))) (.w 1 [(2,.val (dB false))]<|.u 9 (.w 3 [(2,.box 3 1 (ac .i64) 0 (List.replicate c.toNat (0:Int)))]<|.e)) Try.func8 rfl rfl rfl (by kernel_rfl) ?_
 refine tt ⟨(vF (by omega)),tt ⟨(N5 (by omega)),tt ⟨⟨by omega,by rw[NR],fun x hx=>by rw[Ol hx];exact⟨rfl,oK⟩⟩,tt ⟨⟨?_,(congrArg _ (?_:(List.replicate c.toNat (0:Int))=((bp c).NJ))),?_,?_,?_,?_,?_,?_,oK⟩,rfl,oK⟩⟩⟩⟩
 all_goals (rfl)
abbrev x7 (f:Qf) (b:Bool) (v:Int):Ct:=⟨18,[(.agg (fq f)),(dB b),(i6 v)],true,(.tup [(.agg [(i6 ((ae f b v).cap)),(LI ((ae f b v).NJ)),(i6 ((ae f b v).wr)),(i6 ((ae f b v).rd)),(i6 ((ae f b v).ws0)),(i6 ((ae f b v).ws1)),(i6 ((ae f b v).rs0)),(i6 ((ae f b v).rs1))]),(dB (b&&bw f))])⟩
abbrev Ed (f:Qf) (v:Int):List ak:=[(.var 42 [(i6 f.cap),(.own 2),(i6 (da f.cap f.wr)),(i6 f.rd),(i6 f.ws0),(i6 f.ws1),(i6 f.rs0),(i6 f.rs1)]),bV,(rt f v),.dead,.dead,.dead,.dead,.dead,.dead,.dead,.dead,.dead]
abbrev nf (f:Qf):List (Nat×D):=(r7 f)
abbrev zI (f:Qf) (v:Int) (Qa:Array Value):List ak:=[(.var 42 [(i6 f.cap),(.own 2),(i6 (da f.cap f.wr)),(i6 f.rd),(i6 f.ws0),(i6 f.ws1),(i6 f.rs0),(i6 f.rs1)]),bV,(rt f v),.dead,.dead,.dead,.dead,.dead,.dead,.dead,.dead,.dead,(.frame Qa (r7 f)),.dead,.dead,.dead,.dead,.dead,.dead,.dead,.dead,.dead,.dead]
abbrev zJ (f:Qf) (v:Int) (Qa:Array Value):List ak:=[(.var 42 [(i6 f.cap),(.own 2),(i6 (da f.cap f.wr)),(i6 f.rd),(i6 f.ws0),(i6 f.ws1),(i6 f.rs0),(i6 f.rs0)]),bV,(rt f v),.dead,.dead,.dead,.dead,.dead,.dead,.dead,.dead,.dead,(.frame Qa (r7 f)),.dead,.dead,.dead,.dead,.dead,.dead,.dead,.dead,.dead,.dead]
abbrev zK (f:Qf) (v:Int) (Qa:Array Value):List ak:=[(Bo f),bV,(rt f v),.dead,.dead,.dead,.dead,.dead,.dead,.dead,.dead,.dead,(.frame Qa (r7 f)),.dead,.dead,.dead,.dead,.dead,.dead,.dead,.dead,.dead,.dead]
def ru (f:Qf) (v:Int) (Qa:Array Value) (zn:Nat):St:=⟨fE zn [(0,0,0,6784,dU),(1,0,0,6400,(i6 f.rd)),(5,128,0,6656,dU),(9,0,0,7168,(i6 f.rs0)),(10,256,0,4096,(i6 f.rd)),(12,0,0,7168,(.ptr 0 0 0 7)),(13,640,0,6144,dU),(14,3968,0,4096,dU)],(if Nat.beq (zn &&& 8064) 8064 then (zK f v Qa)else (if Nat.beq (zn &&& 1024) 1024 then (zJ f v Qa)else (zI f v Qa)))⟩
abbrev rx (f:Qf) (v:Int):List ak:=[(Bo f),bV,(rt f v),.dead,.dead,.dead,.dead,.dead,.dead,.dead,.dead,.dead]
abbrev Ee (f:Qf):List ak:=[(.var 42 (fq f)),bV]
abbrev ng (f:Qf):List (Nat×D):=(r7 f)
abbrev zL (f:Qf) (Qa:Array Value):List ak:=[(.var 42 (fq f)),bV,(.frame Qa (r7 f)),.dead,.dead,.dead,.dead,.dead,.dead,.dead,.dead,.dead,.dead]
abbrev zM (f:Qf) (Qa:Array Value):List ak:=[(.var 42 [(i6 f.cap),(LI f.NJ),(i6 f.wr),(i6 f.rd),(i6 f.ws0),(i6 f.ws1),(i6 f.rs0),(i6 f.rs0)]),bV,(.frame Qa (r7 f)),.dead,.dead,.dead,.dead,.dead,.dead,.dead,.dead,.dead,.dead]
abbrev zN (f:Qf) (Qa:Array Value):List ak:=[(wK f),bV,(.frame Qa (r7 f)),.dead,.dead,.dead,.dead,.dead,.dead,.dead,.dead,.dead,.dead]
def ry (f:Qf) (Qa:Array Value) (zn:Nat):St:=⟨fE zn [(0,0,0,6784,dU),(1,0,0,6400,(i6 f.rd)),(5,128,0,6656,dU),(9,0,0,7168,(i6 f.rs0)),(10,256,0,4096,(i6 f.rd)),(12,0,0,7168,(.ptr 0 0 0 7)),(13,640,0,6144,dU),(14,3968,0,4096,dU)],(if Nat.beq (zn &&& 8064) 8064 then (zN f Qa)else (if Nat.beq (zn &&& 1024) 1024 then (zM f Qa)else (zL f Qa)))⟩
abbrev oT (f:Qf):List ak:=[(wK f),bV]
abbrev Bp (f:Qf):List ak:=[(.var 42 (fq f)),bV]
abbrev kx (f:Qf):List (Nat×D):=(C9 f)
abbrev x8 (f:Qf) (Qa:Array Value):List ak:=[(.var 42 (fq f)),bV,(.frame Qa (C9 f)),.dead,.dead,.dead,.dead,.dead,.dead,.dead,.dead,.dead,.dead]
abbrev x9 (f:Qf) (Qa:Array Value):List ak:=[(.var 42 [(i6 f.cap),(LI f.NJ),(i6 f.wr),(i6 f.rd),(i6 f.ws0),(i6 f.ws1),(i6 f.rs0),(i6 f.rs0)]),bV,(.frame Qa (C9 f)),.dead,.dead,.dead,.dead,.dead,.dead,.dead,.dead,.dead,.dead]
abbrev ya (f:Qf) (Qa:Array Value):List ak:=[(wK f),bV,(.frame Qa (C9 f)),.dead,.dead,.dead,.dead,.dead,.dead,.dead,.dead,.dead,.dead]
def oU (f:Qf) (Qa:Array Value) (zn:Nat):St:=⟨fE zn [(0,0,0,6784,dU),(1,0,0,6400,(i6 f.rd)),(5,128,0,6656,dU),(9,0,0,7168,(i6 f.rs0)),(10,256,0,4096,(i6 f.rd)),(12,0,0,7168,(.ptr 0 0 0 7)),(13,640,0,6144,dU),(14,3968,0,4096,dU)],(if Nat.beq (zn &&& 8064) 8064 then (ya f Qa)else (if Nat.beq (zn &&& 1024) 1024 then (x9 f Qa)else (x8 f Qa)))⟩
abbrev oV (f:Qf):List ak:=[(wK f),bV]
theorem d9 (f:Qf) (b:Bool) (v:Int) (h:gJ f):CC (x7 f b v):=by
 have RH:=h.c1
 have S8:=h.c8
 have Tj:=h.wl
 obtain⟨a1,a2⟩:=h.p0
 obtain⟨b1,b2⟩:=h.p1
 obtain⟨d1,d2⟩:=h.p2
 obtain⟨e1,e2⟩:=h.p3
 obtain⟨g1,g2⟩:=h.p4
 obtain⟨k1,k2⟩:=h.p5
 have UU:=ef RH a1
 have WB:=ef RH b1
 refine ap.vc (V:=TT 3 (CS (b=true) (TT 1 ((True∧b=true)∧TT 1 (CC (LX f)∧TT 3 (CB (bw f) (TT 2 (CO (Lm f.NJ)∧TT 8 ((f.cap≠0∧(Int.tmod f.wr f.cap)=(((f.wr%f.cap).toNat:Nat):Int))∧TT 1 (IX (((f.wr%f.cap).toNat:Nat):Int) f.NJ.length∧((f.wr%f.cap).toNat<f.NJ.length∧(f.NJ.map (ac .i64)).set ((f.wr%f.cap).toNat) (((ac .i64) (f.NJ.getD ((f.wr%f.cap).toNat) 0)).take 0++[(.int .i64 v)]++((ac .i64) (f.NJ.getD ((f.wr%f.cap).toNat) 0)).drop (0+1))=(f.NJ.set ((f.wr%f.cap).toNat) v).map (ac .i64))∧TT 4 (CC (LW f.cap f.wr)∧TT 5 (xv Try.prog 44 [dU,(i6 f.rd)] (Ed f v) (nf f) (rx f v) [] (.tup [])∧TT 6 ((f.cap=((ae f b v).cap)∧(f.NJ.set ((f.wr%f.cap).toNat) v).map (ac .i64)=((ae f b v).NJ).map (ac .i64)∧(da f.cap f.wr)=((ae f b v).wr)∧f.rd=((ae f b v).rd)∧f.ws0=((ae f b v).ws0)∧f.ws1=((ae f b v).ws1)∧f.rd=((ae f b v).rs0)∧f.rs0=((ae f b v).rs1)∧True)∧(bw f)=(b&&bw f)∧True))))))) (TT 3 (xv Try.prog 44 [dU,(i6 f.rd)] (Ee f) (ng f) (oT f) [] (.tup [])∧TT 6 ((f.cap=((ae f b v).cap)∧f.NJ.map (ac .i64)=((ae f b v).NJ).map (ac .i64)∧f.wr=((ae f b v).wr)∧f.rd=((ae f b v).rd)∧f.ws0=((ae f b v).ws0)∧f.ws1=((ae f b v).ws1)∧f.rd=((ae f b v).rs0)∧f.rs0=((ae f b v).rs1)∧True)∧(bw f)=(b&&bw f)∧True))))))) (TT 1 ((True∧b=false)∧TT 8 (xv Try.prog 44 [dU,(i6 f.rd)] (Bp f) (kx f) (oV f) [] (.tup [])∧TT 6 ((f.cap=((ae f b v).cap)∧f.NJ.map (ac .i64)=((ae f b v).NJ).map (ac .i64)∧f.wr=((ae f b v).wr)∧f.rd=((ae f b v).rd)∧f.ws0=((ae f b v).ws0)∧f.ws1=((ae f b v).ws1)∧f.rd=((ae f b v).rs0)∧f.rs0=((ae f b v).rs1)∧True)∧false=(b&&bw f)∧True)))))) (.s 1 (b=true) (.w 1 [(1,.val (dB true)),(3,(LX f).O)]<|.b 14 (.w 3 [(2,(Lm f.NJ).O)]<|.w 4 [(6,.val (i6 (((f.wr%f.cap).toNat:Nat):Int))),(9,.box 3 1 (ac .i64) 0 (f.NJ.set ((f.wr%f.cap).toNat) v))]<|.w 5 [(4,(LW f.cap f.wr).O)]<|.q 6 [3,6,8] 12<|.w 6 [(3,.inl (.tup []) (nf f) ((rx f v)++.dead::[]))]<|.e) (.q 6 [3,6,8] 2<|.w 6 [(3,.inl (.tup []) (ng f) ((oT f)++.dead::[]))]<|.e)) (.w 1 [(1,.val (dB false))]<|.q 6 [3,6,8] 2<|.w 6 [(3,.inl (.tup []) (kx f) ((oV f)++.dead::[]))]<|.e)) Try.func18 rfl rfl rfl (by kernel_rfl) ?_
 refine tt ⟨fun Qe=>?_,fun Qe=>?_⟩
 · refine tt ⟨(bT Qe),tt ⟨(zH f h),tt ⟨fun SP=>?_,fun SP=>?_⟩⟩⟩
   · refine tt ⟨(wy f.NJ om),tt ⟨⟨om,(UU.2.1.trans UU.1.symm)⟩,tt ⟨ix,⟨⟨om,by simp only[OD];rfl⟩,tt ⟨(zG f.cap f.wr (by omega) (by omega) (by omega)),tt ⟨?_,?_⟩⟩⟩⟩⟩⟩
     · intro Qa
       refine gj.vc (V:=TT 3 (((0≤(0:Int)∧0<(2:Int))∧True)∧TT 2 (((0≤(1:Int)∧1<(2:Int))∧True)∧TT 3 ((fun (zz:Nat→St)=>zz 1023=zz 1023∧zz 767=zz 767∧zz 511=zz 511∧zz 383=zz 383∧zz 255=zz 255∧zz 127=zz 127∧True) (ru f v Qa)∧(fun (zz:Nat→St) (S6:Prop)=>(sE (zz 2047) True∧True)∧(sE (zz 1023) True∧sE (zz 1791) True∧True)∧(sE (zz 1023) True∧sE (zz 1535) True∧True)∧(sE (zz 511) True∧sE (zz 1407) True∧True)∧(sE (zz 511) True∧sE (zz 767) True∧sE (zz 1279) True∧True)∧(sE (zz 255) True∧sE (zz 383) True∧sE (zz 1151) True∧True)∧(sE (zz 4095) S6∧True)∧(sE (zz 2047) True∧True)∧(sE (zz 2047) True∧True)∧(sE (zz 1535) True∧True)∧(sE (zz 1535) True∧sE (zz 1791) True∧True)∧(sE (zz 1279) True∧sE (zz 1407) True∧True)∧(sE (zz 8191) True∧True)∧True∧True) (ru f v Qa) ((0≤(0:Int)∧0<(2:Int))∧True)∧True∧([(Bo f),bV,(rt f v),.dead,.dead,.dead,.dead,.dead,.dead,.dead,.dead,.dead,.frame Qa (nf f)]:List ak)=(rx f v)++.frame Qa (nf f)::[])))) (.y 0 [(999,.cells [0,2,3,4,5,7,8,1,6,10,9,11,12] (fun _ _=>.junk))] ((fun (zz:Nat→St)=>[(bm 13 1023,zz 1023),(bm 13 767,zz 767),(bm 13 511,zz 511),(bm 13 383,zz 383),(bm 13 255,zz 255),(bm 13 127,zz 127),(bm 13 2047,zz 2047),(bm 13 1791,zz 1791),(bm 13 1535,zz 1535),(bm 13 1407,zz 1407),(bm 13 1279,zz 1279),(bm 13 1151,zz 1151),(bm 13 4095,zz 4095),(bm 13 8191,zz 8191)]) (ru f v Qa))<|.e) Try.func44 rfl rfl (by kernel_rfl) ?_
       exact tt ⟨⟨by omega,oK⟩,tt ⟨⟨by omega,oK⟩,tt ⟨⟨rfl,rfl,rfl,rfl,rfl,rfl,oK⟩,⟨⟨⟨⟨rfl,oK,oK⟩,oK⟩,⟨⟨rfl,oK,oK⟩,⟨rfl,oK,oK⟩,oK⟩,⟨⟨rfl,oK,oK⟩,⟨rfl,oK,oK⟩,oK⟩,⟨⟨rfl,oK,oK⟩,⟨rfl,oK,oK⟩,oK⟩,⟨⟨rfl,oK,oK⟩,⟨rfl,oK,oK⟩,⟨rfl,oK,oK⟩,oK⟩,⟨⟨rfl,oK,oK⟩,⟨rfl,oK,oK⟩,⟨rfl,oK,oK⟩,oK⟩,⟨⟨rfl,⟨by omega,oK⟩,oK⟩,oK⟩,⟨⟨rfl,oK,oK⟩,oK⟩,⟨⟨rfl,oK,oK⟩,oK⟩,⟨⟨rfl,oK,oK⟩,oK⟩,⟨⟨rfl,oK,oK⟩,⟨rfl,oK,oK⟩,oK⟩,⟨⟨rfl,oK,oK⟩,⟨rfl,oK,oK⟩,oK⟩,⟨⟨rfl,oK,oK⟩,oK⟩,oK,oK⟩,⟨oK,rfl⟩⟩⟩⟩⟩
     refine tt ⟨⟨?_,(congrArg _ (?_:(f.NJ.set ((f.wr%f.cap).toNat) v)=((ae f b v).NJ))),?_,?_,?_,?_,?_,?_,oK⟩,?_,oK⟩
     all_goals (all_goals (first | (rw[show b=true from Qe,rj v SP];done) | (rw[show b=true from Qe,rj v SP];rfl) | (rw[show b=true from Qe,SP];rfl) | (rw[show b=true from Qe];rfl)))
   · refine tt ⟨?_,?_⟩
     · intro Qa
       refine gj.vc (V:=TT 3 (((0≤(0:Int)∧0<(2:Int))∧True)∧TT 2 (((0≤(1:Int)∧1<(2:Int))∧True)∧TT 3 ((fun (zz:Nat→St)=>zz 1023=zz 1023∧zz 767=zz 767∧zz 511=zz 511∧zz 383=zz 383∧zz 255=zz 255∧zz 127=zz 127∧True) (ry f Qa)∧(fun (zz:Nat→St) (S6:Prop)=>(sE (zz 2047) True∧True)∧(sE (zz 1023) True∧sE (zz 1791) True∧True)∧(sE (zz 1023) True∧sE (zz 1535) True∧True)∧(sE (zz 511) True∧sE (zz 1407) True∧True)∧(sE (zz 511) True∧sE (zz 767) True∧sE (zz 1279) True∧True)∧(sE (zz 255) True∧sE (zz 383) True∧sE (zz 1151) True∧True)∧(sE (zz 4095) S6∧True)∧(sE (zz 2047) True∧True)∧(sE (zz 2047) True∧True)∧(sE (zz 1535) True∧True)∧(sE (zz 1535) True∧sE (zz 1791) True∧True)∧(sE (zz 1279) True∧sE (zz 1407) True∧True)∧(sE (zz 8191) True∧True)∧True∧True) (ry f Qa) ((0≤(0:Int)∧0<(2:Int))∧True)∧True∧([(wK f),bV,.frame Qa (ng f)]:List ak)=(oT f)++.frame Qa (ng f)::[])))) (.y 0 [(999,.cells [0,2,3,4,5,7,8,1,6,10,9,11,12] (fun _ _=>.junk))] ((fun (zz:Nat→St)=>[(bm 13 1023,zz 1023),(bm 13 767,zz 767),(bm 13 511,zz 511),(bm 13 383,zz 383),(bm 13 255,zz 255),(bm 13 127,zz 127),(bm 13 2047,zz 2047),(bm 13 1791,zz 1791),(bm 13 1535,zz 1535),(bm 13 1407,zz 1407),(bm 13 1279,zz 1279),(bm 13 1151,zz 1151),(bm 13 4095,zz 4095),(bm 13 8191,zz 8191)]) (ry f Qa))<|.e) Try.func44 rfl rfl (by kernel_rfl) ?_
       exact tt ⟨⟨by omega,oK⟩,tt ⟨⟨by omega,oK⟩,tt ⟨⟨rfl,rfl,rfl,rfl,rfl,rfl,oK⟩,⟨⟨⟨⟨rfl,oK,oK⟩,oK⟩,⟨⟨rfl,oK,oK⟩,⟨rfl,oK,oK⟩,oK⟩,⟨⟨rfl,oK,oK⟩,⟨rfl,oK,oK⟩,oK⟩,⟨⟨rfl,oK,oK⟩,⟨rfl,oK,oK⟩,oK⟩,⟨⟨rfl,oK,oK⟩,⟨rfl,oK,oK⟩,⟨rfl,oK,oK⟩,oK⟩,⟨⟨rfl,oK,oK⟩,⟨rfl,oK,oK⟩,⟨rfl,oK,oK⟩,oK⟩,⟨⟨rfl,⟨by omega,oK⟩,oK⟩,oK⟩,⟨⟨rfl,oK,oK⟩,oK⟩,⟨⟨rfl,oK,oK⟩,oK⟩,⟨⟨rfl,oK,oK⟩,oK⟩,⟨⟨rfl,oK,oK⟩,⟨rfl,oK,oK⟩,oK⟩,⟨⟨rfl,oK,oK⟩,⟨rfl,oK,oK⟩,oK⟩,⟨⟨rfl,oK,oK⟩,oK⟩,oK,oK⟩,⟨oK,rfl⟩⟩⟩⟩⟩
     refine tt ⟨⟨?_,(congrArg _ (?_:f.NJ=((ae f b v).NJ))),?_,?_,?_,?_,?_,?_,oK⟩,?_,oK⟩
     all_goals (all_goals (have RZ:¬bw f=true:=by simp[SP]);all_goals (first | (rw[Bn v RZ];done) | (rw[show b=true from Qe];rfl)))
 · refine tt ⟨(bF Qe),tt ⟨?_,?_⟩⟩
   · intro Qa
     refine gj.vc (V:=TT 3 (((0≤(0:Int)∧0<(2:Int))∧True)∧TT 2 (((0≤(1:Int)∧1<(2:Int))∧True)∧TT 3 ((fun (zz:Nat→St)=>zz 1023=zz 1023∧zz 767=zz 767∧zz 511=zz 511∧zz 383=zz 383∧zz 255=zz 255∧zz 127=zz 127∧True) (oU f Qa)∧(fun (zz:Nat→St) (S6:Prop)=>(sE (zz 2047) True∧True)∧(sE (zz 1023) True∧sE (zz 1791) True∧True)∧(sE (zz 1023) True∧sE (zz 1535) True∧True)∧(sE (zz 511) True∧sE (zz 1407) True∧True)∧(sE (zz 511) True∧sE (zz 767) True∧sE (zz 1279) True∧True)∧(sE (zz 255) True∧sE (zz 383) True∧sE (zz 1151) True∧True)∧(sE (zz 4095) S6∧True)∧(sE (zz 2047) True∧True)∧(sE (zz 2047) True∧True)∧(sE (zz 1535) True∧True)∧(sE (zz 1535) True∧sE (zz 1791) True∧True)∧(sE (zz 1279) True∧sE (zz 1407) True∧True)∧(sE (zz 8191) True∧True)∧True∧True) (oU f Qa) ((0≤(0:Int)∧0<(2:Int))∧True)∧True∧([(wK f),bV,.frame Qa (kx f)]:List ak)=(oV f)++.frame Qa (kx f)::[])))) (.y 0 [(999,.cells [0,2,3,4,5,7,8,1,6,10,9,11,12] (fun _ _=>.junk))] ((fun (zz:Nat→St)=>[(bm 13 1023,zz 1023),(bm 13 767,zz 767),(bm 13 511,zz 511),(bm 13 383,zz 383),(bm 13 255,zz 255),(bm 13 127,zz 127),(bm 13 2047,zz 2047),(bm 13 1791,zz 1791),(bm 13 1535,zz 1535),(bm 13 1407,zz 1407),(bm 13 1279,zz 1279),(bm 13 1151,zz 1151),(bm 13 4095,zz 4095),(bm 13 8191,zz 8191)]) (oU f Qa))<|.e) Try.func44 rfl rfl (by kernel_rfl) ?_
     exact tt ⟨⟨by omega,oK⟩,tt ⟨⟨by omega,oK⟩,tt ⟨⟨rfl,rfl,rfl,rfl,rfl,rfl,oK⟩,⟨⟨⟨⟨rfl,oK,oK⟩,oK⟩,⟨⟨rfl,oK,oK⟩,⟨rfl,oK,oK⟩,oK⟩,⟨⟨rfl,oK,oK⟩,⟨rfl,oK,oK⟩,oK⟩,⟨⟨rfl,oK,oK⟩,⟨rfl,oK,oK⟩,oK⟩,⟨⟨rfl,oK,oK⟩,⟨rfl,oK,oK⟩,⟨rfl,oK,oK⟩,oK⟩,⟨⟨rfl,oK,oK⟩,⟨rfl,oK,oK⟩,⟨rfl,oK,oK⟩,oK⟩,⟨⟨rfl,⟨by omega,oK⟩,oK⟩,oK⟩,⟨⟨rfl,oK,oK⟩,oK⟩,⟨⟨rfl,oK,oK⟩,oK⟩,⟨⟨rfl,oK,oK⟩,oK⟩,⟨⟨rfl,oK,oK⟩,⟨rfl,oK,oK⟩,oK⟩,⟨⟨rfl,oK,oK⟩,⟨rfl,oK,oK⟩,oK⟩,⟨⟨rfl,oK,oK⟩,oK⟩,oK,oK⟩,⟨oK,rfl⟩⟩⟩⟩⟩
   refine tt ⟨⟨?_,(congrArg _ (?_:f.NJ=((ae f b v).NJ))),?_,?_,?_,?_,?_,?_,oK⟩,?_,oK⟩
   all_goals (all_goals (have Wv:b=false:=by simpa using Qe);all_goals (first | (rw[Wv,zx];done) | (rw[Wv];rfl)))
abbrev GP (f:Qf) (b:Bool):Ct:=⟨19,[(.agg (fq f)),(dB b)],true,(.tup [(.agg [(i6 ((aH f b).cap)),(LI ((aH f b).NJ)),(i6 ((aH f b).wr)),(i6 ((aH f b).rd)),(i6 ((aH f b).ws0)),(i6 ((aH f b).ws1)),(i6 ((aH f b).rs0)),(i6 ((aH f b).rs1))]),(.agg [(dB ((gA f b).has)),(i6 ((gA f b).v))])])⟩
abbrev GQ (f:Qf):List ak:=[(.var 42 [(i6 f.cap),(LI f.NJ),(i6 f.wr),(i6 (da f.cap f.rd)),(i6 f.ws0),(i6 f.ws1),(i6 f.rs0),(i6 f.rs1)]),bV,bW,(oc f),.dead,.dead,.dead,.dead,.dead,.dead,.dead,.dead,.dead,.dead]
abbrev qn (f:Qf):List (Nat×D):=(mb f)
abbrev Bq (f:Qf) (Qa:Array Value):List ak:=[(.var 42 [(i6 f.cap),(LI f.NJ),(i6 f.wr),(i6 (da f.cap f.rd)),(i6 f.ws0),(i6 f.ws1),(i6 f.rs0),(i6 f.rs1)]),bV,bW,(oc f),.dead,.dead,.dead,.dead,.dead,.dead,.dead,.dead,.dead,.dead,(.frame Qa (mb f)),.dead,.dead,.dead,.dead,.dead,.dead,.dead,.dead,.dead,.dead]
abbrev Br (f:Qf) (Qa:Array Value):List ak:=[(.var 42 [(i6 f.cap),(LI f.NJ),(i6 f.wr),(i6 (da f.cap f.rd)),(i6 f.ws0),(i6 f.ws0),(i6 f.rs0),(i6 f.rs1)]),bV,bW,(oc f),.dead,.dead,.dead,.dead,.dead,.dead,.dead,.dead,.dead,.dead,(.frame Qa (mb f)),.dead,.dead,.dead,.dead,.dead,.dead,.dead,.dead,.dead,.dead]
abbrev Bs (f:Qf) (Qa:Array Value):List ak:=[(.var 42 (qk f)),bV,bW,(oc f),.dead,.dead,.dead,.dead,.dead,.dead,.dead,.dead,.dead,.dead,(.frame Qa (mb f)),.dead,.dead,.dead,.dead,.dead,.dead,.dead,.dead,.dead,.dead]
def uY (f:Qf) (Qa:Array Value) (zn:Nat):St:=⟨fE zn [(0,0,0,6784,eo),(1,0,0,6400,(i6 f.wr)),(5,128,0,6656,eo),(9,0,0,7168,(i6 f.ws0)),(10,256,0,4096,(i6 f.wr)),(12,0,0,7168,(.ptr 0 0 0 5)),(13,640,0,6144,eo),(14,3968,0,4096,eo)],(if Nat.beq (zn &&& 8064) 8064 then (Bs f Qa)else (if Nat.beq (zn &&& 1024) 1024 then (Br f Qa)else (Bq f Qa)))⟩
abbrev uZ (f:Qf):List ak:=[(.var 42 (qk f)),bV,bW,(oc f),.dead,.dead,.dead,.dead,.dead,.dead,.dead,.dead,.dead,.dead]
abbrev Bt (f:Qf):List ak:=[(.var 42 (qk f)),bV,bW,(oc f),.dead,.dead,.dead,.dead,.dead,.dead,.dead,.dead,.dead,.dead,.dead,.dead,.dead]
abbrev Bu (f:Qf):List ak:=[(.var 42 (qk f)),(.var 42 (qk f)),bW,(oc f),.dead,.dead,.dead,.dead,.dead,.dead,.dead,.dead,.dead,.dead,.dead,.dead,.dead]
abbrev Bv (f:Qf):List ak:=[(.var 42 (qk f)),(.var 42 (qk f)),(oc f),(oc f),.dead,.dead,.dead,.dead,.dead,.dead,.dead,.dead,.dead,.dead,.dead,.dead,.dead]
def u3 (f:Qf) (zn:Nat):St:=⟨fE zn [(4,0,0,0,(.ptr 1 0 0 0)),(5,0,0,0,(.ptr 2 0 0 0)),(6,0,0,10,(.ptr 3 0 0 0)),(32,0,0,12,(.agg (qk f))),(33,2,0,8,(.agg [(dB true),(i6 (f.NJ.getD ((f.rd%f.cap).toNat) 0))]))],(if Nat.beq (zn &&& 14) 14 then (Bv f)else (if Nat.beq (zn &&& 4) 4 then (Bu f)else (Bt f)))⟩
abbrev Ef (f:Qf):List ak:=[(.var 42 (fq f)),bV,bW,bW]
abbrev nh (f:Qf):List (Nat×D):=(mb f)
abbrev zO (f:Qf) (Qa:Array Value):List ak:=[(.var 42 (fq f)),bV,bW,bW,(.frame Qa (mb f)),.dead,.dead,.dead,.dead,.dead,.dead,.dead,.dead,.dead,.dead]
abbrev zP (f:Qf) (Qa:Array Value):List ak:=(GN f Qa)
abbrev zQ (f:Qf) (Qa:Array Value):List ak:=[(.var 42 (i3 f)),bV,bW,bW,(.frame Qa (mb f)),.dead,.dead,.dead,.dead,.dead,.dead,.dead,.dead,.dead,.dead]
def rz (f:Qf) (Qa:Array Value) (zn:Nat):St:=⟨fE zn [(0,0,0,6784,eo),(1,0,0,6400,(i6 f.wr)),(5,128,0,6656,eo),(9,0,0,7168,(i6 f.ws0)),(10,256,0,4096,(i6 f.wr)),(12,0,0,7168,(.ptr 0 0 0 5)),(13,640,0,6144,eo),(14,3968,0,4096,eo)],(if Nat.beq (zn &&& 8064) 8064 then (zQ f Qa)else (if Nat.beq (zn &&& 1024) 1024 then (zP f Qa)else (zO f Qa)))⟩
abbrev rA (f:Qf):List ak:=[(.var 42 (i3 f)),bV,bW,bW]
abbrev zR (f:Qf):List ak:=[(.var 42 (i3 f)),bV,bW,bW,.dead,.dead,.dead]
abbrev zS (f:Qf):List ak:=[(.var 42 (i3 f)),(.var 42 (i3 f)),bW,bW,.dead,.dead,.dead]
def rB (f:Qf) (zn:Nat):St:=⟨fE zn [(4,0,0,0,(.ptr 1 0 0 0)),(5,0,0,0,(.ptr 2 0 0 0)),(6,0,0,10,(.ptr 3 0 0 0)),(32,0,0,12,(.agg (i3 f))),(33,2,0,8,(.agg [(dB false),(i6 0)]))],(if Nat.beq (zn &&& 4) 4 then (zS f)else (zR f))⟩
abbrev Eg (f:Qf):List ak:=[(.var 42 (fq f)),bV,bW,bW]
abbrev ni (f:Qf):List (Nat×D):=(mb f)
abbrev zT (f:Qf) (Qa:Array Value):List ak:=[(.var 42 (fq f)),bV,bW,bW,(.frame Qa (mb f)),.dead,.dead,.dead,.dead,.dead,.dead,.dead,.dead,.dead,.dead]
abbrev zU (f:Qf) (Qa:Array Value):List ak:=(GN f Qa)
abbrev zV (f:Qf) (Qa:Array Value):List ak:=[(.var 42 (i3 f)),bV,bW,bW,(.frame Qa (mb f)),.dead,.dead,.dead,.dead,.dead,.dead,.dead,.dead,.dead,.dead]
def rC (f:Qf) (Qa:Array Value) (zn:Nat):St:=⟨fE zn [(0,0,0,6784,eo),(1,0,0,6400,(i6 f.wr)),(5,128,0,6656,eo),(9,0,0,7168,(i6 f.ws0)),(10,256,0,4096,(i6 f.wr)),(12,0,0,7168,(.ptr 0 0 0 5)),(13,640,0,6144,eo),(14,3968,0,4096,eo)],(if Nat.beq (zn &&& 8064) 8064 then (zV f Qa)else (if Nat.beq (zn &&& 1024) 1024 then (zU f Qa)else (zT f Qa)))⟩
abbrev rD (f:Qf):List ak:=[(.var 42 (i3 f)),bV,bW,bW]
abbrev zW (f:Qf):List ak:=[(.var 42 (i3 f)),bV,bW,bW,.dead,.dead,.dead]
abbrev zX (f:Qf):List ak:=[(.var 42 (i3 f)),(.var 42 (i3 f)),bW,bW,.dead,.dead,.dead]
def rE (f:Qf) (zn:Nat):St:=⟨fE zn [(4,0,0,0,(.ptr 1 0 0 0)),(5,0,0,0,(.ptr 2 0 0 0)),(6,0,0,10,(.ptr 3 0 0 0)),(32,0,0,12,(.agg (i3 f))),(33,2,0,8,(.agg [(dB false),(i6 0)]))],(if Nat.beq (zn &&& 4) 4 then (zX f)else (zW f))⟩
theorem mc (f:Qf) (b:Bool) (h:gJ f):CC (GP f b):=by
 have RH:=h.c1
 have S8:=h.c8
 have Tj:=h.wl
 obtain⟨a1,a2⟩:=h.p0
 obtain⟨b1,b2⟩:=h.p1
 obtain⟨d1,d2⟩:=h.p2
 obtain⟨e1,e2⟩:=h.p3
 obtain⟨g1,g2⟩:=h.p4
 obtain⟨k1,k2⟩:=h.p5
 have UU:=ef RH a1
 have WB:=ef RH b1
 refine ap.vc (V:=TT 4 (CS (b=true) (TT 1 ((True∧b=true)∧TT 1 (CC (Kt f)∧TT 1 (CB (eW f) (TT 6 ((f.cap≠0∧(Int.tmod f.rd f.cap)=(((f.rd%f.cap).toNat:Nat):Int))∧IX (((f.rd%f.cap).toNat:Nat):Int) f.NJ.length∧TT 7 (CC (LW f.cap f.rd)∧TT 5 (xv Try.prog 44 [eo,(i6 f.wr)] (GQ f) (qn f) (uZ f) [] (.tup [])∧TT 2 ((fun (zz:Nat→St)=>zz 3=zz 3∧zz 1=zz 1∧True) (u3 f)∧(fun (zz:Nat→St)=>(sE (zz 7) True∧True)∧(sE (zz 3) True∧sE (zz 5) True∧True)∧(sE (zz 15) True∧True)∧(sE (zz 7) True∧True)∧True∧True) (u3 f)∧TT 2 ((f.cap=((aH f b).cap)∧f.NJ.map (ac .i64)=((aH f b).NJ).map (ac .i64)∧f.wr=((aH f b).wr)∧(da f.cap f.rd)=((aH f b).rd)∧f.wr=((aH f b).ws0)∧f.ws0=((aH f b).ws1)∧f.rs0=((aH f b).rs0)∧f.rs1=((aH f b).rs1)∧True)∧(true=((gA f b).has)∧(f.NJ.getD ((f.rd%f.cap).toNat) 0)=((gA f b).v)∧True)∧True)))))) (TT 3 (xv Try.prog 44 [eo,(i6 f.wr)] (Ef f) (nh f) (rA f) [] (.tup [])∧TT 2 ((fun (zz:Nat→St)=>zz 3=zz 3∧zz 1=zz 1∧True) (rB f)∧(fun (zz:Nat→St)=>(sE (zz 7) True∧True)∧(sE (zz 3) True∧sE (zz 5) True∧True)∧(sE (zz 15) True∧True)∧(sE (zz 7) True∧True)∧True∧True) (rB f)∧TT 2 ((f.cap=((aH f b).cap)∧f.NJ.map (ac .i64)=((aH f b).NJ).map (ac .i64)∧f.wr=((aH f b).wr)∧f.rd=((aH f b).rd)∧f.wr=((aH f b).ws0)∧f.ws0=((aH f b).ws1)∧f.rs0=((aH f b).rs0)∧f.rs1=((aH f b).rs1)∧True)∧(false=((gA f b).has)∧(0:Int)=((gA f b).v)∧True)∧True)))))))) (TT 1 ((True∧b=false)∧TT 6 (xv Try.prog 44 [eo,(i6 f.wr)] (Eg f) (ni f) (rD f) [] (.tup [])∧TT 2 ((fun (zz:Nat→St)=>zz 3=zz 3∧zz 1=zz 1∧True) (rE f)∧(fun (zz:Nat→St)=>(sE (zz 7) True∧True)∧(sE (zz 3) True∧sE (zz 5) True∧True)∧(sE (zz 15) True∧True)∧(sE (zz 7) True∧True)∧True∧True) (rE f)∧TT 2 ((f.cap=((aH f b).cap)∧f.NJ.map (ac .i64)=((aH f b).NJ).map (ac .i64)∧f.wr=((aH f b).wr)∧f.rd=((aH f b).rd)∧f.wr=((aH f b).ws0)∧f.ws0=((aH f b).ws1)∧f.rs0=((aH f b).rs0)∧f.rs1=((aH f b).rs1)∧True)∧(false=((gA f b).has)∧(0:Int)=((gA f b).v)∧True)∧True))))))) (.s 2 (b=true) (.w 2 [(1,.val (dB true)),(3,(Kt f).O)]<|.b 11 (.w 3 [(6,.val (i6 (((f.rd%f.cap).toNat:Nat):Int)))]<|.w 4 [(4,(LW f.cap f.rd).O)]<|.q 5 [2,4,5,6] 14<|.w 5 [(3,.inl (.tup []) (qn f) ((uZ f)++.dead::[]))]<|.y 6 [] ((fun (zz:Nat→St)=>[(bm 4 3,zz 3),(bm 4 1,zz 1),(bm 4 7,zz 7),(bm 4 5,zz 5),(bm 4 15,zz 15)]) (u3 f))<|.e) (.q 5 [2,4,5,6] 4<|.w 5 [(3,.inl (.tup []) (nh f) ((rA f)++.dead::[]))]<|.y 6 [] ((fun (zz:Nat→St)=>[(bm 4 3,zz 3),(bm 4 1,zz 1),(bm 4 7,zz 7),(bm 4 5,zz 5),(bm 4 15,zz 15)]) (rB f))<|.e)) (.w 2 [(1,.val (dB false))]<|.q 5 [2,4,5,6] 4<|.w 5 [(3,.inl (.tup []) (ni f) ((rD f)++.dead::[]))]<|.y 6 [] ((fun (zz:Nat→St)=>[(bm 4 3,zz 3),(bm 4 1,zz 1),(bm 4 7,zz 7),(bm 4 5,zz 5),(bm 4 15,zz 15)]) (rE f))<|.e)) Try.func19 rfl rfl rfl (by kernel_rfl) ?_
 refine tt ⟨fun Qe=>?_,fun Qe=>?_⟩
 · refine tt ⟨(bT Qe),tt ⟨(x6 f),tt ⟨fun RE=>?_,fun RE=>?_⟩⟩⟩
   · refine tt ⟨⟨om,(WB.2.1.trans WB.1.symm)⟩,⟨ix,tt ⟨(zG f.cap f.rd (by omega) (by omega) (by omega)),tt ⟨?_,?_⟩⟩⟩⟩
     · intro Qa
       refine gj.vc (V:=TT 3 (((0≤(0:Int)∧0<(2:Int))∧True)∧TT 2 (((0≤(1:Int)∧1<(2:Int))∧True)∧TT 3 ((fun (zz:Nat→St)=>zz 1023=zz 1023∧zz 767=zz 767∧zz 511=zz 511∧zz 383=zz 383∧zz 255=zz 255∧zz 127=zz 127∧True) (uY f Qa)∧(fun (zz:Nat→St) (S6:Prop)=>(sE (zz 2047) True∧True)∧(sE (zz 1023) True∧sE (zz 1791) True∧True)∧(sE (zz 1023) True∧sE (zz 1535) True∧True)∧(sE (zz 511) True∧sE (zz 1407) True∧True)∧(sE (zz 511) True∧sE (zz 767) True∧sE (zz 1279) True∧True)∧(sE (zz 255) True∧sE (zz 383) True∧sE (zz 1151) True∧True)∧(sE (zz 4095) S6∧True)∧(sE (zz 2047) True∧True)∧(sE (zz 2047) True∧True)∧(sE (zz 1535) True∧True)∧(sE (zz 1535) True∧sE (zz 1791) True∧True)∧(sE (zz 1279) True∧sE (zz 1407) True∧True)∧(sE (zz 8191) True∧True)∧True∧True) (uY f Qa) ((0≤(0:Int)∧0<(2:Int))∧True)∧True∧([(.var 42 (qk f)),bV,bW,(oc f),.dead,.dead,.dead,.dead,.dead,.dead,.dead,.dead,.dead,.dead,.frame Qa (qn f)]:List ak)=(uZ f)++.frame Qa (qn f)::[])))) (.y 0 [(999,.cells [0,2,3,4,5,7,8,1,6,10,9,11,12] (fun _ _=>.junk))] ((fun (zz:Nat→St)=>[(bm 13 1023,zz 1023),(bm 13 767,zz 767),(bm 13 511,zz 511),(bm 13 383,zz 383),(bm 13 255,zz 255),(bm 13 127,zz 127),(bm 13 2047,zz 2047),(bm 13 1791,zz 1791),(bm 13 1535,zz 1535),(bm 13 1407,zz 1407),(bm 13 1279,zz 1279),(bm 13 1151,zz 1151),(bm 13 4095,zz 4095),(bm 13 8191,zz 8191)]) (uY f Qa))<|.e) Try.func44 rfl rfl (by kernel_rfl) ?_
       exact tt ⟨⟨by omega,oK⟩,tt ⟨⟨by omega,oK⟩,tt ⟨⟨rfl,rfl,rfl,rfl,rfl,rfl,oK⟩,⟨⟨⟨⟨rfl,oK,oK⟩,oK⟩,⟨⟨rfl,oK,oK⟩,⟨rfl,oK,oK⟩,oK⟩,⟨⟨rfl,oK,oK⟩,⟨rfl,oK,oK⟩,oK⟩,⟨⟨rfl,oK,oK⟩,⟨rfl,oK,oK⟩,oK⟩,⟨⟨rfl,oK,oK⟩,⟨rfl,oK,oK⟩,⟨rfl,oK,oK⟩,oK⟩,⟨⟨rfl,oK,oK⟩,⟨rfl,oK,oK⟩,⟨rfl,oK,oK⟩,oK⟩,⟨⟨rfl,⟨by omega,oK⟩,oK⟩,oK⟩,⟨⟨rfl,oK,oK⟩,oK⟩,⟨⟨rfl,oK,oK⟩,oK⟩,⟨⟨rfl,oK,oK⟩,oK⟩,⟨⟨rfl,oK,oK⟩,⟨rfl,oK,oK⟩,oK⟩,⟨⟨rfl,oK,oK⟩,⟨rfl,oK,oK⟩,oK⟩,⟨⟨rfl,oK,oK⟩,oK⟩,oK,oK⟩,⟨oK,rfl⟩⟩⟩⟩⟩
     refine tt ⟨⟨rfl,rfl,oK⟩,⟨⟨⟨⟨rfl,oK,oK⟩,oK⟩,⟨⟨rfl,oK,oK⟩,⟨rfl,oK,oK⟩,oK⟩,⟨⟨rfl,oK,oK⟩,oK⟩,⟨⟨rfl,oK,oK⟩,oK⟩,oK,oK⟩,tt ⟨⟨?_,(congrArg _ (?_:f.NJ=((aH f b).NJ))),?_,?_,?_,?_,?_,?_,oK⟩,⟨?_,?_,oK⟩,oK⟩⟩⟩
     all_goals (all_goals (first | (rw[show b=true from Qe,zy RE];done) | (rw[show b=true from Qe,rn RE];done) | (rw[show b=true from Qe,rn RE];rfl)))
   · refine tt ⟨?_,?_⟩
     · intro Qa
       refine gj.vc (V:=TT 3 (((0≤(0:Int)∧0<(2:Int))∧True)∧TT 2 (((0≤(1:Int)∧1<(2:Int))∧True)∧TT 3 ((fun (zz:Nat→St)=>zz 1023=zz 1023∧zz 767=zz 767∧zz 511=zz 511∧zz 383=zz 383∧zz 255=zz 255∧zz 127=zz 127∧True) (rz f Qa)∧(fun (zz:Nat→St) (S6:Prop)=>(sE (zz 2047) True∧True)∧(sE (zz 1023) True∧sE (zz 1791) True∧True)∧(sE (zz 1023) True∧sE (zz 1535) True∧True)∧(sE (zz 511) True∧sE (zz 1407) True∧True)∧(sE (zz 511) True∧sE (zz 767) True∧sE (zz 1279) True∧True)∧(sE (zz 255) True∧sE (zz 383) True∧sE (zz 1151) True∧True)∧(sE (zz 4095) S6∧True)∧(sE (zz 2047) True∧True)∧(sE (zz 2047) True∧True)∧(sE (zz 1535) True∧True)∧(sE (zz 1535) True∧sE (zz 1791) True∧True)∧(sE (zz 1279) True∧sE (zz 1407) True∧True)∧(sE (zz 8191) True∧True)∧True∧True) (rz f Qa) ((0≤(0:Int)∧0<(2:Int))∧True)∧True∧([(.var 42 (i3 f)),bV,bW,bW,.frame Qa (nh f)]:List ak)=(rA f)++.frame Qa (nh f)::[])))) (.y 0 [(999,.cells [0,2,3,4,5,7,8,1,6,10,9,11,12] (fun _ _=>.junk))] ((fun (zz:Nat→St)=>[(bm 13 1023,zz 1023),(bm 13 767,zz 767),(bm 13 511,zz 511),(bm 13 383,zz 383),(bm 13 255,zz 255),(bm 13 127,zz 127),(bm 13 2047,zz 2047),(bm 13 1791,zz 1791),(bm 13 1535,zz 1535),(bm 13 1407,zz 1407),(bm 13 1279,zz 1279),(bm 13 1151,zz 1151),(bm 13 4095,zz 4095),(bm 13 8191,zz 8191)]) (rz f Qa))<|.e) Try.func44 rfl rfl (by kernel_rfl) ?_
       exact tt ⟨⟨by omega,oK⟩,tt ⟨⟨by omega,oK⟩,tt ⟨⟨rfl,rfl,rfl,rfl,rfl,rfl,oK⟩,⟨⟨⟨⟨rfl,oK,oK⟩,oK⟩,⟨⟨rfl,oK,oK⟩,⟨rfl,oK,oK⟩,oK⟩,⟨⟨rfl,oK,oK⟩,⟨rfl,oK,oK⟩,oK⟩,⟨⟨rfl,oK,oK⟩,⟨rfl,oK,oK⟩,oK⟩,⟨⟨rfl,oK,oK⟩,⟨rfl,oK,oK⟩,⟨rfl,oK,oK⟩,oK⟩,⟨⟨rfl,oK,oK⟩,⟨rfl,oK,oK⟩,⟨rfl,oK,oK⟩,oK⟩,⟨⟨rfl,⟨by omega,oK⟩,oK⟩,oK⟩,⟨⟨rfl,oK,oK⟩,oK⟩,⟨⟨rfl,oK,oK⟩,oK⟩,⟨⟨rfl,oK,oK⟩,oK⟩,⟨⟨rfl,oK,oK⟩,⟨rfl,oK,oK⟩,oK⟩,⟨⟨rfl,oK,oK⟩,⟨rfl,oK,oK⟩,oK⟩,⟨⟨rfl,oK,oK⟩,oK⟩,oK,oK⟩,⟨oK,rfl⟩⟩⟩⟩⟩
     refine tt ⟨⟨rfl,rfl,oK⟩,⟨⟨⟨⟨rfl,oK,oK⟩,oK⟩,⟨⟨rfl,oK,oK⟩,⟨rfl,oK,oK⟩,oK⟩,⟨⟨rfl,oK,oK⟩,oK⟩,⟨⟨rfl,oK,oK⟩,oK⟩,oK,oK⟩,tt ⟨⟨?_,(congrArg _ (?_:f.NJ=((aH f b).NJ))),?_,?_,?_,?_,?_,?_,oK⟩,⟨?_,?_,oK⟩,oK⟩⟩⟩
     all_goals (all_goals (have RZ:¬eW f=true:=by simp[RE]);all_goals (first | (rw[rq RZ];done) | (rw[wH RZ];done) | (rw[wH RZ];rfl)))
 · refine tt ⟨(bF Qe),tt ⟨?_,?_⟩⟩
   · intro Qa
     refine gj.vc (V:=TT 3 (((0≤(0:Int)∧0<(2:Int))∧True)∧TT 2 (((0≤(1:Int)∧1<(2:Int))∧True)∧TT 3 ((fun (zz:Nat→St)=>zz 1023=zz 1023∧zz 767=zz 767∧zz 511=zz 511∧zz 383=zz 383∧zz 255=zz 255∧zz 127=zz 127∧True) (rC f Qa)∧(fun (zz:Nat→St) (S6:Prop)=>(sE (zz 2047) True∧True)∧(sE (zz 1023) True∧sE (zz 1791) True∧True)∧(sE (zz 1023) True∧sE (zz 1535) True∧True)∧(sE (zz 511) True∧sE (zz 1407) True∧True)∧(sE (zz 511) True∧sE (zz 767) True∧sE (zz 1279) True∧True)∧(sE (zz 255) True∧sE (zz 383) True∧sE (zz 1151) True∧True)∧(sE (zz 4095) S6∧True)∧(sE (zz 2047) True∧True)∧(sE (zz 2047) True∧True)∧(sE (zz 1535) True∧True)∧(sE (zz 1535) True∧sE (zz 1791) True∧True)∧(sE (zz 1279) True∧sE (zz 1407) True∧True)∧(sE (zz 8191) True∧True)∧True∧True) (rC f Qa) ((0≤(0:Int)∧0<(2:Int))∧True)∧True∧([(.var 42 (i3 f)),bV,bW,bW,.frame Qa (ni f)]:List ak)=(rD f)++.frame Qa (ni f)::[])))) (.y 0 [(999,.cells [0,2,3,4,5,7,8,1,6,10,9,11,12] (fun _ _=>.junk))] ((fun (zz:Nat→St)=>[(bm 13 1023,zz 1023),(bm 13 767,zz 767),(bm 13 511,zz 511),(bm 13 383,zz 383),(bm 13 255,zz 255),(bm 13 127,zz 127),(bm 13 2047,zz 2047),(bm 13 1791,zz 1791),(bm 13 1535,zz 1535),(bm 13 1407,zz 1407),(bm 13 1279,zz 1279),(bm 13 1151,zz 1151),(bm 13 4095,zz 4095),(bm 13 8191,zz 8191)]) (rC f Qa))<|.e) Try.func44 rfl rfl (by kernel_rfl) ?_
     exact tt ⟨⟨by omega,oK⟩,tt ⟨⟨by omega,oK⟩,tt ⟨⟨rfl,rfl,rfl,rfl,rfl,rfl,oK⟩,⟨⟨⟨⟨rfl,oK,oK⟩,oK⟩,⟨⟨rfl,oK,oK⟩,⟨rfl,oK,oK⟩,oK⟩,⟨⟨rfl,oK,oK⟩,⟨rfl,oK,oK⟩,oK⟩,⟨⟨rfl,oK,oK⟩,⟨rfl,oK,oK⟩,oK⟩,⟨⟨rfl,oK,oK⟩,⟨rfl,oK,oK⟩,⟨rfl,oK,oK⟩,oK⟩,⟨⟨rfl,oK,oK⟩,⟨rfl,oK,oK⟩,⟨rfl,oK,oK⟩,oK⟩,⟨⟨rfl,⟨by omega,oK⟩,oK⟩,oK⟩,⟨⟨rfl,oK,oK⟩,oK⟩,⟨⟨rfl,oK,oK⟩,oK⟩,⟨⟨rfl,oK,oK⟩,oK⟩,⟨⟨rfl,oK,oK⟩,⟨rfl,oK,oK⟩,oK⟩,⟨⟨rfl,oK,oK⟩,⟨rfl,oK,oK⟩,oK⟩,⟨⟨rfl,oK,oK⟩,oK⟩,oK,oK⟩,⟨oK,rfl⟩⟩⟩⟩⟩
   refine tt ⟨⟨rfl,rfl,oK⟩,⟨⟨⟨⟨rfl,oK,oK⟩,oK⟩,⟨⟨rfl,oK,oK⟩,⟨rfl,oK,oK⟩,oK⟩,⟨⟨rfl,oK,oK⟩,oK⟩,⟨⟨rfl,oK,oK⟩,oK⟩,oK,oK⟩,tt ⟨⟨?_,(congrArg _ (?_:f.NJ=((aH f b).NJ))),?_,?_,?_,?_,?_,?_,oK⟩,⟨?_,?_,oK⟩,oK⟩⟩⟩
   all_goals (all_goals (have Wv:b=false:=by simpa using Qe);all_goals (first | (rw[Wv,C5];done) | (rw[Wv,rp];done) | (rw[Wv,rp];rfl)))
abbrev LZ (f:Qf):Ct:=⟨16,[(.agg (fq f))],true,(LI (qW f))⟩
abbrev nj (f:Qf):Lp (Nat):=lm [1,3,6,7] 2 (fun (i:Nat)=>⟨[(1,(.ptr 0 0 0 0)),(3,(.own 1)),(6,(i6 (b8 f))),(7,(i6 (i:Int)))],[(.var 42 (fq f)),(.arr 3 1 (ac .i64) 0 (tab (wQ f) i))]⟩) (fun (i:Nat)=>i≤(b8 f).toNat) (fun (i:Nat)=>(b8 f).toNat-i)
theorem wM (f:Qf) (h:gJ f):CC (LZ f):=by
 have RH:=h.c1
 have S8:=h.c8
 have Tj:=h.wl
 obtain⟨a1,a2⟩:=h.p0
 obtain⟨b1,b2⟩:=h.p1
 obtain⟨d1,d2⟩:=h.p2
 obtain⟨e1,e2⟩:=h.p3
 obtain⟨g1,g2⟩:=h.p4
 obtain⟨k1,k2⟩:=h.p5
 have UU:=ef RH a1
 have WB:=ef RH b1
 obtain⟨l0,l1⟩:=ri h
 refine ap.vc (V:=TT 4 (CC (MS f)∧TT 1 (GO (nj f) 0 (∀i,(nj f).inv i→TT 1 (CD ((i:Int)<(b8 f)) (TT 8 (W6 (f.rd+(i:Int))∧TT 2 ((f.cap≠0∧(Int.tmod (f.rd+(i:Int)) f.cap)=((((f.rd+i)%f.cap).toNat:Nat):Int))∧IX ((((f.rd+i)%f.cap).toNat:Nat):Int) f.NJ.length∧TT 1 (av [[(i6 (f.NJ.getD (((f.rd+i)%f.cap).toNat) 0))]] ([(f.NJ.getD (((f.rd+i)%f.cap).toNat) 0)].map (ac .i64))∧((tab (wQ f) i).length+([(f.NJ.getD (((f.rd+i)%f.cap).toNat) 0)].map (ac .i64)).length≤137438953472∧(tab (wQ f) i).map (ac .i64)++[(f.NJ.getD (((f.rd+i)%f.cap).toNat) 0)].map (ac .i64)=(tab (wQ f) (i+1)).map (ac .i64))∧TT 1 (W6 ((i+1:Nat):Int)∧TT 1 (AG (nj f) i (i+1))))))) (TT 3 ((tab (wQ f) i).map (ac .i64)=(qW f).map (ac .i64)))))))) (.gs 2 3 3 1 (ac .i64) 0<|.w 2 [(1,(MS f).O)]<|.l (nj f) 0 (fun i=>.b 8 (.w 5 [(6,.val (i6 (f.rd+(i:Int)))),(9,.val (i6 ((((f.rd+i)%f.cap).toNat:Nat):Int))),(12,.box 3 1 (ac .i64) 0 [(f.NJ.getD (((f.rd+i)%f.cap).toNat) 0)]),(13,.box 3 1 (ac .i64) 0 (tab (wQ f) (i+1)))]<|.w 6 [(0,.val (i6 ((i+1:Nat):Int)))]<|.e) (.e))) Try.func16 rfl rfl rfl (by kernel_rfl) ?_
 refine tt ⟨(Iq f h),tt ⟨rfl,(Oy _),?_⟩⟩
 intro i L'
 have hi:=L'
 refine tt (cd (fun S8=>?_) (fun S8=>?_))
 · refine tt ⟨w6,tt ⟨⟨om,(by have hm:=ef (p:=f.rd+i) RH (by omega);exact hm.2.1.trans hm.1.symm)⟩,⟨(by exact(⟨by omega,by have hm:=ef (p:=f.rd+i) RH (by omega);omega⟩:0≤((((f.rd+i)%f.cap).toNat:Nat):Int)∧((((f.rd+i)%f.cap).toNat:Nat):Int)<(f.NJ.length:Int))),tt ⟨⟨⟨rfl,oK⟩,oK⟩,⟨(ba (by omega) rfl),tt ⟨w6,tt ⟨(i+1),rfl,(?_:(i+1)≤(b8 f).toNat),(?_:(b8 f).toNat-(i+1)<(b8 f).toNat-i)⟩⟩⟩⟩⟩⟩⟩
   · omega
   · omega
 · refine tt (congrArg _ (?_:(tab (wQ f) i)=(qW f)))
   rw[show i=(b8 f).toNat by omega];rfl
abbrev GR (f:Qf) (a b:Int):Ct:=⟨27,[(.agg (fq f)),(i6 a),(i6 b)],false,(i6 (cD f.cap a b))⟩
theorem jy (f:Qf) (a b:Int) (RH:1≤f.cap) (S8:f.cap≤8) (ha:0≤a∧a<2*f.cap) (hb:0≤b∧b<2*f.cap):CC (GR f a b):=by
 refine ap.vc (V:=TT 4 (W6 (a-b)∧TT 2 (W6 (2*f.cap)∧W6 ((a-b)+(2*f.cap))∧TT 2 (W6 (2*f.cap)∧((2*f.cap)≠0∧(Int.tmod ((a-b)+(2*f.cap)) (2*f.cap))=(cD f.cap a b))∧TT 2 ((cD f.cap a b)=(cD f.cap a b)∧True))))) (.w 1 [(2,.val (i6 (a-b))),(5,.val (i6 (2*f.cap))),(6,.val (i6 ((a-b)+(2*f.cap)))),(9,.val (i6 (2*f.cap))),(10,.val (i6 (cD f.cap a b)))]<|.e) Try.func27 rfl rfl rfl (by kernel_rfl) ?_
 exact tt ⟨w6,tt ⟨w6,⟨w6,tt ⟨w6,⟨⟨om,(Im ha hb)⟩,tt ⟨rfl,oK⟩⟩⟩⟩⟩⟩
abbrev L0 (f:Qf):Ct:=⟨26,[(.agg (fq f))],false,(i6 (b8 f))⟩
theorem Dc (f:Qf) (h:gJ f):CC (L0 f):=by
 have RH:=h.c1
 have S8:=h.c8
 have Tj:=h.wl
 obtain⟨a1,a2⟩:=h.p0
 obtain⟨b1,b2⟩:=h.p1
 obtain⟨d1,d2⟩:=h.p2
 obtain⟨e1,e2⟩:=h.p3
 obtain⟨g1,g2⟩:=h.p4
 obtain⟨k1,k2⟩:=h.p5
 have UU:=ef RH a1
 have WB:=ef RH b1
 refine ap.vc (V:=TT 7 (CC (GR f f.wr f.rd)∧TT 2 ((cD f.cap f.wr f.rd)=(b8 f)∧True))) (.w 1 [(5,(GR f f.wr f.rd).O)]<|.e) Try.func26 rfl rfl rfl (by kernel_rfl) ?_
 refine tt ⟨(jy f f.wr f.rd (by omega) (by omega) (by omega) (by omega)),tt ⟨?_,oK⟩⟩
 rfl
theorem Ku {f:Qf} (h:gJ f):∀k:Nat,0≤[f.wr,f.rd,f.ws0,f.ws1,f.rs0,f.rs1].getD k 0∧[f.wr,f.rd,f.ws0,f.ws1,f.rs0,f.rs1].getD k 0<2*f.cap
  | 0=>h.p0
  | 1=>h.p1
  | 2=>h.p2
  | 3=>h.p3
  | 4=>h.p4
  | 5=>h.p5
  | _+6=>by
    have:=h.c1
    show(0:Int)≤0∧(0:Int)<2*f.cap
    omega
abbrev c9 (f:Qf):Ct:=⟨9,[(.agg (fq f))],false,(i6 0)⟩
abbrev ky (f:Qf):Lp (Nat):=lm [1,3,4] 2 (fun (k:Nat)=>⟨[(1,(.ptr 0 0 0 0)),(3,(LI [f.wr,f.rd,f.ws0,f.ws1,f.rs0,f.rs1])),(4,(i6 (k:Int)))],[(.var 42 (fq f)),.dead]⟩) (fun (k:Nat)=>k≤6) (fun (k:Nat)=>6-k)
theorem bJ (f:Qf) (h:gJ f):CC (c9 f):=by
 have RH:=h.c1
 have S8:=h.c8
 have Tj:=h.wl
 obtain⟨a1,a2⟩:=h.p0
 obtain⟨b1,b2⟩:=h.p1
 obtain⟨d1,d2⟩:=h.p2
 obtain⟨e1,e2⟩:=h.p3
 obtain⟨g1,g2⟩:=h.p4
 obtain⟨k1,k2⟩:=h.p5
 have UU:=ef RH a1
 have WB:=ef RH b1
 have hlb:=h.lb
 have hul:=h.ul
 have n1:=dR h.p1 h.p4
 have n2:=dR h.p4 h.p5
 have n3:=dR h.p0 h.p2
 have n4:=dR h.p2 h.p3
 have n5:=ri h
 have hpt:=Ku h
 refine ap.vc (V:=TT 5 ((True∧(decide (f.cap<1))=false)∧TT 4 ((True∧(decide (f.cap>8))=false)∧TT 7 ((!decide ((f.NJ.length:Int)=f.cap))=false∧TT 5 (((0≤(0:Int)∧0<(2:Int))∧True)∧TT 2 (((0≤(1:Int)∧1<(2:Int))∧True)∧TT 2 (((0≤(0:Int)∧0<(2:Int))∧True)∧TT 2 (((0≤(1:Int)∧1<(2:Int))∧True)∧TT 1 (av [[(i6 f.wr)],[(i6 f.rd)],[(i6 f.ws0)],[(i6 f.ws1)],[(i6 f.rs0)],[(i6 f.rs1)]] ([f.wr,f.rd,f.ws0,f.ws1,f.rs0,f.rs1].map (ac .i64))∧TT 2 (GO (ky f) 0 (∀k,(ky f).inv k→TT 2 ((True∧(([f.wr,f.rd,f.ws0,f.ws1,f.rs0,f.rs1].length:Nat):Int)=6)∧TT 1 (CD ((k:Int)<6) (TT 2 (IX (k:Int) ([f.wr,f.rd,f.ws0,f.ws1,f.rs0,f.rs1].length)∧TT 2 ((True∧(decide (([f.wr,f.rd,f.ws0,f.ws1,f.rs0,f.rs1].getD k 0)<0))=false)∧TT 2 (IX (k:Int) ([f.wr,f.rd,f.ws0,f.ws1,f.rs0,f.rs1].length)∧TT 3 (W6 (2*f.cap)∧TT 2 ((decide (([f.wr,f.rd,f.ws0,f.ws1,f.rs0,f.rs1].getD k 0)≥(2*f.cap)))=false∧TT 1 (W6 ((k+1:Nat):Int)∧TT 1 (AG (ky f) k (k+1))))))))) (TT 1 (CC (L0 f)∧TT 4 (((0≤(0:Int)∧0<(2:Int))∧True)∧TT 1 (CC (GR f f.rd f.rs0)∧W6 ((b8 f)+(cD f.cap f.rd f.rs0))∧TT 2 (((0≤(0:Int)∧0<(2:Int))∧True)∧TT 2 (((0≤(1:Int)∧1<(2:Int))∧True)∧TT 1 (CC (GR f f.rs0 f.rs1)∧W6 (((b8 f)+(cD f.cap f.rd f.rs0))+(cD f.cap f.rs0 f.rs1))∧TT 3 ((True∧(decide ((((b8 f)+(cD f.cap f.rd f.rs0))+(cD f.cap f.rs0 f.rs1))>f.cap))=false)∧TT 4 (((0≤(0:Int)∧0<(2:Int))∧True)∧TT 1 (CC (GR f f.wr f.ws0)∧TT 2 (((0≤(0:Int)∧0<(2:Int))∧True)∧TT 2 (((0≤(1:Int)∧1<(2:Int))∧True)∧TT 1 (CC (GR f f.ws0 f.ws1)∧W6 ((cD f.cap f.wr f.ws0)+(cD f.cap f.ws0 f.ws1))∧TT 1 (CC (L0 f)∧TT 2 ((decide (((cD f.cap f.wr f.ws0)+(cD f.cap f.ws0 f.ws1))>(b8 f)))=false∧TT 2 ((0:Int)=0∧True))))))))))))))))))))))))))))) (.w 1 [(3,.val (dB false)),(8,.val (dB false))]<|.u 20 (.w 3 [(16,.frz 3 1 (ac .i64) 0 [f.wr,f.rd,f.ws0,f.ws1,f.rs0,f.rs1])]<|.l (ky f) 0 (fun k=>.w 5 [(2,.val (i6 6))]<|.b 41 (.w 7 [(5,.val (dB false)),(12,.val (i6 (2*f.cap)))]<|.u 58 (.w 6 [(1,.val (i6 ((k+1:Nat):Int)))]<|.e)) (.w 9 [(1,(L0 f).O),(8,(GR f f.rd f.rs0).O),(9,.val (i6 ((b8 f)+(cD f.cap f.rd f.rs0)))),(17,(GR f f.rs0 f.rs1).O),(18,.val (i6 (((b8 f)+(cD f.cap f.rd f.rs0))+(cD f.cap f.rs0 f.rs1)))),(22,.val (dB false)),(29,(GR f f.wr f.ws0).O),(37,(GR f f.ws0 f.ws1).O),(38,.val (i6 ((cD f.cap f.wr f.ws0)+(cD f.cap f.ws0 f.ws1)))),(40,(L0 f).O)]<|.u 101 (.e))))) Try.func9 rfl rfl rfl (by kernel_rfl) ?_
 refine tt ⟨(vF (by omega)),tt ⟨(vF (by omega)),tt ⟨(L9 (by omega)),tt ⟨⟨by omega,oK⟩,tt ⟨⟨by omega,oK⟩,tt ⟨⟨by omega,oK⟩,tt ⟨⟨by omega,oK⟩,tt ⟨⟨⟨rfl,oK⟩,⟨rfl,oK⟩,⟨rfl,oK⟩,⟨rfl,oK⟩,⟨rfl,oK⟩,⟨rfl,oK⟩,oK⟩,tt ⟨rfl,(by omega),?_⟩⟩⟩⟩⟩⟩⟩⟩⟩
 intro k L'
 have hk:=L'
 refine tt ⟨⟨oK,rfl⟩,tt (cd (fun hc41=>?_) (fun hc41=>?_))⟩
 · obtain⟨z1,z2⟩:=hpt k
   refine tt ⟨(by exact(⟨by omega,by show(k:Int)<((6:Nat):Int);omega⟩:0≤(k:Int)∧(k:Int)<((6:Nat):Int))),tt ⟨(vF (by omega)),tt ⟨(by exact(⟨by omega,by show(k:Int)<((6:Nat):Int);omega⟩:0≤(k:Int)∧(k:Int)<((6:Nat):Int))),tt ⟨w6,tt ⟨(N5 (by omega)),tt ⟨w6,tt ⟨(k+1),rfl,(?_:(k+1)≤6),(?_:6-(k+1)<6-k)⟩⟩⟩⟩⟩⟩⟩
   · omega
   · omega
 · exact tt ⟨(Dc f h),tt ⟨⟨by omega,oK⟩,tt ⟨(jy f f.rd f.rs0 (by omega) (by omega) (by omega) (by omega)),⟨w6,tt ⟨⟨by omega,oK⟩,tt ⟨⟨by omega,oK⟩,tt ⟨(jy f f.rs0 f.rs1 (by omega) (by omega) (by omega) (by omega)),⟨w6,tt ⟨(vF (by unfold uQ at hlb;omega)),tt ⟨⟨by omega,oK⟩,tt ⟨(jy f f.wr f.ws0 (by omega) (by omega) (by omega) (by omega)),tt ⟨⟨by omega,oK⟩,tt ⟨⟨by omega,oK⟩,tt ⟨(jy f f.ws0 f.ws1 (by omega) (by omega) (by omega) (by omega)),⟨w6,tt ⟨(Dc f h),tt ⟨(N5 (by unfold Ea at hul;omega)),tt ⟨rfl,oK⟩⟩⟩⟩⟩⟩⟩⟩⟩⟩⟩⟩⟩⟩⟩⟩⟩⟩
end Go.Proofs.Ytcejcppjedhicaa
