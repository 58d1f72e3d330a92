/- Parts of a proof. -/
import Derived.Test.YtnlmlkbaflmgcaaGreatQVrA
namespace Go.Proofs.YtnlmlkbaflmgcaaGreat
open Go.RowKit
set_option linter.unusedVariables false
set_option linter.unusedSimpArgs false
abbrev qA (p:Pr):aC:=(.var 76 [(dS p.name),(dS p.clock),(dL 13 bO aI p.Ul),(dL 27 b8 ay p.Uk),(dL 9 dU bC p.I),(dL 16 dQ bt p.Uj)])
abbrev Gl (p:Pr) (s:Ps) (hs:List Hd):aC:=(.var 195 [(dS p.name),(dS p.clock),(dL 13 bO aI p.Ul),(dL 27 b8 ay p.Uk),(dL 9 dU bC p.I),(dL 16 dQ bt p.Uj),(LI s.Ul),(dL 1 aa [] s.Uk),(LI (b5 p s hs))])
abbrev Gm (p:Pr):D:=(.agg [(dS p.name),(dS p.clock),(dL 13 bO aI p.Ul),(dL 27 b8 ay p.Uk),(dL 9 dU bC p.I),(dL 16 dQ bt p.Uj)])
abbrev KG (p:Pr) (s:Ps) (data:List Int):aC:=(.var 195 [(dS p.name),(dS p.clock),(dL 13 bO aI p.Ul),(dL 27 b8 ay p.Uk),(dL 9 dU bC p.I),(dL 16 dQ bt p.Uj),(LI s.Ul),(dL 1 aa [] s.Uk),(LI data)])
abbrev KH (p:Pr) (s:Ps) (data:List Int):D:=(.agg [(dS p.name),(dS p.clock),(dL 13 bO aI p.Ul),(dL 27 b8 ay p.Uk),(dL 9 dU bC p.I),(dL 16 dQ bt p.Uj),(LI s.Ul),(dL 1 aa [] s.Uk),(LI data)])
abbrev oC (s:Ps):List D:=[(LI s.Ul),(dL 1 aa [] s.Uk)]
abbrev qB (i:Nat):D:=(i6 ((i+1:Nat):Int))
abbrev Gn:aC:=(.var 135 [(dB false),.nils,.nils,.nils,.nils])
abbrev ky:D:=(.ptr 0 0 0 0)
set_option maxRecDepth 100000
abbrev Q0 (v w:Int):Ct:=⟨52,[(i6 v),(i6 w)],false,(dB (f8 v w))⟩
theorem Cy (v w:Int) (h1:0≤w) (h2:w≤62):CC (Q0 v w):=by
 refine ah.vc (V:=TT 1 (CS (v≥0) (TT 2 ((True∧(decide (v≥0))=true)∧TT 2 ((True∧IntKind.u64.wrap w=w)∧(0≤w∧(Int.fdiv v (2^min w.toNat 64))=(v / 2^w.toNat))∧TT 4 (((v / 2^w.toNat)==0)=(f8 v w)∧True)))) (TT 2 ((True∧(decide (v≥0))=false)∧TT 8 (false=(f8 v w)∧True))))) (.s 1 (v≥0) (.w 1 [(2,.val (dB true)),(5,.val (dI .u64 w)),(6,.val (i6 (v / 2^w.toNat)))]<|.e) (.w 1 [(2,.val (dB false))]<|.e)) Tryz.func52 rfl rfl rfl (by kernel_rfl) ?_
 refine tt ⟨fun N'=>?_,fun N'=>?_⟩
 · refine tt ⟨(vT N'),tt ⟨⟨oK,G3 rfl om om⟩,⟨⟨(by omega),(zI h1 h2)⟩,tt ⟨?_,oK⟩⟩⟩⟩
   first | exact Fx (by omega) h1 h2 | (unfold f8;rw[Uy (by omega)];rfl)
 · refine tt ⟨(vF N'),tt ⟨?_,oK⟩⟩
   first | exact Fx (by omega) h1 h2 | (unfold f8;rw[Uy (by omega)];rfl)
abbrev S7 (p:Pr) (s:Ps):Ct:=⟨27,[(Gm p),(.agg (oC s))],false,(dB (ck p s))⟩
abbrev pD (p:Pr) (s:Ps):Lp (Nat):=gD [2,3,5] 2 (fun (i:Nat)=>⟨[(2,ky),(3,(.ptr 1 0 0 0)),(5,(i6 (i:Int)))],[(qA p),(.var 69 (oC s))]⟩) (fun (i:Nat)=>i≤s.Ul.length∧∀z,z<i→f8 (s.Ul.getD z 0) (p.Ul.getD z aI).w=true) (fun (i:Nat)=>s.Ul.length-i)
abbrev pE (p:Pr) (s:Ps):Lp (Nat):=gD [2,3,6] 2 (fun (j:Nat)=>⟨[(2,ky),(3,(.ptr 1 0 0 0)),(6,(i6 (j:Int)))],[(qA p),(.var 69 (oC s))]⟩) (fun (j:Nat)=>j≤s.Uk.length∧∀z,z<j→jD p s z=true) (fun (j:Nat)=>s.Uk.length-j)
abbrev pF (p:Pr) (s:Ps) (j:Nat):Lp (Nat):=gD [2,3,6,7] 15 (fun (k:Nat)=>⟨[(2,ky),(3,(.ptr 1 0 0 0)),(6,(i6 (j:Int))),(7,(i6 (k:Int)))],[(qA p),(.var 69 (oC s)),.dead,.dead,.dead,.dead,.dead,.dead,.dead,.dead,.dead,.dead,.dead,.dead,.dead]⟩) (fun (k:Nat)=>k≤(s.Uk.getD j []).length∧∀z,z<k→f8 ((s.Uk.getD j []).getD z 0) (p.Uk.getD j ay).w=true) (fun (k:Nat)=>(s.Uk.getD j []).length-k)
theorem HJ (p:Pr) (s:Ps) (hp:gm p):CC (S7 p s):=by
 have YI:=hp.rl
 have Yf:=hp.ml
 refine ah.vc (V:=TT 3 (CS ((s.Ul.length:Int)=(p.Ul.length:Int)) (TT 7 ((True∧(!decide ((s.Ul.length:Int)=(p.Ul.length:Int)))=false)∧TT 8 (CN ((s.Uk.length:Int)=(p.Uk.length:Int)) (TT 2 (false=(ck p s)∧True)) (TT 1 (GO (pD p s) 0 (∀i,(pD p s).inv i→TT 5 (CD ((i:Int)<(s.Ul.length:Int)) (TT 3 (IX (i:Int) s.Ul.length∧TT 4 (IX (i:Int) p.Ul.length∧TT 2 (CC (Q0 (s.Ul.getD i 0) ((p.Ul.getD i aI).w))∧TT 1 (CB (!(f8 (s.Ul.getD i 0) ((p.Ul.getD i aI).w))) (TT 2 (false=(ck p s)∧True)) (TT 1 (W6 ((i+1:Nat):Int)∧TT 1 (AG (pD p s) i (i+1))))))))) (TT 1 (GO (pE p s) 0 (∀j,(pE p s).inv j→TT 5 (CD ((j:Int)<(s.Uk.length:Int)) (TT 3 (IX (j:Int) s.Uk.length∧TT 5 (IX (j:Int) p.Uk.length∧TT 3 (CN ((((s.Uk.getD j []).length:Nat):Int)=((p.Uk.getD j ay).Um)) (TT 2 (false=(ck p s)∧True)) (TT 1 (GO (pF p s j) 0 (∀k,(pF p s j).inv k→TT 4 (IX (j:Int) s.Uk.length∧TT 3 (CD ((k:Int)<(((s.Uk.getD j []).length:Nat):Int)) (TT 3 (IX (j:Int) s.Uk.length∧TT 2 (IX (k:Int) ((s.Uk.getD j []).length)∧TT 4 (IX (j:Int) p.Uk.length∧TT 2 (CC (Q0 ((s.Uk.getD j []).getD k 0) ((p.Uk.getD j ay).w))∧TT 1 (CB (!(f8 ((s.Uk.getD j []).getD k 0) ((p.Uk.getD j ay).w))) (TT 2 (false=(ck p s)∧True)) (TT 1 (W6 ((k+1:Nat):Int)∧TT 1 (AG (pF p s j) k (k+1)))))))))) (TT 1 (W6 ((j+1:Nat):Int)∧TT 1 (AG (pE p s) j (j+1))))))))))))) (TT 2 (true=(ck p s)∧True))))))))))))) (TT 7 ((True∧(!decide ((s.Ul.length:Int)=(p.Ul.length:Int)))=true)∧TT 10 (false=(ck p s)∧True))))) (.s 1 ((s.Ul.length:Int)=(p.Ul.length:Int)) (.w 1 [(7,.val (dB false))]<|.b 23 (.e) (.l (pD p s) 0 (fun i=>.b 28 (.w 6 [(11,(Q0 (s.Ul.getD i 0) ((p.Ul.getD i aI).w)).O)]<|.b 43 (.e) (.w 5 [(1,.val (qB i))]<|.e)) (.l (pE p s) 0 (fun j=>.b 48 (.b 63 (.e) (.l (pF p s j) 0 (fun k=>.b 71 (.w 16 [(14,(Q0 ((s.Uk.getD j []).getD k 0) ((p.Uk.getD j ay).w)).O)]<|.b 89 (.e) (.w 15 [(1,.val (i6 ((k+1:Nat):Int)))]<|.e)) (.w 10 [(1,.val (i6 ((j+1:Nat):Int)))]<|.e)))) (.e)))))) (.w 1 [(7,.val (dB true))]<|.e)) Tryz.func27 rfl rfl rfl (by kernel_rfl) ?_
 refine tt ⟨fun N'=>?_,fun N'=>?_⟩
 · refine tt ⟨(nF N'),tt (cn (fun ZU=>?_) (fun ZU=>?_))⟩
   · refine tt ⟨?_,oK⟩
     first | exact(jh (by omega)).symm | exact(ji (by omega)).symm | exact(jj (i:=i) (by omega) (by simpa using W5)).symm | exact(dG (i:=j) (by omega) (o8 (by omega))).symm | exact(dG (i:=j) (by omega) (o9 (j:=k) (by omega) (by simpa using Zu))).symm | exact(jk (by omega) (by omega) (fun z hz=>h3 z (by omega)) (fun z hz=>h4 z (by omega))).symm
   · refine tt ⟨rfl,⟨by omega,fun z hz=>by omega⟩,?_⟩
     intro i F'
     obtain⟨hi,h3⟩:=F'
     refine tt (cd (fun XI=>?_) (fun XI=>?_))
     · have hrw:=aQ.1 (show ax (p.Ul.getD i aI).w=true from (hp.rw i (by omega)).1)
       refine tt ⟨ix,tt ⟨ix,tt ⟨(Cy (s.Ul.getD i 0) ((p.Ul.getD i aI).w) om om),tt ⟨fun W5=>?_,fun W5=>?_⟩⟩⟩⟩
       · refine tt ⟨?_,oK⟩
         first | exact(jh (by omega)).symm | exact(ji (by omega)).symm | exact(jj (i:=i) (by omega) (by simpa using W5)).symm | exact(dG (i:=j) (by omega) (o8 (by omega))).symm | exact(dG (i:=j) (by omega) (o9 (j:=k) (by omega) (by simpa using Zu))).symm | exact(jk (by omega) (by omega) (fun z hz=>h3 z (by omega)) (fun z hz=>h4 z (by omega))).symm
       · refine tt ⟨w6,tt ⟨(i+1),rfl,?_,(?_:s.Ul.length-(i+1)<s.Ul.length-i)⟩⟩
         · exact⟨by omega,bD h3 (by simpa using W5)⟩
         · omega
     · refine tt ⟨rfl,⟨by omega,fun z hz=>by omega⟩,?_⟩
       intro j F'
       obtain⟨hj,h4⟩:=F'
       refine tt (cd (fun hc48=>?_) (fun hc48=>?_))
       · refine tt ⟨ix,tt ⟨ix,tt (cn (fun hc63=>?_) (fun hc63=>?_))⟩⟩
         · refine tt ⟨?_,oK⟩
           first | exact(jh (by omega)).symm | exact(ji (by omega)).symm | exact(jj (i:=i) (by omega) (by simpa using W5)).symm | exact(dG (i:=j) (by omega) (o8 (by omega))).symm | exact(dG (i:=j) (by omega) (o9 (j:=k) (by omega) (by simpa using Zu))).symm | exact(jk (by omega) (by omega) (fun z hz=>h3 z (by omega)) (fun z hz=>h4 z (by omega))).symm
         · have Yx:1≤(p.Uk.getD j ay).Um∧(p.Uk.getD j ay).Um≤4:=(hp.mw j (by omega)).2.1
           refine tt ⟨rfl,⟨by omega,fun z hz=>by omega⟩,?_⟩
           intro k F'
           obtain⟨hk,h5⟩:=F'
           refine tt ⟨ix,tt (cd (fun WK=>?_) (fun WK=>?_))⟩
           · have hmww:=aQ.1 (show ax (p.Uk.getD j ay).w=true from (hp.mw j (by omega)).1)
             refine tt ⟨ix,tt ⟨ix,tt ⟨ix,tt ⟨(Cy ((s.Uk.getD j []).getD k 0) ((p.Uk.getD j ay).w) om om),tt ⟨fun Zu=>?_,fun Zu=>?_⟩⟩⟩⟩⟩
             · refine tt ⟨?_,oK⟩
               first | exact(jh (by omega)).symm | exact(ji (by omega)).symm | exact(jj (i:=i) (by omega) (by simpa using W5)).symm | exact(dG (i:=j) (by omega) (o8 (by omega))).symm | exact(dG (i:=j) (by omega) (o9 (j:=k) (by omega) (by simpa using Zu))).symm | exact(jk (by omega) (by omega) (fun z hz=>h3 z (by omega)) (fun z hz=>h4 z (by omega))).symm
             · refine tt ⟨w6,tt ⟨(k+1),rfl,?_,(?_:(s.Uk.getD j []).length-(k+1)<(s.Uk.getD j []).length-k)⟩⟩
               · exact⟨by omega,bD h5 (by simpa using Zu)⟩
               · omega
           · refine tt ⟨w6,tt ⟨(j+1),rfl,?_,(?_:s.Uk.length-(j+1)<s.Uk.length-j)⟩⟩
             · exact⟨by omega,bD h4 (LV (by omega) (fun z hz=>h5 z (by omega)))⟩
             · omega
       · refine tt ⟨?_,oK⟩
         first | exact(jh (by omega)).symm | exact(ji (by omega)).symm | exact(jj (i:=i) (by omega) (by simpa using W5)).symm | exact(dG (i:=j) (by omega) (o8 (by omega))).symm | exact(dG (i:=j) (by omega) (o9 (j:=k) (by omega) (by simpa using Zu))).symm | exact(jk (by omega) (by omega) (fun z hz=>h3 z (by omega)) (fun z hz=>h4 z (by omega))).symm
 · refine tt ⟨(nT N'),tt ⟨?_,oK⟩⟩
   first | exact(jh (by omega)).symm | exact(ji (by omega)).symm | exact(jj (i:=i) (by omega) (by simpa using W5)).symm | exact(dG (i:=j) (by omega) (o8 (by omega))).symm | exact(dG (i:=j) (by omega) (o9 (j:=k) (by omega) (by simpa using Zu))).symm | exact(jk (by omega) (by omega) (fun z hz=>h3 z (by omega)) (fun z hz=>h4 z (by omega))).symm
abbrev S8 (p:Pr):Ct:=⟨65,[(Gm p)],true,(.agg [(LI ((b3 p).Ul)),(dL 1 aa [] ((b3 p).Uk))])⟩
abbrev pG (p:Pr):Lp (Nat):=gD [1,2,3,4] 4 (fun (i:Nat)=>⟨[(1,ky),(2,(.ptr 1 0 0 0)),(3,(.ptr 2 0 0 0)),(4,(i6 (i:Int)))],[(qA p),(.var 69 [.nils,.nils]),(.var 69 [(.own 3),.nils]),(.arr 3 1 (ab .i64) 0 (tab (fun z=>(p.Ul.getD z aI).init) i))]⟩) (fun (i:Nat)=>i≤p.Ul.length) (fun (i:Nat)=>p.Ul.length-i)
abbrev pH (p:Pr) (i:Nat):Lp (Nat):=gD [1,2,3,5] 5 (fun (j:Nat)=>⟨[(1,ky),(2,(.ptr 1 0 0 0)),(3,(.ptr 2 0 0 0)),(5,(i6 (j:Int)))],[(qA p),(.var 69 [.nils,.nils]),(.var 69 [(.own 3),(.own 4)]),(.arr 3 1 (ab .i64) 0 (tab (fun z=>(p.Ul.getD z aI).init) i)),(.arr 67 1 aa [] (tab (fun z=>List.replicate (p.Uk.getD z ay).Um.toNat (0:Int)) j))]⟩) (fun (j:Nat)=>j≤p.Uk.length) (fun (j:Nat)=>p.Uk.length-j)
theorem HK (p:Pr) (hp:gm p):CC (S8 p):=by
 have YI:=hp.rl
 have Yf:=hp.ml
 refine ah.vc (V:=TT 6 (GO (pG p) 0 (∀i,(pG p).inv i→TT 5 (CD ((i:Int)<(p.Ul.length:Int)) (TT 5 (IX (i:Int) p.Ul.length∧TT 2 (am [[(i6 ((p.Ul.getD i aI).init))]] ([(p.Ul.getD i aI).init].map (ab .i64))∧((tab (fun z=>(p.Ul.getD z aI).init) i).length+([(p.Ul.getD i aI).init].map (ab .i64)).length≤137438953472∧(tab (fun z=>(p.Ul.getD z aI).init) i).map (ab .i64)++[(p.Ul.getD i aI).init].map (ab .i64)=(tab (fun z=>(p.Ul.getD z aI).init) (i+1)).map (ab .i64))∧TT 3 (W6 ((i+1:Nat):Int)∧TT 1 (AG (pG p) i (i+1)))))) (TT 1 (GO (pH p i) 0 (∀j,(pH p i).inv j→TT 5 (CD ((j:Int)<(p.Uk.length:Int)) (TT 5 (IX (j:Int) p.Uk.length∧TT 2 ((((0:Int)≤(p.Uk.getD j ay).Um∧(p.Uk.getD j ay).Um≤(p.Uk.getD j ay).Um∧(p.Uk.getD j ay).Um≤137438953472)∧(List.replicate (p.Uk.getD j ay).Um.toNat (0:Int)).length=((p.Uk.getD j ay).Um).toNat∧∀x∈(List.replicate (p.Uk.getD j ay).Um.toNat (0:Int)),dt [(i6 0)] ((ab .i64) x))∧am [[(LI (List.replicate (p.Uk.getD j ay).Um.toNat (0:Int)))]] ([List.replicate (p.Uk.getD j ay).Um.toNat (0:Int)].map aa)∧((tab (fun z=>List.replicate (p.Uk.getD z ay).Um.toNat (0:Int)) j).length+([List.replicate (p.Uk.getD j ay).Um.toNat (0:Int)].map aa).length≤137438953472∧(tab (fun z=>List.replicate (p.Uk.getD z ay).Um.toNat (0:Int)) j).map aa++[List.replicate (p.Uk.getD j ay).Um.toNat (0:Int)].map aa=(tab (fun z=>List.replicate (p.Uk.getD z ay).Um.toNat (0:Int)) (j+1)).map aa)∧TT 3 (W6 ((j+1:Nat):Int)∧TT 1 (AG (pH p i) j (j+1)))))) (TT 3 ((tab (fun z=>(p.Ul.getD z aI).init) i).map (ab .i64)=((b3 p).Ul).map (ab .i64)∧(tab (fun z=>List.replicate (p.Uk.getD z ay).Um.toNat (0:Int)) j).map aa=((b3 p).Uk).map aa∧True)))))))))) (.g 2 2 0 3 1 (ab .i64) 0<|.l (pG p) 0 (fun i=>.b 11 (.w 5 [(8,.box 3 1 (ab .i64) 0 [(p.Ul.getD i aI).init]),(9,.box 3 1 (ab .i64) 0 (tab (fun z=>(p.Ul.getD z aI).init) (i+1)))]<|.w 4 [(1,.val (qB i))]<|.e) (.g 6 2 1 67 1 aa []<|.l (pH p i) 0 (fun j=>.b 29 (.w 9 [(8,.frz 3 1 (ab .i64) 0 (List.replicate (p.Uk.getD j ay).Um.toNat (0:Int))),(9,.box 67 1 aa [] [List.replicate (p.Uk.getD j ay).Um.toNat (0:Int)]),(10,.box 67 1 aa [] (tab (fun z=>List.replicate (p.Uk.getD z ay).Um.toNat (0:Int)) (j+1)))]<|.w 8 [(1,.val (i6 ((j+1:Nat):Int)))]<|.e) (.e))))) Tryz.func65 rfl rfl rfl (by kernel_rfl) ?_
 refine tt ⟨rfl,(by omega),?_⟩
 intro i F'
 have hi:=F'
 refine tt (cd (fun YL=>?_) (fun YL=>?_))
 · refine tt ⟨ix,tt ⟨⟨⟨rfl,oK⟩,oK⟩,⟨(o6 (f:=fun z=>(p.Ul.getD z aI).init) (by omega)),tt ⟨w6,tt ⟨(i+1),rfl,(?_:(i+1)≤p.Ul.length),(?_:p.Ul.length-(i+1)<p.Ul.length-i)⟩⟩⟩⟩⟩
   · omega
   · omega
 · refine tt ⟨rfl,(by omega),?_⟩
   intro j F'
   have hj:=F'
   refine tt (cd (fun hc29=>?_) (fun hc29=>?_))
   · have Yx:1≤(p.Uk.getD j ay).Um∧(p.Uk.getD j ay).Um≤4:=(hp.mw j (by omega)).2.1
     refine tt ⟨ix,tt ⟨⟨by omega,Us,fun x hx=>by rw[UN hx];exact⟨rfl,oK⟩⟩,⟨⟨⟨rfl,oK⟩,oK⟩,⟨(o6 (f:=fun z=>List.replicate (p.Uk.getD z ay).Um.toNat (0:Int)) (by omega)),tt ⟨w6,tt ⟨(j+1),rfl,(?_:(j+1)≤p.Uk.length),(?_:p.Uk.length-(j+1)<p.Uk.length-j)⟩⟩⟩⟩⟩⟩
     · omega
     · omega
   · refine tt ⟨(congrArg _ (?_:(tab (fun z=>(p.Ul.getD z aI).init) i)=((b3 p).Ul))),(congrArg _ (?_:(tab (fun z=>List.replicate (p.Uk.getD z ay).Um.toNat (0:Int)) j)=((b3 p).Uk))),oK⟩
     · rw[BL,show i=p.Ul.length by omega]
     · rw[BL,show j=p.Uk.length by omega]
abbrev oD (p:Pr) (s:Ps) (data:List Int) (n:Nat) (e:Ex):Ct:=⟨101,[(KH p s data),(.agg [(i6 e.op),(dS e.name),(i6 e.k.n),(dS e.k.p),(i6 e.w.n),(dS e.w.p),(dL 7 (eA n) dE e.args)])],false,(.agg [(i6 ((be p s data e).1)),(i6 ((be p s data e).2))])⟩
abbrev vK (p:Pr) (s:Ps) (data:List Int) (n:Nat) (e:Ex):Lp (Nat):=gD [2,3,4,7,8,9] 5 (fun (i:Nat)=>⟨[(2,ky),(3,(.ptr 1 0 0 0)),(4,(.ptr 2 0 0 0)),(7,(.own 3)),(8,(.own 4)),(9,(i6 (i:Int)))],[(KG p s data),(.var 58 [(i6 e.op),(dS e.name),(i6 e.k.n),(dS e.k.p),(i6 e.w.n),(dS e.w.p),(dL 7 (eA (n+1)) dE e.args)]),(.var 200 [(i6 0),(i6 0)]),(.arr 3 1 (ab .i64) 0 (fx p s data (e.args.take i))),(.arr 3 1 (ab .i64) 0 (dJ p s data (e.args.take i)))]⟩) (fun (i:Nat)=>i≤e.args.length) (fun (i:Nat)=>e.args.length-i)
theorem Gp (p:Pr) (s:Ps) (data:List Int) (n:Nat) (e:Ex) (c:Sc) (v:Int) (ho:tG c p s data) (ht:eF c e=some v) (Yx:∀i,i<p.Uk.length→((s.Uk.getD i []).length:Int)=(p.Uk.getD i ay).Um) (ih:∀a∈e.args,CC (oD p s data n a)):CC (oD p s data (n+1) e):=by
 have Xm:=I3 ht
 refine ah.vc (V:=TT 7 (CD (e.op=16) (TT 6 (IX e.k.n s.Ul.length∧TT 7 (IX e.k.n p.Ul.length∧TT 5 ((((s.Ul.getD e.k.n.toNat 0)=((be p s data e).1)∧((p.Ul.getD e.k.n.toNat aI).w)=((be p s data e).2)∧True))∧((True∧True∧True)))))) (TT 2 (CD (e.op=17) (TT 6 (IX e.k.n p.Uk.length∧TT 6 (IX 0 e.args.length∧TT 1 (CC (oD p s data n (e.args.getD 0 dE))∧TT 8 (IX e.k.n s.Uk.length∧TT 5 ((((p.Uk.getD e.k.n.toNat ay).Um)≠0∧(Int.tmod ((be p s data (e.args.getD 0 dE)).1) ((p.Uk.getD e.k.n.toNat ay).Um))=(Int.tmod (be p s data (e.args.getD 0 dE)).1 ((s.Uk.getD e.k.n.toNat []).length:Int)))∧IX (Int.tmod (be p s data (e.args.getD 0 dE)).1 ((s.Uk.getD e.k.n.toNat []).length:Int)) ((s.Uk.getD e.k.n.toNat []).length)∧TT 6 (((((s.Uk.getD e.k.n.toNat []).getD ((Int.tmod (be p s data (e.args.getD 0 dE)).1 ((s.Uk.getD e.k.n.toNat []).length:Int)).toNat) 0)=((be p s data e).1)∧((p.Uk.getD e.k.n.toNat ay).w)=((be p s data e).2)∧True))∧((True∧True∧True))))))))) (TT 2 (CD (e.op=18) (TT 5 (IX e.k.n data.length∧TT 7 (IX e.k.n p.I.length∧TT 5 ((((data.getD e.k.n.toNat 0)=((be p s data e).1)∧((p.I.getD e.k.n.toNat bC).w)=((be p s data e).2)∧True))∧((True∧True∧True)))))) (am [] ((fx p s data (e.args.take 0)).map (ab .i64))∧am [] ((dJ p s data (e.args.take 0)).map (ab .i64))∧TT 3 (GO (vK p s data n e) 0 (∀i,(vK p s data n e).inv i→TT 5 (CD ((i:Int)<(e.args.length:Int)) (TT 4 (IX (i:Int) e.args.length∧TT 1 (CC (oD p s data n (e.args.getD i dE))∧TT 5 (am [[(i6 ((be p s data (e.args.getD i dE)).1))]] ([(be p s data (e.args.getD i dE)).1].map (ab .i64))∧((fx p s data (e.args.take i)).length+([(be p s data (e.args.getD i dE)).1].map (ab .i64)).length≤137438953472∧(fx p s data (e.args.take i)).map (ab .i64)++[(be p s data (e.args.getD i dE)).1].map (ab .i64)=(fx p s data (e.args.take (i+1))).map (ab .i64))∧TT 4 (am [[(i6 ((be p s data (e.args.getD i dE)).2))]] ([(be p s data (e.args.getD i dE)).2].map (ab .i64))∧((dJ p s data (e.args.take i)).length+([(be p s data (e.args.getD i dE)).2].map (ab .i64)).length≤137438953472∧(dJ p s data (e.args.take i)).map (ab .i64)++[(be p s data (e.args.getD i dE)).2].map (ab .i64)=(dJ p s data (e.args.take (i+1))).map (ab .i64))∧TT 2 (W6 ((i+1:Nat):Int)∧TT 1 (AG (vK p s data n e) i (i+1)))))))) (TT 10 (CK (KE e.op (dJ p s data (e.args.take i)) e.k.n e.w.n)∧TT 12 (am [[(i6 e.k.n)],[(i6 e.w.n)]] ([e.k.n,e.w.n].map (ab .i64))∧TT 1 (CK (Pk e.op (dJ p s data (e.args.take i)) (fx p s data (e.args.take i)) [e.k.n,e.w.n])∧TT 9 ((((cT e.op (dJ p s data (e.args.take i)) (fx p s data (e.args.take i)) [e.k.n,e.w.n])=((be p s data e).1)∧(b7 e.op (dJ p s data (e.args.take i)) e.k.n e.w.n)=((be p s data e).2)∧True))∧((True∧True∧True))))))))))))))))) (.b 15 (.e) (.b 35 (.w 6 [(5,(oD p s data n (e.args.getD 0 dE)).O)]<|.w 7 [(12,.val (i6 (Int.tmod (be p s data (e.args.getD 0 dE)).1 ((s.Uk.getD e.k.n.toNat []).length:Int))))]<|.e) (.b 69 (.e) (.w 10 [(0,.box 3 1 (ab .i64) 0 (fx p s data (e.args.take 0))),(1,.box 3 1 (ab .i64) 0 (dJ p s data (e.args.take 0)))]<|.l (vK p s data n e) 0 (fun i=>.b 94 (.w 14 [(6,(oD p s data n (e.args.getD i dE)).O)]<|.w 15 [(3,.box 3 1 (ab .i64) 0 [(be p s data (e.args.getD i dE)).1]),(4,.box 3 1 (ab .i64) 0 (fx p s data (e.args.take (i+1))))]<|.w 16 [(3,.box 3 1 (ab .i64) 0 [(be p s data (e.args.getD i dE)).2]),(4,.box 3 1 (ab .i64) 0 (dJ p s data (e.args.take (i+1))))]<|.w 13 [(1,.val (qB i))]<|.e) (.w 17 [(10,(KE e.op (dJ p s data (e.args.take i)) e.k.n e.w.n).O')]<|.w 18 [(10,.box 3 1 (ab .i64) 0 [e.k.n,e.w.n]),(12,(Pk e.op (dJ p s data (e.args.take i)) (fx p s data (e.args.take i)) [e.k.n,e.w.n]).O')]<|.e)))))) Tryz.func101 rfl rfl rfl (by kernel_rfl) ?_
 refine tt (cd (fun W4=>?_) (fun W4=>?_))
 · obtain⟨h1,h2,h3⟩:=I4 ho ht W4
   refine tt ⟨ix,tt ⟨ix,tt ⟨⟨?_,?_,oK⟩,⟨oK,oK,oK⟩⟩⟩⟩
   all_goals (first | exact(fw W4).1.symm | exact(fw W4).2.symm | exact(dV XJ).1.symm | exact(dV XJ).2.symm | exact(dW WZ WA).1.symm | exact(dW WZ WA).2.symm | (rw[W8,U9];exact(iV W4 XJ WZ).1.symm) | (rw[W8,U9];exact(iV W4 XJ WZ).2.symm))
 · refine tt (cd (fun WZ=>?_) (fun WZ=>?_))
   · obtain⟨h1,h2,h3,WA,h4,h5,h6⟩:=Fg ho ht WZ
     have ZV:(p.Uk.getD e.k.n.toNat ay).Um=((s.Uk.getD e.k.n.toNat []).length:Int):=(Yx _ (by omega)).symm
     have hz:(s.Uk.getD e.k.n.toNat []).length≠0:=by omega
     refine tt ⟨ix,tt ⟨ix,tt ⟨(ih _ (jg (by omega))),tt ⟨ix,tt ⟨⟨(by omega),(by rw[ZV])⟩,⟨ix,tt ⟨⟨?_,?_,oK⟩,⟨oK,oK,oK⟩⟩⟩⟩⟩⟩⟩⟩
     all_goals (first | exact(fw W4).1.symm | exact(fw W4).2.symm | exact(dV XJ).1.symm | exact(dV XJ).2.symm | exact(dW WZ WA).1.symm | exact(dW WZ WA).2.symm | (rw[W8,U9];exact(iV W4 XJ WZ).1.symm) | (rw[W8,U9];exact(iV W4 XJ WZ).2.symm))
   · refine tt (cd (fun XJ=>?_) (fun XJ=>?_))
     · obtain⟨h1,h2,h3⟩:=Ff ho ht XJ
       refine tt ⟨ix,tt ⟨ix,tt ⟨⟨?_,?_,oK⟩,⟨oK,oK,oK⟩⟩⟩⟩
       all_goals (first | exact(fw W4).1.symm | exact(fw W4).2.symm | exact(dV XJ).1.symm | exact(dV XJ).2.symm | exact(dW WZ WA).1.symm | exact(dW WZ WA).2.symm | (rw[W8,U9];exact(iV W4 XJ WZ).1.symm) | (rw[W8,U9];exact(iV W4 XJ WZ).2.symm))
     · refine⟨oK,⟨oK,tt ⟨rfl,(by omega),?_⟩⟩⟩
       intro i F'
       have hi:=F'
       refine tt (cd (fun hc94=>?_) (fun hc94=>?_))
       · refine tt ⟨ix,tt ⟨(ih _ (jg (by omega))),tt ⟨⟨⟨rfl,oK⟩,oK⟩,⟨⟨by simp only[UB,Ve,UR];rw[wC,UG];omega,by rw[yh (by omega),Vc]⟩,tt ⟨⟨⟨rfl,oK⟩,oK⟩,⟨⟨by simp only[UB,Ve,UR];rw[r9,UG];omega,by rw[yi (by omega),Vc]⟩,tt ⟨w6,tt ⟨(i+1),rfl,(?_:(i+1)≤e.args.length),(?_:e.args.length-(i+1)<e.args.length-i)⟩⟩⟩⟩⟩⟩⟩⟩
         · omega
         · omega
       · have W8:i=e.args.length:=by omega
         have hev:=Jv ho ht W4 WZ XJ
         have hev1:it e.op (dJ p s data (e.args.take i)) e.k.n e.w.n=true:=by rw[W8,U9];exact hev.1
         have hev2:Bx (dJ p s data (e.args.take i)) (fx p s data (e.args.take i))=true:=by rw[W8,U9];exact hev.2
         refine tt ⟨⟨du _ rfl,(w7 e.op (dJ p s data (e.args.take i)) e.k.n e.w.n hev1)⟩,tt ⟨⟨⟨rfl,oK⟩,⟨rfl,oK⟩,oK⟩,tt ⟨⟨du _ rfl,(Eh e.op (dJ p s data (e.args.take i)) (fx p s data (e.args.take i)) [e.k.n,e.w.n] hev1 (by rw[wC,r9]) hev2 rfl)⟩,tt ⟨⟨?_,?_,oK⟩,⟨oK,oK,oK⟩⟩⟩⟩⟩
         all_goals (first | exact(fw W4).1.symm | exact(fw W4).2.symm | exact(dV XJ).1.symm | exact(dV XJ).2.symm | exact(dW WZ WA).1.symm | exact(dW WZ WA).2.symm | (rw[W8,U9];exact(iV W4 XJ WZ).1.symm) | (rw[W8,U9];exact(iV W4 XJ WZ).2.symm))
theorem ly {c:Sc} {p:Pr} {s:Ps} {data:List Int} (ho:tG c p s data) (Yx:∀i,i<p.Uk.length→((s.Uk.getD i []).length:Int)=(p.Uk.getD i ay).Um):∀(n:Nat) (e:Ex) (v:Int),eF c e=some v→fo e≤n+1→CC (oD p s data n e)
  | 0,e,v,ht,hd=>by
    have ha:e.args=[]:=by
      cases hl:e.args with
      | nil=>rfl
      | cons a r =>
        have:=r8 (e:=e) (a:=a) (by rw[hl];simp)
        cases a with | mk op name k w args=>rw[fo]at this;omega
    have h:=Gp p s data 0 e c v ho ht Yx (fun a h=>by rw[ha]at h;cases h)
    refine ah.recast ?_ h
    refine⟨wz _ rfl,⟨rfl,rfl,rfl,rfl,rfl,rfl,?_,oK⟩,oK⟩
    show e.args.map (eA 0)=e.args.map (eA 1)
    rw[ha];rfl
  | n+1,e,v,ht,hd=>Gp p s data n e c v ho ht Yx (fun a h=>by
    obtain⟨w,hw⟩:=I2 ht h
    exact ly ho Yx n a w hw (by have:=r8 h;omega))
abbrev Ei (p:Pr) (s:Ps) (data:List Int) (e:Ex):Ct:=⟨99,[(KH p s data),(.agg [(i6 e.op),(dS e.name),(i6 e.k.n),(dS e.k.p),(i6 e.w.n),(dS e.w.p),(dL 7 (eA 2) dE e.args)])],false,(dB (ew p s data e))⟩
theorem w8 (p:Pr) (s:Ps) (data:List Int) (e:Ex) {c:Sc} {v:Int} (ho:tG c p s data) (Yx:∀i,i<p.Uk.length→((s.Uk.getD i []).length:Int)=(p.Uk.getD i ay).Um) (ht:eF c e=some v) (hd:fo e≤3):CC (Ei p s data e):=by
 refine ah.vc (V:=TT 5 (CC (oD p s data 2 e)∧TT 4 ((((be p s data e).1)==1)=(ew p s data e)∧True))) (.w 1 [(2,(oD p s data 2 e).O)]<|.e) Tryz.func99 rfl rfl rfl (by kernel_rfl) ?_
 refine tt ⟨(ly ho Yx 2 e _ ht hd),tt ⟨?_,oK⟩⟩
 rfl
abbrev S9 (p:Pr) (s:Ps) (hs:List Hd) (rs:List Bool):Ct:=⟨98,[(Gm p),(.agg (oC s)),(.agg [(dL 2 db bu hs),(LB rs)])],true,(.agg [(dS p.name),(dS p.clock),(dL 13 bO aI p.Ul),(dL 27 b8 ay p.Uk),(dL 9 dU bC p.I),(dL 16 dQ bt p.Uj),(LI s.Ul),(dL 1 aa [] s.Uk),(LI (b5 p s hs))])⟩
abbrev hT (p:Pr) (s:Ps) (hs:List Hd) (rs:List Bool):Lp (Nat×List Int):=nN [3,5,6,7,8,9] 20 (fun (i:Nat) (R':List Int)=>⟨[(3,ky),(5,(.ptr 2 0 0 0)),(6,(.ptr 3 0 0 0)),(7,(.ptr 11 0 0 0)),(8,(.ptr 19 0 0 0)),(9,(i6 (i:Int)))],[(qA p),(.var 69 (oC s)),(.var 188 [(dL 2 db bu hs),(LB rs)]),(.var 195 [(dS e0),(dS e0),.nils,.nils,.nils,.nils,.nils,.nils,.nils]),.dead,.dead,.dead,.dead,.dead,.dead,.dead,(.var 195 [(dS p.name),(dS p.clock),(dL 13 bO aI p.Ul),(dL 27 b8 ay p.Uk),(dL 9 dU bC p.I),(dL 16 dQ bt p.Uj),(LI s.Ul),(dL 1 aa [] s.Uk),(LI (i5 p))]),.dead,.dead,.dead,.dead,.dead,(.arr 3 1 (ab .i64) 0 R'),.dead,(.var 195 [(dS p.name),(dS p.clock),(dL 13 bO aI p.Ul),(dL 27 b8 ay p.Uk),(dL 9 dU bC p.I),(dL 16 dQ bt p.Uj),(LI s.Ul),(dL 1 aa [] s.Uk),(.own 17)])]⟩) (fun (i:Nat) (R':List Int)=>i≤p.I.length∧R'=cG (nh p s hs) (i5 p) i) (fun (i:Nat) (R':List Int)=>p.I.length-i)
theorem Ej (p:Pr) (s:Ps) (hs:List Hd) (rs:List Bool) (hp:gm p) (YD:ni p s) (hh:BG p hs):CC (S9 p s hs rs):=by
 have ht1:=hp.tl
 have ht2:=hp.pl
 have hhl:=hh.l
 have Yx:=YD.mn
 have ho:=iu hp YD (Nh hp)
 refine ah.vc (V:=TT 9 ((((0:Int)≤(p.I.length:Int)∧(p.I.length:Int)≤(p.I.length:Int)∧(p.I.length:Int)≤137438953472)∧(i5 p).length=p.I.length∧∀x∈(i5 p),dt [(i6 0)] ((ab .i64) x))∧TT 8 ((((0:Int)≤(p.I.length:Int)∧(p.I.length:Int)≤(p.I.length:Int)∧(p.I.length:Int)≤137438953472)∧(i5 p).length=p.I.length∧∀x∈(i5 p),dt [(i6 0)] ((ab .i64) x))∧TT 4 (GO (hT p s hs rs) (0,i5 p) (∀i R',(hT p s hs rs).inv (i,R')→TT 5 (CD ((i:Int)<(p.I.length:Int)) (CS ((ew p s (i5 p) ((p.I.getD i bC).when))=true) (TT 4 (IX (i:Int) p.I.length∧TT 2 (CC (Ei p s (i5 p) ((p.I.getD i bC).when))∧(True∧(ew p s (i5 p) ((p.I.getD i bC).when))=true)∧TT 3 (IX (i:Int) hs.length∧TT 3 (CB ((hs.getD i bu).has) (TT 6 (IX (i:Int) hs.length∧TT 2 (IX (i:Int) R'.length∧(i<R'.length∧(R'.map (ab .i64)).set i (((ab .i64) (R'.getD i 0)).take 0++[(.int .i64 ((hs.getD i bu).v))]++((ab .i64) (R'.getD i 0)).drop (0+1))=(R'.set i ((hs.getD i bu).v)).map (ab .i64))∧TT 1 (W6 ((i+1:Nat):Int)∧TT 1 (AG (hT p s hs rs) (i,R') (i+1,R'.set i ((hs.getD i bu).v))))))) (TT 1 (W6 ((i+1:Nat):Int)∧TT 1 (AG (hT p s hs rs) (i,R') (i+1,R'))))))))) (TT 4 (IX (i:Int) p.I.length∧TT 2 (CC (Ei p s (i5 p) ((p.I.getD i bC).when))∧(True∧(ew p s (i5 p) ((p.I.getD i bC).when))=false)∧TT 2 (W6 ((i+1:Nat):Int)∧TT 1 (AG (hT p s hs rs) (i,R') (i+1,R'))))))) (TT 3 (p.name=p.name∧p.clock=p.clock∧p.Ul.map bO=p.Ul.map bO∧p.Uk.map b8=p.Uk.map b8∧p.I.map dU=p.I.map dU∧p.Uj.map dQ=p.Uj.map dQ∧s.Ul.map (ab .i64)=s.Ul.map (ab .i64)∧s.Uk.map aa=s.Uk.map aa∧R'.map (ab .i64)=(b5 p s hs).map (ab .i64)∧True)))))))) (.w 1 [(5,.frz 3 1 (ab .i64) 0 (i5 p))]<|.w 2 [(5,.box 3 1 (ab .i64) 0 (i5 p))]<|.l (hT p s hs rs) (0,i5 p) (fun ⟨i,R'⟩=>.b 28 (.s 6 ((ew p s (i5 p) ((p.I.getD i bC).when))=true) (.w 6 [(7,(Ei p s (i5 p) ((p.I.getD i bC).when)).O),(8,.val (dB true))]<|.b 46 (.w 7 [(10,.box 3 1 (ab .i64) 0 (R'.set i ((hs.getD i bu).v)))]<|.w 5 [(1,.val (qB i))]<|.e) (.w 5 [(1,.val (qB i))]<|.e)) (.w 6 [(7,(Ei p s (i5 p) ((p.I.getD i bC).when)).O),(8,.val (dB false))]<|.w 5 [(1,.val (qB i))]<|.e)) (.e))) Tryz.func98 rfl rfl rfl (by kernel_rfl) ?_
 refine tt ⟨⟨by omega,e9,fun x hx=>by rw[UN hx];exact⟨rfl,oK⟩⟩,tt ⟨⟨by omega,e9,fun x hx=>by rw[UN hx];exact⟨rfl,oK⟩⟩,tt ⟨rfl,⟨by omega,rfl⟩,?_⟩⟩⟩
 intro i R' F'
 obtain⟨hi,Yl⟩:=F'
 have hdl:R'.length=p.I.length:=by rw[Yl,ci (by rw[e9];exact hi),e9]
 refine tt (cd (fun XI=>?_) (fun XI=>?_))
 · have hwh:=vA hp (show i<p.I.length by omega)
   refine⟨fun N'=>?_,fun N'=>?_⟩
   · refine tt ⟨ix,tt ⟨(w8 p s (i5 p) ((p.I.getD i bC).when) ho Yx hwh.1 hwh.2),⟨(bT N'),tt ⟨ix,tt ⟨fun Xs=>?_,fun Xs=>?_⟩⟩⟩⟩⟩
     · refine tt ⟨ix,tt ⟨ix,⟨⟨om,by simp only[US];rfl⟩,tt ⟨w6,tt ⟨(i+1,R'.set i ((hs.getD i bu).v)),rfl,?_,(?_:p.I.length-(i+1)<p.I.length-i)⟩⟩⟩⟩⟩
       · exact⟨by omega,by rw[Yl];exact bn (by rw[e9];omega) (LX N' Xs)⟩
       · omega
     · refine tt ⟨w6,tt ⟨(i+1,R'),rfl,?_,(?_:p.I.length-(i+1)<p.I.length-i)⟩⟩
       · exact⟨by omega,by rw[Yl];exact cI (by rw[e9];omega) (by first | exact FB (by assumption) | exact FC (by rw[Xs];simp))⟩
       · omega
   · refine tt ⟨ix,tt ⟨(w8 p s (i5 p) ((p.I.getD i bC).when) ho Yx hwh.1 hwh.2),⟨(bF N'),tt ⟨w6,tt ⟨(i+1,R'),rfl,?_,(?_:p.I.length-(i+1)<p.I.length-i)⟩⟩⟩⟩⟩
     · exact⟨by omega,by rw[Yl];exact cI (by rw[e9];omega) (by first | exact FB (by assumption) | exact FC (by rw[Xs];simp))⟩
     · omega
 · refine tt ⟨rfl,rfl,rfl,rfl,rfl,rfl,rfl,rfl,(congrArg _ (?_:R'=(b5 p s hs))),oK⟩
   rw[Yl,show i=p.I.length by omega,bN (by rw[e9];exact Ut _)];rfl
abbrev Pl (p:Pr) (s:Ps) (data:List Int):Ct:=⟨100,[(KH p s data)],true,(.agg [(LI ((cy p s data).Ul)),(dL 1 aa [] ((cy p s data).Uk))])⟩
abbrev sY (p:Pr) (s:Ps) (data:List Int):Lp (Nat):=gD [1,2,3,4] 4 (fun (i:Nat)=>⟨[(1,ky),(2,(.ptr 1 0 0 0)),(3,(.ptr 2 0 0 0)),(4,(i6 (i:Int)))],[(KG p s data),(.var 69 [.nils,.nils]),(.var 69 [(.own 3),.nils]),(.arr 3 1 (ab .i64) 0 (tab (fun z=>(be p s data (p.Ul.getD z aI).next).1) i))]⟩) (fun (i:Nat)=>i≤p.Ul.length) (fun (i:Nat)=>p.Ul.length-i)
abbrev oE (p:Pr) (s:Ps) (data:List Int) (i:Nat):Lp (Nat):=gD [1,2,3,5] 5 (fun (j:Nat)=>⟨[(1,ky),(2,(.ptr 1 0 0 0)),(3,(.ptr 2 0 0 0)),(5,(i6 (j:Int)))],[(KG p s data),(.var 69 [.nils,.nils]),(.var 69 [(.own 3),(.own 4)]),(.arr 3 1 (ab .i64) 0 (tab (fun z=>(be p s data (p.Ul.getD z aI).next).1) i)),(.arr 67 1 aa [] (tab (qR p s data) j))]⟩) (fun (j:Nat)=>j≤p.Uk.length) (fun (j:Nat)=>p.Uk.length-j)
theorem KI (p:Pr) (s:Ps) (data:List Int) (hp:gm p) (YD:ni p s) (hda:BF p data):CC (Pl p s data):=by
 have YI:=hp.rl
 have Yf:=hp.ml
 have Yx:=YD.mn
 have ho:=iu hp YD hda
 have hsl:=YD.ml
 refine ah.vc (V:=TT 6 (GO (sY p s data) 0 (∀i,(sY p s data).inv i→TT 6 (CD ((i:Int)<(p.Ul.length:Int)) (TT 7 (IX (i:Int) p.Ul.length∧TT 2 (CC (oD p s data 2 ((p.Ul.getD i aI).next))∧TT 1 (am [[(i6 ((be p s data ((p.Ul.getD i aI).next)).1))]] ([(be p s data ((p.Ul.getD i aI).next)).1].map (ab .i64))∧((tab (fun z=>(be p s data (p.Ul.getD z aI).next).1) i).length+([(be p s data ((p.Ul.getD i aI).next)).1].map (ab .i64)).length≤137438953472∧(tab (fun z=>(be p s data (p.Ul.getD z aI).next).1) i).map (ab .i64)++[(be p s data ((p.Ul.getD i aI).next)).1].map (ab .i64)=(tab (fun z=>(be p s data (p.Ul.getD z aI).next).1) (i+1)).map (ab .i64))∧TT 3 (W6 ((i+1:Nat):Int)∧TT 1 (AG (sY p s data) i (i+1))))))) (TT 1 (GO (oE p s data i) 0 (∀j,(oE p s data i).inv j→TT 6 (CD ((j:Int)<(p.Uk.length:Int)) (TT 4 (IX (j:Int) p.Uk.length∧TT 3 (am [] (([]:List Int).map (ab .i64))∧TT 4 (IX (j:Int) s.Uk.length∧TT 1 ((([]:List Int).length+((s.Uk.getD j []).map (ab .i64)).length≤137438953472∧([]:List Int).map (ab .i64)++(s.Uk.getD j []).map (ab .i64)=(s.Uk.getD j []).map (ab .i64))∧TT 4 (CC (Ei p s data ((p.Uk.getD j ay).enable))∧CB (ew p s data ((p.Uk.getD j ay).enable)) (TT 4 (CC (oD p s data 2 ((p.Uk.getD j ay).addr))∧TT 3 (((p.Uk.getD j ay).Um)≠0∧TT 3 (CC (oD p s data 2 ((p.Uk.getD j ay).data))∧TT 1 (IX (Int.tmod ((be p s data ((p.Uk.getD j ay).addr)).1) ((p.Uk.getD j ay).Um)) ((s.Uk.getD j []).length)∧((Int.tmod ((be p s data ((p.Uk.getD j ay).addr)).1) ((p.Uk.getD j ay).Um)).toNat<(s.Uk.getD j []).length∧((s.Uk.getD j []).map (ab .i64)).set ((Int.tmod ((be p s data ((p.Uk.getD j ay).addr)).1) ((p.Uk.getD j ay).Um)).toNat) (((ab .i64) ((s.Uk.getD j []).getD ((Int.tmod ((be p s data ((p.Uk.getD j ay).addr)).1) ((p.Uk.getD j ay).Um)).toNat) 0)).take 0++[(.int .i64 ((be p s data ((p.Uk.getD j ay).data)).1))]++((ab .i64) ((s.Uk.getD j []).getD ((Int.tmod ((be p s data ((p.Uk.getD j ay).addr)).1) ((p.Uk.getD j ay).Um)).toNat) 0)).drop (0+1))=((s.Uk.getD j []).set ((Int.tmod ((be p s data ((p.Uk.getD j ay).addr)).1) ((p.Uk.getD j ay).Um)).toNat) ((be p s data ((p.Uk.getD j ay).data)).1)).map (ab .i64))∧TT 3 (am [[(LI ((s.Uk.getD j []).set ((Int.tmod ((be p s data ((p.Uk.getD j ay).addr)).1) ((p.Uk.getD j ay).Um)).toNat) ((be p s data ((p.Uk.getD j ay).data)).1)))]] ([(s.Uk.getD j []).set ((Int.tmod ((be p s data ((p.Uk.getD j ay).addr)).1) ((p.Uk.getD j ay).Um)).toNat) ((be p s data ((p.Uk.getD j ay).data)).1)].map aa)∧((tab (qR p s data) j).length+([(s.Uk.getD j []).set ((Int.tmod ((be p s data ((p.Uk.getD j ay).addr)).1) ((p.Uk.getD j ay).Um)).toNat) ((be p s data ((p.Uk.getD j ay).data)).1)].map aa).length≤137438953472∧(tab (qR p s data) j).map aa++[(s.Uk.getD j []).set ((Int.tmod ((be p s data ((p.Uk.getD j ay).addr)).1) ((p.Uk.getD j ay).Um)).toNat) ((be p s data ((p.Uk.getD j ay).data)).1)].map aa=(tab (qR p s data) (j+1)).map aa)∧TT 3 (W6 ((j+1:Nat):Int)∧TT 1 (AG (oE p s data i) j (j+1))))))))) (TT 3 (am [[(LI (s.Uk.getD j []))]] ([s.Uk.getD j []].map aa)∧((tab (qR p s data) j).length+([s.Uk.getD j []].map aa).length≤137438953472∧(tab (qR p s data) j).map aa++[s.Uk.getD j []].map aa=(tab (qR p s data) (j+1)).map aa)∧TT 3 (W6 ((j+1:Nat):Int)∧TT 1 (AG (oE p s data i) j (j+1))))))))))) (TT 3 ((tab (fun z=>(be p s data (p.Ul.getD z aI).next).1) i).map (ab .i64)=((cy p s data).Ul).map (ab .i64)∧(tab (qR p s data) j).map aa=((cy p s data).Uk).map aa∧True)))))))))) (.g 2 2 0 3 1 (ab .i64) 0<|.l (sY p s data) 0 (fun i=>.b 14 (.w 5 [(10,(oD p s data 2 ((p.Ul.getD i aI).next)).O),(12,.box 3 1 (ab .i64) 0 [(be p s data ((p.Ul.getD i aI).next)).1]),(13,.box 3 1 (ab .i64) 0 (tab (fun z=>(be p s data (p.Ul.getD z aI).next).1) (i+1)))]<|.w 4 [(1,.val (qB i))]<|.e) (.g 6 2 1 67 1 aa []<|.l (oE p s data i) 0 (fun j=>.b 37 (.w 10 [(0,.box 3 1 (ab .i64) 0 ([]:List Int)),(7,.box 3 1 (ab .i64) 0 (s.Uk.getD j []))]<|.w 11 [(3,(Ei p s data ((p.Uk.getD j ay).enable)).O)]<|.b 57 (.w 12 [(4,(oD p s data 2 ((p.Uk.getD j ay).addr)).O),(12,(oD p s data 2 ((p.Uk.getD j ay).data)).O),(15,.box 3 1 (ab .i64) 0 ((s.Uk.getD j []).set ((Int.tmod ((be p s data ((p.Uk.getD j ay).addr)).1) ((p.Uk.getD j ay).Um)).toNat) ((be p s data ((p.Uk.getD j ay).data)).1)))]<|.f 13 6<|.w 13 [(3,.box 67 1 aa [] [(s.Uk.getD j []).set ((Int.tmod ((be p s data ((p.Uk.getD j ay).addr)).1) ((p.Uk.getD j ay).Um)).toNat) ((be p s data ((p.Uk.getD j ay).data)).1)]),(4,.box 67 1 aa [] (tab (qR p s data) (j+1)))]<|.w 8 [(1,.val (i6 ((j+1:Nat):Int)))]<|.e) (.f 13 6<|.w 13 [(3,.box 67 1 aa [] [s.Uk.getD j []]),(4,.box 67 1 aa [] (tab (qR p s data) (j+1)))]<|.w 8 [(1,.val (i6 ((j+1:Nat):Int)))]<|.e)) (.e))))) Tryz.func100 rfl rfl rfl (by kernel_rfl) ?_
 refine tt ⟨rfl,(by omega),?_⟩
 intro i F'
 have hi:=F'
 refine tt (cd (fun Y6=>?_) (fun Y6=>?_))
 · have hrn:=hp.rw i (by omega)
   refine tt ⟨ix,tt ⟨(ly ho Yx 2 ((p.Ul.getD i aI).next) _ hrn.2.2.1 hrn.2.2.2),tt ⟨⟨⟨rfl,oK⟩,oK⟩,⟨(o6 (f:=fun z=>(be p s data (p.Ul.getD z aI).next).1) (by omega)),tt ⟨w6,tt ⟨(i+1),rfl,(?_:(i+1)≤p.Ul.length),(?_:p.Ul.length-(i+1)<p.Ul.length-i)⟩⟩⟩⟩⟩⟩
   · omega
   · omega
 · refine tt ⟨rfl,(by omega),?_⟩
   intro j F'
   have hj:=F'
   refine tt (cd (fun YP=>?_) (fun YP=>?_))
   · have hmz:1≤(p.Uk.getD j ay).Um∧(p.Uk.getD j ay).Um≤4:=(hp.mw j (by omega)).2.1
     have hml:((s.Uk.getD j []).length:Int)=(p.Uk.getD j ay).Um:=YD.mn j (by omega)
     have X8:=(hp.mw j (by omega)).2.2.1
     have hmb:=(hp.mw j (by omega)).2.2.2
     obtain⟨va,hma⟩:=hmb.1.1
     have had:0≤Int.tmod (be p s data (p.Uk.getD j ay).addr).1 (p.Uk.getD j ay).Um∧Int.tmod (be p s data (p.Uk.getD j ay).addr).1 (p.Uk.getD j ay).Um<(s.Uk.getD j []).length∧(p.Uk.getD j ay).Um≠0:=FE hp YD hda (show j<p.Uk.length by omega)
     refine tt ⟨ix,tt ⟨oK,tt ⟨ix,tt ⟨⟨by simp only[UB,UR];omega,by simp⟩,tt ⟨(w8 p s data ((p.Uk.getD j ay).enable) ho Yx X8.1 X8.2),⟨fun XB=>?_,fun XB=>?_⟩⟩⟩⟩⟩⟩
     · refine tt ⟨(ly ho Yx 2 ((p.Uk.getD j ay).addr) _ hma hmb.1.2),tt ⟨om,tt ⟨(ly ho Yx 2 ((p.Uk.getD j ay).data) _ hmb.2.1 hmb.2.2),tt ⟨ix,⟨⟨om,by simp only[US];rfl⟩,tt ⟨⟨⟨rfl,oK⟩,oK⟩,⟨(aZ (by omega) (by first | exact z3 XB | exact FD (by rw[XB];simp))),tt ⟨w6,tt ⟨(j+1),rfl,(?_:(j+1)≤p.Uk.length),(?_:p.Uk.length-(j+1)<p.Uk.length-j)⟩⟩⟩⟩⟩⟩⟩⟩⟩
       · omega
       · omega
     · refine tt ⟨⟨⟨rfl,oK⟩,oK⟩,⟨(aZ (by omega) (by first | exact z3 XB | exact FD (by rw[XB];simp))),tt ⟨w6,tt ⟨(j+1),rfl,(?_:(j+1)≤p.Uk.length),(?_:p.Uk.length-(j+1)<p.Uk.length-j)⟩⟩⟩⟩
       · omega
       · omega
   · refine tt ⟨(congrArg _ (?_:(tab (fun z=>(be p s data (p.Ul.getD z aI).next).1) i)=((cy p s data).Ul))),(congrArg _ (?_:(tab (qR p s data) j)=((cy p s data).Uk))),oK⟩
     · rw[show i=p.Ul.length by omega];rfl
     · rw[show j=p.Uk.length by omega];rfl
abbrev Ta (p:Pr) (s:Ps) (hs:List Hd) (rs:List Bool):Ct:=⟨92,[(Gm p),(.agg (oC s)),(.agg [(dL 2 db bu hs),(LB rs)])],true,(.agg [(dB ((aY p s hs rs).fires)),(LI (((aY p s hs rs).s).Ul)),(dL 1 aa [] (((aY p s hs rs).s).Uk)),(LB ((aY p s hs rs).pops)),(dL 2 db bu ((aY p s hs rs).Uj))])⟩
abbrev js (p:Pr) (s:Ps) (hs:List Hd) (rs:List Bool):Lp (Nat×Bool):=nN [3,5,6,7,8,9] 16 (fun (i:Nat) (WT:Bool)=>⟨[(3,ky),(5,(.ptr 2 0 0 0)),(6,(.ptr 3 0 0 0)),(7,(.ptr 4 0 0 0)),(8,(.ptr 15 0 0 0)),(9,(i6 (i:Int)))],[(qA p),(.var 69 (oC s)),(.var 188 [(dL 2 db bu hs),(LB rs)]),Gn,(Gl p s hs),.dead,.dead,.dead,.dead,(.arr 4 1 ba false (List.replicate p.I.length false)),.dead,.dead,.dead,(.arr 167 2 db bu (List.replicate p.Uj.length bu)),.dead,(.var 135 [(dB WT),(LI s.Ul),(dL 1 aa [] s.Uk),(.own 9),(.own 13)])]⟩) (fun (i:Nat) (WT:Bool)=>i≤p.I.length∧WT=cU (iM p s hs) i) (fun (i:Nat) (WT:Bool)=>p.I.length-i)
abbrev jt (p:Pr) (s:Ps) (hs:List Hd) (rs:List Bool) (WT:Bool):Lp (Nat×Bool):=nN [3,5,6,7,8,10] 16 (fun (m:Nat) (WP:Bool)=>⟨[(3,ky),(5,(.ptr 2 0 0 0)),(6,(.ptr 3 0 0 0)),(7,(.ptr 4 0 0 0)),(8,(.ptr 15 0 0 0)),(10,(i6 (m:Int)))],[(qA p),(.var 69 (oC s)),(.var 188 [(dL 2 db bu hs),(LB rs)]),Gn,(Gl p s hs),.dead,.dead,.dead,.dead,(.arr 4 1 ba false (List.replicate p.I.length false)),.dead,.dead,.dead,(.arr 167 2 db bu (List.replicate p.Uj.length bu)),.dead,(.var 135 [(dB WP),(LI s.Ul),(dL 1 aa [] s.Uk),(.own 9),(.own 13)])]⟩) (fun (m:Nat) (WP:Bool)=>m≤p.Uj.length∧WP=(WT&&cU (jZ p s hs rs) m)) (fun (m:Nat) (WP:Bool)=>p.Uj.length-m)
abbrev pI (p:Pr) (s:Ps) (hs:List Hd) (rs:List Bool) (WP:Bool):Lp (Nat×List Bool):=nN [3,6,7,8,11] 16 (fun (q:Nat) (WJ:List Bool)=>⟨[(3,ky),(6,(.ptr 3 0 0 0)),(7,(.ptr 4 0 0 0)),(8,(.ptr 15 0 0 0)),(11,(i6 (q:Int)))],[(qA p),(.var 69 (oC s)),(.var 188 [(dL 2 db bu hs),(LB rs)]),Gn,(Gl p s hs),.dead,.dead,.dead,.dead,(.arr 4 1 ba false WJ),.dead,.dead,.dead,(.arr 167 2 db bu (List.replicate p.Uj.length bu)),.dead,(.var 135 [(dB WP),(LI ((cy p s (b5 p s hs)).Ul)),(dL 1 aa [] ((cy p s (b5 p s hs)).Uk)),(.own 9),(.own 13)])]⟩) (fun (q:Nat) (WJ:List Bool)=>q≤p.I.length∧WJ=cG (nQ p s hs) (List.replicate p.I.length false) q) (fun (q:Nat) (WJ:List Bool)=>p.I.length-q)
abbrev lC (p:Pr) (s:Ps) (hs:List Hd) (rs:List Bool) (WP:Bool) (WJ:List Bool):Lp (Nat×List Hd):=nN [3,6,7,8,12] 16 (fun (t:Nat) (put:List Hd)=>⟨[(3,ky),(6,(.ptr 3 0 0 0)),(7,(.ptr 4 0 0 0)),(8,(.ptr 15 0 0 0)),(12,(i6 (t:Int)))],[(qA p),(.var 69 (oC s)),(.var 188 [(dL 2 db bu hs),(LB rs)]),Gn,(Gl p s hs),.dead,.dead,.dead,.dead,(.arr 4 1 ba false WJ),.dead,.dead,.dead,(.arr 167 2 db bu put),.dead,(.var 135 [(dB WP),(LI ((cy p s (b5 p s hs)).Ul)),(dL 1 aa [] ((cy p s (b5 p s hs)).Uk)),(.own 9),(.own 13)])]⟩) (fun (t:Nat) (put:List Hd)=>t≤p.Uj.length∧put=cG (nR p s hs) (List.replicate p.Uj.length bu) t) (fun (t:Nat) (put:List Hd)=>p.Uj.length-t)
theorem HL (p:Pr) (s:Ps) (hs:List Hd) (rs:List Bool) (hp:gm p) (YD:ni p s) (hh:BG p hs) (hrs:rs.length=p.Uj.length):CC (Ta p s hs rs):=by
 have ht1:=hp.tl
 have ht2:=hp.pl
 have hhl:=hh.l
 have Yx:=YD.mn
 have ho:=iu hp YD (wH (s:=s) (hs:=hs) hp hh)
 have hda:=wH (s:=s) (hs:=hs) hp hh
 refine ah.vc (V:=TT 7 (CC (S9 p s hs rs)∧TT 6 ((((0:Int)≤(p.I.length:Int)∧(p.I.length:Int)≤(p.I.length:Int)∧(p.I.length:Int)≤137438953472)∧(List.replicate p.I.length false).length=p.I.length∧∀x∈(List.replicate p.I.length false),dt [(dB false)] (ba x))∧TT 3 ((((0:Int)≤(p.Uj.length:Int)∧(p.Uj.length:Int)≤(p.Uj.length:Int)∧(p.Uj.length:Int)≤137438953472)∧(List.replicate p.Uj.length bu).length=p.Uj.length∧∀x∈(List.replicate p.Uj.length bu),dt [(dB false),(i6 0)] (db x))∧TT 4 (GO (js p s hs rs) (0,true) (∀i WT,(js p s hs rs).inv (i,WT)→TT 5 (CD ((i:Int)<(p.I.length:Int)) (CS (WT=true) (CS (((hs.getD i bu).has)=true) (TT 2 ((True∧WT=true)∧TT 3 (IX (i:Int) hs.length∧TT 2 ((True∧((hs.getD i bu).has)=true)∧TT 5 (W6 ((i+1:Nat):Int)∧TT 1 (AG (js p s hs rs) (i,WT) (i+1,true))))))) (TT 2 ((True∧WT=true)∧TT 3 (IX (i:Int) hs.length∧TT 2 ((True∧((hs.getD i bu).has)=false)∧TT 4 (IX (i:Int) p.I.length∧TT 2 (CC (Ei p s (b5 p s hs) ((p.I.getD i bC).when))∧TT 6 (W6 ((i+1:Nat):Int)∧TT 1 (AG (js p s hs rs) (i,WT) (i+1,!(ew p s (b5 p s hs) ((p.I.getD i bC).when)))))))))))) (TT 2 ((True∧WT=false)∧TT 4 (W6 ((i+1:Nat):Int)∧TT 1 (AG (js p s hs rs) (i,WT) (i+1,false)))))) (TT 1 (GO (jt p s hs rs WT) (0,WT) (∀m WP,(jt p s hs rs WT).inv (m,WP)→TT 5 (CD ((m:Int)<(p.Uj.length:Int)) (CS (WP=true) (CS ((rs.getD m false)=true) (TT 2 ((True∧WP=true)∧TT 3 (IX (m:Int) rs.length∧TT 1 ((True∧(rs.getD m false)=true)∧TT 5 (W6 ((m+1:Nat):Int)∧TT 1 (AG (jt p s hs rs WT) (m,WP) (m+1,true))))))) (TT 2 ((True∧WP=true)∧TT 3 (IX (m:Int) rs.length∧TT 1 ((True∧(rs.getD m false)=false)∧TT 4 (IX (m:Int) p.Uj.length∧TT 2 (CC (Ei p s (b5 p s hs) ((p.Uj.getD m bt).when))∧TT 6 (W6 ((m+1:Nat):Int)∧TT 1 (AG (jt p s hs rs WT) (m,WP) (m+1,!(ew p s (b5 p s hs) ((p.Uj.getD m bt).when)))))))))))) (TT 2 ((True∧WP=false)∧TT 4 (W6 ((m+1:Nat):Int)∧TT 1 (AG (jt p s hs rs WT) (m,WP) (m+1,false)))))) (TT 3 (CB (!WP) (TT 3 (WP=((aY p s hs rs).fires)∧s.Ul.map (ab .i64)=(((aY p s hs rs).s).Ul).map (ab .i64)∧s.Uk.map aa=(((aY p s hs rs).s).Uk).map aa∧(List.replicate p.I.length false).map ba=((aY p s hs rs).pops).map ba∧(List.replicate p.Uj.length bu).map db=((aY p s hs rs).Uj).map db∧True)) (TT 1 (CC (Pl p s (b5 p s hs))∧TT 3 (GO (pI p s hs rs WP) (0,List.replicate p.I.length false) (∀q WJ,(pI p s hs rs WP).inv (q,WJ)→TT 5 (CD ((q:Int)<(p.I.length:Int)) (TT 7 (IX (q:Int) p.I.length∧TT 2 (CC (Ei p s (b5 p s hs) ((p.I.getD q bC).when))∧IX (q:Int) WJ.length∧(q<WJ.length∧(WJ.map ba).set q ((ba (WJ.getD q false)).take 0++[(.bool (ew p s (b5 p s hs) ((p.I.getD q bC).when)))]++(ba (WJ.getD q false)).drop (0+1))=(WJ.set q (ew p s (b5 p s hs) ((p.I.getD q bC).when))).map ba)∧TT 1 (W6 ((q+1:Nat):Int)∧TT 1 (AG (pI p s hs rs WP) (q,WJ) (q+1,WJ.set q (ew p s (b5 p s hs) ((p.I.getD q bC).when)))))))) (TT 1 (GO (lC p s hs rs WP WJ) (0,List.replicate p.Uj.length bu) (∀t put,(lC p s hs rs WP WJ).inv (t,put)→TT 5 (CD ((t:Int)<(p.Uj.length:Int)) (TT 4 (IX (t:Int) p.Uj.length∧TT 2 (CC (Ei p s (b5 p s hs) ((p.Uj.getD t bt).when))∧CB (ew p s (b5 p s hs) ((p.Uj.getD t bt).when)) (TT 7 (IX (t:Int) p.Uj.length∧TT 2 (CC (oD p s (b5 p s hs) 2 ((p.Uj.getD t bt).data))∧TT 2 (IX (t:Int) put.length∧(t<put.length∧(put.map db).set t ((db (put.getD t bu)).take 0++[(.bool true),(.int .i64 ((be p s (b5 p s hs) ((p.Uj.getD t bt).data)).1))]++(db (put.getD t bu)).drop (0+2))=(put.set t (⟨true,(be p s (b5 p s hs) ((p.Uj.getD t bt).data)).1⟩:Hd)).map db)∧TT 1 (W6 ((t+1:Nat):Int)∧TT 1 (AG (lC p s hs rs WP WJ) (t,put) (t+1,put.set t (⟨true,(be p s (b5 p s hs) ((p.Uj.getD t bt).data)).1⟩:Hd)))))))) (TT 1 (W6 ((t+1:Nat):Int)∧TT 1 (AG (lC p s hs rs WP WJ) (t,put) (t+1,put))))))) (TT 3 (WP=((aY p s hs rs).fires)∧((cy p s (b5 p s hs)).Ul).map (ab .i64)=(((aY p s hs rs).s).Ul).map (ab .i64)∧((cy p s (b5 p s hs)).Uk).map aa=(((aY p s hs rs).s).Uk).map aa∧WJ.map ba=((aY p s hs rs).pops).map ba∧put.map db=((aY p s hs rs).Uj).map db∧True)))))))))))))))))))))))) (.w 1 [(3,(S9 p s hs rs).O)]<|.w 2 [(4,.box 4 1 ba false (List.replicate p.I.length false)),(8,.box 167 2 db bu (List.replicate p.Uj.length bu))]<|.l (js p s hs rs) (0,true) (fun ⟨i,WT⟩=>.b 31 (.s 6 (WT=true) (.s 6 (((hs.getD i bu).has)=true) (.w 6 [(2,.val (dB true)),(9,.val (dB true))]<|.w 5 [(1,.val (qB i))]<|.e) (.w 6 [(2,.val (dB true)),(9,.val (dB false)),(17,(Ei p s (b5 p s hs) ((p.I.getD i bC).when)).O)]<|.w 5 [(1,.val (qB i))]<|.e)) (.w 6 [(2,.val (dB false))]<|.w 5 [(1,.val (qB i))]<|.e)) (.l (jt p s hs rs WT) (0,WT) (fun ⟨m,WP⟩=>.b 60 (.s 10 (WP=true) (.s 10 ((rs.getD m false)=true) (.w 10 [(2,.val (dB true)),(8,.val (dB true))]<|.w 9 [(1,.val (i6 ((m+1:Nat):Int)))]<|.e) (.w 10 [(2,.val (dB true)),(8,.val (dB false)),(16,(Ei p s (b5 p s hs) ((p.Uj.getD m bt).when)).O)]<|.w 9 [(1,.val (i6 ((m+1:Nat):Int)))]<|.e)) (.w 10 [(2,.val (dB false))]<|.w 9 [(1,.val (i6 ((m+1:Nat):Int)))]<|.e)) (.b 86 (.e) (.w 13 [(1,(Pl p s (b5 p s hs)).O)]<|.l (pI p s hs rs WP) (0,List.replicate p.I.length false) (fun ⟨q,WJ⟩=>.b 95 (.w 17 [(10,(Ei p s (b5 p s hs) ((p.I.getD q bC).when)).O),(12,.box 4 1 ba false (WJ.set q (ew p s (b5 p s hs) ((p.I.getD q bC).when))))]<|.w 16 [(1,.val (i6 ((q+1:Nat):Int)))]<|.e) (.l (lC p s hs rs WP WJ) (0,List.replicate p.Uj.length bu) (fun ⟨t,put⟩=>.b 114 (.w 21 [(7,(Ei p s (b5 p s hs) ((p.Uj.getD t bt).when)).O)]<|.b 124 (.w 22 [(10,(oD p s (b5 p s hs) 2 ((p.Uj.getD t bt).data)).O),(14,.box 167 2 db bu (put.set t (⟨true,(be p s (b5 p s hs) ((p.Uj.getD t bt).data)).1⟩:Hd)))]<|.w 20 [(1,.val (i6 ((t+1:Nat):Int)))]<|.e) (.w 20 [(1,.val (i6 ((t+1:Nat):Int)))]<|.e)) (.e)))))))))) Tryz.func92 rfl rfl rfl (by kernel_rfl) ?_
 refine tt ⟨(Ej p s hs rs hp YD hh),tt ⟨⟨by omega,Us,fun x hx=>by rw[UN hx];exact⟨rfl,oK⟩⟩,tt ⟨⟨by omega,Us,fun x hx=>by rw[UN hx];exact⟨rfl,rfl,oK⟩⟩,tt ⟨rfl,⟨by omega,rfl⟩,?_⟩⟩⟩⟩
 intro i WT F'
 obtain⟨hi,Xh⟩:=F'
 refine tt (cd (fun hc31=>?_) (fun hc31=>?_))
 · have hwh:=vA hp (show i<p.I.length by omega)
   refine⟨fun N'=>?_,fun N'=>?_⟩
   · refine⟨fun WN=>?_,fun WN=>?_⟩
     · refine tt ⟨(bT N'),tt ⟨ix,tt ⟨(bT WN),tt ⟨w6,tt ⟨(i+1,true),rfl,?_,(?_:p.I.length-(i+1)<p.I.length-i)⟩⟩⟩⟩⟩
       · exact⟨by omega,n9 Xh _ (by unfold iM;clear Xh;cases WT<;>simp_all)⟩
       · omega
     · refine tt ⟨(bT N'),tt ⟨ix,tt ⟨(bF WN),tt ⟨ix,tt ⟨(w8 p s (b5 p s hs) ((p.I.getD i bC).when) ho Yx hwh.1 hwh.2),tt ⟨w6,tt ⟨(i+1,!(ew p s (b5 p s hs) ((p.I.getD i bC).when))),rfl,?_,(?_:p.I.length-(i+1)<p.I.length-i)⟩⟩⟩⟩⟩⟩⟩
       · exact⟨by omega,n9 Xh _ (by unfold iM;clear Xh;cases WT<;>simp_all)⟩
       · omega
   · refine tt ⟨(bF N'),tt ⟨w6,tt ⟨(i+1,false),rfl,?_,(?_:p.I.length-(i+1)<p.I.length-i)⟩⟩⟩
     · exact⟨by omega,n9 Xh _ (by unfold iM;clear Xh;cases WT<;>simp_all)⟩
     · omega
 · refine tt ⟨rfl,⟨by omega,by simp[cU]⟩,?_⟩
   intro m WP F'
   obtain⟨hm,XW⟩:=F'
   refine tt (cd (fun Y9=>?_) (fun Y9=>?_))
   · have ZV:=hp.pw m (by omega)
     refine⟨fun XH=>?_,fun XH=>?_⟩
     · refine⟨fun Y4=>?_,fun Y4=>?_⟩
       · refine tt ⟨(bT XH),tt ⟨ix,tt ⟨(bT Y4),tt ⟨w6,tt ⟨(m+1,true),rfl,?_,(?_:p.Uj.length-(m+1)<p.Uj.length-m)⟩⟩⟩⟩⟩
         · exact⟨by omega,tQ XW _ (by unfold jZ;clear XW Xh;cases WP<;>simp_all)⟩
         · omega
       · refine tt ⟨(bT XH),tt ⟨ix,tt ⟨(bF Y4),tt ⟨ix,tt ⟨(w8 p s (b5 p s hs) ((p.Uj.getD m bt).when) ho Yx ZV.2.1.1 ZV.2.1.2),tt ⟨w6,tt ⟨(m+1,!(ew p s (b5 p s hs) ((p.Uj.getD m bt).when))),rfl,?_,(?_:p.Uj.length-(m+1)<p.Uj.length-m)⟩⟩⟩⟩⟩⟩⟩
         · exact⟨by omega,tQ XW _ (by unfold jZ;clear XW Xh;cases WP<;>simp_all)⟩
         · omega
     · refine tt ⟨(bF XH),tt ⟨w6,tt ⟨(m+1,false),rfl,?_,(?_:p.Uj.length-(m+1)<p.Uj.length-m)⟩⟩⟩
       · exact⟨by omega,tQ XW _ (by unfold jZ;clear XW Xh;cases WP<;>simp_all)⟩
       · omega
   · have W8:i=p.I.length:=by omega
     have X8:m=p.Uj.length:=by omega
     refine tt ⟨fun hc86=>?_,fun hc86=>?_⟩
     · refine tt ⟨?_,(congrArg _ (?_:s.Ul=(((aY p s hs rs).s).Ul))),(congrArg _ (?_:s.Uk=(((aY p s hs rs).s).Uk))),(congrArg _ (?_:(List.replicate p.I.length false)=((aY p s hs rs).pops))),(congrArg _ (?_:(List.replicate p.Uj.length bu)=((aY p s hs rs).Uj))),oK⟩
       all_goals
         rw[Fw (by rw[o7 (rs:=rs) (a:=WT) (b:=WP) (by rw[Xh,W8]) (by rw[XW,X8])];simpa using hc86)]
         first | done | rfl | simpa using hc86
     · refine tt ⟨(KI p s (b5 p s hs) hp YD hda),tt ⟨rfl,⟨by omega,rfl⟩,?_⟩⟩
       intro q WJ F'
       obtain⟨hq,Xe⟩:=F'
       have Yg:WJ.length=p.I.length:=by rw[Xe,ci (by rw[Us];exact hq),Us]
       refine tt (cd (fun hc95=>?_) (fun hc95=>?_))
       · have hwh:=vA hp (show q<p.I.length by omega)
         refine tt ⟨ix,tt ⟨(w8 p s (b5 p s hs) ((p.I.getD q bC).when) ho Yx hwh.1 hwh.2),⟨ix,⟨⟨om,by simp only[US];rfl⟩,tt ⟨w6,tt ⟨(q+1,WJ.set q (ew p s (b5 p s hs) ((p.I.getD q bC).when))),rfl,?_,(?_:p.I.length-(q+1)<p.I.length-q)⟩⟩⟩⟩⟩⟩
         · exact⟨by omega,by rw[Xe];exact bn (by rw[Us];omega) rfl⟩
         · omega
       · refine tt ⟨rfl,⟨by omega,rfl⟩,?_⟩
         intro t put F'
         obtain⟨ht,Xw⟩:=F'
         have Zh:put.length=p.Uj.length:=by rw[Xw,ci (by rw[Us];exact ht),Us]
         refine tt (cd (fun hc114=>?_) (fun hc114=>?_))
         · have ZV:=hp.pw t (by omega)
           refine tt ⟨ix,tt ⟨(w8 p s (b5 p s hs) ((p.Uj.getD t bt).when) ho Yx ZV.2.1.1 ZV.2.1.2),⟨fun hc124=>?_,fun hc124=>?_⟩⟩⟩
           · refine tt ⟨ix,tt ⟨(ly ho Yx 2 ((p.Uj.getD t bt).data) _ ZV.2.2.1 ZV.2.2.2),tt ⟨ix,⟨⟨om,by simp only[US];rfl⟩,tt ⟨w6,tt ⟨(t+1,put.set t (⟨true,(be p s (b5 p s hs) ((p.Uj.getD t bt).data)).1⟩:Hd)),rfl,?_,(?_:p.Uj.length-(t+1)<p.Uj.length-t)⟩⟩⟩⟩⟩⟩
             · exact⟨by omega,by rw[Xw];exact bn (by rw[Us];omega) (Uw hc124)⟩
             · omega
           · refine tt ⟨w6,tt ⟨(t+1,put),rfl,?_,(?_:p.Uj.length-(t+1)<p.Uj.length-t)⟩⟩
             · exact⟨by omega,by rw[Xw];exact cI (d:=bu) (by rw[Us];omega) ((Ur (by rw[hc124];simp)).trans cK.symm)⟩
             · omega
         · refine tt ⟨?_,(congrArg _ (?_:((cy p s (b5 p s hs)).Ul)=(((aY p s hs rs).s).Ul))),(congrArg _ (?_:((cy p s (b5 p s hs)).Uk)=(((aY p s hs rs).s).Uk))),(congrArg _ (?_:WJ=((aY p s hs rs).pops))),(congrArg _ (?_:put=((aY p s hs rs).Uj))),oK⟩
           all_goals
             rw[zZ (by rw[o7 (rs:=rs) (a:=WT) (b:=WP) (by rw[Xh,W8]) (by rw[XW,X8])];simpa using hc86)]
             first | done | (simpa using hc86) | (rw[Xe,show q=p.I.length by omega,bN (by rw[Us];exact Ut _)]) | (rw[Xw,show t=p.Uj.length by omega,bN (by rw[Us];exact Ut _)])
abbrev MR (a b:List Int):Ct:=⟨32,[(LI a),(LI b)],false,(dB (decide (a=b)))⟩
abbrev vL (a:List Int) (b:List Int):Lp (Nat):=gD [0,1,5] 0 (fun (k:Nat)=>⟨[(0,(LI a)),(1,(LI b)),(5,(i6 (k:Int)))],[]⟩) (fun (k:Nat)=>k≤a.length∧∀z,z<k→a.getD z 0=b.getD z 0) (fun (k:Nat)=>a.length-k)
theorem vM (a b:List Int) (ha:a.length≤9223372036854775807):CC (MR a b):=by
 refine ah.vc (V:=TT 6 (CN ((a.length:Int)=(b.length:Int)) (TT 2 (false=(decide (a=b))∧True)) (TT 1 (GO (vL a b) 0 (∀k,(vL a b).inv k→TT 4 (CD ((k:Int)<(a.length:Int)) (TT 2 (IX (k:Int) a.length∧TT 3 (IX (k:Int) b.length∧TT 2 (CN ((a.getD k 0)=(b.getD k 0)) (TT 2 (false=(decide (a=b))∧True)) (TT 1 (W6 ((k+1:Nat):Int)∧TT 1 (AG (vL a b) k (k+1)))))))) (TT 2 (true=(decide (a=b))∧True)))))))) (.b 10 (.e) (.l (vL a b) 0 (fun k=>.b 14 (.b 25 (.e) (.w 5 [(1,.val (i6 ((k+1:Nat):Int)))]<|.e)) (.e)))) Tryz.func32 rfl rfl rfl (by kernel_rfl) ?_
 refine tt (cn (fun hc10=>?_) (fun hc10=>?_))
 · refine tt ⟨?_,oK⟩
   first | exact(Uy (fun e=>by subst e;omega)).symm | exact(Uy (same_no (k:=k) (by simpa using WD))).symm | exact(Uz (dp (by omega) (by omega) hall)).symm
 · refine tt ⟨rfl,⟨by omega,fun z hz=>by omega⟩,?_⟩
   intro k F'
   obtain⟨hk,hall⟩:=F'
   refine tt (cd (fun Y6=>?_) (fun Y6=>?_))
   · refine tt ⟨ix,tt ⟨ix,tt (cn (fun WD=>?_) (fun WD=>?_))⟩⟩
     · refine tt ⟨?_,oK⟩
       first | exact(Uy (fun e=>by subst e;omega)).symm | exact(Uy (same_no (k:=k) (by simpa using WD))).symm | exact(Uz (dp (by omega) (by omega) hall)).symm
     · refine tt ⟨w6,tt ⟨(k+1),rfl,?_,(?_:a.length-(k+1)<a.length-k)⟩⟩
       · exact⟨by omega,bD hall (by simpa using WD)⟩
       · omega
   · refine tt ⟨?_,oK⟩
     first | exact(Uy (fun e=>by subst e;omega)).symm | exact(Uy (same_no (k:=k) (by simpa using WD))).symm | exact(Uz (dp (by omega) (by omega) hall)).symm
abbrev Tb (a b:Ps):Ct:=⟨31,[(.agg [(LI a.Ul),(dL 1 aa [] a.Uk)]),(.agg [(LI b.Ul),(dL 1 aa [] b.Uk)])],false,(dB (eI a b))⟩
abbrev pJ (a:Ps) (b:Ps):Lp (Nat):=gD [2,3,5] 2 (fun (k:Nat)=>⟨[(2,ky),(3,(.ptr 1 0 0 0)),(5,(i6 (k:Int)))],[(.var 69 [(LI a.Ul),(dL 1 aa [] a.Uk)]),(.var 69 [(LI b.Ul),(dL 1 aa [] b.Uk)])]⟩) (fun (k:Nat)=>k≤a.Uk.length∧∀z,z<k→a.Uk.getD z []=b.Uk.getD z []) (fun (k:Nat)=>a.Uk.length-k)
theorem HM (a b:Ps) (ha:a.Ul.length≤9223372036854775807) (hb:a.Uk.length≤9223372036854775807) (hc:∀i,(a.Uk.getD i []).length≤9223372036854775807):CC (Tb a b):=by
 refine ah.vc (V:=TT 3 (CS (a.Ul=b.Ul) (TT 4 (CC (MR a.Ul b.Ul)∧TT 1 ((True∧(!decide (a.Ul=b.Ul))=false)∧TT 8 (CN ((a.Uk.length:Int)=(b.Uk.length:Int)) (TT 2 (false=(eI a b)∧True)) (TT 1 (GO (pJ a b) 0 (∀k,(pJ a b).inv k→TT 5 (CD ((k:Int)<(a.Uk.length:Int)) (TT 3 (IX (k:Int) a.Uk.length∧TT 4 (IX (k:Int) b.Uk.length∧TT 1 (CC (MR (a.Uk.getD k []) (b.Uk.getD k []))∧TT 1 (CN ((a.Uk.getD k [])=(b.Uk.getD k [])) (TT 2 (false=(eI a b)∧True)) (TT 1 (W6 ((k+1:Nat):Int)∧TT 1 (AG (pJ a b) k (k+1))))))))) (TT 2 (true=(eI a b)∧True)))))))))) (TT 4 (CC (MR a.Ul b.Ul)∧TT 1 ((True∧(!decide (a.Ul=b.Ul))=true)∧TT 10 (false=(eI a b)∧True)))))) (.s 1 (a.Ul=b.Ul) (.w 1 [(4,(MR a.Ul b.Ul).O),(6,.val (dB false))]<|.b 20 (.e) (.l (pJ a b) 0 (fun k=>.b 25 (.w 6 [(10,(MR (a.Uk.getD k []) (b.Uk.getD k [])).O)]<|.b 39 (.e) (.w 5 [(1,.val (i6 ((k+1:Nat):Int)))]<|.e)) (.e)))) (.w 1 [(4,(MR a.Ul b.Ul).O),(6,.val (dB true))]<|.e)) Tryz.func31 rfl rfl rfl (by kernel_rfl) ?_
 refine tt ⟨fun N'=>?_,fun N'=>?_⟩
 · refine tt ⟨(vM a.Ul b.Ul ha),tt ⟨(nF N'),tt (cn (fun YM=>?_) (fun YM=>?_))⟩⟩
   · refine tt ⟨?_,oK⟩
     first | exact(l8 (by simpa using N')).symm | exact(l9 (by omega)).symm | exact(ma (i:=k) (by simpa using Xq)).symm | exact(mb (by simpa using N') (dp (by omega) (by omega) hall)).symm
   · refine tt ⟨rfl,⟨by omega,fun z hz=>by omega⟩,?_⟩
     intro k F'
     obtain⟨hk,hall⟩:=F'
     refine tt (cd (fun WD=>?_) (fun WD=>?_))
     · refine tt ⟨ix,tt ⟨ix,tt ⟨(vM (a.Uk.getD k []) (b.Uk.getD k []) (hc k)),tt (cn (fun Xq=>?_) (fun Xq=>?_))⟩⟩⟩
       · refine tt ⟨?_,oK⟩
         first | exact(l8 (by simpa using N')).symm | exact(l9 (by omega)).symm | exact(ma (i:=k) (by simpa using Xq)).symm | exact(mb (by simpa using N') (dp (by omega) (by omega) hall)).symm
       · refine tt ⟨w6,tt ⟨(k+1),rfl,?_,(?_:a.Uk.length-(k+1)<a.Uk.length-k)⟩⟩
         · exact⟨by omega,bD hall (by simpa using Xq)⟩
         · omega
     · refine tt ⟨?_,oK⟩
       first | exact(l8 (by simpa using N')).symm | exact(l9 (by omega)).symm | exact(ma (i:=k) (by simpa using Xq)).symm | exact(mb (by simpa using N') (dp (by omega) (by omega) hall)).symm
 · refine tt ⟨(vM a.Ul b.Ul ha),tt ⟨(nT N'),tt ⟨?_,oK⟩⟩⟩
   first | exact(l8 (by simpa using N')).symm | exact(l9 (by omega)).symm | exact(ma (i:=k) (by simpa using Xq)).symm | exact(mb (by simpa using N') (dp (by omega) (by omega) hall)).symm
abbrev qC (c:Ci):List D:=[(dL 6 bG ac c.U),(dL 5 ca aK c.J)]
abbrev sZ (s:Ns):List D:=[(dL 2 bi a7 s.U),(dL 1 aa [] s.J)]
set_option maxRecDepth 100000
abbrev MS (l:List Int) (w:Int):Ct:=⟨28,[(LI l),(i6 w)],false,(dB (gq l w))⟩
abbrev mN (l:List Int) (w:Int):Lp (Nat):=gD [0,1,5] 0 (fun (i:Nat)=>⟨[(0,(LI l)),(1,(i6 w)),(5,(i6 (i:Int)))],[]⟩) (fun (i:Nat)=>i≤l.length∧∀z,z<i→f8 (l.getD z 0) w=true) (fun (i:Nat)=>l.length-i)
theorem mO (l:List Int) (w:Int) (hl:l.length≤9223372036854775807):CC (MS l w):=by
 refine ah.vc (V:=TT 2 (GO (mN l w) 0 (∀i,(mN l w).inv i→TT 4 (CD ((i:Int)<(l.length:Int)) (CS ((l.getD i 0)<0) (TT 2 (IX (i:Int) l.length∧TT 2 ((True∧(decide ((l.getD i 0)<0))=true)∧TT 3 (false=(gq l w)∧True)))) (TT 2 (IX (i:Int) l.length∧TT 2 ((True∧(decide ((l.getD i 0)<0))=false)∧TT 2 (IX (i:Int) l.length∧TT 2 (CC (Eg w)∧TT 2 (CD ((l.getD i 0)>(ai w)) (TT 2 (false=(gq l w)∧True)) (TT 1 (W6 ((i+1:Nat):Int)∧TT 1 (AG (mN l w) i (i+1))))))))))) (TT 2 (true=(gq l w)∧True)))))) (.l (mN l w) 0 (fun i=>.b 9 (.s 4 ((l.getD i 0)<0) (.w 4 [(5,.val (dB true))]<|.e) (.w 4 [(5,.val (dB false)),(11,(Eg w).O)]<|.b 25 (.e) (.w 3 [(1,.val (i6 ((i+1:Nat):Int)))]<|.e))) (.e))) Tryz.func28 rfl rfl rfl (by kernel_rfl) ?_
 refine tt ⟨rfl,⟨by omega,fun z hz=>by omega⟩,?_⟩
 intro i F'
 obtain⟨hi,h3⟩:=F'
 refine tt (cd (fun hc9=>?_) (fun hc9=>?_))
 · refine⟨fun N'=>?_,fun N'=>?_⟩
   · refine tt ⟨ix,tt ⟨(vT N'),tt ⟨?_,oK⟩⟩⟩
     first | exact(pc (i:=i) (by omega) (Ae N')).symm | exact(pc (i:=i) (by omega) (Af WD)).symm | exact(wN (fun z hz=>h3 z (by omega))).symm
   · refine tt ⟨ix,tt ⟨(vF N'),tt ⟨ix,tt ⟨(jT w),tt (cd (fun WD=>?_) (fun WD=>?_))⟩⟩⟩⟩
     · refine tt ⟨?_,oK⟩
       first | exact(pc (i:=i) (by omega) (Ae N')).symm | exact(pc (i:=i) (by omega) (Af WD)).symm | exact(wN (fun z hz=>h3 z (by omega))).symm
     · refine tt ⟨w6,tt ⟨(i+1),rfl,?_,(?_:l.length-(i+1)<l.length-i)⟩⟩
       · exact⟨by omega,bD h3 (L8 N' WD)⟩
       · omega
 · refine tt ⟨?_,oK⟩
   first | exact(pc (i:=i) (by omega) (Ae N')).symm | exact(pc (i:=i) (by omega) (Af WD)).symm | exact(wN (fun z hz=>h3 z (by omega))).symm
abbrev c8 (c:Ci) (s:Ns):Ct:=⟨8,[(.agg (qC c)),(.agg (sZ s))],false,(dB (cC c s))⟩
abbrev mP (c:Ci) (s:Ns):Lp (Nat):=gD [2,3,5] 2 (fun (i:Nat)=>⟨[(2,(.ptr 0 0 0 0)),(3,(.ptr 1 0 0 0)),(5,(i6 (i:Int)))],[(.var 32 (qC c)),(.var 36 (sZ s))]⟩) (fun (i:Nat)=>i≤c.U.length∧∀z,z<i→ck (a9 c z) (tK s z)=true) (fun (i:Nat)=>c.U.length-i)
abbrev hU (c:Ci) (s:Ns):Lp (Nat):=gD [2,3,6] 2 (fun (n:Nat)=>⟨[(2,(.ptr 0 0 0 0)),(3,(.ptr 1 0 0 0)),(6,(i6 (n:Int)))],[(.var 32 (qC c)),(.var 36 (sZ s))]⟩) (fun (n:Nat)=>n≤c.J.length∧∀z,z<n→jE c s z=true) (fun (n:Nat)=>c.J.length-n)
theorem ru (c:Ci) (s:Ns) (hc:cr c) (ZD:sA s 9223372036854775807):CC (c8 c s):=by
 have Xo:=hc.nl
 have hcl:=hc.cl
 refine ah.vc (V:=TT 3 (CS ((s.U.length:Int)=(c.U.length:Int)) (TT 7 ((True∧(!decide ((s.U.length:Int)=(c.U.length:Int)))=false)∧TT 8 (CN ((s.J.length:Int)=(c.J.length:Int)) (TT 2 (false=(cC c s)∧True)) (TT 1 (GO (mP c s) 0 (∀i,(mP c s).inv i→TT 5 (CD ((i:Int)<(c.U.length:Int)) (TT 3 (IX (i:Int) c.U.length∧TT 4 (IX (i:Int) s.U.length∧TT 1 (CC (S7 (c.U.getD i ac) (s.U.getD i a7))∧TT 1 (CB (!(ck (c.U.getD i ac) (s.U.getD i a7))) (TT 2 (false=(cC c s)∧True)) (TT 1 (W6 ((i+1:Nat):Int)∧TT 1 (AG (mP c s) i (i+1))))))))) (TT 1 (GO (hU c s) 0 (∀n,(hU c s).inv n→TT 5 (CD ((n:Int)<(c.J.length:Int)) (TT 3 (IX (n:Int) c.J.length∧TT 3 (CS ((gq (s.J.getD n []) ((c.J.getD n aK).w))=true) (CS (((c.J.getD n aK).frm)≥0) (CS (((c.J.getD n aK).dst)≥0) (TT 3 (IX (n:Int) s.J.length∧TT 3 (CC (MS (s.J.getD n []) ((c.J.getD n aK).w))∧TT 1 ((True∧(!(gq (s.J.getD n []) ((c.J.getD n aK).w)))=false)∧TT 3 ((True∧(decide (((c.J.getD n aK).frm)≥0))=true)∧TT 4 ((True∧(decide (((c.J.getD n aK).dst)≥0))=true)∧TT 3 (IX (n:Int) s.J.length∧TT 7 (CD ((((s.J.getD n []).length:Nat):Int)>((c.J.getD n aK).cap)) (TT 2 (false=(cC c s)∧True)) (TT 1 (W6 ((n+1:Nat):Int)∧TT 1 (AG (hU c s) n (n+1)))))))))))) (TT 3 (IX (n:Int) s.J.length∧TT 3 (CC (MS (s.J.getD n []) ((c.J.getD n aK).w))∧TT 1 ((True∧(!(gq (s.J.getD n []) ((c.J.getD n aK).w)))=false)∧TT 3 ((True∧(decide (((c.J.getD n aK).frm)≥0))=true)∧TT 4 ((True∧(decide (((c.J.getD n aK).dst)≥0))=false)∧TT 3 (W6 ((n+1:Nat):Int)∧TT 1 (AG (hU c s) n (n+1)))))))))) (TT 3 (IX (n:Int) s.J.length∧TT 3 (CC (MS (s.J.getD n []) ((c.J.getD n aK).w))∧TT 1 ((True∧(!(gq (s.J.getD n []) ((c.J.getD n aK).w)))=false)∧TT 3 ((True∧(decide (((c.J.getD n aK).frm)≥0))=false)∧TT 5 (W6 ((n+1:Nat):Int)∧TT 1 (AG (hU c s) n (n+1))))))))) (TT 3 (IX (n:Int) s.J.length∧TT 3 (CC (MS (s.J.getD n []) ((c.J.getD n aK).w))∧TT 1 ((True∧(!(gq (s.J.getD n []) ((c.J.getD n aK).w)))=true)∧TT 3 (false=(cC c s)∧True)))))))) (TT 2 (true=(cC c s)∧True))))))))))))) (TT 7 ((True∧(!decide ((s.U.length:Int)=(c.U.length:Int)))=true)∧TT 10 (false=(cC c s)∧True))))) (.s 1 ((s.U.length:Int)=(c.U.length:Int)) (.w 1 [(7,.val (dB false))]<|.b 23 (.e) (.l (mP c s) 0 (fun i=>.b 28 (.w 6 [(10,(S7 (c.U.getD i ac) (s.U.getD i a7)).O)]<|.b 42 (.e) (.w 5 [(1,.val (i6 ((i+1:Nat):Int)))]<|.e)) (.l (hU c s) 0 (fun n=>.b 47 (.s 12 ((gq (s.J.getD n []) ((c.J.getD n aK).w))=true) (.s 12 (((c.J.getD n aK).frm)≥0) (.s 12 (((c.J.getD n aK).dst)≥0) (.w 12 [(7,(MS (s.J.getD n []) ((c.J.getD n aK).w)).O),(9,.val (dB false)),(13,.val (dB true)),(18,.val (dB true))]<|.b 84 (.e) (.w 10 [(1,.val (i6 ((n+1:Nat):Int)))]<|.e)) (.w 12 [(7,(MS (s.J.getD n []) ((c.J.getD n aK).w)).O),(9,.val (dB false)),(13,.val (dB true)),(18,.val (dB false))]<|.w 10 [(1,.val (i6 ((n+1:Nat):Int)))]<|.e)) (.w 12 [(7,(MS (s.J.getD n []) ((c.J.getD n aK).w)).O),(9,.val (dB false)),(13,.val (dB false))]<|.w 10 [(1,.val (i6 ((n+1:Nat):Int)))]<|.e)) (.w 12 [(7,(MS (s.J.getD n []) ((c.J.getD n aK).w)).O),(9,.val (dB true))]<|.e)) (.e)))))) (.w 1 [(7,.val (dB true))]<|.e)) Tryz.func8 rfl rfl rfl (by kernel_rfl) ?_
 refine tt ⟨fun N'=>?_,fun N'=>?_⟩
 · refine tt ⟨(nF N'),tt (cn (fun ZU=>?_) (fun ZU=>?_))⟩
   · refine tt ⟨?_,oK⟩
     first | exact(tR (by omega)).symm | exact(tS (by omega)).symm | exact(tT (i:=i) (by omega) (by simpa using Xd)).symm | exact(iO (n:=n) (by omega) (lf (by assumption))).symm | exact(iO (n:=n) (by omega) (lg (by show 0≤(c.J.getD n aK).frm;omega) (by show 0≤(c.J.getD n aK).dst;omega) (by show ¬((s.J.getD n []).length:Int)≤(c.J.getD n aK).cap;omega))).symm | exact(tU (by omega) (by omega) (fun z hz=>h3 z (by omega)) (fun z hz=>h4 z (by omega))).symm
   · refine tt ⟨rfl,⟨by omega,fun z hz=>by omega⟩,?_⟩
     intro i F'
     obtain⟨hi,h3⟩:=F'
     refine tt (cd (fun XI=>?_) (fun XI=>?_))
     · have Zt:=hc.pr i (by omega)
       refine tt ⟨ix,tt ⟨ix,tt ⟨(HJ (c.U.getD i ac) (s.U.getD i a7) Zt),tt ⟨fun Xd=>?_,fun Xd=>?_⟩⟩⟩⟩
       · refine tt ⟨?_,oK⟩
         first | exact(tR (by omega)).symm | exact(tS (by omega)).symm | exact(tT (i:=i) (by omega) (by simpa using Xd)).symm | exact(iO (n:=n) (by omega) (lf (by assumption))).symm | exact(iO (n:=n) (by omega) (lg (by show 0≤(c.J.getD n aK).frm;omega) (by show 0≤(c.J.getD n aK).dst;omega) (by show ¬((s.J.getD n []).length:Int)≤(c.J.getD n aK).cap;omega))).symm | exact(tU (by omega) (by omega) (fun z hz=>h3 z (by omega)) (fun z hz=>h4 z (by omega))).symm
       · refine tt ⟨w6,tt ⟨(i+1),rfl,?_,(?_:c.U.length-(i+1)<c.U.length-i)⟩⟩
         · exact⟨by omega,bD h3 (by simpa using Xd)⟩
         · omega
     · refine tt ⟨rfl,⟨by omega,fun z hz=>by omega⟩,?_⟩
       intro n F'
       obtain⟨hn,h4⟩:=F'
       refine tt (cd (fun hc47=>?_) (fun hc47=>?_))
       · refine tt ⟨ix,tt ?_⟩
         have hlw:(s.J.getD n []).length≤9223372036854775807:=ZD n
         refine⟨fun WN=>?_,fun WN=>?_⟩
         · refine⟨fun XH=>?_,fun XH=>?_⟩
           · refine⟨fun Y4=>?_,fun Y4=>?_⟩
             · refine tt ⟨ix,tt ⟨(mO (s.J.getD n []) ((c.J.getD n aK).w) hlw),tt ⟨(mF WN),tt ⟨(vT XH),tt ⟨(vT Y4),tt ⟨ix,tt (cd (fun hc84=>?_) (fun hc84=>?_))⟩⟩⟩⟩⟩⟩
               · refine tt ⟨?_,oK⟩
                 first | exact(tR (by omega)).symm | exact(tS (by omega)).symm | exact(tT (i:=i) (by omega) (by simpa using Xd)).symm | exact(iO (n:=n) (by omega) (lf (by assumption))).symm | exact(iO (n:=n) (by omega) (lg (by show 0≤(c.J.getD n aK).frm;omega) (by show 0≤(c.J.getD n aK).dst;omega) (by show ¬((s.J.getD n []).length:Int)≤(c.J.getD n aK).cap;omega))).symm | exact(tU (by omega) (by omega) (fun z hz=>h3 z (by omega)) (fun z hz=>h4 z (by omega))).symm
               · refine tt ⟨w6,tt ⟨(n+1),rfl,?_,(?_:c.J.length-(n+1)<c.J.length-n)⟩⟩
                 · refine⟨by omega,bD h4 ?_⟩
                   first | exact DD (by assumption) (by show ¬0≤(c.J.getD n aK).frm;omega) | exact DE (by assumption) (by show ¬0≤(c.J.getD n aK).dst;omega) | exact DF (by assumption) (by show((s.J.getD n []).length:Int)≤(c.J.getD n aK).cap;omega)
                 · omega
             · refine tt ⟨ix,tt ⟨(mO (s.J.getD n []) ((c.J.getD n aK).w) hlw),tt ⟨(mF WN),tt ⟨(vT XH),tt ⟨(vF Y4),tt ⟨w6,tt ⟨(n+1),rfl,?_,(?_:c.J.length-(n+1)<c.J.length-n)⟩⟩⟩⟩⟩⟩⟩
               · refine⟨by omega,bD h4 ?_⟩
                 first | exact DD (by assumption) (by show ¬0≤(c.J.getD n aK).frm;omega) | exact DE (by assumption) (by show ¬0≤(c.J.getD n aK).dst;omega) | exact DF (by assumption) (by show((s.J.getD n []).length:Int)≤(c.J.getD n aK).cap;omega)
               · omega
           · refine tt ⟨ix,tt ⟨(mO (s.J.getD n []) ((c.J.getD n aK).w) hlw),tt ⟨(mF WN),tt ⟨(vF XH),tt ⟨w6,tt ⟨(n+1),rfl,?_,(?_:c.J.length-(n+1)<c.J.length-n)⟩⟩⟩⟩⟩⟩
             · refine⟨by omega,bD h4 ?_⟩
               first | exact DD (by assumption) (by show ¬0≤(c.J.getD n aK).frm;omega) | exact DE (by assumption) (by show ¬0≤(c.J.getD n aK).dst;omega) | exact DF (by assumption) (by show((s.J.getD n []).length:Int)≤(c.J.getD n aK).cap;omega)
             · omega
         · refine tt ⟨ix,tt ⟨(mO (s.J.getD n []) ((c.J.getD n aK).w) hlw),tt ⟨(mT WN),tt ⟨?_,oK⟩⟩⟩⟩
           first | exact(tR (by omega)).symm | exact(tS (by omega)).symm | exact(tT (i:=i) (by omega) (by simpa using Xd)).symm | exact(iO (n:=n) (by omega) (lf (by assumption))).symm | exact(iO (n:=n) (by omega) (lg (by show 0≤(c.J.getD n aK).frm;omega) (by show 0≤(c.J.getD n aK).dst;omega) (by show ¬((s.J.getD n []).length:Int)≤(c.J.getD n aK).cap;omega))).symm | exact(tU (by omega) (by omega) (fun z hz=>h3 z (by omega)) (fun z hz=>h4 z (by omega))).symm
       · refine tt ⟨?_,oK⟩
         first | exact(tR (by omega)).symm | exact(tS (by omega)).symm | exact(tT (i:=i) (by omega) (by simpa using Xd)).symm | exact(iO (n:=n) (by omega) (lf (by assumption))).symm | exact(iO (n:=n) (by omega) (lg (by show 0≤(c.J.getD n aK).frm;omega) (by show 0≤(c.J.getD n aK).dst;omega) (by show ¬((s.J.getD n []).length:Int)≤(c.J.getD n aK).cap;omega))).symm | exact(tU (by omega) (by omega) (fun z hz=>h3 z (by omega)) (fun z hz=>h4 z (by omega))).symm
 · refine tt ⟨(nT N'),tt ⟨?_,oK⟩⟩
   first | exact(tR (by omega)).symm | exact(tS (by omega)).symm | exact(tT (i:=i) (by omega) (by simpa using Xd)).symm | exact(iO (n:=n) (by omega) (lf (by assumption))).symm | exact(iO (n:=n) (by omega) (lg (by show 0≤(c.J.getD n aK).frm;omega) (by show 0≤(c.J.getD n aK).dst;omega) (by show ¬((s.J.getD n []).length:Int)≤(c.J.getD n aK).cap;omega))).symm | exact(tU (by omega) (by omega) (fun z hz=>h3 z (by omega)) (fun z hz=>h4 z (by omega))).symm
abbrev Tc (c:Ci):Ct:=⟨39,[(.agg (qC c))],true,(.agg [(dL 2 bi a7 ((fb c).U)),(dL 1 aa [] ((fb c).J))])⟩
abbrev pK (c:Ci):Lp (Nat):=gD [1,2,3,4] 5 (fun (i:Nat)=>⟨[(1,(.ptr 0 0 0 0)),(2,(.ptr 1 0 0 0)),(3,(.ptr 3 0 0 0)),(4,(i6 (i:Int)))],[(.var 32 (qC c)),(.var 36 [.nils,.nils]),(.arr 67 1 aa [] (List.replicate c.J.length ([]:List Int))),(.var 36 [(.own 4),(.own 2)]),(.arr 69 2 bi a7 (tab (fun i=>b3 (a9 c i)) i))]⟩) (fun (i:Nat)=>i≤c.U.length) (fun (i:Nat)=>c.U.length-i)
theorem HN (c:Ci) (hc:cr c):CC (Tc c):=by
 have Xo:=hc.nl
 have hcl:=hc.cl
 refine ah.vc (V:=TT 5 ((((0:Int)≤(c.J.length:Int)∧(c.J.length:Int)≤(c.J.length:Int)∧(c.J.length:Int)≤137438953472)∧(List.replicate c.J.length ([]:List Int)).length=c.J.length∧∀x∈(List.replicate c.J.length ([]:List Int)),dt [.nils] (aa x))∧TT 4 (GO (pK c) 0 (∀i,(pK c).inv i→TT 5 (CD ((i:Int)<(c.U.length:Int)) (TT 5 (IX (i:Int) c.U.length∧TT 1 (CC (S8 (c.U.getD i ac))∧am [[(LI ((b3 (c.U.getD i ac)).Ul)),(dL 1 aa [] ((b3 (c.U.getD i ac)).Uk))]] ([(⟨(b3 (c.U.getD i ac)).Ul,(b3 (c.U.getD i ac)).Uk⟩:Ps)].map bi)∧((tab (fun i=>b3 (a9 c i)) i).length+([(⟨(b3 (c.U.getD i ac)).Ul,(b3 (c.U.getD i ac)).Uk⟩:Ps)].map bi).length≤137438953472∧(tab (fun i=>b3 (a9 c i)) i).map bi++[(⟨(b3 (c.U.getD i ac)).Ul,(b3 (c.U.getD i ac)).Uk⟩:Ps)].map bi=(tab (fun i=>b3 (a9 c i)) (i+1)).map bi)∧TT 3 (W6 ((i+1:Nat):Int)∧TT 1 (AG (pK c) i (i+1)))))) (TT 3 ((tab (fun i=>b3 (a9 c i)) i).map bi=((fb c).U).map bi∧(List.replicate c.J.length ([]:List Int)).map aa=((fb c).J).map aa∧True))))))) (.w 1 [(3,.box 67 1 aa [] (List.replicate c.J.length ([]:List Int)))]<|.g 2 3 0 69 2 bi a7<|.l (pK c) 0 (fun i=>.b 14 (.w 5 [(7,(S8 (c.U.getD i ac)).O),(8,.box 69 2 bi a7 [(⟨(b3 (c.U.getD i ac)).Ul,(b3 (c.U.getD i ac)).Uk⟩:Ps)]),(9,.box 69 2 bi a7 (tab (fun i=>b3 (a9 c i)) (i+1)))]<|.w 4 [(1,.val (i6 ((i+1:Nat):Int)))]<|.e) (.e))) Tryz.func39 rfl rfl rfl (by kernel_rfl) ?_
 refine tt ⟨⟨by omega,by simp,fun x hx=>by rw[UN hx];exact⟨rfl,oK⟩⟩,tt ⟨rfl,(by omega),?_⟩⟩
 intro i F'
 have hi:=F'
 refine tt (cd (fun Y6=>?_) (fun Y6=>?_))
 · have Zt:=hc.pr i (by omega)
   refine tt ⟨ix,tt ⟨(HK (c.U.getD i ac) Zt),⟨⟨⟨rfl,rfl,oK⟩,oK⟩,⟨(o6 (f:=fun i=>b3 (a9 c i)) (by omega)),tt ⟨w6,tt ⟨(i+1),rfl,(?_:(i+1)≤c.U.length),(?_:c.U.length-(i+1)<c.U.length-i)⟩⟩⟩⟩⟩⟩
   · omega
   · omega
 · refine tt ⟨(congrArg _ (?_:(tab (fun i=>b3 (a9 c i)) i)=((fb c).U))),(congrArg _ (?_:(List.replicate c.J.length ([]:List Int))=((fb c).J))),oK⟩
   · rw[show i=c.U.length by omega];rfl
   · rfl
abbrev Td (s:Ns) (n:Int) (l:List Int):Ct:=⟨43,[(.agg (sZ s)),(i6 n),(LI l)],true,(.agg [(dL 2 bi a7 ((iX s n.toNat l).U)),(dL 1 aa [] ((iX s n.toNat l).J))])⟩
theorem MT (s:Ns) (n:Int) (l:List Int) (h1:0≤n) (h2:n<s.J.length) (h3:s.J.length≤1000000):CC (Td s n l):=by
 refine ah.vc (V:=TT 4 (am [] (([]:List (List Int)).map aa)∧TT 2 ((([]:List (List Int)).length+(s.J.map aa).length≤137438953472∧([]:List (List Int)).map aa++s.J.map aa=s.J.map aa)∧TT 7 (IX n s.J.length∧(n.toNat<s.J.length∧(s.J.map aa).set n.toNat ((aa (s.J.getD n.toNat [])).take 0++[(.sl 1 (ab .i64) 0 l)]++(aa (s.J.getD n.toNat [])).drop (0+1))=(s.J.set n.toNat l).map aa)∧TT 3 (s.U.map bi=((iX s n.toNat l).U).map bi∧(s.J.set n.toNat l).map aa=((iX s n.toNat l).J).map aa∧True))))) (.w 1 [(2,.app false 67 1 aa [] ([]:List (List Int))),(5,.app false 67 1 aa [] s.J)]<|.w 2 [(5,.box 67 1 aa [] (s.J.set n.toNat l))]<|.e) Tryz.func43 rfl rfl rfl (by kernel_rfl) ?_
 refine tt ⟨oK,tt ⟨⟨by simp only[UB,Ve,UR,UK,UW,UG];first | omega | (simp;first | done | omega),by simp only[Vc,VL,Vq,V6]⟩,tt ⟨ix,⟨⟨om,by simp only[US];rfl⟩,tt ⟨(congrArg _ (?_:s.U=((iX s n.toNat l).U))),(congrArg _ (?_:(s.J.set n.toNat l)=((iX s n.toNat l).J))),oK⟩⟩⟩⟩⟩
 all_goals (rfl)
abbrev Te (c:Ci) (s:Ns) (p:Nat):Ct:=⟨93,[(.agg (qC c)),(.agg (sZ s)),(i6 (p:Int))],true,(.agg [(dL 2 db bu (cX c s p)),(LB (dy c s p))])⟩
abbrev oG (c:Ci) (s:Ns) (p:Nat):Lp (Nat):=gD [2,3,4,6,7,8] 5 (fun (i:Nat)=>⟨[(2,(i6 (p:Int))),(3,(.ptr 0 0 0 0)),(4,(.ptr 1 0 0 0)),(6,(.ptr 2 0 0 0)),(7,(.ptr 3 0 0 0)),(8,(i6 (i:Int)))],[(.var 32 (qC c)),(.var 36 (sZ s)),(.var 188 [.nils,.nils]),(.var 188 [(.own 4),.nils]),(.arr 167 2 db bu (tab (cf c s p) i))]⟩) (fun (i:Nat)=>i≤(c.U.getD p ac).I.length) (fun (i:Nat)=>(c.U.getD p ac).I.length-i)
abbrev oH (c:Ci) (s:Ns) (p:Nat) (i:Nat):Lp (Nat):=gD [2,3,4,6,7,11] 6 (fun (m:Nat)=>⟨[(2,(i6 (p:Int))),(3,(.ptr 0 0 0 0)),(4,(.ptr 1 0 0 0)),(6,(.ptr 2 0 0 0)),(7,(.ptr 3 0 0 0)),(11,(i6 (m:Int)))],[(.var 32 (qC c)),(.var 36 (sZ s)),(.var 188 [.nils,.nils]),(.var 188 [(.own 4),(.own 5)]),(.arr 167 2 db bu (tab (cf c s p) i)),(.arr 4 1 ba false (tab (cg c s p) m))]⟩) (fun (m:Nat)=>m≤(c.U.getD p ac).Uj.length) (fun (m:Nat)=>(c.U.getD p ac).Uj.length-m)
theorem KJ (c:Ci) (s:Ns) (p:Nat) (hc:cr c) (hs:eG c s) (hp:p<c.U.length):CC (Te c s p):=by
 have Xo:=hc.nl
 have hcl:=hc.cl
 have Zt:gm (c.U.getD p ac):=hc.pr p hp
 have YI:=hs.pl
 have Yf:=hs.cl
 have ht1:(c.U.getD p ac).I.length≤100:=Zt.tl
 have ht2:(c.U.getD p ac).Uj.length≤100:=Zt.pl
 refine ah.vc (V:=TT 7 (GO (oG c s p) 0 (∀i,(oG c s p).inv i→TT 4 (IX (p:Int) c.U.length∧TT 4 (CD ((i:Int)<((((c.U.getD p ac).I).length:Nat):Int)) (TT 5 (IX (p:Int) c.U.length∧TT 3 (IX (i:Int) (((c.U.getD p ac).I).length)∧TT 2 (IX ((((c.U.getD p ac).I).getD i bC).chan) s.J.length∧TT 8 (CD ((((s.J.getD (((((c.U.getD p ac).I).getD i bC).chan).toNat) []).length:Nat):Int)>0) (TT 1 (IX 0 ((s.J.getD (((((c.U.getD p ac).I).getD i bC).chan).toNat) []).length)∧TT 6 (am [[(dB true),(i6 ((s.J.getD (((((c.U.getD p ac).I).getD i bC).chan).toNat) []).getD 0 0))]] ([(⟨true,((s.J.getD (((((c.U.getD p ac).I).getD i bC).chan).toNat) []).getD 0 0)⟩:Hd)].map db)∧((tab (cf c s p) i).length+([(⟨true,((s.J.getD (((((c.U.getD p ac).I).getD i bC).chan).toNat) []).getD 0 0)⟩:Hd)].map db).length≤137438953472∧(tab (cf c s p) i).map db++[(⟨true,((s.J.getD (((((c.U.getD p ac).I).getD i bC).chan).toNat) []).getD 0 0)⟩:Hd)].map db=(tab (cf c s p) (i+1)).map db)∧TT 3 (W6 ((i+1:Nat):Int)∧TT 1 (AG (oG c s p) i (i+1)))))) (TT 3 (am [[(dB false),(i6 0)]] ([(⟨false,0⟩:Hd)].map db)∧((tab (cf c s p) i).length+([(⟨false,0⟩:Hd)].map db).length≤137438953472∧(tab (cf c s p) i).map db++[(⟨false,0⟩:Hd)].map db=(tab (cf c s p) (i+1)).map db)∧TT 3 (W6 ((i+1:Nat):Int)∧TT 1 (AG (oG c s p) i (i+1)))))))))) (TT 1 (GO (oH c s p i) 0 (∀m,(oH c s p i).inv m→TT 4 (IX (p:Int) c.U.length∧TT 4 (CD ((m:Int)<((((c.U.getD p ac).Uj).length:Nat):Int)) (TT 3 (IX (p:Int) c.U.length∧TT 3 (IX (m:Int) (((c.U.getD p ac).Uj).length)∧TT 3 (CS (((c.J.getD (((((c.U.getD p ac).Uj).getD m bt).chan).toNat) aK).dst)=(-1)) (TT 5 (IX ((((c.U.getD p ac).Uj).getD m bt).chan) c.J.length∧TT 3 ((True∧(decide (((c.J.getD (((((c.U.getD p ac).Uj).getD m bt).chan).toNat) aK).dst)=(-1)))=true)∧TT 1 (am [[(dB true)]] ([true].map ba)∧((tab (cg c s p) m).length+([true].map ba).length≤137438953472∧(tab (cg c s p) m).map ba++[true].map ba=(tab (cg c s p) (m+1)).map ba)∧TT 3 (W6 ((m+1:Nat):Int)∧TT 1 (AG (oH c s p i) m (m+1))))))) (TT 5 (IX ((((c.U.getD p ac).Uj).getD m bt).chan) c.J.length∧TT 3 ((True∧(decide (((c.J.getD (((((c.U.getD p ac).Uj).getD m bt).chan).toNat) aK).dst)=(-1)))=false)∧TT 3 (IX ((((c.U.getD p ac).Uj).getD m bt).chan) s.J.length∧TT 5 (IX ((((c.U.getD p ac).Uj).getD m bt).chan) c.J.length∧TT 4 (am [[(dB (decide ((((s.J.getD (((((c.U.getD p ac).Uj).getD m bt).chan).toNat) []).length:Nat):Int)<((c.J.getD (((((c.U.getD p ac).Uj).getD m bt).chan).toNat) aK).cap))))]] ([decide ((((s.J.getD (((((c.U.getD p ac).Uj).getD m bt).chan).toNat) []).length:Nat):Int)<((c.J.getD (((((c.U.getD p ac).Uj).getD m bt).chan).toNat) aK).cap))].map ba)∧((tab (cg c s p) m).length+([decide ((((s.J.getD (((((c.U.getD p ac).Uj).getD m bt).chan).toNat) []).length:Nat):Int)<((c.J.getD (((((c.U.getD p ac).Uj).getD m bt).chan).toNat) aK).cap))].map ba).length≤137438953472∧(tab (cg c s p) m).map ba++[decide ((((s.J.getD (((((c.U.getD p ac).Uj).getD m bt).chan).toNat) []).length:Nat):Int)<((c.J.getD (((((c.U.getD p ac).Uj).getD m bt).chan).toNat) aK).cap))].map ba=(tab (cg c s p) (m+1)).map ba)∧TT 3 (W6 ((m+1:Nat):Int)∧TT 1 (AG (oH c s p i) m (m+1))))))))))))) (TT 3 ((tab (cf c s p) i).map db=(cX c s p).map db∧(tab (cg c s p) m).map ba=(dy c s p).map ba∧True)))))))))))) (.g 2 3 0 167 2 db bu<|.l (oG c s p) 0 (fun i=>.b 22 (.b 42 (.w 9 [(3,.box 167 2 db bu [(⟨true,((s.J.getD (((((c.U.getD p ac).I).getD i bC).chan).toNat) []).getD 0 0)⟩:Hd)]),(4,.box 167 2 db bu (tab (cf c s p) (i+1)))]<|.w 4 [(1,.val (i6 ((i+1:Nat):Int)))]<|.e) (.w 9 [(3,.box 167 2 db bu [(⟨false,0⟩:Hd)]),(4,.box 167 2 db bu (tab (cf c s p) (i+1)))]<|.w 4 [(1,.val (i6 ((i+1:Nat):Int)))]<|.e)) (.g 10 3 1 4 1 ba false<|.l (oH c s p i) 0 (fun m=>.b 61 (.s 14 (((c.J.getD (((((c.U.getD p ac).Uj).getD m bt).chan).toNat) aK).dst)=(-1)) (.w 14 [(9,.val (dB true)),(24,.box 4 1 ba false [true]),(25,.box 4 1 ba false (tab (cg c s p) (m+1)))]<|.w 12 [(1,.val (i6 ((m+1:Nat):Int)))]<|.e) (.w 14 [(9,.val (dB false)),(24,.box 4 1 ba false [decide ((((s.J.getD (((((c.U.getD p ac).Uj).getD m bt).chan).toNat) []).length:Nat):Int)<((c.J.getD (((((c.U.getD p ac).Uj).getD m bt).chan).toNat) aK).cap))]),(25,.box 4 1 ba false (tab (cg c s p) (m+1)))]<|.w 12 [(1,.val (i6 ((m+1:Nat):Int)))]<|.e)) (.e))))) Tryz.func93 rfl rfl rfl (by kernel_rfl) ?_
 refine tt ⟨rfl,(by omega),?_⟩
 intro i F'
 have hi:=F'
 refine tt ⟨ix,tt (cd (fun YN=>?_) (fun YN=>?_))⟩
 · have ZA:0≤((c.U.getD p ac).I.getD i bC).chan∧((c.U.getD p ac).I.getD i bC).chan<c.J.length:=⟨(hc.tk p hp i (show i<(c.U.getD p ac).I.length by omega)).1,(hc.tk p hp i (show i<(c.U.getD p ac).I.length by omega)).2.1⟩
   refine tt ⟨ix,tt ⟨ix,tt ⟨ix,tt (cd (fun Xd=>?_) (fun Xd=>?_))⟩⟩⟩
   · refine tt ⟨ix,tt ⟨⟨⟨rfl,rfl,oK⟩,oK⟩,⟨(aZ (by omega) (by first | exact(Uw (show 0<(s.J.getD ((c.U.getD p ac).I.getD i bC).chan.toNat []).length by omega)).symm | exact(Ur (show ¬0<(s.J.getD ((c.U.getD p ac).I.getD i bC).chan.toNat []).length by omega)).symm)),tt ⟨w6,tt ⟨(i+1),rfl,(?_:(i+1)≤(c.U.getD p ac).I.length),(?_:(c.U.getD p ac).I.length-(i+1)<(c.U.getD p ac).I.length-i)⟩⟩⟩⟩⟩
     · omega
     · omega
   · refine tt ⟨⟨⟨rfl,rfl,oK⟩,oK⟩,⟨(aZ (by omega) (by first | exact(Uw (show 0<(s.J.getD ((c.U.getD p ac).I.getD i bC).chan.toNat []).length by omega)).symm | exact(Ur (show ¬0<(s.J.getD ((c.U.getD p ac).I.getD i bC).chan.toNat []).length by omega)).symm)),tt ⟨w6,tt ⟨(i+1),rfl,(?_:(i+1)≤(c.U.getD p ac).I.length),(?_:(c.U.getD p ac).I.length-(i+1)<(c.U.getD p ac).I.length-i)⟩⟩⟩⟩
     · omega
     · omega
 · refine tt ⟨rfl,(by omega),?_⟩
   intro m F'
   have hm:=F'
   refine tt ⟨ix,tt (cd (fun Y5=>?_) (fun Y5=>?_))⟩
   · have hpt:0≤((c.U.getD p ac).Uj.getD m bt).chan∧((c.U.getD p ac).Uj.getD m bt).chan<c.J.length:=⟨(hc.pt p hp m (show m<(c.U.getD p ac).Uj.length by omega)).1,(hc.pt p hp m (show m<(c.U.getD p ac).Uj.length by omega)).2.1⟩
     refine tt ⟨ix,tt ⟨ix,tt ⟨fun N'=>?_,fun N'=>?_⟩⟩⟩
     · refine tt ⟨ix,tt ⟨(vT N'),tt ⟨⟨⟨rfl,oK⟩,oK⟩,⟨(aZ (by omega) (by first | exact(z5 N').symm | exact(oa N').symm | exact(oa WN).symm)),tt ⟨w6,tt ⟨(m+1),rfl,(?_:(m+1)≤(c.U.getD p ac).Uj.length),(?_:(c.U.getD p ac).Uj.length-(m+1)<(c.U.getD p ac).Uj.length-m)⟩⟩⟩⟩⟩⟩
       · omega
       · omega
     · refine tt ⟨ix,tt ⟨(vF N'),tt ⟨ix,tt ⟨ix,tt ⟨⟨⟨rfl,oK⟩,oK⟩,⟨(aZ (by omega) (by first | exact(z5 N').symm | exact(oa N').symm | exact(oa WN).symm)),tt ⟨w6,tt ⟨(m+1),rfl,(?_:(m+1)≤(c.U.getD p ac).Uj.length),(?_:(c.U.getD p ac).Uj.length-(m+1)<(c.U.getD p ac).Uj.length-m)⟩⟩⟩⟩⟩⟩⟩⟩
       · omega
       · omega
   · refine tt ⟨(congrArg _ (?_:(tab (cf c s p) i)=(cX c s p))),(congrArg _ (?_:(tab (cg c s p) m)=(dy c s p))),oK⟩
     · rw[show i=(c.U.getD p ac).I.length by omega];rfl
     · rw[show m=(c.U.getD p ac).Uj.length by omega];rfl
abbrev Q1 (c:Ci) (s:Ns) (p:Nat):Ct:=⟨81,[(.agg (qC c)),(.agg (sZ s)),(i6 (p:Int))],true,(.agg [(dB ((ae c s p).fires)),(LI (((ae c s p).s).Ul)),(dL 1 aa [] (((ae c s p).s).Uk)),(LB ((ae c s p).pops)),(dL 2 db bu ((ae c s p).Uj))])⟩
theorem yQ (c:Ci) (s:Ns) (p:Nat) (hc:cr c) (hs:eG c s) (hp:p<c.U.length):CC (Q1 c s p):=by
 have Xo:=hc.nl
 have hcl:=hc.cl
 have Zt:gm (c.U.getD p ac):=hc.pr p hp
 have YI:=hs.pl
 have Yf:=hs.cl
 have ht1:(c.U.getD p ac).I.length≤100:=Zt.tl
 have ht2:(c.U.getD p ac).Uj.length≤100:=Zt.pl
 refine ah.vc (V:=TT 6 (IX (p:Int) c.U.length∧TT 4 (IX (p:Int) s.U.length∧TT 4 (CC (Te c s p)∧CC (Ta (c.U.getD p ac) (s.U.getD p a7) (cX c s p) (dy c s p))∧TT 2 (((aY (c.U.getD p ac) (s.U.getD p a7) (cX c s p) (dy c s p)).fires)=((ae c s p).fires)∧(((aY (c.U.getD p ac) (s.U.getD p a7) (cX c s p) (dy c s p)).s).Ul).map (ab .i64)=(((ae c s p).s).Ul).map (ab .i64)∧(((aY (c.U.getD p ac) (s.U.getD p a7) (cX c s p) (dy c s p)).s).Uk).map aa=(((ae c s p).s).Uk).map aa∧((aY (c.U.getD p ac) (s.U.getD p a7) (cX c s p) (dy c s p)).pops).map ba=((ae c s p).pops).map ba∧((aY (c.U.getD p ac) (s.U.getD p a7) (cX c s p) (dy c s p)).Uj).map db=((ae c s p).Uj).map db∧True))))) (.w 1 [(13,(Te c s p).O),(14,(Ta (c.U.getD p ac) (s.U.getD p a7) (cX c s p) (dy c s p)).O)]<|.e) Tryz.func81 rfl rfl rfl (by kernel_rfl) ?_
 refine tt ⟨ix,tt ⟨ix,tt ⟨(KJ c s p hc hs hp),⟨(HL (c.U.getD p ac) (s.U.getD p a7) (cX c s p) (dy c s p) Zt (hs.pv p hp) (se hc hs hp) (by rw[dy,aJ])),tt ⟨?_,(congrArg _ (?_:(((aY (c.U.getD p ac) (s.U.getD p a7) (cX c s p) (dy c s p)).s).Ul)=(((ae c s p).s).Ul))),(congrArg _ (?_:(((aY (c.U.getD p ac) (s.U.getD p a7) (cX c s p) (dy c s p)).s).Uk)=(((ae c s p).s).Uk))),(congrArg _ (?_:((aY (c.U.getD p ac) (s.U.getD p a7) (cX c s p) (dy c s p)).pops)=((ae c s p).pops))),(congrArg _ (?_:((aY (c.U.getD p ac) (s.U.getD p a7) (cX c s p) (dy c s p)).Uj)=((ae c s p).Uj))),oK⟩⟩⟩⟩⟩
 all_goals (rfl)
abbrev Tf (c:Ci) (s:Ns) (p:Int):Ct:=⟨63,[(.agg (qC c)),(.agg (sZ s)),(i6 p)],false,(dB (jF c s p))⟩
theorem MU (c:Ci) (s:Ns) (p:Int) (hc:cr c) (hs:eG c s):CC (Tf c s p):=by
 have Xo:=hc.nl
 have hcl:=hc.cl
 refine ah.vc (V:=TT 3 (CS (p≥0) (CS (p<(c.U.length:Int)) (TT 2 ((True∧(decide (p≥0))=true)∧TT 6 ((True∧(decide (p<(c.U.length:Int)))=true)∧TT 2 ((True∧p=(p.toNat:Int))∧CC (Q1 c s p.toNat)∧TT 4 (((ae c s p.toNat).fires)=(jF c s p)∧True))))) (TT 2 ((True∧(decide (p≥0))=true)∧TT 6 ((True∧(decide (p<(c.U.length:Int)))=false)∧TT 8 (false=(jF c s p)∧True))))) (TT 2 ((True∧(decide (p≥0))=false)∧TT 15 (false=(jF c s p)∧True))))) (.s 1 (p≥0) (.s 1 (p<(c.U.length:Int)) (.w 1 [(2,.val (dB true)),(9,.val (dB true)),(12,.val (i6 (p.toNat:Int))),(13,(Q1 c s p.toNat).O)]<|.e) (.w 1 [(2,.val (dB true)),(9,.val (dB false))]<|.e)) (.w 1 [(2,.val (dB false))]<|.e)) Tryz.func63 rfl rfl rfl (by kernel_rfl) ?_
 refine tt ⟨fun N'=>?_,fun N'=>?_⟩
 · refine⟨fun WN=>?_,fun WN=>?_⟩
   · refine tt ⟨(vT N'),tt ⟨(vT WN),tt ⟨⟨oK,(by omega)⟩,⟨(yQ c s p.toNat hc hs (by omega)),tt ⟨?_,oK⟩⟩⟩⟩⟩
     first | exact(wL (by omega)).symm | exact(wM (by omega)).symm | exact(vD (by omega) (by omega)).symm
   · refine tt ⟨(vT N'),tt ⟨(vF WN),tt ⟨?_,oK⟩⟩⟩
     first | exact(wL (by omega)).symm | exact(wM (by omega)).symm | exact(vD (by omega) (by omega)).symm
 · refine tt ⟨(vF N'),tt ⟨?_,oK⟩⟩
   first | exact(wL (by omega)).symm | exact(wM (by omega)).symm | exact(vD (by omega) (by omega)).symm
abbrev MV (a b:Ns):Ct:=⟨11,[(.agg [(dL 2 bi a7 a.U),(dL 1 aa [] a.J)]),(.agg [(dL 2 bi a7 b.U),(dL 1 aa [] b.J)])],false,(dB (cZ a b))⟩
abbrev pL (a:Ns) (b:Ns):Lp (Nat):=gD [2,3,5] 2 (fun (i:Nat)=>⟨[(2,(.ptr 0 0 0 0)),(3,(.ptr 1 0 0 0)),(5,(i6 (i:Int)))],[(.var 36 [(dL 2 bi a7 a.U),(dL 1 aa [] a.J)]),(.var 36 [(dL 2 bi a7 b.U),(dL 1 aa [] b.J)])]⟩) (fun (i:Nat)=>i≤a.U.length∧∀z,z<i→eI (a.U.getD z a7) (b.U.getD z a7)=true) (fun (i:Nat)=>a.U.length-i)
abbrev pM (a:Ns) (b:Ns):Lp (Nat):=gD [2,3,6] 2 (fun (n:Nat)=>⟨[(2,(.ptr 0 0 0 0)),(3,(.ptr 1 0 0 0)),(6,(i6 (n:Int)))],[(.var 36 [(dL 2 bi a7 a.U),(dL 1 aa [] a.J)]),(.var 36 [(dL 2 bi a7 b.U),(dL 1 aa [] b.J)])]⟩) (fun (n:Nat)=>n≤a.J.length∧∀z,z<n→a.J.getD z []=b.J.getD z []) (fun (n:Nat)=>a.J.length-n)
theorem pN (a b:Ns) (hz:Oq a):CC (MV a b):=by
 obtain⟨hap,hac,hcb,hpa,hpb,hpc⟩:=hz
 refine ah.vc (V:=TT 3 (CS ((a.U.length:Int)=(b.U.length:Int)) (TT 7 ((True∧(!decide ((a.U.length:Int)=(b.U.length:Int)))=false)∧TT 8 (CN ((a.J.length:Int)=(b.J.length:Int)) (TT 2 (false=(cZ a b)∧True)) (TT 1 (GO (pL a b) 0 (∀i,(pL a b).inv i→TT 5 (CD ((i:Int)<(a.U.length:Int)) (TT 3 (IX (i:Int) a.U.length∧TT 4 (IX (i:Int) b.U.length∧TT 1 (CC (Tb (a.U.getD i a7) (b.U.getD i a7))∧TT 1 (CB (!(eI (a.U.getD i a7) (b.U.getD i a7))) (TT 2 (false=(cZ a b)∧True)) (TT 1 (W6 ((i+1:Nat):Int)∧TT 1 (AG (pL a b) i (i+1))))))))) (TT 1 (GO (pM a b) 0 (∀n,(pM a b).inv n→TT 5 (CD ((n:Int)<(a.J.length:Int)) (TT 3 (IX (n:Int) a.J.length∧TT 4 (IX (n:Int) b.J.length∧TT 1 (CC (MR (a.J.getD n []) (b.J.getD n []))∧TT 1 (CN ((a.J.getD n [])=(b.J.getD n [])) (TT 2 (false=(cZ a b)∧True)) (TT 1 (W6 ((n+1:Nat):Int)∧TT 1 (AG (pM a b) n (n+1))))))))) (TT 2 (true=(cZ a b)∧True))))))))))))) (TT 7 ((True∧(!decide ((a.U.length:Int)=(b.U.length:Int)))=true)∧TT 10 (false=(cZ a b)∧True))))) (.s 1 ((a.U.length:Int)=(b.U.length:Int)) (.w 1 [(7,.val (dB false))]<|.b 22 (.e) (.l (pL a b) 0 (fun i=>.b 27 (.w 6 [(10,(Tb (a.U.getD i a7) (b.U.getD i a7)).O)]<|.b 41 (.e) (.w 5 [(1,.val (i6 ((i+1:Nat):Int)))]<|.e)) (.l (pM a b) 0 (fun n=>.b 46 (.w 11 [(10,(MR (a.J.getD n []) (b.J.getD n [])).O)]<|.b 60 (.e) (.w 10 [(1,.val (i6 ((n+1:Nat):Int)))]<|.e)) (.e)))))) (.w 1 [(7,.val (dB true))]<|.e)) Tryz.func11 rfl rfl rfl (by kernel_rfl) ?_
 refine tt ⟨fun N'=>?_,fun N'=>?_⟩
 · refine tt ⟨(nF N'),tt (cn (fun YN=>?_) (fun YN=>?_))⟩
   · refine tt ⟨?_,oK⟩
     first | exact(jJ (by omega)).symm | exact(jK (by omega)).symm | exact(jL (i:=i) (by omega) (by simpa using Y8)).symm | exact(jM (n:=n) (by simpa using Y9)).symm | exact(jN (by omega) (by omega) (fun z hz=>h3 z (by omega)) (fun z hz=>h4 z (by omega))).symm
   · refine tt ⟨rfl,⟨by omega,fun z hz=>by omega⟩,?_⟩
     intro i F'
     obtain⟨hi,h3⟩:=F'
     refine tt (cd (fun hc27=>?_) (fun hc27=>?_))
     · refine tt ⟨ix,tt ⟨ix,tt ⟨(HM (a.U.getD i a7) (b.U.getD i a7) (by have:=hpa i;omega) (by have:=hpb i;omega) (fun j=>by have:=hpc i j;omega)),tt ⟨fun Y8=>?_,fun Y8=>?_⟩⟩⟩⟩
       · refine tt ⟨?_,oK⟩
         first | exact(jJ (by omega)).symm | exact(jK (by omega)).symm | exact(jL (i:=i) (by omega) (by simpa using Y8)).symm | exact(jM (n:=n) (by simpa using Y9)).symm | exact(jN (by omega) (by omega) (fun z hz=>h3 z (by omega)) (fun z hz=>h4 z (by omega))).symm
       · refine tt ⟨w6,tt ⟨(i+1),rfl,?_,(?_:a.U.length-(i+1)<a.U.length-i)⟩⟩
         · exact⟨by omega,bD h3 (by simpa using Y8)⟩
         · omega
     · refine tt ⟨rfl,⟨by omega,fun z hz=>by omega⟩,?_⟩
       intro n F'
       obtain⟨hn,h4⟩:=F'
       refine tt (cd (fun Xs=>?_) (fun Xs=>?_))
       · refine tt ⟨ix,tt ⟨ix,tt ⟨(vM (a.J.getD n []) (b.J.getD n []) (by have:=hcb n;omega)),tt (cn (fun Y9=>?_) (fun Y9=>?_))⟩⟩⟩
         · refine tt ⟨?_,oK⟩
           first | exact(jJ (by omega)).symm | exact(jK (by omega)).symm | exact(jL (i:=i) (by omega) (by simpa using Y8)).symm | exact(jM (n:=n) (by simpa using Y9)).symm | exact(jN (by omega) (by omega) (fun z hz=>h3 z (by omega)) (fun z hz=>h4 z (by omega))).symm
         · refine tt ⟨w6,tt ⟨(n+1),rfl,?_,(?_:a.J.length-(n+1)<a.J.length-n)⟩⟩
           · exact⟨by omega,bD h4 (by simpa using Y9)⟩
           · omega
       · refine tt ⟨?_,oK⟩
         first | exact(jJ (by omega)).symm | exact(jK (by omega)).symm | exact(jL (i:=i) (by omega) (by simpa using Y8)).symm | exact(jM (n:=n) (by simpa using Y9)).symm | exact(jN (by omega) (by omega) (fun z hz=>h3 z (by omega)) (fun z hz=>h4 z (by omega))).symm
 · refine tt ⟨(nT N'),tt ⟨?_,oK⟩⟩
   first | exact(jJ (by omega)).symm | exact(jK (by omega)).symm | exact(jL (i:=i) (by omega) (by simpa using Y8)).symm | exact(jM (n:=n) (by simpa using Y9)).symm | exact(jN (by omega) (by omega) (fun z hz=>h3 z (by omega)) (fun z hz=>h4 z (by omega))).symm
abbrev Tg (a b:List Bool):Ct:=⟨10,[(LB a),(LB b)],false,(dB (decide (a=b)))⟩
abbrev s4 (a:List Bool) (b:List Bool):Lp (Nat):=gD [0,1,5] 0 (fun (k:Nat)=>⟨[(0,(LB a)),(1,(LB b)),(5,(i6 (k:Int)))],[]⟩) (fun (k:Nat)=>k≤a.length∧∀z,z<k→a.getD z false=b.getD z false) (fun (k:Nat)=>a.length-k)
theorem KK (a b:List Bool) (ha:a.length≤9223372036854775807):CC (Tg a b):=by
 refine ah.vc (V:=TT 6 (CN ((a.length:Int)=(b.length:Int)) (TT 2 (false=(decide (a=b))∧True)) (TT 1 (GO (s4 a b) 0 (∀k,(s4 a b).inv k→TT 4 (CD ((k:Int)<(a.length:Int)) (TT 2 (IX (k:Int) a.length∧TT 3 (IX (k:Int) b.length∧TT 2 (CB (!((a.getD k false)==(b.getD k false))) (TT 2 (false=(decide (a=b))∧True)) (TT 1 (W6 ((k+1:Nat):Int)∧TT 1 (AG (s4 a b) k (k+1)))))))) (TT 2 (true=(decide (a=b))∧True)))))))) (.b 10 (.e) (.l (s4 a b) 0 (fun k=>.b 14 (.b 25 (.e) (.w 5 [(1,.val (i6 ((k+1:Nat):Int)))]<|.e)) (.e)))) Tryz.func10 rfl rfl rfl (by kernel_rfl) ?_
 refine tt (cn (fun hc10=>?_) (fun hc10=>?_))
 · refine tt ⟨?_,oK⟩
   first | exact(Uy (fun e=>by subst e;omega)).symm | exact(Uy (fun e=>by rw[e]at WD;simp at WD)).symm | exact(Uz (dp (by omega) (by omega) hall)).symm
 · refine tt ⟨rfl,⟨by omega,fun z hz=>by omega⟩,?_⟩
   intro k F'
   obtain⟨hk,hall⟩:=F'
   refine tt (cd (fun Y6=>?_) (fun Y6=>?_))
   · refine tt ⟨ix,tt ⟨ix,tt ⟨fun WD=>?_,fun WD=>?_⟩⟩⟩
     · refine tt ⟨?_,oK⟩
       first | exact(Uy (fun e=>by subst e;omega)).symm | exact(Uy (fun e=>by rw[e]at WD;simp at WD)).symm | exact(Uz (dp (by omega) (by omega) hall)).symm
     · refine tt ⟨w6,tt ⟨(k+1),rfl,?_,(?_:a.length-(k+1)<a.length-k)⟩⟩
       · exact⟨by omega,bD hall (by simpa using WD)⟩
       · omega
   · refine tt ⟨?_,oK⟩
     first | exact(Uy (fun e=>by subst e;omega)).symm | exact(Uy (fun e=>by rw[e]at WD;simp at WD)).symm | exact(Uz (dp (by omega) (by omega) hall)).symm
abbrev yR (s:Ns):List D:=[(dL 2 bi a7 s.U),(dL 1 aa [] s.J)]
abbrev yS (c:Ci):List D:=[(dL 6 bG ac c.U),(dL 5 ca aK c.J)]
abbrev NI (c:Ci) (s:Ns) (p:Nat):aC:=(.var 135 [(dB ((ae c s p).fires)),(LI (((ae c s p).s).Ul)),(dL 1 aa [] (((ae c s p).s).Uk)),(LB ((ae c s p).pops)),(dL 2 db bu ((ae c s p).Uj))])
abbrev Gq:aC:=(.var 155 [(.own 15),(.own 16),(.own 3)])
set_option maxRecDepth 100000
abbrev Th (c:Ci) (s:Ns) (wl:List Bool):Ct:=⟨64,[(.agg (yS c)),(.agg (yR s)),(LB wl)],true,(.agg [(dL 2 bi a7 ((bx c s (wB wl)).U)),(dL 1 aa [] ((bx c s (wB wl)).J)),(LB (tab (aV c s (wB wl)) c.U.length))])⟩
abbrev fZ (c:Ci) (s:Ns) (wl:List Bool):Lp (Nat×List Bool×List Int×List (Option Int)):=TG [2,3,4,6,7,8,9,10] 17 (fun (p:Nat) (fd:List Bool) (gn:List Int) (cm:List (Option Int))=>⟨[(2,(LB wl)),(3,(.ptr 0 0 0 0)),(4,(.ptr 1 0 0 0)),(6,(.ptr 2 0 0 0)),(7,(.ptr 4 0 0 0)),(8,(.own 8)),(9,(.own 12)),(10,(i6 (p:Int)))],[(.var 32 (yS c)),(.var 36 (yR s)),(.var 155 [.nils,.nils,.nils]),(.arr 4 1 ba false fd),Gq,.dead,.dead,.dead,(.arr 3 1 (ab .i64) 0 gn),.dead,.dead,.dead,(.arr 67 1 JX none cm),.dead,.dead,(.arr 69 2 bi a7 (tab (cQ c s (wB wl)) p)),(.arr 67 1 aa [] [])]⟩) (fun (p:Nat) (fd:List Bool) (gn:List Int) (cm:List (Option Int))=>p≤c.U.length∧fd=cG (aV c s (wB wl)) (List.replicate c.U.length false) p∧gn=dX (List.replicate c.J.length 0) (iv c s (wB wl) p)∧cm=dK (List.replicate c.J.length none) (kJ c s (wB wl) p)) (fun (p:Nat) (fd:List Bool) (gn:List Int) (cm:List (Option Int))=>c.U.length-p)
abbrev iG (c:Ci) (s:Ns) (wl:List Bool) (p:Nat) (fd:List Bool) (gn:List Int) (cm:List (Option Int)):Lp (Nat×List Int):=nN [2,3,4,6,7,8,9,10,11,12] 19 (fun (q:Nat) (g2:List Int)=>⟨[(2,(LB wl)),(3,(.ptr 0 0 0 0)),(4,(.ptr 1 0 0 0)),(6,(.ptr 2 0 0 0)),(7,(.ptr 4 0 0 0)),(8,(.own 8)),(9,(.own 12)),(10,(i6 (p:Int))),(11,(.ptr 17 0 0 0)),(12,(i6 (q:Int)))],[(.var 32 (yS c)),(.var 36 (yR s)),(.var 155 [.nils,.nils,.nils]),(.arr 4 1 ba false (fd.set p true)),Gq,.dead,.dead,.dead,(.arr 3 1 (ab .i64) 0 g2),.dead,.dead,.dead,(.arr 67 1 JX none cm),.dead,.dead,(.arr 69 2 bi a7 (tab (cQ c s (wB wl)) (p+1))),(.arr 67 1 aa [] []),(NI c s p),(.arr 69 2 bi a7 [(ae c s p).s])]⟩) (fun (q:Nat) (g2:List Int)=>q≤(ae c s p).pops.length∧g2=dX gn (nU (c.U.getD p ac) (ae c s p) q)) (fun (q:Nat) (g2:List Int)=>(ae c s p).pops.length-q)
abbrev iH (c:Ci) (s:Ns) (wl:List Bool) (p:Nat) (fd:List Bool) (cm:List (Option Int)) (g2:List Int):Lp (Nat×List (Option Int)):=nN [2,3,4,6,7,8,9,10,11,13] 19 (fun (r:Nat) (c2:List (Option Int))=>⟨[(2,(LB wl)),(3,(.ptr 0 0 0 0)),(4,(.ptr 1 0 0 0)),(6,(.ptr 2 0 0 0)),(7,(.ptr 4 0 0 0)),(8,(.own 8)),(9,(.own 12)),(10,(i6 (p:Int))),(11,(.ptr 17 0 0 0)),(13,(i6 (r:Int)))],[(.var 32 (yS c)),(.var 36 (yR s)),(.var 155 [.nils,.nils,.nils]),(.arr 4 1 ba false (fd.set p true)),Gq,.dead,.dead,.dead,(.arr 3 1 (ab .i64) 0 g2),.dead,.dead,.dead,(.arr 67 1 JX none c2),.dead,.dead,(.arr 69 2 bi a7 (tab (cQ c s (wB wl)) (p+1))),(.arr 67 1 aa [] []),(NI c s p),(.arr 69 2 bi a7 [(ae c s p).s])]⟩) (fun (r:Nat) (c2:List (Option Int))=>r≤(ae c s p).Uj.length∧c2=dK cm (nW (c.U.getD p ac) (ae c s p) r)) (fun (r:Nat) (c2:List (Option Int))=>(ae c s p).Uj.length-r)
abbrev kA (c:Ci) (s:Ns) (wl:List Bool) (p:Nat) (fd:List Bool) (gn:List Int) (cm:List (Option Int)):Lp (Nat):=gD [3,4,6,7,8,9,15] 17 (fun (i:Nat)=>⟨[(3,(.ptr 0 0 0 0)),(4,(.ptr 1 0 0 0)),(6,(.ptr 2 0 0 0)),(7,(.ptr 4 0 0 0)),(8,(.own 8)),(9,(.own 12)),(15,(i6 (i:Int)))],[(.var 32 (yS c)),(.var 36 (yR s)),(.var 155 [.nils,.nils,.nils]),(.arr 4 1 ba false fd),Gq,.dead,.dead,.dead,(.arr 3 1 (ab .i64) 0 gn),.dead,.dead,.dead,(.arr 67 1 JX none cm),.dead,.dead,(.arr 69 2 bi a7 (tab (cQ c s (wB wl)) p)),(.arr 67 1 aa [] (tab (gu c s (wB wl)) i))]⟩) (fun (i:Nat)=>i≤c.J.length) (fun (i:Nat)=>c.J.length-i)
theorem Cz (c:Ci) (s:Ns) (wl:List Bool) (hc:cr c) (hs:eG c s) (ZD:sA s 4294967296) (hw:wl.length=c.U.length):CC (Th c s wl):=by
 have Xo:=hc.nl
 have hcl:=hc.cl
 have YI:=hs.pl
 have Yf:=hs.cl
 refine ah.vc (V:=TT 7 ((((0:Int)≤(c.U.length:Int)∧(c.U.length:Int)≤(c.U.length:Int)∧(c.U.length:Int)≤137438953472)∧(List.replicate c.U.length false).length=c.U.length∧∀x∈(List.replicate c.U.length false),dt [(dB false)] (ba x))∧TT 6 ((((0:Int)≤(c.J.length:Int)∧(c.J.length:Int)≤(c.J.length:Int)∧(c.J.length:Int)≤137438953472)∧(List.replicate c.J.length (0:Int)).length=c.J.length∧∀x∈(List.replicate c.J.length (0:Int)),dt [(i6 0)] ((ab .i64) x))∧TT 3 ((((0:Int)≤(c.J.length:Int)∧(c.J.length:Int)≤(c.J.length:Int)∧(c.J.length:Int)≤137438953472)∧(List.replicate c.J.length (none:Option Int)).length=c.J.length∧∀x∈(List.replicate c.J.length (none:Option Int)),dt [.nils] (JX x))∧TT 3 (GO (fZ c s wl) (0,List.replicate c.U.length false,List.replicate c.J.length (0:Int),List.replicate c.J.length (none:Option Int)) (∀p fd gn cm,(fZ c s wl).inv (p,fd,gn,cm)→TT 5 (CD ((p:Int)<(c.U.length:Int)) (TT 3 (CC (Q1 c s p)∧TT 2 (CS ((wl.getD p false)=true) (TT 2 (IX (p:Int) wl.length∧TT 2 ((True∧(!(wl.getD p false))=false)∧TT 4 (CB (!((ae c s p).fires)) (TT 6 (IX (p:Int) s.U.length∧TT 1 (am [[(LI ((s.U.getD p a7).Ul)),(dL 1 aa [] ((s.U.getD p a7).Uk))]] ([s.U.getD p a7].map bi)∧((tab (cQ c s (wB wl)) p).length+([s.U.getD p a7].map bi).length≤137438953472∧(tab (cQ c s (wB wl)) p).map bi++[s.U.getD p a7].map bi=(tab (cQ c s (wB wl)) (p+1)).map bi)∧TT 4 (W6 ((p+1:Nat):Int)∧TT 1 (AG (fZ c s wl) (p,fd,gn,cm) (p+1,fd,gn,cm)))))) (TT 3 (IX (p:Int) fd.length∧(p<fd.length∧(fd.map ba).set p ((ba (fd.getD p false)).take 0++[(.bool true)]++(ba (fd.getD p false)).drop (0+1))=(fd.set p true).map ba)∧TT 5 (am [[(LI (((ae c s p).s).Ul)),(dL 1 aa [] (((ae c s p).s).Uk))]] ([(ae c s p).s].map bi)∧((tab (cQ c s (wB wl)) p).length+([(ae c s p).s].map bi).length≤137438953472∧(tab (cQ c s (wB wl)) p).map bi++[(ae c s p).s].map bi=(tab (cQ c s (wB wl)) (p+1)).map bi)∧TT 4 (GO (iG c s wl p fd gn cm) (0,gn) (∀q g2,(iG c s wl p fd gn cm).inv (q,g2)→TT 5 (CD ((q:Int)<((((ae c s p).pops).length:Nat):Int)) (TT 3 (IX (q:Int) (((ae c s p).pops).length)∧TT 1 (CB ((((ae c s p).pops).getD q false)) (TT 4 (IX (p:Int) c.U.length∧TT 3 (IX (q:Int) (((c.U.getD p ac).I).length)∧TT 2 (IX ((((c.U.getD p ac).I).getD q bC).chan) g2.length∧(((((c.U.getD p ac).I).getD q bC).chan).toNat<g2.length∧(g2.map (ab .i64)).set (((((c.U.getD p ac).I).getD q bC).chan).toNat) (((ab .i64) (g2.getD (((((c.U.getD p ac).I).getD q bC).chan).toNat) 0)).take 0++[(.int .i64 1)]++((ab .i64) (g2.getD (((((c.U.getD p ac).I).getD q bC).chan).toNat) 0)).drop (0+1))=(g2.set (((((c.U.getD p ac).I).getD q bC).chan).toNat) 1).map (ab .i64))∧TT 1 (W6 ((q+1:Nat):Int)∧TT 1 (AG (iG c s wl p fd gn cm) (q,g2) (q+1,g2.set (((((c.U.getD p ac).I).getD q bC).chan).toNat) 1))))))) (TT 1 (W6 ((q+1:Nat):Int)∧TT 1 (AG (iG c s wl p fd gn cm) (q,g2) (q+1,g2))))))) (TT 1 (GO (iH c s wl p fd cm g2) (0,cm) (∀r c2,(iH c s wl p fd cm g2).inv (r,c2)→TT 5 (CD ((r:Int)<((((ae c s p).Uj).length:Nat):Int)) (TT 3 (IX (r:Int) (((ae c s p).Uj).length)∧TT 2 (CB ((((ae c s p).Uj).getD r bu).has) (TT 3 (IX (p:Int) c.U.length∧TT 3 (IX (r:Int) (((c.U.getD p ac).Uj).length)∧TT 7 (IX ((((c.U.getD p ac).Uj).getD r bt).chan) c2.length∧((((((c.U.getD p ac).Uj).getD r bt).chan).toNat<c2.length∧True)∧Ig (Ql (c2.getD (((((c.U.getD p ac).Uj).getD r bt).chan).toNat) none)))∧TT 3 (IX (r:Int) (((ae c s p).Uj).length)∧TT 2 (am [[(i6 ((((ae c s p).Uj).getD r bu).v))]] ([(((ae c s p).Uj).getD r bu).v].map (ab .i64))∧(([(((ae c s p).Uj).getD r bu).v].map (ab .i64)).length≤137438953472∧[(((ae c s p).Uj).getD r bu).v].map (ab .i64)=[(((ae c s p).Uj).getD r bu).v].map (ab .i64))∧IX ((((c.U.getD p ac).Uj).getD r bt).chan) c2.length∧(((((c.U.getD p ac).Uj).getD r bt).chan).toNat<c2.length∧(c2.map JX).set (((((c.U.getD p ac).Uj).getD r bt).chan).toNat) ((JX (c2.getD (((((c.U.getD p ac).Uj).getD r bt).chan).toNat) none)).take 0++[(.sl 1 (ab .i64) 0 [(((ae c s p).Uj).getD r bu).v])]++(JX (c2.getD (((((c.U.getD p ac).Uj).getD r bt).chan).toNat) none)).drop (0+1))=(c2.set (((((c.U.getD p ac).Uj).getD r bt).chan).toNat) (some ((((ae c s p).Uj).getD r bu).v))).map JX)∧TT 1 (W6 ((r+1:Nat):Int)∧TT 1 (AG (iH c s wl p fd cm g2) (r,c2) (r+1,c2.set (((((c.U.getD p ac).Uj).getD r bt).chan).toNat) (some ((((ae c s p).Uj).getD r bu).v))))))))))) (TT 1 (W6 ((r+1:Nat):Int)∧TT 1 (AG (iH c s wl p fd cm g2) (r,c2) (r+1,c2))))))) (TT 1 (W6 ((p+1:Nat):Int)∧TT 1 (AG (fZ c s wl) (p,fd,gn,cm) (p+1,fd.set p true,g2,c2)))))))))))))))))) (TT 2 (IX (p:Int) wl.length∧TT 2 ((True∧(!(wl.getD p false))=true)∧TT 10 (IX (p:Int) s.U.length∧TT 1 (am [[(LI ((s.U.getD p a7).Ul)),(dL 1 aa [] ((s.U.getD p a7).Uk))]] ([s.U.getD p a7].map bi)∧((tab (cQ c s (wB wl)) p).length+([s.U.getD p a7].map bi).length≤137438953472∧(tab (cQ c s (wB wl)) p).map bi++[s.U.getD p a7].map bi=(tab (cQ c s (wB wl)) (p+1)).map bi)∧TT 4 (W6 ((p+1:Nat):Int)∧TT 1 (AG (fZ c s wl) (p,fd,gn,cm) (p+1,fd,gn,cm))))))))))) (TT 1 (GO (kA c s wl p fd gn cm) 0 (∀i,(kA c s wl p fd gn cm).inv i→TT 5 (CD ((i:Int)<(c.J.length:Int)) (TT 3 (am [] (([]:List Int).map (ab .i64))∧TT 3 (IX (i:Int) s.J.length∧TT 3 (IX (i:Int) gn.length∧(i<gn.length∧True)∧(0≤(gn.getD i 0)∧(gn.getD i 0)≤((s.J.getD i []).length:Int)∧((s.J.getD i []).length:Int)≤((s.J.getD i []).length:Int))∧(([]:List Int).length+(((s.J.getD i []).drop ((gn.getD i 0).toNat)).map (ab .i64)).length≤137438953472∧([]:List Int).map (ab .i64)++((s.J.getD i []).drop ((gn.getD i 0).toNat)).map (ab .i64)=((s.J.getD i []).drop ((gn.getD i 0).toNat)).map (ab .i64))∧TT 2 (IX (i:Int) cm.length∧((i<cm.length∧True)∧AU (Ql (cm.getD i none)) (.sl 1 (ab .i64) 0 (xv (cm.getD i none))))∧(((s.J.getD i []).drop ((gn.getD i 0).toNat)).length+((xv (cm.getD i none)).map (ab .i64)).length≤137438953472∧((s.J.getD i []).drop ((gn.getD i 0).toNat)).map (ab .i64)++(xv (cm.getD i none)).map (ab .i64)=(((s.J.getD i []).drop ((gn.getD i 0).toNat))++(xv (cm.getD i none))).map (ab .i64))∧am [[(LI (((s.J.getD i []).drop ((gn.getD i 0).toNat))++(xv (cm.getD i none))))]] ([((s.J.getD i []).drop ((gn.getD i 0).toNat))++(xv (cm.getD i none))].map aa)∧((tab (gu c s (wB wl)) i).length+([((s.J.getD i []).drop ((gn.getD i 0).toNat))++(xv (cm.getD i none))].map aa).length≤137438953472∧(tab (gu c s (wB wl)) i).map aa++[((s.J.getD i []).drop ((gn.getD i 0).toNat))++(xv (cm.getD i none))].map aa=(tab (gu c s (wB wl)) (i+1)).map aa)∧TT 4 (W6 ((i+1:Nat):Int)∧TT 1 (AG (kA c s wl p fd gn cm) i (i+1)))))))) (TT 3 ((tab (cQ c s (wB wl)) p).map bi=((bx c s (wB wl)).U).map bi∧(tab (gu c s (wB wl)) i).map aa=((bx c s (wB wl)).J).map aa∧fd.map ba=(tab (aV c s (wB wl)) c.U.length).map ba∧True))))))))))))) (.w 1 [(4,.box 4 1 ba false (List.replicate c.U.length false))]<|.w 2 [(3,.box 3 1 (ab .i64) 0 (List.replicate c.J.length (0:Int))),(7,.box 67 1 JX none (List.replicate c.J.length (none:Option Int)))]<|.g 3 4 0 69 2 bi a7<|.g 3 4 1 67 1 aa []<|.l (fZ c s wl) (0,List.replicate c.U.length false,List.replicate c.J.length (0:Int),List.replicate c.J.length (none:Option Int)) (fun ⟨p,fd,gn,cm⟩=>.b 34 (.w 6 [(3,(Q1 c s p).O)]<|.s 7 ((wl.getD p false)=true) (.w 7 [(5,.val (dB false))]<|.b 50 (.w 8 [(8,.box 69 2 bi a7 [s.U.getD p a7]),(9,.box 69 2 bi a7 (tab (cQ c s (wB wl)) (p+1)))]<|.w 5 [(1,.val (i6 ((p+1:Nat):Int)))]<|.e) (.w 9 [(4,.box 4 1 ba false (fd.set p true))]<|.w 10 [(5,.box 69 2 bi a7 [(ae c s p).s]),(6,.box 69 2 bi a7 (tab (cQ c s (wB wl)) (p+1)))]<|.l (iG c s wl p fd gn cm) (0,gn) (fun ⟨q,g2⟩=>.b 80 (.b 87 (.w 15 [(12,.box 3 1 (ab .i64) 0 (g2.set (((((c.U.getD p ac).I).getD q bC).chan).toNat) 1))]<|.w 13 [(1,.val (i6 ((q+1:Nat):Int)))]<|.e) (.w 13 [(1,.val (i6 ((q+1:Nat):Int)))]<|.e)) (.l (iH c s wl p fd cm g2) (0,cm) (fun ⟨r,c2⟩=>.b 104 (.b 112 (.w 21 [(5,.val .nils),(12,.box 3 1 (ab .i64) 0 [(((ae c s p).Uj).getD r bu).v]),(13,.app true 3 1 (ab .i64) 0 [(((ae c s p).Uj).getD r bu).v]),(15,.box 67 1 JX none (c2.set (((((c.U.getD p ac).Uj).getD r bt).chan).toNat) (some ((((ae c s p).Uj).getD r bu).v))))]<|.w 18 [(1,.val (i6 ((r+1:Nat):Int)))]<|.e) (.w 18 [(1,.val (i6 ((r+1:Nat):Int)))]<|.e)) (.w 5 [(1,.val (i6 ((p+1:Nat):Int)))]<|.e)))))) (.w 7 [(5,.val (dB true))]<|.w 8 [(8,.box 69 2 bi a7 [s.U.getD p a7]),(9,.box 69 2 bi a7 (tab (cQ c s (wB wl)) (p+1)))]<|.w 5 [(1,.val (i6 ((p+1:Nat):Int)))]<|.e)) (.l (kA c s wl p fd gn cm) 0 (fun i=>.b 142 (.w 25 [(3,.app false 3 1 (ab .i64) 0 ([]:List Int)),(14,.app false 3 1 (ab .i64) 0 ((s.J.getD i []).drop ((gn.getD i 0).toNat))),(18,.val (LI (xv (cm.getD i none)))),(19,.app true 3 1 (ab .i64) 0 (((s.J.getD i []).drop ((gn.getD i 0).toNat))++(xv (cm.getD i none)))),(20,.box 67 1 aa [] [((s.J.getD i []).drop ((gn.getD i 0).toNat))++(xv (cm.getD i none))]),(21,.box 67 1 aa [] (tab (gu c s (wB wl)) (i+1)))]<|.w 24 [(1,.val (i6 ((i+1:Nat):Int)))]<|.e) (.e))))) Tryz.func64 rfl rfl rfl (by kernel_rfl) ?_
 refine tt ⟨⟨by omega,by simp,fun x hx=>by rw[UN hx];exact⟨rfl,oK⟩⟩,tt ⟨⟨by omega,by simp,fun x hx=>by rw[UN hx];exact⟨rfl,oK⟩⟩,tt ⟨⟨by omega,by simp,fun x hx=>by rw[UN hx];exact⟨oK,oK⟩⟩,tt ⟨rfl,⟨by omega,rfl,rfl,rfl⟩,?_⟩⟩⟩⟩
 intro p fd gn cm F'
 obtain⟨hp,hfd,hgn,ZO⟩:=F'
 have hfl0:fd.length=c.U.length:=by rw[hfd,ci (by simp;omega)];simp
 have hgl0:gn.length=c.J.length:=by rw[hgn,uH];simp
 have hml0:cm.length=c.J.length:=by rw[ZO,uI];simp
 refine tt (cd (fun YY=>?_) (fun YY=>?_))
 · refine tt ⟨(yQ c s p hc hs (by omega)),tt ⟨fun N'=>?_,fun N'=>?_⟩⟩
   · refine tt ⟨ix,tt ⟨(mF N'),tt ⟨fun hc50=>?_,fun hc50=>?_⟩⟩⟩
     · have Xu:=Ou (l:=wl) hc50
       refine tt ⟨ix,tt ⟨⟨⟨rfl,rfl,oK⟩,oK⟩,⟨(aZ (by omega) (FK Xu)),tt ⟨w6,tt ⟨(p+1,fd,gn,cm),rfl,?_,(?_:c.U.length-(p+1)<c.U.length-p)⟩⟩⟩⟩⟩
       · exact⟨by omega,by rw[hfd];exact cI (d:=false) (by simp;omega) (by rw[Xu,cK]),by rw[hgn,vC Xu],by rw[ZO,Ac Xu]⟩
       · omega
     · have hyes:=Ow N' hc50
       have Yg:(ae c s p).pops.length=(c.U.getD p ac).I.length:=qk _ _ _ _
       have Zh:(ae c s p).Uj.length=(c.U.getD p ac).Uj.length:=ql _ _ _ _
       have ht1:(c.U.getD p ac).I.length≤100:=(hc.pr p (by omega)).tl
       have ht2:(c.U.getD p ac).Uj.length≤100:=(hc.pr p (by omega)).pl
       refine tt ⟨ix,⟨⟨om,by simp only[US];rfl⟩,tt ⟨⟨⟨rfl,rfl,oK⟩,oK⟩,⟨(aZ (by omega) (JR hyes)),tt ⟨rfl,⟨by omega,rfl⟩,?_⟩⟩⟩⟩⟩
       intro q g2 F'
       obtain⟨hq,hg2⟩:=F'
       have hg2l:g2.length=c.J.length:=by rw[hg2,uH,hgl0]
       refine tt (cd (fun hc80=>?_) (fun hc80=>?_))
       · refine tt ⟨ix,tt ⟨fun X6=>?_,fun X6=>?_⟩⟩
         · have hqt:q<(c.U.getD p ac).I.length:=by omega
           have ZA:0≤((c.U.getD p ac).I.getD q bC).chan∧((c.U.getD p ac).I.getD q bC).chan<c.J.length:=⟨(hc.tk p (by omega) q hqt).1,(hc.tk p (by omega) q hqt).2.1⟩
           refine tt ⟨ix,tt ⟨ix,tt ⟨ix,⟨⟨om,by simp only[US];rfl⟩,tt ⟨w6,tt ⟨(q+1,g2.set (((((c.U.getD p ac).I).getD q bC).chan).toNat) 1),rfl,?_,(?_:(ae c s p).pops.length-(q+1)<(ae c s p).pops.length-q)⟩⟩⟩⟩⟩⟩
           · exact⟨by omega,by rw[FL X6,hg2];exact(zR _ _ _).symm⟩
           · omega
         · refine tt ⟨w6,tt ⟨(q+1,g2),rfl,?_,(?_:(ae c s p).pops.length-(q+1)<(ae c s p).pops.length-q)⟩⟩
           · exact⟨by omega,by rw[JT X6,hg2]⟩
           · omega
       · have hqe:q=(c.U.getD p ac).I.length:=by omega
         refine tt ⟨rfl,⟨by omega,rfl⟩,?_⟩
         intro r c2 F'
         obtain⟨hr,hc2⟩:=F'
         have hc2l:c2.length=c.J.length:=by rw[hc2,uI,hml0]
         refine tt (cd (fun hc104=>?_) (fun hc104=>?_))
         · refine tt ⟨ix,tt ⟨fun hc112=>?_,fun hc112=>?_⟩⟩
           · have hrt:r<(c.U.getD p ac).Uj.length:=by omega
             have hpt:0≤((c.U.getD p ac).Uj.getD r bt).chan∧((c.U.getD p ac).Uj.getD r bt).chan<c.J.length:=⟨(hc.pt p (by omega) r hrt).1,(hc.pt p (by omega) r hrt).2.1⟩
             have hcn:c2.getD ((c.U.getD p ac).Uj.getD r bt).chan.toNat none=none:=by
               rw[hc2,ZO,uO]
               exact Hk hc (by omega) hrt
             refine tt ⟨ix,tt ⟨ix,tt ⟨ix,⟨⟨⟨om,oK⟩,(by rw[hcn];trivial)⟩,tt ⟨ix,tt ⟨⟨⟨rfl,oK⟩,oK⟩,⟨⟨by simp only[UB,Ve,UR,UK,UW,UG];first | omega | (simp;first | done | omega),rfl⟩,⟨ix,⟨⟨om,by simp only[US];rfl⟩,tt ⟨w6,tt ⟨(r+1,c2.set (((((c.U.getD p ac).Uj).getD r bt).chan).toNat) (some ((((ae c s p).Uj).getD r bu).v))),rfl,?_,(?_:(ae c s p).Uj.length-(r+1)<(ae c s p).Uj.length-r)⟩⟩⟩⟩⟩⟩⟩⟩⟩⟩⟩
             · exact⟨by omega,by rw[FM hc112,hc2];exact(zS _ _ _ _).symm⟩
             · omega
           · refine tt ⟨w6,tt ⟨(r+1,c2),rfl,?_,(?_:(ae c s p).Uj.length-(r+1)<(ae c s p).Uj.length-r)⟩⟩
             · exact⟨by omega,by rw[JU hc112,hc2]⟩
             · omega
         · have hre:r=(c.U.getD p ac).Uj.length:=by omega
           refine tt ⟨w6,tt ⟨(p+1,fd.set p true,g2,c2),rfl,?_,(?_:c.U.length-(p+1)<c.U.length-p)⟩⟩
           · exact⟨by omega,by rw[hfd];exact bn (by simp;omega) hyes,by rw[hg2,hqe,hgn,BX,BT hyes],by rw[hc2,hre,ZO,uO,BU hyes]⟩
           · omega
   · have Xu:=Qn (c:=c) (s:=s) N'
     refine tt ⟨ix,tt ⟨(mT N'),tt ⟨ix,tt ⟨⟨⟨rfl,rfl,oK⟩,oK⟩,⟨(aZ (by omega) (FK Xu)),tt ⟨w6,tt ⟨(p+1,fd,gn,cm),rfl,?_,(?_:c.U.length-(p+1)<c.U.length-p)⟩⟩⟩⟩⟩⟩⟩
     · exact⟨by omega,by rw[hfd];exact cI (d:=false) (by simp;omega) (by rw[Xu,cK]),by rw[hgn,vC Xu],by rw[ZO,Ac Xu]⟩
     · omega
 · have hpe:p=c.U.length:=by omega
   refine tt ⟨rfl,(by omega),?_⟩
   intro i F'
   have hi:=F'
   refine tt (cd (fun hc142=>?_) (fun hc142=>?_))
   · have hci:(s.J.getD i []).drop (gn.getD i 0).toNat++xv (cm.getD i none)=gu c s (wB wl) i:=by rw[hgn,ZO,hpe];exact Ma hc (by omega)
     have hge:gn.getD i 0=(gF c s (wB wl) i:Nat):=by rw[hgn,hpe];exact FN hc (by omega)
     have hgl:gF c s (wB wl) i≤(s.J.getD i []).length:=L9 i
     have hlw:(s.J.getD i []).length≤4294967296:=ZD i
     have hol:=Ot (cm.getD i none)
     refine tt ⟨oK,tt ⟨ix,tt ⟨ix,⟨⟨om,oK⟩,⟨om,⟨⟨by simp only[UB,Ve,UR,UK,UW,UG];first | omega | (simp;first | done | omega),by simp only[Vc,VL,Vq,V6]⟩,tt ⟨ix,⟨⟨⟨om,oK⟩,(Qm _)⟩,⟨⟨by simp only[UB,Ve,UR,UK,UW,UG];first | omega | (simp;first | done | omega),by simp only[Vc,VL,Vq,V6]⟩,⟨⟨⟨rfl,oK⟩,oK⟩,⟨(aZ (by omega) hci),tt ⟨w6,tt ⟨(i+1),rfl,(?_:(i+1)≤c.J.length),(?_:c.J.length-(i+1)<c.J.length-i)⟩⟩⟩⟩⟩⟩⟩⟩⟩⟩⟩⟩⟩
     · omega
     · omega
   · refine tt ⟨(congrArg _ (?_:(tab (cQ c s (wB wl)) p)=((bx c s (wB wl)).U))),(congrArg _ (?_:(tab (gu c s (wB wl)) i)=((bx c s (wB wl)).J))),(congrArg _ (?_:fd=(tab (aV c s (wB wl)) c.U.length))),oK⟩
     · rw[hpe];rfl
     · rw[show i=c.J.length by omega];rfl
     · rw[hfd,hpe,bN (by simp)]
abbrev Ti (c:Ci) (s:Ns) (k:Int):Ct:=⟨38,[(.agg (yS c)),(.agg (yR s)),(i6 k)],true,(.agg [(dL 2 bi a7 ((bx c s (xu k)).U)),(dL 1 aa [] ((bx c s (xu k)).J)),(dB (jF c s k))])⟩
theorem KL (c:Ci) (s:Ns) (k:Int) (hc:cr c) (hs:eG c s) (ZD:sA s 4294967296):CC (Ti c s k):=by
 have Xo:=hc.nl
 have hcl:=hc.cl
 refine ah.vc (V:=TT 6 (CC (Tf c s k)∧TT 1 (CB (!(jF c s k)) (TT 4 (s.U.map bi=((bx c s (xu k)).U).map bi∧s.J.map aa=((bx c s (xu k)).J).map aa∧false=(jF c s k)∧True)) (TT 3 ((((0:Int)≤(c.U.length:Int)∧(c.U.length:Int)≤(c.U.length:Int)∧(c.U.length:Int)≤137438953472)∧(List.replicate c.U.length false).length=c.U.length∧∀x∈(List.replicate c.U.length false),dt [(dB false)] (ba x))∧TT 3 (IX k ((List.replicate c.U.length false).length)∧(k.toNat<(List.replicate c.U.length false).length∧((List.replicate c.U.length false).map ba).set k.toNat ((ba ((List.replicate c.U.length false).getD k.toNat false)).take 0++[(.bool true)]++(ba ((List.replicate c.U.length false).getD k.toNat false)).drop (0+1))=((List.replicate c.U.length false).set k.toNat true).map ba)∧TT 3 (CC (Th c s ((List.replicate c.U.length false).set k.toNat true))∧TT 4 (((bx c s (wB ((List.replicate c.U.length false).set k.toNat true))).U).map bi=((bx c s (xu k)).U).map bi∧((bx c s (wB ((List.replicate c.U.length false).set k.toNat true))).J).map aa=((bx c s (xu k)).J).map aa∧true=(jF c s k)∧True)))))))) (.w 1 [(3,(Tf c s k).O)]<|.b 12 (.e) (.w 3 [(3,.box 4 1 ba false (List.replicate c.U.length false))]<|.w 4 [(3,.box 4 1 ba false ((List.replicate c.U.length false).set k.toNat true))]<|.f 5 3<|.w 5 [(3,(Th c s ((List.replicate c.U.length false).set k.toNat true)).O)]<|.e)) Tryz.func38 rfl rfl rfl (by kernel_rfl) ?_
 refine tt ⟨(MU c s k hc hs),tt ⟨fun XF=>?_,fun XF=>?_⟩⟩
 · refine tt ⟨(congrArg _ (?_:s.U=((bx c s (xu k)).U))),(congrArg _ (?_:s.J=((bx c s (xu k)).J))),?_,oK⟩
   all_goals (first | rw[FO hs (by simpa using XF)] | (rw[JY (show k.toNat<c.U.length by omega),show((k.toNat:Nat):Int)=k by omega]) | (simpa using XF) | (exact(by simpa using XF:jF c s k=true).symm) | (exact(by simpa using XF:jF c s k=false).symm))
 · obtain⟨Zd,Ys⟩:=Mb (show jF c s k=true by simpa using XF)
   refine tt ⟨⟨by omega,by simp,fun x hx=>by rw[UN hx];exact⟨rfl,oK⟩⟩,tt ⟨ix,⟨⟨om,by simp only[US];rfl⟩,?_⟩⟩⟩
   have hwe:(List.replicate c.U.length false).set k.toNat true=(List.replicate c.U.length false).set k.toNat true:=rfl
   refine tt ⟨(Cz c s ((List.replicate c.U.length false).set k.toNat true) hc hs ZD (by simp)),tt ⟨(congrArg _ (?_:((bx c s (wB ((List.replicate c.U.length false).set k.toNat true))).U)=((bx c s (xu k)).U))),(congrArg _ (?_:((bx c s (wB ((List.replicate c.U.length false).set k.toNat true))).J)=((bx c s (xu k)).J))),?_,oK⟩⟩
   all_goals (first | rw[FO hs (by simpa using XF)] | (rw[JY (show k.toNat<c.U.length by omega),show((k.toNat:Nat):Int)=k by omega]) | (simpa using XF) | (exact(by simpa using XF:jF c s k=true).symm) | (exact(by simpa using XF:jF c s k=false).symm))
abbrev s5 (s:Sg):List D:=[(LI s.Ul),(LI s.I),(dL 27 b8 ay s.Uk),(dB s.data)]
abbrev KM:aC:=(.var 147 [(i6 0),(dS e0),(i6 0),(dS e0),(i6 0),(dS e0),.nils,.nils,(i6 0)])
set_option maxRecDepth 100000
abbrev HO (b:List Int) (i:Nat):Ct:=⟨40,[(.agg [(LY b),(i6 (i:Int))])],false,(i6 (b.getD i 0))⟩
theorem pO (b:List Int) (i:Nat) (hb:ic b):CC (HO b i):=by
 have hy:=cO hb i
 refine ah.vc (V:=TT 8 (CD ((i:Int)<(b.length:Int)) (TT 4 (IX (i:Int) b.length∧TT 1 (W6 (b.getD i 0)∧TT 2 ((b.getD i 0)=(b.getD i 0)∧True)))) (TT 2 ((0:Int)=(b.getD i 0)∧True)))) (.b 8 (.w 2 [(6,.val (i6 (b.getD i 0)))]<|.e) (.e)) Tryz.func40 rfl rfl rfl (by kernel_rfl) ?_
 refine tt (cd (fun hc8=>?_) (fun hc8=>?_))
 · exact tt ⟨ix,tt ⟨w6,tt ⟨rfl,oK⟩⟩⟩
 · refine tt ⟨?_,oK⟩
   first | rfl | (simp[List.getD,U1 (show b.length≤i by omega)])
abbrev Ek (b:List Int) (i n:Nat):Ct:=⟨41,[(.agg [(LY b),(i6 (i:Int))]),(i6 (n:Int))],true,(.agg [(LY b),(i6 ((i+n:Nat):Int))])⟩
theorem w9 (b:List Int) (i n:Nat) (h:i+n≤9223372036854775807):CC (Ek b i n):=by
 refine ah.vc (V:=TT 5 (W6 ((i+n:Nat):Int)∧TT 5 (b.map (ab .u8)=b.map (ab .u8)∧((i+n:Nat):Int)=((i+n:Nat):Int)∧True))) (.w 1 [(3,.val (i6 ((i+n:Nat):Int)))]<|.e) Tryz.func41 rfl rfl rfl (by kernel_rfl) ?_
 exact tt ⟨w6,tt ⟨rfl,rfl,oK⟩⟩
abbrev Q2 (v w:Int) (n:Nat):Ct:=⟨91,[(i6 v),(i6 w)],true,(.agg [(i6 ((fk v w).op)),(dS ((fk v w).name)),(i6 (((fk v w).k).n)),(dS (((fk v w).k).p)),(i6 (((fk v w).w).n)),(dS (((fk v w).w).p)),(dL 7 (eA n) dE ((fk v w).args))])⟩
theorem Gr (v w:Int) (n:Nat) (h1:0≤w) (h2:w≤62):CC (Q2 v w n):=by
 refine ah.vc (V:=TT 3 ((True∧IntKind.u64.wrap w=w)∧SH w∧W6 ((2^w.toNat)-1)∧(True∧(IntKind.wrap .i64 (BitVec.ofInt (IntKind.i64).bits v &&& BitVec.ofInt (IntKind.i64).bits ((2^w.toNat)-1)).toNat)=(v%2^w.toNat))∧TT 6 ((1:Int)=((fk v w).op)∧e0=((fk v w).name)∧(v%2^w.toNat)=(((fk v w).k).n)∧e0=(((fk v w).k).p)∧w=(((fk v w).w).n)∧e0=(((fk v w).w).p)∧((fk v w).args)=[]∧True))) (.w 1 [(2,.val (dI .u64 w)),(3,.val (i6 (2^w.toNat))),(4,.val (i6 ((2^w.toNat)-1))),(5,.val (i6 (v%2^w.toNat)))]<|.e) Tryz.func91 rfl rfl rfl (by kernel_rfl) ?_
 refine tt ⟨⟨oK,G3 rfl om om⟩,⟨sh,⟨(w6 (by have:=nP (n:=w.toNat) (by omega);omega) (by have:=nP (n:=w.toNat) (by omega);omega)),⟨⟨oK,(ir (by omega))⟩,tt ⟨?_,?_,?_,?_,?_,?_,?_,oK⟩⟩⟩⟩⟩
 all_goals (first | rfl | omega | (simp;first | done | omega))
abbrev Tj (s:Sg) (w:Int):Ct:=⟨90,[(.agg (s5 s)),(i6 w)],true,(dL 7 (eA 1) dE (dz s w))⟩
abbrev lD (s:Sg) (w:Int):Lp (Nat×List Ex):=nN [1,2,5,6] 2 (fun (k:Nat) (WU:List Ex)=>⟨[(1,(i6 w)),(2,(.ptr 0 0 0 0)),(5,(.own 1)),(6,(i6 (k:Int)))],[(.var 145 (s5 s)),(.arr 58 7 (eA 1) dE WU)]⟩) (fun (k:Nat) (WU:List Ex)=>k≤s.Ul.length∧WU=fI G9 w s.Ul k∧WU.length≤k) (fun (k:Nat) (WU:List Ex)=>s.Ul.length-k)
abbrev lF (s:Sg) (w:Int):Lp (Nat×List Ex):=nN [1,2,5,7] 2 (fun (j:Nat) (WU:List Ex)=>⟨[(1,(i6 w)),(2,(.ptr 0 0 0 0)),(5,(.own 1)),(7,(i6 (j:Int)))],[(.var 145 (s5 s)),(.arr 58 7 (eA 1) dE WU)]⟩) (fun (j:Nat) (WU:List Ex)=>j≤s.I.length∧(s.data=false→j=0)∧WU=fI G9 w s.Ul s.Ul.length++fI I5 w s.I j∧WU.length≤s.Ul.length+j) (fun (j:Nat) (WU:List Ex)=>s.I.length-j)
theorem HP (s:Sg) (w:Int) (hr:s.Ul.length≤100) (ht:s.I.length≤100):CC (Tj s w):=by
 refine ah.vc (V:=TT 2 (am [] ([].map (eA 1))∧TT 2 (GO (lD s w) (0,[]) (∀k WU,(lD s w).inv (k,WU)→TT 5 (CD ((k:Int)<(s.Ul.length:Int)) (TT 3 (IX (k:Int) s.Ul.length∧TT 3 (CD ((s.Ul.getD k 0)=w) (TT 4 (am [[(i6 16),(dS e0),(i6 (k:Int)),(dS e0),(i6 0),(dS e0),.nils]] ([(⟨16,e0,⟨(k:Int),e0⟩,⟨0,e0⟩,[]⟩:Ex)].map (eA 1))∧(WU.length+([(⟨16,e0,⟨(k:Int),e0⟩,⟨0,e0⟩,[]⟩:Ex)].map (eA 1)).length≤137438953472∧WU.map (eA 1)++[(⟨16,e0,⟨(k:Int),e0⟩,⟨0,e0⟩,[]⟩:Ex)].map (eA 1)=(WU++[(⟨16,e0,⟨(k:Int),e0⟩,⟨0,e0⟩,[]⟩:Ex)]).map (eA 1))∧TT 2 (W6 ((k+1:Nat):Int)∧TT 1 (AG (lD s w) (k,WU) (k+1,WU++[(⟨16,e0,⟨(k:Int),e0⟩,⟨0,e0⟩,[]⟩:Ex)]))))) (TT 1 (W6 ((k+1:Nat):Int)∧TT 1 (AG (lD s w) (k,WU) (k+1,WU))))))) (TT 1 (GO (lF s w) (0,WU) (∀j WU,(lF s w).inv (j,WU)→CS ((j:Int)<(s.I.length:Int)) (TT 5 ((True∧(decide ((j:Int)<(s.I.length:Int)))=true)∧TT 3 (CB (s.data) (TT 3 (IX (j:Int) s.I.length∧TT 3 (CD ((s.I.getD j 0)=w) (TT 4 (am [[(i6 18),(dS e0),(i6 (j:Int)),(dS e0),(i6 0),(dS e0),.nils]] ([(⟨18,e0,⟨(j:Int),e0⟩,⟨0,e0⟩,[]⟩:Ex)].map (eA 1))∧(WU.length+([(⟨18,e0,⟨(j:Int),e0⟩,⟨0,e0⟩,[]⟩:Ex)].map (eA 1)).length≤137438953472∧WU.map (eA 1)++[(⟨18,e0,⟨(j:Int),e0⟩,⟨0,e0⟩,[]⟩:Ex)].map (eA 1)=(WU++[(⟨18,e0,⟨(j:Int),e0⟩,⟨0,e0⟩,[]⟩:Ex)]).map (eA 1))∧TT 2 (W6 ((j+1:Nat):Int)∧TT 1 (AG (lF s w) (j,WU) (j+1,WU++[(⟨18,e0,⟨(j:Int),e0⟩,⟨0,e0⟩,[]⟩:Ex)]))))) (TT 1 (W6 ((j+1:Nat):Int)∧TT 1 (AG (lF s w) (j,WU) (j+1,WU))))))) (TT 3 (WU.map (eA 1)=(dz s w).map (eA 1)))))) (TT 5 ((True∧(decide ((j:Int)<(s.I.length:Int)))=false)∧TT 6 (WU.map (eA 1)=(dz s w).map (eA 1)))))))))))) (.w 1 [(0,.box 58 7 (eA 1) dE [])]<|.l (lD s w) (0,[]) (fun ⟨k,WU⟩=>.b 13 (.b 22 (.w 6 [(4,.box 58 7 (eA 1) dE [(⟨16,e0,⟨(k:Int),e0⟩,⟨0,e0⟩,[]⟩:Ex)]),(5,.box 58 7 (eA 1) dE (WU++[(⟨16,e0,⟨(k:Int),e0⟩,⟨0,e0⟩,[]⟩:Ex)]))]<|.w 4 [(1,.val (i6 ((k+1:Nat):Int)))]<|.e) (.w 4 [(1,.val (i6 ((k+1:Nat):Int)))]<|.e)) (.l (lF s w) (0,WU) (fun ⟨j,WU⟩=>.s 8 ((j:Int)<(s.I.length:Int)) (.w 8 [(5,.val (dB true))]<|.b 37 (.b 46 (.w 11 [(4,.box 58 7 (eA 1) dE [(⟨18,e0,⟨(j:Int),e0⟩,⟨0,e0⟩,[]⟩:Ex)]),(5,.box 58 7 (eA 1) dE (WU++[(⟨18,e0,⟨(j:Int),e0⟩,⟨0,e0⟩,[]⟩:Ex)]))]<|.w 9 [(1,.val (i6 ((j+1:Nat):Int)))]<|.e) (.w 9 [(1,.val (i6 ((j+1:Nat):Int)))]<|.e)) (.e)) (.w 8 [(5,.val (dB false))]<|.e))))) Tryz.func90 rfl rfl rfl (by kernel_rfl) ?_
 refine tt ⟨oK,tt ⟨rfl,⟨by omega,rfl,by simp⟩,?_⟩⟩
 intro k WU F'
 obtain⟨hk,Yw,Xm⟩:=F'
 refine tt (cd (fun hc13=>?_) (fun hc13=>?_))
 · refine tt ⟨ix,tt (cd (fun YN=>?_) (fun YN=>?_))⟩
   · refine tt ⟨⟨⟨rfl,rfl,rfl,rfl,rfl,rfl,rfl,oK⟩,oK⟩,⟨⟨by simp only[UB,Ve,UR];first | omega | (simp;first | done | omega),by simp only[Vc,VL,Vq]⟩,tt ⟨w6,tt ⟨(k+1,WU++[(⟨16,e0,⟨(k:Int),e0⟩,⟨0,e0⟩,[]⟩:Ex)]),rfl,?_,(?_:s.Ul.length-(k+1)<s.Ul.length-k)⟩⟩⟩⟩
     · refine⟨by omega,?_,om⟩
       rw[Yw]
       first | exact oX YN | exact sa YN
     · omega
   · refine tt ⟨w6,tt ⟨(k+1,WU),rfl,?_,(?_:s.Ul.length-(k+1)<s.Ul.length-k)⟩⟩
     · refine⟨by omega,?_,om⟩
       rw[Yw]
       first | exact oX YN | exact sa YN
     · omega
 · refine tt ?_
   have X5:k=s.Ul.length:=by omega
   refine⟨rfl,⟨by omega,fun _=>rfl,by rw[Yw,X5];simp[fI],by omega⟩,?_⟩
   intro j WU F'
   obtain⟨hj,hd0,hacc2,hal2⟩:=F'
   refine⟨fun N'=>?_,fun N'=>?_⟩
   · refine tt ⟨(vT N'),tt ⟨fun YP=>?_,fun YP=>?_⟩⟩
     · refine tt ⟨ix,tt (cd (fun Xs=>?_) (fun Xs=>?_))⟩
       · refine tt ⟨⟨⟨rfl,rfl,rfl,rfl,rfl,rfl,rfl,oK⟩,oK⟩,⟨⟨by simp only[UB,Ve,UR];first | omega | (simp;first | done | omega),by simp only[Vc,VL,Vq]⟩,tt ⟨w6,tt ⟨(j+1,WU++[(⟨18,e0,⟨(j:Int),e0⟩,⟨0,e0⟩,[]⟩:Ex)]),rfl,?_,(?_:s.I.length-(j+1)<s.I.length-j)⟩⟩⟩⟩
         · refine⟨by omega,fun h=>by simp_all,?_,om⟩
           rw[hacc2]
           first | (rw[Vf];exact congrArg _ (oX Xs)) | exact congrArg _ (sa Xs)
         · omega
       · refine tt ⟨w6,tt ⟨(j+1,WU),rfl,?_,(?_:s.I.length-(j+1)<s.I.length-j)⟩⟩
         · refine⟨by omega,fun h=>by simp_all,?_,om⟩
           rw[hacc2]
           first | (rw[Vf];exact congrArg _ (oX Xs)) | exact congrArg _ (sa Xs)
         · omega
     · refine tt (congrArg _ (?_:WU=(dz s w)))
       exact Fh hacc2 hd0 (fun h=>by first | omega | (rw[h]at YP;cases YP))
   · refine tt ⟨(vF N'),tt (congrArg _ (?_:WU=(dz s w)))⟩
     exact Fh hacc2 hd0 (fun h=>by first | omega | (rw[h]at YP;cases YP))
abbrev Q3 (s:Sg) (w b:Int) (n:Nat):Ct:=⟨79,[(.agg (s5 s)),(i6 w),(i6 b)],true,(.agg [(i6 ((bq s w b).op)),(dS ((bq s w b).name)),(i6 (((bq s w b).k).n)),(dS (((bq s w b).k).p)),(i6 (((bq s w b).w).n)),(dS (((bq s w b).w).p)),(dL 7 (eA n) dE ((bq s w b).args))])⟩
theorem Gs (s:Sg) (w b:Int) (n:Nat) (h1:0≤w) (h2:w≤62) (hb:0≤b) (X7:b≤255) (hr:s.Ul.length≤100) (ht:s.I.length≤100):CC (Q3 s w b n):=by
 have WA:=LN s w
 refine ah.vc (V:=TT 4 (CC (Tj s w)∧TT 1 (CS ((((dz s w).length:Nat):Int)=0) (TT 3 ((True∧(decide ((((dz s w).length:Nat):Int)=0))=true)∧TT 5 (QD b 4∧TT 1 (CC (Q2 (b / 4) w n)∧TT 2 (((fk (b / 4) w).op)=((bq s w b).op)∧((fk (b / 4) w).name)=((bq s w b).name)∧(((fk (b / 4) w).k).n)=(((bq s w b).k).n)∧(((fk (b / 4) w).k).p)=(((bq s w b).k).p)∧(((fk (b / 4) w).w).n)=(((bq s w b).w).n)∧(((fk (b / 4) w).w).p)=(((bq s w b).w).p)∧((fk (b / 4) w).args).map (eA n)=((bq s w b).args).map (eA n)∧True))))) (TT 3 ((True∧(decide ((((dz s w).length:Nat):Int)=0))=false)∧TT 1 (QM b 4∧TT 2 (CD ((b%4)=0) (TT 1 (QD b 4∧TT 1 (CC (Q2 (b / 4) w n)∧TT 2 (((fk (b / 4) w).op)=((bq s w b).op)∧((fk (b / 4) w).name)=((bq s w b).name)∧(((fk (b / 4) w).k).n)=(((bq s w b).k).n)∧(((fk (b / 4) w).k).p)=(((bq s w b).k).p)∧(((fk (b / 4) w).w).n)=(((bq s w b).w).n)∧(((fk (b / 4) w).w).p)=(((bq s w b).w).p)∧((fk (b / 4) w).args).map (eA n)=((bq s w b).args).map (eA n)∧True)))) (TT 2 (QD b 4∧TT 2 (((((dz s w).length:Nat):Int)≠0∧(Int.tmod (b / 4) (((dz s w).length:Nat):Int))=(b / 4%((dz s w).length:Int)))∧IX (b / 4%((dz s w).length:Int)) ((dz s w).length)∧TT 3 ((((dz s w).getD ((b / 4%((dz s w).length:Int)).toNat) dE).op)=((bq s w b).op)∧(((dz s w).getD ((b / 4%((dz s w).length:Int)).toNat) dE).name)=((bq s w b).name)∧((((dz s w).getD ((b / 4%((dz s w).length:Int)).toNat) dE).k).n)=(((bq s w b).k).n)∧((((dz s w).getD ((b / 4%((dz s w).length:Int)).toNat) dE).k).p)=(((bq s w b).k).p)∧((((dz s w).getD ((b / 4%((dz s w).length:Int)).toNat) dE).w).n)=(((bq s w b).w).n)∧((((dz s w).getD ((b / 4%((dz s w).length:Int)).toNat) dE).w).p)=(((bq s w b).w).p)∧(((dz s w).getD ((b / 4%((dz s w).length:Int)).toNat) dE).args).map (eA 0)=((bq s w b).args).map (eA n)∧True))))))))))) (.w 1 [(2,(Tj s w).O)]<|.s 2 ((((dz s w).length:Nat):Int)=0) (.w 2 [(3,.val (dB true))]<|.w 3 [(1,.val (i6 (b / 4))),(3,(Q2 (b / 4) w n).O)]<|.e) (.w 2 [(3,.val (dB false)),(5,.val (i6 (b%4)))]<|.b 18 (.w 3 [(1,.val (i6 (b / 4))),(3,(Q2 (b / 4) w n).O)]<|.e) (.w 4 [(2,.val (i6 (b / 4))),(5,.val (i6 (b / 4%((dz s w).length:Int))))]<|.e))) Tryz.func79 rfl rfl rfl (by kernel_rfl) ?_
 refine tt ⟨(HP s w hr ht),tt ⟨fun N'=>?_,fun N'=>?_⟩⟩
 · refine tt ⟨(vT N'),tt ⟨qd,tt ⟨(Gr (b / 4) w n om om),tt ⟨?_,?_,?_,?_,?_,?_,(congrArg _ (?_:((fk (b / 4) w).args)=((bq s w b).args))),oK⟩⟩⟩⟩
   all_goals (rw[I8 (.inl (by omega))])
 · refine tt ⟨(vF N'),tt ⟨qm,tt (cd (fun Zp=>?_) (fun Zp=>?_))⟩⟩
   · refine tt ⟨qd,tt ⟨(Gr (b / 4) w n om om),tt ⟨?_,?_,?_,?_,?_,?_,(congrArg _ (?_:((fk (b / 4) w).args)=((bq s w b).args))),oK⟩⟩⟩
     all_goals (rw[I8 (.inr Zp)])
   · refine tt ⟨qd,tt ⟨⟨om,(Vo (by omega))⟩,⟨(by exact TZ N'),tt ⟨?_,?_,?_,?_,?_,?_,?_,oK⟩⟩⟩⟩
     all_goals (first | (rw[yk,← I9 N' Zp,yk];rfl) | rw[I9 N' Zp])
abbrev vN (b:List Int) (i:Nat) (s:Sg) (w:Int) (d n:Nat):Ct:=⟨62,[(.agg [(LY b),(i6 (i:Int))]),(.agg (s5 s)),(.agg [(i6 w),(i6 (d:Int))])],true,(.agg [(i6 (((av s b d i w).1).op)),(dS (((av s b d i w).1).name)),(i6 ((((av s b d i w).1).k).n)),(dS ((((av s b d i w).1).k).p)),(i6 ((((av s b d i w).1).w).n)),(dS ((((av s b d i w).1).w).p)),(dL 7 (eA n) dE (((av s b d i w).1).args)),(LY b),(i6 (((av s b d i w).2:Nat):Int))])⟩
abbrev Q4 (b:List Int) (i:Nat) (s:Sg) (w z:Int) (d n:Nat):Ct:=⟨80,[(.agg [(LY b),(i6 (i:Int))]),(.agg (s5 s)),(.agg [(i6 w),(i6 ((d+2:Nat):Int)),(i6 z)])],true,(.agg [(i6 (((bQ s (av s b (d+1)) w z i).1).op)),(dS (((bQ s (av s b (d+1)) w z i).1).name)),(i6 ((((bQ s (av s b (d+1)) w z i).1).k).n)),(dS ((((bQ s (av s b (d+1)) w z i).1).k).p)),(i6 ((((bQ s (av s b (d+1)) w z i).1).w).n)),(dS ((((bQ s (av s b (d+1)) w z i).1).w).p)),(dL 7 (eA (n+1)) dE (((bQ s (av s b (d+1)) w z i).1).args)),(LY b),(i6 (((bQ s (av s b (d+1)) w z i).2:Nat):Int))])⟩
abbrev xa (b:List Int) (i:Nat) (s:Sg) (w:Int) (z:Int) (d:Nat):Lp (Nat):=gD [3,4,6,7,8,9,10] 13 (fun (k:Nat)=>⟨[(3,(.ptr 0 0 0 0)),(4,(.ptr 1 0 0 0)),(6,(.ptr 3 0 0 0)),(7,(i6 w)),(8,(i6 ((d+2:Nat):Int))),(9,(i6 z)),(10,(i6 (k:Int)))],[(.var 103 [(LY b),(i6 (i:Int))]),(.var 145 (s5 s)),(.var 119 [(i6 w),(i6 ((d+2:Nat):Int)),(i6 z)]),KM,.dead,.dead,.dead,.dead,.dead,.dead,.dead,.dead,.dead]⟩) (fun (k:Nat)=>k≤s.Uk.length∧(z%3=0→p7 s.Uk w s.Uk.length 0=p7 s.Uk w (s.Uk.length-k) k)) (fun (k:Nat)=>s.Uk.length-k)
theorem KN (b:List Int) (i:Nat) (s:Sg) (w z:Int) (d n:Nat) (hb:ic b) (h1:1≤w) (h2:w+(d+2:Nat)≤8) (h3:d+2≤3) (hi:i+4^(d+1)≤9223372036854775807) (hm:s.Uk.length≤100) (hr:s.Ul.length≤100) (ht:s.I.length≤100) (hz:0≤z) (hz2:z≤18) (ih:∀(i:Nat) (w:Int),1≤w→w+(d+1:Nat)≤8→i+4^(d+1)≤9223372036854775807→CC (vN b i s w (d+1) n)):CC (Q4 b i s w z d n):=by
 refine ah.vc (V:=TT 4 (((0≤(0:Int)∧0<(3:Int))∧True)∧TT 1 (((0≤(1:Int)∧1<(3:Int))∧True)∧TT 1 (((0≤(2:Int)∧2<(3:Int))∧True)∧TT 5 (GO (xa b i s w z d) 0 (∀k,(xa b i s w z d).inv k→TT 5 (CD ((k:Int)<(s.Uk.length:Int)) (CS (((s.Uk.getD k ay).w)=w) (TT 3 (IX (k:Int) s.Uk.length∧TT 4 ((True∧(decide (((s.Uk.getD k ay).w)=w))=true)∧TT 1 (QM z 3∧TT 2 (CD ((z%3)=0) (TT 3 (QD z 3∧QM (z / 3) 3∧W6 (1+((z / 3)%3))∧TT 1 ((True∧(IntKind.wrap .i64 (((d+2:Nat):Int)-1))=((d+1:Nat):Int))∧TT 1 (CC (vN b i s (1+((z / 3)%3)) (d+1) n)∧TT 6 (am [[(i6 (((av s b (d+1) i (1+((z / 3)%3))).1).op)),(dS (((av s b (d+1) i (1+((z / 3)%3))).1).name)),(i6 ((((av s b (d+1) i (1+((z / 3)%3))).1).k).n)),(dS ((((av s b (d+1) i (1+((z / 3)%3))).1).k).p)),(i6 ((((av s b (d+1) i (1+((z / 3)%3))).1).w).n)),(dS ((((av s b (d+1) i (1+((z / 3)%3))).1).w).p)),(dL 7 (eA n) dE (((av s b (d+1) i (1+((z / 3)%3))).1).args))]] ([(av s b (d+1) i (1+((z / 3)%3))).1].map (eA (n+1)))∧TT 6 ((17:Int)=(((bQ s (av s b (d+1)) w z i).1).op)∧e0=(((bQ s (av s b (d+1)) w z i).1).name)∧(k:Int)=((((bQ s (av s b (d+1)) w z i).1).k).n)∧e0=((((bQ s (av s b (d+1)) w z i).1).k).p)∧(0:Int)=((((bQ s (av s b (d+1)) w z i).1).w).n)∧e0=((((bQ s (av s b (d+1)) w z i).1).w).p)∧[(av s b (d+1) i (1+((z / 3)%3))).1].map (eA (n+1))=(((bQ s (av s b (d+1)) w z i).1).args).map (eA (n+1))∧b.map (ab .u8)=b.map (ab .u8)∧(((av s b (d+1) i (1+((z / 3)%3))).2:Nat):Int)=(((bQ s (av s b (d+1)) w z i).2:Nat):Int)∧True)))))) (TT 1 (W6 ((k+1:Nat):Int)∧TT 1 (AG (xa b i s w z d) k (k+1))))))))) (TT 3 (IX (k:Int) s.Uk.length∧TT 4 ((True∧(decide (((s.Uk.getD k ay).w)=w))=false)∧TT 5 (W6 ((k+1:Nat):Int)∧TT 1 (AG (xa b i s w z d) k (k+1))))))) (CS ((z%3)=1) (TT 1 (QM z 3∧TT 1 ((True∧(decide ((z%3)=1))=true)∧TT 3 (CD (w>1) (TT 3 (W6 (w-1)∧TT 1 ((True∧(IntKind.wrap .i64 (((d+2:Nat):Int)-1))=((d+1:Nat):Int))∧TT 1 (CC (vN b i s (w-1) (d+1) n)∧TT 6 (am [[(i6 (((av s b (d+1) i (w-1)).1).op)),(dS (((av s b (d+1) i (w-1)).1).name)),(i6 ((((av s b (d+1) i (w-1)).1).k).n)),(dS ((((av s b (d+1) i (w-1)).1).k).p)),(i6 ((((av s b (d+1) i (w-1)).1).w).n)),(dS ((((av s b (d+1) i (w-1)).1).w).p)),(dL 7 (eA n) dE (((av s b (d+1) i (w-1)).1).args))]] ([(av s b (d+1) i (w-1)).1].map (eA (n+1)))∧TT 6 ((13:Int)=(((bQ s (av s b (d+1)) w z i).1).op)∧e0=(((bQ s (av s b (d+1)) w z i).1).name)∧(0:Int)=((((bQ s (av s b (d+1)) w z i).1).k).n)∧e0=((((bQ s (av s b (d+1)) w z i).1).k).p)∧w=((((bQ s (av s b (d+1)) w z i).1).w).n)∧e0=((((bQ s (av s b (d+1)) w z i).1).w).p)∧[(av s b (d+1) i (w-1)).1].map (eA (n+1))=(((bQ s (av s b (d+1)) w z i).1).args).map (eA (n+1))∧b.map (ab .u8)=b.map (ab .u8)∧(((av s b (d+1) i (w-1)).2:Nat):Int)=(((bQ s (av s b (d+1)) w z i).2:Nat):Int)∧True)))))) (TT 4 (QD z 3∧QM (z / 3) 2∧W6 (w+((z / 3)%2))∧TT 1 ((True∧(IntKind.wrap .i64 (((d+2:Nat):Int)-1))=((d+1:Nat):Int))∧TT 1 (CC (vN b i s (w+((z / 3)%2)) (d+1) n)∧TT 3 (QD z 3∧QM (z / 3) 2∧TT 5 (am [[(i6 (((av s b (d+1) i (w+((z / 3)%2))).1).op)),(dS (((av s b (d+1) i (w+((z / 3)%2))).1).name)),(i6 ((((av s b (d+1) i (w+((z / 3)%2))).1).k).n)),(dS ((((av s b (d+1) i (w+((z / 3)%2))).1).k).p)),(i6 ((((av s b (d+1) i (w+((z / 3)%2))).1).w).n)),(dS ((((av s b (d+1) i (w+((z / 3)%2))).1).w).p)),(dL 7 (eA n) dE (((av s b (d+1) i (w+((z / 3)%2))).1).args))]] ([(av s b (d+1) i (w+((z / 3)%2))).1].map (eA (n+1)))∧TT 6 ((12:Int)=(((bQ s (av s b (d+1)) w z i).1).op)∧e0=(((bQ s (av s b (d+1)) w z i).1).name)∧((z / 3)%2)=((((bQ s (av s b (d+1)) w z i).1).k).n)∧e0=((((bQ s (av s b (d+1)) w z i).1).k).p)∧w=((((bQ s (av s b (d+1)) w z i).1).w).n)∧e0=((((bQ s (av s b (d+1)) w z i).1).w).p)∧[(av s b (d+1) i (w+((z / 3)%2))).1].map (eA (n+1))=(((bQ s (av s b (d+1)) w z i).1).args).map (eA (n+1))∧b.map (ab .u8)=b.map (ab .u8)∧(((av s b (d+1) i (w+((z / 3)%2))).2:Nat):Int)=(((bQ s (av s b (d+1)) w z i).2:Nat):Int)∧True))))))))))) (TT 1 (QM z 3∧TT 1 ((True∧(decide ((z%3)=1))=false)∧TT 7 (QD z 3∧QM (z / 3) 2∧W6 (w+((z / 3)%2))∧TT 1 ((True∧(IntKind.wrap .i64 (((d+2:Nat):Int)-1))=((d+1:Nat):Int))∧TT 1 (CC (vN b i s (w+((z / 3)%2)) (d+1) n)∧TT 3 (QD z 3∧QM (z / 3) 2∧TT 5 (am [[(i6 (((av s b (d+1) i (w+((z / 3)%2))).1).op)),(dS (((av s b (d+1) i (w+((z / 3)%2))).1).name)),(i6 ((((av s b (d+1) i (w+((z / 3)%2))).1).k).n)),(dS ((((av s b (d+1) i (w+((z / 3)%2))).1).k).p)),(i6 ((((av s b (d+1) i (w+((z / 3)%2))).1).w).n)),(dS ((((av s b (d+1) i (w+((z / 3)%2))).1).w).p)),(dL 7 (eA n) dE (((av s b (d+1) i (w+((z / 3)%2))).1).args))]] ([(av s b (d+1) i (w+((z / 3)%2))).1].map (eA (n+1)))∧TT 6 ((12:Int)=(((bQ s (av s b (d+1)) w z i).1).op)∧e0=(((bQ s (av s b (d+1)) w z i).1).name)∧((z / 3)%2)=((((bQ s (av s b (d+1)) w z i).1).k).n)∧e0=((((bQ s (av s b (d+1)) w z i).1).k).p)∧w=((((bQ s (av s b (d+1)) w z i).1).w).n)∧e0=((((bQ s (av s b (d+1)) w z i).1).w).p)∧[(av s b (d+1) i (w+((z / 3)%2))).1].map (eA (n+1))=(((bQ s (av s b (d+1)) w z i).1).args).map (eA (n+1))∧b.map (ab .u8)=b.map (ab .u8)∧(((av s b (d+1) i (w+((z / 3)%2))).2:Nat):Int)=(((bQ s (av s b (d+1)) w z i).2:Nat):Int)∧True))))))))))))))))) (.l (xa b i s w z d) 0 (fun k=>.b 24 (.s 5 (((s.Uk.getD k ay).w)=w) (.w 5 [(8,.val (dB true)),(10,.val (i6 (z%3)))]<|.b 39 (.w 6 [(3,.val (i6 (z / 3))),(4,.val (i6 ((z / 3)%3))),(5,.val (i6 (1+((z / 3)%3)))),(7,.val (i6 ((d+1:Nat):Int))),(9,(vN b i s (1+((z / 3)%3)) (d+1) n).O)]<|.w 7 [(4,.frz 58 7 (eA (n+1)) dE [(av s b (d+1) i (1+((z / 3)%3))).1])]<|.e) (.w 4 [(1,.val (i6 ((k+1:Nat):Int)))]<|.e)) (.w 5 [(8,.val (dB false))]<|.w 4 [(1,.val (i6 ((k+1:Nat):Int)))]<|.e)) (.s 8 ((z%3)=1) (.w 8 [(1,.val (i6 (z%3))),(3,.val (dB true))]<|.b 65 (.w 9 [(3,.val (i6 (w-1))),(5,.val (i6 ((d+1:Nat):Int))),(7,(vN b i s (w-1) (d+1) n).O)]<|.w 10 [(4,.frz 58 7 (eA (n+1)) dE [(av s b (d+1) i (w-1)).1])]<|.e) (.w 11 [(4,.val (i6 (z / 3))),(5,.val (i6 ((z / 3)%2))),(6,.val (i6 (w+((z / 3)%2)))),(8,.val (i6 ((d+1:Nat):Int))),(10,(vN b i s (w+((z / 3)%2)) (d+1) n).O)]<|.w 12 [(1,.val (i6 (z / 3))),(2,.val (i6 ((z / 3)%2))),(8,.frz 58 7 (eA (n+1)) dE [(av s b (d+1) i (w+((z / 3)%2))).1])]<|.e)) (.w 8 [(1,.val (i6 (z%3))),(3,.val (dB false))]<|.w 11 [(4,.val (i6 (z / 3))),(5,.val (i6 ((z / 3)%2))),(6,.val (i6 (w+((z / 3)%2)))),(8,.val (i6 ((d+1:Nat):Int))),(10,(vN b i s (w+((z / 3)%2)) (d+1) n).O)]<|.w 12 [(1,.val (i6 (z / 3))),(2,.val (i6 ((z / 3)%2))),(8,.frz 58 7 (eA (n+1)) dE [(av s b (d+1) i (w+((z / 3)%2))).1])]<|.e)))) Tryz.func80 rfl rfl rfl (by kernel_rfl) ?_
 refine tt ⟨⟨by omega,oK⟩,tt ⟨⟨by omega,oK⟩,tt ⟨⟨by omega,oK⟩,tt ⟨rfl,⟨by omega,fun _=>rfl⟩,?_⟩⟩⟩⟩
 intro k F'
 obtain⟨hk,hmf⟩:=F'
 refine tt (cd (fun XN=>?_) (fun XN=>?_))
 · refine⟨fun N'=>?_,fun N'=>?_⟩
   · refine tt ⟨ix,tt ⟨(vT N'),tt ⟨qm,tt (cd (fun Xq=>?_) (fun Xq=>?_))⟩⟩⟩
     · refine tt ⟨qd,⟨qm,⟨w6,tt ⟨⟨oK,(uD (by omega) (by omega) (by omega))⟩,tt ⟨(ih _ _ (by omega) (by omega) (by omega)),tt ⟨⟨⟨rfl,rfl,rfl,rfl,rfl,rfl,rfl,oK⟩,oK⟩,tt ⟨?_,?_,?_,?_,?_,?_,(congrArg _ (?_:[(av s b (d+1) i (1+((z / 3)%3))).1]=(((bQ s (av s b (d+1)) w z i).1).args))),rfl,?_,oK⟩⟩⟩⟩⟩⟩⟩
       all_goals (rw[Qg Xq ((hmf Xq).trans (Jc (by omega) N'))];first | done | rfl)
     · refine tt ⟨w6,tt ⟨(k+1),rfl,?_,(?_:s.Uk.length-(k+1)<s.Uk.length-k)⟩⟩
       · exact⟨by omega,fun h=>by first | exact absurd h (by assumption) | (rw[hmf h];exact Fl (by omega) (by assumption))⟩
       · omega
   · refine tt ⟨ix,tt ⟨(vF N'),tt ⟨w6,tt ⟨(k+1),rfl,?_,(?_:s.Uk.length-(k+1)<s.Uk.length-k)⟩⟩⟩⟩
     · exact⟨by omega,fun h=>by first | exact absurd h (by assumption) | (rw[hmf h];exact Fl (by omega) (by assumption))⟩
     · omega
 · refine⟨fun WN=>?_,fun WN=>?_⟩
   · refine tt ⟨qm,tt ⟨(vT WN),tt (cd (fun XU=>?_) (fun XU=>?_))⟩⟩
     · refine tt ⟨w6,tt ⟨⟨oK,(uD (by omega) (by omega) (by omega))⟩,tt ⟨(ih _ _ (by omega) (by omega) (by omega)),tt ⟨⟨⟨rfl,rfl,rfl,rfl,rfl,rfl,rfl,oK⟩,oK⟩,tt ⟨?_,?_,?_,?_,?_,?_,(congrArg _ (?_:[(av s b (d+1) i (w-1)).1]=(((bQ s (av s b (d+1)) w z i).1).args))),rfl,?_,oK⟩⟩⟩⟩⟩
       all_goals (first | rw[Ja (by assumption) (by assumption)] | rw[Jb (fun h=>(hmf h).trans (wF (by omega))) (by omega)];first | done | rfl)
     · refine tt ⟨qd,⟨qm,⟨w6,tt ⟨⟨oK,(uD (by omega) (by omega) (by omega))⟩,tt ⟨(ih _ _ (by omega) (by omega) (by omega)),tt ⟨qd,⟨qm,tt ⟨⟨⟨rfl,rfl,rfl,rfl,rfl,rfl,rfl,oK⟩,oK⟩,tt ⟨?_,?_,?_,?_,?_,?_,(congrArg _ (?_:[(av s b (d+1) i (w+((z / 3)%2))).1]=(((bQ s (av s b (d+1)) w z i).1).args))),rfl,?_,oK⟩⟩⟩⟩⟩⟩⟩⟩⟩
       all_goals (first | rw[Ja (by assumption) (by assumption)] | rw[Jb (fun h=>(hmf h).trans (wF (by omega))) (by omega)];first | done | rfl)
   · refine tt ⟨qm,tt ⟨(vF WN),tt ⟨qd,⟨qm,⟨w6,tt ⟨⟨oK,(uD (by omega) (by omega) (by omega))⟩,tt ⟨(ih _ _ (by omega) (by omega) (by omega)),tt ⟨qd,⟨qm,tt ⟨⟨⟨rfl,rfl,rfl,rfl,rfl,rfl,rfl,oK⟩,oK⟩,tt ⟨?_,?_,?_,?_,?_,?_,(congrArg _ (?_:[(av s b (d+1) i (w+((z / 3)%2))).1]=(((bQ s (av s b (d+1)) w z i).1).args))),rfl,?_,oK⟩⟩⟩⟩⟩⟩⟩⟩⟩⟩⟩
     all_goals (first | rw[Ja (by assumption) (by assumption)] | rw[Jb (fun h=>(hmf h).trans (wF (by omega))) (by omega)];first | done | rfl)
theorem MW (b:List Int) (i:Nat) (s:Sg) (w:Int) (d n:Nat) (hb:ic b) (h1:1≤w) (h2:w+(d:Nat)≤8) (h3:d≤3) (hi:i+4^(d)≤9223372036854775807) (hm:s.Uk.length≤100) (hr:s.Ul.length≤100) (ht:s.I.length≤100) (hd:d≤1):CC (vN b i s w d n):=by
 have hy:=cO hb i
 have hp:1≤4^d:=Nat.one_le_pow _ _ (by omega)
 refine ah.vc (V:=TT 4 (((0≤(0:Int)∧0<(2:Int))∧True)∧TT 1 (((0≤(1:Int)∧1<(2:Int))∧True)∧TT 4 (CC (HO b i)∧TT 2 (CC (Ek b i 1)∧TT 2 (QM (b.getD i 0) 14∧TT 3 ((True∧(decide ((d:Int)≤1))=true)∧TT 6 (QD (b.getD i 0) 14∧CC (Q3 s w ((b.getD i 0) / 14) n)∧TT 4 (((bq s w ((b.getD i 0) / 14)).op)=(((av s b d i w).1).op)∧((bq s w ((b.getD i 0) / 14)).name)=(((av s b d i w).1).name)∧(((bq s w ((b.getD i 0) / 14)).k).n)=((((av s b d i w).1).k).n)∧(((bq s w ((b.getD i 0) / 14)).k).p)=((((av s b d i w).1).k).p)∧(((bq s w ((b.getD i 0) / 14)).w).n)=((((av s b d i w).1).w).n)∧(((bq s w ((b.getD i 0) / 14)).w).p)=((((av s b d i w).1).w).p)∧((bq s w ((b.getD i 0) / 14)).args).map (eA n)=(((av s b d i w).1).args).map (eA n)∧b.map (ab .u8)=b.map (ab .u8)∧((i+1:Nat):Int)=(((av s b d i w).2:Nat):Int)∧True))))))))) (.w 2 [(1,(HO b i).O)]<|.w 3 [(1,(Ek b i 1).O)]<|.w 4 [(1,.val (i6 ((b.getD i 0)%14)))]<|.w 5 [(2,.val (dB true))]<|.w 6 [(3,.val (i6 ((b.getD i 0) / 14))),(4,(Q3 s w ((b.getD i 0) / 14) n).O)]<|.e) Tryz.func62 rfl rfl rfl (by kernel_rfl) ?_
 refine tt ⟨⟨by omega,oK⟩,tt ⟨⟨by omega,oK⟩,tt ⟨(pO b i hb),tt ⟨(w9 b i 1 om),tt ⟨qm,tt ⟨(vT (by omega)),tt ⟨qd,⟨(Gs s w ((b.getD i 0) / 14) n om om om om hr ht),tt ⟨?_,?_,?_,?_,?_,?_,(congrArg _ (?_:((bq s w ((b.getD i 0) / 14)).args)=(((av s b d i w).1).args))),rfl,?_,oK⟩⟩⟩⟩⟩⟩⟩⟩⟩
 all_goals (rw[Jd hd])
abbrev gA (b:List Int) (i:Nat) (s:Sg) (w:Int) (d:Nat):Lp (Int×List Int):=nN [3,4,6,8,11,12] 13 (fun (op:Int) (aw:List Int)=>⟨[(3,(.ptr 0 0 0 0)),(4,(.ptr 1 0 0 0)),(6,(.ptr 3 0 0 0)),(8,(i6 ((d+2:Nat):Int))),(11,(.ptr 11 0 0 0)),(12,(LI aw))],[(.var 103 [(LY b),(i6 ((i+1:Nat):Int))]),(.var 145 (s5 s)),(.var 152 [(i6 w),(i6 ((d+2:Nat):Int))]),KM,.dead,.dead,.dead,.dead,.dead,.dead,.dead,(.var 58 [(i6 op),(dS e0),(i6 0),(dS e0),(i6 0),(dS e0),.nils]),.dead]⟩) (fun (op:Int) (aw:List Int)=>op=tH (b.getD i 0) w∧aw=ke (b.getD i 0) w) (fun (op:Int) (aw:List Int)=>0)
abbrev vO (b:List Int) (i:Nat) (s:Sg) (w:Int) (d:Nat) (n:Nat) (op:Int) (aw:List Int):Lp (Nat):=gD [3,4,6,8,11,12,13] 14 (fun (k:Nat)=>⟨[(3,(.ptr 0 0 0 0)),(4,(.ptr 1 0 0 0)),(6,(.ptr 3 0 0 0)),(8,(i6 ((d+2:Nat):Int))),(11,(.ptr 11 0 0 0)),(12,(LI aw)),(13,(i6 (k:Int)))],[(.var 103 [(LY b),(i6 (((bI (av s b (d+1)) (aw.take k) (i+1)).2:Nat):Int))]),(.var 145 (s5 s)),(.var 152 [(i6 w),(i6 ((d+2:Nat):Int))]),KM,.dead,.dead,.dead,.dead,.dead,.dead,.dead,(.var 58 [(i6 op),(dS e0),(i6 0),(dS e0),(i6 0),(dS e0),(.own 13)]),.dead,(.arr 58 7 (eA (n+1)) dE ((bI (av s b (d+1)) (aw.take k) (i+1)).1))]⟩) (fun (k:Nat)=>k≤aw.length) (fun (k:Nat)=>aw.length-k)
theorem Gt (b:List Int) (i:Nat) (s:Sg) (w:Int) (d n:Nat) (hb:ic b) (h1:1≤w) (h2:w+(d+2:Nat)≤8) (h3:d+2≤3) (hi:i+4^(d+2)≤9223372036854775807) (hm:s.Uk.length≤100) (hr:s.Ul.length≤100) (ht:s.I.length≤100) (ih:∀(i:Nat) (w:Int),1≤w→w+(d+1:Nat)≤8→i+4^(d+1)≤9223372036854775807→CC (vN b i s w (d+1) n)):CC (vN b i s w (d+2) (n+1)):=by
 have hy:=cO hb i
 have hp:1≤4^(d+1):=Nat.one_le_pow _ _ (by omega)
 have hpow:4^(d+2)=4*4^(d+1):=by rw[Nat.pow_succ];omega
 refine ah.vc (V:=TT 4 (((0≤(0:Int)∧0<(2:Int))∧True)∧TT 1 (((0≤(1:Int)∧1<(2:Int))∧True)∧TT 4 (CC (HO b i)∧TT 2 (CC (Ek b i 1)∧TT 2 (QM (b.getD i 0) 14∧TT 3 ((True∧(decide (((d+2:Nat):Int)≤1))=false)∧TT 3 (CD (((b.getD i 0)%14)<2) (TT 3 (QD (b.getD i 0) 14∧CC (Q3 s w ((b.getD i 0) / 14) (n+1))∧TT 4 (((bq s w ((b.getD i 0) / 14)).op)=(((av s b (d+2) i w).1).op)∧((bq s w ((b.getD i 0) / 14)).name)=(((av s b (d+2) i w).1).name)∧(((bq s w ((b.getD i 0) / 14)).k).n)=((((av s b (d+2) i w).1).k).n)∧(((bq s w ((b.getD i 0) / 14)).k).p)=((((av s b (d+2) i w).1).k).p)∧(((bq s w ((b.getD i 0) / 14)).w).n)=((((av s b (d+2) i w).1).w).n)∧(((bq s w ((b.getD i 0) / 14)).w).p)=((((av s b (d+2) i w).1).w).p)∧((bq s w ((b.getD i 0) / 14)).args).map (eA (n+1))=(((av s b (d+2) i w).1).args).map (eA (n+1))∧b.map (ab .u8)=b.map (ab .u8)∧((i+1:Nat):Int)=(((av s b (d+2) i w).2:Nat):Int)∧True))) (CS (((b.getD i 0)%14)=2) (TT 2 ((True∧(decide (((b.getD i 0)%14)=2))=true)∧TT 8 (QD (b.getD i 0) 14∧TT 1 (CC (Q4 b (i+1) s w ((b.getD i 0) / 14) d n)∧TT 2 ((((bQ s (av s b (d+1)) w ((b.getD i 0) / 14) (i+1)).1).op)=(((av s b (d+2) i w).1).op)∧(((bQ s (av s b (d+1)) w ((b.getD i 0) / 14) (i+1)).1).name)=(((av s b (d+2) i w).1).name)∧((((bQ s (av s b (d+1)) w ((b.getD i 0) / 14) (i+1)).1).k).n)=((((av s b (d+2) i w).1).k).n)∧((((bQ s (av s b (d+1)) w ((b.getD i 0) / 14) (i+1)).1).k).p)=((((av s b (d+2) i w).1).k).p)∧((((bQ s (av s b (d+1)) w ((b.getD i 0) / 14) (i+1)).1).w).n)=((((av s b (d+2) i w).1).w).n)∧((((bQ s (av s b (d+1)) w ((b.getD i 0) / 14) (i+1)).1).w).p)=((((av s b (d+2) i w).1).w).p)∧(((bQ s (av s b (d+1)) w ((b.getD i 0) / 14) (i+1)).1).args).map (eA (n+1))=(((av s b (d+2) i w).1).args).map (eA (n+1))∧b.map (ab .u8)=b.map (ab .u8)∧(((bQ s (av s b (d+1)) w ((b.getD i 0) / 14) (i+1)).2:Nat):Int)=(((av s b (d+2) i w).2:Nat):Int)∧True))))) (TT 2 ((True∧(decide (((b.getD i 0)%14)=2))=false)∧TT 3 (CD (((b.getD i 0)%14)=3) (TT 5 (QD (b.getD i 0) 14∧TT 1 (CC (Q4 b (i+1) s w ((b.getD i 0) / 14) d n)∧TT 2 ((((bQ s (av s b (d+1)) w ((b.getD i 0) / 14) (i+1)).1).op)=(((av s b (d+2) i w).1).op)∧(((bQ s (av s b (d+1)) w ((b.getD i 0) / 14) (i+1)).1).name)=(((av s b (d+2) i w).1).name)∧((((bQ s (av s b (d+1)) w ((b.getD i 0) / 14) (i+1)).1).k).n)=((((av s b (d+2) i w).1).k).n)∧((((bQ s (av s b (d+1)) w ((b.getD i 0) / 14) (i+1)).1).k).p)=((((av s b (d+2) i w).1).k).p)∧((((bQ s (av s b (d+1)) w ((b.getD i 0) / 14) (i+1)).1).w).n)=((((av s b (d+2) i w).1).w).n)∧((((bQ s (av s b (d+1)) w ((b.getD i 0) / 14) (i+1)).1).w).p)=((((av s b (d+2) i w).1).w).p)∧(((bQ s (av s b (d+1)) w ((b.getD i 0) / 14) (i+1)).1).args).map (eA (n+1))=(((av s b (d+2) i w).1).args).map (eA (n+1))∧b.map (ab .u8)=b.map (ab .u8)∧(((bQ s (av s b (d+1)) w ((b.getD i 0) / 14) (i+1)).2:Nat):Int)=(((av s b (d+2) i w).2:Nat):Int)∧True)))) (am [[(i6 2)],[(i6 3)],[(i6 4)],[(i6 5)],[(i6 6)],[(i6 7)],[(i6 10)],[(i6 8)],[(i6 9)],[(i6 11)]] ([2,3,4,5,6,7,10,8,9,11].map (ab .i64))∧TT 1 (W6 (((b.getD i 0)%14)-4)∧IX (((b.getD i 0)%14)-4) ([2,3,4,5,6,7,10,8,9,11].length)∧(True∧([2,3,4,5,6,7,10,8,9,11].getD ((((b.getD i 0)%14)-4).toNat) 0)=(jC (b.getD i 0%14)))∧TT 5 (am [[(i6 w)],[(i6 w)]] ([w,w].map (ab .i64))∧TT 1 (TT 4 (CD ((jC (b.getD i 0%14))=2) (TT 1 (am [[(i6 w)]] ([w].map (ab .i64))∧TT 1 (AT (gA b i s w d) (jC (b.getD i 0%14),[w])))) (TT 2 (CD ((jC (b.getD i 0%14))=10) (TT 2 (am [[(i6 1)],[(i6 w)],[(i6 w)]] ([1,w,w].map (ab .i64))∧TT 1 (AT (gA b i s w d) (jC (b.getD i 0%14),[1,w,w])))) (TT 2 (CD ((jC (b.getD i 0%14))=8) ((decide ((jC (b.getD i 0%14))=8))=true∧TT 2 (CD (w>1) (TT 2 (AT (gA b i s w d) (5,[w,w]))) (TT 1 (QD (b.getD i 0) 14∧QM ((b.getD i 0) / 14) 3∧W6 (1+(((b.getD i 0) / 14)%3))∧TT 1 (QD (b.getD i 0) 14∧QM ((b.getD i 0) / 14) 3∧W6 (1+(((b.getD i 0) / 14)%3))∧am [[(i6 (1+(((b.getD i 0) / 14)%3)))],[(i6 (1+(((b.getD i 0) / 14)%3)))]] ([1+(((b.getD i 0) / 14)%3),1+(((b.getD i 0) / 14)%3)].map (ab .i64))∧TT 1 (AT (gA b i s w d) (jC (b.getD i 0%14),[1+(((b.getD i 0) / 14)%3),1+(((b.getD i 0) / 14)%3)]))))))) (TT 2 (CD ((jC (b.getD i 0%14))=9) (TT 2 (CD (w>1) (TT 2 (AT (gA b i s w d) (5,[w,w]))) (TT 1 (QD (b.getD i 0) 14∧QM ((b.getD i 0) / 14) 3∧W6 (1+(((b.getD i 0) / 14)%3))∧TT 1 (QD (b.getD i 0) 14∧QM ((b.getD i 0) / 14) 3∧W6 (1+(((b.getD i 0) / 14)%3))∧am [[(i6 (1+(((b.getD i 0) / 14)%3)))],[(i6 (1+(((b.getD i 0) / 14)%3)))]] ([1+(((b.getD i 0) / 14)%3),1+(((b.getD i 0) / 14)%3)].map (ab .i64))∧TT 1 (AT (gA b i s w d) (jC (b.getD i 0%14),[1+(((b.getD i 0) / 14)%3),1+(((b.getD i 0) / 14)%3)]))))))) (TT 2 (CD ((jC (b.getD i 0%14))=11) (TT 2 (CD (w=1) (TT 2 (AT (gA b i s w d) (3,[w,w]))) (TT 1 (W6 (w-1)∧am [[(i6 (w-1))],[(i6 1)]] ([w-1,1].map (ab .i64))∧TT 1 (AT (gA b i s w d) (jC (b.getD i 0%14),[w-1,1])))))) (AT (gA b i s w d) (jC (b.getD i 0%14),[w,w])))))))))))∧∀op aw,(gA b i s w d).inv (op,aw)→TT 1 (GO (vO b i s w d n op aw) 0 (∀k,(vO b i s w d n op aw).inv k→TT 4 (CD ((k:Int)<(aw.length:Int)) (TT 4 (IX (k:Int) aw.length∧TT 2 ((True∧(IntKind.wrap .i64 (((d+2:Nat):Int)-1))=((d+1:Nat):Int))∧TT 1 (CC (vN b ((bI (av s b (d+1)) (aw.take k) (i+1)).2) s (aw.getD k 0) (d+1) n)∧TT 6 (am [[(i6 (((av s b (d+1) ((bI (av s b (d+1)) (aw.take k) (i+1)).2) (aw.getD k 0)).1).op)),(dS (((av s b (d+1) ((bI (av s b (d+1)) (aw.take k) (i+1)).2) (aw.getD k 0)).1).name)),(i6 ((((av s b (d+1) ((bI (av s b (d+1)) (aw.take k) (i+1)).2) (aw.getD k 0)).1).k).n)),(dS ((((av s b (d+1) ((bI (av s b (d+1)) (aw.take k) (i+1)).2) (aw.getD k 0)).1).k).p)),(i6 ((((av s b (d+1) ((bI (av s b (d+1)) (aw.take k) (i+1)).2) (aw.getD k 0)).1).w).n)),(dS ((((av s b (d+1) ((bI (av s b (d+1)) (aw.take k) (i+1)).2) (aw.getD k 0)).1).w).p)),(dL 7 (eA n) dE (((av s b (d+1) ((bI (av s b (d+1)) (aw.take k) (i+1)).2) (aw.getD k 0)).1).args))]] ([(av s b (d+1) ((bI (av s b (d+1)) (aw.take k) (i+1)).2) (aw.getD k 0)).1].map (eA (n+1)))∧(((bI (av s b (d+1)) (aw.take k) (i+1)).1).length+([(av s b (d+1) ((bI (av s b (d+1)) (aw.take k) (i+1)).2) (aw.getD k 0)).1].map (eA (n+1))).length≤137438953472∧((bI (av s b (d+1)) (aw.take k) (i+1)).1).map (eA (n+1))++[(av s b (d+1) ((bI (av s b (d+1)) (aw.take k) (i+1)).2) (aw.getD k 0)).1].map (eA (n+1))=((bI (av s b (d+1)) (aw.take (k+1)) (i+1)).1).map (eA (n+1)))∧TT 3 ((True∧(b.map (ab .u8)=b.map (ab .u8)∧(((av s b (d+1) ((bI (av s b (d+1)) (aw.take k) (i+1)).2) (aw.getD k 0)).2:Nat):Int)=(((bI (av s b (d+1)) (aw.take (k+1)) (i+1)).2:Nat):Int)∧True))∧TT 2 (W6 ((k+1:Nat):Int)∧TT 1 (AG (vO b i s w d n op aw) k (k+1))))))))) (TT 5 (op=(((av s b (d+2) i w).1).op)∧e0=(((av s b (d+2) i w).1).name)∧(0:Int)=((((av s b (d+2) i w).1).k).n)∧e0=((((av s b (d+2) i w).1).k).p)∧(0:Int)=((((av s b (d+2) i w).1).w).n)∧e0=((((av s b (d+2) i w).1).w).p)∧((bI (av s b (d+1)) (aw.take k) (i+1)).1).map (eA (n+1))=(((av s b (d+2) i w).1).args).map (eA (n+1))∧b.map (ab .u8)=b.map (ab .u8)∧(((bI (av s b (d+1)) (aw.take k) (i+1)).2:Nat):Int)=(((av s b (d+2) i w).2:Nat):Int)∧True))))))))))))))))))))) (.w 2 [(1,(HO b i).O)]<|.w 3 [(1,(Ek b i 1).O)]<|.w 4 [(1,.val (i6 ((b.getD i 0)%14)))]<|.w 5 [(2,.val (dB false))]<|.b 30 (.w 6 [(3,.val (i6 ((b.getD i 0) / 14))),(4,(Q3 s w ((b.getD i 0) / 14) (n+1)).O)]<|.e) (.s 7 (((b.getD i 0)%14)=2) (.w 7 [(2,.val (dB true))]<|.w 8 [(5,.val (i6 ((b.getD i 0) / 14))),(7,(Q4 b (i+1) s w ((b.getD i 0) / 14) d n).O)]<|.e) (.w 7 [(2,.val (dB false))]<|.b 43 (.w 8 [(5,.val (i6 ((b.getD i 0) / 14))),(7,(Q4 b (i+1) s w ((b.getD i 0) / 14) d n).O)]<|.e) (.w 9 [(0,.frz 3 1 (ab .i64) 0 [2,3,4,5,6,7,10,8,9,11]),(2,.val (i6 (((b.getD i 0)%14)-4))),(4,.val (i6 (jC (b.getD i 0%14))))]<|.w 10 [(2,.frz 3 1 (ab .i64) 0 [w,w])]<|.k 11 (gA b i s w d) (.b 63 (.w 13 [(1,.frz 3 1 (ab .i64) 0 [w])]<|.e) (.b 67 (.w 15 [(2,.frz 3 1 (ab .i64) 0 [1,w,w])]<|.e) (.b 72 (.t 72 (.b 76 (.e) (.w 20 [(1,.val (i6 ((b.getD i 0) / 14))),(2,.val (i6 (((b.getD i 0) / 14)%3))),(3,.val (i6 (1+(((b.getD i 0) / 14)%3)))),(5,.val (i6 ((b.getD i 0) / 14))),(6,.val (i6 (((b.getD i 0) / 14)%3))),(7,.val (i6 (1+(((b.getD i 0) / 14)%3)))),(8,.frz 3 1 (ab .i64) 0 [1+(((b.getD i 0) / 14)%3),1+(((b.getD i 0) / 14)%3)])]<|.e))) (.b 72 (.b 76 (.e) (.w 20 [(1,.val (i6 ((b.getD i 0) / 14))),(2,.val (i6 (((b.getD i 0) / 14)%3))),(3,.val (i6 (1+(((b.getD i 0) / 14)%3)))),(5,.val (i6 ((b.getD i 0) / 14))),(6,.val (i6 (((b.getD i 0) / 14)%3))),(7,.val (i6 (1+(((b.getD i 0) / 14)%3)))),(8,.frz 3 1 (ab .i64) 0 [1+(((b.getD i 0) / 14)%3),1+(((b.getD i 0) / 14)%3)])]<|.e)) (.b 87 (.b 90 (.e) (.w 24 [(1,.val (i6 (w-1))),(2,.frz 3 1 (ab .i64) 0 [w-1,1])]<|.e)) (.e)))))) (fun ⟨op,aw⟩=>.g 25 11 6 58 7 (eA (n+1)) dE<|.l (vO b i s w d n op aw) 0 (fun k=>.b 98 (.w 28 [(7,.val (i6 ((d+1:Nat):Int))),(9,(vN b ((bI (av s b (d+1)) (aw.take k) (i+1)).2) s (aw.getD k 0) (d+1) n).O)]<|.w 29 [(4,.box 58 7 (eA (n+1)) dE [(av s b (d+1) ((bI (av s b (d+1)) (aw.take k) (i+1)).2) (aw.getD k 0)).1]),(5,.box 58 7 (eA (n+1)) dE ((bI (av s b (d+1)) (aw.take (k+1)) (i+1)).1))]<|.w 30 [(1,.val (.agg [(LY b),(i6 (((bI (av s b (d+1)) (aw.take (k+1)) (i+1)).2:Nat):Int))]))]<|.w 27 [(1,.val (i6 ((k+1:Nat):Int)))]<|.e) (.e))))))) Tryz.func62 rfl rfl rfl (by kernel_rfl) ?_
 refine tt ⟨⟨by omega,oK⟩,tt ⟨⟨by omega,oK⟩,tt ⟨(pO b i hb),tt ⟨(w9 b i 1 om),tt ⟨qm,tt ⟨(vF (by omega)),tt (cd (fun hc30=>?_) (fun hc30=>?_))⟩⟩⟩⟩⟩⟩
 · refine tt ⟨qd,⟨(Gs s w ((b.getD i 0) / 14) (n+1) om om om om hr ht),tt ⟨?_,?_,?_,?_,?_,?_,(congrArg _ (?_:((bq s w ((b.getD i 0) / 14)).args)=(((av s b (d+2) i w).1).args))),rfl,?_,oK⟩⟩⟩
   all_goals (rw[Oc hc30])
 · refine⟨fun N'=>?_,fun N'=>?_⟩
   · refine tt ⟨(vT N'),tt ⟨qd,tt ⟨(KN b _ s w _ d n hb h1 (by omega) h3 (by omega) hm hr ht (by omega) (by omega) ih),tt ⟨?_,?_,?_,?_,?_,?_,(congrArg _ (?_:(((bQ s (av s b (d+1)) w ((b.getD i 0) / 14) (i+1)).1).args)=(((av s b (d+2) i w).1).args))),rfl,?_,oK⟩⟩⟩⟩
     all_goals (rw[Je (by omega)])
   · refine tt ⟨(vF N'),tt (cd (fun W5=>?_) (fun W5=>?_))⟩
     · refine tt ⟨qd,tt ⟨(KN b _ s w _ d n hb h1 (by omega) h3 (by omega) hm hr ht (by omega) (by omega) ih),tt ⟨?_,?_,?_,?_,?_,?_,(congrArg _ (?_:(((bQ s (av s b (d+1)) w ((b.getD i 0) / 14) (i+1)).1).args)=(((av s b (d+2) i w).1).args))),rfl,?_,oK⟩⟩⟩
       all_goals (rw[Je (by omega)])
     · refine⟨⟨⟨rfl,oK⟩,⟨rfl,oK⟩,⟨rfl,oK⟩,⟨rfl,oK⟩,⟨rfl,oK⟩,⟨rfl,oK⟩,⟨rfl,oK⟩,⟨rfl,oK⟩,⟨rfl,oK⟩,⟨rfl,oK⟩,oK⟩,tt ⟨w6,⟨(by show 0≤b.getD i 0%14-4∧b.getD i 0%14-4<(10:Int);omega),⟨⟨oK,rfl⟩,tt ⟨⟨⟨rfl,oK⟩,⟨rfl,oK⟩,oK⟩,tt ⟨?_,?_⟩⟩⟩⟩⟩⟩
       · refine tt (cd (fun hc63=>?_) (fun hc63=>?_))
         · refine tt ⟨⟨⟨rfl,oK⟩,oK⟩,tt ⟨(jC (b.getD i 0%14),[w]),rfl,(?_:(jC (b.getD i 0%14))=tH (b.getD i 0) w∧[w]=ke (b.getD i 0) w)⟩⟩
           · unfold tH ke
             generalize jC (b.getD i 0%14)=o at *
             constructor<;>simp[*]
         · refine tt (cd (fun hc67=>?_) (fun hc67=>?_))
           · refine tt ⟨⟨⟨rfl,oK⟩,⟨rfl,oK⟩,⟨rfl,oK⟩,oK⟩,tt ⟨(jC (b.getD i 0%14),[1,w,w]),rfl,(?_:(jC (b.getD i 0%14))=tH (b.getD i 0) w∧[1,w,w]=ke (b.getD i 0) w)⟩⟩
             · unfold tH ke
               generalize jC (b.getD i 0%14)=o at *
               constructor<;>simp[*]
           · refine tt (cd (fun hc72=>?_) (fun hc72=>?_))
             · refine⟨(Uz hc72),tt (cd (fun hc76=>?_) (fun hc76=>?_))⟩
               · refine tt ⟨(5,[w,w]),rfl,(?_:5=tH (b.getD i 0) w∧[w,w]=ke (b.getD i 0) w)⟩
                 · unfold tH ke
                   generalize jC (b.getD i 0%14)=o at *
                   constructor<;>simp[*]
               · refine tt ⟨qd,⟨qm,⟨w6,tt ⟨qd,⟨qm,⟨w6,⟨⟨⟨rfl,oK⟩,⟨rfl,oK⟩,oK⟩,tt ⟨(jC (b.getD i 0%14),[1+(((b.getD i 0) / 14)%3),1+(((b.getD i 0) / 14)%3)]),rfl,(?_:(jC (b.getD i 0%14))=tH (b.getD i 0) w∧[1+(((b.getD i 0) / 14)%3),1+(((b.getD i 0) / 14)%3)]=ke (b.getD i 0) w)⟩⟩⟩⟩⟩⟩⟩⟩
                 · unfold tH ke
                   generalize jC (b.getD i 0%14)=o at *
                   constructor<;>simp[*]
             · refine tt (cd (fun hc72=>?_) (fun hc72=>?_))
               · refine tt (cd (fun hc76=>?_) (fun hc76=>?_))
                 · refine tt ⟨(5,[w,w]),rfl,(?_:5=tH (b.getD i 0) w∧[w,w]=ke (b.getD i 0) w)⟩
                   · unfold tH ke
                     generalize jC (b.getD i 0%14)=o at *
                     constructor<;>simp[*]
                 · refine tt ⟨qd,⟨qm,⟨w6,tt ⟨qd,⟨qm,⟨w6,⟨⟨⟨rfl,oK⟩,⟨rfl,oK⟩,oK⟩,tt ⟨(jC (b.getD i 0%14),[1+(((b.getD i 0) / 14)%3),1+(((b.getD i 0) / 14)%3)]),rfl,(?_:(jC (b.getD i 0%14))=tH (b.getD i 0) w∧[1+(((b.getD i 0) / 14)%3),1+(((b.getD i 0) / 14)%3)]=ke (b.getD i 0) w)⟩⟩⟩⟩⟩⟩⟩⟩
                   · unfold tH ke
                     generalize jC (b.getD i 0%14)=o at *
                     constructor<;>simp[*]
               · refine tt (cd (fun X6=>?_) (fun X6=>?_))
                 · refine tt (cd (fun hc90=>?_) (fun hc90=>?_))
                   · refine tt ⟨(3,[w,w]),rfl,(?_:3=tH (b.getD i 0) w∧[w,w]=ke (b.getD i 0) w)⟩
                     · unfold tH ke
                       generalize jC (b.getD i 0%14)=o at *
                       constructor<;>simp[*]
                   · refine tt ⟨w6,⟨⟨⟨rfl,oK⟩,⟨rfl,oK⟩,oK⟩,tt ⟨(jC (b.getD i 0%14),[w-1,1]),rfl,(?_:(jC (b.getD i 0%14))=tH (b.getD i 0) w∧[w-1,1]=ke (b.getD i 0) w)⟩⟩⟩
                     · unfold tH ke
                       generalize jC (b.getD i 0%14)=o at *
                       constructor<;>simp[*]
                 · refine⟨(jC (b.getD i 0%14),[w,w]),rfl,(?_:(jC (b.getD i 0%14))=tH (b.getD i 0) w∧[w,w]=ke (b.getD i 0) w)⟩
                   · unfold tH ke
                     generalize jC (b.getD i 0%14)=o at *
                     constructor<;>simp[*]
       · intro op aw F'
         obtain⟨XP,haw⟩:=F'
         refine tt ⟨rfl,(by omega),?_⟩
         intro k F'
         have hk:=F'
         refine tt (cd (fun hc98=>?_) (fun hc98=>?_))
         · have YI:=BC (t:=av s b (d+1)) (aw.take k) (i+1)
           rw[UG]at YI
           have Yf:aw.length≤3:=by rw[haw];exact(I7 (by omega) hy.1 h1 (by omega)).2.2.2.2
           obtain⟨g1,g2,g3,g4⟩:=Od (s:=s) hb (i+1) h1 h2 h3 (by omega) hy.1 (show k<(ke (b.getD i 0) w).length by rw[← haw];omega)
           rw[← haw]at g1 g2 g3 g4
           refine tt ⟨ix,tt ⟨⟨oK,(uD (by omega) (by omega) (by omega))⟩,tt ⟨(ih _ _ (by omega) (by omega) (by omega)),tt ⟨⟨⟨rfl,rfl,rfl,rfl,rfl,rfl,rfl,oK⟩,oK⟩,⟨⟨by simp only[UB,Ve,UR];omega,by rw[tJ _ _ _ (by omega),Vc]⟩,tt ⟨⟨oK,⟨rfl,by rw[tJ _ _ _ (by omega)],oK⟩⟩,tt ⟨w6,tt ⟨(k+1),rfl,(?_:(k+1)≤aw.length),(?_:aw.length-(k+1)<aw.length-k)⟩⟩⟩⟩⟩⟩⟩⟩
           · omega
           · omega
         · refine tt ⟨?_,?_,?_,?_,?_,?_,(congrArg _ (?_:((bI (av s b (d+1)) (aw.take k) (i+1)).1)=(((av s b (d+2) i w).1).args))),rfl,?_,oK⟩
           all_goals (first | (rw[Dz (by omega) (by omega) (by omega)];done) | (rw[Dz (by omega) (by omega) (by omega)];exact XP) | (rw[Dz (by omega) (by omega) (by omega),show k=aw.length by omega,U9,haw]))
end Go.Proofs.YtnlmlkbaflmgcaaGreat
