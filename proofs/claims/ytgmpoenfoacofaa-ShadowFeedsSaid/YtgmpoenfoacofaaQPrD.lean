/-
  The reference of package process.
-/
import Derived.Test.YtgmpoenfoacofaaQNeK
import Derived.Test.YtgmpoenfoacofaaQVrA
namespace Go.Proofs.Ytgmpoenfoacofaa
open Go.RowKit
set_option linter.unusedVariables false
set_option linter.unusedSimpArgs false
abbrev ma (p:Pr):am:=(.var 86 [(dS p.name),(dS p.clock),(dL 13 jN bE p.KC),(dL 27 vu a7 p.KB),(dL 9 nq cU p.I),(dL 16 oZ dj p.KA)])
abbrev AE (p:Pr) (s:Ps) (hs:List Hd):am:=(.var 184 [(dS p.name),(dS p.clock),(dL 13 jN bE p.KC),(dL 27 vu a7 p.KB),(dL 9 nq cU p.I),(dL 16 oZ dj p.KA),(LI s.KC),(dL 1 ac [] s.KB),(LI (bG p s hs))])
abbrev AF (p:Pr):D:=(.agg [(dS p.name),(dS p.clock),(dL 13 jN bE p.KC),(dL 27 vu a7 p.KB),(dL 9 nq cU p.I),(dL 16 oZ dj p.KA)])
abbrev Ee (p:Pr) (s:Ps) (data:List Int):am:=(.var 184 [(dS p.name),(dS p.clock),(dL 13 jN bE p.KC),(dL 27 vu a7 p.KB),(dL 9 nq cU p.I),(dL 16 oZ dj p.KA),(LI s.KC),(dL 1 ac [] s.KB),(LI data)])
abbrev Ef (p:Pr) (s:Ps) (data:List Int):D:=(.agg [(dS p.name),(dS p.clock),(dL 13 jN bE p.KC),(dL 27 vu a7 p.KB),(dL 9 nq cU p.I),(dL 16 oZ dj p.KA),(LI s.KC),(dL 1 ac [] s.KB),(LI data)])
abbrev kx (s:Ps):List D:=[(LI s.KC),(dL 1 ac [] s.KB)]
abbrev mb (i:Nat):D:=(i6 ((i+1:Nat):Int))
abbrev AH:am:=(.var 165 [(dB false),.nils,.nils,.nils,.nils])
abbrev hU:D:=(.ptr 0 0 0 0)
set_option maxRecDepth 100000
abbrev Io (v w:Int):Ct:=⟨48,[(i6 v),(i6 w)],false,(dB (co v w))⟩
theorem xp (v w:Int) (h1:0≤w) (h2:w≤62):CC (Io v w):=by
 refine ai.vc (V:=TT 1 (CS (v≥0) (TT 2 ((True∧(decide (v≥0))=true)∧TT 2 ((True∧IntKind.u64.wrap w=w)∧(0≤w∧(Int.fdiv v (2^min w.toNat 64))=(v / 2^w.toNat))∧TT 4 (((v / 2^w.toNat)==0)=(co v w)∧True)))) (TT 2 ((True∧(decide (v≥0))=false)∧TT 8 (false=(co v w)∧True))))) (.s 1 (v≥0) (.w 1 [(2,.val (dB true)),(5,.val (dI .u64 w)),(6,.val (i6 (v / 2^w.toNat)))]<|.e) (.w 1 [(2,.val (dB false))]<|.e)) Try.func48 rfl rfl rfl (by kernel_rfl) ?_
 refine tt ⟨fun MV=>?_,fun MV=>?_⟩
 · refine tt ⟨(vT MV),tt ⟨⟨oK,CW rfl om om⟩,⟨⟨(by omega),(zW h1 h2)⟩,tt ⟨?_,oK⟩⟩⟩⟩
   first | exact Ac (by omega) h1 h2 | (unfold co;rw[KS (by omega)];rfl)
 · refine tt ⟨(vF MV),tt ⟨?_,oK⟩⟩
   first | exact Ac (by omega) h1 h2 | (unfold co;rw[KS (by omega)];rfl)
abbrev Jy (p:Pr) (s:Ps):Ct:=⟨27,[(AF p),(.agg (kx s))],false,(dB (bx p s))⟩
abbrev lm (p:Pr) (s:Ps):Lp (Nat):=il [2,3,5] 2 (fun (i:Nat)=>⟨[(2,hU),(3,(.ptr 1 0 0 0)),(5,(i6 (i:Int)))],[(ma p),(.var 88 (kx s))]⟩) (fun (i:Nat)=>i≤s.KC.length∧∀z,z<i→co (s.KC.getD z 0) (p.KC.getD z bE).w=true) (fun (i:Nat)=>s.KC.length-i)
abbrev ln (p:Pr) (s:Ps):Lp (Nat):=il [2,3,6] 2 (fun (j:Nat)=>⟨[(2,hU),(3,(.ptr 1 0 0 0)),(6,(i6 (j:Int)))],[(ma p),(.var 88 (kx s))]⟩) (fun (j:Nat)=>j≤s.KB.length∧∀z,z<j→gv p s z=true) (fun (j:Nat)=>s.KB.length-j)
abbrev lq (p:Pr) (s:Ps) (j:Nat):Lp (Nat):=il [2,3,6,7] 15 (fun (k:Nat)=>⟨[(2,hU),(3,(.ptr 1 0 0 0)),(6,(i6 (j:Int))),(7,(i6 (k:Int)))],[(ma p),(.var 88 (kx s)),.dead,.dead,.dead,.dead,.dead,.dead,.dead,.dead,.dead,.dead,.dead,.dead,.dead]⟩) (fun (k:Nat)=>k≤(s.KB.getD j []).length∧∀z,z<k→co ((s.KB.getD j []).getD z 0) (p.KB.getD j a7).w=true) (fun (k:Nat)=>(s.KB.getD j []).length-k)
theorem BX (p:Pr) (s:Ps) (hp:iG p):CC (Jy p s):=by
 have OS:=hp.rl
 have Qz:=hp.ml
 refine ai.vc (V:=TT 3 (CS ((s.KC.length:Int)=(p.KC.length:Int)) (TT 7 ((True∧(!decide ((s.KC.length:Int)=(p.KC.length:Int)))=false)∧TT 8 (CN ((s.KB.length:Int)=(p.KB.length:Int)) (TT 2 (false=(bx p s)∧True)) (TT 1 (GO (lm p s) 0 (∀i,(lm p s).inv i→TT 5 (CD ((i:Int)<(s.KC.length:Int)) (TT 3 (IX (i:Int) s.KC.length∧TT 4 (IX (i:Int) p.KC.length∧TT 2 (CC (Io (s.KC.getD i 0) ((p.KC.getD i bE).w))∧TT 1 (CB (!(co (s.KC.getD i 0) ((p.KC.getD i bE).w))) (TT 2 (false=(bx p s)∧True)) (TT 1 (W6 ((i+1:Nat):Int)∧TT 1 (AG (lm p s) i (i+1))))))))) (TT 1 (GO (ln p s) 0 (∀j,(ln p s).inv j→TT 5 (CD ((j:Int)<(s.KB.length:Int)) (TT 3 (IX (j:Int) s.KB.length∧TT 5 (IX (j:Int) p.KB.length∧TT 3 (CN ((((s.KB.getD j []).length:Nat):Int)=((p.KB.getD j a7).words)) (TT 2 (false=(bx p s)∧True)) (TT 1 (GO (lq p s j) 0 (∀k,(lq p s j).inv k→TT 4 (IX (j:Int) s.KB.length∧TT 3 (CD ((k:Int)<(((s.KB.getD j []).length:Nat):Int)) (TT 3 (IX (j:Int) s.KB.length∧TT 2 (IX (k:Int) ((s.KB.getD j []).length)∧TT 4 (IX (j:Int) p.KB.length∧TT 2 (CC (Io ((s.KB.getD j []).getD k 0) ((p.KB.getD j a7).w))∧TT 1 (CB (!(co ((s.KB.getD j []).getD k 0) ((p.KB.getD j a7).w))) (TT 2 (false=(bx p s)∧True)) (TT 1 (W6 ((k+1:Nat):Int)∧TT 1 (AG (lq p s j) k (k+1)))))))))) (TT 1 (W6 ((j+1:Nat):Int)∧TT 1 (AG (ln p s) j (j+1))))))))))))) (TT 2 (true=(bx p s)∧True))))))))))))) (TT 7 ((True∧(!decide ((s.KC.length:Int)=(p.KC.length:Int)))=true)∧TT 10 (false=(bx p s)∧True))))) (.s 1 ((s.KC.length:Int)=(p.KC.length:Int)) (.w 1 [(7,.val (dB false))]<|.b 23 (.e) (.l (lm p s) 0 (fun i=>.b 28 (.w 6 [(11,(Io (s.KC.getD i 0) ((p.KC.getD i bE).w)).O)]<|.b 43 (.e) (.w 5 [(1,.val (mb i))]<|.e)) (.l (ln p s) 0 (fun j=>.b 48 (.b 63 (.e) (.l (lq p s j) 0 (fun k=>.b 71 (.w 16 [(14,(Io ((s.KB.getD j []).getD k 0) ((p.KB.getD j a7).w)).O)]<|.b 89 (.e) (.w 15 [(1,.val (i6 ((k+1:Nat):Int)))]<|.e)) (.w 10 [(1,.val (i6 ((j+1:Nat):Int)))]<|.e)))) (.e)))))) (.w 1 [(7,.val (dB true))]<|.e)) Try.func27 rfl rfl rfl (by kernel_rfl) ?_
 refine tt ⟨fun MV=>?_,fun MV=>?_⟩
 · refine tt ⟨(nF MV),tt (cn (fun Qc=>?_) (fun Qc=>?_))⟩
   · refine tt ⟨?_,oK⟩
     first | exact(fU (by omega)).symm | exact(fV (by omega)).symm | exact(fW (i:=i) (by omega) (by simpa using OQ)).symm | exact(b9 (i:=j) (by omega) (kV (by omega))).symm | exact(b9 (i:=j) (by omega) (kW (j:=k) (by omega) (by simpa using PK))).symm | exact(fY (by omega) (by omega) (fun z hz=>h3 z (by omega)) (fun z hz=>h4 z (by omega))).symm
   · refine tt ⟨rfl,⟨by omega,fun z hz=>by omega⟩,?_⟩
     intro i J'
     obtain⟨hi,h3⟩:=J'
     refine tt (cd (fun NP=>?_) (fun NP=>?_))
     · have hrw:=aJ.1 (show aD (p.KC.getD i bE).w=true from (hp.rw i (by omega)).1)
       refine tt ⟨ix,tt ⟨ix,tt ⟨(xp (s.KC.getD i 0) ((p.KC.getD i bE).w) om om),tt ⟨fun OQ=>?_,fun OQ=>?_⟩⟩⟩⟩
       · refine tt ⟨?_,oK⟩
         first | exact(fU (by omega)).symm | exact(fV (by omega)).symm | exact(fW (i:=i) (by omega) (by simpa using OQ)).symm | exact(b9 (i:=j) (by omega) (kV (by omega))).symm | exact(b9 (i:=j) (by omega) (kW (j:=k) (by omega) (by simpa using PK))).symm | exact(fY (by omega) (by omega) (fun z hz=>h3 z (by omega)) (fun z hz=>h4 z (by omega))).symm
       · refine tt ⟨w6,tt ⟨(i+1),rfl,?_,(?_:s.KC.length-(i+1)<s.KC.length-i)⟩⟩
         · exact⟨by omega,bA h3 (by simpa using OQ)⟩
         · omega
     · refine tt ⟨rfl,⟨by omega,fun z hz=>by omega⟩,?_⟩
       intro j J'
       obtain⟨hj,h4⟩:=J'
       refine tt (cd (fun hc48=>?_) (fun hc48=>?_))
       · refine tt ⟨ix,tt ⟨ix,tt (cn (fun hc63=>?_) (fun hc63=>?_))⟩⟩
         · refine tt ⟨?_,oK⟩
           first | exact(fU (by omega)).symm | exact(fV (by omega)).symm | exact(fW (i:=i) (by omega) (by simpa using OQ)).symm | exact(b9 (i:=j) (by omega) (kV (by omega))).symm | exact(b9 (i:=j) (by omega) (kW (j:=k) (by omega) (by simpa using PK))).symm | exact(fY (by omega) (by omega) (fun z hz=>h3 z (by omega)) (fun z hz=>h4 z (by omega))).symm
         · have OT:1≤(p.KB.getD j a7).words∧(p.KB.getD j a7).words≤4:=(hp.mw j (by omega)).2.1
           refine tt ⟨rfl,⟨by omega,fun z hz=>by omega⟩,?_⟩
           intro k J'
           obtain⟨hk,h5⟩:=J'
           refine tt ⟨ix,tt (cd (fun Pn=>?_) (fun Pn=>?_))⟩
           · have hmww:=aJ.1 (show aD (p.KB.getD j a7).w=true from (hp.mw j (by omega)).1)
             refine tt ⟨ix,tt ⟨ix,tt ⟨ix,tt ⟨(xp ((s.KB.getD j []).getD k 0) ((p.KB.getD j a7).w) om om),tt ⟨fun PK=>?_,fun PK=>?_⟩⟩⟩⟩⟩
             · refine tt ⟨?_,oK⟩
               first | exact(fU (by omega)).symm | exact(fV (by omega)).symm | exact(fW (i:=i) (by omega) (by simpa using OQ)).symm | exact(b9 (i:=j) (by omega) (kV (by omega))).symm | exact(b9 (i:=j) (by omega) (kW (j:=k) (by omega) (by simpa using PK))).symm | exact(fY (by omega) (by omega) (fun z hz=>h3 z (by omega)) (fun z hz=>h4 z (by omega))).symm
             · refine tt ⟨w6,tt ⟨(k+1),rfl,?_,(?_:(s.KB.getD j []).length-(k+1)<(s.KB.getD j []).length-k)⟩⟩
               · exact⟨by omega,bA h5 (by simpa using PK)⟩
               · omega
           · refine tt ⟨w6,tt ⟨(j+1),rfl,?_,(?_:s.KB.length-(j+1)<s.KB.length-j)⟩⟩
             · exact⟨by omega,bA h4 (Fu (by omega) (fun z hz=>h5 z (by omega)))⟩
             · omega
       · refine tt ⟨?_,oK⟩
         first | exact(fU (by omega)).symm | exact(fV (by omega)).symm | exact(fW (i:=i) (by omega) (by simpa using OQ)).symm | exact(b9 (i:=j) (by omega) (kV (by omega))).symm | exact(b9 (i:=j) (by omega) (kW (j:=k) (by omega) (by simpa using PK))).symm | exact(fY (by omega) (by omega) (fun z hz=>h3 z (by omega)) (fun z hz=>h4 z (by omega))).symm
 · refine tt ⟨(nT MV),tt ⟨?_,oK⟩⟩
   first | exact(fU (by omega)).symm | exact(fV (by omega)).symm | exact(fW (i:=i) (by omega) (by simpa using OQ)).symm | exact(b9 (i:=j) (by omega) (kV (by omega))).symm | exact(b9 (i:=j) (by omega) (kW (j:=k) (by omega) (by simpa using PK))).symm | exact(fY (by omega) (by omega) (fun z hz=>h3 z (by omega)) (fun z hz=>h4 z (by omega))).symm
abbrev Jz (p:Pr):Ct:=⟨54,[(AF p)],true,(.agg [(LI ((aI p).KC)),(dL 1 ac [] ((aI p).KB))])⟩
abbrev lr (p:Pr):Lp (Nat):=il [1,2,3,4] 4 (fun (i:Nat)=>⟨[(1,hU),(2,(.ptr 1 0 0 0)),(3,(.ptr 2 0 0 0)),(4,(i6 (i:Int)))],[(ma p),(.var 88 [.nils,.nils]),(.var 88 [(.own 3),.nils]),(.arr 3 1 (ab .i64) 0 (tab (fun z=>(p.KC.getD z bE).init) i))]⟩) (fun (i:Nat)=>i≤p.KC.length) (fun (i:Nat)=>p.KC.length-i)
abbrev lu (p:Pr) (i:Nat):Lp (Nat):=il [1,2,3,5] 5 (fun (j:Nat)=>⟨[(1,hU),(2,(.ptr 1 0 0 0)),(3,(.ptr 2 0 0 0)),(5,(i6 (j:Int)))],[(ma p),(.var 88 [.nils,.nils]),(.var 88 [(.own 3),(.own 4)]),(.arr 3 1 (ab .i64) 0 (tab (fun z=>(p.KC.getD z bE).init) i)),(.arr 38 1 ac [] (tab (fun z=>List.replicate (p.KB.getD z a7).words.toNat (0:Int)) j))]⟩) (fun (j:Nat)=>j≤p.KB.length) (fun (j:Nat)=>p.KB.length-j)
theorem BZ (p:Pr) (hp:iG p):CC (Jz p):=by
 have OS:=hp.rl
 have Qz:=hp.ml
 refine ai.vc (V:=TT 6 (GO (lr p) 0 (∀i,(lr p).inv i→TT 5 (CD ((i:Int)<(p.KC.length:Int)) (TT 5 (IX (i:Int) p.KC.length∧TT 2 (an [[(i6 ((p.KC.getD i bE).init))]] ([(p.KC.getD i bE).init].map (ab .i64))∧((tab (fun z=>(p.KC.getD z bE).init) i).length+([(p.KC.getD i bE).init].map (ab .i64)).length≤137438953472∧(tab (fun z=>(p.KC.getD z bE).init) i).map (ab .i64)++[(p.KC.getD i bE).init].map (ab .i64)=(tab (fun z=>(p.KC.getD z bE).init) (i+1)).map (ab .i64))∧TT 3 (W6 ((i+1:Nat):Int)∧TT 1 (AG (lr p) i (i+1)))))) (TT 1 (GO (lu p i) 0 (∀j,(lu p i).inv j→TT 5 (CD ((j:Int)<(p.KB.length:Int)) (TT 5 (IX (j:Int) p.KB.length∧TT 2 ((((0:Int)≤(p.KB.getD j a7).words∧(p.KB.getD j a7).words≤(p.KB.getD j a7).words∧(p.KB.getD j a7).words≤137438953472)∧(List.replicate (p.KB.getD j a7).words.toNat (0:Int)).length=((p.KB.getD j a7).words).toNat∧∀x∈(List.replicate (p.KB.getD j a7).words.toNat (0:Int)),dG [(i6 0)] ((ab .i64) x))∧an [[(LI (List.replicate (p.KB.getD j a7).words.toNat (0:Int)))]] ([List.replicate (p.KB.getD j a7).words.toNat (0:Int)].map ac)∧((tab (fun z=>List.replicate (p.KB.getD z a7).words.toNat (0:Int)) j).length+([List.replicate (p.KB.getD j a7).words.toNat (0:Int)].map ac).length≤137438953472∧(tab (fun z=>List.replicate (p.KB.getD z a7).words.toNat (0:Int)) j).map ac++[List.replicate (p.KB.getD j a7).words.toNat (0:Int)].map ac=(tab (fun z=>List.replicate (p.KB.getD z a7).words.toNat (0:Int)) (j+1)).map ac)∧TT 3 (W6 ((j+1:Nat):Int)∧TT 1 (AG (lu p i) j (j+1)))))) (TT 3 ((tab (fun z=>(p.KC.getD z bE).init) i).map (ab .i64)=((aI p).KC).map (ab .i64)∧(tab (fun z=>List.replicate (p.KB.getD z a7).words.toNat (0:Int)) j).map ac=((aI p).KB).map ac∧True)))))))))) (.g 2 2 0 3 1 (ab .i64) 0<|.l (lr p) 0 (fun i=>.b 11 (.w 5 [(8,.box 3 1 (ab .i64) 0 [(p.KC.getD i bE).init]),(9,.box 3 1 (ab .i64) 0 (tab (fun z=>(p.KC.getD z bE).init) (i+1)))]<|.w 4 [(1,.val (mb i))]<|.e) (.g 6 2 1 38 1 ac []<|.l (lu p i) 0 (fun j=>.b 29 (.w 9 [(8,.frz 3 1 (ab .i64) 0 (List.replicate (p.KB.getD j a7).words.toNat (0:Int))),(9,.box 38 1 ac [] [List.replicate (p.KB.getD j a7).words.toNat (0:Int)]),(10,.box 38 1 ac [] (tab (fun z=>List.replicate (p.KB.getD z a7).words.toNat (0:Int)) (j+1)))]<|.w 8 [(1,.val (i6 ((j+1:Nat):Int)))]<|.e) (.e))))) Try.func54 rfl rfl rfl (by kernel_rfl) ?_
 refine tt ⟨rfl,(by omega),?_⟩
 intro i J'
 have hi:=J'
 refine tt (cd (fun hc11=>?_) (fun hc11=>?_))
 · refine tt ⟨ix,tt ⟨⟨⟨rfl,oK⟩,oK⟩,⟨(hJ (f:=fun z=>(p.KC.getD z bE).init) (by omega)),tt ⟨w6,tt ⟨(i+1),rfl,(?_:(i+1)≤p.KC.length),(?_:p.KC.length-(i+1)<p.KC.length-i)⟩⟩⟩⟩⟩
   · omega
   · omega
 · refine tt ⟨rfl,(by omega),?_⟩
   intro j J'
   have hj:=J'
   refine tt (cd (fun Qf=>?_) (fun Qf=>?_))
   · have OT:1≤(p.KB.getD j a7).words∧(p.KB.getD j a7).words≤4:=(hp.mw j (by omega)).2.1
     refine tt ⟨ix,tt ⟨⟨by omega,Ll,fun x hx=>by rw[Ln hx];exact⟨rfl,oK⟩⟩,⟨⟨⟨rfl,oK⟩,oK⟩,⟨(hJ (f:=fun z=>List.replicate (p.KB.getD z a7).words.toNat (0:Int)) (by omega)),tt ⟨w6,tt ⟨(j+1),rfl,(?_:(j+1)≤p.KB.length),(?_:p.KB.length-(j+1)<p.KB.length-j)⟩⟩⟩⟩⟩⟩
     · omega
     · omega
   · refine tt ⟨(congrArg _ (?_:(tab (fun z=>(p.KC.getD z bE).init) i)=((aI p).KC))),(congrArg _ (?_:(tab (fun z=>List.replicate (p.KB.getD z a7).words.toNat (0:Int)) j)=((aI p).KB))),oK⟩
     · rw[ny,show i=p.KC.length by omega]
     · rw[ny,show j=p.KB.length by omega]
abbrev xq (p:Pr) (s:Ps) (data:List Int) (n:Nat) (e:Ex):Ct:=⟨81,[(Ef p s data),(.agg [(i6 e.op),(dS e.name),(i6 e.k.n),(dS e.k.p),(i6 e.w.n),(dS e.w.p),(dL 7 (eA n) dE e.args)])],false,(.agg [(i6 ((bu p s data e).1)),(i6 ((bu p s data e).2))])⟩
abbrev qO (p:Pr) (s:Ps) (data:List Int) (n:Nat) (e:Ex):Lp (Nat):=il [2,3,4,7,8,9] 5 (fun (i:Nat)=>⟨[(2,hU),(3,(.ptr 1 0 0 0)),(4,(.ptr 2 0 0 0)),(7,(.own 3)),(8,(.own 4)),(9,(i6 (i:Int)))],[(Ee p s data),(.var 127 [(i6 e.op),(dS e.name),(i6 e.k.n),(dS e.k.p),(i6 e.w.n),(dS e.w.p),(dL 7 (eA (n+1)) dE e.args)]),(.var 189 [(i6 0),(i6 0)]),(.arr 3 1 (ab .i64) 0 (gR p s data (e.args.take i))),(.arr 3 1 (ab .i64) 0 (ee p s data (e.args.take i)))]⟩) (fun (i:Nat)=>i≤e.args.length) (fun (i:Nat)=>e.args.length-i)
theorem AI (p:Pr) (s:Ps) (data:List Int) (n:Nat) (e:Ex) (c:Sc) (v:Int) (ho:te c p s data) (ht:dR c e=some v) (OT:∀i,i<p.KB.length→((s.KB.getD i []).length:Int)=(p.KB.getD i a7).words) (ih:∀a∈e.args,CC (xq p s data n a)):CC (xq p s data (n+1) e):=by
 have NA:=GS ht
 refine ai.vc (V:=TT 7 (CD (e.op=16) (TT 6 (IX e.k.n s.KC.length∧TT 7 (IX e.k.n p.KC.length∧TT 5 ((((s.KC.getD e.k.n.toNat 0)=((bu p s data e).1)∧((p.KC.getD e.k.n.toNat bE).w)=((bu p s data e).2)∧True))∧((True∧True∧True)))))) (TT 2 (CD (e.op=17) (TT 6 (IX e.k.n p.KB.length∧TT 6 (IX 0 e.args.length∧TT 1 (CC (xq p s data n (e.args.getD 0 dE))∧TT 8 (IX e.k.n s.KB.length∧TT 5 ((((p.KB.getD e.k.n.toNat a7).words)≠0∧(Int.tmod ((bu p s data (e.args.getD 0 dE)).1) ((p.KB.getD e.k.n.toNat a7).words))=(Int.tmod (bu p s data (e.args.getD 0 dE)).1 ((s.KB.getD e.k.n.toNat []).length:Int)))∧IX (Int.tmod (bu p s data (e.args.getD 0 dE)).1 ((s.KB.getD e.k.n.toNat []).length:Int)) ((s.KB.getD e.k.n.toNat []).length)∧TT 6 (((((s.KB.getD e.k.n.toNat []).getD ((Int.tmod (bu p s data (e.args.getD 0 dE)).1 ((s.KB.getD e.k.n.toNat []).length:Int)).toNat) 0)=((bu p s data e).1)∧((p.KB.getD e.k.n.toNat a7).w)=((bu p s data e).2)∧True))∧((True∧True∧True))))))))) (TT 2 (CD (e.op=18) (TT 5 (IX e.k.n data.length∧TT 7 (IX e.k.n p.I.length∧TT 5 ((((data.getD e.k.n.toNat 0)=((bu p s data e).1)∧((p.I.getD e.k.n.toNat cU).w)=((bu p s data e).2)∧True))∧((True∧True∧True)))))) (an [] ((gR p s data (e.args.take 0)).map (ab .i64))∧an [] ((ee p s data (e.args.take 0)).map (ab .i64))∧TT 3 (GO (qO p s data n e) 0 (∀i,(qO p s data n e).inv i→TT 5 (CD ((i:Int)<(e.args.length:Int)) (TT 4 (IX (i:Int) e.args.length∧TT 1 (CC (xq p s data n (e.args.getD i dE))∧TT 5 (an [[(i6 ((bu p s data (e.args.getD i dE)).1))]] ([(bu p s data (e.args.getD i dE)).1].map (ab .i64))∧((gR p s data (e.args.take i)).length+([(bu p s data (e.args.getD i dE)).1].map (ab .i64)).length≤137438953472∧(gR p s data (e.args.take i)).map (ab .i64)++[(bu p s data (e.args.getD i dE)).1].map (ab .i64)=(gR p s data (e.args.take (i+1))).map (ab .i64))∧TT 4 (an [[(i6 ((bu p s data (e.args.getD i dE)).2))]] ([(bu p s data (e.args.getD i dE)).2].map (ab .i64))∧((ee p s data (e.args.take i)).length+([(bu p s data (e.args.getD i dE)).2].map (ab .i64)).length≤137438953472∧(ee p s data (e.args.take i)).map (ab .i64)++[(bu p s data (e.args.getD i dE)).2].map (ab .i64)=(ee p s data (e.args.take (i+1))).map (ab .i64))∧TT 2 (W6 ((i+1:Nat):Int)∧TT 1 (AG (qO p s data n e) i (i+1)))))))) (TT 10 (CK (Il e.op (ee p s data (e.args.take i)) e.k.n e.w.n)∧TT 12 (an [[(i6 e.k.n)],[(i6 e.w.n)]] ([e.k.n,e.w.n].map (ab .i64))∧TT 1 (CK (Jx e.op (ee p s data (e.args.take i)) (gR p s data (e.args.take i)) [e.k.n,e.w.n])∧TT 9 ((((eb e.op (ee p s data (e.args.take i)) (gR p s data (e.args.take i)) [e.k.n,e.w.n])=((bu p s data e).1)∧(b7 e.op (ee p s data (e.args.take i)) e.k.n e.w.n)=((bu p s data e).2)∧True))∧((True∧True∧True))))))))))))))))) (.b 15 (.e) (.b 35 (.w 6 [(5,(xq p s data n (e.args.getD 0 dE)).O)]<|.w 7 [(12,.val (i6 (Int.tmod (bu p s data (e.args.getD 0 dE)).1 ((s.KB.getD e.k.n.toNat []).length:Int))))]<|.e) (.b 69 (.e) (.w 10 [(0,.box 3 1 (ab .i64) 0 (gR p s data (e.args.take 0))),(1,.box 3 1 (ab .i64) 0 (ee p s data (e.args.take 0)))]<|.l (qO p s data n e) 0 (fun i=>.b 94 (.w 14 [(6,(xq p s data n (e.args.getD i dE)).O)]<|.w 15 [(3,.box 3 1 (ab .i64) 0 [(bu p s data (e.args.getD i dE)).1]),(4,.box 3 1 (ab .i64) 0 (gR p s data (e.args.take (i+1))))]<|.w 16 [(3,.box 3 1 (ab .i64) 0 [(bu p s data (e.args.getD i dE)).2]),(4,.box 3 1 (ab .i64) 0 (ee p s data (e.args.take (i+1))))]<|.w 13 [(1,.val (mb i))]<|.e) (.w 17 [(10,(Il e.op (ee p s data (e.args.take i)) e.k.n e.w.n).O')]<|.w 18 [(10,.box 3 1 (ab .i64) 0 [e.k.n,e.w.n]),(12,(Jx e.op (ee p s data (e.args.take i)) (gR p s data (e.args.take i)) [e.k.n,e.w.n]).O')]<|.e)))))) Try.func81 rfl rfl rfl (by kernel_rfl) ?_
 refine tt (cd (fun Ny=>?_) (fun Ny=>?_))
 · obtain⟨h1,h2,h3⟩:=GT ho ht Ny
   refine tt ⟨ix,tt ⟨ix,tt ⟨⟨?_,?_,oK⟩,⟨oK,oK,oK⟩⟩⟩⟩
   all_goals (first | exact(kh Ny).1.symm | exact(kh Ny).2.symm | exact(hC NQ).1.symm | exact(hC NQ).2.symm | exact(hD Nz MZ).1.symm | exact(hD Nz MZ).2.symm | (rw[O2,LV];exact(pF Ny NQ Nz).1.symm) | (rw[O2,LV];exact(pF Ny NQ Nz).2.symm))
 · refine tt (cd (fun Nz=>?_) (fun Nz=>?_))
   · obtain⟨h1,h2,h3,MZ,h4,h5,h6⟩:=Fl ho ht Nz
     have RO:(p.KB.getD e.k.n.toNat a7).words=((s.KB.getD e.k.n.toNat []).length:Int):=(OT _ (by omega)).symm
     have hz:(s.KB.getD e.k.n.toNat []).length≠0:=by omega
     refine tt ⟨ix,tt ⟨ix,tt ⟨(ih _ (kT (by omega))),tt ⟨ix,tt ⟨⟨(by omega),(by rw[RO])⟩,⟨ix,tt ⟨⟨?_,?_,oK⟩,⟨oK,oK,oK⟩⟩⟩⟩⟩⟩⟩⟩
     all_goals (first | exact(kh Ny).1.symm | exact(kh Ny).2.symm | exact(hC NQ).1.symm | exact(hC NQ).2.symm | exact(hD Nz MZ).1.symm | exact(hD Nz MZ).2.symm | (rw[O2,LV];exact(pF Ny NQ Nz).1.symm) | (rw[O2,LV];exact(pF Ny NQ Nz).2.symm))
   · refine tt (cd (fun NQ=>?_) (fun NQ=>?_))
     · obtain⟨h1,h2,h3⟩:=Fk ho ht NQ
       refine tt ⟨ix,tt ⟨ix,tt ⟨⟨?_,?_,oK⟩,⟨oK,oK,oK⟩⟩⟩⟩
       all_goals (first | exact(kh Ny).1.symm | exact(kh Ny).2.symm | exact(hC NQ).1.symm | exact(hC NQ).2.symm | exact(hD Nz MZ).1.symm | exact(hD Nz MZ).2.symm | (rw[O2,LV];exact(pF Ny NQ Nz).1.symm) | (rw[O2,LV];exact(pF Ny NQ Nz).2.symm))
     · refine⟨oK,⟨oK,tt ⟨rfl,(by omega),?_⟩⟩⟩
       intro i J'
       have hi:=J'
       refine tt (cd (fun hc94=>?_) (fun hc94=>?_))
       · refine tt ⟨ix,tt ⟨(ih _ (kT (by omega))),tt ⟨⟨⟨rfl,oK⟩,oK⟩,⟨⟨by simp only[KM,K1,K6];rw[wW,KV];omega,by rw[Bx (by omega),K8]⟩,tt ⟨⟨⟨rfl,oK⟩,oK⟩,⟨⟨by simp only[KM,K1,K6];rw[wX,KV];omega,by rw[Bz (by omega),K8]⟩,tt ⟨w6,tt ⟨(i+1),rfl,(?_:(i+1)≤e.args.length),(?_:e.args.length-(i+1)<e.args.length-i)⟩⟩⟩⟩⟩⟩⟩⟩
         · omega
         · omega
       · have O2:i=e.args.length:=by omega
         have hev:=DD ho ht Ny Nz NQ
         have hev1:gQ e.op (ee p s data (e.args.take i)) e.k.n e.w.n=true:=by rw[O2,LV];exact hev.1
         have hev2:Bs (ee p s data (e.args.take i)) (gR p s data (e.args.take i))=true:=by rw[O2,LV];exact hev.2
         refine tt ⟨⟨fo _ rfl,(sJ e.op (ee p s data (e.args.take i)) e.k.n e.w.n hev1)⟩,tt ⟨⟨⟨rfl,oK⟩,⟨rfl,oK⟩,oK⟩,tt ⟨⟨fo _ rfl,(yY e.op (ee p s data (e.args.take i)) (gR p s data (e.args.take i)) [e.k.n,e.w.n] hev1 (by rw[wW,wX]) hev2 rfl)⟩,tt ⟨⟨?_,?_,oK⟩,⟨oK,oK,oK⟩⟩⟩⟩⟩
         all_goals (first | exact(kh Ny).1.symm | exact(kh Ny).2.symm | exact(hC NQ).1.symm | exact(hC NQ).2.symm | exact(hD Nz MZ).1.symm | exact(hD Nz MZ).2.symm | (rw[O2,LV];exact(pF Ny NQ Nz).1.symm) | (rw[O2,LV];exact(pF Ny NQ Nz).2.symm))
theorem iO {c:Sc} {p:Pr} {s:Ps} {data:List Int} (ho:te c p s data) (OT:∀i,i<p.KB.length→((s.KB.getD i []).length:Int)=(p.KB.getD i a7).words):∀(n:Nat) (e:Ex) (v:Int),dR c e=some v→eL e≤n+1→CC (xq p s data n e)
  | 0,e,v,ht,hd=>by
    have ha:e.args=[]:=by
      cases hl:e.args with
      | nil=>rfl
      | cons a r =>
        have:=z6 (e:=e) (a:=a) (by rw[hl];simp)
        cases a with | mk op name k w args=>rw[eL]at this;omega
    have h:=AI p s data 0 e c v ho ht OT (fun a h=>by rw[ha]at h;cases h)
    refine ai.recast ?_ h
    refine⟨wU _ rfl,⟨rfl,rfl,rfl,rfl,rfl,rfl,?_,oK⟩,oK⟩
    show e.args.map (eA 0)=e.args.map (eA 1)
    rw[ha];rfl
  | n+1,e,v,ht,hd=>AI p s data n e c v ho ht OT (fun a h=>by
    obtain⟨w,hw⟩:=GR ht h
    exact iO ho OT n a w hw (by have:=z6 h;omega))
abbrev yZ (p:Pr) (s:Ps) (data:List Int) (e:Ex):Ct:=⟨79,[(Ef p s data),(.agg [(i6 e.op),(dS e.name),(i6 e.k.n),(dS e.k.p),(i6 e.w.n),(dS e.w.p),(dL 7 (eA 2) dE e.args)])],false,(dB (dV p s data e))⟩
theorem sK (p:Pr) (s:Ps) (data:List Int) (e:Ex) {c:Sc} {v:Int} (ho:te c p s data) (OT:∀i,i<p.KB.length→((s.KB.getD i []).length:Int)=(p.KB.getD i a7).words) (ht:dR c e=some v) (hd:eL e≤3):CC (yZ p s data e):=by
 refine ai.vc (V:=TT 5 (CC (xq p s data 2 e)∧TT 4 ((((bu p s data e).1)==1)=(dV p s data e)∧True))) (.w 1 [(2,(xq p s data 2 e).O)]<|.e) Try.func79 rfl rfl rfl (by kernel_rfl) ?_
 refine tt ⟨(iO ho OT 2 e _ ht hd),tt ⟨?_,oK⟩⟩
 rfl
abbrev JA (p:Pr) (s:Ps) (hs:List Hd) (rs:List Bool):Ct:=⟨78,[(AF p),(.agg (kx s)),(.agg [(dL 2 gq cz hs),(LB rs)])],true,(.agg [(dS p.name),(dS p.clock),(dL 13 jN bE p.KC),(dL 27 vu a7 p.KB),(dL 9 nq cU p.I),(dL 16 oZ dj p.KA),(LI s.KC),(dL 1 ac [] s.KB),(LI (bG p s hs))])⟩
abbrev eS (p:Pr) (s:Ps) (hs:List Hd) (rs:List Bool):Lp (Nat×List Int):=zS [3,5,6,7,8,9] 20 (fun (i:Nat) (OH:List Int)=>⟨[(3,hU),(5,(.ptr 2 0 0 0)),(6,(.ptr 3 0 0 0)),(7,(.ptr 11 0 0 0)),(8,(.ptr 19 0 0 0)),(9,(i6 (i:Int)))],[(ma p),(.var 88 (kx s)),(.var 179 [(dL 2 gq cz hs),(LB rs)]),(.var 184 [(dS e0),(dS e0),.nils,.nils,.nils,.nils,.nils,.nils,.nils]),.dead,.dead,.dead,.dead,.dead,.dead,.dead,(.var 184 [(dS p.name),(dS p.clock),(dL 13 jN bE p.KC),(dL 27 vu a7 p.KB),(dL 9 nq cU p.I),(dL 16 oZ dj p.KA),(LI s.KC),(dL 1 ac [] s.KB),(LI (l7 p))]),.dead,.dead,.dead,.dead,.dead,(.arr 3 1 (ab .i64) 0 OH),.dead,(.var 184 [(dS p.name),(dS p.clock),(dL 13 jN bE p.KC),(dL 27 vu a7 p.KB),(dL 9 nq cU p.I),(dL 16 oZ dj p.KA),(LI s.KC),(dL 1 ac [] s.KB),(.own 17)])]⟩) (fun (i:Nat) (OH:List Int)=>i≤p.I.length∧OH=mJ (BD p s hs) (l7 p) i) (fun (i:Nat) (OH:List Int)=>p.I.length-i)
theorem y4 (p:Pr) (s:Ps) (hs:List Hd) (rs:List Bool) (hp:iG p) (PC:nx p s) (hh:BG p hs):CC (JA p s hs rs):=by
 have ht1:=hp.tl
 have ht2:=hp.pl
 have hhl:=hh.l
 have OT:=PC.mn
 have ho:=gw hp PC (H0 hp)
 refine ai.vc (V:=TT 9 ((((0:Int)≤(p.I.length:Int)∧(p.I.length:Int)≤(p.I.length:Int)∧(p.I.length:Int)≤137438953472)∧(l7 p).length=p.I.length∧∀x∈(l7 p),dG [(i6 0)] ((ab .i64) x))∧TT 8 ((((0:Int)≤(p.I.length:Int)∧(p.I.length:Int)≤(p.I.length:Int)∧(p.I.length:Int)≤137438953472)∧(l7 p).length=p.I.length∧∀x∈(l7 p),dG [(i6 0)] ((ab .i64) x))∧TT 4 (GO (eS p s hs rs) (0,l7 p) (∀i OH,(eS p s hs rs).inv (i,OH)→TT 5 (CD ((i:Int)<(p.I.length:Int)) (CS ((dV p s (l7 p) ((p.I.getD i cU).when))=true) (TT 4 (IX (i:Int) p.I.length∧TT 2 (CC (yZ p s (l7 p) ((p.I.getD i cU).when))∧(True∧(dV p s (l7 p) ((p.I.getD i cU).when))=true)∧TT 3 (IX (i:Int) hs.length∧TT 3 (CB ((hs.getD i cz).has) (TT 6 (IX (i:Int) hs.length∧TT 2 (IX (i:Int) OH.length∧(i<OH.length∧(OH.map (ab .i64)).set i (((ab .i64) (OH.getD i 0)).take 0++[(.int .i64 ((hs.getD i cz).v))]++((ab .i64) (OH.getD i 0)).drop (0+1))=(OH.set i ((hs.getD i cz).v)).map (ab .i64))∧TT 1 (W6 ((i+1:Nat):Int)∧TT 1 (AG (eS p s hs rs) (i,OH) (i+1,OH.set i ((hs.getD i cz).v))))))) (TT 1 (W6 ((i+1:Nat):Int)∧TT 1 (AG (eS p s hs rs) (i,OH) (i+1,OH))))))))) (TT 4 (IX (i:Int) p.I.length∧TT 2 (CC (yZ p s (l7 p) ((p.I.getD i cU).when))∧(True∧(dV p s (l7 p) ((p.I.getD i cU).when))=false)∧TT 2 (W6 ((i+1:Nat):Int)∧TT 1 (AG (eS p s hs rs) (i,OH) (i+1,OH))))))) (TT 3 (p.name=p.name∧p.clock=p.clock∧p.KC.map jN=p.KC.map jN∧p.KB.map vu=p.KB.map vu∧p.I.map nq=p.I.map nq∧p.KA.map oZ=p.KA.map oZ∧s.KC.map (ab .i64)=s.KC.map (ab .i64)∧s.KB.map ac=s.KB.map ac∧OH.map (ab .i64)=(bG p s hs).map (ab .i64)∧True)))))))) (.w 1 [(5,.frz 3 1 (ab .i64) 0 (l7 p))]<|.w 2 [(5,.box 3 1 (ab .i64) 0 (l7 p))]<|.l (eS p s hs rs) (0,l7 p) (fun ⟨i,OH⟩=>.b 28 (.s 6 ((dV p s (l7 p) ((p.I.getD i cU).when))=true) (.w 6 [(7,(yZ p s (l7 p) ((p.I.getD i cU).when)).O),(8,.val (dB true))]<|.b 46 (.w 7 [(10,.box 3 1 (ab .i64) 0 (OH.set i ((hs.getD i cz).v)))]<|.w 5 [(1,.val (mb i))]<|.e) (.w 5 [(1,.val (mb i))]<|.e)) (.w 6 [(7,(yZ p s (l7 p) ((p.I.getD i cU).when)).O),(8,.val (dB false))]<|.w 5 [(1,.val (mb i))]<|.e)) (.e))) Try.func78 rfl rfl rfl (by kernel_rfl) ?_
 refine tt ⟨⟨by omega,kq,fun x hx=>by rw[Ln hx];exact⟨rfl,oK⟩⟩,tt ⟨⟨by omega,kq,fun x hx=>by rw[Ln hx];exact⟨rfl,oK⟩⟩,tt ⟨rfl,⟨by omega,rfl⟩,?_⟩⟩⟩
 intro i OH J'
 obtain⟨hi,RB⟩:=J'
 have hdl:OH.length=p.I.length:=by rw[RB,kn (by rw[kq];exact hi),kq]
 refine tt (cd (fun NP=>?_) (fun NP=>?_))
 · have RP:=vz hp (show i<p.I.length by omega)
   refine⟨fun MV=>?_,fun MV=>?_⟩
   · refine tt ⟨ix,tt ⟨(sK p s (l7 p) ((p.I.getD i cU).when) ho OT RP.1 RP.2),⟨(bT MV),tt ⟨ix,tt ⟨fun N4=>?_,fun N4=>?_⟩⟩⟩⟩⟩
     · refine tt ⟨ix,tt ⟨ix,⟨⟨om,by simp only[Mb];rfl⟩,tt ⟨w6,tt ⟨(i+1,OH.set i ((hs.getD i cz).v)),rfl,?_,(?_:p.I.length-(i+1)<p.I.length-i)⟩⟩⟩⟩⟩
       · exact⟨by omega,by rw[RB];exact ko (by rw[kq];omega) (Fv MV N4)⟩
       · omega
     · refine tt ⟨w6,tt ⟨(i+1,OH),rfl,?_,(?_:p.I.length-(i+1)<p.I.length-i)⟩⟩
       · exact⟨by omega,by rw[RB];exact iH (by rw[kq];omega) (by first | exact Ad (by assumption) | exact Ae (by rw[N4];simp))⟩
       · omega
   · refine tt ⟨ix,tt ⟨(sK p s (l7 p) ((p.I.getD i cU).when) ho OT RP.1 RP.2),⟨(bF MV),tt ⟨w6,tt ⟨(i+1,OH),rfl,?_,(?_:p.I.length-(i+1)<p.I.length-i)⟩⟩⟩⟩⟩
     · exact⟨by omega,by rw[RB];exact iH (by rw[kq];omega) (by first | exact Ad (by assumption) | exact Ae (by rw[N4];simp))⟩
     · omega
 · refine tt ⟨rfl,rfl,rfl,rfl,rfl,rfl,rfl,rfl,(congrArg _ (?_:OH=(bG p s hs))),oK⟩
   rw[RB,show i=p.I.length by omega,iI (by rw[kq];exact KI _)];rfl
abbrev JB (p:Pr) (s:Ps) (data:List Int):Ct:=⟨80,[(Ef p s data)],true,(.agg [(LI ((dm p s data).KC)),(dL 1 ac [] ((dm p s data).KB))])⟩
abbrev n9 (p:Pr) (s:Ps) (data:List Int):Lp (Nat):=il [1,2,3,4] 4 (fun (i:Nat)=>⟨[(1,hU),(2,(.ptr 1 0 0 0)),(3,(.ptr 2 0 0 0)),(4,(i6 (i:Int)))],[(Ee p s data),(.var 88 [.nils,.nils]),(.var 88 [(.own 3),.nils]),(.arr 3 1 (ab .i64) 0 (tab (fun z=>(bu p s data (p.KC.getD z bE).next).1) i))]⟩) (fun (i:Nat)=>i≤p.KC.length) (fun (i:Nat)=>p.KC.length-i)
abbrev ky (p:Pr) (s:Ps) (data:List Int) (i:Nat):Lp (Nat):=il [1,2,3,5] 5 (fun (j:Nat)=>⟨[(1,hU),(2,(.ptr 1 0 0 0)),(3,(.ptr 2 0 0 0)),(5,(i6 (j:Int)))],[(Ee p s data),(.var 88 [.nils,.nils]),(.var 88 [(.own 3),(.own 4)]),(.arr 3 1 (ab .i64) 0 (tab (fun z=>(bu p s data (p.KC.getD z bE).next).1) i)),(.arr 38 1 ac [] (tab (xP p s data) j))]⟩) (fun (j:Nat)=>j≤p.KB.length) (fun (j:Nat)=>p.KB.length-j)
theorem Eg (p:Pr) (s:Ps) (data:List Int) (hp:iG p) (PC:nx p s) (hda:BF p data):CC (JB p s data):=by
 have OS:=hp.rl
 have Qz:=hp.ml
 have OT:=PC.mn
 have ho:=gw hp PC hda
 have hsl:=PC.ml
 refine ai.vc (V:=TT 6 (GO (n9 p s data) 0 (∀i,(n9 p s data).inv i→TT 6 (CD ((i:Int)<(p.KC.length:Int)) (TT 7 (IX (i:Int) p.KC.length∧TT 2 (CC (xq p s data 2 ((p.KC.getD i bE).next))∧TT 1 (an [[(i6 ((bu p s data ((p.KC.getD i bE).next)).1))]] ([(bu p s data ((p.KC.getD i bE).next)).1].map (ab .i64))∧((tab (fun z=>(bu p s data (p.KC.getD z bE).next).1) i).length+([(bu p s data ((p.KC.getD i bE).next)).1].map (ab .i64)).length≤137438953472∧(tab (fun z=>(bu p s data (p.KC.getD z bE).next).1) i).map (ab .i64)++[(bu p s data ((p.KC.getD i bE).next)).1].map (ab .i64)=(tab (fun z=>(bu p s data (p.KC.getD z bE).next).1) (i+1)).map (ab .i64))∧TT 3 (W6 ((i+1:Nat):Int)∧TT 1 (AG (n9 p s data) i (i+1))))))) (TT 1 (GO (ky p s data i) 0 (∀j,(ky p s data i).inv j→TT 6 (CD ((j:Int)<(p.KB.length:Int)) (TT 4 (IX (j:Int) p.KB.length∧TT 3 (an [] (([]:List Int).map (ab .i64))∧TT 4 (IX (j:Int) s.KB.length∧TT 1 ((([]:List Int).length+((s.KB.getD j []).map (ab .i64)).length≤137438953472∧([]:List Int).map (ab .i64)++(s.KB.getD j []).map (ab .i64)=(s.KB.getD j []).map (ab .i64))∧TT 4 (CC (yZ p s data ((p.KB.getD j a7).enable))∧CB (dV p s data ((p.KB.getD j a7).enable)) (TT 4 (CC (xq p s data 2 ((p.KB.getD j a7).addr))∧TT 3 (((p.KB.getD j a7).words)≠0∧TT 3 (CC (xq p s data 2 ((p.KB.getD j a7).data))∧TT 1 (IX (Int.tmod ((bu p s data ((p.KB.getD j a7).addr)).1) ((p.KB.getD j a7).words)) ((s.KB.getD j []).length)∧((Int.tmod ((bu p s data ((p.KB.getD j a7).addr)).1) ((p.KB.getD j a7).words)).toNat<(s.KB.getD j []).length∧((s.KB.getD j []).map (ab .i64)).set ((Int.tmod ((bu p s data ((p.KB.getD j a7).addr)).1) ((p.KB.getD j a7).words)).toNat) (((ab .i64) ((s.KB.getD j []).getD ((Int.tmod ((bu p s data ((p.KB.getD j a7).addr)).1) ((p.KB.getD j a7).words)).toNat) 0)).take 0++[(.int .i64 ((bu p s data ((p.KB.getD j a7).data)).1))]++((ab .i64) ((s.KB.getD j []).getD ((Int.tmod ((bu p s data ((p.KB.getD j a7).addr)).1) ((p.KB.getD j a7).words)).toNat) 0)).drop (0+1))=((s.KB.getD j []).set ((Int.tmod ((bu p s data ((p.KB.getD j a7).addr)).1) ((p.KB.getD j a7).words)).toNat) ((bu p s data ((p.KB.getD j a7).data)).1)).map (ab .i64))∧TT 3 (an [[(LI ((s.KB.getD j []).set ((Int.tmod ((bu p s data ((p.KB.getD j a7).addr)).1) ((p.KB.getD j a7).words)).toNat) ((bu p s data ((p.KB.getD j a7).data)).1)))]] ([(s.KB.getD j []).set ((Int.tmod ((bu p s data ((p.KB.getD j a7).addr)).1) ((p.KB.getD j a7).words)).toNat) ((bu p s data ((p.KB.getD j a7).data)).1)].map ac)∧((tab (xP p s data) j).length+([(s.KB.getD j []).set ((Int.tmod ((bu p s data ((p.KB.getD j a7).addr)).1) ((p.KB.getD j a7).words)).toNat) ((bu p s data ((p.KB.getD j a7).data)).1)].map ac).length≤137438953472∧(tab (xP p s data) j).map ac++[(s.KB.getD j []).set ((Int.tmod ((bu p s data ((p.KB.getD j a7).addr)).1) ((p.KB.getD j a7).words)).toNat) ((bu p s data ((p.KB.getD j a7).data)).1)].map ac=(tab (xP p s data) (j+1)).map ac)∧TT 3 (W6 ((j+1:Nat):Int)∧TT 1 (AG (ky p s data i) j (j+1))))))))) (TT 3 (an [[(LI (s.KB.getD j []))]] ([s.KB.getD j []].map ac)∧((tab (xP p s data) j).length+([s.KB.getD j []].map ac).length≤137438953472∧(tab (xP p s data) j).map ac++[s.KB.getD j []].map ac=(tab (xP p s data) (j+1)).map ac)∧TT 3 (W6 ((j+1:Nat):Int)∧TT 1 (AG (ky p s data i) j (j+1))))))))))) (TT 3 ((tab (fun z=>(bu p s data (p.KC.getD z bE).next).1) i).map (ab .i64)=((dm p s data).KC).map (ab .i64)∧(tab (xP p s data) j).map ac=((dm p s data).KB).map ac∧True)))))))))) (.g 2 2 0 3 1 (ab .i64) 0<|.l (n9 p s data) 0 (fun i=>.b 14 (.w 5 [(10,(xq p s data 2 ((p.KC.getD i bE).next)).O),(12,.box 3 1 (ab .i64) 0 [(bu p s data ((p.KC.getD i bE).next)).1]),(13,.box 3 1 (ab .i64) 0 (tab (fun z=>(bu p s data (p.KC.getD z bE).next).1) (i+1)))]<|.w 4 [(1,.val (mb i))]<|.e) (.g 6 2 1 38 1 ac []<|.l (ky p s data i) 0 (fun j=>.b 37 (.w 10 [(0,.box 3 1 (ab .i64) 0 ([]:List Int)),(7,.box 3 1 (ab .i64) 0 (s.KB.getD j []))]<|.w 11 [(3,(yZ p s data ((p.KB.getD j a7).enable)).O)]<|.b 57 (.w 12 [(4,(xq p s data 2 ((p.KB.getD j a7).addr)).O),(12,(xq p s data 2 ((p.KB.getD j a7).data)).O),(15,.box 3 1 (ab .i64) 0 ((s.KB.getD j []).set ((Int.tmod ((bu p s data ((p.KB.getD j a7).addr)).1) ((p.KB.getD j a7).words)).toNat) ((bu p s data ((p.KB.getD j a7).data)).1)))]<|.f 13 6<|.w 13 [(3,.box 38 1 ac [] [(s.KB.getD j []).set ((Int.tmod ((bu p s data ((p.KB.getD j a7).addr)).1) ((p.KB.getD j a7).words)).toNat) ((bu p s data ((p.KB.getD j a7).data)).1)]),(4,.box 38 1 ac [] (tab (xP p s data) (j+1)))]<|.w 8 [(1,.val (i6 ((j+1:Nat):Int)))]<|.e) (.f 13 6<|.w 13 [(3,.box 38 1 ac [] [s.KB.getD j []]),(4,.box 38 1 ac [] (tab (xP p s data) (j+1)))]<|.w 8 [(1,.val (i6 ((j+1:Nat):Int)))]<|.e)) (.e))))) Try.func80 rfl rfl rfl (by kernel_rfl) ?_
 refine tt ⟨rfl,(by omega),?_⟩
 intro i J'
 have hi:=J'
 refine tt (cd (fun Qd=>?_) (fun Qd=>?_))
 · have hrn:=hp.rw i (by omega)
   refine tt ⟨ix,tt ⟨(iO ho OT 2 ((p.KC.getD i bE).next) _ hrn.2.2.1 hrn.2.2.2),tt ⟨⟨⟨rfl,oK⟩,oK⟩,⟨(hJ (f:=fun z=>(bu p s data (p.KC.getD z bE).next).1) (by omega)),tt ⟨w6,tt ⟨(i+1),rfl,(?_:(i+1)≤p.KC.length),(?_:p.KC.length-(i+1)<p.KC.length-i)⟩⟩⟩⟩⟩⟩
   · omega
   · omega
 · refine tt ⟨rfl,(by omega),?_⟩
   intro j J'
   have hj:=J'
   refine tt (cd (fun O7=>?_) (fun O7=>?_))
   · have hmz:1≤(p.KB.getD j a7).words∧(p.KB.getD j a7).words≤4:=(hp.mw j (by omega)).2.1
     have hml:((s.KB.getD j []).length:Int)=(p.KB.getD j a7).words:=PC.mn j (by omega)
     have hme:=(hp.mw j (by omega)).2.2.1
     have hmb:=(hp.mw j (by omega)).2.2.2
     obtain⟨va,hma⟩:=hmb.1.1
     have had:0≤Int.tmod (bu p s data (p.KB.getD j a7).addr).1 (p.KB.getD j a7).words∧Int.tmod (bu p s data (p.KB.getD j a7).addr).1 (p.KB.getD j a7).words<(s.KB.getD j []).length∧(p.KB.getD j a7).words≠0:=Fw hp PC hda (show j<p.KB.length by omega)
     refine tt ⟨ix,tt ⟨oK,tt ⟨ix,tt ⟨⟨by simp only[KM,K6];omega,by simp⟩,tt ⟨(sK p s data ((p.KB.getD j a7).enable) ho OT hme.1 hme.2),⟨fun RC=>?_,fun RC=>?_⟩⟩⟩⟩⟩⟩
     · refine tt ⟨(iO ho OT 2 ((p.KB.getD j a7).addr) _ hma hmb.1.2),tt ⟨om,tt ⟨(iO ho OT 2 ((p.KB.getD j a7).data) _ hmb.2.1 hmb.2.2),tt ⟨ix,⟨⟨om,by simp only[Mb];rfl⟩,tt ⟨⟨⟨rfl,oK⟩,oK⟩,⟨(bw (by omega) (by first | exact DE RC | exact Gl (by rw[RC];simp))),tt ⟨w6,tt ⟨(j+1),rfl,(?_:(j+1)≤p.KB.length),(?_:p.KB.length-(j+1)<p.KB.length-j)⟩⟩⟩⟩⟩⟩⟩⟩⟩
       · omega
       · omega
     · refine tt ⟨⟨⟨rfl,oK⟩,oK⟩,⟨(bw (by omega) (by first | exact DE RC | exact Gl (by rw[RC];simp))),tt ⟨w6,tt ⟨(j+1),rfl,(?_:(j+1)≤p.KB.length),(?_:p.KB.length-(j+1)<p.KB.length-j)⟩⟩⟩⟩
       · omega
       · omega
   · refine tt ⟨(congrArg _ (?_:(tab (fun z=>(bu p s data (p.KC.getD z bE).next).1) i)=((dm p s data).KC))),(congrArg _ (?_:(tab (xP p s data) j)=((dm p s data).KB))),oK⟩
     · rw[show i=p.KC.length by omega];rfl
     · rw[show j=p.KB.length by omega];rfl
abbrev JC (p:Pr) (s:Ps) (hs:List Hd) (rs:List Bool):Ct:=⟨74,[(AF p),(.agg (kx s)),(.agg [(dL 2 gq cz hs),(LB rs)])],true,(.agg [(dB ((a8 p s hs rs).fires)),(LI (((a8 p s hs rs).s).KC)),(dL 1 ac [] (((a8 p s hs rs).s).KB)),(LB ((a8 p s hs rs).pops)),(dL 2 gq cz ((a8 p s hs rs).KA))])⟩
abbrev f7 (p:Pr) (s:Ps) (hs:List Hd) (rs:List Bool):Lp (Nat×Bool):=zS [3,5,6,7,8,9] 16 (fun (i:Nat) (Oc:Bool)=>⟨[(3,hU),(5,(.ptr 2 0 0 0)),(6,(.ptr 3 0 0 0)),(7,(.ptr 4 0 0 0)),(8,(.ptr 15 0 0 0)),(9,(i6 (i:Int)))],[(ma p),(.var 88 (kx s)),(.var 179 [(dL 2 gq cz hs),(LB rs)]),AH,(AE p s hs),.dead,.dead,.dead,.dead,(.arr 4 1 bC false (List.replicate p.I.length false)),.dead,.dead,.dead,(.arr 168 2 gq cz (List.replicate p.KA.length cz)),.dead,(.var 165 [(dB Oc),(LI s.KC),(dL 1 ac [] s.KB),(.own 9),(.own 13)])]⟩) (fun (i:Nat) (Oc:Bool)=>i≤p.I.length∧Oc=dk (r7 p s hs) i) (fun (i:Nat) (Oc:Bool)=>p.I.length-i)
abbrev f8 (p:Pr) (s:Ps) (hs:List Hd) (rs:List Bool) (Oc:Bool):Lp (Nat×Bool):=zS [3,5,6,7,8,10] 16 (fun (m:Nat) (NU:Bool)=>⟨[(3,hU),(5,(.ptr 2 0 0 0)),(6,(.ptr 3 0 0 0)),(7,(.ptr 4 0 0 0)),(8,(.ptr 15 0 0 0)),(10,(i6 (m:Int)))],[(ma p),(.var 88 (kx s)),(.var 179 [(dL 2 gq cz hs),(LB rs)]),AH,(AE p s hs),.dead,.dead,.dead,.dead,(.arr 4 1 bC false (List.replicate p.I.length false)),.dead,.dead,.dead,(.arr 168 2 gq cz (List.replicate p.KA.length cz)),.dead,(.var 165 [(dB NU),(LI s.KC),(dL 1 ac [] s.KB),(.own 9),(.own 13)])]⟩) (fun (m:Nat) (NU:Bool)=>m≤p.KA.length∧NU=(Oc&&dk (r8 p s hs rs) m)) (fun (m:Nat) (NU:Bool)=>p.KA.length-m)
abbrev lv (p:Pr) (s:Ps) (hs:List Hd) (rs:List Bool) (NU:Bool):Lp (Nat×List Bool):=zS [3,6,7,8,11] 16 (fun (q:Nat) (Oy:List Bool)=>⟨[(3,hU),(6,(.ptr 3 0 0 0)),(7,(.ptr 4 0 0 0)),(8,(.ptr 15 0 0 0)),(11,(i6 (q:Int)))],[(ma p),(.var 88 (kx s)),(.var 179 [(dL 2 gq cz hs),(LB rs)]),AH,(AE p s hs),.dead,.dead,.dead,.dead,(.arr 4 1 bC false Oy),.dead,.dead,.dead,(.arr 168 2 gq cz (List.replicate p.KA.length cz)),.dead,(.var 165 [(dB NU),(LI ((dm p s (bG p s hs)).KC)),(dL 1 ac [] ((dm p s (bG p s hs)).KB)),(.own 9),(.own 13)])]⟩) (fun (q:Nat) (Oy:List Bool)=>q≤p.I.length∧Oy=mJ (DA p s hs) (List.replicate p.I.length false) q) (fun (q:Nat) (Oy:List Bool)=>p.I.length-q)
abbrev iP (p:Pr) (s:Ps) (hs:List Hd) (rs:List Bool) (NU:Bool) (Oy:List Bool):Lp (Nat×List Hd):=zS [3,6,7,8,12] 16 (fun (t:Nat) (put:List Hd)=>⟨[(3,hU),(6,(.ptr 3 0 0 0)),(7,(.ptr 4 0 0 0)),(8,(.ptr 15 0 0 0)),(12,(i6 (t:Int)))],[(ma p),(.var 88 (kx s)),(.var 179 [(dL 2 gq cz hs),(LB rs)]),AH,(AE p s hs),.dead,.dead,.dead,.dead,(.arr 4 1 bC false Oy),.dead,.dead,.dead,(.arr 168 2 gq cz put),.dead,(.var 165 [(dB NU),(LI ((dm p s (bG p s hs)).KC)),(dL 1 ac [] ((dm p s (bG p s hs)).KB)),(.own 9),(.own 13)])]⟩) (fun (t:Nat) (put:List Hd)=>t≤p.KA.length∧put=mJ (BE p s hs) (List.replicate p.KA.length cz) t) (fun (t:Nat) (put:List Hd)=>p.KA.length-t)
theorem B1 (p:Pr) (s:Ps) (hs:List Hd) (rs:List Bool) (hp:iG p) (PC:nx p s) (hh:BG p hs) (hrs:rs.length=p.KA.length):CC (JC p s hs rs):=by
 have ht1:=hp.tl
 have ht2:=hp.pl
 have hhl:=hh.l
 have OT:=PC.mn
 have ho:=gw hp PC (vw (s:=s) (hs:=hs) hp hh)
 have hda:=vw (s:=s) (hs:=hs) hp hh
 refine ai.vc (V:=TT 7 (CC (JA p s hs rs)∧TT 6 ((((0:Int)≤(p.I.length:Int)∧(p.I.length:Int)≤(p.I.length:Int)∧(p.I.length:Int)≤137438953472)∧(List.replicate p.I.length false).length=p.I.length∧∀x∈(List.replicate p.I.length false),dG [(dB false)] (bC x))∧TT 3 ((((0:Int)≤(p.KA.length:Int)∧(p.KA.length:Int)≤(p.KA.length:Int)∧(p.KA.length:Int)≤137438953472)∧(List.replicate p.KA.length cz).length=p.KA.length∧∀x∈(List.replicate p.KA.length cz),dG [(dB false),(i6 0)] (gq x))∧TT 4 (GO (f7 p s hs rs) (0,true) (∀i Oc,(f7 p s hs rs).inv (i,Oc)→TT 5 (CD ((i:Int)<(p.I.length:Int)) (CS (Oc=true) (CS (((hs.getD i cz).has)=true) (TT 2 ((True∧Oc=true)∧TT 3 (IX (i:Int) hs.length∧TT 2 ((True∧((hs.getD i cz).has)=true)∧TT 5 (W6 ((i+1:Nat):Int)∧TT 1 (AG (f7 p s hs rs) (i,Oc) (i+1,true))))))) (TT 2 ((True∧Oc=true)∧TT 3 (IX (i:Int) hs.length∧TT 2 ((True∧((hs.getD i cz).has)=false)∧TT 4 (IX (i:Int) p.I.length∧TT 2 (CC (yZ p s (bG p s hs) ((p.I.getD i cU).when))∧TT 6 (W6 ((i+1:Nat):Int)∧TT 1 (AG (f7 p s hs rs) (i,Oc) (i+1,!(dV p s (bG p s hs) ((p.I.getD i cU).when)))))))))))) (TT 2 ((True∧Oc=false)∧TT 4 (W6 ((i+1:Nat):Int)∧TT 1 (AG (f7 p s hs rs) (i,Oc) (i+1,false)))))) (TT 1 (GO (f8 p s hs rs Oc) (0,Oc) (∀m NU,(f8 p s hs rs Oc).inv (m,NU)→TT 5 (CD ((m:Int)<(p.KA.length:Int)) (CS (NU=true) (CS ((rs.getD m false)=true) (TT 2 ((True∧NU=true)∧TT 3 (IX (m:Int) rs.length∧TT 1 ((True∧(rs.getD m false)=true)∧TT 5 (W6 ((m+1:Nat):Int)∧TT 1 (AG (f8 p s hs rs Oc) (m,NU) (m+1,true))))))) (TT 2 ((True∧NU=true)∧TT 3 (IX (m:Int) rs.length∧TT 1 ((True∧(rs.getD m false)=false)∧TT 4 (IX (m:Int) p.KA.length∧TT 2 (CC (yZ p s (bG p s hs) ((p.KA.getD m dj).when))∧TT 6 (W6 ((m+1:Nat):Int)∧TT 1 (AG (f8 p s hs rs Oc) (m,NU) (m+1,!(dV p s (bG p s hs) ((p.KA.getD m dj).when)))))))))))) (TT 2 ((True∧NU=false)∧TT 4 (W6 ((m+1:Nat):Int)∧TT 1 (AG (f8 p s hs rs Oc) (m,NU) (m+1,false)))))) (TT 3 (CB (!NU) (TT 3 (NU=((a8 p s hs rs).fires)∧s.KC.map (ab .i64)=(((a8 p s hs rs).s).KC).map (ab .i64)∧s.KB.map ac=(((a8 p s hs rs).s).KB).map ac∧(List.replicate p.I.length false).map bC=((a8 p s hs rs).pops).map bC∧(List.replicate p.KA.length cz).map gq=((a8 p s hs rs).KA).map gq∧True)) (TT 1 (CC (JB p s (bG p s hs))∧TT 3 (GO (lv p s hs rs NU) (0,List.replicate p.I.length false) (∀q Oy,(lv p s hs rs NU).inv (q,Oy)→TT 5 (CD ((q:Int)<(p.I.length:Int)) (TT 7 (IX (q:Int) p.I.length∧TT 2 (CC (yZ p s (bG p s hs) ((p.I.getD q cU).when))∧IX (q:Int) Oy.length∧(q<Oy.length∧(Oy.map bC).set q ((bC (Oy.getD q false)).take 0++[(.bool (dV p s (bG p s hs) ((p.I.getD q cU).when)))]++(bC (Oy.getD q false)).drop (0+1))=(Oy.set q (dV p s (bG p s hs) ((p.I.getD q cU).when))).map bC)∧TT 1 (W6 ((q+1:Nat):Int)∧TT 1 (AG (lv p s hs rs NU) (q,Oy) (q+1,Oy.set q (dV p s (bG p s hs) ((p.I.getD q cU).when)))))))) (TT 1 (GO (iP p s hs rs NU Oy) (0,List.replicate p.KA.length cz) (∀t put,(iP p s hs rs NU Oy).inv (t,put)→TT 5 (CD ((t:Int)<(p.KA.length:Int)) (TT 4 (IX (t:Int) p.KA.length∧TT 2 (CC (yZ p s (bG p s hs) ((p.KA.getD t dj).when))∧CB (dV p s (bG p s hs) ((p.KA.getD t dj).when)) (TT 7 (IX (t:Int) p.KA.length∧TT 2 (CC (xq p s (bG p s hs) 2 ((p.KA.getD t dj).data))∧TT 2 (IX (t:Int) put.length∧(t<put.length∧(put.map gq).set t ((gq (put.getD t cz)).take 0++[(.bool true),(.int .i64 ((bu p s (bG p s hs) ((p.KA.getD t dj).data)).1))]++(gq (put.getD t cz)).drop (0+2))=(put.set t (⟨true,(bu p s (bG p s hs) ((p.KA.getD t dj).data)).1⟩:Hd)).map gq)∧TT 1 (W6 ((t+1:Nat):Int)∧TT 1 (AG (iP p s hs rs NU Oy) (t,put) (t+1,put.set t (⟨true,(bu p s (bG p s hs) ((p.KA.getD t dj).data)).1⟩:Hd)))))))) (TT 1 (W6 ((t+1:Nat):Int)∧TT 1 (AG (iP p s hs rs NU Oy) (t,put) (t+1,put))))))) (TT 3 (NU=((a8 p s hs rs).fires)∧((dm p s (bG p s hs)).KC).map (ab .i64)=(((a8 p s hs rs).s).KC).map (ab .i64)∧((dm p s (bG p s hs)).KB).map ac=(((a8 p s hs rs).s).KB).map ac∧Oy.map bC=((a8 p s hs rs).pops).map bC∧put.map gq=((a8 p s hs rs).KA).map gq∧True)))))))))))))))))))))))) (.w 1 [(3,(JA p s hs rs).O)]<|.w 2 [(4,.box 4 1 bC false (List.replicate p.I.length false)),(8,.box 168 2 gq cz (List.replicate p.KA.length cz))]<|.l (f7 p s hs rs) (0,true) (fun ⟨i,Oc⟩=>.b 31 (.s 6 (Oc=true) (.s 6 (((hs.getD i cz).has)=true) (.w 6 [(2,.val (dB true)),(9,.val (dB true))]<|.w 5 [(1,.val (mb i))]<|.e) (.w 6 [(2,.val (dB true)),(9,.val (dB false)),(17,(yZ p s (bG p s hs) ((p.I.getD i cU).when)).O)]<|.w 5 [(1,.val (mb i))]<|.e)) (.w 6 [(2,.val (dB false))]<|.w 5 [(1,.val (mb i))]<|.e)) (.l (f8 p s hs rs Oc) (0,Oc) (fun ⟨m,NU⟩=>.b 60 (.s 10 (NU=true) (.s 10 ((rs.getD m false)=true) (.w 10 [(2,.val (dB true)),(8,.val (dB true))]<|.w 9 [(1,.val (i6 ((m+1:Nat):Int)))]<|.e) (.w 10 [(2,.val (dB true)),(8,.val (dB false)),(16,(yZ p s (bG p s hs) ((p.KA.getD m dj).when)).O)]<|.w 9 [(1,.val (i6 ((m+1:Nat):Int)))]<|.e)) (.w 10 [(2,.val (dB false))]<|.w 9 [(1,.val (i6 ((m+1:Nat):Int)))]<|.e)) (.b 86 (.e) (.w 13 [(1,(JB p s (bG p s hs)).O)]<|.l (lv p s hs rs NU) (0,List.replicate p.I.length false) (fun ⟨q,Oy⟩=>.b 95 (.w 17 [(10,(yZ p s (bG p s hs) ((p.I.getD q cU).when)).O),(12,.box 4 1 bC false (Oy.set q (dV p s (bG p s hs) ((p.I.getD q cU).when))))]<|.w 16 [(1,.val (i6 ((q+1:Nat):Int)))]<|.e) (.l (iP p s hs rs NU Oy) (0,List.replicate p.KA.length cz) (fun ⟨t,put⟩=>.b 114 (.w 21 [(7,(yZ p s (bG p s hs) ((p.KA.getD t dj).when)).O)]<|.b 124 (.w 22 [(10,(xq p s (bG p s hs) 2 ((p.KA.getD t dj).data)).O),(14,.box 168 2 gq cz (put.set t (⟨true,(bu p s (bG p s hs) ((p.KA.getD t dj).data)).1⟩:Hd)))]<|.w 20 [(1,.val (i6 ((t+1:Nat):Int)))]<|.e) (.w 20 [(1,.val (i6 ((t+1:Nat):Int)))]<|.e)) (.e)))))))))) Try.func74 rfl rfl rfl (by kernel_rfl) ?_
 refine tt ⟨(y4 p s hs rs hp PC hh),tt ⟨⟨by omega,Ll,fun x hx=>by rw[Ln hx];exact⟨rfl,oK⟩⟩,tt ⟨⟨by omega,Ll,fun x hx=>by rw[Ln hx];exact⟨rfl,rfl,oK⟩⟩,tt ⟨rfl,⟨by omega,rfl⟩,?_⟩⟩⟩⟩
 intro i Oc J'
 obtain⟨hi,O9⟩:=J'
 refine tt (cd (fun hc31=>?_) (fun hc31=>?_))
 · have RP:=vz hp (show i<p.I.length by omega)
   refine⟨fun MV=>?_,fun MV=>?_⟩
   · refine⟨fun Nl=>?_,fun Nl=>?_⟩
     · refine tt ⟨(bT MV),tt ⟨ix,tt ⟨(bT Nl),tt ⟨w6,tt ⟨(i+1,true),rfl,?_,(?_:p.I.length-(i+1)<p.I.length-i)⟩⟩⟩⟩⟩
       · exact⟨by omega,yC O9 _ (by unfold r7;clear O9;cases Oc<;>simp_all)⟩
       · omega
     · refine tt ⟨(bT MV),tt ⟨ix,tt ⟨(bF Nl),tt ⟨ix,tt ⟨(sK p s (bG p s hs) ((p.I.getD i cU).when) ho OT RP.1 RP.2),tt ⟨w6,tt ⟨(i+1,!(dV p s (bG p s hs) ((p.I.getD i cU).when))),rfl,?_,(?_:p.I.length-(i+1)<p.I.length-i)⟩⟩⟩⟩⟩⟩⟩
       · exact⟨by omega,yC O9 _ (by unfold r7;clear O9;cases Oc<;>simp_all)⟩
       · omega
   · refine tt ⟨(bF MV),tt ⟨w6,tt ⟨(i+1,false),rfl,?_,(?_:p.I.length-(i+1)<p.I.length-i)⟩⟩⟩
     · exact⟨by omega,yC O9 _ (by unfold r7;clear O9;cases Oc<;>simp_all)⟩
     · omega
 · refine tt ⟨rfl,⟨by omega,by simp[dk]⟩,?_⟩
   intro m NU J'
   obtain⟨hm,PL⟩:=J'
   refine tt (cd (fun PA=>?_) (fun PA=>?_))
   · have RO:=hp.pw m (by omega)
     refine⟨fun Pw=>?_,fun Pw=>?_⟩
     · refine⟨fun hs3=>?_,fun hs3=>?_⟩
       · refine tt ⟨(bT Pw),tt ⟨ix,tt ⟨(bT hs3),tt ⟨w6,tt ⟨(m+1,true),rfl,?_,(?_:p.KA.length-(m+1)<p.KA.length-m)⟩⟩⟩⟩⟩
         · exact⟨by omega,yD PL _ (by unfold r8;clear PL O9;cases NU<;>simp_all)⟩
         · omega
       · refine tt ⟨(bT Pw),tt ⟨ix,tt ⟨(bF hs3),tt ⟨ix,tt ⟨(sK p s (bG p s hs) ((p.KA.getD m dj).when) ho OT RO.2.1.1 RO.2.1.2),tt ⟨w6,tt ⟨(m+1,!(dV p s (bG p s hs) ((p.KA.getD m dj).when))),rfl,?_,(?_:p.KA.length-(m+1)<p.KA.length-m)⟩⟩⟩⟩⟩⟩⟩
         · exact⟨by omega,yD PL _ (by unfold r8;clear PL O9;cases NU<;>simp_all)⟩
         · omega
     · refine tt ⟨(bF Pw),tt ⟨w6,tt ⟨(m+1,false),rfl,?_,(?_:p.KA.length-(m+1)<p.KA.length-m)⟩⟩⟩
       · exact⟨by omega,yD PL _ (by unfold r8;clear PL O9;cases NU<;>simp_all)⟩
       · omega
   · have O2:i=p.I.length:=by omega
     have hme:m=p.KA.length:=by omega
     refine tt ⟨fun RD=>?_,fun RD=>?_⟩
     · refine tt ⟨?_,(congrArg _ (?_:s.KC=(((a8 p s hs rs).s).KC))),(congrArg _ (?_:s.KB=(((a8 p s hs rs).s).KB))),(congrArg _ (?_:(List.replicate p.I.length false)=((a8 p s hs rs).pops))),(congrArg _ (?_:(List.replicate p.KA.length cz)=((a8 p s hs rs).KA))),oK⟩
       all_goals
         rw[Fs (by rw[un (rs:=rs) (a:=Oc) (b:=NU) (by rw[O9,O2]) (by rw[PL,hme])];simpa using RD)]
         first | done | rfl | simpa using RD
     · refine tt ⟨(Eg p s (bG p s hs) hp PC hda),tt ⟨rfl,⟨by omega,rfl⟩,?_⟩⟩
       intro q Oy J'
       obtain⟨hq,Pz⟩:=J'
       have PF:Oy.length=p.I.length:=by rw[Pz,kn (by rw[Ll];exact hq),Ll]
       refine tt (cd (fun RE=>?_) (fun RE=>?_))
       · have RP:=vz hp (show q<p.I.length by omega)
         refine tt ⟨ix,tt ⟨(sK p s (bG p s hs) ((p.I.getD q cU).when) ho OT RP.1 RP.2),⟨ix,⟨⟨om,by simp only[Mb];rfl⟩,tt ⟨w6,tt ⟨(q+1,Oy.set q (dV p s (bG p s hs) ((p.I.getD q cU).when))),rfl,?_,(?_:p.I.length-(q+1)<p.I.length-q)⟩⟩⟩⟩⟩⟩
         · exact⟨by omega,by rw[Pz];exact ko (by rw[Ll];omega) rfl⟩
         · omega
       · refine tt ⟨rfl,⟨by omega,rfl⟩,?_⟩
         intro t put J'
         obtain⟨ht,Oi⟩:=J'
         have PR:put.length=p.KA.length:=by rw[Oi,kn (by rw[Ll];exact ht),Ll]
         refine tt (cd (fun hc114=>?_) (fun hc114=>?_))
         · have RO:=hp.pw t (by omega)
           refine tt ⟨ix,tt ⟨(sK p s (bG p s hs) ((p.KA.getD t dj).when) ho OT RO.2.1.1 RO.2.1.2),⟨fun RF=>?_,fun RF=>?_⟩⟩⟩
           · refine tt ⟨ix,tt ⟨(iO ho OT 2 ((p.KA.getD t dj).data) _ RO.2.2.1 RO.2.2.2),tt ⟨ix,⟨⟨om,by simp only[Mb];rfl⟩,tt ⟨w6,tt ⟨(t+1,put.set t (⟨true,(bu p s (bG p s hs) ((p.KA.getD t dj).data)).1⟩:Hd)),rfl,?_,(?_:p.KA.length-(t+1)<p.KA.length-t)⟩⟩⟩⟩⟩⟩
             · exact⟨by omega,by rw[Oi];exact ko (by rw[Ll];omega) (KT RF)⟩
             · omega
           · refine tt ⟨w6,tt ⟨(t+1,put),rfl,?_,(?_:p.KA.length-(t+1)<p.KA.length-t)⟩⟩
             · exact⟨by omega,by rw[Oi];exact iH (d:=cz) (by rw[Ll];omega) ((KK (by rw[RF];simp)).trans cY.symm)⟩
             · omega
         · refine tt ⟨?_,(congrArg _ (?_:((dm p s (bG p s hs)).KC)=(((a8 p s hs rs).s).KC))),(congrArg _ (?_:((dm p s (bG p s hs)).KB)=(((a8 p s hs rs).s).KB))),(congrArg _ (?_:Oy=((a8 p s hs rs).pops))),(congrArg _ (?_:put=((a8 p s hs rs).KA))),oK⟩
           all_goals
             rw[Ft (by rw[un (rs:=rs) (a:=Oc) (b:=NU) (by rw[O9,O2]) (by rw[PL,hme])];simpa using RD)]
             first | done | (simpa using RD) | (rw[Pz,show q=p.I.length by omega,iI (by rw[Ll];exact KI _)]) | (rw[Oi,show t=p.KA.length by omega,iI (by rw[Ll];exact KI _)])
abbrev FX (a b:List Int):Ct:=⟨31,[(LI a),(LI b)],false,(dB (decide (a=b)))⟩
abbrev qP (a:List Int) (b:List Int):Lp (Nat):=il [0,1,5] 0 (fun (k:Nat)=>⟨[(0,(LI a)),(1,(LI b)),(5,(i6 (k:Int)))],[]⟩) (fun (k:Nat)=>k≤a.length∧∀z,z<k→a.getD z 0=b.getD z 0) (fun (k:Nat)=>a.length-k)
theorem qQ (a b:List Int) (ha:a.length≤9223372036854775807):CC (FX a b):=by
 refine ai.vc (V:=TT 6 (CN ((a.length:Int)=(b.length:Int)) (TT 2 (false=(decide (a=b))∧True)) (TT 1 (GO (qP a b) 0 (∀k,(qP a b).inv k→TT 4 (CD ((k:Int)<(a.length:Int)) (TT 2 (IX (k:Int) a.length∧TT 3 (IX (k:Int) b.length∧TT 2 (CN ((a.getD k 0)=(b.getD k 0)) (TT 2 (false=(decide (a=b))∧True)) (TT 1 (W6 ((k+1:Nat):Int)∧TT 1 (AG (qP a b) k (k+1)))))))) (TT 2 (true=(decide (a=b))∧True)))))))) (.b 10 (.e) (.l (qP a b) 0 (fun k=>.b 14 (.b 25 (.e) (.w 5 [(1,.val (i6 ((k+1:Nat):Int)))]<|.e)) (.e)))) Try.func31 rfl rfl rfl (by kernel_rfl) ?_
 refine tt (cn (fun hc10=>?_) (fun hc10=>?_))
 · refine tt ⟨?_,oK⟩
   first | exact(KS (fun e=>by subst e;omega)).symm | exact(KS (same_no (k:=k) (by simpa using Nq))).symm | exact(KO (eN (by omega) (by omega) hall)).symm
 · refine tt ⟨rfl,⟨by omega,fun z hz=>by omega⟩,?_⟩
   intro k J'
   obtain⟨hk,hall⟩:=J'
   refine tt (cd (fun Qd=>?_) (fun Qd=>?_))
   · refine tt ⟨ix,tt ⟨ix,tt (cn (fun Nq=>?_) (fun Nq=>?_))⟩⟩
     · refine tt ⟨?_,oK⟩
       first | exact(KS (fun e=>by subst e;omega)).symm | exact(KS (same_no (k:=k) (by simpa using Nq))).symm | exact(KO (eN (by omega) (by omega) hall)).symm
     · refine tt ⟨w6,tt ⟨(k+1),rfl,?_,(?_:a.length-(k+1)<a.length-k)⟩⟩
       · exact⟨by omega,bA hall (by simpa using Nq)⟩
       · omega
   · refine tt ⟨?_,oK⟩
     first | exact(KS (fun e=>by subst e;omega)).symm | exact(KS (same_no (k:=k) (by simpa using Nq))).symm | exact(KO (eN (by omega) (by omega) hall)).symm
abbrev JD (a b:Ps):Ct:=⟨30,[(.agg [(LI a.KC),(dL 1 ac [] a.KB)]),(.agg [(LI b.KC),(dL 1 ac [] b.KB)])],false,(dB (c8 a b))⟩
abbrev lw (a:Ps) (b:Ps):Lp (Nat):=il [2,3,5] 2 (fun (k:Nat)=>⟨[(2,hU),(3,(.ptr 1 0 0 0)),(5,(i6 (k:Int)))],[(.var 88 [(LI a.KC),(dL 1 ac [] a.KB)]),(.var 88 [(LI b.KC),(dL 1 ac [] b.KB)])]⟩) (fun (k:Nat)=>k≤a.KB.length∧∀z,z<k→a.KB.getD z []=b.KB.getD z []) (fun (k:Nat)=>a.KB.length-k)
theorem B2 (a b:Ps) (ha:a.KC.length≤9223372036854775807) (hb:a.KB.length≤9223372036854775807) (hc:∀i,(a.KB.getD i []).length≤9223372036854775807):CC (JD a b):=by
 refine ai.vc (V:=TT 3 (CS (a.KC=b.KC) (TT 4 (CC (FX a.KC b.KC)∧TT 1 ((True∧(!decide (a.KC=b.KC))=false)∧TT 8 (CN ((a.KB.length:Int)=(b.KB.length:Int)) (TT 2 (false=(c8 a b)∧True)) (TT 1 (GO (lw a b) 0 (∀k,(lw a b).inv k→TT 5 (CD ((k:Int)<(a.KB.length:Int)) (TT 3 (IX (k:Int) a.KB.length∧TT 4 (IX (k:Int) b.KB.length∧TT 1 (CC (FX (a.KB.getD k []) (b.KB.getD k []))∧TT 1 (CN ((a.KB.getD k [])=(b.KB.getD k [])) (TT 2 (false=(c8 a b)∧True)) (TT 1 (W6 ((k+1:Nat):Int)∧TT 1 (AG (lw a b) k (k+1))))))))) (TT 2 (true=(c8 a b)∧True)))))))))) (TT 4 (CC (FX a.KC b.KC)∧TT 1 ((True∧(!decide (a.KC=b.KC))=true)∧TT 10 (false=(c8 a b)∧True)))))) (.s 1 (a.KC=b.KC) (.w 1 [(4,(FX a.KC b.KC).O),(6,.val (dB false))]<|.b 20 (.e) (.l (lw a b) 0 (fun k=>.b 25 (.w 6 [(10,(FX (a.KB.getD k []) (b.KB.getD k [])).O)]<|.b 39 (.e) (.w 5 [(1,.val (i6 ((k+1:Nat):Int)))]<|.e)) (.e)))) (.w 1 [(4,(FX a.KC b.KC).O),(6,.val (dB true))]<|.e)) Try.func30 rfl rfl rfl (by kernel_rfl) ?_
 refine tt ⟨fun MV=>?_,fun MV=>?_⟩
 · refine tt ⟨(qQ a.KC b.KC ha),tt ⟨(nF MV),tt (cn (fun hc20=>?_) (fun hc20=>?_))⟩⟩
   · refine tt ⟨?_,oK⟩
     first | exact(jf (by simpa using MV)).symm | exact(jg (by omega)).symm | exact(jh (i:=k) (by simpa using Pm)).symm | exact(ji (by simpa using MV) (eN (by omega) (by omega) hall)).symm
   · refine tt ⟨rfl,⟨by omega,fun z hz=>by omega⟩,?_⟩
     intro k J'
     obtain⟨hk,hall⟩:=J'
     refine tt (cd (fun Nq=>?_) (fun Nq=>?_))
     · refine tt ⟨ix,tt ⟨ix,tt ⟨(qQ (a.KB.getD k []) (b.KB.getD k []) (hc k)),tt (cn (fun Pm=>?_) (fun Pm=>?_))⟩⟩⟩
       · refine tt ⟨?_,oK⟩
         first | exact(jf (by simpa using MV)).symm | exact(jg (by omega)).symm | exact(jh (i:=k) (by simpa using Pm)).symm | exact(ji (by simpa using MV) (eN (by omega) (by omega) hall)).symm
       · refine tt ⟨w6,tt ⟨(k+1),rfl,?_,(?_:a.KB.length-(k+1)<a.KB.length-k)⟩⟩
         · exact⟨by omega,bA hall (by simpa using Pm)⟩
         · omega
     · refine tt ⟨?_,oK⟩
       first | exact(jf (by simpa using MV)).symm | exact(jg (by omega)).symm | exact(jh (i:=k) (by simpa using Pm)).symm | exact(ji (by simpa using MV) (eN (by omega) (by omega) hall)).symm
 · refine tt ⟨(qQ a.KC b.KC ha),tt ⟨(nT MV),tt ⟨?_,oK⟩⟩⟩
   first | exact(jf (by simpa using MV)).symm | exact(jg (by omega)).symm | exact(jh (i:=k) (by simpa using Pm)).symm | exact(ji (by simpa using MV) (eN (by omega) (by omega) hall)).symm
end Go.Proofs.Ytgmpoenfoacofaa
