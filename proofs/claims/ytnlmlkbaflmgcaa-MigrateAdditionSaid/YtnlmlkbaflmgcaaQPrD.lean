/-
  The reference of package process.
-/
import Derived.Test.YtnlmlkbaflmgcaaQVrA
namespace Go.Proofs.Ytnlmlkbaflmgcaa
open Go.RowKit
set_option linter.unusedVariables false
set_option linter.unusedSimpArgs false
abbrev oa (p:Pr):ax:=(.var 80 [(dS p.name),(dS p.clock),(dL 13 bG aK p.Pe),(dL 27 bS aA p.Pd),(dL 9 dU bV p.I),(dL 16 dT b4 p.Pc)])
abbrev CI (p:Pr) (s:Ps) (hs:List Hd):ax:=(.var 179 [(dS p.name),(dS p.clock),(dL 13 bG aK p.Pe),(dL 27 bS aA p.Pd),(dL 9 dU bV p.I),(dL 16 dT b4 p.Pc),(LI s.Pe),(dL 1 af [] s.Pd),(LI (bW p s hs))])
abbrev CJ (p:Pr):D:=(.agg [(dS p.name),(dS p.clock),(dL 13 bG aK p.Pe),(dL 27 bS aA p.Pd),(dL 9 dU bV p.I),(dL 16 dT b4 p.Pc)])
abbrev GK (p:Pr) (s:Ps) (data:List Int):ax:=(.var 179 [(dS p.name),(dS p.clock),(dL 13 bG aK p.Pe),(dL 27 bS aA p.Pd),(dL 9 dU bV p.I),(dL 16 dT b4 p.Pc),(LI s.Pe),(dL 1 af [] s.Pd),(LI data)])
abbrev GL (p:Pr) (s:Ps) (data:List Int):D:=(.agg [(dS p.name),(dS p.clock),(dL 13 bG aK p.Pe),(dL 27 bS aA p.Pd),(dL 9 dU bV p.I),(dL 16 dT b4 p.Pc),(LI s.Pe),(dL 1 af [] s.Pd),(LI data)])
abbrev lZ (s:Ps):List D:=[(LI s.Pe),(dL 1 af [] s.Pd)]
abbrev ob (i:Nat):D:=(i6 ((i+1:Nat):Int))
abbrev CL:ax:=(.var 167 [(dB false),.nils,.nils,.nils,.nils])
abbrev jt:D:=(.ptr 0 0 0 0)
set_option maxRecDepth 100000
abbrev MC (v w:Int):Ct:=⟨72,[(i6 v),(i6 w)],false,(dB (fg v w))⟩
theorem ze (v w:Int) (h1:0≤w) (h2:w≤62):CC (MC v w):=by
 refine aq.vc (V:=TT 1 (CS (v≥0) (TT 2 ((True∧(decide (v≥0))=true)∧TT 2 ((True∧IntKind.u64.wrap w=w)∧(0≤w∧(Int.fdiv v (2^min w.toNat 64))=(v / 2^w.toNat))∧TT 4 (((v / 2^w.toNat)==0)=(fg v w)∧True)))) (TT 2 ((True∧(decide (v≥0))=false)∧TT 8 (false=(fg v w)∧True))))) (.s 1 (v≥0) (.w 1 [(2,.val (dB true)),(5,.val (dI .u64 w)),(6,.val (i6 (v / 2^w.toNat)))]<|.e) (.w 1 [(2,.val (dB false))]<|.e)) Try.func72 rfl rfl rfl (by kernel_rfl) ?_
 refine tt ⟨fun Ru=>?_,fun Ru=>?_⟩
 · refine tt ⟨(vT Ru),tt ⟨⟨oK,Dx rfl om om⟩,⟨⟨(by omega),(BE h1 h2)⟩,tt ⟨?_,oK⟩⟩⟩⟩
   first | exact BW (by omega) h1 h2 | (unfold fg;rw[Pv (by omega)];rfl)
 · refine tt ⟨(vF Ru),tt ⟨?_,oK⟩⟩
   first | exact BW (by omega) h1 h2 | (unfold fg;rw[Pv (by omega)];rfl)
abbrev N0 (p:Pr) (s:Ps):Ct:=⟨42,[(CJ p),(.agg (lZ s))],false,(dB (bK p s))⟩
abbrev mO (p:Pr) (s:Ps):Lp (Nat):=iC [2,3,5] 2 (fun (i:Nat)=>⟨[(2,jt),(3,(.ptr 1 0 0 0)),(5,(i6 (i:Int)))],[(oa p),(.var 74 (lZ s))]⟩) (fun (i:Nat)=>i≤s.Pe.length∧∀z,z<i→fg (s.Pe.getD z 0) (p.Pe.getD z aK).w=true) (fun (i:Nat)=>s.Pe.length-i)
abbrev mP (p:Pr) (s:Ps):Lp (Nat):=iC [2,3,6] 2 (fun (j:Nat)=>⟨[(2,jt),(3,(.ptr 1 0 0 0)),(6,(i6 (j:Int)))],[(oa p),(.var 74 (lZ s))]⟩) (fun (j:Nat)=>j≤s.Pd.length∧∀z,z<j→iK p s z=true) (fun (j:Nat)=>s.Pd.length-j)
abbrev mQ (p:Pr) (s:Ps) (j:Nat):Lp (Nat):=iC [2,3,6,7] 15 (fun (k:Nat)=>⟨[(2,jt),(3,(.ptr 1 0 0 0)),(6,(i6 (j:Int))),(7,(i6 (k:Int)))],[(oa p),(.var 74 (lZ s)),.dead,.dead,.dead,.dead,.dead,.dead,.dead,.dead,.dead,.dead,.dead,.dead,.dead]⟩) (fun (k:Nat)=>k≤(s.Pd.getD j []).length∧∀z,z<k→fg ((s.Pd.getD j []).getD z 0) (p.Pd.getD j aA).w=true) (fun (k:Nat)=>(s.Pd.getD j []).length-k)
theorem D9 (p:Pr) (s:Ps) (hp:hT p):CC (N0 p s):=by
 have T4:=hp.rl
 have hl2:=hp.ml
 refine aq.vc (V:=TT 3 (CS ((s.Pe.length:Int)=(p.Pe.length:Int)) (TT 7 ((True∧(!decide ((s.Pe.length:Int)=(p.Pe.length:Int)))=false)∧TT 8 (CN ((s.Pd.length:Int)=(p.Pd.length:Int)) (TT 2 (false=(bK p s)∧True)) (TT 1 (GO (mO p s) 0 (∀i,(mO p s).inv i→TT 5 (CD ((i:Int)<(s.Pe.length:Int)) (TT 3 (IX (i:Int) s.Pe.length∧TT 4 (IX (i:Int) p.Pe.length∧TT 2 (CC (MC (s.Pe.getD i 0) ((p.Pe.getD i aK).w))∧TT 1 (CB (!(fg (s.Pe.getD i 0) ((p.Pe.getD i aK).w))) (TT 2 (false=(bK p s)∧True)) (TT 1 (W6 ((i+1:Nat):Int)∧TT 1 (AG (mO p s) i (i+1))))))))) (TT 1 (GO (mP p s) 0 (∀j,(mP p s).inv j→TT 5 (CD ((j:Int)<(s.Pd.length:Int)) (TT 3 (IX (j:Int) s.Pd.length∧TT 5 (IX (j:Int) p.Pd.length∧TT 3 (CN ((((s.Pd.getD j []).length:Nat):Int)=((p.Pd.getD j aA).words)) (TT 2 (false=(bK p s)∧True)) (TT 1 (GO (mQ p s j) 0 (∀k,(mQ p s j).inv k→TT 4 (IX (j:Int) s.Pd.length∧TT 3 (CD ((k:Int)<(((s.Pd.getD j []).length:Nat):Int)) (TT 3 (IX (j:Int) s.Pd.length∧TT 2 (IX (k:Int) ((s.Pd.getD j []).length)∧TT 4 (IX (j:Int) p.Pd.length∧TT 2 (CC (MC ((s.Pd.getD j []).getD k 0) ((p.Pd.getD j aA).w))∧TT 1 (CB (!(fg ((s.Pd.getD j []).getD k 0) ((p.Pd.getD j aA).w))) (TT 2 (false=(bK p s)∧True)) (TT 1 (W6 ((k+1:Nat):Int)∧TT 1 (AG (mQ p s j) k (k+1)))))))))) (TT 1 (W6 ((j+1:Nat):Int)∧TT 1 (AG (mP p s) j (j+1))))))))))))) (TT 2 (true=(bK p s)∧True))))))))))))) (TT 7 ((True∧(!decide ((s.Pe.length:Int)=(p.Pe.length:Int)))=true)∧TT 10 (false=(bK p s)∧True))))) (.s 1 ((s.Pe.length:Int)=(p.Pe.length:Int)) (.w 1 [(7,.val (dB false))]<|.b 23 (.e) (.l (mO p s) 0 (fun i=>.b 28 (.w 6 [(11,(MC (s.Pe.getD i 0) ((p.Pe.getD i aK).w)).O)]<|.b 43 (.e) (.w 5 [(1,.val (ob i))]<|.e)) (.l (mP p s) 0 (fun j=>.b 48 (.b 63 (.e) (.l (mQ p s j) 0 (fun k=>.b 71 (.w 16 [(14,(MC ((s.Pd.getD j []).getD k 0) ((p.Pd.getD j aA).w)).O)]<|.b 89 (.e) (.w 15 [(1,.val (i6 ((k+1:Nat):Int)))]<|.e)) (.w 10 [(1,.val (i6 ((j+1:Nat):Int)))]<|.e)))) (.e)))))) (.w 1 [(7,.val (dB true))]<|.e)) Try.func42 rfl rfl rfl (by kernel_rfl) ?_
 refine tt ⟨fun Ru=>?_,fun Ru=>?_⟩
 · refine tt ⟨(nF Ru),tt (cn (fun Wl=>?_) (fun Wl=>?_))⟩
   · refine tt ⟨?_,oK⟩
     first | exact(ii (by omega)).symm | exact(ij (by omega)).symm | exact(ik (i:=i) (by omega) (by simpa using Tz)).symm | exact(cD (i:=j) (by omega) (mA (by omega))).symm | exact(cD (i:=j) (by omega) (mB (j:=k) (by omega) (by simpa using Uy))).symm | exact(il (by omega) (by omega) (fun z hz=>h3 z (by omega)) (fun z hz=>h4 z (by omega))).symm
   · refine tt ⟨rfl,⟨by omega,fun z hz=>by omega⟩,?_⟩
     intro i F'
     obtain⟨hi,h3⟩:=F'
     refine tt (cd (fun SL=>?_) (fun SL=>?_))
     · have hrw:=aR.1 (show aI (p.Pe.getD i aK).w=true from (hp.rw i (by omega)).1)
       refine tt ⟨ix,tt ⟨ix,tt ⟨(ze (s.Pe.getD i 0) ((p.Pe.getD i aK).w) om om),tt ⟨fun Tz=>?_,fun Tz=>?_⟩⟩⟩⟩
       · refine tt ⟨?_,oK⟩
         first | exact(ii (by omega)).symm | exact(ij (by omega)).symm | exact(ik (i:=i) (by omega) (by simpa using Tz)).symm | exact(cD (i:=j) (by omega) (mA (by omega))).symm | exact(cD (i:=j) (by omega) (mB (j:=k) (by omega) (by simpa using Uy))).symm | exact(il (by omega) (by omega) (fun z hz=>h3 z (by omega)) (fun z hz=>h4 z (by omega))).symm
       · refine tt ⟨w6,tt ⟨(i+1),rfl,?_,(?_:s.Pe.length-(i+1)<s.Pe.length-i)⟩⟩
         · exact⟨by omega,bh h3 (by simpa using Tz)⟩
         · omega
     · refine tt ⟨rfl,⟨by omega,fun z hz=>by omega⟩,?_⟩
       intro j F'
       obtain⟨hj,h4⟩:=F'
       refine tt (cd (fun U0=>?_) (fun U0=>?_))
       · refine tt ⟨ix,tt ⟨ix,tt (cn (fun hc63=>?_) (fun hc63=>?_))⟩⟩
         · refine tt ⟨?_,oK⟩
           first | exact(ii (by omega)).symm | exact(ij (by omega)).symm | exact(ik (i:=i) (by omega) (by simpa using Tz)).symm | exact(cD (i:=j) (by omega) (mA (by omega))).symm | exact(cD (i:=j) (by omega) (mB (j:=k) (by omega) (by simpa using Uy))).symm | exact(il (by omega) (by omega) (fun z hz=>h3 z (by omega)) (fun z hz=>h4 z (by omega))).symm
         · have TE:1≤(p.Pd.getD j aA).words∧(p.Pd.getD j aA).words≤4:=(hp.mw j (by omega)).2.1
           refine tt ⟨rfl,⟨by omega,fun z hz=>by omega⟩,?_⟩
           intro k F'
           obtain⟨hk,h5⟩:=F'
           refine tt ⟨ix,tt (cd (fun RG=>?_) (fun RG=>?_))⟩
           · have hmww:=aR.1 (show aI (p.Pd.getD j aA).w=true from (hp.mw j (by omega)).1)
             refine tt ⟨ix,tt ⟨ix,tt ⟨ix,tt ⟨(ze ((s.Pd.getD j []).getD k 0) ((p.Pd.getD j aA).w) om om),tt ⟨fun Uy=>?_,fun Uy=>?_⟩⟩⟩⟩⟩
             · refine tt ⟨?_,oK⟩
               first | exact(ii (by omega)).symm | exact(ij (by omega)).symm | exact(ik (i:=i) (by omega) (by simpa using Tz)).symm | exact(cD (i:=j) (by omega) (mA (by omega))).symm | exact(cD (i:=j) (by omega) (mB (j:=k) (by omega) (by simpa using Uy))).symm | exact(il (by omega) (by omega) (fun z hz=>h3 z (by omega)) (fun z hz=>h4 z (by omega))).symm
             · refine tt ⟨w6,tt ⟨(k+1),rfl,?_,(?_:(s.Pd.getD j []).length-(k+1)<(s.Pd.getD j []).length-k)⟩⟩
               · exact⟨by omega,bh h5 (by simpa using Uy)⟩
               · omega
           · refine tt ⟨w6,tt ⟨(j+1),rfl,?_,(?_:s.Pd.length-(j+1)<s.Pd.length-j)⟩⟩
             · exact⟨by omega,bh h4 (HX (by omega) (fun z hz=>h5 z (by omega)))⟩
             · omega
       · refine tt ⟨?_,oK⟩
         first | exact(ii (by omega)).symm | exact(ij (by omega)).symm | exact(ik (i:=i) (by omega) (by simpa using Tz)).symm | exact(cD (i:=j) (by omega) (mA (by omega))).symm | exact(cD (i:=j) (by omega) (mB (j:=k) (by omega) (by simpa using Uy))).symm | exact(il (by omega) (by omega) (fun z hz=>h3 z (by omega)) (fun z hz=>h4 z (by omega))).symm
 · refine tt ⟨(nT Ru),tt ⟨?_,oK⟩⟩
   first | exact(ii (by omega)).symm | exact(ij (by omega)).symm | exact(ik (i:=i) (by omega) (by simpa using Tz)).symm | exact(cD (i:=j) (by omega) (mA (by omega))).symm | exact(cD (i:=j) (by omega) (mB (j:=k) (by omega) (by simpa using Uy))).symm | exact(il (by omega) (by omega) (fun z hz=>h3 z (by omega)) (fun z hz=>h4 z (by omega))).symm
abbrev N1 (p:Pr):Ct:=⟨80,[(CJ p)],true,(.agg [(LI ((bx p).Pe)),(dL 1 af [] ((bx p).Pd))])⟩
abbrev mR (p:Pr):Lp (Nat):=iC [1,2,3,4] 4 (fun (i:Nat)=>⟨[(1,jt),(2,(.ptr 1 0 0 0)),(3,(.ptr 2 0 0 0)),(4,(i6 (i:Int)))],[(oa p),(.var 74 [.nils,.nils]),(.var 74 [(.own 3),.nils]),(.arr 3 1 (aa .i64) 0 (tab (fun z=>(p.Pe.getD z aK).init) i))]⟩) (fun (i:Nat)=>i≤p.Pe.length) (fun (i:Nat)=>p.Pe.length-i)
abbrev mS (p:Pr) (i:Nat):Lp (Nat):=iC [1,2,3,5] 5 (fun (j:Nat)=>⟨[(1,jt),(2,(.ptr 1 0 0 0)),(3,(.ptr 2 0 0 0)),(5,(i6 (j:Int)))],[(oa p),(.var 74 [.nils,.nils]),(.var 74 [(.own 3),(.own 4)]),(.arr 3 1 (aa .i64) 0 (tab (fun z=>(p.Pe.getD z aK).init) i)),(.arr 54 1 af [] (tab (fun z=>List.replicate (p.Pd.getD z aA).words.toNat (0:Int)) j))]⟩) (fun (j:Nat)=>j≤p.Pd.length) (fun (j:Nat)=>p.Pd.length-j)
theorem Ea (p:Pr) (hp:hT p):CC (N1 p):=by
 have T4:=hp.rl
 have hl2:=hp.ml
 refine aq.vc (V:=TT 6 (GO (mR p) 0 (∀i,(mR p).inv i→TT 5 (CD ((i:Int)<(p.Pe.length:Int)) (TT 5 (IX (i:Int) p.Pe.length∧TT 2 (an [[(i6 ((p.Pe.getD i aK).init))]] ([(p.Pe.getD i aK).init].map (aa .i64))∧((tab (fun z=>(p.Pe.getD z aK).init) i).length+([(p.Pe.getD i aK).init].map (aa .i64)).length≤137438953472∧(tab (fun z=>(p.Pe.getD z aK).init) i).map (aa .i64)++[(p.Pe.getD i aK).init].map (aa .i64)=(tab (fun z=>(p.Pe.getD z aK).init) (i+1)).map (aa .i64))∧TT 3 (W6 ((i+1:Nat):Int)∧TT 1 (AG (mR p) i (i+1)))))) (TT 1 (GO (mS p i) 0 (∀j,(mS p i).inv j→TT 5 (CD ((j:Int)<(p.Pd.length:Int)) (TT 5 (IX (j:Int) p.Pd.length∧TT 2 ((((0:Int)≤(p.Pd.getD j aA).words∧(p.Pd.getD j aA).words≤(p.Pd.getD j aA).words∧(p.Pd.getD j aA).words≤137438953472)∧(List.replicate (p.Pd.getD j aA).words.toNat (0:Int)).length=((p.Pd.getD j aA).words).toNat∧∀x∈(List.replicate (p.Pd.getD j aA).words.toNat (0:Int)),dV [(i6 0)] ((aa .i64) x))∧an [[(LI (List.replicate (p.Pd.getD j aA).words.toNat (0:Int)))]] ([List.replicate (p.Pd.getD j aA).words.toNat (0:Int)].map af)∧((tab (fun z=>List.replicate (p.Pd.getD z aA).words.toNat (0:Int)) j).length+([List.replicate (p.Pd.getD j aA).words.toNat (0:Int)].map af).length≤137438953472∧(tab (fun z=>List.replicate (p.Pd.getD z aA).words.toNat (0:Int)) j).map af++[List.replicate (p.Pd.getD j aA).words.toNat (0:Int)].map af=(tab (fun z=>List.replicate (p.Pd.getD z aA).words.toNat (0:Int)) (j+1)).map af)∧TT 3 (W6 ((j+1:Nat):Int)∧TT 1 (AG (mS p i) j (j+1)))))) (TT 3 ((tab (fun z=>(p.Pe.getD z aK).init) i).map (aa .i64)=((bx p).Pe).map (aa .i64)∧(tab (fun z=>List.replicate (p.Pd.getD z aA).words.toNat (0:Int)) j).map af=((bx p).Pd).map af∧True)))))))))) (.g 2 2 0 3 1 (aa .i64) 0<|.l (mR p) 0 (fun i=>.b 11 (.w 5 [(8,.box 3 1 (aa .i64) 0 [(p.Pe.getD i aK).init]),(9,.box 3 1 (aa .i64) 0 (tab (fun z=>(p.Pe.getD z aK).init) (i+1)))]<|.w 4 [(1,.val (ob i))]<|.e) (.g 6 2 1 54 1 af []<|.l (mS p i) 0 (fun j=>.b 29 (.w 9 [(8,.frz 3 1 (aa .i64) 0 (List.replicate (p.Pd.getD j aA).words.toNat (0:Int))),(9,.box 54 1 af [] [List.replicate (p.Pd.getD j aA).words.toNat (0:Int)]),(10,.box 54 1 af [] (tab (fun z=>List.replicate (p.Pd.getD z aA).words.toNat (0:Int)) (j+1)))]<|.w 8 [(1,.val (i6 ((j+1:Nat):Int)))]<|.e) (.e))))) Try.func80 rfl rfl rfl (by kernel_rfl) ?_
 refine tt ⟨rfl,(by omega),?_⟩
 intro i F'
 have hi:=F'
 refine tt (cd (fun V'=>?_) (fun V'=>?_))
 · refine tt ⟨ix,tt ⟨⟨⟨rfl,oK⟩,oK⟩,⟨(pG (f:=fun z=>(p.Pe.getD z aK).init) (by omega)),tt ⟨w6,tt ⟨(i+1),rfl,(?_:(i+1)≤p.Pe.length),(?_:p.Pe.length-(i+1)<p.Pe.length-i)⟩⟩⟩⟩⟩
   · omega
   · omega
 · refine tt ⟨rfl,(by omega),?_⟩
   intro j F'
   have hj:=F'
   refine tt (cd (fun hc29=>?_) (fun hc29=>?_))
   · have TE:1≤(p.Pd.getD j aA).words∧(p.Pd.getD j aA).words≤4:=(hp.mw j (by omega)).2.1
     refine tt ⟨ix,tt ⟨⟨by omega,Pp,fun x hx=>by rw[PW hx];exact⟨rfl,oK⟩⟩,⟨⟨⟨rfl,oK⟩,oK⟩,⟨(pG (f:=fun z=>List.replicate (p.Pd.getD z aA).words.toNat (0:Int)) (by omega)),tt ⟨w6,tt ⟨(j+1),rfl,(?_:(j+1)≤p.Pd.length),(?_:p.Pd.length-(j+1)<p.Pd.length-j)⟩⟩⟩⟩⟩⟩
     · omega
     · omega
   · refine tt ⟨(congrArg _ (?_:(tab (fun z=>(p.Pe.getD z aK).init) i)=((bx p).Pe))),(congrArg _ (?_:(tab (fun z=>List.replicate (p.Pd.getD z aA).words.toNat (0:Int)) j)=((bx p).Pd))),oK⟩
     · rw[yx,show i=p.Pe.length by omega]
     · rw[yx,show j=p.Pd.length by omega]
abbrev l5 (p:Pr) (s:Ps) (data:List Int) (n:Nat) (e:Ex):Ct:=⟨103,[(GL p s data),(.agg [(i6 e.op),(dS e.name),(i6 e.k.n),(dS e.k.p),(i6 e.w.n),(dS e.w.p),(dL 7 (eA n) dE e.args)])],false,(.agg [(i6 ((bH p s data e).1)),(i6 ((bH p s data e).2))])⟩
abbrev sq (p:Pr) (s:Ps) (data:List Int) (n:Nat) (e:Ex):Lp (Nat):=iC [2,3,4,7,8,9] 5 (fun (i:Nat)=>⟨[(2,jt),(3,(.ptr 1 0 0 0)),(4,(.ptr 2 0 0 0)),(7,(.own 3)),(8,(.own 4)),(9,(i6 (i:Int)))],[(GK p s data),(.var 64 [(i6 e.op),(dS e.name),(i6 e.k.n),(dS e.k.p),(i6 e.w.n),(dS e.w.p),(dL 7 (eA (n+1)) dE e.args)]),(.var 184 [(i6 0),(i6 0)]),(.arr 3 1 (aa .i64) 0 (jd p s data (e.args.take i))),(.arr 3 1 (aa .i64) 0 (fw p s data (e.args.take i)))]⟩) (fun (i:Nat)=>i≤e.args.length) (fun (i:Nat)=>e.args.length-i)
theorem CM (p:Pr) (s:Ps) (data:List Int) (n:Nat) (e:Ex) (c:Sc) (v:Int) (ho:uz c p s data) (ht:dQ c e=some v) (TE:∀i,i<p.Pd.length→((s.Pd.getD i []).length:Int)=(p.Pd.getD i aA).words) (ih:∀a∈e.args,CC (l5 p s data n a)):CC (l5 p s data (n+1) e):=by
 have Sb:=Kb ht
 refine aq.vc (V:=TT 7 (CD (e.op=16) (TT 6 (IX e.k.n s.Pe.length∧TT 7 (IX e.k.n p.Pe.length∧TT 5 ((((s.Pe.getD e.k.n.toNat 0)=((bH p s data e).1)∧((p.Pe.getD e.k.n.toNat aK).w)=((bH p s data e).2)∧True))∧((True∧True∧True)))))) (TT 2 (CD (e.op=17) (TT 6 (IX e.k.n p.Pd.length∧TT 6 (IX 0 e.args.length∧TT 1 (CC (l5 p s data n (e.args.getD 0 dE))∧TT 8 (IX e.k.n s.Pd.length∧TT 5 ((((p.Pd.getD e.k.n.toNat aA).words)≠0∧(Int.tmod ((bH p s data (e.args.getD 0 dE)).1) ((p.Pd.getD e.k.n.toNat aA).words))=(Int.tmod (bH p s data (e.args.getD 0 dE)).1 ((s.Pd.getD e.k.n.toNat []).length:Int)))∧IX (Int.tmod (bH p s data (e.args.getD 0 dE)).1 ((s.Pd.getD e.k.n.toNat []).length:Int)) ((s.Pd.getD e.k.n.toNat []).length)∧TT 6 (((((s.Pd.getD e.k.n.toNat []).getD ((Int.tmod (bH p s data (e.args.getD 0 dE)).1 ((s.Pd.getD e.k.n.toNat []).length:Int)).toNat) 0)=((bH p s data e).1)∧((p.Pd.getD e.k.n.toNat aA).w)=((bH p s data e).2)∧True))∧((True∧True∧True))))))))) (TT 2 (CD (e.op=18) (TT 5 (IX e.k.n data.length∧TT 7 (IX e.k.n p.I.length∧TT 5 ((((data.getD e.k.n.toNat 0)=((bH p s data e).1)∧((p.I.getD e.k.n.toNat bV).w)=((bH p s data e).2)∧True))∧((True∧True∧True)))))) (an [] ((jd p s data (e.args.take 0)).map (aa .i64))∧an [] ((fw p s data (e.args.take 0)).map (aa .i64))∧TT 3 (GO (sq p s data n e) 0 (∀i,(sq p s data n e).inv i→TT 5 (CD ((i:Int)<(e.args.length:Int)) (TT 4 (IX (i:Int) e.args.length∧TT 1 (CC (l5 p s data n (e.args.getD i dE))∧TT 5 (an [[(i6 ((bH p s data (e.args.getD i dE)).1))]] ([(bH p s data (e.args.getD i dE)).1].map (aa .i64))∧((jd p s data (e.args.take i)).length+([(bH p s data (e.args.getD i dE)).1].map (aa .i64)).length≤137438953472∧(jd p s data (e.args.take i)).map (aa .i64)++[(bH p s data (e.args.getD i dE)).1].map (aa .i64)=(jd p s data (e.args.take (i+1))).map (aa .i64))∧TT 4 (an [[(i6 ((bH p s data (e.args.getD i dE)).2))]] ([(bH p s data (e.args.getD i dE)).2].map (aa .i64))∧((fw p s data (e.args.take i)).length+([(bH p s data (e.args.getD i dE)).2].map (aa .i64)).length≤137438953472∧(fw p s data (e.args.take i)).map (aa .i64)++[(bH p s data (e.args.getD i dE)).2].map (aa .i64)=(fw p s data (e.args.take (i+1))).map (aa .i64))∧TT 2 (W6 ((i+1:Nat):Int)∧TT 1 (AG (sq p s data n e) i (i+1)))))))) (TT 10 (CK (GI e.op (fw p s data (e.args.take i)) e.k.n e.w.n)∧TT 12 (an [[(i6 e.k.n)],[(i6 e.w.n)]] ([e.k.n,e.w.n].map (aa .i64))∧TT 1 (CK (KY e.op (fw p s data (e.args.take i)) (jd p s data (e.args.take i)) [e.k.n,e.w.n])∧TT 9 ((((fu e.op (fw p s data (e.args.take i)) (jd p s data (e.args.take i)) [e.k.n,e.w.n])=((bH p s data e).1)∧(cB e.op (fw p s data (e.args.take i)) e.k.n e.w.n)=((bH p s data e).2)∧True))∧((True∧True∧True))))))))))))))))) (.b 15 (.e) (.b 35 (.w 6 [(5,(l5 p s data n (e.args.getD 0 dE)).O)]<|.w 7 [(12,.val (i6 (Int.tmod (bH p s data (e.args.getD 0 dE)).1 ((s.Pd.getD e.k.n.toNat []).length:Int))))]<|.e) (.b 69 (.e) (.w 10 [(0,.box 3 1 (aa .i64) 0 (jd p s data (e.args.take 0))),(1,.box 3 1 (aa .i64) 0 (fw p s data (e.args.take 0)))]<|.l (sq p s data n e) 0 (fun i=>.b 94 (.w 14 [(6,(l5 p s data n (e.args.getD i dE)).O)]<|.w 15 [(3,.box 3 1 (aa .i64) 0 [(bH p s data (e.args.getD i dE)).1]),(4,.box 3 1 (aa .i64) 0 (jd p s data (e.args.take (i+1))))]<|.w 16 [(3,.box 3 1 (aa .i64) 0 [(bH p s data (e.args.getD i dE)).2]),(4,.box 3 1 (aa .i64) 0 (fw p s data (e.args.take (i+1))))]<|.w 13 [(1,.val (ob i))]<|.e) (.w 17 [(10,(GI e.op (fw p s data (e.args.take i)) e.k.n e.w.n).O')]<|.w 18 [(10,.box 3 1 (aa .i64) 0 [e.k.n,e.w.n]),(12,(KY e.op (fw p s data (e.args.take i)) (jd p s data (e.args.take i)) [e.k.n,e.w.n]).O')]<|.e)))))) Try.func103 rfl rfl rfl (by kernel_rfl) ?_
 refine tt (cd (fun R3=>?_) (fun R3=>?_))
 · obtain⟨h1,h2,h3⟩:=Kc ho ht R3
   refine tt ⟨ix,tt ⟨ix,tt ⟨⟨?_,?_,oK⟩,⟨oK,oK,oK⟩⟩⟩⟩
   all_goals (first | exact(lK R3).1.symm | exact(lK R3).2.symm | exact(jk Sv).1.symm | exact(jk Sv).2.symm | exact(jl RX RA).1.symm | exact(jl RX RA).2.symm | (rw[SK,Qr];exact(rb R3 Sv RX).1.symm) | (rw[SK,Qr];exact(rb R3 Sv RX).2.symm))
 · refine tt (cd (fun RX=>?_) (fun RX=>?_))
   · obtain⟨h1,h2,h3,RA,h4,h5,h6⟩:=HM ho ht RX
     have Wz:(p.Pd.getD e.k.n.toNat aA).words=((s.Pd.getD e.k.n.toNat []).length:Int):=(TE _ (by omega)).symm
     have hz:(s.Pd.getD e.k.n.toNat []).length≠0:=by omega
     refine tt ⟨ix,tt ⟨ix,tt ⟨(ih _ (mu (by omega))),tt ⟨ix,tt ⟨⟨(by omega),(by rw[Wz])⟩,⟨ix,tt ⟨⟨?_,?_,oK⟩,⟨oK,oK,oK⟩⟩⟩⟩⟩⟩⟩⟩
     all_goals (first | exact(lK R3).1.symm | exact(lK R3).2.symm | exact(jk Sv).1.symm | exact(jk Sv).2.symm | exact(jl RX RA).1.symm | exact(jl RX RA).2.symm | (rw[SK,Qr];exact(rb R3 Sv RX).1.symm) | (rw[SK,Qr];exact(rb R3 Sv RX).2.symm))
   · refine tt (cd (fun Sv=>?_) (fun Sv=>?_))
     · obtain⟨h1,h2,h3⟩:=HL ho ht Sv
       refine tt ⟨ix,tt ⟨ix,tt ⟨⟨?_,?_,oK⟩,⟨oK,oK,oK⟩⟩⟩⟩
       all_goals (first | exact(lK R3).1.symm | exact(lK R3).2.symm | exact(jk Sv).1.symm | exact(jk Sv).2.symm | exact(jl RX RA).1.symm | exact(jl RX RA).2.symm | (rw[SK,Qr];exact(rb R3 Sv RX).1.symm) | (rw[SK,Qr];exact(rb R3 Sv RX).2.symm))
     · refine⟨oK,⟨oK,tt ⟨rfl,(by omega),?_⟩⟩⟩
       intro i F'
       have hi:=F'
       refine tt (cd (fun hc94=>?_) (fun hc94=>?_))
       · refine tt ⟨ix,tt ⟨(ih _ (mu (by omega))),tt ⟨⟨⟨rfl,oK⟩,oK⟩,⟨⟨by simp only[Py,P8,PP];rw[yl,PD];omega,by rw[DI (by omega),P9]⟩,tt ⟨⟨⟨rfl,oK⟩,oK⟩,⟨⟨by simp only[Py,P8,PP];rw[ym,PD];omega,by rw[DJ (by omega),P9]⟩,tt ⟨w6,tt ⟨(i+1),rfl,(?_:(i+1)≤e.args.length),(?_:e.args.length-(i+1)<e.args.length-i)⟩⟩⟩⟩⟩⟩⟩⟩
         · omega
         · omega
       · have SK:i=e.args.length:=by omega
         have hev:=FO ho ht R3 RX Sv
         have hev1:jc e.op (fw p s data (e.args.take i)) e.k.n e.w.n=true:=by rw[SK,Qr];exact hev.1
         have hev2:DD (fw p s data (e.args.take i)) (jd p s data (e.args.take i))=true:=by rw[SK,Qr];exact hev.2
         refine tt ⟨⟨lH _ rfl,(tY e.op (fw p s data (e.args.take i)) e.k.n e.w.n hev1)⟩,tt ⟨⟨⟨rfl,oK⟩,⟨rfl,oK⟩,oK⟩,tt ⟨⟨lH _ rfl,(AP e.op (fw p s data (e.args.take i)) (jd p s data (e.args.take i)) [e.k.n,e.w.n] hev1 (by rw[yl,ym]) hev2 rfl)⟩,tt ⟨⟨?_,?_,oK⟩,⟨oK,oK,oK⟩⟩⟩⟩⟩
         all_goals (first | exact(lK R3).1.symm | exact(lK R3).2.symm | exact(jk Sv).1.symm | exact(jk Sv).2.symm | exact(jl RX RA).1.symm | exact(jl RX RA).2.symm | (rw[SK,Qr];exact(rb R3 Sv RX).1.symm) | (rw[SK,Qr];exact(rb R3 Sv RX).2.symm))
theorem jT {c:Sc} {p:Pr} {s:Ps} {data:List Int} (ho:uz c p s data) (TE:∀i,i<p.Pd.length→((s.Pd.getD i []).length:Int)=(p.Pd.getD i aA).words):∀(n:Nat) (e:Ex) (v:Int),dQ c e=some v→eN e≤n+1→CC (l5 p s data n e)
  | 0,e,v,ht,hd=>by
    have ha:e.args=[]:=by
      cases hl:e.args with
      | nil=>rfl
      | cons a r =>
        have:=wO (e:=e) (a:=a) (by rw[hl];simp)
        cases a with | mk op name k w args=>rw[eN]at this;omega
    have h:=CM p s data 0 e c v ho ht TE (fun a h=>by rw[ha]at h;cases h)
    refine aq.recast ?_ h
    refine⟨yj _ rfl,⟨rfl,rfl,rfl,rfl,rfl,rfl,?_,oK⟩,oK⟩
    show e.args.map (eA 0)=e.args.map (eA 1)
    rw[ha];rfl
  | n+1,e,v,ht,hd=>CM p s data n e c v ho ht TE (fun a h=>by
    obtain⟨w,hw⟩:=Ka ht h
    exact jT ho TE n a w hw (by have:=wO h;omega))
abbrev oX (p:Pr) (s:Ps) (data:List Int) (e:Ex):Ct:=⟨101,[(GL p s data),(.agg [(i6 e.op),(dS e.name),(i6 e.k.n),(dS e.k.p),(i6 e.w.n),(dS e.w.p),(dL 7 (eA 2) dE e.args)])],false,(dB (ff p s data e))⟩
theorem tZ (p:Pr) (s:Ps) (data:List Int) (e:Ex) {c:Sc} {v:Int} (ho:uz c p s data) (TE:∀i,i<p.Pd.length→((s.Pd.getD i []).length:Int)=(p.Pd.getD i aA).words) (ht:dQ c e=some v) (hd:eN e≤3):CC (oX p s data e):=by
 refine aq.vc (V:=TT 5 (CC (l5 p s data 2 e)∧TT 4 ((((bH p s data e).1)==1)=(ff p s data e)∧True))) (.w 1 [(2,(l5 p s data 2 e).O)]<|.e) Try.func101 rfl rfl rfl (by kernel_rfl) ?_
 refine tt ⟨(jT ho TE 2 e _ ht hd),tt ⟨?_,oK⟩⟩
 rfl
abbrev KZ (p:Pr) (s:Ps) (hs:List Hd) (rs:List Bool):Ct:=⟨100,[(CJ p),(.agg (lZ s)),(.agg [(dL 2 iH cQ hs),(LB rs)])],true,(.agg [(dS p.name),(dS p.clock),(dL 13 bG aK p.Pe),(dL 27 bS aA p.Pd),(dL 9 dU bV p.I),(dL 16 dT b4 p.Pc),(LI s.Pe),(dL 1 af [] s.Pd),(LI (bW p s hs))])⟩
abbrev f8 (p:Pr) (s:Ps) (hs:List Hd) (rs:List Bool):Lp (Nat×List Int):=o0 [3,5,6,7,8,9] 20 (fun (i:Nat) (Tp:List Int)=>⟨[(3,jt),(5,(.ptr 2 0 0 0)),(6,(.ptr 3 0 0 0)),(7,(.ptr 11 0 0 0)),(8,(.ptr 19 0 0 0)),(9,(i6 (i:Int)))],[(oa p),(.var 74 (lZ s)),(.var 176 [(dL 2 iH cQ hs),(LB rs)]),(.var 179 [(dS e0),(dS e0),.nils,.nils,.nils,.nils,.nils,.nils,.nils]),.dead,.dead,.dead,.dead,.dead,.dead,.dead,(.var 179 [(dS p.name),(dS p.clock),(dL 13 bG aK p.Pe),(dL 27 bS aA p.Pd),(dL 9 dU bV p.I),(dL 16 dT b4 p.Pc),(LI s.Pe),(dL 1 af [] s.Pd),(LI (nR p))]),.dead,.dead,.dead,.dead,.dead,(.arr 3 1 (aa .i64) 0 Tp),.dead,(.var 179 [(dS p.name),(dS p.clock),(dL 13 bG aK p.Pe),(dL 27 bS aA p.Pd),(dL 9 dU bV p.I),(dL 16 dT b4 p.Pc),(LI s.Pe),(dL 1 af [] s.Pd),(.own 17)])]⟩) (fun (i:Nat) (Tp:List Int)=>i≤p.I.length∧Tp=gN (DM p s hs) (nR p) i) (fun (i:Nat) (Tp:List Int)=>p.I.length-i)
theorem AQ (p:Pr) (s:Ps) (hs:List Hd) (rs:List Bool) (hp:hT p) (Un:lM p s) (hh:DQ p hs):CC (KZ p s hs rs):=by
 have ht1:=hp.tl
 have ht2:=hp.pl
 have hhl:=hh.l
 have TE:=Un.mn
 have ho:=iL hp Un (LV hp)
 refine aq.vc (V:=TT 9 ((((0:Int)≤(p.I.length:Int)∧(p.I.length:Int)≤(p.I.length:Int)∧(p.I.length:Int)≤137438953472)∧(nR p).length=p.I.length∧∀x∈(nR p),dV [(i6 0)] ((aa .i64) x))∧TT 8 ((((0:Int)≤(p.I.length:Int)∧(p.I.length:Int)≤(p.I.length:Int)∧(p.I.length:Int)≤137438953472)∧(nR p).length=p.I.length∧∀x∈(nR p),dV [(i6 0)] ((aa .i64) x))∧TT 4 (GO (f8 p s hs rs) (0,nR p) (∀i Tp,(f8 p s hs rs).inv (i,Tp)→TT 5 (CD ((i:Int)<(p.I.length:Int)) (CS ((ff p s (nR p) ((p.I.getD i bV).when))=true) (TT 4 (IX (i:Int) p.I.length∧TT 2 (CC (oX p s (nR p) ((p.I.getD i bV).when))∧(True∧(ff p s (nR p) ((p.I.getD i bV).when))=true)∧TT 3 (IX (i:Int) hs.length∧TT 3 (CB ((hs.getD i cQ).has) (TT 6 (IX (i:Int) hs.length∧TT 2 (IX (i:Int) Tp.length∧(i<Tp.length∧(Tp.map (aa .i64)).set i (((aa .i64) (Tp.getD i 0)).take 0++[(.int .i64 ((hs.getD i cQ).v))]++((aa .i64) (Tp.getD i 0)).drop (0+1))=(Tp.set i ((hs.getD i cQ).v)).map (aa .i64))∧TT 1 (W6 ((i+1:Nat):Int)∧TT 1 (AG (f8 p s hs rs) (i,Tp) (i+1,Tp.set i ((hs.getD i cQ).v))))))) (TT 1 (W6 ((i+1:Nat):Int)∧TT 1 (AG (f8 p s hs rs) (i,Tp) (i+1,Tp))))))))) (TT 4 (IX (i:Int) p.I.length∧TT 2 (CC (oX p s (nR p) ((p.I.getD i bV).when))∧(True∧(ff p s (nR p) ((p.I.getD i bV).when))=false)∧TT 2 (W6 ((i+1:Nat):Int)∧TT 1 (AG (f8 p s hs rs) (i,Tp) (i+1,Tp))))))) (TT 3 (p.name=p.name∧p.clock=p.clock∧p.Pe.map bG=p.Pe.map bG∧p.Pd.map bS=p.Pd.map bS∧p.I.map dU=p.I.map dU∧p.Pc.map dT=p.Pc.map dT∧s.Pe.map (aa .i64)=s.Pe.map (aa .i64)∧s.Pd.map af=s.Pd.map af∧Tp.map (aa .i64)=(bW p s hs).map (aa .i64)∧True)))))))) (.w 1 [(5,.frz 3 1 (aa .i64) 0 (nR p))]<|.w 2 [(5,.box 3 1 (aa .i64) 0 (nR p))]<|.l (f8 p s hs rs) (0,nR p) (fun ⟨i,Tp⟩=>.b 28 (.s 6 ((ff p s (nR p) ((p.I.getD i bV).when))=true) (.w 6 [(7,(oX p s (nR p) ((p.I.getD i bV).when)).O),(8,.val (dB true))]<|.b 46 (.w 7 [(10,.box 3 1 (aa .i64) 0 (Tp.set i ((hs.getD i cQ).v)))]<|.w 5 [(1,.val (ob i))]<|.e) (.w 5 [(1,.val (ob i))]<|.e)) (.w 6 [(7,(oX p s (nR p) ((p.I.getD i bV).when)).O),(8,.val (dB false))]<|.w 5 [(1,.val (ob i))]<|.e)) (.e))) Try.func100 rfl rfl rfl (by kernel_rfl) ?_
 refine tt ⟨⟨by omega,lO,fun x hx=>by rw[PW hx];exact⟨rfl,oK⟩⟩,tt ⟨⟨by omega,lO,fun x hx=>by rw[PW hx];exact⟨rfl,oK⟩⟩,tt ⟨rfl,⟨by omega,rfl⟩,?_⟩⟩⟩
 intro i Tp F'
 obtain⟨hi,Wn⟩:=F'
 have hdl:Tp.length=p.I.length:=by rw[Wn,cK (by rw[lO];exact hi),lO]
 refine tt (cd (fun SL=>?_) (fun SL=>?_))
 · have WA:=wZ hp (show i<p.I.length by omega)
   refine⟨fun Ru=>?_,fun Ru=>?_⟩
   · refine tt ⟨ix,tt ⟨(tZ p s (nR p) ((p.I.getD i bV).when) ho TE WA.1 WA.2),⟨(bT Ru),tt ⟨ix,tt ⟨fun SB=>?_,fun SB=>?_⟩⟩⟩⟩⟩
     · refine tt ⟨ix,tt ⟨ix,⟨⟨om,by simp only[P0];rfl⟩,tt ⟨w6,tt ⟨(i+1,Tp.set i ((hs.getD i cQ).v)),rfl,?_,(?_:p.I.length-(i+1)<p.I.length-i)⟩⟩⟩⟩⟩
       · exact⟨by omega,by rw[Wn];exact bU (by rw[lO];omega) (HZ Ru SB)⟩
       · omega
     · refine tt ⟨w6,tt ⟨(i+1,Tp),rfl,?_,(?_:p.I.length-(i+1)<p.I.length-i)⟩⟩
       · exact⟨by omega,by rw[Wn];exact jL (by rw[lO];omega) (by first | exact B1 (by assumption) | exact B2 (by rw[SB];simp))⟩
       · omega
   · refine tt ⟨ix,tt ⟨(tZ p s (nR p) ((p.I.getD i bV).when) ho TE WA.1 WA.2),⟨(bF Ru),tt ⟨w6,tt ⟨(i+1,Tp),rfl,?_,(?_:p.I.length-(i+1)<p.I.length-i)⟩⟩⟩⟩⟩
     · exact⟨by omega,by rw[Wn];exact jL (by rw[lO];omega) (by first | exact B1 (by assumption) | exact B2 (by rw[SB];simp))⟩
     · omega
 · refine tt ⟨rfl,rfl,rfl,rfl,rfl,rfl,rfl,rfl,(congrArg _ (?_:Tp=(bW p s hs))),oK⟩
   rw[Wn,show i=p.I.length by omega,b7 (by rw[lO];exact Pl _)];rfl
abbrev K0 (p:Pr) (s:Ps) (data:List Int):Ct:=⟨102,[(GL p s data)],true,(.agg [(LI ((dY p s data).Pe)),(dL 1 af [] ((dY p s data).Pd))])⟩
abbrev pR (p:Pr) (s:Ps) (data:List Int):Lp (Nat):=iC [1,2,3,4] 4 (fun (i:Nat)=>⟨[(1,jt),(2,(.ptr 1 0 0 0)),(3,(.ptr 2 0 0 0)),(4,(i6 (i:Int)))],[(GK p s data),(.var 74 [.nils,.nils]),(.var 74 [(.own 3),.nils]),(.arr 3 1 (aa .i64) 0 (tab (fun z=>(bH p s data (p.Pe.getD z aK).next).1) i))]⟩) (fun (i:Nat)=>i≤p.Pe.length) (fun (i:Nat)=>p.Pe.length-i)
abbrev l6 (p:Pr) (s:Ps) (data:List Int) (i:Nat):Lp (Nat):=iC [1,2,3,5] 5 (fun (j:Nat)=>⟨[(1,jt),(2,(.ptr 1 0 0 0)),(3,(.ptr 2 0 0 0)),(5,(i6 (j:Int)))],[(GK p s data),(.var 74 [.nils,.nils]),(.var 74 [(.own 3),(.own 4)]),(.arr 3 1 (aa .i64) 0 (tab (fun z=>(bH p s data (p.Pe.getD z aK).next).1) i)),(.arr 54 1 af [] (tab (zA p s data) j))]⟩) (fun (j:Nat)=>j≤p.Pd.length) (fun (j:Nat)=>p.Pd.length-j)
theorem GM (p:Pr) (s:Ps) (data:List Int) (hp:hT p) (Un:lM p s) (hda:DP p data):CC (K0 p s data):=by
 have T4:=hp.rl
 have hl2:=hp.ml
 have TE:=Un.mn
 have ho:=iL hp Un hda
 have hsl:=Un.ml
 refine aq.vc (V:=TT 6 (GO (pR p s data) 0 (∀i,(pR p s data).inv i→TT 6 (CD ((i:Int)<(p.Pe.length:Int)) (TT 7 (IX (i:Int) p.Pe.length∧TT 2 (CC (l5 p s data 2 ((p.Pe.getD i aK).next))∧TT 1 (an [[(i6 ((bH p s data ((p.Pe.getD i aK).next)).1))]] ([(bH p s data ((p.Pe.getD i aK).next)).1].map (aa .i64))∧((tab (fun z=>(bH p s data (p.Pe.getD z aK).next).1) i).length+([(bH p s data ((p.Pe.getD i aK).next)).1].map (aa .i64)).length≤137438953472∧(tab (fun z=>(bH p s data (p.Pe.getD z aK).next).1) i).map (aa .i64)++[(bH p s data ((p.Pe.getD i aK).next)).1].map (aa .i64)=(tab (fun z=>(bH p s data (p.Pe.getD z aK).next).1) (i+1)).map (aa .i64))∧TT 3 (W6 ((i+1:Nat):Int)∧TT 1 (AG (pR p s data) i (i+1))))))) (TT 1 (GO (l6 p s data i) 0 (∀j,(l6 p s data i).inv j→TT 6 (CD ((j:Int)<(p.Pd.length:Int)) (TT 4 (IX (j:Int) p.Pd.length∧TT 3 (an [] (([]:List Int).map (aa .i64))∧TT 4 (IX (j:Int) s.Pd.length∧TT 1 ((([]:List Int).length+((s.Pd.getD j []).map (aa .i64)).length≤137438953472∧([]:List Int).map (aa .i64)++(s.Pd.getD j []).map (aa .i64)=(s.Pd.getD j []).map (aa .i64))∧TT 4 (CC (oX p s data ((p.Pd.getD j aA).enable))∧CB (ff p s data ((p.Pd.getD j aA).enable)) (TT 4 (CC (l5 p s data 2 ((p.Pd.getD j aA).addr))∧TT 3 (((p.Pd.getD j aA).words)≠0∧TT 3 (CC (l5 p s data 2 ((p.Pd.getD j aA).data))∧TT 1 (IX (Int.tmod ((bH p s data ((p.Pd.getD j aA).addr)).1) ((p.Pd.getD j aA).words)) ((s.Pd.getD j []).length)∧((Int.tmod ((bH p s data ((p.Pd.getD j aA).addr)).1) ((p.Pd.getD j aA).words)).toNat<(s.Pd.getD j []).length∧((s.Pd.getD j []).map (aa .i64)).set ((Int.tmod ((bH p s data ((p.Pd.getD j aA).addr)).1) ((p.Pd.getD j aA).words)).toNat) (((aa .i64) ((s.Pd.getD j []).getD ((Int.tmod ((bH p s data ((p.Pd.getD j aA).addr)).1) ((p.Pd.getD j aA).words)).toNat) 0)).take 0++[(.int .i64 ((bH p s data ((p.Pd.getD j aA).data)).1))]++((aa .i64) ((s.Pd.getD j []).getD ((Int.tmod ((bH p s data ((p.Pd.getD j aA).addr)).1) ((p.Pd.getD j aA).words)).toNat) 0)).drop (0+1))=((s.Pd.getD j []).set ((Int.tmod ((bH p s data ((p.Pd.getD j aA).addr)).1) ((p.Pd.getD j aA).words)).toNat) ((bH p s data ((p.Pd.getD j aA).data)).1)).map (aa .i64))∧TT 3 (an [[(LI ((s.Pd.getD j []).set ((Int.tmod ((bH p s data ((p.Pd.getD j aA).addr)).1) ((p.Pd.getD j aA).words)).toNat) ((bH p s data ((p.Pd.getD j aA).data)).1)))]] ([(s.Pd.getD j []).set ((Int.tmod ((bH p s data ((p.Pd.getD j aA).addr)).1) ((p.Pd.getD j aA).words)).toNat) ((bH p s data ((p.Pd.getD j aA).data)).1)].map af)∧((tab (zA p s data) j).length+([(s.Pd.getD j []).set ((Int.tmod ((bH p s data ((p.Pd.getD j aA).addr)).1) ((p.Pd.getD j aA).words)).toNat) ((bH p s data ((p.Pd.getD j aA).data)).1)].map af).length≤137438953472∧(tab (zA p s data) j).map af++[(s.Pd.getD j []).set ((Int.tmod ((bH p s data ((p.Pd.getD j aA).addr)).1) ((p.Pd.getD j aA).words)).toNat) ((bH p s data ((p.Pd.getD j aA).data)).1)].map af=(tab (zA p s data) (j+1)).map af)∧TT 3 (W6 ((j+1:Nat):Int)∧TT 1 (AG (l6 p s data i) j (j+1))))))))) (TT 3 (an [[(LI (s.Pd.getD j []))]] ([s.Pd.getD j []].map af)∧((tab (zA p s data) j).length+([s.Pd.getD j []].map af).length≤137438953472∧(tab (zA p s data) j).map af++[s.Pd.getD j []].map af=(tab (zA p s data) (j+1)).map af)∧TT 3 (W6 ((j+1:Nat):Int)∧TT 1 (AG (l6 p s data i) j (j+1))))))))))) (TT 3 ((tab (fun z=>(bH p s data (p.Pe.getD z aK).next).1) i).map (aa .i64)=((dY p s data).Pe).map (aa .i64)∧(tab (zA p s data) j).map af=((dY p s data).Pd).map af∧True)))))))))) (.g 2 2 0 3 1 (aa .i64) 0<|.l (pR p s data) 0 (fun i=>.b 14 (.w 5 [(10,(l5 p s data 2 ((p.Pe.getD i aK).next)).O),(12,.box 3 1 (aa .i64) 0 [(bH p s data ((p.Pe.getD i aK).next)).1]),(13,.box 3 1 (aa .i64) 0 (tab (fun z=>(bH p s data (p.Pe.getD z aK).next).1) (i+1)))]<|.w 4 [(1,.val (ob i))]<|.e) (.g 6 2 1 54 1 af []<|.l (l6 p s data i) 0 (fun j=>.b 37 (.w 10 [(0,.box 3 1 (aa .i64) 0 ([]:List Int)),(7,.box 3 1 (aa .i64) 0 (s.Pd.getD j []))]<|.w 11 [(3,(oX p s data ((p.Pd.getD j aA).enable)).O)]<|.b 57 (.w 12 [(4,(l5 p s data 2 ((p.Pd.getD j aA).addr)).O),(12,(l5 p s data 2 ((p.Pd.getD j aA).data)).O),(15,.box 3 1 (aa .i64) 0 ((s.Pd.getD j []).set ((Int.tmod ((bH p s data ((p.Pd.getD j aA).addr)).1) ((p.Pd.getD j aA).words)).toNat) ((bH p s data ((p.Pd.getD j aA).data)).1)))]<|.f 13 6<|.w 13 [(3,.box 54 1 af [] [(s.Pd.getD j []).set ((Int.tmod ((bH p s data ((p.Pd.getD j aA).addr)).1) ((p.Pd.getD j aA).words)).toNat) ((bH p s data ((p.Pd.getD j aA).data)).1)]),(4,.box 54 1 af [] (tab (zA p s data) (j+1)))]<|.w 8 [(1,.val (i6 ((j+1:Nat):Int)))]<|.e) (.f 13 6<|.w 13 [(3,.box 54 1 af [] [s.Pd.getD j []]),(4,.box 54 1 af [] (tab (zA p s data) (j+1)))]<|.w 8 [(1,.val (i6 ((j+1:Nat):Int)))]<|.e)) (.e))))) Try.func102 rfl rfl rfl (by kernel_rfl) ?_
 refine tt ⟨rfl,(by omega),?_⟩
 intro i F'
 have hi:=F'
 refine tt (cd (fun U1=>?_) (fun U1=>?_))
 · have hrn:=hp.rw i (by omega)
   refine tt ⟨ix,tt ⟨(jT ho TE 2 ((p.Pe.getD i aK).next) _ hrn.2.2.1 hrn.2.2.2),tt ⟨⟨⟨rfl,oK⟩,oK⟩,⟨(pG (f:=fun z=>(bH p s data (p.Pe.getD z aK).next).1) (by omega)),tt ⟨w6,tt ⟨(i+1),rfl,(?_:(i+1)≤p.Pe.length),(?_:p.Pe.length-(i+1)<p.Pe.length-i)⟩⟩⟩⟩⟩⟩
   · omega
   · omega
 · refine tt ⟨rfl,(by omega),?_⟩
   intro j F'
   have hj:=F'
   refine tt (cd (fun TR=>?_) (fun TR=>?_))
   · have hmz:1≤(p.Pd.getD j aA).words∧(p.Pd.getD j aA).words≤4:=(hp.mw j (by omega)).2.1
     have W8:((s.Pd.getD j []).length:Int)=(p.Pd.getD j aA).words:=Un.mn j (by omega)
     have T6:=(hp.mw j (by omega)).2.2.1
     have hmb:=(hp.mw j (by omega)).2.2.2
     obtain⟨va,hma⟩:=hmb.1.1
     have had:0≤Int.tmod (bH p s data (p.Pd.getD j aA).addr).1 (p.Pd.getD j aA).words∧Int.tmod (bH p s data (p.Pd.getD j aA).addr).1 (p.Pd.getD j aA).words<(s.Pd.getD j []).length∧(p.Pd.getD j aA).words≠0:=H0 hp Un hda (show j<p.Pd.length by omega)
     refine tt ⟨ix,tt ⟨oK,tt ⟨ix,tt ⟨⟨by simp only[Py,PP];omega,by simp⟩,tt ⟨(tZ p s data ((p.Pd.getD j aA).enable) ho TE T6.1 T6.2),⟨fun Tn=>?_,fun Tn=>?_⟩⟩⟩⟩⟩⟩
     · refine tt ⟨(jT ho TE 2 ((p.Pd.getD j aA).addr) _ hma hmb.1.2),tt ⟨om,tt ⟨(jT ho TE 2 ((p.Pd.getD j aA).data) _ hmb.2.1 hmb.2.2),tt ⟨ix,⟨⟨om,by simp only[P0];rfl⟩,tt ⟨⟨⟨rfl,oK⟩,oK⟩,⟨(aY (by omega) (by first | exact FP Tn | exact Jm (by rw[Tn];simp))),tt ⟨w6,tt ⟨(j+1),rfl,(?_:(j+1)≤p.Pd.length),(?_:p.Pd.length-(j+1)<p.Pd.length-j)⟩⟩⟩⟩⟩⟩⟩⟩⟩
       · omega
       · omega
     · refine tt ⟨⟨⟨rfl,oK⟩,oK⟩,⟨(aY (by omega) (by first | exact FP Tn | exact Jm (by rw[Tn];simp))),tt ⟨w6,tt ⟨(j+1),rfl,(?_:(j+1)≤p.Pd.length),(?_:p.Pd.length-(j+1)<p.Pd.length-j)⟩⟩⟩⟩
       · omega
       · omega
   · refine tt ⟨(congrArg _ (?_:(tab (fun z=>(bH p s data (p.Pe.getD z aK).next).1) i)=((dY p s data).Pe))),(congrArg _ (?_:(tab (zA p s data) j)=((dY p s data).Pd))),oK⟩
     · rw[show i=p.Pe.length by omega];rfl
     · rw[show j=p.Pd.length by omega];rfl
abbrev N2 (p:Pr) (s:Ps) (hs:List Hd) (rs:List Bool):Ct:=⟨98,[(CJ p),(.agg (lZ s)),(.agg [(dL 2 iH cQ hs),(LB rs)])],true,(.agg [(dB ((bm p s hs rs).fires)),(LI (((bm p s hs rs).s).Pe)),(dL 1 af [] (((bm p s hs rs).s).Pd)),(LB ((bm p s hs rs).pops)),(dL 2 iH cQ ((bm p s hs rs).Pc))])⟩
abbrev iu (p:Pr) (s:Ps) (hs:List Hd) (rs:List Bool):Lp (Nat×Bool):=o0 [3,5,6,7,8,9] 16 (fun (i:Nat) (S8:Bool)=>⟨[(3,jt),(5,(.ptr 2 0 0 0)),(6,(.ptr 3 0 0 0)),(7,(.ptr 4 0 0 0)),(8,(.ptr 15 0 0 0)),(9,(i6 (i:Int)))],[(oa p),(.var 74 (lZ s)),(.var 176 [(dL 2 iH cQ hs),(LB rs)]),CL,(CI p s hs),.dead,.dead,.dead,.dead,(.arr 4 1 bR false (List.replicate p.I.length false)),.dead,.dead,.dead,(.arr 170 2 iH cQ (List.replicate p.Pc.length cQ)),.dead,(.var 167 [(dB S8),(LI s.Pe),(dL 1 af [] s.Pd),(.own 9),(.own 13)])]⟩) (fun (i:Nat) (S8:Bool)=>i≤p.I.length∧S8=dh (tB p s hs) i) (fun (i:Nat) (S8:Bool)=>p.I.length-i)
abbrev iv (p:Pr) (s:Ps) (hs:List Hd) (rs:List Bool) (S8:Bool):Lp (Nat×Bool):=o0 [3,5,6,7,8,10] 16 (fun (m:Nat) (SE:Bool)=>⟨[(3,jt),(5,(.ptr 2 0 0 0)),(6,(.ptr 3 0 0 0)),(7,(.ptr 4 0 0 0)),(8,(.ptr 15 0 0 0)),(10,(i6 (m:Int)))],[(oa p),(.var 74 (lZ s)),(.var 176 [(dL 2 iH cQ hs),(LB rs)]),CL,(CI p s hs),.dead,.dead,.dead,.dead,(.arr 4 1 bR false (List.replicate p.I.length false)),.dead,.dead,.dead,(.arr 170 2 iH cQ (List.replicate p.Pc.length cQ)),.dead,(.var 167 [(dB SE),(LI s.Pe),(dL 1 af [] s.Pd),(.own 9),(.own 13)])]⟩) (fun (m:Nat) (SE:Bool)=>m≤p.Pc.length∧SE=(S8&&dh (tC p s hs rs) m)) (fun (m:Nat) (SE:Bool)=>p.Pc.length-m)
abbrev mU (p:Pr) (s:Ps) (hs:List Hd) (rs:List Bool) (SE:Bool):Lp (Nat×List Bool):=o0 [3,6,7,8,11] 16 (fun (q:Nat) (Ti:List Bool)=>⟨[(3,jt),(6,(.ptr 3 0 0 0)),(7,(.ptr 4 0 0 0)),(8,(.ptr 15 0 0 0)),(11,(i6 (q:Int)))],[(oa p),(.var 74 (lZ s)),(.var 176 [(dL 2 iH cQ hs),(LB rs)]),CL,(CI p s hs),.dead,.dead,.dead,.dead,(.arr 4 1 bR false Ti),.dead,.dead,.dead,(.arr 170 2 iH cQ (List.replicate p.Pc.length cQ)),.dead,(.var 167 [(dB SE),(LI ((dY p s (bW p s hs)).Pe)),(dL 1 af [] ((dY p s (bW p s hs)).Pd)),(.own 9),(.own 13)])]⟩) (fun (q:Nat) (Ti:List Bool)=>q≤p.I.length∧Ti=gN (Fx p s hs) (List.replicate p.I.length false) q) (fun (q:Nat) (Ti:List Bool)=>p.I.length-q)
abbrev jU (p:Pr) (s:Ps) (hs:List Hd) (rs:List Bool) (SE:Bool) (Ti:List Bool):Lp (Nat×List Hd):=o0 [3,6,7,8,12] 16 (fun (t:Nat) (put:List Hd)=>⟨[(3,jt),(6,(.ptr 3 0 0 0)),(7,(.ptr 4 0 0 0)),(8,(.ptr 15 0 0 0)),(12,(i6 (t:Int)))],[(oa p),(.var 74 (lZ s)),(.var 176 [(dL 2 iH cQ hs),(LB rs)]),CL,(CI p s hs),.dead,.dead,.dead,.dead,(.arr 4 1 bR false Ti),.dead,.dead,.dead,(.arr 170 2 iH cQ put),.dead,(.var 167 [(dB SE),(LI ((dY p s (bW p s hs)).Pe)),(dL 1 af [] ((dY p s (bW p s hs)).Pd)),(.own 9),(.own 13)])]⟩) (fun (t:Nat) (put:List Hd)=>t≤p.Pc.length∧put=gN (DN p s hs) (List.replicate p.Pc.length cQ) t) (fun (t:Nat) (put:List Hd)=>p.Pc.length-t)
theorem Eb (p:Pr) (s:Ps) (hs:List Hd) (rs:List Bool) (hp:hT p) (Un:lM p s) (hh:DQ p hs) (hrs:rs.length=p.Pc.length):CC (N2 p s hs rs):=by
 have ht1:=hp.tl
 have ht2:=hp.pl
 have hhl:=hh.l
 have TE:=Un.mn
 have ho:=iL hp Un (wP (s:=s) (hs:=hs) hp hh)
 have hda:=wP (s:=s) (hs:=hs) hp hh
 refine aq.vc (V:=TT 7 (CC (KZ p s hs rs)∧TT 6 ((((0:Int)≤(p.I.length:Int)∧(p.I.length:Int)≤(p.I.length:Int)∧(p.I.length:Int)≤137438953472)∧(List.replicate p.I.length false).length=p.I.length∧∀x∈(List.replicate p.I.length false),dV [(dB false)] (bR x))∧TT 3 ((((0:Int)≤(p.Pc.length:Int)∧(p.Pc.length:Int)≤(p.Pc.length:Int)∧(p.Pc.length:Int)≤137438953472)∧(List.replicate p.Pc.length cQ).length=p.Pc.length∧∀x∈(List.replicate p.Pc.length cQ),dV [(dB false),(i6 0)] (iH x))∧TT 4 (GO (iu p s hs rs) (0,true) (∀i S8,(iu p s hs rs).inv (i,S8)→TT 5 (CD ((i:Int)<(p.I.length:Int)) (CS (S8=true) (CS (((hs.getD i cQ).has)=true) (TT 2 ((True∧S8=true)∧TT 3 (IX (i:Int) hs.length∧TT 2 ((True∧((hs.getD i cQ).has)=true)∧TT 5 (W6 ((i+1:Nat):Int)∧TT 1 (AG (iu p s hs rs) (i,S8) (i+1,true))))))) (TT 2 ((True∧S8=true)∧TT 3 (IX (i:Int) hs.length∧TT 2 ((True∧((hs.getD i cQ).has)=false)∧TT 4 (IX (i:Int) p.I.length∧TT 2 (CC (oX p s (bW p s hs) ((p.I.getD i bV).when))∧TT 6 (W6 ((i+1:Nat):Int)∧TT 1 (AG (iu p s hs rs) (i,S8) (i+1,!(ff p s (bW p s hs) ((p.I.getD i bV).when)))))))))))) (TT 2 ((True∧S8=false)∧TT 4 (W6 ((i+1:Nat):Int)∧TT 1 (AG (iu p s hs rs) (i,S8) (i+1,false)))))) (TT 1 (GO (iv p s hs rs S8) (0,S8) (∀m SE,(iv p s hs rs S8).inv (m,SE)→TT 5 (CD ((m:Int)<(p.Pc.length:Int)) (CS (SE=true) (CS ((rs.getD m false)=true) (TT 2 ((True∧SE=true)∧TT 3 (IX (m:Int) rs.length∧TT 1 ((True∧(rs.getD m false)=true)∧TT 5 (W6 ((m+1:Nat):Int)∧TT 1 (AG (iv p s hs rs S8) (m,SE) (m+1,true))))))) (TT 2 ((True∧SE=true)∧TT 3 (IX (m:Int) rs.length∧TT 1 ((True∧(rs.getD m false)=false)∧TT 4 (IX (m:Int) p.Pc.length∧TT 2 (CC (oX p s (bW p s hs) ((p.Pc.getD m b4).when))∧TT 6 (W6 ((m+1:Nat):Int)∧TT 1 (AG (iv p s hs rs S8) (m,SE) (m+1,!(ff p s (bW p s hs) ((p.Pc.getD m b4).when)))))))))))) (TT 2 ((True∧SE=false)∧TT 4 (W6 ((m+1:Nat):Int)∧TT 1 (AG (iv p s hs rs S8) (m,SE) (m+1,false)))))) (TT 3 (CB (!SE) (TT 3 (SE=((bm p s hs rs).fires)∧s.Pe.map (aa .i64)=(((bm p s hs rs).s).Pe).map (aa .i64)∧s.Pd.map af=(((bm p s hs rs).s).Pd).map af∧(List.replicate p.I.length false).map bR=((bm p s hs rs).pops).map bR∧(List.replicate p.Pc.length cQ).map iH=((bm p s hs rs).Pc).map iH∧True)) (TT 1 (CC (K0 p s (bW p s hs))∧TT 3 (GO (mU p s hs rs SE) (0,List.replicate p.I.length false) (∀q Ti,(mU p s hs rs SE).inv (q,Ti)→TT 5 (CD ((q:Int)<(p.I.length:Int)) (TT 7 (IX (q:Int) p.I.length∧TT 2 (CC (oX p s (bW p s hs) ((p.I.getD q bV).when))∧IX (q:Int) Ti.length∧(q<Ti.length∧(Ti.map bR).set q ((bR (Ti.getD q false)).take 0++[(.bool (ff p s (bW p s hs) ((p.I.getD q bV).when)))]++(bR (Ti.getD q false)).drop (0+1))=(Ti.set q (ff p s (bW p s hs) ((p.I.getD q bV).when))).map bR)∧TT 1 (W6 ((q+1:Nat):Int)∧TT 1 (AG (mU p s hs rs SE) (q,Ti) (q+1,Ti.set q (ff p s (bW p s hs) ((p.I.getD q bV).when)))))))) (TT 1 (GO (jU p s hs rs SE Ti) (0,List.replicate p.Pc.length cQ) (∀t put,(jU p s hs rs SE Ti).inv (t,put)→TT 5 (CD ((t:Int)<(p.Pc.length:Int)) (TT 4 (IX (t:Int) p.Pc.length∧TT 2 (CC (oX p s (bW p s hs) ((p.Pc.getD t b4).when))∧CB (ff p s (bW p s hs) ((p.Pc.getD t b4).when)) (TT 7 (IX (t:Int) p.Pc.length∧TT 2 (CC (l5 p s (bW p s hs) 2 ((p.Pc.getD t b4).data))∧TT 2 (IX (t:Int) put.length∧(t<put.length∧(put.map iH).set t ((iH (put.getD t cQ)).take 0++[(.bool true),(.int .i64 ((bH p s (bW p s hs) ((p.Pc.getD t b4).data)).1))]++(iH (put.getD t cQ)).drop (0+2))=(put.set t (⟨true,(bH p s (bW p s hs) ((p.Pc.getD t b4).data)).1⟩:Hd)).map iH)∧TT 1 (W6 ((t+1:Nat):Int)∧TT 1 (AG (jU p s hs rs SE Ti) (t,put) (t+1,put.set t (⟨true,(bH p s (bW p s hs) ((p.Pc.getD t b4).data)).1⟩:Hd)))))))) (TT 1 (W6 ((t+1:Nat):Int)∧TT 1 (AG (jU p s hs rs SE Ti) (t,put) (t+1,put))))))) (TT 3 (SE=((bm p s hs rs).fires)∧((dY p s (bW p s hs)).Pe).map (aa .i64)=(((bm p s hs rs).s).Pe).map (aa .i64)∧((dY p s (bW p s hs)).Pd).map af=(((bm p s hs rs).s).Pd).map af∧Ti.map bR=((bm p s hs rs).pops).map bR∧put.map iH=((bm p s hs rs).Pc).map iH∧True)))))))))))))))))))))))) (.w 1 [(3,(KZ p s hs rs).O)]<|.w 2 [(4,.box 4 1 bR false (List.replicate p.I.length false)),(8,.box 170 2 iH cQ (List.replicate p.Pc.length cQ))]<|.l (iu p s hs rs) (0,true) (fun ⟨i,S8⟩=>.b 31 (.s 6 (S8=true) (.s 6 (((hs.getD i cQ).has)=true) (.w 6 [(2,.val (dB true)),(9,.val (dB true))]<|.w 5 [(1,.val (ob i))]<|.e) (.w 6 [(2,.val (dB true)),(9,.val (dB false)),(17,(oX p s (bW p s hs) ((p.I.getD i bV).when)).O)]<|.w 5 [(1,.val (ob i))]<|.e)) (.w 6 [(2,.val (dB false))]<|.w 5 [(1,.val (ob i))]<|.e)) (.l (iv p s hs rs S8) (0,S8) (fun ⟨m,SE⟩=>.b 60 (.s 10 (SE=true) (.s 10 ((rs.getD m false)=true) (.w 10 [(2,.val (dB true)),(8,.val (dB true))]<|.w 9 [(1,.val (i6 ((m+1:Nat):Int)))]<|.e) (.w 10 [(2,.val (dB true)),(8,.val (dB false)),(16,(oX p s (bW p s hs) ((p.Pc.getD m b4).when)).O)]<|.w 9 [(1,.val (i6 ((m+1:Nat):Int)))]<|.e)) (.w 10 [(2,.val (dB false))]<|.w 9 [(1,.val (i6 ((m+1:Nat):Int)))]<|.e)) (.b 86 (.e) (.w 13 [(1,(K0 p s (bW p s hs)).O)]<|.l (mU p s hs rs SE) (0,List.replicate p.I.length false) (fun ⟨q,Ti⟩=>.b 95 (.w 17 [(10,(oX p s (bW p s hs) ((p.I.getD q bV).when)).O),(12,.box 4 1 bR false (Ti.set q (ff p s (bW p s hs) ((p.I.getD q bV).when))))]<|.w 16 [(1,.val (i6 ((q+1:Nat):Int)))]<|.e) (.l (jU p s hs rs SE Ti) (0,List.replicate p.Pc.length cQ) (fun ⟨t,put⟩=>.b 114 (.w 21 [(7,(oX p s (bW p s hs) ((p.Pc.getD t b4).when)).O)]<|.b 124 (.w 22 [(10,(l5 p s (bW p s hs) 2 ((p.Pc.getD t b4).data)).O),(14,.box 170 2 iH cQ (put.set t (⟨true,(bH p s (bW p s hs) ((p.Pc.getD t b4).data)).1⟩:Hd)))]<|.w 20 [(1,.val (i6 ((t+1:Nat):Int)))]<|.e) (.w 20 [(1,.val (i6 ((t+1:Nat):Int)))]<|.e)) (.e)))))))))) Try.func98 rfl rfl rfl (by kernel_rfl) ?_
 refine tt ⟨(AQ p s hs rs hp Un hh),tt ⟨⟨by omega,Pp,fun x hx=>by rw[PW hx];exact⟨rfl,oK⟩⟩,tt ⟨⟨by omega,Pp,fun x hx=>by rw[PW hx];exact⟨rfl,rfl,oK⟩⟩,tt ⟨rfl,⟨by omega,rfl⟩,?_⟩⟩⟩⟩
 intro i S8 F'
 obtain⟨hi,TS⟩:=F'
 refine tt (cd (fun hc31=>?_) (fun hc31=>?_))
 · have WA:=wZ hp (show i<p.I.length by omega)
   refine⟨fun Ru=>?_,fun Ru=>?_⟩
   · refine⟨fun RQ=>?_,fun RQ=>?_⟩
     · refine tt ⟨(bT Ru),tt ⟨ix,tt ⟨(bT RQ),tt ⟨w6,tt ⟨(i+1,true),rfl,?_,(?_:p.I.length-(i+1)<p.I.length-i)⟩⟩⟩⟩⟩
       · exact⟨by omega,Am TS _ (by unfold tB;clear TS;cases S8<;>simp_all)⟩
       · omega
     · refine tt ⟨(bT Ru),tt ⟨ix,tt ⟨(bF RQ),tt ⟨ix,tt ⟨(tZ p s (bW p s hs) ((p.I.getD i bV).when) ho TE WA.1 WA.2),tt ⟨w6,tt ⟨(i+1,!(ff p s (bW p s hs) ((p.I.getD i bV).when))),rfl,?_,(?_:p.I.length-(i+1)<p.I.length-i)⟩⟩⟩⟩⟩⟩⟩
       · exact⟨by omega,Am TS _ (by unfold tB;clear TS;cases S8<;>simp_all)⟩
       · omega
   · refine tt ⟨(bF Ru),tt ⟨w6,tt ⟨(i+1,false),rfl,?_,(?_:p.I.length-(i+1)<p.I.length-i)⟩⟩⟩
     · exact⟨by omega,Am TS _ (by unfold tB;clear TS;cases S8<;>simp_all)⟩
     · omega
 · refine tt ⟨rfl,⟨by omega,by simp[dh]⟩,?_⟩
   intro m SE F'
   obtain⟨hm,Uz⟩:=F'
   refine tt (cd (fun Uj=>?_) (fun Uj=>?_))
   · have Wz:=hp.pw m (by omega)
     refine⟨fun SZ=>?_,fun SZ=>?_⟩
     · refine⟨fun T9=>?_,fun T9=>?_⟩
       · refine tt ⟨(bT SZ),tt ⟨ix,tt ⟨(bT T9),tt ⟨w6,tt ⟨(m+1,true),rfl,?_,(?_:p.Pc.length-(m+1)<p.Pc.length-m)⟩⟩⟩⟩⟩
         · exact⟨by omega,An Uz _ (by unfold tC;clear Uz TS;cases SE<;>simp_all)⟩
         · omega
       · refine tt ⟨(bT SZ),tt ⟨ix,tt ⟨(bF T9),tt ⟨ix,tt ⟨(tZ p s (bW p s hs) ((p.Pc.getD m b4).when) ho TE Wz.2.1.1 Wz.2.1.2),tt ⟨w6,tt ⟨(m+1,!(ff p s (bW p s hs) ((p.Pc.getD m b4).when))),rfl,?_,(?_:p.Pc.length-(m+1)<p.Pc.length-m)⟩⟩⟩⟩⟩⟩⟩
         · exact⟨by omega,An Uz _ (by unfold tC;clear Uz TS;cases SE<;>simp_all)⟩
         · omega
     · refine tt ⟨(bF SZ),tt ⟨w6,tt ⟨(m+1,false),rfl,?_,(?_:p.Pc.length-(m+1)<p.Pc.length-m)⟩⟩⟩
       · exact⟨by omega,An Uz _ (by unfold tC;clear Uz TS;cases SE<;>simp_all)⟩
       · omega
   · have SK:i=p.I.length:=by omega
     have T6:m=p.Pc.length:=by omega
     refine tt ⟨fun Wo=>?_,fun Wo=>?_⟩
     · refine tt ⟨?_,(congrArg _ (?_:s.Pe=(((bm p s hs rs).s).Pe))),(congrArg _ (?_:s.Pd=(((bm p s hs rs).s).Pd))),(congrArg _ (?_:(List.replicate p.I.length false)=((bm p s hs rs).pops))),(congrArg _ (?_:(List.replicate p.Pc.length cQ)=((bm p s hs rs).Pc))),oK⟩
       all_goals
         rw[HV (by rw[vC (rs:=rs) (a:=S8) (b:=SE) (by rw[TS,SK]) (by rw[Uz,T6])];simpa using Wo)]
         first | done | rfl | simpa using Wo
     · refine tt ⟨(GM p s (bW p s hs) hp Un hda),tt ⟨rfl,⟨by omega,rfl⟩,?_⟩⟩
       intro q Ti F'
       obtain⟨hq,Uh⟩:=F'
       have Tt:Ti.length=p.I.length:=by rw[Uh,cK (by rw[Pp];exact hq),Pp]
       refine tt (cd (fun Wp=>?_) (fun Wp=>?_))
       · have WA:=wZ hp (show q<p.I.length by omega)
         refine tt ⟨ix,tt ⟨(tZ p s (bW p s hs) ((p.I.getD q bV).when) ho TE WA.1 WA.2),⟨ix,⟨⟨om,by simp only[P0];rfl⟩,tt ⟨w6,tt ⟨(q+1,Ti.set q (ff p s (bW p s hs) ((p.I.getD q bV).when))),rfl,?_,(?_:p.I.length-(q+1)<p.I.length-q)⟩⟩⟩⟩⟩⟩
         · exact⟨by omega,by rw[Uh];exact bU (by rw[Pp];omega) rfl⟩
         · omega
       · refine tt ⟨rfl,⟨by omega,rfl⟩,?_⟩
         intro t put F'
         obtain⟨ht,Tb⟩:=F'
         have UF:put.length=p.Pc.length:=by rw[Tb,cK (by rw[Pp];exact ht),Pp]
         refine tt (cd (fun hc114=>?_) (fun hc114=>?_))
         · have Wz:=hp.pw t (by omega)
           refine tt ⟨ix,tt ⟨(tZ p s (bW p s hs) ((p.Pc.getD t b4).when) ho TE Wz.2.1.1 Wz.2.1.2),⟨fun Wq=>?_,fun Wq=>?_⟩⟩⟩
           · refine tt ⟨ix,tt ⟨(jT ho TE 2 ((p.Pc.getD t b4).data) _ Wz.2.2.1 Wz.2.2.2),tt ⟨ix,⟨⟨om,by simp only[P0];rfl⟩,tt ⟨w6,tt ⟨(t+1,put.set t (⟨true,(bH p s (bW p s hs) ((p.Pc.getD t b4).data)).1⟩:Hd)),rfl,?_,(?_:p.Pc.length-(t+1)<p.Pc.length-t)⟩⟩⟩⟩⟩⟩
             · exact⟨by omega,by rw[Tb];exact bU (by rw[Pp];omega) (Pn Wq)⟩
             · omega
           · refine tt ⟨w6,tt ⟨(t+1,put),rfl,?_,(?_:p.Pc.length-(t+1)<p.Pc.length-t)⟩⟩
             · exact⟨by omega,by rw[Tb];exact jL (d:=cQ) (by rw[Pp];omega) ((Pj (by rw[Wq];simp)).trans du.symm)⟩
             · omega
         · refine tt ⟨?_,(congrArg _ (?_:((dY p s (bW p s hs)).Pe)=(((bm p s hs rs).s).Pe))),(congrArg _ (?_:((dY p s (bW p s hs)).Pd)=(((bm p s hs rs).s).Pd))),(congrArg _ (?_:Ti=((bm p s hs rs).pops))),(congrArg _ (?_:put=((bm p s hs rs).Pc))),oK⟩
           all_goals
             rw[HW (by rw[vC (rs:=rs) (a:=S8) (b:=SE) (by rw[TS,SK]) (by rw[Uz,T6])];simpa using Wo)]
             first | done | (simpa using Wo) | (rw[Uh,show q=p.I.length by omega,b7 (by rw[Pp];exact Pl _)]) | (rw[Tb,show t=p.Pc.length by omega,b7 (by rw[Pp];exact Pl _)])
abbrev IU (a b:List Int):Ct:=⟨20,[(LI a),(LI b)],false,(dB (decide (a=b)))⟩
abbrev ss (a:List Int) (b:List Int):Lp (Nat):=iC [0,1,5] 0 (fun (k:Nat)=>⟨[(0,(LI a)),(1,(LI b)),(5,(i6 (k:Int)))],[]⟩) (fun (k:Nat)=>k≤a.length∧∀z,z<k→a.getD z 0=b.getD z 0) (fun (k:Nat)=>a.length-k)
theorem sA (a b:List Int) (ha:a.length≤9223372036854775807):CC (IU a b):=by
 refine aq.vc (V:=TT 6 (CN ((a.length:Int)=(b.length:Int)) (TT 2 (false=(decide (a=b))∧True)) (TT 1 (GO (ss a b) 0 (∀k,(ss a b).inv k→TT 4 (CD ((k:Int)<(a.length:Int)) (TT 2 (IX (k:Int) a.length∧TT 3 (IX (k:Int) b.length∧TT 2 (CN ((a.getD k 0)=(b.getD k 0)) (TT 2 (false=(decide (a=b))∧True)) (TT 1 (W6 ((k+1:Nat):Int)∧TT 1 (AG (ss a b) k (k+1)))))))) (TT 2 (true=(decide (a=b))∧True)))))))) (.b 10 (.e) (.l (ss a b) 0 (fun k=>.b 14 (.b 25 (.e) (.w 5 [(1,.val (i6 ((k+1:Nat):Int)))]<|.e)) (.e)))) Try.func20 rfl rfl rfl (by kernel_rfl) ?_
 refine tt (cn (fun hc10=>?_) (fun hc10=>?_))
 · refine tt ⟨?_,oK⟩
   first | exact(Pv (fun e=>by subst e;omega)).symm | exact(Pv (same_no (k:=k) (by simpa using Sl))).symm | exact(Pq (dC (by omega) (by omega) hall)).symm
 · refine tt ⟨rfl,⟨by omega,fun z hz=>by omega⟩,?_⟩
   intro k F'
   obtain⟨hk,hall⟩:=F'
   refine tt (cd (fun U1=>?_) (fun U1=>?_))
   · refine tt ⟨ix,tt ⟨ix,tt (cn (fun Sl=>?_) (fun Sl=>?_))⟩⟩
     · refine tt ⟨?_,oK⟩
       first | exact(Pv (fun e=>by subst e;omega)).symm | exact(Pv (same_no (k:=k) (by simpa using Sl))).symm | exact(Pq (dC (by omega) (by omega) hall)).symm
     · refine tt ⟨w6,tt ⟨(k+1),rfl,?_,(?_:a.length-(k+1)<a.length-k)⟩⟩
       · exact⟨by omega,bh hall (by simpa using Sl)⟩
       · omega
   · refine tt ⟨?_,oK⟩
     first | exact(Pv (fun e=>by subst e;omega)).symm | exact(Pv (same_no (k:=k) (by simpa using Sl))).symm | exact(Pq (dC (by omega) (by omega) hall)).symm
abbrev N3 (a b:Ps):Ct:=⟨44,[(.agg [(LI a.Pe),(dL 1 af [] a.Pd)]),(.agg [(LI b.Pe),(dL 1 af [] b.Pd)])],false,(dB (dD a b))⟩
abbrev mV (a:Ps) (b:Ps):Lp (Nat):=iC [2,3,5] 2 (fun (k:Nat)=>⟨[(2,jt),(3,(.ptr 1 0 0 0)),(5,(i6 (k:Int)))],[(.var 74 [(LI a.Pe),(dL 1 af [] a.Pd)]),(.var 74 [(LI b.Pe),(dL 1 af [] b.Pd)])]⟩) (fun (k:Nat)=>k≤a.Pd.length∧∀z,z<k→a.Pd.getD z []=b.Pd.getD z []) (fun (k:Nat)=>a.Pd.length-k)
theorem Ec (a b:Ps) (ha:a.Pe.length≤9223372036854775807) (hb:a.Pd.length≤9223372036854775807) (hc:∀i,(a.Pd.getD i []).length≤9223372036854775807):CC (N3 a b):=by
 refine aq.vc (V:=TT 3 (CS (a.Pe=b.Pe) (TT 4 (CC (IU a.Pe b.Pe)∧TT 1 ((True∧(!decide (a.Pe=b.Pe))=false)∧TT 8 (CN ((a.Pd.length:Int)=(b.Pd.length:Int)) (TT 2 (false=(dD a b)∧True)) (TT 1 (GO (mV a b) 0 (∀k,(mV a b).inv k→TT 5 (CD ((k:Int)<(a.Pd.length:Int)) (TT 3 (IX (k:Int) a.Pd.length∧TT 4 (IX (k:Int) b.Pd.length∧TT 1 (CC (IU (a.Pd.getD k []) (b.Pd.getD k []))∧TT 1 (CN ((a.Pd.getD k [])=(b.Pd.getD k [])) (TT 2 (false=(dD a b)∧True)) (TT 1 (W6 ((k+1:Nat):Int)∧TT 1 (AG (mV a b) k (k+1))))))))) (TT 2 (true=(dD a b)∧True)))))))))) (TT 4 (CC (IU a.Pe b.Pe)∧TT 1 ((True∧(!decide (a.Pe=b.Pe))=true)∧TT 10 (false=(dD a b)∧True)))))) (.s 1 (a.Pe=b.Pe) (.w 1 [(4,(IU a.Pe b.Pe).O),(6,.val (dB false))]<|.b 20 (.e) (.l (mV a b) 0 (fun k=>.b 25 (.w 6 [(10,(IU (a.Pd.getD k []) (b.Pd.getD k [])).O)]<|.b 39 (.e) (.w 5 [(1,.val (i6 ((k+1:Nat):Int)))]<|.e)) (.e)))) (.w 1 [(4,(IU a.Pe b.Pe).O),(6,.val (dB true))]<|.e)) Try.func44 rfl rfl rfl (by kernel_rfl) ?_
 refine tt ⟨fun Ru=>?_,fun Ru=>?_⟩
 · refine tt ⟨(sA a.Pe b.Pe ha),tt ⟨(nF Ru),tt (cn (fun TO=>?_) (fun TO=>?_))⟩⟩
   · refine tt ⟨?_,oK⟩
     first | exact(kw (by simpa using Ru)).symm | exact(kx (by omega)).symm | exact(ky (i:=k) (by simpa using Sf)).symm | exact(kA (by simpa using Ru) (dC (by omega) (by omega) hall)).symm
   · refine tt ⟨rfl,⟨by omega,fun z hz=>by omega⟩,?_⟩
     intro k F'
     obtain⟨hk,hall⟩:=F'
     refine tt (cd (fun Sl=>?_) (fun Sl=>?_))
     · refine tt ⟨ix,tt ⟨ix,tt ⟨(sA (a.Pd.getD k []) (b.Pd.getD k []) (hc k)),tt (cn (fun Sf=>?_) (fun Sf=>?_))⟩⟩⟩
       · refine tt ⟨?_,oK⟩
         first | exact(kw (by simpa using Ru)).symm | exact(kx (by omega)).symm | exact(ky (i:=k) (by simpa using Sf)).symm | exact(kA (by simpa using Ru) (dC (by omega) (by omega) hall)).symm
       · refine tt ⟨w6,tt ⟨(k+1),rfl,?_,(?_:a.Pd.length-(k+1)<a.Pd.length-k)⟩⟩
         · exact⟨by omega,bh hall (by simpa using Sf)⟩
         · omega
     · refine tt ⟨?_,oK⟩
       first | exact(kw (by simpa using Ru)).symm | exact(kx (by omega)).symm | exact(ky (i:=k) (by simpa using Sf)).symm | exact(kA (by simpa using Ru) (dC (by omega) (by omega) hall)).symm
 · refine tt ⟨(sA a.Pe b.Pe ha),tt ⟨(nT Ru),tt ⟨?_,oK⟩⟩⟩
   first | exact(kw (by simpa using Ru)).symm | exact(kx (by omega)).symm | exact(ky (i:=k) (by simpa using Sf)).symm | exact(kA (by simpa using Ru) (dC (by omega) (by omega) hall)).symm
end Go.Proofs.Ytnlmlkbaflmgcaa
