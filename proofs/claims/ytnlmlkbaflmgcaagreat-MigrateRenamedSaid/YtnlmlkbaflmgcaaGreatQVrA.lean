/- Parts of a proof. -/
import Derived.Test.YtnlmlkbaflmgcaaGreatQMiE
namespace Go.Proofs.YtnlmlkbaflmgcaaGreat
open Go.RowKit
set_option linter.unusedVariables false
set_option linter.unusedSimpArgs false
abbrev NG (p:Pr):aC:=(.var 76 [(dS p.name),(dS p.clock),(dL 13 bO aI p.Ul),(dL 27 b8 ay p.Uk),(dL 9 dU bC p.I),(dL 16 dQ bt p.Uj)])
set_option maxRecDepth 100000
abbrev SO (r q:Rg):Ct:=⟨58,[(.agg [(dS q.name),(i6 q.w),(i6 q.init),(i6 q.next.op),(dS q.next.name),(i6 q.next.k.n),(dS q.next.k.p),(i6 q.next.w.n),(dS q.next.w.p),(dL 7 (eA 2) dE q.next.args),(i6 q.Un.kind),(dS q.Un.src),(i6 q.Un.n)]),(.iptr [(.str r.name),(.int .i64 r.w),(.int .i64 r.init),(.int .i64 r.next.op),(.str r.next.name),(.int .i64 r.next.k.n),(.str r.next.k.p),(.int .i64 r.next.w.n),(.str r.next.w.p),(.sl 7 (eA 2) dE r.next.args),(.int .i64 r.Un.kind),(.str r.Un.src),(.int .i64 r.Un.n)] 0)],false,(dB (fX r q))⟩
theorem SP (r q:Rg):CC (SO r q):=by
 refine ah.vc (V:=TT 2 (CS ((q.name.toList==r.name.toList)=true) (CS (q.w=r.w) (TT 5 ((True∧(q.name.toList==r.name.toList)=true)∧TT 6 ((True∧(decide (q.w=r.w))=true)∧TT 7 ((q.Un.kind==1)=(fX r q)∧True)))) (TT 5 ((True∧(q.name.toList==r.name.toList)=true)∧TT 6 ((True∧(decide (q.w=r.w))=false)∧TT 7 (false=(fX r q)∧True))))) (TT 5 ((True∧(q.name.toList==r.name.toList)=false)∧TT 14 (false=(fX r q)∧True))))) (.s 1 ((q.name.toList==r.name.toList)=true) (.s 1 (q.w=r.w) (.w 1 [(5,.val (dB true)),(12,.val (dB true))]<|.e) (.w 1 [(5,.val (dB true)),(12,.val (dB false))]<|.e)) (.w 1 [(5,.val (dB false))]<|.e)) Tryz.func58 rfl rfl rfl (by kernel_rfl) ?_
 refine tt ⟨fun N'=>?_,fun N'=>?_⟩
 · refine⟨fun WN=>?_,fun WN=>?_⟩
   · refine tt ⟨(bT N'),tt ⟨(vT WN),tt ⟨?_,oK⟩⟩⟩
     unfold fX;simp_all<;>rfl
   · refine tt ⟨(bT N'),tt ⟨(vF WN),tt ⟨?_,oK⟩⟩⟩
     unfold fX;simp_all<;>rfl
 · refine tt ⟨(bF N'),tt ⟨?_,oK⟩⟩
   unfold fX;simp_all<;>rfl
abbrev SQ (l:List Rg) (r:Rg):Ct:=⟨76,[(dL 13 bO aI l),(.fn (.func 58) [] [(.iptr [(.str r.name),(.int .i64 r.w),(.int .i64 r.init),(.int .i64 r.next.op),(.str r.next.name),(.int .i64 r.next.k.n),(.str r.next.k.p),(.int .i64 r.next.w.n),(.str r.next.w.p),(.sl 7 (eA 2) dE r.next.args),(.int .i64 r.Un.kind),(.str r.Un.src),(.int .i64 r.Un.n)] 0)])],false,(i6 (dF (fun i=>fX r (l.getD i aI)) l.length))⟩
abbrev px (l:List Rg) (r:Rg):Lp (Nat):=gD [0,1,7,8] 0 (fun (i:Nat)=>⟨[(0,(dL 13 bO aI l)),(1,(.fn (.func 58) [] [(.iptr [(.str r.name),(.int .i64 r.w),(.int .i64 r.init),(.int .i64 r.next.op),(.str r.next.name),(.int .i64 r.next.k.n),(.str r.next.k.p),(.int .i64 r.next.w.n),(.str r.next.w.p),(.sl 7 (eA 2) dE r.next.args),(.int .i64 r.Un.kind),(.str r.Un.src),(.int .i64 r.Un.n)] 0)])),(7,(i6 (l.length:Int))),(8,(i6 (i:Int)))],[]⟩) (fun (i:Nat)=>i≤l.length∧∀z,z<i→fX r (l.getD z aI)=false) (fun (i:Nat)=>l.length-i)
theorem Pb (l:List Rg) (r:Rg) (hl:l.length≤9223372036854775807):CC (SQ l r):=by
 refine ah.vc (V:=TT 4 (GO (px l r) 0 (∀i,(px l r).inv i→TT 1 (CD ((i:Int)<(l.length:Int)) (TT 5 (IX (i:Int) l.length∧TT 1 (CC (SO r (l.getD i aI))∧CB (fX r (l.getD i aI)) (TT 3 ((i:Int)=(dF (fun i=>fX r (l.getD i aI)) l.length)∧True)) (W6 ((i+1:Nat):Int)∧TT 1 (AG (px l r) i (i+1)))))) (TT 2 ((-1)=(dF (fun i=>fX r (l.getD i aI)) l.length)∧True)))))) (.l (px l r) 0 (fun i=>.b 9 (.w 4 [(5,(SO r (l.getD i aI)).O)]<|.b 16 (.e) (.w 6 [(0,.val (i6 ((i+1:Nat):Int)))]<|.e)) (.e))) Tryz.func76 rfl rfl rfl (by kernel_rfl) ?_
 refine tt ⟨rfl,⟨by omega,fun z hz=>by omega⟩,?_⟩
 intro i F'
 obtain⟨hi,h3⟩:=F'
 refine tt (cd (fun hc9=>?_) (fun hc9=>?_))
 · refine tt ⟨ix,tt ⟨(SP r (l.getD i aI)),⟨fun XC=>?_,fun XC=>?_⟩⟩⟩
   · refine tt ⟨?_,oK⟩
     first | exact(fa (f:=fun i=>fX r (l.getD i aI)) XC h3 (by omega)).symm | exact(gX (f:=fun i=>fX r (l.getD i aI)) (fun z hz=>h3 z (by omega))).symm
   · refine⟨w6,tt ⟨(i+1),rfl,?_,(?_:l.length-(i+1)<l.length-i)⟩⟩
     · exact⟨by omega,bD h3 (by simpa using XC)⟩
     · omega
 · refine tt ⟨?_,oK⟩
   first | exact(fa (f:=fun i=>fX r (l.getD i aI)) XC h3 (by omega)).symm | exact(gX (f:=fun i=>fX r (l.getD i aI)) (fun z hz=>h3 z (by omega))).symm
abbrev SR (l:List Rg) (r:Rg):Ct:=⟨57,[(dL 13 bO aI l),(.fn (.func 58) [] [(.iptr [(.str r.name),(.int .i64 r.w),(.int .i64 r.init),(.int .i64 r.next.op),(.str r.next.name),(.int .i64 r.next.k.n),(.str r.next.k.p),(.int .i64 r.next.w.n),(.str r.next.w.p),(.sl 7 (eA 2) dE r.next.args),(.int .i64 r.Un.kind),(.str r.Un.src),(.int .i64 r.Un.n)] 0)])],false,(dB (LZ l r))⟩
theorem Pc (l:List Rg) (r:Rg) (hl:l.length≤9223372036854775807):CC (SR l r):=by
 refine ah.vc (V:=TT 3 (CC (SQ l r)∧TT 3 ((decide ((dF (fun i=>fX r (l.getD i aI)) l.length)≥0))=(LZ l r)∧True))) (.w 1 [(2,(SQ l r).O)]<|.e) Tryz.func57 rfl rfl rfl (by kernel_rfl) ?_
 refine tt ⟨(Pb l r om),tt ⟨?_,oK⟩⟩
 exact mc
abbrev SS (r q:Mm):Ct:=⟨60,[(.agg [(dS q.name),(i6 q.w),(i6 q.Um),(i6 q.enable.op),(dS q.enable.name),(i6 q.enable.k.n),(dS q.enable.k.p),(i6 q.enable.w.n),(dS q.enable.w.p),(dL 7 (eA 2) dE q.enable.args),(i6 q.addr.op),(dS q.addr.name),(i6 q.addr.k.n),(dS q.addr.k.p),(i6 q.addr.w.n),(dS q.addr.w.p),(dL 7 (eA 2) dE q.addr.args),(i6 q.data.op),(dS q.data.name),(i6 q.data.k.n),(dS q.data.k.p),(i6 q.data.w.n),(dS q.data.w.p),(dL 7 (eA 2) dE q.data.args),(i6 q.Un.kind),(dS q.Un.src),(i6 q.Un.n)]),(.iptr [(.str r.name),(.int .i64 r.w),(.int .i64 r.Um),(.int .i64 r.enable.op),(.str r.enable.name),(.int .i64 r.enable.k.n),(.str r.enable.k.p),(.int .i64 r.enable.w.n),(.str r.enable.w.p),(.sl 7 (eA 2) dE r.enable.args),(.int .i64 r.addr.op),(.str r.addr.name),(.int .i64 r.addr.k.n),(.str r.addr.k.p),(.int .i64 r.addr.w.n),(.str r.addr.w.p),(.sl 7 (eA 2) dE r.addr.args),(.int .i64 r.data.op),(.str r.data.name),(.int .i64 r.data.k.n),(.str r.data.k.p),(.int .i64 r.data.w.n),(.str r.data.w.p),(.sl 7 (eA 2) dE r.data.args),(.int .i64 r.Un.kind),(.str r.Un.src),(.int .i64 r.Un.n)] 0)],false,(dB (ft r q))⟩
theorem ST (r q:Mm):CC (SS r q):=by
 refine ah.vc (V:=TT 2 (CS ((q.name.toList==r.name.toList)=true) (CS (q.w=r.w) (CS (q.Um=r.Um) (TT 5 ((True∧(q.name.toList==r.name.toList)=true)∧TT 6 ((True∧(decide (q.w=r.w))=true)∧TT 6 ((True∧(decide (q.Um=r.Um))=true)∧TT 7 ((q.Un.kind==1)=(ft r q)∧True))))) (TT 5 ((True∧(q.name.toList==r.name.toList)=true)∧TT 6 ((True∧(decide (q.w=r.w))=true)∧TT 6 ((True∧(decide (q.Um=r.Um))=false)∧TT 7 (false=(ft r q)∧True)))))) (TT 5 ((True∧(q.name.toList==r.name.toList)=true)∧TT 6 ((True∧(decide (q.w=r.w))=false)∧TT 14 (false=(ft r q)∧True))))) (TT 5 ((True∧(q.name.toList==r.name.toList)=false)∧TT 21 (false=(ft r q)∧True))))) (.s 1 ((q.name.toList==r.name.toList)=true) (.s 1 (q.w=r.w) (.s 1 (q.Um=r.Um) (.w 1 [(5,.val (dB true)),(12,.val (dB true)),(19,.val (dB true))]<|.e) (.w 1 [(5,.val (dB true)),(12,.val (dB true)),(19,.val (dB false))]<|.e)) (.w 1 [(5,.val (dB true)),(12,.val (dB false))]<|.e)) (.w 1 [(5,.val (dB false))]<|.e)) Tryz.func60 rfl rfl rfl (by kernel_rfl) ?_
 refine tt ⟨fun N'=>?_,fun N'=>?_⟩
 · refine⟨fun WN=>?_,fun WN=>?_⟩
   · refine⟨fun XH=>?_,fun XH=>?_⟩
     · refine tt ⟨(bT N'),tt ⟨(vT WN),tt ⟨(vT XH),tt ⟨?_,oK⟩⟩⟩⟩
       unfold ft;simp_all<;>rfl
     · refine tt ⟨(bT N'),tt ⟨(vT WN),tt ⟨(vF XH),tt ⟨?_,oK⟩⟩⟩⟩
       unfold ft;simp_all<;>rfl
   · refine tt ⟨(bT N'),tt ⟨(vF WN),tt ⟨?_,oK⟩⟩⟩
     unfold ft;simp_all<;>rfl
 · refine tt ⟨(bF N'),tt ⟨?_,oK⟩⟩
   unfold ft;simp_all<;>rfl
abbrev SU (l:List Mm) (r:Mm):Ct:=⟨77,[(dL 27 b8 ay l),(.fn (.func 60) [] [(.iptr [(.str r.name),(.int .i64 r.w),(.int .i64 r.Um),(.int .i64 r.enable.op),(.str r.enable.name),(.int .i64 r.enable.k.n),(.str r.enable.k.p),(.int .i64 r.enable.w.n),(.str r.enable.w.p),(.sl 7 (eA 2) dE r.enable.args),(.int .i64 r.addr.op),(.str r.addr.name),(.int .i64 r.addr.k.n),(.str r.addr.k.p),(.int .i64 r.addr.w.n),(.str r.addr.w.p),(.sl 7 (eA 2) dE r.addr.args),(.int .i64 r.data.op),(.str r.data.name),(.int .i64 r.data.k.n),(.str r.data.k.p),(.int .i64 r.data.w.n),(.str r.data.w.p),(.sl 7 (eA 2) dE r.data.args),(.int .i64 r.Un.kind),(.str r.Un.src),(.int .i64 r.Un.n)] 0)])],false,(i6 (dF (fun i=>ft r (l.getD i ay)) l.length))⟩
abbrev py (l:List Mm) (r:Mm):Lp (Nat):=gD [0,1,7,8] 0 (fun (i:Nat)=>⟨[(0,(dL 27 b8 ay l)),(1,(.fn (.func 60) [] [(.iptr [(.str r.name),(.int .i64 r.w),(.int .i64 r.Um),(.int .i64 r.enable.op),(.str r.enable.name),(.int .i64 r.enable.k.n),(.str r.enable.k.p),(.int .i64 r.enable.w.n),(.str r.enable.w.p),(.sl 7 (eA 2) dE r.enable.args),(.int .i64 r.addr.op),(.str r.addr.name),(.int .i64 r.addr.k.n),(.str r.addr.k.p),(.int .i64 r.addr.w.n),(.str r.addr.w.p),(.sl 7 (eA 2) dE r.addr.args),(.int .i64 r.data.op),(.str r.data.name),(.int .i64 r.data.k.n),(.str r.data.k.p),(.int .i64 r.data.w.n),(.str r.data.w.p),(.sl 7 (eA 2) dE r.data.args),(.int .i64 r.Un.kind),(.str r.Un.src),(.int .i64 r.Un.n)] 0)])),(7,(i6 (l.length:Int))),(8,(i6 (i:Int)))],[]⟩) (fun (i:Nat)=>i≤l.length∧∀z,z<i→ft r (l.getD z ay)=false) (fun (i:Nat)=>l.length-i)
theorem Pd (l:List Mm) (r:Mm) (hl:l.length≤9223372036854775807):CC (SU l r):=by
 refine ah.vc (V:=TT 4 (GO (py l r) 0 (∀i,(py l r).inv i→TT 1 (CD ((i:Int)<(l.length:Int)) (TT 5 (IX (i:Int) l.length∧TT 1 (CC (SS r (l.getD i ay))∧CB (ft r (l.getD i ay)) (TT 3 ((i:Int)=(dF (fun i=>ft r (l.getD i ay)) l.length)∧True)) (W6 ((i+1:Nat):Int)∧TT 1 (AG (py l r) i (i+1)))))) (TT 2 ((-1)=(dF (fun i=>ft r (l.getD i ay)) l.length)∧True)))))) (.l (py l r) 0 (fun i=>.b 9 (.w 4 [(5,(SS r (l.getD i ay)).O)]<|.b 16 (.e) (.w 6 [(0,.val (i6 ((i+1:Nat):Int)))]<|.e)) (.e))) Tryz.func77 rfl rfl rfl (by kernel_rfl) ?_
 refine tt ⟨rfl,⟨by omega,fun z hz=>by omega⟩,?_⟩
 intro i F'
 obtain⟨hi,h3⟩:=F'
 refine tt (cd (fun hc9=>?_) (fun hc9=>?_))
 · refine tt ⟨ix,tt ⟨(ST r (l.getD i ay)),⟨fun XC=>?_,fun XC=>?_⟩⟩⟩
   · refine tt ⟨?_,oK⟩
     first | exact(fa (f:=fun i=>ft r (l.getD i ay)) XC h3 (by omega)).symm | exact(gX (f:=fun i=>ft r (l.getD i ay)) (fun z hz=>h3 z (by omega))).symm
   · refine⟨w6,tt ⟨(i+1),rfl,?_,(?_:l.length-(i+1)<l.length-i)⟩⟩
     · exact⟨by omega,bD h3 (by simpa using XC)⟩
     · omega
 · refine tt ⟨?_,oK⟩
   first | exact(fa (f:=fun i=>ft r (l.getD i ay)) XC h3 (by omega)).symm | exact(gX (f:=fun i=>ft r (l.getD i ay)) (fun z hz=>h3 z (by omega))).symm
abbrev SV (l:List Mm) (r:Mm):Ct:=⟨59,[(dL 27 b8 ay l),(.fn (.func 60) [] [(.iptr [(.str r.name),(.int .i64 r.w),(.int .i64 r.Um),(.int .i64 r.enable.op),(.str r.enable.name),(.int .i64 r.enable.k.n),(.str r.enable.k.p),(.int .i64 r.enable.w.n),(.str r.enable.w.p),(.sl 7 (eA 2) dE r.enable.args),(.int .i64 r.addr.op),(.str r.addr.name),(.int .i64 r.addr.k.n),(.str r.addr.k.p),(.int .i64 r.addr.w.n),(.str r.addr.w.p),(.sl 7 (eA 2) dE r.addr.args),(.int .i64 r.data.op),(.str r.data.name),(.int .i64 r.data.k.n),(.str r.data.k.p),(.int .i64 r.data.w.n),(.str r.data.w.p),(.sl 7 (eA 2) dE r.data.args),(.int .i64 r.Un.kind),(.str r.Un.src),(.int .i64 r.Un.n)] 0)])],false,(dB (L0 l r))⟩
theorem Pe (l:List Mm) (r:Mm) (hl:l.length≤9223372036854775807):CC (SV l r):=by
 refine ah.vc (V:=TT 3 (CC (SU l r)∧TT 3 ((decide ((dF (fun i=>ft r (l.getD i ay)) l.length)≥0))=(L0 l r)∧True))) (.w 1 [(2,(SU l r).O)]<|.e) Tryz.func59 rfl rfl rfl (by kernel_rfl) ?_
 refine tt ⟨(Pd l r om),tt ⟨?_,oK⟩⟩
 exact mc
abbrev SW (p q:Pr):Ct:=⟨34,[(.agg [(dS p.name),(dS p.clock),(dL 13 bO aI p.Ul),(dL 27 b8 ay p.Uk),(dL 9 dU bC p.I),(dL 16 dQ bt p.Uj)]),(.agg [(dS q.name),(dS q.clock),(dL 13 bO aI q.Ul),(dL 27 b8 ay q.Uk),(dL 9 dU bC q.I),(dL 16 dQ bt q.Uj)])],false,(dB (kh p q))⟩
abbrev pz (p:Pr) (q:Pr):Lp (Nat):=gD [2,3,10,11,12] 2 (fun (i:Nat)=>⟨[(2,(.ptr 0 0 0 0)),(3,(.ptr 1 0 0 0)),(10,(dL 13 bO aI p.Ul)),(11,(i6 (p.Ul.length:Int))),(12,(i6 (i:Int)))],[(NG p),(.var 76 [(dS q.name),(dS q.clock),(dL 13 bO aI q.Ul),(dL 27 b8 ay q.Uk),(dL 9 dU bC q.I),(dL 16 dQ bt q.Uj)])]⟩) (fun (i:Nat)=>i≤p.Ul.length∧∀z,z<i→LZ q.Ul (p.Ul.getD z aI)=true) (fun (i:Nat)=>p.Ul.length-i)
abbrev pA (p:Pr) (q:Pr):Lp (Nat):=gD [3,23,24,25] 2 (fun (j:Nat)=>⟨[(3,(.ptr 1 0 0 0)),(23,(dL 27 b8 ay p.Uk)),(24,(i6 (p.Uk.length:Int))),(25,(i6 (j:Int)))],[(NG p),(.var 76 [(dS q.name),(dS q.clock),(dL 13 bO aI q.Ul),(dL 27 b8 ay q.Uk),(dL 9 dU bC q.I),(dL 16 dQ bt q.Uj)])]⟩) (fun (j:Nat)=>j≤p.Uk.length∧∀z,z<j→L0 q.Uk (p.Uk.getD z ay)=true) (fun (j:Nat)=>p.Uk.length-j)
theorem Pf (p q:Pr) (h1:p.Ul.length≤1000000) (h2:p.Uk.length≤1000000) (h3:q.Ul.length≤1000000) (h4:q.Uk.length≤1000000):CC (SW p q):=by
 refine ah.vc (V:=TT 7 (GO (pz p q) 0 (∀i,(pz p q).inv i→TT 1 (CD ((i:Int)<(p.Ul.length:Int)) (IX (i:Int) p.Ul.length∧TT 6 (CK (SR q.Ul (p.Ul.getD i aI))∧TT 1 (CB (!(LZ q.Ul (p.Ul.getD i aI))) (TT 2 (false=(kh p q)∧True)) (W6 ((i+1:Nat):Int)∧TT 1 (AG (pz p q) i (i+1)))))) (TT 4 (GO (pA p q) 0 (∀j,(pA p q).inv j→TT 1 (CD ((j:Int)<(p.Uk.length:Int)) (IX (j:Int) p.Uk.length∧TT 6 (CK (SV q.Uk (p.Uk.getD j ay))∧TT 1 (CB (!(L0 q.Uk (p.Uk.getD j ay))) (TT 2 (false=(kh p q)∧True)) (W6 ((j+1:Nat):Int)∧TT 1 (AG (pA p q) j (j+1)))))) (TT 2 (true=(kh p q)∧True)))))))))) (.l (pz p q) 0 (fun i=>.b 13 (.w 4 [(3,(SR q.Ul (p.Ul.getD i aI)).O')]<|.b 20 (.e) (.w 6 [(0,.val (i6 ((i+1:Nat):Int)))]<|.e)) (.l (pA p q) 0 (fun j=>.b 26 (.w 10 [(3,(SV q.Uk (p.Uk.getD j ay)).O')]<|.b 33 (.e) (.w 12 [(0,.val (i6 ((j+1:Nat):Int)))]<|.e)) (.e))))) Tryz.func34 rfl rfl rfl (by kernel_rfl) ?_
 refine tt ⟨rfl,⟨by omega,fun z hz=>by omega⟩,?_⟩
 intro i F'
 obtain⟨hi,k1⟩:=F'
 refine tt (cd (fun hc13=>?_) (fun hc13=>?_))
 · refine⟨ix,tt ⟨⟨du _ rfl,(Pc q.Ul (p.Ul.getD i aI) om)⟩,tt ⟨fun YM=>?_,fun YM=>?_⟩⟩⟩
   · refine tt ⟨?_,oK⟩
     first | exact(tV (i:=i) (by omega) (by simpa using YM)).symm | exact(tW (i:=j) (by omega) (by simpa using hc33)).symm | exact(tX (fun z hz=>k1 z (by omega)) (fun z hz=>k2 z (by omega))).symm
   · refine⟨w6,tt ⟨(i+1),rfl,?_,(?_:p.Ul.length-(i+1)<p.Ul.length-i)⟩⟩
     · exact⟨by omega,bD k1 (by simpa using YM)⟩
     · omega
 · refine tt ⟨rfl,⟨by omega,fun z hz=>by omega⟩,?_⟩
   intro j F'
   obtain⟨hj,k2⟩:=F'
   refine tt (cd (fun hc26=>?_) (fun hc26=>?_))
   · refine⟨ix,tt ⟨⟨du _ rfl,(Pe q.Uk (p.Uk.getD j ay) om)⟩,tt ⟨fun hc33=>?_,fun hc33=>?_⟩⟩⟩
     · refine tt ⟨?_,oK⟩
       first | exact(tV (i:=i) (by omega) (by simpa using YM)).symm | exact(tW (i:=j) (by omega) (by simpa using hc33)).symm | exact(tX (fun z hz=>k1 z (by omega)) (fun z hz=>k2 z (by omega))).symm
     · refine⟨w6,tt ⟨(j+1),rfl,?_,(?_:p.Uk.length-(j+1)<p.Uk.length-j)⟩⟩
       · exact⟨by omega,bD k2 (by simpa using hc33)⟩
       · omega
   · refine tt ⟨?_,oK⟩
     first | exact(tV (i:=i) (by omega) (by simpa using YM)).symm | exact(tW (i:=j) (by omega) (by simpa using hc33)).symm | exact(tX (fun z hz=>k1 z (by omega)) (fun z hz=>k2 z (by omega))).symm
abbrev SX (v w:Int):Ct:=⟨46,[(i6 v),(i6 w)],false,(i6 (nb v w))⟩
theorem Pg (v w:Int) (h1:0≤w) (h2:w≤62):CC (SX v w):=by
 refine ah.vc (V:=TT 3 ((True∧IntKind.u64.wrap w=w)∧SH w∧W6 ((2^w.toNat)-1)∧(True∧(IntKind.wrap .i64 (BitVec.ofInt (IntKind.i64).bits v &&& BitVec.ofInt (IntKind.i64).bits ((2^w.toNat)-1)).toNat)=(nb v w))∧TT 2 ((nb v w)=(nb v w)∧True))) (.w 1 [(2,.val (dI .u64 w)),(3,.val (i6 (2^w.toNat))),(4,.val (i6 ((2^w.toNat)-1))),(5,.val (i6 (nb v w)))]<|.e) Tryz.func46 rfl rfl rfl (by kernel_rfl) ?_
 exact tt ⟨⟨oK,G3 rfl om om⟩,⟨sh,⟨(w6 (by have:=nP (n:=w.toNat) (by omega);omega) (by have:=nP (n:=w.toNat) (by omega);omega)),⟨⟨oK,(by unfold nb;rw[Uw ⟨h1,h2⟩];exact ir (by omega))⟩,tt ⟨rfl,oK⟩⟩⟩⟩⟩
abbrev Gb (o:Ci):List D:=[(dL 6 bG ac o.U),(dL 5 ca aK o.J)]
abbrev Gc (n:Ci):List D:=[(dL 6 bG ac n.U),(dL 5 ca aK n.J)]
set_option maxRecDepth 100000
abbrev QV (o n:Ci):Ct:=⟨16,[(.agg (Gb o)),(.agg (Gc n))],true,(dB (d6 o n))⟩
abbrev fP (o:Ci) (n:Ci):Lp (Nat):=gD [2,3,5,23,24,25] 2 (fun (k:Nat)=>⟨[(2,(.ptr 0 0 0 0)),(3,(.ptr 1 0 0 0)),(5,(.v (.sm false (ab .i64) 0 (cY [] (bP n) n.J.length)))),(23,(dL 5 ca aK o.J)),(24,(i6 (o.J.length:Int))),(25,(i6 (k:Int)))],[(.var 32 (Gb o)),(.var 32 (Gc n))]⟩) (fun (k:Nat)=>k≤o.J.length∧∀z,z<k→qq o n z=true) (fun (k:Nat)=>o.J.length-k)
abbrev mI (o:Ci) (n:Ci):Lp (Nat):=gD [3,51,52,53] 2 (fun (i:Nat)=>⟨[(3,(.ptr 1 0 0 0)),(51,(dL 6 bG ac o.U)),(52,(i6 (o.U.length:Int))),(53,(i6 (i:Int)))],[(.var 32 (Gb o)),(.var 32 (Gc n))]⟩) (fun (i:Nat)=>i≤o.U.length∧∀z,z<i→nc o n z=true) (fun (i:Nat)=>o.U.length-i)
abbrev jP (o:Ci) (n:Ci) (i:Nat):Lp (Nat×Pr):=nN [3,11,12,51,52,53,58,59,60] 8 (fun (r:Nat) (q:Pr)=>⟨[(3,(.ptr 1 0 0 0)),(11,(.ptr 2 0 0 0)),(12,(.ptr 3 0 0 0)),(51,(dL 6 bG ac o.U)),(52,(i6 (o.U.length:Int))),(53,(i6 (i:Int))),(58,(dL 6 bG ac n.U)),(59,(i6 (n.U.length:Int))),(60,(i6 (r:Int)))],[(.var 32 (Gb o)),(.var 32 (Gc n)),(.var 76 [(dS ((o.U.getD i ac).name)),(dS ((o.U.getD i ac).clock)),(dL 13 bO aI ((o.U.getD i ac).Ul)),(dL 27 b8 ay ((o.U.getD i ac).Uk)),(dL 9 dU bC ((o.U.getD i ac).I)),(dL 16 dQ bt ((o.U.getD i ac).Uj))]),(.var 76 [(dS q.name),(dS q.clock),(dL 13 bO aI q.Ul),(dL 27 b8 ay q.Uk),(dL 9 dU bC q.I),(dL 16 dQ bt q.Uj)]),.dead,.dead,.dead,.dead]⟩) (fun (r:Nat) (q:Pr)=>r≤n.U.length∧q=kk n (jG o i) r) (fun (r:Nat) (q:Pr)=>n.U.length-r)
theorem Gd (o n:Ci) (h1:o.J.length≤1000000) (h2:n.J.length≤1000000) (h3:o.U.length≤1000000) (h4:n.U.length≤1000000) (ho:∀i,i<o.U.length→JE (o.U.getD i ac)) (hn:∀i,i<n.U.length→JE (n.U.getD i ac)):CC (QV o n):=by
 refine ah.vc (V:=TT 5 (CC (NA o n)∧TT 2 (CD ((((bv o n o.J.length).length:Nat):Int)>0) (TT 2 (false=(d6 o n))) (TT 1 (CC (OW n)∧TT 5 (GO (fP o n) 0 (∀k,(fP o n).inv k→TT 1 (CD ((k:Int)<(o.J.length:Int)) (IX (k:Int) o.J.length∧TT 8 (CD (((o.J.getD k aK).cap)=0) (TT 6 (((dC (i6 0) (gE false ((ab .i64) 0)))∧(false=false→∀p∈(cY [] (bP n) n.J.length),((ab .i64) p.2).length=1))∧IX (ak 0 (cY [] (bP n) n.J.length) ((o.J.getD k aK).name)) n.J.length∧TT 3 (CS (((n.J.getD ((ak 0 (cY [] (bP n) n.J.length) ((o.J.getD k aK).name)).toNat) aK).cap)>0) (TT 2 ((True∧(decide (((n.J.getD ((ak 0 (cY [] (bP n) n.J.length) ((o.J.getD k aK).name)).toNat) aK).cap)>0))=true)∧TT 4 (CD (((n.J.getD ((ak 0 (cY [] (bP n) n.J.length) ((o.J.getD k aK).name)).toNat) aK).cap)<8) (TT 2 (false=(d6 o n))) (W6 ((k+1:Nat):Int)∧TT 1 (AG (fP o n) k (k+1)))))) (TT 2 ((True∧(decide (((n.J.getD ((ak 0 (cY [] (bP n) n.J.length) ((o.J.getD k aK).name)).toNat) aK).cap)>0))=false)∧TT 4 (W6 ((k+1:Nat):Int)∧TT 1 (AG (fP o n) k (k+1)))))))) (TT 5 (((dC (i6 0) (gE false ((ab .i64) 0)))∧(false=false→∀p∈(cY [] (bP n) n.J.length),((ab .i64) p.2).length=1))∧IX (ak 0 (cY [] (bP n) n.J.length) ((o.J.getD k aK).name)) n.J.length∧TT 3 (CS (((n.J.getD ((ak 0 (cY [] (bP n) n.J.length) ((o.J.getD k aK).name)).toNat) aK).cap)>0) (TT 2 ((True∧(decide (((n.J.getD ((ak 0 (cY [] (bP n) n.J.length) ((o.J.getD k aK).name)).toNat) aK).cap)>0))=true)∧TT 4 (CD (((n.J.getD ((ak 0 (cY [] (bP n) n.J.length) ((o.J.getD k aK).name)).toNat) aK).cap)<((o.J.getD k aK).cap)) (TT 2 (false=(d6 o n))) (W6 ((k+1:Nat):Int)∧TT 1 (AG (fP o n) k (k+1)))))) (TT 2 ((True∧(decide (((n.J.getD ((ak 0 (cY [] (bP n) n.J.length) ((o.J.getD k aK).name)).toNat) aK).cap)>0))=false)∧TT 4 (W6 ((k+1:Nat):Int)∧TT 1 (AG (fP o n) k (k+1)))))))))) (TT 4 (GO (mI o n) 0 (∀i,(mI o n).inv i→TT 1 (CD ((i:Int)<(o.U.length:Int)) (IX (i:Int) o.U.length∧TT 8 (GO (jP o n i) (0,ac) (∀r q,(jP o n i).inv (r,q)→TT 1 (CD ((r:Int)<(n.U.length:Int)) (IX (r:Int) n.U.length∧TT 8 (CB (((n.U.getD r ac).name).toList==((o.U.getD i ac).name).toList) (TT 2 (W6 ((r+1:Nat):Int)∧TT 1 (AG (jP o n i) (r,q) (r+1,(n.U.getD r ac))))) (W6 ((r+1:Nat):Int)∧TT 1 (AG (jP o n i) (r,q) (r+1,q))))) (TT 2 (CC (SW (o.U.getD i ac) q)∧TT 1 (CB (!(kh (o.U.getD i ac) q)) (TT 2 (false=(d6 o n))) (W6 ((i+1:Nat):Int)∧TT 1 (AG (mI o n) i (i+1)))))))))) (TT 2 (true=(d6 o n))))))))))))))) (.w 1 [(2,(NA o n).O)]<|.b 19 (.e) (.w 3 [(1,(OW n).O)]<|.l (fP o n) 0 (fun k=>.b 26 (.b 32 (.s 11 (((n.J.getD ((ak 0 (cY [] (bP n) n.J.length) ((o.J.getD k aK).name)).toNat) aK).cap)>0) (.w 11 [(2,.val (dB true))]<|.b 48 (.e) (.w 13 [(0,.val (i6 ((k+1:Nat):Int)))]<|.e)) (.w 11 [(2,.val (dB false))]<|.w 13 [(0,.val (i6 ((k+1:Nat):Int)))]<|.e)) (.s 11 (((n.J.getD ((ak 0 (cY [] (bP n) n.J.length) ((o.J.getD k aK).name)).toNat) aK).cap)>0) (.w 11 [(2,.val (dB true))]<|.b 48 (.e) (.w 13 [(0,.val (i6 ((k+1:Nat):Int)))]<|.e)) (.w 11 [(2,.val (dB false))]<|.w 13 [(0,.val (i6 ((k+1:Nat):Int)))]<|.e))) (.l (mI o n) 0 (fun i=>.b 54 (.g 18 3 2 60 13 bO aI<|.g 18 3 3 64 27 b8 ay<|.g 18 3 4 150 9 dU bC<|.g 18 3 5 72 16 dQ bt<|.f 18 4<|.f 18 5<|.f 18 6<|.f 18 7<|.l (jP o n i) (0,ac) (fun ⟨r,q⟩=>.b 61 (.b 68 (.w 23 [(0,.val (i6 ((r+1:Nat):Int)))]<|.e) (.w 23 [(0,.val (i6 ((r+1:Nat):Int)))]<|.e)) (.w 24 [(2,(SW (o.U.getD i ac) q).O)]<|.b 74 (.e) (.w 26 [(0,.val (i6 ((i+1:Nat):Int)))]<|.e)))) (.e)))))) Tryz.func16 rfl rfl rfl (by kernel_rfl) ?_
 refine tt ⟨(t7 o n h1 h2),tt (cd (fun YX=>?_) (fun YX=>?_))⟩
 · refine tt ?_
   first | exact(lh (by omega)).symm | exact(li (i:=k) (by omega) (by assumption) (by first | (rw[md (by assumption)];assumption) | (rw[mf (by assumption)];assumption))).symm | exact(jm (i:=i) (by omega) (by simpa[nc,jG,hq,hre]using ZT)).symm | exact(lj (by omega) (fun z hz=>Zl z (by omega)) (fun z hz=>hkp z (by omega))).symm
 · refine tt ⟨(rb n (by omega)),tt ⟨rfl,⟨by omega,fun z hz=>by omega⟩,?_⟩⟩
   intro k F'
   obtain⟨hk,Zl⟩:=F'
   refine tt (cd (fun hc26=>?_) (fun hc26=>?_))
   · have hxb:=JD YX (k:=k) (by omega)
     refine⟨ix,tt (cd (fun hc32=>?_) (fun hc32=>?_))⟩
     · refine tt ⟨⟨(dC.refl _),(fun _ _ _=>rfl)⟩,⟨ix,tt ⟨fun N'=>?_,fun N'=>?_⟩⟩⟩
       · refine tt ⟨(vT N'),tt (cd (fun hc48=>?_) (fun hc48=>?_))⟩
         · refine tt ?_
           first | exact(lh (by omega)).symm | exact(li (i:=k) (by omega) (by assumption) (by first | (rw[md (by assumption)];assumption) | (rw[mf (by assumption)];assumption))).symm | exact(jm (i:=i) (by omega) (by simpa[nc,jG,hq,hre]using ZT)).symm | exact(lj (by omega) (fun z hz=>Zl z (by omega)) (fun z hz=>hkp z (by omega))).symm
         · refine⟨w6,tt ⟨(k+1),rfl,?_,(?_:o.J.length-(k+1)<o.J.length-k)⟩⟩
           · exact⟨by omega,bD Zl (by first | exact z6 (by assumption) | exact z7 (by first | (rw[md (by assumption)];assumption) | (rw[mf (by assumption)];assumption)))⟩
           · omega
       · refine tt ⟨(vF N'),tt ⟨w6,tt ⟨(k+1),rfl,?_,(?_:o.J.length-(k+1)<o.J.length-k)⟩⟩⟩
         · exact⟨by omega,bD Zl (by first | exact z6 (by assumption) | exact z7 (by first | (rw[md (by assumption)];assumption) | (rw[mf (by assumption)];assumption)))⟩
         · omega
     · refine tt ⟨⟨(dC.refl _),(fun _ _ _=>rfl)⟩,⟨ix,tt ⟨fun WN=>?_,fun WN=>?_⟩⟩⟩
       · refine tt ⟨(vT WN),tt (cd (fun hc48=>?_) (fun hc48=>?_))⟩
         · refine tt ?_
           first | exact(lh (by omega)).symm | exact(li (i:=k) (by omega) (by assumption) (by first | (rw[md (by assumption)];assumption) | (rw[mf (by assumption)];assumption))).symm | exact(jm (i:=i) (by omega) (by simpa[nc,jG,hq,hre]using ZT)).symm | exact(lj (by omega) (fun z hz=>Zl z (by omega)) (fun z hz=>hkp z (by omega))).symm
         · refine⟨w6,tt ⟨(k+1),rfl,?_,(?_:o.J.length-(k+1)<o.J.length-k)⟩⟩
           · exact⟨by omega,bD Zl (by first | exact z6 (by assumption) | exact z7 (by first | (rw[md (by assumption)];assumption) | (rw[mf (by assumption)];assumption)))⟩
           · omega
       · refine tt ⟨(vF WN),tt ⟨w6,tt ⟨(k+1),rfl,?_,(?_:o.J.length-(k+1)<o.J.length-k)⟩⟩⟩
         · exact⟨by omega,bD Zl (by first | exact z6 (by assumption) | exact z7 (by first | (rw[md (by assumption)];assumption) | (rw[mf (by assumption)];assumption)))⟩
         · omega
   · refine tt ⟨rfl,⟨by omega,fun z hz=>by omega⟩,?_⟩
     intro i F'
     obtain⟨hi,hkp⟩:=F'
     refine tt (cd (fun XD=>?_) (fun XD=>?_))
     · refine⟨ix,tt ⟨rfl,⟨by omega,rfl⟩,?_⟩⟩
       intro r q F'
       obtain⟨hr,hq⟩:=F'
       refine tt (cd (fun Y5=>?_) (fun Y5=>?_))
       · refine⟨ix,tt ⟨fun hc68=>?_,fun hc68=>?_⟩⟩
         · refine tt ⟨w6,tt ⟨(r+1,(n.U.getD r ac)),rfl,?_,(?_:n.U.length-(r+1)<n.U.length-r)⟩⟩
           · exact⟨by omega,by first | exact(BQ hc68).symm | (rw[hq];exact FG hc68)⟩
           · omega
         · refine⟨w6,tt ⟨(r+1,q),rfl,?_,(?_:n.U.length-(r+1)<n.U.length-r)⟩⟩
           · exact⟨by omega,by first | exact(BQ hc68).symm | (rw[hq];exact FG hc68)⟩
           · omega
       · have hre:r=n.U.length:=by omega
         have Yg:JE q:=by rw[hq];exact FH hn r hr
         have hpo:=ho i (by omega)
         refine tt ⟨(Pf (o.U.getD i ac) q hpo.1 hpo.2 Yg.1 Yg.2),tt ⟨fun ZT=>?_,fun ZT=>?_⟩⟩
         · refine tt ?_
           first | exact(lh (by omega)).symm | exact(li (i:=k) (by omega) (by assumption) (by first | (rw[md (by assumption)];assumption) | (rw[mf (by assumption)];assumption))).symm | exact(jm (i:=i) (by omega) (by simpa[nc,jG,hq,hre]using ZT)).symm | exact(lj (by omega) (fun z hz=>Zl z (by omega)) (fun z hz=>hkp z (by omega))).symm
         · refine⟨w6,tt ⟨(i+1),rfl,?_,(?_:o.U.length-(i+1)<o.U.length-i)⟩⟩
           · exact⟨by omega,bD hkp (by simpa[nc,jG,hq,hre]using ZT)⟩
           · omega
     · refine tt ?_
       first | exact(lh (by omega)).symm | exact(li (i:=k) (by omega) (by assumption) (by first | (rw[md (by assumption)];assumption) | (rw[mf (by assumption)];assumption))).symm | exact(jm (i:=i) (by omega) (by simpa[nc,jG,hq,hre]using ZT)).symm | exact(lj (by omega) (fun z hz=>Zl z (by omega)) (fun z hz=>hkp z (by omega))).symm
abbrev yM (c:Ci):List D:=[(dL 6 bG ac c.U),(dL 5 ca aK c.J)]
abbrev Ge (s:Ns):List D:=[(dL 2 bi a7 s.U),(dL 1 aa [] s.J)]
set_option maxRecDepth 100000
abbrev QW (c:Ci) (b:List Int):Ct:=⟨19,[(.agg (yM c)),(LY b)],true,(.agg [(dL 6 bG ac ((aM c b).U)),(dL 5 ca aK ((aM c b).J))])⟩
abbrev fY (c:Ci) (b:List Int):Lp (Nat):=gD [1,2,4,5,6,7] 5 (fun (i:Nat)=>⟨[(1,(LY b)),(2,(.ptr 0 0 0 0)),(4,(.ptr 1 0 0 0)),(5,(.ptr 2 0 0 0)),(6,(.ptr 3 0 0 0)),(7,(i6 (i:Int)))],[(.var 32 (yM c)),(.var 32 [.nils,.nils]),(.var 32 [(.own 4),(dL 5 ca aK c.J)]),(.var 58 [(i6 1),(dS e0),(i6 0),(dS e0),(i6 1),(dS e0),.nils]),(.arr 76 6 bG ac (tab (fun zi=>km (c.U.getD zi ac) b zi) i))]⟩) (fun (i:Nat)=>i≤c.U.length) (fun (i:Nat)=>c.U.length-i)
theorem Cr (c:Ci) (b:List Int) (hl:c.U.length≤1000000) (hb:ic b):CC (QW c b):=by
 refine ah.vc (V:=TT 12 (GO (fY c b) 0 (∀i,(fY c b).inv i→TT 5 (CD ((i:Int)<(c.U.length:Int)) (TT 3 (IX (i:Int) c.U.length∧TT 3 (CS ((i:Int)<(b.length:Int)) (TT 4 ((True∧(decide ((i:Int)<(b.length:Int)))=true)∧TT 2 (IX (i:Int) b.length∧TT 1 (QM (b.getD i 0) 2∧TT 2 (CD (((b.getD i 0)%2)=1) (TT 2 (IX (i:Int) b.length∧TT 1 (((2:Int)≠0∧(IntKind.wrap .u8 (Int.tdiv (b.getD i 0) 2))=(b.getD i 0 / 2))∧QM (b.getD i 0 / 2) 2∧W6 ((b.getD i 0 / 2)%2)∧W6 (1+((b.getD i 0 / 2)%2))∧TT 7 (am [[(i6 2)],[(i6 1)],[(i6 4)],[(i6 2)]] ([2,1,4,2].map (ab .i64))∧TT 2 (IX (i:Int) b.length∧TT 1 (((4:Int)≠0∧(IntKind.wrap .u8 (Int.tdiv (b.getD i 0) 4))=(b.getD i 0 / 4))∧QM (b.getD i 0 / 4) 4∧IX ((b.getD i 0 / 4)%4) ([2,1,4,2].length)∧(((b.getD i 0 / 4)%4).toNat<[2,1,4,2].length∧True)∧TT 5 (am [[(dS (bs [109,101,109])),(i6 (1+((b.getD i 0 / 2)%2))),(i6 (([2,1,4,2]).getD (((b.getD i 0 / 4)%4).toNat) 0)),(i6 1),(dS e0),(i6 0),(dS e0),(i6 1),(dS e0),.nils,(i6 1),(dS e0),(i6 0),(dS e0),(i6 1),(dS e0),.nils,(i6 1),(dS e0),(i6 0),(dS e0),(i6 (1+((b.getD i 0 / 2)%2))),(dS e0),.nils,(i6 1),(dS e0),(i6 0)]] ([t4 (b.getD i 0)].map b8)∧TT 5 (am [[(dS ((c.U.getD i ac).name)),(dS ((c.U.getD i ac).clock)),(dL 13 bO aI ((c.U.getD i ac).Ul)),(dL 27 b8 ay [t4 (b.getD i 0)]),(dL 9 dU bC ((c.U.getD i ac).I)),(dL 16 dQ bt ((c.U.getD i ac).Uj))]] ([(⟨(c.U.getD i ac).name,(c.U.getD i ac).clock,(c.U.getD i ac).Ul,[t4 (b.getD i 0)],(c.U.getD i ac).I,(c.U.getD i ac).Uj⟩:Pr)].map bG)∧((tab (fun zi=>km (c.U.getD zi ac) b zi) i).length+([(⟨(c.U.getD i ac).name,(c.U.getD i ac).clock,(c.U.getD i ac).Ul,[t4 (b.getD i 0)],(c.U.getD i ac).I,(c.U.getD i ac).Uj⟩:Pr)].map bG).length≤137438953472∧(tab (fun zi=>km (c.U.getD zi ac) b zi) i).map bG++[(⟨(c.U.getD i ac).name,(c.U.getD i ac).clock,(c.U.getD i ac).Ul,[t4 (b.getD i 0)],(c.U.getD i ac).I,(c.U.getD i ac).Uj⟩:Pr)].map bG=(tab (fun zi=>km (c.U.getD zi ac) b zi) (i+1)).map bG)∧TT 3 (W6 ((i+1:Nat):Int)∧TT 1 (AG (fY c b) i (i+1))))))))))) (TT 3 (am [[(dS ((c.U.getD i ac).name)),(dS ((c.U.getD i ac).clock)),(dL 13 bO aI ((c.U.getD i ac).Ul)),(dL 27 b8 ay ((c.U.getD i ac).Uk)),(dL 9 dU bC ((c.U.getD i ac).I)),(dL 16 dQ bt ((c.U.getD i ac).Uj))]] ([c.U.getD i ac].map bG)∧((tab (fun zi=>km (c.U.getD zi ac) b zi) i).length+([c.U.getD i ac].map bG).length≤137438953472∧(tab (fun zi=>km (c.U.getD zi ac) b zi) i).map bG++[c.U.getD i ac].map bG=(tab (fun zi=>km (c.U.getD zi ac) b zi) (i+1)).map bG)∧TT 3 (W6 ((i+1:Nat):Int)∧TT 1 (AG (fY c b) i (i+1)))))))))) (TT 4 ((True∧(decide ((i:Int)<(b.length:Int)))=false)∧TT 10 (am [[(dS ((c.U.getD i ac).name)),(dS ((c.U.getD i ac).clock)),(dL 13 bO aI ((c.U.getD i ac).Ul)),(dL 27 b8 ay ((c.U.getD i ac).Uk)),(dL 9 dU bC ((c.U.getD i ac).I)),(dL 16 dQ bt ((c.U.getD i ac).Uj))]] ([c.U.getD i ac].map bG)∧((tab (fun zi=>km (c.U.getD zi ac) b zi) i).length+([c.U.getD i ac].map bG).length≤137438953472∧(tab (fun zi=>km (c.U.getD zi ac) b zi) i).map bG++[c.U.getD i ac].map bG=(tab (fun zi=>km (c.U.getD zi ac) b zi) (i+1)).map bG)∧TT 3 (W6 ((i+1:Nat):Int)∧TT 1 (AG (fY c b) i (i+1))))))))) (TT 3 ((tab (fun zi=>km (c.U.getD zi ac) b zi) i).map bG=((aM c b).U).map bG∧c.J.map ca=((aM c b).J).map ca∧True)))))) (.g 3 2 0 76 6 bG ac<|.l (fY c b) 0 (fun i=>.b 20 (.s 7 ((i:Int)<(b.length:Int)) (.w 7 [(4,.val (dB true)),(9,.val (dI .u8 ((b.getD i 0)%2)))]<|.b 39 (.w 8 [(4,.val (dI .u8 (b.getD i 0 / 2))),(5,.val (dI .u8 ((b.getD i 0 / 2)%2))),(6,.val (i6 ((b.getD i 0 / 2)%2))),(7,.val (i6 (1+((b.getD i 0 / 2)%2))))]<|.w 10 [(1,.app false 3 1 (ab .i64) 0 [2,1,4,2]),(6,.val (dI .u8 (b.getD i 0 / 4))),(7,.val (dI .u8 ((b.getD i 0 / 4)%4))),(15,.box 64 27 b8 ay [t4 (b.getD i 0)])]<|.w 11 [(3,.box 76 6 bG ac [(⟨(c.U.getD i ac).name,(c.U.getD i ac).clock,(c.U.getD i ac).Ul,[t4 (b.getD i 0)],(c.U.getD i ac).I,(c.U.getD i ac).Uj⟩:Pr)]),(4,.box 76 6 bG ac (tab (fun zi=>km (c.U.getD zi ac) b zi) (i+1)))]<|.w 5 [(1,.val (i6 ((i+1:Nat):Int)))]<|.e) (.w 11 [(3,.box 76 6 bG ac [c.U.getD i ac]),(4,.box 76 6 bG ac (tab (fun zi=>km (c.U.getD zi ac) b zi) (i+1)))]<|.w 5 [(1,.val (i6 ((i+1:Nat):Int)))]<|.e)) (.w 7 [(4,.val (dB false))]<|.w 11 [(3,.box 76 6 bG ac [c.U.getD i ac]),(4,.box 76 6 bG ac (tab (fun zi=>km (c.U.getD zi ac) b zi) (i+1)))]<|.w 5 [(1,.val (i6 ((i+1:Nat):Int)))]<|.e)) (.e))) Tryz.func19 rfl rfl rfl (by kernel_rfl) ?_
 refine tt ⟨rfl,(by omega),?_⟩
 intro i F'
 have hi:=F'
 refine tt (cd (fun YM=>?_) (fun YM=>?_))
 · have hy:=cO hb i
   refine tt ⟨ix,tt ⟨fun N'=>?_,fun N'=>?_⟩⟩
   · refine tt ⟨(vT N'),tt ⟨ix,tt ⟨qm,tt (cd (fun Xq=>?_) (fun Xq=>?_))⟩⟩⟩
     · have Xv:km (c.U.getD i ac) b i={ (c.U.getD i ac)with Uk:=[t4 (b.getD i 0)] }:=Mg (by omega) Xq _
       refine tt ⟨ix,tt ⟨⟨om,(Nr (k:=2) hy.1 hy.2)⟩,⟨qm,⟨w6,⟨w6,tt ⟨⟨⟨rfl,oK⟩,⟨rfl,oK⟩,⟨rfl,oK⟩,⟨rfl,oK⟩,oK⟩,tt ⟨ix,tt ⟨⟨om,(Nr (k:=4) hy.1 hy.2)⟩,⟨qm,⟨ix,⟨⟨om,oK⟩,tt ⟨⟨⟨rfl,rfl,rfl,rfl,rfl,rfl,rfl,rfl,rfl,rfl,rfl,rfl,rfl,rfl,rfl,rfl,rfl,rfl,rfl,rfl,rfl,rfl,rfl,rfl,rfl,rfl,rfl,oK⟩,oK⟩,tt ⟨⟨⟨rfl,rfl,rfl,rfl,rfl,rfl,oK⟩,oK⟩,⟨(aZ (by omega) Xv.symm),tt ⟨w6,tt ⟨(i+1),rfl,(?_:(i+1)≤c.U.length),(?_:c.U.length-(i+1)<c.U.length-i)⟩⟩⟩⟩⟩⟩⟩⟩⟩⟩⟩⟩⟩⟩⟩⟩
       · omega
       · omega
     · have Xv:km (c.U.getD i ac) b i=(c.U.getD i ac):=Mi Xq _
       refine tt ⟨⟨⟨rfl,rfl,rfl,rfl,rfl,rfl,oK⟩,oK⟩,⟨(aZ (by omega) Xv.symm),tt ⟨w6,tt ⟨(i+1),rfl,(?_:(i+1)≤c.U.length),(?_:c.U.length-(i+1)<c.U.length-i)⟩⟩⟩⟩
       · omega
       · omega
   · have Xv:km (c.U.getD i ac) b i=(c.U.getD i ac):=Mh (by omega) _
     refine tt ⟨(vF N'),tt ⟨⟨⟨rfl,rfl,rfl,rfl,rfl,rfl,oK⟩,oK⟩,⟨(aZ (by omega) Xv.symm),tt ⟨w6,tt ⟨(i+1),rfl,(?_:(i+1)≤c.U.length),(?_:c.U.length-(i+1)<c.U.length-i)⟩⟩⟩⟩⟩
     · omega
     · omega
 · refine tt ⟨(congrArg _ (?_:(tab (fun zi=>km (c.U.getD zi ac) b zi) i)=((aM c b).U))),(congrArg _ (?_:c.J=((aM c b).J))),oK⟩
   · rw[show i=c.U.length by omega];rfl
   · rfl
abbrev QX (c:Ci) (s:Ns) (b:List Int):Ct:=⟨24,[(.agg (yM c)),(.agg (Ge s)),(LY b)],true,(.agg [(dL 2 bi a7 ((iA c s b).U)),(dL 1 aa [] ((iA c s b).J))])⟩
abbrev ku (c:Ci) (s:Ns) (b:List Int):Lp (Nat×Nat):=nN [2,3,4,6,7,8,9] 5 (fun (i:Nat) (q0:Nat)=>⟨[(2,(LY b)),(3,(.ptr 0 0 0 0)),(4,(.ptr 1 0 0 0)),(6,(.ptr 2 0 0 0)),(7,(.ptr 3 0 0 0)),(8,(i6 (q0:Int))),(9,(i6 (i:Int)))],[(.var 32 (yM c)),(.var 36 (Ge s)),(.var 36 [.nils,.nils]),(.var 36 [(.own 4),(dL 1 aa [] s.J)]),(.arr 69 2 bi a7 (tab (Hn b c s) i))]⟩) (fun (i:Nat) (q0:Nat)=>i≤c.U.length∧q0=kQ b c i) (fun (i:Nat) (q0:Nat)=>c.U.length-i)
abbrev kv (c:Ci) (s:Ns) (b:List Int) (i:Nat):Lp (Nat×Nat):=nN [2,3,4,6,7,8,9,10,11] 7 (fun (k:Nat) (q1:Nat)=>⟨[(2,(LY b)),(3,(.ptr 0 0 0 0)),(4,(.ptr 1 0 0 0)),(6,(.ptr 2 0 0 0)),(7,(.ptr 3 0 0 0)),(8,(i6 (q1:Int))),(9,(i6 (i:Int))),(10,(.ptr 5 0 0 0)),(11,(i6 (k:Int)))],[(.var 32 (yM c)),(.var 36 (Ge s)),(.var 36 [.nils,.nils]),(.var 36 [(.own 4),(dL 1 aa [] s.J)]),(.arr 69 2 bi a7 (tab (Hn b c s) i)),(.var 69 [(LI ((s.U.getD i a7).Ul)),(.own 6)]),(.arr 67 1 aa [] (tab (CR b (c.U.getD i ac) (kQ b c i)) k))]⟩) (fun (k:Nat) (q1:Nat)=>k≤(c.U.getD i ac).Uk.length∧q1=uP b (c.U.getD i ac) (kQ b c i) k) (fun (k:Nat) (q1:Nat)=>(c.U.getD i ac).Uk.length-k)
abbrev iE (c:Ci) (s:Ns) (b:List Int) (i:Nat) (k:Nat):Lp (Nat×Nat):=nN [2,3,4,6,7,8,9,10,11,12,13] 8 (fun (z:Nat) (q2:Nat)=>⟨[(2,(LY b)),(3,(.ptr 0 0 0 0)),(4,(.ptr 1 0 0 0)),(6,(.ptr 2 0 0 0)),(7,(.ptr 3 0 0 0)),(8,(i6 (q2:Int))),(9,(i6 (i:Int))),(10,(.ptr 5 0 0 0)),(11,(i6 (k:Int))),(12,(.own 7)),(13,(i6 (z:Int)))],[(.var 32 (yM c)),(.var 36 (Ge s)),(.var 36 [.nils,.nils]),(.var 36 [(.own 4),(dL 1 aa [] s.J)]),(.arr 69 2 bi a7 (tab (Hn b c s) i)),(.var 69 [(LI ((s.U.getD i a7).Ul)),(.own 6)]),(.arr 67 1 aa [] (tab (CR b (c.U.getD i ac) (kQ b c i)) k)),(.arr 3 1 (ab .i64) 0 (tab (yB b ((c.U.getD i ac).Uk.getD k ay).w (uP b (c.U.getD i ac) (kQ b c i) k)) z))]⟩) (fun (z:Nat) (q2:Nat)=>z≤((c.U.getD i ac).Uk.getD k ay).Um.toNat∧q2=(uP b (c.U.getD i ac) (kQ b c i) k)+z) (fun (z:Nat) (q2:Nat)=>((c.U.getD i ac).Uk.getD k ay).Um.toNat-z)
theorem Cs (c:Ci) (s:Ns) (b:List Int) (hc:cr c) (hs:eG c s) (hb:ic b):CC (QX c s b):=by
 have Xo:=hc.nl
 have YI:=hs.pl
 refine ah.vc (V:=TT 10 (GO (ku c s b) (0,0) (∀i q0,(ku c s b).inv (i,q0)→TT 5 (CD ((i:Int)<(c.U.length:Int)) (TT 3 (IX (i:Int) s.U.length∧TT 6 (GO (kv c s b i) (0,q0) (∀k q1,(kv c s b i).inv (k,q1)→TT 4 (IX (i:Int) c.U.length∧TT 4 (CD ((k:Int)<((((c.U.getD i ac).Uk).length:Nat):Int)) (am [] (([]:List Int).map (ab .i64))∧TT 2 (GO (iE c s b i k) (0,q1) (∀z q2,(iE c s b i k).inv (z,q2)→TT 4 (IX (i:Int) c.U.length∧TT 3 (IX (k:Int) (((c.U.getD i ac).Uk).length)∧TT 3 (CD ((z:Int)<((((c.U.getD i ac).Uk).getD k ay).Um)) (TT 5 (CD ((q2:Int)<(b.length:Int)) (TT 2 (IX (q2:Int) b.length∧TT 1 (W6 (b.getD q2 0)∧TT 3 (IX (i:Int) c.U.length∧TT 3 (IX (k:Int) (((c.U.getD i ac).Uk).length)∧TT 2 (CC (SX (b.getD q2 0) ((((c.U.getD i ac).Uk).getD k ay).w))∧TT 3 (am [[(i6 (nb (b.getD q2 0) ((((c.U.getD i ac).Uk).getD k ay).w)))]] ([nb (b.getD q2 0) ((((c.U.getD i ac).Uk).getD k ay).w)].map (ab .i64))∧((tab (yB b ((c.U.getD i ac).Uk.getD k ay).w (uP b (c.U.getD i ac) (kQ b c i) k)) z).length+([nb (b.getD q2 0) ((((c.U.getD i ac).Uk).getD k ay).w)].map (ab .i64)).length≤137438953472∧(tab (yB b ((c.U.getD i ac).Uk.getD k ay).w (uP b (c.U.getD i ac) (kQ b c i) k)) z).map (ab .i64)++[nb (b.getD q2 0) ((((c.U.getD i ac).Uk).getD k ay).w)].map (ab .i64)=(tab (yB b ((c.U.getD i ac).Uk.getD k ay).w (uP b (c.U.getD i ac) (kQ b c i) k)) (z+1)).map (ab .i64))∧TT 2 (W6 ((q2+1:Nat):Int)∧TT 2 (W6 ((z+1:Nat):Int)∧TT 1 (AG (iE c s b i k) (z,q2) (z+1,q2+1))))))))))) (TT 2 (am [[(i6 0)]] ([0].map (ab .i64))∧((tab (yB b ((c.U.getD i ac).Uk.getD k ay).w (uP b (c.U.getD i ac) (kQ b c i) k)) z).length+([0].map (ab .i64)).length≤137438953472∧(tab (yB b ((c.U.getD i ac).Uk.getD k ay).w (uP b (c.U.getD i ac) (kQ b c i) k)) z).map (ab .i64)++[0].map (ab .i64)=(tab (yB b ((c.U.getD i ac).Uk.getD k ay).w (uP b (c.U.getD i ac) (kQ b c i) k)) (z+1)).map (ab .i64))∧TT 2 (W6 ((q2+1:Nat):Int)∧TT 2 (W6 ((z+1:Nat):Int)∧TT 1 (AG (iE c s b i k) (z,q2) (z+1,q2+1)))))))) (TT 3 (am [[(LI (tab (yB b ((c.U.getD i ac).Uk.getD k ay).w (uP b (c.U.getD i ac) (kQ b c i) k)) z))]] ([tab (yB b ((c.U.getD i ac).Uk.getD k ay).w (uP b (c.U.getD i ac) (kQ b c i) k)) z].map aa)∧((tab (CR b (c.U.getD i ac) (kQ b c i)) k).length+([tab (yB b ((c.U.getD i ac).Uk.getD k ay).w (uP b (c.U.getD i ac) (kQ b c i) k)) z].map aa).length≤137438953472∧(tab (CR b (c.U.getD i ac) (kQ b c i)) k).map aa++[tab (yB b ((c.U.getD i ac).Uk.getD k ay).w (uP b (c.U.getD i ac) (kQ b c i) k)) z].map aa=(tab (CR b (c.U.getD i ac) (kQ b c i)) (k+1)).map aa)∧TT 3 (W6 ((k+1:Nat):Int)∧TT 1 (AG (kv c s b i) (k,q1) (k+1,q2))))))))))) (TT 3 (am [[(LI ((s.U.getD i a7).Ul)),(dL 1 aa [] (tab (CR b (c.U.getD i ac) (kQ b c i)) k))]] ([(⟨(s.U.getD i a7).Ul,tab (CR b (c.U.getD i ac) (kQ b c i)) k⟩:Ps)].map bi)∧((tab (Hn b c s) i).length+([(⟨(s.U.getD i a7).Ul,tab (CR b (c.U.getD i ac) (kQ b c i)) k⟩:Ps)].map bi).length≤137438953472∧(tab (Hn b c s) i).map bi++[(⟨(s.U.getD i a7).Ul,tab (CR b (c.U.getD i ac) (kQ b c i)) k⟩:Ps)].map bi=(tab (Hn b c s) (i+1)).map bi)∧TT 3 (W6 ((i+1:Nat):Int)∧TT 1 (AG (ku c s b) (i,q0) (i+1,q1))))))))))) (TT 3 ((tab (Hn b c s) i).map bi=((iA c s b).U).map bi∧s.J.map aa=((iA c s b).J).map aa∧True)))))) (.g 3 3 0 69 2 bi a7<|.l (ku c s b) (0,0) (fun ⟨i,q0⟩=>.b 22 (.g 7 5 1 67 1 aa []<|.l (kv c s b i) (0,q0) (fun ⟨k,q1⟩=>.b 40 (.w 10 [(0,.box 3 1 (ab .i64) 0 ([]:List Int))]<|.l (iE c s b i k) (0,q1) (fun ⟨z,q2⟩=>.b 55 (.b 61 (.w 16 [(4,.val (i6 (b.getD q2 0))),(15,(SX (b.getD q2 0) ((((c.U.getD i ac).Uk).getD k ay).w)).O)]<|.w 17 [(2,.box 3 1 (ab .i64) 0 [nb (b.getD q2 0) ((((c.U.getD i ac).Uk).getD k ay).w)]),(3,.box 3 1 (ab .i64) 0 (tab (yB b ((c.U.getD i ac).Uk.getD k ay).w (uP b (c.U.getD i ac) (kQ b c i) k)) (z+1)))]<|.w 18 [(1,.val (i6 ((q2+1:Nat):Int)))]<|.w 13 [(1,.val (i6 ((z+1:Nat):Int)))]<|.e) (.w 17 [(2,.box 3 1 (ab .i64) 0 [0]),(3,.box 3 1 (ab .i64) 0 (tab (yB b ((c.U.getD i ac).Uk.getD k ay).w (uP b (c.U.getD i ac) (kQ b c i) k)) (z+1)))]<|.w 18 [(1,.val (i6 ((q2+1:Nat):Int)))]<|.w 13 [(1,.val (i6 ((z+1:Nat):Int)))]<|.e)) (.f 19 7<|.w 19 [(3,.box 67 1 aa [] [tab (yB b ((c.U.getD i ac).Uk.getD k ay).w (uP b (c.U.getD i ac) (kQ b c i) k)) z]),(4,.box 67 1 aa [] (tab (CR b (c.U.getD i ac) (kQ b c i)) (k+1)))]<|.w 9 [(1,.val (i6 ((k+1:Nat):Int)))]<|.e))) (.f 20 6<|.w 20 [(3,.box 69 2 bi a7 [(⟨(s.U.getD i a7).Ul,tab (CR b (c.U.getD i ac) (kQ b c i)) k⟩:Ps)]),(4,.box 69 2 bi a7 (tab (Hn b c s) (i+1)))]<|.w 5 [(1,.val (i6 ((i+1:Nat):Int)))]<|.e))) (.e))) Tryz.func24 rfl rfl rfl (by kernel_rfl) ?_
 refine tt ⟨rfl,⟨by omega,rfl⟩,?_⟩
 intro i q0 F'
 obtain⟨hi,hq0⟩:=F'
 have hfi:=J9 hc b i (by omega)
 refine tt (cd (fun YN=>?_) (fun YN=>?_))
 · refine tt ⟨ix,?_⟩
   have hml:=(hc.pr i (by omega)).ml
   have hml2:(c.U.getD i ac).Uk.length≤100:=hml
   refine tt ⟨rfl,⟨by omega,hq0⟩,?_⟩
   intro k q1 F'
   obtain⟨hk,Yv⟩:=F'
   refine tt ⟨ix,tt (cd (fun XE=>?_) (fun XE=>?_))⟩
   · have XL:k<(a9 c i).Uk.length:=(by omega:k<(c.U.getD i ac).Uk.length)
     have Yx:1≤((c.U.getD i ac).Uk.getD k ay).w∧((c.U.getD i ac).Uk.getD k ay).w≤8:=aQ.1 ((hc.pr i (by omega)).mw k XL).1
     have hwo:1≤((c.U.getD i ac).Uk.getD k ay).Um∧((c.U.getD i ac).Uk.getD k ay).Um≤4:=((hc.pr i (by omega)).mw k XL).2.1
     have hqb:=DQ (hc.pr i (by omega)) b (kQ b c i) k (Nat.le_of_lt XL)
     have hqb2:uP b (c.U.getD i ac) (kQ b c i) k≤kQ b c i+4*k:=hqb
     have hq3:uP b (c.U.getD i ac) (kQ b c i) k≤1000000:=by omega
     refine⟨oK,tt ⟨rfl,⟨by omega,Yv⟩,?_⟩⟩
     intro z q2 F'
     obtain⟨hz,Yi⟩:=F'
     refine tt ⟨ix,tt ⟨ix,tt (cd (fun hc55=>?_) (fun hc55=>?_))⟩⟩
     · refine tt (cd (fun Y5=>?_) (fun Y5=>?_))
       · have hv:nb (b.getD q2 0) ((c.U.getD i ac).Uk.getD k ay).w=yB b ((c.U.getD i ac).Uk.getD k ay).w (uP b (c.U.getD i ac) (kQ b c i) k) z:=by unfold yB;rw[Uw (by omega),Yi]
         have hyq:=cO hb q2
         refine tt ⟨ix,tt ⟨w6,tt ⟨ix,tt ⟨ix,tt ⟨(Pg (b.getD q2 0) ((((c.U.getD i ac).Uk).getD k ay).w) (by omega) (by omega)),tt ⟨⟨⟨rfl,oK⟩,oK⟩,⟨(aZ (by omega) hv),tt ⟨w6,tt ⟨w6,tt ⟨(z+1,q2+1),rfl,?_,(?_:((c.U.getD i ac).Uk.getD k ay).Um.toNat-(z+1)<((c.U.getD i ac).Uk.getD k ay).Um.toNat-z)⟩⟩⟩⟩⟩⟩⟩⟩⟩⟩
         · exact⟨by omega,by omega⟩
         · omega
       · have hv:(0:Int)=yB b ((c.U.getD i ac).Uk.getD k ay).w (uP b (c.U.getD i ac) (kQ b c i) k) z:=by unfold yB;rw[Ur (by omega)]
         refine tt ⟨⟨⟨rfl,oK⟩,oK⟩,⟨(aZ (by omega) hv),tt ⟨w6,tt ⟨w6,tt ⟨(z+1,q2+1),rfl,?_,(?_:((c.U.getD i ac).Uk.getD k ay).Um.toNat-(z+1)<((c.U.getD i ac).Uk.getD k ay).Um.toNat-z)⟩⟩⟩⟩⟩
         · exact⟨by omega,by omega⟩
         · omega
     · refine tt ⟨⟨⟨rfl,oK⟩,oK⟩,⟨(aZ (by omega) (by rw[show z=((c.U.getD i ac).Uk.getD k ay).Um.toNat by omega];rfl)),tt ⟨w6,tt ⟨(k+1,q2),rfl,?_,(?_:(c.U.getD i ac).Uk.length-(k+1)<(c.U.getD i ac).Uk.length-k)⟩⟩⟩⟩
       · exact⟨by omega,by rw[Yi,show z=((c.U.getD i ac).Uk.getD k ay).Um.toNat by omega];rfl⟩
       · omega
   · refine tt ⟨⟨⟨rfl,rfl,oK⟩,oK⟩,⟨(aZ (by omega) (by rw[show k=(c.U.getD i ac).Uk.length by omega];rfl)),tt ⟨w6,tt ⟨(i+1,q1),rfl,?_,(?_:c.U.length-(i+1)<c.U.length-i)⟩⟩⟩⟩
     · exact⟨by omega,by rw[Yv,show k=(c.U.getD i ac).Uk.length by omega];rfl⟩
     · omega
 · refine tt ⟨(congrArg _ (?_:(tab (Hn b c s) i)=((iA c s b).U))),(congrArg _ (?_:s.J=((iA c s b).J))),oK⟩
   · rw[show i=c.U.length by omega];rfl
   · rfl
abbrev NH (p:Pr):List (Nat×D):=[(2,(.ptr 0 0 0 0)),(3,(.ptr 1 0 0 0)),(4,(.ptr 2 0 0 0)),(5,(i6 ((p.Ul.length+p.Uk.length:Nat):Int))),(6,(.ptr 5 0 0 0))]
set_option maxRecDepth 100000
abbrev Ph (k:Int):Ct:=⟨66,[(i6 k)],true,(dS (cL k))⟩
theorem AE (k:Int) (h:0≤k):CC (Ph k):=by
 refine ah.vc (V:=TT 1 (am [[(dS (bs [114]))],[(dS (bs [115]))],[(dS (bs [109,101,109]))],[(dS (bs [111,108,100]))],[(dS (bs [120]))],[(dS (bs [109,101,109]))]] ([(bs [114]),(bs [115]),(bs [109,101,109]),(bs [111,108,100]),(bs [120]),(bs [109,101,109])].map eo)∧TT 1 (QM k 6∧IX (k%6) ([(bs [114]),(bs [115]),(bs [109,101,109]),(bs [111,108,100]),(bs [120]),(bs [109,101,109])].length)∧TT 3 (([(bs [114]),(bs [115]),(bs [109,101,109]),(bs [111,108,100]),(bs [120]),(bs [109,101,109])].getD ((k%6).toNat) .empty)=(cL k))))) (.w 1 [(0,.frz 9 1 eo .empty [(bs [114]),(bs [115]),(bs [109,101,109]),(bs [111,108,100]),(bs [120]),(bs [109,101,109])]),(2,.val (i6 (k%6)))]<|.e) Tryz.func66 rfl rfl rfl (by kernel_rfl) ?_
 refine tt ⟨⟨⟨rfl,oK⟩,⟨rfl,oK⟩,⟨rfl,oK⟩,⟨rfl,oK⟩,⟨rfl,oK⟩,⟨rfl,oK⟩,oK⟩,tt ⟨qm,⟨ix,tt ?_⟩⟩⟩
 rfl
abbrev MI (n:Nat):Ct:=⟨44,[(i6 (n:Int))],true,(dS (dA n))⟩
theorem sW (n:Nat) (h:n≤99):CC (MI n):=by
 refine ah.vc (V:=TT 2 (((10:Int)≠0∧(IntKind.wrap .i64 (Int.tdiv (n:Int) 10))=((n / 10:Nat):Int))∧TT 1 (((10:Int)≠0∧(IntKind.wrap .i64 (Int.tdiv (n:Int) 10))=((n / 10:Nat):Int))∧W6 (((n / 10)+1:Nat):Int)∧(0≤((n / 10:Nat):Int)∧((n / 10:Nat):Int)≤(((n / 10)+1:Nat):Int)∧(((n / 10)+1:Nat):Int)≤((bs [48,49,50,51,52,53,54,55,56,57]).size:Int))∧TT 1 (((10:Int)≠0∧(Int.tmod (n:Int) 10)=((n%10:Nat):Int))∧TT 1 (((10:Int)≠0∧(Int.tmod (n:Int) 10)=((n%10:Nat):Int))∧W6 (((n%10)+1:Nat):Int)∧(0≤((n%10:Nat):Int)∧((n%10:Nat):Int)≤(((n%10)+1:Nat):Int)∧(((n%10)+1:Nat):Int)≤((bs [48,49,50,51,52,53,54,55,56,57]).size:Int))∧((((bs [48,49,50,51,52,53,54,55,56,57]).extract (n / 10) ((n / 10)+1)).size+((bs [48,49,50,51,52,53,54,55,56,57]).extract (n%10) ((n%10)+1)).size:Nat):Int)≤IntKind.i64.max∧TT 2 ((((bs [48,49,50,51,52,53,54,55,56,57]).extract (n / 10) ((n / 10)+1))++((bs [48,49,50,51,52,53,54,55,56,57]).extract (n%10) ((n%10)+1)))=(dA n))))))) (.w 1 [(1,.val (i6 ((n / 10:Nat):Int))),(3,.val (i6 ((n / 10:Nat):Int))),(4,.val (i6 (((n / 10)+1:Nat):Int))),(7,.val (i6 ((n%10:Nat):Int))),(9,.val (i6 ((n%10:Nat):Int))),(10,.val (i6 (((n%10)+1:Nat):Int)))]<|.e) Tryz.func44 rfl rfl rfl (by kernel_rfl) ?_
 refine tt ⟨⟨om,(Qw (by omega))⟩,tt ⟨⟨om,(Qw (by omega))⟩,⟨w6,⟨(by have:(bs [48,49,50,51,52,53,54,55,56,57]).size=10:=rfl;omega),tt ⟨⟨om,(Qx n)⟩,tt ⟨⟨om,(Qx n)⟩,⟨w6,⟨(by have:(bs [48,49,50,51,52,53,54,55,56,57]).size=10:=rfl;omega),⟨(by rw[Wd,Wd];show _≤(9223372036854775807:Int);have:(bs [48,49,50,51,52,53,54,55,56,57]).size=10:=rfl;omega),tt ?_⟩⟩⟩⟩⟩⟩⟩⟩⟩
 rfl
abbrev SY (p:Pr) (k0 k1 k2:Int):Ct:=⟨45,[(.agg [(dS p.name),(dS p.clock),(dL 13 bO aI p.Ul),(dL 27 b8 ay p.Uk),(dL 9 dU bC p.I),(dL 16 dQ bt p.Uj)]),(.agg [(i6 k0),(i6 k1),(i6 k2)])],true,(.agg [(dS ((dM p k0 k1 k2).name)),(dS ((dM p k0 k1 k2).clock)),(dL 13 bO aI ((dM p k0 k1 k2).Ul)),(dL 27 b8 ay ((dM p k0 k1 k2).Uk)),(dL 9 dU bC ((dM p k0 k1 k2).I)),(dL 16 dQ bt ((dM p k0 k1 k2).Uj))])⟩
abbrev kw (p:Pr) (k0:Int) (k1:Int) (k2:Int):Lp (ByteArray×Int):=nN [2,3,4,5,6] 6 (fun (sv:ByteArray) (nv:Int)=>⟨(NH p),[(.var 76 [(dS p.name),(dS p.clock),(.own 3),(.own 4),(dL 9 dU bC p.I),(dL 16 dQ bt p.Uj)]),(.var 119 [(i6 k0),(i6 k1),(i6 k2)]),(.var 76 [(dS e0),(dS e0),.nils,.nils,.nils,.nils]),(.arr 60 13 bO aI p.Ul),(.arr 64 27 b8 ay p.Uk),(.var 52 [(i6 (k1%4)),(dS sv),(i6 nv)])]⟩) (fun (sv:ByteArray) (nv:Int)=>sv=(iB k1 k2).src∧(nv:Int)=0) (fun (sv:ByteArray) (nv:Int)=>0)
abbrev kx (p:Pr) (k0:Int) (k1:Int) (k2:Int):Lp (ByteArray×Int):=nN [2,3,4,5,6] 6 (fun (su:ByteArray) (nu:Int)=>⟨(NH p),[(.var 76 [(dS p.name),(dS p.clock),(.own 3),(.own 4),(dL 9 dU bC p.I),(dL 16 dQ bt p.Uj)]),(.var 119 [(i6 k0),(i6 k1),(i6 k2)]),(.var 76 [(dS e0),(dS e0),.nils,.nils,.nils,.nils]),(.arr 60 13 bO aI p.Ul),(.arr 64 27 b8 ay p.Uk),(.var 52 [(i6 (k1%4)),(dS su),(i6 nu)])]⟩) (fun (su:ByteArray) (nu:Int)=>su=(iB k1 k2).src∧(nu:Int)=(iB k1 k2).n) (fun (su:ByteArray) (nu:Int)=>0)
set_option maxHeartbeats 4000000 in
theorem Kw (p:Pr) (k0 k1 k2:Int) (hz:p.Ul.length+p.Uk.length≤100) (h0:0≤k0) (h1:0≤k1∧k1≤1000) (h2:0≤k2∧k2≤1000):CC (SY p k0 k1 k2):=by
 refine ah.vc (V:=TT 9 (W6 ((p.Ul.length+p.Uk.length:Nat):Int)∧TT 3 (CD (((p.Ul.length+p.Uk.length:Nat):Int)=0) (TT 3 (p.name=((dM p k0 k1 k2).name)∧p.clock=((dM p k0 k1 k2).clock)∧p.Ul.map bO=((dM p k0 k1 k2).Ul).map bO∧p.Uk.map b8=((dM p k0 k1 k2).Uk).map b8∧p.I.map dU=((dM p k0 k1 k2).I).map dU∧p.Uj.map dQ=((dM p k0 k1 k2).Uj).map dQ∧True)) (am [] (([]:List Rg).map bO)∧TT 2 ((([]:List Rg).length+(p.Ul.map bO).length≤137438953472∧([]:List Rg).map bO++p.Ul.map bO=p.Ul.map bO)∧TT 2 (am [] (([]:List Mm).map b8)∧TT 2 ((([]:List Mm).length+(p.Uk.map b8).length≤137438953472∧([]:List Mm).map b8++p.Uk.map b8=p.Uk.map b8)∧TT 2 (((0≤(1:Int)∧1<(3:Int))∧True)∧TT 1 (QM k1 4∧TT 3 (TT 3 (CD ((k1%4)≥2) (((0≤(1:Int)∧1<(3:Int))∧True)∧TT 1 (QD k1 4∧CC (Ph (k1 / 4))∧TT 2 (AT (kw p k0 k1 k2) (cL (k1 / 4),0)))) (AT (kw p k0 k1 k2) (e0,0)))∧∀sv nv,(kw p k0 k1 k2).inv (sv,nv)→(TT 3 (CD ((k1%4)=3) (((0≤(2:Int)∧2<(3:Int))∧True)∧TT 1 (W6 (k2-128)∧TT 2 (AT (kx p k0 k1 k2) (sv,k2-128)))) (AT (kx p k0 k1 k2) (sv,nv)))∧∀su nu,(kx p k0 k1 k2).inv (su,nu)→(((0≤(0:Int)∧0<(3:Int))∧True)∧TT 2 ((((p.Ul.length+p.Uk.length:Nat):Int)≠0∧(Int.tmod k0 ((p.Ul.length+p.Uk.length:Nat):Int))=((a6 p k0:Nat):Int))∧TT 6 (CD (((a6 p k0:Nat):Int)<(p.Ul.length:Int)) (TT 4 (IX ((a6 p k0:Nat):Int) p.Ul.length∧TT 1 ((a6 p k0<p.Ul.length∧(p.Ul.map bO).set (a6 p k0) ((bO (p.Ul.getD (a6 p k0) aI)).take 10++[(.int .i64 (k1%4)),(.str su),(.int .i64 nu)]++(bO (p.Ul.getD (a6 p k0) aI)).drop (10+3))=(p.Ul.set (a6 p k0) { p.Ul.getD (a6 p k0) aI with Un:=⟨k1%4,su,nu⟩ }).map bO)∧((0≤(2:Int)∧2<(3:Int))∧True)∧TT 1 (QM k2 8∧TT 1 (CD ((k2%8)=0) (TT 3 (((0≤(2:Int)∧2<(3:Int))∧True)∧TT 1 (QD k2 8∧CC (Ph (k2 / 8))∧(((bs [114,101,103]).size+(cL (k2 / 8)).size:Nat):Int)≤IntKind.i64.max∧TT 1 (CC (MI (a6 p k0))∧((((bs [114,101,103])++(cL (k2 / 8))).size+(dA (a6 p k0)).size:Nat):Int)≤IntKind.i64.max∧IX ((a6 p k0:Nat):Int) ((p.Ul.set (a6 p k0) { p.Ul.getD (a6 p k0) aI with Un:=⟨k1%4,su,nu⟩ }).length)∧TT 1 ((a6 p k0<(p.Ul.set (a6 p k0) { p.Ul.getD (a6 p k0) aI with Un:=⟨k1%4,su,nu⟩ }).length∧((p.Ul.set (a6 p k0) { p.Ul.getD (a6 p k0) aI with Un:=⟨k1%4,su,nu⟩ }).map bO).set (a6 p k0) ((bO ((p.Ul.set (a6 p k0) { p.Ul.getD (a6 p k0) aI with Un:=⟨k1%4,su,nu⟩ }).getD (a6 p k0) aI)).take 0++[(.str (((bs [114,101,103])++(cL (k2 / 8)))++(dA (a6 p k0))))]++(bO ((p.Ul.set (a6 p k0) { p.Ul.getD (a6 p k0) aI with Un:=⟨k1%4,su,nu⟩ }).getD (a6 p k0) aI)).drop (0+1))=(p.Ul.set (a6 p k0) { p.Ul.getD (a6 p k0) aI with Un:=⟨k1%4,su,nu⟩,name:=((bs [114,101,103])++(cL (k2 / 8)))++(dA (a6 p k0)) }).map bO)∧TT 3 (p.name=((dM p k0 k1 k2).name)∧p.clock=((dM p k0 k1 k2).clock)∧(p.Ul.set (a6 p k0) { p.Ul.getD (a6 p k0) aI with Un:=⟨k1%4,su,nu⟩,name:=((bs [114,101,103])++(cL (k2 / 8)))++(dA (a6 p k0)) }).map bO=((dM p k0 k1 k2).Ul).map bO∧p.Uk.map b8=((dM p k0 k1 k2).Uk).map b8∧p.I.map dU=((dM p k0 k1 k2).I).map dU∧p.Uj.map dQ=((dM p k0 k1 k2).Uj).map dQ∧True)))))) (TT 3 (p.name=((dM p k0 k1 k2).name)∧p.clock=((dM p k0 k1 k2).clock)∧(p.Ul.set (a6 p k0) { p.Ul.getD (a6 p k0) aI with Un:=⟨k1%4,su,nu⟩ }).map bO=((dM p k0 k1 k2).Ul).map bO∧p.Uk.map b8=((dM p k0 k1 k2).Uk).map b8∧p.I.map dU=((dM p k0 k1 k2).I).map dU∧p.Uj.map dQ=((dM p k0 k1 k2).Uj).map dQ∧True))))))) (TT 6 ((True∧(IntKind.wrap .i64 (((a6 p k0:Nat):Int)-(p.Ul.length:Int)))=((a6 p k0-p.Ul.length:Nat):Int))∧TT 1 (IX ((a6 p k0-p.Ul.length:Nat):Int) p.Uk.length∧TT 1 ((a6 p k0-p.Ul.length<p.Uk.length∧(p.Uk.map b8).set (a6 p k0-p.Ul.length) ((b8 (p.Uk.getD (a6 p k0-p.Ul.length) ay)).take 24++[(.int .i64 (k1%4)),(.str su),(.int .i64 nu)]++(b8 (p.Uk.getD (a6 p k0-p.Ul.length) ay)).drop (24+3))=(p.Uk.set (a6 p k0-p.Ul.length) { p.Uk.getD (a6 p k0-p.Ul.length) ay with Un:=⟨k1%4,su,nu⟩ }).map b8)∧((0≤(2:Int)∧2<(3:Int))∧True)∧TT 1 (QM k2 8∧TT 1 (CD ((k2%8)=0) (TT 6 ((True∧(IntKind.wrap .i64 (((a6 p k0:Nat):Int)-(p.Ul.length:Int)))=((a6 p k0-p.Ul.length:Nat):Int))∧((0≤(2:Int)∧2<(3:Int))∧True)∧TT 1 (QD k2 8∧CC (Ph (k2 / 8))∧(((bs [109,101,109]).size+(cL (k2 / 8)).size:Nat):Int)≤IntKind.i64.max∧TT 1 (CC (MI (a6 p k0))∧((((bs [109,101,109])++(cL (k2 / 8))).size+(dA (a6 p k0)).size:Nat):Int)≤IntKind.i64.max∧IX ((a6 p k0-p.Ul.length:Nat):Int) ((p.Uk.set (a6 p k0-p.Ul.length) { p.Uk.getD (a6 p k0-p.Ul.length) ay with Un:=⟨k1%4,su,nu⟩ }).length)∧TT 1 ((a6 p k0-p.Ul.length<(p.Uk.set (a6 p k0-p.Ul.length) { p.Uk.getD (a6 p k0-p.Ul.length) ay with Un:=⟨k1%4,su,nu⟩ }).length∧((p.Uk.set (a6 p k0-p.Ul.length) { p.Uk.getD (a6 p k0-p.Ul.length) ay with Un:=⟨k1%4,su,nu⟩ }).map b8).set (a6 p k0-p.Ul.length) ((b8 ((p.Uk.set (a6 p k0-p.Ul.length) { p.Uk.getD (a6 p k0-p.Ul.length) ay with Un:=⟨k1%4,su,nu⟩ }).getD (a6 p k0-p.Ul.length) ay)).take 0++[(.str (((bs [109,101,109])++(cL (k2 / 8)))++(dA (a6 p k0))))]++(b8 ((p.Uk.set (a6 p k0-p.Ul.length) { p.Uk.getD (a6 p k0-p.Ul.length) ay with Un:=⟨k1%4,su,nu⟩ }).getD (a6 p k0-p.Ul.length) ay)).drop (0+1))=(p.Uk.set (a6 p k0-p.Ul.length) { p.Uk.getD (a6 p k0-p.Ul.length) ay with Un:=⟨k1%4,su,nu⟩,name:=((bs [109,101,109])++(cL (k2 / 8)))++(dA (a6 p k0)) }).map b8)∧TT 3 (p.name=((dM p k0 k1 k2).name)∧p.clock=((dM p k0 k1 k2).clock)∧p.Ul.map bO=((dM p k0 k1 k2).Ul).map bO∧(p.Uk.set (a6 p k0-p.Ul.length) { p.Uk.getD (a6 p k0-p.Ul.length) ay with Un:=⟨k1%4,su,nu⟩,name:=((bs [109,101,109])++(cL (k2 / 8)))++(dA (a6 p k0)) }).map b8=((dM p k0 k1 k2).Uk).map b8∧p.I.map dU=((dM p k0 k1 k2).I).map dU∧p.Uj.map dQ=((dM p k0 k1 k2).Uj).map dQ∧True)))))) (TT 3 (p.name=((dM p k0 k1 k2).name)∧p.clock=((dM p k0 k1 k2).clock)∧p.Ul.map bO=((dM p k0 k1 k2).Ul).map bO∧(p.Uk.set (a6 p k0-p.Ul.length) { p.Uk.getD (a6 p k0-p.Ul.length) ay with Un:=⟨k1%4,su,nu⟩ }).map b8=((dM p k0 k1 k2).Uk).map b8∧p.I.map dU=((dM p k0 k1 k2).I).map dU∧p.Uj.map dQ=((dM p k0 k1 k2).Uj).map dQ∧True)))))))))))))))))))))) (.w 1 [(6,.val (i6 ((p.Ul.length+p.Uk.length:Nat):Int)))]<|.b 16 (.e) (.w 4 [(0,.box 60 13 bO aI ([]:List Rg)),(3,.box 60 13 bO aI p.Ul)]<|.w 5 [(0,.box 64 27 b8 ay ([]:List Mm)),(3,.box 64 27 b8 ay p.Uk)]<|.w 6 [(2,.val (i6 (k1%4)))]<|.k 7 (kw p k0 k1 k2) (.b 34 (.w 8 [(2,.val (i6 (k1 / 4))),(3,(Ph (k1 / 4)).O)]<|.e) (.e)) (fun ⟨sv,nv⟩=>.k 9 (kx p k0 k1 k2) (.b 42 (.w 10 [(2,.val (i6 (k2-128)))]<|.e) (.e)) (fun ⟨su,nu⟩=>.w 11 [(3,.val (i6 ((a6 p k0:Nat):Int)))]<|.b 55 (.w 13 [(6,.box 60 13 bO aI (p.Ul.set (a6 p k0) { p.Ul.getD (a6 p k0) aI with Un:=⟨k1%4,su,nu⟩ }))]<|.w 14 [(2,.val (i6 (k2%8)))]<|.b 65 (.w 15 [(5,.val (i6 (k2 / 8))),(6,(Ph (k2 / 8)).O),(9,(MI (a6 p k0)).O),(13,.box 60 13 bO aI (p.Ul.set (a6 p k0) { p.Ul.getD (a6 p k0) aI with Un:=⟨k1%4,su,nu⟩,name:=((bs [114,101,103])++(cL (k2 / 8)))++(dA (a6 p k0)) }))]<|.e) (.e)) (.w 16 [(6,.val (i6 ((a6 p k0-p.Ul.length:Nat):Int))),(10,.box 64 27 b8 ay (p.Uk.set (a6 p k0-p.Ul.length) { p.Uk.getD (a6 p k0-p.Ul.length) ay with Un:=⟨k1%4,su,nu⟩ }))]<|.w 17 [(2,.val (i6 (k2%8)))]<|.b 92 (.w 18 [(6,.val (i6 ((a6 p k0-p.Ul.length:Nat):Int))),(9,.val (i6 (k2 / 8))),(10,(Ph (k2 / 8)).O),(13,(MI (a6 p k0)).O),(17,.box 64 27 b8 ay (p.Uk.set (a6 p k0-p.Ul.length) { p.Uk.getD (a6 p k0-p.Ul.length) ay with Un:=⟨k1%4,su,nu⟩,name:=((bs [109,101,109])++(cL (k2 / 8)))++(dA (a6 p k0)) }))]<|.e) (.e)))))) Tryz.func45 rfl rfl rfl (by kernel_rfl) ?_
 refine tt ⟨w6,tt (cd (fun XC=>?_) (fun XC=>?_))⟩
 · refine tt ⟨?_,?_,(congrArg _ (?_:p.Ul=((dM p k0 k1 k2).Ul))),(congrArg _ (?_:p.Uk=((dM p k0 k1 k2).Uk))),(congrArg _ (?_:p.I=((dM p k0 k1 k2).I))),(congrArg _ (?_:p.Uj=((dM p k0 k1 k2).Uj))),oK⟩
   all_goals (all_goals (first | (exfalso;omega) | (rw[Cf (by omega)];done) | (rw[qr (by omega) (by omega)];done) | (rw[qs (by omega) (by omega)];done) | (rw[qr (by omega) (by omega)];unfold OE sI;rw[Yy.1,Yy.2];(first | rw[Uw (show k2%8=0 by omega)] | rw[Ur (show ¬k2%8=0 by omega)]);try rfl) | (rw[qs (by omega) (by omega)];unfold OG sI;rw[Yy.1,Yy.2];(first | rw[Uw (show k2%8=0 by omega)] | rw[Ur (show ¬k2%8=0 by omega)]);try rfl)))
 · refine⟨oK,tt ⟨⟨by simp only[UB,UR];omega,by rfl⟩,tt ⟨oK,tt ⟨⟨by simp only[UB,UR];omega,by rfl⟩,tt ⟨⟨by omega,oK⟩,tt ⟨qm,tt ⟨?_,?_⟩⟩⟩⟩⟩⟩⟩
   · refine tt (cd (fun YY=>?_) (fun YY=>?_))
     · refine⟨⟨by omega,oK⟩,tt ⟨qd,⟨(AE (k1 / 4) (by omega)),tt ⟨(cL (k1 / 4),0),rfl,(?_:(cL (k1 / 4))=(iB k1 k2).src∧(0:Int)=0)⟩⟩⟩⟩
       · exact⟨by unfold iB;first | rw[Uw (show 2≤k1%4 by omega)] | rw[Ur (show ¬2≤k1%4 by omega)],rfl⟩
     · refine⟨(e0,0),rfl,(?_:e0=(iB k1 k2).src∧(0:Int)=0)⟩
       · exact⟨by unfold iB;first | rw[Uw (show 2≤k1%4 by omega)] | rw[Ur (show ¬2≤k1%4 by omega)],rfl⟩
   · intro sv nv F'
     have Yy:=F'
     refine⟨?_,?_⟩
     · refine tt (cd (fun Xd=>?_) (fun Xd=>?_))
       · refine⟨⟨by omega,oK⟩,tt ⟨w6,tt ⟨(sv,k2-128),rfl,(?_:sv=(iB k1 k2).src∧((k2-128):Int)=(iB k1 k2).n)⟩⟩⟩
         · exact⟨Yy.1,by unfold iB;first | rw[Uw (show k1%4=3 by omega)] | (rw[Ur (show ¬k1%4=3 by omega)];exact Yy.2)⟩
       · refine⟨(sv,nv),rfl,(?_:sv=(iB k1 k2).src∧(nv:Int)=(iB k1 k2).n)⟩
         · exact⟨Yy.1,by unfold iB;first | rw[Uw (show k1%4=3 by omega)] | (rw[Ur (show ¬k1%4=3 by omega)];exact Yy.2)⟩
     · intro su nu F'
       have Yy:=F'
       refine⟨⟨by omega,oK⟩,tt ⟨⟨om,(Mp h0)⟩,?_⟩⟩
       have Zs:=Ao (p:=p) k0 (by omega)
       refine tt (cd (fun hc55=>?_) (fun hc55=>?_))
       · refine tt ⟨ix,tt ⟨⟨by omega,by simp only[US];rfl⟩,⟨⟨by omega,oK⟩,tt ⟨qm,tt (cd (fun XU=>?_) (fun XU=>?_))⟩⟩⟩⟩
         · refine tt ⟨⟨by omega,oK⟩,tt ⟨qd,⟨(AE (k2 / 8) (by omega)),⟨(by have Yv:=sH (k2 / 8);have Yi:=pi (a6 p k0);have hq3:(bs [114,101,103]++cL (k2 / 8)).size=(bs [114,101,103]).size+(cL (k2 / 8)).size:=V3;have:(bs [114,101,103]).size=3:=rfl;show _≤(9223372036854775807:Int);omega),tt ⟨(sW (a6 p k0) (by omega)),⟨(by have Yv:=sH (k2 / 8);have Yi:=pi (a6 p k0);have hq3:(bs [114,101,103]++cL (k2 / 8)).size=(bs [114,101,103]).size+(cL (k2 / 8)).size:=V3;have:(bs [114,101,103]).size=3:=rfl;show _≤(9223372036854775807:Int);omega),⟨ix,tt ⟨⟨by rw[UQ];omega,by rw[Ap (by omega)];simp only[US,List.set_set];rfl⟩,tt ⟨?_,?_,(congrArg _ (?_:(p.Ul.set (a6 p k0) { p.Ul.getD (a6 p k0) aI with Un:=⟨k1%4,su,nu⟩,name:=((bs [114,101,103])++(cL (k2 / 8)))++(dA (a6 p k0)) })=((dM p k0 k1 k2).Ul))),(congrArg _ (?_:p.Uk=((dM p k0 k1 k2).Uk))),(congrArg _ (?_:p.I=((dM p k0 k1 k2).I))),(congrArg _ (?_:p.Uj=((dM p k0 k1 k2).Uj))),oK⟩⟩⟩⟩⟩⟩⟩⟩⟩
           all_goals (all_goals (first | (exfalso;omega) | (rw[Cf (by omega)];done) | (rw[qr (by omega) (by omega)];done) | (rw[qs (by omega) (by omega)];done) | (rw[qr (by omega) (by omega)];unfold OE sI;rw[Yy.1,Yy.2];(first | rw[Uw (show k2%8=0 by omega)] | rw[Ur (show ¬k2%8=0 by omega)]);try rfl) | (rw[qs (by omega) (by omega)];unfold OG sI;rw[Yy.1,Yy.2];(first | rw[Uw (show k2%8=0 by omega)] | rw[Ur (show ¬k2%8=0 by omega)]);try rfl)))
         · refine tt ⟨?_,?_,(congrArg _ (?_:(p.Ul.set (a6 p k0) { p.Ul.getD (a6 p k0) aI with Un:=⟨k1%4,su,nu⟩ })=((dM p k0 k1 k2).Ul))),(congrArg _ (?_:p.Uk=((dM p k0 k1 k2).Uk))),(congrArg _ (?_:p.I=((dM p k0 k1 k2).I))),(congrArg _ (?_:p.Uj=((dM p k0 k1 k2).Uj))),oK⟩
           all_goals (all_goals (first | (exfalso;omega) | (rw[Cf (by omega)];done) | (rw[qr (by omega) (by omega)];done) | (rw[qs (by omega) (by omega)];done) | (rw[qr (by omega) (by omega)];unfold OE sI;rw[Yy.1,Yy.2];(first | rw[Uw (show k2%8=0 by omega)] | rw[Ur (show ¬k2%8=0 by omega)]);try rfl) | (rw[qs (by omega) (by omega)];unfold OG sI;rw[Yy.1,Yy.2];(first | rw[Uw (show k2%8=0 by omega)] | rw[Ur (show ¬k2%8=0 by omega)]);try rfl)))
       · refine tt ⟨⟨oK,(uD (by omega) (by omega) (by omega))⟩,tt ⟨ix,tt ⟨⟨by omega,by simp only[US];rfl⟩,⟨⟨by omega,oK⟩,tt ⟨qm,tt (cd (fun hc92=>?_) (fun hc92=>?_))⟩⟩⟩⟩⟩
         · refine tt ⟨⟨oK,(uD (by omega) (by omega) (by omega))⟩,⟨⟨by omega,oK⟩,tt ⟨qd,⟨(AE (k2 / 8) (by omega)),⟨(by have Yv:=sH (k2 / 8);have Yi:=pi (a6 p k0);have hq3:(bs [109,101,109]++cL (k2 / 8)).size=(bs [109,101,109]).size+(cL (k2 / 8)).size:=V3;have:(bs [109,101,109]).size=3:=rfl;show _≤(9223372036854775807:Int);omega),tt ⟨(sW (a6 p k0) (by omega)),⟨(by have Yv:=sH (k2 / 8);have Yi:=pi (a6 p k0);have hq3:(bs [109,101,109]++cL (k2 / 8)).size=(bs [109,101,109]).size+(cL (k2 / 8)).size:=V3;have:(bs [109,101,109]).size=3:=rfl;show _≤(9223372036854775807:Int);omega),⟨ix,tt ⟨⟨by rw[UQ];omega,by rw[Ap (by omega)];simp only[US,List.set_set];rfl⟩,tt ⟨?_,?_,(congrArg _ (?_:p.Ul=((dM p k0 k1 k2).Ul))),(congrArg _ (?_:(p.Uk.set (a6 p k0-p.Ul.length) { p.Uk.getD (a6 p k0-p.Ul.length) ay with Un:=⟨k1%4,su,nu⟩,name:=((bs [109,101,109])++(cL (k2 / 8)))++(dA (a6 p k0)) })=((dM p k0 k1 k2).Uk))),(congrArg _ (?_:p.I=((dM p k0 k1 k2).I))),(congrArg _ (?_:p.Uj=((dM p k0 k1 k2).Uj))),oK⟩⟩⟩⟩⟩⟩⟩⟩⟩⟩
           all_goals (all_goals (first | (exfalso;omega) | (rw[Cf (by omega)];done) | (rw[qr (by omega) (by omega)];done) | (rw[qs (by omega) (by omega)];done) | (rw[qr (by omega) (by omega)];unfold OE sI;rw[Yy.1,Yy.2];(first | rw[Uw (show k2%8=0 by omega)] | rw[Ur (show ¬k2%8=0 by omega)]);try rfl) | (rw[qs (by omega) (by omega)];unfold OG sI;rw[Yy.1,Yy.2];(first | rw[Uw (show k2%8=0 by omega)] | rw[Ur (show ¬k2%8=0 by omega)]);try rfl)))
         · refine tt ⟨?_,?_,(congrArg _ (?_:p.Ul=((dM p k0 k1 k2).Ul))),(congrArg _ (?_:(p.Uk.set (a6 p k0-p.Ul.length) { p.Uk.getD (a6 p k0-p.Ul.length) ay with Un:=⟨k1%4,su,nu⟩ })=((dM p k0 k1 k2).Uk))),(congrArg _ (?_:p.I=((dM p k0 k1 k2).I))),(congrArg _ (?_:p.Uj=((dM p k0 k1 k2).Uj))),oK⟩
           all_goals (all_goals (first | (exfalso;omega) | (rw[Cf (by omega)];done) | (rw[qr (by omega) (by omega)];done) | (rw[qs (by omega) (by omega)];done) | (rw[qr (by omega) (by omega)];unfold OE sI;rw[Yy.1,Yy.2];(first | rw[Uw (show k2%8=0 by omega)] | rw[Ur (show ¬k2%8=0 by omega)]);try rfl) | (rw[qs (by omega) (by omega)];unfold OG sI;rw[Yy.1,Yy.2];(first | rw[Uw (show k2%8=0 by omega)] | rw[Ur (show ¬k2%8=0 by omega)]);try rfl)))
abbrev QY (c:Ci) (b:List Int):Ct:=⟨23,[(.agg [(dL 6 bG ac c.U),(dL 5 ca aK c.J)]),(LY b)],true,(.agg [(dL 6 bG ac ((d9 c b).U)),(dL 5 ca aK ((d9 c b).J))])⟩
abbrev cJ (c:Ci) (b:List Int):Lp (Nat×Ci):=nN [1,4,5,6] 12 (fun (t:Nat) (u:Ci)=>⟨[(1,(LY b)),(4,(.ptr 1 0 0 0)),(5,(.ptr 11 0 0 0)),(6,(i6 ((4*t:Nat):Int)))],[(.var 32 [(dL 6 bG ac c.U),(dL 5 ca aK c.J)]),(.var 32 [.nils,.nils]),.dead,.dead,.dead,(.arr 76 6 bG ac u.U),.dead,.dead,.dead,(.arr 78 5 ca aK u.J),.dead,(.var 32 [(.own 5),(.own 9)])]⟩) (fun (t:Nat) (u:Ci)=>t≤xl b∧u=xk c b t) (fun (t:Nat) (u:Ci)=>6-t)
set_option maxHeartbeats 4000000 in
theorem Kx (c:Ci) (b:List Int) (h1:c.U.length≤1000000) (h2:c.J.length≤1000000) (hz:∀j,La (c.U.getD j ac)) (hb:ic b):CC (QY c b):=by
 refine ah.vc (V:=TT 2 (am [] (([]:List Pr).map bG)∧TT 2 ((([]:List Pr).length+(c.U.map bG).length≤137438953472∧([]:List Pr).map bG++c.U.map bG=c.U.map bG)∧am [] (([]:List Ch).map ca)∧TT 2 ((([]:List Ch).length+(c.J.map ca).length≤137438953472∧([]:List Ch).map ca++c.J.map ca=c.J.map ca)∧TT 4 (GO (cJ c b) (0,c) (∀t u,(cJ c b).inv (t,u)→CS ((((4*t)+3:Nat):Int)<(b.length:Int)) (TT 1 (W6 (((4*t)+3:Nat):Int)∧TT 3 ((True∧(decide ((((4*t)+3:Nat):Int)<(b.length:Int)))=true)∧TT 3 (CD (((4*t:Nat):Int)<24) (TT 2 (W6 (((4*t)+1:Nat):Int)∧IX (((4*t)+1:Nat):Int) b.length∧TT 1 (W6 (b.getD ((4*t)+1) 0)∧TT 2 (W6 (((4*t)+2:Nat):Int)∧IX (((4*t)+2:Nat):Int) b.length∧TT 1 (W6 (b.getD ((4*t)+2) 0)∧TT 4 (IX ((4*t:Nat):Int) b.length∧TT 1 (QM (b.getD (4*t) 0) 8∧TT 2 (CD (((b.getD (4*t) 0)%8)=0) (TT 4 (CD ((u.J.length:Int)>0) (TT 6 (((u.J.length:Int)≠0∧(Int.tmod (b.getD ((4*t)+1) 0) (u.J.length:Int))=((b4 u.J (b.getD (4*t+1) 0):Nat):Int))∧TT 1 (CC (MI (4*t))∧(((bs [99,104,97,110]).size+(dA (4*t)).size:Nat):Int)≤IntKind.i64.max∧IX ((b4 u.J (b.getD (4*t+1) 0):Nat):Int) u.J.length∧TT 1 ((b4 u.J (b.getD (4*t+1) 0)<u.J.length∧(u.J.map ca).set (b4 u.J (b.getD (4*t+1) 0)) ((ca (u.J.getD (b4 u.J (b.getD (4*t+1) 0)) aK)).take 0++[(.str ((bs [99,104,97,110])++(dA (4*t))))]++(ca (u.J.getD (b4 u.J (b.getD (4*t+1) 0)) aK)).drop (0+1))=(u.J.set (b4 u.J (b.getD (4*t+1) 0)) { u.J.getD (b4 u.J (b.getD (4*t+1) 0)) aK with name:=(bs [99,104,97,110])++(dA (4*t)) }).map ca)∧TT 1 ((True∧(IntKind.wrap .i64 (((4*t:Nat):Int)+4))=((4*(t+1):Nat):Int))∧TT 1 (AG (cJ c b) (t,u) (t+1,(⟨u.U,u.J.set (b4 u.J (b.getD (4*t+1) 0)) { u.J.getD (b4 u.J (b.getD (4*t+1) 0)) aK with name:=(bs [99,104,97,110])++(dA (4*t)) }⟩:Ci)))))))) (TT 1 ((True∧(IntKind.wrap .i64 (((4*t:Nat):Int)+4))=((4*(t+1):Nat):Int))∧TT 1 (AG (cJ c b) (t,u) (t+1,u)))))) (TT 2 (CD (((b.getD (4*t) 0)%8)=1) ((decide (((b.getD (4*t) 0)%8)=1))=true∧CS ((u.J.length:Int)>0) (TT 4 ((True∧(decide ((u.J.length:Int)>0))=true)∧TT 6 (((u.J.length:Int)≠0∧(Int.tmod (b.getD ((4*t)+1) 0) (u.J.length:Int))=((b4 u.J (b.getD (4*t+1) 0):Nat):Int))∧IX ((b4 u.J (b.getD (4*t+1) 0):Nat):Int) u.J.length∧TT 1 ((b4 u.J (b.getD (4*t+1) 0)<u.J.length∧True)∧TT 2 (CD (((u.J.getD (b4 u.J (b.getD (4*t+1) 0)) aK).cap)>0) (TT 6 (((u.J.length:Int)≠0∧(Int.tmod (b.getD ((4*t)+1) 0) (u.J.length:Int))=((b4 u.J (b.getD (4*t+1) 0):Nat):Int))∧TT 1 (QM (b.getD ((4*t)+2) 0) 8∧W6 (1+((b.getD ((4*t)+2) 0)%8))∧IX ((b4 u.J (b.getD (4*t+1) 0):Nat):Int) u.J.length∧TT 1 ((b4 u.J (b.getD (4*t+1) 0)<u.J.length∧(u.J.map ca).set (b4 u.J (b.getD (4*t+1) 0)) ((ca (u.J.getD (b4 u.J (b.getD (4*t+1) 0)) aK)).take 2++[(.int .i64 (1+((b.getD ((4*t)+2) 0)%8)))]++(ca (u.J.getD (b4 u.J (b.getD (4*t+1) 0)) aK)).drop (2+1))=(u.J.set (b4 u.J (b.getD (4*t+1) 0)) { u.J.getD (b4 u.J (b.getD (4*t+1) 0)) aK with cap:=1+((b.getD ((4*t)+2) 0)%8) }).map ca)∧TT 1 ((True∧(IntKind.wrap .i64 (((4*t:Nat):Int)+4))=((4*(t+1):Nat):Int))∧TT 1 (AG (cJ c b) (t,u) (t+1,(⟨u.U,u.J.set (b4 u.J (b.getD (4*t+1) 0)) { u.J.getD (b4 u.J (b.getD (4*t+1) 0)) aK with cap:=1+((b.getD ((4*t)+2) 0)%8) }⟩:Ci)))))))) (TT 1 ((True∧(IntKind.wrap .i64 (((4*t:Nat):Int)+4))=((4*(t+1):Nat):Int))∧TT 1 (AG (cJ c b) (t,u) (t+1,u))))))))) (TT 4 ((True∧(decide ((u.J.length:Int)>0))=false)∧TT 2 ((True∧(IntKind.wrap .i64 (((4*t:Nat):Int)+4))=((4*(t+1):Nat):Int))∧TT 1 (AG (cJ c b) (t,u) (t+1,u)))))) (TT 2 (CD (((b.getD (4*t) 0)%8)=2) (CS ((u.J.length:Int)>0) (TT 4 ((True∧(decide ((u.J.length:Int)>0))=true)∧TT 6 (((u.J.length:Int)≠0∧(Int.tmod (b.getD ((4*t)+1) 0) (u.J.length:Int))=((b4 u.J (b.getD (4*t+1) 0):Nat):Int))∧IX ((b4 u.J (b.getD (4*t+1) 0):Nat):Int) u.J.length∧TT 1 ((b4 u.J (b.getD (4*t+1) 0)<u.J.length∧True)∧TT 2 (CD (((u.J.getD (b4 u.J (b.getD (4*t+1) 0)) aK).cap)>0) (TT 6 (((u.J.length:Int)≠0∧(Int.tmod (b.getD ((4*t)+1) 0) (u.J.length:Int))=((b4 u.J (b.getD (4*t+1) 0):Nat):Int))∧TT 1 (QM (b.getD ((4*t)+2) 0) 8∧W6 (1+((b.getD ((4*t)+2) 0)%8))∧IX ((b4 u.J (b.getD (4*t+1) 0):Nat):Int) u.J.length∧TT 1 ((b4 u.J (b.getD (4*t+1) 0)<u.J.length∧(u.J.map ca).set (b4 u.J (b.getD (4*t+1) 0)) ((ca (u.J.getD (b4 u.J (b.getD (4*t+1) 0)) aK)).take 2++[(.int .i64 (1+((b.getD ((4*t)+2) 0)%8)))]++(ca (u.J.getD (b4 u.J (b.getD (4*t+1) 0)) aK)).drop (2+1))=(u.J.set (b4 u.J (b.getD (4*t+1) 0)) { u.J.getD (b4 u.J (b.getD (4*t+1) 0)) aK with cap:=1+((b.getD ((4*t)+2) 0)%8) }).map ca)∧TT 1 ((True∧(IntKind.wrap .i64 (((4*t:Nat):Int)+4))=((4*(t+1):Nat):Int))∧TT 1 (AG (cJ c b) (t,u) (t+1,(⟨u.U,u.J.set (b4 u.J (b.getD (4*t+1) 0)) { u.J.getD (b4 u.J (b.getD (4*t+1) 0)) aK with cap:=1+((b.getD ((4*t)+2) 0)%8) }⟩:Ci)))))))) (TT 1 ((True∧(IntKind.wrap .i64 (((4*t:Nat):Int)+4))=((4*(t+1):Nat):Int))∧TT 1 (AG (cJ c b) (t,u) (t+1,u))))))))) (TT 4 ((True∧(decide ((u.J.length:Int)>0))=false)∧TT 2 ((True∧(IntKind.wrap .i64 (((4*t:Nat):Int)+4))=((4*(t+1):Nat):Int))∧TT 1 (AG (cJ c b) (t,u) (t+1,u)))))) (TT 2 (CD (((b.getD (4*t) 0)%8)=3) (TT 4 (CD ((u.U.length:Int)>0) (TT 6 (((u.U.length:Int)≠0∧(Int.tmod (b.getD ((4*t)+1) 0) (u.U.length:Int))=((b4 u.U (b.getD (4*t+1) 0):Nat):Int))∧TT 1 (CC (MI (4*t))∧(((bs [112,114,111,99]).size+(dA (4*t)).size:Nat):Int)≤IntKind.i64.max∧IX ((b4 u.U (b.getD (4*t+1) 0):Nat):Int) u.U.length∧TT 1 ((b4 u.U (b.getD (4*t+1) 0)<u.U.length∧(u.U.map bG).set (b4 u.U (b.getD (4*t+1) 0)) ((bG (u.U.getD (b4 u.U (b.getD (4*t+1) 0)) ac)).take 0++[(.str ((bs [112,114,111,99])++(dA (4*t))))]++(bG (u.U.getD (b4 u.U (b.getD (4*t+1) 0)) ac)).drop (0+1))=(u.U.set (b4 u.U (b.getD (4*t+1) 0)) { u.U.getD (b4 u.U (b.getD (4*t+1) 0)) ac with name:=(bs [112,114,111,99])++(dA (4*t)) }).map bG)∧TT 1 ((True∧(IntKind.wrap .i64 (((4*t:Nat):Int)+4))=((4*(t+1):Nat):Int))∧TT 1 (AG (cJ c b) (t,u) (t+1,(⟨u.U.set (b4 u.U (b.getD (4*t+1) 0)) { u.U.getD (b4 u.U (b.getD (4*t+1) 0)) ac with name:=(bs [112,114,111,99])++(dA (4*t)) },u.J⟩:Ci)))))))) (TT 1 ((True∧(IntKind.wrap .i64 (((4*t:Nat):Int)+4))=((4*(t+1):Nat):Int))∧TT 1 (AG (cJ c b) (t,u) (t+1,u)))))) (TT 4 (CD ((u.U.length:Int)>0) (TT 6 (((u.U.length:Int)≠0∧(Int.tmod (b.getD ((4*t)+1) 0) (u.U.length:Int))=((b4 u.U (b.getD (4*t+1) 0):Nat):Int))∧TT 6 (((u.U.length:Int)≠0∧(Int.tmod (b.getD ((4*t)+1) 0) (u.U.length:Int))=((b4 u.U (b.getD (4*t+1) 0):Nat):Int))∧IX ((b4 u.U (b.getD (4*t+1) 0):Nat):Int) u.U.length∧(b4 u.U (b.getD (4*t+1) 0)<u.U.length∧True)∧TT 3 (W6 (((4*t)+3:Nat):Int)∧IX (((4*t)+3:Nat):Int) b.length∧TT 1 (W6 (b.getD ((4*t)+3) 0)∧TT 2 (IX ((4*t:Nat):Int) b.length∧TT 1 (W6 (b.getD (4*t) 0)∧TT 1 (W6 ((b.getD (4*t) 0)+(b.getD ((4*t)+2) 0))∧TT 1 (CC (SY (u.U.getD (b4 u.U (b.getD (4*t+1) 0)) ac) (b.getD ((4*t)+2) 0) (b.getD ((4*t)+3) 0) ((b.getD (4*t) 0)+(b.getD ((4*t)+2) 0)))∧IX ((b4 u.U (b.getD (4*t+1) 0):Nat):Int) u.U.length∧(b4 u.U (b.getD (4*t+1) 0)<u.U.length∧(u.U.map bG).set (b4 u.U (b.getD (4*t+1) 0)) ((bG (u.U.getD (b4 u.U (b.getD (4*t+1) 0)) ac)).take 0++[(.str ((dM (u.U.getD (b4 u.U (b.getD (4*t+1) 0)) ac) (b.getD ((4*t)+2) 0) (b.getD ((4*t)+3) 0) ((b.getD (4*t) 0)+(b.getD ((4*t)+2) 0))).name)),(.str ((dM (u.U.getD (b4 u.U (b.getD (4*t+1) 0)) ac) (b.getD ((4*t)+2) 0) (b.getD ((4*t)+3) 0) ((b.getD (4*t) 0)+(b.getD ((4*t)+2) 0))).clock)),(.sl 13 bO aI ((dM (u.U.getD (b4 u.U (b.getD (4*t+1) 0)) ac) (b.getD ((4*t)+2) 0) (b.getD ((4*t)+3) 0) ((b.getD (4*t) 0)+(b.getD ((4*t)+2) 0))).Ul)),(.sl 27 b8 ay ((dM (u.U.getD (b4 u.U (b.getD (4*t+1) 0)) ac) (b.getD ((4*t)+2) 0) (b.getD ((4*t)+3) 0) ((b.getD (4*t) 0)+(b.getD ((4*t)+2) 0))).Uk)),(.sl 9 dU bC ((dM (u.U.getD (b4 u.U (b.getD (4*t+1) 0)) ac) (b.getD ((4*t)+2) 0) (b.getD ((4*t)+3) 0) ((b.getD (4*t) 0)+(b.getD ((4*t)+2) 0))).I)),(.sl 16 dQ bt ((dM (u.U.getD (b4 u.U (b.getD (4*t+1) 0)) ac) (b.getD ((4*t)+2) 0) (b.getD ((4*t)+3) 0) ((b.getD (4*t) 0)+(b.getD ((4*t)+2) 0))).Uj))]++(bG (u.U.getD (b4 u.U (b.getD (4*t+1) 0)) ac)).drop (0+6))=(u.U.set (b4 u.U (b.getD (4*t+1) 0)) (dM (u.U.getD (b4 u.U (b.getD (4*t+1) 0)) ac) (b.getD ((4*t)+2) 0) (b.getD ((4*t)+3) 0) ((b.getD (4*t) 0)+(b.getD ((4*t)+2) 0)))).map bG)∧TT 1 ((True∧(IntKind.wrap .i64 (((4*t:Nat):Int)+4))=((4*(t+1):Nat):Int))∧TT 1 (AG (cJ c b) (t,u) (t+1,(⟨u.U.set (b4 u.U (b.getD (4*t+1) 0)) (dM (u.U.getD (b4 u.U (b.getD (4*t+1) 0)) ac) (b.getD ((4*t)+2) 0) (b.getD ((4*t)+3) 0) ((b.getD (4*t) 0)+(b.getD ((4*t)+2) 0))),u.J⟩:Ci))))))))))))) (TT 1 ((True∧(IntKind.wrap .i64 (((4*t:Nat):Int)+4))=((4*(t+1):Nat):Int))∧TT 1 (AG (cJ c b) (t,u) (t+1,u)))))))))))))))))))) (TT 3 (u.U.map bG=((d9 c b).U).map bG∧u.J.map ca=((d9 c b).J).map ca∧True)))))) (TT 1 (W6 (((4*t)+3:Nat):Int)∧TT 3 ((True∧(decide ((((4*t)+3:Nat):Int)<(b.length:Int)))=false)∧TT 6 (u.U.map bG=((d9 c b).U).map bG∧u.J.map ca=((d9 c b).J).map ca∧True)))))))))) (.w 1 [(0,.app false 76 6 bG ac ([]:List Pr)),(3,.app false 76 6 bG ac c.U),(4,.app false 78 5 ca aK ([]:List Ch)),(7,.app false 78 5 ca aK c.J)]<|.l (cJ c b) (0,c) (fun ⟨t,u⟩=>.s 3 ((((4*t)+3:Nat):Int)<(b.length:Int)) (.w 3 [(1,.val (i6 (((4*t)+3:Nat):Int))),(5,.val (dB true))]<|.b 26 (.w 5 [(2,.val (i6 (((4*t)+1:Nat):Int))),(5,.val (i6 (b.getD ((4*t)+1) 0))),(8,.val (i6 (((4*t)+2:Nat):Int))),(11,.val (i6 (b.getD ((4*t)+2) 0)))]<|.w 6 [(4,.val (dI .u8 ((b.getD (4*t) 0)%8)))]<|.b 83 (.b 88 (.w 11 [(6,.val (i6 ((b4 u.J (b.getD (4*t+1) 0):Nat):Int))),(8,(MI (4*t)).O),(12,.box 78 5 ca aK (u.J.set (b4 u.J (b.getD (4*t+1) 0)) { u.J.getD (b4 u.J (b.getD (4*t+1) 0)) aK with name:=(bs [99,104,97,110])++(dA (4*t)) }))]<|.w 4 [(1,.val (i6 ((4*(t+1):Nat):Int)))]<|.e) (.w 4 [(1,.val (i6 ((4*(t+1):Nat):Int)))]<|.e)) (.b 101 (.t 101 (.s 14 ((u.J.length:Int)>0) (.w 14 [(4,.val (dB true)),(11,.val (i6 ((b4 u.J (b.getD (4*t+1) 0):Nat):Int)))]<|.b 120 (.w 15 [(6,.val (i6 ((b4 u.J (b.getD (4*t+1) 0):Nat):Int))),(8,.val (i6 ((b.getD ((4*t)+2) 0)%8))),(9,.val (i6 (1+((b.getD ((4*t)+2) 0)%8)))),(12,.box 78 5 ca aK (u.J.set (b4 u.J (b.getD (4*t+1) 0)) { u.J.getD (b4 u.J (b.getD (4*t+1) 0)) aK with cap:=1+((b.getD ((4*t)+2) 0)%8) }))]<|.w 4 [(1,.val (i6 ((4*(t+1):Nat):Int)))]<|.e) (.w 4 [(1,.val (i6 ((4*(t+1):Nat):Int)))]<|.e)) (.w 14 [(4,.val (dB false))]<|.w 4 [(1,.val (i6 ((4*(t+1):Nat):Int)))]<|.e))) (.b 101 (.s 14 ((u.J.length:Int)>0) (.w 14 [(4,.val (dB true)),(11,.val (i6 ((b4 u.J (b.getD (4*t+1) 0):Nat):Int)))]<|.b 120 (.w 15 [(6,.val (i6 ((b4 u.J (b.getD (4*t+1) 0):Nat):Int))),(8,.val (i6 ((b.getD ((4*t)+2) 0)%8))),(9,.val (i6 (1+((b.getD ((4*t)+2) 0)%8)))),(12,.box 78 5 ca aK (u.J.set (b4 u.J (b.getD (4*t+1) 0)) { u.J.getD (b4 u.J (b.getD (4*t+1) 0)) aK with cap:=1+((b.getD ((4*t)+2) 0)%8) }))]<|.w 4 [(1,.val (i6 ((4*(t+1):Nat):Int)))]<|.e) (.w 4 [(1,.val (i6 ((4*(t+1):Nat):Int)))]<|.e)) (.w 14 [(4,.val (dB false))]<|.w 4 [(1,.val (i6 ((4*(t+1):Nat):Int)))]<|.e)) (.b 133 (.b 138 (.w 18 [(6,.val (i6 ((b4 u.U (b.getD (4*t+1) 0):Nat):Int))),(8,(MI (4*t)).O),(12,.box 76 6 bG ac (u.U.set (b4 u.U (b.getD (4*t+1) 0)) { u.U.getD (b4 u.U (b.getD (4*t+1) 0)) ac with name:=(bs [112,114,111,99])++(dA (4*t)) }))]<|.w 4 [(1,.val (i6 ((4*(t+1):Nat):Int)))]<|.e) (.w 4 [(1,.val (i6 ((4*(t+1):Nat):Int)))]<|.e)) (.b 49 (.w 8 [(6,.val (i6 ((b4 u.U (b.getD (4*t+1) 0):Nat):Int))),(13,.val (i6 ((b4 u.U (b.getD (4*t+1) 0):Nat):Int))),(19,.val (i6 (((4*t)+3:Nat):Int))),(22,.val (i6 (b.getD ((4*t)+3) 0))),(27,.val (i6 (b.getD (4*t) 0))),(29,.val (i6 ((b.getD (4*t) 0)+(b.getD ((4*t)+2) 0)))),(31,(SY (u.U.getD (b4 u.U (b.getD (4*t+1) 0)) ac) (b.getD ((4*t)+2) 0) (b.getD ((4*t)+3) 0) ((b.getD (4*t) 0)+(b.getD ((4*t)+2) 0))).O),(33,.box 76 6 bG ac (u.U.set (b4 u.U (b.getD (4*t+1) 0)) (dM (u.U.getD (b4 u.U (b.getD (4*t+1) 0)) ac) (b.getD ((4*t)+2) 0) (b.getD ((4*t)+3) 0) ((b.getD (4*t) 0)+(b.getD ((4*t)+2) 0)))))]<|.w 4 [(1,.val (i6 ((4*(t+1):Nat):Int)))]<|.e) (.w 4 [(1,.val (i6 ((4*(t+1):Nat):Int)))]<|.e)))))) (.e)) (.w 3 [(1,.val (i6 (((4*t)+3:Nat):Int))),(5,.val (dB false))]<|.e))) Tryz.func23 rfl rfl rfl (by kernel_rfl) ?_
 refine tt ⟨oK,tt ⟨⟨by simp only[UB,UR];omega,by rfl⟩,⟨oK,tt ⟨⟨by simp only[UB,UR];omega,by rfl⟩,tt ⟨rfl,⟨by unfold xl;omega,rfl⟩,?_⟩⟩⟩⟩⟩
 intro t u F'
 obtain⟨ht,hu⟩:=F'
 have hN:xl b=min 6 (b.length / 4):=rfl
 have Z5:=cO hb (4*t)
 have Zq:=cO hb (4*t+1)
 have X7:=cO hb (4*t+2)
 have hb3:=cO hb (4*t+3)
 have hul:=FX c b t
 rw[← hu]at hul
 have WX:=Ka (b:=b) hz t
 rw[← hu]at WX
 refine⟨fun N'=>?_,fun N'=>?_⟩
 · refine tt ⟨w6,tt ⟨(vT N'),tt (cd (fun hc26=>?_) (fun hc26=>?_))⟩⟩
   · refine tt ⟨w6,⟨ix,tt ⟨w6,tt ⟨w6,⟨ix,tt ⟨w6,tt ⟨ix,tt ⟨qm,tt (cd (fun ZS=>?_) (fun ZS=>?_))⟩⟩⟩⟩⟩⟩⟩⟩
     · have hic:0<u.J.length→b4 u.J (b.getD (4*t+1) 0)<u.J.length:=fun h=>fO _ h
       refine tt (cd (fun hc88=>?_) (fun hc88=>?_))
       · refine tt ⟨⟨om,(oc Zq.1)⟩,tt ⟨(sW (4*t) (by omega)),⟨(by have Yi:=pi (4*t);have:(bs [99,104,97,110]).size=4:=rfl;show _≤(9223372036854775807:Int);omega),⟨ix,tt ⟨⟨by omega,by simp only[US];rfl⟩,tt ⟨⟨oK,(uD (by omega) (by omega) (by omega))⟩,tt ⟨(t+1,(⟨u.U,u.J.set (b4 u.J (b.getD (4*t+1) 0)) { u.J.getD (b4 u.J (b.getD (4*t+1) 0)) aK with name:=(bs [99,104,97,110])++(dA (4*t)) }⟩:Ci)),rfl,?_,(?_:6-(t+1)<6-t)⟩⟩⟩⟩⟩⟩⟩
         · refine⟨by unfold xl;omega,?_⟩
           rw[xk,← hu]
           first | exact(Ca (by omega) (by omega)).symm | exact(Cb (by omega) (by omega) (by omega)).symm | exact(Cc (by omega) (by omega)).symm | exact(Cd (by omega) (by omega) (by omega) (by omega) (by omega)).symm
         · omega
       · refine tt ⟨⟨oK,(uD (by omega) (by omega) (by omega))⟩,tt ⟨(t+1,u),rfl,?_,(?_:6-(t+1)<6-t)⟩⟩
         · refine⟨by unfold xl;omega,?_⟩
           rw[xk,← hu]
           first | exact(qX (by omega) (by omega)).symm | exact(qY (by omega) (by omega)).symm | exact(qZ (by omega) (by omega)).symm | exact(ra (by omega) (by omega) (by omega) (by omega) (by omega)).symm
         · omega
     · refine tt (cd (fun hc101=>?_) (fun hc101=>?_))
       · refine⟨(Uz hc101),?_⟩
         have hic:0<u.J.length→b4 u.J (b.getD (4*t+1) 0)<u.J.length:=fun h=>fO _ h
         refine⟨fun WN=>?_,fun WN=>?_⟩
         · refine tt ⟨(vT WN),tt ⟨⟨om,(oc Zq.1)⟩,⟨ix,tt ⟨⟨om,oK⟩,tt (cd (fun Ye=>?_) (fun Ye=>?_))⟩⟩⟩⟩
           · refine tt ⟨⟨om,(oc Zq.1)⟩,tt ⟨qm,⟨w6,⟨ix,tt ⟨⟨by omega,by simp only[US];rfl⟩,tt ⟨⟨oK,(uD (by omega) (by omega) (by omega))⟩,tt ⟨(t+1,(⟨u.U,u.J.set (b4 u.J (b.getD (4*t+1) 0)) { u.J.getD (b4 u.J (b.getD (4*t+1) 0)) aK with cap:=1+((b.getD ((4*t)+2) 0)%8) }⟩:Ci)),rfl,?_,(?_:6-(t+1)<6-t)⟩⟩⟩⟩⟩⟩⟩
             · refine⟨by unfold xl;omega,?_⟩
               rw[xk,← hu]
               first | exact(Ca (by omega) (by omega)).symm | exact(Cb (by omega) (by omega) (by omega)).symm | exact(Cc (by omega) (by omega)).symm | exact(Cd (by omega) (by omega) (by omega) (by omega) (by omega)).symm
             · omega
           · refine tt ⟨⟨oK,(uD (by omega) (by omega) (by omega))⟩,tt ⟨(t+1,u),rfl,?_,(?_:6-(t+1)<6-t)⟩⟩
             · refine⟨by unfold xl;omega,?_⟩
               rw[xk,← hu]
               first | exact(qX (by omega) (by omega)).symm | exact(qY (by omega) (by omega)).symm | exact(qZ (by omega) (by omega)).symm | exact(ra (by omega) (by omega) (by omega) (by omega) (by omega)).symm
             · omega
         · refine tt ⟨(vF WN),tt ⟨⟨oK,(uD (by omega) (by omega) (by omega))⟩,tt ⟨(t+1,u),rfl,?_,(?_:6-(t+1)<6-t)⟩⟩⟩
           · refine⟨by unfold xl;omega,?_⟩
             rw[xk,← hu]
             first | exact(qX (by omega) (by omega)).symm | exact(qY (by omega) (by omega)).symm | exact(qZ (by omega) (by omega)).symm | exact(ra (by omega) (by omega) (by omega) (by omega) (by omega)).symm
           · omega
       · refine tt (cd (fun hc101=>?_) (fun hc101=>?_))
         · have hic:0<u.J.length→b4 u.J (b.getD (4*t+1) 0)<u.J.length:=fun h=>fO _ h
           refine⟨fun XH=>?_,fun XH=>?_⟩
           · refine tt ⟨(vT XH),tt ⟨⟨om,(oc Zq.1)⟩,⟨ix,tt ⟨⟨om,oK⟩,tt (cd (fun Ye=>?_) (fun Ye=>?_))⟩⟩⟩⟩
             · refine tt ⟨⟨om,(oc Zq.1)⟩,tt ⟨qm,⟨w6,⟨ix,tt ⟨⟨by omega,by simp only[US];rfl⟩,tt ⟨⟨oK,(uD (by omega) (by omega) (by omega))⟩,tt ⟨(t+1,(⟨u.U,u.J.set (b4 u.J (b.getD (4*t+1) 0)) { u.J.getD (b4 u.J (b.getD (4*t+1) 0)) aK with cap:=1+((b.getD ((4*t)+2) 0)%8) }⟩:Ci)),rfl,?_,(?_:6-(t+1)<6-t)⟩⟩⟩⟩⟩⟩⟩
               · refine⟨by unfold xl;omega,?_⟩
                 rw[xk,← hu]
                 first | exact(Ca (by omega) (by omega)).symm | exact(Cb (by omega) (by omega) (by omega)).symm | exact(Cc (by omega) (by omega)).symm | exact(Cd (by omega) (by omega) (by omega) (by omega) (by omega)).symm
               · omega
             · refine tt ⟨⟨oK,(uD (by omega) (by omega) (by omega))⟩,tt ⟨(t+1,u),rfl,?_,(?_:6-(t+1)<6-t)⟩⟩
               · refine⟨by unfold xl;omega,?_⟩
                 rw[xk,← hu]
                 first | exact(qX (by omega) (by omega)).symm | exact(qY (by omega) (by omega)).symm | exact(qZ (by omega) (by omega)).symm | exact(ra (by omega) (by omega) (by omega) (by omega) (by omega)).symm
               · omega
           · refine tt ⟨(vF XH),tt ⟨⟨oK,(uD (by omega) (by omega) (by omega))⟩,tt ⟨(t+1,u),rfl,?_,(?_:6-(t+1)<6-t)⟩⟩⟩
             · refine⟨by unfold xl;omega,?_⟩
               rw[xk,← hu]
               first | exact(qX (by omega) (by omega)).symm | exact(qY (by omega) (by omega)).symm | exact(qZ (by omega) (by omega)).symm | exact(ra (by omega) (by omega) (by omega) (by omega) (by omega)).symm
             · omega
         · refine tt (cd (fun hc133=>?_) (fun hc133=>?_))
           · have hip:0<u.U.length→b4 u.U (b.getD (4*t+1) 0)<u.U.length:=fun h=>fO _ h
             refine tt (cd (fun hc138=>?_) (fun hc138=>?_))
             · refine tt ⟨⟨om,(oc Zq.1)⟩,tt ⟨(sW (4*t) (by omega)),⟨(by have Yi:=pi (4*t);have:(bs [112,114,111,99]).size=4:=rfl;show _≤(9223372036854775807:Int);omega),⟨ix,tt ⟨⟨by omega,by simp only[US];rfl⟩,tt ⟨⟨oK,(uD (by omega) (by omega) (by omega))⟩,tt ⟨(t+1,(⟨u.U.set (b4 u.U (b.getD (4*t+1) 0)) { u.U.getD (b4 u.U (b.getD (4*t+1) 0)) ac with name:=(bs [112,114,111,99])++(dA (4*t)) },u.J⟩:Ci)),rfl,?_,(?_:6-(t+1)<6-t)⟩⟩⟩⟩⟩⟩⟩
               · refine⟨by unfold xl;omega,?_⟩
                 rw[xk,← hu]
                 first | exact(Ca (by omega) (by omega)).symm | exact(Cb (by omega) (by omega) (by omega)).symm | exact(Cc (by omega) (by omega)).symm | exact(Cd (by omega) (by omega) (by omega) (by omega) (by omega)).symm
               · omega
             · refine tt ⟨⟨oK,(uD (by omega) (by omega) (by omega))⟩,tt ⟨(t+1,u),rfl,?_,(?_:6-(t+1)<6-t)⟩⟩
               · refine⟨by unfold xl;omega,?_⟩
                 rw[xk,← hu]
                 first | exact(qX (by omega) (by omega)).symm | exact(qY (by omega) (by omega)).symm | exact(qZ (by omega) (by omega)).symm | exact(ra (by omega) (by omega) (by omega) (by omega) (by omega)).symm
               · omega
           · have hip:0<u.U.length→b4 u.U (b.getD (4*t+1) 0)<u.U.length:=fun h=>fO _ h
             refine tt (cd (fun hc49=>?_) (fun hc49=>?_))
             · have WE:=WX (b4 u.U (b.getD (4*t+1) 0))
               refine tt ⟨⟨om,(oc Zq.1)⟩,tt ⟨⟨om,(oc Zq.1)⟩,⟨ix,⟨⟨om,oK⟩,tt ⟨w6,⟨ix,tt ⟨w6,tt ⟨ix,tt ⟨w6,tt ⟨w6,tt ⟨(Kw (u.U.getD (b4 u.U (b.getD (4*t+1) 0)) ac) (b.getD ((4*t)+2) 0) (b.getD ((4*t)+3) 0) ((b.getD (4*t) 0)+(b.getD ((4*t)+2) 0)) WE X7.1 (by omega) (by omega)),⟨ix,⟨⟨by omega,by simp only[US];rfl⟩,tt ⟨⟨oK,(uD (by omega) (by omega) (by omega))⟩,tt ⟨(t+1,(⟨u.U.set (b4 u.U (b.getD (4*t+1) 0)) (dM (u.U.getD (b4 u.U (b.getD (4*t+1) 0)) ac) (b.getD ((4*t)+2) 0) (b.getD ((4*t)+3) 0) ((b.getD (4*t) 0)+(b.getD ((4*t)+2) 0))),u.J⟩:Ci)),rfl,?_,(?_:6-(t+1)<6-t)⟩⟩⟩⟩⟩⟩⟩⟩⟩⟩⟩⟩⟩⟩⟩
               · refine⟨by unfold xl;omega,?_⟩
                 rw[xk,← hu]
                 first | exact(Ca (by omega) (by omega)).symm | exact(Cb (by omega) (by omega) (by omega)).symm | exact(Cc (by omega) (by omega)).symm | exact(Cd (by omega) (by omega) (by omega) (by omega) (by omega)).symm
               · omega
             · refine tt ⟨⟨oK,(uD (by omega) (by omega) (by omega))⟩,tt ⟨(t+1,u),rfl,?_,(?_:6-(t+1)<6-t)⟩⟩
               · refine⟨by unfold xl;omega,?_⟩
                 rw[xk,← hu]
                 first | exact(qX (by omega) (by omega)).symm | exact(qY (by omega) (by omega)).symm | exact(qZ (by omega) (by omega)).symm | exact(ra (by omega) (by omega) (by omega) (by omega) (by omega)).symm
               · omega
   · refine tt ⟨(congrArg _ (?_:u.U=((d9 c b).U))),(congrArg _ (?_:u.J=((d9 c b).J))),oK⟩
     all_goals (all_goals (rw[hu,show t=xl b by unfold xl;omega];rfl))
 · refine tt ⟨w6,tt ⟨(vF N'),tt ⟨(congrArg _ (?_:u.U=((d9 c b).U))),(congrArg _ (?_:u.J=((d9 c b).J))),oK⟩⟩⟩
   all_goals (all_goals (rw[hu,show t=xl b by unfold xl;omega];rfl))
abbrev eL (n:Int):Ct:=⟨110,[(i6 n)],false,(dB (ax n))⟩
theorem eM (n:Int):CC (eL n):=by
 refine ah.vc (V:=TT 1 (CS (n≥1) (TT 2 ((True∧(decide (n≥1))=true)∧TT 5 ((decide (n≤8))=(ax n)∧True))) (TT 2 ((True∧(decide (n≥1))=false)∧TT 5 (false=(ax n)∧True))))) (.s 1 (n≥1) (.w 1 [(2,.val (dB true))]<|.e) (.w 1 [(2,.val (dB false))]<|.e)) Tryz.func110 rfl rfl rfl (by kernel_rfl) ?_
 refine tt ⟨fun N'=>?_,fun N'=>?_⟩
 · refine tt ⟨(vT N'),tt ⟨?_,oK⟩⟩
   unfold ax;simp;omega
 · refine tt ⟨(vF N'),tt ⟨?_,oK⟩⟩
   unfold ax;simp;omega
abbrev Eg (w:Int):Ct:=⟨42,[(i6 w)],false,(i6 (ai w))⟩
theorem jT (w:Int):CC (Eg w):=by
 refine ah.vc (V:=TT 1 (CS (w<0) (TT 2 ((True∧(decide (w<0))=true)∧TT 5 ((0:Int)=(ai w)∧True))) (TT 2 ((True∧(decide (w<0))=false)∧TT 3 (CD (w>62) (TT 2 ((0:Int)=(ai w)∧True)) (TT 1 ((True∧IntKind.u64.wrap w=w)∧SH w∧W6 ((2^w.toNat)-1)∧TT 2 (((2^w.toNat)-1)=(ai w)∧True)))))))) (.s 1 (w<0) (.w 1 [(2,.val (dB true))]<|.e) (.w 1 [(2,.val (dB false))]<|.b 8 (.e) (.w 3 [(1,.val (dI .u64 w)),(2,.val (i6 (2^w.toNat))),(3,.val (i6 ((2^w.toNat)-1)))]<|.e))) Tryz.func42 rfl rfl rfl (by kernel_rfl) ?_
 refine tt ⟨fun N'=>?_,fun N'=>?_⟩
 · refine tt ⟨(vT N'),tt ⟨?_,oK⟩⟩
   unfold ai;first | exact(Uw (by omega)).symm | exact(Ur (by omega)).symm
 · refine tt ⟨(vF N'),tt (cd (fun hc8=>?_) (fun hc8=>?_))⟩
   · refine tt ⟨?_,oK⟩
     unfold ai;first | exact(Uw (by omega)).symm | exact(Ur (by omega)).symm
   · refine tt ⟨⟨oK,G3 rfl om om⟩,⟨sh,⟨(w6 (by have:=nP (n:=w.toNat) (by omega);omega) (by have:=nP (n:=w.toNat) (by omega);omega)),tt ⟨?_,oK⟩⟩⟩⟩
     unfold ai;first | exact(Uw (by omega)).symm | exact(Ur (by omega)).symm
abbrev KD (b:Bool):Ct:=⟨137,[(dB b)],false,(i6 (if b=true then 1 else 0))⟩
theorem Cw (b:Bool):CC (KD b):=by
 refine ah.vc (V:=TT 2 (CB (b) (TT 2 ((1:Int)=(if b=true then 1 else 0)∧True)) (TT 2 ((0:Int)=(if b=true then 1 else 0)∧True)))) (.b 3 (.e) (.e)) Tryz.func137 rfl rfl rfl (by kernel_rfl) ?_
 refine tt ⟨fun hc3=>?_,fun hc3=>?_⟩
 · refine tt ⟨?_,oK⟩
   first | exact(Uw hc3).symm | exact(Ur (by rw[hc3];simp)).symm
 · refine tt ⟨?_,oK⟩
   first | exact(Uw hc3).symm | exact(Ur (by rw[hc3];simp)).symm
abbrev jU (ws:List Int) (n:Nat):Ct:=⟨111,[(LI ws),(i6 (n:Int))],false,(dB true)⟩
abbrev pC (ws:List Int) (n:Nat):Lp (Nat):=gD [0,1,5] 0 (fun (i:Nat)=>⟨[(0,(LI ws)),(1,(i6 (n:Int))),(5,(i6 (i:Int)))],[]⟩) (fun (i:Nat)=>i≤n) (fun (i:Nat)=>n-i)
theorem d7 (ws:List Int) (n:Nat) (h:fC ws n=true) (hn:n≤3):CC (jU ws n):=by
 have hl:=(bA h).1
 refine ah.vc (V:=TT 5 ((!decide ((ws.length:Int)=(n:Int)))=false∧TT 1 (GO (pC ws n) 0 (∀i,(pC ws n).inv i→TT 3 (CD ((i:Int)<(n:Int)) (TT 2 (IX (i:Int) ws.length∧TT 1 (CC (eL (ws.getD i 0))∧TT 1 ((!(ax (ws.getD i 0)))=false∧TT 1 (W6 ((i+1:Nat):Int)∧TT 1 (AG (pC ws n) i (i+1))))))) (CS ((n:Int)<2) (TT 2 ((True∧(decide ((n:Int)<2))=true)∧TT 3 (true=true∧True))) (TT 2 ((True∧(decide ((n:Int)<2))=false)∧TT 2 ((True∧(IntKind.wrap .i64 ((n:Int)-1))=((n-1:Nat):Int))∧IX ((n-1:Nat):Int) ws.length∧TT 3 ((True∧(IntKind.wrap .i64 ((n:Int)-2))=((n-2:Nat):Int))∧IX ((n-2:Nat):Int) ws.length∧TT 5 (((ws.getD (n-1) 0)==(ws.getD (n-2) 0))=true∧True))))))))))) (.u 9 (.l (pC ws n) 0 (fun i=>.b 12 (.w 6 [(4,(eL (ws.getD i 0)).O)]<|.u 20 (.w 5 [(1,.val (i6 ((i+1:Nat):Int)))]<|.e)) (.s 8 ((n:Int)<2) (.w 8 [(2,.val (dB true))]<|.e) (.w 8 [(2,.val (dB false)),(5,.val (i6 ((n-1:Nat):Int))),(10,.val (i6 ((n-2:Nat):Int)))]<|.e))))) Tryz.func111 rfl rfl rfl (by kernel_rfl) ?_
 refine tt ⟨(Rx (by omega)),tt ⟨rfl,(by omega),?_⟩⟩
 intro i F'
 have hi:=F'
 refine tt (cd (fun XF=>?_) (fun XF=>?_))
 · refine tt ⟨ix,tt ⟨(eM (ws.getD i 0)),tt ⟨(ya (dq h (by omega))),tt ⟨w6,tt ⟨(i+1),rfl,(?_:(i+1)≤n),(?_:n-(i+1)<n-i)⟩⟩⟩⟩⟩
   · omega
   · omega
 · refine⟨fun N'=>?_,fun N'=>?_⟩
   · exact tt ⟨(vT N'),tt ⟨rfl,oK⟩⟩
   · refine tt ⟨(vF N'),tt ⟨⟨oK,(uD (by omega) (by omega) (by omega))⟩,⟨ix,tt ⟨⟨oK,(uD (by omega) (by omega) (by omega))⟩,⟨ix,tt ⟨?_,oK⟩⟩⟩⟩⟩⟩
     have h3:=(bA h).2.2
     simpa using(h3.resolve_left (by omega))
abbrev KE (op:Int) (ws:List Int) (k w:Int):Ct:=⟨103,[(i6 op),(LI ws),(.agg [(i6 k),(i6 w)])],false,(.agg [(i6 (b7 op ws k w)),(i6 0)])⟩
theorem w7 (op:Int) (ws:List Int) (k w:Int) (h:it op ws k w=true):CC (KE op ws k w):=by
 have hr:=w4 h
 have hwl:ws.length≤3:=by
   have h1:=(kI h).1
   have h2:bw op≤3:=by unfold bw;split<;>(try split)<;>(try split)<;>(try split)<;>omega
   omega
 refine ah.vc (V:=TT 2 (((0≤(0:Int)∧0<(2:Int))∧True)∧TT 1 (((0≤(1:Int)∧1<(2:Int))∧True)∧TT 7 (CD (op=1) (TT 3 ((True∧(decide ((ws.length:Int)=0))=true)∧TT 1 (CC (eL w)∧TT 1 ((True∧(ax w)=true)∧TT 3 ((True∧(decide (k≥0))=true)∧TT 2 (CC (Eg w)∧TT 2 ((decide (k≤(ai w)))=true∧TT 3 (CC (eL w)∧TT 1 ((!(ax w))=false∧TT 4 (((w=(b7 op ws k w)∧(0:Int)=0∧True))∧((True∧True∧True)))))))))))) (TT 2 (CD (op=2) (TT 1 (CC (jU ws 1)∧TT 1 (IX 0 ws.length∧TT 3 (CC (eL (ws.getD 0 0))∧TT 1 ((!(ax (ws.getD 0 0)))=false∧TT 4 ((((ws.getD 0 0)=(b7 op ws k w)∧(0:Int)=0∧True))∧((True∧True∧True)))))))) (TT 2 (CD (op=3) ((decide (op=3))=true∧TT 1 (CC (jU ws 2)∧TT 1 (IX 0 ws.length∧TT 3 (CC (eL (ws.getD 0 0))∧TT 1 ((!(ax (ws.getD 0 0)))=false∧TT 4 ((((ws.getD 0 0)=(b7 op ws k w)∧(0:Int)=0∧True))∧((True∧True∧True)))))))) (TT 2 (CD (op=4) ((decide (op=4))=true∧TT 1 (CC (jU ws 2)∧TT 1 (IX 0 ws.length∧TT 3 (CC (eL (ws.getD 0 0))∧TT 1 ((!(ax (ws.getD 0 0)))=false∧TT 4 ((((ws.getD 0 0)=(b7 op ws k w)∧(0:Int)=0∧True))∧((True∧True∧True)))))))) (TT 2 (CD (op=5) ((decide (op=5))=true∧TT 1 (CC (jU ws 2)∧TT 1 (IX 0 ws.length∧TT 3 (CC (eL (ws.getD 0 0))∧TT 1 ((!(ax (ws.getD 0 0)))=false∧TT 4 ((((ws.getD 0 0)=(b7 op ws k w)∧(0:Int)=0∧True))∧((True∧True∧True)))))))) (TT 2 (CD (op=6) ((decide (op=6))=true∧TT 1 (CC (jU ws 2)∧TT 1 (IX 0 ws.length∧TT 3 (CC (eL (ws.getD 0 0))∧TT 1 ((!(ax (ws.getD 0 0)))=false∧TT 4 ((((ws.getD 0 0)=(b7 op ws k w)∧(0:Int)=0∧True))∧((True∧True∧True)))))))) (TT 2 (CD (op=7) (TT 1 (CC (jU ws 2)∧TT 1 (IX 0 ws.length∧TT 3 (CC (eL (ws.getD 0 0))∧TT 1 ((!(ax (ws.getD 0 0)))=false∧TT 4 ((((ws.getD 0 0)=(b7 op ws k w)∧(0:Int)=0∧True))∧((True∧True∧True)))))))) (TT 2 (CD (op=8) ((decide (op=8))=true∧TT 1 (CC (jU ws 2)∧TT 2 (CC (eL 1)∧TT 1 ((!(ax 1))=false∧TT 4 ((((1:Int)=(b7 op ws k w)∧(0:Int)=0∧True))∧((True∧True∧True))))))) (TT 2 (CD (op=9) (TT 1 (CC (jU ws 2)∧TT 2 (CC (eL 1)∧TT 1 ((!(ax 1))=false∧TT 4 ((((1:Int)=(b7 op ws k w)∧(0:Int)=0∧True))∧((True∧True∧True))))))) (TT 2 (CD (op=10) (TT 1 (CC (jU ws 3)∧TT 2 (IX 0 ws.length∧TT 3 ((decide ((ws.getD 0 0)=1))=true∧TT 1 (IX 1 ws.length∧TT 3 (CC (eL (ws.getD 1 0))∧TT 1 ((!(ax (ws.getD 1 0)))=false∧TT 4 ((((ws.getD 1 0)=(b7 op ws k w)∧(0:Int)=0∧True))∧((True∧True∧True)))))))))) (TT 2 (CD (op=11) (TT 3 ((True∧(decide ((ws.length:Int)=2))=true)∧TT 1 (IX 0 ws.length∧TT 1 (CC (eL (ws.getD 0 0))∧TT 1 ((True∧(ax (ws.getD 0 0))=true)∧TT 1 (IX 1 ws.length∧TT 1 (CC (eL (ws.getD 1 0))∧TT 1 ((ax (ws.getD 1 0))=true∧TT 1 (IX 0 ws.length∧TT 2 (IX 1 ws.length∧TT 1 (W6 ((ws.getD 0 0)+(ws.getD 1 0))∧TT 2 (CC (eL ((ws.getD 0 0)+(ws.getD 1 0)))∧TT 1 ((!(ax ((ws.getD 0 0)+(ws.getD 1 0))))=false∧TT 4 (((((ws.getD 0 0)+(ws.getD 1 0))=(b7 op ws k w)∧(0:Int)=0∧True))∧((True∧True∧True)))))))))))))))) (TT 2 (CD (op=12) (TT 1 (CC (jU ws 1)∧TT 2 (CC (eL w)∧TT 1 ((True∧(ax w)=true)∧TT 3 ((True∧(decide (k≥0))=true)∧TT 2 (IX 0 ws.length∧TT 2 (W6 ((ws.getD 0 0)-w)∧TT 2 ((decide (k≤((ws.getD 0 0)-w)))=true∧TT 3 (CC (eL w)∧TT 1 ((!(ax w))=false∧TT 4 (((w=(b7 op ws k w)∧(0:Int)=0∧True))∧((True∧True∧True))))))))))))) (TT 2 ((decide (op=13))=true∧TT 1 (CC (jU ws 1)∧TT 3 (IX 0 ws.length∧TT 3 ((decide (w≥(ws.getD 0 0)))=true∧TT 3 (CC (eL w)∧TT 1 ((!(ax w))=false∧TT 4 (((w=(b7 op ws k w)∧(0:Int)=0∧True))∧((True∧True∧True)))))))))))))))))))))))))))))))))))) (.b 15 (.w 4 [(3,.val (dB true)),(5,(eL w).O),(7,.val (dB true)),(11,.val (dB true)),(14,(Eg w).O)]<|.t 33 (.w 32 [(1,(eL w).O)]<|.u 131 (.e))) (.b 35 (.w 7 [(1,(jU ws 1).O)]<|.w 32 [(1,(eL (ws.getD 0 0)).O)]<|.u 131 (.e)) (.b 42 (.t 42 (.w 14 [(1,(jU ws 2).O)]<|.w 32 [(1,(eL (ws.getD 0 0)).O)]<|.u 131 (.e))) (.b 42 (.t 42 (.w 14 [(1,(jU ws 2).O)]<|.w 32 [(1,(eL (ws.getD 0 0)).O)]<|.u 131 (.e))) (.b 42 (.t 42 (.w 14 [(1,(jU ws 2).O)]<|.w 32 [(1,(eL (ws.getD 0 0)).O)]<|.u 131 (.e))) (.b 42 (.t 42 (.w 14 [(1,(jU ws 2).O)]<|.w 32 [(1,(eL (ws.getD 0 0)).O)]<|.u 131 (.e))) (.b 42 (.w 14 [(1,(jU ws 2).O)]<|.w 32 [(1,(eL (ws.getD 0 0)).O)]<|.u 131 (.e)) (.b 53 (.t 53 (.w 18 [(1,(jU ws 2).O)]<|.w 32 [(1,(eL 1).O)]<|.u 131 (.e))) (.b 53 (.w 18 [(1,(jU ws 2).O)]<|.w 32 [(1,(eL 1).O)]<|.u 131 (.e)) (.b 58 (.w 21 [(1,(jU ws 3).O)]<|.t 67 (.w 32 [(1,(eL (ws.getD 1 0)).O)]<|.u 131 (.e))) (.b 71 (.w 24 [(3,.val (dB true)),(7,(eL (ws.getD 0 0)).O),(9,.val (dB true)),(13,(eL (ws.getD 1 0)).O)]<|.t 87 (.w 25 [(6,.val (i6 ((ws.getD 0 0)+(ws.getD 1 0))))]<|.w 32 [(1,(eL ((ws.getD 0 0)+(ws.getD 1 0))).O)]<|.u 131 (.e))) (.b 95 (.w 27 [(1,(jU ws 1).O),(4,(eL w).O),(6,.val (dB true)),(10,.val (dB true)),(16,.val (i6 ((ws.getD 0 0)-w)))]<|.t 115 (.w 32 [(1,(eL w).O)]<|.u 131 (.e))) (.t 117 (.w 30 [(1,(jU ws 1).O)]<|.t 127 (.w 32 [(1,(eL w).O)]<|.u 131 (.e)))))))))))))))) Tryz.func103 rfl rfl rfl (by kernel_rfl) ?_
 refine tt ⟨⟨by omega,oK⟩,tt ⟨⟨by omega,oK⟩,tt (cd (fun W4=>?_) (fun W4=>?_))⟩⟩
 · obtain⟨q1,q2,q3,q4⟩:=HH.1 (by rw[W4]at h;exact h)
   have hv:bp op ws k w=w:=(by rw[W4];first | done | exact KB q2 q3 q4)
   have hw:=(hJ h hv).1
   have WY:=q2
   refine tt ⟨(vT (by omega)),tt ⟨(eM w),tt ⟨(bT q2),tt ⟨(vT (by omega)),tt ⟨(jT w),tt ⟨(Uz (by omega)),tt ⟨(eM w),tt ⟨(ya WY),tt ⟨⟨?_,rfl,oK⟩,⟨oK,oK,oK⟩⟩⟩⟩⟩⟩⟩⟩⟩⟩
   exact hw
 · refine tt (cd (fun WZ=>?_) (fun WZ=>?_))
   · have hq:=ML.1 (by rw[WZ]at h;exact h)
     have hv:bp op ws k w=ws.getD 0 0:=(by rw[WZ];first | done | exact rfl)
     have hw:=(hJ h hv).1
     have WY:=dq hq (i:=0) (by omega)
     have YI:=(bA hq).1
     refine tt ⟨(d7 ws 1 hq om),tt ⟨ix,tt ⟨(eM (ws.getD 0 0)),tt ⟨(ya WY),tt ⟨⟨?_,rfl,oK⟩,⟨oK,oK,oK⟩⟩⟩⟩⟩⟩
     exact hw
   · refine tt (cd (fun Xd=>?_) (fun Xd=>?_))
     · have hq:=(ij (by omega)).1 (h)
       have hv:bp op ws k w=ws.getD 0 0:=(by first | done | exact sX (by omega) hq)
       have hw:=(hJ h hv).1
       have WY:=dq hq (i:=0) (by omega)
       have YI:=(bA hq).1
       refine⟨(Uz Xd),tt ⟨(d7 ws 2 hq om),tt ⟨ix,tt ⟨(eM (ws.getD 0 0)),tt ⟨(ya WY),tt ⟨⟨?_,rfl,oK⟩,⟨oK,oK,oK⟩⟩⟩⟩⟩⟩⟩
       exact hw
     · refine tt (cd (fun Xd=>?_) (fun Xd=>?_))
       · have hq:=(ij (by omega)).1 (h)
         have hv:bp op ws k w=ws.getD 0 0:=(by first | done | exact sX (by omega) hq)
         have hw:=(hJ h hv).1
         have WY:=dq hq (i:=0) (by omega)
         have YI:=(bA hq).1
         refine⟨(Uz Xd),tt ⟨(d7 ws 2 hq om),tt ⟨ix,tt ⟨(eM (ws.getD 0 0)),tt ⟨(ya WY),tt ⟨⟨?_,rfl,oK⟩,⟨oK,oK,oK⟩⟩⟩⟩⟩⟩⟩
         exact hw
       · refine tt (cd (fun Xd=>?_) (fun Xd=>?_))
         · have hq:=(ij (by omega)).1 (h)
           have hv:bp op ws k w=ws.getD 0 0:=(by first | done | exact sX (by omega) hq)
           have hw:=(hJ h hv).1
           have WY:=dq hq (i:=0) (by omega)
           have YI:=(bA hq).1
           refine⟨(Uz Xd),tt ⟨(d7 ws 2 hq om),tt ⟨ix,tt ⟨(eM (ws.getD 0 0)),tt ⟨(ya WY),tt ⟨⟨?_,rfl,oK⟩,⟨oK,oK,oK⟩⟩⟩⟩⟩⟩⟩
           exact hw
         · refine tt (cd (fun Xd=>?_) (fun Xd=>?_))
           · have hq:=(ij (by omega)).1 (h)
             have hv:bp op ws k w=ws.getD 0 0:=(by first | done | exact sX (by omega) hq)
             have hw:=(hJ h hv).1
             have WY:=dq hq (i:=0) (by omega)
             have YI:=(bA hq).1
             refine⟨(Uz Xd),tt ⟨(d7 ws 2 hq om),tt ⟨ix,tt ⟨(eM (ws.getD 0 0)),tt ⟨(ya WY),tt ⟨⟨?_,rfl,oK⟩,⟨oK,oK,oK⟩⟩⟩⟩⟩⟩⟩
             exact hw
           · refine tt (cd (fun Xd=>?_) (fun Xd=>?_))
             · have hq:=(ij (by omega)).1 (h)
               have hv:bp op ws k w=ws.getD 0 0:=(by first | done | exact sX (by omega) hq)
               have hw:=(hJ h hv).1
               have WY:=dq hq (i:=0) (by omega)
               have YI:=(bA hq).1
               refine tt ⟨(d7 ws 2 hq om),tt ⟨ix,tt ⟨(eM (ws.getD 0 0)),tt ⟨(ya WY),tt ⟨⟨?_,rfl,oK⟩,⟨oK,oK,oK⟩⟩⟩⟩⟩⟩
               exact hw
             · refine tt (cd (fun hc53=>?_) (fun hc53=>?_))
               · have hq:=(vJ (by omega)).1 (h)
                 have hv:bp op ws k w=1:=(by first | done | exact AK (by omega) hq)
                 have hw:=(hJ h hv).1
                 have WY:=(by decide:ax 1=true)
                 have YI:=(bA hq).1
                 refine⟨(Uz hc53),tt ⟨(d7 ws 2 hq om),tt ⟨(eM 1),tt ⟨(ya WY),tt ⟨⟨?_,rfl,oK⟩,⟨oK,oK,oK⟩⟩⟩⟩⟩⟩
                 exact hw
               · refine tt (cd (fun hc53=>?_) (fun hc53=>?_))
                 · have hq:=(vJ (by omega)).1 (h)
                   have hv:bp op ws k w=1:=(by first | done | exact AK (by omega) hq)
                   have hw:=(hJ h hv).1
                   have WY:=(by decide:ax 1=true)
                   have YI:=(bA hq).1
                   refine tt ⟨(d7 ws 2 hq om),tt ⟨(eM 1),tt ⟨(ya WY),tt ⟨⟨?_,rfl,oK⟩,⟨oK,oK,oK⟩⟩⟩⟩⟩
                   exact hw
                 · refine tt (cd (fun YO=>?_) (fun YO=>?_))
                   · obtain⟨hq,q2⟩:=MM.1 (by rw[YO]at h;exact h)
                     have hv:bp op ws k w=ws.getD 1 0:=(by rw[YO];first | done | exact Gj hq q2)
                     have hw:=(hJ h hv).1
                     have WY:=dq hq (i:=1) (by omega)
                     have YI:=(bA hq).1
                     refine tt ⟨(d7 ws 3 hq om),tt ⟨ix,tt ⟨(Uz (by omega)),tt ⟨ix,tt ⟨(eM (ws.getD 1 0)),tt ⟨(ya WY),tt ⟨⟨?_,rfl,oK⟩,⟨oK,oK,oK⟩⟩⟩⟩⟩⟩⟩⟩
                     exact hw
                   · refine tt (cd (fun WK=>?_) (fun WK=>?_))
                     · obtain⟨q1,q2,q3,q4⟩:=MN.1 (by rw[WK]at h;exact h)
                       have hv:bp op ws k w=ws.getD 0 0+ws.getD 1 0:=(by rw[WK];first | done | exact rfl)
                       have hw:=(hJ h hv).1
                       have WY:=q4
                       have f0:=aQ.1 q2;have f1:=aQ.1 q3
                       refine tt ⟨(vT (by omega)),tt ⟨ix,tt ⟨(eM (ws.getD 0 0)),tt ⟨(bT q2),tt ⟨ix,tt ⟨(eM (ws.getD 1 0)),tt ⟨(TY q3),tt ⟨ix,tt ⟨ix,tt ⟨w6,tt ⟨(eM ((ws.getD 0 0)+(ws.getD 1 0))),tt ⟨(ya WY),tt ⟨⟨?_,rfl,oK⟩,⟨oK,oK,oK⟩⟩⟩⟩⟩⟩⟩⟩⟩⟩⟩⟩⟩⟩
                       exact hw
                     · refine tt (cd (fun hc95=>?_) (fun hc95=>?_))
                       · obtain⟨hq,q2,q3,q4⟩:=HI.1 (by rw[hc95]at h;exact h)
                         have hv:bp op ws k w=w:=(by rw[hc95];first | done | exact yP q2 q3 q4)
                         have hw:=(hJ h hv).1
                         have WY:=q2
                         have YI:=(bA hq).1
                         have f0:=aQ.1 (dq hq (i:=0) (by omega));have f1:=aQ.1 q2
                         refine tt ⟨(d7 ws 1 hq om),tt ⟨(eM w),tt ⟨(bT q2),tt ⟨(vT (by omega)),tt ⟨ix,tt ⟨w6,tt ⟨(Uz (by omega)),tt ⟨(eM w),tt ⟨(ya WY),tt ⟨⟨?_,rfl,oK⟩,⟨oK,oK,oK⟩⟩⟩⟩⟩⟩⟩⟩⟩⟩⟩
                         exact hw
                       · refine tt ⟨(Uz (by omega)),?_⟩
                         have hc117:op=13:=by
                           rcases hr with g | g | g | g | g | g | g | g | g | g | g | g | g<;>first | exact g | contradiction
                         obtain⟨hq,q2,q3⟩:=MO.1 (by rw[hc117]at h;exact h)
                         have hv:bp op ws k w=w:=(by rw[hc117];first | done | exact Gk q2)
                         have hw:=(hJ h hv).1
                         have WY:=q3
                         have YI:=(bA hq).1
                         refine tt ⟨(d7 ws 1 hq om),tt ⟨ix,tt ⟨(Uz (by omega)),tt ⟨(eM w),tt ⟨(ya WY),tt ⟨⟨?_,rfl,oK⟩,⟨oK,oK,oK⟩⟩⟩⟩⟩⟩⟩
                         exact hw
abbrev KF (op:Int) (ws xs:List Int) (k w w1:Int):Ct:=⟨112,[(i6 op),(.agg [(i6 (ws.getD 0 0)),(i6 w1)]),(LI xs)],false,(i6 (jB op ws xs k w))⟩
set_option maxHeartbeats 1600000 in
theorem Cx (op:Int) (ws xs:List Int) (k w w1:Int) (h:it op ws k w=true) (hx:xs.length=ws.length) (hin:Bx ws xs=true) (hn:op≠1∧op≠12∧op≠13) (hw:op=11→w1=ws.getD 1 0):CC (KF op ws xs k w w1):=by
 have hr:=w4 h
 obtain⟨hl,hf,-⟩:=kI h
 have f0:0<ws.length→1≤ws.getD 0 0∧ws.getD 0 0≤8:=fun h=>aE hf h
 have f1:1<ws.length→1≤ws.getD 1 0∧ws.getD 1 0≤8:=fun h=>aE hf h
 have f2:2<ws.length→1≤ws.getD 2 0∧ws.getD 2 0≤8:=fun h=>aE hf h
 have a0:0<ws.length→0≤xs.getD 0 0∧xs.getD 0 0≤ai (ws.getD 0 0):=fun h=>bh hin (by omega)
 have a1:1<ws.length→0≤xs.getD 1 0∧xs.getD 1 0≤ai (ws.getD 1 0):=fun h=>bh hin (by omega)
 have a2:2<ws.length→0≤xs.getD 2 0∧xs.getD 2 0≤ai (ws.getD 2 0):=fun h=>bh hin (by omega)
 have m0:0<ws.length→0≤ai (ws.getD 0 0)∧ai (ws.getD 0 0)≤255:=fun h=>aB (by have:=f0 h;omega) (f0 h).2
 have m1:1<ws.length→0≤ai (ws.getD 1 0)∧ai (ws.getD 1 0)≤255:=fun h=>aB (by have:=f1 h;omega) (f1 h).2
 have m2:2<ws.length→0≤ai (ws.getD 2 0)∧ai (ws.getD 2 0)≤255:=fun h=>aB (by have:=f2 h;omega) (f2 h).2
 refine ah.vc (V:=TT 2 (((0≤(0:Int)∧0<(2:Int))∧True)∧TT 1 (CC (Eg (ws.getD 0 0))∧TT 4 (CD (op=2) (TT 2 (IX 0 xs.length∧TT 1 (W6 ((ai (ws.getD 0 0))-(xs.getD 0 0))∧TT 2 (((ai (ws.getD 0 0))-(xs.getD 0 0))=(jB op ws xs k w)∧True)))) (TT 2 (CD (op=3) (TT 1 (IX 0 xs.length∧TT 2 (IX 1 xs.length∧TT 1 ((True∧(IntKind.wrap .i64 (BitVec.ofInt (IntKind.i64).bits (xs.getD 0 0) &&& BitVec.ofInt (IntKind.i64).bits (xs.getD 1 0)).toNat)=(((xs.getD 0 0).toNat &&& (xs.getD 1 0).toNat:Nat):Int))∧TT 2 ((((xs.getD 0 0).toNat &&& (xs.getD 1 0).toNat:Nat):Int)=(jB op ws xs k w)∧True))))) (TT 2 (CD (op=4) (TT 1 (IX 0 xs.length∧TT 2 (IX 1 xs.length∧TT 1 ((True∧(IntKind.wrap .i64 (BitVec.ofInt (IntKind.i64).bits (xs.getD 0 0) ||| BitVec.ofInt (IntKind.i64).bits (xs.getD 1 0)).toNat)=(((xs.getD 0 0).toNat ||| (xs.getD 1 0).toNat:Nat):Int))∧TT 2 ((((xs.getD 0 0).toNat ||| (xs.getD 1 0).toNat:Nat):Int)=(jB op ws xs k w)∧True))))) (TT 2 (CD (op=5) (TT 1 (IX 0 xs.length∧TT 2 (IX 1 xs.length∧TT 1 ((True∧(IntKind.wrap .i64 (BitVec.ofInt (IntKind.i64).bits (xs.getD 0 0) ^^^ BitVec.ofInt (IntKind.i64).bits (xs.getD 1 0)).toNat)=(((xs.getD 0 0).toNat ^^^ (xs.getD 1 0).toNat:Nat):Int))∧TT 2 ((((xs.getD 0 0).toNat ^^^ (xs.getD 1 0).toNat:Nat):Int)=(jB op ws xs k w)∧True))))) (TT 2 (CD (op=6) (TT 1 (IX 0 xs.length∧TT 2 (IX 1 xs.length∧TT 1 (W6 ((xs.getD 0 0)+(xs.getD 1 0))∧TT 1 (W6 ((ai (ws.getD 0 0))+1)∧(((ai (ws.getD 0 0))+1)≠0∧(Int.tmod ((xs.getD 0 0)+(xs.getD 1 0)) ((ai (ws.getD 0 0))+1))=((xs.getD 0 0+xs.getD 1 0)%2^(ws.getD 0 0).toNat))∧TT 2 (((xs.getD 0 0+xs.getD 1 0)%2^(ws.getD 0 0).toNat)=(jB op ws xs k w)∧True)))))) (TT 2 (CD (op=7) (TT 1 (IX 0 xs.length∧TT 2 (IX 1 xs.length∧TT 1 (W6 ((xs.getD 0 0)-(xs.getD 1 0))∧TT 1 (W6 (((xs.getD 0 0)-(xs.getD 1 0))+(ai (ws.getD 0 0)))∧W6 ((((xs.getD 0 0)-(xs.getD 1 0))+(ai (ws.getD 0 0)))+1)∧TT 1 (W6 ((ai (ws.getD 0 0))+1)∧(((ai (ws.getD 0 0))+1)≠0∧(Int.tmod ((((xs.getD 0 0)-(xs.getD 1 0))+(ai (ws.getD 0 0)))+1) ((ai (ws.getD 0 0))+1))=((xs.getD 0 0-xs.getD 1 0)%2^(ws.getD 0 0).toNat))∧TT 2 (((xs.getD 0 0-xs.getD 1 0)%2^(ws.getD 0 0).toNat)=(jB op ws xs k w)∧True))))))) (TT 2 (CD (op=8) (TT 1 (IX 0 xs.length∧TT 2 (IX 1 xs.length∧TT 2 (CC (KD ((xs.getD 0 0)==(xs.getD 1 0)))∧TT 2 ((if ((xs.getD 0 0)==(xs.getD 1 0))=true then 1 else 0)=(jB op ws xs k w)∧True))))) (TT 2 (CD (op=9) (TT 1 (IX 0 xs.length∧TT 2 (IX 1 xs.length∧TT 2 (CC (KD (decide ((xs.getD 0 0)<(xs.getD 1 0))))∧TT 2 ((if (decide ((xs.getD 0 0)<(xs.getD 1 0)))=true then 1 else 0)=(jB op ws xs k w)∧True))))) (TT 2 (CD (op=10) (TT 1 (IX 0 xs.length∧TT 2 (CD ((xs.getD 0 0)=1) (TT 1 (IX 1 xs.length∧TT 3 ((xs.getD 1 0)=(jB op ws xs k w)∧True))) (TT 1 (IX 2 xs.length∧TT 3 ((xs.getD 2 0)=(jB op ws xs k w)∧True)))))) (TT 1 (IX 0 xs.length∧TT 1 (((0≤(1:Int)∧1<(2:Int))∧True)∧TT 1 ((True∧(IntKind.wrap .u64 w1)=(ws.getD 1 0))∧(0≤(ws.getD 1 0)∧(IntKind.wrap .i64 ((xs.getD 0 0)*2^min ((ws.getD 1 0).toNat) 64))=(((xs.getD 0 0).toNat*2^(ws.getD 1 0).toNat:Nat):Int))∧TT 1 (IX 1 xs.length∧TT 1 ((True∧(IntKind.wrap .i64 (BitVec.ofInt (IntKind.i64).bits (((xs.getD 0 0).toNat*2^(ws.getD 1 0).toNat:Nat):Int) ||| BitVec.ofInt (IntKind.i64).bits (xs.getD 1 0)).toNat)=(((xs.getD 0 0).toNat*2^(ws.getD 1 0).toNat ||| (xs.getD 1 0).toNat:Nat):Int))∧TT 2 ((((xs.getD 0 0).toNat*2^(ws.getD 1 0).toNat ||| (xs.getD 1 0).toNat:Nat):Int)=(jB op ws xs k w)∧True))))))))))))))))))))))))))) (.w 1 [(2,(Eg (ws.getD 0 0)).O)]<|.b 12 (.w 4 [(4,.val (i6 ((ai (ws.getD 0 0))-(xs.getD 0 0))))]<|.e) (.b 19 (.w 6 [(6,.val (i6 (((xs.getD 0 0).toNat &&& (xs.getD 1 0).toNat:Nat):Int)))]<|.e) (.b 28 (.w 8 [(6,.val (i6 (((xs.getD 0 0).toNat ||| (xs.getD 1 0).toNat:Nat):Int)))]<|.e) (.b 37 (.w 10 [(6,.val (i6 (((xs.getD 0 0).toNat ^^^ (xs.getD 1 0).toNat:Nat):Int)))]<|.e) (.b 46 (.w 12 [(6,.val (i6 ((xs.getD 0 0)+(xs.getD 1 0)))),(8,.val (i6 ((ai (ws.getD 0 0))+1))),(9,.val (i6 ((xs.getD 0 0+xs.getD 1 0)%2^(ws.getD 0 0).toNat)))]<|.e) (.b 58 (.w 14 [(6,.val (i6 ((xs.getD 0 0)-(xs.getD 1 0)))),(8,.val (i6 (((xs.getD 0 0)-(xs.getD 1 0))+(ai (ws.getD 0 0))))),(9,.val (i6 ((((xs.getD 0 0)-(xs.getD 1 0))+(ai (ws.getD 0 0)))+1))),(11,.val (i6 ((ai (ws.getD 0 0))+1))),(12,.val (i6 ((xs.getD 0 0-xs.getD 1 0)%2^(ws.getD 0 0).toNat)))]<|.e) (.b 73 (.w 16 [(7,(KD ((xs.getD 0 0)==(xs.getD 1 0))).O)]<|.e) (.b 83 (.w 18 [(7,(KD (decide ((xs.getD 0 0)<(xs.getD 1 0)))).O)]<|.e) (.b 93 (.b 98 (.e) (.e)) (.w 23 [(5,.val (dI .u64 (ws.getD 1 0))),(6,.val (i6 (((xs.getD 0 0).toNat*2^(ws.getD 1 0).toNat:Nat):Int))),(10,.val (i6 (((xs.getD 0 0).toNat*2^(ws.getD 1 0).toNat ||| (xs.getD 1 0).toNat:Nat):Int)))]<|.e)))))))))) Tryz.func112 rfl rfl rfl (by kernel_rfl) ?_
 refine tt ⟨⟨by omega,oK⟩,tt ⟨(jT (ws.getD 0 0)),tt (cd (fun XF=>?_) (fun XF=>?_))⟩⟩
 · have Yr:(ws.length:Int)=1:=by rw[XF]at hl;exact hl
   have b0:=f0 (by omega)
   have c0:=a0 (by omega)
   have d0:=m0 (by omega)
   refine tt ⟨ix,tt ⟨w6,tt ⟨?_,oK⟩⟩⟩
   rw[XF];exact MP (by omega) c0
 · refine tt (cd (fun YX=>?_) (fun YX=>?_))
   · have Yr:(ws.length:Int)=2:=by rw[YX]at hl;exact hl
     have b0:=f0 (by omega)
     have c0:=a0 (by omega)
     have d0:=m0 (by omega)
     have b1:=f1 (by omega)
     have c1:=a1 (by omega)
     have d1:=m1 (by omega)
     have Xp:=hE ((ij (by omega)).1 h)
     have hw1:ai (ws.getD 1 0)=ai (ws.getD 0 0):=by rw[Xp]
     refine tt ⟨ix,tt ⟨ix,tt ⟨⟨oK,(ye (by omega) (by omega) (by omega) (by omega))⟩,tt ⟨?_,oK⟩⟩⟩⟩
     rw[YX];rfl
   · refine tt (cd (fun XI=>?_) (fun XI=>?_))
     · have Yr:(ws.length:Int)=2:=by rw[XI]at hl;exact hl
       have b0:=f0 (by omega)
       have c0:=a0 (by omega)
       have d0:=m0 (by omega)
       have b1:=f1 (by omega)
       have c1:=a1 (by omega)
       have d1:=m1 (by omega)
       have Xp:=hE ((ij (by omega)).1 h)
       have hw1:ai (ws.getD 1 0)=ai (ws.getD 0 0):=by rw[Xp]
       refine tt ⟨ix,tt ⟨ix,tt ⟨⟨oK,(Bz (by omega) (by omega) (by omega) (by omega))⟩,tt ⟨?_,oK⟩⟩⟩⟩
       rw[XI];rfl
     · refine tt (cd (fun YP=>?_) (fun YP=>?_))
       · have Yr:(ws.length:Int)=2:=by rw[YP]at hl;exact hl
         have b0:=f0 (by omega)
         have c0:=a0 (by omega)
         have d0:=m0 (by omega)
         have b1:=f1 (by omega)
         have c1:=a1 (by omega)
         have d1:=m1 (by omega)
         have Xp:=hE ((ij (by omega)).1 h)
         have hw1:ai (ws.getD 1 0)=ai (ws.getD 0 0):=by rw[Xp]
         refine tt ⟨ix,tt ⟨ix,tt ⟨⟨oK,(tF (by omega) (by omega) (by omega) (by omega))⟩,tt ⟨?_,oK⟩⟩⟩⟩
         rw[YP];rfl
       · refine tt (cd (fun Xs=>?_) (fun Xs=>?_))
         · have Yr:(ws.length:Int)=2:=by rw[Xs]at hl;exact hl
           have b0:=f0 (by omega)
           have c0:=a0 (by omega)
           have d0:=m0 (by omega)
           have b1:=f1 (by omega)
           have c1:=a1 (by omega)
           have d1:=m1 (by omega)
           have Xp:=hE ((ij (by omega)).1 h)
           have hw1:ai (ws.getD 1 0)=ai (ws.getD 0 0):=by rw[Xp]
           refine tt ⟨ix,tt ⟨ix,tt ⟨w6,tt ⟨w6,⟨⟨om,(Cv (by omega) (by omega))⟩,tt ⟨?_,oK⟩⟩⟩⟩⟩⟩
           rw[Xs];rfl
         · refine tt (cd (fun YO=>?_) (fun YO=>?_))
           · have Yr:(ws.length:Int)=2:=by rw[YO]at hl;exact hl
             have b0:=f0 (by omega)
             have c0:=a0 (by omega)
             have d0:=m0 (by omega)
             have b1:=f1 (by omega)
             have c1:=a1 (by omega)
             have d1:=m1 (by omega)
             have Xp:=hE ((ij (by omega)).1 h)
             have hw1:ai (ws.getD 1 0)=ai (ws.getD 0 0):=by rw[Xp]
             refine tt ⟨ix,tt ⟨ix,tt ⟨w6,tt ⟨w6,⟨w6,tt ⟨w6,⟨⟨om,(MQ (by omega) (by omega))⟩,tt ⟨?_,oK⟩⟩⟩⟩⟩⟩⟩⟩
             rw[YO];rfl
           · refine tt (cd (fun hc73=>?_) (fun hc73=>?_))
             · have Yr:(ws.length:Int)=2:=by rw[hc73]at hl;exact hl
               have b0:=f0 (by omega)
               have c0:=a0 (by omega)
               have d0:=m0 (by omega)
               have b1:=f1 (by omega)
               have c1:=a1 (by omega)
               have d1:=m1 (by omega)
               have Xp:=hE ((vJ (by omega)).1 h)
               have hw1:ai (ws.getD 1 0)=ai (ws.getD 0 0):=by rw[Xp]
               refine tt ⟨ix,tt ⟨ix,tt ⟨(Cw ((xs.getD 0 0)==(xs.getD 1 0))),tt ⟨?_,oK⟩⟩⟩⟩
               rw[hc73]
               show _=(if xs.getD 0 0=xs.getD 1 0 then (1:Int)else 0)
               by_cases hq:xs.getD 0 0=xs.getD 1 0
               · rw[Uw hq,Uw (by simpa using hq)]
               · rw[Ur hq,Ur (by simpa using hq)]
             · refine tt (cd (fun ZS=>?_) (fun ZS=>?_))
               · have Yr:(ws.length:Int)=2:=by rw[ZS]at hl;exact hl
                 have b0:=f0 (by omega)
                 have c0:=a0 (by omega)
                 have d0:=m0 (by omega)
                 have b1:=f1 (by omega)
                 have c1:=a1 (by omega)
                 have d1:=m1 (by omega)
                 have Xp:=hE ((vJ (by omega)).1 h)
                 have hw1:ai (ws.getD 1 0)=ai (ws.getD 0 0):=by rw[Xp]
                 refine tt ⟨ix,tt ⟨ix,tt ⟨(Cw (decide ((xs.getD 0 0)<(xs.getD 1 0)))),tt ⟨?_,oK⟩⟩⟩⟩
                 rw[ZS]
                 show _=(if xs.getD 0 0<xs.getD 1 0 then (1:Int)else 0)
                 by_cases hq:xs.getD 0 0<xs.getD 1 0
                 · rw[Uw hq,Uw (by simpa using hq)]
                 · rw[Ur hq,Ur (by simpa using hq)]
               · refine tt (cd (fun YZ=>?_) (fun YZ=>?_))
                 · have Yr:(ws.length:Int)=3:=by rw[YZ]at hl;exact hl
                   have b0:=f0 (by omega)
                   have c0:=a0 (by omega)
                   have d0:=m0 (by omega)
                   have b1:=f1 (by omega)
                   have c1:=a1 (by omega)
                   have d1:=m1 (by omega)
                   have YG:=zJ (by rw[YZ]at h;exact h)
                   have hm1:ai (ws.getD 0 0)=1:=by rw[YG];decide
                   refine tt ⟨ix,tt (cd (fun hc98=>?_) (fun hc98=>?_))⟩
                   · refine tt ⟨ix,tt ⟨?_,oK⟩⟩
                     rw[YZ]
                     show _=xs.getD (2-xs.getD 0 0).toNat 0
                     rw[hc98]
                     rfl
                   · refine tt ⟨ix,tt ⟨?_,oK⟩⟩
                     rw[YZ]
                     show _=xs.getD (2-xs.getD 0 0).toNat 0
                     rw[show xs.getD 0 0=0 by omega]
                     rfl
                 · have XP:op=11:=by
                     have hn1:=hn.1;have hn2:=hn.2.1;have hn3:=hn.2.2
                     rcases hr with g | g | g | g | g | g | g | g | g | g | g | g | g<;>first | exact g | contradiction
                   have Yr:(ws.length:Int)=2:=by rw[XP]at hl;exact hl
                   have b0:=f0 (by omega)
                   have c0:=a0 (by omega)
                   have d0:=m0 (by omega)
                   have b1:=f1 (by omega)
                   have c1:=a1 (by omega)
                   have d1:=m1 (by omega)
                   have hw1:=hw XP
                   refine tt ⟨ix,tt ⟨⟨by omega,oK⟩,tt ⟨⟨oK,(by rw[hw1];exact G3 rfl (by omega) (by omega))⟩,⟨⟨(by omega),(Fa (by omega) (by omega))⟩,tt ⟨ix,tt ⟨⟨oK,(Fb (by omega) (by omega) (by omega))⟩,tt ⟨?_,oK⟩⟩⟩⟩⟩⟩⟩
                   rw[XP];rfl
abbrev Pk (op:Int) (ws xs G':List Int):Ct:=⟨104,[(i6 op),(LI ws),(.agg [(LI xs),(LI G')])],false,(.agg [(i6 (cT op ws xs G')),(i6 0)])⟩
abbrev mM (op:Int) (ws:List Int) (xs:List Int) (G':List Int):Lp (Nat):=gD [0,1,6,7,8,10] 19 (fun (i:Nat)=>⟨[(0,(i6 op)),(1,(LI ws)),(6,(.ptr 1 0 0 0)),(7,(LI xs)),(8,(LI G')),(10,(i6 (i:Int)))],[(.var 213 [(LI xs),(LI G')]),(.var 210 [(i6 0),(i6 0)]),.dead,.dead,.dead,.dead,.dead,.dead,.dead,.dead,.dead,.dead,.dead,.dead,.dead,.dead,.dead,.dead,(.var 210 [(i6 (b7 op ws (G'.getD 0 0) (G'.getD 1 0))),(i6 0)])]⟩) (fun (i:Nat)=>i≤xs.length) (fun (i:Nat)=>xs.length-i)
set_option maxHeartbeats 1600000 in
theorem Eh (op:Int) (ws xs G':List Int) (h:it op ws (G'.getD 0 0) (G'.getD 1 0)=true) (hx:xs.length=ws.length) (hin:Bx ws xs=true) (hn:G'.length=2):CC (Pk op ws xs G'):=by
 have hr:=w4 h
 obtain⟨hl,hf,-⟩:=kI h
 have hwl:ws.length≤3:=by
   have h2:bw op≤3:=by unfold bw;split<;>(try split)<;>(try split)<;>(try split)<;>omega
   omega
 have f0:0<ws.length→1≤ws.getD 0 0∧ws.getD 0 0≤8:=fun h=>aE hf h
 have f1:1<ws.length→1≤ws.getD 1 0∧ws.getD 1 0≤8:=fun h=>aE hf h
 have f2:2<ws.length→1≤ws.getD 2 0∧ws.getD 2 0≤8:=fun h=>aE hf h
 have a0:0<ws.length→0≤xs.getD 0 0∧xs.getD 0 0≤ai (ws.getD 0 0):=fun h=>bh hin (by omega)
 have a1:1<ws.length→0≤xs.getD 1 0∧xs.getD 1 0≤ai (ws.getD 1 0):=fun h=>bh hin (by omega)
 have a2:2<ws.length→0≤xs.getD 2 0∧xs.getD 2 0≤ai (ws.getD 2 0):=fun h=>bh hin (by omega)
 have m0:0<ws.length→0≤ai (ws.getD 0 0)∧ai (ws.getD 0 0)≤255:=fun h=>aB (by have:=f0 h;omega) (f0 h).2
 have m1:1<ws.length→0≤ai (ws.getD 1 0)∧ai (ws.getD 1 0)≤255:=fun h=>aB (by have:=f1 h;omega) (f1 h).2
 have m2:2<ws.length→0≤ai (ws.getD 2 0)∧ai (ws.getD 2 0)≤255:=fun h=>aB (by have:=f2 h;omega) (f2 h).2
 refine ah.vc (V:=TT 2 (((0≤(0:Int)∧0<(2:Int))∧True)∧TT 1 (((0≤(1:Int)∧1<(2:Int))∧True)∧TT 6 ((True∧(!decide ((G'.length:Int)=2))=false)∧TT 6 ((!decide ((xs.length:Int)=(ws.length:Int)))=false∧TT 3 (IX 0 G'.length∧TT 2 (IX 1 G'.length∧TT 2 (CC (KE op ws (G'.getD 0 0) (G'.getD 1 0))∧TT 6 (GO (mM op ws xs G') 0 (∀i,(mM op ws xs G').inv i→TT 4 (CD ((i:Int)<(xs.length:Int)) (TT 2 (IX (i:Int) xs.length∧TT 2 ((True∧(decide ((xs.getD i 0)<0))=false)∧TT 2 (IX (i:Int) xs.length∧TT 3 (IX (i:Int) ws.length∧TT 1 (CC (Eg (ws.getD i 0))∧TT 2 ((decide ((xs.getD i 0)>(ai (ws.getD i 0))))=false∧TT 1 (W6 ((i+1:Nat):Int)∧TT 1 (AG (mM op ws xs G') i (i+1)))))))))) (TT 3 (CD (op=1) (TT 1 (IX 0 G'.length∧TT 4 ((((G'.getD 0 0)=(cT op ws xs G')∧(0:Int)=0∧True))∧((True∧True∧True))))) (TT 2 (CD (op=12) (TT 1 (IX 0 xs.length∧TT 2 (IX 0 G'.length∧TT 1 ((True∧(IntKind.wrap .u64 (G'.getD 0 0))=(G'.getD 0 0))∧(0≤(G'.getD 0 0)∧(Int.fdiv (xs.getD 0 0) (2^min ((G'.getD 0 0).toNat) 64))=(xs.getD 0 0 / 2^(G'.getD 0 0).toNat))∧TT 1 (IX 1 G'.length∧TT 1 (CC (Eg (G'.getD 1 0))∧(True∧(IntKind.wrap .i64 (BitVec.ofInt (IntKind.i64).bits (xs.getD 0 0 / 2^(G'.getD 0 0).toNat) &&& BitVec.ofInt (IntKind.i64).bits (ai (G'.getD 1 0))).toNat)=((xs.getD 0 0 / 2^(G'.getD 0 0).toNat)%2^(G'.getD 1 0).toNat))∧TT 3 (((((xs.getD 0 0 / 2^(G'.getD 0 0).toNat)%2^(G'.getD 1 0).toNat)=(cT op ws xs G')∧(0:Int)=0∧True))∧((True∧True∧True))))))))) (TT 2 (CD (op=13) (TT 1 (IX 0 xs.length∧TT 4 ((((xs.getD 0 0)=(cT op ws xs G')∧(0:Int)=0∧True))∧((True∧True∧True))))) (TT 2 (CD (op=11) (TT 2 (IX 0 ws.length∧TT 2 (IX 1 ws.length∧TT 3 (CC (KF op ws xs (G'.getD 0 0) (G'.getD 1 0) (ws.getD 1 0))∧TT 3 ((((jB op ws xs (G'.getD 0 0) (G'.getD 1 0))=(cT op ws xs G')∧(0:Int)=0∧True))∧((True∧True∧True))))))) (TT 2 (IX 0 ws.length∧TT 3 (CC (KF op ws xs (G'.getD 0 0) (G'.getD 1 0) 0)∧TT 3 ((((jB op ws xs (G'.getD 0 0) (G'.getD 1 0))=(cT op ws xs G')∧(0:Int)=0∧True))∧((True∧True∧True))))))))))))))))))))))))) (.w 2 [(3,.val (dB false))]<|.u 24 (.w 4 [(9,(KE op ws (G'.getD 0 0) (G'.getD 1 0)).O)]<|.l (mM op ws xs G') 0 (fun i=>.b 43 (.w 10 [(5,.val (dB false)),(14,(Eg (ws.getD i 0)).O)]<|.u 62 (.w 9 [(1,.val (i6 ((i+1:Nat):Int)))]<|.e)) (.b 65 (.e) (.b 71 (.w 16 [(6,.val (dI .u64 (G'.getD 0 0))),(7,.val (i6 (xs.getD 0 0 / 2^(G'.getD 0 0).toNat))),(11,(Eg (G'.getD 1 0)).O),(12,.val (i6 ((xs.getD 0 0 / 2^(G'.getD 0 0).toNat)%2^(G'.getD 1 0).toNat)))]<|.e) (.b 87 (.e) (.b 93 (.w 20 [(9,(KF op ws xs (G'.getD 0 0) (G'.getD 1 0) (ws.getD 1 0)).O)]<|.e) (.w 21 [(6,(KF op ws xs (G'.getD 0 0) (G'.getD 1 0) 0).O)]<|.e)))))))) Tryz.func104 rfl rfl rfl (by kernel_rfl) ?_
 refine tt ⟨⟨by omega,oK⟩,tt ⟨⟨by omega,oK⟩,tt ⟨(nF (by omega)),tt ⟨(Rx (by omega)),tt ⟨ix,tt ⟨ix,tt ⟨(w7 op ws (G'.getD 0 0) (G'.getD 1 0) h),tt ⟨rfl,(by omega),?_⟩⟩⟩⟩⟩⟩⟩⟩
 intro i F'
 have hi:=F'
 refine tt (cd (fun W5=>?_) (fun W5=>?_))
 · refine tt ⟨ix,tt ⟨(vF (by have:=bh hin (i:=i) (by omega);omega)),tt ⟨ix,tt ⟨ix,tt ⟨(jT (ws.getD i 0)),tt ⟨(Uy (by have:=bh hin (i:=i) (by omega);omega)),tt ⟨w6,tt ⟨(i+1),rfl,(?_:(i+1)≤xs.length),(?_:xs.length-(i+1)<xs.length-i)⟩⟩⟩⟩⟩⟩⟩⟩
   · omega
   · omega
 · refine tt (cd (fun XU=>?_) (fun XU=>?_))
   · refine tt ⟨ix,tt ⟨⟨?_,rfl,oK⟩,⟨oK,oK,oK⟩⟩⟩
     rw[(d4 hn hx h hin).1,XU];rfl
   · refine tt (cd (fun WK=>?_) (fun WK=>?_))
     · have Yr:(ws.length:Int)=1:=by rw[WK]at hl;exact hl
       have b0:=f0 (by omega)
       have c0:=a0 (by omega)
       have d0:=m0 (by omega)
       have hsk:=zK (by rw[WK]at h;exact h)
       have hwf:=aQ.1 hsk.2.2
       refine tt ⟨ix,tt ⟨ix,tt ⟨⟨oK,(G3 rfl (by omega) (by omega))⟩,⟨⟨(by omega),(zI hsk.1 (by omega))⟩,tt ⟨ix,tt ⟨(jT (G'.getD 1 0)),⟨⟨oK,(by rw[da (by omega) (by omega)];exact ir (by omega))⟩,tt ⟨⟨?_,rfl,oK⟩,⟨oK,oK,oK⟩⟩⟩⟩⟩⟩⟩⟩⟩
       rw[(d4 hn hx h hin).1,WK];rfl
     · refine tt (cd (fun X6=>?_) (fun X6=>?_))
       · have Yr:(ws.length:Int)=1:=by rw[X6]at hl;exact hl
         have b0:=f0 (by omega)
         have c0:=a0 (by omega)
         have d0:=m0 (by omega)
         refine tt ⟨ix,tt ⟨⟨?_,rfl,oK⟩,⟨oK,oK,oK⟩⟩⟩
         rw[(d4 hn hx h hin).1,X6];rfl
       · refine tt (cd (fun YZ=>?_) (fun YZ=>?_))
         · have Yr:(ws.length:Int)=2:=by rw[YZ]at hl;exact hl
           have b0:=f0 (by omega)
           have c0:=a0 (by omega)
           have d0:=m0 (by omega)
           have b1:=f1 (by omega)
           have c1:=a1 (by omega)
           have d1:=m1 (by omega)
           refine tt ⟨ix,tt ⟨ix,tt ⟨(Cx op ws xs (G'.getD 0 0) (G'.getD 1 0) (ws.getD 1 0) h hx hin om om),tt ⟨⟨?_,rfl,oK⟩,⟨oK,oK,oK⟩⟩⟩⟩⟩
           exact(d4 hn hx h hin).1.symm
         · have Yr:1≤ws.length:=by
             have h2:1≤bw op:=by rcases hr with rfl | rfl | rfl | rfl | rfl | rfl | rfl | rfl | rfl | rfl | rfl | rfl | rfl<;>first | omega | decide
             omega
           refine tt ⟨ix,tt ⟨(Cx op ws xs (G'.getD 0 0) (G'.getD 1 0) 0 h hx hin om om),tt ⟨⟨?_,rfl,oK⟩,⟨oK,oK,oK⟩⟩⟩⟩
           exact(d4 hn hx h hin).1.symm
end Go.Proofs.YtnlmlkbaflmgcaaGreat
