/- Parts of a proof. -/
import Derived.Test.YtnlmlkbaflmgcaaQPrD
namespace Go.Proofs.Ytnlmlkbaflmgcaa
open Go.RowKit
set_option linter.unusedVariables false
set_option linter.unusedSimpArgs false
abbrev oc (c:Ci):List D:=[(dL 6 bp ac c.U),(dL 5 bP aF c.J)]
abbrev pS (s:Ns):List D:=[(dL 2 bo a8 s.U),(dL 1 af [] s.J)]
set_option maxRecDepth 100000
abbrev IV (l:List Int) (w:Int):Ct:=⟨43,[(LI l),(i6 w)],false,(dB (fx l w))⟩
abbrev kL (l:List Int) (w:Int):Lp (Nat):=iC [0,1,5] 0 (fun (i:Nat)=>⟨[(0,(LI l)),(1,(i6 w)),(5,(i6 (i:Int)))],[]⟩) (fun (i:Nat)=>i≤l.length∧∀z,z<i→fg (l.getD z 0) w=true) (fun (i:Nat)=>l.length-i)
theorem kM (l:List Int) (w:Int) (hl:l.length≤9223372036854775807):CC (IV l w):=by
 refine aq.vc (V:=TT 2 (GO (kL l w) 0 (∀i,(kL l w).inv i→TT 4 (CD ((i:Int)<(l.length:Int)) (CS ((l.getD i 0)<0) (TT 2 (IX (i:Int) l.length∧TT 2 ((True∧(decide ((l.getD i 0)<0))=true)∧TT 3 (false=(fx l w)∧True)))) (TT 2 (IX (i:Int) l.length∧TT 2 ((True∧(decide ((l.getD i 0)<0))=false)∧TT 2 (IX (i:Int) l.length∧TT 2 (CC (AO w)∧TT 2 (CD ((l.getD i 0)>(aE w)) (TT 2 (false=(fx l w)∧True)) (TT 1 (W6 ((i+1:Nat):Int)∧TT 1 (AG (kL l w) i (i+1))))))))))) (TT 2 (true=(fx l w)∧True)))))) (.l (kL l w) 0 (fun i=>.b 9 (.s 4 ((l.getD i 0)<0) (.w 4 [(5,.val (dB true))]<|.e) (.w 4 [(5,.val (dB false)),(11,(AO w).O)]<|.b 25 (.e) (.w 3 [(1,.val (i6 ((i+1:Nat):Int)))]<|.e))) (.e))) Try.func43 rfl rfl rfl (by kernel_rfl) ?_
 refine tt ⟨rfl,⟨by omega,fun z hz=>by omega⟩,?_⟩
 intro i F'
 obtain⟨hi,h3⟩:=F'
 refine tt (cd (fun WS=>?_) (fun WS=>?_))
 · refine⟨fun Ru=>?_,fun Ru=>?_⟩
   · refine tt ⟨ix,tt ⟨(vT Ru),tt ⟨?_,oK⟩⟩⟩
     first | exact(mD (i:=i) (by omega) (w9 Ru)).symm | exact(mD (i:=i) (by omega) (xa Sl)).symm | exact(tK (fun z hz=>h3 z (by omega))).symm
   · refine tt ⟨ix,tt ⟨(vF Ru),tt ⟨ix,tt ⟨(i5 w),tt (cd (fun Sl=>?_) (fun Sl=>?_))⟩⟩⟩⟩
     · refine tt ⟨?_,oK⟩
       first | exact(mD (i:=i) (by omega) (w9 Ru)).symm | exact(mD (i:=i) (by omega) (xa Sl)).symm | exact(tK (fun z hz=>h3 z (by omega))).symm
     · refine tt ⟨w6,tt ⟨(i+1),rfl,?_,(?_:l.length-(i+1)<l.length-i)⟩⟩
       · exact⟨by omega,bh h3 (Ia Ru Sl)⟩
       · omega
 · refine tt ⟨?_,oK⟩
   first | exact(mD (i:=i) (by omega) (w9 Ru)).symm | exact(mD (i:=i) (by omega) (xa Sl)).symm | exact(tK (fun z hz=>h3 z (by omega))).symm
abbrev N4 (c:Ci) (s:Ns):Ct:=⟨19,[(.agg (oc c)),(.agg (pS s))],false,(dB (b6 c s))⟩
abbrev kN (c:Ci) (s:Ns):Lp (Nat):=iC [2,3,5] 2 (fun (i:Nat)=>⟨[(2,(.ptr 0 0 0 0)),(3,(.ptr 1 0 0 0)),(5,(i6 (i:Int)))],[(.var 31 (oc c)),(.var 35 (pS s))]⟩) (fun (i:Nat)=>i≤c.U.length∧∀z,z<i→bK (aZ c z) (nz s z)=true) (fun (i:Nat)=>c.U.length-i)
abbrev f9 (c:Ci) (s:Ns):Lp (Nat):=iC [2,3,6] 2 (fun (n:Nat)=>⟨[(2,(.ptr 0 0 0 0)),(3,(.ptr 1 0 0 0)),(6,(i6 (n:Int)))],[(.var 31 (oc c)),(.var 35 (pS s))]⟩) (fun (n:Nat)=>n≤c.J.length∧∀z,z<n→iM c s z=true) (fun (n:Nat)=>c.J.length-n)
theorem AR (c:Ci) (s:Ns) (hc:bQ c) (WW:rH s 9223372036854775807):CC (N4 c s):=by
 have Sh:=hc.nl
 have hcl:=hc.cl
 refine aq.vc (V:=TT 3 (CS ((s.U.length:Int)=(c.U.length:Int)) (TT 7 ((True∧(!decide ((s.U.length:Int)=(c.U.length:Int)))=false)∧TT 8 (CN ((s.J.length:Int)=(c.J.length:Int)) (TT 2 (false=(b6 c s)∧True)) (TT 1 (GO (kN c s) 0 (∀i,(kN c s).inv i→TT 5 (CD ((i:Int)<(c.U.length:Int)) (TT 3 (IX (i:Int) c.U.length∧TT 4 (IX (i:Int) s.U.length∧TT 1 (CC (N0 (c.U.getD i ac) (s.U.getD i a8))∧TT 1 (CB (!(bK (c.U.getD i ac) (s.U.getD i a8))) (TT 2 (false=(b6 c s)∧True)) (TT 1 (W6 ((i+1:Nat):Int)∧TT 1 (AG (kN c s) i (i+1))))))))) (TT 1 (GO (f9 c s) 0 (∀n,(f9 c s).inv n→TT 5 (CD ((n:Int)<(c.J.length:Int)) (TT 3 (IX (n:Int) c.J.length∧TT 3 (CS ((fx (s.J.getD n []) ((c.J.getD n aF).w))=true) (CS (((c.J.getD n aF).frm)≥0) (CS (((c.J.getD n aF).dst)≥0) (TT 3 (IX (n:Int) s.J.length∧TT 3 (CC (IV (s.J.getD n []) ((c.J.getD n aF).w))∧TT 1 ((True∧(!(fx (s.J.getD n []) ((c.J.getD n aF).w)))=false)∧TT 3 ((True∧(decide (((c.J.getD n aF).frm)≥0))=true)∧TT 4 ((True∧(decide (((c.J.getD n aF).dst)≥0))=true)∧TT 3 (IX (n:Int) s.J.length∧TT 7 (CD ((((s.J.getD n []).length:Nat):Int)>((c.J.getD n aF).cap)) (TT 2 (false=(b6 c s)∧True)) (TT 1 (W6 ((n+1:Nat):Int)∧TT 1 (AG (f9 c s) n (n+1)))))))))))) (TT 3 (IX (n:Int) s.J.length∧TT 3 (CC (IV (s.J.getD n []) ((c.J.getD n aF).w))∧TT 1 ((True∧(!(fx (s.J.getD n []) ((c.J.getD n aF).w)))=false)∧TT 3 ((True∧(decide (((c.J.getD n aF).frm)≥0))=true)∧TT 4 ((True∧(decide (((c.J.getD n aF).dst)≥0))=false)∧TT 3 (W6 ((n+1:Nat):Int)∧TT 1 (AG (f9 c s) n (n+1)))))))))) (TT 3 (IX (n:Int) s.J.length∧TT 3 (CC (IV (s.J.getD n []) ((c.J.getD n aF).w))∧TT 1 ((True∧(!(fx (s.J.getD n []) ((c.J.getD n aF).w)))=false)∧TT 3 ((True∧(decide (((c.J.getD n aF).frm)≥0))=false)∧TT 5 (W6 ((n+1:Nat):Int)∧TT 1 (AG (f9 c s) n (n+1))))))))) (TT 3 (IX (n:Int) s.J.length∧TT 3 (CC (IV (s.J.getD n []) ((c.J.getD n aF).w))∧TT 1 ((True∧(!(fx (s.J.getD n []) ((c.J.getD n aF).w)))=true)∧TT 3 (false=(b6 c s)∧True)))))))) (TT 2 (true=(b6 c s)∧True))))))))))))) (TT 7 ((True∧(!decide ((s.U.length:Int)=(c.U.length:Int)))=true)∧TT 10 (false=(b6 c s)∧True))))) (.s 1 ((s.U.length:Int)=(c.U.length:Int)) (.w 1 [(7,.val (dB false))]<|.b 23 (.e) (.l (kN c s) 0 (fun i=>.b 28 (.w 6 [(10,(N0 (c.U.getD i ac) (s.U.getD i a8)).O)]<|.b 42 (.e) (.w 5 [(1,.val (i6 ((i+1:Nat):Int)))]<|.e)) (.l (f9 c s) 0 (fun n=>.b 47 (.s 12 ((fx (s.J.getD n []) ((c.J.getD n aF).w))=true) (.s 12 (((c.J.getD n aF).frm)≥0) (.s 12 (((c.J.getD n aF).dst)≥0) (.w 12 [(7,(IV (s.J.getD n []) ((c.J.getD n aF).w)).O),(9,.val (dB false)),(13,.val (dB true)),(18,.val (dB true))]<|.b 84 (.e) (.w 10 [(1,.val (i6 ((n+1:Nat):Int)))]<|.e)) (.w 12 [(7,(IV (s.J.getD n []) ((c.J.getD n aF).w)).O),(9,.val (dB false)),(13,.val (dB true)),(18,.val (dB false))]<|.w 10 [(1,.val (i6 ((n+1:Nat):Int)))]<|.e)) (.w 12 [(7,(IV (s.J.getD n []) ((c.J.getD n aF).w)).O),(9,.val (dB false)),(13,.val (dB false))]<|.w 10 [(1,.val (i6 ((n+1:Nat):Int)))]<|.e)) (.w 12 [(7,(IV (s.J.getD n []) ((c.J.getD n aF).w)).O),(9,.val (dB true))]<|.e)) (.e)))))) (.w 1 [(7,.val (dB true))]<|.e)) Try.func19 rfl rfl rfl (by kernel_rfl) ?_
 refine tt ⟨fun Ru=>?_,fun Ru=>?_⟩
 · refine tt ⟨(nF Ru),tt (cn (fun Wl=>?_) (fun Wl=>?_))⟩
   · refine tt ⟨?_,oK⟩
     first | exact(qA (by omega)).symm | exact(qB (by omega)).symm | exact(qC (i:=i) (by omega) (by simpa using R8)).symm | exact(gO (n:=n) (by omega) (jM (by assumption))).symm | exact(gO (n:=n) (by omega) (jN (by show 0≤(c.J.getD n aF).frm;omega) (by show 0≤(c.J.getD n aF).dst;omega) (by show ¬((s.J.getD n []).length:Int)≤(c.J.getD n aF).cap;omega))).symm | exact(qD (by omega) (by omega) (fun z hz=>h3 z (by omega)) (fun z hz=>h4 z (by omega))).symm
   · refine tt ⟨rfl,⟨by omega,fun z hz=>by omega⟩,?_⟩
     intro i F'
     obtain⟨hi,h3⟩:=F'
     refine tt (cd (fun SL=>?_) (fun SL=>?_))
     · have Vv:=hc.pr i (by omega)
       refine tt ⟨ix,tt ⟨ix,tt ⟨(D9 (c.U.getD i ac) (s.U.getD i a8) Vv),tt ⟨fun R8=>?_,fun R8=>?_⟩⟩⟩⟩
       · refine tt ⟨?_,oK⟩
         first | exact(qA (by omega)).symm | exact(qB (by omega)).symm | exact(qC (i:=i) (by omega) (by simpa using R8)).symm | exact(gO (n:=n) (by omega) (jM (by assumption))).symm | exact(gO (n:=n) (by omega) (jN (by show 0≤(c.J.getD n aF).frm;omega) (by show 0≤(c.J.getD n aF).dst;omega) (by show ¬((s.J.getD n []).length:Int)≤(c.J.getD n aF).cap;omega))).symm | exact(qD (by omega) (by omega) (fun z hz=>h3 z (by omega)) (fun z hz=>h4 z (by omega))).symm
       · refine tt ⟨w6,tt ⟨(i+1),rfl,?_,(?_:c.U.length-(i+1)<c.U.length-i)⟩⟩
         · exact⟨by omega,bh h3 (by simpa using R8)⟩
         · omega
     · refine tt ⟨rfl,⟨by omega,fun z hz=>by omega⟩,?_⟩
       intro n F'
       obtain⟨hn,h4⟩:=F'
       refine tt (cd (fun hc47=>?_) (fun hc47=>?_))
       · refine tt ⟨ix,tt ?_⟩
         have hlw:(s.J.getD n []).length≤9223372036854775807:=WW n
         refine⟨fun RQ=>?_,fun RQ=>?_⟩
         · refine⟨fun SZ=>?_,fun SZ=>?_⟩
           · refine⟨fun T9=>?_,fun T9=>?_⟩
             · refine tt ⟨ix,tt ⟨(kM (s.J.getD n []) ((c.J.getD n aF).w) hlw),tt ⟨(mF RQ),tt ⟨(vT SZ),tt ⟨(vT T9),tt ⟨ix,tt (cd (fun hc84=>?_) (fun hc84=>?_))⟩⟩⟩⟩⟩⟩
               · refine tt ⟨?_,oK⟩
                 first | exact(qA (by omega)).symm | exact(qB (by omega)).symm | exact(qC (i:=i) (by omega) (by simpa using R8)).symm | exact(gO (n:=n) (by omega) (jM (by assumption))).symm | exact(gO (n:=n) (by omega) (jN (by show 0≤(c.J.getD n aF).frm;omega) (by show 0≤(c.J.getD n aF).dst;omega) (by show ¬((s.J.getD n []).length:Int)≤(c.J.getD n aF).cap;omega))).symm | exact(qD (by omega) (by omega) (fun z hz=>h3 z (by omega)) (fun z hz=>h4 z (by omega))).symm
               · refine tt ⟨w6,tt ⟨(n+1),rfl,?_,(?_:c.J.length-(n+1)<c.J.length-n)⟩⟩
                 · refine⟨by omega,bh h4 ?_⟩
                   first | exact Ao (by assumption) (by show ¬0≤(c.J.getD n aF).frm;omega) | exact Ap (by assumption) (by show ¬0≤(c.J.getD n aF).dst;omega) | exact Aq (by assumption) (by show((s.J.getD n []).length:Int)≤(c.J.getD n aF).cap;omega)
                 · omega
             · refine tt ⟨ix,tt ⟨(kM (s.J.getD n []) ((c.J.getD n aF).w) hlw),tt ⟨(mF RQ),tt ⟨(vT SZ),tt ⟨(vF T9),tt ⟨w6,tt ⟨(n+1),rfl,?_,(?_:c.J.length-(n+1)<c.J.length-n)⟩⟩⟩⟩⟩⟩⟩
               · refine⟨by omega,bh h4 ?_⟩
                 first | exact Ao (by assumption) (by show ¬0≤(c.J.getD n aF).frm;omega) | exact Ap (by assumption) (by show ¬0≤(c.J.getD n aF).dst;omega) | exact Aq (by assumption) (by show((s.J.getD n []).length:Int)≤(c.J.getD n aF).cap;omega)
               · omega
           · refine tt ⟨ix,tt ⟨(kM (s.J.getD n []) ((c.J.getD n aF).w) hlw),tt ⟨(mF RQ),tt ⟨(vF SZ),tt ⟨w6,tt ⟨(n+1),rfl,?_,(?_:c.J.length-(n+1)<c.J.length-n)⟩⟩⟩⟩⟩⟩
             · refine⟨by omega,bh h4 ?_⟩
               first | exact Ao (by assumption) (by show ¬0≤(c.J.getD n aF).frm;omega) | exact Ap (by assumption) (by show ¬0≤(c.J.getD n aF).dst;omega) | exact Aq (by assumption) (by show((s.J.getD n []).length:Int)≤(c.J.getD n aF).cap;omega)
             · omega
         · refine tt ⟨ix,tt ⟨(kM (s.J.getD n []) ((c.J.getD n aF).w) hlw),tt ⟨(mT RQ),tt ⟨?_,oK⟩⟩⟩⟩
           first | exact(qA (by omega)).symm | exact(qB (by omega)).symm | exact(qC (i:=i) (by omega) (by simpa using R8)).symm | exact(gO (n:=n) (by omega) (jM (by assumption))).symm | exact(gO (n:=n) (by omega) (jN (by show 0≤(c.J.getD n aF).frm;omega) (by show 0≤(c.J.getD n aF).dst;omega) (by show ¬((s.J.getD n []).length:Int)≤(c.J.getD n aF).cap;omega))).symm | exact(qD (by omega) (by omega) (fun z hz=>h3 z (by omega)) (fun z hz=>h4 z (by omega))).symm
       · refine tt ⟨?_,oK⟩
         first | exact(qA (by omega)).symm | exact(qB (by omega)).symm | exact(qC (i:=i) (by omega) (by simpa using R8)).symm | exact(gO (n:=n) (by omega) (jM (by assumption))).symm | exact(gO (n:=n) (by omega) (jN (by show 0≤(c.J.getD n aF).frm;omega) (by show 0≤(c.J.getD n aF).dst;omega) (by show ¬((s.J.getD n []).length:Int)≤(c.J.getD n aF).cap;omega))).symm | exact(qD (by omega) (by omega) (fun z hz=>h3 z (by omega)) (fun z hz=>h4 z (by omega))).symm
 · refine tt ⟨(nT Ru),tt ⟨?_,oK⟩⟩
   first | exact(qA (by omega)).symm | exact(qB (by omega)).symm | exact(qC (i:=i) (by omega) (by simpa using R8)).symm | exact(gO (n:=n) (by omega) (jM (by assumption))).symm | exact(gO (n:=n) (by omega) (jN (by show 0≤(c.J.getD n aF).frm;omega) (by show 0≤(c.J.getD n aF).dst;omega) (by show ¬((s.J.getD n []).length:Int)≤(c.J.getD n aF).cap;omega))).symm | exact(qD (by omega) (by omega) (fun z hz=>h3 z (by omega)) (fun z hz=>h4 z (by omega))).symm
abbrev N5 (c:Ci):Ct:=⟨51,[(.agg (oc c))],true,(.agg [(dL 2 bo a8 ((d4 c).U)),(dL 1 af [] ((d4 c).J))])⟩
abbrev mW (c:Ci):Lp (Nat):=iC [1,2,3,4] 5 (fun (i:Nat)=>⟨[(1,(.ptr 0 0 0 0)),(2,(.ptr 1 0 0 0)),(3,(.ptr 3 0 0 0)),(4,(i6 (i:Int)))],[(.var 31 (oc c)),(.var 35 [.nils,.nils]),(.arr 54 1 af [] (List.replicate c.J.length ([]:List Int))),(.var 35 [(.own 4),(.own 2)]),(.arr 74 2 bo a8 (tab (fun i=>bx (aZ c i)) i))]⟩) (fun (i:Nat)=>i≤c.U.length) (fun (i:Nat)=>c.U.length-i)
theorem Ed (c:Ci) (hc:bQ c):CC (N5 c):=by
 have Sh:=hc.nl
 have hcl:=hc.cl
 refine aq.vc (V:=TT 5 ((((0:Int)≤(c.J.length:Int)∧(c.J.length:Int)≤(c.J.length:Int)∧(c.J.length:Int)≤137438953472)∧(List.replicate c.J.length ([]:List Int)).length=c.J.length∧∀x∈(List.replicate c.J.length ([]:List Int)),dV [.nils] (af x))∧TT 4 (GO (mW c) 0 (∀i,(mW c).inv i→TT 5 (CD ((i:Int)<(c.U.length:Int)) (TT 5 (IX (i:Int) c.U.length∧TT 1 (CC (N1 (c.U.getD i ac))∧an [[(LI ((bx (c.U.getD i ac)).Pe)),(dL 1 af [] ((bx (c.U.getD i ac)).Pd))]] ([(⟨(bx (c.U.getD i ac)).Pe,(bx (c.U.getD i ac)).Pd⟩:Ps)].map bo)∧((tab (fun i=>bx (aZ c i)) i).length+([(⟨(bx (c.U.getD i ac)).Pe,(bx (c.U.getD i ac)).Pd⟩:Ps)].map bo).length≤137438953472∧(tab (fun i=>bx (aZ c i)) i).map bo++[(⟨(bx (c.U.getD i ac)).Pe,(bx (c.U.getD i ac)).Pd⟩:Ps)].map bo=(tab (fun i=>bx (aZ c i)) (i+1)).map bo)∧TT 3 (W6 ((i+1:Nat):Int)∧TT 1 (AG (mW c) i (i+1)))))) (TT 3 ((tab (fun i=>bx (aZ c i)) i).map bo=((d4 c).U).map bo∧(List.replicate c.J.length ([]:List Int)).map af=((d4 c).J).map af∧True))))))) (.w 1 [(3,.box 54 1 af [] (List.replicate c.J.length ([]:List Int)))]<|.g 2 3 0 74 2 bo a8<|.l (mW c) 0 (fun i=>.b 14 (.w 5 [(7,(N1 (c.U.getD i ac)).O),(8,.box 74 2 bo a8 [(⟨(bx (c.U.getD i ac)).Pe,(bx (c.U.getD i ac)).Pd⟩:Ps)]),(9,.box 74 2 bo a8 (tab (fun i=>bx (aZ c i)) (i+1)))]<|.w 4 [(1,.val (i6 ((i+1:Nat):Int)))]<|.e) (.e))) Try.func51 rfl rfl rfl (by kernel_rfl) ?_
 refine tt ⟨⟨by omega,by simp,fun x hx=>by rw[PW hx];exact⟨rfl,oK⟩⟩,tt ⟨rfl,(by omega),?_⟩⟩
 intro i F'
 have hi:=F'
 refine tt (cd (fun U1=>?_) (fun U1=>?_))
 · have Vv:=hc.pr i (by omega)
   refine tt ⟨ix,tt ⟨(Ea (c.U.getD i ac) Vv),⟨⟨⟨rfl,rfl,oK⟩,oK⟩,⟨(pG (f:=fun i=>bx (aZ c i)) (by omega)),tt ⟨w6,tt ⟨(i+1),rfl,(?_:(i+1)≤c.U.length),(?_:c.U.length-(i+1)<c.U.length-i)⟩⟩⟩⟩⟩⟩
   · omega
   · omega
 · refine tt ⟨(congrArg _ (?_:(tab (fun i=>bx (aZ c i)) i)=((d4 c).U))),(congrArg _ (?_:(List.replicate c.J.length ([]:List Int))=((d4 c).J))),oK⟩
   · rw[show i=c.U.length by omega];rfl
   · rfl
abbrev N6 (s:Ns) (n:Int) (l:List Int):Ct:=⟨55,[(.agg (pS s)),(i6 n),(LI l)],true,(.agg [(dL 2 bo a8 ((gW s n.toNat l).U)),(dL 1 af [] ((gW s n.toNat l).J))])⟩
theorem IW (s:Ns) (n:Int) (l:List Int) (h1:0≤n) (h2:n<s.J.length) (h3:s.J.length≤1000000):CC (N6 s n l):=by
 refine aq.vc (V:=TT 4 (an [] (([]:List (List Int)).map af)∧TT 2 ((([]:List (List Int)).length+(s.J.map af).length≤137438953472∧([]:List (List Int)).map af++s.J.map af=s.J.map af)∧TT 7 (IX n s.J.length∧(n.toNat<s.J.length∧(s.J.map af).set n.toNat ((af (s.J.getD n.toNat [])).take 0++[(.sl 1 (aa .i64) 0 l)]++(af (s.J.getD n.toNat [])).drop (0+1))=(s.J.set n.toNat l).map af)∧TT 3 (s.U.map bo=((gW s n.toNat l).U).map bo∧(s.J.set n.toNat l).map af=((gW s n.toNat l).J).map af∧True))))) (.w 1 [(2,.app false 54 1 af [] ([]:List (List Int))),(5,.app false 54 1 af [] s.J)]<|.w 2 [(5,.box 54 1 af [] (s.J.set n.toNat l))]<|.e) Try.func55 rfl rfl rfl (by kernel_rfl) ?_
 refine tt ⟨oK,tt ⟨⟨by simp only[Py,P8,PP,PG,PQ,PD];first | omega | (simp;first | done | omega),by simp only[P9,QJ,Qk,QS]⟩,tt ⟨ix,⟨⟨om,by simp only[P0];rfl⟩,tt ⟨(congrArg _ (?_:s.U=((gW s n.toNat l).U))),(congrArg _ (?_:(s.J.set n.toNat l)=((gW s n.toNat l).J))),oK⟩⟩⟩⟩⟩
 all_goals (rfl)
abbrev N7 (c:Ci) (s:Ns) (p:Nat):Ct:=⟨99,[(.agg (oc c)),(.agg (pS s)),(i6 (p:Int))],true,(.agg [(dL 2 iH cQ (cR c s p)),(LB (db c s p))])⟩
abbrev l7 (c:Ci) (s:Ns) (p:Nat):Lp (Nat):=iC [2,3,4,6,7,8] 5 (fun (i:Nat)=>⟨[(2,(i6 (p:Int))),(3,(.ptr 0 0 0 0)),(4,(.ptr 1 0 0 0)),(6,(.ptr 2 0 0 0)),(7,(.ptr 3 0 0 0)),(8,(i6 (i:Int)))],[(.var 31 (oc c)),(.var 35 (pS s)),(.var 176 [.nils,.nils]),(.var 176 [(.own 4),.nils]),(.arr 170 2 iH cQ (tab (iO c s p) i))]⟩) (fun (i:Nat)=>i≤(c.U.getD p ac).I.length) (fun (i:Nat)=>(c.U.getD p ac).I.length-i)
abbrev l8 (c:Ci) (s:Ns) (p:Nat) (i:Nat):Lp (Nat):=iC [2,3,4,6,7,11] 6 (fun (m:Nat)=>⟨[(2,(i6 (p:Int))),(3,(.ptr 0 0 0 0)),(4,(.ptr 1 0 0 0)),(6,(.ptr 2 0 0 0)),(7,(.ptr 3 0 0 0)),(11,(i6 (m:Int)))],[(.var 31 (oc c)),(.var 35 (pS s)),(.var 176 [.nils,.nils]),(.var 176 [(.own 4),(.own 5)]),(.arr 170 2 iH cQ (tab (iO c s p) i)),(.arr 4 1 bR false (tab (gy c s p) m))]⟩) (fun (m:Nat)=>m≤(c.U.getD p ac).Pc.length) (fun (m:Nat)=>(c.U.getD p ac).Pc.length-m)
theorem GN (c:Ci) (s:Ns) (p:Nat) (hc:bQ c) (hs:dn c s) (hp:p<c.U.length):CC (N7 c s p):=by
 have Sh:=hc.nl
 have hcl:=hc.cl
 have Vv:hT (c.U.getD p ac):=hc.pr p hp
 have T4:=hs.pl
 have hl2:=hs.cl
 have ht1:(c.U.getD p ac).I.length≤100:=Vv.tl
 have ht2:(c.U.getD p ac).Pc.length≤100:=Vv.pl
 refine aq.vc (V:=TT 7 (GO (l7 c s p) 0 (∀i,(l7 c s p).inv i→TT 4 (IX (p:Int) c.U.length∧TT 4 (CD ((i:Int)<((((c.U.getD p ac).I).length:Nat):Int)) (TT 5 (IX (p:Int) c.U.length∧TT 3 (IX (i:Int) (((c.U.getD p ac).I).length)∧TT 2 (IX ((((c.U.getD p ac).I).getD i bV).chan) s.J.length∧TT 8 (CD ((((s.J.getD (((((c.U.getD p ac).I).getD i bV).chan).toNat) []).length:Nat):Int)>0) (TT 1 (IX 0 ((s.J.getD (((((c.U.getD p ac).I).getD i bV).chan).toNat) []).length)∧TT 6 (an [[(dB true),(i6 ((s.J.getD (((((c.U.getD p ac).I).getD i bV).chan).toNat) []).getD 0 0))]] ([(⟨true,((s.J.getD (((((c.U.getD p ac).I).getD i bV).chan).toNat) []).getD 0 0)⟩:Hd)].map iH)∧((tab (iO c s p) i).length+([(⟨true,((s.J.getD (((((c.U.getD p ac).I).getD i bV).chan).toNat) []).getD 0 0)⟩:Hd)].map iH).length≤137438953472∧(tab (iO c s p) i).map iH++[(⟨true,((s.J.getD (((((c.U.getD p ac).I).getD i bV).chan).toNat) []).getD 0 0)⟩:Hd)].map iH=(tab (iO c s p) (i+1)).map iH)∧TT 3 (W6 ((i+1:Nat):Int)∧TT 1 (AG (l7 c s p) i (i+1)))))) (TT 3 (an [[(dB false),(i6 0)]] ([(⟨false,0⟩:Hd)].map iH)∧((tab (iO c s p) i).length+([(⟨false,0⟩:Hd)].map iH).length≤137438953472∧(tab (iO c s p) i).map iH++[(⟨false,0⟩:Hd)].map iH=(tab (iO c s p) (i+1)).map iH)∧TT 3 (W6 ((i+1:Nat):Int)∧TT 1 (AG (l7 c s p) i (i+1)))))))))) (TT 1 (GO (l8 c s p i) 0 (∀m,(l8 c s p i).inv m→TT 4 (IX (p:Int) c.U.length∧TT 4 (CD ((m:Int)<((((c.U.getD p ac).Pc).length:Nat):Int)) (TT 3 (IX (p:Int) c.U.length∧TT 3 (IX (m:Int) (((c.U.getD p ac).Pc).length)∧TT 3 (CS (((c.J.getD (((((c.U.getD p ac).Pc).getD m b4).chan).toNat) aF).dst)=(-1)) (TT 5 (IX ((((c.U.getD p ac).Pc).getD m b4).chan) c.J.length∧TT 3 ((True∧(decide (((c.J.getD (((((c.U.getD p ac).Pc).getD m b4).chan).toNat) aF).dst)=(-1)))=true)∧TT 1 (an [[(dB true)]] ([true].map bR)∧((tab (gy c s p) m).length+([true].map bR).length≤137438953472∧(tab (gy c s p) m).map bR++[true].map bR=(tab (gy c s p) (m+1)).map bR)∧TT 3 (W6 ((m+1:Nat):Int)∧TT 1 (AG (l8 c s p i) m (m+1))))))) (TT 5 (IX ((((c.U.getD p ac).Pc).getD m b4).chan) c.J.length∧TT 3 ((True∧(decide (((c.J.getD (((((c.U.getD p ac).Pc).getD m b4).chan).toNat) aF).dst)=(-1)))=false)∧TT 3 (IX ((((c.U.getD p ac).Pc).getD m b4).chan) s.J.length∧TT 5 (IX ((((c.U.getD p ac).Pc).getD m b4).chan) c.J.length∧TT 4 (an [[(dB (decide ((((s.J.getD (((((c.U.getD p ac).Pc).getD m b4).chan).toNat) []).length:Nat):Int)<((c.J.getD (((((c.U.getD p ac).Pc).getD m b4).chan).toNat) aF).cap))))]] ([decide ((((s.J.getD (((((c.U.getD p ac).Pc).getD m b4).chan).toNat) []).length:Nat):Int)<((c.J.getD (((((c.U.getD p ac).Pc).getD m b4).chan).toNat) aF).cap))].map bR)∧((tab (gy c s p) m).length+([decide ((((s.J.getD (((((c.U.getD p ac).Pc).getD m b4).chan).toNat) []).length:Nat):Int)<((c.J.getD (((((c.U.getD p ac).Pc).getD m b4).chan).toNat) aF).cap))].map bR).length≤137438953472∧(tab (gy c s p) m).map bR++[decide ((((s.J.getD (((((c.U.getD p ac).Pc).getD m b4).chan).toNat) []).length:Nat):Int)<((c.J.getD (((((c.U.getD p ac).Pc).getD m b4).chan).toNat) aF).cap))].map bR=(tab (gy c s p) (m+1)).map bR)∧TT 3 (W6 ((m+1:Nat):Int)∧TT 1 (AG (l8 c s p i) m (m+1))))))))))))) (TT 3 ((tab (iO c s p) i).map iH=(cR c s p).map iH∧(tab (gy c s p) m).map bR=(db c s p).map bR∧True)))))))))))) (.g 2 3 0 170 2 iH cQ<|.l (l7 c s p) 0 (fun i=>.b 22 (.b 42 (.w 9 [(3,.box 170 2 iH cQ [(⟨true,((s.J.getD (((((c.U.getD p ac).I).getD i bV).chan).toNat) []).getD 0 0)⟩:Hd)]),(4,.box 170 2 iH cQ (tab (iO c s p) (i+1)))]<|.w 4 [(1,.val (i6 ((i+1:Nat):Int)))]<|.e) (.w 9 [(3,.box 170 2 iH cQ [(⟨false,0⟩:Hd)]),(4,.box 170 2 iH cQ (tab (iO c s p) (i+1)))]<|.w 4 [(1,.val (i6 ((i+1:Nat):Int)))]<|.e)) (.g 10 3 1 4 1 bR false<|.l (l8 c s p i) 0 (fun m=>.b 61 (.s 14 (((c.J.getD (((((c.U.getD p ac).Pc).getD m b4).chan).toNat) aF).dst)=(-1)) (.w 14 [(9,.val (dB true)),(24,.box 4 1 bR false [true]),(25,.box 4 1 bR false (tab (gy c s p) (m+1)))]<|.w 12 [(1,.val (i6 ((m+1:Nat):Int)))]<|.e) (.w 14 [(9,.val (dB false)),(24,.box 4 1 bR false [decide ((((s.J.getD (((((c.U.getD p ac).Pc).getD m b4).chan).toNat) []).length:Nat):Int)<((c.J.getD (((((c.U.getD p ac).Pc).getD m b4).chan).toNat) aF).cap))]),(25,.box 4 1 bR false (tab (gy c s p) (m+1)))]<|.w 12 [(1,.val (i6 ((m+1:Nat):Int)))]<|.e)) (.e))))) Try.func99 rfl rfl rfl (by kernel_rfl) ?_
 refine tt ⟨rfl,(by omega),?_⟩
 intro i F'
 have hi:=F'
 refine tt ⟨ix,tt (cd (fun TP=>?_) (fun TP=>?_))⟩
 · have Vy:0≤((c.U.getD p ac).I.getD i bV).chan∧((c.U.getD p ac).I.getD i bV).chan<c.J.length:=⟨(hc.tk p hp i (show i<(c.U.getD p ac).I.length by omega)).1,(hc.tk p hp i (show i<(c.U.getD p ac).I.length by omega)).2.1⟩
   refine tt ⟨ix,tt ⟨ix,tt ⟨ix,tt (cd (fun R8=>?_) (fun R8=>?_))⟩⟩⟩
   · refine tt ⟨ix,tt ⟨⟨⟨rfl,rfl,oK⟩,oK⟩,⟨(aY (by omega) (by first | exact(Pn (show 0<(s.J.getD ((c.U.getD p ac).I.getD i bV).chan.toNat []).length by omega)).symm | exact(Pj (show ¬0<(s.J.getD ((c.U.getD p ac).I.getD i bV).chan.toNat []).length by omega)).symm)),tt ⟨w6,tt ⟨(i+1),rfl,(?_:(i+1)≤(c.U.getD p ac).I.length),(?_:(c.U.getD p ac).I.length-(i+1)<(c.U.getD p ac).I.length-i)⟩⟩⟩⟩⟩
     · omega
     · omega
   · refine tt ⟨⟨⟨rfl,rfl,oK⟩,oK⟩,⟨(aY (by omega) (by first | exact(Pn (show 0<(s.J.getD ((c.U.getD p ac).I.getD i bV).chan.toNat []).length by omega)).symm | exact(Pj (show ¬0<(s.J.getD ((c.U.getD p ac).I.getD i bV).chan.toNat []).length by omega)).symm)),tt ⟨w6,tt ⟨(i+1),rfl,(?_:(i+1)≤(c.U.getD p ac).I.length),(?_:(c.U.getD p ac).I.length-(i+1)<(c.U.getD p ac).I.length-i)⟩⟩⟩⟩
     · omega
     · omega
 · refine tt ⟨rfl,(by omega),?_⟩
   intro m F'
   have hm:=F'
   refine tt ⟨ix,tt (cd (fun Wf=>?_) (fun Wf=>?_))⟩
   · have hpt:0≤((c.U.getD p ac).Pc.getD m b4).chan∧((c.U.getD p ac).Pc.getD m b4).chan<c.J.length:=⟨(hc.pt p hp m (show m<(c.U.getD p ac).Pc.length by omega)).1,(hc.pt p hp m (show m<(c.U.getD p ac).Pc.length by omega)).2.1⟩
     refine tt ⟨ix,tt ⟨ix,tt ⟨fun Ru=>?_,fun Ru=>?_⟩⟩⟩
     · refine tt ⟨ix,tt ⟨(vT Ru),tt ⟨⟨⟨rfl,oK⟩,oK⟩,⟨(aY (by omega) (by first | exact(FQ Ru).symm | exact(w3 Ru).symm | exact(w3 RQ).symm)),tt ⟨w6,tt ⟨(m+1),rfl,(?_:(m+1)≤(c.U.getD p ac).Pc.length),(?_:(c.U.getD p ac).Pc.length-(m+1)<(c.U.getD p ac).Pc.length-m)⟩⟩⟩⟩⟩⟩
       · omega
       · omega
     · refine tt ⟨ix,tt ⟨(vF Ru),tt ⟨ix,tt ⟨ix,tt ⟨⟨⟨rfl,oK⟩,oK⟩,⟨(aY (by omega) (by first | exact(FQ Ru).symm | exact(w3 Ru).symm | exact(w3 RQ).symm)),tt ⟨w6,tt ⟨(m+1),rfl,(?_:(m+1)≤(c.U.getD p ac).Pc.length),(?_:(c.U.getD p ac).Pc.length-(m+1)<(c.U.getD p ac).Pc.length-m)⟩⟩⟩⟩⟩⟩⟩⟩
       · omega
       · omega
   · refine tt ⟨(congrArg _ (?_:(tab (iO c s p) i)=(cR c s p))),(congrArg _ (?_:(tab (gy c s p) m)=(db c s p))),oK⟩
     · rw[show i=(c.U.getD p ac).I.length by omega];rfl
     · rw[show m=(c.U.getD p ac).Pc.length by omega];rfl
abbrev MD (c:Ci) (s:Ns) (p:Nat):Ct:=⟨92,[(.agg (oc c)),(.agg (pS s)),(i6 (p:Int))],true,(.agg [(dB ((aD c s p).fires)),(LI (((aD c s p).s).Pe)),(dL 1 af [] (((aD c s p).s).Pd)),(LB ((aD c s p).pops)),(dL 2 iH cQ ((aD c s p).Pc))])⟩
theorem vZ (c:Ci) (s:Ns) (p:Nat) (hc:bQ c) (hs:dn c s) (hp:p<c.U.length):CC (MD c s p):=by
 have Sh:=hc.nl
 have hcl:=hc.cl
 have Vv:hT (c.U.getD p ac):=hc.pr p hp
 have T4:=hs.pl
 have hl2:=hs.cl
 have ht1:(c.U.getD p ac).I.length≤100:=Vv.tl
 have ht2:(c.U.getD p ac).Pc.length≤100:=Vv.pl
 refine aq.vc (V:=TT 6 (IX (p:Int) c.U.length∧TT 4 (IX (p:Int) s.U.length∧TT 4 (CC (N7 c s p)∧CC (N2 (c.U.getD p ac) (s.U.getD p a8) (cR c s p) (db c s p))∧TT 2 (((bm (c.U.getD p ac) (s.U.getD p a8) (cR c s p) (db c s p)).fires)=((aD c s p).fires)∧(((bm (c.U.getD p ac) (s.U.getD p a8) (cR c s p) (db c s p)).s).Pe).map (aa .i64)=(((aD c s p).s).Pe).map (aa .i64)∧(((bm (c.U.getD p ac) (s.U.getD p a8) (cR c s p) (db c s p)).s).Pd).map af=(((aD c s p).s).Pd).map af∧((bm (c.U.getD p ac) (s.U.getD p a8) (cR c s p) (db c s p)).pops).map bR=((aD c s p).pops).map bR∧((bm (c.U.getD p ac) (s.U.getD p a8) (cR c s p) (db c s p)).Pc).map iH=((aD c s p).Pc).map iH∧True))))) (.w 1 [(13,(N7 c s p).O),(14,(N2 (c.U.getD p ac) (s.U.getD p a8) (cR c s p) (db c s p)).O)]<|.e) Try.func92 rfl rfl rfl (by kernel_rfl) ?_
 refine tt ⟨ix,tt ⟨ix,tt ⟨(GN c s p hc hs hp),⟨(Eb (c.U.getD p ac) (s.U.getD p a8) (cR c s p) (db c s p) Vv (hs.pv p hp) (tD hc hs hp) (by rw[db,aC])),tt ⟨?_,(congrArg _ (?_:(((bm (c.U.getD p ac) (s.U.getD p a8) (cR c s p) (db c s p)).s).Pe)=(((aD c s p).s).Pe))),(congrArg _ (?_:(((bm (c.U.getD p ac) (s.U.getD p a8) (cR c s p) (db c s p)).s).Pd)=(((aD c s p).s).Pd))),(congrArg _ (?_:((bm (c.U.getD p ac) (s.U.getD p a8) (cR c s p) (db c s p)).pops)=((aD c s p).pops))),(congrArg _ (?_:((bm (c.U.getD p ac) (s.U.getD p a8) (cR c s p) (db c s p)).Pc)=((aD c s p).Pc))),oK⟩⟩⟩⟩⟩
 all_goals (rfl)
abbrev N8 (c:Ci) (s:Ns) (p:Int):Ct:=⟨78,[(.agg (oc c)),(.agg (pS s)),(i6 p)],false,(dB (iP c s p))⟩
theorem IY (c:Ci) (s:Ns) (p:Int) (hc:bQ c) (hs:dn c s):CC (N8 c s p):=by
 have Sh:=hc.nl
 have hcl:=hc.cl
 refine aq.vc (V:=TT 3 (CS (p≥0) (CS (p<(c.U.length:Int)) (TT 2 ((True∧(decide (p≥0))=true)∧TT 6 ((True∧(decide (p<(c.U.length:Int)))=true)∧TT 2 ((True∧p=(p.toNat:Int))∧CC (MD c s p.toNat)∧TT 4 (((aD c s p.toNat).fires)=(iP c s p)∧True))))) (TT 2 ((True∧(decide (p≥0))=true)∧TT 6 ((True∧(decide (p<(c.U.length:Int)))=false)∧TT 8 (false=(iP c s p)∧True))))) (TT 2 ((True∧(decide (p≥0))=false)∧TT 15 (false=(iP c s p)∧True))))) (.s 1 (p≥0) (.s 1 (p<(c.U.length:Int)) (.w 1 [(2,.val (dB true)),(9,.val (dB true)),(12,.val (i6 (p.toNat:Int))),(13,(MD c s p.toNat).O)]<|.e) (.w 1 [(2,.val (dB true)),(9,.val (dB false))]<|.e)) (.w 1 [(2,.val (dB false))]<|.e)) Try.func78 rfl rfl rfl (by kernel_rfl) ?_
 refine tt ⟨fun Ru=>?_,fun Ru=>?_⟩
 · refine⟨fun RQ=>?_,fun RQ=>?_⟩
   · refine tt ⟨(vT Ru),tt ⟨(vT RQ),tt ⟨⟨oK,(by omega)⟩,⟨(vZ c s p.toNat hc hs (by omega)),tt ⟨?_,oK⟩⟩⟩⟩⟩
     first | exact(tI (by omega)).symm | exact(tJ (by omega)).symm | exact(sf (by omega) (by omega)).symm
   · refine tt ⟨(vT Ru),tt ⟨(vF RQ),tt ⟨?_,oK⟩⟩⟩
     first | exact(tI (by omega)).symm | exact(tJ (by omega)).symm | exact(sf (by omega) (by omega)).symm
 · refine tt ⟨(vF Ru),tt ⟨?_,oK⟩⟩
   first | exact(tI (by omega)).symm | exact(tJ (by omega)).symm | exact(sf (by omega) (by omega)).symm
abbrev ME (a b:Ns):Ct:=⟨22,[(.agg [(dL 2 bo a8 a.U),(dL 1 af [] a.J)]),(.agg [(dL 2 bo a8 b.U),(dL 1 af [] b.J)])],false,(dB (cx a b))⟩
abbrev mX (a:Ns) (b:Ns):Lp (Nat):=iC [2,3,5] 2 (fun (i:Nat)=>⟨[(2,(.ptr 0 0 0 0)),(3,(.ptr 1 0 0 0)),(5,(i6 (i:Int)))],[(.var 35 [(dL 2 bo a8 a.U),(dL 1 af [] a.J)]),(.var 35 [(dL 2 bo a8 b.U),(dL 1 af [] b.J)])]⟩) (fun (i:Nat)=>i≤a.U.length∧∀z,z<i→dD (a.U.getD z a8) (b.U.getD z a8)=true) (fun (i:Nat)=>a.U.length-i)
abbrev mY (a:Ns) (b:Ns):Lp (Nat):=iC [2,3,6] 2 (fun (n:Nat)=>⟨[(2,(.ptr 0 0 0 0)),(3,(.ptr 1 0 0 0)),(6,(i6 (n:Int)))],[(.var 35 [(dL 2 bo a8 a.U),(dL 1 af [] a.J)]),(.var 35 [(dL 2 bo a8 b.U),(dL 1 af [] b.J)])]⟩) (fun (n:Nat)=>n≤a.J.length∧∀z,z<n→a.J.getD z []=b.J.getD z []) (fun (n:Nat)=>a.J.length-n)
theorem v3 (a b:Ns) (hz:Js a):CC (ME a b):=by
 obtain⟨hap,hac,WT,hpa,hpb,hpc⟩:=hz
 refine aq.vc (V:=TT 3 (CS ((a.U.length:Int)=(b.U.length:Int)) (TT 7 ((True∧(!decide ((a.U.length:Int)=(b.U.length:Int)))=false)∧TT 8 (CN ((a.J.length:Int)=(b.J.length:Int)) (TT 2 (false=(cx a b)∧True)) (TT 1 (GO (mX a b) 0 (∀i,(mX a b).inv i→TT 5 (CD ((i:Int)<(a.U.length:Int)) (TT 3 (IX (i:Int) a.U.length∧TT 4 (IX (i:Int) b.U.length∧TT 1 (CC (N3 (a.U.getD i a8) (b.U.getD i a8))∧TT 1 (CB (!(dD (a.U.getD i a8) (b.U.getD i a8))) (TT 2 (false=(cx a b)∧True)) (TT 1 (W6 ((i+1:Nat):Int)∧TT 1 (AG (mX a b) i (i+1))))))))) (TT 1 (GO (mY a b) 0 (∀n,(mY a b).inv n→TT 5 (CD ((n:Int)<(a.J.length:Int)) (TT 3 (IX (n:Int) a.J.length∧TT 4 (IX (n:Int) b.J.length∧TT 1 (CC (IU (a.J.getD n []) (b.J.getD n []))∧TT 1 (CN ((a.J.getD n [])=(b.J.getD n [])) (TT 2 (false=(cx a b)∧True)) (TT 1 (W6 ((n+1:Nat):Int)∧TT 1 (AG (mY a b) n (n+1))))))))) (TT 2 (true=(cx a b)∧True))))))))))))) (TT 7 ((True∧(!decide ((a.U.length:Int)=(b.U.length:Int)))=true)∧TT 10 (false=(cx a b)∧True))))) (.s 1 ((a.U.length:Int)=(b.U.length:Int)) (.w 1 [(7,.val (dB false))]<|.b 22 (.e) (.l (mX a b) 0 (fun i=>.b 27 (.w 6 [(10,(N3 (a.U.getD i a8) (b.U.getD i a8)).O)]<|.b 41 (.e) (.w 5 [(1,.val (i6 ((i+1:Nat):Int)))]<|.e)) (.l (mY a b) 0 (fun n=>.b 46 (.w 11 [(10,(IU (a.J.getD n []) (b.J.getD n [])).O)]<|.b 60 (.e) (.w 10 [(1,.val (i6 ((n+1:Nat):Int)))]<|.e)) (.e)))))) (.w 1 [(7,.val (dB true))]<|.e)) Try.func22 rfl rfl rfl (by kernel_rfl) ?_
 refine tt ⟨fun Ru=>?_,fun Ru=>?_⟩
 · refine tt ⟨(nF Ru),tt (cn (fun TP=>?_) (fun TP=>?_))⟩
   · refine tt ⟨?_,oK⟩
     first | exact(iX (by omega)).symm | exact(iY (by omega)).symm | exact(iZ (i:=i) (by omega) (by simpa using Ui)).symm | exact(i1 (n:=n) (by simpa using Uj)).symm | exact(i2 (by omega) (by omega) (fun z hz=>h3 z (by omega)) (fun z hz=>h4 z (by omega))).symm
   · refine tt ⟨rfl,⟨by omega,fun z hz=>by omega⟩,?_⟩
     intro i F'
     obtain⟨hi,h3⟩:=F'
     refine tt (cd (fun hc27=>?_) (fun hc27=>?_))
     · refine tt ⟨ix,tt ⟨ix,tt ⟨(Ec (a.U.getD i a8) (b.U.getD i a8) (by have:=hpa i;omega) (by have:=hpb i;omega) (fun j=>by have:=hpc i j;omega)),tt ⟨fun Ui=>?_,fun Ui=>?_⟩⟩⟩⟩
       · refine tt ⟨?_,oK⟩
         first | exact(iX (by omega)).symm | exact(iY (by omega)).symm | exact(iZ (i:=i) (by omega) (by simpa using Ui)).symm | exact(i1 (n:=n) (by simpa using Uj)).symm | exact(i2 (by omega) (by omega) (fun z hz=>h3 z (by omega)) (fun z hz=>h4 z (by omega))).symm
       · refine tt ⟨w6,tt ⟨(i+1),rfl,?_,(?_:a.U.length-(i+1)<a.U.length-i)⟩⟩
         · exact⟨by omega,bh h3 (by simpa using Ui)⟩
         · omega
     · refine tt ⟨rfl,⟨by omega,fun z hz=>by omega⟩,?_⟩
       intro n F'
       obtain⟨hn,h4⟩:=F'
       refine tt (cd (fun SB=>?_) (fun SB=>?_))
       · refine tt ⟨ix,tt ⟨ix,tt ⟨(sA (a.J.getD n []) (b.J.getD n []) (by have:=WT n;omega)),tt (cn (fun Uj=>?_) (fun Uj=>?_))⟩⟩⟩
         · refine tt ⟨?_,oK⟩
           first | exact(iX (by omega)).symm | exact(iY (by omega)).symm | exact(iZ (i:=i) (by omega) (by simpa using Ui)).symm | exact(i1 (n:=n) (by simpa using Uj)).symm | exact(i2 (by omega) (by omega) (fun z hz=>h3 z (by omega)) (fun z hz=>h4 z (by omega))).symm
         · refine tt ⟨w6,tt ⟨(n+1),rfl,?_,(?_:a.J.length-(n+1)<a.J.length-n)⟩⟩
           · exact⟨by omega,bh h4 (by simpa using Uj)⟩
           · omega
       · refine tt ⟨?_,oK⟩
         first | exact(iX (by omega)).symm | exact(iY (by omega)).symm | exact(iZ (i:=i) (by omega) (by simpa using Ui)).symm | exact(i1 (n:=n) (by simpa using Uj)).symm | exact(i2 (by omega) (by omega) (fun z hz=>h3 z (by omega)) (fun z hz=>h4 z (by omega))).symm
 · refine tt ⟨(nT Ru),tt ⟨?_,oK⟩⟩
   first | exact(iX (by omega)).symm | exact(iY (by omega)).symm | exact(iZ (i:=i) (by omega) (by simpa using Ui)).symm | exact(i1 (n:=n) (by simpa using Uj)).symm | exact(i2 (by omega) (by omega) (fun z hz=>h3 z (by omega)) (fun z hz=>h4 z (by omega))).symm
abbrev v4 (s:Ns):List D:=[(dL 2 bo a8 s.U),(dL 1 af [] s.J)]
abbrev v5 (c:Ci):List D:=[(dL 6 bp ac c.U),(dL 5 bP aF c.J)]
abbrev JJ (c:Ci) (s:Ns) (p:Nat):ax:=(.var 167 [(dB ((aD c s p).fires)),(LI (((aD c s p).s).Pe)),(dL 1 af [] (((aD c s p).s).Pd)),(LB ((aD c s p).pops)),(dL 2 iH cQ ((aD c s p).Pc))])
abbrev CP:ax:=(.var 150 [(.own 15),(.own 16),(.own 3)])
set_option maxRecDepth 100000
abbrev N9 (c:Ci) (s:Ns) (wl:List Bool):Ct:=⟨79,[(.agg (v5 c)),(.agg (v4 s)),(LB wl)],true,(.agg [(dL 2 bo a8 ((cT c s (wB wl)).U)),(dL 1 af [] ((cT c s (wB wl)).J)),(LB (tab (bz c s (wB wl)) c.U.length))])⟩
abbrev fa (c:Ci) (s:Ns) (wl:List Bool):Lp (Nat×List Bool×List Int×List (Option Int)):=OP [2,3,4,6,7,8,9,10] 17 (fun (p:Nat) (fd:List Bool) (gn:List Int) (cm:List (Option Int))=>⟨[(2,(LB wl)),(3,(.ptr 0 0 0 0)),(4,(.ptr 1 0 0 0)),(6,(.ptr 2 0 0 0)),(7,(.ptr 4 0 0 0)),(8,(.own 8)),(9,(.own 12)),(10,(i6 (p:Int)))],[(.var 31 (v5 c)),(.var 35 (v4 s)),(.var 150 [.nils,.nils,.nils]),(.arr 4 1 bR false fd),CP,.dead,.dead,.dead,(.arr 3 1 (aa .i64) 0 gn),.dead,.dead,.dead,(.arr 54 1 Ge none cm),.dead,.dead,(.arr 74 2 bo a8 (tab (dc c s (wB wl)) p)),(.arr 54 1 af [] [])]⟩) (fun (p:Nat) (fd:List Bool) (gn:List Int) (cm:List (Option Int))=>p≤c.U.length∧fd=gN (bz c s (wB wl)) (List.replicate c.U.length false) p∧gn=cU (List.replicate c.J.length 0) (qv c s (wB wl) p)∧cm=cJ (List.replicate c.J.length none) (oO c s (wB wl) p)) (fun (p:Nat) (fd:List Bool) (gn:List Int) (cm:List (Option Int))=>c.U.length-p)
abbrev gE (c:Ci) (s:Ns) (wl:List Bool) (p:Nat) (fd:List Bool) (gn:List Int) (cm:List (Option Int)):Lp (Nat×List Int):=o0 [2,3,4,6,7,8,9,10,11,12] 19 (fun (q:Nat) (g2:List Int)=>⟨[(2,(LB wl)),(3,(.ptr 0 0 0 0)),(4,(.ptr 1 0 0 0)),(6,(.ptr 2 0 0 0)),(7,(.ptr 4 0 0 0)),(8,(.own 8)),(9,(.own 12)),(10,(i6 (p:Int))),(11,(.ptr 17 0 0 0)),(12,(i6 (q:Int)))],[(.var 31 (v5 c)),(.var 35 (v4 s)),(.var 150 [.nils,.nils,.nils]),(.arr 4 1 bR false (fd.set p true)),CP,.dead,.dead,.dead,(.arr 3 1 (aa .i64) 0 g2),.dead,.dead,.dead,(.arr 54 1 Ge none cm),.dead,.dead,(.arr 74 2 bo a8 (tab (dc c s (wB wl)) (p+1))),(.arr 54 1 af [] []),(JJ c s p),(.arr 74 2 bo a8 [(aD c s p).s])]⟩) (fun (q:Nat) (g2:List Int)=>q≤(aD c s p).pops.length∧g2=cU gn (ug (c.U.getD p ac) (aD c s p) q)) (fun (q:Nat) (g2:List Int)=>(aD c s p).pops.length-q)
abbrev gF (c:Ci) (s:Ns) (wl:List Bool) (p:Nat) (fd:List Bool) (cm:List (Option Int)) (g2:List Int):Lp (Nat×List (Option Int)):=o0 [2,3,4,6,7,8,9,10,11,13] 19 (fun (r:Nat) (c2:List (Option Int))=>⟨[(2,(LB wl)),(3,(.ptr 0 0 0 0)),(4,(.ptr 1 0 0 0)),(6,(.ptr 2 0 0 0)),(7,(.ptr 4 0 0 0)),(8,(.own 8)),(9,(.own 12)),(10,(i6 (p:Int))),(11,(.ptr 17 0 0 0)),(13,(i6 (r:Int)))],[(.var 31 (v5 c)),(.var 35 (v4 s)),(.var 150 [.nils,.nils,.nils]),(.arr 4 1 bR false (fd.set p true)),CP,.dead,.dead,.dead,(.arr 3 1 (aa .i64) 0 g2),.dead,.dead,.dead,(.arr 54 1 Ge none c2),.dead,.dead,(.arr 74 2 bo a8 (tab (dc c s (wB wl)) (p+1))),(.arr 54 1 af [] []),(JJ c s p),(.arr 74 2 bo a8 [(aD c s p).s])]⟩) (fun (r:Nat) (c2:List (Option Int))=>r≤(aD c s p).Pc.length∧c2=cJ cm (uj (c.U.getD p ac) (aD c s p) r)) (fun (r:Nat) (c2:List (Option Int))=>(aD c s p).Pc.length-r)
abbrev ju (c:Ci) (s:Ns) (wl:List Bool) (p:Nat) (fd:List Bool) (gn:List Int) (cm:List (Option Int)):Lp (Nat):=iC [3,4,6,7,8,9,15] 17 (fun (i:Nat)=>⟨[(3,(.ptr 0 0 0 0)),(4,(.ptr 1 0 0 0)),(6,(.ptr 2 0 0 0)),(7,(.ptr 4 0 0 0)),(8,(.own 8)),(9,(.own 12)),(15,(i6 (i:Int)))],[(.var 31 (v5 c)),(.var 35 (v4 s)),(.var 150 [.nils,.nils,.nils]),(.arr 4 1 bR false fd),CP,.dead,.dead,.dead,(.arr 3 1 (aa .i64) 0 gn),.dead,.dead,.dead,(.arr 54 1 Ge none cm),.dead,.dead,(.arr 74 2 bo a8 (tab (dc c s (wB wl)) p)),(.arr 54 1 af [] (tab (iR c s (wB wl)) i))]⟩) (fun (i:Nat)=>i≤c.J.length) (fun (i:Nat)=>c.J.length-i)
theorem zf (c:Ci) (s:Ns) (wl:List Bool) (hc:bQ c) (hs:dn c s) (WW:rH s 4294967296) (hw:wl.length=c.U.length):CC (N9 c s wl):=by
 have Sh:=hc.nl
 have hcl:=hc.cl
 have T4:=hs.pl
 have hl2:=hs.cl
 refine aq.vc (V:=TT 7 ((((0:Int)≤(c.U.length:Int)∧(c.U.length:Int)≤(c.U.length:Int)∧(c.U.length:Int)≤137438953472)∧(List.replicate c.U.length false).length=c.U.length∧∀x∈(List.replicate c.U.length false),dV [(dB false)] (bR x))∧TT 6 ((((0:Int)≤(c.J.length:Int)∧(c.J.length:Int)≤(c.J.length:Int)∧(c.J.length:Int)≤137438953472)∧(List.replicate c.J.length (0:Int)).length=c.J.length∧∀x∈(List.replicate c.J.length (0:Int)),dV [(i6 0)] ((aa .i64) x))∧TT 3 ((((0:Int)≤(c.J.length:Int)∧(c.J.length:Int)≤(c.J.length:Int)∧(c.J.length:Int)≤137438953472)∧(List.replicate c.J.length (none:Option Int)).length=c.J.length∧∀x∈(List.replicate c.J.length (none:Option Int)),dV [.nils] (Ge x))∧TT 3 (GO (fa c s wl) (0,List.replicate c.U.length false,List.replicate c.J.length (0:Int),List.replicate c.J.length (none:Option Int)) (∀p fd gn cm,(fa c s wl).inv (p,fd,gn,cm)→TT 5 (CD ((p:Int)<(c.U.length:Int)) (TT 3 (CC (MD c s p)∧TT 2 (CS ((wl.getD p false)=true) (TT 2 (IX (p:Int) wl.length∧TT 2 ((True∧(!(wl.getD p false))=false)∧TT 4 (CB (!((aD c s p).fires)) (TT 6 (IX (p:Int) s.U.length∧TT 1 (an [[(LI ((s.U.getD p a8).Pe)),(dL 1 af [] ((s.U.getD p a8).Pd))]] ([s.U.getD p a8].map bo)∧((tab (dc c s (wB wl)) p).length+([s.U.getD p a8].map bo).length≤137438953472∧(tab (dc c s (wB wl)) p).map bo++[s.U.getD p a8].map bo=(tab (dc c s (wB wl)) (p+1)).map bo)∧TT 4 (W6 ((p+1:Nat):Int)∧TT 1 (AG (fa c s wl) (p,fd,gn,cm) (p+1,fd,gn,cm)))))) (TT 3 (IX (p:Int) fd.length∧(p<fd.length∧(fd.map bR).set p ((bR (fd.getD p false)).take 0++[(.bool true)]++(bR (fd.getD p false)).drop (0+1))=(fd.set p true).map bR)∧TT 5 (an [[(LI (((aD c s p).s).Pe)),(dL 1 af [] (((aD c s p).s).Pd))]] ([(aD c s p).s].map bo)∧((tab (dc c s (wB wl)) p).length+([(aD c s p).s].map bo).length≤137438953472∧(tab (dc c s (wB wl)) p).map bo++[(aD c s p).s].map bo=(tab (dc c s (wB wl)) (p+1)).map bo)∧TT 4 (GO (gE c s wl p fd gn cm) (0,gn) (∀q g2,(gE c s wl p fd gn cm).inv (q,g2)→TT 5 (CD ((q:Int)<((((aD c s p).pops).length:Nat):Int)) (TT 3 (IX (q:Int) (((aD c s p).pops).length)∧TT 1 (CB ((((aD c s p).pops).getD q false)) (TT 4 (IX (p:Int) c.U.length∧TT 3 (IX (q:Int) (((c.U.getD p ac).I).length)∧TT 2 (IX ((((c.U.getD p ac).I).getD q bV).chan) g2.length∧(((((c.U.getD p ac).I).getD q bV).chan).toNat<g2.length∧(g2.map (aa .i64)).set (((((c.U.getD p ac).I).getD q bV).chan).toNat) (((aa .i64) (g2.getD (((((c.U.getD p ac).I).getD q bV).chan).toNat) 0)).take 0++[(.int .i64 1)]++((aa .i64) (g2.getD (((((c.U.getD p ac).I).getD q bV).chan).toNat) 0)).drop (0+1))=(g2.set (((((c.U.getD p ac).I).getD q bV).chan).toNat) 1).map (aa .i64))∧TT 1 (W6 ((q+1:Nat):Int)∧TT 1 (AG (gE c s wl p fd gn cm) (q,g2) (q+1,g2.set (((((c.U.getD p ac).I).getD q bV).chan).toNat) 1))))))) (TT 1 (W6 ((q+1:Nat):Int)∧TT 1 (AG (gE c s wl p fd gn cm) (q,g2) (q+1,g2))))))) (TT 1 (GO (gF c s wl p fd cm g2) (0,cm) (∀r c2,(gF c s wl p fd cm g2).inv (r,c2)→TT 5 (CD ((r:Int)<((((aD c s p).Pc).length:Nat):Int)) (TT 3 (IX (r:Int) (((aD c s p).Pc).length)∧TT 2 (CB ((((aD c s p).Pc).getD r cQ).has) (TT 3 (IX (p:Int) c.U.length∧TT 3 (IX (r:Int) (((c.U.getD p ac).Pc).length)∧TT 7 (IX ((((c.U.getD p ac).Pc).getD r b4).chan) c2.length∧((((((c.U.getD p ac).Pc).getD r b4).chan).toNat<c2.length∧True)∧Ez (L0 (c2.getD (((((c.U.getD p ac).Pc).getD r b4).chan).toNat) none)))∧TT 3 (IX (r:Int) (((aD c s p).Pc).length)∧TT 2 (an [[(i6 ((((aD c s p).Pc).getD r cQ).v))]] ([(((aD c s p).Pc).getD r cQ).v].map (aa .i64))∧(([(((aD c s p).Pc).getD r cQ).v].map (aa .i64)).length≤137438953472∧[(((aD c s p).Pc).getD r cQ).v].map (aa .i64)=[(((aD c s p).Pc).getD r cQ).v].map (aa .i64))∧IX ((((c.U.getD p ac).Pc).getD r b4).chan) c2.length∧(((((c.U.getD p ac).Pc).getD r b4).chan).toNat<c2.length∧(c2.map Ge).set (((((c.U.getD p ac).Pc).getD r b4).chan).toNat) ((Ge (c2.getD (((((c.U.getD p ac).Pc).getD r b4).chan).toNat) none)).take 0++[(.sl 1 (aa .i64) 0 [(((aD c s p).Pc).getD r cQ).v])]++(Ge (c2.getD (((((c.U.getD p ac).Pc).getD r b4).chan).toNat) none)).drop (0+1))=(c2.set (((((c.U.getD p ac).Pc).getD r b4).chan).toNat) (some ((((aD c s p).Pc).getD r cQ).v))).map Ge)∧TT 1 (W6 ((r+1:Nat):Int)∧TT 1 (AG (gF c s wl p fd cm g2) (r,c2) (r+1,c2.set (((((c.U.getD p ac).Pc).getD r b4).chan).toNat) (some ((((aD c s p).Pc).getD r cQ).v))))))))))) (TT 1 (W6 ((r+1:Nat):Int)∧TT 1 (AG (gF c s wl p fd cm g2) (r,c2) (r+1,c2))))))) (TT 1 (W6 ((p+1:Nat):Int)∧TT 1 (AG (fa c s wl) (p,fd,gn,cm) (p+1,fd.set p true,g2,c2)))))))))))))))))) (TT 2 (IX (p:Int) wl.length∧TT 2 ((True∧(!(wl.getD p false))=true)∧TT 10 (IX (p:Int) s.U.length∧TT 1 (an [[(LI ((s.U.getD p a8).Pe)),(dL 1 af [] ((s.U.getD p a8).Pd))]] ([s.U.getD p a8].map bo)∧((tab (dc c s (wB wl)) p).length+([s.U.getD p a8].map bo).length≤137438953472∧(tab (dc c s (wB wl)) p).map bo++[s.U.getD p a8].map bo=(tab (dc c s (wB wl)) (p+1)).map bo)∧TT 4 (W6 ((p+1:Nat):Int)∧TT 1 (AG (fa c s wl) (p,fd,gn,cm) (p+1,fd,gn,cm))))))))))) (TT 1 (GO (ju c s wl p fd gn cm) 0 (∀i,(ju c s wl p fd gn cm).inv i→TT 5 (CD ((i:Int)<(c.J.length:Int)) (TT 3 (an [] (([]:List Int).map (aa .i64))∧TT 3 (IX (i:Int) s.J.length∧TT 3 (IX (i:Int) gn.length∧(i<gn.length∧True)∧(0≤(gn.getD i 0)∧(gn.getD i 0)≤((s.J.getD i []).length:Int)∧((s.J.getD i []).length:Int)≤((s.J.getD i []).length:Int))∧(([]:List Int).length+(((s.J.getD i []).drop ((gn.getD i 0).toNat)).map (aa .i64)).length≤137438953472∧([]:List Int).map (aa .i64)++((s.J.getD i []).drop ((gn.getD i 0).toNat)).map (aa .i64)=((s.J.getD i []).drop ((gn.getD i 0).toNat)).map (aa .i64))∧TT 2 (IX (i:Int) cm.length∧((i<cm.length∧True)∧xD (L0 (cm.getD i none)) (.sl 1 (aa .i64) 0 (uF (cm.getD i none))))∧(((s.J.getD i []).drop ((gn.getD i 0).toNat)).length+((uF (cm.getD i none)).map (aa .i64)).length≤137438953472∧((s.J.getD i []).drop ((gn.getD i 0).toNat)).map (aa .i64)++(uF (cm.getD i none)).map (aa .i64)=(((s.J.getD i []).drop ((gn.getD i 0).toNat))++(uF (cm.getD i none))).map (aa .i64))∧an [[(LI (((s.J.getD i []).drop ((gn.getD i 0).toNat))++(uF (cm.getD i none))))]] ([((s.J.getD i []).drop ((gn.getD i 0).toNat))++(uF (cm.getD i none))].map af)∧((tab (iR c s (wB wl)) i).length+([((s.J.getD i []).drop ((gn.getD i 0).toNat))++(uF (cm.getD i none))].map af).length≤137438953472∧(tab (iR c s (wB wl)) i).map af++[((s.J.getD i []).drop ((gn.getD i 0).toNat))++(uF (cm.getD i none))].map af=(tab (iR c s (wB wl)) (i+1)).map af)∧TT 4 (W6 ((i+1:Nat):Int)∧TT 1 (AG (ju c s wl p fd gn cm) i (i+1)))))))) (TT 3 ((tab (dc c s (wB wl)) p).map bo=((cT c s (wB wl)).U).map bo∧(tab (iR c s (wB wl)) i).map af=((cT c s (wB wl)).J).map af∧fd.map bR=(tab (bz c s (wB wl)) c.U.length).map bR∧True))))))))))))) (.w 1 [(4,.box 4 1 bR false (List.replicate c.U.length false))]<|.w 2 [(3,.box 3 1 (aa .i64) 0 (List.replicate c.J.length (0:Int))),(7,.box 54 1 Ge none (List.replicate c.J.length (none:Option Int)))]<|.g 3 4 0 74 2 bo a8<|.g 3 4 1 54 1 af []<|.l (fa c s wl) (0,List.replicate c.U.length false,List.replicate c.J.length (0:Int),List.replicate c.J.length (none:Option Int)) (fun ⟨p,fd,gn,cm⟩=>.b 34 (.w 6 [(3,(MD c s p).O)]<|.s 7 ((wl.getD p false)=true) (.w 7 [(5,.val (dB false))]<|.b 50 (.w 8 [(8,.box 74 2 bo a8 [s.U.getD p a8]),(9,.box 74 2 bo a8 (tab (dc c s (wB wl)) (p+1)))]<|.w 5 [(1,.val (i6 ((p+1:Nat):Int)))]<|.e) (.w 9 [(4,.box 4 1 bR false (fd.set p true))]<|.w 10 [(5,.box 74 2 bo a8 [(aD c s p).s]),(6,.box 74 2 bo a8 (tab (dc c s (wB wl)) (p+1)))]<|.l (gE c s wl p fd gn cm) (0,gn) (fun ⟨q,g2⟩=>.b 80 (.b 87 (.w 15 [(12,.box 3 1 (aa .i64) 0 (g2.set (((((c.U.getD p ac).I).getD q bV).chan).toNat) 1))]<|.w 13 [(1,.val (i6 ((q+1:Nat):Int)))]<|.e) (.w 13 [(1,.val (i6 ((q+1:Nat):Int)))]<|.e)) (.l (gF c s wl p fd cm g2) (0,cm) (fun ⟨r,c2⟩=>.b 104 (.b 112 (.w 21 [(5,.val .nils),(12,.box 3 1 (aa .i64) 0 [(((aD c s p).Pc).getD r cQ).v]),(13,.app true 3 1 (aa .i64) 0 [(((aD c s p).Pc).getD r cQ).v]),(15,.box 54 1 Ge none (c2.set (((((c.U.getD p ac).Pc).getD r b4).chan).toNat) (some ((((aD c s p).Pc).getD r cQ).v))))]<|.w 18 [(1,.val (i6 ((r+1:Nat):Int)))]<|.e) (.w 18 [(1,.val (i6 ((r+1:Nat):Int)))]<|.e)) (.w 5 [(1,.val (i6 ((p+1:Nat):Int)))]<|.e)))))) (.w 7 [(5,.val (dB true))]<|.w 8 [(8,.box 74 2 bo a8 [s.U.getD p a8]),(9,.box 74 2 bo a8 (tab (dc c s (wB wl)) (p+1)))]<|.w 5 [(1,.val (i6 ((p+1:Nat):Int)))]<|.e)) (.l (ju c s wl p fd gn cm) 0 (fun i=>.b 142 (.w 25 [(3,.app false 3 1 (aa .i64) 0 ([]:List Int)),(14,.app false 3 1 (aa .i64) 0 ((s.J.getD i []).drop ((gn.getD i 0).toNat))),(18,.val (LI (uF (cm.getD i none)))),(19,.app true 3 1 (aa .i64) 0 (((s.J.getD i []).drop ((gn.getD i 0).toNat))++(uF (cm.getD i none)))),(20,.box 54 1 af [] [((s.J.getD i []).drop ((gn.getD i 0).toNat))++(uF (cm.getD i none))]),(21,.box 54 1 af [] (tab (iR c s (wB wl)) (i+1)))]<|.w 24 [(1,.val (i6 ((i+1:Nat):Int)))]<|.e) (.e))))) Try.func79 rfl rfl rfl (by kernel_rfl) ?_
 refine tt ⟨⟨by omega,by simp,fun x hx=>by rw[PW hx];exact⟨rfl,oK⟩⟩,tt ⟨⟨by omega,by simp,fun x hx=>by rw[PW hx];exact⟨rfl,oK⟩⟩,tt ⟨⟨by omega,by simp,fun x hx=>by rw[PW hx];exact⟨oK,oK⟩⟩,tt ⟨rfl,⟨by omega,rfl,rfl,rfl⟩,?_⟩⟩⟩⟩
 intro p fd gn cm F'
 obtain⟨hp,hfd,Vr,T5⟩:=F'
 have hfl0:fd.length=c.U.length:=by rw[hfd,cK (by simp;omega)];simp
 have hgl0:gn.length=c.J.length:=by rw[Vr,rf];simp
 have hml0:cm.length=c.J.length:=by rw[T5,rh];simp
 refine tt (cd (fun hc34=>?_) (fun hc34=>?_))
 · refine tt ⟨(vZ c s p hc hs (by omega)),tt ⟨fun Ru=>?_,fun Ru=>?_⟩⟩
   · refine tt ⟨ix,tt ⟨(mF Ru),tt ⟨fun hc50=>?_,fun hc50=>?_⟩⟩⟩
     · have SM:=Kt (l:=wl) hc50
       refine tt ⟨ix,tt ⟨⟨⟨rfl,rfl,oK⟩,oK⟩,⟨(aY (by omega) (Jr SM)),tt ⟨w6,tt ⟨(p+1,fd,gn,cm),rfl,?_,(?_:c.U.length-(p+1)<c.U.length-p)⟩⟩⟩⟩⟩
       · exact⟨by omega,by rw[hfd];exact jL (d:=false) (by simp;omega) (by rw[SM,du]),by rw[Vr,B8 SM],by rw[T5,B9 SM]⟩
       · omega
     · have WX:=Ku Ru hc50
       have Tt:(aD c s p).pops.length=(c.U.getD p ac).I.length:=uA _ _ _ _
       have UF:(aD c s p).Pc.length=(c.U.getD p ac).Pc.length:=uB _ _ _ _
       have ht1:(c.U.getD p ac).I.length≤100:=(hc.pr p (by omega)).tl
       have ht2:(c.U.getD p ac).Pc.length≤100:=(hc.pr p (by omega)).pl
       refine tt ⟨ix,⟨⟨om,by simp only[P0];rfl⟩,tt ⟨⟨⟨rfl,rfl,oK⟩,oK⟩,⟨(aY (by omega) (Kn WX)),tt ⟨rfl,⟨by omega,rfl⟩,?_⟩⟩⟩⟩⟩
       intro q g2 F'
       obtain⟨hq,hg2⟩:=F'
       have hg2l:g2.length=c.J.length:=by rw[hg2,rf,hgl0]
       refine tt (cd (fun hc80=>?_) (fun hc80=>?_))
       · refine tt ⟨ix,tt ⟨fun S7=>?_,fun S7=>?_⟩⟩
         · have hqt:q<(c.U.getD p ac).I.length:=by omega
           have Vy:0≤((c.U.getD p ac).I.getD q bV).chan∧((c.U.getD p ac).I.getD q bV).chan<c.J.length:=⟨(hc.tk p (by omega) q hqt).1,(hc.tk p (by omega) q hqt).2.1⟩
           refine tt ⟨ix,tt ⟨ix,tt ⟨ix,⟨⟨om,by simp only[P0];rfl⟩,tt ⟨w6,tt ⟨(q+1,g2.set (((((c.U.getD p ac).I).getD q bV).chan).toNat) 1),rfl,?_,(?_:(aD c s p).pops.length-(q+1)<(aD c s p).pops.length-q)⟩⟩⟩⟩⟩⟩
           · exact⟨by omega,by rw[H8 S7,hg2];exact(wT _ _ _).symm⟩
           · omega
         · refine tt ⟨w6,tt ⟨(q+1,g2),rfl,?_,(?_:(aD c s p).pops.length-(q+1)<(aD c s p).pops.length-q)⟩⟩
           · exact⟨by omega,by rw[Ko S7,hg2]⟩
           · omega
       · have hqe:q=(c.U.getD p ac).I.length:=by omega
         refine tt ⟨rfl,⟨by omega,rfl⟩,?_⟩
         intro r c2 F'
         obtain⟨hr,Vq⟩:=F'
         have hc2l:c2.length=c.J.length:=by rw[Vq,rh,hml0]
         refine tt (cd (fun hc104=>?_) (fun hc104=>?_))
         · refine tt ⟨ix,tt ⟨fun Wm=>?_,fun Wm=>?_⟩⟩
           · have hrt:r<(c.U.getD p ac).Pc.length:=by omega
             have hpt:0≤((c.U.getD p ac).Pc.getD r b4).chan∧((c.U.getD p ac).Pc.getD r b4).chan<c.J.length:=⟨(hc.pt p (by omega) r hrt).1,(hc.pt p (by omega) r hrt).2.1⟩
             have Vg:c2.getD ((c.U.getD p ac).Pc.getD r b4).chan.toNat none=none:=by
               rw[Vq,T5,rm]
               exact DY hc (by omega) hrt
             refine tt ⟨ix,tt ⟨ix,tt ⟨ix,⟨⟨⟨om,oK⟩,(by rw[Vg];trivial)⟩,tt ⟨ix,tt ⟨⟨⟨rfl,oK⟩,oK⟩,⟨⟨by simp only[Py,P8,PP,PG,PQ,PD];first | omega | (simp;first | done | omega),rfl⟩,⟨ix,⟨⟨om,by simp only[P0];rfl⟩,tt ⟨w6,tt ⟨(r+1,c2.set (((((c.U.getD p ac).Pc).getD r b4).chan).toNat) (some ((((aD c s p).Pc).getD r cQ).v))),rfl,?_,(?_:(aD c s p).Pc.length-(r+1)<(aD c s p).Pc.length-r)⟩⟩⟩⟩⟩⟩⟩⟩⟩⟩⟩
             · exact⟨by omega,by rw[H9 Wm,Vq];exact(wU _ _ _ _).symm⟩
             · omega
           · refine tt ⟨w6,tt ⟨(r+1,c2),rfl,?_,(?_:(aD c s p).Pc.length-(r+1)<(aD c s p).Pc.length-r)⟩⟩
             · exact⟨by omega,by rw[Kp Wm,Vq]⟩
             · omega
         · have Xp:r=(c.U.getD p ac).Pc.length:=by omega
           refine tt ⟨w6,tt ⟨(p+1,fd.set p true,g2,c2),rfl,?_,(?_:c.U.length-(p+1)<c.U.length-p)⟩⟩
           · exact⟨by omega,by rw[hfd];exact bU (by simp;omega) WX,by rw[hg2,hqe,Vr,yG,Ga WX],by rw[Vq,Xp,T5,rm,Gb WX]⟩
           · omega
   · have SM:=L2 (c:=c) (s:=s) Ru
     refine tt ⟨ix,tt ⟨(mT Ru),tt ⟨ix,tt ⟨⟨⟨rfl,rfl,oK⟩,oK⟩,⟨(aY (by omega) (Jr SM)),tt ⟨w6,tt ⟨(p+1,fd,gn,cm),rfl,?_,(?_:c.U.length-(p+1)<c.U.length-p)⟩⟩⟩⟩⟩⟩⟩
     · exact⟨by omega,by rw[hfd];exact jL (d:=false) (by simp;omega) (by rw[SM,du]),by rw[Vr,B8 SM],by rw[T5,B9 SM]⟩
     · omega
 · have hpe:p=c.U.length:=by omega
   refine tt ⟨rfl,(by omega),?_⟩
   intro i F'
   have hi:=F'
   refine tt (cd (fun hc142=>?_) (fun hc142=>?_))
   · have Vw:(s.J.getD i []).drop (gn.getD i 0).toNat++uF (cm.getD i none)=iR c s (wB wl) i:=by rw[Vr,T5,hpe];exact Ic hc (by omega)
     have hge:gn.getD i 0=(iQ c s (wB wl) i:Nat):=by rw[Vr,hpe];exact Ca hc (by omega)
     have hgl:iQ c s (wB wl) i≤(s.J.getD i []).length:=Ib i
     have hlw:(s.J.getD i []).length≤4294967296:=WW i
     have hol:=Ks (cm.getD i none)
     refine tt ⟨oK,tt ⟨ix,tt ⟨ix,⟨⟨om,oK⟩,⟨om,⟨⟨by simp only[Py,P8,PP,PG,PQ,PD];first | omega | (simp;first | done | omega),by simp only[P9,QJ,Qk,QS]⟩,tt ⟨ix,⟨⟨⟨om,oK⟩,(L1 _)⟩,⟨⟨by simp only[Py,P8,PP,PG,PQ,PD];first | omega | (simp;first | done | omega),by simp only[P9,QJ,Qk,QS]⟩,⟨⟨⟨rfl,oK⟩,oK⟩,⟨(aY (by omega) Vw),tt ⟨w6,tt ⟨(i+1),rfl,(?_:(i+1)≤c.J.length),(?_:c.J.length-(i+1)<c.J.length-i)⟩⟩⟩⟩⟩⟩⟩⟩⟩⟩⟩⟩⟩
     · omega
     · omega
   · refine tt ⟨(congrArg _ (?_:(tab (dc c s (wB wl)) p)=((cT c s (wB wl)).U))),(congrArg _ (?_:(tab (iR c s (wB wl)) i)=((cT c s (wB wl)).J))),(congrArg _ (?_:fd=(tab (bz c s (wB wl)) c.U.length))),oK⟩
     · rw[hpe];rfl
     · rw[show i=c.J.length by omega];rfl
     · rw[hfd,hpe,b7 (by simp)]
abbrev Oa (c:Ci) (s:Ns) (k:Int):Ct:=⟨50,[(.agg (v5 c)),(.agg (v4 s)),(i6 k)],true,(.agg [(dL 2 bo a8 ((cT c s (uE k)).U)),(dL 1 af [] ((cT c s (uE k)).J)),(dB (iP c s k))])⟩
theorem GP (c:Ci) (s:Ns) (k:Int) (hc:bQ c) (hs:dn c s) (WW:rH s 4294967296):CC (Oa c s k):=by
 have Sh:=hc.nl
 have hcl:=hc.cl
 refine aq.vc (V:=TT 6 (CC (N8 c s k)∧TT 1 (CB (!(iP c s k)) (TT 4 (s.U.map bo=((cT c s (uE k)).U).map bo∧s.J.map af=((cT c s (uE k)).J).map af∧false=(iP c s k)∧True)) (TT 3 ((((0:Int)≤(c.U.length:Int)∧(c.U.length:Int)≤(c.U.length:Int)∧(c.U.length:Int)≤137438953472)∧(List.replicate c.U.length false).length=c.U.length∧∀x∈(List.replicate c.U.length false),dV [(dB false)] (bR x))∧TT 3 (IX k ((List.replicate c.U.length false).length)∧(k.toNat<(List.replicate c.U.length false).length∧((List.replicate c.U.length false).map bR).set k.toNat ((bR ((List.replicate c.U.length false).getD k.toNat false)).take 0++[(.bool true)]++(bR ((List.replicate c.U.length false).getD k.toNat false)).drop (0+1))=((List.replicate c.U.length false).set k.toNat true).map bR)∧TT 3 (CC (N9 c s ((List.replicate c.U.length false).set k.toNat true))∧TT 4 (((cT c s (wB ((List.replicate c.U.length false).set k.toNat true))).U).map bo=((cT c s (uE k)).U).map bo∧((cT c s (wB ((List.replicate c.U.length false).set k.toNat true))).J).map af=((cT c s (uE k)).J).map af∧true=(iP c s k)∧True)))))))) (.w 1 [(3,(N8 c s k).O)]<|.b 12 (.e) (.w 3 [(3,.box 4 1 bR false (List.replicate c.U.length false))]<|.w 4 [(3,.box 4 1 bR false ((List.replicate c.U.length false).set k.toNat true))]<|.f 5 3<|.w 5 [(3,(N9 c s ((List.replicate c.U.length false).set k.toNat true)).O)]<|.e)) Try.func50 rfl rfl rfl (by kernel_rfl) ?_
 refine tt ⟨(IY c s k hc hs),tt ⟨fun SQ=>?_,fun SQ=>?_⟩⟩
 · refine tt ⟨(congrArg _ (?_:s.U=((cT c s (uE k)).U))),(congrArg _ (?_:s.J=((cT c s (uE k)).J))),?_,oK⟩
   all_goals (first | rw[Cb hs (by simpa using SQ)] | (rw[Gf (show k.toNat<c.U.length by omega),show((k.toNat:Nat):Int)=k by omega]) | (simpa using SQ) | (exact(by simpa using SQ:iP c s k=true).symm) | (exact(by simpa using SQ:iP c s k=false).symm))
 · obtain⟨Um,Tl⟩:=Ie (show iP c s k=true by simpa using SQ)
   refine tt ⟨⟨by omega,by simp,fun x hx=>by rw[PW hx];exact⟨rfl,oK⟩⟩,tt ⟨ix,⟨⟨om,by simp only[P0];rfl⟩,?_⟩⟩⟩
   have hwe:(List.replicate c.U.length false).set k.toNat true=(List.replicate c.U.length false).set k.toNat true:=rfl
   refine tt ⟨(zf c s ((List.replicate c.U.length false).set k.toNat true) hc hs WW (by simp)),tt ⟨(congrArg _ (?_:((cT c s (wB ((List.replicate c.U.length false).set k.toNat true))).U)=((cT c s (uE k)).U))),(congrArg _ (?_:((cT c s (wB ((List.replicate c.U.length false).set k.toNat true))).J)=((cT c s (uE k)).J))),?_,oK⟩⟩
   all_goals (first | rw[Cb hs (by simpa using SQ)] | (rw[Gf (show k.toNat<c.U.length by omega),show((k.toNat:Nat):Int)=k by omega]) | (simpa using SQ) | (exact(by simpa using SQ:iP c s k=true).symm) | (exact(by simpa using SQ:iP c s k=false).symm))
abbrev pT (s:Sg):List D:=[(LI s.Pe),(LI s.I),(dL 27 bS aA s.Pd),(dB s.data)]
abbrev GQ:ax:=(.var 141 [(i6 0),(dS e0),(i6 0),(dS e0),(i6 0),(dS e0),.nils,.nils,(i6 0)])
set_option maxRecDepth 100000
abbrev Ee (b:List Int) (i:Nat):Ct:=⟨52,[(.agg [(LY b),(i6 (i:Int))])],false,(i6 (b.getD i 0))⟩
theorem mZ (b:List Int) (i:Nat) (hb:gf b):CC (Ee b i):=by
 have hy:=b5 hb i
 refine aq.vc (V:=TT 8 (CD ((i:Int)<(b.length:Int)) (TT 4 (IX (i:Int) b.length∧TT 1 (W6 (b.getD i 0)∧TT 2 ((b.getD i 0)=(b.getD i 0)∧True)))) (TT 2 ((0:Int)=(b.getD i 0)∧True)))) (.b 8 (.w 2 [(6,.val (i6 (b.getD i 0)))]<|.e) (.e)) Try.func52 rfl rfl rfl (by kernel_rfl) ?_
 refine tt (cd (fun WR=>?_) (fun WR=>?_))
 · exact tt ⟨ix,tt ⟨w6,tt ⟨rfl,oK⟩⟩⟩
 · refine tt ⟨?_,oK⟩
   first | rfl | (simp[List.getD,P2 (show b.length≤i by omega)])
abbrev AU (b:List Int) (i n:Nat):Ct:=⟨53,[(.agg [(LY b),(i6 (i:Int))]),(i6 (n:Int))],true,(.agg [(LY b),(i6 ((i+n:Nat):Int))])⟩
theorem t0 (b:List Int) (i n:Nat) (h:i+n≤9223372036854775807):CC (AU b i n):=by
 refine aq.vc (V:=TT 5 (W6 ((i+n:Nat):Int)∧TT 5 (b.map (aa .u8)=b.map (aa .u8)∧((i+n:Nat):Int)=((i+n:Nat):Int)∧True))) (.w 1 [(3,.val (i6 ((i+n:Nat):Int)))]<|.e) Try.func53 rfl rfl rfl (by kernel_rfl) ?_
 exact tt ⟨w6,tt ⟨rfl,rfl,oK⟩⟩
abbrev MF (v w:Int) (n:Nat):Ct:=⟨97,[(i6 v),(i6 w)],true,(.agg [(i6 ((d8 v w).op)),(dS ((d8 v w).name)),(i6 (((d8 v w).k).n)),(dS (((d8 v w).k).p)),(i6 (((d8 v w).w).n)),(dS (((d8 v w).w).p)),(dL 7 (eA n) dE ((d8 v w).args))])⟩
theorem CQ (v w:Int) (n:Nat) (h1:0≤w) (h2:w≤62):CC (MF v w n):=by
 refine aq.vc (V:=TT 3 ((True∧IntKind.u64.wrap w=w)∧SH w∧W6 ((2^w.toNat)-1)∧(True∧(IntKind.wrap .i64 (BitVec.ofInt (IntKind.i64).bits v &&& BitVec.ofInt (IntKind.i64).bits ((2^w.toNat)-1)).toNat)=(v%2^w.toNat))∧TT 6 ((1:Int)=((d8 v w).op)∧e0=((d8 v w).name)∧(v%2^w.toNat)=(((d8 v w).k).n)∧e0=(((d8 v w).k).p)∧w=(((d8 v w).w).n)∧e0=(((d8 v w).w).p)∧((d8 v w).args)=[]∧True))) (.w 1 [(2,.val (dI .u64 w)),(3,.val (i6 (2^w.toNat))),(4,.val (i6 ((2^w.toNat)-1))),(5,.val (i6 (v%2^w.toNat)))]<|.e) Try.func97 rfl rfl rfl (by kernel_rfl) ?_
 refine tt ⟨⟨oK,Dx rfl om om⟩,⟨sh,⟨(w6 (by have:=lJ (n:=w.toNat) (by omega);omega) (by have:=lJ (n:=w.toNat) (by omega);omega)),⟨⟨oK,(lI (by omega))⟩,tt ⟨?_,?_,?_,?_,?_,?_,?_,oK⟩⟩⟩⟩⟩
 all_goals (first | rfl | omega | (simp;first | done | omega))
abbrev Ob (s:Sg) (w:Int):Ct:=⟨96,[(.agg (pT s)),(i6 w)],true,(dL 7 (eA 1) dE (cy s w))⟩
abbrev jV (s:Sg) (w:Int):Lp (Nat×List Ex):=o0 [1,2,5,6] 2 (fun (k:Nat) (RM:List Ex)=>⟨[(1,(i6 w)),(2,(.ptr 0 0 0 0)),(5,(.own 1)),(6,(i6 (k:Int)))],[(.var 139 (pT s)),(.arr 64 7 (eA 1) dE RM)]⟩) (fun (k:Nat) (RM:List Ex)=>k≤s.Pe.length∧RM=eH DK w s.Pe k∧RM.length≤k) (fun (k:Nat) (RM:List Ex)=>s.Pe.length-k)
abbrev jW (s:Sg) (w:Int):Lp (Nat×List Ex):=o0 [1,2,5,7] 2 (fun (j:Nat) (RM:List Ex)=>⟨[(1,(i6 w)),(2,(.ptr 0 0 0 0)),(5,(.own 1)),(7,(i6 (j:Int)))],[(.var 139 (pT s)),(.arr 64 7 (eA 1) dE RM)]⟩) (fun (j:Nat) (RM:List Ex)=>j≤s.I.length∧(s.data=false→j=0)∧RM=eH DK w s.Pe s.Pe.length++eH Fl w s.I j∧RM.length≤s.Pe.length+j) (fun (j:Nat) (RM:List Ex)=>s.I.length-j)
theorem Ef (s:Sg) (w:Int) (hr:s.Pe.length≤100) (ht:s.I.length≤100):CC (Ob s w):=by
 refine aq.vc (V:=TT 2 (an [] ([].map (eA 1))∧TT 2 (GO (jV s w) (0,[]) (∀k RM,(jV s w).inv (k,RM)→TT 5 (CD ((k:Int)<(s.Pe.length:Int)) (TT 3 (IX (k:Int) s.Pe.length∧TT 3 (CD ((s.Pe.getD k 0)=w) (TT 4 (an [[(i6 16),(dS e0),(i6 (k:Int)),(dS e0),(i6 0),(dS e0),.nils]] ([(⟨16,e0,⟨(k:Int),e0⟩,⟨0,e0⟩,[]⟩:Ex)].map (eA 1))∧(RM.length+([(⟨16,e0,⟨(k:Int),e0⟩,⟨0,e0⟩,[]⟩:Ex)].map (eA 1)).length≤137438953472∧RM.map (eA 1)++[(⟨16,e0,⟨(k:Int),e0⟩,⟨0,e0⟩,[]⟩:Ex)].map (eA 1)=(RM++[(⟨16,e0,⟨(k:Int),e0⟩,⟨0,e0⟩,[]⟩:Ex)]).map (eA 1))∧TT 2 (W6 ((k+1:Nat):Int)∧TT 1 (AG (jV s w) (k,RM) (k+1,RM++[(⟨16,e0,⟨(k:Int),e0⟩,⟨0,e0⟩,[]⟩:Ex)]))))) (TT 1 (W6 ((k+1:Nat):Int)∧TT 1 (AG (jV s w) (k,RM) (k+1,RM))))))) (TT 1 (GO (jW s w) (0,RM) (∀j RM,(jW s w).inv (j,RM)→CS ((j:Int)<(s.I.length:Int)) (TT 5 ((True∧(decide ((j:Int)<(s.I.length:Int)))=true)∧TT 3 (CB (s.data) (TT 3 (IX (j:Int) s.I.length∧TT 3 (CD ((s.I.getD j 0)=w) (TT 4 (an [[(i6 18),(dS e0),(i6 (j:Int)),(dS e0),(i6 0),(dS e0),.nils]] ([(⟨18,e0,⟨(j:Int),e0⟩,⟨0,e0⟩,[]⟩:Ex)].map (eA 1))∧(RM.length+([(⟨18,e0,⟨(j:Int),e0⟩,⟨0,e0⟩,[]⟩:Ex)].map (eA 1)).length≤137438953472∧RM.map (eA 1)++[(⟨18,e0,⟨(j:Int),e0⟩,⟨0,e0⟩,[]⟩:Ex)].map (eA 1)=(RM++[(⟨18,e0,⟨(j:Int),e0⟩,⟨0,e0⟩,[]⟩:Ex)]).map (eA 1))∧TT 2 (W6 ((j+1:Nat):Int)∧TT 1 (AG (jW s w) (j,RM) (j+1,RM++[(⟨18,e0,⟨(j:Int),e0⟩,⟨0,e0⟩,[]⟩:Ex)]))))) (TT 1 (W6 ((j+1:Nat):Int)∧TT 1 (AG (jW s w) (j,RM) (j+1,RM))))))) (TT 3 (RM.map (eA 1)=(cy s w).map (eA 1)))))) (TT 5 ((True∧(decide ((j:Int)<(s.I.length:Int)))=false)∧TT 6 (RM.map (eA 1)=(cy s w).map (eA 1)))))))))))) (.w 1 [(0,.box 64 7 (eA 1) dE [])]<|.l (jV s w) (0,[]) (fun ⟨k,RM⟩=>.b 13 (.b 22 (.w 6 [(4,.box 64 7 (eA 1) dE [(⟨16,e0,⟨(k:Int),e0⟩,⟨0,e0⟩,[]⟩:Ex)]),(5,.box 64 7 (eA 1) dE (RM++[(⟨16,e0,⟨(k:Int),e0⟩,⟨0,e0⟩,[]⟩:Ex)]))]<|.w 4 [(1,.val (i6 ((k+1:Nat):Int)))]<|.e) (.w 4 [(1,.val (i6 ((k+1:Nat):Int)))]<|.e)) (.l (jW s w) (0,RM) (fun ⟨j,RM⟩=>.s 8 ((j:Int)<(s.I.length:Int)) (.w 8 [(5,.val (dB true))]<|.b 37 (.b 46 (.w 11 [(4,.box 64 7 (eA 1) dE [(⟨18,e0,⟨(j:Int),e0⟩,⟨0,e0⟩,[]⟩:Ex)]),(5,.box 64 7 (eA 1) dE (RM++[(⟨18,e0,⟨(j:Int),e0⟩,⟨0,e0⟩,[]⟩:Ex)]))]<|.w 9 [(1,.val (i6 ((j+1:Nat):Int)))]<|.e) (.w 9 [(1,.val (i6 ((j+1:Nat):Int)))]<|.e)) (.e)) (.w 8 [(5,.val (dB false))]<|.e))))) Try.func96 rfl rfl rfl (by kernel_rfl) ?_
 refine tt ⟨oK,tt ⟨rfl,⟨by omega,rfl,by simp⟩,?_⟩⟩
 intro k RM F'
 obtain⟨hk,Tw,Sb⟩:=F'
 refine tt (cd (fun hc13=>?_) (fun hc13=>?_))
 · refine tt ⟨ix,tt (cd (fun TP=>?_) (fun TP=>?_))⟩
   · refine tt ⟨⟨⟨rfl,rfl,rfl,rfl,rfl,rfl,rfl,oK⟩,oK⟩,⟨⟨by simp only[Py,P8,PP];first | omega | (simp;first | done | omega),by simp only[P9,QJ,Qk]⟩,tt ⟨w6,tt ⟨(k+1,RM++[(⟨16,e0,⟨(k:Int),e0⟩,⟨0,e0⟩,[]⟩:Ex)]),rfl,?_,(?_:s.Pe.length-(k+1)<s.Pe.length-k)⟩⟩⟩⟩
     · refine⟨by omega,?_,om⟩
       rw[Tw]
       first | exact my TP | exact pB TP
     · omega
   · refine tt ⟨w6,tt ⟨(k+1,RM),rfl,?_,(?_:s.Pe.length-(k+1)<s.Pe.length-k)⟩⟩
     · refine⟨by omega,?_,om⟩
       rw[Tw]
       first | exact my TP | exact pB TP
     · omega
 · refine tt ?_
   have S6:k=s.Pe.length:=by omega
   refine⟨rfl,⟨by omega,fun _=>rfl,by rw[Tw,S6];simp[eH],by omega⟩,?_⟩
   intro j RM F'
   obtain⟨hj,hd0,Vi,hal2⟩:=F'
   refine⟨fun Ru=>?_,fun Ru=>?_⟩
   · refine tt ⟨(vT Ru),tt ⟨fun TR=>?_,fun TR=>?_⟩⟩
     · refine tt ⟨ix,tt (cd (fun SB=>?_) (fun SB=>?_))⟩
       · refine tt ⟨⟨⟨rfl,rfl,rfl,rfl,rfl,rfl,rfl,oK⟩,oK⟩,⟨⟨by simp only[Py,P8,PP];first | omega | (simp;first | done | omega),by simp only[P9,QJ,Qk]⟩,tt ⟨w6,tt ⟨(j+1,RM++[(⟨18,e0,⟨(j:Int),e0⟩,⟨0,e0⟩,[]⟩:Ex)]),rfl,?_,(?_:s.I.length-(j+1)<s.I.length-j)⟩⟩⟩⟩
         · refine⟨by omega,fun h=>by simp_all,?_,om⟩
           rw[Vi]
           first | (rw[P3];exact congrArg _ (my SB)) | exact congrArg _ (pB SB)
         · omega
       · refine tt ⟨w6,tt ⟨(j+1,RM),rfl,?_,(?_:s.I.length-(j+1)<s.I.length-j)⟩⟩
         · refine⟨by omega,fun h=>by simp_all,?_,om⟩
           rw[Vi]
           first | (rw[P3];exact congrArg _ (my SB)) | exact congrArg _ (pB SB)
         · omega
     · refine tt (congrArg _ (?_:RM=(cy s w)))
       exact BL Vi hd0 (fun h=>by first | omega | (rw[h]at TR;cases TR))
   · refine tt ⟨(vF Ru),tt (congrArg _ (?_:RM=(cy s w)))⟩
     exact BL Vi hd0 (fun h=>by first | omega | (rw[h]at TR;cases TR))
abbrev MG (s:Sg) (w b:Int) (n:Nat):Ct:=⟨90,[(.agg (pT s)),(i6 w),(i6 b)],true,(.agg [(i6 ((a9 s w b).op)),(dS ((a9 s w b).name)),(i6 (((a9 s w b).k).n)),(dS (((a9 s w b).k).p)),(i6 (((a9 s w b).w).n)),(dS (((a9 s w b).w).p)),(dL 7 (eA n) dE ((a9 s w b).args))])⟩
theorem CR (s:Sg) (w b:Int) (n:Nat) (h1:0≤w) (h2:w≤62) (hb:0≤b) (SD:b≤255) (hr:s.Pe.length≤100) (ht:s.I.length≤100):CC (MG s w b n):=by
 have RA:=HN s w
 refine aq.vc (V:=TT 4 (CC (Ob s w)∧TT 1 (CS ((((cy s w).length:Nat):Int)=0) (TT 3 ((True∧(decide ((((cy s w).length:Nat):Int)=0))=true)∧TT 5 (QD b 4∧TT 1 (CC (MF (b / 4) w n)∧TT 2 (((d8 (b / 4) w).op)=((a9 s w b).op)∧((d8 (b / 4) w).name)=((a9 s w b).name)∧(((d8 (b / 4) w).k).n)=(((a9 s w b).k).n)∧(((d8 (b / 4) w).k).p)=(((a9 s w b).k).p)∧(((d8 (b / 4) w).w).n)=(((a9 s w b).w).n)∧(((d8 (b / 4) w).w).p)=(((a9 s w b).w).p)∧((d8 (b / 4) w).args).map (eA n)=((a9 s w b).args).map (eA n)∧True))))) (TT 3 ((True∧(decide ((((cy s w).length:Nat):Int)=0))=false)∧TT 1 (QM b 4∧TT 2 (CD ((b%4)=0) (TT 1 (QD b 4∧TT 1 (CC (MF (b / 4) w n)∧TT 2 (((d8 (b / 4) w).op)=((a9 s w b).op)∧((d8 (b / 4) w).name)=((a9 s w b).name)∧(((d8 (b / 4) w).k).n)=(((a9 s w b).k).n)∧(((d8 (b / 4) w).k).p)=(((a9 s w b).k).p)∧(((d8 (b / 4) w).w).n)=(((a9 s w b).w).n)∧(((d8 (b / 4) w).w).p)=(((a9 s w b).w).p)∧((d8 (b / 4) w).args).map (eA n)=((a9 s w b).args).map (eA n)∧True)))) (TT 2 (QD b 4∧TT 2 (((((cy s w).length:Nat):Int)≠0∧(Int.tmod (b / 4) (((cy s w).length:Nat):Int))=(b / 4%((cy s w).length:Int)))∧IX (b / 4%((cy s w).length:Int)) ((cy s w).length)∧TT 3 ((((cy s w).getD ((b / 4%((cy s w).length:Int)).toNat) dE).op)=((a9 s w b).op)∧(((cy s w).getD ((b / 4%((cy s w).length:Int)).toNat) dE).name)=((a9 s w b).name)∧((((cy s w).getD ((b / 4%((cy s w).length:Int)).toNat) dE).k).n)=(((a9 s w b).k).n)∧((((cy s w).getD ((b / 4%((cy s w).length:Int)).toNat) dE).k).p)=(((a9 s w b).k).p)∧((((cy s w).getD ((b / 4%((cy s w).length:Int)).toNat) dE).w).n)=(((a9 s w b).w).n)∧((((cy s w).getD ((b / 4%((cy s w).length:Int)).toNat) dE).w).p)=(((a9 s w b).w).p)∧(((cy s w).getD ((b / 4%((cy s w).length:Int)).toNat) dE).args).map (eA 0)=((a9 s w b).args).map (eA n)∧True))))))))))) (.w 1 [(2,(Ob s w).O)]<|.s 2 ((((cy s w).length:Nat):Int)=0) (.w 2 [(3,.val (dB true))]<|.w 3 [(1,.val (i6 (b / 4))),(3,(MF (b / 4) w n).O)]<|.e) (.w 2 [(3,.val (dB false)),(5,.val (i6 (b%4)))]<|.b 18 (.w 3 [(1,.val (i6 (b / 4))),(3,(MF (b / 4) w n).O)]<|.e) (.w 4 [(2,.val (i6 (b / 4))),(5,.val (i6 (b / 4%((cy s w).length:Int))))]<|.e))) Try.func90 rfl rfl rfl (by kernel_rfl) ?_
 refine tt ⟨(Ef s w hr ht),tt ⟨fun Ru=>?_,fun Ru=>?_⟩⟩
 · refine tt ⟨(vT Ru),tt ⟨qd,tt ⟨(CQ (b / 4) w n om om),tt ⟨?_,?_,?_,?_,?_,?_,(congrArg _ (?_:((d8 (b / 4) w).args)=((a9 s w b).args))),oK⟩⟩⟩⟩
   all_goals (rw[Fp (.inl (by omega))])
 · refine tt ⟨(vF Ru),tt ⟨qm,tt (cd (fun Vs=>?_) (fun Vs=>?_))⟩⟩
   · refine tt ⟨qd,tt ⟨(CQ (b / 4) w n om om),tt ⟨?_,?_,?_,?_,?_,?_,(congrArg _ (?_:((d8 (b / 4) w).args)=((a9 s w b).args))),oK⟩⟩⟩
     all_goals (rw[Fp (.inr Vs)])
   · refine tt ⟨qd,tt ⟨⟨om,(Qh (by omega))⟩,⟨(by exact OU Ru),tt ⟨?_,?_,?_,?_,?_,?_,?_,oK⟩⟩⟩⟩
     all_goals (first | (rw[vy,← Fq Ru Vs,vy];rfl) | rw[Fq Ru Vs])
abbrev sB (b:List Int) (i:Nat) (s:Sg) (w:Int) (d n:Nat):Ct:=⟨77,[(.agg [(LY b),(i6 (i:Int))]),(.agg (pT s)),(.agg [(i6 w),(i6 (d:Int))])],true,(.agg [(i6 (((ap s b d i w).1).op)),(dS (((ap s b d i w).1).name)),(i6 ((((ap s b d i w).1).k).n)),(dS ((((ap s b d i w).1).k).p)),(i6 ((((ap s b d i w).1).w).n)),(dS ((((ap s b d i w).1).w).p)),(dL 7 (eA n) dE (((ap s b d i w).1).args)),(LY b),(i6 (((ap s b d i w).2:Nat):Int))])⟩
abbrev MH (b:List Int) (i:Nat) (s:Sg) (w z:Int) (d n:Nat):Ct:=⟨91,[(.agg [(LY b),(i6 (i:Int))]),(.agg (pT s)),(.agg [(i6 w),(i6 ((d+2:Nat):Int)),(i6 z)])],true,(.agg [(i6 (((br s (ap s b (d+1)) w z i).1).op)),(dS (((br s (ap s b (d+1)) w z i).1).name)),(i6 ((((br s (ap s b (d+1)) w z i).1).k).n)),(dS ((((br s (ap s b (d+1)) w z i).1).k).p)),(i6 ((((br s (ap s b (d+1)) w z i).1).w).n)),(dS ((((br s (ap s b (d+1)) w z i).1).w).p)),(dL 7 (eA (n+1)) dE (((br s (ap s b (d+1)) w z i).1).args)),(LY b),(i6 (((br s (ap s b (d+1)) w z i).2:Nat):Int))])⟩
abbrev t1 (b:List Int) (i:Nat) (s:Sg) (w:Int) (z:Int) (d:Nat):Lp (Nat):=iC [3,4,6,7,8,9,10] 13 (fun (k:Nat)=>⟨[(3,(.ptr 0 0 0 0)),(4,(.ptr 1 0 0 0)),(6,(.ptr 3 0 0 0)),(7,(i6 w)),(8,(i6 ((d+2:Nat):Int))),(9,(i6 z)),(10,(i6 (k:Int)))],[(.var 103 [(LY b),(i6 (i:Int))]),(.var 139 (pT s)),(.var 119 [(i6 w),(i6 ((d+2:Nat):Int)),(i6 z)]),GQ,.dead,.dead,.dead,.dead,.dead,.dead,.dead,.dead,.dead]⟩) (fun (k:Nat)=>k≤s.Pd.length∧(z%3=0→nx s.Pd w s.Pd.length 0=nx s.Pd w (s.Pd.length-k) k)) (fun (k:Nat)=>s.Pd.length-k)
theorem GR (b:List Int) (i:Nat) (s:Sg) (w z:Int) (d n:Nat) (hb:gf b) (h1:1≤w) (h2:w+(d+2:Nat)≤8) (h3:d+2≤3) (hi:i+4^(d+1)≤9223372036854775807) (hm:s.Pd.length≤100) (hr:s.Pe.length≤100) (ht:s.I.length≤100) (hz:0≤z) (hz2:z≤18) (ih:∀(i:Nat) (w:Int),1≤w→w+(d+1:Nat)≤8→i+4^(d+1)≤9223372036854775807→CC (sB b i s w (d+1) n)):CC (MH b i s w z d n):=by
 refine aq.vc (V:=TT 4 (((0≤(0:Int)∧0<(3:Int))∧True)∧TT 1 (((0≤(1:Int)∧1<(3:Int))∧True)∧TT 1 (((0≤(2:Int)∧2<(3:Int))∧True)∧TT 5 (GO (t1 b i s w z d) 0 (∀k,(t1 b i s w z d).inv k→TT 5 (CD ((k:Int)<(s.Pd.length:Int)) (CS (((s.Pd.getD k aA).w)=w) (TT 3 (IX (k:Int) s.Pd.length∧TT 4 ((True∧(decide (((s.Pd.getD k aA).w)=w))=true)∧TT 1 (QM z 3∧TT 2 (CD ((z%3)=0) (TT 3 (QD z 3∧QM (z / 3) 3∧W6 (1+((z / 3)%3))∧TT 1 ((True∧(IntKind.wrap .i64 (((d+2:Nat):Int)-1))=((d+1:Nat):Int))∧TT 1 (CC (sB b i s (1+((z / 3)%3)) (d+1) n)∧TT 6 (an [[(i6 (((ap s b (d+1) i (1+((z / 3)%3))).1).op)),(dS (((ap s b (d+1) i (1+((z / 3)%3))).1).name)),(i6 ((((ap s b (d+1) i (1+((z / 3)%3))).1).k).n)),(dS ((((ap s b (d+1) i (1+((z / 3)%3))).1).k).p)),(i6 ((((ap s b (d+1) i (1+((z / 3)%3))).1).w).n)),(dS ((((ap s b (d+1) i (1+((z / 3)%3))).1).w).p)),(dL 7 (eA n) dE (((ap s b (d+1) i (1+((z / 3)%3))).1).args))]] ([(ap s b (d+1) i (1+((z / 3)%3))).1].map (eA (n+1)))∧TT 6 ((17:Int)=(((br s (ap s b (d+1)) w z i).1).op)∧e0=(((br s (ap s b (d+1)) w z i).1).name)∧(k:Int)=((((br s (ap s b (d+1)) w z i).1).k).n)∧e0=((((br s (ap s b (d+1)) w z i).1).k).p)∧(0:Int)=((((br s (ap s b (d+1)) w z i).1).w).n)∧e0=((((br s (ap s b (d+1)) w z i).1).w).p)∧[(ap s b (d+1) i (1+((z / 3)%3))).1].map (eA (n+1))=(((br s (ap s b (d+1)) w z i).1).args).map (eA (n+1))∧b.map (aa .u8)=b.map (aa .u8)∧(((ap s b (d+1) i (1+((z / 3)%3))).2:Nat):Int)=(((br s (ap s b (d+1)) w z i).2:Nat):Int)∧True)))))) (TT 1 (W6 ((k+1:Nat):Int)∧TT 1 (AG (t1 b i s w z d) k (k+1))))))))) (TT 3 (IX (k:Int) s.Pd.length∧TT 4 ((True∧(decide (((s.Pd.getD k aA).w)=w))=false)∧TT 5 (W6 ((k+1:Nat):Int)∧TT 1 (AG (t1 b i s w z d) k (k+1))))))) (CS ((z%3)=1) (TT 1 (QM z 3∧TT 1 ((True∧(decide ((z%3)=1))=true)∧TT 3 (CD (w>1) (TT 3 (W6 (w-1)∧TT 1 ((True∧(IntKind.wrap .i64 (((d+2:Nat):Int)-1))=((d+1:Nat):Int))∧TT 1 (CC (sB b i s (w-1) (d+1) n)∧TT 6 (an [[(i6 (((ap s b (d+1) i (w-1)).1).op)),(dS (((ap s b (d+1) i (w-1)).1).name)),(i6 ((((ap s b (d+1) i (w-1)).1).k).n)),(dS ((((ap s b (d+1) i (w-1)).1).k).p)),(i6 ((((ap s b (d+1) i (w-1)).1).w).n)),(dS ((((ap s b (d+1) i (w-1)).1).w).p)),(dL 7 (eA n) dE (((ap s b (d+1) i (w-1)).1).args))]] ([(ap s b (d+1) i (w-1)).1].map (eA (n+1)))∧TT 6 ((13:Int)=(((br s (ap s b (d+1)) w z i).1).op)∧e0=(((br s (ap s b (d+1)) w z i).1).name)∧(0:Int)=((((br s (ap s b (d+1)) w z i).1).k).n)∧e0=((((br s (ap s b (d+1)) w z i).1).k).p)∧w=((((br s (ap s b (d+1)) w z i).1).w).n)∧e0=((((br s (ap s b (d+1)) w z i).1).w).p)∧[(ap s b (d+1) i (w-1)).1].map (eA (n+1))=(((br s (ap s b (d+1)) w z i).1).args).map (eA (n+1))∧b.map (aa .u8)=b.map (aa .u8)∧(((ap s b (d+1) i (w-1)).2:Nat):Int)=(((br s (ap s b (d+1)) w z i).2:Nat):Int)∧True)))))) (TT 4 (QD z 3∧QM (z / 3) 2∧W6 (w+((z / 3)%2))∧TT 1 ((True∧(IntKind.wrap .i64 (((d+2:Nat):Int)-1))=((d+1:Nat):Int))∧TT 1 (CC (sB b i s (w+((z / 3)%2)) (d+1) n)∧TT 3 (QD z 3∧QM (z / 3) 2∧TT 5 (an [[(i6 (((ap s b (d+1) i (w+((z / 3)%2))).1).op)),(dS (((ap s b (d+1) i (w+((z / 3)%2))).1).name)),(i6 ((((ap s b (d+1) i (w+((z / 3)%2))).1).k).n)),(dS ((((ap s b (d+1) i (w+((z / 3)%2))).1).k).p)),(i6 ((((ap s b (d+1) i (w+((z / 3)%2))).1).w).n)),(dS ((((ap s b (d+1) i (w+((z / 3)%2))).1).w).p)),(dL 7 (eA n) dE (((ap s b (d+1) i (w+((z / 3)%2))).1).args))]] ([(ap s b (d+1) i (w+((z / 3)%2))).1].map (eA (n+1)))∧TT 6 ((12:Int)=(((br s (ap s b (d+1)) w z i).1).op)∧e0=(((br s (ap s b (d+1)) w z i).1).name)∧((z / 3)%2)=((((br s (ap s b (d+1)) w z i).1).k).n)∧e0=((((br s (ap s b (d+1)) w z i).1).k).p)∧w=((((br s (ap s b (d+1)) w z i).1).w).n)∧e0=((((br s (ap s b (d+1)) w z i).1).w).p)∧[(ap s b (d+1) i (w+((z / 3)%2))).1].map (eA (n+1))=(((br s (ap s b (d+1)) w z i).1).args).map (eA (n+1))∧b.map (aa .u8)=b.map (aa .u8)∧(((ap s b (d+1) i (w+((z / 3)%2))).2:Nat):Int)=(((br s (ap s b (d+1)) w z i).2:Nat):Int)∧True))))))))))) (TT 1 (QM z 3∧TT 1 ((True∧(decide ((z%3)=1))=false)∧TT 7 (QD z 3∧QM (z / 3) 2∧W6 (w+((z / 3)%2))∧TT 1 ((True∧(IntKind.wrap .i64 (((d+2:Nat):Int)-1))=((d+1:Nat):Int))∧TT 1 (CC (sB b i s (w+((z / 3)%2)) (d+1) n)∧TT 3 (QD z 3∧QM (z / 3) 2∧TT 5 (an [[(i6 (((ap s b (d+1) i (w+((z / 3)%2))).1).op)),(dS (((ap s b (d+1) i (w+((z / 3)%2))).1).name)),(i6 ((((ap s b (d+1) i (w+((z / 3)%2))).1).k).n)),(dS ((((ap s b (d+1) i (w+((z / 3)%2))).1).k).p)),(i6 ((((ap s b (d+1) i (w+((z / 3)%2))).1).w).n)),(dS ((((ap s b (d+1) i (w+((z / 3)%2))).1).w).p)),(dL 7 (eA n) dE (((ap s b (d+1) i (w+((z / 3)%2))).1).args))]] ([(ap s b (d+1) i (w+((z / 3)%2))).1].map (eA (n+1)))∧TT 6 ((12:Int)=(((br s (ap s b (d+1)) w z i).1).op)∧e0=(((br s (ap s b (d+1)) w z i).1).name)∧((z / 3)%2)=((((br s (ap s b (d+1)) w z i).1).k).n)∧e0=((((br s (ap s b (d+1)) w z i).1).k).p)∧w=((((br s (ap s b (d+1)) w z i).1).w).n)∧e0=((((br s (ap s b (d+1)) w z i).1).w).p)∧[(ap s b (d+1) i (w+((z / 3)%2))).1].map (eA (n+1))=(((br s (ap s b (d+1)) w z i).1).args).map (eA (n+1))∧b.map (aa .u8)=b.map (aa .u8)∧(((ap s b (d+1) i (w+((z / 3)%2))).2:Nat):Int)=(((br s (ap s b (d+1)) w z i).2:Nat):Int)∧True))))))))))))))))) (.l (t1 b i s w z d) 0 (fun k=>.b 24 (.s 5 (((s.Pd.getD k aA).w)=w) (.w 5 [(8,.val (dB true)),(10,.val (i6 (z%3)))]<|.b 39 (.w 6 [(3,.val (i6 (z / 3))),(4,.val (i6 ((z / 3)%3))),(5,.val (i6 (1+((z / 3)%3)))),(7,.val (i6 ((d+1:Nat):Int))),(9,(sB b i s (1+((z / 3)%3)) (d+1) n).O)]<|.w 7 [(4,.frz 64 7 (eA (n+1)) dE [(ap s b (d+1) i (1+((z / 3)%3))).1])]<|.e) (.w 4 [(1,.val (i6 ((k+1:Nat):Int)))]<|.e)) (.w 5 [(8,.val (dB false))]<|.w 4 [(1,.val (i6 ((k+1:Nat):Int)))]<|.e)) (.s 8 ((z%3)=1) (.w 8 [(1,.val (i6 (z%3))),(3,.val (dB true))]<|.b 65 (.w 9 [(3,.val (i6 (w-1))),(5,.val (i6 ((d+1:Nat):Int))),(7,(sB b i s (w-1) (d+1) n).O)]<|.w 10 [(4,.frz 64 7 (eA (n+1)) dE [(ap s b (d+1) i (w-1)).1])]<|.e) (.w 11 [(4,.val (i6 (z / 3))),(5,.val (i6 ((z / 3)%2))),(6,.val (i6 (w+((z / 3)%2)))),(8,.val (i6 ((d+1:Nat):Int))),(10,(sB b i s (w+((z / 3)%2)) (d+1) n).O)]<|.w 12 [(1,.val (i6 (z / 3))),(2,.val (i6 ((z / 3)%2))),(8,.frz 64 7 (eA (n+1)) dE [(ap s b (d+1) i (w+((z / 3)%2))).1])]<|.e)) (.w 8 [(1,.val (i6 (z%3))),(3,.val (dB false))]<|.w 11 [(4,.val (i6 (z / 3))),(5,.val (i6 ((z / 3)%2))),(6,.val (i6 (w+((z / 3)%2)))),(8,.val (i6 ((d+1:Nat):Int))),(10,(sB b i s (w+((z / 3)%2)) (d+1) n).O)]<|.w 12 [(1,.val (i6 (z / 3))),(2,.val (i6 ((z / 3)%2))),(8,.frz 64 7 (eA (n+1)) dE [(ap s b (d+1) i (w+((z / 3)%2))).1])]<|.e)))) Try.func91 rfl rfl rfl (by kernel_rfl) ?_
 refine tt ⟨⟨by omega,oK⟩,tt ⟨⟨by omega,oK⟩,tt ⟨⟨by omega,oK⟩,tt ⟨rfl,⟨by omega,fun _=>rfl⟩,?_⟩⟩⟩⟩
 intro k F'
 obtain⟨hk,hmf⟩:=F'
 refine tt (cd (fun hc24=>?_) (fun hc24=>?_))
 · refine⟨fun Ru=>?_,fun Ru=>?_⟩
   · refine tt ⟨ix,tt ⟨(vT Ru),tt ⟨qm,tt (cd (fun Sf=>?_) (fun Sf=>?_))⟩⟩⟩
     · refine tt ⟨qd,⟨qm,⟨w6,tt ⟨⟨oK,(rY (by omega) (by omega) (by omega))⟩,tt ⟨(ih _ _ (by omega) (by omega) (by omega)),tt ⟨⟨⟨rfl,rfl,rfl,rfl,rfl,rfl,rfl,oK⟩,oK⟩,tt ⟨?_,?_,?_,?_,?_,?_,(congrArg _ (?_:[(ap s b (d+1) i (1+((z / 3)%3))).1]=(((br s (ap s b (d+1)) w z i).1).args))),rfl,?_,oK⟩⟩⟩⟩⟩⟩⟩
       all_goals (rw[LU Sf ((hmf Sf).trans (Ft (by omega) Ru))];first | done | rfl)
     · refine tt ⟨w6,tt ⟨(k+1),rfl,?_,(?_:s.Pd.length-(k+1)<s.Pd.length-k)⟩⟩
       · exact⟨by omega,fun h=>by first | exact absurd h (by assumption) | (rw[hmf h];exact BO (by omega) (by assumption))⟩
       · omega
   · refine tt ⟨ix,tt ⟨(vF Ru),tt ⟨w6,tt ⟨(k+1),rfl,?_,(?_:s.Pd.length-(k+1)<s.Pd.length-k)⟩⟩⟩⟩
     · exact⟨by omega,fun h=>by first | exact absurd h (by assumption) | (rw[hmf h];exact BO (by omega) (by assumption))⟩
     · omega
 · refine⟨fun RQ=>?_,fun RQ=>?_⟩
   · refine tt ⟨qm,tt ⟨(vT RQ),tt (cd (fun Vt=>?_) (fun Vt=>?_))⟩⟩
     · refine tt ⟨w6,tt ⟨⟨oK,(rY (by omega) (by omega) (by omega))⟩,tt ⟨(ih _ _ (by omega) (by omega) (by omega)),tt ⟨⟨⟨rfl,rfl,rfl,rfl,rfl,rfl,rfl,oK⟩,oK⟩,tt ⟨?_,?_,?_,?_,?_,?_,(congrArg _ (?_:[(ap s b (d+1) i (w-1)).1]=(((br s (ap s b (d+1)) w z i).1).args))),rfl,?_,oK⟩⟩⟩⟩⟩
       all_goals (first | rw[Fr (by assumption) (by assumption)] | rw[Fs (fun h=>(hmf h).trans (tz (by omega))) (by omega)];first | done | rfl)
     · refine tt ⟨qd,⟨qm,⟨w6,tt ⟨⟨oK,(rY (by omega) (by omega) (by omega))⟩,tt ⟨(ih _ _ (by omega) (by omega) (by omega)),tt ⟨qd,⟨qm,tt ⟨⟨⟨rfl,rfl,rfl,rfl,rfl,rfl,rfl,oK⟩,oK⟩,tt ⟨?_,?_,?_,?_,?_,?_,(congrArg _ (?_:[(ap s b (d+1) i (w+((z / 3)%2))).1]=(((br s (ap s b (d+1)) w z i).1).args))),rfl,?_,oK⟩⟩⟩⟩⟩⟩⟩⟩⟩
       all_goals (first | rw[Fr (by assumption) (by assumption)] | rw[Fs (fun h=>(hmf h).trans (tz (by omega))) (by omega)];first | done | rfl)
   · refine tt ⟨qm,tt ⟨(vF RQ),tt ⟨qd,⟨qm,⟨w6,tt ⟨⟨oK,(rY (by omega) (by omega) (by omega))⟩,tt ⟨(ih _ _ (by omega) (by omega) (by omega)),tt ⟨qd,⟨qm,tt ⟨⟨⟨rfl,rfl,rfl,rfl,rfl,rfl,rfl,oK⟩,oK⟩,tt ⟨?_,?_,?_,?_,?_,?_,(congrArg _ (?_:[(ap s b (d+1) i (w+((z / 3)%2))).1]=(((br s (ap s b (d+1)) w z i).1).args))),rfl,?_,oK⟩⟩⟩⟩⟩⟩⟩⟩⟩⟩⟩
     all_goals (first | rw[Fr (by assumption) (by assumption)] | rw[Fs (fun h=>(hmf h).trans (tz (by omega))) (by omega)];first | done | rfl)
theorem IZ (b:List Int) (i:Nat) (s:Sg) (w:Int) (d n:Nat) (hb:gf b) (h1:1≤w) (h2:w+(d:Nat)≤8) (h3:d≤3) (hi:i+4^(d)≤9223372036854775807) (hm:s.Pd.length≤100) (hr:s.Pe.length≤100) (ht:s.I.length≤100) (hd:d≤1):CC (sB b i s w d n):=by
 have hy:=b5 hb i
 have hp:1≤4^d:=Nat.one_le_pow _ _ (by omega)
 refine aq.vc (V:=TT 4 (((0≤(0:Int)∧0<(2:Int))∧True)∧TT 1 (((0≤(1:Int)∧1<(2:Int))∧True)∧TT 4 (CC (Ee b i)∧TT 2 (CC (AU b i 1)∧TT 2 (QM (b.getD i 0) 14∧TT 3 ((True∧(decide ((d:Int)≤1))=true)∧TT 6 (QD (b.getD i 0) 14∧CC (MG s w ((b.getD i 0) / 14) n)∧TT 4 (((a9 s w ((b.getD i 0) / 14)).op)=(((ap s b d i w).1).op)∧((a9 s w ((b.getD i 0) / 14)).name)=(((ap s b d i w).1).name)∧(((a9 s w ((b.getD i 0) / 14)).k).n)=((((ap s b d i w).1).k).n)∧(((a9 s w ((b.getD i 0) / 14)).k).p)=((((ap s b d i w).1).k).p)∧(((a9 s w ((b.getD i 0) / 14)).w).n)=((((ap s b d i w).1).w).n)∧(((a9 s w ((b.getD i 0) / 14)).w).p)=((((ap s b d i w).1).w).p)∧((a9 s w ((b.getD i 0) / 14)).args).map (eA n)=(((ap s b d i w).1).args).map (eA n)∧b.map (aa .u8)=b.map (aa .u8)∧((i+1:Nat):Int)=(((ap s b d i w).2:Nat):Int)∧True))))))))) (.w 2 [(1,(Ee b i).O)]<|.w 3 [(1,(AU b i 1).O)]<|.w 4 [(1,.val (i6 ((b.getD i 0)%14)))]<|.w 5 [(2,.val (dB true))]<|.w 6 [(3,.val (i6 ((b.getD i 0) / 14))),(4,(MG s w ((b.getD i 0) / 14) n).O)]<|.e) Try.func77 rfl rfl rfl (by kernel_rfl) ?_
 refine tt ⟨⟨by omega,oK⟩,tt ⟨⟨by omega,oK⟩,tt ⟨(mZ b i hb),tt ⟨(t0 b i 1 om),tt ⟨qm,tt ⟨(vT (by omega)),tt ⟨qd,⟨(CR s w ((b.getD i 0) / 14) n om om om om hr ht),tt ⟨?_,?_,?_,?_,?_,?_,(congrArg _ (?_:((a9 s w ((b.getD i 0) / 14)).args)=(((ap s b d i w).1).args))),rfl,?_,oK⟩⟩⟩⟩⟩⟩⟩⟩⟩
 all_goals (rw[Fu hd])
abbrev fB (b:List Int) (i:Nat) (s:Sg) (w:Int) (d:Nat):Lp (Int×List Int):=o0 [3,4,6,8,11,12] 13 (fun (op:Int) (aw:List Int)=>⟨[(3,(.ptr 0 0 0 0)),(4,(.ptr 1 0 0 0)),(6,(.ptr 3 0 0 0)),(8,(i6 ((d+2:Nat):Int))),(11,(.ptr 11 0 0 0)),(12,(LI aw))],[(.var 103 [(LY b),(i6 ((i+1:Nat):Int))]),(.var 139 (pT s)),(.var 146 [(i6 w),(i6 ((d+2:Nat):Int))]),GQ,.dead,.dead,.dead,.dead,.dead,.dead,.dead,(.var 64 [(i6 op),(dS e0),(i6 0),(dS e0),(i6 0),(dS e0),.nils]),.dead]⟩) (fun (op:Int) (aw:List Int)=>op=qr (b.getD i 0) w∧aw=jm (b.getD i 0) w) (fun (op:Int) (aw:List Int)=>0)
abbrev sC (b:List Int) (i:Nat) (s:Sg) (w:Int) (d:Nat) (n:Nat) (op:Int) (aw:List Int):Lp (Nat):=iC [3,4,6,8,11,12,13] 14 (fun (k:Nat)=>⟨[(3,(.ptr 0 0 0 0)),(4,(.ptr 1 0 0 0)),(6,(.ptr 3 0 0 0)),(8,(i6 ((d+2:Nat):Int))),(11,(.ptr 11 0 0 0)),(12,(LI aw)),(13,(i6 (k:Int)))],[(.var 103 [(LY b),(i6 (((bi (ap s b (d+1)) (aw.take k) (i+1)).2:Nat):Int))]),(.var 139 (pT s)),(.var 146 [(i6 w),(i6 ((d+2:Nat):Int))]),GQ,.dead,.dead,.dead,.dead,.dead,.dead,.dead,(.var 64 [(i6 op),(dS e0),(i6 0),(dS e0),(i6 0),(dS e0),(.own 13)]),.dead,(.arr 64 7 (eA (n+1)) dE ((bi (ap s b (d+1)) (aw.take k) (i+1)).1))]⟩) (fun (k:Nat)=>k≤aw.length) (fun (k:Nat)=>aw.length-k)
theorem CT (b:List Int) (i:Nat) (s:Sg) (w:Int) (d n:Nat) (hb:gf b) (h1:1≤w) (h2:w+(d+2:Nat)≤8) (h3:d+2≤3) (hi:i+4^(d+2)≤9223372036854775807) (hm:s.Pd.length≤100) (hr:s.Pe.length≤100) (ht:s.I.length≤100) (ih:∀(i:Nat) (w:Int),1≤w→w+(d+1:Nat)≤8→i+4^(d+1)≤9223372036854775807→CC (sB b i s w (d+1) n)):CC (sB b i s w (d+2) (n+1)):=by
 have hy:=b5 hb i
 have hp:1≤4^(d+1):=Nat.one_le_pow _ _ (by omega)
 have hpow:4^(d+2)=4*4^(d+1):=by rw[Nat.pow_succ];omega
 refine aq.vc (V:=TT 4 (((0≤(0:Int)∧0<(2:Int))∧True)∧TT 1 (((0≤(1:Int)∧1<(2:Int))∧True)∧TT 4 (CC (Ee b i)∧TT 2 (CC (AU b i 1)∧TT 2 (QM (b.getD i 0) 14∧TT 3 ((True∧(decide (((d+2:Nat):Int)≤1))=false)∧TT 3 (CD (((b.getD i 0)%14)<2) (TT 3 (QD (b.getD i 0) 14∧CC (MG s w ((b.getD i 0) / 14) (n+1))∧TT 4 (((a9 s w ((b.getD i 0) / 14)).op)=(((ap s b (d+2) i w).1).op)∧((a9 s w ((b.getD i 0) / 14)).name)=(((ap s b (d+2) i w).1).name)∧(((a9 s w ((b.getD i 0) / 14)).k).n)=((((ap s b (d+2) i w).1).k).n)∧(((a9 s w ((b.getD i 0) / 14)).k).p)=((((ap s b (d+2) i w).1).k).p)∧(((a9 s w ((b.getD i 0) / 14)).w).n)=((((ap s b (d+2) i w).1).w).n)∧(((a9 s w ((b.getD i 0) / 14)).w).p)=((((ap s b (d+2) i w).1).w).p)∧((a9 s w ((b.getD i 0) / 14)).args).map (eA (n+1))=(((ap s b (d+2) i w).1).args).map (eA (n+1))∧b.map (aa .u8)=b.map (aa .u8)∧((i+1:Nat):Int)=(((ap s b (d+2) i w).2:Nat):Int)∧True))) (CS (((b.getD i 0)%14)=2) (TT 2 ((True∧(decide (((b.getD i 0)%14)=2))=true)∧TT 8 (QD (b.getD i 0) 14∧TT 1 (CC (MH b (i+1) s w ((b.getD i 0) / 14) d n)∧TT 2 ((((br s (ap s b (d+1)) w ((b.getD i 0) / 14) (i+1)).1).op)=(((ap s b (d+2) i w).1).op)∧(((br s (ap s b (d+1)) w ((b.getD i 0) / 14) (i+1)).1).name)=(((ap s b (d+2) i w).1).name)∧((((br s (ap s b (d+1)) w ((b.getD i 0) / 14) (i+1)).1).k).n)=((((ap s b (d+2) i w).1).k).n)∧((((br s (ap s b (d+1)) w ((b.getD i 0) / 14) (i+1)).1).k).p)=((((ap s b (d+2) i w).1).k).p)∧((((br s (ap s b (d+1)) w ((b.getD i 0) / 14) (i+1)).1).w).n)=((((ap s b (d+2) i w).1).w).n)∧((((br s (ap s b (d+1)) w ((b.getD i 0) / 14) (i+1)).1).w).p)=((((ap s b (d+2) i w).1).w).p)∧(((br s (ap s b (d+1)) w ((b.getD i 0) / 14) (i+1)).1).args).map (eA (n+1))=(((ap s b (d+2) i w).1).args).map (eA (n+1))∧b.map (aa .u8)=b.map (aa .u8)∧(((br s (ap s b (d+1)) w ((b.getD i 0) / 14) (i+1)).2:Nat):Int)=(((ap s b (d+2) i w).2:Nat):Int)∧True))))) (TT 2 ((True∧(decide (((b.getD i 0)%14)=2))=false)∧TT 3 (CD (((b.getD i 0)%14)=3) (TT 5 (QD (b.getD i 0) 14∧TT 1 (CC (MH b (i+1) s w ((b.getD i 0) / 14) d n)∧TT 2 ((((br s (ap s b (d+1)) w ((b.getD i 0) / 14) (i+1)).1).op)=(((ap s b (d+2) i w).1).op)∧(((br s (ap s b (d+1)) w ((b.getD i 0) / 14) (i+1)).1).name)=(((ap s b (d+2) i w).1).name)∧((((br s (ap s b (d+1)) w ((b.getD i 0) / 14) (i+1)).1).k).n)=((((ap s b (d+2) i w).1).k).n)∧((((br s (ap s b (d+1)) w ((b.getD i 0) / 14) (i+1)).1).k).p)=((((ap s b (d+2) i w).1).k).p)∧((((br s (ap s b (d+1)) w ((b.getD i 0) / 14) (i+1)).1).w).n)=((((ap s b (d+2) i w).1).w).n)∧((((br s (ap s b (d+1)) w ((b.getD i 0) / 14) (i+1)).1).w).p)=((((ap s b (d+2) i w).1).w).p)∧(((br s (ap s b (d+1)) w ((b.getD i 0) / 14) (i+1)).1).args).map (eA (n+1))=(((ap s b (d+2) i w).1).args).map (eA (n+1))∧b.map (aa .u8)=b.map (aa .u8)∧(((br s (ap s b (d+1)) w ((b.getD i 0) / 14) (i+1)).2:Nat):Int)=(((ap s b (d+2) i w).2:Nat):Int)∧True)))) (an [[(i6 2)],[(i6 3)],[(i6 4)],[(i6 5)],[(i6 6)],[(i6 7)],[(i6 10)],[(i6 8)],[(i6 9)],[(i6 11)]] ([2,3,4,5,6,7,10,8,9,11].map (aa .i64))∧TT 1 (W6 (((b.getD i 0)%14)-4)∧IX (((b.getD i 0)%14)-4) ([2,3,4,5,6,7,10,8,9,11].length)∧(True∧([2,3,4,5,6,7,10,8,9,11].getD ((((b.getD i 0)%14)-4).toNat) 0)=(iI (b.getD i 0%14)))∧TT 5 (an [[(i6 w)],[(i6 w)]] ([w,w].map (aa .i64))∧TT 1 (TT 4 (CD ((iI (b.getD i 0%14))=2) (TT 1 (an [[(i6 w)]] ([w].map (aa .i64))∧TT 1 (AT (fB b i s w d) (iI (b.getD i 0%14),[w])))) (TT 2 (CD ((iI (b.getD i 0%14))=10) (TT 2 (an [[(i6 1)],[(i6 w)],[(i6 w)]] ([1,w,w].map (aa .i64))∧TT 1 (AT (fB b i s w d) (iI (b.getD i 0%14),[1,w,w])))) (TT 2 (CD ((iI (b.getD i 0%14))=8) ((decide ((iI (b.getD i 0%14))=8))=true∧TT 2 (CD (w>1) (TT 2 (AT (fB b i s w d) (5,[w,w]))) (TT 1 (QD (b.getD i 0) 14∧QM ((b.getD i 0) / 14) 3∧W6 (1+(((b.getD i 0) / 14)%3))∧TT 1 (QD (b.getD i 0) 14∧QM ((b.getD i 0) / 14) 3∧W6 (1+(((b.getD i 0) / 14)%3))∧an [[(i6 (1+(((b.getD i 0) / 14)%3)))],[(i6 (1+(((b.getD i 0) / 14)%3)))]] ([1+(((b.getD i 0) / 14)%3),1+(((b.getD i 0) / 14)%3)].map (aa .i64))∧TT 1 (AT (fB b i s w d) (iI (b.getD i 0%14),[1+(((b.getD i 0) / 14)%3),1+(((b.getD i 0) / 14)%3)]))))))) (TT 2 (CD ((iI (b.getD i 0%14))=9) (TT 2 (CD (w>1) (TT 2 (AT (fB b i s w d) (5,[w,w]))) (TT 1 (QD (b.getD i 0) 14∧QM ((b.getD i 0) / 14) 3∧W6 (1+(((b.getD i 0) / 14)%3))∧TT 1 (QD (b.getD i 0) 14∧QM ((b.getD i 0) / 14) 3∧W6 (1+(((b.getD i 0) / 14)%3))∧an [[(i6 (1+(((b.getD i 0) / 14)%3)))],[(i6 (1+(((b.getD i 0) / 14)%3)))]] ([1+(((b.getD i 0) / 14)%3),1+(((b.getD i 0) / 14)%3)].map (aa .i64))∧TT 1 (AT (fB b i s w d) (iI (b.getD i 0%14),[1+(((b.getD i 0) / 14)%3),1+(((b.getD i 0) / 14)%3)]))))))) (TT 2 (CD ((iI (b.getD i 0%14))=11) (TT 2 (CD (w=1) (TT 2 (AT (fB b i s w d) (3,[w,w]))) (TT 1 (W6 (w-1)∧an [[(i6 (w-1))],[(i6 1)]] ([w-1,1].map (aa .i64))∧TT 1 (AT (fB b i s w d) (iI (b.getD i 0%14),[w-1,1])))))) (AT (fB b i s w d) (iI (b.getD i 0%14),[w,w])))))))))))∧∀op aw,(fB b i s w d).inv (op,aw)→TT 1 (GO (sC b i s w d n op aw) 0 (∀k,(sC b i s w d n op aw).inv k→TT 4 (CD ((k:Int)<(aw.length:Int)) (TT 4 (IX (k:Int) aw.length∧TT 2 ((True∧(IntKind.wrap .i64 (((d+2:Nat):Int)-1))=((d+1:Nat):Int))∧TT 1 (CC (sB b ((bi (ap s b (d+1)) (aw.take k) (i+1)).2) s (aw.getD k 0) (d+1) n)∧TT 6 (an [[(i6 (((ap s b (d+1) ((bi (ap s b (d+1)) (aw.take k) (i+1)).2) (aw.getD k 0)).1).op)),(dS (((ap s b (d+1) ((bi (ap s b (d+1)) (aw.take k) (i+1)).2) (aw.getD k 0)).1).name)),(i6 ((((ap s b (d+1) ((bi (ap s b (d+1)) (aw.take k) (i+1)).2) (aw.getD k 0)).1).k).n)),(dS ((((ap s b (d+1) ((bi (ap s b (d+1)) (aw.take k) (i+1)).2) (aw.getD k 0)).1).k).p)),(i6 ((((ap s b (d+1) ((bi (ap s b (d+1)) (aw.take k) (i+1)).2) (aw.getD k 0)).1).w).n)),(dS ((((ap s b (d+1) ((bi (ap s b (d+1)) (aw.take k) (i+1)).2) (aw.getD k 0)).1).w).p)),(dL 7 (eA n) dE (((ap s b (d+1) ((bi (ap s b (d+1)) (aw.take k) (i+1)).2) (aw.getD k 0)).1).args))]] ([(ap s b (d+1) ((bi (ap s b (d+1)) (aw.take k) (i+1)).2) (aw.getD k 0)).1].map (eA (n+1)))∧(((bi (ap s b (d+1)) (aw.take k) (i+1)).1).length+([(ap s b (d+1) ((bi (ap s b (d+1)) (aw.take k) (i+1)).2) (aw.getD k 0)).1].map (eA (n+1))).length≤137438953472∧((bi (ap s b (d+1)) (aw.take k) (i+1)).1).map (eA (n+1))++[(ap s b (d+1) ((bi (ap s b (d+1)) (aw.take k) (i+1)).2) (aw.getD k 0)).1].map (eA (n+1))=((bi (ap s b (d+1)) (aw.take (k+1)) (i+1)).1).map (eA (n+1)))∧TT 3 ((True∧(b.map (aa .u8)=b.map (aa .u8)∧(((ap s b (d+1) ((bi (ap s b (d+1)) (aw.take k) (i+1)).2) (aw.getD k 0)).2:Nat):Int)=(((bi (ap s b (d+1)) (aw.take (k+1)) (i+1)).2:Nat):Int)∧True))∧TT 2 (W6 ((k+1:Nat):Int)∧TT 1 (AG (sC b i s w d n op aw) k (k+1))))))))) (TT 5 (op=(((ap s b (d+2) i w).1).op)∧e0=(((ap s b (d+2) i w).1).name)∧(0:Int)=((((ap s b (d+2) i w).1).k).n)∧e0=((((ap s b (d+2) i w).1).k).p)∧(0:Int)=((((ap s b (d+2) i w).1).w).n)∧e0=((((ap s b (d+2) i w).1).w).p)∧((bi (ap s b (d+1)) (aw.take k) (i+1)).1).map (eA (n+1))=(((ap s b (d+2) i w).1).args).map (eA (n+1))∧b.map (aa .u8)=b.map (aa .u8)∧(((bi (ap s b (d+1)) (aw.take k) (i+1)).2:Nat):Int)=(((ap s b (d+2) i w).2:Nat):Int)∧True))))))))))))))))))))) (.w 2 [(1,(Ee b i).O)]<|.w 3 [(1,(AU b i 1).O)]<|.w 4 [(1,.val (i6 ((b.getD i 0)%14)))]<|.w 5 [(2,.val (dB false))]<|.b 30 (.w 6 [(3,.val (i6 ((b.getD i 0) / 14))),(4,(MG s w ((b.getD i 0) / 14) (n+1)).O)]<|.e) (.s 7 (((b.getD i 0)%14)=2) (.w 7 [(2,.val (dB true))]<|.w 8 [(5,.val (i6 ((b.getD i 0) / 14))),(7,(MH b (i+1) s w ((b.getD i 0) / 14) d n).O)]<|.e) (.w 7 [(2,.val (dB false))]<|.b 43 (.w 8 [(5,.val (i6 ((b.getD i 0) / 14))),(7,(MH b (i+1) s w ((b.getD i 0) / 14) d n).O)]<|.e) (.w 9 [(0,.frz 3 1 (aa .i64) 0 [2,3,4,5,6,7,10,8,9,11]),(2,.val (i6 (((b.getD i 0)%14)-4))),(4,.val (i6 (iI (b.getD i 0%14))))]<|.w 10 [(2,.frz 3 1 (aa .i64) 0 [w,w])]<|.k 11 (fB b i s w d) (.b 63 (.w 13 [(1,.frz 3 1 (aa .i64) 0 [w])]<|.e) (.b 67 (.w 15 [(2,.frz 3 1 (aa .i64) 0 [1,w,w])]<|.e) (.b 72 (.t 72 (.b 76 (.e) (.w 20 [(1,.val (i6 ((b.getD i 0) / 14))),(2,.val (i6 (((b.getD i 0) / 14)%3))),(3,.val (i6 (1+(((b.getD i 0) / 14)%3)))),(5,.val (i6 ((b.getD i 0) / 14))),(6,.val (i6 (((b.getD i 0) / 14)%3))),(7,.val (i6 (1+(((b.getD i 0) / 14)%3)))),(8,.frz 3 1 (aa .i64) 0 [1+(((b.getD i 0) / 14)%3),1+(((b.getD i 0) / 14)%3)])]<|.e))) (.b 72 (.b 76 (.e) (.w 20 [(1,.val (i6 ((b.getD i 0) / 14))),(2,.val (i6 (((b.getD i 0) / 14)%3))),(3,.val (i6 (1+(((b.getD i 0) / 14)%3)))),(5,.val (i6 ((b.getD i 0) / 14))),(6,.val (i6 (((b.getD i 0) / 14)%3))),(7,.val (i6 (1+(((b.getD i 0) / 14)%3)))),(8,.frz 3 1 (aa .i64) 0 [1+(((b.getD i 0) / 14)%3),1+(((b.getD i 0) / 14)%3)])]<|.e)) (.b 87 (.b 90 (.e) (.w 24 [(1,.val (i6 (w-1))),(2,.frz 3 1 (aa .i64) 0 [w-1,1])]<|.e)) (.e)))))) (fun ⟨op,aw⟩=>.g 25 11 6 64 7 (eA (n+1)) dE<|.l (sC b i s w d n op aw) 0 (fun k=>.b 98 (.w 28 [(7,.val (i6 ((d+1:Nat):Int))),(9,(sB b ((bi (ap s b (d+1)) (aw.take k) (i+1)).2) s (aw.getD k 0) (d+1) n).O)]<|.w 29 [(4,.box 64 7 (eA (n+1)) dE [(ap s b (d+1) ((bi (ap s b (d+1)) (aw.take k) (i+1)).2) (aw.getD k 0)).1]),(5,.box 64 7 (eA (n+1)) dE ((bi (ap s b (d+1)) (aw.take (k+1)) (i+1)).1))]<|.w 30 [(1,.val (.agg [(LY b),(i6 (((bi (ap s b (d+1)) (aw.take (k+1)) (i+1)).2:Nat):Int))]))]<|.w 27 [(1,.val (i6 ((k+1:Nat):Int)))]<|.e) (.e))))))) Try.func77 rfl rfl rfl (by kernel_rfl) ?_
 refine tt ⟨⟨by omega,oK⟩,tt ⟨⟨by omega,oK⟩,tt ⟨(mZ b i hb),tt ⟨(t0 b i 1 om),tt ⟨qm,tt ⟨(vF (by omega)),tt (cd (fun hc30=>?_) (fun hc30=>?_))⟩⟩⟩⟩⟩⟩
 · refine tt ⟨qd,⟨(CR s w ((b.getD i 0) / 14) (n+1) om om om om hr ht),tt ⟨?_,?_,?_,?_,?_,?_,(congrArg _ (?_:((a9 s w ((b.getD i 0) / 14)).args)=(((ap s b (d+2) i w).1).args))),rfl,?_,oK⟩⟩⟩
   all_goals (rw[Ke hc30])
 · refine⟨fun Ru=>?_,fun Ru=>?_⟩
   · refine tt ⟨(vT Ru),tt ⟨qd,tt ⟨(GR b _ s w _ d n hb h1 (by omega) h3 (by omega) hm hr ht (by omega) (by omega) ih),tt ⟨?_,?_,?_,?_,?_,?_,(congrArg _ (?_:(((br s (ap s b (d+1)) w ((b.getD i 0) / 14) (i+1)).1).args)=(((ap s b (d+2) i w).1).args))),rfl,?_,oK⟩⟩⟩⟩
     all_goals (rw[Fv (by omega)])
   · refine tt ⟨(vF Ru),tt (cd (fun Tz=>?_) (fun Tz=>?_))⟩
     · refine tt ⟨qd,tt ⟨(GR b _ s w _ d n hb h1 (by omega) h3 (by omega) hm hr ht (by omega) (by omega) ih),tt ⟨?_,?_,?_,?_,?_,?_,(congrArg _ (?_:(((br s (ap s b (d+1)) w ((b.getD i 0) / 14) (i+1)).1).args)=(((ap s b (d+2) i w).1).args))),rfl,?_,oK⟩⟩⟩
       all_goals (rw[Fv (by omega)])
     · refine⟨⟨⟨rfl,oK⟩,⟨rfl,oK⟩,⟨rfl,oK⟩,⟨rfl,oK⟩,⟨rfl,oK⟩,⟨rfl,oK⟩,⟨rfl,oK⟩,⟨rfl,oK⟩,⟨rfl,oK⟩,⟨rfl,oK⟩,oK⟩,tt ⟨w6,⟨(by show 0≤b.getD i 0%14-4∧b.getD i 0%14-4<(10:Int);omega),⟨⟨oK,rfl⟩,tt ⟨⟨⟨rfl,oK⟩,⟨rfl,oK⟩,oK⟩,tt ⟨?_,?_⟩⟩⟩⟩⟩⟩
       · refine tt (cd (fun hc63=>?_) (fun hc63=>?_))
         · refine tt ⟨⟨⟨rfl,oK⟩,oK⟩,tt ⟨(iI (b.getD i 0%14),[w]),rfl,(?_:(iI (b.getD i 0%14))=qr (b.getD i 0) w∧[w]=jm (b.getD i 0) w)⟩⟩
           · unfold qr jm
             generalize iI (b.getD i 0%14)=o at *
             constructor<;>simp[*]
         · refine tt (cd (fun Wb=>?_) (fun Wb=>?_))
           · refine tt ⟨⟨⟨rfl,oK⟩,⟨rfl,oK⟩,⟨rfl,oK⟩,oK⟩,tt ⟨(iI (b.getD i 0%14),[1,w,w]),rfl,(?_:(iI (b.getD i 0%14))=qr (b.getD i 0) w∧[1,w,w]=jm (b.getD i 0) w)⟩⟩
             · unfold qr jm
               generalize iI (b.getD i 0%14)=o at *
               constructor<;>simp[*]
           · refine tt (cd (fun WZ=>?_) (fun WZ=>?_))
             · refine⟨(Pq WZ),tt (cd (fun hc76=>?_) (fun hc76=>?_))⟩
               · refine tt ⟨(5,[w,w]),rfl,(?_:5=qr (b.getD i 0) w∧[w,w]=jm (b.getD i 0) w)⟩
                 · unfold qr jm
                   generalize iI (b.getD i 0%14)=o at *
                   constructor<;>simp[*]
               · refine tt ⟨qd,⟨qm,⟨w6,tt ⟨qd,⟨qm,⟨w6,⟨⟨⟨rfl,oK⟩,⟨rfl,oK⟩,oK⟩,tt ⟨(iI (b.getD i 0%14),[1+(((b.getD i 0) / 14)%3),1+(((b.getD i 0) / 14)%3)]),rfl,(?_:(iI (b.getD i 0%14))=qr (b.getD i 0) w∧[1+(((b.getD i 0) / 14)%3),1+(((b.getD i 0) / 14)%3)]=jm (b.getD i 0) w)⟩⟩⟩⟩⟩⟩⟩⟩
                 · unfold qr jm
                   generalize iI (b.getD i 0%14)=o at *
                   constructor<;>simp[*]
             · refine tt (cd (fun WZ=>?_) (fun WZ=>?_))
               · refine tt (cd (fun hc76=>?_) (fun hc76=>?_))
                 · refine tt ⟨(5,[w,w]),rfl,(?_:5=qr (b.getD i 0) w∧[w,w]=jm (b.getD i 0) w)⟩
                   · unfold qr jm
                     generalize iI (b.getD i 0%14)=o at *
                     constructor<;>simp[*]
                 · refine tt ⟨qd,⟨qm,⟨w6,tt ⟨qd,⟨qm,⟨w6,⟨⟨⟨rfl,oK⟩,⟨rfl,oK⟩,oK⟩,tt ⟨(iI (b.getD i 0%14),[1+(((b.getD i 0) / 14)%3),1+(((b.getD i 0) / 14)%3)]),rfl,(?_:(iI (b.getD i 0%14))=qr (b.getD i 0) w∧[1+(((b.getD i 0) / 14)%3),1+(((b.getD i 0) / 14)%3)]=jm (b.getD i 0) w)⟩⟩⟩⟩⟩⟩⟩⟩
                   · unfold qr jm
                     generalize iI (b.getD i 0%14)=o at *
                     constructor<;>simp[*]
               · refine tt (cd (fun S7=>?_) (fun S7=>?_))
                 · refine tt (cd (fun hc90=>?_) (fun hc90=>?_))
                   · refine tt ⟨(3,[w,w]),rfl,(?_:3=qr (b.getD i 0) w∧[w,w]=jm (b.getD i 0) w)⟩
                     · unfold qr jm
                       generalize iI (b.getD i 0%14)=o at *
                       constructor<;>simp[*]
                   · refine tt ⟨w6,⟨⟨⟨rfl,oK⟩,⟨rfl,oK⟩,oK⟩,tt ⟨(iI (b.getD i 0%14),[w-1,1]),rfl,(?_:(iI (b.getD i 0%14))=qr (b.getD i 0) w∧[w-1,1]=jm (b.getD i 0) w)⟩⟩⟩
                     · unfold qr jm
                       generalize iI (b.getD i 0%14)=o at *
                       constructor<;>simp[*]
                 · refine⟨(iI (b.getD i 0%14),[w,w]),rfl,(?_:(iI (b.getD i 0%14))=qr (b.getD i 0) w∧[w,w]=jm (b.getD i 0) w)⟩
                   · unfold qr jm
                     generalize iI (b.getD i 0%14)=o at *
                     constructor<;>simp[*]
       · intro op aw F'
         obtain⟨Sz,haw⟩:=F'
         refine tt ⟨rfl,(by omega),?_⟩
         intro k F'
         have hk:=F'
         refine tt (cd (fun W0=>?_) (fun W0=>?_))
         · have T4:=yn (t:=ap s b (d+1)) (aw.take k) (i+1)
           rw[PD]at T4
           have hl2:aw.length≤3:=by rw[haw];exact(Fo (by omega) hy.1 h1 (by omega)).2.2.2.2
           obtain⟨g1,g2,g3,g4⟩:=Kf (s:=s) hb (i+1) h1 h2 h3 (by omega) hy.1 (show k<(jm (b.getD i 0) w).length by rw[← haw];omega)
           rw[← haw]at g1 g2 g3 g4
           refine tt ⟨ix,tt ⟨⟨oK,(rY (by omega) (by omega) (by omega))⟩,tt ⟨(ih _ _ (by omega) (by omega) (by omega)),tt ⟨⟨⟨rfl,rfl,rfl,rfl,rfl,rfl,rfl,oK⟩,oK⟩,⟨⟨by simp only[Py,P8,PP];omega,by rw[qt _ _ _ (by omega),P9]⟩,tt ⟨⟨oK,⟨rfl,by rw[qt _ _ _ (by omega)],oK⟩⟩,tt ⟨w6,tt ⟨(k+1),rfl,(?_:(k+1)≤aw.length),(?_:aw.length-(k+1)<aw.length-k)⟩⟩⟩⟩⟩⟩⟩⟩
           · omega
           · omega
         · refine tt ⟨?_,?_,?_,?_,?_,?_,(congrArg _ (?_:((bi (ap s b (d+1)) (aw.take k) (i+1)).1)=(((ap s b (d+2) i w).1).args))),rfl,?_,oK⟩
           all_goals (first | (rw[Ai (by omega) (by omega) (by omega)];done) | (rw[Ai (by omega) (by omega) (by omega)];exact Sz) | (rw[Ai (by omega) (by omega) (by omega),show k=aw.length by omega,Qr,haw]))
end Go.Proofs.Ytnlmlkbaflmgcaa
