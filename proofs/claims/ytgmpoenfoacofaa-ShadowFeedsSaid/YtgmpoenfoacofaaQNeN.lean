/- Parts of a proof. -/
import Derived.Test.YtgmpoenfoacofaaQPrD
namespace Go.Proofs.Ytgmpoenfoacofaa
open Go.RowKit
set_option linter.unusedVariables false
set_option linter.unusedSimpArgs false
abbrev kz (c:Ci):List D:=[(dL 6 eK aO c.U),(dL 5 dq aN c.J)]
abbrev mc (s:Ns):List D:=[(dL 2 aU aY s.U),(dL 1 ac [] s.J)]
set_option maxRecDepth 100000
abbrev Eh (l:List Int) (w:Int):Ct:=⟨28,[(LI l),(i6 w)],false,(dB (bM l w))⟩
abbrev jn (l:List Int) (w:Int):Lp (Nat):=il [0,1,5] 0 (fun (i:Nat)=>⟨[(0,(LI l)),(1,(i6 w)),(5,(i6 (i:Int)))],[]⟩) (fun (i:Nat)=>i≤l.length∧∀z,z<i→co (l.getD z 0) w=true) (fun (i:Nat)=>l.length-i)
theorem gO (l:List Int) (w:Int) (hl:l.length≤9223372036854775807):CC (Eh l w):=by
 refine ai.vc (V:=TT 2 (GO (jn l w) 0 (∀i,(jn l w).inv i→TT 4 (CD ((i:Int)<(l.length:Int)) (CS ((l.getD i 0)<0) (TT 2 (IX (i:Int) l.length∧TT 2 ((True∧(decide ((l.getD i 0)<0))=true)∧TT 3 (false=(bM l w)∧True)))) (TT 2 (IX (i:Int) l.length∧TT 2 ((True∧(decide ((l.getD i 0)<0))=false)∧TT 2 (IX (i:Int) l.length∧TT 2 (CC (yX w)∧TT 2 (CD ((l.getD i 0)>(aB w)) (TT 2 (false=(bM l w)∧True)) (TT 1 (W6 ((i+1:Nat):Int)∧TT 1 (AG (jn l w) i (i+1))))))))))) (TT 2 (true=(bM l w)∧True)))))) (.l (jn l w) 0 (fun i=>.b 9 (.s 4 ((l.getD i 0)<0) (.w 4 [(5,.val (dB true))]<|.e) (.w 4 [(5,.val (dB false)),(11,(yX w).O)]<|.b 25 (.e) (.w 3 [(1,.val (i6 ((i+1:Nat):Int)))]<|.e))) (.e))) Try.func28 rfl rfl rfl (by kernel_rfl) ?_
 refine tt ⟨rfl,⟨by omega,fun z hz=>by omega⟩,?_⟩
 intro i J'
 obtain⟨hi,h3⟩:=J'
 refine tt (cd (fun Sd=>?_) (fun Sd=>?_))
 · refine⟨fun MV=>?_,fun MV=>?_⟩
   · refine tt ⟨ix,tt ⟨(vT MV),tt ⟨?_,oK⟩⟩⟩
     first | exact(lk (i:=i) (by omega) (vO MV)).symm | exact(lk (i:=i) (by omega) (vP Nq)).symm | exact(sD (fun z hz=>h3 z (by omega))).symm
   · refine tt ⟨ix,tt ⟨(vF MV),tt ⟨ix,tt ⟨(gN w),tt (cd (fun Nq=>?_) (fun Nq=>?_))⟩⟩⟩⟩
     · refine tt ⟨?_,oK⟩
       first | exact(lk (i:=i) (by omega) (vO MV)).symm | exact(lk (i:=i) (by omega) (vP Nq)).symm | exact(sD (fun z hz=>h3 z (by omega))).symm
     · refine tt ⟨w6,tt ⟨(i+1),rfl,?_,(?_:l.length-(i+1)<l.length-i)⟩⟩
       · exact⟨by omega,bA h3 (FL MV Nq)⟩
       · omega
 · refine tt ⟨?_,oK⟩
   first | exact(lk (i:=i) (by omega) (vO MV)).symm | exact(lk (i:=i) (by omega) (vP Nq)).symm | exact(sD (fun z hz=>h3 z (by omega))).symm
abbrev Ip (c:Ci) (s:Ns):Ct:=⟨14,[(.agg (kz c)),(.agg (mc s))],false,(dB (bK c s))⟩
abbrev jo (c:Ci) (s:Ns):Lp (Nat):=il [2,3,5] 2 (fun (i:Nat)=>⟨[(2,(.ptr 0 0 0 0)),(3,(.ptr 1 0 0 0)),(5,(i6 (i:Int)))],[(.var 42 (kz c)),(.var 46 (mc s))]⟩) (fun (i:Nat)=>i≤c.U.length∧∀z,z<i→bx (bD c z) (Af s z)=true) (fun (i:Nat)=>c.U.length-i)
abbrev eT (c:Ci) (s:Ns):Lp (Nat):=il [2,3,6] 2 (fun (n:Nat)=>⟨[(2,(.ptr 0 0 0 0)),(3,(.ptr 1 0 0 0)),(6,(i6 (n:Int)))],[(.var 42 (kz c)),(.var 46 (mc s))]⟩) (fun (n:Nat)=>n≤c.J.length∧∀z,z<n→gA c s z=true) (fun (n:Nat)=>c.J.length-n)
theorem sL (c:Ci) (s:Ns) (hc:bO c) (O4:jJ s 9223372036854775807):CC (Ip c s):=by
 have NC:=hc.nl
 have hcl:=hc.cl
 refine ai.vc (V:=TT 3 (CS ((s.U.length:Int)=(c.U.length:Int)) (TT 7 ((True∧(!decide ((s.U.length:Int)=(c.U.length:Int)))=false)∧TT 8 (CN ((s.J.length:Int)=(c.J.length:Int)) (TT 2 (false=(bK c s)∧True)) (TT 1 (GO (jo c s) 0 (∀i,(jo c s).inv i→TT 5 (CD ((i:Int)<(c.U.length:Int)) (TT 3 (IX (i:Int) c.U.length∧TT 4 (IX (i:Int) s.U.length∧TT 1 (CC (Jy (c.U.getD i aO) (s.U.getD i aY))∧TT 1 (CB (!(bx (c.U.getD i aO) (s.U.getD i aY))) (TT 2 (false=(bK c s)∧True)) (TT 1 (W6 ((i+1:Nat):Int)∧TT 1 (AG (jo c s) i (i+1))))))))) (TT 1 (GO (eT c s) 0 (∀n,(eT c s).inv n→TT 5 (CD ((n:Int)<(c.J.length:Int)) (TT 3 (IX (n:Int) c.J.length∧TT 3 (CS ((bM (s.J.getD n []) ((c.J.getD n aN).w))=true) (CS (((c.J.getD n aN).frm)≥0) (CS (((c.J.getD n aN).dst)≥0) (TT 3 (IX (n:Int) s.J.length∧TT 3 (CC (Eh (s.J.getD n []) ((c.J.getD n aN).w))∧TT 1 ((True∧(!(bM (s.J.getD n []) ((c.J.getD n aN).w)))=false)∧TT 3 ((True∧(decide (((c.J.getD n aN).frm)≥0))=true)∧TT 4 ((True∧(decide (((c.J.getD n aN).dst)≥0))=true)∧TT 3 (IX (n:Int) s.J.length∧TT 7 (CD ((((s.J.getD n []).length:Nat):Int)>((c.J.getD n aN).cap)) (TT 2 (false=(bK c s)∧True)) (TT 1 (W6 ((n+1:Nat):Int)∧TT 1 (AG (eT c s) n (n+1)))))))))))) (TT 3 (IX (n:Int) s.J.length∧TT 3 (CC (Eh (s.J.getD n []) ((c.J.getD n aN).w))∧TT 1 ((True∧(!(bM (s.J.getD n []) ((c.J.getD n aN).w)))=false)∧TT 3 ((True∧(decide (((c.J.getD n aN).frm)≥0))=true)∧TT 4 ((True∧(decide (((c.J.getD n aN).dst)≥0))=false)∧TT 3 (W6 ((n+1:Nat):Int)∧TT 1 (AG (eT c s) n (n+1)))))))))) (TT 3 (IX (n:Int) s.J.length∧TT 3 (CC (Eh (s.J.getD n []) ((c.J.getD n aN).w))∧TT 1 ((True∧(!(bM (s.J.getD n []) ((c.J.getD n aN).w)))=false)∧TT 3 ((True∧(decide (((c.J.getD n aN).frm)≥0))=false)∧TT 5 (W6 ((n+1:Nat):Int)∧TT 1 (AG (eT c s) n (n+1))))))))) (TT 3 (IX (n:Int) s.J.length∧TT 3 (CC (Eh (s.J.getD n []) ((c.J.getD n aN).w))∧TT 1 ((True∧(!(bM (s.J.getD n []) ((c.J.getD n aN).w)))=true)∧TT 3 (false=(bK c s)∧True)))))))) (TT 2 (true=(bK c s)∧True))))))))))))) (TT 7 ((True∧(!decide ((s.U.length:Int)=(c.U.length:Int)))=true)∧TT 10 (false=(bK c s)∧True))))) (.s 1 ((s.U.length:Int)=(c.U.length:Int)) (.w 1 [(7,.val (dB false))]<|.b 23 (.e) (.l (jo c s) 0 (fun i=>.b 28 (.w 6 [(10,(Jy (c.U.getD i aO) (s.U.getD i aY)).O)]<|.b 42 (.e) (.w 5 [(1,.val (i6 ((i+1:Nat):Int)))]<|.e)) (.l (eT c s) 0 (fun n=>.b 47 (.s 12 ((bM (s.J.getD n []) ((c.J.getD n aN).w))=true) (.s 12 (((c.J.getD n aN).frm)≥0) (.s 12 (((c.J.getD n aN).dst)≥0) (.w 12 [(7,(Eh (s.J.getD n []) ((c.J.getD n aN).w)).O),(9,.val (dB false)),(13,.val (dB true)),(18,.val (dB true))]<|.b 84 (.e) (.w 10 [(1,.val (i6 ((n+1:Nat):Int)))]<|.e)) (.w 12 [(7,(Eh (s.J.getD n []) ((c.J.getD n aN).w)).O),(9,.val (dB false)),(13,.val (dB true)),(18,.val (dB false))]<|.w 10 [(1,.val (i6 ((n+1:Nat):Int)))]<|.e)) (.w 12 [(7,(Eh (s.J.getD n []) ((c.J.getD n aN).w)).O),(9,.val (dB false)),(13,.val (dB false))]<|.w 10 [(1,.val (i6 ((n+1:Nat):Int)))]<|.e)) (.w 12 [(7,(Eh (s.J.getD n []) ((c.J.getD n aN).w)).O),(9,.val (dB true))]<|.e)) (.e)))))) (.w 1 [(7,.val (dB true))]<|.e)) Try.func14 rfl rfl rfl (by kernel_rfl) ?_
 refine tt ⟨fun MV=>?_,fun MV=>?_⟩
 · refine tt ⟨(nF MV),tt (cn (fun Qc=>?_) (fun Qc=>?_))⟩
   · refine tt ⟨?_,oK⟩
     first | exact(pb (by omega)).symm | exact(pc (by omega)).symm | exact(pg (i:=i) (by omega) (by simpa using ND)).symm | exact(fG (n:=n) (by omega) (iJ (by assumption))).symm | exact(fG (n:=n) (by omega) (iK (by show 0≤(c.J.getD n aN).frm;omega) (by show 0≤(c.J.getD n aN).dst;omega) (by show ¬((s.J.getD n []).length:Int)≤(c.J.getD n aN).cap;omega))).symm | exact(ph (by omega) (by omega) (fun z hz=>h3 z (by omega)) (fun z hz=>h4 z (by omega))).symm
   · refine tt ⟨rfl,⟨by omega,fun z hz=>by omega⟩,?_⟩
     intro i J'
     obtain⟨hi,h3⟩:=J'
     refine tt (cd (fun NP=>?_) (fun NP=>?_))
     · have QZ:=hc.pr i (by omega)
       refine tt ⟨ix,tt ⟨ix,tt ⟨(BX (c.U.getD i aO) (s.U.getD i aY) QZ),tt ⟨fun ND=>?_,fun ND=>?_⟩⟩⟩⟩
       · refine tt ⟨?_,oK⟩
         first | exact(pb (by omega)).symm | exact(pc (by omega)).symm | exact(pg (i:=i) (by omega) (by simpa using ND)).symm | exact(fG (n:=n) (by omega) (iJ (by assumption))).symm | exact(fG (n:=n) (by omega) (iK (by show 0≤(c.J.getD n aN).frm;omega) (by show 0≤(c.J.getD n aN).dst;omega) (by show ¬((s.J.getD n []).length:Int)≤(c.J.getD n aN).cap;omega))).symm | exact(ph (by omega) (by omega) (fun z hz=>h3 z (by omega)) (fun z hz=>h4 z (by omega))).symm
       · refine tt ⟨w6,tt ⟨(i+1),rfl,?_,(?_:c.U.length-(i+1)<c.U.length-i)⟩⟩
         · exact⟨by omega,bA h3 (by simpa using ND)⟩
         · omega
     · refine tt ⟨rfl,⟨by omega,fun z hz=>by omega⟩,?_⟩
       intro n J'
       obtain⟨hn,h4⟩:=J'
       refine tt (cd (fun hc47=>?_) (fun hc47=>?_))
       · refine tt ⟨ix,tt ?_⟩
         have SK:(s.J.getD n []).length≤9223372036854775807:=O4 n
         refine⟨fun Nl=>?_,fun Nl=>?_⟩
         · refine⟨fun Pw=>?_,fun Pw=>?_⟩
           · refine⟨fun hs3=>?_,fun hs3=>?_⟩
             · refine tt ⟨ix,tt ⟨(gO (s.J.getD n []) ((c.J.getD n aN).w) SK),tt ⟨(mF Nl),tt ⟨(vT Pw),tt ⟨(vT hs3),tt ⟨ix,tt (cd (fun hc84=>?_) (fun hc84=>?_))⟩⟩⟩⟩⟩⟩
               · refine tt ⟨?_,oK⟩
                 first | exact(pb (by omega)).symm | exact(pc (by omega)).symm | exact(pg (i:=i) (by omega) (by simpa using ND)).symm | exact(fG (n:=n) (by omega) (iJ (by assumption))).symm | exact(fG (n:=n) (by omega) (iK (by show 0≤(c.J.getD n aN).frm;omega) (by show 0≤(c.J.getD n aN).dst;omega) (by show ¬((s.J.getD n []).length:Int)≤(c.J.getD n aN).cap;omega))).symm | exact(ph (by omega) (by omega) (fun z hz=>h3 z (by omega)) (fun z hz=>h4 z (by omega))).symm
               · refine tt ⟨w6,tt ⟨(n+1),rfl,?_,(?_:c.J.length-(n+1)<c.J.length-n)⟩⟩
                 · refine⟨by omega,bA h4 ?_⟩
                   first | exact yE (by assumption) (by show ¬0≤(c.J.getD n aN).frm;omega) | exact yF (by assumption) (by show ¬0≤(c.J.getD n aN).dst;omega) | exact yG (by assumption) (by show((s.J.getD n []).length:Int)≤(c.J.getD n aN).cap;omega)
                 · omega
             · refine tt ⟨ix,tt ⟨(gO (s.J.getD n []) ((c.J.getD n aN).w) SK),tt ⟨(mF Nl),tt ⟨(vT Pw),tt ⟨(vF hs3),tt ⟨w6,tt ⟨(n+1),rfl,?_,(?_:c.J.length-(n+1)<c.J.length-n)⟩⟩⟩⟩⟩⟩⟩
               · refine⟨by omega,bA h4 ?_⟩
                 first | exact yE (by assumption) (by show ¬0≤(c.J.getD n aN).frm;omega) | exact yF (by assumption) (by show ¬0≤(c.J.getD n aN).dst;omega) | exact yG (by assumption) (by show((s.J.getD n []).length:Int)≤(c.J.getD n aN).cap;omega)
               · omega
           · refine tt ⟨ix,tt ⟨(gO (s.J.getD n []) ((c.J.getD n aN).w) SK),tt ⟨(mF Nl),tt ⟨(vF Pw),tt ⟨w6,tt ⟨(n+1),rfl,?_,(?_:c.J.length-(n+1)<c.J.length-n)⟩⟩⟩⟩⟩⟩
             · refine⟨by omega,bA h4 ?_⟩
               first | exact yE (by assumption) (by show ¬0≤(c.J.getD n aN).frm;omega) | exact yF (by assumption) (by show ¬0≤(c.J.getD n aN).dst;omega) | exact yG (by assumption) (by show((s.J.getD n []).length:Int)≤(c.J.getD n aN).cap;omega)
             · omega
         · refine tt ⟨ix,tt ⟨(gO (s.J.getD n []) ((c.J.getD n aN).w) SK),tt ⟨(mT Nl),tt ⟨?_,oK⟩⟩⟩⟩
           first | exact(pb (by omega)).symm | exact(pc (by omega)).symm | exact(pg (i:=i) (by omega) (by simpa using ND)).symm | exact(fG (n:=n) (by omega) (iJ (by assumption))).symm | exact(fG (n:=n) (by omega) (iK (by show 0≤(c.J.getD n aN).frm;omega) (by show 0≤(c.J.getD n aN).dst;omega) (by show ¬((s.J.getD n []).length:Int)≤(c.J.getD n aN).cap;omega))).symm | exact(ph (by omega) (by omega) (fun z hz=>h3 z (by omega)) (fun z hz=>h4 z (by omega))).symm
       · refine tt ⟨?_,oK⟩
         first | exact(pb (by omega)).symm | exact(pc (by omega)).symm | exact(pg (i:=i) (by omega) (by simpa using ND)).symm | exact(fG (n:=n) (by omega) (iJ (by assumption))).symm | exact(fG (n:=n) (by omega) (iK (by show 0≤(c.J.getD n aN).frm;omega) (by show 0≤(c.J.getD n aN).dst;omega) (by show ¬((s.J.getD n []).length:Int)≤(c.J.getD n aN).cap;omega))).symm | exact(ph (by omega) (by omega) (fun z hz=>h3 z (by omega)) (fun z hz=>h4 z (by omega))).symm
 · refine tt ⟨(nT MV),tt ⟨?_,oK⟩⟩
   first | exact(pb (by omega)).symm | exact(pc (by omega)).symm | exact(pg (i:=i) (by omega) (by simpa using ND)).symm | exact(fG (n:=n) (by omega) (iJ (by assumption))).symm | exact(fG (n:=n) (by omega) (iK (by show 0≤(c.J.getD n aN).frm;omega) (by show 0≤(c.J.getD n aN).dst;omega) (by show ¬((s.J.getD n []).length:Int)≤(c.J.getD n aN).cap;omega))).symm | exact(ph (by omega) (by omega) (fun z hz=>h3 z (by omega)) (fun z hz=>h4 z (by omega))).symm
abbrev JE (c:Ci):Ct:=⟨41,[(.agg (kz c))],true,(.agg [(dL 2 aU aY ((aC c).U)),(dL 1 ac [] ((aC c).J))])⟩
abbrev lx (c:Ci):Lp (Nat):=il [1,2,3,4] 5 (fun (i:Nat)=>⟨[(1,(.ptr 0 0 0 0)),(2,(.ptr 1 0 0 0)),(3,(.ptr 3 0 0 0)),(4,(i6 (i:Int)))],[(.var 42 (kz c)),(.var 46 [.nils,.nils]),(.arr 38 1 ac [] (List.replicate c.J.length ([]:List Int))),(.var 46 [(.own 4),(.own 2)]),(.arr 88 2 aU aY (tab (fun i=>aI (bD c i)) i))]⟩) (fun (i:Nat)=>i≤c.U.length) (fun (i:Nat)=>c.U.length-i)
theorem B3 (c:Ci) (hc:bO c):CC (JE c):=by
 have NC:=hc.nl
 have hcl:=hc.cl
 refine ai.vc (V:=TT 5 ((((0:Int)≤(c.J.length:Int)∧(c.J.length:Int)≤(c.J.length:Int)∧(c.J.length:Int)≤137438953472)∧(List.replicate c.J.length ([]:List Int)).length=c.J.length∧∀x∈(List.replicate c.J.length ([]:List Int)),dG [.nils] (ac x))∧TT 4 (GO (lx c) 0 (∀i,(lx c).inv i→TT 5 (CD ((i:Int)<(c.U.length:Int)) (TT 5 (IX (i:Int) c.U.length∧TT 1 (CC (Jz (c.U.getD i aO))∧an [[(LI ((aI (c.U.getD i aO)).KC)),(dL 1 ac [] ((aI (c.U.getD i aO)).KB))]] ([(⟨(aI (c.U.getD i aO)).KC,(aI (c.U.getD i aO)).KB⟩:Ps)].map aU)∧((tab (fun i=>aI (bD c i)) i).length+([(⟨(aI (c.U.getD i aO)).KC,(aI (c.U.getD i aO)).KB⟩:Ps)].map aU).length≤137438953472∧(tab (fun i=>aI (bD c i)) i).map aU++[(⟨(aI (c.U.getD i aO)).KC,(aI (c.U.getD i aO)).KB⟩:Ps)].map aU=(tab (fun i=>aI (bD c i)) (i+1)).map aU)∧TT 3 (W6 ((i+1:Nat):Int)∧TT 1 (AG (lx c) i (i+1)))))) (TT 3 ((tab (fun i=>aI (bD c i)) i).map aU=((aC c).U).map aU∧(List.replicate c.J.length ([]:List Int)).map ac=((aC c).J).map ac∧True))))))) (.w 1 [(3,.box 38 1 ac [] (List.replicate c.J.length ([]:List Int)))]<|.g 2 3 0 88 2 aU aY<|.l (lx c) 0 (fun i=>.b 14 (.w 5 [(7,(Jz (c.U.getD i aO)).O),(8,.box 88 2 aU aY [(⟨(aI (c.U.getD i aO)).KC,(aI (c.U.getD i aO)).KB⟩:Ps)]),(9,.box 88 2 aU aY (tab (fun i=>aI (bD c i)) (i+1)))]<|.w 4 [(1,.val (i6 ((i+1:Nat):Int)))]<|.e) (.e))) Try.func41 rfl rfl rfl (by kernel_rfl) ?_
 refine tt ⟨⟨by omega,by simp,fun x hx=>by rw[Ln hx];exact⟨rfl,oK⟩⟩,tt ⟨rfl,(by omega),?_⟩⟩
 intro i J'
 have hi:=J'
 refine tt (cd (fun Qd=>?_) (fun Qd=>?_))
 · have QZ:=hc.pr i (by omega)
   refine tt ⟨ix,tt ⟨(BZ (c.U.getD i aO) QZ),⟨⟨⟨rfl,rfl,oK⟩,oK⟩,⟨(hJ (f:=fun i=>aI (bD c i)) (by omega)),tt ⟨w6,tt ⟨(i+1),rfl,(?_:(i+1)≤c.U.length),(?_:c.U.length-(i+1)<c.U.length-i)⟩⟩⟩⟩⟩⟩
   · omega
   · omega
 · refine tt ⟨(congrArg _ (?_:(tab (fun i=>aI (bD c i)) i)=((aC c).U))),(congrArg _ (?_:(List.replicate c.J.length ([]:List Int))=((aC c).J))),oK⟩
   · rw[show i=c.U.length by omega];rfl
   · rfl
abbrev Iq (s:Ns) (n:Int) (l:List Int):Ct:=⟨29,[(.agg (mc s)),(i6 n),(LI l)],true,(.agg [(dL 2 aU aY ((dp s n.toNat l).U)),(dL 1 ac [] ((dp s n.toNat l).J))])⟩
theorem AJ (s:Ns) (n:Int) (l:List Int) (h1:0≤n) (h2:n<s.J.length) (h3:s.J.length≤1000000):CC (Iq s n l):=by
 refine ai.vc (V:=TT 4 (an [] (([]:List (List Int)).map ac)∧TT 2 ((([]:List (List Int)).length+(s.J.map ac).length≤137438953472∧([]:List (List Int)).map ac++s.J.map ac=s.J.map ac)∧TT 7 (IX n s.J.length∧(n.toNat<s.J.length∧(s.J.map ac).set n.toNat ((ac (s.J.getD n.toNat [])).take 0++[(.sl 1 (ab .i64) 0 l)]++(ac (s.J.getD n.toNat [])).drop (0+1))=(s.J.set n.toNat l).map ac)∧TT 3 (s.U.map aU=((dp s n.toNat l).U).map aU∧(s.J.set n.toNat l).map ac=((dp s n.toNat l).J).map ac∧True))))) (.w 1 [(2,.app false 38 1 ac [] ([]:List (List Int))),(5,.app false 38 1 ac [] s.J)]<|.w 2 [(5,.box 38 1 ac [] (s.J.set n.toNat l))]<|.e) Try.func29 rfl rfl rfl (by kernel_rfl) ?_
 refine tt ⟨oK,tt ⟨⟨by simp only[KM,K1,K6,KN,K7,KV];first | omega | (simp;first | done | omega),by simp only[K8,Lk,K9,LQ]⟩,tt ⟨ix,⟨⟨om,by simp only[Mb];rfl⟩,tt ⟨(congrArg _ (?_:s.U=((dp s n.toNat l).U))),(congrArg _ (?_:(s.J.set n.toNat l)=((dp s n.toNat l).J))),oK⟩⟩⟩⟩⟩
 all_goals (rfl)
abbrev Ir (c:Ci) (s:Ns) (n:Int) (ws:List Int):Ct:=⟨15,[(.agg (kz c)),(.agg (mc s)),(.agg [(i6 n),(LI ws)])],true,(.agg [(dL 2 aU aY (((aq c s n ws).1).U)),(dL 1 ac [] (((aq c s n ws).1).J)),(LI ([]:List Int)),(i6 ((aq c s n ws).2))])⟩
theorem xr (c:Ci) (s:Ns) (n:Int) (ws:List Int) (hc:bO c) (hs:cA c s) (O4:jJ s 4294967296) (hw:ws.length≤4294967296):CC (Ir c s n ws):=by
 have NC:=hc.nl
 have hcl:=hc.cl
 have OS:=hs.pl
 have Qz:=hs.cl
 refine ai.vc (V:=TT 4 (CS (n<0) (TT 3 ((True∧(decide (n<0))=true)∧TT 8 ((((aq c s n ws).1).U)=[]∧(((aq c s n ws).1).J)=[]∧([]:List Int)=[]∧(1:Int)=((aq c s n ws).2)∧True))) (CS (n≥(c.J.length:Int)) (TT 3 ((True∧(decide (n<0))=false)∧TT 7 ((True∧(decide (n≥(c.J.length:Int)))=true)∧TT 6 ((((aq c s n ws).1).U)=[]∧(((aq c s n ws).1).J)=[]∧([]:List Int)=[]∧(1:Int)=((aq c s n ws).2)∧True)))) (CS (((c.J.getD n.toNat aN).frm)=(-1)) (TT 3 ((True∧(decide (n<0))=false)∧TT 7 ((True∧(decide (n≥(c.J.length:Int)))=false)∧TT 4 (IX n c.J.length∧TT 4 ((True∧(!decide (((c.J.getD n.toNat aN).frm)=(-1)))=false)∧TT 6 (IX n c.J.length∧TT 2 (CC (Eh ws ((c.J.getD n.toNat aN).w))∧TT 2 (CB (!(bM ws ((c.J.getD n.toNat aN).w))) (TT 3 ((((aq c s n ws).1).U)=[]∧(((aq c s n ws).1).J)=[]∧([]:List Int)=[]∧(1:Int)=((aq c s n ws).2)∧True)) (TT 3 (an [] (([]:List Int).map (ab .i64))∧TT 4 (IX n s.J.length∧TT 1 ((([]:List Int).length+((s.J.getD n.toNat []).map (ab .i64)).length≤137438953472∧([]:List Int).map (ab .i64)++(s.J.getD n.toNat []).map (ab .i64)=(s.J.getD n.toNat []).map (ab .i64))∧TT 2 (((s.J.getD n.toNat []).length+(ws.map (ab .i64)).length≤137438953472∧(s.J.getD n.toNat []).map (ab .i64)++ws.map (ab .i64)=((s.J.getD n.toNat [])++ws).map (ab .i64))∧CC (Iq s n ((s.J.getD n.toNat [])++ws))∧TT 3 (((dp s n.toNat ((s.J.getD n.toNat [])++ws)).U).map aU=(((aq c s n ws).1).U).map aU∧((dp s n.toNat ((s.J.getD n.toNat [])++ws)).J).map ac=(((aq c s n ws).1).J).map ac∧([]:List Int)=[]∧(0:Int)=((aq c s n ws).2)∧True)))))))))))))) (TT 3 ((True∧(decide (n<0))=false)∧TT 7 ((True∧(decide (n≥(c.J.length:Int)))=false)∧TT 4 (IX n c.J.length∧TT 4 ((True∧(!decide (((c.J.getD n.toNat aN).frm)=(-1)))=true)∧TT 4 ((((aq c s n ws).1).U)=[]∧(((aq c s n ws).1).J)=[]∧([]:List Int)=[]∧(1:Int)=((aq c s n ws).2)∧True)))))))))) (.s 1 (n<0) (.w 1 [(3,.val (dB true))]<|.e) (.s 1 (n≥(c.J.length:Int)) (.w 1 [(3,.val (dB false)),(11,.val (dB true))]<|.e) (.s 1 (((c.J.getD n.toNat aN).frm)=(-1)) (.w 1 [(3,.val (dB false)),(11,.val (dB false)),(21,.val (dB false)),(31,(Eh ws ((c.J.getD n.toNat aN).w)).O)]<|.b 40 (.e) (.w 3 [(3,.app false 3 1 (ab .i64) 0 ([]:List Int)),(10,.app false 3 1 (ab .i64) 0 (s.J.getD n.toNat [])),(13,.app true 3 1 (ab .i64) 0 ((s.J.getD n.toNat [])++ws)),(14,(Iq s n ((s.J.getD n.toNat [])++ws)).O)]<|.e)) (.w 1 [(3,.val (dB false)),(11,.val (dB false)),(21,.val (dB true))]<|.e)))) Try.func15 rfl rfl rfl (by kernel_rfl) ?_
 refine tt ⟨fun MV=>?_,fun MV=>?_⟩
 · refine tt ⟨(vT MV),tt ⟨?_,?_,?_,?_,oK⟩⟩
   all_goals (all_goals (first | rfl | (rw[cR (ft (by omega))]) | (rw[cR (fu (by omega))]) | (rw[cR (kv (by show ¬(c.J.getD n.toNat aN).frm=-1;omega))]) | (rw[cZ (by simpa using O5)]) | (rw[f6 (iL (by omega) (by omega) (show(c.J.getD n.toNat aN).frm=-1 by omega)) (by simpa using O5)])))
 · refine⟨fun Nl=>?_,fun Nl=>?_⟩
   · refine tt ⟨(vF MV),tt ⟨(vT Nl),tt ⟨?_,?_,?_,?_,oK⟩⟩⟩
     all_goals (all_goals (first | rfl | (rw[cR (ft (by omega))]) | (rw[cR (fu (by omega))]) | (rw[cR (kv (by show ¬(c.J.getD n.toNat aN).frm=-1;omega))]) | (rw[cZ (by simpa using O5)]) | (rw[f6 (iL (by omega) (by omega) (show(c.J.getD n.toNat aN).frm=-1 by omega)) (by simpa using O5)])))
   · refine⟨fun Pw=>?_,fun Pw=>?_⟩
     · refine tt ⟨(vF MV),tt ⟨(vF Nl),tt ⟨ix,tt ⟨(nF Pw),tt ⟨ix,tt ⟨(gO ws ((c.J.getD n.toNat aN).w) (by omega)),tt ⟨fun O5=>?_,fun O5=>?_⟩⟩⟩⟩⟩⟩⟩
       · refine tt ⟨?_,?_,?_,?_,oK⟩
         all_goals (all_goals (first | rfl | (rw[cR (ft (by omega))]) | (rw[cR (fu (by omega))]) | (rw[cR (kv (by show ¬(c.J.getD n.toNat aN).frm=-1;omega))]) | (rw[cZ (by simpa using O5)]) | (rw[f6 (iL (by omega) (by omega) (show(c.J.getD n.toNat aN).frm=-1 by omega)) (by simpa using O5)])))
       · have SK:(s.J.getD n.toNat []).length≤4294967296:=O4 n.toNat
         refine tt ⟨oK,tt ⟨ix,tt ⟨⟨by simp only[KM,K1,K6,KN,K7,KV];first | omega | (simp;first | done | omega),by simp only[K8,Lk,K9,LQ]⟩,tt ⟨⟨by simp only[KM,K1,K6,KN,K7,KV];first | omega | (simp;first | done | omega),by simp only[K8,Lk,K9,LQ]⟩,⟨(AJ s n ((s.J.getD n.toNat [])++ws) om om om),tt ⟨(congrArg _ (?_:((dp s n.toNat ((s.J.getD n.toNat [])++ws)).U)=(((aq c s n ws).1).U))),(congrArg _ (?_:((dp s n.toNat ((s.J.getD n.toNat [])++ws)).J)=(((aq c s n ws).1).J))),?_,?_,oK⟩⟩⟩⟩⟩⟩
         all_goals (all_goals (first | rfl | (rw[cR (ft (by omega))]) | (rw[cR (fu (by omega))]) | (rw[cR (kv (by show ¬(c.J.getD n.toNat aN).frm=-1;omega))]) | (rw[cZ (by simpa using O5)]) | (rw[f6 (iL (by omega) (by omega) (show(c.J.getD n.toNat aN).frm=-1 by omega)) (by simpa using O5)])))
     · refine tt ⟨(vF MV),tt ⟨(vF Nl),tt ⟨ix,tt ⟨(nT Pw),tt ⟨?_,?_,?_,?_,oK⟩⟩⟩⟩⟩
       all_goals (all_goals (first | rfl | (rw[cR (ft (by omega))]) | (rw[cR (fu (by omega))]) | (rw[cR (kv (by show ¬(c.J.getD n.toNat aN).frm=-1;omega))]) | (rw[cZ (by simpa using O5)]) | (rw[f6 (iL (by omega) (by omega) (show(c.J.getD n.toNat aN).frm=-1 by omega)) (by simpa using O5)])))
abbrev JF (c:Ci) (s:Ns) (p:Nat):Ct:=⟨75,[(.agg (kz c)),(.agg (mc s)),(i6 (p:Int))],true,(.agg [(dL 2 gq cz (cB c s p)),(LB (cJ c s p))])⟩
abbrev kA (c:Ci) (s:Ns) (p:Nat):Lp (Nat):=il [2,3,4,6,7,8] 5 (fun (i:Nat)=>⟨[(2,(i6 (p:Int))),(3,(.ptr 0 0 0 0)),(4,(.ptr 1 0 0 0)),(6,(.ptr 2 0 0 0)),(7,(.ptr 3 0 0 0)),(8,(i6 (i:Int)))],[(.var 42 (kz c)),(.var 46 (mc s)),(.var 179 [.nils,.nils]),(.var 179 [(.own 4),.nils]),(.arr 168 2 gq cz (tab (gB c s p) i))]⟩) (fun (i:Nat)=>i≤(c.U.getD p aO).I.length) (fun (i:Nat)=>(c.U.getD p aO).I.length-i)
abbrev kB (c:Ci) (s:Ns) (p:Nat) (i:Nat):Lp (Nat):=il [2,3,4,6,7,11] 6 (fun (m:Nat)=>⟨[(2,(i6 (p:Int))),(3,(.ptr 0 0 0 0)),(4,(.ptr 1 0 0 0)),(6,(.ptr 2 0 0 0)),(7,(.ptr 3 0 0 0)),(11,(i6 (m:Int)))],[(.var 42 (kz c)),(.var 46 (mc s)),(.var 179 [.nils,.nils]),(.var 179 [(.own 4),(.own 5)]),(.arr 168 2 gq cz (tab (gB c s p) i)),(.arr 4 1 bC false (tab (fq c s p) m))]⟩) (fun (m:Nat)=>m≤(c.U.getD p aO).KA.length) (fun (m:Nat)=>(c.U.getD p aO).KA.length-m)
theorem Ei (c:Ci) (s:Ns) (p:Nat) (hc:bO c) (hs:cA c s) (hp:p<c.U.length):CC (JF c s p):=by
 have NC:=hc.nl
 have hcl:=hc.cl
 have QZ:iG (c.U.getD p aO):=hc.pr p hp
 have OS:=hs.pl
 have Qz:=hs.cl
 have ht1:(c.U.getD p aO).I.length≤100:=QZ.tl
 have ht2:(c.U.getD p aO).KA.length≤100:=QZ.pl
 refine ai.vc (V:=TT 7 (GO (kA c s p) 0 (∀i,(kA c s p).inv i→TT 4 (IX (p:Int) c.U.length∧TT 4 (CD ((i:Int)<((((c.U.getD p aO).I).length:Nat):Int)) (TT 5 (IX (p:Int) c.U.length∧TT 3 (IX (i:Int) (((c.U.getD p aO).I).length)∧TT 2 (IX ((((c.U.getD p aO).I).getD i cU).chan) s.J.length∧TT 8 (CD ((((s.J.getD (((((c.U.getD p aO).I).getD i cU).chan).toNat) []).length:Nat):Int)>0) (TT 1 (IX 0 ((s.J.getD (((((c.U.getD p aO).I).getD i cU).chan).toNat) []).length)∧TT 6 (an [[(dB true),(i6 ((s.J.getD (((((c.U.getD p aO).I).getD i cU).chan).toNat) []).getD 0 0))]] ([(⟨true,((s.J.getD (((((c.U.getD p aO).I).getD i cU).chan).toNat) []).getD 0 0)⟩:Hd)].map gq)∧((tab (gB c s p) i).length+([(⟨true,((s.J.getD (((((c.U.getD p aO).I).getD i cU).chan).toNat) []).getD 0 0)⟩:Hd)].map gq).length≤137438953472∧(tab (gB c s p) i).map gq++[(⟨true,((s.J.getD (((((c.U.getD p aO).I).getD i cU).chan).toNat) []).getD 0 0)⟩:Hd)].map gq=(tab (gB c s p) (i+1)).map gq)∧TT 3 (W6 ((i+1:Nat):Int)∧TT 1 (AG (kA c s p) i (i+1)))))) (TT 3 (an [[(dB false),(i6 0)]] ([(⟨false,0⟩:Hd)].map gq)∧((tab (gB c s p) i).length+([(⟨false,0⟩:Hd)].map gq).length≤137438953472∧(tab (gB c s p) i).map gq++[(⟨false,0⟩:Hd)].map gq=(tab (gB c s p) (i+1)).map gq)∧TT 3 (W6 ((i+1:Nat):Int)∧TT 1 (AG (kA c s p) i (i+1)))))))))) (TT 1 (GO (kB c s p i) 0 (∀m,(kB c s p i).inv m→TT 4 (IX (p:Int) c.U.length∧TT 4 (CD ((m:Int)<((((c.U.getD p aO).KA).length:Nat):Int)) (TT 3 (IX (p:Int) c.U.length∧TT 3 (IX (m:Int) (((c.U.getD p aO).KA).length)∧TT 3 (CS (((c.J.getD (((((c.U.getD p aO).KA).getD m dj).chan).toNat) aN).dst)=(-1)) (TT 5 (IX ((((c.U.getD p aO).KA).getD m dj).chan) c.J.length∧TT 3 ((True∧(decide (((c.J.getD (((((c.U.getD p aO).KA).getD m dj).chan).toNat) aN).dst)=(-1)))=true)∧TT 1 (an [[(dB true)]] ([true].map bC)∧((tab (fq c s p) m).length+([true].map bC).length≤137438953472∧(tab (fq c s p) m).map bC++[true].map bC=(tab (fq c s p) (m+1)).map bC)∧TT 3 (W6 ((m+1:Nat):Int)∧TT 1 (AG (kB c s p i) m (m+1))))))) (TT 5 (IX ((((c.U.getD p aO).KA).getD m dj).chan) c.J.length∧TT 3 ((True∧(decide (((c.J.getD (((((c.U.getD p aO).KA).getD m dj).chan).toNat) aN).dst)=(-1)))=false)∧TT 3 (IX ((((c.U.getD p aO).KA).getD m dj).chan) s.J.length∧TT 5 (IX ((((c.U.getD p aO).KA).getD m dj).chan) c.J.length∧TT 4 (an [[(dB (decide ((((s.J.getD (((((c.U.getD p aO).KA).getD m dj).chan).toNat) []).length:Nat):Int)<((c.J.getD (((((c.U.getD p aO).KA).getD m dj).chan).toNat) aN).cap))))]] ([decide ((((s.J.getD (((((c.U.getD p aO).KA).getD m dj).chan).toNat) []).length:Nat):Int)<((c.J.getD (((((c.U.getD p aO).KA).getD m dj).chan).toNat) aN).cap))].map bC)∧((tab (fq c s p) m).length+([decide ((((s.J.getD (((((c.U.getD p aO).KA).getD m dj).chan).toNat) []).length:Nat):Int)<((c.J.getD (((((c.U.getD p aO).KA).getD m dj).chan).toNat) aN).cap))].map bC).length≤137438953472∧(tab (fq c s p) m).map bC++[decide ((((s.J.getD (((((c.U.getD p aO).KA).getD m dj).chan).toNat) []).length:Nat):Int)<((c.J.getD (((((c.U.getD p aO).KA).getD m dj).chan).toNat) aN).cap))].map bC=(tab (fq c s p) (m+1)).map bC)∧TT 3 (W6 ((m+1:Nat):Int)∧TT 1 (AG (kB c s p i) m (m+1))))))))))))) (TT 3 ((tab (gB c s p) i).map gq=(cB c s p).map gq∧(tab (fq c s p) m).map bC=(cJ c s p).map bC∧True)))))))))))) (.g 2 3 0 168 2 gq cz<|.l (kA c s p) 0 (fun i=>.b 22 (.b 42 (.w 9 [(3,.box 168 2 gq cz [(⟨true,((s.J.getD (((((c.U.getD p aO).I).getD i cU).chan).toNat) []).getD 0 0)⟩:Hd)]),(4,.box 168 2 gq cz (tab (gB c s p) (i+1)))]<|.w 4 [(1,.val (i6 ((i+1:Nat):Int)))]<|.e) (.w 9 [(3,.box 168 2 gq cz [(⟨false,0⟩:Hd)]),(4,.box 168 2 gq cz (tab (gB c s p) (i+1)))]<|.w 4 [(1,.val (i6 ((i+1:Nat):Int)))]<|.e)) (.g 10 3 1 4 1 bC false<|.l (kB c s p i) 0 (fun m=>.b 61 (.s 14 (((c.J.getD (((((c.U.getD p aO).KA).getD m dj).chan).toNat) aN).dst)=(-1)) (.w 14 [(9,.val (dB true)),(24,.box 4 1 bC false [true]),(25,.box 4 1 bC false (tab (fq c s p) (m+1)))]<|.w 12 [(1,.val (i6 ((m+1:Nat):Int)))]<|.e) (.w 14 [(9,.val (dB false)),(24,.box 4 1 bC false [decide ((((s.J.getD (((((c.U.getD p aO).KA).getD m dj).chan).toNat) []).length:Nat):Int)<((c.J.getD (((((c.U.getD p aO).KA).getD m dj).chan).toNat) aN).cap))]),(25,.box 4 1 bC false (tab (fq c s p) (m+1)))]<|.w 12 [(1,.val (i6 ((m+1:Nat):Int)))]<|.e)) (.e))))) Try.func75 rfl rfl rfl (by kernel_rfl) ?_
 refine tt ⟨rfl,(by omega),?_⟩
 intro i J'
 have hi:=J'
 refine tt ⟨ix,tt (cd (fun Oq=>?_) (fun Oq=>?_))⟩
 · have QR:0≤((c.U.getD p aO).I.getD i cU).chan∧((c.U.getD p aO).I.getD i cU).chan<c.J.length:=⟨(hc.tk p hp i (show i<(c.U.getD p aO).I.length by omega)).1,(hc.tk p hp i (show i<(c.U.getD p aO).I.length by omega)).2.1⟩
   refine tt ⟨ix,tt ⟨ix,tt ⟨ix,tt (cd (fun ND=>?_) (fun ND=>?_))⟩⟩⟩
   · refine tt ⟨ix,tt ⟨⟨⟨rfl,rfl,oK⟩,oK⟩,⟨(bw (by omega) (by first | exact(KT (show 0<(s.J.getD ((c.U.getD p aO).I.getD i cU).chan.toNat []).length by omega)).symm | exact(KK (show ¬0<(s.J.getD ((c.U.getD p aO).I.getD i cU).chan.toNat []).length by omega)).symm)),tt ⟨w6,tt ⟨(i+1),rfl,(?_:(i+1)≤(c.U.getD p aO).I.length),(?_:(c.U.getD p aO).I.length-(i+1)<(c.U.getD p aO).I.length-i)⟩⟩⟩⟩⟩
     · omega
     · omega
   · refine tt ⟨⟨⟨rfl,rfl,oK⟩,oK⟩,⟨(bw (by omega) (by first | exact(KT (show 0<(s.J.getD ((c.U.getD p aO).I.getD i cU).chan.toNat []).length by omega)).symm | exact(KK (show ¬0<(s.J.getD ((c.U.getD p aO).I.getD i cU).chan.toNat []).length by omega)).symm)),tt ⟨w6,tt ⟨(i+1),rfl,(?_:(i+1)≤(c.U.getD p aO).I.length),(?_:(c.U.getD p aO).I.length-(i+1)<(c.U.getD p aO).I.length-i)⟩⟩⟩⟩
     · omega
     · omega
 · refine tt ⟨rfl,(by omega),?_⟩
   intro m J'
   have hm:=J'
   refine tt ⟨ix,tt (cd (fun hc61=>?_) (fun hc61=>?_))⟩
   · have hpt:0≤((c.U.getD p aO).KA.getD m dj).chan∧((c.U.getD p aO).KA.getD m dj).chan<c.J.length:=⟨(hc.pt p hp m (show m<(c.U.getD p aO).KA.length by omega)).1,(hc.pt p hp m (show m<(c.U.getD p aO).KA.length by omega)).2.1⟩
     refine tt ⟨ix,tt ⟨ix,tt ⟨fun MV=>?_,fun MV=>?_⟩⟩⟩
     · refine tt ⟨ix,tt ⟨(vT MV),tt ⟨⟨⟨rfl,oK⟩,oK⟩,⟨(bw (by omega) (by first | exact(DN MV).symm | exact(vG MV).symm | exact(vG Nl).symm)),tt ⟨w6,tt ⟨(m+1),rfl,(?_:(m+1)≤(c.U.getD p aO).KA.length),(?_:(c.U.getD p aO).KA.length-(m+1)<(c.U.getD p aO).KA.length-m)⟩⟩⟩⟩⟩⟩
       · omega
       · omega
     · refine tt ⟨ix,tt ⟨(vF MV),tt ⟨ix,tt ⟨ix,tt ⟨⟨⟨rfl,oK⟩,oK⟩,⟨(bw (by omega) (by first | exact(DN MV).symm | exact(vG MV).symm | exact(vG Nl).symm)),tt ⟨w6,tt ⟨(m+1),rfl,(?_:(m+1)≤(c.U.getD p aO).KA.length),(?_:(c.U.getD p aO).KA.length-(m+1)<(c.U.getD p aO).KA.length-m)⟩⟩⟩⟩⟩⟩⟩⟩
       · omega
       · omega
   · refine tt ⟨(congrArg _ (?_:(tab (gB c s p) i)=(cB c s p))),(congrArg _ (?_:(tab (fq c s p) m)=(cJ c s p))),oK⟩
     · rw[show i=(c.U.getD p aO).I.length by omega];rfl
     · rw[show m=(c.U.getD p aO).KA.length by omega];rfl
abbrev It (c:Ci) (s:Ns) (p:Nat):Ct:=⟨64,[(.agg (kz c)),(.agg (mc s)),(i6 (p:Int))],true,(.agg [(dB ((ax c s p).fires)),(LI (((ax c s p).s).KC)),(dL 1 ac [] (((ax c s p).s).KB)),(LB ((ax c s p).pops)),(dL 2 gq cz ((ax c s p).KA))])⟩
theorem uE (c:Ci) (s:Ns) (p:Nat) (hc:bO c) (hs:cA c s) (hp:p<c.U.length):CC (It c s p):=by
 have NC:=hc.nl
 have hcl:=hc.cl
 have QZ:iG (c.U.getD p aO):=hc.pr p hp
 have OS:=hs.pl
 have Qz:=hs.cl
 have ht1:(c.U.getD p aO).I.length≤100:=QZ.tl
 have ht2:(c.U.getD p aO).KA.length≤100:=QZ.pl
 refine ai.vc (V:=TT 6 (IX (p:Int) c.U.length∧TT 4 (IX (p:Int) s.U.length∧TT 4 (CC (JF c s p)∧CC (JC (c.U.getD p aO) (s.U.getD p aY) (cB c s p) (cJ c s p))∧TT 2 (((a8 (c.U.getD p aO) (s.U.getD p aY) (cB c s p) (cJ c s p)).fires)=((ax c s p).fires)∧(((a8 (c.U.getD p aO) (s.U.getD p aY) (cB c s p) (cJ c s p)).s).KC).map (ab .i64)=(((ax c s p).s).KC).map (ab .i64)∧(((a8 (c.U.getD p aO) (s.U.getD p aY) (cB c s p) (cJ c s p)).s).KB).map ac=(((ax c s p).s).KB).map ac∧((a8 (c.U.getD p aO) (s.U.getD p aY) (cB c s p) (cJ c s p)).pops).map bC=((ax c s p).pops).map bC∧((a8 (c.U.getD p aO) (s.U.getD p aY) (cB c s p) (cJ c s p)).KA).map gq=((ax c s p).KA).map gq∧True))))) (.w 1 [(13,(JF c s p).O),(14,(JC (c.U.getD p aO) (s.U.getD p aY) (cB c s p) (cJ c s p)).O)]<|.e) Try.func64 rfl rfl rfl (by kernel_rfl) ?_
 refine tt ⟨ix,tt ⟨ix,tt ⟨(Ei c s p hc hs hp),⟨(B1 (c.U.getD p aO) (s.U.getD p aY) (cB c s p) (cJ c s p) QZ (hs.pv p hp) (sa hc hs hp) (by rw[cJ,ay])),tt ⟨?_,(congrArg _ (?_:(((a8 (c.U.getD p aO) (s.U.getD p aY) (cB c s p) (cJ c s p)).s).KC)=(((ax c s p).s).KC))),(congrArg _ (?_:(((a8 (c.U.getD p aO) (s.U.getD p aY) (cB c s p) (cJ c s p)).s).KB)=(((ax c s p).s).KB))),(congrArg _ (?_:((a8 (c.U.getD p aO) (s.U.getD p aY) (cB c s p) (cJ c s p)).pops)=((ax c s p).pops))),(congrArg _ (?_:((a8 (c.U.getD p aO) (s.U.getD p aY) (cB c s p) (cJ c s p)).KA)=((ax c s p).KA))),oK⟩⟩⟩⟩⟩
 all_goals (rfl)
abbrev JG (c:Ci) (s:Ns) (p:Int):Ct:=⟨52,[(.agg (kz c)),(.agg (mc s)),(i6 p)],false,(dB (gC c s p))⟩
theorem FY (c:Ci) (s:Ns) (p:Int) (hc:bO c) (hs:cA c s):CC (JG c s p):=by
 have NC:=hc.nl
 have hcl:=hc.cl
 refine ai.vc (V:=TT 3 (CS (p≥0) (CS (p<(c.U.length:Int)) (TT 2 ((True∧(decide (p≥0))=true)∧TT 6 ((True∧(decide (p<(c.U.length:Int)))=true)∧TT 2 ((True∧p=(p.toNat:Int))∧CC (It c s p.toNat)∧TT 4 (((ax c s p.toNat).fires)=(gC c s p)∧True))))) (TT 2 ((True∧(decide (p≥0))=true)∧TT 6 ((True∧(decide (p<(c.U.length:Int)))=false)∧TT 8 (false=(gC c s p)∧True))))) (TT 2 ((True∧(decide (p≥0))=false)∧TT 15 (false=(gC c s p)∧True))))) (.s 1 (p≥0) (.s 1 (p<(c.U.length:Int)) (.w 1 [(2,.val (dB true)),(9,.val (dB true)),(12,.val (i6 (p.toNat:Int))),(13,(It c s p.toNat).O)]<|.e) (.w 1 [(2,.val (dB true)),(9,.val (dB false))]<|.e)) (.w 1 [(2,.val (dB false))]<|.e)) Try.func52 rfl rfl rfl (by kernel_rfl) ?_
 refine tt ⟨fun MV=>?_,fun MV=>?_⟩
 · refine⟨fun Nl=>?_,fun Nl=>?_⟩
   · refine tt ⟨(vT MV),tt ⟨(vT Nl),tt ⟨⟨oK,(by omega)⟩,⟨(uE c s p.toNat hc hs (by omega)),tt ⟨?_,oK⟩⟩⟩⟩⟩
     first | exact(si (by omega)).symm | exact(sj (by omega)).symm | exact(qD (by omega) (by omega)).symm
   · refine tt ⟨(vT MV),tt ⟨(vF Nl),tt ⟨?_,oK⟩⟩⟩
     first | exact(si (by omega)).symm | exact(sj (by omega)).symm | exact(qD (by omega) (by omega)).symm
 · refine tt ⟨(vF MV),tt ⟨?_,oK⟩⟩
   first | exact(si (by omega)).symm | exact(sj (by omega)).symm | exact(qD (by omega) (by omega)).symm
abbrev Iu (a b:Ns):Ct:=⟨16,[(.agg [(dL 2 aU aY a.U),(dL 1 ac [] a.J)]),(.agg [(dL 2 aU aY b.U),(dL 1 ac [] b.J)])],false,(dB (cC a b))⟩
abbrev ly (a:Ns) (b:Ns):Lp (Nat):=il [2,3,5] 2 (fun (i:Nat)=>⟨[(2,(.ptr 0 0 0 0)),(3,(.ptr 1 0 0 0)),(5,(i6 (i:Int)))],[(.var 46 [(dL 2 aU aY a.U),(dL 1 ac [] a.J)]),(.var 46 [(dL 2 aU aY b.U),(dL 1 ac [] b.J)])]⟩) (fun (i:Nat)=>i≤a.U.length∧∀z,z<i→c8 (a.U.getD z aY) (b.U.getD z aY)=true) (fun (i:Nat)=>a.U.length-i)
abbrev lz (a:Ns) (b:Ns):Lp (Nat):=il [2,3,6] 2 (fun (n:Nat)=>⟨[(2,(.ptr 0 0 0 0)),(3,(.ptr 1 0 0 0)),(6,(i6 (n:Int)))],[(.var 46 [(dL 2 aU aY a.U),(dL 1 ac [] a.J)]),(.var 46 [(dL 2 aU aY b.U),(dL 1 ac [] b.J)])]⟩) (fun (n:Nat)=>n≤a.J.length∧∀z,z<n→a.J.getD z []=b.J.getD z []) (fun (n:Nat)=>a.J.length-n)
theorem uF (a b:Ns) (hz:Jw a):CC (Iu a b):=by
 obtain⟨hap,hac,hcb,hpa,hpb,hpc⟩:=hz
 refine ai.vc (V:=TT 3 (CS ((a.U.length:Int)=(b.U.length:Int)) (TT 7 ((True∧(!decide ((a.U.length:Int)=(b.U.length:Int)))=false)∧TT 8 (CN ((a.J.length:Int)=(b.J.length:Int)) (TT 2 (false=(cC a b)∧True)) (TT 1 (GO (ly a b) 0 (∀i,(ly a b).inv i→TT 5 (CD ((i:Int)<(a.U.length:Int)) (TT 3 (IX (i:Int) a.U.length∧TT 4 (IX (i:Int) b.U.length∧TT 1 (CC (JD (a.U.getD i aY) (b.U.getD i aY))∧TT 1 (CB (!(c8 (a.U.getD i aY) (b.U.getD i aY))) (TT 2 (false=(cC a b)∧True)) (TT 1 (W6 ((i+1:Nat):Int)∧TT 1 (AG (ly a b) i (i+1))))))))) (TT 1 (GO (lz a b) 0 (∀n,(lz a b).inv n→TT 5 (CD ((n:Int)<(a.J.length:Int)) (TT 3 (IX (n:Int) a.J.length∧TT 4 (IX (n:Int) b.J.length∧TT 1 (CC (FX (a.J.getD n []) (b.J.getD n []))∧TT 1 (CN ((a.J.getD n [])=(b.J.getD n [])) (TT 2 (false=(cC a b)∧True)) (TT 1 (W6 ((n+1:Nat):Int)∧TT 1 (AG (lz a b) n (n+1))))))))) (TT 2 (true=(cC a b)∧True))))))))))))) (TT 7 ((True∧(!decide ((a.U.length:Int)=(b.U.length:Int)))=true)∧TT 10 (false=(cC a b)∧True))))) (.s 1 ((a.U.length:Int)=(b.U.length:Int)) (.w 1 [(7,.val (dB false))]<|.b 22 (.e) (.l (ly a b) 0 (fun i=>.b 27 (.w 6 [(10,(JD (a.U.getD i aY) (b.U.getD i aY)).O)]<|.b 41 (.e) (.w 5 [(1,.val (i6 ((i+1:Nat):Int)))]<|.e)) (.l (lz a b) 0 (fun n=>.b 46 (.w 11 [(10,(FX (a.J.getD n []) (b.J.getD n [])).O)]<|.b 60 (.e) (.w 10 [(1,.val (i6 ((n+1:Nat):Int)))]<|.e)) (.e)))))) (.w 1 [(7,.val (dB true))]<|.e)) Try.func16 rfl rfl rfl (by kernel_rfl) ?_
 refine tt ⟨fun MV=>?_,fun MV=>?_⟩
 · refine tt ⟨(nF MV),tt (cn (fun Oq=>?_) (fun Oq=>?_))⟩
   · refine tt ⟨?_,oK⟩
     first | exact(gH (by omega)).symm | exact(gI (by omega)).symm | exact(gJ (i:=i) (by omega) (by simpa using O6)).symm | exact(gL (n:=n) (by simpa using PA)).symm | exact(gM (by omega) (by omega) (fun z hz=>h3 z (by omega)) (fun z hz=>h4 z (by omega))).symm
   · refine tt ⟨rfl,⟨by omega,fun z hz=>by omega⟩,?_⟩
     intro i J'
     obtain⟨hi,h3⟩:=J'
     refine tt (cd (fun hc27=>?_) (fun hc27=>?_))
     · refine tt ⟨ix,tt ⟨ix,tt ⟨(B2 (a.U.getD i aY) (b.U.getD i aY) (by have:=hpa i;omega) (by have:=hpb i;omega) (fun j=>by have:=hpc i j;omega)),tt ⟨fun O6=>?_,fun O6=>?_⟩⟩⟩⟩
       · refine tt ⟨?_,oK⟩
         first | exact(gH (by omega)).symm | exact(gI (by omega)).symm | exact(gJ (i:=i) (by omega) (by simpa using O6)).symm | exact(gL (n:=n) (by simpa using PA)).symm | exact(gM (by omega) (by omega) (fun z hz=>h3 z (by omega)) (fun z hz=>h4 z (by omega))).symm
       · refine tt ⟨w6,tt ⟨(i+1),rfl,?_,(?_:a.U.length-(i+1)<a.U.length-i)⟩⟩
         · exact⟨by omega,bA h3 (by simpa using O6)⟩
         · omega
     · refine tt ⟨rfl,⟨by omega,fun z hz=>by omega⟩,?_⟩
       intro n J'
       obtain⟨hn,h4⟩:=J'
       refine tt (cd (fun N4=>?_) (fun N4=>?_))
       · refine tt ⟨ix,tt ⟨ix,tt ⟨(qQ (a.J.getD n []) (b.J.getD n []) (by have:=hcb n;omega)),tt (cn (fun PA=>?_) (fun PA=>?_))⟩⟩⟩
         · refine tt ⟨?_,oK⟩
           first | exact(gH (by omega)).symm | exact(gI (by omega)).symm | exact(gJ (i:=i) (by omega) (by simpa using O6)).symm | exact(gL (n:=n) (by simpa using PA)).symm | exact(gM (by omega) (by omega) (fun z hz=>h3 z (by omega)) (fun z hz=>h4 z (by omega))).symm
         · refine tt ⟨w6,tt ⟨(n+1),rfl,?_,(?_:a.J.length-(n+1)<a.J.length-n)⟩⟩
           · exact⟨by omega,bA h4 (by simpa using PA)⟩
           · omega
       · refine tt ⟨?_,oK⟩
         first | exact(gH (by omega)).symm | exact(gI (by omega)).symm | exact(gJ (i:=i) (by omega) (by simpa using O6)).symm | exact(gL (n:=n) (by simpa using PA)).symm | exact(gM (by omega) (by omega) (fun z hz=>h3 z (by omega)) (fun z hz=>h4 z (by omega))).symm
 · refine tt ⟨(nT MV),tt ⟨?_,oK⟩⟩
   first | exact(gH (by omega)).symm | exact(gI (by omega)).symm | exact(gJ (i:=i) (by omega) (by simpa using O6)).symm | exact(gL (n:=n) (by simpa using PA)).symm | exact(gM (by omega) (by omega) (fun z hz=>h3 z (by omega)) (fun z hz=>h4 z (by omega))).symm
abbrev uG (s:Ns):List D:=[(dL 2 aU aY s.U),(dL 1 ac [] s.J)]
abbrev uH (c:Ci):List D:=[(dL 6 eK aO c.U),(dL 5 dq aN c.J)]
abbrev Gq (c:Ci) (s:Ns) (p:Nat):am:=(.var 165 [(dB ((ax c s p).fires)),(LI (((ax c s p).s).KC)),(dL 1 ac [] (((ax c s p).s).KB)),(LB ((ax c s p).pops)),(dL 2 gq cz ((ax c s p).KA))])
abbrev AK:am:=(.var 148 [(.own 15),(.own 16),(.own 3)])
set_option maxRecDepth 100000
abbrev JH (c:Ci) (s:Ns) (wl:List Bool):Ct:=⟨53,[(.agg (uH c)),(.agg (uG s)),(LB wl)],true,(.agg [(dL 2 aU aY ((b6 c s (wB wl)).U)),(dL 1 ac [] ((b6 c s (wB wl)).J)),(LB (tab (bh c s (wB wl)) c.U.length))])⟩
abbrev dT (c:Ci) (s:Ns) (wl:List Bool):Lp (Nat×List Bool×List Int×List (Option Int)):=Kd [2,3,4,6,7,8,9,10] 17 (fun (p:Nat) (fd:List Bool) (gn:List Int) (cm:List (Option Int))=>⟨[(2,(LB wl)),(3,(.ptr 0 0 0 0)),(4,(.ptr 1 0 0 0)),(6,(.ptr 2 0 0 0)),(7,(.ptr 4 0 0 0)),(8,(.own 8)),(9,(.own 12)),(10,(i6 (p:Int)))],[(.var 42 (uH c)),(.var 46 (uG s)),(.var 148 [.nils,.nils,.nils]),(.arr 4 1 bC false fd),AK,.dead,.dead,.dead,(.arr 3 1 (ab .i64) 0 gn),.dead,.dead,.dead,(.arr 38 1 Ea none cm),.dead,.dead,(.arr 88 2 aU aY (tab (cK c s (wB wl)) p)),(.arr 38 1 ac [] [])]⟩) (fun (p:Nat) (fd:List Bool) (gn:List Int) (cm:List (Option Int))=>p≤c.U.length∧fd=mJ (bh c s (wB wl)) (List.replicate c.U.length false) p∧gn=cD (List.replicate c.J.length 0) (o8 c s (wB wl) p)∧cm=cr (List.replicate c.J.length none) (mK c s (wB wl) p)) (fun (p:Nat) (fd:List Bool) (gn:List Int) (cm:List (Option Int))=>c.U.length-p)
abbrev fy (c:Ci) (s:Ns) (wl:List Bool) (p:Nat) (fd:List Bool) (gn:List Int) (cm:List (Option Int)):Lp (Nat×List Int):=zS [2,3,4,6,7,8,9,10,11,12] 19 (fun (q:Nat) (g2:List Int)=>⟨[(2,(LB wl)),(3,(.ptr 0 0 0 0)),(4,(.ptr 1 0 0 0)),(6,(.ptr 2 0 0 0)),(7,(.ptr 4 0 0 0)),(8,(.own 8)),(9,(.own 12)),(10,(i6 (p:Int))),(11,(.ptr 17 0 0 0)),(12,(i6 (q:Int)))],[(.var 42 (uH c)),(.var 46 (uG s)),(.var 148 [.nils,.nils,.nils]),(.arr 4 1 bC false (fd.set p true)),AK,.dead,.dead,.dead,(.arr 3 1 (ab .i64) 0 g2),.dead,.dead,.dead,(.arr 38 1 Ea none cm),.dead,.dead,(.arr 88 2 aU aY (tab (cK c s (wB wl)) (p+1))),(.arr 38 1 ac [] []),(Gq c s p),(.arr 88 2 aU aY [(ax c s p).s])]⟩) (fun (q:Nat) (g2:List Int)=>q≤(ax c s p).pops.length∧g2=cD gn (s4 (c.U.getD p aO) (ax c s p) q)) (fun (q:Nat) (g2:List Int)=>(ax c s p).pops.length-q)
abbrev fA (c:Ci) (s:Ns) (wl:List Bool) (p:Nat) (fd:List Bool) (cm:List (Option Int)) (g2:List Int):Lp (Nat×List (Option Int)):=zS [2,3,4,6,7,8,9,10,11,13] 19 (fun (r:Nat) (c2:List (Option Int))=>⟨[(2,(LB wl)),(3,(.ptr 0 0 0 0)),(4,(.ptr 1 0 0 0)),(6,(.ptr 2 0 0 0)),(7,(.ptr 4 0 0 0)),(8,(.own 8)),(9,(.own 12)),(10,(i6 (p:Int))),(11,(.ptr 17 0 0 0)),(13,(i6 (r:Int)))],[(.var 42 (uH c)),(.var 46 (uG s)),(.var 148 [.nils,.nils,.nils]),(.arr 4 1 bC false (fd.set p true)),AK,.dead,.dead,.dead,(.arr 3 1 (ab .i64) 0 g2),.dead,.dead,.dead,(.arr 38 1 Ea none c2),.dead,.dead,(.arr 88 2 aU aY (tab (cK c s (wB wl)) (p+1))),(.arr 38 1 ac [] []),(Gq c s p),(.arr 88 2 aU aY [(ax c s p).s])]⟩) (fun (r:Nat) (c2:List (Option Int))=>r≤(ax c s p).KA.length∧c2=cr cm (s5 (c.U.getD p aO) (ax c s p) r)) (fun (r:Nat) (c2:List (Option Int))=>(ax c s p).KA.length-r)
abbrev ia (c:Ci) (s:Ns) (wl:List Bool) (p:Nat) (fd:List Bool) (gn:List Int) (cm:List (Option Int)):Lp (Nat):=il [3,4,6,7,8,9,15] 17 (fun (i:Nat)=>⟨[(3,(.ptr 0 0 0 0)),(4,(.ptr 1 0 0 0)),(6,(.ptr 2 0 0 0)),(7,(.ptr 4 0 0 0)),(8,(.own 8)),(9,(.own 12)),(15,(i6 (i:Int)))],[(.var 42 (uH c)),(.var 46 (uG s)),(.var 148 [.nils,.nils,.nils]),(.arr 4 1 bC false fd),AK,.dead,.dead,.dead,(.arr 3 1 (ab .i64) 0 gn),.dead,.dead,.dead,(.arr 38 1 Ea none cm),.dead,.dead,(.arr 88 2 aU aY (tab (cK c s (wB wl)) p)),(.arr 38 1 ac [] (tab (gE c s (wB wl)) i))]⟩) (fun (i:Nat)=>i≤c.J.length) (fun (i:Nat)=>c.J.length-i)
theorem xt (c:Ci) (s:Ns) (wl:List Bool) (hc:bO c) (hs:cA c s) (O4:jJ s 4294967296) (hw:wl.length=c.U.length):CC (JH c s wl):=by
 have NC:=hc.nl
 have hcl:=hc.cl
 have OS:=hs.pl
 have Qz:=hs.cl
 refine ai.vc (V:=TT 7 ((((0:Int)≤(c.U.length:Int)∧(c.U.length:Int)≤(c.U.length:Int)∧(c.U.length:Int)≤137438953472)∧(List.replicate c.U.length false).length=c.U.length∧∀x∈(List.replicate c.U.length false),dG [(dB false)] (bC x))∧TT 6 ((((0:Int)≤(c.J.length:Int)∧(c.J.length:Int)≤(c.J.length:Int)∧(c.J.length:Int)≤137438953472)∧(List.replicate c.J.length (0:Int)).length=c.J.length∧∀x∈(List.replicate c.J.length (0:Int)),dG [(i6 0)] ((ab .i64) x))∧TT 3 ((((0:Int)≤(c.J.length:Int)∧(c.J.length:Int)≤(c.J.length:Int)∧(c.J.length:Int)≤137438953472)∧(List.replicate c.J.length (none:Option Int)).length=c.J.length∧∀x∈(List.replicate c.J.length (none:Option Int)),dG [.nils] (Ea x))∧TT 3 (GO (dT c s wl) (0,List.replicate c.U.length false,List.replicate c.J.length (0:Int),List.replicate c.J.length (none:Option Int)) (∀p fd gn cm,(dT c s wl).inv (p,fd,gn,cm)→TT 5 (CD ((p:Int)<(c.U.length:Int)) (TT 3 (CC (It c s p)∧TT 2 (CS ((wl.getD p false)=true) (TT 2 (IX (p:Int) wl.length∧TT 2 ((True∧(!(wl.getD p false))=false)∧TT 4 (CB (!((ax c s p).fires)) (TT 6 (IX (p:Int) s.U.length∧TT 1 (an [[(LI ((s.U.getD p aY).KC)),(dL 1 ac [] ((s.U.getD p aY).KB))]] ([s.U.getD p aY].map aU)∧((tab (cK c s (wB wl)) p).length+([s.U.getD p aY].map aU).length≤137438953472∧(tab (cK c s (wB wl)) p).map aU++[s.U.getD p aY].map aU=(tab (cK c s (wB wl)) (p+1)).map aU)∧TT 4 (W6 ((p+1:Nat):Int)∧TT 1 (AG (dT c s wl) (p,fd,gn,cm) (p+1,fd,gn,cm)))))) (TT 3 (IX (p:Int) fd.length∧(p<fd.length∧(fd.map bC).set p ((bC (fd.getD p false)).take 0++[(.bool true)]++(bC (fd.getD p false)).drop (0+1))=(fd.set p true).map bC)∧TT 5 (an [[(LI (((ax c s p).s).KC)),(dL 1 ac [] (((ax c s p).s).KB))]] ([(ax c s p).s].map aU)∧((tab (cK c s (wB wl)) p).length+([(ax c s p).s].map aU).length≤137438953472∧(tab (cK c s (wB wl)) p).map aU++[(ax c s p).s].map aU=(tab (cK c s (wB wl)) (p+1)).map aU)∧TT 4 (GO (fy c s wl p fd gn cm) (0,gn) (∀q g2,(fy c s wl p fd gn cm).inv (q,g2)→TT 5 (CD ((q:Int)<((((ax c s p).pops).length:Nat):Int)) (TT 3 (IX (q:Int) (((ax c s p).pops).length)∧TT 1 (CB ((((ax c s p).pops).getD q false)) (TT 4 (IX (p:Int) c.U.length∧TT 3 (IX (q:Int) (((c.U.getD p aO).I).length)∧TT 2 (IX ((((c.U.getD p aO).I).getD q cU).chan) g2.length∧(((((c.U.getD p aO).I).getD q cU).chan).toNat<g2.length∧(g2.map (ab .i64)).set (((((c.U.getD p aO).I).getD q cU).chan).toNat) (((ab .i64) (g2.getD (((((c.U.getD p aO).I).getD q cU).chan).toNat) 0)).take 0++[(.int .i64 1)]++((ab .i64) (g2.getD (((((c.U.getD p aO).I).getD q cU).chan).toNat) 0)).drop (0+1))=(g2.set (((((c.U.getD p aO).I).getD q cU).chan).toNat) 1).map (ab .i64))∧TT 1 (W6 ((q+1:Nat):Int)∧TT 1 (AG (fy c s wl p fd gn cm) (q,g2) (q+1,g2.set (((((c.U.getD p aO).I).getD q cU).chan).toNat) 1))))))) (TT 1 (W6 ((q+1:Nat):Int)∧TT 1 (AG (fy c s wl p fd gn cm) (q,g2) (q+1,g2))))))) (TT 1 (GO (fA c s wl p fd cm g2) (0,cm) (∀r c2,(fA c s wl p fd cm g2).inv (r,c2)→TT 5 (CD ((r:Int)<((((ax c s p).KA).length:Nat):Int)) (TT 3 (IX (r:Int) (((ax c s p).KA).length)∧TT 2 (CB ((((ax c s p).KA).getD r cz).has) (TT 3 (IX (p:Int) c.U.length∧TT 3 (IX (r:Int) (((c.U.getD p aO).KA).length)∧TT 7 (IX ((((c.U.getD p aO).KA).getD r dj).chan) c2.length∧((((((c.U.getD p aO).KA).getD r dj).chan).toNat<c2.length∧True)∧Cw (Ig (c2.getD (((((c.U.getD p aO).KA).getD r dj).chan).toNat) none)))∧TT 3 (IX (r:Int) (((ax c s p).KA).length)∧TT 2 (an [[(i6 ((((ax c s p).KA).getD r cz).v))]] ([(((ax c s p).KA).getD r cz).v].map (ab .i64))∧(([(((ax c s p).KA).getD r cz).v].map (ab .i64)).length≤137438953472∧[(((ax c s p).KA).getD r cz).v].map (ab .i64)=[(((ax c s p).KA).getD r cz).v].map (ab .i64))∧IX ((((c.U.getD p aO).KA).getD r dj).chan) c2.length∧(((((c.U.getD p aO).KA).getD r dj).chan).toNat<c2.length∧(c2.map Ea).set (((((c.U.getD p aO).KA).getD r dj).chan).toNat) ((Ea (c2.getD (((((c.U.getD p aO).KA).getD r dj).chan).toNat) none)).take 0++[(.sl 1 (ab .i64) 0 [(((ax c s p).KA).getD r cz).v])]++(Ea (c2.getD (((((c.U.getD p aO).KA).getD r dj).chan).toNat) none)).drop (0+1))=(c2.set (((((c.U.getD p aO).KA).getD r dj).chan).toNat) (some ((((ax c s p).KA).getD r cz).v))).map Ea)∧TT 1 (W6 ((r+1:Nat):Int)∧TT 1 (AG (fA c s wl p fd cm g2) (r,c2) (r+1,c2.set (((((c.U.getD p aO).KA).getD r dj).chan).toNat) (some ((((ax c s p).KA).getD r cz).v))))))))))) (TT 1 (W6 ((r+1:Nat):Int)∧TT 1 (AG (fA c s wl p fd cm g2) (r,c2) (r+1,c2))))))) (TT 1 (W6 ((p+1:Nat):Int)∧TT 1 (AG (dT c s wl) (p,fd,gn,cm) (p+1,fd.set p true,g2,c2)))))))))))))))))) (TT 2 (IX (p:Int) wl.length∧TT 2 ((True∧(!(wl.getD p false))=true)∧TT 10 (IX (p:Int) s.U.length∧TT 1 (an [[(LI ((s.U.getD p aY).KC)),(dL 1 ac [] ((s.U.getD p aY).KB))]] ([s.U.getD p aY].map aU)∧((tab (cK c s (wB wl)) p).length+([s.U.getD p aY].map aU).length≤137438953472∧(tab (cK c s (wB wl)) p).map aU++[s.U.getD p aY].map aU=(tab (cK c s (wB wl)) (p+1)).map aU)∧TT 4 (W6 ((p+1:Nat):Int)∧TT 1 (AG (dT c s wl) (p,fd,gn,cm) (p+1,fd,gn,cm))))))))))) (TT 1 (GO (ia c s wl p fd gn cm) 0 (∀i,(ia c s wl p fd gn cm).inv i→TT 5 (CD ((i:Int)<(c.J.length:Int)) (TT 3 (an [] (([]:List Int).map (ab .i64))∧TT 3 (IX (i:Int) s.J.length∧TT 3 (IX (i:Int) gn.length∧(i<gn.length∧True)∧(0≤(gn.getD i 0)∧(gn.getD i 0)≤((s.J.getD i []).length:Int)∧((s.J.getD i []).length:Int)≤((s.J.getD i []).length:Int))∧(([]:List Int).length+(((s.J.getD i []).drop ((gn.getD i 0).toNat)).map (ab .i64)).length≤137438953472∧([]:List Int).map (ab .i64)++((s.J.getD i []).drop ((gn.getD i 0).toNat)).map (ab .i64)=((s.J.getD i []).drop ((gn.getD i 0).toNat)).map (ab .i64))∧TT 2 (IX (i:Int) cm.length∧((i<cm.length∧True)∧yc (Ig (cm.getD i none)) (.sl 1 (ab .i64) 0 (tj (cm.getD i none))))∧(((s.J.getD i []).drop ((gn.getD i 0).toNat)).length+((tj (cm.getD i none)).map (ab .i64)).length≤137438953472∧((s.J.getD i []).drop ((gn.getD i 0).toNat)).map (ab .i64)++(tj (cm.getD i none)).map (ab .i64)=(((s.J.getD i []).drop ((gn.getD i 0).toNat))++(tj (cm.getD i none))).map (ab .i64))∧an [[(LI (((s.J.getD i []).drop ((gn.getD i 0).toNat))++(tj (cm.getD i none))))]] ([((s.J.getD i []).drop ((gn.getD i 0).toNat))++(tj (cm.getD i none))].map ac)∧((tab (gE c s (wB wl)) i).length+([((s.J.getD i []).drop ((gn.getD i 0).toNat))++(tj (cm.getD i none))].map ac).length≤137438953472∧(tab (gE c s (wB wl)) i).map ac++[((s.J.getD i []).drop ((gn.getD i 0).toNat))++(tj (cm.getD i none))].map ac=(tab (gE c s (wB wl)) (i+1)).map ac)∧TT 4 (W6 ((i+1:Nat):Int)∧TT 1 (AG (ia c s wl p fd gn cm) i (i+1)))))))) (TT 3 ((tab (cK c s (wB wl)) p).map aU=((b6 c s (wB wl)).U).map aU∧(tab (gE c s (wB wl)) i).map ac=((b6 c s (wB wl)).J).map ac∧fd.map bC=(tab (bh c s (wB wl)) c.U.length).map bC∧True))))))))))))) (.w 1 [(4,.box 4 1 bC false (List.replicate c.U.length false))]<|.w 2 [(3,.box 3 1 (ab .i64) 0 (List.replicate c.J.length (0:Int))),(7,.box 38 1 Ea none (List.replicate c.J.length (none:Option Int)))]<|.g 3 4 0 88 2 aU aY<|.g 3 4 1 38 1 ac []<|.l (dT c s wl) (0,List.replicate c.U.length false,List.replicate c.J.length (0:Int),List.replicate c.J.length (none:Option Int)) (fun ⟨p,fd,gn,cm⟩=>.b 34 (.w 6 [(3,(It c s p).O)]<|.s 7 ((wl.getD p false)=true) (.w 7 [(5,.val (dB false))]<|.b 50 (.w 8 [(8,.box 88 2 aU aY [s.U.getD p aY]),(9,.box 88 2 aU aY (tab (cK c s (wB wl)) (p+1)))]<|.w 5 [(1,.val (i6 ((p+1:Nat):Int)))]<|.e) (.w 9 [(4,.box 4 1 bC false (fd.set p true))]<|.w 10 [(5,.box 88 2 aU aY [(ax c s p).s]),(6,.box 88 2 aU aY (tab (cK c s (wB wl)) (p+1)))]<|.l (fy c s wl p fd gn cm) (0,gn) (fun ⟨q,g2⟩=>.b 80 (.b 87 (.w 15 [(12,.box 3 1 (ab .i64) 0 (g2.set (((((c.U.getD p aO).I).getD q cU).chan).toNat) 1))]<|.w 13 [(1,.val (i6 ((q+1:Nat):Int)))]<|.e) (.w 13 [(1,.val (i6 ((q+1:Nat):Int)))]<|.e)) (.l (fA c s wl p fd cm g2) (0,cm) (fun ⟨r,c2⟩=>.b 104 (.b 112 (.w 21 [(5,.val .nils),(12,.box 3 1 (ab .i64) 0 [(((ax c s p).KA).getD r cz).v]),(13,.app true 3 1 (ab .i64) 0 [(((ax c s p).KA).getD r cz).v]),(15,.box 38 1 Ea none (c2.set (((((c.U.getD p aO).KA).getD r dj).chan).toNat) (some ((((ax c s p).KA).getD r cz).v))))]<|.w 18 [(1,.val (i6 ((r+1:Nat):Int)))]<|.e) (.w 18 [(1,.val (i6 ((r+1:Nat):Int)))]<|.e)) (.w 5 [(1,.val (i6 ((p+1:Nat):Int)))]<|.e)))))) (.w 7 [(5,.val (dB true))]<|.w 8 [(8,.box 88 2 aU aY [s.U.getD p aY]),(9,.box 88 2 aU aY (tab (cK c s (wB wl)) (p+1)))]<|.w 5 [(1,.val (i6 ((p+1:Nat):Int)))]<|.e)) (.l (ia c s wl p fd gn cm) 0 (fun i=>.b 142 (.w 25 [(3,.app false 3 1 (ab .i64) 0 ([]:List Int)),(14,.app false 3 1 (ab .i64) 0 ((s.J.getD i []).drop ((gn.getD i 0).toNat))),(18,.val (LI (tj (cm.getD i none)))),(19,.app true 3 1 (ab .i64) 0 (((s.J.getD i []).drop ((gn.getD i 0).toNat))++(tj (cm.getD i none)))),(20,.box 38 1 ac [] [((s.J.getD i []).drop ((gn.getD i 0).toNat))++(tj (cm.getD i none))]),(21,.box 38 1 ac [] (tab (gE c s (wB wl)) (i+1)))]<|.w 24 [(1,.val (i6 ((i+1:Nat):Int)))]<|.e) (.e))))) Try.func53 rfl rfl rfl (by kernel_rfl) ?_
 refine tt ⟨⟨by omega,by simp,fun x hx=>by rw[Ln hx];exact⟨rfl,oK⟩⟩,tt ⟨⟨by omega,by simp,fun x hx=>by rw[Ln hx];exact⟨rfl,oK⟩⟩,tt ⟨⟨by omega,by simp,fun x hx=>by rw[Ln hx];exact⟨oK,oK⟩⟩,tt ⟨rfl,⟨by omega,rfl,rfl,rfl⟩,?_⟩⟩⟩⟩
 intro p fd gn cm J'
 obtain⟨hp,hfd,QK,Pl⟩:=J'
 have hfl0:fd.length=c.U.length:=by rw[hfd,kn (by simp;omega)];simp
 have hgl0:gn.length=c.J.length:=by rw[QK,pG];simp
 have hml0:cm.length=c.J.length:=by rw[Pl,pH];simp
 refine tt (cd (fun hc34=>?_) (fun hc34=>?_))
 · refine tt ⟨(uE c s p hc hs (by omega)),tt ⟨fun MV=>?_,fun MV=>?_⟩⟩
   · refine tt ⟨ix,tt ⟨(mF MV),tt ⟨fun hc50=>?_,fun hc50=>?_⟩⟩⟩
     · have N1:=Hf (l:=wl) hc50
       refine tt ⟨ix,tt ⟨⟨⟨rfl,rfl,oK⟩,oK⟩,⟨(bw (by omega) (Gn N1)),tt ⟨w6,tt ⟨(p+1,fd,gn,cm),rfl,?_,(?_:c.U.length-(p+1)<c.U.length-p)⟩⟩⟩⟩⟩
       · exact⟨by omega,by rw[hfd];exact iH (d:=false) (by simp;omega) (by rw[N1,cY]),by rw[QK,Am N1],by rw[Pl,An N1]⟩
       · omega
     · have Sf:=Hg MV hc50
       have PF:(ax c s p).pops.length=(c.U.getD p aO).I.length:=tf _ _ _ _
       have PR:(ax c s p).KA.length=(c.U.getD p aO).KA.length:=tg _ _ _ _
       have ht1:(c.U.getD p aO).I.length≤100:=(hc.pr p (by omega)).tl
       have ht2:(c.U.getD p aO).KA.length≤100:=(hc.pr p (by omega)).pl
       refine tt ⟨ix,⟨⟨om,by simp only[Mb];rfl⟩,tt ⟨⟨⟨rfl,rfl,oK⟩,oK⟩,⟨(bw (by omega) (G3 Sf)),tt ⟨rfl,⟨by omega,rfl⟩,?_⟩⟩⟩⟩⟩
       intro q g2 J'
       obtain⟨hq,hg2⟩:=J'
       have hg2l:g2.length=c.J.length:=by rw[hg2,pG,hgl0]
       refine tt (cd (fun hc80=>?_) (fun hc80=>?_))
       · refine tt ⟨ix,tt ⟨fun Ob=>?_,fun Ob=>?_⟩⟩
         · have hqt:q<(c.U.getD p aO).I.length:=by omega
           have QR:0≤((c.U.getD p aO).I.getD q cU).chan∧((c.U.getD p aO).I.getD q cU).chan<c.J.length:=⟨(hc.tk p (by omega) q hqt).1,(hc.tk p (by omega) q hqt).2.1⟩
           refine tt ⟨ix,tt ⟨ix,tt ⟨ix,⟨⟨om,by simp only[Mb];rfl⟩,tt ⟨w6,tt ⟨(q+1,g2.set (((((c.U.getD p aO).I).getD q cU).chan).toNat) 1),rfl,?_,(?_:(ax c s p).pops.length-(q+1)<(ax c s p).pops.length-q)⟩⟩⟩⟩⟩⟩
           · exact⟨by omega,by rw[FC Ob,hg2];exact(vC _ _ _).symm⟩
           · omega
         · refine tt ⟨w6,tt ⟨(q+1,g2),rfl,?_,(?_:(ax c s p).pops.length-(q+1)<(ax c s p).pops.length-q)⟩⟩
           · exact⟨by omega,by rw[G4 Ob,hg2]⟩
           · omega
       · have hqe:q=(c.U.getD p aO).I.length:=by omega
         refine tt ⟨rfl,⟨by omega,rfl⟩,?_⟩
         intro r c2 J'
         obtain⟨hr,P'⟩:=J'
         have hc2l:c2.length=c.J.length:=by rw[P',pH,hml0]
         refine tt (cd (fun hc104=>?_) (fun hc104=>?_))
         · refine tt ⟨ix,tt ⟨fun Rz=>?_,fun Rz=>?_⟩⟩
           · have hrt:r<(c.U.getD p aO).KA.length:=by omega
             have hpt:0≤((c.U.getD p aO).KA.getD r dj).chan∧((c.U.getD p aO).KA.getD r dj).chan<c.J.length:=⟨(hc.pt p (by omega) r hrt).1,(hc.pt p (by omega) r hrt).2.1⟩
             have hcn:c2.getD ((c.U.getD p aO).KA.getD r dj).chan.toNat none=none:=by
               rw[P',Pl,pM]
               exact BU hc (by omega) hrt
             refine tt ⟨ix,tt ⟨ix,tt ⟨ix,⟨⟨⟨om,oK⟩,(by rw[hcn];trivial)⟩,tt ⟨ix,tt ⟨⟨⟨rfl,oK⟩,oK⟩,⟨⟨by simp only[KM,K1,K6,KN,K7,KV];first | omega | (simp;first | done | omega),rfl⟩,⟨ix,⟨⟨om,by simp only[Mb];rfl⟩,tt ⟨w6,tt ⟨(r+1,c2.set (((((c.U.getD p aO).KA).getD r dj).chan).toNat) (some ((((ax c s p).KA).getD r cz).v))),rfl,?_,(?_:(ax c s p).KA.length-(r+1)<(ax c s p).KA.length-r)⟩⟩⟩⟩⟩⟩⟩⟩⟩⟩⟩
             · exact⟨by omega,by rw[FD Rz,P'];exact(vD _ _ _ _).symm⟩
             · omega
           · refine tt ⟨w6,tt ⟨(r+1,c2),rfl,?_,(?_:(ax c s p).KA.length-(r+1)<(ax c s p).KA.length-r)⟩⟩
             · exact⟨by omega,by rw[G5 Rz,P']⟩
             · omega
         · have hre:r=(c.U.getD p aO).KA.length:=by omega
           refine tt ⟨w6,tt ⟨(p+1,fd.set p true,g2,c2),rfl,?_,(?_:c.U.length-(p+1)<c.U.length-p)⟩⟩
           · exact⟨by omega,by rw[hfd];exact ko (by simp;omega) Sf,by rw[hg2,hqe,QK,xj,DQ Sf],by rw[P',hre,Pl,pM,DR Sf]⟩
           · omega
   · have N1:=Ii (c:=c) (s:=s) MV
     refine tt ⟨ix,tt ⟨(mT MV),tt ⟨ix,tt ⟨⟨⟨rfl,rfl,oK⟩,oK⟩,⟨(bw (by omega) (Gn N1)),tt ⟨w6,tt ⟨(p+1,fd,gn,cm),rfl,?_,(?_:c.U.length-(p+1)<c.U.length-p)⟩⟩⟩⟩⟩⟩⟩
     · exact⟨by omega,by rw[hfd];exact iH (d:=false) (by simp;omega) (by rw[N1,cY]),by rw[QK,Am N1],by rw[Pl,An N1]⟩
     · omega
 · have hpe:p=c.U.length:=by omega
   refine tt ⟨rfl,(by omega),?_⟩
   intro i J'
   have hi:=J'
   refine tt (cd (fun hc142=>?_) (fun hc142=>?_))
   · have hci:(s.J.getD i []).drop (gn.getD i 0).toNat++tj (cm.getD i none)=gE c s (wB wl) i:=by rw[QK,Pl,hpe];exact FN hc (by omega)
     have hge:gn.getD i 0=(gD c s (wB wl) i:Nat):=by rw[QK,hpe];exact AA hc (by omega)
     have hgl:gD c s (wB wl) i≤(s.J.getD i []).length:=FM i
     have SK:(s.J.getD i []).length≤4294967296:=O4 i
     have hol:=He (cm.getD i none)
     refine tt ⟨oK,tt ⟨ix,tt ⟨ix,⟨⟨om,oK⟩,⟨om,⟨⟨by simp only[KM,K1,K6,KN,K7,KV];first | omega | (simp;first | done | omega),by simp only[K8,Lk,K9,LQ]⟩,tt ⟨ix,⟨⟨⟨om,oK⟩,(Ih _)⟩,⟨⟨by simp only[KM,K1,K6,KN,K7,KV];first | omega | (simp;first | done | omega),by simp only[K8,Lk,K9,LQ]⟩,⟨⟨⟨rfl,oK⟩,oK⟩,⟨(bw (by omega) hci),tt ⟨w6,tt ⟨(i+1),rfl,(?_:(i+1)≤c.J.length),(?_:c.J.length-(i+1)<c.J.length-i)⟩⟩⟩⟩⟩⟩⟩⟩⟩⟩⟩⟩⟩
     · omega
     · omega
   · refine tt ⟨(congrArg _ (?_:(tab (cK c s (wB wl)) p)=((b6 c s (wB wl)).U))),(congrArg _ (?_:(tab (gE c s (wB wl)) i)=((b6 c s (wB wl)).J))),(congrArg _ (?_:fd=(tab (bh c s (wB wl)) c.U.length))),oK⟩
     · rw[hpe];rfl
     · rw[show i=c.J.length by omega];rfl
     · rw[hfd,hpe,iI (by simp)]
abbrev JI (c:Ci) (s:Ns) (k:Int):Ct:=⟨40,[(.agg (uH c)),(.agg (uG s)),(i6 k)],true,(.agg [(dL 2 aU aY ((b6 c s (ti k)).U)),(dL 1 ac [] ((b6 c s (ti k)).J)),(dB (gC c s k))])⟩
theorem Ej (c:Ci) (s:Ns) (k:Int) (hc:bO c) (hs:cA c s) (O4:jJ s 4294967296):CC (JI c s k):=by
 have NC:=hc.nl
 have hcl:=hc.cl
 refine ai.vc (V:=TT 6 (CC (JG c s k)∧TT 1 (CB (!(gC c s k)) (TT 4 (s.U.map aU=((b6 c s (ti k)).U).map aU∧s.J.map ac=((b6 c s (ti k)).J).map ac∧false=(gC c s k)∧True)) (TT 3 ((((0:Int)≤(c.U.length:Int)∧(c.U.length:Int)≤(c.U.length:Int)∧(c.U.length:Int)≤137438953472)∧(List.replicate c.U.length false).length=c.U.length∧∀x∈(List.replicate c.U.length false),dG [(dB false)] (bC x))∧TT 3 (IX k ((List.replicate c.U.length false).length)∧(k.toNat<(List.replicate c.U.length false).length∧((List.replicate c.U.length false).map bC).set k.toNat ((bC ((List.replicate c.U.length false).getD k.toNat false)).take 0++[(.bool true)]++(bC ((List.replicate c.U.length false).getD k.toNat false)).drop (0+1))=((List.replicate c.U.length false).set k.toNat true).map bC)∧TT 3 (CC (JH c s ((List.replicate c.U.length false).set k.toNat true))∧TT 4 (((b6 c s (wB ((List.replicate c.U.length false).set k.toNat true))).U).map aU=((b6 c s (ti k)).U).map aU∧((b6 c s (wB ((List.replicate c.U.length false).set k.toNat true))).J).map ac=((b6 c s (ti k)).J).map ac∧true=(gC c s k)∧True)))))))) (.w 1 [(3,(JG c s k).O)]<|.b 12 (.e) (.w 3 [(3,.box 4 1 bC false (List.replicate c.U.length false))]<|.w 4 [(3,.box 4 1 bC false ((List.replicate c.U.length false).set k.toNat true))]<|.f 5 3<|.w 5 [(3,(JH c s ((List.replicate c.U.length false).set k.toNat true)).O)]<|.e)) Try.func40 rfl rfl rfl (by kernel_rfl) ?_
 refine tt ⟨(FY c s k hc hs),tt ⟨fun Ni=>?_,fun Ni=>?_⟩⟩
 · refine tt ⟨(congrArg _ (?_:s.U=((b6 c s (ti k)).U))),(congrArg _ (?_:s.J=((b6 c s (ti k)).J))),?_,oK⟩
   all_goals (first | rw[AB hs (by simpa using Ni)] | (rw[Eb (show k.toNat<c.U.length by omega),show((k.toNat:Nat):Int)=k by omega]) | (simpa using Ni) | (exact(by simpa using Ni:gC c s k=true).symm) | (exact(by simpa using Ni:gC c s k=false).symm))
 · obtain⟨Pu,Ou⟩:=FO (show gC c s k=true by simpa using Ni)
   refine tt ⟨⟨by omega,by simp,fun x hx=>by rw[Ln hx];exact⟨rfl,oK⟩⟩,tt ⟨ix,⟨⟨om,by simp only[Mb];rfl⟩,?_⟩⟩⟩
   have hwe:(List.replicate c.U.length false).set k.toNat true=(List.replicate c.U.length false).set k.toNat true:=rfl
   refine tt ⟨(xt c s ((List.replicate c.U.length false).set k.toNat true) hc hs O4 (by simp)),tt ⟨(congrArg _ (?_:((b6 c s (wB ((List.replicate c.U.length false).set k.toNat true))).U)=((b6 c s (ti k)).U))),(congrArg _ (?_:((b6 c s (wB ((List.replicate c.U.length false).set k.toNat true))).J)=((b6 c s (ti k)).J))),?_,oK⟩⟩
   all_goals (first | rw[AB hs (by simpa using Ni)] | (rw[Eb (show k.toNat<c.U.length by omega),show((k.toNat:Nat):Int)=k by omega]) | (simpa using Ni) | (exact(by simpa using Ni:gC c s k=true).symm) | (exact(by simpa using Ni:gC c s k=false).symm))
structure En where
 I:List Int
 KA:List Int
def oa (e:En):List V:=[.sl 1 (ab .i64) 0 e.I,.sl 1 (ab .i64) 0 e.KA]
abbrev bV:En:=⟨[],[]⟩
def eV:Ex:=⟨1,e0,⟨1,e0⟩,⟨1,e0⟩,[]⟩
def aH (s:Sg) (b:List Int) (i:Nat):Ex×Nat:=if b.getD i 0%4=1 then aj s b 2 (i+1) 1 else (eV,i+1)
def Ki:ByteArray:=bs [97]
def Kj:ByteArray:=bs [98]
def Kk (k:Nat):ByteArray:=[bs [114],bs [115]].getD k e0
def J8 (k:Nat):ByteArray:=[bs [112],bs [113],bs [117],bs [118]].getD k e0
def JJ (k:Nat):ByteArray:=[bs [99,48],bs [99,49],bs [99,50],bs [99,51],bs [99,52]].getD k e0
def bg (y:Int) (k:Nat):Int:=1+(y / 4+k)%2
def pi (y:Int):Nat:=(1+y / 2%2).toNat
def Hs (y:Int):List Int:=tab (bg y) (pi y)
def Ht (y:Int):Sg:=⟨Hs y,[],[],false⟩
def xu (y:Int) (n:Nat):Sg:=⟨Hs y,List.replicate n 2,[],true⟩
def sM (y:Int) (k:Nat):Rg:=⟨Kk k,bg y k,y / 8%2^(bg y k).toNat,dE,⟨[1,1,0].getD (y / 16%3).toNat 0,e0,0⟩⟩
def xv (b:List Int) (y:Int) (i:Nat):Nat→Nat
 | 0=>i
 | k+1=>(aH (Ht y) b (xv b y i k)).2
def vS (b:List Int) (y:Int) (n:Nat) (i:Nat):Nat→Nat
 | 0=>i
 | k+1=>(aj (xu y n) b 3 (vS b y n i k) (bg y k)).2
def sN (b:List Int) (y:Int) (n:Nat) (i:Nat):Nat→Nat
 | 0=>i
 | k+1=>(aj (xu y n) b 2 (aH (xu y n) b (sN b y n i k)).2 2).2
def Ck (b:List Int) (y:Int) (i:Nat) (e:En) (k:Nat):Tk:=⟨e.I.getD k 0,2,(aH (Ht y) b (xv b y i k)).1⟩
def JK (b:List Int) (y:Int) (n i k:Nat):Rg:={ sM y k with next:=(aj (xu y n) b 3 (vS b y n i k) (bg y k)).1 }
def EP (b:List Int) (y:Int) (n i:Nat) (e:En) (k:Nat):Pt:=⟨e.KA.getD k 0,2,(aH (xu y n) b (sN b y n i k)).1,(aj (xu y n) b 2 (aH (xu y n) b (sN b y n i k)).2 2).1⟩
def JL (y:Int):ByteArray:=[Ki,Kj].getD (y%2).toNat e0
def kC (b:List Int) (i:Nat) (e:En):Nat:=xv b (b.getD i 0) (i+1) e.I.length
def jL (b:List Int) (i:Nat) (e:En):Nat:=vS b (b.getD i 0) e.I.length (kC b i e) (pi (b.getD i 0))
def a5 (b:List Int) (i:Nat) (nm:ByteArray) (e:En):Pr×Nat :=
 (⟨nm,JL (b.getD i 0),tab (JK b (b.getD i 0) e.I.length (kC b i e)) (pi (b.getD i 0)),[],tab (Ck b (b.getD i 0) (i+1) e) e.I.length,tab (EP b (b.getD i 0) e.I.length (jL b i e) e) e.KA.length⟩,
  sN b (b.getD i 0) e.I.length (jL b i e) e.KA.length)
def af (s:Int):List En :=
 if s%6=0 then [⟨[0],[1]⟩]
 else if s%6=1 then [⟨[0],[1]⟩,⟨[1],[2]⟩]
 else if s%6=2 then [⟨[0],[1,2]⟩,⟨[1],[3]⟩,⟨[2],[4]⟩]
 else if s%6=3 then [⟨[0,2],[1]⟩,⟨[1],[2,3]⟩]
 else if s%6=4 then [⟨[0],[2]⟩,⟨[1],[3]⟩,⟨[2,3],[4]⟩]
 else [⟨[0],[1]⟩,⟨[1],[2]⟩,⟨[2],[3]⟩,⟨[3],[4]⟩]
theorem vU {s:Sg} {b:List Int} {i:Nat} (h:b.getD i 0%4=1):aH s b i=aj s b 2 (i+1) 1:=KT h
theorem vV {s:Sg} {b:List Int} {i:Nat} (h:¬b.getD i 0%4=1):aH s b i=(eV,i+1):=KK h
def p7 (l:List Int) (n:Int):Bool:=!dk (fun i=>!decide (l.getD i 0=n)) l.length
theorem xw {l:List Int} {n:Int} {i:Nat} (hi:i<l.length) (h:l.getD i 0=n):p7 l n=true:=by
 unfold p7;rw[eZ hi (by rw[KO h];rfl)];rfl
theorem AL {l:List Int} {n:Int} (h:∀i,i<l.length→¬l.getD i 0=n):p7 l n=false:=by
 unfold p7;rw[bo.2 (fun i hi=>by rw[KS (h i hi)];rfl)];rfl
theorem uI {x w:Int} (h0:0≤w) (h6:w≤62):IntKind.wrap .i64 ((BitVec.ofInt (IntKind.i64).bits x &&& BitVec.ofInt (IntKind.i64).bits (aB w)).toNat:Int)=x%2^w.toNat:=by
 rw[bW h0 h6];exact nn (by omega)
theorem vW {s:Sg} {b:List Int} (hb:ip b) {d i:Nat} {w:Int} (hd:d≤3) (h1:1≤w) (h2:w+d≤8):i≤(aj s b d i w).2∧(aj s b d i w).2≤i+64:=by
 have h:=(rY (s:=s) hb d i w hd h1 h2).2.2
 have:4^d≤4^3:=L2 (by omega) hd
 omega
theorem sO {s:Sg} {b:List Int} (hb:ip b) {i:Nat}:i≤(aH s b i).2∧(aH s b i).2≤i+100:=by
 unfold aH
 split
 ·have:=vW (s:=s) hb (d:=2) (i:=i+1) (w:=1) (by omega) (by omega) (by omega);omega
 ·simp only;omega
theorem vX (y:Int) (k:Nat):1≤bg y k∧bg y k≤2:=by unfold bg;omega
theorem qR {b:List Int} (hb:ip b) (y:Int) (i:Nat):∀k,i≤xv b y i k∧xv b y i k≤i+100*k
 | 0=>⟨KI _,KI _⟩
 | k+1=>by
  have h1:=qR hb y i k
  have h2:=sO (s:=Ht y) hb (i:=xv b y i k)
  rw[xv];omega
theorem qS {b:List Int} (hb:ip b) (y:Int) (n i:Nat):∀k,i≤vS b y n i k∧vS b y n i k≤i+100*k
 | 0=>⟨KI _,KI _⟩
 | k+1=>by
  have h1:=qS hb y n i k
  have h3:=vX y k
  have h2:=vW (s:=xu y n) hb (d:=3) (i:=vS b y n i k) (w:=bg y k) (by omega) (by omega) (by omega)
  rw[vS];omega
theorem vY {b:List Int} (hb:ip b) (y:Int) (n i:Nat):∀k,i≤sN b y n i k∧sN b y n i k≤i+200*k
 | 0=>⟨KI _,KI _⟩
 | k+1=>by
  have h1:=vY hb y n i k
  have h3:=sO (s:=xu y n) hb (i:=sN b y n i k)
  have h2:=vW (s:=xu y n) hb (d:=2) (i:=(aH (xu y n) b (sN b y n i k)).2) (w:=2) (by omega) (by omega) (by omega)
  rw[sN];omega
theorem y5 {y:Int} (h:0≤y):(pi y:Int)=1+y / 2%2∧pi y≤2:=by unfold pi;omega
def B4 (b:List Int) (l:List En):Nat→Nat
 | 0=>0
 | i+1=>(a5 b (B4 b l i) (J8 i) (l.getD i bV)).2
def pO (b:List Int) (l:List En) (i:Nat):Pr:=(a5 b (B4 b l i) (J8 i) (l.getD i bV)).1
def Iv (l:List Int) (a:Int):Nat→Int
 | 0=>a
 | k+1=>Gx (Iv l a k) (l.getD k 0)
def ob (l:List En):Nat→Int
 | 0=>0
 | i+1=>Iv (l.getD i bV).KA (ob l i) (l.getD i bV).KA.length
def wd (l:List En) (n:Int):Nat→Int
 | 0=>-1
 | i+1=>if p7 (l.getD i bV).I n=true then (i:Int)else wd l n i
def we (l:List En) (n:Int):Nat→Int
 | 0=>-1
 | i+1=>if p7 (l.getD i bV).KA n=true then (i:Int)else we l n i
def sP (sh:Int) (l:List En) (n:Nat):Ch:=⟨JJ n,2,if 0≤we l n l.length∧0≤wd l n l.length then 1+(sh / 6+n)%3 else 0,we l n l.length,wd l n l.length⟩
def jM (sh:Int):Nat:=(ob (af sh) (af sh).length).toNat+1
def aa (sh:Int) (b:List Int):Ci:=⟨tab (pO b (af sh)) (af sh).length,tab (sP sh (af sh)) (jM sh)⟩
theorem jp (sh:Int):af sh=[⟨[0],[1]⟩]∨af sh=[⟨[0],[1]⟩,⟨[1],[2]⟩]∨af sh=[⟨[0],[1,2]⟩,⟨[1],[3]⟩,⟨[2],[4]⟩]∨af sh=[⟨[0,2],[1]⟩,⟨[1],[2,3]⟩]∨af sh=[⟨[0],[2]⟩,⟨[1],[3]⟩,⟨[2,3],[4]⟩]∨af sh=[⟨[0],[1]⟩,⟨[1],[2]⟩,⟨[2],[3]⟩,⟨[3],[4]⟩]:=by
 unfold af
 split
 ·exact .inl rfl
 split
 ·exact .inr (.inl rfl)
 split
 ·exact .inr (.inr (.inl rfl))
 split
 ·exact .inr (.inr (.inr (.inl rfl)))
 split
 ·exact .inr (.inr (.inr (.inr (.inl rfl))))
 ·exact .inr (.inr (.inr (.inr (.inr rfl))))
theorem xx (sh:Int):1≤(af sh).length∧(af sh).length≤4:=by
 rcases jp sh with h | h | h | h | h | h<;>rw[h]<;>decide
theorem lC (sh:Int) (i:Nat):((af sh).getD i bV).I.length≤2∧((af sh).getD i bV).KA.length≤2:=by
 have key:∀e∈af sh,e.I.length≤2∧e.KA.length≤2:=by
  rcases jp sh with h | h | h | h | h | h<;>rw[h]<;>simp
 by_cases hi:i<(af sh).length
 ·rw[eX _ _ hi];exact key _ (Mx hi)
 ·rw[List.getD,Lo (by omega)];decide
theorem AM (sh:Int):0≤ob (af sh) (af sh).length∧ob (af sh) (af sh).length≤4:=by
 rcases jp sh with h | h | h | h | h | h<;>rw[h]<;>decide
theorem Ek (sh:Int):(jM sh:Int)=ob (af sh) (af sh).length+1∧jM sh≤5:=by
 have:=AM sh;unfold jM;omega
theorem AN {b:List Int} (hb:ip b) (sh:Int):∀i,B4 b (af sh) i≤1000*i
 | 0=>KI _
 | i+1=>by
  have h1:=AN hb sh i
  have he:=lC sh i
  rw[B4]
  unfold a5
  simp only
  generalize B4 b (af sh) i=p at *
  generalize (af sh).getD i bV=e at *
  have hy:=dy hb p
  have hn:=y5 hy.1
  have a1:p+1≤kC b p e∧kC b p e≤p+1+100*e.I.length:=qR hb (b.getD p 0) (p+1) e.I.length
  have a2:kC b p e≤jL b p e∧jL b p e≤kC b p e+100*pi (b.getD p 0):=qS hb (b.getD p 0) e.I.length (kC b p e) (pi (b.getD p 0))
  have a3:=vY hb (b.getD p 0) e.I.length (jL b p e) e.KA.length
  omega
theorem El (l:List En) (n:Int):∀i,-1≤wd l n i∧wd l n i<i
 | 0=>by simp[wd]
 | i+1=>by have:=El l n i;rw[wd];split<;>omega
theorem Em (l:List En) (n:Int):∀i,-1≤we l n i∧we l n i<i
 | 0=>by simp[we]
 | i+1=>by have:=Em l n i;rw[we];split<;>omega
theorem Gr {x:Int} (h0:0≤x) (h1:x≤255):IntKind.wrap .u8 x=x:=J5 rfl h0 h1
def qT (b:List Int) (i:Nat):Nat:=(b.getD i 0%7).toNat
def tn (b:List Int) (i:Nat) (w:Int) (k:Nat):Int:=b.getD (i+(1+k)) 0%2^w.toNat
def s6 (c:Ci) (b:List Int):Nat→Ns×Nat
 | 0=>(aC c,0)
 | i+1=>if 0≤(dn c i).frm then s6 c b i else (dp (s6 c b i).1 i (tab (tn b (s6 c b i).2 (dn c i).w) (qT b (s6 c b i).2)),(s6 c b i).2+(1+qT b (s6 c b i).2))
def bI (c:Ci) (b:List Int):Ns:=(s6 c b c.J.length).1
theorem Eo {b:List Int} (hb:ip b) (i:Nat):qT b i≤6∧(qT b i:Int)=b.getD i 0%7:=by
 have:=dy hb i;unfold qT;omega
theorem Ep {c:Ci} {b:List Int} {i:Nat} (h:0≤(dn c i).frm):s6 c b (i+1)=s6 c b i:=by rw[s6,KT h]
theorem y6 {c:Ci} {b:List Int} {i:Nat} (h:¬0≤(dn c i).frm):s6 c b (i+1)=(dp (s6 c b i).1 i (tab (tn b (s6 c b i).2 (dn c i).w) (qT b (s6 c b i).2)),(s6 c b i).2+(1+qT b (s6 c b i).2)):=by rw[s6,KK h]
def ct (c:Ci) (s:Ns) (l:List Int):Ns:=l.foldl (fun u k=>b6 c u (ti (k%c.U.length))) s
theorem B5 {c:Ci} {s:Ns} {l:List Int} {i:Nat} (h:i<l.length):ct c s (l.take (i+1))=b6 c (ct c s (l.take i)) (ti (l.getD i 0%c.U.length)):=by
 unfold ct
 rw[L3 h,Mr]
 simp[List.getD,KF h]
theorem JM {x:Int} (h0:0≤x) (h1:x≤255):IntKind.wrap .u8 (Int.tdiv x 6)=x / 6:=by
 rw[Int.tdiv_eq_ediv_of_nonneg h0];exact Gr (by omega) (by omega)
theorem Er {sh:Int} {l:List En} {n:Nat} {fr to:Int} (h1:0≤we l n l.length) (h2:0≤wd l n l.length) (h3:fr=we l n l.length) (h4:to=wd l n l.length):(⟨JJ n,2,1+(sh / 6+n)%3,fr,to⟩:Ch)=sP sh l n:=by
 unfold sP;rw[KT ⟨h1,h2⟩,h3,h4]
theorem Es {sh:Int} {l:List En} {n:Nat} {fr to:Int} (h:¬(0≤we l n l.length∧0≤wd l n l.length)) (h3:fr=we l n l.length) (h4:to=wd l n l.length):(⟨JJ n,2,0,fr,to⟩:Ch)=sP sh l n:=by
 unfold sP;rw[KK h,h3,h4]
end Go.Proofs.Ytgmpoenfoacofaa
