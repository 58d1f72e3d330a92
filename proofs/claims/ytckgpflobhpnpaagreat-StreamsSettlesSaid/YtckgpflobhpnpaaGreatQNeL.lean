/-
  The reference of package network: states, words, single processes.
-/
import Derived.Test.YtckgpflobhpnpaaGreatQNeJ
import Derived.Test.YtckgpflobhpnpaaGreatQNeK
import Derived.Test.YtckgpflobhpnpaaGreatQPrD
namespace Go.Proofs.YtckgpflobhpnpaaGreat
open Go.RowKit
set_option linter.unusedVariables false
set_option linter.unusedSimpArgs false
abbrev JJ (c:Ci):List D:=[(dL 6 hU af c.procs),(dL 5 gK a6 c.chans)]
abbrev JK (s:Ns):List D:=[(dL 2 bN bI s.procs),(dL 1 ac [] s.chans)]
set_option maxRecDepth 100000
abbrev Ll (l:List Int) (w:Int):Ct:=⟨55,[(LI l),(i6 w)],false,(dB (di l w))⟩
abbrev mB (l:List Int) (w:Int):Lp (Nat):=li [0,1,5] 0 (fun (i:Nat)=>⟨[(0,(LI l)),(1,(i6 w)),(5,(i6 (i:Int)))],[]⟩) (fun (i:Nat)=>i≤l.length∧∀z,z<i→b8 (l.getD z 0) w=true) (fun (i:Nat)=>l.length-i)
theorem mC (l:List Int) (w:Int) (hl:l.length≤9223372036854775807):CC (Ll l w):=by
 refine ah.vc (V:=TT 2 (GO (mB l w) 0 (∀i,(mB l w).inv i→TT 4 (CD ((i:Int)<(l.length:Int)) (CS ((l.getD i 0)<0) (TT 2 (IX (i:Int) l.length∧TT 2 ((True∧(decide ((l.getD i 0)<0))=true)∧TT 3 (false=(di l w)∧True)))) (TT 2 (IX (i:Int) l.length∧TT 2 ((True∧(decide ((l.getD i 0)<0))=false)∧TT 2 (IX (i:Int) l.length∧TT 2 (CC (NF w)∧TT 2 (CD ((l.getD i 0)>(an w)) (TT 2 (false=(di l w)∧True)) (TT 1 (W6 ((i+1:Nat):Int)∧TT 1 (AG (mB l w) i (i+1))))))))))) (TT 2 (true=(di l w)∧True)))))) (.l (mB l w) 0 (fun i=>.b 9 (.s 4 ((l.getD i 0)<0) (.w 4 [(5,.val (dB true))]<|.e) (.w 4 [(5,.val (dB false)),(11,(NF w).O)]<|.b 25 (.e) (.w 3 [(1,.val (i6 ((i+1:Nat):Int)))]<|.e))) (.e))) Tryz.func55 rfl rfl rfl (by kernel_rfl) ?_
 refine tt ⟨rfl,⟨by omega,fun z hz=>by omega⟩,?_⟩
 intro i hinv
 obtain⟨hi,h3⟩:=hinv
 refine tt (cd (fun hc9=>?_) (fun hc9=>?_))
 · refine⟨fun hs0=>?_,fun hs0=>?_⟩
   · refine tt ⟨ix,tt ⟨(vT hs0),tt ⟨?_,oK⟩⟩⟩
     first | exact(pj (i:=i) (by omega) (zQ hs0)).symm | exact(pj (i:=i) (by omega) (zR hc25)).symm | exact(sr (fun z hz=>h3 z (by omega))).symm
   · refine tt ⟨ix,tt ⟨(vF hs0),tt ⟨ix,tt ⟨(w8 w),tt (cd (fun hc25=>?_) (fun hc25=>?_))⟩⟩⟩⟩
     · refine tt ⟨?_,oK⟩
       first | exact(pj (i:=i) (by omega) (zQ hs0)).symm | exact(pj (i:=i) (by omega) (zR hc25)).symm | exact(sr (fun z hz=>h3 z (by omega))).symm
     · refine tt ⟨w6,tt ⟨(i+1),rfl,?_,(?_:l.length-(i+1)<l.length-i)⟩⟩
       · exact⟨by omega,bD h3 (K4 hs0 hc25)⟩
       · omega
 · refine tt ⟨?_,oK⟩
   first | exact(pj (i:=i) (by omega) (zQ hs0)).symm | exact(pj (i:=i) (by omega) (zR hc25)).symm | exact(sr (fun z hz=>h3 z (by omega))).symm
abbrev O9 (c:Ci) (s:Ns):Ct:=⟨27,[(.agg (JJ c)),(.agg (JK s))],false,(dB (cy c s))⟩
abbrev mD (c:Ci) (s:Ns):Lp (Nat):=li [2,3,5] 2 (fun (i:Nat)=>⟨[(2,(.ptr 0 0 0 0)),(3,(.ptr 1 0 0 0)),(5,(i6 (i:Int)))],[(.var 33 (JJ c)),(.var 70 (JK s))]⟩) (fun (i:Nat)=>i≤c.procs.length∧∀z,z<i→b5 (bj c z) (zB s z)=true) (fun (i:Nat)=>c.procs.length-i)
abbrev gF (c:Ci) (s:Ns):Lp (Nat):=li [2,3,6] 2 (fun (n:Nat)=>⟨[(2,(.ptr 0 0 0 0)),(3,(.ptr 1 0 0 0)),(6,(i6 (n:Int)))],[(.var 33 (JJ c)),(.var 70 (JK s))]⟩) (fun (n:Nat)=>n≤c.chans.length∧∀z,z<n→je c s z=true) (fun (n:Nat)=>c.chans.length-n)
theorem w9 (c:Ci) (s:Ns) (hc:a8 c) (hsm:EY s 9223372036854775807):CC (O9 c s):=by
 have hnl:=hc.nl
 have hcl:=hc.cl
 refine ah.vc (V:=TT 3 (CS ((s.procs.length:Int)=(c.procs.length:Int)) (TT 7 ((True∧(!decide ((s.procs.length:Int)=(c.procs.length:Int)))=false)∧TT 8 (CN ((s.chans.length:Int)=(c.chans.length:Int)) (TT 2 (false=(cy c s)∧True)) (TT 1 (GO (mD c s) 0 (∀i,(mD c s).inv i→TT 5 (CD ((i:Int)<(c.procs.length:Int)) (TT 3 (IX (i:Int) c.procs.length∧TT 4 (IX (i:Int) s.procs.length∧TT 1 (CC (QL (c.procs.getD i af) (s.procs.getD i bI))∧TT 1 (CB (!(b5 (c.procs.getD i af) (s.procs.getD i bI))) (TT 2 (false=(cy c s)∧True)) (TT 1 (W6 ((i+1:Nat):Int)∧TT 1 (AG (mD c s) i (i+1))))))))) (TT 1 (GO (gF c s) 0 (∀n,(gF c s).inv n→TT 5 (CD ((n:Int)<(c.chans.length:Int)) (TT 3 (IX (n:Int) c.chans.length∧TT 3 (CS ((di (s.chans.getD n []) ((c.chans.getD n a6).w))=true) (CS (((c.chans.getD n a6).frm)≥0) (CS (((c.chans.getD n a6).dst)≥0) (TT 3 (IX (n:Int) s.chans.length∧TT 3 (CC (Ll (s.chans.getD n []) ((c.chans.getD n a6).w))∧TT 1 ((True∧(!(di (s.chans.getD n []) ((c.chans.getD n a6).w)))=false)∧TT 3 ((True∧(decide (((c.chans.getD n a6).frm)≥0))=true)∧TT 4 ((True∧(decide (((c.chans.getD n a6).dst)≥0))=true)∧TT 3 (IX (n:Int) s.chans.length∧TT 7 (CD ((((s.chans.getD n []).length:Nat):Int)>((c.chans.getD n a6).cap)) (TT 2 (false=(cy c s)∧True)) (TT 1 (W6 ((n+1:Nat):Int)∧TT 1 (AG (gF c s) n (n+1)))))))))))) (TT 3 (IX (n:Int) s.chans.length∧TT 3 (CC (Ll (s.chans.getD n []) ((c.chans.getD n a6).w))∧TT 1 ((True∧(!(di (s.chans.getD n []) ((c.chans.getD n a6).w)))=false)∧TT 3 ((True∧(decide (((c.chans.getD n a6).frm)≥0))=true)∧TT 4 ((True∧(decide (((c.chans.getD n a6).dst)≥0))=false)∧TT 3 (W6 ((n+1:Nat):Int)∧TT 1 (AG (gF c s) n (n+1)))))))))) (TT 3 (IX (n:Int) s.chans.length∧TT 3 (CC (Ll (s.chans.getD n []) ((c.chans.getD n a6).w))∧TT 1 ((True∧(!(di (s.chans.getD n []) ((c.chans.getD n a6).w)))=false)∧TT 3 ((True∧(decide (((c.chans.getD n a6).frm)≥0))=false)∧TT 5 (W6 ((n+1:Nat):Int)∧TT 1 (AG (gF c s) n (n+1))))))))) (TT 3 (IX (n:Int) s.chans.length∧TT 3 (CC (Ll (s.chans.getD n []) ((c.chans.getD n a6).w))∧TT 1 ((True∧(!(di (s.chans.getD n []) ((c.chans.getD n a6).w)))=true)∧TT 3 (false=(cy c s)∧True)))))))) (TT 2 (true=(cy c s)∧True))))))))))))) (TT 7 ((True∧(!decide ((s.procs.length:Int)=(c.procs.length:Int)))=true)∧TT 10 (false=(cy c s)∧True))))) (.s 1 ((s.procs.length:Int)=(c.procs.length:Int)) (.w 1 [(7,.val (dB false))]<|.b 23 (.e) (.l (mD c s) 0 (fun i=>.b 28 (.w 6 [(10,(QL (c.procs.getD i af) (s.procs.getD i bI)).O)]<|.b 42 (.e) (.w 5 [(1,.val (i6 ((i+1:Nat):Int)))]<|.e)) (.l (gF c s) 0 (fun n=>.b 47 (.s 12 ((di (s.chans.getD n []) ((c.chans.getD n a6).w))=true) (.s 12 (((c.chans.getD n a6).frm)≥0) (.s 12 (((c.chans.getD n a6).dst)≥0) (.w 12 [(7,(Ll (s.chans.getD n []) ((c.chans.getD n a6).w)).O),(9,.val (dB false)),(13,.val (dB true)),(18,.val (dB true))]<|.b 84 (.e) (.w 10 [(1,.val (i6 ((n+1:Nat):Int)))]<|.e)) (.w 12 [(7,(Ll (s.chans.getD n []) ((c.chans.getD n a6).w)).O),(9,.val (dB false)),(13,.val (dB true)),(18,.val (dB false))]<|.w 10 [(1,.val (i6 ((n+1:Nat):Int)))]<|.e)) (.w 12 [(7,(Ll (s.chans.getD n []) ((c.chans.getD n a6).w)).O),(9,.val (dB false)),(13,.val (dB false))]<|.w 10 [(1,.val (i6 ((n+1:Nat):Int)))]<|.e)) (.w 12 [(7,(Ll (s.chans.getD n []) ((c.chans.getD n a6).w)).O),(9,.val (dB true))]<|.e)) (.e)))))) (.w 1 [(7,.val (dB true))]<|.e)) Tryz.func27 rfl rfl rfl (by kernel_rfl) ?_
 refine tt ⟨fun hs0=>?_,fun hs0=>?_⟩
 · refine tt ⟨(nF hs0),tt (cn (fun hc23=>?_) (fun hc23=>?_))⟩
   · refine tt ⟨?_,oK⟩
     first | exact(tu (by omega)).symm | exact(tv (by omega)).symm | exact(tx (i:=i) (by omega) (by simpa using hc42)).symm | exact(ii (n:=n) (by omega) (kN (by assumption))).symm | exact(ii (n:=n) (by omega) (kO (by show 0≤(c.chans.getD n a6).frm;omega) (by show 0≤(c.chans.getD n a6).dst;omega) (by show ¬((s.chans.getD n []).length:Int)≤(c.chans.getD n a6).cap;omega))).symm | exact(tz (by omega) (by omega) (fun z hz=>h3 z (by omega)) (fun z hz=>h4 z (by omega))).symm
   · refine tt ⟨rfl,⟨by omega,fun z hz=>by omega⟩,?_⟩
     intro i hinv
     obtain⟨hi,h3⟩:=hinv
     refine tt (cd (fun hc28=>?_) (fun hc28=>?_))
     · have hpk:=hc.pr i (by omega)
       refine tt ⟨ix,tt ⟨ix,tt ⟨(GJ (c.procs.getD i af) (s.procs.getD i bI) hpk),tt ⟨fun hc42=>?_,fun hc42=>?_⟩⟩⟩⟩
       · refine tt ⟨?_,oK⟩
         first | exact(tu (by omega)).symm | exact(tv (by omega)).symm | exact(tx (i:=i) (by omega) (by simpa using hc42)).symm | exact(ii (n:=n) (by omega) (kN (by assumption))).symm | exact(ii (n:=n) (by omega) (kO (by show 0≤(c.chans.getD n a6).frm;omega) (by show 0≤(c.chans.getD n a6).dst;omega) (by show ¬((s.chans.getD n []).length:Int)≤(c.chans.getD n a6).cap;omega))).symm | exact(tz (by omega) (by omega) (fun z hz=>h3 z (by omega)) (fun z hz=>h4 z (by omega))).symm
       · refine tt ⟨w6,tt ⟨(i+1),rfl,?_,(?_:c.procs.length-(i+1)<c.procs.length-i)⟩⟩
         · exact⟨by omega,bD h3 (by simpa using hc42)⟩
         · omega
     · refine tt ⟨rfl,⟨by omega,fun z hz=>by omega⟩,?_⟩
       intro n hinv
       obtain⟨hn,h4⟩:=hinv
       refine tt (cd (fun hc47=>?_) (fun hc47=>?_))
       · refine tt ⟨ix,tt ?_⟩
         have hlw:(s.chans.getD n []).length≤9223372036854775807:=hsm n
         refine⟨fun hs1=>?_,fun hs1=>?_⟩
         · refine⟨fun hs2=>?_,fun hs2=>?_⟩
           · refine⟨fun hs3=>?_,fun hs3=>?_⟩
             · refine tt ⟨ix,tt ⟨(mC (s.chans.getD n []) ((c.chans.getD n a6).w) hlw),tt ⟨(mF hs1),tt ⟨(vT hs2),tt ⟨(vT hs3),tt ⟨ix,tt (cd (fun hc84=>?_) (fun hc84=>?_))⟩⟩⟩⟩⟩⟩
               · refine tt ⟨?_,oK⟩
                 first | exact(tu (by omega)).symm | exact(tv (by omega)).symm | exact(tx (i:=i) (by omega) (by simpa using hc42)).symm | exact(ii (n:=n) (by omega) (kN (by assumption))).symm | exact(ii (n:=n) (by omega) (kO (by show 0≤(c.chans.getD n a6).frm;omega) (by show 0≤(c.chans.getD n a6).dst;omega) (by show ¬((s.chans.getD n []).length:Int)≤(c.chans.getD n a6).cap;omega))).symm | exact(tz (by omega) (by omega) (fun z hz=>h3 z (by omega)) (fun z hz=>h4 z (by omega))).symm
               · refine tt ⟨w6,tt ⟨(n+1),rfl,?_,(?_:c.chans.length-(n+1)<c.chans.length-n)⟩⟩
                 · refine⟨by omega,bD h4 ?_⟩
                   first | exact C0 (by assumption) (by show ¬0≤(c.chans.getD n a6).frm;omega) | exact C2 (by assumption) (by show ¬0≤(c.chans.getD n a6).dst;omega) | exact C3 (by assumption) (by show((s.chans.getD n []).length:Int)≤(c.chans.getD n a6).cap;omega)
                 · omega
             · refine tt ⟨ix,tt ⟨(mC (s.chans.getD n []) ((c.chans.getD n a6).w) hlw),tt ⟨(mF hs1),tt ⟨(vT hs2),tt ⟨(vF hs3),tt ⟨w6,tt ⟨(n+1),rfl,?_,(?_:c.chans.length-(n+1)<c.chans.length-n)⟩⟩⟩⟩⟩⟩⟩
               · refine⟨by omega,bD h4 ?_⟩
                 first | exact C0 (by assumption) (by show ¬0≤(c.chans.getD n a6).frm;omega) | exact C2 (by assumption) (by show ¬0≤(c.chans.getD n a6).dst;omega) | exact C3 (by assumption) (by show((s.chans.getD n []).length:Int)≤(c.chans.getD n a6).cap;omega)
               · omega
           · refine tt ⟨ix,tt ⟨(mC (s.chans.getD n []) ((c.chans.getD n a6).w) hlw),tt ⟨(mF hs1),tt ⟨(vF hs2),tt ⟨w6,tt ⟨(n+1),rfl,?_,(?_:c.chans.length-(n+1)<c.chans.length-n)⟩⟩⟩⟩⟩⟩
             · refine⟨by omega,bD h4 ?_⟩
               first | exact C0 (by assumption) (by show ¬0≤(c.chans.getD n a6).frm;omega) | exact C2 (by assumption) (by show ¬0≤(c.chans.getD n a6).dst;omega) | exact C3 (by assumption) (by show((s.chans.getD n []).length:Int)≤(c.chans.getD n a6).cap;omega)
             · omega
         · refine tt ⟨ix,tt ⟨(mC (s.chans.getD n []) ((c.chans.getD n a6).w) hlw),tt ⟨(mT hs1),tt ⟨?_,oK⟩⟩⟩⟩
           first | exact(tu (by omega)).symm | exact(tv (by omega)).symm | exact(tx (i:=i) (by omega) (by simpa using hc42)).symm | exact(ii (n:=n) (by omega) (kN (by assumption))).symm | exact(ii (n:=n) (by omega) (kO (by show 0≤(c.chans.getD n a6).frm;omega) (by show 0≤(c.chans.getD n a6).dst;omega) (by show ¬((s.chans.getD n []).length:Int)≤(c.chans.getD n a6).cap;omega))).symm | exact(tz (by omega) (by omega) (fun z hz=>h3 z (by omega)) (fun z hz=>h4 z (by omega))).symm
       · refine tt ⟨?_,oK⟩
         first | exact(tu (by omega)).symm | exact(tv (by omega)).symm | exact(tx (i:=i) (by omega) (by simpa using hc42)).symm | exact(ii (n:=n) (by omega) (kN (by assumption))).symm | exact(ii (n:=n) (by omega) (kO (by show 0≤(c.chans.getD n a6).frm;omega) (by show 0≤(c.chans.getD n a6).dst;omega) (by show ¬((s.chans.getD n []).length:Int)≤(c.chans.getD n a6).cap;omega))).symm | exact(tz (by omega) (by omega) (fun z hz=>h3 z (by omega)) (fun z hz=>h4 z (by omega))).symm
 · refine tt ⟨(nT hs0),tt ⟨?_,oK⟩⟩
   first | exact(tu (by omega)).symm | exact(tv (by omega)).symm | exact(tx (i:=i) (by omega) (by simpa using hc42)).symm | exact(ii (n:=n) (by omega) (kN (by assumption))).symm | exact(ii (n:=n) (by omega) (kO (by show 0≤(c.chans.getD n a6).frm;omega) (by show 0≤(c.chans.getD n a6).dst;omega) (by show ¬((s.chans.getD n []).length:Int)≤(c.chans.getD n a6).cap;omega))).symm | exact(tz (by omega) (by omega) (fun z hz=>h3 z (by omega)) (fun z hz=>h4 z (by omega))).symm
end Go.Proofs.YtckgpflobhpnpaaGreat
