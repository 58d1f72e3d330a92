/-
  The reference of package process.
-/
import Derived.Test.YtckgpflobhpnpaaGreatQPrA
import Derived.Test.YtckgpflobhpnpaaGreatQPrT
import Derived.Test.YtckgpflobhpnpaaGreatQVrA
namespace Go.Proofs.YtckgpflobhpnpaaGreat
open Go.RowKit
set_option linter.unusedVariables false
set_option linter.unusedSimpArgs false
abbrev JI (p:Pr):am:=(.var 63 [(dS p.name),(dS p.clock),(dL 13 kr cC p.regs),(dL 27 wo bi p.mems),(dL 9 kt aO p.takes),(dL 16 nJ aK p.puts)])
abbrev O6 (p:Pr):D:=(.agg [(dS p.name),(dS p.clock),(dL 13 kr cC p.regs),(dL 27 wo bi p.mems),(dL 9 kt aO p.takes),(dL 16 nJ aK p.puts)])
abbrev Fw (s:Ps):List D:=[(LI s.regs),(dL 1 ac [] s.mems)]
abbrev O7 (i:Nat):D:=(i6 ((i+1:Nat):Int))
set_option maxRecDepth 100000
abbrev O8 (v w:Int):Ct:=⟨52,[(i6 v),(i6 w)],false,(dB (b8 v w))⟩
theorem BO (v w:Int) (h1:0≤w) (h2:w≤62):CC (O8 v w):=by
 refine ah.vc (V:=TT 1 (CS (v≥0) (TT 2 ((True∧(decide (v≥0))=true)∧TT 2 ((True∧IntKind.u64.wrap w=w)∧(0≤w∧(Int.fdiv v (2^min w.toNat 64))=(v / 2^w.toNat))∧TT 4 (((v / 2^w.toNat)==0)=(b8 v w)∧True)))) (TT 2 ((True∧(decide (v≥0))=false)∧TT 8 (false=(b8 v w)∧True))))) (.s 1 (v≥0) (.w 1 [(2,.val (dB true)),(5,.val (dI .u64 w)),(6,.val (i6 (v / 2^w.toNat)))]<|.e) (.w 1 [(2,.val (dB false))]<|.e)) Tryz.func52 rfl rfl rfl (by kernel_rfl) ?_
 refine tt ⟨fun hs0=>?_,fun hs0=>?_⟩
 · refine tt ⟨(vT hs0),tt ⟨⟨oK,Mn rfl om om⟩,⟨⟨(by omega),(EB h1 h2)⟩,tt ⟨?_,oK⟩⟩⟩⟩
   first | exact ER (by omega) h1 h2 | (unfold b8;rw[decide_eq_false (by omega)];rfl)
 · refine tt ⟨(vF hs0),tt ⟨?_,oK⟩⟩
   first | exact ER (by omega) h1 h2 | (unfold b8;rw[decide_eq_false (by omega)];rfl)
abbrev QL (p:Pr) (s:Ps):Ct:=⟨22,[(O6 p),(.agg (Fw s))],false,(dB (b5 p s))⟩
abbrev pD (p:Pr) (s:Ps):Lp (Nat):=li [2,3,5] 2 (fun (i:Nat)=>⟨[(2,(.ptr 0 0 0 0)),(3,(.ptr 1 0 0 0)),(5,(i6 (i:Int)))],[(JI p),(.var 56 (Fw s))]⟩) (fun (i:Nat)=>i≤s.regs.length∧∀z,z<i→b8 (s.regs.getD z 0) (p.regs.getD z cC).w=true) (fun (i:Nat)=>s.regs.length-i)
abbrev pE (p:Pr) (s:Ps):Lp (Nat):=li [2,3,6] 2 (fun (j:Nat)=>⟨[(2,(.ptr 0 0 0 0)),(3,(.ptr 1 0 0 0)),(6,(i6 (j:Int)))],[(JI p),(.var 56 (Fw s))]⟩) (fun (j:Nat)=>j≤s.mems.length∧∀z,z<j→jd p s z=true) (fun (j:Nat)=>s.mems.length-j)
abbrev pF (p:Pr) (s:Ps) (j:Nat):Lp (Nat):=li [2,3,6,7] 15 (fun (k:Nat)=>⟨[(2,(.ptr 0 0 0 0)),(3,(.ptr 1 0 0 0)),(6,(i6 (j:Int))),(7,(i6 (k:Int)))],[(JI p),(.var 56 (Fw s)),.dead,.dead,.dead,.dead,.dead,.dead,.dead,.dead,.dead,.dead,.dead,.dead,.dead]⟩) (fun (k:Nat)=>k≤(s.mems.getD j []).length∧∀z,z<k→b8 ((s.mems.getD j []).getD z 0) (p.mems.getD j bi).w=true) (fun (k:Nat)=>(s.mems.getD j []).length-k)
theorem GJ (p:Pr) (s:Ps) (hp:gW p):CC (QL p s):=by
 have hl1:=hp.rl
 have hl2:=hp.ml
 refine ah.vc (V:=TT 3 (CS ((s.regs.length:Int)=(p.regs.length:Int)) (TT 7 ((True∧(!decide ((s.regs.length:Int)=(p.regs.length:Int)))=false)∧TT 8 (CN ((s.mems.length:Int)=(p.mems.length:Int)) (TT 2 (false=(b5 p s)∧True)) (TT 1 (GO (pD p s) 0 (∀i,(pD p s).inv i→TT 5 (CD ((i:Int)<(s.regs.length:Int)) (TT 3 (IX (i:Int) s.regs.length∧TT 4 (IX (i:Int) p.regs.length∧TT 2 (CC (O8 (s.regs.getD i 0) ((p.regs.getD i cC).w))∧TT 1 (CB (!(b8 (s.regs.getD i 0) ((p.regs.getD i cC).w))) (TT 2 (false=(b5 p s)∧True)) (TT 1 (W6 ((i+1:Nat):Int)∧TT 1 (AG (pD p s) i (i+1))))))))) (TT 1 (GO (pE p s) 0 (∀j,(pE p s).inv j→TT 5 (CD ((j:Int)<(s.mems.length:Int)) (TT 3 (IX (j:Int) s.mems.length∧TT 5 (IX (j:Int) p.mems.length∧TT 3 (CN ((((s.mems.getD j []).length:Nat):Int)=((p.mems.getD j bi).words)) (TT 2 (false=(b5 p s)∧True)) (TT 1 (GO (pF p s j) 0 (∀k,(pF p s j).inv k→TT 4 (IX (j:Int) s.mems.length∧TT 3 (CD ((k:Int)<(((s.mems.getD j []).length:Nat):Int)) (TT 3 (IX (j:Int) s.mems.length∧TT 2 (IX (k:Int) ((s.mems.getD j []).length)∧TT 4 (IX (j:Int) p.mems.length∧TT 2 (CC (O8 ((s.mems.getD j []).getD k 0) ((p.mems.getD j bi).w))∧TT 1 (CB (!(b8 ((s.mems.getD j []).getD k 0) ((p.mems.getD j bi).w))) (TT 2 (false=(b5 p s)∧True)) (TT 1 (W6 ((k+1:Nat):Int)∧TT 1 (AG (pF p s j) k (k+1)))))))))) (TT 1 (W6 ((j+1:Nat):Int)∧TT 1 (AG (pE p s) j (j+1))))))))))))) (TT 2 (true=(b5 p s)∧True))))))))))))) (TT 7 ((True∧(!decide ((s.regs.length:Int)=(p.regs.length:Int)))=true)∧TT 10 (false=(b5 p s)∧True))))) (.s 1 ((s.regs.length:Int)=(p.regs.length:Int)) (.w 1 [(7,.val (dB false))]<|.b 23 (.e) (.l (pD p s) 0 (fun i=>.b 28 (.w 6 [(11,(O8 (s.regs.getD i 0) ((p.regs.getD i cC).w)).O)]<|.b 43 (.e) (.w 5 [(1,.val (O7 i))]<|.e)) (.l (pE p s) 0 (fun j=>.b 48 (.b 63 (.e) (.l (pF p s j) 0 (fun k=>.b 71 (.w 16 [(14,(O8 ((s.mems.getD j []).getD k 0) ((p.mems.getD j bi).w)).O)]<|.b 89 (.e) (.w 15 [(1,.val (i6 ((k+1:Nat):Int)))]<|.e)) (.w 10 [(1,.val (i6 ((j+1:Nat):Int)))]<|.e)))) (.e)))))) (.w 1 [(7,.val (dB true))]<|.e)) Tryz.func22 rfl rfl rfl (by kernel_rfl) ?_
 refine tt ⟨fun hs0=>?_,fun hs0=>?_⟩
 · refine tt ⟨(nF hs0),tt (cn (fun hc23=>?_) (fun hc23=>?_))⟩
   · refine tt ⟨?_,oK⟩
     first | exact(iO (by omega)).symm | exact(iP (by omega)).symm | exact(iQ (i:=i) (by omega) (by simpa using hc43)).symm | exact(cZ (i:=j) (by omega) (oX (by omega))).symm | exact(cZ (i:=j) (by omega) (oY (j:=k) (by omega) (by simpa using hc89))).symm | exact(iR (by omega) (by omega) (fun z hz=>h3 z (by omega)) (fun z hz=>h4 z (by omega))).symm
   · refine tt ⟨rfl,⟨by omega,fun z hz=>by omega⟩,?_⟩
     intro i hinv
     obtain⟨hi,h3⟩:=hinv
     refine tt (cd (fun hc28=>?_) (fun hc28=>?_))
     · have hrw:=bn.1 (show ay (p.regs.getD i cC).w=true from (hp.rw i (by omega)).1)
       refine tt ⟨ix,tt ⟨ix,tt ⟨(BO (s.regs.getD i 0) ((p.regs.getD i cC).w) om om),tt ⟨fun hc43=>?_,fun hc43=>?_⟩⟩⟩⟩
       · refine tt ⟨?_,oK⟩
         first | exact(iO (by omega)).symm | exact(iP (by omega)).symm | exact(iQ (i:=i) (by omega) (by simpa using hc43)).symm | exact(cZ (i:=j) (by omega) (oX (by omega))).symm | exact(cZ (i:=j) (by omega) (oY (j:=k) (by omega) (by simpa using hc89))).symm | exact(iR (by omega) (by omega) (fun z hz=>h3 z (by omega)) (fun z hz=>h4 z (by omega))).symm
       · refine tt ⟨w6,tt ⟨(i+1),rfl,?_,(?_:s.regs.length-(i+1)<s.regs.length-i)⟩⟩
         · exact⟨by omega,bD h3 (by simpa using hc43)⟩
         · omega
     · refine tt ⟨rfl,⟨by omega,fun z hz=>by omega⟩,?_⟩
       intro j hinv
       obtain⟨hj,h4⟩:=hinv
       refine tt (cd (fun hc48=>?_) (fun hc48=>?_))
       · refine tt ⟨ix,tt ⟨ix,tt (cn (fun hc63=>?_) (fun hc63=>?_))⟩⟩
         · refine tt ⟨?_,oK⟩
           first | exact(iO (by omega)).symm | exact(iP (by omega)).symm | exact(iQ (i:=i) (by omega) (by simpa using hc43)).symm | exact(cZ (i:=j) (by omega) (oX (by omega))).symm | exact(cZ (i:=j) (by omega) (oY (j:=k) (by omega) (by simpa using hc89))).symm | exact(iR (by omega) (by omega) (fun z hz=>h3 z (by omega)) (fun z hz=>h4 z (by omega))).symm
         · have hmw:1≤(p.mems.getD j bi).words∧(p.mems.getD j bi).words≤4:=(hp.mw j (by omega)).2.1
           refine tt ⟨rfl,⟨by omega,fun z hz=>by omega⟩,?_⟩
           intro k hinv
           obtain⟨hk,h5⟩:=hinv
           refine tt ⟨ix,tt (cd (fun hc71=>?_) (fun hc71=>?_))⟩
           · have hmww:=bn.1 (show ay (p.mems.getD j bi).w=true from (hp.mw j (by omega)).1)
             refine tt ⟨ix,tt ⟨ix,tt ⟨ix,tt ⟨(BO ((s.mems.getD j []).getD k 0) ((p.mems.getD j bi).w) om om),tt ⟨fun hc89=>?_,fun hc89=>?_⟩⟩⟩⟩⟩
             · refine tt ⟨?_,oK⟩
               first | exact(iO (by omega)).symm | exact(iP (by omega)).symm | exact(iQ (i:=i) (by omega) (by simpa using hc43)).symm | exact(cZ (i:=j) (by omega) (oX (by omega))).symm | exact(cZ (i:=j) (by omega) (oY (j:=k) (by omega) (by simpa using hc89))).symm | exact(iR (by omega) (by omega) (fun z hz=>h3 z (by omega)) (fun z hz=>h4 z (by omega))).symm
             · refine tt ⟨w6,tt ⟨(k+1),rfl,?_,(?_:(s.mems.getD j []).length-(k+1)<(s.mems.getD j []).length-k)⟩⟩
               · exact⟨by omega,bD h5 (by simpa using hc89)⟩
               · omega
           · refine tt ⟨w6,tt ⟨(j+1),rfl,?_,(?_:s.mems.length-(j+1)<s.mems.length-j)⟩⟩
             · exact⟨by omega,bD h4 (KR (by omega) (fun z hz=>h5 z (by omega)))⟩
             · omega
       · refine tt ⟨?_,oK⟩
         first | exact(iO (by omega)).symm | exact(iP (by omega)).symm | exact(iQ (i:=i) (by omega) (by simpa using hc43)).symm | exact(cZ (i:=j) (by omega) (oX (by omega))).symm | exact(cZ (i:=j) (by omega) (oY (j:=k) (by omega) (by simpa using hc89))).symm | exact(iR (by omega) (by omega) (fun z hz=>h3 z (by omega)) (fun z hz=>h4 z (by omega))).symm
 · refine tt ⟨(nT hs0),tt ⟨?_,oK⟩⟩
   first | exact(iO (by omega)).symm | exact(iP (by omega)).symm | exact(iQ (i:=i) (by omega) (by simpa using hc43)).symm | exact(cZ (i:=j) (by omega) (oX (by omega))).symm | exact(cZ (i:=j) (by omega) (oY (j:=k) (by omega) (by simpa using hc89))).symm | exact(iR (by omega) (by omega) (fun z hz=>h3 z (by omega)) (fun z hz=>h4 z (by omega))).symm
end Go.Proofs.YtckgpflobhpnpaaGreat
