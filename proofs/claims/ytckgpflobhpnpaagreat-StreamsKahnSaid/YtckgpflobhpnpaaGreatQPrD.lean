/-
  The reference of package process.
-/
import Derived.Test.YtckgpflobhpnpaaGreatQPrA
import Derived.Test.YtckgpflobhpnpaaGreatQPrT
import Derived.Test.YtckgpflobhpnpaaGreatQVrA
namespace Go.Proofs.YtckgpflobhpnpaaGreat
open Go.RowKit
set_option linter.unusedVariables false
set_option linter.unusedSimpArgs false
abbrev Hk (p:Pr):aq:=(.var 63 [(dS p.name),(dS p.clock),(dL 13 jq cb p.regs),(dL 27 tf ba p.mems),(dL 9 jY aK p.takes),(dL 16 lM aL p.puts)])
abbrev MB (p:Pr):D:=(.agg [(dS p.name),(dS p.clock),(dL 13 jq cb p.regs),(dL 27 tf ba p.mems),(dL 9 jY aK p.takes),(dL 16 lM aL p.puts)])
abbrev Du (s:Ps):List D:=[(LI s.regs),(dL 1 ae [] s.mems)]
abbrev MC (i:Nat):D:=(i6 ((i+1:Nat):Int))
set_option maxRecDepth 100000
abbrev MD (v w:Int):Ct:=⟨52,[(i6 v),(i6 w)],false,(dB (dQ v w))⟩
theorem Ac (v w:Int) (h1:0≤w) (h2:w≤62):CC (MD v w):=by
 refine ai.vc (V:=TT 1 (CS (v≥0) (TT 2 ((True∧(decide (v≥0))=true)∧TT 2 ((True∧IntKind.u64.wrap w=w)∧(0≤w∧(Int.fdiv v (2^min w.toNat 64))=(v / 2^w.toNat))∧TT 4 (((v / 2^w.toNat)==0)=(dQ v w)∧True)))) (TT 2 ((True∧(decide (v≥0))=false)∧TT 8 (false=(dQ v w)∧True))))) (.s 1 (v≥0) (.w 1 [(2,.val (dB true)),(5,.val (dI .u64 w)),(6,.val (i6 (v / 2^w.toNat)))]<|.e) (.w 1 [(2,.val (dB false))]<|.e)) Tryz.func52 rfl rfl rfl (by kernel_rfl) ?_
 refine tt ⟨fun hs0=>?_,fun hs0=>?_⟩
 · refine tt ⟨(vT hs0),tt ⟨⟨oK,JU rfl om om⟩,⟨⟨(by omega),(CG h1 h2)⟩,tt ⟨?_,oK⟩⟩⟩⟩
   first | exact CZ (by omega) h1 h2 | (unfold dQ;rw[decide_eq_false (by omega)];rfl)
 · refine tt ⟨(vF hs0),tt ⟨?_,oK⟩⟩
   first | exact CZ (by omega) h1 h2 | (unfold dQ;rw[decide_eq_false (by omega)];rfl)
abbrev ME (p:Pr) (s:Ps):Ct:=⟨22,[(MB p),(.agg (Du s))],false,(dB (b9 p s))⟩
abbrev oA (p:Pr) (s:Ps):Lp (Nat):=lS [2,3,5] 2 (fun (i:Nat)=>⟨[(2,(.ptr 0 0 0 0)),(3,(.ptr 1 0 0 0)),(5,(i6 (i:Int)))],[(Hk p),(.var 56 (Du s))]⟩) (fun (i:Nat)=>i≤s.regs.length∧∀z,z<i→dQ (s.regs.getD z 0) (p.regs.getD z cb).w=true) (fun (i:Nat)=>s.regs.length-i)
abbrev oB (p:Pr) (s:Ps):Lp (Nat):=lS [2,3,6] 2 (fun (j:Nat)=>⟨[(2,(.ptr 0 0 0 0)),(3,(.ptr 1 0 0 0)),(6,(i6 (j:Int)))],[(Hk p),(.var 56 (Du s))]⟩) (fun (j:Nat)=>j≤s.mems.length∧∀z,z<j→iR p s z=true) (fun (j:Nat)=>s.mems.length-j)
abbrev oC (p:Pr) (s:Ps) (j:Nat):Lp (Nat):=lS [2,3,6,7] 15 (fun (k:Nat)=>⟨[(2,(.ptr 0 0 0 0)),(3,(.ptr 1 0 0 0)),(6,(i6 (j:Int))),(7,(i6 (k:Int)))],[(Hk p),(.var 56 (Du s)),.dead,.dead,.dead,.dead,.dead,.dead,.dead,.dead,.dead,.dead,.dead,.dead,.dead]⟩) (fun (k:Nat)=>k≤(s.mems.getD j []).length∧∀z,z<k→dQ ((s.mems.getD j []).getD z 0) (p.mems.getD j ba).w=true) (fun (k:Nat)=>(s.mems.getD j []).length-k)
theorem xa (p:Pr) (s:Ps) (hp:fq p):CC (ME p s):=by
 have hl1:=hp.rl
 have hl2:=hp.ml
 refine ai.vc (V:=TT 3 (CS ((s.regs.length:Int)=(p.regs.length:Int)) (TT 7 ((True∧(!decide ((s.regs.length:Int)=(p.regs.length:Int)))=false)∧TT 8 (CN ((s.mems.length:Int)=(p.mems.length:Int)) (TT 2 (false=(b9 p s)∧True)) (TT 1 (GO (oA p s) 0 (∀i,(oA p s).inv i→TT 5 (CD ((i:Int)<(s.regs.length:Int)) (TT 3 (IX (i:Int) s.regs.length∧TT 4 (IX (i:Int) p.regs.length∧TT 2 (CC (MD (s.regs.getD i 0) ((p.regs.getD i cb).w))∧TT 1 (CB (!(dQ (s.regs.getD i 0) ((p.regs.getD i cb).w))) (TT 2 (false=(b9 p s)∧True)) (TT 1 (W6 ((i+1:Nat):Int)∧TT 1 (AG (oA p s) i (i+1))))))))) (TT 1 (GO (oB p s) 0 (∀j,(oB p s).inv j→TT 5 (CD ((j:Int)<(s.mems.length:Int)) (TT 3 (IX (j:Int) s.mems.length∧TT 5 (IX (j:Int) p.mems.length∧TT 3 (CN ((((s.mems.getD j []).length:Nat):Int)=((p.mems.getD j ba).words)) (TT 2 (false=(b9 p s)∧True)) (TT 1 (GO (oC p s j) 0 (∀k,(oC p s j).inv k→TT 4 (IX (j:Int) s.mems.length∧TT 3 (CD ((k:Int)<(((s.mems.getD j []).length:Nat):Int)) (TT 3 (IX (j:Int) s.mems.length∧TT 2 (IX (k:Int) ((s.mems.getD j []).length)∧TT 4 (IX (j:Int) p.mems.length∧TT 2 (CC (MD ((s.mems.getD j []).getD k 0) ((p.mems.getD j ba).w))∧TT 1 (CB (!(dQ ((s.mems.getD j []).getD k 0) ((p.mems.getD j ba).w))) (TT 2 (false=(b9 p s)∧True)) (TT 1 (W6 ((k+1:Nat):Int)∧TT 1 (AG (oC p s j) k (k+1)))))))))) (TT 1 (W6 ((j+1:Nat):Int)∧TT 1 (AG (oB p s) j (j+1))))))))))))) (TT 2 (true=(b9 p s)∧True))))))))))))) (TT 7 ((True∧(!decide ((s.regs.length:Int)=(p.regs.length:Int)))=true)∧TT 10 (false=(b9 p s)∧True))))) (.s 1 ((s.regs.length:Int)=(p.regs.length:Int)) (.w 1 [(7,.val (dB false))]<|.b 23 (.e) (.l (oA p s) 0 (fun i=>.b 28 (.w 6 [(11,(MD (s.regs.getD i 0) ((p.regs.getD i cb).w)).O)]<|.b 43 (.e) (.w 5 [(1,.val (MC i))]<|.e)) (.l (oB p s) 0 (fun j=>.b 48 (.b 63 (.e) (.l (oC p s j) 0 (fun k=>.b 71 (.w 16 [(14,(MD ((s.mems.getD j []).getD k 0) ((p.mems.getD j ba).w)).O)]<|.b 89 (.e) (.w 15 [(1,.val (i6 ((k+1:Nat):Int)))]<|.e)) (.w 10 [(1,.val (i6 ((j+1:Nat):Int)))]<|.e)))) (.e)))))) (.w 1 [(7,.val (dB true))]<|.e)) Tryz.func22 rfl rfl rfl (by kernel_rfl) ?_
 refine tt ⟨fun hs0=>?_,fun hs0=>?_⟩
 · refine tt ⟨(nF hs0),tt (cn (fun hc23=>?_) (fun hc23=>?_))⟩
   · refine tt ⟨?_,oK⟩
     first | exact(it (by omega)).symm | exact(iu (by omega)).symm | exact(iv (i:=i) (by omega) (by simpa using hc43)).symm | exact(cF (i:=j) (by omega) (nM (by omega))).symm | exact(cF (i:=j) (by omega) (nN (j:=k) (by omega) (by simpa using hc89))).symm | exact(iw (by omega) (by omega) (fun z hz=>h3 z (by omega)) (fun z hz=>h4 z (by omega))).symm
   · refine tt ⟨rfl,⟨by omega,fun z hz=>by omega⟩,?_⟩
     intro i hinv
     obtain⟨hi,h3⟩:=hinv
     refine tt (cd (fun hc28=>?_) (fun hc28=>?_))
     · have hrw:=bf.1 (show ax (p.regs.getD i cb).w=true from (hp.rw i (by omega)).1)
       refine tt ⟨ix,tt ⟨ix,tt ⟨(Ac (s.regs.getD i 0) ((p.regs.getD i cb).w) om om),tt ⟨fun hc43=>?_,fun hc43=>?_⟩⟩⟩⟩
       · refine tt ⟨?_,oK⟩
         first | exact(it (by omega)).symm | exact(iu (by omega)).symm | exact(iv (i:=i) (by omega) (by simpa using hc43)).symm | exact(cF (i:=j) (by omega) (nM (by omega))).symm | exact(cF (i:=j) (by omega) (nN (j:=k) (by omega) (by simpa using hc89))).symm | exact(iw (by omega) (by omega) (fun z hz=>h3 z (by omega)) (fun z hz=>h4 z (by omega))).symm
       · refine tt ⟨w6,tt ⟨(i+1),rfl,?_,(?_:s.regs.length-(i+1)<s.regs.length-i)⟩⟩
         · exact⟨by omega,cX h3 (by simpa using hc43)⟩
         · omega
     · refine tt ⟨rfl,⟨by omega,fun z hz=>by omega⟩,?_⟩
       intro j hinv
       obtain⟨hj,h4⟩:=hinv
       refine tt (cd (fun hc48=>?_) (fun hc48=>?_))
       · refine tt ⟨ix,tt ⟨ix,tt (cn (fun hc63=>?_) (fun hc63=>?_))⟩⟩
         · refine tt ⟨?_,oK⟩
           first | exact(it (by omega)).symm | exact(iu (by omega)).symm | exact(iv (i:=i) (by omega) (by simpa using hc43)).symm | exact(cF (i:=j) (by omega) (nM (by omega))).symm | exact(cF (i:=j) (by omega) (nN (j:=k) (by omega) (by simpa using hc89))).symm | exact(iw (by omega) (by omega) (fun z hz=>h3 z (by omega)) (fun z hz=>h4 z (by omega))).symm
         · have hmw:1≤(p.mems.getD j ba).words∧(p.mems.getD j ba).words≤4:=(hp.mw j (by omega)).2.1
           refine tt ⟨rfl,⟨by omega,fun z hz=>by omega⟩,?_⟩
           intro k hinv
           obtain⟨hk,h5⟩:=hinv
           refine tt ⟨ix,tt (cd (fun hc71=>?_) (fun hc71=>?_))⟩
           · have hmww:=bf.1 (show ax (p.mems.getD j ba).w=true from (hp.mw j (by omega)).1)
             refine tt ⟨ix,tt ⟨ix,tt ⟨ix,tt ⟨(Ac ((s.mems.getD j []).getD k 0) ((p.mems.getD j ba).w) om om),tt ⟨fun hc89=>?_,fun hc89=>?_⟩⟩⟩⟩⟩
             · refine tt ⟨?_,oK⟩
               first | exact(it (by omega)).symm | exact(iu (by omega)).symm | exact(iv (i:=i) (by omega) (by simpa using hc43)).symm | exact(cF (i:=j) (by omega) (nM (by omega))).symm | exact(cF (i:=j) (by omega) (nN (j:=k) (by omega) (by simpa using hc89))).symm | exact(iw (by omega) (by omega) (fun z hz=>h3 z (by omega)) (fun z hz=>h4 z (by omega))).symm
             · refine tt ⟨w6,tt ⟨(k+1),rfl,?_,(?_:(s.mems.getD j []).length-(k+1)<(s.mems.getD j []).length-k)⟩⟩
               · exact⟨by omega,cX h5 (by simpa using hc89)⟩
               · omega
           · refine tt ⟨w6,tt ⟨(j+1),rfl,?_,(?_:s.mems.length-(j+1)<s.mems.length-j)⟩⟩
             · exact⟨by omega,cX h4 (Iy (by omega) (fun z hz=>h5 z (by omega)))⟩
             · omega
       · refine tt ⟨?_,oK⟩
         first | exact(it (by omega)).symm | exact(iu (by omega)).symm | exact(iv (i:=i) (by omega) (by simpa using hc43)).symm | exact(cF (i:=j) (by omega) (nM (by omega))).symm | exact(cF (i:=j) (by omega) (nN (j:=k) (by omega) (by simpa using hc89))).symm | exact(iw (by omega) (by omega) (fun z hz=>h3 z (by omega)) (fun z hz=>h4 z (by omega))).symm
 · refine tt ⟨(nT hs0),tt ⟨?_,oK⟩⟩
   first | exact(it (by omega)).symm | exact(iu (by omega)).symm | exact(iv (i:=i) (by omega) (by simpa using hc43)).symm | exact(cF (i:=j) (by omega) (nM (by omega))).symm | exact(cF (i:=j) (by omega) (nN (j:=k) (by omega) (by simpa using hc89))).symm | exact(iw (by omega) (by omega) (fun z hz=>h3 z (by omega)) (fun z hz=>h4 z (by omega))).symm
end Go.Proofs.YtckgpflobhpnpaaGreat
