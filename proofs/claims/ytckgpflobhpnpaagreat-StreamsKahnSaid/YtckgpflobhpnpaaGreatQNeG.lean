/-
  Package network: valid states, starts, what a process does.
-/
import Derived.Test.YtckgpflobhpnpaaGreatQNeE
namespace Go.Proofs.YtckgpflobhpnpaaGreat
open Go.RowKit
set_option linter.unusedVariables false
set_option linter.unusedSimpArgs false
abbrev zJ (c:Ci):List D:=[(dL 6 je aa c.procs),(dL 5 gO ck c.chans)]
set_option maxRecDepth 100000
abbrev NS (c:Ci):Ct:=⟨26,[(.agg (zJ c))],true,(.agg [(dL 2 bw bB ((gi c).procs)),(dL 1 ae [] ((gi c).chans))])⟩
abbrev nY (c:Ci):Lp (Nat):=lS [2,3,12,13,14] 5 (fun (i:Nat)=>⟨[(2,(.ptr 1 0 0 0)),(3,(.ptr 3 0 0 0)),(12,(dL 6 je aa c.procs)),(13,(i6 (c.procs.length:Int))),(14,(i6 (i:Int)))],[(.var 33 (zJ c)),(.var 70 [.nils,.nils]),(.arr 42 1 ae [] (List.replicate c.chans.length ([]:List Int))),(.var 70 [(.own 4),(.own 2)]),(.arr 56 2 bw bB (tab (fun i=>aI (bc c i)) i))]⟩) (fun (i:Nat)=>i≤c.procs.length) (fun (i:Nat)=>c.procs.length-i)
theorem Er (c:Ci) (hc:a6 c):CC (NS c):=by
 have hnl:=hc.nl
 have hcl:=hc.cl
 refine ai.vc (V:=TT 5 ((((0:Int)≤(c.chans.length:Int)∧(c.chans.length:Int)≤(c.chans.length:Int)∧(c.chans.length:Int)≤137438953472)∧(List.replicate c.chans.length ([]:List Int)).length=c.chans.length∧∀x∈(List.replicate c.chans.length ([]:List Int)),cS [.nils] (ae x))∧TT 7 (GO (nY c) 0 (∀i,(nY c).inv i→TT 1 (CD ((i:Int)<(c.procs.length:Int)) (IX (i:Int) c.procs.length∧TT 6 (CC (Ky (c.procs.getD i aa))∧an [[(LI ((aI (c.procs.getD i aa)).regs)),(dL 1 ae [] ((aI (c.procs.getD i aa)).mems))]] ([(⟨(aI (c.procs.getD i aa)).regs,(aI (c.procs.getD i aa)).mems⟩:Ps)].map bw)∧((tab (fun i=>aI (bc c i)) i).length+([(⟨(aI (c.procs.getD i aa)).regs,(aI (c.procs.getD i aa)).mems⟩:Ps)].map bw).length≤137438953472∧(tab (fun i=>aI (bc c i)) i).map bw++[(⟨(aI (c.procs.getD i aa)).regs,(aI (c.procs.getD i aa)).mems⟩:Ps)].map bw=(tab (fun i=>aI (bc c i)) (i+1)).map bw)∧TT 2 (W6 ((i+1:Nat):Int)∧TT 1 (AG (nY c) i (i+1))))) (TT 3 ((tab (fun i=>aI (bc c i)) i).map bw=((gi c).procs).map bw∧(List.replicate c.chans.length ([]:List Int)).map ae=((gi c).chans).map ae∧True))))))) (.w 1 [(3,.box 42 1 ae [] (List.replicate c.chans.length ([]:List Int)))]<|.g 2 3 0 56 2 bw bB<|.l (nY c) 0 (fun i=>.b 15 (.w 5 [(3,(Ky (c.procs.getD i aa)).O),(4,.box 56 2 bw bB [(⟨(aI (c.procs.getD i aa)).regs,(aI (c.procs.getD i aa)).mems⟩:Ps)]),(5,.box 56 2 bw bB (tab (fun i=>aI (bc c i)) (i+1)))]<|.w 6 [(0,.val (i6 ((i+1:Nat):Int)))]<|.e) (.e))) Tryz.func26 rfl rfl rfl (by kernel_rfl) ?_
 refine tt ⟨⟨by omega,by simp,fun x hx=>by rw[List.eq_of_mem_replicate hx];exact⟨rfl,oK⟩⟩,tt ⟨rfl,(by omega),?_⟩⟩
 intro i hinv
 have hi:=hinv
 refine tt (cd (fun hc15=>?_) (fun hc15=>?_))
 · refine⟨ix,?_⟩
   have hpk:=hc.pr i (by omega)
   refine tt ⟨(sj (c.procs.getD i aa) hpk),⟨⟨⟨rfl,rfl,oK⟩,oK⟩,⟨(qU (f:=fun i=>aI (bc c i)) (by omega)),tt ⟨w6,tt ⟨(i+1),rfl,(?_:(i+1)≤c.procs.length),(?_:c.procs.length-(i+1)<c.procs.length-i)⟩⟩⟩⟩⟩
   · omega
   · omega
 · refine tt ⟨(congrArg _ (?_:(tab (fun i=>aI (bc c i)) i)=((gi c).procs))),(congrArg _ (?_:(List.replicate c.chans.length ([]:List Int))=((gi c).chans))),oK⟩
   · rw[show i=c.procs.length by omega];rfl
   · rfl
abbrev NT (c:Ci) (s:Ns) (p:Nat):Ct:=⟨89,[(.agg (zJ c)),(.agg [(dL 2 bw bB s.procs),(dL 1 ae [] s.chans)]),(i6 (p:Int))],true,(.agg [(dB ((af c s p).fires)),(LI (((af c s p).s).regs)),(dL 1 ae [] (((af c s p).s).mems)),(LB ((af c s p).pops)),(dL 2 bZ aP ((af c s p).puts))])⟩
abbrev mO (c:Ci) (s:Ns) (p:Nat):Lp (Nat):=lS [2,3,4,6,7,8,21,22,23] 4 (fun (i:Nat)=>⟨[(2,(i6 (p:Int))),(3,(.ptr 0 0 0 0)),(4,(.ptr 1 0 0 0)),(6,(.ptr 2 0 0 0)),(7,(.own 3)),(8,.nils),(21,(dL 9 jY aK ((c.procs.getD p aa).takes))),(22,(i6 ((((c.procs.getD p aa).takes).length:Nat):Int))),(23,(i6 (i:Int)))],[(.var 33 (zJ c)),(.var 70 [(dL 2 bw bB s.procs),(dL 1 ae [] s.chans)]),(.var 101 [(dB false),.nils,.nils,.nils,.nils]),(.arr 115 2 bZ aP (tab (cM c s p) i))]⟩) (fun (i:Nat)=>i≤(c.procs.getD p aa).takes.length) (fun (i:Nat)=>(c.procs.getD p aa).takes.length-i)
abbrev mP (c:Ci) (s:Ns) (p:Nat) (i:Nat):Lp (Nat):=lS [2,3,4,6,7,8,50,51,52] 5 (fun (m:Nat)=>⟨[(2,(i6 (p:Int))),(3,(.ptr 0 0 0 0)),(4,(.ptr 1 0 0 0)),(6,(.ptr 2 0 0 0)),(7,(.own 3)),(8,(.own 4)),(50,(dL 16 lM aL ((c.procs.getD p aa).puts))),(51,(i6 ((((c.procs.getD p aa).puts).length:Nat):Int))),(52,(i6 (m:Int)))],[(.var 33 (zJ c)),(.var 70 [(dL 2 bw bB s.procs),(dL 1 ae [] s.chans)]),(.var 101 [(dB false),.nils,.nils,.nils,.nils]),(.arr 115 2 bZ aP (tab (cM c s p) i)),(.arr 4 1 be false (tab (cU c s p) m))]⟩) (fun (m:Nat)=>m≤(c.procs.getD p aa).puts.length) (fun (m:Nat)=>(c.procs.getD p aa).puts.length-m)
theorem Gp (c:Ci) (s:Ns) (p:Nat) (hc:a6 c) (hs:j6 c s) (hp:p<c.procs.length):CC (NT c s p):=by
 have hnl:=hc.nl
 have hcl:=hc.cl
 have hpk:fq (c.procs.getD p aa):=hc.pr p hp
 have hl1:=hs.pl
 have hl2:=hs.cl
 have ht1:(c.procs.getD p aa).takes.length≤100:=hpk.tl
 have ht2:(c.procs.getD p aa).puts.length≤100:=hpk.pl
 refine ai.vc (V:=TT 8 (IX (p:Int) c.procs.length∧TT 4 (GO (mO c s p) 0 (∀i,(mO c s p).inv i→TT 1 (CD ((i:Int)<((((c.procs.getD p aa).takes).length:Nat):Int)) (IX (i:Int) (((c.procs.getD p aa).takes).length)∧TT 8 (IX ((((c.procs.getD p aa).takes).getD i aK).chan) s.chans.length∧TT 5 (CD ((((s.chans.getD (((((c.procs.getD p aa).takes).getD i aK).chan).toNat) []).length:Nat):Int)>0) (TT 1 (IX 0 ((s.chans.getD (((((c.procs.getD p aa).takes).getD i aK).chan).toNat) []).length)∧TT 5 (an [[(dB true),(i6 ((s.chans.getD (((((c.procs.getD p aa).takes).getD i aK).chan).toNat) []).getD 0 0))]] ([(⟨true,((s.chans.getD (((((c.procs.getD p aa).takes).getD i aK).chan).toNat) []).getD 0 0)⟩:Hd)].map bZ)∧((tab (cM c s p) i).length+([(⟨true,((s.chans.getD (((((c.procs.getD p aa).takes).getD i aK).chan).toNat) []).getD 0 0)⟩:Hd)].map bZ).length≤137438953472∧(tab (cM c s p) i).map bZ++[(⟨true,((s.chans.getD (((((c.procs.getD p aa).takes).getD i aK).chan).toNat) []).getD 0 0)⟩:Hd)].map bZ=(tab (cM c s p) (i+1)).map bZ)∧TT 1 (W6 ((i+1:Nat):Int)∧TT 1 (AG (mO c s p) i (i+1)))))) (TT 2 (an [[(dB false),(i6 0)]] ([(⟨false,0⟩:Hd)].map bZ)∧((tab (cM c s p) i).length+([(⟨false,0⟩:Hd)].map bZ).length≤137438953472∧(tab (cM c s p) i).map bZ++[(⟨false,0⟩:Hd)].map bZ=(tab (cM c s p) (i+1)).map bZ)∧TT 1 (W6 ((i+1:Nat):Int)∧TT 1 (AG (mO c s p) i (i+1)))))))) (TT 3 (IX (p:Int) c.procs.length∧TT 4 (GO (mP c s p i) 0 (∀m,(mP c s p i).inv m→TT 1 (CD ((m:Int)<((((c.procs.getD p aa).puts).length:Nat):Int)) (IX (m:Int) (((c.procs.getD p aa).puts).length)∧TT 7 (IX ((((c.procs.getD p aa).puts).getD m aL).chan) c.chans.length∧TT 3 (CS (((c.chans.getD (((((c.procs.getD p aa).puts).getD m aL).chan).toNat) ck).dst)=(-1)) (TT 4 ((True∧(decide (((c.chans.getD (((((c.procs.getD p aa).puts).getD m aL).chan).toNat) ck).dst)=(-1)))=true)∧TT 1 (an [[(dB true)]] ([true].map be)∧((tab (cU c s p) m).length+([true].map be).length≤137438953472∧(tab (cU c s p) m).map be++[true].map be=(tab (cU c s p) (m+1)).map be)∧TT 1 (W6 ((m+1:Nat):Int)∧TT 1 (AG (mP c s p i) m (m+1)))))) (TT 4 ((True∧(decide (((c.chans.getD (((((c.procs.getD p aa).puts).getD m aL).chan).toNat) ck).dst)=(-1)))=false)∧TT 4 (IX ((((c.procs.getD p aa).puts).getD m aL).chan) s.chans.length∧TT 6 (an [[(dB (decide ((((s.chans.getD (((((c.procs.getD p aa).puts).getD m aL).chan).toNat) []).length:Nat):Int)<((c.chans.getD (((((c.procs.getD p aa).puts).getD m aL).chan).toNat) ck).cap))))]] ([decide ((((s.chans.getD (((((c.procs.getD p aa).puts).getD m aL).chan).toNat) []).length:Nat):Int)<((c.chans.getD (((((c.procs.getD p aa).puts).getD m aL).chan).toNat) ck).cap))].map be)∧((tab (cU c s p) m).length+([decide ((((s.chans.getD (((((c.procs.getD p aa).puts).getD m aL).chan).toNat) []).length:Nat):Int)<((c.chans.getD (((((c.procs.getD p aa).puts).getD m aL).chan).toNat) ck).cap))].map be).length≤137438953472∧(tab (cU c s p) m).map be++[decide ((((s.chans.getD (((((c.procs.getD p aa).puts).getD m aL).chan).toNat) []).length:Nat):Int)<((c.chans.getD (((((c.procs.getD p aa).puts).getD m aL).chan).toNat) ck).cap))].map be=(tab (cU c s p) (m+1)).map be)∧TT 1 (W6 ((m+1:Nat):Int)∧TT 1 (AG (mP c s p i) m (m+1)))))))))) (TT 3 (IX (p:Int) c.procs.length∧TT 4 (IX (p:Int) s.procs.length∧TT 3 (CC (Ge (c.procs.getD p aa) (s.procs.getD p bB) (tab (cM c s p) i) (tab (cU c s p) m))∧TT 2 (((ay (c.procs.getD p aa) (s.procs.getD p bB) (tab (cM c s p) i) (tab (cU c s p) m)).fires)=((af c s p).fires)∧(((ay (c.procs.getD p aa) (s.procs.getD p bB) (tab (cM c s p) i) (tab (cU c s p) m)).s).regs).map (ab .i64)=(((af c s p).s).regs).map (ab .i64)∧(((ay (c.procs.getD p aa) (s.procs.getD p bB) (tab (cM c s p) i) (tab (cU c s p) m)).s).mems).map ae=(((af c s p).s).mems).map ae∧((ay (c.procs.getD p aa) (s.procs.getD p bB) (tab (cM c s p) i) (tab (cU c s p) m)).pops).map be=((af c s p).pops).map be∧((ay (c.procs.getD p aa) (s.procs.getD p bB) (tab (cM c s p) i) (tab (cU c s p) m)).puts).map bZ=((af c s p).puts).map bZ∧True))))))))))))))) (.gs 3 7 115 2 bZ aP<|.l (mO c s p) 0 (fun i=>.b 24 (.b 35 (.w 10 [(2,.box 115 2 bZ aP [(⟨true,((s.chans.getD (((((c.procs.getD p aa).takes).getD i aK).chan).toNat) []).getD 0 0)⟩:Hd)]),(3,.box 115 2 bZ aP (tab (cM c s p) (i+1)))]<|.w 11 [(0,.val (i6 ((i+1:Nat):Int)))]<|.e) (.w 10 [(2,.box 115 2 bZ aP [(⟨false,0⟩:Hd)]),(3,.box 115 2 bZ aP (tab (cM c s p) (i+1)))]<|.w 11 [(0,.val (i6 ((i+1:Nat):Int)))]<|.e)) (.gs 12 8 4 1 be false<|.l (mP c s p i) 0 (fun m=>.b 53 (.s 16 (((c.chans.getD (((((c.procs.getD p aa).puts).getD m aL).chan).toNat) ck).dst)=(-1)) (.w 16 [(4,.val (dB true)),(16,.box 4 1 be false [true]),(17,.box 4 1 be false (tab (cU c s p) (m+1)))]<|.w 17 [(0,.val (i6 ((m+1:Nat):Int)))]<|.e) (.w 16 [(4,.val (dB false)),(16,.box 4 1 be false [decide ((((s.chans.getD (((((c.procs.getD p aa).puts).getD m aL).chan).toNat) []).length:Nat):Int)<((c.chans.getD (((((c.procs.getD p aa).puts).getD m aL).chan).toNat) ck).cap))]),(17,.box 4 1 be false (tab (cU c s p) (m+1)))]<|.w 17 [(0,.val (i6 ((m+1:Nat):Int)))]<|.e)) (.f 18 3<|.f 18 4<|.w 18 [(12,(Ge (c.procs.getD p aa) (s.procs.getD p bB) (tab (cM c s p) i) (tab (cU c s p) m)).O)]<|.e))))) Tryz.func89 rfl rfl rfl (by kernel_rfl) ?_
 refine tt ⟨ix,tt ⟨rfl,(by omega),?_⟩⟩
 intro i hinv
 have hi:=hinv
 refine tt (cd (fun hc24=>?_) (fun hc24=>?_))
 · refine⟨ix,?_⟩
   have htk:0≤((c.procs.getD p aa).takes.getD i aK).chan∧((c.procs.getD p aa).takes.getD i aK).chan<c.chans.length:=⟨(hc.tk p hp i (show i<(c.procs.getD p aa).takes.length by omega)).1,(hc.tk p hp i (show i<(c.procs.getD p aa).takes.length by omega)).2.1⟩
   refine tt ⟨ix,tt (cd (fun hc35=>?_) (fun hc35=>?_))⟩
   · refine tt ⟨ix,tt ⟨⟨⟨rfl,rfl,oK⟩,oK⟩,⟨(bq (by omega) (by first | exact(if_pos (show 0<(s.chans.getD ((c.procs.getD p aa).takes.getD i aK).chan.toNat []).length by omega)).symm | exact(if_neg (show ¬0<(s.chans.getD ((c.procs.getD p aa).takes.getD i aK).chan.toNat []).length by omega)).symm)),tt ⟨w6,tt ⟨(i+1),rfl,(?_:(i+1)≤(c.procs.getD p aa).takes.length),(?_:(c.procs.getD p aa).takes.length-(i+1)<(c.procs.getD p aa).takes.length-i)⟩⟩⟩⟩⟩
     · omega
     · omega
   · refine tt ⟨⟨⟨rfl,rfl,oK⟩,oK⟩,⟨(bq (by omega) (by first | exact(if_pos (show 0<(s.chans.getD ((c.procs.getD p aa).takes.getD i aK).chan.toNat []).length by omega)).symm | exact(if_neg (show ¬0<(s.chans.getD ((c.procs.getD p aa).takes.getD i aK).chan.toNat []).length by omega)).symm)),tt ⟨w6,tt ⟨(i+1),rfl,(?_:(i+1)≤(c.procs.getD p aa).takes.length),(?_:(c.procs.getD p aa).takes.length-(i+1)<(c.procs.getD p aa).takes.length-i)⟩⟩⟩⟩
     · omega
     · omega
 · refine tt ⟨ix,tt ⟨rfl,(by omega),?_⟩⟩
   intro m hinv
   have hm:=hinv
   refine tt (cd (fun hc53=>?_) (fun hc53=>?_))
   · refine⟨ix,?_⟩
     have hpt:0≤((c.procs.getD p aa).puts.getD m aL).chan∧((c.procs.getD p aa).puts.getD m aL).chan<c.chans.length:=⟨(hc.pt p hp m (show m<(c.procs.getD p aa).puts.length by omega)).1,(hc.pt p hp m (show m<(c.procs.getD p aa).puts.length by omega)).2.1⟩
     refine tt ⟨ix,tt ⟨fun hs0=>?_,fun hs0=>?_⟩⟩
     · refine tt ⟨(vT hs0),tt ⟨⟨⟨rfl,oK⟩,oK⟩,⟨(bq (by omega) (by first | exact(Gn hs0).symm | exact(x7 hs0).symm | exact(x7 hs1).symm)),tt ⟨w6,tt ⟨(m+1),rfl,(?_:(m+1)≤(c.procs.getD p aa).puts.length),(?_:(c.procs.getD p aa).puts.length-(m+1)<(c.procs.getD p aa).puts.length-m)⟩⟩⟩⟩⟩
       · omega
       · omega
     · refine tt ⟨(vF hs0),tt ⟨ix,tt ⟨⟨⟨rfl,oK⟩,oK⟩,⟨(bq (by omega) (by first | exact(Gn hs0).symm | exact(x7 hs0).symm | exact(x7 hs1).symm)),tt ⟨w6,tt ⟨(m+1),rfl,(?_:(m+1)≤(c.procs.getD p aa).puts.length),(?_:(c.procs.getD p aa).puts.length-(m+1)<(c.procs.getD p aa).puts.length-m)⟩⟩⟩⟩⟩⟩
       · omega
       · omega
   · have hie:i=(c.procs.getD p aa).takes.length:=by omega
     have hme:m=(c.procs.getD p aa).puts.length:=by omega
     refine tt ⟨ix,tt ⟨ix,tt ⟨(mG (c.procs.getD p aa) (s.procs.getD p bB) (tab (cM c s p) i) (tab (cU c s p) m) hpk (hs.pv p hp) (by rw[hie];exact qZ hc hs hp) (by rw[ao];omega)),tt ⟨?_,(congrArg _ (?_:(((ay (c.procs.getD p aa) (s.procs.getD p bB) (tab (cM c s p) i) (tab (cU c s p) m)).s).regs)=(((af c s p).s).regs))),(congrArg _ (?_:(((ay (c.procs.getD p aa) (s.procs.getD p bB) (tab (cM c s p) i) (tab (cU c s p) m)).s).mems)=(((af c s p).s).mems))),(congrArg _ (?_:((ay (c.procs.getD p aa) (s.procs.getD p bB) (tab (cM c s p) i) (tab (cU c s p) m)).pops)=((af c s p).pops))),(congrArg _ (?_:((ay (c.procs.getD p aa) (s.procs.getD p bB) (tab (cM c s p) i) (tab (cU c s p) m)).puts)=((af c s p).puts))),oK⟩⟩⟩⟩
     all_goals (all_goals (rw[hie,hme];rfl))
end Go.Proofs.YtckgpflobhpnpaaGreat
