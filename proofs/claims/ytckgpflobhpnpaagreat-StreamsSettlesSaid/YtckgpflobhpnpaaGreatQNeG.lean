/-
  Package network: valid states, starts, what a process does.
-/
import Derived.Test.YtckgpflobhpnpaaGreatQNeE
namespace Go.Proofs.YtckgpflobhpnpaaGreat
open Go.RowKit
set_option linter.unusedVariables false
set_option linter.unusedSimpArgs false
abbrev yu (c:Ci):List D:=[(dL 6 hU af c.procs),(dL 5 gK a6 c.chans)]
set_option maxRecDepth 100000
abbrev OM (c:Ci):Ct:=⟨26,[(.agg (yu c))],true,(.agg [(dL 2 bN bI ((du c).procs)),(dL 1 ac [] ((du c).chans))])⟩
abbrev pg (c:Ci):Lp (Nat):=li [2,3,12,13,14] 5 (fun (i:Nat)=>⟨[(2,(.ptr 1 0 0 0)),(3,(.ptr 3 0 0 0)),(12,(dL 6 hU af c.procs)),(13,(i6 (c.procs.length:Int))),(14,(i6 (i:Int)))],[(.var 33 (yu c)),(.var 70 [.nils,.nils]),(.arr 42 1 ac [] (List.replicate c.chans.length ([]:List Int))),(.var 70 [(.own 4),(.own 2)]),(.arr 56 2 bN bI (tab (fun i=>aR (bj c i)) i))]⟩) (fun (i:Nat)=>i≤c.procs.length) (fun (i:Nat)=>c.procs.length-i)
theorem yv (c:Ci) (hc:a8 c):CC (OM c):=by
 have hnl:=hc.nl
 have hcl:=hc.cl
 refine ah.vc (V:=TT 5 ((((0:Int)≤(c.chans.length:Int)∧(c.chans.length:Int)≤(c.chans.length:Int)∧(c.chans.length:Int)≤137438953472)∧(List.replicate c.chans.length ([]:List Int)).length=c.chans.length∧∀x∈(List.replicate c.chans.length ([]:List Int)),c8 [.nils] (ac x))∧TT 7 (GO (pg c) 0 (∀i,(pg c).inv i→TT 1 (CD ((i:Int)<(c.procs.length:Int)) (IX (i:Int) c.procs.length∧TT 6 (CC (OK (c.procs.getD i af))∧ap [[(LI ((aR (c.procs.getD i af)).regs)),(dL 1 ac [] ((aR (c.procs.getD i af)).mems))]] ([(⟨(aR (c.procs.getD i af)).regs,(aR (c.procs.getD i af)).mems⟩:Ps)].map bN)∧((tab (fun i=>aR (bj c i)) i).length+([(⟨(aR (c.procs.getD i af)).regs,(aR (c.procs.getD i af)).mems⟩:Ps)].map bN).length≤137438953472∧(tab (fun i=>aR (bj c i)) i).map bN++[(⟨(aR (c.procs.getD i af)).regs,(aR (c.procs.getD i af)).mems⟩:Ps)].map bN=(tab (fun i=>aR (bj c i)) (i+1)).map bN)∧TT 2 (W6 ((i+1:Nat):Int)∧TT 1 (AG (pg c) i (i+1))))) (TT 3 ((tab (fun i=>aR (bj c i)) i).map bN=((du c).procs).map bN∧(List.replicate c.chans.length ([]:List Int)).map ac=((du c).chans).map ac∧True))))))) (.w 1 [(3,.box 42 1 ac [] (List.replicate c.chans.length ([]:List Int)))]<|.g 2 3 0 56 2 bN bI<|.l (pg c) 0 (fun i=>.b 15 (.w 5 [(3,(OK (c.procs.getD i af)).O),(4,.box 56 2 bN bI [(⟨(aR (c.procs.getD i af)).regs,(aR (c.procs.getD i af)).mems⟩:Ps)]),(5,.box 56 2 bN bI (tab (fun i=>aR (bj c i)) (i+1)))]<|.w 6 [(0,.val (i6 ((i+1:Nat):Int)))]<|.e) (.e))) Tryz.func26 rfl rfl rfl (by kernel_rfl) ?_
 refine tt ⟨⟨by omega,by simp,fun x hx=>by rw[List.eq_of_mem_replicate hx];exact⟨rfl,oK⟩⟩,tt ⟨rfl,(by omega),?_⟩⟩
 intro i hinv
 have hi:=hinv
 refine tt (cd (fun hc15=>?_) (fun hc15=>?_))
 · refine⟨ix,?_⟩
   have hpk:=hc.pr i (by omega)
   refine tt ⟨(yk (c.procs.getD i af) hpk),⟨⟨⟨rfl,rfl,oK⟩,oK⟩,⟨(rY (f:=fun i=>aR (bj c i)) (by omega)),tt ⟨w6,tt ⟨(i+1),rfl,(?_:(i+1)≤c.procs.length),(?_:c.procs.length-(i+1)<c.procs.length-i)⟩⟩⟩⟩⟩
   · omega
   · omega
 · refine tt ⟨(congrArg _ (?_:(tab (fun i=>aR (bj c i)) i)=((du c).procs))),(congrArg _ (?_:(List.replicate c.chans.length ([]:List Int))=((du c).chans))),oK⟩
   · rw[show i=c.procs.length by omega];rfl
   · rfl
abbrev Qn (h:Ch):Ct:=⟨57,[(.agg [(dS h.name),(i6 h.w),(i6 h.cap),(i6 h.frm),(i6 h.dst)])],false,(i6 h.frm)⟩
theorem Io (h:Ch):CC (Qn h):=by
 refine ah.vc (V:=TT 6 (h.frm=h.frm∧True)) (.e) Tryz.func57 rfl rfl rfl (by kernel_rfl) ?_
 exact tt ⟨rfl,oK⟩
abbrev Ip (c:Ci) (n:Int):Ct:=⟨56,[(.agg (yu c)),(i6 n),(.fn (.func 57) [] [])],false,(dB (kh (·.frm) c n))⟩
theorem Bl (c:Ci) (n:Int) (hc:a8 c):CC (Ip c n):=by
 have hnl:=hc.nl
 have hcl:=hc.cl
 refine ah.vc (V:=TT 2 (CS (n≥0) (CS (n<(c.chans.length:Int)) (TT 2 ((True∧(decide (n≥0))=true)∧TT 6 ((True∧(decide (n<(c.chans.length:Int)))=true)∧TT 4 (IX n c.chans.length∧TT 1 (CC (Qn (c.chans.getD n.toNat a6))∧TT 4 ((((c.chans.getD n.toNat a6).frm)==(-1))=(kh (·.frm) c n)∧True)))))) (TT 2 ((True∧(decide (n≥0))=true)∧TT 6 ((True∧(decide (n<(c.chans.length:Int)))=false)∧TT 11 (false=(kh (·.frm) c n)∧True))))) (TT 2 ((True∧(decide (n≥0))=false)∧TT 18 (false=(kh (·.frm) c n)∧True))))) (.s 1 (n≥0) (.s 1 (n<(c.chans.length:Int)) (.w 1 [(2,.val (dB true)),(9,.val (dB true)),(16,(Qn (c.chans.getD n.toNat a6)).O)]<|.e) (.w 1 [(2,.val (dB true)),(9,.val (dB false))]<|.e)) (.w 1 [(2,.val (dB false))]<|.e)) Tryz.func56 rfl rfl rfl (by kernel_rfl) ?_
 refine tt ⟨fun hs0=>?_,fun hs0=>?_⟩
 · refine⟨fun hs1=>?_,fun hs1=>?_⟩
   · refine tt ⟨(vT hs0),tt ⟨(vT hs1),tt ⟨ix,tt ⟨(Io (c.chans.getD n.toNat a6)),tt ⟨?_,oK⟩⟩⟩⟩⟩
     first | exact(wD (by omega)).symm | exact(wE (by omega)).symm | exact(o9 (by omega) (by omega)).symm | (rw[o9 (by omega) (by omega)];simp)
   · refine tt ⟨(vT hs0),tt ⟨(vF hs1),tt ⟨?_,oK⟩⟩⟩
     first | exact(wD (by omega)).symm | exact(wE (by omega)).symm | exact(o9 (by omega) (by omega)).symm | (rw[o9 (by omega) (by omega)];simp)
 · refine tt ⟨(vF hs0),tt ⟨?_,oK⟩⟩
   first | exact(wD (by omega)).symm | exact(wE (by omega)).symm | exact(o9 (by omega) (by omega)).symm | (rw[o9 (by omega) (by omega)];simp)
abbrev Nb (c:Ci) (s:Ns) (p:Nat):Ct:=⟨89,[(.agg (yu c)),(.agg [(dL 2 bN bI s.procs),(dL 1 ac [] s.chans)]),(i6 (p:Int))],true,(.agg [(dB ((ab c s p).fires)),(LI (((ab c s p).s).regs)),(dL 1 ac [] (((ab c s p).s).mems)),(LB ((ab c s p).pops)),(dL 2 cO aP ((ab c s p).puts))])⟩
abbrev nZ (c:Ci) (s:Ns) (p:Nat):Lp (Nat):=li [2,3,4,6,7,8,21,22,23] 4 (fun (i:Nat)=>⟨[(2,(i6 (p:Int))),(3,(.ptr 0 0 0 0)),(4,(.ptr 1 0 0 0)),(6,(.ptr 2 0 0 0)),(7,(.own 3)),(8,.nils),(21,(dL 9 kt aO ((c.procs.getD p af).takes))),(22,(i6 ((((c.procs.getD p af).takes).length:Nat):Int))),(23,(i6 (i:Int)))],[(.var 33 (yu c)),(.var 70 [(dL 2 bN bI s.procs),(dL 1 ac [] s.chans)]),(.var 101 [(dB false),.nils,.nils,.nils,.nils]),(.arr 115 2 cO aP (tab (de c s p) i))]⟩) (fun (i:Nat)=>i≤(c.procs.getD p af).takes.length) (fun (i:Nat)=>(c.procs.getD p af).takes.length-i)
abbrev n9 (c:Ci) (s:Ns) (p:Nat) (i:Nat):Lp (Nat):=li [2,3,4,6,7,8,50,51,52] 5 (fun (m:Nat)=>⟨[(2,(i6 (p:Int))),(3,(.ptr 0 0 0 0)),(4,(.ptr 1 0 0 0)),(6,(.ptr 2 0 0 0)),(7,(.own 3)),(8,(.own 4)),(50,(dL 16 nJ aK ((c.procs.getD p af).puts))),(51,(i6 ((((c.procs.getD p af).puts).length:Nat):Int))),(52,(i6 (m:Int)))],[(.var 33 (yu c)),(.var 70 [(dL 2 bN bI s.procs),(dL 1 ac [] s.chans)]),(.var 101 [(dB false),.nils,.nils,.nils,.nils]),(.arr 115 2 cO aP (tab (de c s p) i)),(.arr 4 1 bk false (tab (cX c s p) m))]⟩) (fun (m:Nat)=>m≤(c.procs.getD p af).puts.length) (fun (m:Nat)=>(c.procs.getD p af).puts.length-m)
theorem wF (c:Ci) (s:Ns) (p:Nat) (hc:a8 c) (hs:fa c s) (hp:p<c.procs.length):CC (Nb c s p):=by
 have hnl:=hc.nl
 have hcl:=hc.cl
 have hpk:gW (c.procs.getD p af):=hc.pr p hp
 have hl1:=hs.pl
 have hl2:=hs.cl
 have ht1:(c.procs.getD p af).takes.length≤100:=hpk.tl
 have ht2:(c.procs.getD p af).puts.length≤100:=hpk.pl
 refine ah.vc (V:=TT 8 (IX (p:Int) c.procs.length∧TT 4 (GO (nZ c s p) 0 (∀i,(nZ c s p).inv i→TT 1 (CD ((i:Int)<((((c.procs.getD p af).takes).length:Nat):Int)) (IX (i:Int) (((c.procs.getD p af).takes).length)∧TT 8 (IX ((((c.procs.getD p af).takes).getD i aO).chan) s.chans.length∧TT 5 (CD ((((s.chans.getD (((((c.procs.getD p af).takes).getD i aO).chan).toNat) []).length:Nat):Int)>0) (TT 1 (IX 0 ((s.chans.getD (((((c.procs.getD p af).takes).getD i aO).chan).toNat) []).length)∧TT 5 (ap [[(dB true),(i6 ((s.chans.getD (((((c.procs.getD p af).takes).getD i aO).chan).toNat) []).getD 0 0))]] ([(⟨true,((s.chans.getD (((((c.procs.getD p af).takes).getD i aO).chan).toNat) []).getD 0 0)⟩:Hd)].map cO)∧((tab (de c s p) i).length+([(⟨true,((s.chans.getD (((((c.procs.getD p af).takes).getD i aO).chan).toNat) []).getD 0 0)⟩:Hd)].map cO).length≤137438953472∧(tab (de c s p) i).map cO++[(⟨true,((s.chans.getD (((((c.procs.getD p af).takes).getD i aO).chan).toNat) []).getD 0 0)⟩:Hd)].map cO=(tab (de c s p) (i+1)).map cO)∧TT 1 (W6 ((i+1:Nat):Int)∧TT 1 (AG (nZ c s p) i (i+1)))))) (TT 2 (ap [[(dB false),(i6 0)]] ([(⟨false,0⟩:Hd)].map cO)∧((tab (de c s p) i).length+([(⟨false,0⟩:Hd)].map cO).length≤137438953472∧(tab (de c s p) i).map cO++[(⟨false,0⟩:Hd)].map cO=(tab (de c s p) (i+1)).map cO)∧TT 1 (W6 ((i+1:Nat):Int)∧TT 1 (AG (nZ c s p) i (i+1)))))))) (TT 3 (IX (p:Int) c.procs.length∧TT 4 (GO (n9 c s p i) 0 (∀m,(n9 c s p i).inv m→TT 1 (CD ((m:Int)<((((c.procs.getD p af).puts).length:Nat):Int)) (IX (m:Int) (((c.procs.getD p af).puts).length)∧TT 7 (IX ((((c.procs.getD p af).puts).getD m aK).chan) c.chans.length∧TT 3 (CS (((c.chans.getD (((((c.procs.getD p af).puts).getD m aK).chan).toNat) a6).dst)=(-1)) (TT 4 ((True∧(decide (((c.chans.getD (((((c.procs.getD p af).puts).getD m aK).chan).toNat) a6).dst)=(-1)))=true)∧TT 1 (ap [[(dB true)]] ([true].map bk)∧((tab (cX c s p) m).length+([true].map bk).length≤137438953472∧(tab (cX c s p) m).map bk++[true].map bk=(tab (cX c s p) (m+1)).map bk)∧TT 1 (W6 ((m+1:Nat):Int)∧TT 1 (AG (n9 c s p i) m (m+1)))))) (TT 4 ((True∧(decide (((c.chans.getD (((((c.procs.getD p af).puts).getD m aK).chan).toNat) a6).dst)=(-1)))=false)∧TT 4 (IX ((((c.procs.getD p af).puts).getD m aK).chan) s.chans.length∧TT 6 (ap [[(dB (decide ((((s.chans.getD (((((c.procs.getD p af).puts).getD m aK).chan).toNat) []).length:Nat):Int)<((c.chans.getD (((((c.procs.getD p af).puts).getD m aK).chan).toNat) a6).cap))))]] ([decide ((((s.chans.getD (((((c.procs.getD p af).puts).getD m aK).chan).toNat) []).length:Nat):Int)<((c.chans.getD (((((c.procs.getD p af).puts).getD m aK).chan).toNat) a6).cap))].map bk)∧((tab (cX c s p) m).length+([decide ((((s.chans.getD (((((c.procs.getD p af).puts).getD m aK).chan).toNat) []).length:Nat):Int)<((c.chans.getD (((((c.procs.getD p af).puts).getD m aK).chan).toNat) a6).cap))].map bk).length≤137438953472∧(tab (cX c s p) m).map bk++[decide ((((s.chans.getD (((((c.procs.getD p af).puts).getD m aK).chan).toNat) []).length:Nat):Int)<((c.chans.getD (((((c.procs.getD p af).puts).getD m aK).chan).toNat) a6).cap))].map bk=(tab (cX c s p) (m+1)).map bk)∧TT 1 (W6 ((m+1:Nat):Int)∧TT 1 (AG (n9 c s p i) m (m+1)))))))))) (TT 3 (IX (p:Int) c.procs.length∧TT 4 (IX (p:Int) s.procs.length∧TT 3 (CC (KT (c.procs.getD p af) (s.procs.getD p bI) (tab (de c s p) i) (tab (cX c s p) m))∧TT 2 (((aM (c.procs.getD p af) (s.procs.getD p bI) (tab (de c s p) i) (tab (cX c s p) m)).fires)=((ab c s p).fires)∧(((aM (c.procs.getD p af) (s.procs.getD p bI) (tab (de c s p) i) (tab (cX c s p) m)).s).regs).map (ae .i64)=(((ab c s p).s).regs).map (ae .i64)∧(((aM (c.procs.getD p af) (s.procs.getD p bI) (tab (de c s p) i) (tab (cX c s p) m)).s).mems).map ac=(((ab c s p).s).mems).map ac∧((aM (c.procs.getD p af) (s.procs.getD p bI) (tab (de c s p) i) (tab (cX c s p) m)).pops).map bk=((ab c s p).pops).map bk∧((aM (c.procs.getD p af) (s.procs.getD p bI) (tab (de c s p) i) (tab (cX c s p) m)).puts).map cO=((ab c s p).puts).map cO∧True))))))))))))))) (.gs 3 7 115 2 cO aP<|.l (nZ c s p) 0 (fun i=>.b 24 (.b 35 (.w 10 [(2,.box 115 2 cO aP [(⟨true,((s.chans.getD (((((c.procs.getD p af).takes).getD i aO).chan).toNat) []).getD 0 0)⟩:Hd)]),(3,.box 115 2 cO aP (tab (de c s p) (i+1)))]<|.w 11 [(0,.val (i6 ((i+1:Nat):Int)))]<|.e) (.w 10 [(2,.box 115 2 cO aP [(⟨false,0⟩:Hd)]),(3,.box 115 2 cO aP (tab (de c s p) (i+1)))]<|.w 11 [(0,.val (i6 ((i+1:Nat):Int)))]<|.e)) (.gs 12 8 4 1 bk false<|.l (n9 c s p i) 0 (fun m=>.b 53 (.s 16 (((c.chans.getD (((((c.procs.getD p af).puts).getD m aK).chan).toNat) a6).dst)=(-1)) (.w 16 [(4,.val (dB true)),(16,.box 4 1 bk false [true]),(17,.box 4 1 bk false (tab (cX c s p) (m+1)))]<|.w 17 [(0,.val (i6 ((m+1:Nat):Int)))]<|.e) (.w 16 [(4,.val (dB false)),(16,.box 4 1 bk false [decide ((((s.chans.getD (((((c.procs.getD p af).puts).getD m aK).chan).toNat) []).length:Nat):Int)<((c.chans.getD (((((c.procs.getD p af).puts).getD m aK).chan).toNat) a6).cap))]),(17,.box 4 1 bk false (tab (cX c s p) (m+1)))]<|.w 17 [(0,.val (i6 ((m+1:Nat):Int)))]<|.e)) (.f 18 3<|.f 18 4<|.w 18 [(12,(KT (c.procs.getD p af) (s.procs.getD p bI) (tab (de c s p) i) (tab (cX c s p) m)).O)]<|.e))))) Tryz.func89 rfl rfl rfl (by kernel_rfl) ?_
 refine tt ⟨ix,tt ⟨rfl,(by omega),?_⟩⟩
 intro i hinv
 have hi:=hinv
 refine tt (cd (fun hc24=>?_) (fun hc24=>?_))
 · refine⟨ix,?_⟩
   have htk:0≤((c.procs.getD p af).takes.getD i aO).chan∧((c.procs.getD p af).takes.getD i aO).chan<c.chans.length:=⟨(hc.tk p hp i (show i<(c.procs.getD p af).takes.length by omega)).1,(hc.tk p hp i (show i<(c.procs.getD p af).takes.length by omega)).2.1⟩
   refine tt ⟨ix,tt (cd (fun hc35=>?_) (fun hc35=>?_))⟩
   · refine tt ⟨ix,tt ⟨⟨⟨rfl,rfl,oK⟩,oK⟩,⟨(bU (by omega) (by first | exact(if_pos (show 0<(s.chans.getD ((c.procs.getD p af).takes.getD i aO).chan.toNat []).length by omega)).symm | exact(if_neg (show ¬0<(s.chans.getD ((c.procs.getD p af).takes.getD i aO).chan.toNat []).length by omega)).symm)),tt ⟨w6,tt ⟨(i+1),rfl,(?_:(i+1)≤(c.procs.getD p af).takes.length),(?_:(c.procs.getD p af).takes.length-(i+1)<(c.procs.getD p af).takes.length-i)⟩⟩⟩⟩⟩
     · omega
     · omega
   · refine tt ⟨⟨⟨rfl,rfl,oK⟩,oK⟩,⟨(bU (by omega) (by first | exact(if_pos (show 0<(s.chans.getD ((c.procs.getD p af).takes.getD i aO).chan.toNat []).length by omega)).symm | exact(if_neg (show ¬0<(s.chans.getD ((c.procs.getD p af).takes.getD i aO).chan.toNat []).length by omega)).symm)),tt ⟨w6,tt ⟨(i+1),rfl,(?_:(i+1)≤(c.procs.getD p af).takes.length),(?_:(c.procs.getD p af).takes.length-(i+1)<(c.procs.getD p af).takes.length-i)⟩⟩⟩⟩
     · omega
     · omega
 · refine tt ⟨ix,tt ⟨rfl,(by omega),?_⟩⟩
   intro m hinv
   have hm:=hinv
   refine tt (cd (fun hc53=>?_) (fun hc53=>?_))
   · refine⟨ix,?_⟩
     have hpt:0≤((c.procs.getD p af).puts.getD m aK).chan∧((c.procs.getD p af).puts.getD m aK).chan<c.chans.length:=⟨(hc.pt p hp m (show m<(c.procs.getD p af).puts.length by omega)).1,(hc.pt p hp m (show m<(c.procs.getD p af).puts.length by omega)).2.1⟩
     refine tt ⟨ix,tt ⟨fun hs0=>?_,fun hs0=>?_⟩⟩
     · refine tt ⟨(vT hs0),tt ⟨⟨⟨rfl,oK⟩,oK⟩,⟨(bU (by omega) (by first | exact(Il hs0).symm | exact(zG hs0).symm | exact(zG hs1).symm)),tt ⟨w6,tt ⟨(m+1),rfl,(?_:(m+1)≤(c.procs.getD p af).puts.length),(?_:(c.procs.getD p af).puts.length-(m+1)<(c.procs.getD p af).puts.length-m)⟩⟩⟩⟩⟩
       · omega
       · omega
     · refine tt ⟨(vF hs0),tt ⟨ix,tt ⟨⟨⟨rfl,oK⟩,oK⟩,⟨(bU (by omega) (by first | exact(Il hs0).symm | exact(zG hs0).symm | exact(zG hs1).symm)),tt ⟨w6,tt ⟨(m+1),rfl,(?_:(m+1)≤(c.procs.getD p af).puts.length),(?_:(c.procs.getD p af).puts.length-(m+1)<(c.procs.getD p af).puts.length-m)⟩⟩⟩⟩⟩⟩
       · omega
       · omega
   · have hie:i=(c.procs.getD p af).takes.length:=by omega
     have hme:m=(c.procs.getD p af).puts.length:=by omega
     refine tt ⟨ix,tt ⟨ix,tt ⟨(r9 (c.procs.getD p af) (s.procs.getD p bI) (tab (de c s p) i) (tab (cX c s p) m) hpk (hs.pv p hp) (by rw[hie];exact sa hc hs hp) (by rw[aq];omega)),tt ⟨?_,(congrArg _ (?_:(((aM (c.procs.getD p af) (s.procs.getD p bI) (tab (de c s p) i) (tab (cX c s p) m)).s).regs)=(((ab c s p).s).regs))),(congrArg _ (?_:(((aM (c.procs.getD p af) (s.procs.getD p bI) (tab (de c s p) i) (tab (cX c s p) m)).s).mems)=(((ab c s p).s).mems))),(congrArg _ (?_:((aM (c.procs.getD p af) (s.procs.getD p bI) (tab (de c s p) i) (tab (cX c s p) m)).pops)=((ab c s p).pops))),(congrArg _ (?_:((aM (c.procs.getD p af) (s.procs.getD p bI) (tab (de c s p) i) (tab (cX c s p) m)).puts)=((ab c s p).puts))),oK⟩⟩⟩⟩
     all_goals (all_goals (rw[hie,hme];rfl))
end Go.Proofs.YtckgpflobhpnpaaGreat
