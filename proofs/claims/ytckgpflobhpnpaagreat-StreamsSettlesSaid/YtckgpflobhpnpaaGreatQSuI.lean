/-
  The laws of streams: settled networks.
-/
import Derived.Test.YtckgpflobhpnpaaGreatQSuE
import Derived.Test.YtckgpflobhpnpaaGreatQStX
namespace Go.Proofs.YtckgpflobhpnpaaGreat
open Go.RowKit
set_option linter.unusedVariables false
set_option linter.unusedSimpArgs false
abbrev Mb (sh:Int) (b bb:List Int):List am:=[(.var 24 [(dI .u8 sh),(LY b)]),(.var 33 [(dL 6 hU af ((aa sh b).procs)),(dL 5 gK a6 ((aa sh b).chans))]),(.var 70 [(dL 2 bN bI (((bo (aa sh b) (dg (aa sh b) (aA (aa sh b) bb)) 99).1).procs)),(dL 1 ac [] (((bo (aa sh b) (dg (aa sh b) (aA (aa sh b) bb)) 99).1).chans))]),(.var 45 [(dL 1 ac [] ((bB (aa sh b) (aA (aa sh b) bb) 100).l)),(LI ((bB (aa sh b) (aA (aa sh b) bb) 100).c)),(i6 ((bB (aa sh b) (aA (aa sh b) bb) 100).e))])]
set_option maxRecDepth 100000
abbrev c6 (sh:Int) (b bb:List Int):Ct:=⟨6,[(.agg [(dI .u8 sh),(LY b)]),(LY bb)],false,(dB true)⟩
abbrev jC (sh:Int) (b:List Int) (bb:List Int):Lp (Nat×Ns):=u2 [5,6,7,8,9] 3 (fun (i:Nat) (v:Ns)=>⟨[(5,(dB true)),(6,(.ptr 1 0 0 0)),(7,(dL 1 ac [] (aA (aa sh b) bb))),(8,(.ptr 2 0 0 0)),(9,(i6 (i:Int)))],[(.var 24 [(dI .u8 sh),(LY b)]),(.var 33 [(dL 6 hU af ((aa sh b).procs)),(dL 5 gK a6 ((aa sh b).chans))]),(.var 70 [(dL 2 bN bI v.procs),(dL 1 ac [] v.chans)])]⟩) (fun (i:Nat) (v:Ns)=>i≤(aa sh b).chans.length∧v=xc (aa sh b) (aA (aa sh b) bb) i) (fun (i:Nat) (v:Ns)=>(aa sh b).chans.length-i)
abbrev dQ (sh:Int) (b:List Int) (bb:List Int):Lp (Nat×Bool):=u2 [5,6,8,12,14,15,16] 4 (fun (i:Nat) (fu:Bool)=>⟨[(5,(dB true)),(6,(.ptr 1 0 0 0)),(8,(.ptr 2 0 0 0)),(12,(LI ((bo (aa sh b) (dg (aa sh b) (aA (aa sh b) bb)) 99).2.1))),(14,(.ptr 3 0 0 0)),(15,(dB fu)),(16,(i6 (i:Int)))],(Mb sh b bb)⟩) (fun (i:Nat) (fu:Bool)=>i≤(aa sh b).chans.length∧(fu=false→(bo (aa sh b) (dg (aa sh b) (aA (aa sh b) bb)) 99).2.2=0∧∀q,q<i→¬(0<((aa sh b).chans.getD q a6).cap∧((aa sh b).chans.getD q a6).cap≤(((bo (aa sh b) (dg (aa sh b) (aA (aa sh b) bb)) 99).1.chans.getD q []).length:Int)))) (fun (i:Nat) (fu:Bool)=>(aa sh b).chans.length-i)
abbrev jD (sh:Int) (b:List Int) (bb:List Int):Lp (Nat):=li [5,6,8,12,14,17] 4 (fun (k:Nat)=>⟨[(5,(dB true)),(6,(.ptr 1 0 0 0)),(8,(.ptr 2 0 0 0)),(12,(LI ((bo (aa sh b) (dg (aa sh b) (aA (aa sh b) bb)) 99).2.1))),(14,(.ptr 3 0 0 0)),(17,(i6 (k:Int)))],(Mb sh b bb)⟩) (fun (k:Nat)=>k≤(aa sh b).chans.length) (fun (k:Nat)=>(aa sh b).chans.length-k)
theorem DR (sh:Int) (b bb:List Int) (g0:0≤sh) (g1:sh≤255) (gb:rS b) (g_bb:rS bb):CC (c6 sh b bb):=by
 have hc:=Ma g0 g1 gb
 have hpt:L6 (aa sh b):=Pn
 have hin_bb:=Po g0 g1 gb g_bb
 have hz_bb:=NP hin_bb hc
 have hst:=DQ hc hin_bb NR
 have hns:=BB hc hin_bb
 have hcl0:=hc.cl
 have hnl0:=hc.nl
 refine ah.vc (V:=TT 2 (CC c7∧TT 4 (CC (c9 sh b)∧TT 4 (CC (QR (aa sh b) bb)∧TT 2 (CC (OM (aa sh b))∧TT 4 (CC (O9 (aa sh b) (du (aa sh b)))∧TT 1 ((!(cy (aa sh b) (du (aa sh b))))=false∧TT 1 (GO (jC sh b bb) (0,du (aa sh b)) (∀i v,(jC sh b bb).inv (i,v)→TT 4 (CD ((i:Int)<(((aA (aa sh b) bb).length:Nat):Int)) (TT 2 (IX (i:Int) ((aA (aa sh b) bb).length)∧TT 3 (CD (((((aA (aa sh b) bb).getD i []).length:Nat):Int)=0) (TT 1 (W6 ((i+1:Nat):Int)∧TT 1 (AG (jC sh b bb) (i,v) (i+1,v)))) (TT 5 (IX (i:Int) ((aA (aa sh b) bb).length)∧TT 1 (CC (Qt (aa sh b) v (i:Int) ((aA (aa sh b) bb).getD i []))∧TT 8 ((True∧(!decide (((dW (aa sh b) v (i:Int) ((aA (aa sh b) bb).getD i [])).2)=0))=false)∧TT 2 (CC (O9 (aa sh b) ((dW (aa sh b) v (i:Int) ((aA (aa sh b) bb).getD i [])).1))∧TT 2 ((!(cy (aa sh b) ((dW (aa sh b) v (i:Int) ((aA (aa sh b) bb).getD i [])).1)))=false∧TT 3 (W6 ((i+1:Nat):Int)∧TT 1 (AG (jC sh b bb) (i,v) (i+1,(dW (aa sh b) v (i:Int) ((aA (aa sh b) bb).getD i [])).1)))))))))))) (TT 1 ((True∧(v.procs.map bN=((dg (aa sh b) (aA (aa sh b) bb)).procs).map bN∧v.chans.map ac=((dg (aa sh b) (aA (aa sh b) bb)).chans).map ac∧True))∧CC (Qu (aa sh b) (dg (aa sh b) (aA (aa sh b) bb)) 99)∧TT 10 ((xi [] [(.agg [(dL 6 hU af ((aa sh b).procs)),(dL 5 gK a6 ((aa sh b).chans))]),(.agg [(dL 1 ac [] (aA (aa sh b) bb)),(i6 100),.nils])] (BW (aa sh b) (aA (aa sh b) bb) 100 []).as∧CC (BW (aa sh b) (aA (aa sh b) bb) 100 []))∧TT 5 ((True∧(!decide (((bB (aa sh b) (aA (aa sh b) bb) 100).e)=0))=false)∧TT 3 (CC (QT ((bo (aa sh b) (dg (aa sh b) (aA (aa sh b) bb)) 99).2.1) ((bB (aa sh b) (aA (aa sh b) bb) 100).c))∧TT 2 ((True∧(!(uL ((bo (aa sh b) (dg (aa sh b) (aA (aa sh b) bb)) 99).2.1) ((bB (aa sh b) (aA (aa sh b) bb) 100).c)))=false)∧TT 8 ((True∧(!decide (((((bB (aa sh b) (aA (aa sh b) bb) 100).l).length:Nat):Int)=((((aa sh b).chans).length:Nat):Int)))=false)∧TT 8 ((!decide ((((((bo (aa sh b) (dg (aa sh b) (aA (aa sh b) bb)) 99).1).chans).length:Nat):Int)=((((aa sh b).chans).length:Nat):Int)))=false∧TT 4 (GO (dQ sh b bb) (0,(((bo (aa sh b) (dg (aa sh b) (aA (aa sh b) bb)) 99).2.2) != 0)) (∀i fu,(dQ sh b bb).inv (i,fu)→TT 5 (CD ((i:Int)<((((aa sh b).chans).length:Nat):Int)) (CS (fu=true) (TT 1 ((True∧fu=true)∧TT 2 (CS (((((aa sh b).chans).getD i a6).dst)=(-1)) (TT 3 (IX (i:Int) (((aa sh b).chans).length)∧TT 3 ((True∧(decide (((((aa sh b).chans).getD i a6).dst)=(-1)))=true)∧TT 3 (IX (i:Int) ((((bo (aa sh b) (dg (aa sh b) (aA (aa sh b) bb)) 99).1).chans).length)∧TT 1 (ap [[(LI ((((bo (aa sh b) (dg (aa sh b) (aA (aa sh b) bb)) 99).1).chans).getD i []))]] ([((((bo (aa sh b) (dg (aa sh b) (aA (aa sh b) bb)) 99).1).chans).getD i [])].map ac)∧TT 3 (IX (i:Int) (((bB (aa sh b) (aA (aa sh b) bb) 100).l).length)∧TT 1 (ap [[(LI (((bB (aa sh b) (aA (aa sh b) bb) 100).l).getD i []))]] ([(((bB (aa sh b) (aA (aa sh b) bb) 100).l).getD i [])].map ac)∧CC (Jl [((((bo (aa sh b) (dg (aa sh b) (aA (aa sh b) bb)) 99).1).chans).getD i [])] [(((bB (aa sh b) (aA (aa sh b) bb) 100).l).getD i [])])∧TT 2 ((!(eK [((((bo (aa sh b) (dg (aa sh b) (aA (aa sh b) bb)) 99).1).chans).getD i [])] [(((bB (aa sh b) (aA (aa sh b) bb) 100).l).getD i [])]))=false∧TT 1 (W6 ((i+1:Nat):Int)∧TT 1 (AG (dQ sh b bb) (i,fu) (i+1,true))))))))))) (TT 3 (IX (i:Int) (((aa sh b).chans).length)∧TT 3 ((True∧(decide (((((aa sh b).chans).getD i a6).dst)=(-1)))=false)∧TT 2 (W6 ((i+1:Nat):Int)∧TT 1 (AG (dQ sh b bb) (i,fu) (i+1,true))))))))) (CS (((((aa sh b).chans).getD i a6).cap)>0) (TT 1 ((True∧fu=false)∧TT 3 (IX (i:Int) (((aa sh b).chans).length)∧TT 3 ((True∧(decide (((((aa sh b).chans).getD i a6).cap)>0))=true)∧TT 3 (IX (i:Int) ((((bo (aa sh b) (dg (aa sh b) (aA (aa sh b) bb)) 99).1).chans).length)∧TT 5 (IX (i:Int) (((aa sh b).chans).length)∧TT 6 (CS (((((aa sh b).chans).getD i a6).dst)=(-1)) (TT 3 (IX (i:Int) (((aa sh b).chans).length)∧TT 3 ((True∧(decide (((((aa sh b).chans).getD i a6).dst)=(-1)))=true)∧TT 3 (IX (i:Int) ((((bo (aa sh b) (dg (aa sh b) (aA (aa sh b) bb)) 99).1).chans).length)∧TT 1 (ap [[(LI ((((bo (aa sh b) (dg (aa sh b) (aA (aa sh b) bb)) 99).1).chans).getD i []))]] ([((((bo (aa sh b) (dg (aa sh b) (aA (aa sh b) bb)) 99).1).chans).getD i [])].map ac)∧TT 3 (IX (i:Int) (((bB (aa sh b) (aA (aa sh b) bb) 100).l).length)∧TT 1 (ap [[(LI (((bB (aa sh b) (aA (aa sh b) bb) 100).l).getD i []))]] ([(((bB (aa sh b) (aA (aa sh b) bb) 100).l).getD i [])].map ac)∧CC (Jl [((((bo (aa sh b) (dg (aa sh b) (aA (aa sh b) bb)) 99).1).chans).getD i [])] [(((bB (aa sh b) (aA (aa sh b) bb) 100).l).getD i [])])∧TT 2 ((!(eK [((((bo (aa sh b) (dg (aa sh b) (aA (aa sh b) bb)) 99).1).chans).getD i [])] [(((bB (aa sh b) (aA (aa sh b) bb) 100).l).getD i [])]))=false∧TT 1 (W6 ((i+1:Nat):Int)∧TT 1 (AG (dQ sh b bb) (i,fu) (i+1,(decide (((((((bo (aa sh b) (dg (aa sh b) (aA (aa sh b) bb)) 99).1).chans).getD i []).length:Nat):Int)≥((((aa sh b).chans).getD i a6).cap)))))))))))))) (TT 3 (IX (i:Int) (((aa sh b).chans).length)∧TT 3 ((True∧(decide (((((aa sh b).chans).getD i a6).dst)=(-1)))=false)∧TT 2 (W6 ((i+1:Nat):Int)∧TT 1 (AG (dQ sh b bb) (i,fu) (i+1,(decide (((((((bo (aa sh b) (dg (aa sh b) (aA (aa sh b) bb)) 99).1).chans).getD i []).length:Nat):Int)≥((((aa sh b).chans).getD i a6).cap)))))))))))))))) (TT 1 ((True∧fu=false)∧TT 3 (IX (i:Int) (((aa sh b).chans).length)∧TT 3 ((True∧(decide (((((aa sh b).chans).getD i a6).cap)>0))=false)∧TT 3 (CS (((((aa sh b).chans).getD i a6).dst)=(-1)) (TT 3 (IX (i:Int) (((aa sh b).chans).length)∧TT 3 ((True∧(decide (((((aa sh b).chans).getD i a6).dst)=(-1)))=true)∧TT 3 (IX (i:Int) ((((bo (aa sh b) (dg (aa sh b) (aA (aa sh b) bb)) 99).1).chans).length)∧TT 1 (ap [[(LI ((((bo (aa sh b) (dg (aa sh b) (aA (aa sh b) bb)) 99).1).chans).getD i []))]] ([((((bo (aa sh b) (dg (aa sh b) (aA (aa sh b) bb)) 99).1).chans).getD i [])].map ac)∧TT 3 (IX (i:Int) (((bB (aa sh b) (aA (aa sh b) bb) 100).l).length)∧TT 1 (ap [[(LI (((bB (aa sh b) (aA (aa sh b) bb) 100).l).getD i []))]] ([(((bB (aa sh b) (aA (aa sh b) bb) 100).l).getD i [])].map ac)∧CC (Jl [((((bo (aa sh b) (dg (aa sh b) (aA (aa sh b) bb)) 99).1).chans).getD i [])] [(((bB (aa sh b) (aA (aa sh b) bb) 100).l).getD i [])])∧TT 2 ((!(eK [((((bo (aa sh b) (dg (aa sh b) (aA (aa sh b) bb)) 99).1).chans).getD i [])] [(((bB (aa sh b) (aA (aa sh b) bb) 100).l).getD i [])]))=false∧TT 1 (W6 ((i+1:Nat):Int)∧TT 1 (AG (dQ sh b bb) (i,fu) (i+1,false))))))))))) (TT 3 (IX (i:Int) (((aa sh b).chans).length)∧TT 3 ((True∧(decide (((((aa sh b).chans).getD i a6).dst)=(-1)))=false)∧TT 2 (W6 ((i+1:Nat):Int)∧TT 1 (AG (dQ sh b bb) (i,fu) (i+1,false))))))))))))) (TT 1 (CB (fu) (TT 3 (true=true∧True)) (TT 1 (GO (jD sh b bb) 0 (∀k,(jD sh b bb).inv k→TT 5 (CD ((k:Int)<((((aa sh b).chans).length:Nat):Int)) (CS (((((aa sh b).chans).getD k a6).dst)=(-1)) (TT 3 (IX (k:Int) (((aa sh b).chans).length)∧TT 3 ((True∧(decide (((((aa sh b).chans).getD k a6).dst)=(-1)))=true)∧TT 3 (IX (k:Int) ((((bo (aa sh b) (dg (aa sh b) (aA (aa sh b) bb)) 99).1).chans).length)∧TT 5 (IX (k:Int) (((bB (aa sh b) (aA (aa sh b) bb) 100).l).length)∧TT 4 ((!decide (((((((bo (aa sh b) (dg (aa sh b) (aA (aa sh b) bb)) 99).1).chans).getD k []).length:Nat):Int)=(((((bB (aa sh b) (aA (aa sh b) bb) 100).l).getD k []).length:Nat):Int)))=false∧TT 1 (W6 ((k+1:Nat):Int)∧TT 1 (AG (jD sh b bb) k (k+1))))))))) (TT 3 (IX (k:Int) (((aa sh b).chans).length)∧TT 3 ((True∧(decide (((((aa sh b).chans).getD k a6).dst)=(-1)))=false)∧TT 2 (W6 ((k+1:Nat):Int)∧TT 1 (AG (jD sh b bb) k (k+1))))))) (TT 3 (CC (JP ((bo (aa sh b) (dg (aa sh b) (aA (aa sh b) bb)) 99).2.1) ((bB (aa sh b) (aA (aa sh b) bb) 100).c))∧(True∧(decide (((bo (aa sh b) (dg (aa sh b) (aA (aa sh b) bb)) 99).2.1)=((bB (aa sh b) (aA (aa sh b) bb) 100).c)))=true)∧TT 4 (true=true∧True)))))))))))))))))))))))))))))) (.w 1 [(0,c7.O)]<|.w 4 [(1,(c9 sh b).O)]<|.w 5 [(2,(QR (aa sh b) bb).O)]<|.w 6 [(1,(OM (aa sh b)).O)]<|.w 7 [(2,(O9 (aa sh b) (du (aa sh b))).O)]<|.u 31 (.l (jC sh b bb) (0,du (aa sh b)) (fun ⟨i,v⟩=>.b 35 (.b 43 (.w 11 [(1,.val (i6 ((i+1:Nat):Int)))]<|.e) (.w 13 [(7,(Qt (aa sh b) v (i:Int) ((aA (aa sh b) bb).getD i [])).O),(12,.val .junk)]<|.w 14 [(2,.val (dB false)),(5,(O9 (aa sh b) ((dW (aa sh b) v (i:Int) ((aA (aa sh b) bb).getD i [])).1)).O)]<|.u 62 (.w 11 [(1,.val (i6 ((i+1:Nat):Int)))]<|.e))) (.w 17 [(1,.val (.agg [(dL 2 bN bI ((dg (aa sh b) (aA (aa sh b) bb)).procs)),(dL 1 ac [] ((dg (aa sh b) (aA (aa sh b) bb)).chans))])),(2,(Qu (aa sh b) (dg (aa sh b) (aA (aa sh b) bb)) 99).O)]<|.w 18 [(3,(BW (aa sh b) (aA (aa sh b) bb) 100 []).O')]<|.w 19 [(3,.val (dB false)),(7,(QT ((bo (aa sh b) (dg (aa sh b) (aA (aa sh b) bb)) 99).2.1) ((bB (aa sh b) (aA (aa sh b) bb) 100).c)).O),(10,.val (dB false)),(19,.val (dB false))]<|.u 102 (.l (dQ sh b bb) (0,(((bo (aa sh b) (dg (aa sh b) (aA (aa sh b) bb)) 99).2.2) != 0)) (fun ⟨i,fu⟩=>.b 109 (.s 25 (fu=true) (.w 25 [(1,.val (dB true))]<|.s 26 (((((aa sh b).chans).getD i a6).dst)=(-1)) (.w 26 [(7,.val (dB true)),(13,.box 42 1 ac [] [((((bo (aa sh b) (dg (aa sh b) (aA (aa sh b) bb)) 99).1).chans).getD i [])]),(19,.box 42 1 ac [] [(((bB (aa sh b) (aA (aa sh b) bb) 100).l).getD i [])]),(20,(Jl [((((bo (aa sh b) (dg (aa sh b) (aA (aa sh b) bb)) 99).1).chans).getD i [])] [(((bB (aa sh b) (aA (aa sh b) bb) 100).l).getD i [])]).O)]<|.u 159 (.w 24 [(1,.val (i6 ((i+1:Nat):Int)))]<|.e)) (.w 26 [(7,.val (dB false))]<|.w 24 [(1,.val (i6 ((i+1:Nat):Int)))]<|.e)) (.s 25 (((((aa sh b).chans).getD i a6).cap)>0) (.w 25 [(1,.val (dB false)),(9,.val (dB true))]<|.s 26 (((((aa sh b).chans).getD i a6).dst)=(-1)) (.w 26 [(7,.val (dB true)),(13,.box 42 1 ac [] [((((bo (aa sh b) (dg (aa sh b) (aA (aa sh b) bb)) 99).1).chans).getD i [])]),(19,.box 42 1 ac [] [(((bB (aa sh b) (aA (aa sh b) bb) 100).l).getD i [])]),(20,(Jl [((((bo (aa sh b) (dg (aa sh b) (aA (aa sh b) bb)) 99).1).chans).getD i [])] [(((bB (aa sh b) (aA (aa sh b) bb) 100).l).getD i [])]).O)]<|.u 159 (.w 24 [(1,.val (i6 ((i+1:Nat):Int)))]<|.e)) (.w 26 [(7,.val (dB false))]<|.w 24 [(1,.val (i6 ((i+1:Nat):Int)))]<|.e)) (.w 25 [(1,.val (dB false)),(9,.val (dB false))]<|.s 26 (((((aa sh b).chans).getD i a6).dst)=(-1)) (.w 26 [(7,.val (dB true)),(13,.box 42 1 ac [] [((((bo (aa sh b) (dg (aa sh b) (aA (aa sh b) bb)) 99).1).chans).getD i [])]),(19,.box 42 1 ac [] [(((bB (aa sh b) (aA (aa sh b) bb) 100).l).getD i [])]),(20,(Jl [((((bo (aa sh b) (dg (aa sh b) (aA (aa sh b) bb)) 99).1).chans).getD i [])] [(((bB (aa sh b) (aA (aa sh b) bb) 100).l).getD i [])]).O)]<|.u 159 (.w 24 [(1,.val (i6 ((i+1:Nat):Int)))]<|.e)) (.w 26 [(7,.val (dB false))]<|.w 24 [(1,.val (i6 ((i+1:Nat):Int)))]<|.e)))) (.b 160 (.e) (.l (jD sh b bb) 0 (fun k=>.b 166 (.s 33 (((((aa sh b).chans).getD k a6).dst)=(-1)) (.w 33 [(7,.val (dB true))]<|.u 190 (.w 32 [(1,.val (i6 ((k+1:Nat):Int)))]<|.e)) (.w 33 [(7,.val (dB false))]<|.w 32 [(1,.val (i6 ((k+1:Nat):Int)))]<|.e)) (.w 35 [(3,(JP ((bo (aa sh b) (dg (aa sh b) (aA (aa sh b) bb)) 99).2.1) ((bB (aa sh b) (aA (aa sh b) bb) 100).c)).O),(4,.val (dB true))]<|.e)))))))))) Tryz.func6 rfl rfl rfl (by kernel_rfl) ?_
 refine tt ⟨(NL),tt ⟨(Lq sh b g0 g1 gb),tt ⟨(GM (aa sh b) bb hc g_bb),tt ⟨(yv (aa sh b) hc),tt ⟨(w9 (aa sh b) (du (aa sh b)) hc (fun n=>Nat.le_trans (DP hin_bb (i:=0) (by omega) n) (by decide))),tt ⟨(Ky (wz.2 (DN (i:=0) hc hin_bb (Nat.zero_le _)))),tt ⟨rfl,⟨by omega,rfl⟩,?_⟩⟩⟩⟩⟩⟩⟩
 intro i v hinv
 obtain⟨hi,hv⟩:=hinv
 have hvn:fa (aa sh b) v:=by rw[hv];exact DN hc hin_bb (by omega)
 have hvs:∀n,(lU v n).length≤1000:=by rw[hv];exact DP hin_bb (by omega)
 have hil:=hin_bb.l
 refine tt (cd (fun hc35=>?_) (fun hc35=>?_))
 · refine tt ⟨ix,tt (cd (fun hc43=>?_) (fun hc43=>?_))⟩
   · refine tt ⟨w6,tt ⟨(i+1,v),rfl,?_,(?_:(aa sh b).chans.length-(i+1)<(aa sh b).chans.length-i)⟩⟩
     · exact⟨by omega,by rw[hv];exact JR (by omega) (by omega)⟩
     · omega
   · have hfe:=JS hin_bb (show i<(aa sh b).chans.length by omega) (by omega)
     refine tt ⟨ix,tt ⟨(IU (aa sh b) v (i:Int) ((aA (aa sh b) bb).getD i []) hc hvn (fun n=>Nat.le_trans (hvs n) (by decide)) (Nat.le_trans (hin_bb.sm i) (by decide))),?_⟩⟩
     have hfn:=DN hc hin_bb (show i+1≤(aa sh b).chans.length by omega)
     have hfs:=DP hin_bb (show i+1≤(aa sh b).chans.length by omega)
     rw[← hv]at hfe
     refine tt ⟨(nF (by rw[hfe])),tt ⟨(w9 (aa sh b) ((dW (aa sh b) v (i:Int) ((aA (aa sh b) bb).getD i [])).1) hc (by rw[hfe];exact fun n=>Nat.le_trans (hfs n) (by decide))),tt ⟨(Ky (by rw[hfe];exact wz.2 hfn)),tt ⟨w6,tt ⟨(i+1,(dW (aa sh b) v (i:Int) ((aA (aa sh b) bb).getD i [])).1),rfl,?_,(?_:(aa sh b).chans.length-(i+1)<(aa sh b).chans.length-i)⟩⟩⟩⟩⟩
     · exact⟨by omega,by rw[hfe]⟩
     · omega
 · have hve:v=dg (aa sh b) (aA (aa sh b) bb):=by rw[hv,show i=(aa sh b).chans.length by omega];exact Lx hin_bb
   refine tt ⟨⟨oK,(by rw[hve];exact⟨rfl,rfl,oK⟩)⟩,⟨(Dn (aa sh b) (dg (aa sh b) (aA (aa sh b) bb)) 99 hc hns (fun n=>Nat.le_trans (hin_bb.sm n) (by decide)) (by decide) (by decide)),tt ⟨⟨⟨⟨rfl,rfl,oK⟩,⟨rfl,rfl,rfl,oK⟩,oK⟩,(sM (aa sh b) (aA (aa sh b) bb) 100 [] hc hpt hz_bb.1 hz_bb.2)⟩,tt ⟨(nF hst.e),tt ⟨(Lu ((bo (aa sh b) (dg (aa sh b) (aA (aa sh b) bb)) 99).2.1) ((bB (aa sh b) (aA (aa sh b) bb) 100).c) hst.cl),tt ⟨(mF hst.atm),tt ⟨(nF (congrArg Int.ofNat hst.ll)),tt ⟨(PM (congrArg Int.ofNat hst.sl)),tt ⟨rfl,⟨by omega,fun hf=>⟨by simpa using hf,fun q hq=>by omega⟩⟩,?_⟩⟩⟩⟩⟩⟩⟩⟩⟩
   intro i fu hinv
   obtain⟨hi,hfu⟩:=hinv
   have hsl:=hst.sl
   have hll:=hst.ll
   have hsw:=hst.sw i
   have hp1:=hst.pre i
   refine tt (cd (fun hc109=>?_) (fun hc109=>?_))
   · refine⟨fun hs0=>?_,fun hs0=>?_⟩
     · refine tt ⟨(bT hs0),tt ⟨fun hs1=>?_,fun hs1=>?_⟩⟩
       · refine tt ⟨ix,tt ⟨(vT hs1),tt ⟨ix,tt ⟨⟨⟨rfl,oK⟩,oK⟩,tt ⟨ix,tt ⟨⟨⟨rfl,oK⟩,oK⟩,⟨(sB [((((bo (aa sh b) (dg (aa sh b) (aA (aa sh b) bb)) 99).1).chans).getD i [])] [(((bB (aa sh b) (aA (aa sh b) bb) 100).l).getD i [])] (by simp) (fun z=>by cases z with | zero=>exact hsw | succ z=>simp)),tt ⟨(Ky (hst.pre i (by omega) (by assumption))),tt ⟨w6,tt ⟨(i+1,true),rfl,?_,(?_:(aa sh b).chans.length-(i+1)<(aa sh b).chans.length-i)⟩⟩⟩⟩⟩⟩⟩⟩⟩⟩
         · refine⟨by omega,fun hf=>?_⟩
           first
             | exact absurd hf (by decide)
             | (obtain⟨hf1,hf2⟩:=hfu (by simpa using hs0);exact⟨hf1,bD hf2 (fun hx=>by first | omega | (have hf3:=of_decide_eq_false hf;omega))⟩)
         · omega
       · refine tt ⟨ix,tt ⟨(vF hs1),tt ⟨w6,tt ⟨(i+1,true),rfl,?_,(?_:(aa sh b).chans.length-(i+1)<(aa sh b).chans.length-i)⟩⟩⟩⟩
         · refine⟨by omega,fun hf=>?_⟩
           first
             | exact absurd hf (by decide)
             | (obtain⟨hf1,hf2⟩:=hfu (by simpa using hs0);exact⟨hf1,bD hf2 (fun hx=>by first | omega | (have hf3:=of_decide_eq_false hf;omega))⟩)
         · omega
     · refine⟨fun hs2=>?_,fun hs2=>?_⟩
       · refine tt ⟨(bF hs0),tt ⟨ix,tt ⟨(vT hs2),tt ⟨ix,tt ⟨ix,tt ⟨fun hs3=>?_,fun hs3=>?_⟩⟩⟩⟩⟩⟩
         · refine tt ⟨ix,tt ⟨(vT hs3),tt ⟨ix,tt ⟨⟨⟨rfl,oK⟩,oK⟩,tt ⟨ix,tt ⟨⟨⟨rfl,oK⟩,oK⟩,⟨(sB [((((bo (aa sh b) (dg (aa sh b) (aA (aa sh b) bb)) 99).1).chans).getD i [])] [(((bB (aa sh b) (aA (aa sh b) bb) 100).l).getD i [])] (by simp) (fun z=>by cases z with | zero=>exact hsw | succ z=>simp)),tt ⟨(Ky (hst.pre i (by omega) (by assumption))),tt ⟨w6,tt ⟨(i+1,(decide (((((((bo (aa sh b) (dg (aa sh b) (aA (aa sh b) bb)) 99).1).chans).getD i []).length:Nat):Int)≥((((aa sh b).chans).getD i a6).cap)))),rfl,?_,(?_:(aa sh b).chans.length-(i+1)<(aa sh b).chans.length-i)⟩⟩⟩⟩⟩⟩⟩⟩⟩⟩
           · refine⟨by omega,fun hf=>?_⟩
             first
               | exact absurd hf (by decide)
               | (obtain⟨hf1,hf2⟩:=hfu (by simpa using hs0);exact⟨hf1,bD hf2 (fun hx=>by first | omega | (have hf3:=of_decide_eq_false hf;omega))⟩)
           · omega
         · refine tt ⟨ix,tt ⟨(vF hs3),tt ⟨w6,tt ⟨(i+1,(decide (((((((bo (aa sh b) (dg (aa sh b) (aA (aa sh b) bb)) 99).1).chans).getD i []).length:Nat):Int)≥((((aa sh b).chans).getD i a6).cap)))),rfl,?_,(?_:(aa sh b).chans.length-(i+1)<(aa sh b).chans.length-i)⟩⟩⟩⟩
           · refine⟨by omega,fun hf=>?_⟩
             first
               | exact absurd hf (by decide)
               | (obtain⟨hf1,hf2⟩:=hfu (by simpa using hs0);exact⟨hf1,bD hf2 (fun hx=>by first | omega | (have hf3:=of_decide_eq_false hf;omega))⟩)
           · omega
       · refine tt ⟨(bF hs0),tt ⟨ix,tt ⟨(vF hs2),tt ⟨fun hs4=>?_,fun hs4=>?_⟩⟩⟩⟩
         · refine tt ⟨ix,tt ⟨(vT hs4),tt ⟨ix,tt ⟨⟨⟨rfl,oK⟩,oK⟩,tt ⟨ix,tt ⟨⟨⟨rfl,oK⟩,oK⟩,⟨(sB [((((bo (aa sh b) (dg (aa sh b) (aA (aa sh b) bb)) 99).1).chans).getD i [])] [(((bB (aa sh b) (aA (aa sh b) bb) 100).l).getD i [])] (by simp) (fun z=>by cases z with | zero=>exact hsw | succ z=>simp)),tt ⟨(Ky (hst.pre i (by omega) (by assumption))),tt ⟨w6,tt ⟨(i+1,false),rfl,?_,(?_:(aa sh b).chans.length-(i+1)<(aa sh b).chans.length-i)⟩⟩⟩⟩⟩⟩⟩⟩⟩⟩
           · refine⟨by omega,fun hf=>?_⟩
             first
               | exact absurd hf (by decide)
               | (obtain⟨hf1,hf2⟩:=hfu (by simpa using hs0);exact⟨hf1,bD hf2 (fun hx=>by first | omega | (have hf3:=of_decide_eq_false hf;omega))⟩)
           · omega
         · refine tt ⟨ix,tt ⟨(vF hs4),tt ⟨w6,tt ⟨(i+1,false),rfl,?_,(?_:(aa sh b).chans.length-(i+1)<(aa sh b).chans.length-i)⟩⟩⟩⟩
           · refine⟨by omega,fun hf=>?_⟩
             first
               | exact absurd hf (by decide)
               | (obtain⟨hf1,hf2⟩:=hfu (by simpa using hs0);exact⟨hf1,bD hf2 (fun hx=>by first | omega | (have hf3:=of_decide_eq_false hf;omega))⟩)
           · omega
   · refine tt ⟨fun hc160=>?_,fun hc160=>?_⟩
     · exact tt ⟨rfl,oK⟩
     · obtain⟨hf1,hf2⟩:=hfu (by simpa using hc160)
       have hlaw:=hst.len hf1 (fun q hq=>hf2 q (by omega))
       refine tt ⟨rfl,(by omega),?_⟩
       intro k hinv
       have hk:=hinv
       have hsl:=hst.sl
       have hll:=hst.ll
       have hlk:=hlaw.1 k
       refine tt (cd (fun hc166=>?_) (fun hc166=>?_))
       · refine⟨fun hs5=>?_,fun hs5=>?_⟩
         · refine tt ⟨ix,tt ⟨(vT hs5),tt ⟨ix,tt ⟨ix,tt ⟨(PM (congrArg Int.ofNat (hlaw.1 k (by omega) (by assumption)))),tt ⟨w6,tt ⟨(k+1),rfl,(?_:(k+1)≤(aa sh b).chans.length),(?_:(aa sh b).chans.length-(k+1)<(aa sh b).chans.length-k)⟩⟩⟩⟩⟩⟩⟩
           · omega
           · omega
         · refine tt ⟨ix,tt ⟨(vF hs5),tt ⟨w6,tt ⟨(k+1),rfl,(?_:(k+1)≤(aa sh b).chans.length),(?_:(aa sh b).chans.length-(k+1)<(aa sh b).chans.length-k)⟩⟩⟩⟩
           · omega
           · omega
       · exact tt ⟨(BT ((bo (aa sh b) (dg (aa sh b) (aA (aa sh b) bb)) 99).2.1) ((bB (aa sh b) (aA (aa sh b) bb) 100).c) hst.cl),⟨(vT hlaw.2),tt ⟨rfl,oK⟩⟩⟩
end Go.Proofs.YtckgpflobhpnpaaGreat
