/- Parts of a proof. -/
import Derived.Test.YtckgpflobhpnpaaGreatQSuD
namespace Go.Proofs.YtckgpflobhpnpaaGreat
open Go.RowKit
set_option linter.unusedVariables false
set_option linter.unusedSimpArgs false
abbrev B8:D:=(.agg [(dL 6 fS ac aK.U),(dL 5 ga bK aK.J)])
abbrev B9 (c:Ci):List D:=[(dL 6 fS ac c.U),(dL 5 ga bK c.J)]
abbrev tV (i:Nat):D:=(i6 ((i+1:Nat):Int))
set_option maxRecDepth 100000
abbrev QU (a b:List Int):Ct:=⟨50,[(LI a),(LI b)],false,(dB (tg a b))⟩
abbrev u4 (a:List Int) (b:List Int):Lp (Nat):=io [0,1,5] 0 (fun (i:Nat)=>⟨[(0,(LI a)),(1,(LI b)),(5,(i6 (i:Int)))],[]⟩) (fun (i:Nat)=>i≤a.length∧i≤b.length∧∀j,j<i→a.getD j 0=b.getD j 0) (fun (i:Nat)=>a.length-i)
theorem Lq (a b:List Int) (ha:a.length≤9223372036854775807):CC (QU a b):=by
 refine ah.vc (V:=TT 2 (GO (u4 a b) 0 (∀i,(u4 a b).inv i→TT 4 (CD ((i:Int)<(a.length:Int)) (CS ((i:Int)≥(b.length:Int)) (TT 4 ((True∧(decide ((i:Int)≥(b.length:Int)))=true)∧TT 3 (false=(tg a b)∧True))) (TT 4 ((True∧(decide ((i:Int)≥(b.length:Int)))=false)∧TT 2 (IX (i:Int) a.length∧TT 3 (IX (i:Int) b.length∧TT 3 (CN ((a.getD i 0)=(b.getD i 0)) (TT 2 (false=(tg a b)∧True)) (TT 1 (W6 ((i+1:Nat):Int)∧TT 1 (AG (u4 a b) i (i+1)))))))))) (TT 2 (true=(tg a b)∧True)))))) (.l (u4 a b) 0 (fun i=>.b 9 (.s 4 ((i:Int)≥(b.length:Int)) (.w 4 [(4,.val (dB true))]<|.e) (.w 4 [(4,.val (dB false))]<|.b 26 (.e) (.w 3 [(1,.val (tV i))]<|.e))) (.e))) Tryz.func50 rfl rfl rfl (by kernel_rfl) ?_
 refine tt ⟨rfl,⟨by omega,by omega,fun j hj=>by omega⟩,?_⟩
 intro i I'
 obtain⟨hi,Yb,h3⟩:=I'
 refine tt (cd (fun Yw=>?_) (fun Yw=>?_))
 · refine⟨fun T7=>?_,fun T7=>?_⟩
   · refine tt ⟨(vT T7),tt ⟨?_,oK⟩⟩
     first | exact(o8 (i:=i) (by omega) Yb h3 (fun q=>by omega)).symm | exact(o8 (i:=i) (by omega) Yb h3 (fun q=>by simp_all)).symm | exact(Aj (by omega) (fun j hj=>h3 j (by omega))).symm
   · refine tt ⟨(vF T7),tt ⟨ix,tt ⟨ix,tt (cn (fun Wh=>?_) (fun Wh=>?_))⟩⟩⟩
     · refine tt ⟨?_,oK⟩
       first | exact(o8 (i:=i) (by omega) Yb h3 (fun q=>by omega)).symm | exact(o8 (i:=i) (by omega) Yb h3 (fun q=>by simp_all)).symm | exact(Aj (by omega) (fun j hj=>h3 j (by omega))).symm
     · refine tt ⟨w6,tt ⟨(i+1),rfl,?_,(?_:a.length-(i+1)<a.length-i)⟩⟩
       · exact⟨by omega,by omega,di h3 (by simpa using Wh)⟩
       · omega
 · refine tt ⟨?_,oK⟩
   first | exact(o8 (i:=i) (by omega) Yb h3 (fun q=>by omega)).symm | exact(o8 (i:=i) (by omega) Yb h3 (fun q=>by simp_all)).symm | exact(Aj (by omega) (fun j hj=>h3 j (by omega))).symm
abbrev Lr (a b:List (List Int)):Ct:=⟨18,[(dL 1 aa [] a),(dL 1 aa [] b)],false,(dB (e9 a b))⟩
abbrev u5 (a:List (List Int)) (b:List (List Int)):Lp (Nat):=io [0,1,5] 0 (fun (i:Nat)=>⟨[(0,(dL 1 aa [] a)),(1,(dL 1 aa [] b)),(5,(i6 (i:Int)))],[]⟩) (fun (i:Nat)=>i≤a.length∧∀q,q<i→(!decide (dA (a.getD q []) (b.getD q [])<(a.getD q []).length))=true) (fun (i:Nat)=>a.length-i)
theorem u6 (a b:List (List Int)) (ha:a.length≤9223372036854775807) (YE:∀i,(a.getD i []).length≤9223372036854775807):CC (Lr a b):=by
 refine ah.vc (V:=TT 6 (CN ((a.length:Int)=(b.length:Int)) (TT 2 (false=(e9 a b)∧True)) (TT 1 (GO (u5 a b) 0 (∀i,(u5 a b).inv i→TT 4 (CD ((i:Int)<(a.length:Int)) (TT 2 (IX (i:Int) a.length∧TT 3 (IX (i:Int) b.length∧TT 1 (CC (QU (a.getD i []) (b.getD i []))∧TT 1 (CB (!(tg (a.getD i []) (b.getD i []))) (TT 2 (false=(e9 a b)∧True)) (TT 1 (W6 ((i+1:Nat):Int)∧TT 1 (AG (u5 a b) i (i+1))))))))) (TT 2 (true=(e9 a b)∧True)))))))) (.b 10 (.e) (.l (u5 a b) 0 (fun i=>.b 14 (.w 6 [(8,(QU (a.getD i []) (b.getD i [])).O)]<|.b 26 (.e) (.w 5 [(1,.val (tV i))]<|.e)) (.e)))) Tryz.func18 rfl rfl rfl (by kernel_rfl) ?_
 refine tt (cn (fun X1=>?_) (fun X1=>?_))
 · refine tt ⟨?_,oK⟩
   first | exact(oW (by omega)).symm | exact(oX (i:=i) (by omega) (by unfold tg at Wh;simpa using Wh)).symm | exact(oY (by omega) (fun q hq=>h3 q (by omega))).symm
 · refine tt ⟨rfl,⟨by omega,fun q hq=>by omega⟩,?_⟩
   intro i I'
   obtain⟨hi,h3⟩:=I'
   refine tt (cd (fun VT=>?_) (fun VT=>?_))
   · refine tt ⟨ix,tt ⟨ix,tt ⟨(Lq (a.getD i []) (b.getD i []) (YE i)),tt ⟨fun Wh=>?_,fun Wh=>?_⟩⟩⟩⟩
     · refine tt ⟨?_,oK⟩
       first | exact(oW (by omega)).symm | exact(oX (i:=i) (by omega) (by unfold tg at Wh;simpa using Wh)).symm | exact(oY (by omega) (fun q hq=>h3 q (by omega))).symm
     · refine tt ⟨w6,tt ⟨(i+1),rfl,?_,(?_:a.length-(i+1)<a.length-i)⟩⟩
       · exact⟨by omega,di h3 (show tg (a.getD i []) (b.getD i [])=true by simpa using Wh)⟩
       · omega
   · refine tt ⟨?_,oK⟩
     first | exact(oW (by omega)).symm | exact(oX (i:=i) (by omega) (by unfold tg at Wh;simpa using Wh)).symm | exact(oY (by omega) (fun q hq=>h3 q (by omega))).symm
abbrev Pe (a b:List (List Int)):Ct:=⟨38,[(dL 1 aa [] a),(dL 1 aa [] b)],false,(dB (qw a b))⟩
theorem FO (a b:List (List Int)) (ha:a.length≤9223372036854775807) (YE:∀i,(a.getD i []).length≤9223372036854775807) (hb:b.length≤9223372036854775807) (hsb:∀i,(b.getD i []).length≤9223372036854775807):CC (Pe a b):=by
 refine ah.vc (V:=TT 1 (CS ((e9 a b)=true) (TT 2 (CC (Lr a b)∧(True∧(e9 a b)=true)∧TT 2 (CC (Lr b a)∧TT 3 ((e9 b a)=(qw a b)∧True)))) (TT 2 (CC (Lr a b)∧(True∧(e9 a b)=false)∧TT 6 (false=(qw a b)∧True))))) (.s 1 ((e9 a b)=true) (.w 1 [(2,(Lr a b).O),(3,.val (dB true)),(6,(Lr b a).O)]<|.e) (.w 1 [(2,(Lr a b).O),(3,.val (dB false))]<|.e)) Tryz.func38 rfl rfl rfl (by kernel_rfl) ?_
 refine tt ⟨fun T7=>?_,fun T7=>?_⟩
 · refine tt ⟨(u6 a b ha YE),⟨(bT T7),tt ⟨(u6 b a hb hsb),tt ⟨?_,oK⟩⟩⟩⟩
   first | exact(JF (by simpa using T7)).symm | exact(Ak (by simpa using T7)).symm
 · refine tt ⟨(u6 a b ha YE),⟨(bF T7),tt ⟨?_,oK⟩⟩⟩
   first | exact(JF (by simpa using T7)).symm | exact(Ak (by simpa using T7)).symm
abbrev NJ (a b:List Int):Ct:=⟨30,[(LI a),(LI b)],false,(dB (decide (a=b)))⟩
abbrev r8 (a:List Int) (b:List Int):Lp (Nat):=io [0,1,5] 0 (fun (k:Nat)=>⟨[(0,(LI a)),(1,(LI b)),(5,(i6 (k:Int)))],[]⟩) (fun (k:Nat)=>k≤a.length∧∀z,z<k→a.getD z 0=b.getD z 0) (fun (k:Nat)=>a.length-k)
theorem JV (a b:List Int) (ha:a.length≤9223372036854775807):CC (NJ a b):=by
 refine ah.vc (V:=TT 6 (CN ((a.length:Int)=(b.length:Int)) (TT 2 (false=(decide (a=b))∧True)) (TT 1 (GO (r8 a b) 0 (∀k,(r8 a b).inv k→TT 4 (CD ((k:Int)<(a.length:Int)) (TT 2 (IX (k:Int) a.length∧TT 3 (IX (k:Int) b.length∧TT 2 (CN ((a.getD k 0)=(b.getD k 0)) (TT 2 (false=(decide (a=b))∧True)) (TT 1 (W6 ((k+1:Nat):Int)∧TT 1 (AG (r8 a b) k (k+1)))))))) (TT 2 (true=(decide (a=b))∧True)))))))) (.b 10 (.e) (.l (r8 a b) 0 (fun k=>.b 14 (.b 25 (.e) (.w 5 [(1,.val (i6 ((k+1:Nat):Int)))]<|.e)) (.e)))) Tryz.func30 rfl rfl rfl (by kernel_rfl) ?_
 refine tt (cn (fun X1=>?_) (fun X1=>?_))
 · refine tt ⟨?_,oK⟩
   first | exact(R6 (fun e=>by subst e;omega)).symm | exact(R6 (same_no (k:=k) (by simpa using Uv))).symm | exact(RX (sT (by omega) (by omega) hall)).symm
 · refine tt ⟨rfl,⟨by omega,fun z hz=>by omega⟩,?_⟩
   intro k I'
   obtain⟨hk,hall⟩:=I'
   refine tt (cd (fun VT=>?_) (fun VT=>?_))
   · refine tt ⟨ix,tt ⟨ix,tt (cn (fun Uv=>?_) (fun Uv=>?_))⟩⟩
     · refine tt ⟨?_,oK⟩
       first | exact(R6 (fun e=>by subst e;omega)).symm | exact(R6 (same_no (k:=k) (by simpa using Uv))).symm | exact(RX (sT (by omega) (by omega) hall)).symm
     · refine tt ⟨w6,tt ⟨(k+1),rfl,?_,(?_:a.length-(k+1)<a.length-k)⟩⟩
       · exact⟨by omega,di hall (by simpa using Uv)⟩
       · omega
   · refine tt ⟨?_,oK⟩
     first | exact(R6 (fun e=>by subst e;omega)).symm | exact(R6 (same_no (k:=k) (by simpa using Uv))).symm | exact(RX (sT (by omega) (by omega) hall)).symm
abbrev JW (a b:Rs):Ct:=⟨12,[(.agg [(dL 1 aa [] a.l),(LI a.c),(i6 a.e)]),(.agg [(dL 1 aa [] b.l),(LI b.c),(i6 b.e)])],false,(dB (l8 a b))⟩
theorem r9 (a b:Rs) (hl:a.l.length≤9223372036854775807) (hsl:∀i,(a.l.getD i []).length≤9223372036854775807) (W0:b.l.length≤9223372036854775807) (hsb:∀i,(b.l.getD i []).length≤9223372036854775807) (Xu:a.c.length≤9223372036854775807):CC (JW a b):=by
 refine ah.vc (V:=TT 3 (CS (a.e=b.e) (CS ((qw a.l b.l)=true) (TT 5 ((True∧(decide (a.e=b.e))=true)∧TT 4 (CC (Pe a.l b.l)∧TT 1 ((True∧(qw a.l b.l)=true)∧TT 4 (CC (NJ a.c b.c)∧TT 3 ((decide (a.c=b.c))=(l8 a b)∧True)))))) (TT 5 ((True∧(decide (a.e=b.e))=true)∧TT 4 (CC (Pe a.l b.l)∧TT 1 ((True∧(qw a.l b.l)=false)∧TT 8 (false=(l8 a b)∧True)))))) (TT 5 ((True∧(decide (a.e=b.e))=false)∧TT 15 (false=(l8 a b)∧True))))) (.s 1 (a.e=b.e) (.s 1 ((qw a.l b.l)=true) (.w 1 [(5,.val (dB true)),(10,(Pe a.l b.l).O),(12,.val (dB true)),(17,(NJ a.c b.c).O)]<|.e) (.w 1 [(5,.val (dB true)),(10,(Pe a.l b.l).O),(12,.val (dB false))]<|.e)) (.w 1 [(5,.val (dB false))]<|.e)) Tryz.func12 rfl rfl rfl (by kernel_rfl) ?_
 refine tt ⟨fun T7=>?_,fun T7=>?_⟩
 · refine⟨fun Ur=>?_,fun Ur=>?_⟩
   · refine tt ⟨(vT T7),tt ⟨(FO a.l b.l hl hsl W0 hsb),tt ⟨(bT Ur),tt ⟨(JV a.c b.c Xu),tt ⟨?_,oK⟩⟩⟩⟩⟩
     first | exact(Al T7).symm | exact(Am (by simpa using Ur)).symm | exact(uW T7 (by simpa using Ur)).symm
   · refine tt ⟨(vT T7),tt ⟨(FO a.l b.l hl hsl W0 hsb),tt ⟨(bF Ur),tt ⟨?_,oK⟩⟩⟩⟩
     first | exact(Al T7).symm | exact(Am (by simpa using Ur)).symm | exact(uW T7 (by simpa using Ur)).symm
 · refine tt ⟨(vF T7),tt ⟨?_,oK⟩⟩
   first | exact(Al T7).symm | exact(Am (by simpa using Ur)).symm | exact(uW T7 (by simpa using Ur)).symm
abbrev NK (c:Ci) (b:List Int):Ct:=⟨10,[(.agg (B9 c)),(LY b)],true,(dL 1 aa [] (jo c b))⟩
abbrev gH (c:Ci) (b:List Int):Lp (Nat×Nat):=pI [2,5,6,7] 3 (fun (i:Nat) (p0:Nat)=>⟨[(2,(.ptr 0 0 0 0)),(5,(.own 1)),(6,(.ptr 2 0 0 0)),(7,(i6 (i:Int)))],[(.var 33 (B9 c)),(.arr 42 1 aa [] (tab (s8 c b) i)),(.var 84 [(LY b),(i6 (p0:Int))])]⟩) (fun (i:Nat) (p0:Nat)=>i≤c.J.length∧p0=inQ c b i∧p0≤10*i) (fun (i:Nat) (p0:Nat)=>c.J.length-i)
abbrev pk (c:Ci) (b:List Int) (i:Nat) (p0:Nat):Lp (Nat):=io [2,5,6,7,8,9,10] 4 (fun (k:Nat)=>⟨[(2,(.ptr 0 0 0 0)),(5,(.own 1)),(6,(.ptr 2 0 0 0)),(7,(i6 (i:Int))),(8,(.own 3)),(9,(i6 (((b.getD p0 0%8).toNat:Nat):Int))),(10,(i6 (k:Int)))],[(.var 33 (B9 c)),(.arr 42 1 aa [] (tab (s8 c b) i)),(.var 84 [(LY b),(i6 (p0:Int))]),(.arr 3 1 (ab .i64) 0 (tab (ny b p0 (c.J.getD i bK).w) k))]⟩) (fun (k:Nat)=>k≤(b.getD p0 0%8).toNat∧(k=0∨(c.J.getD i bK).frm<0)) (fun (k:Nat)=>(b.getD p0 0%8).toNat-k)
theorem th (c:Ci) (b:List Int) (hc:be c) (hb:qy b):CC (NK c b):=by
 have UU:=hc.nl
 have hcl:=hc.cl
 refine ah.vc (V:=TT 2 (ai [] ((tab (s8 c b) 0).map aa)∧TT 6 (GO (gH c b) (0,0) (∀i p0,(gH c b).inv (i,p0)→TT 5 (CD ((i:Int)<(c.J.length:Int)) (ai [] (([]:List Int).map (ab .i64))∧TT 2 (CC (G0 b p0)∧((8:Int)≠0∧(Int.tmod (b.getD p0 0) 8)=(((b.getD p0 0%8).toNat:Nat):Int))∧TT 2 (GO (pk c b i p0) 0 (∀k,(pk c b i p0).inv k→CS ((k:Int)<(((b.getD p0 0%8).toNat:Nat):Int)) (TT 3 ((True∧(decide ((k:Int)<(((b.getD p0 0%8).toNat:Nat):Int)))=true)∧TT 3 (IX (i:Int) c.J.length∧TT 4 (CD (((c.J.getD i bK).frm)<0) (TT 3 (W6 ((1+k:Nat):Int)∧CC (B6 b p0 (1+k))∧CC (G0 b (p0+(1+k)))∧TT 3 (IX (i:Int) c.J.length∧TT 2 (CC (DL ((c.J.getD i bK).w))∧(True∧(IntKind.wrap .i64 (BitVec.ofInt (IntKind.i64).bits (b.getD (p0+(1+k)) 0) &&& BitVec.ofInt (IntKind.i64).bits (af ((c.J.getD i bK).w))).toNat)=(ny b p0 (c.J.getD i bK).w k))∧ai [[(i6 (ny b p0 (c.J.getD i bK).w k))]] ([ny b p0 (c.J.getD i bK).w k].map (ab .i64))∧((tab (ny b p0 (c.J.getD i bK).w) k).length+([ny b p0 (c.J.getD i bK).w k].map (ab .i64)).length≤137438953472∧(tab (ny b p0 (c.J.getD i bK).w) k).map (ab .i64)++[ny b p0 (c.J.getD i bK).w k].map (ab .i64)=(tab (ny b p0 (c.J.getD i bK).w) (k+1)).map (ab .i64))∧TT 2 (W6 ((k+1:Nat):Int)∧TT 1 (AG (pk c b i p0) k (k+1))))))) (TT 3 (IX (i:Int) c.J.length∧TT 3 (CD (((c.J.getD i bK).frm)<0) (TT 2 (W6 ((1+((b.getD p0 0%8).toNat):Nat):Int)∧CC (B6 b p0 (1+((b.getD p0 0%8).toNat)))∧TT 3 (ai [[(LI (tab (ny b p0 (c.J.getD i bK).w) k))]] ([tab (ny b p0 (c.J.getD i bK).w) k].map aa)∧((tab (s8 c b) i).length+([tab (ny b p0 (c.J.getD i bK).w) k].map aa).length≤137438953472∧(tab (s8 c b) i).map aa++[tab (ny b p0 (c.J.getD i bK).w) k].map aa=(tab (s8 c b) (i+1)).map aa)∧TT 2 (W6 ((i+1:Nat):Int)∧TT 1 (AG (gH c b) (i,p0) (i+1,p0+(1+(b.getD p0 0%8).toNat))))))) (TT 2 (ai [[(LI (tab (ny b p0 (c.J.getD i bK).w) k))]] ([tab (ny b p0 (c.J.getD i bK).w) k].map aa)∧((tab (s8 c b) i).length+([tab (ny b p0 (c.J.getD i bK).w) k].map aa).length≤137438953472∧(tab (s8 c b) i).map aa++[tab (ny b p0 (c.J.getD i bK).w) k].map aa=(tab (s8 c b) (i+1)).map aa)∧TT 2 (W6 ((i+1:Nat):Int)∧TT 1 (AG (gH c b) (i,p0) (i+1,p0)))))))))))) (TT 3 ((True∧(decide ((k:Int)<(((b.getD p0 0%8).toNat:Nat):Int)))=false)∧TT 11 (IX (i:Int) c.J.length∧TT 3 (CD (((c.J.getD i bK).frm)<0) (TT 2 (W6 ((1+((b.getD p0 0%8).toNat):Nat):Int)∧CC (B6 b p0 (1+((b.getD p0 0%8).toNat)))∧TT 3 (ai [[(LI (tab (ny b p0 (c.J.getD i bK).w) k))]] ([tab (ny b p0 (c.J.getD i bK).w) k].map aa)∧((tab (s8 c b) i).length+([tab (ny b p0 (c.J.getD i bK).w) k].map aa).length≤137438953472∧(tab (s8 c b) i).map aa++[tab (ny b p0 (c.J.getD i bK).w) k].map aa=(tab (s8 c b) (i+1)).map aa)∧TT 2 (W6 ((i+1:Nat):Int)∧TT 1 (AG (gH c b) (i,p0) (i+1,p0+(1+(b.getD p0 0%8).toNat))))))) (TT 2 (ai [[(LI (tab (ny b p0 (c.J.getD i bK).w) k))]] ([tab (ny b p0 (c.J.getD i bK).w) k].map aa)∧((tab (s8 c b) i).length+([tab (ny b p0 (c.J.getD i bK).w) k].map aa).length≤137438953472∧(tab (s8 c b) i).map aa++[tab (ny b p0 (c.J.getD i bK).w) k].map aa=(tab (s8 c b) (i+1)).map aa)∧TT 2 (W6 ((i+1:Nat):Int)∧TT 1 (AG (gH c b) (i,p0) (i+1,p0))))))))))))) (TT 3 ((tab (s8 c b) i).map aa=(jo c b).map aa))))))) (.w 1 [(0,.box 42 1 aa [] (tab (s8 c b) 0))]<|.l (gH c b) (0,0) (fun ⟨i,p0⟩=>.b 18 (.w 6 [(0,.box 3 1 (ab .i64) 0 ([]:List Int))]<|.w 7 [(1,(G0 b p0).O),(2,.val (i6 (((b.getD p0 0%8).toNat:Nat):Int)))]<|.l (pk c b i p0) 0 (fun k=>.s 9 ((k:Int)<(((b.getD p0 0%8).toNat:Nat):Int)) (.w 9 [(3,.val (dB true))]<|.b 36 (.w 11 [(3,.val (i6 ((1+k:Nat):Int))),(4,(B6 b p0 (1+k)).O),(5,(G0 b (p0+(1+k))).O),(12,(DL ((c.J.getD i bK).w)).O),(13,.val (i6 (ny b p0 (c.J.getD i bK).w k))),(14,.box 3 1 (ab .i64) 0 [ny b p0 (c.J.getD i bK).w k]),(15,.box 3 1 (ab .i64) 0 (tab (ny b p0 (c.J.getD i bK).w) (k+1)))]<|.w 10 [(1,.val (i6 ((k+1:Nat):Int)))]<|.e) (.b 61 (.w 13 [(2,.val (i6 ((1+((b.getD p0 0%8).toNat):Nat):Int))),(3,(B6 b p0 (1+((b.getD p0 0%8).toNat))).O)]<|.f 14 3<|.w 14 [(2,.box 42 1 aa [] [tab (ny b p0 (c.J.getD i bK).w) k]),(3,.box 42 1 aa [] (tab (s8 c b) (i+1)))]<|.w 5 [(1,.val (tV i))]<|.e) (.f 14 3<|.w 14 [(2,.box 42 1 aa [] [tab (ny b p0 (c.J.getD i bK).w) k]),(3,.box 42 1 aa [] (tab (s8 c b) (i+1)))]<|.w 5 [(1,.val (tV i))]<|.e))) (.w 9 [(3,.val (dB false))]<|.b 61 (.w 13 [(2,.val (i6 ((1+((b.getD p0 0%8).toNat):Nat):Int))),(3,(B6 b p0 (1+((b.getD p0 0%8).toNat))).O)]<|.f 14 3<|.w 14 [(2,.box 42 1 aa [] [tab (ny b p0 (c.J.getD i bK).w) k]),(3,.box 42 1 aa [] (tab (s8 c b) (i+1)))]<|.w 5 [(1,.val (tV i))]<|.e) (.f 14 3<|.w 14 [(2,.box 42 1 aa [] [tab (ny b p0 (c.J.getD i bK).w) k]),(3,.box 42 1 aa [] (tab (s8 c b) (i+1)))]<|.w 5 [(1,.val (tV i))]<|.e)))) (.e))) Tryz.func10 rfl rfl rfl (by kernel_rfl) ?_
 refine tt ⟨oK,tt ⟨rfl,⟨by omega,rfl,by omega⟩,?_⟩⟩
 intro i p0 I'
 obtain⟨hi,Ze,hpb⟩:=I'
 have hy:=eS hb p0
 refine tt (cd (fun Xo=>?_) (fun Xo=>?_))
 · refine⟨oK,tt ⟨(pi b p0 hb),⟨⟨om,(by rw[show(((b.getD p0 0%8).toNat:Nat):Int)=b.getD p0 0%8 from Te (by omega)];exact SU hy.1)⟩,tt ⟨rfl,⟨by omega,.inl rfl⟩,?_⟩⟩⟩⟩
   intro k I'
   obtain⟨hk,hkf⟩:=I'
   refine⟨fun T7=>?_,fun T7=>?_⟩
   · refine tt ⟨(vT T7),tt ⟨ix,tt (cd (fun Xa=>?_) (fun Xa=>?_))⟩⟩
     · have hw:1≤(c.J.getD i bK).w∧(c.J.getD i bK).w≤8:=aW.1 (hc.cw i (by omega))
       have hyk:=eS hb (p0+(1+k))
       refine tt ⟨w6,⟨(tU b p0 (1+k) om),⟨(pi b (p0+(1+k)) hb),tt ⟨ix,tt ⟨(jr ((c.J.getD i bK).w)),⟨⟨oK,(yf (by omega) (by omega))⟩,⟨⟨⟨rfl,oK⟩,oK⟩,⟨(a6 (by omega) rfl),tt ⟨w6,tt ⟨(k+1),rfl,?_,(?_:(b.getD p0 0%8).toNat-(k+1)<(b.getD p0 0%8).toNat-k)⟩⟩⟩⟩⟩⟩⟩⟩⟩⟩
       · exact⟨by omega,.inr (by first | assumption | omega)⟩
       · omega
     · have ZQ:k=L4 c b p0 i:=by unfold L4;split<;>rename_i VW<;>(have VW:_:=VW;unfold f9 at VW;omega)
       refine tt ⟨ix,tt (cd (fun Wb=>?_) (fun Wb=>?_))⟩
       · refine tt ⟨w6,⟨(tU b p0 (1+((b.getD p0 0%8).toNat)) om),tt ⟨⟨⟨rfl,oK⟩,oK⟩,⟨(a6 (by omega) (by rw[ZQ,Ze];rfl)),tt ⟨w6,tt ⟨(i+1,p0+(1+(b.getD p0 0%8).toNat)),rfl,?_,(?_:c.J.length-(i+1)<c.J.length-i)⟩⟩⟩⟩⟩⟩
         · exact⟨by omega,by rw[inQ,RH Wb,← Ze],by omega⟩
         · omega
       · refine tt ⟨⟨⟨rfl,oK⟩,oK⟩,⟨(a6 (by omega) (by rw[ZQ,Ze];rfl)),tt ⟨w6,tt ⟨(i+1,p0),rfl,?_,(?_:c.J.length-(i+1)<c.J.length-i)⟩⟩⟩⟩
         · exact⟨by omega,by rw[inQ,RE Wb];exact Ze,by omega⟩
         · omega
   · refine tt ⟨(vF T7),?_⟩
     have ZQ:k=L4 c b p0 i:=by unfold L4;split<;>rename_i VW<;>(have VW:_:=VW;unfold f9 at VW;omega)
     refine tt ⟨ix,tt (cd (fun Wb=>?_) (fun Wb=>?_))⟩
     · refine tt ⟨w6,⟨(tU b p0 (1+((b.getD p0 0%8).toNat)) om),tt ⟨⟨⟨rfl,oK⟩,oK⟩,⟨(a6 (by omega) (by rw[ZQ,Ze];rfl)),tt ⟨w6,tt ⟨(i+1,p0+(1+(b.getD p0 0%8).toNat)),rfl,?_,(?_:c.J.length-(i+1)<c.J.length-i)⟩⟩⟩⟩⟩⟩
       · exact⟨by omega,by rw[inQ,RH Wb,← Ze],by omega⟩
       · omega
     · refine tt ⟨⟨⟨rfl,oK⟩,oK⟩,⟨(a6 (by omega) (by rw[ZQ,Ze];rfl)),tt ⟨w6,tt ⟨(i+1,p0),rfl,?_,(?_:c.J.length-(i+1)<c.J.length-i)⟩⟩⟩⟩
       · exact⟨by omega,by rw[inQ,RE Wb];exact Ze,by omega⟩
       · omega
 · refine tt (congrArg _ (?_:(tab (s8 c b) i)=(jo c b)))
   rw[show i=c.J.length by omega];rfl
abbrev QV (b:List Int):Ct:=⟨11,[(LY b)],true,(dL 1 dc .empty (xe b))⟩
abbrev pm (b:List Int):Lp (Nat):=io [0,3,4] 1 (fun (i:Nat)=>⟨[(0,(LY b)),(3,(.own 0)),(4,(i6 (i:Int)))],[(.arr 9 1 dc .empty (tab (t7 b) i))]⟩) (fun (i:Nat)=>i≤b.length∧i≤40) (fun (i:Nat)=>b.length-i)
theorem G2 (b:List Int) (hb:qy b):CC (QV b):=by
 refine ah.vc (V:=TT 1 (ai [] ((tab (t7 b) 0).map dc)∧TT 2 (GO (pm b) 0 (∀i,(pm b).inv i→CS ((i:Int)<(b.length:Int)) (TT 4 ((True∧(decide ((i:Int)<(b.length:Int)))=true)∧TT 3 (CD ((i:Int)<40) (TT 1 (ai [[(dS (bs [97]))],[(dS (bs [98]))],[(dS (bs [97]))],[(dS (bs [98]))],[(dS (bs [97]))],[(dS (bs [98]))],[(dS (bs [99]))]] ([(bs [97]),(bs [98]),(bs [97]),(bs [98]),(bs [97]),(bs [98]),(bs [99])].map dc)∧TT 2 (IX (i:Int) b.length∧TT 1 (QM (b.getD i 0) 7∧IX ((b.getD i 0)%7) ([(bs [97]),(bs [98]),(bs [97]),(bs [98]),(bs [97]),(bs [98]),(bs [99])].length)∧(((b.getD i 0)%7).toNat<[(bs [97]),(bs [98]),(bs [97]),(bs [98]),(bs [97]),(bs [98]),(bs [99])].length∧True)∧ai [[(dS (([(bs [97]),(bs [98]),(bs [97]),(bs [98]),(bs [97]),(bs [98]),(bs [99])]).getD (((b.getD i 0)%7).toNat) .empty))]] ([(([(bs [97]),(bs [98]),(bs [97]),(bs [98]),(bs [97]),(bs [98]),(bs [99])]).getD (((b.getD i 0)%7).toNat) .empty)].map dc)∧((tab (t7 b) i).length+([(([(bs [97]),(bs [98]),(bs [97]),(bs [98]),(bs [97]),(bs [98]),(bs [99])]).getD (((b.getD i 0)%7).toNat) .empty)].map dc).length≤137438953472∧(tab (t7 b) i).map dc++[(([(bs [97]),(bs [98]),(bs [97]),(bs [98]),(bs [97]),(bs [98]),(bs [99])]).getD (((b.getD i 0)%7).toNat) .empty)].map dc=(tab (t7 b) (i+1)).map dc)∧TT 2 (W6 ((i+1:Nat):Int)∧TT 1 (AG (pm b) i (i+1))))))) (TT 3 ((tab (t7 b) i).map dc=(xe b).map dc))))) (TT 4 ((True∧(decide ((i:Int)<(b.length:Int)))=false)∧TT 6 ((tab (t7 b) i).map dc=(xe b).map dc))))))) (.w 1 [(0,.box 9 1 dc .empty (tab (t7 b) 0))]<|.l (pm b) 0 (fun i=>.s 3 ((i:Int)<(b.length:Int)) (.w 3 [(4,.val (dB true))]<|.b 13 (.w 5 [(1,.box 9 1 dc .empty [(bs [97]),(bs [98]),(bs [97]),(bs [98]),(bs [97]),(bs [98]),(bs [99])]),(6,.val (dI .u8 ((b.getD i 0)%7))),(9,.box 9 1 dc .empty [(([(bs [97]),(bs [98]),(bs [97]),(bs [98]),(bs [97]),(bs [98]),(bs [99])]).getD (((b.getD i 0)%7).toNat) .empty)]),(10,.box 9 1 dc .empty (tab (t7 b) (i+1)))]<|.w 4 [(1,.val (tV i))]<|.e) (.e)) (.w 3 [(4,.val (dB false))]<|.e))) Tryz.func11 rfl rfl rfl (by kernel_rfl) ?_
 refine tt ⟨oK,tt ⟨rfl,(by omega),?_⟩⟩
 intro i I'
 obtain⟨hi,Yb⟩:=I'
 refine⟨fun T7=>?_,fun T7=>?_⟩
 · refine tt ⟨(vT T7),tt (cd (fun Zh=>?_) (fun Zh=>?_))⟩
   · have hy:=eS hb i
     refine tt ⟨⟨⟨rfl,oK⟩,⟨rfl,oK⟩,⟨rfl,oK⟩,⟨rfl,oK⟩,⟨rfl,oK⟩,⟨rfl,oK⟩,⟨rfl,oK⟩,oK⟩,tt ⟨ix,tt ⟨qm,⟨ix,⟨⟨om,oK⟩,⟨⟨⟨rfl,oK⟩,oK⟩,⟨(a6 (by omega) rfl),tt ⟨w6,tt ⟨(i+1),rfl,(?_:(i+1)≤b.length∧(i+1)≤40),(?_:b.length-(i+1)<b.length-i)⟩⟩⟩⟩⟩⟩⟩⟩⟩
     · omega
     · omega
   · refine tt (congrArg _ (?_:(tab (t7 b) i)=(xe b)))
     rw[show i=GW b by unfold GW;omega];rfl
 · refine tt ⟨(vF T7),tt (congrArg _ (?_:(tab (t7 b) i)=(xe b)))⟩
   rw[show i=GW b by unfold GW;omega];rfl
abbrev DS (c:Ci) (D':List (List Int)) (n:Int) (J':List ByteArray):Ct:=⟨13,[(.agg (B9 c)),(.agg [(dL 1 aa [] D'),(i6 n),(dL 1 dc .empty J')])],true,(.agg [(dL 1 aa [] ((b8 c D' n).l)),(LI ((b8 c D' n).c)),(i6 ((b8 c D' n).e))])⟩
theorem sa (c:Ci) (D':List (List Int)) (n:Int) (J':List ByteArray) (hc:be c) (hq:J5 c) (hl:D'.length≤9223372036854775807) (hs:∀i,(D'.getD i []).length≤9223372036854775807):CC (DS c D' n J'):=by
 refine ah.vc (V:=TT 8 (CC (QE c D' n)∧TT 13 (((fy c D' n).1).map aa=((b8 c D' n).l).map aa∧((fy c D' n).2.1).map (ab .i64)=((b8 c D' n).c).map (ab .i64)∧((fy c D' n).2.2)=((b8 c D' n).e)∧True))) (.w 1 [(5,(QE c D' n).O)]<|.e) Tryz.func13 rfl rfl rfl (by kernel_rfl) ?_
 refine tt ⟨(BZ c D' n hc hq hl hs),tt ⟨(congrArg _ (?_:((fy c D' n).1)=((b8 c D' n).l))),(congrArg _ (?_:((fy c D' n).2.1)=((b8 c D' n).c))),?_,oK⟩⟩
 all_goals (rfl)
abbrev Pf (c:Ci) (D':List (List Int)) (n:Int) (J':List ByteArray):Ct:=⟨15,[(.agg (B9 c)),(.agg [(dL 1 aa [] D'),(i6 n),(dL 1 dc .empty J')])],true,(.agg [(dL 1 aa [] ((da c D' J').l)),(LI ((da c D' J').c)),(i6 ((da c D' J').e))])⟩
theorem FP (c:Ci) (D':List (List Int)) (n:Int) (J':List ByteArray) (hc:be c) (hq:J5 c) (hl:D'.length≤9223372036854775807) (hs:∀i,(D'.getD i []).length≤9223372036854775807) (hcl:J'.length≤9223372036854775807):CC (Pf c D' n J'):=by
 refine ah.vc (V:=TT 8 (CC (QC c D' J')∧TT 13 (((iA c D' J').1).map aa=((da c D' J').l).map aa∧((iA c D' J').2.1).map (ab .i64)=((da c D' J').c).map (ab .i64)∧((iA c D' J').2.2)=((da c D' J').e)∧True))) (.w 1 [(5,(QC c D' J').O)]<|.e) Tryz.func15 rfl rfl rfl (by kernel_rfl) ?_
 refine tt ⟨(GV c D' J' hc hq hl hs hcl),tt ⟨(congrArg _ (?_:((iA c D' J').1)=((da c D' J').l))),(congrArg _ (?_:((iA c D' J').2.1)=((da c D' J').c))),?_,oK⟩⟩
 all_goals (rfl)
abbrev NL (a b:List (List Int)):Ct:=⟨19,[(dL 1 aa [] a),(dL 1 aa [] b)],false,(.agg [(i6 (((Hb a b):Nat):Int)),(i6 (((Hc a b):Nat):Int)),(dB ((cx a b).2.2))])⟩
theorem Ar (a b:List (List Int)) (ha:a.length≤9223372036854775807) (YE:∀i,(a.getD i []).length≤9223372036854775807):CC (NL a b):=by
 refine ah.vc (V:=TT 3 (CC (Qy a b)∧TT 13 (((((cx a b).1)=(((Hb a b):Nat):Int)∧((cx a b).2.1)=(((Hc a b):Nat):Int)∧((cx a b).2.2)=((cx a b).2.2)∧True))∧((True∧True∧True∧True))))) (.w 1 [(2,(Qy a b).O)]<|.e) Tryz.func19 rfl rfl rfl (by kernel_rfl) ?_
 refine tt ⟨(Jr a b ha YE),tt ⟨⟨?_,?_,rfl,oK⟩,⟨oK,oK,oK,oK⟩⟩⟩
 · exact(kF a b).1
 · exact(kF a b).2
abbrev c8 (l:List (List Int)):Ct:=⟨8,[(dL 1 aa [] l)],false,(dB (t8 l))⟩
abbrev u7 (l:List (List Int)):Lp (Nat×Int):=pI [0,3,4] 0 (fun (i:Nat) (a:Int)=>⟨[(0,(dL 1 aa [] l)),(3,(i6 a)),(4,(i6 (i:Int)))],[]⟩) (fun (i:Nat) (a:Int)=>i≤l.length∧a=ND l i) (fun (i:Nat) (a:Int)=>l.length-i)
theorem pn (l:List (List Int)) (hl:l.length≤9223372036854775807):CC (c8 l):=by
 refine ah.vc (V:=TT 5 (GO (u7 l) (0,(l.length:Int)) (∀i a,(u7 l).inv (i,a)→TT 4 (CD ((i:Int)<(l.length:Int)) (TT 3 (IX (i:Int) l.length∧TT 5 (W6 ((i+1:Nat):Int)∧TT 1 (AG (u7 l) (i,a) (i+1,IntKind.wrap .i64 (a+(((l.getD i []).length:Nat):Int))))))) (TT 4 ((decide (a≤60))=(t8 l)∧True)))))) (.l (u7 l) (0,(l.length:Int)) (fun ⟨i,a⟩=>.b 10 (.w 4 [(1,.val (tV i))]<|.e) (.e))) Tryz.func8 rfl rfl rfl (by kernel_rfl) ?_
 refine tt ⟨rfl,⟨by omega,rfl⟩,?_⟩
 intro i a I'
 obtain⟨hi,ha⟩:=I'
 refine tt (cd (fun X1=>?_) (fun X1=>?_))
 · refine tt ⟨ix,tt ⟨w6,tt ⟨(i+1,IntKind.wrap .i64 (a+(((l.getD i []).length:Nat):Int))),rfl,?_,(?_:l.length-(i+1)<l.length-i)⟩⟩⟩
   · exact⟨by omega,by rw[ha];rfl⟩
   · omega
 · refine tt ⟨?_,oK⟩
   rw[ha,show i=l.length by omega];rfl
abbrev QW:Ct:=⟨31,[],true,B8⟩
theorem Ls  : CC QW:=by
 refine ah.vc (V:=TT 8 (ai [[(i6 16),(dS e0),(i6 0),(dS e0),(i6 0),(dS e0),.nils],[(i6 18),(dS e0),(i6 0),(dS e0),(i6 0),(dS e0),.nils]] ([(⟨16,e0,⟨0,e0⟩,⟨0,e0⟩,[]⟩:Ex),(⟨18,e0,⟨0,e0⟩,⟨0,e0⟩,[]⟩:Ex)].map (eA 2))∧TT 5 (ai [[(dS (bs [114])),(i6 2),(i6 0),(i6 6),(dS e0),(i6 0),(dS e0),(i6 0),(dS e0),(dL 7 (eA 2) dE [(⟨16,e0,⟨0,e0⟩,⟨0,e0⟩,[]⟩:Ex),(⟨18,e0,⟨0,e0⟩,⟨0,e0⟩,[]⟩:Ex)]),(i6 0),(dS e0),(i6 0)]] ([(⟨(bs [114]),2,0,⟨6,e0,⟨0,e0⟩,⟨0,e0⟩,[(⟨16,e0,⟨0,e0⟩,⟨0,e0⟩,[]⟩:Ex),(⟨18,e0,⟨0,e0⟩,⟨0,e0⟩,[]⟩:Ex)]⟩,⟨0,e0,0⟩⟩:Rg)].map gM)∧TT 2 (ai [[(i6 0),(i6 2),(i6 1),(dS e0),(i6 1),(dS e0),(i6 1),(dS e0),.nils]] ([(⟨0,2,⟨1,e0,⟨1,e0⟩,⟨1,e0⟩,[]⟩⟩:Tk)].map ir)∧TT 3 (ai [[(i6 1),(i6 2),(i6 1),(dS e0),(i6 1),(dS e0),(i6 1),(dS e0),.nils,(i6 6),(dS e0),(i6 0),(dS e0),(i6 0),(dS e0),(dL 7 (eA 2) dE [(⟨16,e0,⟨0,e0⟩,⟨0,e0⟩,[]⟩:Ex),(⟨18,e0,⟨0,e0⟩,⟨0,e0⟩,[]⟩:Ex)])]] ([(⟨1,2,⟨1,e0,⟨1,e0⟩,⟨1,e0⟩,[]⟩,⟨6,e0,⟨0,e0⟩,⟨0,e0⟩,[(⟨16,e0,⟨0,e0⟩,⟨0,e0⟩,[]⟩:Ex),(⟨18,e0,⟨0,e0⟩,⟨0,e0⟩,[]⟩:Ex)]⟩⟩:Pt)].map gd)∧TT 4 (ai [[(dS (bs [112])),(dS (bs [97])),(dL 13 gM bH [(⟨(bs [114]),2,0,⟨6,e0,⟨0,e0⟩,⟨0,e0⟩,[(⟨16,e0,⟨0,e0⟩,⟨0,e0⟩,[]⟩:Ex),(⟨18,e0,⟨0,e0⟩,⟨0,e0⟩,[]⟩:Ex)]⟩,⟨0,e0,0⟩⟩:Rg)]),.nils,(dL 9 ir aF [(⟨0,2,⟨1,e0,⟨1,e0⟩,⟨1,e0⟩,[]⟩⟩:Tk)]),(dL 16 gd aB [(⟨1,2,⟨1,e0,⟨1,e0⟩,⟨1,e0⟩,[]⟩,⟨6,e0,⟨0,e0⟩,⟨0,e0⟩,[(⟨16,e0,⟨0,e0⟩,⟨0,e0⟩,[]⟩:Ex),(⟨18,e0,⟨0,e0⟩,⟨0,e0⟩,[]⟩:Ex)]⟩⟩:Pt)])]] ([(⟨(bs [112]),(bs [97]),[(⟨(bs [114]),2,0,⟨6,e0,⟨0,e0⟩,⟨0,e0⟩,[(⟨16,e0,⟨0,e0⟩,⟨0,e0⟩,[]⟩:Ex),(⟨18,e0,⟨0,e0⟩,⟨0,e0⟩,[]⟩:Ex)]⟩,⟨0,e0,0⟩⟩:Rg)],[],[(⟨0,2,⟨1,e0,⟨1,e0⟩,⟨1,e0⟩,[]⟩⟩:Tk)],[(⟨1,2,⟨1,e0,⟨1,e0⟩,⟨1,e0⟩,[]⟩,⟨6,e0,⟨0,e0⟩,⟨0,e0⟩,[(⟨16,e0,⟨0,e0⟩,⟨0,e0⟩,[]⟩:Ex),(⟨18,e0,⟨0,e0⟩,⟨0,e0⟩,[]⟩:Ex)]⟩⟩:Pt)]⟩:Pr)].map fS)∧TT 2 (ai [[(dS (bs [105])),(i6 2),(i6 0),(i6 (-1)),(i6 0)],[(dS (bs [111])),(i6 2),(i6 0),(i6 0),(i6 (-1))]] ([(⟨(bs [105]),2,0,(-1),0⟩:Ch),(⟨(bs [111]),2,0,0,(-1)⟩:Ch)].map ga)∧TT 3 ([(⟨(bs [112]),(bs [97]),[(⟨(bs [114]),2,0,⟨6,e0,⟨0,e0⟩,⟨0,e0⟩,[(⟨16,e0,⟨0,e0⟩,⟨0,e0⟩,[]⟩:Ex),(⟨18,e0,⟨0,e0⟩,⟨0,e0⟩,[]⟩:Ex)]⟩,⟨0,e0,0⟩⟩:Rg)],[],[(⟨0,2,⟨1,e0,⟨1,e0⟩,⟨1,e0⟩,[]⟩⟩:Tk)],[(⟨1,2,⟨1,e0,⟨1,e0⟩,⟨1,e0⟩,[]⟩,⟨6,e0,⟨0,e0⟩,⟨0,e0⟩,[(⟨16,e0,⟨0,e0⟩,⟨0,e0⟩,[]⟩:Ex),(⟨18,e0,⟨0,e0⟩,⟨0,e0⟩,[]⟩:Ex)]⟩⟩:Pt)]⟩:Pr)].map fS=aK.U.map fS∧[(⟨(bs [105]),2,0,(-1),0⟩:Ch),(⟨(bs [111]),2,0,0,(-1)⟩:Ch)].map ga=aK.J.map ga∧True)))))))) (.w 2 [(2,.frz 111 7 (eA 2) dE [(⟨16,e0,⟨0,e0⟩,⟨0,e0⟩,[]⟩:Ex),(⟨18,e0,⟨0,e0⟩,⟨0,e0⟩,[]⟩:Ex)])]<|.w 3 [(2,.frz 129 13 gM bH [(⟨(bs [114]),2,0,⟨6,e0,⟨0,e0⟩,⟨0,e0⟩,[(⟨16,e0,⟨0,e0⟩,⟨0,e0⟩,[]⟩:Ex),(⟨18,e0,⟨0,e0⟩,⟨0,e0⟩,[]⟩:Ex)]⟩,⟨0,e0,0⟩⟩:Rg)]),(5,.frz 113 9 ir aF [(⟨0,2,⟨1,e0,⟨1,e0⟩,⟨1,e0⟩,[]⟩⟩:Tk)]),(9,.frz 117 16 gd aB [(⟨1,2,⟨1,e0,⟨1,e0⟩,⟨1,e0⟩,[]⟩,⟨6,e0,⟨0,e0⟩,⟨0,e0⟩,[(⟨16,e0,⟨0,e0⟩,⟨0,e0⟩,[]⟩:Ex),(⟨18,e0,⟨0,e0⟩,⟨0,e0⟩,[]⟩:Ex)]⟩⟩:Pt)])]<|.w 4 [(1,.frz 63 6 fS ac [(⟨(bs [112]),(bs [97]),[(⟨(bs [114]),2,0,⟨6,e0,⟨0,e0⟩,⟨0,e0⟩,[(⟨16,e0,⟨0,e0⟩,⟨0,e0⟩,[]⟩:Ex),(⟨18,e0,⟨0,e0⟩,⟨0,e0⟩,[]⟩:Ex)]⟩,⟨0,e0,0⟩⟩:Rg)],[],[(⟨0,2,⟨1,e0,⟨1,e0⟩,⟨1,e0⟩,[]⟩⟩:Tk)],[(⟨1,2,⟨1,e0,⟨1,e0⟩,⟨1,e0⟩,[]⟩,⟨6,e0,⟨0,e0⟩,⟨0,e0⟩,[(⟨16,e0,⟨0,e0⟩,⟨0,e0⟩,[]⟩:Ex),(⟨18,e0,⟨0,e0⟩,⟨0,e0⟩,[]⟩:Ex)]⟩⟩:Pt)]⟩:Pr)]),(4,.frz 78 5 ga bK [(⟨(bs [105]),2,0,(-1),0⟩:Ch),(⟨(bs [111]),2,0,0,(-1)⟩:Ch)])]<|.e) Tryz.func31 rfl rfl rfl (by kernel_rfl) ?_
 refine tt ⟨⟨⟨rfl,rfl,rfl,rfl,rfl,rfl,rfl,oK⟩,⟨rfl,rfl,rfl,rfl,rfl,rfl,rfl,oK⟩,oK⟩,tt ⟨⟨⟨rfl,rfl,rfl,rfl,rfl,rfl,rfl,rfl,rfl,rfl,rfl,rfl,rfl,oK⟩,oK⟩,tt ⟨⟨⟨rfl,rfl,rfl,rfl,rfl,rfl,rfl,rfl,rfl,oK⟩,oK⟩,tt ⟨⟨⟨rfl,rfl,rfl,rfl,rfl,rfl,rfl,rfl,rfl,rfl,rfl,rfl,rfl,rfl,rfl,rfl,oK⟩,oK⟩,tt ⟨⟨⟨rfl,rfl,rfl,rfl,rfl,rfl,oK⟩,oK⟩,tt ⟨⟨⟨rfl,rfl,rfl,rfl,rfl,oK⟩,⟨rfl,rfl,rfl,rfl,rfl,oK⟩,oK⟩,tt ⟨(congrArg _ (?_:[(⟨(bs [112]),(bs [97]),[(⟨(bs [114]),2,0,⟨6,e0,⟨0,e0⟩,⟨0,e0⟩,[(⟨16,e0,⟨0,e0⟩,⟨0,e0⟩,[]⟩:Ex),(⟨18,e0,⟨0,e0⟩,⟨0,e0⟩,[]⟩:Ex)]⟩,⟨0,e0,0⟩⟩:Rg)],[],[(⟨0,2,⟨1,e0,⟨1,e0⟩,⟨1,e0⟩,[]⟩⟩:Tk)],[(⟨1,2,⟨1,e0,⟨1,e0⟩,⟨1,e0⟩,[]⟩,⟨6,e0,⟨0,e0⟩,⟨0,e0⟩,[(⟨16,e0,⟨0,e0⟩,⟨0,e0⟩,[]⟩:Ex),(⟨18,e0,⟨0,e0⟩,⟨0,e0⟩,[]⟩:Ex)]⟩⟩:Pt)]⟩:Pr)]=aK.U)),(congrArg _ (?_:[(⟨(bs [105]),2,0,(-1),0⟩:Ch),(⟨(bs [111]),2,0,0,(-1)⟩:Ch)]=aK.J)),oK⟩⟩⟩⟩⟩⟩⟩
 all_goals (rfl)
theorem Pg:l8 (b8 aK [[1,2,2],[]] 100) (⟨[[1,2,2],[1,3,1]],[3],0⟩:Rs)=true:=by unfold b8;rw[QF];decide
theorem Ph:l8 (b8 aK [[1,2,2],[]] 2) (⟨[[1,2,2],[1,3]],[2],0⟩:Rs)=true:=by unfold b8;rw[QG];decide
theorem Pj:l8 (da aK [[1,2,2],[]] [bs [97],bs [97]]) (⟨[[1,2,2],[1,3]],[2],0⟩:Rs)=true:=by unfold da;rw[QH];decide
abbrev c7:Ct:=⟨7,[],false,(dB true)⟩
theorem NM  : CC c7:=by
 refine ah.vc (V:=TT 1 (CC QW∧TT 2 (ai [[(i6 1)],[(i6 2)],[(i6 2)]] ([1,2,2].map (ab .i64))∧ai [[(LI [1,2,2])],[.nils]] ([[1,2,2],[]].map aa)∧TT 1 (ai [[(i6 1)],[(i6 2)],[(i6 2)]] ([1,2,2].map (ab .i64))∧ai [[(i6 1)],[(i6 3)],[(i6 1)]] ([1,3,1].map (ab .i64))∧ai [[(LI [1,2,2])],[(LI [1,3,1])]] ([[1,2,2],[1,3,1]].map aa)∧ai [[(i6 3)]] ([3].map (ab .i64))∧TT 3 (ai [[(i6 1)],[(i6 2)],[(i6 2)]] ([1,2,2].map (ab .i64))∧ai [[(i6 1)],[(i6 3)]] ([1,3].map (ab .i64))∧ai [[(LI [1,2,2])],[(LI [1,3])]] ([[1,2,2],[1,3]].map aa)∧ai [[(i6 2)]] ([2].map (ab .i64))∧TT 6 ((wS [] [B8,(.agg [(dL 1 aa [] [[1,2,2],[]]),(i6 100),.nils])] (DS aK [[1,2,2],[]] 100 []).q'∧CC (DS aK [[1,2,2],[]] 100 []))∧TT 1 (CC (JW (b8 aK [[1,2,2],[]] 100) (⟨[[1,2,2],[1,3,1]],[3],0⟩:Rs))∧TT 1 ((True∧(!(l8 (b8 aK [[1,2,2],[]] 100) (⟨[[1,2,2],[1,3,1]],[3],0⟩:Rs)))=false)∧TT 3 ((wS [] [B8,(.agg [(dL 1 aa [] [[1,2,2],[]]),(i6 2),.nils])] (DS aK [[1,2,2],[]] 2 []).q'∧CC (DS aK [[1,2,2],[]] 2 []))∧TT 1 (CC (JW (b8 aK [[1,2,2],[]] 2) (⟨[[1,2,2],[1,3]],[2],0⟩:Rs))∧TT 2 ((True∧(!(l8 (b8 aK [[1,2,2],[]] 2) (⟨[[1,2,2],[1,3]],[2],0⟩:Rs)))=false)∧TT 2 (ai [[(dS (bs [97]))],[(dS (bs [97]))]] ([(bs [97]),(bs [97])].map dc)∧TT 1 (CC (Pf aK [[1,2,2],[]] 0 [(bs [97]),(bs [97])])∧TT 1 (CC (JW (da aK [[1,2,2],[]] [(bs [97]),(bs [97])]) (⟨[[1,2,2],[1,3]],[2],0⟩:Rs))∧TT 2 ((!(l8 (da aK [[1,2,2],[]] [(bs [97]),(bs [97])]) (⟨[[1,2,2],[1,3]],[2],0⟩:Rs)))=false∧TT 1 (ai [[(i6 4)]] ([4].map (ab .i64))∧ai [[(LI [4])],[.nils]] ([[4],[]].map aa)∧TT 1 ((wS [] [B8,(.agg [(dL 1 aa [] [[4],[]]),(i6 1),.nils])] (DS aK [[4],[]] 1 []).q'∧CC (DS aK [[4],[]] 1 []))∧TT 5 ((wS [] [B8,(.agg [(dL 1 aa [] [[1,2,2],[]]),(i6 101),.nils])] (DS aK [[1,2,2],[]] 101 []).q'∧CC (DS aK [[1,2,2],[]] 101 []))∧TT 5 ((True∧(decide (((b8 aK [[4],[]] 1).e)=1))=true)∧TT 4 ((True∧(decide (((b8 aK [[1,2,2],[]] 101).e)=1))=true)∧TT 4 (CC (K4 [[1,2,2],[1,3]] [[1,2,2],[1,3,1]])∧TT 1 ((True∧(e9 [[1,2,2],[1,3]] [[1,2,2],[1,3,1]])=true)∧TT 4 (CC (K4 [[1,2,2],[1,3,1]] [[1,2,2],[1,3]])∧TT 2 ((True∧(!(e9 [[1,2,2],[1,3,1]] [[1,2,2],[1,3]]))=true)∧TT 2 (ai [[(i6 1)],[(i6 3)],[(i6 2)]] ([1,3,2].map (ab .i64))∧ai [[.nils],[(LI [1,3,2])]] ([[],[1,3,2]].map aa)∧CC (NL [[1,2,2],[1,3,1]] [[],[1,3,2]])∧TT 3 ((True∧(((((Hb [[1,2,2],[1,3,1]] [[],[1,3,2]]):Nat):Int)==1)&&(((((Hc [[1,2,2],[1,3,1]] [[],[1,3,2]]):Nat):Int)==2)&&(((cx [[1,2,2],[1,3,1]] [[],[1,3,2]]).2.2)==true)))=true)∧TT 4 (CC (NL [[1,2,2],[1,3,1]] [[1,2,2],[1,3]])∧TT 5 ((((((Hb [[1,2,2],[1,3,1]] [[1,2,2],[1,3]]):Nat):Int)==0)&&(((((Hc [[1,2,2],[1,3,1]] [[1,2,2],[1,3]]):Nat):Int)==0)&&(((cx [[1,2,2],[1,3,1]] [[1,2,2],[1,3]]).2.2)==false)))=true∧True)))))))))))))))))))))))))))) (.w 1 [(0,QW.O)]<|.w 2 [(0,.frz 3 1 (ab .i64) 0 [1,2,2]),(1,.frz 42 1 aa [] [[1,2,2],[]])]<|.w 3 [(0,.frz 3 1 (ab .i64) 0 [1,2,2]),(1,.frz 3 1 (ab .i64) 0 [1,3,1]),(2,.frz 42 1 aa [] [[1,2,2],[1,3,1]]),(3,.frz 3 1 (ab .i64) 0 [3])]<|.w 4 [(0,.frz 3 1 (ab .i64) 0 [1,2,2]),(1,.frz 3 1 (ab .i64) 0 [1,3]),(2,.frz 42 1 aa [] [[1,2,2],[1,3]]),(3,.frz 3 1 (ab .i64) 0 [2])]<|.w 5 [(3,(DS aK [[1,2,2],[]] 100 []).O'),(5,(JW (b8 aK [[1,2,2],[]] 100) (⟨[[1,2,2],[1,3,1]],[3],0⟩:Rs)).O),(7,.val (dB false)),(11,(DS aK [[1,2,2],[]] 2 []).O'),(13,(JW (b8 aK [[1,2,2],[]] 2) (⟨[[1,2,2],[1,3]],[2],0⟩:Rs)).O),(16,.val (dB false)),(19,.box 9 1 dc .empty [(bs [97]),(bs [97])]),(21,(Pf aK [[1,2,2],[]] 0 [(bs [97]),(bs [97])]).O),(23,(JW (da aK [[1,2,2],[]] [(bs [97]),(bs [97])]) (⟨[[1,2,2],[1,3]],[2],0⟩:Rs)).O)]<|.u 45 (.w 7 [(1,.frz 3 1 (ab .i64) 0 [4]),(2,.frz 42 1 aa [] [[4],[]]),(4,(DS aK [[4],[]] 1 []).O')]<|.w 8 [(3,(DS aK [[1,2,2],[]] 101 []).O')]<|.w 9 [(3,.val (dB true)),(8,.val (dB true)),(13,(K4 [[1,2,2],[1,3]] [[1,2,2],[1,3,1]]).O),(15,.val (dB true)),(20,(K4 [[1,2,2],[1,3,1]] [[1,2,2],[1,3]]).O),(23,.val (dB true)),(26,.frz 3 1 (ab .i64) 0 [1,3,2]),(27,.frz 42 1 aa [] [[],[1,3,2]]),(28,(NL [[1,2,2],[1,3,1]] [[],[1,3,2]]).O),(32,.val (dB true)),(37,(NL [[1,2,2],[1,3,1]] [[1,2,2],[1,3]]).O)]<|.e)) Tryz.func7 rfl rfl rfl (by kernel_rfl) ?_
 refine tt ⟨(Ls),tt ⟨⟨⟨rfl,oK⟩,⟨rfl,oK⟩,⟨rfl,oK⟩,oK⟩,⟨⟨⟨rfl,oK⟩,⟨rfl,oK⟩,oK⟩,tt ⟨⟨⟨rfl,oK⟩,⟨rfl,oK⟩,⟨rfl,oK⟩,oK⟩,⟨⟨⟨rfl,oK⟩,⟨rfl,oK⟩,⟨rfl,oK⟩,oK⟩,⟨⟨⟨rfl,oK⟩,⟨rfl,oK⟩,oK⟩,⟨⟨⟨rfl,oK⟩,oK⟩,tt ⟨⟨⟨rfl,oK⟩,⟨rfl,oK⟩,⟨rfl,oK⟩,oK⟩,⟨⟨⟨rfl,oK⟩,⟨rfl,oK⟩,oK⟩,⟨⟨⟨rfl,oK⟩,⟨rfl,oK⟩,oK⟩,⟨⟨⟨rfl,oK⟩,oK⟩,tt ⟨⟨⟨⟨rfl,rfl,oK⟩,⟨rfl,rfl,rfl,oK⟩,oK⟩,(sa aK [[1,2,2],[]] 100 [] c4 nO (by decide) (iB (by decide)))⟩,tt ⟨(r9 (b8 aK [[1,2,2],[]] 100) (⟨[[1,2,2],[1,3,1]],[3],0⟩:Rs) (jq c4).1 (jq c4).2.1 (by decide) (iB (by decide)) (jq c4).2.2),tt ⟨(mF Pg),tt ⟨⟨⟨⟨rfl,rfl,oK⟩,⟨rfl,rfl,rfl,oK⟩,oK⟩,(sa aK [[1,2,2],[]] 2 [] c4 nO (by decide) (iB (by decide)))⟩,tt ⟨(r9 (b8 aK [[1,2,2],[]] 2) (⟨[[1,2,2],[1,3]],[2],0⟩:Rs) (jq c4).1 (jq c4).2.1 (by decide) (iB (by decide)) (jq c4).2.2),tt ⟨(mF Ph),tt ⟨⟨⟨rfl,oK⟩,⟨rfl,oK⟩,oK⟩,tt ⟨(FP aK [[1,2,2],[]] 0 [(bs [97]),(bs [97])] c4 nO (by decide) (iB (by decide)) (by decide)),tt ⟨(r9 (da aK [[1,2,2],[]] [(bs [97]),(bs [97])]) (⟨[[1,2,2],[1,3]],[2],0⟩:Rs) (nN c4).1 (nN c4).2.1 (by decide) (iB (by decide)) (nN c4).2.2),tt ⟨(ze Pj),tt ⟨⟨⟨rfl,oK⟩,oK⟩,⟨⟨⟨rfl,oK⟩,⟨rfl,oK⟩,oK⟩,tt ⟨⟨⟨⟨rfl,rfl,oK⟩,⟨rfl,rfl,rfl,oK⟩,oK⟩,(sa aK [[4],[]] 1 [] c4 nO (by decide) (iB (by decide)))⟩,tt ⟨⟨⟨⟨rfl,rfl,oK⟩,⟨rfl,rfl,rfl,oK⟩,oK⟩,(sa aK [[1,2,2],[]] 101 [] c4 nO (by decide) (iB (by decide)))⟩,tt ⟨(vT QI),tt ⟨(vT QJ),tt ⟨(uT [[1,2,2],[1,3]] [[1,2,2],[1,3,1]] (by decide) (iB (by decide))),tt ⟨(bT (by decide)),tt ⟨(uT [[1,2,2],[1,3,1]] [[1,2,2],[1,3]] (by decide) (iB (by decide))),tt ⟨(mT (by decide)),tt ⟨⟨⟨rfl,oK⟩,⟨rfl,oK⟩,⟨rfl,oK⟩,oK⟩,⟨⟨⟨rfl,oK⟩,⟨rfl,oK⟩,oK⟩,⟨(Ar [[1,2,2],[1,3,1]] [[],[1,3,2]] (by decide) (iB (by decide))),tt ⟨(bT (by decide)),tt ⟨(Ar [[1,2,2],[1,3,1]] [[1,2,2],[1,3]] (by decide) (iB (by decide))),tt ⟨?_,oK⟩⟩⟩⟩⟩⟩⟩⟩⟩⟩⟩⟩⟩⟩⟩⟩⟩⟩⟩⟩⟩⟩⟩⟩⟩⟩⟩⟩⟩⟩⟩⟩⟩⟩⟩⟩⟩
 decide
abbrev cO (q zi zj:Nat):D:=.own q
abbrev cA (g q n zi zj:Nat):D:=if zi<n then .gr g zi else .own q
abbrev Rb (q:Nat):Prop:=∀zi zj,zi<1→zj<1→cO q zi zj=[D.own q].getD (zi*1+zj) .junk∧∀z8,[q].all (fun g=>!(Nat.beq g z8))=true→(cO q zi zj).free z8=true
abbrev Rc (n g q id:Nat):Prop:=n+1≤137438953472∧∀zi zj,zi<n+1→zj<1→cA g q n zi zj=(if zi<n then cG g zi zj else cO q (zi-n) zj)∧(cA g q n zi zj).free id=true∧∀z8,[g,q].all (fun g=>!(Nat.beq g z8))=true→(cA g q n zi zj).free z8=true
theorem Lu {q:Nat}:Rb q:=fun i j hi hj=>by
  have h1:i=0:=by omega
  have h2:j=0:=by omega
  subst h1;subst h2
  exact⟨rfl,fun k hk=>by simpa[D.free]using hk⟩
theorem Lv {n g q id:Nat} (hn:n+1≤137438953472) (hg:(!(Nat.beq g id))=true) (hq:(!(Nat.beq q id))=true):Rc n g q id:=⟨hn,fun i j hi hj=>by
  have key:∀k,(!(Nat.beq g k))=true→(!(Nat.beq q k))=true→(cA g q n i j).free k=true:=fun k h1 h2=>by
    show D.free k (if i<n then .gr g i else .own q)=true
    split
    · exact h1
    · exact h2
  refine⟨rfl,key id hg hq,fun k hk=>?_⟩
  simp only[TD,List.all_nil,Tr,RA]at hk
  exact key k hk.1 hk.2⟩
theorem Lw {g q n i:Nat}:Bc g n q (if i<n then .gr g i else .own q) (.gr g i)∨¬i<n+1:=by
  by_cases h:i<n
  · exact .inl (.inr ⟨(RH h).symm,.inl ⟨i,RH h,by omega⟩⟩)
  · by_cases h2:i=n
    · exact .inl (.inl ⟨RE h,by rw[h2]⟩)
    · exact .inr (by omega)
abbrev Rd (n g q:Nat) (l:List (List Int)) (w:List Int):Prop:=n≤n∧n+1=max n (n+1)∧(∀z8,z8<n+1→bu l z8=if z8=n then (⟨3,1,Int,ab .i64,0,w⟩:qC)else bu l z8)∧∀zi zj,zi<n+1→zj<1→Bc g n q (cA g q n zi zj) (cG g zi zj)
theorem Lx {n g q:Nat} {l:List (List Int)} {w:List Int} (h:w=l.getD n []):Rd n g q l w:=⟨RD _,by omega,fun k _=>by
  by_cases e:k=n
  · rw[RH e,h,e]
  · rw[RE e],fun i j hi hj=>Lw.resolve_right (by omega)⟩
abbrev NN (l:List (List Int)):t1:=⟨42,[(dL 1 aa [] l)],(.gr 0 0),(.nest 42 1 l.length (fun i _=>.me i) l.length (bu l))⟩
abbrev mm (l:List (List Int)):Lp (Nat):=io [0,3,4] 2 (fun (i:Nat)=>⟨[(0,(dL 1 aa [] l)),(3,(.own 0)),(4,(i6 (i:Int)))],[(.arrD 42 1 i [1] (cG 1)),(.grp i (bu l))]⟩) (fun (i:Nat)=>i≤l.length) (fun (i:Nat)=>l.length-i)
theorem qx (l:List (List Int)) (hl:l.length≤100000) (hs:∀i,(l.getD i []).length≤100000):CO (NN l):=by
 refine ah.vcO (V:=TT 1 (ai [] (([]:List (List Int)).map aa)∧TT 3 ((0=([]:List (List Int)).length∧∀zi zj,zi<0→zj<1→(cG 1) zi zj=fg aa [] ([]:List (List Int)) zi zj∧∀z8,[1].all (fun g=>!(Nat.beq g z8))=true→((cG 1) zi zj).free z8=true)∧TT 1 (GO (mm l) 0 (∀i,(mm l).inv i→TT 4 (CD ((i:Int)<(l.length:Int)) (TT 1 (ai [] (([]:List Int).map (ab .i64))∧TT 2 (IX (i:Int) l.length∧TT 1 ((([]:List Int).length+((l.getD i []).map (ab .i64)).length≤137438953472∧([]:List Int).map (ab .i64)++(l.getD i []).map (ab .i64)=(l.getD i []).map (ab .i64))∧Rb 2∧Rc i 1 2 0∧TT 1 (Rd i 1 2 l (l.getD i [])∧Jz (i+1) (i+1) 1∧TT 1 (W6 ((i+1:Nat):Int)∧TT 1 (AG (mm l) i (i+1)))))))) (Jz l.length i 1∧(l.length=i∧∀z8,z8<l.length→bu l z8=(bu l) z8)∧(∀zi zj,zi<l.length→zj<1→y7 1 (cG 1 zi zj) (.me zi))∧TT 3 (((.gr 0 0):D)=.gr 0 0∧((.nest 42 1 l.length (fun i _=>.me i) l.length (bu l)):ap)=(.nest 42 1 l.length (fun i _=>.me i) l.length (bu l)))))))))) (.w 1 [(0,.box 42 1 aa [] ([]:List (List Int)))]<|.gh 2 (Oj 0)<|.gh 2 (Ok (bu l))<|.gh 2 (eE 0 0 [1] (cG 1))<|.l (mm l) 0 (fun i=>.b 9 (.w 5 [(1,.box 3 1 (ab .i64) 0 ([]:List Int)),(6,.box 3 1 (ab .i64) 0 (l.getD i [])),(7,.cells [2] (cO 2)),(8,.cells [1,2] (cA 1 2 i))]<|.gh 4 (put 0 1 2 i (i+1) (cG 1) (bu l))<|.gh 4 (eE 0 (i+1) [1] (cG 1))<|.w 4 [(1,.val (i6 ((i+1:Nat):Int)))]<|.e) (.gh 6 (eE 0 l.length [1] (cG 1))<|.gh 6 (tz 1 l.length (bu l))<|.gh 6 (LO 0 1 (fun i _=>.me i))<|.e))) Tryz.func42 rfl rfl rfl (by kernel_rfl) ?_
 refine tt ⟨oK,tt ⟨⟨rfl,fun i j hi _=>absurd hi (Tz _)⟩,tt ⟨rfl,(Su _),?_⟩⟩⟩
 intro i I'
 have hi:=I'
 refine tt (cd (fun Yw=>?_) (fun Yw=>?_))
 · have hz:=hs i
   refine tt ⟨oK,tt ⟨ix,tt ⟨⟨by simp only[RJ,RN];omega,rfl⟩,⟨Lu,⟨(Lv om rfl rfl),tt ⟨(Lx rfl),⟨(xa rfl),tt ⟨w6,tt ⟨(i+1),rfl,(?_:(i+1)≤l.length),(?_:l.length-(i+1)<l.length-i)⟩⟩⟩⟩⟩⟩⟩⟩⟩
   · omega
   · omega
 · exact⟨(xa (by omega)),⟨⟨by omega,fun _ _=>rfl⟩,⟨(fun zi zj _ _=>.inl ⟨zi,rfl,rfl⟩),tt ⟨rfl,rfl⟩⟩⟩⟩
theorem FQ {s:Sg} {b:List Int} (hb:qy b) (i:Nat):fc s.sc (aQ s b i).1=some 1∧fI (aQ s b i).1≤3:=by
 unfold aQ
 split
 ·have h:=v8 (s:=s) hb 2 (i+1) 1 (by omega) (by omega) (by omega)
  exact⟨h.1,by have:=h.2.1;omega⟩
 ·exact⟨rfl,by show fI fX≤3;decide⟩
theorem NO (y:Int) (f:Nat→Rg) (hf:∀k,(f k).w=bJ y k):(⟨(tab f (s7 y)).map (·.w),[],[]⟩:Sc)=(NZ y).sc:=by
 have:(tab f (s7 y)).map (·.w)=NY y:=by
  unfold NY tab
  rw[TY]
  exact TR (fun k _=>hf k)
 rw[this];rfl
theorem NP (y:Int) (n:Nat) (f:Nat→Rg) (g:Nat→Tk) (hf:∀k,(f k).w=bJ y k) (hg:∀k,(g k).w=2):(⟨(tab f (s7 y)).map (·.w),[],(tab g n).map (·.w)⟩:Sc)=(BE y n).sc:=by
 have e1:(tab f (s7 y)).map (·.w)=NY y:=by
  unfold NY tab
  rw[TY]
  exact TR (fun k _=>hf k)
 have e2:(tab g n).map (·.w)=List.replicate n 2:=by
  apply Tm
  ·simp[am]
  ·intro i h1 h2
   simp[tab,hg]
 rw[e1,e2];rfl
theorem Ly {b:List Int} (hb:qy b) {i:Nat} {nm:ByteArray} {e:En} (ht:e.I.length≤2) (hp:e.Rv.length≤2):fk (bz b i nm e).1:=by
 have hy:=eS hb i
 have hn:=Dv hy.1
 have T7:Q8 (bz b i nm e).1=(NZ (b.getD i 0)).sc:=NO _ _ (fun k=>rfl)
 have Ur:ru (bz b i nm e).1=(BE (b.getD i 0) e.I.length).sc:=NP _ _ _ _ (fun k=>rfl) (fun k=>rfl)
 have l1:(bz b i nm e).1.Ry.length=s7 (b.getD i 0):=am _ _
 have l2:(bz b i nm e).1.I.length=e.I.length:=am _ _
 have l3:(bz b i nm e).1.Rv.length=e.Rv.length:=am _ _
 have l4:(bz b i nm e).1.Rx.length=0:=rfl
 refine⟨by omega,by omega,by omega,by omega,fun k hk=>?_,fun k hk=>by omega,fun k hk=>?_,fun k hk=>?_⟩
 ·rw[Ur]
  rw[l1]at hk
  have e1:J2 (bz b i nm e).1 k=Qv b (b.getD i 0) e.I.length (nx b i e) k:=aD hk
  rw[e1]
  have hw:=zU (b.getD i 0) k
  have h:=v8 (s:=BE (b.getD i 0) e.I.length) hb 3 (zQ b (b.getD i 0) e.I.length (nx b i e) k) (bJ (b.getD i 0) k) (by omega) (by omega) (by omega)
  refine⟨aW.2 (by show 1≤bJ (b.getD i 0) k∧bJ (b.getD i 0) k≤8;omega),?_,h.1,by have:=h.2.1;show fI (ao _ b 3 _ _).1≤3;omega⟩
  show d7 (b.getD i 0 / 8%2^(bJ (b.getD i 0) k).toNat) (bJ (b.getD i 0) k)
  unfold d7
  rw[cY (by omega) (by omega)]
  have hp2:(0:Int)<2^(bJ (b.getD i 0) k).toNat:=Int.pow_pos (by omega)
  exact⟨Tx _ (by omega),by have:=TJ (b.getD i 0 / 8) hp2;omega⟩
 ·rw[T7]
  rw[l2]at hk
  have e1:lF (bz b i nm e).1 k=G8 b (b.getD i 0) (i+1) e k:=aD hk
  rw[e1]
  exact⟨rfl,FQ hb _⟩
 ·rw[Ur]
  rw[l3]at hk
  have e1:tF (bz b i nm e).1 k=J3 b (b.getD i 0) e.I.length (mB b i e) e k:=aD hk
  rw[e1]
  have h:=v8 (s:=BE (b.getD i 0) e.I.length) hb 2 (aQ (BE (b.getD i 0) e.I.length) b (wn b (b.getD i 0) e.I.length (mB b i e) k)).2 2 (by omega) (by omega) (by omega)
  exact⟨rfl,FQ hb _,h.1,by have:=h.2.1;show fI (ao _ b 2 _ _).1≤3;omega⟩
def Pk (l:List En):Prop:=∀i,i<l.length→∀j,j<(l.getD i cS).I.length→0≤(l.getD i cS).I.getD j 0∧(l.getD i cS).I.getD j 0<rL l l.length+1∧AA l ((l.getD i cS).I.getD j 0) l.length=(i:Int)
def Pl (l:List En):Prop:=∀i,i<l.length→∀j,j<(l.getD i cS).Rv.length→0≤(l.getD i cS).Rv.getD j 0∧(l.getD i cS).Rv.getD j 0<rL l l.length+1∧AB l ((l.getD i cS).Rv.getD j 0) l.length=(i:Int)
def Pm (l:List En):Prop:=∀i,i<l.length→∀j,j<(l.getD i cS).I.length→∀k,k<(l.getD i cS).I.length→(l.getD i cS).I.getD j 0=(l.getD i cS).I.getD k 0→j=k
def Pn (l:List En):Prop:=∀i,i<l.length→∀j,j<(l.getD i cS).Rv.length→∀k,k<(l.getD i cS).Rv.length→(l.getD i cS).Rv.getD j 0=(l.getD i cS).Rv.getD k 0→j=k
theorem Po (sh:Int):Pk (ak sh)∧Pl (ak sh)∧Pm (ak sh)∧Pn (ak sh):=by
 unfold Pk Pl Pm Pn
 rcases jn sh with h | h | h | h | h | h<;>rw[h]<;>decide
theorem Mf {sh:Int} {b:List Int} (h0:0≤sh) (h1:sh≤255) (hb:qy b):be (a9 sh b):=by
 have Xf:=BH sh
 have hnc:=I9 sh
 obtain⟨q1,q2,q3,q4⟩:=Po sh
 have lp:(a9 sh b).U.length=(ak sh).length:=am _ _
 have lc:(a9 sh b).J.length=ky sh:=am _ _
 have gp:∀i,i<(ak sh).length→bg (a9 sh b) i=sg b (ak sh) i:=fun i hi=>aD hi
 have gc:∀n,n<ky sh→f9 (a9 sh b) n=wq sh (ak sh) n:=fun n hn=>aD hn
 have ltk:∀i,(sg b (ak sh) i).I.length=((ak sh).getD i cS).I.length:=fun i=>am _ _
 have lpt:∀i,(sg b (ak sh) i).Rv.length=((ak sh).getD i cS).Rv.length:=fun i=>am _ _
 have ctk:∀i j,j<((ak sh).getD i cS).I.length→(lF (sg b (ak sh) i) j).chan=((ak sh).getD i cS).I.getD j 0∧(lF (sg b (ak sh) i) j).w=2:=fun i j hj=>by
  have:lF (sg b (ak sh) i) j=G8 b _ _ ((ak sh).getD i cS) j:=aD hj
  rw[this];exact⟨rfl,rfl⟩
 have cpt:∀i j,j<((ak sh).getD i cS).Rv.length→(tF (sg b (ak sh) i) j).chan=((ak sh).getD i cS).Rv.getD j 0∧(tF (sg b (ak sh) i) j).w=2:=fun i j hj=>by
  have:tF (sg b (ak sh) i) j=J3 b _ _ _ ((ak sh).getD i cS) j:=aD hj
  rw[this];exact⟨rfl,rfl⟩
 have cast:∀x:Int,0≤x→((x.toNat:Nat):Int)=x:=fun x hx=>by omega
 refine⟨by omega,by omega,by omega,fun i hi=>?_,fun i hi j hj=>?_,fun i hi j hj=>?_,fun i hi j k hj hk he=>?_,fun i hi j k hj hk he=>?_,fun n hn=>?_,fun n hn=>?_⟩
 ·rw[lp]at hi
  rw[gp i hi]
  have he:=oU sh i
  exact Ly hb he.1 he.2
 ·rw[lp]at hi
  rw[gp i hi]at hj ⊢
  rw[ltk]at hj
  obtain⟨a1,a2,a3⟩:=q1 i hi j hj
  obtain⟨c1,c2⟩:=ctk i j hj
  have e:ng (sg b (ak sh) i) j=(((ak sh).getD i cS).I.getD j 0).toNat:=by show(lF _ j).chan.toNat=_;rw[c1]
  rw[c1,c2,e,gc _ (by omega),lc]
  refine⟨a1,by omega,rfl,?_⟩
  show AA _ _ _=_
  rw[cast _ a1];exact a3
 ·rw[lp]at hi
  rw[gp i hi]at hj ⊢
  rw[lpt]at hj
  obtain⟨a1,a2,a3⟩:=q2 i hi j hj
  obtain⟨c1,c2⟩:=cpt i j hj
  have e:wV (sg b (ak sh) i) j=(((ak sh).getD i cS).Rv.getD j 0).toNat:=by show(tF _ j).chan.toNat=_;rw[c1]
  rw[c1,c2,e,gc _ (by omega),lc]
  refine⟨a1,by omega,rfl,?_⟩
  show AB _ _ _=_
  rw[cast _ a1];exact a3
 ·rw[lp]at hi
  rw[gp i hi]at hj hk he
  rw[ltk]at hj hk
  have a1:=(q1 i hi j hj).1
  have a2:=(q1 i hi k hk).1
  have e1:ng (sg b (ak sh) i) j=(((ak sh).getD i cS).I.getD j 0).toNat:=by show(lF _ j).chan.toNat=_;rw[(ctk i j hj).1]
  have e2:ng (sg b (ak sh) i) k=(((ak sh).getD i cS).I.getD k 0).toNat:=by show(lF _ k).chan.toNat=_;rw[(ctk i k hk).1]
  exact q3 i hi j hj k hk (by omega)
 ·rw[lp]at hi
  rw[gp i hi]at hj hk he
  rw[lpt]at hj hk
  have a1:=(q2 i hi j hj).1
  have a2:=(q2 i hi k hk).1
  have e1:wV (sg b (ak sh) i) j=(((ak sh).getD i cS).Rv.getD j 0).toNat:=by show(tF _ j).chan.toNat=_;rw[(cpt i j hj).1]
  have e2:wV (sg b (ak sh) i) k=(((ak sh).getD i cS).Rv.getD k 0).toNat:=by show(tF _ k).chan.toNat=_;rw[(cpt i k hk).1]
  exact q4 i hi j hj k hk (by omega)
 ·rw[lc]at hn
  rw[gc n hn];rfl
 ·rw[lc]at hn
  rw[gc n hn]
  show(0:Int)≤if _ then _ else _
  split
  ·exact Int.add_nonneg (by decide) (Tx _ (by decide))
  ·exact Int.le_refl 0
theorem Pp {sh:Int} {b:List Int}:J5 (a9 sh b):=by
 have key:∀e∈ak sh,1≤e.Rv.length∧e.Rv.length≤2:=by
  rcases jn sh with h | h | h | h | h | h<;>rw[h]<;>simp
 intro p hp
 have Vo:p<(ak sh).length:=by rw[show(a9 sh b).U.length=(ak sh).length from am _ _]at hp;exact hp
 have e:bg (a9 sh b) p=sg b (ak sh) p:=aD Vo
 have hl:(sg b (ak sh) p).Rv.length=((ak sh).getD p cS).Rv.length:=by
  show(tab _ _).length=_
  rw[am]
 rw[e,hl,dF _ _ Vo]
 exact key _ (Tp Vo)
theorem NQ {sh:Int} {b:List Int}:∀n,n<(a9 sh b).J.length→-1≤(f9 (a9 sh b) n).frm:=by
 intro n hn
 have hn':n<ky sh:=by rw[show(a9 sh b).J.length=ky sh from am _ _]at hn;exact hn
 rw[show f9 (a9 sh b) n=wq sh (ak sh) n from aD hn']
 exact(Dw _ _ _).1
theorem Pq {sh:Int} {b bb:List Int} (h0:0≤sh) (h1:sh≤255) (hb:qy b) (hbb:qy bb):nz (a9 sh b) (jo (a9 sh b) bb):=OZ (Mf h0 h1 hb) hbb NQ
section
variable {c:Ci} {D' inp2:List (List Int)} {n n2:Nat} {J' cl2:List ByteArray}
theorem DT (h:nz c D') (hc:be c):D'.length≤100000∧∀z∈D',z.length≤100000:=by
 refine⟨by rw[h.l];have:=hc.cl;omega,fun z hz=>?_⟩
 obtain⟨i,hi,rfl⟩:=Tf hz
 have:=h.sm i
 rw[dF _ _ hi]at this
 omega
end
section
variable {c:Ci} {D':List (List Int)} {u v:Uf} {k n s:Nat}
theorem NR (h:UI c D' n u) (hb:1000+n*c.U.length≤100000) (i:Nat):((br c u).getD i []).length≤9223372036854775807:=by
 by_cases hi:i<c.J.length
 ·rw[show(br c u).getD i []=u.l i from aD hi]
  have:=wv h i
  omega
 ·rw[show(br c u).getD i []=[]from uG (by omega)]
  exact Su _
end
theorem kL {c:Ci} {D':List (List Int)} {n:Nat} (h:¬(D'.getD n []).length≤1000):lM c D' n=false:=by unfold lM;rw[R6 h];rfl
theorem kM {c:Ci} {D':List (List Int)} {n:Nat} (h:¬(D'.getD n []).length=0) (h2:¬(c.J.getD n bK).frm=-1):lM c D' n=false:=by unfold lM;rw[R6 h,R6 h2];simp
theorem kN {c:Ci} {D':List (List Int)} {n:Nat} (h:¬jh (D'.getD n []) (c.J.getD n bK).w=true):lM c D' n=false:=by unfold lM;rw[Ty.2 h];simp
theorem Ca {c:Ci} {D':List (List Int)} {n:Nat} (h:(D'.getD n []).length≤1000) (h2:(D'.getD n []).length=0∨(c.J.getD n bK).frm=-1) (h3:jh (D'.getD n []) (c.J.getD n bK).w=true):lM c D' n=true:=by
  unfold lM
  rw[RX h,h3,Tc,Tr]
  rcases h2 with h2 | h2
  · rw[RX h2];rfl
  · rw[RX h2,Bool.or_true]
abbrev QX (n:Nat):Ct:=⟨45,[(i6 (n:Int))],true,(LB (List.replicate n true))⟩
abbrev po (n:Nat):Lp (Nat):=io [0,3,4] 1 (fun (i:Nat)=>⟨[(0,(i6 (n:Int))),(3,(.own 0)),(4,(i6 (i:Int)))],[(.arr 4 1 aL false (List.replicate i true))]⟩) (fun (i:Nat)=>i≤n) (fun (i:Nat)=>n-i)
theorem G3 (n:Nat) (h:n≤100000):CC (QX n):=by
 refine ah.vc (V:=TT 1 (ai [] ((List.replicate 0 true).map aL)∧TT 2 (GO (po n) 0 (∀i,(po n).inv i→TT 3 (CD ((i:Int)<(n:Int)) (TT 1 (ai [[(dB true)]] ([true].map aL)∧((List.replicate i true).length+([true].map aL).length≤137438953472∧(List.replicate i true).map aL++[true].map aL=(List.replicate (i+1) true).map aL)∧TT 2 (W6 ((i+1:Nat):Int)∧TT 1 (AG (po n) i (i+1))))) (TT 3 ((List.replicate i true).map aL=(List.replicate n true).map aL))))))) (.w 1 [(0,.box 4 1 aL false (List.replicate 0 true))]<|.l (po n) 0 (fun i=>.b 8 (.w 5 [(1,.box 4 1 aL false [true]),(2,.box 4 1 aL false (List.replicate (i+1) true))]<|.w 4 [(1,.val (i6 ((i+1:Nat):Int)))]<|.e) (.e))) Tryz.func45 rfl rfl rfl (by kernel_rfl) ?_
 refine tt ⟨oK,tt ⟨rfl,(Su _),?_⟩⟩
 intro i I'
 have hi:=I'
 refine tt (cd (fun Z5=>?_) (fun Z5=>?_))
 · refine tt ⟨⟨⟨rfl,oK⟩,oK⟩,⟨⟨by simp;omega,by rw[List.replicate_succ',RO]⟩,tt ⟨w6,tt ⟨(i+1),rfl,(?_:(i+1)≤n),(?_:n-(i+1)<n-i)⟩⟩⟩⟩
   · omega
   · omega
 · refine tt (congrArg _ (?_:(List.replicate i true)=(List.replicate n true)))
   rw[show i=n by omega]
abbrev JX (c:Ci) (D':List (List Int)):Ct:=⟨40,[(.agg [(dL 6 fS ac c.U),(dL 5 ga bK c.J)]),(dL 1 aa [] D')],false,(dB (cJ c D'))⟩
abbrev ig (c:Ci) (D':List (List Int)):Lp (Nat):=io [1,2,5] 1 (fun (i:Nat)=>⟨[(1,(dL 1 aa [] D')),(2,(.ptr 0 0 0 0)),(5,(i6 (i:Int)))],[(.var 33 [(dL 6 fS ac c.U),(dL 5 ga bK c.J)])]⟩) (fun (i:Nat)=>i≤c.J.length∧∀z,z<i→lM c D' z=true) (fun (i:Nat)=>c.J.length-i)
theorem ii (c:Ci) (D':List (List Int)) (hc:be c) (hl:D'.length≤9223372036854775807) (hs:∀i,(D'.getD i []).length≤9223372036854775807):CC (JX c D'):=by
 have UU:=hc.nl
 have hcl:=hc.cl
 refine ah.vc (V:=TT 8 (CN ((D'.length:Int)=(c.J.length:Int)) (TT 2 (false=(cJ c D')∧True)) (TT 1 (GO (ig c D') 0 (∀i,(ig c D').inv i→TT 4 (CD ((i:Int)<(D'.length:Int)) (CS ((((D'.getD i []).length:Nat):Int)>1000) (TT 2 (IX (i:Int) D'.length∧TT 3 ((True∧(decide ((((D'.getD i []).length:Nat):Int)>1000))=true)∧TT 5 (false=(cJ c D')∧True)))) (CS ((((D'.getD i []).length:Nat):Int)>0) (CS (((c.J.getD i bK).frm)=(-1)) (TT 2 (IX (i:Int) D'.length∧TT 3 ((True∧(decide ((((D'.getD i []).length:Nat):Int)>1000))=false)∧TT 2 (IX (i:Int) D'.length∧TT 3 ((True∧(decide ((((D'.getD i []).length:Nat):Int)>0))=true)∧TT 3 (IX (i:Int) c.J.length∧TT 5 ((True∧(!decide (((c.J.getD i bK).frm)=(-1)))=false)∧TT 2 (IX (i:Int) D'.length∧TT 4 (IX (i:Int) c.J.length∧TT 2 (CC (Pa (D'.getD i []) ((c.J.getD i bK).w))∧TT 2 (CB (!(jh (D'.getD i []) ((c.J.getD i bK).w))) (TT 2 (false=(cJ c D')∧True)) (TT 1 (W6 ((i+1:Nat):Int)∧TT 1 (AG (ig c D') i (i+1))))))))))))))) (TT 2 (IX (i:Int) D'.length∧TT 3 ((True∧(decide ((((D'.getD i []).length:Nat):Int)>1000))=false)∧TT 2 (IX (i:Int) D'.length∧TT 3 ((True∧(decide ((((D'.getD i []).length:Nat):Int)>0))=true)∧TT 3 (IX (i:Int) c.J.length∧TT 5 ((True∧(!decide (((c.J.getD i bK).frm)=(-1)))=true)∧TT 3 (false=(cJ c D')∧True))))))))) (TT 2 (IX (i:Int) D'.length∧TT 3 ((True∧(decide ((((D'.getD i []).length:Nat):Int)>1000))=false)∧TT 2 (IX (i:Int) D'.length∧TT 3 ((True∧(decide ((((D'.getD i []).length:Nat):Int)>0))=false)∧TT 5 (IX (i:Int) D'.length∧TT 4 (IX (i:Int) c.J.length∧TT 2 (CC (Pa (D'.getD i []) ((c.J.getD i bK).w))∧TT 2 (CB (!(jh (D'.getD i []) ((c.J.getD i bK).w))) (TT 2 (false=(cJ c D')∧True)) (TT 1 (W6 ((i+1:Nat):Int)∧TT 1 (AG (ig c D') i (i+1))))))))))))))) (TT 2 (true=(cJ c D')∧True)))))))) (.b 11 (.e) (.l (ig c D') 0 (fun i=>.b 15 (.s 6 ((((D'.getD i []).length:Nat):Int)>1000) (.w 6 [(6,.val (dB true))]<|.e) (.s 6 ((((D'.getD i []).length:Nat):Int)>0) (.s 6 (((c.J.getD i bK).frm)=(-1)) (.w 6 [(6,.val (dB false)),(13,.val (dB true)),(23,.val (dB false)),(34,(Pa (D'.getD i []) ((c.J.getD i bK).w)).O)]<|.b 54 (.e) (.w 5 [(1,.val (i6 ((i+1:Nat):Int)))]<|.e)) (.w 6 [(6,.val (dB false)),(13,.val (dB true)),(23,.val (dB true))]<|.e)) (.w 6 [(6,.val (dB false)),(13,.val (dB false)),(34,(Pa (D'.getD i []) ((c.J.getD i bK).w)).O)]<|.b 54 (.e) (.w 5 [(1,.val (i6 ((i+1:Nat):Int)))]<|.e)))) (.e)))) Tryz.func40 rfl rfl rfl (by kernel_rfl) ?_
 refine tt (cn (fun Wc=>?_) (fun Wc=>?_))
 · refine tt ⟨?_,oK⟩
   first | exact(fp (by omega)).symm | exact(dC (n:=i) (by omega) (kL (by omega))).symm | exact(dC (n:=i) (by omega) (kM (by omega) (by omega))).symm | exact(dC (n:=i) (by omega) (kN (by first | assumption | simp_all))).symm | exact(fq (by omega) (fun z hz=>h3 z (by omega))).symm
 · refine tt ⟨rfl,⟨by omega,fun z hz=>by omega⟩,?_⟩
   intro i I'
   obtain⟨hi,h3⟩:=I'
   refine tt (cd (fun UP=>?_) (fun UP=>?_))
   · have hz:=hs i
     refine⟨fun T7=>?_,fun T7=>?_⟩
     · refine tt ⟨ix,tt ⟨(vT T7),tt ⟨?_,oK⟩⟩⟩
       first | exact(fp (by omega)).symm | exact(dC (n:=i) (by omega) (kL (by omega))).symm | exact(dC (n:=i) (by omega) (kM (by omega) (by omega))).symm | exact(dC (n:=i) (by omega) (kN (by first | assumption | simp_all))).symm | exact(fq (by omega) (fun z hz=>h3 z (by omega))).symm
     · refine⟨fun Ur=>?_,fun Ur=>?_⟩
       · refine⟨fun Vs=>?_,fun Vs=>?_⟩
         · refine tt ⟨ix,tt ⟨(vF T7),tt ⟨ix,tt ⟨(vT Ur),tt ⟨ix,tt ⟨(nF Vs),tt ⟨ix,tt ⟨ix,tt ⟨(wN (D'.getD i []) ((c.J.getD i bK).w) hz),tt ⟨fun U4=>?_,fun U4=>?_⟩⟩⟩⟩⟩⟩⟩⟩⟩⟩
           · refine tt ⟨?_,oK⟩
             first | exact(fp (by omega)).symm | exact(dC (n:=i) (by omega) (kL (by omega))).symm | exact(dC (n:=i) (by omega) (kM (by omega) (by omega))).symm | exact(dC (n:=i) (by omega) (kN (by first | assumption | simp_all))).symm | exact(fq (by omega) (fun z hz=>h3 z (by omega))).symm
           · refine tt ⟨w6,tt ⟨(i+1),rfl,?_,(?_:c.J.length-(i+1)<c.J.length-i)⟩⟩
             · exact⟨by omega,di h3 (Ca (by omega) (by first | exact .inl (by omega) | exact .inr (by omega)) (by first | assumption | simp_all))⟩
             · omega
         · refine tt ⟨ix,tt ⟨(vF T7),tt ⟨ix,tt ⟨(vT Ur),tt ⟨ix,tt ⟨(nT Vs),tt ⟨?_,oK⟩⟩⟩⟩⟩⟩⟩
           first | exact(fp (by omega)).symm | exact(dC (n:=i) (by omega) (kL (by omega))).symm | exact(dC (n:=i) (by omega) (kM (by omega) (by omega))).symm | exact(dC (n:=i) (by omega) (kN (by first | assumption | simp_all))).symm | exact(fq (by omega) (fun z hz=>h3 z (by omega))).symm
       · refine tt ⟨ix,tt ⟨(vF T7),tt ⟨ix,tt ⟨(vF Ur),tt ⟨ix,tt ⟨ix,tt ⟨(wN (D'.getD i []) ((c.J.getD i bK).w) hz),tt ⟨fun U4=>?_,fun U4=>?_⟩⟩⟩⟩⟩⟩⟩⟩
         · refine tt ⟨?_,oK⟩
           first | exact(fp (by omega)).symm | exact(dC (n:=i) (by omega) (kL (by omega))).symm | exact(dC (n:=i) (by omega) (kM (by omega) (by omega))).symm | exact(dC (n:=i) (by omega) (kN (by first | assumption | simp_all))).symm | exact(fq (by omega) (fun z hz=>h3 z (by omega))).symm
         · refine tt ⟨w6,tt ⟨(i+1),rfl,?_,(?_:c.J.length-(i+1)<c.J.length-i)⟩⟩
           · exact⟨by omega,di h3 (Ca (by omega) (by first | exact .inl (by omega) | exact .inr (by omega)) (by first | assumption | simp_all))⟩
           · omega
   · refine tt ⟨?_,oK⟩
     first | exact(fp (by omega)).symm | exact(dC (n:=i) (by omega) (kL (by omega))).symm | exact(dC (n:=i) (by omega) (kM (by omega) (by omega))).symm | exact(dC (n:=i) (by omega) (kN (by first | assumption | simp_all))).symm | exact(fq (by omega) (fun z hz=>h3 z (by omega))).symm
abbrev Cb (c:Ci) (sv:Ns) (J':List ByteArray) (i:Nat):ap:=(.var 120 [(dL 2 bn bh ((bk c sv (aU c (J'.getD i .empty))).U)),(dL 1 aa [] ((bk c sv (aU c (J'.getD i .empty))).J)),(LB (tab (av c sv (aU c (J'.getD i .empty))) c.U.length))])
abbrev FR (c:Ci) (sv:Ns) (k:Nat):ap:=(.var 101 [(dB ((ae c sv k).fires)),(LI (((ae c sv k).s).Ry)),(dL 1 aa [] (((ae c sv k).s).Rx)),(LB ((ae c sv k).pops)),(dL 2 bt aJ ((ae c sv k).Rv))])
abbrev yr (sv:Ns):ap:=(.var 70 [(dL 2 bn bh sv.U),(dL 1 aa [] sv.J)])
abbrev yu (c:Ci):ap:=(.var 33 [(dL 6 fS ac c.U),(dL 5 ga bK c.J)])
abbrev yv:ap:=(.var 45 [(.own 15),(.own 12),(i6 0)])
abbrev yw (D':List (List Int)) (n:Int) (J':List ByteArray):ap:=(.var 39 [(dL 1 aa [] D'),(i6 n),(dL 1 dc .empty J')])
abbrev yx:ap:=(.var 45 [.nils,.nils,(i6 0)])
set_option maxRecDepth 100000
abbrev QY (c:Ci) (D':List (List Int)) (n:Int) (J':List ByteArray):Ct:=⟨16,[(.agg [(dL 6 fS ac c.U),(dL 5 ga bK c.J)]),(.agg [(dL 1 aa [] D'),(i6 n),(dL 1 dc .empty J')])],true,(.agg [(dL 1 aa [] ((da c D' J').l)),(LI ((da c D' J').c)),(i6 ((da c D' J').e))])⟩
abbrev pp (c:Ci) (D':List (List Int)) (n:Int) (J':List ByteArray):Lp (Nat×Ns×Uf):=LQ [2,3,4,5,6,7] 16 (fun (i:Nat) (sv:Ns) (uv:Uf)=>⟨[(2,(.ptr 0 0 0 0)),(3,(.ptr 1 0 0 0)),(4,(.ptr 2 0 0 0)),(5,(.ptr 3 0 0 0)),(6,(.ptr 14 0 0 0)),(7,(i6 (i:Int)))],[(yu c),(yw D' n J'),yx,(yr sv),.dead,.dead,.dead,.dead,(.grp c.J.length (bu (br c uv))),.dead,.dead,.dead,(.arr 3 1 (ab .i64) 0 (bO c uv)),.dead,yv,(.arrD 42 1 c.J.length [8] (cG 8))]⟩) (fun (i:Nat) (sv:Ns) (uv:Uf)=>i≤J'.length∧sv=Jw c D' J' i∧uv=Ha c D' J' i) (fun (i:Nat) (sv:Ns) (uv:Uf)=>J'.length-i)
abbrev kO (c:Ci) (D':List (List Int)) (n:Int) (J':List ByteArray) (i:Nat) (sv:Ns) (uv:Uf):Lp (Nat×Uf):=pI [2,3,4,5,6,7,8,9] 25 (fun (k:Nat) (vv:Uf)=>⟨[(2,(.ptr 0 0 0 0)),(3,(.ptr 1 0 0 0)),(4,(.ptr 2 0 0 0)),(5,(.ptr 3 0 0 0)),(6,(.ptr 14 0 0 0)),(7,(i6 (i:Int))),(8,(.ptr 24 0 0 0)),(9,(i6 (k:Int)))],[(yu c),(yw D' n J'),yx,(yr sv),.dead,.dead,.dead,.dead,(.grp c.J.length (bu (br c vv))),.dead,.dead,.dead,(.arr 3 1 (ab .i64) 0 (bO c vv)),.dead,yv,(.arrD 42 1 c.J.length [8] (cG 8)),.dead,.dead,.dead,.dead,.dead,.dead,.dead,.dead,(Cb c sv J' i)]⟩) (fun (k:Nat) (vv:Uf)=>k≤c.U.length∧vv=GR c sv uv (aU c (J'.getD i .empty)) k) (fun (k:Nat) (vv:Uf)=>c.U.length-k)
abbrev kP (c:Ci) (D':List (List Int)) (n:Int) (J':List ByteArray) (i:Nat) (sv:Ns) (k:Nat) (vv:Uf):Lp (Nat×List (List Int)):=pI [2,3,4,5,6,7,8,9,10,11] 26 (fun (m:Nat) (em:List (List Int))=>⟨[(2,(.ptr 0 0 0 0)),(3,(.ptr 1 0 0 0)),(4,(.ptr 2 0 0 0)),(5,(.ptr 3 0 0 0)),(6,(.ptr 14 0 0 0)),(7,(i6 (i:Int))),(8,(.ptr 24 0 0 0)),(9,(i6 (k:Int))),(10,(.ptr 25 0 0 0)),(11,(i6 (m:Int)))],[(yu c),(yw D' n J'),yx,(yr sv),.dead,.dead,.dead,.dead,(.grp c.J.length (bu em)),.dead,.dead,.dead,(.arr 3 1 (ab .i64) 0 (bO c (aj c vv k))),.dead,yv,(.arrD 42 1 c.J.length [8] (cG 8)),.dead,.dead,.dead,.dead,.dead,.dead,.dead,.dead,(Cb c sv J' i),(FR c sv k)]⟩) (fun (m:Nat) (em:List (List Int))=>m≤(c.U.getD k ac).Rv.length∧em=bB (br c vv) (kS (c.U.getD k ac) (ae c sv k) m)) (fun (m:Nat) (em:List (List Int))=>(c.U.getD k ac).Rv.length-m)
abbrev Cc (c:Ci) (D':List (List Int)) (n:Int) (J':List ByteArray) (i:Nat) (sv:Ns) (k:Nat) (vv:Uf) (m:Nat) (em:List (List Int)):List ap:=[(yu c),(yw D' n J'),yx,(yr sv),.dead,.dead,.dead,.dead,(.grp c.J.length (jR (bu em) (((c.U.getD k ac).Rv.getD m aB).chan.toNat) (ju (bu em (((c.U.getD k ac).Rv.getD m aB).chan.toNat))))),.dead,.dead,.dead,(.arr 3 1 (ab .i64) 0 (bO c (aj c vv k))),.dead,yv,(.arrD 42 1 c.J.length [26,8] (cT 8 26 (((c.U.getD k ac).Rv.getD m aB).chan.toNat))),.dead,.dead,.dead,.dead,.dead,.dead,.dead,.dead,(Cb c sv J' i),(FR c sv k),(.arr 3 1 (ab .i64) 0 (em.getD (((c.U.getD k ac).Rv.getD m aB).chan.toNat) [])),.dead,.dead,.dead,.dead,.dead,.dead,.dead,.dead,.dead,.dead,.dead,.dead,.dead,.dead,.dead]
abbrev Cd (c:Ci) (D':List (List Int)) (n:Int) (J':List ByteArray) (i:Nat) (sv:Ns) (k:Nat) (vv:Uf) (m:Nat) (em:List (List Int)):List ap:=[(yu c),(yw D' n J'),yx,(yr sv),.dead,.dead,.dead,.dead,(.grp c.J.length (jR (bu em) (((c.U.getD k ac).Rv.getD m aB).chan.toNat) (ju (bu em (((c.U.getD k ac).Rv.getD m aB).chan.toNat))))),.dead,.dead,.dead,(.arr 3 1 (ab .i64) 0 (bO c (aj c vv k))),.dead,yv,(.arrD 42 1 c.J.length [8] (cK 8 26 (((c.U.getD k ac).Rv.getD m aB).chan.toNat))),.dead,.dead,.dead,.dead,.dead,.dead,.dead,.dead,(Cb c sv J' i),(FR c sv k),(.arr 3 1 (ab .i64) 0 ((em.getD (((c.U.getD k ac).Rv.getD m aB).chan.toNat) [])++[(((ae c sv k)).Rv.getD m aJ).v])),.dead,.dead,.dead,.dead,.dead,.dead,.dead,.dead,.dead,.dead,.dead,.dead,.dead,.dead,.dead]
abbrev Cf (c:Ci) (D':List (List Int)) (n:Int) (J':List ByteArray) (i:Nat) (sv:Ns) (k:Nat) (vv:Uf) (m:Nat) (em:List (List Int)):List ap:=[(yu c),(yw D' n J'),yx,(yr sv),.dead,.dead,.dead,.dead,(.grp c.J.length (jR (bu em) (((c.U.getD k ac).Rv.getD m aB).chan.toNat) (ju (bu em (((c.U.getD k ac).Rv.getD m aB).chan.toNat))))),.dead,.dead,.dead,(.arr 3 1 (ab .i64) 0 (bO c (aj c vv k))),.dead,yv,(.arrD 42 1 c.J.length [26,8] (cT 8 26 (((c.U.getD k ac).Rv.getD m aB).chan.toNat))),.dead,.dead,.dead,.dead,.dead,.dead,.dead,.dead,(Cb c sv J' i),(FR c sv k),(.arr 3 1 (ab .i64) 0 ((em.getD (((c.U.getD k ac).Rv.getD m aB).chan.toNat) [])++[(((ae c sv k)).Rv.getD m aJ).v])),.dead,.dead,.dead,.dead,.dead,.dead,.dead,.dead,.dead,.dead,.dead,.dead,.dead,.dead,.dead]
def ti (c:Ci) (D':List (List Int)) (n:Int) (J':List ByteArray) (i:Nat) (sv:Ns) (k:Nat) (vv:Uf) (m:Nat) (em:List (List Int)) (zn:Nat):St:=⟨fE zn [(2,0,0,0,(.ptr 0 0 0 0)),(3,0,0,0,(.ptr 1 0 0 0)),(4,0,0,0,(.ptr 2 0 0 0)),(5,0,0,0,(.ptr 3 0 0 0)),(6,0,0,0,(.ptr 14 0 0 0)),(7,0,0,0,(i6 (i:Int))),(8,0,0,0,(.ptr 24 0 0 0)),(9,0,0,0,(i6 (k:Int))),(10,0,0,0,(.ptr 25 0 0 0)),(11,0,0,0,(i6 (m:Int))),(12,0,0,196612,(i6 ((((c.U.getD k ac).Rv).getD m aB).chan))),(101,1,0,196610,(.ptr 14 0 0 0)),(102,3,0,196608,(.own 15)),(103,4,0,196608,(i6 ((((c.U.getD k ac).Rv).getD m aB).chan))),(108,0,0,229376,(.own 26)),(115,0,0,229376,(LI [(((ae c sv k)).Rv.getD m aJ).v])),(116,32768,0,131072,(.own 26)),(117,98311,0,131072,(.ptr 15 (((((c.U.getD k ac).Rv).getD m aB).chan).toNat) 1 0))],(if Nat.beq (zn &&& 229383) 229383 then (Cf c D' n J' i sv k vv m em)else (if Nat.beq (zn &&& 32768) 32768 then (Cd c D' n J' i sv k vv m em)else (Cc c D' n J' i sv k vv m em)))⟩
theorem G4 (c:Ci) (D':List (List Int)) (n:Int) (J':List ByteArray) (hc:be c) (hq:J5 c) (hl:D'.length≤9223372036854775807) (hs:∀i,(D'.getD i []).length≤9223372036854775807) (hcl:J'.length≤9223372036854775807):CC (QY c D' n J'):=by
 have UU:=hc.nl
 have hcl:=hc.cl
 refine ah.vc (V:=TT 3 (CS ((cJ c D')=true) (TT 3 (CC (JX c D')∧TT 1 ((True∧(!(cJ c D'))=false)∧TT 5 (CD ((J'.length:Int)>100) (TT 3 (((da c D' J').l)=[]∧((da c D' J').c)=[]∧(1:Int)=((da c D' J').e)∧True)) (TT 1 (CC (QN c)∧TT 4 (CO (NN D')∧TT 3 ((D'.length=D'.length∧(∀x∈D',(aa x).length=1)∧∀zi zj,zi<D'.length→zj<1→(fun (zi zj:Nat)=>eO 4 (.gs (fun zr=>.sl ((bu D') zr).sz ((bu D') zr).enc ((bu D') zr).d ((bu D') zr).l)) ((fun (zi zj:Nat)=>Gi 4 ((fun i _=>.me i) zi zj)) zi zj)) zi zj=fg aa [] D' zi zj)∧TT 2 (CO (NN D')∧TT 3 ((((0:Int)≤(c.U.length:Int)∧(c.U.length:Int)≤(c.U.length:Int)∧(c.U.length:Int)≤137438953472)∧(bO c (u0 c D')).length=c.U.length∧∀x∈(bO c (u0 c D')),cg [(i6 0)] ((ab .i64) x))∧TT 4 ((c.J.length=D'.length∧∀zi zj,zi<c.J.length→zj<1→(cG 8) zi zj=(fun (zi zj:Nat)=>Gi 8 ((fun i _=>.me i) zi zj)) zi zj∧∀z8,[8].all (fun g=>!(Nat.beq g z8))=true→((cG 8) zi zj).free z8=true)∧(c.J.length=D'.length∧∀z8,z8<c.J.length→bu (br c (u0 c D')) z8=(bu D') z8)∧TT 1 (GO (pp c D' n J') (0,G9 c D',u0 c D') (∀i sv uv,(pp c D' n J').inv (i,sv,uv)→TT 5 (CD ((i:Int)<(J'.length:Int)) (TT 5 (IX (i:Int) J'.length∧TT 1 (CC (QQ c sv (J'.getD i .empty))∧TT 3 (GO (kO c D' n J' i sv uv) (0,uv) (∀k vv,(kO c D' n J' i sv uv).inv (k,vv)→TT 5 (CD ((k:Int)<(c.U.length:Int)) (TT 3 (IX (k:Int) ((tab (av c sv (aU c (J'.getD i .empty))) c.U.length).length)∧TT 2 (CB (!((tab (av c sv (aU c (J'.getD i .empty))) c.U.length).getD k false)) (TT 1 (W6 ((k+1:Nat):Int)∧TT 1 (AG (kO c D' n J' i sv uv) (k,vv) (k+1,vv)))) (TT 3 (IX (k:Int) ((bO c vv).length)∧(k<(bO c vv).length∧True)∧W6 (((bO c vv).getD k 0)+1)∧IX (k:Int) ((bO c vv).length)∧(k<(bO c vv).length∧((bO c vv).map (ab .i64)).set k (((ab .i64) ((bO c vv).getD k 0)).take 0++[(.int .i64 (((bO c vv).getD k 0)+1))]++((ab .i64) ((bO c vv).getD k 0)).drop (0+1))=(bO c (aj c vv k)).map (ab .i64))∧TT 3 (CC (Pb c sv k)∧TT 3 (GO (kP c D' n J' i sv k vv) (0,br c vv) (∀m em,(kP c D' n J' i sv k vv).inv (m,em)→TT 5 (CD ((m:Int)<((((ae c sv k).Rv).length:Nat):Int)) (TT 3 (IX (m:Int) (((ae c sv k).Rv).length)∧TT 2 (CB ((((ae c sv k).Rv).getD m aJ).has) (TT 3 (IX (k:Int) c.U.length∧TT 3 (IX (m:Int) (((c.U.getD k ac).Rv).length)∧TT 3 (NA c.J.length c.J.length 8 (((c.U.getD k ac).Rv.getD m aB).chan.toNat) 26∧TT 6 (IX ((((c.U.getD k ac).Rv).getD m aB).chan) c.J.length∧((((((c.U.getD k ac).Rv).getD m aB).chan).toNat<c.J.length∧True)∧p6 ((cT 8 26 (((c.U.getD k ac).Rv.getD m aB).chan.toNat)) (((((c.U.getD k ac).Rv).getD m aB).chan).toNat) 0) (.own 26))∧TT 3 (IX (m:Int) (((ae c sv k).Rv).length)∧TT 2 (ai [[(i6 ((((ae c sv k).Rv).getD m aJ).v))]] ([(((ae c sv k)).Rv.getD m aJ).v].map (ab .i64))∧(fun (zz:Nat→St)=>zz 32767=zz 32767∧zz 32765=zz 32765∧zz 32764=zz 32764∧zz 32763=zz 32763∧zz 32761=zz 32761∧zz 32760=zz 32760∧True) (ti c D' n J' i sv k vv m em)∧(fun (zz:Nat→St) (U2 YG zp2:Prop)=>(sE (zz 65535) U2∧True)∧(sE (zz 32767) True∧sE (zz 65533) U2∧True)∧(sE (zz 32765) True∧sE (zz 65532) U2∧True)∧(sE (zz 32767) True∧sE (zz 65531) U2∧True)∧(sE (zz 32763) True∧sE (zz 32765) True∧sE (zz 65529) U2∧True)∧(sE (zz 32761) True∧sE (zz 32764) True∧sE (zz 65528) U2∧True)∧(sE (zz 131071) YG∧True)∧(sE (zz 65535) True∧True)∧(sE (zz 65533) True∧True)∧(sE (zz 65535) True∧True)∧(sE (zz 65531) True∧sE (zz 65533) True∧True)∧(sE (zz 65529) True∧sE (zz 65532) True∧True)∧(sE (zz 262143) zp2∧True)∧True∧True) (ti c D' n J' i sv k vv m em) ((em.getD (((c.U.getD k ac).Rv.getD m aB).chan.toNat) []).length+([(((ae c sv k)).Rv.getD m aJ).v].map (ab .i64)).length≤137438953472∧(em.getD (((c.U.getD k ac).Rv.getD m aB).chan.toNat) []).map (ab .i64)++[(((ae c sv k)).Rv.getD m aJ).v].map (ab .i64)=((em.getD (((c.U.getD k ac).Rv.getD m aB).chan.toNat) [])++[(((ae c sv k)).Rv.getD m aJ).v]).map (ab .i64)) (IX ((((c.U.getD k ac).Rv).getD m aB).chan) c.J.length) (((((c.U.getD k ac).Rv).getD m aB).chan).toNat<c.J.length∧mJ 1 c.J.length (((((c.U.getD k ac).Rv).getD m aB).chan).toNat) 0 [(.own 26)] [26,8] (cK 8 26 (((c.U.getD k ac).Rv.getD m aB).chan.toNat)) (cT 8 26 (((c.U.getD k ac).Rv.getD m aB).chan.toNat)))∧Ma c.J.length c.J.length 8 (((c.U.getD k ac).Rv.getD m aB).chan.toNat) 26 em (em.set (((c.U.getD k ac).Rv.getD m aB).chan.toNat) (em.getD (((c.U.getD k ac).Rv.getD m aB).chan.toNat) []++[(((ae c sv k)).Rv.getD m aJ).v])) ((em.getD (((c.U.getD k ac).Rv.getD m aB).chan.toNat) [])++[(((ae c sv k)).Rv.getD m aJ).v])∧Jz c.J.length c.J.length 8∧TT 1 (W6 ((m+1:Nat):Int)∧TT 1 (AG (kP c D' n J' i sv k vv) (m,em) (m+1,em.set (((c.U.getD k ac).Rv.getD m aB).chan.toNat) (em.getD (((c.U.getD k ac).Rv.getD m aB).chan.toNat) []++[(((ae c sv k)).Rv.getD m aJ).v]))))))))))) (TT 1 (W6 ((m+1:Nat):Int)∧TT 1 (AG (kP c D' n J' i sv k vv) (m,em) (m+1,em))))))) ((c.J.length=c.J.length∧∀z8,z8<c.J.length→bu (br c (aj c vv k)) z8=(bu em) z8)∧TT 1 (W6 ((k+1:Nat):Int)∧TT 1 (AG (kO c D' n J' i sv uv) (k,vv) (k+1,aj c vv k))))))))))))) (TT 4 (W6 ((i+1:Nat):Int)∧TT 1 (AG (pp c D' n J') (i,sv,uv) (i+1,bk c sv (aU c (J'.getD i .empty)),vv)))))))))) (((br c uv).length=c.J.length∧(∀x∈(br c uv),(aa x).length=1)∧∀zi zj,zi<c.J.length→zj<1→(fun (zi zj:Nat)=>eO 8 (.gs (fun zr=>.sl ((bu (br c uv)) zr).sz ((bu (br c uv)) zr).enc ((bu (br c uv)) zr).d ((bu (br c uv)) zr).l)) ((cG 8) zi zj)) zi zj=fg aa [] (br c uv) zi zj)∧TT 3 ((br c uv).map aa=((da c D' J').l).map aa∧(bO c uv).map (ab .i64)=((da c D' J').c).map (ab .i64)∧(0:Int)=((da c D' J').e)∧True)))))))))))))))) (TT 3 (CC (JX c D')∧TT 1 ((True∧(!(cJ c D'))=true)∧TT 8 (((da c D' J').l)=[]∧((da c D' J').c)=[]∧(1:Int)=((da c D' J').e)∧True)))))) (.s 1 ((cJ c D')=true) (.w 1 [(3,(JX c D').O),(5,.val (dB false))]<|.b 23 (.e) (.w 3 [(1,(QN c).O)]<|.w 4 [(2,(NN D').O)]<|.gh 5 (xN 4)<|.f 5 4<|.gh 5 (Km 5 aa [] D')<|.f 5 5<|.w 5 [(2,(NN D').O),(6,.box 3 1 (ab .i64) 0 (bO c (u0 c D')))]<|.gh 6 (xN 8)<|.gh 6 (eE 15 c.J.length [8] (cG 8))<|.gh 6 (tz 8 c.J.length (bu (br c (u0 c D'))))<|.l (pp c D' n J') (0,G9 c D',u0 c D') (fun ⟨i,sv,uv⟩=>.b 43 (.w 9 [(7,(QQ c sv (J'.getD i .empty)).O)]<|.l (kO c D' n J' i sv uv) (0,uv) (fun ⟨k,vv⟩=>.b 58 (.b 66 (.w 12 [(1,.val (i6 ((k+1:Nat):Int)))]<|.e) (.w 14 [(5,.val (i6 (((bO c vv).getD k 0)+1))),(7,.box 3 1 (ab .i64) 0 (bO c (aj c vv k)))]<|.w 15 [(3,(Pb c sv k).O)]<|.l (kP c D' n J' i sv k vv) (0,br c vv) (fun ⟨m,em⟩=>.b 82 (.b 90 (.gh 21 (take 15 8 (((c.U.getD k ac).Rv.getD m aB).chan.toNat) (cT 8 26 (((c.U.getD k ac).Rv.getD m aB).chan.toNat)))<|.y 21 [(7,.val (.own 26)),(14,.box 3 1 (ab .i64) 0 [(((ae c sv k)).Rv.getD m aJ).v]),(15,.box 3 1 (ab .i64) 0 ((em.getD (((c.U.getD k ac).Rv.getD m aB).chan.toNat) [])++[(((ae c sv k)).Rv.getD m aJ).v])),(17,.cells [26,8] (cT 8 26 (((c.U.getD k ac).Rv.getD m aB).chan.toNat)))] ((fun (zz:Nat→St)=>[(bm 18 32767,zz 32767),(bm 18 32765,zz 32765),(bm 18 32764,zz 32764),(bm 18 32763,zz 32763),(bm 18 32761,zz 32761),(bm 18 32760,zz 32760),(bm 18 65535,zz 65535),(bm 18 65533,zz 65533),(bm 18 65532,zz 65532),(bm 18 65531,zz 65531),(bm 18 65529,zz 65529),(bm 18 65528,zz 65528),(bm 18 131071,zz 131071),(bm 18 262143,zz 262143)]) (ti c D' n J' i sv k vv m em))<|.gh 18 (put 15 8 26 (((c.U.getD k ac).Rv.getD m aB).chan.toNat) c.J.length (cG 8) (bu (em.set (((c.U.getD k ac).Rv.getD m aB).chan.toNat) (em.getD (((c.U.getD k ac).Rv.getD m aB).chan.toNat) []++[(((ae c sv k)).Rv.getD m aJ).v]))))<|.gh 18 (eE 15 c.J.length [8] (cG 8))<|.w 18 [(1,.val (i6 ((m+1:Nat):Int)))]<|.e) (.w 18 [(1,.val (i6 ((m+1:Nat):Int)))]<|.e)) (.gh 12 (tz 8 c.J.length (bu (br c (aj c vv k))))<|.w 12 [(1,.val (i6 ((k+1:Nat):Int)))]<|.e)))) (.w 8 [(1,.val (i6 ((i+1:Nat):Int)))]<|.e))) (.f 23 8<|.gh 23 (Km 15 aa [] (br c uv))<|.f 23 15<|.f 23 12<|.e)))) (.w 1 [(3,(JX c D').O),(5,.val (dB true))]<|.e)) Tryz.func16 rfl rfl rfl (by kernel_rfl) ?_
 refine tt ⟨fun T7=>?_,fun T7=>?_⟩
 · refine tt ⟨(ii c D' hc hl hs),tt ⟨(mF T7),tt (cd (fun WT=>?_) (fun WT=>?_))⟩⟩
   · refine tt ⟨?_,?_,?_,oK⟩
     all_goals (all_goals (first | rfl | (unfold da;rw[lN (by rintro⟨q1,q2⟩;first | omega | (simp_all;done))];done) | (unfold da;rw[ia (bM.2 hin) (by omega),← lP (show J'.length≤i by omega),← Zl])))
   · have hin:nz c D':=bM.1 (by first | assumption | simpa using T7)
     have WL:bO c (u0 c D')=List.replicate c.U.length (0:Int):=Ad
     have X2:br c (u0 c D')=D':=Ac 0 hin.l
     refine tt ⟨(GZ c hc),tt ⟨(qx D' (DT hin hc).1 (fun i=>SG (hin.sm i) (by decide))),tt ⟨⟨rfl,fun _ _=>rfl,yk⟩,tt ⟨(qx D' (DT hin hc).1 (fun i=>SG (hin.sm i) (by decide))),tt ⟨⟨by omega,by rw[WL,RC],fun x hx=>by rw[WL]at hx;rw[RS hx];exact⟨rfl,oK⟩⟩,tt ⟨⟨hin.l.symm,fun i j _ _=>⟨rfl,fun k hk=>rT hk⟩⟩,⟨⟨hin.l.symm,fun k _=>by rw[X2]⟩,tt ⟨rfl,⟨by omega,rfl,rfl⟩,?_⟩⟩⟩⟩⟩⟩⟩⟩
     intro i sv uv I'
     obtain⟨hi,hsv,Zl⟩:=I'
     obtain⟨UL,hnu,W7,ZD⟩:=Fv (J':=J') (i:=i) hc hin
     have XU:=L7 (J':=J') (i:=i) hc hin (by omega)
     have ZA:=Ab (J':=J') (i:=i) hc hin (by omega)
     rw[← hsv]at W7 hnu XU
     rw[← Zl]at hnu ZA ZD
     have Wp:=W7.pl
     have VJ:=W7.cl
     refine tt (cd (fun UD=>?_) (fun UD=>?_))
     · refine tt ⟨ix,tt ⟨(JQ c sv (J'.getD i .empty) hc W7 (fun n=>SG (XU n) (by decide))),tt ⟨rfl,⟨by omega,rfl⟩,?_⟩⟩⟩
       intro k vv I'
       obtain⟨hk0,V7⟩:=I'
       have YY:=Fx (w:=(aU c (J'.getD i .empty))) (k:=k) hc W7 hnu (by omega)
       have hvc:=Fy (c:=c) (s:=sv) (u:=uv) (w:=(aU c (J'.getD i .empty))) (k:=k)
       rw[← V7]at YY hvc
       have hvcl:(bO c vv).length=c.U.length:=am _ _
       have htl:(tab (av c sv (aU c (J'.getD i .empty))) c.U.length).length=c.U.length:=am _ _
       refine tt (cd (fun Wi=>?_) (fun Wi=>?_))
       · refine tt ⟨ix,tt ⟨fun Zn=>?_,fun Zn=>?_⟩⟩
         · have hf:av c sv (aU c (J'.getD i .empty)) k=false:=by have hf0:(tab (av c sv (aU c (J'.getD i .empty))) c.U.length).getD k false=av c sv (aU c (J'.getD i .empty)) k:=aD (show k<c.U.length by omega);rw[← hf0];first | exact Zn | simpa using Zn
           refine tt ⟨w6,tt ⟨(k+1,vv),rfl,?_,(?_:c.U.length-(k+1)<c.U.length-k)⟩⟩
           · exact⟨by omega,by rw[V7];exact(Jx hf).symm⟩
           · omega
         · have hf:av c sv (aU c (J'.getD i .empty)) k=true:=by have hf0:(tab (av c sv (aU c (J'.getD i .empty))) c.U.length).getD k false=av c sv (aU c (J'.getD i .empty)) k:=aD (show k<c.U.length by omega);rw[← hf0];first | exact Zn | simpa using Zn
           have Uz:fw c vv k=ae c sv k:=by rw[V7];exact(rI hc W7 hnu (aU c (J'.getD i .empty)) _ (RD _)).2.2 k (by omega) hf
           have XQ:(bO c vv).getD k 0=(vv.cnt k:Int):=tb (by omega)
           have hvck:=hvc k
           have hcnk:=ZD k
           have Xf:(ae c sv k).Rv.length=(c.U.getD k ac).Rv.length:=eh _ _ _ _
           have ht3:(c.U.getD k ac).Rv.length≤100:=(hc.pr k (by omega)).pl
           refine tt ⟨ix,⟨⟨om,oK⟩,⟨w6,⟨ix,⟨⟨by rw[am];omega,by rw[← zZ (show k<c.U.length by omega),XQ,Ss];rfl⟩,tt ⟨(yq c sv k hc W7 (by omega)),tt ⟨rfl,⟨by omega,rfl⟩,?_⟩⟩⟩⟩⟩⟩⟩
           intro m em I'
           obtain⟨hm,VS⟩:=I'
           have YC:em.length=c.J.length:=by rw[VS,cR];exact am _ _
           refine tt (cd (fun hc82=>?_) (fun hc82=>?_))
           · refine tt ⟨ix,tt ⟨fun Zi=>?_,fun Zi=>?_⟩⟩
             · have W9:m<(c.U.getD k ac).Rv.length:=by omega
               have WB:0≤((c.U.getD k ac).Rv.getD m aB).chan∧((c.U.getD k ac).Rv.getD m aB).chan<c.J.length:=⟨(hc.pt k (by omega) m W9).1,(hc.pt k (by omega) m W9).2.1⟩
               have X5:(em.getD ((c.U.getD k ac).Rv.getD m aB).chan.toNat []).length+1≤137438953472:=by
                 rw[VS]
                 exact SG (Nat.succ_le_succ (Fp (p:=k) (by omega))) (by have:=YY (((c.U.getD k ac).Rv.getD m aB).chan.toNat);have:=ZA (((c.U.getD k ac).Rv.getD m aB).chan.toNat);omega)
               refine tt ⟨ix,tt ⟨ix,tt ⟨(GT om),tt ⟨ix,⟨⟨⟨om,oK⟩,tR⟩,tt ⟨ix,tt ⟨⟨⟨rfl,oK⟩,oK⟩,⟨⟨rfl,rfl,rfl,rfl,rfl,rfl,oK⟩,⟨⟨⟨⟨rfl,⟨by simp only[RJ,RK,RN];first | omega | (simp;first | done | omega),by simp only[RO,R4,RL]⟩,oK⟩,oK⟩,⟨⟨rfl,oK,oK⟩,⟨rfl,⟨by simp only[RJ,RK,RN];first | omega | (simp;first | done | omega),by simp only[RO,R4,RL]⟩,oK⟩,oK⟩,⟨⟨rfl,oK,oK⟩,⟨rfl,⟨by simp only[RJ,RK,RN];first | omega | (simp;first | done | omega),by simp only[RO,R4,RL]⟩,oK⟩,oK⟩,⟨⟨rfl,oK,oK⟩,⟨rfl,⟨by simp only[RJ,RK,RN];first | omega | (simp;first | done | omega),by simp only[RO,R4,RL]⟩,oK⟩,oK⟩,⟨⟨rfl,oK,oK⟩,⟨rfl,oK,oK⟩,⟨rfl,⟨by simp only[RJ,RK,RN];first | omega | (simp;first | done | omega),by simp only[RO,R4,RL]⟩,oK⟩,oK⟩,⟨⟨rfl,oK,oK⟩,⟨rfl,oK,oK⟩,⟨rfl,⟨by simp only[RJ,RK,RN];first | omega | (simp;first | done | omega),by simp only[RO,R4,RL]⟩,oK⟩,oK⟩,⟨⟨rfl,ix,oK⟩,oK⟩,⟨⟨rfl,oK,oK⟩,oK⟩,⟨⟨rfl,oK,oK⟩,oK⟩,⟨⟨rfl,oK,oK⟩,oK⟩,⟨⟨rfl,oK,oK⟩,⟨rfl,oK,oK⟩,oK⟩,⟨⟨rfl,oK,oK⟩,⟨rfl,oK,oK⟩,oK⟩,⟨⟨rfl,⟨om,rU rfl⟩,oK⟩,oK⟩,oK,oK⟩,⟨(jG (by omega) (fun k9 hk9=>Af (n:=c.J.length) (R:=((c.U.getD k ac).Rv.getD m aB).chan.toNat) hk9 YC (by omega))),⟨(xa rfl),tt ⟨w6,tt ⟨(m+1,em.set (((c.U.getD k ac).Rv.getD m aB).chan.toNat) (em.getD (((c.U.getD k ac).Rv.getD m aB).chan.toNat) []++[(((ae c sv k)).Rv.getD m aJ).v])),rfl,?_,(?_:(c.U.getD k ac).Rv.length-(m+1)<(c.U.getD k ac).Rv.length-m)⟩⟩⟩⟩⟩⟩⟩⟩⟩⟩⟩⟩⟩
               · exact⟨by omega,by rw[oQ Zi,VS];exact(fW _ _ _ _).symm⟩
               · omega
             · refine tt ⟨w6,tt ⟨(m+1,em),rfl,?_,(?_:(c.U.getD k ac).Rv.length-(m+1)<(c.U.getD k ac).Rv.length-m)⟩⟩
               · exact⟨by omega,by rw[sX Zi,VS]⟩
               · omega
           · refine⟨⟨rfl,fun z9 _=>by rw[VS,show m=(c.U.getD k ac).Rv.length by omega,← Uz,z4 hc (show k<c.U.length by omega)]⟩,tt ⟨w6,tt ⟨(k+1,aj c vv k),rfl,?_,(?_:c.U.length-(k+1)<c.U.length-k)⟩⟩⟩
             · exact⟨by omega,by rw[V7];exact(Fw hf).symm⟩
             · omega
       · refine tt ⟨w6,tt ⟨(i+1,bk c sv (aU c (J'.getD i .empty)),vv),rfl,?_,(?_:J'.length-(i+1)<J'.length-i)⟩⟩
         · exact⟨by omega,by rw[BO (by omega),← hsv],by rw[V7,show k=c.U.length by omega,BP (by omega),← hsv,← Zl];rfl⟩
         · omega
     · refine⟨⟨(am _ _),fun _ _=>rfl,yk⟩,tt ⟨(congrArg _ (?_:(br c uv)=((da c D' J').l))),(congrArg _ (?_:(bO c uv)=((da c D' J').c))),?_,oK⟩⟩
       all_goals (all_goals (first | rfl | (unfold da;rw[lN (by rintro⟨q1,q2⟩;first | omega | (simp_all;done))];done) | (unfold da;rw[ia (bM.2 hin) (by omega),← lP (show J'.length≤i by omega),← Zl])))
 · refine tt ⟨(ii c D' hc hl hs),tt ⟨(mT T7),tt ⟨?_,?_,?_,oK⟩⟩⟩
   all_goals (all_goals (first | rfl | (unfold da;rw[lN (by rintro⟨q1,q2⟩;first | omega | (simp_all;done))];done) | (unfold da;rw[ia (bM.2 hin) (by omega),← lP (show J'.length≤i by omega),← Zl])))
theorem Au {a b:List (List Int)} {i:Nat} (h3:rN a b (min a.length b.length-i) i=cx a b) (h:min a.length b.length≤i):(0:Int)=(Hb a b:Int)∧(0:Int)=(Hc a b:Int)∧false=(cx a b).2.2:=by
  have hde:cx a b=(0,0,false):=h3.symm.trans (z6 h)
  have Z1:=(kF a b).1
  have Zw:=(kF a b).2
  rw[hde]at Z1 Zw
  exact⟨Z1,Zw,by rw[hde]⟩
abbrev QZ (a b:List (List Int)):Ct:=⟨20,[(dL 1 aa [] a),(dL 1 aa [] b)],false,(.agg [(i6 (((Hb a b):Nat):Int)),(i6 (((Hc a b):Nat):Int)),(dB ((cx a b).2.2))])⟩
abbrev sd (a:List (List Int)) (b:List (List Int)):Lp (Nat):=io [0,1,4,5] 1 (fun (i:Nat)=>⟨[(0,(dL 1 aa [] a)),(1,(dL 1 aa [] b)),(4,(.ptr 0 0 0 0)),(5,(i6 (i:Int)))],[(.var 49 [(i6 0),(i6 0),(dB false)])]⟩) (fun (i:Nat)=>i≤a.length∧i≤b.length∧rN a b (min a.length b.length-i) i=cx a b) (fun (i:Nat)=>a.length-i)
abbrev u9 (a:List (List Int)) (b:List (List Int)) (i:Nat):Lp (Nat):=io [0,1,4,5,6] 1 (fun (k:Nat)=>⟨[(0,(dL 1 aa [] a)),(1,(dL 1 aa [] b)),(4,(.ptr 0 0 0 0)),(5,(i6 (i:Int))),(6,(i6 (k:Int)))],[(.var 49 [(i6 0),(i6 0),(dB false)])]⟩) (fun (k:Nat)=>k≤(a.getD i []).length∧k≤(b.getD i []).length∧∀j,j<k→(a.getD i []).getD j 0=(b.getD i []).getD j 0) (fun (k:Nat)=>(a.getD i []).length-k)
theorem Lz (a b:List (List Int)) (ha:a.length≤9223372036854775807) (YE:∀i,(a.getD i []).length≤9223372036854775807):CC (QZ a b):=by
 refine ah.vc (V:=TT 2 (GO (sd a b) 0 (∀i,(sd a b).inv i→CS ((i:Int)<(a.length:Int)) (TT 4 ((True∧(decide ((i:Int)<(a.length:Int)))=true)∧TT 5 (CD ((i:Int)<(b.length:Int)) (TT 1 (GO (u9 a b i) 0 (∀k,(u9 a b i).inv k→CS ((k:Int)<(((a.getD i []).length:Nat):Int)) (TT 3 (IX (i:Int) a.length∧TT 3 ((True∧(decide ((k:Int)<(((a.getD i []).length:Nat):Int)))=true)∧TT 3 (IX (i:Int) b.length∧TT 4 (CD ((k:Int)<(((b.getD i []).length:Nat):Int)) (TT 2 (IX (i:Int) a.length∧TT 2 (IX (k:Int) ((a.getD i []).length)∧TT 3 (IX (i:Int) b.length∧TT 2 (IX (k:Int) ((b.getD i []).length)∧TT 2 (CN (((a.getD i []).getD k 0)=((b.getD i []).getD k 0)) (TT 5 ((((i:Int)=(((Hb a b):Nat):Int)∧(k:Int)=(((Hc a b):Nat):Int)∧true=((cx a b).2.2)∧True))∧((True∧True∧True∧True)))) (TT 1 (W6 ((k+1:Nat):Int)∧TT 1 (AG (u9 a b i) k (k+1)))))))))) (TT 1 (W6 ((i+1:Nat):Int)∧TT 1 (AG (sd a b) i (i+1))))))))) (TT 3 (IX (i:Int) a.length∧TT 3 ((True∧(decide ((k:Int)<(((a.getD i []).length:Nat):Int)))=false)∧TT 9 (W6 ((i+1:Nat):Int)∧TT 1 (AG (sd a b) i (i+1))))))))) (TT 3 ((((0:Int)=(((Hb a b):Nat):Int)∧(0:Int)=(((Hc a b):Nat):Int)∧false=((cx a b).2.2)∧True))∧((True∧True∧True∧True))))))) (TT 4 ((True∧(decide ((i:Int)<(a.length:Int)))=false)∧TT 8 ((((0:Int)=(((Hb a b):Nat):Int)∧(0:Int)=(((Hc a b):Nat):Int)∧false=((cx a b).2.2)∧True))∧((True∧True∧True∧True)))))))) (.l (sd a b) 0 (fun i=>.s 2 ((i:Int)<(a.length:Int)) (.w 2 [(4,.val (dB true))]<|.b 16 (.l (u9 a b i) 0 (fun k=>.s 5 ((k:Int)<(((a.getD i []).length:Nat):Int)) (.w 5 [(7,.val (dB true))]<|.b 34 (.b 51 (.e) (.w 6 [(1,.val (i6 ((k+1:Nat):Int)))]<|.e)) (.w 3 [(1,.val (i6 ((i+1:Nat):Int)))]<|.e)) (.w 5 [(7,.val (dB false))]<|.w 3 [(1,.val (i6 ((i+1:Nat):Int)))]<|.e))) (.e)) (.w 2 [(4,.val (dB false))]<|.e))) Tryz.func20 rfl rfl rfl (by kernel_rfl) ?_
 refine tt ⟨rfl,⟨by omega,by omega,rfl⟩,?_⟩
 intro i I'
 obtain⟨hi,Yb,h3⟩:=I'
 refine⟨fun T7=>?_,fun T7=>?_⟩
 · refine tt ⟨(vT T7),tt (cd (fun Ws=>?_) (fun Ws=>?_))⟩
   · have hz:=YE i
     have X7:i<min a.length b.length:=by omega
     refine tt ⟨rfl,⟨by omega,by omega,fun j hj=>by omega⟩,?_⟩
     intro k I'
     obtain⟨WY,V0,hk3⟩:=I'
     refine⟨fun Ur=>?_,fun Ur=>?_⟩
     · refine tt ⟨ix,tt ⟨(vT Ur),tt ⟨ix,tt (cd (fun WS=>?_) (fun WS=>?_))⟩⟩⟩
       · refine tt ⟨ix,tt ⟨ix,tt ⟨ix,tt ⟨ix,tt (cn (fun hc51=>?_) (fun hc51=>?_))⟩⟩⟩⟩
         · have YL:dA (a.getD i []) (b.getD i [])=k:=lK WY V0 hk3 (fun hq=>absurd hq.2.2 (by first | assumption | omega))
           have hdf:cx a b=((i:Int),(dA (a.getD i []) (b.getD i []):Int),true):=by rw[← h3];exact z5 (by omega) (by omega)
           have Z1:=(kF a b).1
           have Zw:=(kF a b).2
           rw[hdf]at Z1 Zw
           rw[YL]at Zw
           refine tt ⟨⟨?_,?_,?_,oK⟩,⟨oK,oK,oK,oK⟩⟩
           all_goals (all_goals (first | (rw[hdf];done) | exact Z1 | exact Zw | exact(Au h3 (by omega)).1 | exact(Au h3 (by omega)).2.1 | exact(Au h3 (by omega)).2.2 | omega))
         · refine tt ⟨w6,tt ⟨(k+1),rfl,?_,(?_:(a.getD i []).length-(k+1)<(a.getD i []).length-k)⟩⟩
           · exact⟨by omega,by omega,di hk3 (by first | assumption | omega)⟩
           · omega
       · refine tt ⟨w6,tt ⟨(i+1),rfl,?_,(?_:a.length-(i+1)<a.length-i)⟩⟩
         · exact⟨by omega,by omega,by
             have YL:dA (a.getD i []) (b.getD i [])=k:=lK WY V0 hk3 (fun hq=>by omega)
             rw[← h3];exact(Dz (by omega) (by omega)).symm⟩
         · omega
     · refine tt ⟨ix,tt ⟨(vF Ur),tt ⟨w6,tt ⟨(i+1),rfl,?_,(?_:a.length-(i+1)<a.length-i)⟩⟩⟩⟩
       · exact⟨by omega,by omega,by
           have YL:dA (a.getD i []) (b.getD i [])=k:=lK WY V0 hk3 (fun hq=>by omega)
           rw[← h3];exact(Dz (by omega) (by omega)).symm⟩
       · omega
   · refine tt ⟨⟨?_,?_,?_,oK⟩,⟨oK,oK,oK,oK⟩⟩
     all_goals (all_goals (first | (rw[hdf];done) | exact Z1 | exact Zw | exact(Au h3 (by omega)).1 | exact(Au h3 (by omega)).2.1 | exact(Au h3 (by omega)).2.2 | omega))
 · refine tt ⟨(vF T7),tt ⟨⟨?_,?_,?_,oK⟩,⟨oK,oK,oK,oK⟩⟩⟩
   all_goals (all_goals (first | (rw[hdf];done) | exact Z1 | exact Zw | exact(Au h3 (by omega)).1 | exact(Au h3 (by omega)).2.1 | exact(Au h3 (by omega)).2.2 | omega))
def Av (p:Pr) (wl:List (List Int)) (Vg:List Int) (j:Nat):Hd:=if Vg.getD (p.I.getD j aF).chan.toNat 0<((wl.getD (p.I.getD j aF).chan.toNat []).length:Int)then ⟨true,(wl.getD (p.I.getD j aF).chan.toNat []).getD (Vg.getD (p.I.getD j aF).chan.toNat 0).toNat 0⟩else aJ
theorem LA {E sz:Nat} {d:Hd} {l:List Hd}:qM (.arr E sz bt d l):=fun x _ y hy=>by
  simp[bt]at hy
  rcases hy with rfl | rfl<;>rfl
abbrev N0 (p:Pr) (wl:List (List Int)) (Vg:List Int):t1:=⟨44,[(.agg [(dS p.name),(dS p.clock),(dL 13 gM bH p.Ry),(dL 27 m3 aP p.Rx),(dL 9 ir aF p.I),(dL 16 gd aB p.Rv)]),(dL 1 aa [] wl),(LI Vg)],(.own 0),(.arr 115 2 bt aJ (tab (Av p wl Vg) p.I.length))⟩
abbrev kQ (p:Pr) (wl:List (List Int)) (Vg:List Int):Lp (Nat):=io [1,2,3,7,8] 2 (fun (i:Nat)=>⟨[(1,(dL 1 aa [] wl)),(2,(LI Vg)),(3,(.ptr 0 0 0 0)),(7,(.own 1)),(8,(i6 (i:Int)))],[(.var 63 [(dS p.name),(dS p.clock),(dL 13 gM bH p.Ry),(dL 27 m3 aP p.Rx),(dL 9 ir aF p.I),(dL 16 gd aB p.Rv)]),(.arr 115 2 bt aJ (tab (Av p wl Vg) i))]⟩) (fun (i:Nat)=>i≤p.I.length) (fun (i:Nat)=>p.I.length-i)
theorem G5 (p:Pr) (wl:List (List Int)) (Vg:List Int) (ht:p.I.length≤100) (hch:∀j,j<p.I.length→0≤(p.I.getD j aF).chan∧(p.I.getD j aF).chan<wl.length∧(p.I.getD j aF).chan<Vg.length∧0≤Vg.getD (p.I.getD j aF).chan.toNat 0) (ZE:∀i,(wl.getD i []).length≤9223372036854775807):CO (N0 p wl Vg):=by
 refine ah.vcO (V:=TT 2 (ai [] ((tab (Av p wl Vg) 0).map bt)∧TT 2 (GO (kQ p wl Vg) 0 (∀i,(kQ p wl Vg).inv i→TT 5 (CD ((i:Int)<(p.I.length:Int)) (TT 3 (IX (i:Int) p.I.length∧TT 8 (IX ((p.I.getD i aF).chan) Vg.length∧TT 3 (IX ((p.I.getD i aF).chan) wl.length∧TT 3 (CD ((Vg.getD (((p.I.getD i aF).chan).toNat) 0)<(((wl.getD (((p.I.getD i aF).chan).toNat) []).length:Nat):Int)) (TT 2 (IX ((p.I.getD i aF).chan) wl.length∧TT 3 (IX ((p.I.getD i aF).chan) Vg.length∧TT 1 (IX (Vg.getD (((p.I.getD i aF).chan).toNat) 0) ((wl.getD (((p.I.getD i aF).chan).toNat) []).length)∧TT 5 (ai [[(dB true),(i6 ((wl.getD (((p.I.getD i aF).chan).toNat) []).getD ((Vg.getD (((p.I.getD i aF).chan).toNat) 0).toNat) 0))]] ([(⟨true,((wl.getD (((p.I.getD i aF).chan).toNat) []).getD ((Vg.getD (((p.I.getD i aF).chan).toNat) 0).toNat) 0)⟩:Hd)].map bt)∧((tab (Av p wl Vg) i).length+([(⟨true,((wl.getD (((p.I.getD i aF).chan).toNat) []).getD ((Vg.getD (((p.I.getD i aF).chan).toNat) 0).toNat) 0)⟩:Hd)].map bt).length≤137438953472∧(tab (Av p wl Vg) i).map bt++[(⟨true,((wl.getD (((p.I.getD i aF).chan).toNat) []).getD ((Vg.getD (((p.I.getD i aF).chan).toNat) 0).toNat) 0)⟩:Hd)].map bt=(tab (Av p wl Vg) (i+1)).map bt)∧TT 2 (W6 ((i+1:Nat):Int)∧TT 1 (AG (kQ p wl Vg) i (i+1)))))))) (TT 2 (ai [[(dB false),(i6 0)]] ([(⟨false,0⟩:Hd)].map bt)∧((tab (Av p wl Vg) i).length+([(⟨false,0⟩:Hd)].map bt).length≤137438953472∧(tab (Av p wl Vg) i).map bt++[(⟨false,0⟩:Hd)].map bt=(tab (Av p wl Vg) (i+1)).map bt)∧TT 2 (W6 ((i+1:Nat):Int)∧TT 1 (AG (kQ p wl Vg) i (i+1)))))))))) (TT 3 (((.own 0):D)=.own 0∧((.arr 115 2 bt aJ (tab (Av p wl Vg) i)):ap)=(.arr 115 2 bt aJ (tab (Av p wl Vg) p.I.length))))))))) (.w 1 [(0,.box 115 2 bt aJ (tab (Av p wl Vg) 0))]<|.l (kQ p wl Vg) 0 (fun i=>.b 16 (.b 35 (.w 9 [(2,.box 115 2 bt aJ [(⟨true,((wl.getD (((p.I.getD i aF).chan).toNat) []).getD ((Vg.getD (((p.I.getD i aF).chan).toNat) 0).toNat) 0)⟩:Hd)]),(3,.box 115 2 bt aJ (tab (Av p wl Vg) (i+1)))]<|.w 4 [(1,.val (i6 ((i+1:Nat):Int)))]<|.e) (.w 9 [(2,.box 115 2 bt aJ [(⟨false,0⟩:Hd)]),(3,.box 115 2 bt aJ (tab (Av p wl Vg) (i+1)))]<|.w 4 [(1,.val (i6 ((i+1:Nat):Int)))]<|.e)) (.e))) Tryz.func44 rfl rfl rfl (by kernel_rfl) ?_
 refine tt ⟨oK,tt ⟨rfl,(Su _),?_⟩⟩
 intro i I'
 have hi:=I'
 refine tt (cd (fun Ws=>?_) (fun Ws=>?_))
 · have hci:=hch i (by omega)
   refine tt ⟨ix,?_⟩
   have hwi:=ZE (p.I.getD i aF).chan.toNat
   refine tt ⟨ix,tt ⟨ix,tt (cd (fun UQ=>?_) (fun UQ=>?_))⟩⟩
   · refine tt ⟨ix,tt ⟨ix,tt ⟨ix,tt ⟨⟨⟨rfl,rfl,oK⟩,oK⟩,⟨(a6 (by omega) (by first | exact(RH (by assumption)).symm | exact(RE (by assumption)).symm)),tt ⟨w6,tt ⟨(i+1),rfl,(?_:(i+1)≤p.I.length),(?_:p.I.length-(i+1)<p.I.length-i)⟩⟩⟩⟩⟩⟩⟩
     · omega
     · omega
   · refine tt ⟨⟨⟨rfl,rfl,oK⟩,oK⟩,⟨(a6 (by omega) (by first | exact(RH (by assumption)).symm | exact(RE (by assumption)).symm)),tt ⟨w6,tt ⟨(i+1),rfl,(?_:(i+1)≤p.I.length),(?_:p.I.length-(i+1)<p.I.length-i)⟩⟩⟩⟩
     · omega
     · omega
 · refine tt ⟨rfl,congrArg (fun (z:List Hd)=>((.arr 115 2 bt aJ z):ap)) (?_:(tab (Av p wl Vg) i)=(tab (Av p wl Vg) p.I.length))⟩
   rw[show i=p.I.length by omega]
abbrev Cg (c:Ci) (k:Nat) (v:Uf):ap:=(.var 101 [(dB ((ax (c.U.getD k ac) (v.s k) (cB c v k) (c6 c k)).fires)),(LI (((ax (c.U.getD k ac) (v.s k) (cB c v k) (c6 c k)).s).Ry)),(dL 1 aa [] (((ax (c.U.getD k ac) (v.s k) (cB c v k) (c6 c k)).s).Rx)),(LB ((ax (c.U.getD k ac) (v.s k) (cB c v k) (c6 c k)).pops)),(dL 2 bt aJ ((ax (c.U.getD k ac) (v.s k) (cB c v k) (c6 c k)).Rv))])
abbrev yy (c:Ci) (k:Nat):ap:=(.var 63 [(dS ((c.U.getD k ac).name)),(dS ((c.U.getD k ac).clock)),(dL 13 gM bH ((c.U.getD k ac).Ry)),(dL 27 m3 aP ((c.U.getD k ac).Rx)),(dL 9 ir aF ((c.U.getD k ac).I)),(dL 16 gd aB ((c.U.getD k ac).Rv))])
abbrev Cj (c:Ci):List D:=[(dL 6 fS ac c.U),(dL 5 ga bK c.J)]
abbrev eJ (c:Ci):ap:=(.var 33 (Cj c))
abbrev dt:ap:=(.var 70 [(.own 8),(.own 6)])
abbrev nW (c:Ci):ap:=(.arr 42 1 aa [] (List.replicate c.J.length ([]:List Int)))
abbrev my (D':List (List Int)) (n:Int) (J':List ByteArray):ap:=(.var 39 [(dL 1 aa [] D'),(i6 n),(dL 1 dc .empty J')])
abbrev mz:ap:=(.var 45 [.nils,.nils,(i6 0)])
abbrev tW:ap:=(.var 45 [(.own 20),(.own 17),(i6 0)])
set_option maxRecDepth 100000
theorem Pu {c:Ci} {D':List (List Int)}:en c (u0 c D')=tab (fun i=>aC (bg c i)) c.U.length:=by
  refine dV (d:=bh) (by rw[am];exact(am _ _).symm) (fun i hi=>?_)
  rw[show(en c (u0 c D')).length=c.U.length from am _ _]at hi
  rw[show(en c (u0 c D')).getD i bh=(u0 c D').s i from aD hi,aD hi]
  exact RH hi
theorem NS {c:Ci} {v:Uf} {k:Nat} (hc:be c) (hk:k<c.U.length):tab (Av (c.U.getD k ac) (br c v) (eW c v)) (c.U.getD k ac).I.length=cB c v k:=by
  refine dV (d:=aJ) (by rw[am];exact(am _ _).symm) (fun i hi=>?_)
  rw[am]at hi
  have ht:=hc.tk k hk i hi
  have hn:((c.U.getD k ac).I.getD i aF).chan.toNat<c.J.length:=by have h1:0≤((c.U.getD k ac).I.getD i aF).chan:=ht.1;have h2:((c.U.getD k ac).I.getD i aF).chan<c.J.length:=ht.2.1;omega
  rw[aD hi,show(cB c v k).getD i aJ=KW c v k i from aD hi]
  unfold Av KW
  rw[Ae hn,show(br c v).getD ((c.U.getD k ac).I.getD i aF).chan.toNat []=v.l ((c.U.getD k ac).I.getD i aF).chan.toNat from aD hn,SQ]
  by_cases h:v.rd ((c.U.getD k ac).I.getD i aF).chan.toNat<(v.l ((c.U.getD k ac).I.getD i aF).chan.toNat).length
  · rw[RH (by omega),RH h]
  · rw[RE (by omega),RE h]
abbrev Q0 (c:Ci) (D':List (List Int)) (n:Int) (J':List ByteArray):Ct:=⟨14,[(.agg (Cj c)),(.agg [(dL 1 aa [] D'),(i6 n),(dL 1 dc .empty J')])],true,(.agg [(dL 1 aa [] ((b8 c D' n).l)),(LI ((b8 c D' n).c)),(i6 ((b8 c D' n).e))])⟩
abbrev Ck (c:Ci) (D':List (List Int)) (n:Int) (J':List ByteArray):List ap:=[(eJ c),(my D' n J'),mz]
abbrev jL (c:Ci):List (Nat×D):=[(30,(.agg (Cj c))),(2,(.ptr 0 0 0 0)),(3,(.ptr 1 0 0 0)),(4,(.ptr 2 0 0 0))]
abbrev jM (c:Ci) (D':List (List Int)) (n:Int) (J':List ByteArray) (T9:Array Value):Lp (Nat):=io [1,2,3,4] 9 (fun (i:Nat)=>⟨[(1,(.ptr 4 0 0 0)),(2,(.ptr 5 0 0 0)),(3,(.ptr 7 0 0 0)),(4,(i6 (i:Int)))],[(eJ c),(my D' n J'),mz,(.frame T9 [(30,(.agg (Cj c))),(2,(.ptr 0 0 0 0)),(3,(.ptr 1 0 0 0)),(4,(.ptr 2 0 0 0))]),(eJ c),(.var 70 [.nils,.nils]),(nW c),dt,(.arr 56 2 bn bh (tab (fun i=>aC (bg c i)) i))]⟩) (fun (i:Nat)=>i≤c.U.length) (fun (i:Nat)=>c.U.length-i)
abbrev nX (c:Ci) (D':List (List Int)) (n:Int) (J':List ByteArray):List ap:=[(eJ c),(my D' n J'),mz]
abbrev nY (c:Ci) (D':List (List Int)):List ap:=[(eJ c),dt,(nW c),dt,(.arr 56 2 bn bh (en c (u0 c D')))]
abbrev jN (c:Ci) (D':List (List Int)) (n:Int) (J':List ByteArray):Lp (Uf×Bool):=pI [2,3,4,5,6,7,8] 21 (fun (u:Uf) (mv:Bool)=>⟨[(2,(.ptr 0 0 0 0)),(3,(.ptr 1 0 0 0)),(4,(.ptr 2 0 0 0)),(5,(.ptr 9 0 0 0)),(6,(.own 10)),(7,(.ptr 19 0 0 0)),(8,(dB mv))],[(eJ c),(my D' n J'),mz,.dead,(eJ c),dt,(nW c),dt,(.arr 56 2 bn bh (en c u)),dt,(.arr 3 1 (ab .i64) 0 (eW c u)),.dead,.dead,(.grp c.J.length (bu (br c u))),.dead,.dead,.dead,(.arr 3 1 (ab .i64) 0 (bO c u)),.dead,tW,(.arrD 42 1 c.J.length [13] (cG 13))]⟩) (fun (u:Uf) (mv:Bool)=>UI c D' n.toNat u∧(mv=false→∀q,q<c.U.length→rP c n.toNat u q=false)) (fun (u:Uf) (mv:Bool)=>2*fx n.toNat u.cnt c.U.length+(if mv=true then 1 else 0))
abbrev fG (c:Ci) (D':List (List Int)) (n:Int) (J':List ByteArray) (u:Uf):Lp (Nat×Uf×Bool):=LQ [2,3,4,5,6,7,8,9] 21 (fun (k:Nat) (v:Uf) (mw:Bool)=>⟨[(2,(.ptr 0 0 0 0)),(3,(.ptr 1 0 0 0)),(4,(.ptr 2 0 0 0)),(5,(.ptr 9 0 0 0)),(6,(.own 10)),(7,(.ptr 19 0 0 0)),(8,(dB mw)),(9,(i6 (k:Int)))],[(eJ c),(my D' n J'),mz,.dead,(eJ c),dt,(nW c),dt,(.arr 56 2 bn bh (en c v)),dt,(.arr 3 1 (ab .i64) 0 (eW c v)),.dead,.dead,(.grp c.J.length (bu (br c v))),.dead,.dead,.dead,(.arr 3 1 (ab .i64) 0 (bO c v)),.dead,tW,(.arrD 42 1 c.J.length [13] (cG 13))]⟩) (fun (k:Nat) (v:Uf) (mw:Bool)=>k≤c.U.length∧UI c D' n.toNat v∧fx n.toNat v.cnt c.U.length+(if mw=true then 1 else 0)≤fx n.toNat u.cnt c.U.length∧(mw=false→∀q,q<k→rP c n.toNat v q=false)) (fun (k:Nat) (v:Uf) (mw:Bool)=>c.U.length-k)
abbrev ij (c:Ci) (D':List (List Int)) (n:Int) (J':List ByteArray) (k:Nat) (v:Uf):Lp (Nat×List Int):=pI [2,3,4,5,6,7,8,9,10,11,12] 53 (fun (i:Nat) (rd:List Int)=>⟨[(2,(.ptr 0 0 0 0)),(3,(.ptr 1 0 0 0)),(4,(.ptr 2 0 0 0)),(5,(.ptr 9 0 0 0)),(6,(.own 10)),(7,(.ptr 19 0 0 0)),(8,(dB true)),(9,(i6 (k:Int))),(10,(.ptr 21 0 0 0)),(11,(.ptr 39 0 0 0)),(12,(i6 (i:Int)))],[(eJ c),(my D' n J'),mz,.dead,(eJ c),dt,(nW c),dt,(.arr 56 2 bn bh (en c (aj c v k))),dt,(.arr 3 1 (ab .i64) 0 rd),.dead,.dead,(.grp c.J.length (bu (br c v))),.dead,.dead,.dead,(.arr 3 1 (ab .i64) 0 (bO c (aj c v k))),.dead,tW,(.arrD 42 1 c.J.length [13] (cG 13)),(yy c k),.dead,.dead,.dead,.dead,.dead,.dead,.dead,.dead,.dead,.dead,.dead,.dead,.dead,.dead,.dead,.dead,.dead,(Cg c k v),.dead,.dead,.dead,.dead,.dead,.dead,.dead,.dead,.dead,.dead,.dead,.dead,.dead]⟩) (fun (i:Nat) (rd:List Int)=>i≤(c.U.getD k ac).I.length∧rd=jp (eW c v) (kR (c.U.getD k ac) (ax (c.U.getD k ac) (v.s k) (cB c v k) (c6 c k)) i)) (fun (i:Nat) (rd:List Int)=>(c.U.getD k ac).I.length-i)
abbrev ik (c:Ci) (D':List (List Int)) (n:Int) (J':List ByteArray) (k:Nat) (v:Uf) (rd:List Int):Lp (Nat×List (List Int)):=pI [2,3,4,5,6,7,8,9,10,11,13] 53 (fun (m:Nat) (em:List (List Int))=>⟨[(2,(.ptr 0 0 0 0)),(3,(.ptr 1 0 0 0)),(4,(.ptr 2 0 0 0)),(5,(.ptr 9 0 0 0)),(6,(.own 10)),(7,(.ptr 19 0 0 0)),(8,(dB true)),(9,(i6 (k:Int))),(10,(.ptr 21 0 0 0)),(11,(.ptr 39 0 0 0)),(13,(i6 (m:Int)))],[(eJ c),(my D' n J'),mz,.dead,(eJ c),dt,(nW c),dt,(.arr 56 2 bn bh (en c (aj c v k))),dt,(.arr 3 1 (ab .i64) 0 rd),.dead,.dead,(.grp c.J.length (bu em)),.dead,.dead,.dead,(.arr 3 1 (ab .i64) 0 (bO c (aj c v k))),.dead,tW,(.arrD 42 1 c.J.length [13] (cG 13)),(yy c k),.dead,.dead,.dead,.dead,.dead,.dead,.dead,.dead,.dead,.dead,.dead,.dead,.dead,.dead,.dead,.dead,.dead,(Cg c k v),.dead,.dead,.dead,.dead,.dead,.dead,.dead,.dead,.dead,.dead,.dead,.dead,.dead]⟩) (fun (m:Nat) (em:List (List Int))=>m≤(c.U.getD k ac).Rv.length∧em=bB (br c v) (kS (c.U.getD k ac) (ax (c.U.getD k ac) (v.s k) (cB c v k) (c6 c k)) m)) (fun (m:Nat) (em:List (List Int))=>(c.U.getD k ac).Rv.length-m)
abbrev xf (c:Ci) (D':List (List Int)) (n:Int) (J':List ByteArray) (k:Nat) (v:Uf) (rd:List Int) (m:Nat) (em:List (List Int)):List ap:=[(eJ c),(my D' n J'),mz,.dead,(eJ c),dt,(nW c),dt,(.arr 56 2 bn bh (en c (aj c v k))),dt,(.arr 3 1 (ab .i64) 0 rd),.dead,.dead,(.grp c.J.length (jR (bu em) (((c.U.getD k ac).Rv.getD m aB).chan.toNat) (ju (bu em (((c.U.getD k ac).Rv.getD m aB).chan.toNat))))),.dead,.dead,.dead,(.arr 3 1 (ab .i64) 0 (bO c (aj c v k))),.dead,tW,(.arrD 42 1 c.J.length [53,13] (cT 13 53 (((c.U.getD k ac).Rv.getD m aB).chan.toNat))),(yy c k),.dead,.dead,.dead,.dead,.dead,.dead,.dead,.dead,.dead,.dead,.dead,.dead,.dead,.dead,.dead,.dead,.dead,(Cg c k v),.dead,.dead,.dead,.dead,.dead,.dead,.dead,.dead,.dead,.dead,.dead,.dead,.dead,(.arr 3 1 (ab .i64) 0 (em.getD (((c.U.getD k ac).Rv.getD m aB).chan.toNat) [])),.dead,.dead,.dead,.dead,.dead,.dead,.dead,.dead,.dead,.dead,.dead,.dead,.dead,.dead,.dead,.dead,.dead,.dead,.dead,.dead,.dead,.dead,.dead,.dead,.dead]
abbrev xg (c:Ci) (D':List (List Int)) (n:Int) (J':List ByteArray) (k:Nat) (v:Uf) (rd:List Int) (m:Nat) (em:List (List Int)):List ap:=[(eJ c),(my D' n J'),mz,.dead,(eJ c),dt,(nW c),dt,(.arr 56 2 bn bh (en c (aj c v k))),dt,(.arr 3 1 (ab .i64) 0 rd),.dead,.dead,(.grp c.J.length (jR (bu em) (((c.U.getD k ac).Rv.getD m aB).chan.toNat) (ju (bu em (((c.U.getD k ac).Rv.getD m aB).chan.toNat))))),.dead,.dead,.dead,(.arr 3 1 (ab .i64) 0 (bO c (aj c v k))),.dead,tW,(.arrD 42 1 c.J.length [13] (cK 13 53 (((c.U.getD k ac).Rv.getD m aB).chan.toNat))),(yy c k),.dead,.dead,.dead,.dead,.dead,.dead,.dead,.dead,.dead,.dead,.dead,.dead,.dead,.dead,.dead,.dead,.dead,(Cg c k v),.dead,.dead,.dead,.dead,.dead,.dead,.dead,.dead,.dead,.dead,.dead,.dead,.dead,(.arr 3 1 (ab .i64) 0 ((em.getD (((c.U.getD k ac).Rv.getD m aB).chan.toNat) [])++[(((ax (c.U.getD k ac) (v.s k) (cB c v k) (c6 c k)).Rv).getD m aJ).v])),.dead,.dead,.dead,.dead,.dead,.dead,.dead,.dead,.dead,.dead,.dead,.dead,.dead,.dead,.dead,.dead,.dead,.dead,.dead,.dead,.dead,.dead,.dead,.dead,.dead]
abbrev xh (c:Ci) (D':List (List Int)) (n:Int) (J':List ByteArray) (k:Nat) (v:Uf) (rd:List Int) (m:Nat) (em:List (List Int)):List ap:=[(eJ c),(my D' n J'),mz,.dead,(eJ c),dt,(nW c),dt,(.arr 56 2 bn bh (en c (aj c v k))),dt,(.arr 3 1 (ab .i64) 0 rd),.dead,.dead,(.grp c.J.length (jR (bu em) (((c.U.getD k ac).Rv.getD m aB).chan.toNat) (ju (bu em (((c.U.getD k ac).Rv.getD m aB).chan.toNat))))),.dead,.dead,.dead,(.arr 3 1 (ab .i64) 0 (bO c (aj c v k))),.dead,tW,(.arrD 42 1 c.J.length [53,13] (cT 13 53 (((c.U.getD k ac).Rv.getD m aB).chan.toNat))),(yy c k),.dead,.dead,.dead,.dead,.dead,.dead,.dead,.dead,.dead,.dead,.dead,.dead,.dead,.dead,.dead,.dead,.dead,(Cg c k v),.dead,.dead,.dead,.dead,.dead,.dead,.dead,.dead,.dead,.dead,.dead,.dead,.dead,(.arr 3 1 (ab .i64) 0 ((em.getD (((c.U.getD k ac).Rv.getD m aB).chan.toNat) [])++[(((ax (c.U.getD k ac) (v.s k) (cB c v k) (c6 c k)).Rv).getD m aJ).v])),.dead,.dead,.dead,.dead,.dead,.dead,.dead,.dead,.dead,.dead,.dead,.dead,.dead,.dead,.dead,.dead,.dead,.dead,.dead,.dead,.dead,.dead,.dead,.dead,.dead]
def nZ (c:Ci) (D':List (List Int)) (n:Int) (J':List ByteArray) (k:Nat) (v:Uf) (rd:List Int) (m:Nat) (em:List (List Int)) (zn:Nat):St:=⟨fE zn [(2,0,0,0,(.ptr 0 0 0 0)),(3,0,0,0,(.ptr 1 0 0 0)),(4,0,0,0,(.ptr 2 0 0 0)),(5,0,0,0,(.ptr 9 0 0 0)),(6,0,0,0,(.own 10)),(7,0,0,0,(.ptr 19 0 0 0)),(8,0,0,0,(dB true)),(9,0,0,0,(i6 (k:Int))),(10,0,0,0,(.ptr 21 0 0 0)),(11,0,0,0,(.ptr 39 0 0 0)),(13,0,0,0,(i6 (m:Int))),(136,1,0,201326594,(.ptr 19 0 0 0)),(137,3,0,201326592,(.own 20)),(138,4,0,201326824,(.ptr 21 0 0 5)),(139,12,0,201326816,(dL 16 gd aB ((c.U.getD k ac).Rv))),(140,16,0,201326816,(i6 (m:Int))),(141,60,0,201326784,(.iptr (gd (((c.U.getD k ac).Rv).getD m aB)) 0)),(142,124,0,201326720,(.iptr (gd (((c.U.getD k ac).Rv).getD m aB)) 0)),(143,252,0,201326592,(i6 ((((c.U.getD k ac).Rv).getD m aB).chan))),(153,0,0,234881024,(.own 53)),(160,0,0,234881024,(LI [(((ax (c.U.getD k ac) (v.s k) (cB c v k) (c6 c k)).Rv).getD m aJ).v])),(161,33554432,0,134217728,(.own 53)),(162,100663551,0,134217728,(.ptr 20 (((((c.U.getD k ac).Rv).getD m aB).chan).toNat) 1 0))],(if Nat.beq (zn &&& 234881279) 234881279 then (xh c D' n J' k v rd m em)else (if Nat.beq (zn &&& 33554432) 33554432 then (xg c D' n J' k v rd m em)else (xf c D' n J' k v rd m em)))⟩
theorem Cl (c:Ci) (D':List (List Int)) (n:Int) (J':List ByteArray) (hc:be c) (hq:J5 c) (hl:D'.length≤9223372036854775807) (hs:∀i,(D'.getD i []).length≤9223372036854775807):CC (Q0 c D' n J'):=by
 have UU:=hc.nl
 have hcl:=hc.cl
 refine ah.vc (V:=TT 3 (CS ((cJ c D')=true) (CS (n<0) (TT 3 (CC (JX c D')∧TT 1 ((True∧(!(cJ c D'))=false)∧TT 4 ((True∧(decide (n<0))=true)∧TT 7 (((b8 c D' n).l)=[]∧((b8 c D' n).c)=[]∧(1:Int)=((b8 c D' n).e)∧True))))) (TT 3 (CC (JX c D')∧TT 1 ((True∧(!(cJ c D'))=false)∧TT 4 ((True∧(decide (n<0))=false)∧TT 4 (CD (n>100) (TT 3 (((b8 c D' n).l)=[]∧((b8 c D' n).c)=[]∧(1:Int)=((b8 c D' n).e)∧True)) (TT 1 (vU Tryz.prog 41 [(.agg (Cj c))] (Ck c D' n J') (jL c) (nX c D' n J') (nY c D') (.agg [(.own 8),(.own 6)])∧TT 5 ((((0:Int)≤(c.J.length:Int)∧(c.J.length:Int)≤(c.J.length:Int)∧(c.J.length:Int)≤137438953472)∧(eW c (u0 c D')).length=c.J.length∧∀x∈(eW c (u0 c D')),cg [(i6 0)] ((ab .i64) x))∧TT 3 (CO (NN D')∧TT 3 ((((0:Int)≤(c.U.length:Int)∧(c.U.length:Int)≤(c.U.length:Int)∧(c.U.length:Int)≤137438953472)∧(bO c (u0 c D')).length=c.U.length∧∀x∈(bO c (u0 c D')),cg [(i6 0)] ((ab .i64) x))∧TT 4 ((c.J.length=D'.length∧∀zi zj,zi<c.J.length→zj<1→(cG 13) zi zj=(fun (zi zj:Nat)=>Gi 13 ((fun i _=>.me i) zi zj)) zi zj∧∀z8,[13].all (fun g=>!(Nat.beq g z8))=true→((cG 13) zi zj).free z8=true)∧(c.J.length=D'.length∧∀z8,z8<c.J.length→bu (br c (u0 c D')) z8=(bu D') z8)∧TT 1 (GO (jN c D' n J') (u0 c D',true) (∀u mv,(jN c D' n J').inv (u,mv)→TT 1 (CB (mv) (TT 2 (GO (fG c D' n J' u) (0,u,false) (∀k v mw,(fG c D' n J' u).inv (k,v,mw)→TT 5 (CD ((k:Int)<(c.U.length:Int)) (TT 3 (IX (k:Int) c.U.length∧TT 7 (IX (k:Int) ((en c v).length)∧((k<(en c v).length∧True)∧((((en c v).getD k bh).Ry).map (ab .i64)=((v.s k).Ry).map (ab .i64)∧(((en c v).getD k bh).Rx).map aa=((v.s k).Rx).map aa∧True))∧TT 4 (((N0 (c.U.getD k ac) (br c v) (eW c v)).r=.own 0∧qM (N0 (c.U.getD k ac) (br c v) (eW c v)).B∧wS [(eJ c),(my D' n J'),mz,.dead,(eJ c),dt,(nW c),dt,(.arr 56 2 bn bh (en c v)),dt,(.arr 3 1 (ab .i64) 0 (eW c v)),.dead,.dead,(.grp c.J.length (bu (br c v))),.dead,.dead,.dead,(.arr 3 1 (ab .i64) 0 (bO c v)),.dead,tW,(.arrD 42 1 c.J.length [13] (cG 13)),(yy c k),.dead,.dead,.dead,.dead,.dead,.dead,.dead,.dead,.dead,.dead] [(.agg [(dS ((c.U.getD k ac).name)),(dS ((c.U.getD k ac).clock)),(dL 13 gM bH ((c.U.getD k ac).Ry)),(dL 27 m3 aP ((c.U.getD k ac).Rx)),(dL 9 ir aF ((c.U.getD k ac).I)),(dL 16 gd aB ((c.U.getD k ac).Rv))]),(.own 20),(.own 10)] (N0 (c.U.getD k ac) (br c v) (eW c v)).q'∧CO (N0 (c.U.getD k ac) (br c v) (eW c v)))∧TT 3 (CC (QX (((c.U.getD k ac).Rv).length))∧(True∧((tab (Av (c.U.getD k ac) (br c v) (eW c v)) (c.U.getD k ac).I.length).map bt=(cB c v k).map bt∧(List.replicate (((c.U.getD k ac).Rv).length) true).map aL=(c6 c k).map aL∧True))∧CC (O9 (c.U.getD k ac) (v.s k) (cB c v k) (c6 c k))∧TT 2 (CS (((ax (c.U.getD k ac) (v.s k) (cB c v k) (c6 c k)).fires)=true) (TT 3 ((True∧(!((ax (c.U.getD k ac) (v.s k) (cB c v k) (c6 c k)).fires))=false)∧TT 3 (IX (k:Int) ((bO c v).length)∧((k<(bO c v).length∧True)∧((bO c v).getD k 0)=(((v.cnt k):Nat):Int))∧TT 4 (CD ((((v.cnt k):Nat):Int)≥n) (TT 1 (W6 ((k+1:Nat):Int)∧TT 1 (AG (fG c D' n J' u) (k,v,mw) (k+1,v,mw)))) (TT 4 (IX (k:Int) ((bO c v).length)∧((k<(bO c v).length∧True)∧((bO c v).getD k 0)=(((v.cnt k):Nat):Int))∧W6 (((v.cnt k)+1:Nat):Int)∧IX (k:Int) ((bO c v).length)∧(k<(bO c v).length∧((bO c v).map (ab .i64)).set k (((ab .i64) ((bO c v).getD k 0)).take 0++[(.int .i64 (((v.cnt k)+1:Nat):Int))]++((ab .i64) ((bO c v).getD k 0)).drop (0+1))=(bO c (aj c v k)).map (ab .i64))∧TT 5 (IX (k:Int) ((en c v).length)∧(k<(en c v).length∧((en c v).map bn).set k ((bn ((en c v).getD k bh)).take 0++[(.sl 1 (ab .i64) 0 (((ax (c.U.getD k ac) (v.s k) (cB c v k) (c6 c k)).s).Ry)),(.sl 1 aa [] (((ax (c.U.getD k ac) (v.s k) (cB c v k) (c6 c k)).s).Rx))]++(bn ((en c v).getD k bh)).drop (0+2))=(en c (aj c v k)).map bn)∧TT 1 (GO (ij c D' n J' k v) (0,eW c v) (∀i rd,(ij c D' n J' k v).inv (i,rd)→TT 5 (CD ((i:Int)<((((c.U.getD k ac).I).length:Nat):Int)) (TT 3 (IX (i:Int) (((ax (c.U.getD k ac) (v.s k) (cB c v k) (c6 c k)).pops).length)∧TT 1 (CB ((((ax (c.U.getD k ac) (v.s k) (cB c v k) (c6 c k)).pops).getD i false)) (TT 4 (IX (i:Int) (((c.U.getD k ac).I).length)∧TT 2 (IX ((((c.U.getD k ac).I).getD i aF).chan) rd.length∧(((((c.U.getD k ac).I).getD i aF).chan).toNat<rd.length∧True)∧W6 ((rd.getD (((((c.U.getD k ac).I).getD i aF).chan).toNat) 0)+1)∧IX ((((c.U.getD k ac).I).getD i aF).chan) rd.length∧(((((c.U.getD k ac).I).getD i aF).chan).toNat<rd.length∧(rd.map (ab .i64)).set (((((c.U.getD k ac).I).getD i aF).chan).toNat) (((ab .i64) (rd.getD (((((c.U.getD k ac).I).getD i aF).chan).toNat) 0)).take 0++[(.int .i64 ((rd.getD (((((c.U.getD k ac).I).getD i aF).chan).toNat) 0)+1))]++((ab .i64) (rd.getD (((((c.U.getD k ac).I).getD i aF).chan).toNat) 0)).drop (0+1))=(rd.set (((((c.U.getD k ac).I).getD i aF).chan).toNat) (rd.getD (((((c.U.getD k ac).I).getD i aF).chan).toNat) 0+1)).map (ab .i64))∧TT 1 (W6 ((i+1:Nat):Int)∧TT 1 (AG (ij c D' n J' k v) (i,rd) (i+1,rd.set (((((c.U.getD k ac).I).getD i aF).chan).toNat) (rd.getD (((((c.U.getD k ac).I).getD i aF).chan).toNat) 0+1))))))) (TT 1 (W6 ((i+1:Nat):Int)∧TT 1 (AG (ij c D' n J' k v) (i,rd) (i+1,rd))))))) (TT 1 (GO (ik c D' n J' k v rd) (0,br c v) (∀m em,(ik c D' n J' k v rd).inv (m,em)→TT 5 (CD ((m:Int)<((((c.U.getD k ac).Rv).length:Nat):Int)) (TT 3 (IX (m:Int) (((ax (c.U.getD k ac) (v.s k) (cB c v k) (c6 c k)).Rv).length)∧TT 2 (CB ((((ax (c.U.getD k ac) (v.s k) (cB c v k) (c6 c k)).Rv).getD m aJ).has) (NA c.J.length c.J.length 13 (((c.U.getD k ac).Rv.getD m aB).chan.toNat) 53∧TT 5 (IX (m:Int) (((c.U.getD k ac).Rv).length)∧TT 7 (IX (m:Int) (((c.U.getD k ac).Rv).length)∧TT 2 (IX ((((c.U.getD k ac).Rv).getD m aB).chan) c.J.length∧((((((c.U.getD k ac).Rv).getD m aB).chan).toNat<c.J.length∧True)∧p6 ((cT 13 53 (((c.U.getD k ac).Rv.getD m aB).chan.toNat)) (((((c.U.getD k ac).Rv).getD m aB).chan).toNat) 0) (.own 53))∧TT 3 (IX (m:Int) (((ax (c.U.getD k ac) (v.s k) (cB c v k) (c6 c k)).Rv).length)∧TT 2 (ai [[(i6 ((((ax (c.U.getD k ac) (v.s k) (cB c v k) (c6 c k)).Rv).getD m aJ).v))]] ([(((ax (c.U.getD k ac) (v.s k) (cB c v k) (c6 c k)).Rv).getD m aJ).v].map (ab .i64))∧(fun (zz:Nat→St)=>zz 33554431=zz 33554431∧zz 33554429=zz 33554429∧zz 33554428=zz 33554428∧zz 33554303=zz 33554303∧zz 33554301=zz 33554301∧zz 33554300=zz 33554300∧zz 33554239=zz 33554239∧zz 33554237=zz 33554237∧zz 33554236=zz 33554236∧zz 33554207=zz 33554207∧zz 33554205=zz 33554205∧zz 33554204=zz 33554204∧zz 33554199=zz 33554199∧zz 33554197=zz 33554197∧zz 33554196=zz 33554196∧zz 33554195=zz 33554195∧zz 33554193=zz 33554193∧zz 33554192=zz 33554192∧zz 33554191=zz 33554191∧zz 33554189=zz 33554189∧zz 33554188=zz 33554188∧zz 33554183=zz 33554183∧zz 33554181=zz 33554181∧zz 33554180=zz 33554180∧zz 33554179=zz 33554179∧zz 33554177=zz 33554177∧zz 33554176=zz 33554176∧True) (nZ c D' n J' k v rd m em)∧(fun (zz:Nat→St) (U2 YG zp2 zp3:Prop)=>(sE (zz 67108863) U2∧True)∧(sE (zz 33554431) True∧sE (zz 67108861) U2∧True)∧(sE (zz 33554429) True∧sE (zz 67108860) U2∧True)∧(sE (zz 33554431) True∧sE (zz 67108735) U2∧True)∧(sE (zz 33554303) True∧sE (zz 33554429) True∧sE (zz 67108733) U2∧True)∧(sE (zz 33554301) True∧sE (zz 33554428) True∧sE (zz 67108732) U2∧True)∧(sE (zz 33554303) True∧sE (zz 67108671) U2∧True)∧(sE (zz 33554239) True∧sE (zz 33554301) True∧sE (zz 67108669) U2∧True)∧(sE (zz 33554237) True∧sE (zz 33554300) True∧sE (zz 67108668) U2∧True)∧(sE (zz 33554239) YG∧sE (zz 67108639) U2∧True)∧(sE (zz 33554207) True∧sE (zz 33554237) YG∧sE (zz 67108637) U2∧True)∧(sE (zz 33554205) True∧sE (zz 33554236) YG∧sE (zz 67108636) U2∧True)∧(sE (zz 33554207) True∧sE (zz 67108631) U2∧True)∧(sE (zz 33554199) True∧sE (zz 33554205) True∧sE (zz 67108629) U2∧True)∧(sE (zz 33554197) True∧sE (zz 33554204) True∧sE (zz 67108628) U2∧True)∧(sE (zz 33554199) True∧sE (zz 67108627) U2∧True)∧(sE (zz 33554195) True∧sE (zz 33554197) True∧sE (zz 67108625) U2∧True)∧(sE (zz 33554193) True∧sE (zz 33554196) True∧sE (zz 67108624) U2∧True)∧(sE (zz 33554207) True∧sE (zz 67108623) U2∧True)∧(sE (zz 33554191) True∧sE (zz 33554205) True∧sE (zz 67108621) U2∧True)∧(sE (zz 33554189) True∧sE (zz 33554204) True∧sE (zz 67108620) U2∧True)∧(sE (zz 33554191) True∧sE (zz 33554199) True∧sE (zz 67108615) U2∧True)∧(sE (zz 33554183) True∧sE (zz 33554189) True∧sE (zz 33554197) True∧sE (zz 67108613) U2∧True)∧(sE (zz 33554181) True∧sE (zz 33554188) True∧sE (zz 33554196) True∧sE (zz 67108612) U2∧True)∧(sE (zz 33554183) True∧sE (zz 33554195) True∧sE (zz 67108611) U2∧True)∧(sE (zz 33554179) True∧sE (zz 33554181) True∧sE (zz 33554193) True∧sE (zz 67108609) U2∧True)∧(sE (zz 33554177) True∧sE (zz 33554180) True∧sE (zz 33554192) True∧sE (zz 67108608) U2∧True)∧(sE (zz 134217727) zp2∧True)∧(sE (zz 67108863) True∧True)∧(sE (zz 67108861) True∧True)∧(sE (zz 67108863) True∧True)∧(sE (zz 67108735) True∧sE (zz 67108861) True∧True)∧(sE (zz 67108733) True∧sE (zz 67108860) True∧True)∧(sE (zz 67108735) True∧True)∧(sE (zz 67108671) True∧sE (zz 67108733) True∧True)∧(sE (zz 67108669) True∧sE (zz 67108732) True∧True)∧(sE (zz 67108671) YG∧True)∧(sE (zz 67108639) True∧sE (zz 67108669) YG∧True)∧(sE (zz 67108637) True∧sE (zz 67108668) YG∧True)∧(sE (zz 67108639) True∧True)∧(sE (zz 67108631) True∧sE (zz 67108637) True∧True)∧(sE (zz 67108629) True∧sE (zz 67108636) True∧True)∧(sE (zz 67108631) True∧True)∧(sE (zz 67108627) True∧sE (zz 67108629) True∧True)∧(sE (zz 67108625) True∧sE (zz 67108628) True∧True)∧(sE (zz 67108639) True∧True)∧(sE (zz 67108623) True∧sE (zz 67108637) True∧True)∧(sE (zz 67108621) True∧sE (zz 67108636) True∧True)∧(sE (zz 67108623) True∧sE (zz 67108631) True∧True)∧(sE (zz 67108615) True∧sE (zz 67108621) True∧sE (zz 67108629) True∧True)∧(sE (zz 67108613) True∧sE (zz 67108620) True∧sE (zz 67108628) True∧True)∧(sE (zz 67108615) True∧sE (zz 67108627) True∧True)∧(sE (zz 67108611) True∧sE (zz 67108613) True∧sE (zz 67108625) True∧True)∧(sE (zz 67108609) True∧sE (zz 67108612) True∧sE (zz 67108624) True∧True)∧(sE (zz 268435455) zp3∧True)∧True∧True) (nZ c D' n J' k v rd m em) ((em.getD (((c.U.getD k ac).Rv.getD m aB).chan.toNat) []).length+([(((ax (c.U.getD k ac) (v.s k) (cB c v k) (c6 c k)).Rv).getD m aJ).v].map (ab .i64)).length≤137438953472∧(em.getD (((c.U.getD k ac).Rv.getD m aB).chan.toNat) []).map (ab .i64)++[(((ax (c.U.getD k ac) (v.s k) (cB c v k) (c6 c k)).Rv).getD m aJ).v].map (ab .i64)=((em.getD (((c.U.getD k ac).Rv.getD m aB).chan.toNat) [])++[(((ax (c.U.getD k ac) (v.s k) (cB c v k) (c6 c k)).Rv).getD m aJ).v]).map (ab .i64)) (IX (m:Int) (((c.U.getD k ac).Rv).length)) (IX ((((c.U.getD k ac).Rv).getD m aB).chan) c.J.length) (((((c.U.getD k ac).Rv).getD m aB).chan).toNat<c.J.length∧mJ 1 c.J.length (((((c.U.getD k ac).Rv).getD m aB).chan).toNat) 0 [(.own 53)] [53,13] (cK 13 53 (((c.U.getD k ac).Rv.getD m aB).chan.toNat)) (cT 13 53 (((c.U.getD k ac).Rv.getD m aB).chan.toNat)))∧Ma c.J.length c.J.length 13 (((c.U.getD k ac).Rv.getD m aB).chan.toNat) 53 em (em.set (((c.U.getD k ac).Rv.getD m aB).chan.toNat) (em.getD (((c.U.getD k ac).Rv.getD m aB).chan.toNat) []++[(((ax (c.U.getD k ac) (v.s k) (cB c v k) (c6 c k))).Rv.getD m aJ).v])) ((em.getD (((c.U.getD k ac).Rv.getD m aB).chan.toNat) [])++[(((ax (c.U.getD k ac) (v.s k) (cB c v k) (c6 c k)).Rv).getD m aJ).v])∧Jz c.J.length c.J.length 13∧TT 1 (W6 ((m+1:Nat):Int)∧TT 1 (AG (ik c D' n J' k v rd) (m,em) (m+1,em.set (((c.U.getD k ac).Rv.getD m aB).chan.toNat) (em.getD (((c.U.getD k ac).Rv.getD m aB).chan.toNat) []++[(((ax (c.U.getD k ac) (v.s k) (cB c v k) (c6 c k))).Rv.getD m aJ).v])))))))))) (TT 1 (W6 ((m+1:Nat):Int)∧TT 1 (AG (ik c D' n J' k v rd) (m,em) (m+1,em))))))) ((c.J.length=c.J.length∧∀z8,z8<c.J.length→bu (br c (aj c v k)) z8=(bu em) z8)∧TT 1 (((eW c (aj c v k)).length=rd.length∧(∀z7∈(eW c (aj c v k)),((ab .i64) z7).length=1)∧∀zi zj,zi<rd.length→zj<1→fg (ab .i64) 0 rd zi zj=fg (ab .i64) 0 (eW c (aj c v k)) zi zj)∧TT 1 (W6 ((k+1:Nat):Int)∧TT 1 (AG (fG c D' n J' u) (k,v,mw) (k+1,aj c v k,true))))))))))))))))))) (TT 3 ((True∧(!((ax (c.U.getD k ac) (v.s k) (cB c v k) (c6 c k)).fires))=true)∧TT 2 (W6 ((k+1:Nat):Int)∧TT 1 (AG (fG c D' n J' u) (k,v,mw) (k+1,v,mw))))))))))) (AG (jN c D' n J') (u,mv) (v,mw)))))) (((br c u).length=c.J.length∧(∀x∈(br c u),(aa x).length=1)∧∀zi zj,zi<c.J.length→zj<1→(fun (zi zj:Nat)=>eO 13 (.gs (fun zr=>.sl ((bu (br c u)) zr).sz ((bu (br c u)) zr).enc ((bu (br c u)) zr).d ((bu (br c u)) zr).l)) ((cG 13) zi zj)) zi zj=fg aa [] (br c u) zi zj)∧TT 3 ((br c u).map aa=((b8 c D' n).l).map aa∧(bO c u).map (ab .i64)=((b8 c D' n).c).map (ab .i64)∧(0:Int)=((b8 c D' n).e)∧True))))))))))))))))) (TT 3 (CC (JX c D')∧TT 1 ((True∧(!(cJ c D'))=true)∧TT 12 (((b8 c D' n).l)=[]∧((b8 c D' n).c)=[]∧(1:Int)=((b8 c D' n).e)∧True)))))) (.s 1 ((cJ c D')=true) (.s 1 (n<0) (.w 1 [(3,(JX c D').O),(5,.val (dB false)),(10,.val (dB true))]<|.e) (.w 1 [(3,(JX c D').O),(5,.val (dB false)),(10,.val (dB false))]<|.b 28 (.e) (.q 3 [2,3,4] 3<|.w 3 [(1,.inl (.agg [(.own 8),(.own 6)]) (jL c) ((nX c D' n J')++.dead::(nY c D')))]<|.w 4 [(3,.box 3 1 (ab .i64) 0 (eW c (u0 c D')))]<|.w 5 [(2,(NN D').O),(6,.box 3 1 (ab .i64) 0 (bO c (u0 c D')))]<|.gh 6 (xN 13)<|.gh 6 (eE 20 c.J.length [13] (cG 13))<|.gh 6 (tz 13 c.J.length (bu (br c (u0 c D'))))<|.l (jN c D' n J') (u0 c D',true) (fun ⟨u,mv⟩=>.b 44 (.l (fG c D' n J' u) (0,u,false) (fun ⟨k,v,mw⟩=>.b 49 (.w 13 [(5,.val (.agg [(LI ((v.s k).Ry)),(dL 1 aa [] ((v.s k).Rx))])),(10,(N0 (c.U.getD k ac) (br c v) (eW c v)).F'),(14,(QX (((c.U.getD k ac).Rv).length)).O),(15,.val (.agg [(dL 2 bt aJ (cB c v k)),(LB (c6 c k))])),(16,(O9 (c.U.getD k ac) (v.s k) (cB c v k) (c6 c k)).O)]<|.s 14 (((ax (c.U.getD k ac) (v.s k) (cB c v k) (c6 c k)).fires)=true) (.w 14 [(3,.val (dB false)),(8,.val (i6 (((v.cnt k):Nat):Int)))]<|.b 86 (.w 11 [(1,.val (i6 ((k+1:Nat):Int)))]<|.e) (.w 16 [(4,.val (i6 (((v.cnt k):Nat):Int))),(5,.val (i6 (((v.cnt k)+1:Nat):Int))),(7,.box 3 1 (ab .i64) 0 (bO c (aj c v k)))]<|.w 17 [(6,.box 56 2 bn bh (en c (aj c v k)))]<|.l (ij c D' n J' k v) (0,eW c v) (fun ⟨i,rd⟩=>.b 104 (.b 111 (.w 22 [(9,.val (i6 ((rd.getD (((((c.U.getD k ac).I).getD i aF).chan).toNat) 0)+1))),(11,.box 3 1 (ab .i64) 0 (rd.set (((((c.U.getD k ac).I).getD i aF).chan).toNat) (rd.getD (((((c.U.getD k ac).I).getD i aF).chan).toNat) 0+1)))]<|.w 20 [(1,.val (i6 ((i+1:Nat):Int)))]<|.e) (.w 20 [(1,.val (i6 ((i+1:Nat):Int)))]<|.e)) (.l (ik c D' n J' k v rd) (0,br c v) (fun ⟨m,em⟩=>.b 127 (.b 135 (.gh 27 (take 20 13 (((c.U.getD k ac).Rv.getD m aB).chan.toNat) (cT 13 53 (((c.U.getD k ac).Rv.getD m aB).chan.toNat)))<|.y 27 [(17,.val (.own 53)),(24,.box 3 1 (ab .i64) 0 [(((ax (c.U.getD k ac) (v.s k) (cB c v k) (c6 c k)).Rv).getD m aJ).v]),(25,.box 3 1 (ab .i64) 0 ((em.getD (((c.U.getD k ac).Rv.getD m aB).chan.toNat) [])++[(((ax (c.U.getD k ac) (v.s k) (cB c v k) (c6 c k)).Rv).getD m aJ).v])),(27,.cells [53,13] (cT 13 53 (((c.U.getD k ac).Rv.getD m aB).chan.toNat)))] ((fun (zz:Nat→St)=>[(bm 28 33554431,zz 33554431),(bm 28 33554429,zz 33554429),(bm 28 33554428,zz 33554428),(bm 28 33554303,zz 33554303),(bm 28 33554301,zz 33554301),(bm 28 33554300,zz 33554300),(bm 28 33554239,zz 33554239),(bm 28 33554237,zz 33554237),(bm 28 33554236,zz 33554236),(bm 28 33554207,zz 33554207),(bm 28 33554205,zz 33554205),(bm 28 33554204,zz 33554204),(bm 28 33554199,zz 33554199),(bm 28 33554197,zz 33554197),(bm 28 33554196,zz 33554196),(bm 28 33554195,zz 33554195),(bm 28 33554193,zz 33554193),(bm 28 33554192,zz 33554192),(bm 28 33554191,zz 33554191),(bm 28 33554189,zz 33554189),(bm 28 33554188,zz 33554188),(bm 28 33554183,zz 33554183),(bm 28 33554181,zz 33554181),(bm 28 33554180,zz 33554180),(bm 28 33554179,zz 33554179),(bm 28 33554177,zz 33554177),(bm 28 33554176,zz 33554176),(bm 28 67108863,zz 67108863),(bm 28 67108861,zz 67108861),(bm 28 67108860,zz 67108860),(bm 28 67108735,zz 67108735),(bm 28 67108733,zz 67108733),(bm 28 67108732,zz 67108732),(bm 28 67108671,zz 67108671),(bm 28 67108669,zz 67108669),(bm 28 67108668,zz 67108668),(bm 28 67108639,zz 67108639),(bm 28 67108637,zz 67108637),(bm 28 67108636,zz 67108636),(bm 28 67108631,zz 67108631),(bm 28 67108629,zz 67108629),(bm 28 67108628,zz 67108628),(bm 28 67108627,zz 67108627),(bm 28 67108625,zz 67108625),(bm 28 67108624,zz 67108624),(bm 28 67108623,zz 67108623),(bm 28 67108621,zz 67108621),(bm 28 67108620,zz 67108620),(bm 28 67108615,zz 67108615),(bm 28 67108613,zz 67108613),(bm 28 67108612,zz 67108612),(bm 28 67108611,zz 67108611),(bm 28 67108609,zz 67108609),(bm 28 67108608,zz 67108608),(bm 28 134217727,zz 134217727),(bm 28 268435455,zz 268435455)]) (nZ c D' n J' k v rd m em))<|.gh 25 (put 20 13 53 (((c.U.getD k ac).Rv.getD m aB).chan.toNat) c.J.length (cG 13) (bu (em.set (((c.U.getD k ac).Rv.getD m aB).chan.toNat) (em.getD (((c.U.getD k ac).Rv.getD m aB).chan.toNat) []++[(((ax (c.U.getD k ac) (v.s k) (cB c v k) (c6 c k))).Rv.getD m aJ).v]))))<|.gh 25 (eE 20 c.J.length [13] (cG 13))<|.w 25 [(1,.val (i6 ((m+1:Nat):Int)))]<|.e) (.w 25 [(1,.val (i6 ((m+1:Nat):Int)))]<|.e)) (.gh 11 (tz 13 c.J.length (bu (br c (aj c v k))))<|.gh 11 (Oj 10)<|.gh 11 (Km 10 (ab .i64) 0 (eW c (aj c v k)))<|.w 11 [(1,.val (i6 ((k+1:Nat):Int)))]<|.e)))))) (.w 14 [(3,.val (dB true))]<|.w 11 [(1,.val (i6 ((k+1:Nat):Int)))]<|.e)) (.e))) (.f 28 13<|.gh 28 (Km 20 aa [] (br c u))<|.f 28 20<|.f 28 17<|.e))))) (.w 1 [(3,(JX c D').O),(5,.val (dB true))]<|.e)) Tryz.func14 rfl rfl rfl (by kernel_rfl) ?_
 refine tt ⟨fun T7=>?_,fun T7=>?_⟩
 · refine⟨fun Ur=>?_,fun Ur=>?_⟩
   · refine tt ⟨(ii c D' hc hl hs),tt ⟨(mF T7),tt ⟨(vT Ur),tt ⟨?_,?_,?_,oK⟩⟩⟩⟩
     all_goals (all_goals (first | (unfold b8;rw[iR (by rintro⟨q1,q2,q3⟩;first | omega | (simp_all;done))];done) | (unfold b8;rw[dW (bM.2 hin) ⟨by omega,by omega⟩];done) | (unfold b8;rw[dW (bM.2 hin) ⟨by omega,by omega⟩,WE];done)))
   · refine tt ⟨(ii c D' hc hl hs),tt ⟨(mF T7),tt ⟨(vF Ur),tt (cd (fun VR=>?_) (fun VR=>?_))⟩⟩⟩
     · refine tt ⟨?_,?_,?_,oK⟩
       all_goals (all_goals (first | (unfold b8;rw[iR (by rintro⟨q1,q2,q3⟩;first | omega | (simp_all;done))];done) | (unfold b8;rw[dW (bM.2 hin) ⟨by omega,by omega⟩];done) | (unfold b8;rw[dW (bM.2 hin) ⟨by omega,by omega⟩,WE];done)))
     · have hin:nz c D':=bM.1 (by first | assumption | simpa using T7)
       have WL:bO c (u0 c D')=List.replicate c.U.length (0:Int):=Ad
       have Zm:eW c (u0 c D')=List.replicate c.J.length (0:Int):=L8
       have X2:br c (u0 c D')=D':=Ac 0 hin.l
       refine tt ⟨?_,?_⟩
       · intro T9
         refine fO.vc (V:=TT 5 ((((0:Int)≤(c.J.length:Int)∧(c.J.length:Int)≤(c.J.length:Int)∧(c.J.length:Int)≤137438953472)∧(List.replicate c.J.length ([]:List Int)).length=c.J.length∧∀x∈(List.replicate c.J.length ([]:List Int)),cg [.nils] (aa x))∧TT 4 (GO (jM c D' n J' T9) 0 (∀i,(jM c D' n J' T9).inv i→TT 5 (CD ((i:Int)<(c.U.length:Int)) (TT 5 (IX (i:Int) c.U.length∧TT 1 (CC (O8 (c.U.getD i ac))∧ai [[(LI ((aC (c.U.getD i ac)).Ry)),(dL 1 aa [] ((aC (c.U.getD i ac)).Rx))]] ([(⟨(aC (c.U.getD i ac)).Ry,(aC (c.U.getD i ac)).Rx⟩:Ps)].map bn)∧((tab (fun i=>aC (bg c i)) i).length+([(⟨(aC (c.U.getD i ac)).Ry,(aC (c.U.getD i ac)).Rx⟩:Ps)].map bn).length≤137438953472∧(tab (fun i=>aC (bg c i)) i).map bn++[(⟨(aC (c.U.getD i ac)).Ry,(aC (c.U.getD i ac)).Rx⟩:Ps)].map bn=(tab (fun i=>aC (bg c i)) (i+1)).map bn)∧TT 3 (W6 ((i+1:Nat):Int)∧TT 1 (AG (jM c D' n J' T9) i (i+1)))))) (TT 1 (((en c (u0 c D')).length=(tab (fun i=>aC (bg c i)) i).length∧(∀z7∈(en c (u0 c D')),(bn z7).length=2)∧∀zi zj,zi<(tab (fun i=>aC (bg c i)) i).length→zj<2→fg bn bh (tab (fun i=>aC (bg c i)) i) zi zj=fg bn bh (en c (u0 c D')) zi zj)∧TT 3 (((((.own 8):D)=(.own 8)∧((.own 6):D)=(.own 6)∧True))∧([(eJ c),(my D' n J'),mz,.frame T9 (jL c),(eJ c),dt,(nW c),dt,(.arr 56 2 bn bh (en c (u0 c D')))]:List ap)=(nX c D' n J')++.frame T9 (jL c)::(nY c D'))))))))) (.w 1 [(3,.box 42 1 aa [] (List.replicate c.J.length ([]:List Int)))]<|.g 2 7 0 56 2 bn bh<|.l (jM c D' n J' T9) 0 (fun i=>.b 14 (.w 5 [(7,(O8 (c.U.getD i ac)).O),(8,.box 56 2 bn bh [(⟨(aC (c.U.getD i ac)).Ry,(aC (c.U.getD i ac)).Rx⟩:Ps)]),(9,.box 56 2 bn bh (tab (fun i=>aC (bg c i)) (i+1)))]<|.w 4 [(1,.val (i6 ((i+1:Nat):Int)))]<|.e) (.gh 6 (Oj 8)<|.gh 6 (Km 8 bn bh (en c (u0 c D')))<|.e))) Tryz.func41 rfl rfl (by kernel_rfl) ?_
         have UU:=hc.nl
         have hcl:=hc.cl
         refine tt ⟨⟨by omega,by simp,fun x hx=>by rw[RS hx];exact⟨rfl,oK⟩⟩,tt ⟨rfl,(by omega),?_⟩⟩
         intro i I'
         have hi:=I'
         refine tt (cd (fun VT=>?_) (fun VT=>?_))
         · have Vt:=hc.pr i (by omega)
           refine tt ⟨ix,tt ⟨(yn (c.U.getD i ac) Vt),⟨⟨⟨rfl,rfl,oK⟩,oK⟩,⟨(fV (f:=fun i=>aC (bg c i)) (by omega)),tt ⟨w6,tt ⟨(i+1),rfl,(?_:(i+1)≤c.U.length),(?_:c.U.length-(i+1)<c.U.length-i)⟩⟩⟩⟩⟩⟩
           · omega
           · omega
         · exact tt ⟨(sJ (by rw[show i=c.U.length by omega];exact Pu) (fun _=>rfl)),tt ⟨⟨rfl,rfl,oK⟩,rfl⟩⟩
       refine tt ⟨⟨by omega,by rw[Zm,RC],fun x hx=>by rw[Zm]at hx;rw[RS hx];exact⟨rfl,oK⟩⟩,tt ⟨(qx D' (lO hin hc).1 (fun i=>SG (hin.sm i) (by decide))),tt ⟨⟨by omega,by rw[WL,RC],fun x hx=>by rw[WL]at hx;rw[RS hx];exact⟨rfl,oK⟩⟩,tt ⟨⟨hin.l.symm,fun i j _ _=>⟨rfl,fun k hk=>rT hk⟩⟩,⟨⟨hin.l.symm,fun k _=>by rw[X2]⟩,tt ⟨rfl,⟨BL hc hin _,fun hq=>(by cases hq)⟩,?_⟩⟩⟩⟩⟩⟩
       intro u mv I'
       obtain⟨hui,hm2⟩:=I'
       refine tt ⟨fun Xb=>?_,fun Xb=>?_⟩
       · refine tt ⟨rfl,⟨by omega,hui,by simp,fun hq q hq9=>by omega⟩,?_⟩
         intro k v mw I'
         obtain⟨hk0,X3,XE,hw2⟩:=I'
         refine tt (cd (fun hc49=>?_) (fun hc49=>?_))
         · have hk:k<c.U.length:=by omega
           have Vt:fk (c.U.getD k ac):=hc.pr k hk
           have Yj:(c.U.getD k ac).I.length≤100:=Vt.tl
           have ZC:(c.U.getD k ac).Rv.length≤100:=Vt.pl
           have hnn:0≤n∧n≤100:=by omega
           have hnP:n.toNat*c.U.length≤100*100:=Tt (by omega) UU
           have XQ:(bO c v).getD k 0=(v.cnt k:Int):=tb hk
           have hcnk:=X3.cn k
           have Uz:(ax (c.U.getD k ac) (v.s k) (cB c v k) (c6 c k))=fw c v k:=rfl
           have hcl5:(bO c v).length=c.U.length:=am _ _
           have hsl5:(en c v).length=c.U.length:=am _ _
           have hrl5:(eW c v).length=c.J.length:=am _ _
           have hpp:(ax (c.U.getD k ac) (v.s k) (cB c v k) (c6 c k)).pops.length=(c.U.getD k ac).I.length:=gN _ _ _ _
           have Xz:(ax (c.U.getD k ac) (v.s k) (cB c v k) (c6 c k)).Rv.length=(c.U.getD k ac).Rv.length:=eh _ _ _ _
           have hch9:∀j,j<(c.U.getD k ac).I.length→0≤((c.U.getD k ac).I.getD j aF).chan∧((c.U.getD k ac).I.getD j aF).chan<(br c v).length∧((c.U.getD k ac).I.getD j aF).chan<(eW c v).length∧0≤(eW c v).getD ((c.U.getD k ac).I.getD j aF).chan.toNat 0:=fun j hj=>by
             have h1:0≤((c.U.getD k ac).I.getD j aF).chan:=(hc.tk k hk j hj).1
             have h2:((c.U.getD k ac).I.getD j aF).chan<c.J.length:=(hc.tk k hk j hj).2.1
             have h3:(br c v).length=c.J.length:=am _ _
             refine⟨h1,by omega,by omega,?_⟩
             rw[Ae (by omega)];omega
           refine tt ⟨ix,tt ⟨ix,⟨⟨⟨om,oK⟩,(by rw[show(en c v).getD k bh=v.s k from aD hk];exact⟨rfl,rfl,oK⟩)⟩,tt ⟨⟨rfl,LA,⟨⟨rfl,rfl,rfl,rfl,rfl,rfl,oK⟩,⟨rfl,13,_,_,_,_,_,_,_,_,rfl,(am _ _).symm,RD _,fun _ _=>⟨rfl,rfl⟩,rfl⟩,rfl,oK⟩,(G5 (c.U.getD k ac) (br c v) (eW c v) Yj hch9 (NR X3 (by omega)))⟩,tt ⟨(G3 (((c.U.getD k ac).Rv).length) (by omega)),⟨⟨oK,(by rw[NS hc hk];exact⟨rfl,rfl,oK⟩)⟩,⟨(yo (c.U.getD k ac) (v.s k) (cB c v k) (c6 c k) Vt (X3.ok.ps k hk) (rO hc X3.ok hk) RC),tt ⟨fun Vs=>?_,fun Vs=>?_⟩⟩⟩⟩⟩⟩⟩⟩
           · refine tt ⟨(mF Vs),tt ⟨ix,⟨⟨⟨om,oK⟩,XQ⟩,tt (cd (fun X0=>?_) (fun X0=>?_))⟩⟩⟩
             · have hcpf:rP c n.toNat v k=false:=BK (by omega)
               refine tt ⟨w6,tt ⟨(k+1,v,mw),rfl,?_,(?_:c.U.length-(k+1)<c.U.length-k)⟩⟩
               · exact⟨by omega,X3,XE,fun hq=>di (hw2 hq) hcpf⟩
               · omega
             · have Xn:rP c n.toNat v k=true:=by rw[s9 (by omega)];exact Vs
               refine tt ⟨ix,⟨⟨⟨om,oK⟩,XQ⟩,⟨w6,⟨ix,⟨⟨by rw[am];exact hk,by rw[← zZ hk,XQ,Ss];rfl⟩,tt ⟨ix,⟨⟨by rw[am];exact hk,by rw[← Jo hk,Ss];rfl⟩,tt ⟨rfl,⟨by omega,rfl⟩,?_⟩⟩⟩⟩⟩⟩⟩⟩
               intro i rd I'
               obtain⟨hi,Xj⟩:=I'
               have hrdl:rd.length=c.J.length:=by rw[Xj,oV];exact am _ _
               refine tt (cd (fun Zc=>?_) (fun Zc=>?_))
               · refine tt ⟨ix,tt ⟨fun Zq=>?_,fun Zq=>?_⟩⟩
                 · have WB:0≤((c.U.getD k ac).I.getD i aF).chan∧((c.U.getD k ac).I.getD i aF).chan<c.J.length:=⟨(hc.tk k hk i (show i<(c.U.getD k ac).I.length by omega)).1,(hc.tk k hk i (show i<(c.U.getD k ac).I.length by omega)).2.1⟩
                   have hrb:=L5 (u:=v) (f:=fw c v k) (n:=((c.U.getD k ac).I.getD i aF).chan.toNat) hc hk (show i≤(bg c k).I.length from hi) (by omega)
                   have hrn:=X3.ok.rd (((c.U.getD k ac).I.getD i aF).chan.toNat) (by omega)
                   have ZA:=wv X3 (((c.U.getD k ac).I.getD i aF).chan.toNat)
                   rw[show jp (eW c v) (kR (bg c k) (fw c v k) i)=rd from Xj.symm]at hrb
                   refine tt ⟨ix,tt ⟨ix,⟨⟨om,oK⟩,⟨w6,⟨ix,⟨⟨by omega,by simp only[Ss];rfl⟩,tt ⟨w6,tt ⟨(i+1,rd.set (((((c.U.getD k ac).I).getD i aF).chan).toNat) (rd.getD (((((c.U.getD k ac).I).getD i aF).chan).toNat) 0+1)),rfl,?_,(?_:(c.U.getD k ac).I.length-(i+1)<(c.U.getD k ac).I.length-i)⟩⟩⟩⟩⟩⟩⟩⟩
                   · exact⟨by omega,by rw[uN Zq,Xj];exact(ww _ _ _).symm⟩
                   · omega
                 · refine tt ⟨w6,tt ⟨(i+1,rd),rfl,?_,(?_:(c.U.getD k ac).I.length-(i+1)<(c.U.getD k ac).I.length-i)⟩⟩
                   · exact⟨by omega,by rw[zI Zq,Xj]⟩
                   · omega
               · refine tt ⟨rfl,⟨by omega,rfl⟩,?_⟩
                 intro m em I'
                 obtain⟨hm,VS⟩:=I'
                 have YC:em.length=c.J.length:=by rw[VS,cR];exact am _ _
                 refine tt (cd (fun hc127=>?_) (fun hc127=>?_))
                 · refine tt ⟨ix,tt ⟨fun Zr=>?_,fun Zr=>?_⟩⟩
                   · have hpk9:0≤((c.U.getD k ac).Rv.getD m aB).chan∧((c.U.getD k ac).Rv.getD m aB).chan<c.J.length:=⟨(hc.pt k hk m (show m<(c.U.getD k ac).Rv.length by omega)).1,(hc.pt k hk m (show m<(c.U.getD k ac).Rv.length by omega)).2.1⟩
                     have ZE:=Fp (c:=c) (u:=v) (p:=k) (f:=fw c v k) (k:=m) (n:=((c.U.getD k ac).Rv.getD m aB).chan.toNat) (by omega)
                     rw[show bB (br c v) (kS (bg c k) (fw c v k) m)=em from VS.symm]at ZE
                     have ZA:=wv X3 ((c.U.getD k ac).Rv.getD m aB).chan.toNat
                     refine⟨(GT om),tt ⟨ix,tt ⟨ix,tt ⟨ix,⟨⟨⟨om,oK⟩,tR⟩,tt ⟨ix,tt ⟨⟨⟨rfl,oK⟩,oK⟩,⟨⟨rfl,rfl,rfl,rfl,rfl,rfl,rfl,rfl,rfl,rfl,rfl,rfl,rfl,rfl,rfl,rfl,rfl,rfl,rfl,rfl,rfl,rfl,rfl,rfl,rfl,rfl,rfl,oK⟩,⟨⟨⟨⟨rfl,⟨by simp only[RJ,RK,RN];first | omega | (simp;first | done | omega),by simp only[RO,R4,RL]⟩,oK⟩,oK⟩,⟨⟨rfl,oK,oK⟩,⟨rfl,⟨by simp only[RJ,RK,RN];first | omega | (simp;first | done | omega),by simp only[RO,R4,RL]⟩,oK⟩,oK⟩,⟨⟨rfl,oK,oK⟩,⟨rfl,⟨by simp only[RJ,RK,RN];first | omega | (simp;first | done | omega),by simp only[RO,R4,RL]⟩,oK⟩,oK⟩,⟨⟨rfl,oK,oK⟩,⟨rfl,⟨by simp only[RJ,RK,RN];first | omega | (simp;first | done | omega),by simp only[RO,R4,RL]⟩,oK⟩,oK⟩,⟨⟨rfl,oK,oK⟩,⟨rfl,oK,oK⟩,⟨rfl,⟨by simp only[RJ,RK,RN];first | omega | (simp;first | done | omega),by simp only[RO,R4,RL]⟩,oK⟩,oK⟩,⟨⟨rfl,oK,oK⟩,⟨rfl,oK,oK⟩,⟨rfl,⟨by simp only[RJ,RK,RN];first | omega | (simp;first | done | omega),by simp only[RO,R4,RL]⟩,oK⟩,oK⟩,⟨⟨rfl,oK,oK⟩,⟨rfl,⟨by simp only[RJ,RK,RN];first | omega | (simp;first | done | omega),by simp only[RO,R4,RL]⟩,oK⟩,oK⟩,⟨⟨rfl,oK,oK⟩,⟨rfl,oK,oK⟩,⟨rfl,⟨by simp only[RJ,RK,RN];first | omega | (simp;first | done | omega),by simp only[RO,R4,RL]⟩,oK⟩,oK⟩,⟨⟨rfl,oK,oK⟩,⟨rfl,oK,oK⟩,⟨rfl,⟨by simp only[RJ,RK,RN];first | omega | (simp;first | done | omega),by simp only[RO,R4,RL]⟩,oK⟩,oK⟩,⟨⟨rfl,ix,oK⟩,⟨rfl,⟨by simp only[RJ,RK,RN];first | omega | (simp;first | done | omega),by simp only[RO,R4,RL]⟩,oK⟩,oK⟩,⟨⟨rfl,oK,oK⟩,⟨rfl,ix,oK⟩,⟨rfl,⟨by simp only[RJ,RK,RN];first | omega | (simp;first | done | omega),by simp only[RO,R4,RL]⟩,oK⟩,oK⟩,⟨⟨rfl,oK,oK⟩,⟨rfl,ix,oK⟩,⟨rfl,⟨by simp only[RJ,RK,RN];first | omega | (simp;first | done | omega),by simp only[RO,R4,RL]⟩,oK⟩,oK⟩,⟨⟨rfl,oK,oK⟩,⟨rfl,⟨by simp only[RJ,RK,RN];first | omega | (simp;first | done | omega),by simp only[RO,R4,RL]⟩,oK⟩,oK⟩,⟨⟨rfl,oK,oK⟩,⟨rfl,oK,oK⟩,⟨rfl,⟨by simp only[RJ,RK,RN];first | omega | (simp;first | done | omega),by simp only[RO,R4,RL]⟩,oK⟩,oK⟩,⟨⟨rfl,oK,oK⟩,⟨rfl,oK,oK⟩,⟨rfl,⟨by simp only[RJ,RK,RN];first | omega | (simp;first | done | omega),by simp only[RO,R4,RL]⟩,oK⟩,oK⟩,⟨⟨rfl,oK,oK⟩,⟨rfl,⟨by simp only[RJ,RK,RN];first | omega | (simp;first | done | omega),by simp only[RO,R4,RL]⟩,oK⟩,oK⟩,⟨⟨rfl,oK,oK⟩,⟨rfl,oK,oK⟩,⟨rfl,⟨by simp only[RJ,RK,RN];first | omega | (simp;first | done | omega),by simp only[RO,R4,RL]⟩,oK⟩,oK⟩,⟨⟨rfl,oK,oK⟩,⟨rfl,oK,oK⟩,⟨rfl,⟨by simp only[RJ,RK,RN];first | omega | (simp;first | done | omega),by simp only[RO,R4,RL]⟩,oK⟩,oK⟩,⟨⟨rfl,oK,oK⟩,⟨rfl,⟨by simp only[RJ,RK,RN];first | omega | (simp;first | done | omega),by simp only[RO,R4,RL]⟩,oK⟩,oK⟩,⟨⟨rfl,oK,oK⟩,⟨rfl,oK,oK⟩,⟨rfl,⟨by simp only[RJ,RK,RN];first | omega | (simp;first | done | omega),by simp only[RO,R4,RL]⟩,oK⟩,oK⟩,⟨⟨rfl,oK,oK⟩,⟨rfl,oK,oK⟩,⟨rfl,⟨by simp only[RJ,RK,RN];first | omega | (simp;first | done | omega),by simp only[RO,R4,RL]⟩,oK⟩,oK⟩,⟨⟨rfl,oK,oK⟩,⟨rfl,oK,oK⟩,⟨rfl,⟨by simp only[RJ,RK,RN];first | omega | (simp;first | done | omega),by simp only[RO,R4,RL]⟩,oK⟩,oK⟩,⟨⟨rfl,oK,oK⟩,⟨rfl,oK,oK⟩,⟨rfl,oK,oK⟩,⟨rfl,⟨by simp only[RJ,RK,RN];first | omega | (simp;first | done | omega),by simp only[RO,R4,RL]⟩,oK⟩,oK⟩,⟨⟨rfl,oK,oK⟩,⟨rfl,oK,oK⟩,⟨rfl,oK,oK⟩,⟨rfl,⟨by simp only[RJ,RK,RN];first | omega | (simp;first | done | omega),by simp only[RO,R4,RL]⟩,oK⟩,oK⟩,⟨⟨rfl,oK,oK⟩,⟨rfl,oK,oK⟩,⟨rfl,⟨by simp only[RJ,RK,RN];first | omega | (simp;first | done | omega),by simp only[RO,R4,RL]⟩,oK⟩,oK⟩,⟨⟨rfl,oK,oK⟩,⟨rfl,oK,oK⟩,⟨rfl,oK,oK⟩,⟨rfl,⟨by simp only[RJ,RK,RN];first | omega | (simp;first | done | omega),by simp only[RO,R4,RL]⟩,oK⟩,oK⟩,⟨⟨rfl,oK,oK⟩,⟨rfl,oK,oK⟩,⟨rfl,oK,oK⟩,⟨rfl,⟨by simp only[RJ,RK,RN];first | omega | (simp;first | done | omega),by simp only[RO,R4,RL]⟩,oK⟩,oK⟩,⟨⟨rfl,ix,oK⟩,oK⟩,⟨⟨rfl,oK,oK⟩,oK⟩,⟨⟨rfl,oK,oK⟩,oK⟩,⟨⟨rfl,oK,oK⟩,oK⟩,⟨⟨rfl,oK,oK⟩,⟨rfl,oK,oK⟩,oK⟩,⟨⟨rfl,oK,oK⟩,⟨rfl,oK,oK⟩,oK⟩,⟨⟨rfl,oK,oK⟩,oK⟩,⟨⟨rfl,oK,oK⟩,⟨rfl,oK,oK⟩,oK⟩,⟨⟨rfl,oK,oK⟩,⟨rfl,oK,oK⟩,oK⟩,⟨⟨rfl,ix,oK⟩,oK⟩,⟨⟨rfl,oK,oK⟩,⟨rfl,ix,oK⟩,oK⟩,⟨⟨rfl,oK,oK⟩,⟨rfl,ix,oK⟩,oK⟩,⟨⟨rfl,oK,oK⟩,oK⟩,⟨⟨rfl,oK,oK⟩,⟨rfl,oK,oK⟩,oK⟩,⟨⟨rfl,oK,oK⟩,⟨rfl,oK,oK⟩,oK⟩,⟨⟨rfl,oK,oK⟩,oK⟩,⟨⟨rfl,oK,oK⟩,⟨rfl,oK,oK⟩,oK⟩,⟨⟨rfl,oK,oK⟩,⟨rfl,oK,oK⟩,oK⟩,⟨⟨rfl,oK,oK⟩,oK⟩,⟨⟨rfl,oK,oK⟩,⟨rfl,oK,oK⟩,oK⟩,⟨⟨rfl,oK,oK⟩,⟨rfl,oK,oK⟩,oK⟩,⟨⟨rfl,oK,oK⟩,⟨rfl,oK,oK⟩,oK⟩,⟨⟨rfl,oK,oK⟩,⟨rfl,oK,oK⟩,⟨rfl,oK,oK⟩,oK⟩,⟨⟨rfl,oK,oK⟩,⟨rfl,oK,oK⟩,⟨rfl,oK,oK⟩,oK⟩,⟨⟨rfl,oK,oK⟩,⟨rfl,oK,oK⟩,oK⟩,⟨⟨rfl,oK,oK⟩,⟨rfl,oK,oK⟩,⟨rfl,oK,oK⟩,oK⟩,⟨⟨rfl,oK,oK⟩,⟨rfl,oK,oK⟩,⟨rfl,oK,oK⟩,oK⟩,⟨⟨rfl,⟨om,rU rfl⟩,oK⟩,oK⟩,oK,oK⟩,⟨(jG (by omega) (fun k9 hk9=>Af (n:=c.J.length) (R:=((c.U.getD k ac).Rv.getD m aB).chan.toNat) hk9 YC (by omega))),⟨(xa rfl),tt ⟨w6,tt ⟨(m+1,em.set (((c.U.getD k ac).Rv.getD m aB).chan.toNat) (em.getD (((c.U.getD k ac).Rv.getD m aB).chan.toNat) []++[(((ax (c.U.getD k ac) (v.s k) (cB c v k) (c6 c k))).Rv.getD m aJ).v])),rfl,?_,(?_:(c.U.getD k ac).Rv.length-(m+1)<(c.U.getD k ac).Rv.length-m)⟩⟩⟩⟩⟩⟩⟩⟩⟩⟩⟩⟩⟩
                     · exact⟨by omega,by rw[oQ Zr,VS];exact(fW _ _ _ _).symm⟩
                     · omega
                   · refine tt ⟨w6,tt ⟨(m+1,em),rfl,?_,(?_:(c.U.getD k ac).Rv.length-(m+1)<(c.U.getD k ac).Rv.length-m)⟩⟩
                     · exact⟨by omega,by rw[sX Zr,VS]⟩
                     · omega
                 · refine⟨⟨rfl,fun z9 _=>by rw[VS,show m=(c.U.getD k ac).Rv.length by omega,Uz,z4 hc hk]⟩,tt ⟨(sJ (by rw[Xj,show i=(c.U.getD k ac).I.length by omega,Uz];exact(Jp hc hk).symm) (fun _=>rfl)),tt ⟨w6,tt ⟨(k+1,aj c v k,true),rfl,?_,(?_:c.U.length-(k+1)<c.U.length-k)⟩⟩⟩⟩
                   · exact⟨by omega,zY hc X3 hk Xn,by have:=nA hk Xn;simp;omega,fun hq=>(by cases hq)⟩
                   · omega
           · have hcpf:rP c n.toNat v k=false:=by unfold rP jm;rw[show(fw c v k).fires=false from (TH _).mp Vs,S7]
             refine tt ⟨(mT Vs),tt ⟨w6,tt ⟨(k+1,v,mw),rfl,?_,(?_:c.U.length-(k+1)<c.U.length-k)⟩⟩⟩
             · exact⟨by omega,X3,XE,fun hq=>di (hw2 hq) hcpf⟩
             · omega
         · refine⟨(v,mw),rfl,?_,(?_:2*fx n.toNat v.cnt c.U.length+(if mw=true then 1 else 0)<2*fx n.toNat u.cnt c.U.length+(if mv=true then 1 else 0))⟩
           · refine⟨X3,fun hq q hq9=>hw2 hq q (by omega)⟩
           · rcases Bool.eq_false_or_eq_true mw with hq | hq<;>simp only[hq,Xb,Tj,SC,Ti]at XE ⊢<;>omega
       · refine⟨⟨(am _ _),fun _ _=>rfl,yk⟩,tt ?_⟩
         have WE:u=ef c D' n.toNat:=Jn hc hui (hm2 Xb)
         refine⟨(congrArg _ (?_:(br c u)=((b8 c D' n).l))),(congrArg _ (?_:(bO c u)=((b8 c D' n).c))),?_,oK⟩
         all_goals (all_goals (first | (unfold b8;rw[iR (by rintro⟨q1,q2,q3⟩;first | omega | (simp_all;done))];done) | (unfold b8;rw[dW (bM.2 hin) ⟨by omega,by omega⟩];done) | (unfold b8;rw[dW (bM.2 hin) ⟨by omega,by omega⟩,WE];done)))
 · refine tt ⟨(ii c D' hc hl hs),tt ⟨(mT T7),tt ⟨?_,?_,?_,oK⟩⟩⟩
   all_goals (all_goals (first | (unfold b8;rw[iR (by rintro⟨q1,q2,q3⟩;first | omega | (simp_all;done))];done) | (unfold b8;rw[dW (bM.2 hin) ⟨by omega,by omega⟩];done) | (unfold b8;rw[dW (bM.2 hin) ⟨by omega,by omega⟩,WE];done)))
structure Jb where
  i:List (List Int)
  n:Int
  c:List ByteArray
def Q1 (j:Jb):List V:=[.sl 1 aa [] j.i,.int .i64 j.n,.sl 1 dc .empty j.c]
abbrev eD:Jb:=⟨[],0,[]⟩
def aO (sh:Int) (b bb:List Int) (zi:List (List Int)) (zn:Int):List Jb:=[⟨jo (a9 sh b) bb,((bb.length%12:Nat):Int),xe bb⟩,⟨jo (a9 sh b) bb,zn,[]⟩,⟨zi,3,[bs [97],bs [98]]⟩,⟨jo (a9 sh b) bb,0,List.replicate (100+bb.length%2) ByteArray.empty⟩]
theorem Cm (r:Rs):l8 r r=true:=by rw[uW rfl (by rw[Ak (wt _)];exact wt _)];exact RX rfl
theorem gP {sh zn:Int} {b bb:List Int} {zi:List (List Int)} (h1:(jo (a9 sh b) bb).length≤100000∧∀z∈jo (a9 sh b) bb,z.length≤100000) (h2:zi.length≤9223372036854775807) (h3:∀i,(zi.getD i []).length≤9223372036854775807) (i:Nat) :
    ((aO sh b bb zi zn).getD i eD).i.length≤9223372036854775807∧(∀k,(((aO sh b bb zi zn).getD i eD).i.getD k []).length≤9223372036854775807)∧((aO sh b bb zi zn).getD i eD).c.length≤9223372036854775807:=by
  have hc:=K8 bb
  match i with
  | 0=>exact⟨Nv h1,Nw h1,by show(xe bb).length≤_;omega⟩
  | 1=>exact⟨Nv h1,Nw h1,Su _⟩
  | 2=>exact⟨h2,h3,by show(2:Nat)≤_;omega⟩
  | 3=>exact⟨Nv h1,Nw h1,by show(List.replicate _ _).length≤_;rw[RC];omega⟩
  | k+4=>exact⟨Su _,fun _=>Su _,Su _⟩
abbrev c3 (sh:Int) (b bb:List Int) (zi za zb:List (List Int)) (zn:Int):Ct:=⟨3,[(.agg [(dI .u8 sh),(LY b)]),(LY bb),(.agg [(dL 1 aa [] zi),(dL 1 aa [] za),(dL 1 aa [] zb),(i6 zn)])],false,(dB true)⟩
abbrev jO (sh:Int) (b:List Int) (bb:List Int) (zi:List (List Int)) (za:List (List Int)) (zb:List (List Int)) (zn:Int):Lp (Nat):=io [5,7,8,9,10] 33 (fun (i:Nat)=>⟨[(5,(.ptr 1 0 0 0)),(7,(dB true)),(8,(.ptr 2 0 0 0)),(9,(dL 3 Q1 eD (aO sh b bb zi zn))),(10,(i6 (i:Int)))],[(.var 24 [(dI .u8 sh),(LY b)]),(.var 27 [(dL 1 aa [] zi),(dL 1 aa [] za),(dL 1 aa [] zb),(i6 zn)]),(.var 33 [(dL 6 fS ac ((a9 sh b).U)),(dL 5 ga bK ((a9 sh b).J))]),.dead,.dead,.dead,.dead,.dead,.dead,.dead,.dead,.dead,.dead,.dead,.dead,.dead,.dead,.dead,.dead,.dead,.dead,.dead,.dead,.dead,.dead,.dead,.dead,.dead,.dead,.dead,.dead,.dead,.dead]⟩) (fun (i:Nat)=>i≤(aO sh b bb zi zn).length) (fun (i:Nat)=>(aO sh b bb zi zn).length-i)
theorem Cn (sh:Int) (b bb:List Int) (zi za zb:List (List Int)) (zn:Int) (g0:0≤sh) (g1:sh≤255) (gb:qy b) (Zo:qy bb) (ZG:zi.length≤9223372036854775807) (WV:∀i,(zi.getD i []).length≤9223372036854775807) (hza:za.length≤9223372036854775807) (Zp:∀i,(za.getD i []).length≤9223372036854775807) (hzb:zb.length≤9223372036854775807) (hszb:∀i,(zb.getD i []).length≤9223372036854775807):CC (c3 sh b bb zi za zb zn):=by
 have hc:=Mf g0 g1 gb
 have hpt:J5 (a9 sh b):=Pp
 have hin_bb:=Pq g0 g1 gb Zo
 have VK:=DT hin_bb hc
 refine ah.vc (V:=TT 3 (CC c7∧TT 1 (CS ((t8 zi)=true) (CS ((t8 za)=true) (TT 5 (CC (c8 zi)∧TT 2 ((True∧(!(t8 zi))=false)∧TT 2 (CC (c8 za)∧TT 2 ((True∧(!(t8 za))=false)∧TT 2 (CC (c8 zb)∧TT 2 (CB (!(t8 zb)) (TT 3 (true=true∧True)) (TT 1 (CC (c9 sh b)∧TT 4 (CC (NK (a9 sh b) bb)∧TT 2 (((12:Int)≠0∧(Int.tmod (bb.length:Int) 12)=(((bb.length%12):Nat):Int))∧TT 1 (CC (QV bb)∧TT 3 (CC (NK (a9 sh b) bb)∧TT 5 (ai [[(dS (bs [97]))],[(dS (bs [98]))]] ([bs [97],bs [98]].map dc)∧TT 3 (CC (NK (a9 sh b) bb)∧TT 2 (((2:Int)≠0∧(Int.tmod (bb.length:Int) 2)=(((bb.length%2):Nat):Int))∧(True∧(IntKind.wrap .i64 (100+(((bb.length%2):Nat):Int)))=(((100+bb.length%2):Nat):Int))∧(((0:Int)≤(((100+bb.length%2):Nat):Int)∧(((100+bb.length%2):Nat):Int)≤(((100+bb.length%2):Nat):Int)∧(((100+bb.length%2):Nat):Int)≤137438953472)∧(List.replicate (100+bb.length%2) ByteArray.empty).length=(100+bb.length%2)∧∀x∈(List.replicate (100+bb.length%2) ByteArray.empty),cg [(dS e0)] (dc x))∧TT 1 (ai [[(dL 1 aa [] (jo (a9 sh b) bb)),(i6 (((bb.length%12):Nat):Int)),(dL 1 dc .empty (xe bb))],[(dL 1 aa [] (jo (a9 sh b) bb)),(i6 zn),.nils],[(dL 1 aa [] zi),(i6 3),(dL 1 dc .empty [bs [97],bs [98]])],[(dL 1 aa [] (jo (a9 sh b) bb)),(i6 0),(dL 1 dc .empty (List.replicate (100+bb.length%2) ByteArray.empty))]] ((aO sh b bb zi zn).map Q1)∧TT 2 (GO (jO sh b bb zi za zb zn) 0 (∀i,(jO sh b bb zi za zb zn).inv i→TT 4 (CD ((i:Int)<(((aO sh b bb zi zn).length:Nat):Int)) (TT 3 (IX (i:Int) ((aO sh b bb zi zn).length)∧TT 1 (CC (DS (a9 sh b) (((aO sh b bb zi zn).getD i eD).i) (((aO sh b bb zi zn).getD i eD).n) (((aO sh b bb zi zn).getD i eD).c))∧TT 3 (IX (i:Int) ((aO sh b bb zi zn).length)∧TT 1 (CC (Q0 (a9 sh b) (((aO sh b bb zi zn).getD i eD).i) (((aO sh b bb zi zn).getD i eD).n) (((aO sh b bb zi zn).getD i eD).c))∧CC (JW (b8 (a9 sh b) (((aO sh b bb zi zn).getD i eD).i) (((aO sh b bb zi zn).getD i eD).n)) (b8 (a9 sh b) (((aO sh b bb zi zn).getD i eD).i) (((aO sh b bb zi zn).getD i eD).n)))∧TT 1 ((True∧(!(l8 (b8 (a9 sh b) (((aO sh b bb zi zn).getD i eD).i) (((aO sh b bb zi zn).getD i eD).n)) (b8 (a9 sh b) (((aO sh b bb zi zn).getD i eD).i) (((aO sh b bb zi zn).getD i eD).n))))=false)∧TT 3 (IX (i:Int) ((aO sh b bb zi zn).length)∧TT 1 (CC (Pf (a9 sh b) (((aO sh b bb zi zn).getD i eD).i) (((aO sh b bb zi zn).getD i eD).n) (((aO sh b bb zi zn).getD i eD).c))∧TT 3 (IX (i:Int) ((aO sh b bb zi zn).length)∧TT 1 (CC (QY (a9 sh b) (((aO sh b bb zi zn).getD i eD).i) (((aO sh b bb zi zn).getD i eD).n) (((aO sh b bb zi zn).getD i eD).c))∧CC (JW (da (a9 sh b) (((aO sh b bb zi zn).getD i eD).i) (((aO sh b bb zi zn).getD i eD).c)) (da (a9 sh b) (((aO sh b bb zi zn).getD i eD).i) (((aO sh b bb zi zn).getD i eD).c)))∧TT 2 ((!(l8 (da (a9 sh b) (((aO sh b bb zi zn).getD i eD).i) (((aO sh b bb zi zn).getD i eD).c)) (da (a9 sh b) (((aO sh b bb zi zn).getD i eD).i) (((aO sh b bb zi zn).getD i eD).c))))=false∧TT 1 (W6 ((i+1:Nat):Int)∧TT 1 (AG (jO sh b bb zi za zb zn) i (i+1)))))))))))))) (TT 4 (CC (K4 za zb)∧TT 4 (CC (Lr za zb)∧TT 1 ((True∧(decide ((e9 za zb)=(e9 za zb)))=true)∧TT 4 (CC (K4 za za)∧TT 1 ((True∧(e9 za za)=true)∧TT 4 (CC (NL za zb)∧TT 4 (CC (QZ za zb)∧TT 2 ((True∧(((((Hb za zb):Nat):Int)==(((Hb za zb):Nat):Int))&&(((((Hc za zb):Nat):Int)==(((Hc za zb):Nat):Int))&&(((cx za zb).2.2)==((cx za zb).2.2))))=true)∧TT 4 (true=true∧True)))))))))))))))))))))))))))))) (TT 5 (CC (c8 zi)∧TT 2 ((True∧(!(t8 zi))=false)∧TT 2 (CC (c8 za)∧TT 2 ((True∧(!(t8 za))=true)∧TT 8 (true=true∧True))))))) (TT 5 (CC (c8 zi)∧TT 2 ((True∧(!(t8 zi))=true)∧TT 14 (true=true∧True))))))) (.w 1 [(0,c7.O)]<|.s 2 ((t8 zi)=true) (.s 2 ((t8 za)=true) (.w 2 [(5,(c8 zi).O),(8,.val (dB false)),(11,(c8 za).O),(14,.val (dB false)),(17,(c8 zb).O)]<|.b 31 (.e) (.w 4 [(1,(c9 sh b).O)]<|.w 5 [(2,(NK (a9 sh b) bb).O),(5,.val (i6 (((bb.length%12):Nat):Int))),(7,(QV bb).O),(11,(NK (a9 sh b) bb).O),(17,.box 9 1 dc .empty [bs [97],bs [98]]),(21,(NK (a9 sh b) bb).O),(24,.val (i6 (((bb.length%2):Nat):Int))),(25,.val (i6 (((100+bb.length%2):Nat):Int))),(26,.frz 9 1 dc .empty (List.replicate (100+bb.length%2) ByteArray.empty)),(28,.box 39 3 Q1 eD (aO sh b bb zi zn))]<|.l (jO sh b bb zi za zb zn) 0 (fun i=>.b 67 (.w 9 [(5,(DS (a9 sh b) (((aO sh b bb zi zn).getD i eD).i) (((aO sh b bb zi zn).getD i eD).n) (((aO sh b bb zi zn).getD i eD).c)).O),(11,(Q0 (a9 sh b) (((aO sh b bb zi zn).getD i eD).i) (((aO sh b bb zi zn).getD i eD).n) (((aO sh b bb zi zn).getD i eD).c)).O),(12,(JW (b8 (a9 sh b) (((aO sh b bb zi zn).getD i eD).i) (((aO sh b bb zi zn).getD i eD).n)) (b8 (a9 sh b) (((aO sh b bb zi zn).getD i eD).i) (((aO sh b bb zi zn).getD i eD).n))).O),(14,.val (dB false)),(20,(Pf (a9 sh b) (((aO sh b bb zi zn).getD i eD).i) (((aO sh b bb zi zn).getD i eD).n) (((aO sh b bb zi zn).getD i eD).c)).O),(26,(QY (a9 sh b) (((aO sh b bb zi zn).getD i eD).i) (((aO sh b bb zi zn).getD i eD).n) (((aO sh b bb zi zn).getD i eD).c)).O),(27,(JW (da (a9 sh b) (((aO sh b bb zi zn).getD i eD).i) (((aO sh b bb zi zn).getD i eD).c)) (da (a9 sh b) (((aO sh b bb zi zn).getD i eD).i) (((aO sh b bb zi zn).getD i eD).c))).O)]<|.u 99 (.w 8 [(1,.val (i6 ((i+1:Nat):Int)))]<|.e)) (.w 11 [(4,(K4 za zb).O),(9,(Lr za zb).O),(11,.val (dB true)),(16,(K4 za za).O),(18,.val (dB true)),(23,(NL za zb).O),(28,(QZ za zb).O),(31,.val (dB true))]<|.e)))) (.w 2 [(5,(c8 zi).O),(8,.val (dB false)),(11,(c8 za).O),(14,.val (dB true))]<|.e)) (.w 2 [(5,(c8 zi).O),(8,.val (dB true))]<|.e)) Tryz.func3 rfl rfl rfl (by kernel_rfl) ?_
 refine tt ⟨(NM),tt ⟨fun T7=>?_,fun T7=>?_⟩⟩
 · refine⟨fun Ur=>?_,fun Ur=>?_⟩
   · refine tt ⟨(pn zi (by assumption)),tt ⟨(mF T7),tt ⟨(pn za (by assumption)),tt ⟨(mF Ur),tt ⟨(pn zb (by assumption)),tt ⟨fun hc31=>?_,fun hc31=>?_⟩⟩⟩⟩⟩⟩
     · exact tt ⟨rfl,oK⟩
     · refine tt ⟨(Lo sh b g0 g1 gb),tt ⟨(th (a9 sh b) bb hc Zo),tt ⟨⟨om,(by rw[SU (Int.natCast_nonneg _)];omega)⟩,tt ⟨(G2 bb Zo),tt ⟨(th (a9 sh b) bb hc Zo),tt ⟨⟨⟨rfl,oK⟩,⟨rfl,oK⟩,oK⟩,tt ⟨(th (a9 sh b) bb hc Zo),tt ⟨⟨om,(by rw[SU (Int.natCast_nonneg _)];omega)⟩,⟨⟨oK,(by rw[Int.natCast_add];exact G6 rfl (by omega) (by omega))⟩,⟨⟨by omega,by simp,fun x hx=>by rw[RS hx];exact⟨rfl,oK⟩⟩,tt ⟨⟨⟨rfl,rfl,rfl,oK⟩,⟨rfl,rfl,rfl,oK⟩,⟨rfl,rfl,rfl,oK⟩,⟨rfl,rfl,rfl,oK⟩,oK⟩,tt ⟨rfl,(Su _),?_⟩⟩⟩⟩⟩⟩⟩⟩⟩⟩⟩⟩
       intro i I'
       have hi:=I'
       have hjl:(aO sh b bb zi zn).length=4:=rfl
       refine tt (cd (fun Zf=>?_) (fun Zf=>?_))
       · refine tt ⟨ix,tt ⟨(sa (a9 sh b) (((aO sh b bb zi zn).getD i eD).i) (((aO sh b bb zi zn).getD i eD).n) (((aO sh b bb zi zn).getD i eD).c) hc hpt (gP VK ZG WV i).1 (gP VK ZG WV i).2.1),tt ⟨ix,tt ⟨(Cl (a9 sh b) (((aO sh b bb zi zn).getD i eD).i) (((aO sh b bb zi zn).getD i eD).n) (((aO sh b bb zi zn).getD i eD).c) hc hpt (gP VK ZG WV i).1 (gP VK ZG WV i).2.1),⟨(r9 (b8 (a9 sh b) (((aO sh b bb zi zn).getD i eD).i) (((aO sh b bb zi zn).getD i eD).n)) (b8 (a9 sh b) (((aO sh b bb zi zn).getD i eD).i) (((aO sh b bb zi zn).getD i eD).n)) (jq hc).1 (jq hc).2.1 (jq hc).1 (jq hc).2.1 (jq hc).2.2),tt ⟨(mF (Cm _)),tt ⟨ix,tt ⟨(FP (a9 sh b) (((aO sh b bb zi zn).getD i eD).i) (((aO sh b bb zi zn).getD i eD).n) (((aO sh b bb zi zn).getD i eD).c) hc hpt (gP VK ZG WV i).1 (gP VK ZG WV i).2.1 (gP VK ZG WV i).2.2),tt ⟨ix,tt ⟨(G4 (a9 sh b) (((aO sh b bb zi zn).getD i eD).i) (((aO sh b bb zi zn).getD i eD).n) (((aO sh b bb zi zn).getD i eD).c) hc hpt (gP VK ZG WV i).1 (gP VK ZG WV i).2.1 (gP VK ZG WV i).2.2),⟨(r9 (da (a9 sh b) (((aO sh b bb zi zn).getD i eD).i) (((aO sh b bb zi zn).getD i eD).c)) (da (a9 sh b) (((aO sh b bb zi zn).getD i eD).i) (((aO sh b bb zi zn).getD i eD).c)) (nN hc).1 (nN hc).2.1 (nN hc).1 (nN hc).2.1 (nN hc).2.2),tt ⟨(ze (Cm _)),tt ⟨w6,tt ⟨(i+1),rfl,(?_:(i+1)≤(aO sh b bb zi zn).length),(?_:(aO sh b bb zi zn).length-(i+1)<(aO sh b bb zi zn).length-i)⟩⟩⟩⟩⟩⟩⟩⟩⟩⟩⟩⟩⟩⟩
         · omega
         · omega
       · exact tt ⟨(uT za zb hza Zp),tt ⟨(u6 za zb hza Zp),tt ⟨(vT rfl),tt ⟨(uT za za hza Zp),tt ⟨(bT (wt _)),tt ⟨(Ar za zb hza Zp),tt ⟨(Lz za zb hza Zp),tt ⟨(bT (by simp)),tt ⟨rfl,oK⟩⟩⟩⟩⟩⟩⟩⟩⟩
   · exact tt ⟨(pn zi (by assumption)),tt ⟨(mF T7),tt ⟨(pn za (by assumption)),tt ⟨(mT Ur),tt ⟨rfl,oK⟩⟩⟩⟩⟩
 · exact tt ⟨(pn zi (by assumption)),tt ⟨(mT T7),tt ⟨rfl,oK⟩⟩⟩
end Go.Proofs.YtckgpflobhpnpaaGreat
