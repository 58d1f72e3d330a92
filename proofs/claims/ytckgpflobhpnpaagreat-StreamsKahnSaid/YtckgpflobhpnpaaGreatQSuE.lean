/-
  The reference of streams: comparisons, inputs; the laws: helpers.
-/
import Derived.Test.YtckgpflobhpnpaaGreatQSuD
import Derived.Test.YtckgpflobhpnpaaGreatQStS
import Derived.Test.YtckgpflobhpnpaaGreatQNeP
namespace Go.Proofs.YtckgpflobhpnpaaGreat
open Go.RowKit
set_option linter.unusedVariables false
set_option linter.unusedSimpArgs false
abbrev Af:D:=(.agg [(dL 6 je aa aH.procs),(dL 5 gO ck aH.chans)])
abbrev Ag (c:Ci):List D:=[(dL 6 je aa c.procs),(dL 5 gO ck c.chans)]
abbrev xb (i:Nat):D:=(i6 ((i+1:Nat):Int))
set_option maxRecDepth 100000
abbrev Oh (a b:List Int):Ct:=⟨50,[(LI a),(LI b)],false,(dB (sD a b))⟩
abbrev t4 (a:List Int) (b:List Int):Lp (Nat):=lS [0,1,5] 0 (fun (i:Nat)=>⟨[(0,(LI a)),(1,(LI b)),(5,(i6 (i:Int)))],[]⟩) (fun (i:Nat)=>i≤a.length∧i≤b.length∧∀j,j<i→a.getD j 0=b.getD j 0) (fun (i:Nat)=>a.length-i)
theorem I6 (a b:List Int) (ha:a.length≤9223372036854775807):CC (Oh a b):=by
 refine ai.vc (V:=TT 2 (GO (t4 a b) 0 (∀i,(t4 a b).inv i→TT 4 (CD ((i:Int)<(a.length:Int)) (CS ((i:Int)≥(b.length:Int)) (TT 4 ((True∧(decide ((i:Int)≥(b.length:Int)))=true)∧TT 3 (false=(sD a b)∧True))) (TT 4 ((True∧(decide ((i:Int)≥(b.length:Int)))=false)∧TT 2 (IX (i:Int) a.length∧TT 3 (IX (i:Int) b.length∧TT 3 (CN ((a.getD i 0)=(b.getD i 0)) (TT 2 (false=(sD a b)∧True)) (TT 1 (W6 ((i+1:Nat):Int)∧TT 1 (AG (t4 a b) i (i+1)))))))))) (TT 2 (true=(sD a b)∧True)))))) (.l (t4 a b) 0 (fun i=>.b 9 (.s 4 ((i:Int)≥(b.length:Int)) (.w 4 [(4,.val (dB true))]<|.e) (.w 4 [(4,.val (dB false))]<|.b 26 (.e) (.w 3 [(1,.val (xb i))]<|.e))) (.e))) Tryz.func50 rfl rfl rfl (by kernel_rfl) ?_
 refine tt ⟨rfl,⟨by omega,by omega,fun j hj=>by omega⟩,?_⟩
 intro i hinv
 obtain⟨hi,hi2,h3⟩:=hinv
 refine tt (cd (fun hc9=>?_) (fun hc9=>?_))
 · refine⟨fun hs0=>?_,fun hs0=>?_⟩
   · refine tt ⟨(vT hs0),tt ⟨?_,oK⟩⟩
     first | exact(oz (i:=i) (by omega) hi2 h3 (fun q=>by omega)).symm | exact(oz (i:=i) (by omega) hi2 h3 (fun q=>by simp_all)).symm | exact(yB (by omega) (fun j hj=>h3 j (by omega))).symm
   · refine tt ⟨(vF hs0),tt ⟨ix,tt ⟨ix,tt (cn (fun hc26=>?_) (fun hc26=>?_))⟩⟩⟩
     · refine tt ⟨?_,oK⟩
       first | exact(oz (i:=i) (by omega) hi2 h3 (fun q=>by omega)).symm | exact(oz (i:=i) (by omega) hi2 h3 (fun q=>by simp_all)).symm | exact(yB (by omega) (fun j hj=>h3 j (by omega))).symm
     · refine tt ⟨w6,tt ⟨(i+1),rfl,?_,(?_:a.length-(i+1)<a.length-i)⟩⟩
       · exact⟨by omega,by omega,cX h3 (by simpa using hc26)⟩
       · omega
 · refine tt ⟨?_,oK⟩
   first | exact(oz (i:=i) (by omega) hi2 h3 (fun q=>by omega)).symm | exact(oz (i:=i) (by omega) hi2 h3 (fun q=>by simp_all)).symm | exact(yB (by omega) (fun j hj=>h3 j (by omega))).symm
abbrev Lb (a b:List (List Int)):Ct:=⟨18,[(dL 1 ae [] a),(dL 1 ae [] b)],false,(dB (fc a b))⟩
abbrev t5 (a:List (List Int)) (b:List (List Int)):Lp (Nat):=lS [0,1,5] 0 (fun (i:Nat)=>⟨[(0,(dL 1 ae [] a)),(1,(dL 1 ae [] b)),(5,(i6 (i:Int)))],[]⟩) (fun (i:Nat)=>i≤a.length∧∀q,q<i→(!decide (dm (a.getD q []) (b.getD q [])<(a.getD q []).length))=true) (fun (i:Nat)=>a.length-i)
theorem yH (a b:List (List Int)) (ha:a.length≤9223372036854775807) (hsa:∀i,(a.getD i []).length≤9223372036854775807):CC (Lb a b):=by
 refine ai.vc (V:=TT 6 (CN ((a.length:Int)=(b.length:Int)) (TT 2 (false=(fc a b)∧True)) (TT 1 (GO (t5 a b) 0 (∀i,(t5 a b).inv i→TT 4 (CD ((i:Int)<(a.length:Int)) (TT 2 (IX (i:Int) a.length∧TT 3 (IX (i:Int) b.length∧TT 1 (CC (Oh (a.getD i []) (b.getD i []))∧TT 1 (CB (!(sD (a.getD i []) (b.getD i []))) (TT 2 (false=(fc a b)∧True)) (TT 1 (W6 ((i+1:Nat):Int)∧TT 1 (AG (t5 a b) i (i+1))))))))) (TT 2 (true=(fc a b)∧True)))))))) (.b 10 (.e) (.l (t5 a b) 0 (fun i=>.b 14 (.w 6 [(8,(Oh (a.getD i []) (b.getD i [])).O)]<|.b 26 (.e) (.w 5 [(1,.val (xb i))]<|.e)) (.e)))) Tryz.func18 rfl rfl rfl (by kernel_rfl) ?_
 refine tt (cn (fun hc10=>?_) (fun hc10=>?_))
 · refine tt ⟨?_,oK⟩
   first | exact(oe (by omega)).symm | exact(og (i:=i) (by omega) (by unfold sD at hc26;simpa using hc26)).symm | exact(oh (by omega) (fun q hq=>h3 q (by omega))).symm
 · refine tt ⟨rfl,⟨by omega,fun q hq=>by omega⟩,?_⟩
   intro i hinv
   obtain⟨hi,h3⟩:=hinv
   refine tt (cd (fun hc14=>?_) (fun hc14=>?_))
   · refine tt ⟨ix,tt ⟨ix,tt ⟨(I6 (a.getD i []) (b.getD i []) (hsa i)),tt ⟨fun hc26=>?_,fun hc26=>?_⟩⟩⟩⟩
     · refine tt ⟨?_,oK⟩
       first | exact(oe (by omega)).symm | exact(og (i:=i) (by omega) (by unfold sD at hc26;simpa using hc26)).symm | exact(oh (by omega) (fun q hq=>h3 q (by omega))).symm
     · refine tt ⟨w6,tt ⟨(i+1),rfl,?_,(?_:a.length-(i+1)<a.length-i)⟩⟩
       · exact⟨by omega,cX h3 (show sD (a.getD i []) (b.getD i [])=true by simpa using hc26)⟩
       · omega
   · refine tt ⟨?_,oK⟩
     first | exact(oe (by omega)).symm | exact(og (i:=i) (by omega) (by unfold sD at hc26;simpa using hc26)).symm | exact(oh (by omega) (fun q hq=>h3 q (by omega))).symm
abbrev MH (a b:List (List Int)):Ct:=⟨38,[(dL 1 ae [] a),(dL 1 ae [] b)],false,(dB (qb a b))⟩
theorem DA (a b:List (List Int)) (ha:a.length≤9223372036854775807) (hsa:∀i,(a.getD i []).length≤9223372036854775807) (hb:b.length≤9223372036854775807) (hsb:∀i,(b.getD i []).length≤9223372036854775807):CC (MH a b):=by
 refine ai.vc (V:=TT 1 (CS ((fc a b)=true) (TT 2 (CC (Lb a b)∧(True∧(fc a b)=true)∧TT 2 (CC (Lb b a)∧TT 3 ((fc b a)=(qb a b)∧True)))) (TT 2 (CC (Lb a b)∧(True∧(fc a b)=false)∧TT 6 (false=(qb a b)∧True))))) (.s 1 ((fc a b)=true) (.w 1 [(2,(Lb a b).O),(3,.val (dB true)),(6,(Lb b a).O)]<|.e) (.w 1 [(2,(Lb a b).O),(3,.val (dB false))]<|.e)) Tryz.func38 rfl rfl rfl (by kernel_rfl) ?_
 refine tt ⟨fun hs0=>?_,fun hs0=>?_⟩
 · refine tt ⟨(yH a b ha hsa),⟨(bT hs0),tt ⟨(yH b a hb hsb),tt ⟨?_,oK⟩⟩⟩⟩
   first | exact(Hj (by simpa using hs0)).symm | exact(yC (by simpa using hs0)).symm
 · refine tt ⟨(yH a b ha hsa),⟨(bF hs0),tt ⟨?_,oK⟩⟩⟩
   first | exact(Hj (by simpa using hs0)).symm | exact(yC (by simpa using hs0)).symm
abbrev Lc (a b:List Int):Ct:=⟨30,[(LI a),(LI b)],false,(dB (decide (a=b)))⟩
abbrev ry (a:List Int) (b:List Int):Lp (Nat):=lS [0,1,5] 0 (fun (k:Nat)=>⟨[(0,(LI a)),(1,(LI b)),(5,(i6 (k:Int)))],[]⟩) (fun (k:Nat)=>k≤a.length∧∀z,z<k→a.getD z 0=b.getD z 0) (fun (k:Nat)=>a.length-k)
theorem Hp (a b:List Int) (ha:a.length≤9223372036854775807):CC (Lc a b):=by
 refine ai.vc (V:=TT 6 (CN ((a.length:Int)=(b.length:Int)) (TT 2 (false=(decide (a=b))∧True)) (TT 1 (GO (ry a b) 0 (∀k,(ry a b).inv k→TT 4 (CD ((k:Int)<(a.length:Int)) (TT 2 (IX (k:Int) a.length∧TT 3 (IX (k:Int) b.length∧TT 2 (CN ((a.getD k 0)=(b.getD k 0)) (TT 2 (false=(decide (a=b))∧True)) (TT 1 (W6 ((k+1:Nat):Int)∧TT 1 (AG (ry a b) k (k+1)))))))) (TT 2 (true=(decide (a=b))∧True)))))))) (.b 10 (.e) (.l (ry a b) 0 (fun k=>.b 14 (.b 25 (.e) (.w 5 [(1,.val (i6 ((k+1:Nat):Int)))]<|.e)) (.e)))) Tryz.func30 rfl rfl rfl (by kernel_rfl) ?_
 refine tt (cn (fun hc10=>?_) (fun hc10=>?_))
 · refine tt ⟨?_,oK⟩
   first | exact(decide_eq_false (fun e=>by subst e;omega)).symm | exact(decide_eq_false (same_no (k:=k) (by simpa using hc25))).symm | exact(decide_eq_true (si (by omega) (by omega) hall)).symm
 · refine tt ⟨rfl,⟨by omega,fun z hz=>by omega⟩,?_⟩
   intro k hinv
   obtain⟨hk,hall⟩:=hinv
   refine tt (cd (fun hc14=>?_) (fun hc14=>?_))
   · refine tt ⟨ix,tt ⟨ix,tt (cn (fun hc25=>?_) (fun hc25=>?_))⟩⟩
     · refine tt ⟨?_,oK⟩
       first | exact(decide_eq_false (fun e=>by subst e;omega)).symm | exact(decide_eq_false (same_no (k:=k) (by simpa using hc25))).symm | exact(decide_eq_true (si (by omega) (by omega) hall)).symm
     · refine tt ⟨w6,tt ⟨(k+1),rfl,?_,(?_:a.length-(k+1)<a.length-k)⟩⟩
       · exact⟨by omega,cX hall (by simpa using hc25)⟩
       · omega
   · refine tt ⟨?_,oK⟩
     first | exact(decide_eq_false (fun e=>by subst e;omega)).symm | exact(decide_eq_false (same_no (k:=k) (by simpa using hc25))).symm | exact(decide_eq_true (si (by omega) (by omega) hall)).symm
abbrev Hq (a b:Rs):Ct:=⟨12,[(.agg [(dL 1 ae [] a.l),(LI a.c),(i6 a.e)]),(.agg [(dL 1 ae [] b.l),(LI b.c),(i6 b.e)])],false,(dB (lq a b))⟩
theorem rz (a b:Rs) (hl:a.l.length≤9223372036854775807) (hsl:∀i,(a.l.getD i []).length≤9223372036854775807) (hbl:b.l.length≤9223372036854775807) (hsb:∀i,(b.l.getD i []).length≤9223372036854775807) (hcc:a.c.length≤9223372036854775807):CC (Hq a b):=by
 refine ai.vc (V:=TT 3 (CS (a.e=b.e) (CS ((qb a.l b.l)=true) (TT 5 ((True∧(decide (a.e=b.e))=true)∧TT 4 (CC (MH a.l b.l)∧TT 1 ((True∧(qb a.l b.l)=true)∧TT 4 (CC (Lc a.c b.c)∧TT 3 ((decide (a.c=b.c))=(lq a b)∧True)))))) (TT 5 ((True∧(decide (a.e=b.e))=true)∧TT 4 (CC (MH a.l b.l)∧TT 1 ((True∧(qb a.l b.l)=false)∧TT 8 (false=(lq a b)∧True)))))) (TT 5 ((True∧(decide (a.e=b.e))=false)∧TT 15 (false=(lq a b)∧True))))) (.s 1 (a.e=b.e) (.s 1 ((qb a.l b.l)=true) (.w 1 [(5,.val (dB true)),(10,(MH a.l b.l).O),(12,.val (dB true)),(17,(Lc a.c b.c).O)]<|.e) (.w 1 [(5,.val (dB true)),(10,(MH a.l b.l).O),(12,.val (dB false))]<|.e)) (.w 1 [(5,.val (dB false))]<|.e)) Tryz.func12 rfl rfl rfl (by kernel_rfl) ?_
 refine tt ⟨fun hs0=>?_,fun hs0=>?_⟩
 · refine⟨fun hs1=>?_,fun hs1=>?_⟩
   · refine tt ⟨(vT hs0),tt ⟨(DA a.l b.l hl hsl hbl hsb),tt ⟨(bT hs1),tt ⟨(Hp a.c b.c hcc),tt ⟨?_,oK⟩⟩⟩⟩⟩
     first | exact(yD hs0).symm | exact(yE (by simpa using hs1)).symm | exact(tX hs0 (by simpa using hs1)).symm
   · refine tt ⟨(vT hs0),tt ⟨(DA a.l b.l hl hsl hbl hsb),tt ⟨(bF hs1),tt ⟨?_,oK⟩⟩⟩⟩
     first | exact(yD hs0).symm | exact(yE (by simpa using hs1)).symm | exact(tX hs0 (by simpa using hs1)).symm
 · refine tt ⟨(vF hs0),tt ⟨?_,oK⟩⟩
   first | exact(yD hs0).symm | exact(yE (by simpa using hs1)).symm | exact(tX hs0 (by simpa using hs1)).symm
abbrev Oi (c:Ci) (b:List Int):Ct:=⟨10,[(.agg (Ag c)),(LY b)],true,(dL 1 ae [] (a7 c b))⟩
abbrev gm (c:Ci) (b:List Int):Lp (Nat×Nat):=vI [2,5,6,7] 3 (fun (i:Nat) (p0:Nat)=>⟨[(2,(.ptr 0 0 0 0)),(5,(.own 1)),(6,(.ptr 2 0 0 0)),(7,(i6 (i:Int)))],[(.var 33 (Ag c)),(.arr 42 1 ae [] (tab (sw c b) i)),(.var 84 [(LY b),(i6 (p0:Int))])]⟩) (fun (i:Nat) (p0:Nat)=>i≤c.chans.length∧p0=inQ c b i∧p0≤10*i) (fun (i:Nat) (p0:Nat)=>c.chans.length-i)
abbrev oG (c:Ci) (b:List Int) (i:Nat) (p0:Nat):Lp (Nat):=lS [2,5,6,7,8,9,10] 4 (fun (k:Nat)=>⟨[(2,(.ptr 0 0 0 0)),(5,(.own 1)),(6,(.ptr 2 0 0 0)),(7,(i6 (i:Int))),(8,(.own 3)),(9,(i6 (((b.getD p0 0%8).toNat:Nat):Int))),(10,(i6 (k:Int)))],[(.var 33 (Ag c)),(.arr 42 1 ae [] (tab (sw c b) i)),(.var 84 [(LY b),(i6 (p0:Int))]),(.arr 3 1 (ab .i64) 0 (tab (mR b p0 (c.chans.getD i ck).w) k))]⟩) (fun (k:Nat)=>k≤(b.getD p0 0%8).toNat∧(k=0∨(c.chans.getD i ck).frm<0)) (fun (k:Nat)=>(b.getD p0 0%8).toNat-k)
theorem EK (c:Ci) (b:List Int) (hc:a6 c) (hb:qe b):CC (Oi c b):=by
 have hnl:=hc.nl
 have hcl:=hc.cl
 refine ai.vc (V:=TT 2 (an [] ((tab (sw c b) 0).map ae)∧TT 6 (GO (gm c b) (0,0) (∀i p0,(gm c b).inv (i,p0)→TT 5 (CD ((i:Int)<(c.chans.length:Int)) (an [] (([]:List Int).map (ab .i64))∧TT 2 (CC (EI b p0)∧((8:Int)≠0∧(Int.tmod (b.getD p0 0) 8)=(((b.getD p0 0%8).toNat:Nat):Int))∧TT 2 (GO (oG c b i p0) 0 (∀k,(oG c b i p0).inv k→CS ((k:Int)<(((b.getD p0 0%8).toNat:Nat):Int)) (TT 3 ((True∧(decide ((k:Int)<(((b.getD p0 0%8).toNat:Nat):Int)))=true)∧TT 3 (IX (i:Int) c.chans.length∧TT 4 (CD (((c.chans.getD i ck).frm)<0) (TT 3 (W6 ((1+k:Nat):Int)∧CC (Ad b p0 (1+k))∧CC (EI b (p0+(1+k)))∧TT 3 (IX (i:Int) c.chans.length∧TT 2 (CC (MA ((c.chans.getD i ck).w))∧(True∧(IntKind.wrap .i64 (BitVec.ofInt (IntKind.i64).bits (b.getD (p0+(1+k)) 0) &&& BitVec.ofInt (IntKind.i64).bits (ap ((c.chans.getD i ck).w))).toNat)=(mR b p0 (c.chans.getD i ck).w k))∧an [[(i6 (mR b p0 (c.chans.getD i ck).w k))]] ([mR b p0 (c.chans.getD i ck).w k].map (ab .i64))∧((tab (mR b p0 (c.chans.getD i ck).w) k).length+([mR b p0 (c.chans.getD i ck).w k].map (ab .i64)).length≤137438953472∧(tab (mR b p0 (c.chans.getD i ck).w) k).map (ab .i64)++[mR b p0 (c.chans.getD i ck).w k].map (ab .i64)=(tab (mR b p0 (c.chans.getD i ck).w) (k+1)).map (ab .i64))∧TT 2 (W6 ((k+1:Nat):Int)∧TT 1 (AG (oG c b i p0) k (k+1))))))) (TT 3 (IX (i:Int) c.chans.length∧TT 3 (CD (((c.chans.getD i ck).frm)<0) (TT 2 (W6 ((1+((b.getD p0 0%8).toNat):Nat):Int)∧CC (Ad b p0 (1+((b.getD p0 0%8).toNat)))∧TT 3 (an [[(LI (tab (mR b p0 (c.chans.getD i ck).w) k))]] ([tab (mR b p0 (c.chans.getD i ck).w) k].map ae)∧((tab (sw c b) i).length+([tab (mR b p0 (c.chans.getD i ck).w) k].map ae).length≤137438953472∧(tab (sw c b) i).map ae++[tab (mR b p0 (c.chans.getD i ck).w) k].map ae=(tab (sw c b) (i+1)).map ae)∧TT 2 (W6 ((i+1:Nat):Int)∧TT 1 (AG (gm c b) (i,p0) (i+1,p0+(1+(b.getD p0 0%8).toNat))))))) (TT 2 (an [[(LI (tab (mR b p0 (c.chans.getD i ck).w) k))]] ([tab (mR b p0 (c.chans.getD i ck).w) k].map ae)∧((tab (sw c b) i).length+([tab (mR b p0 (c.chans.getD i ck).w) k].map ae).length≤137438953472∧(tab (sw c b) i).map ae++[tab (mR b p0 (c.chans.getD i ck).w) k].map ae=(tab (sw c b) (i+1)).map ae)∧TT 2 (W6 ((i+1:Nat):Int)∧TT 1 (AG (gm c b) (i,p0) (i+1,p0)))))))))))) (TT 3 ((True∧(decide ((k:Int)<(((b.getD p0 0%8).toNat:Nat):Int)))=false)∧TT 11 (IX (i:Int) c.chans.length∧TT 3 (CD (((c.chans.getD i ck).frm)<0) (TT 2 (W6 ((1+((b.getD p0 0%8).toNat):Nat):Int)∧CC (Ad b p0 (1+((b.getD p0 0%8).toNat)))∧TT 3 (an [[(LI (tab (mR b p0 (c.chans.getD i ck).w) k))]] ([tab (mR b p0 (c.chans.getD i ck).w) k].map ae)∧((tab (sw c b) i).length+([tab (mR b p0 (c.chans.getD i ck).w) k].map ae).length≤137438953472∧(tab (sw c b) i).map ae++[tab (mR b p0 (c.chans.getD i ck).w) k].map ae=(tab (sw c b) (i+1)).map ae)∧TT 2 (W6 ((i+1:Nat):Int)∧TT 1 (AG (gm c b) (i,p0) (i+1,p0+(1+(b.getD p0 0%8).toNat))))))) (TT 2 (an [[(LI (tab (mR b p0 (c.chans.getD i ck).w) k))]] ([tab (mR b p0 (c.chans.getD i ck).w) k].map ae)∧((tab (sw c b) i).length+([tab (mR b p0 (c.chans.getD i ck).w) k].map ae).length≤137438953472∧(tab (sw c b) i).map ae++[tab (mR b p0 (c.chans.getD i ck).w) k].map ae=(tab (sw c b) (i+1)).map ae)∧TT 2 (W6 ((i+1:Nat):Int)∧TT 1 (AG (gm c b) (i,p0) (i+1,p0))))))))))))) (TT 3 ((tab (sw c b) i).map ae=(a7 c b).map ae))))))) (.w 1 [(0,.box 42 1 ae [] (tab (sw c b) 0))]<|.l (gm c b) (0,0) (fun ⟨i,p0⟩=>.b 18 (.w 6 [(0,.box 3 1 (ab .i64) 0 ([]:List Int))]<|.w 7 [(1,(EI b p0).O),(2,.val (i6 (((b.getD p0 0%8).toNat:Nat):Int)))]<|.l (oG c b i p0) 0 (fun k=>.s 9 ((k:Int)<(((b.getD p0 0%8).toNat:Nat):Int)) (.w 9 [(3,.val (dB true))]<|.b 36 (.w 11 [(3,.val (i6 ((1+k:Nat):Int))),(4,(Ad b p0 (1+k)).O),(5,(EI b (p0+(1+k))).O),(12,(MA ((c.chans.getD i ck).w)).O),(13,.val (i6 (mR b p0 (c.chans.getD i ck).w k))),(14,.box 3 1 (ab .i64) 0 [mR b p0 (c.chans.getD i ck).w k]),(15,.box 3 1 (ab .i64) 0 (tab (mR b p0 (c.chans.getD i ck).w) (k+1)))]<|.w 10 [(1,.val (i6 ((k+1:Nat):Int)))]<|.e) (.b 61 (.w 13 [(2,.val (i6 ((1+((b.getD p0 0%8).toNat):Nat):Int))),(3,(Ad b p0 (1+((b.getD p0 0%8).toNat))).O)]<|.f 14 3<|.w 14 [(2,.box 42 1 ae [] [tab (mR b p0 (c.chans.getD i ck).w) k]),(3,.box 42 1 ae [] (tab (sw c b) (i+1)))]<|.w 5 [(1,.val (xb i))]<|.e) (.f 14 3<|.w 14 [(2,.box 42 1 ae [] [tab (mR b p0 (c.chans.getD i ck).w) k]),(3,.box 42 1 ae [] (tab (sw c b) (i+1)))]<|.w 5 [(1,.val (xb i))]<|.e))) (.w 9 [(3,.val (dB false))]<|.b 61 (.w 13 [(2,.val (i6 ((1+((b.getD p0 0%8).toNat):Nat):Int))),(3,(Ad b p0 (1+((b.getD p0 0%8).toNat))).O)]<|.f 14 3<|.w 14 [(2,.box 42 1 ae [] [tab (mR b p0 (c.chans.getD i ck).w) k]),(3,.box 42 1 ae [] (tab (sw c b) (i+1)))]<|.w 5 [(1,.val (xb i))]<|.e) (.f 14 3<|.w 14 [(2,.box 42 1 ae [] [tab (mR b p0 (c.chans.getD i ck).w) k]),(3,.box 42 1 ae [] (tab (sw c b) (i+1)))]<|.w 5 [(1,.val (xb i))]<|.e)))) (.e))) Tryz.func10 rfl rfl rfl (by kernel_rfl) ?_
 refine tt ⟨oK,tt ⟨rfl,⟨by omega,rfl,by omega⟩,?_⟩⟩
 intro i p0 hinv
 obtain⟨hi,hp0,hpb⟩:=hinv
 have hy:=eh hb p0
 refine tt (cd (fun hc18=>?_) (fun hc18=>?_))
 · refine⟨oK,tt ⟨(oD b p0 hb),⟨⟨om,(by rw[show(((b.getD p0 0%8).toNat:Nat):Int)=b.getD p0 0%8 from Int.toNat_of_nonneg (by omega)];exact Int.tmod_eq_emod_of_nonneg hy.1)⟩,tt ⟨rfl,⟨by omega,.inl rfl⟩,?_⟩⟩⟩⟩
   intro k hinv
   obtain⟨hk,hkf⟩:=hinv
   refine⟨fun hs0=>?_,fun hs0=>?_⟩
   · refine tt ⟨(vT hs0),tt ⟨ix,tt (cd (fun hc36=>?_) (fun hc36=>?_))⟩⟩
     · have hw:1≤(c.chans.getD i ck).w∧(c.chans.getD i ck).w≤8:=bf.1 (hc.cw i (by omega))
       have hyk:=eh hb (p0+(1+k))
       refine tt ⟨w6,⟨(s7 b p0 (1+k) om),⟨(oD b (p0+(1+k)) hb),tt ⟨ix,tt ⟨(Ab ((c.chans.getD i ck).w)),⟨⟨oK,(wY (by omega) (by omega))⟩,⟨⟨⟨rfl,oK⟩,oK⟩,⟨(bq (by omega) rfl),tt ⟨w6,tt ⟨(k+1),rfl,?_,(?_:(b.getD p0 0%8).toNat-(k+1)<(b.getD p0 0%8).toNat-k)⟩⟩⟩⟩⟩⟩⟩⟩⟩⟩
       · exact⟨by omega,.inr (by first | assumption | omega)⟩
       · omega
     · have hkn:k=JA c b p0 i:=by unfold JA;split<;>rename_i hfr<;>(have hfr:_:=hfr;unfold fT at hfr;omega)
       refine tt ⟨ix,tt (cd (fun hc61=>?_) (fun hc61=>?_))⟩
       · refine tt ⟨w6,⟨(s7 b p0 (1+((b.getD p0 0%8).toNat)) om),tt ⟨⟨⟨rfl,oK⟩,oK⟩,⟨(bq (by omega) (by rw[hkn,hp0];rfl)),tt ⟨w6,tt ⟨(i+1,p0+(1+(b.getD p0 0%8).toNat)),rfl,?_,(?_:c.chans.length-(i+1)<c.chans.length-i)⟩⟩⟩⟩⟩⟩
         · exact⟨by omega,by rw[inQ,if_pos hc61,← hp0],by omega⟩
         · omega
       · refine tt ⟨⟨⟨rfl,oK⟩,oK⟩,⟨(bq (by omega) (by rw[hkn,hp0];rfl)),tt ⟨w6,tt ⟨(i+1,p0),rfl,?_,(?_:c.chans.length-(i+1)<c.chans.length-i)⟩⟩⟩⟩
         · exact⟨by omega,by rw[inQ,if_neg hc61];exact hp0,by omega⟩
         · omega
   · refine tt ⟨(vF hs0),?_⟩
     have hkn:k=JA c b p0 i:=by unfold JA;split<;>rename_i hfr<;>(have hfr:_:=hfr;unfold fT at hfr;omega)
     refine tt ⟨ix,tt (cd (fun hc61=>?_) (fun hc61=>?_))⟩
     · refine tt ⟨w6,⟨(s7 b p0 (1+((b.getD p0 0%8).toNat)) om),tt ⟨⟨⟨rfl,oK⟩,oK⟩,⟨(bq (by omega) (by rw[hkn,hp0];rfl)),tt ⟨w6,tt ⟨(i+1,p0+(1+(b.getD p0 0%8).toNat)),rfl,?_,(?_:c.chans.length-(i+1)<c.chans.length-i)⟩⟩⟩⟩⟩⟩
       · exact⟨by omega,by rw[inQ,if_pos hc61,← hp0],by omega⟩
       · omega
     · refine tt ⟨⟨⟨rfl,oK⟩,oK⟩,⟨(bq (by omega) (by rw[hkn,hp0];rfl)),tt ⟨w6,tt ⟨(i+1,p0),rfl,?_,(?_:c.chans.length-(i+1)<c.chans.length-i)⟩⟩⟩⟩
       · exact⟨by omega,by rw[inQ,if_neg hc61];exact hp0,by omega⟩
       · omega
 · refine tt (congrArg _ (?_:(tab (sw c b) i)=(a7 c b)))
   rw[show i=c.chans.length by omega];rfl
abbrev yI (c:Ci) (inp:List (List Int)) (n:Int) (cls:List ByteArray):Ct:=⟨13,[(.agg (Ag c)),(.agg [(dL 1 ae [] inp),(i6 n),(dL 1 oM .empty cls)])],true,(.agg [(dL 1 ae [] ((dG c inp n).l)),(LI ((dG c inp n).c)),(i6 ((dG c inp n).e))])⟩
theorem oH (c:Ci) (inp:List (List Int)) (n:Int) (cls:List ByteArray) (hc:a6 c) (hq:JD c) (hl:inp.length≤100000) (hs:∀z∈inp,z.length≤100000):CC (yI c inp n cls):=by
 refine ai.vc (V:=TT 8 (CC (N7 c inp n)∧TT 13 (((eR c inp n).1).map ae=((dG c inp n).l).map ae∧((eR c inp n).2.1).map (ab .i64)=((dG c inp n).c).map (ab .i64)∧((eR c inp n).2.2)=((dG c inp n).e)∧True))) (.w 1 [(5,(N7 c inp n).O)]<|.e) Tryz.func13 rfl rfl rfl (by kernel_rfl) ?_
 refine tt ⟨(z9 c inp n hc hq hl hs),tt ⟨(congrArg _ (?_:((eR c inp n).1)=((dG c inp n).l))),(congrArg _ (?_:((eR c inp n).2.1)=((dG c inp n).c))),?_,oK⟩⟩
 all_goals (rfl)
abbrev Oj (c:Ci) (inp:List (List Int)) (n:Int) (cls:List ByteArray):Ct:=⟨15,[(.agg (Ag c)),(.agg [(dL 1 ae [] inp),(i6 n),(dL 1 oM .empty cls)])],true,(.agg [(dL 1 ae [] ((lR c inp cls).l)),(LI ((lR c inp cls).c)),(i6 ((lR c inp cls).e))])⟩
theorem I7 (c:Ci) (inp:List (List Int)) (n:Int) (cls:List ByteArray) (hc:a6 c) (hq:JD c) (hl:inp.length≤100000) (hs:∀z∈inp,z.length≤100000) (hcl:cls.length≤9223372036854775807):CC (Oj c inp n cls):=by
 refine ai.vc (V:=TT 8 (CC (N6 c inp cls)∧TT 13 (((gV c inp cls).1).map ae=((lR c inp cls).l).map ae∧((gV c inp cls).2.1).map (ab .i64)=((lR c inp cls).c).map (ab .i64)∧((gV c inp cls).2.2)=((lR c inp cls).e)∧True))) (.w 1 [(5,(N6 c inp cls).O)]<|.e) Tryz.func15 rfl rfl rfl (by kernel_rfl) ?_
 refine tt ⟨(EH c inp cls hc hq hl hs hcl),tt ⟨(congrArg _ (?_:((gV c inp cls).1)=((lR c inp cls).l))),(congrArg _ (?_:((gV c inp cls).2.1)=((lR c inp cls).c))),?_,oK⟩⟩
 all_goals (rfl)
abbrev MI (a b:List (List Int)):Ct:=⟨19,[(dL 1 ae [] a),(dL 1 ae [] b)],false,(.agg [(i6 (((Mv a b):Nat):Int)),(i6 (((Mw a b):Nat):Int)),(dB ((du a b).2.2))])⟩
theorem DB (a b:List (List Int)) (ha:a.length≤9223372036854775807) (hsa:∀i,(a.getD i []).length≤9223372036854775807):CC (MI a b):=by
 refine ai.vc (V:=TT 3 (CC (N2 a b)∧TT 13 (((((du a b).1)=(((Mv a b):Nat):Int)∧((du a b).2.1)=(((Mw a b):Nat):Int)∧((du a b).2.2)=((du a b).2.2)∧True))∧((True∧True∧True∧True))))) (.w 1 [(2,(N2 a b).O)]<|.e) Tryz.func19 rfl rfl rfl (by kernel_rfl) ?_
 refine tt ⟨(G0 a b ha hsa),tt ⟨⟨?_,?_,rfl,oK⟩,⟨oK,oK,oK,oK⟩⟩⟩
 · exact(Aa a b).1
 · exact(Aa a b).2
abbrev Ok:Ct:=⟨31,[],true,Af⟩
theorem I8  : CC Ok:=by
 refine ai.vc (V:=TT 8 (an [[(i6 16),(dS e0),(i6 0),(dS e0),(i6 0),(dS e0),.nils],[(i6 18),(dS e0),(i6 0),(dS e0),(i6 0),(dS e0),.nils]] ([(⟨16,e0,⟨0,e0⟩,⟨0,e0⟩,[]⟩:Ex),(⟨18,e0,⟨0,e0⟩,⟨0,e0⟩,[]⟩:Ex)].map (eA 2))∧TT 5 (an [[(dS (bs [114])),(i6 2),(i6 0),(i6 6),(dS e0),(i6 0),(dS e0),(i6 0),(dS e0),(dL 7 (eA 2) dE [(⟨16,e0,⟨0,e0⟩,⟨0,e0⟩,[]⟩:Ex),(⟨18,e0,⟨0,e0⟩,⟨0,e0⟩,[]⟩:Ex)]),(i6 0),(dS e0),(i6 0)]] ([(⟨(bs [114]),2,0,⟨6,e0,⟨0,e0⟩,⟨0,e0⟩,[(⟨16,e0,⟨0,e0⟩,⟨0,e0⟩,[]⟩:Ex),(⟨18,e0,⟨0,e0⟩,⟨0,e0⟩,[]⟩:Ex)]⟩,⟨0,e0,0⟩⟩:Rg)].map jq)∧TT 2 (an [[(i6 0),(i6 2),(i6 1),(dS e0),(i6 1),(dS e0),(i6 1),(dS e0),.nils]] ([(⟨0,2,⟨1,e0,⟨1,e0⟩,⟨1,e0⟩,[]⟩⟩:Tk)].map jY)∧TT 3 (an [[(i6 1),(i6 2),(i6 1),(dS e0),(i6 1),(dS e0),(i6 1),(dS e0),.nils,(i6 6),(dS e0),(i6 0),(dS e0),(i6 0),(dS e0),(dL 7 (eA 2) dE [(⟨16,e0,⟨0,e0⟩,⟨0,e0⟩,[]⟩:Ex),(⟨18,e0,⟨0,e0⟩,⟨0,e0⟩,[]⟩:Ex)])]] ([(⟨1,2,⟨1,e0,⟨1,e0⟩,⟨1,e0⟩,[]⟩,⟨6,e0,⟨0,e0⟩,⟨0,e0⟩,[(⟨16,e0,⟨0,e0⟩,⟨0,e0⟩,[]⟩:Ex),(⟨18,e0,⟨0,e0⟩,⟨0,e0⟩,[]⟩:Ex)]⟩⟩:Pt)].map lM)∧TT 4 (an [[(dS (bs [112])),(dS (bs [97])),(dL 13 jq cb [(⟨(bs [114]),2,0,⟨6,e0,⟨0,e0⟩,⟨0,e0⟩,[(⟨16,e0,⟨0,e0⟩,⟨0,e0⟩,[]⟩:Ex),(⟨18,e0,⟨0,e0⟩,⟨0,e0⟩,[]⟩:Ex)]⟩,⟨0,e0,0⟩⟩:Rg)]),.nils,(dL 9 jY aK [(⟨0,2,⟨1,e0,⟨1,e0⟩,⟨1,e0⟩,[]⟩⟩:Tk)]),(dL 16 lM aL [(⟨1,2,⟨1,e0,⟨1,e0⟩,⟨1,e0⟩,[]⟩,⟨6,e0,⟨0,e0⟩,⟨0,e0⟩,[(⟨16,e0,⟨0,e0⟩,⟨0,e0⟩,[]⟩:Ex),(⟨18,e0,⟨0,e0⟩,⟨0,e0⟩,[]⟩:Ex)]⟩⟩:Pt)])]] ([(⟨(bs [112]),(bs [97]),[(⟨(bs [114]),2,0,⟨6,e0,⟨0,e0⟩,⟨0,e0⟩,[(⟨16,e0,⟨0,e0⟩,⟨0,e0⟩,[]⟩:Ex),(⟨18,e0,⟨0,e0⟩,⟨0,e0⟩,[]⟩:Ex)]⟩,⟨0,e0,0⟩⟩:Rg)],[],[(⟨0,2,⟨1,e0,⟨1,e0⟩,⟨1,e0⟩,[]⟩⟩:Tk)],[(⟨1,2,⟨1,e0,⟨1,e0⟩,⟨1,e0⟩,[]⟩,⟨6,e0,⟨0,e0⟩,⟨0,e0⟩,[(⟨16,e0,⟨0,e0⟩,⟨0,e0⟩,[]⟩:Ex),(⟨18,e0,⟨0,e0⟩,⟨0,e0⟩,[]⟩:Ex)]⟩⟩:Pt)]⟩:Pr)].map je)∧TT 2 (an [[(dS (bs [105])),(i6 2),(i6 0),(i6 (-1)),(i6 0)],[(dS (bs [111])),(i6 2),(i6 0),(i6 0),(i6 (-1))]] ([(⟨(bs [105]),2,0,(-1),0⟩:Ch),(⟨(bs [111]),2,0,0,(-1)⟩:Ch)].map gO)∧TT 3 ([(⟨(bs [112]),(bs [97]),[(⟨(bs [114]),2,0,⟨6,e0,⟨0,e0⟩,⟨0,e0⟩,[(⟨16,e0,⟨0,e0⟩,⟨0,e0⟩,[]⟩:Ex),(⟨18,e0,⟨0,e0⟩,⟨0,e0⟩,[]⟩:Ex)]⟩,⟨0,e0,0⟩⟩:Rg)],[],[(⟨0,2,⟨1,e0,⟨1,e0⟩,⟨1,e0⟩,[]⟩⟩:Tk)],[(⟨1,2,⟨1,e0,⟨1,e0⟩,⟨1,e0⟩,[]⟩,⟨6,e0,⟨0,e0⟩,⟨0,e0⟩,[(⟨16,e0,⟨0,e0⟩,⟨0,e0⟩,[]⟩:Ex),(⟨18,e0,⟨0,e0⟩,⟨0,e0⟩,[]⟩:Ex)]⟩⟩:Pt)]⟩:Pr)].map je=aH.procs.map je∧[(⟨(bs [105]),2,0,(-1),0⟩:Ch),(⟨(bs [111]),2,0,0,(-1)⟩:Ch)].map gO=aH.chans.map gO∧True)))))))) (.w 2 [(2,.frz 111 7 (eA 2) dE [(⟨16,e0,⟨0,e0⟩,⟨0,e0⟩,[]⟩:Ex),(⟨18,e0,⟨0,e0⟩,⟨0,e0⟩,[]⟩:Ex)])]<|.w 3 [(2,.frz 129 13 jq cb [(⟨(bs [114]),2,0,⟨6,e0,⟨0,e0⟩,⟨0,e0⟩,[(⟨16,e0,⟨0,e0⟩,⟨0,e0⟩,[]⟩:Ex),(⟨18,e0,⟨0,e0⟩,⟨0,e0⟩,[]⟩:Ex)]⟩,⟨0,e0,0⟩⟩:Rg)]),(5,.frz 113 9 jY aK [(⟨0,2,⟨1,e0,⟨1,e0⟩,⟨1,e0⟩,[]⟩⟩:Tk)]),(9,.frz 117 16 lM aL [(⟨1,2,⟨1,e0,⟨1,e0⟩,⟨1,e0⟩,[]⟩,⟨6,e0,⟨0,e0⟩,⟨0,e0⟩,[(⟨16,e0,⟨0,e0⟩,⟨0,e0⟩,[]⟩:Ex),(⟨18,e0,⟨0,e0⟩,⟨0,e0⟩,[]⟩:Ex)]⟩⟩:Pt)])]<|.w 4 [(1,.frz 63 6 je aa [(⟨(bs [112]),(bs [97]),[(⟨(bs [114]),2,0,⟨6,e0,⟨0,e0⟩,⟨0,e0⟩,[(⟨16,e0,⟨0,e0⟩,⟨0,e0⟩,[]⟩:Ex),(⟨18,e0,⟨0,e0⟩,⟨0,e0⟩,[]⟩:Ex)]⟩,⟨0,e0,0⟩⟩:Rg)],[],[(⟨0,2,⟨1,e0,⟨1,e0⟩,⟨1,e0⟩,[]⟩⟩:Tk)],[(⟨1,2,⟨1,e0,⟨1,e0⟩,⟨1,e0⟩,[]⟩,⟨6,e0,⟨0,e0⟩,⟨0,e0⟩,[(⟨16,e0,⟨0,e0⟩,⟨0,e0⟩,[]⟩:Ex),(⟨18,e0,⟨0,e0⟩,⟨0,e0⟩,[]⟩:Ex)]⟩⟩:Pt)]⟩:Pr)]),(4,.frz 78 5 gO ck [(⟨(bs [105]),2,0,(-1),0⟩:Ch),(⟨(bs [111]),2,0,0,(-1)⟩:Ch)])]<|.e) Tryz.func31 rfl rfl rfl (by kernel_rfl) ?_
 refine tt ⟨⟨⟨rfl,rfl,rfl,rfl,rfl,rfl,rfl,oK⟩,⟨rfl,rfl,rfl,rfl,rfl,rfl,rfl,oK⟩,oK⟩,tt ⟨⟨⟨rfl,rfl,rfl,rfl,rfl,rfl,rfl,rfl,rfl,rfl,rfl,rfl,rfl,oK⟩,oK⟩,tt ⟨⟨⟨rfl,rfl,rfl,rfl,rfl,rfl,rfl,rfl,rfl,oK⟩,oK⟩,tt ⟨⟨⟨rfl,rfl,rfl,rfl,rfl,rfl,rfl,rfl,rfl,rfl,rfl,rfl,rfl,rfl,rfl,rfl,oK⟩,oK⟩,tt ⟨⟨⟨rfl,rfl,rfl,rfl,rfl,rfl,oK⟩,oK⟩,tt ⟨⟨⟨rfl,rfl,rfl,rfl,rfl,oK⟩,⟨rfl,rfl,rfl,rfl,rfl,oK⟩,oK⟩,tt ⟨(congrArg _ (?_:[(⟨(bs [112]),(bs [97]),[(⟨(bs [114]),2,0,⟨6,e0,⟨0,e0⟩,⟨0,e0⟩,[(⟨16,e0,⟨0,e0⟩,⟨0,e0⟩,[]⟩:Ex),(⟨18,e0,⟨0,e0⟩,⟨0,e0⟩,[]⟩:Ex)]⟩,⟨0,e0,0⟩⟩:Rg)],[],[(⟨0,2,⟨1,e0,⟨1,e0⟩,⟨1,e0⟩,[]⟩⟩:Tk)],[(⟨1,2,⟨1,e0,⟨1,e0⟩,⟨1,e0⟩,[]⟩,⟨6,e0,⟨0,e0⟩,⟨0,e0⟩,[(⟨16,e0,⟨0,e0⟩,⟨0,e0⟩,[]⟩:Ex),(⟨18,e0,⟨0,e0⟩,⟨0,e0⟩,[]⟩:Ex)]⟩⟩:Pt)]⟩:Pr)]=aH.procs)),(congrArg _ (?_:[(⟨(bs [105]),2,0,(-1),0⟩:Ch),(⟨(bs [111]),2,0,0,(-1)⟩:Ch)]=aH.chans)),oK⟩⟩⟩⟩⟩⟩⟩
 all_goals (rfl)
theorem MJ:lq (dG aH [[1,2,2],[]] 100) (⟨[[1,2,2],[1,3,1]],[3],0⟩:Rs)=true:=by unfold dG;rw[N8];decide
theorem MK:lq (dG aH [[1,2,2],[]] 2) (⟨[[1,2,2],[1,3]],[2],0⟩:Rs)=true:=by unfold dG;rw[N9];decide
theorem ML:lq (lR aH [[1,2,2],[]] [bs [97],bs [97]]) (⟨[[1,2,2],[1,3]],[2],0⟩:Rs)=true:=by unfold lR;rw[Oa];decide
abbrev c7:Ct:=⟨7,[],false,(dB true)⟩
theorem Ld  : CC c7:=by
 refine ai.vc (V:=TT 1 (CC Ok∧TT 2 (an [[(i6 1)],[(i6 2)],[(i6 2)]] ([1,2,2].map (ab .i64))∧an [[(LI [1,2,2])],[.nils]] ([[1,2,2],[]].map ae)∧TT 1 (an [[(i6 1)],[(i6 2)],[(i6 2)]] ([1,2,2].map (ab .i64))∧an [[(i6 1)],[(i6 3)],[(i6 1)]] ([1,3,1].map (ab .i64))∧an [[(LI [1,2,2])],[(LI [1,3,1])]] ([[1,2,2],[1,3,1]].map ae)∧an [[(i6 3)]] ([3].map (ab .i64))∧TT 3 (an [[(i6 1)],[(i6 2)],[(i6 2)]] ([1,2,2].map (ab .i64))∧an [[(i6 1)],[(i6 3)]] ([1,3].map (ab .i64))∧an [[(LI [1,2,2])],[(LI [1,3])]] ([[1,2,2],[1,3]].map ae)∧an [[(i6 2)]] ([2].map (ab .i64))∧TT 6 ((vA [] [Af,(.agg [(dL 1 ae [] [[1,2,2],[]]),(i6 100),.nils])] (yI aH [[1,2,2],[]] 100 []).as∧CC (yI aH [[1,2,2],[]] 100 []))∧TT 1 (CC (Hq (dG aH [[1,2,2],[]] 100) (⟨[[1,2,2],[1,3,1]],[3],0⟩:Rs))∧TT 1 ((True∧(!(lq (dG aH [[1,2,2],[]] 100) (⟨[[1,2,2],[1,3,1]],[3],0⟩:Rs)))=false)∧TT 3 ((vA [] [Af,(.agg [(dL 1 ae [] [[1,2,2],[]]),(i6 2),.nils])] (yI aH [[1,2,2],[]] 2 []).as∧CC (yI aH [[1,2,2],[]] 2 []))∧TT 1 (CC (Hq (dG aH [[1,2,2],[]] 2) (⟨[[1,2,2],[1,3]],[2],0⟩:Rs))∧TT 2 ((True∧(!(lq (dG aH [[1,2,2],[]] 2) (⟨[[1,2,2],[1,3]],[2],0⟩:Rs)))=false)∧TT 2 (an [[(dS (bs [97]))],[(dS (bs [97]))]] ([(bs [97]),(bs [97])].map oM)∧TT 1 (CC (Oj aH [[1,2,2],[]] 0 [(bs [97]),(bs [97])])∧TT 1 (CC (Hq (lR aH [[1,2,2],[]] [(bs [97]),(bs [97])]) (⟨[[1,2,2],[1,3]],[2],0⟩:Rs))∧TT 2 ((!(lq (lR aH [[1,2,2],[]] [(bs [97]),(bs [97])]) (⟨[[1,2,2],[1,3]],[2],0⟩:Rs)))=false∧TT 1 (an [[(i6 4)]] ([4].map (ab .i64))∧an [[(LI [4])],[.nils]] ([[4],[]].map ae)∧TT 1 ((vA [] [Af,(.agg [(dL 1 ae [] [[4],[]]),(i6 1),.nils])] (yI aH [[4],[]] 1 []).as∧CC (yI aH [[4],[]] 1 []))∧TT 5 ((vA [] [Af,(.agg [(dL 1 ae [] [[1,2,2],[]]),(i6 101),.nils])] (yI aH [[1,2,2],[]] 101 []).as∧CC (yI aH [[1,2,2],[]] 101 []))∧TT 5 ((True∧(decide (((dG aH [[4],[]] 1).e)=1))=true)∧TT 4 ((True∧(decide (((dG aH [[1,2,2],[]] 101).e)=1))=true)∧TT 4 (CC (Mr [[1,2,2],[1,3]] [[1,2,2],[1,3,1]])∧TT 1 ((True∧(fc [[1,2,2],[1,3]] [[1,2,2],[1,3,1]])=true)∧TT 4 (CC (Mr [[1,2,2],[1,3,1]] [[1,2,2],[1,3]])∧TT 2 ((True∧(!(fc [[1,2,2],[1,3,1]] [[1,2,2],[1,3]]))=true)∧TT 2 (an [[(i6 1)],[(i6 3)],[(i6 2)]] ([1,3,2].map (ab .i64))∧an [[.nils],[(LI [1,3,2])]] ([[],[1,3,2]].map ae)∧CC (MI [[1,2,2],[1,3,1]] [[],[1,3,2]])∧TT 3 ((True∧(((((Mv [[1,2,2],[1,3,1]] [[],[1,3,2]]):Nat):Int)==1)&&(((((Mw [[1,2,2],[1,3,1]] [[],[1,3,2]]):Nat):Int)==2)&&(((du [[1,2,2],[1,3,1]] [[],[1,3,2]]).2.2)==true)))=true)∧TT 4 (CC (MI [[1,2,2],[1,3,1]] [[1,2,2],[1,3]])∧TT 5 ((((((Mv [[1,2,2],[1,3,1]] [[1,2,2],[1,3]]):Nat):Int)==0)&&(((((Mw [[1,2,2],[1,3,1]] [[1,2,2],[1,3]]):Nat):Int)==0)&&(((du [[1,2,2],[1,3,1]] [[1,2,2],[1,3]]).2.2)==false)))=true∧True)))))))))))))))))))))))))))) (.w 1 [(0,Ok.O)]<|.w 2 [(0,.frz 3 1 (ab .i64) 0 [1,2,2]),(1,.frz 42 1 ae [] [[1,2,2],[]])]<|.w 3 [(0,.frz 3 1 (ab .i64) 0 [1,2,2]),(1,.frz 3 1 (ab .i64) 0 [1,3,1]),(2,.frz 42 1 ae [] [[1,2,2],[1,3,1]]),(3,.frz 3 1 (ab .i64) 0 [3])]<|.w 4 [(0,.frz 3 1 (ab .i64) 0 [1,2,2]),(1,.frz 3 1 (ab .i64) 0 [1,3]),(2,.frz 42 1 ae [] [[1,2,2],[1,3]]),(3,.frz 3 1 (ab .i64) 0 [2])]<|.w 5 [(3,(yI aH [[1,2,2],[]] 100 []).O'),(5,(Hq (dG aH [[1,2,2],[]] 100) (⟨[[1,2,2],[1,3,1]],[3],0⟩:Rs)).O),(7,.val (dB false)),(11,(yI aH [[1,2,2],[]] 2 []).O'),(13,(Hq (dG aH [[1,2,2],[]] 2) (⟨[[1,2,2],[1,3]],[2],0⟩:Rs)).O),(16,.val (dB false)),(19,.box 9 1 oM .empty [(bs [97]),(bs [97])]),(21,(Oj aH [[1,2,2],[]] 0 [(bs [97]),(bs [97])]).O),(23,(Hq (lR aH [[1,2,2],[]] [(bs [97]),(bs [97])]) (⟨[[1,2,2],[1,3]],[2],0⟩:Rs)).O)]<|.u 45 (.w 7 [(1,.frz 3 1 (ab .i64) 0 [4]),(2,.frz 42 1 ae [] [[4],[]]),(4,(yI aH [[4],[]] 1 []).O')]<|.w 8 [(3,(yI aH [[1,2,2],[]] 101 []).O')]<|.w 9 [(3,.val (dB true)),(8,.val (dB true)),(13,(Mr [[1,2,2],[1,3]] [[1,2,2],[1,3,1]]).O),(15,.val (dB true)),(20,(Mr [[1,2,2],[1,3,1]] [[1,2,2],[1,3]]).O),(23,.val (dB true)),(26,.frz 3 1 (ab .i64) 0 [1,3,2]),(27,.frz 42 1 ae [] [[],[1,3,2]]),(28,(MI [[1,2,2],[1,3,1]] [[],[1,3,2]]).O),(32,.val (dB true)),(37,(MI [[1,2,2],[1,3,1]] [[1,2,2],[1,3]]).O)]<|.e)) Tryz.func7 rfl rfl rfl (by kernel_rfl) ?_
 refine tt ⟨(I8),tt ⟨⟨⟨rfl,oK⟩,⟨rfl,oK⟩,⟨rfl,oK⟩,oK⟩,⟨⟨⟨rfl,oK⟩,⟨rfl,oK⟩,oK⟩,tt ⟨⟨⟨rfl,oK⟩,⟨rfl,oK⟩,⟨rfl,oK⟩,oK⟩,⟨⟨⟨rfl,oK⟩,⟨rfl,oK⟩,⟨rfl,oK⟩,oK⟩,⟨⟨⟨rfl,oK⟩,⟨rfl,oK⟩,oK⟩,⟨⟨⟨rfl,oK⟩,oK⟩,tt ⟨⟨⟨rfl,oK⟩,⟨rfl,oK⟩,⟨rfl,oK⟩,oK⟩,⟨⟨⟨rfl,oK⟩,⟨rfl,oK⟩,oK⟩,⟨⟨⟨rfl,oK⟩,⟨rfl,oK⟩,oK⟩,⟨⟨⟨rfl,oK⟩,oK⟩,tt ⟨⟨⟨⟨rfl,rfl,oK⟩,⟨rfl,rfl,rfl,oK⟩,oK⟩,(oH aH [[1,2,2],[]] 100 [] cA nd (by decide) (by decide))⟩,tt ⟨(rz (dG aH [[1,2,2],[]] 100) (⟨[[1,2,2],[1,3,1]],[3],0⟩:Rs) (gY cA).1 (gY cA).2.1 (by decide) (qc (by decide)) (gY cA).2.2),tt ⟨(mF MJ),tt ⟨⟨⟨⟨rfl,rfl,oK⟩,⟨rfl,rfl,rfl,oK⟩,oK⟩,(oH aH [[1,2,2],[]] 2 [] cA nd (by decide) (by decide))⟩,tt ⟨(rz (dG aH [[1,2,2],[]] 2) (⟨[[1,2,2],[1,3]],[2],0⟩:Rs) (gY cA).1 (gY cA).2.1 (by decide) (qc (by decide)) (gY cA).2.2),tt ⟨(mF MK),tt ⟨⟨⟨rfl,oK⟩,⟨rfl,oK⟩,oK⟩,tt ⟨(I7 aH [[1,2,2],[]] 0 [(bs [97]),(bs [97])] cA nd (by decide) (by decide) (by decide)),tt ⟨(rz (lR aH [[1,2,2],[]] [(bs [97]),(bs [97])]) (⟨[[1,2,2],[1,3]],[2],0⟩:Rs) (BO cA).1 (BO cA).2.1 (by decide) (qc (by decide)) (BO cA).2.2),tt ⟨(Lq ML),tt ⟨⟨⟨rfl,oK⟩,oK⟩,⟨⟨⟨rfl,oK⟩,⟨rfl,oK⟩,oK⟩,tt ⟨⟨⟨⟨rfl,rfl,oK⟩,⟨rfl,rfl,rfl,oK⟩,oK⟩,(oH aH [[4],[]] 1 [] cA nd (by decide) (by decide))⟩,tt ⟨⟨⟨⟨rfl,rfl,oK⟩,⟨rfl,rfl,rfl,oK⟩,oK⟩,(oH aH [[1,2,2],[]] 101 [] cA nd (by decide) (by decide))⟩,tt ⟨(vT Ob),tt ⟨(vT Oc),tt ⟨(Dm [[1,2,2],[1,3]] [[1,2,2],[1,3,1]] (by decide) (qc (by decide))),tt ⟨(bT (by decide)),tt ⟨(Dm [[1,2,2],[1,3,1]] [[1,2,2],[1,3]] (by decide) (qc (by decide))),tt ⟨(mT (by decide)),tt ⟨⟨⟨rfl,oK⟩,⟨rfl,oK⟩,⟨rfl,oK⟩,oK⟩,⟨⟨⟨rfl,oK⟩,⟨rfl,oK⟩,oK⟩,⟨(DB [[1,2,2],[1,3,1]] [[],[1,3,2]] (by decide) (qc (by decide))),tt ⟨(bT (by decide)),tt ⟨(DB [[1,2,2],[1,3,1]] [[1,2,2],[1,3]] (by decide) (qc (by decide))),tt ⟨?_,oK⟩⟩⟩⟩⟩⟩⟩⟩⟩⟩⟩⟩⟩⟩⟩⟩⟩⟩⟩⟩⟩⟩⟩⟩⟩⟩⟩⟩⟩⟩⟩⟩⟩⟩⟩⟩⟩
 decide
end Go.Proofs.YtckgpflobhpnpaaGreat
