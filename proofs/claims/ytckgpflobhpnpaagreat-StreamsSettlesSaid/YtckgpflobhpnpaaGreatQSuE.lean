/-
  The reference of streams: comparisons, inputs; the laws: helpers.
-/
import Derived.Test.YtckgpflobhpnpaaGreatQSuD
import Derived.Test.YtckgpflobhpnpaaGreatQStS
import Derived.Test.YtckgpflobhpnpaaGreatQNeP
namespace Go.Proofs.YtckgpflobhpnpaaGreat
open Go.RowKit
set_option linter.unusedVariables false
set_option linter.unusedSimpArgs false
abbrev BR:D:=(.agg [(dL 6 hU af aH.procs),(dL 5 gK a6 aH.chans)])
abbrev BS (c:Ci):List D:=[(dL 6 hU af c.procs),(dL 5 gK a6 c.chans)]
abbrev xb (i:Nat):D:=(i6 ((i+1:Nat):Int))
set_option maxRecDepth 100000
abbrev QQ (a b:List Int):Ct:=⟨50,[(LI a),(LI b)],false,(dB (tQ a b))⟩
abbrev vC (a:List Int) (b:List Int):Lp (Nat):=li [0,1,5] 0 (fun (i:Nat)=>⟨[(0,(LI a)),(1,(LI b)),(5,(i6 (i:Int)))],[]⟩) (fun (i:Nat)=>i≤a.length∧i≤b.length∧∀j,j<i→a.getD j 0=b.getD j 0) (fun (i:Nat)=>a.length-i)
theorem Lr (a b:List Int) (ha:a.length≤9223372036854775807):CC (QQ a b):=by
 refine ah.vc (V:=TT 2 (GO (vC a b) 0 (∀i,(vC a b).inv i→TT 4 (CD ((i:Int)<(a.length:Int)) (CS ((i:Int)≥(b.length:Int)) (TT 4 ((True∧(decide ((i:Int)≥(b.length:Int)))=true)∧TT 3 (false=(tQ a b)∧True))) (TT 4 ((True∧(decide ((i:Int)≥(b.length:Int)))=false)∧TT 2 (IX (i:Int) a.length∧TT 3 (IX (i:Int) b.length∧TT 3 (CN ((a.getD i 0)=(b.getD i 0)) (TT 2 (false=(tQ a b)∧True)) (TT 1 (W6 ((i+1:Nat):Int)∧TT 1 (AG (vC a b) i (i+1)))))))))) (TT 2 (true=(tQ a b)∧True)))))) (.l (vC a b) 0 (fun i=>.b 9 (.s 4 ((i:Int)≥(b.length:Int)) (.w 4 [(4,.val (dB true))]<|.e) (.w 4 [(4,.val (dB false))]<|.b 26 (.e) (.w 3 [(1,.val (xb i))]<|.e))) (.e))) Tryz.func50 rfl rfl rfl (by kernel_rfl) ?_
 refine tt ⟨rfl,⟨by omega,by omega,fun j hj=>by omega⟩,?_⟩
 intro i hinv
 obtain⟨hi,hi2,h3⟩:=hinv
 refine tt (cd (fun hc9=>?_) (fun hc9=>?_))
 · refine⟨fun hs0=>?_,fun hs0=>?_⟩
   · refine tt ⟨(vT hs0),tt ⟨?_,oK⟩⟩
     first | exact(pC (i:=i) (by omega) hi2 h3 (fun q=>by omega)).symm | exact(pC (i:=i) (by omega) hi2 h3 (fun q=>by simp_all)).symm | exact(Af (by omega) (fun j hj=>h3 j (by omega))).symm
   · refine tt ⟨(vF hs0),tt ⟨ix,tt ⟨ix,tt (cn (fun hc26=>?_) (fun hc26=>?_))⟩⟩⟩
     · refine tt ⟨?_,oK⟩
       first | exact(pC (i:=i) (by omega) hi2 h3 (fun q=>by omega)).symm | exact(pC (i:=i) (by omega) hi2 h3 (fun q=>by simp_all)).symm | exact(Af (by omega) (fun j hj=>h3 j (by omega))).symm
     · refine tt ⟨w6,tt ⟨(i+1),rfl,?_,(?_:a.length-(i+1)<a.length-i)⟩⟩
       · exact⟨by omega,by omega,bD h3 (by simpa using hc26)⟩
       · omega
 · refine tt ⟨?_,oK⟩
   first | exact(pC (i:=i) (by omega) hi2 h3 (fun q=>by omega)).symm | exact(pC (i:=i) (by omega) hi2 h3 (fun q=>by simp_all)).symm | exact(Af (by omega) (fun j hj=>h3 j (by omega))).symm
abbrev NJ (a b:List (List Int)):Ct:=⟨18,[(dL 1 ac [] a),(dL 1 ac [] b)],false,(dB (eK a b))⟩
abbrev vD (a:List (List Int)) (b:List (List Int)):Lp (Nat):=li [0,1,5] 0 (fun (i:Nat)=>⟨[(0,(dL 1 ac [] a)),(1,(dL 1 ac [] b)),(5,(i6 (i:Int)))],[]⟩) (fun (i:Nat)=>i≤a.length∧∀q,q<i→(!decide (dP (a.getD q []) (b.getD q [])<(a.getD q []).length))=true) (fun (i:Nat)=>a.length-i)
theorem An (a b:List (List Int)) (ha:a.length≤9223372036854775807) (hsa:∀i,(a.getD i []).length≤9223372036854775807):CC (NJ a b):=by
 refine ah.vc (V:=TT 6 (CN ((a.length:Int)=(b.length:Int)) (TT 2 (false=(eK a b)∧True)) (TT 1 (GO (vD a b) 0 (∀i,(vD a b).inv i→TT 4 (CD ((i:Int)<(a.length:Int)) (TT 2 (IX (i:Int) a.length∧TT 3 (IX (i:Int) b.length∧TT 1 (CC (QQ (a.getD i []) (b.getD i []))∧TT 1 (CB (!(tQ (a.getD i []) (b.getD i []))) (TT 2 (false=(eK a b)∧True)) (TT 1 (W6 ((i+1:Nat):Int)∧TT 1 (AG (vD a b) i (i+1))))))))) (TT 2 (true=(eK a b)∧True)))))))) (.b 10 (.e) (.l (vD a b) 0 (fun i=>.b 14 (.w 6 [(8,(QQ (a.getD i []) (b.getD i [])).O)]<|.b 26 (.e) (.w 5 [(1,.val (xb i))]<|.e)) (.e)))) Tryz.func18 rfl rfl rfl (by kernel_rfl) ?_
 refine tt (cn (fun hc10=>?_) (fun hc10=>?_))
 · refine tt ⟨?_,oK⟩
   first | exact(pm (by omega)).symm | exact(pn (i:=i) (by omega) (by unfold tQ at hc26;simpa using hc26)).symm | exact(po (by omega) (fun q hq=>h3 q (by omega))).symm
 · refine tt ⟨rfl,⟨by omega,fun q hq=>by omega⟩,?_⟩
   intro i hinv
   obtain⟨hi,h3⟩:=hinv
   refine tt (cd (fun hc14=>?_) (fun hc14=>?_))
   · refine tt ⟨ix,tt ⟨ix,tt ⟨(Lr (a.getD i []) (b.getD i []) (hsa i)),tt ⟨fun hc26=>?_,fun hc26=>?_⟩⟩⟩⟩
     · refine tt ⟨?_,oK⟩
       first | exact(pm (by omega)).symm | exact(pn (i:=i) (by omega) (by unfold tQ at hc26;simpa using hc26)).symm | exact(po (by omega) (fun q hq=>h3 q (by omega))).symm
     · refine tt ⟨w6,tt ⟨(i+1),rfl,?_,(?_:a.length-(i+1)<a.length-i)⟩⟩
       · exact⟨by omega,bD h3 (show tQ (a.getD i []) (b.getD i [])=true by simpa using hc26)⟩
       · omega
   · refine tt ⟨?_,oK⟩
     first | exact(pm (by omega)).symm | exact(pn (i:=i) (by omega) (by unfold tQ at hc26;simpa using hc26)).symm | exact(po (by omega) (fun q hq=>h3 q (by omega))).symm
abbrev Pc (a b:List (List Int)):Ct:=⟨38,[(dL 1 ac [] a),(dL 1 ac [] b)],false,(dB (qZ a b))⟩
theorem FD (a b:List (List Int)) (ha:a.length≤9223372036854775807) (hsa:∀i,(a.getD i []).length≤9223372036854775807) (hb:b.length≤9223372036854775807) (hsb:∀i,(b.getD i []).length≤9223372036854775807):CC (Pc a b):=by
 refine ah.vc (V:=TT 1 (CS ((eK a b)=true) (TT 2 (CC (NJ a b)∧(True∧(eK a b)=true)∧TT 2 (CC (NJ b a)∧TT 3 ((eK b a)=(qZ a b)∧True)))) (TT 2 (CC (NJ a b)∧(True∧(eK a b)=false)∧TT 6 (false=(qZ a b)∧True))))) (.s 1 ((eK a b)=true) (.w 1 [(2,(NJ a b).O),(3,.val (dB true)),(6,(NJ b a).O)]<|.e) (.w 1 [(2,(NJ a b).O),(3,.val (dB false))]<|.e)) Tryz.func38 rfl rfl rfl (by kernel_rfl) ?_
 refine tt ⟨fun hs0=>?_,fun hs0=>?_⟩
 · refine tt ⟨(An a b ha hsa),⟨(bT hs0),tt ⟨(An b a hb hsb),tt ⟨?_,oK⟩⟩⟩⟩
   first | exact(JH (by simpa using hs0)).symm | exact(Ft (by simpa using hs0)).symm
 · refine tt ⟨(An a b ha hsa),⟨(bF hs0),tt ⟨?_,oK⟩⟩⟩
   first | exact(JH (by simpa using hs0)).symm | exact(Ft (by simpa using hs0)).symm
abbrev JP (a b:List Int):Ct:=⟨30,[(LI a),(LI b)],false,(dB (decide (a=b)))⟩
abbrev sL (a:List Int) (b:List Int):Lp (Nat):=li [0,1,5] 0 (fun (k:Nat)=>⟨[(0,(LI a)),(1,(LI b)),(5,(i6 (k:Int)))],[]⟩) (fun (k:Nat)=>k≤a.length∧∀z,z<k→a.getD z 0=b.getD z 0) (fun (k:Nat)=>a.length-k)
theorem BT (a b:List Int) (ha:a.length≤9223372036854775807):CC (JP a b):=by
 refine ah.vc (V:=TT 6 (CN ((a.length:Int)=(b.length:Int)) (TT 2 (false=(decide (a=b))∧True)) (TT 1 (GO (sL a b) 0 (∀k,(sL a b).inv k→TT 4 (CD ((k:Int)<(a.length:Int)) (TT 2 (IX (k:Int) a.length∧TT 3 (IX (k:Int) b.length∧TT 2 (CN ((a.getD k 0)=(b.getD k 0)) (TT 2 (false=(decide (a=b))∧True)) (TT 1 (W6 ((k+1:Nat):Int)∧TT 1 (AG (sL a b) k (k+1)))))))) (TT 2 (true=(decide (a=b))∧True)))))))) (.b 10 (.e) (.l (sL a b) 0 (fun k=>.b 14 (.b 25 (.e) (.w 5 [(1,.val (i6 ((k+1:Nat):Int)))]<|.e)) (.e)))) Tryz.func30 rfl rfl rfl (by kernel_rfl) ?_
 refine tt (cn (fun hc10=>?_) (fun hc10=>?_))
 · refine tt ⟨?_,oK⟩
   first | exact(decide_eq_false (fun e=>by subst e;omega)).symm | exact(decide_eq_false (same_no (k:=k) (by simpa using hc25))).symm | exact(decide_eq_true (tr (by omega) (by omega) hall)).symm
 · refine tt ⟨rfl,⟨by omega,fun z hz=>by omega⟩,?_⟩
   intro k hinv
   obtain⟨hk,hall⟩:=hinv
   refine tt (cd (fun hc14=>?_) (fun hc14=>?_))
   · refine tt ⟨ix,tt ⟨ix,tt (cn (fun hc25=>?_) (fun hc25=>?_))⟩⟩
     · refine tt ⟨?_,oK⟩
       first | exact(decide_eq_false (fun e=>by subst e;omega)).symm | exact(decide_eq_false (same_no (k:=k) (by simpa using hc25))).symm | exact(decide_eq_true (tr (by omega) (by omega) hall)).symm
     · refine tt ⟨w6,tt ⟨(k+1),rfl,?_,(?_:a.length-(k+1)<a.length-k)⟩⟩
       · exact⟨by omega,bD hall (by simpa using hc25)⟩
       · omega
   · refine tt ⟨?_,oK⟩
     first | exact(decide_eq_false (fun e=>by subst e;omega)).symm | exact(decide_eq_false (same_no (k:=k) (by simpa using hc25))).symm | exact(decide_eq_true (tr (by omega) (by omega) hall)).symm
abbrev NK (a b:Rs):Ct:=⟨12,[(.agg [(dL 1 ac [] a.l),(LI a.c),(i6 a.e)]),(.agg [(dL 1 ac [] b.l),(LI b.c),(i6 b.e)])],false,(dB (pU a b))⟩
theorem Ao (a b:Rs) (hl:a.l.length≤9223372036854775807) (hsl:∀i,(a.l.getD i []).length≤9223372036854775807) (hbl:b.l.length≤9223372036854775807) (hsb:∀i,(b.l.getD i []).length≤9223372036854775807) (hcc:a.c.length≤9223372036854775807):CC (NK a b):=by
 refine ah.vc (V:=TT 3 (CS (a.e=b.e) (CS ((qZ a.l b.l)=true) (TT 5 ((True∧(decide (a.e=b.e))=true)∧TT 4 (CC (Pc a.l b.l)∧TT 1 ((True∧(qZ a.l b.l)=true)∧TT 4 (CC (JP a.c b.c)∧TT 3 ((decide (a.c=b.c))=(pU a b)∧True)))))) (TT 5 ((True∧(decide (a.e=b.e))=true)∧TT 4 (CC (Pc a.l b.l)∧TT 1 ((True∧(qZ a.l b.l)=false)∧TT 8 (false=(pU a b)∧True)))))) (TT 5 ((True∧(decide (a.e=b.e))=false)∧TT 15 (false=(pU a b)∧True))))) (.s 1 (a.e=b.e) (.s 1 ((qZ a.l b.l)=true) (.w 1 [(5,.val (dB true)),(10,(Pc a.l b.l).O),(12,.val (dB true)),(17,(JP a.c b.c).O)]<|.e) (.w 1 [(5,.val (dB true)),(10,(Pc a.l b.l).O),(12,.val (dB false))]<|.e)) (.w 1 [(5,.val (dB false))]<|.e)) Tryz.func12 rfl rfl rfl (by kernel_rfl) ?_
 refine tt ⟨fun hs0=>?_,fun hs0=>?_⟩
 · refine⟨fun hs1=>?_,fun hs1=>?_⟩
   · refine tt ⟨(vT hs0),tt ⟨(FD a.l b.l hl hsl hbl hsb),tt ⟨(bT hs1),tt ⟨(BT a.c b.c hcc),tt ⟨?_,oK⟩⟩⟩⟩⟩
     first | exact(Ag hs0).symm | exact(Ah (by simpa using hs1)).symm | exact(Ai hs0 (by simpa using hs1)).symm
   · refine tt ⟨(vT hs0),tt ⟨(FD a.l b.l hl hsl hbl hsb),tt ⟨(bF hs1),tt ⟨?_,oK⟩⟩⟩⟩
     first | exact(Ag hs0).symm | exact(Ah (by simpa using hs1)).symm | exact(Ai hs0 (by simpa using hs1)).symm
 · refine tt ⟨(vF hs0),tt ⟨?_,oK⟩⟩
   first | exact(Ag hs0).symm | exact(Ah (by simpa using hs1)).symm | exact(Ai hs0 (by simpa using hs1)).symm
abbrev QR (c:Ci) (b:List Int):Ct:=⟨10,[(.agg (BS c)),(LY b)],true,(dL 1 ac [] (aA c b))⟩
abbrev gG (c:Ci) (b:List Int):Lp (Nat×Nat):=u2 [2,5,6,7] 3 (fun (i:Nat) (p0:Nat)=>⟨[(2,(.ptr 0 0 0 0)),(5,(.own 1)),(6,(.ptr 2 0 0 0)),(7,(i6 (i:Int)))],[(.var 33 (BS c)),(.arr 42 1 ac [] (tab (tJ c b) i)),(.var 84 [(LY b),(i6 (p0:Int))])]⟩) (fun (i:Nat) (p0:Nat)=>i≤c.chans.length∧p0=inQ c b i∧p0≤10*i) (fun (i:Nat) (p0:Nat)=>c.chans.length-i)
abbrev pI (c:Ci) (b:List Int) (i:Nat) (p0:Nat):Lp (Nat):=li [2,5,6,7,8,9,10] 4 (fun (k:Nat)=>⟨[(2,(.ptr 0 0 0 0)),(5,(.own 1)),(6,(.ptr 2 0 0 0)),(7,(i6 (i:Int))),(8,(.own 3)),(9,(i6 (((b.getD p0 0%8).toNat:Nat):Int))),(10,(i6 (k:Int)))],[(.var 33 (BS c)),(.arr 42 1 ac [] (tab (tJ c b) i)),(.var 84 [(LY b),(i6 (p0:Int))]),(.arr 3 1 (ae .i64) 0 (tab (oe b p0 (c.chans.getD i a6).w) k))]⟩) (fun (k:Nat)=>k≤(b.getD p0 0%8).toNat∧(k=0∨(c.chans.getD i a6).frm<0)) (fun (k:Nat)=>(b.getD p0 0%8).toNat-k)
theorem GM (c:Ci) (b:List Int) (hc:a8 c) (hb:rS b):CC (QR c b):=by
 have hnl:=hc.nl
 have hcl:=hc.cl
 refine ah.vc (V:=TT 2 (ap [] ((tab (tJ c b) 0).map ac)∧TT 6 (GO (gG c b) (0,0) (∀i p0,(gG c b).inv (i,p0)→TT 5 (CD ((i:Int)<(c.chans.length:Int)) (ap [] (([]:List Int).map (ae .i64))∧TT 2 (CC (GK b p0)∧((8:Int)≠0∧(Int.tmod (b.getD p0 0) 8)=(((b.getD p0 0%8).toNat:Nat):Int))∧TT 2 (GO (pI c b i p0) 0 (∀k,(pI c b i p0).inv k→CS ((k:Int)<(((b.getD p0 0%8).toNat:Nat):Int)) (TT 3 ((True∧(decide ((k:Int)<(((b.getD p0 0%8).toNat:Nat):Int)))=true)∧TT 3 (IX (i:Int) c.chans.length∧TT 4 (CD (((c.chans.getD i a6).frm)<0) (TT 3 (W6 ((1+k:Nat):Int)∧CC (BP b p0 (1+k))∧CC (GK b (p0+(1+k)))∧TT 3 (IX (i:Int) c.chans.length∧TT 2 (CC (NF ((c.chans.getD i a6).w))∧(True∧(IntKind.wrap .i64 (BitVec.ofInt (IntKind.i64).bits (b.getD (p0+(1+k)) 0) &&& BitVec.ofInt (IntKind.i64).bits (an ((c.chans.getD i a6).w))).toNat)=(oe b p0 (c.chans.getD i a6).w k))∧ap [[(i6 (oe b p0 (c.chans.getD i a6).w k))]] ([oe b p0 (c.chans.getD i a6).w k].map (ae .i64))∧((tab (oe b p0 (c.chans.getD i a6).w) k).length+([oe b p0 (c.chans.getD i a6).w k].map (ae .i64)).length≤137438953472∧(tab (oe b p0 (c.chans.getD i a6).w) k).map (ae .i64)++[oe b p0 (c.chans.getD i a6).w k].map (ae .i64)=(tab (oe b p0 (c.chans.getD i a6).w) (k+1)).map (ae .i64))∧TT 2 (W6 ((k+1:Nat):Int)∧TT 1 (AG (pI c b i p0) k (k+1))))))) (TT 3 (IX (i:Int) c.chans.length∧TT 3 (CD (((c.chans.getD i a6).frm)<0) (TT 2 (W6 ((1+((b.getD p0 0%8).toNat):Nat):Int)∧CC (BP b p0 (1+((b.getD p0 0%8).toNat)))∧TT 3 (ap [[(LI (tab (oe b p0 (c.chans.getD i a6).w) k))]] ([tab (oe b p0 (c.chans.getD i a6).w) k].map ac)∧((tab (tJ c b) i).length+([tab (oe b p0 (c.chans.getD i a6).w) k].map ac).length≤137438953472∧(tab (tJ c b) i).map ac++[tab (oe b p0 (c.chans.getD i a6).w) k].map ac=(tab (tJ c b) (i+1)).map ac)∧TT 2 (W6 ((i+1:Nat):Int)∧TT 1 (AG (gG c b) (i,p0) (i+1,p0+(1+(b.getD p0 0%8).toNat))))))) (TT 2 (ap [[(LI (tab (oe b p0 (c.chans.getD i a6).w) k))]] ([tab (oe b p0 (c.chans.getD i a6).w) k].map ac)∧((tab (tJ c b) i).length+([tab (oe b p0 (c.chans.getD i a6).w) k].map ac).length≤137438953472∧(tab (tJ c b) i).map ac++[tab (oe b p0 (c.chans.getD i a6).w) k].map ac=(tab (tJ c b) (i+1)).map ac)∧TT 2 (W6 ((i+1:Nat):Int)∧TT 1 (AG (gG c b) (i,p0) (i+1,p0)))))))))))) (TT 3 ((True∧(decide ((k:Int)<(((b.getD p0 0%8).toNat:Nat):Int)))=false)∧TT 11 (IX (i:Int) c.chans.length∧TT 3 (CD (((c.chans.getD i a6).frm)<0) (TT 2 (W6 ((1+((b.getD p0 0%8).toNat):Nat):Int)∧CC (BP b p0 (1+((b.getD p0 0%8).toNat)))∧TT 3 (ap [[(LI (tab (oe b p0 (c.chans.getD i a6).w) k))]] ([tab (oe b p0 (c.chans.getD i a6).w) k].map ac)∧((tab (tJ c b) i).length+([tab (oe b p0 (c.chans.getD i a6).w) k].map ac).length≤137438953472∧(tab (tJ c b) i).map ac++[tab (oe b p0 (c.chans.getD i a6).w) k].map ac=(tab (tJ c b) (i+1)).map ac)∧TT 2 (W6 ((i+1:Nat):Int)∧TT 1 (AG (gG c b) (i,p0) (i+1,p0+(1+(b.getD p0 0%8).toNat))))))) (TT 2 (ap [[(LI (tab (oe b p0 (c.chans.getD i a6).w) k))]] ([tab (oe b p0 (c.chans.getD i a6).w) k].map ac)∧((tab (tJ c b) i).length+([tab (oe b p0 (c.chans.getD i a6).w) k].map ac).length≤137438953472∧(tab (tJ c b) i).map ac++[tab (oe b p0 (c.chans.getD i a6).w) k].map ac=(tab (tJ c b) (i+1)).map ac)∧TT 2 (W6 ((i+1:Nat):Int)∧TT 1 (AG (gG c b) (i,p0) (i+1,p0))))))))))))) (TT 3 ((tab (tJ c b) i).map ac=(aA c b).map ac))))))) (.w 1 [(0,.box 42 1 ac [] (tab (tJ c b) 0))]<|.l (gG c b) (0,0) (fun ⟨i,p0⟩=>.b 18 (.w 6 [(0,.box 3 1 (ae .i64) 0 ([]:List Int))]<|.w 7 [(1,(GK b p0).O),(2,.val (i6 (((b.getD p0 0%8).toNat:Nat):Int)))]<|.l (pI c b i p0) 0 (fun k=>.s 9 ((k:Int)<(((b.getD p0 0%8).toNat:Nat):Int)) (.w 9 [(3,.val (dB true))]<|.b 36 (.w 11 [(3,.val (i6 ((1+k:Nat):Int))),(4,(BP b p0 (1+k)).O),(5,(GK b (p0+(1+k))).O),(12,(NF ((c.chans.getD i a6).w)).O),(13,.val (i6 (oe b p0 (c.chans.getD i a6).w k))),(14,.box 3 1 (ae .i64) 0 [oe b p0 (c.chans.getD i a6).w k]),(15,.box 3 1 (ae .i64) 0 (tab (oe b p0 (c.chans.getD i a6).w) (k+1)))]<|.w 10 [(1,.val (i6 ((k+1:Nat):Int)))]<|.e) (.b 61 (.w 13 [(2,.val (i6 ((1+((b.getD p0 0%8).toNat):Nat):Int))),(3,(BP b p0 (1+((b.getD p0 0%8).toNat))).O)]<|.f 14 3<|.w 14 [(2,.box 42 1 ac [] [tab (oe b p0 (c.chans.getD i a6).w) k]),(3,.box 42 1 ac [] (tab (tJ c b) (i+1)))]<|.w 5 [(1,.val (xb i))]<|.e) (.f 14 3<|.w 14 [(2,.box 42 1 ac [] [tab (oe b p0 (c.chans.getD i a6).w) k]),(3,.box 42 1 ac [] (tab (tJ c b) (i+1)))]<|.w 5 [(1,.val (xb i))]<|.e))) (.w 9 [(3,.val (dB false))]<|.b 61 (.w 13 [(2,.val (i6 ((1+((b.getD p0 0%8).toNat):Nat):Int))),(3,(BP b p0 (1+((b.getD p0 0%8).toNat))).O)]<|.f 14 3<|.w 14 [(2,.box 42 1 ac [] [tab (oe b p0 (c.chans.getD i a6).w) k]),(3,.box 42 1 ac [] (tab (tJ c b) (i+1)))]<|.w 5 [(1,.val (xb i))]<|.e) (.f 14 3<|.w 14 [(2,.box 42 1 ac [] [tab (oe b p0 (c.chans.getD i a6).w) k]),(3,.box 42 1 ac [] (tab (tJ c b) (i+1)))]<|.w 5 [(1,.val (xb i))]<|.e)))) (.e))) Tryz.func10 rfl rfl rfl (by kernel_rfl) ?_
 refine tt ⟨oK,tt ⟨rfl,⟨by omega,rfl,by omega⟩,?_⟩⟩
 intro i p0 hinv
 obtain⟨hi,hp0,hpb⟩:=hinv
 have hy:=eY hb p0
 refine tt (cd (fun hc18=>?_) (fun hc18=>?_))
 · refine⟨oK,tt ⟨(pG b p0 hb),⟨⟨om,(by rw[show(((b.getD p0 0%8).toNat:Nat):Int)=b.getD p0 0%8 from Int.toNat_of_nonneg (by omega)];exact Int.tmod_eq_emod_of_nonneg hy.1)⟩,tt ⟨rfl,⟨by omega,.inl rfl⟩,?_⟩⟩⟩⟩
   intro k hinv
   obtain⟨hk,hkf⟩:=hinv
   refine⟨fun hs0=>?_,fun hs0=>?_⟩
   · refine tt ⟨(vT hs0),tt ⟨ix,tt (cd (fun hc36=>?_) (fun hc36=>?_))⟩⟩
     · have hw:1≤(c.chans.getD i a6).w∧(c.chans.getD i a6).w≤8:=bn.1 (hc.cw i (by omega))
       have hyk:=eY hb (p0+(1+k))
       refine tt ⟨w6,⟨(uz b p0 (1+k) om),⟨(pG b (p0+(1+k)) hb),tt ⟨ix,tt ⟨(w8 ((c.chans.getD i a6).w)),⟨⟨oK,(yA (by omega) (by omega))⟩,⟨⟨⟨rfl,oK⟩,oK⟩,⟨(bU (by omega) rfl),tt ⟨w6,tt ⟨(k+1),rfl,?_,(?_:(b.getD p0 0%8).toNat-(k+1)<(b.getD p0 0%8).toNat-k)⟩⟩⟩⟩⟩⟩⟩⟩⟩⟩
       · exact⟨by omega,.inr (by first | assumption | omega)⟩
       · omega
     · have hkn:k=L3 c b p0 i:=by unfold L3;split<;>rename_i hfr<;>(have hfr:_:=hfr;unfold cH at hfr;omega)
       refine tt ⟨ix,tt (cd (fun hc61=>?_) (fun hc61=>?_))⟩
       · refine tt ⟨w6,⟨(uz b p0 (1+((b.getD p0 0%8).toNat)) om),tt ⟨⟨⟨rfl,oK⟩,oK⟩,⟨(bU (by omega) (by rw[hkn,hp0];rfl)),tt ⟨w6,tt ⟨(i+1,p0+(1+(b.getD p0 0%8).toNat)),rfl,?_,(?_:c.chans.length-(i+1)<c.chans.length-i)⟩⟩⟩⟩⟩⟩
         · exact⟨by omega,by rw[inQ,if_pos hc61,← hp0],by omega⟩
         · omega
       · refine tt ⟨⟨⟨rfl,oK⟩,oK⟩,⟨(bU (by omega) (by rw[hkn,hp0];rfl)),tt ⟨w6,tt ⟨(i+1,p0),rfl,?_,(?_:c.chans.length-(i+1)<c.chans.length-i)⟩⟩⟩⟩
         · exact⟨by omega,by rw[inQ,if_neg hc61];exact hp0,by omega⟩
         · omega
   · refine tt ⟨(vF hs0),?_⟩
     have hkn:k=L3 c b p0 i:=by unfold L3;split<;>rename_i hfr<;>(have hfr:_:=hfr;unfold cH at hfr;omega)
     refine tt ⟨ix,tt (cd (fun hc61=>?_) (fun hc61=>?_))⟩
     · refine tt ⟨w6,⟨(uz b p0 (1+((b.getD p0 0%8).toNat)) om),tt ⟨⟨⟨rfl,oK⟩,oK⟩,⟨(bU (by omega) (by rw[hkn,hp0];rfl)),tt ⟨w6,tt ⟨(i+1,p0+(1+(b.getD p0 0%8).toNat)),rfl,?_,(?_:c.chans.length-(i+1)<c.chans.length-i)⟩⟩⟩⟩⟩⟩
       · exact⟨by omega,by rw[inQ,if_pos hc61,← hp0],by omega⟩
       · omega
     · refine tt ⟨⟨⟨rfl,oK⟩,oK⟩,⟨(bU (by omega) (by rw[hkn,hp0];rfl)),tt ⟨w6,tt ⟨(i+1,p0),rfl,?_,(?_:c.chans.length-(i+1)<c.chans.length-i)⟩⟩⟩⟩
       · exact⟨by omega,by rw[inQ,if_neg hc61];exact hp0,by omega⟩
       · omega
 · refine tt (congrArg _ (?_:(tab (tJ c b) i)=(aA c b)))
   rw[show i=c.chans.length by omega];rfl
abbrev BW (c:Ci) (inp:List (List Int)) (n:Int) (cls:List ByteArray):Ct:=⟨13,[(.agg (BS c)),(.agg [(dL 1 ac [] inp),(i6 n),(dL 1 pM .empty cls)])],true,(.agg [(dL 1 ac [] ((bB c inp n).l)),(LI ((bB c inp n).c)),(i6 ((bB c inp n).e))])⟩
theorem sM (c:Ci) (inp:List (List Int)) (n:Int) (cls:List ByteArray) (hc:a8 c) (hq:L6 c) (hl:inp.length≤100000) (hs:∀z∈inp,z.length≤100000):CC (BW c inp n cls):=by
 refine ah.vc (V:=TT 8 (CC (QF c inp n)∧TT 13 (((fe c inp n).1).map ac=((bB c inp n).l).map ac∧((fe c inp n).2.1).map (ae .i64)=((bB c inp n).c).map (ae .i64)∧((fe c inp n).2.2)=((bB c inp n).e)∧True))) (.w 1 [(5,(QF c inp n).O)]<|.e) Tryz.func13 rfl rfl rfl (by kernel_rfl) ?_
 refine tt ⟨(BM c inp n hc hq hl hs),tt ⟨(congrArg _ (?_:((fe c inp n).1)=((bB c inp n).l))),(congrArg _ (?_:((fe c inp n).2.1)=((bB c inp n).c))),?_,oK⟩⟩
 all_goals (rfl)
abbrev QS (c:Ci) (inp:List (List Int)) (n:Int) (cls:List ByteArray):Ct:=⟨15,[(.agg (BS c)),(.agg [(dL 1 ac [] inp),(i6 n),(dL 1 pM .empty cls)])],true,(.agg [(dL 1 ac [] ((m5 c inp cls).l)),(LI ((m5 c inp cls).c)),(i6 ((m5 c inp cls).e))])⟩
theorem Ls (c:Ci) (inp:List (List Int)) (n:Int) (cls:List ByteArray) (hc:a8 c) (hq:L6 c) (hl:inp.length≤100000) (hs:∀z∈inp,z.length≤100000) (hcl:cls.length≤9223372036854775807):CC (QS c inp n cls):=by
 refine ah.vc (V:=TT 8 (CC (QE c inp cls)∧TT 13 (((ik c inp cls).1).map ac=((m5 c inp cls).l).map ac∧((ik c inp cls).2.1).map (ae .i64)=((m5 c inp cls).c).map (ae .i64)∧((ik c inp cls).2.2)=((m5 c inp cls).e)∧True))) (.w 1 [(5,(QE c inp cls).O)]<|.e) Tryz.func15 rfl rfl rfl (by kernel_rfl) ?_
 refine tt ⟨(GI c inp cls hc hq hl hs hcl),tt ⟨(congrArg _ (?_:((ik c inp cls).1)=((m5 c inp cls).l))),(congrArg _ (?_:((ik c inp cls).2.1)=((m5 c inp cls).c))),?_,oK⟩⟩
 all_goals (rfl)
abbrev Pd (a b:List (List Int)):Ct:=⟨19,[(dL 1 ac [] a),(dL 1 ac [] b)],false,(.agg [(i6 (((O1 a b):Nat):Int)),(i6 (((O2 a b):Nat):Int)),(dB ((dX a b).2.2))])⟩
theorem FE (a b:List (List Int)) (ha:a.length≤9223372036854775807) (hsa:∀i,(a.getD i []).length≤9223372036854775807):CC (Pd a b):=by
 refine ah.vc (V:=TT 3 (CC (Qz a b)∧TT 13 (((((dX a b).1)=(((O1 a b):Nat):Int)∧((dX a b).2.1)=(((O2 a b):Nat):Int)∧((dX a b).2.2)=((dX a b).2.2)∧True))∧((True∧True∧True∧True))))) (.w 1 [(2,(Qz a b).O)]<|.e) Tryz.func19 rfl rfl rfl (by kernel_rfl) ?_
 refine tt ⟨(Jm a b ha hsa),tt ⟨⟨?_,?_,rfl,oK⟩,⟨oK,oK,oK,oK⟩⟩⟩
 · exact(BN a b).1
 · exact(BN a b).2
abbrev QT (a b:List Int):Ct:=⟨25,[(LI a),(LI b)],false,(dB (uL a b))⟩
abbrev vE (a:List Int) (b:List Int):Lp (Nat):=li [0,1,5] 0 (fun (i:Nat)=>⟨[(0,(LI a)),(1,(LI b)),(5,(i6 (i:Int)))],[]⟩) (fun (i:Nat)=>i≤a.length∧∀q,q<i→decide (a.getD q 0≤b.getD q 0)=true) (fun (i:Nat)=>a.length-i)
theorem Lu (a b:List Int) (ha:a.length≤9223372036854775807):CC (QT a b):=by
 refine ah.vc (V:=TT 6 (CN ((a.length:Int)=(b.length:Int)) (TT 2 (false=(uL a b)∧True)) (TT 1 (GO (vE a b) 0 (∀i,(vE a b).inv i→TT 4 (CD ((i:Int)<(a.length:Int)) (TT 2 (IX (i:Int) a.length∧TT 3 (IX (i:Int) b.length∧TT 2 (CD ((a.getD i 0)>(b.getD i 0)) (TT 2 (false=(uL a b)∧True)) (TT 1 (W6 ((i+1:Nat):Int)∧TT 1 (AG (vE a b) i (i+1)))))))) (TT 2 (true=(uL a b)∧True)))))))) (.b 10 (.e) (.l (vE a b) 0 (fun i=>.b 14 (.b 25 (.e) (.w 5 [(1,.val (xb i))]<|.e)) (.e)))) Tryz.func25 rfl rfl rfl (by kernel_rfl) ?_
 refine tt (cn (fun hc10=>?_) (fun hc10=>?_))
 · refine tt ⟨?_,oK⟩
   first | exact(Aj (by omega)).symm | exact(Ak (i:=i) (by omega) (by omega)).symm | exact(vx (by omega) (fun q hq=>h3 q (by omega))).symm
 · refine tt ⟨rfl,⟨by omega,fun q hq=>by omega⟩,?_⟩
   intro i hinv
   obtain⟨hi,h3⟩:=hinv
   refine tt (cd (fun hc14=>?_) (fun hc14=>?_))
   · refine tt ⟨ix,tt ⟨ix,tt (cd (fun hc25=>?_) (fun hc25=>?_))⟩⟩
     · refine tt ⟨?_,oK⟩
       first | exact(Aj (by omega)).symm | exact(Ak (i:=i) (by omega) (by omega)).symm | exact(vx (by omega) (fun q hq=>h3 q (by omega))).symm
     · refine tt ⟨w6,tt ⟨(i+1),rfl,?_,(?_:a.length-(i+1)<a.length-i)⟩⟩
       · exact⟨by omega,bD h3 (decide_eq_true (by omega))⟩
       · omega
   · refine tt ⟨?_,oK⟩
     first | exact(Aj (by omega)).symm | exact(Ak (i:=i) (by omega) (by omega)).symm | exact(vx (by omega) (fun q hq=>h3 q (by omega))).symm
abbrev QU:Ct:=⟨31,[],true,BR⟩
theorem Lv  : CC QU:=by
 refine ah.vc (V:=TT 8 (ap [[(i6 16),(dS e0),(i6 0),(dS e0),(i6 0),(dS e0),.nils],[(i6 18),(dS e0),(i6 0),(dS e0),(i6 0),(dS e0),.nils]] ([(⟨16,e0,⟨0,e0⟩,⟨0,e0⟩,[]⟩:Ex),(⟨18,e0,⟨0,e0⟩,⟨0,e0⟩,[]⟩:Ex)].map (eA 2))∧TT 5 (ap [[(dS (bs [114])),(i6 2),(i6 0),(i6 6),(dS e0),(i6 0),(dS e0),(i6 0),(dS e0),(dL 7 (eA 2) dE [(⟨16,e0,⟨0,e0⟩,⟨0,e0⟩,[]⟩:Ex),(⟨18,e0,⟨0,e0⟩,⟨0,e0⟩,[]⟩:Ex)]),(i6 0),(dS e0),(i6 0)]] ([(⟨(bs [114]),2,0,⟨6,e0,⟨0,e0⟩,⟨0,e0⟩,[(⟨16,e0,⟨0,e0⟩,⟨0,e0⟩,[]⟩:Ex),(⟨18,e0,⟨0,e0⟩,⟨0,e0⟩,[]⟩:Ex)]⟩,⟨0,e0,0⟩⟩:Rg)].map kr)∧TT 2 (ap [[(i6 0),(i6 2),(i6 1),(dS e0),(i6 1),(dS e0),(i6 1),(dS e0),.nils]] ([(⟨0,2,⟨1,e0,⟨1,e0⟩,⟨1,e0⟩,[]⟩⟩:Tk)].map kt)∧TT 3 (ap [[(i6 1),(i6 2),(i6 1),(dS e0),(i6 1),(dS e0),(i6 1),(dS e0),.nils,(i6 6),(dS e0),(i6 0),(dS e0),(i6 0),(dS e0),(dL 7 (eA 2) dE [(⟨16,e0,⟨0,e0⟩,⟨0,e0⟩,[]⟩:Ex),(⟨18,e0,⟨0,e0⟩,⟨0,e0⟩,[]⟩:Ex)])]] ([(⟨1,2,⟨1,e0,⟨1,e0⟩,⟨1,e0⟩,[]⟩,⟨6,e0,⟨0,e0⟩,⟨0,e0⟩,[(⟨16,e0,⟨0,e0⟩,⟨0,e0⟩,[]⟩:Ex),(⟨18,e0,⟨0,e0⟩,⟨0,e0⟩,[]⟩:Ex)]⟩⟩:Pt)].map nJ)∧TT 4 (ap [[(dS (bs [112])),(dS (bs [97])),(dL 13 kr cC [(⟨(bs [114]),2,0,⟨6,e0,⟨0,e0⟩,⟨0,e0⟩,[(⟨16,e0,⟨0,e0⟩,⟨0,e0⟩,[]⟩:Ex),(⟨18,e0,⟨0,e0⟩,⟨0,e0⟩,[]⟩:Ex)]⟩,⟨0,e0,0⟩⟩:Rg)]),.nils,(dL 9 kt aO [(⟨0,2,⟨1,e0,⟨1,e0⟩,⟨1,e0⟩,[]⟩⟩:Tk)]),(dL 16 nJ aK [(⟨1,2,⟨1,e0,⟨1,e0⟩,⟨1,e0⟩,[]⟩,⟨6,e0,⟨0,e0⟩,⟨0,e0⟩,[(⟨16,e0,⟨0,e0⟩,⟨0,e0⟩,[]⟩:Ex),(⟨18,e0,⟨0,e0⟩,⟨0,e0⟩,[]⟩:Ex)]⟩⟩:Pt)])]] ([(⟨(bs [112]),(bs [97]),[(⟨(bs [114]),2,0,⟨6,e0,⟨0,e0⟩,⟨0,e0⟩,[(⟨16,e0,⟨0,e0⟩,⟨0,e0⟩,[]⟩:Ex),(⟨18,e0,⟨0,e0⟩,⟨0,e0⟩,[]⟩:Ex)]⟩,⟨0,e0,0⟩⟩:Rg)],[],[(⟨0,2,⟨1,e0,⟨1,e0⟩,⟨1,e0⟩,[]⟩⟩:Tk)],[(⟨1,2,⟨1,e0,⟨1,e0⟩,⟨1,e0⟩,[]⟩,⟨6,e0,⟨0,e0⟩,⟨0,e0⟩,[(⟨16,e0,⟨0,e0⟩,⟨0,e0⟩,[]⟩:Ex),(⟨18,e0,⟨0,e0⟩,⟨0,e0⟩,[]⟩:Ex)]⟩⟩:Pt)]⟩:Pr)].map hU)∧TT 2 (ap [[(dS (bs [105])),(i6 2),(i6 0),(i6 (-1)),(i6 0)],[(dS (bs [111])),(i6 2),(i6 0),(i6 0),(i6 (-1))]] ([(⟨(bs [105]),2,0,(-1),0⟩:Ch),(⟨(bs [111]),2,0,0,(-1)⟩:Ch)].map gK)∧TT 3 ([(⟨(bs [112]),(bs [97]),[(⟨(bs [114]),2,0,⟨6,e0,⟨0,e0⟩,⟨0,e0⟩,[(⟨16,e0,⟨0,e0⟩,⟨0,e0⟩,[]⟩:Ex),(⟨18,e0,⟨0,e0⟩,⟨0,e0⟩,[]⟩:Ex)]⟩,⟨0,e0,0⟩⟩:Rg)],[],[(⟨0,2,⟨1,e0,⟨1,e0⟩,⟨1,e0⟩,[]⟩⟩:Tk)],[(⟨1,2,⟨1,e0,⟨1,e0⟩,⟨1,e0⟩,[]⟩,⟨6,e0,⟨0,e0⟩,⟨0,e0⟩,[(⟨16,e0,⟨0,e0⟩,⟨0,e0⟩,[]⟩:Ex),(⟨18,e0,⟨0,e0⟩,⟨0,e0⟩,[]⟩:Ex)]⟩⟩:Pt)]⟩:Pr)].map hU=aH.procs.map hU∧[(⟨(bs [105]),2,0,(-1),0⟩:Ch),(⟨(bs [111]),2,0,0,(-1)⟩:Ch)].map gK=aH.chans.map gK∧True)))))))) (.w 2 [(2,.frz 111 7 (eA 2) dE [(⟨16,e0,⟨0,e0⟩,⟨0,e0⟩,[]⟩:Ex),(⟨18,e0,⟨0,e0⟩,⟨0,e0⟩,[]⟩:Ex)])]<|.w 3 [(2,.frz 129 13 kr cC [(⟨(bs [114]),2,0,⟨6,e0,⟨0,e0⟩,⟨0,e0⟩,[(⟨16,e0,⟨0,e0⟩,⟨0,e0⟩,[]⟩:Ex),(⟨18,e0,⟨0,e0⟩,⟨0,e0⟩,[]⟩:Ex)]⟩,⟨0,e0,0⟩⟩:Rg)]),(5,.frz 113 9 kt aO [(⟨0,2,⟨1,e0,⟨1,e0⟩,⟨1,e0⟩,[]⟩⟩:Tk)]),(9,.frz 117 16 nJ aK [(⟨1,2,⟨1,e0,⟨1,e0⟩,⟨1,e0⟩,[]⟩,⟨6,e0,⟨0,e0⟩,⟨0,e0⟩,[(⟨16,e0,⟨0,e0⟩,⟨0,e0⟩,[]⟩:Ex),(⟨18,e0,⟨0,e0⟩,⟨0,e0⟩,[]⟩:Ex)]⟩⟩:Pt)])]<|.w 4 [(1,.frz 63 6 hU af [(⟨(bs [112]),(bs [97]),[(⟨(bs [114]),2,0,⟨6,e0,⟨0,e0⟩,⟨0,e0⟩,[(⟨16,e0,⟨0,e0⟩,⟨0,e0⟩,[]⟩:Ex),(⟨18,e0,⟨0,e0⟩,⟨0,e0⟩,[]⟩:Ex)]⟩,⟨0,e0,0⟩⟩:Rg)],[],[(⟨0,2,⟨1,e0,⟨1,e0⟩,⟨1,e0⟩,[]⟩⟩:Tk)],[(⟨1,2,⟨1,e0,⟨1,e0⟩,⟨1,e0⟩,[]⟩,⟨6,e0,⟨0,e0⟩,⟨0,e0⟩,[(⟨16,e0,⟨0,e0⟩,⟨0,e0⟩,[]⟩:Ex),(⟨18,e0,⟨0,e0⟩,⟨0,e0⟩,[]⟩:Ex)]⟩⟩:Pt)]⟩:Pr)]),(4,.frz 78 5 gK a6 [(⟨(bs [105]),2,0,(-1),0⟩:Ch),(⟨(bs [111]),2,0,0,(-1)⟩:Ch)])]<|.e) Tryz.func31 rfl rfl rfl (by kernel_rfl) ?_
 refine tt ⟨⟨⟨rfl,rfl,rfl,rfl,rfl,rfl,rfl,oK⟩,⟨rfl,rfl,rfl,rfl,rfl,rfl,rfl,oK⟩,oK⟩,tt ⟨⟨⟨rfl,rfl,rfl,rfl,rfl,rfl,rfl,rfl,rfl,rfl,rfl,rfl,rfl,oK⟩,oK⟩,tt ⟨⟨⟨rfl,rfl,rfl,rfl,rfl,rfl,rfl,rfl,rfl,oK⟩,oK⟩,tt ⟨⟨⟨rfl,rfl,rfl,rfl,rfl,rfl,rfl,rfl,rfl,rfl,rfl,rfl,rfl,rfl,rfl,rfl,oK⟩,oK⟩,tt ⟨⟨⟨rfl,rfl,rfl,rfl,rfl,rfl,oK⟩,oK⟩,tt ⟨⟨⟨rfl,rfl,rfl,rfl,rfl,oK⟩,⟨rfl,rfl,rfl,rfl,rfl,oK⟩,oK⟩,tt ⟨(congrArg _ (?_:[(⟨(bs [112]),(bs [97]),[(⟨(bs [114]),2,0,⟨6,e0,⟨0,e0⟩,⟨0,e0⟩,[(⟨16,e0,⟨0,e0⟩,⟨0,e0⟩,[]⟩:Ex),(⟨18,e0,⟨0,e0⟩,⟨0,e0⟩,[]⟩:Ex)]⟩,⟨0,e0,0⟩⟩:Rg)],[],[(⟨0,2,⟨1,e0,⟨1,e0⟩,⟨1,e0⟩,[]⟩⟩:Tk)],[(⟨1,2,⟨1,e0,⟨1,e0⟩,⟨1,e0⟩,[]⟩,⟨6,e0,⟨0,e0⟩,⟨0,e0⟩,[(⟨16,e0,⟨0,e0⟩,⟨0,e0⟩,[]⟩:Ex),(⟨18,e0,⟨0,e0⟩,⟨0,e0⟩,[]⟩:Ex)]⟩⟩:Pt)]⟩:Pr)]=aH.procs)),(congrArg _ (?_:[(⟨(bs [105]),2,0,(-1),0⟩:Ch),(⟨(bs [111]),2,0,0,(-1)⟩:Ch)]=aH.chans)),oK⟩⟩⟩⟩⟩⟩⟩
 all_goals (rfl)
theorem Pe:pU (bB aH [[1,2,2],[]] 100) (⟨[[1,2,2],[1,3,1]],[3],0⟩:Rs)=true:=by unfold bB;rw[QG];decide
theorem Pf:pU (bB aH [[1,2,2],[]] 2) (⟨[[1,2,2],[1,3]],[2],0⟩:Rs)=true:=by unfold bB;rw[QH];decide
theorem Pg:pU (m5 aH [[1,2,2],[]] [bs [97],bs [97]]) (⟨[[1,2,2],[1,3]],[2],0⟩:Rs)=true:=by unfold m5;rw[QI];decide
abbrev c7:Ct:=⟨7,[],false,(dB true)⟩
theorem NL  : CC c7:=by
 refine ah.vc (V:=TT 1 (CC QU∧TT 2 (ap [[(i6 1)],[(i6 2)],[(i6 2)]] ([1,2,2].map (ae .i64))∧ap [[(LI [1,2,2])],[.nils]] ([[1,2,2],[]].map ac)∧TT 1 (ap [[(i6 1)],[(i6 2)],[(i6 2)]] ([1,2,2].map (ae .i64))∧ap [[(i6 1)],[(i6 3)],[(i6 1)]] ([1,3,1].map (ae .i64))∧ap [[(LI [1,2,2])],[(LI [1,3,1])]] ([[1,2,2],[1,3,1]].map ac)∧ap [[(i6 3)]] ([3].map (ae .i64))∧TT 3 (ap [[(i6 1)],[(i6 2)],[(i6 2)]] ([1,2,2].map (ae .i64))∧ap [[(i6 1)],[(i6 3)]] ([1,3].map (ae .i64))∧ap [[(LI [1,2,2])],[(LI [1,3])]] ([[1,2,2],[1,3]].map ac)∧ap [[(i6 2)]] ([2].map (ae .i64))∧TT 6 ((xi [] [BR,(.agg [(dL 1 ac [] [[1,2,2],[]]),(i6 100),.nils])] (BW aH [[1,2,2],[]] 100 []).as∧CC (BW aH [[1,2,2],[]] 100 []))∧TT 1 (CC (NK (bB aH [[1,2,2],[]] 100) (⟨[[1,2,2],[1,3,1]],[3],0⟩:Rs))∧TT 1 ((True∧(!(pU (bB aH [[1,2,2],[]] 100) (⟨[[1,2,2],[1,3,1]],[3],0⟩:Rs)))=false)∧TT 3 ((xi [] [BR,(.agg [(dL 1 ac [] [[1,2,2],[]]),(i6 2),.nils])] (BW aH [[1,2,2],[]] 2 []).as∧CC (BW aH [[1,2,2],[]] 2 []))∧TT 1 (CC (NK (bB aH [[1,2,2],[]] 2) (⟨[[1,2,2],[1,3]],[2],0⟩:Rs))∧TT 2 ((True∧(!(pU (bB aH [[1,2,2],[]] 2) (⟨[[1,2,2],[1,3]],[2],0⟩:Rs)))=false)∧TT 2 (ap [[(dS (bs [97]))],[(dS (bs [97]))]] ([(bs [97]),(bs [97])].map pM)∧TT 1 (CC (QS aH [[1,2,2],[]] 0 [(bs [97]),(bs [97])])∧TT 1 (CC (NK (m5 aH [[1,2,2],[]] [(bs [97]),(bs [97])]) (⟨[[1,2,2],[1,3]],[2],0⟩:Rs))∧TT 2 ((!(pU (m5 aH [[1,2,2],[]] [(bs [97]),(bs [97])]) (⟨[[1,2,2],[1,3]],[2],0⟩:Rs)))=false∧TT 1 (ap [[(i6 4)]] ([4].map (ae .i64))∧ap [[(LI [4])],[.nils]] ([[4],[]].map ac)∧TT 1 ((xi [] [BR,(.agg [(dL 1 ac [] [[4],[]]),(i6 1),.nils])] (BW aH [[4],[]] 1 []).as∧CC (BW aH [[4],[]] 1 []))∧TT 5 ((xi [] [BR,(.agg [(dL 1 ac [] [[1,2,2],[]]),(i6 101),.nils])] (BW aH [[1,2,2],[]] 101 []).as∧CC (BW aH [[1,2,2],[]] 101 []))∧TT 5 ((True∧(decide (((bB aH [[4],[]] 1).e)=1))=true)∧TT 4 ((True∧(decide (((bB aH [[1,2,2],[]] 101).e)=1))=true)∧TT 4 (CC (Jl [[1,2,2],[1,3]] [[1,2,2],[1,3,1]])∧TT 1 ((True∧(eK [[1,2,2],[1,3]] [[1,2,2],[1,3,1]])=true)∧TT 4 (CC (Jl [[1,2,2],[1,3,1]] [[1,2,2],[1,3]])∧TT 2 ((True∧(!(eK [[1,2,2],[1,3,1]] [[1,2,2],[1,3]]))=true)∧TT 2 (ap [[(i6 1)],[(i6 3)],[(i6 2)]] ([1,3,2].map (ae .i64))∧ap [[.nils],[(LI [1,3,2])]] ([[],[1,3,2]].map ac)∧CC (Pd [[1,2,2],[1,3,1]] [[],[1,3,2]])∧TT 3 ((True∧(((((O1 [[1,2,2],[1,3,1]] [[],[1,3,2]]):Nat):Int)==1)&&(((((O2 [[1,2,2],[1,3,1]] [[],[1,3,2]]):Nat):Int)==2)&&(((dX [[1,2,2],[1,3,1]] [[],[1,3,2]]).2.2)==true)))=true)∧TT 4 (CC (Pd [[1,2,2],[1,3,1]] [[1,2,2],[1,3]])∧TT 5 ((((((O1 [[1,2,2],[1,3,1]] [[1,2,2],[1,3]]):Nat):Int)==0)&&(((((O2 [[1,2,2],[1,3,1]] [[1,2,2],[1,3]]):Nat):Int)==0)&&(((dX [[1,2,2],[1,3,1]] [[1,2,2],[1,3]]).2.2)==false)))=true∧True)))))))))))))))))))))))))))) (.w 1 [(0,QU.O)]<|.w 2 [(0,.frz 3 1 (ae .i64) 0 [1,2,2]),(1,.frz 42 1 ac [] [[1,2,2],[]])]<|.w 3 [(0,.frz 3 1 (ae .i64) 0 [1,2,2]),(1,.frz 3 1 (ae .i64) 0 [1,3,1]),(2,.frz 42 1 ac [] [[1,2,2],[1,3,1]]),(3,.frz 3 1 (ae .i64) 0 [3])]<|.w 4 [(0,.frz 3 1 (ae .i64) 0 [1,2,2]),(1,.frz 3 1 (ae .i64) 0 [1,3]),(2,.frz 42 1 ac [] [[1,2,2],[1,3]]),(3,.frz 3 1 (ae .i64) 0 [2])]<|.w 5 [(3,(BW aH [[1,2,2],[]] 100 []).O'),(5,(NK (bB aH [[1,2,2],[]] 100) (⟨[[1,2,2],[1,3,1]],[3],0⟩:Rs)).O),(7,.val (dB false)),(11,(BW aH [[1,2,2],[]] 2 []).O'),(13,(NK (bB aH [[1,2,2],[]] 2) (⟨[[1,2,2],[1,3]],[2],0⟩:Rs)).O),(16,.val (dB false)),(19,.box 9 1 pM .empty [(bs [97]),(bs [97])]),(21,(QS aH [[1,2,2],[]] 0 [(bs [97]),(bs [97])]).O),(23,(NK (m5 aH [[1,2,2],[]] [(bs [97]),(bs [97])]) (⟨[[1,2,2],[1,3]],[2],0⟩:Rs)).O)]<|.u 45 (.w 7 [(1,.frz 3 1 (ae .i64) 0 [4]),(2,.frz 42 1 ac [] [[4],[]]),(4,(BW aH [[4],[]] 1 []).O')]<|.w 8 [(3,(BW aH [[1,2,2],[]] 101 []).O')]<|.w 9 [(3,.val (dB true)),(8,.val (dB true)),(13,(Jl [[1,2,2],[1,3]] [[1,2,2],[1,3,1]]).O),(15,.val (dB true)),(20,(Jl [[1,2,2],[1,3,1]] [[1,2,2],[1,3]]).O),(23,.val (dB true)),(26,.frz 3 1 (ae .i64) 0 [1,3,2]),(27,.frz 42 1 ac [] [[],[1,3,2]]),(28,(Pd [[1,2,2],[1,3,1]] [[],[1,3,2]]).O),(32,.val (dB true)),(37,(Pd [[1,2,2],[1,3,1]] [[1,2,2],[1,3]]).O)]<|.e)) Tryz.func7 rfl rfl rfl (by kernel_rfl) ?_
 refine tt ⟨(Lv),tt ⟨⟨⟨rfl,oK⟩,⟨rfl,oK⟩,⟨rfl,oK⟩,oK⟩,⟨⟨⟨rfl,oK⟩,⟨rfl,oK⟩,oK⟩,tt ⟨⟨⟨rfl,oK⟩,⟨rfl,oK⟩,⟨rfl,oK⟩,oK⟩,⟨⟨⟨rfl,oK⟩,⟨rfl,oK⟩,⟨rfl,oK⟩,oK⟩,⟨⟨⟨rfl,oK⟩,⟨rfl,oK⟩,oK⟩,⟨⟨⟨rfl,oK⟩,oK⟩,tt ⟨⟨⟨rfl,oK⟩,⟨rfl,oK⟩,⟨rfl,oK⟩,oK⟩,⟨⟨⟨rfl,oK⟩,⟨rfl,oK⟩,oK⟩,⟨⟨⟨rfl,oK⟩,⟨rfl,oK⟩,oK⟩,⟨⟨⟨rfl,oK⟩,oK⟩,tt ⟨⟨⟨⟨rfl,rfl,oK⟩,⟨rfl,rfl,rfl,oK⟩,oK⟩,(sM aH [[1,2,2],[]] 100 [] cR oA (by decide) (by decide))⟩,tt ⟨(Ao (bB aH [[1,2,2],[]] 100) (⟨[[1,2,2],[1,3,1]],[3],0⟩:Rs) (tR cR).1 (tR cR).2.1 (by decide) (ra (by decide)) (tR cR).2.2),tt ⟨(mF Pe),tt ⟨⟨⟨⟨rfl,rfl,oK⟩,⟨rfl,rfl,rfl,oK⟩,oK⟩,(sM aH [[1,2,2],[]] 2 [] cR oA (by decide) (by decide))⟩,tt ⟨(Ao (bB aH [[1,2,2],[]] 2) (⟨[[1,2,2],[1,3]],[2],0⟩:Rs) (tR cR).1 (tR cR).2.1 (by decide) (ra (by decide)) (tR cR).2.2),tt ⟨(mF Pf),tt ⟨⟨⟨rfl,oK⟩,⟨rfl,oK⟩,oK⟩,tt ⟨(Ls aH [[1,2,2],[]] 0 [(bs [97]),(bs [97])] cR oA (by decide) (by decide) (by decide)),tt ⟨(Ao (m5 aH [[1,2,2],[]] [(bs [97]),(bs [97])]) (⟨[[1,2,2],[1,3]],[2],0⟩:Rs) (DK cR).1 (DK cR).2.1 (by decide) (ra (by decide)) (DK cR).2.2),tt ⟨(Ky Pg),tt ⟨⟨⟨rfl,oK⟩,oK⟩,⟨⟨⟨rfl,oK⟩,⟨rfl,oK⟩,oK⟩,tt ⟨⟨⟨⟨rfl,rfl,oK⟩,⟨rfl,rfl,rfl,oK⟩,oK⟩,(sM aH [[4],[]] 1 [] cR oA (by decide) (by decide))⟩,tt ⟨⟨⟨⟨rfl,rfl,oK⟩,⟨rfl,rfl,rfl,oK⟩,oK⟩,(sM aH [[1,2,2],[]] 101 [] cR oA (by decide) (by decide))⟩,tt ⟨(vT QJ),tt ⟨(vT QK),tt ⟨(sB [[1,2,2],[1,3]] [[1,2,2],[1,3,1]] (by decide) (ra (by decide))),tt ⟨(bT (by decide)),tt ⟨(sB [[1,2,2],[1,3,1]] [[1,2,2],[1,3]] (by decide) (ra (by decide))),tt ⟨(mT (by decide)),tt ⟨⟨⟨rfl,oK⟩,⟨rfl,oK⟩,⟨rfl,oK⟩,oK⟩,⟨⟨⟨rfl,oK⟩,⟨rfl,oK⟩,oK⟩,⟨(FE [[1,2,2],[1,3,1]] [[],[1,3,2]] (by decide) (ra (by decide))),tt ⟨(bT (by decide)),tt ⟨(FE [[1,2,2],[1,3,1]] [[1,2,2],[1,3]] (by decide) (ra (by decide))),tt ⟨?_,oK⟩⟩⟩⟩⟩⟩⟩⟩⟩⟩⟩⟩⟩⟩⟩⟩⟩⟩⟩⟩⟩⟩⟩⟩⟩⟩⟩⟩⟩⟩⟩⟩⟩⟩⟩⟩⟩
 decide
end Go.Proofs.YtckgpflobhpnpaaGreat
