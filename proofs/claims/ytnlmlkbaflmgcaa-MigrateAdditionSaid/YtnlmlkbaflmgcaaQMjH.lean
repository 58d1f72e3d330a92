/- Parts of a proof. -/
import Derived.Test.YtnlmlkbaflmgcaaQNeE
namespace Go.Proofs.Ytnlmlkbaflmgcaa
open Go.RowKit
set_option linter.unusedVariables false
set_option linter.unusedSimpArgs false
abbrev JF (o:Ci) (s:Ns) (n:Ci) (i:Nat):ax:=(.var 124 [(dS (((ai bt (bv o s o.U.length) ((n.U.getD i ac).name)).p).name)),(dS (((ai bt (bv o s o.U.length) ((n.U.getD i ac).name)).p).clock)),(dL 13 bG aK (((ai bt (bv o s o.U.length) ((n.U.getD i ac).name)).p).Pe)),(dL 27 bS aA (((ai bt (bv o s o.U.length) ((n.U.getD i ac).name)).p).Pd)),(dL 9 dU bV (((ai bt (bv o s o.U.length) ((n.U.getD i ac).name)).p).I)),(dL 16 dT b4 (((ai bt (bv o s o.U.length) ((n.U.getD i ac).name)).p).Pc)),(LI (((ai bt (bv o s o.U.length) ((n.U.getD i ac).name)).s).Pe)),(dL 1 af [] (((ai bt (bv o s o.U.length) ((n.U.getD i ac).name)).s).Pd)),(.v (.sm false (aa .i64) 0 ((ai bt (bv o s o.U.length) ((n.U.getD i ac).name)).Pe))),(.v (.sm false (aa .i64) 0 ((ai bt (bv o s o.U.length) ((n.U.getD i ac).name)).Pd)))])
abbrev JG (n:Ci) (i:Nat):ax:=(.var 80 [(dS ((n.U.getD i ac).name)),(dS ((n.U.getD i ac).clock)),(dL 13 bG aK ((n.U.getD i ac).Pe)),(dL 27 bS aA ((n.U.getD i ac).Pd)),(dL 9 dU bV ((n.U.getD i ac).I)),(dL 16 dT b4 ((n.U.getD i ac).Pc))])
abbrev yZ (s:Ns):ax:=(.var 35 [(dL 2 bo a8 s.U),(dL 1 af [] s.J)])
abbrev y7 (o:Ci):ax:=(.var 31 [(dL 6 bp ac o.U),(dL 5 bP aF o.J)])
abbrev y8 (n:Ci):ax:=(.var 31 [(dL 6 bp ac n.U),(dL 5 bP aF n.J)])
abbrev vV (o n:Ci):D:=(dL 1 dk .empty (bc o n o.J.length))
set_option maxRecDepth 100000
abbrev NM (l:List ByteArray) (b:ByteArray):Ct:=⟨84,[(dL 1 dk .empty l),(dS b)],false,(i6 (LW l b))⟩
abbrev xr (l:List ByteArray) (b:ByteArray):Lp (Nat):=iC [0,1,7,8] 0 (fun (i:Nat)=>⟨[(0,(dL 1 dk .empty l)),(1,(dS b)),(7,(i6 (l.length:Int))),(8,(i6 (i:Int)))],[]⟩) (fun (i:Nat)=>i≤l.length∧∀z,z<i→(b.toList==(l.getD z .empty).toList)=false) (fun (i:Nat)=>l.length-i)
theorem KP (l:List ByteArray) (b:ByteArray) (hl:l.length≤9223372036854775807):CC (NM l b):=by
 refine aq.vc (V:=TT 4 (GO (xr l b) 0 (∀i,(xr l b).inv i→TT 1 (CD ((i:Int)<(l.length:Int)) (TT 5 (IX (i:Int) l.length∧TT 2 (CB (b.toList==(l.getD i .empty).toList) (TT 3 ((i:Int)=(LW l b)∧True)) (W6 ((i+1:Nat):Int)∧TT 1 (AG (xr l b) i (i+1)))))) (TT 2 ((-1)=(LW l b)∧True)))))) (.l (xr l b) 0 (fun i=>.b 9 (.b 16 (.e) (.w 6 [(0,.val (i6 ((i+1:Nat):Int)))]<|.e)) (.e))) Try.func84 rfl rfl rfl (by kernel_rfl) ?_
 refine tt ⟨rfl,⟨by omega,fun z hz=>by omega⟩,?_⟩
 intro i F'
 obtain⟨hi,h3⟩:=F'
 refine tt (cd (fun WS=>?_) (fun WS=>?_))
 · refine tt ⟨ix,tt ⟨fun SP=>?_,fun SP=>?_⟩⟩
   · refine tt ⟨?_,oK⟩
     first | exact(dZ (f:=fun i=>b.toList==(l.getD i .empty).toList) SP h3 (by omega)).symm | exact(fX (f:=fun i=>b.toList==(l.getD i .empty).toList) (fun z hz=>h3 z (by omega))).symm
   · refine⟨w6,tt ⟨(i+1),rfl,?_,(?_:l.length-(i+1)<l.length-i)⟩⟩
     · exact⟨by omega,bh h3 SP⟩
     · omega
 · refine tt ⟨?_,oK⟩
   first | exact(dZ (f:=fun i=>b.toList==(l.getD i .empty).toList) SP h3 (by omega)).symm | exact(fX (f:=fun i=>b.toList==(l.getD i .empty).toList) (fun z hz=>h3 z (by omega))).symm
abbrev NN (l:List ByteArray) (b:ByteArray):Ct:=⟨62,[(dL 1 dk .empty l),(dS b)],false,(dB (Ej l b))⟩
theorem KQ (l:List ByteArray) (b:ByteArray) (hl:l.length≤9223372036854775807):CC (NN l b):=by
 refine aq.vc (V:=TT 3 (CC (NM l b)∧TT 3 ((decide ((LW l b)≥0))=(Ej l b)∧True))) (.w 1 [(2,(NM l b).O)]<|.e) Try.func62 rfl rfl rfl (by kernel_rfl) ?_
 refine tt ⟨(KP l b om),tt ⟨?_,oK⟩⟩
 first | exact B3 l b | (rw[← B3];rfl)
abbrev NO (o n:Ci) (s:Ns):Ct:=⟨33,[(.agg [(dL 6 bp ac o.U),(dL 5 bP aF o.J)]),(.agg [(dL 6 bp ac n.U),(dL 5 bP aF n.J)]),(.agg [(dL 2 bo a8 s.U),(dL 1 af [] s.J)])],true,(.tup [(.agg [(dL 2 bo a8 (((ae o n s).1).U)),(dL 1 af [] (((ae o n s).1).J))]),(i6 ((ae o n s).2))])⟩
abbrev kF (o:Ci) (n:Ci) (s:Ns):Lp (Nat):=iC [3,4,5,6,8,9,32,33,34] 11 (fun (q:Nat)=>⟨[(3,(.ptr 0 0 0 0)),(4,(.ptr 1 0 0 0)),(5,(.ptr 2 0 0 0)),(6,(.ptr 3 0 0 0)),(8,(vV o n)),(9,(.v (.sm false (aa .i64) 0 (b9 [] (bq o) o.J.length)))),(32,(vV o n)),(33,(i6 (((bc o n o.J.length).length:Nat):Int))),(34,(i6 (q:Int)))],[(y7 o),(y8 n),(yZ s),(.var 35 [.nils,.nils]),.dead,.dead,.dead,.dead,.dead,.dead,.dead]⟩) (fun (q:Nat)=>q≤(bc o n o.J.length).length∧∀z,z<q→gg o n s z=false) (fun (q:Nat)=>(bc o n o.J.length).length-q)
abbrev kG (o:Ci) (n:Ci) (s:Ns):Lp (Nat):=iC [4,5,6,8,9,12,13,53,54,55] 13 (fun (i:Nat)=>⟨[(4,(.ptr 1 0 0 0)),(5,(.ptr 2 0 0 0)),(6,(.ptr 3 0 0 0)),(8,(vV o n)),(9,(.v (.sm false (aa .i64) 0 (b9 [] (bq o) o.J.length)))),(12,(.ptr 11 0 0 0)),(13,(.v (.sm true lN bt (bv o s o.U.length)))),(53,(dL 6 bp ac n.U)),(54,(i6 (n.U.length:Int))),(55,(i6 (i:Int)))],[(y7 o),(y8 n),(yZ s),(.var 35 [.nils,.nils]),.dead,.dead,.dead,.dead,.dead,.dead,.dead,(.var 35 [(.own 12),.nils]),(.arr 74 2 bo a8 (tab (eu o n s) i))]⟩) (fun (i:Nat)=>i≤n.U.length) (fun (i:Nat)=>n.U.length-i)
abbrev kH (o:Ci) (n:Ci) (s:Ns) (i:Nat):Lp (Nat):=iC [4,5,6,8,9,12,13,15,16,17,53,54,55,64,65,66] 18 (fun (j:Nat)=>⟨[(4,(.ptr 1 0 0 0)),(5,(.ptr 2 0 0 0)),(6,(.ptr 3 0 0 0)),(8,(vV o n)),(9,(.v (.sm false (aa .i64) 0 (b9 [] (bq o) o.J.length)))),(12,(.ptr 11 0 0 0)),(13,(.v (.sm true lN bt (bv o s o.U.length)))),(15,(.ptr 13 0 0 0)),(16,(.ptr 14 0 0 0)),(17,(.ptr 15 0 0 0)),(53,(dL 6 bp ac n.U)),(54,(i6 (n.U.length:Int))),(55,(i6 (i:Int))),(64,(dL 13 bG aK ((n.U.getD i ac).Pe))),(65,(i6 ((((n.U.getD i ac).Pe).length:Nat):Int))),(66,(i6 (j:Int)))],[(y7 o),(y8 n),(yZ s),(.var 35 [.nils,.nils]),.dead,.dead,.dead,.dead,.dead,.dead,.dead,(.var 35 [(.own 12),.nils]),(.arr 74 2 bo a8 (tab (eu o n s) i)),(JG n i),(.var 74 [(.own 16),(.own 17)]),(JF o s n i),(.arr 3 1 (aa .i64) 0 (tab (fun j=>eI (ai bt (bv o s o.U.length) (n.U.getD i ac).name) ((n.U.getD i ac).Pe.getD j aK)) j)),(.arr 54 1 af [] [])]⟩) (fun (j:Nat)=>j≤(n.U.getD i ac).Pe.length) (fun (j:Nat)=>(n.U.getD i ac).Pe.length-j)
abbrev kI (o:Ci) (n:Ci) (s:Ns) (i:Nat) (j:Nat):Lp (Nat):=iC [4,5,6,8,9,12,13,16,17,53,54,55,80,81,82] 18 (fun (k:Nat)=>⟨[(4,(.ptr 1 0 0 0)),(5,(.ptr 2 0 0 0)),(6,(.ptr 3 0 0 0)),(8,(vV o n)),(9,(.v (.sm false (aa .i64) 0 (b9 [] (bq o) o.J.length)))),(12,(.ptr 11 0 0 0)),(13,(.v (.sm true lN bt (bv o s o.U.length)))),(16,(.ptr 14 0 0 0)),(17,(.ptr 15 0 0 0)),(53,(dL 6 bp ac n.U)),(54,(i6 (n.U.length:Int))),(55,(i6 (i:Int))),(80,(dL 27 bS aA ((n.U.getD i ac).Pd))),(81,(i6 ((((n.U.getD i ac).Pd).length:Nat):Int))),(82,(i6 (k:Int)))],[(y7 o),(y8 n),(yZ s),(.var 35 [.nils,.nils]),.dead,.dead,.dead,.dead,.dead,.dead,.dead,(.var 35 [(.own 12),.nils]),(.arr 74 2 bo a8 (tab (eu o n s) i)),(JG n i),(.var 74 [(.own 16),(.own 17)]),(JF o s n i),(.arr 3 1 (aa .i64) 0 (tab (fun j=>eI (ai bt (bv o s o.U.length) (n.U.getD i ac).name) ((n.U.getD i ac).Pe.getD j aK)) j)),(.arr 54 1 af [] (tab (fun j=>fG (ai bt (bv o s o.U.length) (n.U.getD i ac).name) ((n.U.getD i ac).Pd.getD j aA)) k))]⟩) (fun (k:Nat)=>k≤(n.U.getD i ac).Pd.length) (fun (k:Nat)=>(n.U.getD i ac).Pd.length-k)
abbrev dp (o:Ci) (n:Ci) (s:Ns) (i:Nat):Lp (Nat):=iC [5,6,8,9,12,103,104,105] 14 (fun (m:Nat)=>⟨[(5,(.ptr 2 0 0 0)),(6,(.ptr 3 0 0 0)),(8,(vV o n)),(9,(.v (.sm false (aa .i64) 0 (b9 [] (bq o) o.J.length)))),(12,(.ptr 11 0 0 0)),(103,(dL 5 bP aF n.J)),(104,(i6 (n.J.length:Int))),(105,(i6 (m:Int)))],[(y7 o),(y8 n),(yZ s),(.var 35 [.nils,.nils]),.dead,.dead,.dead,.dead,.dead,.dead,.dead,(.var 35 [(.own 12),(.own 13)]),(.arr 74 2 bo a8 (tab (eu o n s) i)),(.arr 54 1 af [] (tab (cS o n s) m))]⟩) (fun (m:Nat)=>m≤n.J.length∧∀z,z<m→cg o n s z=false) (fun (m:Nat)=>n.J.length-m)
theorem IH (o n:Ci) (s:Ns) (h:lP o n s):CC (NO o n s):=by
 have hol:=h.ol
 have Sh:=h.nl
 have Sz:=h.op
 have hnp:=h.np
 have hsl:=h.sl
 have hsc:=h.sc
 have hgl:(bc o n o.J.length).length≤o.J.length:=FX o n
 refine aq.vc (V:=TT 7 (CC (JE o n)∧TT 1 (CC (KK o)∧TT 5 (GO (kF o n s) 0 (∀q,(kF o n s).inv q→TT 1 (CD ((q:Int)<(((bc o n o.J.length).length:Nat):Int)) (IX (q:Int) ((bc o n o.J.length).length)∧TT 6 (((cA (i6 0) (fF false ((aa .i64) 0)))∧(false=false→∀p∈(b9 [] (bq o) o.J.length),((aa .i64) p.2).length=1))∧IX (ai 0 (b9 [] (bq o) o.J.length) ((bc o n o.J.length).getD q .empty)) s.J.length∧TT 3 (CD ((((s.J.getD ((ai 0 (b9 [] (bq o) o.J.length) ((bc o n o.J.length).getD q .empty)).toNat) []).length:Nat):Int)>0) (TT 5 (((((ae o n s).1).U)=[]∧(((ae o n s).1).J)=[]∧True)∧(150:Int)=((ae o n s).2)∧True)) (W6 ((q+1:Nat):Int)∧TT 1 (AG (kF o n s) q (q+1)))))) (TT 3 (CC (NC o s)∧TT 5 (GO (kG o n s) 0 (∀i,(kG o n s).inv i→TT 1 (CD ((i:Int)<(n.U.length:Int)) (IX (i:Int) n.U.length∧TT 7 (((cA (.agg [(dS e0),(dS e0),.nils,.nils,.nils,.nils,.nils,.nils,(.v .nmp),(.v .nmp)]) (fF true (lN bt)))∧(true=false→∀p∈(bv o s o.U.length),(lN p.2).length=1))∧TT 6 (GO (kH o n s i) 0 (∀j,(kH o n s i).inv j→TT 1 (CD ((j:Int)<((((n.U.getD i ac).Pe).length:Nat):Int)) (IX (j:Int) (((n.U.getD i ac).Pe).length)∧TT 7 (CC (NG (ai bt (bv o s o.U.length) ((n.U.getD i ac).name)) (((n.U.getD i ac).Pe).getD j aK))∧an [[(i6 (eI (ai bt (bv o s o.U.length) ((n.U.getD i ac).name)) (((n.U.getD i ac).Pe).getD j aK)))]] ([eI (ai bt (bv o s o.U.length) ((n.U.getD i ac).name)) (((n.U.getD i ac).Pe).getD j aK)].map (aa .i64))∧((tab (fun j=>eI (ai bt (bv o s o.U.length) (n.U.getD i ac).name) ((n.U.getD i ac).Pe.getD j aK)) j).length+([eI (ai bt (bv o s o.U.length) ((n.U.getD i ac).name)) (((n.U.getD i ac).Pe).getD j aK)].map (aa .i64)).length≤137438953472∧(tab (fun j=>eI (ai bt (bv o s o.U.length) (n.U.getD i ac).name) ((n.U.getD i ac).Pe.getD j aK)) j).map (aa .i64)++[eI (ai bt (bv o s o.U.length) ((n.U.getD i ac).name)) (((n.U.getD i ac).Pe).getD j aK)].map (aa .i64)=(tab (fun j=>eI (ai bt (bv o s o.U.length) (n.U.getD i ac).name) ((n.U.getD i ac).Pe.getD j aK)) (j+1)).map (aa .i64))∧TT 2 (W6 ((j+1:Nat):Int)∧TT 1 (AG (kH o n s i) j (j+1))))) (TT 4 (GO (kI o n s i j) 0 (∀k,(kI o n s i j).inv k→TT 1 (CD ((k:Int)<((((n.U.getD i ac).Pd).length:Nat):Int)) (IX (k:Int) (((n.U.getD i ac).Pd).length)∧TT 7 (CC (NH (ai bt (bv o s o.U.length) ((n.U.getD i ac).name)) (((n.U.getD i ac).Pd).getD k aA))∧an [[(LI (fG (ai bt (bv o s o.U.length) ((n.U.getD i ac).name)) (((n.U.getD i ac).Pd).getD k aA)))]] ([fG (ai bt (bv o s o.U.length) ((n.U.getD i ac).name)) (((n.U.getD i ac).Pd).getD k aA)].map af)∧((tab (fun j=>fG (ai bt (bv o s o.U.length) (n.U.getD i ac).name) ((n.U.getD i ac).Pd.getD j aA)) k).length+([fG (ai bt (bv o s o.U.length) ((n.U.getD i ac).name)) (((n.U.getD i ac).Pd).getD k aA)].map af).length≤137438953472∧(tab (fun j=>fG (ai bt (bv o s o.U.length) (n.U.getD i ac).name) ((n.U.getD i ac).Pd.getD j aA)) k).map af++[fG (ai bt (bv o s o.U.length) ((n.U.getD i ac).name)) (((n.U.getD i ac).Pd).getD k aA)].map af=(tab (fun j=>fG (ai bt (bv o s o.U.length) (n.U.getD i ac).name) ((n.U.getD i ac).Pd.getD j aA)) (k+1)).map af)∧TT 2 (W6 ((k+1:Nat):Int)∧TT 1 (AG (kI o n s i j) k (k+1))))) (TT 3 (an [[(LI (tab (fun j=>eI (ai bt (bv o s o.U.length) (n.U.getD i ac).name) ((n.U.getD i ac).Pe.getD j aK)) j)),(dL 1 af [] (tab (fun j=>fG (ai bt (bv o s o.U.length) (n.U.getD i ac).name) ((n.U.getD i ac).Pd.getD j aA)) k))]] ([(⟨tab (fun j=>eI (ai bt (bv o s o.U.length) (n.U.getD i ac).name) ((n.U.getD i ac).Pe.getD j aK)) j,tab (fun j=>fG (ai bt (bv o s o.U.length) (n.U.getD i ac).name) ((n.U.getD i ac).Pd.getD j aA)) k⟩:Ps)].map bo)∧((tab (eu o n s) i).length+([(⟨tab (fun j=>eI (ai bt (bv o s o.U.length) (n.U.getD i ac).name) ((n.U.getD i ac).Pe.getD j aK)) j,tab (fun j=>fG (ai bt (bv o s o.U.length) (n.U.getD i ac).name) ((n.U.getD i ac).Pd.getD j aA)) k⟩:Ps)].map bo).length≤137438953472∧(tab (eu o n s) i).map bo++[(⟨tab (fun j=>eI (ai bt (bv o s o.U.length) (n.U.getD i ac).name) ((n.U.getD i ac).Pe.getD j aK)) j,tab (fun j=>fG (ai bt (bv o s o.U.length) (n.U.getD i ac).name) ((n.U.getD i ac).Pd.getD j aA)) k⟩:Ps)].map bo=(tab (eu o n s) (i+1)).map bo)∧TT 2 (W6 ((i+1:Nat):Int)∧TT 1 (AG (kG o n s) i (i+1)))))))))))))) (TT 4 (GO (dp o n s i) 0 (∀m,(dp o n s i).inv m→TT 1 (CD ((m:Int)<(n.J.length:Int)) (IX (m:Int) n.J.length∧TT 7 (((cA (i6 0) (fF false ((aa .i64) 0)))∧(false=false→∀p∈(b9 [] (bq o) o.J.length),((aa .i64) p.2).length=1))∧TT 5 (CS ((aX (b9 [] (bq o) o.J.length) ((n.J.getD m aF).name))=true) (TT 1 ((True∧(aX (b9 [] (bq o) o.J.length) ((n.J.getD m aF).name))=true)∧TT 3 (CC (NN (bc o n o.J.length) ((n.J.getD m aF).name))∧TT 2 (CB (!(Ej (bc o n o.J.length) ((n.J.getD m aF).name))) (TT 3 (IX (ai 0 (b9 [] (bq o) o.J.length) ((n.J.getD m aF).name)) s.J.length∧TT 1 (CO (NL (s.J.getD ((ai 0 (b9 [] (bq o) o.J.length) ((n.J.getD m aF).name)).toNat) []))∧TT 1 (CS (((n.J.getD m aF).cap)>0) (TT 3 ((True∧(decide (((n.J.getD m aF).cap)>0))=true)∧TT 6 (CD ((((s.J.getD ((ai 0 (b9 [] (bq o) o.J.length) ((n.J.getD m aF).name)).toNat) []).length:Nat):Int)>((n.J.getD m aF).cap)) (TT 5 (((((ae o n s).1).U)=[]∧(((ae o n s).1).J)=[]∧True)∧(150:Int)=((ae o n s).2)∧True)) (TT 3 (an [[(LI (s.J.getD ((ai 0 (b9 [] (bq o) o.J.length) ((n.J.getD m aF).name)).toNat) []))]] ([(s.J.getD ((ai 0 (b9 [] (bq o) o.J.length) ((n.J.getD m aF).name)).toNat) [])].map af)∧((tab (cS o n s) m).length+([(s.J.getD ((ai 0 (b9 [] (bq o) o.J.length) ((n.J.getD m aF).name)).toNat) [])].map af).length≤137438953472∧(tab (cS o n s) m).map af++[(s.J.getD ((ai 0 (b9 [] (bq o) o.J.length) ((n.J.getD m aF).name)).toNat) [])].map af=(tab (cS o n s) (m+1)).map af)∧TT 2 (W6 ((m+1:Nat):Int)∧TT 1 (AG (dp o n s i) m (m+1)))))))) (TT 3 ((True∧(decide (((n.J.getD m aF).cap)>0))=false)∧TT 9 (an [[(LI (s.J.getD ((ai 0 (b9 [] (bq o) o.J.length) ((n.J.getD m aF).name)).toNat) []))]] ([(s.J.getD ((ai 0 (b9 [] (bq o) o.J.length) ((n.J.getD m aF).name)).toNat) [])].map af)∧((tab (cS o n s) m).length+([(s.J.getD ((ai 0 (b9 [] (bq o) o.J.length) ((n.J.getD m aF).name)).toNat) [])].map af).length≤137438953472∧(tab (cS o n s) m).map af++[(s.J.getD ((ai 0 (b9 [] (bq o) o.J.length) ((n.J.getD m aF).name)).toNat) [])].map af=(tab (cS o n s) (m+1)).map af)∧TT 2 (W6 ((m+1:Nat):Int)∧TT 1 (AG (dp o n s i) m (m+1)))))))))) (CS (((n.J.getD m aF).cap)>0) (TT 3 ((True∧(decide (((n.J.getD m aF).cap)>0))=true)∧TT 6 (CD ((0:Int)>((n.J.getD m aF).cap)) (TT 5 (((((ae o n s).1).U)=[]∧(((ae o n s).1).J)=[]∧True)∧(150:Int)=((ae o n s).2)∧True)) (TT 3 (an [[.nils]] ([[]].map af)∧((tab (cS o n s) m).length+([[]].map af).length≤137438953472∧(tab (cS o n s) m).map af++[[]].map af=(tab (cS o n s) (m+1)).map af)∧TT 2 (W6 ((m+1:Nat):Int)∧TT 1 (AG (dp o n s i) m (m+1)))))))) (TT 3 ((True∧(decide (((n.J.getD m aF).cap)>0))=false)∧TT 9 (an [[.nils]] ([[]].map af)∧((tab (cS o n s) m).length+([[]].map af).length≤137438953472∧(tab (cS o n s) m).map af++[[]].map af=(tab (cS o n s) (m+1)).map af)∧TT 2 (W6 ((m+1:Nat):Int)∧TT 1 (AG (dp o n s i) m (m+1))))))))))) (TT 1 ((True∧(aX (b9 [] (bq o) o.J.length) ((n.J.getD m aF).name))=false)∧TT 6 (CS (((n.J.getD m aF).cap)>0) (TT 3 ((True∧(decide (((n.J.getD m aF).cap)>0))=true)∧TT 6 (CD ((0:Int)>((n.J.getD m aF).cap)) (TT 5 (((((ae o n s).1).U)=[]∧(((ae o n s).1).J)=[]∧True)∧(150:Int)=((ae o n s).2)∧True)) (TT 3 (an [[.nils]] ([[]].map af)∧((tab (cS o n s) m).length+([[]].map af).length≤137438953472∧(tab (cS o n s) m).map af++[[]].map af=(tab (cS o n s) (m+1)).map af)∧TT 2 (W6 ((m+1:Nat):Int)∧TT 1 (AG (dp o n s i) m (m+1)))))))) (TT 3 ((True∧(decide (((n.J.getD m aF).cap)>0))=false)∧TT 9 (an [[.nils]] ([[]].map af)∧((tab (cS o n s) m).length+([[]].map af).length≤137438953472∧(tab (cS o n s) m).map af++[[]].map af=(tab (cS o n s) (m+1)).map af)∧TT 2 (W6 ((m+1:Nat):Int)∧TT 1 (AG (dp o n s i) m (m+1)))))))))))) (TT 5 (((tab (eu o n s) i).map bo=(((ae o n s).1).U).map bo∧(tab (cS o n s) m).map af=(((ae o n s).1).J).map af∧True)∧(0:Int)=((ae o n s).2)∧True))))))))))))))))) (.w 1 [(2,(JE o n).O),(4,(KK o).O)]<|.l (kF o n s) 0 (fun q=>.b 35 (.b 46 (.e) (.w 7 [(0,.val (i6 ((q+1:Nat):Int)))]<|.e)) (.w 9 [(2,(NC o s).O)]<|.g 10 11 0 74 2 bo a8<|.l (kG o n s) 0 (fun i=>.b 56 (.g 15 14 0 3 1 (aa .i64) 0<|.g 15 14 1 54 1 af []<|.l (kH o n s i) 0 (fun j=>.b 67 (.w 18 [(4,(NG (ai bt (bv o s o.U.length) ((n.U.getD i ac).name)) (((n.U.getD i ac).Pe).getD j aK)).O),(5,.box 3 1 (aa .i64) 0 [eI (ai bt (bv o s o.U.length) ((n.U.getD i ac).name)) (((n.U.getD i ac).Pe).getD j aK)]),(6,.box 3 1 (aa .i64) 0 (tab (fun j=>eI (ai bt (bv o s o.U.length) (n.U.getD i ac).name) ((n.U.getD i ac).Pe.getD j aK)) (j+1)))]<|.w 19 [(0,.val (i6 ((j+1:Nat):Int)))]<|.e) (.l (kI o n s i j) 0 (fun k=>.b 83 (.w 23 [(4,(NH (ai bt (bv o s o.U.length) ((n.U.getD i ac).name)) (((n.U.getD i ac).Pd).getD k aA)).O),(5,.box 54 1 af [] [fG (ai bt (bv o s o.U.length) ((n.U.getD i ac).name)) (((n.U.getD i ac).Pd).getD k aA)]),(6,.box 54 1 af [] (tab (fun j=>fG (ai bt (bv o s o.U.length) (n.U.getD i ac).name) ((n.U.getD i ac).Pd.getD j aA)) (k+1)))]<|.w 24 [(0,.val (i6 ((k+1:Nat):Int)))]<|.e) (.f 25 16<|.f 25 17<|.w 25 [(3,.box 74 2 bo a8 [(⟨tab (fun j=>eI (ai bt (bv o s o.U.length) (n.U.getD i ac).name) ((n.U.getD i ac).Pe.getD j aK)) j,tab (fun j=>fG (ai bt (bv o s o.U.length) (n.U.getD i ac).name) ((n.U.getD i ac).Pd.getD j aA)) k⟩:Ps)]),(4,.box 74 2 bo a8 (tab (eu o n s) (i+1)))]<|.w 26 [(0,.val (i6 ((i+1:Nat):Int)))]<|.e))))) (.g 27 11 1 54 1 af []<|.l (dp o n s i) 0 (fun m=>.b 106 (.s 32 ((aX (b9 [] (bq o) o.J.length) ((n.J.getD m aF).name))=true) (.w 32 [(1,.val (dB true)),(5,(NN (bc o n o.J.length) ((n.J.getD m aF).name)).O)]<|.b 123 (.w 33 [(5,(NL (s.J.getD ((ai 0 (b9 [] (bq o) o.J.length) ((n.J.getD m aF).name)).toNat) [])).O)]<|.s 34 (((n.J.getD m aF).cap)>0) (.w 34 [(3,.val (dB true))]<|.b 139 (.e) (.f 36 15<|.w 36 [(3,.box 54 1 af [] [(s.J.getD ((ai 0 (b9 [] (bq o) o.J.length) ((n.J.getD m aF).name)).toNat) [])]),(4,.box 54 1 af [] (tab (cS o n s) (m+1)))]<|.w 37 [(0,.val (i6 ((m+1:Nat):Int)))]<|.e)) (.w 34 [(3,.val (dB false))]<|.f 36 15<|.w 36 [(3,.box 54 1 af [] [(s.J.getD ((ai 0 (b9 [] (bq o) o.J.length) ((n.J.getD m aF).name)).toNat) [])]),(4,.box 54 1 af [] (tab (cS o n s) (m+1)))]<|.w 37 [(0,.val (i6 ((m+1:Nat):Int)))]<|.e)) (.s 34 (((n.J.getD m aF).cap)>0) (.w 34 [(3,.val (dB true))]<|.b 139 (.e) (.w 36 [(3,.box 54 1 af [] [[]]),(4,.box 54 1 af [] (tab (cS o n s) (m+1)))]<|.w 37 [(0,.val (i6 ((m+1:Nat):Int)))]<|.e)) (.w 34 [(3,.val (dB false))]<|.w 36 [(3,.box 54 1 af [] [[]]),(4,.box 54 1 af [] (tab (cS o n s) (m+1)))]<|.w 37 [(0,.val (i6 ((m+1:Nat):Int)))]<|.e))) (.w 32 [(1,.val (dB false))]<|.s 34 (((n.J.getD m aF).cap)>0) (.w 34 [(3,.val (dB true))]<|.b 139 (.e) (.w 36 [(3,.box 54 1 af [] [[]]),(4,.box 54 1 af [] (tab (cS o n s) (m+1)))]<|.w 37 [(0,.val (i6 ((m+1:Nat):Int)))]<|.e)) (.w 34 [(3,.val (dB false))]<|.w 36 [(3,.box 54 1 af [] [[]]),(4,.box 54 1 af [] (tab (cS o n s) (m+1)))]<|.w 37 [(0,.val (i6 ((m+1:Nat):Int)))]<|.e))) (.e))))))) Try.func33 rfl rfl rfl (by kernel_rfl) ?_
 refine tt ⟨(qN o n hol Sh),tt ⟨(oV o (by omega)),tt ⟨rfl,⟨by omega,fun z hz=>by omega⟩,?_⟩⟩⟩
 intro q F'
 obtain⟨hq,hgb⟩:=F'
 refine tt (cd (fun RX=>?_) (fun RX=>?_))
 · refine⟨ix,?_⟩
   have Vp:=Jn (f:=bq o) (k:=(bc o n o.J.length).getD q .empty) o.J.length (by omega)
   refine tt ⟨⟨(cA.refl _),(fun _ _ _=>rfl)⟩,⟨ix,tt (cd (fun SB=>?_) (fun SB=>?_))⟩⟩
   · have VF:0<(s.J.getD (ai 0 (b9 [] (bq o) o.J.length) ((bc o n o.J.length).getD q .empty)).toNat []).length:=by omega
     have To:ae o n s=(⟨[],[]⟩,150):=Ar (k:=q) (by show q<(bc o n o.J.length).length;omega) (Pq VF)
     refine tt ⟨⟨?_,?_,oK⟩,?_,oK⟩
     all_goals (all_goals (first | (rw[To];done) | (rw[To]) | (rw[RH,SK];done) | (rw[RH,T6];done) | (rw[RH];done) | (rw[RH,SK]) | (rw[RH,T6]) | (rw[RH])))
   · have Uu:¬0<(s.J.getD (ai 0 (b9 [] (bq o) o.J.length) ((bc o n o.J.length).getD q .empty)).toNat []).length:=by omega
     refine⟨w6,tt ⟨(q+1),rfl,?_,(?_:(bc o n o.J.length).length-(q+1)<(bc o n o.J.length).length-q)⟩⟩
     · exact⟨by omega,bh hgb (Pv Uu)⟩
     · omega
 · have Vr:∀z,z<(eZ o n).length→gg o n s z=false:=fun z hz=>hgb z (by have:(eZ o n).length=(bc o n o.J.length).length:=rfl;omega)
   refine tt ⟨(D5 o s (by omega) hsl (fun i hi=>by have:=h.orr i hi;omega)),tt ⟨rfl,(by omega),?_⟩⟩
   intro i F'
   have hi:=F'
   refine tt (cd (fun hc56=>?_) (fun hc56=>?_))
   · refine⟨ix,tt ⟨⟨FR,(fun h=>Bool.noConfusion h)⟩,?_⟩⟩
     have hnr:=h.nr i (by omega)
     have hFr:=FV h.sr (n.U.getD i ac).name
     have hFm:=FW h.sm (n.U.getD i ac).name
     refine tt ⟨rfl,(by omega),?_⟩
     intro j F'
     have hj:=F'
     refine tt (cd (fun Wb=>?_) (fun Wb=>?_))
     · refine⟨ix,?_⟩
       have UH:=h.rk i (by omega) j (by omega)
       refine tt ⟨(KN (ai bt (bv o s o.U.length) ((n.U.getD i ac).name)) (((n.U.getD i ac).Pe).getD j aK) UH (hFr _)),⟨⟨⟨rfl,oK⟩,oK⟩,⟨(aY (by omega) rfl),tt ⟨w6,tt ⟨(j+1),rfl,(?_:(j+1)≤(n.U.getD i ac).Pe.length),(?_:(n.U.getD i ac).Pe.length-(j+1)<(n.U.getD i ac).Pe.length-j)⟩⟩⟩⟩⟩
       · omega
       · omega
     · have Wv:j=(n.U.getD i ac).Pe.length:=by omega
       refine tt ⟨rfl,(by omega),?_⟩
       intro k F'
       have hk:=F'
       refine tt (cd (fun UY=>?_) (fun UY=>?_))
       · refine⟨ix,?_⟩
         have Vl:=h.mk' i (by omega) k (by omega)
         refine tt ⟨(KO (ai bt (bv o s o.U.length) ((n.U.getD i ac).name)) (((n.U.getD i ac).Pd).getD k aA) Vl.1 Vl.2 (hFm _)),⟨⟨⟨rfl,oK⟩,oK⟩,⟨(aY (by omega) rfl),tt ⟨w6,tt ⟨(k+1),rfl,(?_:(k+1)≤(n.U.getD i ac).Pd.length),(?_:(n.U.getD i ac).Pd.length-(k+1)<(n.U.getD i ac).Pd.length-k)⟩⟩⟩⟩⟩
         · omega
         · omega
       · have S6:k=(n.U.getD i ac).Pd.length:=by omega
         refine tt ⟨⟨⟨rfl,rfl,oK⟩,oK⟩,⟨(aY (by omega) (by rw[Wv,S6];rfl)),tt ⟨w6,tt ⟨(i+1),rfl,(?_:(i+1)≤n.U.length),(?_:n.U.length-(i+1)<n.U.length-i)⟩⟩⟩⟩
         · omega
         · omega
   · have SK:i=n.U.length:=by omega
     refine tt ⟨rfl,⟨by omega,fun z hz=>by omega⟩,?_⟩
     intro m F'
     obtain⟨hm,WT⟩:=F'
     refine tt (cd (fun Wc=>?_) (fun Wc=>?_))
     · refine⟨ix,?_⟩
       have SR:bq n m=(n.J.getD m aF).name:=rfl
       refine tt ⟨⟨(cA.refl _),(fun _ _ _=>rfl)⟩,tt ⟨fun Ru=>?_,fun Ru=>?_⟩⟩
       · have hxi:0≤ai 0 (b9 [] (bq o) o.J.length) (n.J.getD m aF).name∧ai 0 (b9 [] (bq o) o.J.length) (n.J.getD m aF).name<(o.J.length:Int):=vA (f:=bq o) o.J.length (by assumption)
         refine tt ⟨(bT Ru),tt ⟨(KQ (bc o n o.J.length) ((n.J.getD m aF).name) om),tt ⟨fun hc123=>?_,fun hc123=>?_⟩⟩⟩
         · have hW:cS o n s m=s.J.getD (ai 0 (b9 [] (bq o) o.J.length) (n.J.getD m aF).name).toNat []:=by unfold cS FT eZ kv;rw[SR];exact Pn (by simp_all)
           refine tt ⟨ix,tt ⟨(D6 (s.J.getD ((ai 0 (b9 [] (bq o) o.J.length) ((n.J.getD m aF).name)).toNat) []) (PZ (h.sw _) (by decide))),tt ⟨fun RQ=>?_,fun RQ=>?_⟩⟩⟩
           · refine tt ⟨(vT RQ),tt (cd (fun Uv=>?_) (fun Uv=>?_))⟩
             · have To:ae o n s=(⟨[],[]⟩,150):=oP (i:=m) (by omega) (by unfold cg;rw[hW];simp only[Pg,P5,PP];omega)
               refine tt ⟨⟨?_,?_,oK⟩,?_,oK⟩
               all_goals (all_goals (first | (rw[To];done) | (rw[To]) | (rw[RH,SK];done) | (rw[RH,T6];done) | (rw[RH];done) | (rw[RH,SK]) | (rw[RH,T6]) | (rw[RH])))
             · have R':cg o n s m=false:=by unfold cg;rw[hW];simp only[QE,Qu,PP];omega
               refine tt ⟨⟨⟨rfl,oK⟩,oK⟩,⟨(aY (by omega) hW.symm),tt ⟨w6,tt ⟨(m+1),rfl,?_,(?_:n.J.length-(m+1)<n.J.length-m)⟩⟩⟩⟩
               · exact⟨by omega,bh WT R'⟩
               · omega
           · refine tt ⟨(vF RQ),?_⟩
             have R':cg o n s m=false:=by unfold cg;rw[hW];simp only[QE,Qu,PP];omega
             refine tt ⟨⟨⟨rfl,oK⟩,oK⟩,⟨(aY (by omega) hW.symm),tt ⟨w6,tt ⟨(m+1),rfl,?_,(?_:n.J.length-(m+1)<n.J.length-m)⟩⟩⟩⟩
             · exact⟨by omega,bh WT R'⟩
             · omega
         · have hW:cS o n s m=[]:=by unfold cS FT eZ kv;rw[SR];exact Pj (by simp_all)
           refine⟨fun SZ=>?_,fun SZ=>?_⟩
           · refine tt ⟨(vT SZ),tt (cd (fun Uv=>?_) (fun Uv=>?_))⟩
             · have To:ae o n s=(⟨[],[]⟩,150):=oP (i:=m) (by omega) (by unfold cg;rw[hW];simp only[Pg,P5,PP];omega)
               refine tt ⟨⟨?_,?_,oK⟩,?_,oK⟩
               all_goals (all_goals (first | (rw[To];done) | (rw[To]) | (rw[RH,SK];done) | (rw[RH,T6];done) | (rw[RH];done) | (rw[RH,SK]) | (rw[RH,T6]) | (rw[RH])))
             · have R':cg o n s m=false:=by unfold cg;rw[hW];simp only[QE,Qu,PP];omega
               refine tt ⟨⟨⟨rfl,oK⟩,oK⟩,⟨(aY (by omega) hW.symm),tt ⟨w6,tt ⟨(m+1),rfl,?_,(?_:n.J.length-(m+1)<n.J.length-m)⟩⟩⟩⟩
               · exact⟨by omega,bh WT R'⟩
               · omega
           · refine tt ⟨(vF SZ),?_⟩
             have R':cg o n s m=false:=by unfold cg;rw[hW];simp only[QE,Qu,PP];omega
             refine tt ⟨⟨⟨rfl,oK⟩,oK⟩,⟨(aY (by omega) hW.symm),tt ⟨w6,tt ⟨(m+1),rfl,?_,(?_:n.J.length-(m+1)<n.J.length-m)⟩⟩⟩⟩
             · exact⟨by omega,bh WT R'⟩
             · omega
       · have hW:cS o n s m=[]:=by unfold cS FT eZ kv;rw[SR];exact Pj (by simp_all)
         refine tt ⟨(bF Ru),tt ⟨fun T9=>?_,fun T9=>?_⟩⟩
         · refine tt ⟨(vT T9),tt (cd (fun Uv=>?_) (fun Uv=>?_))⟩
           · have To:ae o n s=(⟨[],[]⟩,150):=oP (i:=m) (by omega) (by unfold cg;rw[hW];simp only[Pg,P5,PP];omega)
             refine tt ⟨⟨?_,?_,oK⟩,?_,oK⟩
             all_goals (all_goals (first | (rw[To];done) | (rw[To]) | (rw[RH,SK];done) | (rw[RH,T6];done) | (rw[RH];done) | (rw[RH,SK]) | (rw[RH,T6]) | (rw[RH])))
           · have R':cg o n s m=false:=by unfold cg;rw[hW];simp only[QE,Qu,PP];omega
             refine tt ⟨⟨⟨rfl,oK⟩,oK⟩,⟨(aY (by omega) hW.symm),tt ⟨w6,tt ⟨(m+1),rfl,?_,(?_:n.J.length-(m+1)<n.J.length-m)⟩⟩⟩⟩
             · exact⟨by omega,bh WT R'⟩
             · omega
         · refine tt ⟨(vF T9),?_⟩
           have R':cg o n s m=false:=by unfold cg;rw[hW];simp only[QE,Qu,PP];omega
           refine tt ⟨⟨⟨rfl,oK⟩,oK⟩,⟨(aY (by omega) hW.symm),tt ⟨w6,tt ⟨(m+1),rfl,?_,(?_:n.J.length-(m+1)<n.J.length-m)⟩⟩⟩⟩
           · exact⟨by omega,bh WT R'⟩
           · omega
     · have T6:m=n.J.length:=by omega
       have RH:=FU Vr (fun z hz=>WT z (by omega))
       refine tt ⟨⟨(congrArg _ (?_:(tab (eu o n s) i)=(((ae o n s).1).U))),(congrArg _ (?_:(tab (cS o n s) m)=(((ae o n s).1).J))),oK⟩,?_,oK⟩
       all_goals (all_goals (first | (rw[To];done) | (rw[To]) | (rw[RH,SK];done) | (rw[RH,T6];done) | (rw[RH];done) | (rw[RH,SK]) | (rw[RH,T6]) | (rw[RH])))
abbrev JH (p:Pr):ax:=(.var 80 [(dS p.name),(dS p.clock),(dL 13 bG aK p.Pe),(dL 27 bS aA p.Pd),(dL 9 dU bV p.I),(dL 16 dT b4 p.Pc)])
set_option maxRecDepth 100000
abbrev NP (r q:Rg):Ct:=⟨67,[(.agg [(dS q.name),(i6 q.w),(i6 q.init),(i6 q.next.op),(dS q.next.name),(i6 q.next.k.n),(dS q.next.k.p),(i6 q.next.w.n),(dS q.next.w.p),(dL 7 (eA 2) dE q.next.args),(i6 q.rule.kind),(dS q.rule.src),(i6 q.rule.n)]),(.iptr [(.str r.name),(.int .i64 r.w),(.int .i64 r.init),(.int .i64 r.next.op),(.str r.next.name),(.int .i64 r.next.k.n),(.str r.next.k.p),(.int .i64 r.next.w.n),(.str r.next.w.p),(.sl 7 (eA 2) dE r.next.args),(.int .i64 r.rule.kind),(.str r.rule.src),(.int .i64 r.rule.n)] 0)],false,(dB (e7 r q))⟩
theorem NQ (r q:Rg):CC (NP r q):=by
 refine aq.vc (V:=TT 2 (CS ((q.name.toList==r.name.toList)=true) (CS (q.w=r.w) (TT 5 ((True∧(q.name.toList==r.name.toList)=true)∧TT 6 ((True∧(decide (q.w=r.w))=true)∧TT 7 ((q.rule.kind==1)=(e7 r q)∧True)))) (TT 5 ((True∧(q.name.toList==r.name.toList)=true)∧TT 6 ((True∧(decide (q.w=r.w))=false)∧TT 7 (false=(e7 r q)∧True))))) (TT 5 ((True∧(q.name.toList==r.name.toList)=false)∧TT 14 (false=(e7 r q)∧True))))) (.s 1 ((q.name.toList==r.name.toList)=true) (.s 1 (q.w=r.w) (.w 1 [(5,.val (dB true)),(12,.val (dB true))]<|.e) (.w 1 [(5,.val (dB true)),(12,.val (dB false))]<|.e)) (.w 1 [(5,.val (dB false))]<|.e)) Try.func67 rfl rfl rfl (by kernel_rfl) ?_
 refine tt ⟨fun Ru=>?_,fun Ru=>?_⟩
 · refine⟨fun RQ=>?_,fun RQ=>?_⟩
   · refine tt ⟨(bT Ru),tt ⟨(vT RQ),tt ⟨?_,oK⟩⟩⟩
     unfold e7;simp_all<;>rfl
   · refine tt ⟨(bT Ru),tt ⟨(vF RQ),tt ⟨?_,oK⟩⟩⟩
     unfold e7;simp_all<;>rfl
 · refine tt ⟨(bF Ru),tt ⟨?_,oK⟩⟩
   unfold e7;simp_all<;>rfl
abbrev NR (l:List Rg) (r:Rg):Ct:=⟨85,[(dL 13 bG aK l),(.fn (.func 67) [] [(.iptr [(.str r.name),(.int .i64 r.w),(.int .i64 r.init),(.int .i64 r.next.op),(.str r.next.name),(.int .i64 r.next.k.n),(.str r.next.k.p),(.int .i64 r.next.w.n),(.str r.next.w.p),(.sl 7 (eA 2) dE r.next.args),(.int .i64 r.rule.kind),(.str r.rule.src),(.int .i64 r.rule.n)] 0)])],false,(i6 (cC (fun i=>e7 r (l.getD i aK)) l.length))⟩
abbrev mJ (l:List Rg) (r:Rg):Lp (Nat):=iC [0,1,7,8] 0 (fun (i:Nat)=>⟨[(0,(dL 13 bG aK l)),(1,(.fn (.func 67) [] [(.iptr [(.str r.name),(.int .i64 r.w),(.int .i64 r.init),(.int .i64 r.next.op),(.str r.next.name),(.int .i64 r.next.k.n),(.str r.next.k.p),(.int .i64 r.next.w.n),(.str r.next.w.p),(.sl 7 (eA 2) dE r.next.args),(.int .i64 r.rule.kind),(.str r.rule.src),(.int .i64 r.rule.n)] 0)])),(7,(i6 (l.length:Int))),(8,(i6 (i:Int)))],[]⟩) (fun (i:Nat)=>i≤l.length∧∀z,z<i→e7 r (l.getD z aK)=false) (fun (i:Nat)=>l.length-i)
theorem KR (l:List Rg) (r:Rg) (hl:l.length≤9223372036854775807):CC (NR l r):=by
 refine aq.vc (V:=TT 4 (GO (mJ l r) 0 (∀i,(mJ l r).inv i→TT 1 (CD ((i:Int)<(l.length:Int)) (TT 5 (IX (i:Int) l.length∧TT 1 (CC (NP r (l.getD i aK))∧CB (e7 r (l.getD i aK)) (TT 3 ((i:Int)=(cC (fun i=>e7 r (l.getD i aK)) l.length)∧True)) (W6 ((i+1:Nat):Int)∧TT 1 (AG (mJ l r) i (i+1)))))) (TT 2 ((-1)=(cC (fun i=>e7 r (l.getD i aK)) l.length)∧True)))))) (.l (mJ l r) 0 (fun i=>.b 9 (.w 4 [(5,(NP r (l.getD i aK)).O)]<|.b 16 (.e) (.w 6 [(0,.val (i6 ((i+1:Nat):Int)))]<|.e)) (.e))) Try.func85 rfl rfl rfl (by kernel_rfl) ?_
 refine tt ⟨rfl,⟨by omega,fun z hz=>by omega⟩,?_⟩
 intro i F'
 obtain⟨hi,h3⟩:=F'
 refine tt (cd (fun WS=>?_) (fun WS=>?_))
 · refine tt ⟨ix,tt ⟨(NQ r (l.getD i aK)),⟨fun SP=>?_,fun SP=>?_⟩⟩⟩
   · refine tt ⟨?_,oK⟩
     first | exact(dZ (f:=fun i=>e7 r (l.getD i aK)) SP h3 (by omega)).symm | exact(fX (f:=fun i=>e7 r (l.getD i aK)) (fun z hz=>h3 z (by omega))).symm
   · refine⟨w6,tt ⟨(i+1),rfl,?_,(?_:l.length-(i+1)<l.length-i)⟩⟩
     · exact⟨by omega,bh h3 (by simpa using SP)⟩
     · omega
 · refine tt ⟨?_,oK⟩
   first | exact(dZ (f:=fun i=>e7 r (l.getD i aK)) SP h3 (by omega)).symm | exact(fX (f:=fun i=>e7 r (l.getD i aK)) (fun z hz=>h3 z (by omega))).symm
abbrev NS (l:List Rg) (r:Rg):Ct:=⟨66,[(dL 13 bG aK l),(.fn (.func 67) [] [(.iptr [(.str r.name),(.int .i64 r.w),(.int .i64 r.init),(.int .i64 r.next.op),(.str r.next.name),(.int .i64 r.next.k.n),(.str r.next.k.p),(.int .i64 r.next.w.n),(.str r.next.w.p),(.sl 7 (eA 2) dE r.next.args),(.int .i64 r.rule.kind),(.str r.rule.src),(.int .i64 r.rule.n)] 0)])],false,(dB (H2 l r))⟩
theorem KS (l:List Rg) (r:Rg) (hl:l.length≤9223372036854775807):CC (NS l r):=by
 refine aq.vc (V:=TT 3 (CC (NR l r)∧TT 3 ((decide ((cC (fun i=>e7 r (l.getD i aK)) l.length)≥0))=(H2 l r)∧True))) (.w 1 [(2,(NR l r).O)]<|.e) Try.func66 rfl rfl rfl (by kernel_rfl) ?_
 refine tt ⟨(KR l r om),tt ⟨?_,oK⟩⟩
 exact kB
abbrev NT (r q:Mm):Ct:=⟨69,[(.agg [(dS q.name),(i6 q.w),(i6 q.words),(i6 q.enable.op),(dS q.enable.name),(i6 q.enable.k.n),(dS q.enable.k.p),(i6 q.enable.w.n),(dS q.enable.w.p),(dL 7 (eA 2) dE q.enable.args),(i6 q.addr.op),(dS q.addr.name),(i6 q.addr.k.n),(dS q.addr.k.p),(i6 q.addr.w.n),(dS q.addr.w.p),(dL 7 (eA 2) dE q.addr.args),(i6 q.data.op),(dS q.data.name),(i6 q.data.k.n),(dS q.data.k.p),(i6 q.data.w.n),(dS q.data.w.p),(dL 7 (eA 2) dE q.data.args),(i6 q.rule.kind),(dS q.rule.src),(i6 q.rule.n)]),(.iptr [(.str r.name),(.int .i64 r.w),(.int .i64 r.words),(.int .i64 r.enable.op),(.str r.enable.name),(.int .i64 r.enable.k.n),(.str r.enable.k.p),(.int .i64 r.enable.w.n),(.str r.enable.w.p),(.sl 7 (eA 2) dE r.enable.args),(.int .i64 r.addr.op),(.str r.addr.name),(.int .i64 r.addr.k.n),(.str r.addr.k.p),(.int .i64 r.addr.w.n),(.str r.addr.w.p),(.sl 7 (eA 2) dE r.addr.args),(.int .i64 r.data.op),(.str r.data.name),(.int .i64 r.data.k.n),(.str r.data.k.p),(.int .i64 r.data.w.n),(.str r.data.w.p),(.sl 7 (eA 2) dE r.data.args),(.int .i64 r.rule.kind),(.str r.rule.src),(.int .i64 r.rule.n)] 0)],false,(dB (ew r q))⟩
theorem NU (r q:Mm):CC (NT r q):=by
 refine aq.vc (V:=TT 2 (CS ((q.name.toList==r.name.toList)=true) (CS (q.w=r.w) (CS (q.words=r.words) (TT 5 ((True∧(q.name.toList==r.name.toList)=true)∧TT 6 ((True∧(decide (q.w=r.w))=true)∧TT 6 ((True∧(decide (q.words=r.words))=true)∧TT 7 ((q.rule.kind==1)=(ew r q)∧True))))) (TT 5 ((True∧(q.name.toList==r.name.toList)=true)∧TT 6 ((True∧(decide (q.w=r.w))=true)∧TT 6 ((True∧(decide (q.words=r.words))=false)∧TT 7 (false=(ew r q)∧True)))))) (TT 5 ((True∧(q.name.toList==r.name.toList)=true)∧TT 6 ((True∧(decide (q.w=r.w))=false)∧TT 14 (false=(ew r q)∧True))))) (TT 5 ((True∧(q.name.toList==r.name.toList)=false)∧TT 21 (false=(ew r q)∧True))))) (.s 1 ((q.name.toList==r.name.toList)=true) (.s 1 (q.w=r.w) (.s 1 (q.words=r.words) (.w 1 [(5,.val (dB true)),(12,.val (dB true)),(19,.val (dB true))]<|.e) (.w 1 [(5,.val (dB true)),(12,.val (dB true)),(19,.val (dB false))]<|.e)) (.w 1 [(5,.val (dB true)),(12,.val (dB false))]<|.e)) (.w 1 [(5,.val (dB false))]<|.e)) Try.func69 rfl rfl rfl (by kernel_rfl) ?_
 refine tt ⟨fun Ru=>?_,fun Ru=>?_⟩
 · refine⟨fun RQ=>?_,fun RQ=>?_⟩
   · refine⟨fun SZ=>?_,fun SZ=>?_⟩
     · refine tt ⟨(bT Ru),tt ⟨(vT RQ),tt ⟨(vT SZ),tt ⟨?_,oK⟩⟩⟩⟩
       unfold ew;simp_all<;>rfl
     · refine tt ⟨(bT Ru),tt ⟨(vT RQ),tt ⟨(vF SZ),tt ⟨?_,oK⟩⟩⟩⟩
       unfold ew;simp_all<;>rfl
   · refine tt ⟨(bT Ru),tt ⟨(vF RQ),tt ⟨?_,oK⟩⟩⟩
     unfold ew;simp_all<;>rfl
 · refine tt ⟨(bF Ru),tt ⟨?_,oK⟩⟩
   unfold ew;simp_all<;>rfl
abbrev NV (l:List Mm) (r:Mm):Ct:=⟨86,[(dL 27 bS aA l),(.fn (.func 69) [] [(.iptr [(.str r.name),(.int .i64 r.w),(.int .i64 r.words),(.int .i64 r.enable.op),(.str r.enable.name),(.int .i64 r.enable.k.n),(.str r.enable.k.p),(.int .i64 r.enable.w.n),(.str r.enable.w.p),(.sl 7 (eA 2) dE r.enable.args),(.int .i64 r.addr.op),(.str r.addr.name),(.int .i64 r.addr.k.n),(.str r.addr.k.p),(.int .i64 r.addr.w.n),(.str r.addr.w.p),(.sl 7 (eA 2) dE r.addr.args),(.int .i64 r.data.op),(.str r.data.name),(.int .i64 r.data.k.n),(.str r.data.k.p),(.int .i64 r.data.w.n),(.str r.data.w.p),(.sl 7 (eA 2) dE r.data.args),(.int .i64 r.rule.kind),(.str r.rule.src),(.int .i64 r.rule.n)] 0)])],false,(i6 (cC (fun i=>ew r (l.getD i aA)) l.length))⟩
abbrev mK (l:List Mm) (r:Mm):Lp (Nat):=iC [0,1,7,8] 0 (fun (i:Nat)=>⟨[(0,(dL 27 bS aA l)),(1,(.fn (.func 69) [] [(.iptr [(.str r.name),(.int .i64 r.w),(.int .i64 r.words),(.int .i64 r.enable.op),(.str r.enable.name),(.int .i64 r.enable.k.n),(.str r.enable.k.p),(.int .i64 r.enable.w.n),(.str r.enable.w.p),(.sl 7 (eA 2) dE r.enable.args),(.int .i64 r.addr.op),(.str r.addr.name),(.int .i64 r.addr.k.n),(.str r.addr.k.p),(.int .i64 r.addr.w.n),(.str r.addr.w.p),(.sl 7 (eA 2) dE r.addr.args),(.int .i64 r.data.op),(.str r.data.name),(.int .i64 r.data.k.n),(.str r.data.k.p),(.int .i64 r.data.w.n),(.str r.data.w.p),(.sl 7 (eA 2) dE r.data.args),(.int .i64 r.rule.kind),(.str r.rule.src),(.int .i64 r.rule.n)] 0)])),(7,(i6 (l.length:Int))),(8,(i6 (i:Int)))],[]⟩) (fun (i:Nat)=>i≤l.length∧∀z,z<i→ew r (l.getD z aA)=false) (fun (i:Nat)=>l.length-i)
theorem KT (l:List Mm) (r:Mm) (hl:l.length≤9223372036854775807):CC (NV l r):=by
 refine aq.vc (V:=TT 4 (GO (mK l r) 0 (∀i,(mK l r).inv i→TT 1 (CD ((i:Int)<(l.length:Int)) (TT 5 (IX (i:Int) l.length∧TT 1 (CC (NT r (l.getD i aA))∧CB (ew r (l.getD i aA)) (TT 3 ((i:Int)=(cC (fun i=>ew r (l.getD i aA)) l.length)∧True)) (W6 ((i+1:Nat):Int)∧TT 1 (AG (mK l r) i (i+1)))))) (TT 2 ((-1)=(cC (fun i=>ew r (l.getD i aA)) l.length)∧True)))))) (.l (mK l r) 0 (fun i=>.b 9 (.w 4 [(5,(NT r (l.getD i aA)).O)]<|.b 16 (.e) (.w 6 [(0,.val (i6 ((i+1:Nat):Int)))]<|.e)) (.e))) Try.func86 rfl rfl rfl (by kernel_rfl) ?_
 refine tt ⟨rfl,⟨by omega,fun z hz=>by omega⟩,?_⟩
 intro i F'
 obtain⟨hi,h3⟩:=F'
 refine tt (cd (fun WS=>?_) (fun WS=>?_))
 · refine tt ⟨ix,tt ⟨(NU r (l.getD i aA)),⟨fun SP=>?_,fun SP=>?_⟩⟩⟩
   · refine tt ⟨?_,oK⟩
     first | exact(dZ (f:=fun i=>ew r (l.getD i aA)) SP h3 (by omega)).symm | exact(fX (f:=fun i=>ew r (l.getD i aA)) (fun z hz=>h3 z (by omega))).symm
   · refine⟨w6,tt ⟨(i+1),rfl,?_,(?_:l.length-(i+1)<l.length-i)⟩⟩
     · exact⟨by omega,bh h3 (by simpa using SP)⟩
     · omega
 · refine tt ⟨?_,oK⟩
   first | exact(dZ (f:=fun i=>ew r (l.getD i aA)) SP h3 (by omega)).symm | exact(fX (f:=fun i=>ew r (l.getD i aA)) (fun z hz=>h3 z (by omega))).symm
abbrev NW (l:List Mm) (r:Mm):Ct:=⟨68,[(dL 27 bS aA l),(.fn (.func 69) [] [(.iptr [(.str r.name),(.int .i64 r.w),(.int .i64 r.words),(.int .i64 r.enable.op),(.str r.enable.name),(.int .i64 r.enable.k.n),(.str r.enable.k.p),(.int .i64 r.enable.w.n),(.str r.enable.w.p),(.sl 7 (eA 2) dE r.enable.args),(.int .i64 r.addr.op),(.str r.addr.name),(.int .i64 r.addr.k.n),(.str r.addr.k.p),(.int .i64 r.addr.w.n),(.str r.addr.w.p),(.sl 7 (eA 2) dE r.addr.args),(.int .i64 r.data.op),(.str r.data.name),(.int .i64 r.data.k.n),(.str r.data.k.p),(.int .i64 r.data.w.n),(.str r.data.w.p),(.sl 7 (eA 2) dE r.data.args),(.int .i64 r.rule.kind),(.str r.rule.src),(.int .i64 r.rule.n)] 0)])],false,(dB (H3 l r))⟩
theorem KU (l:List Mm) (r:Mm) (hl:l.length≤9223372036854775807):CC (NW l r):=by
 refine aq.vc (V:=TT 3 (CC (NV l r)∧TT 3 ((decide ((cC (fun i=>ew r (l.getD i aA)) l.length)≥0))=(H3 l r)∧True))) (.w 1 [(2,(NV l r).O)]<|.e) Try.func68 rfl rfl rfl (by kernel_rfl) ?_
 refine tt ⟨(KT l r om),tt ⟨?_,oK⟩⟩
 exact kB
abbrev NX (p q:Pr):Ct:=⟨39,[(.agg [(dS p.name),(dS p.clock),(dL 13 bG aK p.Pe),(dL 27 bS aA p.Pd),(dL 9 dU bV p.I),(dL 16 dT b4 p.Pc)]),(.agg [(dS q.name),(dS q.clock),(dL 13 bG aK q.Pe),(dL 27 bS aA q.Pd),(dL 9 dU bV q.I),(dL 16 dT b4 q.Pc)])],false,(dB (jn p q))⟩
abbrev mL (p:Pr) (q:Pr):Lp (Nat):=iC [2,3,10,11,12] 2 (fun (i:Nat)=>⟨[(2,(.ptr 0 0 0 0)),(3,(.ptr 1 0 0 0)),(10,(dL 13 bG aK p.Pe)),(11,(i6 (p.Pe.length:Int))),(12,(i6 (i:Int)))],[(JH p),(.var 80 [(dS q.name),(dS q.clock),(dL 13 bG aK q.Pe),(dL 27 bS aA q.Pd),(dL 9 dU bV q.I),(dL 16 dT b4 q.Pc)])]⟩) (fun (i:Nat)=>i≤p.Pe.length∧∀z,z<i→H2 q.Pe (p.Pe.getD z aK)=true) (fun (i:Nat)=>p.Pe.length-i)
abbrev mM (p:Pr) (q:Pr):Lp (Nat):=iC [3,23,24,25] 2 (fun (j:Nat)=>⟨[(3,(.ptr 1 0 0 0)),(23,(dL 27 bS aA p.Pd)),(24,(i6 (p.Pd.length:Int))),(25,(i6 (j:Int)))],[(JH p),(.var 80 [(dS q.name),(dS q.clock),(dL 13 bG aK q.Pe),(dL 27 bS aA q.Pd),(dL 9 dU bV q.I),(dL 16 dT b4 q.Pc)])]⟩) (fun (j:Nat)=>j≤p.Pd.length∧∀z,z<j→H3 q.Pd (p.Pd.getD z aA)=true) (fun (j:Nat)=>p.Pd.length-j)
theorem KV (p q:Pr) (h1:p.Pe.length≤1000000) (h2:p.Pd.length≤1000000) (h3:q.Pe.length≤1000000) (h4:q.Pd.length≤1000000):CC (NX p q):=by
 refine aq.vc (V:=TT 7 (GO (mL p q) 0 (∀i,(mL p q).inv i→TT 1 (CD ((i:Int)<(p.Pe.length:Int)) (IX (i:Int) p.Pe.length∧TT 6 (CK (NS q.Pe (p.Pe.getD i aK))∧TT 1 (CB (!(H2 q.Pe (p.Pe.getD i aK))) (TT 2 (false=(jn p q)∧True)) (W6 ((i+1:Nat):Int)∧TT 1 (AG (mL p q) i (i+1)))))) (TT 4 (GO (mM p q) 0 (∀j,(mM p q).inv j→TT 1 (CD ((j:Int)<(p.Pd.length:Int)) (IX (j:Int) p.Pd.length∧TT 6 (CK (NW q.Pd (p.Pd.getD j aA))∧TT 1 (CB (!(H3 q.Pd (p.Pd.getD j aA))) (TT 2 (false=(jn p q)∧True)) (W6 ((j+1:Nat):Int)∧TT 1 (AG (mM p q) j (j+1)))))) (TT 2 (true=(jn p q)∧True)))))))))) (.l (mL p q) 0 (fun i=>.b 13 (.w 4 [(3,(NS q.Pe (p.Pe.getD i aK)).O')]<|.b 20 (.e) (.w 6 [(0,.val (i6 ((i+1:Nat):Int)))]<|.e)) (.l (mM p q) 0 (fun j=>.b 26 (.w 10 [(3,(NW q.Pd (p.Pd.getD j aA)).O')]<|.b 33 (.e) (.w 12 [(0,.val (i6 ((j+1:Nat):Int)))]<|.e)) (.e))))) Try.func39 rfl rfl rfl (by kernel_rfl) ?_
 refine tt ⟨rfl,⟨by omega,fun z hz=>by omega⟩,?_⟩
 intro i F'
 obtain⟨hi,k1⟩:=F'
 refine tt (cd (fun hc13=>?_) (fun hc13=>?_))
 · refine⟨ix,tt ⟨⟨lH _ rfl,(KS q.Pe (p.Pe.getD i aK) om)⟩,tt ⟨fun TO=>?_,fun TO=>?_⟩⟩⟩
   · refine tt ⟨?_,oK⟩
     first | exact(qE (i:=i) (by omega) (by simpa using TO)).symm | exact(qF (i:=j) (by omega) (by simpa using Wd)).symm | exact(qG (fun z hz=>k1 z (by omega)) (fun z hz=>k2 z (by omega))).symm
   · refine⟨w6,tt ⟨(i+1),rfl,?_,(?_:p.Pe.length-(i+1)<p.Pe.length-i)⟩⟩
     · exact⟨by omega,bh k1 (by simpa using TO)⟩
     · omega
 · refine tt ⟨rfl,⟨by omega,fun z hz=>by omega⟩,?_⟩
   intro j F'
   obtain⟨hj,k2⟩:=F'
   refine tt (cd (fun We=>?_) (fun We=>?_))
   · refine⟨ix,tt ⟨⟨lH _ rfl,(KU q.Pd (p.Pd.getD j aA) om)⟩,tt ⟨fun Wd=>?_,fun Wd=>?_⟩⟩⟩
     · refine tt ⟨?_,oK⟩
       first | exact(qE (i:=i) (by omega) (by simpa using TO)).symm | exact(qF (i:=j) (by omega) (by simpa using Wd)).symm | exact(qG (fun z hz=>k1 z (by omega)) (fun z hz=>k2 z (by omega))).symm
     · refine⟨w6,tt ⟨(j+1),rfl,?_,(?_:p.Pd.length-(j+1)<p.Pd.length-j)⟩⟩
       · exact⟨by omega,bh k2 (by simpa using Wd)⟩
       · omega
   · refine tt ⟨?_,oK⟩
     first | exact(qE (i:=i) (by omega) (by simpa using TO)).symm | exact(qF (i:=j) (by omega) (by simpa using Wd)).symm | exact(qG (fun z hz=>k1 z (by omega)) (fun z hz=>k2 z (by omega))).symm
abbrev NY (v w:Int):Ct:=⟨58,[(i6 v),(i6 w)],false,(i6 (jY v w))⟩
theorem KW (v w:Int) (h1:0≤w) (h2:w≤62):CC (NY v w):=by
 refine aq.vc (V:=TT 3 ((True∧IntKind.u64.wrap w=w)∧SH w∧W6 ((2^w.toNat)-1)∧(True∧(IntKind.wrap .i64 (BitVec.ofInt (IntKind.i64).bits v &&& BitVec.ofInt (IntKind.i64).bits ((2^w.toNat)-1)).toNat)=(jY v w))∧TT 2 ((jY v w)=(jY v w)∧True))) (.w 1 [(2,.val (dI .u64 w)),(3,.val (i6 (2^w.toNat))),(4,.val (i6 ((2^w.toNat)-1))),(5,.val (i6 (jY v w)))]<|.e) Try.func58 rfl rfl rfl (by kernel_rfl) ?_
 exact tt ⟨⟨oK,Dx rfl om om⟩,⟨sh,⟨(w6 (by have:=lJ (n:=w.toNat) (by omega);omega) (by have:=lJ (n:=w.toNat) (by omega);omega)),⟨⟨oK,(by unfold jY;rw[Pn ⟨h1,h2⟩];exact lI (by omega))⟩,tt ⟨rfl,oK⟩⟩⟩⟩⟩
abbrev Cz (o:Ci):List D:=[(dL 6 bp ac o.U),(dL 5 bP aF o.J)]
abbrev CA (n:Ci):List D:=[(dL 6 bp ac n.U),(dL 5 bP aF n.J)]
set_option maxRecDepth 100000
abbrev Mx (o n:Ci):Ct:=⟨16,[(.agg (Cz o)),(.agg (CA n))],true,(dB (de o n))⟩
abbrev eT (o:Ci) (n:Ci):Lp (Nat):=iC [2,3,5,23,24,25] 2 (fun (k:Nat)=>⟨[(2,(.ptr 0 0 0 0)),(3,(.ptr 1 0 0 0)),(5,(.v (.sm false (aa .i64) 0 (b9 [] (bq n) n.J.length)))),(23,(dL 5 bP aF o.J)),(24,(i6 (o.J.length:Int))),(25,(i6 (k:Int)))],[(.var 31 (Cz o)),(.var 31 (CA n))]⟩) (fun (k:Nat)=>k≤o.J.length∧∀z,z<k→nW o n z=true) (fun (k:Nat)=>o.J.length-k)
abbrev kJ (o:Ci) (n:Ci):Lp (Nat):=iC [3,51,52,53] 2 (fun (i:Nat)=>⟨[(3,(.ptr 1 0 0 0)),(51,(dL 6 bp ac o.U)),(52,(i6 (o.U.length:Int))),(53,(i6 (i:Int)))],[(.var 31 (Cz o)),(.var 31 (CA n))]⟩) (fun (i:Nat)=>i≤o.U.length∧∀z,z<i→kY o n z=true) (fun (i:Nat)=>o.U.length-i)
abbrev i4 (o:Ci) (n:Ci) (i:Nat):Lp (Nat×Pr):=o0 [3,11,12,51,52,53,58,59,60] 8 (fun (r:Nat) (q:Pr)=>⟨[(3,(.ptr 1 0 0 0)),(11,(.ptr 2 0 0 0)),(12,(.ptr 3 0 0 0)),(51,(dL 6 bp ac o.U)),(52,(i6 (o.U.length:Int))),(53,(i6 (i:Int))),(58,(dL 6 bp ac n.U)),(59,(i6 (n.U.length:Int))),(60,(i6 (r:Int)))],[(.var 31 (Cz o)),(.var 31 (CA n)),(.var 80 [(dS ((o.U.getD i ac).name)),(dS ((o.U.getD i ac).clock)),(dL 13 bG aK ((o.U.getD i ac).Pe)),(dL 27 bS aA ((o.U.getD i ac).Pd)),(dL 9 dU bV ((o.U.getD i ac).I)),(dL 16 dT b4 ((o.U.getD i ac).Pc))]),(.var 80 [(dS q.name),(dS q.clock),(dL 13 bG aK q.Pe),(dL 27 bS aA q.Pd),(dL 9 dU bV q.I),(dL 16 dT b4 q.Pc)]),.dead,.dead,.dead,.dead]⟩) (fun (r:Nat) (q:Pr)=>r≤n.U.length∧q=jo n (iT o i) r) (fun (r:Nat) (q:Pr)=>n.U.length-r)
theorem CE (o n:Ci) (h1:o.J.length≤1000000) (h2:n.J.length≤1000000) (h3:o.U.length≤1000000) (h4:n.U.length≤1000000) (ho:∀i,i<o.U.length→FZ (o.U.getD i ac)) (hn:∀i,i<n.U.length→FZ (n.U.getD i ac)):CC (Mx o n):=by
 refine aq.vc (V:=TT 5 (CC (JE o n)∧TT 2 (CD ((((bc o n o.J.length).length:Nat):Int)>0) (TT 2 (false=(de o n))) (TT 1 (CC (KK n)∧TT 5 (GO (eT o n) 0 (∀k,(eT o n).inv k→TT 1 (CD ((k:Int)<(o.J.length:Int)) (IX (k:Int) o.J.length∧TT 8 (CD (((o.J.getD k aF).cap)=0) (TT 6 (((cA (i6 0) (fF false ((aa .i64) 0)))∧(false=false→∀p∈(b9 [] (bq n) n.J.length),((aa .i64) p.2).length=1))∧IX (ai 0 (b9 [] (bq n) n.J.length) ((o.J.getD k aF).name)) n.J.length∧TT 3 (CS (((n.J.getD ((ai 0 (b9 [] (bq n) n.J.length) ((o.J.getD k aF).name)).toNat) aF).cap)>0) (TT 2 ((True∧(decide (((n.J.getD ((ai 0 (b9 [] (bq n) n.J.length) ((o.J.getD k aF).name)).toNat) aF).cap)>0))=true)∧TT 4 (CD (((n.J.getD ((ai 0 (b9 [] (bq n) n.J.length) ((o.J.getD k aF).name)).toNat) aF).cap)<8) (TT 2 (false=(de o n))) (W6 ((k+1:Nat):Int)∧TT 1 (AG (eT o n) k (k+1)))))) (TT 2 ((True∧(decide (((n.J.getD ((ai 0 (b9 [] (bq n) n.J.length) ((o.J.getD k aF).name)).toNat) aF).cap)>0))=false)∧TT 4 (W6 ((k+1:Nat):Int)∧TT 1 (AG (eT o n) k (k+1)))))))) (TT 5 (((cA (i6 0) (fF false ((aa .i64) 0)))∧(false=false→∀p∈(b9 [] (bq n) n.J.length),((aa .i64) p.2).length=1))∧IX (ai 0 (b9 [] (bq n) n.J.length) ((o.J.getD k aF).name)) n.J.length∧TT 3 (CS (((n.J.getD ((ai 0 (b9 [] (bq n) n.J.length) ((o.J.getD k aF).name)).toNat) aF).cap)>0) (TT 2 ((True∧(decide (((n.J.getD ((ai 0 (b9 [] (bq n) n.J.length) ((o.J.getD k aF).name)).toNat) aF).cap)>0))=true)∧TT 4 (CD (((n.J.getD ((ai 0 (b9 [] (bq n) n.J.length) ((o.J.getD k aF).name)).toNat) aF).cap)<((o.J.getD k aF).cap)) (TT 2 (false=(de o n))) (W6 ((k+1:Nat):Int)∧TT 1 (AG (eT o n) k (k+1)))))) (TT 2 ((True∧(decide (((n.J.getD ((ai 0 (b9 [] (bq n) n.J.length) ((o.J.getD k aF).name)).toNat) aF).cap)>0))=false)∧TT 4 (W6 ((k+1:Nat):Int)∧TT 1 (AG (eT o n) k (k+1)))))))))) (TT 4 (GO (kJ o n) 0 (∀i,(kJ o n).inv i→TT 1 (CD ((i:Int)<(o.U.length:Int)) (IX (i:Int) o.U.length∧TT 8 (GO (i4 o n i) (0,ac) (∀r q,(i4 o n i).inv (r,q)→TT 1 (CD ((r:Int)<(n.U.length:Int)) (IX (r:Int) n.U.length∧TT 8 (CB (((n.U.getD r ac).name).toList==((o.U.getD i ac).name).toList) (TT 2 (W6 ((r+1:Nat):Int)∧TT 1 (AG (i4 o n i) (r,q) (r+1,(n.U.getD r ac))))) (W6 ((r+1:Nat):Int)∧TT 1 (AG (i4 o n i) (r,q) (r+1,q))))) (TT 2 (CC (NX (o.U.getD i ac) q)∧TT 1 (CB (!(jn (o.U.getD i ac) q)) (TT 2 (false=(de o n))) (W6 ((i+1:Nat):Int)∧TT 1 (AG (kJ o n) i (i+1)))))))))) (TT 2 (true=(de o n))))))))))))))) (.w 1 [(2,(JE o n).O)]<|.b 19 (.e) (.w 3 [(1,(KK n).O)]<|.l (eT o n) 0 (fun k=>.b 26 (.b 32 (.s 11 (((n.J.getD ((ai 0 (b9 [] (bq n) n.J.length) ((o.J.getD k aF).name)).toNat) aF).cap)>0) (.w 11 [(2,.val (dB true))]<|.b 48 (.e) (.w 13 [(0,.val (i6 ((k+1:Nat):Int)))]<|.e)) (.w 11 [(2,.val (dB false))]<|.w 13 [(0,.val (i6 ((k+1:Nat):Int)))]<|.e)) (.s 11 (((n.J.getD ((ai 0 (b9 [] (bq n) n.J.length) ((o.J.getD k aF).name)).toNat) aF).cap)>0) (.w 11 [(2,.val (dB true))]<|.b 48 (.e) (.w 13 [(0,.val (i6 ((k+1:Nat):Int)))]<|.e)) (.w 11 [(2,.val (dB false))]<|.w 13 [(0,.val (i6 ((k+1:Nat):Int)))]<|.e))) (.l (kJ o n) 0 (fun i=>.b 54 (.g 18 3 2 66 13 bG aK<|.g 18 3 3 70 27 bS aA<|.g 18 3 4 144 9 dU bV<|.g 18 3 5 76 16 dT b4<|.f 18 4<|.f 18 5<|.f 18 6<|.f 18 7<|.l (i4 o n i) (0,ac) (fun ⟨r,q⟩=>.b 61 (.b 68 (.w 23 [(0,.val (i6 ((r+1:Nat):Int)))]<|.e) (.w 23 [(0,.val (i6 ((r+1:Nat):Int)))]<|.e)) (.w 24 [(2,(NX (o.U.getD i ac) q).O)]<|.b 74 (.e) (.w 26 [(0,.val (i6 ((i+1:Nat):Int)))]<|.e)))) (.e)))))) Try.func16 rfl rfl rfl (by kernel_rfl) ?_
 refine tt ⟨(qN o n h1 h2),tt (cd (fun Uw=>?_) (fun Uw=>?_))⟩
 · refine tt ?_
   first | exact(jO (by omega)).symm | exact(jP (i:=k) (by omega) (by assumption) (by first | (rw[kC (by assumption)];assumption) | (rw[kD (by assumption)];assumption))).symm | exact(io (i:=i) (by omega) (by simpa[kY,iT,hq,Xp]using UZ)).symm | exact(jQ (by omega) (fun z hz=>Ur z (by omega)) (fun z hz=>hkp z (by omega))).symm
 · refine tt ⟨(oV n (by omega)),tt ⟨rfl,⟨by omega,fun z hz=>by omega⟩,?_⟩⟩
   intro k F'
   obtain⟨hk,Ur⟩:=F'
   refine tt (cd (fun We=>?_) (fun We=>?_))
   · have hxb:=FY Uw (k:=k) (by omega)
     refine⟨ix,tt (cd (fun hc32=>?_) (fun hc32=>?_))⟩
     · refine tt ⟨⟨(cA.refl _),(fun _ _ _=>rfl)⟩,⟨ix,tt ⟨fun Ru=>?_,fun Ru=>?_⟩⟩⟩
       · refine tt ⟨(vT Ru),tt (cd (fun U0=>?_) (fun U0=>?_))⟩
         · refine tt ?_
           first | exact(jO (by omega)).symm | exact(jP (i:=k) (by omega) (by assumption) (by first | (rw[kC (by assumption)];assumption) | (rw[kD (by assumption)];assumption))).symm | exact(io (i:=i) (by omega) (by simpa[kY,iT,hq,Xp]using UZ)).symm | exact(jQ (by omega) (fun z hz=>Ur z (by omega)) (fun z hz=>hkp z (by omega))).symm
         · refine⟨w6,tt ⟨(k+1),rfl,?_,(?_:o.J.length-(k+1)<o.J.length-k)⟩⟩
           · exact⟨by omega,bh Ur (by first | exact w4 (by assumption) | exact w5 (by first | (rw[kC (by assumption)];assumption) | (rw[kD (by assumption)];assumption)))⟩
           · omega
       · refine tt ⟨(vF Ru),tt ⟨w6,tt ⟨(k+1),rfl,?_,(?_:o.J.length-(k+1)<o.J.length-k)⟩⟩⟩
         · exact⟨by omega,bh Ur (by first | exact w4 (by assumption) | exact w5 (by first | (rw[kC (by assumption)];assumption) | (rw[kD (by assumption)];assumption)))⟩
         · omega
     · refine tt ⟨⟨(cA.refl _),(fun _ _ _=>rfl)⟩,⟨ix,tt ⟨fun RQ=>?_,fun RQ=>?_⟩⟩⟩
       · refine tt ⟨(vT RQ),tt (cd (fun U0=>?_) (fun U0=>?_))⟩
         · refine tt ?_
           first | exact(jO (by omega)).symm | exact(jP (i:=k) (by omega) (by assumption) (by first | (rw[kC (by assumption)];assumption) | (rw[kD (by assumption)];assumption))).symm | exact(io (i:=i) (by omega) (by simpa[kY,iT,hq,Xp]using UZ)).symm | exact(jQ (by omega) (fun z hz=>Ur z (by omega)) (fun z hz=>hkp z (by omega))).symm
         · refine⟨w6,tt ⟨(k+1),rfl,?_,(?_:o.J.length-(k+1)<o.J.length-k)⟩⟩
           · exact⟨by omega,bh Ur (by first | exact w4 (by assumption) | exact w5 (by first | (rw[kC (by assumption)];assumption) | (rw[kD (by assumption)];assumption)))⟩
           · omega
       · refine tt ⟨(vF RQ),tt ⟨w6,tt ⟨(k+1),rfl,?_,(?_:o.J.length-(k+1)<o.J.length-k)⟩⟩⟩
         · exact⟨by omega,bh Ur (by first | exact w4 (by assumption) | exact w5 (by first | (rw[kC (by assumption)];assumption) | (rw[kD (by assumption)];assumption)))⟩
         · omega
   · refine tt ⟨rfl,⟨by omega,fun z hz=>by omega⟩,?_⟩
     intro i F'
     obtain⟨hi,hkp⟩:=F'
     refine tt (cd (fun hc54=>?_) (fun hc54=>?_))
     · refine⟨ix,tt ⟨rfl,⟨by omega,rfl⟩,?_⟩⟩
       intro r q F'
       obtain⟨hr,hq⟩:=F'
       refine tt (cd (fun Wf=>?_) (fun Wf=>?_))
       · refine⟨ix,tt ⟨fun Wg=>?_,fun Wg=>?_⟩⟩
         · refine tt ⟨w6,tt ⟨(r+1,(n.U.getD r ac)),rfl,?_,(?_:n.U.length-(r+1)<n.U.length-r)⟩⟩
           · exact⟨by omega,by first | exact(yC Wg).symm | (rw[hq];exact B4 Wg)⟩
           · omega
         · refine⟨w6,tt ⟨(r+1,q),rfl,?_,(?_:n.U.length-(r+1)<n.U.length-r)⟩⟩
           · exact⟨by omega,by first | exact(yC Wg).symm | (rw[hq];exact B4 Wg)⟩
           · omega
       · have Xp:r=n.U.length:=by omega
         have Tt:FZ q:=by rw[hq];exact B5 hn r hr
         have hpo:=ho i (by omega)
         refine tt ⟨(KV (o.U.getD i ac) q hpo.1 hpo.2 Tt.1 Tt.2),tt ⟨fun UZ=>?_,fun UZ=>?_⟩⟩
         · refine tt ?_
           first | exact(jO (by omega)).symm | exact(jP (i:=k) (by omega) (by assumption) (by first | (rw[kC (by assumption)];assumption) | (rw[kD (by assumption)];assumption))).symm | exact(io (i:=i) (by omega) (by simpa[kY,iT,hq,Xp]using UZ)).symm | exact(jQ (by omega) (fun z hz=>Ur z (by omega)) (fun z hz=>hkp z (by omega))).symm
         · refine⟨w6,tt ⟨(i+1),rfl,?_,(?_:o.U.length-(i+1)<o.U.length-i)⟩⟩
           · exact⟨by omega,bh hkp (by simpa[kY,iT,hq,Xp]using UZ)⟩
           · omega
     · refine tt ?_
       first | exact(jO (by omega)).symm | exact(jP (i:=k) (by omega) (by assumption) (by first | (rw[kC (by assumption)];assumption) | (rw[kD (by assumption)];assumption))).symm | exact(io (i:=i) (by omega) (by simpa[kY,iT,hq,Xp]using UZ)).symm | exact(jQ (by omega) (fun z hz=>Ur z (by omega)) (fun z hz=>hkp z (by omega))).symm
abbrev vW (c:Ci):List D:=[(dL 6 bp ac c.U),(dL 5 bP aF c.J)]
abbrev CF (s:Ns):List D:=[(dL 2 bo a8 s.U),(dL 1 af [] s.J)]
set_option maxRecDepth 100000
abbrev My (c:Ci) (b:List Int):Ct:=⟨27,[(.agg (vW c)),(LY b)],true,(.agg [(dL 6 bp ac ((aG c b).U)),(dL 5 bP aF ((aG c b).J))])⟩
abbrev e9 (c:Ci) (b:List Int):Lp (Nat):=iC [1,2,4,5,6,7] 5 (fun (i:Nat)=>⟨[(1,(LY b)),(2,(.ptr 0 0 0 0)),(4,(.ptr 1 0 0 0)),(5,(.ptr 2 0 0 0)),(6,(.ptr 3 0 0 0)),(7,(i6 (i:Int)))],[(.var 31 (vW c)),(.var 31 [.nils,.nils]),(.var 31 [(.own 4),(dL 5 bP aF c.J)]),(.var 64 [(i6 1),(dS e0),(i6 0),(dS e0),(i6 1),(dS e0),.nils]),(.arr 80 6 bp ac (tab (fun zi=>jZ (c.U.getD zi ac) b zi) i))]⟩) (fun (i:Nat)=>i≤c.U.length) (fun (i:Nat)=>c.U.length-i)
theorem y9 (c:Ci) (b:List Int) (hl:c.U.length≤1000000) (hb:gf b):CC (My c b):=by
 refine aq.vc (V:=TT 12 (GO (e9 c b) 0 (∀i,(e9 c b).inv i→TT 5 (CD ((i:Int)<(c.U.length:Int)) (TT 3 (IX (i:Int) c.U.length∧TT 3 (CS ((i:Int)<(b.length:Int)) (TT 4 ((True∧(decide ((i:Int)<(b.length:Int)))=true)∧TT 2 (IX (i:Int) b.length∧TT 1 (QM (b.getD i 0) 2∧TT 2 (CD (((b.getD i 0)%2)=1) (TT 2 (IX (i:Int) b.length∧TT 1 (((2:Int)≠0∧(IntKind.wrap .u8 (Int.tdiv (b.getD i 0) 2))=(b.getD i 0 / 2))∧QM (b.getD i 0 / 2) 2∧W6 ((b.getD i 0 / 2)%2)∧W6 (1+((b.getD i 0 / 2)%2))∧TT 7 (an [[(i6 2)],[(i6 1)],[(i6 4)],[(i6 2)]] ([2,1,4,2].map (aa .i64))∧TT 2 (IX (i:Int) b.length∧TT 1 (((4:Int)≠0∧(IntKind.wrap .u8 (Int.tdiv (b.getD i 0) 4))=(b.getD i 0 / 4))∧QM (b.getD i 0 / 4) 4∧IX ((b.getD i 0 / 4)%4) ([2,1,4,2].length)∧(((b.getD i 0 / 4)%4).toNat<[2,1,4,2].length∧True)∧TT 5 (an [[(dS (bs [109,101,109])),(i6 (1+((b.getD i 0 / 2)%2))),(i6 (([2,1,4,2]).getD (((b.getD i 0 / 4)%4).toNat) 0)),(i6 1),(dS e0),(i6 0),(dS e0),(i6 1),(dS e0),.nils,(i6 1),(dS e0),(i6 0),(dS e0),(i6 1),(dS e0),.nils,(i6 1),(dS e0),(i6 0),(dS e0),(i6 (1+((b.getD i 0 / 2)%2))),(dS e0),.nils,(i6 1),(dS e0),(i6 0)]] ([qK (b.getD i 0)].map bS)∧TT 5 (an [[(dS ((c.U.getD i ac).name)),(dS ((c.U.getD i ac).clock)),(dL 13 bG aK ((c.U.getD i ac).Pe)),(dL 27 bS aA [qK (b.getD i 0)]),(dL 9 dU bV ((c.U.getD i ac).I)),(dL 16 dT b4 ((c.U.getD i ac).Pc))]] ([(⟨(c.U.getD i ac).name,(c.U.getD i ac).clock,(c.U.getD i ac).Pe,[qK (b.getD i 0)],(c.U.getD i ac).I,(c.U.getD i ac).Pc⟩:Pr)].map bp)∧((tab (fun zi=>jZ (c.U.getD zi ac) b zi) i).length+([(⟨(c.U.getD i ac).name,(c.U.getD i ac).clock,(c.U.getD i ac).Pe,[qK (b.getD i 0)],(c.U.getD i ac).I,(c.U.getD i ac).Pc⟩:Pr)].map bp).length≤137438953472∧(tab (fun zi=>jZ (c.U.getD zi ac) b zi) i).map bp++[(⟨(c.U.getD i ac).name,(c.U.getD i ac).clock,(c.U.getD i ac).Pe,[qK (b.getD i 0)],(c.U.getD i ac).I,(c.U.getD i ac).Pc⟩:Pr)].map bp=(tab (fun zi=>jZ (c.U.getD zi ac) b zi) (i+1)).map bp)∧TT 3 (W6 ((i+1:Nat):Int)∧TT 1 (AG (e9 c b) i (i+1))))))))))) (TT 3 (an [[(dS ((c.U.getD i ac).name)),(dS ((c.U.getD i ac).clock)),(dL 13 bG aK ((c.U.getD i ac).Pe)),(dL 27 bS aA ((c.U.getD i ac).Pd)),(dL 9 dU bV ((c.U.getD i ac).I)),(dL 16 dT b4 ((c.U.getD i ac).Pc))]] ([c.U.getD i ac].map bp)∧((tab (fun zi=>jZ (c.U.getD zi ac) b zi) i).length+([c.U.getD i ac].map bp).length≤137438953472∧(tab (fun zi=>jZ (c.U.getD zi ac) b zi) i).map bp++[c.U.getD i ac].map bp=(tab (fun zi=>jZ (c.U.getD zi ac) b zi) (i+1)).map bp)∧TT 3 (W6 ((i+1:Nat):Int)∧TT 1 (AG (e9 c b) i (i+1)))))))))) (TT 4 ((True∧(decide ((i:Int)<(b.length:Int)))=false)∧TT 10 (an [[(dS ((c.U.getD i ac).name)),(dS ((c.U.getD i ac).clock)),(dL 13 bG aK ((c.U.getD i ac).Pe)),(dL 27 bS aA ((c.U.getD i ac).Pd)),(dL 9 dU bV ((c.U.getD i ac).I)),(dL 16 dT b4 ((c.U.getD i ac).Pc))]] ([c.U.getD i ac].map bp)∧((tab (fun zi=>jZ (c.U.getD zi ac) b zi) i).length+([c.U.getD i ac].map bp).length≤137438953472∧(tab (fun zi=>jZ (c.U.getD zi ac) b zi) i).map bp++[c.U.getD i ac].map bp=(tab (fun zi=>jZ (c.U.getD zi ac) b zi) (i+1)).map bp)∧TT 3 (W6 ((i+1:Nat):Int)∧TT 1 (AG (e9 c b) i (i+1))))))))) (TT 3 ((tab (fun zi=>jZ (c.U.getD zi ac) b zi) i).map bp=((aG c b).U).map bp∧c.J.map bP=((aG c b).J).map bP∧True)))))) (.g 3 2 0 80 6 bp ac<|.l (e9 c b) 0 (fun i=>.b 20 (.s 7 ((i:Int)<(b.length:Int)) (.w 7 [(4,.val (dB true)),(9,.val (dI .u8 ((b.getD i 0)%2)))]<|.b 39 (.w 8 [(4,.val (dI .u8 (b.getD i 0 / 2))),(5,.val (dI .u8 ((b.getD i 0 / 2)%2))),(6,.val (i6 ((b.getD i 0 / 2)%2))),(7,.val (i6 (1+((b.getD i 0 / 2)%2))))]<|.w 10 [(1,.app false 3 1 (aa .i64) 0 [2,1,4,2]),(6,.val (dI .u8 (b.getD i 0 / 4))),(7,.val (dI .u8 ((b.getD i 0 / 4)%4))),(15,.box 70 27 bS aA [qK (b.getD i 0)])]<|.w 11 [(3,.box 80 6 bp ac [(⟨(c.U.getD i ac).name,(c.U.getD i ac).clock,(c.U.getD i ac).Pe,[qK (b.getD i 0)],(c.U.getD i ac).I,(c.U.getD i ac).Pc⟩:Pr)]),(4,.box 80 6 bp ac (tab (fun zi=>jZ (c.U.getD zi ac) b zi) (i+1)))]<|.w 5 [(1,.val (i6 ((i+1:Nat):Int)))]<|.e) (.w 11 [(3,.box 80 6 bp ac [c.U.getD i ac]),(4,.box 80 6 bp ac (tab (fun zi=>jZ (c.U.getD zi ac) b zi) (i+1)))]<|.w 5 [(1,.val (i6 ((i+1:Nat):Int)))]<|.e)) (.w 7 [(4,.val (dB false))]<|.w 11 [(3,.box 80 6 bp ac [c.U.getD i ac]),(4,.box 80 6 bp ac (tab (fun zi=>jZ (c.U.getD zi ac) b zi) (i+1)))]<|.w 5 [(1,.val (i6 ((i+1:Nat):Int)))]<|.e)) (.e))) Try.func27 rfl rfl rfl (by kernel_rfl) ?_
 refine tt ⟨rfl,(by omega),?_⟩
 intro i F'
 have hi:=F'
 refine tt (cd (fun TO=>?_) (fun TO=>?_))
 · have hy:=b5 hb i
   refine tt ⟨ix,tt ⟨fun Ru=>?_,fun Ru=>?_⟩⟩
   · refine tt ⟨(vT Ru),tt ⟨ix,tt ⟨qm,tt (cd (fun Sf=>?_) (fun Sf=>?_))⟩⟩⟩
     · have Sj:jZ (c.U.getD i ac) b i={ (c.U.getD i ac)with Pd:=[qK (b.getD i 0)] }:=Ik (by omega) Sf _
       refine tt ⟨ix,tt ⟨⟨om,(Jw (k:=2) hy.1 hy.2)⟩,⟨qm,⟨w6,⟨w6,tt ⟨⟨⟨rfl,oK⟩,⟨rfl,oK⟩,⟨rfl,oK⟩,⟨rfl,oK⟩,oK⟩,tt ⟨ix,tt ⟨⟨om,(Jw (k:=4) hy.1 hy.2)⟩,⟨qm,⟨ix,⟨⟨om,oK⟩,tt ⟨⟨⟨rfl,rfl,rfl,rfl,rfl,rfl,rfl,rfl,rfl,rfl,rfl,rfl,rfl,rfl,rfl,rfl,rfl,rfl,rfl,rfl,rfl,rfl,rfl,rfl,rfl,rfl,rfl,oK⟩,oK⟩,tt ⟨⟨⟨rfl,rfl,rfl,rfl,rfl,rfl,oK⟩,oK⟩,⟨(aY (by omega) Sj.symm),tt ⟨w6,tt ⟨(i+1),rfl,(?_:(i+1)≤c.U.length),(?_:c.U.length-(i+1)<c.U.length-i)⟩⟩⟩⟩⟩⟩⟩⟩⟩⟩⟩⟩⟩⟩⟩⟩
       · omega
       · omega
     · have Sj:jZ (c.U.getD i ac) b i=(c.U.getD i ac):=Im Sf _
       refine tt ⟨⟨⟨rfl,rfl,rfl,rfl,rfl,rfl,oK⟩,oK⟩,⟨(aY (by omega) Sj.symm),tt ⟨w6,tt ⟨(i+1),rfl,(?_:(i+1)≤c.U.length),(?_:c.U.length-(i+1)<c.U.length-i)⟩⟩⟩⟩
       · omega
       · omega
   · have Sj:jZ (c.U.getD i ac) b i=(c.U.getD i ac):=Il (by omega) _
     refine tt ⟨(vF Ru),tt ⟨⟨⟨rfl,rfl,rfl,rfl,rfl,rfl,oK⟩,oK⟩,⟨(aY (by omega) Sj.symm),tt ⟨w6,tt ⟨(i+1),rfl,(?_:(i+1)≤c.U.length),(?_:c.U.length-(i+1)<c.U.length-i)⟩⟩⟩⟩⟩
     · omega
     · omega
 · refine tt ⟨(congrArg _ (?_:(tab (fun zi=>jZ (c.U.getD zi ac) b zi) i)=((aG c b).U))),(congrArg _ (?_:c.J=((aG c b).J))),oK⟩
   · rw[show i=c.U.length by omega];rfl
   · rfl
abbrev Mz (c:Ci) (s:Ns) (b:List Int):Ct:=⟨32,[(.agg (vW c)),(.agg (CF s)),(LY b)],true,(.agg [(dL 2 bo a8 ((gB c s b).U)),(dL 1 af [] ((gB c s b).J))])⟩
abbrev jp (c:Ci) (s:Ns) (b:List Int):Lp (Nat×Nat):=o0 [2,3,4,6,7,8,9] 5 (fun (i:Nat) (q0:Nat)=>⟨[(2,(LY b)),(3,(.ptr 0 0 0 0)),(4,(.ptr 1 0 0 0)),(6,(.ptr 2 0 0 0)),(7,(.ptr 3 0 0 0)),(8,(i6 (q0:Int))),(9,(i6 (i:Int)))],[(.var 31 (vW c)),(.var 35 (CF s)),(.var 35 [.nils,.nils]),(.var 35 [(.own 4),(dL 1 af [] s.J)]),(.arr 74 2 bo a8 (tab (D1 b c s) i))]⟩) (fun (i:Nat) (q0:Nat)=>i≤c.U.length∧q0=jA b c i) (fun (i:Nat) (q0:Nat)=>c.U.length-i)
abbrev jq (c:Ci) (s:Ns) (b:List Int) (i:Nat):Lp (Nat×Nat):=o0 [2,3,4,6,7,8,9,10,11] 7 (fun (k:Nat) (q1:Nat)=>⟨[(2,(LY b)),(3,(.ptr 0 0 0 0)),(4,(.ptr 1 0 0 0)),(6,(.ptr 2 0 0 0)),(7,(.ptr 3 0 0 0)),(8,(i6 (q1:Int))),(9,(i6 (i:Int))),(10,(.ptr 5 0 0 0)),(11,(i6 (k:Int)))],[(.var 31 (vW c)),(.var 35 (CF s)),(.var 35 [.nils,.nils]),(.var 35 [(.own 4),(dL 1 af [] s.J)]),(.arr 74 2 bo a8 (tab (D1 b c s) i)),(.var 74 [(LI ((s.U.getD i a8).Pe)),(.own 6)]),(.arr 54 1 af [] (tab (zB b (c.U.getD i ac) (jA b c i)) k))]⟩) (fun (k:Nat) (q1:Nat)=>k≤(c.U.getD i ac).Pd.length∧q1=rp b (c.U.getD i ac) (jA b c i) k) (fun (k:Nat) (q1:Nat)=>(c.U.getD i ac).Pd.length-k)
abbrev gD (c:Ci) (s:Ns) (b:List Int) (i:Nat) (k:Nat):Lp (Nat×Nat):=o0 [2,3,4,6,7,8,9,10,11,12,13] 8 (fun (z:Nat) (q2:Nat)=>⟨[(2,(LY b)),(3,(.ptr 0 0 0 0)),(4,(.ptr 1 0 0 0)),(6,(.ptr 2 0 0 0)),(7,(.ptr 3 0 0 0)),(8,(i6 (q2:Int))),(9,(i6 (i:Int))),(10,(.ptr 5 0 0 0)),(11,(i6 (k:Int))),(12,(.own 7)),(13,(i6 (z:Int)))],[(.var 31 (vW c)),(.var 35 (CF s)),(.var 35 [.nils,.nils]),(.var 35 [(.own 4),(dL 1 af [] s.J)]),(.arr 74 2 bo a8 (tab (D1 b c s) i)),(.var 74 [(LI ((s.U.getD i a8).Pe)),(.own 6)]),(.arr 54 1 af [] (tab (zB b (c.U.getD i ac) (jA b c i)) k)),(.arr 3 1 (aa .i64) 0 (tab (vP b ((c.U.getD i ac).Pd.getD k aA).w (rp b (c.U.getD i ac) (jA b c i) k)) z))]⟩) (fun (z:Nat) (q2:Nat)=>z≤((c.U.getD i ac).Pd.getD k aA).words.toNat∧q2=(rp b (c.U.getD i ac) (jA b c i) k)+z) (fun (z:Nat) (q2:Nat)=>((c.U.getD i ac).Pd.getD k aA).words.toNat-z)
theorem za (c:Ci) (s:Ns) (b:List Int) (hc:bQ c) (hs:dn c s) (hb:gf b):CC (Mz c s b):=by
 have Sh:=hc.nl
 have T4:=hs.pl
 refine aq.vc (V:=TT 10 (GO (jp c s b) (0,0) (∀i q0,(jp c s b).inv (i,q0)→TT 5 (CD ((i:Int)<(c.U.length:Int)) (TT 3 (IX (i:Int) s.U.length∧TT 6 (GO (jq c s b i) (0,q0) (∀k q1,(jq c s b i).inv (k,q1)→TT 4 (IX (i:Int) c.U.length∧TT 4 (CD ((k:Int)<((((c.U.getD i ac).Pd).length:Nat):Int)) (an [] (([]:List Int).map (aa .i64))∧TT 2 (GO (gD c s b i k) (0,q1) (∀z q2,(gD c s b i k).inv (z,q2)→TT 4 (IX (i:Int) c.U.length∧TT 3 (IX (k:Int) (((c.U.getD i ac).Pd).length)∧TT 3 (CD ((z:Int)<((((c.U.getD i ac).Pd).getD k aA).words)) (TT 5 (CD ((q2:Int)<(b.length:Int)) (TT 2 (IX (q2:Int) b.length∧TT 1 (W6 (b.getD q2 0)∧TT 3 (IX (i:Int) c.U.length∧TT 3 (IX (k:Int) (((c.U.getD i ac).Pd).length)∧TT 2 (CC (NY (b.getD q2 0) ((((c.U.getD i ac).Pd).getD k aA).w))∧TT 3 (an [[(i6 (jY (b.getD q2 0) ((((c.U.getD i ac).Pd).getD k aA).w)))]] ([jY (b.getD q2 0) ((((c.U.getD i ac).Pd).getD k aA).w)].map (aa .i64))∧((tab (vP b ((c.U.getD i ac).Pd.getD k aA).w (rp b (c.U.getD i ac) (jA b c i) k)) z).length+([jY (b.getD q2 0) ((((c.U.getD i ac).Pd).getD k aA).w)].map (aa .i64)).length≤137438953472∧(tab (vP b ((c.U.getD i ac).Pd.getD k aA).w (rp b (c.U.getD i ac) (jA b c i) k)) z).map (aa .i64)++[jY (b.getD q2 0) ((((c.U.getD i ac).Pd).getD k aA).w)].map (aa .i64)=(tab (vP b ((c.U.getD i ac).Pd.getD k aA).w (rp b (c.U.getD i ac) (jA b c i) k)) (z+1)).map (aa .i64))∧TT 2 (W6 ((q2+1:Nat):Int)∧TT 2 (W6 ((z+1:Nat):Int)∧TT 1 (AG (gD c s b i k) (z,q2) (z+1,q2+1))))))))))) (TT 2 (an [[(i6 0)]] ([0].map (aa .i64))∧((tab (vP b ((c.U.getD i ac).Pd.getD k aA).w (rp b (c.U.getD i ac) (jA b c i) k)) z).length+([0].map (aa .i64)).length≤137438953472∧(tab (vP b ((c.U.getD i ac).Pd.getD k aA).w (rp b (c.U.getD i ac) (jA b c i) k)) z).map (aa .i64)++[0].map (aa .i64)=(tab (vP b ((c.U.getD i ac).Pd.getD k aA).w (rp b (c.U.getD i ac) (jA b c i) k)) (z+1)).map (aa .i64))∧TT 2 (W6 ((q2+1:Nat):Int)∧TT 2 (W6 ((z+1:Nat):Int)∧TT 1 (AG (gD c s b i k) (z,q2) (z+1,q2+1)))))))) (TT 3 (an [[(LI (tab (vP b ((c.U.getD i ac).Pd.getD k aA).w (rp b (c.U.getD i ac) (jA b c i) k)) z))]] ([tab (vP b ((c.U.getD i ac).Pd.getD k aA).w (rp b (c.U.getD i ac) (jA b c i) k)) z].map af)∧((tab (zB b (c.U.getD i ac) (jA b c i)) k).length+([tab (vP b ((c.U.getD i ac).Pd.getD k aA).w (rp b (c.U.getD i ac) (jA b c i) k)) z].map af).length≤137438953472∧(tab (zB b (c.U.getD i ac) (jA b c i)) k).map af++[tab (vP b ((c.U.getD i ac).Pd.getD k aA).w (rp b (c.U.getD i ac) (jA b c i) k)) z].map af=(tab (zB b (c.U.getD i ac) (jA b c i)) (k+1)).map af)∧TT 3 (W6 ((k+1:Nat):Int)∧TT 1 (AG (jq c s b i) (k,q1) (k+1,q2))))))))))) (TT 3 (an [[(LI ((s.U.getD i a8).Pe)),(dL 1 af [] (tab (zB b (c.U.getD i ac) (jA b c i)) k))]] ([(⟨(s.U.getD i a8).Pe,tab (zB b (c.U.getD i ac) (jA b c i)) k⟩:Ps)].map bo)∧((tab (D1 b c s) i).length+([(⟨(s.U.getD i a8).Pe,tab (zB b (c.U.getD i ac) (jA b c i)) k⟩:Ps)].map bo).length≤137438953472∧(tab (D1 b c s) i).map bo++[(⟨(s.U.getD i a8).Pe,tab (zB b (c.U.getD i ac) (jA b c i)) k⟩:Ps)].map bo=(tab (D1 b c s) (i+1)).map bo)∧TT 3 (W6 ((i+1:Nat):Int)∧TT 1 (AG (jp c s b) (i,q0) (i+1,q1))))))))))) (TT 3 ((tab (D1 b c s) i).map bo=((gB c s b).U).map bo∧s.J.map af=((gB c s b).J).map af∧True)))))) (.g 3 3 0 74 2 bo a8<|.l (jp c s b) (0,0) (fun ⟨i,q0⟩=>.b 22 (.g 7 5 1 54 1 af []<|.l (jq c s b i) (0,q0) (fun ⟨k,q1⟩=>.b 40 (.w 10 [(0,.box 3 1 (aa .i64) 0 ([]:List Int))]<|.l (gD c s b i k) (0,q1) (fun ⟨z,q2⟩=>.b 55 (.b 61 (.w 16 [(4,.val (i6 (b.getD q2 0))),(15,(NY (b.getD q2 0) ((((c.U.getD i ac).Pd).getD k aA).w)).O)]<|.w 17 [(2,.box 3 1 (aa .i64) 0 [jY (b.getD q2 0) ((((c.U.getD i ac).Pd).getD k aA).w)]),(3,.box 3 1 (aa .i64) 0 (tab (vP b ((c.U.getD i ac).Pd.getD k aA).w (rp b (c.U.getD i ac) (jA b c i) k)) (z+1)))]<|.w 18 [(1,.val (i6 ((q2+1:Nat):Int)))]<|.w 13 [(1,.val (i6 ((z+1:Nat):Int)))]<|.e) (.w 17 [(2,.box 3 1 (aa .i64) 0 [0]),(3,.box 3 1 (aa .i64) 0 (tab (vP b ((c.U.getD i ac).Pd.getD k aA).w (rp b (c.U.getD i ac) (jA b c i) k)) (z+1)))]<|.w 18 [(1,.val (i6 ((q2+1:Nat):Int)))]<|.w 13 [(1,.val (i6 ((z+1:Nat):Int)))]<|.e)) (.f 19 7<|.w 19 [(3,.box 54 1 af [] [tab (vP b ((c.U.getD i ac).Pd.getD k aA).w (rp b (c.U.getD i ac) (jA b c i) k)) z]),(4,.box 54 1 af [] (tab (zB b (c.U.getD i ac) (jA b c i)) (k+1)))]<|.w 9 [(1,.val (i6 ((k+1:Nat):Int)))]<|.e))) (.f 20 6<|.w 20 [(3,.box 74 2 bo a8 [(⟨(s.U.getD i a8).Pe,tab (zB b (c.U.getD i ac) (jA b c i)) k⟩:Ps)]),(4,.box 74 2 bo a8 (tab (D1 b c s) (i+1)))]<|.w 5 [(1,.val (i6 ((i+1:Nat):Int)))]<|.e))) (.e))) Try.func32 rfl rfl rfl (by kernel_rfl) ?_
 refine tt ⟨rfl,⟨by omega,rfl⟩,?_⟩
 intro i q0 F'
 obtain⟨hi,hq0⟩:=F'
 have hfi:=Gs hc b i (by omega)
 refine tt (cd (fun TP=>?_) (fun TP=>?_))
 · refine tt ⟨ix,?_⟩
   have W8:=(hc.pr i (by omega)).ml
   have hml2:(c.U.getD i ac).Pd.length≤100:=W8
   refine tt ⟨rfl,⟨by omega,hq0⟩,?_⟩
   intro k q1 F'
   obtain⟨hk,S9⟩:=F'
   refine tt ⟨ix,tt (cd (fun hc40=>?_) (fun hc40=>?_))⟩
   · have Sw:k<(aZ c i).Pd.length:=(by omega:k<(c.U.getD i ac).Pd.length)
     have TE:1≤((c.U.getD i ac).Pd.getD k aA).w∧((c.U.getD i ac).Pd.getD k aA).w≤8:=aR.1 ((hc.pr i (by omega)).mw k Sw).1
     have hwo:1≤((c.U.getD i ac).Pd.getD k aA).words∧((c.U.getD i ac).Pd.getD k aA).words≤4:=((hc.pr i (by omega)).mw k Sw).2.1
     have hqb:=AB (hc.pr i (by omega)) b (jA b c i) k (Nat.le_of_lt Sw)
     have hqb2:rp b (c.U.getD i ac) (jA b c i) k≤jA b c i+4*k:=hqb
     have hq3:rp b (c.U.getD i ac) (jA b c i) k≤1000000:=by omega
     refine⟨oK,tt ⟨rfl,⟨by omega,S9⟩,?_⟩⟩
     intro z q2 F'
     obtain⟨hz,Tg⟩:=F'
     refine tt ⟨ix,tt ⟨ix,tt (cd (fun hc55=>?_) (fun hc55=>?_))⟩⟩
     · refine tt (cd (fun Wf=>?_) (fun Wf=>?_))
       · have hv:jY (b.getD q2 0) ((c.U.getD i ac).Pd.getD k aA).w=vP b ((c.U.getD i ac).Pd.getD k aA).w (rp b (c.U.getD i ac) (jA b c i) k) z:=by unfold vP;rw[Pn (by omega),Tg]
         have hyq:=b5 hb q2
         refine tt ⟨ix,tt ⟨w6,tt ⟨ix,tt ⟨ix,tt ⟨(KW (b.getD q2 0) ((((c.U.getD i ac).Pd).getD k aA).w) (by omega) (by omega)),tt ⟨⟨⟨rfl,oK⟩,oK⟩,⟨(aY (by omega) hv),tt ⟨w6,tt ⟨w6,tt ⟨(z+1,q2+1),rfl,?_,(?_:((c.U.getD i ac).Pd.getD k aA).words.toNat-(z+1)<((c.U.getD i ac).Pd.getD k aA).words.toNat-z)⟩⟩⟩⟩⟩⟩⟩⟩⟩⟩
         · exact⟨by omega,by omega⟩
         · omega
       · have hv:(0:Int)=vP b ((c.U.getD i ac).Pd.getD k aA).w (rp b (c.U.getD i ac) (jA b c i) k) z:=by unfold vP;rw[Pj (by omega)]
         refine tt ⟨⟨⟨rfl,oK⟩,oK⟩,⟨(aY (by omega) hv),tt ⟨w6,tt ⟨w6,tt ⟨(z+1,q2+1),rfl,?_,(?_:((c.U.getD i ac).Pd.getD k aA).words.toNat-(z+1)<((c.U.getD i ac).Pd.getD k aA).words.toNat-z)⟩⟩⟩⟩⟩
         · exact⟨by omega,by omega⟩
         · omega
     · refine tt ⟨⟨⟨rfl,oK⟩,oK⟩,⟨(aY (by omega) (by rw[show z=((c.U.getD i ac).Pd.getD k aA).words.toNat by omega];rfl)),tt ⟨w6,tt ⟨(k+1,q2),rfl,?_,(?_:(c.U.getD i ac).Pd.length-(k+1)<(c.U.getD i ac).Pd.length-k)⟩⟩⟩⟩
       · exact⟨by omega,by rw[Tg,show z=((c.U.getD i ac).Pd.getD k aA).words.toNat by omega];rfl⟩
       · omega
   · refine tt ⟨⟨⟨rfl,rfl,oK⟩,oK⟩,⟨(aY (by omega) (by rw[show k=(c.U.getD i ac).Pd.length by omega];rfl)),tt ⟨w6,tt ⟨(i+1,q1),rfl,?_,(?_:c.U.length-(i+1)<c.U.length-i)⟩⟩⟩⟩
     · exact⟨by omega,by rw[S9,show k=(c.U.getD i ac).Pd.length by omega];rfl⟩
     · omega
 · refine tt ⟨(congrArg _ (?_:(tab (D1 b c s) i)=((gB c s b).U))),(congrArg _ (?_:s.J=((gB c s b).J))),oK⟩
   · rw[show i=c.U.length by omega];rfl
   · rfl
end Go.Proofs.Ytnlmlkbaflmgcaa
