/-
  Clocks that know nothing of each other.
-/
import Derived.Test.YtcejcppjedhicaaQTfG
namespace Go.Proofs.Ytcejcppjedhicaa
open Go.RowKit
set_option linter.unusedVariables false
set_option linter.unusedSimpArgs false
abbrev zZ (sh:Int) (b:List Int):ak:=(.var 29 [(dL 6 mB aa ((ab sh b).U)),(dL 5 js bx ((ab sh b).J))])
abbrev GS (sh:Int) (b:List Int) (w:Wf):List ak:=[(.var 24 [(dI .u8 sh),(LY b)]),(zZ sh b),.dead,.dead,.dead,.dead,.dead,.dead,.dead,.dead,.dead,.dead,(.var 39 [(dL 2 df cB w.s),(dL 8 cP ay w.q),(dL 1 af [] w.wait),(dL 1 af [] w.seen),(LI w.cnt)]),.dead,.dead]
set_option maxRecDepth 100000
abbrev c4:Ct:=⟨4,[],false,(dB true)⟩
theorem Kv  : CC c4:=by
 have o0:=(xZ (c:=1) (by decide) (by decide)).1
 have o1:=(rk o0 3 (by decide)).1
 have o2:=uW o1 true
 have o3:=uW o2 false
 have o4:=uW o3 true
 refine ap.vc (V:=TT 1 (CC (c8 1)∧TT 7 (CC (c9 (bp 1))∧TT 2 (CC (x7 (bp 1) true 3)∧TT 7 (CC (c9 (ae (bp 1) true 3))∧TT 2 (CC (GP (ae (bp 1) true 3) true)∧TT 8 (CC (c9 (aH (ae (bp 1) true 3) true))∧TT 2 (CC (GP (aH (ae (bp 1) true 3) true) false)∧TT 8 (CC (c9 (aH (aH (ae (bp 1) true 3) true) false))∧TT 2 (CC (GP (aH (aH (ae (bp 1) true 3) true) false) true)∧TT 12 ((True∧(true&&bw (bp 1))=true)∧TT 4 ((True∧(!((gA (ae (bp 1) true 3) true).has))=true)∧TT 3 ((True∧((gA (aH (aH (ae (bp 1) true 3) true) false) true).has)=true)∧TT 6 ((((gA (aH (aH (ae (bp 1) true 3) true) false) true).v)==3)=true∧True)))))))))))))) (.w 1 [(0,(c8 1).O)]<|.w 2 [(1,(c9 (bp 1)).O)]<|.w 4 [(1,(x7 (bp 1) true 3).O)]<|.w 5 [(1,(c9 (ae (bp 1) true 3)).O)]<|.w 7 [(1,(GP (ae (bp 1) true 3) true).O)]<|.w 8 [(1,(c9 (aH (ae (bp 1) true 3) true)).O)]<|.w 10 [(1,(GP (aH (ae (bp 1) true 3) true) false).O)]<|.w 11 [(1,(c9 (aH (aH (ae (bp 1) true 3) true) false)).O)]<|.w 13 [(1,(GP (aH (aH (ae (bp 1) true 3) true) false) true).O)]<|.w 14 [(5,.val (dB true)),(10,.val (dB true)),(14,.val (dB true))]<|.e) Try.func4 rfl rfl rfl (by kernel_rfl) ?_
 refine tt ⟨(Db 1 (by decide) (by decide)),tt ⟨(bJ (bp 1) o0),tt ⟨(d9 (bp 1) true 3 o0),tt ⟨(bJ (ae (bp 1) true 3) o1),tt ⟨(mc (ae (bp 1) true 3) true o1),tt ⟨(bJ (aH (ae (bp 1) true 3) true) o2),tt ⟨(mc (aH (ae (bp 1) true 3) true) false o2),tt ⟨(bJ (aH (aH (ae (bp 1) true 3) true) false) o3),tt ⟨(mc (aH (aH (ae (bp 1) true 3) true) false) true o3),tt ⟨(bT (by decide)),tt ⟨(mT (by decide)),tt ⟨(bT (by decide)),tt ⟨?_,oK⟩⟩⟩⟩⟩⟩⟩⟩⟩⟩⟩⟩⟩
 first | rfl | decide
abbrev c3 (sh:Int) (b wb kb:List Int):Ct:=⟨3,[(.agg [(dI .u8 sh),(LY b)]),(LY wb),(LY kb)],false,(dB true)⟩
abbrev iA (sh:Int) (b:List Int) (wb:List Int) (kb:List Int):Lp (Nat×List (List Int)):=yP [7,8,9,10,11,12] 14 (fun (i:Nat) (se:List (List Int))=>⟨[(7,(dB true)),(8,(.ptr 1 0 0 0)),(9,(dL 1 af [] (bc (ab sh b) wb))),(10,(dL 1 eS .empty (cC kb))),(11,(.ptr 12 0 0 0)),(12,(i6 (i:Int)))],[(.var 24 [(dI .u8 sh),(LY b)]),(zZ sh b),.dead,.dead,.dead,(.arr 35 1 af [] se),.dead,.dead,.dead,.dead,(.arr 3 1 (ac .i64) 0 (List.replicate (ab sh b).U.length (0:Int))),.dead,(.var 39 [.nils,(.own 13),(dL 1 af [] (bc (ab sh b) wb)),(.own 5),(.own 10)]),(.arr 42 8 cP ay (tab (fun z8=>bp (dD (ab sh b) z8)) i))]⟩) (fun (i:Nat) (se:List (List Int))=>i≤(ab sh b).J.length∧se=fp (ab sh b) (bc (ab sh b) wb) i) (fun (i:Nat) (se:List (List Int))=>(ab sh b).J.length-i)
abbrev kz (sh:Int) (b:List Int) (wb:List Int) (kb:List Int) (i:Nat) (se:List (List Int)):Lp (Nat):=lm [7,8,9,10,11,15] 15 (fun (j:Nat)=>⟨[(7,(dB true)),(8,(.ptr 1 0 0 0)),(9,(dL 1 af [] (bc (ab sh b) wb))),(10,(dL 1 eS .empty (cC kb))),(11,(.ptr 12 0 0 0)),(15,(i6 (j:Int)))],[(.var 24 [(dI .u8 sh),(LY b)]),(zZ sh b),.dead,.dead,.dead,(.arr 35 1 af [] se),.dead,.dead,.dead,.dead,(.arr 3 1 (ac .i64) 0 (List.replicate (ab sh b).U.length (0:Int))),.dead,(.var 39 [(.own 14),(.own 13),(dL 1 af [] (bc (ab sh b) wb)),(.own 5),(.own 10)]),(.arr 42 8 cP ay (tab (fun z8=>bp (dD (ab sh b) z8)) i)),(.arr 50 2 df cB (tab (fun z8=>aQ (aJ (ab sh b) z8)) j))]⟩) (fun (j:Nat)=>j≤(ab sh b).U.length) (fun (j:Nat)=>(ab sh b).U.length-j)
abbrev kA (sh:Int) (b:List Int) (wb:List Int) (kb:List Int):Lp (Nat×Wf):=yP [7,8,9,10,11,16] 15 (fun (t:Nat) (w:Wf)=>⟨[(7,(dB true)),(8,(.ptr 1 0 0 0)),(9,(dL 1 af [] (bc (ab sh b) wb))),(10,(dL 1 eS .empty (cC kb))),(11,(.ptr 12 0 0 0)),(16,(i6 (t:Int)))],(GS sh b w)⟩) (fun (t:Nat) (w:Wf)=>t≤(cC kb).length∧Ec (ab sh b) (bc (ab sh b) wb) t w) (fun (t:Nat) (w:Wf)=>(cC kb).length-t)
abbrev iB (sh:Int) (b:List Int) (wb:List Int) (kb:List Int) (t:Nat) (w:Wf):Lp (Nat×List Fr):=yP [7,8,9,10,11,16,17,18] 16 (fun (k:Nat) (al:List Fr)=>⟨[(7,(dB true)),(8,(.ptr 1 0 0 0)),(9,(dL 1 af [] (bc (ab sh b) wb))),(10,(dL 1 eS .empty (cC kb))),(11,(.ptr 12 0 0 0)),(16,(i6 (t:Int))),(17,(.own 15)),(18,(i6 (k:Int)))],[(.var 24 [(dI .u8 sh),(LY b)]),(zZ sh b),.dead,.dead,.dead,.dead,.dead,.dead,.dead,.dead,.dead,.dead,(.var 39 [(dL 2 df cB w.s),(dL 8 cP ay w.q),(dL 1 af [] w.wait),(dL 1 af [] w.seen),(LI w.cnt)]),.dead,.dead,(.arr 68 6 GF kM al)]⟩) (fun (k:Nat) (al:List Fr)=>k≤(ab sh b).U.length∧al=cN (ab sh b) w ((cC kb).getD t .empty) k) (fun (k:Nat) (al:List Fr)=>(ab sh b).U.length-k)
abbrev kB (sh:Int) (b:List Int) (wb:List Int) (kb:List Int) (t:Nat) (w:Wf) (al:List Fr):Lp (Nat×Wf):=yP [7,8,9,10,11,16,17,20] 16 (fun (n:Nat) (v:Wf)=>⟨[(7,(dB true)),(8,(.ptr 1 0 0 0)),(9,(dL 1 af [] (bc (ab sh b) wb))),(10,(dL 1 eS .empty (cC kb))),(11,(.ptr 12 0 0 0)),(16,(i6 (t:Int))),(17,(dL 6 GF kM al)),(20,(i6 (n:Int)))],[(.var 24 [(dI .u8 sh),(LY b)]),(zZ sh b),.dead,.dead,.dead,.dead,.dead,.dead,.dead,.dead,.dead,.dead,(.var 39 [(dL 2 df cB v.s),(dL 8 cP ay v.q),(dL 1 af [] v.wait),(dL 1 af [] v.seen),(LI v.cnt)]),.dead,.dead,.dead]⟩) (fun (n:Nat) (v:Wf)=>n≤al.length∧∃m0 m,(iu (ab sh b) (u0 (ab sh b) (bc (ab sh b) wb)) m0∧(∀q,m0.count q≤t)∧m0.length≤100*t)∧Bm (ab sh b) w (b6 (ab sh b) (u0 (ab sh b) (bc (ab sh b) wb)) m0) al n v m) (fun (n:Nat) (v:Wf)=>al.length-n)
abbrev kC (sh:Int) (b:List Int) (wb:List Int) (kb:List Int) (w:Wf):Lp (Nat):=lm [7,8,11,24,26] 15 (fun (r:Nat)=>⟨[(7,(dB true)),(8,(.ptr 1 0 0 0)),(11,(.ptr 12 0 0 0)),(24,(LI ((cX (ab sh b) (bc (ab sh b) wb) (((cC kb).length:Nat):Int)).2.1))),(26,(i6 (r:Int)))],(GS sh b w)⟩) (fun (r:Nat)=>r≤(cX (ab sh b) (bc (ab sh b) wb) ((cC kb).length:Int)).2.1.length) (fun (r:Nat)=>(cX (ab sh b) (bc (ab sh b) wb) ((cC kb).length:Int)).2.1.length-r)
abbrev fZ (sh:Int) (b:List Int) (w:Wf):Lp (Nat):=lm [7,8,11,27] 15 (fun (s:Nat)=>⟨[(7,(dB true)),(8,(.ptr 1 0 0 0)),(11,(.ptr 12 0 0 0)),(27,(i6 (s:Int)))],(GS sh b w)⟩) (fun (s:Nat)=>s≤(ab sh b).J.length) (fun (s:Nat)=>(ab sh b).J.length-s)
theorem Ir (sh:Int) (b wb kb:List Int) (g0:0≤sh) (g1:sh≤255) (gb:oM b) (g_wb:oM wb) (g_kb:oM kb):CC (c3 sh b wb kb):=by
 have hc:=I0 g0 g1 gb
 have hpt:MJ (ab sh b):=LO
 have hin:=LP g0 g1 gb g_wb
 have hz:=Ko hin hc
 have UF:=hin.l
 have RA:=H5 kb
 have Re:=hc.nl
 have hcl:=hc.cl
 refine ap.vc (V:=TT 2 (CC c4∧TT 4 (CC (c5 sh b)∧TT 4 (CC (c6 (ab sh b) wb)∧TT 1 (CC (c7 kb)∧TT 5 ((((0:Int)≤((((ab sh b).J).length:Nat):Int)∧((((ab sh b).J).length:Nat):Int)≤((((ab sh b).J).length:Nat):Int)∧((((ab sh b).J).length:Nat):Int)≤137438953472)∧(List.replicate (ab sh b).J.length ([]:List Int)).length=((ab sh b).J).length∧∀x∈(List.replicate (ab sh b).J.length ([]:List Int)),dp [.nils] (af x))∧TT 4 ((((0:Int)≤((((ab sh b).U).length:Nat):Int)∧((((ab sh b).U).length:Nat):Int)≤((((ab sh b).U).length:Nat):Int)∧((((ab sh b).U).length:Nat):Int)≤137438953472)∧(List.replicate (ab sh b).U.length (0:Int)).length=((ab sh b).U).length∧∀x∈(List.replicate (ab sh b).U.length (0:Int)),dp [(i6 0)] ((ac .i64) x))∧TT 4 (GO (iA sh b wb kb) (0,List.replicate (ab sh b).J.length ([]:List Int)) (∀i se,(iA sh b wb kb).inv (i,se)→TT 5 (CD ((i:Int)<((((ab sh b).J).length:Nat):Int)) (TT 3 (IX (i:Int) (((ab sh b).J).length)∧TT 2 ((True∧(GZ 1 ((((ab sh b).J).getD i bx).cap))=(dD (ab sh b) i))∧CC (c8 (dD (ab sh b) i))∧TT 10 (CC (c9 (bp (dD (ab sh b) i)))∧TT 5 (av [[(i6 ((bp (dD (ab sh b) i)).cap)),(LI ((bp (dD (ab sh b) i)).NJ)),(i6 ((bp (dD (ab sh b) i)).wr)),(i6 ((bp (dD (ab sh b) i)).rd)),(i6 ((bp (dD (ab sh b) i)).ws0)),(i6 ((bp (dD (ab sh b) i)).ws1)),(i6 ((bp (dD (ab sh b) i)).rs0)),(i6 ((bp (dD (ab sh b) i)).rs1))]] ([bp (dD (ab sh b) i)].map cP)∧((tab (fun z8=>bp (dD (ab sh b) z8)) i).length+([bp (dD (ab sh b) i)].map cP).length≤137438953472∧(tab (fun z8=>bp (dD (ab sh b) z8)) i).map cP++[bp (dD (ab sh b) i)].map cP=(tab (fun z8=>bp (dD (ab sh b) z8)) (i+1)).map cP)∧TT 5 (IX (i:Int) (((ab sh b).J).length)∧TT 3 (CD (((((ab sh b).J).getD i bx).frm)<0) (TT 5 (IX (i:Int) ((bc (ab sh b) wb).length)∧TT 1 (IX (i:Int) se.length∧(i<se.length∧(se.map af).set i ((af (se.getD i [])).take 0++[(.sl 1 (ac .i64) 0 ((bc (ab sh b) wb).getD i []))]++(af (se.getD i [])).drop (0+1))=(se.set i ((bc (ab sh b) wb).getD i [])).map af)∧TT 1 (W6 ((i+1:Nat):Int)∧TT 1 (AG (iA sh b wb kb) (i,se) (i+1,se.set i ((bc (ab sh b) wb).getD i []))))))) (TT 1 (W6 ((i+1:Nat):Int)∧TT 1 (AG (iA sh b wb kb) (i,se) (i+1,se))))))))))) (TT 1 (GO (kz sh b wb kb i se) 0 (∀j,(kz sh b wb kb i se).inv j→TT 5 (CD ((j:Int)<((((ab sh b).U).length:Nat):Int)) (TT 5 (IX (j:Int) (((ab sh b).U).length)∧TT 1 (CC (MM (((ab sh b).U).getD j aa))∧av [[(LI ((aQ (((ab sh b).U).getD j aa)).NI)),(dL 1 af [] ((aQ (((ab sh b).U).getD j aa)).NH))]] ([(⟨(aQ (((ab sh b).U).getD j aa)).NI,(aQ (((ab sh b).U).getD j aa)).NH⟩:Ps)].map df)∧((tab (fun z8=>aQ (aJ (ab sh b) z8)) j).length+([(⟨(aQ (((ab sh b).U).getD j aa)).NI,(aQ (((ab sh b).U).getD j aa)).NH⟩:Ps)].map df).length≤137438953472∧(tab (fun z8=>aQ (aJ (ab sh b) z8)) j).map df++[(⟨(aQ (((ab sh b).U).getD j aa)).NI,(aQ (((ab sh b).U).getD j aa)).NH⟩:Ps)].map df=(tab (fun z8=>aQ (aJ (ab sh b) z8)) (j+1)).map df)∧TT 3 (W6 ((j+1:Nat):Int)∧TT 1 (AG (kz sh b wb kb i se) j (j+1)))))) (TT 1 (((tab (fun z8=>aQ (aJ (ab sh b) z8)) (ab sh b).U.length).length=(tab (fun z8=>aQ (aJ (ab sh b) z8)) j).length∧(∀z7∈(tab (fun z8=>aQ (aJ (ab sh b) z8)) (ab sh b).U.length),(df z7).length=2)∧∀zi zj,zi<(tab (fun z8=>aQ (aJ (ab sh b) z8)) j).length→zj<2→gn df cB (tab (fun z8=>aQ (aJ (ab sh b) z8)) j) zi zj=gn df cB (tab (fun z8=>aQ (aJ (ab sh b) z8)) (ab sh b).U.length) zi zj)∧TT 1 (((tab (fun z8=>bp (dD (ab sh b) z8)) (ab sh b).J.length).length=(tab (fun z8=>bp (dD (ab sh b) z8)) i).length∧(∀z7∈(tab (fun z8=>bp (dD (ab sh b) z8)) (ab sh b).J.length),(cP z7).length=8)∧∀zi zj,zi<(tab (fun z8=>bp (dD (ab sh b) z8)) i).length→zj<8→gn cP ay (tab (fun z8=>bp (dD (ab sh b) z8)) i) zi zj=gn cP ay (tab (fun z8=>bp (dD (ab sh b) z8)) (ab sh b).J.length) zi zj)∧TT 1 (((fp (ab sh b) (bc (ab sh b) wb) (ab sh b).J.length).length=se.length∧(∀z7∈(fp (ab sh b) (bc (ab sh b) wb) (ab sh b).J.length),(af z7).length=1)∧∀zi zj,zi<se.length→zj<1→gn af [] se zi zj=gn af [] (fp (ab sh b) (bc (ab sh b) wb) (ab sh b).J.length) zi zj)∧TT 1 (GO (kA sh b wb kb) (0,(w0 (ab sh b) (bc (ab sh b) wb))) (∀t w,(kA sh b wb kb).inv (t,w)→TT 4 (CD ((t:Int)<(((cC kb).length:Nat):Int)) (av [] (([]:List Fr).map GF)∧TT 2 (GO (iB sh b wb kb t w) (0,([]:List Fr)) (∀k al,(iB sh b wb kb t w).inv (k,al)→TT 5 (CD ((k:Int)<((((ab sh b).U).length:Nat):Int)) (TT 3 (IX (k:Int) (((ab sh b).U).length)∧TT 4 (IX (t:Int) ((cC kb).length)∧TT 2 (CB (((((ab sh b).U).getD k aa).clock).toList==((cC kb).getD t .empty).toList) (TT 3 (CC (MT (ab sh b) w k)∧TT 7 (IX (k:Int) (((ab sh b).U).length)∧TT 4 (IX (k:Int) w.s.length∧TT 5 (CC (JL (((ab sh b).U).getD k aa) (w.s.getD k cB) (fV (ab sh b) w k) (iz (ab sh b) w k))∧TT 1 (av [[(i6 (k:Int)),(dB ((aR (((ab sh b).U).getD k aa) (w.s.getD k cB) (fV (ab sh b) w k) (iz (ab sh b) w k)).fires)),(LI (((aR (((ab sh b).U).getD k aa) (w.s.getD k cB) (fV (ab sh b) w k) (iz (ab sh b) w k)).s).NI)),(dL 1 af [] (((aR (((ab sh b).U).getD k aa) (w.s.getD k cB) (fV (ab sh b) w k) (iz (ab sh b) w k)).s).NH)),(LB ((aR (((ab sh b).U).getD k aa) (w.s.getD k cB) (fV (ab sh b) w k) (iz (ab sh b) w k)).pops)),(dL 2 cv aj ((aR (((ab sh b).U).getD k aa) (w.s.getD k cB) (fV (ab sh b) w k) (iz (ab sh b) w k)).NG))]] ([(⟨(k:Int),aR (((ab sh b).U).getD k aa) (w.s.getD k cB) (fV (ab sh b) w k) (iz (ab sh b) w k)⟩:Fr)].map GF)∧(al.length+([(⟨(k:Int),aR (((ab sh b).U).getD k aa) (w.s.getD k cB) (fV (ab sh b) w k) (iz (ab sh b) w k)⟩:Fr)].map GF).length≤137438953472∧al.map GF++[(⟨(k:Int),aR (((ab sh b).U).getD k aa) (w.s.getD k cB) (fV (ab sh b) w k) (iz (ab sh b) w k)⟩:Fr)].map GF=(al++[(⟨(k:Int),eX (ab sh b) w k⟩:Fr)]).map GF)∧TT 2 (W6 ((k+1:Nat):Int)∧TT 1 (AG (iB sh b wb kb t w) (k,al) (k+1,al++[(⟨(k:Int),eX (ab sh b) w k⟩:Fr)]))))))))) (TT 1 (W6 ((k+1:Nat):Int)∧TT 1 (AG (iB sh b wb kb t w) (k,al) (k+1,al)))))))) (TT 1 (GO (kB sh b wb kb t w al) (0,w) (∀n v,(kB sh b wb kb t w al).inv (n,v)→TT 4 (CD ((n:Int)<(al.length:Int)) (TT 4 (IX (n:Int) al.length∧TT 1 (CC (MU (ab sh b) v (al.getD n kM))∧TT 11 (W6 ((n+1:Nat):Int)∧TT 1 (AG (kB sh b wb kb t w al) (n,v) (n+1,bi (ab sh b) v (al.getD n kM).p.toNat (al.getD n kM).f)))))) (TT 1 (W6 ((t+1:Nat):Int)∧TT 1 (AG (kA sh b wb kb) (t,w) (t+1,v)))))))))))) (TT 4 (CC (MK (ab sh b) (bc (ab sh b) wb) (((cC kb).length:Nat):Int))∧TT 9 ((True∧(!decide (((cX (ab sh b) (bc (ab sh b) wb) (((cC kb).length:Nat):Int)).2.2)=0))=false)∧TT 3 (CC (MG w.seen ((cX (ab sh b) (bc (ab sh b) wb) (((cC kb).length:Nat):Int)).1))∧TT 2 ((True∧(!(p8 w.seen ((cX (ab sh b) (bc (ab sh b) wb) (((cC kb).length:Nat):Int)).1)))=false)∧TT 7 ((!decide (((((cX (ab sh b) (bc (ab sh b) wb) (((cC kb).length:Nat):Int)).2.1).length:Nat):Int)=(w.cnt.length:Int)))=false∧TT 1 (GO (kC sh b wb kb w) 0 (∀r,(kC sh b wb kb w).inv r→TT 4 (CD ((r:Int)<((((cX (ab sh b) (bc (ab sh b) wb) (((cC kb).length:Nat):Int)).2.1).length:Nat):Int)) (TT 3 (IX (r:Int) w.cnt.length∧TT 3 (IX (r:Int) (((cX (ab sh b) (bc (ab sh b) wb) (((cC kb).length:Nat):Int)).2.1).length)∧TT 2 ((decide ((w.cnt.getD r 0)>(((cX (ab sh b) (bc (ab sh b) wb) (((cC kb).length:Nat):Int)).2.1).getD r 0)))=false∧TT 1 (W6 ((r+1:Nat):Int)∧TT 1 (AG (kC sh b wb kb w) r (r+1))))))) (TT 1 (GO (fZ sh b w) 0 (∀s,(fZ sh b w).inv s→TT 5 (CD ((s:Int)<((((ab sh b).J).length:Nat):Int)) (TT 3 (IX (s:Int) w.q.length∧TT 1 (CC (LZ (w.q.getD s ay))∧TT 1 (CS (((((ab sh b).J).getD s bx).frm)≥0) (CS (((((ab sh b).J).getD s bx).dst)≥0) (TT 3 (IX (s:Int) (((ab sh b).J).length)∧TT 3 ((True∧(decide (((((ab sh b).J).getD s bx).frm)≥0))=true)∧TT 3 (IX (s:Int) (((ab sh b).J).length)∧TT 4 ((True∧(decide (((((ab sh b).J).getD s bx).dst)≥0))=true)∧TT 5 (IX (s:Int) w.seen.length∧TT 3 ((True∧(decide ((((qW (w.q.getD s ay)).length:Nat):Int)>(((w.seen.getD s []).length:Nat):Int)))=false)∧TT 4 (IX (s:Int) w.seen.length∧TT 4 (IX (s:Int) w.seen.length∧TT 4 ((True∧(IntKind.wrap .i64 ((((w.seen.getD s []).length:Nat):Int)-(((qW (w.q.getD s ay)).length:Nat):Int)))=((((w.seen.getD s []).length-(qW (w.q.getD s ay)).length):Nat):Int))∧(0≤((((w.seen.getD s []).length-(qW (w.q.getD s ay)).length):Nat):Int)∧((((w.seen.getD s []).length-(qW (w.q.getD s ay)).length):Nat):Int)≤((w.seen.getD s []).length:Int)∧((w.seen.getD s []).length:Int)≤((w.seen.getD s []).length:Int))∧CC (Ke (qW (w.q.getD s ay)) ((w.seen.getD s []).drop ((w.seen.getD s []).length-(qW (w.q.getD s ay)).length)))∧TT 3 ((!decide ((qW (w.q.getD s ay))=((w.seen.getD s []).drop ((w.seen.getD s []).length-(qW (w.q.getD s ay)).length))))=false∧TT 1 (W6 ((s+1:Nat):Int)∧TT 1 (AG (fZ sh b w) s (s+1)))))))))))))) (TT 3 (IX (s:Int) (((ab sh b).J).length)∧TT 3 ((True∧(decide (((((ab sh b).J).getD s bx).frm)≥0))=true)∧TT 3 (IX (s:Int) (((ab sh b).J).length)∧TT 4 ((True∧(decide (((((ab sh b).J).getD s bx).dst)≥0))=false)∧TT 2 (W6 ((s+1:Nat):Int)∧TT 1 (AG (fZ sh b w) s (s+1))))))))) (TT 3 (IX (s:Int) (((ab sh b).J).length)∧TT 3 ((True∧(decide (((((ab sh b).J).getD s bx).frm)≥0))=false)∧TT 4 (W6 ((s+1:Nat):Int)∧TT 1 (AG (fZ sh b w) s (s+1)))))))))) (TT 3 (true=true∧True)))))))))))))))))))))))))))))))))))) (.w 1 [(0,c4.O)]<|.w 4 [(1,(c5 sh b).O)]<|.w 5 [(2,(c6 (ab sh b) wb).O),(4,(c7 kb).O)]<|.w 6 [(3,.box 35 1 af [] (List.replicate (ab sh b).J.length ([]:List Int))),(8,.box 3 1 (ac .i64) 0 (List.replicate (ab sh b).U.length (0:Int)))]<|.g 7 12 1 42 8 cP ay<|.l (iA sh b wb kb) (0,List.replicate (ab sh b).J.length ([]:List Int)) (fun ⟨i,se⟩=>.b 53 (.w 10 [(6,.val (i6 (dD (ab sh b) i))),(7,(c8 (dD (ab sh b) i)).O)]<|.w 11 [(4,(c9 (bp (dD (ab sh b) i))).O)]<|.w 13 [(3,.box 42 8 cP ay [bp (dD (ab sh b) i)]),(4,.box 42 8 cP ay (tab (fun z8=>bp (dD (ab sh b) z8)) (i+1)))]<|.b 86 (.w 15 [(8,.box 35 1 af [] (se.set i ((bc (ab sh b) wb).getD i [])))]<|.w 9 [(1,.val (i6 ((i+1:Nat):Int)))]<|.e) (.w 9 [(1,.val (i6 ((i+1:Nat):Int)))]<|.e)) (.g 16 12 0 50 2 df cB<|.l (kz sh b wb kb i se) 0 (fun j=>.b 99 (.w 19 [(7,(MM (((ab sh b).U).getD j aa)).O),(8,.box 50 2 df cB [(⟨(aQ (((ab sh b).U).getD j aa)).NI,(aQ (((ab sh b).U).getD j aa)).NH⟩:Ps)]),(9,.box 50 2 df cB (tab (fun z8=>aQ (aJ (ab sh b) z8)) (j+1)))]<|.w 18 [(1,.val (i6 ((j+1:Nat):Int)))]<|.e) (.gh 20 (KU 14)<|.gh 20 (KV 14 df cB (tab (fun z8=>aQ (aJ (ab sh b) z8)) (ab sh b).U.length))<|.gh 20 (KU 13)<|.gh 20 (KV 13 cP ay (tab (fun z8=>bp (dD (ab sh b) z8)) (ab sh b).J.length))<|.gh 20 (KU 5)<|.gh 20 (KV 5 af [] (fp (ab sh b) (bc (ab sh b) wb) (ab sh b).J.length))<|.f 20 14<|.f 20 13<|.f 20 5<|.f 20 10<|.l (kA sh b wb kb) (0,(w0 (ab sh b) (bc (ab sh b) wb))) (fun ⟨t,w⟩=>.b 116 (.w 23 [(0,.box 68 6 GF kM ([]:List Fr))]<|.l (iB sh b wb kb t w) (0,([]:List Fr)) (fun ⟨k,al⟩=>.b 124 (.b 137 (.w 28 [(3,(MT (ab sh b) w k).O)]<|.w 29 [(16,(JL (((ab sh b).U).getD k aa) (w.s.getD k cB) (fV (ab sh b) w k) (iz (ab sh b) w k)).O),(18,.box 68 6 GF kM [(⟨(k:Int),aR (((ab sh b).U).getD k aa) (w.s.getD k cB) (fV (ab sh b) w k) (iz (ab sh b) w k)⟩:Fr)]),(19,.box 68 6 GF kM (al++[(⟨(k:Int),eX (ab sh b) w k⟩:Fr)]))]<|.w 26 [(1,.val (i6 ((k+1:Nat):Int)))]<|.e) (.w 26 [(1,.val (i6 ((k+1:Nat):Int)))]<|.e)) (.f 30 15<|.l (kB sh b wb kb t w al) (0,w) (fun ⟨n,v⟩=>.b 165 (.w 33 [(6,(MU (ab sh b) v (al.getD n kM)).O),(11,.val .junk)]<|.w 32 [(1,.val (i6 ((n+1:Nat):Int)))]<|.e) (.w 22 [(1,.val (i6 ((t+1:Nat):Int)))]<|.e))))) (.w 37 [(4,(MK (ab sh b) (bc (ab sh b) wb) (((cC kb).length:Nat):Int)).O)]<|.w 38 [(2,.val (dB false)),(6,(MG w.seen ((cX (ab sh b) (bc (ab sh b) wb) (((cC kb).length:Nat):Int)).1)).O),(9,.val (dB false))]<|.u 206 (.l (kC sh b wb kb w) 0 (fun r=>.b 210 (.u 222 (.w 42 [(1,.val (i6 ((r+1:Nat):Int)))]<|.e)) (.l (fZ sh b w) 0 (fun s=>.b 227 (.w 48 [(5,(LZ (w.q.getD s ay)).O)]<|.s 49 (((((ab sh b).J).getD s bx).frm)≥0) (.s 49 (((((ab sh b).J).getD s bx).dst)≥0) (.w 49 [(7,.val (dB true)),(16,.val (dB true)),(26,.val (dB false)),(41,.val (i6 ((((w.seen.getD s []).length-(qW (w.q.getD s ay)).length):Nat):Int))),(43,(Ke (qW (w.q.getD s ay)) ((w.seen.getD s []).drop ((w.seen.getD s []).length-(qW (w.q.getD s ay)).length))).O)]<|.u 282 (.w 47 [(1,.val (i6 ((s+1:Nat):Int)))]<|.e)) (.w 49 [(7,.val (dB true)),(16,.val (dB false))]<|.w 47 [(1,.val (i6 ((s+1:Nat):Int)))]<|.e)) (.w 49 [(7,.val (dB false))]<|.w 47 [(1,.val (i6 ((s+1:Nat):Int)))]<|.e)) (.e)))))))))))) Try.func3 rfl rfl rfl (by kernel_rfl) ?_
 refine tt ⟨(Kv),tt ⟨(H9 sh b g0 g1 gb),tt ⟨(D8 (ab sh b) wb hc g_wb),tt ⟨(D9 kb g_kb),tt ⟨⟨by omega,by simp,fun x hx=>by rw[Ol hx];exact⟨rfl,oK⟩⟩,tt ⟨⟨by omega,by simp,fun x hx=>by rw[Ol hx];exact⟨rfl,oK⟩⟩,tt ⟨rfl,⟨Oy _,Ip⟩,?_⟩⟩⟩⟩⟩⟩⟩
 intro i se L'
 obtain⟨hi,R9⟩:=L'
 have hsl2:se.length=(ab sh b).J.length:=by rw[R9,fp,ax]
 refine tt (cd (fun hc53=>?_) (fun hc53=>?_))
 · refine tt ⟨ix,tt ⟨⟨oK,rfl⟩,⟨(Db (dD (ab sh b) i) (i2 uV (by omega)).1 (i2 uV (by omega)).2),tt ⟨(bJ (bp (dD (ab sh b) i)) (xZ (i2 uV (by omega)).1 (i2 uV (by omega)).2).1),tt ⟨⟨⟨rfl,rfl,rfl,rfl,rfl,rfl,rfl,rfl,oK⟩,oK⟩,⟨(ba (by omega) rfl),tt ⟨ix,tt (cd (fun Vw=>?_) (fun Vw=>?_))⟩⟩⟩⟩⟩⟩⟩
   · refine tt ⟨ix,tt ⟨ix,⟨⟨om,by simp only[OD];rfl⟩,tt ⟨w6,tt ⟨(i+1,se.set i ((bc (ab sh b) wb).getD i [])),rfl,?_,(?_:(ab sh b).J.length-(i+1)<(ab sh b).J.length-i)⟩⟩⟩⟩⟩
     · exact⟨by omega,by rw[R9];first | exact wJ (by omega) Vw | exact zF Vw⟩
     · omega
   · refine tt ⟨w6,tt ⟨(i+1,se),rfl,?_,(?_:(ab sh b).J.length-(i+1)<(ab sh b).J.length-i)⟩⟩
     · exact⟨by omega,by rw[R9];first | exact wJ (by omega) Vw | exact zF Vw⟩
     · omega
 · refine tt ⟨rfl,(Oy _),?_⟩
   intro j L'
   have hj:=L'
   refine tt (cd (fun Td=>?_) (fun Td=>?_))
   · have SR:=hc.pr j (by omega)
     refine tt ⟨ix,tt ⟨(D5 (((ab sh b).U).getD j aa) SR),⟨⟨⟨rfl,rfl,oK⟩,oK⟩,⟨(ba (by omega) rfl),tt ⟨w6,tt ⟨(j+1),rfl,(?_:(j+1)≤(ab sh b).U.length),(?_:(ab sh b).U.length-(j+1)<(ab sh b).U.length-j)⟩⟩⟩⟩⟩⟩
     · omega
     · omega
   · have SA:i=(ab sh b).J.length:=by omega
     have We:j=(ab sh b).U.length:=by omega
     refine tt ⟨(mz (by rw[We]) (fun _=>rfl)),tt ⟨(mz (by rw[SA]) (fun _=>rfl)),tt ⟨(mz (by rw[R9,SA]) (fun _=>rfl)),tt ⟨rfl,⟨Oy _,LS hc hin uV GE⟩,?_⟩⟩⟩⟩
     intro t w L'
     obtain⟨ht,hrn⟩:=L'
     refine tt (cd (fun hc116=>?_) (fun hc116=>?_))
     · obtain⟨m0,q1,q2,q3,q4,q5⟩:=hrn
       have hsl:=q2.sl
       have Ry:=q2.ql
       have Tj:=q2.wl
       have VC:=q2.el
       have hcn:=q2.cl
       refine⟨oK,tt ⟨rfl,⟨Oy _,rfl⟩,?_⟩⟩
       intro k al L'
       obtain⟨hk,QG⟩:=L'
       have hall:al.length≤(ab sh b).U.length:=by rw[QG];exact Pb qj hk
       refine tt (cd (fun hc124=>?_) (fun hc124=>?_))
       · refine tt ⟨ix,tt ⟨ix,tt ⟨fun Vx=>?_,fun Vx=>?_⟩⟩⟩
         · refine tt ⟨(Eh (ab sh b) w k hc (by omega) q2.q Ry Tj),?_⟩
           have SR:=hc.pr k (by omega)
           refine tt ⟨ix,tt ⟨ix,tt ⟨(un (((ab sh b).U).getD k aa) (w.s.getD k cB) (fV (ab sh b) w k) (iz (ab sh b) w k) SR (by rw[q2.s k (by omega)];exact q3.ps k (by omega)) (x4 hc q2 q3 (by omega)) (ax _ _)),tt ⟨⟨⟨rfl,rfl,rfl,rfl,rfl,rfl,oK⟩,oK⟩,⟨⟨by simp only[N1,Ow,Ot];omega,by simp only[Ox];rfl⟩,tt ⟨w6,tt ⟨(k+1,al++[(⟨(k:Int),eX (ab sh b) w k⟩:Fr)]),rfl,?_,(?_:(ab sh b).U.length-(k+1)<(ab sh b).U.length-k)⟩⟩⟩⟩⟩⟩⟩
           · exact⟨by omega,by rw[QG];exact(GH Vx).symm⟩
           · omega
         · refine tt ⟨w6,tt ⟨(k+1,al),rfl,?_,(?_:(ab sh b).U.length-(k+1)<(ab sh b).U.length-k)⟩⟩
           · exact⟨by omega,by rw[QG];exact(Io (fun q=>absurd (Vx.symm.trans q) (by decide))).symm⟩
           · omega
       · have R5:k=(ab sh b).U.length:=by omega
         subst R5
         have hall:al.length≤(ab sh b).U.length:=by rw[QG];exact qj
         refine tt ⟨rfl,⟨Oy _,m0,[],⟨q1,q4,q5⟩,by rw[QG];exact GD q2 q3 _⟩,?_⟩
         intro n v L'
         obtain⟨hn,m0,m,⟨q1,q4,q5⟩,hm⟩:=L'
         refine tt (cd (fun hc165=>?_) (fun hc165=>?_))
         · have hz:(al.getD n kM).p.toNat<(ab sh b).U.length∧0≤(al.getD n kM).p∧Gz (ab sh b) v (al.getD n kM).p.toNat (al.getD n kM).f:=by subst QG;exact LH hc hm (by omega)
           have hv:=hm.wu
           rw[← iv]at hv
           have hvm:(m0++m).length≤10000:=by have h1:=hm.ml;rw[NY];omega
           have hsv:=I2 hc hin (lO q1 hm.al) hvm hv
           have hcv:=fun {p:Nat} (hp:p<(ab sh b).U.length)=>Ks (p:=p) hvm hp hv
           refine tt ⟨ix,tt ⟨(Ei (ab sh b) v (al.getD n kM) hc hz.2.1 hz.1 hv.sl hv.ql hv.wl hv.el hv.cl (hcv hz.1).1 (hcv hz.1).2 hsv hz.2.2),tt ⟨w6,tt ⟨(n+1,bi (ab sh b) v (al.getD n kM).p.toNat (al.getD n kM).f),rfl,(?_:(n+1)≤al.length∧∃m0 m,(iu (ab sh b) (u0 (ab sh b) (bc (ab sh b) wb)) m0∧(∀q,m0.count q≤t)∧m0.length≤100*t)∧Bm (ab sh b) w (b6 (ab sh b) (u0 (ab sh b) (bc (ab sh b) wb)) m0) al (n+1) (bi (ab sh b) v (al.getD n kM).p.toNat (al.getD n kM).f) m),(?_:al.length-(n+1)<al.length-n)⟩⟩⟩⟩
           · subst QG
             obtain⟨m9,hm9⟩:=Ij hc hm (by omega)
             exact⟨by omega,m0,m9,⟨q1,q4,q5⟩,hm9⟩
           · omega
         · refine tt ⟨w6,tt ⟨(t+1,v),rfl,(?_:(t+1)≤(cC kb).length∧Ec (ab sh b) (bc (ab sh b) wb) (t+1) v),(?_:(cC kb).length-(t+1)<(cC kb).length-t)⟩⟩
           · have hn9:n=al.length:=by omega
             subst hn9
             subst QG
             exact⟨by omega,Ik Re q1 q4 q5 hm⟩
           · omega
     · have hte:t=(cC kb).length:=by omega
       subst hte
       have VJ:=LU hc hin (by omega) hrn
       obtain⟨m0,q1,q2,q3,q4,q5⟩:=hrn
       have Qk:=I2 hc hin q1 (by omega) q2
       have Ry:=q2.ql
       have VC:=q2.el
       have hcn:=q2.cl
       have hE1:(cX (ab sh b) (bc (ab sh b) wb) ((cC kb).length:Int)).1=cr (ab sh b) (cg (ab sh b) (bc (ab sh b) wb) (cC kb).length):=congrArg (fun q=>q.1) VJ.e
       have hE2:(cX (ab sh b) (bc (ab sh b) wb) ((cC kb).length:Int)).2.1=eM (ab sh b) (cg (ab sh b) (bc (ab sh b) wb) (cC kb).length):=congrArg (fun q=>q.2.1) VJ.e
       have hcl2:(cX (ab sh b) (bc (ab sh b) wb) ((cC kb).length:Int)).2.1.length=w.cnt.length:=by rw[hE2];exact VJ.cl
       refine tt ⟨(zp (ab sh b) (bc (ab sh b) wb) (((cC kb).length:Nat):Int) hc hpt (MD hz) (ME hz)),tt ⟨(nF (congrArg (fun q=>q.2.2) VJ.e)),tt ⟨(H2 w.seen ((cX (ab sh b) (bc (ab sh b) wb) (((cC kb).length:Nat):Int)).1) (by omega) (fun i=>Pb (Qk i) (by decide))),tt ⟨(mF (by rw[hE1];exact VJ.pr)),tt ⟨(L9 (by omega)),tt ⟨rfl,(Oy _),?_⟩⟩⟩⟩⟩⟩
       intro r L'
       have hr:=L'
       refine tt (cd (fun hc210=>?_) (fun hc210=>?_))
       · refine tt ⟨ix,tt ⟨ix,tt ⟨(N5 (by have h1:=VJ.cn r (by rw[← hE2];omega);rw[← hE2]at h1;omega)),tt ⟨w6,tt ⟨(r+1),rfl,(?_:(r+1)≤(cX (ab sh b) (bc (ab sh b) wb) ((cC kb).length:Int)).2.1.length),(?_:(cX (ab sh b) (bc (ab sh b) wb) ((cC kb).length:Int)).2.1.length-(r+1)<(cX (ab sh b) (bc (ab sh b) wb) ((cC kb).length:Int)).2.1.length-r)⟩⟩⟩⟩⟩
         · omega
         · omega
       · refine tt ⟨rfl,(Oy _),?_⟩
         intro s L'
         have hs:=L'
         refine tt (cd (fun hc227=>?_) (fun hc227=>?_))
         · have hqs:=VJ.q s (by omega)
           refine tt ⟨ix,tt ⟨(wM (w.q.getD s ay) hqs),tt ⟨fun Qe=>?_,fun Qe=>?_⟩⟩⟩
           · refine⟨fun Qy=>?_,fun Qy=>?_⟩
             · refine tt ⟨ix,tt ⟨(vT Qe),tt ⟨ix,tt ⟨(vT Qy),tt ⟨ix,tt ⟨(vF (by have h9:=(VJ.sf s (by omega) (show ¬((ab sh b).J.getD s bx).frm<0 by omega) (show ¬((ab sh b).J.getD s bx).dst<0 by omega)).1;omega)),tt ⟨ix,tt ⟨ix,tt ⟨⟨oK,(by have h9:=(VJ.sf s (by omega) (show ¬((ab sh b).J.getD s bx).frm<0 by omega) (show ¬((ab sh b).J.getD s bx).dst<0 by omega)).1;have:=Qk s;rw[IB rfl (by omega) (by omega)];omega)⟩,⟨om,⟨(Gr (qW (w.q.getD s ay)) ((w.seen.getD s []).drop ((w.seen.getD s []).length-(qW (w.q.getD s ay)).length)) (by have:=ri hqs;have:=Gt hqs;have:=hqs.c8;omega)),tt ⟨(L9 (VJ.sf s (by omega) (show ¬((ab sh b).J.getD s bx).frm<0 by omega) (show ¬((ab sh b).J.getD s bx).dst<0 by omega)).2),tt ⟨w6,tt ⟨(s+1),rfl,(?_:(s+1)≤(ab sh b).J.length),(?_:(ab sh b).J.length-(s+1)<(ab sh b).J.length-s)⟩⟩⟩⟩⟩⟩⟩⟩⟩⟩⟩⟩⟩⟩
               · omega
               · omega
             · refine tt ⟨ix,tt ⟨(vT Qe),tt ⟨ix,tt ⟨(vF Qy),tt ⟨w6,tt ⟨(s+1),rfl,(?_:(s+1)≤(ab sh b).J.length),(?_:(ab sh b).J.length-(s+1)<(ab sh b).J.length-s)⟩⟩⟩⟩⟩⟩
               · omega
               · omega
           · refine tt ⟨ix,tt ⟨(vF Qe),tt ⟨w6,tt ⟨(s+1),rfl,(?_:(s+1)≤(ab sh b).J.length),(?_:(ab sh b).J.length-(s+1)<(ab sh b).J.length-s)⟩⟩⟩⟩
             · omega
             · omega
         · exact tt ⟨rfl,oK⟩
end Go.Proofs.Ytcejcppjedhicaa
