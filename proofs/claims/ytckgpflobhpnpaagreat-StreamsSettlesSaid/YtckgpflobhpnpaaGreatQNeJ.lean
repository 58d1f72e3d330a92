/-
  Package network: what it answers.
-/
import Derived.Test.YtckgpflobhpnpaaGreatQNeI
namespace Go.Proofs.YtckgpflobhpnpaaGreat
open Go.RowKit
set_option linter.unusedVariables false
set_option linter.unusedSimpArgs false
abbrev uj (c:Ci):List D:=[(dL 6 hU af c.procs),(dL 5 gK a6 c.chans)]
abbrev un (s:Ns):List D:=[(dL 2 bN bI s.procs),(dL 1 ac [] s.chans)]
abbrev uo (c:Ci):am:=(.var 141 [(dL 6 hU af c.procs),(dL 5 gK a6 c.chans),(.own 9),(.own 12)])
abbrev Fa (ws:List Int) (n:Int):List (Nat×D):=[(32,(LI ws)),(31,(i6 n)),(30,(.ptr 15 0 0 0)),(2,(i6 n)),(3,(LI ws)),(8,(.ptr 2 0 0 0)),(10,(.ptr 15 0 0 0))]
abbrev oc:am:=(.var 70 [.nils,.nils])
abbrev fL (c:Ci):am:=(.var 33 (uj c))
abbrev Fb (s:Ns) (n:Int) (ws:List Int):am:=(.arr 42 1 ac [] (s.chans.set n.toNat ((s.chans.getD n.toNat [])++ws)))
abbrev gZ (s:Ns):am:=(.var 70 (un s))
abbrev uq (s:Ns):am:=(.arr 56 2 bN bI s.procs)
set_option maxRecDepth 100000
abbrev Ni (l:List Bool) (b:Bool):Ct:=⟨110,[(LB l),(dB b)],false,(i6 (OL l b))⟩
abbrev zN (l:List Bool) (b:Bool):Lp (Nat):=li [0,1,7,8] 0 (fun (i:Nat)=>⟨[(0,(LB l)),(1,(dB b)),(7,(i6 (l.length:Int))),(8,(i6 (i:Int)))],[]⟩) (fun (i:Nat)=>i≤l.length∧∀z,z<i→(b==l.getD z false)=false) (fun (i:Nat)=>l.length-i)
theorem Nj (l:List Bool) (b:Bool) (hl:l.length≤9223372036854775807):CC (Ni l b):=by
 refine ah.vc (V:=TT 4 (GO (zN l b) 0 (∀i,(zN l b).inv i→TT 1 (CD ((i:Int)<(l.length:Int)) (TT 5 (IX (i:Int) l.length∧TT 2 (CB (b==(l.getD i false)) (TT 3 ((i:Int)=(OL l b)∧True)) (W6 ((i+1:Nat):Int)∧TT 1 (AG (zN l b) i (i+1)))))) (TT 2 ((-1)=(OL l b)∧True)))))) (.l (zN l b) 0 (fun i=>.b 9 (.b 16 (.e) (.w 6 [(0,.val (i6 ((i+1:Nat):Int)))]<|.e)) (.e))) Tryz.func110 rfl rfl rfl (by kernel_rfl) ?_
 refine tt ⟨rfl,⟨by omega,fun z hz=>by omega⟩,?_⟩
 intro i hinv
 obtain⟨hi,h3⟩:=hinv
 refine tt (cd (fun hc9=>?_) (fun hc9=>?_))
 · refine tt ⟨ix,tt ⟨fun hc16=>?_,fun hc16=>?_⟩⟩
   · refine tt ⟨?_,oK⟩
     first | exact(fc (f:=fun i=>b==l.getD i false) hc16 h3 (by omega)).symm | exact(iU (f:=fun i=>b==l.getD i false) (fun z hz=>h3 z (by omega))).symm
   · refine⟨w6,tt ⟨(i+1),rfl,?_,(?_:l.length-(i+1)<l.length-i)⟩⟩
     · exact⟨by omega,bD h3 hc16⟩
     · omega
 · refine tt ⟨?_,oK⟩
   first | exact(fc (f:=fun i=>b==l.getD i false) hc16 h3 (by omega)).symm | exact(iU (f:=fun i=>b==l.getD i false) (fun z hz=>h3 z (by omega))).symm
abbrev Qp (l:List Bool) (b:Bool):Ct:=⟨92,[(LB l),(dB b)],false,(dB (KZ l b))⟩
theorem Nk (l:List Bool) (b:Bool) (hl:l.length≤9223372036854775807):CC (Qp l b):=by
 refine ah.vc (V:=TT 3 (CC (Ni l b)∧TT 3 ((decide ((OL l b)≥0))=(KZ l b)∧True))) (.w 1 [(2,(Ni l b).O)]<|.e) Tryz.func92 rfl rfl rfl (by kernel_rfl) ?_
 refine tt ⟨(Nj l b om),tt ⟨?_,oK⟩⟩
 rfl
abbrev Qq (c:Ci) (s:Ns) (p:Int):Ct:=⟨61,[(.agg (uj c)),(.agg (un s)),(i6 p)],false,(dB (uG c s p))⟩
theorem K2 (c:Ci) (s:Ns) (p:Int) (hc:a8 c) (hs:fa c s):CC (Qq c s p):=by
 have hnl:=hc.nl
 have hcl:=hc.cl
 refine ah.vc (V:=TT 3 (CS (p≥0) (CS (p<(c.procs.length:Int)) (TT 2 ((True∧(decide (p≥0))=true)∧TT 6 ((True∧(decide (p<(c.procs.length:Int)))=true)∧TT 2 ((True∧p=(p.toNat:Int))∧CC (Nb c s p.toNat)∧TT 4 (((ab c s p.toNat).fires)=(uG c s p)∧True))))) (TT 2 ((True∧(decide (p≥0))=true)∧TT 6 ((True∧(decide (p<(c.procs.length:Int)))=false)∧TT 8 (false=(uG c s p)∧True))))) (TT 2 ((True∧(decide (p≥0))=false)∧TT 15 (false=(uG c s p)∧True))))) (.s 1 (p≥0) (.s 1 (p<(c.procs.length:Int)) (.w 1 [(2,.val (dB true)),(9,.val (dB true)),(12,.val (i6 (p.toNat:Int))),(13,(Nb c s p.toNat).O)]<|.e) (.w 1 [(2,.val (dB true)),(9,.val (dB false))]<|.e)) (.w 1 [(2,.val (dB false))]<|.e)) Tryz.func61 rfl rfl rfl (by kernel_rfl) ?_
 refine tt ⟨fun hs0=>?_,fun hs0=>?_⟩
 · refine⟨fun hs1=>?_,fun hs1=>?_⟩
   · refine tt ⟨(vT hs0),tt ⟨(vT hs1),tt ⟨⟨oK,(by omega)⟩,⟨(wF c s p.toNat hc hs (by omega)),tt ⟨?_,oK⟩⟩⟩⟩⟩
     first | exact(wG (by omega)).symm | exact(wH (by omega)).symm | exact(vi (by omega) (by omega)).symm
   · refine tt ⟨(vT hs0),tt ⟨(vF hs1),tt ⟨?_,oK⟩⟩⟩
     first | exact(wG (by omega)).symm | exact(wH (by omega)).symm | exact(vi (by omega) (by omega)).symm
 · refine tt ⟨(vF hs0),tt ⟨?_,oK⟩⟩
   first | exact(wG (by omega)).symm | exact(wH (by omega)).symm | exact(vi (by omega) (by omega)).symm
abbrev Qr (c:Ci) (s:Ns) (k:Int):Ct:=⟨62,[(.agg (uj c)),(.agg (un s)),(i6 k)],true,(.tup [(.agg [(dL 2 bN bI ((bf c s (iV k)).procs)),(dL 1 ac [] ((bf c s (iV k)).chans))]),(dB (LZ c s k))])⟩
theorem IM (c:Ci) (s:Ns) (k:Int) (hc:a8 c) (hs:fa c s) (hsm:EY s 4294967296):CC (Qr c s k):=by
 have hnl:=hc.nl
 have hcl:=hc.cl
 refine ah.vc (V:=TT 8 (CC (Ng c s k)∧TT 8 (CC (Qp (tab (ax c s (iV k)) c.procs.length) true)∧TT 4 ((((bf c s (iV k)).procs).map bN=((bf c s (iV k)).procs).map bN∧((bf c s (iV k)).chans).map ac=((bf c s (iV k)).chans).map ac∧True)∧(KZ (tab (ax c s (iV k)) c.procs.length) true)=(LZ c s k)∧True)))) (.f 1 2<|.w 1 [(3,(Ng c s k).O)]<|.w 2 [(2,(Qp (tab (ax c s (iV k)) c.procs.length) true).O)]<|.e) Tryz.func62 rfl rfl rfl (by kernel_rfl) ?_
 refine tt ⟨(Gv c s k hc hs hsm),tt ⟨(Nk (tab (ax c s (iV k)) c.procs.length) true (by rw[aq];omega)),tt ⟨⟨rfl,rfl,oK⟩,?_,oK⟩⟩⟩
 rfl
abbrev Qs (c:Ci) (s:Ns) (cl:ByteArray):Ct:=⟨74,[(.agg (uj c)),(.agg (un s)),(dS cl)],true,(.tup [(.agg [(dL 2 bN bI ((bf c s (br c cl)).procs)),(dL 1 ac [] ((bf c s (br c cl)).chans))]),(LB (tab (ax c s (br c cl)) c.procs.length))])⟩
theorem IP (c:Ci) (s:Ns) (cl:ByteArray) (hc:a8 c) (hs:fa c s) (hsm:EY s 4294967296):CC (Qs c s cl):=by
 have hnl:=hc.nl
 have hcl:=hc.cl
 refine ah.vc (V:=TT 8 (CC (Nh c s cl)∧TT 6 ((((bf c s (br c cl)).procs).map bN=((bf c s (br c cl)).procs).map bN∧((bf c s (br c cl)).chans).map ac=((bf c s (br c cl)).chans).map ac∧True)∧(tab (ax c s (br c cl)) c.procs.length).map bk=(tab (ax c s (br c cl)) c.procs.length).map bk∧True))) (.f 1 0<|.f 1 2<|.w 1 [(3,(Nh c s cl).O)]<|.e) Tryz.func74 rfl rfl rfl (by kernel_rfl) ?_
 exact tt ⟨(Gz c s cl hc hs hsm),tt ⟨⟨rfl,rfl,oK⟩,rfl,oK⟩⟩
abbrev Qt (c:Ci) (s:Ns) (n:Int) (ws:List Int):Ct:=⟨28,[(.agg (uj c)),(.agg (un s)),(i6 n),(LI ws)],true,(.tup [(.agg [(dL 2 bN bI (((dW c s n ws).1).procs)),(dL 1 ac [] (((dW c s n ws).1).chans))]),(i6 ((dW c s n ws).2))])⟩
abbrev IQ (c:Ci) (s:Ns):List am:=[(fL c),(gZ s),oc]
abbrev sk (c:Ci) (s:Ns) (n:Int) (ws:List Int):List (Nat×D):=[(28,(.agg (un s))),(27,(.agg (uj c))),(2,(i6 n)),(3,(LI ws)),(4,(.ptr 0 0 0 0)),(5,(.ptr 1 0 0 0)),(8,(.ptr 2 0 0 0))]
abbrev wK (c:Ci) (s:Ns):List am:=[(fL c),(gZ s),oc]
abbrev wL (c:Ci) (s:Ns):List am:=[(fL c),(gZ s),.dead,.dead,.dead,(uq s),.dead,.dead,(.arr 42 1 ac [] s.chans),.dead,.dead,(uo c)]
abbrev IR (c:Ci) (s:Ns):List am:=[(fL c),(gZ s),oc,.dead,(fL c),(gZ s),.dead,.dead,.dead,(uq s),.dead,.dead,(.arr 42 1 ac [] s.chans),.dead,.dead,(uo c)]
abbrev sn (n:Int) (ws:List Int):List (Nat×D):=(Fa ws n)
abbrev IT (c:Ci) (s:Ns) (n:Int) (ws:List Int) (tm0:Array Value):List am:=[(fL c),(gZ s),oc,.dead,(fL c),(gZ s),.dead,.dead,.dead,(uq s),.dead,.dead,(.arr 42 1 ac [] s.chans),.dead,.dead,(uo c),(.frame tm0 (Fa ws n)),.dead]
abbrev so (n:Int) (ws:List Int):List (Nat×D):=[(8,(.fn (.func 87) [] [(.iptr [(.sl 1 (ae .i64) 0 ws)] 0)])),(7,(i6 n)),(6,(.ptr 15 0 0 0)),(0,(.ptr 15 0 0 0)),(1,(i6 n)),(5,(.iptr [(.sl 1 (ae .i64) 0 ws)] 0))]
abbrev wM (c:Ci) (s:Ns) (n:Int) (ws:List Int) (tm0:Array Value):List am:=[(fL c),(gZ s),oc,.dead,(fL c),(gZ s),.dead,.dead,.dead,(uq s),.dead,.dead,(Fb s n ws),.dead,.dead,(uo c),(.frame tm0 (Fa ws n)),.dead]
abbrev wN (c:Ci) (s:Ns) (n:Int) (ws:List Int):List am:=[(fL c),(gZ s),oc,.dead,(fL c),(gZ s),.dead,.dead,.dead,(uq s),.dead,.dead,(Fb s n ws),.dead,.dead,(uo c)]
theorem IU (c:Ci) (s:Ns) (n:Int) (ws:List Int) (hc:a8 c) (hs:fa c s) (hsm:EY s 4294967296) (hw:ws.length≤4294967296):CC (Qt c s n ws):=by
 have hnl:=hc.nl
 have hcl:=hc.cl
 have hl1:=hs.pl
 have hl2:=hs.cl
 refine ah.vc (V:=TT 4 (CS ((kh (·.frm) c n)=true) (TT 2 (CC (Ip c n)∧TT 1 ((True∧(!(kh (·.frm) c n))=false)∧TT 4 (IX n c.chans.length∧TT 2 (CC (Qm ws ((c.chans.getD n.toNat a6).w))∧TT 2 (CB (!(di ws ((c.chans.getD n.toNat a6).w))) (TT 5 (((((dW c s n ws).1).procs)=[]∧(((dW c s n ws).1).chans)=[]∧True)∧(1:Int)=((dW c s n ws).2)∧True)) (TT 2 (lH Tryz.prog 59 [(.agg (uj c)),(.agg (un s))] (IQ c s) (sk c s n ws) (wK c s) (wL c s) (.ptr 15 0 0 0)∧TT 4 (lH Tryz.prog 60 [(.ptr 15 0 0 0),(i6 n),(LI ws)] (IR c s) (sn n ws) (wN c s n ws) [] (.tup [])∧TT 8 ((s.procs.map bN=(((dW c s n ws).1).procs).map bN∧(s.chans.set n.toNat ((s.chans.getD n.toNat [])++ws)).map ac=(((dW c s n ws).1).chans).map ac∧True)∧(0:Int)=((dW c s n ws).2)∧True)))))))))) (TT 2 (CC (Ip c n)∧TT 1 ((True∧(!(kh (·.frm) c n))=true)∧TT 15 (((((dW c s n ws).1).procs)=[]∧(((dW c s n ws).1).chans)=[]∧True)∧(1:Int)=((dW c s n ws).2)∧True)))))) (.s 1 ((kh (·.frm) c n)=true) (.w 1 [(2,(Ip c n).O),(4,.val (dB false)),(12,(Qm ws ((c.chans.getD n.toNat a6).w)).O)]<|.b 25 (.e) (.q 3 [2,3,4,5,8] 3<|.w 3 [(2,.inl (.ptr 15 0 0 0) (sk c s n ws) ((wK c s)++.dead::(wL c s)))]<|.q 4 [2,3,8,10] 16<|.w 4 [(3,.inl (.tup []) (sn n ws) ((wN c s n ws)++.dead::[]))]<|.e)) (.w 1 [(2,(Ip c n).O),(4,.val (dB true))]<|.e)) Tryz.func28 rfl rfl rfl (by kernel_rfl) ?_
 refine tt ⟨fun hs0=>?_,fun hs0=>?_⟩
 · obtain⟨ho1,ho2,ho3⟩:=E7 hs0
   have hw:1≤(c.chans.getD n.toNat a6).w∧(c.chans.getD n.toNat a6).w≤8:=bn.1 (hc.cw n.toNat (by omega))
   refine tt ⟨(Bl c n hc),tt ⟨(mF hs0),tt ⟨ix,tt ⟨(Gq ws ((c.chans.getD n.toNat a6).w) (by omega) (by omega) (by omega)),tt ⟨fun hc25=>?_,fun hc25=>?_⟩⟩⟩⟩⟩
   · refine tt ⟨⟨?_,?_,oK⟩,?_,oK⟩
     all_goals (all_goals (first | (rw[wI hs0]) | (rw[wJ (by simpa using hc25)]) | (rw[sj hs0 (by simpa using hc25)])))
   · refine tt ⟨?_,?_⟩
     · intro tm0
       refine dn.vc (V:=TT 6 (CO (M5 s.procs)∧TT 2 (CO (M6 s.chans)∧TT 5 (((.ptr 15 0 0 0):D)=(.ptr 15 0 0 0)∧([(fL c),(gZ s),oc,.frame tm0 (sk c s n ws),(fL c),(gZ s),.dead,.dead,.dead,(uq s),.dead,.dead,(.arr 42 1 ac [] s.chans),.dead,.dead,(uo c)]:List am)=(wK c s)++.frame tm0 (sk c s n ws)::(wL c s))))) (.w 1 [(3,(M5 s.procs).O),(6,(M6 s.chans).O)]<|.e) Tryz.func59 rfl rfl (by kernel_rfl) ?_
       exact tt ⟨(tA s.procs om),tt ⟨(tB s.chans om),tt ⟨rfl,rfl⟩⟩⟩
     obtain⟨ho1,ho2,ho3⟩:=E7 hs0
     have hlw:(s.chans.getD n.toNat []).length≤4294967296:=hsm n.toNat
     refine tt ⟨?_,?_⟩
     · intro tm0
       refine dn.vc (V:=TT 4 (lH Tryz.prog 86 [(.ptr 15 0 0 0),(i6 n),(.fn (.func 87) [] [(.iptr [(.sl 1 (ae .i64) 0 ws)] 0)])] (IT c s n ws tm0) (so n ws) (wM c s n ws tm0) [] (.tup [])∧True∧([(fL c),(gZ s),oc,.dead,(fL c),(gZ s),.dead,.dead,.dead,(uq s),.dead,.dead,(Fb s n ws),.dead,.dead,(uo c),.frame tm0 (sn n ws)]:List am)=(wN c s n ws)++.frame tm0 (sn n ws)::[])) (.q 1 [0,1,5] 18<|.f 1 17<|.w 1 [(3,.inl (.tup []) (so n ws) ((wM c s n ws tm0)++.dead::[]))]<|.e) Tryz.func60 rfl rfl (by kernel_rfl) ?_
       refine tt ⟨?_,?_⟩
       · intro tm1
         refine dn.vc (V:=TT 13 (IX n s.chans.length∧(n.toNat<s.chans.length∧True)∧CC (Nd (s.chans.getD n.toNat []) ws)∧IX n s.chans.length∧(n.toNat<s.chans.length∧(s.chans.map ac).set n.toNat ((ac (s.chans.getD n.toNat [])).take 0++[(.sl 1 (ae .i64) 0 ((s.chans.getD n.toNat [])++ws))]++(ac (s.chans.getD n.toNat [])).drop (0+1))=(s.chans.set n.toNat ((s.chans.getD n.toNat [])++ws)).map ac)∧True∧([(fL c),(gZ s),oc,.dead,(fL c),(gZ s),.dead,.dead,.dead,(uq s),.dead,.dead,(Fb s n ws),.dead,.dead,(uo c),(.frame tm0 (Fa ws n)),.dead,.frame tm1 (so n ws)]:List am)=(wM c s n ws tm0)++.frame tm1 (so n ws)::[])) (.w 0 [(15,(Nd (s.chans.getD n.toNat []) ws).O),(17,.box 42 1 ac [] (s.chans.set n.toNat ((s.chans.getD n.toNat [])++ws)))]<|.e) Tryz.func86 rfl rfl (by kernel_rfl) ?_
         exact tt ⟨ix,⟨⟨om,oK⟩,⟨(qP (s.chans.getD n.toNat []) ws om),⟨ix,⟨⟨om,by simp only[List.map_set];rfl⟩,⟨oK,rfl⟩⟩⟩⟩⟩⟩
       exact⟨oK,rfl⟩
     refine tt ⟨⟨(congrArg _ (?_:s.procs=(((dW c s n ws).1).procs))),(congrArg _ (?_:(s.chans.set n.toNat ((s.chans.getD n.toNat [])++ws))=(((dW c s n ws).1).chans))),oK⟩,?_,oK⟩
     all_goals (all_goals (first | (rw[wI hs0]) | (rw[wJ (by simpa using hc25)]) | (rw[sj hs0 (by simpa using hc25)])))
 · refine tt ⟨(Bl c n hc),tt ⟨(mT hs0),tt ⟨⟨?_,?_,oK⟩,?_,oK⟩⟩⟩
   all_goals (all_goals (first | (rw[wI hs0]) | (rw[wJ (by simpa using hc25)]) | (rw[sj hs0 (by simpa using hc25)])))
abbrev Qu (c:Ci) (s:Ns) (bt:Int):Ct:=⟨29,[(.agg (uj c)),(.agg (un s)),(i6 bt)],true,(.tup [(.agg [(dL 2 bN bI (((bo c s bt).1).procs)),(dL 1 ac [] (((bo c s bt).1).chans))]),(LI ((bo c s bt).2.1)),(i6 ((bo c s bt).2.2))])⟩
abbrev md (c:Ci) (s:Ns) (bt:Int):Lp (Ns×Int×List Int):=MB [2,3,4,6,9] 4 (fun (u:Ns) (bud:Int) (cnt:List Int)=>⟨[(2,(i6 bud)),(3,(.ptr 0 0 0 0)),(4,(.ptr 1 0 0 0)),(6,(.ptr 2 0 0 0)),(9,(.own 3))],[(fL c),(.var 70 [(dL 2 bN bI u.procs),(dL 1 ac [] u.chans)]),oc,(.arr 3 1 (ae .i64) 0 cnt)]⟩) (fun (u:Ns) (bud:Int) (cnt:List Int)=>fa c u∧EY u (1000000000+(bt-bud).toNat)∧cnt.length=c.procs.length∧df c (bud).toNat u cnt=bo c s bt∧bud≤bt∧(∀z,0≤cnt.getD z 0∧cnt.getD z 0≤bt-bud)) (fun (u:Ns) (bud:Int) (cnt:List Int)=>(bud).toNat)
abbrev mf (c:Ci) (u:Ns) (bud:Int) (cnt:List Int):Lp (Nat):=li [2,3,4,6,9,10,18,19] 4 (fun (p:Nat)=>⟨[(2,(i6 bud)),(3,(.ptr 0 0 0 0)),(4,(.ptr 1 0 0 0)),(6,(.ptr 2 0 0 0)),(9,(.own 3)),(10,(i6 (-1))),(18,(i6 (c.procs.length:Int))),(19,(i6 (p:Int)))],[(fL c),(.var 70 [(dL 2 bN bI u.procs),(dL 1 ac [] u.chans)]),oc,(.arr 3 1 (ae .i64) 0 cnt)]⟩) (fun (p:Nat)=>p≤c.procs.length∧gA c u (c.procs.length-p) p=d6 c u) (fun (p:Nat)=>c.procs.length-p)
theorem Dn (c:Ci) (s:Ns) (bt:Int) (hc:a8 c) (hs:fa c s) (hsm:EY s 1000000000) (hb:bt≤1000000) (hb2:-9223372036854775808≤bt):CC (Qu c s bt):=by
 have hnl:=hc.nl
 have hcl:=hc.cl
 refine ah.vc (V:=TT 8 ((((0:Int)≤(c.procs.length:Int)∧(c.procs.length:Int)≤(c.procs.length:Int)∧(c.procs.length:Int)≤137438953472)∧(List.replicate c.procs.length (0:Int)).length=c.procs.length∧∀x∈(List.replicate c.procs.length (0:Int)),c8 [(i6 0)] ((ae .i64) x))∧TT 1 (GO (md c s bt) (s,bt,List.replicate c.procs.length (0:Int)) (∀u bud cnt,(md c s bt).inv (u,bud,cnt)→TT 5 (GO (mf c u bud cnt) 0 (∀p,(mf c u bud cnt).inv p→TT 1 (CD ((p:Int)<(c.procs.length:Int)) (TT 5 (CC (Qq c u (p:Int))∧CB (uG c u (p:Int)) (TT 5 ((decide ((p:Int)<0))=false∧TT 3 (CD (bud≤0) (TT 8 ((u.procs.map bN=(((bo c s bt).1).procs).map bN∧u.chans.map ac=(((bo c s bt).1).chans).map ac∧True)∧cnt.map (ae .i64)=((bo c s bt).2.1).map (ae .i64)∧(7:Int)=((bo c s bt).2.2)∧True)) (TT 1 (W6 (bud-1)∧TT 3 (IX (p:Int) cnt.length∧(p<cnt.length∧True)∧W6 ((cnt.getD p 0)+1)∧IX (p:Int) cnt.length∧(p<cnt.length∧(cnt.map (ae .i64)).set p (((ae .i64) (cnt.getD p 0)).take 0++[(.int .i64 ((cnt.getD p 0)+1))]++((ae .i64) (cnt.getD p 0)).drop (0+1))=(cnt.set p ((cnt.getD p 0)+1)).map (ae .i64))∧TT 3 (CC (Qr c u (p:Int))∧TT 4 (AG (md c s bt) (u,bud,cnt) (bf c u (iV (p:Int)),bud-1,cnt.set p ((cnt.getD p 0)+1)))))))))) (W6 ((p+1:Nat):Int)∧TT 1 (AG (mf c u bud cnt) p (p+1))))) (TT 11 ((u.procs.map bN=(((bo c s bt).1).procs).map bN∧u.chans.map ac=(((bo c s bt).1).chans).map ac∧True)∧cnt.map (ae .i64)=((bo c s bt).2.1).map (ae .i64)∧(0:Int)=((bo c s bt).2.2)∧True))))))))) (.w 1 [(3,.box 3 1 (ae .i64) 0 (List.replicate c.procs.length (0:Int)))]<|.l (md c s bt) (s,bt,List.replicate c.procs.length (0:Int)) (fun ⟨u,bud,cnt⟩=>.l (mf c u bud cnt) 0 (fun p=>.b 20 (.w 6 [(3,(Qq c u (p:Int)).O)]<|.b 25 (.u 28 (.b 33 (.e) (.w 13 [(1,.val (i6 (bud-1)))]<|.w 14 [(4,.val (i6 ((cnt.getD p 0)+1))),(6,.box 3 1 (ae .i64) 0 (cnt.set p ((cnt.getD p 0)+1)))]<|.w 15 [(3,(Qr c u (p:Int)).O)]<|.e))) (.w 8 [(0,.val (i6 ((p+1:Nat):Int)))]<|.e)) (.e)))) Tryz.func29 rfl rfl rfl (by kernel_rfl) ?_
 refine tt ⟨⟨by omega,by simp,fun x hx=>by rw[List.eq_of_mem_replicate hx];exact⟨rfl,oK⟩⟩,tt ⟨rfl,⟨hs,fun m=>Nat.le_trans (hsm m) (by omega),by simp,rfl,by omega,fun z=>by rw[bS];omega⟩,?_⟩⟩
 intro u bud cnt hinv
 obtain⟨hus,hum,hcl0,hgo,hbb,hcb⟩:=hinv
 refine tt ⟨rfl,⟨by omega,rfl⟩,?_⟩
 intro p hinv
 obtain⟨hp,hfk⟩:=hinv
 refine tt (cd (fun hc20=>?_) (fun hc20=>?_))
 · refine tt ⟨(K2 c u (p:Int) hc hus),⟨fun hc25=>?_,fun hc25=>?_⟩⟩
   · have hfp:d6 c u=(p:Int):=by rw[← hfk];exact CY (by omega) (by rw[← Iw (by omega)];exact hc25)
     refine tt ⟨(decide_eq_false (by omega)),tt (cd (fun hc33=>?_) (fun hc33=>?_))⟩
     · refine tt ⟨⟨(congrArg _ (?_:u.procs=(((bo c s bt).1).procs))),(congrArg _ (?_:u.chans=(((bo c s bt).1).chans))),oK⟩,(congrArg _ (?_:cnt=((bo c s bt).2.1))),?_,oK⟩
       all_goals (all_goals (rw[← hgo];first | rw[lV (by omega)] | rw[show bud.toNat=0 by omega,lW (by omega)]))
     · refine tt ⟨w6,?_⟩
       have hcz:=hcb p
       refine tt ⟨ix,⟨⟨om,oK⟩,⟨w6,⟨ix,⟨⟨om,by simp only[List.map_set];rfl⟩,tt ⟨(IM c u (p:Int) hc hus (fun m=>by have:=hum m;omega)),tt ⟨(bf c u (iV (p:Int)),bud-1,cnt.set p ((cnt.getD p 0)+1)),rfl,?_,(?_:((bud-1)).toNat<(bud).toNat)⟩⟩⟩⟩⟩⟩⟩
       · exact⟨CX hc hus _,fun m=>Nat.le_trans (Iv hc hum m) (by omega),by rw[List.length_set];exact hcl0,by rw[← hgo,show bud.toNat=(bud-1).toNat+1 by omega,yq (by omega),hfp,Iu];rfl,by omega,Ix hcb (by omega)⟩
       · omega
   · refine⟨w6,tt ⟨(p+1),rfl,?_,(?_:c.procs.length-(p+1)<c.procs.length-p)⟩⟩
     · exact⟨by omega,by rw[← hfk];exact(Gm (by omega) (by rw[← Iw (by omega),hc25];simp)).symm⟩
     · omega
 · have hfn:d6 c u=-1:=by rw[← hfk];exact CZ (by omega)
   refine tt ⟨⟨(congrArg _ (?_:u.procs=(((bo c s bt).1).procs))),(congrArg _ (?_:u.chans=(((bo c s bt).1).chans))),oK⟩,(congrArg _ (?_:cnt=((bo c s bt).2.1))),?_,oK⟩
   all_goals (all_goals (rw[← hgo];first | rw[lV (by omega)] | rw[show bud.toNat=0 by omega,lW (by omega)]))
end Go.Proofs.YtckgpflobhpnpaaGreat
