/-
  Package network: firing.
-/
import Derived.Test.YtckgpflobhpnpaaGreatQNeG
import Derived.Test.YtckgpflobhpnpaaGreatQNeH
namespace Go.Proofs.YtckgpflobhpnpaaGreat
open Go.RowKit
set_option linter.unusedVariables false
set_option linter.unusedSimpArgs false
abbrev jf (c:Ci) (s:Ns) (j:Nat):List D:=[(dB ((ab c s j).fires)),(LI (((ab c s j).s).regs)),(dL 1 ac [] (((ab c s j).s).mems)),(LB ((ab c s j).pops)),(dL 2 cO aP ((ab c s j).puts))]
abbrev aY:D:=(.ptr 15 0 0 0)
abbrev mP (c:Ci) (s:Ns) (j:Nat) (fd:List Bool):List (Nat×D):=[(71,(.agg (jf c s j))),(70,(.ptr 17 j 5 0)),(69,(i6 (j:Int))),(68,(.own 17)),(67,(i6 (j:Int))),(66,aY),(6,(.ptr 2 0 0 0)),(8,aY),(9,(.own 16)),(10,(.own 17)),(12,(i6 (j:Int))),(58,(.own 16)),(59,(i6 (fd.length:Int))),(60,(i6 (j:Int)))]
abbrev qM (c:Ci) (j m:Nat):D:=(i6 ((((c.procs.getD j af).puts).getD m aK).chan))
abbrev yw (j m:Nat) (c:Ci) (s:Ns):List (Nat×D):=[(0,aY),(1,(i6 (j:Int))),(6,(i6 (m:Int))),(7,(.ptr 20 0 0 0)),(9,(dL 2 cO aP ((ab c s j).puts))),(10,(i6 ((((ab c s j).puts).length:Nat):Int))),(11,(i6 (m:Int))),(18,aY),(19,aY),(20,aY),(21,aY),(22,aY),(23,(dL 6 hU af c.procs)),(24,(i6 (j:Int))),(25,(.iptr (hU (c.procs.getD j af)) 0)),(26,(.iptr (hU (c.procs.getD j af)) 5)),(27,(dL 16 nJ aK ((c.procs.getD j af).puts))),(28,(i6 (m:Int))),(29,(.iptr (nJ (((c.procs.getD j af).puts).getD m aK)) 0)),(30,(.iptr (nJ (((c.procs.getD j af).puts).getD m aK)) 0)),(31,(qM c j m)),(32,(.ptr 20 0 0 1)),(33,(i6 ((((ab c s j).puts).getD m aP).v))),(34,(LI [(((ab c s j)).puts.getD m aP).v]))]
abbrev qN (s:Ns):List D:=[(dL 2 bN bI s.procs),(dL 1 ac [] s.chans)]
abbrev aU (s:Ns):am:=(.var 70 (qN s))
abbrev qO (c:Ci):List D:=[(dL 6 hU af c.procs),(dL 5 gK a6 c.chans)]
abbrev aV (c:Ci):am:=(.var 33 (qO c))
abbrev mQ (c:Ci) (s:Ns) (i:Nat):List D:=[(dB ((ab c s i).fires)),(LI (((ab c s i).s).regs)),(dL 1 ac [] (((ab c s i).s).mems)),(LB ((ab c s i).pops)),(dL 2 cO aP ((ab c s i).puts))]
abbrev cA (c:Ci):am:=(.var 141 [(dL 6 hU af c.procs),(dL 5 gK a6 c.chans),(.own 9),(.own 12)])
abbrev zL (c:Ci) (cl:ByteArray):D:=(.fn (.func 102) [] [(.iptr [(.sl 6 hU af c.procs),(.sl 5 gK a6 c.chans)] 0),(.iptr [(.str cl)] 0)])
abbrev E8 (c:Ci) (s:Ns) (i:Nat) (cl:ByteArray):List (Nat×D):=[(55,(.agg (mQ c s i))),(54,(.ptr 17 i 5 0)),(53,(i6 (i:Int))),(52,(.own 17)),(51,(i6 (i:Int))),(50,aY),(2,(zL c cl)),(3,(.ptr 0 0 0 0)),(4,(.ptr 1 0 0 0)),(6,(.ptr 2 0 0 0)),(8,aY),(9,(.own 16)),(10,(.own 17)),(11,(i6 (i:Int))),(27,(i6 (c.procs.length:Int))),(28,(i6 (i:Int)))]
abbrev E9 (c:Ci) (s:Ns) (i:Nat) (kp:Int):List (Nat×D):=[(55,(.agg (mQ c s i))),(54,(.ptr 17 i 5 0)),(53,(i6 (i:Int))),(52,(.own 17)),(51,(i6 (i:Int))),(50,aY),(2,(.fn (.func 91) [] [(.iptr [(.int .i64 kp)] 0)])),(3,(.ptr 0 0 0 0)),(4,(.ptr 1 0 0 0)),(6,(.ptr 2 0 0 0)),(8,aY),(9,(.own 16)),(10,(.own 17)),(11,(i6 (i:Int))),(27,(i6 (c.procs.length:Int))),(28,(i6 (i:Int)))]
abbrev yx (em:List (List Int)) (c:Ci) (j m:Nat) (s:Ns):am:=(.arr 42 1 ac [] (em.set (((((c.procs.getD j af).puts).getD m aK).chan).toNat) ((em.getD (((((c.procs.getD j af).puts).getD m aK).chan).toNat) [])++[(((ab c s j)).puts.getD m aP).v])))
abbrev oa (c:Ci) (s:Ns) (j m:Nat):am:=(.var 115 [(dB ((((ab c s j).puts).getD m aP).has)),(i6 ((((ab c s j).puts).getD m aP).v))])
abbrev bA:am:=(.var 70 [.nils,.nils])
abbrev dy (ps:List Ps):am:=(.arr 56 2 bN bI ps)
abbrev d7 (fd:List Bool):am:=(.arr 4 1 bk false fd)
abbrev d8 (sts:List Fi):am:=(.arr 101 5 BU gg sts)
abbrev zM (c:Ci) (s:Ns) (ps:List Ps) (ch2:List (List Int)) (fd:List Bool) (sts:List Fi):List am:=[(aV c),(aU s),bA,.dead,(aV c),(aU s),.dead,.dead,.dead,(dy ps),.dead,.dead,(.arr 42 1 ac [] ch2),.dead,.dead,(cA c),(d7 fd),(d8 sts)]
abbrev gB (sts:List Fi) (i:Nat) (c:Ci) (s:Ns):am:=(.arr 101 5 BU gg (sts.set i (ab c s i)))
abbrev jg (ps:List Ps) (i:Nat) (c:Ci) (s:Ns):am:=(.arr 56 2 bN bI (ps.set i ((ab c s i).s)))
abbrev gC (fd:List Bool) (i:Nat):am:=(.arr 4 1 bk false (fd.set i true))
abbrev Dg (c:Ci) (s:Ns) (j m:Nat):D:=(.fn (.func 87) [] [(.iptr [(.sl 1 (ae .i64) 0 [(((ab c s j)).puts.getD m aP).v])] 0)])
abbrev Iy (c:Ci) (s:Ns) (ps:List Ps) (em:List (List Int)) (fd:List Bool) (sts:List Fi) (tm0:Array Value) (j m:Nat) (tm1:Array Value):List am:=[(aV c),(aU s),bA,.dead,(aV c),(aU s),.dead,.dead,.dead,(dy ps),.dead,.dead,(.arr 42 1 ac [] em),.dead,.dead,(cA c),(d7 fd),(d8 sts),(.frame tm0 (mP c s j fd)),(.var 101 (jf c s j)),(oa c s j m),.dead,.dead,.dead,.dead,.dead,.dead,.dead,.dead,.dead,.dead,.dead,.dead,.dead,.dead,.dead,.dead,.dead,(.frame tm1 (yw j m c s)),.dead]
abbrev Iz (c:Ci) (s:Ns) (ps:List Ps) (em:List (List Int)) (j m:Nat) (fd:List Bool) (sts:List Fi) (tm0 tm1:Array Value):List am:=[(aV c),(aU s),bA,.dead,(aV c),(aU s),.dead,.dead,.dead,(dy ps),.dead,.dead,(yx em c j m s),.dead,.dead,(cA c),(d7 fd),(d8 sts),(.frame tm0 (mP c s j fd)),(.var 101 (jf c s j)),(oa c s j m),.dead,.dead,.dead,.dead,.dead,.dead,.dead,.dead,.dead,.dead,.dead,.dead,.dead,.dead,.dead,.dead,.dead,(.frame tm1 (yw j m c s)),.dead]
abbrev IA (c:Ci) (s:Ns) (ps:List Ps) (em:List (List Int)) (fd:List Bool) (sts:List Fi) (tm0:Array Value) (j m:Nat):List am:=[(aV c),(aU s),bA,.dead,(aV c),(aU s),.dead,.dead,.dead,(dy ps),.dead,.dead,(.arr 42 1 ac [] em),.dead,.dead,(cA c),(d7 fd),(d8 sts),(.frame tm0 (mP c s j fd)),(.var 101 (jf c s j)),(oa c s j m),.dead,.dead,.dead,.dead,.dead,.dead,.dead,.dead,.dead,.dead,.dead,.dead,.dead,.dead,.dead,.dead,.dead]
abbrev IB (c:Ci) (s:Ns) (ps:List Ps) (em:List (List Int)) (j m:Nat) (fd:List Bool) (sts:List Fi) (tm0:Array Value):List am:=[(aV c),(aU s),bA,.dead,(aV c),(aU s),.dead,.dead,.dead,(dy ps),.dead,.dead,(yx em c j m s),.dead,.dead,(cA c),(d7 fd),(d8 sts),(.frame tm0 (mP c s j fd)),(.var 101 (jf c s j)),(oa c s j m),.dead,.dead,.dead,.dead,.dead,.dead,.dead,.dead,.dead,.dead,.dead,.dead,.dead,.dead,.dead,.dead,.dead]
abbrev IC (c:Ci) (s:Ns) (ps:List Ps) (i:Nat) (ch:List (List Int)) (fd:List Bool) (sts:List Fi):List am:=[(aV c),(aU s),bA,.dead,(aV c),(aU s),.dead,.dead,.dead,(jg ps i c s),.dead,.dead,(.arr 42 1 ac [] (ba ch (ku (c.procs.getD i af) (ab c s i) (c.procs.getD i af).takes.length))),.dead,.dead,(cA c),(gC fd i),(gB sts i c s)]
abbrev IE (c:Ci) (s:Ns) (ps:List Ps) (ch2:List (List Int)) (j:Nat) (fd:List Bool) (sts:List Fi):List am:=[(aV c),(aU s),bA,.dead,(aV c),(aU s),.dead,.dead,.dead,(dy ps),.dead,.dead,(.arr 42 1 ac [] (bq ch2 (mO (c.procs.getD j af) (ab c s j) (c.procs.getD j af).puts.length))),.dead,.dead,(cA c),(d7 fd),(d8 sts)]
abbrev IG (c:Ci) (s:Ns) (ps:List Ps) (i:Nat) (dr:List (List Int)) (fd:List Bool) (sts:List Fi) (tm0:Array Value) (kp:Int):List am:=[(aV c),(aU s),bA,.dead,(aV c),(aU s),.dead,.dead,.dead,(jg ps i c s),.dead,.dead,(.arr 42 1 ac [] dr),.dead,.dead,(cA c),(gC fd i),(gB sts i c s),(.frame tm0 (E9 c s i kp)),(.var 101 (mQ c s i)),.dead,.dead,.dead,.dead,.dead,.dead,.dead,.dead,.dead]
abbrev IH (c:Ci) (s:Ns) (ps:List Ps) (i:Nat) (dr:List (List Int)) (fd:List Bool) (sts:List Fi) (tm0:Array Value) (cl:ByteArray):List am:=[(aV c),(aU s),bA,.dead,(aV c),(aU s),.dead,.dead,.dead,(jg ps i c s),.dead,.dead,(.arr 42 1 ac [] dr),.dead,.dead,(cA c),(gC fd i),(gB sts i c s),(.frame tm0 (E8 c s i cl)),(.var 101 (mQ c s i)),.dead,.dead,.dead,.dead,.dead,.dead,.dead,.dead,.dead]
abbrev II (c:Ci) (s:Ns) (j m:Nat):List (Nat×D):=[(8,(Dg c s j m)),(7,(qM c j m)),(6,aY),(0,aY),(1,(qM c j m)),(5,(.iptr [(.sl 1 (ae .i64) 0 [(((ab c s j)).puts.getD m aP).v])] 0))]
set_option maxRecDepth 100000
abbrev IJ (l:List Int):Ct:=⟨119,[(LI l)],true,(LI (l.drop 1))⟩
theorem yy (l:List Int) (h:1≤l.length):CC (IJ l):=by
 refine ah.vc (V:=TT 2 ((0≤(1:Int)∧(1:Int)≤(l.length:Int)∧(l.length:Int)≤(l.length:Int))∧TT 2 ((l.drop 1).map (ae .i64)=(l.drop 1).map (ae .i64)))) (.e) Tryz.func119 rfl rfl rfl (by kernel_rfl) ?_
 exact tt ⟨om,tt rfl⟩
abbrev Nd (l ws:List Int):Ct:=⟨87,[(LI l),(.iptr [(.sl 1 (ae .i64) 0 ws)] 0)],true,(LI (l++ws))⟩
theorem qP (l ws:List Int) (h:l.length+ws.length≤137438953472):CC (Nd l ws):=by
 refine ah.vc (V:=TT 3 (ap [[(LI l)],[(LI ws)]] ([l,ws].map ac)∧CK (Qk [l,ws])∧TT 2 (([l,ws].flatten).map (ae .i64)=(l++ws).map (ae .i64)))) (.w 1 [(2,.box 42 1 ac [] [l,ws]),(3,(Qk [l,ws]).O')]<|.e) Tryz.func87 rfl rfl rfl (by kernel_rfl) ?_
 refine tt ⟨⟨⟨rfl,oK⟩,⟨rfl,oK⟩,oK⟩,⟨⟨dU _ rfl,(Gp [l,ws] (by simp) (by simpa using h))⟩,tt (congrArg _ (?_:([l,ws].flatten)=(l++ws)))⟩⟩
 simp
abbrev Qo (q:Nat) (k:Int):Ct:=⟨91,[(i6 (q:Int)),(.iptr [(.int .i64 k)] 0)],false,(dB (iV k q))⟩
theorem IK (q:Nat) (k:Int):CC (Qo q k):=by
 refine ah.vc (V:=TT 6 (((q:Int)==k)=(iV k q)∧True)) (.e) Tryz.func91 rfl rfl rfl (by kernel_rfl) ?_
 refine tt ⟨?_,oK⟩
 rfl
abbrev Nf (c:Ci) (q:Nat) (cl:ByteArray):Ct:=⟨102,[(i6 (q:Int)),(.iptr [(.sl 6 hU af c.procs),(.sl 5 gK a6 c.chans)] 0),(.iptr [(.str cl)] 0)],false,(dB (br c cl q))⟩
theorem IL (c:Ci) (q:Nat) (cl:ByteArray) (hq:q<c.procs.length):CC (Nf c q cl):=by
 refine ah.vc (V:=TT 4 (IX (q:Int) c.procs.length∧TT 6 ((((c.procs.getD q af).clock).toList==cl.toList)=(br c cl q)∧True))) (.e) Tryz.func102 rfl rfl rfl (by kernel_rfl) ?_
 refine tt ⟨ix,tt ⟨?_,oK⟩⟩
 rfl
abbrev Ng (c:Ci) (s:Ns) (kp:Int):Ct:=⟨90,[(.agg (qO c)),(.agg (qN s)),(.fn (.func 91) [] [(.iptr [(.int .i64 kp)] 0)])],true,(.tup [(.agg [(dL 2 bN bI ((bf c s (iV kp)).procs)),(dL 1 ac [] ((bf c s (iV kp)).chans))]),(LB (tab (ax c s (iV kp)) c.procs.length))])⟩
abbrev Gs (c:Ci) (s:Ns):List am:=[(aV c),(aU s),bA]
abbrev ph (c:Ci) (s:Ns) (kp:Int):List (Nat×D):=[(15,(.agg (qN s))),(14,(.agg (qO c))),(2,(.fn (.func 91) [] [(.iptr [(.int .i64 kp)] 0)])),(3,(.ptr 0 0 0 0)),(4,(.ptr 1 0 0 0)),(6,(.ptr 2 0 0 0))]
abbrev tC (c:Ci) (s:Ns):List am:=[(aV c),(aU s),bA]
abbrev tD (c:Ci) (s:Ns):List am:=[(aV c),(aU s),.dead,.dead,.dead,(.arr 56 2 bN bI s.procs),.dead,.dead,(.arr 42 1 ac [] s.chans),.dead,.dead,(cA c)]
abbrev iW (c:Ci) (s:Ns) (kp:Int):Lp (Nat×List Bool×List Fi×List Ps×List (List Int)):=Q1 [2,3,4,6,8,9,10,27,28] 18 (fun (i:Nat) (fd:List Bool) (sts:List Fi) (ps:List Ps) (ch:List (List Int))=>⟨[(2,(.fn (.func 91) [] [(.iptr [(.int .i64 kp)] 0)])),(3,(.ptr 0 0 0 0)),(4,(.ptr 1 0 0 0)),(6,(.ptr 2 0 0 0)),(8,aY),(9,(.own 16)),(10,(.own 17)),(27,(i6 (c.procs.length:Int))),(28,(i6 (i:Int)))],[(aV c),(aU s),bA,.dead,(aV c),(aU s),.dead,.dead,.dead,(dy ps),.dead,.dead,(.arr 42 1 ac [] ch),.dead,.dead,(cA c),(d7 fd),(d8 sts)]⟩) (fun (i:Nat) (fd:List Bool) (sts:List Fi) (ps:List Ps) (ch:List (List Int))=>i≤c.procs.length∧fd=cf (ax c s (iV kp)) (List.replicate c.procs.length false) i∧sts=cf (GR c s (iV kp)) (List.replicate c.procs.length gg) i∧ps=cf (cF c s (iV kp)) s.procs i∧ch=ba s.chans (gf c s (iV kp) i)) (fun (i:Nat) (fd:List Bool) (sts:List Fi) (ps:List Ps) (ch:List (List Int))=>c.procs.length-i)
abbrev Gt (c:Ci) (s:Ns) (i:Nat) (fd:List Bool) (sts:List Fi) (ps:List Ps) (ch:List (List Int)):List am:=[(aV c),(aU s),bA,.dead,(aV c),(aU s),.dead,.dead,.dead,(dy ps),.dead,.dead,(.arr 42 1 ac [] ch),.dead,.dead,(cA c),(gC fd i),(gB sts i c s)]
abbrev kP (c:Ci) (s:Ns) (kp:Int) (i:Nat):List (Nat×D):=(E9 c s i kp)
abbrev tE (c:Ci) (s:Ns) (i:Nat) (fd:List Bool) (sts:List Fi) (ps:List Ps) (ch:List (List Int)):List am:=(IC c s ps i ch fd sts)
abbrev kQ (c:Ci) (s:Ns) (kp:Int) (i:Nat) (fd:List Bool) (sts:List Fi) (ps:List Ps) (ch:List (List Int)) (tm0:Array Value):Lp (Nat×List (List Int)):=u2 [0,1,18,19,20] 29 (fun (k:Nat) (dr:List (List Int))=>⟨[(0,aY),(1,(i6 (i:Int))),(18,(LB ((ab c s i).pops))),(19,(i6 ((((ab c s i).pops).length:Nat):Int))),(20,(i6 (k:Int)))],(IG c s ps i dr fd sts tm0 kp)⟩) (fun (k:Nat) (dr:List (List Int))=>k≤(ab c s i).pops.length∧dr=ba ch (ku (c.procs.getD i af) (ab c s i) k)) (fun (k:Nat) (dr:List (List Int))=>(ab c s i).pops.length-k)
abbrev Gu (c:Ci) (s:Ns) (kp:Int) (i:Nat) (fd:List Bool) (sts:List Fi) (ps:List Ps) (tm0:Array Value) (dr:List (List Int)):List am:=(IG c s ps i dr fd sts tm0 kp)
abbrev l6 (c:Ci) (s:Ns) (i:Nat) (k:Nat):List (Nat×D):=[(39,(i6 ((((c.procs.getD i af).takes).getD k aO).chan))),(38,(.iptr (kt (((c.procs.getD i af).takes).getD k aO)) 0)),(37,(.iptr (kt (((c.procs.getD i af).takes).getD k aO)) 0)),(36,(i6 (k:Int))),(35,(dL 9 kt aO ((c.procs.getD i af).takes))),(34,(.iptr (hU (c.procs.getD i af)) 4)),(33,(.iptr (hU (c.procs.getD i af)) 0)),(32,(i6 (i:Int))),(31,(dL 6 hU af c.procs)),(30,aY),(29,aY),(28,aY),(27,aY),(26,aY),(0,aY),(1,(i6 (i:Int))),(6,(i6 (k:Int))),(18,(LB ((ab c s i).pops))),(19,(i6 ((((ab c s i).pops).length:Nat):Int))),(20,(i6 (k:Int)))]
abbrev qQ (c:Ci) (s:Ns) (kp:Int) (i:Nat) (fd:List Bool) (sts:List Fi) (ps:List Ps) (tm0:Array Value) (k:Nat) (dr:List (List Int)):List am:=[(aV c),(aU s),bA,.dead,(aV c),(aU s),.dead,.dead,.dead,(jg ps i c s),.dead,.dead,(.arr 42 1 ac [] (dr.set (((((c.procs.getD i af).takes).getD k aO).chan).toNat) ((dr.getD (((((c.procs.getD i af).takes).getD k aO).chan).toNat) []).drop 1))),.dead,.dead,(cA c),(gC fd i),(gB sts i c s),(.frame tm0 (E9 c s i kp)),(.var 101 (mQ c s i)),.dead,.dead,.dead,.dead,.dead,.dead,.dead,.dead,.dead]
abbrev jh (c:Ci) (s:Ns) (kp:Int) (fd:List Bool) (sts:List Fi) (ps:List Ps):Lp (Nat×List (List Int)):=u2 [6,8,9,10,58,59,60] 18 (fun (j:Nat) (ch2:List (List Int))=>⟨[(6,(.ptr 2 0 0 0)),(8,aY),(9,(.own 16)),(10,(.own 17)),(58,(.own 16)),(59,(i6 (fd.length:Int))),(60,(i6 (j:Int)))],(zM c s ps ch2 fd sts)⟩) (fun (j:Nat) (ch2:List (List Int))=>j≤c.procs.length∧ch2=bq (ba s.chans (gf c s (iV kp) c.procs.length)) (nQ c s (iV kp) j)) (fun (j:Nat) (ch2:List (List Int))=>c.procs.length-j)
abbrev Dh (c:Ci) (s:Ns) (fd:List Bool) (sts:List Fi) (ps:List Ps) (ch2:List (List Int)):List am:=(zM c s ps ch2 fd sts)
abbrev ji (c:Ci) (s:Ns) (fd:List Bool) (j:Nat):List (Nat×D):=(mP c s j fd)
abbrev qR (c:Ci) (s:Ns) (fd:List Bool) (sts:List Fi) (ps:List Ps) (j:Nat) (ch2:List (List Int)):List am:=(IE c s ps ch2 j fd sts)
abbrev jj (c:Ci) (s:Ns) (fd:List Bool) (sts:List Fi) (ps:List Ps) (j:Nat) (ch2:List (List Int)) (tm0:Array Value):Lp (Nat×List (List Int)):=u2 [0,1,9,10,11] 20 (fun (m:Nat) (em:List (List Int))=>⟨[(0,aY),(1,(i6 (j:Int))),(9,(dL 2 cO aP ((ab c s j).puts))),(10,(i6 ((((ab c s j).puts).length:Nat):Int))),(11,(i6 (m:Int)))],[(aV c),(aU s),bA,.dead,(aV c),(aU s),.dead,.dead,.dead,(dy ps),.dead,.dead,(.arr 42 1 ac [] em),.dead,.dead,(cA c),(d7 fd),(d8 sts),(.frame tm0 (mP c s j fd)),(.var 101 (jf c s j))]⟩) (fun (m:Nat) (em:List (List Int))=>m≤(ab c s j).puts.length∧em=bq ch2 (mO (c.procs.getD j af) (ab c s j) m)) (fun (m:Nat) (em:List (List Int))=>(ab c s j).puts.length-m)
abbrev Di (c:Ci) (s:Ns) (fd:List Bool) (sts:List Fi) (ps:List Ps) (j:Nat) (tm0:Array Value) (m:Nat) (em:List (List Int)):List am:=(IA c s ps em fd sts tm0 j m)
abbrev l7 (c:Ci) (s:Ns) (j:Nat) (m:Nat):List (Nat×D):=(yw j m c s)
abbrev Dj (c:Ci) (s:Ns) (fd:List Bool) (sts:List Fi) (ps:List Ps) (j:Nat) (tm0:Array Value) (m:Nat) (em:List (List Int)) (tm1:Array Value):List am:=(Iy c s ps em fd sts tm0 j m tm1)
abbrev l8 (c:Ci) (s:Ns) (j:Nat) (m:Nat):List (Nat×D):=(II c s j m)
abbrev qS (c:Ci) (s:Ns) (fd:List Bool) (sts:List Fi) (ps:List Ps) (j:Nat) (tm0:Array Value) (m:Nat) (em:List (List Int)) (tm1:Array Value):List am:=(Iz c s ps em j m fd sts tm0 tm1)
abbrev qT (c:Ci) (s:Ns) (fd:List Bool) (sts:List Fi) (ps:List Ps) (j:Nat) (tm0:Array Value) (m:Nat) (em:List (List Int)):List am:=(IB c s ps em j m fd sts tm0)
theorem Gv (c:Ci) (s:Ns) (kp:Int) (hc:a8 c) (hs:fa c s) (hsm:EY s 4294967296):CC (Ng c s kp):=by
 have hnl:=hc.nl
 have hcl:=hc.cl
 have hl1:=hs.pl
 have hl2:=hs.cl
 refine ah.vc (V:=TT 6 (lH Tryz.prog 59 [(.agg (qO c)),(.agg (qN s))] (Gs c s) (ph c s kp) (tC c s) (tD c s) aY∧TT 4 ((((0:Int)≤(c.procs.length:Int)∧(c.procs.length:Int)≤(c.procs.length:Int)∧(c.procs.length:Int)≤137438953472)∧(List.replicate c.procs.length false).length=c.procs.length∧∀x∈(List.replicate c.procs.length false),c8 [(dB false)] (bk x))∧TT 4 ((((0:Int)≤(c.procs.length:Int)∧(c.procs.length:Int)≤(c.procs.length:Int)∧(c.procs.length:Int)≤137438953472)∧(List.replicate c.procs.length gg).length=c.procs.length∧∀x∈(List.replicate c.procs.length gg),c8 [(dB false),.nils,.nils,.nils,.nils] (BU x))∧TT 5 (GO (iW c s kp) (0,List.replicate c.procs.length false,List.replicate c.procs.length gg,s.procs,s.chans) (∀i fd sts ps ch,(iW c s kp).inv (i,fd,sts,ps,ch)→TT 1 (CD ((i:Int)<(c.procs.length:Int)) (TT 4 (CC (Qo i kp)∧TT 1 (CB (!(iV kp i)) (W6 ((i+1:Nat):Int)∧TT 1 (AG (iW c s kp) (i,fd,sts,ps,ch) (i+1,fd,sts,ps,ch))) (TT 5 (CC (Nb c s i)∧IX (i:Int) sts.length∧(i<sts.length∧(sts.map BU).set i ((BU (sts.getD i gg)).take 0++[(.bool ((ab c s i).fires)),(.sl 1 (ae .i64) 0 (((ab c s i).s).regs)),(.sl 1 ac [] (((ab c s i).s).mems)),(.sl 1 bk false ((ab c s i).pops)),(.sl 2 cO aP ((ab c s i).puts))]++(BU (sts.getD i gg)).drop (0+5))=(sts.set i (ab c s i)).map BU)∧TT 2 (IX (i:Int) ((sts.set i (ab c s i)).length)∧TT 1 (((i<(sts.set i (ab c s i)).length∧True)∧(((sts.set i (ab c s i)).getD i gg).fires)=(dj c s i))∧CB (dj c s i) (TT 2 (IX (i:Int) fd.length∧(i<fd.length∧(fd.map bk).set i ((bk (fd.getD i false)).take 0++[(.bool true)]++(bk (fd.getD i false)).drop (0+1))=(fd.set i true).map bk)∧TT 4 (IX (i:Int) ((sts.set i (ab c s i)).length)∧((i<(sts.set i (ab c s i)).length∧True)∧((((sts.set i (ab c s i)).getD i gg).fires)=((ab c s i).fires)∧((((sts.set i (ab c s i)).getD i gg).s).regs).map (ae .i64)=(((ab c s i).s).regs).map (ae .i64)∧((((sts.set i (ab c s i)).getD i gg).s).mems).map ac=(((ab c s i).s).mems).map ac∧(((sts.set i (ab c s i)).getD i gg).pops).map bk=((ab c s i).pops).map bk∧(((sts.set i (ab c s i)).getD i gg).puts).map cO=((ab c s i).puts).map cO∧True))∧lH Tryz.prog 108 [aY,(i6 (i:Int)),(.agg (mQ c s i))] (Gt c s i fd sts ps ch) (kP c s kp i) (tE c s i fd sts ps ch) [] (.tup [])∧W6 ((i+1:Nat):Int)∧TT 1 (AG (iW c s kp) (i,fd,sts,ps,ch) (i+1,fd.set i true,sts.set i (ab c s i),ps.set i ((ab c s i).s),ba ch (ku (c.procs.getD i af) (ab c s i) (c.procs.getD i af).takes.length)))))) (W6 ((i+1:Nat):Int)∧TT 1 (AG (iW c s kp) (i,fd,sts,ps,ch) (i+1,fd,sts.set i (ab c s i),ps,ch)))))))))) (TT 3 (GO (jh c s kp fd sts ps) (0,ch) (∀j ch2,(jh c s kp fd sts ps).inv (j,ch2)→TT 1 (CD ((j:Int)<(fd.length:Int)) (TT 1 (IX (j:Int) fd.length∧(j<fd.length∧True)∧TT 3 (CB ((fd.getD j false)) (TT 4 (IX (j:Int) sts.length∧((j<sts.length∧True)∧(((sts.getD j gg).fires)=((ab c s j).fires)∧(((sts.getD j gg).s).regs).map (ae .i64)=(((ab c s j).s).regs).map (ae .i64)∧(((sts.getD j gg).s).mems).map ac=(((ab c s j).s).mems).map ac∧((sts.getD j gg).pops).map bk=((ab c s j).pops).map bk∧((sts.getD j gg).puts).map cO=((ab c s j).puts).map cO∧True))∧lH Tryz.prog 109 [aY,(i6 (j:Int)),(.agg (jf c s j))] (Dh c s fd sts ps ch2) (ji c s fd j) (qR c s fd sts ps j ch2) [] (.tup [])∧W6 ((j+1:Nat):Int)∧TT 1 (AG (jh c s kp fd sts ps) (j,ch2) (j+1,bq ch2 (mO (c.procs.getD j af) (ab c s j) (c.procs.getD j af).puts.length))))) (W6 ((j+1:Nat):Int)∧TT 1 (AG (jh c s kp fd sts ps) (j,ch2) (j+1,ch2)))))) (TT 9 ((ps.map bN=((bf c s (iV kp)).procs).map bN∧ch2.map ac=((bf c s (iV kp)).chans).map ac∧True)∧fd.map bk=(tab (ax c s (iV kp)) c.procs.length).map bk∧True))))))))))))) (.q 1 [2,3,4,6] 3<|.w 1 [(2,.inl aY (ph c s kp) ((tC c s)++.dead::(tD c s)))]<|.w 2 [(3,.box 4 1 bk false (List.replicate c.procs.length false))]<|.w 3 [(3,.box 101 5 BU gg (List.replicate c.procs.length gg))]<|.l (iW c s kp) (0,List.replicate c.procs.length false,List.replicate c.procs.length gg,s.procs,s.chans) (fun ⟨i,fd,sts,ps,ch⟩=>.b 29 (.q 7 [2,3,4,6,8,9,10,11,27,28] 18<|.w 7 [(2,(Qo i kp).O)]<|.b 34 (.w 12 [(0,.val (i6 ((i+1:Nat):Int)))]<|.e) (.w 8 [(5,(Nb c s i).O),(7,.box 101 5 BU gg (sts.set i (ab c s i)))]<|.w 9 [(4,.val (dB (dj c s i)))]<|.b 46 (.w 10 [(3,.box 4 1 bk false (fd.set i true))]<|.q 11 [2,3,4,6,8,9,10,11,27,28] 18<|.w 11 [(5,.val (.agg (mQ c s i))),(6,.inl (.tup []) (kP c s kp i) ((tE c s i fd sts ps ch)++.dead::[]))]<|.w 12 [(0,.val (i6 ((i+1:Nat):Int)))]<|.e) (.w 12 [(0,.val (i6 ((i+1:Nat):Int)))]<|.e))) (.l (jh c s kp fd sts ps) (0,ch) (fun ⟨j,ch2⟩=>.b 61 (.b 65 (.q 17 [6,8,9,10,12,58,59,60] 18<|.w 17 [(5,.val (.agg (jf c s j))),(6,.inl (.tup []) (ji c s fd j) ((qR c s fd sts ps j ch2)++.dead::[]))]<|.w 18 [(0,.val (i6 ((j+1:Nat):Int)))]<|.e) (.w 18 [(0,.val (i6 ((j+1:Nat):Int)))]<|.e)) (.e))))) Tryz.func90 rfl rfl rfl (by kernel_rfl) ?_
 refine tt ⟨?_,?_⟩
 · intro tm0
   refine dn.vc (V:=TT 6 (CO (M5 s.procs)∧TT 2 (CO (M6 s.chans)∧TT 5 ((aY:D)=aY∧([(aV c),(aU s),bA,.frame tm0 (ph c s kp),(aV c),(aU s),.dead,.dead,.dead,(.arr 56 2 bN bI s.procs),.dead,.dead,(.arr 42 1 ac [] s.chans),.dead,.dead,(cA c)]:List am)=(tC c s)++.frame tm0 (ph c s kp)::(tD c s))))) (.w 1 [(3,(M5 s.procs).O),(6,(M6 s.chans).O)]<|.e) Tryz.func59 rfl rfl (by kernel_rfl) ?_
   exact tt ⟨(tA s.procs om),tt ⟨(tB s.chans om),tt ⟨rfl,rfl⟩⟩⟩
 refine tt ⟨⟨by omega,by simp,fun x hx=>by rw[List.eq_of_mem_replicate hx];exact⟨rfl,oK⟩⟩,tt ⟨⟨by omega,by simp,fun x hx=>by rw[List.eq_of_mem_replicate hx];exact⟨rfl,rfl,rfl,rfl,rfl,oK⟩⟩,tt ⟨rfl,⟨by omega,rfl,rfl,rfl,rfl⟩,?_⟩⟩⟩
 intro i fd sts ps ch hinv
 obtain⟨hi,hfd,hst,hps,hch⟩:=hinv
 have hfl0:fd.length=c.procs.length:=by rw[hfd,dc (by simp;omega)];simp
 have hsl0:sts.length=c.procs.length:=by rw[hst,dc (by simp;omega)];simp
 have hpl0:ps.length=c.procs.length:=by rw[hps,dc (by omega)];omega
 have hchl:ch.length=c.chans.length:=by rw[hch,cL];exact hl2
 refine tt (cd (fun hc29=>?_) (fun hc29=>?_))
 · refine tt ⟨(IK i kp),tt ⟨fun hc34=>?_,fun hc34=>?_⟩⟩
   · refine⟨w6,tt ⟨(i+1,fd,sts,ps,ch),rfl,(?_:(i+1)≤c.procs.length∧fd=cf (ax c s (iV kp)) (List.replicate c.procs.length false) (i+1)∧sts=cf (GR c s (iV kp)) (List.replicate c.procs.length gg) (i+1)∧ps=cf (cF c s (iV kp)) s.procs (i+1)∧ch=ba s.chans (gf c s (iV kp) (i+1))),(?_:c.procs.length-(i+1)<c.procs.length-i)⟩⟩
     · have hno:=LW (c:=c) (s:=s) hc34
       exact⟨by omega,by rw[hfd];exact bH (d:=false) (by simp;omega) (by rw[hno,bS]),by rw[hst];exact bH (d:=gg) (by simp;omega) (by rw[← LX hc34,bS]),by rw[hps];exact bH (d:=bI) (by omega) (E3 hno).symm,by rw[hch];rw[ve hno]⟩
     · omega
   · refine tt ⟨(wF c s i hc hs (by omega)),⟨ix,⟨⟨om,by simp only[List.map_set];rfl⟩,tt ⟨ix,tt ⟨⟨⟨om,oK⟩,(by rw[cu (by omega),if_pos rfl];rfl)⟩,⟨fun hc46=>?_,fun hc46=>?_⟩⟩⟩⟩⟩⟩
     · have hcan:dj c s i=true:=hc46
       refine tt ⟨ix,⟨⟨om,by simp only[List.map_set];rfl⟩,tt ⟨ix,⟨⟨⟨om,oK⟩,(by rw[cu (by omega),if_pos rfl];exact⟨rfl,rfl,rfl,rfl,rfl,oK⟩)⟩,⟨?_,?_⟩⟩⟩⟩⟩
       · intro tm0
         refine dn.vc (V:=TT 9 (IX (i:Int) ps.length∧(i<ps.length∧(ps.map bN).set i ((bN (ps.getD i bI)).take 0++[(.sl 1 (ae .i64) 0 (((ab c s i).s).regs)),(.sl 1 ac [] (((ab c s i).s).mems))]++(bN (ps.getD i bI)).drop (0+2))=(ps.set i ((ab c s i).s)).map bN)∧TT 4 (GO (kQ c s kp i fd sts ps ch tm0) (0,ch) (∀k dr,(kQ c s kp i fd sts ps ch tm0).inv (k,dr)→TT 1 (CD ((k:Int)<((((ab c s i).pops).length:Nat):Int)) (TT 1 (IX (k:Int) (((ab c s i).pops).length)∧TT 4 (CB ((((ab c s i).pops).getD k false)) (TT 7 (IX (i:Int) c.procs.length∧TT 3 (IX (k:Int) (((c.procs.getD i af).takes).length)∧TT 2 (lH Tryz.prog 86 [aY,(i6 ((((c.procs.getD i af).takes).getD k aO).chan)),(.fn (.func 119) [] [])] (Gu c s kp i fd sts ps tm0 dr) (l6 c s i k) (qQ c s kp i fd sts ps tm0 k dr) [] (.tup [])∧W6 ((k+1:Nat):Int)∧TT 1 (AG (kQ c s kp i fd sts ps ch tm0) (k,dr) (k+1,dr.set (((((c.procs.getD i af).takes).getD k aO).chan).toNat) ((dr.getD (((((c.procs.getD i af).takes).getD k aO).chan).toNat) []).drop 1))))))) (W6 ((k+1:Nat):Int)∧TT 1 (AG (kQ c s kp i fd sts ps ch tm0) (k,dr) (k+1,dr)))))) (True∧([(aV c),(aU s),bA,.dead,(aV c),(aU s),.dead,.dead,.dead,(jg ps i c s),.dead,.dead,(.arr 42 1 ac [] dr),.dead,.dead,(cA c),(gC fd i),(gB sts i c s),.frame tm0 (kP c s kp i)]:List am)=(tE c s i fd sts ps ch)++.frame tm0 (kP c s kp i)::[])))))) (.w 1 [(9,.box 56 2 bN bI (ps.set i ((ab c s i).s)))]<|.l (kQ c s kp i fd sts ps ch tm0) (0,ch) (fun ⟨k,dr⟩=>.b 21 (.b 25 (.q 6 [0,1,6,18,19,20] 29<|.w 6 [(14,.inl (.tup []) (l6 c s i k) ((qQ c s kp i fd sts ps tm0 k dr)++.dead::[]))]<|.w 7 [(0,.val (i6 ((k+1:Nat):Int)))]<|.e) (.w 7 [(0,.val (i6 ((k+1:Nat):Int)))]<|.e)) (.e))) Tryz.func108 rfl rfl (by kernel_rfl) ?_
         have hpl:(ab c s i).pops.length=(c.procs.getD i af).takes.length:=kg _ _ _ _
         have ht1:(c.procs.getD i af).takes.length≤100:=(hc.pr i (by omega)).tl
         refine tt ⟨ix,⟨⟨om,by simp only[List.map_set];rfl⟩,tt ⟨rfl,⟨by omega,rfl⟩,?_⟩⟩⟩
         intro k dr hinv
         obtain⟨hk,hdr⟩:=hinv
         have hdl:dr.length=c.chans.length:=by rw[hdr,cL,hchl]
         refine tt (cd (fun hc21=>?_) (fun hc21=>?_))
         · refine tt ⟨ix,tt ⟨fun hc25=>?_,fun hc25=>?_⟩⟩
           · have hkt:k<(c.procs.getD i af).takes.length:=by omega
             have htk:0≤((c.procs.getD i af).takes.getD k aO).chan∧((c.procs.getD i af).takes.getD k aO).chan<c.chans.length:=⟨(hc.tk i (by omega) k hkt).1,(hc.tk i (by omega) k hkt).2.1⟩
             have hfl:1≤(dr.getD ((c.procs.getD i af).takes.getD k aO).chan.toNat []).length:=by
               rw[hdr,hch,jW]
               exact Bp hc hl2 (by omega) hcan hkt hc25
             refine tt ⟨ix,tt ⟨ix,tt ⟨?_,?_⟩⟩⟩
             · intro tm1
               refine dn.vc (V:=TT 13 (IX ((((c.procs.getD i af).takes).getD k aO).chan) dr.length∧(((((c.procs.getD i af).takes).getD k aO).chan).toNat<dr.length∧True)∧CC (IJ (dr.getD (((((c.procs.getD i af).takes).getD k aO).chan).toNat) []))∧IX ((((c.procs.getD i af).takes).getD k aO).chan) dr.length∧(((((c.procs.getD i af).takes).getD k aO).chan).toNat<dr.length∧(dr.map ac).set (((((c.procs.getD i af).takes).getD k aO).chan).toNat) ((ac (dr.getD (((((c.procs.getD i af).takes).getD k aO).chan).toNat) [])).take 0++[(.sl 1 (ae .i64) 0 ((dr.getD (((((c.procs.getD i af).takes).getD k aO).chan).toNat) []).drop 1))]++(ac (dr.getD (((((c.procs.getD i af).takes).getD k aO).chan).toNat) [])).drop (0+1))=(dr.set (((((c.procs.getD i af).takes).getD k aO).chan).toNat) ((dr.getD (((((c.procs.getD i af).takes).getD k aO).chan).toNat) []).drop 1)).map ac)∧True∧([(aV c),(aU s),bA,.dead,(aV c),(aU s),.dead,.dead,.dead,(jg ps i c s),.dead,.dead,(.arr 42 1 ac [] (dr.set (((((c.procs.getD i af).takes).getD k aO).chan).toNat) ((dr.getD (((((c.procs.getD i af).takes).getD k aO).chan).toNat) []).drop 1))),.dead,.dead,(cA c),(gC fd i),(gB sts i c s),(.frame tm0 (E9 c s i kp)),(.var 101 (mQ c s i)),.dead,.dead,.dead,.dead,.dead,.dead,.dead,.dead,.dead,.frame tm1 (l6 c s i k)]:List am)=(qQ c s kp i fd sts ps tm0 k dr)++.frame tm1 (l6 c s i k)::[])) (.w 0 [(15,(IJ (dr.getD (((((c.procs.getD i af).takes).getD k aO).chan).toNat) [])).O),(17,.box 42 1 ac [] (dr.set (((((c.procs.getD i af).takes).getD k aO).chan).toNat) ((dr.getD (((((c.procs.getD i af).takes).getD k aO).chan).toNat) []).drop 1)))]<|.e) Tryz.func86 rfl rfl (by kernel_rfl) ?_
               exact tt ⟨ix,⟨⟨om,oK⟩,⟨(yy (dr.getD (((((c.procs.getD i af).takes).getD k aO).chan).toNat) []) om),⟨ix,⟨⟨om,by simp only[List.map_set];rfl⟩,⟨oK,rfl⟩⟩⟩⟩⟩⟩
             refine⟨w6,tt ⟨(k+1,dr.set (((((c.procs.getD i af).takes).getD k aO).chan).toNat) ((dr.getD (((((c.procs.getD i af).takes).getD k aO).chan).toNat) []).drop 1)),rfl,?_,(?_:(ab c s i).pops.length-(k+1)<(ab c s i).pops.length-k)⟩⟩
             · exact⟨by omega,by rw[zJ hc25,hdr];exact(se _ _ _).symm⟩
             · omega
           · refine⟨w6,tt ⟨(k+1,dr),rfl,?_,(?_:(ab c s i).pops.length-(k+1)<(ab c s i).pops.length-k)⟩⟩
             · exact⟨by omega,by rw[Df hc25,hdr]⟩
             · omega
         · refine⟨oK,congrArg (fun (z0:List (List Int))=>([(aV c),(aU s),bA,.dead,(aV c),(aU s),.dead,.dead,.dead,(jg ps i c s),.dead,.dead,(.arr 42 1 ac [] z0),.dead,.dead,(cA c),(gC fd i),(gB sts i c s),.frame tm0 (kP c s kp i)]:List am)) (?_:dr=(ba ch (ku (c.procs.getD i af) (ab c s i) (c.procs.getD i af).takes.length)))⟩
           rw[hdr,show k=(c.procs.getD i af).takes.length by omega]
       refine⟨w6,tt ⟨(i+1,fd.set i true,sts.set i (ab c s i),ps.set i ((ab c s i).s),ba ch (ku (c.procs.getD i af) (ab c s i) (c.procs.getD i af).takes.length)),rfl,(?_:(i+1)≤c.procs.length∧(fd.set i true)=cf (ax c s (iV kp)) (List.replicate c.procs.length false) (i+1)∧(sts.set i (ab c s i))=cf (GR c s (iV kp)) (List.replicate c.procs.length gg) (i+1)∧(ps.set i ((ab c s i).s))=cf (cF c s (iV kp)) s.procs (i+1)∧(ba ch (ku (c.procs.getD i af) (ab c s i) (c.procs.getD i af).takes.length))=ba s.chans (gf c s (iV kp) (i+1))),(?_:c.procs.length-(i+1)<c.procs.length-i)⟩⟩
       · have hno:=Ir hc34 hcan
         exact⟨by omega,by rw[hfd];exact bM (by simp;omega) hno,by rw[hst];exact bM (by simp;omega) (zI hc34).symm,by rw[hps];exact bM (by omega) (It hno).symm,by rw[hch];rw[Bm hno,jW]⟩
       · omega
     · refine⟨w6,tt ⟨(i+1,fd,sts.set i (ab c s i),ps,ch),rfl,(?_:(i+1)≤c.procs.length∧fd=cf (ax c s (iV kp)) (List.replicate c.procs.length false) (i+1)∧(sts.set i (ab c s i))=cf (GR c s (iV kp)) (List.replicate c.procs.length gg) (i+1)∧ps=cf (cF c s (iV kp)) s.procs (i+1)∧ch=ba s.chans (gf c s (iV kp) (i+1))),(?_:c.procs.length-(i+1)<c.procs.length-i)⟩⟩
       · have hno:=Iq (w:=(iV kp)) hc46
         exact⟨by omega,by rw[hfd];exact bH (d:=false) (by simp;omega) (by rw[hno,bS]),by rw[hst];exact bM (by simp;omega) (zI hc34).symm,by rw[hps];exact bH (d:=bI) (by omega) (E3 hno).symm,by rw[hch];rw[ve hno]⟩
       · omega
 · have hie:i=c.procs.length:=by omega
   refine tt ⟨rfl,⟨by omega,by rw[hch,hie];rfl⟩,?_⟩
   intro j ch2 hinv
   obtain⟨hj,hch2⟩:=hinv
   have hchl2:ch2.length=c.chans.length:=by rw[hch2,cM,cL];exact hl2
   refine tt (cd (fun hc61=>?_) (fun hc61=>?_))
   · refine tt ⟨ix,⟨⟨om,oK⟩,tt ⟨fun hc65=>?_,fun hc65=>?_⟩⟩⟩
     · have hc65':ax c s (iV kp) j=true:=by rw[← hc65,hfd,fK,if_pos (by omega)]
       have hsj:sts.getD j gg=ab c s j:=by rw[hst,fK,if_pos (by omega)];exact if_pos (OO hc65').1
       refine tt ⟨ix,⟨⟨⟨om,oK⟩,(by rw[hsj];exact⟨rfl,rfl,rfl,rfl,rfl,oK⟩)⟩,⟨?_,?_⟩⟩⟩
       · intro tm0
         refine dn.vc (V:=TT 5 (GO (jj c s fd sts ps j ch2 tm0) (0,ch2) (∀m em,(jj c s fd sts ps j ch2 tm0).inv (m,em)→TT 1 (CD ((m:Int)<((((ab c s j).puts).length:Nat):Int)) (TT 1 (IX (m:Int) (((ab c s j).puts).length)∧TT 6 (CB ((((ab c s j).puts).getD m aP).has) (TT 7 (IX (j:Int) c.procs.length∧TT 3 (IX (m:Int) (((c.procs.getD j af).puts).length)∧TT 4 (ap [[(i6 ((((ab c s j).puts).getD m aP).v))]] ([(((ab c s j)).puts.getD m aP).v].map (ae .i64))∧lH Tryz.prog 60 [aY,(qM c j m),(LI [(((ab c s j)).puts.getD m aP).v])] (Di c s fd sts ps j tm0 m em) (l7 c s j m) (qT c s fd sts ps j tm0 m em) [] (.tup [])∧W6 ((m+1:Nat):Int)∧TT 1 (AG (jj c s fd sts ps j ch2 tm0) (m,em) (m+1,em.set (((((c.procs.getD j af).puts).getD m aK).chan).toNat) ((em.getD (((((c.procs.getD j af).puts).getD m aK).chan).toNat) [])++[(((ab c s j)).puts.getD m aP).v]))))))) (W6 ((m+1:Nat):Int)∧TT 1 (AG (jj c s fd sts ps j ch2 tm0) (m,em) (m+1,em)))))) (True∧([(aV c),(aU s),bA,.dead,(aV c),(aU s),.dead,.dead,.dead,(dy ps),.dead,.dead,(.arr 42 1 ac [] em),.dead,.dead,(cA c),(d7 fd),(d8 sts),.frame tm0 (ji c s fd j)]:List am)=(qR c s fd sts ps j ch2)++.frame tm0 (ji c s fd j)::[]))))) (.l (jj c s fd sts ps j ch2 tm0) (0,ch2) (fun ⟨m,em⟩=>.b 12 (.b 17 (.q 5 [0,1,6,7,9,10,11] 21<|.w 5 [(16,.box 3 1 (ae .i64) 0 [(((ab c s j)).puts.getD m aP).v]),(17,.inl (.tup []) (l7 c s j m) ((qT c s fd sts ps j tm0 m em)++.dead::[]))]<|.w 6 [(0,.val (i6 ((m+1:Nat):Int)))]<|.e) (.w 6 [(0,.val (i6 ((m+1:Nat):Int)))]<|.e)) (.e))) Tryz.func109 rfl rfl (by kernel_rfl) ?_
         have hpl:(ab c s j).puts.length=(c.procs.getD j af).puts.length:=gJ _ _ _ _
         have ht1:(c.procs.getD j af).puts.length≤100:=(hc.pr j (by omega)).pl
         refine tt ⟨rfl,⟨by omega,rfl⟩,?_⟩
         intro m em hinv
         obtain⟨hm,hem⟩:=hinv
         have hel:em.length=c.chans.length:=by rw[hem,cM,hchl2]
         refine tt (cd (fun hc12=>?_) (fun hc12=>?_))
         · refine tt ⟨ix,tt ⟨fun hc17=>?_,fun hc17=>?_⟩⟩
           · have hkt:m<(c.procs.getD j af).puts.length:=by omega
             have htk:0≤((c.procs.getD j af).puts.getD m aK).chan∧((c.procs.getD j af).puts.getD m aK).chan<c.chans.length:=⟨(hc.pt j (by omega) m hkt).1,(hc.pt j (by omega) m hkt).2.1⟩
             have hfl:(em.getD ((c.procs.getD j af).puts.getD m aK).chan.toNat []).length+1≤137438953472:=by
               rw[hem,hch2,jX]
               exact E6 hc hl2 hsm (show j<c.procs.length by omega) (show m≤(c.procs.getD j af).puts.length by omega) (show((c.procs.getD j af).puts.getD m aK).chan.toNat<c.chans.length by omega)
             refine tt ⟨ix,tt ⟨ix,tt ⟨⟨⟨rfl,oK⟩,oK⟩,⟨?_,?_⟩⟩⟩⟩
             · intro tm1
               refine dn.vc (V:=TT 4 (lH Tryz.prog 86 [aY,(qM c j m),(Dg c s j m)] (Dj c s fd sts ps j tm0 m em tm1) (l8 c s j m) (qS c s fd sts ps j tm0 m em tm1) [] (.tup [])∧True∧([(aV c),(aU s),bA,.dead,(aV c),(aU s),.dead,.dead,.dead,(dy ps),.dead,.dead,(yx em c j m s),.dead,.dead,(cA c),(d7 fd),(d8 sts),(.frame tm0 (mP c s j fd)),(.var 101 (jf c s j)),(oa c s j m),.dead,.dead,.dead,.dead,.dead,.dead,.dead,.dead,.dead,.dead,.dead,.dead,.dead,.dead,.dead,.dead,.dead,.frame tm1 (l7 c s j m)]:List am)=(qT c s fd sts ps j tm0 m em)++.frame tm1 (l7 c s j m)::[])) (.q 1 [0,1,5] 40<|.f 1 39<|.w 1 [(3,.inl (.tup []) (l8 c s j m) ((qS c s fd sts ps j tm0 m em tm1)++.dead::[]))]<|.e) Tryz.func60 rfl rfl (by kernel_rfl) ?_
               refine tt ⟨?_,?_⟩
               · intro tm2
                 refine dn.vc (V:=TT 13 (IX ((((c.procs.getD j af).puts).getD m aK).chan) em.length∧(((((c.procs.getD j af).puts).getD m aK).chan).toNat<em.length∧True)∧CC (Nd (em.getD (((((c.procs.getD j af).puts).getD m aK).chan).toNat) []) [(((ab c s j)).puts.getD m aP).v])∧IX ((((c.procs.getD j af).puts).getD m aK).chan) em.length∧(((((c.procs.getD j af).puts).getD m aK).chan).toNat<em.length∧(em.map ac).set (((((c.procs.getD j af).puts).getD m aK).chan).toNat) ((ac (em.getD (((((c.procs.getD j af).puts).getD m aK).chan).toNat) [])).take 0++[(.sl 1 (ae .i64) 0 ((em.getD (((((c.procs.getD j af).puts).getD m aK).chan).toNat) [])++[(((ab c s j)).puts.getD m aP).v]))]++(ac (em.getD (((((c.procs.getD j af).puts).getD m aK).chan).toNat) [])).drop (0+1))=(em.set (((((c.procs.getD j af).puts).getD m aK).chan).toNat) ((em.getD (((((c.procs.getD j af).puts).getD m aK).chan).toNat) [])++[(((ab c s j)).puts.getD m aP).v])).map ac)∧True∧([(aV c),(aU s),bA,.dead,(aV c),(aU s),.dead,.dead,.dead,(dy ps),.dead,.dead,(yx em c j m s),.dead,.dead,(cA c),(d7 fd),(d8 sts),(.frame tm0 (mP c s j fd)),(.var 101 (jf c s j)),(oa c s j m),.dead,.dead,.dead,.dead,.dead,.dead,.dead,.dead,.dead,.dead,.dead,.dead,.dead,.dead,.dead,.dead,.dead,(.frame tm1 (yw j m c s)),.dead,.frame tm2 (l8 c s j m)]:List am)=(qS c s fd sts ps j tm0 m em tm1)++.frame tm2 (l8 c s j m)::[])) (.w 0 [(15,(Nd (em.getD (((((c.procs.getD j af).puts).getD m aK).chan).toNat) []) [(((ab c s j)).puts.getD m aP).v]).O),(17,.box 42 1 ac [] (em.set (((((c.procs.getD j af).puts).getD m aK).chan).toNat) ((em.getD (((((c.procs.getD j af).puts).getD m aK).chan).toNat) [])++[(((ab c s j)).puts.getD m aP).v])))]<|.e) Tryz.func86 rfl rfl (by kernel_rfl) ?_
                 exact tt ⟨ix,⟨⟨om,oK⟩,⟨(qP (em.getD (((((c.procs.getD j af).puts).getD m aK).chan).toNat) []) [(((ab c s j)).puts.getD m aP).v] om),⟨ix,⟨⟨om,by simp only[List.map_set];rfl⟩,⟨oK,rfl⟩⟩⟩⟩⟩⟩
               exact⟨oK,rfl⟩
             refine⟨w6,tt ⟨(m+1,em.set (((((c.procs.getD j af).puts).getD m aK).chan).toNat) ((em.getD (((((c.procs.getD j af).puts).getD m aK).chan).toNat) [])++[(((ab c s j)).puts.getD m aP).v])),rfl,?_,(?_:(ab c s j).puts.length-(m+1)<(ab c s j).puts.length-m)⟩⟩
             · exact⟨by omega,by rw[vf hc17,hem];exact(iz _ _ _ _).symm⟩
             · omega
           · refine⟨w6,tt ⟨(m+1,em),rfl,?_,(?_:(ab c s j).puts.length-(m+1)<(ab c s j).puts.length-m)⟩⟩
             · exact⟨by omega,by rw[zK hc17,hem]⟩
             · omega
         · refine⟨oK,congrArg (fun (z0:List (List Int))=>([(aV c),(aU s),bA,.dead,(aV c),(aU s),.dead,.dead,.dead,(dy ps),.dead,.dead,(.arr 42 1 ac [] z0),.dead,.dead,(cA c),(d7 fd),(d8 sts),.frame tm0 (ji c s fd j)]:List am)) (?_:em=(bq ch2 (mO (c.procs.getD j af) (ab c s j) (c.procs.getD j af).puts.length)))⟩
           rw[hem,show m=(c.procs.getD j af).puts.length by omega]
       refine⟨w6,tt ⟨(j+1,bq ch2 (mO (c.procs.getD j af) (ab c s j) (c.procs.getD j af).puts.length)),rfl,?_,(?_:c.procs.length-(j+1)<c.procs.length-j)⟩⟩
       · exact⟨by omega,by rw[hch2];rw[Bn hc65',jX]⟩
       · omega
     · have hc65':ax c s (iV kp) j=false:=by rw[← hc65,hfd,fK,if_pos (by omega)]
       refine⟨w6,tt ⟨(j+1,ch2),rfl,?_,(?_:c.procs.length-(j+1)<c.procs.length-j)⟩⟩
       · exact⟨by omega,by rw[hch2];rw[E4 hc65']⟩
       · omega
   · have hje:j=c.procs.length:=by omega
     refine tt ⟨⟨(congrArg _ (?_:ps=((bf c s (iV kp)).procs))),(congrArg _ (?_:ch2=((bf c s (iV kp)).chans))),oK⟩,(congrArg _ (?_:fd=(tab (ax c s (iV kp)) c.procs.length))),oK⟩
     · rw[hps,hie,cY (by omega)];rfl
     · rw[hch2,hje];exact yl hc hl2
     · rw[hfd,hie,cY (by simp)]
abbrev Nh (c:Ci) (s:Ns) (cl:ByteArray):Ct:=⟨90,[(.agg (qO c)),(.agg (qN s)),(zL c cl)],true,(.tup [(.agg [(dL 2 bN bI ((bf c s (br c cl)).procs)),(dL 1 ac [] ((bf c s (br c cl)).chans))]),(LB (tab (ax c s (br c cl)) c.procs.length))])⟩
abbrev Gw (c:Ci) (s:Ns):List am:=[(aV c),(aU s),bA]
abbrev pi (c:Ci) (s:Ns) (cl:ByteArray):List (Nat×D):=[(15,(.agg (qN s))),(14,(.agg (qO c))),(2,(zL c cl)),(3,(.ptr 0 0 0 0)),(4,(.ptr 1 0 0 0)),(6,(.ptr 2 0 0 0))]
abbrev tF (c:Ci) (s:Ns):List am:=[(aV c),(aU s),bA]
abbrev tG (c:Ci) (s:Ns):List am:=[(aV c),(aU s),.dead,.dead,.dead,(.arr 56 2 bN bI s.procs),.dead,.dead,(.arr 42 1 ac [] s.chans),.dead,.dead,(cA c)]
abbrev iX (c:Ci) (s:Ns) (cl:ByteArray):Lp (Nat×List Bool×List Fi×List Ps×List (List Int)):=Q1 [2,3,4,6,8,9,10,27,28] 18 (fun (i:Nat) (fd:List Bool) (sts:List Fi) (ps:List Ps) (ch:List (List Int))=>⟨[(2,(zL c cl)),(3,(.ptr 0 0 0 0)),(4,(.ptr 1 0 0 0)),(6,(.ptr 2 0 0 0)),(8,aY),(9,(.own 16)),(10,(.own 17)),(27,(i6 (c.procs.length:Int))),(28,(i6 (i:Int)))],[(aV c),(aU s),bA,.dead,(aV c),(aU s),.dead,.dead,.dead,(dy ps),.dead,.dead,(.arr 42 1 ac [] ch),.dead,.dead,(cA c),(d7 fd),(d8 sts)]⟩) (fun (i:Nat) (fd:List Bool) (sts:List Fi) (ps:List Ps) (ch:List (List Int))=>i≤c.procs.length∧fd=cf (ax c s (br c cl)) (List.replicate c.procs.length false) i∧sts=cf (GR c s (br c cl)) (List.replicate c.procs.length gg) i∧ps=cf (cF c s (br c cl)) s.procs i∧ch=ba s.chans (gf c s (br c cl) i)) (fun (i:Nat) (fd:List Bool) (sts:List Fi) (ps:List Ps) (ch:List (List Int))=>c.procs.length-i)
abbrev Gx (c:Ci) (s:Ns) (i:Nat) (fd:List Bool) (sts:List Fi) (ps:List Ps) (ch:List (List Int)):List am:=[(aV c),(aU s),bA,.dead,(aV c),(aU s),.dead,.dead,.dead,(dy ps),.dead,.dead,(.arr 42 1 ac [] ch),.dead,.dead,(cA c),(gC fd i),(gB sts i c s)]
abbrev kR (c:Ci) (s:Ns) (cl:ByteArray) (i:Nat):List (Nat×D):=(E8 c s i cl)
abbrev tH (c:Ci) (s:Ns) (i:Nat) (fd:List Bool) (sts:List Fi) (ps:List Ps) (ch:List (List Int)):List am:=(IC c s ps i ch fd sts)
abbrev kS (c:Ci) (s:Ns) (cl:ByteArray) (i:Nat) (fd:List Bool) (sts:List Fi) (ps:List Ps) (ch:List (List Int)) (tm0:Array Value):Lp (Nat×List (List Int)):=u2 [0,1,18,19,20] 29 (fun (k:Nat) (dr:List (List Int))=>⟨[(0,aY),(1,(i6 (i:Int))),(18,(LB ((ab c s i).pops))),(19,(i6 ((((ab c s i).pops).length:Nat):Int))),(20,(i6 (k:Int)))],(IH c s ps i dr fd sts tm0 cl)⟩) (fun (k:Nat) (dr:List (List Int))=>k≤(ab c s i).pops.length∧dr=ba ch (ku (c.procs.getD i af) (ab c s i) k)) (fun (k:Nat) (dr:List (List Int))=>(ab c s i).pops.length-k)
abbrev Gy (c:Ci) (s:Ns) (cl:ByteArray) (i:Nat) (fd:List Bool) (sts:List Fi) (ps:List Ps) (tm0:Array Value) (dr:List (List Int)):List am:=(IH c s ps i dr fd sts tm0 cl)
abbrev l9 (c:Ci) (s:Ns) (i:Nat) (k:Nat):List (Nat×D):=[(39,(i6 ((((c.procs.getD i af).takes).getD k aO).chan))),(38,(.iptr (kt (((c.procs.getD i af).takes).getD k aO)) 0)),(37,(.iptr (kt (((c.procs.getD i af).takes).getD k aO)) 0)),(36,(i6 (k:Int))),(35,(dL 9 kt aO ((c.procs.getD i af).takes))),(34,(.iptr (hU (c.procs.getD i af)) 4)),(33,(.iptr (hU (c.procs.getD i af)) 0)),(32,(i6 (i:Int))),(31,(dL 6 hU af c.procs)),(30,aY),(29,aY),(28,aY),(27,aY),(26,aY),(0,aY),(1,(i6 (i:Int))),(6,(i6 (k:Int))),(18,(LB ((ab c s i).pops))),(19,(i6 ((((ab c s i).pops).length:Nat):Int))),(20,(i6 (k:Int)))]
abbrev qU (c:Ci) (s:Ns) (cl:ByteArray) (i:Nat) (fd:List Bool) (sts:List Fi) (ps:List Ps) (tm0:Array Value) (k:Nat) (dr:List (List Int)):List am:=[(aV c),(aU s),bA,.dead,(aV c),(aU s),.dead,.dead,.dead,(jg ps i c s),.dead,.dead,(.arr 42 1 ac [] (dr.set (((((c.procs.getD i af).takes).getD k aO).chan).toNat) ((dr.getD (((((c.procs.getD i af).takes).getD k aO).chan).toNat) []).drop 1))),.dead,.dead,(cA c),(gC fd i),(gB sts i c s),(.frame tm0 (E8 c s i cl)),(.var 101 (mQ c s i)),.dead,.dead,.dead,.dead,.dead,.dead,.dead,.dead,.dead]
abbrev jk (c:Ci) (s:Ns) (cl:ByteArray) (fd:List Bool) (sts:List Fi) (ps:List Ps):Lp (Nat×List (List Int)):=u2 [6,8,9,10,58,59,60] 18 (fun (j:Nat) (ch2:List (List Int))=>⟨[(6,(.ptr 2 0 0 0)),(8,aY),(9,(.own 16)),(10,(.own 17)),(58,(.own 16)),(59,(i6 (fd.length:Int))),(60,(i6 (j:Int)))],(zM c s ps ch2 fd sts)⟩) (fun (j:Nat) (ch2:List (List Int))=>j≤c.procs.length∧ch2=bq (ba s.chans (gf c s (br c cl) c.procs.length)) (nQ c s (br c cl) j)) (fun (j:Nat) (ch2:List (List Int))=>c.procs.length-j)
abbrev Dk (c:Ci) (s:Ns) (fd:List Bool) (sts:List Fi) (ps:List Ps) (ch2:List (List Int)):List am:=(zM c s ps ch2 fd sts)
abbrev jl (c:Ci) (s:Ns) (fd:List Bool) (j:Nat):List (Nat×D):=(mP c s j fd)
abbrev qV (c:Ci) (s:Ns) (fd:List Bool) (sts:List Fi) (ps:List Ps) (j:Nat) (ch2:List (List Int)):List am:=(IE c s ps ch2 j fd sts)
abbrev jm (c:Ci) (s:Ns) (fd:List Bool) (sts:List Fi) (ps:List Ps) (j:Nat) (ch2:List (List Int)) (tm0:Array Value):Lp (Nat×List (List Int)):=u2 [0,1,9,10,11] 20 (fun (m:Nat) (em:List (List Int))=>⟨[(0,aY),(1,(i6 (j:Int))),(9,(dL 2 cO aP ((ab c s j).puts))),(10,(i6 ((((ab c s j).puts).length:Nat):Int))),(11,(i6 (m:Int)))],[(aV c),(aU s),bA,.dead,(aV c),(aU s),.dead,.dead,.dead,(dy ps),.dead,.dead,(.arr 42 1 ac [] em),.dead,.dead,(cA c),(d7 fd),(d8 sts),(.frame tm0 (mP c s j fd)),(.var 101 (jf c s j))]⟩) (fun (m:Nat) (em:List (List Int))=>m≤(ab c s j).puts.length∧em=bq ch2 (mO (c.procs.getD j af) (ab c s j) m)) (fun (m:Nat) (em:List (List Int))=>(ab c s j).puts.length-m)
abbrev Dl (c:Ci) (s:Ns) (fd:List Bool) (sts:List Fi) (ps:List Ps) (j:Nat) (tm0:Array Value) (m:Nat) (em:List (List Int)):List am:=(IA c s ps em fd sts tm0 j m)
abbrev mb (c:Ci) (s:Ns) (j:Nat) (m:Nat):List (Nat×D):=(yw j m c s)
abbrev Dm (c:Ci) (s:Ns) (fd:List Bool) (sts:List Fi) (ps:List Ps) (j:Nat) (tm0:Array Value) (m:Nat) (em:List (List Int)) (tm1:Array Value):List am:=(Iy c s ps em fd sts tm0 j m tm1)
abbrev mc (c:Ci) (s:Ns) (j:Nat) (m:Nat):List (Nat×D):=(II c s j m)
abbrev qW (c:Ci) (s:Ns) (fd:List Bool) (sts:List Fi) (ps:List Ps) (j:Nat) (tm0:Array Value) (m:Nat) (em:List (List Int)) (tm1:Array Value):List am:=(Iz c s ps em j m fd sts tm0 tm1)
abbrev qX (c:Ci) (s:Ns) (fd:List Bool) (sts:List Fi) (ps:List Ps) (j:Nat) (tm0:Array Value) (m:Nat) (em:List (List Int)):List am:=(IB c s ps em j m fd sts tm0)
theorem Gz (c:Ci) (s:Ns) (cl:ByteArray) (hc:a8 c) (hs:fa c s) (hsm:EY s 4294967296):CC (Nh c s cl):=by
 have hnl:=hc.nl
 have hcl:=hc.cl
 have hl1:=hs.pl
 have hl2:=hs.cl
 refine ah.vc (V:=TT 6 (lH Tryz.prog 59 [(.agg (qO c)),(.agg (qN s))] (Gw c s) (pi c s cl) (tF c s) (tG c s) aY∧TT 4 ((((0:Int)≤(c.procs.length:Int)∧(c.procs.length:Int)≤(c.procs.length:Int)∧(c.procs.length:Int)≤137438953472)∧(List.replicate c.procs.length false).length=c.procs.length∧∀x∈(List.replicate c.procs.length false),c8 [(dB false)] (bk x))∧TT 4 ((((0:Int)≤(c.procs.length:Int)∧(c.procs.length:Int)≤(c.procs.length:Int)∧(c.procs.length:Int)≤137438953472)∧(List.replicate c.procs.length gg).length=c.procs.length∧∀x∈(List.replicate c.procs.length gg),c8 [(dB false),.nils,.nils,.nils,.nils] (BU x))∧TT 5 (GO (iX c s cl) (0,List.replicate c.procs.length false,List.replicate c.procs.length gg,s.procs,s.chans) (∀i fd sts ps ch,(iX c s cl).inv (i,fd,sts,ps,ch)→TT 1 (CD ((i:Int)<(c.procs.length:Int)) (TT 4 (CC (Nf c i cl)∧TT 1 (CB (!(br c cl i)) (W6 ((i+1:Nat):Int)∧TT 1 (AG (iX c s cl) (i,fd,sts,ps,ch) (i+1,fd,sts,ps,ch))) (TT 5 (CC (Nb c s i)∧IX (i:Int) sts.length∧(i<sts.length∧(sts.map BU).set i ((BU (sts.getD i gg)).take 0++[(.bool ((ab c s i).fires)),(.sl 1 (ae .i64) 0 (((ab c s i).s).regs)),(.sl 1 ac [] (((ab c s i).s).mems)),(.sl 1 bk false ((ab c s i).pops)),(.sl 2 cO aP ((ab c s i).puts))]++(BU (sts.getD i gg)).drop (0+5))=(sts.set i (ab c s i)).map BU)∧TT 2 (IX (i:Int) ((sts.set i (ab c s i)).length)∧TT 1 (((i<(sts.set i (ab c s i)).length∧True)∧(((sts.set i (ab c s i)).getD i gg).fires)=(dj c s i))∧CB (dj c s i) (TT 2 (IX (i:Int) fd.length∧(i<fd.length∧(fd.map bk).set i ((bk (fd.getD i false)).take 0++[(.bool true)]++(bk (fd.getD i false)).drop (0+1))=(fd.set i true).map bk)∧TT 4 (IX (i:Int) ((sts.set i (ab c s i)).length)∧((i<(sts.set i (ab c s i)).length∧True)∧((((sts.set i (ab c s i)).getD i gg).fires)=((ab c s i).fires)∧((((sts.set i (ab c s i)).getD i gg).s).regs).map (ae .i64)=(((ab c s i).s).regs).map (ae .i64)∧((((sts.set i (ab c s i)).getD i gg).s).mems).map ac=(((ab c s i).s).mems).map ac∧(((sts.set i (ab c s i)).getD i gg).pops).map bk=((ab c s i).pops).map bk∧(((sts.set i (ab c s i)).getD i gg).puts).map cO=((ab c s i).puts).map cO∧True))∧lH Tryz.prog 108 [aY,(i6 (i:Int)),(.agg (mQ c s i))] (Gx c s i fd sts ps ch) (kR c s cl i) (tH c s i fd sts ps ch) [] (.tup [])∧W6 ((i+1:Nat):Int)∧TT 1 (AG (iX c s cl) (i,fd,sts,ps,ch) (i+1,fd.set i true,sts.set i (ab c s i),ps.set i ((ab c s i).s),ba ch (ku (c.procs.getD i af) (ab c s i) (c.procs.getD i af).takes.length)))))) (W6 ((i+1:Nat):Int)∧TT 1 (AG (iX c s cl) (i,fd,sts,ps,ch) (i+1,fd,sts.set i (ab c s i),ps,ch)))))))))) (TT 3 (GO (jk c s cl fd sts ps) (0,ch) (∀j ch2,(jk c s cl fd sts ps).inv (j,ch2)→TT 1 (CD ((j:Int)<(fd.length:Int)) (TT 1 (IX (j:Int) fd.length∧(j<fd.length∧True)∧TT 3 (CB ((fd.getD j false)) (TT 4 (IX (j:Int) sts.length∧((j<sts.length∧True)∧(((sts.getD j gg).fires)=((ab c s j).fires)∧(((sts.getD j gg).s).regs).map (ae .i64)=(((ab c s j).s).regs).map (ae .i64)∧(((sts.getD j gg).s).mems).map ac=(((ab c s j).s).mems).map ac∧((sts.getD j gg).pops).map bk=((ab c s j).pops).map bk∧((sts.getD j gg).puts).map cO=((ab c s j).puts).map cO∧True))∧lH Tryz.prog 109 [aY,(i6 (j:Int)),(.agg (jf c s j))] (Dk c s fd sts ps ch2) (jl c s fd j) (qV c s fd sts ps j ch2) [] (.tup [])∧W6 ((j+1:Nat):Int)∧TT 1 (AG (jk c s cl fd sts ps) (j,ch2) (j+1,bq ch2 (mO (c.procs.getD j af) (ab c s j) (c.procs.getD j af).puts.length))))) (W6 ((j+1:Nat):Int)∧TT 1 (AG (jk c s cl fd sts ps) (j,ch2) (j+1,ch2)))))) (TT 9 ((ps.map bN=((bf c s (br c cl)).procs).map bN∧ch2.map ac=((bf c s (br c cl)).chans).map ac∧True)∧fd.map bk=(tab (ax c s (br c cl)) c.procs.length).map bk∧True))))))))))))) (.q 1 [2,3,4,6] 3<|.w 1 [(2,.inl aY (pi c s cl) ((tF c s)++.dead::(tG c s)))]<|.w 2 [(3,.box 4 1 bk false (List.replicate c.procs.length false))]<|.w 3 [(3,.box 101 5 BU gg (List.replicate c.procs.length gg))]<|.l (iX c s cl) (0,List.replicate c.procs.length false,List.replicate c.procs.length gg,s.procs,s.chans) (fun ⟨i,fd,sts,ps,ch⟩=>.b 29 (.q 7 [2,3,4,6,8,9,10,11,27,28] 18<|.w 7 [(2,(Nf c i cl).O)]<|.b 34 (.w 12 [(0,.val (i6 ((i+1:Nat):Int)))]<|.e) (.w 8 [(5,(Nb c s i).O),(7,.box 101 5 BU gg (sts.set i (ab c s i)))]<|.w 9 [(4,.val (dB (dj c s i)))]<|.b 46 (.w 10 [(3,.box 4 1 bk false (fd.set i true))]<|.q 11 [2,3,4,6,8,9,10,11,27,28] 18<|.w 11 [(5,.val (.agg (mQ c s i))),(6,.inl (.tup []) (kR c s cl i) ((tH c s i fd sts ps ch)++.dead::[]))]<|.w 12 [(0,.val (i6 ((i+1:Nat):Int)))]<|.e) (.w 12 [(0,.val (i6 ((i+1:Nat):Int)))]<|.e))) (.l (jk c s cl fd sts ps) (0,ch) (fun ⟨j,ch2⟩=>.b 61 (.b 65 (.q 17 [6,8,9,10,12,58,59,60] 18<|.w 17 [(5,.val (.agg (jf c s j))),(6,.inl (.tup []) (jl c s fd j) ((qV c s fd sts ps j ch2)++.dead::[]))]<|.w 18 [(0,.val (i6 ((j+1:Nat):Int)))]<|.e) (.w 18 [(0,.val (i6 ((j+1:Nat):Int)))]<|.e)) (.e))))) Tryz.func90 rfl rfl rfl (by kernel_rfl) ?_
 refine tt ⟨?_,?_⟩
 · intro tm0
   refine dn.vc (V:=TT 6 (CO (M5 s.procs)∧TT 2 (CO (M6 s.chans)∧TT 5 ((aY:D)=aY∧([(aV c),(aU s),bA,.frame tm0 (pi c s cl),(aV c),(aU s),.dead,.dead,.dead,(.arr 56 2 bN bI s.procs),.dead,.dead,(.arr 42 1 ac [] s.chans),.dead,.dead,(cA c)]:List am)=(tF c s)++.frame tm0 (pi c s cl)::(tG c s))))) (.w 1 [(3,(M5 s.procs).O),(6,(M6 s.chans).O)]<|.e) Tryz.func59 rfl rfl (by kernel_rfl) ?_
   exact tt ⟨(tA s.procs om),tt ⟨(tB s.chans om),tt ⟨rfl,rfl⟩⟩⟩
 refine tt ⟨⟨by omega,by simp,fun x hx=>by rw[List.eq_of_mem_replicate hx];exact⟨rfl,oK⟩⟩,tt ⟨⟨by omega,by simp,fun x hx=>by rw[List.eq_of_mem_replicate hx];exact⟨rfl,rfl,rfl,rfl,rfl,oK⟩⟩,tt ⟨rfl,⟨by omega,rfl,rfl,rfl,rfl⟩,?_⟩⟩⟩
 intro i fd sts ps ch hinv
 obtain⟨hi,hfd,hst,hps,hch⟩:=hinv
 have hfl0:fd.length=c.procs.length:=by rw[hfd,dc (by simp;omega)];simp
 have hsl0:sts.length=c.procs.length:=by rw[hst,dc (by simp;omega)];simp
 have hpl0:ps.length=c.procs.length:=by rw[hps,dc (by omega)];omega
 have hchl:ch.length=c.chans.length:=by rw[hch,cL];exact hl2
 refine tt (cd (fun hc29=>?_) (fun hc29=>?_))
 · refine tt ⟨(IL c i cl om),tt ⟨fun hc34=>?_,fun hc34=>?_⟩⟩
   · refine⟨w6,tt ⟨(i+1,fd,sts,ps,ch),rfl,(?_:(i+1)≤c.procs.length∧fd=cf (ax c s (br c cl)) (List.replicate c.procs.length false) (i+1)∧sts=cf (GR c s (br c cl)) (List.replicate c.procs.length gg) (i+1)∧ps=cf (cF c s (br c cl)) s.procs (i+1)∧ch=ba s.chans (gf c s (br c cl) (i+1))),(?_:c.procs.length-(i+1)<c.procs.length-i)⟩⟩
     · have hno:=LW (c:=c) (s:=s) hc34
       exact⟨by omega,by rw[hfd];exact bH (d:=false) (by simp;omega) (by rw[hno,bS]),by rw[hst];exact bH (d:=gg) (by simp;omega) (by rw[← LX hc34,bS]),by rw[hps];exact bH (d:=bI) (by omega) (E3 hno).symm,by rw[hch];rw[ve hno]⟩
     · omega
   · refine tt ⟨(wF c s i hc hs (by omega)),⟨ix,⟨⟨om,by simp only[List.map_set];rfl⟩,tt ⟨ix,tt ⟨⟨⟨om,oK⟩,(by rw[cu (by omega),if_pos rfl];rfl)⟩,⟨fun hc46=>?_,fun hc46=>?_⟩⟩⟩⟩⟩⟩
     · have hcan:dj c s i=true:=hc46
       refine tt ⟨ix,⟨⟨om,by simp only[List.map_set];rfl⟩,tt ⟨ix,⟨⟨⟨om,oK⟩,(by rw[cu (by omega),if_pos rfl];exact⟨rfl,rfl,rfl,rfl,rfl,oK⟩)⟩,⟨?_,?_⟩⟩⟩⟩⟩
       · intro tm0
         refine dn.vc (V:=TT 9 (IX (i:Int) ps.length∧(i<ps.length∧(ps.map bN).set i ((bN (ps.getD i bI)).take 0++[(.sl 1 (ae .i64) 0 (((ab c s i).s).regs)),(.sl 1 ac [] (((ab c s i).s).mems))]++(bN (ps.getD i bI)).drop (0+2))=(ps.set i ((ab c s i).s)).map bN)∧TT 4 (GO (kS c s cl i fd sts ps ch tm0) (0,ch) (∀k dr,(kS c s cl i fd sts ps ch tm0).inv (k,dr)→TT 1 (CD ((k:Int)<((((ab c s i).pops).length:Nat):Int)) (TT 1 (IX (k:Int) (((ab c s i).pops).length)∧TT 4 (CB ((((ab c s i).pops).getD k false)) (TT 7 (IX (i:Int) c.procs.length∧TT 3 (IX (k:Int) (((c.procs.getD i af).takes).length)∧TT 2 (lH Tryz.prog 86 [aY,(i6 ((((c.procs.getD i af).takes).getD k aO).chan)),(.fn (.func 119) [] [])] (Gy c s cl i fd sts ps tm0 dr) (l9 c s i k) (qU c s cl i fd sts ps tm0 k dr) [] (.tup [])∧W6 ((k+1:Nat):Int)∧TT 1 (AG (kS c s cl i fd sts ps ch tm0) (k,dr) (k+1,dr.set (((((c.procs.getD i af).takes).getD k aO).chan).toNat) ((dr.getD (((((c.procs.getD i af).takes).getD k aO).chan).toNat) []).drop 1))))))) (W6 ((k+1:Nat):Int)∧TT 1 (AG (kS c s cl i fd sts ps ch tm0) (k,dr) (k+1,dr)))))) (True∧([(aV c),(aU s),bA,.dead,(aV c),(aU s),.dead,.dead,.dead,(jg ps i c s),.dead,.dead,(.arr 42 1 ac [] dr),.dead,.dead,(cA c),(gC fd i),(gB sts i c s),.frame tm0 (kR c s cl i)]:List am)=(tH c s i fd sts ps ch)++.frame tm0 (kR c s cl i)::[])))))) (.w 1 [(9,.box 56 2 bN bI (ps.set i ((ab c s i).s)))]<|.l (kS c s cl i fd sts ps ch tm0) (0,ch) (fun ⟨k,dr⟩=>.b 21 (.b 25 (.q 6 [0,1,6,18,19,20] 29<|.w 6 [(14,.inl (.tup []) (l9 c s i k) ((qU c s cl i fd sts ps tm0 k dr)++.dead::[]))]<|.w 7 [(0,.val (i6 ((k+1:Nat):Int)))]<|.e) (.w 7 [(0,.val (i6 ((k+1:Nat):Int)))]<|.e)) (.e))) Tryz.func108 rfl rfl (by kernel_rfl) ?_
         have hpl:(ab c s i).pops.length=(c.procs.getD i af).takes.length:=kg _ _ _ _
         have ht1:(c.procs.getD i af).takes.length≤100:=(hc.pr i (by omega)).tl
         refine tt ⟨ix,⟨⟨om,by simp only[List.map_set];rfl⟩,tt ⟨rfl,⟨by omega,rfl⟩,?_⟩⟩⟩
         intro k dr hinv
         obtain⟨hk,hdr⟩:=hinv
         have hdl:dr.length=c.chans.length:=by rw[hdr,cL,hchl]
         refine tt (cd (fun hc21=>?_) (fun hc21=>?_))
         · refine tt ⟨ix,tt ⟨fun hc25=>?_,fun hc25=>?_⟩⟩
           · have hkt:k<(c.procs.getD i af).takes.length:=by omega
             have htk:0≤((c.procs.getD i af).takes.getD k aO).chan∧((c.procs.getD i af).takes.getD k aO).chan<c.chans.length:=⟨(hc.tk i (by omega) k hkt).1,(hc.tk i (by omega) k hkt).2.1⟩
             have hfl:1≤(dr.getD ((c.procs.getD i af).takes.getD k aO).chan.toNat []).length:=by
               rw[hdr,hch,jW]
               exact Bp hc hl2 (by omega) hcan hkt hc25
             refine tt ⟨ix,tt ⟨ix,tt ⟨?_,?_⟩⟩⟩
             · intro tm1
               refine dn.vc (V:=TT 13 (IX ((((c.procs.getD i af).takes).getD k aO).chan) dr.length∧(((((c.procs.getD i af).takes).getD k aO).chan).toNat<dr.length∧True)∧CC (IJ (dr.getD (((((c.procs.getD i af).takes).getD k aO).chan).toNat) []))∧IX ((((c.procs.getD i af).takes).getD k aO).chan) dr.length∧(((((c.procs.getD i af).takes).getD k aO).chan).toNat<dr.length∧(dr.map ac).set (((((c.procs.getD i af).takes).getD k aO).chan).toNat) ((ac (dr.getD (((((c.procs.getD i af).takes).getD k aO).chan).toNat) [])).take 0++[(.sl 1 (ae .i64) 0 ((dr.getD (((((c.procs.getD i af).takes).getD k aO).chan).toNat) []).drop 1))]++(ac (dr.getD (((((c.procs.getD i af).takes).getD k aO).chan).toNat) [])).drop (0+1))=(dr.set (((((c.procs.getD i af).takes).getD k aO).chan).toNat) ((dr.getD (((((c.procs.getD i af).takes).getD k aO).chan).toNat) []).drop 1)).map ac)∧True∧([(aV c),(aU s),bA,.dead,(aV c),(aU s),.dead,.dead,.dead,(jg ps i c s),.dead,.dead,(.arr 42 1 ac [] (dr.set (((((c.procs.getD i af).takes).getD k aO).chan).toNat) ((dr.getD (((((c.procs.getD i af).takes).getD k aO).chan).toNat) []).drop 1))),.dead,.dead,(cA c),(gC fd i),(gB sts i c s),(.frame tm0 (E8 c s i cl)),(.var 101 (mQ c s i)),.dead,.dead,.dead,.dead,.dead,.dead,.dead,.dead,.dead,.frame tm1 (l9 c s i k)]:List am)=(qU c s cl i fd sts ps tm0 k dr)++.frame tm1 (l9 c s i k)::[])) (.w 0 [(15,(IJ (dr.getD (((((c.procs.getD i af).takes).getD k aO).chan).toNat) [])).O),(17,.box 42 1 ac [] (dr.set (((((c.procs.getD i af).takes).getD k aO).chan).toNat) ((dr.getD (((((c.procs.getD i af).takes).getD k aO).chan).toNat) []).drop 1)))]<|.e) Tryz.func86 rfl rfl (by kernel_rfl) ?_
               exact tt ⟨ix,⟨⟨om,oK⟩,⟨(yy (dr.getD (((((c.procs.getD i af).takes).getD k aO).chan).toNat) []) om),⟨ix,⟨⟨om,by simp only[List.map_set];rfl⟩,⟨oK,rfl⟩⟩⟩⟩⟩⟩
             refine⟨w6,tt ⟨(k+1,dr.set (((((c.procs.getD i af).takes).getD k aO).chan).toNat) ((dr.getD (((((c.procs.getD i af).takes).getD k aO).chan).toNat) []).drop 1)),rfl,?_,(?_:(ab c s i).pops.length-(k+1)<(ab c s i).pops.length-k)⟩⟩
             · exact⟨by omega,by rw[zJ hc25,hdr];exact(se _ _ _).symm⟩
             · omega
           · refine⟨w6,tt ⟨(k+1,dr),rfl,?_,(?_:(ab c s i).pops.length-(k+1)<(ab c s i).pops.length-k)⟩⟩
             · exact⟨by omega,by rw[Df hc25,hdr]⟩
             · omega
         · refine⟨oK,congrArg (fun (z0:List (List Int))=>([(aV c),(aU s),bA,.dead,(aV c),(aU s),.dead,.dead,.dead,(jg ps i c s),.dead,.dead,(.arr 42 1 ac [] z0),.dead,.dead,(cA c),(gC fd i),(gB sts i c s),.frame tm0 (kR c s cl i)]:List am)) (?_:dr=(ba ch (ku (c.procs.getD i af) (ab c s i) (c.procs.getD i af).takes.length)))⟩
           rw[hdr,show k=(c.procs.getD i af).takes.length by omega]
       refine⟨w6,tt ⟨(i+1,fd.set i true,sts.set i (ab c s i),ps.set i ((ab c s i).s),ba ch (ku (c.procs.getD i af) (ab c s i) (c.procs.getD i af).takes.length)),rfl,(?_:(i+1)≤c.procs.length∧(fd.set i true)=cf (ax c s (br c cl)) (List.replicate c.procs.length false) (i+1)∧(sts.set i (ab c s i))=cf (GR c s (br c cl)) (List.replicate c.procs.length gg) (i+1)∧(ps.set i ((ab c s i).s))=cf (cF c s (br c cl)) s.procs (i+1)∧(ba ch (ku (c.procs.getD i af) (ab c s i) (c.procs.getD i af).takes.length))=ba s.chans (gf c s (br c cl) (i+1))),(?_:c.procs.length-(i+1)<c.procs.length-i)⟩⟩
       · have hno:=Ir hc34 hcan
         exact⟨by omega,by rw[hfd];exact bM (by simp;omega) hno,by rw[hst];exact bM (by simp;omega) (zI hc34).symm,by rw[hps];exact bM (by omega) (It hno).symm,by rw[hch];rw[Bm hno,jW]⟩
       · omega
     · refine⟨w6,tt ⟨(i+1,fd,sts.set i (ab c s i),ps,ch),rfl,(?_:(i+1)≤c.procs.length∧fd=cf (ax c s (br c cl)) (List.replicate c.procs.length false) (i+1)∧(sts.set i (ab c s i))=cf (GR c s (br c cl)) (List.replicate c.procs.length gg) (i+1)∧ps=cf (cF c s (br c cl)) s.procs (i+1)∧ch=ba s.chans (gf c s (br c cl) (i+1))),(?_:c.procs.length-(i+1)<c.procs.length-i)⟩⟩
       · have hno:=Iq (w:=(br c cl)) hc46
         exact⟨by omega,by rw[hfd];exact bH (d:=false) (by simp;omega) (by rw[hno,bS]),by rw[hst];exact bM (by simp;omega) (zI hc34).symm,by rw[hps];exact bH (d:=bI) (by omega) (E3 hno).symm,by rw[hch];rw[ve hno]⟩
       · omega
 · have hie:i=c.procs.length:=by omega
   refine tt ⟨rfl,⟨by omega,by rw[hch,hie];rfl⟩,?_⟩
   intro j ch2 hinv
   obtain⟨hj,hch2⟩:=hinv
   have hchl2:ch2.length=c.chans.length:=by rw[hch2,cM,cL];exact hl2
   refine tt (cd (fun hc61=>?_) (fun hc61=>?_))
   · refine tt ⟨ix,⟨⟨om,oK⟩,tt ⟨fun hc65=>?_,fun hc65=>?_⟩⟩⟩
     · have hc65':ax c s (br c cl) j=true:=by rw[← hc65,hfd,fK,if_pos (by omega)]
       have hsj:sts.getD j gg=ab c s j:=by rw[hst,fK,if_pos (by omega)];exact if_pos (OO hc65').1
       refine tt ⟨ix,⟨⟨⟨om,oK⟩,(by rw[hsj];exact⟨rfl,rfl,rfl,rfl,rfl,oK⟩)⟩,⟨?_,?_⟩⟩⟩
       · intro tm0
         refine dn.vc (V:=TT 5 (GO (jm c s fd sts ps j ch2 tm0) (0,ch2) (∀m em,(jm c s fd sts ps j ch2 tm0).inv (m,em)→TT 1 (CD ((m:Int)<((((ab c s j).puts).length:Nat):Int)) (TT 1 (IX (m:Int) (((ab c s j).puts).length)∧TT 6 (CB ((((ab c s j).puts).getD m aP).has) (TT 7 (IX (j:Int) c.procs.length∧TT 3 (IX (m:Int) (((c.procs.getD j af).puts).length)∧TT 4 (ap [[(i6 ((((ab c s j).puts).getD m aP).v))]] ([(((ab c s j)).puts.getD m aP).v].map (ae .i64))∧lH Tryz.prog 60 [aY,(qM c j m),(LI [(((ab c s j)).puts.getD m aP).v])] (Dl c s fd sts ps j tm0 m em) (mb c s j m) (qX c s fd sts ps j tm0 m em) [] (.tup [])∧W6 ((m+1:Nat):Int)∧TT 1 (AG (jm c s fd sts ps j ch2 tm0) (m,em) (m+1,em.set (((((c.procs.getD j af).puts).getD m aK).chan).toNat) ((em.getD (((((c.procs.getD j af).puts).getD m aK).chan).toNat) [])++[(((ab c s j)).puts.getD m aP).v]))))))) (W6 ((m+1:Nat):Int)∧TT 1 (AG (jm c s fd sts ps j ch2 tm0) (m,em) (m+1,em)))))) (True∧([(aV c),(aU s),bA,.dead,(aV c),(aU s),.dead,.dead,.dead,(dy ps),.dead,.dead,(.arr 42 1 ac [] em),.dead,.dead,(cA c),(d7 fd),(d8 sts),.frame tm0 (jl c s fd j)]:List am)=(qV c s fd sts ps j ch2)++.frame tm0 (jl c s fd j)::[]))))) (.l (jm c s fd sts ps j ch2 tm0) (0,ch2) (fun ⟨m,em⟩=>.b 12 (.b 17 (.q 5 [0,1,6,7,9,10,11] 21<|.w 5 [(16,.box 3 1 (ae .i64) 0 [(((ab c s j)).puts.getD m aP).v]),(17,.inl (.tup []) (mb c s j m) ((qX c s fd sts ps j tm0 m em)++.dead::[]))]<|.w 6 [(0,.val (i6 ((m+1:Nat):Int)))]<|.e) (.w 6 [(0,.val (i6 ((m+1:Nat):Int)))]<|.e)) (.e))) Tryz.func109 rfl rfl (by kernel_rfl) ?_
         have hpl:(ab c s j).puts.length=(c.procs.getD j af).puts.length:=gJ _ _ _ _
         have ht1:(c.procs.getD j af).puts.length≤100:=(hc.pr j (by omega)).pl
         refine tt ⟨rfl,⟨by omega,rfl⟩,?_⟩
         intro m em hinv
         obtain⟨hm,hem⟩:=hinv
         have hel:em.length=c.chans.length:=by rw[hem,cM,hchl2]
         refine tt (cd (fun hc12=>?_) (fun hc12=>?_))
         · refine tt ⟨ix,tt ⟨fun hc17=>?_,fun hc17=>?_⟩⟩
           · have hkt:m<(c.procs.getD j af).puts.length:=by omega
             have htk:0≤((c.procs.getD j af).puts.getD m aK).chan∧((c.procs.getD j af).puts.getD m aK).chan<c.chans.length:=⟨(hc.pt j (by omega) m hkt).1,(hc.pt j (by omega) m hkt).2.1⟩
             have hfl:(em.getD ((c.procs.getD j af).puts.getD m aK).chan.toNat []).length+1≤137438953472:=by
               rw[hem,hch2,jX]
               exact E6 hc hl2 hsm (show j<c.procs.length by omega) (show m≤(c.procs.getD j af).puts.length by omega) (show((c.procs.getD j af).puts.getD m aK).chan.toNat<c.chans.length by omega)
             refine tt ⟨ix,tt ⟨ix,tt ⟨⟨⟨rfl,oK⟩,oK⟩,⟨?_,?_⟩⟩⟩⟩
             · intro tm1
               refine dn.vc (V:=TT 4 (lH Tryz.prog 86 [aY,(qM c j m),(Dg c s j m)] (Dm c s fd sts ps j tm0 m em tm1) (mc c s j m) (qW c s fd sts ps j tm0 m em tm1) [] (.tup [])∧True∧([(aV c),(aU s),bA,.dead,(aV c),(aU s),.dead,.dead,.dead,(dy ps),.dead,.dead,(yx em c j m s),.dead,.dead,(cA c),(d7 fd),(d8 sts),(.frame tm0 (mP c s j fd)),(.var 101 (jf c s j)),(oa c s j m),.dead,.dead,.dead,.dead,.dead,.dead,.dead,.dead,.dead,.dead,.dead,.dead,.dead,.dead,.dead,.dead,.dead,.frame tm1 (mb c s j m)]:List am)=(qX c s fd sts ps j tm0 m em)++.frame tm1 (mb c s j m)::[])) (.q 1 [0,1,5] 40<|.f 1 39<|.w 1 [(3,.inl (.tup []) (mc c s j m) ((qW c s fd sts ps j tm0 m em tm1)++.dead::[]))]<|.e) Tryz.func60 rfl rfl (by kernel_rfl) ?_
               refine tt ⟨?_,?_⟩
               · intro tm2
                 refine dn.vc (V:=TT 13 (IX ((((c.procs.getD j af).puts).getD m aK).chan) em.length∧(((((c.procs.getD j af).puts).getD m aK).chan).toNat<em.length∧True)∧CC (Nd (em.getD (((((c.procs.getD j af).puts).getD m aK).chan).toNat) []) [(((ab c s j)).puts.getD m aP).v])∧IX ((((c.procs.getD j af).puts).getD m aK).chan) em.length∧(((((c.procs.getD j af).puts).getD m aK).chan).toNat<em.length∧(em.map ac).set (((((c.procs.getD j af).puts).getD m aK).chan).toNat) ((ac (em.getD (((((c.procs.getD j af).puts).getD m aK).chan).toNat) [])).take 0++[(.sl 1 (ae .i64) 0 ((em.getD (((((c.procs.getD j af).puts).getD m aK).chan).toNat) [])++[(((ab c s j)).puts.getD m aP).v]))]++(ac (em.getD (((((c.procs.getD j af).puts).getD m aK).chan).toNat) [])).drop (0+1))=(em.set (((((c.procs.getD j af).puts).getD m aK).chan).toNat) ((em.getD (((((c.procs.getD j af).puts).getD m aK).chan).toNat) [])++[(((ab c s j)).puts.getD m aP).v])).map ac)∧True∧([(aV c),(aU s),bA,.dead,(aV c),(aU s),.dead,.dead,.dead,(dy ps),.dead,.dead,(yx em c j m s),.dead,.dead,(cA c),(d7 fd),(d8 sts),(.frame tm0 (mP c s j fd)),(.var 101 (jf c s j)),(oa c s j m),.dead,.dead,.dead,.dead,.dead,.dead,.dead,.dead,.dead,.dead,.dead,.dead,.dead,.dead,.dead,.dead,.dead,(.frame tm1 (yw j m c s)),.dead,.frame tm2 (mc c s j m)]:List am)=(qW c s fd sts ps j tm0 m em tm1)++.frame tm2 (mc c s j m)::[])) (.w 0 [(15,(Nd (em.getD (((((c.procs.getD j af).puts).getD m aK).chan).toNat) []) [(((ab c s j)).puts.getD m aP).v]).O),(17,.box 42 1 ac [] (em.set (((((c.procs.getD j af).puts).getD m aK).chan).toNat) ((em.getD (((((c.procs.getD j af).puts).getD m aK).chan).toNat) [])++[(((ab c s j)).puts.getD m aP).v])))]<|.e) Tryz.func86 rfl rfl (by kernel_rfl) ?_
                 exact tt ⟨ix,⟨⟨om,oK⟩,⟨(qP (em.getD (((((c.procs.getD j af).puts).getD m aK).chan).toNat) []) [(((ab c s j)).puts.getD m aP).v] om),⟨ix,⟨⟨om,by simp only[List.map_set];rfl⟩,⟨oK,rfl⟩⟩⟩⟩⟩⟩
               exact⟨oK,rfl⟩
             refine⟨w6,tt ⟨(m+1,em.set (((((c.procs.getD j af).puts).getD m aK).chan).toNat) ((em.getD (((((c.procs.getD j af).puts).getD m aK).chan).toNat) [])++[(((ab c s j)).puts.getD m aP).v])),rfl,?_,(?_:(ab c s j).puts.length-(m+1)<(ab c s j).puts.length-m)⟩⟩
             · exact⟨by omega,by rw[vf hc17,hem];exact(iz _ _ _ _).symm⟩
             · omega
           · refine⟨w6,tt ⟨(m+1,em),rfl,?_,(?_:(ab c s j).puts.length-(m+1)<(ab c s j).puts.length-m)⟩⟩
             · exact⟨by omega,by rw[zK hc17,hem]⟩
             · omega
         · refine⟨oK,congrArg (fun (z0:List (List Int))=>([(aV c),(aU s),bA,.dead,(aV c),(aU s),.dead,.dead,.dead,(dy ps),.dead,.dead,(.arr 42 1 ac [] z0),.dead,.dead,(cA c),(d7 fd),(d8 sts),.frame tm0 (jl c s fd j)]:List am)) (?_:em=(bq ch2 (mO (c.procs.getD j af) (ab c s j) (c.procs.getD j af).puts.length)))⟩
           rw[hem,show m=(c.procs.getD j af).puts.length by omega]
       refine⟨w6,tt ⟨(j+1,bq ch2 (mO (c.procs.getD j af) (ab c s j) (c.procs.getD j af).puts.length)),rfl,?_,(?_:c.procs.length-(j+1)<c.procs.length-j)⟩⟩
       · exact⟨by omega,by rw[hch2];rw[Bn hc65',jX]⟩
       · omega
     · have hc65':ax c s (br c cl) j=false:=by rw[← hc65,hfd,fK,if_pos (by omega)]
       refine⟨w6,tt ⟨(j+1,ch2),rfl,?_,(?_:c.procs.length-(j+1)<c.procs.length-j)⟩⟩
       · exact⟨by omega,by rw[hch2];rw[E4 hc65']⟩
       · omega
   · have hje:j=c.procs.length:=by omega
     refine tt ⟨⟨(congrArg _ (?_:ps=((bf c s (br c cl)).procs))),(congrArg _ (?_:ch2=((bf c s (br c cl)).chans))),oK⟩,(congrArg _ (?_:fd=(tab (ax c s (br c cl)) c.procs.length))),oK⟩
     · rw[hps,hie,cY (by omega)];rfl
     · rw[hch2,hje];exact yl hc hl2
     · rw[hfd,hie,cY (by simp)]
end Go.Proofs.YtckgpflobhpnpaaGreat
