/-
  Package network: firing.
-/
import Derived.Test.YtckgpflobhpnpaaGreatQNeG
import Derived.Test.YtckgpflobhpnpaaGreatQNeH
namespace Go.Proofs.YtckgpflobhpnpaaGreat
open Go.RowKit
set_option linter.unusedVariables false
set_option linter.unusedSimpArgs false
abbrev pm (c:Ci) (s:Ns) (j:Nat):List D:=[(dB ((af c s j).fires)),(LI (((af c s j).s).regs)),(dL 1 ae [] (((af c s j).s).mems)),(LB ((af c s j).pops)),(dL 2 bZ aP ((af c s j).puts))]
abbrev bO:D:=(.ptr 15 0 0 0)
abbrev sY (c:Ci) (s:Ns) (j:Nat) (fd:List Bool):List (Nat×D):=[(71,(.agg (pm c s j))),(70,(.ptr 17 j 5 0)),(69,(i6 (j:Int))),(68,(.own 17)),(67,(i6 (j:Int))),(66,bO),(6,(.ptr 2 0 0 0)),(8,bO),(9,(.own 16)),(10,(.own 17)),(12,(i6 (j:Int))),(58,(.own 16)),(59,(i6 (fd.length:Int))),(60,(i6 (j:Int)))]
abbrev ve (c:Ci) (j m:Nat):D:=(i6 ((((c.procs.getD j aa).puts).getD m aL).chan))
abbrev Db (j m:Nat) (c:Ci) (s:Ns):List (Nat×D):=[(0,bO),(1,(i6 (j:Int))),(6,(i6 (m:Int))),(7,(.ptr 20 0 0 0)),(9,(dL 2 bZ aP ((af c s j).puts))),(10,(i6 ((((af c s j).puts).length:Nat):Int))),(11,(i6 (m:Int))),(18,bO),(19,bO),(20,bO),(21,bO),(22,bO),(23,(dL 6 je aa c.procs)),(24,(i6 (j:Int))),(25,(.iptr (je (c.procs.getD j aa)) 0)),(26,(.iptr (je (c.procs.getD j aa)) 5)),(27,(dL 16 lM aL ((c.procs.getD j aa).puts))),(28,(i6 (m:Int))),(29,(.iptr (lM (((c.procs.getD j aa).puts).getD m aL)) 0)),(30,(.iptr (lM (((c.procs.getD j aa).puts).getD m aL)) 0)),(31,(ve c j m)),(32,(.ptr 20 0 0 1)),(33,(i6 ((((af c s j).puts).getD m aP).v))),(34,(LI [(((af c s j)).puts.getD m aP).v]))]
abbrev ya (s:Ns):List D:=[(dL 2 bw bB s.procs),(dL 1 ae [] s.chans)]
abbrev bJ (s:Ns):aq:=(.var 70 (ya s))
abbrev yb (c:Ci):List D:=[(dL 6 je aa c.procs),(dL 5 gO ck c.chans)]
abbrev bK (c:Ci):aq:=(.var 33 (yb c))
abbrev wV (c:Ci) (s:Ns) (i:Nat):List D:=[(dB ((af c s i).fires)),(LI (((af c s i).s).regs)),(dL 1 ae [] (((af c s i).s).mems)),(LB ((af c s i).pops)),(dL 2 bZ aP ((af c s i).puts))]
abbrev eH (c:Ci):aq:=(.var 141 [(dL 6 je aa c.procs),(dL 5 gO ck c.chans),(.own 9),(.own 12)])
abbrev yc (c:Ci) (cl:ByteArray):D:=(.fn (.func 102) [] [(.iptr [(.sl 6 je aa c.procs),(.sl 5 gO ck c.chans)] 0),(.iptr [(.str cl)] 0)])
abbrev Dc (c:Ci) (s:Ns) (i:Nat) (cl:ByteArray):List (Nat×D):=[(55,(.agg (wV c s i))),(54,(.ptr 17 i 5 0)),(53,(i6 (i:Int))),(52,(.own 17)),(51,(i6 (i:Int))),(50,bO),(2,(yc c cl)),(3,(.ptr 0 0 0 0)),(4,(.ptr 1 0 0 0)),(6,(.ptr 2 0 0 0)),(8,bO),(9,(.own 16)),(10,(.own 17)),(11,(i6 (i:Int))),(27,(i6 (c.procs.length:Int))),(28,(i6 (i:Int)))]
abbrev Dd (em:List (List Int)) (c:Ci) (j m:Nat) (s:Ns):aq:=(.arr 42 1 ae [] (em.set (((((c.procs.getD j aa).puts).getD m aL).chan).toNat) ((em.getD (((((c.procs.getD j aa).puts).getD m aL).chan).toNat) [])++[(((af c s j)).puts.getD m aP).v])))
abbrev sn (c:Ci) (s:Ns) (j m:Nat):aq:=(.var 115 [(dB ((((af c s j).puts).getD m aP).has)),(i6 ((((af c s j).puts).getD m aP).v))])
abbrev cE:aq:=(.var 70 [.nils,.nils])
abbrev gj (ps:List Ps):aq:=(.arr 56 2 bw bB ps)
abbrev gR (fd:List Bool):aq:=(.arr 4 1 be false fd)
abbrev gT (sts:List Fi):aq:=(.arr 101 5 Ik qf sts)
abbrev Gu (c:Ci) (s:Ns) (ps:List Ps) (ch2:List (List Int)) (fd:List Bool) (sts:List Fi):List aq:=[(bK c),(bJ s),cE,.dead,(bK c),(bJ s),.dead,.dead,.dead,(gj ps),.dead,.dead,(.arr 42 1 ae [] ch2),.dead,.dead,(eH c),(gR fd),(gT sts)]
abbrev pY (sts:List Fi) (i:Nat) (c:Ci) (s:Ns):aq:=(.arr 101 5 Ik qf (sts.set i (af c s i)))
abbrev so (ps:List Ps) (i:Nat) (c:Ci) (s:Ns):aq:=(.arr 56 2 bw bB (ps.set i ((af c s i).s)))
abbrev pZ (fd:List Bool) (i:Nat):aq:=(.arr 4 1 be false (fd.set i true))
abbrev Gv (c:Ci) (s:Ns) (j m:Nat):D:=(.fn (.func 87) [] [(.iptr [(.sl 1 (ab .i64) 0 [(((af c s j)).puts.getD m aP).v])] 0)])
abbrev KH (c:Ci) (s:Ns) (ps:List Ps) (em:List (List Int)) (fd:List Bool) (sts:List Fi) (tm0:Array Value) (j m:Nat) (tm1:Array Value):List aq:=[(bK c),(bJ s),cE,.dead,(bK c),(bJ s),.dead,.dead,.dead,(gj ps),.dead,.dead,(.arr 42 1 ae [] em),.dead,.dead,(eH c),(gR fd),(gT sts),(.frame tm0 (sY c s j fd)),(.var 101 (pm c s j)),(sn c s j m),.dead,.dead,.dead,.dead,.dead,.dead,.dead,.dead,.dead,.dead,.dead,.dead,.dead,.dead,.dead,.dead,.dead,(.frame tm1 (Db j m c s)),.dead]
abbrev KI (c:Ci) (s:Ns) (ps:List Ps) (em:List (List Int)) (j m:Nat) (fd:List Bool) (sts:List Fi) (tm0 tm1:Array Value):List aq:=[(bK c),(bJ s),cE,.dead,(bK c),(bJ s),.dead,.dead,.dead,(gj ps),.dead,.dead,(Dd em c j m s),.dead,.dead,(eH c),(gR fd),(gT sts),(.frame tm0 (sY c s j fd)),(.var 101 (pm c s j)),(sn c s j m),.dead,.dead,.dead,.dead,.dead,.dead,.dead,.dead,.dead,.dead,.dead,.dead,.dead,.dead,.dead,.dead,.dead,(.frame tm1 (Db j m c s)),.dead]
abbrev KJ (c:Ci) (s:Ns) (ps:List Ps) (em:List (List Int)) (fd:List Bool) (sts:List Fi) (tm0:Array Value) (j m:Nat):List aq:=[(bK c),(bJ s),cE,.dead,(bK c),(bJ s),.dead,.dead,.dead,(gj ps),.dead,.dead,(.arr 42 1 ae [] em),.dead,.dead,(eH c),(gR fd),(gT sts),(.frame tm0 (sY c s j fd)),(.var 101 (pm c s j)),(sn c s j m),.dead,.dead,.dead,.dead,.dead,.dead,.dead,.dead,.dead,.dead,.dead,.dead,.dead,.dead,.dead,.dead,.dead]
abbrev KK (c:Ci) (s:Ns) (ps:List Ps) (em:List (List Int)) (j m:Nat) (fd:List Bool) (sts:List Fi) (tm0:Array Value):List aq:=[(bK c),(bJ s),cE,.dead,(bK c),(bJ s),.dead,.dead,.dead,(gj ps),.dead,.dead,(Dd em c j m s),.dead,.dead,(eH c),(gR fd),(gT sts),(.frame tm0 (sY c s j fd)),(.var 101 (pm c s j)),(sn c s j m),.dead,.dead,.dead,.dead,.dead,.dead,.dead,.dead,.dead,.dead,.dead,.dead,.dead,.dead,.dead,.dead,.dead]
abbrev KL (c:Ci) (s:Ns) (ps:List Ps) (i:Nat) (ch:List (List Int)) (fd:List Bool) (sts:List Fi):List aq:=[(bK c),(bJ s),cE,.dead,(bK c),(bJ s),.dead,.dead,.dead,(so ps i c s),.dead,.dead,(.arr 42 1 ae [] (br ch (kU (c.procs.getD i aa) (af c s i) (c.procs.getD i aa).takes.length))),.dead,.dead,(eH c),(pZ fd i),(pY sts i c s)]
abbrev KM (c:Ci) (s:Ns) (ps:List Ps) (ch2:List (List Int)) (j:Nat) (fd:List Bool) (sts:List Fi):List aq:=[(bK c),(bJ s),cE,.dead,(bK c),(bJ s),.dead,.dead,.dead,(gj ps),.dead,.dead,(.arr 42 1 ae [] (bz ch2 (mI (c.procs.getD j aa) (af c s j) (c.procs.getD j aa).puts.length))),.dead,.dead,(eH c),(gR fd),(gT sts)]
abbrev Gw (c:Ci) (s:Ns) (ps:List Ps) (i:Nat) (dr:List (List Int)) (fd:List Bool) (sts:List Fi) (tm0:Array Value) (cl:ByteArray):List aq:=[(bK c),(bJ s),cE,.dead,(bK c),(bJ s),.dead,.dead,.dead,(so ps i c s),.dead,.dead,(.arr 42 1 ae [] dr),.dead,.dead,(eH c),(pZ fd i),(pY sts i c s),(.frame tm0 (Dc c s i cl)),(.var 101 (wV c s i)),.dead,.dead,.dead,.dead,.dead,.dead,.dead,.dead,.dead]
abbrev KN (c:Ci) (s:Ns) (j m:Nat):List (Nat×D):=[(8,(Gv c s j m)),(7,(ve c j m)),(6,bO),(0,bO),(1,(ve c j m)),(5,(.iptr [(.sl 1 (ab .i64) 0 [(((af c s j)).puts.getD m aP).v])] 0))]
set_option maxRecDepth 100000
abbrev KO (l:List Int):Ct:=⟨119,[(LI l)],true,(LI (l.drop 1))⟩
theorem Et (l:List Int) (h:1≤l.length):CC (KO l):=by
 refine ai.vc (V:=TT 2 ((0≤(1:Int)∧(1:Int)≤(l.length:Int)∧(l.length:Int)≤(l.length:Int))∧TT 2 ((l.drop 1).map (ab .i64)=(l.drop 1).map (ab .i64)))) (.e) Tryz.func119 rfl rfl rfl (by kernel_rfl) ?_
 exact tt ⟨om,tt rfl⟩
abbrev NW (l ws:List Int):Ct:=⟨87,[(LI l),(.iptr [(.sl 1 (ab .i64) 0 ws)] 0)],true,(LI (l++ws))⟩
theorem Br (l ws:List Int) (h:l.length+ws.length≤137438953472):CC (NW l ws):=by
 refine ai.vc (V:=TT 3 (an [[(LI l)],[(LI ws)]] ([l,ws].map ae)∧CK (NR [l,ws])∧TT 2 (([l,ws].flatten).map (ab .i64)=(l++ws).map (ab .i64)))) (.w 1 [(2,.box 42 1 ae [] [l,ws]),(3,(NR [l,ws]).O')]<|.e) Tryz.func87 rfl rfl rfl (by kernel_rfl) ?_
 refine tt ⟨⟨⟨rfl,oK⟩,⟨rfl,oK⟩,oK⟩,⟨⟨dU _ rfl,(Ep [l,ws] (by simp) (by simpa using h))⟩,tt (congrArg _ (?_:([l,ws].flatten)=(l++ws)))⟩⟩
 simp
abbrev KP (c:Ci) (q:Nat) (cl:ByteArray):Ct:=⟨102,[(i6 (q:Int)),(.iptr [(.sl 6 je aa c.procs),(.sl 5 gO ck c.chans)] 0),(.iptr [(.str cl)] 0)],false,(dB (bh c cl q))⟩
theorem Gx (c:Ci) (q:Nat) (cl:ByteArray) (hq:q<c.procs.length):CC (KP c q cl):=by
 refine ai.vc (V:=TT 4 (IX (q:Int) c.procs.length∧TT 6 ((((c.procs.getD q aa).clock).toList==cl.toList)=(bh c cl q)∧True))) (.e) Tryz.func102 rfl rfl rfl (by kernel_rfl) ?_
 refine tt ⟨ix,tt ⟨?_,oK⟩⟩
 rfl
abbrev KQ (c:Ci) (s:Ns) (cl:ByteArray):Ct:=⟨90,[(.agg (yb c)),(.agg (ya s)),(yc c cl)],true,(.tup [(.agg [(dL 2 bw bB ((bD c s (bh c cl)).procs)),(dL 1 ae [] ((bD c s (bh c cl)).chans))]),(LB (tab (aA c s (bh c cl)) c.procs.length))])⟩
abbrev Eu (c:Ci) (s:Ns):List aq:=[(bK c),(bJ s),cE]
abbrev nZ (c:Ci) (s:Ns) (cl:ByteArray):List (Nat×D):=[(15,(.agg (ya s))),(14,(.agg (yb c))),(2,(yc c cl)),(3,(.ptr 0 0 0 0)),(4,(.ptr 1 0 0 0)),(6,(.ptr 2 0 0 0))]
abbrev sq (c:Ci) (s:Ns):List aq:=[(bK c),(bJ s),cE]
abbrev sr (c:Ci) (s:Ns):List aq:=[(bK c),(bJ s),.dead,.dead,.dead,(.arr 56 2 bw bB s.procs),.dead,.dead,(.arr 42 1 ae [] s.chans),.dead,.dead,(eH c)]
abbrev iz (c:Ci) (s:Ns) (cl:ByteArray):Lp (Nat×List Bool×List Fi×List Ps×List (List Int)):=OC [2,3,4,6,8,9,10,27,28] 18 (fun (i:Nat) (fd:List Bool) (sts:List Fi) (ps:List Ps) (ch:List (List Int))=>⟨[(2,(yc c cl)),(3,(.ptr 0 0 0 0)),(4,(.ptr 1 0 0 0)),(6,(.ptr 2 0 0 0)),(8,bO),(9,(.own 16)),(10,(.own 17)),(27,(i6 (c.procs.length:Int))),(28,(i6 (i:Int)))],[(bK c),(bJ s),cE,.dead,(bK c),(bJ s),.dead,.dead,.dead,(gj ps),.dead,.dead,(.arr 42 1 ae [] ch),.dead,.dead,(eH c),(gR fd),(gT sts)]⟩) (fun (i:Nat) (fd:List Bool) (sts:List Fi) (ps:List Ps) (ch:List (List Int))=>i≤c.procs.length∧fd=cD (aA c s (bh c cl)) (List.replicate c.procs.length false) i∧sts=cD (Jv c s (bh c cl)) (List.replicate c.procs.length qf) i∧ps=cD (cO c s (bh c cl)) s.procs i∧ch=br s.chans (iT c s (bh c cl) i)) (fun (i:Nat) (fd:List Bool) (sts:List Fi) (ps:List Ps) (ch:List (List Int))=>c.procs.length-i)
abbrev Ew (c:Ci) (s:Ns) (i:Nat) (fd:List Bool) (sts:List Fi) (ps:List Ps) (ch:List (List Int)):List aq:=[(bK c),(bJ s),cE,.dead,(bK c),(bJ s),.dead,.dead,.dead,(gj ps),.dead,.dead,(.arr 42 1 ae [] ch),.dead,.dead,(eH c),(pZ fd i),(pY sts i c s)]
abbrev ka (c:Ci) (s:Ns) (cl:ByteArray) (i:Nat):List (Nat×D):=(Dc c s i cl)
abbrev ss (c:Ci) (s:Ns) (i:Nat) (fd:List Bool) (sts:List Fi) (ps:List Ps) (ch:List (List Int)):List aq:=(KL c s ps i ch fd sts)
abbrev kb (c:Ci) (s:Ns) (cl:ByteArray) (i:Nat) (fd:List Bool) (sts:List Fi) (ps:List Ps) (ch:List (List Int)) (tm0:Array Value):Lp (Nat×List (List Int)):=vI [0,1,18,19,20] 29 (fun (k:Nat) (dr:List (List Int))=>⟨[(0,bO),(1,(i6 (i:Int))),(18,(LB ((af c s i).pops))),(19,(i6 ((((af c s i).pops).length:Nat):Int))),(20,(i6 (k:Int)))],(Gw c s ps i dr fd sts tm0 cl)⟩) (fun (k:Nat) (dr:List (List Int))=>k≤(af c s i).pops.length∧dr=br ch (kU (c.procs.getD i aa) (af c s i) k)) (fun (k:Nat) (dr:List (List Int))=>(af c s i).pops.length-k)
abbrev Ey (c:Ci) (s:Ns) (cl:ByteArray) (i:Nat) (fd:List Bool) (sts:List Fi) (ps:List Ps) (tm0:Array Value) (dr:List (List Int)):List aq:=(Gw c s ps i dr fd sts tm0 cl)
abbrev kV (c:Ci) (s:Ns) (i:Nat) (k:Nat):List (Nat×D):=[(39,(i6 ((((c.procs.getD i aa).takes).getD k aK).chan))),(38,(.iptr (jY (((c.procs.getD i aa).takes).getD k aK)) 0)),(37,(.iptr (jY (((c.procs.getD i aa).takes).getD k aK)) 0)),(36,(i6 (k:Int))),(35,(dL 9 jY aK ((c.procs.getD i aa).takes))),(34,(.iptr (je (c.procs.getD i aa)) 4)),(33,(.iptr (je (c.procs.getD i aa)) 0)),(32,(i6 (i:Int))),(31,(dL 6 je aa c.procs)),(30,bO),(29,bO),(28,bO),(27,bO),(26,bO),(0,bO),(1,(i6 (i:Int))),(6,(i6 (k:Int))),(18,(LB ((af c s i).pops))),(19,(i6 ((((af c s i).pops).length:Nat):Int))),(20,(i6 (k:Int)))]
abbrev p5 (c:Ci) (s:Ns) (cl:ByteArray) (i:Nat) (fd:List Bool) (sts:List Fi) (ps:List Ps) (tm0:Array Value) (k:Nat) (dr:List (List Int)):List aq:=[(bK c),(bJ s),cE,.dead,(bK c),(bJ s),.dead,.dead,.dead,(so ps i c s),.dead,.dead,(.arr 42 1 ae [] (dr.set (((((c.procs.getD i aa).takes).getD k aK).chan).toNat) ((dr.getD (((((c.procs.getD i aa).takes).getD k aK).chan).toNat) []).drop 1))),.dead,.dead,(eH c),(pZ fd i),(pY sts i c s),(.frame tm0 (Dc c s i cl)),(.var 101 (wV c s i)),.dead,.dead,.dead,.dead,.dead,.dead,.dead,.dead,.dead]
abbrev iV (c:Ci) (s:Ns) (cl:ByteArray) (fd:List Bool) (sts:List Fi) (ps:List Ps):Lp (Nat×List (List Int)):=vI [6,8,9,10,58,59,60] 18 (fun (j:Nat) (ch2:List (List Int))=>⟨[(6,(.ptr 2 0 0 0)),(8,bO),(9,(.own 16)),(10,(.own 17)),(58,(.own 16)),(59,(i6 (fd.length:Int))),(60,(i6 (j:Int)))],(Gu c s ps ch2 fd sts)⟩) (fun (j:Nat) (ch2:List (List Int))=>j≤c.procs.length∧ch2=bz (br s.chans (iT c s (bh c cl) c.procs.length)) (oW c s (bh c cl) j)) (fun (j:Nat) (ch2:List (List Int))=>c.procs.length-j)
abbrev Bs (c:Ci) (s:Ns) (fd:List Bool) (sts:List Fi) (ps:List Ps) (ch2:List (List Int)):List aq:=(Gu c s ps ch2 fd sts)
abbrev iW (c:Ci) (s:Ns) (fd:List Bool) (j:Nat):List (Nat×D):=(sY c s j fd)
abbrev p6 (c:Ci) (s:Ns) (fd:List Bool) (sts:List Fi) (ps:List Ps) (j:Nat) (ch2:List (List Int)):List aq:=(KM c s ps ch2 j fd sts)
abbrev iX (c:Ci) (s:Ns) (fd:List Bool) (sts:List Fi) (ps:List Ps) (j:Nat) (ch2:List (List Int)) (tm0:Array Value):Lp (Nat×List (List Int)):=vI [0,1,9,10,11] 20 (fun (m:Nat) (em:List (List Int))=>⟨[(0,bO),(1,(i6 (j:Int))),(9,(dL 2 bZ aP ((af c s j).puts))),(10,(i6 ((((af c s j).puts).length:Nat):Int))),(11,(i6 (m:Int)))],[(bK c),(bJ s),cE,.dead,(bK c),(bJ s),.dead,.dead,.dead,(gj ps),.dead,.dead,(.arr 42 1 ae [] em),.dead,.dead,(eH c),(gR fd),(gT sts),(.frame tm0 (sY c s j fd)),(.var 101 (pm c s j))]⟩) (fun (m:Nat) (em:List (List Int))=>m≤(af c s j).puts.length∧em=bz ch2 (mI (c.procs.getD j aa) (af c s j) m)) (fun (m:Nat) (em:List (List Int))=>(af c s j).puts.length-m)
abbrev Bt (c:Ci) (s:Ns) (fd:List Bool) (sts:List Fi) (ps:List Ps) (j:Nat) (tm0:Array Value) (m:Nat) (em:List (List Int)):List aq:=(KJ c s ps em fd sts tm0 j m)
abbrev kW (c:Ci) (s:Ns) (j:Nat) (m:Nat):List (Nat×D):=(Db j m c s)
abbrev Bu (c:Ci) (s:Ns) (fd:List Bool) (sts:List Fi) (ps:List Ps) (j:Nat) (tm0:Array Value) (m:Nat) (em:List (List Int)) (tm1:Array Value):List aq:=(KH c s ps em fd sts tm0 j m tm1)
abbrev kX (c:Ci) (s:Ns) (j:Nat) (m:Nat):List (Nat×D):=(KN c s j m)
abbrev p7 (c:Ci) (s:Ns) (fd:List Bool) (sts:List Fi) (ps:List Ps) (j:Nat) (tm0:Array Value) (m:Nat) (em:List (List Int)) (tm1:Array Value):List aq:=(KI c s ps em j m fd sts tm0 tm1)
abbrev p8 (c:Ci) (s:Ns) (fd:List Bool) (sts:List Fi) (ps:List Ps) (j:Nat) (tm0:Array Value) (m:Nat) (em:List (List Int)):List aq:=(KK c s ps em j m fd sts tm0)
theorem Ez (c:Ci) (s:Ns) (cl:ByteArray) (hc:a6 c) (hs:j6 c s) (hsm:M3 s 4294967296):CC (KQ c s cl):=by
 have hnl:=hc.nl
 have hcl:=hc.cl
 have hl1:=hs.pl
 have hl2:=hs.cl
 refine ai.vc (V:=TT 6 (vJ Tryz.prog 59 [(.agg (yb c)),(.agg (ya s))] (Eu c s) (nZ c s cl) (sq c s) (sr c s) bO∧TT 4 ((((0:Int)≤(c.procs.length:Int)∧(c.procs.length:Int)≤(c.procs.length:Int)∧(c.procs.length:Int)≤137438953472)∧(List.replicate c.procs.length false).length=c.procs.length∧∀x∈(List.replicate c.procs.length false),cS [(dB false)] (be x))∧TT 4 ((((0:Int)≤(c.procs.length:Int)∧(c.procs.length:Int)≤(c.procs.length:Int)∧(c.procs.length:Int)≤137438953472)∧(List.replicate c.procs.length qf).length=c.procs.length∧∀x∈(List.replicate c.procs.length qf),cS [(dB false),.nils,.nils,.nils,.nils] (Ik x))∧TT 5 (GO (iz c s cl) (0,List.replicate c.procs.length false,List.replicate c.procs.length qf,s.procs,s.chans) (∀i fd sts ps ch,(iz c s cl).inv (i,fd,sts,ps,ch)→TT 1 (CD ((i:Int)<(c.procs.length:Int)) (TT 4 (CC (KP c i cl)∧TT 1 (CB (!(bh c cl i)) (W6 ((i+1:Nat):Int)∧TT 1 (AG (iz c s cl) (i,fd,sts,ps,ch) (i+1,fd,sts,ps,ch))) (TT 5 (CC (NT c s i)∧IX (i:Int) sts.length∧(i<sts.length∧(sts.map Ik).set i ((Ik (sts.getD i qf)).take 0++[(.bool ((af c s i).fires)),(.sl 1 (ab .i64) 0 (((af c s i).s).regs)),(.sl 1 ae [] (((af c s i).s).mems)),(.sl 1 be false ((af c s i).pops)),(.sl 2 bZ aP ((af c s i).puts))]++(Ik (sts.getD i qf)).drop (0+5))=(sts.set i (af c s i)).map Ik)∧TT 2 (IX (i:Int) ((sts.set i (af c s i)).length)∧TT 1 (((i<(sts.set i (af c s i)).length∧True)∧(((sts.set i (af c s i)).getD i qf).fires)=(gg c s i))∧CB (gg c s i) (TT 2 (IX (i:Int) fd.length∧(i<fd.length∧(fd.map be).set i ((be (fd.getD i false)).take 0++[(.bool true)]++(be (fd.getD i false)).drop (0+1))=(fd.set i true).map be)∧TT 4 (IX (i:Int) ((sts.set i (af c s i)).length)∧((i<(sts.set i (af c s i)).length∧True)∧((((sts.set i (af c s i)).getD i qf).fires)=((af c s i).fires)∧((((sts.set i (af c s i)).getD i qf).s).regs).map (ab .i64)=(((af c s i).s).regs).map (ab .i64)∧((((sts.set i (af c s i)).getD i qf).s).mems).map ae=(((af c s i).s).mems).map ae∧(((sts.set i (af c s i)).getD i qf).pops).map be=((af c s i).pops).map be∧(((sts.set i (af c s i)).getD i qf).puts).map bZ=((af c s i).puts).map bZ∧True))∧vJ Tryz.prog 108 [bO,(i6 (i:Int)),(.agg (wV c s i))] (Ew c s i fd sts ps ch) (ka c s cl i) (ss c s i fd sts ps ch) [] (.tup [])∧W6 ((i+1:Nat):Int)∧TT 1 (AG (iz c s cl) (i,fd,sts,ps,ch) (i+1,fd.set i true,sts.set i (af c s i),ps.set i ((af c s i).s),br ch (kU (c.procs.getD i aa) (af c s i) (c.procs.getD i aa).takes.length)))))) (W6 ((i+1:Nat):Int)∧TT 1 (AG (iz c s cl) (i,fd,sts,ps,ch) (i+1,fd,sts.set i (af c s i),ps,ch)))))))))) (TT 3 (GO (iV c s cl fd sts ps) (0,ch) (∀j ch2,(iV c s cl fd sts ps).inv (j,ch2)→TT 1 (CD ((j:Int)<(fd.length:Int)) (TT 1 (IX (j:Int) fd.length∧(j<fd.length∧True)∧TT 3 (CB ((fd.getD j false)) (TT 4 (IX (j:Int) sts.length∧((j<sts.length∧True)∧(((sts.getD j qf).fires)=((af c s j).fires)∧(((sts.getD j qf).s).regs).map (ab .i64)=(((af c s j).s).regs).map (ab .i64)∧(((sts.getD j qf).s).mems).map ae=(((af c s j).s).mems).map ae∧((sts.getD j qf).pops).map be=((af c s j).pops).map be∧((sts.getD j qf).puts).map bZ=((af c s j).puts).map bZ∧True))∧vJ Tryz.prog 109 [bO,(i6 (j:Int)),(.agg (pm c s j))] (Bs c s fd sts ps ch2) (iW c s fd j) (p6 c s fd sts ps j ch2) [] (.tup [])∧W6 ((j+1:Nat):Int)∧TT 1 (AG (iV c s cl fd sts ps) (j,ch2) (j+1,bz ch2 (mI (c.procs.getD j aa) (af c s j) (c.procs.getD j aa).puts.length))))) (W6 ((j+1:Nat):Int)∧TT 1 (AG (iV c s cl fd sts ps) (j,ch2) (j+1,ch2)))))) (TT 9 ((ps.map bw=((bD c s (bh c cl)).procs).map bw∧ch2.map ae=((bD c s (bh c cl)).chans).map ae∧True)∧fd.map be=(tab (aA c s (bh c cl)) c.procs.length).map be∧True))))))))))))) (.q 1 [2,3,4,6] 3<|.w 1 [(2,.inl bO (nZ c s cl) ((sq c s)++.dead::(sr c s)))]<|.w 2 [(3,.box 4 1 be false (List.replicate c.procs.length false))]<|.w 3 [(3,.box 101 5 Ik qf (List.replicate c.procs.length qf))]<|.l (iz c s cl) (0,List.replicate c.procs.length false,List.replicate c.procs.length qf,s.procs,s.chans) (fun ⟨i,fd,sts,ps,ch⟩=>.b 29 (.q 7 [2,3,4,6,8,9,10,11,27,28] 18<|.w 7 [(2,(KP c i cl).O)]<|.b 34 (.w 12 [(0,.val (i6 ((i+1:Nat):Int)))]<|.e) (.w 8 [(5,(NT c s i).O),(7,.box 101 5 Ik qf (sts.set i (af c s i)))]<|.w 9 [(4,.val (dB (gg c s i)))]<|.b 46 (.w 10 [(3,.box 4 1 be false (fd.set i true))]<|.q 11 [2,3,4,6,8,9,10,11,27,28] 18<|.w 11 [(5,.val (.agg (wV c s i))),(6,.inl (.tup []) (ka c s cl i) ((ss c s i fd sts ps ch)++.dead::[]))]<|.w 12 [(0,.val (i6 ((i+1:Nat):Int)))]<|.e) (.w 12 [(0,.val (i6 ((i+1:Nat):Int)))]<|.e))) (.l (iV c s cl fd sts ps) (0,ch) (fun ⟨j,ch2⟩=>.b 61 (.b 65 (.q 17 [6,8,9,10,12,58,59,60] 18<|.w 17 [(5,.val (.agg (pm c s j))),(6,.inl (.tup []) (iW c s fd j) ((p6 c s fd sts ps j ch2)++.dead::[]))]<|.w 18 [(0,.val (i6 ((j+1:Nat):Int)))]<|.e) (.w 18 [(0,.val (i6 ((j+1:Nat):Int)))]<|.e)) (.e))))) Tryz.func90 rfl rfl rfl (by kernel_rfl) ?_
 refine tt ⟨?_,?_⟩
 · intro tm0
   refine fV.vc (V:=TT 6 (CO (NM s.procs)∧TT 2 (CO (NQ s.chans)∧TT 5 ((bO:D)=bO∧([(bK c),(bJ s),cE,.frame tm0 (nZ c s cl),(bK c),(bJ s),.dead,.dead,.dead,(.arr 56 2 bw bB s.procs),.dead,.dead,(.arr 42 1 ae [] s.chans),.dead,.dead,(eH c)]:List aq)=(sq c s)++.frame tm0 (nZ c s cl)::(sr c s))))) (.w 1 [(3,(NM s.procs).O),(6,(NQ s.chans).O)]<|.e) Tryz.func59 rfl rfl (by kernel_rfl) ?_
   exact tt ⟨(Em s.procs om),tt ⟨(Eo s.chans om),tt ⟨rfl,rfl⟩⟩⟩
 refine tt ⟨⟨by omega,by simp,fun x hx=>by rw[List.eq_of_mem_replicate hx];exact⟨rfl,oK⟩⟩,tt ⟨⟨by omega,by simp,fun x hx=>by rw[List.eq_of_mem_replicate hx];exact⟨rfl,rfl,rfl,rfl,rfl,oK⟩⟩,tt ⟨rfl,⟨by omega,rfl,rfl,rfl,rfl⟩,?_⟩⟩⟩
 intro i fd sts ps ch hinv
 obtain⟨hi,hfd,hst,hps,hch⟩:=hinv
 have hfl0:fd.length=c.procs.length:=by rw[hfd,eG (by simp;omega)];simp
 have hsl0:sts.length=c.procs.length:=by rw[hst,eG (by simp;omega)];simp
 have hpl0:ps.length=c.procs.length:=by rw[hps,eG (by omega)];omega
 have hchl:ch.length=c.chans.length:=by rw[hch,dZ];exact hl2
 refine tt (cd (fun hc29=>?_) (fun hc29=>?_))
 · refine tt ⟨(Gx c i cl om),tt ⟨fun hc34=>?_,fun hc34=>?_⟩⟩
   · refine⟨w6,tt ⟨(i+1,fd,sts,ps,ch),rfl,(?_:(i+1)≤c.procs.length∧fd=cD (aA c s (bh c cl)) (List.replicate c.procs.length false) (i+1)∧sts=cD (Jv c s (bh c cl)) (List.replicate c.procs.length qf) (i+1)∧ps=cD (cO c s (bh c cl)) s.procs (i+1)∧ch=br s.chans (iT c s (bh c cl) (i+1))),(?_:c.procs.length-(i+1)<c.procs.length-i)⟩⟩
     · have hno:=Me (c:=c) (s:=s) hc34
       exact⟨by omega,by rw[hfd];exact cy (d:=false) (by simp;omega) (by rw[hno,cL]),by rw[hst];exact cy (d:=qf) (by simp;omega) (by rw[← Mf hc34,cL]),by rw[hps];exact cy (d:=bB) (by omega) (Jw hno).symm,by rw[hch];rw[C9 hno]⟩
     · omega
   · refine tt ⟨(Gp c s i hc hs (by omega)),⟨ix,⟨⟨om,by simp only[List.map_set];rfl⟩,tt ⟨ix,tt ⟨⟨⟨om,oK⟩,(by rw[c8 (by omega),if_pos rfl];rfl)⟩,⟨fun hc46=>?_,fun hc46=>?_⟩⟩⟩⟩⟩⟩
     · have hcan:gg c s i=true:=hc46
       refine tt ⟨ix,⟨⟨om,by simp only[List.map_set];rfl⟩,tt ⟨ix,⟨⟨⟨om,oK⟩,(by rw[c8 (by omega),if_pos rfl];exact⟨rfl,rfl,rfl,rfl,rfl,oK⟩)⟩,⟨?_,?_⟩⟩⟩⟩⟩
       · intro tm0
         refine fV.vc (V:=TT 9 (IX (i:Int) ps.length∧(i<ps.length∧(ps.map bw).set i ((bw (ps.getD i bB)).take 0++[(.sl 1 (ab .i64) 0 (((af c s i).s).regs)),(.sl 1 ae [] (((af c s i).s).mems))]++(bw (ps.getD i bB)).drop (0+2))=(ps.set i ((af c s i).s)).map bw)∧TT 4 (GO (kb c s cl i fd sts ps ch tm0) (0,ch) (∀k dr,(kb c s cl i fd sts ps ch tm0).inv (k,dr)→TT 1 (CD ((k:Int)<((((af c s i).pops).length:Nat):Int)) (TT 1 (IX (k:Int) (((af c s i).pops).length)∧TT 4 (CB ((((af c s i).pops).getD k false)) (TT 7 (IX (i:Int) c.procs.length∧TT 3 (IX (k:Int) (((c.procs.getD i aa).takes).length)∧TT 2 (vJ Tryz.prog 86 [bO,(i6 ((((c.procs.getD i aa).takes).getD k aK).chan)),(.fn (.func 119) [] [])] (Ey c s cl i fd sts ps tm0 dr) (kV c s i k) (p5 c s cl i fd sts ps tm0 k dr) [] (.tup [])∧W6 ((k+1:Nat):Int)∧TT 1 (AG (kb c s cl i fd sts ps ch tm0) (k,dr) (k+1,dr.set (((((c.procs.getD i aa).takes).getD k aK).chan).toNat) ((dr.getD (((((c.procs.getD i aa).takes).getD k aK).chan).toNat) []).drop 1))))))) (W6 ((k+1:Nat):Int)∧TT 1 (AG (kb c s cl i fd sts ps ch tm0) (k,dr) (k+1,dr)))))) (True∧([(bK c),(bJ s),cE,.dead,(bK c),(bJ s),.dead,.dead,.dead,(so ps i c s),.dead,.dead,(.arr 42 1 ae [] dr),.dead,.dead,(eH c),(pZ fd i),(pY sts i c s),.frame tm0 (ka c s cl i)]:List aq)=(ss c s i fd sts ps ch)++.frame tm0 (ka c s cl i)::[])))))) (.w 1 [(9,.box 56 2 bw bB (ps.set i ((af c s i).s)))]<|.l (kb c s cl i fd sts ps ch tm0) (0,ch) (fun ⟨k,dr⟩=>.b 21 (.b 25 (.q 6 [0,1,6,18,19,20] 29<|.w 6 [(14,.inl (.tup []) (kV c s i k) ((p5 c s cl i fd sts ps tm0 k dr)++.dead::[]))]<|.w 7 [(0,.val (i6 ((k+1:Nat):Int)))]<|.e) (.w 7 [(0,.val (i6 ((k+1:Nat):Int)))]<|.e)) (.e))) Tryz.func108 rfl rfl (by kernel_rfl) ?_
         have hpl:(af c s i).pops.length=(c.procs.getD i aa).takes.length:=gu _ _ _ _
         have ht1:(c.procs.getD i aa).takes.length≤100:=(hc.pr i (by omega)).tl
         refine tt ⟨ix,⟨⟨om,by simp only[List.map_set];rfl⟩,tt ⟨rfl,⟨by omega,rfl⟩,?_⟩⟩⟩
         intro k dr hinv
         obtain⟨hk,hdr⟩:=hinv
         have hdl:dr.length=c.chans.length:=by rw[hdr,dZ,hchl]
         refine tt (cd (fun hc21=>?_) (fun hc21=>?_))
         · refine tt ⟨ix,tt ⟨fun hc25=>?_,fun hc25=>?_⟩⟩
           · have hkt:k<(c.procs.getD i aa).takes.length:=by omega
             have htk:0≤((c.procs.getD i aa).takes.getD k aK).chan∧((c.procs.getD i aa).takes.getD k aK).chan<c.chans.length:=⟨(hc.tk i (by omega) k hkt).1,(hc.tk i (by omega) k hkt).2.1⟩
             have hfl:1≤(dr.getD ((c.procs.getD i aa).takes.getD k aK).chan.toNat []).length:=by
               rw[hdr,hch,sW]
               exact Gt hc hl2 (by omega) hcan hkt hc25
             refine tt ⟨ix,tt ⟨ix,tt ⟨?_,?_⟩⟩⟩
             · intro tm1
               refine fV.vc (V:=TT 13 (IX ((((c.procs.getD i aa).takes).getD k aK).chan) dr.length∧(((((c.procs.getD i aa).takes).getD k aK).chan).toNat<dr.length∧True)∧CC (KO (dr.getD (((((c.procs.getD i aa).takes).getD k aK).chan).toNat) []))∧IX ((((c.procs.getD i aa).takes).getD k aK).chan) dr.length∧(((((c.procs.getD i aa).takes).getD k aK).chan).toNat<dr.length∧(dr.map ae).set (((((c.procs.getD i aa).takes).getD k aK).chan).toNat) ((ae (dr.getD (((((c.procs.getD i aa).takes).getD k aK).chan).toNat) [])).take 0++[(.sl 1 (ab .i64) 0 ((dr.getD (((((c.procs.getD i aa).takes).getD k aK).chan).toNat) []).drop 1))]++(ae (dr.getD (((((c.procs.getD i aa).takes).getD k aK).chan).toNat) [])).drop (0+1))=(dr.set (((((c.procs.getD i aa).takes).getD k aK).chan).toNat) ((dr.getD (((((c.procs.getD i aa).takes).getD k aK).chan).toNat) []).drop 1)).map ae)∧True∧([(bK c),(bJ s),cE,.dead,(bK c),(bJ s),.dead,.dead,.dead,(so ps i c s),.dead,.dead,(.arr 42 1 ae [] (dr.set (((((c.procs.getD i aa).takes).getD k aK).chan).toNat) ((dr.getD (((((c.procs.getD i aa).takes).getD k aK).chan).toNat) []).drop 1))),.dead,.dead,(eH c),(pZ fd i),(pY sts i c s),(.frame tm0 (Dc c s i cl)),(.var 101 (wV c s i)),.dead,.dead,.dead,.dead,.dead,.dead,.dead,.dead,.dead,.frame tm1 (kV c s i k)]:List aq)=(p5 c s cl i fd sts ps tm0 k dr)++.frame tm1 (kV c s i k)::[])) (.w 0 [(15,(KO (dr.getD (((((c.procs.getD i aa).takes).getD k aK).chan).toNat) [])).O),(17,.box 42 1 ae [] (dr.set (((((c.procs.getD i aa).takes).getD k aK).chan).toNat) ((dr.getD (((((c.procs.getD i aa).takes).getD k aK).chan).toNat) []).drop 1)))]<|.e) Tryz.func86 rfl rfl (by kernel_rfl) ?_
               exact tt ⟨ix,⟨⟨om,oK⟩,⟨(Et (dr.getD (((((c.procs.getD i aa).takes).getD k aK).chan).toNat) []) om),⟨ix,⟨⟨om,by simp only[List.map_set];rfl⟩,⟨oK,rfl⟩⟩⟩⟩⟩⟩
             refine⟨w6,tt ⟨(k+1,dr.set (((((c.procs.getD i aa).takes).getD k aK).chan).toNat) ((dr.getD (((((c.procs.getD i aa).takes).getD k aK).chan).toNat) []).drop 1)),rfl,?_,(?_:(af c s i).pops.length-(k+1)<(af c s i).pops.length-k)⟩⟩
             · exact⟨by omega,by rw[x8 hc25,hdr];exact(xZ _ _ _).symm⟩
             · omega
           · refine⟨w6,tt ⟨(k+1,dr),rfl,?_,(?_:(af c s i).pops.length-(k+1)<(af c s i).pops.length-k)⟩⟩
             · exact⟨by omega,by rw[Bq hc25,hdr]⟩
             · omega
         · refine⟨oK,congrArg (fun (z0:List (List Int))=>([(bK c),(bJ s),cE,.dead,(bK c),(bJ s),.dead,.dead,.dead,(so ps i c s),.dead,.dead,(.arr 42 1 ae [] z0),.dead,.dead,(eH c),(pZ fd i),(pY sts i c s),.frame tm0 (ka c s cl i)]:List aq)) (?_:dr=(br ch (kU (c.procs.getD i aa) (af c s i) (c.procs.getD i aa).takes.length)))⟩
           rw[hdr,show k=(c.procs.getD i aa).takes.length by omega]
       refine⟨w6,tt ⟨(i+1,fd.set i true,sts.set i (af c s i),ps.set i ((af c s i).s),br ch (kU (c.procs.getD i aa) (af c s i) (c.procs.getD i aa).takes.length)),rfl,(?_:(i+1)≤c.procs.length∧(fd.set i true)=cD (aA c s (bh c cl)) (List.replicate c.procs.length false) (i+1)∧(sts.set i (af c s i))=cD (Jv c s (bh c cl)) (List.replicate c.procs.length qf) (i+1)∧(ps.set i ((af c s i).s))=cD (cO c s (bh c cl)) s.procs (i+1)∧(br ch (kU (c.procs.getD i aa) (af c s i) (c.procs.getD i aa).takes.length))=br s.chans (iT c s (bh c cl) (i+1))),(?_:c.procs.length-(i+1)<c.procs.length-i)⟩⟩
       · have hno:=KE hc34 hcan
         exact⟨by omega,by rw[hfd];exact cg (by simp;omega) hno,by rw[hst];exact cg (by simp;omega) (Gq hc34).symm,by rw[hps];exact cg (by omega) (KF hno).symm,by rw[hch];rw[Gr hno,sW]⟩
       · omega
     · refine⟨w6,tt ⟨(i+1,fd,sts.set i (af c s i),ps,ch),rfl,(?_:(i+1)≤c.procs.length∧fd=cD (aA c s (bh c cl)) (List.replicate c.procs.length false) (i+1)∧(sts.set i (af c s i))=cD (Jv c s (bh c cl)) (List.replicate c.procs.length qf) (i+1)∧ps=cD (cO c s (bh c cl)) s.procs (i+1)∧ch=br s.chans (iT c s (bh c cl) (i+1))),(?_:c.procs.length-(i+1)<c.procs.length-i)⟩⟩
       · have hno:=KD (w:=(bh c cl)) hc46
         exact⟨by omega,by rw[hfd];exact cy (d:=false) (by simp;omega) (by rw[hno,cL]),by rw[hst];exact cg (by simp;omega) (Gq hc34).symm,by rw[hps];exact cy (d:=bB) (by omega) (Jw hno).symm,by rw[hch];rw[C9 hno]⟩
       · omega
 · have hie:i=c.procs.length:=by omega
   refine tt ⟨rfl,⟨by omega,by rw[hch,hie];rfl⟩,?_⟩
   intro j ch2 hinv
   obtain⟨hj,hch2⟩:=hinv
   have hchl2:ch2.length=c.chans.length:=by rw[hch2,cP,dZ];exact hl2
   refine tt (cd (fun hc61=>?_) (fun hc61=>?_))
   · refine tt ⟨ix,⟨⟨om,oK⟩,tt ⟨fun hc65=>?_,fun hc65=>?_⟩⟩⟩
     · have hc65':aA c s (bh c cl) j=true:=by rw[← hc65,hfd,mD,if_pos (by omega)]
       have hsj:sts.getD j qf=af c s j:=by rw[hst,mD,if_pos (by omega)];exact if_pos (NV hc65').1
       refine tt ⟨ix,⟨⟨⟨om,oK⟩,(by rw[hsj];exact⟨rfl,rfl,rfl,rfl,rfl,oK⟩)⟩,⟨?_,?_⟩⟩⟩
       · intro tm0
         refine fV.vc (V:=TT 5 (GO (iX c s fd sts ps j ch2 tm0) (0,ch2) (∀m em,(iX c s fd sts ps j ch2 tm0).inv (m,em)→TT 1 (CD ((m:Int)<((((af c s j).puts).length:Nat):Int)) (TT 1 (IX (m:Int) (((af c s j).puts).length)∧TT 6 (CB ((((af c s j).puts).getD m aP).has) (TT 7 (IX (j:Int) c.procs.length∧TT 3 (IX (m:Int) (((c.procs.getD j aa).puts).length)∧TT 4 (an [[(i6 ((((af c s j).puts).getD m aP).v))]] ([(((af c s j)).puts.getD m aP).v].map (ab .i64))∧vJ Tryz.prog 60 [bO,(ve c j m),(LI [(((af c s j)).puts.getD m aP).v])] (Bt c s fd sts ps j tm0 m em) (kW c s j m) (p8 c s fd sts ps j tm0 m em) [] (.tup [])∧W6 ((m+1:Nat):Int)∧TT 1 (AG (iX c s fd sts ps j ch2 tm0) (m,em) (m+1,em.set (((((c.procs.getD j aa).puts).getD m aL).chan).toNat) ((em.getD (((((c.procs.getD j aa).puts).getD m aL).chan).toNat) [])++[(((af c s j)).puts.getD m aP).v]))))))) (W6 ((m+1:Nat):Int)∧TT 1 (AG (iX c s fd sts ps j ch2 tm0) (m,em) (m+1,em)))))) (True∧([(bK c),(bJ s),cE,.dead,(bK c),(bJ s),.dead,.dead,.dead,(gj ps),.dead,.dead,(.arr 42 1 ae [] em),.dead,.dead,(eH c),(gR fd),(gT sts),.frame tm0 (iW c s fd j)]:List aq)=(p6 c s fd sts ps j ch2)++.frame tm0 (iW c s fd j)::[]))))) (.l (iX c s fd sts ps j ch2 tm0) (0,ch2) (fun ⟨m,em⟩=>.b 12 (.b 17 (.q 5 [0,1,6,7,9,10,11] 21<|.w 5 [(16,.box 3 1 (ab .i64) 0 [(((af c s j)).puts.getD m aP).v]),(17,.inl (.tup []) (kW c s j m) ((p8 c s fd sts ps j tm0 m em)++.dead::[]))]<|.w 6 [(0,.val (i6 ((m+1:Nat):Int)))]<|.e) (.w 6 [(0,.val (i6 ((m+1:Nat):Int)))]<|.e)) (.e))) Tryz.func109 rfl rfl (by kernel_rfl) ?_
         have hpl:(af c s j).puts.length=(c.procs.getD j aa).puts.length:=eF _ _ _ _
         have ht1:(c.procs.getD j aa).puts.length≤100:=(hc.pr j (by omega)).pl
         refine tt ⟨rfl,⟨by omega,rfl⟩,?_⟩
         intro m em hinv
         obtain⟨hm,hem⟩:=hinv
         have hel:em.length=c.chans.length:=by rw[hem,cP,hchl2]
         refine tt (cd (fun hc12=>?_) (fun hc12=>?_))
         · refine tt ⟨ix,tt ⟨fun hc17=>?_,fun hc17=>?_⟩⟩
           · have hkt:m<(c.procs.getD j aa).puts.length:=by omega
             have htk:0≤((c.procs.getD j aa).puts.getD m aL).chan∧((c.procs.getD j aa).puts.getD m aL).chan<c.chans.length:=⟨(hc.pt j (by omega) m hkt).1,(hc.pt j (by omega) m hkt).2.1⟩
             have hfl:(em.getD ((c.procs.getD j aa).puts.getD m aL).chan.toNat []).length+1≤137438953472:=by
               rw[hem,hch2,sX]
               exact IK hc hl2 hsm (show j<c.procs.length by omega) (show m≤(c.procs.getD j aa).puts.length by omega) (show((c.procs.getD j aa).puts.getD m aL).chan.toNat<c.chans.length by omega)
             refine tt ⟨ix,tt ⟨ix,tt ⟨⟨⟨rfl,oK⟩,oK⟩,⟨?_,?_⟩⟩⟩⟩
             · intro tm1
               refine fV.vc (V:=TT 4 (vJ Tryz.prog 86 [bO,(ve c j m),(Gv c s j m)] (Bu c s fd sts ps j tm0 m em tm1) (kX c s j m) (p7 c s fd sts ps j tm0 m em tm1) [] (.tup [])∧True∧([(bK c),(bJ s),cE,.dead,(bK c),(bJ s),.dead,.dead,.dead,(gj ps),.dead,.dead,(Dd em c j m s),.dead,.dead,(eH c),(gR fd),(gT sts),(.frame tm0 (sY c s j fd)),(.var 101 (pm c s j)),(sn c s j m),.dead,.dead,.dead,.dead,.dead,.dead,.dead,.dead,.dead,.dead,.dead,.dead,.dead,.dead,.dead,.dead,.dead,.frame tm1 (kW c s j m)]:List aq)=(p8 c s fd sts ps j tm0 m em)++.frame tm1 (kW c s j m)::[])) (.q 1 [0,1,5] 40<|.f 1 39<|.w 1 [(3,.inl (.tup []) (kX c s j m) ((p7 c s fd sts ps j tm0 m em tm1)++.dead::[]))]<|.e) Tryz.func60 rfl rfl (by kernel_rfl) ?_
               refine tt ⟨?_,?_⟩
               · intro tm2
                 refine fV.vc (V:=TT 13 (IX ((((c.procs.getD j aa).puts).getD m aL).chan) em.length∧(((((c.procs.getD j aa).puts).getD m aL).chan).toNat<em.length∧True)∧CC (NW (em.getD (((((c.procs.getD j aa).puts).getD m aL).chan).toNat) []) [(((af c s j)).puts.getD m aP).v])∧IX ((((c.procs.getD j aa).puts).getD m aL).chan) em.length∧(((((c.procs.getD j aa).puts).getD m aL).chan).toNat<em.length∧(em.map ae).set (((((c.procs.getD j aa).puts).getD m aL).chan).toNat) ((ae (em.getD (((((c.procs.getD j aa).puts).getD m aL).chan).toNat) [])).take 0++[(.sl 1 (ab .i64) 0 ((em.getD (((((c.procs.getD j aa).puts).getD m aL).chan).toNat) [])++[(((af c s j)).puts.getD m aP).v]))]++(ae (em.getD (((((c.procs.getD j aa).puts).getD m aL).chan).toNat) [])).drop (0+1))=(em.set (((((c.procs.getD j aa).puts).getD m aL).chan).toNat) ((em.getD (((((c.procs.getD j aa).puts).getD m aL).chan).toNat) [])++[(((af c s j)).puts.getD m aP).v])).map ae)∧True∧([(bK c),(bJ s),cE,.dead,(bK c),(bJ s),.dead,.dead,.dead,(gj ps),.dead,.dead,(Dd em c j m s),.dead,.dead,(eH c),(gR fd),(gT sts),(.frame tm0 (sY c s j fd)),(.var 101 (pm c s j)),(sn c s j m),.dead,.dead,.dead,.dead,.dead,.dead,.dead,.dead,.dead,.dead,.dead,.dead,.dead,.dead,.dead,.dead,.dead,(.frame tm1 (Db j m c s)),.dead,.frame tm2 (kX c s j m)]:List aq)=(p7 c s fd sts ps j tm0 m em tm1)++.frame tm2 (kX c s j m)::[])) (.w 0 [(15,(NW (em.getD (((((c.procs.getD j aa).puts).getD m aL).chan).toNat) []) [(((af c s j)).puts.getD m aP).v]).O),(17,.box 42 1 ae [] (em.set (((((c.procs.getD j aa).puts).getD m aL).chan).toNat) ((em.getD (((((c.procs.getD j aa).puts).getD m aL).chan).toNat) [])++[(((af c s j)).puts.getD m aP).v])))]<|.e) Tryz.func86 rfl rfl (by kernel_rfl) ?_
                 exact tt ⟨ix,⟨⟨om,oK⟩,⟨(Br (em.getD (((((c.procs.getD j aa).puts).getD m aL).chan).toNat) []) [(((af c s j)).puts.getD m aP).v] om),⟨ix,⟨⟨om,by simp only[List.map_set];rfl⟩,⟨oK,rfl⟩⟩⟩⟩⟩⟩
               exact⟨oK,rfl⟩
             refine⟨w6,tt ⟨(m+1,em.set (((((c.procs.getD j aa).puts).getD m aL).chan).toNat) ((em.getD (((((c.procs.getD j aa).puts).getD m aL).chan).toNat) [])++[(((af c s j)).puts.getD m aP).v])),rfl,?_,(?_:(af c s j).puts.length-(m+1)<(af c s j).puts.length-m)⟩⟩
             · exact⟨by omega,by rw[tM hc17,hem];exact(ic _ _ _ _).symm⟩
             · omega
           · refine⟨w6,tt ⟨(m+1,em),rfl,?_,(?_:(af c s j).puts.length-(m+1)<(af c s j).puts.length-m)⟩⟩
             · exact⟨by omega,by rw[x9 hc17,hem]⟩
             · omega
         · refine⟨oK,congrArg (fun (z0:List (List Int))=>([(bK c),(bJ s),cE,.dead,(bK c),(bJ s),.dead,.dead,.dead,(gj ps),.dead,.dead,(.arr 42 1 ae [] z0),.dead,.dead,(eH c),(gR fd),(gT sts),.frame tm0 (iW c s fd j)]:List aq)) (?_:em=(bz ch2 (mI (c.procs.getD j aa) (af c s j) (c.procs.getD j aa).puts.length)))⟩
           rw[hem,show m=(c.procs.getD j aa).puts.length by omega]
       refine⟨w6,tt ⟨(j+1,bz ch2 (mI (c.procs.getD j aa) (af c s j) (c.procs.getD j aa).puts.length)),rfl,?_,(?_:c.procs.length-(j+1)<c.procs.length-j)⟩⟩
       · exact⟨by omega,by rw[hch2];rw[Gs hc65',sX]⟩
       · omega
     · have hc65':aA c s (bh c cl) j=false:=by rw[← hc65,hfd,mD,if_pos (by omega)]
       refine⟨w6,tt ⟨(j+1,ch2),rfl,?_,(?_:c.procs.length-(j+1)<c.procs.length-j)⟩⟩
       · exact⟨by omega,by rw[hch2];rw[II hc65']⟩
       · omega
   · have hje:j=c.procs.length:=by omega
     refine tt ⟨⟨(congrArg _ (?_:ps=((bD c s (bh c cl)).procs))),(congrArg _ (?_:ch2=((bD c s (bh c cl)).chans))),oK⟩,(congrArg _ (?_:fd=(tab (aA c s (bh c cl)) c.procs.length))),oK⟩
     · rw[hps,hie,dz (by omega)];rfl
     · rw[hch2,hje];exact Ek hc hl2
     · rw[hfd,hie,dz (by simp)]
end Go.Proofs.YtckgpflobhpnpaaGreat
