/-
  Package network: firing.
-/
import Derived.Test.YtckgpflobhpnpaaQNeG
import Derived.Test.YtckgpflobhpnpaaQNeH
namespace Go.Proofs.Ytckgpflobhpnpaa
open Go.RowKit
set_option linter.unusedVariables false
set_option linter.unusedSimpArgs false
abbrev oZ (c : Ci) (s : Ns) (j : Nat) : List D := [(dB ((af c s j).fires)),(LI (((af c s j).s).regs)),(dL 1 ab [] (((af c s j).s).mems)),(LB ((af c s j).pops)),(dL 2 cO aP ((af c s j).puts))]
abbrev bM : D := (.ptr 15 0 0 0)
abbrev sM (c : Ci) (s : Ns) (j : Nat) (fd : List Bool) : List (Nat × D) := [(71,(.agg (oZ c s j))),(70,(.ptr 17 j 5 0)),(69,(i6 (j : Int))),(68,(.own 17)),(67,(i6 (j : Int))),(66,bM),(6,(.ptr 2 0 0 0)),(8,bM),(9,(.own 16)),(10,(.own 17)),(12,(i6 (j : Int))),(58,(.own 16)),(59,(i6 (fd.length : Int))),(60,(i6 (j : Int)))]
abbrev u2 (c : Ci) (j m : Nat) : D := (i6 ((((c.procs.getD j ac).puts).getD m aN).chan))
abbrev CV (j m : Nat) (c : Ci) (s : Ns) : List (Nat × D) := [(0,bM),(1,(i6 (j : Int))),(6,(i6 (m : Int))),(7,(.ptr 20 0 0 0)),(9,(dL 2 cO aP ((af c s j).puts))),(10,(i6 ((((af c s j).puts).length : Nat) : Int))),(11,(i6 (m : Int))),(18,bM),(19,bM),(20,bM),(21,bM),(22,bM),(23,(dL 6 iB ac c.procs)),(24,(i6 (j : Int))),(25,(.iptr (iB (c.procs.getD j ac)) 0)),(26,(.iptr (iB (c.procs.getD j ac)) 5)),(27,(dL 16 ou aN ((c.procs.getD j ac).puts))),(28,(i6 (m : Int))),(29,(.iptr (ou (((c.procs.getD j ac).puts).getD m aN)) 0)),(30,(.iptr (ou (((c.procs.getD j ac).puts).getD m aN)) 0)),(31,(u2 c j m)),(32,(.ptr 20 0 0 1)),(33,(i6 ((((af c s j).puts).getD m aP).v))),(34,(LI [(((af c s j)).puts.getD m aP).v]))]
abbrev xU (s : Ns) : List D := [(dL 2 cg bV s.procs),(dL 1 ab [] s.chans)]
abbrev bA (s : Ns) : aq := (.var 105 (xU s))
abbrev xV (c : Ci) : List D := [(dL 6 iB ac c.procs),(dL 5 gM cb c.chans)]
abbrev bB (c : Ci) : aq := (.var 29 (xV c))
abbrev wN (c : Ci) (s : Ns) (i : Nat) : List D := [(dB ((af c s i).fires)),(LI (((af c s i).s).regs)),(dL 1 ab [] (((af c s i).s).mems)),(LB ((af c s i).pops)),(dL 2 cO aP ((af c s i).puts))]
abbrev xW (c : Ci) (cl : ByteArray) : D := (.fn (.func 50) [] [(.iptr [(.sl 6 iB ac c.procs),(.sl 5 gM cb c.chans)] 0),(.iptr [(.str cl)] 0)])
abbrev CW (c : Ci) (s : Ns) (i : Nat) (cl : ByteArray) : List (Nat × D) := [(55,(.agg (wN c s i))),(54,(.ptr 17 i 5 0)),(53,(i6 (i : Int))),(52,(.own 17)),(51,(i6 (i : Int))),(50,bM),(2,(xW c cl)),(3,(.ptr 0 0 0 0)),(4,(.ptr 1 0 0 0)),(6,(.ptr 2 0 0 0)),(8,bM),(9,(.own 16)),(10,(.own 17)),(11,(i6 (i : Int))),(27,(i6 (c.procs.length : Int))),(28,(i6 (i : Int)))]
abbrev er (c : Ci) : aq := (.var 150 [(dL 6 iB ac c.procs),(dL 5 gM cb c.chans),(.own 9),(.own 12)])
abbrev CX (em : List (List Int)) (c : Ci) (j m : Nat) (s : Ns) : aq := (.arr 37 1 ab [] (em.set (((((c.procs.getD j ac).puts).getD m aN).chan).toNat) ((em.getD (((((c.procs.getD j ac).puts).getD m aN).chan).toNat) []) ++ [(((af c s j)).puts.getD m aP).v])))
abbrev dX : aq := (.var 105 [.nils,.nils])
abbrev rY (c : Ci) (s : Ns) (j m : Nat) : aq := (.var 135 [(dB ((((af c s j).puts).getD m aP).has)),(i6 ((((af c s j).puts).getD m aP).v))])
abbrev rZ (ps : List Ps) (i : Nat) (c : Ci) (s : Ns) : aq := (.arr 113 2 cg bV (ps.set i ((af c s i).s)))
abbrev pL (fd : List Bool) (i : Nat) : aq := (.arr 4 1 br false (fd.set i true))
abbrev pM (sts : List Fi) (i : Nat) (c : Ci) (s : Ns) : aq := (.arr 116 5 Ia pU (sts.set i (af c s i)))
abbrev Ge (c : Ci) (s : Ns) (ps : List Ps) (i : Nat) (dr : List (List Int)) (fd : List Bool) (sts : List Fi) (tm0 : Array Value) (cl : ByteArray) : List aq := [(bB c),(bA s),dX,.dead,(bB c),(bA s),.dead,.dead,.dead,(rZ ps i c s),.dead,.dead,(.arr 37 1 ab [] dr),.dead,.dead,(er c),(pL fd i),(pM sts i c s),(.frame tm0 (CW c s i cl)),(.var 116 (wN c s i)),.dead,.dead,.dead,.dead,.dead,.dead,.dead,.dead,.dead]
abbrev fp (ps : List Ps) : aq := (.arr 113 2 cg bV ps)
abbrev gi (fd : List Bool) : aq := (.arr 4 1 br false fd)
abbrev gj (sts : List Fi) : aq := (.arr 116 5 Ia pU sts)
set_option maxRecDepth 100000
abbrev Ng (l : List Int) : Ct := ⟨69,[(LI l)],true,(LI (l.drop 1))⟩
theorem Ef (l : List Int) (h : 1 ≤ l.length) : CC (Ng l) := by
 refine ai.vc (V := TT 2 ((0 ≤ (1 : Int)∧(1 : Int) ≤ (l.length : Int)∧(l.length : Int) ≤ (l.length : Int))∧TT 2 ((l.drop 1).map (aa .i64) = (l.drop 1).map (aa .i64)))) (.e) Try.func69 rfl rfl rfl (by kernel_rfl) ?_
 exact tt ⟨om,tt rfl⟩
abbrev Nh (l ws : List Int) : Ct := ⟨75,[(LI l),(.iptr [(.sl 1 (aa .i64) 0 ws)] 0)],true,(LI (l ++ ws))⟩
theorem Bc (l ws : List Int) (h : l.length + ws.length ≤ 137438953472) : CC (Nh l ws) := by
 refine ai.vc (V := TT 3 (ao [[(LI l)],[(LI ws)]] ([l,ws].map ab)∧CK (Nb [l,ws])∧TT 2 (([l,ws].flatten).map (aa .i64) = (l ++ ws).map (aa .i64)))) (.w 1 [(2,.box 37 1 ab [] [l,ws]),(3,(Nb [l,ws]).O')] <| .e) Try.func75 rfl rfl rfl (by kernel_rfl) ?_
 refine tt ⟨⟨⟨rfl,oK⟩,⟨rfl,oK⟩,oK⟩,⟨⟨dM _ rfl,(Ec [l,ws] (by simp) (by simpa using h))⟩,tt (congrArg _ (?_ : ([l,ws].flatten) = (l ++ ws)))⟩⟩
 simp
abbrev Ni (c : Ci) (q : Nat) (cl : ByteArray) : Ct := ⟨50,[(i6 (q : Int)),(.iptr [(.sl 6 iB ac c.procs),(.sl 5 gM cb c.chans)] 0),(.iptr [(.str cl)] 0)],false,(dB (bc c cl q))⟩
theorem Gf (c : Ci) (q : Nat) (cl : ByteArray) (hq : q < c.procs.length) : CC (Ni c q cl) := by
 refine ai.vc (V := TT 4 (IX (q : Int) c.procs.length∧TT 6 ((((c.procs.getD q ac).clock).toList == cl.toList) = (bc c cl q)∧True))) (.e) Try.func50 rfl rfl rfl (by kernel_rfl) ?_
 refine tt ⟨ix,tt ⟨?_,oK⟩⟩
 rfl
abbrev Ks (c : Ci) (s : Ns) (cl : ByteArray) : Ct := ⟨49,[(.agg (xV c)),(.agg (xU s)),(xW c cl)],true,(.tup [(.agg [(dL 2 cg bV ((bz c s (bc c cl)).procs)),(dL 1 ab [] ((bz c s (bc c cl)).chans))]),(LB (tab (aA c s (bc c cl)) c.procs.length))])⟩
abbrev Eg (c : Ci) (s : Ns) : List aq := [(bB c),(bA s),dX]
abbrev nJ (c : Ci) (s : Ns) (cl : ByteArray) : List (Nat × D) := [(15,(.agg (xU s))),(14,(.agg (xV c))),(2,(xW c cl)),(3,(.ptr 0 0 0 0)),(4,(.ptr 1 0 0 0)),(6,(.ptr 2 0 0 0))]
abbrev r6 (c : Ci) (s : Ns) : List aq := [(bB c),(bA s),dX]
abbrev r7 (c : Ci) (s : Ns) : List aq := [(bB c),(bA s),.dead,.dead,.dead,(.arr 113 2 cg bV s.procs),.dead,.dead,(.arr 37 1 ab [] s.chans),.dead,.dead,(er c)]
abbrev io (c : Ci) (s : Ns) (cl : ByteArray) : Lp (Nat × List Bool × List Fi × List Ps × List (List Int)) := NV [2,3,4,6,8,9,10,27,28] 18 (fun (i : Nat) (fd : List Bool) (sts : List Fi) (ps : List Ps) (ch : List (List Int)) => ⟨[(2,(xW c cl)),(3,(.ptr 0 0 0 0)),(4,(.ptr 1 0 0 0)),(6,(.ptr 2 0 0 0)),(8,bM),(9,(.own 16)),(10,(.own 17)),(27,(i6 (c.procs.length : Int))),(28,(i6 (i : Int)))],[(bB c),(bA s),dX,.dead,(bB c),(bA s),.dead,.dead,.dead,(fp ps),.dead,.dead,(.arr 37 1 ab [] ch),.dead,.dead,(er c),(gi fd),(gj sts)]⟩) (fun (i : Nat) (fd : List Bool) (sts : List Fi) (ps : List Ps) (ch : List (List Int)) => i ≤ c.procs.length∧fd = cC (aA c s (bc c cl)) (List.replicate c.procs.length false) i∧sts = cC (Jp c s (bc c cl)) (List.replicate c.procs.length pU) i∧ps = cC (cM c s (bc c cl)) s.procs i∧ch = bp s.chans (iH c s (bc c cl) i)) (fun (i : Nat) (fd : List Bool) (sts : List Fi) (ps : List Ps) (ch : List (List Int)) => c.procs.length - i)
abbrev Eh (c : Ci) (s : Ns) (i : Nat) (fd : List Bool) (sts : List Fi) (ps : List Ps) (ch : List (List Int)) : List aq := [(bB c),(bA s),dX,.dead,(bB c),(bA s),.dead,.dead,.dead,(fp ps),.dead,.dead,(.arr 37 1 ab [] ch),.dead,.dead,(er c),(pL fd i),(pM sts i c s)]
abbrev jY (c : Ci) (s : Ns) (cl : ByteArray) (i : Nat) : List (Nat × D) := (CW c s i cl)
abbrev r8 (c : Ci) (s : Ns) (i : Nat) (fd : List Bool) (sts : List Fi) (ps : List Ps) (ch : List (List Int)) : List aq := [(bB c),(bA s),dX,.dead,(bB c),(bA s),.dead,.dead,.dead,(rZ ps i c s),.dead,.dead,(.arr 37 1 ab [] (bp ch (lN (c.procs.getD i ac) (af c s i) (c.procs.getD i ac).takes.length))),.dead,.dead,(er c),(pL fd i),(pM sts i c s)]
abbrev jZ (c : Ci) (s : Ns) (cl : ByteArray) (i : Nat) (fd : List Bool) (sts : List Fi) (ps : List Ps) (ch : List (List Int)) (tm0 : Array Value) : Lp (Nat × List (List Int)) := xD [0,1,18,19,20] 29 (fun (k : Nat) (dr : List (List Int)) => ⟨[(0,bM),(1,(i6 (i : Int))),(18,(LB ((af c s i).pops))),(19,(i6 ((((af c s i).pops).length : Nat) : Int))),(20,(i6 (k : Int)))],(Ge c s ps i dr fd sts tm0 cl)⟩) (fun (k : Nat) (dr : List (List Int)) => k ≤ (af c s i).pops.length∧dr = bp ch (lN (c.procs.getD i ac) (af c s i) k)) (fun (k : Nat) (dr : List (List Int)) => (af c s i).pops.length - k)
abbrev Ei (c : Ci) (s : Ns) (cl : ByteArray) (i : Nat) (fd : List Bool) (sts : List Fi) (ps : List Ps) (tm0 : Array Value) (dr : List (List Int)) : List aq := (Ge c s ps i dr fd sts tm0 cl)
abbrev kQ (c : Ci) (s : Ns) (i : Nat) (k : Nat) : List (Nat × D) := [(39,(i6 ((((c.procs.getD i ac).takes).getD k aR).chan))),(38,(.iptr (lJ (((c.procs.getD i ac).takes).getD k aR)) 0)),(37,(.iptr (lJ (((c.procs.getD i ac).takes).getD k aR)) 0)),(36,(i6 (k : Int))),(35,(dL 9 lJ aR ((c.procs.getD i ac).takes))),(34,(.iptr (iB (c.procs.getD i ac)) 4)),(33,(.iptr (iB (c.procs.getD i ac)) 0)),(32,(i6 (i : Int))),(31,(dL 6 iB ac c.procs)),(30,bM),(29,bM),(28,bM),(27,bM),(26,bM),(0,bM),(1,(i6 (i : Int))),(6,(i6 (k : Int))),(18,(LB ((af c s i).pops))),(19,(i6 ((((af c s i).pops).length : Nat) : Int))),(20,(i6 (k : Int)))]
abbrev pN (c : Ci) (s : Ns) (cl : ByteArray) (i : Nat) (fd : List Bool) (sts : List Fi) (ps : List Ps) (tm0 : Array Value) (k : Nat) (dr : List (List Int)) : List aq := [(bB c),(bA s),dX,.dead,(bB c),(bA s),.dead,.dead,.dead,(rZ ps i c s),.dead,.dead,(.arr 37 1 ab [] (dr.set (((((c.procs.getD i ac).takes).getD k aR).chan).toNat) ((dr.getD (((((c.procs.getD i ac).takes).getD k aR).chan).toNat) []).drop 1))),.dead,.dead,(er c),(pL fd i),(pM sts i c s),(.frame tm0 (CW c s i cl)),(.var 116 (wN c s i)),.dead,.dead,.dead,.dead,.dead,.dead,.dead,.dead,.dead]
abbrev iJ (c : Ci) (s : Ns) (cl : ByteArray) (fd : List Bool) (sts : List Fi) (ps : List Ps) : Lp (Nat × List (List Int)) := xD [6,8,9,10,58,59,60] 18 (fun (j : Nat) (ch2 : List (List Int)) => ⟨[(6,(.ptr 2 0 0 0)),(8,bM),(9,(.own 16)),(10,(.own 17)),(58,(.own 16)),(59,(i6 (fd.length : Int))),(60,(i6 (j : Int)))],[(bB c),(bA s),dX,.dead,(bB c),(bA s),.dead,.dead,.dead,(fp ps),.dead,.dead,(.arr 37 1 ab [] ch2),.dead,.dead,(er c),(gi fd),(gj sts)]⟩) (fun (j : Nat) (ch2 : List (List Int)) => j ≤ c.procs.length∧ch2 = bG (bp s.chans (iH c s (bc c cl) c.procs.length)) (oC c s (bc c cl) j)) (fun (j : Nat) (ch2 : List (List Int)) => c.procs.length - j)
abbrev Bd (c : Ci) (s : Ns) (fd : List Bool) (sts : List Fi) (ps : List Ps) (ch2 : List (List Int)) : List aq := [(bB c),(bA s),dX,.dead,(bB c),(bA s),.dead,.dead,.dead,(fp ps),.dead,.dead,(.arr 37 1 ab [] ch2),.dead,.dead,(er c),(gi fd),(gj sts)]
abbrev iK (c : Ci) (s : Ns) (fd : List Bool) (j : Nat) : List (Nat × D) := (sM c s j fd)
abbrev pO (c : Ci) (s : Ns) (fd : List Bool) (sts : List Fi) (ps : List Ps) (j : Nat) (ch2 : List (List Int)) : List aq := [(bB c),(bA s),dX,.dead,(bB c),(bA s),.dead,.dead,.dead,(fp ps),.dead,.dead,(.arr 37 1 ab [] (bG ch2 (ny (c.procs.getD j ac) (af c s j) (c.procs.getD j ac).puts.length))),.dead,.dead,(er c),(gi fd),(gj sts)]
abbrev iL (c : Ci) (s : Ns) (fd : List Bool) (sts : List Fi) (ps : List Ps) (j : Nat) (ch2 : List (List Int)) (tm0 : Array Value) : Lp (Nat × List (List Int)) := xD [0,1,9,10,11] 20 (fun (m : Nat) (em : List (List Int)) => ⟨[(0,bM),(1,(i6 (j : Int))),(9,(dL 2 cO aP ((af c s j).puts))),(10,(i6 ((((af c s j).puts).length : Nat) : Int))),(11,(i6 (m : Int)))],[(bB c),(bA s),dX,.dead,(bB c),(bA s),.dead,.dead,.dead,(fp ps),.dead,.dead,(.arr 37 1 ab [] em),.dead,.dead,(er c),(gi fd),(gj sts),(.frame tm0 (sM c s j fd)),(.var 116 (oZ c s j))]⟩) (fun (m : Nat) (em : List (List Int)) => m ≤ (af c s j).puts.length∧em = bG ch2 (ny (c.procs.getD j ac) (af c s j) m)) (fun (m : Nat) (em : List (List Int)) => (af c s j).puts.length - m)
abbrev Be (c : Ci) (s : Ns) (fd : List Bool) (sts : List Fi) (ps : List Ps) (j : Nat) (tm0 : Array Value) (m : Nat) (em : List (List Int)) : List aq := [(bB c),(bA s),dX,.dead,(bB c),(bA s),.dead,.dead,.dead,(fp ps),.dead,.dead,(.arr 37 1 ab [] em),.dead,.dead,(er c),(gi fd),(gj sts),(.frame tm0 (sM c s j fd)),(.var 116 (oZ c s j)),(rY c s j m),.dead,.dead,.dead,.dead,.dead,.dead,.dead,.dead,.dead,.dead,.dead,.dead,.dead,.dead,.dead,.dead,.dead]
abbrev kR (c : Ci) (s : Ns) (j : Nat) (m : Nat) : List (Nat × D) := (CV j m c s)
abbrev Bf (c : Ci) (s : Ns) (fd : List Bool) (sts : List Fi) (ps : List Ps) (j : Nat) (tm0 : Array Value) (m : Nat) (em : List (List Int)) (tm1 : Array Value) : List aq := [(bB c),(bA s),dX,.dead,(bB c),(bA s),.dead,.dead,.dead,(fp ps),.dead,.dead,(.arr 37 1 ab [] em),.dead,.dead,(er c),(gi fd),(gj sts),(.frame tm0 (sM c s j fd)),(.var 116 (oZ c s j)),(rY c s j m),.dead,.dead,.dead,.dead,.dead,.dead,.dead,.dead,.dead,.dead,.dead,.dead,.dead,.dead,.dead,.dead,.dead,(.frame tm1 (CV j m c s)),.dead]
abbrev kS (c : Ci) (s : Ns) (j : Nat) (m : Nat) : List (Nat × D) := [(8,(.fn (.func 75) [] [(.iptr [(.sl 1 (aa .i64) 0 [(((af c s j)).puts.getD m aP).v])] 0)])),(7,(u2 c j m)),(6,bM),(0,bM),(1,(u2 c j m)),(5,(.iptr [(.sl 1 (aa .i64) 0 [(((af c s j)).puts.getD m aP).v])] 0))]
abbrev pP (c : Ci) (s : Ns) (fd : List Bool) (sts : List Fi) (ps : List Ps) (j : Nat) (tm0 : Array Value) (m : Nat) (em : List (List Int)) (tm1 : Array Value) : List aq := [(bB c),(bA s),dX,.dead,(bB c),(bA s),.dead,.dead,.dead,(fp ps),.dead,.dead,(CX em c j m s),.dead,.dead,(er c),(gi fd),(gj sts),(.frame tm0 (sM c s j fd)),(.var 116 (oZ c s j)),(rY c s j m),.dead,.dead,.dead,.dead,.dead,.dead,.dead,.dead,.dead,.dead,.dead,.dead,.dead,.dead,.dead,.dead,.dead,(.frame tm1 (CV j m c s)),.dead]
abbrev pQ (c : Ci) (s : Ns) (fd : List Bool) (sts : List Fi) (ps : List Ps) (j : Nat) (tm0 : Array Value) (m : Nat) (em : List (List Int)) : List aq := [(bB c),(bA s),dX,.dead,(bB c),(bA s),.dead,.dead,.dead,(fp ps),.dead,.dead,(CX em c j m s),.dead,.dead,(er c),(gi fd),(gj sts),(.frame tm0 (sM c s j fd)),(.var 116 (oZ c s j)),(rY c s j m),.dead,.dead,.dead,.dead,.dead,.dead,.dead,.dead,.dead,.dead,.dead,.dead,.dead,.dead,.dead,.dead,.dead]
theorem Ej (c : Ci) (s : Ns) (cl : ByteArray) (hc : a6 c) (hs : jS c s) (hsm : Mz s 4294967296) : CC (Ks c s cl) := by
 have hnl := hc.nl
 have hcl := hc.cl
 have hl1 := hs.pl
 have hl2 := hs.cl
 refine ai.vc (V := TT 6 (vC Try.prog 58 [(.agg (xV c)),(.agg (xU s))] (Eg c s) (nJ c s cl) (r6 c s) (r7 c s) bM∧TT 4 ((((0 : Int) ≤ (c.procs.length : Int)∧(c.procs.length : Int) ≤ (c.procs.length : Int)∧(c.procs.length : Int) ≤ 137438953472)∧(List.replicate c.procs.length false).length = c.procs.length∧∀ x ∈ (List.replicate c.procs.length false),de [(dB false)] (br x))∧TT 4 ((((0 : Int) ≤ (c.procs.length : Int)∧(c.procs.length : Int) ≤ (c.procs.length : Int)∧(c.procs.length : Int) ≤ 137438953472)∧(List.replicate c.procs.length pU).length = c.procs.length∧∀ x ∈ (List.replicate c.procs.length pU),de [(dB false),.nils,.nils,.nils,.nils] (Ia x))∧TT 5 (GO (io c s cl) (0,List.replicate c.procs.length false,List.replicate c.procs.length pU,s.procs,s.chans) (∀ i fd sts ps ch,(io c s cl).inv (i,fd,sts,ps,ch) → TT 1 (CD ((i : Int) < (c.procs.length : Int)) (TT 4 (CC (Ni c i cl)∧TT 1 (CB (!(bc c cl i)) (W6 ((i + 1 : Nat) : Int)∧TT 1 (AG (io c s cl) (i,fd,sts,ps,ch) (i + 1,fd,sts,ps,ch))) (TT 5 (CC (Nd c s i)∧IX (i : Int) sts.length∧(i < sts.length∧(sts.map Ia).set i ((Ia (sts.getD i pU)).take 0 ++ [(.bool ((af c s i).fires)),(.sl 1 (aa .i64) 0 (((af c s i).s).regs)),(.sl 1 ab [] (((af c s i).s).mems)),(.sl 1 br false ((af c s i).pops)),(.sl 2 cO aP ((af c s i).puts))] ++ (Ia (sts.getD i pU)).drop (0 + 5)) = (sts.set i (af c s i)).map Ia)∧TT 2 (IX (i : Int) ((sts.set i (af c s i)).length)∧TT 1 (((i < (sts.set i (af c s i)).length∧True)∧(((sts.set i (af c s i)).getD i pU).fires) = (gf c s i))∧CB (gf c s i) (TT 2 (IX (i : Int) fd.length∧(i < fd.length∧(fd.map br).set i ((br (fd.getD i false)).take 0 ++ [(.bool true)] ++ (br (fd.getD i false)).drop (0 + 1)) = (fd.set i true).map br)∧TT 4 (IX (i : Int) ((sts.set i (af c s i)).length)∧((i < (sts.set i (af c s i)).length∧True)∧((((sts.set i (af c s i)).getD i pU).fires) = ((af c s i).fires)∧((((sts.set i (af c s i)).getD i pU).s).regs).map (aa .i64) = (((af c s i).s).regs).map (aa .i64)∧((((sts.set i (af c s i)).getD i pU).s).mems).map ab = (((af c s i).s).mems).map ab∧(((sts.set i (af c s i)).getD i pU).pops).map br = ((af c s i).pops).map br∧(((sts.set i (af c s i)).getD i pU).puts).map cO = ((af c s i).puts).map cO∧True))∧vC Try.prog 60 [bM,(i6 (i : Int)),(.agg (wN c s i))] (Eh c s i fd sts ps ch) (jY c s cl i) (r8 c s i fd sts ps ch) [] (.tup [])∧W6 ((i + 1 : Nat) : Int)∧TT 1 (AG (io c s cl) (i,fd,sts,ps,ch) (i + 1,fd.set i true,sts.set i (af c s i),ps.set i ((af c s i).s),bp ch (lN (c.procs.getD i ac) (af c s i) (c.procs.getD i ac).takes.length)))))) (W6 ((i + 1 : Nat) : Int)∧TT 1 (AG (io c s cl) (i,fd,sts,ps,ch) (i + 1,fd,sts.set i (af c s i),ps,ch)))))))))) (TT 3 (GO (iJ c s cl fd sts ps) (0,ch) (∀ j ch2,(iJ c s cl fd sts ps).inv (j,ch2) → TT 1 (CD ((j : Int) < (fd.length : Int)) (TT 1 (IX (j : Int) fd.length∧(j < fd.length∧True)∧TT 3 (CB ((fd.getD j false)) (TT 4 (IX (j : Int) sts.length∧((j < sts.length∧True)∧(((sts.getD j pU).fires) = ((af c s j).fires)∧(((sts.getD j pU).s).regs).map (aa .i64) = (((af c s j).s).regs).map (aa .i64)∧(((sts.getD j pU).s).mems).map ab = (((af c s j).s).mems).map ab∧((sts.getD j pU).pops).map br = ((af c s j).pops).map br∧((sts.getD j pU).puts).map cO = ((af c s j).puts).map cO∧True))∧vC Try.prog 61 [bM,(i6 (j : Int)),(.agg (oZ c s j))] (Bd c s fd sts ps ch2) (iK c s fd j) (pO c s fd sts ps j ch2) [] (.tup [])∧W6 ((j + 1 : Nat) : Int)∧TT 1 (AG (iJ c s cl fd sts ps) (j,ch2) (j + 1,bG ch2 (ny (c.procs.getD j ac) (af c s j) (c.procs.getD j ac).puts.length))))) (W6 ((j + 1 : Nat) : Int)∧TT 1 (AG (iJ c s cl fd sts ps) (j,ch2) (j + 1,ch2)))))) (TT 9 ((ps.map cg = ((bz c s (bc c cl)).procs).map cg∧ch2.map ab = ((bz c s (bc c cl)).chans).map ab∧True)∧fd.map br = (tab (aA c s (bc c cl)) c.procs.length).map br∧True))))))))))))) (.q 1 [2,3,4,6] 3 <| .w 1 [(2,.inl bM (nJ c s cl) ((r6 c s) ++ .dead :: (r7 c s)))] <| .w 2 [(3,.box 4 1 br false (List.replicate c.procs.length false))] <| .w 3 [(3,.box 116 5 Ia pU (List.replicate c.procs.length pU))] <| .l (io c s cl) (0,List.replicate c.procs.length false,List.replicate c.procs.length pU,s.procs,s.chans) (fun ⟨i,fd,sts,ps,ch⟩ => .b 29 (.q 7 [2,3,4,6,8,9,10,11,27,28] 18 <| .w 7 [(2,(Ni c i cl).O)] <| .b 34 (.w 12 [(0,.val (i6 ((i + 1 : Nat) : Int)))] <| .e) (.w 8 [(5,(Nd c s i).O),(7,.box 116 5 Ia pU (sts.set i (af c s i)))] <| .w 9 [(4,.val (dB (gf c s i)))] <| .b 46 (.w 10 [(3,.box 4 1 br false (fd.set i true))] <| .q 11 [2,3,4,6,8,9,10,11,27,28] 18 <| .w 11 [(5,.val (.agg (wN c s i))),(6,.inl (.tup []) (jY c s cl i) ((r8 c s i fd sts ps ch) ++ .dead :: []))] <| .w 12 [(0,.val (i6 ((i + 1 : Nat) : Int)))] <| .e) (.w 12 [(0,.val (i6 ((i + 1 : Nat) : Int)))] <| .e))) (.l (iJ c s cl fd sts ps) (0,ch) (fun ⟨j,ch2⟩ => .b 61 (.b 65 (.q 17 [6,8,9,10,12,58,59,60] 18 <| .w 17 [(5,.val (.agg (oZ c s j))),(6,.inl (.tup []) (iK c s fd j) ((pO c s fd sts ps j ch2) ++ .dead :: []))] <| .w 18 [(0,.val (i6 ((j + 1 : Nat) : Int)))] <| .e) (.w 18 [(0,.val (i6 ((j + 1 : Nat) : Int)))] <| .e)) (.e))))) Try.func49 rfl rfl rfl (by kernel_rfl) ?_
 refine tt ⟨?_,?_⟩
 · intro tm0
   refine fU.vc (V := TT 6 (CO (M5 s.procs)∧TT 2 (CO (M9 s.chans)∧TT 5 ((bM : D) = bM∧([(bB c),(bA s),dX,.frame tm0 (nJ c s cl),(bB c),(bA s),.dead,.dead,.dead,(.arr 113 2 cg bV s.procs),.dead,.dead,(.arr 37 1 ab [] s.chans),.dead,.dead,(er c)] : List aq) = (r6 c s) ++ .frame tm0 (nJ c s cl) :: (r7 c s))))) (.w 1 [(3,(M5 s.procs).O),(6,(M9 s.chans).O)] <| .e) Try.func58 rfl rfl (by kernel_rfl) ?_
   exact tt ⟨(Ea s.procs om),tt ⟨(Eb s.chans om),tt ⟨rfl,rfl⟩⟩⟩
 refine tt ⟨⟨by omega,by simp,fun x hx => by rw [List.eq_of_mem_replicate hx]; exact ⟨rfl,oK⟩⟩,tt ⟨⟨by omega,by simp,fun x hx => by rw [List.eq_of_mem_replicate hx]; exact ⟨rfl,rfl,rfl,rfl,rfl,oK⟩⟩,tt ⟨rfl,⟨by omega,rfl,rfl,rfl,rfl⟩,?_⟩⟩⟩
 intro i fd sts ps ch hinv
 obtain ⟨hi,hfd,hst,hps,hch⟩ := hinv
 have hfl0 : fd.length = c.procs.length := by rw [hfd,eG (by simp; omega)]; simp
 have hsl0 : sts.length = c.procs.length := by rw [hst,eG (by simp; omega)]; simp
 have hpl0 : ps.length = c.procs.length := by rw [hps,eG (by omega)]; omega
 have hchl : ch.length = c.chans.length := by rw [hch,dW]; exact hl2
 refine tt (cd (fun hc29 => ?_) (fun hc29 => ?_))
 · refine tt ⟨(Gf c i cl om),tt ⟨fun hc34 => ?_,fun hc34 => ?_⟩⟩
   · refine ⟨w6,tt ⟨(i + 1,fd,sts,ps,ch),rfl,(?_ : (i + 1) ≤ c.procs.length∧fd = cC (aA c s (bc c cl)) (List.replicate c.procs.length false) (i + 1)∧sts = cC (Jp c s (bc c cl)) (List.replicate c.procs.length pU) (i + 1)∧ps = cC (cM c s (bc c cl)) s.procs (i + 1)∧ch = bp s.chans (iH c s (bc c cl) (i + 1))),(?_ : c.procs.length - (i + 1) < c.procs.length - i)⟩⟩
     · have hno := LP (c := c) (s := s) hc34
       exact ⟨by omega,by rw [hfd]; exact ct (d := false) (by simp; omega) (by rw [hno,cI]),by rw [hst]; exact ct (d := pU) (by simp; omega) (by rw [← LQ hc34,cI]),by rw [hps]; exact ct (d := bV) (by omega) (Jq hno).symm,by rw [hch]; rw [CR hno]⟩
     · omega
   · refine tt ⟨(F8 c s i hc hs (by omega)),⟨ix,⟨⟨om,by simp only [List.map_set]; rfl⟩,tt ⟨ix,tt ⟨⟨⟨om,oK⟩,(by rw [cZ (by omega),if_pos rfl]; rfl)⟩,⟨fun hc46 => ?_,fun hc46 => ?_⟩⟩⟩⟩⟩⟩
     · have hcan : gf c s i = true := hc46
       refine tt ⟨ix,⟨⟨om,by simp only [List.map_set]; rfl⟩,tt ⟨ix,⟨⟨⟨om,oK⟩,(by rw [cZ (by omega),if_pos rfl]; exact ⟨rfl,rfl,rfl,rfl,rfl,oK⟩)⟩,⟨?_,?_⟩⟩⟩⟩⟩
       · intro tm0
         refine fU.vc (V := TT 9 (IX (i : Int) ps.length∧(i < ps.length∧(ps.map cg).set i ((cg (ps.getD i bV)).take 0 ++ [(.sl 1 (aa .i64) 0 (((af c s i).s).regs)),(.sl 1 ab [] (((af c s i).s).mems))] ++ (cg (ps.getD i bV)).drop (0 + 2)) = (ps.set i ((af c s i).s)).map cg)∧TT 4 (GO (jZ c s cl i fd sts ps ch tm0) (0,ch) (∀ k dr,(jZ c s cl i fd sts ps ch tm0).inv (k,dr) → TT 1 (CD ((k : Int) < ((((af c s i).pops).length : Nat) : Int)) (TT 1 (IX (k : Int) (((af c s i).pops).length)∧TT 4 (CB ((((af c s i).pops).getD k false)) (TT 7 (IX (i : Int) c.procs.length∧TT 3 (IX (k : Int) (((c.procs.getD i ac).takes).length)∧TT 2 (vC Try.prog 68 [bM,(i6 ((((c.procs.getD i ac).takes).getD k aR).chan)),(.fn (.func 69) [] [])] (Ei c s cl i fd sts ps tm0 dr) (kQ c s i k) (pN c s cl i fd sts ps tm0 k dr) [] (.tup [])∧W6 ((k + 1 : Nat) : Int)∧TT 1 (AG (jZ c s cl i fd sts ps ch tm0) (k,dr) (k + 1,dr.set (((((c.procs.getD i ac).takes).getD k aR).chan).toNat) ((dr.getD (((((c.procs.getD i ac).takes).getD k aR).chan).toNat) []).drop 1))))))) (W6 ((k + 1 : Nat) : Int)∧TT 1 (AG (jZ c s cl i fd sts ps ch tm0) (k,dr) (k + 1,dr)))))) (True∧([(bB c),(bA s),dX,.dead,(bB c),(bA s),.dead,.dead,.dead,(rZ ps i c s),.dead,.dead,(.arr 37 1 ab [] dr),.dead,.dead,(er c),(pL fd i),(pM sts i c s),.frame tm0 (jY c s cl i)] : List aq) = (r8 c s i fd sts ps ch) ++ .frame tm0 (jY c s cl i) :: [])))))) (.w 1 [(9,.box 113 2 cg bV (ps.set i ((af c s i).s)))] <| .l (jZ c s cl i fd sts ps ch tm0) (0,ch) (fun ⟨k,dr⟩ => .b 21 (.b 25 (.q 6 [0,1,6,18,19,20] 29 <| .w 6 [(14,.inl (.tup []) (kQ c s i k) ((pN c s cl i fd sts ps tm0 k dr) ++ .dead :: []))] <| .w 7 [(0,.val (i6 ((k + 1 : Nat) : Int)))] <| .e) (.w 7 [(0,.val (i6 ((k + 1 : Nat) : Int)))] <| .e)) (.e))) Try.func60 rfl rfl (by kernel_rfl) ?_
         have hpl : (af c s i).pops.length = (c.procs.getD i ac).takes.length := oX _ _ _ _
         have ht1 : (c.procs.getD i ac).takes.length ≤ 100 := (hc.pr i (by omega)).tl
         refine tt ⟨ix,⟨⟨om,by simp only [List.map_set]; rfl⟩,tt ⟨rfl,⟨by omega,rfl⟩,?_⟩⟩⟩
         intro k dr hinv
         obtain ⟨hk,hdr⟩ := hinv
         have hdl : dr.length = c.chans.length := by rw [hdr,dW,hchl]
         refine tt (cd (fun hc21 => ?_) (fun hc21 => ?_))
         · refine tt ⟨ix,tt ⟨fun hc25 => ?_,fun hc25 => ?_⟩⟩
           · have hkt : k < (c.procs.getD i ac).takes.length := by omega
             have htk : 0 ≤ ((c.procs.getD i ac).takes.getD k aR).chan∧((c.procs.getD i ac).takes.getD k aR).chan < c.chans.length := ⟨(hc.tk i (by omega) k hkt).1,(hc.tk i (by omega) k hkt).2.1⟩
             have hfl : 1 ≤ (dr.getD ((c.procs.getD i ac).takes.getD k aR).chan.toNat []).length := by
               rw [hdr,hch,sK]
               exact Gd hc hl2 (by omega) hcan hkt hc25
             refine tt ⟨ix,tt ⟨ix,tt ⟨?_,?_⟩⟩⟩
             · intro tm1
               refine fU.vc (V := TT 13 (IX ((((c.procs.getD i ac).takes).getD k aR).chan) dr.length∧(((((c.procs.getD i ac).takes).getD k aR).chan).toNat < dr.length∧True)∧CC (Ng (dr.getD (((((c.procs.getD i ac).takes).getD k aR).chan).toNat) []))∧IX ((((c.procs.getD i ac).takes).getD k aR).chan) dr.length∧(((((c.procs.getD i ac).takes).getD k aR).chan).toNat < dr.length∧(dr.map ab).set (((((c.procs.getD i ac).takes).getD k aR).chan).toNat) ((ab (dr.getD (((((c.procs.getD i ac).takes).getD k aR).chan).toNat) [])).take 0 ++ [(.sl 1 (aa .i64) 0 ((dr.getD (((((c.procs.getD i ac).takes).getD k aR).chan).toNat) []).drop 1))] ++ (ab (dr.getD (((((c.procs.getD i ac).takes).getD k aR).chan).toNat) [])).drop (0 + 1)) = (dr.set (((((c.procs.getD i ac).takes).getD k aR).chan).toNat) ((dr.getD (((((c.procs.getD i ac).takes).getD k aR).chan).toNat) []).drop 1)).map ab)∧True∧([(bB c),(bA s),dX,.dead,(bB c),(bA s),.dead,.dead,.dead,(rZ ps i c s),.dead,.dead,(.arr 37 1 ab [] (dr.set (((((c.procs.getD i ac).takes).getD k aR).chan).toNat) ((dr.getD (((((c.procs.getD i ac).takes).getD k aR).chan).toNat) []).drop 1))),.dead,.dead,(er c),(pL fd i),(pM sts i c s),(.frame tm0 (CW c s i cl)),(.var 116 (wN c s i)),.dead,.dead,.dead,.dead,.dead,.dead,.dead,.dead,.dead,.frame tm1 (kQ c s i k)] : List aq) = (pN c s cl i fd sts ps tm0 k dr) ++ .frame tm1 (kQ c s i k) :: [])) (.w 0 [(15,(Ng (dr.getD (((((c.procs.getD i ac).takes).getD k aR).chan).toNat) [])).O),(17,.box 37 1 ab [] (dr.set (((((c.procs.getD i ac).takes).getD k aR).chan).toNat) ((dr.getD (((((c.procs.getD i ac).takes).getD k aR).chan).toNat) []).drop 1)))] <| .e) Try.func68 rfl rfl (by kernel_rfl) ?_
               exact tt ⟨ix,⟨⟨om,oK⟩,⟨(Ef (dr.getD (((((c.procs.getD i ac).takes).getD k aR).chan).toNat) []) om),⟨ix,⟨⟨om,by simp only [List.map_set]; rfl⟩,⟨oK,rfl⟩⟩⟩⟩⟩⟩
             refine ⟨w6,tt ⟨(k + 1,dr.set (((((c.procs.getD i ac).takes).getD k aR).chan).toNat) ((dr.getD (((((c.procs.getD i ac).takes).getD k aR).chan).toNat) []).drop 1)),rfl,?_,(?_ : (af c s i).pops.length - (k + 1) < (af c s i).pops.length - k)⟩⟩
             · exact ⟨by omega,by rw [CT hc25,hdr]; exact (xO _ _ _).symm⟩
             · omega
           · refine ⟨w6,tt ⟨(k + 1,dr),rfl,?_,(?_ : (af c s i).pops.length - (k + 1) < (af c s i).pops.length - k)⟩⟩
             · exact ⟨by omega,by rw [Gc hc25,hdr]⟩
             · omega
         · refine ⟨oK,congrArg (fun (z0 : List (List Int)) => ([(bB c),(bA s),dX,.dead,(bB c),(bA s),.dead,.dead,.dead,(rZ ps i c s),.dead,.dead,(.arr 37 1 ab [] z0),.dead,.dead,(er c),(pL fd i),(pM sts i c s),.frame tm0 (jY c s cl i)] : List aq)) (?_ : dr = (bp ch (lN (c.procs.getD i ac) (af c s i) (c.procs.getD i ac).takes.length)))⟩
           rw [hdr,show k = (c.procs.getD i ac).takes.length by omega]
       refine ⟨w6,tt ⟨(i + 1,fd.set i true,sts.set i (af c s i),ps.set i ((af c s i).s),bp ch (lN (c.procs.getD i ac) (af c s i) (c.procs.getD i ac).takes.length)),rfl,(?_ : (i + 1) ≤ c.procs.length∧(fd.set i true) = cC (aA c s (bc c cl)) (List.replicate c.procs.length false) (i + 1)∧(sts.set i (af c s i)) = cC (Jp c s (bc c cl)) (List.replicate c.procs.length pU) (i + 1)∧(ps.set i ((af c s i).s)) = cC (cM c s (bc c cl)) s.procs (i + 1)∧(bp ch (lN (c.procs.getD i ac) (af c s i) (c.procs.getD i ac).takes.length)) = bp s.chans (iH c s (bc c cl) (i + 1))),(?_ : c.procs.length - (i + 1) < c.procs.length - i)⟩⟩
       · have hno := Kp hc34 hcan
         exact ⟨by omega,by rw [hfd]; exact ca (by simp; omega) hno,by rw [hst]; exact ca (by simp; omega) (F9 hc34).symm,by rw [hps]; exact ca (by omega) (Kq hno).symm,by rw [hch]; rw [Ga hno,sK]⟩
       · omega
     · refine ⟨w6,tt ⟨(i + 1,fd,sts.set i (af c s i),ps,ch),rfl,(?_ : (i + 1) ≤ c.procs.length∧fd = cC (aA c s (bc c cl)) (List.replicate c.procs.length false) (i + 1)∧(sts.set i (af c s i)) = cC (Jp c s (bc c cl)) (List.replicate c.procs.length pU) (i + 1)∧ps = cC (cM c s (bc c cl)) s.procs (i + 1)∧ch = bp s.chans (iH c s (bc c cl) (i + 1))),(?_ : c.procs.length - (i + 1) < c.procs.length - i)⟩⟩
       · have hno := Ko (w := (bc c cl)) hc46
         exact ⟨by omega,by rw [hfd]; exact ct (d := false) (by simp; omega) (by rw [hno,cI]),by rw [hst]; exact ca (by simp; omega) (F9 hc34).symm,by rw [hps]; exact ct (d := bV) (by omega) (Jq hno).symm,by rw [hch]; rw [CR hno]⟩
       · omega
 · have hie : i = c.procs.length := by omega
   refine tt ⟨rfl,⟨by omega,by rw [hch,hie]; rfl⟩,?_⟩
   intro j ch2 hinv
   obtain ⟨hj,hch2⟩ := hinv
   have hchl2 : ch2.length = c.chans.length := by rw [hch2,dg,dW]; exact hl2
   refine tt (cd (fun hc61 => ?_) (fun hc61 => ?_))
   · refine tt ⟨ix,⟨⟨om,oK⟩,tt ⟨fun hc65 => ?_,fun hc65 => ?_⟩⟩⟩
     · have hc65' : aA c s (bc c cl) j = true := by rw [← hc65,hfd,my,if_pos (by omega)]
       have hsj : sts.getD j pU = af c s j := by rw [hst,my,if_pos (by omega)]; exact if_pos (Nf hc65').1
       refine tt ⟨ix,⟨⟨⟨om,oK⟩,(by rw [hsj]; exact ⟨rfl,rfl,rfl,rfl,rfl,oK⟩)⟩,⟨?_,?_⟩⟩⟩
       · intro tm0
         refine fU.vc (V := TT 5 (GO (iL c s fd sts ps j ch2 tm0) (0,ch2) (∀ m em,(iL c s fd sts ps j ch2 tm0).inv (m,em) → TT 1 (CD ((m : Int) < ((((af c s j).puts).length : Nat) : Int)) (TT 1 (IX (m : Int) (((af c s j).puts).length)∧TT 6 (CB ((((af c s j).puts).getD m aP).has) (TT 7 (IX (j : Int) c.procs.length∧TT 3 (IX (m : Int) (((c.procs.getD j ac).puts).length)∧TT 4 (ao [[(i6 ((((af c s j).puts).getD m aP).v))]] ([(((af c s j)).puts.getD m aP).v].map (aa .i64))∧vC Try.prog 70 [bM,(u2 c j m),(LI [(((af c s j)).puts.getD m aP).v])] (Be c s fd sts ps j tm0 m em) (kR c s j m) (pQ c s fd sts ps j tm0 m em) [] (.tup [])∧W6 ((m + 1 : Nat) : Int)∧TT 1 (AG (iL c s fd sts ps j ch2 tm0) (m,em) (m + 1,em.set (((((c.procs.getD j ac).puts).getD m aN).chan).toNat) ((em.getD (((((c.procs.getD j ac).puts).getD m aN).chan).toNat) []) ++ [(((af c s j)).puts.getD m aP).v]))))))) (W6 ((m + 1 : Nat) : Int)∧TT 1 (AG (iL c s fd sts ps j ch2 tm0) (m,em) (m + 1,em)))))) (True∧([(bB c),(bA s),dX,.dead,(bB c),(bA s),.dead,.dead,.dead,(fp ps),.dead,.dead,(.arr 37 1 ab [] em),.dead,.dead,(er c),(gi fd),(gj sts),.frame tm0 (iK c s fd j)] : List aq) = (pO c s fd sts ps j ch2) ++ .frame tm0 (iK c s fd j) :: []))))) (.l (iL c s fd sts ps j ch2 tm0) (0,ch2) (fun ⟨m,em⟩ => .b 12 (.b 17 (.q 5 [0,1,6,7,9,10,11] 21 <| .w 5 [(16,.box 3 1 (aa .i64) 0 [(((af c s j)).puts.getD m aP).v]),(17,.inl (.tup []) (kR c s j m) ((pQ c s fd sts ps j tm0 m em) ++ .dead :: []))] <| .w 6 [(0,.val (i6 ((m + 1 : Nat) : Int)))] <| .e) (.w 6 [(0,.val (i6 ((m + 1 : Nat) : Int)))] <| .e)) (.e))) Try.func61 rfl rfl (by kernel_rfl) ?_
         have hpl : (af c s j).puts.length = (c.procs.getD j ac).puts.length := jy _ _ _ _
         have ht1 : (c.procs.getD j ac).puts.length ≤ 100 := (hc.pr j (by omega)).pl
         refine tt ⟨rfl,⟨by omega,rfl⟩,?_⟩
         intro m em hinv
         obtain ⟨hm,hem⟩ := hinv
         have hel : em.length = c.chans.length := by rw [hem,dg,hchl2]
         refine tt (cd (fun hc12 => ?_) (fun hc12 => ?_))
         · refine tt ⟨ix,tt ⟨fun hc17 => ?_,fun hc17 => ?_⟩⟩
           · have hkt : m < (c.procs.getD j ac).puts.length := by omega
             have htk : 0 ≤ ((c.procs.getD j ac).puts.getD m aN).chan∧((c.procs.getD j ac).puts.getD m aN).chan < c.chans.length := ⟨(hc.pt j (by omega) m hkt).1,(hc.pt j (by omega) m hkt).2.1⟩
             have hfl : (em.getD ((c.procs.getD j ac).puts.getD m aN).chan.toNat []).length + 1 ≤ 137438953472 := by
               rw [hem,hch2,sL]
               exact IA hc hl2 hsm (show j < c.procs.length by omega) (show m ≤ (c.procs.getD j ac).puts.length by omega) (show ((c.procs.getD j ac).puts.getD m aN).chan.toNat < c.chans.length by omega)
             refine tt ⟨ix,tt ⟨ix,tt ⟨⟨⟨rfl,oK⟩,oK⟩,⟨?_,?_⟩⟩⟩⟩
             · intro tm1
               refine fU.vc (V := TT 4 (vC Try.prog 68 [bM,(u2 c j m),(.fn (.func 75) [] [(.iptr [(.sl 1 (aa .i64) 0 [(((af c s j)).puts.getD m aP).v])] 0)])] (Bf c s fd sts ps j tm0 m em tm1) (kS c s j m) (pP c s fd sts ps j tm0 m em tm1) [] (.tup [])∧True∧([(bB c),(bA s),dX,.dead,(bB c),(bA s),.dead,.dead,.dead,(fp ps),.dead,.dead,(CX em c j m s),.dead,.dead,(er c),(gi fd),(gj sts),(.frame tm0 (sM c s j fd)),(.var 116 (oZ c s j)),(rY c s j m),.dead,.dead,.dead,.dead,.dead,.dead,.dead,.dead,.dead,.dead,.dead,.dead,.dead,.dead,.dead,.dead,.dead,.frame tm1 (kR c s j m)] : List aq) = (pQ c s fd sts ps j tm0 m em) ++ .frame tm1 (kR c s j m) :: [])) (.q 1 [0,1,5] 40 <| .f 1 39 <| .w 1 [(3,.inl (.tup []) (kS c s j m) ((pP c s fd sts ps j tm0 m em tm1) ++ .dead :: []))] <| .e) Try.func70 rfl rfl (by kernel_rfl) ?_
               refine tt ⟨?_,?_⟩
               · intro tm2
                 refine fU.vc (V := TT 13 (IX ((((c.procs.getD j ac).puts).getD m aN).chan) em.length∧(((((c.procs.getD j ac).puts).getD m aN).chan).toNat < em.length∧True)∧CC (Nh (em.getD (((((c.procs.getD j ac).puts).getD m aN).chan).toNat) []) [(((af c s j)).puts.getD m aP).v])∧IX ((((c.procs.getD j ac).puts).getD m aN).chan) em.length∧(((((c.procs.getD j ac).puts).getD m aN).chan).toNat < em.length∧(em.map ab).set (((((c.procs.getD j ac).puts).getD m aN).chan).toNat) ((ab (em.getD (((((c.procs.getD j ac).puts).getD m aN).chan).toNat) [])).take 0 ++ [(.sl 1 (aa .i64) 0 ((em.getD (((((c.procs.getD j ac).puts).getD m aN).chan).toNat) []) ++ [(((af c s j)).puts.getD m aP).v]))] ++ (ab (em.getD (((((c.procs.getD j ac).puts).getD m aN).chan).toNat) [])).drop (0 + 1)) = (em.set (((((c.procs.getD j ac).puts).getD m aN).chan).toNat) ((em.getD (((((c.procs.getD j ac).puts).getD m aN).chan).toNat) []) ++ [(((af c s j)).puts.getD m aP).v])).map ab)∧True∧([(bB c),(bA s),dX,.dead,(bB c),(bA s),.dead,.dead,.dead,(fp ps),.dead,.dead,(CX em c j m s),.dead,.dead,(er c),(gi fd),(gj sts),(.frame tm0 (sM c s j fd)),(.var 116 (oZ c s j)),(rY c s j m),.dead,.dead,.dead,.dead,.dead,.dead,.dead,.dead,.dead,.dead,.dead,.dead,.dead,.dead,.dead,.dead,.dead,(.frame tm1 (CV j m c s)),.dead,.frame tm2 (kS c s j m)] : List aq) = (pP c s fd sts ps j tm0 m em tm1) ++ .frame tm2 (kS c s j m) :: [])) (.w 0 [(15,(Nh (em.getD (((((c.procs.getD j ac).puts).getD m aN).chan).toNat) []) [(((af c s j)).puts.getD m aP).v]).O),(17,.box 37 1 ab [] (em.set (((((c.procs.getD j ac).puts).getD m aN).chan).toNat) ((em.getD (((((c.procs.getD j ac).puts).getD m aN).chan).toNat) []) ++ [(((af c s j)).puts.getD m aP).v])))] <| .e) Try.func68 rfl rfl (by kernel_rfl) ?_
                 exact tt ⟨ix,⟨⟨om,oK⟩,⟨(Bc (em.getD (((((c.procs.getD j ac).puts).getD m aN).chan).toNat) []) [(((af c s j)).puts.getD m aP).v] om),⟨ix,⟨⟨om,by simp only [List.map_set]; rfl⟩,⟨oK,rfl⟩⟩⟩⟩⟩⟩
               exact ⟨oK,rfl⟩
             refine ⟨w6,tt ⟨(m + 1,em.set (((((c.procs.getD j ac).puts).getD m aN).chan).toNat) ((em.getD (((((c.procs.getD j ac).puts).getD m aN).chan).toNat) []) ++ [(((af c s j)).puts.getD m aP).v])),rfl,?_,(?_ : (af c s j).puts.length - (m + 1) < (af c s j).puts.length - m)⟩⟩
             · exact ⟨by omega,by rw [xT hc17,hem]; exact (kP _ _ _ _).symm⟩
             · omega
           · refine ⟨w6,tt ⟨(m + 1,em),rfl,?_,(?_ : (af c s j).puts.length - (m + 1) < (af c s j).puts.length - m)⟩⟩
             · exact ⟨by omega,by rw [Bb hc17,hem]⟩
             · omega
         · refine ⟨oK,congrArg (fun (z0 : List (List Int)) => ([(bB c),(bA s),dX,.dead,(bB c),(bA s),.dead,.dead,.dead,(fp ps),.dead,.dead,(.arr 37 1 ab [] z0),.dead,.dead,(er c),(gi fd),(gj sts),.frame tm0 (iK c s fd j)] : List aq)) (?_ : em = (bG ch2 (ny (c.procs.getD j ac) (af c s j) (c.procs.getD j ac).puts.length)))⟩
           rw [hem,show m = (c.procs.getD j ac).puts.length by omega]
       refine ⟨w6,tt ⟨(j + 1,bG ch2 (ny (c.procs.getD j ac) (af c s j) (c.procs.getD j ac).puts.length)),rfl,?_,(?_ : c.procs.length - (j + 1) < c.procs.length - j)⟩⟩
       · exact ⟨by omega,by rw [hch2]; rw [Gb hc65',sL]⟩
       · omega
     · have hc65' : aA c s (bc c cl) j = false := by rw [← hc65,hfd,my,if_pos (by omega)]
       refine ⟨w6,tt ⟨(j + 1,ch2),rfl,?_,(?_ : c.procs.length - (j + 1) < c.procs.length - j)⟩⟩
       · exact ⟨by omega,by rw [hch2]; rw [Iy hc65']⟩
       · omega
   · have hje : j = c.procs.length := by omega
     refine tt ⟨⟨(congrArg _ (?_ : ps = ((bz c s (bc c cl)).procs))),(congrArg _ (?_ : ch2 = ((bz c s (bc c cl)).chans))),oK⟩,(congrArg _ (?_ : fd = (tab (aA c s (bc c cl)) c.procs.length))),oK⟩
     · rw [hps,hie,dz (by omega)]; rfl
     · rw [hch2,hje]; exact D8 hc hl2
     · rw [hfd,hie,dz (by simp)]
end Go.Proofs.Ytckgpflobhpnpaa
