/-
  Package network: firing.
-/
import Derived.Test.YtckgpflobhpnpaaGreatQNeG
import Derived.Test.YtckgpflobhpnpaaGreatQNeH
namespace Go.Proofs.YtckgpflobhpnpaaGreat
open Go.RowKit
set_option linter.unusedVariables false
set_option linter.unusedSimpArgs false
abbrev oW (c : Ci) (s : Ns) (j : Nat) : List D := [(dB ((ae c s j).fires)),(LI (((ae c s j).s).regs)),(dL 1 ac [] (((ae c s j).s).mems)),(LB ((ae c s j).pops)),(dL 2 cB aO ((ae c s j).puts))]
abbrev bM : D := (.ptr 15 0 0 0)
abbrev sM (c : Ci) (s : Ns) (j : Nat) (fd : List Bool) : List (Nat × D) := [(71,(.agg (oW c s j))),(70,(.ptr 17 j 5 0)),(69,(i6 (j : Int))),(68,(.own 17)),(67,(i6 (j : Int))),(66,bM),(6,(.ptr 2 0 0 0)),(8,bM),(9,(.own 16)),(10,(.own 17)),(12,(i6 (j : Int))),(58,(.own 16)),(59,(i6 (fd.length : Int))),(60,(i6 (j : Int)))]
abbrev uY (c : Ci) (j m : Nat) : D := (i6 ((((c.procs.getD j ab).puts).getD m aL).chan))
abbrev CI (j m : Nat) (c : Ci) (s : Ns) : List (Nat × D) := [(0,bM),(1,(i6 (j : Int))),(6,(i6 (m : Int))),(7,(.ptr 20 0 0 0)),(9,(dL 2 cB aO ((ae c s j).puts))),(10,(i6 ((((ae c s j).puts).length : Nat) : Int))),(11,(i6 (m : Int))),(18,bM),(19,bM),(20,bM),(21,bM),(22,bM),(23,(dL 6 gL ab c.procs)),(24,(i6 (j : Int))),(25,(.iptr (gL (c.procs.getD j ab)) 0)),(26,(.iptr (gL (c.procs.getD j ab)) 5)),(27,(dL 16 oo aL ((c.procs.getD j ab).puts))),(28,(i6 (m : Int))),(29,(.iptr (oo (((c.procs.getD j ab).puts).getD m aL)) 0)),(30,(.iptr (oo (((c.procs.getD j ab).puts).getD m aL)) 0)),(31,(uY c j m)),(32,(.ptr 20 0 0 1)),(33,(i6 ((((ae c s j).puts).getD m aO).v))),(34,(LI [(((ae c s j)).puts.getD m aO).v]))]
abbrev xR (s : Ns) : List D := [(dL 2 ca bS s.procs),(dL 1 ac [] s.chans)]
abbrev bH (s : Ns) : ao := (.var 70 (xR s))
abbrev xS (c : Ci) : List D := [(dL 6 gL ab c.procs),(dL 5 ee bk c.chans)]
abbrev bI (c : Ci) : ao := (.var 33 (xS c))
abbrev wI (c : Ci) (s : Ns) (i : Nat) : List D := [(dB ((ae c s i).fires)),(LI (((ae c s i).s).regs)),(dL 1 ac [] (((ae c s i).s).mems)),(LB ((ae c s i).pops)),(dL 2 cB aO ((ae c s i).puts))]
abbrev eE (c : Ci) : ao := (.var 141 [(dL 6 gL ab c.procs),(dL 5 ee bk c.chans),(.own 9),(.own 12)])
abbrev xT (c : Ci) (cl : ByteArray) : D := (.fn (.func 102) [] [(.iptr [(.sl 6 gL ab c.procs),(.sl 5 ee bk c.chans)] 0),(.iptr [(.str cl)] 0)])
abbrev CJ (c : Ci) (s : Ns) (i : Nat) (cl : ByteArray) : List (Nat × D) := [(55,(.agg (wI c s i))),(54,(.ptr 17 i 5 0)),(53,(i6 (i : Int))),(52,(.own 17)),(51,(i6 (i : Int))),(50,bM),(2,(xT c cl)),(3,(.ptr 0 0 0 0)),(4,(.ptr 1 0 0 0)),(6,(.ptr 2 0 0 0)),(8,bM),(9,(.own 16)),(10,(.own 17)),(11,(i6 (i : Int))),(27,(i6 (c.procs.length : Int))),(28,(i6 (i : Int)))]
abbrev CL (em : List (List Int)) (c : Ci) (j m : Nat) (s : Ns) : ao := (.arr 42 1 ac [] (em.set (((((c.procs.getD j ab).puts).getD m aL).chan).toNat) ((em.getD (((((c.procs.getD j ab).puts).getD m aL).chan).toNat) []) ++ [(((ae c s j)).puts.getD m aO).v])))
abbrev rU (c : Ci) (s : Ns) (j m : Nat) : ao := (.var 115 [(dB ((((ae c s j).puts).getD m aO).has)),(i6 ((((ae c s j).puts).getD m aO).v))])
abbrev cC : ao := (.var 70 [.nils,.nils])
abbrev gf (ps : List Ps) : ao := (.arr 56 2 ca bS ps)
abbrev gT (fd : List Bool) : ao := (.arr 4 1 br false fd)
abbrev gU (sts : List Fi) : ao := (.arr 101 5 H7 pT sts)
abbrev Gd (c : Ci) (s : Ns) (ps : List Ps) (ch2 : List (List Int)) (fd : List Bool) (sts : List Fi) : List ao := [(bI c),(bH s),cC,.dead,(bI c),(bH s),.dead,.dead,.dead,(gf ps),.dead,.dead,(.arr 42 1 ac [] ch2),.dead,.dead,(eE c),(gT fd),(gU sts)]
abbrev pJ (sts : List Fi) (i : Nat) (c : Ci) (s : Ns) : ao := (.arr 101 5 H7 pT (sts.set i (ae c s i)))
abbrev rV (ps : List Ps) (i : Nat) (c : Ci) (s : Ns) : ao := (.arr 56 2 ca bS (ps.set i ((ae c s i).s)))
abbrev pK (fd : List Bool) (i : Nat) : ao := (.arr 4 1 br false (fd.set i true))
abbrev Ge (c : Ci) (s : Ns) (j m : Nat) : D := (.fn (.func 87) [] [(.iptr [(.sl 1 (aa .i64) 0 [(((ae c s j)).puts.getD m aO).v])] 0)])
abbrev Kt (c : Ci) (s : Ns) (ps : List Ps) (em : List (List Int)) (fd : List Bool) (sts : List Fi) (tm0 : Array Value) (j m : Nat) (tm1 : Array Value) : List ao := [(bI c),(bH s),cC,.dead,(bI c),(bH s),.dead,.dead,.dead,(gf ps),.dead,.dead,(.arr 42 1 ac [] em),.dead,.dead,(eE c),(gT fd),(gU sts),(.frame tm0 (sM c s j fd)),(.var 101 (oW c s j)),(rU c s j m),.dead,.dead,.dead,.dead,.dead,.dead,.dead,.dead,.dead,.dead,.dead,.dead,.dead,.dead,.dead,.dead,.dead,(.frame tm1 (CI j m c s)),.dead]
abbrev Ku (c : Ci) (s : Ns) (ps : List Ps) (em : List (List Int)) (j m : Nat) (fd : List Bool) (sts : List Fi) (tm0 tm1 : Array Value) : List ao := [(bI c),(bH s),cC,.dead,(bI c),(bH s),.dead,.dead,.dead,(gf ps),.dead,.dead,(CL em c j m s),.dead,.dead,(eE c),(gT fd),(gU sts),(.frame tm0 (sM c s j fd)),(.var 101 (oW c s j)),(rU c s j m),.dead,.dead,.dead,.dead,.dead,.dead,.dead,.dead,.dead,.dead,.dead,.dead,.dead,.dead,.dead,.dead,.dead,(.frame tm1 (CI j m c s)),.dead]
abbrev Kv (c : Ci) (s : Ns) (ps : List Ps) (em : List (List Int)) (fd : List Bool) (sts : List Fi) (tm0 : Array Value) (j m : Nat) : List ao := [(bI c),(bH s),cC,.dead,(bI c),(bH s),.dead,.dead,.dead,(gf ps),.dead,.dead,(.arr 42 1 ac [] em),.dead,.dead,(eE c),(gT fd),(gU sts),(.frame tm0 (sM c s j fd)),(.var 101 (oW c s j)),(rU c s j m),.dead,.dead,.dead,.dead,.dead,.dead,.dead,.dead,.dead,.dead,.dead,.dead,.dead,.dead,.dead,.dead,.dead]
abbrev Kw (c : Ci) (s : Ns) (ps : List Ps) (em : List (List Int)) (j m : Nat) (fd : List Bool) (sts : List Fi) (tm0 : Array Value) : List ao := [(bI c),(bH s),cC,.dead,(bI c),(bH s),.dead,.dead,.dead,(gf ps),.dead,.dead,(CL em c j m s),.dead,.dead,(eE c),(gT fd),(gU sts),(.frame tm0 (sM c s j fd)),(.var 101 (oW c s j)),(rU c s j m),.dead,.dead,.dead,.dead,.dead,.dead,.dead,.dead,.dead,.dead,.dead,.dead,.dead,.dead,.dead,.dead,.dead]
abbrev Kx (c : Ci) (s : Ns) (ps : List Ps) (i : Nat) (ch : List (List Int)) (fd : List Bool) (sts : List Fi) : List ao := [(bI c),(bH s),cC,.dead,(bI c),(bH s),.dead,.dead,.dead,(rV ps i c s),.dead,.dead,(.arr 42 1 ac [] (bp ch (lH (c.procs.getD i ab) (ae c s i) (c.procs.getD i ab).takes.length))),.dead,.dead,(eE c),(pK fd i),(pJ sts i c s)]
abbrev Ky (c : Ci) (s : Ns) (ps : List Ps) (ch2 : List (List Int)) (j : Nat) (fd : List Bool) (sts : List Fi) : List ao := [(bI c),(bH s),cC,.dead,(bI c),(bH s),.dead,.dead,.dead,(gf ps),.dead,.dead,(.arr 42 1 ac [] (bD ch2 (nr (c.procs.getD j ab) (ae c s j) (c.procs.getD j ab).puts.length))),.dead,.dead,(eE c),(gT fd),(gU sts)]
abbrev Gf (c : Ci) (s : Ns) (ps : List Ps) (i : Nat) (dr : List (List Int)) (fd : List Bool) (sts : List Fi) (tm0 : Array Value) (cl : ByteArray) : List ao := [(bI c),(bH s),cC,.dead,(bI c),(bH s),.dead,.dead,.dead,(rV ps i c s),.dead,.dead,(.arr 42 1 ac [] dr),.dead,.dead,(eE c),(pK fd i),(pJ sts i c s),(.frame tm0 (CJ c s i cl)),(.var 101 (wI c s i)),.dead,.dead,.dead,.dead,.dead,.dead,.dead,.dead,.dead]
abbrev Kz (c : Ci) (s : Ns) (j m : Nat) : List (Nat × D) := [(8,(Ge c s j m)),(7,(uY c j m)),(6,bM),(0,bM),(1,(uY c j m)),(5,(.iptr [(.sl 1 (aa .i64) 0 [(((ae c s j)).puts.getD m aO).v])] 0))]
set_option maxRecDepth 100000
abbrev KA (l : List Int) : Ct := ⟨119,[(LI l)],true,(LI (l.drop 1))⟩
theorem D6 (l : List Int) (h : 1 ≤ l.length) : CC (KA l) := by
 refine ah.vc (V := TT 2 ((0 ≤ (1 : Int)∧(1 : Int) ≤ (l.length : Int)∧(l.length : Int) ≤ (l.length : Int))∧TT 2 ((l.drop 1).map (aa .i64) = (l.drop 1).map (aa .i64)))) (.e) Tryz.func119 rfl rfl rfl (by kernel_rfl) ?_
 exact tt ⟨om,tt rfl⟩
abbrev NJ (l ws : List Int) : Ct := ⟨87,[(LI l),(.iptr [(.sl 1 (aa .i64) 0 ws)] 0)],true,(LI (l ++ ws))⟩
theorem A8 (l ws : List Int) (h : l.length + ws.length ≤ 137438953472) : CC (NJ l ws) := by
 refine ah.vc (V := TT 3 (an [[(LI l)],[(LI ws)]] ([l,ws].map ac)∧CK (NF [l,ws])∧TT 2 (([l,ws].flatten).map (aa .i64) = (l ++ ws).map (aa .i64)))) (.w 1 [(2,.box 42 1 ac [] [l,ws]),(3,(NF [l,ws]).O')] <| .e) Tryz.func87 rfl rfl rfl (by kernel_rfl) ?_
 refine tt ⟨⟨⟨rfl,oK⟩,⟨rfl,oK⟩,oK⟩,⟨⟨dK _ rfl,(D3 [l,ws] (by simp) (by simpa using h))⟩,tt (congrArg _ (?_ : ([l,ws].flatten) = (l ++ ws)))⟩⟩
 simp
abbrev KB (c : Ci) (q : Nat) (cl : ByteArray) : Ct := ⟨102,[(i6 (q : Int)),(.iptr [(.sl 6 gL ab c.procs),(.sl 5 ee bk c.chans)] 0),(.iptr [(.str cl)] 0)],false,(dB (a6 c cl q))⟩
theorem Gg (c : Ci) (q : Nat) (cl : ByteArray) (hq : q < c.procs.length) : CC (KB c q cl) := by
 refine ah.vc (V := TT 4 (IX (q : Int) c.procs.length∧TT 6 ((((c.procs.getD q ab).clock).toList == cl.toList) = (a6 c cl q)∧True))) (.e) Tryz.func102 rfl rfl rfl (by kernel_rfl) ?_
 refine tt ⟨ix,tt ⟨?_,oK⟩⟩
 rfl
abbrev KC (c : Ci) (s : Ns) (cl : ByteArray) : Ct := ⟨90,[(.agg (xS c)),(.agg (xR s)),(xT c cl)],true,(.tup [(.agg [(dL 2 ca bS ((bv c s (a6 c cl)).procs)),(dL 1 ac [] ((bv c s (a6 c cl)).chans))]),(LB (tab (ay c s (a6 c cl)) c.procs.length))])⟩
abbrev D7 (c : Ci) (s : Ns) : List ao := [(bI c),(bH s),cC]
abbrev nA (c : Ci) (s : Ns) (cl : ByteArray) : List (Nat × D) := [(15,(.agg (xR s))),(14,(.agg (xS c))),(2,(xT c cl)),(3,(.ptr 0 0 0 0)),(4,(.ptr 1 0 0 0)),(6,(.ptr 2 0 0 0))]
abbrev rX (c : Ci) (s : Ns) : List ao := [(bI c),(bH s),cC]
abbrev rY (c : Ci) (s : Ns) : List ao := [(bI c),(bH s),.dead,.dead,.dead,(.arr 56 2 ca bS s.procs),.dead,.dead,(.arr 42 1 ac [] s.chans),.dead,.dead,(eE c)]
abbrev ir (c : Ci) (s : Ns) (cl : ByteArray) : Lp (Nat × List Bool × List Fi × List Ps × List (List Int)) := Om [2,3,4,6,8,9,10,27,28] 18 (fun (i : Nat) (fd : List Bool) (sts : List Fi) (ps : List Ps) (ch : List (List Int)) => ⟨[(2,(xT c cl)),(3,(.ptr 0 0 0 0)),(4,(.ptr 1 0 0 0)),(6,(.ptr 2 0 0 0)),(8,bM),(9,(.own 16)),(10,(.own 17)),(27,(i6 (c.procs.length : Int))),(28,(i6 (i : Int)))],[(bI c),(bH s),cC,.dead,(bI c),(bH s),.dead,.dead,.dead,(gf ps),.dead,.dead,(.arr 42 1 ac [] ch),.dead,.dead,(eE c),(gT fd),(gU sts)]⟩) (fun (i : Nat) (fd : List Bool) (sts : List Fi) (ps : List Ps) (ch : List (List Int)) => i ≤ c.procs.length∧fd = ci (ay c s (a6 c cl)) (List.replicate c.procs.length false) i∧sts = ci (Jl c s (a6 c cl)) (List.replicate c.procs.length pT) i∧ps = ci (cM c s (a6 c cl)) s.procs i∧ch = bp s.chans (iL c s (a6 c cl) i)) (fun (i : Nat) (fd : List Bool) (sts : List Fi) (ps : List Ps) (ch : List (List Int)) => c.procs.length - i)
abbrev D8 (c : Ci) (s : Ns) (i : Nat) (fd : List Bool) (sts : List Fi) (ps : List Ps) (ch : List (List Int)) : List ao := [(bI c),(bH s),cC,.dead,(bI c),(bH s),.dead,.dead,.dead,(gf ps),.dead,.dead,(.arr 42 1 ac [] ch),.dead,.dead,(eE c),(pK fd i),(pJ sts i c s)]
abbrev jZ (c : Ci) (s : Ns) (cl : ByteArray) (i : Nat) : List (Nat × D) := (CJ c s i cl)
abbrev rZ (c : Ci) (s : Ns) (i : Nat) (fd : List Bool) (sts : List Fi) (ps : List Ps) (ch : List (List Int)) : List ao := (Kx c s ps i ch fd sts)
abbrev j5 (c : Ci) (s : Ns) (cl : ByteArray) (i : Nat) (fd : List Bool) (sts : List Fi) (ps : List Ps) (ch : List (List Int)) (tm0 : Array Value) : Lp (Nat × List (List Int)) := wk [0,1,18,19,20] 29 (fun (k : Nat) (dr : List (List Int)) => ⟨[(0,bM),(1,(i6 (i : Int))),(18,(LB ((ae c s i).pops))),(19,(i6 ((((ae c s i).pops).length : Nat) : Int))),(20,(i6 (k : Int)))],(Gf c s ps i dr fd sts tm0 cl)⟩) (fun (k : Nat) (dr : List (List Int)) => k ≤ (ae c s i).pops.length∧dr = bp ch (lH (c.procs.getD i ab) (ae c s i) k)) (fun (k : Nat) (dr : List (List Int)) => (ae c s i).pops.length - k)
abbrev D9 (c : Ci) (s : Ns) (cl : ByteArray) (i : Nat) (fd : List Bool) (sts : List Fi) (ps : List Ps) (tm0 : Array Value) (dr : List (List Int)) : List ao := (Gf c s ps i dr fd sts tm0 cl)
abbrev kO (c : Ci) (s : Ns) (i : Nat) (k : Nat) : List (Nat × D) := [(39,(i6 ((((c.procs.getD i ab).takes).getD k aQ).chan))),(38,(.iptr (lD (((c.procs.getD i ab).takes).getD k aQ)) 0)),(37,(.iptr (lD (((c.procs.getD i ab).takes).getD k aQ)) 0)),(36,(i6 (k : Int))),(35,(dL 9 lD aQ ((c.procs.getD i ab).takes))),(34,(.iptr (gL (c.procs.getD i ab)) 4)),(33,(.iptr (gL (c.procs.getD i ab)) 0)),(32,(i6 (i : Int))),(31,(dL 6 gL ab c.procs)),(30,bM),(29,bM),(28,bM),(27,bM),(26,bM),(0,bM),(1,(i6 (i : Int))),(6,(i6 (k : Int))),(18,(LB ((ae c s i).pops))),(19,(i6 ((((ae c s i).pops).length : Nat) : Int))),(20,(i6 (k : Int)))]
abbrev pL (c : Ci) (s : Ns) (cl : ByteArray) (i : Nat) (fd : List Bool) (sts : List Fi) (ps : List Ps) (tm0 : Array Value) (k : Nat) (dr : List (List Int)) : List ao := [(bI c),(bH s),cC,.dead,(bI c),(bH s),.dead,.dead,.dead,(rV ps i c s),.dead,.dead,(.arr 42 1 ac [] (dr.set (((((c.procs.getD i ab).takes).getD k aQ).chan).toNat) ((dr.getD (((((c.procs.getD i ab).takes).getD k aQ).chan).toNat) []).drop 1))),.dead,.dead,(eE c),(pK fd i),(pJ sts i c s),(.frame tm0 (CJ c s i cl)),(.var 101 (wI c s i)),.dead,.dead,.dead,.dead,.dead,.dead,.dead,.dead,.dead]
abbrev iO (c : Ci) (s : Ns) (cl : ByteArray) (fd : List Bool) (sts : List Fi) (ps : List Ps) : Lp (Nat × List (List Int)) := wk [6,8,9,10,58,59,60] 18 (fun (j : Nat) (ch2 : List (List Int)) => ⟨[(6,(.ptr 2 0 0 0)),(8,bM),(9,(.own 16)),(10,(.own 17)),(58,(.own 16)),(59,(i6 (fd.length : Int))),(60,(i6 (j : Int)))],(Gd c s ps ch2 fd sts)⟩) (fun (j : Nat) (ch2 : List (List Int)) => j ≤ c.procs.length∧ch2 = bD (bp s.chans (iL c s (a6 c cl) c.procs.length)) (oz c s (a6 c cl) j)) (fun (j : Nat) (ch2 : List (List Int)) => c.procs.length - j)
abbrev A9 (c : Ci) (s : Ns) (fd : List Bool) (sts : List Fi) (ps : List Ps) (ch2 : List (List Int)) : List ao := (Gd c s ps ch2 fd sts)
abbrev iP (c : Ci) (s : Ns) (fd : List Bool) (j : Nat) : List (Nat × D) := (sM c s j fd)
abbrev pM (c : Ci) (s : Ns) (fd : List Bool) (sts : List Fi) (ps : List Ps) (j : Nat) (ch2 : List (List Int)) : List ao := (Ky c s ps ch2 j fd sts)
abbrev iQ (c : Ci) (s : Ns) (fd : List Bool) (sts : List Fi) (ps : List Ps) (j : Nat) (ch2 : List (List Int)) (tm0 : Array Value) : Lp (Nat × List (List Int)) := wk [0,1,9,10,11] 20 (fun (m : Nat) (em : List (List Int)) => ⟨[(0,bM),(1,(i6 (j : Int))),(9,(dL 2 cB aO ((ae c s j).puts))),(10,(i6 ((((ae c s j).puts).length : Nat) : Int))),(11,(i6 (m : Int)))],[(bI c),(bH s),cC,.dead,(bI c),(bH s),.dead,.dead,.dead,(gf ps),.dead,.dead,(.arr 42 1 ac [] em),.dead,.dead,(eE c),(gT fd),(gU sts),(.frame tm0 (sM c s j fd)),(.var 101 (oW c s j))]⟩) (fun (m : Nat) (em : List (List Int)) => m ≤ (ae c s j).puts.length∧em = bD ch2 (nr (c.procs.getD j ab) (ae c s j) m)) (fun (m : Nat) (em : List (List Int)) => (ae c s j).puts.length - m)
abbrev Ba (c : Ci) (s : Ns) (fd : List Bool) (sts : List Fi) (ps : List Ps) (j : Nat) (tm0 : Array Value) (m : Nat) (em : List (List Int)) : List ao := (Kv c s ps em fd sts tm0 j m)
abbrev kP (c : Ci) (s : Ns) (j : Nat) (m : Nat) : List (Nat × D) := (CI j m c s)
abbrev Bb (c : Ci) (s : Ns) (fd : List Bool) (sts : List Fi) (ps : List Ps) (j : Nat) (tm0 : Array Value) (m : Nat) (em : List (List Int)) (tm1 : Array Value) : List ao := (Kt c s ps em fd sts tm0 j m tm1)
abbrev kQ (c : Ci) (s : Ns) (j : Nat) (m : Nat) : List (Nat × D) := (Kz c s j m)
abbrev pN (c : Ci) (s : Ns) (fd : List Bool) (sts : List Fi) (ps : List Ps) (j : Nat) (tm0 : Array Value) (m : Nat) (em : List (List Int)) (tm1 : Array Value) : List ao := (Ku c s ps em j m fd sts tm0 tm1)
abbrev pO (c : Ci) (s : Ns) (fd : List Bool) (sts : List Fi) (ps : List Ps) (j : Nat) (tm0 : Array Value) (m : Nat) (em : List (List Int)) : List ao := (Kw c s ps em j m fd sts tm0)
theorem Ea (c : Ci) (s : Ns) (cl : ByteArray) (hc : aZ c) (hs : ja c s) (hsm : MS s 4294967296) : CC (KC c s cl) := by
 have hnl := hc.nl
 have hcl := hc.cl
 have hl1 := hs.pl
 have hl2 := hs.cl
 refine ah.vc (V := TT 6 (vu Tryz.prog 59 [(.agg (xS c)),(.agg (xR s))] (D7 c s) (nA c s cl) (rX c s) (rY c s) bM∧TT 4 ((((0 : Int) ≤ (c.procs.length : Int)∧(c.procs.length : Int) ≤ (c.procs.length : Int)∧(c.procs.length : Int) ≤ 137438953472)∧(List.replicate c.procs.length false).length = c.procs.length∧∀ x ∈ (List.replicate c.procs.length false),db [(dB false)] (br x))∧TT 4 ((((0 : Int) ≤ (c.procs.length : Int)∧(c.procs.length : Int) ≤ (c.procs.length : Int)∧(c.procs.length : Int) ≤ 137438953472)∧(List.replicate c.procs.length pT).length = c.procs.length∧∀ x ∈ (List.replicate c.procs.length pT),db [(dB false),.nils,.nils,.nils,.nils] (H7 x))∧TT 5 (GO (ir c s cl) (0,List.replicate c.procs.length false,List.replicate c.procs.length pT,s.procs,s.chans) (∀ i fd sts ps ch,(ir c s cl).inv (i,fd,sts,ps,ch) → TT 1 (CD ((i : Int) < (c.procs.length : Int)) (TT 4 (CC (KB c i cl)∧TT 1 (CB (!(a6 c cl i)) (W6 ((i + 1 : Nat) : Int)∧TT 1 (AG (ir c s cl) (i,fd,sts,ps,ch) (i + 1,fd,sts,ps,ch))) (TT 5 (CC (NH c s i)∧IX (i : Int) sts.length∧(i < sts.length∧(sts.map H7).set i ((H7 (sts.getD i pT)).take 0 ++ [(.bool ((ae c s i).fires)),(.sl 1 (aa .i64) 0 (((ae c s i).s).regs)),(.sl 1 ac [] (((ae c s i).s).mems)),(.sl 1 br false ((ae c s i).pops)),(.sl 2 cB aO ((ae c s i).puts))] ++ (H7 (sts.getD i pT)).drop (0 + 5)) = (sts.set i (ae c s i)).map H7)∧TT 2 (IX (i : Int) ((sts.set i (ae c s i)).length)∧TT 1 (((i < (sts.set i (ae c s i)).length∧True)∧(((sts.set i (ae c s i)).getD i pT).fires) = (fq c s i))∧CB (fq c s i) (TT 2 (IX (i : Int) fd.length∧(i < fd.length∧(fd.map br).set i ((br (fd.getD i false)).take 0 ++ [(.bool true)] ++ (br (fd.getD i false)).drop (0 + 1)) = (fd.set i true).map br)∧TT 4 (IX (i : Int) ((sts.set i (ae c s i)).length)∧((i < (sts.set i (ae c s i)).length∧True)∧((((sts.set i (ae c s i)).getD i pT).fires) = ((ae c s i).fires)∧((((sts.set i (ae c s i)).getD i pT).s).regs).map (aa .i64) = (((ae c s i).s).regs).map (aa .i64)∧((((sts.set i (ae c s i)).getD i pT).s).mems).map ac = (((ae c s i).s).mems).map ac∧(((sts.set i (ae c s i)).getD i pT).pops).map br = ((ae c s i).pops).map br∧(((sts.set i (ae c s i)).getD i pT).puts).map cB = ((ae c s i).puts).map cB∧True))∧vu Tryz.prog 108 [bM,(i6 (i : Int)),(.agg (wI c s i))] (D8 c s i fd sts ps ch) (jZ c s cl i) (rZ c s i fd sts ps ch) [] (.tup [])∧W6 ((i + 1 : Nat) : Int)∧TT 1 (AG (ir c s cl) (i,fd,sts,ps,ch) (i + 1,fd.set i true,sts.set i (ae c s i),ps.set i ((ae c s i).s),bp ch (lH (c.procs.getD i ab) (ae c s i) (c.procs.getD i ab).takes.length)))))) (W6 ((i + 1 : Nat) : Int)∧TT 1 (AG (ir c s cl) (i,fd,sts,ps,ch) (i + 1,fd,sts.set i (ae c s i),ps,ch)))))))))) (TT 3 (GO (iO c s cl fd sts ps) (0,ch) (∀ j ch2,(iO c s cl fd sts ps).inv (j,ch2) → TT 1 (CD ((j : Int) < (fd.length : Int)) (TT 1 (IX (j : Int) fd.length∧(j < fd.length∧True)∧TT 3 (CB ((fd.getD j false)) (TT 4 (IX (j : Int) sts.length∧((j < sts.length∧True)∧(((sts.getD j pT).fires) = ((ae c s j).fires)∧(((sts.getD j pT).s).regs).map (aa .i64) = (((ae c s j).s).regs).map (aa .i64)∧(((sts.getD j pT).s).mems).map ac = (((ae c s j).s).mems).map ac∧((sts.getD j pT).pops).map br = ((ae c s j).pops).map br∧((sts.getD j pT).puts).map cB = ((ae c s j).puts).map cB∧True))∧vu Tryz.prog 109 [bM,(i6 (j : Int)),(.agg (oW c s j))] (A9 c s fd sts ps ch2) (iP c s fd j) (pM c s fd sts ps j ch2) [] (.tup [])∧W6 ((j + 1 : Nat) : Int)∧TT 1 (AG (iO c s cl fd sts ps) (j,ch2) (j + 1,bD ch2 (nr (c.procs.getD j ab) (ae c s j) (c.procs.getD j ab).puts.length))))) (W6 ((j + 1 : Nat) : Int)∧TT 1 (AG (iO c s cl fd sts ps) (j,ch2) (j + 1,ch2)))))) (TT 9 ((ps.map ca = ((bv c s (a6 c cl)).procs).map ca∧ch2.map ac = ((bv c s (a6 c cl)).chans).map ac∧True)∧fd.map br = (tab (ay c s (a6 c cl)) c.procs.length).map br∧True))))))))))))) (.q 1 [2,3,4,6] 3 <| .w 1 [(2,.inl bM (nA c s cl) ((rX c s) ++ .dead :: (rY c s)))] <| .w 2 [(3,.box 4 1 br false (List.replicate c.procs.length false))] <| .w 3 [(3,.box 101 5 H7 pT (List.replicate c.procs.length pT))] <| .l (ir c s cl) (0,List.replicate c.procs.length false,List.replicate c.procs.length pT,s.procs,s.chans) (fun ⟨i,fd,sts,ps,ch⟩ => .b 29 (.q 7 [2,3,4,6,8,9,10,11,27,28] 18 <| .w 7 [(2,(KB c i cl).O)] <| .b 34 (.w 12 [(0,.val (i6 ((i + 1 : Nat) : Int)))] <| .e) (.w 8 [(5,(NH c s i).O),(7,.box 101 5 H7 pT (sts.set i (ae c s i)))] <| .w 9 [(4,.val (dB (fq c s i)))] <| .b 46 (.w 10 [(3,.box 4 1 br false (fd.set i true))] <| .q 11 [2,3,4,6,8,9,10,11,27,28] 18 <| .w 11 [(5,.val (.agg (wI c s i))),(6,.inl (.tup []) (jZ c s cl i) ((rZ c s i fd sts ps ch) ++ .dead :: []))] <| .w 12 [(0,.val (i6 ((i + 1 : Nat) : Int)))] <| .e) (.w 12 [(0,.val (i6 ((i + 1 : Nat) : Int)))] <| .e))) (.l (iO c s cl fd sts ps) (0,ch) (fun ⟨j,ch2⟩ => .b 61 (.b 65 (.q 17 [6,8,9,10,12,58,59,60] 18 <| .w 17 [(5,.val (.agg (oW c s j))),(6,.inl (.tup []) (iP c s fd j) ((pM c s fd sts ps j ch2) ++ .dead :: []))] <| .w 18 [(0,.val (i6 ((j + 1 : Nat) : Int)))] <| .e) (.w 18 [(0,.val (i6 ((j + 1 : Nat) : Int)))] <| .e)) (.e))))) Tryz.func90 rfl rfl rfl (by kernel_rfl) ?_
 refine tt ⟨?_,?_⟩
 · intro tm0
   refine fT.vc (V := TT 6 (CO (Nz s.procs)∧TT 2 (CO (ND s.chans)∧TT 5 ((bM : D) = bM∧([(bI c),(bH s),cC,.frame tm0 (nA c s cl),(bI c),(bH s),.dead,.dead,.dead,(.arr 56 2 ca bS s.procs),.dead,.dead,(.arr 42 1 ac [] s.chans),.dead,.dead,(eE c)] : List ao) = (rX c s) ++ .frame tm0 (nA c s cl) :: (rY c s))))) (.w 1 [(3,(Nz s.procs).O),(6,(ND s.chans).O)] <| .e) Tryz.func59 rfl rfl (by kernel_rfl) ?_
   exact tt ⟨(D1 s.procs om),tt ⟨(D2 s.chans om),tt ⟨rfl,rfl⟩⟩⟩
 refine tt ⟨⟨by omega,by simp,fun x hx => by rw [List.eq_of_mem_replicate hx]; exact ⟨rfl,oK⟩⟩,tt ⟨⟨by omega,by simp,fun x hx => by rw [List.eq_of_mem_replicate hx]; exact ⟨rfl,rfl,rfl,rfl,rfl,oK⟩⟩,tt ⟨rfl,⟨by omega,rfl,rfl,rfl,rfl⟩,?_⟩⟩⟩
 intro i fd sts ps ch hinv
 obtain ⟨hi,hfd,hst,hps,hch⟩ := hinv
 have hfl0 : fd.length = c.procs.length := by rw [hfd,cY (by simp; omega)]; simp
 have hsl0 : sts.length = c.procs.length := by rw [hst,cY (by simp; omega)]; simp
 have hpl0 : ps.length = c.procs.length := by rw [hps,cY (by omega)]; omega
 have hchl : ch.length = c.chans.length := by rw [hch,dV]; exact hl2
 refine tt (cd (fun hc29 => ?_) (fun hc29 => ?_))
 · refine tt ⟨(Gg c i cl om),tt ⟨fun hc34 => ?_,fun hc34 => ?_⟩⟩
   · refine ⟨w6,tt ⟨(i + 1,fd,sts,ps,ch),rfl,(?_ : (i + 1) ≤ c.procs.length∧fd = ci (ay c s (a6 c cl)) (List.replicate c.procs.length false) (i + 1)∧sts = ci (Jl c s (a6 c cl)) (List.replicate c.procs.length pT) (i + 1)∧ps = ci (cM c s (a6 c cl)) s.procs (i + 1)∧ch = bp s.chans (iL c s (a6 c cl) (i + 1))),(?_ : c.procs.length - (i + 1) < c.procs.length - i)⟩⟩
     · have hno := L6 (c := c) (s := s) hc34
       exact ⟨by omega,by rw [hfd]; exact cg (d := false) (by simp; omega) (by rw [hno,cI]),by rw [hst]; exact cg (d := pT) (by simp; omega) (by rw [← L7 hc34,cI]),by rw [hps]; exact cg (d := bS) (by omega) (Jm hno).symm,by rw [hch]; rw [CF hno]⟩
     · omega
   · refine tt ⟨(F7 c s i hc hs (by omega)),⟨ix,⟨⟨om,by simp only [List.map_set]; rfl⟩,tt ⟨ix,tt ⟨⟨⟨om,oK⟩,(by rw [cX (by omega),if_pos rfl]; rfl)⟩,⟨fun hc46 => ?_,fun hc46 => ?_⟩⟩⟩⟩⟩⟩
     · have hcan : fq c s i = true := hc46
       refine tt ⟨ix,⟨⟨om,by simp only [List.map_set]; rfl⟩,tt ⟨ix,⟨⟨⟨om,oK⟩,(by rw [cX (by omega),if_pos rfl]; exact ⟨rfl,rfl,rfl,rfl,rfl,oK⟩)⟩,⟨?_,?_⟩⟩⟩⟩⟩
       · intro tm0
         refine fT.vc (V := TT 9 (IX (i : Int) ps.length∧(i < ps.length∧(ps.map ca).set i ((ca (ps.getD i bS)).take 0 ++ [(.sl 1 (aa .i64) 0 (((ae c s i).s).regs)),(.sl 1 ac [] (((ae c s i).s).mems))] ++ (ca (ps.getD i bS)).drop (0 + 2)) = (ps.set i ((ae c s i).s)).map ca)∧TT 4 (GO (j5 c s cl i fd sts ps ch tm0) (0,ch) (∀ k dr,(j5 c s cl i fd sts ps ch tm0).inv (k,dr) → TT 1 (CD ((k : Int) < ((((ae c s i).pops).length : Nat) : Int)) (TT 1 (IX (k : Int) (((ae c s i).pops).length)∧TT 4 (CB ((((ae c s i).pops).getD k false)) (TT 7 (IX (i : Int) c.procs.length∧TT 3 (IX (k : Int) (((c.procs.getD i ab).takes).length)∧TT 2 (vu Tryz.prog 86 [bM,(i6 ((((c.procs.getD i ab).takes).getD k aQ).chan)),(.fn (.func 119) [] [])] (D9 c s cl i fd sts ps tm0 dr) (kO c s i k) (pL c s cl i fd sts ps tm0 k dr) [] (.tup [])∧W6 ((k + 1 : Nat) : Int)∧TT 1 (AG (j5 c s cl i fd sts ps ch tm0) (k,dr) (k + 1,dr.set (((((c.procs.getD i ab).takes).getD k aQ).chan).toNat) ((dr.getD (((((c.procs.getD i ab).takes).getD k aQ).chan).toNat) []).drop 1))))))) (W6 ((k + 1 : Nat) : Int)∧TT 1 (AG (j5 c s cl i fd sts ps ch tm0) (k,dr) (k + 1,dr)))))) (True∧([(bI c),(bH s),cC,.dead,(bI c),(bH s),.dead,.dead,.dead,(rV ps i c s),.dead,.dead,(.arr 42 1 ac [] dr),.dead,.dead,(eE c),(pK fd i),(pJ sts i c s),.frame tm0 (jZ c s cl i)] : List ao) = (rZ c s i fd sts ps ch) ++ .frame tm0 (jZ c s cl i) :: [])))))) (.w 1 [(9,.box 56 2 ca bS (ps.set i ((ae c s i).s)))] <| .l (j5 c s cl i fd sts ps ch tm0) (0,ch) (fun ⟨k,dr⟩ => .b 21 (.b 25 (.q 6 [0,1,6,18,19,20] 29 <| .w 6 [(14,.inl (.tup []) (kO c s i k) ((pL c s cl i fd sts ps tm0 k dr) ++ .dead :: []))] <| .w 7 [(0,.val (i6 ((k + 1 : Nat) : Int)))] <| .e) (.w 7 [(0,.val (i6 ((k + 1 : Nat) : Int)))] <| .e)) (.e))) Tryz.func108 rfl rfl (by kernel_rfl) ?_
         have hpl : (ae c s i).pops.length = (c.procs.getD i ab).takes.length := oT _ _ _ _
         have ht1 : (c.procs.getD i ab).takes.length ≤ 100 := (hc.pr i (by omega)).tl
         refine tt ⟨ix,⟨⟨om,by simp only [List.map_set]; rfl⟩,tt ⟨rfl,⟨by omega,rfl⟩,?_⟩⟩⟩
         intro k dr hinv
         obtain ⟨hk,hdr⟩ := hinv
         have hdl : dr.length = c.chans.length := by rw [hdr,dV,hchl]
         refine tt (cd (fun hc21 => ?_) (fun hc21 => ?_))
         · refine tt ⟨ix,tt ⟨fun hc25 => ?_,fun hc25 => ?_⟩⟩
           · have hkt : k < (c.procs.getD i ab).takes.length := by omega
             have htk : 0 ≤ ((c.procs.getD i ab).takes.getD k aQ).chan∧((c.procs.getD i ab).takes.getD k aQ).chan < c.chans.length := ⟨(hc.tk i (by omega) k hkt).1,(hc.tk i (by omega) k hkt).2.1⟩
             have hfl : 1 ≤ (dr.getD ((c.procs.getD i ab).takes.getD k aQ).chan.toNat []).length := by
               rw [hdr,hch,sK]
               exact Gc hc hl2 (by omega) hcan hkt hc25
             refine tt ⟨ix,tt ⟨ix,tt ⟨?_,?_⟩⟩⟩
             · intro tm1
               refine fT.vc (V := TT 13 (IX ((((c.procs.getD i ab).takes).getD k aQ).chan) dr.length∧(((((c.procs.getD i ab).takes).getD k aQ).chan).toNat < dr.length∧True)∧CC (KA (dr.getD (((((c.procs.getD i ab).takes).getD k aQ).chan).toNat) []))∧IX ((((c.procs.getD i ab).takes).getD k aQ).chan) dr.length∧(((((c.procs.getD i ab).takes).getD k aQ).chan).toNat < dr.length∧(dr.map ac).set (((((c.procs.getD i ab).takes).getD k aQ).chan).toNat) ((ac (dr.getD (((((c.procs.getD i ab).takes).getD k aQ).chan).toNat) [])).take 0 ++ [(.sl 1 (aa .i64) 0 ((dr.getD (((((c.procs.getD i ab).takes).getD k aQ).chan).toNat) []).drop 1))] ++ (ac (dr.getD (((((c.procs.getD i ab).takes).getD k aQ).chan).toNat) [])).drop (0 + 1)) = (dr.set (((((c.procs.getD i ab).takes).getD k aQ).chan).toNat) ((dr.getD (((((c.procs.getD i ab).takes).getD k aQ).chan).toNat) []).drop 1)).map ac)∧True∧([(bI c),(bH s),cC,.dead,(bI c),(bH s),.dead,.dead,.dead,(rV ps i c s),.dead,.dead,(.arr 42 1 ac [] (dr.set (((((c.procs.getD i ab).takes).getD k aQ).chan).toNat) ((dr.getD (((((c.procs.getD i ab).takes).getD k aQ).chan).toNat) []).drop 1))),.dead,.dead,(eE c),(pK fd i),(pJ sts i c s),(.frame tm0 (CJ c s i cl)),(.var 101 (wI c s i)),.dead,.dead,.dead,.dead,.dead,.dead,.dead,.dead,.dead,.frame tm1 (kO c s i k)] : List ao) = (pL c s cl i fd sts ps tm0 k dr) ++ .frame tm1 (kO c s i k) :: [])) (.w 0 [(15,(KA (dr.getD (((((c.procs.getD i ab).takes).getD k aQ).chan).toNat) [])).O),(17,.box 42 1 ac [] (dr.set (((((c.procs.getD i ab).takes).getD k aQ).chan).toNat) ((dr.getD (((((c.procs.getD i ab).takes).getD k aQ).chan).toNat) []).drop 1)))] <| .e) Tryz.func86 rfl rfl (by kernel_rfl) ?_
               exact tt ⟨ix,⟨⟨om,oK⟩,⟨(D6 (dr.getD (((((c.procs.getD i ab).takes).getD k aQ).chan).toNat) []) om),⟨ix,⟨⟨om,by simp only [List.map_set]; rfl⟩,⟨oK,rfl⟩⟩⟩⟩⟩⟩
             refine ⟨w6,tt ⟨(k + 1,dr.set (((((c.procs.getD i ab).takes).getD k aQ).chan).toNat) ((dr.getD (((((c.procs.getD i ab).takes).getD k aQ).chan).toNat) []).drop 1)),rfl,?_,(?_ : (ae c s i).pops.length - (k + 1) < (ae c s i).pops.length - k)⟩⟩
             · exact ⟨by omega,by rw [CG hc25,hdr]; exact (xL _ _ _).symm⟩
             · omega
           · refine ⟨w6,tt ⟨(k + 1,dr),rfl,?_,(?_ : (ae c s i).pops.length - (k + 1) < (ae c s i).pops.length - k)⟩⟩
             · exact ⟨by omega,by rw [Gb hc25,hdr]⟩
             · omega
         · refine ⟨oK,congrArg (fun (z0 : List (List Int)) => ([(bI c),(bH s),cC,.dead,(bI c),(bH s),.dead,.dead,.dead,(rV ps i c s),.dead,.dead,(.arr 42 1 ac [] z0),.dead,.dead,(eE c),(pK fd i),(pJ sts i c s),.frame tm0 (jZ c s cl i)] : List ao)) (?_ : dr = (bp ch (lH (c.procs.getD i ab) (ae c s i) (c.procs.getD i ab).takes.length)))⟩
           rw [hdr,show k = (c.procs.getD i ab).takes.length by omega]
       refine ⟨w6,tt ⟨(i + 1,fd.set i true,sts.set i (ae c s i),ps.set i ((ae c s i).s),bp ch (lH (c.procs.getD i ab) (ae c s i) (c.procs.getD i ab).takes.length)),rfl,(?_ : (i + 1) ≤ c.procs.length∧(fd.set i true) = ci (ay c s (a6 c cl)) (List.replicate c.procs.length false) (i + 1)∧(sts.set i (ae c s i)) = ci (Jl c s (a6 c cl)) (List.replicate c.procs.length pT) (i + 1)∧(ps.set i ((ae c s i).s)) = ci (cM c s (a6 c cl)) s.procs (i + 1)∧(bp ch (lH (c.procs.getD i ab) (ae c s i) (c.procs.getD i ab).takes.length)) = bp s.chans (iL c s (a6 c cl) (i + 1))),(?_ : c.procs.length - (i + 1) < c.procs.length - i)⟩⟩
       · have hno := Kq hc34 hcan
         exact ⟨by omega,by rw [hfd]; exact bX (by simp; omega) hno,by rw [hst]; exact bX (by simp; omega) (F8 hc34).symm,by rw [hps]; exact bX (by omega) (Kr hno).symm,by rw [hch]; rw [F9 hno,sK]⟩
       · omega
     · refine ⟨w6,tt ⟨(i + 1,fd,sts.set i (ae c s i),ps,ch),rfl,(?_ : (i + 1) ≤ c.procs.length∧fd = ci (ay c s (a6 c cl)) (List.replicate c.procs.length false) (i + 1)∧(sts.set i (ae c s i)) = ci (Jl c s (a6 c cl)) (List.replicate c.procs.length pT) (i + 1)∧ps = ci (cM c s (a6 c cl)) s.procs (i + 1)∧ch = bp s.chans (iL c s (a6 c cl) (i + 1))),(?_ : c.procs.length - (i + 1) < c.procs.length - i)⟩⟩
       · have hno := Kp (w := (a6 c cl)) hc46
         exact ⟨by omega,by rw [hfd]; exact cg (d := false) (by simp; omega) (by rw [hno,cI]),by rw [hst]; exact bX (by simp; omega) (F8 hc34).symm,by rw [hps]; exact cg (d := bS) (by omega) (Jm hno).symm,by rw [hch]; rw [CF hno]⟩
       · omega
 · have hie : i = c.procs.length := by omega
   refine tt ⟨rfl,⟨by omega,by rw [hch,hie]; rfl⟩,?_⟩
   intro j ch2 hinv
   obtain ⟨hj,hch2⟩ := hinv
   have hchl2 : ch2.length = c.chans.length := by rw [hch2,de,dV]; exact hl2
   refine tt (cd (fun hc61 => ?_) (fun hc61 => ?_))
   · refine tt ⟨ix,⟨⟨om,oK⟩,tt ⟨fun hc65 => ?_,fun hc65 => ?_⟩⟩⟩
     · have hc65' : ay c s (a6 c cl) j = true := by rw [← hc65,hfd,iK,if_pos (by omega)]
       have hsj : sts.getD j pT = ae c s j := by rw [hst,iK,if_pos (by omega)]; exact if_pos (NI hc65').1
       refine tt ⟨ix,⟨⟨⟨om,oK⟩,(by rw [hsj]; exact ⟨rfl,rfl,rfl,rfl,rfl,oK⟩)⟩,⟨?_,?_⟩⟩⟩
       · intro tm0
         refine fT.vc (V := TT 5 (GO (iQ c s fd sts ps j ch2 tm0) (0,ch2) (∀ m em,(iQ c s fd sts ps j ch2 tm0).inv (m,em) → TT 1 (CD ((m : Int) < ((((ae c s j).puts).length : Nat) : Int)) (TT 1 (IX (m : Int) (((ae c s j).puts).length)∧TT 6 (CB ((((ae c s j).puts).getD m aO).has) (TT 7 (IX (j : Int) c.procs.length∧TT 3 (IX (m : Int) (((c.procs.getD j ab).puts).length)∧TT 4 (an [[(i6 ((((ae c s j).puts).getD m aO).v))]] ([(((ae c s j)).puts.getD m aO).v].map (aa .i64))∧vu Tryz.prog 60 [bM,(uY c j m),(LI [(((ae c s j)).puts.getD m aO).v])] (Ba c s fd sts ps j tm0 m em) (kP c s j m) (pO c s fd sts ps j tm0 m em) [] (.tup [])∧W6 ((m + 1 : Nat) : Int)∧TT 1 (AG (iQ c s fd sts ps j ch2 tm0) (m,em) (m + 1,em.set (((((c.procs.getD j ab).puts).getD m aL).chan).toNat) ((em.getD (((((c.procs.getD j ab).puts).getD m aL).chan).toNat) []) ++ [(((ae c s j)).puts.getD m aO).v]))))))) (W6 ((m + 1 : Nat) : Int)∧TT 1 (AG (iQ c s fd sts ps j ch2 tm0) (m,em) (m + 1,em)))))) (True∧([(bI c),(bH s),cC,.dead,(bI c),(bH s),.dead,.dead,.dead,(gf ps),.dead,.dead,(.arr 42 1 ac [] em),.dead,.dead,(eE c),(gT fd),(gU sts),.frame tm0 (iP c s fd j)] : List ao) = (pM c s fd sts ps j ch2) ++ .frame tm0 (iP c s fd j) :: []))))) (.l (iQ c s fd sts ps j ch2 tm0) (0,ch2) (fun ⟨m,em⟩ => .b 12 (.b 17 (.q 5 [0,1,6,7,9,10,11] 21 <| .w 5 [(16,.box 3 1 (aa .i64) 0 [(((ae c s j)).puts.getD m aO).v]),(17,.inl (.tup []) (kP c s j m) ((pO c s fd sts ps j tm0 m em) ++ .dead :: []))] <| .w 6 [(0,.val (i6 ((m + 1 : Nat) : Int)))] <| .e) (.w 6 [(0,.val (i6 ((m + 1 : Nat) : Int)))] <| .e)) (.e))) Tryz.func109 rfl rfl (by kernel_rfl) ?_
         have hpl : (ae c s j).puts.length = (c.procs.getD j ab).puts.length := jB _ _ _ _
         have ht1 : (c.procs.getD j ab).puts.length ≤ 100 := (hc.pr j (by omega)).pl
         refine tt ⟨rfl,⟨by omega,rfl⟩,?_⟩
         intro m em hinv
         obtain ⟨hm,hem⟩ := hinv
         have hel : em.length = c.chans.length := by rw [hem,de,hchl2]
         refine tt (cd (fun hc12 => ?_) (fun hc12 => ?_))
         · refine tt ⟨ix,tt ⟨fun hc17 => ?_,fun hc17 => ?_⟩⟩
           · have hkt : m < (c.procs.getD j ab).puts.length := by omega
             have htk : 0 ≤ ((c.procs.getD j ab).puts.getD m aL).chan∧((c.procs.getD j ab).puts.getD m aL).chan < c.chans.length := ⟨(hc.pt j (by omega) m hkt).1,(hc.pt j (by omega) m hkt).2.1⟩
             have hfl : (em.getD ((c.procs.getD j ab).puts.getD m aL).chan.toNat []).length + 1 ≤ 137438953472 := by
               rw [hem,hch2,sL]
               exact Ix hc hl2 hsm (show j < c.procs.length by omega) (show m ≤ (c.procs.getD j ab).puts.length by omega) (show ((c.procs.getD j ab).puts.getD m aL).chan.toNat < c.chans.length by omega)
             refine tt ⟨ix,tt ⟨ix,tt ⟨⟨⟨rfl,oK⟩,oK⟩,⟨?_,?_⟩⟩⟩⟩
             · intro tm1
               refine fT.vc (V := TT 4 (vu Tryz.prog 86 [bM,(uY c j m),(Ge c s j m)] (Bb c s fd sts ps j tm0 m em tm1) (kQ c s j m) (pN c s fd sts ps j tm0 m em tm1) [] (.tup [])∧True∧([(bI c),(bH s),cC,.dead,(bI c),(bH s),.dead,.dead,.dead,(gf ps),.dead,.dead,(CL em c j m s),.dead,.dead,(eE c),(gT fd),(gU sts),(.frame tm0 (sM c s j fd)),(.var 101 (oW c s j)),(rU c s j m),.dead,.dead,.dead,.dead,.dead,.dead,.dead,.dead,.dead,.dead,.dead,.dead,.dead,.dead,.dead,.dead,.dead,.frame tm1 (kP c s j m)] : List ao) = (pO c s fd sts ps j tm0 m em) ++ .frame tm1 (kP c s j m) :: [])) (.q 1 [0,1,5] 40 <| .f 1 39 <| .w 1 [(3,.inl (.tup []) (kQ c s j m) ((pN c s fd sts ps j tm0 m em tm1) ++ .dead :: []))] <| .e) Tryz.func60 rfl rfl (by kernel_rfl) ?_
               refine tt ⟨?_,?_⟩
               · intro tm2
                 refine fT.vc (V := TT 13 (IX ((((c.procs.getD j ab).puts).getD m aL).chan) em.length∧(((((c.procs.getD j ab).puts).getD m aL).chan).toNat < em.length∧True)∧CC (NJ (em.getD (((((c.procs.getD j ab).puts).getD m aL).chan).toNat) []) [(((ae c s j)).puts.getD m aO).v])∧IX ((((c.procs.getD j ab).puts).getD m aL).chan) em.length∧(((((c.procs.getD j ab).puts).getD m aL).chan).toNat < em.length∧(em.map ac).set (((((c.procs.getD j ab).puts).getD m aL).chan).toNat) ((ac (em.getD (((((c.procs.getD j ab).puts).getD m aL).chan).toNat) [])).take 0 ++ [(.sl 1 (aa .i64) 0 ((em.getD (((((c.procs.getD j ab).puts).getD m aL).chan).toNat) []) ++ [(((ae c s j)).puts.getD m aO).v]))] ++ (ac (em.getD (((((c.procs.getD j ab).puts).getD m aL).chan).toNat) [])).drop (0 + 1)) = (em.set (((((c.procs.getD j ab).puts).getD m aL).chan).toNat) ((em.getD (((((c.procs.getD j ab).puts).getD m aL).chan).toNat) []) ++ [(((ae c s j)).puts.getD m aO).v])).map ac)∧True∧([(bI c),(bH s),cC,.dead,(bI c),(bH s),.dead,.dead,.dead,(gf ps),.dead,.dead,(CL em c j m s),.dead,.dead,(eE c),(gT fd),(gU sts),(.frame tm0 (sM c s j fd)),(.var 101 (oW c s j)),(rU c s j m),.dead,.dead,.dead,.dead,.dead,.dead,.dead,.dead,.dead,.dead,.dead,.dead,.dead,.dead,.dead,.dead,.dead,(.frame tm1 (CI j m c s)),.dead,.frame tm2 (kQ c s j m)] : List ao) = (pN c s fd sts ps j tm0 m em tm1) ++ .frame tm2 (kQ c s j m) :: [])) (.w 0 [(15,(NJ (em.getD (((((c.procs.getD j ab).puts).getD m aL).chan).toNat) []) [(((ae c s j)).puts.getD m aO).v]).O),(17,.box 42 1 ac [] (em.set (((((c.procs.getD j ab).puts).getD m aL).chan).toNat) ((em.getD (((((c.procs.getD j ab).puts).getD m aL).chan).toNat) []) ++ [(((ae c s j)).puts.getD m aO).v])))] <| .e) Tryz.func86 rfl rfl (by kernel_rfl) ?_
                 exact tt ⟨ix,⟨⟨om,oK⟩,⟨(A8 (em.getD (((((c.procs.getD j ab).puts).getD m aL).chan).toNat) []) [(((ae c s j)).puts.getD m aO).v] om),⟨ix,⟨⟨om,by simp only [List.map_set]; rfl⟩,⟨oK,rfl⟩⟩⟩⟩⟩⟩
               exact ⟨oK,rfl⟩
             refine ⟨w6,tt ⟨(m + 1,em.set (((((c.procs.getD j ab).puts).getD m aL).chan).toNat) ((em.getD (((((c.procs.getD j ab).puts).getD m aL).chan).toNat) []) ++ [(((ae c s j)).puts.getD m aO).v])),rfl,?_,(?_ : (ae c s j).puts.length - (m + 1) < (ae c s j).puts.length - m)⟩⟩
             · exact ⟨by omega,by rw [xQ hc17,hem]; exact (kN _ _ _ _).symm⟩
             · omega
           · refine ⟨w6,tt ⟨(m + 1,em),rfl,?_,(?_ : (ae c s j).puts.length - (m + 1) < (ae c s j).puts.length - m)⟩⟩
             · exact ⟨by omega,by rw [A7 hc17,hem]⟩
             · omega
         · refine ⟨oK,congrArg (fun (z0 : List (List Int)) => ([(bI c),(bH s),cC,.dead,(bI c),(bH s),.dead,.dead,.dead,(gf ps),.dead,.dead,(.arr 42 1 ac [] z0),.dead,.dead,(eE c),(gT fd),(gU sts),.frame tm0 (iP c s fd j)] : List ao)) (?_ : em = (bD ch2 (nr (c.procs.getD j ab) (ae c s j) (c.procs.getD j ab).puts.length)))⟩
           rw [hem,show m = (c.procs.getD j ab).puts.length by omega]
       refine ⟨w6,tt ⟨(j + 1,bD ch2 (nr (c.procs.getD j ab) (ae c s j) (c.procs.getD j ab).puts.length)),rfl,?_,(?_ : c.procs.length - (j + 1) < c.procs.length - j)⟩⟩
       · exact ⟨by omega,by rw [hch2]; rw [Ga hc65',sL]⟩
       · omega
     · have hc65' : ay c s (a6 c cl) j = false := by rw [← hc65,hfd,iK,if_pos (by omega)]
       refine ⟨w6,tt ⟨(j + 1,ch2),rfl,?_,(?_ : c.procs.length - (j + 1) < c.procs.length - j)⟩⟩
       · exact ⟨by omega,by rw [hch2]; rw [Iv hc65']⟩
       · omega
   · have hje : j = c.procs.length := by omega
     refine tt ⟨⟨(congrArg _ (?_ : ps = ((bv c s (a6 c cl)).procs))),(congrArg _ (?_ : ch2 = ((bv c s (a6 c cl)).chans))),oK⟩,(congrArg _ (?_ : fd = (tab (ay c s (a6 c cl)) c.procs.length))),oK⟩
     · rw [hps,hie,dt (by omega)]; rfl
     · rw [hch2,hje]; exact DZ hc hl2
     · rw [hfd,hie,dt (by simp)]
end Go.Proofs.YtckgpflobhpnpaaGreat
