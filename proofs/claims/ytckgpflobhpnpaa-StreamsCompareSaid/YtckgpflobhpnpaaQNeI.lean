/-
  Package network: firing.
-/
import Derived.Test.YtckgpflobhpnpaaQNeG
import Derived.Test.YtckgpflobhpnpaaQNeH
namespace Go.Proofs.Ytckgpflobhpnpaa
open Go.RowKit
set_option linter.unusedVariables false
set_option linter.unusedSimpArgs false
abbrev nr (c : Ci) (s : Ns) (j : Nat) : List D := [(dB ((ac c s j).fires)),(LI (((ac c s j).s).regs)),(dL 1 aa [] (((ac c s j).s).mems)),(LB ((ac c s j).pops)),(dL 2 cB aK ((ac c s j).puts))]
abbrev bC : D := (.ptr 15 0 0 0)
abbrev qX (c : Ci) (s : Ns) (j : Nat) (fd : List Bool) : List (Nat × D) := [(71,(.agg (nr c s j))),(70,(.ptr 17 j 5 0)),(69,(i6 (j : Int))),(68,(.own 17)),(67,(i6 (j : Int))),(66,bC),(6,(.ptr 2 0 0 0)),(8,bC),(9,(.own 16)),(10,(.own 17)),(12,(i6 (j : Int))),(58,(.own 16)),(59,(i6 (fd.length : Int))),(60,(i6 (j : Int)))]
abbrev s9 (c : Ci) (j m : Nat) : D := (i6 ((((c.procs.getD j ab).puts).getD m aI).chan))
abbrev Au (j m : Nat) (c : Ci) (s : Ns) : List (Nat × D) := [(0,bC),(1,(i6 (j : Int))),(6,(i6 (m : Int))),(7,(.ptr 20 0 0 0)),(9,(dL 2 cB aK ((ac c s j).puts))),(10,(i6 ((((ac c s j).puts).length : Nat) : Int))),(11,(i6 (m : Int))),(18,bC),(19,bC),(20,bC),(21,bC),(22,bC),(23,(dL 6 pU ab c.procs)),(24,(i6 (j : Int))),(25,(.iptr (pU (c.procs.getD j ab)) 0)),(26,(.iptr (pU (c.procs.getD j ab)) 5)),(27,(dL 16 vP aI ((c.procs.getD j ab).puts))),(28,(i6 (m : Int))),(29,(.iptr (vP (((c.procs.getD j ab).puts).getD m aI)) 0)),(30,(.iptr (vP (((c.procs.getD j ab).puts).getD m aI)) 0)),(31,(s9 c j m)),(32,(.ptr 20 0 0 1)),(33,(i6 ((((ac c s j).puts).getD m aK).v))),(34,(LI [(((ac c s j)).puts.getD m aK).v]))]
abbrev v8 (s : Ns) : List D := [(dL 2 bW bK s.procs),(dL 1 aa [] s.chans)]
abbrev bq (s : Ns) : aj := (.var 105 (v8 s))
abbrev v9 (c : Ci) : List D := [(dL 6 pU ab c.procs),(dL 5 tu ge c.chans)]
abbrev br (c : Ci) : aj := (.var 29 (v9 c))
abbrev uU (c : Ci) (s : Ns) (i : Nat) : List D := [(dB ((ac c s i).fires)),(LI (((ac c s i).s).regs)),(dL 1 aa [] (((ac c s i).s).mems)),(LB ((ac c s i).pops)),(dL 2 cB aK ((ac c s i).puts))]
abbrev wa (c : Ci) (cl : ByteArray) : D := (.fn (.func 50) [] [(.iptr [(.sl 6 pU ab c.procs),(.sl 5 tu ge c.chans)] 0),(.iptr [(.str cl)] 0)])
abbrev Av (c : Ci) (s : Ns) (i : Nat) (cl : ByteArray) : List (Nat × D) := [(55,(.agg (uU c s i))),(54,(.ptr 17 i 5 0)),(53,(i6 (i : Int))),(52,(.own 17)),(51,(i6 (i : Int))),(50,bC),(2,(wa c cl)),(3,(.ptr 0 0 0 0)),(4,(.ptr 1 0 0 0)),(6,(.ptr 2 0 0 0)),(8,bC),(9,(.own 16)),(10,(.own 17)),(11,(i6 (i : Int))),(27,(i6 (c.procs.length : Int))),(28,(i6 (i : Int)))]
abbrev dU (c : Ci) : aj := (.var 150 [(dL 6 pU ab c.procs),(dL 5 tu ge c.chans),(.own 9),(.own 12)])
abbrev Aw (em : List (List Int)) (c : Ci) (j m : Nat) (s : Ns) : aj := (.arr 37 1 aa [] (em.set (((((c.procs.getD j ab).puts).getD m aI).chan).toNat) ((em.getD (((((c.procs.getD j ab).puts).getD m aI).chan).toNat) []) ++ [(((ac c s j)).puts.getD m aK).v])))
abbrev dz : aj := (.var 105 [.nils,.nils])
abbrev qt (c : Ci) (s : Ns) (j m : Nat) : aj := (.var 135 [(dB ((((ac c s j).puts).getD m aK).has)),(i6 ((((ac c s j).puts).getD m aK).v))])
abbrev qu (ps : List Ps) (i : Nat) (c : Ci) (s : Ns) : aj := (.arr 113 2 bW bK (ps.set i ((ac c s i).s)))
abbrev ol (fd : List Bool) (i : Nat) : aj := (.arr 4 1 bk false (fd.set i true))
abbrev oo (sts : List Fi) (i : Nat) (c : Ci) (s : Ns) : aj := (.arr 116 5 E5 oC (sts.set i (ac c s i)))
abbrev Dq (c : Ci) (s : Ns) (ps : List Ps) (i : Nat) (dr : List (List Int)) (fd : List Bool) (sts : List Fi) (tm0 : Array Value) (cl : ByteArray) : List aj := [(br c),(bq s),dz,.dead,(br c),(bq s),.dead,.dead,.dead,(qu ps i c s),.dead,.dead,(.arr 37 1 aa [] dr),.dead,.dead,(dU c),(ol fd i),(oo sts i c s),(.frame tm0 (Av c s i cl)),(.var 116 (uU c s i)),.dead,.dead,.dead,.dead,.dead,.dead,.dead,.dead,.dead]
abbrev eP (ps : List Ps) : aj := (.arr 113 2 bW bK ps)
abbrev fF (fd : List Bool) : aj := (.arr 4 1 bk false fd)
abbrev fG (sts : List Fi) : aj := (.arr 116 5 E5 oC sts)
set_option maxRecDepth 100000
abbrev JE (l : List Int) : Ct := ⟨69,[(LI l)],true,(LI (l.drop 1))⟩
theorem Bx (l : List Int) (h : 1 ≤ l.length) : CC (JE l) := by
 refine ai.vc (V := TT 2 ((0 ≤ (1 : Int)∧(1 : Int) ≤ (l.length : Int)∧(l.length : Int) ≤ (l.length : Int))∧TT 2 ((l.drop 1).map (ae .i64) = (l.drop 1).map (ae .i64)))) (.e) Try.func69 rfl rfl rfl (by kernel_rfl) ?_
 exact tt ⟨om,tt rfl⟩
abbrev JF (l ws : List Int) : Ct := ⟨75,[(LI l),(.iptr [(.sl 1 (ae .i64) 0 ws)] 0)],true,(LI (l ++ ws))⟩
theorem yT (l ws : List Int) (h : l.length + ws.length ≤ 137438953472) : CC (JF l ws) := by
 refine ai.vc (V := TT 3 (aF [[(LI l)],[(LI ws)]] ([l,ws].map aa)∧CK (JA [l,ws])∧TT 2 (([l,ws].flatten).map (ae .i64) = (l ++ ws).map (ae .i64)))) (.w 1 [(2,.box 37 1 aa [] [l,ws]),(3,(JA [l,ws]).O')] <| .e) Try.func75 rfl rfl rfl (by kernel_rfl) ?_
 refine tt ⟨⟨⟨rfl,oK⟩,⟨rfl,oK⟩,oK⟩,⟨⟨dm _ rfl,(Bu [l,ws] (by simp) (by simpa using h))⟩,tt (congrArg _ (?_ : ([l,ws].flatten) = (l ++ ws)))⟩⟩
 simp
abbrev JG (c : Ci) (q : Nat) (cl : ByteArray) : Ct := ⟨50,[(i6 (q : Int)),(.iptr [(.sl 6 pU ab c.procs),(.sl 5 tu ge c.chans)] 0),(.iptr [(.str cl)] 0)],false,(dB (ba c cl q))⟩
theorem Dr (c : Ci) (q : Nat) (cl : ByteArray) (hq : q < c.procs.length) : CC (JG c q cl) := by
 refine ai.vc (V := TT 4 (IX (q : Int) c.procs.length∧TT 6 ((((c.procs.getD q ab).clock).toList == cl.toList) = (ba c cl q)∧True))) (.e) Try.func50 rfl rfl rfl (by kernel_rfl) ?_
 refine tt ⟨ix,tt ⟨?_,oK⟩⟩
 rfl
abbrev G6 (c : Ci) (s : Ns) (cl : ByteArray) : Ct := ⟨49,[(.agg (v9 c)),(.agg (v8 s)),(wa c cl)],true,(.tup [(.agg [(dL 2 bW bK ((bp c s (ba c cl)).procs)),(dL 1 aa [] ((bp c s (ba c cl)).chans))]),(LB (tab (aq c s (ba c cl)) c.procs.length))])⟩
abbrev Bz (c : Ci) (s : Ns) : List aj := [(br c),(bq s),dz]
abbrev mA (c : Ci) (s : Ns) (cl : ByteArray) : List (Nat × D) := [(15,(.agg (v8 s))),(14,(.agg (v9 c))),(2,(wa c cl)),(3,(.ptr 0 0 0 0)),(4,(.ptr 1 0 0 0)),(6,(.ptr 2 0 0 0))]
abbrev qv (c : Ci) (s : Ns) : List aj := [(br c),(bq s),dz]
abbrev qw (c : Ci) (s : Ns) : List aj := [(br c),(bq s),.dead,.dead,.dead,(.arr 113 2 bW bK s.procs),.dead,.dead,(.arr 37 1 aa [] s.chans),.dead,.dead,(dU c)]
abbrev gR (c : Ci) (s : Ns) (cl : ByteArray) : Lp (Nat × List Bool × List Fi × List Ps × List (List Int)) := J4 [2,3,4,6,8,9,10,27,28] 18 (fun (i : Nat) (fd : List Bool) (sts : List Fi) (ps : List Ps) (ch : List (List Int)) => ⟨[(2,(wa c cl)),(3,(.ptr 0 0 0 0)),(4,(.ptr 1 0 0 0)),(6,(.ptr 2 0 0 0)),(8,bC),(9,(.own 16)),(10,(.own 17)),(27,(i6 (c.procs.length : Int))),(28,(i6 (i : Int)))],[(br c),(bq s),dz,.dead,(br c),(bq s),.dead,.dead,.dead,(eP ps),.dead,.dead,(.arr 37 1 aa [] ch),.dead,.dead,(dU c),(fF fd),(fG sts)]⟩) (fun (i : Nat) (fd : List Bool) (sts : List Fi) (ps : List Ps) (ch : List (List Int)) => i ≤ c.procs.length∧fd = ct (aq c s (ba c cl)) (List.replicate c.procs.length false) i∧sts = ct (F6 c s (ba c cl)) (List.replicate c.procs.length oC) i∧ps = ct (cz c s (ba c cl)) s.procs i∧ch = bg s.chans (hU c s (ba c cl) i)) (fun (i : Nat) (fd : List Bool) (sts : List Fi) (ps : List Ps) (ch : List (List Int)) => c.procs.length - i)
abbrev BA (c : Ci) (s : Ns) (i : Nat) (fd : List Bool) (sts : List Fi) (ps : List Ps) (ch : List (List Int)) : List aj := [(br c),(bq s),dz,.dead,(br c),(bq s),.dead,.dead,.dead,(eP ps),.dead,.dead,(.arr 37 1 aa [] ch),.dead,.dead,(dU c),(ol fd i),(oo sts i c s)]
abbrev jx (c : Ci) (s : Ns) (cl : ByteArray) (i : Nat) : List (Nat × D) := (Av c s i cl)
abbrev qx (c : Ci) (s : Ns) (i : Nat) (fd : List Bool) (sts : List Fi) (ps : List Ps) (ch : List (List Int)) : List aj := [(br c),(bq s),dz,.dead,(br c),(bq s),.dead,.dead,.dead,(qu ps i c s),.dead,.dead,(.arr 37 1 aa [] (bg ch (kK (c.procs.getD i ab) (ac c s i) (c.procs.getD i ab).takes.length))),.dead,.dead,(dU c),(ol fd i),(oo sts i c s)]
abbrev jy (c : Ci) (s : Ns) (cl : ByteArray) (i : Nat) (fd : List Bool) (sts : List Fi) (ps : List Ps) (ch : List (List Int)) (tm0 : Array Value) : Lp (Nat × List (List Int)) := zW [0,1,18,19,20] 29 (fun (k : Nat) (dr : List (List Int)) => ⟨[(0,bC),(1,(i6 (i : Int))),(18,(LB ((ac c s i).pops))),(19,(i6 ((((ac c s i).pops).length : Nat) : Int))),(20,(i6 (k : Int)))],(Dq c s ps i dr fd sts tm0 cl)⟩) (fun (k : Nat) (dr : List (List Int)) => k ≤ (ac c s i).pops.length∧dr = bg ch (kK (c.procs.getD i ab) (ac c s i) k)) (fun (k : Nat) (dr : List (List Int)) => (ac c s i).pops.length - k)
abbrev BB (c : Ci) (s : Ns) (cl : ByteArray) (i : Nat) (fd : List Bool) (sts : List Fi) (ps : List Ps) (tm0 : Array Value) (dr : List (List Int)) : List aj := (Dq c s ps i dr fd sts tm0 cl)
abbrev ke (c : Ci) (s : Ns) (i : Nat) (k : Nat) : List (Nat × D) := [(39,(i6 ((((c.procs.getD i ab).takes).getD k aQ).chan))),(38,(.iptr (tE (((c.procs.getD i ab).takes).getD k aQ)) 0)),(37,(.iptr (tE (((c.procs.getD i ab).takes).getD k aQ)) 0)),(36,(i6 (k : Int))),(35,(dL 9 tE aQ ((c.procs.getD i ab).takes))),(34,(.iptr (pU (c.procs.getD i ab)) 4)),(33,(.iptr (pU (c.procs.getD i ab)) 0)),(32,(i6 (i : Int))),(31,(dL 6 pU ab c.procs)),(30,bC),(29,bC),(28,bC),(27,bC),(26,bC),(0,bC),(1,(i6 (i : Int))),(6,(i6 (k : Int))),(18,(LB ((ac c s i).pops))),(19,(i6 ((((ac c s i).pops).length : Nat) : Int))),(20,(i6 (k : Int)))]
abbrev oq (c : Ci) (s : Ns) (cl : ByteArray) (i : Nat) (fd : List Bool) (sts : List Fi) (ps : List Ps) (tm0 : Array Value) (k : Nat) (dr : List (List Int)) : List aj := [(br c),(bq s),dz,.dead,(br c),(bq s),.dead,.dead,.dead,(qu ps i c s),.dead,.dead,(.arr 37 1 aa [] (dr.set (((((c.procs.getD i ab).takes).getD k aQ).chan).toNat) ((dr.getD (((((c.procs.getD i ab).takes).getD k aQ).chan).toNat) []).drop 1))),.dead,.dead,(dU c),(ol fd i),(oo sts i c s),(.frame tm0 (Av c s i cl)),(.var 116 (uU c s i)),.dead,.dead,.dead,.dead,.dead,.dead,.dead,.dead,.dead]
abbrev ib (c : Ci) (s : Ns) (cl : ByteArray) (fd : List Bool) (sts : List Fi) (ps : List Ps) : Lp (Nat × List (List Int)) := zW [6,8,9,10,58,59,60] 18 (fun (j : Nat) (ch2 : List (List Int)) => ⟨[(6,(.ptr 2 0 0 0)),(8,bC),(9,(.own 16)),(10,(.own 17)),(58,(.own 16)),(59,(i6 (fd.length : Int))),(60,(i6 (j : Int)))],[(br c),(bq s),dz,.dead,(br c),(bq s),.dead,.dead,.dead,(eP ps),.dead,.dead,(.arr 37 1 aa [] ch2),.dead,.dead,(dU c),(fF fd),(fG sts)]⟩) (fun (j : Nat) (ch2 : List (List Int)) => j ≤ c.procs.length∧ch2 = bv (bg s.chans (hU c s (ba c cl) c.procs.length)) (mY c s (ba c cl) j)) (fun (j : Nat) (ch2 : List (List Int)) => c.procs.length - j)
abbrev yU (c : Ci) (s : Ns) (fd : List Bool) (sts : List Fi) (ps : List Ps) (ch2 : List (List Int)) : List aj := [(br c),(bq s),dz,.dead,(br c),(bq s),.dead,.dead,.dead,(eP ps),.dead,.dead,(.arr 37 1 aa [] ch2),.dead,.dead,(dU c),(fF fd),(fG sts)]
abbrev ic (c : Ci) (s : Ns) (fd : List Bool) (j : Nat) : List (Nat × D) := (qX c s j fd)
abbrev ot (c : Ci) (s : Ns) (fd : List Bool) (sts : List Fi) (ps : List Ps) (j : Nat) (ch2 : List (List Int)) : List aj := [(br c),(bq s),dz,.dead,(br c),(bq s),.dead,.dead,.dead,(eP ps),.dead,.dead,(.arr 37 1 aa [] (bv ch2 (mm (c.procs.getD j ab) (ac c s j) (c.procs.getD j ab).puts.length))),.dead,.dead,(dU c),(fF fd),(fG sts)]
abbrev ie (c : Ci) (s : Ns) (fd : List Bool) (sts : List Fi) (ps : List Ps) (j : Nat) (ch2 : List (List Int)) (tm0 : Array Value) : Lp (Nat × List (List Int)) := zW [0,1,9,10,11] 20 (fun (m : Nat) (em : List (List Int)) => ⟨[(0,bC),(1,(i6 (j : Int))),(9,(dL 2 cB aK ((ac c s j).puts))),(10,(i6 ((((ac c s j).puts).length : Nat) : Int))),(11,(i6 (m : Int)))],[(br c),(bq s),dz,.dead,(br c),(bq s),.dead,.dead,.dead,(eP ps),.dead,.dead,(.arr 37 1 aa [] em),.dead,.dead,(dU c),(fF fd),(fG sts),(.frame tm0 (qX c s j fd)),(.var 116 (nr c s j))]⟩) (fun (m : Nat) (em : List (List Int)) => m ≤ (ac c s j).puts.length∧em = bv ch2 (mm (c.procs.getD j ab) (ac c s j) m)) (fun (m : Nat) (em : List (List Int)) => (ac c s j).puts.length - m)
abbrev yV (c : Ci) (s : Ns) (fd : List Bool) (sts : List Fi) (ps : List Ps) (j : Nat) (tm0 : Array Value) (m : Nat) (em : List (List Int)) : List aj := [(br c),(bq s),dz,.dead,(br c),(bq s),.dead,.dead,.dead,(eP ps),.dead,.dead,(.arr 37 1 aa [] em),.dead,.dead,(dU c),(fF fd),(fG sts),(.frame tm0 (qX c s j fd)),(.var 116 (nr c s j)),(qt c s j m),.dead,.dead,.dead,.dead,.dead,.dead,.dead,.dead,.dead,.dead,.dead,.dead,.dead,.dead,.dead,.dead,.dead]
abbrev kf (c : Ci) (s : Ns) (j : Nat) (m : Nat) : List (Nat × D) := (Au j m c s)
abbrev yW (c : Ci) (s : Ns) (fd : List Bool) (sts : List Fi) (ps : List Ps) (j : Nat) (tm0 : Array Value) (m : Nat) (em : List (List Int)) (tm1 : Array Value) : List aj := [(br c),(bq s),dz,.dead,(br c),(bq s),.dead,.dead,.dead,(eP ps),.dead,.dead,(.arr 37 1 aa [] em),.dead,.dead,(dU c),(fF fd),(fG sts),(.frame tm0 (qX c s j fd)),(.var 116 (nr c s j)),(qt c s j m),.dead,.dead,.dead,.dead,.dead,.dead,.dead,.dead,.dead,.dead,.dead,.dead,.dead,.dead,.dead,.dead,.dead,(.frame tm1 (Au j m c s)),.dead]
abbrev kg (c : Ci) (s : Ns) (j : Nat) (m : Nat) : List (Nat × D) := [(8,(.fn (.func 75) [] [(.iptr [(.sl 1 (ae .i64) 0 [(((ac c s j)).puts.getD m aK).v])] 0)])),(7,(s9 c j m)),(6,bC),(0,bC),(1,(s9 c j m)),(5,(.iptr [(.sl 1 (ae .i64) 0 [(((ac c s j)).puts.getD m aK).v])] 0))]
abbrev ou (c : Ci) (s : Ns) (fd : List Bool) (sts : List Fi) (ps : List Ps) (j : Nat) (tm0 : Array Value) (m : Nat) (em : List (List Int)) (tm1 : Array Value) : List aj := [(br c),(bq s),dz,.dead,(br c),(bq s),.dead,.dead,.dead,(eP ps),.dead,.dead,(Aw em c j m s),.dead,.dead,(dU c),(fF fd),(fG sts),(.frame tm0 (qX c s j fd)),(.var 116 (nr c s j)),(qt c s j m),.dead,.dead,.dead,.dead,.dead,.dead,.dead,.dead,.dead,.dead,.dead,.dead,.dead,.dead,.dead,.dead,.dead,(.frame tm1 (Au j m c s)),.dead]
abbrev ow (c : Ci) (s : Ns) (fd : List Bool) (sts : List Fi) (ps : List Ps) (j : Nat) (tm0 : Array Value) (m : Nat) (em : List (List Int)) : List aj := [(br c),(bq s),dz,.dead,(br c),(bq s),.dead,.dead,.dead,(eP ps),.dead,.dead,(Aw em c j m s),.dead,.dead,(dU c),(fF fd),(fG sts),(.frame tm0 (qX c s j fd)),(.var 116 (nr c s j)),(qt c s j m),.dead,.dead,.dead,.dead,.dead,.dead,.dead,.dead,.dead,.dead,.dead,.dead,.dead,.dead,.dead,.dead,.dead]
theorem BC (c : Ci) (s : Ns) (cl : ByteArray) (hc : a8 c) (hs : jt c s) (hsm : IU s 4294967296) : CC (G6 c s cl) := by
 have hnl := hc.nl
 have hcl := hc.cl
 have hl1 := hs.pl
 have hl2 := hs.cl
 refine ai.vc (V := TT 6 (tC Try.prog 58 [(.agg (v9 c)),(.agg (v8 s))] (Bz c s) (mA c s cl) (qv c s) (qw c s) bC∧TT 4 ((((0 : Int) ≤ (c.procs.length : Int)∧(c.procs.length : Int) ≤ (c.procs.length : Int)∧(c.procs.length : Int) ≤ 137438953472)∧(List.replicate c.procs.length false).length = c.procs.length∧∀ x ∈ (List.replicate c.procs.length false),cP [(dB false)] (bk x))∧TT 4 ((((0 : Int) ≤ (c.procs.length : Int)∧(c.procs.length : Int) ≤ (c.procs.length : Int)∧(c.procs.length : Int) ≤ 137438953472)∧(List.replicate c.procs.length oC).length = c.procs.length∧∀ x ∈ (List.replicate c.procs.length oC),cP [(dB false),.nils,.nils,.nils,.nils] (E5 x))∧TT 5 (GO (gR c s cl) (0,List.replicate c.procs.length false,List.replicate c.procs.length oC,s.procs,s.chans) (∀ i fd sts ps ch,(gR c s cl).inv (i,fd,sts,ps,ch) → TT 1 (CD ((i : Int) < (c.procs.length : Int)) (TT 4 (CC (JG c i cl)∧TT 1 (CB (!(ba c cl i)) (W6 ((i + 1 : Nat) : Int)∧TT 1 (AG (gR c s cl) (i,fd,sts,ps,ch) (i + 1,fd,sts,ps,ch))) (TT 5 (CC (JC c s i)∧IX (i : Int) sts.length∧(i < sts.length∧(sts.map E5).set i ((E5 (sts.getD i oC)).take 0 ++ [(.bool ((ac c s i).fires)),(.sl 1 (ae .i64) 0 (((ac c s i).s).regs)),(.sl 1 aa [] (((ac c s i).s).mems)),(.sl 1 bk false ((ac c s i).pops)),(.sl 2 cB aK ((ac c s i).puts))] ++ (E5 (sts.getD i oC)).drop (0 + 5)) = (sts.set i (ac c s i)).map E5)∧TT 2 (IX (i : Int) ((sts.set i (ac c s i)).length)∧TT 1 (((i < (sts.set i (ac c s i)).length∧True)∧(((sts.set i (ac c s i)).getD i oC).fires) = (fC c s i))∧CB (fC c s i) (TT 2 (IX (i : Int) fd.length∧(i < fd.length∧(fd.map bk).set i ((bk (fd.getD i false)).take 0 ++ [(.bool true)] ++ (bk (fd.getD i false)).drop (0 + 1)) = (fd.set i true).map bk)∧TT 4 (IX (i : Int) ((sts.set i (ac c s i)).length)∧((i < (sts.set i (ac c s i)).length∧True)∧((((sts.set i (ac c s i)).getD i oC).fires) = ((ac c s i).fires)∧((((sts.set i (ac c s i)).getD i oC).s).regs).map (ae .i64) = (((ac c s i).s).regs).map (ae .i64)∧((((sts.set i (ac c s i)).getD i oC).s).mems).map aa = (((ac c s i).s).mems).map aa∧(((sts.set i (ac c s i)).getD i oC).pops).map bk = ((ac c s i).pops).map bk∧(((sts.set i (ac c s i)).getD i oC).puts).map cB = ((ac c s i).puts).map cB∧True))∧tC Try.prog 60 [bC,(i6 (i : Int)),(.agg (uU c s i))] (BA c s i fd sts ps ch) (jx c s cl i) (qx c s i fd sts ps ch) [] (.tup [])∧W6 ((i + 1 : Nat) : Int)∧TT 1 (AG (gR c s cl) (i,fd,sts,ps,ch) (i + 1,fd.set i true,sts.set i (ac c s i),ps.set i ((ac c s i).s),bg ch (kK (c.procs.getD i ab) (ac c s i) (c.procs.getD i ab).takes.length)))))) (W6 ((i + 1 : Nat) : Int)∧TT 1 (AG (gR c s cl) (i,fd,sts,ps,ch) (i + 1,fd,sts.set i (ac c s i),ps,ch)))))))))) (TT 3 (GO (ib c s cl fd sts ps) (0,ch) (∀ j ch2,(ib c s cl fd sts ps).inv (j,ch2) → TT 1 (CD ((j : Int) < (fd.length : Int)) (TT 1 (IX (j : Int) fd.length∧(j < fd.length∧True)∧TT 3 (CB ((fd.getD j false)) (TT 4 (IX (j : Int) sts.length∧((j < sts.length∧True)∧(((sts.getD j oC).fires) = ((ac c s j).fires)∧(((sts.getD j oC).s).regs).map (ae .i64) = (((ac c s j).s).regs).map (ae .i64)∧(((sts.getD j oC).s).mems).map aa = (((ac c s j).s).mems).map aa∧((sts.getD j oC).pops).map bk = ((ac c s j).pops).map bk∧((sts.getD j oC).puts).map cB = ((ac c s j).puts).map cB∧True))∧tC Try.prog 61 [bC,(i6 (j : Int)),(.agg (nr c s j))] (yU c s fd sts ps ch2) (ic c s fd j) (ot c s fd sts ps j ch2) [] (.tup [])∧W6 ((j + 1 : Nat) : Int)∧TT 1 (AG (ib c s cl fd sts ps) (j,ch2) (j + 1,bv ch2 (mm (c.procs.getD j ab) (ac c s j) (c.procs.getD j ab).puts.length))))) (W6 ((j + 1 : Nat) : Int)∧TT 1 (AG (ib c s cl fd sts ps) (j,ch2) (j + 1,ch2)))))) (TT 9 ((ps.map bW = ((bp c s (ba c cl)).procs).map bW∧ch2.map aa = ((bp c s (ba c cl)).chans).map aa∧True)∧fd.map bk = (tab (aq c s (ba c cl)) c.procs.length).map bk∧True))))))))))))) (.q 1 [2,3,4,6] 3 <| .w 1 [(2,.inl bC (mA c s cl) ((qv c s) ++ .dead :: (qw c s)))] <| .w 2 [(3,.box 4 1 bk false (List.replicate c.procs.length false))] <| .w 3 [(3,.box 116 5 E5 oC (List.replicate c.procs.length oC))] <| .l (gR c s cl) (0,List.replicate c.procs.length false,List.replicate c.procs.length oC,s.procs,s.chans) (fun ⟨i,fd,sts,ps,ch⟩ => .b 29 (.q 7 [2,3,4,6,8,9,10,11,27,28] 18 <| .w 7 [(2,(JG c i cl).O)] <| .b 34 (.w 12 [(0,.val (i6 ((i + 1 : Nat) : Int)))] <| .e) (.w 8 [(5,(JC c s i).O),(7,.box 116 5 E5 oC (sts.set i (ac c s i)))] <| .w 9 [(4,.val (dB (fC c s i)))] <| .b 46 (.w 10 [(3,.box 4 1 bk false (fd.set i true))] <| .q 11 [2,3,4,6,8,9,10,11,27,28] 18 <| .w 11 [(5,.val (.agg (uU c s i))),(6,.inl (.tup []) (jx c s cl i) ((qx c s i fd sts ps ch) ++ .dead :: []))] <| .w 12 [(0,.val (i6 ((i + 1 : Nat) : Int)))] <| .e) (.w 12 [(0,.val (i6 ((i + 1 : Nat) : Int)))] <| .e))) (.l (ib c s cl fd sts ps) (0,ch) (fun ⟨j,ch2⟩ => .b 61 (.b 65 (.q 17 [6,8,9,10,12,58,59,60] 18 <| .w 17 [(5,.val (.agg (nr c s j))),(6,.inl (.tup []) (ic c s fd j) ((ot c s fd sts ps j ch2) ++ .dead :: []))] <| .w 18 [(0,.val (i6 ((j + 1 : Nat) : Int)))] <| .e) (.w 18 [(0,.val (i6 ((j + 1 : Nat) : Int)))] <| .e)) (.e))))) Try.func49 rfl rfl rfl (by kernel_rfl) ?_
 refine tt ⟨?_,?_⟩
 · intro tm0
   refine fh.vc (V := TT 6 (CO (Ju s.procs)∧TT 2 (CO (Jy s.chans)∧TT 5 ((bC : D) = bC∧([(br c),(bq s),dz,.frame tm0 (mA c s cl),(br c),(bq s),.dead,.dead,.dead,(.arr 113 2 bW bK s.procs),.dead,.dead,(.arr 37 1 aa [] s.chans),.dead,.dead,(dU c)] : List aj) = (qv c s) ++ .frame tm0 (mA c s cl) :: (qw c s))))) (.w 1 [(3,(Ju s.procs).O),(6,(Jy s.chans).O)] <| .e) Try.func58 rfl rfl (by kernel_rfl) ?_
   exact tt ⟨(Bs s.procs om),tt ⟨(Bt s.chans om),tt ⟨rfl,rfl⟩⟩⟩
 refine tt ⟨⟨by omega,by simp,fun x hx => by rw [List.eq_of_mem_replicate hx]; exact ⟨rfl,oK⟩⟩,tt ⟨⟨by omega,by simp,fun x hx => by rw [List.eq_of_mem_replicate hx]; exact ⟨rfl,rfl,rfl,rfl,rfl,oK⟩⟩,tt ⟨rfl,⟨by omega,rfl,rfl,rfl,rfl⟩,?_⟩⟩⟩
 intro i fd sts ps ch hinv
 obtain ⟨hi,hfd,hst,hps,hch⟩ := hinv
 have hfl0 : fd.length = c.procs.length := by rw [hfd,eO (by simp; omega)]; simp
 have hsl0 : sts.length = c.procs.length := by rw [hst,eO (by simp; omega)]; simp
 have hpl0 : ps.length = c.procs.length := by rw [hps,eO (by omega)]; omega
 have hchl : ch.length = c.chans.length := by rw [hch,dy]; exact hl2
 refine tt (cd (fun hc29 => ?_) (fun hc29 => ?_))
 · refine tt ⟨(Dr c i cl om),tt ⟨fun hc34 => ?_,fun hc34 => ?_⟩⟩
   · refine ⟨w6,tt ⟨(i + 1,fd,sts,ps,ch),rfl,(?_ : (i + 1) ≤ c.procs.length∧fd = ct (aq c s (ba c cl)) (List.replicate c.procs.length false) (i + 1)∧sts = ct (F6 c s (ba c cl)) (List.replicate c.procs.length oC) (i + 1)∧ps = ct (cz c s (ba c cl)) s.procs (i + 1)∧ch = bg s.chans (hU c s (ba c cl) (i + 1))),(?_ : c.procs.length - (i + 1) < c.procs.length - i)⟩⟩
     · have hno := Im (c := c) (s := s) hc34
       exact ⟨by omega,by rw [hfd]; exact b9 (d := false) (by simp; omega) (by rw [hno,cu]),by rw [hst]; exact b9 (d := oC) (by simp; omega) (by rw [← Io hc34,cu]),by rw [hps]; exact b9 (d := bK) (by omega) (F7 hno).symm,by rw [hch]; rw [Ap hno]⟩
     · omega
   · refine tt ⟨(Dj c s i hc hs (by omega)),⟨ix,⟨⟨om,by simp only [List.map_set]; rfl⟩,tt ⟨ix,tt ⟨⟨⟨om,oK⟩,(by rw [cI (by omega),if_pos rfl]; rfl)⟩,⟨fun hc46 => ?_,fun hc46 => ?_⟩⟩⟩⟩⟩⟩
     · have hcan : fC c s i = true := hc46
       refine tt ⟨ix,⟨⟨om,by simp only [List.map_set]; rfl⟩,tt ⟨ix,⟨⟨⟨om,oK⟩,(by rw [cI (by omega),if_pos rfl]; exact ⟨rfl,rfl,rfl,rfl,rfl,oK⟩)⟩,⟨?_,?_⟩⟩⟩⟩⟩
       · intro tm0
         refine fh.vc (V := TT 9 (IX (i : Int) ps.length∧(i < ps.length∧(ps.map bW).set i ((bW (ps.getD i bK)).take 0 ++ [(.sl 1 (ae .i64) 0 (((ac c s i).s).regs)),(.sl 1 aa [] (((ac c s i).s).mems))] ++ (bW (ps.getD i bK)).drop (0 + 2)) = (ps.set i ((ac c s i).s)).map bW)∧TT 4 (GO (jy c s cl i fd sts ps ch tm0) (0,ch) (∀ k dr,(jy c s cl i fd sts ps ch tm0).inv (k,dr) → TT 1 (CD ((k : Int) < ((((ac c s i).pops).length : Nat) : Int)) (TT 1 (IX (k : Int) (((ac c s i).pops).length)∧TT 4 (CB ((((ac c s i).pops).getD k false)) (TT 7 (IX (i : Int) c.procs.length∧TT 3 (IX (k : Int) (((c.procs.getD i ab).takes).length)∧TT 2 (tC Try.prog 68 [bC,(i6 ((((c.procs.getD i ab).takes).getD k aQ).chan)),(.fn (.func 69) [] [])] (BB c s cl i fd sts ps tm0 dr) (ke c s i k) (oq c s cl i fd sts ps tm0 k dr) [] (.tup [])∧W6 ((k + 1 : Nat) : Int)∧TT 1 (AG (jy c s cl i fd sts ps ch tm0) (k,dr) (k + 1,dr.set (((((c.procs.getD i ab).takes).getD k aQ).chan).toNat) ((dr.getD (((((c.procs.getD i ab).takes).getD k aQ).chan).toNat) []).drop 1))))))) (W6 ((k + 1 : Nat) : Int)∧TT 1 (AG (jy c s cl i fd sts ps ch tm0) (k,dr) (k + 1,dr)))))) (True∧([(br c),(bq s),dz,.dead,(br c),(bq s),.dead,.dead,.dead,(qu ps i c s),.dead,.dead,(.arr 37 1 aa [] dr),.dead,.dead,(dU c),(ol fd i),(oo sts i c s),.frame tm0 (jx c s cl i)] : List aj) = (qx c s i fd sts ps ch) ++ .frame tm0 (jx c s cl i) :: [])))))) (.w 1 [(9,.box 113 2 bW bK (ps.set i ((ac c s i).s)))] <| .l (jy c s cl i fd sts ps ch tm0) (0,ch) (fun ⟨k,dr⟩ => .b 21 (.b 25 (.q 6 [0,1,6,18,19,20] 29 <| .w 6 [(14,.inl (.tup []) (ke c s i k) ((oq c s cl i fd sts ps tm0 k dr) ++ .dead :: []))] <| .w 7 [(0,.val (i6 ((k + 1 : Nat) : Int)))] <| .e) (.w 7 [(0,.val (i6 ((k + 1 : Nat) : Int)))] <| .e)) (.e))) Try.func60 rfl rfl (by kernel_rfl) ?_
         have hpl : (ac c s i).pops.length = (c.procs.getD i ab).takes.length := nm _ _ _ _
         have ht1 : (c.procs.getD i ab).takes.length ≤ 100 := (hc.pr i (by omega)).tl
         refine tt ⟨ix,⟨⟨om,by simp only [List.map_set]; rfl⟩,tt ⟨rfl,⟨by omega,rfl⟩,?_⟩⟩⟩
         intro k dr hinv
         obtain ⟨hk,hdr⟩ := hinv
         have hdl : dr.length = c.chans.length := by rw [hdr,dy,hchl]
         refine tt (cd (fun hc21 => ?_) (fun hc21 => ?_))
         · refine tt ⟨ix,tt ⟨fun hc25 => ?_,fun hc25 => ?_⟩⟩
           · have hkt : k < (c.procs.getD i ab).takes.length := by omega
             have htk : 0 ≤ ((c.procs.getD i ab).takes.getD k aQ).chan∧((c.procs.getD i ab).takes.getD k aQ).chan < c.chans.length := ⟨(hc.tk i (by omega) k hkt).1,(hc.tk i (by omega) k hkt).2.1⟩
             have hfl : 1 ≤ (dr.getD ((c.procs.getD i ab).takes.getD k aQ).chan.toNat []).length := by
               rw [hdr,hch,qV]
               exact Dp hc hl2 (by omega) hcan hkt hc25
             refine tt ⟨ix,tt ⟨ix,tt ⟨?_,?_⟩⟩⟩
             · intro tm1
               refine fh.vc (V := TT 13 (IX ((((c.procs.getD i ab).takes).getD k aQ).chan) dr.length∧(((((c.procs.getD i ab).takes).getD k aQ).chan).toNat < dr.length∧True)∧CC (JE (dr.getD (((((c.procs.getD i ab).takes).getD k aQ).chan).toNat) []))∧IX ((((c.procs.getD i ab).takes).getD k aQ).chan) dr.length∧(((((c.procs.getD i ab).takes).getD k aQ).chan).toNat < dr.length∧(dr.map aa).set (((((c.procs.getD i ab).takes).getD k aQ).chan).toNat) ((aa (dr.getD (((((c.procs.getD i ab).takes).getD k aQ).chan).toNat) [])).take 0 ++ [(.sl 1 (ae .i64) 0 ((dr.getD (((((c.procs.getD i ab).takes).getD k aQ).chan).toNat) []).drop 1))] ++ (aa (dr.getD (((((c.procs.getD i ab).takes).getD k aQ).chan).toNat) [])).drop (0 + 1)) = (dr.set (((((c.procs.getD i ab).takes).getD k aQ).chan).toNat) ((dr.getD (((((c.procs.getD i ab).takes).getD k aQ).chan).toNat) []).drop 1)).map aa)∧True∧([(br c),(bq s),dz,.dead,(br c),(bq s),.dead,.dead,.dead,(qu ps i c s),.dead,.dead,(.arr 37 1 aa [] (dr.set (((((c.procs.getD i ab).takes).getD k aQ).chan).toNat) ((dr.getD (((((c.procs.getD i ab).takes).getD k aQ).chan).toNat) []).drop 1))),.dead,.dead,(dU c),(ol fd i),(oo sts i c s),(.frame tm0 (Av c s i cl)),(.var 116 (uU c s i)),.dead,.dead,.dead,.dead,.dead,.dead,.dead,.dead,.dead,.frame tm1 (ke c s i k)] : List aj) = (oq c s cl i fd sts ps tm0 k dr) ++ .frame tm1 (ke c s i k) :: [])) (.w 0 [(15,(JE (dr.getD (((((c.procs.getD i ab).takes).getD k aQ).chan).toNat) [])).O),(17,.box 37 1 aa [] (dr.set (((((c.procs.getD i ab).takes).getD k aQ).chan).toNat) ((dr.getD (((((c.procs.getD i ab).takes).getD k aQ).chan).toNat) []).drop 1)))] <| .e) Try.func68 rfl rfl (by kernel_rfl) ?_
               exact tt ⟨ix,⟨⟨om,oK⟩,⟨(Bx (dr.getD (((((c.procs.getD i ab).takes).getD k aQ).chan).toNat) []) om),⟨ix,⟨⟨om,by simp only [List.map_set]; rfl⟩,⟨oK,rfl⟩⟩⟩⟩⟩⟩
             refine ⟨w6,tt ⟨(k + 1,dr.set (((((c.procs.getD i ab).takes).getD k aQ).chan).toNat) ((dr.getD (((((c.procs.getD i ab).takes).getD k aQ).chan).toNat) []).drop 1)),rfl,?_,(?_ : (ac c s i).pops.length - (k + 1) < (ac c s i).pops.length - k)⟩⟩
             · exact ⟨by omega,by rw [Aq hc25,hdr]; exact (vZ _ _ _).symm⟩
             · omega
           · refine ⟨w6,tt ⟨(k + 1,dr),rfl,?_,(?_ : (ac c s i).pops.length - (k + 1) < (ac c s i).pops.length - k)⟩⟩
             · exact ⟨by omega,by rw [Dn hc25,hdr]⟩
             · omega
         · refine ⟨oK,congrArg (fun (z0 : List (List Int)) => ([(br c),(bq s),dz,.dead,(br c),(bq s),.dead,.dead,.dead,(qu ps i c s),.dead,.dead,(.arr 37 1 aa [] z0),.dead,.dead,(dU c),(ol fd i),(oo sts i c s),.frame tm0 (jx c s cl i)] : List aj)) (?_ : dr = (bg ch (kK (c.procs.getD i ab) (ac c s i) (c.procs.getD i ab).takes.length)))⟩
           rw [hdr,show k = (c.procs.getD i ab).takes.length by omega]
       refine ⟨w6,tt ⟨(i + 1,fd.set i true,sts.set i (ac c s i),ps.set i ((ac c s i).s),bg ch (kK (c.procs.getD i ab) (ac c s i) (c.procs.getD i ab).takes.length)),rfl,(?_ : (i + 1) ≤ c.procs.length∧(fd.set i true) = ct (aq c s (ba c cl)) (List.replicate c.procs.length false) (i + 1)∧(sts.set i (ac c s i)) = ct (F6 c s (ba c cl)) (List.replicate c.procs.length oC) (i + 1)∧(ps.set i ((ac c s i).s)) = ct (cz c s (ba c cl)) s.procs (i + 1)∧(bg ch (kK (c.procs.getD i ab) (ac c s i) (c.procs.getD i ab).takes.length)) = bg s.chans (hU c s (ba c cl) (i + 1))),(?_ : c.procs.length - (i + 1) < c.procs.length - i)⟩⟩
       · have hno := G3 hc34 hcan
         exact ⟨by omega,by rw [hfd]; exact b6 (by simp; omega) hno,by rw [hst]; exact b6 (by simp; omega) (Dk hc34).symm,by rw [hps]; exact b6 (by omega) (G4 hno).symm,by rw [hch]; rw [Dl hno,qV]⟩
       · omega
     · refine ⟨w6,tt ⟨(i + 1,fd,sts.set i (ac c s i),ps,ch),rfl,(?_ : (i + 1) ≤ c.procs.length∧fd = ct (aq c s (ba c cl)) (List.replicate c.procs.length false) (i + 1)∧(sts.set i (ac c s i)) = ct (F6 c s (ba c cl)) (List.replicate c.procs.length oC) (i + 1)∧ps = ct (cz c s (ba c cl)) s.procs (i + 1)∧ch = bg s.chans (hU c s (ba c cl) (i + 1))),(?_ : c.procs.length - (i + 1) < c.procs.length - i)⟩⟩
       · have hno := G2 (w := (ba c cl)) hc46
         exact ⟨by omega,by rw [hfd]; exact b9 (d := false) (by simp; omega) (by rw [hno,cu]),by rw [hst]; exact b6 (by simp; omega) (Dk hc34).symm,by rw [hps]; exact b9 (d := bK) (by omega) (F7 hno).symm,by rw [hch]; rw [Ap hno]⟩
       · omega
 · have hie : i = c.procs.length := by omega
   refine tt ⟨rfl,⟨by omega,by rw [hch,hie]; rfl⟩,?_⟩
   intro j ch2 hinv
   obtain ⟨hj,hch2⟩ := hinv
   have hchl2 : ch2.length = c.chans.length := by rw [hch2,cR,dy]; exact hl2
   refine tt (cd (fun hc61 => ?_) (fun hc61 => ?_))
   · refine tt ⟨ix,⟨⟨om,oK⟩,tt ⟨fun hc65 => ?_,fun hc65 => ?_⟩⟩⟩
     · have hc65' : aq c s (ba c cl) j = true := by rw [← hc65,hfd,po,if_pos (by omega)]
       have hsj : sts.getD j oC = ac c s j := by rw [hst,po,if_pos (by omega)]; exact if_pos (JD hc65').1
       refine tt ⟨ix,⟨⟨⟨om,oK⟩,(by rw [hsj]; exact ⟨rfl,rfl,rfl,rfl,rfl,oK⟩)⟩,⟨?_,?_⟩⟩⟩
       · intro tm0
         refine fh.vc (V := TT 5 (GO (ie c s fd sts ps j ch2 tm0) (0,ch2) (∀ m em,(ie c s fd sts ps j ch2 tm0).inv (m,em) → TT 1 (CD ((m : Int) < ((((ac c s j).puts).length : Nat) : Int)) (TT 1 (IX (m : Int) (((ac c s j).puts).length)∧TT 6 (CB ((((ac c s j).puts).getD m aK).has) (TT 7 (IX (j : Int) c.procs.length∧TT 3 (IX (m : Int) (((c.procs.getD j ab).puts).length)∧TT 4 (aF [[(i6 ((((ac c s j).puts).getD m aK).v))]] ([(((ac c s j)).puts.getD m aK).v].map (ae .i64))∧tC Try.prog 70 [bC,(s9 c j m),(LI [(((ac c s j)).puts.getD m aK).v])] (yV c s fd sts ps j tm0 m em) (kf c s j m) (ow c s fd sts ps j tm0 m em) [] (.tup [])∧W6 ((m + 1 : Nat) : Int)∧TT 1 (AG (ie c s fd sts ps j ch2 tm0) (m,em) (m + 1,em.set (((((c.procs.getD j ab).puts).getD m aI).chan).toNat) ((em.getD (((((c.procs.getD j ab).puts).getD m aI).chan).toNat) []) ++ [(((ac c s j)).puts.getD m aK).v]))))))) (W6 ((m + 1 : Nat) : Int)∧TT 1 (AG (ie c s fd sts ps j ch2 tm0) (m,em) (m + 1,em)))))) (True∧([(br c),(bq s),dz,.dead,(br c),(bq s),.dead,.dead,.dead,(eP ps),.dead,.dead,(.arr 37 1 aa [] em),.dead,.dead,(dU c),(fF fd),(fG sts),.frame tm0 (ic c s fd j)] : List aj) = (ot c s fd sts ps j ch2) ++ .frame tm0 (ic c s fd j) :: []))))) (.l (ie c s fd sts ps j ch2 tm0) (0,ch2) (fun ⟨m,em⟩ => .b 12 (.b 17 (.q 5 [0,1,6,7,9,10,11] 21 <| .w 5 [(16,.box 3 1 (ae .i64) 0 [(((ac c s j)).puts.getD m aK).v]),(17,.inl (.tup []) (kf c s j m) ((ow c s fd sts ps j tm0 m em) ++ .dead :: []))] <| .w 6 [(0,.val (i6 ((m + 1 : Nat) : Int)))] <| .e) (.w 6 [(0,.val (i6 ((m + 1 : Nat) : Int)))] <| .e)) (.e))) Try.func61 rfl rfl (by kernel_rfl) ?_
         have hpl : (ac c s j).puts.length = (c.procs.getD j ab).puts.length := i8 _ _ _ _
         have ht1 : (c.procs.getD j ab).puts.length ≤ 100 := (hc.pr j (by omega)).pl
         refine tt ⟨rfl,⟨by omega,rfl⟩,?_⟩
         intro m em hinv
         obtain ⟨hm,hem⟩ := hinv
         have hel : em.length = c.chans.length := by rw [hem,cR,hchl2]
         refine tt (cd (fun hc12 => ?_) (fun hc12 => ?_))
         · refine tt ⟨ix,tt ⟨fun hc17 => ?_,fun hc17 => ?_⟩⟩
           · have hkt : m < (c.procs.getD j ab).puts.length := by omega
             have htk : 0 ≤ ((c.procs.getD j ab).puts.getD m aI).chan∧((c.procs.getD j ab).puts.getD m aI).chan < c.chans.length := ⟨(hc.pt j (by omega) m hkt).1,(hc.pt j (by omega) m hkt).2.1⟩
             have hfl : (em.getD ((c.procs.getD j ab).puts.getD m aI).chan.toNat []).length + 1 ≤ 137438953472 := by
               rw [hem,hch2,qW]
               exact Fu hc hl2 hsm (show j < c.procs.length by omega) (show m ≤ (c.procs.getD j ab).puts.length by omega) (show ((c.procs.getD j ab).puts.getD m aI).chan.toNat < c.chans.length by omega)
             refine tt ⟨ix,tt ⟨ix,tt ⟨⟨⟨rfl,oK⟩,oK⟩,⟨?_,?_⟩⟩⟩⟩
             · intro tm1
               refine fh.vc (V := TT 4 (tC Try.prog 68 [bC,(s9 c j m),(.fn (.func 75) [] [(.iptr [(.sl 1 (ae .i64) 0 [(((ac c s j)).puts.getD m aK).v])] 0)])] (yW c s fd sts ps j tm0 m em tm1) (kg c s j m) (ou c s fd sts ps j tm0 m em tm1) [] (.tup [])∧True∧([(br c),(bq s),dz,.dead,(br c),(bq s),.dead,.dead,.dead,(eP ps),.dead,.dead,(Aw em c j m s),.dead,.dead,(dU c),(fF fd),(fG sts),(.frame tm0 (qX c s j fd)),(.var 116 (nr c s j)),(qt c s j m),.dead,.dead,.dead,.dead,.dead,.dead,.dead,.dead,.dead,.dead,.dead,.dead,.dead,.dead,.dead,.dead,.dead,.frame tm1 (kf c s j m)] : List aj) = (ow c s fd sts ps j tm0 m em) ++ .frame tm1 (kf c s j m) :: [])) (.q 1 [0,1,5] 40 <| .f 1 39 <| .w 1 [(3,.inl (.tup []) (kg c s j m) ((ou c s fd sts ps j tm0 m em tm1) ++ .dead :: []))] <| .e) Try.func70 rfl rfl (by kernel_rfl) ?_
               refine tt ⟨?_,?_⟩
               · intro tm2
                 refine fh.vc (V := TT 13 (IX ((((c.procs.getD j ab).puts).getD m aI).chan) em.length∧(((((c.procs.getD j ab).puts).getD m aI).chan).toNat < em.length∧True)∧CC (JF (em.getD (((((c.procs.getD j ab).puts).getD m aI).chan).toNat) []) [(((ac c s j)).puts.getD m aK).v])∧IX ((((c.procs.getD j ab).puts).getD m aI).chan) em.length∧(((((c.procs.getD j ab).puts).getD m aI).chan).toNat < em.length∧(em.map aa).set (((((c.procs.getD j ab).puts).getD m aI).chan).toNat) ((aa (em.getD (((((c.procs.getD j ab).puts).getD m aI).chan).toNat) [])).take 0 ++ [(.sl 1 (ae .i64) 0 ((em.getD (((((c.procs.getD j ab).puts).getD m aI).chan).toNat) []) ++ [(((ac c s j)).puts.getD m aK).v]))] ++ (aa (em.getD (((((c.procs.getD j ab).puts).getD m aI).chan).toNat) [])).drop (0 + 1)) = (em.set (((((c.procs.getD j ab).puts).getD m aI).chan).toNat) ((em.getD (((((c.procs.getD j ab).puts).getD m aI).chan).toNat) []) ++ [(((ac c s j)).puts.getD m aK).v])).map aa)∧True∧([(br c),(bq s),dz,.dead,(br c),(bq s),.dead,.dead,.dead,(eP ps),.dead,.dead,(Aw em c j m s),.dead,.dead,(dU c),(fF fd),(fG sts),(.frame tm0 (qX c s j fd)),(.var 116 (nr c s j)),(qt c s j m),.dead,.dead,.dead,.dead,.dead,.dead,.dead,.dead,.dead,.dead,.dead,.dead,.dead,.dead,.dead,.dead,.dead,(.frame tm1 (Au j m c s)),.dead,.frame tm2 (kg c s j m)] : List aj) = (ou c s fd sts ps j tm0 m em tm1) ++ .frame tm2 (kg c s j m) :: [])) (.w 0 [(15,(JF (em.getD (((((c.procs.getD j ab).puts).getD m aI).chan).toNat) []) [(((ac c s j)).puts.getD m aK).v]).O),(17,.box 37 1 aa [] (em.set (((((c.procs.getD j ab).puts).getD m aI).chan).toNat) ((em.getD (((((c.procs.getD j ab).puts).getD m aI).chan).toNat) []) ++ [(((ac c s j)).puts.getD m aK).v])))] <| .e) Try.func68 rfl rfl (by kernel_rfl) ?_
                 exact tt ⟨ix,⟨⟨om,oK⟩,⟨(yT (em.getD (((((c.procs.getD j ab).puts).getD m aI).chan).toNat) []) [(((ac c s j)).puts.getD m aK).v] om),⟨ix,⟨⟨om,by simp only [List.map_set]; rfl⟩,⟨oK,rfl⟩⟩⟩⟩⟩⟩
               exact ⟨oK,rfl⟩
             refine ⟨w6,tt ⟨(m + 1,em.set (((((c.procs.getD j ab).puts).getD m aI).chan).toNat) ((em.getD (((((c.procs.getD j ab).puts).getD m aI).chan).toNat) []) ++ [(((ac c s j)).puts.getD m aK).v])),rfl,?_,(?_ : (ac c s j).puts.length - (m + 1) < (ac c s j).puts.length - m)⟩⟩
             · exact ⟨by omega,by rw [v7 hc17,hem]; exact (kd _ _ _ _).symm⟩
             · omega
           · refine ⟨w6,tt ⟨(m + 1,em),rfl,?_,(?_ : (ac c s j).puts.length - (m + 1) < (ac c s j).puts.length - m)⟩⟩
             · exact ⟨by omega,by rw [yS hc17,hem]⟩
             · omega
         · refine ⟨oK,congrArg (fun (z0 : List (List Int)) => ([(br c),(bq s),dz,.dead,(br c),(bq s),.dead,.dead,.dead,(eP ps),.dead,.dead,(.arr 37 1 aa [] z0),.dead,.dead,(dU c),(fF fd),(fG sts),.frame tm0 (ic c s fd j)] : List aj)) (?_ : em = (bv ch2 (mm (c.procs.getD j ab) (ac c s j) (c.procs.getD j ab).puts.length)))⟩
           rw [hem,show m = (c.procs.getD j ab).puts.length by omega]
       refine ⟨w6,tt ⟨(j + 1,bv ch2 (mm (c.procs.getD j ab) (ac c s j) (c.procs.getD j ab).puts.length)),rfl,?_,(?_ : c.procs.length - (j + 1) < c.procs.length - j)⟩⟩
       · exact ⟨by omega,by rw [hch2]; rw [Dm hc65',qW]⟩
       · omega
     · have hc65' : aq c s (ba c cl) j = false := by rw [← hc65,hfd,po,if_pos (by omega)]
       refine ⟨w6,tt ⟨(j + 1,ch2),rfl,?_,(?_ : c.procs.length - (j + 1) < c.procs.length - j)⟩⟩
       · exact ⟨by omega,by rw [hch2]; rw [Fs hc65']⟩
       · omega
   · have hje : j = c.procs.length := by omega
     refine tt ⟨⟨(congrArg _ (?_ : ps = ((bp c s (ba c cl)).procs))),(congrArg _ (?_ : ch2 = ((bp c s (ba c cl)).chans))),oK⟩,(congrArg _ (?_ : fd = (tab (aq c s (ba c cl)) c.procs.length))),oK⟩
     · rw [hps,hie,dQ (by omega)]; rfl
     · rw [hch2,hje]; exact Bq hc hl2
     · rw [hfd,hie,dQ (by simp)]
end Go.Proofs.Ytckgpflobhpnpaa
