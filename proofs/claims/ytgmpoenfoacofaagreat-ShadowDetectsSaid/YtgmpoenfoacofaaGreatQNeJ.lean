/-
  Package network: what it answers.
-/
import Derived.Test.YtgmpoenfoacofaaGreatQNeI
namespace Go.Proofs.YtgmpoenfoacofaaGreat
open Go.RowKit
set_option linter.unusedVariables false
set_option linter.unusedSimpArgs false
abbrev tG (c : Ci) : List D := [(dL 6 c9 aB c.procs),(dL 5 d7 be c.chans)]
abbrev tH (s : Ns) : List D := [(dL 2 bA b4 s.procs),(dL 1 ac [] s.chans)]
abbrev pF (c : Ci) : au := (.var 173 [(dL 6 c9 aB c.procs),(dL 5 d7 be c.chans),(.own 9),(.own 12)])
abbrev yY (ws : List Int) (n : Int) : List (Nat × D) := [(32,(LI ws)),(31,(i6 n)),(30,(.ptr 15 0 0 0)),(2,(i6 n)),(3,(LI ws)),(8,(.ptr 2 0 0 0)),(10,(.ptr 15 0 0 0))]
abbrev lH : au := (.var 42 [.nils,.nils])
abbrev yZ (s : Ns) (n : Int) (ws : List Int) : au := (.arr 28 1 ac [] (s.chans.set n.toNat ((s.chans.getD n.toNat []) ++ ws)))
abbrev ey (c : Ci) : au := (.var 38 (tG c))
abbrev e7 (s : Ns) : au := (.var 42 (tH s))
abbrev pG (s : Ns) : au := (.arr 112 2 bA b4 s.procs)
set_option maxRecDepth 100000
abbrev Iy (c : Ci) (s : Ns) (cl : ByteArray) : Ct := ⟨80,[(.agg (tG c)),(.agg (tH s)),(dS cl)],true,(.tup [(.agg [(dL 2 bA b4 ((dp c s (bU c cl)).procs)),(dL 1 ac [] ((dp c s (bU c cl)).chans))]),(LB (tab (bc c s (bU c cl)) c.procs.length))])⟩
theorem Cl (c : Ci) (s : Ns) (cl : ByteArray) (hc : b5 c) (hs : cT c s) (hsm : l5 s 4294967296) : CC (Iy c s cl) := by
 have hnl := hc.nl
 have hcl := hc.cl
 refine af.vc (V := TT 8 (CC (F0 c s cl)∧TT 6 ((((dp c s (bU c cl)).procs).map bA = ((dp c s (bU c cl)).procs).map bA∧((dp c s (bU c cl)).chans).map ac = ((dp c s (bU c cl)).chans).map ac∧True)∧(tab (bc c s (bU c cl)) c.procs.length).map bD = (tab (bc c s (bU c cl)) c.procs.length).map bD∧True))) (.f 1 0 <| .f 1 2 <| .w 1 [(3,(F0 c s cl).O)] <| .e) Tryz.func80 rfl rfl rfl (by kernel_rfl) ?_
 exact tt ⟨(Am c s cl hc hs hsm),tt ⟨⟨rfl,rfl,oK⟩,rfl,oK⟩⟩
abbrev Hf (c : Ci) (s : Ns) (l : List ByteArray) : Ct := ⟨63,[(.agg (tG c)),(.agg (tH s)),(dL 1 eI .empty l)],true,(.agg [(dL 2 bA b4 ((aR c s l).procs)),(dL 1 ac [] ((aR c s l).chans))])⟩
abbrev qb (c : Ci) (s : Ns) (l : List ByteArray) : Lp (Nat × Ns) := Bi [3,4,6,9,10,11] 3 (fun (i : Nat) (u : Ns) => ⟨[(3,(.ptr 0 0 0 0)),(4,(.ptr 1 0 0 0)),(6,(.ptr 2 0 0 0)),(9,(dL 1 eI .empty l)),(10,(i6 (l.length : Int))),(11,(i6 (i : Int)))],[(ey c),(.var 42 [(dL 2 bA b4 u.procs),(dL 1 ac [] u.chans)]),lH]⟩) (fun (i : Nat) (u : Ns) => i ≤ l.length∧u = aR c s (l.take i)∧cT c u∧l5 u (1000000000 + i)) (fun (i : Nat) (u : Ns) => l.length - i)
theorem y2 (c : Ci) (s : Ns) (l : List ByteArray) (hc : b5 c) (hs : cT c s) (hsm : l5 s 1000000000) (hl : l.length ≤ 1000000) : CC (Hf c s l) := by
 have hnl := hc.nl
 have hcl := hc.cl
 refine af.vc (V := TT 6 (GO (qb c s l) (0,s) (∀ i u,(qb c s l).inv (i,u) → TT 1 (CD ((i : Int) < (l.length : Int)) (IX (i : Int) l.length∧TT 5 (CC (Iy c u (l.getD i .empty))∧TT 4 (W6 ((i + 1 : Nat) : Int)∧TT 1 (AG (qb c s l) (i,u) (i + 1,dp c u (bU c (l.getD i .empty))))))) (TT 3 (u.procs.map bA = ((aR c s l).procs).map bA∧u.chans.map ac = ((aR c s l).chans).map ac∧True)))))) (.l (qb c s l) (0,s) (fun ⟨i,u⟩ => .b 12 (.w 4 [(3,(Iy c u (l.getD i .empty)).O)] <| .w 5 [(0,.val (i6 ((i + 1 : Nat) : Int)))] <| .e) (.e))) Tryz.func63 rfl rfl rfl (by kernel_rfl) ?_
 refine tt ⟨rfl,⟨by omega,rfl,hs,hsm⟩,?_⟩
 intro i u hinv
 obtain ⟨hi,hu,hus,hum⟩ := hinv
 refine tt (cd (fun hc12 => ?_) (fun hc12 => ?_))
 · refine ⟨ix,tt ⟨(Cl c u (l.getD i .empty) hc hus (fun n => by have := hum n; omega)),tt ⟨w6,tt ⟨(i + 1,dp c u (bU c (l.getD i .empty))),rfl,?_,(?_ : l.length - (i + 1) < l.length - i)⟩⟩⟩⟩
   · exact ⟨by omega,by rw [hu]; exact (Cj (by omega)).symm,xz hc hus _,Cg hc hum⟩
   · omega
 · refine tt ⟨(congrArg _ (?_ : u.procs = ((aR c s l).procs))),(congrArg _ (?_ : u.chans = ((aR c s l).chans))),oK⟩
   all_goals (all_goals (rw [hu,List.take_of_length_le (by omega)]))
abbrev Hg (c : Ci) (s : Ns) (n : Int) (ws : List Int) : Ct := ⟨62,[(.agg (tG c)),(.agg (tH s)),(i6 n),(LI ws)],true,(.tup [(.agg [(dL 2 bA b4 (((aU c s n ws).1).procs)),(dL 1 ac [] (((aU c s n ws).1).chans))]),(i6 ((aU c s n ws).2))])⟩
abbrev Cm (c : Ci) (s : Ns) : List au := [(ey c),(e7 s),lH]
abbrev nf (c : Ci) (s : Ns) (n : Int) (ws : List Int) : List (Nat × D) := [(28,(.agg (tH s))),(27,(.agg (tG c))),(2,(i6 n)),(3,(LI ws)),(4,(.ptr 0 0 0 0)),(5,(.ptr 1 0 0 0)),(8,(.ptr 2 0 0 0))]
abbrev rG (c : Ci) (s : Ns) : List au := [(ey c),(e7 s),lH]
abbrev rH (c : Ci) (s : Ns) : List au := [(ey c),(e7 s),.dead,.dead,.dead,(pG s),.dead,.dead,(.arr 28 1 ac [] s.chans),.dead,.dead,(pF c)]
abbrev Cn (c : Ci) (s : Ns) : List au := [(ey c),(e7 s),lH,.dead,(ey c),(e7 s),.dead,.dead,.dead,(pG s),.dead,.dead,(.arr 28 1 ac [] s.chans),.dead,.dead,(pF c)]
abbrev ng (n : Int) (ws : List Int) : List (Nat × D) := (yY ws n)
abbrev Co (c : Ci) (s : Ns) (n : Int) (ws : List Int) (tm0 : Array Value) : List au := [(ey c),(e7 s),lH,.dead,(ey c),(e7 s),.dead,.dead,.dead,(pG s),.dead,.dead,(.arr 28 1 ac [] s.chans),.dead,.dead,(pF c),(.frame tm0 (yY ws n)),.dead]
abbrev nh (n : Int) (ws : List Int) : List (Nat × D) := [(8,(.fn (.func 91) [] [(.iptr [(.sl 1 (ah .i64) 0 ws)] 0)])),(7,(i6 n)),(6,(.ptr 15 0 0 0)),(0,(.ptr 15 0 0 0)),(1,(i6 n)),(5,(.iptr [(.sl 1 (ah .i64) 0 ws)] 0))]
abbrev rI (c : Ci) (s : Ns) (n : Int) (ws : List Int) (tm0 : Array Value) : List au := [(ey c),(e7 s),lH,.dead,(ey c),(e7 s),.dead,.dead,.dead,(pG s),.dead,.dead,(yZ s n ws),.dead,.dead,(pF c),(.frame tm0 (yY ws n)),.dead]
abbrev rJ (c : Ci) (s : Ns) (n : Int) (ws : List Int) : List au := [(ey c),(e7 s),lH,.dead,(ey c),(e7 s),.dead,.dead,.dead,(pG s),.dead,.dead,(yZ s n ws),.dead,.dead,(pF c)]
theorem wj (c : Ci) (s : Ns) (n : Int) (ws : List Int) (hc : b5 c) (hs : cT c s) (hsm : l5 s 4294967296) (hw : ws.length ≤ 4294967296) : CC (Hg c s n ws) := by
 have hnl := hc.nl
 have hcl := hc.cl
 have hl1 := hs.pl
 have hl2 := hs.cl
 refine af.vc (V := TT 4 (CS ((i9 (·.frm) c n) = true) (TT 2 (CC (Ca c n)∧TT 1 ((True∧(!(i9 (·.frm) c n)) = false)∧TT 4 (IX n c.chans.length∧TT 2 (CC (It ws ((c.chans.getD n.toNat be).w))∧TT 2 (CB (!(cy ws ((c.chans.getD n.toNat be).w))) (TT 5 (((((aU c s n ws).1).procs) = []∧(((aU c s n ws).1).chans) = []∧True)∧(1 : Int) = ((aU c s n ws).2)∧True)) (TT 2 (uv Tryz.prog 78 [(.agg (tG c)),(.agg (tH s))] (Cm c s) (nf c s n ws) (rG c s) (rH c s) (.ptr 15 0 0 0)∧TT 4 (uv Tryz.prog 79 [(.ptr 15 0 0 0),(i6 n),(LI ws)] (Cn c s) (ng n ws) (rJ c s n ws) [] (.tup [])∧TT 8 ((s.procs.map bA = (((aU c s n ws).1).procs).map bA∧(s.chans.set n.toNat ((s.chans.getD n.toNat []) ++ ws)).map ac = (((aU c s n ws).1).chans).map ac∧True)∧(0 : Int) = ((aU c s n ws).2)∧True)))))))))) (TT 2 (CC (Ca c n)∧TT 1 ((True∧(!(i9 (·.frm) c n)) = true)∧TT 15 (((((aU c s n ws).1).procs) = []∧(((aU c s n ws).1).chans) = []∧True)∧(1 : Int) = ((aU c s n ws).2)∧True)))))) (.s 1 ((i9 (·.frm) c n) = true) (.w 1 [(2,(Ca c n).O),(4,.val (dB false)),(12,(It ws ((c.chans.getD n.toNat be).w)).O)] <| .b 25 (.e) (.q 3 [2,3,4,5,8] 3 <| .w 3 [(2,.inl (.ptr 15 0 0 0) (nf c s n ws) ((rG c s) ++ .dead :: (rH c s)))] <| .q 4 [2,3,8,10] 16 <| .w 4 [(3,.inl (.tup []) (ng n ws) ((rJ c s n ws) ++ .dead :: []))] <| .e)) (.w 1 [(2,(Ca c n).O),(4,.val (dB true))] <| .e)) Tryz.func62 rfl rfl rfl (by kernel_rfl) ?_
 refine tt ⟨fun hs0 => ?_,fun hs0 => ?_⟩
 · obtain ⟨ho1,ho2,ho3⟩ := yX hs0
   have hw : 1 ≤ (c.chans.getD n.toNat be).w∧(c.chans.getD n.toNat be).w ≤ 8 := bh.1 (hc.cw n.toNat (by omega))
   refine tt ⟨(wh c n hc),tt ⟨(mF hs0),tt ⟨ix,tt ⟨(Af ws ((c.chans.getD n.toNat be).w) (by omega) (by omega) (by omega)),tt ⟨fun hc25 => ?_,fun hc25 => ?_⟩⟩⟩⟩⟩
   · refine tt ⟨⟨?_,?_,oK⟩,?_,oK⟩
     all_goals (all_goals (first | (rw [rC hs0]) | (rw [rD (by simpa using hc25)]) | (rw [rE hs0 (by simpa using hc25)])))
   · refine tt ⟨?_,?_⟩
     · intro tm0
       refine fV.vc (V := TT 6 (CO (G9 s.procs)∧TT 2 (CO (Ha s.chans)∧TT 5 (((.ptr 15 0 0 0) : D) = (.ptr 15 0 0 0)∧([(ey c),(e7 s),lH,.frame tm0 (nf c s n ws),(ey c),(e7 s),.dead,.dead,.dead,(pG s),.dead,.dead,(.arr 28 1 ac [] s.chans),.dead,.dead,(pF c)] : List au) = (rG c s) ++ .frame tm0 (nf c s n ws) :: (rH c s))))) (.w 1 [(3,(G9 s.procs).O),(6,(Ha s.chans).O)] <| .e) Tryz.func78 rfl rfl (by kernel_rfl) ?_
       exact tt ⟨(tD s.procs om),tt ⟨(tE s.chans om),tt ⟨rfl,rfl⟩⟩⟩
     obtain ⟨ho1,ho2,ho3⟩ := yX hs0
     have hlw : (s.chans.getD n.toNat []).length ≤ 4294967296 := hsm n.toNat
     refine tt ⟨?_,?_⟩
     · intro tm0
       refine fV.vc (V := TT 4 (uv Tryz.prog 90 [(.ptr 15 0 0 0),(i6 n),(.fn (.func 91) [] [(.iptr [(.sl 1 (ah .i64) 0 ws)] 0)])] (Co c s n ws tm0) (nh n ws) (rI c s n ws tm0) [] (.tup [])∧True∧([(ey c),(e7 s),lH,.dead,(ey c),(e7 s),.dead,.dead,.dead,(pG s),.dead,.dead,(yZ s n ws),.dead,.dead,(pF c),.frame tm0 (ng n ws)] : List au) = (rJ c s n ws) ++ .frame tm0 (ng n ws) :: [])) (.q 1 [0,1,5] 18 <| .f 1 17 <| .w 1 [(3,.inl (.tup []) (nh n ws) ((rI c s n ws tm0) ++ .dead :: []))] <| .e) Tryz.func79 rfl rfl (by kernel_rfl) ?_
       refine tt ⟨?_,?_⟩
       · intro tm1
         refine fV.vc (V := TT 13 (IX n s.chans.length∧(n.toNat < s.chans.length∧True)∧CC (He (s.chans.getD n.toNat []) ws)∧IX n s.chans.length∧(n.toNat < s.chans.length∧(s.chans.map ac).set n.toNat ((ac (s.chans.getD n.toNat [])).take 0 ++ [(.sl 1 (ah .i64) 0 ((s.chans.getD n.toNat []) ++ ws))] ++ (ac (s.chans.getD n.toNat [])).drop (0 + 1)) = (s.chans.set n.toNat ((s.chans.getD n.toNat []) ++ ws)).map ac)∧True∧([(ey c),(e7 s),lH,.dead,(ey c),(e7 s),.dead,.dead,.dead,(pG s),.dead,.dead,(yZ s n ws),.dead,.dead,(pF c),(.frame tm0 (yY ws n)),.dead,.frame tm1 (nh n ws)] : List au) = (rI c s n ws tm0) ++ .frame tm1 (nh n ws) :: [])) (.w 0 [(15,(He (s.chans.getD n.toNat []) ws).O),(17,.box 28 1 ac [] (s.chans.set n.toNat ((s.chans.getD n.toNat []) ++ ws)))] <| .e) Tryz.func90 rfl rfl (by kernel_rfl) ?_
         exact tt ⟨ix,⟨⟨om,oK⟩,⟨(rF (s.chans.getD n.toNat []) ws om),⟨ix,⟨⟨om,by simp only [List.map_set]; rfl⟩,⟨oK,rfl⟩⟩⟩⟩⟩⟩
       exact ⟨oK,rfl⟩
     refine tt ⟨⟨(congrArg _ (?_ : s.procs = (((aU c s n ws).1).procs))),(congrArg _ (?_ : (s.chans.set n.toNat ((s.chans.getD n.toNat []) ++ ws)) = (((aU c s n ws).1).chans))),oK⟩,?_,oK⟩
     all_goals (all_goals (first | (rw [rC hs0]) | (rw [rD (by simpa using hc25)]) | (rw [rE hs0 (by simpa using hc25)])))
 · refine tt ⟨(wh c n hc),tt ⟨(mT hs0),tt ⟨⟨?_,?_,oK⟩,?_,oK⟩⟩⟩
   all_goals (all_goals (first | (rw [rC hs0]) | (rw [rD (by simpa using hc25)]) | (rw [rE hs0 (by simpa using hc25)])))
end Go.Proofs.YtgmpoenfoacofaaGreat
