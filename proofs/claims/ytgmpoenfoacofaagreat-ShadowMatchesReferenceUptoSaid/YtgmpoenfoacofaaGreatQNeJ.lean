/-
  Package network: what it answers.
-/
import Derived.Test.YtgmpoenfoacofaaGreatQNeI
namespace Go.Proofs.YtgmpoenfoacofaaGreat
open Go.RowKit
set_option linter.unusedVariables false
set_option linter.unusedSimpArgs false
abbrev vZ (c : Ci) : List D := [(dL 6 eu au c.procs),(dL 5 eB bi c.chans)]
abbrev v3 (s : Ns) : List D := [(dL 2 aV a7 s.procs),(dL 1 ac [] s.chans)]
abbrev ro (c : Ci) : az := (.var 173 [(dL 6 eu au c.procs),(dL 5 eB bi c.chans),(.own 9),(.own 12)])
abbrev BF (ws : List Int) (n : Int) : List (Nat × D) := [(32,(LI ws)),(31,(i6 n)),(30,(.ptr 15 0 0 0)),(2,(i6 n)),(3,(LI ws)),(8,(.ptr 2 0 0 0)),(10,(.ptr 15 0 0 0))]
abbrev mQ : az := (.var 42 [.nils,.nils])
abbrev BG (s : Ns) (n : Int) (ws : List Int) : az := (.arr 28 1 ac [] (s.chans.set n.toNat ((s.chans.getD n.toNat []) ++ ws)))
abbrev ff (c : Ci) : az := (.var 38 (vZ c))
abbrev fS (s : Ns) : az := (.var 42 (v3 s))
abbrev rp (s : Ns) : az := (.arr 112 2 aV a7 s.procs)
set_option maxRecDepth 100000
abbrev Ld (c : Ci) (s : Ns) (cl : ByteArray) : Ct := ⟨80,[(.agg (vZ c)),(.agg (v3 s)),(dS cl)],true,(.tup [(.agg [(dL 2 aV a7 ((bj c s (bt c cl)).procs)),(dL 1 ac [] ((bj c s (bt c cl)).chans))]),(LB (tab (aM c s (bt c cl)) c.procs.length))])⟩
theorem E7 (c : Ci) (s : Ns) (cl : ByteArray) (hc : bC c) (hs : b8 c s) (hsm : gw s 4294967296) : CC (Ld c s cl) := by
 have hnl := hc.nl
 have hcl := hc.cl
 refine af.vc (V := TT 8 (CC (Iw c s cl)∧TT 6 ((((bj c s (bt c cl)).procs).map aV = ((bj c s (bt c cl)).procs).map aV∧((bj c s (bt c cl)).chans).map ac = ((bj c s (bt c cl)).chans).map ac∧True)∧(tab (aM c s (bt c cl)) c.procs.length).map aF = (tab (aM c s (bt c cl)) c.procs.length).map aF∧True))) (.f 1 0 <| .f 1 2 <| .w 1 [(3,(Iw c s cl).O)] <| .e) Tryz.func80 rfl rfl rfl (by kernel_rfl) ?_
 exact tt ⟨(C6 c s cl hc hs hsm),tt ⟨⟨rfl,rfl,oK⟩,rfl,oK⟩⟩
abbrev JL (c : Ci) (s : Ns) (l : List ByteArray) : Ct := ⟨63,[(.agg (vZ c)),(.agg (v3 s)),(dL 1 er .empty l)],true,(.agg [(dL 2 aV a7 ((bu c s l).procs)),(dL 1 ac [] ((bu c s l).chans))])⟩
abbrev sa (c : Ci) (s : Ns) (l : List ByteArray) : Lp (Nat × Ns) := uN [3,4,6,9,10,11] 3 (fun (i : Nat) (u : Ns) => ⟨[(3,(.ptr 0 0 0 0)),(4,(.ptr 1 0 0 0)),(6,(.ptr 2 0 0 0)),(9,(dL 1 er .empty l)),(10,(i6 (l.length : Int))),(11,(i6 (i : Int)))],[(ff c),(.var 42 [(dL 2 aV a7 u.procs),(dL 1 ac [] u.chans)]),mQ]⟩) (fun (i : Nat) (u : Ns) => i ≤ l.length∧u = bu c s (l.take i)∧b8 c u∧gw u (1000000000 + i)) (fun (i : Nat) (u : Ns) => l.length - i)
theorem BH (c : Ci) (s : Ns) (l : List ByteArray) (hc : bC c) (hs : b8 c s) (hsm : gw s 1000000000) (hl : l.length ≤ 1000000) : CC (JL c s l) := by
 have hnl := hc.nl
 have hcl := hc.cl
 refine af.vc (V := TT 6 (GO (sa c s l) (0,s) (∀ i u,(sa c s l).inv (i,u) → TT 1 (CD ((i : Int) < (l.length : Int)) (IX (i : Int) l.length∧TT 5 (CC (Ld c u (l.getD i .empty))∧TT 4 (W6 ((i + 1 : Nat) : Int)∧TT 1 (AG (sa c s l) (i,u) (i + 1,bj c u (bt c (l.getD i .empty))))))) (TT 3 (u.procs.map aV = ((bu c s l).procs).map aV∧u.chans.map ac = ((bu c s l).chans).map ac∧True)))))) (.l (sa c s l) (0,s) (fun ⟨i,u⟩ => .b 12 (.w 4 [(3,(Ld c u (l.getD i .empty)).O)] <| .w 5 [(0,.val (i6 ((i + 1 : Nat) : Int)))] <| .e) (.e))) Tryz.func63 rfl rfl rfl (by kernel_rfl) ?_
 refine tt ⟨rfl,⟨by omega,rfl,hs,hsm⟩,?_⟩
 intro i u hinv
 obtain ⟨hi,hu,hus,hum⟩ := hinv
 refine tt (cd (fun hc12 => ?_) (fun hc12 => ?_))
 · refine ⟨ix,tt ⟨(E7 c u (l.getD i .empty) hc hus (fun n => by have := hum n; omega)),tt ⟨w6,tt ⟨(i + 1,bj c u (bt c (l.getD i .empty))),rfl,?_,(?_ : l.length - (i + 1) < l.length - i)⟩⟩⟩⟩
   · exact ⟨by omega,by rw [hu]; exact (yP (by omega)).symm,tJ hc hus _,tL hc hum⟩
   · omega
 · refine tt ⟨(congrArg _ (?_ : u.procs = ((bu c s l).procs))),(congrArg _ (?_ : u.chans = ((bu c s l).chans))),oK⟩
   all_goals (all_goals (rw [hu,List.take_of_length_le (by omega)]))
abbrev JM (c : Ci) (s : Ns) (n : Int) (ws : List Int) : Ct := ⟨62,[(.agg (vZ c)),(.agg (v3 s)),(i6 n),(LI ws)],true,(.tup [(.agg [(dL 2 aV a7 (((aA c s n ws).1).procs)),(dL 1 ac [] (((aA c s n ws).1).chans))]),(i6 ((aA c s n ws).2))])⟩
abbrev E8 (c : Ci) (s : Ns) : List az := [(ff c),(fS s),mQ]
abbrev ph (c : Ci) (s : Ns) (n : Int) (ws : List Int) : List (Nat × D) := [(28,(.agg (v3 s))),(27,(.agg (vZ c))),(2,(i6 n)),(3,(LI ws)),(4,(.ptr 0 0 0 0)),(5,(.ptr 1 0 0 0)),(8,(.ptr 2 0 0 0))]
abbrev tP (c : Ci) (s : Ns) : List az := [(ff c),(fS s),mQ]
abbrev tQ (c : Ci) (s : Ns) : List az := [(ff c),(fS s),.dead,.dead,.dead,(rp s),.dead,.dead,(.arr 28 1 ac [] s.chans),.dead,.dead,(ro c)]
abbrev E9 (c : Ci) (s : Ns) : List az := [(ff c),(fS s),mQ,.dead,(ff c),(fS s),.dead,.dead,.dead,(rp s),.dead,.dead,(.arr 28 1 ac [] s.chans),.dead,.dead,(ro c)]
abbrev pi (n : Int) (ws : List Int) : List (Nat × D) := (BF ws n)
abbrev Fa (c : Ci) (s : Ns) (n : Int) (ws : List Int) (tm0 : Array Value) : List az := [(ff c),(fS s),mQ,.dead,(ff c),(fS s),.dead,.dead,.dead,(rp s),.dead,.dead,(.arr 28 1 ac [] s.chans),.dead,.dead,(ro c),(.frame tm0 (BF ws n)),.dead]
abbrev pj (n : Int) (ws : List Int) : List (Nat × D) := [(8,(.fn (.func 91) [] [(.iptr [(.sl 1 (ae .i64) 0 ws)] 0)])),(7,(i6 n)),(6,(.ptr 15 0 0 0)),(0,(.ptr 15 0 0 0)),(1,(i6 n)),(5,(.iptr [(.sl 1 (ae .i64) 0 ws)] 0))]
abbrev tR (c : Ci) (s : Ns) (n : Int) (ws : List Int) (tm0 : Array Value) : List az := [(ff c),(fS s),mQ,.dead,(ff c),(fS s),.dead,.dead,.dead,(rp s),.dead,.dead,(BG s n ws),.dead,.dead,(ro c),(.frame tm0 (BF ws n)),.dead]
abbrev tS (c : Ci) (s : Ns) (n : Int) (ws : List Int) : List az := [(ff c),(fS s),mQ,.dead,(ff c),(fS s),.dead,.dead,.dead,(rp s),.dead,.dead,(BG s n ws),.dead,.dead,(ro c)]
theorem yQ (c : Ci) (s : Ns) (n : Int) (ws : List Int) (hc : bC c) (hs : b8 c s) (hsm : gw s 4294967296) (hw : ws.length ≤ 4294967296) : CC (JM c s n ws) := by
 have hnl := hc.nl
 have hcl := hc.cl
 have hl1 := hs.pl
 have hl2 := hs.cl
 refine af.vc (V := TT 4 (CS ((fP (·.frm) c n) = true) (TT 2 (CC (EU c n)∧TT 1 ((True∧(!(fP (·.frm) c n)) = false)∧TT 4 (IX n c.chans.length∧TT 2 (CC (K8 ws ((c.chans.getD n.toNat bi).w))∧TT 2 (CB (!(fN ws ((c.chans.getD n.toNat bi).w))) (TT 5 (((((aA c s n ws).1).procs) = []∧(((aA c s n ws).1).chans) = []∧True)∧(1 : Int) = ((aA c s n ws).2)∧True)) (TT 2 (wS Tryz.prog 78 [(.agg (vZ c)),(.agg (v3 s))] (E8 c s) (ph c s n ws) (tP c s) (tQ c s) (.ptr 15 0 0 0)∧TT 4 (wS Tryz.prog 79 [(.ptr 15 0 0 0),(i6 n),(LI ws)] (E9 c s) (pi n ws) (tS c s n ws) [] (.tup [])∧TT 8 ((s.procs.map aV = (((aA c s n ws).1).procs).map aV∧(s.chans.set n.toNat ((s.chans.getD n.toNat []) ++ ws)).map ac = (((aA c s n ws).1).chans).map ac∧True)∧(0 : Int) = ((aA c s n ws).2)∧True)))))))))) (TT 2 (CC (EU c n)∧TT 1 ((True∧(!(fP (·.frm) c n)) = true)∧TT 15 (((((aA c s n ws).1).procs) = []∧(((aA c s n ws).1).chans) = []∧True)∧(1 : Int) = ((aA c s n ws).2)∧True)))))) (.s 1 ((fP (·.frm) c n) = true) (.w 1 [(2,(EU c n).O),(4,.val (dB false)),(12,(K8 ws ((c.chans.getD n.toNat bi).w)).O)] <| .b 25 (.e) (.q 3 [2,3,4,5,8] 3 <| .w 3 [(2,.inl (.ptr 15 0 0 0) (ph c s n ws) ((tP c s) ++ .dead :: (tQ c s)))] <| .q 4 [2,3,8,10] 16 <| .w 4 [(3,.inl (.tup []) (pi n ws) ((tS c s n ws) ++ .dead :: []))] <| .e)) (.w 1 [(2,(EU c n).O),(4,.val (dB true))] <| .e)) Tryz.func62 rfl rfl rfl (by kernel_rfl) ?_
 refine tt ⟨fun hs0 => ?_,fun hs0 => ?_⟩
 · obtain ⟨ho1,ho2,ho3⟩ := BE hs0
   have hw : 1 ≤ (c.chans.getD n.toNat bi).w∧(c.chans.getD n.toNat bi).w ≤ 8 := aP.1 (hc.cw n.toNat (by omega))
   refine tt ⟨(yL c n hc),tt ⟨(mF hs0),tt ⟨ix,tt ⟨(CY ws ((c.chans.getD n.toNat bi).w) (by omega) (by omega) (by omega)),tt ⟨fun hc25 => ?_,fun hc25 => ?_⟩⟩⟩⟩⟩
   · refine tt ⟨⟨?_,?_,oK⟩,?_,oK⟩
     all_goals (all_goals (first | (rw [kZ hs0]) | (rw [e9 (by simpa using hc25)]) | (rw [pg hs0 (by simpa using hc25)])))
   · refine tt ⟨?_,?_⟩
     · intro tm0
       refine gQ.vc (V := TT 6 (CO (JH s.procs)∧TT 2 (CO (JI s.chans)∧TT 5 (((.ptr 15 0 0 0) : D) = (.ptr 15 0 0 0)∧([(ff c),(fS s),mQ,.frame tm0 (ph c s n ws),(ff c),(fS s),.dead,.dead,.dead,(rp s),.dead,.dead,(.arr 28 1 ac [] s.chans),.dead,.dead,(ro c)] : List az) = (tP c s) ++ .frame tm0 (ph c s n ws) :: (tQ c s))))) (.w 1 [(3,(JH s.procs).O),(6,(JI s.chans).O)] <| .e) Tryz.func78 rfl rfl (by kernel_rfl) ?_
       exact tt ⟨(vW s.procs om),tt ⟨(vX s.chans om),tt ⟨rfl,rfl⟩⟩⟩
     obtain ⟨ho1,ho2,ho3⟩ := BE hs0
     have hlw : (s.chans.getD n.toNat []).length ≤ 4294967296 := hsm n.toNat
     refine tt ⟨?_,?_⟩
     · intro tm0
       refine gQ.vc (V := TT 4 (wS Tryz.prog 90 [(.ptr 15 0 0 0),(i6 n),(.fn (.func 91) [] [(.iptr [(.sl 1 (ae .i64) 0 ws)] 0)])] (Fa c s n ws tm0) (pj n ws) (tR c s n ws tm0) [] (.tup [])∧True∧([(ff c),(fS s),mQ,.dead,(ff c),(fS s),.dead,.dead,.dead,(rp s),.dead,.dead,(BG s n ws),.dead,.dead,(ro c),.frame tm0 (pi n ws)] : List az) = (tS c s n ws) ++ .frame tm0 (pi n ws) :: [])) (.q 1 [0,1,5] 18 <| .f 1 17 <| .w 1 [(3,.inl (.tup []) (pj n ws) ((tR c s n ws tm0) ++ .dead :: []))] <| .e) Tryz.func79 rfl rfl (by kernel_rfl) ?_
       refine tt ⟨?_,?_⟩
       · intro tm1
         refine gQ.vc (V := TT 13 (IX n s.chans.length∧(n.toNat < s.chans.length∧True)∧CC (JK (s.chans.getD n.toNat []) ws)∧IX n s.chans.length∧(n.toNat < s.chans.length∧(s.chans.map ac).set n.toNat ((ac (s.chans.getD n.toNat [])).take 0 ++ [(.sl 1 (ae .i64) 0 ((s.chans.getD n.toNat []) ++ ws))] ++ (ac (s.chans.getD n.toNat [])).drop (0 + 1)) = (s.chans.set n.toNat ((s.chans.getD n.toNat []) ++ ws)).map ac)∧True∧([(ff c),(fS s),mQ,.dead,(ff c),(fS s),.dead,.dead,.dead,(rp s),.dead,.dead,(BG s n ws),.dead,.dead,(ro c),(.frame tm0 (BF ws n)),.dead,.frame tm1 (pj n ws)] : List az) = (tR c s n ws tm0) ++ .frame tm1 (pj n ws) :: [])) (.w 0 [(15,(JK (s.chans.getD n.toNat []) ws).O),(17,.box 28 1 ac [] (s.chans.set n.toNat ((s.chans.getD n.toNat []) ++ ws)))] <| .e) Tryz.func90 rfl rfl (by kernel_rfl) ?_
         exact tt ⟨ix,⟨⟨om,oK⟩,⟨(tO (s.chans.getD n.toNat []) ws om),⟨ix,⟨⟨om,by simp only [List.map_set]; rfl⟩,⟨oK,rfl⟩⟩⟩⟩⟩⟩
       exact ⟨oK,rfl⟩
     refine tt ⟨⟨(congrArg _ (?_ : s.procs = (((aA c s n ws).1).procs))),(congrArg _ (?_ : (s.chans.set n.toNat ((s.chans.getD n.toNat []) ++ ws)) = (((aA c s n ws).1).chans))),oK⟩,?_,oK⟩
     all_goals (all_goals (first | (rw [kZ hs0]) | (rw [e9 (by simpa using hc25)]) | (rw [pg hs0 (by simpa using hc25)])))
 · refine tt ⟨(yL c n hc),tt ⟨(mT hs0),tt ⟨⟨?_,?_,oK⟩,?_,oK⟩⟩⟩
   all_goals (all_goals (first | (rw [kZ hs0]) | (rw [e9 (by simpa using hc25)]) | (rw [pg hs0 (by simpa using hc25)])))
end Go.Proofs.YtgmpoenfoacofaaGreat
