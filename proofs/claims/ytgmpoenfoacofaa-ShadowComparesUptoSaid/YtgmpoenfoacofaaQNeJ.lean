/-
  Package network: what it answers.
-/
import Derived.Test.YtgmpoenfoacofaaQNeI
namespace Go.Proofs.Ytgmpoenfoacofaa
open Go.RowKit
set_option linter.unusedVariables false
set_option linter.unusedSimpArgs false
abbrev rF (s : Ns) : List D := [(dL 2 b5 e8 s.procs),(dL 1 ax [] s.chans)]
abbrev cH (s : Ns) : am := (.var 46 (rF s))
abbrev rG (c : Ci) : List D := [(dL 6 gb ew c.procs),(dL 5 dy bO c.chans)]
abbrev cI (c : Ci) : am := (.var 42 (rG c))
abbrev jt (c : Ci) : am := (.var 158 [(dL 6 gb ew c.procs),(dL 5 dy bO c.chans),(.own 9),(.own 12)])
abbrev rH (ws : List Int) (n : Int) : List (Nat × D) := [(32,(LI ws)),(31,(i6 n)),(30,(.ptr 15 0 0 0)),(2,(i6 n)),(3,(LI ws)),(8,(.ptr 2 0 0 0)),(10,(.ptr 15 0 0 0))]
abbrev rI (s : Ns) (n : Int) (ws : List Int) : am := (.arr 38 1 ax [] (s.chans.set n.toNat ((s.chans.getD n.toNat []) ++ ws)))
abbrev ij : am := (.var 46 [.nils,.nils])
abbrev ju (s : Ns) : am := (.arr 88 2 b5 e8 s.procs)
set_option maxRecDepth 100000
abbrev x4 (c : Ci) (s : Ns) (n : Int) (ws : List Int) : Ct := ⟨47,[(.agg (rG c)),(.agg (rF s)),(i6 n),(LI ws)],true,(.tup [(.agg [(dL 2 b5 e8 (((aD c s n ws).1).procs)),(dL 1 ax [] (((aD c s n ws).1).chans))]),(i6 ((aD c s n ws).2))])⟩
abbrev uk (c : Ci) (s : Ns) : List am := [(cI c),(cH s),ij]
abbrev ik (c : Ci) (s : Ns) (n : Int) (ws : List Int) : List (Nat × D) := [(28,(.agg (rF s))),(27,(.agg (rG c))),(2,(i6 n)),(3,(LI ws)),(4,(.ptr 0 0 0 0)),(5,(.ptr 1 0 0 0)),(8,(.ptr 2 0 0 0))]
abbrev lf (c : Ci) (s : Ns) : List am := [(cI c),(cH s),ij]
abbrev lg (c : Ci) (s : Ns) : List am := [(cI c),(cH s),.dead,.dead,.dead,(ju s),.dead,.dead,(.arr 38 1 ax [] s.chans),.dead,.dead,(jt c)]
abbrev un (c : Ci) (s : Ns) : List am := [(cI c),(cH s),ij,.dead,(cI c),(cH s),.dead,.dead,.dead,(ju s),.dead,.dead,(.arr 38 1 ax [] s.chans),.dead,.dead,(jt c)]
abbrev il (n : Int) (ws : List Int) : List (Nat × D) := (rH ws n)
abbrev uo (c : Ci) (s : Ns) (n : Int) (ws : List Int) (tm0 : Array Value) : List am := [(cI c),(cH s),ij,.dead,(cI c),(cH s),.dead,.dead,.dead,(ju s),.dead,.dead,(.arr 38 1 ax [] s.chans),.dead,.dead,(jt c),(.frame tm0 (rH ws n)),.dead]
abbrev im (n : Int) (ws : List Int) : List (Nat × D) := [(8,(.fn (.func 70) [] [(.iptr [(.sl 1 (af .i64) 0 ws)] 0)])),(7,(i6 n)),(6,(.ptr 15 0 0 0)),(0,(.ptr 15 0 0 0)),(1,(i6 n)),(5,(.iptr [(.sl 1 (af .i64) 0 ws)] 0))]
abbrev lh (c : Ci) (s : Ns) (n : Int) (ws : List Int) (tm0 : Array Value) : List am := [(cI c),(cH s),ij,.dead,(cI c),(cH s),.dead,.dead,.dead,(ju s),.dead,.dead,(rI s n ws),.dead,.dead,(jt c),(.frame tm0 (rH ws n)),.dead]
abbrev li (c : Ci) (s : Ns) (n : Int) (ws : List Int) : List am := [(cI c),(cH s),ij,.dead,(cI c),(cH s),.dead,.dead,.dead,(ju s),.dead,.dead,(rI s n ws),.dead,.dead,(jt c)]
theorem pm (c : Ci) (s : Ns) (n : Int) (ws : List Int) (hc : kV c) (hs : pj c s) (hsm : wR s 4294967296) (hw : ws.length ≤ 4294967296) : CC (x4 c s n ws) := by
 have hnl := hc.nl
 have hcl := hc.cl
 have hl1 := hs.pl
 have hl2 := hs.cl
 refine ai.vc (V := TT 4 (CS ((eL (·.frm) c n) = true) (TT 2 (CC (uj c n)∧TT 1 ((True∧(!(eL (·.frm) c n)) = false)∧TT 4 (IX n c.chans.length∧TT 2 (CC (yX ws ((c.chans.getD n.toNat bO).w))∧TT 2 (CB (!(js ws ((c.chans.getD n.toNat bO).w))) (TT 5 (((((aD c s n ws).1).procs) = []∧(((aD c s n ws).1).chans) = []∧True)∧(1 : Int) = ((aD c s n ws).2)∧True)) (TT 2 (wF Try.prog 59 [(.agg (rG c)),(.agg (rF s))] (uk c s) (ik c s n ws) (lf c s) (lg c s) (.ptr 15 0 0 0)∧TT 4 (wF Try.prog 60 [(.ptr 15 0 0 0),(i6 n),(LI ws)] (un c s) (il n ws) (li c s n ws) [] (.tup [])∧TT 8 ((s.procs.map b5 = (((aD c s n ws).1).procs).map b5∧(s.chans.set n.toNat ((s.chans.getD n.toNat []) ++ ws)).map ax = (((aD c s n ws).1).chans).map ax∧True)∧(0 : Int) = ((aD c s n ws).2)∧True)))))))))) (TT 2 (CC (uj c n)∧TT 1 ((True∧(!(eL (·.frm) c n)) = true)∧TT 15 (((((aD c s n ws).1).procs) = []∧(((aD c s n ws).1).chans) = []∧True)∧(1 : Int) = ((aD c s n ws).2)∧True)))))) (.s 1 ((eL (·.frm) c n) = true) (.w 1 [(2,(uj c n).O),(4,.val (dB false)),(12,(yX ws ((c.chans.getD n.toNat bO).w)).O)] <| .b 25 (.e) (.q 3 [2,3,4,5,8] 3 <| .w 3 [(2,.inl (.ptr 15 0 0 0) (ik c s n ws) ((lf c s) ++ .dead :: (lg c s)))] <| .q 4 [2,3,8,10] 16 <| .w 4 [(3,.inl (.tup []) (il n ws) ((li c s n ws) ++ .dead :: []))] <| .e)) (.w 1 [(2,(uj c n).O),(4,.val (dB true))] <| .e)) Try.func47 rfl rfl rfl (by kernel_rfl) ?_
 refine tt ⟨fun hs0 => ?_,fun hs0 => ?_⟩
 · obtain ⟨ho1,ho2,ho3⟩ := rE hs0
   have hw : 1 ≤ (c.chans.getD n.toNat bO).w∧(c.chans.getD n.toNat bO).w ≤ 8 := bl.1 (hc.cw n.toNat (by omega))
   refine tt ⟨(pk c n hc),tt ⟨(mF hs0),tt ⟨ix,tt ⟨(sM ws ((c.chans.getD n.toNat bO).w) (by omega) (by omega) (by omega)),tt ⟨fun hc25 => ?_,fun hc25 => ?_⟩⟩⟩⟩⟩
   · refine tt ⟨⟨?_,?_,oK⟩,?_,oK⟩
     all_goals (all_goals (first | (rw [kZ hs0]) | (rw [k9 (by simpa using hc25)]) | (rw [ld hs0 (by simpa using hc25)])))
   · refine tt ⟨?_,?_⟩
     · intro tm0
       refine jk.vc (V := TT 6 (CO (yP s.procs)∧TT 2 (CO (yT s.chans)∧TT 5 (((.ptr 15 0 0 0) : D) = (.ptr 15 0 0 0)∧([(cI c),(cH s),ij,.frame tm0 (ik c s n ws),(cI c),(cH s),.dead,.dead,.dead,(ju s),.dead,.dead,(.arr 38 1 ax [] s.chans),.dead,.dead,(jt c)] : List am) = (lf c s) ++ .frame tm0 (ik c s n ws) :: (lg c s))))) (.w 1 [(3,(yP s.procs).O),(6,(yT s.chans).O)] <| .e) Try.func59 rfl rfl (by kernel_rfl) ?_
       exact tt ⟨(sJ s.procs om),tt ⟨(sK s.chans om),tt ⟨rfl,rfl⟩⟩⟩
     obtain ⟨ho1,ho2,ho3⟩ := rE hs0
     have hlw : (s.chans.getD n.toNat []).length ≤ 4294967296 := hsm n.toNat
     refine tt ⟨?_,?_⟩
     · intro tm0
       refine jk.vc (V := TT 4 (wF Try.prog 69 [(.ptr 15 0 0 0),(i6 n),(.fn (.func 70) [] [(.iptr [(.sl 1 (af .i64) 0 ws)] 0)])] (uo c s n ws tm0) (im n ws) (lh c s n ws tm0) [] (.tup [])∧True∧([(cI c),(cH s),ij,.dead,(cI c),(cH s),.dead,.dead,.dead,(ju s),.dead,.dead,(rI s n ws),.dead,.dead,(jt c),.frame tm0 (il n ws)] : List am) = (li c s n ws) ++ .frame tm0 (il n ws) :: [])) (.q 1 [0,1,5] 18 <| .f 1 17 <| .w 1 [(3,.inl (.tup []) (im n ws) ((lh c s n ws tm0) ++ .dead :: []))] <| .e) Try.func60 rfl rfl (by kernel_rfl) ?_
       refine tt ⟨?_,?_⟩
       · intro tm1
         refine jk.vc (V := TT 13 (IX n s.chans.length∧(n.toNat < s.chans.length∧True)∧CC (y2 (s.chans.getD n.toNat []) ws)∧IX n s.chans.length∧(n.toNat < s.chans.length∧(s.chans.map ax).set n.toNat ((ax (s.chans.getD n.toNat [])).take 0 ++ [(.sl 1 (af .i64) 0 ((s.chans.getD n.toNat []) ++ ws))] ++ (ax (s.chans.getD n.toNat [])).drop (0 + 1)) = (s.chans.set n.toNat ((s.chans.getD n.toNat []) ++ ws)).map ax)∧True∧([(cI c),(cH s),ij,.dead,(cI c),(cH s),.dead,.dead,.dead,(ju s),.dead,.dead,(rI s n ws),.dead,.dead,(jt c),(.frame tm0 (rH ws n)),.dead,.frame tm1 (im n ws)] : List am) = (lh c s n ws tm0) ++ .frame tm1 (im n ws) :: [])) (.w 0 [(15,(y2 (s.chans.getD n.toNat []) ws).O),(17,.box 38 1 ax [] (s.chans.set n.toNat ((s.chans.getD n.toNat []) ++ ws)))] <| .e) Try.func69 rfl rfl (by kernel_rfl) ?_
         exact tt ⟨ix,⟨⟨om,oK⟩,⟨(qH (s.chans.getD n.toNat []) ws om),⟨ix,⟨⟨om,by simp only [List.map_set]; rfl⟩,⟨oK,rfl⟩⟩⟩⟩⟩⟩
       exact ⟨oK,rfl⟩
     refine tt ⟨⟨(congrArg _ (?_ : s.procs = (((aD c s n ws).1).procs))),(congrArg _ (?_ : (s.chans.set n.toNat ((s.chans.getD n.toNat []) ++ ws)) = (((aD c s n ws).1).chans))),oK⟩,?_,oK⟩
     all_goals (all_goals (first | (rw [kZ hs0]) | (rw [k9 (by simpa using hc25)]) | (rw [ld hs0 (by simpa using hc25)])))
 · refine tt ⟨(pk c n hc),tt ⟨(mT hs0),tt ⟨⟨?_,?_,oK⟩,?_,oK⟩⟩⟩
   all_goals (all_goals (first | (rw [kZ hs0]) | (rw [k9 (by simpa using hc25)]) | (rw [ld hs0 (by simpa using hc25)])))
end Go.Proofs.Ytgmpoenfoacofaa
