/-
  Package network: what it answers.
-/
import Derived.Test.YtgmpoenfoacofaaGreatQNeI
namespace Go.Proofs.YtgmpoenfoacofaaGreat
open Go.RowKit
set_option linter.unusedVariables false
set_option linter.unusedSimpArgs false
abbrev wn (c : Ci) : List D := [(dL 6 eO av c.procs),(dL 5 eY ba c.chans)]
abbrev wo (s : Ns) : List D := [(dL 2 bf bw s.procs),(dL 1 ac [] s.chans)]
abbrev rM (c : Ci) : aA := (.var 173 [(dL 6 eO av c.procs),(dL 5 eY ba c.chans),(.own 9),(.own 12)])
abbrev Ce (ws : List Int) (n : Int) : List (Nat × D) := [(32,(LI ws)),(31,(i6 n)),(30,(.ptr 15 0 0 0)),(2,(i6 n)),(3,(LI ws)),(8,(.ptr 2 0 0 0)),(10,(.ptr 15 0 0 0))]
abbrev nc : aA := (.var 42 [.nils,.nils])
abbrev Cf (s : Ns) (n : Int) (ws : List Int) : aA := (.arr 28 1 ac [] (s.chans.set n.toNat ((s.chans.getD n.toNat []) ++ ws)))
abbrev fl (c : Ci) : aA := (.var 38 (wn c))
abbrev f6 (s : Ns) : aA := (.var 42 (wo s))
abbrev rN (s : Ns) : aA := (.arr 112 2 bf bw s.procs)
set_option maxRecDepth 100000
abbrev L3 (c : Ci) (s : Ns) (cl : ByteArray) : Ct := ⟨80,[(.agg (wn c)),(.agg (wo s)),(dS cl)],true,(.tup [(.agg [(dL 2 bf bw ((aF c s (cG c cl)).procs)),(dL 1 ac [] ((aF c s (cG c cl)).chans))]),(LB (tab (aC c s (cG c cl)) c.procs.length))])⟩
theorem FY (c : Ci) (s : Ns) (cl : ByteArray) (hc : a8 c) (hs : bG c s) (hsm : ir s 4294967296) : CC (L3 c s cl) := by
 have hnl := hc.nl
 have hcl := hc.cl
 refine ah.vc (V := TT 8 (CC (Jt c s cl)∧TT 6 ((((aF c s (cG c cl)).procs).map bf = ((aF c s (cG c cl)).procs).map bf∧((aF c s (cG c cl)).chans).map ac = ((aF c s (cG c cl)).chans).map ac∧True)∧(tab (aC c s (cG c cl)) c.procs.length).map aQ = (tab (aC c s (cG c cl)) c.procs.length).map aQ∧True))) (.f 1 0 <| .f 1 2 <| .w 1 [(3,(Jt c s cl).O)] <| .e) Tryz.func80 rfl rfl rfl (by kernel_rfl) ?_
 exact tt ⟨(DU c s cl hc hs hsm),tt ⟨⟨rfl,rfl,oK⟩,rfl,oK⟩⟩
abbrev KB (c : Ci) (s : Ns) (l : List ByteArray) : Ct := ⟨63,[(.agg (wn c)),(.agg (wo s)),(dL 1 dj .empty l)],true,(.agg [(dL 2 bf bw ((aq c s l).procs)),(dL 1 ac [] ((aq c s l).chans))])⟩
abbrev sA (c : Ci) (s : Ns) (l : List ByteArray) : Lp (Nat × Ns) := vX [3,4,6,9,10,11] 3 (fun (i : Nat) (u : Ns) => ⟨[(3,(.ptr 0 0 0 0)),(4,(.ptr 1 0 0 0)),(6,(.ptr 2 0 0 0)),(9,(dL 1 dj .empty l)),(10,(i6 (l.length : Int))),(11,(i6 (i : Int)))],[(fl c),(.var 42 [(dL 2 bf bw u.procs),(dL 1 ac [] u.chans)]),nc]⟩) (fun (i : Nat) (u : Ns) => i ≤ l.length∧u = aq c s (l.take i)∧bG c u∧ir u (1000000000 + i)) (fun (i : Nat) (u : Ns) => l.length - i)
theorem Cg (c : Ci) (s : Ns) (l : List ByteArray) (hc : a8 c) (hs : bG c s) (hsm : ir s 1000000000) (hl : l.length ≤ 1000000) : CC (KB c s l) := by
 have hnl := hc.nl
 have hcl := hc.cl
 refine ah.vc (V := TT 6 (GO (sA c s l) (0,s) (∀ i u,(sA c s l).inv (i,u) → TT 1 (CD ((i : Int) < (l.length : Int)) (IX (i : Int) l.length∧TT 5 (CC (L3 c u (l.getD i .empty))∧TT 4 (W6 ((i + 1 : Nat) : Int)∧TT 1 (AG (sA c s l) (i,u) (i + 1,aF c u (cG c (l.getD i .empty))))))) (TT 3 (u.procs.map bf = ((aq c s l).procs).map bf∧u.chans.map ac = ((aq c s l).chans).map ac∧True)))))) (.l (sA c s l) (0,s) (fun ⟨i,u⟩ => .b 12 (.w 4 [(3,(L3 c u (l.getD i .empty)).O)] <| .w 5 [(0,.val (i6 ((i + 1 : Nat) : Int)))] <| .e) (.e))) Tryz.func63 rfl rfl rfl (by kernel_rfl) ?_
 refine tt ⟨rfl,⟨by omega,rfl,hs,hsm⟩,?_⟩
 intro i u hinv
 obtain ⟨hi,hu,hus,hum⟩ := hinv
 refine tt (cd (fun hc12 => ?_) (fun hc12 => ?_))
 · refine ⟨ix,tt ⟨(FY c u (l.getD i .empty) hc hus (fun n => by have := hum n; omega)),tt ⟨w6,tt ⟨(i + 1,aF c u (cG c (l.getD i .empty))),rfl,?_,(?_ : l.length - (i + 1) < l.length - i)⟩⟩⟩⟩
   · exact ⟨by omega,by rw [hu]; exact (FV (by omega)).symm,gi hc hus _,qV hc hum⟩
   · omega
 · refine tt ⟨(congrArg _ (?_ : u.procs = ((aq c s l).procs))),(congrArg _ (?_ : u.chans = ((aq c s l).chans))),oK⟩
   all_goals (all_goals (rw [hu,List.take_of_length_le (by omega)]))
abbrev KC (c : Ci) (s : Ns) (n : Int) (ws : List Int) : Ct := ⟨62,[(.agg (wn c)),(.agg (wo s)),(i6 n),(LI ws)],true,(.tup [(.agg [(dL 2 bf bw (((aW c s n ws).1).procs)),(dL 1 ac [] (((aW c s n ws).1).chans))]),(i6 ((aW c s n ws).2))])⟩
abbrev FZ (c : Ci) (s : Ns) : List aA := [(fl c),(f6 s),nc]
abbrev pE (c : Ci) (s : Ns) (n : Int) (ws : List Int) : List (Nat × D) := [(28,(.agg (wo s))),(27,(.agg (wn c))),(2,(i6 n)),(3,(LI ws)),(4,(.ptr 0 0 0 0)),(5,(.ptr 1 0 0 0)),(8,(.ptr 2 0 0 0))]
abbrev uj (c : Ci) (s : Ns) : List aA := [(fl c),(f6 s),nc]
abbrev uk (c : Ci) (s : Ns) : List aA := [(fl c),(f6 s),.dead,.dead,.dead,(rN s),.dead,.dead,(.arr 28 1 ac [] s.chans),.dead,.dead,(rM c)]
abbrev F0 (c : Ci) (s : Ns) : List aA := [(fl c),(f6 s),nc,.dead,(fl c),(f6 s),.dead,.dead,.dead,(rN s),.dead,.dead,(.arr 28 1 ac [] s.chans),.dead,.dead,(rM c)]
abbrev pF (n : Int) (ws : List Int) : List (Nat × D) := (Ce ws n)
abbrev F1 (c : Ci) (s : Ns) (n : Int) (ws : List Int) (tm0 : Array Value) : List aA := [(fl c),(f6 s),nc,.dead,(fl c),(f6 s),.dead,.dead,.dead,(rN s),.dead,.dead,(.arr 28 1 ac [] s.chans),.dead,.dead,(rM c),(.frame tm0 (Ce ws n)),.dead]
abbrev pG (n : Int) (ws : List Int) : List (Nat × D) := [(8,(.fn (.func 91) [] [(.iptr [(.sl 1 (ae .i64) 0 ws)] 0)])),(7,(i6 n)),(6,(.ptr 15 0 0 0)),(0,(.ptr 15 0 0 0)),(1,(i6 n)),(5,(.iptr [(.sl 1 (ae .i64) 0 ws)] 0))]
abbrev un (c : Ci) (s : Ns) (n : Int) (ws : List Int) (tm0 : Array Value) : List aA := [(fl c),(f6 s),nc,.dead,(fl c),(f6 s),.dead,.dead,.dead,(rN s),.dead,.dead,(Cf s n ws),.dead,.dead,(rM c),(.frame tm0 (Ce ws n)),.dead]
abbrev uo (c : Ci) (s : Ns) (n : Int) (ws : List Int) : List aA := [(fl c),(f6 s),nc,.dead,(fl c),(f6 s),.dead,.dead,.dead,(rN s),.dead,.dead,(Cf s n ws),.dead,.dead,(rM c)]
theorem zm (c : Ci) (s : Ns) (n : Int) (ws : List Int) (hc : a8 c) (hs : bG c s) (hsm : ir s 4294967296) (hw : ws.length ≤ 4294967296) : CC (KC c s n ws) := by
 have hnl := hc.nl
 have hcl := hc.cl
 have hl1 := hs.pl
 have hl2 := hs.cl
 refine ah.vc (V := TT 4 (CS ((iE (·.frm) c n) = true) (TT 2 (CC (FM c n)∧TT 1 ((True∧(!(iE (·.frm) c n)) = false)∧TT 4 (IX n c.chans.length∧TT 2 (CC (LX ws ((c.chans.getD n.toNat ba).w))∧TT 2 (CB (!(cE ws ((c.chans.getD n.toNat ba).w))) (TT 5 (((((aW c s n ws).1).procs) = []∧(((aW c s n ws).1).chans) = []∧True)∧(1 : Int) = ((aW c s n ws).2)∧True)) (TT 2 (xh Tryz.prog 78 [(.agg (wn c)),(.agg (wo s))] (FZ c s) (pE c s n ws) (uj c s) (uk c s) (.ptr 15 0 0 0)∧TT 4 (xh Tryz.prog 79 [(.ptr 15 0 0 0),(i6 n),(LI ws)] (F0 c s) (pF n ws) (uo c s n ws) [] (.tup [])∧TT 8 ((s.procs.map bf = (((aW c s n ws).1).procs).map bf∧(s.chans.set n.toNat ((s.chans.getD n.toNat []) ++ ws)).map ac = (((aW c s n ws).1).chans).map ac∧True)∧(0 : Int) = ((aW c s n ws).2)∧True)))))))))) (TT 2 (CC (FM c n)∧TT 1 ((True∧(!(iE (·.frm) c n)) = true)∧TT 15 (((((aW c s n ws).1).procs) = []∧(((aW c s n ws).1).chans) = []∧True)∧(1 : Int) = ((aW c s n ws).2)∧True)))))) (.s 1 ((iE (·.frm) c n) = true) (.w 1 [(2,(FM c n).O),(4,.val (dB false)),(12,(LX ws ((c.chans.getD n.toNat ba).w)).O)] <| .b 25 (.e) (.q 3 [2,3,4,5,8] 3 <| .w 3 [(2,.inl (.ptr 15 0 0 0) (pE c s n ws) ((uj c s) ++ .dead :: (uk c s)))] <| .q 4 [2,3,8,10] 16 <| .w 4 [(3,.inl (.tup []) (pF n ws) ((uo c s n ws) ++ .dead :: []))] <| .e)) (.w 1 [(2,(FM c n).O),(4,.val (dB true))] <| .e)) Tryz.func62 rfl rfl rfl (by kernel_rfl) ?_
 refine tt ⟨fun hs0 => ?_,fun hs0 => ?_⟩
 · obtain ⟨ho1,ho2,ho3⟩ := Cd hs0
   have hw : 1 ≤ (c.chans.getD n.toNat ba).w∧(c.chans.getD n.toNat ba).w ≤ 8 := aP.1 (hc.cw n.toNat (by omega))
   refine tt ⟨(zh c n hc),tt ⟨(mF hs0),tt ⟨ix,tt ⟨(DM ws ((c.chans.getD n.toNat ba).w) (by omega) (by omega) (by omega)),tt ⟨fun hc25 => ?_,fun hc25 => ?_⟩⟩⟩⟩⟩
   · refine tt ⟨⟨?_,?_,oK⟩,?_,oK⟩
     all_goals (all_goals (first | (rw [ub hs0]) | (rw [ud (by simpa using hc25)]) | (rw [pD hs0 (by simpa using hc25)])))
   · refine tt ⟨?_,?_⟩
     · intro tm0
       refine hJ.vc (V := TT 6 (CO (Kx s.procs)∧TT 2 (CO (Ky s.chans)∧TT 5 (((.ptr 15 0 0 0) : D) = (.ptr 15 0 0 0)∧([(fl c),(f6 s),nc,.frame tm0 (pE c s n ws),(fl c),(f6 s),.dead,.dead,.dead,(rN s),.dead,.dead,(.arr 28 1 ac [] s.chans),.dead,.dead,(rM c)] : List aA) = (uj c s) ++ .frame tm0 (pE c s n ws) :: (uk c s))))) (.w 1 [(3,(Kx s.procs).O),(6,(Ky s.chans).O)] <| .e) Tryz.func78 rfl rfl (by kernel_rfl) ?_
       exact tt ⟨(wj s.procs om),tt ⟨(wk s.chans om),tt ⟨rfl,rfl⟩⟩⟩
     obtain ⟨ho1,ho2,ho3⟩ := Cd hs0
     have hlw : (s.chans.getD n.toNat []).length ≤ 4294967296 := hsm n.toNat
     refine tt ⟨?_,?_⟩
     · intro tm0
       refine hJ.vc (V := TT 4 (xh Tryz.prog 90 [(.ptr 15 0 0 0),(i6 n),(.fn (.func 91) [] [(.iptr [(.sl 1 (ae .i64) 0 ws)] 0)])] (F1 c s n ws tm0) (pG n ws) (un c s n ws tm0) [] (.tup [])∧True∧([(fl c),(f6 s),nc,.dead,(fl c),(f6 s),.dead,.dead,.dead,(rN s),.dead,.dead,(Cf s n ws),.dead,.dead,(rM c),.frame tm0 (pF n ws)] : List aA) = (uo c s n ws) ++ .frame tm0 (pF n ws) :: [])) (.q 1 [0,1,5] 18 <| .f 1 17 <| .w 1 [(3,.inl (.tup []) (pG n ws) ((un c s n ws tm0) ++ .dead :: []))] <| .e) Tryz.func79 rfl rfl (by kernel_rfl) ?_
       refine tt ⟨?_,?_⟩
       · intro tm1
         refine hJ.vc (V := TT 13 (IX n s.chans.length∧(n.toNat < s.chans.length∧True)∧CC (KA (s.chans.getD n.toNat []) ws)∧IX n s.chans.length∧(n.toNat < s.chans.length∧(s.chans.map ac).set n.toNat ((ac (s.chans.getD n.toNat [])).take 0 ++ [(.sl 1 (ae .i64) 0 ((s.chans.getD n.toNat []) ++ ws))] ++ (ac (s.chans.getD n.toNat [])).drop (0 + 1)) = (s.chans.set n.toNat ((s.chans.getD n.toNat []) ++ ws)).map ac)∧True∧([(fl c),(f6 s),nc,.dead,(fl c),(f6 s),.dead,.dead,.dead,(rN s),.dead,.dead,(Cf s n ws),.dead,.dead,(rM c),(.frame tm0 (Ce ws n)),.dead,.frame tm1 (pG n ws)] : List aA) = (un c s n ws tm0) ++ .frame tm1 (pG n ws) :: [])) (.w 0 [(15,(KA (s.chans.getD n.toNat []) ws).O),(17,.box 28 1 ac [] (s.chans.set n.toNat ((s.chans.getD n.toNat []) ++ ws)))] <| .e) Tryz.func90 rfl rfl (by kernel_rfl) ?_
         exact tt ⟨ix,⟨⟨om,oK⟩,⟨(ue (s.chans.getD n.toNat []) ws om),⟨ix,⟨⟨om,by simp only [List.map_set]; rfl⟩,⟨oK,rfl⟩⟩⟩⟩⟩⟩
       exact ⟨oK,rfl⟩
     refine tt ⟨⟨(congrArg _ (?_ : s.procs = (((aW c s n ws).1).procs))),(congrArg _ (?_ : (s.chans.set n.toNat ((s.chans.getD n.toNat []) ++ ws)) = (((aW c s n ws).1).chans))),oK⟩,?_,oK⟩
     all_goals (all_goals (first | (rw [ub hs0]) | (rw [ud (by simpa using hc25)]) | (rw [pD hs0 (by simpa using hc25)])))
 · refine tt ⟨(zh c n hc),tt ⟨(mT hs0),tt ⟨⟨?_,?_,oK⟩,?_,oK⟩⟩⟩
   all_goals (all_goals (first | (rw [ub hs0]) | (rw [ud (by simpa using hc25)]) | (rw [pD hs0 (by simpa using hc25)])))
end Go.Proofs.YtgmpoenfoacofaaGreat
