/-
  Package network: what it answers.
-/
import Derived.Test.YtgmpoenfoacofaaGreatQNeI
namespace Go.Proofs.YtgmpoenfoacofaaGreat
open Go.RowKit
set_option linter.unusedVariables false
set_option linter.unusedSimpArgs false
abbrev xq (c : Ci) : List D := [(dL 6 ep ax c.procs),(dL 5 ez aX c.chans)]
abbrev xr (s : Ns) : List D := [(dL 2 aY ba s.procs),(dL 1 ac [] s.chans)]
abbrev sL (c : Ci) : aC := (.var 173 [(dL 6 ep ax c.procs),(dL 5 ez aX c.chans),(.own 9),(.own 12)])
abbrev Dl (ws : List Int) (n : Int) : List (Nat × D) := [(32,(LI ws)),(31,(i6 n)),(30,(.ptr 15 0 0 0)),(2,(i6 n)),(3,(LI ws)),(8,(.ptr 2 0 0 0)),(10,(.ptr 15 0 0 0))]
abbrev oA : aC := (.var 42 [.nils,.nils])
abbrev Dm (s : Ns) (n : Int) (ws : List Int) : aC := (.arr 28 1 ac [] (s.chans.set n.toNat ((s.chans.getD n.toNat []) ++ ws)))
abbrev fI (c : Ci) : aC := (.var 38 (xq c))
abbrev gB (s : Ns) : aC := (.var 42 (xr s))
abbrev sM (s : Ns) : aC := (.arr 112 2 aY ba s.procs)
set_option maxRecDepth 100000
abbrev Nh (c : Ci) (s : Ns) (cl : ByteArray) : Ct := ⟨80,[(.agg (xq c)),(.agg (xr s)),(dS cl)],true,(.tup [(.agg [(dL 2 aY ba ((a4 c s (bA c cl)).procs)),(dL 1 ac [] ((a4 c s (bA c cl)).chans))]),(LB (tab (aD c s (bA c cl)) c.procs.length))])⟩
theorem G1 (c : Ci) (s : Ns) (cl : ByteArray) (hc : bo c) (hs : bG c s) (hsm : ga s 4294967296) : CC (Nh c s cl) := by
 have hnl := hc.nl
 have hcl := hc.cl
 refine af.vc (V := TT 8 (CC (Ku c s cl)∧TT 6 ((((a4 c s (bA c cl)).procs).map aY = ((a4 c s (bA c cl)).procs).map aY∧((a4 c s (bA c cl)).chans).map ac = ((a4 c s (bA c cl)).chans).map ac∧True)∧(tab (aD c s (bA c cl)) c.procs.length).map aL = (tab (aD c s (bA c cl)) c.procs.length).map aL∧True))) (.f 1 0 <| .f 1 2 <| .w 1 [(3,(Ku c s cl).O)] <| .e) Tryz.func80 rfl rfl rfl (by kernel_rfl) ?_
 exact tt ⟨(EV c s cl hc hs hsm),tt ⟨⟨rfl,rfl,oK⟩,rfl,oK⟩⟩
abbrev LP (c : Ci) (s : Ns) (l : List ByteArray) : Ct := ⟨63,[(.agg (xq c)),(.agg (xr s)),(dL 1 eE .empty l)],true,(.agg [(dL 2 aY ba ((aB c s l).procs)),(dL 1 ac [] ((aB c s l).chans))])⟩
abbrev tB (c : Ci) (s : Ns) (l : List ByteArray) : Lp (Nat × Ns) := we [3,4,6,9,10,11] 3 (fun (i : Nat) (u : Ns) => ⟨[(3,(.ptr 0 0 0 0)),(4,(.ptr 1 0 0 0)),(6,(.ptr 2 0 0 0)),(9,(dL 1 eE .empty l)),(10,(i6 (l.length : Int))),(11,(i6 (i : Int)))],[(fI c),(.var 42 [(dL 2 aY ba u.procs),(dL 1 ac [] u.chans)]),oA]⟩) (fun (i : Nat) (u : Ns) => i ≤ l.length∧u = aB c s (l.take i)∧bG c u∧ga u (1000000000 + i)) (fun (i : Nat) (u : Ns) => l.length - i)
theorem Dn (c : Ci) (s : Ns) (l : List ByteArray) (hc : bo c) (hs : bG c s) (hsm : ga s 1000000000) (hl : l.length ≤ 1000000) : CC (LP c s l) := by
 have hnl := hc.nl
 have hcl := hc.cl
 refine af.vc (V := TT 6 (GO (tB c s l) (0,s) (∀ i u,(tB c s l).inv (i,u) → TT 1 (CD ((i : Int) < (l.length : Int)) (IX (i : Int) l.length∧TT 5 (CC (Nh c u (l.getD i .empty))∧TT 4 (W6 ((i + 1 : Nat) : Int)∧TT 1 (AG (tB c s l) (i,u) (i + 1,a4 c u (bA c (l.getD i .empty))))))) (TT 3 (u.procs.map aY = ((aB c s l).procs).map aY∧u.chans.map ac = ((aB c s l).chans).map ac∧True)))))) (.l (tB c s l) (0,s) (fun ⟨i,u⟩ => .b 12 (.w 4 [(3,(Nh c u (l.getD i .empty)).O)] <| .w 5 [(0,.val (i6 ((i + 1 : Nat) : Int)))] <| .e) (.e))) Tryz.func63 rfl rfl rfl (by kernel_rfl) ?_
 refine tt ⟨rfl,⟨by omega,rfl,hs,hsm⟩,?_⟩
 intro i u hinv
 obtain ⟨hi,hu,hus,hum⟩ := hinv
 refine tt (cd (fun hc12 => ?_) (fun hc12 => ?_))
 · refine ⟨ix,tt ⟨(G1 c u (l.getD i .empty) hc hus (fun n => by have := hum n; omega)),tt ⟨w6,tt ⟨(i + 1,a4 c u (bA c (l.getD i .empty))),rfl,?_,(?_ : l.length - (i + 1) < l.length - i)⟩⟩⟩⟩
   · exact ⟨by omega,by rw [hu]; exact (Ai (by omega)).symm,pb hc hus _,vg hc hum⟩
   · omega
 · refine tt ⟨(congrArg _ (?_ : u.procs = ((aB c s l).procs))),(congrArg _ (?_ : u.chans = ((aB c s l).chans))),oK⟩
   all_goals (all_goals (rw [hu,List.take_of_length_le (by omega)]))
abbrev LQ (c : Ci) (s : Ns) (n : Int) (ws : List Int) : Ct := ⟨62,[(.agg (xq c)),(.agg (xr s)),(i6 n),(LI ws)],true,(.tup [(.agg [(dL 2 aY ba (((aF c s n ws).1).procs)),(dL 1 ac [] (((aF c s n ws).1).chans))]),(i6 ((aF c s n ws).2))])⟩
abbrev G2 (c : Ci) (s : Ns) : List aC := [(fI c),(gB s),oA]
abbrev qw (c : Ci) (s : Ns) (n : Int) (ws : List Int) : List (Nat × D) := [(28,(.agg (xr s))),(27,(.agg (xq c))),(2,(i6 n)),(3,(LI ws)),(4,(.ptr 0 0 0 0)),(5,(.ptr 1 0 0 0)),(8,(.ptr 2 0 0 0))]
abbrev vn (c : Ci) (s : Ns) : List aC := [(fI c),(gB s),oA]
abbrev vo (c : Ci) (s : Ns) : List aC := [(fI c),(gB s),.dead,.dead,.dead,(sM s),.dead,.dead,(.arr 28 1 ac [] s.chans),.dead,.dead,(sL c)]
abbrev G3 (c : Ci) (s : Ns) : List aC := [(fI c),(gB s),oA,.dead,(fI c),(gB s),.dead,.dead,.dead,(sM s),.dead,.dead,(.arr 28 1 ac [] s.chans),.dead,.dead,(sL c)]
abbrev qx (n : Int) (ws : List Int) : List (Nat × D) := (Dl ws n)
abbrev G4 (c : Ci) (s : Ns) (n : Int) (ws : List Int) (tm0 : Array Value) : List aC := [(fI c),(gB s),oA,.dead,(fI c),(gB s),.dead,.dead,.dead,(sM s),.dead,.dead,(.arr 28 1 ac [] s.chans),.dead,.dead,(sL c),(.frame tm0 (Dl ws n)),.dead]
abbrev qy (n : Int) (ws : List Int) : List (Nat × D) := [(8,(.fn (.func 91) [] [(.iptr [(.sl 1 (ae .i64) 0 ws)] 0)])),(7,(i6 n)),(6,(.ptr 15 0 0 0)),(0,(.ptr 15 0 0 0)),(1,(i6 n)),(5,(.iptr [(.sl 1 (ae .i64) 0 ws)] 0))]
abbrev vp (c : Ci) (s : Ns) (n : Int) (ws : List Int) (tm0 : Array Value) : List aC := [(fI c),(gB s),oA,.dead,(fI c),(gB s),.dead,.dead,.dead,(sM s),.dead,.dead,(Dm s n ws),.dead,.dead,(sL c),(.frame tm0 (Dl ws n)),.dead]
abbrev vq (c : Ci) (s : Ns) (n : Int) (ws : List Int) : List aC := [(fI c),(gB s),oA,.dead,(fI c),(gB s),.dead,.dead,.dead,(sM s),.dead,.dead,(Dm s n ws),.dead,.dead,(sL c)]
theorem Aj (c : Ci) (s : Ns) (n : Int) (ws : List Int) (hc : bo c) (hs : bG c s) (hsm : ga s 4294967296) (hw : ws.length ≤ 4294967296) : CC (LQ c s n ws) := by
 have hnl := hc.nl
 have hcl := hc.cl
 have hl1 := hs.pl
 have hl2 := hs.cl
 refine af.vc (V := TT 4 (CS ((gw (·.frm) c n) = true) (TT 2 (CC (GQ c n)∧TT 1 ((True∧(!(gw (·.frm) c n)) = false)∧TT 4 (IX n c.chans.length∧TT 2 (CC (Nb ws ((c.chans.getD n.toNat aX).w))∧TT 2 (CB (!(cA ws ((c.chans.getD n.toNat aX).w))) (TT 5 (((((aF c s n ws).1).procs) = []∧(((aF c s n ws).1).chans) = []∧True)∧(1 : Int) = ((aF c s n ws).2)∧True)) (TT 2 (yf Tryz.prog 78 [(.agg (xq c)),(.agg (xr s))] (G2 c s) (qw c s n ws) (vn c s) (vo c s) (.ptr 15 0 0 0)∧TT 4 (yf Tryz.prog 79 [(.ptr 15 0 0 0),(i6 n),(LI ws)] (G3 c s) (qx n ws) (vq c s n ws) [] (.tup [])∧TT 8 ((s.procs.map aY = (((aF c s n ws).1).procs).map aY∧(s.chans.set n.toNat ((s.chans.getD n.toNat []) ++ ws)).map ac = (((aF c s n ws).1).chans).map ac∧True)∧(0 : Int) = ((aF c s n ws).2)∧True)))))))))) (TT 2 (CC (GQ c n)∧TT 1 ((True∧(!(gw (·.frm) c n)) = true)∧TT 15 (((((aF c s n ws).1).procs) = []∧(((aF c s n ws).1).chans) = []∧True)∧(1 : Int) = ((aF c s n ws).2)∧True)))))) (.s 1 ((gw (·.frm) c n) = true) (.w 1 [(2,(GQ c n).O),(4,.val (dB false)),(12,(Nb ws ((c.chans.getD n.toNat aX).w)).O)] <| .b 25 (.e) (.q 3 [2,3,4,5,8] 3 <| .w 3 [(2,.inl (.ptr 15 0 0 0) (qw c s n ws) ((vn c s) ++ .dead :: (vo c s)))] <| .q 4 [2,3,8,10] 16 <| .w 4 [(3,.inl (.tup []) (qx n ws) ((vq c s n ws) ++ .dead :: []))] <| .e)) (.w 1 [(2,(GQ c n).O),(4,.val (dB true))] <| .e)) Tryz.func62 rfl rfl rfl (by kernel_rfl) ?_
 refine tt ⟨fun hs0 => ?_,fun hs0 => ?_⟩
 · obtain ⟨ho1,ho2,ho3⟩ := Dk hs0
   have hw : 1 ≤ (c.chans.getD n.toNat aX).w∧(c.chans.getD n.toNat aX).w ≤ 8 := aU.1 (hc.cw n.toNat (by omega))
   refine tt ⟨(Ae c n hc),tt ⟨(mF hs0),tt ⟨ix,tt ⟨(EN ws ((c.chans.getD n.toNat aX).w) (by omega) (by omega) (by omega)),tt ⟨fun hc25 => ?_,fun hc25 => ?_⟩⟩⟩⟩⟩
   · refine tt ⟨⟨?_,?_,oK⟩,?_,oK⟩
     all_goals (all_goals (first | (rw [mg hs0]) | (rw [fB (by simpa using hc25)]) | (rw [qv hs0 (by simpa using hc25)])))
   · refine tt ⟨?_,?_⟩
     · intro tm0
       refine iw.vc (V := TT 6 (CO (LL s.procs)∧TT 2 (CO (LM s.chans)∧TT 5 (((.ptr 15 0 0 0) : D) = (.ptr 15 0 0 0)∧([(fI c),(gB s),oA,.frame tm0 (qw c s n ws),(fI c),(gB s),.dead,.dead,.dead,(sM s),.dead,.dead,(.arr 28 1 ac [] s.chans),.dead,.dead,(sL c)] : List aC) = (vn c s) ++ .frame tm0 (qw c s n ws) :: (vo c s))))) (.w 1 [(3,(LL s.procs).O),(6,(LM s.chans).O)] <| .e) Tryz.func78 rfl rfl (by kernel_rfl) ?_
       exact tt ⟨(xn s.procs om),tt ⟨(xo s.chans om),tt ⟨rfl,rfl⟩⟩⟩
     obtain ⟨ho1,ho2,ho3⟩ := Dk hs0
     have hlw : (s.chans.getD n.toNat []).length ≤ 4294967296 := hsm n.toNat
     refine tt ⟨?_,?_⟩
     · intro tm0
       refine iw.vc (V := TT 4 (yf Tryz.prog 90 [(.ptr 15 0 0 0),(i6 n),(.fn (.func 91) [] [(.iptr [(.sl 1 (ae .i64) 0 ws)] 0)])] (G4 c s n ws tm0) (qy n ws) (vp c s n ws tm0) [] (.tup [])∧True∧([(fI c),(gB s),oA,.dead,(fI c),(gB s),.dead,.dead,.dead,(sM s),.dead,.dead,(Dm s n ws),.dead,.dead,(sL c),.frame tm0 (qx n ws)] : List aC) = (vq c s n ws) ++ .frame tm0 (qx n ws) :: [])) (.q 1 [0,1,5] 18 <| .f 1 17 <| .w 1 [(3,.inl (.tup []) (qy n ws) ((vp c s n ws tm0) ++ .dead :: []))] <| .e) Tryz.func79 rfl rfl (by kernel_rfl) ?_
       refine tt ⟨?_,?_⟩
       · intro tm1
         refine iw.vc (V := TT 13 (IX n s.chans.length∧(n.toNat < s.chans.length∧True)∧CC (LO (s.chans.getD n.toNat []) ws)∧IX n s.chans.length∧(n.toNat < s.chans.length∧(s.chans.map ac).set n.toNat ((ac (s.chans.getD n.toNat [])).take 0 ++ [(.sl 1 (ae .i64) 0 ((s.chans.getD n.toNat []) ++ ws))] ++ (ac (s.chans.getD n.toNat [])).drop (0 + 1)) = (s.chans.set n.toNat ((s.chans.getD n.toNat []) ++ ws)).map ac)∧True∧([(fI c),(gB s),oA,.dead,(fI c),(gB s),.dead,.dead,.dead,(sM s),.dead,.dead,(Dm s n ws),.dead,.dead,(sL c),(.frame tm0 (Dl ws n)),.dead,.frame tm1 (qy n ws)] : List aC) = (vp c s n ws tm0) ++ .frame tm1 (qy n ws) :: [])) (.w 0 [(15,(LO (s.chans.getD n.toNat []) ws).O),(17,.box 28 1 ac [] (s.chans.set n.toNat ((s.chans.getD n.toNat []) ++ ws)))] <| .e) Tryz.func90 rfl rfl (by kernel_rfl) ?_
         exact tt ⟨ix,⟨⟨om,oK⟩,⟨(vk (s.chans.getD n.toNat []) ws om),⟨ix,⟨⟨om,by simp only [List.map_set]; rfl⟩,⟨oK,rfl⟩⟩⟩⟩⟩⟩
       exact ⟨oK,rfl⟩
     refine tt ⟨⟨(congrArg _ (?_ : s.procs = (((aF c s n ws).1).procs))),(congrArg _ (?_ : (s.chans.set n.toNat ((s.chans.getD n.toNat []) ++ ws)) = (((aF c s n ws).1).chans))),oK⟩,?_,oK⟩
     all_goals (all_goals (first | (rw [mg hs0]) | (rw [fB (by simpa using hc25)]) | (rw [qv hs0 (by simpa using hc25)])))
 · refine tt ⟨(Ae c n hc),tt ⟨(mT hs0),tt ⟨⟨?_,?_,oK⟩,?_,oK⟩⟩⟩
   all_goals (all_goals (first | (rw [mg hs0]) | (rw [fB (by simpa using hc25)]) | (rw [qv hs0 (by simpa using hc25)])))
end Go.Proofs.YtgmpoenfoacofaaGreat
