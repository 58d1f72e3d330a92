/-
  Package network: what it answers.
-/
import Derived.Test.YtgmpoenfoacofaaGreatQNeI
namespace Go.Proofs.YtgmpoenfoacofaaGreat
open Go.RowKit
set_option linter.unusedVariables false
set_option linter.unusedSimpArgs false
abbrev vw (c : Ci) : List D := [(dL 6 eI ax c.procs),(dL 5 eP a8 c.chans)]
abbrev vx (s : Ns) : List D := [(dL 2 be bx s.procs),(dL 1 ac [] s.chans)]
abbrev rc (c : Ci) : aA := (.var 173 [(dL 6 eI ax c.procs),(dL 5 eP a8 c.chans),(.own 9),(.own 12)])
abbrev Br (ws : List Int) (n : Int) : List (Nat × D) := [(32,(LI ws)),(31,(i6 n)),(30,(.ptr 15 0 0 0)),(2,(i6 n)),(3,(LI ws)),(8,(.ptr 2 0 0 0)),(10,(.ptr 15 0 0 0))]
abbrev mI : aA := (.var 42 [.nils,.nils])
abbrev Bs (s : Ns) (n : Int) (ws : List Int) : aA := (.arr 28 1 ac [] (s.chans.set n.toNat ((s.chans.getD n.toNat []) ++ ws)))
abbrev fe (c : Ci) : aA := (.var 38 (vw c))
abbrev fQ (s : Ns) : aA := (.var 42 (vx s))
abbrev rf (s : Ns) : aA := (.arr 112 2 be bx s.procs)
set_option maxRecDepth 100000
abbrev Ld (c : Ci) (s : Ns) (cl : ByteArray) : Ct := ⟨80,[(.agg (vw c)),(.agg (vx s)),(dS cl)],true,(.tup [(.agg [(dL 2 be bx ((aG c s (cF c cl)).procs)),(dL 1 ac [] ((aG c s (cF c cl)).chans))]),(LB (ao (aC c s (cF c cl)) c.procs.length))])⟩
theorem Ff (c : Ci) (s : Ns) (cl : ByteArray) (hc : a6 c) (hs : bH c s) (hsm : ic s 4294967296) : CC (Ld c s cl) := by
 have hnl := hc.nl
 have hcl := hc.cl
 refine ah.vc (V := TT 8 (CC (IC c s cl)∧TT 6 ((((aG c s (cF c cl)).procs).map be = ((aG c s (cF c cl)).procs).map be∧((aG c s (cF c cl)).chans).map ac = ((aG c s (cF c cl)).chans).map ac∧True)∧(ao (aC c s (cF c cl)) c.procs.length).map aO = (ao (aC c s (cF c cl)) c.procs.length).map aO∧True))) (.f 1 0 <| .f 1 2 <| .w 1 [(3,(IC c s cl).O)] <| .e) Tryz.func80 rfl rfl rfl (by kernel_rfl) ?_
 exact tt ⟨(C8 c s cl hc hs hsm),tt ⟨⟨rfl,rfl,oK⟩,rfl,oK⟩⟩
abbrev JS (c : Ci) (s : Ns) (l : List ByteArray) : Ct := ⟨63,[(.agg (vw c)),(.agg (vx s)),(dL 1 dg .empty l)],true,(.agg [(dL 2 be bx ((au c s l).procs)),(dL 1 ac [] ((au c s l).chans))])⟩
abbrev rP (c : Ci) (s : Ns) (l : List ByteArray) : Lp (Nat × Ns) := uZ [3,4,6,9,10,11] 3 (fun (i : Nat) (u : Ns) => ⟨[(3,(.ptr 0 0 0 0)),(4,(.ptr 1 0 0 0)),(6,(.ptr 2 0 0 0)),(9,(dL 1 dg .empty l)),(10,(i6 (l.length : Int))),(11,(i6 (i : Int)))],[(fe c),(.var 42 [(dL 2 be bx u.procs),(dL 1 ac [] u.chans)]),mI]⟩) (fun (i : Nat) (u : Ns) => i ≤ l.length∧u = au c s (l.take i)∧bH c u∧ic u (1000000000 + i)) (fun (i : Nat) (u : Ns) => l.length - i)
theorem Bt (c : Ci) (s : Ns) (l : List ByteArray) (hc : a6 c) (hs : bH c s) (hsm : ic s 1000000000) (hl : l.length ≤ 1000000) : CC (JS c s l) := by
 have hnl := hc.nl
 have hcl := hc.cl
 refine ah.vc (V := TT 6 (GO (rP c s l) (0,s) (∀ i u,(rP c s l).inv (i,u) → TT 1 (CD ((i : Int) < (l.length : Int)) (IX (i : Int) l.length∧TT 5 (CC (Ld c u (l.getD i .empty))∧TT 4 (W6 ((i + 1 : Nat) : Int)∧TT 1 (AG (rP c s l) (i,u) (i + 1,aG c u (cF c (l.getD i .empty))))))) (TT 3 (u.procs.map be = ((au c s l).procs).map be∧u.chans.map ac = ((au c s l).chans).map ac∧True)))))) (.l (rP c s l) (0,s) (fun ⟨i,u⟩ => .b 12 (.w 4 [(3,(Ld c u (l.getD i .empty)).O)] <| .w 5 [(0,.val (i6 ((i + 1 : Nat) : Int)))] <| .e) (.e))) Tryz.func63 rfl rfl rfl (by kernel_rfl) ?_
 refine tt ⟨rfl,⟨by omega,rfl,hs,hsm⟩,?_⟩
 intro i u hinv
 obtain ⟨hi,hu,hus,hum⟩ := hinv
 refine tt (cd (fun hc12 => ?_) (fun hc12 => ?_))
 · refine ⟨ix,tt ⟨(Ff c u (l.getD i .empty) hc hus (fun n => by have := hum n; omega)),tt ⟨w6,tt ⟨(i + 1,aG c u (cF c (l.getD i .empty))),rfl,?_,(?_ : l.length - (i + 1) < l.length - i)⟩⟩⟩⟩
   · exact ⟨by omega,by rw [hu]; exact (Fc (by omega)).symm,f5 hc hus _,qw hc hum⟩
   · omega
 · refine tt ⟨(congrArg _ (?_ : u.procs = ((au c s l).procs))),(congrArg _ (?_ : u.chans = ((au c s l).chans))),oK⟩
   all_goals (all_goals (rw [hu,List.take_of_length_le (by omega)]))
abbrev JT (c : Ci) (s : Ns) (n : Int) (ws : List Int) : Ct := ⟨62,[(.agg (vw c)),(.agg (vx s)),(i6 n),(LI ws)],true,(.tup [(.agg [(dL 2 be bx (((aW c s n ws).1).procs)),(dL 1 ac [] (((aW c s n ws).1).chans))]),(i6 ((aW c s n ws).2))])⟩
abbrev Fg (c : Ci) (s : Ns) : List aA := [(fe c),(fQ s),mI]
abbrev o7 (c : Ci) (s : Ns) (n : Int) (ws : List Int) : List (Nat × D) := [(28,(.agg (vx s))),(27,(.agg (vw c))),(2,(i6 n)),(3,(LI ws)),(4,(.ptr 0 0 0 0)),(5,(.ptr 1 0 0 0)),(8,(.ptr 2 0 0 0))]
abbrev tx (c : Ci) (s : Ns) : List aA := [(fe c),(fQ s),mI]
abbrev tz (c : Ci) (s : Ns) : List aA := [(fe c),(fQ s),.dead,.dead,.dead,(rf s),.dead,.dead,(.arr 28 1 ac [] s.chans),.dead,.dead,(rc c)]
abbrev Fh (c : Ci) (s : Ns) : List aA := [(fe c),(fQ s),mI,.dead,(fe c),(fQ s),.dead,.dead,.dead,(rf s),.dead,.dead,(.arr 28 1 ac [] s.chans),.dead,.dead,(rc c)]
abbrev o8 (n : Int) (ws : List Int) : List (Nat × D) := (Br ws n)
abbrev Fj (c : Ci) (s : Ns) (n : Int) (ws : List Int) (tm0 : Array Value) : List aA := [(fe c),(fQ s),mI,.dead,(fe c),(fQ s),.dead,.dead,.dead,(rf s),.dead,.dead,(.arr 28 1 ac [] s.chans),.dead,.dead,(rc c),(.frame tm0 (Br ws n)),.dead]
abbrev o9 (n : Int) (ws : List Int) : List (Nat × D) := [(8,(.fn (.func 91) [] [(.iptr [(.sl 1 (ae .i64) 0 ws)] 0)])),(7,(i6 n)),(6,(.ptr 15 0 0 0)),(0,(.ptr 15 0 0 0)),(1,(i6 n)),(5,(.iptr [(.sl 1 (ae .i64) 0 ws)] 0))]
abbrev tA (c : Ci) (s : Ns) (n : Int) (ws : List Int) (tm0 : Array Value) : List aA := [(fe c),(fQ s),mI,.dead,(fe c),(fQ s),.dead,.dead,.dead,(rf s),.dead,.dead,(Bs s n ws),.dead,.dead,(rc c),(.frame tm0 (Br ws n)),.dead]
abbrev tB (c : Ci) (s : Ns) (n : Int) (ws : List Int) : List aA := [(fe c),(fQ s),mI,.dead,(fe c),(fQ s),.dead,.dead,.dead,(rf s),.dead,.dead,(Bs s n ws),.dead,.dead,(rc c)]
theorem yr (c : Ci) (s : Ns) (n : Int) (ws : List Int) (hc : a6 c) (hs : bH c s) (hsm : ic s 4294967296) (hw : ws.length ≤ 4294967296) : CC (JT c s n ws) := by
 have hnl := hc.nl
 have hcl := hc.cl
 have hl1 := hs.pl
 have hl2 := hs.cl
 refine ah.vc (V := TT 4 (CS ((ir (·.frm) c n) = true) (TT 2 (CC (E3 c n)∧TT 1 ((True∧(!(ir (·.frm) c n)) = false)∧TT 4 (IX n c.chans.length∧TT 2 (CC (K8 ws ((c.chans.getD n.toNat a8).w))∧TT 2 (CB (!(cD ws ((c.chans.getD n.toNat a8).w))) (TT 5 (((((aW c s n ws).1).procs) = []∧(((aW c s n ws).1).chans) = []∧True)∧(1 : Int) = ((aW c s n ws).2)∧True)) (TT 2 (wn Tryz.prog 78 [(.agg (vw c)),(.agg (vx s))] (Fg c s) (o7 c s n ws) (tx c s) (tz c s) (.ptr 15 0 0 0)∧TT 4 (wn Tryz.prog 79 [(.ptr 15 0 0 0),(i6 n),(LI ws)] (Fh c s) (o8 n ws) (tB c s n ws) [] (.tup [])∧TT 8 ((s.procs.map be = (((aW c s n ws).1).procs).map be∧(s.chans.set n.toNat ((s.chans.getD n.toNat []) ++ ws)).map ac = (((aW c s n ws).1).chans).map ac∧True)∧(0 : Int) = ((aW c s n ws).2)∧True)))))))))) (TT 2 (CC (E3 c n)∧TT 1 ((True∧(!(ir (·.frm) c n)) = true)∧TT 15 (((((aW c s n ws).1).procs) = []∧(((aW c s n ws).1).chans) = []∧True)∧(1 : Int) = ((aW c s n ws).2)∧True)))))) (.s 1 ((ir (·.frm) c n) = true) (.w 1 [(2,(E3 c n).O),(4,.val (dB false)),(12,(K8 ws ((c.chans.getD n.toNat a8).w)).O)] <| .b 25 (.e) (.q 3 [2,3,4,5,8] 3 <| .w 3 [(2,.inl (.ptr 15 0 0 0) (o7 c s n ws) ((tx c s) ++ .dead :: (tz c s)))] <| .q 4 [2,3,8,10] 16 <| .w 4 [(3,.inl (.tup []) (o8 n ws) ((tB c s n ws) ++ .dead :: []))] <| .e)) (.w 1 [(2,(E3 c n).O),(4,.val (dB true))] <| .e)) Tryz.func62 rfl rfl rfl (by kernel_rfl) ?_
 refine tt ⟨fun hs0 => ?_,fun hs0 => ?_⟩
 · obtain ⟨ho1,ho2,ho3⟩ := Bq hs0
   have hw : 1 ≤ (c.chans.getD n.toNat a8).w∧(c.chans.getD n.toNat a8).w ≤ 8 := aN.1 (hc.cw n.toNat (by omega))
   refine tt ⟨(ym c n hc),tt ⟨(mF hs0),tt ⟨ix,tt ⟨(C0 ws ((c.chans.getD n.toNat a8).w) (by omega) (by omega) (by omega)),tt ⟨fun hc25 => ?_,fun hc25 => ?_⟩⟩⟩⟩⟩
   · refine tt ⟨⟨?_,?_,oK⟩,?_,oK⟩
     all_goals (all_goals (first | (rw [ts hs0]) | (rw [tu (by simpa using hc25)]) | (rw [o6 hs0 (by simpa using hc25)])))
   · refine tt ⟨?_,?_⟩
     · intro tm0
       refine gT.vc (V := TT 6 (CO (JO s.procs)∧TT 2 (CO (JP s.chans)∧TT 5 (((.ptr 15 0 0 0) : D) = (.ptr 15 0 0 0)∧([(fe c),(fQ s),mI,.frame tm0 (o7 c s n ws),(fe c),(fQ s),.dead,.dead,.dead,(rf s),.dead,.dead,(.arr 28 1 ac [] s.chans),.dead,.dead,(rc c)] : List aA) = (tx c s) ++ .frame tm0 (o7 c s n ws) :: (tz c s))))) (.w 1 [(3,(JO s.procs).O),(6,(JP s.chans).O)] <| .e) Tryz.func78 rfl rfl (by kernel_rfl) ?_
       exact tt ⟨(vq s.procs om),tt ⟨(vt s.chans om),tt ⟨rfl,rfl⟩⟩⟩
     obtain ⟨ho1,ho2,ho3⟩ := Bq hs0
     have hlw : (s.chans.getD n.toNat []).length ≤ 4294967296 := hsm n.toNat
     refine tt ⟨?_,?_⟩
     · intro tm0
       refine gT.vc (V := TT 4 (wn Tryz.prog 90 [(.ptr 15 0 0 0),(i6 n),(.fn (.func 91) [] [(.iptr [(.sl 1 (ae .i64) 0 ws)] 0)])] (Fj c s n ws tm0) (o9 n ws) (tA c s n ws tm0) [] (.tup [])∧True∧([(fe c),(fQ s),mI,.dead,(fe c),(fQ s),.dead,.dead,.dead,(rf s),.dead,.dead,(Bs s n ws),.dead,.dead,(rc c),.frame tm0 (o8 n ws)] : List aA) = (tB c s n ws) ++ .frame tm0 (o8 n ws) :: [])) (.q 1 [0,1,5] 18 <| .f 1 17 <| .w 1 [(3,.inl (.tup []) (o9 n ws) ((tA c s n ws tm0) ++ .dead :: []))] <| .e) Tryz.func79 rfl rfl (by kernel_rfl) ?_
       refine tt ⟨?_,?_⟩
       · intro tm1
         refine gT.vc (V := TT 13 (IX n s.chans.length∧(n.toNat < s.chans.length∧True)∧CC (JR (s.chans.getD n.toNat []) ws)∧IX n s.chans.length∧(n.toNat < s.chans.length∧(s.chans.map ac).set n.toNat ((ac (s.chans.getD n.toNat [])).take 0 ++ [(.sl 1 (ae .i64) 0 ((s.chans.getD n.toNat []) ++ ws))] ++ (ac (s.chans.getD n.toNat [])).drop (0 + 1)) = (s.chans.set n.toNat ((s.chans.getD n.toNat []) ++ ws)).map ac)∧True∧([(fe c),(fQ s),mI,.dead,(fe c),(fQ s),.dead,.dead,.dead,(rf s),.dead,.dead,(Bs s n ws),.dead,.dead,(rc c),(.frame tm0 (Br ws n)),.dead,.frame tm1 (o9 n ws)] : List aA) = (tA c s n ws tm0) ++ .frame tm1 (o9 n ws) :: [])) (.w 0 [(15,(JR (s.chans.getD n.toNat []) ws).O),(17,.box 28 1 ac [] (s.chans.set n.toNat ((s.chans.getD n.toNat []) ++ ws)))] <| .e) Tryz.func90 rfl rfl (by kernel_rfl) ?_
         exact tt ⟨ix,⟨⟨om,oK⟩,⟨(tv (s.chans.getD n.toNat []) ws om),⟨ix,⟨⟨om,by simp only [List.map_set]; rfl⟩,⟨oK,rfl⟩⟩⟩⟩⟩⟩
       exact ⟨oK,rfl⟩
     refine tt ⟨⟨(congrArg _ (?_ : s.procs = (((aW c s n ws).1).procs))),(congrArg _ (?_ : (s.chans.set n.toNat ((s.chans.getD n.toNat []) ++ ws)) = (((aW c s n ws).1).chans))),oK⟩,?_,oK⟩
     all_goals (all_goals (first | (rw [ts hs0]) | (rw [tu (by simpa using hc25)]) | (rw [o6 hs0 (by simpa using hc25)])))
 · refine tt ⟨(ym c n hc),tt ⟨(mT hs0),tt ⟨⟨?_,?_,oK⟩,?_,oK⟩⟩⟩
   all_goals (all_goals (first | (rw [ts hs0]) | (rw [tu (by simpa using hc25)]) | (rw [o6 hs0 (by simpa using hc25)])))
end Go.Proofs.YtgmpoenfoacofaaGreat
