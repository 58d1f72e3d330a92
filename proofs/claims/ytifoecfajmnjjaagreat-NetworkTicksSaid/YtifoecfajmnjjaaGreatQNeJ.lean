/-
  Package network: what it answers.
-/
import Derived.Test.YtifoecfajmnjjaaGreatQNeI
namespace Go.Proofs.YtifoecfajmnjjaaGreat
open Go.RowKit
set_option linter.unusedVariables false
set_option linter.unusedSimpArgs false
abbrev kv (c : Ci) : List D := [(dL 6 eG ao c.procs),(dL 5 iv a9 c.chans)]
abbrev kw (s : Ns) : List D := [(dL 2 bc bg s.procs),(dL 1 ac [] s.chans)]
abbrev jq (c : Ci) : aE := (.var 171 [(dL 6 eG ao c.procs),(dL 5 iv a9 c.chans),(.own 9),(.own 12)])
abbrev fu : aE := (.var 36 [.nils,.nils])
abbrev fZ : D := (.ptr 15 0 0 0)
abbrev Aj (ws : List Int) (n : Int) : List (Nat × D) := [(32,(LI ws)),(31,(i6 n)),(30,fZ),(2,(i6 n)),(3,(LI ws)),(8,(.ptr 2 0 0 0)),(10,fZ)]
abbrev cK (c : Ci) : aE := (.var 31 (kv c))
abbrev c6 (s : Ns) : aE := (.var 36 (kw s))
abbrev jr (s : Ns) : aE := (.arr 45 2 bc bg s.procs)
abbrev Ak (s : Ns) (n : Int) (ws : List Int) : aE := (.arr 43 1 ac [] (s.chans.set n.toNat ((s.chans.getD n.toNat []) ++ ws)))
set_option maxRecDepth 100000
abbrev GF (l : List Bool) (b : Bool) : Ct := ⟨102,[(LB l),(dB b)],false,(i6 (Gs l b))⟩
abbrev vK (l : List Bool) (b : Bool) : Lp (Nat) := ga [0,1,7,8] 0 (fun (i : Nat) => ⟨[(0,(LB l)),(1,(dB b)),(7,(i6 (l.length : Int))),(8,(i6 (i : Int)))],[]⟩) (fun (i : Nat) => i ≤ l.length∧∀ z,z < i → (b == l.getD z false) = false) (fun (i : Nat) => l.length - i)
theorem GG (l : List Bool) (b : Bool) (hl : l.length ≤ 9223372036854775807) : CC (GF l b) := by
 refine ai.vc (V := TT 4 (GO (vK l b) 0 (∀ i,(vK l b).inv i → TT 1 (CD ((i : Int) < (l.length : Int)) (TT 5 (IX (i : Int) l.length∧TT 2 (CB (b == (l.getD i false)) (TT 3 ((i : Int) = (Gs l b)∧True)) (W6 ((i + 1 : Nat) : Int)∧TT 1 (AG (vK l b) i (i + 1)))))) (TT 2 ((-1) = (Gs l b)∧True)))))) (.l (vK l b) 0 (fun i => .b 9 (.b 16 (.e) (.w 6 [(0,.val (i6 ((i + 1 : Nat) : Int)))] <| .e)) (.e))) Tryz.func102 rfl rfl rfl (by kernel_rfl) ?_
 refine tt ⟨rfl,⟨by omega,fun z hz => by omega⟩,?_⟩
 intro i hinv
 obtain ⟨hi,h3⟩ := hinv
 refine tt (cd (fun hc9 => ?_) (fun hc9 => ?_))
 · refine tt ⟨ix,tt ⟨fun hc16 => ?_,fun hc16 => ?_⟩⟩
   · refine tt ⟨?_,oK⟩
     first | exact (ia (f := fun i => b == l.getD i false) hc16 h3 (by omega)).symm | exact (lV (f := fun i => b == l.getD i false) (fun z hz => h3 z (by omega))).symm
   · refine ⟨w6,tt ⟨(i + 1),rfl,?_,(?_ : l.length - (i + 1) < l.length - i)⟩⟩
     · exact ⟨by omega,bU h3 hc16⟩
     · omega
 · refine tt ⟨?_,oK⟩
   first | exact (ia (f := fun i => b == l.getD i false) hc16 h3 (by omega)).symm | exact (lV (f := fun i => b == l.getD i false) (fun z hz => h3 z (by omega))).symm
abbrev Jp (l : List Bool) (b : Bool) : Ct := ⟨80,[(LB l),(dB b)],false,(dB (w8 l b))⟩
theorem GH (l : List Bool) (b : Bool) (hl : l.length ≤ 9223372036854775807) : CC (Jp l b) := by
 refine ai.vc (V := TT 3 (CC (GF l b)∧TT 3 ((decide ((Gs l b) ≥ 0)) = (w8 l b)∧True))) (.w 1 [(2,(GF l b).O)] <| .e) Tryz.func80 rfl rfl rfl (by kernel_rfl) ?_
 refine tt ⟨(GG l b om),tt ⟨?_,oK⟩⟩
 rfl
abbrev BB (c : Ci) (s : Ns) (p : Int) : Ct := ⟨16,[(.agg (kv c)),(.agg (kw s)),(i6 p)],false,(dB (cM c s p))⟩
theorem ma (c : Ci) (s : Ns) (p : Int) (hc : bM c) (hs : cr c s) : CC (BB c s p) := by
 have hnl := hc.nl
 have hcl := hc.cl
 refine ai.vc (V := TT 3 (CS (p ≥ 0) (CS (p < (c.procs.length : Int)) (TT 2 ((True∧(decide (p ≥ 0)) = true)∧TT 6 ((True∧(decide (p < (c.procs.length : Int))) = true)∧TT 2 ((True∧p = (p.toNat : Int))∧CC (GA c s p.toNat)∧TT 4 (((aa c s p.toNat).fires) = (cM c s p)∧True))))) (TT 2 ((True∧(decide (p ≥ 0)) = true)∧TT 6 ((True∧(decide (p < (c.procs.length : Int))) = false)∧TT 8 (false = (cM c s p)∧True))))) (TT 2 ((True∧(decide (p ≥ 0)) = false)∧TT 15 (false = (cM c s p)∧True))))) (.s 1 (p ≥ 0) (.s 1 (p < (c.procs.length : Int)) (.w 1 [(2,.val (dB true)),(9,.val (dB true)),(12,.val (i6 (p.toNat : Int))),(13,(GA c s p.toNat).O)] <| .e) (.w 1 [(2,.val (dB true)),(9,.val (dB false))] <| .e)) (.w 1 [(2,.val (dB false))] <| .e)) Tryz.func16 rfl rfl rfl (by kernel_rfl) ?_
 refine tt ⟨fun hs0 => ?_,fun hs0 => ?_⟩
 · refine ⟨fun hs1 => ?_,fun hs1 => ?_⟩
   · refine tt ⟨(vT hs0),tt ⟨(vT hs1),tt ⟨⟨oK,(by omega)⟩,⟨(sw c s p.toNat hc hs (by omega)),tt ⟨?_,oK⟩⟩⟩⟩⟩
     first | exact (jk (by omega)).symm | exact (jl (by omega)).symm | exact (jU (by omega) (by omega)).symm
   · refine tt ⟨(vT hs0),tt ⟨(vF hs1),tt ⟨?_,oK⟩⟩⟩
     first | exact (jk (by omega)).symm | exact (jl (by omega)).symm | exact (jU (by omega) (by omega)).symm
 · refine tt ⟨(vF hs0),tt ⟨?_,oK⟩⟩
   first | exact (jk (by omega)).symm | exact (jl (by omega)).symm | exact (jU (by omega) (by omega)).symm
abbrev HQ (c : Ci) (s : Ns) (k : Int) : Ct := ⟨53,[(.agg (kv c)),(.agg (kw s)),(i6 k)],true,(.tup [(.agg [(dL 2 bc bg ((aA c s (cN k)).procs)),(dL 1 ac [] ((aA c s (cN k)).chans))]),(dB (xf c s k))])⟩
theorem xi (c : Ci) (s : Ns) (k : Int) (hc : bM c) (hs : cr c s) (hsm : i7 s 4294967296) : CC (HQ c s k) := by
 have hnl := hc.nl
 have hcl := hc.cl
 refine ai.vc (V := TT 8 (CC (GD c s k)∧TT 8 (CC (Jp (ap (aq c s (cN k)) c.procs.length) true)∧TT 4 ((((aA c s (cN k)).procs).map bc = ((aA c s (cN k)).procs).map bc∧((aA c s (cN k)).chans).map ac = ((aA c s (cN k)).chans).map ac∧True)∧(w8 (ap (aq c s (cN k)) c.procs.length) true) = (xf c s k)∧True)))) (.f 1 2 <| .w 1 [(3,(GD c s k).O)] <| .w 2 [(2,(Jp (ap (aq c s (cN k)) c.procs.length) true).O)] <| .e) Tryz.func53 rfl rfl rfl (by kernel_rfl) ?_
 refine tt ⟨(Bv c s k hc hs hsm),tt ⟨(GH (ap (aq c s (cN k)) c.procs.length) true (by rw [aR]; omega)),tt ⟨⟨rfl,rfl,oK⟩,?_,oK⟩⟩⟩
 rfl
abbrev HR (c : Ci) (s : Ns) (cl : ByteArray) : Ct := ⟨47,[(.agg (kv c)),(.agg (kw s)),(dS cl)],true,(.tup [(.agg [(dL 2 bc bg ((aA c s (aI c cl)).procs)),(dL 1 ac [] ((aA c s (aI c cl)).chans))]),(LB (ap (aq c s (aI c cl)) c.procs.length))])⟩
theorem xj (c : Ci) (s : Ns) (cl : ByteArray) (hc : bM c) (hs : cr c s) (hsm : i7 s 4294967296) : CC (HR c s cl) := by
 have hnl := hc.nl
 have hcl := hc.cl
 refine ai.vc (V := TT 8 (CC (GE c s cl)∧TT 6 ((((aA c s (aI c cl)).procs).map bc = ((aA c s (aI c cl)).procs).map bc∧((aA c s (aI c cl)).chans).map ac = ((aA c s (aI c cl)).chans).map ac∧True)∧(ap (aq c s (aI c cl)) c.procs.length).map aK = (ap (aq c s (aI c cl)) c.procs.length).map aK∧True))) (.f 1 0 <| .f 1 2 <| .w 1 [(3,(GE c s cl).O)] <| .e) Tryz.func47 rfl rfl rfl (by kernel_rfl) ?_
 exact tt ⟨(BA c s cl hc hs hsm),tt ⟨⟨rfl,rfl,oK⟩,rfl,oK⟩⟩
abbrev DH (c : Ci) (s : Ns) (l : List ByteArray) : Ct := ⟨38,[(.agg (kv c)),(.agg (kw s)),(dL 1 ky .empty l)],true,(.agg [(dL 2 bc bg ((fY c s l).procs)),(dL 1 ac [] ((fY c s l).chans))])⟩
abbrev rk (c : Ci) (s : Ns) (l : List ByteArray) : Lp (Nat × Ns) := rX [3,4,6,9,10,11] 3 (fun (i : Nat) (u : Ns) => ⟨[(3,(.ptr 0 0 0 0)),(4,(.ptr 1 0 0 0)),(6,(.ptr 2 0 0 0)),(9,(dL 1 ky .empty l)),(10,(i6 (l.length : Int))),(11,(i6 (i : Int)))],[(cK c),(.var 36 [(dL 2 bc bg u.procs),(dL 1 ac [] u.chans)]),fu]⟩) (fun (i : Nat) (u : Ns) => i ≤ l.length∧u = fY c s (l.take i)∧cr c u∧i7 u (1000000000 + i)) (fun (i : Nat) (u : Ns) => l.length - i)
theorem rm (c : Ci) (s : Ns) (l : List ByteArray) (hc : bM c) (hs : cr c s) (hsm : i7 s 1000000000) (hl : l.length ≤ 1000000) : CC (DH c s l) := by
 have hnl := hc.nl
 have hcl := hc.cl
 refine ai.vc (V := TT 6 (GO (rk c s l) (0,s) (∀ i u,(rk c s l).inv (i,u) → TT 1 (CD ((i : Int) < (l.length : Int)) (IX (i : Int) l.length∧TT 5 (CC (HR c u (l.getD i .empty))∧TT 4 (W6 ((i + 1 : Nat) : Int)∧TT 1 (AG (rk c s l) (i,u) (i + 1,aA c u (aI c (l.getD i .empty))))))) (TT 3 (u.procs.map bc = ((fY c s l).procs).map bc∧u.chans.map ac = ((fY c s l).chans).map ac∧True)))))) (.l (rk c s l) (0,s) (fun ⟨i,u⟩ => .b 12 (.w 4 [(3,(HR c u (l.getD i .empty)).O)] <| .w 5 [(0,.val (i6 ((i + 1 : Nat) : Int)))] <| .e) (.e))) Tryz.func38 rfl rfl rfl (by kernel_rfl) ?_
 refine tt ⟨rfl,⟨by omega,rfl,hs,hsm⟩,?_⟩
 intro i u hinv
 obtain ⟨hi,hu,hus,hum⟩ := hinv
 refine tt (cd (fun hc12 => ?_) (fun hc12 => ?_))
 · refine ⟨ix,tt ⟨(xj c u (l.getD i .empty) hc hus (fun n => by have := hum n; omega)),tt ⟨w6,tt ⟨(i + 1,aA c u (aI c (l.getD i .empty))),rfl,?_,(?_ : l.length - (i + 1) < l.length - i)⟩⟩⟩⟩
   · exact ⟨by omega,by rw [hu]; exact (DC (by omega)).symm,gh hc hus _,gi hc hum⟩
   · omega
 · refine tt ⟨(congrArg _ (?_ : u.procs = ((fY c s l).procs))),(congrArg _ (?_ : u.chans = ((fY c s l).chans))),oK⟩
   all_goals (all_goals (rw [hu,List.take_of_length_le (by omega)]))
abbrev Jq (c : Ci) (s : Ns) (n : Int) (ws : List Int) : Ct := ⟨56,[(.agg (kv c)),(.agg (kw s)),(i6 n),(LI ws)],true,(.tup [(.agg [(dL 2 bc bg (((aF c s n ws).1).procs)),(dL 1 ac [] (((aF c s n ws).1).chans))]),(i6 ((aF c s n ws).2))])⟩
abbrev DI (c : Ci) (s : Ns) : List aE := [(cK c),(c6 s),fu]
abbrev o8 (c : Ci) (s : Ns) (n : Int) (ws : List Int) : List (Nat × D) := [(28,(.agg (kw s))),(27,(.agg (kv c))),(2,(i6 n)),(3,(LI ws)),(4,(.ptr 0 0 0 0)),(5,(.ptr 1 0 0 0)),(8,(.ptr 2 0 0 0))]
abbrev sD (c : Ci) (s : Ns) : List aE := [(cK c),(c6 s),fu]
abbrev sF (c : Ci) (s : Ns) : List aE := [(cK c),(c6 s),.dead,.dead,.dead,(jr s),.dead,.dead,(.arr 43 1 ac [] s.chans),.dead,.dead,(jq c)]
abbrev DJ (c : Ci) (s : Ns) : List aE := [(cK c),(c6 s),fu,.dead,(cK c),(c6 s),.dead,.dead,.dead,(jr s),.dead,.dead,(.arr 43 1 ac [] s.chans),.dead,.dead,(jq c)]
abbrev o9 (n : Int) (ws : List Int) : List (Nat × D) := (Aj ws n)
abbrev DK (c : Ci) (s : Ns) (n : Int) (ws : List Int) (tm0 : Array Value) : List aE := [(cK c),(c6 s),fu,.dead,(cK c),(c6 s),.dead,.dead,.dead,(jr s),.dead,.dead,(.arr 43 1 ac [] s.chans),.dead,.dead,(jq c),(.frame tm0 (Aj ws n)),.dead]
abbrev pb (n : Int) (ws : List Int) : List (Nat × D) := [(8,(.fn (.func 105) [] [(.iptr [(.sl 1 (af .i64) 0 ws)] 0)])),(7,(i6 n)),(6,fZ),(0,fZ),(1,(i6 n)),(5,(.iptr [(.sl 1 (af .i64) 0 ws)] 0))]
abbrev sG (c : Ci) (s : Ns) (n : Int) (ws : List Int) (tm0 : Array Value) : List aE := [(cK c),(c6 s),fu,.dead,(cK c),(c6 s),.dead,.dead,.dead,(jr s),.dead,.dead,(Ak s n ws),.dead,.dead,(jq c),(.frame tm0 (Aj ws n)),.dead]
abbrev sH (c : Ci) (s : Ns) (n : Int) (ws : List Int) : List aE := [(cK c),(c6 s),fu,.dead,(cK c),(c6 s),.dead,.dead,.dead,(jr s),.dead,.dead,(Ak s n ws),.dead,.dead,(jq c)]
theorem DL (c : Ci) (s : Ns) (n : Int) (ws : List Int) (hc : bM c) (hs : cr c s) (hsm : i7 s 4294967296) (hw : ws.length ≤ 4294967296) : CC (Jq c s n ws) := by
 have hnl := hc.nl
 have hcl := hc.cl
 have hl1 := hs.pl
 have hl2 := hs.cl
 refine ai.vc (V := TT 4 (CS ((ft (·.frm) c n) = true) (TT 2 (CC (Dy c n)∧TT 1 ((True∧(!(ft (·.frm) c n)) = false)∧TT 4 (IX n c.chans.length∧TT 2 (CC (Bp ws ((c.chans.getD n.toNat a9).w))∧TT 2 (CB (!(b9 ws ((c.chans.getD n.toNat a9).w))) (TT 5 (((((aF c s n ws).1).procs) = []∧(((aF c s n ws).1).chans) = []∧True)∧(1 : Int) = ((aF c s n ws).2)∧True)) (TT 2 (kQ Tryz.prog 84 [(.agg (kv c)),(.agg (kw s))] (DI c s) (o8 c s n ws) (sD c s) (sF c s) fZ∧TT 4 (kQ Tryz.prog 85 [fZ,(i6 n),(LI ws)] (DJ c s) (o9 n ws) (sH c s n ws) [] (.tup [])∧TT 8 ((s.procs.map bc = (((aF c s n ws).1).procs).map bc∧(s.chans.set n.toNat ((s.chans.getD n.toNat []) ++ ws)).map ac = (((aF c s n ws).1).chans).map ac∧True)∧(0 : Int) = ((aF c s n ws).2)∧True)))))))))) (TT 2 (CC (Dy c n)∧TT 1 ((True∧(!(ft (·.frm) c n)) = true)∧TT 15 (((((aF c s n ws).1).procs) = []∧(((aF c s n ws).1).chans) = []∧True)∧(1 : Int) = ((aF c s n ws).2)∧True)))))) (.s 1 ((ft (·.frm) c n) = true) (.w 1 [(2,(Dy c n).O),(4,.val (dB false)),(12,(Bp ws ((c.chans.getD n.toNat a9).w)).O)] <| .b 25 (.e) (.q 3 [2,3,4,5,8] 3 <| .w 3 [(2,.inl fZ (o8 c s n ws) ((sD c s) ++ .dead :: (sF c s)))] <| .q 4 [2,3,8,10] 16 <| .w 4 [(3,.inl (.tup []) (o9 n ws) ((sH c s n ws) ++ .dead :: []))] <| .e)) (.w 1 [(2,(Dy c n).O),(4,.val (dB true))] <| .e)) Tryz.func56 rfl rfl rfl (by kernel_rfl) ?_
 refine tt ⟨fun hs0 => ?_,fun hs0 => ?_⟩
 · obtain ⟨ho1,ho2,ho3⟩ := vJ hs0
   have hw : 1 ≤ (c.chans.getD n.toNat a9).w∧(c.chans.getD n.toNat a9).w ≤ 8 := aU.1 (hc.cw n.toNat (by omega))
   refine tt ⟨(w9 c n hc),tt ⟨(mF hs0),tt ⟨ix,tt ⟨(gN ws ((c.chans.getD n.toNat a9).w) (by omega) (by omega) (by omega)),tt ⟨fun hc25 => ?_,fun hc25 => ?_⟩⟩⟩⟩⟩
   · refine tt ⟨⟨?_,?_,oK⟩,?_,oK⟩
     all_goals (all_goals (first | (rw [sA hs0]) | (rw [sB (by simpa using hc25)]) | (rw [sC hs0 (by simpa using hc25)])))
   · refine tt ⟨?_,?_⟩
     · intro tm0
       refine dU.vc (V := TT 6 (CO (vB s.procs)∧TT 2 (CO (vC s.chans)∧TT 5 ((fZ : D) = fZ∧([(cK c),(c6 s),fu,.frame tm0 (o8 c s n ws),(cK c),(c6 s),.dead,.dead,.dead,(jr s),.dead,.dead,(.arr 43 1 ac [] s.chans),.dead,.dead,(jq c)] : List aE) = (sD c s) ++ .frame tm0 (o8 c s n ws) :: (sF c s))))) (.w 1 [(3,(vB s.procs).O),(6,(vC s.chans).O)] <| .e) Tryz.func84 rfl rfl (by kernel_rfl) ?_
       exact tt ⟨(lW s.procs om),tt ⟨(lX s.chans om),tt ⟨rfl,rfl⟩⟩⟩
     obtain ⟨ho1,ho2,ho3⟩ := vJ hs0
     have hlw : (s.chans.getD n.toNat []).length ≤ 4294967296 := hsm n.toNat
     refine tt ⟨?_,?_⟩
     · intro tm0
       refine dU.vc (V := TT 4 (kQ Tryz.prog 87 [fZ,(i6 n),(.fn (.func 105) [] [(.iptr [(.sl 1 (af .i64) 0 ws)] 0)])] (DK c s n ws tm0) (pb n ws) (sG c s n ws tm0) [] (.tup [])∧True∧([(cK c),(c6 s),fu,.dead,(cK c),(c6 s),.dead,.dead,.dead,(jr s),.dead,.dead,(Ak s n ws),.dead,.dead,(jq c),.frame tm0 (o9 n ws)] : List aE) = (sH c s n ws) ++ .frame tm0 (o9 n ws) :: [])) (.q 1 [0,1,5] 18 <| .f 1 17 <| .w 1 [(3,.inl (.tup []) (pb n ws) ((sG c s n ws tm0) ++ .dead :: []))] <| .e) Tryz.func85 rfl rfl (by kernel_rfl) ?_
       refine tt ⟨?_,?_⟩
       · intro tm1
         refine dU.vc (V := TT 13 (IX n s.chans.length∧(n.toNat < s.chans.length∧True)∧CC (yT (s.chans.getD n.toNat []) ws)∧IX n s.chans.length∧(n.toNat < s.chans.length∧(s.chans.map ac).set n.toNat ((ac (s.chans.getD n.toNat [])).take 0 ++ [(.sl 1 (af .i64) 0 ((s.chans.getD n.toNat []) ++ ws))] ++ (ac (s.chans.getD n.toNat [])).drop (0 + 1)) = (s.chans.set n.toNat ((s.chans.getD n.toNat []) ++ ws)).map ac)∧True∧([(cK c),(c6 s),fu,.dead,(cK c),(c6 s),.dead,.dead,.dead,(jr s),.dead,.dead,(Ak s n ws),.dead,.dead,(jq c),(.frame tm0 (Aj ws n)),.dead,.frame tm1 (pb n ws)] : List aE) = (sG c s n ws tm0) ++ .frame tm1 (pb n ws) :: [])) (.w 0 [(15,(yT (s.chans.getD n.toNat []) ws).O),(17,.box 43 1 ac [] (s.chans.set n.toNat ((s.chans.getD n.toNat []) ++ ws)))] <| .e) Tryz.func87 rfl rfl (by kernel_rfl) ?_
         exact tt ⟨ix,⟨⟨om,oK⟩,⟨(nr (s.chans.getD n.toNat []) ws om),⟨ix,⟨⟨om,by simp only [List.map_set]; rfl⟩,⟨oK,rfl⟩⟩⟩⟩⟩⟩
       exact ⟨oK,rfl⟩
     refine tt ⟨⟨(congrArg _ (?_ : s.procs = (((aF c s n ws).1).procs))),(congrArg _ (?_ : (s.chans.set n.toNat ((s.chans.getD n.toNat []) ++ ws)) = (((aF c s n ws).1).chans))),oK⟩,?_,oK⟩
     all_goals (all_goals (first | (rw [sA hs0]) | (rw [sB (by simpa using hc25)]) | (rw [sC hs0 (by simpa using hc25)])))
 · refine tt ⟨(w9 c n hc),tt ⟨(mT hs0),tt ⟨⟨?_,?_,oK⟩,?_,oK⟩⟩⟩
   all_goals (all_goals (first | (rw [sA hs0]) | (rw [sB (by simpa using hc25)]) | (rw [sC hs0 (by simpa using hc25)])))
abbrev Jr (c : Ci) (s : Ns) (n : Int) : Ct := ⟨57,[(.agg (kv c)),(.agg (kw s)),(i6 n)],true,(.tup [(LI ((ca c s n).1)),(.agg [(dL 2 bc bg (((ca c s n).2.1).procs)),(dL 1 ac [] (((ca c s n).2.1).chans))]),(i6 ((ca c s n).2.2))])⟩
abbrev DM (c : Ci) (s : Ns) : List aE := [(cK c),(c6 s),fu]
abbrev pc (c : Ci) (s : Ns) (n : Int) : List (Nat × D) := [(16,(.agg (kw s))),(15,(.agg (kv c))),(2,(i6 n)),(3,(.ptr 0 0 0 0)),(4,(.ptr 1 0 0 0)),(7,(.ptr 2 0 0 0))]
abbrev sI (c : Ci) (s : Ns) : List aE := [(cK c),(c6 s),fu]
abbrev sJ (c : Ci) (s : Ns) : List aE := [(cK c),(c6 s),.dead,.dead,.dead,(jr s),.dead,.dead,(.arr 43 1 ac [] s.chans),.dead,.dead,(jq c)]
abbrev DN (c : Ci) (s : Ns) : List aE := [(cK c),(c6 s),fu,.dead,(cK c),(c6 s),.dead,.dead,.dead,(jr s),.dead,.dead,(.arr 43 1 ac [] s.chans),.dead,.dead,(jq c)]
abbrev pg (n : Int) : List (Nat × D) := [(19,(i6 n)),(18,fZ),(2,(i6 n)),(4,(.ptr 1 0 0 0)),(7,(.ptr 2 0 0 0)),(9,fZ)]
abbrev sK (c : Ci) (s : Ns) (n : Int) : List aE := [(cK c),(c6 s),fu,.dead,(cK c),(c6 s),.dead,.dead,.dead,(jr s),.dead,.dead,(.arr 43 1 ac [] (s.chans.set n.toNat ([] : List Int))),.dead,.dead,(jq c)]
theorem DP (c : Ci) (s : Ns) (n : Int) (hc : bM c) (hs : cr c s) (hsm : i7 s 4294967296) : CC (Jr c s n) := by
 have hnl := hc.nl
 have hcl := hc.cl
 have hl1 := hs.pl
 have hl2 := hs.cl
 refine ai.vc (V := TT 7 (CC (Gz c n)∧TT 1 (CB (!(ft (·.dst) c n)) (TT 7 (((ca c s n).1) = []∧((((ca c s n).2.1).procs) = []∧(((ca c s n).2.1).chans) = []∧True)∧(1 : Int) = ((ca c s n).2.2)∧True)) (TT 2 (kQ Tryz.prog 84 [(.agg (kv c)),(.agg (kw s))] (DM c s) (pc c s n) (sI c s) (sJ c s) fZ∧TT 3 (kQ Tryz.prog 87 [fZ,(i6 n),(.fn (.func 88) [] [])] (DN c s) (pg n) (sK c s n) [] (.tup [])∧TT 3 (IX n s.chans.length∧TT 1 (CO (Jh (s.chans.getD n.toNat []))∧TT 10 ((s.chans.getD n.toNat []).map (af .i64) = ((ca c s n).1).map (af .i64)∧(s.procs.map bc = (((ca c s n).2.1).procs).map bc∧(s.chans.set n.toNat ([] : List Int)).map ac = (((ca c s n).2.1).chans).map ac∧True)∧(0 : Int) = ((ca c s n).2.2)∧True))))))))) (.w 1 [(2,(Gz c n).O)] <| .b 13 (.e) (.q 3 [2,3,4,7] 3 <| .w 3 [(2,.inl fZ (pc c s n) ((sI c s) ++ .dead :: (sJ c s)))] <| .q 4 [2,4,7,9] 16 <| .w 4 [(2,.inl (.tup []) (pg n) ((sK c s n) ++ .dead :: []))] <| .w 5 [(5,(Jh (s.chans.getD n.toNat [])).O)] <| .e)) Tryz.func57 rfl rfl rfl (by kernel_rfl) ?_
 refine tt ⟨(Dz c n hc),tt ⟨fun hc13 => ?_,fun hc13 => ?_⟩⟩
 · refine tt ⟨?_,⟨?_,?_,oK⟩,?_,oK⟩
   all_goals (all_goals (first | (rw [Ah (by simpa using hc13)]) | (rw [xg (by simpa using hc13)])))
 · refine tt ⟨?_,?_⟩
   · intro tm0
     refine dU.vc (V := TT 6 (CO (vB s.procs)∧TT 2 (CO (vC s.chans)∧TT 5 ((fZ : D) = fZ∧([(cK c),(c6 s),fu,.frame tm0 (pc c s n),(cK c),(c6 s),.dead,.dead,.dead,(jr s),.dead,.dead,(.arr 43 1 ac [] s.chans),.dead,.dead,(jq c)] : List aE) = (sI c s) ++ .frame tm0 (pc c s n) :: (sJ c s))))) (.w 1 [(3,(vB s.procs).O),(6,(vC s.chans).O)] <| .e) Tryz.func84 rfl rfl (by kernel_rfl) ?_
     exact tt ⟨(lW s.procs om),tt ⟨(lX s.chans om),tt ⟨rfl,rfl⟩⟩⟩
   obtain ⟨ho1,ho2,ho3⟩ := vJ (show ft (·.dst) c n = true by simpa using hc13)
   have hlw : (s.chans.getD n.toNat []).length ≤ 4294967296 := hsm n.toNat
   refine tt ⟨?_,?_⟩
   · intro tm0
     refine dU.vc (V := TT 13 (IX n s.chans.length∧(n.toNat < s.chans.length∧True)∧CC (Jm (s.chans.getD n.toNat []))∧IX n s.chans.length∧(n.toNat < s.chans.length∧(s.chans.map ac).set n.toNat ((ac (s.chans.getD n.toNat [])).take 0 ++ [(.sl 1 (af .i64) 0 ([] : List Int))] ++ (ac (s.chans.getD n.toNat [])).drop (0 + 1)) = (s.chans.set n.toNat ([] : List Int)).map ac)∧True∧([(cK c),(c6 s),fu,.dead,(cK c),(c6 s),.dead,.dead,.dead,(jr s),.dead,.dead,(.arr 43 1 ac [] (s.chans.set n.toNat ([] : List Int))),.dead,.dead,(jq c),.frame tm0 (pg n)] : List aE) = (sK c s n) ++ .frame tm0 (pg n) :: [])) (.w 0 [(15,(Jm (s.chans.getD n.toNat [])).O),(17,.box 43 1 ac [] (s.chans.set n.toNat ([] : List Int)))] <| .e) Tryz.func87 rfl rfl (by kernel_rfl) ?_
     exact tt ⟨ix,⟨⟨om,oK⟩,⟨(xh (s.chans.getD n.toNat [])),⟨ix,⟨⟨om,by simp only [List.map_set]; rfl⟩,⟨oK,rfl⟩⟩⟩⟩⟩⟩
   refine tt ⟨ix,tt ⟨(Bn (s.chans.getD n.toNat []) om),tt ⟨(congrArg _ (?_ : (s.chans.getD n.toNat []) = ((ca c s n).1))),⟨(congrArg _ (?_ : s.procs = (((ca c s n).2.1).procs))),(congrArg _ (?_ : (s.chans.set n.toNat ([] : List Int)) = (((ca c s n).2.1).chans))),oK⟩,?_,oK⟩⟩⟩
   all_goals (all_goals (first | (rw [Ah (by simpa using hc13)]) | (rw [xg (by simpa using hc13)])))
abbrev Js (c : Ci) (s : Ns) (bt : Int) : Ct := ⟨61,[(.agg (kv c)),(.agg (kw s)),(i6 bt)],true,(.tup [(.agg [(dL 2 bc bg (((b8 c s bt).1).procs)),(dL 1 ac [] (((b8 c s bt).1).chans))]),(LI ((b8 c s bt).2.1)),(i6 ((b8 c s bt).2.2))])⟩
abbrev j5 (c : Ci) (s : Ns) (bt : Int) : Lp (Ns × Int × List Int) := G2 [2,3,4,6,9] 4 (fun (u : Ns) (bud : Int) (cnt : List Int) => ⟨[(2,(i6 bud)),(3,(.ptr 0 0 0 0)),(4,(.ptr 1 0 0 0)),(6,(.ptr 2 0 0 0)),(9,(.own 3))],[(cK c),(.var 36 [(dL 2 bc bg u.procs),(dL 1 ac [] u.chans)]),fu,(.arr 3 1 (af .i64) 0 cnt)]⟩) (fun (u : Ns) (bud : Int) (cnt : List Int) => cr c u∧i7 u (1000000000 + (bt - bud).toNat)∧cnt.length = c.procs.length∧fh c (bud).toNat u cnt = b8 c s bt∧bud ≤ bt∧(∀ z,0 ≤ cnt.getD z 0∧cnt.getD z 0 ≤ bt - bud)) (fun (u : Ns) (bud : Int) (cnt : List Int) => (bud).toNat)
abbrev j6 (c : Ci) (u : Ns) (bud : Int) (cnt : List Int) : Lp (Nat) := ga [2,3,4,6,9,10,18,19] 4 (fun (p : Nat) => ⟨[(2,(i6 bud)),(3,(.ptr 0 0 0 0)),(4,(.ptr 1 0 0 0)),(6,(.ptr 2 0 0 0)),(9,(.own 3)),(10,(i6 (-1))),(18,(i6 (c.procs.length : Int))),(19,(i6 (p : Int)))],[(cK c),(.var 36 [(dL 2 bc bg u.procs),(dL 1 ac [] u.chans)]),fu,(.arr 3 1 (af .i64) 0 cnt)]⟩) (fun (p : Nat) => p ≤ c.procs.length∧i5 c u (c.procs.length - p) p = fg c u) (fun (p : Nat) => c.procs.length - p)
theorem y3 (c : Ci) (s : Ns) (bt : Int) (hc : bM c) (hs : cr c s) (hsm : i7 s 1000000000) (hb : bt ≤ 1000000) (hb2 : -9223372036854775808 ≤ bt) : CC (Js c s bt) := by
 have hnl := hc.nl
 have hcl := hc.cl
 refine ai.vc (V := TT 8 ((((0 : Int) ≤ (c.procs.length : Int)∧(c.procs.length : Int) ≤ (c.procs.length : Int)∧(c.procs.length : Int) ≤ 137438953472)∧(List.replicate c.procs.length (0 : Int)).length = c.procs.length∧∀ x ∈ (List.replicate c.procs.length (0 : Int)),cy [(i6 0)] ((af .i64) x))∧TT 1 (GO (j5 c s bt) (s,bt,List.replicate c.procs.length (0 : Int)) (∀ u bud cnt,(j5 c s bt).inv (u,bud,cnt) → TT 5 (GO (j6 c u bud cnt) 0 (∀ p,(j6 c u bud cnt).inv p → TT 1 (CD ((p : Int) < (c.procs.length : Int)) (TT 5 (CC (BB c u (p : Int))∧CB (cM c u (p : Int)) (TT 5 ((decide ((p : Int) < 0)) = false∧TT 3 (CD (bud ≤ 0) (TT 8 ((u.procs.map bc = (((b8 c s bt).1).procs).map bc∧u.chans.map ac = (((b8 c s bt).1).chans).map ac∧True)∧cnt.map (af .i64) = ((b8 c s bt).2.1).map (af .i64)∧(7 : Int) = ((b8 c s bt).2.2)∧True)) (TT 1 (W6 (bud - 1)∧TT 3 (IX (p : Int) cnt.length∧(p < cnt.length∧True)∧W6 ((cnt.getD p 0) + 1)∧IX (p : Int) cnt.length∧(p < cnt.length∧(cnt.map (af .i64)).set p (((af .i64) (cnt.getD p 0)).take 0 ++ [(.int .i64 ((cnt.getD p 0) + 1))] ++ ((af .i64) (cnt.getD p 0)).drop (0 + 1)) = (cnt.set p ((cnt.getD p 0) + 1)).map (af .i64))∧TT 3 (CC (HQ c u (p : Int))∧TT 4 (AG (j5 c s bt) (u,bud,cnt) (aA c u (cN (p : Int)),bud - 1,cnt.set p ((cnt.getD p 0) + 1)))))))))) (W6 ((p + 1 : Nat) : Int)∧TT 1 (AG (j6 c u bud cnt) p (p + 1))))) (TT 11 ((u.procs.map bc = (((b8 c s bt).1).procs).map bc∧u.chans.map ac = (((b8 c s bt).1).chans).map ac∧True)∧cnt.map (af .i64) = ((b8 c s bt).2.1).map (af .i64)∧(0 : Int) = ((b8 c s bt).2.2)∧True))))))))) (.w 1 [(3,.box 3 1 (af .i64) 0 (List.replicate c.procs.length (0 : Int)))] <| .l (j5 c s bt) (s,bt,List.replicate c.procs.length (0 : Int)) (fun ⟨u,bud,cnt⟩ => .l (j6 c u bud cnt) 0 (fun p => .b 20 (.w 6 [(3,(BB c u (p : Int)).O)] <| .b 25 (.u 28 (.b 33 (.e) (.w 13 [(1,.val (i6 (bud - 1)))] <| .w 14 [(4,.val (i6 ((cnt.getD p 0) + 1))),(6,.box 3 1 (af .i64) 0 (cnt.set p ((cnt.getD p 0) + 1)))] <| .w 15 [(3,(HQ c u (p : Int)).O)] <| .e))) (.w 8 [(0,.val (i6 ((p + 1 : Nat) : Int)))] <| .e)) (.e)))) Tryz.func61 rfl rfl rfl (by kernel_rfl) ?_
 refine tt ⟨⟨by omega,by simp,fun x hx => by rw [List.eq_of_mem_replicate hx]; exact ⟨rfl,oK⟩⟩,tt ⟨rfl,⟨hs,fun m => Nat.le_trans (hsm m) (by omega),by simp,rfl,by omega,fun z => by rw [bQ]; omega⟩,?_⟩⟩
 intro u bud cnt hinv
 obtain ⟨hus,hum,hcl0,hgo,hbb,hcb⟩ := hinv
 refine tt ⟨rfl,⟨by omega,rfl⟩,?_⟩
 intro p hinv
 obtain ⟨hp,hfk⟩ := hinv
 refine tt (cd (fun hc20 => ?_) (fun hc20 => ?_))
 · refine tt ⟨(ma c u (p : Int) hc hus),⟨fun hc25 => ?_,fun hc25 => ?_⟩⟩
   · have hfp : fg c u = (p : Int) := by rw [← hfk]; exact yA (by omega) (by rw [← ib (by omega)]; exact hc25)
     refine tt ⟨(decide_eq_false (by omega)),tt (cd (fun hc33 => ?_) (fun hc33 => ?_))⟩
     · refine tt ⟨⟨(congrArg _ (?_ : u.procs = (((b8 c s bt).1).procs))),(congrArg _ (?_ : u.chans = (((b8 c s bt).1).chans))),oK⟩,(congrArg _ (?_ : cnt = ((b8 c s bt).2.1))),?_,oK⟩
       all_goals (all_goals (rw [← hgo]; first | rw [sv (by omega)] | rw [show bud.toNat = 0 by omega,o6 (by omega)]))
     · refine tt ⟨w6,?_⟩
       have hcz := hcb p
       refine tt ⟨ix,⟨⟨om,oK⟩,⟨w6,⟨ix,⟨⟨om,by simp only [List.map_set]; rfl⟩,tt ⟨(xi c u (p : Int) hc hus (fun m => by have := hum m; omega)),tt ⟨(aA c u (cN (p : Int)),bud - 1,cnt.set p ((cnt.getD p 0) + 1)),rfl,?_,(?_ : ((bud - 1)).toNat < (bud).toNat)⟩⟩⟩⟩⟩⟩⟩
       · exact ⟨gh hc hus _,fun m => Nat.le_trans (gi hc hum m) (by omega),by rw [List.length_set]; exact hcl0,by rw [← hgo,show bud.toNat = (bud - 1).toNat + 1 by omega,Bl (by omega),hfp,o7]; rfl,by omega,DD hcb (by omega)⟩
       · omega
   · refine ⟨w6,tt ⟨(p + 1),rfl,?_,(?_ : c.procs.length - (p + 1) < c.procs.length - p)⟩⟩
     · exact ⟨by omega,by rw [← hfk]; exact (Bk (by omega) (by rw [← ib (by omega),hc25]; simp)).symm⟩
     · omega
 · have hfn : fg c u = -1 := by rw [← hfk]; exact yB (by omega)
   refine tt ⟨⟨(congrArg _ (?_ : u.procs = (((b8 c s bt).1).procs))),(congrArg _ (?_ : u.chans = (((b8 c s bt).1).chans))),oK⟩,(congrArg _ (?_ : cnt = ((b8 c s bt).2.1))),?_,oK⟩
   all_goals (all_goals (rw [← hgo]; first | rw [sv (by omega)] | rw [show bud.toNat = 0 by omega,o6 (by omega)]))
end Go.Proofs.YtifoecfajmnjjaaGreat
