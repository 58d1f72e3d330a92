/-
  Package network: what it answers.
-/
import Derived.Test.YtifoecfajmnjjaaGreatQNeI
namespace Go.Proofs.YtifoecfajmnjjaaGreat
open Go.RowKit
set_option linter.unusedVariables false
set_option linter.unusedSimpArgs false
abbrev lG (c : Ci) : List D := [(dL 6 eY av c.procs),(dL 5 iM be c.chans)]
abbrev lH (s : Ns) : List D := [(dL 2 bl a7 s.procs),(dL 1 af [] s.chans)]
abbrev jH (c : Ci) : aH := (.var 171 [(dL 6 eY av c.procs),(dL 5 iM be c.chans),(.own 9),(.own 12)])
abbrev gt : aH := (.var 36 [.nils,.nils])
abbrev gu : D := (.ptr 15 0 0 0)
abbrev Ar (ws : List Int) (n : Int) : List (Nat × D) := [(32,(LI ws)),(31,(i6 n)),(30,gu),(2,(i6 n)),(3,(LI ws)),(8,(.ptr 2 0 0 0)),(10,gu)]
abbrev cS (c : Ci) : aH := (.var 31 (lG c))
abbrev db (s : Ns) : aH := (.var 36 (lH s))
abbrev jI (s : Ns) : aH := (.arr 45 2 bl a7 s.procs)
abbrev Au (s : Ns) (n : Int) (ws : List Int) : aH := (.arr 43 1 af [] (s.chans.set n.toNat ((s.chans.getD n.toNat []) ++ ws)))
set_option maxRecDepth 100000
abbrev GF (l : List Bool) (b : Bool) : Ct := ⟨102,[(LB l),(dB b)],false,(i6 (HF l b))⟩
abbrev vW (l : List Bool) (b : Bool) : Lp (Nat) := gJ [0,1,7,8] 0 (fun (i : Nat) => ⟨[(0,(LB l)),(1,(dB b)),(7,(i6 (l.length : Int))),(8,(i6 (i : Int)))],[]⟩) (fun (i : Nat) => i ≤ l.length∧∀ z,z < i → (b == l.getD z false) = false) (fun (i : Nat) => l.length - i)
theorem GG (l : List Bool) (b : Bool) (hl : l.length ≤ 9223372036854775807) : CC (GF l b) := by
 refine ak.vc (V := TT 4 (GO (vW l b) 0 (∀ i,(vW l b).inv i → TT 1 (CD ((i : Int) < (l.length : Int)) (TT 5 (IX (i : Int) l.length∧TT 2 (CB (b == (l.getD i false)) (TT 3 ((i : Int) = (HF l b)∧True)) (W6 ((i + 1 : Nat) : Int)∧TT 1 (AG (vW l b) i (i + 1)))))) (TT 2 ((-1) = (HF l b)∧True)))))) (.l (vW l b) 0 (fun i => .b 9 (.b 16 (.e) (.w 6 [(0,.val (i6 ((i + 1 : Nat) : Int)))] <| .e)) (.e))) Tryz.func102 rfl rfl rfl (by kernel_rfl) ?_
 refine tt ⟨rfl,⟨by omega,fun z hz => by omega⟩,?_⟩
 intro i hinv
 obtain ⟨hi,h3⟩ := hinv
 refine tt (cd (fun hc9 => ?_) (fun hc9 => ?_))
 · refine tt ⟨ix,tt ⟨fun hc16 => ?_,fun hc16 => ?_⟩⟩
   · refine tt ⟨?_,oK⟩
     first | exact (it (f := fun i => b == l.getD i false) hc16 h3 (by omega)).symm | exact (mg (f := fun i => b == l.getD i false) (fun z hz => h3 z (by omega))).symm
   · refine ⟨w6,tt ⟨(i + 1),rfl,?_,(?_ : l.length - (i + 1) < l.length - i)⟩⟩
     · exact ⟨by omega,ce h3 hc16⟩
     · omega
 · refine tt ⟨?_,oK⟩
   first | exact (it (f := fun i => b == l.getD i false) hc16 h3 (by omega)).symm | exact (mg (f := fun i => b == l.getD i false) (fun z hz => h3 z (by omega))).symm
abbrev Jd (l : List Bool) (b : Bool) : Ct := ⟨80,[(LB l),(dB b)],false,(dB (E6 l b))⟩
theorem GH (l : List Bool) (b : Bool) (hl : l.length ≤ 9223372036854775807) : CC (Jd l b) := by
 refine ak.vc (V := TT 3 (CC (GF l b)∧TT 3 ((decide ((HF l b) ≥ 0)) = (E6 l b)∧True))) (.w 1 [(2,(GF l b).O)] <| .e) Tryz.func80 rfl rfl rfl (by kernel_rfl) ?_
 refine tt ⟨(GG l b om),tt ⟨?_,oK⟩⟩
 rfl
abbrev xq (c : Ci) (s : Ns) (p : Int) : Ct := ⟨16,[(.agg (lG c)),(.agg (lH s)),(i6 p)],false,(dB (dj c s p))⟩
theorem ja (c : Ci) (s : Ns) (p : Int) (hc : bR c) (hs : cT c s) : CC (xq c s p) := by
 have hnl := hc.nl
 have hcl := hc.cl
 refine ak.vc (V := TT 3 (CS (p ≥ 0) (CS (p < (c.procs.length : Int)) (TT 2 ((True∧(decide (p ≥ 0)) = true)∧TT 6 ((True∧(decide (p < (c.procs.length : Int))) = true)∧TT 2 ((True∧p = (p.toNat : Int))∧CC (Gz c s p.toNat)∧TT 4 (((ab c s p.toNat).fires) = (dj c s p)∧True))))) (TT 2 ((True∧(decide (p ≥ 0)) = true)∧TT 6 ((True∧(decide (p < (c.procs.length : Int))) = false)∧TT 8 (false = (dj c s p)∧True))))) (TT 2 ((True∧(decide (p ≥ 0)) = false)∧TT 15 (false = (dj c s p)∧True))))) (.s 1 (p ≥ 0) (.s 1 (p < (c.procs.length : Int)) (.w 1 [(2,.val (dB true)),(9,.val (dB true)),(12,.val (i6 (p.toNat : Int))),(13,(Gz c s p.toNat).O)] <| .e) (.w 1 [(2,.val (dB true)),(9,.val (dB false))] <| .e)) (.w 1 [(2,.val (dB false))] <| .e)) Tryz.func16 rfl rfl rfl (by kernel_rfl) ?_
 refine tt ⟨fun hs0 => ?_,fun hs0 => ?_⟩
 · refine ⟨fun hs1 => ?_,fun hs1 => ?_⟩
   · refine tt ⟨(vT hs0),tt ⟨(vT hs1),tt ⟨⟨oK,(by omega)⟩,⟨(sO c s p.toNat hc hs (by omega)),tt ⟨?_,oK⟩⟩⟩⟩⟩
     first | exact (jB (by omega)).symm | exact (jC (by omega)).symm | exact (km (by omega) (by omega)).symm
   · refine tt ⟨(vT hs0),tt ⟨(vF hs1),tt ⟨?_,oK⟩⟩⟩
     first | exact (jB (by omega)).symm | exact (jC (by omega)).symm | exact (km (by omega) (by omega)).symm
 · refine tt ⟨(vF hs0),tt ⟨?_,oK⟩⟩
   first | exact (jB (by omega)).symm | exact (jC (by omega)).symm | exact (km (by omega) (by omega)).symm
abbrev Je (c : Ci) (s : Ns) (k : Int) : Ct := ⟨53,[(.agg (lG c)),(.agg (lH s)),(i6 k)],true,(.tup [(.agg [(dL 2 bl a7 ((aD c s (eF k)).procs)),(dL 1 af [] ((aD c s (eF k)).chans))]),(dB (FO c s k))])⟩
theorem DH (c : Ci) (s : Ns) (k : Int) (hc : bR c) (hs : cT c s) (hsm : kO s 4294967296) : CC (Je c s k) := by
 have hnl := hc.nl
 have hcl := hc.cl
 refine ak.vc (V := TT 8 (CC (GD c s k)∧TT 8 (CC (Jd (an (ai c s (eF k)) c.procs.length) true)∧TT 4 ((((aD c s (eF k)).procs).map bl = ((aD c s (eF k)).procs).map bl∧((aD c s (eF k)).chans).map af = ((aD c s (eF k)).chans).map af∧True)∧(E6 (an (ai c s (eF k)) c.procs.length) true) = (FO c s k)∧True)))) (.f 1 2 <| .w 1 [(3,(GD c s k).O)] <| .w 2 [(2,(Jd (an (ai c s (eF k)) c.procs.length) true).O)] <| .e) Tryz.func53 rfl rfl rfl (by kernel_rfl) ?_
 refine tt ⟨(BC c s k hc hs hsm),tt ⟨(GH (an (ai c s (eF k)) c.procs.length) true (by rw [aM]; omega)),tt ⟨⟨rfl,rfl,oK⟩,?_,oK⟩⟩⟩
 rfl
abbrev Jf (c : Ci) (s : Ns) (cl : ByteArray) : Ct := ⟨47,[(.agg (lG c)),(.agg (lH s)),(dS cl)],true,(.tup [(.agg [(dL 2 bl a7 ((aD c s (am c cl)).procs)),(dL 1 af [] ((aD c s (am c cl)).chans))]),(LB (an (ai c s (am c cl)) c.procs.length))])⟩
theorem DI (c : Ci) (s : Ns) (cl : ByteArray) (hc : bR c) (hs : cT c s) (hsm : kO s 4294967296) : CC (Jf c s cl) := by
 have hnl := hc.nl
 have hcl := hc.cl
 refine ak.vc (V := TT 8 (CC (GE c s cl)∧TT 6 ((((aD c s (am c cl)).procs).map bl = ((aD c s (am c cl)).procs).map bl∧((aD c s (am c cl)).chans).map af = ((aD c s (am c cl)).chans).map af∧True)∧(an (ai c s (am c cl)) c.procs.length).map aL = (an (ai c s (am c cl)) c.procs.length).map aL∧True))) (.f 1 0 <| .f 1 2 <| .w 1 [(3,(GE c s cl).O)] <| .e) Tryz.func47 rfl rfl rfl (by kernel_rfl) ?_
 exact tt ⟨(BG c s cl hc hs hsm),tt ⟨⟨rfl,rfl,oK⟩,rfl,oK⟩⟩
abbrev Jg (c : Ci) (s : Ns) (n : Int) (ws : List Int) : Ct := ⟨56,[(.agg (lG c)),(.agg (lH s)),(i6 n),(LI ws)],true,(.tup [(.agg [(dL 2 bl a7 (((aI c s n ws).1).procs)),(dL 1 af [] (((aI c s n ws).1).chans))]),(i6 ((aI c s n ws).2))])⟩
abbrev DJ (c : Ci) (s : Ns) : List aH := [(cS c),(db s),gt]
abbrev pC (c : Ci) (s : Ns) (n : Int) (ws : List Int) : List (Nat × D) := [(28,(.agg (lH s))),(27,(.agg (lG c))),(2,(i6 n)),(3,(LI ws)),(4,(.ptr 0 0 0 0)),(5,(.ptr 1 0 0 0)),(8,(.ptr 2 0 0 0))]
abbrev sU (c : Ci) (s : Ns) : List aH := [(cS c),(db s),gt]
abbrev sV (c : Ci) (s : Ns) : List aH := [(cS c),(db s),.dead,.dead,.dead,(jI s),.dead,.dead,(.arr 43 1 af [] s.chans),.dead,.dead,(jH c)]
abbrev DK (c : Ci) (s : Ns) : List aH := [(cS c),(db s),gt,.dead,(cS c),(db s),.dead,.dead,.dead,(jI s),.dead,.dead,(.arr 43 1 af [] s.chans),.dead,.dead,(jH c)]
abbrev pD (n : Int) (ws : List Int) : List (Nat × D) := (Ar ws n)
abbrev DL (c : Ci) (s : Ns) (n : Int) (ws : List Int) (tm0 : Array Value) : List aH := [(cS c),(db s),gt,.dead,(cS c),(db s),.dead,.dead,.dead,(jI s),.dead,.dead,(.arr 43 1 af [] s.chans),.dead,.dead,(jH c),(.frame tm0 (Ar ws n)),.dead]
abbrev pE (n : Int) (ws : List Int) : List (Nat × D) := [(8,(.fn (.func 105) [] [(.iptr [(.sl 1 (ah .i64) 0 ws)] 0)])),(7,(i6 n)),(6,gu),(0,gu),(1,(i6 n)),(5,(.iptr [(.sl 1 (ah .i64) 0 ws)] 0))]
abbrev sW (c : Ci) (s : Ns) (n : Int) (ws : List Int) (tm0 : Array Value) : List aH := [(cS c),(db s),gt,.dead,(cS c),(db s),.dead,.dead,.dead,(jI s),.dead,.dead,(Au s n ws),.dead,.dead,(jH c),(.frame tm0 (Ar ws n)),.dead]
abbrev sX (c : Ci) (s : Ns) (n : Int) (ws : List Int) : List aH := [(cS c),(db s),gt,.dead,(cS c),(db s),.dead,.dead,.dead,(jI s),.dead,.dead,(Au s n ws),.dead,.dead,(jH c)]
theorem DM (c : Ci) (s : Ns) (n : Int) (ws : List Int) (hc : bR c) (hs : cT c s) (hsm : kO s 4294967296) (hw : ws.length ≤ 4294967296) : CC (Jg c s n ws) := by
 have hnl := hc.nl
 have hcl := hc.cl
 have hl1 := hs.pl
 have hl2 := hs.cl
 refine ak.vc (V := TT 4 (CS ((fL (·.frm) c n) = true) (TT 2 (CC (DA c n)∧TT 1 ((True∧(!(fL (·.frm) c n)) = false)∧TT 4 (IX n c.chans.length∧TT 2 (CC (Bw ws ((c.chans.getD n.toNat be).w))∧TT 2 (CB (!(cg ws ((c.chans.getD n.toNat be).w))) (TT 5 (((((aI c s n ws).1).procs) = []∧(((aI c s n ws).1).chans) = []∧True)∧(1 : Int) = ((aI c s n ws).2)∧True)) (TT 2 (lh Tryz.prog 84 [(.agg (lG c)),(.agg (lH s))] (DJ c s) (pC c s n ws) (sU c s) (sV c s) gu∧TT 4 (lh Tryz.prog 85 [gu,(i6 n),(LI ws)] (DK c s) (pD n ws) (sX c s n ws) [] (.tup [])∧TT 8 ((s.procs.map bl = (((aI c s n ws).1).procs).map bl∧(s.chans.set n.toNat ((s.chans.getD n.toNat []) ++ ws)).map af = (((aI c s n ws).1).chans).map af∧True)∧(0 : Int) = ((aI c s n ws).2)∧True)))))))))) (TT 2 (CC (DA c n)∧TT 1 ((True∧(!(fL (·.frm) c n)) = true)∧TT 15 (((((aI c s n ws).1).procs) = []∧(((aI c s n ws).1).chans) = []∧True)∧(1 : Int) = ((aI c s n ws).2)∧True)))))) (.s 1 ((fL (·.frm) c n) = true) (.w 1 [(2,(DA c n).O),(4,.val (dB false)),(12,(Bw ws ((c.chans.getD n.toNat be).w)).O)] <| .b 25 (.e) (.q 3 [2,3,4,5,8] 3 <| .w 3 [(2,.inl gu (pC c s n ws) ((sU c s) ++ .dead :: (sV c s)))] <| .q 4 [2,3,8,10] 16 <| .w 4 [(3,.inl (.tup []) (pD n ws) ((sX c s n ws) ++ .dead :: []))] <| .e)) (.w 1 [(2,(DA c n).O),(4,.val (dB true))] <| .e)) Tryz.func56 rfl rfl rfl (by kernel_rfl) ?_
 refine tt ⟨fun hs0 => ?_,fun hs0 => ?_⟩
 · obtain ⟨ho1,ho2,ho3⟩ := vU hs0
   have hw : 1 ≤ (c.chans.getD n.toNat be).w∧(c.chans.getD n.toNat be).w ≤ 8 := aW.1 (hc.cw n.toNat (by omega))
   refine tt ⟨(xk c n hc),tt ⟨(mF hs0),tt ⟨ix,tt ⟨(hJ ws ((c.chans.getD n.toNat be).w) (by omega) (by omega) (by omega)),tt ⟨fun hc25 => ?_,fun hc25 => ?_⟩⟩⟩⟩⟩
   · refine tt ⟨⟨?_,?_,oK⟩,?_,oK⟩
     all_goals (all_goals (first | (rw [sR hs0]) | (rw [sS (by simpa using hc25)]) | (rw [sT hs0 (by simpa using hc25)])))
   · refine tt ⟨?_,?_⟩
     · intro tm0
       refine dZ.vc (V := TT 6 (CO (vN s.procs)∧TT 2 (CO (vO s.chans)∧TT 5 ((gu : D) = gu∧([(cS c),(db s),gt,.frame tm0 (pC c s n ws),(cS c),(db s),.dead,.dead,.dead,(jI s),.dead,.dead,(.arr 43 1 af [] s.chans),.dead,.dead,(jH c)] : List aH) = (sU c s) ++ .frame tm0 (pC c s n ws) :: (sV c s))))) (.w 1 [(3,(vN s.procs).O),(6,(vO s.chans).O)] <| .e) Tryz.func84 rfl rfl (by kernel_rfl) ?_
       exact tt ⟨(mh s.procs om),tt ⟨(mi s.chans om),tt ⟨rfl,rfl⟩⟩⟩
     obtain ⟨ho1,ho2,ho3⟩ := vU hs0
     have hlw : (s.chans.getD n.toNat []).length ≤ 4294967296 := hsm n.toNat
     refine tt ⟨?_,?_⟩
     · intro tm0
       refine dZ.vc (V := TT 4 (lh Tryz.prog 87 [gu,(i6 n),(.fn (.func 105) [] [(.iptr [(.sl 1 (ah .i64) 0 ws)] 0)])] (DL c s n ws tm0) (pE n ws) (sW c s n ws tm0) [] (.tup [])∧True∧([(cS c),(db s),gt,.dead,(cS c),(db s),.dead,.dead,.dead,(jI s),.dead,.dead,(Au s n ws),.dead,.dead,(jH c),.frame tm0 (pD n ws)] : List aH) = (sX c s n ws) ++ .frame tm0 (pD n ws) :: [])) (.q 1 [0,1,5] 18 <| .f 1 17 <| .w 1 [(3,.inl (.tup []) (pE n ws) ((sW c s n ws tm0) ++ .dead :: []))] <| .e) Tryz.func85 rfl rfl (by kernel_rfl) ?_
       refine tt ⟨?_,?_⟩
       · intro tm1
         refine dZ.vc (V := TT 13 (IX n s.chans.length∧(n.toNat < s.chans.length∧True)∧CC (y3 (s.chans.getD n.toNat []) ws)∧IX n s.chans.length∧(n.toNat < s.chans.length∧(s.chans.map af).set n.toNat ((af (s.chans.getD n.toNat [])).take 0 ++ [(.sl 1 (ah .i64) 0 ((s.chans.getD n.toNat []) ++ ws))] ++ (af (s.chans.getD n.toNat [])).drop (0 + 1)) = (s.chans.set n.toNat ((s.chans.getD n.toNat []) ++ ws)).map af)∧True∧([(cS c),(db s),gt,.dead,(cS c),(db s),.dead,.dead,.dead,(jI s),.dead,.dead,(Au s n ws),.dead,.dead,(jH c),(.frame tm0 (Ar ws n)),.dead,.frame tm1 (pE n ws)] : List aH) = (sW c s n ws tm0) ++ .frame tm1 (pE n ws) :: [])) (.w 0 [(15,(y3 (s.chans.getD n.toNat []) ws).O),(17,.box 43 1 af [] (s.chans.set n.toNat ((s.chans.getD n.toNat []) ++ ws)))] <| .e) Tryz.func87 rfl rfl (by kernel_rfl) ?_
         exact tt ⟨ix,⟨⟨om,oK⟩,⟨(nY (s.chans.getD n.toNat []) ws om),⟨ix,⟨⟨om,by simp only [List.map_set]; rfl⟩,⟨oK,rfl⟩⟩⟩⟩⟩⟩
       exact ⟨oK,rfl⟩
     refine tt ⟨⟨(congrArg _ (?_ : s.procs = (((aI c s n ws).1).procs))),(congrArg _ (?_ : (s.chans.set n.toNat ((s.chans.getD n.toNat []) ++ ws)) = (((aI c s n ws).1).chans))),oK⟩,?_,oK⟩
     all_goals (all_goals (first | (rw [sR hs0]) | (rw [sS (by simpa using hc25)]) | (rw [sT hs0 (by simpa using hc25)])))
 · refine tt ⟨(xk c n hc),tt ⟨(mT hs0),tt ⟨⟨?_,?_,oK⟩,?_,oK⟩⟩⟩
   all_goals (all_goals (first | (rw [sR hs0]) | (rw [sS (by simpa using hc25)]) | (rw [sT hs0 (by simpa using hc25)])))
abbrev Jh (c : Ci) (s : Ns) (n : Int) : Ct := ⟨57,[(.agg (lG c)),(.agg (lH s)),(i6 n)],true,(.tup [(LI ((ci c s n).1)),(.agg [(dL 2 bl a7 (((ci c s n).2.1).procs)),(dL 1 af [] (((ci c s n).2.1).chans))]),(i6 ((ci c s n).2.2))])⟩
abbrev DN (c : Ci) (s : Ns) : List aH := [(cS c),(db s),gt]
abbrev pF (c : Ci) (s : Ns) (n : Int) : List (Nat × D) := [(16,(.agg (lH s))),(15,(.agg (lG c))),(2,(i6 n)),(3,(.ptr 0 0 0 0)),(4,(.ptr 1 0 0 0)),(7,(.ptr 2 0 0 0))]
abbrev sY (c : Ci) (s : Ns) : List aH := [(cS c),(db s),gt]
abbrev sZ (c : Ci) (s : Ns) : List aH := [(cS c),(db s),.dead,.dead,.dead,(jI s),.dead,.dead,(.arr 43 1 af [] s.chans),.dead,.dead,(jH c)]
abbrev DP (c : Ci) (s : Ns) : List aH := [(cS c),(db s),gt,.dead,(cS c),(db s),.dead,.dead,.dead,(jI s),.dead,.dead,(.arr 43 1 af [] s.chans),.dead,.dead,(jH c)]
abbrev pG (n : Int) : List (Nat × D) := [(19,(i6 n)),(18,gu),(2,(i6 n)),(4,(.ptr 1 0 0 0)),(7,(.ptr 2 0 0 0)),(9,gu)]
abbrev s4 (c : Ci) (s : Ns) (n : Int) : List aH := [(cS c),(db s),gt,.dead,(cS c),(db s),.dead,.dead,.dead,(jI s),.dead,.dead,(.arr 43 1 af [] (s.chans.set n.toNat ([] : List Int))),.dead,.dead,(jH c)]
theorem DQ (c : Ci) (s : Ns) (n : Int) (hc : bR c) (hs : cT c s) (hsm : kO s 4294967296) : CC (Jh c s n) := by
 have hnl := hc.nl
 have hcl := hc.cl
 have hl1 := hs.pl
 have hl2 := hs.cl
 refine ak.vc (V := TT 7 (CC (Gy c n)∧TT 1 (CB (!(fL (·.dst) c n)) (TT 7 (((ci c s n).1) = []∧((((ci c s n).2.1).procs) = []∧(((ci c s n).2.1).chans) = []∧True)∧(1 : Int) = ((ci c s n).2.2)∧True)) (TT 2 (lh Tryz.prog 84 [(.agg (lG c)),(.agg (lH s))] (DN c s) (pF c s n) (sY c s) (sZ c s) gu∧TT 3 (lh Tryz.prog 87 [gu,(i6 n),(.fn (.func 88) [] [])] (DP c s) (pG n) (s4 c s n) [] (.tup [])∧TT 3 (IX n s.chans.length∧TT 1 (CO (I5 (s.chans.getD n.toNat []))∧TT 10 ((s.chans.getD n.toNat []).map (ah .i64) = ((ci c s n).1).map (ah .i64)∧(s.procs.map bl = (((ci c s n).2.1).procs).map bl∧(s.chans.set n.toNat ([] : List Int)).map af = (((ci c s n).2.1).chans).map af∧True)∧(0 : Int) = ((ci c s n).2.2)∧True))))))))) (.w 1 [(2,(Gy c n).O)] <| .b 13 (.e) (.q 3 [2,3,4,7] 3 <| .w 3 [(2,.inl gu (pF c s n) ((sY c s) ++ .dead :: (sZ c s)))] <| .q 4 [2,4,7,9] 16 <| .w 4 [(2,.inl (.tup []) (pG n) ((s4 c s n) ++ .dead :: []))] <| .w 5 [(5,(I5 (s.chans.getD n.toNat [])).O)] <| .e)) Tryz.func57 rfl rfl rfl (by kernel_rfl) ?_
 refine tt ⟨(DB c n hc),tt ⟨fun hc13 => ?_,fun hc13 => ?_⟩⟩
 · refine tt ⟨?_,⟨?_,?_,oK⟩,?_,oK⟩
   all_goals (all_goals (first | (rw [Ap (by simpa using hc13)]) | (rw [xo (by simpa using hc13)])))
 · refine tt ⟨?_,?_⟩
   · intro tm0
     refine dZ.vc (V := TT 6 (CO (vN s.procs)∧TT 2 (CO (vO s.chans)∧TT 5 ((gu : D) = gu∧([(cS c),(db s),gt,.frame tm0 (pF c s n),(cS c),(db s),.dead,.dead,.dead,(jI s),.dead,.dead,(.arr 43 1 af [] s.chans),.dead,.dead,(jH c)] : List aH) = (sY c s) ++ .frame tm0 (pF c s n) :: (sZ c s))))) (.w 1 [(3,(vN s.procs).O),(6,(vO s.chans).O)] <| .e) Tryz.func84 rfl rfl (by kernel_rfl) ?_
     exact tt ⟨(mh s.procs om),tt ⟨(mi s.chans om),tt ⟨rfl,rfl⟩⟩⟩
   obtain ⟨ho1,ho2,ho3⟩ := vU (show fL (·.dst) c n = true by simpa using hc13)
   have hlw : (s.chans.getD n.toNat []).length ≤ 4294967296 := hsm n.toNat
   refine tt ⟨?_,?_⟩
   · intro tm0
     refine dZ.vc (V := TT 13 (IX n s.chans.length∧(n.toNat < s.chans.length∧True)∧CC (Ja (s.chans.getD n.toNat []))∧IX n s.chans.length∧(n.toNat < s.chans.length∧(s.chans.map af).set n.toNat ((af (s.chans.getD n.toNat [])).take 0 ++ [(.sl 1 (ah .i64) 0 ([] : List Int))] ++ (af (s.chans.getD n.toNat [])).drop (0 + 1)) = (s.chans.set n.toNat ([] : List Int)).map af)∧True∧([(cS c),(db s),gt,.dead,(cS c),(db s),.dead,.dead,.dead,(jI s),.dead,.dead,(.arr 43 1 af [] (s.chans.set n.toNat ([] : List Int))),.dead,.dead,(jH c),.frame tm0 (pG n)] : List aH) = (s4 c s n) ++ .frame tm0 (pG n) :: [])) (.w 0 [(15,(Ja (s.chans.getD n.toNat [])).O),(17,.box 43 1 af [] (s.chans.set n.toNat ([] : List Int)))] <| .e) Tryz.func87 rfl rfl (by kernel_rfl) ?_
     exact tt ⟨ix,⟨⟨om,oK⟩,⟨(xp (s.chans.getD n.toNat [])),⟨ix,⟨⟨om,by simp only [List.map_set]; rfl⟩,⟨oK,rfl⟩⟩⟩⟩⟩⟩
   refine tt ⟨ix,tt ⟨(Bu (s.chans.getD n.toNat []) om),tt ⟨(congrArg _ (?_ : (s.chans.getD n.toNat []) = ((ci c s n).1))),⟨(congrArg _ (?_ : s.procs = (((ci c s n).2.1).procs))),(congrArg _ (?_ : (s.chans.set n.toNat ([] : List Int)) = (((ci c s n).2.1).chans))),oK⟩,?_,oK⟩⟩⟩
   all_goals (all_goals (first | (rw [Ap (by simpa using hc13)]) | (rw [xo (by simpa using hc13)])))
abbrev Ji (c : Ci) (s : Ns) (bt : Int) : Ct := ⟨61,[(.agg (lG c)),(.agg (lH s)),(i6 bt)],true,(.tup [(.agg [(dL 2 bl a7 (((cb c s bt).1).procs)),(dL 1 af [] (((cb c s bt).1).chans))]),(LI ((cb c s bt).2.1)),(i6 ((cb c s bt).2.2))])⟩
abbrev kv (c : Ci) (s : Ns) (bt : Int) : Lp (Ns × Int × List Int) := G1 [2,3,4,6,9] 4 (fun (u : Ns) (bud : Int) (cnt : List Int) => ⟨[(2,(i6 bud)),(3,(.ptr 0 0 0 0)),(4,(.ptr 1 0 0 0)),(6,(.ptr 2 0 0 0)),(9,(.own 3))],[(cS c),(.var 36 [(dL 2 bl a7 u.procs),(dL 1 af [] u.chans)]),gt,(.arr 3 1 (ah .i64) 0 cnt)]⟩) (fun (u : Ns) (bud : Int) (cnt : List Int) => cT c u∧kO u (1000000000 + (bt - bud).toNat)∧cnt.length = c.procs.length∧fC c (bud).toNat u cnt = cb c s bt∧bud ≤ bt∧(∀ z,0 ≤ cnt.getD z 0∧cnt.getD z 0 ≤ bt - bud)) (fun (u : Ns) (bud : Int) (cnt : List Int) => (bud).toNat)
abbrev kw (c : Ci) (u : Ns) (bud : Int) (cnt : List Int) : Lp (Nat) := gJ [2,3,4,6,9,10,18,19] 4 (fun (p : Nat) => ⟨[(2,(i6 bud)),(3,(.ptr 0 0 0 0)),(4,(.ptr 1 0 0 0)),(6,(.ptr 2 0 0 0)),(9,(.own 3)),(10,(i6 (-1))),(18,(i6 (c.procs.length : Int))),(19,(i6 (p : Int)))],[(cS c),(.var 36 [(dL 2 bl a7 u.procs),(dL 1 af [] u.chans)]),gt,(.arr 3 1 (ah .i64) 0 cnt)]⟩) (fun (p : Nat) => p ≤ c.procs.length∧jl c u (c.procs.length - p) p = fB c u) (fun (p : Nat) => c.procs.length - p)
theorem za (c : Ci) (s : Ns) (bt : Int) (hc : bR c) (hs : cT c s) (hsm : kO s 1000000000) (hb : bt ≤ 1000000) (hb2 : -9223372036854775808 ≤ bt) : CC (Ji c s bt) := by
 have hnl := hc.nl
 have hcl := hc.cl
 refine ak.vc (V := TT 8 ((((0 : Int) ≤ (c.procs.length : Int)∧(c.procs.length : Int) ≤ (c.procs.length : Int)∧(c.procs.length : Int) ≤ 137438953472)∧(List.replicate c.procs.length (0 : Int)).length = c.procs.length∧∀ x ∈ (List.replicate c.procs.length (0 : Int)),cG [(i6 0)] ((ah .i64) x))∧TT 1 (GO (kv c s bt) (s,bt,List.replicate c.procs.length (0 : Int)) (∀ u bud cnt,(kv c s bt).inv (u,bud,cnt) → TT 5 (GO (kw c u bud cnt) 0 (∀ p,(kw c u bud cnt).inv p → TT 1 (CD ((p : Int) < (c.procs.length : Int)) (TT 5 (CC (xq c u (p : Int))∧CB (dj c u (p : Int)) (TT 5 ((decide ((p : Int) < 0)) = false∧TT 3 (CD (bud ≤ 0) (TT 8 ((u.procs.map bl = (((cb c s bt).1).procs).map bl∧u.chans.map af = (((cb c s bt).1).chans).map af∧True)∧cnt.map (ah .i64) = ((cb c s bt).2.1).map (ah .i64)∧(7 : Int) = ((cb c s bt).2.2)∧True)) (TT 1 (W6 (bud - 1)∧TT 3 (IX (p : Int) cnt.length∧(p < cnt.length∧True)∧W6 ((cnt.getD p 0) + 1)∧IX (p : Int) cnt.length∧(p < cnt.length∧(cnt.map (ah .i64)).set p (((ah .i64) (cnt.getD p 0)).take 0 ++ [(.int .i64 ((cnt.getD p 0) + 1))] ++ ((ah .i64) (cnt.getD p 0)).drop (0 + 1)) = (cnt.set p ((cnt.getD p 0) + 1)).map (ah .i64))∧TT 3 (CC (Je c u (p : Int))∧TT 4 (AG (kv c s bt) (u,bud,cnt) (aD c u (eF (p : Int)),bud - 1,cnt.set p ((cnt.getD p 0) + 1)))))))))) (W6 ((p + 1 : Nat) : Int)∧TT 1 (AG (kw c u bud cnt) p (p + 1))))) (TT 11 ((u.procs.map bl = (((cb c s bt).1).procs).map bl∧u.chans.map af = (((cb c s bt).1).chans).map af∧True)∧cnt.map (ah .i64) = ((cb c s bt).2.1).map (ah .i64)∧(0 : Int) = ((cb c s bt).2.2)∧True))))))))) (.w 1 [(3,.box 3 1 (ah .i64) 0 (List.replicate c.procs.length (0 : Int)))] <| .l (kv c s bt) (s,bt,List.replicate c.procs.length (0 : Int)) (fun ⟨u,bud,cnt⟩ => .l (kw c u bud cnt) 0 (fun p => .b 20 (.w 6 [(3,(xq c u (p : Int)).O)] <| .b 25 (.u 28 (.b 33 (.e) (.w 13 [(1,.val (i6 (bud - 1)))] <| .w 14 [(4,.val (i6 ((cnt.getD p 0) + 1))),(6,.box 3 1 (ah .i64) 0 (cnt.set p ((cnt.getD p 0) + 1)))] <| .w 15 [(3,(Je c u (p : Int)).O)] <| .e))) (.w 8 [(0,.val (i6 ((p + 1 : Nat) : Int)))] <| .e)) (.e)))) Tryz.func61 rfl rfl rfl (by kernel_rfl) ?_
 refine tt ⟨⟨by omega,by simp,fun x hx => by rw [List.eq_of_mem_replicate hx]; exact ⟨rfl,oK⟩⟩,tt ⟨rfl,⟨hs,fun m => Nat.le_trans (hsm m) (by omega),by simp,rfl,by omega,fun z => by rw [bO]; omega⟩,?_⟩⟩
 intro u bud cnt hinv
 obtain ⟨hus,hum,hcl0,hgo,hbb,hcb⟩ := hinv
 refine tt ⟨rfl,⟨by omega,rfl⟩,?_⟩
 intro p hinv
 obtain ⟨hp,hfk⟩ := hinv
 refine tt (cd (fun hc20 => ?_) (fun hc20 => ?_))
 · refine tt ⟨(ja c u (p : Int) hc hus),⟨fun hc25 => ?_,fun hc25 => ?_⟩⟩
   · have hfp : fB c u = (p : Int) := by rw [← hfk]; exact yI (by omega) (by rw [← vV (by omega)]; exact hc25)
     refine tt ⟨(decide_eq_false (by omega)),tt (cd (fun hc33 => ?_) (fun hc33 => ?_))⟩
     · refine tt ⟨⟨(congrArg _ (?_ : u.procs = (((cb c s bt).1).procs))),(congrArg _ (?_ : u.chans = (((cb c s bt).1).chans))),oK⟩,(congrArg _ (?_ : cnt = ((cb c s bt).2.1))),?_,oK⟩
       all_goals (all_goals (rw [← hgo]; first | rw [sM (by omega)] | rw [show bud.toNat = 0 by omega,pB (by omega)]))
     · refine tt ⟨w6,?_⟩
       have hcz := hcb p
       refine tt ⟨ix,⟨⟨om,oK⟩,⟨w6,⟨ix,⟨⟨om,by simp only [List.map_set]; rfl⟩,tt ⟨(DH c u (p : Int) hc hus (fun m => by have := hum m; omega)),tt ⟨(aD c u (eF (p : Int)),bud - 1,cnt.set p ((cnt.getD p 0) + 1)),rfl,?_,(?_ : ((bud - 1)).toNat < (bud).toNat)⟩⟩⟩⟩⟩⟩⟩
       · exact ⟨b4 hc hus _,fun m => Nat.le_trans (bU hc hum m) (by omega),by rw [List.length_set]; exact hcl0,by rw [← hgo,show bud.toNat = (bud - 1).toNat + 1 by omega,Bs (by omega),hfp,xn]; rfl,by omega,DD hcb (by omega)⟩
       · omega
   · refine ⟨w6,tt ⟨(p + 1),rfl,?_,(?_ : c.procs.length - (p + 1) < c.procs.length - p)⟩⟩
     · exact ⟨by omega,by rw [← hfk]; exact (Br (by omega) (by rw [← vV (by omega),hc25]; simp)).symm⟩
     · omega
 · have hfn : fB c u = -1 := by rw [← hfk]; exact yJ (by omega)
   refine tt ⟨⟨(congrArg _ (?_ : u.procs = (((cb c s bt).1).procs))),(congrArg _ (?_ : u.chans = (((cb c s bt).1).chans))),oK⟩,(congrArg _ (?_ : cnt = ((cb c s bt).2.1))),?_,oK⟩
   all_goals (all_goals (rw [← hgo]; first | rw [sM (by omega)] | rw [show bud.toNat = 0 by omega,pB (by omega)]))
end Go.Proofs.YtifoecfajmnjjaaGreat
