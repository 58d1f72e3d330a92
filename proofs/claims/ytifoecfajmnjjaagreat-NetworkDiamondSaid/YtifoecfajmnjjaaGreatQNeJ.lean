/-
  Package network: what it answers.
-/
import Derived.Test.YtifoecfajmnjjaaGreatQNeI
namespace Go.Proofs.YtifoecfajmnjjaaGreat
open Go.RowKit
set_option linter.unusedVariables false
set_option linter.unusedSimpArgs false
abbrev nO (c : Ci) : List D := [(dL 6 ga ay c.procs),(dL 5 jy ba c.chans)]
abbrev nP (s : Ns) : List D := [(dL 2 be aU s.procs),(dL 1 af [] s.chans)]
abbrev me (c : Ci) : aM := (.var 171 [(dL 6 ga ay c.procs),(dL 5 jy ba c.chans),(.own 9),(.own 12)])
abbrev iB : aM := (.var 36 [.nils,.nils])
abbrev jj : D := (.ptr 15 0 0 0)
abbrev EV (ws : List Int) (n : Int) : List (Nat × D) := [(32,(LI ws)),(31,(i6 n)),(30,jj),(2,(i6 n)),(3,(LI ws)),(8,(.ptr 2 0 0 0)),(10,jj)]
abbrev dP (c : Ci) : aM := (.var 31 (nO c))
abbrev en (s : Ns) : aM := (.var 36 (nP s))
abbrev mf (s : Ns) : aM := (.arr 45 2 be aU s.procs)
abbrev EW (s : Ns) (n : Int) (ws : List Int) : aM := (.arr 43 1 af [] (s.chans.set n.toNat ((s.chans.getD n.toNat []) ++ ws)))
set_option maxRecDepth 100000
abbrev Lw (l : List Bool) (b : Bool) : Ct := ⟨102,[(LB l),(dB b)],false,(i6 (Lg l b))⟩
abbrev zY (l : List Bool) (b : Bool) : Lp (Nat) := fX [0,1,7,8] 0 (fun (i : Nat) => ⟨[(0,(LB l)),(1,(dB b)),(7,(i6 (l.length : Int))),(8,(i6 (i : Int)))],[]⟩) (fun (i : Nat) => i ≤ l.length∧∀ z,z < i → (b == l.getD z false) = false) (fun (i : Nat) => l.length - i)
theorem Lx (l : List Bool) (b : Bool) (hl : l.length ≤ 9223372036854775807) : CC (Lw l b) := by
 refine an.vc (V := TT 4 (GO (zY l b) 0 (∀ i,(zY l b).inv i → TT 1 (CD ((i : Int) < (l.length : Int)) (TT 5 (IX (i : Int) l.length∧TT 2 (CB (b == (l.getD i false)) (TT 3 ((i : Int) = (Lg l b)∧True)) (W6 ((i + 1 : Nat) : Int)∧TT 1 (AG (zY l b) i (i + 1)))))) (TT 2 ((-1) = (Lg l b)∧True)))))) (.l (zY l b) 0 (fun i => .b 9 (.b 16 (.e) (.w 6 [(0,.val (i6 ((i + 1 : Nat) : Int)))] <| .e)) (.e))) Tryz.func102 rfl rfl rfl (by kernel_rfl) ?_
 refine tt ⟨rfl,⟨by omega,fun z hz => by omega⟩,?_⟩
 intro i hinv
 obtain ⟨hi,h3⟩ := hinv
 refine tt (cd (fun hc9 => ?_) (fun hc9 => ?_))
 · refine tt ⟨ix,tt ⟨fun hc16 => ?_,fun hc16 => ?_⟩⟩
   · refine tt ⟨?_,oK⟩
     first | exact (kB (f := fun i => b == l.getD i false) hc16 h3 (by omega)).symm | exact (pK (f := fun i => b == l.getD i false) (fun z hz => h3 z (by omega))).symm
   · refine ⟨w6,tt ⟨(i + 1),rfl,?_,(?_ : l.length - (i + 1) < l.length - i)⟩⟩
     · exact ⟨by omega,cy h3 hc16⟩
     · omega
 · refine tt ⟨?_,oK⟩
   first | exact (kB (f := fun i => b == l.getD i false) hc16 h3 (by omega)).symm | exact (pK (f := fun i => b == l.getD i false) (fun z hz => h3 z (by omega))).symm
abbrev Ou (l : List Bool) (b : Bool) : Ct := ⟨80,[(LB l),(dB b)],false,(dB (Bk l b))⟩
theorem Ly (l : List Bool) (b : Bool) (hl : l.length ≤ 9223372036854775807) : CC (Ou l b) := by
 refine an.vc (V := TT 3 (CC (Lw l b)∧TT 3 ((decide ((Lg l b) ≥ 0)) = (Bk l b)∧True))) (.w 1 [(2,(Lw l b).O)] <| .e) Tryz.func80 rfl rfl rfl (by kernel_rfl) ?_
 refine tt ⟨(Lx l b om),tt ⟨?_,oK⟩⟩
 rfl
abbrev io (c : Ci) (s : Ns) (p : Int) : Ct := ⟨16,[(.agg (nO c)),(.agg (nP s)),(i6 p)],false,(dB (bp c s p))⟩
theorem b9 (c : Ci) (s : Ns) (p : Int) (hc : bo c) (hs : bN c s) : CC (io c s p) := by
 have hnl := hc.nl
 have hcl := hc.cl
 refine an.vc (V := TT 3 (CS (p ≥ 0) (CS (p < (c.procs.length : Int)) (TT 2 ((True∧(decide (p ≥ 0)) = true)∧TT 6 ((True∧(decide (p < (c.procs.length : Int))) = true)∧TT 2 ((True∧p = (p.toNat : Int))∧CC (Lq c s p.toNat)∧TT 4 (((ac c s p.toNat).fires) = (bp c s p)∧True))))) (TT 2 ((True∧(decide (p ≥ 0)) = true)∧TT 6 ((True∧(decide (p < (c.procs.length : Int))) = false)∧TT 8 (false = (bp c s p)∧True))))) (TT 2 ((True∧(decide (p ≥ 0)) = false)∧TT 15 (false = (bp c s p)∧True))))) (.s 1 (p ≥ 0) (.s 1 (p < (c.procs.length : Int)) (.w 1 [(2,.val (dB true)),(9,.val (dB true)),(12,.val (i6 (p.toNat : Int))),(13,(Lq c s p.toNat).O)] <| .e) (.w 1 [(2,.val (dB true)),(9,.val (dB false))] <| .e)) (.w 1 [(2,.val (dB false))] <| .e)) Tryz.func16 rfl rfl rfl (by kernel_rfl) ?_
 refine tt ⟨fun hs0 => ?_,fun hs0 => ?_⟩
 · refine ⟨fun hs1 => ?_,fun hs1 => ?_⟩
   · refine tt ⟨(vT hs0),tt ⟨(vT hs1),tt ⟨⟨oK,(by omega)⟩,⟨(wH c s p.toNat hc hs (by omega)),tt ⟨?_,oK⟩⟩⟩⟩⟩
     first | exact (l8 (by omega)).symm | exact (l9 (by omega)).symm | exact (mW (by omega) (by omega)).symm
   · refine tt ⟨(vT hs0),tt ⟨(vF hs1),tt ⟨?_,oK⟩⟩⟩
     first | exact (l8 (by omega)).symm | exact (l9 (by omega)).symm | exact (mW (by omega) (by omega)).symm
 · refine tt ⟨(vF hs0),tt ⟨?_,oK⟩⟩
   first | exact (l8 (by omega)).symm | exact (l9 (by omega)).symm | exact (mW (by omega) (by omega)).symm
abbrev MX (c : Ci) (s : Ns) (k : Int) : Ct := ⟨53,[(.agg (nO c)),(.agg (nP s)),(i6 k)],true,(.tup [(.agg [(dL 2 be aU ((ak c s (bz k)).procs)),(dL 1 af [] ((ak c s (bz k)).chans))]),(dB (Bo c s k))])⟩
theorem Bs (c : Ci) (s : Ns) (k : Int) (hc : bo c) (hs : bN c s) (hsm : fY s 4294967296) : CC (MX c s k) := by
 have hnl := hc.nl
 have hcl := hc.cl
 refine an.vc (V := TT 8 (CC (Lu c s k)∧TT 8 (CC (Ou (ao (ai c s (bz k)) c.procs.length) true)∧TT 4 ((((ak c s (bz k)).procs).map be = ((ak c s (bz k)).procs).map be∧((ak c s (bz k)).chans).map af = ((ak c s (bz k)).chans).map af∧True)∧(Bk (ao (ai c s (bz k)) c.procs.length) true) = (Bo c s k)∧True)))) (.f 1 2 <| .w 1 [(3,(Lu c s k).O)] <| .w 2 [(2,(Ou (ao (ai c s (bz k)) c.procs.length) true).O)] <| .e) Tryz.func53 rfl rfl rfl (by kernel_rfl) ?_
 refine tt ⟨(Gi c s k hc hs hsm),tt ⟨(Ly (ao (ai c s (bz k)) c.procs.length) true (by rw [aN]; omega)),tt ⟨⟨rfl,rfl,oK⟩,?_,oK⟩⟩⟩
 rfl
abbrev MY (c : Ci) (s : Ns) (cl : ByteArray) : Ct := ⟨47,[(.agg (nO c)),(.agg (nP s)),(dS cl)],true,(.tup [(.agg [(dL 2 be aU ((ak c s (aj c cl)).procs)),(dL 1 af [] ((ak c s (aj c cl)).chans))]),(LB (ao (ai c s (aj c cl)) c.procs.length))])⟩
theorem Bt (c : Ci) (s : Ns) (cl : ByteArray) (hc : bo c) (hs : bN c s) (hsm : fY s 4294967296) : CC (MY c s cl) := by
 have hnl := hc.nl
 have hcl := hc.cl
 refine an.vc (V := TT 8 (CC (Lv c s cl)∧TT 6 ((((ak c s (aj c cl)).procs).map be = ((ak c s (aj c cl)).procs).map be∧((ak c s (aj c cl)).chans).map af = ((ak c s (aj c cl)).chans).map af∧True)∧(ao (ai c s (aj c cl)) c.procs.length).map aR = (ao (ai c s (aj c cl)) c.procs.length).map aR∧True))) (.f 1 0 <| .f 1 2 <| .w 1 [(3,(Lv c s cl).O)] <| .e) Tryz.func47 rfl rfl rfl (by kernel_rfl) ?_
 exact tt ⟨(Gm c s cl hc hs hsm),tt ⟨⟨rfl,rfl,oK⟩,rfl,oK⟩⟩
abbrev t9 (c : Ci) (s : Ns) (l : List ByteArray) : Ct := ⟨38,[(.agg (nO c)),(.agg (nP s)),(dL 1 cO .empty l)],true,(.agg [(dL 2 be aU ((bD c s l).procs)),(dL 1 af [] ((bD c s l).chans))])⟩
abbrev vt (c : Ci) (s : Ns) (l : List ByteArray) : Lp (Nat × Ns) := ku [3,4,6,9,10,11] 3 (fun (i : Nat) (u : Ns) => ⟨[(3,(.ptr 0 0 0 0)),(4,(.ptr 1 0 0 0)),(6,(.ptr 2 0 0 0)),(9,(dL 1 cO .empty l)),(10,(i6 (l.length : Int))),(11,(i6 (i : Int)))],[(dP c),(.var 36 [(dL 2 be aU u.procs),(dL 1 af [] u.chans)]),iB]⟩) (fun (i : Nat) (u : Ns) => i ≤ l.length∧u = bD c s (l.take i)∧bN c u∧fY u (1000000000 + i)) (fun (i : Nat) (u : Ns) => l.length - i)
theorem gF (c : Ci) (s : Ns) (l : List ByteArray) (hc : bo c) (hs : bN c s) (hsm : fY s 1000000000) (hl : l.length ≤ 1000000) : CC (t9 c s l) := by
 have hnl := hc.nl
 have hcl := hc.cl
 refine an.vc (V := TT 6 (GO (vt c s l) (0,s) (∀ i u,(vt c s l).inv (i,u) → TT 1 (CD ((i : Int) < (l.length : Int)) (IX (i : Int) l.length∧TT 5 (CC (MY c u (l.getD i .empty))∧TT 4 (W6 ((i + 1 : Nat) : Int)∧TT 1 (AG (vt c s l) (i,u) (i + 1,ak c u (aj c (l.getD i .empty))))))) (TT 3 (u.procs.map be = ((bD c s l).procs).map be∧u.chans.map af = ((bD c s l).chans).map af∧True)))))) (.l (vt c s l) (0,s) (fun ⟨i,u⟩ => .b 12 (.w 4 [(3,(MY c u (l.getD i .empty)).O)] <| .w 5 [(0,.val (i6 ((i + 1 : Nat) : Int)))] <| .e) (.e))) Tryz.func38 rfl rfl rfl (by kernel_rfl) ?_
 refine tt ⟨rfl,⟨by omega,rfl,hs,hsm⟩,?_⟩
 intro i u hinv
 obtain ⟨hi,hu,hus,hum⟩ := hinv
 refine tt (cd (fun hc12 => ?_) (fun hc12 => ?_))
 · refine ⟨ix,tt ⟨(Bt c u (l.getD i .empty) hc hus (fun n => by have := hum n; omega)),tt ⟨w6,tt ⟨(i + 1,ak c u (aj c (l.getD i .empty))),rfl,?_,(?_ : l.length - (i + 1) < l.length - i)⟩⟩⟩⟩
   · exact ⟨by omega,by rw [hu]; exact (Bp (by omega)).symm,aW hc hus _,a6 hc hum⟩
   · omega
 · refine tt ⟨(congrArg _ (?_ : u.procs = ((bD c s l).procs))),(congrArg _ (?_ : u.chans = ((bD c s l).chans))),oK⟩
   all_goals (all_goals (rw [hu,List.take_of_length_le (by omega)]))
abbrev Ow (c : Ci) (s : Ns) (n : Int) (ws : List Int) : Ct := ⟨56,[(.agg (nO c)),(.agg (nP s)),(i6 n),(LI ws)],true,(.tup [(.agg [(dL 2 be aU (((am c s n ws).1).procs)),(dL 1 af [] (((am c s n ws).1).chans))]),(i6 ((am c s n ws).2))])⟩
abbrev Io (c : Ci) (s : Ns) : List aM := [(dP c),(en s),iB]
abbrev sA (c : Ci) (s : Ns) (n : Int) (ws : List Int) : List (Nat × D) := [(28,(.agg (nP s))),(27,(.agg (nO c))),(2,(i6 n)),(3,(LI ws)),(4,(.ptr 0 0 0 0)),(5,(.ptr 1 0 0 0)),(8,(.ptr 2 0 0 0))]
abbrev wK (c : Ci) (s : Ns) : List aM := [(dP c),(en s),iB]
abbrev wL (c : Ci) (s : Ns) : List aM := [(dP c),(en s),.dead,.dead,.dead,(mf s),.dead,.dead,(.arr 43 1 af [] s.chans),.dead,.dead,(me c)]
abbrev Ip (c : Ci) (s : Ns) : List aM := [(dP c),(en s),iB,.dead,(dP c),(en s),.dead,.dead,.dead,(mf s),.dead,.dead,(.arr 43 1 af [] s.chans),.dead,.dead,(me c)]
abbrev sB (n : Int) (ws : List Int) : List (Nat × D) := (EV ws n)
abbrev Iq (c : Ci) (s : Ns) (n : Int) (ws : List Int) (tm0 : Array Value) : List aM := [(dP c),(en s),iB,.dead,(dP c),(en s),.dead,.dead,.dead,(mf s),.dead,.dead,(.arr 43 1 af [] s.chans),.dead,.dead,(me c),(.frame tm0 (EV ws n)),.dead]
abbrev sC (n : Int) (ws : List Int) : List (Nat × D) := [(8,(.fn (.func 105) [] [(.iptr [(.sl 1 (ah .i64) 0 ws)] 0)])),(7,(i6 n)),(6,jj),(0,jj),(1,(i6 n)),(5,(.iptr [(.sl 1 (ah .i64) 0 ws)] 0))]
abbrev wM (c : Ci) (s : Ns) (n : Int) (ws : List Int) (tm0 : Array Value) : List aM := [(dP c),(en s),iB,.dead,(dP c),(en s),.dead,.dead,.dead,(mf s),.dead,.dead,(EW s n ws),.dead,.dead,(me c),(.frame tm0 (EV ws n)),.dead]
abbrev wN (c : Ci) (s : Ns) (n : Int) (ws : List Int) : List aM := [(dP c),(en s),iB,.dead,(dP c),(en s),.dead,.dead,.dead,(mf s),.dead,.dead,(EW s n ws),.dead,.dead,(me c)]
theorem Ir (c : Ci) (s : Ns) (n : Int) (ws : List Int) (hc : bo c) (hs : bN c s) (hsm : fY s 4294967296) (hw : ws.length ≤ 4294967296) : CC (Ow c s n ws) := by
 have hnl := hc.nl
 have hcl := hc.cl
 have hl1 := hs.pl
 have hl2 := hs.cl
 refine an.vc (V := TT 4 (CS ((eV (·.frm) c n) = true) (TT 2 (CC (Ig c n)∧TT 1 ((True∧(!(eV (·.frm) c n)) = false)∧TT 4 (IX n c.chans.length∧TT 2 (CC (Ge ws ((c.chans.getD n.toNat ba).w))∧TT 2 (CB (!(cg ws ((c.chans.getD n.toNat ba).w))) (TT 5 (((((am c s n ws).1).procs) = []∧(((am c s n ws).1).chans) = []∧True)∧(1 : Int) = ((am c s n ws).2)∧True)) (TT 2 (ot Tryz.prog 84 [(.agg (nO c)),(.agg (nP s))] (Io c s) (sA c s n ws) (wK c s) (wL c s) jj∧TT 4 (ot Tryz.prog 85 [jj,(i6 n),(LI ws)] (Ip c s) (sB n ws) (wN c s n ws) [] (.tup [])∧TT 8 ((s.procs.map be = (((am c s n ws).1).procs).map be∧(s.chans.set n.toNat ((s.chans.getD n.toNat []) ++ ws)).map af = (((am c s n ws).1).chans).map af∧True)∧(0 : Int) = ((am c s n ws).2)∧True)))))))))) (TT 2 (CC (Ig c n)∧TT 1 ((True∧(!(eV (·.frm) c n)) = true)∧TT 15 (((((am c s n ws).1).procs) = []∧(((am c s n ws).1).chans) = []∧True)∧(1 : Int) = ((am c s n ws).2)∧True)))))) (.s 1 ((eV (·.frm) c n) = true) (.w 1 [(2,(Ig c n).O),(4,.val (dB false)),(12,(Ge ws ((c.chans.getD n.toNat ba).w)).O)] <| .b 25 (.e) (.q 3 [2,3,4,5,8] 3 <| .w 3 [(2,.inl jj (sA c s n ws) ((wK c s) ++ .dead :: (wL c s)))] <| .q 4 [2,3,8,10] 16 <| .w 4 [(3,.inl (.tup []) (sB n ws) ((wN c s n ws) ++ .dead :: []))] <| .e)) (.w 1 [(2,(Ig c n).O),(4,.val (dB true))] <| .e)) Tryz.func56 rfl rfl rfl (by kernel_rfl) ?_
 refine tt ⟨fun hs0 => ?_,fun hs0 => ?_⟩
 · obtain ⟨ho1,ho2,ho3⟩ := zX hs0
   have hw : 1 ≤ (c.chans.getD n.toNat ba).w∧(c.chans.getD n.toNat ba).w ≤ 8 := bc.1 (hc.cw n.toNat (by omega))
   refine tt ⟨(Bl c n hc),tt ⟨(mF hs0),tt ⟨ix,tt ⟨(j8 ws ((c.chans.getD n.toNat ba).w) (by omega) (by omega) (by omega)),tt ⟨fun hc25 => ?_,fun hc25 => ?_⟩⟩⟩⟩⟩
   · refine tt ⟨⟨?_,?_,oK⟩,?_,oK⟩
     all_goals (all_goals (first | (rw [kC hs0]) | (rw [gr (by simpa using hc25)]) | (rw [oV hs0 (by simpa using hc25)])))
   · refine tt ⟨?_,?_⟩
     · intro tm0
       refine fp.vc (V := TT 6 (CO (zR s.procs)∧TT 2 (CO (zS s.chans)∧TT 5 ((jj : D) = jj∧([(dP c),(en s),iB,.frame tm0 (sA c s n ws),(dP c),(en s),.dead,.dead,.dead,(mf s),.dead,.dead,(.arr 43 1 af [] s.chans),.dead,.dead,(me c)] : List aM) = (wK c s) ++ .frame tm0 (sA c s n ws) :: (wL c s))))) (.w 1 [(3,(zR s.procs).O),(6,(zS s.chans).O)] <| .e) Tryz.func84 rfl rfl (by kernel_rfl) ?_
       exact tt ⟨(pL s.procs om),tt ⟨(pM s.chans om),tt ⟨rfl,rfl⟩⟩⟩
     obtain ⟨ho1,ho2,ho3⟩ := zX hs0
     have hlw : (s.chans.getD n.toNat []).length ≤ 4294967296 := hsm n.toNat
     refine tt ⟨?_,?_⟩
     · intro tm0
       refine fp.vc (V := TT 4 (ot Tryz.prog 87 [jj,(i6 n),(.fn (.func 105) [] [(.iptr [(.sl 1 (ah .i64) 0 ws)] 0)])] (Iq c s n ws tm0) (sC n ws) (wM c s n ws tm0) [] (.tup [])∧True∧([(dP c),(en s),iB,.dead,(dP c),(en s),.dead,.dead,.dead,(mf s),.dead,.dead,(EW s n ws),.dead,.dead,(me c),.frame tm0 (sB n ws)] : List aM) = (wN c s n ws) ++ .frame tm0 (sB n ws) :: [])) (.q 1 [0,1,5] 18 <| .f 1 17 <| .w 1 [(3,.inl (.tup []) (sC n ws) ((wM c s n ws tm0) ++ .dead :: []))] <| .e) Tryz.func85 rfl rfl (by kernel_rfl) ?_
       refine tt ⟨?_,?_⟩
       · intro tm1
         refine fp.vc (V := TT 13 (IX n s.chans.length∧(n.toNat < s.chans.length∧True)∧CC (Dn (s.chans.getD n.toNat []) ws)∧IX n s.chans.length∧(n.toNat < s.chans.length∧(s.chans.map af).set n.toNat ((af (s.chans.getD n.toNat [])).take 0 ++ [(.sl 1 (ah .i64) 0 ((s.chans.getD n.toNat []) ++ ws))] ++ (af (s.chans.getD n.toNat [])).drop (0 + 1)) = (s.chans.set n.toNat ((s.chans.getD n.toNat []) ++ ws)).map af)∧True∧([(dP c),(en s),iB,.dead,(dP c),(en s),.dead,.dead,.dead,(mf s),.dead,.dead,(EW s n ws),.dead,.dead,(me c),(.frame tm0 (EV ws n)),.dead,.frame tm1 (sC n ws)] : List aM) = (wM c s n ws tm0) ++ .frame tm1 (sC n ws) :: [])) (.w 0 [(15,(Dn (s.chans.getD n.toNat []) ws).O),(17,.box 43 1 af [] (s.chans.set n.toNat ((s.chans.getD n.toNat []) ++ ws)))] <| .e) Tryz.func87 rfl rfl (by kernel_rfl) ?_
         exact tt ⟨ix,⟨⟨om,oK⟩,⟨(rk (s.chans.getD n.toNat []) ws om),⟨ix,⟨⟨om,by simp only [List.map_set]; rfl⟩,⟨oK,rfl⟩⟩⟩⟩⟩⟩
       exact ⟨oK,rfl⟩
     refine tt ⟨⟨(congrArg _ (?_ : s.procs = (((am c s n ws).1).procs))),(congrArg _ (?_ : (s.chans.set n.toNat ((s.chans.getD n.toNat []) ++ ws)) = (((am c s n ws).1).chans))),oK⟩,?_,oK⟩
     all_goals (all_goals (first | (rw [kC hs0]) | (rw [gr (by simpa using hc25)]) | (rw [oV hs0 (by simpa using hc25)])))
 · refine tt ⟨(Bl c n hc),tt ⟨(mT hs0),tt ⟨⟨?_,?_,oK⟩,?_,oK⟩⟩⟩
   all_goals (all_goals (first | (rw [kC hs0]) | (rw [gr (by simpa using hc25)]) | (rw [oV hs0 (by simpa using hc25)])))
abbrev Ox (c : Ci) (s : Ns) (n : Int) : Ct := ⟨57,[(.agg (nO c)),(.agg (nP s)),(i6 n)],true,(.tup [(LI ((aF c s n).1)),(.agg [(dL 2 be aU (((aF c s n).2.1).procs)),(dL 1 af [] (((aF c s n).2.1).chans))]),(i6 ((aF c s n).2.2))])⟩
abbrev It (c : Ci) (s : Ns) : List aM := [(dP c),(en s),iB]
abbrev sD (c : Ci) (s : Ns) (n : Int) : List (Nat × D) := [(16,(.agg (nP s))),(15,(.agg (nO c))),(2,(i6 n)),(3,(.ptr 0 0 0 0)),(4,(.ptr 1 0 0 0)),(7,(.ptr 2 0 0 0))]
abbrev wO (c : Ci) (s : Ns) : List aM := [(dP c),(en s),iB]
abbrev wP (c : Ci) (s : Ns) : List aM := [(dP c),(en s),.dead,.dead,.dead,(mf s),.dead,.dead,(.arr 43 1 af [] s.chans),.dead,.dead,(me c)]
abbrev Iu (c : Ci) (s : Ns) : List aM := [(dP c),(en s),iB,.dead,(dP c),(en s),.dead,.dead,.dead,(mf s),.dead,.dead,(.arr 43 1 af [] s.chans),.dead,.dead,(me c)]
abbrev sF (n : Int) : List (Nat × D) := [(19,(i6 n)),(18,jj),(2,(i6 n)),(4,(.ptr 1 0 0 0)),(7,(.ptr 2 0 0 0)),(9,jj)]
abbrev wQ (c : Ci) (s : Ns) (n : Int) : List aM := [(dP c),(en s),iB,.dead,(dP c),(en s),.dead,.dead,.dead,(mf s),.dead,.dead,(.arr 43 1 af [] (s.chans.set n.toNat ([] : List Int))),.dead,.dead,(me c)]
theorem Iv (c : Ci) (s : Ns) (n : Int) (hc : bo c) (hs : bN c s) (hsm : fY s 4294967296) : CC (Ox c s n) := by
 have hnl := hc.nl
 have hcl := hc.cl
 have hl1 := hs.pl
 have hl2 := hs.cl
 refine an.vc (V := TT 7 (CC (Lo c n)∧TT 1 (CB (!(eV (·.dst) c n)) (TT 7 (((aF c s n).1) = []∧((((aF c s n).2.1).procs) = []∧(((aF c s n).2.1).chans) = []∧True)∧(1 : Int) = ((aF c s n).2.2)∧True)) (TT 2 (ot Tryz.prog 84 [(.agg (nO c)),(.agg (nP s))] (It c s) (sD c s n) (wO c s) (wP c s) jj∧TT 3 (ot Tryz.prog 87 [jj,(i6 n),(.fn (.func 88) [] [])] (Iu c s) (sF n) (wQ c s n) [] (.tup [])∧TT 3 (IX n s.chans.length∧TT 1 (CO (Oj (s.chans.getD n.toNat []))∧TT 10 ((s.chans.getD n.toNat []).map (ah .i64) = ((aF c s n).1).map (ah .i64)∧(s.procs.map be = (((aF c s n).2.1).procs).map be∧(s.chans.set n.toNat ([] : List Int)).map af = (((aF c s n).2.1).chans).map af∧True)∧(0 : Int) = ((aF c s n).2.2)∧True))))))))) (.w 1 [(2,(Lo c n).O)] <| .b 13 (.e) (.q 3 [2,3,4,7] 3 <| .w 3 [(2,.inl jj (sD c s n) ((wO c s) ++ .dead :: (wP c s)))] <| .q 4 [2,4,7,9] 16 <| .w 4 [(2,.inl (.tup []) (sF n) ((wQ c s n) ++ .dead :: []))] <| .w 5 [(5,(Oj (s.chans.getD n.toNat [])).O)] <| .e)) Tryz.func57 rfl rfl rfl (by kernel_rfl) ?_
 refine tt ⟨(Ih c n hc),tt ⟨fun hc13 => ?_,fun hc13 => ?_⟩⟩
 · refine tt ⟨?_,⟨?_,?_,oK⟩,?_,oK⟩
   all_goals (all_goals (first | (rw [mX (by simpa using hc13)]) | (rw [eD (by simpa using hc13)])))
 · refine tt ⟨?_,?_⟩
   · intro tm0
     refine fp.vc (V := TT 6 (CO (zR s.procs)∧TT 2 (CO (zS s.chans)∧TT 5 ((jj : D) = jj∧([(dP c),(en s),iB,.frame tm0 (sD c s n),(dP c),(en s),.dead,.dead,.dead,(mf s),.dead,.dead,(.arr 43 1 af [] s.chans),.dead,.dead,(me c)] : List aM) = (wO c s) ++ .frame tm0 (sD c s n) :: (wP c s))))) (.w 1 [(3,(zR s.procs).O),(6,(zS s.chans).O)] <| .e) Tryz.func84 rfl rfl (by kernel_rfl) ?_
     exact tt ⟨(pL s.procs om),tt ⟨(pM s.chans om),tt ⟨rfl,rfl⟩⟩⟩
   obtain ⟨ho1,ho2,ho3⟩ := zX (show eV (·.dst) c n = true by simpa using hc13)
   have hlw : (s.chans.getD n.toNat []).length ≤ 4294967296 := hsm n.toNat
   refine tt ⟨?_,?_⟩
   · intro tm0
     refine fp.vc (V := TT 13 (IX n s.chans.length∧(n.toNat < s.chans.length∧True)∧CC (Oo (s.chans.getD n.toNat []))∧IX n s.chans.length∧(n.toNat < s.chans.length∧(s.chans.map af).set n.toNat ((af (s.chans.getD n.toNat [])).take 0 ++ [(.sl 1 (ah .i64) 0 ([] : List Int))] ++ (af (s.chans.getD n.toNat [])).drop (0 + 1)) = (s.chans.set n.toNat ([] : List Int)).map af)∧True∧([(dP c),(en s),iB,.dead,(dP c),(en s),.dead,.dead,.dead,(mf s),.dead,.dead,(.arr 43 1 af [] (s.chans.set n.toNat ([] : List Int))),.dead,.dead,(me c),.frame tm0 (sF n)] : List aM) = (wQ c s n) ++ .frame tm0 (sF n) :: [])) (.w 0 [(15,(Oo (s.chans.getD n.toNat [])).O),(17,.box 43 1 af [] (s.chans.set n.toNat ([] : List Int)))] <| .e) Tryz.func87 rfl rfl (by kernel_rfl) ?_
     exact tt ⟨ix,⟨⟨om,oK⟩,⟨(Br (s.chans.getD n.toNat [])),⟨ix,⟨⟨om,by simp only [List.map_set]; rfl⟩,⟨oK,rfl⟩⟩⟩⟩⟩⟩
   refine tt ⟨ix,tt ⟨(Gc (s.chans.getD n.toNat []) om),tt ⟨(congrArg _ (?_ : (s.chans.getD n.toNat []) = ((aF c s n).1))),⟨(congrArg _ (?_ : s.procs = (((aF c s n).2.1).procs))),(congrArg _ (?_ : (s.chans.set n.toNat ([] : List Int)) = (((aF c s n).2.1).chans))),oK⟩,?_,oK⟩⟩⟩
   all_goals (all_goals (first | (rw [mX (by simpa using hc13)]) | (rw [eD (by simpa using hc13)])))
abbrev Oy (c : Ci) (s : Ns) (bt : Int) : Ct := ⟨61,[(.agg (nO c)),(.agg (nP s)),(i6 bt)],true,(.tup [(.agg [(dL 2 be aU (((aD c s bt).1).procs)),(dL 1 af [] (((aD c s bt).1).chans))]),(LI ((aD c s bt).2.1)),(i6 ((aD c s bt).2.2))])⟩
abbrev nf (c : Ci) (s : Ns) (bt : Int) : Lp (Ns × Int × List Int) := Kw [2,3,4,6,9] 4 (fun (u : Ns) (bud : Int) (cnt : List Int) => ⟨[(2,(i6 bud)),(3,(.ptr 0 0 0 0)),(4,(.ptr 1 0 0 0)),(6,(.ptr 2 0 0 0)),(9,(.own 3))],[(dP c),(.var 36 [(dL 2 be aU u.procs),(dL 1 af [] u.chans)]),iB,(.arr 3 1 (ah .i64) 0 cnt)]⟩) (fun (u : Ns) (bud : Int) (cnt : List Int) => bN c u∧fY u (1000000000 + (bt - bud).toNat)∧cnt.length = c.procs.length∧bU c (bud).toNat u cnt = aD c s bt∧bud ≤ bt∧(∀ z,0 ≤ cnt.getD z 0∧cnt.getD z 0 ≤ bt - bud)) (fun (u : Ns) (bud : Int) (cnt : List Int) => (bud).toNat)
abbrev ng (c : Ci) (u : Ns) (bud : Int) (cnt : List Int) : Lp (Nat) := fX [2,3,4,6,9,10,18,19] 4 (fun (p : Nat) => ⟨[(2,(i6 bud)),(3,(.ptr 0 0 0 0)),(4,(.ptr 1 0 0 0)),(6,(.ptr 2 0 0 0)),(9,(.own 3)),(10,(i6 (-1))),(18,(i6 (c.procs.length : Int))),(19,(i6 (p : Int)))],[(dP c),(.var 36 [(dL 2 be aU u.procs),(dL 1 af [] u.chans)]),iB,(.arr 3 1 (ah .i64) 0 cnt)]⟩) (fun (p : Nat) => p ≤ c.procs.length∧ik c u (c.procs.length - p) p = a8 c u) (fun (p : Nat) => c.procs.length - p)
theorem Dv (c : Ci) (s : Ns) (bt : Int) (hc : bo c) (hs : bN c s) (hsm : fY s 1000000000) (hb : bt ≤ 1000000) (hb2 : -9223372036854775808 ≤ bt) : CC (Oy c s bt) := by
 have hnl := hc.nl
 have hcl := hc.cl
 refine an.vc (V := TT 8 ((((0 : Int) ≤ (c.procs.length : Int)∧(c.procs.length : Int) ≤ (c.procs.length : Int)∧(c.procs.length : Int) ≤ 137438953472)∧(List.replicate c.procs.length (0 : Int)).length = c.procs.length∧∀ x ∈ (List.replicate c.procs.length (0 : Int)),di [(i6 0)] ((ah .i64) x))∧TT 1 (GO (nf c s bt) (s,bt,List.replicate c.procs.length (0 : Int)) (∀ u bud cnt,(nf c s bt).inv (u,bud,cnt) → TT 5 (GO (ng c u bud cnt) 0 (∀ p,(ng c u bud cnt).inv p → TT 1 (CD ((p : Int) < (c.procs.length : Int)) (TT 5 (CC (io c u (p : Int))∧CB (bp c u (p : Int)) (TT 5 ((decide ((p : Int) < 0)) = false∧TT 3 (CD (bud ≤ 0) (TT 8 ((u.procs.map be = (((aD c s bt).1).procs).map be∧u.chans.map af = (((aD c s bt).1).chans).map af∧True)∧cnt.map (ah .i64) = ((aD c s bt).2.1).map (ah .i64)∧(7 : Int) = ((aD c s bt).2.2)∧True)) (TT 1 (W6 (bud - 1)∧TT 3 (IX (p : Int) cnt.length∧(p < cnt.length∧True)∧W6 ((cnt.getD p 0) + 1)∧IX (p : Int) cnt.length∧(p < cnt.length∧(cnt.map (ah .i64)).set p (((ah .i64) (cnt.getD p 0)).take 0 ++ [(.int .i64 ((cnt.getD p 0) + 1))] ++ ((ah .i64) (cnt.getD p 0)).drop (0 + 1)) = (cnt.set p ((cnt.getD p 0) + 1)).map (ah .i64))∧TT 3 (CC (MX c u (p : Int))∧TT 4 (AG (nf c s bt) (u,bud,cnt) (ak c u (bz (p : Int)),bud - 1,cnt.set p ((cnt.getD p 0) + 1)))))))))) (W6 ((p + 1 : Nat) : Int)∧TT 1 (AG (ng c u bud cnt) p (p + 1))))) (TT 11 ((u.procs.map be = (((aD c s bt).1).procs).map be∧u.chans.map af = (((aD c s bt).1).chans).map af∧True)∧cnt.map (ah .i64) = ((aD c s bt).2.1).map (ah .i64)∧(0 : Int) = ((aD c s bt).2.2)∧True))))))))) (.w 1 [(3,.box 3 1 (ah .i64) 0 (List.replicate c.procs.length (0 : Int)))] <| .l (nf c s bt) (s,bt,List.replicate c.procs.length (0 : Int)) (fun ⟨u,bud,cnt⟩ => .l (ng c u bud cnt) 0 (fun p => .b 20 (.w 6 [(3,(io c u (p : Int)).O)] <| .b 25 (.u 28 (.b 33 (.e) (.w 13 [(1,.val (i6 (bud - 1)))] <| .w 14 [(4,.val (i6 ((cnt.getD p 0) + 1))),(6,.box 3 1 (ah .i64) 0 (cnt.set p ((cnt.getD p 0) + 1)))] <| .w 15 [(3,(MX c u (p : Int)).O)] <| .e))) (.w 8 [(0,.val (i6 ((p + 1 : Nat) : Int)))] <| .e)) (.e)))) Tryz.func61 rfl rfl rfl (by kernel_rfl) ?_
 refine tt ⟨⟨by omega,by simp,fun x hx => by rw [List.eq_of_mem_replicate hx]; exact ⟨rfl,oK⟩⟩,tt ⟨rfl,⟨hs,fun m => Nat.le_trans (hsm m) (by omega),by simp,rfl,by omega,fun z => by rw [ct]; omega⟩,?_⟩⟩
 intro u bud cnt hinv
 obtain ⟨hus,hum,hcl0,hgo,hbb,hcb⟩ := hinv
 refine tt ⟨rfl,⟨by omega,rfl⟩,?_⟩
 intro p hinv
 obtain ⟨hp,hfk⟩ := hinv
 refine tt (cd (fun hc20 => ?_) (fun hc20 => ?_))
 · refine tt ⟨(b9 c u (p : Int) hc hus),⟨fun hc25 => ?_,fun hc25 => ?_⟩⟩
   · have hfp : a8 c u = (p : Int) := by rw [← hfk]; exact rg (by omega) (by rw [← dZ (by omega)]; exact hc25)
     refine tt ⟨(decide_eq_false (by omega)),tt (cd (fun hc33 => ?_) (fun hc33 => ?_))⟩
     · refine tt ⟨⟨(congrArg _ (?_ : u.procs = (((aD c s bt).1).procs))),(congrArg _ (?_ : u.chans = (((aD c s bt).1).chans))),oK⟩,(congrArg _ (?_ : cnt = ((aD c s bt).2.1))),?_,oK⟩
       all_goals (all_goals (rw [← hgo]; first | rw [fv (by omega)] | rw [show bud.toNat = 0 by omega,fT (by omega)]))
     · refine tt ⟨w6,?_⟩
       have hcz := hcb p
       refine tt ⟨ix,⟨⟨om,oK⟩,⟨w6,⟨ix,⟨⟨om,by simp only [List.map_set]; rfl⟩,tt ⟨(Bs c u (p : Int) hc hus (fun m => by have := hum m; omega)),tt ⟨(ak c u (bz (p : Int)),bud - 1,cnt.set p ((cnt.getD p 0) + 1)),rfl,?_,(?_ : ((bud - 1)).toNat < (bud).toNat)⟩⟩⟩⟩⟩⟩⟩
       · exact ⟨aW hc hus _,fun m => Nat.le_trans (a6 hc hum m) (by omega),by rw [List.length_set]; exact hcl0,by rw [← hgo,show bud.toNat = (bud - 1).toNat + 1 by omega,pI (by omega),hfp,fx]; rfl,by omega,Bq hcb (by omega)⟩
       · omega
   · refine ⟨w6,tt ⟨(p + 1),rfl,?_,(?_ : c.procs.length - (p + 1) < c.procs.length - p)⟩⟩
     · exact ⟨by omega,by rw [← hfk]; exact (yq (by omega) (by rw [← dZ (by omega),hc25]; simp)).symm⟩
     · omega
 · have hfn : a8 c u = -1 := by rw [← hfk]; exact rh (by omega)
   refine tt ⟨⟨(congrArg _ (?_ : u.procs = (((aD c s bt).1).procs))),(congrArg _ (?_ : u.chans = (((aD c s bt).1).chans))),oK⟩,(congrArg _ (?_ : cnt = ((aD c s bt).2.1))),?_,oK⟩
   all_goals (all_goals (rw [← hgo]; first | rw [fv (by omega)] | rw [show bud.toNat = 0 by omega,fT (by omega)]))
end Go.Proofs.YtifoecfajmnjjaaGreat
