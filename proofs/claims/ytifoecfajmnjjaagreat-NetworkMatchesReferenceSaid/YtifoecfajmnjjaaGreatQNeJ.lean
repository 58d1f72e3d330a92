/-
  Package network: what it answers.
-/
import Derived.Test.YtifoecfajmnjjaaGreatQNeI
namespace Go.Proofs.YtifoecfajmnjjaaGreat
open Go.RowKit
set_option linter.unusedVariables false
set_option linter.unusedSimpArgs false
abbrev kU (c : Ci) : List D := [(dL 6 eV av c.procs),(dL 5 iT aX c.chans)]
abbrev kV (s : Ns) : List D := [(dL 2 a8 a7 s.procs),(dL 1 af [] s.chans)]
abbrev jH (c : Ci) : aE := (.var 171 [(dL 6 eV av c.procs),(dL 5 iT aX c.chans),(.own 9),(.own 12)])
abbrev fH : aE := (.var 36 [.nils,.nils])
abbrev gr : D := (.ptr 15 0 0 0)
abbrev Bz (ws : List Int) (n : Int) : List (Nat × D) := [(32,(LI ws)),(31,(i6 n)),(30,gr),(2,(i6 n)),(3,(LI ws)),(8,(.ptr 2 0 0 0)),(10,gr)]
abbrev cN (c : Ci) : aE := (.var 31 (kU c))
abbrev da (s : Ns) : aE := (.var 36 (kV s))
abbrev jI (s : Ns) : aE := (.arr 45 2 a8 a7 s.procs)
abbrev BA (s : Ns) (n : Int) (ws : List Int) : aE := (.arr 43 1 af [] (s.chans.set n.toNat ((s.chans.getD n.toNat []) ++ ws)))
set_option maxRecDepth 100000
abbrev HT (l : List Bool) (b : Bool) : Ct := ⟨102,[(LB l),(dB b)],false,(i6 (HG l b))⟩
abbrev wR (l : List Bool) (b : Bool) : Lp (Nat) := fC [0,1,7,8] 0 (fun (i : Nat) => ⟨[(0,(LB l)),(1,(dB b)),(7,(i6 (l.length : Int))),(8,(i6 (i : Int)))],[]⟩) (fun (i : Nat) => i ≤ l.length∧∀ z,z < i → (b == l.getD z false) = false) (fun (i : Nat) => l.length - i)
theorem HU (l : List Bool) (b : Bool) (hl : l.length ≤ 9223372036854775807) : CC (HT l b) := by
 refine ai.vc (V := TT 4 (GO (wR l b) 0 (∀ i,(wR l b).inv i → TT 1 (CD ((i : Int) < (l.length : Int)) (TT 5 (IX (i : Int) l.length∧TT 2 (CB (b == (l.getD i false)) (TT 3 ((i : Int) = (HG l b)∧True)) (W6 ((i + 1 : Nat) : Int)∧TT 1 (AG (wR l b) i (i + 1)))))) (TT 2 ((-1) = (HG l b)∧True)))))) (.l (wR l b) 0 (fun i => .b 9 (.b 16 (.e) (.w 6 [(0,.val (i6 ((i + 1 : Nat) : Int)))] <| .e)) (.e))) Tryz.func102 rfl rfl rfl (by kernel_rfl) ?_
 refine tt ⟨rfl,⟨by omega,fun z hz => by omega⟩,?_⟩
 intro i hinv
 obtain ⟨hi,h3⟩ := hinv
 refine tt (cd (fun hc9 => ?_) (fun hc9 => ?_))
 · refine tt ⟨ix,tt ⟨fun hc16 => ?_,fun hc16 => ?_⟩⟩
   · refine tt ⟨?_,oK⟩
     first | exact (iy (f := fun i => b == l.getD i false) hc16 h3 (by omega)).symm | exact (my (f := fun i => b == l.getD i false) (fun z hz => h3 z (by omega))).symm
   · refine ⟨w6,tt ⟨(i + 1),rfl,?_,(?_ : l.length - (i + 1) < l.length - i)⟩⟩
     · exact ⟨by omega,bZ h3 hc16⟩
     · omega
 · refine tt ⟨?_,oK⟩
   first | exact (iy (f := fun i => b == l.getD i false) hc16 h3 (by omega)).symm | exact (my (f := fun i => b == l.getD i false) (fun z hz => h3 z (by omega))).symm
abbrev KD (l : List Bool) (b : Bool) : Ct := ⟨80,[(LB l),(dB b)],false,(dB (yg l b))⟩
theorem HV (l : List Bool) (b : Bool) (hl : l.length ≤ 9223372036854775807) : CC (KD l b) := by
 refine ai.vc (V := TT 3 (CC (HT l b)∧TT 3 ((decide ((HG l b) ≥ 0)) = (yg l b)∧True))) (.w 1 [(2,(HT l b).O)] <| .e) Tryz.func80 rfl rfl rfl (by kernel_rfl) ?_
 refine tt ⟨(HU l b om),tt ⟨?_,oK⟩⟩
 rfl
abbrev ud (c : Ci) (s : Ns) (p : Int) : Ct := ⟨16,[(.agg (kU c)),(.agg (kV s)),(i6 p)],false,(dB (cf c s p))⟩
theorem f9 (c : Ci) (s : Ns) (p : Int) (hc : bK c) (hs : bX c s) : CC (ud c s p) := by
 have hnl := hc.nl
 have hcl := hc.cl
 refine ai.vc (V := TT 3 (CS (p ≥ 0) (CS (p < (c.procs.length : Int)) (TT 2 ((True∧(decide (p ≥ 0)) = true)∧TT 6 ((True∧(decide (p < (c.procs.length : Int))) = true)∧TT 2 ((True∧p = (p.toNat : Int))∧CC (HP c s p.toNat)∧TT 4 (((ab c s p.toNat).fires) = (cf c s p)∧True))))) (TT 2 ((True∧(decide (p ≥ 0)) = true)∧TT 6 ((True∧(decide (p < (c.procs.length : Int))) = false)∧TT 8 (false = (cf c s p)∧True))))) (TT 2 ((True∧(decide (p ≥ 0)) = false)∧TT 15 (false = (cf c s p)∧True))))) (.s 1 (p ≥ 0) (.s 1 (p < (c.procs.length : Int)) (.w 1 [(2,.val (dB true)),(9,.val (dB true)),(12,.val (i6 (p.toNat : Int))),(13,(HP c s p.toNat).O)] <| .e) (.w 1 [(2,.val (dB true)),(9,.val (dB false))] <| .e)) (.w 1 [(2,.val (dB false))] <| .e)) Tryz.func16 rfl rfl rfl (by kernel_rfl) ?_
 refine tt ⟨fun hs0 => ?_,fun hs0 => ?_⟩
 · refine ⟨fun hs1 => ?_,fun hs1 => ?_⟩
   · refine tt ⟨(vT hs0),tt ⟨(vT hs1),tt ⟨⟨oK,(by omega)⟩,⟨(tq c s p.toNat hc hs (by omega)),tt ⟨?_,oK⟩⟩⟩⟩⟩
     first | exact (jB (by omega)).symm | exact (jC (by omega)).symm | exact (kr (by omega) (by omega)).symm
   · refine tt ⟨(vT hs0),tt ⟨(vF hs1),tt ⟨?_,oK⟩⟩⟩
     first | exact (jB (by omega)).symm | exact (jC (by omega)).symm | exact (kr (by omega) (by omega)).symm
 · refine tt ⟨(vF hs0),tt ⟨?_,oK⟩⟩
   first | exact (jB (by omega)).symm | exact (jC (by omega)).symm | exact (kr (by omega) (by omega)).symm
abbrev Jd (c : Ci) (s : Ns) (k : Int) : Ct := ⟨53,[(.agg (kU c)),(.agg (kV s)),(i6 k)],true,(.tup [(.agg [(dL 2 a8 a7 ((aD c s (cy k)).procs)),(dL 1 af [] ((aD c s (cy k)).chans))]),(dB (yk c s k))])⟩
theorem yo (c : Ci) (s : Ns) (k : Int) (hc : bK c) (hs : bX c s) (hsm : fD s 4294967296) : CC (Jd c s k) := by
 have hnl := hc.nl
 have hcl := hc.cl
 refine ai.vc (V := TT 8 (CC (HR c s k)∧TT 8 (CC (KD (aq (ax c s (cy k)) c.procs.length) true)∧TT 4 ((((aD c s (cy k)).procs).map a8 = ((aD c s (cy k)).procs).map a8∧((aD c s (cy k)).chans).map af = ((aD c s (cy k)).chans).map af∧True)∧(yg (aq (ax c s (cy k)) c.procs.length) true) = (yk c s k)∧True)))) (.f 1 2 <| .w 1 [(3,(HR c s k).O)] <| .w 2 [(2,(KD (aq (ax c s (cy k)) c.procs.length) true).O)] <| .e) Tryz.func53 rfl rfl rfl (by kernel_rfl) ?_
 refine tt ⟨(CL c s k hc hs hsm),tt ⟨(HV (aq (ax c s (cy k)) c.procs.length) true (by rw [aO]; omega)),tt ⟨⟨rfl,rfl,oK⟩,?_,oK⟩⟩⟩
 rfl
abbrev Je (c : Ci) (s : Ns) (cl : ByteArray) : Ct := ⟨47,[(.agg (kU c)),(.agg (kV s)),(dS cl)],true,(.tup [(.agg [(dL 2 a8 a7 ((aD c s (aF c cl)).procs)),(dL 1 af [] ((aD c s (aF c cl)).chans))]),(LB (aq (ax c s (aF c cl)) c.procs.length))])⟩
theorem yp (c : Ci) (s : Ns) (cl : ByteArray) (hc : bK c) (hs : bX c s) (hsm : fD s 4294967296) : CC (Je c s cl) := by
 have hnl := hc.nl
 have hcl := hc.cl
 refine ai.vc (V := TT 8 (CC (HS c s cl)∧TT 6 ((((aD c s (aF c cl)).procs).map a8 = ((aD c s (aF c cl)).procs).map a8∧((aD c s (aF c cl)).chans).map af = ((aD c s (aF c cl)).chans).map af∧True)∧(aq (ax c s (aF c cl)) c.procs.length).map aJ = (aq (ax c s (aF c cl)) c.procs.length).map aJ∧True))) (.f 1 0 <| .f 1 2 <| .w 1 [(3,(HS c s cl).O)] <| .e) Tryz.func47 rfl rfl rfl (by kernel_rfl) ?_
 exact tt ⟨(CR c s cl hc hs hsm),tt ⟨⟨rfl,rfl,oK⟩,rfl,oK⟩⟩
abbrev Gf (c : Ci) (s : Ns) (l : List ByteArray) : Ct := ⟨38,[(.agg (kU c)),(.agg (kV s)),(dL 1 ex .empty l)],true,(.agg [(dL 2 a8 a7 ((co c s l).procs)),(dL 1 af [] ((co c s l).chans))])⟩
abbrev sg (c : Ci) (s : Ns) (l : List ByteArray) : Lp (Nat × Ns) := rM [3,4,6,9,10,11] 3 (fun (i : Nat) (u : Ns) => ⟨[(3,(.ptr 0 0 0 0)),(4,(.ptr 1 0 0 0)),(6,(.ptr 2 0 0 0)),(9,(dL 1 ex .empty l)),(10,(i6 (l.length : Int))),(11,(i6 (i : Int)))],[(cN c),(.var 36 [(dL 2 a8 a7 u.procs),(dL 1 af [] u.chans)]),fH]⟩) (fun (i : Nat) (u : Ns) => i ≤ l.length∧u = co c s (l.take i)∧bX c u∧fD u (1000000000 + i)) (fun (i : Nat) (u : Ns) => l.length - i)
theorem si (c : Ci) (s : Ns) (l : List ByteArray) (hc : bK c) (hs : bX c s) (hsm : fD s 1000000000) (hl : l.length ≤ 1000000) : CC (Gf c s l) := by
 have hnl := hc.nl
 have hcl := hc.cl
 refine ai.vc (V := TT 6 (GO (sg c s l) (0,s) (∀ i u,(sg c s l).inv (i,u) → TT 1 (CD ((i : Int) < (l.length : Int)) (IX (i : Int) l.length∧TT 5 (CC (Je c u (l.getD i .empty))∧TT 4 (W6 ((i + 1 : Nat) : Int)∧TT 1 (AG (sg c s l) (i,u) (i + 1,aD c u (aF c (l.getD i .empty))))))) (TT 3 (u.procs.map a8 = ((co c s l).procs).map a8∧u.chans.map af = ((co c s l).chans).map af∧True)))))) (.l (sg c s l) (0,s) (fun ⟨i,u⟩ => .b 12 (.w 4 [(3,(Je c u (l.getD i .empty)).O)] <| .w 5 [(0,.val (i6 ((i + 1 : Nat) : Int)))] <| .e) (.e))) Tryz.func38 rfl rfl rfl (by kernel_rfl) ?_
 refine tt ⟨rfl,⟨by omega,rfl,hs,hsm⟩,?_⟩
 intro i u hinv
 obtain ⟨hi,hu,hus,hum⟩ := hinv
 refine tt (cd (fun hc12 => ?_) (fun hc12 => ?_))
 · refine ⟨ix,tt ⟨(yp c u (l.getD i .empty) hc hus (fun n => by have := hum n; omega)),tt ⟨w6,tt ⟨(i + 1,aD c u (aF c (l.getD i .empty))),rfl,?_,(?_ : l.length - (i + 1) < l.length - i)⟩⟩⟩⟩
   · exact ⟨by omega,by rw [hu]; exact (yl (by omega)).symm,fO hc hus _,gC hc hum⟩
   · omega
 · refine tt ⟨(congrArg _ (?_ : u.procs = ((co c s l).procs))),(congrArg _ (?_ : u.chans = ((co c s l).chans))),oK⟩
   all_goals (all_goals (rw [hu,List.take_of_length_le (by omega)]))
abbrev KE (c : Ci) (s : Ns) (n : Int) (ws : List Int) : Ct := ⟨56,[(.agg (kU c)),(.agg (kV s)),(i6 n),(LI ws)],true,(.tup [(.agg [(dL 2 a8 a7 (((ak c s n ws).1).procs)),(dL 1 af [] (((ak c s n ws).1).chans))]),(i6 ((ak c s n ws).2))])⟩
abbrev ET (c : Ci) (s : Ns) : List aE := [(cN c),(da s),fH]
abbrev pT (c : Ci) (s : Ns) (n : Int) (ws : List Int) : List (Nat × D) := [(28,(.agg (kV s))),(27,(.agg (kU c))),(2,(i6 n)),(3,(LI ws)),(4,(.ptr 0 0 0 0)),(5,(.ptr 1 0 0 0)),(8,(.ptr 2 0 0 0))]
abbrev tv (c : Ci) (s : Ns) : List aE := [(cN c),(da s),fH]
abbrev tx (c : Ci) (s : Ns) : List aE := [(cN c),(da s),.dead,.dead,.dead,(jI s),.dead,.dead,(.arr 43 1 af [] s.chans),.dead,.dead,(jH c)]
abbrev EU (c : Ci) (s : Ns) : List aE := [(cN c),(da s),fH,.dead,(cN c),(da s),.dead,.dead,.dead,(jI s),.dead,.dead,(.arr 43 1 af [] s.chans),.dead,.dead,(jH c)]
abbrev pU (n : Int) (ws : List Int) : List (Nat × D) := (Bz ws n)
abbrev EV (c : Ci) (s : Ns) (n : Int) (ws : List Int) (tm0 : Array Value) : List aE := [(cN c),(da s),fH,.dead,(cN c),(da s),.dead,.dead,.dead,(jI s),.dead,.dead,(.arr 43 1 af [] s.chans),.dead,.dead,(jH c),(.frame tm0 (Bz ws n)),.dead]
abbrev pV (n : Int) (ws : List Int) : List (Nat × D) := [(8,(.fn (.func 105) [] [(.iptr [(.sl 1 (ah .i64) 0 ws)] 0)])),(7,(i6 n)),(6,gr),(0,gr),(1,(i6 n)),(5,(.iptr [(.sl 1 (ah .i64) 0 ws)] 0))]
abbrev tz (c : Ci) (s : Ns) (n : Int) (ws : List Int) (tm0 : Array Value) : List aE := [(cN c),(da s),fH,.dead,(cN c),(da s),.dead,.dead,.dead,(jI s),.dead,.dead,(BA s n ws),.dead,.dead,(jH c),(.frame tm0 (Bz ws n)),.dead]
abbrev tA (c : Ci) (s : Ns) (n : Int) (ws : List Int) : List aE := [(cN c),(da s),fH,.dead,(cN c),(da s),.dead,.dead,.dead,(jI s),.dead,.dead,(BA s n ws),.dead,.dead,(jH c)]
theorem EW (c : Ci) (s : Ns) (n : Int) (ws : List Int) (hc : bK c) (hs : bX c s) (hsm : fD s 4294967296) (hw : ws.length ≤ 4294967296) : CC (KE c s n ws) := by
 have hnl := hc.nl
 have hcl := hc.cl
 have hl1 := hs.pl
 have hl2 := hs.cl
 refine ai.vc (V := TT 4 (CS ((dF (·.frm) c n) = true) (TT 2 (CC (EL c n)∧TT 1 ((True∧(!(dF (·.frm) c n)) = false)∧TT 4 (IX n c.chans.length∧TT 2 (CC (CF ws ((c.chans.getD n.toNat aX).w))∧TT 2 (CB (!(b6 ws ((c.chans.getD n.toNat aX).w))) (TT 5 (((((ak c s n ws).1).procs) = []∧(((ak c s n ws).1).chans) = []∧True)∧(1 : Int) = ((ak c s n ws).2)∧True)) (TT 2 (lv Tryz.prog 84 [(.agg (kU c)),(.agg (kV s))] (ET c s) (pT c s n ws) (tv c s) (tx c s) gr∧TT 4 (lv Tryz.prog 85 [gr,(i6 n),(LI ws)] (EU c s) (pU n ws) (tA c s n ws) [] (.tup [])∧TT 8 ((s.procs.map a8 = (((ak c s n ws).1).procs).map a8∧(s.chans.set n.toNat ((s.chans.getD n.toNat []) ++ ws)).map af = (((ak c s n ws).1).chans).map af∧True)∧(0 : Int) = ((ak c s n ws).2)∧True)))))))))) (TT 2 (CC (EL c n)∧TT 1 ((True∧(!(dF (·.frm) c n)) = true)∧TT 15 (((((ak c s n ws).1).procs) = []∧(((ak c s n ws).1).chans) = []∧True)∧(1 : Int) = ((ak c s n ws).2)∧True)))))) (.s 1 ((dF (·.frm) c n) = true) (.w 1 [(2,(EL c n).O),(4,.val (dB false)),(12,(CF ws ((c.chans.getD n.toNat aX).w)).O)] <| .b 25 (.e) (.q 3 [2,3,4,5,8] 3 <| .w 3 [(2,.inl gr (pT c s n ws) ((tv c s) ++ .dead :: (tx c s)))] <| .q 4 [2,3,8,10] 16 <| .w 4 [(3,.inl (.tup []) (pU n ws) ((tA c s n ws) ++ .dead :: []))] <| .e)) (.w 1 [(2,(EL c n).O),(4,.val (dB true))] <| .e)) Tryz.func56 rfl rfl rfl (by kernel_rfl) ?_
 refine tt ⟨fun hs0 => ?_,fun hs0 => ?_⟩
 · obtain ⟨ho1,ho2,ho3⟩ := wQ hs0
   have hw : 1 ≤ (c.chans.getD n.toNat aX).w∧(c.chans.getD n.toNat aX).w ≤ 8 := aW.1 (hc.cw n.toNat (by omega))
   refine tt ⟨(yh c n hc),tt ⟨(mF hs0),tt ⟨ix,tt ⟨(hT ws ((c.chans.getD n.toNat aX).w) (by omega) (by omega) (by omega)),tt ⟨fun hc25 => ?_,fun hc25 => ?_⟩⟩⟩⟩⟩
   · refine tt ⟨⟨?_,?_,oK⟩,?_,oK⟩
     all_goals (all_goals (first | (rw [lR hs0]) | (rw [fu (by simpa using hc25)]) | (rw [pR hs0 (by simpa using hc25)])))
   · refine tt ⟨?_,?_⟩
     · intro tm0
       refine d5.vc (V := TT 6 (CO (wJ s.procs)∧TT 2 (CO (wK s.chans)∧TT 5 ((gr : D) = gr∧([(cN c),(da s),fH,.frame tm0 (pT c s n ws),(cN c),(da s),.dead,.dead,.dead,(jI s),.dead,.dead,(.arr 43 1 af [] s.chans),.dead,.dead,(jH c)] : List aE) = (tv c s) ++ .frame tm0 (pT c s n ws) :: (tx c s))))) (.w 1 [(3,(wJ s.procs).O),(6,(wK s.chans).O)] <| .e) Tryz.func84 rfl rfl (by kernel_rfl) ?_
       exact tt ⟨(mz s.procs om),tt ⟨(mA s.chans om),tt ⟨rfl,rfl⟩⟩⟩
     obtain ⟨ho1,ho2,ho3⟩ := wQ hs0
     have hlw : (s.chans.getD n.toNat []).length ≤ 4294967296 := hsm n.toNat
     refine tt ⟨?_,?_⟩
     · intro tm0
       refine d5.vc (V := TT 4 (lv Tryz.prog 87 [gr,(i6 n),(.fn (.func 105) [] [(.iptr [(.sl 1 (ah .i64) 0 ws)] 0)])] (EV c s n ws tm0) (pV n ws) (tz c s n ws tm0) [] (.tup [])∧True∧([(cN c),(da s),fH,.dead,(cN c),(da s),.dead,.dead,.dead,(jI s),.dead,.dead,(BA s n ws),.dead,.dead,(jH c),.frame tm0 (pU n ws)] : List aE) = (tA c s n ws) ++ .frame tm0 (pU n ws) :: [])) (.q 1 [0,1,5] 18 <| .f 1 17 <| .w 1 [(3,.inl (.tup []) (pV n ws) ((tz c s n ws tm0) ++ .dead :: []))] <| .e) Tryz.func85 rfl rfl (by kernel_rfl) ?_
       refine tt ⟨?_,?_⟩
       · intro tm1
         refine d5.vc (V := TT 13 (IX n s.chans.length∧(n.toNat < s.chans.length∧True)∧CC (z7 (s.chans.getD n.toNat []) ws)∧IX n s.chans.length∧(n.toNat < s.chans.length∧(s.chans.map af).set n.toNat ((af (s.chans.getD n.toNat [])).take 0 ++ [(.sl 1 (ah .i64) 0 ((s.chans.getD n.toNat []) ++ ws))] ++ (af (s.chans.getD n.toNat [])).drop (0 + 1)) = (s.chans.set n.toNat ((s.chans.getD n.toNat []) ++ ws)).map af)∧True∧([(cN c),(da s),fH,.dead,(cN c),(da s),.dead,.dead,.dead,(jI s),.dead,.dead,(BA s n ws),.dead,.dead,(jH c),(.frame tm0 (Bz ws n)),.dead,.frame tm1 (pV n ws)] : List aE) = (tz c s n ws tm0) ++ .frame tm1 (pV n ws) :: [])) (.w 0 [(15,(z7 (s.chans.getD n.toNat []) ws).O),(17,.box 43 1 af [] (s.chans.set n.toNat ((s.chans.getD n.toNat []) ++ ws)))] <| .e) Tryz.func87 rfl rfl (by kernel_rfl) ?_
         exact tt ⟨ix,⟨⟨om,oK⟩,⟨(oq (s.chans.getD n.toNat []) ws om),⟨ix,⟨⟨om,by simp only [List.map_set]; rfl⟩,⟨oK,rfl⟩⟩⟩⟩⟩⟩
       exact ⟨oK,rfl⟩
     refine tt ⟨⟨(congrArg _ (?_ : s.procs = (((ak c s n ws).1).procs))),(congrArg _ (?_ : (s.chans.set n.toNat ((s.chans.getD n.toNat []) ++ ws)) = (((ak c s n ws).1).chans))),oK⟩,?_,oK⟩
     all_goals (all_goals (first | (rw [lR hs0]) | (rw [fu (by simpa using hc25)]) | (rw [pR hs0 (by simpa using hc25)])))
 · refine tt ⟨(yh c n hc),tt ⟨(mT hs0),tt ⟨⟨?_,?_,oK⟩,?_,oK⟩⟩⟩
   all_goals (all_goals (first | (rw [lR hs0]) | (rw [fu (by simpa using hc25)]) | (rw [pR hs0 (by simpa using hc25)])))
abbrev KF (c : Ci) (s : Ns) (n : Int) : Ct := ⟨57,[(.agg (kU c)),(.agg (kV s)),(i6 n)],true,(.tup [(LI ((aH c s n).1)),(.agg [(dL 2 a8 a7 (((aH c s n).2.1).procs)),(dL 1 af [] (((aH c s n).2.1).chans))]),(i6 ((aH c s n).2.2))])⟩
abbrev EX (c : Ci) (s : Ns) : List aE := [(cN c),(da s),fH]
abbrev pW (c : Ci) (s : Ns) (n : Int) : List (Nat × D) := [(16,(.agg (kV s))),(15,(.agg (kU c))),(2,(i6 n)),(3,(.ptr 0 0 0 0)),(4,(.ptr 1 0 0 0)),(7,(.ptr 2 0 0 0))]
abbrev tB (c : Ci) (s : Ns) : List aE := [(cN c),(da s),fH]
abbrev tC (c : Ci) (s : Ns) : List aE := [(cN c),(da s),.dead,.dead,.dead,(jI s),.dead,.dead,(.arr 43 1 af [] s.chans),.dead,.dead,(jH c)]
abbrev EY (c : Ci) (s : Ns) : List aE := [(cN c),(da s),fH,.dead,(cN c),(da s),.dead,.dead,.dead,(jI s),.dead,.dead,(.arr 43 1 af [] s.chans),.dead,.dead,(jH c)]
abbrev pX (n : Int) : List (Nat × D) := [(19,(i6 n)),(18,gr),(2,(i6 n)),(4,(.ptr 1 0 0 0)),(7,(.ptr 2 0 0 0)),(9,gr)]
abbrev tD (c : Ci) (s : Ns) (n : Int) : List aE := [(cN c),(da s),fH,.dead,(cN c),(da s),.dead,.dead,.dead,(jI s),.dead,.dead,(.arr 43 1 af [] (s.chans.set n.toNat ([] : List Int))),.dead,.dead,(jH c)]
theorem EZ (c : Ci) (s : Ns) (n : Int) (hc : bK c) (hs : bX c s) (hsm : fD s 4294967296) : CC (KF c s n) := by
 have hnl := hc.nl
 have hcl := hc.cl
 have hl1 := hs.pl
 have hl2 := hs.cl
 refine ai.vc (V := TT 7 (CC (HO c n)∧TT 1 (CB (!(dF (·.dst) c n)) (TT 7 (((aH c s n).1) = []∧((((aH c s n).2.1).procs) = []∧(((aH c s n).2.1).chans) = []∧True)∧(1 : Int) = ((aH c s n).2.2)∧True)) (TT 2 (lv Tryz.prog 84 [(.agg (kU c)),(.agg (kV s))] (EX c s) (pW c s n) (tB c s) (tC c s) gr∧TT 3 (lv Tryz.prog 87 [gr,(i6 n),(.fn (.func 88) [] [])] (EY c s) (pX n) (tD c s n) [] (.tup [])∧TT 3 (IX n s.chans.length∧TT 1 (CO (Kw (s.chans.getD n.toNat []))∧TT 10 ((s.chans.getD n.toNat []).map (ah .i64) = ((aH c s n).1).map (ah .i64)∧(s.procs.map a8 = (((aH c s n).2.1).procs).map a8∧(s.chans.set n.toNat ([] : List Int)).map af = (((aH c s n).2.1).chans).map af∧True)∧(0 : Int) = ((aH c s n).2.2)∧True))))))))) (.w 1 [(2,(HO c n).O)] <| .b 13 (.e) (.q 3 [2,3,4,7] 3 <| .w 3 [(2,.inl gr (pW c s n) ((tB c s) ++ .dead :: (tC c s)))] <| .q 4 [2,4,7,9] 16 <| .w 4 [(2,.inl (.tup []) (pX n) ((tD c s n) ++ .dead :: []))] <| .w 5 [(5,(Kw (s.chans.getD n.toNat [])).O)] <| .e)) Tryz.func57 rfl rfl rfl (by kernel_rfl) ?_
 refine tt ⟨(EM c n hc),tt ⟨fun hc13 => ?_,fun hc13 => ?_⟩⟩
 · refine tt ⟨?_,⟨?_,?_,oK⟩,?_,oK⟩
   all_goals (all_goals (first | (rw [pS (by simpa using hc13)]) | (rw [dG (by simpa using hc13)])))
 · refine tt ⟨?_,?_⟩
   · intro tm0
     refine d5.vc (V := TT 6 (CO (wJ s.procs)∧TT 2 (CO (wK s.chans)∧TT 5 ((gr : D) = gr∧([(cN c),(da s),fH,.frame tm0 (pW c s n),(cN c),(da s),.dead,.dead,.dead,(jI s),.dead,.dead,(.arr 43 1 af [] s.chans),.dead,.dead,(jH c)] : List aE) = (tB c s) ++ .frame tm0 (pW c s n) :: (tC c s))))) (.w 1 [(3,(wJ s.procs).O),(6,(wK s.chans).O)] <| .e) Tryz.func84 rfl rfl (by kernel_rfl) ?_
     exact tt ⟨(mz s.procs om),tt ⟨(mA s.chans om),tt ⟨rfl,rfl⟩⟩⟩
   obtain ⟨ho1,ho2,ho3⟩ := wQ (show dF (·.dst) c n = true by simpa using hc13)
   have hlw : (s.chans.getD n.toNat []).length ≤ 4294967296 := hsm n.toNat
   refine tt ⟨?_,?_⟩
   · intro tm0
     refine d5.vc (V := TT 13 (IX n s.chans.length∧(n.toNat < s.chans.length∧True)∧CC (KA (s.chans.getD n.toNat []))∧IX n s.chans.length∧(n.toNat < s.chans.length∧(s.chans.map af).set n.toNat ((af (s.chans.getD n.toNat [])).take 0 ++ [(.sl 1 (ah .i64) 0 ([] : List Int))] ++ (af (s.chans.getD n.toNat [])).drop (0 + 1)) = (s.chans.set n.toNat ([] : List Int)).map af)∧True∧([(cN c),(da s),fH,.dead,(cN c),(da s),.dead,.dead,.dead,(jI s),.dead,.dead,(.arr 43 1 af [] (s.chans.set n.toNat ([] : List Int))),.dead,.dead,(jH c),.frame tm0 (pX n)] : List aE) = (tD c s n) ++ .frame tm0 (pX n) :: [])) (.w 0 [(15,(KA (s.chans.getD n.toNat [])).O),(17,.box 43 1 af [] (s.chans.set n.toNat ([] : List Int)))] <| .e) Tryz.func87 rfl rfl (by kernel_rfl) ?_
     exact tt ⟨ix,⟨⟨om,oK⟩,⟨(yn (s.chans.getD n.toNat [])),⟨ix,⟨⟨om,by simp only [List.map_set]; rfl⟩,⟨oK,rfl⟩⟩⟩⟩⟩⟩
   refine tt ⟨ix,tt ⟨(CA (s.chans.getD n.toNat []) om),tt ⟨(congrArg _ (?_ : (s.chans.getD n.toNat []) = ((aH c s n).1))),⟨(congrArg _ (?_ : s.procs = (((aH c s n).2.1).procs))),(congrArg _ (?_ : (s.chans.set n.toNat ([] : List Int)) = (((aH c s n).2.1).chans))),oK⟩,?_,oK⟩⟩⟩
   all_goals (all_goals (first | (rw [pS (by simpa using hc13)]) | (rw [dG (by simpa using hc13)])))
abbrev KG (c : Ci) (s : Ns) (bt : Int) : Ct := ⟨61,[(.agg (kU c)),(.agg (kV s)),(i6 bt)],true,(.tup [(.agg [(dL 2 a8 a7 (((aQ c s bt).1).procs)),(dL 1 af [] (((aQ c s bt).1).chans))]),(LI ((aQ c s bt).2.1)),(i6 ((aQ c s bt).2.2))])⟩
abbrev kz (c : Ci) (s : Ns) (bt : Int) : Lp (Ns × Int × List Int) := Hj [2,3,4,6,9] 4 (fun (u : Ns) (bud : Int) (cnt : List Int) => ⟨[(2,(i6 bud)),(3,(.ptr 0 0 0 0)),(4,(.ptr 1 0 0 0)),(6,(.ptr 2 0 0 0)),(9,(.own 3))],[(cN c),(.var 36 [(dL 2 a8 a7 u.procs),(dL 1 af [] u.chans)]),fH,(.arr 3 1 (ah .i64) 0 cnt)]⟩) (fun (u : Ns) (bud : Int) (cnt : List Int) => bX c u∧fD u (1000000000 + (bt - bud).toNat)∧cnt.length = c.procs.length∧cB c (bud).toNat u cnt = aQ c s bt∧bud ≤ bt∧(∀ z,0 ≤ cnt.getD z 0∧cnt.getD z 0 ≤ bt - bud)) (fun (u : Ns) (bud : Int) (cnt : List Int) => (bud).toNat)
abbrev kA (c : Ci) (u : Ns) (bud : Int) (cnt : List Int) : Lp (Nat) := fC [2,3,4,6,9,10,18,19] 4 (fun (p : Nat) => ⟨[(2,(i6 bud)),(3,(.ptr 0 0 0 0)),(4,(.ptr 1 0 0 0)),(6,(.ptr 2 0 0 0)),(9,(.own 3)),(10,(i6 (-1))),(18,(i6 (c.procs.length : Int))),(19,(i6 (p : Int)))],[(cN c),(.var 36 [(dL 2 a8 a7 u.procs),(dL 1 af [] u.chans)]),fH,(.arr 3 1 (ah .i64) 0 cnt)]⟩) (fun (p : Nat) => p ≤ c.procs.length∧ft c u (c.procs.length - p) p = a5 c u) (fun (p : Nat) => c.procs.length - p)
theorem Ae (c : Ci) (s : Ns) (bt : Int) (hc : bK c) (hs : bX c s) (hsm : fD s 1000000000) (hb : bt ≤ 1000000) (hb2 : -9223372036854775808 ≤ bt) : CC (KG c s bt) := by
 have hnl := hc.nl
 have hcl := hc.cl
 refine ai.vc (V := TT 8 ((((0 : Int) ≤ (c.procs.length : Int)∧(c.procs.length : Int) ≤ (c.procs.length : Int)∧(c.procs.length : Int) ≤ 137438953472)∧(List.replicate c.procs.length (0 : Int)).length = c.procs.length∧∀ x ∈ (List.replicate c.procs.length (0 : Int)),cz [(i6 0)] ((ah .i64) x))∧TT 1 (GO (kz c s bt) (s,bt,List.replicate c.procs.length (0 : Int)) (∀ u bud cnt,(kz c s bt).inv (u,bud,cnt) → TT 5 (GO (kA c u bud cnt) 0 (∀ p,(kA c u bud cnt).inv p → TT 1 (CD ((p : Int) < (c.procs.length : Int)) (TT 5 (CC (ud c u (p : Int))∧CB (cf c u (p : Int)) (TT 5 ((decide ((p : Int) < 0)) = false∧TT 3 (CD (bud ≤ 0) (TT 8 ((u.procs.map a8 = (((aQ c s bt).1).procs).map a8∧u.chans.map af = (((aQ c s bt).1).chans).map af∧True)∧cnt.map (ah .i64) = ((aQ c s bt).2.1).map (ah .i64)∧(7 : Int) = ((aQ c s bt).2.2)∧True)) (TT 1 (W6 (bud - 1)∧TT 3 (IX (p : Int) cnt.length∧(p < cnt.length∧True)∧W6 ((cnt.getD p 0) + 1)∧IX (p : Int) cnt.length∧(p < cnt.length∧(cnt.map (ah .i64)).set p (((ah .i64) (cnt.getD p 0)).take 0 ++ [(.int .i64 ((cnt.getD p 0) + 1))] ++ ((ah .i64) (cnt.getD p 0)).drop (0 + 1)) = (cnt.set p ((cnt.getD p 0) + 1)).map (ah .i64))∧TT 3 (CC (Jd c u (p : Int))∧TT 4 (AG (kz c s bt) (u,bud,cnt) (aD c u (cy (p : Int)),bud - 1,cnt.set p ((cnt.getD p 0) + 1)))))))))) (W6 ((p + 1 : Nat) : Int)∧TT 1 (AG (kA c u bud cnt) p (p + 1))))) (TT 11 ((u.procs.map a8 = (((aQ c s bt).1).procs).map a8∧u.chans.map af = (((aQ c s bt).1).chans).map af∧True)∧cnt.map (ah .i64) = ((aQ c s bt).2.1).map (ah .i64)∧(0 : Int) = ((aQ c s bt).2.2)∧True))))))))) (.w 1 [(3,.box 3 1 (ah .i64) 0 (List.replicate c.procs.length (0 : Int)))] <| .l (kz c s bt) (s,bt,List.replicate c.procs.length (0 : Int)) (fun ⟨u,bud,cnt⟩ => .l (kA c u bud cnt) 0 (fun p => .b 20 (.w 6 [(3,(ud c u (p : Int)).O)] <| .b 25 (.u 28 (.b 33 (.e) (.w 13 [(1,.val (i6 (bud - 1)))] <| .w 14 [(4,.val (i6 ((cnt.getD p 0) + 1))),(6,.box 3 1 (ah .i64) 0 (cnt.set p ((cnt.getD p 0) + 1)))] <| .w 15 [(3,(Jd c u (p : Int)).O)] <| .e))) (.w 8 [(0,.val (i6 ((p + 1 : Nat) : Int)))] <| .e)) (.e)))) Tryz.func61 rfl rfl rfl (by kernel_rfl) ?_
 refine tt ⟨⟨by omega,by simp,fun x hx => by rw [List.eq_of_mem_replicate hx]; exact ⟨rfl,oK⟩⟩,tt ⟨rfl,⟨hs,fun m => Nat.le_trans (hsm m) (by omega),by simp,rfl,by omega,fun z => by rw [bM]; omega⟩,?_⟩⟩
 intro u bud cnt hinv
 obtain ⟨hus,hum,hcl0,hgo,hbb,hcb⟩ := hinv
 refine tt ⟨rfl,⟨by omega,rfl⟩,?_⟩
 intro p hinv
 obtain ⟨hp,hfk⟩ := hinv
 refine tt (cd (fun hc20 => ?_) (fun hc20 => ?_))
 · refine tt ⟨(f9 c u (p : Int) hc hus),⟨fun hc25 => ?_,fun hc25 => ?_⟩⟩
   · have hfp : a5 c u = (p : Int) := by rw [← hfk]; exact og (by omega) (by rw [← qX (by omega)]; exact hc25)
     refine tt ⟨(decide_eq_false (by omega)),tt (cd (fun hc33 => ?_) (fun hc33 => ?_))⟩
     · refine tt ⟨⟨(congrArg _ (?_ : u.procs = (((aQ c s bt).1).procs))),(congrArg _ (?_ : u.chans = (((aQ c s bt).1).chans))),oK⟩,(congrArg _ (?_ : cnt = ((aQ c s bt).2.1))),?_,oK⟩
       all_goals (all_goals (rw [← hgo]; first | rw [kn (by omega)] | rw [show bud.toNat = 0 by omega,gS (by omega)]))
     · refine tt ⟨w6,?_⟩
       have hcz := hcb p
       refine tt ⟨ix,⟨⟨om,oK⟩,⟨w6,⟨ix,⟨⟨om,by simp only [List.map_set]; rfl⟩,tt ⟨(yo c u (p : Int) hc hus (fun m => by have := hum m; omega)),tt ⟨(aD c u (cy (p : Int)),bud - 1,cnt.set p ((cnt.getD p 0) + 1)),rfl,?_,(?_ : ((bud - 1)).toNat < (bud).toNat)⟩⟩⟩⟩⟩⟩⟩
       · exact ⟨fO hc hus _,fun m => Nat.le_trans (gC hc hum m) (by omega),by rw [List.length_set]; exact hcl0,by rw [← hgo,show bud.toNat = (bud - 1).toNat + 1 by omega,vi (by omega),hfp,tu]; rfl,by omega,ym hcb (by omega)⟩
       · omega
   · refine ⟨w6,tt ⟨(p + 1),rfl,?_,(?_ : c.procs.length - (p + 1) < c.procs.length - p)⟩⟩
     · exact ⟨by omega,by rw [← hfk]; exact (vg (by omega) (by rw [← qX (by omega),hc25]; simp)).symm⟩
     · omega
 · have hfn : a5 c u = -1 := by rw [← hfk]; exact oh (by omega)
   refine tt ⟨⟨(congrArg _ (?_ : u.procs = (((aQ c s bt).1).procs))),(congrArg _ (?_ : u.chans = (((aQ c s bt).1).chans))),oK⟩,(congrArg _ (?_ : cnt = ((aQ c s bt).2.1))),?_,oK⟩
   all_goals (all_goals (rw [← hgo]; first | rw [kn (by omega)] | rw [show bud.toNat = 0 by omega,gS (by omega)]))
end Go.Proofs.YtifoecfajmnjjaaGreat
