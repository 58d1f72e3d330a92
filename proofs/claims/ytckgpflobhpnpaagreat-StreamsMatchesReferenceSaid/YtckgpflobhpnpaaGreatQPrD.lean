/- Parts of a proof. -/
import Derived.Test.YtckgpflobhpnpaaGreatQPrB
namespace Go.Proofs.YtckgpflobhpnpaaGreat
open Go.RowKit
set_option linter.unusedVariables false
set_option linter.unusedSimpArgs false
abbrev Fa:ap:=(.arr 42 1 aa [] ([]:List (List Int)))
abbrev Fb:ap:=(.arr 3 1 (ab .i64) 0 ([]:List Int))
set_option maxRecDepth 100000
abbrev Qc (l:List Int):t1:=⟨97,[(LI l)],(.own 0),(.arr 3 1 (ab .i64) 0 l)⟩
theorem Df (l:List Int) (h:l≠[]) (hl:l.length≤137438953472):CO (Qc l):=by
 refine ah.vcO (V:=TT 2 (l≠[]∧ai [] (([]:List Int).map (ab .i64))∧TT 1 ((([]:List Int).length+(l.map (ab .i64)).length≤137438953472∧([]:List Int).map (ab .i64)++l.map (ab .i64)=l.map (ab .i64))∧TT 2 (((.own 0):D)=.own 0∧((.arr 3 1 (ab .i64) 0 l):ap)=(.arr 3 1 (ab .i64) 0 l))))) (.w 3 [(0,.box 3 1 (ab .i64) 0 ([]:List Int)),(2,.box 3 1 (ab .i64) 0 l)]<|.e) Tryz.func97 rfl rfl rfl (by kernel_rfl) ?_
 exact tt ⟨(by exact h),⟨oK,tt ⟨⟨by simp only[RJ,RN];omega,by simp⟩,tt ⟨rfl,rfl⟩⟩⟩⟩
abbrev Qd:t1:=⟨97,[.nils],(.own 0),Fb⟩
theorem Dg  : CO Qd:=by
 refine ah.vcO (V:=TT 5 (((.own 0):D)=.own 0∧([]:List Int)=[])) (.e) Tryz.func97 rfl rfl rfl (by kernel_rfl) ?_
 refine tt ⟨rfl,?_⟩
 rfl
abbrev Qe:t1:=⟨97,[(.v .esl)],(.own 0),Fb⟩
theorem Dh  : CO Qe:=by
 refine ah.vcO (V:=TT 3 (ai [] (([]:List Int).map (ab .i64))∧TT 1 ((([]:List Int).length+(([]:List (List V))).length≤137438953472∧([]:List Int).map (ab .i64)++([]:List (List V))=([]:List Int).map (ab .i64))∧TT 2 (((.own 0):D)=.own 0∧(Fb:ap)=Fb)))) (.w 3 [(0,.box 3 1 (ab .i64) 0 ([]:List Int)),(2,.box 3 1 (ab .i64) 0 ([]:List Int))]<|.e) Tryz.func97 rfl rfl rfl (by kernel_rfl) ?_
 exact tt ⟨oK,tt ⟨⟨by simp,by simp⟩,tt ⟨rfl,rfl⟩⟩⟩
abbrev Qf (l:List Int):t1:=⟨97,[(LI l)],(.own 0),(.arr 3 1 (ab .i64) 0 l)⟩
theorem Gy (l:List Int) (hl:l.length≤137438953472):CO (Qf l) :=
  ah.nilcases (fun h=>Df l h hl) (fun h=>by subst h;exact Dg) (fun h=>by subst h;exact Dh)
abbrev Qg (l:List Ps):t1:=⟨84,[(dL 2 bn bh l)],(.own 0),(.arr 56 2 bn bh l)⟩
theorem Di (l:List Ps) (h:l≠[]) (hl:l.length≤137438953472):CO (Qg l):=by
 refine ah.vcO (V:=TT 2 (l≠[]∧ai [] (([]:List Ps).map bn)∧TT 1 ((([]:List Ps).length+(l.map bn).length≤137438953472∧([]:List Ps).map bn++l.map bn=l.map bn)∧TT 2 (((.own 0):D)=.own 0∧((.arr 56 2 bn bh l):ap)=(.arr 56 2 bn bh l))))) (.w 3 [(0,.box 56 2 bn bh ([]:List Ps)),(2,.box 56 2 bn bh l)]<|.e) Tryz.func84 rfl rfl rfl (by kernel_rfl) ?_
 exact tt ⟨(by exact h),⟨oK,tt ⟨⟨by simp only[RJ,RN];omega,by simp⟩,tt ⟨rfl,rfl⟩⟩⟩⟩
abbrev Qh:t1:=⟨84,[.nils],(.own 0),(.arr 56 2 bn bh ([]:List Ps))⟩
theorem Dj  : CO Qh:=by
 refine ah.vcO (V:=TT 5 (((.own 0):D)=.own 0∧([]:List Ps)=[])) (.e) Tryz.func84 rfl rfl rfl (by kernel_rfl) ?_
 refine tt ⟨rfl,?_⟩
 rfl
abbrev Qi:t1:=⟨84,[(.v .esl)],(.own 0),(.arr 56 2 bn bh ([]:List Ps))⟩
theorem Dk  : CO Qi:=by
 refine ah.vcO (V:=TT 3 (ai [] (([]:List Ps).map bn)∧TT 1 ((([]:List Ps).length+(([]:List (List V))).length≤137438953472∧([]:List Ps).map bn++([]:List (List V))=([]:List Ps).map bn)∧TT 2 (((.own 0):D)=.own 0∧((.arr 56 2 bn bh ([]:List Ps)):ap)=(.arr 56 2 bn bh ([]:List Ps)))))) (.w 3 [(0,.box 56 2 bn bh ([]:List Ps)),(2,.box 56 2 bn bh ([]:List Ps))]<|.e) Tryz.func84 rfl rfl rfl (by kernel_rfl) ?_
 exact tt ⟨oK,tt ⟨⟨by simp,by simp⟩,tt ⟨rfl,rfl⟩⟩⟩
abbrev Qj (l:List Ps):t1:=⟨84,[(dL 2 bn bh l)],(.own 0),(.arr 56 2 bn bh l)⟩
theorem Gz (l:List Ps) (hl:l.length≤137438953472):CO (Qj l) :=
  ah.nilcases (fun h=>Di l h hl) (fun h=>by subst h;exact Dj) (fun h=>by subst h;exact Dk)
abbrev Qk (l:List (List Int)):t1:=⟨85,[(dL 1 aa [] l)],(.own 0),(.arr 42 1 aa [] l)⟩
theorem Dl (l:List (List Int)) (h:l≠[]) (hl:l.length≤137438953472):CO (Qk l):=by
 refine ah.vcO (V:=TT 2 (l≠[]∧ai [] (([]:List (List Int)).map aa)∧TT 1 ((([]:List (List Int)).length+(l.map aa).length≤137438953472∧([]:List (List Int)).map aa++l.map aa=l.map aa)∧TT 2 (((.own 0):D)=.own 0∧((.arr 42 1 aa [] l):ap)=(.arr 42 1 aa [] l))))) (.w 3 [(0,.box 42 1 aa [] ([]:List (List Int))),(2,.box 42 1 aa [] l)]<|.e) Tryz.func85 rfl rfl rfl (by kernel_rfl) ?_
 exact tt ⟨(by exact h),⟨oK,tt ⟨⟨by simp only[RJ,RN];omega,by simp⟩,tt ⟨rfl,rfl⟩⟩⟩⟩
abbrev Ql:t1:=⟨85,[.nils],(.own 0),Fa⟩
theorem Dm  : CO Ql:=by
 refine ah.vcO (V:=TT 5 (((.own 0):D)=.own 0∧([]:List (List Int))=[])) (.e) Tryz.func85 rfl rfl rfl (by kernel_rfl) ?_
 refine tt ⟨rfl,?_⟩
 rfl
abbrev Qm:t1:=⟨85,[(.v .esl)],(.own 0),Fa⟩
theorem Dn  : CO Qm:=by
 refine ah.vcO (V:=TT 3 (ai [] (([]:List (List Int)).map aa)∧TT 1 ((([]:List (List Int)).length+(([]:List (List V))).length≤137438953472∧([]:List (List Int)).map aa++([]:List (List V))=([]:List (List Int)).map aa)∧TT 2 (((.own 0):D)=.own 0∧(Fa:ap)=Fa)))) (.w 3 [(0,.box 42 1 aa [] ([]:List (List Int))),(2,.box 42 1 aa [] ([]:List (List Int)))]<|.e) Tryz.func85 rfl rfl rfl (by kernel_rfl) ?_
 exact tt ⟨oK,tt ⟨⟨by simp,by simp⟩,tt ⟨rfl,rfl⟩⟩⟩
abbrev Qn (l:List (List Int)):t1:=⟨85,[(dL 1 aa [] l)],(.own 0),(.arr 42 1 aa [] l)⟩
theorem GA (l:List (List Int)) (hl:l.length≤137438953472):CO (Qn l) :=
  ah.nilcases (fun h=>Dl l h hl) (fun h=>by subst h;exact Dm) (fun h=>by subst h;exact Dn)
set_option maxHeartbeats 1600000 in
theorem Dp (n:Nat) (hn:n≤137438953472) (w:World):Calls Tryz.prog 107 #[.slice none 0 0,.int .i64 (n:Int)] w (fun e w'=>∃v,e=.returned v∧w'.ownsRow 0 3 1 v 0 []∧w.grownBy w' none∧∀b,aI v=some b→w.heap.size≤b):=by
  by_cases h0:n=0
  · subst h0
    go_enter Tryz.func107,Tryz.ntmps107
    go_wp2
    go_ret
    exact⟨_,rfl,Td _ 0 _ _,lh w,fun b hb=>by simp[aI]at hb⟩
  · have hp:0<n:=by omega
    have e1:IntKind.i64.wrap ((n:Int)-(0-0))=(n:Int):=G6 rfl (by omega) (by omega)
    have e0:¬((n:Int)<0):=by omega
    have e2:(n:Int)>0:=by omega
    have hb8:Tryz.t3.bytes=8:=rfl
    have hnx:Builtin.nextslicecap n 0=n:=nextslicecap_zero hp
    go_enter Tryz.func107,Tryz.ntmps107
    go_wp2
    all_goals try (exfalso;simp only[hb8,hnx]at *;omega)
    go_ret
    have hK:n≤grownCap w n 0 3∧grownCap w n 0 3≤maxLen:=⟨grownCap_ge ..,grownCap_le_maxLen _ _ _ _ (by unfold maxLen;omega)⟩
    refine⟨_,rfl,World.ownsRow_made w (Builtin.zeroCells #[Value.int IntKind.i64 0] n++Builtin.zeroCells #[Value.int IntKind.i64 0] (grownCap w n 0 3-n)) (grownCap w n 0 3) (Su _) hK.2 ?_,⟨rfl,rfl,rfl,?_,fun k hk _=>?_⟩,fun b hb=>?_⟩
    · simp[Builtin.zeroCells];omega
    · simp
    · exact Below.heap_alloc w _ k hk
    · simp[aI]at hb;omega
abbrev M4 (n:Nat):t1:=⟨107,[.nils,(i6 (n:Int))],.own 0,.arr 3 1 (ab .i64) 0 []⟩
theorem KT (n:Nat) (hn:n≤137438953472):CO (M4 n):=by
  refine ah.of_empty (fun S μ w us hu=>?_)
  obtain⟨h1,h2⟩:=hu
  have h0:us=#[us[0]'(by simp at h1;omega),us[1]'(by simp at h1;omega)]:=by
    apply Array.ext
    · simpa using h1
    · intro i a b
      simp at h1
      have:i=0∨i=1:=by omega
      rcases this with rfl | rfl<;>rfl
  have k0:=h2 0 _ (us[0]'(by simp at h1;omega)) rfl (R0 _)
  have k1:=h2 1 _ (us[1]'(by simp at h1;omega)) rfl (R0 _)
  rw[h0]
  generalize us[0]'(by simp at h1;omega)=x at k0 ⊢
  generalize us[1]'(by simp at h1;omega)=y at k1 ⊢
  cases k0
  rw[bW k1]
  exact Dp n hn w
abbrev Qo (ls:List (List Int)):Ct:=⟨88,[(dL 1 aa [] ls)],false,(LI ls.flatten)⟩
abbrev oM (ls:List (List Int)):Lp (Nat):=io [0,3,9,10,11] 0 (fun (i:Nat)=>⟨[(0,(dL 1 aa [] ls)),(3,(i6 (((ls.take i).flatten.length:Nat):Int))),(9,(dL 1 aa [] ls)),(10,(i6 (ls.length:Int))),(11,(i6 (i:Int)))],[]⟩) (fun (i:Nat)=>i≤ls.length) (fun (i:Nat)=>ls.length-i)
abbrev oO (ls:List (List Int)):Lp (Nat):=io [6,25,26,27] 1 (fun (j:Nat)=>⟨[(6,(.own 0)),(25,(dL 1 aa [] ls)),(26,(i6 (ls.length:Int))),(27,(i6 (j:Int)))],[(.arr 3 1 (ab .i64) 0 ((ls.take j).flatten))]⟩) (fun (j:Nat)=>j≤ls.length) (fun (j:Nat)=>ls.length-j)
theorem GB (ls:List (List Int)) (h1:ls.length≤1000000) (h2:ls.flatten.length≤137438953472):CC (Qo ls):=by
 refine ah.vc (V:=TT 5 (GO (oM ls) 0 (∀i,(oM ls).inv i→TT 1 (CD ((i:Int)<(ls.length:Int)) (IX (i:Int) ls.length∧TT 5 ((True∧(IntKind.wrap .i64 ((((ls.take i).flatten.length:Nat):Int)+(((ls.getD i []).length:Nat):Int)))=(((ls.take (i+1)).flatten.length:Nat):Int))∧TT 3 ((decide ((((ls.take (i+1)).flatten.length:Nat):Int)<0))=false∧W6 ((i+1:Nat):Int)∧TT 1 (AG (oM ls) i (i+1))))) (TT 1 (CO (M4 ((ls.take i).flatten.length))∧TT 4 (GO (oO ls) 0 (∀j,(oO ls).inv j→TT 1 (CD ((j:Int)<(ls.length:Int)) (IX (j:Int) ls.length∧TT 4 ((((ls.take j).flatten).length+((ls.getD j []).map (ab .i64)).length≤137438953472∧((ls.take j).flatten).map (ab .i64)++(ls.getD j []).map (ab .i64)=((ls.take (j+1)).flatten).map (ab .i64))∧TT 1 (W6 ((j+1:Nat):Int)∧TT 1 (AG (oO ls) j (j+1))))) (TT 3 (((ls.take j).flatten).map (ab .i64)=ls.flatten.map (ab .i64)∧((∀z∈ls.flatten,((ab .i64) z).all V.scal=true))))))))))))) (.l (oM ls) 0 (fun i=>.b 12 (.w 5 [(3,.val (i6 (((ls.take (i+1)).flatten.length:Nat):Int)))]<|.u 20 (.w 8 [(0,.val (i6 ((i+1:Nat):Int)))]<|.e)) (.w 9 [(1,(M4 ((ls.take i).flatten.length)).O)]<|.l (oO ls) 0 (fun j=>.b 28 (.w 13 [(2,.box 3 1 (ab .i64) 0 ((ls.take (j+1)).flatten))]<|.w 14 [(0,.val (i6 ((j+1:Nat):Int)))]<|.e) (.e))))) Tryz.func88 rfl rfl rfl (by kernel_rfl) ?_
 refine tt ⟨rfl,(by omega),?_⟩
 intro i I'
 have hi:=I'
 refine tt (cd (fun VQ=>?_) (fun VQ=>?_))
 · have hi1:i<ls.length:=by omega
   have hf:=yc hi1
   have hg:=zF (ls:=ls) (i:=i+1)
   rw[hf,RV]at hg
   refine⟨ix,tt ⟨⟨oK,(by rw[hf,RV,Int.natCast_add];exact G6 rfl (by omega) (by omega))⟩,tt ⟨(R6 (by omega)),⟨w6,tt ⟨(i+1),rfl,(?_:(i+1)≤ls.length),(?_:ls.length-(i+1)<ls.length-i)⟩⟩⟩⟩⟩
   · omega
   · omega
 · have hg:=zF (ls:=ls) (i:=i)
   refine tt ⟨(KT ((ls.take i).flatten.length) om),tt ⟨rfl,(by omega),?_⟩⟩
   intro j I'
   have hj:=I'
   refine tt (cd (fun VR=>?_) (fun VR=>?_))
   · have hj1:j<ls.length:=by omega
     have hf:=yc hj1
     have hg:=zF (ls:=ls) (i:=j+1)
     rw[hf,RV]at hg
     refine⟨ix,tt ⟨⟨by simp only[RJ];omega,by rw[hf,RO]⟩,tt ⟨w6,tt ⟨(j+1),rfl,(?_:(j+1)≤ls.length),(?_:ls.length-(j+1)<ls.length-j)⟩⟩⟩⟩
     · omega
     · omega
   · refine tt ⟨(congrArg _ (?_:((ls.take j).flatten)=ls.flatten)),(fun _ _=>rfl)⟩
     exact IK (by omega)
abbrev Bu (c:Ci):List D:=[(dL 6 fS ac c.U),(dL 5 ga bK c.J)]
set_option maxRecDepth 100000
abbrev Qp (c:Ci):Ct:=⟨26,[(.agg (Bu c))],true,(.agg [(dL 2 bn bh ((d8 c).U)),(dL 1 aa [] ((d8 c).J))])⟩
abbrev oP (c:Ci):Lp (Nat):=io [2,3,12,13,14] 5 (fun (i:Nat)=>⟨[(2,(.ptr 1 0 0 0)),(3,(.ptr 3 0 0 0)),(12,(dL 6 fS ac c.U)),(13,(i6 (c.U.length:Int))),(14,(i6 (i:Int)))],[(.var 33 (Bu c)),(.var 70 [.nils,.nils]),(.arr 42 1 aa [] (List.replicate c.J.length ([]:List Int))),(.var 70 [(.own 4),(.own 2)]),(.arr 56 2 bn bh (tab (fun i=>aC (bg c i)) i))]⟩) (fun (i:Nat)=>i≤c.U.length) (fun (i:Nat)=>c.U.length-i)
theorem GD (c:Ci) (hc:be c):CC (Qp c):=by
 have UU:=hc.nl
 have hcl:=hc.cl
 refine ah.vc (V:=TT 5 ((((0:Int)≤(c.J.length:Int)∧(c.J.length:Int)≤(c.J.length:Int)∧(c.J.length:Int)≤137438953472)∧(List.replicate c.J.length ([]:List Int)).length=c.J.length∧∀x∈(List.replicate c.J.length ([]:List Int)),cg [.nils] (aa x))∧TT 7 (GO (oP c) 0 (∀i,(oP c).inv i→TT 1 (CD ((i:Int)<(c.U.length:Int)) (IX (i:Int) c.U.length∧TT 6 (CC (OL (c.U.getD i ac))∧ai [[(LI ((aC (c.U.getD i ac)).Ry)),(dL 1 aa [] ((aC (c.U.getD i ac)).Rx))]] ([(⟨(aC (c.U.getD i ac)).Ry,(aC (c.U.getD i ac)).Rx⟩:Ps)].map bn)∧((tab (fun i=>aC (bg c i)) i).length+([(⟨(aC (c.U.getD i ac)).Ry,(aC (c.U.getD i ac)).Rx⟩:Ps)].map bn).length≤137438953472∧(tab (fun i=>aC (bg c i)) i).map bn++[(⟨(aC (c.U.getD i ac)).Ry,(aC (c.U.getD i ac)).Rx⟩:Ps)].map bn=(tab (fun i=>aC (bg c i)) (i+1)).map bn)∧TT 2 (W6 ((i+1:Nat):Int)∧TT 1 (AG (oP c) i (i+1))))) (TT 3 ((tab (fun i=>aC (bg c i)) i).map bn=((d8 c).U).map bn∧(List.replicate c.J.length ([]:List Int)).map aa=((d8 c).J).map aa∧True))))))) (.w 1 [(3,.box 42 1 aa [] (List.replicate c.J.length ([]:List Int)))]<|.g 2 3 0 56 2 bn bh<|.l (oP c) 0 (fun i=>.b 15 (.w 5 [(3,(OL (c.U.getD i ac)).O),(4,.box 56 2 bn bh [(⟨(aC (c.U.getD i ac)).Ry,(aC (c.U.getD i ac)).Rx⟩:Ps)]),(5,.box 56 2 bn bh (tab (fun i=>aC (bg c i)) (i+1)))]<|.w 6 [(0,.val (i6 ((i+1:Nat):Int)))]<|.e) (.e))) Tryz.func26 rfl rfl rfl (by kernel_rfl) ?_
 refine tt ⟨⟨by omega,by simp,fun x hx=>by rw[RS hx];exact⟨rfl,oK⟩⟩,tt ⟨rfl,(by omega),?_⟩⟩
 intro i I'
 have hi:=I'
 refine tt (cd (fun UP=>?_) (fun UP=>?_))
 · refine⟨ix,?_⟩
   have Vt:=hc.pr i (by omega)
   refine tt ⟨(x6 (c.U.getD i ac) Vt),⟨⟨⟨rfl,rfl,oK⟩,oK⟩,⟨(fV (f:=fun i=>aC (bg c i)) (by omega)),tt ⟨w6,tt ⟨(i+1),rfl,(?_:(i+1)≤c.U.length),(?_:c.U.length-(i+1)<c.U.length-i)⟩⟩⟩⟩⟩
   · omega
   · omega
 · refine tt ⟨(congrArg _ (?_:(tab (fun i=>aC (bg c i)) i)=((d8 c).U))),(congrArg _ (?_:(List.replicate c.J.length ([]:List Int))=((d8 c).J))),oK⟩
   · rw[show i=c.U.length by omega];rfl
   · rfl
abbrev Qq (c:Ci) (s:Ns) (p:Nat):Ct:=⟨89,[(.agg (Bu c)),(.agg [(dL 2 bn bh s.U),(dL 1 aa [] s.J)]),(i6 (p:Int))],true,(.agg [(dB ((ae c s p).fires)),(LI (((ae c s p).s).Ry)),(dL 1 aa [] (((ae c s p).s).Rx)),(LB ((ae c s p).pops)),(dL 2 bt aJ ((ae c s p).Rv))])⟩
abbrev nu (c:Ci) (s:Ns) (p:Nat):Lp (Nat):=io [2,3,4,6,7,8,21,22,23] 4 (fun (i:Nat)=>⟨[(2,(i6 (p:Int))),(3,(.ptr 0 0 0 0)),(4,(.ptr 1 0 0 0)),(6,(.ptr 2 0 0 0)),(7,(.own 3)),(8,.nils),(21,(dL 9 ir aF ((c.U.getD p ac).I))),(22,(i6 ((((c.U.getD p ac).I).length:Nat):Int))),(23,(i6 (i:Int)))],[(.var 33 (Bu c)),(.var 70 [(dL 2 bn bh s.U),(dL 1 aa [] s.J)]),(.var 101 [(dB false),.nils,.nils,.nils,.nils]),(.arr 115 2 bt aJ (tab (cb c s p) i))]⟩) (fun (i:Nat)=>i≤(c.U.getD p ac).I.length) (fun (i:Nat)=>(c.U.getD p ac).I.length-i)
abbrev nw (c:Ci) (s:Ns) (p:Nat) (i:Nat):Lp (Nat):=io [2,3,4,6,7,8,50,51,52] 5 (fun (m:Nat)=>⟨[(2,(i6 (p:Int))),(3,(.ptr 0 0 0 0)),(4,(.ptr 1 0 0 0)),(6,(.ptr 2 0 0 0)),(7,(.own 3)),(8,(.own 4)),(50,(dL 16 gd aB ((c.U.getD p ac).Rv))),(51,(i6 ((((c.U.getD p ac).Rv).length:Nat):Int))),(52,(i6 (m:Int)))],[(.var 33 (Bu c)),(.var 70 [(dL 2 bn bh s.U),(dL 1 aa [] s.J)]),(.var 101 [(dB false),.nils,.nils,.nils,.nils]),(.arr 115 2 bt aJ (tab (cb c s p) i)),(.arr 4 1 aL false (tab (ci c s p) m))]⟩) (fun (m:Nat)=>m≤(c.U.getD p ac).Rv.length) (fun (m:Nat)=>(c.U.getD p ac).Rv.length-m)
theorem IL (c:Ci) (s:Ns) (p:Nat) (hc:be c) (hs:it c s) (hp:p<c.U.length):CC (Qq c s p):=by
 have UU:=hc.nl
 have hcl:=hc.cl
 have Vt:fk (c.U.getD p ac):=hc.pr p hp
 have Wp:=hs.pl
 have VJ:=hs.cl
 have Yj:(c.U.getD p ac).I.length≤100:=Vt.tl
 have ZC:(c.U.getD p ac).Rv.length≤100:=Vt.pl
 refine ah.vc (V:=TT 8 (IX (p:Int) c.U.length∧TT 4 (GO (nu c s p) 0 (∀i,(nu c s p).inv i→TT 1 (CD ((i:Int)<((((c.U.getD p ac).I).length:Nat):Int)) (IX (i:Int) (((c.U.getD p ac).I).length)∧TT 8 (IX ((((c.U.getD p ac).I).getD i aF).chan) s.J.length∧TT 5 (CD ((((s.J.getD (((((c.U.getD p ac).I).getD i aF).chan).toNat) []).length:Nat):Int)>0) (TT 1 (IX 0 ((s.J.getD (((((c.U.getD p ac).I).getD i aF).chan).toNat) []).length)∧TT 5 (ai [[(dB true),(i6 ((s.J.getD (((((c.U.getD p ac).I).getD i aF).chan).toNat) []).getD 0 0))]] ([(⟨true,((s.J.getD (((((c.U.getD p ac).I).getD i aF).chan).toNat) []).getD 0 0)⟩:Hd)].map bt)∧((tab (cb c s p) i).length+([(⟨true,((s.J.getD (((((c.U.getD p ac).I).getD i aF).chan).toNat) []).getD 0 0)⟩:Hd)].map bt).length≤137438953472∧(tab (cb c s p) i).map bt++[(⟨true,((s.J.getD (((((c.U.getD p ac).I).getD i aF).chan).toNat) []).getD 0 0)⟩:Hd)].map bt=(tab (cb c s p) (i+1)).map bt)∧TT 1 (W6 ((i+1:Nat):Int)∧TT 1 (AG (nu c s p) i (i+1)))))) (TT 2 (ai [[(dB false),(i6 0)]] ([(⟨false,0⟩:Hd)].map bt)∧((tab (cb c s p) i).length+([(⟨false,0⟩:Hd)].map bt).length≤137438953472∧(tab (cb c s p) i).map bt++[(⟨false,0⟩:Hd)].map bt=(tab (cb c s p) (i+1)).map bt)∧TT 1 (W6 ((i+1:Nat):Int)∧TT 1 (AG (nu c s p) i (i+1)))))))) (TT 3 (IX (p:Int) c.U.length∧TT 4 (GO (nw c s p i) 0 (∀m,(nw c s p i).inv m→TT 1 (CD ((m:Int)<((((c.U.getD p ac).Rv).length:Nat):Int)) (IX (m:Int) (((c.U.getD p ac).Rv).length)∧TT 7 (IX ((((c.U.getD p ac).Rv).getD m aB).chan) c.J.length∧TT 3 (CS (((c.J.getD (((((c.U.getD p ac).Rv).getD m aB).chan).toNat) bK).dst)=(-1)) (TT 4 ((True∧(decide (((c.J.getD (((((c.U.getD p ac).Rv).getD m aB).chan).toNat) bK).dst)=(-1)))=true)∧TT 1 (ai [[(dB true)]] ([true].map aL)∧((tab (ci c s p) m).length+([true].map aL).length≤137438953472∧(tab (ci c s p) m).map aL++[true].map aL=(tab (ci c s p) (m+1)).map aL)∧TT 1 (W6 ((m+1:Nat):Int)∧TT 1 (AG (nw c s p i) m (m+1)))))) (TT 4 ((True∧(decide (((c.J.getD (((((c.U.getD p ac).Rv).getD m aB).chan).toNat) bK).dst)=(-1)))=false)∧TT 4 (IX ((((c.U.getD p ac).Rv).getD m aB).chan) s.J.length∧TT 6 (ai [[(dB (decide ((((s.J.getD (((((c.U.getD p ac).Rv).getD m aB).chan).toNat) []).length:Nat):Int)<((c.J.getD (((((c.U.getD p ac).Rv).getD m aB).chan).toNat) bK).cap))))]] ([decide ((((s.J.getD (((((c.U.getD p ac).Rv).getD m aB).chan).toNat) []).length:Nat):Int)<((c.J.getD (((((c.U.getD p ac).Rv).getD m aB).chan).toNat) bK).cap))].map aL)∧((tab (ci c s p) m).length+([decide ((((s.J.getD (((((c.U.getD p ac).Rv).getD m aB).chan).toNat) []).length:Nat):Int)<((c.J.getD (((((c.U.getD p ac).Rv).getD m aB).chan).toNat) bK).cap))].map aL).length≤137438953472∧(tab (ci c s p) m).map aL++[decide ((((s.J.getD (((((c.U.getD p ac).Rv).getD m aB).chan).toNat) []).length:Nat):Int)<((c.J.getD (((((c.U.getD p ac).Rv).getD m aB).chan).toNat) bK).cap))].map aL=(tab (ci c s p) (m+1)).map aL)∧TT 1 (W6 ((m+1:Nat):Int)∧TT 1 (AG (nw c s p i) m (m+1)))))))))) (TT 3 (IX (p:Int) c.U.length∧TT 4 (IX (p:Int) s.U.length∧TT 3 (CC (KP (c.U.getD p ac) (s.U.getD p bh) (tab (cb c s p) i) (tab (ci c s p) m))∧TT 2 (((ax (c.U.getD p ac) (s.U.getD p bh) (tab (cb c s p) i) (tab (ci c s p) m)).fires)=((ae c s p).fires)∧(((ax (c.U.getD p ac) (s.U.getD p bh) (tab (cb c s p) i) (tab (ci c s p) m)).s).Ry).map (ab .i64)=(((ae c s p).s).Ry).map (ab .i64)∧(((ax (c.U.getD p ac) (s.U.getD p bh) (tab (cb c s p) i) (tab (ci c s p) m)).s).Rx).map aa=(((ae c s p).s).Rx).map aa∧((ax (c.U.getD p ac) (s.U.getD p bh) (tab (cb c s p) i) (tab (ci c s p) m)).pops).map aL=((ae c s p).pops).map aL∧((ax (c.U.getD p ac) (s.U.getD p bh) (tab (cb c s p) i) (tab (ci c s p) m)).Rv).map bt=((ae c s p).Rv).map bt∧True))))))))))))))) (.gs 3 7 115 2 bt aJ<|.l (nu c s p) 0 (fun i=>.b 24 (.b 35 (.w 10 [(2,.box 115 2 bt aJ [(⟨true,((s.J.getD (((((c.U.getD p ac).I).getD i aF).chan).toNat) []).getD 0 0)⟩:Hd)]),(3,.box 115 2 bt aJ (tab (cb c s p) (i+1)))]<|.w 11 [(0,.val (i6 ((i+1:Nat):Int)))]<|.e) (.w 10 [(2,.box 115 2 bt aJ [(⟨false,0⟩:Hd)]),(3,.box 115 2 bt aJ (tab (cb c s p) (i+1)))]<|.w 11 [(0,.val (i6 ((i+1:Nat):Int)))]<|.e)) (.gs 12 8 4 1 aL false<|.l (nw c s p i) 0 (fun m=>.b 53 (.s 16 (((c.J.getD (((((c.U.getD p ac).Rv).getD m aB).chan).toNat) bK).dst)=(-1)) (.w 16 [(4,.val (dB true)),(16,.box 4 1 aL false [true]),(17,.box 4 1 aL false (tab (ci c s p) (m+1)))]<|.w 17 [(0,.val (i6 ((m+1:Nat):Int)))]<|.e) (.w 16 [(4,.val (dB false)),(16,.box 4 1 aL false [decide ((((s.J.getD (((((c.U.getD p ac).Rv).getD m aB).chan).toNat) []).length:Nat):Int)<((c.J.getD (((((c.U.getD p ac).Rv).getD m aB).chan).toNat) bK).cap))]),(17,.box 4 1 aL false (tab (ci c s p) (m+1)))]<|.w 17 [(0,.val (i6 ((m+1:Nat):Int)))]<|.e)) (.f 18 3<|.f 18 4<|.w 18 [(12,(KP (c.U.getD p ac) (s.U.getD p bh) (tab (cb c s p) i) (tab (ci c s p) m)).O)]<|.e))))) Tryz.func89 rfl rfl rfl (by kernel_rfl) ?_
 refine tt ⟨ix,tt ⟨rfl,(by omega),?_⟩⟩
 intro i I'
 have hi:=I'
 refine tt (cd (fun Vz=>?_) (fun Vz=>?_))
 · refine⟨ix,?_⟩
   have WB:0≤((c.U.getD p ac).I.getD i aF).chan∧((c.U.getD p ac).I.getD i aF).chan<c.J.length:=⟨(hc.tk p hp i (show i<(c.U.getD p ac).I.length by omega)).1,(hc.tk p hp i (show i<(c.U.getD p ac).I.length by omega)).2.1⟩
   refine tt ⟨ix,tt (cd (fun UQ=>?_) (fun UQ=>?_))⟩
   · refine tt ⟨ix,tt ⟨⟨⟨rfl,rfl,oK⟩,oK⟩,⟨(a6 (by omega) (by first | exact(RH (show 0<(s.J.getD ((c.U.getD p ac).I.getD i aF).chan.toNat []).length by omega)).symm | exact(RE (show ¬0<(s.J.getD ((c.U.getD p ac).I.getD i aF).chan.toNat []).length by omega)).symm)),tt ⟨w6,tt ⟨(i+1),rfl,(?_:(i+1)≤(c.U.getD p ac).I.length),(?_:(c.U.getD p ac).I.length-(i+1)<(c.U.getD p ac).I.length-i)⟩⟩⟩⟩⟩
     · omega
     · omega
   · refine tt ⟨⟨⟨rfl,rfl,oK⟩,oK⟩,⟨(a6 (by omega) (by first | exact(RH (show 0<(s.J.getD ((c.U.getD p ac).I.getD i aF).chan.toNat []).length by omega)).symm | exact(RE (show ¬0<(s.J.getD ((c.U.getD p ac).I.getD i aF).chan.toNat []).length by omega)).symm)),tt ⟨w6,tt ⟨(i+1),rfl,(?_:(i+1)≤(c.U.getD p ac).I.length),(?_:(c.U.getD p ac).I.length-(i+1)<(c.U.getD p ac).I.length-i)⟩⟩⟩⟩
     · omega
     · omega
 · refine tt ⟨ix,tt ⟨rfl,(by omega),?_⟩⟩
   intro m I'
   have hm:=I'
   refine tt (cd (fun Yu=>?_) (fun Yu=>?_))
   · refine⟨ix,?_⟩
     have hpt:0≤((c.U.getD p ac).Rv.getD m aB).chan∧((c.U.getD p ac).Rv.getD m aB).chan<c.J.length:=⟨(hc.pt p hp m (show m<(c.U.getD p ac).Rv.length by omega)).1,(hc.pt p hp m (show m<(c.U.getD p ac).Rv.length by omega)).2.1⟩
     refine tt ⟨ix,tt ⟨fun T7=>?_,fun T7=>?_⟩⟩
     · refine tt ⟨(vT T7),tt ⟨⟨⟨rfl,oK⟩,oK⟩,⟨(a6 (by omega) (by first | exact(zG T7).symm | exact(ns T7).symm | exact(ns Ur).symm)),tt ⟨w6,tt ⟨(m+1),rfl,(?_:(m+1)≤(c.U.getD p ac).Rv.length),(?_:(c.U.getD p ac).Rv.length-(m+1)<(c.U.getD p ac).Rv.length-m)⟩⟩⟩⟩⟩
       · omega
       · omega
     · refine tt ⟨(vF T7),tt ⟨ix,tt ⟨⟨⟨rfl,oK⟩,oK⟩,⟨(a6 (by omega) (by first | exact(zG T7).symm | exact(ns T7).symm | exact(ns Ur).symm)),tt ⟨w6,tt ⟨(m+1),rfl,(?_:(m+1)≤(c.U.getD p ac).Rv.length),(?_:(c.U.getD p ac).Rv.length-(m+1)<(c.U.getD p ac).Rv.length-m)⟩⟩⟩⟩⟩⟩
       · omega
       · omega
   · have Vp:i=(c.U.getD p ac).I.length:=by omega
     have Yk:m=(c.U.getD p ac).Rv.length:=by omega
     refine tt ⟨ix,tt ⟨ix,tt ⟨(rD (c.U.getD p ac) (s.U.getD p bh) (tab (cb c s p) i) (tab (ci c s p) m) Vt (hs.pv p hp) (by rw[Vp];exact nh hc hs hp) (by rw[am];omega)),tt ⟨?_,(congrArg _ (?_:(((ax (c.U.getD p ac) (s.U.getD p bh) (tab (cb c s p) i) (tab (ci c s p) m)).s).Ry)=(((ae c s p).s).Ry))),(congrArg _ (?_:(((ax (c.U.getD p ac) (s.U.getD p bh) (tab (cb c s p) i) (tab (ci c s p) m)).s).Rx)=(((ae c s p).s).Rx))),(congrArg _ (?_:((ax (c.U.getD p ac) (s.U.getD p bh) (tab (cb c s p) i) (tab (ci c s p) m)).pops)=((ae c s p).pops))),(congrArg _ (?_:((ax (c.U.getD p ac) (s.U.getD p bh) (tab (cb c s p) i) (tab (ci c s p) m)).Rv)=((ae c s p).Rv))),oK⟩⟩⟩⟩
     all_goals (all_goals (rw[Vp,Yk];rfl))
abbrev pP (c:Ci) (s:Ns) (j:Nat):List D:=[(dB ((ae c s j).fires)),(LI (((ae c s j).s).Ry)),(dL 1 aa [] (((ae c s j).s).Rx)),(LB ((ae c s j).pops)),(dL 2 bt aJ ((ae c s j).Rv))]
abbrev b6:D:=(.ptr 15 0 0 0)
abbrev tM (c:Ci) (s:Ns) (j:Nat) (fd:List Bool):List (Nat×D):=[(71,(.agg (pP c s j))),(70,(.ptr 17 j 5 0)),(69,(i6 (j:Int))),(68,(.own 17)),(67,(i6 (j:Int))),(66,b6),(6,(.ptr 2 0 0 0)),(8,b6),(9,(.own 16)),(10,(.own 17)),(12,(i6 (j:Int))),(58,(.own 16)),(59,(i6 (fd.length:Int))),(60,(i6 (j:Int)))]
abbrev wh (c:Ci) (j m:Nat):D:=(i6 ((((c.U.getD j ac).Rv).getD m aB).chan))
abbrev Fe (j m:Nat) (c:Ci) (s:Ns):List (Nat×D):=[(0,b6),(1,(i6 (j:Int))),(6,(i6 (m:Int))),(7,(.ptr 20 0 0 0)),(9,(dL 2 bt aJ ((ae c s j).Rv))),(10,(i6 ((((ae c s j).Rv).length:Nat):Int))),(11,(i6 (m:Int))),(18,b6),(19,b6),(20,b6),(21,b6),(22,b6),(23,(dL 6 fS ac c.U)),(24,(i6 (j:Int))),(25,(.iptr (fS (c.U.getD j ac)) 0)),(26,(.iptr (fS (c.U.getD j ac)) 5)),(27,(dL 16 gd aB ((c.U.getD j ac).Rv))),(28,(i6 (m:Int))),(29,(.iptr (gd (((c.U.getD j ac).Rv).getD m aB)) 0)),(30,(.iptr (gd (((c.U.getD j ac).Rv).getD m aB)) 0)),(31,(wh c j m)),(32,(.ptr 20 0 0 1)),(33,(i6 ((((ae c s j).Rv).getD m aJ).v))),(34,(LI [(((ae c s j)).Rv.getD m aJ).v]))]
abbrev zJ (s:Ns):List D:=[(dL 2 bn bh s.U),(dL 1 aa [] s.J)]
abbrev bS (s:Ns):ap:=(.var 70 (zJ s))
abbrev zK (c:Ci):List D:=[(dL 6 fS ac c.U),(dL 5 ga bK c.J)]
abbrev bU (c:Ci):ap:=(.var 33 (zK c))
abbrev yd (c:Ci) (s:Ns) (i:Nat):List D:=[(dB ((ae c s i).fires)),(LI (((ae c s i).s).Ry)),(dL 1 aa [] (((ae c s i).s).Rx)),(LB ((ae c s i).pops)),(dL 2 bt aJ ((ae c s i).Rv))]
abbrev fl (c:Ci):ap:=(.var 141 [(dL 6 fS ac c.U),(dL 5 ga bK c.J),(.own 9),(.own 12)])
abbrev zL (c:Ci) (cl:ByteArray):D:=(.fn (.func 102) [] [(.iptr [(.sl 6 fS ac c.U),(.sl 5 ga bK c.J)] 0),(.iptr [(.str cl)] 0)])
abbrev Ff (c:Ci) (s:Ns) (i:Nat) (cl:ByteArray):List (Nat×D):=[(55,(.agg (yd c s i))),(54,(.ptr 17 i 5 0)),(53,(i6 (i:Int))),(52,(.own 17)),(51,(i6 (i:Int))),(50,b6),(2,(zL c cl)),(3,(.ptr 0 0 0 0)),(4,(.ptr 1 0 0 0)),(6,(.ptr 2 0 0 0)),(8,b6),(9,(.own 16)),(10,(.own 17)),(11,(i6 (i:Int))),(27,(i6 (c.U.length:Int))),(28,(i6 (i:Int)))]
abbrev Fg (em:List (List Int)) (c:Ci) (j m:Nat) (s:Ns):ap:=(.arr 42 1 aa [] (em.set (((((c.U.getD j ac).Rv).getD m aB).chan).toNat) ((em.getD (((((c.U.getD j ac).Rv).getD m aB).chan).toNat) [])++[(((ae c s j)).Rv.getD m aJ).v])))
abbrev sY (c:Ci) (s:Ns) (j m:Nat):ap:=(.var 115 [(dB ((((ae c s j).Rv).getD m aJ).has)),(i6 ((((ae c s j).Rv).getD m aJ).v))])
abbrev de:ap:=(.var 70 [.nils,.nils])
abbrev gC (ps:List Ps):ap:=(.arr 56 2 bn bh ps)
abbrev iv (fd:List Bool):ap:=(.arr 4 1 aL false fd)
abbrev iw (Ug:List Fi):ap:=(.arr 101 5 KH qz Ug)
abbrev IU (c:Ci) (s:Ns) (ps:List Ps) (Vl:List (List Int)) (fd:List Bool) (Ug:List Fi):List ap:=[(bU c),(bS s),de,.dead,(bU c),(bS s),.dead,.dead,.dead,(gC ps),.dead,.dead,(.arr 42 1 aa [] Vl),.dead,.dead,(fl c),(iv fd),(iw Ug)]
abbrev qp (Ug:List Fi) (i:Nat) (c:Ci) (s:Ns):ap:=(.arr 101 5 KH qz (Ug.set i (ae c s i)))
abbrev sZ (ps:List Ps) (i:Nat) (c:Ci) (s:Ns):ap:=(.arr 56 2 bn bh (ps.set i ((ae c s i).s)))
abbrev qq (fd:List Bool) (i:Nat):ap:=(.arr 4 1 aL false (fd.set i true))
abbrev IV (c:Ci) (s:Ns) (j m:Nat):D:=(.fn (.func 87) [] [(.iptr [(.sl 1 (ab .i64) 0 [(((ae c s j)).Rv.getD m aJ).v])] 0)])
abbrev M6 (c:Ci) (s:Ns) (ps:List Ps) (em:List (List Int)) (fd:List Bool) (Ug:List Fi) (T9:Array Value) (j m:Nat) (UM:Array Value):List ap:=[(bU c),(bS s),de,.dead,(bU c),(bS s),.dead,.dead,.dead,(gC ps),.dead,.dead,(.arr 42 1 aa [] em),.dead,.dead,(fl c),(iv fd),(iw Ug),(.frame T9 (tM c s j fd)),(.var 101 (pP c s j)),(sY c s j m),.dead,.dead,.dead,.dead,.dead,.dead,.dead,.dead,.dead,.dead,.dead,.dead,.dead,.dead,.dead,.dead,.dead,(.frame UM (Fe j m c s)),.dead]
abbrev M7 (c:Ci) (s:Ns) (ps:List Ps) (em:List (List Int)) (j m:Nat) (fd:List Bool) (Ug:List Fi) (T9 UM:Array Value):List ap:=[(bU c),(bS s),de,.dead,(bU c),(bS s),.dead,.dead,.dead,(gC ps),.dead,.dead,(Fg em c j m s),.dead,.dead,(fl c),(iv fd),(iw Ug),(.frame T9 (tM c s j fd)),(.var 101 (pP c s j)),(sY c s j m),.dead,.dead,.dead,.dead,.dead,.dead,.dead,.dead,.dead,.dead,.dead,.dead,.dead,.dead,.dead,.dead,.dead,(.frame UM (Fe j m c s)),.dead]
abbrev M8 (c:Ci) (s:Ns) (ps:List Ps) (em:List (List Int)) (fd:List Bool) (Ug:List Fi) (T9:Array Value) (j m:Nat):List ap:=[(bU c),(bS s),de,.dead,(bU c),(bS s),.dead,.dead,.dead,(gC ps),.dead,.dead,(.arr 42 1 aa [] em),.dead,.dead,(fl c),(iv fd),(iw Ug),(.frame T9 (tM c s j fd)),(.var 101 (pP c s j)),(sY c s j m),.dead,.dead,.dead,.dead,.dead,.dead,.dead,.dead,.dead,.dead,.dead,.dead,.dead,.dead,.dead,.dead,.dead]
abbrev M9 (c:Ci) (s:Ns) (ps:List Ps) (em:List (List Int)) (j m:Nat) (fd:List Bool) (Ug:List Fi) (T9:Array Value):List ap:=[(bU c),(bS s),de,.dead,(bU c),(bS s),.dead,.dead,.dead,(gC ps),.dead,.dead,(Fg em c j m s),.dead,.dead,(fl c),(iv fd),(iw Ug),(.frame T9 (tM c s j fd)),(.var 101 (pP c s j)),(sY c s j m),.dead,.dead,.dead,.dead,.dead,.dead,.dead,.dead,.dead,.dead,.dead,.dead,.dead,.dead,.dead,.dead,.dead]
abbrev Na (c:Ci) (s:Ns) (ps:List Ps) (i:Nat) (ch:List (List Int)) (fd:List Bool) (Ug:List Fi):List ap:=[(bU c),(bS s),de,.dead,(bU c),(bS s),.dead,.dead,.dead,(sZ ps i c s),.dead,.dead,(.arr 42 1 aa [] (bA ch (kR (c.U.getD i ac) (ae c s i) (c.U.getD i ac).I.length))),.dead,.dead,(fl c),(qq fd i),(qp Ug i c s)]
abbrev Nb (c:Ci) (s:Ns) (ps:List Ps) (Vl:List (List Int)) (j:Nat) (fd:List Bool) (Ug:List Fi):List ap:=[(bU c),(bS s),de,.dead,(bU c),(bS s),.dead,.dead,.dead,(gC ps),.dead,.dead,(.arr 42 1 aa [] (bB Vl (kS (c.U.getD j ac) (ae c s j) (c.U.getD j ac).Rv.length))),.dead,.dead,(fl c),(iv fd),(iw Ug)]
abbrev IW (c:Ci) (s:Ns) (ps:List Ps) (i:Nat) (dr:List (List Int)) (fd:List Bool) (Ug:List Fi) (T9:Array Value) (cl:ByteArray):List ap:=[(bU c),(bS s),de,.dead,(bU c),(bS s),.dead,.dead,.dead,(sZ ps i c s),.dead,.dead,(.arr 42 1 aa [] dr),.dead,.dead,(fl c),(qq fd i),(qp Ug i c s),(.frame T9 (Ff c s i cl)),(.var 101 (yd c s i)),.dead,.dead,.dead,.dead,.dead,.dead,.dead,.dead,.dead]
abbrev Nc (c:Ci) (s:Ns) (j m:Nat):List (Nat×D):=[(8,(IV c s j m)),(7,(wh c j m)),(6,b6),(0,b6),(1,(wh c j m)),(5,(.iptr [(.sl 1 (ab .i64) 0 [(((ae c s j)).Rv.getD m aJ).v])] 0))]
set_option maxRecDepth 100000
abbrev Nd (l:List Int):Ct:=⟨119,[(LI l)],true,(LI (l.drop 1))⟩
theorem GF (l:List Int) (h:1≤l.length):CC (Nd l):=by
 refine ah.vc (V:=TT 2 ((0≤(1:Int)∧(1:Int)≤(l.length:Int)∧(l.length:Int)≤(l.length:Int))∧TT 2 ((l.drop 1).map (ab .i64)=(l.drop 1).map (ab .i64)))) (.e) Tryz.func119 rfl rfl rfl (by kernel_rfl) ?_
 exact tt ⟨om,tt rfl⟩
abbrev Qs (l ws:List Int):Ct:=⟨87,[(LI l),(.iptr [(.sl 1 (ab .i64) 0 ws)] 0)],true,(LI (l++ws))⟩
theorem Dq (l ws:List Int) (h:l.length+ws.length≤137438953472):CC (Qs l ws):=by
 refine ah.vc (V:=TT 3 (ai [[(LI l)],[(LI ws)]] ([l,ws].map aa)∧CK (Qo [l,ws])∧TT 2 (([l,ws].flatten).map (ab .i64)=(l++ws).map (ab .i64)))) (.w 1 [(2,.box 42 1 aa [] [l,ws]),(3,(Qo [l,ws]).O')]<|.e) Tryz.func87 rfl rfl rfl (by kernel_rfl) ?_
 refine tt ⟨⟨⟨rfl,oK⟩,⟨rfl,oK⟩,oK⟩,⟨⟨dR _ rfl,(GB [l,ws] (by simp) (by simpa using h))⟩,tt (congrArg _ (?_:([l,ws].flatten)=(l++ws)))⟩⟩
 simp
abbrev Nf (c:Ci) (q:Nat) (cl:ByteArray):Ct:=⟨102,[(i6 (q:Int)),(.iptr [(.sl 6 fS ac c.U),(.sl 5 ga bK c.J)] 0),(.iptr [(.str cl)] 0)],false,(dB (aU c cl q))⟩
theorem IY (c:Ci) (q:Nat) (cl:ByteArray) (hq:q<c.U.length):CC (Nf c q cl):=by
 refine ah.vc (V:=TT 4 (IX (q:Int) c.U.length∧TT 6 ((((c.U.getD q ac).clock).toList==cl.toList)=(aU c cl q)∧True))) (.e) Tryz.func102 rfl rfl rfl (by kernel_rfl) ?_
 refine tt ⟨ix,tt ⟨?_,oK⟩⟩
 rfl
abbrev Ng (c:Ci) (s:Ns) (cl:ByteArray):Ct:=⟨90,[(.agg (zK c)),(.agg (zJ s)),(zL c cl)],true,(.tup [(.agg [(dL 2 bn bh ((bk c s (aU c cl)).U)),(dL 1 aa [] ((bk c s (aU c cl)).J))]),(LB (tab (av c s (aU c cl)) c.U.length))])⟩
abbrev GG (c:Ci) (s:Ns):List ap:=[(bU c),(bS s),de]
abbrev oS (c:Ci) (s:Ns) (cl:ByteArray):List (Nat×D):=[(15,(.agg (zJ s))),(14,(.agg (zK c))),(2,(zL c cl)),(3,(.ptr 0 0 0 0)),(4,(.ptr 1 0 0 0)),(6,(.ptr 2 0 0 0))]
abbrev s4 (c:Ci) (s:Ns):List ap:=[(bU c),(bS s),de]
abbrev s5 (c:Ci) (s:Ns):List ap:=[(bU c),(bS s),.dead,.dead,.dead,(.arr 56 2 bn bh s.U),.dead,.dead,(.arr 42 1 aa [] s.J),.dead,.dead,(fl c)]
abbrev i2 (c:Ci) (s:Ns) (cl:ByteArray):Lp (Nat×List Bool×List Fi×List Ps×List (List Int)):=Rh [2,3,4,6,8,9,10,27,28] 18 (fun (i:Nat) (fd:List Bool) (Ug:List Fi) (ps:List Ps) (ch:List (List Int))=>⟨[(2,(zL c cl)),(3,(.ptr 0 0 0 0)),(4,(.ptr 1 0 0 0)),(6,(.ptr 2 0 0 0)),(8,b6),(9,(.own 16)),(10,(.own 17)),(27,(i6 (c.U.length:Int))),(28,(i6 (i:Int)))],[(bU c),(bS s),de,.dead,(bU c),(bS s),.dead,.dead,.dead,(gC ps),.dead,.dead,(.arr 42 1 aa [] ch),.dead,.dead,(fl c),(iv fd),(iw Ug)]⟩) (fun (i:Nat) (fd:List Bool) (Ug:List Fi) (ps:List Ps) (ch:List (List Int))=>i≤c.U.length∧fd=cM (av c s (aU c cl)) (List.replicate c.U.length false) i∧Ug=cM (LZ c s (aU c cl)) (List.replicate c.U.length qz) i∧ps=cM (bE c s (aU c cl)) s.U i∧ch=bA s.J (hT c s (aU c cl) i)) (fun (i:Nat) (fd:List Bool) (Ug:List Fi) (ps:List Ps) (ch:List (List Int))=>c.U.length-i)
abbrev GH (c:Ci) (s:Ns) (i:Nat) (fd:List Bool) (Ug:List Fi) (ps:List Ps) (ch:List (List Int)):List ap:=[(bU c),(bS s),de,.dead,(bU c),(bS s),.dead,.dead,.dead,(gC ps),.dead,.dead,(.arr 42 1 aa [] ch),.dead,.dead,(fl c),(qq fd i),(qp Ug i c s)]
abbrev ku (c:Ci) (s:Ns) (cl:ByteArray) (i:Nat):List (Nat×D):=(Ff c s i cl)
abbrev s6 (c:Ci) (s:Ns) (i:Nat) (fd:List Bool) (Ug:List Fi) (ps:List Ps) (ch:List (List Int)):List ap:=(Na c s ps i ch fd Ug)
abbrev kv (c:Ci) (s:Ns) (cl:ByteArray) (i:Nat) (fd:List Bool) (Ug:List Fi) (ps:List Ps) (ch:List (List Int)) (T9:Array Value):Lp (Nat×List (List Int)):=pI [0,1,18,19,20] 29 (fun (k:Nat) (dr:List (List Int))=>⟨[(0,b6),(1,(i6 (i:Int))),(18,(LB ((ae c s i).pops))),(19,(i6 ((((ae c s i).pops).length:Nat):Int))),(20,(i6 (k:Int)))],(IW c s ps i dr fd Ug T9 cl)⟩) (fun (k:Nat) (dr:List (List Int))=>k≤(ae c s i).pops.length∧dr=bA ch (kR (c.U.getD i ac) (ae c s i) k)) (fun (k:Nat) (dr:List (List Int))=>(ae c s i).pops.length-k)
abbrev GI (c:Ci) (s:Ns) (cl:ByteArray) (i:Nat) (fd:List Bool) (Ug:List Fi) (ps:List Ps) (T9:Array Value) (dr:List (List Int)):List ap:=(IW c s ps i dr fd Ug T9 cl)
abbrev lH (c:Ci) (s:Ns) (i:Nat) (k:Nat):List (Nat×D):=[(39,(i6 ((((c.U.getD i ac).I).getD k aF).chan))),(38,(.iptr (ir (((c.U.getD i ac).I).getD k aF)) 0)),(37,(.iptr (ir (((c.U.getD i ac).I).getD k aF)) 0)),(36,(i6 (k:Int))),(35,(dL 9 ir aF ((c.U.getD i ac).I))),(34,(.iptr (fS (c.U.getD i ac)) 4)),(33,(.iptr (fS (c.U.getD i ac)) 0)),(32,(i6 (i:Int))),(31,(dL 6 fS ac c.U)),(30,b6),(29,b6),(28,b6),(27,b6),(26,b6),(0,b6),(1,(i6 (i:Int))),(6,(i6 (k:Int))),(18,(LB ((ae c s i).pops))),(19,(i6 ((((ae c s i).pops).length:Nat):Int))),(20,(i6 (k:Int)))]
abbrev qr (c:Ci) (s:Ns) (cl:ByteArray) (i:Nat) (fd:List Bool) (Ug:List Fi) (ps:List Ps) (T9:Array Value) (k:Nat) (dr:List (List Int)):List ap:=[(bU c),(bS s),de,.dead,(bU c),(bS s),.dead,.dead,.dead,(sZ ps i c s),.dead,.dead,(.arr 42 1 aa [] (dr.set (((((c.U.getD i ac).I).getD k aF).chan).toNat) ((dr.getD (((((c.U.getD i ac).I).getD k aF).chan).toNat) []).drop 1))),.dead,.dead,(fl c),(qq fd i),(qp Ug i c s),(.frame T9 (Ff c s i cl)),(.var 101 (yd c s i)),.dead,.dead,.dead,.dead,.dead,.dead,.dead,.dead,.dead]
abbrev jj (c:Ci) (s:Ns) (cl:ByteArray) (fd:List Bool) (Ug:List Fi) (ps:List Ps):Lp (Nat×List (List Int)):=pI [6,8,9,10,58,59,60] 18 (fun (j:Nat) (Vl:List (List Int))=>⟨[(6,(.ptr 2 0 0 0)),(8,b6),(9,(.own 16)),(10,(.own 17)),(58,(.own 16)),(59,(i6 (fd.length:Int))),(60,(i6 (j:Int)))],(IU c s ps Vl fd Ug)⟩) (fun (j:Nat) (Vl:List (List Int))=>j≤c.U.length∧Vl=bB (bA s.J (hT c s (aU c cl) c.U.length)) (jW c s (aU c cl) j)) (fun (j:Nat) (Vl:List (List Int))=>c.U.length-j)
abbrev Dr (c:Ci) (s:Ns) (fd:List Bool) (Ug:List Fi) (ps:List Ps) (Vl:List (List Int)):List ap:=(IU c s ps Vl fd Ug)
abbrev jk (c:Ci) (s:Ns) (fd:List Bool) (j:Nat):List (Nat×D):=(tM c s j fd)
abbrev qs (c:Ci) (s:Ns) (fd:List Bool) (Ug:List Fi) (ps:List Ps) (j:Nat) (Vl:List (List Int)):List ap:=(Nb c s ps Vl j fd Ug)
abbrev jl (c:Ci) (s:Ns) (fd:List Bool) (Ug:List Fi) (ps:List Ps) (j:Nat) (Vl:List (List Int)) (T9:Array Value):Lp (Nat×List (List Int)):=pI [0,1,9,10,11] 20 (fun (m:Nat) (em:List (List Int))=>⟨[(0,b6),(1,(i6 (j:Int))),(9,(dL 2 bt aJ ((ae c s j).Rv))),(10,(i6 ((((ae c s j).Rv).length:Nat):Int))),(11,(i6 (m:Int)))],[(bU c),(bS s),de,.dead,(bU c),(bS s),.dead,.dead,.dead,(gC ps),.dead,.dead,(.arr 42 1 aa [] em),.dead,.dead,(fl c),(iv fd),(iw Ug),(.frame T9 (tM c s j fd)),(.var 101 (pP c s j))]⟩) (fun (m:Nat) (em:List (List Int))=>m≤(ae c s j).Rv.length∧em=bB Vl (kS (c.U.getD j ac) (ae c s j) m)) (fun (m:Nat) (em:List (List Int))=>(ae c s j).Rv.length-m)
abbrev Ds (c:Ci) (s:Ns) (fd:List Bool) (Ug:List Fi) (ps:List Ps) (j:Nat) (T9:Array Value) (m:Nat) (em:List (List Int)):List ap:=(M8 c s ps em fd Ug T9 j m)
abbrev lI (c:Ci) (s:Ns) (j:Nat) (m:Nat):List (Nat×D):=(Fe j m c s)
abbrev Dt (c:Ci) (s:Ns) (fd:List Bool) (Ug:List Fi) (ps:List Ps) (j:Nat) (T9:Array Value) (m:Nat) (em:List (List Int)) (UM:Array Value):List ap:=(M6 c s ps em fd Ug T9 j m UM)
abbrev lJ (c:Ci) (s:Ns) (j:Nat) (m:Nat):List (Nat×D):=(Nc c s j m)
abbrev qt (c:Ci) (s:Ns) (fd:List Bool) (Ug:List Fi) (ps:List Ps) (j:Nat) (T9:Array Value) (m:Nat) (em:List (List Int)) (UM:Array Value):List ap:=(M7 c s ps em j m fd Ug T9 UM)
abbrev qu (c:Ci) (s:Ns) (fd:List Bool) (Ug:List Fi) (ps:List Ps) (j:Nat) (T9:Array Value) (m:Nat) (em:List (List Int)):List ap:=(M9 c s ps em j m fd Ug T9)
theorem GJ (c:Ci) (s:Ns) (cl:ByteArray) (hc:be c) (hs:it c s) (XU:NX s 4294967296):CC (Ng c s cl):=by
 have UU:=hc.nl
 have hcl:=hc.cl
 have Wp:=hs.pl
 have VJ:=hs.cl
 refine ah.vc (V:=TT 6 (vU Tryz.prog 59 [(.agg (zK c)),(.agg (zJ s))] (GG c s) (oS c s cl) (s4 c s) (s5 c s) b6∧TT 4 ((((0:Int)≤(c.U.length:Int)∧(c.U.length:Int)≤(c.U.length:Int)∧(c.U.length:Int)≤137438953472)∧(List.replicate c.U.length false).length=c.U.length∧∀x∈(List.replicate c.U.length false),cg [(dB false)] (aL x))∧TT 4 ((((0:Int)≤(c.U.length:Int)∧(c.U.length:Int)≤(c.U.length:Int)∧(c.U.length:Int)≤137438953472)∧(List.replicate c.U.length qz).length=c.U.length∧∀x∈(List.replicate c.U.length qz),cg [(dB false),.nils,.nils,.nils,.nils] (KH x))∧TT 5 (GO (i2 c s cl) (0,List.replicate c.U.length false,List.replicate c.U.length qz,s.U,s.J) (∀i fd Ug ps ch,(i2 c s cl).inv (i,fd,Ug,ps,ch)→TT 1 (CD ((i:Int)<(c.U.length:Int)) (TT 4 (CC (Nf c i cl)∧TT 1 (CB (!(aU c cl i)) (W6 ((i+1:Nat):Int)∧TT 1 (AG (i2 c s cl) (i,fd,Ug,ps,ch) (i+1,fd,Ug,ps,ch))) (TT 5 (CC (Qq c s i)∧IX (i:Int) Ug.length∧(i<Ug.length∧(Ug.map KH).set i ((KH (Ug.getD i qz)).take 0++[(.bool ((ae c s i).fires)),(.sl 1 (ab .i64) 0 (((ae c s i).s).Ry)),(.sl 1 aa [] (((ae c s i).s).Rx)),(.sl 1 aL false ((ae c s i).pops)),(.sl 2 bt aJ ((ae c s i).Rv))]++(KH (Ug.getD i qz)).drop (0+5))=(Ug.set i (ae c s i)).map KH)∧TT 2 (IX (i:Int) ((Ug.set i (ae c s i)).length)∧TT 1 (((i<(Ug.set i (ae c s i)).length∧True)∧(((Ug.set i (ae c s i)).getD i qz).fires)=(gz c s i))∧CB (gz c s i) (TT 2 (IX (i:Int) fd.length∧(i<fd.length∧(fd.map aL).set i ((aL (fd.getD i false)).take 0++[(.bool true)]++(aL (fd.getD i false)).drop (0+1))=(fd.set i true).map aL)∧TT 4 (IX (i:Int) ((Ug.set i (ae c s i)).length)∧((i<(Ug.set i (ae c s i)).length∧True)∧((((Ug.set i (ae c s i)).getD i qz).fires)=((ae c s i).fires)∧((((Ug.set i (ae c s i)).getD i qz).s).Ry).map (ab .i64)=(((ae c s i).s).Ry).map (ab .i64)∧((((Ug.set i (ae c s i)).getD i qz).s).Rx).map aa=(((ae c s i).s).Rx).map aa∧(((Ug.set i (ae c s i)).getD i qz).pops).map aL=((ae c s i).pops).map aL∧(((Ug.set i (ae c s i)).getD i qz).Rv).map bt=((ae c s i).Rv).map bt∧True))∧vU Tryz.prog 108 [b6,(i6 (i:Int)),(.agg (yd c s i))] (GH c s i fd Ug ps ch) (ku c s cl i) (s6 c s i fd Ug ps ch) [] (.tup [])∧W6 ((i+1:Nat):Int)∧TT 1 (AG (i2 c s cl) (i,fd,Ug,ps,ch) (i+1,fd.set i true,Ug.set i (ae c s i),ps.set i ((ae c s i).s),bA ch (kR (c.U.getD i ac) (ae c s i) (c.U.getD i ac).I.length)))))) (W6 ((i+1:Nat):Int)∧TT 1 (AG (i2 c s cl) (i,fd,Ug,ps,ch) (i+1,fd,Ug.set i (ae c s i),ps,ch)))))))))) (TT 3 (GO (jj c s cl fd Ug ps) (0,ch) (∀j Vl,(jj c s cl fd Ug ps).inv (j,Vl)→TT 1 (CD ((j:Int)<(fd.length:Int)) (TT 1 (IX (j:Int) fd.length∧(j<fd.length∧True)∧TT 3 (CB ((fd.getD j false)) (TT 4 (IX (j:Int) Ug.length∧((j<Ug.length∧True)∧(((Ug.getD j qz).fires)=((ae c s j).fires)∧(((Ug.getD j qz).s).Ry).map (ab .i64)=(((ae c s j).s).Ry).map (ab .i64)∧(((Ug.getD j qz).s).Rx).map aa=(((ae c s j).s).Rx).map aa∧((Ug.getD j qz).pops).map aL=((ae c s j).pops).map aL∧((Ug.getD j qz).Rv).map bt=((ae c s j).Rv).map bt∧True))∧vU Tryz.prog 109 [b6,(i6 (j:Int)),(.agg (pP c s j))] (Dr c s fd Ug ps Vl) (jk c s fd j) (qs c s fd Ug ps j Vl) [] (.tup [])∧W6 ((j+1:Nat):Int)∧TT 1 (AG (jj c s cl fd Ug ps) (j,Vl) (j+1,bB Vl (kS (c.U.getD j ac) (ae c s j) (c.U.getD j ac).Rv.length))))) (W6 ((j+1:Nat):Int)∧TT 1 (AG (jj c s cl fd Ug ps) (j,Vl) (j+1,Vl)))))) (TT 9 ((ps.map bn=((bk c s (aU c cl)).U).map bn∧Vl.map aa=((bk c s (aU c cl)).J).map aa∧True)∧fd.map aL=(tab (av c s (aU c cl)) c.U.length).map aL∧True))))))))))))) (.q 1 [2,3,4,6] 3<|.w 1 [(2,.inl b6 (oS c s cl) ((s4 c s)++.dead::(s5 c s)))]<|.w 2 [(3,.box 4 1 aL false (List.replicate c.U.length false))]<|.w 3 [(3,.box 101 5 KH qz (List.replicate c.U.length qz))]<|.l (i2 c s cl) (0,List.replicate c.U.length false,List.replicate c.U.length qz,s.U,s.J) (fun ⟨i,fd,Ug,ps,ch⟩=>.b 29 (.q 7 [2,3,4,6,8,9,10,11,27,28] 18<|.w 7 [(2,(Nf c i cl).O)]<|.b 34 (.w 12 [(0,.val (i6 ((i+1:Nat):Int)))]<|.e) (.w 8 [(5,(Qq c s i).O),(7,.box 101 5 KH qz (Ug.set i (ae c s i)))]<|.w 9 [(4,.val (dB (gz c s i)))]<|.b 46 (.w 10 [(3,.box 4 1 aL false (fd.set i true))]<|.q 11 [2,3,4,6,8,9,10,11,27,28] 18<|.w 11 [(5,.val (.agg (yd c s i))),(6,.inl (.tup []) (ku c s cl i) ((s6 c s i fd Ug ps ch)++.dead::[]))]<|.w 12 [(0,.val (i6 ((i+1:Nat):Int)))]<|.e) (.w 12 [(0,.val (i6 ((i+1:Nat):Int)))]<|.e))) (.l (jj c s cl fd Ug ps) (0,ch) (fun ⟨j,Vl⟩=>.b 61 (.b 65 (.q 17 [6,8,9,10,12,58,59,60] 18<|.w 17 [(5,.val (.agg (pP c s j))),(6,.inl (.tup []) (jk c s fd j) ((qs c s fd Ug ps j Vl)++.dead::[]))]<|.w 18 [(0,.val (i6 ((j+1:Nat):Int)))]<|.e) (.w 18 [(0,.val (i6 ((j+1:Nat):Int)))]<|.e)) (.e))))) Tryz.func90 rfl rfl rfl (by kernel_rfl) ?_
 refine tt ⟨?_,?_⟩
 · intro T9
   refine fO.vc (V:=TT 6 (CO (Qj s.U)∧TT 2 (CO (Qn s.J)∧TT 5 ((b6:D)=b6∧([(bU c),(bS s),de,.frame T9 (oS c s cl),(bU c),(bS s),.dead,.dead,.dead,(.arr 56 2 bn bh s.U),.dead,.dead,(.arr 42 1 aa [] s.J),.dead,.dead,(fl c)]:List ap)=(s4 c s)++.frame T9 (oS c s cl)::(s5 c s))))) (.w 1 [(3,(Qj s.U).O),(6,(Qn s.J).O)]<|.e) Tryz.func59 rfl rfl (by kernel_rfl) ?_
   exact tt ⟨(Gz s.U om),tt ⟨(GA s.J om),tt ⟨rfl,rfl⟩⟩⟩
 refine tt ⟨⟨by omega,by simp,fun x hx=>by rw[RS hx];exact⟨rfl,oK⟩⟩,tt ⟨⟨by omega,by simp,fun x hx=>by rw[RS hx];exact⟨rfl,rfl,rfl,rfl,rfl,oK⟩⟩,tt ⟨rfl,⟨by omega,rfl,rfl,rfl,rfl⟩,?_⟩⟩⟩
 intro i fd Ug ps ch I'
 obtain⟨hi,Yv,Uz,Yh,hch⟩:=I'
 have hfl0:fd.length=c.U.length:=by rw[Yv,dm (by simp;omega)];simp
 have hsl0:Ug.length=c.U.length:=by rw[Uz,dm (by simp;omega)];simp
 have hpl0:ps.length=c.U.length:=by rw[Yh,dm (by omega)];omega
 have hchl:ch.length=c.J.length:=by rw[hch,eH];exact VJ
 refine tt (cd (fun hc29=>?_) (fun hc29=>?_))
 · refine tt ⟨(IY c i cl om),tt ⟨fun WS=>?_,fun WS=>?_⟩⟩
   · refine⟨w6,tt ⟨(i+1,fd,Ug,ps,ch),rfl,(?_:(i+1)≤c.U.length∧fd=cM (av c s (aU c cl)) (List.replicate c.U.length false) (i+1)∧Ug=cM (LZ c s (aU c cl)) (List.replicate c.U.length qz) (i+1)∧ps=cM (bE c s (aU c cl)) s.U (i+1)∧ch=bA s.J (hT c s (aU c cl) (i+1))),(?_:c.U.length-(i+1)<c.U.length-i)⟩⟩
     · have U':=L0 (c:=c) (s:=s) WS
       exact⟨by omega,by rw[Yv];exact bP (d:=false) (by simp;omega) (by rw[U',ca]),by rw[Uz];exact bP (d:=qz) (by simp;omega) (by rw[← OO WS,ca]),by rw[Yh];exact bP (d:=bh) (by omega) (Fc U').symm,by rw[hch];rw[uM U']⟩
     · omega
   · refine tt ⟨(IL c s i hc hs (by omega)),⟨ix,⟨⟨om,by simp only[Ss];rfl⟩,tt ⟨ix,tt ⟨⟨⟨om,oK⟩,(by rw[cU (by omega),RH rfl];rfl)⟩,⟨fun Vq=>?_,fun Vq=>?_⟩⟩⟩⟩⟩⟩
     · have Ua:gz c s i=true:=Vq
       refine tt ⟨ix,⟨⟨om,by simp only[Ss];rfl⟩,tt ⟨ix,⟨⟨⟨om,oK⟩,(by rw[cU (by omega),RH rfl];exact⟨rfl,rfl,rfl,rfl,rfl,oK⟩)⟩,⟨?_,?_⟩⟩⟩⟩⟩
       · intro T9
         refine fO.vc (V:=TT 9 (IX (i:Int) ps.length∧(i<ps.length∧(ps.map bn).set i ((bn (ps.getD i bh)).take 0++[(.sl 1 (ab .i64) 0 (((ae c s i).s).Ry)),(.sl 1 aa [] (((ae c s i).s).Rx))]++(bn (ps.getD i bh)).drop (0+2))=(ps.set i ((ae c s i).s)).map bn)∧TT 4 (GO (kv c s cl i fd Ug ps ch T9) (0,ch) (∀k dr,(kv c s cl i fd Ug ps ch T9).inv (k,dr)→TT 1 (CD ((k:Int)<((((ae c s i).pops).length:Nat):Int)) (TT 1 (IX (k:Int) (((ae c s i).pops).length)∧TT 4 (CB ((((ae c s i).pops).getD k false)) (TT 7 (IX (i:Int) c.U.length∧TT 3 (IX (k:Int) (((c.U.getD i ac).I).length)∧TT 2 (vU Tryz.prog 86 [b6,(i6 ((((c.U.getD i ac).I).getD k aF).chan)),(.fn (.func 119) [] [])] (GI c s cl i fd Ug ps T9 dr) (lH c s i k) (qr c s cl i fd Ug ps T9 k dr) [] (.tup [])∧W6 ((k+1:Nat):Int)∧TT 1 (AG (kv c s cl i fd Ug ps ch T9) (k,dr) (k+1,dr.set (((((c.U.getD i ac).I).getD k aF).chan).toNat) ((dr.getD (((((c.U.getD i ac).I).getD k aF).chan).toNat) []).drop 1))))))) (W6 ((k+1:Nat):Int)∧TT 1 (AG (kv c s cl i fd Ug ps ch T9) (k,dr) (k+1,dr)))))) (True∧([(bU c),(bS s),de,.dead,(bU c),(bS s),.dead,.dead,.dead,(sZ ps i c s),.dead,.dead,(.arr 42 1 aa [] dr),.dead,.dead,(fl c),(qq fd i),(qp Ug i c s),.frame T9 (ku c s cl i)]:List ap)=(s6 c s i fd Ug ps ch)++.frame T9 (ku c s cl i)::[])))))) (.w 1 [(9,.box 56 2 bn bh (ps.set i ((ae c s i).s)))]<|.l (kv c s cl i fd Ug ps ch T9) (0,ch) (fun ⟨k,dr⟩=>.b 21 (.b 25 (.q 6 [0,1,6,18,19,20] 29<|.w 6 [(14,.inl (.tup []) (lH c s i k) ((qr c s cl i fd Ug ps T9 k dr)++.dead::[]))]<|.w 7 [(0,.val (i6 ((k+1:Nat):Int)))]<|.e) (.w 7 [(0,.val (i6 ((k+1:Nat):Int)))]<|.e)) (.e))) Tryz.func108 rfl rfl (by kernel_rfl) ?_
         have Xf:(ae c s i).pops.length=(c.U.getD i ac).I.length:=gN _ _ _ _
         have Yj:(c.U.getD i ac).I.length≤100:=(hc.pr i (by omega)).tl
         refine tt ⟨ix,⟨⟨om,by simp only[Ss];rfl⟩,tt ⟨rfl,⟨by omega,rfl⟩,?_⟩⟩⟩
         intro k dr I'
         obtain⟨hk,hdr⟩:=I'
         have hdl:dr.length=c.J.length:=by rw[hdr,eH,hchl]
         refine tt (cd (fun W8=>?_) (fun W8=>?_))
         · refine tt ⟨ix,tt ⟨fun Uv=>?_,fun Uv=>?_⟩⟩
           · have W9:k<(c.U.getD i ac).I.length:=by omega
             have WB:0≤((c.U.getD i ac).I.getD k aF).chan∧((c.U.getD i ac).I.getD k aF).chan<c.J.length:=⟨(hc.tk i (by omega) k W9).1,(hc.tk i (by omega) k W9).2.1⟩
             have X5:1≤(dr.getD ((c.U.getD i ac).I.getD k aF).chan.toNat []).length:=by
               rw[hdr,hch,tK]
               exact IT hc VJ (by omega) Ua W9 Uv
             refine tt ⟨ix,tt ⟨ix,tt ⟨?_,?_⟩⟩⟩
             · intro UM
               refine fO.vc (V:=TT 13 (IX ((((c.U.getD i ac).I).getD k aF).chan) dr.length∧(((((c.U.getD i ac).I).getD k aF).chan).toNat<dr.length∧True)∧CC (Nd (dr.getD (((((c.U.getD i ac).I).getD k aF).chan).toNat) []))∧IX ((((c.U.getD i ac).I).getD k aF).chan) dr.length∧(((((c.U.getD i ac).I).getD k aF).chan).toNat<dr.length∧(dr.map aa).set (((((c.U.getD i ac).I).getD k aF).chan).toNat) ((aa (dr.getD (((((c.U.getD i ac).I).getD k aF).chan).toNat) [])).take 0++[(.sl 1 (ab .i64) 0 ((dr.getD (((((c.U.getD i ac).I).getD k aF).chan).toNat) []).drop 1))]++(aa (dr.getD (((((c.U.getD i ac).I).getD k aF).chan).toNat) [])).drop (0+1))=(dr.set (((((c.U.getD i ac).I).getD k aF).chan).toNat) ((dr.getD (((((c.U.getD i ac).I).getD k aF).chan).toNat) []).drop 1)).map aa)∧True∧([(bU c),(bS s),de,.dead,(bU c),(bS s),.dead,.dead,.dead,(sZ ps i c s),.dead,.dead,(.arr 42 1 aa [] (dr.set (((((c.U.getD i ac).I).getD k aF).chan).toNat) ((dr.getD (((((c.U.getD i ac).I).getD k aF).chan).toNat) []).drop 1))),.dead,.dead,(fl c),(qq fd i),(qp Ug i c s),(.frame T9 (Ff c s i cl)),(.var 101 (yd c s i)),.dead,.dead,.dead,.dead,.dead,.dead,.dead,.dead,.dead,.frame UM (lH c s i k)]:List ap)=(qr c s cl i fd Ug ps T9 k dr)++.frame UM (lH c s i k)::[])) (.w 0 [(15,(Nd (dr.getD (((((c.U.getD i ac).I).getD k aF).chan).toNat) [])).O),(17,.box 42 1 aa [] (dr.set (((((c.U.getD i ac).I).getD k aF).chan).toNat) ((dr.getD (((((c.U.getD i ac).I).getD k aF).chan).toNat) []).drop 1)))]<|.e) Tryz.func86 rfl rfl (by kernel_rfl) ?_
               exact tt ⟨ix,⟨⟨om,oK⟩,⟨(GF (dr.getD (((((c.U.getD i ac).I).getD k aF).chan).toNat) []) om),⟨ix,⟨⟨om,by simp only[Ss];rfl⟩,⟨oK,rfl⟩⟩⟩⟩⟩⟩
             refine⟨w6,tt ⟨(k+1,dr.set (((((c.U.getD i ac).I).getD k aF).chan).toNat) ((dr.getD (((((c.U.getD i ac).I).getD k aF).chan).toNat) []).drop 1)),rfl,?_,(?_:(ae c s i).pops.length-(k+1)<(ae c s i).pops.length-k)⟩⟩
             · exact⟨by omega,by rw[uN Uv,hdr];exact(zy _ _ _).symm⟩
             · omega
           · refine⟨w6,tt ⟨(k+1,dr),rfl,?_,(?_:(ae c s i).pops.length-(k+1)<(ae c s i).pops.length-k)⟩⟩
             · exact⟨by omega,by rw[zI Uv,hdr]⟩
             · omega
         · refine⟨oK,congrArg (fun (z0:List (List Int))=>([(bU c),(bS s),de,.dead,(bU c),(bS s),.dead,.dead,.dead,(sZ ps i c s),.dead,.dead,(.arr 42 1 aa [] z0),.dead,.dead,(fl c),(qq fd i),(qp Ug i c s),.frame T9 (ku c s cl i)]:List ap)) (?_:dr=(bA ch (kR (c.U.getD i ac) (ae c s i) (c.U.getD i ac).I.length)))⟩
           rw[hdr,show k=(c.U.getD i ac).I.length by omega]
       refine⟨w6,tt ⟨(i+1,fd.set i true,Ug.set i (ae c s i),ps.set i ((ae c s i).s),bA ch (kR (c.U.getD i ac) (ae c s i) (c.U.getD i ac).I.length)),rfl,(?_:(i+1)≤c.U.length∧(fd.set i true)=cM (av c s (aU c cl)) (List.replicate c.U.length false) (i+1)∧(Ug.set i (ae c s i))=cM (LZ c s (aU c cl)) (List.replicate c.U.length qz) (i+1)∧(ps.set i ((ae c s i).s))=cM (bE c s (aU c cl)) s.U (i+1)∧(bA ch (kR (c.U.getD i ac) (ae c s i) (c.U.getD i ac).I.length))=bA s.J (hT c s (aU c cl) (i+1))),(?_:c.U.length-(i+1)<c.U.length-i)⟩⟩
       · have U':=IP WS Ua
         exact⟨by omega,by rw[Yv];exact bR (by simp;omega) U',by rw[Uz];exact bR (by simp;omega) (IR WS).symm,by rw[Yh];exact bR (by omega) (IQ U').symm,by rw[hch];rw[Bv U',tK]⟩
       · omega
     · refine⟨w6,tt ⟨(i+1,fd,Ug.set i (ae c s i),ps,ch),rfl,(?_:(i+1)≤c.U.length∧fd=cM (av c s (aU c cl)) (List.replicate c.U.length false) (i+1)∧(Ug.set i (ae c s i))=cM (LZ c s (aU c cl)) (List.replicate c.U.length qz) (i+1)∧ps=cM (bE c s (aU c cl)) s.U (i+1)∧ch=bA s.J (hT c s (aU c cl) (i+1))),(?_:c.U.length-(i+1)<c.U.length-i)⟩⟩
       · have U':=IM (w:=(aU c cl)) Vq
         exact⟨by omega,by rw[Yv];exact bP (d:=false) (by simp;omega) (by rw[U',ca]),by rw[Uz];exact bR (by simp;omega) (IR WS).symm,by rw[Yh];exact bP (d:=bh) (by omega) (Fc U').symm,by rw[hch];rw[uM U']⟩
       · omega
 · have Vp:i=c.U.length:=by omega
   refine tt ⟨rfl,⟨by omega,by rw[hch,Vp];rfl⟩,?_⟩
   intro j Vl I'
   obtain⟨hj,Zb⟩:=I'
   have hchl2:Vl.length=c.J.length:=by rw[Zb,cR,eH];exact VJ
   refine tt (cd (fun Wb=>?_) (fun Wb=>?_))
   · refine tt ⟨ix,⟨⟨om,oK⟩,tt ⟨fun V5=>?_,fun V5=>?_⟩⟩⟩
     · have Yl:av c s (aU c cl) j=true:=by rw[← V5,Yv,nc,RH (by omega)]
       have hsj:Ug.getD j qz=ae c s j:=by rw[Uz,nc,RH (by omega)];exact RH (Qr Yl).1
       refine tt ⟨ix,⟨⟨⟨om,oK⟩,(by rw[hsj];exact⟨rfl,rfl,rfl,rfl,rfl,oK⟩)⟩,⟨?_,?_⟩⟩⟩
       · intro T9
         refine fO.vc (V:=TT 5 (GO (jl c s fd Ug ps j Vl T9) (0,Vl) (∀m em,(jl c s fd Ug ps j Vl T9).inv (m,em)→TT 1 (CD ((m:Int)<((((ae c s j).Rv).length:Nat):Int)) (TT 1 (IX (m:Int) (((ae c s j).Rv).length)∧TT 6 (CB ((((ae c s j).Rv).getD m aJ).has) (TT 7 (IX (j:Int) c.U.length∧TT 3 (IX (m:Int) (((c.U.getD j ac).Rv).length)∧TT 4 (ai [[(i6 ((((ae c s j).Rv).getD m aJ).v))]] ([(((ae c s j)).Rv.getD m aJ).v].map (ab .i64))∧vU Tryz.prog 60 [b6,(wh c j m),(LI [(((ae c s j)).Rv.getD m aJ).v])] (Ds c s fd Ug ps j T9 m em) (lI c s j m) (qu c s fd Ug ps j T9 m em) [] (.tup [])∧W6 ((m+1:Nat):Int)∧TT 1 (AG (jl c s fd Ug ps j Vl T9) (m,em) (m+1,em.set (((((c.U.getD j ac).Rv).getD m aB).chan).toNat) ((em.getD (((((c.U.getD j ac).Rv).getD m aB).chan).toNat) [])++[(((ae c s j)).Rv.getD m aJ).v]))))))) (W6 ((m+1:Nat):Int)∧TT 1 (AG (jl c s fd Ug ps j Vl T9) (m,em) (m+1,em)))))) (True∧([(bU c),(bS s),de,.dead,(bU c),(bS s),.dead,.dead,.dead,(gC ps),.dead,.dead,(.arr 42 1 aa [] em),.dead,.dead,(fl c),(iv fd),(iw Ug),.frame T9 (jk c s fd j)]:List ap)=(qs c s fd Ug ps j Vl)++.frame T9 (jk c s fd j)::[]))))) (.l (jl c s fd Ug ps j Vl T9) (0,Vl) (fun ⟨m,em⟩=>.b 12 (.b 17 (.q 5 [0,1,6,7,9,10,11] 21<|.w 5 [(16,.box 3 1 (ab .i64) 0 [(((ae c s j)).Rv.getD m aJ).v]),(17,.inl (.tup []) (lI c s j m) ((qu c s fd Ug ps j T9 m em)++.dead::[]))]<|.w 6 [(0,.val (i6 ((m+1:Nat):Int)))]<|.e) (.w 6 [(0,.val (i6 ((m+1:Nat):Int)))]<|.e)) (.e))) Tryz.func109 rfl rfl (by kernel_rfl) ?_
         have Xf:(ae c s j).Rv.length=(c.U.getD j ac).Rv.length:=eh _ _ _ _
         have Yj:(c.U.getD j ac).Rv.length≤100:=(hc.pr j (by omega)).pl
         refine tt ⟨rfl,⟨by omega,rfl⟩,?_⟩
         intro m em I'
         obtain⟨hm,VS⟩:=I'
         have YC:em.length=c.J.length:=by rw[VS,cR,hchl2]
         refine tt (cd (fun VQ=>?_) (fun VQ=>?_))
         · refine tt ⟨ix,tt ⟨fun Wq=>?_,fun Wq=>?_⟩⟩
           · have W9:m<(c.U.getD j ac).Rv.length:=by omega
             have WB:0≤((c.U.getD j ac).Rv.getD m aB).chan∧((c.U.getD j ac).Rv.getD m aB).chan<c.J.length:=⟨(hc.pt j (by omega) m W9).1,(hc.pt j (by omega) m W9).2.1⟩
             have X5:(em.getD ((c.U.getD j ac).Rv.getD m aB).chan.toNat []).length+1≤137438953472:=by
               rw[VS,Zb,tL]
               exact KV hc VJ XU (show j<c.U.length by omega) (show m≤(c.U.getD j ac).Rv.length by omega) (show((c.U.getD j ac).Rv.getD m aB).chan.toNat<c.J.length by omega)
             refine tt ⟨ix,tt ⟨ix,tt ⟨⟨⟨rfl,oK⟩,oK⟩,⟨?_,?_⟩⟩⟩⟩
             · intro UM
               refine fO.vc (V:=TT 4 (vU Tryz.prog 86 [b6,(wh c j m),(IV c s j m)] (Dt c s fd Ug ps j T9 m em UM) (lJ c s j m) (qt c s fd Ug ps j T9 m em UM) [] (.tup [])∧True∧([(bU c),(bS s),de,.dead,(bU c),(bS s),.dead,.dead,.dead,(gC ps),.dead,.dead,(Fg em c j m s),.dead,.dead,(fl c),(iv fd),(iw Ug),(.frame T9 (tM c s j fd)),(.var 101 (pP c s j)),(sY c s j m),.dead,.dead,.dead,.dead,.dead,.dead,.dead,.dead,.dead,.dead,.dead,.dead,.dead,.dead,.dead,.dead,.dead,.frame UM (lI c s j m)]:List ap)=(qu c s fd Ug ps j T9 m em)++.frame UM (lI c s j m)::[])) (.q 1 [0,1,5] 40<|.f 1 39<|.w 1 [(3,.inl (.tup []) (lJ c s j m) ((qt c s fd Ug ps j T9 m em UM)++.dead::[]))]<|.e) Tryz.func60 rfl rfl (by kernel_rfl) ?_
               refine tt ⟨?_,?_⟩
               · intro V9
                 refine fO.vc (V:=TT 13 (IX ((((c.U.getD j ac).Rv).getD m aB).chan) em.length∧(((((c.U.getD j ac).Rv).getD m aB).chan).toNat<em.length∧True)∧CC (Qs (em.getD (((((c.U.getD j ac).Rv).getD m aB).chan).toNat) []) [(((ae c s j)).Rv.getD m aJ).v])∧IX ((((c.U.getD j ac).Rv).getD m aB).chan) em.length∧(((((c.U.getD j ac).Rv).getD m aB).chan).toNat<em.length∧(em.map aa).set (((((c.U.getD j ac).Rv).getD m aB).chan).toNat) ((aa (em.getD (((((c.U.getD j ac).Rv).getD m aB).chan).toNat) [])).take 0++[(.sl 1 (ab .i64) 0 ((em.getD (((((c.U.getD j ac).Rv).getD m aB).chan).toNat) [])++[(((ae c s j)).Rv.getD m aJ).v]))]++(aa (em.getD (((((c.U.getD j ac).Rv).getD m aB).chan).toNat) [])).drop (0+1))=(em.set (((((c.U.getD j ac).Rv).getD m aB).chan).toNat) ((em.getD (((((c.U.getD j ac).Rv).getD m aB).chan).toNat) [])++[(((ae c s j)).Rv.getD m aJ).v])).map aa)∧True∧([(bU c),(bS s),de,.dead,(bU c),(bS s),.dead,.dead,.dead,(gC ps),.dead,.dead,(Fg em c j m s),.dead,.dead,(fl c),(iv fd),(iw Ug),(.frame T9 (tM c s j fd)),(.var 101 (pP c s j)),(sY c s j m),.dead,.dead,.dead,.dead,.dead,.dead,.dead,.dead,.dead,.dead,.dead,.dead,.dead,.dead,.dead,.dead,.dead,(.frame UM (Fe j m c s)),.dead,.frame V9 (lJ c s j m)]:List ap)=(qt c s fd Ug ps j T9 m em UM)++.frame V9 (lJ c s j m)::[])) (.w 0 [(15,(Qs (em.getD (((((c.U.getD j ac).Rv).getD m aB).chan).toNat) []) [(((ae c s j)).Rv.getD m aJ).v]).O),(17,.box 42 1 aa [] (em.set (((((c.U.getD j ac).Rv).getD m aB).chan).toNat) ((em.getD (((((c.U.getD j ac).Rv).getD m aB).chan).toNat) [])++[(((ae c s j)).Rv.getD m aJ).v])))]<|.e) Tryz.func86 rfl rfl (by kernel_rfl) ?_
                 exact tt ⟨ix,⟨⟨om,oK⟩,⟨(Dq (em.getD (((((c.U.getD j ac).Rv).getD m aB).chan).toNat) []) [(((ae c s j)).Rv.getD m aJ).v] om),⟨ix,⟨⟨om,by simp only[Ss];rfl⟩,⟨oK,rfl⟩⟩⟩⟩⟩⟩
               exact⟨oK,rfl⟩
             refine⟨w6,tt ⟨(m+1,em.set (((((c.U.getD j ac).Rv).getD m aB).chan).toNat) ((em.getD (((((c.U.getD j ac).Rv).getD m aB).chan).toNat) [])++[(((ae c s j)).Rv.getD m aJ).v])),rfl,?_,(?_:(ae c s j).Rv.length-(m+1)<(ae c s j).Rv.length-m)⟩⟩
             · exact⟨by omega,by rw[oQ Wq,VS];exact(fW _ _ _ _).symm⟩
             · omega
           · refine⟨w6,tt ⟨(m+1,em),rfl,?_,(?_:(ae c s j).Rv.length-(m+1)<(ae c s j).Rv.length-m)⟩⟩
             · exact⟨by omega,by rw[sX Wq,VS]⟩
             · omega
         · refine⟨oK,congrArg (fun (z0:List (List Int))=>([(bU c),(bS s),de,.dead,(bU c),(bS s),.dead,.dead,.dead,(gC ps),.dead,.dead,(.arr 42 1 aa [] z0),.dead,.dead,(fl c),(iv fd),(iw Ug),.frame T9 (jk c s fd j)]:List ap)) (?_:em=(bB Vl (kS (c.U.getD j ac) (ae c s j) (c.U.getD j ac).Rv.length)))⟩
           rw[VS,show m=(c.U.getD j ac).Rv.length by omega]
       refine⟨w6,tt ⟨(j+1,bB Vl (kS (c.U.getD j ac) (ae c s j) (c.U.getD j ac).Rv.length)),rfl,?_,(?_:c.U.length-(j+1)<c.U.length-j)⟩⟩
       · exact⟨by omega,by rw[Zb];rw[Bw Yl,tL]⟩
       · omega
     · have Yl:av c s (aU c cl) j=false:=by rw[← V5,Yv,nc,RH (by omega)]
       refine⟨w6,tt ⟨(j+1,Vl),rfl,?_,(?_:c.U.length-(j+1)<c.U.length-j)⟩⟩
       · exact⟨by omega,by rw[Zb];rw[zH Yl]⟩
       · omega
   · have hje:j=c.U.length:=by omega
     refine tt ⟨⟨(congrArg _ (?_:ps=((bk c s (aU c cl)).U))),(congrArg _ (?_:Vl=((bk c s (aU c cl)).J))),oK⟩,(congrArg _ (?_:fd=(tab (av c s (aU c cl)) c.U.length))),oK⟩
     · rw[Yh,Vp,cH (by omega)];rfl
     · rw[Zb,hje];exact Gx hc VJ
     · rw[Yv,Vp,cH (by simp)]
abbrev OP (c:Ci):List D:=[(dL 6 fS ac c.U),(dL 5 ga bK c.J)]
abbrev OQ (s:Ns):List D:=[(dL 2 bn bh s.U),(dL 1 aa [] s.J)]
set_option maxRecDepth 100000
abbrev Qt (c:Ci) (s:Ns) (cl:ByteArray):Ct:=⟨74,[(.agg (OP c)),(.agg (OQ s)),(dS cl)],true,(.tup [(.agg [(dL 2 bn bh ((bk c s (aU c cl)).U)),(dL 1 aa [] ((bk c s (aU c cl)).J))]),(LB (tab (av c s (aU c cl)) c.U.length))])⟩
theorem IZ (c:Ci) (s:Ns) (cl:ByteArray) (hc:be c) (hs:it c s) (XU:NX s 4294967296):CC (Qt c s cl):=by
 have UU:=hc.nl
 have hcl:=hc.cl
 refine ah.vc (V:=TT 8 (CC (Ng c s cl)∧TT 6 ((((bk c s (aU c cl)).U).map bn=((bk c s (aU c cl)).U).map bn∧((bk c s (aU c cl)).J).map aa=((bk c s (aU c cl)).J).map aa∧True)∧(tab (av c s (aU c cl)) c.U.length).map aL=(tab (av c s (aU c cl)) c.U.length).map aL∧True))) (.f 1 0<|.f 1 2<|.w 1 [(3,(Ng c s cl).O)]<|.e) Tryz.func74 rfl rfl rfl (by kernel_rfl) ?_
 exact tt ⟨(GJ c s cl hc hs XU),tt ⟨⟨rfl,rfl,oK⟩,rfl,oK⟩⟩
section
variable {c:Ci} {s:Ns} {u:Uf} {p n:Nat}
def L4 (c:Ci) (b:List Int) (q n:Nat):Nat:=if (f9 c n).frm<0 then (b.getD q 0%8).toNat else 0
def inQ (c:Ci) (b:List Int):Nat→Nat
 | 0=>0
 | n+1=>if (f9 c n).frm<0 then inQ c b n+(1+(b.getD (inQ c b n) 0%8).toNat)else inQ c b n
def s8 (c:Ci) (b:List Int) (n:Nat):List Int:=tab (ny b (inQ c b n) (f9 c n).w) (L4 c b (inQ c b n) n)
def jo (c:Ci) (b:List Int):List (List Int):=tab (s8 c b) c.J.length
theorem Nr (c:Ci) {b:List Int} (hb:qy b) (q n:Nat):L4 c b q n≤7:=by
 have:=eS hb q
 unfold L4;split<;>omega
theorem OZ (hc:be c) {b:List Int} (hb:qy b) (hf:∀n,n<c.J.length→-1≤(f9 c n).frm):nz c (jo c b):=by
 have hat:∀n,n<c.J.length→(jo c b).getD n []=s8 c b n:=fun n hn=>aD hn
 refine⟨am _ _,fun n hn h=>?_,fun n hn i hi=>?_,fun n=>?_⟩
 ·rw[hat n hn]
  unfold s8 L4
  rw[RE (by have:=hf n hn;omega)];rfl
 ·rw[hat n hn]at hi ⊢
  unfold s8 at hi ⊢
  rw[am]at hi
  rw[aD hi]
  have hw:=aW.1 (hc.cw n hn)
  exact Np hw.1 (by omega)
 ·by_cases hn:n<c.J.length
  ·rw[hat n hn]
   unfold s8
   rw[am]
   exact SG (Nr c hb _ _) (by decide)
  ·rw[show(jo c b).getD n []=[]from uG (by omega)];exact Su _
def dA:List Int→List Int→Nat
 | x::a,y::b=>if x=y then dA a b+1 else 0
 | _,_=>0
theorem Jg:∀a b,dA a b≤a.length∧dA a b≤b.length
 | [],_=>⟨Su _,Su _⟩
 | x::a,[]=>⟨Su _,Su _⟩
 | x::a,y::b=>by
  have:=Jg a b
  rw[dA];split<;>simp<;>omega
theorem zW:∀a b:List Int,¬dA a b<a.length↔a <+: b
 | [],b=>⟨fun _=>List.nil_prefix,fun _=>by simp⟩
 | x::a,[]=>⟨fun h=>absurd (show dA (x::a) []<(x::a).length from Nat.succ_pos _) h,fun h=>by simp at h⟩
 | x::a,y::b=>by
  rw[List.cons_prefix_cons,← zW a b,dA]
  split
  ·rename_i h;simp[h]
  ·rename_i h;simp[h]
theorem Jh:∀{a b:List Int} {i:Nat},i<dA a b→a.getD i 0=b.getD i 0
 | [],_,_,h=>by simp[dA]at h
 | x::a,[],_,h=>by simp[dA]at h
 | x::a,y::b,i,h=>by
  rw[dA]at h
  split at h
  ·rename_i e
   cases i with
   | zero=>simpa using e
   | succ i =>
    have:=Jh (a:=a) (b:=b) (i:=i) (by omega)
    simpa using this
  ·omega
theorem Ji:∀{a b:List Int},dA a b<a.length→dA a b<b.length→a.getD (dA a b) 0≠b.getD (dA a b) 0
 | [],_,h,_=>by simp at h
 | x::a,[],_,h=>by simp at h
 | x::a,y::b,h,k=>by
  rw[dA]at h k ⊢
  split
  ·rename_i e
   rw[RH e]at h k
   have:=Ji (a:=a) (b:=b) (by simpa using h) (by simpa using k)
   simpa using this
  ·rename_i e;simpa using e
theorem lK {a b:List Int} {i:Nat} (h1:i≤a.length) (h2:i≤b.length) (h:∀j,j<i→a.getD j 0=b.getD j 0) (h3:¬(i<a.length∧i<b.length∧a.getD i 0=b.getD i 0)):dA a b=i:=by
 rcases Nat.lt_trichotomy (dA a b) i with h4 | h4 | h4
 ·exact absurd (h _ h4) (Ji (by omega) (by omega))
 ·exact h4
 ·have:=Jg a b
  exact absurd ⟨by omega,by omega,Jh h4⟩ h3
def e9 (a b:List (List Int)):Bool:=decide (a.length=b.length)&&eu (fun i=>!decide (dA (a.getD i []) (b.getD i [])<(a.getD i []).length)) a.length
theorem K2 {a b:List (List Int)}:e9 a b=true↔a.length=b.length∧∀i,i<a.length→a.getD i [] <+: b.getD i []:=by
 unfold e9
 rw[RA,Sy,dk]
 refine⟨fun ⟨h1,h2⟩=>⟨h1,fun i hi=>(zW _ _).1 ?_⟩,fun ⟨h1,h2⟩=>⟨h1,fun i hi=>?_⟩⟩
 ·have:=h2 i hi;simpa using this
 ·have:=(zW _ _).2 (h2 i hi)
  rw[R6 this];rfl
theorem wt (a:List (List Int)):e9 a a=true:=K2.2 ⟨rfl,fun i _=>List.prefix_refl _⟩
def rN (a b:List (List Int)):Nat→Nat→Int×Int×Bool
 | 0,_=>(0,0,false)
 | m+1,i=>if dA (a.getD i []) (b.getD i [])<min (a.getD i []).length (b.getD i []).length then ((i:Int),(dA (a.getD i []) (b.getD i []):Int),true)else rN a b m (i+1)
def cx (a b:List (List Int)):Int×Int×Bool:=rN a b (min a.length b.length) 0
theorem yg {a b:List (List Int)}:∀(m i:Nat),(rN a b m i=(0,0,false)∧∀j,i≤j→j<i+m→¬dA (a.getD j []) (b.getD j [])<min (a.getD j []).length (b.getD j []).length) ∨
  ∃j:Nat,i≤j∧j<i+m∧rN a b m i=((j:Int),(dA (a.getD j []) (b.getD j []):Int),true)∧dA (a.getD j []) (b.getD j [])<min (a.getD j []).length (b.getD j []).length∧∀k,i≤k→k<j→¬dA (a.getD k []) (b.getD k [])<min (a.getD k []).length (b.getD k []).length
 | 0,i=>.inl ⟨rfl,fun j h1 h2=>by omega⟩
 | m+1,i=>by
  rw[rN]
  split
  ·rename_i h
   exact .inr ⟨i,RD _,by omega,rfl,h,fun k h1 h2=>by omega⟩
  ·rename_i h
   rcases yg (a:=a) (b:=b) m (i+1)with ⟨h1,h2⟩ | ⟨j,h1,h2,h3,h4,h5⟩
   ·refine .inl ⟨h1,fun j a1 a2=>?_⟩
    by_cases e:j=i
    ·subst e;exact h
    ·exact h2 j (by omega) (by omega)
   ·refine .inr ⟨j,by omega,by omega,h3,h4,fun k a1 a2=>?_⟩
    by_cases e:k=i
    ·subst e;exact h
    ·exact h5 k (by omega) a2
end
set_option maxRecDepth 100000
abbrev bu (l:List (List Int)) (r:Nat):qC:=⟨3,1,Int,ab .i64,0,l.getD r []⟩
abbrev tP (l:List (List Int)) (k i j:Nat):D:=if i<k then .gr 1 i else fg aa [] (List.replicate l.length []) i j
theorem Jj (l:List (List Int)) (k:Nat):mJ 1 l.length k 0 [.own 2] [1,2] (fun i j=>tP l k i j) (fun i j=>if i=k then .own 2 else tP l k i j):=by
  intro i j hi hj
  have ZF:j=0:=by omega
  subst ZF
  refine⟨by by_cases h:i=k<;>simp[h],fun g hg=>?_⟩
  simp only[TD,RA]at hg
  show D.free g (if i=k then .own 2 else tP l k i 0)=true
  split
  · exact hg.2.1
  · unfold tP
    split
    · exact hg.1
    · rfl
theorem Nt (l:List (List Int)) (k:Nat):∀i j,i<l.length→j<1→Bc 1 k 2 (if i=k then .own 2 else tP l k i j) (tP l (k+1) i j):=by
  intro i j hi hj
  by_cases h:i=k
  · subst h
    exact .inl ⟨RH rfl,RH (Nat.lt_succ_self i)⟩
  · refine .inr ⟨?_,?_⟩
    · rw[RE h];unfold tP;by_cases h2:i<k
      · rw[RH h2,RH (by omega)]
      · rw[RE h2,RE (by omega)]
    · rw[RE h];unfold tP;by_cases h2:i<k
      · rw[RH h2];exact .inl ⟨i,rfl,h⟩
      · rw[RE h2];exact .inr (.inl ⟨_,rfl⟩)
theorem K3 (l:List (List Int)) (k i j q:Nat) (hq:[1].all (fun g=>!(Nat.beq g q))=true):(tP l k i j).free q=true:=by
  unfold tP
  split
  · simpa[D.free]using hq
  · rfl
theorem Jk (l:List (List Int)) {k:Nat} (h:l.length≤k):∀i j,i<l.length→j<1→y7 1 (tP l k i j) (.me i):=by
  intro i j hi hj
  exact .inl ⟨i,RH (by omega),rfl⟩
abbrev Nu (l:List (List Int)):t1:=⟨66,[(dL 1 aa [] l)],(.gr 0 0),(.nest 42 1 l.length (fun i _=>.me i) l.length (bu l))⟩
abbrev lL (l:List (List Int)):Lp (Nat):=io [0,3,9,10] 2 (fun (k:Nat)=>⟨[(0,(dL 1 aa [] l)),(3,(.own 0)),(9,(i6 (l.length:Int))),(10,(i6 (k:Int)))],[(.arrD 42 1 l.length [1] (fun i j=>tP l k i j)),(.grp k (bu l))]⟩) (fun (k:Nat)=>k≤l.length) (fun (k:Nat)=>l.length-k)
theorem qv (l:List (List Int)) (hl:l.length≤100000) (hs:∀z∈l,z.length≤100000):CO (Nu l):=by
 refine ah.vcO (V:=TT 3 ((((0:Int)≤(l.length:Int)∧(l.length:Int)≤(l.length:Int)∧(l.length:Int)≤137438953472)∧(List.replicate l.length ([]:List Int)).length=l.length∧∀x∈(List.replicate l.length ([]:List Int)),cg [.nils] (aa x))∧TT 3 ((l.length=(List.replicate l.length ([]:List Int)).length∧∀i j,i<l.length→j<1→tP l 0 i j=fg aa [] (List.replicate l.length []) i j∧∀k,[1].all (fun g=>!(Nat.beq g k))=true→(tP l 0 i j).free k=true)∧TT 3 (GO (lL l) 0 (∀k,(lL l).inv k→TT 1 (CD ((k:Int)<(l.length:Int)) (TT 6 (IX (k:Int) l.length∧TT 1 (CO (Qf (l.getD k []))∧IX (k:Int) l.length∧(k<l.length∧mJ 1 l.length k 0 [(.own 2)] [1,2] (fun i j=>tP l k i j) (fun i j=>if i=k then .own 2 else tP l k i j))∧(k≤k∧k+1=max k (k+1)∧(∀q,q<k+1→bu l q=if q=k then bu l k else bu l q)∧∀i j,i<l.length→j<1→Bc 1 k 2 (if i=k then .own 2 else tP l k i j) (tP l (k+1) i j))∧(l.length=l.length∧∀i j,i<l.length→j<1→tP l (k+1) i j=tP l (k+1) i j∧∀q,[1].all (fun g=>!(Nat.beq g q))=true→(tP l (k+1) i j).free q=true)∧W6 ((k+1:Nat):Int)∧TT 1 (AG (lL l) k (k+1))))) ((l.length=k∧∀q,q<l.length→bu l q=bu l q)∧(∀i j,i<l.length→j<1→y7 1 (tP l k i j) (.me i))∧TT 3 (((.gr 0 0):D)=.gr 0 0∧((.nest 42 1 l.length (fun i _=>.me i) l.length (bu l)):ap)=(.nest 42 1 l.length (fun i _=>.me i) l.length (bu l)))))))))) (.w 1 [(2,.box 42 1 aa [] (List.replicate l.length ([]:List Int)))]<|.gh 2 (Oj 0)<|.gh 2 (Ok (bu l))<|.gh 2 (eE 0 l.length [1] (fun i j=>tP l 0 i j))<|.l (lL l) 0 (fun k=>.b 11 (.w 5 [(6,(Qf (l.getD k [])).O),(8,.cells [1,2] (fun i j=>if i=k then .own 2 else tP l k i j))]<|.gh 6 (put 0 1 2 k (k+1) (fun i j=>tP l (k+1) i j) (bu l))<|.gh 6 (eE 0 l.length [1] (fun i j=>tP l (k+1) i j))<|.w 6 [(0,.val (i6 ((k+1:Nat):Int)))]<|.e) (.gh 7 (tz 1 l.length (bu l))<|.gh 7 (LO 0 1 (fun i _=>.me i))<|.e))) Tryz.func66 rfl rfl rfl (by kernel_rfl) ?_
 refine tt ⟨⟨by omega,RC,fun x hx=>by rw[RS hx];exact⟨rfl,oK⟩⟩,tt ⟨⟨(RC ..).symm,fun i j _ _=>⟨rfl,fun _ _=>rfl⟩⟩,tt ⟨rfl,(Su _),?_⟩⟩⟩
 intro k I'
 have hk:=I'
 refine tt (cd (fun Wc=>?_) (fun Wc=>?_))
 · have hz:(l.getD k []).length≤100000:=by rw[Sk,RB (by omega)];exact hs _ (Tp _)
   refine tt ⟨ix,tt ⟨(Gy (l.getD k []) om),⟨ix,⟨⟨by omega,Jj l k⟩,⟨⟨RD k,by omega,fun q _=>by split<;>simp_all,Nt l k⟩,⟨⟨rfl,fun i j _ _=>⟨rfl,fun q hq=>K3 l _ i j q hq⟩⟩,⟨w6,tt ⟨(k+1),rfl,(?_:(k+1)≤l.length),(?_:l.length-(k+1)<l.length-k)⟩⟩⟩⟩⟩⟩⟩⟩
   · omega
   · omega
 · exact⟨⟨by omega,fun _ _=>rfl⟩,⟨Jk l (by omega),tt ⟨rfl,rfl⟩⟩⟩
structure O0 (c:Ci) (u:Uf):Prop where
 ps:∀p,p<c.U.length→m6 (bg c p) (u.s p)
 fv:∀n,n<c.J.length→∀i,i<(u.l n).length→d7 ((u.l n).getD i 0) (f9 c n).w
 rd:∀n,n<c.J.length→u.rd n≤(u.l n).length
section
variable {c:Ci} {u v:Uf} {p n k:Nat} {f:Fi} {D':List (List Int)}
theorem rO (hc:be c) (h:O0 c u) (hp:p<c.U.length):zq (bg c p) (cB c u p) where
 l:=by rw[cB,am]
 v:=fun i hi hh=>by
  rw[cB,aD hi]at hh ⊢
  unfold KW at hh ⊢
  split
  ·rename_i h0
   obtain⟨k1,k2,k3,k4⟩:=hc.tk p hp i hi
   have:=h.fv (ng (bg c p) i) (by show(lF (bg c p) i).chan.toNat<_;omega) _ h0
   rw[k3]at this
   exact this
  ·rename_i h0;rw[RE h0]at hh;cases hh
theorem BJ (hc:be c) (hp:p<c.U.length):(iQ c p f n).length≤1:=by
 rw[iQ,RJ];exact zE hc hp n (RD _)
theorem Jl (hc:be c) (h:O0 c u) (hp:p<c.U.length) (Ua:jm c u p=true):O0 c (aj c u p) where
 ps:=fun q hq=>by
  show m6 _ (if q=p then _ else u.s q)
  by_cases e:q=p
  ·rw[RH e,e];exact pN (hc.pr p hp) (h.ps p hp) (rO hc h hp)
  ·rw[RE e];exact h.ps q hq
 fv:=fun n hn i hi=>by
  have hl:(aj c u p).l n=u.l n++iQ c p (fw c u p) n:=rfl
  rw[hl]at hi ⊢
  rw[rG]
  split
  ·rename_i h0;exact h.fv n hn i h0
  ·rename_i h0
   rw[RV]at hi
   have hm:=oL (d:=(0:Int)) (show i-(u.l n).length<(iQ c p (fw c u p) n).length by omega)
   generalize (iQ c p (fw c u p) n).getD _ 0=v at hm
   unfold iQ at hm
   obtain⟨e,he,rfl⟩:=TX.1 hm
   obtain⟨h1,h2⟩:=Ta.1 he
   rw[beq_iff_eq]at h2
   obtain⟨j,j1,j2,j3,j4⟩:=oH h1
   have:=rx (rs:=c6 c p) (hc.pr p hp) (h.ps p hp) (rO hc h hp) j1 j2
   rw[← (hc.pt p hp j j1).2.2.1,j3,h2]at this
   rw[← j4];exact this
 rd:=fun n hn=>by
  show u.rd n+jX c p (fw c u p) n≤(u.l n++iQ c p (fw c u p) n).length
  rw[RV]
  have h0:=h.rd n hn
  unfold jX
  split
  ·rename_i hm
   obtain⟨j,j1,j2,j3⟩:=oG hm
   unfold jm fw at Ua
   rw[ql]at Ua
   have:=E6 Ua j1 j2
   rw[cB,aD j1]at this
   unfold KW at this
   split at this
   ·rename_i Un;rw[j3]at Un;omega
   ·cases this
  ·omega
def rP (c:Ci) (n:Nat) (u:Uf) (k:Nat):Bool:=decide (u.cnt k<n)&&jm c u k
def b7 (c:Ci) (n:Nat) (u:Uf) (k:Nat):Fi:=if u.cnt k<n then fw c u k else ⟨false,bh,[],[]⟩
theorem Jm (h:n≤u.cnt k):b7 c n u k=⟨false,bh,[],[]⟩:=RE (by omega)
theorem zX (h:u.cnt k<n):b7 c n u k=fw c u k:=RH h
theorem BK (h:n≤u.cnt k):rP c n u k=false:=by rw[rP,R6 (by omega)];rfl
theorem s9 (h:u.cnt k<n):rP c n u k=jm c u k:=by rw[rP,RX h];rfl
theorem wu (h:rP c n u k=true):u.cnt k<n∧jm c u k=true:=by
 unfold rP at h;simpa using h
structure UI (c:Ci) (D':List (List Int)) (n:Nat) (u:Uf):Prop where
 run:∃m,kw c (u0 c D') m∧u=cC c (u0 c D') m
 cn:∀q,u.cnt q≤n
 ok:O0 c u
 ln:∀k,(u.l k).length+fx n u.cnt c.U.length≤1000+n*c.U.length
theorem O1 (hc:be c) (h:nz c D'):O0 c (u0 c D') where
 ps:=fun p hp=>by
  show m6 _ (if p<c.U.length then _ else _)
  rw[RH hp];exact BI (hc.pr p hp)
 fv:=h.fv
 rd:=fun n hn=>Su _
theorem BL (hc:be c) (h:nz c D') (n:Nat):UI c D' n (u0 c D') where
 run:=⟨[],trivial,rfl⟩
 cn:=fun q=>Su _
 ok:=O1 hc h
 ln:=fun k=>by
  have:=h.sm k
  have:=Dx n (u0 c D').cnt c.U.length
  show(D'.getD k []).length+_≤_
  omega
theorem nA (hp:p<c.U.length) (h:rP c n u p=true):fx n (aj c u p).cnt c.U.length+1=fx n u.cnt c.U.length:=by
 have:=rM (wu h).1 c.U.length
 rw[RH hp]at this
 exact this
theorem zY (hc:be c) (h:UI c D' n u) (hp:p<c.U.length) (Xn:rP c n u p=true):UI c D' n (aj c u p) where
 run:=by
  obtain⟨m,h1,h2⟩:=h.run
  refine⟨m++[p],rH h1 ⟨hp,by rw[← h2];exact(wu Xn).2,trivial⟩,by rw[kx,← h2];rfl⟩
 cn:=fun q=>by
  show(if q=p then u.cnt q+1 else u.cnt q)≤n
  have:=h.cn q
  have:=(wu Xn).1
  split
  ·rename_i e;rw[e];omega
  ·omega
 ok:=Jl hc h.ok hp (wu Xn).2
 ln:=fun k=>by
  have h1:=h.ln k
  have h2:=nA hp Xn
  have h3:=BJ (f:=fw c u p) (n:=k) hc hp
  show(u.l k++iQ c p (fw c u p) k).length+_≤_
  rw[RV]
  omega
theorem wv (h:UI c D' n u) (k:Nat):(u.l k).length≤1000+n*c.U.length:=by have:=h.ln k;omega
theorem Jn (hc:be c) (h:UI c D' n u) (he:∀p,p<c.U.length→rP c n u p=false):u=ef c D' n:=by
 obtain⟨m,h1,h2⟩:=h.run
 have ZD:∀q,u.cnt q=m.count q:=fun q=>by rw[h2,hU];show 0+_=_;omega
 rw[h2]
 refine Nq hc ⟨h1,fun q=>by rw[← ZD];exact h.cn q,fun p hp Ua=>?_⟩
 rw[← h2]at Ua
 have:=he p hp
 rw[← ZD]
 refine Nat.le_of_not_lt fun Un=>?_
 rw[s9 Un,Ua]at this
 cases this
abbrev br (c:Ci) (u:Uf):List (List Int):=tab u.l c.J.length
abbrev en (c:Ci) (u:Uf):List Ps:=tab u.s c.U.length
abbrev eW (c:Ci) (u:Uf):List Int:=tab (fun m=>(u.rd m:Int)) c.J.length
abbrev bO (c:Ci) (u:Uf):List Int:=tab (fun q=>(u.cnt q:Int)) c.U.length
theorem Jo (hp:p<c.U.length):(en c u).set p (fw c u p).s=en c (aj c u p):=by
 refine dV (d:=bh) (by simp[am]) (fun i hi=>?_)
 rw[Sw,am]at hi
 rw[cU (by rw[am];exact hp),aD hi,aD hi]
 show _=(if i=p then _ else u.s i)
 by_cases e:p=i
 ·rw[RH e,RH e.symm]
 ·rw[RE e,RE (fun q=>e q.symm)]
theorem zZ (hp:p<c.U.length):(bO c u).set p ((u.cnt p:Int)+1)=bO c (aj c u p):=by
 refine dV (d:=(0:Int)) (by simp[am]) (fun i hi=>?_)
 rw[Sw,am]at hi
 rw[cU (by rw[am];exact hp),aD hi,aD hi]
 show _=(((if i=p then u.cnt i+1 else u.cnt i:Nat)):Int)
 by_cases e:p=i
 ·rw[RH e,RH e.symm,← e];simp
 ·rw[RE e,RE (fun q=>e q.symm)]
def jp (l:List Int) (ev:List Nat):List Int:=ev.foldl (fun l n=>l.set n (l.getD n 0+1)) l
theorem oV (ev:List Nat):∀(l:List Int),(jp l ev).length=l.length:=by
 induction ev with
 | nil=>intro l;rfl
 | cons a r ih=>intro l;rw[jp,List.foldl_cons];exact(ih _).trans (Sw ..)
theorem ww (l:List Int) (ev:List Nat) (n:Nat):jp l (ev++[n])=(jp l ev).set n ((jp l ev).getD n 0+1):=by simp[jp,SS]
theorem yh (ev:List Nat):∀(l:List Int) (n:Nat),n<l.length→(jp l ev).getD n 0=l.getD n 0+(ev.count n:Int):=by
 induction ev with
 | nil=>intro l n hn;show l.getD n 0=_;simp
 | cons a r ih =>
  intro l n hn
  rw[jp,List.foldl_cons]
  refine(ih _ n (by rw[Sw];exact hn)).trans ?_
  rw[SO]
  by_cases e:a=n
  ·subst e;rw[cU hn,RH rfl];simp;omega
  ·rw[show(l.set a (l.getD a 0+1)).getD n 0=l.getD n 0 by simp[List.getD,List.getElem?_set,e]]
   have:(a==n)=false:=beq_eq_false_iff_ne.2 e
   rw[this];simp
theorem Jp (hc:be c) (hp:p<c.U.length):jp (eW c u) (kR (bg c p) (fw c u p) (bg c p).I.length)=eW c (aj c u p):=by
 refine dV (d:=(0:Int)) (by rw[oV,am,am]) (fun i hi=>?_)
 rw[oV,am]at hi
 rw[yh _ _ _ (by rw[am];exact hi),aD hi,aD hi,kr hc i hp (RD _)]
 show _=((u.rd i+jX c p (fw c u p) i:Nat):Int)
 unfold jX
 split<;>simp
theorem L5 (hc:be c) (hp:p<c.U.length) (hk:k≤(bg c p).I.length) (hn:n<c.J.length):0≤(jp (eW c u) (kR (bg c p) f k)).getD n 0∧(jp (eW c u) (kR (bg c p) f k)).getD n 0≤u.rd n+1:=by
 rw[yh _ _ _ (by rw[am];exact hn),aD hn,kr hc n hp hk]
 split<;>constructor<;>simp<;>omega
theorem z4 (hc:be c) (hp:p<c.U.length):bB (br c u) (kS (bg c p) (fw c u p) (bg c p).Rv.length)=br c (aj c u p):=by
 refine dV (d:=[]) (by rw[cR,am,am]) (fun i hi=>?_)
 rw[cR,am]at hi
 rw[nk _ _ _ (by rw[am];exact hi),aD hi,aD hi]
 rfl
theorem Fp (hn:n<c.J.length):((bB (br c u) (kS (bg c p) f k)).getD n []).length≤(u.l n).length+k:=by
 have h1:=Fd (kS (bg c p) f k) (br c u) n (by rw[am];exact hn)
 rw[aD hn]at h1
 exact SG h1 (Nat.add_le_add_left uO _)
def lM (c:Ci) (D':List (List Int)) (n:Nat):Bool:=decide ((D'.getD n []).length≤1000)&&((decide ((D'.getD n []).length=0)||decide ((f9 c n).frm=-1))&&jh (D'.getD n []) (f9 c n).w)
def cJ (c:Ci) (D':List (List Int)):Bool:=decide (D'.length=c.J.length)&&eu (lM c D') c.J.length
theorem bM:cJ c D'=true↔nz c D':=by
 unfold cJ lM
 simp only[RA,Sy,dk,Sh,IE]
 constructor
 ·rintro⟨h1,h2⟩
  refine⟨h1,fun n hn hf=>?_,fun n hn=>(h2 n hn).2.2,fun n=>?_⟩
  ·rcases(h2 n hn).2.1 with h | h
   ·exact So h
   ·exact absurd h hf
  ·by_cases hn:n<c.J.length
   ·exact(h2 n hn).1
   ·rw[Sk,Sm (by omega)];simp
 ·rintro⟨h1,h2,h3,h4⟩
  refine⟨h1,fun n hn=>⟨h4 n,?_,h3 n hn⟩⟩
  by_cases hf:(f9 c n).frm=-1
  ·exact .inr hf
  ·exact .inl (by rw[h2 n hn hf];rfl)
def fy (c:Ci) (D':List (List Int)) (n:Int):List (List Int)×List Int×Int:=if cJ c D'=true∧0≤n∧n≤100 then (br c (ef c D' n.toNat),bO c (ef c D' n.toNat),0)else ([],[],1)
theorem iR {k:Int} (h:¬(cJ c D'=true∧0≤k∧k≤100)):fy c D' k=([],[],1):=RE h
theorem dW {k:Int} (h:cJ c D'=true) (h2:0≤k∧k≤100):fy c D' k=(br c (ef c D' k.toNat),bO c (ef c D' k.toNat),0):=RH ⟨h,h2⟩
def Dy (c:Ci) (D':List (List Int)) (J':List ByteArray):Uf:=cC c (u0 c D') (iz c (G9 c D') (J'.map (aU c)))
def iA (c:Ci) (D':List (List Int)) (J':List ByteArray):List (List Int)×List Int×Int:=if cJ c D'=true∧J'.length≤100 then (br c (Dy c D' J'),bO c (Dy c D' J'),0)else ([],[],1)
theorem lN {J':List ByteArray} (h:¬(cJ c D'=true∧J'.length≤100)):iA c D' J'=([],[],1):=RE h
theorem ia {J':List ByteArray} (h:cJ c D'=true) (h2:J'.length≤100):iA c D' J'=(br c (Dy c D' J'),bO c (Dy c D' J'),0):=RH ⟨h,h2⟩
end
section
variable {a b:List (List Int)} {i:Nat} {c:Ci} {n:Nat} {D':List (List Int)}
theorem oW (h:¬a.length=b.length):e9 a b=false:=by rw[e9,R6 h];rfl
theorem oX (hi:i<a.length) (h:dA (a.getD i []) (b.getD i [])<(a.getD i []).length):e9 a b=false:=by
 rw[e9,rt hi (by rw[RX h];rfl),S7]
theorem oY (h:a.length=b.length) (h2:∀q,q<a.length→(!decide (dA (a.getD q []) (b.getD q [])<(a.getD q []).length))=true):e9 a b=true:=by
 rw[e9,RX h,dk.2 h2];rfl
theorem Dz (hi:i<min a.length b.length) (h:¬dA (a.getD i []) (b.getD i [])<min (a.getD i []).length (b.getD i []).length):rN a b (min a.length b.length-i) i=rN a b (min a.length b.length-(i+1)) (i+1):=by
 rw[show min a.length b.length-i=min a.length b.length-(i+1)+1 by omega,rN,RE h]
theorem z5 (hi:i<min a.length b.length) (h:dA (a.getD i []) (b.getD i [])<min (a.getD i []).length (b.getD i []).length):rN a b (min a.length b.length-i) i=((i:Int),(dA (a.getD i []) (b.getD i []):Int),true):=by
 rw[show min a.length b.length-i=min a.length b.length-(i+1)+1 by omega,rN,RH h]
theorem z6 (hi:min a.length b.length≤i):rN a b (min a.length b.length-i) i=(0,0,false):=by
 rw[show min a.length b.length-i=0 by omega];rfl
theorem L6 (h1:(D'.getD n []).length≤1000) (h2:(D'.getD n []).length=0∨(f9 c n).frm=-1) (h3:(!decide (0≤t5 (D'.getD n []) (f9 c n).w))=true):lM c D' n=true:=by
 rw[yb]at h3
 unfold lM
 rw[h3,RX h1,Tr,Tc]
 rcases h2 with h2 | h2
 ·rw[RX h2,Bool.true_or]
 ·rw[RX h2,Bool.or_true]
theorem fp (h:¬D'.length=c.J.length):cJ c D'=false:=by rw[cJ,R6 h];rfl
theorem dC (hn:n<c.J.length) (h:lM c D' n=false):cJ c D'=false:=by rw[cJ,rt hn h,S7]
theorem oZ (hn:n<c.J.length) (h:¬(D'.getD n []).length≤1000):cJ c D'=false:=dC hn (by unfold lM;rw[R6 h];rfl)
theorem o0 (hn:n<c.J.length) (h:¬(D'.getD n []).length=0) (h2:¬(f9 c n).frm=-1):cJ c D'=false:=dC hn (by unfold lM;rw[R6 h,R6 h2];simp)
theorem o6 (hn:n<c.J.length) (h:decide (0≤t5 (D'.getD n []) (f9 c n).w)=true):cJ c D'=false:=dC hn (by unfold lM;rw[← yb,h];simp)
theorem fq (h:D'.length=c.J.length) (h2:∀z,z<c.J.length→lM c D' z=true):cJ c D'=true:=by rw[cJ,RX h,dk.2 h2];rfl
end
theorem lO {c:Ci} {D':List (List Int)} (h:nz c D') (hc:be c):D'.length≤100000∧∀z∈D',z.length≤100000:=by
 refine⟨by rw[h.l];have:=hc.cl;omega,fun z hz=>?_⟩
 obtain⟨i,hi,rfl⟩:=Tf hz
 have:=h.sm i
 rw[dF _ _ hi]at this
 omega
theorem Nv {D':List (List Int)} (h:D'.length≤100000∧∀z∈D',z.length≤100000):D'.length≤9223372036854775807:=by omega
theorem Nw {D':List (List Int)} (h:D'.length≤100000∧∀z∈D',z.length≤100000) (i:Nat):(D'.getD i []).length≤9223372036854775807:=by
 by_cases hi:i<D'.length
 ·have:=h.2 _ (oL (d:=[]) hi);omega
 ·rw[Sk,Sm (by omega)];simp
def J5 (c:Ci):Prop:=∀p,p<c.U.length→1≤(bg c p).Rv.length∧(bg c p).Rv.length≤2
def dD (c:Ci) (s:Ns) (k:Nat):Fi:=ax (bg c k) (De s k) (cr c s k) (c6 c k)
section
variable {c:Ci} {s:Ns} {u v:Uf} {p n k i:Nat} {D':List (List Int)} {J':List ByteArray} {w:Nat→Bool}
theorem K6 (hc:be c) (hp:p<c.U.length) (Ua:gz c s p=true):dD c s p=ae c s p:=by
 rw[sV]at Ua
 unfold dD ae
 refine oJ (hc.pr p hp) Ua (fun j hj hh=>rfl) (fun j hj _=>?_)
 unfold c6
 rw[dF _ _ (by rw[RC];exact hj),List.getElem_replicate]
theorem rR (hc:be c) (n:Nat):∀{l:List Nat} {u:Uf},kw c u l→((cC c u l).l n).length≤(u.l n).length+l.length
 | [],u,_=>RD _
 | p::r,u,h=>by
  refine SG (rR hc n (l:=r) h.2.2) ?_
  have:=BJ (f:=fw c u p) (n:=n) hc h.1
  show(u.l n++iQ c p (fw c u p) n).length+r.length≤_+(r.length+1)
  rw[RV];omega
theorem Fs (c:Ci) (s:Ns) (w:Nat→Bool) (P:Nat):(jY c s w P).length≤P:=by
 unfold jY
 exact SG (List.length_filter_le _ _) (by simp)
theorem Ft (c:Ci):∀(l:List (Nat→Bool)) (s:Ns),(iz c s l).length≤l.length*c.U.length
 | [],s=>by simp[iz]
 | w::r,s=>by
  have h1:=Fs c s w c.U.length
  have h2:=Ft c r (bk c s w)
  rw[iz,RV,RK,SL];omega
theorem BN:∀{l m:List (Nat→Bool)} {s:Ns},w8 c s (l++m)=w8 c (w8 c s l) m
 | [],_,_=>rfl
 | w::r,m,s=>by rw[To,w8,w8,BN (l:=r)]
def Jw (c:Ci) (D':List (List Int)) (J':List ByteArray) (i:Nat):Ns:=w8 c (G9 c D') ((J'.map (aU c)).take i)
def Ha (c:Ci) (D':List (List Int)) (J':List ByteArray) (i:Nat):Uf:=cC c (u0 c D') (iz c (G9 c D') ((J'.map (aU c)).take i))
theorem Fu (hi:i<J'.length):(J'.map (aU c)).take (i+1)=(J'.map (aU c)).take i++[aU c (J'.getD i .empty)]:=by
 rw[List.take_add_one,R3,RB hi,Sk,RB hi];rfl
theorem BO (hi:i<J'.length):Jw c D' J' (i+1)=bk c (Jw c D' J' i) (aU c (J'.getD i .empty)):=by
 unfold Jw;rw[Fu hi,BN];rfl
theorem BP (hi:i<J'.length):Ha c D' J' (i+1)=cC c (Ha c D' J' i) (jY c (Jw c D' J' i) (aU c (J'.getD i .empty)) c.U.length):=by
 unfold Ha;rw[Fu hi,Fh,kx]
 show cC c _ (iz c (Jw c D' J' i) [_])=_
 rw[iz,iz,RL]
theorem lP (hi:J'.length≤i):Ha c D' J' i=Dy c D' J':=by
 unfold Ha Dy;rw[Th (by simpa using hi)]
theorem Fv (hc:be c) (h:nz c D'):kw c (u0 c D') (iz c (G9 c D') ((J'.map (aU c)).take i))∧NU c (Jw c D' J' i) (Ha c D' J' i)∧it c (Jw c D' J' i)∧∀q,(Ha c D' J' i).cnt q≤i:=by
 obtain⟨a,b,d,e⟩:=I7 hc (l:=(J'.map (aU c)).take i) (L3 hc h) (OY c (D':=D'))
 refine⟨a,b,d,fun q=>?_⟩
 unfold Ha
 rw[hU]
 have:=e q
 rw[RZ]at this
 show 0+_≤_
 omega
theorem Ab (hc:be c) (h:nz c D') (hi:i≤100) (n:Nat):((Ha c D' J' i).l n).length≤11000:=by
 have h1:=rR hc n (Fv (J':=J') (i:=i) hc h).1
 have h2:=Ft c ((J'.map (aU c)).take i) (G9 c D')
 have h3:=h.sm n
 have h4:=hc.nl
 have h5:((J'.map (aU c)).take i).length≤100:=by rw[RZ];omega
 have h6:((J'.map (aU c)).take i).length*c.U.length≤100*100:=Tt h5 h4
 have h7:((u0 c D').l n).length≤1000:=h3
 unfold Ha
 omega
theorem L7 (hc:be c) (h:nz c D') (hi:i≤100):NX (Jw c D' J' i) 11000:=fun n=>by
 obtain⟨_,b,d,_⟩:=Fv (J':=J') (i:=i) hc h
 by_cases hn:n<c.J.length
 ·rw[b.wd n hn,Sd];have:=Ab (J':=J') hc h hi n;omega
 ·show((Jw c D' J' i).J.getD n []).length≤_
  rw[Sk,Sm (by have:=d.cl;omega)];simp
def GR (c:Ci) (s:Ns) (u:Uf) (w:Nat→Bool) (k:Nat):Uf:=cC c u (jY c s w k)
theorem BQ (k:Nat):jY c s w (k+1)=jY c s w k++(if av c s w k=true then [k]else []):=by
 unfold jY
 rw[TL,Tq]
 split
 ·rename_i hf;rw[List.filter_cons_of_pos hf,TV]
 ·rename_i hf;rw[List.filter_cons_of_neg hf,TV]
theorem Fw (h:av c s w k=true):GR c s u w (k+1)=aj c (GR c s u w k) k:=by
 unfold GR;rw[BQ,RH h,kx];rfl
theorem Jx (h:av c s w k=false):GR c s u w (k+1)=GR c s u w k:=by
 unfold GR;rw[BQ,RE (by rw[h];simp),RL]
theorem Nz (hc:be c) (hs:it c s) (hn:NU c s u) (hk:k<c.U.length) (h:av c s w k=true):fw c (GR c s u w k) k=dD c s k:=by
 rw[K6 hc hk (gA h).2]
 exact(rI hc hs hn w _ (RD _)).2.2 k hk h
theorem Fx (hc:be c) (hs:it c s) (hn:NU c s u) (hk:k≤c.U.length) (n:Nat):((GR c s u w k).l n).length≤(u.l n).length+100:=by
 have h1:=rR hc n (rI hc hs hn w k hk).1
 have h2:=Fs c s w k
 have h3:=hc.nl
 unfold GR;omega
theorem Fy (q:Nat):(GR c s u w k).cnt q≤u.cnt q+1:=by
 unfold GR
 rw[hU,ye]
 split<;>omega
theorem Ac (n:Nat) (hl:D'.length=c.J.length):br c (u0 c D')=D':=by
 refine dV (d:=[]) (by rw[am,hl]) (fun i hi=>?_)
 rw[am]at hi
 rw[aD hi];rfl
theorem Ad:bO c (u0 c D')=List.replicate c.U.length 0:=by
 refine dV (d:=(0:Int)) (by rw[am,RC]) (fun i hi=>?_)
 rw[am]at hi
 rw[aD hi,ca];rfl
theorem L8:eW c (u0 c D')=List.replicate c.J.length 0:=by
 refine dV (d:=(0:Int)) (by rw[am,RC]) (fun i hi=>?_)
 rw[am]at hi
 rw[aD hi,ca];rfl
theorem tb (hk:k<c.U.length):(bO c v).getD k 0=(v.cnt k:Int):=aD hk
theorem Ae (hk:k<c.J.length):(eW c v).getD k 0=(v.rd k:Int):=aD hk
end
theorem JE (c:Sc):fc c fX=some 1∧fI fX≤3:=by
 constructor
 ·rfl
 ·decide
structure Rs where
 l:List (List Int)
 c:List Int
 e:Int
def tg (a b:List Int):Bool:=!decide (dA a b<a.length)
def qw (a b:List (List Int)):Bool:=e9 a b&&e9 b a
def l8 (a b:Rs):Bool:=decide (a.e=b.e)&&(qw a.l b.l&&decide (a.c=b.c))
def b8 (c:Ci) (D':List (List Int)) (n:Int):Rs:=⟨(fy c D' n).1,(fy c D' n).2.1,(fy c D' n).2.2⟩
def da (c:Ci) (D':List (List Int)) (J':List ByteArray):Rs:=⟨(iA c D' J').1,(iA c D' J').2.1,(iA c D' J').2.2⟩
section
variable {a b:List Int} {i:Nat}
theorem Aj (h2:a.length≤b.length) (h:∀j,j<a.length→a.getD j 0=b.getD j 0):tg a b=true:=by
 unfold tg
 rw[lK (RD _) h2 h (by omega),R6 (Nat.lt_irrefl _)];rfl
theorem o8 (hi:i<a.length) (hb:i≤b.length) (h:∀j,j<i→a.getD j 0=b.getD j 0) (h3:¬(i<b.length∧a.getD i 0=b.getD i 0)):tg a b=false:=by
 unfold tg
 rw[lK (by omega) hb h (fun q=>h3 q.2),RX hi];rfl
theorem JF {x y:List (List Int)} (h:¬e9 x y=true):qw x y=false:=by
 unfold qw;rw[show e9 x y=false by simpa using h];rfl
theorem Ak {x y:List (List Int)} (h:e9 x y=true):qw x y=e9 y x:=by unfold qw;rw[h];rfl
theorem Al {x y:Rs} (h:¬x.e=y.e):l8 x y=false:=by unfold l8;rw[R6 h];rfl
theorem Am {x y:Rs} (h:¬qw x.l y.l=true):l8 x y=false:=by unfold l8;rw[show qw x.l y.l=false by simpa using h];simp
theorem uW {x y:Rs} (h:x.e=y.e) (h2:qw x.l y.l=true):l8 x y=decide (x.c=y.c):=by unfold l8;rw[RX h,h2];rfl
end
def t7 (b:List Int) (i:Nat):ByteArray:=([(bs [97]),(bs [98]),(bs [97]),(bs [98]),(bs [97]),(bs [98]),(bs [99])]).getD (b.getD i 0%7).toNat .empty
def GW (b:List Int):Nat:=min b.length 40
def xe (b:List Int):List ByteArray:=tab (t7 b) (GW b)
theorem K8 (b:List Int):(xe b).length≤40:=by unfold xe;rw[am];unfold GW;omega
def ND (l:List (List Int)):Nat→Int
 | 0=>(l.length:Int)
 | i+1=>IntKind.wrap .i64 (ND l i+((l.getD i []).length:Int))
def t8 (l:List (List Int)):Bool:=decide (ND l l.length≤60)
def Hb (a b:List (List Int)):Nat:=(cx a b).1.toNat
def Hc (a b:List (List Int)):Nat:=(cx a b).2.1.toNat
theorem kF (a b:List (List Int)):(cx a b).1=(Hb a b:Int)∧(cx a b).2.1=(Hc a b:Int):=by
 have h:0≤(cx a b).1∧0≤(cx a b).2.1:=by
  rcases yg (a:=a) (b:=b) (min a.length b.length) 0 with ⟨h1,_⟩ | ⟨j,_,_,h3,_⟩
  ·rw[show cx a b=_ from h1];simp
  ·rw[show cx a b=_ from h3];simp
 exact⟨(Te h.1).symm,(Te h.2).symm⟩
theorem iB {l:List (List Int)} (h:l.all (fun x=>decide (x.length≤1000))=true) (i:Nat):(l.getD i []).length≤9223372036854775807:=by
 by_cases hi:i<l.length
 ·rw[R7]at h
  have:=h _ (oL (d:=[]) hi)
  simp only[Sy]at this
  omega
 ·rw[Sk,Sm (by omega)];simp
section
variable {c:Ci} {D':List (List Int)} {n:Int} {J':List ByteArray}
theorem FA (c:Ci) (n:Nat):∀(k:Nat) (u:Uf),(J4 c n k u).length≤k
 | 0,u=>by simp[J4]
 | k+1,u=>by
  unfold J4
  split
  ·rename_i p _
   have:=FA c n k (aj c u p)
   simp only[RK];omega
  ·simp
theorem K9 (hc:be c) (h:nz c D') {n:Nat} (hn:n≤100) (k:Nat):((ef c D' n).l k).length≤11000:=by
 have h1:=rR hc k (l:=GQ c D' n) (Jf c D' n).can
 have h2:=FA c n (n*c.U.length) (u0 c D')
 have h3:n*c.U.length≤100*100:=Tt hn hc.nl
 have h4:((u0 c D').l k).length≤1000:=h.sm k
 unfold ef
 have h5:(GQ c D' n).length≤n*c.U.length:=h2
 omega
theorem FB {f:Nat→List Int} {m:Nat} (h:∀k,(f k).length≤11000) (i:Nat):((tab f m).getD i []).length≤9223372036854775807:=by
 by_cases hi:i<m
 ·rw[aD hi];have:=h i;omega
 ·rw[uG (by omega)];simp
theorem jq (hc:be c):(b8 c D' n).l.length≤9223372036854775807∧(∀i,((b8 c D' n).l.getD i []).length≤9223372036854775807)∧(b8 c D' n).c.length≤9223372036854775807:=by
 have h1:=hc.cl
 have h2:=hc.nl
 unfold b8
 by_cases h:cJ c D'=true∧0≤n∧n≤100
 ·rw[dW h.1 h.2]
  exact⟨by show(tab _ _).length≤_;rw[am];omega,FB (K9 hc (bM.1 h.1) (by omega)),by show(tab _ _).length≤_;rw[am];omega⟩
 ·rw[iR h]
  exact⟨by simp,fun i=>by simp,by simp⟩
theorem nN (hc:be c):(da c D' J').l.length≤9223372036854775807∧(∀i,((da c D' J').l.getD i []).length≤9223372036854775807)∧(da c D' J').c.length≤9223372036854775807:=by
 have h1:=hc.cl
 have h2:=hc.nl
 unfold da
 by_cases h:cJ c D'=true∧J'.length≤100
 ·rw[ia h.1 h.2]
  have hin:=bM.1 h.1
  exact⟨by show(tab _ _).length≤_;rw[am];omega,FB (fun k=>by rw[← lP (RD _)];exact Ab hc hin h.2 k),by show(tab _ _).length≤_;rw[am];omega⟩
 ·rw[lN h]
  exact⟨by simp,fun i=>by simp,by simp⟩
end
def La:Ex:=⟨6,e0,dN,dN,[⟨16,e0,dN,dN,[]⟩,⟨18,e0,dN,dN,[]⟩]⟩
def O4:Pr:=⟨bs [112],bs [97],[⟨bs [114],2,0,La,MU⟩],[],[⟨0,2,fX⟩],[⟨1,2,fX,La⟩]⟩
def aK:Ci:=⟨[O4],[⟨bs [105],2,0,-1,0⟩,⟨bs [111],2,0,0,-1⟩]⟩
set_option maxRecDepth 100000
theorem Lb:fk O4 where
 rl:=by decide
 ml:=by decide
 tl:=by decide
 pl:=by decide
 rw:=fun i hi=>by
  have:i=0:=by have:i<1:=hi;omega
  subst this
  exact⟨rfl,⟨by decide,by decide⟩,rfl,show fI La≤3 by decide⟩
 mw:=fun i hi=>absurd hi (Tz _)
 tw:=fun i hi=>by
  have:i=0:=by have:i<1:=hi;omega
  subst this
  exact⟨rfl,JE _⟩
 pw:=fun i hi=>by
  have:i=0:=by have:i<1:=hi;omega
  subst this
  exact⟨rfl,JE _,rfl,show fI La≤3 by decide⟩
theorem c4:be aK:=by
 have h2:aK.U.length=1:=rfl
 have h3:aK.J.length=2:=rfl
 have c2:∀i,i<2→i=0∨i=1:=fun i hi=>by omega
 refine⟨by decide,by decide,by decide,fun i hi=>?_,fun i hi j hj=>?_,fun i hi j hj=>?_,fun i hi j k hj hk _=>?_,fun i hi j k hj hk _=>?_,fun n hn=>?_,fun n hn=>?_⟩
 ·rw[h2]at hi
  have:i=0:=by omega
  subst this;exact Lb
 ·have:i=0:=by rw[h2]at hi;omega
  subst this
  have:j=0:=by have:j<1:=hj;omega
  subst this;decide
 ·have:i=0:=by rw[h2]at hi;omega
  subst this
  have:j=0:=by have:j<1:=hj;omega
  subst this;decide
 ·have:i=0:=by rw[h2]at hi;omega
  subst this
  have:j<1:=hj
  have:k<1:=hk
  omega
 ·have:i=0:=by rw[h2]at hi;omega
  subst this
  have:j<1:=hj
  have:k<1:=hk
  omega
 ·rw[h3]at hn
  rcases c2 n hn with rfl | rfl<;>decide
 ·rw[h3]at hn
  rcases c2 n hn with rfl | rfl<;>decide
theorem nO:J5 aK:=fun p hp=>by
 have:p=0:=by have:p<1:=hp;omega
 subst this;decide
theorem QF:fy aK [[1,2,2],[]] 100=([[1,2,2],[1,3,1]],[3],0):=by decide
theorem QG:fy aK [[1,2,2],[]] 2=([[1,2,2],[1,3]],[2],0):=by decide
def wT (q:Nat):Bool:=decide (q=0)
theorem Mb:gB (aU aK (bs [97])) 1=gB wT 1:=funext fun q=>by
 unfold gB aU wT
 by_cases h:q<1
 ·have:q=0:=by omega
  subst this
  rw[show(bg aK 0).clock=bs [97]from rfl]
  simp
 ·simp[h]
theorem O5 {s:Ns} (hs:it aK s):bk aK s (aU aK (bs [97]))=bk aK s wT:=by
 have e:aK.U.length=1:=rfl
 rw[uL hs,e,Mb,← e,← uL hs]
theorem Mc (s:Ns):jY aK s (aU aK (bs [97])) aK.U.length=jY aK s wT aK.U.length:=by
 unfold jY
 refine List.filter_congr fun q hq=>?_
 have:q=0:=by have:q<1:=SD.1 hq;omega
 subst this
 have:=congrFun Mb 0
 unfold gB at this
 have h2:aU aK (bs [97]) 0=wT 0:=by simpa using this
 unfold av
 rw[h2]
theorem O6 {s:Ns} (hs:it aK s):iz aK s [aU aK (bs [97]),aU aK (bs [97])]=iz aK s [wT,wT]:=by
 simp only[iz]
 rw[Mc,O5 hs,Mc]
theorem Md:nz aK [[1,2,2],[]]:=bM.1 (by decide)
theorem QH:iA aK [[1,2,2],[]] [bs [97],bs [97]]=([[1,2,2],[1,3]],[2],0):=by
 rw[ia (bM.2 Md) (by decide)]
 have h:Dy aK [[1,2,2],[]] [bs [97],bs [97]]=cC aK (u0 aK [[1,2,2],[]]) (iz aK (G9 aK [[1,2,2],[]]) [wT,wT]):=by
  rw[← O6 (L3 c4 Md)];rfl
 rw[h]
 decide
theorem QI:(fy aK [[4],[]] 1).2.2=1:=by decide
theorem QJ:(fy aK [[1,2,2],[]] 101).2.2=1:=by decide
theorem O7 {n:Nat} (h:n≤62):af (n:Int)=((2^n-1:Nat):Int):=by
 rw[cY (by omega) (by omega),SQ]
 have h1:1≤(2:Nat)^n:=Nat.one_le_two_pow
 have e:((2:Int)^n)=((2^n:Nat):Int):=by simp
 rw[e]
 omega
theorem Lc {n z i:Nat} (hz:z<2^n):(2^n-1-z).testBit i=(decide (i<n)&&!z.testBit i):=by
 rw[show 2^n-1-z=2^n-(z+1)from by omega,Nat.testBit_two_pow_sub_succ hz]
def fb (ws:List Int) (n:Nat):Bool:=decide (ws.length=n)&&ws.all aq&&(decide (n<2)||decide (ws.getD (n-1) 0=ws.getD (n-2) 0))
theorem Ld {ws:List Int} (h:∀i,i<ws.length→aq (ws.getD i 0)=true):ws.all aq=true:=by
 rw[R7]
 intro x hx
 obtain⟨i,hi,rfl⟩:=Tf hx
 have:=h i hi
 simpa[List.getD,RB hi]using this
theorem bq {ws:List Int} {n:Nat} (h:fb ws n=true):ws.length=n∧ws.all aq=true∧(n<2∨ws.getD (n-1) 0=ws.getD (n-2) 0):=by
 unfold fb at h
 simp only[RA,Sh,Sy]at h
 exact⟨h.1.1,h.1.2,h.2⟩
theorem cX {ws:List Int} {n i:Nat} (h:fb ws n=true) (hi:i<n):aq (ws.getD i 0)=true:=by
 obtain⟨h1,h2,_⟩:=bq h
 exact aW.2 (aA h2 (by omega))
theorem gE {ws:List Int} (h:fb ws 2=true):ws.getD 1 0=ws.getD 0 0:=by
 rcases(bq h).2.2 with h | h
 ·omega
 ·exact h
theorem gF {op:Int} {ws:List Int} {k w Wt:Int} (h:hC op ws k w=true) (e:bi op ws k w=Wt):Wt=b5 op ws k w∧(0:Int)=jS op ws k w:=by
 unfold b5 jS;rw[h,e];exact⟨rfl,rfl⟩
theorem tT {op:Int} {ws:List Int} {k w:Int} {n:Nat} (ha:bo op=n) (h1:ws.length=n) (h2:ws.all aq=true) (h3:aq (bi op ws k w)=true):hC op ws k w=true:=by
 unfold hC;rw[ha,RX (by omega),h2,h3];rfl
theorem nP {op:Int} {ws:List Int} {k w:Int} {n:Nat} (ha:bo op=n) (h:hC op ws k w=true):ws.length=n∧ws.all aq=true∧1≤bi op ws k w∧bi op ws k w≤8:=by
 obtain⟨h1,h2,h3⟩:=jT h
 rw[ha]at h1
 have:=aW.1 h3
 exact⟨by omega,h2,this.1,this.2⟩
theorem wH {op:Int} {ws:List Int} {k w:Int} (h:hC op ws k w=true):op=1∨op=2∨op=3∨op=4∨op=5∨op=6∨op=7∨op=8∨op=9∨op=10∨op=11∨op=12∨op=13:=by
 rcases Decidable.em (op<1∨13<op)with hh | hh
 ·rw[KC hh]at h;cases h
 ·omega
theorem wI {ws:List Int} (h:ws.getD 1 0=ws.getD 0 0):bI ws=ws.getD 0 0:=by
 unfold bI;rw[RE (by rw[h];simp)]
theorem yl {ws:List Int} (h:1≤bI ws):ws.getD 1 0=ws.getD 0 0:=by
 unfold bI at h;split at h
 ·omega
 ·rename_i hn;exact(Decidable.not_not.1 hn).symm
theorem kG {ws:List Int} {n:Nat} (h1:ws.length=n) (h2:ws.all aq=true) (h3:n<2∨ws.getD (n-1) 0=ws.getD (n-2) 0):fb ws n=true:=by
 unfold fb;rw[RX h1,h2]
 rcases h3 with h3 | h3
 ·rw[RX h3];rfl
 ·rw[RX h3];simp
theorem GX {ws:List Int} {k w:Int}:hC 1 ws k w=true↔(ws.length=0∧aq w=true∧0≤k∧k≤af w):=by
 have e:bi 1 ws k w=(if aq w=false∨k<0∨af w<k then 0 else w):=rfl
 constructor
 ·intro h
  obtain⟨h1,h2,h3,h4⟩:=nP (n:=0) (by decide) h
  rw[e]at h3
  split at h3
  ·omega
  ·rename_i hn
   simp only[not_or,Bool.not_eq_false]at hn
   exact⟨h1,hn.1,by omega,by omega⟩
 ·intro ⟨h1,h2,h3,h4⟩
  refine tT (n:=0) (by decide) h1 (by rw[So h1];rfl) ?_
  rw[e,RE (by rw[h2];simp;omega)]
  exact h2
theorem JG {ws:List Int} {k w:Int} (h2:aq w=true) (h3:0≤k) (h4:k≤af w):bi 1 ws k w=w:=by
 show(if aq w=false∨k<0∨af w<k then 0 else w)=w
 rw[RE (by rw[h2];simp;omega)]
theorem Lf {ws:List Int} {k w:Int}:hC 2 ws k w=true↔fb ws 1=true:=by
 constructor
 ·intro h
  obtain⟨h1,h2,h3,h4⟩:=nP (n:=1) (by decide) h
  exact kG h1 h2 (.inl (by omega))
 ·intro h
  obtain⟨h1,h2,_⟩:=bq h
  exact tT (n:=1) (by decide) h1 h2 (cX h (by omega))
theorem DK {op:Int} (VL:3≤op∧op≤7) {ws:List Int} {k w:Int}:bi op ws k w=bI ws:=by
 have:op=3∨op=4∨op=5∨op=6∨op=7:=by omega
 rcases this with rfl | rfl | rfl | rfl | rfl<;>rfl
theorem An {op:Int} (VL:3≤op∧op≤9):bo op=(2:Nat):=by
 have:op=3∨op=4∨op=5∨op=6∨op=7∨op=8∨op=9:=by omega
 rcases this with rfl | rfl | rfl | rfl | rfl | rfl | rfl<;>decide
theorem gO {op:Int} (VL:3≤op∧op≤7) {ws:List Int} {k w:Int}:hC op ws k w=true↔fb ws 2=true:=by
 constructor
 ·intro h
  obtain⟨h1,h2,h3,h4⟩:=nP (n:=2) (An (by omega)) h
  rw[DK VL]at h3
  exact kG h1 h2 (.inr (yl h3))
 ·intro h
  obtain⟨h1,h2,h3⟩:=bq h
  refine tT (n:=2) (An (by omega)) h1 h2 ?_
  rw[DK VL,wI (by rcases h3 with h3 | h3;omega;exact h3)]
  exact cX h (by omega)
theorem rX {op:Int} (VL:3≤op∧op≤7) {ws:List Int} {k w:Int} (h:fb ws 2=true):bi op ws k w=ws.getD 0 0:=by
 obtain⟨h1,h2,h3⟩:=bq h
 rw[DK VL,wI (by rcases h3 with h3 | h3;omega;exact h3)]
theorem JH {op:Int} (VL:op=8∨op=9) {ws:List Int} {k w:Int}:bi op ws k w=min (bI ws) 1:=by
 rcases VL with rfl | rfl<;>rfl
theorem Ao {op:Int} (VL:op=8∨op=9) {ws:List Int} {k w:Int} (h:fb ws 2=true):bi op ws k w=1:=by
 obtain⟨h1,h2,h3⟩:=bq h
 have:=aW.1 (cX h (i:=0) (by omega))
 rw[JH VL,wI (by rcases h3 with h3 | h3;omega;exact h3)]
 omega
theorem uX {op:Int} (VL:op=8∨op=9) {ws:List Int} {k w:Int}:hC op ws k w=true↔fb ws 2=true:=by
 constructor
 ·intro h
  obtain⟨h1,h2,h3,h4⟩:=nP (n:=2) (An (by omega)) h
  rw[JH VL]at h3
  exact kG h1 h2 (.inr (yl (by omega)))
 ·intro h
  obtain⟨h1,h2,h3⟩:=bq h
  refine tT (n:=2) (An (by omega)) h1 h2 ?_
  rw[Ao VL h]
  decide
theorem FC {ws:List Int} {k w:Int} (h:fb ws 3=true) (h0:ws.getD 0 0=1):bi 10 ws k w=ws.getD 1 0:=by
 obtain⟨h1,h2,h3⟩:=bq h
 show(if ws.getD 0 0≠1∨ws.getD 1 0≠ws.getD 2 0 then (0:Int)else ws.getD 1 0)=_
 have h3:ws.getD 2 0=ws.getD 1 0:=by rcases h3 with h3 | h3;omega;exact h3
 rw[RE (by rw[h0,h3];simp)]
theorem Lg {ws:List Int} {k w:Int}:hC 10 ws k w=true↔(fb ws 3=true∧ws.getD 0 0=1):=by
 have e:bi 10 ws k w=(if ws.getD 0 0≠1∨ws.getD 1 0≠ws.getD 2 0 then 0 else ws.getD 1 0):=rfl
 constructor
 ·intro h
  obtain⟨h1,h2,h3,h4⟩:=nP (n:=3) (by decide) h
  rw[e]at h3
  split at h3
  ·omega
  ·rename_i hn
   simp only[not_or,ne_eq,Decidable.not_not]at hn
   exact⟨kG h1 h2 (.inr hn.2.symm),hn.1⟩
 ·intro ⟨h,h0⟩
  obtain⟨h1,h2,h3⟩:=bq h
  refine tT (n:=3) (by decide) h1 h2 ?_
  rw[FC h h0]
  exact cX h (by omega)
theorem Lh {ws:List Int} {k w:Int}:hC 11 ws k w=true↔(ws.length=2∧aq (ws.getD 0 0)=true∧aq (ws.getD 1 0)=true∧aq (ws.getD 0 0+ws.getD 1 0)=true):=by
 constructor
 ·intro h
  obtain⟨h1,h2,h3,h4⟩:=nP (n:=2) (by decide) h
  exact⟨h1,aW.2 (aA h2 (by omega)),aW.2 (aA h2 (by omega)),aW.2 ⟨h3,h4⟩⟩
 ·intro ⟨h1,h2,h3,h4⟩
  refine tT (n:=2) (by decide) h1 (Ld (fun i hi=>?_)) h4
  match i,hi with
  | 0,_=>exact h2
  | 1,_=>exact h3
  | i+2,hi=>omega
theorem ym {ws:List Int} {k w:Int} (h2:aq w=true) (h3:0≤k) (h4:k≤ws.getD 0 0-w):bi 12 ws k w=w:=by
 show(if aq w=false∨k<0∨ws.getD 0 0-w<k then 0 else w)=w
 rw[RE (by rintro(h | h | h)<;>first | omega | (rw[h2]at h;cases h))]
theorem GY {ws:List Int} {k w:Int}:hC 12 ws k w=true↔(fb ws 1=true∧aq w=true∧0≤k∧k≤ws.getD 0 0-w):=by
 have e:bi 12 ws k w=(if aq w=false∨k<0∨ws.getD 0 0-w<k then 0 else w):=rfl
 constructor
 ·intro h
  obtain⟨h1,h2,h3,h4⟩:=nP (n:=1) (by decide) h
  rw[e]at h3
  split at h3
  ·omega
  ·rename_i hn
   simp only[not_or,Bool.not_eq_false]at hn
   exact⟨kG h1 h2 (.inl (by omega)),hn.1,by omega,by omega⟩
 ·intro ⟨h,h2,h3,h4⟩
  obtain⟨h1,hf,_⟩:=bq h
  refine tT (n:=1) (by decide) h1 hf ?_
  rw[ym h2 h3 h4]
  exact h2
theorem FD {ws:List Int} {k w:Int} (h:ws.getD 0 0≤w):bi 13 ws k w=w:=by
 show(if w<ws.getD 0 0 then 0 else w)=w
 rw[RE (by omega)]
theorem Li {ws:List Int} {k w:Int}:hC 13 ws k w=true↔(fb ws 1=true∧ws.getD 0 0≤w∧aq w=true):=by
 have e:bi 13 ws k w=(if w<ws.getD 0 0 then 0 else w):=rfl
 constructor
 ·intro h
  obtain⟨h1,h2,h3,h4⟩:=nP (n:=1) (by decide) h
  have h5:=aW.2 ⟨h3,h4⟩
  rw[e]at h3 h5
  split at h3
  ·omega
  ·rename_i hn
   rw[RE hn]at h5
   exact⟨kG h1 h2 (.inl (by omega)),by omega,h5⟩
 ·intro ⟨h,h2,h3⟩
  obtain⟨h1,hf,_⟩:=bq h
  refine tT (n:=1) (by decide) h1 hf ?_
  rw[FD h2]
  exact h3
theorem Lj {x w:Int} (hw:0≤w∧w≤8) (hx:0≤x∧x≤af w):af w-x=((x.toNat ^^^ (af w).toNat:Nat):Int):=by
 obtain⟨n,rfl⟩:=Sz hw.1
 obtain⟨y,rfl⟩:=Sz hx.1
 have hp:=Nat.two_pow_pos n
 rw[O7 (by omega)]at hx ⊢
 have hy:y<2^n:=by omega
 rw[SQ,SQ]
 have e:y ^^^ (2^n-1)=2^n-1-y:=by
  refine Nat.eq_of_testBit_eq (fun i=>?_)
  rw[Nat.testBit_xor,Nat.testBit_two_pow_sub_one,Lc hy]
  by_cases hi:i<n
  ·simp[hi]
  ·have:y.testBit i=false:=Nat.testBit_lt_two_pow (SA hy (SX (by omega) (by omega)))
   simp[hi,this]
 rw[e]
 omega
theorem B1 {s w:Int} (hw:0≤w∧w≤8) (hs:0≤s):Int.tmod s (af w+1)=s%2^w.toNat:=by
 rw[SU hs,cY (by omega) (by omega)]
 congr 1
 omega
theorem Lk {a b w:Int} (hw:0≤w∧w≤8) (hs:0≤a-b+af w+1):Int.tmod (a-b+af w+1) (af w+1)=(a-b)%2^w.toNat:=by
 rw[B1 hw hs,cY (by omega) (by omega),show a-b+(2^w.toNat-1)+1=a-b+2^w.toNat from by omega,Int.add_emod_right]
abbrev ew (n:Int):Ct:=⟨113,[(i6 n)],false,(dB (aq n))⟩
theorem ey (n:Int):CC (ew n):=by
 refine ah.vc (V:=TT 1 (CS (n≥1) (TT 2 ((True∧(decide (n≥1))=true)∧TT 5 ((decide (n≤8))=(aq n)∧True))) (TT 2 ((True∧(decide (n≥1))=false)∧TT 5 (false=(aq n)∧True))))) (.s 1 (n≥1) (.w 1 [(2,.val (dB true))]<|.e) (.w 1 [(2,.val (dB false))]<|.e)) Tryz.func113 rfl rfl rfl (by kernel_rfl) ?_
 refine tt ⟨fun T7=>?_,fun T7=>?_⟩
 · refine tt ⟨(vT T7),tt ⟨?_,oK⟩⟩
   unfold aq;simp;omega
 · refine tt ⟨(vF T7),tt ⟨?_,oK⟩⟩
   unfold aq;simp;omega
abbrev DL (w:Int):Ct:=⟨37,[(i6 w)],false,(i6 (af w))⟩
theorem jr (w:Int):CC (DL w):=by
 refine ah.vc (V:=TT 1 (CS (w<0) (TT 2 ((True∧(decide (w<0))=true)∧TT 5 ((0:Int)=(af w)∧True))) (TT 2 ((True∧(decide (w<0))=false)∧TT 3 (CD (w>62) (TT 2 ((0:Int)=(af w)∧True)) (TT 1 ((True∧IntKind.u64.wrap w=w)∧SH w∧W6 ((2^w.toNat)-1)∧TT 2 (((2^w.toNat)-1)=(af w)∧True)))))))) (.s 1 (w<0) (.w 1 [(2,.val (dB true))]<|.e) (.w 1 [(2,.val (dB false))]<|.b 8 (.e) (.w 3 [(1,.val (dI .u64 w)),(2,.val (i6 (2^w.toNat))),(3,.val (i6 ((2^w.toNat)-1)))]<|.e))) Tryz.func37 rfl rfl rfl (by kernel_rfl) ?_
 refine tt ⟨fun T7=>?_,fun T7=>?_⟩
 · refine tt ⟨(vT T7),tt ⟨?_,oK⟩⟩
   unfold af;first | exact(RH (by omega)).symm | exact(RE (by omega)).symm
 · refine tt ⟨(vF T7),tt (cd (fun Z5=>?_) (fun Z5=>?_))⟩
   · refine tt ⟨?_,oK⟩
     unfold af;first | exact(RH (by omega)).symm | exact(RE (by omega)).symm
   · refine tt ⟨⟨oK,Kf rfl om om⟩,⟨sh,⟨(w6 (by have:=pJ (n:=w.toNat) (by omega);omega) (by have:=pJ (n:=w.toNat) (by omega);omega)),tt ⟨?_,oK⟩⟩⟩⟩
     unfold af;first | exact(RH (by omega)).symm | exact(RE (by omega)).symm
abbrev JI (b:Bool):Ct:=⟨120,[(dB b)],false,(i6 (if b=true then 1 else 0))⟩
theorem B2 (b:Bool):CC (JI b):=by
 refine ah.vc (V:=TT 2 (CB (b) (TT 2 ((1:Int)=(if b=true then 1 else 0)∧True)) (TT 2 ((0:Int)=(if b=true then 1 else 0)∧True)))) (.b 3 (.e) (.e)) Tryz.func120 rfl rfl rfl (by kernel_rfl) ?_
 refine tt ⟨fun Zs=>?_,fun Zs=>?_⟩
 · refine tt ⟨?_,oK⟩
   first | exact(RH Zs).symm | exact(RE (by rw[Zs];simp)).symm
 · refine tt ⟨?_,oK⟩
   first | exact(RH Zs).symm | exact(RE (by rw[Zs];simp)).symm
abbrev js (ws:List Int) (n:Nat):Ct:=⟨114,[(LI ws),(i6 (n:Int))],false,(dB true)⟩
abbrev o9 (ws:List Int) (n:Nat):Lp (Nat):=io [0,1,5] 0 (fun (i:Nat)=>⟨[(0,(LI ws)),(1,(i6 (n:Int))),(5,(i6 (i:Int)))],[]⟩) (fun (i:Nat)=>i≤n) (fun (i:Nat)=>n-i)
theorem dZ (ws:List Int) (n:Nat) (h:fb ws n=true) (hn:n≤3):CC (js ws n):=by
 have hl:=(bq h).1
 refine ah.vc (V:=TT 5 ((!decide ((ws.length:Int)=(n:Int)))=false∧TT 1 (GO (o9 ws n) 0 (∀i,(o9 ws n).inv i→TT 3 (CD ((i:Int)<(n:Int)) (TT 2 (IX (i:Int) ws.length∧TT 1 (CC (ew (ws.getD i 0))∧TT 1 ((!(aq (ws.getD i 0)))=false∧TT 1 (W6 ((i+1:Nat):Int)∧TT 1 (AG (o9 ws n) i (i+1))))))) (CS ((n:Int)<2) (TT 2 ((True∧(decide ((n:Int)<2))=true)∧TT 3 (true=true∧True))) (TT 2 ((True∧(decide ((n:Int)<2))=false)∧TT 2 ((True∧(IntKind.wrap .i64 ((n:Int)-1))=((n-1:Nat):Int))∧IX ((n-1:Nat):Int) ws.length∧TT 3 ((True∧(IntKind.wrap .i64 ((n:Int)-2))=((n-2:Nat):Int))∧IX ((n-2:Nat):Int) ws.length∧TT 5 (((ws.getD (n-1) 0)==(ws.getD (n-2) 0))=true∧True))))))))))) (.u 9 (.l (o9 ws n) 0 (fun i=>.b 12 (.w 6 [(4,(ew (ws.getD i 0)).O)]<|.u 20 (.w 5 [(1,.val (i6 ((i+1:Nat):Int)))]<|.e)) (.s 8 ((n:Int)<2) (.w 8 [(2,.val (dB true))]<|.e) (.w 8 [(2,.val (dB false)),(5,.val (i6 ((n-1:Nat):Int))),(10,.val (i6 ((n-2:Nat):Int)))]<|.e))))) Tryz.func114 rfl rfl rfl (by kernel_rfl) ?_
 refine tt ⟨(PP (by omega)),tt ⟨rfl,(by omega),?_⟩⟩
 intro i I'
 have hi:=I'
 refine tt (cd (fun VQ=>?_) (fun VQ=>?_))
 · refine tt ⟨ix,tt ⟨(ey (ws.getD i 0)),tt ⟨(ze (cX h (by omega))),tt ⟨w6,tt ⟨(i+1),rfl,(?_:(i+1)≤n),(?_:n-(i+1)<n-i)⟩⟩⟩⟩⟩
   · omega
   · omega
 · refine⟨fun T7=>?_,fun T7=>?_⟩
   · exact tt ⟨(vT T7),tt ⟨rfl,oK⟩⟩
   · refine tt ⟨(vF T7),tt ⟨⟨oK,(G6 (by omega) (by omega) (by omega))⟩,⟨ix,tt ⟨⟨oK,(G6 (by omega) (by omega) (by omega))⟩,⟨ix,tt ⟨?_,oK⟩⟩⟩⟩⟩⟩
     have h3:=(bq h).2.2
     simpa using(h3.resolve_left (by omega))
abbrev JJ (op:Int) (ws:List Int) (k w:Int):Ct:=⟨100,[(i6 op),(LI ws),(.agg [(i6 k),(i6 w)])],false,(.agg [(i6 (b5 op ws k w)),(i6 0)])⟩
theorem wJ (op:Int) (ws:List Int) (k w:Int) (h:hC op ws k w=true):CC (JJ op ws k w):=by
 have hr:=wH h
 have ZE:ws.length≤3:=by
   have h1:=(jT h).1
   have h2:bo op≤3:=by unfold bo;split<;>(try split)<;>(try split)<;>(try split)<;>omega
   omega
 refine ah.vc (V:=TT 2 (((0≤(0:Int)∧0<(2:Int))∧True)∧TT 1 (((0≤(1:Int)∧1<(2:Int))∧True)∧TT 7 (CD (op=1) (TT 3 ((True∧(decide ((ws.length:Int)=0))=true)∧TT 1 (CC (ew w)∧TT 1 ((True∧(aq w)=true)∧TT 3 ((True∧(decide (k≥0))=true)∧TT 2 (CC (DL w)∧TT 2 ((decide (k≤(af w)))=true∧TT 3 (CC (ew w)∧TT 1 ((!(aq w))=false∧TT 4 (((w=(b5 op ws k w)∧(0:Int)=0∧True))∧((True∧True∧True)))))))))))) (TT 2 (CD (op=2) (TT 1 (CC (js ws 1)∧TT 1 (IX 0 ws.length∧TT 3 (CC (ew (ws.getD 0 0))∧TT 1 ((!(aq (ws.getD 0 0)))=false∧TT 4 ((((ws.getD 0 0)=(b5 op ws k w)∧(0:Int)=0∧True))∧((True∧True∧True)))))))) (TT 2 (CD (op=3) ((decide (op=3))=true∧TT 1 (CC (js ws 2)∧TT 1 (IX 0 ws.length∧TT 3 (CC (ew (ws.getD 0 0))∧TT 1 ((!(aq (ws.getD 0 0)))=false∧TT 4 ((((ws.getD 0 0)=(b5 op ws k w)∧(0:Int)=0∧True))∧((True∧True∧True)))))))) (TT 2 (CD (op=4) ((decide (op=4))=true∧TT 1 (CC (js ws 2)∧TT 1 (IX 0 ws.length∧TT 3 (CC (ew (ws.getD 0 0))∧TT 1 ((!(aq (ws.getD 0 0)))=false∧TT 4 ((((ws.getD 0 0)=(b5 op ws k w)∧(0:Int)=0∧True))∧((True∧True∧True)))))))) (TT 2 (CD (op=5) ((decide (op=5))=true∧TT 1 (CC (js ws 2)∧TT 1 (IX 0 ws.length∧TT 3 (CC (ew (ws.getD 0 0))∧TT 1 ((!(aq (ws.getD 0 0)))=false∧TT 4 ((((ws.getD 0 0)=(b5 op ws k w)∧(0:Int)=0∧True))∧((True∧True∧True)))))))) (TT 2 (CD (op=6) ((decide (op=6))=true∧TT 1 (CC (js ws 2)∧TT 1 (IX 0 ws.length∧TT 3 (CC (ew (ws.getD 0 0))∧TT 1 ((!(aq (ws.getD 0 0)))=false∧TT 4 ((((ws.getD 0 0)=(b5 op ws k w)∧(0:Int)=0∧True))∧((True∧True∧True)))))))) (TT 2 (CD (op=7) (TT 1 (CC (js ws 2)∧TT 1 (IX 0 ws.length∧TT 3 (CC (ew (ws.getD 0 0))∧TT 1 ((!(aq (ws.getD 0 0)))=false∧TT 4 ((((ws.getD 0 0)=(b5 op ws k w)∧(0:Int)=0∧True))∧((True∧True∧True)))))))) (TT 2 (CD (op=8) ((decide (op=8))=true∧TT 1 (CC (js ws 2)∧TT 2 (CC (ew 1)∧TT 1 ((!(aq 1))=false∧TT 4 ((((1:Int)=(b5 op ws k w)∧(0:Int)=0∧True))∧((True∧True∧True))))))) (TT 2 (CD (op=9) (TT 1 (CC (js ws 2)∧TT 2 (CC (ew 1)∧TT 1 ((!(aq 1))=false∧TT 4 ((((1:Int)=(b5 op ws k w)∧(0:Int)=0∧True))∧((True∧True∧True))))))) (TT 2 (CD (op=10) (TT 1 (CC (js ws 3)∧TT 2 (IX 0 ws.length∧TT 3 ((decide ((ws.getD 0 0)=1))=true∧TT 1 (IX 1 ws.length∧TT 3 (CC (ew (ws.getD 1 0))∧TT 1 ((!(aq (ws.getD 1 0)))=false∧TT 4 ((((ws.getD 1 0)=(b5 op ws k w)∧(0:Int)=0∧True))∧((True∧True∧True)))))))))) (TT 2 (CD (op=11) (TT 3 ((True∧(decide ((ws.length:Int)=2))=true)∧TT 1 (IX 0 ws.length∧TT 1 (CC (ew (ws.getD 0 0))∧TT 1 ((True∧(aq (ws.getD 0 0))=true)∧TT 1 (IX 1 ws.length∧TT 1 (CC (ew (ws.getD 1 0))∧TT 1 ((aq (ws.getD 1 0))=true∧TT 1 (IX 0 ws.length∧TT 2 (IX 1 ws.length∧TT 1 (W6 ((ws.getD 0 0)+(ws.getD 1 0))∧TT 2 (CC (ew ((ws.getD 0 0)+(ws.getD 1 0)))∧TT 1 ((!(aq ((ws.getD 0 0)+(ws.getD 1 0))))=false∧TT 4 (((((ws.getD 0 0)+(ws.getD 1 0))=(b5 op ws k w)∧(0:Int)=0∧True))∧((True∧True∧True)))))))))))))))) (TT 2 (CD (op=12) (TT 1 (CC (js ws 1)∧TT 2 (CC (ew w)∧TT 1 ((True∧(aq w)=true)∧TT 3 ((True∧(decide (k≥0))=true)∧TT 2 (IX 0 ws.length∧TT 2 (W6 ((ws.getD 0 0)-w)∧TT 2 ((decide (k≤((ws.getD 0 0)-w)))=true∧TT 3 (CC (ew w)∧TT 1 ((!(aq w))=false∧TT 4 (((w=(b5 op ws k w)∧(0:Int)=0∧True))∧((True∧True∧True))))))))))))) (TT 2 ((decide (op=13))=true∧TT 1 (CC (js ws 1)∧TT 3 (IX 0 ws.length∧TT 3 ((decide (w≥(ws.getD 0 0)))=true∧TT 3 (CC (ew w)∧TT 1 ((!(aq w))=false∧TT 4 (((w=(b5 op ws k w)∧(0:Int)=0∧True))∧((True∧True∧True)))))))))))))))))))))))))))))))))))) (.b 15 (.w 4 [(3,.val (dB true)),(5,(ew w).O),(7,.val (dB true)),(11,.val (dB true)),(14,(DL w).O)]<|.t 33 (.w 32 [(1,(ew w).O)]<|.u 131 (.e))) (.b 35 (.w 7 [(1,(js ws 1).O)]<|.w 32 [(1,(ew (ws.getD 0 0)).O)]<|.u 131 (.e)) (.b 42 (.t 42 (.w 14 [(1,(js ws 2).O)]<|.w 32 [(1,(ew (ws.getD 0 0)).O)]<|.u 131 (.e))) (.b 42 (.t 42 (.w 14 [(1,(js ws 2).O)]<|.w 32 [(1,(ew (ws.getD 0 0)).O)]<|.u 131 (.e))) (.b 42 (.t 42 (.w 14 [(1,(js ws 2).O)]<|.w 32 [(1,(ew (ws.getD 0 0)).O)]<|.u 131 (.e))) (.b 42 (.t 42 (.w 14 [(1,(js ws 2).O)]<|.w 32 [(1,(ew (ws.getD 0 0)).O)]<|.u 131 (.e))) (.b 42 (.w 14 [(1,(js ws 2).O)]<|.w 32 [(1,(ew (ws.getD 0 0)).O)]<|.u 131 (.e)) (.b 53 (.t 53 (.w 18 [(1,(js ws 2).O)]<|.w 32 [(1,(ew 1).O)]<|.u 131 (.e))) (.b 53 (.w 18 [(1,(js ws 2).O)]<|.w 32 [(1,(ew 1).O)]<|.u 131 (.e)) (.b 58 (.w 21 [(1,(js ws 3).O)]<|.t 67 (.w 32 [(1,(ew (ws.getD 1 0)).O)]<|.u 131 (.e))) (.b 71 (.w 24 [(3,.val (dB true)),(7,(ew (ws.getD 0 0)).O),(9,.val (dB true)),(13,(ew (ws.getD 1 0)).O)]<|.t 87 (.w 25 [(6,.val (i6 ((ws.getD 0 0)+(ws.getD 1 0))))]<|.w 32 [(1,(ew ((ws.getD 0 0)+(ws.getD 1 0))).O)]<|.u 131 (.e))) (.b 95 (.w 27 [(1,(js ws 1).O),(4,(ew w).O),(6,.val (dB true)),(10,.val (dB true)),(16,.val (i6 ((ws.getD 0 0)-w)))]<|.t 115 (.w 32 [(1,(ew w).O)]<|.u 131 (.e))) (.t 117 (.w 30 [(1,(js ws 1).O)]<|.t 127 (.w 32 [(1,(ew w).O)]<|.u 131 (.e)))))))))))))))) Tryz.func100 rfl rfl rfl (by kernel_rfl) ?_
 refine tt ⟨⟨by omega,oK⟩,tt ⟨⟨by omega,oK⟩,tt (cd (fun UP=>?_) (fun UP=>?_))⟩⟩
 · obtain⟨q1,q2,q3,q4⟩:=GX.1 (by rw[UP]at h;exact h)
   have hv:bi op ws k w=w:=(by rw[UP];first | done | exact JG q2 q3 q4)
   have hw:=(gF h hv).1
   have UF:=q2
   refine tt ⟨(vT (by omega)),tt ⟨(ey w),tt ⟨(bT q2),tt ⟨(vT (by omega)),tt ⟨(jr w),tt ⟨(RX (by omega)),tt ⟨(ey w),tt ⟨(ze UF),tt ⟨⟨?_,rfl,oK⟩,⟨oK,oK,oK⟩⟩⟩⟩⟩⟩⟩⟩⟩⟩
   exact hw
 · refine tt (cd (fun UQ=>?_) (fun UQ=>?_))
   · have hq:=Lf.1 (by rw[UQ]at h;exact h)
     have hv:bi op ws k w=ws.getD 0 0:=(by rw[UQ];first | done | exact rfl)
     have hw:=(gF h hv).1
     have UF:=cX hq (i:=0) (by omega)
     have Wp:=(bq hq).1
     refine tt ⟨(dZ ws 1 hq om),tt ⟨ix,tt ⟨(ey (ws.getD 0 0)),tt ⟨(ze UF),tt ⟨⟨?_,rfl,oK⟩,⟨oK,oK,oK⟩⟩⟩⟩⟩⟩
     exact hw
   · refine tt (cd (fun VU=>?_) (fun VU=>?_))
     · have hq:=(gO (by omega)).1 (h)
       have hv:bi op ws k w=ws.getD 0 0:=(by first | done | exact rX (by omega) hq)
       have hw:=(gF h hv).1
       have UF:=cX hq (i:=0) (by omega)
       have Wp:=(bq hq).1
       refine⟨(RX VU),tt ⟨(dZ ws 2 hq om),tt ⟨ix,tt ⟨(ey (ws.getD 0 0)),tt ⟨(ze UF),tt ⟨⟨?_,rfl,oK⟩,⟨oK,oK,oK⟩⟩⟩⟩⟩⟩⟩
       exact hw
     · refine tt (cd (fun VU=>?_) (fun VU=>?_))
       · have hq:=(gO (by omega)).1 (h)
         have hv:bi op ws k w=ws.getD 0 0:=(by first | done | exact rX (by omega) hq)
         have hw:=(gF h hv).1
         have UF:=cX hq (i:=0) (by omega)
         have Wp:=(bq hq).1
         refine⟨(RX VU),tt ⟨(dZ ws 2 hq om),tt ⟨ix,tt ⟨(ey (ws.getD 0 0)),tt ⟨(ze UF),tt ⟨⟨?_,rfl,oK⟩,⟨oK,oK,oK⟩⟩⟩⟩⟩⟩⟩
         exact hw
       · refine tt (cd (fun VU=>?_) (fun VU=>?_))
         · have hq:=(gO (by omega)).1 (h)
           have hv:bi op ws k w=ws.getD 0 0:=(by first | done | exact rX (by omega) hq)
           have hw:=(gF h hv).1
           have UF:=cX hq (i:=0) (by omega)
           have Wp:=(bq hq).1
           refine⟨(RX VU),tt ⟨(dZ ws 2 hq om),tt ⟨ix,tt ⟨(ey (ws.getD 0 0)),tt ⟨(ze UF),tt ⟨⟨?_,rfl,oK⟩,⟨oK,oK,oK⟩⟩⟩⟩⟩⟩⟩
           exact hw
         · refine tt (cd (fun VU=>?_) (fun VU=>?_))
           · have hq:=(gO (by omega)).1 (h)
             have hv:bi op ws k w=ws.getD 0 0:=(by first | done | exact rX (by omega) hq)
             have hw:=(gF h hv).1
             have UF:=cX hq (i:=0) (by omega)
             have Wp:=(bq hq).1
             refine⟨(RX VU),tt ⟨(dZ ws 2 hq om),tt ⟨ix,tt ⟨(ey (ws.getD 0 0)),tt ⟨(ze UF),tt ⟨⟨?_,rfl,oK⟩,⟨oK,oK,oK⟩⟩⟩⟩⟩⟩⟩
             exact hw
           · refine tt (cd (fun VU=>?_) (fun VU=>?_))
             · have hq:=(gO (by omega)).1 (h)
               have hv:bi op ws k w=ws.getD 0 0:=(by first | done | exact rX (by omega) hq)
               have hw:=(gF h hv).1
               have UF:=cX hq (i:=0) (by omega)
               have Wp:=(bq hq).1
               refine tt ⟨(dZ ws 2 hq om),tt ⟨ix,tt ⟨(ey (ws.getD 0 0)),tt ⟨(ze UF),tt ⟨⟨?_,rfl,oK⟩,⟨oK,oK,oK⟩⟩⟩⟩⟩⟩
               exact hw
             · refine tt (cd (fun Yu=>?_) (fun Yu=>?_))
               · have hq:=(uX (by omega)).1 (h)
                 have hv:bi op ws k w=1:=(by first | done | exact Ao (by omega) hq)
                 have hw:=(gF h hv).1
                 have UF:=(by decide:aq 1=true)
                 have Wp:=(bq hq).1
                 refine⟨(RX Yu),tt ⟨(dZ ws 2 hq om),tt ⟨(ey 1),tt ⟨(ze UF),tt ⟨⟨?_,rfl,oK⟩,⟨oK,oK,oK⟩⟩⟩⟩⟩⟩
                 exact hw
               · refine tt (cd (fun Yu=>?_) (fun Yu=>?_))
                 · have hq:=(uX (by omega)).1 (h)
                   have hv:bi op ws k w=1:=(by first | done | exact Ao (by omega) hq)
                   have hw:=(gF h hv).1
                   have UF:=(by decide:aq 1=true)
                   have Wp:=(bq hq).1
                   refine tt ⟨(dZ ws 2 hq om),tt ⟨(ey 1),tt ⟨(ze UF),tt ⟨⟨?_,rfl,oK⟩,⟨oK,oK,oK⟩⟩⟩⟩⟩
                   exact hw
                 · refine tt (cd (fun Wi=>?_) (fun Wi=>?_))
                   · obtain⟨hq,q2⟩:=Lg.1 (by rw[Wi]at h;exact h)
                     have hv:bi op ws k w=ws.getD 1 0:=(by rw[Wi];first | done | exact FC hq q2)
                     have hw:=(gF h hv).1
                     have UF:=cX hq (i:=1) (by omega)
                     have Wp:=(bq hq).1
                     refine tt ⟨(dZ ws 3 hq om),tt ⟨ix,tt ⟨(RX (by omega)),tt ⟨ix,tt ⟨(ey (ws.getD 1 0)),tt ⟨(ze UF),tt ⟨⟨?_,rfl,oK⟩,⟨oK,oK,oK⟩⟩⟩⟩⟩⟩⟩⟩
                     exact hw
                   · refine tt (cd (fun Xp=>?_) (fun Xp=>?_))
                     · obtain⟨q1,q2,q3,q4⟩:=Lh.1 (by rw[Xp]at h;exact h)
                       have hv:bi op ws k w=ws.getD 0 0+ws.getD 1 0:=(by rw[Xp];first | done | exact rfl)
                       have hw:=(gF h hv).1
                       have UF:=q4
                       have f0:=aW.1 q2;have f1:=aW.1 q3
                       refine tt ⟨(vT (by omega)),tt ⟨ix,tt ⟨(ey (ws.getD 0 0)),tt ⟨(bT q2),tt ⟨ix,tt ⟨(ey (ws.getD 1 0)),tt ⟨(Rn q3),tt ⟨ix,tt ⟨ix,tt ⟨w6,tt ⟨(ey ((ws.getD 0 0)+(ws.getD 1 0))),tt ⟨(ze UF),tt ⟨⟨?_,rfl,oK⟩,⟨oK,oK,oK⟩⟩⟩⟩⟩⟩⟩⟩⟩⟩⟩⟩⟩⟩
                       exact hw
                     · refine tt (cd (fun Zj=>?_) (fun Zj=>?_))
                       · obtain⟨hq,q2,q3,q4⟩:=GY.1 (by rw[Zj]at h;exact h)
                         have hv:bi op ws k w=w:=(by rw[Zj];first | done | exact ym q2 q3 q4)
                         have hw:=(gF h hv).1
                         have UF:=q2
                         have Wp:=(bq hq).1
                         have f0:=aW.1 (cX hq (i:=0) (by omega));have f1:=aW.1 q2
                         refine tt ⟨(dZ ws 1 hq om),tt ⟨(ey w),tt ⟨(bT q2),tt ⟨(vT (by omega)),tt ⟨ix,tt ⟨w6,tt ⟨(RX (by omega)),tt ⟨(ey w),tt ⟨(ze UF),tt ⟨⟨?_,rfl,oK⟩,⟨oK,oK,oK⟩⟩⟩⟩⟩⟩⟩⟩⟩⟩⟩
                         exact hw
                       · refine tt ⟨(RX (by omega)),?_⟩
                         have hc117:op=13:=by
                           rcases hr with g | g | g | g | g | g | g | g | g | g | g | g | g<;>first | exact g | contradiction
                         obtain⟨hq,q2,q3⟩:=Li.1 (by rw[hc117]at h;exact h)
                         have hv:bi op ws k w=w:=(by rw[hc117];first | done | exact FD q2)
                         have hw:=(gF h hv).1
                         have UF:=q3
                         have Wp:=(bq hq).1
                         refine tt ⟨(dZ ws 1 hq om),tt ⟨ix,tt ⟨(RX (by omega)),tt ⟨(ey w),tt ⟨(ze UF),tt ⟨⟨?_,rfl,oK⟩,⟨oK,oK,oK⟩⟩⟩⟩⟩⟩⟩
                         exact hw
abbrev JK (op:Int) (ws xs:List Int) (k w w1:Int):Ct:=⟨115,[(i6 op),(.agg [(i6 (ws.getD 0 0)),(i6 w1)]),(LI xs)],false,(i6 (je op ws xs k w))⟩
set_option maxHeartbeats 1600000 in
theorem B3 (op:Int) (ws xs:List Int) (k w w1:Int) (h:hC op ws k w=true) (hx:xs.length=ws.length) (hin:Bg ws xs=true) (hn:op≠1∧op≠12∧op≠13) (hw:op=11→w1=ws.getD 1 0):CC (JK op ws xs k w w1):=by
 have hr:=wH h
 obtain⟨hl,hf,-⟩:=jT h
 have f0:0<ws.length→1≤ws.getD 0 0∧ws.getD 0 0≤8:=fun h=>aA hf h
 have f1:1<ws.length→1≤ws.getD 1 0∧ws.getD 1 0≤8:=fun h=>aA hf h
 have f2:2<ws.length→1≤ws.getD 2 0∧ws.getD 2 0≤8:=fun h=>aA hf h
 have a0:0<ws.length→0≤xs.getD 0 0∧xs.getD 0 0≤af (ws.getD 0 0):=fun h=>a7 hin (by omega)
 have a1:1<ws.length→0≤xs.getD 1 0∧xs.getD 1 0≤af (ws.getD 1 0):=fun h=>a7 hin (by omega)
 have a2:2<ws.length→0≤xs.getD 2 0∧xs.getD 2 0≤af (ws.getD 2 0):=fun h=>a7 hin (by omega)
 have m0:0<ws.length→0≤af (ws.getD 0 0)∧af (ws.getD 0 0)≤255:=fun h=>az (by have:=f0 h;omega) (f0 h).2
 have m1:1<ws.length→0≤af (ws.getD 1 0)∧af (ws.getD 1 0)≤255:=fun h=>az (by have:=f1 h;omega) (f1 h).2
 have m2:2<ws.length→0≤af (ws.getD 2 0)∧af (ws.getD 2 0)≤255:=fun h=>az (by have:=f2 h;omega) (f2 h).2
 refine ah.vc (V:=TT 2 (((0≤(0:Int)∧0<(2:Int))∧True)∧TT 1 (CC (DL (ws.getD 0 0))∧TT 4 (CD (op=2) (TT 2 (IX 0 xs.length∧TT 1 (W6 ((af (ws.getD 0 0))-(xs.getD 0 0))∧TT 2 (((af (ws.getD 0 0))-(xs.getD 0 0))=(je op ws xs k w)∧True)))) (TT 2 (CD (op=3) (TT 1 (IX 0 xs.length∧TT 2 (IX 1 xs.length∧TT 1 ((True∧(IntKind.wrap .i64 (BitVec.ofInt (IntKind.i64).bits (xs.getD 0 0) &&& BitVec.ofInt (IntKind.i64).bits (xs.getD 1 0)).toNat)=(((xs.getD 0 0).toNat &&& (xs.getD 1 0).toNat:Nat):Int))∧TT 2 ((((xs.getD 0 0).toNat &&& (xs.getD 1 0).toNat:Nat):Int)=(je op ws xs k w)∧True))))) (TT 2 (CD (op=4) (TT 1 (IX 0 xs.length∧TT 2 (IX 1 xs.length∧TT 1 ((True∧(IntKind.wrap .i64 (BitVec.ofInt (IntKind.i64).bits (xs.getD 0 0) ||| BitVec.ofInt (IntKind.i64).bits (xs.getD 1 0)).toNat)=(((xs.getD 0 0).toNat ||| (xs.getD 1 0).toNat:Nat):Int))∧TT 2 ((((xs.getD 0 0).toNat ||| (xs.getD 1 0).toNat:Nat):Int)=(je op ws xs k w)∧True))))) (TT 2 (CD (op=5) (TT 1 (IX 0 xs.length∧TT 2 (IX 1 xs.length∧TT 1 ((True∧(IntKind.wrap .i64 (BitVec.ofInt (IntKind.i64).bits (xs.getD 0 0) ^^^ BitVec.ofInt (IntKind.i64).bits (xs.getD 1 0)).toNat)=(((xs.getD 0 0).toNat ^^^ (xs.getD 1 0).toNat:Nat):Int))∧TT 2 ((((xs.getD 0 0).toNat ^^^ (xs.getD 1 0).toNat:Nat):Int)=(je op ws xs k w)∧True))))) (TT 2 (CD (op=6) (TT 1 (IX 0 xs.length∧TT 2 (IX 1 xs.length∧TT 1 (W6 ((xs.getD 0 0)+(xs.getD 1 0))∧TT 1 (W6 ((af (ws.getD 0 0))+1)∧(((af (ws.getD 0 0))+1)≠0∧(Int.tmod ((xs.getD 0 0)+(xs.getD 1 0)) ((af (ws.getD 0 0))+1))=((xs.getD 0 0+xs.getD 1 0)%2^(ws.getD 0 0).toNat))∧TT 2 (((xs.getD 0 0+xs.getD 1 0)%2^(ws.getD 0 0).toNat)=(je op ws xs k w)∧True)))))) (TT 2 (CD (op=7) (TT 1 (IX 0 xs.length∧TT 2 (IX 1 xs.length∧TT 1 (W6 ((xs.getD 0 0)-(xs.getD 1 0))∧TT 1 (W6 (((xs.getD 0 0)-(xs.getD 1 0))+(af (ws.getD 0 0)))∧W6 ((((xs.getD 0 0)-(xs.getD 1 0))+(af (ws.getD 0 0)))+1)∧TT 1 (W6 ((af (ws.getD 0 0))+1)∧(((af (ws.getD 0 0))+1)≠0∧(Int.tmod ((((xs.getD 0 0)-(xs.getD 1 0))+(af (ws.getD 0 0)))+1) ((af (ws.getD 0 0))+1))=((xs.getD 0 0-xs.getD 1 0)%2^(ws.getD 0 0).toNat))∧TT 2 (((xs.getD 0 0-xs.getD 1 0)%2^(ws.getD 0 0).toNat)=(je op ws xs k w)∧True))))))) (TT 2 (CD (op=8) (TT 1 (IX 0 xs.length∧TT 2 (IX 1 xs.length∧TT 2 (CC (JI ((xs.getD 0 0)==(xs.getD 1 0)))∧TT 2 ((if ((xs.getD 0 0)==(xs.getD 1 0))=true then 1 else 0)=(je op ws xs k w)∧True))))) (TT 2 (CD (op=9) (TT 1 (IX 0 xs.length∧TT 2 (IX 1 xs.length∧TT 2 (CC (JI (decide ((xs.getD 0 0)<(xs.getD 1 0))))∧TT 2 ((if (decide ((xs.getD 0 0)<(xs.getD 1 0)))=true then 1 else 0)=(je op ws xs k w)∧True))))) (TT 2 (CD (op=10) (TT 1 (IX 0 xs.length∧TT 2 (CD ((xs.getD 0 0)=1) (TT 1 (IX 1 xs.length∧TT 3 ((xs.getD 1 0)=(je op ws xs k w)∧True))) (TT 1 (IX 2 xs.length∧TT 3 ((xs.getD 2 0)=(je op ws xs k w)∧True)))))) (TT 1 (IX 0 xs.length∧TT 1 (((0≤(1:Int)∧1<(2:Int))∧True)∧TT 1 ((True∧(IntKind.wrap .u64 w1)=(ws.getD 1 0))∧(0≤(ws.getD 1 0)∧(IntKind.wrap .i64 ((xs.getD 0 0)*2^min ((ws.getD 1 0).toNat) 64))=(((xs.getD 0 0).toNat*2^(ws.getD 1 0).toNat:Nat):Int))∧TT 1 (IX 1 xs.length∧TT 1 ((True∧(IntKind.wrap .i64 (BitVec.ofInt (IntKind.i64).bits (((xs.getD 0 0).toNat*2^(ws.getD 1 0).toNat:Nat):Int) ||| BitVec.ofInt (IntKind.i64).bits (xs.getD 1 0)).toNat)=(((xs.getD 0 0).toNat*2^(ws.getD 1 0).toNat ||| (xs.getD 1 0).toNat:Nat):Int))∧TT 2 ((((xs.getD 0 0).toNat*2^(ws.getD 1 0).toNat ||| (xs.getD 1 0).toNat:Nat):Int)=(je op ws xs k w)∧True))))))))))))))))))))))))))) (.w 1 [(2,(DL (ws.getD 0 0)).O)]<|.b 12 (.w 4 [(4,.val (i6 ((af (ws.getD 0 0))-(xs.getD 0 0))))]<|.e) (.b 19 (.w 6 [(6,.val (i6 (((xs.getD 0 0).toNat &&& (xs.getD 1 0).toNat:Nat):Int)))]<|.e) (.b 28 (.w 8 [(6,.val (i6 (((xs.getD 0 0).toNat ||| (xs.getD 1 0).toNat:Nat):Int)))]<|.e) (.b 37 (.w 10 [(6,.val (i6 (((xs.getD 0 0).toNat ^^^ (xs.getD 1 0).toNat:Nat):Int)))]<|.e) (.b 46 (.w 12 [(6,.val (i6 ((xs.getD 0 0)+(xs.getD 1 0)))),(8,.val (i6 ((af (ws.getD 0 0))+1))),(9,.val (i6 ((xs.getD 0 0+xs.getD 1 0)%2^(ws.getD 0 0).toNat)))]<|.e) (.b 58 (.w 14 [(6,.val (i6 ((xs.getD 0 0)-(xs.getD 1 0)))),(8,.val (i6 (((xs.getD 0 0)-(xs.getD 1 0))+(af (ws.getD 0 0))))),(9,.val (i6 ((((xs.getD 0 0)-(xs.getD 1 0))+(af (ws.getD 0 0)))+1))),(11,.val (i6 ((af (ws.getD 0 0))+1))),(12,.val (i6 ((xs.getD 0 0-xs.getD 1 0)%2^(ws.getD 0 0).toNat)))]<|.e) (.b 73 (.w 16 [(7,(JI ((xs.getD 0 0)==(xs.getD 1 0))).O)]<|.e) (.b 83 (.w 18 [(7,(JI (decide ((xs.getD 0 0)<(xs.getD 1 0)))).O)]<|.e) (.b 93 (.b 98 (.e) (.e)) (.w 23 [(5,.val (dI .u64 (ws.getD 1 0))),(6,.val (i6 (((xs.getD 0 0).toNat*2^(ws.getD 1 0).toNat:Nat):Int))),(10,.val (i6 (((xs.getD 0 0).toNat*2^(ws.getD 1 0).toNat ||| (xs.getD 1 0).toNat:Nat):Int)))]<|.e)))))))))) Tryz.func115 rfl rfl rfl (by kernel_rfl) ?_
 refine tt ⟨⟨by omega,oK⟩,tt ⟨(jr (ws.getD 0 0)),tt (cd (fun VQ=>?_) (fun VQ=>?_))⟩⟩
 · have Vw:(ws.length:Int)=1:=by rw[VQ]at hl;exact hl
   have b0:=f0 (by omega)
   have c0:=a0 (by omega)
   have d0:=m0 (by omega)
   refine tt ⟨ix,tt ⟨w6,tt ⟨?_,oK⟩⟩⟩
   rw[VQ];exact Lj (by omega) c0
 · refine tt (cd (fun Zt=>?_) (fun Zt=>?_))
   · have Vw:(ws.length:Int)=2:=by rw[Zt]at hl;exact hl
     have b0:=f0 (by omega)
     have c0:=a0 (by omega)
     have d0:=m0 (by omega)
     have b1:=f1 (by omega)
     have c1:=a1 (by omega)
     have d1:=m1 (by omega)
     have U7:=gE ((gO (by omega)).1 h)
     have XE:af (ws.getD 1 0)=af (ws.getD 0 0):=by rw[U7]
     refine tt ⟨ix,tt ⟨ix,tt ⟨⟨oK,(xR (by omega) (by omega) (by omega) (by omega))⟩,tt ⟨?_,oK⟩⟩⟩⟩
     rw[Zt];rfl
   · refine tt (cd (fun VR=>?_) (fun VR=>?_))
     · have Vw:(ws.length:Int)=2:=by rw[VR]at hl;exact hl
       have b0:=f0 (by omega)
       have c0:=a0 (by omega)
       have d0:=m0 (by omega)
       have b1:=f1 (by omega)
       have c1:=a1 (by omega)
       have d1:=m1 (by omega)
       have U7:=gE ((gO (by omega)).1 h)
       have XE:af (ws.getD 1 0)=af (ws.getD 0 0):=by rw[U7]
       refine tt ⟨ix,tt ⟨ix,tt ⟨⟨oK,(Bh (by omega) (by omega) (by omega) (by omega))⟩,tt ⟨?_,oK⟩⟩⟩⟩
       rw[VR];rfl
     · refine tt (cd (fun Wf=>?_) (fun Wf=>?_))
       · have Vw:(ws.length:Int)=2:=by rw[Wf]at hl;exact hl
         have b0:=f0 (by omega)
         have c0:=a0 (by omega)
         have d0:=m0 (by omega)
         have b1:=f1 (by omega)
         have c1:=a1 (by omega)
         have d1:=m1 (by omega)
         have U7:=gE ((gO (by omega)).1 h)
         have XE:af (ws.getD 1 0)=af (ws.getD 0 0):=by rw[U7]
         refine tt ⟨ix,tt ⟨ix,tt ⟨⟨oK,(sM (by omega) (by omega) (by omega) (by omega))⟩,tt ⟨?_,oK⟩⟩⟩⟩
         rw[Wf];rfl
       · refine tt (cd (fun Vq=>?_) (fun Vq=>?_))
         · have Vw:(ws.length:Int)=2:=by rw[Vq]at hl;exact hl
           have b0:=f0 (by omega)
           have c0:=a0 (by omega)
           have d0:=m0 (by omega)
           have b1:=f1 (by omega)
           have c1:=a1 (by omega)
           have d1:=m1 (by omega)
           have U7:=gE ((gO (by omega)).1 h)
           have XE:af (ws.getD 1 0)=af (ws.getD 0 0):=by rw[U7]
           refine tt ⟨ix,tt ⟨ix,tt ⟨w6,tt ⟨w6,⟨⟨om,(B1 (by omega) (by omega))⟩,tt ⟨?_,oK⟩⟩⟩⟩⟩⟩
           rw[Vq];rfl
         · refine tt (cd (fun Wi=>?_) (fun Wi=>?_))
           · have Vw:(ws.length:Int)=2:=by rw[Wi]at hl;exact hl
             have b0:=f0 (by omega)
             have c0:=a0 (by omega)
             have d0:=m0 (by omega)
             have b1:=f1 (by omega)
             have c1:=a1 (by omega)
             have d1:=m1 (by omega)
             have U7:=gE ((gO (by omega)).1 h)
             have XE:af (ws.getD 1 0)=af (ws.getD 0 0):=by rw[U7]
             refine tt ⟨ix,tt ⟨ix,tt ⟨w6,tt ⟨w6,⟨w6,tt ⟨w6,⟨⟨om,(Lk (by omega) (by omega))⟩,tt ⟨?_,oK⟩⟩⟩⟩⟩⟩⟩⟩
             rw[Wi];rfl
           · refine tt (cd (fun hc73=>?_) (fun hc73=>?_))
             · have Vw:(ws.length:Int)=2:=by rw[hc73]at hl;exact hl
               have b0:=f0 (by omega)
               have c0:=a0 (by omega)
               have d0:=m0 (by omega)
               have b1:=f1 (by omega)
               have c1:=a1 (by omega)
               have d1:=m1 (by omega)
               have U7:=gE ((uX (by omega)).1 h)
               have XE:af (ws.getD 1 0)=af (ws.getD 0 0):=by rw[U7]
               refine tt ⟨ix,tt ⟨ix,tt ⟨(B2 ((xs.getD 0 0)==(xs.getD 1 0))),tt ⟨?_,oK⟩⟩⟩⟩
               rw[hc73]
               show _=(if xs.getD 0 0=xs.getD 1 0 then (1:Int)else 0)
               by_cases hq:xs.getD 0 0=xs.getD 1 0
               · rw[RH hq,RH (by simpa using hq)]
               · rw[RE hq,RE (by simpa using hq)]
             · refine tt (cd (fun hc83=>?_) (fun hc83=>?_))
               · have Vw:(ws.length:Int)=2:=by rw[hc83]at hl;exact hl
                 have b0:=f0 (by omega)
                 have c0:=a0 (by omega)
                 have d0:=m0 (by omega)
                 have b1:=f1 (by omega)
                 have c1:=a1 (by omega)
                 have d1:=m1 (by omega)
                 have U7:=gE ((uX (by omega)).1 h)
                 have XE:af (ws.getD 1 0)=af (ws.getD 0 0):=by rw[U7]
                 refine tt ⟨ix,tt ⟨ix,tt ⟨(B2 (decide ((xs.getD 0 0)<(xs.getD 1 0)))),tt ⟨?_,oK⟩⟩⟩⟩
                 rw[hc83]
                 show _=(if xs.getD 0 0<xs.getD 1 0 then (1:Int)else 0)
                 by_cases hq:xs.getD 0 0<xs.getD 1 0
                 · rw[RH hq,RH (by simpa using hq)]
                 · rw[RE hq,RE (by simpa using hq)]
               · refine tt (cd (fun WU=>?_) (fun WU=>?_))
                 · have Vw:(ws.length:Int)=3:=by rw[WU]at hl;exact hl
                   have b0:=f0 (by omega)
                   have c0:=a0 (by omega)
                   have d0:=m0 (by omega)
                   have b1:=f1 (by omega)
                   have c1:=a1 (by omega)
                   have d1:=m1 (by omega)
                   have V2:=zf (by rw[WU]at h;exact h)
                   have hm1:af (ws.getD 0 0)=1:=by rw[V2];decide
                   refine tt ⟨ix,tt (cd (fun hc98=>?_) (fun hc98=>?_))⟩
                   · refine tt ⟨ix,tt ⟨?_,oK⟩⟩
                     rw[WU]
                     show _=xs.getD (2-xs.getD 0 0).toNat 0
                     rw[hc98]
                     rfl
                   · refine tt ⟨ix,tt ⟨?_,oK⟩⟩
                     rw[WU]
                     show _=xs.getD (2-xs.getD 0 0).toNat 0
                     rw[show xs.getD 0 0=0 by omega]
                     rfl
                 · have VL:op=11:=by
                     have hn1:=hn.1;have hn2:=hn.2.1;have hn3:=hn.2.2
                     rcases hr with g | g | g | g | g | g | g | g | g | g | g | g | g<;>first | exact g | contradiction
                   have Vw:(ws.length:Int)=2:=by rw[VL]at hl;exact hl
                   have b0:=f0 (by omega)
                   have c0:=a0 (by omega)
                   have d0:=m0 (by omega)
                   have b1:=f1 (by omega)
                   have c1:=a1 (by omega)
                   have d1:=m1 (by omega)
                   have XE:=hw VL
                   refine tt ⟨ix,tt ⟨⟨by omega,oK⟩,tt ⟨⟨oK,(by rw[XE];exact Kf rfl (by omega) (by omega))⟩,⟨⟨(by omega),(EF (by omega) (by omega))⟩,tt ⟨ix,tt ⟨⟨oK,(EG (by omega) (by omega) (by omega))⟩,tt ⟨?_,oK⟩⟩⟩⟩⟩⟩⟩
                   rw[VL];rfl
abbrev NF (op:Int) (ws xs L':List Int):Ct:=⟨101,[(i6 op),(LI ws),(.agg [(LI xs),(LI L')])],false,(.agg [(i6 (cI op ws xs L')),(i6 0)])⟩
abbrev l9 (op:Int) (ws:List Int) (xs:List Int) (L':List Int):Lp (Nat):=io [0,1,6,7,8,10] 19 (fun (i:Nat)=>⟨[(0,(i6 op)),(1,(LI ws)),(6,(.ptr 1 0 0 0)),(7,(LI xs)),(8,(LI L')),(10,(i6 (i:Int)))],[(.var 198 [(LI xs),(LI L')]),(.var 195 [(i6 0),(i6 0)]),.dead,.dead,.dead,.dead,.dead,.dead,.dead,.dead,.dead,.dead,.dead,.dead,.dead,.dead,.dead,.dead,(.var 195 [(i6 (b5 op ws (L'.getD 0 0) (L'.getD 1 0))),(i6 0)])]⟩) (fun (i:Nat)=>i≤xs.length) (fun (i:Nat)=>xs.length-i)
set_option maxHeartbeats 1600000 in
theorem DM (op:Int) (ws xs L':List Int) (h:hC op ws (L'.getD 0 0) (L'.getD 1 0)=true) (hx:xs.length=ws.length) (hin:Bg ws xs=true) (hn:L'.length=2):CC (NF op ws xs L'):=by
 have hr:=wH h
 obtain⟨hl,hf,-⟩:=jT h
 have ZE:ws.length≤3:=by
   have h2:bo op≤3:=by unfold bo;split<;>(try split)<;>(try split)<;>(try split)<;>omega
   omega
 have f0:0<ws.length→1≤ws.getD 0 0∧ws.getD 0 0≤8:=fun h=>aA hf h
 have f1:1<ws.length→1≤ws.getD 1 0∧ws.getD 1 0≤8:=fun h=>aA hf h
 have f2:2<ws.length→1≤ws.getD 2 0∧ws.getD 2 0≤8:=fun h=>aA hf h
 have a0:0<ws.length→0≤xs.getD 0 0∧xs.getD 0 0≤af (ws.getD 0 0):=fun h=>a7 hin (by omega)
 have a1:1<ws.length→0≤xs.getD 1 0∧xs.getD 1 0≤af (ws.getD 1 0):=fun h=>a7 hin (by omega)
 have a2:2<ws.length→0≤xs.getD 2 0∧xs.getD 2 0≤af (ws.getD 2 0):=fun h=>a7 hin (by omega)
 have m0:0<ws.length→0≤af (ws.getD 0 0)∧af (ws.getD 0 0)≤255:=fun h=>az (by have:=f0 h;omega) (f0 h).2
 have m1:1<ws.length→0≤af (ws.getD 1 0)∧af (ws.getD 1 0)≤255:=fun h=>az (by have:=f1 h;omega) (f1 h).2
 have m2:2<ws.length→0≤af (ws.getD 2 0)∧af (ws.getD 2 0)≤255:=fun h=>az (by have:=f2 h;omega) (f2 h).2
 refine ah.vc (V:=TT 2 (((0≤(0:Int)∧0<(2:Int))∧True)∧TT 1 (((0≤(1:Int)∧1<(2:Int))∧True)∧TT 6 ((True∧(!decide ((L'.length:Int)=2))=false)∧TT 6 ((!decide ((xs.length:Int)=(ws.length:Int)))=false∧TT 3 (IX 0 L'.length∧TT 2 (IX 1 L'.length∧TT 2 (CC (JJ op ws (L'.getD 0 0) (L'.getD 1 0))∧TT 6 (GO (l9 op ws xs L') 0 (∀i,(l9 op ws xs L').inv i→TT 4 (CD ((i:Int)<(xs.length:Int)) (TT 2 (IX (i:Int) xs.length∧TT 2 ((True∧(decide ((xs.getD i 0)<0))=false)∧TT 2 (IX (i:Int) xs.length∧TT 3 (IX (i:Int) ws.length∧TT 1 (CC (DL (ws.getD i 0))∧TT 2 ((decide ((xs.getD i 0)>(af (ws.getD i 0))))=false∧TT 1 (W6 ((i+1:Nat):Int)∧TT 1 (AG (l9 op ws xs L') i (i+1)))))))))) (TT 3 (CD (op=1) (TT 1 (IX 0 L'.length∧TT 4 ((((L'.getD 0 0)=(cI op ws xs L')∧(0:Int)=0∧True))∧((True∧True∧True))))) (TT 2 (CD (op=12) (TT 1 (IX 0 xs.length∧TT 2 (IX 0 L'.length∧TT 1 ((True∧(IntKind.wrap .u64 (L'.getD 0 0))=(L'.getD 0 0))∧(0≤(L'.getD 0 0)∧(Int.fdiv (xs.getD 0 0) (2^min ((L'.getD 0 0).toNat) 64))=(xs.getD 0 0 / 2^(L'.getD 0 0).toNat))∧TT 1 (IX 1 L'.length∧TT 1 (CC (DL (L'.getD 1 0))∧(True∧(IntKind.wrap .i64 (BitVec.ofInt (IntKind.i64).bits (xs.getD 0 0 / 2^(L'.getD 0 0).toNat) &&& BitVec.ofInt (IntKind.i64).bits (af (L'.getD 1 0))).toNat)=((xs.getD 0 0 / 2^(L'.getD 0 0).toNat)%2^(L'.getD 1 0).toNat))∧TT 3 (((((xs.getD 0 0 / 2^(L'.getD 0 0).toNat)%2^(L'.getD 1 0).toNat)=(cI op ws xs L')∧(0:Int)=0∧True))∧((True∧True∧True))))))))) (TT 2 (CD (op=13) (TT 1 (IX 0 xs.length∧TT 4 ((((xs.getD 0 0)=(cI op ws xs L')∧(0:Int)=0∧True))∧((True∧True∧True))))) (TT 2 (CD (op=11) (TT 2 (IX 0 ws.length∧TT 2 (IX 1 ws.length∧TT 3 (CC (JK op ws xs (L'.getD 0 0) (L'.getD 1 0) (ws.getD 1 0))∧TT 3 ((((je op ws xs (L'.getD 0 0) (L'.getD 1 0))=(cI op ws xs L')∧(0:Int)=0∧True))∧((True∧True∧True))))))) (TT 2 (IX 0 ws.length∧TT 3 (CC (JK op ws xs (L'.getD 0 0) (L'.getD 1 0) 0)∧TT 3 ((((je op ws xs (L'.getD 0 0) (L'.getD 1 0))=(cI op ws xs L')∧(0:Int)=0∧True))∧((True∧True∧True))))))))))))))))))))))))) (.w 2 [(3,.val (dB false))]<|.u 24 (.w 4 [(9,(JJ op ws (L'.getD 0 0) (L'.getD 1 0)).O)]<|.l (l9 op ws xs L') 0 (fun i=>.b 43 (.w 10 [(5,.val (dB false)),(14,(DL (ws.getD i 0)).O)]<|.u 62 (.w 9 [(1,.val (i6 ((i+1:Nat):Int)))]<|.e)) (.b 65 (.e) (.b 71 (.w 16 [(6,.val (dI .u64 (L'.getD 0 0))),(7,.val (i6 (xs.getD 0 0 / 2^(L'.getD 0 0).toNat))),(11,(DL (L'.getD 1 0)).O),(12,.val (i6 ((xs.getD 0 0 / 2^(L'.getD 0 0).toNat)%2^(L'.getD 1 0).toNat)))]<|.e) (.b 87 (.e) (.b 93 (.w 20 [(9,(JK op ws xs (L'.getD 0 0) (L'.getD 1 0) (ws.getD 1 0)).O)]<|.e) (.w 21 [(6,(JK op ws xs (L'.getD 0 0) (L'.getD 1 0) 0).O)]<|.e)))))))) Tryz.func101 rfl rfl rfl (by kernel_rfl) ?_
 refine tt ⟨⟨by omega,oK⟩,tt ⟨⟨by omega,oK⟩,tt ⟨(nF (by omega)),tt ⟨(PP (by omega)),tt ⟨ix,tt ⟨ix,tt ⟨(wJ op ws (L'.getD 0 0) (L'.getD 1 0) h),tt ⟨rfl,(by omega),?_⟩⟩⟩⟩⟩⟩⟩⟩
 intro i I'
 have hi:=I'
 refine tt (cd (fun UD=>?_) (fun UD=>?_))
 · refine tt ⟨ix,tt ⟨(vF (by have:=a7 hin (i:=i) (by omega);omega)),tt ⟨ix,tt ⟨ix,tt ⟨(jr (ws.getD i 0)),tt ⟨(R6 (by have:=a7 hin (i:=i) (by omega);omega)),tt ⟨w6,tt ⟨(i+1),rfl,(?_:(i+1)≤xs.length),(?_:xs.length-(i+1)<xs.length-i)⟩⟩⟩⟩⟩⟩⟩⟩
   · omega
   · omega
 · refine tt (cd (fun V5=>?_) (fun V5=>?_))
   · refine tt ⟨ix,tt ⟨⟨?_,rfl,oK⟩,⟨oK,oK,oK⟩⟩⟩
     rw[(dT hn hx h hin).1,V5];rfl
   · refine tt (cd (fun Xp=>?_) (fun Xp=>?_))
     · have Vw:(ws.length:Int)=1:=by rw[Xp]at hl;exact hl
       have b0:=f0 (by omega)
       have c0:=a0 (by omega)
       have d0:=m0 (by omega)
       have hsk:=zg (by rw[Xp]at h;exact h)
       have hwf:=aW.1 hsk.2.2
       refine tt ⟨ix,tt ⟨ix,tt ⟨⟨oK,(Kf rfl (by omega) (by omega))⟩,⟨⟨(by omega),(EH hsk.1 (by omega))⟩,tt ⟨ix,tt ⟨(jr (L'.getD 1 0)),⟨⟨oK,(by rw[cY (by omega) (by omega)];exact km (by omega))⟩,tt ⟨⟨?_,rfl,oK⟩,⟨oK,oK,oK⟩⟩⟩⟩⟩⟩⟩⟩⟩
       rw[(dT hn hx h hin).1,Xp];rfl
     · refine tt (cd (fun VV=>?_) (fun VV=>?_))
       · have Vw:(ws.length:Int)=1:=by rw[VV]at hl;exact hl
         have b0:=f0 (by omega)
         have c0:=a0 (by omega)
         have d0:=m0 (by omega)
         refine tt ⟨ix,tt ⟨⟨?_,rfl,oK⟩,⟨oK,oK,oK⟩⟩⟩
         rw[(dT hn hx h hin).1,VV];rfl
       · refine tt (cd (fun WU=>?_) (fun WU=>?_))
         · have Vw:(ws.length:Int)=2:=by rw[WU]at hl;exact hl
           have b0:=f0 (by omega)
           have c0:=a0 (by omega)
           have d0:=m0 (by omega)
           have b1:=f1 (by omega)
           have c1:=a1 (by omega)
           have d1:=m1 (by omega)
           refine tt ⟨ix,tt ⟨ix,tt ⟨(B3 op ws xs (L'.getD 0 0) (L'.getD 1 0) (ws.getD 1 0) h hx hin om om),tt ⟨⟨?_,rfl,oK⟩,⟨oK,oK,oK⟩⟩⟩⟩⟩
           exact(dT hn hx h hin).1.symm
         · have Vw:1≤ws.length:=by
             have h2:1≤bo op:=by rcases hr with rfl | rfl | rfl | rfl | rfl | rfl | rfl | rfl | rfl | rfl | rfl | rfl | rfl<;>first | omega | decide
             omega
           refine tt ⟨ix,tt ⟨(B3 op ws xs (L'.getD 0 0) (L'.getD 1 0) 0 h hx hin om om),tt ⟨⟨?_,rfl,oK⟩,⟨oK,oK,oK⟩⟩⟩⟩
           exact(dT hn hx h hin).1.symm
abbrev wK (p:Pr):ap:=(.var 63 [(dS p.name),(dS p.clock),(dL 13 gM bH p.Ry),(dL 27 m3 aP p.Rx),(dL 9 ir aF p.I),(dL 16 gd aB p.Rv)])
abbrev FE (p:Pr) (s:Ps) (hs:List Hd):ap:=(.var 161 [(dS p.name),(dS p.clock),(dL 13 gM bH p.Ry),(dL 27 m3 aP p.Rx),(dL 9 ir aF p.I),(dL 16 gd aB p.Rv),(LI s.Ry),(dL 1 aa [] s.Rx),(LI (bN p s hs))])
abbrev JL (p:Pr):D:=(.agg [(dS p.name),(dS p.clock),(dL 13 gM bH p.Ry),(dL 27 m3 aP p.Rx),(dL 9 ir aF p.I),(dL 16 gd aB p.Rv)])
abbrev JM (p:Pr) (s:Ps) (data:List Int):ap:=(.var 161 [(dS p.name),(dS p.clock),(dL 13 gM bH p.Ry),(dL 27 m3 aP p.Rx),(dL 9 ir aF p.I),(dL 16 gd aB p.Rv),(LI s.Ry),(dL 1 aa [] s.Rx),(LI data)])
abbrev JN (p:Pr) (s:Ps) (data:List Int):D:=(.agg [(dS p.name),(dS p.clock),(dL 13 gM bH p.Ry),(dL 27 m3 aP p.Rx),(dL 9 ir aF p.I),(dL 16 gd aB p.Rv),(LI s.Ry),(dL 1 aa [] s.Rx),(LI data)])
abbrev wL (s:Ps):List D:=[(LI s.Ry),(dL 1 aa [] s.Rx)]
abbrev rY (i:Nat):D:=(i6 ((i+1:Nat):Int))
abbrev FF:ap:=(.var 101 [(dB false),.nils,.nils,.nils,.nils])
set_option maxRecDepth 100000
abbrev O8 (p:Pr):Ct:=⟨69,[(JL p)],true,(.agg [(LI ((aC p).Ry)),(dL 1 aa [] ((aC p).Rx))])⟩
abbrev pb (p:Pr):Lp (Nat):=io [1,2,3,4] 4 (fun (i:Nat)=>⟨[(1,(.ptr 0 0 0 0)),(2,(.ptr 1 0 0 0)),(3,(.ptr 2 0 0 0)),(4,(i6 (i:Int)))],[(wK p),(.var 56 [.nils,.nils]),(.var 56 [(.own 3),.nils]),(.arr 3 1 (ab .i64) 0 (tab (fun z=>(p.Ry.getD z bH).init) i))]⟩) (fun (i:Nat)=>i≤p.Ry.length) (fun (i:Nat)=>p.Ry.length-i)
abbrev pc (p:Pr) (i:Nat):Lp (Nat):=io [1,2,3,5] 5 (fun (j:Nat)=>⟨[(1,(.ptr 0 0 0 0)),(2,(.ptr 1 0 0 0)),(3,(.ptr 2 0 0 0)),(5,(i6 (j:Int)))],[(wK p),(.var 56 [.nils,.nils]),(.var 56 [(.own 3),(.own 4)]),(.arr 3 1 (ab .i64) 0 (tab (fun z=>(p.Ry.getD z bH).init) i)),(.arr 42 1 aa [] (tab (fun z=>List.replicate (p.Rx.getD z aP).words.toNat (0:Int)) j))]⟩) (fun (j:Nat)=>j≤p.Rx.length) (fun (j:Nat)=>p.Rx.length-j)
theorem yn (p:Pr) (hp:fk p):CC (O8 p):=by
 have Wp:=hp.rl
 have VJ:=hp.ml
 refine ah.vc (V:=TT 6 (GO (pb p) 0 (∀i,(pb p).inv i→TT 5 (CD ((i:Int)<(p.Ry.length:Int)) (TT 5 (IX (i:Int) p.Ry.length∧TT 2 (ai [[(i6 ((p.Ry.getD i bH).init))]] ([(p.Ry.getD i bH).init].map (ab .i64))∧((tab (fun z=>(p.Ry.getD z bH).init) i).length+([(p.Ry.getD i bH).init].map (ab .i64)).length≤137438953472∧(tab (fun z=>(p.Ry.getD z bH).init) i).map (ab .i64)++[(p.Ry.getD i bH).init].map (ab .i64)=(tab (fun z=>(p.Ry.getD z bH).init) (i+1)).map (ab .i64))∧TT 3 (W6 ((i+1:Nat):Int)∧TT 1 (AG (pb p) i (i+1)))))) (TT 1 (GO (pc p i) 0 (∀j,(pc p i).inv j→TT 5 (CD ((j:Int)<(p.Rx.length:Int)) (TT 5 (IX (j:Int) p.Rx.length∧TT 2 ((((0:Int)≤(p.Rx.getD j aP).words∧(p.Rx.getD j aP).words≤(p.Rx.getD j aP).words∧(p.Rx.getD j aP).words≤137438953472)∧(List.replicate (p.Rx.getD j aP).words.toNat (0:Int)).length=((p.Rx.getD j aP).words).toNat∧∀x∈(List.replicate (p.Rx.getD j aP).words.toNat (0:Int)),cg [(i6 0)] ((ab .i64) x))∧ai [[(LI (List.replicate (p.Rx.getD j aP).words.toNat (0:Int)))]] ([List.replicate (p.Rx.getD j aP).words.toNat (0:Int)].map aa)∧((tab (fun z=>List.replicate (p.Rx.getD z aP).words.toNat (0:Int)) j).length+([List.replicate (p.Rx.getD j aP).words.toNat (0:Int)].map aa).length≤137438953472∧(tab (fun z=>List.replicate (p.Rx.getD z aP).words.toNat (0:Int)) j).map aa++[List.replicate (p.Rx.getD j aP).words.toNat (0:Int)].map aa=(tab (fun z=>List.replicate (p.Rx.getD z aP).words.toNat (0:Int)) (j+1)).map aa)∧TT 3 (W6 ((j+1:Nat):Int)∧TT 1 (AG (pc p i) j (j+1)))))) (TT 3 ((tab (fun z=>(p.Ry.getD z bH).init) i).map (ab .i64)=((aC p).Ry).map (ab .i64)∧(tab (fun z=>List.replicate (p.Rx.getD z aP).words.toNat (0:Int)) j).map aa=((aC p).Rx).map aa∧True)))))))))) (.g 2 2 0 3 1 (ab .i64) 0<|.l (pb p) 0 (fun i=>.b 11 (.w 5 [(8,.box 3 1 (ab .i64) 0 [(p.Ry.getD i bH).init]),(9,.box 3 1 (ab .i64) 0 (tab (fun z=>(p.Ry.getD z bH).init) (i+1)))]<|.w 4 [(1,.val (rY i))]<|.e) (.g 6 2 1 42 1 aa []<|.l (pc p i) 0 (fun j=>.b 29 (.w 9 [(8,.frz 3 1 (ab .i64) 0 (List.replicate (p.Rx.getD j aP).words.toNat (0:Int))),(9,.box 42 1 aa [] [List.replicate (p.Rx.getD j aP).words.toNat (0:Int)]),(10,.box 42 1 aa [] (tab (fun z=>List.replicate (p.Rx.getD z aP).words.toNat (0:Int)) (j+1)))]<|.w 8 [(1,.val (i6 ((j+1:Nat):Int)))]<|.e) (.e))))) Tryz.func69 rfl rfl rfl (by kernel_rfl) ?_
 refine tt ⟨rfl,(by omega),?_⟩
 intro i I'
 have hi:=I'
 refine tt (cd (fun Wc=>?_) (fun Wc=>?_))
 · refine tt ⟨ix,tt ⟨⟨⟨rfl,oK⟩,oK⟩,⟨(fV (f:=fun z=>(p.Ry.getD z bH).init) (by omega)),tt ⟨w6,tt ⟨(i+1),rfl,(?_:(i+1)≤p.Ry.length),(?_:p.Ry.length-(i+1)<p.Ry.length-i)⟩⟩⟩⟩⟩
   · omega
   · omega
 · refine tt ⟨rfl,(by omega),?_⟩
   intro j I'
   have hj:=I'
   refine tt (cd (fun hc29=>?_) (fun hc29=>?_))
   · have Ww:1≤(p.Rx.getD j aP).words∧(p.Rx.getD j aP).words≤4:=(hp.mw j (by omega)).2.1
     refine tt ⟨ix,tt ⟨⟨by omega,RC,fun x hx=>by rw[RS hx];exact⟨rfl,oK⟩⟩,⟨⟨⟨rfl,oK⟩,oK⟩,⟨(fV (f:=fun z=>List.replicate (p.Rx.getD z aP).words.toNat (0:Int)) (by omega)),tt ⟨w6,tt ⟨(j+1),rfl,(?_:(j+1)≤p.Rx.length),(?_:p.Rx.length-(j+1)<p.Rx.length-j)⟩⟩⟩⟩⟩⟩
     · omega
     · omega
   · refine tt ⟨(congrArg _ (?_:(tab (fun z=>(p.Ry.getD z bH).init) i)=((aC p).Ry))),(congrArg _ (?_:(tab (fun z=>List.replicate (p.Rx.getD z aP).words.toNat (0:Int)) j)=((aC p).Rx))),oK⟩
     · rw[rz,show i=p.Ry.length by omega]
     · rw[rz,show j=p.Rx.length by omega]
abbrev B4 (p:Pr) (s:Ps) (data:List Int) (n:Nat) (e:Ex):Ct:=⟨73,[(JN p s data),(.agg [(i6 e.op),(dS e.name),(i6 e.k.n),(dS e.k.p),(i6 e.w.n),(dS e.w.p),(dL 7 (eA n) dE e.args)])],false,(.agg [(i6 ((a8 p s data e).1)),(i6 ((a8 p s data e).2))])⟩
abbrev uY (p:Pr) (s:Ps) (data:List Int) (n:Nat) (e:Ex):Lp (Nat):=io [2,3,4,7,8,9] 5 (fun (i:Nat)=>⟨[(2,(.ptr 0 0 0 0)),(3,(.ptr 1 0 0 0)),(4,(.ptr 2 0 0 0)),(7,(.own 3)),(8,(.own 4)),(9,(i6 (i:Int)))],[(JM p s data),(.var 111 [(i6 e.op),(dS e.name),(i6 e.k.n),(dS e.k.p),(i6 e.w.n),(dS e.w.p),(dL 7 (eA (n+1)) dE e.args)]),(.var 166 [(i6 0),(i6 0)]),(.arr 3 1 (ab .i64) 0 (eZ p s data (e.args.take i))),(.arr 3 1 (ab .i64) 0 (dj p s data (e.args.take i)))]⟩) (fun (i:Nat)=>i≤e.args.length) (fun (i:Nat)=>e.args.length-i)
theorem FG (p:Pr) (s:Ps) (data:List Int) (n:Nat) (e:Ex) (c:Sc) (v:Int) (ho:sP c p s data) (ht:fc c e=some v) (Ww:∀i,i<p.Rx.length→((s.Rx.getD i []).length:Int)=(p.Rx.getD i aP).words) (ih:∀a∈e.args,CC (B4 p s data n a)):CC (B4 p s data (n+1) e):=by
 have UL:=Ij ht
 refine ah.vc (V:=TT 7 (CD (e.op=16) (TT 6 (IX e.k.n s.Ry.length∧TT 7 (IX e.k.n p.Ry.length∧TT 5 ((((s.Ry.getD e.k.n.toNat 0)=((a8 p s data e).1)∧((p.Ry.getD e.k.n.toNat bH).w)=((a8 p s data e).2)∧True))∧((True∧True∧True)))))) (TT 2 (CD (e.op=17) (TT 6 (IX e.k.n p.Rx.length∧TT 6 (IX 0 e.args.length∧TT 1 (CC (B4 p s data n (e.args.getD 0 dE))∧TT 8 (IX e.k.n s.Rx.length∧TT 5 ((((p.Rx.getD e.k.n.toNat aP).words)≠0∧(Int.tmod ((a8 p s data (e.args.getD 0 dE)).1) ((p.Rx.getD e.k.n.toNat aP).words))=(Int.tmod (a8 p s data (e.args.getD 0 dE)).1 ((s.Rx.getD e.k.n.toNat []).length:Int)))∧IX (Int.tmod (a8 p s data (e.args.getD 0 dE)).1 ((s.Rx.getD e.k.n.toNat []).length:Int)) ((s.Rx.getD e.k.n.toNat []).length)∧TT 6 (((((s.Rx.getD e.k.n.toNat []).getD ((Int.tmod (a8 p s data (e.args.getD 0 dE)).1 ((s.Rx.getD e.k.n.toNat []).length:Int)).toNat) 0)=((a8 p s data e).1)∧((p.Rx.getD e.k.n.toNat aP).w)=((a8 p s data e).2)∧True))∧((True∧True∧True))))))))) (TT 2 (CD (e.op=18) (TT 5 (IX e.k.n data.length∧TT 7 (IX e.k.n p.I.length∧TT 5 ((((data.getD e.k.n.toNat 0)=((a8 p s data e).1)∧((p.I.getD e.k.n.toNat aF).w)=((a8 p s data e).2)∧True))∧((True∧True∧True)))))) (ai [] ((eZ p s data (e.args.take 0)).map (ab .i64))∧ai [] ((dj p s data (e.args.take 0)).map (ab .i64))∧TT 3 (GO (uY p s data n e) 0 (∀i,(uY p s data n e).inv i→TT 5 (CD ((i:Int)<(e.args.length:Int)) (TT 4 (IX (i:Int) e.args.length∧TT 1 (CC (B4 p s data n (e.args.getD i dE))∧TT 5 (ai [[(i6 ((a8 p s data (e.args.getD i dE)).1))]] ([(a8 p s data (e.args.getD i dE)).1].map (ab .i64))∧((eZ p s data (e.args.take i)).length+([(a8 p s data (e.args.getD i dE)).1].map (ab .i64)).length≤137438953472∧(eZ p s data (e.args.take i)).map (ab .i64)++[(a8 p s data (e.args.getD i dE)).1].map (ab .i64)=(eZ p s data (e.args.take (i+1))).map (ab .i64))∧TT 4 (ai [[(i6 ((a8 p s data (e.args.getD i dE)).2))]] ([(a8 p s data (e.args.getD i dE)).2].map (ab .i64))∧((dj p s data (e.args.take i)).length+([(a8 p s data (e.args.getD i dE)).2].map (ab .i64)).length≤137438953472∧(dj p s data (e.args.take i)).map (ab .i64)++[(a8 p s data (e.args.getD i dE)).2].map (ab .i64)=(dj p s data (e.args.take (i+1))).map (ab .i64))∧TT 2 (W6 ((i+1:Nat):Int)∧TT 1 (AG (uY p s data n e) i (i+1)))))))) (TT 10 (CK (JJ e.op (dj p s data (e.args.take i)) e.k.n e.w.n)∧TT 12 (ai [[(i6 e.k.n)],[(i6 e.w.n)]] ([e.k.n,e.w.n].map (ab .i64))∧TT 1 (CK (NF e.op (dj p s data (e.args.take i)) (eZ p s data (e.args.take i)) [e.k.n,e.w.n])∧TT 9 ((((cI e.op (dj p s data (e.args.take i)) (eZ p s data (e.args.take i)) [e.k.n,e.w.n])=((a8 p s data e).1)∧(b5 e.op (dj p s data (e.args.take i)) e.k.n e.w.n)=((a8 p s data e).2)∧True))∧((True∧True∧True))))))))))))))))) (.b 15 (.e) (.b 35 (.w 6 [(5,(B4 p s data n (e.args.getD 0 dE)).O)]<|.w 7 [(12,.val (i6 (Int.tmod (a8 p s data (e.args.getD 0 dE)).1 ((s.Rx.getD e.k.n.toNat []).length:Int))))]<|.e) (.b 69 (.e) (.w 10 [(0,.box 3 1 (ab .i64) 0 (eZ p s data (e.args.take 0))),(1,.box 3 1 (ab .i64) 0 (dj p s data (e.args.take 0)))]<|.l (uY p s data n e) 0 (fun i=>.b 94 (.w 14 [(6,(B4 p s data n (e.args.getD i dE)).O)]<|.w 15 [(3,.box 3 1 (ab .i64) 0 [(a8 p s data (e.args.getD i dE)).1]),(4,.box 3 1 (ab .i64) 0 (eZ p s data (e.args.take (i+1))))]<|.w 16 [(3,.box 3 1 (ab .i64) 0 [(a8 p s data (e.args.getD i dE)).2]),(4,.box 3 1 (ab .i64) 0 (dj p s data (e.args.take (i+1))))]<|.w 13 [(1,.val (rY i))]<|.e) (.w 17 [(10,(JJ e.op (dj p s data (e.args.take i)) e.k.n e.w.n).O')]<|.w 18 [(10,.box 3 1 (ab .i64) 0 [e.k.n,e.w.n]),(12,(NF e.op (dj p s data (e.args.take i)) (eZ p s data (e.args.take i)) [e.k.n,e.w.n]).O')]<|.e)))))) Tryz.func73 rfl rfl rfl (by kernel_rfl) ?_
 refine tt (cd (fun UP=>?_) (fun UP=>?_))
 · obtain⟨h1,h2,h3⟩:=Ik ho ht UP
   refine tt ⟨ix,tt ⟨ix,tt ⟨⟨?_,?_,oK⟩,⟨oK,oK,oK⟩⟩⟩⟩
   all_goals (first | exact(eY UP).1.symm | exact(eY UP).2.symm | exact(dG Vm).1.symm | exact(dG Vm).2.symm | exact(dH UQ Ud).1.symm | exact(dH UQ Ud).2.symm | (rw[Vp,Sv];exact(iE UP Vm UQ).1.symm) | (rw[Vp,Sv];exact(iE UP Vm UQ).2.symm))
 · refine tt (cd (fun UQ=>?_) (fun UQ=>?_))
   · obtain⟨h1,h2,h3,Ud,h4,h5,h6⟩:=EN ho ht UQ
     have XX:(p.Rx.getD e.k.n.toNat aP).words=((s.Rx.getD e.k.n.toNat []).length:Int):=(Ww _ (by omega)).symm
     have hz:(s.Rx.getD e.k.n.toNat []).length≠0:=by omega
     refine tt ⟨ix,tt ⟨ix,tt ⟨(ih _ (iZ (by omega))),tt ⟨ix,tt ⟨⟨(by omega),(by rw[XX])⟩,⟨ix,tt ⟨⟨?_,?_,oK⟩,⟨oK,oK,oK⟩⟩⟩⟩⟩⟩⟩⟩
     all_goals (first | exact(eY UP).1.symm | exact(eY UP).2.symm | exact(dG Vm).1.symm | exact(dG Vm).2.symm | exact(dH UQ Ud).1.symm | exact(dH UQ Ud).2.symm | (rw[Vp,Sv];exact(iE UP Vm UQ).1.symm) | (rw[Vp,Sv];exact(iE UP Vm UQ).2.symm))
   · refine tt (cd (fun Vm=>?_) (fun Vm=>?_))
     · obtain⟨h1,h2,h3⟩:=EM ho ht Vm
       refine tt ⟨ix,tt ⟨ix,tt ⟨⟨?_,?_,oK⟩,⟨oK,oK,oK⟩⟩⟩⟩
       all_goals (first | exact(eY UP).1.symm | exact(eY UP).2.symm | exact(dG Vm).1.symm | exact(dG Vm).2.symm | exact(dH UQ Ud).1.symm | exact(dH UQ Ud).2.symm | (rw[Vp,Sv];exact(iE UP Vm UQ).1.symm) | (rw[Vp,Sv];exact(iE UP Vm UQ).2.symm))
     · refine⟨oK,⟨oK,tt ⟨rfl,(by omega),?_⟩⟩⟩
       intro i I'
       have hi:=I'
       refine tt (cd (fun hc94=>?_) (fun hc94=>?_))
       · refine tt ⟨ix,tt ⟨(ih _ (iZ (by omega))),tt ⟨⟨⟨rfl,oK⟩,oK⟩,⟨⟨by simp only[RJ,RK,RN];rw[v6,RZ];omega,by rw[xW (by omega),RO]⟩,tt ⟨⟨⟨rfl,oK⟩,oK⟩,⟨⟨by simp only[RJ,RK,RN];rw[rq,RZ];omega,by rw[xX (by omega),RO]⟩,tt ⟨w6,tt ⟨(i+1),rfl,(?_:(i+1)≤e.args.length),(?_:e.args.length-(i+1)<e.args.length-i)⟩⟩⟩⟩⟩⟩⟩⟩
         · omega
         · omega
       · have Vp:i=e.args.length:=by omega
         have hev:=IC ho ht UP UQ Vm
         have hev1:hC e.op (dj p s data (e.args.take i)) e.k.n e.w.n=true:=by rw[Vp,Sv];exact hev.1
         have hev2:Bg (dj p s data (e.args.take i)) (eZ p s data (e.args.take i))=true:=by rw[Vp,Sv];exact hev.2
         refine tt ⟨⟨dR _ rfl,(wJ e.op (dj p s data (e.args.take i)) e.k.n e.w.n hev1)⟩,tt ⟨⟨⟨rfl,oK⟩,⟨rfl,oK⟩,oK⟩,tt ⟨⟨dR _ rfl,(DM e.op (dj p s data (e.args.take i)) (eZ p s data (e.args.take i)) [e.k.n,e.w.n] hev1 (by rw[v6,rq]) hev2 rfl)⟩,tt ⟨⟨?_,?_,oK⟩,⟨oK,oK,oK⟩⟩⟩⟩⟩
         all_goals (first | exact(eY UP).1.symm | exact(eY UP).2.symm | exact(dG Vm).1.symm | exact(dG Vm).2.symm | exact(dH UQ Ud).1.symm | exact(dH UQ Ud).2.symm | (rw[Vp,Sv];exact(iE UP Vm UQ).1.symm) | (rw[Vp,Sv];exact(iE UP Vm UQ).2.symm))
theorem kH {c:Sc} {p:Pr} {s:Ps} {data:List Int} (ho:sP c p s data) (Ww:∀i,i<p.Rx.length→((s.Rx.getD i []).length:Int)=(p.Rx.getD i aP).words):∀(n:Nat) (e:Ex) (v:Int),fc c e=some v→fI e≤n+1→CC (B4 p s data n e)
  | 0,e,v,ht,hd=>by
    have ha:e.args=[]:=by
      cases hl:e.args with
      | nil=>rfl
      | cons a r =>
        have:=uF (e:=e) (a:=a) (by rw[hl];simp)
        cases a with | mk op name k w args=>rw[fI]at this;omega
    have h:=FG p s data 0 e c v ho ht Ww (fun a h=>by rw[ha]at h;cases h)
    refine ah.recast ?_ h
    refine⟨vW _ rfl,⟨rfl,rfl,rfl,rfl,rfl,rfl,?_,oK⟩,oK⟩
    show e.args.map (eA 0)=e.args.map (eA 1)
    rw[ha];rfl
  | n+1,e,v,ht,hd=>FG p s data n e c v ho ht Ww (fun a h=>by
    obtain⟨w,hw⟩:=Ii ht h
    exact kH ho Ww n a w hw (by have:=uF h;omega))
abbrev DN (p:Pr) (s:Ps) (data:List Int) (e:Ex):Ct:=⟨71,[(JN p s data),(.agg [(i6 e.op),(dS e.name),(i6 e.k.n),(dS e.k.p),(i6 e.w.n),(dS e.w.p),(dL 7 (eA 2) dE e.args)])],false,(dB (ee p s data e))⟩
theorem wM (p:Pr) (s:Ps) (data:List Int) (e:Ex) {c:Sc} {v:Int} (ho:sP c p s data) (Ww:∀i,i<p.Rx.length→((s.Rx.getD i []).length:Int)=(p.Rx.getD i aP).words) (ht:fc c e=some v) (hd:fI e≤3):CC (DN p s data e):=by
 refine ah.vc (V:=TT 5 (CC (B4 p s data 2 e)∧TT 4 ((((a8 p s data e).1)==1)=(ee p s data e)∧True))) (.w 1 [(2,(B4 p s data 2 e).O)]<|.e) Tryz.func71 rfl rfl rfl (by kernel_rfl) ?_
 refine tt ⟨(kH ho Ww 2 e _ ht hd),tt ⟨?_,oK⟩⟩
 rfl
abbrev QK (p:Pr) (s:Ps) (hs:List Hd) (rs:List Bool):Ct:=⟨70,[(JL p),(.agg (wL s)),(.agg [(dL 2 bt aJ hs),(LB rs)])],true,(.agg [(dS p.name),(dS p.clock),(dL 13 gM bH p.Ry),(dL 27 m3 aP p.Rx),(dL 9 ir aF p.I),(dL 16 gd aB p.Rv),(LI s.Ry),(dL 1 aa [] s.Rx),(LI (bN p s hs))])⟩
abbrev gG (p:Pr) (s:Ps) (hs:List Hd) (rs:List Bool):Lp (Nat×List Int):=pI [3,5,6,7,8,9] 20 (fun (i:Nat) (T8:List Int)=>⟨[(3,(.ptr 0 0 0 0)),(5,(.ptr 2 0 0 0)),(6,(.ptr 3 0 0 0)),(7,(.ptr 11 0 0 0)),(8,(.ptr 19 0 0 0)),(9,(i6 (i:Int)))],[(wK p),(.var 56 (wL s)),(.var 106 [(dL 2 bt aJ hs),(LB rs)]),(.var 161 [(dS e0),(dS e0),.nils,.nils,.nils,.nils,.nils,.nils,.nils]),.dead,.dead,.dead,.dead,.dead,.dead,.dead,(.var 161 [(dS p.name),(dS p.clock),(dL 13 gM bH p.Ry),(dL 27 m3 aP p.Rx),(dL 9 ir aF p.I),(dL 16 gd aB p.Rv),(LI s.Ry),(dL 1 aa [] s.Rx),(LI (jg p))]),.dead,.dead,.dead,.dead,.dead,(.arr 3 1 (ab .i64) 0 T8),.dead,(.var 161 [(dS p.name),(dS p.clock),(dL 13 gM bH p.Ry),(dL 27 m3 aP p.Rx),(dL 9 ir aF p.I),(dL 16 gd aB p.Rv),(LI s.Ry),(dL 1 aa [] s.Rx),(.own 17)])]⟩) (fun (i:Nat) (T8:List Int)=>i≤p.I.length∧T8=cM (mA p s hs) (jg p) i) (fun (i:Nat) (T8:List Int)=>p.I.length-i)
theorem DP (p:Pr) (s:Ps) (hs:List Hd) (rs:List Bool) (hp:fk p) (Wv:m6 p s) (hh:zq p hs):CC (QK p s hs rs):=by
 have Yj:=hp.tl
 have ZC:=hp.pl
 have hhl:=hh.l
 have Ww:=Wv.mn
 have ho:=hE hp Wv (LU hp)
 refine ah.vc (V:=TT 9 ((((0:Int)≤(p.I.length:Int)∧(p.I.length:Int)≤(p.I.length:Int)∧(p.I.length:Int)≤137438953472)∧(jg p).length=p.I.length∧∀x∈(jg p),cg [(i6 0)] ((ab .i64) x))∧TT 8 ((((0:Int)≤(p.I.length:Int)∧(p.I.length:Int)≤(p.I.length:Int)∧(p.I.length:Int)≤137438953472)∧(jg p).length=p.I.length∧∀x∈(jg p),cg [(i6 0)] ((ab .i64) x))∧TT 4 (GO (gG p s hs rs) (0,jg p) (∀i T8,(gG p s hs rs).inv (i,T8)→TT 5 (CD ((i:Int)<(p.I.length:Int)) (CS ((ee p s (jg p) ((p.I.getD i aF).when))=true) (TT 4 (IX (i:Int) p.I.length∧TT 2 (CC (DN p s (jg p) ((p.I.getD i aF).when))∧(True∧(ee p s (jg p) ((p.I.getD i aF).when))=true)∧TT 3 (IX (i:Int) hs.length∧TT 3 (CB ((hs.getD i aJ).has) (TT 6 (IX (i:Int) hs.length∧TT 2 (IX (i:Int) T8.length∧(i<T8.length∧(T8.map (ab .i64)).set i (((ab .i64) (T8.getD i 0)).take 0++[(.int .i64 ((hs.getD i aJ).v))]++((ab .i64) (T8.getD i 0)).drop (0+1))=(T8.set i ((hs.getD i aJ).v)).map (ab .i64))∧TT 1 (W6 ((i+1:Nat):Int)∧TT 1 (AG (gG p s hs rs) (i,T8) (i+1,T8.set i ((hs.getD i aJ).v))))))) (TT 1 (W6 ((i+1:Nat):Int)∧TT 1 (AG (gG p s hs rs) (i,T8) (i+1,T8))))))))) (TT 4 (IX (i:Int) p.I.length∧TT 2 (CC (DN p s (jg p) ((p.I.getD i aF).when))∧(True∧(ee p s (jg p) ((p.I.getD i aF).when))=false)∧TT 2 (W6 ((i+1:Nat):Int)∧TT 1 (AG (gG p s hs rs) (i,T8) (i+1,T8))))))) (TT 3 (p.name=p.name∧p.clock=p.clock∧p.Ry.map gM=p.Ry.map gM∧p.Rx.map m3=p.Rx.map m3∧p.I.map ir=p.I.map ir∧p.Rv.map gd=p.Rv.map gd∧s.Ry.map (ab .i64)=s.Ry.map (ab .i64)∧s.Rx.map aa=s.Rx.map aa∧T8.map (ab .i64)=(bN p s hs).map (ab .i64)∧True)))))))) (.w 1 [(5,.frz 3 1 (ab .i64) 0 (jg p))]<|.w 2 [(5,.box 3 1 (ab .i64) 0 (jg p))]<|.l (gG p s hs rs) (0,jg p) (fun ⟨i,T8⟩=>.b 28 (.s 6 ((ee p s (jg p) ((p.I.getD i aF).when))=true) (.w 6 [(7,(DN p s (jg p) ((p.I.getD i aF).when)).O),(8,.val (dB true))]<|.b 46 (.w 7 [(10,.box 3 1 (ab .i64) 0 (T8.set i ((hs.getD i aJ).v)))]<|.w 5 [(1,.val (rY i))]<|.e) (.w 5 [(1,.val (rY i))]<|.e)) (.w 6 [(7,(DN p s (jg p) ((p.I.getD i aF).when)).O),(8,.val (dB false))]<|.w 5 [(1,.val (rY i))]<|.e)) (.e))) Tryz.func70 rfl rfl rfl (by kernel_rfl) ?_
 refine tt ⟨⟨by omega,eG,fun x hx=>by rw[RS hx];exact⟨rfl,oK⟩⟩,tt ⟨⟨by omega,eG,fun x hx=>by rw[RS hx];exact⟨rfl,oK⟩⟩,tt ⟨rfl,⟨by omega,rfl⟩,?_⟩⟩⟩
 intro i T8 I'
 obtain⟨hi,We⟩:=I'
 have hdl:T8.length=p.I.length:=by rw[We,dm (by rw[eG];exact hi),eG]
 refine tt (cd (fun VR=>?_) (fun VR=>?_))
 · have Yx:=uI hp (show i<p.I.length by omega)
   refine⟨fun T7=>?_,fun T7=>?_⟩
   · refine tt ⟨ix,tt ⟨(wM p s (jg p) ((p.I.getD i aF).when) ho Ww Yx.1 Yx.2),⟨(bT T7),tt ⟨ix,tt ⟨fun Vq=>?_,fun Vq=>?_⟩⟩⟩⟩⟩
     · refine tt ⟨ix,tt ⟨ix,⟨⟨om,by simp only[Ss];rfl⟩,tt ⟨w6,tt ⟨(i+1,T8.set i ((hs.getD i aJ).v)),rfl,?_,(?_:p.I.length-(i+1)<p.I.length-i)⟩⟩⟩⟩⟩
       · exact⟨by omega,by rw[We];exact bR (by rw[eG];omega) (KO T7 Vq)⟩
       · omega
     · refine tt ⟨w6,tt ⟨(i+1,T8),rfl,?_,(?_:p.I.length-(i+1)<p.I.length-i)⟩⟩
       · exact⟨by omega,by rw[We];exact bP (by rw[eG];omega) (by first | exact EX (by assumption) | exact EY (by rw[Vq];simp))⟩
       · omega
   · refine tt ⟨ix,tt ⟨(wM p s (jg p) ((p.I.getD i aF).when) ho Ww Yx.1 Yx.2),⟨(bF T7),tt ⟨w6,tt ⟨(i+1,T8),rfl,?_,(?_:p.I.length-(i+1)<p.I.length-i)⟩⟩⟩⟩⟩
     · exact⟨by omega,by rw[We];exact bP (by rw[eG];omega) (by first | exact EX (by assumption) | exact EY (by rw[Vq];simp))⟩
     · omega
 · refine tt ⟨rfl,rfl,rfl,rfl,rfl,rfl,rfl,rfl,(congrArg _ (?_:T8=(bN p s hs))),oK⟩
   rw[We,show i=p.I.length by omega,cH (by rw[eG];exact RD _)];rfl
abbrev QL (p:Pr) (s:Ps) (data:List Int):Ct:=⟨72,[(JN p s data)],true,(.agg [(LI ((cz p s data).Ry)),(dL 1 aa [] ((cz p s data).Rx))])⟩
abbrev rZ (p:Pr) (s:Ps) (data:List Int):Lp (Nat):=io [1,2,3,4] 4 (fun (i:Nat)=>⟨[(1,(.ptr 0 0 0 0)),(2,(.ptr 1 0 0 0)),(3,(.ptr 2 0 0 0)),(4,(i6 (i:Int)))],[(JM p s data),(.var 56 [.nils,.nils]),(.var 56 [(.own 3),.nils]),(.arr 3 1 (ab .i64) 0 (tab (fun z=>(a8 p s data (p.Ry.getD z bH).next).1) i))]⟩) (fun (i:Nat)=>i≤p.Ry.length) (fun (i:Nat)=>p.Ry.length-i)
abbrev nQ (p:Pr) (s:Ps) (data:List Int) (i:Nat):Lp (Nat):=io [1,2,3,5] 5 (fun (j:Nat)=>⟨[(1,(.ptr 0 0 0 0)),(2,(.ptr 1 0 0 0)),(3,(.ptr 2 0 0 0)),(5,(i6 (j:Int)))],[(JM p s data),(.var 56 [.nils,.nils]),(.var 56 [(.own 3),(.own 4)]),(.arr 3 1 (ab .i64) 0 (tab (fun z=>(a8 p s data (p.Ry.getD z bH).next).1) i)),(.arr 42 1 aa [] (tab (sf p s data) j))]⟩) (fun (j:Nat)=>j≤p.Rx.length) (fun (j:Nat)=>p.Rx.length-j)
theorem JO (p:Pr) (s:Ps) (data:List Int) (hp:fk p) (Wv:m6 p s) (hda:Bm p data):CC (QL p s data):=by
 have Wp:=hp.rl
 have VJ:=hp.ml
 have Ww:=Wv.mn
 have ho:=hE hp Wv hda
 have hsl:=Wv.ml
 refine ah.vc (V:=TT 6 (GO (rZ p s data) 0 (∀i,(rZ p s data).inv i→TT 6 (CD ((i:Int)<(p.Ry.length:Int)) (TT 7 (IX (i:Int) p.Ry.length∧TT 2 (CC (B4 p s data 2 ((p.Ry.getD i bH).next))∧TT 1 (ai [[(i6 ((a8 p s data ((p.Ry.getD i bH).next)).1))]] ([(a8 p s data ((p.Ry.getD i bH).next)).1].map (ab .i64))∧((tab (fun z=>(a8 p s data (p.Ry.getD z bH).next).1) i).length+([(a8 p s data ((p.Ry.getD i bH).next)).1].map (ab .i64)).length≤137438953472∧(tab (fun z=>(a8 p s data (p.Ry.getD z bH).next).1) i).map (ab .i64)++[(a8 p s data ((p.Ry.getD i bH).next)).1].map (ab .i64)=(tab (fun z=>(a8 p s data (p.Ry.getD z bH).next).1) (i+1)).map (ab .i64))∧TT 3 (W6 ((i+1:Nat):Int)∧TT 1 (AG (rZ p s data) i (i+1))))))) (TT 1 (GO (nQ p s data i) 0 (∀j,(nQ p s data i).inv j→TT 6 (CD ((j:Int)<(p.Rx.length:Int)) (TT 4 (IX (j:Int) p.Rx.length∧TT 3 (ai [] (([]:List Int).map (ab .i64))∧TT 4 (IX (j:Int) s.Rx.length∧TT 1 ((([]:List Int).length+((s.Rx.getD j []).map (ab .i64)).length≤137438953472∧([]:List Int).map (ab .i64)++(s.Rx.getD j []).map (ab .i64)=(s.Rx.getD j []).map (ab .i64))∧TT 4 (CC (DN p s data ((p.Rx.getD j aP).enable))∧CB (ee p s data ((p.Rx.getD j aP).enable)) (TT 4 (CC (B4 p s data 2 ((p.Rx.getD j aP).addr))∧TT 3 (((p.Rx.getD j aP).words)≠0∧TT 3 (CC (B4 p s data 2 ((p.Rx.getD j aP).data))∧TT 1 (IX (Int.tmod ((a8 p s data ((p.Rx.getD j aP).addr)).1) ((p.Rx.getD j aP).words)) ((s.Rx.getD j []).length)∧((Int.tmod ((a8 p s data ((p.Rx.getD j aP).addr)).1) ((p.Rx.getD j aP).words)).toNat<(s.Rx.getD j []).length∧((s.Rx.getD j []).map (ab .i64)).set ((Int.tmod ((a8 p s data ((p.Rx.getD j aP).addr)).1) ((p.Rx.getD j aP).words)).toNat) (((ab .i64) ((s.Rx.getD j []).getD ((Int.tmod ((a8 p s data ((p.Rx.getD j aP).addr)).1) ((p.Rx.getD j aP).words)).toNat) 0)).take 0++[(.int .i64 ((a8 p s data ((p.Rx.getD j aP).data)).1))]++((ab .i64) ((s.Rx.getD j []).getD ((Int.tmod ((a8 p s data ((p.Rx.getD j aP).addr)).1) ((p.Rx.getD j aP).words)).toNat) 0)).drop (0+1))=((s.Rx.getD j []).set ((Int.tmod ((a8 p s data ((p.Rx.getD j aP).addr)).1) ((p.Rx.getD j aP).words)).toNat) ((a8 p s data ((p.Rx.getD j aP).data)).1)).map (ab .i64))∧TT 3 (ai [[(LI ((s.Rx.getD j []).set ((Int.tmod ((a8 p s data ((p.Rx.getD j aP).addr)).1) ((p.Rx.getD j aP).words)).toNat) ((a8 p s data ((p.Rx.getD j aP).data)).1)))]] ([(s.Rx.getD j []).set ((Int.tmod ((a8 p s data ((p.Rx.getD j aP).addr)).1) ((p.Rx.getD j aP).words)).toNat) ((a8 p s data ((p.Rx.getD j aP).data)).1)].map aa)∧((tab (sf p s data) j).length+([(s.Rx.getD j []).set ((Int.tmod ((a8 p s data ((p.Rx.getD j aP).addr)).1) ((p.Rx.getD j aP).words)).toNat) ((a8 p s data ((p.Rx.getD j aP).data)).1)].map aa).length≤137438953472∧(tab (sf p s data) j).map aa++[(s.Rx.getD j []).set ((Int.tmod ((a8 p s data ((p.Rx.getD j aP).addr)).1) ((p.Rx.getD j aP).words)).toNat) ((a8 p s data ((p.Rx.getD j aP).data)).1)].map aa=(tab (sf p s data) (j+1)).map aa)∧TT 3 (W6 ((j+1:Nat):Int)∧TT 1 (AG (nQ p s data i) j (j+1))))))))) (TT 3 (ai [[(LI (s.Rx.getD j []))]] ([s.Rx.getD j []].map aa)∧((tab (sf p s data) j).length+([s.Rx.getD j []].map aa).length≤137438953472∧(tab (sf p s data) j).map aa++[s.Rx.getD j []].map aa=(tab (sf p s data) (j+1)).map aa)∧TT 3 (W6 ((j+1:Nat):Int)∧TT 1 (AG (nQ p s data i) j (j+1))))))))))) (TT 3 ((tab (fun z=>(a8 p s data (p.Ry.getD z bH).next).1) i).map (ab .i64)=((cz p s data).Ry).map (ab .i64)∧(tab (sf p s data) j).map aa=((cz p s data).Rx).map aa∧True)))))))))) (.g 2 2 0 3 1 (ab .i64) 0<|.l (rZ p s data) 0 (fun i=>.b 14 (.w 5 [(10,(B4 p s data 2 ((p.Ry.getD i bH).next)).O),(12,.box 3 1 (ab .i64) 0 [(a8 p s data ((p.Ry.getD i bH).next)).1]),(13,.box 3 1 (ab .i64) 0 (tab (fun z=>(a8 p s data (p.Ry.getD z bH).next).1) (i+1)))]<|.w 4 [(1,.val (rY i))]<|.e) (.g 6 2 1 42 1 aa []<|.l (nQ p s data i) 0 (fun j=>.b 37 (.w 10 [(0,.box 3 1 (ab .i64) 0 ([]:List Int)),(7,.box 3 1 (ab .i64) 0 (s.Rx.getD j []))]<|.w 11 [(3,(DN p s data ((p.Rx.getD j aP).enable)).O)]<|.b 57 (.w 12 [(4,(B4 p s data 2 ((p.Rx.getD j aP).addr)).O),(12,(B4 p s data 2 ((p.Rx.getD j aP).data)).O),(15,.box 3 1 (ab .i64) 0 ((s.Rx.getD j []).set ((Int.tmod ((a8 p s data ((p.Rx.getD j aP).addr)).1) ((p.Rx.getD j aP).words)).toNat) ((a8 p s data ((p.Rx.getD j aP).data)).1)))]<|.f 13 6<|.w 13 [(3,.box 42 1 aa [] [(s.Rx.getD j []).set ((Int.tmod ((a8 p s data ((p.Rx.getD j aP).addr)).1) ((p.Rx.getD j aP).words)).toNat) ((a8 p s data ((p.Rx.getD j aP).data)).1)]),(4,.box 42 1 aa [] (tab (sf p s data) (j+1)))]<|.w 8 [(1,.val (i6 ((j+1:Nat):Int)))]<|.e) (.f 13 6<|.w 13 [(3,.box 42 1 aa [] [s.Rx.getD j []]),(4,.box 42 1 aa [] (tab (sf p s data) (j+1)))]<|.w 8 [(1,.val (i6 ((j+1:Nat):Int)))]<|.e)) (.e))))) Tryz.func72 rfl rfl rfl (by kernel_rfl) ?_
 refine tt ⟨rfl,(by omega),?_⟩
 intro i I'
 have hi:=I'
 refine tt (cd (fun VT=>?_) (fun VT=>?_))
 · have hrn:=hp.rw i (by omega)
   refine tt ⟨ix,tt ⟨(kH ho Ww 2 ((p.Ry.getD i bH).next) _ hrn.2.2.1 hrn.2.2.2),tt ⟨⟨⟨rfl,oK⟩,oK⟩,⟨(fV (f:=fun z=>(a8 p s data (p.Ry.getD z bH).next).1) (by omega)),tt ⟨w6,tt ⟨(i+1),rfl,(?_:(i+1)≤p.Ry.length),(?_:p.Ry.length-(i+1)<p.Ry.length-i)⟩⟩⟩⟩⟩⟩
   · omega
   · omega
 · refine tt ⟨rfl,(by omega),?_⟩
   intro j I'
   have hj:=I'
   refine tt (cd (fun Wf=>?_) (fun Wf=>?_))
   · have hmz:1≤(p.Rx.getD j aP).words∧(p.Rx.getD j aP).words≤4:=(hp.mw j (by omega)).2.1
     have hml:((s.Rx.getD j []).length:Int)=(p.Rx.getD j aP).words:=Wv.mn j (by omega)
     have Yk:=(hp.mw j (by omega)).2.2.1
     have Z8:=(hp.mw j (by omega)).2.2.2
     obtain⟨va,hma⟩:=Z8.1.1
     have had:0≤Int.tmod (a8 p s data (p.Rx.getD j aP).addr).1 (p.Rx.getD j aP).words∧Int.tmod (a8 p s data (p.Rx.getD j aP).addr).1 (p.Rx.getD j aP).words<(s.Rx.getD j []).length∧(p.Rx.getD j aP).words≠0:=E3 hp Wv hda (show j<p.Rx.length by omega)
     refine tt ⟨ix,tt ⟨oK,tt ⟨ix,tt ⟨⟨by simp only[RJ,RN];omega,by simp⟩,tt ⟨(wM p s data ((p.Rx.getD j aP).enable) ho Ww Yk.1 Yk.2),⟨fun Wr=>?_,fun Wr=>?_⟩⟩⟩⟩⟩⟩
     · refine tt ⟨(kH ho Ww 2 ((p.Rx.getD j aP).addr) _ hma Z8.1.2),tt ⟨om,tt ⟨(kH ho Ww 2 ((p.Rx.getD j aP).data) _ Z8.2.1 Z8.2.2),tt ⟨ix,⟨⟨om,by simp only[Ss];rfl⟩,tt ⟨⟨⟨rfl,oK⟩,oK⟩,⟨(a6 (by omega) (by first | exact zx Wr | exact EZ (by rw[Wr];simp))),tt ⟨w6,tt ⟨(j+1),rfl,(?_:(j+1)≤p.Rx.length),(?_:p.Rx.length-(j+1)<p.Rx.length-j)⟩⟩⟩⟩⟩⟩⟩⟩⟩
       · omega
       · omega
     · refine tt ⟨⟨⟨rfl,oK⟩,oK⟩,⟨(a6 (by omega) (by first | exact zx Wr | exact EZ (by rw[Wr];simp))),tt ⟨w6,tt ⟨(j+1),rfl,(?_:(j+1)≤p.Rx.length),(?_:p.Rx.length-(j+1)<p.Rx.length-j)⟩⟩⟩⟩
       · omega
       · omega
   · refine tt ⟨(congrArg _ (?_:(tab (fun z=>(a8 p s data (p.Ry.getD z bH).next).1) i)=((cz p s data).Ry))),(congrArg _ (?_:(tab (sf p s data) j)=((cz p s data).Rx))),oK⟩
     · rw[show i=p.Ry.length by omega];rfl
     · rw[show j=p.Rx.length by omega];rfl
abbrev O9 (p:Pr) (s:Ps) (hs:List Hd) (rs:List Bool):Ct:=⟨43,[(JL p),(.agg (wL s)),(.agg [(dL 2 bt aJ hs),(LB rs)])],true,(.agg [(dB ((ax p s hs rs).fires)),(LI (((ax p s hs rs).s).Ry)),(dL 1 aa [] (((ax p s hs rs).s).Rx)),(LB ((ax p s hs rs).pops)),(dL 2 bt aJ ((ax p s hs rs).Rv))])⟩
abbrev i3 (p:Pr) (s:Ps) (hs:List Hd) (rs:List Bool):Lp (Nat×Bool):=pI [3,5,6,7,8,9] 16 (fun (i:Nat) (Uy:Bool)=>⟨[(3,(.ptr 0 0 0 0)),(5,(.ptr 2 0 0 0)),(6,(.ptr 3 0 0 0)),(7,(.ptr 4 0 0 0)),(8,(.ptr 15 0 0 0)),(9,(i6 (i:Int)))],[(wK p),(.var 56 (wL s)),(.var 106 [(dL 2 bt aJ hs),(LB rs)]),FF,(FE p s hs),.dead,.dead,.dead,.dead,(.arr 4 1 aL false (List.replicate p.I.length false)),.dead,.dead,.dead,(.arr 115 2 bt aJ (List.replicate p.Rv.length aJ)),.dead,(.var 101 [(dB Uy),(LI s.Ry),(dL 1 aa [] s.Rx),(.own 9),(.own 13)])]⟩) (fun (i:Nat) (Uy:Bool)=>i≤p.I.length∧Uy=eu (iP p s hs) i) (fun (i:Nat) (Uy:Bool)=>p.I.length-i)
abbrev i4 (p:Pr) (s:Ps) (hs:List Hd) (rs:List Bool) (Uy:Bool):Lp (Nat×Bool):=pI [3,5,6,7,8,10] 16 (fun (m:Nat) (Uu:Bool)=>⟨[(3,(.ptr 0 0 0 0)),(5,(.ptr 2 0 0 0)),(6,(.ptr 3 0 0 0)),(7,(.ptr 4 0 0 0)),(8,(.ptr 15 0 0 0)),(10,(i6 (m:Int)))],[(wK p),(.var 56 (wL s)),(.var 106 [(dL 2 bt aJ hs),(LB rs)]),FF,(FE p s hs),.dead,.dead,.dead,.dead,(.arr 4 1 aL false (List.replicate p.I.length false)),.dead,.dead,.dead,(.arr 115 2 bt aJ (List.replicate p.Rv.length aJ)),.dead,(.var 101 [(dB Uu),(LI s.Ry),(dL 1 aa [] s.Rx),(.own 9),(.own 13)])]⟩) (fun (m:Nat) (Uu:Bool)=>m≤p.Rv.length∧Uu=(Uy&&eu (ko p s hs rs) m)) (fun (m:Nat) (Uu:Bool)=>p.Rv.length-m)
abbrev pg (p:Pr) (s:Ps) (hs:List Hd) (rs:List Bool) (Uu:Bool):Lp (Nat×List Bool):=pI [3,6,7,8,11] 16 (fun (q:Nat) (Uq:List Bool)=>⟨[(3,(.ptr 0 0 0 0)),(6,(.ptr 3 0 0 0)),(7,(.ptr 4 0 0 0)),(8,(.ptr 15 0 0 0)),(11,(i6 (q:Int)))],[(wK p),(.var 56 (wL s)),(.var 106 [(dL 2 bt aJ hs),(LB rs)]),FF,(FE p s hs),.dead,.dead,.dead,.dead,(.arr 4 1 aL false Uq),.dead,.dead,.dead,(.arr 115 2 bt aJ (List.replicate p.Rv.length aJ)),.dead,(.var 101 [(dB Uu),(LI ((cz p s (bN p s hs)).Ry)),(dL 1 aa [] ((cz p s (bN p s hs)).Rx)),(.own 9),(.own 13)])]⟩) (fun (q:Nat) (Uq:List Bool)=>q≤p.I.length∧Uq=cM (m4 p s hs) (List.replicate p.I.length false) q) (fun (q:Nat) (Uq:List Bool)=>p.I.length-q)
abbrev kI (p:Pr) (s:Ps) (hs:List Hd) (rs:List Bool) (Uu:Bool) (Uq:List Bool):Lp (Nat×List Hd):=pI [3,6,7,8,12] 16 (fun (t:Nat) (put:List Hd)=>⟨[(3,(.ptr 0 0 0 0)),(6,(.ptr 3 0 0 0)),(7,(.ptr 4 0 0 0)),(8,(.ptr 15 0 0 0)),(12,(i6 (t:Int)))],[(wK p),(.var 56 (wL s)),(.var 106 [(dL 2 bt aJ hs),(LB rs)]),FF,(FE p s hs),.dead,.dead,.dead,.dead,(.arr 4 1 aL false Uq),.dead,.dead,.dead,(.arr 115 2 bt aJ put),.dead,(.var 101 [(dB Uu),(LI ((cz p s (bN p s hs)).Ry)),(dL 1 aa [] ((cz p s (bN p s hs)).Rx)),(.own 9),(.own 13)])]⟩) (fun (t:Nat) (put:List Hd)=>t≤p.Rv.length∧put=cM (m5 p s hs) (List.replicate p.Rv.length aJ) t) (fun (t:Nat) (put:List Hd)=>p.Rv.length-t)
theorem yo (p:Pr) (s:Ps) (hs:List Hd) (rs:List Bool) (hp:fk p) (Wv:m6 p s) (hh:zq p hs) (hrs:rs.length=p.Rv.length):CC (O9 p s hs rs):=by
 have Yj:=hp.tl
 have ZC:=hp.pl
 have hhl:=hh.l
 have Ww:=Wv.mn
 have ho:=hE hp Wv (wb (s:=s) (hs:=hs) hp hh)
 have hda:=wb (s:=s) (hs:=hs) hp hh
 refine ah.vc (V:=TT 7 (CC (QK p s hs rs)∧TT 6 ((((0:Int)≤(p.I.length:Int)∧(p.I.length:Int)≤(p.I.length:Int)∧(p.I.length:Int)≤137438953472)∧(List.replicate p.I.length false).length=p.I.length∧∀x∈(List.replicate p.I.length false),cg [(dB false)] (aL x))∧TT 3 ((((0:Int)≤(p.Rv.length:Int)∧(p.Rv.length:Int)≤(p.Rv.length:Int)∧(p.Rv.length:Int)≤137438953472)∧(List.replicate p.Rv.length aJ).length=p.Rv.length∧∀x∈(List.replicate p.Rv.length aJ),cg [(dB false),(i6 0)] (bt x))∧TT 4 (GO (i3 p s hs rs) (0,true) (∀i Uy,(i3 p s hs rs).inv (i,Uy)→TT 5 (CD ((i:Int)<(p.I.length:Int)) (CS (Uy=true) (CS (((hs.getD i aJ).has)=true) (TT 2 ((True∧Uy=true)∧TT 3 (IX (i:Int) hs.length∧TT 2 ((True∧((hs.getD i aJ).has)=true)∧TT 5 (W6 ((i+1:Nat):Int)∧TT 1 (AG (i3 p s hs rs) (i,Uy) (i+1,true))))))) (TT 2 ((True∧Uy=true)∧TT 3 (IX (i:Int) hs.length∧TT 2 ((True∧((hs.getD i aJ).has)=false)∧TT 4 (IX (i:Int) p.I.length∧TT 2 (CC (DN p s (bN p s hs) ((p.I.getD i aF).when))∧TT 6 (W6 ((i+1:Nat):Int)∧TT 1 (AG (i3 p s hs rs) (i,Uy) (i+1,!(ee p s (bN p s hs) ((p.I.getD i aF).when)))))))))))) (TT 2 ((True∧Uy=false)∧TT 4 (W6 ((i+1:Nat):Int)∧TT 1 (AG (i3 p s hs rs) (i,Uy) (i+1,false)))))) (TT 1 (GO (i4 p s hs rs Uy) (0,Uy) (∀m Uu,(i4 p s hs rs Uy).inv (m,Uu)→TT 5 (CD ((m:Int)<(p.Rv.length:Int)) (CS (Uu=true) (CS ((rs.getD m false)=true) (TT 2 ((True∧Uu=true)∧TT 3 (IX (m:Int) rs.length∧TT 1 ((True∧(rs.getD m false)=true)∧TT 5 (W6 ((m+1:Nat):Int)∧TT 1 (AG (i4 p s hs rs Uy) (m,Uu) (m+1,true))))))) (TT 2 ((True∧Uu=true)∧TT 3 (IX (m:Int) rs.length∧TT 1 ((True∧(rs.getD m false)=false)∧TT 4 (IX (m:Int) p.Rv.length∧TT 2 (CC (DN p s (bN p s hs) ((p.Rv.getD m aB).when))∧TT 6 (W6 ((m+1:Nat):Int)∧TT 1 (AG (i4 p s hs rs Uy) (m,Uu) (m+1,!(ee p s (bN p s hs) ((p.Rv.getD m aB).when)))))))))))) (TT 2 ((True∧Uu=false)∧TT 4 (W6 ((m+1:Nat):Int)∧TT 1 (AG (i4 p s hs rs Uy) (m,Uu) (m+1,false)))))) (TT 3 (CB (!Uu) (TT 3 (Uu=((ax p s hs rs).fires)∧s.Ry.map (ab .i64)=(((ax p s hs rs).s).Ry).map (ab .i64)∧s.Rx.map aa=(((ax p s hs rs).s).Rx).map aa∧(List.replicate p.I.length false).map aL=((ax p s hs rs).pops).map aL∧(List.replicate p.Rv.length aJ).map bt=((ax p s hs rs).Rv).map bt∧True)) (TT 1 (CC (QL p s (bN p s hs))∧TT 3 (GO (pg p s hs rs Uu) (0,List.replicate p.I.length false) (∀q Uq,(pg p s hs rs Uu).inv (q,Uq)→TT 5 (CD ((q:Int)<(p.I.length:Int)) (TT 7 (IX (q:Int) p.I.length∧TT 2 (CC (DN p s (bN p s hs) ((p.I.getD q aF).when))∧IX (q:Int) Uq.length∧(q<Uq.length∧(Uq.map aL).set q ((aL (Uq.getD q false)).take 0++[(.bool (ee p s (bN p s hs) ((p.I.getD q aF).when)))]++(aL (Uq.getD q false)).drop (0+1))=(Uq.set q (ee p s (bN p s hs) ((p.I.getD q aF).when))).map aL)∧TT 1 (W6 ((q+1:Nat):Int)∧TT 1 (AG (pg p s hs rs Uu) (q,Uq) (q+1,Uq.set q (ee p s (bN p s hs) ((p.I.getD q aF).when)))))))) (TT 1 (GO (kI p s hs rs Uu Uq) (0,List.replicate p.Rv.length aJ) (∀t put,(kI p s hs rs Uu Uq).inv (t,put)→TT 5 (CD ((t:Int)<(p.Rv.length:Int)) (TT 4 (IX (t:Int) p.Rv.length∧TT 2 (CC (DN p s (bN p s hs) ((p.Rv.getD t aB).when))∧CB (ee p s (bN p s hs) ((p.Rv.getD t aB).when)) (TT 7 (IX (t:Int) p.Rv.length∧TT 2 (CC (B4 p s (bN p s hs) 2 ((p.Rv.getD t aB).data))∧TT 2 (IX (t:Int) put.length∧(t<put.length∧(put.map bt).set t ((bt (put.getD t aJ)).take 0++[(.bool true),(.int .i64 ((a8 p s (bN p s hs) ((p.Rv.getD t aB).data)).1))]++(bt (put.getD t aJ)).drop (0+2))=(put.set t (⟨true,(a8 p s (bN p s hs) ((p.Rv.getD t aB).data)).1⟩:Hd)).map bt)∧TT 1 (W6 ((t+1:Nat):Int)∧TT 1 (AG (kI p s hs rs Uu Uq) (t,put) (t+1,put.set t (⟨true,(a8 p s (bN p s hs) ((p.Rv.getD t aB).data)).1⟩:Hd)))))))) (TT 1 (W6 ((t+1:Nat):Int)∧TT 1 (AG (kI p s hs rs Uu Uq) (t,put) (t+1,put))))))) (TT 3 (Uu=((ax p s hs rs).fires)∧((cz p s (bN p s hs)).Ry).map (ab .i64)=(((ax p s hs rs).s).Ry).map (ab .i64)∧((cz p s (bN p s hs)).Rx).map aa=(((ax p s hs rs).s).Rx).map aa∧Uq.map aL=((ax p s hs rs).pops).map aL∧put.map bt=((ax p s hs rs).Rv).map bt∧True)))))))))))))))))))))))) (.w 1 [(3,(QK p s hs rs).O)]<|.w 2 [(4,.box 4 1 aL false (List.replicate p.I.length false)),(8,.box 115 2 bt aJ (List.replicate p.Rv.length aJ))]<|.l (i3 p s hs rs) (0,true) (fun ⟨i,Uy⟩=>.b 31 (.s 6 (Uy=true) (.s 6 (((hs.getD i aJ).has)=true) (.w 6 [(2,.val (dB true)),(9,.val (dB true))]<|.w 5 [(1,.val (rY i))]<|.e) (.w 6 [(2,.val (dB true)),(9,.val (dB false)),(17,(DN p s (bN p s hs) ((p.I.getD i aF).when)).O)]<|.w 5 [(1,.val (rY i))]<|.e)) (.w 6 [(2,.val (dB false))]<|.w 5 [(1,.val (rY i))]<|.e)) (.l (i4 p s hs rs Uy) (0,Uy) (fun ⟨m,Uu⟩=>.b 60 (.s 10 (Uu=true) (.s 10 ((rs.getD m false)=true) (.w 10 [(2,.val (dB true)),(8,.val (dB true))]<|.w 9 [(1,.val (i6 ((m+1:Nat):Int)))]<|.e) (.w 10 [(2,.val (dB true)),(8,.val (dB false)),(16,(DN p s (bN p s hs) ((p.Rv.getD m aB).when)).O)]<|.w 9 [(1,.val (i6 ((m+1:Nat):Int)))]<|.e)) (.w 10 [(2,.val (dB false))]<|.w 9 [(1,.val (i6 ((m+1:Nat):Int)))]<|.e)) (.b 86 (.e) (.w 13 [(1,(QL p s (bN p s hs)).O)]<|.l (pg p s hs rs Uu) (0,List.replicate p.I.length false) (fun ⟨q,Uq⟩=>.b 95 (.w 17 [(10,(DN p s (bN p s hs) ((p.I.getD q aF).when)).O),(12,.box 4 1 aL false (Uq.set q (ee p s (bN p s hs) ((p.I.getD q aF).when))))]<|.w 16 [(1,.val (i6 ((q+1:Nat):Int)))]<|.e) (.l (kI p s hs rs Uu Uq) (0,List.replicate p.Rv.length aJ) (fun ⟨t,put⟩=>.b 114 (.w 21 [(7,(DN p s (bN p s hs) ((p.Rv.getD t aB).when)).O)]<|.b 124 (.w 22 [(10,(B4 p s (bN p s hs) 2 ((p.Rv.getD t aB).data)).O),(14,.box 115 2 bt aJ (put.set t (⟨true,(a8 p s (bN p s hs) ((p.Rv.getD t aB).data)).1⟩:Hd)))]<|.w 20 [(1,.val (i6 ((t+1:Nat):Int)))]<|.e) (.w 20 [(1,.val (i6 ((t+1:Nat):Int)))]<|.e)) (.e)))))))))) Tryz.func43 rfl rfl rfl (by kernel_rfl) ?_
 refine tt ⟨(DP p s hs rs hp Wv hh),tt ⟨⟨by omega,RC,fun x hx=>by rw[RS hx];exact⟨rfl,oK⟩⟩,tt ⟨⟨by omega,RC,fun x hx=>by rw[RS hx];exact⟨rfl,rfl,oK⟩⟩,tt ⟨rfl,⟨by omega,rfl⟩,?_⟩⟩⟩⟩
 intro i Uy I'
 obtain⟨hi,U1⟩:=I'
 refine tt (cd (fun hc31=>?_) (fun hc31=>?_))
 · have Yx:=uI hp (show i<p.I.length by omega)
   refine⟨fun T7=>?_,fun T7=>?_⟩
   · refine⟨fun Ur=>?_,fun Ur=>?_⟩
     · refine tt ⟨(bT T7),tt ⟨ix,tt ⟨(bT Ur),tt ⟨w6,tt ⟨(i+1,true),rfl,?_,(?_:p.I.length-(i+1)<p.I.length-i)⟩⟩⟩⟩⟩
       · exact⟨by omega,nd U1 _ (by unfold iP;clear U1;cases Uy<;>simp_all)⟩
       · omega
     · refine tt ⟨(bT T7),tt ⟨ix,tt ⟨(bF Ur),tt ⟨ix,tt ⟨(wM p s (bN p s hs) ((p.I.getD i aF).when) ho Ww Yx.1 Yx.2),tt ⟨w6,tt ⟨(i+1,!(ee p s (bN p s hs) ((p.I.getD i aF).when))),rfl,?_,(?_:p.I.length-(i+1)<p.I.length-i)⟩⟩⟩⟩⟩⟩⟩
       · exact⟨by omega,nd U1 _ (by unfold iP;clear U1;cases Uy<;>simp_all)⟩
       · omega
   · refine tt ⟨(bF T7),tt ⟨w6,tt ⟨(i+1,false),rfl,?_,(?_:p.I.length-(i+1)<p.I.length-i)⟩⟩⟩
     · exact⟨by omega,nd U1 _ (by unfold iP;clear U1;cases Uy<;>simp_all)⟩
     · omega
 · refine tt ⟨rfl,⟨by omega,by simp[eu]⟩,?_⟩
   intro m Uu I'
   obtain⟨hm,VE⟩:=I'
   refine tt (cd (fun hc60=>?_) (fun hc60=>?_))
   · have XX:=hp.pw m (by omega)
     refine⟨fun Vs=>?_,fun Vs=>?_⟩
     · refine⟨fun hs3=>?_,fun hs3=>?_⟩
       · refine tt ⟨(bT Vs),tt ⟨ix,tt ⟨(bT hs3),tt ⟨w6,tt ⟨(m+1,true),rfl,?_,(?_:p.Rv.length-(m+1)<p.Rv.length-m)⟩⟩⟩⟩⟩
         · exact⟨by omega,sU VE _ (by unfold ko;clear VE U1;cases Uu<;>simp_all)⟩
         · omega
       · refine tt ⟨(bT Vs),tt ⟨ix,tt ⟨(bF hs3),tt ⟨ix,tt ⟨(wM p s (bN p s hs) ((p.Rv.getD m aB).when) ho Ww XX.2.1.1 XX.2.1.2),tt ⟨w6,tt ⟨(m+1,!(ee p s (bN p s hs) ((p.Rv.getD m aB).when))),rfl,?_,(?_:p.Rv.length-(m+1)<p.Rv.length-m)⟩⟩⟩⟩⟩⟩⟩
         · exact⟨by omega,sU VE _ (by unfold ko;clear VE U1;cases Uu<;>simp_all)⟩
         · omega
     · refine tt ⟨(bF Vs),tt ⟨w6,tt ⟨(m+1,false),rfl,?_,(?_:p.Rv.length-(m+1)<p.Rv.length-m)⟩⟩⟩
       · exact⟨by omega,sU VE _ (by unfold ko;clear VE U1;cases Uu<;>simp_all)⟩
       · omega
   · have Vp:i=p.I.length:=by omega
     have Yk:m=p.Rv.length:=by omega
     refine tt ⟨fun X0=>?_,fun X0=>?_⟩
     · refine tt ⟨?_,(congrArg _ (?_:s.Ry=(((ax p s hs rs).s).Ry))),(congrArg _ (?_:s.Rx=(((ax p s hs rs).s).Rx))),(congrArg _ (?_:(List.replicate p.I.length false)=((ax p s hs rs).pops))),(congrArg _ (?_:(List.replicate p.Rv.length aJ)=((ax p s hs rs).Rv))),oK⟩
       all_goals
         rw[EW (by rw[oC (rs:=rs) (a:=Uy) (b:=Uu) (by rw[U1,Vp]) (by rw[VE,Yk])];simpa using X0)]
         first | done | rfl | simpa using X0
     · refine tt ⟨(JO p s (bN p s hs) hp Wv hda),tt ⟨rfl,⟨by omega,rfl⟩,?_⟩⟩
       intro q Uq I'
       obtain⟨hq,UZ⟩:=I'
       have Xf:Uq.length=p.I.length:=by rw[UZ,dm (by rw[RC];exact hq),RC]
       refine tt (cd (fun Zj=>?_) (fun Zj=>?_))
       · have Yx:=uI hp (show q<p.I.length by omega)
         refine tt ⟨ix,tt ⟨(wM p s (bN p s hs) ((p.I.getD q aF).when) ho Ww Yx.1 Yx.2),⟨ix,⟨⟨om,by simp only[Ss];rfl⟩,tt ⟨w6,tt ⟨(q+1,Uq.set q (ee p s (bN p s hs) ((p.I.getD q aF).when))),rfl,?_,(?_:p.I.length-(q+1)<p.I.length-q)⟩⟩⟩⟩⟩⟩
         · exact⟨by omega,by rw[UZ];exact bR (by rw[RC];omega) rfl⟩
         · omega
       · refine tt ⟨rfl,⟨by omega,rfl⟩,?_⟩
         intro t put I'
         obtain⟨ht,Vb⟩:=I'
         have W4:put.length=p.Rv.length:=by rw[Vb,dm (by rw[RC];exact ht),RC]
         refine tt (cd (fun hc114=>?_) (fun hc114=>?_))
         · have XX:=hp.pw t (by omega)
           refine tt ⟨ix,tt ⟨(wM p s (bN p s hs) ((p.Rv.getD t aB).when) ho Ww XX.2.1.1 XX.2.1.2),⟨fun Zk=>?_,fun Zk=>?_⟩⟩⟩
           · refine tt ⟨ix,tt ⟨(kH ho Ww 2 ((p.Rv.getD t aB).data) _ XX.2.2.1 XX.2.2.2),tt ⟨ix,⟨⟨om,by simp only[Ss];rfl⟩,tt ⟨w6,tt ⟨(t+1,put.set t (⟨true,(a8 p s (bN p s hs) ((p.Rv.getD t aB).data)).1⟩:Hd)),rfl,?_,(?_:p.Rv.length-(t+1)<p.Rv.length-t)⟩⟩⟩⟩⟩⟩
             · exact⟨by omega,by rw[Vb];exact bR (by rw[RC];omega) (RH Zk)⟩
             · omega
           · refine tt ⟨w6,tt ⟨(t+1,put),rfl,?_,(?_:p.Rv.length-(t+1)<p.Rv.length-t)⟩⟩
             · exact⟨by omega,by rw[Vb];exact bP (d:=aJ) (by rw[RC];omega) ((RE (by rw[Zk];simp)).trans ca.symm)⟩
             · omega
         · refine tt ⟨?_,(congrArg _ (?_:((cz p s (bN p s hs)).Ry)=(((ax p s hs rs).s).Ry))),(congrArg _ (?_:((cz p s (bN p s hs)).Rx)=(((ax p s hs rs).s).Rx))),(congrArg _ (?_:Uq=((ax p s hs rs).pops))),(congrArg _ (?_:put=((ax p s hs rs).Rv))),oK⟩
           all_goals
             rw[zw (by rw[oC (rs:=rs) (a:=Uy) (b:=Uu) (by rw[U1,Vp]) (by rw[VE,Yk])];simpa using X0)]
             first | done | (simpa using X0) | (rw[UZ,show q=p.I.length by omega,cH (by rw[RC];exact RD _)]) | (rw[Vb,show t=p.Rv.length by omega,cH (by rw[RC];exact RD _)])
end Go.Proofs.YtckgpflobhpnpaaGreat
