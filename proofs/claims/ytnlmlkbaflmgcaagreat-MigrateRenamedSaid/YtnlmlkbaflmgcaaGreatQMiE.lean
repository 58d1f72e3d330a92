/- Parts of a proof. -/
import Derived.Test.YtnlmlkbaflmgcaaGreatQPrB
namespace Go.Proofs.YtnlmlkbaflmgcaaGreat
open Go.RowKit
set_option linter.unusedVariables false
set_option linter.unusedSimpArgs false
theorem ah.of_empty {P:Program} {f:FuncId} {ar:List D} {E sz:Nat} {α:Type} {enc:α→List V} {d:α}
  (h:∀(S:Nat→Prop) (μ:Nat→Value) (w:World) (us:Array Value),aU S μ w ar us→Calls P f us w (fun e w'=>∃v,e=.returned v∧w'.ownsRow 0 E sz v 0 []∧w.grownBy w' none∧∀b,aO v=some b→w.heap.size≤b)) :
  ah P f ar [] false (.own 0) [.arr E sz enc d []]:=by
 intro S μ w us hS _ _ WX
 refine(h S μ w us WX).mono ?_
 rintro e w' ⟨v,rfl,ho,hg,Z5⟩
 have YA:v.oneCell'=true:=by rcases ho.2 with ⟨rfl,_⟩ | ⟨g,cap,W1,rfl,_⟩<;>rfl
 have hb:∀b,cx v b→w.heap.size≤b:=fun b h=>Z5 b (h.bl YA)
 have hB:aN S (fun _=>v) w' v (.arr E sz enc d []):=⟨fun i x hx=>by simp at hx,[],by simpa using ho,fun i x j y hx=>by simp at hx⟩
 refine⟨v,fun _=>v,S,rfl,hg.os,hg.tape,hg.output,hg.size,fun k hk _=>hg.block k hk (by simp),fun _ h=>h,fun _ h=>.inl h,fun b hb=>Vl (hS b hb) hg.size,?_,⟨fun id B W3=>?_,fun i j A B b hA W3 _ _ _ _=>?_,fun i A b hA _ XK hSb=>?_⟩,fun i A b hA _ XK=>.inl (hb b XK),fun i A hA=>by simp at hA⟩
 ·exact aq.own (μ:=fun _=>v) 0
 ·cases id with
  | zero=>simp at W3;subst W3;exact hB
  | succ id=>simp at W3
 ·have h1:i=0:=by cases i with | zero=>rfl | succ i=>simp at hA
  have h2:j=0:=by cases j with | zero=>rfl | succ j=>simp at W3
  rw[h1,h2]
 ·have:=hb b XK
  have:=hS b hSb
  omega
abbrev F9:aC:=(.arr 67 1 aa [] ([]:List (List Int)))
abbrev Ga:aC:=(.arr 3 1 (ab .i64) 0 ([]:List Int))
set_option maxRecDepth 100000
abbrev Sw (l:List Int):yb:=⟨51,[(LI l)],(.own 0),(.arr 3 1 (ab .i64) 0 l)⟩
theorem D1 (l:List Int) (h:l≠[]) (hl:l.length≤137438953472):CO (Sw l):=by
 refine ah.vcO (V:=TT 2 (l≠[]∧am [] (([]:List Int).map (ab .i64))∧TT 1 ((([]:List Int).length+(l.map (ab .i64)).length≤137438953472∧([]:List Int).map (ab .i64)++l.map (ab .i64)=l.map (ab .i64))∧TT 2 (((.own 0):D)=.own 0∧((.arr 3 1 (ab .i64) 0 l):aC)=(.arr 3 1 (ab .i64) 0 l))))) (.w 3 [(0,.box 3 1 (ab .i64) 0 ([]:List Int)),(2,.box 3 1 (ab .i64) 0 l)]<|.e) Tryz.func51 rfl rfl rfl (by kernel_rfl) ?_
 exact tt ⟨(by exact h),⟨oK,tt ⟨⟨by simp only[UB,UR];omega,by simp⟩,tt ⟨rfl,rfl⟩⟩⟩⟩
abbrev Sx:yb:=⟨51,[.nils],(.own 0),Ga⟩
theorem D2  : CO Sx:=by
 refine ah.vcO (V:=TT 5 (((.own 0):D)=.own 0∧([]:List Int)=[])) (.e) Tryz.func51 rfl rfl rfl (by kernel_rfl) ?_
 refine tt ⟨rfl,?_⟩
 rfl
abbrev Sy:yb:=⟨51,[(.v .esl)],(.own 0),Ga⟩
theorem D3  : CO Sy:=by
 refine ah.vcO (V:=TT 3 (am [] (([]:List Int).map (ab .i64))∧TT 1 ((([]:List Int).length+(([]:List (List V))).length≤137438953472∧([]:List Int).map (ab .i64)++([]:List (List V))=([]:List Int).map (ab .i64))∧TT 2 (((.own 0):D)=.own 0∧(Ga:aC)=Ga)))) (.w 3 [(0,.box 3 1 (ab .i64) 0 ([]:List Int)),(2,.box 3 1 (ab .i64) 0 ([]:List Int))]<|.e) Tryz.func51 rfl rfl rfl (by kernel_rfl) ?_
 exact tt ⟨oK,tt ⟨⟨by simp,by simp⟩,tt ⟨rfl,rfl⟩⟩⟩
abbrev Sz (l:List Int):yb:=⟨51,[(LI l)],(.own 0),(.arr 3 1 (ab .i64) 0 l)⟩
theorem Hx (l:List Int) (hl:l.length≤137438953472):CO (Sz l) :=
  ah.nilcases (fun h=>D1 l h hl) (fun h=>by subst h;exact D2) (fun h=>by subst h;exact D3)
abbrev SA (l:List Ps):yb:=⟨70,[(dL 2 bi a7 l)],(.own 0),(.arr 69 2 bi a7 l)⟩
theorem D4 (l:List Ps) (h:l≠[]) (hl:l.length≤137438953472):CO (SA l):=by
 refine ah.vcO (V:=TT 2 (l≠[]∧am [] (([]:List Ps).map bi)∧TT 1 ((([]:List Ps).length+(l.map bi).length≤137438953472∧([]:List Ps).map bi++l.map bi=l.map bi)∧TT 2 (((.own 0):D)=.own 0∧((.arr 69 2 bi a7 l):aC)=(.arr 69 2 bi a7 l))))) (.w 3 [(0,.box 69 2 bi a7 ([]:List Ps)),(2,.box 69 2 bi a7 l)]<|.e) Tryz.func70 rfl rfl rfl (by kernel_rfl) ?_
 exact tt ⟨(by exact h),⟨oK,tt ⟨⟨by simp only[UB,UR];omega,by simp⟩,tt ⟨rfl,rfl⟩⟩⟩⟩
abbrev SB:yb:=⟨70,[.nils],(.own 0),(.arr 69 2 bi a7 ([]:List Ps))⟩
theorem D5  : CO SB:=by
 refine ah.vcO (V:=TT 5 (((.own 0):D)=.own 0∧([]:List Ps)=[])) (.e) Tryz.func70 rfl rfl rfl (by kernel_rfl) ?_
 refine tt ⟨rfl,?_⟩
 rfl
abbrev SC:yb:=⟨70,[(.v .esl)],(.own 0),(.arr 69 2 bi a7 ([]:List Ps))⟩
theorem D6  : CO SC:=by
 refine ah.vcO (V:=TT 3 (am [] (([]:List Ps).map bi)∧TT 1 ((([]:List Ps).length+(([]:List (List V))).length≤137438953472∧([]:List Ps).map bi++([]:List (List V))=([]:List Ps).map bi)∧TT 2 (((.own 0):D)=.own 0∧((.arr 69 2 bi a7 ([]:List Ps)):aC)=(.arr 69 2 bi a7 ([]:List Ps)))))) (.w 3 [(0,.box 69 2 bi a7 ([]:List Ps)),(2,.box 69 2 bi a7 ([]:List Ps))]<|.e) Tryz.func70 rfl rfl rfl (by kernel_rfl) ?_
 exact tt ⟨oK,tt ⟨⟨by simp,by simp⟩,tt ⟨rfl,rfl⟩⟩⟩
abbrev SD (l:List Ps):yb:=⟨70,[(dL 2 bi a7 l)],(.own 0),(.arr 69 2 bi a7 l)⟩
theorem Hy (l:List Ps) (hl:l.length≤137438953472):CO (SD l) :=
  ah.nilcases (fun h=>D4 l h hl) (fun h=>by subst h;exact D5) (fun h=>by subst h;exact D6)
abbrev SE (l:List (List Int)):yb:=⟨71,[(dL 1 aa [] l)],(.own 0),(.arr 67 1 aa [] l)⟩
theorem D7 (l:List (List Int)) (h:l≠[]) (hl:l.length≤137438953472):CO (SE l):=by
 refine ah.vcO (V:=TT 2 (l≠[]∧am [] (([]:List (List Int)).map aa)∧TT 1 ((([]:List (List Int)).length+(l.map aa).length≤137438953472∧([]:List (List Int)).map aa++l.map aa=l.map aa)∧TT 2 (((.own 0):D)=.own 0∧((.arr 67 1 aa [] l):aC)=(.arr 67 1 aa [] l))))) (.w 3 [(0,.box 67 1 aa [] ([]:List (List Int))),(2,.box 67 1 aa [] l)]<|.e) Tryz.func71 rfl rfl rfl (by kernel_rfl) ?_
 exact tt ⟨(by exact h),⟨oK,tt ⟨⟨by simp only[UB,UR];omega,by simp⟩,tt ⟨rfl,rfl⟩⟩⟩⟩
abbrev SF:yb:=⟨71,[.nils],(.own 0),F9⟩
theorem D8  : CO SF:=by
 refine ah.vcO (V:=TT 5 (((.own 0):D)=.own 0∧([]:List (List Int))=[])) (.e) Tryz.func71 rfl rfl rfl (by kernel_rfl) ?_
 refine tt ⟨rfl,?_⟩
 rfl
abbrev SG:yb:=⟨71,[(.v .esl)],(.own 0),F9⟩
theorem D9  : CO SG:=by
 refine ah.vcO (V:=TT 3 (am [] (([]:List (List Int)).map aa)∧TT 1 ((([]:List (List Int)).length+(([]:List (List V))).length≤137438953472∧([]:List (List Int)).map aa++([]:List (List V))=([]:List (List Int)).map aa)∧TT 2 (((.own 0):D)=.own 0∧(F9:aC)=F9)))) (.w 3 [(0,.box 67 1 aa [] ([]:List (List Int))),(2,.box 67 1 aa [] ([]:List (List Int)))]<|.e) Tryz.func71 rfl rfl rfl (by kernel_rfl) ?_
 exact tt ⟨oK,tt ⟨⟨by simp,by simp⟩,tt ⟨rfl,rfl⟩⟩⟩
abbrev SI (l:List (List Int)):yb:=⟨71,[(dL 1 aa [] l)],(.own 0),(.arr 67 1 aa [] l)⟩
theorem Hz (l:List (List Int)) (hl:l.length≤137438953472):CO (SI l) :=
  ah.nilcases (fun h=>D7 l h hl) (fun h=>by subst h;exact D8) (fun h=>by subst h;exact D9)
set_option maxHeartbeats 1600000 in
theorem Ea (n:Nat) (hn:n≤137438953472) (w:World):Calls Tryz.prog 97 #[.slice none 0 0,.int .i64 (n:Int)] w (fun e w'=>∃v,e=.returned v∧w'.ownsRow 0 3 1 v 0 []∧w.grownBy w' none∧∀b,aO v=some b→w.heap.size≤b):=by
  by_cases h0:n=0
  · subst h0
    go_enter Tryz.func97,Tryz.ntmps97
    go_wp2
    go_ret
    exact⟨_,rfl,VS _ 0 _ _,lR w,fun b hb=>by simp[aO]at hb⟩
  · have hp:0<n:=by omega
    have e1:IntKind.i64.wrap ((n:Int)-(0-0))=(n:Int):=uD rfl (by omega) (by omega)
    have e0:¬((n:Int)<0):=by omega
    have e2:(n:Int)>0:=by omega
    have hb8:Tryz.t3.bytes=8:=rfl
    have hnx:Builtin.nextslicecap n 0=n:=nextslicecap_zero hp
    go_enter Tryz.func97,Tryz.ntmps97
    go_wp2
    all_goals try (exfalso;simp only[hb8,hnx]at *;omega)
    go_ret
    have hK:n≤grownCap w n 0 3∧grownCap w n 0 3≤maxLen:=⟨grownCap_ge ..,grownCap_le_maxLen _ _ _ _ (by unfold maxLen;omega)⟩
    refine⟨_,rfl,World.ownsRow_made w (Builtin.zeroCells #[Value.int IntKind.i64 0] n++Builtin.zeroCells #[Value.int IntKind.i64 0] (grownCap w n 0 3-n)) (grownCap w n 0 3) (Vs _) hK.2 ?_,⟨rfl,rfl,rfl,?_,fun k hk _=>?_⟩,fun b hb=>?_⟩
    · simp[Builtin.zeroCells];omega
    · simp
    · exact VD w _ k hk
    · simp[aO]at hb;omega
abbrev SJ (n:Nat):yb:=⟨97,[.nils,(i6 (n:Int))],.own 0,.arr 3 1 (ab .i64) 0 []⟩
theorem MG (n:Nat) (hn:n≤137438953472):CO (SJ n):=by
  refine ah.of_empty (fun S μ w us hu=>?_)
  obtain⟨h1,h2⟩:=hu
  have h0:us=#[us[0]'(by simp at h1;omega),us[1]'(by simp at h1;omega)]:=by
    apply Array.ext
    · simpa using h1
    · intro i a b
      simp at h1
      have:i=0∨i=1:=by omega
      rcases this with rfl | rfl<;>rfl
  have k0:=h2 0 _ (us[0]'(by simp at h1;omega)) rfl (UM _)
  have k1:=h2 1 _ (us[1]'(by simp at h1;omega)) rfl (UM _)
  rw[h0]
  generalize us[0]'(by simp at h1;omega)=x at k0 ⊢
  generalize us[1]'(by simp at h1;omega)=y at k1 ⊢
  cases k0
  rw[b6 k1]
  exact Ea n hn w
abbrev SK (ls:List (List Int)):Ct:=⟨89,[(dL 1 aa [] ls)],false,(LI ls.flatten)⟩
abbrev pp (ls:List (List Int)):Lp (Nat):=gD [0,3,9,10,11] 0 (fun (i:Nat)=>⟨[(0,(dL 1 aa [] ls)),(3,(i6 (((ls.take i).flatten.length:Nat):Int))),(9,(dL 1 aa [] ls)),(10,(i6 (ls.length:Int))),(11,(i6 (i:Int)))],[]⟩) (fun (i:Nat)=>i≤ls.length) (fun (i:Nat)=>ls.length-i)
abbrev pu (ls:List (List Int)):Lp (Nat):=gD [6,25,26,27] 1 (fun (j:Nat)=>⟨[(6,(.own 0)),(25,(dL 1 aa [] ls)),(26,(i6 (ls.length:Int))),(27,(i6 (j:Int)))],[(.arr 3 1 (ab .i64) 0 ((ls.take j).flatten))]⟩) (fun (j:Nat)=>j≤ls.length) (fun (j:Nat)=>ls.length-j)
theorem HA (ls:List (List Int)) (h1:ls.length≤1000000) (h2:ls.flatten.length≤137438953472):CC (SK ls):=by
 refine ah.vc (V:=TT 5 (GO (pp ls) 0 (∀i,(pp ls).inv i→TT 1 (CD ((i:Int)<(ls.length:Int)) (IX (i:Int) ls.length∧TT 5 ((True∧(IntKind.wrap .i64 ((((ls.take i).flatten.length:Nat):Int)+(((ls.getD i []).length:Nat):Int)))=(((ls.take (i+1)).flatten.length:Nat):Int))∧TT 3 ((decide ((((ls.take (i+1)).flatten.length:Nat):Int)<0))=false∧W6 ((i+1:Nat):Int)∧TT 1 (AG (pp ls) i (i+1))))) (TT 1 (CO (SJ ((ls.take i).flatten.length))∧TT 4 (GO (pu ls) 0 (∀j,(pu ls).inv j→TT 1 (CD ((j:Int)<(ls.length:Int)) (IX (j:Int) ls.length∧TT 4 ((((ls.take j).flatten).length+((ls.getD j []).map (ab .i64)).length≤137438953472∧((ls.take j).flatten).map (ab .i64)++(ls.getD j []).map (ab .i64)=((ls.take (j+1)).flatten).map (ab .i64))∧TT 1 (W6 ((j+1:Nat):Int)∧TT 1 (AG (pu ls) j (j+1))))) (TT 3 (((ls.take j).flatten).map (ab .i64)=ls.flatten.map (ab .i64)∧((∀z∈ls.flatten,((ab .i64) z).all V.scal=true))))))))))))) (.l (pp ls) 0 (fun i=>.b 12 (.w 5 [(3,.val (i6 (((ls.take (i+1)).flatten.length:Nat):Int)))]<|.u 20 (.w 8 [(0,.val (i6 ((i+1:Nat):Int)))]<|.e)) (.w 9 [(1,(SJ ((ls.take i).flatten.length)).O)]<|.l (pu ls) 0 (fun j=>.b 28 (.w 13 [(2,.box 3 1 (ab .i64) 0 ((ls.take (j+1)).flatten))]<|.w 14 [(0,.val (i6 ((j+1:Nat):Int)))]<|.e) (.e))))) Tryz.func89 rfl rfl rfl (by kernel_rfl) ?_
 refine tt ⟨rfl,(by omega),?_⟩
 intro i F'
 have hi:=F'
 refine tt (cd (fun XF=>?_) (fun XF=>?_))
 · have hi1:i<ls.length:=by omega
   have hf:=yr hi1
   have hg:=z4 (ls:=ls) (i:=i+1)
   rw[hf,UK]at hg
   refine⟨ix,tt ⟨⟨oK,(by rw[hf,UK,Int.natCast_add];exact uD rfl (by omega) (by omega))⟩,tt ⟨(Uy (by omega)),⟨w6,tt ⟨(i+1),rfl,(?_:(i+1)≤ls.length),(?_:ls.length-(i+1)<ls.length-i)⟩⟩⟩⟩⟩
   · omega
   · omega
 · have hg:=z4 (ls:=ls) (i:=i)
   refine tt ⟨(MG ((ls.take i).flatten.length) om),tt ⟨rfl,(by omega),?_⟩⟩
   intro j F'
   have hj:=F'
   refine tt (cd (fun XI=>?_) (fun XI=>?_))
   · have hj1:j<ls.length:=by omega
     have hf:=yr hj1
     have hg:=z4 (ls:=ls) (i:=j+1)
     rw[hf,UK]at hg
     refine⟨ix,tt ⟨⟨by simp only[UB];omega,by rw[hf,Vc]⟩,tt ⟨w6,tt ⟨(j+1),rfl,(?_:(j+1)≤ls.length),(?_:ls.length-(j+1)<ls.length-j)⟩⟩⟩⟩
     · omega
     · omega
   · refine tt ⟨(congrArg _ (?_:((ls.take j).flatten)=ls.flatten)),(fun _ _=>rfl)⟩
     exact Jw (by omega)
set_option maxRecDepth 100000
abbrev SZ (c:Ci) (s:Ns) (p:Nat):Ct:=⟨54,[(.agg [(dL 6 bG ac c.U),(dL 5 ca aK c.J)]),(.agg [(dL 2 bi a7 s.U),(dL 1 aa [] s.J)]),(i6 (p:Int))],true,(.agg [(dB ((ae c s p).fires)),(LI (((ae c s p).s).Ul)),(dL 1 aa [] (((ae c s p).s).Uk)),(LB ((ae c s p).pops)),(dL 2 db bu ((ae c s p).Uj))])⟩
abbrev oz (c:Ci) (s:Ns) (p:Nat):Lp (Nat):=gD [2,3,4,6,7,8,21,22,23] 4 (fun (i:Nat)=>⟨[(2,(i6 (p:Int))),(3,(.ptr 0 0 0 0)),(4,(.ptr 1 0 0 0)),(6,(.ptr 2 0 0 0)),(7,(.own 3)),(8,.nils),(21,(dL 9 dU bC ((c.U.getD p ac).I))),(22,(i6 ((((c.U.getD p ac).I).length:Nat):Int))),(23,(i6 (i:Int)))],[(.var 32 [(dL 6 bG ac c.U),(dL 5 ca aK c.J)]),(.var 36 [(dL 2 bi a7 s.U),(dL 1 aa [] s.J)]),(.var 135 [(dB false),.nils,.nils,.nils,.nils]),(.arr 167 2 db bu (tab (cf c s p) i))]⟩) (fun (i:Nat)=>i≤(c.U.getD p ac).I.length) (fun (i:Nat)=>(c.U.getD p ac).I.length-i)
abbrev oA (c:Ci) (s:Ns) (p:Nat) (i:Nat):Lp (Nat):=gD [2,3,4,6,7,8,50,51,52] 5 (fun (m:Nat)=>⟨[(2,(i6 (p:Int))),(3,(.ptr 0 0 0 0)),(4,(.ptr 1 0 0 0)),(6,(.ptr 2 0 0 0)),(7,(.own 3)),(8,(.own 4)),(50,(dL 16 dQ bt ((c.U.getD p ac).Uj))),(51,(i6 ((((c.U.getD p ac).Uj).length:Nat):Int))),(52,(i6 (m:Int)))],[(.var 32 [(dL 6 bG ac c.U),(dL 5 ca aK c.J)]),(.var 36 [(dL 2 bi a7 s.U),(dL 1 aa [] s.J)]),(.var 135 [(dB false),.nils,.nils,.nils,.nils]),(.arr 167 2 db bu (tab (cf c s p) i)),(.arr 4 1 ba false (tab (cg c s p) m))]⟩) (fun (m:Nat)=>m≤(c.U.getD p ac).Uj.length) (fun (m:Nat)=>(c.U.getD p ac).Uj.length-m)
theorem Ky (c:Ci) (s:Ns) (p:Nat) (hc:cr c) (hs:eG c s) (hp:p<c.U.length):CC (SZ c s p):=by
 have Xo:=hc.nl
 have hcl:=hc.cl
 have Zt:gm (c.U.getD p ac):=hc.pr p hp
 have YI:=hs.pl
 have Yf:=hs.cl
 have ht1:(c.U.getD p ac).I.length≤100:=Zt.tl
 have ht2:(c.U.getD p ac).Uj.length≤100:=Zt.pl
 refine ah.vc (V:=TT 8 (IX (p:Int) c.U.length∧TT 4 (GO (oz c s p) 0 (∀i,(oz c s p).inv i→TT 1 (CD ((i:Int)<((((c.U.getD p ac).I).length:Nat):Int)) (IX (i:Int) (((c.U.getD p ac).I).length)∧TT 8 (IX ((((c.U.getD p ac).I).getD i bC).chan) s.J.length∧TT 5 (CD ((((s.J.getD (((((c.U.getD p ac).I).getD i bC).chan).toNat) []).length:Nat):Int)>0) (TT 1 (IX 0 ((s.J.getD (((((c.U.getD p ac).I).getD i bC).chan).toNat) []).length)∧TT 5 (am [[(dB true),(i6 ((s.J.getD (((((c.U.getD p ac).I).getD i bC).chan).toNat) []).getD 0 0))]] ([(⟨true,((s.J.getD (((((c.U.getD p ac).I).getD i bC).chan).toNat) []).getD 0 0)⟩:Hd)].map db)∧((tab (cf c s p) i).length+([(⟨true,((s.J.getD (((((c.U.getD p ac).I).getD i bC).chan).toNat) []).getD 0 0)⟩:Hd)].map db).length≤137438953472∧(tab (cf c s p) i).map db++[(⟨true,((s.J.getD (((((c.U.getD p ac).I).getD i bC).chan).toNat) []).getD 0 0)⟩:Hd)].map db=(tab (cf c s p) (i+1)).map db)∧TT 1 (W6 ((i+1:Nat):Int)∧TT 1 (AG (oz c s p) i (i+1)))))) (TT 2 (am [[(dB false),(i6 0)]] ([(⟨false,0⟩:Hd)].map db)∧((tab (cf c s p) i).length+([(⟨false,0⟩:Hd)].map db).length≤137438953472∧(tab (cf c s p) i).map db++[(⟨false,0⟩:Hd)].map db=(tab (cf c s p) (i+1)).map db)∧TT 1 (W6 ((i+1:Nat):Int)∧TT 1 (AG (oz c s p) i (i+1)))))))) (TT 3 (IX (p:Int) c.U.length∧TT 4 (GO (oA c s p i) 0 (∀m,(oA c s p i).inv m→TT 1 (CD ((m:Int)<((((c.U.getD p ac).Uj).length:Nat):Int)) (IX (m:Int) (((c.U.getD p ac).Uj).length)∧TT 7 (IX ((((c.U.getD p ac).Uj).getD m bt).chan) c.J.length∧TT 3 (CS (((c.J.getD (((((c.U.getD p ac).Uj).getD m bt).chan).toNat) aK).dst)=(-1)) (TT 4 ((True∧(decide (((c.J.getD (((((c.U.getD p ac).Uj).getD m bt).chan).toNat) aK).dst)=(-1)))=true)∧TT 1 (am [[(dB true)]] ([true].map ba)∧((tab (cg c s p) m).length+([true].map ba).length≤137438953472∧(tab (cg c s p) m).map ba++[true].map ba=(tab (cg c s p) (m+1)).map ba)∧TT 1 (W6 ((m+1:Nat):Int)∧TT 1 (AG (oA c s p i) m (m+1)))))) (TT 4 ((True∧(decide (((c.J.getD (((((c.U.getD p ac).Uj).getD m bt).chan).toNat) aK).dst)=(-1)))=false)∧TT 4 (IX ((((c.U.getD p ac).Uj).getD m bt).chan) s.J.length∧TT 6 (am [[(dB (decide ((((s.J.getD (((((c.U.getD p ac).Uj).getD m bt).chan).toNat) []).length:Nat):Int)<((c.J.getD (((((c.U.getD p ac).Uj).getD m bt).chan).toNat) aK).cap))))]] ([decide ((((s.J.getD (((((c.U.getD p ac).Uj).getD m bt).chan).toNat) []).length:Nat):Int)<((c.J.getD (((((c.U.getD p ac).Uj).getD m bt).chan).toNat) aK).cap))].map ba)∧((tab (cg c s p) m).length+([decide ((((s.J.getD (((((c.U.getD p ac).Uj).getD m bt).chan).toNat) []).length:Nat):Int)<((c.J.getD (((((c.U.getD p ac).Uj).getD m bt).chan).toNat) aK).cap))].map ba).length≤137438953472∧(tab (cg c s p) m).map ba++[decide ((((s.J.getD (((((c.U.getD p ac).Uj).getD m bt).chan).toNat) []).length:Nat):Int)<((c.J.getD (((((c.U.getD p ac).Uj).getD m bt).chan).toNat) aK).cap))].map ba=(tab (cg c s p) (m+1)).map ba)∧TT 1 (W6 ((m+1:Nat):Int)∧TT 1 (AG (oA c s p i) m (m+1)))))))))) (TT 3 (IX (p:Int) c.U.length∧TT 4 (IX (p:Int) s.U.length∧TT 3 (CC (Sv (c.U.getD p ac) (s.U.getD p a7) (tab (cf c s p) i) (tab (cg c s p) m))∧TT 2 (((aY (c.U.getD p ac) (s.U.getD p a7) (tab (cf c s p) i) (tab (cg c s p) m)).fires)=((ae c s p).fires)∧(((aY (c.U.getD p ac) (s.U.getD p a7) (tab (cf c s p) i) (tab (cg c s p) m)).s).Ul).map (ab .i64)=(((ae c s p).s).Ul).map (ab .i64)∧(((aY (c.U.getD p ac) (s.U.getD p a7) (tab (cf c s p) i) (tab (cg c s p) m)).s).Uk).map aa=(((ae c s p).s).Uk).map aa∧((aY (c.U.getD p ac) (s.U.getD p a7) (tab (cf c s p) i) (tab (cg c s p) m)).pops).map ba=((ae c s p).pops).map ba∧((aY (c.U.getD p ac) (s.U.getD p a7) (tab (cf c s p) i) (tab (cg c s p) m)).Uj).map db=((ae c s p).Uj).map db∧True))))))))))))))) (.gs 3 7 167 2 db bu<|.l (oz c s p) 0 (fun i=>.b 24 (.b 35 (.w 10 [(2,.box 167 2 db bu [(⟨true,((s.J.getD (((((c.U.getD p ac).I).getD i bC).chan).toNat) []).getD 0 0)⟩:Hd)]),(3,.box 167 2 db bu (tab (cf c s p) (i+1)))]<|.w 11 [(0,.val (i6 ((i+1:Nat):Int)))]<|.e) (.w 10 [(2,.box 167 2 db bu [(⟨false,0⟩:Hd)]),(3,.box 167 2 db bu (tab (cf c s p) (i+1)))]<|.w 11 [(0,.val (i6 ((i+1:Nat):Int)))]<|.e)) (.gs 12 8 4 1 ba false<|.l (oA c s p i) 0 (fun m=>.b 53 (.s 16 (((c.J.getD (((((c.U.getD p ac).Uj).getD m bt).chan).toNat) aK).dst)=(-1)) (.w 16 [(4,.val (dB true)),(16,.box 4 1 ba false [true]),(17,.box 4 1 ba false (tab (cg c s p) (m+1)))]<|.w 17 [(0,.val (i6 ((m+1:Nat):Int)))]<|.e) (.w 16 [(4,.val (dB false)),(16,.box 4 1 ba false [decide ((((s.J.getD (((((c.U.getD p ac).Uj).getD m bt).chan).toNat) []).length:Nat):Int)<((c.J.getD (((((c.U.getD p ac).Uj).getD m bt).chan).toNat) aK).cap))]),(17,.box 4 1 ba false (tab (cg c s p) (m+1)))]<|.w 17 [(0,.val (i6 ((m+1:Nat):Int)))]<|.e)) (.f 18 3<|.f 18 4<|.w 18 [(12,(Sv (c.U.getD p ac) (s.U.getD p a7) (tab (cf c s p) i) (tab (cg c s p) m)).O)]<|.e))))) Tryz.func54 rfl rfl rfl (by kernel_rfl) ?_
 refine tt ⟨ix,tt ⟨rfl,(by omega),?_⟩⟩
 intro i F'
 have hi:=F'
 refine tt (cd (fun XN=>?_) (fun XN=>?_))
 · refine⟨ix,?_⟩
   have ZA:0≤((c.U.getD p ac).I.getD i bC).chan∧((c.U.getD p ac).I.getD i bC).chan<c.J.length:=⟨(hc.tk p hp i (show i<(c.U.getD p ac).I.length by omega)).1,(hc.tk p hp i (show i<(c.U.getD p ac).I.length by omega)).2.1⟩
   refine tt ⟨ix,tt (cd (fun WZ=>?_) (fun WZ=>?_))⟩
   · refine tt ⟨ix,tt ⟨⟨⟨rfl,rfl,oK⟩,oK⟩,⟨(aZ (by omega) (by first | exact(Uw (show 0<(s.J.getD ((c.U.getD p ac).I.getD i bC).chan.toNat []).length by omega)).symm | exact(Ur (show ¬0<(s.J.getD ((c.U.getD p ac).I.getD i bC).chan.toNat []).length by omega)).symm)),tt ⟨w6,tt ⟨(i+1),rfl,(?_:(i+1)≤(c.U.getD p ac).I.length),(?_:(c.U.getD p ac).I.length-(i+1)<(c.U.getD p ac).I.length-i)⟩⟩⟩⟩⟩
     · omega
     · omega
   · refine tt ⟨⟨⟨rfl,rfl,oK⟩,oK⟩,⟨(aZ (by omega) (by first | exact(Uw (show 0<(s.J.getD ((c.U.getD p ac).I.getD i bC).chan.toNat []).length by omega)).symm | exact(Ur (show ¬0<(s.J.getD ((c.U.getD p ac).I.getD i bC).chan.toNat []).length by omega)).symm)),tt ⟨w6,tt ⟨(i+1),rfl,(?_:(i+1)≤(c.U.getD p ac).I.length),(?_:(c.U.getD p ac).I.length-(i+1)<(c.U.getD p ac).I.length-i)⟩⟩⟩⟩
     · omega
     · omega
 · refine tt ⟨ix,tt ⟨rfl,(by omega),?_⟩⟩
   intro m F'
   have hm:=F'
   refine tt (cd (fun hc53=>?_) (fun hc53=>?_))
   · refine⟨ix,?_⟩
     have hpt:0≤((c.U.getD p ac).Uj.getD m bt).chan∧((c.U.getD p ac).Uj.getD m bt).chan<c.J.length:=⟨(hc.pt p hp m (show m<(c.U.getD p ac).Uj.length by omega)).1,(hc.pt p hp m (show m<(c.U.getD p ac).Uj.length by omega)).2.1⟩
     refine tt ⟨ix,tt ⟨fun N'=>?_,fun N'=>?_⟩⟩
     · refine tt ⟨(vT N'),tt ⟨⟨⟨rfl,oK⟩,oK⟩,⟨(aZ (by omega) (by first | exact(z5 N').symm | exact(oa N').symm | exact(oa WN).symm)),tt ⟨w6,tt ⟨(m+1),rfl,(?_:(m+1)≤(c.U.getD p ac).Uj.length),(?_:(c.U.getD p ac).Uj.length-(m+1)<(c.U.getD p ac).Uj.length-m)⟩⟩⟩⟩⟩
       · omega
       · omega
     · refine tt ⟨(vF N'),tt ⟨ix,tt ⟨⟨⟨rfl,oK⟩,oK⟩,⟨(aZ (by omega) (by first | exact(z5 N').symm | exact(oa N').symm | exact(oa WN).symm)),tt ⟨w6,tt ⟨(m+1),rfl,(?_:(m+1)≤(c.U.getD p ac).Uj.length),(?_:(c.U.getD p ac).Uj.length-(m+1)<(c.U.getD p ac).Uj.length-m)⟩⟩⟩⟩⟩⟩
       · omega
       · omega
   · have W8:i=(c.U.getD p ac).I.length:=by omega
     have X8:m=(c.U.getD p ac).Uj.length:=by omega
     refine tt ⟨ix,tt ⟨ix,tt ⟨(Kv (c.U.getD p ac) (s.U.getD p a7) (tab (cf c s p) i) (tab (cg c s p) m) Zt (hs.pv p hp) (by rw[W8];exact se hc hs hp) (by rw[aJ];omega)),tt ⟨?_,(congrArg _ (?_:(((aY (c.U.getD p ac) (s.U.getD p a7) (tab (cf c s p) i) (tab (cg c s p) m)).s).Ul)=(((ae c s p).s).Ul))),(congrArg _ (?_:(((aY (c.U.getD p ac) (s.U.getD p a7) (tab (cf c s p) i) (tab (cg c s p) m)).s).Uk)=(((ae c s p).s).Uk))),(congrArg _ (?_:((aY (c.U.getD p ac) (s.U.getD p a7) (tab (cf c s p) i) (tab (cg c s p) m)).pops)=((ae c s p).pops))),(congrArg _ (?_:((aY (c.U.getD p ac) (s.U.getD p a7) (tab (cf c s p) i) (tab (cg c s p) m)).Uj)=((ae c s p).Uj))),oK⟩⟩⟩⟩
     all_goals (all_goals (rw[W8,X8];rfl))
abbrev qz (c:Ci) (s:Ns) (j:Nat):List D:=[(dB ((ae c s j).fires)),(LI (((ae c s j).s).Ul)),(dL 1 aa [] (((ae c s j).s).Uk)),(LB ((ae c s j).pops)),(dL 2 db bu ((ae c s j).Uj))]
abbrev b9:D:=(.ptr 15 0 0 0)
abbrev uX (c:Ci) (s:Ns) (j:Nat) (fd:List Bool):List (Nat×D):=[(71,(.agg (qz c s j))),(70,(.ptr 17 j 5 0)),(69,(i6 (j:Int))),(68,(.own 17)),(67,(i6 (j:Int))),(66,b9),(6,(.ptr 2 0 0 0)),(8,b9),(9,(.own 16)),(10,(.own 17)),(12,(i6 (j:Int))),(58,(.own 16)),(59,(i6 (fd.length:Int))),(60,(i6 (j:Int)))]
abbrev w3 (c:Ci) (j m:Nat):D:=(i6 ((((c.U.getD j ac).Uj).getD m bt).chan))
abbrev Gf (j m:Nat) (c:Ci) (s:Ns):List (Nat×D):=[(0,b9),(1,(i6 (j:Int))),(6,(i6 (m:Int))),(7,(.ptr 20 0 0 0)),(9,(dL 2 db bu ((ae c s j).Uj))),(10,(i6 ((((ae c s j).Uj).length:Nat):Int))),(11,(i6 (m:Int))),(18,b9),(19,b9),(20,b9),(21,b9),(22,b9),(23,(dL 6 bG ac c.U)),(24,(i6 (j:Int))),(25,(.iptr (bG (c.U.getD j ac)) 0)),(26,(.iptr (bG (c.U.getD j ac)) 5)),(27,(dL 16 dQ bt ((c.U.getD j ac).Uj))),(28,(i6 (m:Int))),(29,(.iptr (dQ (((c.U.getD j ac).Uj).getD m bt)) 0)),(30,(.iptr (dQ (((c.U.getD j ac).Uj).getD m bt)) 0)),(31,(w3 c j m)),(32,(.ptr 20 0 0 1)),(33,(i6 ((((ae c s j).Uj).getD m bu).v))),(34,(LI [(((ae c s j)).Uj.getD m bu).v]))]
abbrev AF (s:Ns):List D:=[(dL 2 bi a7 s.U),(dL 1 aa [] s.J)]
abbrev bX (s:Ns):aC:=(.var 36 (AF s))
abbrev AH (c:Ci):List D:=[(dL 6 bG ac c.U),(dL 5 ca aK c.J)]
abbrev bZ (c:Ci):aC:=(.var 32 (AH c))
abbrev yN (c:Ci) (s:Ns) (i:Nat):List D:=[(dB ((ae c s i).fires)),(LI (((ae c s i).s).Ul)),(dL 1 aa [] (((ae c s i).s).Uk)),(LB ((ae c s i).pops)),(dL 2 db bu ((ae c s i).Uj))]
abbrev AI (c:Ci) (cl:ByteArray):D:=(.fn (.func 30) [] [(.iptr [(.sl 6 bG ac c.U),(.sl 5 ca aK c.J)] 0),(.iptr [(.str cl)] 0)])
abbrev Gg (c:Ci) (s:Ns) (i:Nat) (cl:ByteArray):List (Nat×D):=[(55,(.agg (yN c s i))),(54,(.ptr 17 i 5 0)),(53,(i6 (i:Int))),(52,(.own 17)),(51,(i6 (i:Int))),(50,b9),(2,(AI c cl)),(3,(.ptr 0 0 0 0)),(4,(.ptr 1 0 0 0)),(6,(.ptr 2 0 0 0)),(8,b9),(9,(.own 16)),(10,(.own 17)),(11,(i6 (i:Int))),(27,(i6 (c.U.length:Int))),(28,(i6 (i:Int)))]
abbrev fu (c:Ci):aC:=(.var 139 [(dL 6 bG ac c.U),(dL 5 ca aK c.J),(.own 9),(.own 12)])
abbrev Gi (em:List (List Int)) (c:Ci) (j m:Nat) (s:Ns):aC:=(.arr 67 1 aa [] (em.set (((((c.U.getD j ac).Uj).getD m bt).chan).toNat) ((em.getD (((((c.U.getD j ac).Uj).getD m bt).chan).toNat) [])++[(((ae c s j)).Uj.getD m bu).v])))
abbrev fc:aC:=(.var 36 [.nils,.nils])
abbrev ub (c:Ci) (s:Ns) (j m:Nat):aC:=(.var 167 [(dB ((((ae c s j).Uj).getD m bu).has)),(i6 ((((ae c s j).Uj).getD m bu).v))])
abbrev ud (ps:List Ps) (i:Nat) (c:Ci) (s:Ns):aC:=(.arr 69 2 bi a7 (ps.set i ((ae c s i).s)))
abbrev ri (fd:List Bool) (i:Nat):aC:=(.arr 4 1 ba false (fd.set i true))
abbrev rj (WC:List Fi) (i:Nat) (c:Ci) (s:Ns):aC:=(.arr 135 5 LM rz (WC.set i (ae c s i)))
abbrev Kz (c:Ci) (s:Ns) (ps:List Ps) (i:Nat) (dr:List (List Int)) (fd:List Bool) (WC:List Fi) (WI:Array Value) (cl:ByteArray):List aC:=[(bZ c),(bX s),fc,.dead,(bZ c),(bX s),.dead,.dead,.dead,(ud ps i c s),.dead,.dead,(.arr 67 1 aa [] dr),.dead,.dead,(fu c),(ri fd i),(rj WC i c s),(.frame WI (Gg c s i cl)),(.var 135 (yN c s i)),.dead,.dead,.dead,.dead,.dead,.dead,.dead,.dead,.dead]
abbrev hC (fd:List Bool):aC:=(.arr 4 1 ba false fd)
abbrev gz (ps:List Ps):aC:=(.arr 69 2 bi a7 ps)
abbrev hD (WC:List Fi):aC:=(.arr 135 5 LM rz WC)
set_option maxRecDepth 100000
abbrev S4 (l:List Int):Ct:=⟨74,[(LI l)],true,(LI (l.drop 1))⟩
theorem HB (l:List Int) (h:1≤l.length):CC (S4 l):=by
 refine ah.vc (V:=TT 2 ((0≤(1:Int)∧(1:Int)≤(l.length:Int)∧(l.length:Int)≤(l.length:Int))∧TT 2 ((l.drop 1).map (ab .i64)=(l.drop 1).map (ab .i64)))) (.e) Tryz.func74 rfl rfl rfl (by kernel_rfl) ?_
 exact tt ⟨om,tt rfl⟩
abbrev S5 (l ws:List Int):Ct:=⟨88,[(LI l),(.iptr [(.sl 1 (ab .i64) 0 ws)] 0)],true,(LI (l++ws))⟩
theorem Eb (l ws:List Int) (h:l.length+ws.length≤137438953472):CC (S5 l ws):=by
 refine ah.vc (V:=TT 3 (am [[(LI l)],[(LI ws)]] ([l,ws].map aa)∧CK (SK [l,ws])∧TT 2 (([l,ws].flatten).map (ab .i64)=(l++ws).map (ab .i64)))) (.w 1 [(2,.box 67 1 aa [] [l,ws]),(3,(SK [l,ws]).O')]<|.e) Tryz.func88 rfl rfl rfl (by kernel_rfl) ?_
 refine tt ⟨⟨⟨rfl,oK⟩,⟨rfl,oK⟩,oK⟩,⟨⟨du _ rfl,(HA [l,ws] (by simp) (by simpa using h))⟩,tt (congrArg _ (?_:([l,ws].flatten)=(l++ws)))⟩⟩
 simp
abbrev S6 (c:Ci) (q:Nat) (cl:ByteArray):Ct:=⟨30,[(i6 (q:Int)),(.iptr [(.sl 6 bG ac c.U),(.sl 5 ca aK c.J)] 0),(.iptr [(.str cl)] 0)],false,(dB (bE c cl q))⟩
theorem KA (c:Ci) (q:Nat) (cl:ByteArray) (hq:q<c.U.length):CC (S6 c q cl):=by
 refine ah.vc (V:=TT 4 (IX (q:Int) c.U.length∧TT 6 ((((c.U.getD q ac).clock).toList==cl.toList)=(bE c cl q)∧True))) (.e) Tryz.func30 rfl rfl rfl (by kernel_rfl) ?_
 refine tt ⟨ix,tt ⟨?_,oK⟩⟩
 rfl
abbrev Pj (c:Ci) (s:Ns) (cl:ByteArray):Ct:=⟨29,[(.agg (AH c)),(.agg (AF s)),(AI c cl)],true,(.tup [(.agg [(dL 2 bi a7 ((bx c s (bE c cl)).U)),(dL 1 aa [] ((bx c s (bE c cl)).J))]),(LB (tab (aV c s (bE c cl)) c.U.length))])⟩
abbrev HC (c:Ci) (s:Ns):List aC:=[(bZ c),(bX s),fc]
abbrev pB (c:Ci) (s:Ns) (cl:ByteArray):List (Nat×D):=[(15,(.agg (AF s))),(14,(.agg (AH c))),(2,(AI c cl)),(3,(.ptr 0 0 0 0)),(4,(.ptr 1 0 0 0)),(6,(.ptr 2 0 0 0))]
abbrev ue (c:Ci) (s:Ns):List aC:=[(bZ c),(bX s),fc]
abbrev ug (c:Ci) (s:Ns):List aC:=[(bZ c),(bX s),.dead,.dead,.dead,(.arr 69 2 bi a7 s.U),.dead,.dead,(.arr 67 1 aa [] s.J),.dead,.dead,(fu c)]
abbrev jr (c:Ci) (s:Ns) (cl:ByteArray):Lp (Nat×List Bool×List Fi×List Ps×List (List Int)):=TW [2,3,4,6,8,9,10,27,28] 18 (fun (i:Nat) (fd:List Bool) (WC:List Fi) (ps:List Ps) (ch:List (List Int))=>⟨[(2,(AI c cl)),(3,(.ptr 0 0 0 0)),(4,(.ptr 1 0 0 0)),(6,(.ptr 2 0 0 0)),(8,b9),(9,(.own 16)),(10,(.own 17)),(27,(i6 (c.U.length:Int))),(28,(i6 (i:Int)))],[(bZ c),(bX s),fc,.dead,(bZ c),(bX s),.dead,.dead,.dead,(gz ps),.dead,.dead,(.arr 67 1 aa [] ch),.dead,.dead,(fu c),(hC fd),(hD WC)]⟩) (fun (i:Nat) (fd:List Bool) (WC:List Fi) (ps:List Ps) (ch:List (List Int))=>i≤c.U.length∧fd=cG (aV c s (bE c cl)) (List.replicate c.U.length false) i∧WC=cG (Nn c s (bE c cl)) (List.replicate c.U.length rz) i∧ps=cG (cQ c s (bE c cl)) s.U i∧ch=bK s.J (iv c s (bE c cl) i)) (fun (i:Nat) (fd:List Bool) (WC:List Fi) (ps:List Ps) (ch:List (List Int))=>c.U.length-i)
abbrev HD (c:Ci) (s:Ns) (i:Nat) (fd:List Bool) (WC:List Fi) (ps:List Ps) (ch:List (List Int)):List aC:=[(bZ c),(bX s),fc,.dead,(bZ c),(bX s),.dead,.dead,.dead,(gz ps),.dead,.dead,(.arr 67 1 aa [] ch),.dead,.dead,(fu c),(ri fd i),(rj WC i c s)]
abbrev lv (c:Ci) (s:Ns) (cl:ByteArray) (i:Nat):List (Nat×D):=(Gg c s i cl)
abbrev uj (c:Ci) (s:Ns) (i:Nat) (fd:List Bool) (WC:List Fi) (ps:List Ps) (ch:List (List Int)):List aC:=[(bZ c),(bX s),fc,.dead,(bZ c),(bX s),.dead,.dead,.dead,(ud ps i c s),.dead,.dead,(.arr 67 1 aa [] (bK ch (nU (c.U.getD i ac) (ae c s i) (c.U.getD i ac).I.length))),.dead,.dead,(fu c),(ri fd i),(rj WC i c s)]
abbrev lw (c:Ci) (s:Ns) (cl:ByteArray) (i:Nat) (fd:List Bool) (WC:List Fi) (ps:List Ps) (ch:List (List Int)) (WI:Array Value):Lp (Nat×List (List Int)):=nN [0,1,18,19,20] 29 (fun (k:Nat) (dr:List (List Int))=>⟨[(0,b9),(1,(i6 (i:Int))),(18,(LB ((ae c s i).pops))),(19,(i6 ((((ae c s i).pops).length:Nat):Int))),(20,(i6 (k:Int)))],(Kz c s ps i dr fd WC WI cl)⟩) (fun (k:Nat) (dr:List (List Int))=>k≤(ae c s i).pops.length∧dr=bK ch (nU (c.U.getD i ac) (ae c s i) k)) (fun (k:Nat) (dr:List (List Int))=>(ae c s i).pops.length-k)
abbrev HF (c:Ci) (s:Ns) (cl:ByteArray) (i:Nat) (fd:List Bool) (WC:List Fi) (ps:List Ps) (WI:Array Value) (dr:List (List Int)):List aC:=(Kz c s ps i dr fd WC WI cl)
abbrev mJ (c:Ci) (s:Ns) (i:Nat) (k:Nat):List (Nat×D):=[(39,(i6 ((((c.U.getD i ac).I).getD k bC).chan))),(38,(.iptr (dU (((c.U.getD i ac).I).getD k bC)) 0)),(37,(.iptr (dU (((c.U.getD i ac).I).getD k bC)) 0)),(36,(i6 (k:Int))),(35,(dL 9 dU bC ((c.U.getD i ac).I))),(34,(.iptr (bG (c.U.getD i ac)) 4)),(33,(.iptr (bG (c.U.getD i ac)) 0)),(32,(i6 (i:Int))),(31,(dL 6 bG ac c.U)),(30,b9),(29,b9),(28,b9),(27,b9),(26,b9),(0,b9),(1,(i6 (i:Int))),(6,(i6 (k:Int))),(18,(LB ((ae c s i).pops))),(19,(i6 ((((ae c s i).pops).length:Nat):Int))),(20,(i6 (k:Int)))]
abbrev rm (c:Ci) (s:Ns) (cl:ByteArray) (i:Nat) (fd:List Bool) (WC:List Fi) (ps:List Ps) (WI:Array Value) (k:Nat) (dr:List (List Int)):List aC:=[(bZ c),(bX s),fc,.dead,(bZ c),(bX s),.dead,.dead,.dead,(ud ps i c s),.dead,.dead,(.arr 67 1 aa [] (dr.set (((((c.U.getD i ac).I).getD k bC).chan).toNat) ((dr.getD (((((c.U.getD i ac).I).getD k bC).chan).toNat) []).drop 1))),.dead,.dead,(fu c),(ri fd i),(rj WC i c s),(.frame WI (Gg c s i cl)),(.var 135 (yN c s i)),.dead,.dead,.dead,.dead,.dead,.dead,.dead,.dead,.dead]
abbrev jQ (c:Ci) (s:Ns) (cl:ByteArray) (fd:List Bool) (WC:List Fi) (ps:List Ps):Lp (Nat×List (List Int)):=nN [6,8,9,10,58,59,60] 18 (fun (j:Nat) (XO:List (List Int))=>⟨[(6,(.ptr 2 0 0 0)),(8,b9),(9,(.own 16)),(10,(.own 17)),(58,(.own 16)),(59,(i6 (fd.length:Int))),(60,(i6 (j:Int)))],[(bZ c),(bX s),fc,.dead,(bZ c),(bX s),.dead,.dead,.dead,(gz ps),.dead,.dead,(.arr 67 1 aa [] XO),.dead,.dead,(fu c),(hC fd),(hD WC)]⟩) (fun (j:Nat) (XO:List (List Int))=>j≤c.U.length∧XO=cD (bK s.J (iv c s (bE c cl) c.U.length)) (kJ c s (bE c cl) j)) (fun (j:Nat) (XO:List (List Int))=>c.U.length-j)
abbrev Ec (c:Ci) (s:Ns) (fd:List Bool) (WC:List Fi) (ps:List Ps) (XO:List (List Int)):List aC:=[(bZ c),(bX s),fc,.dead,(bZ c),(bX s),.dead,.dead,.dead,(gz ps),.dead,.dead,(.arr 67 1 aa [] XO),.dead,.dead,(fu c),(hC fd),(hD WC)]
abbrev jR (c:Ci) (s:Ns) (fd:List Bool) (j:Nat):List (Nat×D):=(uX c s j fd)
abbrev rp (c:Ci) (s:Ns) (fd:List Bool) (WC:List Fi) (ps:List Ps) (j:Nat) (XO:List (List Int)):List aC:=[(bZ c),(bX s),fc,.dead,(bZ c),(bX s),.dead,.dead,.dead,(gz ps),.dead,.dead,(.arr 67 1 aa [] (cD XO (nW (c.U.getD j ac) (ae c s j) (c.U.getD j ac).Uj.length))),.dead,.dead,(fu c),(hC fd),(hD WC)]
abbrev jS (c:Ci) (s:Ns) (fd:List Bool) (WC:List Fi) (ps:List Ps) (j:Nat) (XO:List (List Int)) (WI:Array Value):Lp (Nat×List (List Int)):=nN [0,1,9,10,11] 20 (fun (m:Nat) (em:List (List Int))=>⟨[(0,b9),(1,(i6 (j:Int))),(9,(dL 2 db bu ((ae c s j).Uj))),(10,(i6 ((((ae c s j).Uj).length:Nat):Int))),(11,(i6 (m:Int)))],[(bZ c),(bX s),fc,.dead,(bZ c),(bX s),.dead,.dead,.dead,(gz ps),.dead,.dead,(.arr 67 1 aa [] em),.dead,.dead,(fu c),(hC fd),(hD WC),(.frame WI (uX c s j fd)),(.var 135 (qz c s j))]⟩) (fun (m:Nat) (em:List (List Int))=>m≤(ae c s j).Uj.length∧em=cD XO (nW (c.U.getD j ac) (ae c s j) m)) (fun (m:Nat) (em:List (List Int))=>(ae c s j).Uj.length-m)
abbrev Ed (c:Ci) (s:Ns) (fd:List Bool) (WC:List Fi) (ps:List Ps) (j:Nat) (WI:Array Value) (m:Nat) (em:List (List Int)):List aC:=[(bZ c),(bX s),fc,.dead,(bZ c),(bX s),.dead,.dead,.dead,(gz ps),.dead,.dead,(.arr 67 1 aa [] em),.dead,.dead,(fu c),(hC fd),(hD WC),(.frame WI (uX c s j fd)),(.var 135 (qz c s j)),(ub c s j m),.dead,.dead,.dead,.dead,.dead,.dead,.dead,.dead,.dead,.dead,.dead,.dead,.dead,.dead,.dead,.dead,.dead]
abbrev mK (c:Ci) (s:Ns) (j:Nat) (m:Nat):List (Nat×D):=(Gf j m c s)
abbrev Ee (c:Ci) (s:Ns) (fd:List Bool) (WC:List Fi) (ps:List Ps) (j:Nat) (WI:Array Value) (m:Nat) (em:List (List Int)) (ZP:Array Value):List aC:=[(bZ c),(bX s),fc,.dead,(bZ c),(bX s),.dead,.dead,.dead,(gz ps),.dead,.dead,(.arr 67 1 aa [] em),.dead,.dead,(fu c),(hC fd),(hD WC),(.frame WI (uX c s j fd)),(.var 135 (qz c s j)),(ub c s j m),.dead,.dead,.dead,.dead,.dead,.dead,.dead,.dead,.dead,.dead,.dead,.dead,.dead,.dead,.dead,.dead,.dead,(.frame ZP (Gf j m c s)),.dead]
abbrev mL (c:Ci) (s:Ns) (j:Nat) (m:Nat):List (Nat×D):=[(8,(.fn (.func 88) [] [(.iptr [(.sl 1 (ab .i64) 0 [(((ae c s j)).Uj.getD m bu).v])] 0)])),(7,(w3 c j m)),(6,b9),(0,b9),(1,(w3 c j m)),(5,(.iptr [(.sl 1 (ab .i64) 0 [(((ae c s j)).Uj.getD m bu).v])] 0))]
abbrev rq (c:Ci) (s:Ns) (fd:List Bool) (WC:List Fi) (ps:List Ps) (j:Nat) (WI:Array Value) (m:Nat) (em:List (List Int)) (ZP:Array Value):List aC:=[(bZ c),(bX s),fc,.dead,(bZ c),(bX s),.dead,.dead,.dead,(gz ps),.dead,.dead,(Gi em c j m s),.dead,.dead,(fu c),(hC fd),(hD WC),(.frame WI (uX c s j fd)),(.var 135 (qz c s j)),(ub c s j m),.dead,.dead,.dead,.dead,.dead,.dead,.dead,.dead,.dead,.dead,.dead,.dead,.dead,.dead,.dead,.dead,.dead,(.frame ZP (Gf j m c s)),.dead]
abbrev rt (c:Ci) (s:Ns) (fd:List Bool) (WC:List Fi) (ps:List Ps) (j:Nat) (WI:Array Value) (m:Nat) (em:List (List Int)):List aC:=[(bZ c),(bX s),fc,.dead,(bZ c),(bX s),.dead,.dead,.dead,(gz ps),.dead,.dead,(Gi em c j m s),.dead,.dead,(fu c),(hC fd),(hD WC),(.frame WI (uX c s j fd)),(.var 135 (qz c s j)),(ub c s j m),.dead,.dead,.dead,.dead,.dead,.dead,.dead,.dead,.dead,.dead,.dead,.dead,.dead,.dead,.dead,.dead,.dead]
theorem HG (c:Ci) (s:Ns) (cl:ByteArray) (hc:cr c) (hs:eG c s) (ZD:sA s 4294967296):CC (Pj c s cl):=by
 have Xo:=hc.nl
 have hcl:=hc.cl
 have YI:=hs.pl
 have Yf:=hs.cl
 refine ah.vc (V:=TT 6 (Bt Tryz.prog 53 [(.agg (AH c)),(.agg (AF s))] (HC c s) (pB c s cl) (ue c s) (ug c s) b9∧TT 4 ((((0:Int)≤(c.U.length:Int)∧(c.U.length:Int)≤(c.U.length:Int)∧(c.U.length:Int)≤137438953472)∧(List.replicate c.U.length false).length=c.U.length∧∀x∈(List.replicate c.U.length false),dt [(dB false)] (ba x))∧TT 4 ((((0:Int)≤(c.U.length:Int)∧(c.U.length:Int)≤(c.U.length:Int)∧(c.U.length:Int)≤137438953472)∧(List.replicate c.U.length rz).length=c.U.length∧∀x∈(List.replicate c.U.length rz),dt [(dB false),.nils,.nils,.nils,.nils] (LM x))∧TT 5 (GO (jr c s cl) (0,List.replicate c.U.length false,List.replicate c.U.length rz,s.U,s.J) (∀i fd WC ps ch,(jr c s cl).inv (i,fd,WC,ps,ch)→TT 1 (CD ((i:Int)<(c.U.length:Int)) (TT 4 (CC (S6 c i cl)∧TT 1 (CB (!(bE c cl i)) (W6 ((i+1:Nat):Int)∧TT 1 (AG (jr c s cl) (i,fd,WC,ps,ch) (i+1,fd,WC,ps,ch))) (TT 5 (CC (SZ c s i)∧IX (i:Int) WC.length∧(i<WC.length∧(WC.map LM).set i ((LM (WC.getD i rz)).take 0++[(.bool ((ae c s i).fires)),(.sl 1 (ab .i64) 0 (((ae c s i).s).Ul)),(.sl 1 aa [] (((ae c s i).s).Uk)),(.sl 1 ba false ((ae c s i).pops)),(.sl 2 db bu ((ae c s i).Uj))]++(LM (WC.getD i rz)).drop (0+5))=(WC.set i (ae c s i)).map LM)∧TT 2 (IX (i:Int) ((WC.set i (ae c s i)).length)∧TT 1 (((i<(WC.set i (ae c s i)).length∧True)∧(((WC.set i (ae c s i)).getD i rz).fires)=(p8 c s i))∧CB (p8 c s i) (TT 2 (IX (i:Int) fd.length∧(i<fd.length∧(fd.map ba).set i ((ba (fd.getD i false)).take 0++[(.bool true)]++(ba (fd.getD i false)).drop (0+1))=(fd.set i true).map ba)∧TT 4 (IX (i:Int) ((WC.set i (ae c s i)).length)∧((i<(WC.set i (ae c s i)).length∧True)∧((((WC.set i (ae c s i)).getD i rz).fires)=((ae c s i).fires)∧((((WC.set i (ae c s i)).getD i rz).s).Ul).map (ab .i64)=(((ae c s i).s).Ul).map (ab .i64)∧((((WC.set i (ae c s i)).getD i rz).s).Uk).map aa=(((ae c s i).s).Uk).map aa∧(((WC.set i (ae c s i)).getD i rz).pops).map ba=((ae c s i).pops).map ba∧(((WC.set i (ae c s i)).getD i rz).Uj).map db=((ae c s i).Uj).map db∧True))∧Bt Tryz.prog 55 [b9,(i6 (i:Int)),(.agg (yN c s i))] (HD c s i fd WC ps ch) (lv c s cl i) (uj c s i fd WC ps ch) [] (.tup [])∧W6 ((i+1:Nat):Int)∧TT 1 (AG (jr c s cl) (i,fd,WC,ps,ch) (i+1,fd.set i true,WC.set i (ae c s i),ps.set i ((ae c s i).s),bK ch (nU (c.U.getD i ac) (ae c s i) (c.U.getD i ac).I.length)))))) (W6 ((i+1:Nat):Int)∧TT 1 (AG (jr c s cl) (i,fd,WC,ps,ch) (i+1,fd,WC.set i (ae c s i),ps,ch)))))))))) (TT 3 (GO (jQ c s cl fd WC ps) (0,ch) (∀j XO,(jQ c s cl fd WC ps).inv (j,XO)→TT 1 (CD ((j:Int)<(fd.length:Int)) (TT 1 (IX (j:Int) fd.length∧(j<fd.length∧True)∧TT 3 (CB ((fd.getD j false)) (TT 4 (IX (j:Int) WC.length∧((j<WC.length∧True)∧(((WC.getD j rz).fires)=((ae c s j).fires)∧(((WC.getD j rz).s).Ul).map (ab .i64)=(((ae c s j).s).Ul).map (ab .i64)∧(((WC.getD j rz).s).Uk).map aa=(((ae c s j).s).Uk).map aa∧((WC.getD j rz).pops).map ba=((ae c s j).pops).map ba∧((WC.getD j rz).Uj).map db=((ae c s j).Uj).map db∧True))∧Bt Tryz.prog 56 [b9,(i6 (j:Int)),(.agg (qz c s j))] (Ec c s fd WC ps XO) (jR c s fd j) (rp c s fd WC ps j XO) [] (.tup [])∧W6 ((j+1:Nat):Int)∧TT 1 (AG (jQ c s cl fd WC ps) (j,XO) (j+1,cD XO (nW (c.U.getD j ac) (ae c s j) (c.U.getD j ac).Uj.length))))) (W6 ((j+1:Nat):Int)∧TT 1 (AG (jQ c s cl fd WC ps) (j,XO) (j+1,XO)))))) (TT 9 ((ps.map bi=((bx c s (bE c cl)).U).map bi∧XO.map aa=((bx c s (bE c cl)).J).map aa∧True)∧fd.map ba=(tab (aV c s (bE c cl)) c.U.length).map ba∧True))))))))))))) (.q 1 [2,3,4,6] 3<|.w 1 [(2,.inl b9 (pB c s cl) ((ue c s)++.dead::(ug c s)))]<|.w 2 [(3,.box 4 1 ba false (List.replicate c.U.length false))]<|.w 3 [(3,.box 135 5 LM rz (List.replicate c.U.length rz))]<|.l (jr c s cl) (0,List.replicate c.U.length false,List.replicate c.U.length rz,s.U,s.J) (fun ⟨i,fd,WC,ps,ch⟩=>.b 29 (.q 7 [2,3,4,6,8,9,10,11,27,28] 18<|.w 7 [(2,(S6 c i cl).O)]<|.b 34 (.w 12 [(0,.val (i6 ((i+1:Nat):Int)))]<|.e) (.w 8 [(5,(SZ c s i).O),(7,.box 135 5 LM rz (WC.set i (ae c s i)))]<|.w 9 [(4,.val (dB (p8 c s i)))]<|.b 46 (.w 10 [(3,.box 4 1 ba false (fd.set i true))]<|.q 11 [2,3,4,6,8,9,10,11,27,28] 18<|.w 11 [(5,.val (.agg (yN c s i))),(6,.inl (.tup []) (lv c s cl i) ((uj c s i fd WC ps ch)++.dead::[]))]<|.w 12 [(0,.val (i6 ((i+1:Nat):Int)))]<|.e) (.w 12 [(0,.val (i6 ((i+1:Nat):Int)))]<|.e))) (.l (jQ c s cl fd WC ps) (0,ch) (fun ⟨j,XO⟩=>.b 61 (.b 65 (.q 17 [6,8,9,10,12,58,59,60] 18<|.w 17 [(5,.val (.agg (qz c s j))),(6,.inl (.tup []) (jR c s fd j) ((rp c s fd WC ps j XO)++.dead::[]))]<|.w 18 [(0,.val (i6 ((j+1:Nat):Int)))]<|.e) (.w 18 [(0,.val (i6 ((j+1:Nat):Int)))]<|.e)) (.e))))) Tryz.func29 rfl rfl rfl (by kernel_rfl) ?_
 refine tt ⟨?_,?_⟩
 · intro WI
   refine j8.vc (V:=TT 6 (CO (SD s.U)∧TT 2 (CO (SI s.J)∧TT 5 ((b9:D)=b9∧([(bZ c),(bX s),fc,.frame WI (pB c s cl),(bZ c),(bX s),.dead,.dead,.dead,(.arr 69 2 bi a7 s.U),.dead,.dead,(.arr 67 1 aa [] s.J),.dead,.dead,(fu c)]:List aC)=(ue c s)++.frame WI (pB c s cl)::(ug c s))))) (.w 1 [(3,(SD s.U).O),(6,(SI s.J).O)]<|.e) Tryz.func53 rfl rfl (by kernel_rfl) ?_
   exact tt ⟨(Hy s.U om),tt ⟨(Hz s.J om),tt ⟨rfl,rfl⟩⟩⟩
 refine tt ⟨⟨by omega,by simp,fun x hx=>by rw[UN hx];exact⟨rfl,oK⟩⟩,tt ⟨⟨by omega,by simp,fun x hx=>by rw[UN hx];exact⟨rfl,rfl,rfl,rfl,rfl,oK⟩⟩,tt ⟨rfl,⟨by omega,rfl,rfl,rfl,rfl⟩,?_⟩⟩⟩
 intro i fd WC ps ch F'
 obtain⟨hi,hfd,Xv,hps,hch⟩:=F'
 have hfl0:fd.length=c.U.length:=by rw[hfd,ci (by simp;omega)];simp
 have hsl0:WC.length=c.U.length:=by rw[Xv,ci (by simp;omega)];simp
 have hpl0:ps.length=c.U.length:=by rw[hps,ci (by omega)];omega
 have hchl:ch.length=c.J.length:=by rw[hch,eZ];exact Yf
 refine tt (cd (fun hc29=>?_) (fun hc29=>?_))
 · refine tt ⟨(KA c i cl om),tt ⟨fun YY=>?_,fun YY=>?_⟩⟩
   · refine⟨w6,tt ⟨(i+1,fd,WC,ps,ch),rfl,(?_:(i+1)≤c.U.length∧fd=cG (aV c s (bE c cl)) (List.replicate c.U.length false) (i+1)∧WC=cG (Nn c s (bE c cl)) (List.replicate c.U.length rz) (i+1)∧ps=cG (cQ c s (bE c cl)) s.U (i+1)∧ch=bK s.J (iv c s (bE c cl) (i+1))),(?_:c.U.length-(i+1)<c.U.length-i)⟩⟩
     · have Xu:=No (c:=c) (s:=s) YY
       exact⟨by omega,by rw[hfd];exact cI (d:=false) (by simp;omega) (by rw[Xu,cK]),by rw[Xv];exact cI (d:=rz) (by simp;omega) (by rw[← Qk YY,cK]),by rw[hps];exact cI (d:=a7) (by omega) (FK Xu).symm,by rw[hch];rw[vC Xu]⟩
     · omega
   · refine tt ⟨(Ky c s i hc hs (by omega)),⟨ix,⟨⟨om,by simp only[US];rfl⟩,tt ⟨ix,tt ⟨⟨⟨om,oK⟩,(by rw[bM (by omega),Uw rfl];rfl)⟩,⟨fun Xs=>?_,fun Xs=>?_⟩⟩⟩⟩⟩⟩
     · have XV:p8 c s i=true:=Xs
       refine tt ⟨ix,⟨⟨om,by simp only[US];rfl⟩,tt ⟨ix,⟨⟨⟨om,oK⟩,(by rw[bM (by omega),Uw rfl];exact⟨rfl,rfl,rfl,rfl,rfl,oK⟩)⟩,⟨?_,?_⟩⟩⟩⟩⟩
       · intro WI
         refine j8.vc (V:=TT 9 (IX (i:Int) ps.length∧(i<ps.length∧(ps.map bi).set i ((bi (ps.getD i a7)).take 0++[(.sl 1 (ab .i64) 0 (((ae c s i).s).Ul)),(.sl 1 aa [] (((ae c s i).s).Uk))]++(bi (ps.getD i a7)).drop (0+2))=(ps.set i ((ae c s i).s)).map bi)∧TT 4 (GO (lw c s cl i fd WC ps ch WI) (0,ch) (∀k dr,(lw c s cl i fd WC ps ch WI).inv (k,dr)→TT 1 (CD ((k:Int)<((((ae c s i).pops).length:Nat):Int)) (TT 1 (IX (k:Int) (((ae c s i).pops).length)∧TT 4 (CB ((((ae c s i).pops).getD k false)) (TT 7 (IX (i:Int) c.U.length∧TT 3 (IX (k:Int) (((c.U.getD i ac).I).length)∧TT 2 (Bt Tryz.prog 73 [b9,(i6 ((((c.U.getD i ac).I).getD k bC).chan)),(.fn (.func 74) [] [])] (HF c s cl i fd WC ps WI dr) (mJ c s i k) (rm c s cl i fd WC ps WI k dr) [] (.tup [])∧W6 ((k+1:Nat):Int)∧TT 1 (AG (lw c s cl i fd WC ps ch WI) (k,dr) (k+1,dr.set (((((c.U.getD i ac).I).getD k bC).chan).toNat) ((dr.getD (((((c.U.getD i ac).I).getD k bC).chan).toNat) []).drop 1))))))) (W6 ((k+1:Nat):Int)∧TT 1 (AG (lw c s cl i fd WC ps ch WI) (k,dr) (k+1,dr)))))) (True∧([(bZ c),(bX s),fc,.dead,(bZ c),(bX s),.dead,.dead,.dead,(ud ps i c s),.dead,.dead,(.arr 67 1 aa [] dr),.dead,.dead,(fu c),(ri fd i),(rj WC i c s),.frame WI (lv c s cl i)]:List aC)=(uj c s i fd WC ps ch)++.frame WI (lv c s cl i)::[])))))) (.w 1 [(9,.box 69 2 bi a7 (ps.set i ((ae c s i).s)))]<|.l (lw c s cl i fd WC ps ch WI) (0,ch) (fun ⟨k,dr⟩=>.b 21 (.b 25 (.q 6 [0,1,6,18,19,20] 29<|.w 6 [(14,.inl (.tup []) (mJ c s i k) ((rm c s cl i fd WC ps WI k dr)++.dead::[]))]<|.w 7 [(0,.val (i6 ((k+1:Nat):Int)))]<|.e) (.w 7 [(0,.val (i6 ((k+1:Nat):Int)))]<|.e)) (.e))) Tryz.func55 rfl rfl (by kernel_rfl) ?_
         have Yg:(ae c s i).pops.length=(c.U.getD i ac).I.length:=qk _ _ _ _
         have ht1:(c.U.getD i ac).I.length≤100:=(hc.pr i (by omega)).tl
         refine tt ⟨ix,⟨⟨om,by simp only[US];rfl⟩,tt ⟨rfl,⟨by omega,rfl⟩,?_⟩⟩⟩
         intro k dr F'
         obtain⟨hk,hdr⟩:=F'
         have hdl:dr.length=c.J.length:=by rw[hdr,eZ,hchl]
         refine tt (cd (fun hc21=>?_) (fun hc21=>?_))
         · refine tt ⟨ix,tt ⟨fun WD=>?_,fun WD=>?_⟩⟩
           · have hkt:k<(c.U.getD i ac).I.length:=by omega
             have ZA:0≤((c.U.getD i ac).I.getD k bC).chan∧((c.U.getD i ac).I.getD k bC).chan<c.J.length:=⟨(hc.tk i (by omega) k hkt).1,(hc.tk i (by omega) k hkt).2.1⟩
             have hfl:1≤(dr.getD ((c.U.getD i ac).I.getD k bC).chan.toNat []).length:=by
               rw[hdr,hch,uM]
               exact JV hc Yf (by omega) XV hkt WD
             refine tt ⟨ix,tt ⟨ix,tt ⟨?_,?_⟩⟩⟩
             · intro ZP
               refine j8.vc (V:=TT 13 (IX ((((c.U.getD i ac).I).getD k bC).chan) dr.length∧(((((c.U.getD i ac).I).getD k bC).chan).toNat<dr.length∧True)∧CC (S4 (dr.getD (((((c.U.getD i ac).I).getD k bC).chan).toNat) []))∧IX ((((c.U.getD i ac).I).getD k bC).chan) dr.length∧(((((c.U.getD i ac).I).getD k bC).chan).toNat<dr.length∧(dr.map aa).set (((((c.U.getD i ac).I).getD k bC).chan).toNat) ((aa (dr.getD (((((c.U.getD i ac).I).getD k bC).chan).toNat) [])).take 0++[(.sl 1 (ab .i64) 0 ((dr.getD (((((c.U.getD i ac).I).getD k bC).chan).toNat) []).drop 1))]++(aa (dr.getD (((((c.U.getD i ac).I).getD k bC).chan).toNat) [])).drop (0+1))=(dr.set (((((c.U.getD i ac).I).getD k bC).chan).toNat) ((dr.getD (((((c.U.getD i ac).I).getD k bC).chan).toNat) []).drop 1)).map aa)∧True∧([(bZ c),(bX s),fc,.dead,(bZ c),(bX s),.dead,.dead,.dead,(ud ps i c s),.dead,.dead,(.arr 67 1 aa [] (dr.set (((((c.U.getD i ac).I).getD k bC).chan).toNat) ((dr.getD (((((c.U.getD i ac).I).getD k bC).chan).toNat) []).drop 1))),.dead,.dead,(fu c),(ri fd i),(rj WC i c s),(.frame WI (Gg c s i cl)),(.var 135 (yN c s i)),.dead,.dead,.dead,.dead,.dead,.dead,.dead,.dead,.dead,.frame ZP (mJ c s i k)]:List aC)=(rm c s cl i fd WC ps WI k dr)++.frame ZP (mJ c s i k)::[])) (.w 0 [(15,(S4 (dr.getD (((((c.U.getD i ac).I).getD k bC).chan).toNat) [])).O),(17,.box 67 1 aa [] (dr.set (((((c.U.getD i ac).I).getD k bC).chan).toNat) ((dr.getD (((((c.U.getD i ac).I).getD k bC).chan).toNat) []).drop 1)))]<|.e) Tryz.func73 rfl rfl (by kernel_rfl) ?_
               exact tt ⟨ix,⟨⟨om,oK⟩,⟨(HB (dr.getD (((((c.U.getD i ac).I).getD k bC).chan).toNat) []) om),⟨ix,⟨⟨om,by simp only[US];rfl⟩,⟨oK,rfl⟩⟩⟩⟩⟩⟩
             refine⟨w6,tt ⟨(k+1,dr.set (((((c.U.getD i ac).I).getD k bC).chan).toNat) ((dr.getD (((((c.U.getD i ac).I).getD k bC).chan).toNat) []).drop 1)),rfl,?_,(?_:(ae c s i).pops.length-(k+1)<(ae c s i).pops.length-k)⟩⟩
             · exact⟨by omega,by rw[FL WD,hdr];exact(zP _ _ _).symm⟩
             · omega
           · refine⟨w6,tt ⟨(k+1,dr),rfl,?_,(?_:(ae c s i).pops.length-(k+1)<(ae c s i).pops.length-k)⟩⟩
             · exact⟨by omega,by rw[JT WD,hdr]⟩
             · omega
         · refine⟨oK,congrArg (fun (z0:List (List Int))=>([(bZ c),(bX s),fc,.dead,(bZ c),(bX s),.dead,.dead,.dead,(ud ps i c s),.dead,.dead,(.arr 67 1 aa [] z0),.dead,.dead,(fu c),(ri fd i),(rj WC i c s),.frame WI (lv c s cl i)]:List aC)) (?_:dr=(bK ch (nU (c.U.getD i ac) (ae c s i) (c.U.getD i ac).I.length)))⟩
           rw[hdr,show k=(c.U.getD i ac).I.length by omega]
       refine⟨w6,tt ⟨(i+1,fd.set i true,WC.set i (ae c s i),ps.set i ((ae c s i).s),bK ch (nU (c.U.getD i ac) (ae c s i) (c.U.getD i ac).I.length)),rfl,(?_:(i+1)≤c.U.length∧(fd.set i true)=cG (aV c s (bE c cl)) (List.replicate c.U.length false) (i+1)∧(WC.set i (ae c s i))=cG (Nn c s (bE c cl)) (List.replicate c.U.length rz) (i+1)∧(ps.set i ((ae c s i).s))=cG (cQ c s (bE c cl)) s.U (i+1)∧(bK ch (nU (c.U.getD i ac) (ae c s i) (c.U.getD i ac).I.length))=bK s.J (iv c s (bE c cl) (i+1))),(?_:c.U.length-(i+1)<c.U.length-i)⟩⟩
       · have Xu:=JQ YY XV
         exact⟨by omega,by rw[hfd];exact bn (by simp;omega) Xu,by rw[Xv];exact bn (by simp;omega) (JS YY).symm,by rw[hps];exact bn (by omega) (JR Xu).symm,by rw[hch];rw[BT Xu,uM]⟩
       · omega
     · refine⟨w6,tt ⟨(i+1,fd,WC.set i (ae c s i),ps,ch),rfl,(?_:(i+1)≤c.U.length∧fd=cG (aV c s (bE c cl)) (List.replicate c.U.length false) (i+1)∧(WC.set i (ae c s i))=cG (Nn c s (bE c cl)) (List.replicate c.U.length rz) (i+1)∧ps=cG (cQ c s (bE c cl)) s.U (i+1)∧ch=bK s.J (iv c s (bE c cl) (i+1))),(?_:c.U.length-(i+1)<c.U.length-i)⟩⟩
       · have Xu:=JP (w:=(bE c cl)) Xs
         exact⟨by omega,by rw[hfd];exact cI (d:=false) (by simp;omega) (by rw[Xu,cK]),by rw[Xv];exact bn (by simp;omega) (JS YY).symm,by rw[hps];exact cI (d:=a7) (by omega) (FK Xu).symm,by rw[hch];rw[vC Xu]⟩
       · omega
 · have W8:i=c.U.length:=by omega
   refine tt ⟨rfl,⟨by omega,by rw[hch,W8];rfl⟩,?_⟩
   intro j XO F'
   obtain⟨hj,hch2⟩:=F'
   have hchl2:XO.length=c.J.length:=by rw[hch2,kf,eZ];exact Yf
   refine tt (cd (fun Y5=>?_) (fun Y5=>?_))
   · refine tt ⟨ix,⟨⟨om,oK⟩,tt ⟨fun XU=>?_,fun XU=>?_⟩⟩⟩
     · have hc65':aV c s (bE c cl) j=true:=by rw[← XU,hfd,e7,Uw (by omega)]
       have hsj:WC.getD j rz=ae c s j:=by rw[Xv,e7,Uw (by omega)];exact Uw (RB hc65').1
       refine tt ⟨ix,⟨⟨⟨om,oK⟩,(by rw[hsj];exact⟨rfl,rfl,rfl,rfl,rfl,oK⟩)⟩,⟨?_,?_⟩⟩⟩
       · intro WI
         refine j8.vc (V:=TT 5 (GO (jS c s fd WC ps j XO WI) (0,XO) (∀m em,(jS c s fd WC ps j XO WI).inv (m,em)→TT 1 (CD ((m:Int)<((((ae c s j).Uj).length:Nat):Int)) (TT 1 (IX (m:Int) (((ae c s j).Uj).length)∧TT 6 (CB ((((ae c s j).Uj).getD m bu).has) (TT 7 (IX (j:Int) c.U.length∧TT 3 (IX (m:Int) (((c.U.getD j ac).Uj).length)∧TT 4 (am [[(i6 ((((ae c s j).Uj).getD m bu).v))]] ([(((ae c s j)).Uj.getD m bu).v].map (ab .i64))∧Bt Tryz.prog 75 [b9,(w3 c j m),(LI [(((ae c s j)).Uj.getD m bu).v])] (Ed c s fd WC ps j WI m em) (mK c s j m) (rt c s fd WC ps j WI m em) [] (.tup [])∧W6 ((m+1:Nat):Int)∧TT 1 (AG (jS c s fd WC ps j XO WI) (m,em) (m+1,em.set (((((c.U.getD j ac).Uj).getD m bt).chan).toNat) ((em.getD (((((c.U.getD j ac).Uj).getD m bt).chan).toNat) [])++[(((ae c s j)).Uj.getD m bu).v]))))))) (W6 ((m+1:Nat):Int)∧TT 1 (AG (jS c s fd WC ps j XO WI) (m,em) (m+1,em)))))) (True∧([(bZ c),(bX s),fc,.dead,(bZ c),(bX s),.dead,.dead,.dead,(gz ps),.dead,.dead,(.arr 67 1 aa [] em),.dead,.dead,(fu c),(hC fd),(hD WC),.frame WI (jR c s fd j)]:List aC)=(rp c s fd WC ps j XO)++.frame WI (jR c s fd j)::[]))))) (.l (jS c s fd WC ps j XO WI) (0,XO) (fun ⟨m,em⟩=>.b 12 (.b 17 (.q 5 [0,1,6,7,9,10,11] 21<|.w 5 [(16,.box 3 1 (ab .i64) 0 [(((ae c s j)).Uj.getD m bu).v]),(17,.inl (.tup []) (mK c s j m) ((rt c s fd WC ps j WI m em)++.dead::[]))]<|.w 6 [(0,.val (i6 ((m+1:Nat):Int)))]<|.e) (.w 6 [(0,.val (i6 ((m+1:Nat):Int)))]<|.e)) (.e))) Tryz.func56 rfl rfl (by kernel_rfl) ?_
         have Yg:(ae c s j).Uj.length=(c.U.getD j ac).Uj.length:=ql _ _ _ _
         have ht1:(c.U.getD j ac).Uj.length≤100:=(hc.pr j (by omega)).pl
         refine tt ⟨rfl,⟨by omega,rfl⟩,?_⟩
         intro m em F'
         obtain⟨hm,hem⟩:=F'
         have hel:em.length=c.J.length:=by rw[hem,kf,hchl2]
         refine tt (cd (fun XF=>?_) (fun XF=>?_))
         · refine tt ⟨ix,tt ⟨fun XT=>?_,fun XT=>?_⟩⟩
           · have hkt:m<(c.U.getD j ac).Uj.length:=by omega
             have ZA:0≤((c.U.getD j ac).Uj.getD m bt).chan∧((c.U.getD j ac).Uj.getD m bt).chan<c.J.length:=⟨(hc.pt j (by omega) m hkt).1,(hc.pt j (by omega) m hkt).2.1⟩
             have hfl:(em.getD ((c.U.getD j ac).Uj.getD m bt).chan.toNat []).length+1≤137438953472:=by
               rw[hem,hch2,uN]
               exact L7 hc Yf ZD (show j<c.U.length by omega) (show m≤(c.U.getD j ac).Uj.length by omega) (show((c.U.getD j ac).Uj.getD m bt).chan.toNat<c.J.length by omega)
             refine tt ⟨ix,tt ⟨ix,tt ⟨⟨⟨rfl,oK⟩,oK⟩,⟨?_,?_⟩⟩⟩⟩
             · intro ZP
               refine j8.vc (V:=TT 4 (Bt Tryz.prog 73 [b9,(w3 c j m),(.fn (.func 88) [] [(.iptr [(.sl 1 (ab .i64) 0 [(((ae c s j)).Uj.getD m bu).v])] 0)])] (Ee c s fd WC ps j WI m em ZP) (mL c s j m) (rq c s fd WC ps j WI m em ZP) [] (.tup [])∧True∧([(bZ c),(bX s),fc,.dead,(bZ c),(bX s),.dead,.dead,.dead,(gz ps),.dead,.dead,(Gi em c j m s),.dead,.dead,(fu c),(hC fd),(hD WC),(.frame WI (uX c s j fd)),(.var 135 (qz c s j)),(ub c s j m),.dead,.dead,.dead,.dead,.dead,.dead,.dead,.dead,.dead,.dead,.dead,.dead,.dead,.dead,.dead,.dead,.dead,.frame ZP (mK c s j m)]:List aC)=(rt c s fd WC ps j WI m em)++.frame ZP (mK c s j m)::[])) (.q 1 [0,1,5] 40<|.f 1 39<|.w 1 [(3,.inl (.tup []) (mL c s j m) ((rq c s fd WC ps j WI m em ZP)++.dead::[]))]<|.e) Tryz.func75 rfl rfl (by kernel_rfl) ?_
               refine tt ⟨?_,?_⟩
               · intro tm2
                 refine j8.vc (V:=TT 13 (IX ((((c.U.getD j ac).Uj).getD m bt).chan) em.length∧(((((c.U.getD j ac).Uj).getD m bt).chan).toNat<em.length∧True)∧CC (S5 (em.getD (((((c.U.getD j ac).Uj).getD m bt).chan).toNat) []) [(((ae c s j)).Uj.getD m bu).v])∧IX ((((c.U.getD j ac).Uj).getD m bt).chan) em.length∧(((((c.U.getD j ac).Uj).getD m bt).chan).toNat<em.length∧(em.map aa).set (((((c.U.getD j ac).Uj).getD m bt).chan).toNat) ((aa (em.getD (((((c.U.getD j ac).Uj).getD m bt).chan).toNat) [])).take 0++[(.sl 1 (ab .i64) 0 ((em.getD (((((c.U.getD j ac).Uj).getD m bt).chan).toNat) [])++[(((ae c s j)).Uj.getD m bu).v]))]++(aa (em.getD (((((c.U.getD j ac).Uj).getD m bt).chan).toNat) [])).drop (0+1))=(em.set (((((c.U.getD j ac).Uj).getD m bt).chan).toNat) ((em.getD (((((c.U.getD j ac).Uj).getD m bt).chan).toNat) [])++[(((ae c s j)).Uj.getD m bu).v])).map aa)∧True∧([(bZ c),(bX s),fc,.dead,(bZ c),(bX s),.dead,.dead,.dead,(gz ps),.dead,.dead,(Gi em c j m s),.dead,.dead,(fu c),(hC fd),(hD WC),(.frame WI (uX c s j fd)),(.var 135 (qz c s j)),(ub c s j m),.dead,.dead,.dead,.dead,.dead,.dead,.dead,.dead,.dead,.dead,.dead,.dead,.dead,.dead,.dead,.dead,.dead,(.frame ZP (Gf j m c s)),.dead,.frame tm2 (mL c s j m)]:List aC)=(rq c s fd WC ps j WI m em ZP)++.frame tm2 (mL c s j m)::[])) (.w 0 [(15,(S5 (em.getD (((((c.U.getD j ac).Uj).getD m bt).chan).toNat) []) [(((ae c s j)).Uj.getD m bu).v]).O),(17,.box 67 1 aa [] (em.set (((((c.U.getD j ac).Uj).getD m bt).chan).toNat) ((em.getD (((((c.U.getD j ac).Uj).getD m bt).chan).toNat) [])++[(((ae c s j)).Uj.getD m bu).v])))]<|.e) Tryz.func73 rfl rfl (by kernel_rfl) ?_
                 exact tt ⟨ix,⟨⟨om,oK⟩,⟨(Eb (em.getD (((((c.U.getD j ac).Uj).getD m bt).chan).toNat) []) [(((ae c s j)).Uj.getD m bu).v] om),⟨ix,⟨⟨om,by simp only[US];rfl⟩,⟨oK,rfl⟩⟩⟩⟩⟩⟩
               exact⟨oK,rfl⟩
             refine⟨w6,tt ⟨(m+1,em.set (((((c.U.getD j ac).Uj).getD m bt).chan).toNat) ((em.getD (((((c.U.getD j ac).Uj).getD m bt).chan).toNat) [])++[(((ae c s j)).Uj.getD m bu).v])),rfl,?_,(?_:(ae c s j).Uj.length-(m+1)<(ae c s j).Uj.length-m)⟩⟩
             · exact⟨by omega,by rw[FM XT,hem];exact(zQ _ _ _ _).symm⟩
             · omega
           · refine⟨w6,tt ⟨(m+1,em),rfl,?_,(?_:(ae c s j).Uj.length-(m+1)<(ae c s j).Uj.length-m)⟩⟩
             · exact⟨by omega,by rw[JU XT,hem]⟩
             · omega
         · refine⟨oK,congrArg (fun (z0:List (List Int))=>([(bZ c),(bX s),fc,.dead,(bZ c),(bX s),.dead,.dead,.dead,(gz ps),.dead,.dead,(.arr 67 1 aa [] z0),.dead,.dead,(fu c),(hC fd),(hD WC),.frame WI (jR c s fd j)]:List aC)) (?_:em=(cD XO (nW (c.U.getD j ac) (ae c s j) (c.U.getD j ac).Uj.length)))⟩
           rw[hem,show m=(c.U.getD j ac).Uj.length by omega]
       refine⟨w6,tt ⟨(j+1,cD XO (nW (c.U.getD j ac) (ae c s j) (c.U.getD j ac).Uj.length)),rfl,?_,(?_:c.U.length-(j+1)<c.U.length-j)⟩⟩
       · exact⟨by omega,by rw[hch2];rw[BU hc65',uN]⟩
       · omega
     · have hc65':aV c s (bE c cl) j=false:=by rw[← XU,hfd,e7,Uw (by omega)]
       refine⟨w6,tt ⟨(j+1,XO),rfl,?_,(?_:c.U.length-(j+1)<c.U.length-j)⟩⟩
       · exact⟨by omega,by rw[hch2];rw[Ac hc65']⟩
       · omega
   · have hje:j=c.U.length:=by omega
     refine tt ⟨⟨(congrArg _ (?_:ps=((bx c s (bE c cl)).U))),(congrArg _ (?_:XO=((bx c s (bE c cl)).J))),oK⟩,(congrArg _ (?_:fd=(tab (aV c s (bE c cl)) c.U.length))),oK⟩
     · rw[hps,W8,bN (by omega)];rfl
     · rw[hch2,hje];exact Hc hc Yf
     · rw[hfd,W8,bN (by simp)]
abbrev c9 (c:Ci) (s:Ns) (cl:ByteArray):Ct:=⟨9,[(.agg [(dL 6 bG ac c.U),(dL 5 ca aK c.J)]),(.agg [(dL 2 bi a7 s.U),(dL 1 aa [] s.J)]),(dS cl)],true,(.tup [(.agg [(dL 2 bi a7 ((bx c s (bE c cl)).U)),(dL 1 aa [] ((bx c s (bE c cl)).J))]),(LB (tab (aV c s (bE c cl)) c.U.length))])⟩
theorem Cu (c:Ci) (s:Ns) (cl:ByteArray) (hc:cr c) (hs:eG c s) (ZD:sA s 4294967296):CC (c9 c s cl):=by
 have Xo:=hc.nl
 have hcl:=hc.cl
 refine ah.vc (V:=TT 8 (CC (Pj c s cl)∧TT 6 ((((bx c s (bE c cl)).U).map bi=((bx c s (bE c cl)).U).map bi∧((bx c s (bE c cl)).J).map aa=((bx c s (bE c cl)).J).map aa∧True)∧(tab (aV c s (bE c cl)) c.U.length).map ba=(tab (aV c s (bE c cl)) c.U.length).map ba∧True))) (.f 1 0<|.f 1 2<|.w 1 [(3,(Pj c s cl).O)]<|.e) Tryz.func9 rfl rfl rfl (by kernel_rfl) ?_
 exact tt ⟨(HG c s cl hc hs ZD),tt ⟨⟨rfl,rfl,oK⟩,rfl,oK⟩⟩
theorem QZ {n:Nat} (h:n≤62):ai (n:Int)=((2^n-1:Nat):Int):=by
 rw[da (by omega) (by omega),Vd]
 have h1:1≤(2:Nat)^n:=Nat.one_le_two_pow
 have e:((2:Int)^n)=((2^n:Nat):Int):=by simp
 rw[e]
 omega
theorem MJ {n z i:Nat} (hz:z<2^n):(2^n-1-z).testBit i=(decide (i<n)&&!z.testBit i):=by
 rw[show 2^n-1-z=2^n-(z+1)from by omega,Nat.testBit_two_pow_sub_succ hz]
def fC (ws:List Int) (n:Nat):Bool:=decide (ws.length=n)&&ws.all ax&&(decide (n<2)||decide (ws.getD (n-1) 0=ws.getD (n-2) 0))
theorem MK {ws:List Int} (h:∀i,i<ws.length→ax (ws.getD i 0)=true):ws.all ax=true:=by
 rw[UU]
 intro x hx
 obtain⟨i,hi,rfl⟩:=VT hx
 have:=h i hi
 simpa[List.getD,Uq hi]using this
theorem bA {ws:List Int} {n:Nat} (h:fC ws n=true):ws.length=n∧ws.all ax=true∧(n<2∨ws.getD (n-1) 0=ws.getD (n-2) 0):=by
 unfold fC at h
 simp only[Uo,U3,U8]at h
 exact⟨h.1.1,h.1.2,h.2⟩
theorem dq {ws:List Int} {n i:Nat} (h:fC ws n=true) (hi:i<n):ax (ws.getD i 0)=true:=by
 obtain⟨h1,h2,_⟩:=bA h
 exact aQ.2 (aE h2 (by omega))
theorem hE {ws:List Int} (h:fC ws 2=true):ws.getD 1 0=ws.getD 0 0:=by
 rcases(bA h).2.2 with h | h
 ·omega
 ·exact h
theorem hJ {op:Int} {ws:List Int} {k w Yz:Int} (h:it op ws k w=true) (e:bp op ws k w=Yz):Yz=b7 op ws k w∧(0:Int)=kH op ws k w:=by
 unfold b7 kH;rw[h,e];exact⟨rfl,rfl⟩
theorem uY {op:Int} {ws:List Int} {k w:Int} {n:Nat} (ha:bw op=n) (h1:ws.length=n) (h2:ws.all ax=true) (h3:ax (bp op ws k w)=true):it op ws k w=true:=by
 unfold it;rw[ha,Uz (by omega),h2,h3];rfl
theorem oB {op:Int} {ws:List Int} {k w:Int} {n:Nat} (ha:bw op=n) (h:it op ws k w=true):ws.length=n∧ws.all ax=true∧1≤bp op ws k w∧bp op ws k w≤8:=by
 obtain⟨h1,h2,h3⟩:=kI h
 rw[ha]at h1
 have:=aQ.1 h3
 exact⟨by omega,h2,this.1,this.2⟩
theorem w4 {op:Int} {ws:List Int} {k w:Int} (h:it op ws k w=true):op=1∨op=2∨op=3∨op=4∨op=5∨op=6∨op=7∨op=8∨op=9∨op=10∨op=11∨op=12∨op=13:=by
 rcases Decidable.em (op<1∨13<op)with hh | hh
 ·rw[LL hh]at h;cases h
 ·omega
theorem w5 {ws:List Int} (h:ws.getD 1 0=ws.getD 0 0):bV ws=ws.getD 0 0:=by
 unfold bV;rw[Ur (by rw[h];simp)]
theorem yO {ws:List Int} (h:1≤bV ws):ws.getD 1 0=ws.getD 0 0:=by
 unfold bV at h;split at h
 ·omega
 ·rename_i hn;exact(Decidable.not_not.1 hn).symm
theorem lx {ws:List Int} {n:Nat} (h1:ws.length=n) (h2:ws.all ax=true) (h3:n<2∨ws.getD (n-1) 0=ws.getD (n-2) 0):fC ws n=true:=by
 unfold fC;rw[Uz h1,h2]
 rcases h3 with h3 | h3
 ·rw[Uz h3];rfl
 ·rw[Uz h3];simp
theorem HH {ws:List Int} {k w:Int}:it 1 ws k w=true↔(ws.length=0∧ax w=true∧0≤k∧k≤ai w):=by
 have e:bp 1 ws k w=(if ax w=false∨k<0∨ai w<k then 0 else w):=rfl
 constructor
 ·intro h
  obtain⟨h1,h2,h3,h4⟩:=oB (n:=0) (by decide) h
  rw[e]at h3
  split at h3
  ·omega
  ·rename_i hn
   simp only[not_or,Bool.not_eq_false]at hn
   exact⟨h1,hn.1,by omega,by omega⟩
 ·intro ⟨h1,h2,h3,h4⟩
  refine uY (n:=0) (by decide) h1 (by rw[U0 h1];rfl) ?_
  rw[e,Ur (by rw[h2];simp;omega)]
  exact h2
theorem KB {ws:List Int} {k w:Int} (h2:ax w=true) (h3:0≤k) (h4:k≤ai w):bp 1 ws k w=w:=by
 show(if ax w=false∨k<0∨ai w<k then 0 else w)=w
 rw[Ur (by rw[h2];simp;omega)]
theorem ML {ws:List Int} {k w:Int}:it 2 ws k w=true↔fC ws 1=true:=by
 constructor
 ·intro h
  obtain⟨h1,h2,h3,h4⟩:=oB (n:=1) (by decide) h
  exact lx h1 h2 (.inl (by omega))
 ·intro h
  obtain⟨h1,h2,_⟩:=bA h
  exact uY (n:=1) (by decide) h1 h2 (dq h (by omega))
theorem Ef {op:Int} (XP:3≤op∧op≤7) {ws:List Int} {k w:Int}:bp op ws k w=bV ws:=by
 have:op=3∨op=4∨op=5∨op=6∨op=7:=by omega
 rcases this with rfl | rfl | rfl | rfl | rfl<;>rfl
theorem AJ {op:Int} (XP:3≤op∧op≤9):bw op=(2:Nat):=by
 have:op=3∨op=4∨op=5∨op=6∨op=7∨op=8∨op=9:=by omega
 rcases this with rfl | rfl | rfl | rfl | rfl | rfl | rfl<;>decide
theorem ij {op:Int} (XP:3≤op∧op≤7) {ws:List Int} {k w:Int}:it op ws k w=true↔fC ws 2=true:=by
 constructor
 ·intro h
  obtain⟨h1,h2,h3,h4⟩:=oB (n:=2) (AJ (by omega)) h
  rw[Ef XP]at h3
  exact lx h1 h2 (.inr (yO h3))
 ·intro h
  obtain⟨h1,h2,h3⟩:=bA h
  refine uY (n:=2) (AJ (by omega)) h1 h2 ?_
  rw[Ef XP,w5 (by rcases h3 with h3 | h3;omega;exact h3)]
  exact dq h (by omega)
theorem sX {op:Int} (XP:3≤op∧op≤7) {ws:List Int} {k w:Int} (h:fC ws 2=true):bp op ws k w=ws.getD 0 0:=by
 obtain⟨h1,h2,h3⟩:=bA h
 rw[Ef XP,w5 (by rcases h3 with h3 | h3;omega;exact h3)]
theorem KC {op:Int} (XP:op=8∨op=9) {ws:List Int} {k w:Int}:bp op ws k w=min (bV ws) 1:=by
 rcases XP with rfl | rfl<;>rfl
theorem AK {op:Int} (XP:op=8∨op=9) {ws:List Int} {k w:Int} (h:fC ws 2=true):bp op ws k w=1:=by
 obtain⟨h1,h2,h3⟩:=bA h
 have:=aQ.1 (dq h (i:=0) (by omega))
 rw[KC XP,w5 (by rcases h3 with h3 | h3;omega;exact h3)]
 omega
theorem vJ {op:Int} (XP:op=8∨op=9) {ws:List Int} {k w:Int}:it op ws k w=true↔fC ws 2=true:=by
 constructor
 ·intro h
  obtain⟨h1,h2,h3,h4⟩:=oB (n:=2) (AJ (by omega)) h
  rw[KC XP]at h3
  exact lx h1 h2 (.inr (yO (by omega)))
 ·intro h
  obtain⟨h1,h2,h3⟩:=bA h
  refine uY (n:=2) (AJ (by omega)) h1 h2 ?_
  rw[AK XP h]
  decide
theorem Gj {ws:List Int} {k w:Int} (h:fC ws 3=true) (h0:ws.getD 0 0=1):bp 10 ws k w=ws.getD 1 0:=by
 obtain⟨h1,h2,h3⟩:=bA h
 show(if ws.getD 0 0≠1∨ws.getD 1 0≠ws.getD 2 0 then (0:Int)else ws.getD 1 0)=_
 have h3:ws.getD 2 0=ws.getD 1 0:=by rcases h3 with h3 | h3;omega;exact h3
 rw[Ur (by rw[h0,h3];simp)]
theorem MM {ws:List Int} {k w:Int}:it 10 ws k w=true↔(fC ws 3=true∧ws.getD 0 0=1):=by
 have e:bp 10 ws k w=(if ws.getD 0 0≠1∨ws.getD 1 0≠ws.getD 2 0 then 0 else ws.getD 1 0):=rfl
 constructor
 ·intro h
  obtain⟨h1,h2,h3,h4⟩:=oB (n:=3) (by decide) h
  rw[e]at h3
  split at h3
  ·omega
  ·rename_i hn
   simp only[not_or,ne_eq,Decidable.not_not]at hn
   exact⟨lx h1 h2 (.inr hn.2.symm),hn.1⟩
 ·intro ⟨h,h0⟩
  obtain⟨h1,h2,h3⟩:=bA h
  refine uY (n:=3) (by decide) h1 h2 ?_
  rw[Gj h h0]
  exact dq h (by omega)
theorem MN {ws:List Int} {k w:Int}:it 11 ws k w=true↔(ws.length=2∧ax (ws.getD 0 0)=true∧ax (ws.getD 1 0)=true∧ax (ws.getD 0 0+ws.getD 1 0)=true):=by
 constructor
 ·intro h
  obtain⟨h1,h2,h3,h4⟩:=oB (n:=2) (by decide) h
  exact⟨h1,aQ.2 (aE h2 (by omega)),aQ.2 (aE h2 (by omega)),aQ.2 ⟨h3,h4⟩⟩
 ·intro ⟨h1,h2,h3,h4⟩
  refine uY (n:=2) (by decide) h1 (MK (fun i hi=>?_)) h4
  match i,hi with
  | 0,_=>exact h2
  | 1,_=>exact h3
  | i+2,hi=>omega
theorem yP {ws:List Int} {k w:Int} (h2:ax w=true) (h3:0≤k) (h4:k≤ws.getD 0 0-w):bp 12 ws k w=w:=by
 show(if ax w=false∨k<0∨ws.getD 0 0-w<k then 0 else w)=w
 rw[Ur (by rintro(h | h | h)<;>first | omega | (rw[h2]at h;cases h))]
theorem HI {ws:List Int} {k w:Int}:it 12 ws k w=true↔(fC ws 1=true∧ax w=true∧0≤k∧k≤ws.getD 0 0-w):=by
 have e:bp 12 ws k w=(if ax w=false∨k<0∨ws.getD 0 0-w<k then 0 else w):=rfl
 constructor
 ·intro h
  obtain⟨h1,h2,h3,h4⟩:=oB (n:=1) (by decide) h
  rw[e]at h3
  split at h3
  ·omega
  ·rename_i hn
   simp only[not_or,Bool.not_eq_false]at hn
   exact⟨lx h1 h2 (.inl (by omega)),hn.1,by omega,by omega⟩
 ·intro ⟨h,h2,h3,h4⟩
  obtain⟨h1,hf,_⟩:=bA h
  refine uY (n:=1) (by decide) h1 hf ?_
  rw[yP h2 h3 h4]
  exact h2
theorem Gk {ws:List Int} {k w:Int} (h:ws.getD 0 0≤w):bp 13 ws k w=w:=by
 show(if w<ws.getD 0 0 then 0 else w)=w
 rw[Ur (by omega)]
theorem MO {ws:List Int} {k w:Int}:it 13 ws k w=true↔(fC ws 1=true∧ws.getD 0 0≤w∧ax w=true):=by
 have e:bp 13 ws k w=(if w<ws.getD 0 0 then 0 else w):=rfl
 constructor
 ·intro h
  obtain⟨h1,h2,h3,h4⟩:=oB (n:=1) (by decide) h
  have h5:=aQ.2 ⟨h3,h4⟩
  rw[e]at h3 h5
  split at h3
  ·omega
  ·rename_i hn
   rw[Ur hn]at h5
   exact⟨lx h1 h2 (.inl (by omega)),by omega,h5⟩
 ·intro ⟨h,h2,h3⟩
  obtain⟨h1,hf,_⟩:=bA h
  refine uY (n:=1) (by decide) h1 hf ?_
  rw[Gk h2]
  exact h3
theorem MP {x w:Int} (hw:0≤w∧w≤8) (hx:0≤x∧x≤ai w):ai w-x=((x.toNat ^^^ (ai w).toNat:Nat):Int):=by
 obtain⟨n,rfl⟩:=Vg hw.1
 obtain⟨y,rfl⟩:=Vg hx.1
 have hp:=Nat.two_pow_pos n
 rw[QZ (by omega)]at hx ⊢
 have hy:y<2^n:=by omega
 rw[Vd,Vd]
 have e:y ^^^ (2^n-1)=2^n-1-y:=by
  refine Nat.eq_of_testBit_eq (fun i=>?_)
  rw[Nat.testBit_xor,Nat.testBit_two_pow_sub_one,MJ hy]
  by_cases hi:i<n
  ·simp[hi]
  ·have:y.testBit i=false:=Nat.testBit_lt_two_pow (Vl hy (VJ (by omega) (by omega)))
   simp[hi,this]
 rw[e]
 omega
theorem Cv {s w:Int} (hw:0≤w∧w≤8) (hs:0≤s):Int.tmod s (ai w+1)=s%2^w.toNat:=by
 rw[Vo hs,da (by omega) (by omega)]
 congr 1
 omega
theorem MQ {a b w:Int} (hw:0≤w∧w≤8) (hs:0≤a-b+ai w+1):Int.tmod (a-b+ai w+1) (ai w+1)=(a-b)%2^w.toNat:=by
 rw[Cv hw hs,da (by omega) (by omega),show a-b+(2^w.toNat-1)+1=a-b+2^w.toNat from by omega,Int.add_emod_right]
abbrev Ny (c:Ci) (i:Nat) (s:Ns):aC:=(.var 124 [(dS ((c.U.getD i ac).name)),(dS ((c.U.getD i ac).clock)),(dL 13 bO aI ((c.U.getD i ac).Ul)),(dL 27 b8 ay ((c.U.getD i ac).Uk)),(dL 9 dU bC ((c.U.getD i ac).I)),(dL 16 dQ bt ((c.U.getD i ac).Uj)),(LI ((s.U.getD i a7).Ul)),(dL 1 aa [] ((s.U.getD i a7).Uk)),(.own 10),(.own 11)])
abbrev Nz (c:Ci) (i:Nat):aC:=(.var 76 [(dS ((c.U.getD i ac).name)),(dS ((c.U.getD i ac).clock)),(dL 13 bO aI ((c.U.getD i ac).Ul)),(dL 27 b8 ay ((c.U.getD i ac).Uk)),(dL 9 dU bC ((c.U.getD i ac).I)),(dL 16 dQ bt ((c.U.getD i ac).Uj))])
abbrev yF (c:Ci):List D:=[(dL 6 bG ac c.U),(dL 5 ca aK c.J)]
abbrev F2 (s:Ns):List D:=[(dL 2 bi a7 s.U),(dL 1 aa [] s.J)]
set_option maxRecDepth 100000
abbrev OW (c:Ci):Ct:=⟨33,[(.agg (yF c))],true,(.v (.sm false (ab .i64) 0 (cY [] (bP c) c.J.length)))⟩
abbrev ig (c:Ci):Lp (Nat):=gD [3,8,9,10] 2 (fun (i:Nat)=>⟨[(3,(.own 1)),(8,(dL 5 ca aK c.J)),(9,(i6 (c.J.length:Int))),(10,(i6 (i:Int)))],[(.var 32 (yF c)),(.mpb 96 false (ab .i64) 0 (cY [] (bP c) i))]⟩) (fun (i:Nat)=>i≤c.J.length) (fun (i:Nat)=>c.J.length-i)
theorem rb (c:Ci) (hl:c.J.length≤137438953472):CC (OW c):=by
 refine ah.vc (V:=TT 8 (GO (ig c) 0 (∀i,(ig c).inv i→TT 1 (CD ((i:Int)<(c.J.length:Int)) (TT 1 (IX (i:Int) c.J.length∧TT 8 (eP ((cY [] (bP c) i).map (fun z9=>(z9.1,(ab .i64) z9.2))) ((c.J.getD i aK).name) [(.int .i64 (i:Int))]=(cY [] (bP c) (i+1)).map (fun z9=>(z9.1,(ab .i64) z9.2))∧W6 ((i+1:Nat):Int)∧TT 1 (AG (ig c) i (i+1))))) (TT 3 ((cY [] (bP c) i).map (fun z9=>(z9.1,(ab .i64) z9.2))=(cY [] (bP c) c.J.length).map (fun z9=>(z9.1,(ab .i64) z9.2)))))))) (.w 1 [(0,.mbox 96 false (ab .i64) 0 [])]<|.l (ig c) 0 (fun i=>.b 11 (.w 5 [(4,.mbox 96 false (ab .i64) 0 (cY [] (bP c) (i+1)))]<|.w 6 [(0,.val (i6 ((i+1:Nat):Int)))]<|.e) (.f 7 1<|.e))) Tryz.func33 rfl rfl rfl (by kernel_rfl) ?_
 refine tt ⟨rfl,(by omega),?_⟩
 intro i F'
 have hi:=F'
 refine tt (cd (fun YL=>?_) (fun YL=>?_))
 · refine tt ⟨ix,tt ⟨(ny _ _ _ _),⟨w6,tt ⟨(i+1),rfl,(?_:(i+1)≤c.J.length),(?_:c.J.length-(i+1)<c.J.length-i)⟩⟩⟩⟩
   · omega
   · omega
 · have W8:i=c.J.length:=by omega
   refine tt ?_
   rw[W8]
abbrev R5 (c:Ci) (s:Ns):Ct:=⟨47,[(.agg (yF c)),(.agg (F2 s))],true,(.v (.sm true nZ bR (bU c s c.U.length)))⟩
abbrev i8 (c:Ci) (s:Ns):Lp (Nat):=gD [3,5,15,16,17] 3 (fun (i:Nat)=>⟨[(3,(.ptr 1 0 0 0)),(5,(.own 2)),(15,(dL 6 bG ac c.U)),(16,(i6 (c.U.length:Int))),(17,(i6 (i:Int)))],[(.var 32 (yF c)),(.var 36 (F2 s)),(.mpb 121 true nZ bR (bU c s i))]⟩) (fun (i:Nat)=>i≤c.U.length) (fun (i:Nat)=>c.U.length-i)
abbrev i9 (c:Ci) (s:Ns) (i:Nat):Lp (Nat):=gD [3,5,7,8,15,16,17,32,33,34] 14 (fun (j:Nat)=>⟨[(3,(.ptr 1 0 0 0)),(5,(.own 2)),(7,(.ptr 3 0 0 0)),(8,(.ptr 13 0 0 0)),(15,(dL 6 bG ac c.U)),(16,(i6 (c.U.length:Int))),(17,(i6 (i:Int))),(32,(dL 13 bO aI ((c.U.getD i ac).Ul))),(33,(i6 ((((c.U.getD i ac).Ul).length:Nat):Int))),(34,(i6 (j:Int)))],[(.var 32 (yF c)),(.var 36 (F2 s)),(.mpb 121 true nZ bR (bU c s i)),(Nz c i),.dead,.dead,.dead,.dead,.dead,.dead,(.mpb 96 false (ab .i64) 0 (cY [] (l6 (c.U.getD i ac)) j)),(.mpb 96 false (ab .i64) 0 ([]:List (ByteArray×Int))),.dead,(Ny c i s)]⟩) (fun (j:Nat)=>j≤(c.U.getD i ac).Ul.length) (fun (j:Nat)=>(c.U.getD i ac).Ul.length-j)
abbrev ja (c:Ci) (s:Ns) (i:Nat) (j:Nat):Lp (Nat):=gD [3,5,7,8,15,16,17,46,47,48] 14 (fun (k:Nat)=>⟨[(3,(.ptr 1 0 0 0)),(5,(.own 2)),(7,(.ptr 3 0 0 0)),(8,(.ptr 13 0 0 0)),(15,(dL 6 bG ac c.U)),(16,(i6 (c.U.length:Int))),(17,(i6 (i:Int))),(46,(dL 27 b8 ay ((c.U.getD i ac).Uk))),(47,(i6 ((((c.U.getD i ac).Uk).length:Nat):Int))),(48,(i6 (k:Int)))],[(.var 32 (yF c)),(.var 36 (F2 s)),(.mpb 121 true nZ bR (bU c s i)),(Nz c i),.dead,.dead,.dead,.dead,.dead,.dead,(.mpb 96 false (ab .i64) 0 (cY [] (l6 (c.U.getD i ac)) j)),(.mpb 96 false (ab .i64) 0 (cY [] (tN (c.U.getD i ac)) k)),.dead,(Ny c i s)]⟩) (fun (k:Nat)=>k≤(c.U.getD i ac).Uk.length) (fun (k:Nat)=>(c.U.getD i ac).Uk.length-k)
theorem Ht (c:Ci) (s:Ns) (hl:c.U.length≤137438953472) (hsl:s.U.length=c.U.length) (hr:∀i,i<c.U.length→(c.U.getD i ac).Ul.length≤137438953472∧(c.U.getD i ac).Uk.length≤137438953472):CC (R5 c s):=by
 refine ah.vc (V:=TT 9 (GO (i8 c s) 0 (∀i,(i8 c s).inv i→TT 1 (CD ((i:Int)<(c.U.length:Int)) (TT 1 (IX (i:Int) c.U.length∧TT 8 (IX (i:Int) s.U.length∧TT 10 (GO (i9 c s i) 0 (∀j,(i9 c s i).inv j→TT 1 (CD ((j:Int)<((((c.U.getD i ac).Ul).length:Nat):Int)) (TT 1 (IX (j:Int) (((c.U.getD i ac).Ul).length)∧TT 9 (eP ((cY [] (l6 (c.U.getD i ac)) j).map (fun z9=>(z9.1,(ab .i64) z9.2))) ((((c.U.getD i ac).Ul).getD j aI).name) [(.int .i64 (j:Int))]=(cY [] (l6 (c.U.getD i ac)) (j+1)).map (fun z9=>(z9.1,(ab .i64) z9.2))∧W6 ((j+1:Nat):Int)∧TT 1 (AG (i9 c s i) j (j+1))))) (TT 4 (GO (ja c s i j) 0 (∀k,(ja c s i j).inv k→TT 1 (CD ((k:Int)<((((c.U.getD i ac).Uk).length:Nat):Int)) (TT 1 (IX (k:Int) (((c.U.getD i ac).Uk).length)∧TT 9 (eP ((cY [] (tN (c.U.getD i ac)) k).map (fun z9=>(z9.1,(ab .i64) z9.2))) ((((c.U.getD i ac).Uk).getD k ay).name) [(.int .i64 (k:Int))]=(cY [] (tN (c.U.getD i ac)) (k+1)).map (fun z9=>(z9.1,(ab .i64) z9.2))∧W6 ((k+1:Nat):Int)∧TT 1 (AG (ja c s i j) k (k+1))))) (TT 4 (eP ((bU c s i).map (fun z9=>(z9.1,nZ z9.2))) ((c.U.getD i ac).name) [(.str ((c.U.getD i ac).name)),(.str ((c.U.getD i ac).clock)),(.sl 13 bO aI ((c.U.getD i ac).Ul)),(.sl 27 b8 ay ((c.U.getD i ac).Uk)),(.sl 9 dU bC ((c.U.getD i ac).I)),(.sl 16 dQ bt ((c.U.getD i ac).Uj)),(.sl 1 (ab .i64) 0 ((s.U.getD i a7).Ul)),(.sl 1 aa [] ((s.U.getD i a7).Uk)),(.sm false (ab .i64) 0 (cY [] (l6 (c.U.getD i ac)) j)),(.sm false (ab .i64) 0 (cY [] (tN (c.U.getD i ac)) k))]=(bU c s (i+1)).map (fun z9=>(z9.1,nZ z9.2))∧W6 ((i+1:Nat):Int)∧TT 1 (AG (i8 c s) i (i+1)))))))))))))) (TT 3 ((bU c s i).map (fun z9=>(z9.1,nZ z9.2))=(bU c s c.U.length).map (fun z9=>(z9.1,nZ z9.2)))))))) (.w 1 [(0,.mbox 121 true nZ bR [])]<|.l (i8 c s) 0 (fun i=>.b 18 (.w 5 [(6,.mbox 96 false (ab .i64) 0 []),(7,.mbox 96 false (ab .i64) 0 [])]<|.l (i9 c s i) 0 (fun j=>.b 35 (.w 9 [(5,.mbox 96 false (ab .i64) 0 (cY [] (l6 (c.U.getD i ac)) (j+1)))]<|.w 10 [(0,.val (i6 ((j+1:Nat):Int)))]<|.e) (.l (ja c s i j) 0 (fun k=>.b 49 (.w 14 [(5,.mbox 96 false (ab .i64) 0 (cY [] (tN (c.U.getD i ac)) (k+1)))]<|.w 15 [(0,.val (i6 ((k+1:Nat):Int)))]<|.e) (.f 16 10<|.f 16 11<|.w 16 [(4,.mbox 121 true nZ bR (bU c s (i+1)))]<|.w 17 [(0,.val (i6 ((i+1:Nat):Int)))]<|.e))))) (.f 18 2<|.e))) Tryz.func47 rfl rfl rfl (by kernel_rfl) ?_
 refine tt ⟨rfl,(by omega),?_⟩
 intro i F'
 have hi:=F'
 refine tt (cd (fun Zp=>?_) (fun Zp=>?_))
 · refine tt ⟨ix,?_⟩
   have Zl:=hr i (by omega)
   refine tt ⟨ix,tt ⟨rfl,(by omega),?_⟩⟩
   intro j F'
   have hj:=F'
   refine tt (cd (fun WZ=>?_) (fun WZ=>?_))
   · refine tt ⟨ix,tt ⟨(ny _ _ _ _),⟨w6,tt ⟨(j+1),rfl,(?_:(j+1)≤(c.U.getD i ac).Ul.length),(?_:(c.U.getD i ac).Ul.length-(j+1)<(c.U.getD i ac).Ul.length-j)⟩⟩⟩⟩
     · omega
     · omega
   · have hje:j=(c.U.getD i ac).Ul.length:=by omega
     refine tt ⟨rfl,(by omega),?_⟩
     intro k F'
     have hk:=F'
     refine tt (cd (fun hc49=>?_) (fun hc49=>?_))
     · refine tt ⟨ix,tt ⟨(ny _ _ _ _),⟨w6,tt ⟨(k+1),rfl,(?_:(k+1)≤(c.U.getD i ac).Uk.length),(?_:(c.U.getD i ac).Uk.length-(k+1)<(c.U.getD i ac).Uk.length-k)⟩⟩⟩⟩
       · omega
       · omega
     · have X5:k=(c.U.getD i ac).Uk.length:=by omega
       refine tt ⟨(by rw[hje,X5];exact ny nZ (fA c s i) (jG c i) (bU c s i)),⟨w6,tt ⟨(i+1),rfl,(?_:(i+1)≤c.U.length),(?_:c.U.length-(i+1)<c.U.length-i)⟩⟩⟩
       · omega
       · omega
 · have W8:i=c.U.length:=by omega
   refine tt ?_
   rw[W8]
set_option maxRecDepth 100000
abbrev NA (o n:Ci):Ct:=⟨18,[(.agg [(dL 6 bG ac o.U),(dL 5 ca aK o.J)]),(.agg [(dL 6 bG ac n.U),(dL 5 ca aK n.J)])],true,(dL 1 eo .empty (bv o n o.J.length))⟩
abbrev fl (o:Ci) (n:Ci):Lp (Nat×List ByteArray):=nN [3,5,6,14,15,16] 3 (fun (i:Nat) (WU:List ByteArray)=>⟨[(3,(.ptr 1 0 0 0)),(5,(.v (.sm false (ab .i64) 0 (cY [] (bP n) n.J.length)))),(6,(.own 2)),(14,(dL 5 ca aK o.J)),(15,(i6 (o.J.length:Int))),(16,(i6 (i:Int)))],[(.var 32 [(dL 6 bG ac o.U),(dL 5 ca aK o.J)]),(.var 32 [(dL 6 bG ac n.U),(dL 5 ca aK n.J)]),(.arr 9 1 eo .empty WU)]⟩) (fun (i:Nat) (WU:List ByteArray)=>i≤o.J.length∧WU=bv o n i) (fun (i:Nat) (WU:List ByteArray)=>o.J.length-i)
theorem t7 (o n:Ci) (hol:o.J.length≤1000000) (Xo:n.J.length≤1000000):CC (NA o n):=by
 refine ah.vc (V:=TT 4 (CC (OW n)∧TT 6 (GO (fl o n) (0,[]) (∀i WU,(fl o n).inv (i,WU)→TT 1 (CD ((i:Int)<(o.J.length:Int)) (IX (i:Int) o.J.length∧TT 6 (((dC (i6 0) (gE false ((ab .i64) 0)))∧(false=false→∀p∈(cY [] (bP n) n.J.length),((ab .i64) p.2).length=1))∧TT 5 (CS ((bc (cY [] (bP n) n.J.length) ((o.J.getD i aK).name))=true) (TT 2 ((True∧(!(bc (cY [] (bP n) n.J.length) ((o.J.getD i aK).name)))=false)∧TT 3 (IX (ak 0 (cY [] (bP n) n.J.length) ((o.J.getD i aK).name)) n.J.length∧TT 6 (CN (((n.J.getD ((ak 0 (cY [] (bP n) n.J.length) ((o.J.getD i aK).name)).toNat) aK).w)=((o.J.getD i aK).w)) (TT 3 (am [[(dS ((o.J.getD i aK).name))]] ([(o.J.getD i aK).name].map eo)∧(WU.length+([(o.J.getD i aK).name].map eo).length≤137438953472∧WU.map eo++[(o.J.getD i aK).name].map eo=(bv o n (i+1)).map eo)∧TT 1 (W6 ((i+1:Nat):Int)∧TT 1 (AG (fl o n) (i,WU) (i+1,bv o n (i+1)))))) (W6 ((i+1:Nat):Int)∧TT 1 (AG (fl o n) (i,WU) (i+1,WU))))))) (TT 2 ((True∧(!(bc (cY [] (bP n) n.J.length) ((o.J.getD i aK).name)))=true)∧TT 4 (am [[(dS ((o.J.getD i aK).name))]] ([(o.J.getD i aK).name].map eo)∧(WU.length+([(o.J.getD i aK).name].map eo).length≤137438953472∧WU.map eo++[(o.J.getD i aK).name].map eo=(bv o n (i+1)).map eo)∧TT 1 (W6 ((i+1:Nat):Int)∧TT 1 (AG (fl o n) (i,WU) (i+1,bv o n (i+1)))))))))) (TT 3 (WU.map eo=(bv o n o.J.length).map eo))))))) (.w 1 [(1,(OW n).O)]<|.gs 3 6 9 1 eo .empty<|.l (fl o n) (0,[]) (fun ⟨i,WU⟩=>.b 17 (.s 7 ((bc (cY [] (bP n) n.J.length) ((o.J.getD i aK).name))=true) (.w 7 [(2,.val (dB false))]<|.b 39 (.w 8 [(3,.box 9 1 eo .empty [(o.J.getD i aK).name]),(4,.box 9 1 eo .empty (bv o n (i+1)))]<|.w 9 [(0,.val (i6 ((i+1:Nat):Int)))]<|.e) (.w 9 [(0,.val (i6 ((i+1:Nat):Int)))]<|.e)) (.w 7 [(2,.val (dB true))]<|.w 8 [(3,.box 9 1 eo .empty [(o.J.getD i aK).name]),(4,.box 9 1 eo .empty (bv o n (i+1)))]<|.w 9 [(0,.val (i6 ((i+1:Nat):Int)))]<|.e)) (.e))) Tryz.func18 rfl rfl rfl (by kernel_rfl) ?_
 refine tt ⟨(rb n (by omega)),tt ⟨rfl,⟨by omega,rfl⟩,?_⟩⟩
 intro i WU F'
 obtain⟨hi,Yw⟩:=F'
 refine tt (cd (fun XT=>?_) (fun XT=>?_))
 · refine⟨ix,tt ⟨⟨(dC.refl _),(fun _ _ _=>rfl)⟩,tt ?_⟩⟩
   have hin:=yl (f:=bP n) (k:=bP o i) n.J.length
   refine⟨fun N'=>?_,fun N'=>?_⟩
   · have hin2:0≤ak 0 (cY [] (bP n) n.J.length) (o.J.getD i aK).name∧ak 0 (cY [] (bP n) n.J.length) (o.J.getD i aK).name<(n.J.length:Int):=hin N'
     refine tt ⟨(mF N'),tt ⟨ix,tt (cn (fun Xq=>?_) (fun Xq=>?_))⟩⟩
     · refine tt ⟨⟨⟨rfl,oK⟩,oK⟩,⟨⟨by simp only[UB,Ve,UR];rw[Yw];have:=sk o n i;omega,by rw[Yw,BJ (o:=o) (n:=n) (i:=i) (by first | exact vy N' | exact vy (Vu.2 N') | exact Ft Xq),Vc];rfl⟩,tt ⟨w6,tt ⟨(i+1,bv o n (i+1)),rfl,?_,(?_:o.J.length-(i+1)<o.J.length-i)⟩⟩⟩⟩
       · exact⟨by omega,by first | rfl | (rw[Yw];exact zW (zV N' Xq))⟩
       · omega
     · refine⟨w6,tt ⟨(i+1,WU),rfl,?_,(?_:o.J.length-(i+1)<o.J.length-i)⟩⟩
       · exact⟨by omega,by first | rfl | (rw[Yw];exact zW (zV N' Xq))⟩
       · omega
   · refine tt ⟨(mT N'),tt ⟨⟨⟨rfl,oK⟩,oK⟩,⟨⟨by simp only[UB,Ve,UR];rw[Yw];have:=sk o n i;omega,by rw[Yw,BJ (o:=o) (n:=n) (i:=i) (by first | exact vy N' | exact vy (Vu.2 N') | exact Ft Xq),Vc];rfl⟩,tt ⟨w6,tt ⟨(i+1,bv o n (i+1)),rfl,?_,(?_:o.J.length-(i+1)<o.J.length-i)⟩⟩⟩⟩⟩
     · exact⟨by omega,by first | rfl | (rw[Yw];exact zW (zV N' Xq))⟩
     · omega
 · have W8:i=o.J.length:=by omega
   refine tt (congrArg _ (?_:WU=(bv o n o.J.length)))
   rw[Yw,W8]
abbrev F3 (c:fp) (v:Int) (is:Bool):List D:=[(.agg [(i6 c.first),(i6 c.w),(i6 c.Un.kind),(dS c.Un.src),(i6 c.Un.n)]),(i6 v),(dB is)]
set_option maxRecDepth 100000
abbrev QL (own:ByteArray) (r:an):Ct:=⟨67,[(dS own),(.agg [(i6 r.kind),(dS r.src),(i6 r.n)])],true,(dS (aD own r))⟩
theorem F4 (own:ByteArray) (r:an):CC (QL own r):=by
 refine ah.vc (V:=TT 5 (CD (r.kind=1) (TT 3 (own=(aD own r))) (TT 4 (r.src=(aD own r))))) (.b 7 (.e) (.e)) Tryz.func67 rfl rfl rfl (by kernel_rfl) ?_
 refine tt (cd (fun hc7=>?_) (fun hc7=>?_))
 · refine tt ?_
   first | exact(Uw hc7).symm | exact(Ur hc7).symm
 · refine tt ?_
   first | exact(Uw hc7).symm | exact(Ur hc7).symm
abbrev R6 (c:fp) (v:Int) (is:Bool):Ct:=⟨82,(F3 c v is),false,(i6 c.first)⟩
theorem ME (c:fp) (v:Int) (is:Bool):CC (R6 c v is):=by
 refine ah.vc (V:=TT 6 (c.first=c.first∧True)) (.e) Tryz.func82 rfl rfl rfl (by kernel_rfl) ?_
 exact tt ⟨rfl,oK⟩
abbrev OX (c:fp) (v:Int) (is:Bool):Ct:=⟨83,(F3 c v is),false,(i6 (fB c v is))⟩
theorem DW (c:fp) (v:Int) (is:Bool):CC (OX c v is):=by
 refine ah.vc (V:=TT 4 (CB (!is) (TT 4 (c.first=(fB c v is)∧True)) (TT 3 (CC (Hq c.w)∧(True∧(IntKind.wrap .i64 (BitVec.ofInt (IntKind.i64).bits v &&& BitVec.ofInt (IntKind.i64).bits (ai c.w)).toNat)=(nb v c.w))∧TT 2 ((nb v c.w)=(fB c v is)∧True))))) (.b 8 (.e) (.w 3 [(3,(Hq c.w).O),(4,.val (i6 (nb v c.w)))]<|.e)) Tryz.func83 rfl rfl rfl (by kernel_rfl) ?_
 refine tt ⟨fun hc8=>?_,fun hc8=>?_⟩
 · refine tt ⟨?_,oK⟩
   unfold fB;first | (rw[Ur (by simp_all)];done) | (rw[Uw (by simp_all)])
 · refine tt ⟨(pj c.w),⟨⟨oK,Jj⟩,tt ⟨?_,oK⟩⟩⟩
   unfold fB;first | (rw[Ur (by simp_all)];done) | (rw[Uw (by simp_all)])
abbrev R7 (c:fp) (v:Int) (is:Bool):Ct:=⟨84,(F3 c v is),false,(i6 (sn c v is))⟩
theorem OY (c:fp) (v:Int) (is:Bool):CC (R7 c v is):=by
 refine ah.vc (V:=TT 5 (CC (OX c v is)∧TT 3 ((True∧(IntKind.wrap .i64 ((fB c v is)+c.Un.n))=(IntKind.wrap .i64 (fB c v is+c.Un.n)))∧TT 2 (CC (Hq c.w)∧(True∧(IntKind.wrap .i64 (BitVec.ofInt (IntKind.i64).bits (IntKind.wrap .i64 (fB c v is+c.Un.n)) &&& BitVec.ofInt (IntKind.i64).bits (ai c.w)).toNat)=(sn c v is))∧TT 2 ((sn c v is)=(sn c v is)∧True))))) (.w 1 [(3,(OX c v is).O),(7,.val (i6 (IntKind.wrap .i64 (fB c v is+c.Un.n)))),(10,(Hq c.w).O),(11,.val (i6 (sn c v is)))]<|.e) Tryz.func84 rfl rfl rfl (by kernel_rfl) ?_
 exact tt ⟨(DW c v is),tt ⟨⟨oK,(by rfl)⟩,tt ⟨(pj c.w),⟨⟨oK,(by rw[Jj,Jl];rfl)⟩,tt ⟨rfl,oK⟩⟩⟩⟩⟩
abbrev rf (c:fp) (v:Int) (is:Bool):Ct:=⟨68,(F3 c v is),false,(i6 (de c v is))⟩
theorem QN (c:fp) (v:Int) (is:Bool) (hk:c.Un.kind=0):CC (rf c v is):=by
 refine ah.vc (V:=TT 15 ((True∧c.Un.kind=0)∧((0≤(0:Int)∧0<(4:Int))∧True)∧TT 3 (CC (R6 c v is)∧TT 2 (c.first=(de c v is)∧True)))) (.w 2 [(2,.val (i6 0)),(7,(R6 c v is).O)]<|.e) Tryz.func68 rfl rfl rfl (by kernel_rfl) ?_
 refine tt ⟨⟨oK,(by exact hk)⟩,⟨⟨by omega,oK⟩,tt ⟨(ME c v is),tt ⟨?_,oK⟩⟩⟩⟩
 unfold de;first | (rw[Uw (by omega)];done) | (rw[Ur (by omega),Uw (by omega)];done) | (rw[Ur (by omega),Ur (by omega)])
theorem QO (c:fp) (v:Int) (is:Bool) (hk:c.Un.kind=1):CC (rf c v is):=by
 refine ah.vc (V:=TT 15 ((True∧c.Un.kind=1)∧((0≤(1:Int)∧1<(4:Int))∧True)∧TT 3 (CC (OX c v is)∧TT 2 ((fB c v is)=(de c v is)∧True)))) (.w 2 [(2,.val (i6 1)),(7,(OX c v is).O)]<|.e) Tryz.func68 rfl rfl rfl (by kernel_rfl) ?_
 refine tt ⟨⟨oK,(by exact hk)⟩,⟨⟨by omega,oK⟩,tt ⟨(DW c v is),tt ⟨?_,oK⟩⟩⟩⟩
 unfold de;first | (rw[Uw (by omega)];done) | (rw[Ur (by omega),Uw (by omega)];done) | (rw[Ur (by omega),Ur (by omega)])
theorem QP (c:fp) (v:Int) (is:Bool) (hk:c.Un.kind=2):CC (rf c v is):=by
 refine ah.vc (V:=TT 15 ((True∧c.Un.kind=2)∧((0≤(2:Int)∧2<(4:Int))∧True)∧TT 3 (CC (OX c v is)∧TT 2 ((fB c v is)=(de c v is)∧True)))) (.w 2 [(2,.val (i6 2)),(7,(OX c v is).O)]<|.e) Tryz.func68 rfl rfl rfl (by kernel_rfl) ?_
 refine tt ⟨⟨oK,(by exact hk)⟩,⟨⟨by omega,oK⟩,tt ⟨(DW c v is),tt ⟨?_,oK⟩⟩⟩⟩
 unfold de;first | (rw[Uw (by omega)];done) | (rw[Ur (by omega),Uw (by omega)];done) | (rw[Ur (by omega),Ur (by omega)])
theorem QQ (c:fp) (v:Int) (is:Bool) (hk:c.Un.kind=3):CC (rf c v is):=by
 refine ah.vc (V:=TT 15 ((True∧c.Un.kind=3)∧((0≤(3:Int)∧3<(4:Int))∧True)∧TT 3 (CC (R7 c v is)∧TT 2 ((sn c v is)=(de c v is)∧True)))) (.w 2 [(2,.val (i6 3)),(7,(R7 c v is).O)]<|.e) Tryz.func68 rfl rfl rfl (by kernel_rfl) ?_
 refine tt ⟨⟨oK,(by exact hk)⟩,⟨⟨by omega,oK⟩,tt ⟨(OY c v is),tt ⟨?_,oK⟩⟩⟩⟩
 unfold de;first | (rw[Uw (by omega)];done) | (rw[Ur (by omega),Uw (by omega)];done) | (rw[Ur (by omega),Ur (by omega)])
theorem gZ (c:fp) (v:Int) (is:Bool) (h:0≤c.Un.kind∧c.Un.kind≤3):CC (rf c v is):=by
  have:c.Un.kind=0∨c.Un.kind=1∨c.Un.kind=2∨c.Un.kind=3:=by omega
  rcases this with h | h | h | h
  · exact QN c v is h
  · exact QO c v is h
  · exact QP c v is h
  · exact QQ c v is h
abbrev R8 (f:uK) (r:Rg):Ct:=⟨48,[(.agg [(dS f.p.name),(dS f.p.clock),(dL 13 bO aI f.p.Ul),(dL 27 b8 ay f.p.Uk),(dL 9 dU bC f.p.I),(dL 16 dQ bt f.p.Uj),(LI f.s.Ul),(dL 1 aa [] f.s.Uk),(.v (.sm false (ab .i64) 0 f.Ul)),(.v (.sm false (ab .i64) 0 f.Uk))]),(.agg [(dS r.name),(i6 r.w),(i6 r.init),(i6 r.next.op),(dS r.next.name),(i6 r.next.k.n),(dS r.next.k.p),(i6 r.next.w.n),(dS r.next.w.p),(dL 7 (eA 2) dE r.next.args),(i6 r.Un.kind),(dS r.Un.src),(i6 r.Un.n)])],false,(i6 (fJ f r))⟩
theorem OZ (f:uK) (r:Rg) (ZC:0≤r.Un.kind∧r.Un.kind≤3) (hix:bc f.Ul (aD r.name r.Un)=true→0≤ak 0 f.Ul (aD r.name r.Un)∧ak 0 f.Ul (aD r.name r.Un)<f.p.Ul.length∧ak 0 f.Ul (aD r.name r.Un)<f.s.Ul.length):CC (R8 f r):=by
 refine ah.vc (V:=TT 9 (CC (QL r.name r.Un)∧((dC (i6 0) (gE false ((ab .i64) 0)))∧(false=false→∀p∈f.Ul,((ab .i64) p.2).length=1))∧TT 5 (CS ((bc f.Ul (aD r.name r.Un))=true) (TT 1 ((True∧(bc f.Ul (aD r.name r.Un))=true)∧TT 5 (CD (r.Un.kind=1) (TT 4 (IX (ak 0 f.Ul (aD r.name r.Un)) f.p.Ul.length∧TT 4 ((True∧(((f.p.Ul.getD ((ak 0 f.Ul (aD r.name r.Un)).toNat) aI).w)==r.w)=(decide ((f.p.Ul.getD (ak 0 f.Ul (aD r.name r.Un)).toNat aI).w=r.w)))∧TT 3 (CD ((f.p.Ul.getD (ak 0 f.Ul (aD r.name r.Un)).toNat aI).w=r.w) (TT 4 (IX (ak 0 f.Ul (aD r.name r.Un)) f.s.Ul.length∧TT 11 (CC (rf (⟨r.init,r.w,r.Un⟩:fp) (f.s.Ul.getD ((ak 0 f.Ul (aD r.name r.Un)).toNat) 0) (decide ((f.p.Ul.getD (ak 0 f.Ul (aD r.name r.Un)).toNat aI).w=r.w)))∧TT 2 ((de (⟨r.init,r.w,r.Un⟩:fp) (f.s.Ul.getD ((ak 0 f.Ul (aD r.name r.Un)).toNat) 0) (decide ((f.p.Ul.getD (ak 0 f.Ul (aD r.name r.Un)).toNat aI).w=r.w)))=(fJ f r)∧True)))) (TT 9 (CC (rf (⟨r.init,r.w,r.Un⟩:fp) 0 (decide ((f.p.Ul.getD (ak 0 f.Ul (aD r.name r.Un)).toNat aI).w=r.w)))∧TT 2 ((de (⟨r.init,r.w,r.Un⟩:fp) 0 (decide ((f.p.Ul.getD (ak 0 f.Ul (aD r.name r.Un)).toNat aI).w=r.w)))=(fJ f r)∧True))))))) (TT 2 (CB (bc f.Ul (aD r.name r.Un)) (TT 4 (IX (ak 0 f.Ul (aD r.name r.Un)) f.s.Ul.length∧TT 11 (CC (rf (⟨r.init,r.w,r.Un⟩:fp) (f.s.Ul.getD ((ak 0 f.Ul (aD r.name r.Un)).toNat) 0) (bc f.Ul (aD r.name r.Un)))∧TT 2 ((de (⟨r.init,r.w,r.Un⟩:fp) (f.s.Ul.getD ((ak 0 f.Ul (aD r.name r.Un)).toNat) 0) (bc f.Ul (aD r.name r.Un)))=(fJ f r)∧True)))) (TT 9 (CC (rf (⟨r.init,r.w,r.Un⟩:fp) 0 (bc f.Ul (aD r.name r.Un)))∧TT 2 ((de (⟨r.init,r.w,r.Un⟩:fp) 0 (bc f.Ul (aD r.name r.Un)))=(fJ f r)∧True)))))))) (TT 1 ((True∧(bc f.Ul (aD r.name r.Un))=false)∧TT 7 ((bc f.Ul (aD r.name r.Un))=false∧TT 9 (CC (rf (⟨r.init,r.w,r.Un⟩:fp) 0 (bc f.Ul (aD r.name r.Un)))∧TT 2 ((de (⟨r.init,r.w,r.Un⟩:fp) 0 (bc f.Ul (aD r.name r.Un)))=(fJ f r)∧True)))))))) (.w 1 [(6,(QL r.name r.Un).O)]<|.s 2 ((bc f.Ul (aD r.name r.Un))=true) (.w 2 [(1,.val (dB true))]<|.b 25 (.w 3 [(9,.val (dB (decide ((f.p.Ul.getD (ak 0 f.Ul (aD r.name r.Un)).toNat aI).w=r.w))))]<|.b 36 (.w 7 [(9,(rf (⟨r.init,r.w,r.Un⟩:fp) (f.s.Ul.getD ((ak 0 f.Ul (aD r.name r.Un)).toNat) 0) (decide ((f.p.Ul.getD (ak 0 f.Ul (aD r.name r.Un)).toNat aI).w=r.w))).O)]<|.e) (.w 7 [(9,(rf (⟨r.init,r.w,r.Un⟩:fp) 0 (decide ((f.p.Ul.getD (ak 0 f.Ul (aD r.name r.Un)).toNat aI).w=r.w))).O)]<|.e)) (.b 36 (.w 7 [(9,(rf (⟨r.init,r.w,r.Un⟩:fp) (f.s.Ul.getD ((ak 0 f.Ul (aD r.name r.Un)).toNat) 0) (bc f.Ul (aD r.name r.Un))).O)]<|.e) (.w 7 [(9,(rf (⟨r.init,r.w,r.Un⟩:fp) 0 (bc f.Ul (aD r.name r.Un))).O)]<|.e))) (.w 2 [(1,.val (dB false))]<|.u 36 (.w 7 [(9,(rf (⟨r.init,r.w,r.Un⟩:fp) 0 (bc f.Ul (aD r.name r.Un))).O)]<|.e))) Tryz.func48 rfl rfl rfl (by kernel_rfl) ?_
 refine tt ⟨(F4 r.name r.Un),⟨⟨(dC.refl _),(fun _ _ _=>rfl)⟩,tt ⟨fun N'=>?_,fun N'=>?_⟩⟩⟩
 · have hx:=hix N'
   refine tt ⟨(bT N'),tt (cd (fun WD=>?_) (fun WD=>?_))⟩
   · refine tt ⟨ix,tt ⟨⟨oK,(by rfl)⟩,tt (cd (fun hc36=>?_) (fun hc36=>?_))⟩⟩
     · refine tt ⟨ix,tt ⟨(gZ (⟨r.init,r.w,r.Un⟩:fp) (f.s.Ul.getD ((ak 0 f.Ul (aD r.name r.Un)).toNat) 0) (decide ((f.p.Ul.getD (ak 0 f.Ul (aD r.name r.Un)).toNat aI).w=r.w)) ZC),tt ⟨?_,oK⟩⟩⟩
       unfold fJ qo zX BK;first | (simp_all;done) | (split<;>simp_all)
     · refine tt ⟨(gZ (⟨r.init,r.w,r.Un⟩:fp) 0 (decide ((f.p.Ul.getD (ak 0 f.Ul (aD r.name r.Un)).toNat aI).w=r.w)) ZC),tt ⟨?_,oK⟩⟩
       unfold fJ qo zX BK;first | (simp_all;done) | (split<;>simp_all)
   · refine tt ⟨fun hc36=>?_,fun hc36=>?_⟩
     · refine tt ⟨ix,tt ⟨(gZ (⟨r.init,r.w,r.Un⟩:fp) (f.s.Ul.getD ((ak 0 f.Ul (aD r.name r.Un)).toNat) 0) (bc f.Ul (aD r.name r.Un)) ZC),tt ⟨?_,oK⟩⟩⟩
       unfold fJ qo zX BK;first | (simp_all;done) | (split<;>simp_all)
     · refine tt ⟨(gZ (⟨r.init,r.w,r.Un⟩:fp) 0 (bc f.Ul (aD r.name r.Un)) ZC),tt ⟨?_,oK⟩⟩
       unfold fJ qo zX BK;first | (simp_all;done) | (split<;>simp_all)
 · refine tt ⟨(bF N'),tt ⟨(TH (by first | exact N' | exact Vu.2 N')),tt ⟨(gZ (⟨r.init,r.w,r.Un⟩:fp) 0 (bc f.Ul (aD r.name r.Un)) ZC),tt ⟨?_,oK⟩⟩⟩⟩
   unfold fJ qo zX BK;first | (simp_all;done) | (split<;>simp_all)
abbrev F5 (m:Mm):aC:=(.var 64 [(dS m.name),(i6 m.w),(i6 m.Um),(i6 m.enable.op),(dS m.enable.name),(i6 m.enable.k.n),(dS m.enable.k.p),(i6 m.enable.w.n),(dS m.enable.w.p),(dL 7 (eA 2) dE m.enable.args),(i6 m.addr.op),(dS m.addr.name),(i6 m.addr.k.n),(dS m.addr.k.p),(i6 m.addr.w.n),(dS m.addr.w.p),(dL 7 (eA 2) dE m.addr.args),(i6 m.data.op),(dS m.data.name),(i6 m.data.k.n),(dS m.data.k.p),(i6 m.data.w.n),(dS m.data.w.p),(dL 7 (eA 2) dE m.data.args),(i6 m.Un.kind),(dS m.Un.src),(i6 m.Un.n)])
abbrev F6 (f:uK):aC:=(.var 124 [(dS f.p.name),(dS f.p.clock),(dL 13 bO aI f.p.Ul),(dL 27 b8 ay f.p.Uk),(dL 9 dU bC f.p.I),(dL 16 dQ bt f.p.Uj),(LI f.s.Ul),(dL 1 aa [] f.s.Uk),(.v (.sm false (ab .i64) 0 f.Ul)),(.v (.sm false (ab .i64) 0 f.Uk))])
abbrev uR (m:Mm):D:=(i6 (m.Um.toNat:Int))
set_option maxRecDepth 100000
abbrev R9 (f:uK) (m:Mm):Ct:=⟨49,[(.agg [(dS f.p.name),(dS f.p.clock),(dL 13 bO aI f.p.Ul),(dL 27 b8 ay f.p.Uk),(dL 9 dU bC f.p.I),(dL 16 dQ bt f.p.Uj),(LI f.s.Ul),(dL 1 aa [] f.s.Uk),(.v (.sm false (ab .i64) 0 f.Ul)),(.v (.sm false (ab .i64) 0 f.Uk))]),(.agg [(dS m.name),(i6 m.w),(i6 m.Um),(i6 m.enable.op),(dS m.enable.name),(i6 m.enable.k.n),(dS m.enable.k.p),(i6 m.enable.w.n),(dS m.enable.w.p),(dL 7 (eA 2) dE m.enable.args),(i6 m.addr.op),(dS m.addr.name),(i6 m.addr.k.n),(dS m.addr.k.p),(i6 m.addr.w.n),(dS m.addr.w.p),(dL 7 (eA 2) dE m.addr.args),(i6 m.data.op),(dS m.data.name),(i6 m.data.k.n),(dS m.data.k.p),(i6 m.data.w.n),(dS m.data.w.p),(dL 7 (eA 2) dE m.data.args),(i6 m.Un.kind),(dS m.Un.src),(i6 m.Un.n)])],true,(LI (gW f m))⟩
abbrev jp (f:uK) (m:Mm):Lp (Nat×List Int):=nN [2,3,5,6,7,55,56] 39 (fun (k:Nat) (wd:List Int)=>⟨[(2,(.ptr 0 0 0 0)),(3,(.ptr 1 0 0 0)),(5,(i6 (ak 0 f.Uk (aD m.name m.Un)))),(6,(dB (decide ((f.p.Uk.getD (ak 0 f.Uk (aD m.name m.Un)).toNat ay).Um=m.Um)))),(7,(.own 38)),(55,(uR m)),(56,(i6 (k:Int)))],[(F6 f),(F5 m),.dead,.dead,.dead,.dead,.dead,.dead,.dead,.dead,.dead,.dead,.dead,.dead,.dead,.dead,.dead,.dead,.dead,.dead,.dead,.dead,.dead,.dead,.dead,.dead,.dead,.dead,.dead,.dead,.dead,.dead,.dead,.dead,.dead,.dead,.dead,.dead,(.arr 3 1 (ab .i64) 0 wd)]⟩) (fun (k:Nat) (wd:List Int)=>k≤m.Um.toNat∧wd=cG (dn f m) (List.replicate m.Um.toNat (0:Int)) k) (fun (k:Nat) (wd:List Int)=>m.Um.toNat-k)
abbrev pk (f:uK) (m:Mm):Lp (Nat×List Int):=nN [2,3,5,6,7,55,56] 39 (fun (k:Nat) (wd:List Int)=>⟨[(2,(.ptr 0 0 0 0)),(3,(.ptr 1 0 0 0)),(5,(i6 (ak 0 f.Uk (aD m.name m.Un)))),(6,(dB false)),(7,(.own 38)),(55,(uR m)),(56,(i6 (k:Int)))],[(F6 f),(F5 m),.dead,.dead,.dead,.dead,.dead,.dead,.dead,.dead,.dead,.dead,.dead,.dead,.dead,.dead,.dead,.dead,.dead,.dead,.dead,.dead,.dead,.dead,.dead,.dead,.dead,.dead,.dead,.dead,.dead,.dead,.dead,.dead,.dead,.dead,.dead,.dead,(.arr 3 1 (ab .i64) 0 wd)]⟩) (fun (k:Nat) (wd:List Int)=>k≤m.Um.toNat∧wd=cG (dn f m) (List.replicate m.Um.toNat (0:Int)) k) (fun (k:Nat) (wd:List Int)=>m.Um.toNat-k)
abbrev jq (f:uK) (m:Mm):Lp (Nat×List Int):=nN [2,3,5,6,7,55,56] 16 (fun (k:Nat) (wd:List Int)=>⟨[(2,(.ptr 0 0 0 0)),(3,(.ptr 1 0 0 0)),(5,(i6 (ak 0 f.Uk (aD m.name m.Un)))),(6,(dB (bc f.Uk (aD m.name m.Un)))),(7,(.own 15)),(55,(uR m)),(56,(i6 (k:Int)))],[(F6 f),(F5 m),.dead,.dead,.dead,.dead,.dead,.dead,.dead,.dead,.dead,.dead,.dead,.dead,.dead,(.arr 3 1 (ab .i64) 0 wd)]⟩) (fun (k:Nat) (wd:List Int)=>k≤m.Um.toNat∧wd=cG (dn f m) (List.replicate m.Um.toNat (0:Int)) k) (fun (k:Nat) (wd:List Int)=>m.Um.toNat-k)
abbrev pm (f:uK) (m:Mm):Lp (Nat×List Int):=nN [2,3,5,6,7,55,56] 16 (fun (k:Nat) (wd:List Int)=>⟨[(2,(.ptr 0 0 0 0)),(3,(.ptr 1 0 0 0)),(5,(i6 (ak 0 f.Uk (aD m.name m.Un)))),(6,(dB (bc f.Uk (aD m.name m.Un)))),(7,(.own 15)),(55,(uR m)),(56,(i6 (k:Int)))],[(F6 f),(F5 m),.dead,.dead,.dead,.dead,.dead,.dead,.dead,.dead,.dead,.dead,.dead,.dead,.dead,(.arr 3 1 (ab .i64) 0 wd)]⟩) (fun (k:Nat) (wd:List Int)=>k≤m.Um.toNat∧wd=cG (dn f m) (List.replicate m.Um.toNat (0:Int)) k) (fun (k:Nat) (wd:List Int)=>m.Um.toNat-k)
theorem O0 (f:uK) (m:Mm) (ZC:0≤m.Un.kind∧m.Un.kind≤3) (hwo:0≤m.Um∧m.Um≤1000000) (hix:bc f.Uk (aD m.name m.Un)=true→0≤ak 0 f.Uk (aD m.name m.Un)∧ak 0 f.Uk (aD m.name m.Un)<f.p.Uk.length∧ak 0 f.Uk (aD m.name m.Un)<f.s.Uk.length):CC (R9 f m):=by
 refine ah.vc (V:=TT 9 (CC (QL m.name m.Un)∧((dC (i6 0) (gE false ((ab .i64) 0)))∧(false=false→∀p∈f.Uk,((ab .i64) p.2).length=1))∧TT 5 (CS ((bc f.Uk (aD m.name m.Un))=true) (TT 1 ((True∧(bc f.Uk (aD m.name m.Un))=true)∧TT 5 (CD (m.Un.kind=1) (CS ((f.p.Uk.getD (ak 0 f.Uk (aD m.name m.Un)).toNat ay).w=m.w) (TT 4 (IX (ak 0 f.Uk (aD m.name m.Un)) f.p.Uk.length∧TT 4 ((True∧(((f.p.Uk.getD ((ak 0 f.Uk (aD m.name m.Un)).toNat) ay).w)==m.w)=(decide ((f.p.Uk.getD (ak 0 f.Uk (aD m.name m.Un)).toNat ay).w=m.w)))∧(True∧(decide ((f.p.Uk.getD (ak 0 f.Uk (aD m.name m.Un)).toNat ay).w=m.w))=true)∧TT 4 (IX (ak 0 f.Uk (aD m.name m.Un)) f.p.Uk.length∧TT 4 ((True∧(((f.p.Uk.getD ((ak 0 f.Uk (aD m.name m.Un)).toNat) ay).Um)==m.Um)=(decide ((f.p.Uk.getD (ak 0 f.Uk (aD m.name m.Un)).toNat ay).Um=m.Um)))∧TT 4 ((((0:Int)≤m.Um∧m.Um≤m.Um∧m.Um≤137438953472)∧(List.replicate m.Um.toNat (0:Int)).length=m.Um.toNat∧∀x∈(List.replicate m.Um.toNat (0:Int)),dt [(i6 0)] ((ab .i64) x))∧TT 2 ((True∧(((List.replicate m.Um.toNat (0:Int)).length:Nat):Int)=(m.Um.toNat:Int))∧TT 1 (GO (jp f m) (0,List.replicate m.Um.toNat (0:Int)) (∀k wd,(jp f m).inv (k,wd)→TT 1 (CD ((k:Int)<(m.Um.toNat:Int)) (TT 2 (CS ((f.p.Uk.getD (ak 0 f.Uk (aD m.name m.Un)).toNat ay).Um=m.Um) (TT 1 ((True∧(decide ((f.p.Uk.getD (ak 0 f.Uk (aD m.name m.Un)).toNat ay).Um=m.Um))=true)∧TT 5 (IX (ak 0 f.Uk (aD m.name m.Un)) f.s.Uk.length∧TT 7 (CD ((k:Int)<(((f.s.Uk.getD ((ak 0 f.Uk (aD m.name m.Un)).toNat) []).length:Nat):Int)) (TT 4 (IX (ak 0 f.Uk (aD m.name m.Un)) f.s.Uk.length∧TT 2 (IX (k:Int) ((f.s.Uk.getD ((ak 0 f.Uk (aD m.name m.Un)).toNat) []).length)∧TT 11 (CC (rf (⟨0,m.w,m.Un⟩:fp) ((f.s.Uk.getD ((ak 0 f.Uk (aD m.name m.Un)).toNat) []).getD k 0) (decide ((k:Int)<(((f.s.Uk.getD ((ak 0 f.Uk (aD m.name m.Un)).toNat) []).length:Nat):Int))))∧IX (k:Int) wd.length∧(k<wd.length∧(wd.map (ab .i64)).set k (((ab .i64) (wd.getD k 0)).take 0++[(.int .i64 (de (⟨0,m.w,m.Un⟩:fp) ((f.s.Uk.getD ((ak 0 f.Uk (aD m.name m.Un)).toNat) []).getD k 0) (decide ((k:Int)<(((f.s.Uk.getD ((ak 0 f.Uk (aD m.name m.Un)).toNat) []).length:Nat):Int)))))]++((ab .i64) (wd.getD k 0)).drop (0+1))=(wd.set k (dn f m k)).map (ab .i64))∧W6 ((k+1:Nat):Int)∧TT 1 (AG (jp f m) (k,wd) (k+1,wd.set k (dn f m k))))))) (TT 9 (CC (rf (⟨0,m.w,m.Un⟩:fp) 0 (decide ((k:Int)<(((f.s.Uk.getD ((ak 0 f.Uk (aD m.name m.Un)).toNat) []).length:Nat):Int))))∧IX (k:Int) wd.length∧(k<wd.length∧(wd.map (ab .i64)).set k (((ab .i64) (wd.getD k 0)).take 0++[(.int .i64 (de (⟨0,m.w,m.Un⟩:fp) 0 (decide ((k:Int)<(((f.s.Uk.getD ((ak 0 f.Uk (aD m.name m.Un)).toNat) []).length:Nat):Int)))))]++((ab .i64) (wd.getD k 0)).drop (0+1))=(wd.set k (dn f m k)).map (ab .i64))∧W6 ((k+1:Nat):Int)∧TT 1 (AG (jp f m) (k,wd) (k+1,wd.set k (dn f m k))))))))) (TT 1 ((True∧(decide ((f.p.Uk.getD (ak 0 f.Uk (aD m.name m.Un)).toNat ay).Um=m.Um))=false)∧TT 13 (CC (rf (⟨0,m.w,m.Un⟩:fp) 0 false)∧IX (k:Int) wd.length∧(k<wd.length∧(wd.map (ab .i64)).set k (((ab .i64) (wd.getD k 0)).take 0++[(.int .i64 (de (⟨0,m.w,m.Un⟩:fp) 0 false))]++((ab .i64) (wd.getD k 0)).drop (0+1))=(wd.set k (dn f m k)).map (ab .i64))∧W6 ((k+1:Nat):Int)∧TT 1 (AG (jp f m) (k,wd) (k+1,wd.set k (dn f m k)))))))) (TT 3 (wd.map (ab .i64)=(gW f m).map (ab .i64))))))))))))) (TT 4 (IX (ak 0 f.Uk (aD m.name m.Un)) f.p.Uk.length∧TT 4 ((True∧(((f.p.Uk.getD ((ak 0 f.Uk (aD m.name m.Un)).toNat) ay).w)==m.w)=(decide ((f.p.Uk.getD (ak 0 f.Uk (aD m.name m.Un)).toNat ay).w=m.w)))∧(True∧(decide ((f.p.Uk.getD (ak 0 f.Uk (aD m.name m.Un)).toNat ay).w=m.w))=false)∧TT 4 ((((0:Int)≤m.Um∧m.Um≤m.Um∧m.Um≤137438953472)∧(List.replicate m.Um.toNat (0:Int)).length=m.Um.toNat∧∀x∈(List.replicate m.Um.toNat (0:Int)),dt [(i6 0)] ((ab .i64) x))∧TT 2 ((True∧(((List.replicate m.Um.toNat (0:Int)).length:Nat):Int)=(m.Um.toNat:Int))∧TT 1 (GO (pk f m) (0,List.replicate m.Um.toNat (0:Int)) (∀k wd,(pk f m).inv (k,wd)→TT 1 (CD ((k:Int)<(m.Um.toNat:Int)) (TT 17 (CC (rf (⟨0,m.w,m.Un⟩:fp) 0 false)∧IX (k:Int) wd.length∧(k<wd.length∧(wd.map (ab .i64)).set k (((ab .i64) (wd.getD k 0)).take 0++[(.int .i64 (de (⟨0,m.w,m.Un⟩:fp) 0 false))]++((ab .i64) (wd.getD k 0)).drop (0+1))=(wd.set k (dn f m k)).map (ab .i64))∧W6 ((k+1:Nat):Int)∧TT 1 (AG (pk f m) (k,wd) (k+1,wd.set k (dn f m k))))) (TT 3 (wd.map (ab .i64)=(gW f m).map (ab .i64)))))))))))) (TT 2 ((((0:Int)≤m.Um∧m.Um≤m.Um∧m.Um≤137438953472)∧(List.replicate m.Um.toNat (0:Int)).length=m.Um.toNat∧∀x∈(List.replicate m.Um.toNat (0:Int)),dt [(i6 0)] ((ab .i64) x))∧TT 2 ((True∧(((List.replicate m.Um.toNat (0:Int)).length:Nat):Int)=(m.Um.toNat:Int))∧TT 1 (GO (jq f m) (0,List.replicate m.Um.toNat (0:Int)) (∀k wd,(jq f m).inv (k,wd)→TT 1 (CD ((k:Int)<(m.Um.toNat:Int)) (TT 2 (CS ((bc f.Uk (aD m.name m.Un))=true) (TT 1 ((True∧(bc f.Uk (aD m.name m.Un))=true)∧TT 5 (IX (ak 0 f.Uk (aD m.name m.Un)) f.s.Uk.length∧TT 7 (CD ((k:Int)<(((f.s.Uk.getD ((ak 0 f.Uk (aD m.name m.Un)).toNat) []).length:Nat):Int)) (TT 4 (IX (ak 0 f.Uk (aD m.name m.Un)) f.s.Uk.length∧TT 2 (IX (k:Int) ((f.s.Uk.getD ((ak 0 f.Uk (aD m.name m.Un)).toNat) []).length)∧TT 11 (CC (rf (⟨0,m.w,m.Un⟩:fp) ((f.s.Uk.getD ((ak 0 f.Uk (aD m.name m.Un)).toNat) []).getD k 0) (decide ((k:Int)<(((f.s.Uk.getD ((ak 0 f.Uk (aD m.name m.Un)).toNat) []).length:Nat):Int))))∧IX (k:Int) wd.length∧(k<wd.length∧(wd.map (ab .i64)).set k (((ab .i64) (wd.getD k 0)).take 0++[(.int .i64 (de (⟨0,m.w,m.Un⟩:fp) ((f.s.Uk.getD ((ak 0 f.Uk (aD m.name m.Un)).toNat) []).getD k 0) (decide ((k:Int)<(((f.s.Uk.getD ((ak 0 f.Uk (aD m.name m.Un)).toNat) []).length:Nat):Int)))))]++((ab .i64) (wd.getD k 0)).drop (0+1))=(wd.set k (dn f m k)).map (ab .i64))∧W6 ((k+1:Nat):Int)∧TT 1 (AG (jq f m) (k,wd) (k+1,wd.set k (dn f m k))))))) (TT 9 (CC (rf (⟨0,m.w,m.Un⟩:fp) 0 (decide ((k:Int)<(((f.s.Uk.getD ((ak 0 f.Uk (aD m.name m.Un)).toNat) []).length:Nat):Int))))∧IX (k:Int) wd.length∧(k<wd.length∧(wd.map (ab .i64)).set k (((ab .i64) (wd.getD k 0)).take 0++[(.int .i64 (de (⟨0,m.w,m.Un⟩:fp) 0 (decide ((k:Int)<(((f.s.Uk.getD ((ak 0 f.Uk (aD m.name m.Un)).toNat) []).length:Nat):Int)))))]++((ab .i64) (wd.getD k 0)).drop (0+1))=(wd.set k (dn f m k)).map (ab .i64))∧W6 ((k+1:Nat):Int)∧TT 1 (AG (jq f m) (k,wd) (k+1,wd.set k (dn f m k))))))))) (TT 1 ((True∧(bc f.Uk (aD m.name m.Un))=false)∧TT 13 (CC (rf (⟨0,m.w,m.Un⟩:fp) 0 false)∧IX (k:Int) wd.length∧(k<wd.length∧(wd.map (ab .i64)).set k (((ab .i64) (wd.getD k 0)).take 0++[(.int .i64 (de (⟨0,m.w,m.Un⟩:fp) 0 false))]++((ab .i64) (wd.getD k 0)).drop (0+1))=(wd.set k (dn f m k)).map (ab .i64))∧W6 ((k+1:Nat):Int)∧TT 1 (AG (jq f m) (k,wd) (k+1,wd.set k (dn f m k)))))))) (TT 3 (wd.map (ab .i64)=(gW f m).map (ab .i64)))))))))))) (TT 1 ((True∧(bc f.Uk (aD m.name m.Un))=false)∧TT 7 ((((0:Int)≤m.Um∧m.Um≤m.Um∧m.Um≤137438953472)∧(List.replicate m.Um.toNat (0:Int)).length=m.Um.toNat∧∀x∈(List.replicate m.Um.toNat (0:Int)),dt [(i6 0)] ((ab .i64) x))∧TT 2 ((True∧(((List.replicate m.Um.toNat (0:Int)).length:Nat):Int)=(m.Um.toNat:Int))∧TT 1 (GO (pm f m) (0,List.replicate m.Um.toNat (0:Int)) (∀k wd,(pm f m).inv (k,wd)→TT 1 (CD ((k:Int)<(m.Um.toNat:Int)) (TT 3 ((True∧(bc f.Uk (aD m.name m.Un))=false)∧TT 13 (CC (rf (⟨0,m.w,m.Un⟩:fp) 0 false)∧IX (k:Int) wd.length∧(k<wd.length∧(wd.map (ab .i64)).set k (((ab .i64) (wd.getD k 0)).take 0++[(.int .i64 (de (⟨0,m.w,m.Un⟩:fp) 0 false))]++((ab .i64) (wd.getD k 0)).drop (0+1))=(wd.set k (dn f m k)).map (ab .i64))∧W6 ((k+1:Nat):Int)∧TT 1 (AG (pm f m) (k,wd) (k+1,wd.set k (dn f m k)))))) (TT 3 (wd.map (ab .i64)=(gW f m).map (ab .i64))))))))))))) (.w 1 [(6,(QL m.name m.Un).O)]<|.s 2 ((bc f.Uk (aD m.name m.Un))=true) (.w 2 [(1,.val (dB true))]<|.b 28 (.s 3 ((f.p.Uk.getD (ak 0 f.Uk (aD m.name m.Un)).toNat ay).w=m.w) (.w 3 [(9,.val (dB (decide ((f.p.Uk.getD (ak 0 f.Uk (aD m.name m.Un)).toNat ay).w=m.w)))),(10,.val (dB true)),(20,.val (dB (decide ((f.p.Uk.getD (ak 0 f.Uk (aD m.name m.Un)).toNat ay).Um=m.Um))))]<|.w 4 [(2,.box 3 1 (ab .i64) 0 (List.replicate m.Um.toNat (0:Int)))]<|.w 5 [(1,.val (uR m))]<|.l (jp f m) (0,List.replicate m.Um.toNat (0:Int)) (fun ⟨k,wd⟩=>.b 57 (.s 8 ((f.p.Uk.getD (ak 0 f.Uk (aD m.name m.Un)).toNat ay).Um=m.Um) (.w 8 [(1,.val (dB true))]<|.b 71 (.w 11 [(9,(rf (⟨0,m.w,m.Un⟩:fp) ((f.s.Uk.getD ((ak 0 f.Uk (aD m.name m.Un)).toNat) []).getD k 0) (decide ((k:Int)<(((f.s.Uk.getD ((ak 0 f.Uk (aD m.name m.Un)).toNat) []).length:Nat):Int)))).O),(11,.box 3 1 (ab .i64) 0 (wd.set k (dn f m k)))]<|.w 12 [(0,.val (i6 ((k+1:Nat):Int)))]<|.e) (.w 11 [(9,(rf (⟨0,m.w,m.Un⟩:fp) 0 (decide ((k:Int)<(((f.s.Uk.getD ((ak 0 f.Uk (aD m.name m.Un)).toNat) []).length:Nat):Int)))).O),(11,.box 3 1 (ab .i64) 0 (wd.set k (dn f m k)))]<|.w 12 [(0,.val (i6 ((k+1:Nat):Int)))]<|.e)) (.w 8 [(1,.val (dB false))]<|.w 11 [(9,(rf (⟨0,m.w,m.Un⟩:fp) 0 false).O),(11,.box 3 1 (ab .i64) 0 (wd.set k (dn f m k)))]<|.w 12 [(0,.val (i6 ((k+1:Nat):Int)))]<|.e)) (.e))) (.w 3 [(9,.val (dB (decide ((f.p.Uk.getD (ak 0 f.Uk (aD m.name m.Un)).toNat ay).w=m.w)))),(10,.val (dB false))]<|.w 4 [(2,.box 3 1 (ab .i64) 0 (List.replicate m.Um.toNat (0:Int)))]<|.w 5 [(1,.val (uR m))]<|.l (pk f m) (0,List.replicate m.Um.toNat (0:Int)) (fun ⟨k,wd⟩=>.b 57 (.w 11 [(9,(rf (⟨0,m.w,m.Un⟩:fp) 0 false).O),(11,.box 3 1 (ab .i64) 0 (wd.set k (dn f m k)))]<|.w 12 [(0,.val (i6 ((k+1:Nat):Int)))]<|.e) (.e)))) (.w 4 [(2,.box 3 1 (ab .i64) 0 (List.replicate m.Um.toNat (0:Int)))]<|.w 5 [(1,.val (uR m))]<|.l (jq f m) (0,List.replicate m.Um.toNat (0:Int)) (fun ⟨k,wd⟩=>.b 57 (.s 8 ((bc f.Uk (aD m.name m.Un))=true) (.w 8 [(1,.val (dB true))]<|.b 71 (.w 11 [(9,(rf (⟨0,m.w,m.Un⟩:fp) ((f.s.Uk.getD ((ak 0 f.Uk (aD m.name m.Un)).toNat) []).getD k 0) (decide ((k:Int)<(((f.s.Uk.getD ((ak 0 f.Uk (aD m.name m.Un)).toNat) []).length:Nat):Int)))).O),(11,.box 3 1 (ab .i64) 0 (wd.set k (dn f m k)))]<|.w 12 [(0,.val (i6 ((k+1:Nat):Int)))]<|.e) (.w 11 [(9,(rf (⟨0,m.w,m.Un⟩:fp) 0 (decide ((k:Int)<(((f.s.Uk.getD ((ak 0 f.Uk (aD m.name m.Un)).toNat) []).length:Nat):Int)))).O),(11,.box 3 1 (ab .i64) 0 (wd.set k (dn f m k)))]<|.w 12 [(0,.val (i6 ((k+1:Nat):Int)))]<|.e)) (.w 8 [(1,.val (dB false))]<|.w 11 [(9,(rf (⟨0,m.w,m.Un⟩:fp) 0 false).O),(11,.box 3 1 (ab .i64) 0 (wd.set k (dn f m k)))]<|.w 12 [(0,.val (i6 ((k+1:Nat):Int)))]<|.e)) (.e)))) (.w 2 [(1,.val (dB false))]<|.w 4 [(2,.box 3 1 (ab .i64) 0 (List.replicate m.Um.toNat (0:Int)))]<|.w 5 [(1,.val (uR m))]<|.l (pm f m) (0,List.replicate m.Um.toNat (0:Int)) (fun ⟨k,wd⟩=>.b 57 (.w 8 [(1,.val (dB false))]<|.w 11 [(9,(rf (⟨0,m.w,m.Un⟩:fp) 0 false).O),(11,.box 3 1 (ab .i64) 0 (wd.set k (dn f m k)))]<|.w 12 [(0,.val (i6 ((k+1:Nat):Int)))]<|.e) (.e)))) Tryz.func49 rfl rfl rfl (by kernel_rfl) ?_
 refine tt ⟨(F4 m.name m.Un),⟨⟨(dC.refl _),(fun _ _ _=>rfl)⟩,tt ⟨fun N'=>?_,fun N'=>?_⟩⟩⟩
 · have hx:=hix N'
   refine tt ⟨(bT N'),tt (cd (fun XI=>?_) (fun XI=>?_))⟩
   · refine⟨fun WN=>?_,fun WN=>?_⟩
     · refine tt ⟨ix,tt ⟨⟨oK,(by rfl)⟩,⟨(vT WN),tt ⟨ix,tt ⟨⟨oK,(by rfl)⟩,tt ⟨⟨by omega,Us,fun x hx=>by rw[UN hx];exact⟨rfl,oK⟩⟩,tt ⟨⟨oK,(by rw[Us])⟩,tt ⟨rfl,⟨by omega,rfl⟩,?_⟩⟩⟩⟩⟩⟩⟩⟩
       intro k wd F'
       obtain⟨hk,YR⟩:=F'
       have hwl:wd.length=m.Um.toNat:=by rw[YR,ci (by rw[Us];omega),Us]
       refine tt (cd (fun XB=>?_) (fun XB=>?_))
       · refine tt ⟨fun XH=>?_,fun XH=>?_⟩
         · refine tt ⟨(vT XH),tt ⟨ix,tt (cd (fun WK=>?_) (fun WK=>?_))⟩⟩
           · refine tt ⟨ix,tt ⟨ix,tt ⟨(gZ (⟨0,m.w,m.Un⟩:fp) ((f.s.Uk.getD ((ak 0 f.Uk (aD m.name m.Un)).toNat) []).getD k 0) (decide ((k:Int)<(((f.s.Uk.getD ((ak 0 f.Uk (aD m.name m.Un)).toNat) []).length:Nat):Int))) ZC),⟨ix,⟨⟨by omega,by simp only[US];exact congrArg (fun z=>(wd.map (ab .i64)).set k [V.int .i64 z]) (by first | (rw[Uz WK];exact(iw (by unfold fq;first | (simp_all;done) | (split<;>simp_all)) WK).symm) | (rw[Uy WK];exact(iz WK).symm) | exact(gv (by unfold fq;first | (simp_all;done) | (split<;>simp_all))).symm)⟩,⟨w6,tt ⟨(k+1,wd.set k (dn f m k)),rfl,?_,(?_:m.Um.toNat-(k+1)<m.Um.toNat-k)⟩⟩⟩⟩⟩⟩⟩
             · exact⟨by omega,by rw[YR];exact bn (by rw[Us];omega) rfl⟩
             · omega
           · refine tt ⟨(gZ (⟨0,m.w,m.Un⟩:fp) 0 (decide ((k:Int)<(((f.s.Uk.getD ((ak 0 f.Uk (aD m.name m.Un)).toNat) []).length:Nat):Int))) ZC),⟨ix,⟨⟨by omega,by simp only[US];exact congrArg (fun z=>(wd.map (ab .i64)).set k [V.int .i64 z]) (by first | (rw[Uz WK];exact(iw (by unfold fq;first | (simp_all;done) | (split<;>simp_all)) WK).symm) | (rw[Uy WK];exact(iz WK).symm) | exact(gv (by unfold fq;first | (simp_all;done) | (split<;>simp_all))).symm)⟩,⟨w6,tt ⟨(k+1,wd.set k (dn f m k)),rfl,?_,(?_:m.Um.toNat-(k+1)<m.Um.toNat-k)⟩⟩⟩⟩⟩
             · exact⟨by omega,by rw[YR];exact bn (by rw[Us];omega) rfl⟩
             · omega
         · refine tt ⟨(vF XH),tt ⟨(gZ (⟨0,m.w,m.Un⟩:fp) 0 false ZC),⟨ix,⟨⟨by omega,by simp only[US];exact congrArg (fun z=>(wd.map (ab .i64)).set k [V.int .i64 z]) (by first | (rw[Uz WK];exact(iw (by unfold fq;first | (simp_all;done) | (split<;>simp_all)) WK).symm) | (rw[Uy WK];exact(iz WK).symm) | exact(gv (by unfold fq;first | (simp_all;done) | (split<;>simp_all))).symm)⟩,⟨w6,tt ⟨(k+1,wd.set k (dn f m k)),rfl,?_,(?_:m.Um.toNat-(k+1)<m.Um.toNat-k)⟩⟩⟩⟩⟩⟩
           · exact⟨by omega,by rw[YR];exact bn (by rw[Us];omega) rfl⟩
           · omega
       · refine tt (congrArg _ (?_:wd=(gW f m)))
         rw[YR,show k=(List.replicate m.Um.toNat (0:Int)).length from by rw[Us];omega,bN (Ut _),Us];rfl
     · refine tt ⟨ix,tt ⟨⟨oK,(by rfl)⟩,⟨(vF WN),tt ⟨⟨by omega,Us,fun x hx=>by rw[UN hx];exact⟨rfl,oK⟩⟩,tt ⟨⟨oK,(by rw[Us])⟩,tt ⟨rfl,⟨by omega,rfl⟩,?_⟩⟩⟩⟩⟩⟩
       intro k wd F'
       obtain⟨hk,YR⟩:=F'
       have hwl:wd.length=m.Um.toNat:=by rw[YR,ci (by rw[Us];omega),Us]
       refine tt (cd (fun XB=>?_) (fun XB=>?_))
       · refine tt ⟨(gZ (⟨0,m.w,m.Un⟩:fp) 0 false ZC),⟨ix,⟨⟨by omega,by simp only[US];exact congrArg (fun z=>(wd.map (ab .i64)).set k [V.int .i64 z]) (by first | (rw[Uz WK];exact(iw (by unfold fq;first | (simp_all;done) | (split<;>simp_all)) WK).symm) | (rw[Uy WK];exact(iz WK).symm) | exact(gv (by unfold fq;first | (simp_all;done) | (split<;>simp_all))).symm)⟩,⟨w6,tt ⟨(k+1,wd.set k (dn f m k)),rfl,?_,(?_:m.Um.toNat-(k+1)<m.Um.toNat-k)⟩⟩⟩⟩⟩
         · exact⟨by omega,by rw[YR];exact bn (by rw[Us];omega) rfl⟩
         · omega
       · refine tt (congrArg _ (?_:wd=(gW f m)))
         rw[YR,show k=(List.replicate m.Um.toNat (0:Int)).length from by rw[Us];omega,bN (Ut _),Us];rfl
   · refine tt ⟨⟨by omega,Us,fun x hx=>by rw[UN hx];exact⟨rfl,oK⟩⟩,tt ⟨⟨oK,(by rw[Us])⟩,tt ⟨rfl,⟨by omega,rfl⟩,?_⟩⟩⟩
     intro k wd F'
     obtain⟨hk,YR⟩:=F'
     have hwl:wd.length=m.Um.toNat:=by rw[YR,ci (by rw[Us];omega),Us]
     refine tt (cd (fun XB=>?_) (fun XB=>?_))
     · refine tt ⟨fun Y4=>?_,fun Y4=>?_⟩
       · refine tt ⟨(bT Y4),tt ⟨ix,tt (cd (fun WK=>?_) (fun WK=>?_))⟩⟩
         · refine tt ⟨ix,tt ⟨ix,tt ⟨(gZ (⟨0,m.w,m.Un⟩:fp) ((f.s.Uk.getD ((ak 0 f.Uk (aD m.name m.Un)).toNat) []).getD k 0) (decide ((k:Int)<(((f.s.Uk.getD ((ak 0 f.Uk (aD m.name m.Un)).toNat) []).length:Nat):Int))) ZC),⟨ix,⟨⟨by omega,by simp only[US];exact congrArg (fun z=>(wd.map (ab .i64)).set k [V.int .i64 z]) (by first | (rw[Uz WK];exact(iw (by unfold fq;first | (simp_all;done) | (split<;>simp_all)) WK).symm) | (rw[Uy WK];exact(iz WK).symm) | exact(gv (by unfold fq;first | (simp_all;done) | (split<;>simp_all))).symm)⟩,⟨w6,tt ⟨(k+1,wd.set k (dn f m k)),rfl,?_,(?_:m.Um.toNat-(k+1)<m.Um.toNat-k)⟩⟩⟩⟩⟩⟩⟩
           · exact⟨by omega,by rw[YR];exact bn (by rw[Us];omega) rfl⟩
           · omega
         · refine tt ⟨(gZ (⟨0,m.w,m.Un⟩:fp) 0 (decide ((k:Int)<(((f.s.Uk.getD ((ak 0 f.Uk (aD m.name m.Un)).toNat) []).length:Nat):Int))) ZC),⟨ix,⟨⟨by omega,by simp only[US];exact congrArg (fun z=>(wd.map (ab .i64)).set k [V.int .i64 z]) (by first | (rw[Uz WK];exact(iw (by unfold fq;first | (simp_all;done) | (split<;>simp_all)) WK).symm) | (rw[Uy WK];exact(iz WK).symm) | exact(gv (by unfold fq;first | (simp_all;done) | (split<;>simp_all))).symm)⟩,⟨w6,tt ⟨(k+1,wd.set k (dn f m k)),rfl,?_,(?_:m.Um.toNat-(k+1)<m.Um.toNat-k)⟩⟩⟩⟩⟩
           · exact⟨by omega,by rw[YR];exact bn (by rw[Us];omega) rfl⟩
           · omega
       · refine tt ⟨(bF Y4),tt ⟨(gZ (⟨0,m.w,m.Un⟩:fp) 0 false ZC),⟨ix,⟨⟨by omega,by simp only[US];exact congrArg (fun z=>(wd.map (ab .i64)).set k [V.int .i64 z]) (by first | (rw[Uz WK];exact(iw (by unfold fq;first | (simp_all;done) | (split<;>simp_all)) WK).symm) | (rw[Uy WK];exact(iz WK).symm) | exact(gv (by unfold fq;first | (simp_all;done) | (split<;>simp_all))).symm)⟩,⟨w6,tt ⟨(k+1,wd.set k (dn f m k)),rfl,?_,(?_:m.Um.toNat-(k+1)<m.Um.toNat-k)⟩⟩⟩⟩⟩⟩
         · exact⟨by omega,by rw[YR];exact bn (by rw[Us];omega) rfl⟩
         · omega
     · refine tt (congrArg _ (?_:wd=(gW f m)))
       rw[YR,show k=(List.replicate m.Um.toNat (0:Int)).length from by rw[Us];omega,bN (Ut _),Us];rfl
 · refine tt ⟨(bF N'),tt ⟨⟨by omega,Us,fun x hx=>by rw[UN hx];exact⟨rfl,oK⟩⟩,tt ⟨⟨oK,(by rw[Us])⟩,tt ⟨rfl,⟨by omega,rfl⟩,?_⟩⟩⟩⟩
   intro k wd F'
   obtain⟨hk,YR⟩:=F'
   have hwl:wd.length=m.Um.toNat:=by rw[YR,ci (by rw[Us];omega),Us]
   refine tt (cd (fun XB=>?_) (fun XB=>?_))
   · refine tt ⟨(bF (by first | exact N' | exact Vu.2 N')),tt ⟨(gZ (⟨0,m.w,m.Un⟩:fp) 0 false ZC),⟨ix,⟨⟨by omega,by simp only[US];exact congrArg (fun z=>(wd.map (ab .i64)).set k [V.int .i64 z]) (by first | (rw[Uz WK];exact(iw (by unfold fq;first | (simp_all;done) | (split<;>simp_all)) WK).symm) | (rw[Uy WK];exact(iz WK).symm) | exact(gv (by unfold fq;first | (simp_all;done) | (split<;>simp_all))).symm)⟩,⟨w6,tt ⟨(k+1,wd.set k (dn f m k)),rfl,?_,(?_:m.Um.toNat-(k+1)<m.Um.toNat-k)⟩⟩⟩⟩⟩⟩
     · exact⟨by omega,by rw[YR];exact bn (by rw[Us];omega) rfl⟩
     · omega
   · refine tt (congrArg _ (?_:wd=(gW f m)))
     rw[YR,show k=(List.replicate m.Um.toNat (0:Int)).length from by rw[Us];omega,bN (Ut _),Us];rfl
abbrev ND (o:Ci) (s:Ns) (n:Ci) (i:Nat):aC:=(.var 124 [(dS (((ak bR (bU o s o.U.length) ((n.U.getD i ac).name)).p).name)),(dS (((ak bR (bU o s o.U.length) ((n.U.getD i ac).name)).p).clock)),(dL 13 bO aI (((ak bR (bU o s o.U.length) ((n.U.getD i ac).name)).p).Ul)),(dL 27 b8 ay (((ak bR (bU o s o.U.length) ((n.U.getD i ac).name)).p).Uk)),(dL 9 dU bC (((ak bR (bU o s o.U.length) ((n.U.getD i ac).name)).p).I)),(dL 16 dQ bt (((ak bR (bU o s o.U.length) ((n.U.getD i ac).name)).p).Uj)),(LI (((ak bR (bU o s o.U.length) ((n.U.getD i ac).name)).s).Ul)),(dL 1 aa [] (((ak bR (bU o s o.U.length) ((n.U.getD i ac).name)).s).Uk)),(.v (.sm false (ab .i64) 0 ((ak bR (bU o s o.U.length) ((n.U.getD i ac).name)).Ul))),(.v (.sm false (ab .i64) 0 ((ak bR (bU o s o.U.length) ((n.U.getD i ac).name)).Uk)))])
abbrev NF (n:Ci) (i:Nat):aC:=(.var 76 [(dS ((n.U.getD i ac).name)),(dS ((n.U.getD i ac).clock)),(dL 13 bO aI ((n.U.getD i ac).Ul)),(dL 27 b8 ay ((n.U.getD i ac).Uk)),(dL 9 dU bC ((n.U.getD i ac).I)),(dL 16 dQ bt ((n.U.getD i ac).Uj))])
abbrev Co (s:Ns):aC:=(.var 36 [(dL 2 bi a7 s.U),(dL 1 aa [] s.J)])
abbrev Cp (o:Ci):aC:=(.var 32 [(dL 6 bG ac o.U),(dL 5 ca aK o.J)])
abbrev Cq (n:Ci):aC:=(.var 32 [(dL 6 bG ac n.U),(dL 5 ca aK n.J)])
abbrev yL (o n:Ci):D:=(dL 1 eo .empty (bv o n o.J.length))
set_option maxRecDepth 100000
abbrev SL (l:List ByteArray) (b:ByteArray):Ct:=⟨69,[(dL 1 eo .empty l),(dS b)],false,(i6 (Qi l b))⟩
abbrev AD (l:List ByteArray) (b:ByteArray):Lp (Nat):=gD [0,1,7,8] 0 (fun (i:Nat)=>⟨[(0,(dL 1 eo .empty l)),(1,(dS b)),(7,(i6 (l.length:Int))),(8,(i6 (i:Int)))],[]⟩) (fun (i:Nat)=>i≤l.length∧∀z,z<i→(b.toList==(l.getD z .empty).toList)=false) (fun (i:Nat)=>l.length-i)
theorem O9 (l:List ByteArray) (b:ByteArray) (hl:l.length≤9223372036854775807):CC (SL l b):=by
 refine ah.vc (V:=TT 4 (GO (AD l b) 0 (∀i,(AD l b).inv i→TT 1 (CD ((i:Int)<(l.length:Int)) (TT 5 (IX (i:Int) l.length∧TT 2 (CB (b.toList==(l.getD i .empty).toList) (TT 3 ((i:Int)=(Qi l b)∧True)) (W6 ((i+1:Nat):Int)∧TT 1 (AG (AD l b) i (i+1)))))) (TT 2 ((-1)=(Qi l b)∧True)))))) (.l (AD l b) 0 (fun i=>.b 9 (.b 16 (.e) (.w 6 [(0,.val (i6 ((i+1:Nat):Int)))]<|.e)) (.e))) Tryz.func69 rfl rfl rfl (by kernel_rfl) ?_
 refine tt ⟨rfl,⟨by omega,fun z hz=>by omega⟩,?_⟩
 intro i F'
 obtain⟨hi,h3⟩:=F'
 refine tt (cd (fun hc9=>?_) (fun hc9=>?_))
 · refine tt ⟨ix,tt ⟨fun XC=>?_,fun XC=>?_⟩⟩
   · refine tt ⟨?_,oK⟩
     first | exact(fa (f:=fun i=>b.toList==(l.getD i .empty).toList) XC h3 (by omega)).symm | exact(gX (f:=fun i=>b.toList==(l.getD i .empty).toList) (fun z hz=>h3 z (by omega))).symm
   · refine⟨w6,tt ⟨(i+1),rfl,?_,(?_:l.length-(i+1)<l.length-i)⟩⟩
     · exact⟨by omega,bD h3 XC⟩
     · omega
 · refine tt ⟨?_,oK⟩
   first | exact(fa (f:=fun i=>b.toList==(l.getD i .empty).toList) XC h3 (by omega)).symm | exact(gX (f:=fun i=>b.toList==(l.getD i .empty).toList) (fun z hz=>h3 z (by omega))).symm
abbrev SM (l:List ByteArray) (b:ByteArray):Ct:=⟨50,[(dL 1 eo .empty l),(dS b)],false,(dB (H2 l b))⟩
theorem Pa (l:List ByteArray) (b:ByteArray) (hl:l.length≤9223372036854775807):CC (SM l b):=by
 refine ah.vc (V:=TT 3 (CC (SL l b)∧TT 3 ((decide ((Qi l b)≥0))=(H2 l b)∧True))) (.w 1 [(2,(SL l b).O)]<|.e) Tryz.func50 rfl rfl rfl (by kernel_rfl) ?_
 refine tt ⟨(O9 l b om),tt ⟨?_,oK⟩⟩
 first | exact FF l b | (rw[← FF];rfl)
abbrev SN (o n:Ci) (s:Ns):Ct:=⟨26,[(.agg [(dL 6 bG ac o.U),(dL 5 ca aK o.J)]),(.agg [(dL 6 bG ac n.U),(dL 5 ca aK n.J)]),(.agg [(dL 2 bi a7 s.U),(dL 1 aa [] s.J)])],true,(.tup [(.agg [(dL 2 bi a7 (((au o n s).1).U)),(dL 1 aa [] (((au o n s).1).J))]),(i6 ((au o n s).2))])⟩
abbrev mD (o:Ci) (n:Ci) (s:Ns):Lp (Nat):=gD [3,4,5,6,8,9,32,33,34] 11 (fun (q:Nat)=>⟨[(3,(.ptr 0 0 0 0)),(4,(.ptr 1 0 0 0)),(5,(.ptr 2 0 0 0)),(6,(.ptr 3 0 0 0)),(8,(yL o n)),(9,(.v (.sm false (ab .i64) 0 (cY [] (bP o) o.J.length)))),(32,(yL o n)),(33,(i6 (((bv o n o.J.length).length:Nat):Int))),(34,(i6 (q:Int)))],[(Cp o),(Cq n),(Co s),(.var 36 [.nils,.nils]),.dead,.dead,.dead,.dead,.dead,.dead,.dead]⟩) (fun (q:Nat)=>q≤(bv o n o.J.length).length∧∀z,z<q→ie o n s z=false) (fun (q:Nat)=>(bv o n o.J.length).length-q)
abbrev mE (o:Ci) (n:Ci) (s:Ns):Lp (Nat):=gD [4,5,6,8,9,12,13,53,54,55] 13 (fun (i:Nat)=>⟨[(4,(.ptr 1 0 0 0)),(5,(.ptr 2 0 0 0)),(6,(.ptr 3 0 0 0)),(8,(yL o n)),(9,(.v (.sm false (ab .i64) 0 (cY [] (bP o) o.J.length)))),(12,(.ptr 11 0 0 0)),(13,(.v (.sm true nZ bR (bU o s o.U.length)))),(53,(dL 6 bG ac n.U)),(54,(i6 (n.U.length:Int))),(55,(i6 (i:Int)))],[(Cp o),(Cq n),(Co s),(.var 36 [.nils,.nils]),.dead,.dead,.dead,.dead,.dead,.dead,.dead,(.var 36 [(.own 12),.nils]),(.arr 69 2 bi a7 (tab (kg o n s) i))]⟩) (fun (i:Nat)=>i≤n.U.length) (fun (i:Nat)=>n.U.length-i)
abbrev mG (o:Ci) (n:Ci) (s:Ns) (i:Nat):Lp (Nat):=gD [4,5,6,8,9,12,13,15,16,17,53,54,55,64,65,66] 18 (fun (j:Nat)=>⟨[(4,(.ptr 1 0 0 0)),(5,(.ptr 2 0 0 0)),(6,(.ptr 3 0 0 0)),(8,(yL o n)),(9,(.v (.sm false (ab .i64) 0 (cY [] (bP o) o.J.length)))),(12,(.ptr 11 0 0 0)),(13,(.v (.sm true nZ bR (bU o s o.U.length)))),(15,(.ptr 13 0 0 0)),(16,(.ptr 14 0 0 0)),(17,(.ptr 15 0 0 0)),(53,(dL 6 bG ac n.U)),(54,(i6 (n.U.length:Int))),(55,(i6 (i:Int))),(64,(dL 13 bO aI ((n.U.getD i ac).Ul))),(65,(i6 ((((n.U.getD i ac).Ul).length:Nat):Int))),(66,(i6 (j:Int)))],[(Cp o),(Cq n),(Co s),(.var 36 [.nils,.nils]),.dead,.dead,.dead,.dead,.dead,.dead,.dead,(.var 36 [(.own 12),.nils]),(.arr 69 2 bi a7 (tab (kg o n s) i)),(NF n i),(.var 69 [(.own 16),(.own 17)]),(ND o s n i),(.arr 3 1 (ab .i64) 0 (tab (fun j=>fJ (ak bR (bU o s o.U.length) (n.U.getD i ac).name) ((n.U.getD i ac).Ul.getD j aI)) j)),(.arr 67 1 aa [] [])]⟩) (fun (j:Nat)=>j≤(n.U.getD i ac).Ul.length) (fun (j:Nat)=>(n.U.getD i ac).Ul.length-j)
abbrev mH (o:Ci) (n:Ci) (s:Ns) (i:Nat) (j:Nat):Lp (Nat):=gD [4,5,6,8,9,12,13,16,17,53,54,55,80,81,82] 18 (fun (k:Nat)=>⟨[(4,(.ptr 1 0 0 0)),(5,(.ptr 2 0 0 0)),(6,(.ptr 3 0 0 0)),(8,(yL o n)),(9,(.v (.sm false (ab .i64) 0 (cY [] (bP o) o.J.length)))),(12,(.ptr 11 0 0 0)),(13,(.v (.sm true nZ bR (bU o s o.U.length)))),(16,(.ptr 14 0 0 0)),(17,(.ptr 15 0 0 0)),(53,(dL 6 bG ac n.U)),(54,(i6 (n.U.length:Int))),(55,(i6 (i:Int))),(80,(dL 27 b8 ay ((n.U.getD i ac).Uk))),(81,(i6 ((((n.U.getD i ac).Uk).length:Nat):Int))),(82,(i6 (k:Int)))],[(Cp o),(Cq n),(Co s),(.var 36 [.nils,.nils]),.dead,.dead,.dead,.dead,.dead,.dead,.dead,(.var 36 [(.own 12),.nils]),(.arr 69 2 bi a7 (tab (kg o n s) i)),(NF n i),(.var 69 [(.own 16),(.own 17)]),(ND o s n i),(.arr 3 1 (ab .i64) 0 (tab (fun j=>fJ (ak bR (bU o s o.U.length) (n.U.getD i ac).name) ((n.U.getD i ac).Ul.getD j aI)) j)),(.arr 67 1 aa [] (tab (fun j=>gW (ak bR (bU o s o.U.length) (n.U.getD i ac).name) ((n.U.getD i ac).Uk.getD j ay)) k))]⟩) (fun (k:Nat)=>k≤(n.U.getD i ac).Uk.length) (fun (k:Nat)=>(n.U.getD i ac).Uk.length-k)
abbrev ez (o:Ci) (n:Ci) (s:Ns) (i:Nat):Lp (Nat):=gD [5,6,8,9,12,103,104,105] 14 (fun (m:Nat)=>⟨[(5,(.ptr 2 0 0 0)),(6,(.ptr 3 0 0 0)),(8,(yL o n)),(9,(.v (.sm false (ab .i64) 0 (cY [] (bP o) o.J.length)))),(12,(.ptr 11 0 0 0)),(103,(dL 5 ca aK n.J)),(104,(i6 (n.J.length:Int))),(105,(i6 (m:Int)))],[(Cp o),(Cq n),(Co s),(.var 36 [.nils,.nils]),.dead,.dead,.dead,.dead,.dead,.dead,.dead,(.var 36 [(.own 12),(.own 13)]),(.arr 69 2 bi a7 (tab (kg o n s) i)),(.arr 67 1 aa [] (tab (dT o n s) m))]⟩) (fun (m:Nat)=>m≤n.J.length∧∀z,z<m→df o n s z=false) (fun (m:Nat)=>n.J.length-m)
theorem MH (o n:Ci) (s:Ns) (h:qp o n s):CC (SN o n s):=by
 have hol:=h.ol
 have Xo:=h.nl
 have XP:=h.op
 have hnp:=h.np
 have hsl:=h.sl
 have hsc:=h.sc
 have hgl:(bv o n o.J.length).length≤o.J.length:=JC o n
 refine ah.vc (V:=TT 7 (CC (NA o n)∧TT 1 (CC (OW o)∧TT 5 (GO (mD o n s) 0 (∀q,(mD o n s).inv q→TT 1 (CD ((q:Int)<(((bv o n o.J.length).length:Nat):Int)) (IX (q:Int) ((bv o n o.J.length).length)∧TT 6 (((dC (i6 0) (gE false ((ab .i64) 0)))∧(false=false→∀p∈(cY [] (bP o) o.J.length),((ab .i64) p.2).length=1))∧IX (ak 0 (cY [] (bP o) o.J.length) ((bv o n o.J.length).getD q .empty)) s.J.length∧TT 3 (CD ((((s.J.getD ((ak 0 (cY [] (bP o) o.J.length) ((bv o n o.J.length).getD q .empty)).toNat) []).length:Nat):Int)>0) (TT 5 (((((au o n s).1).U)=[]∧(((au o n s).1).J)=[]∧True)∧(150:Int)=((au o n s).2)∧True)) (W6 ((q+1:Nat):Int)∧TT 1 (AG (mD o n s) q (q+1)))))) (TT 3 (CC (R5 o s)∧TT 5 (GO (mE o n s) 0 (∀i,(mE o n s).inv i→TT 1 (CD ((i:Int)<(n.U.length:Int)) (IX (i:Int) n.U.length∧TT 7 (((dC (.agg [(dS e0),(dS e0),.nils,.nils,.nils,.nils,.nils,.nils,(.v .nmp),(.v .nmp)]) (gE true (nZ bR)))∧(true=false→∀p∈(bU o s o.U.length),(nZ p.2).length=1))∧TT 6 (GO (mG o n s i) 0 (∀j,(mG o n s i).inv j→TT 1 (CD ((j:Int)<((((n.U.getD i ac).Ul).length:Nat):Int)) (IX (j:Int) (((n.U.getD i ac).Ul).length)∧TT 7 (CC (R8 (ak bR (bU o s o.U.length) ((n.U.getD i ac).name)) (((n.U.getD i ac).Ul).getD j aI))∧am [[(i6 (fJ (ak bR (bU o s o.U.length) ((n.U.getD i ac).name)) (((n.U.getD i ac).Ul).getD j aI)))]] ([fJ (ak bR (bU o s o.U.length) ((n.U.getD i ac).name)) (((n.U.getD i ac).Ul).getD j aI)].map (ab .i64))∧((tab (fun j=>fJ (ak bR (bU o s o.U.length) (n.U.getD i ac).name) ((n.U.getD i ac).Ul.getD j aI)) j).length+([fJ (ak bR (bU o s o.U.length) ((n.U.getD i ac).name)) (((n.U.getD i ac).Ul).getD j aI)].map (ab .i64)).length≤137438953472∧(tab (fun j=>fJ (ak bR (bU o s o.U.length) (n.U.getD i ac).name) ((n.U.getD i ac).Ul.getD j aI)) j).map (ab .i64)++[fJ (ak bR (bU o s o.U.length) ((n.U.getD i ac).name)) (((n.U.getD i ac).Ul).getD j aI)].map (ab .i64)=(tab (fun j=>fJ (ak bR (bU o s o.U.length) (n.U.getD i ac).name) ((n.U.getD i ac).Ul.getD j aI)) (j+1)).map (ab .i64))∧TT 2 (W6 ((j+1:Nat):Int)∧TT 1 (AG (mG o n s i) j (j+1))))) (TT 4 (GO (mH o n s i j) 0 (∀k,(mH o n s i j).inv k→TT 1 (CD ((k:Int)<((((n.U.getD i ac).Uk).length:Nat):Int)) (IX (k:Int) (((n.U.getD i ac).Uk).length)∧TT 7 (CC (R9 (ak bR (bU o s o.U.length) ((n.U.getD i ac).name)) (((n.U.getD i ac).Uk).getD k ay))∧am [[(LI (gW (ak bR (bU o s o.U.length) ((n.U.getD i ac).name)) (((n.U.getD i ac).Uk).getD k ay)))]] ([gW (ak bR (bU o s o.U.length) ((n.U.getD i ac).name)) (((n.U.getD i ac).Uk).getD k ay)].map aa)∧((tab (fun j=>gW (ak bR (bU o s o.U.length) (n.U.getD i ac).name) ((n.U.getD i ac).Uk.getD j ay)) k).length+([gW (ak bR (bU o s o.U.length) ((n.U.getD i ac).name)) (((n.U.getD i ac).Uk).getD k ay)].map aa).length≤137438953472∧(tab (fun j=>gW (ak bR (bU o s o.U.length) (n.U.getD i ac).name) ((n.U.getD i ac).Uk.getD j ay)) k).map aa++[gW (ak bR (bU o s o.U.length) ((n.U.getD i ac).name)) (((n.U.getD i ac).Uk).getD k ay)].map aa=(tab (fun j=>gW (ak bR (bU o s o.U.length) (n.U.getD i ac).name) ((n.U.getD i ac).Uk.getD j ay)) (k+1)).map aa)∧TT 2 (W6 ((k+1:Nat):Int)∧TT 1 (AG (mH o n s i j) k (k+1))))) (TT 3 (am [[(LI (tab (fun j=>fJ (ak bR (bU o s o.U.length) (n.U.getD i ac).name) ((n.U.getD i ac).Ul.getD j aI)) j)),(dL 1 aa [] (tab (fun j=>gW (ak bR (bU o s o.U.length) (n.U.getD i ac).name) ((n.U.getD i ac).Uk.getD j ay)) k))]] ([(⟨tab (fun j=>fJ (ak bR (bU o s o.U.length) (n.U.getD i ac).name) ((n.U.getD i ac).Ul.getD j aI)) j,tab (fun j=>gW (ak bR (bU o s o.U.length) (n.U.getD i ac).name) ((n.U.getD i ac).Uk.getD j ay)) k⟩:Ps)].map bi)∧((tab (kg o n s) i).length+([(⟨tab (fun j=>fJ (ak bR (bU o s o.U.length) (n.U.getD i ac).name) ((n.U.getD i ac).Ul.getD j aI)) j,tab (fun j=>gW (ak bR (bU o s o.U.length) (n.U.getD i ac).name) ((n.U.getD i ac).Uk.getD j ay)) k⟩:Ps)].map bi).length≤137438953472∧(tab (kg o n s) i).map bi++[(⟨tab (fun j=>fJ (ak bR (bU o s o.U.length) (n.U.getD i ac).name) ((n.U.getD i ac).Ul.getD j aI)) j,tab (fun j=>gW (ak bR (bU o s o.U.length) (n.U.getD i ac).name) ((n.U.getD i ac).Uk.getD j ay)) k⟩:Ps)].map bi=(tab (kg o n s) (i+1)).map bi)∧TT 2 (W6 ((i+1:Nat):Int)∧TT 1 (AG (mE o n s) i (i+1)))))))))))))) (TT 4 (GO (ez o n s i) 0 (∀m,(ez o n s i).inv m→TT 1 (CD ((m:Int)<(n.J.length:Int)) (IX (m:Int) n.J.length∧TT 7 (((dC (i6 0) (gE false ((ab .i64) 0)))∧(false=false→∀p∈(cY [] (bP o) o.J.length),((ab .i64) p.2).length=1))∧TT 5 (CS ((bc (cY [] (bP o) o.J.length) ((n.J.getD m aK).name))=true) (TT 1 ((True∧(bc (cY [] (bP o) o.J.length) ((n.J.getD m aK).name))=true)∧TT 3 (CC (SM (bv o n o.J.length) ((n.J.getD m aK).name))∧TT 2 (CB (!(H2 (bv o n o.J.length) ((n.J.getD m aK).name))) (TT 3 (IX (ak 0 (cY [] (bP o) o.J.length) ((n.J.getD m aK).name)) s.J.length∧TT 1 (CO (Sz (s.J.getD ((ak 0 (cY [] (bP o) o.J.length) ((n.J.getD m aK).name)).toNat) []))∧TT 1 (CS (((n.J.getD m aK).cap)>0) (TT 3 ((True∧(decide (((n.J.getD m aK).cap)>0))=true)∧TT 6 (CD ((((s.J.getD ((ak 0 (cY [] (bP o) o.J.length) ((n.J.getD m aK).name)).toNat) []).length:Nat):Int)>((n.J.getD m aK).cap)) (TT 5 (((((au o n s).1).U)=[]∧(((au o n s).1).J)=[]∧True)∧(150:Int)=((au o n s).2)∧True)) (TT 3 (am [[(LI (s.J.getD ((ak 0 (cY [] (bP o) o.J.length) ((n.J.getD m aK).name)).toNat) []))]] ([(s.J.getD ((ak 0 (cY [] (bP o) o.J.length) ((n.J.getD m aK).name)).toNat) [])].map aa)∧((tab (dT o n s) m).length+([(s.J.getD ((ak 0 (cY [] (bP o) o.J.length) ((n.J.getD m aK).name)).toNat) [])].map aa).length≤137438953472∧(tab (dT o n s) m).map aa++[(s.J.getD ((ak 0 (cY [] (bP o) o.J.length) ((n.J.getD m aK).name)).toNat) [])].map aa=(tab (dT o n s) (m+1)).map aa)∧TT 2 (W6 ((m+1:Nat):Int)∧TT 1 (AG (ez o n s i) m (m+1)))))))) (TT 3 ((True∧(decide (((n.J.getD m aK).cap)>0))=false)∧TT 9 (am [[(LI (s.J.getD ((ak 0 (cY [] (bP o) o.J.length) ((n.J.getD m aK).name)).toNat) []))]] ([(s.J.getD ((ak 0 (cY [] (bP o) o.J.length) ((n.J.getD m aK).name)).toNat) [])].map aa)∧((tab (dT o n s) m).length+([(s.J.getD ((ak 0 (cY [] (bP o) o.J.length) ((n.J.getD m aK).name)).toNat) [])].map aa).length≤137438953472∧(tab (dT o n s) m).map aa++[(s.J.getD ((ak 0 (cY [] (bP o) o.J.length) ((n.J.getD m aK).name)).toNat) [])].map aa=(tab (dT o n s) (m+1)).map aa)∧TT 2 (W6 ((m+1:Nat):Int)∧TT 1 (AG (ez o n s i) m (m+1)))))))))) (CS (((n.J.getD m aK).cap)>0) (TT 3 ((True∧(decide (((n.J.getD m aK).cap)>0))=true)∧TT 6 (CD ((0:Int)>((n.J.getD m aK).cap)) (TT 5 (((((au o n s).1).U)=[]∧(((au o n s).1).J)=[]∧True)∧(150:Int)=((au o n s).2)∧True)) (TT 3 (am [[.nils]] ([[]].map aa)∧((tab (dT o n s) m).length+([[]].map aa).length≤137438953472∧(tab (dT o n s) m).map aa++[[]].map aa=(tab (dT o n s) (m+1)).map aa)∧TT 2 (W6 ((m+1:Nat):Int)∧TT 1 (AG (ez o n s i) m (m+1)))))))) (TT 3 ((True∧(decide (((n.J.getD m aK).cap)>0))=false)∧TT 9 (am [[.nils]] ([[]].map aa)∧((tab (dT o n s) m).length+([[]].map aa).length≤137438953472∧(tab (dT o n s) m).map aa++[[]].map aa=(tab (dT o n s) (m+1)).map aa)∧TT 2 (W6 ((m+1:Nat):Int)∧TT 1 (AG (ez o n s i) m (m+1))))))))))) (TT 1 ((True∧(bc (cY [] (bP o) o.J.length) ((n.J.getD m aK).name))=false)∧TT 6 (CS (((n.J.getD m aK).cap)>0) (TT 3 ((True∧(decide (((n.J.getD m aK).cap)>0))=true)∧TT 6 (CD ((0:Int)>((n.J.getD m aK).cap)) (TT 5 (((((au o n s).1).U)=[]∧(((au o n s).1).J)=[]∧True)∧(150:Int)=((au o n s).2)∧True)) (TT 3 (am [[.nils]] ([[]].map aa)∧((tab (dT o n s) m).length+([[]].map aa).length≤137438953472∧(tab (dT o n s) m).map aa++[[]].map aa=(tab (dT o n s) (m+1)).map aa)∧TT 2 (W6 ((m+1:Nat):Int)∧TT 1 (AG (ez o n s i) m (m+1)))))))) (TT 3 ((True∧(decide (((n.J.getD m aK).cap)>0))=false)∧TT 9 (am [[.nils]] ([[]].map aa)∧((tab (dT o n s) m).length+([[]].map aa).length≤137438953472∧(tab (dT o n s) m).map aa++[[]].map aa=(tab (dT o n s) (m+1)).map aa)∧TT 2 (W6 ((m+1:Nat):Int)∧TT 1 (AG (ez o n s i) m (m+1)))))))))))) (TT 5 (((tab (kg o n s) i).map bi=(((au o n s).1).U).map bi∧(tab (dT o n s) m).map aa=(((au o n s).1).J).map aa∧True)∧(0:Int)=((au o n s).2)∧True))))))))))))))))) (.w 1 [(2,(NA o n).O),(4,(OW o).O)]<|.l (mD o n s) 0 (fun q=>.b 35 (.b 46 (.e) (.w 7 [(0,.val (i6 ((q+1:Nat):Int)))]<|.e)) (.w 9 [(2,(R5 o s).O)]<|.g 10 11 0 69 2 bi a7<|.l (mE o n s) 0 (fun i=>.b 56 (.g 15 14 0 3 1 (ab .i64) 0<|.g 15 14 1 67 1 aa []<|.l (mG o n s i) 0 (fun j=>.b 67 (.w 18 [(4,(R8 (ak bR (bU o s o.U.length) ((n.U.getD i ac).name)) (((n.U.getD i ac).Ul).getD j aI)).O),(5,.box 3 1 (ab .i64) 0 [fJ (ak bR (bU o s o.U.length) ((n.U.getD i ac).name)) (((n.U.getD i ac).Ul).getD j aI)]),(6,.box 3 1 (ab .i64) 0 (tab (fun j=>fJ (ak bR (bU o s o.U.length) (n.U.getD i ac).name) ((n.U.getD i ac).Ul.getD j aI)) (j+1)))]<|.w 19 [(0,.val (i6 ((j+1:Nat):Int)))]<|.e) (.l (mH o n s i j) 0 (fun k=>.b 83 (.w 23 [(4,(R9 (ak bR (bU o s o.U.length) ((n.U.getD i ac).name)) (((n.U.getD i ac).Uk).getD k ay)).O),(5,.box 67 1 aa [] [gW (ak bR (bU o s o.U.length) ((n.U.getD i ac).name)) (((n.U.getD i ac).Uk).getD k ay)]),(6,.box 67 1 aa [] (tab (fun j=>gW (ak bR (bU o s o.U.length) (n.U.getD i ac).name) ((n.U.getD i ac).Uk.getD j ay)) (k+1)))]<|.w 24 [(0,.val (i6 ((k+1:Nat):Int)))]<|.e) (.f 25 16<|.f 25 17<|.w 25 [(3,.box 69 2 bi a7 [(⟨tab (fun j=>fJ (ak bR (bU o s o.U.length) (n.U.getD i ac).name) ((n.U.getD i ac).Ul.getD j aI)) j,tab (fun j=>gW (ak bR (bU o s o.U.length) (n.U.getD i ac).name) ((n.U.getD i ac).Uk.getD j ay)) k⟩:Ps)]),(4,.box 69 2 bi a7 (tab (kg o n s) (i+1)))]<|.w 26 [(0,.val (i6 ((i+1:Nat):Int)))]<|.e))))) (.g 27 11 1 67 1 aa []<|.l (ez o n s i) 0 (fun m=>.b 106 (.s 32 ((bc (cY [] (bP o) o.J.length) ((n.J.getD m aK).name))=true) (.w 32 [(1,.val (dB true)),(5,(SM (bv o n o.J.length) ((n.J.getD m aK).name)).O)]<|.b 123 (.w 33 [(5,(Sz (s.J.getD ((ak 0 (cY [] (bP o) o.J.length) ((n.J.getD m aK).name)).toNat) [])).O)]<|.s 34 (((n.J.getD m aK).cap)>0) (.w 34 [(3,.val (dB true))]<|.b 139 (.e) (.f 36 15<|.w 36 [(3,.box 67 1 aa [] [(s.J.getD ((ak 0 (cY [] (bP o) o.J.length) ((n.J.getD m aK).name)).toNat) [])]),(4,.box 67 1 aa [] (tab (dT o n s) (m+1)))]<|.w 37 [(0,.val (i6 ((m+1:Nat):Int)))]<|.e)) (.w 34 [(3,.val (dB false))]<|.f 36 15<|.w 36 [(3,.box 67 1 aa [] [(s.J.getD ((ak 0 (cY [] (bP o) o.J.length) ((n.J.getD m aK).name)).toNat) [])]),(4,.box 67 1 aa [] (tab (dT o n s) (m+1)))]<|.w 37 [(0,.val (i6 ((m+1:Nat):Int)))]<|.e)) (.s 34 (((n.J.getD m aK).cap)>0) (.w 34 [(3,.val (dB true))]<|.b 139 (.e) (.w 36 [(3,.box 67 1 aa [] [[]]),(4,.box 67 1 aa [] (tab (dT o n s) (m+1)))]<|.w 37 [(0,.val (i6 ((m+1:Nat):Int)))]<|.e)) (.w 34 [(3,.val (dB false))]<|.w 36 [(3,.box 67 1 aa [] [[]]),(4,.box 67 1 aa [] (tab (dT o n s) (m+1)))]<|.w 37 [(0,.val (i6 ((m+1:Nat):Int)))]<|.e))) (.w 32 [(1,.val (dB false))]<|.s 34 (((n.J.getD m aK).cap)>0) (.w 34 [(3,.val (dB true))]<|.b 139 (.e) (.w 36 [(3,.box 67 1 aa [] [[]]),(4,.box 67 1 aa [] (tab (dT o n s) (m+1)))]<|.w 37 [(0,.val (i6 ((m+1:Nat):Int)))]<|.e)) (.w 34 [(3,.val (dB false))]<|.w 36 [(3,.box 67 1 aa [] [[]]),(4,.box 67 1 aa [] (tab (dT o n s) (m+1)))]<|.w 37 [(0,.val (i6 ((m+1:Nat):Int)))]<|.e))) (.e))))))) Tryz.func26 rfl rfl rfl (by kernel_rfl) ?_
 refine tt ⟨(t7 o n hol Xo),tt ⟨(rb o (by omega)),tt ⟨rfl,⟨by omega,fun z hz=>by omega⟩,?_⟩⟩⟩
 intro q F'
 obtain⟨hq,hgb⟩:=F'
 refine tt (cd (fun WZ=>?_) (fun WZ=>?_))
 · refine⟨ix,?_⟩
   have Yd:=Ni (f:=bP o) (k:=(bv o n o.J.length).getD q .empty) o.J.length (by omega)
   refine tt ⟨⟨(dC.refl _),(fun _ _ _=>rfl)⟩,⟨ix,tt (cd (fun Xs=>?_) (fun Xs=>?_))⟩⟩
   · have Z5:0<(s.J.getD (ak 0 (cY [] (bP o) o.J.length) ((bv o n o.J.length).getD q .empty)).toNat []).length:=by omega
     have Yk:au o n s=(⟨[],[]⟩,150):=DG (k:=q) (by show q<(bv o n o.J.length).length;omega) (Uz Z5)
     refine tt ⟨⟨?_,?_,oK⟩,?_,oK⟩
     all_goals (all_goals (first | (rw[Yk];done) | (rw[Yk]) | (rw[WM,W8];done) | (rw[WM,X8];done) | (rw[WM];done) | (rw[WM,W8]) | (rw[WM,X8]) | (rw[WM])))
   · have Zq:¬0<(s.J.getD (ak 0 (cY [] (bP o) o.J.length) ((bv o n o.J.length).getD q .empty)).toNat []).length:=by omega
     refine⟨w6,tt ⟨(q+1),rfl,?_,(?_:(bv o n o.J.length).length-(q+1)<(bv o n o.J.length).length-q)⟩⟩
     · exact⟨by omega,bD hgb (Uy Zq)⟩
     · omega
 · have hgn:∀z,z<(fW o n).length→ie o n s z=false:=fun z hz=>hgb z (by have:(fW o n).length=(bv o n o.J.length).length:=rfl;omega)
   refine tt ⟨(Ht o s (by omega) hsl (fun i hi=>by have:=h.orr i hi;omega)),tt ⟨rfl,(by omega),?_⟩⟩
   intro i F'
   have hi:=F'
   refine tt (cd (fun hc56=>?_) (fun hc56=>?_))
   · refine⟨ix,tt ⟨⟨Jx,(fun h=>Bool.noConfusion h)⟩,?_⟩⟩
     have hnr:=h.nr i (by omega)
     have hFr:=JA h.sr (n.U.getD i ac).name
     have hFm:=JB h.sm (n.U.getD i ac).name
     refine tt ⟨rfl,(by omega),?_⟩
     intro j F'
     have hj:=F'
     refine tt (cd (fun hc67=>?_) (fun hc67=>?_))
     · refine⟨ix,?_⟩
       have ZC:=h.rk i (by omega) j (by omega)
       refine tt ⟨(OZ (ak bR (bU o s o.U.length) ((n.U.getD i ac).name)) (((n.U.getD i ac).Ul).getD j aI) ZC (hFr _)),⟨⟨⟨rfl,oK⟩,oK⟩,⟨(aZ (by omega) rfl),tt ⟨w6,tt ⟨(j+1),rfl,(?_:(j+1)≤(n.U.getD i ac).Ul.length),(?_:(n.U.getD i ac).Ul.length-(j+1)<(n.U.getD i ac).Ul.length-j)⟩⟩⟩⟩⟩
       · omega
       · omega
     · have hje:j=(n.U.getD i ac).Ul.length:=by omega
       refine tt ⟨rfl,(by omega),?_⟩
       intro k F'
       have hk:=F'
       refine tt (cd (fun ZS=>?_) (fun ZS=>?_))
       · refine⟨ix,?_⟩
         have hmk:=h.mk' i (by omega) k (by omega)
         refine tt ⟨(O0 (ak bR (bU o s o.U.length) ((n.U.getD i ac).name)) (((n.U.getD i ac).Uk).getD k ay) hmk.1 hmk.2 (hFm _)),⟨⟨⟨rfl,oK⟩,oK⟩,⟨(aZ (by omega) rfl),tt ⟨w6,tt ⟨(k+1),rfl,(?_:(k+1)≤(n.U.getD i ac).Uk.length),(?_:(n.U.getD i ac).Uk.length-(k+1)<(n.U.getD i ac).Uk.length-k)⟩⟩⟩⟩⟩
         · omega
         · omega
       · have X5:k=(n.U.getD i ac).Uk.length:=by omega
         refine tt ⟨⟨⟨rfl,rfl,oK⟩,oK⟩,⟨(aZ (by omega) (by rw[hje,X5];rfl)),tt ⟨w6,tt ⟨(i+1),rfl,(?_:(i+1)≤n.U.length),(?_:n.U.length-(i+1)<n.U.length-i)⟩⟩⟩⟩
         · omega
         · omega
   · have W8:i=n.U.length:=by omega
     refine tt ⟨rfl,⟨by omega,fun z hz=>by omega⟩,?_⟩
     intro m F'
     obtain⟨hm,hcb⟩:=F'
     refine tt (cd (fun hc106=>?_) (fun hc106=>?_))
     · refine⟨ix,?_⟩
       have XX:bP n m=(n.J.getD m aK).name:=rfl
       refine tt ⟨⟨(dC.refl _),(fun _ _ _=>rfl)⟩,tt ⟨fun N'=>?_,fun N'=>?_⟩⟩
       · have hxi:0≤ak 0 (cY [] (bP o) o.J.length) (n.J.getD m aK).name∧ak 0 (cY [] (bP o) o.J.length) (n.J.getD m aK).name<(o.J.length:Int):=yl (f:=bP o) o.J.length (by assumption)
         refine tt ⟨(bT N'),tt ⟨(Pa (bv o n o.J.length) ((n.J.getD m aK).name) om),tt ⟨fun hc123=>?_,fun hc123=>?_⟩⟩⟩
         · have hW:dT o n s m=s.J.getD (ak 0 (cY [] (bP o) o.J.length) (n.J.getD m aK).name).toNat []:=by unfold dT Jy fW l7;rw[XX];exact Uw (by simp_all)
           refine tt ⟨ix,tt ⟨(Hx (s.J.getD ((ak 0 (cY [] (bP o) o.J.length) ((n.J.getD m aK).name)).toNat) []) (U6 (h.sw _) (by decide))),tt ⟨fun WN=>?_,fun WN=>?_⟩⟩⟩
           · refine tt ⟨(vT WN),tt (cd (fun Zr=>?_) (fun Zr=>?_))⟩
             · have Yk:au o n s=(⟨[],[]⟩,150):=qV (i:=m) (by omega) (by unfold df;rw[hW];simp only[Uo,U8,UR];omega)
               refine tt ⟨⟨?_,?_,oK⟩,?_,oK⟩
               all_goals (all_goals (first | (rw[Yk];done) | (rw[Yk]) | (rw[WM,W8];done) | (rw[WM,X8];done) | (rw[WM];done) | (rw[WM,W8]) | (rw[WM,X8]) | (rw[WM])))
             · have Xg:df o n s m=false:=by unfold df;rw[hW];simp only[VG,Vz,UR];omega
               refine tt ⟨⟨⟨rfl,oK⟩,oK⟩,⟨(aZ (by omega) hW.symm),tt ⟨w6,tt ⟨(m+1),rfl,?_,(?_:n.J.length-(m+1)<n.J.length-m)⟩⟩⟩⟩
               · exact⟨by omega,bD hcb Xg⟩
               · omega
           · refine tt ⟨(vF WN),?_⟩
             have Xg:df o n s m=false:=by unfold df;rw[hW];simp only[VG,Vz,UR];omega
             refine tt ⟨⟨⟨rfl,oK⟩,oK⟩,⟨(aZ (by omega) hW.symm),tt ⟨w6,tt ⟨(m+1),rfl,?_,(?_:n.J.length-(m+1)<n.J.length-m)⟩⟩⟩⟩
             · exact⟨by omega,bD hcb Xg⟩
             · omega
         · have hW:dT o n s m=[]:=by unfold dT Jy fW l7;rw[XX];exact Ur (by simp_all)
           refine⟨fun XH=>?_,fun XH=>?_⟩
           · refine tt ⟨(vT XH),tt (cd (fun Zr=>?_) (fun Zr=>?_))⟩
             · have Yk:au o n s=(⟨[],[]⟩,150):=qV (i:=m) (by omega) (by unfold df;rw[hW];simp only[Uo,U8,UR];omega)
               refine tt ⟨⟨?_,?_,oK⟩,?_,oK⟩
               all_goals (all_goals (first | (rw[Yk];done) | (rw[Yk]) | (rw[WM,W8];done) | (rw[WM,X8];done) | (rw[WM];done) | (rw[WM,W8]) | (rw[WM,X8]) | (rw[WM])))
             · have Xg:df o n s m=false:=by unfold df;rw[hW];simp only[VG,Vz,UR];omega
               refine tt ⟨⟨⟨rfl,oK⟩,oK⟩,⟨(aZ (by omega) hW.symm),tt ⟨w6,tt ⟨(m+1),rfl,?_,(?_:n.J.length-(m+1)<n.J.length-m)⟩⟩⟩⟩
               · exact⟨by omega,bD hcb Xg⟩
               · omega
           · refine tt ⟨(vF XH),?_⟩
             have Xg:df o n s m=false:=by unfold df;rw[hW];simp only[VG,Vz,UR];omega
             refine tt ⟨⟨⟨rfl,oK⟩,oK⟩,⟨(aZ (by omega) hW.symm),tt ⟨w6,tt ⟨(m+1),rfl,?_,(?_:n.J.length-(m+1)<n.J.length-m)⟩⟩⟩⟩
             · exact⟨by omega,bD hcb Xg⟩
             · omega
       · have hW:dT o n s m=[]:=by unfold dT Jy fW l7;rw[XX];exact Ur (by simp_all)
         refine tt ⟨(bF N'),tt ⟨fun Y4=>?_,fun Y4=>?_⟩⟩
         · refine tt ⟨(vT Y4),tt (cd (fun Zr=>?_) (fun Zr=>?_))⟩
           · have Yk:au o n s=(⟨[],[]⟩,150):=qV (i:=m) (by omega) (by unfold df;rw[hW];simp only[Uo,U8,UR];omega)
             refine tt ⟨⟨?_,?_,oK⟩,?_,oK⟩
             all_goals (all_goals (first | (rw[Yk];done) | (rw[Yk]) | (rw[WM,W8];done) | (rw[WM,X8];done) | (rw[WM];done) | (rw[WM,W8]) | (rw[WM,X8]) | (rw[WM])))
           · have Xg:df o n s m=false:=by unfold df;rw[hW];simp only[VG,Vz,UR];omega
             refine tt ⟨⟨⟨rfl,oK⟩,oK⟩,⟨(aZ (by omega) hW.symm),tt ⟨w6,tt ⟨(m+1),rfl,?_,(?_:n.J.length-(m+1)<n.J.length-m)⟩⟩⟩⟩
             · exact⟨by omega,bD hcb Xg⟩
             · omega
         · refine tt ⟨(vF Y4),?_⟩
           have Xg:df o n s m=false:=by unfold df;rw[hW];simp only[VG,Vz,UR];omega
           refine tt ⟨⟨⟨rfl,oK⟩,oK⟩,⟨(aZ (by omega) hW.symm),tt ⟨w6,tt ⟨(m+1),rfl,?_,(?_:n.J.length-(m+1)<n.J.length-m)⟩⟩⟩⟩
           · exact⟨by omega,bD hcb Xg⟩
           · omega
     · have X8:m=n.J.length:=by omega
       have WM:=Jz hgn (fun z hz=>hcb z (by omega))
       refine tt ⟨⟨(congrArg _ (?_:(tab (kg o n s) i)=(((au o n s).1).U))),(congrArg _ (?_:(tab (dT o n s) m)=(((au o n s).1).J))),oK⟩,?_,oK⟩
       all_goals (all_goals (first | (rw[Yk];done) | (rw[Yk]) | (rw[WM,W8];done) | (rw[WM,X8];done) | (rw[WM];done) | (rw[WM,W8]) | (rw[WM,X8]) | (rw[WM])))
end Go.Proofs.YtnlmlkbaflmgcaaGreat
