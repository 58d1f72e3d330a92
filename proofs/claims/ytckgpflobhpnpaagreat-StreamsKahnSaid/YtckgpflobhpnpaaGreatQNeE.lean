/-
  Package network: copies of slices, values.
-/
import Derived.Test.YtckgpflobhpnpaaGreatQPrB
import Derived.Test.YtckgpflobhpnpaaGreatQGrw
namespace Go.Proofs.YtckgpflobhpnpaaGreat
open Go.RowKit
set_option linter.unusedVariables false
set_option linter.unusedSimpArgs false
abbrev C7:aq:=(.arr 42 1 ae [] ([]:List (List Int)))
abbrev C8:aq:=(.arr 3 1 (ab .i64) 0 ([]:List Int))
set_option maxRecDepth 100000
abbrev NF (l:List Int):vK:=⟨97,[(LI l)],(.own 0),(.arr 3 1 (ab .i64) 0 l)⟩
theorem Bg (l:List Int) (h:l≠[]) (hl:l.length≤137438953472):CO (NF l):=by
 refine ai.vcO (V:=TT 2 (l≠[]∧an [] (([]:List Int).map (ab .i64))∧TT 1 ((([]:List Int).length+(l.map (ab .i64)).length≤137438953472∧([]:List Int).map (ab .i64)++l.map (ab .i64)=l.map (ab .i64))∧TT 2 (((.own 0):D)=.own 0∧((.arr 3 1 (ab .i64) 0 l):aq)=(.arr 3 1 (ab .i64) 0 l))))) (.w 3 [(0,.box 3 1 (ab .i64) 0 ([]:List Int)),(2,.box 3 1 (ab .i64) 0 l)]<|.e) Tryz.func97 rfl rfl rfl (by kernel_rfl) ?_
 exact tt ⟨(by exact h),⟨oK,tt ⟨⟨by simp only[List.length_map,List.length_nil];omega,by simp⟩,tt ⟨rfl,rfl⟩⟩⟩⟩
abbrev NG:vK:=⟨97,[.nils],(.own 0),C8⟩
theorem Bh  : CO NG:=by
 refine ai.vcO (V:=TT 5 (((.own 0):D)=.own 0∧([]:List Int)=[])) (.e) Tryz.func97 rfl rfl rfl (by kernel_rfl) ?_
 refine tt ⟨rfl,?_⟩
 rfl
abbrev NH:vK:=⟨97,[(.v .esl)],(.own 0),C8⟩
theorem Bi  : CO NH:=by
 refine ai.vcO (V:=TT 3 (an [] (([]:List Int).map (ab .i64))∧TT 1 ((([]:List Int).length+(([]:List (List V))).length≤137438953472∧([]:List Int).map (ab .i64)++([]:List (List V))=([]:List Int).map (ab .i64))∧TT 2 (((.own 0):D)=.own 0∧(C8:aq)=C8)))) (.w 3 [(0,.box 3 1 (ab .i64) 0 ([]:List Int)),(2,.box 3 1 (ab .i64) 0 ([]:List Int))]<|.e) Tryz.func97 rfl rfl rfl (by kernel_rfl) ?_
 exact tt ⟨oK,tt ⟨⟨by simp,by simp⟩,tt ⟨rfl,rfl⟩⟩⟩
abbrev NI (l:List Int):vK:=⟨97,[(LI l)],(.own 0),(.arr 3 1 (ab .i64) 0 l)⟩
theorem El (l:List Int) (hl:l.length≤137438953472):CO (NI l) :=
  ai.nilcases (fun h=>Bg l h hl) (fun h=>by subst h;exact Bh) (fun h=>by subst h;exact Bi)
abbrev NJ (l:List Ps):vK:=⟨84,[(dL 2 bw bB l)],(.own 0),(.arr 56 2 bw bB l)⟩
theorem Bj (l:List Ps) (h:l≠[]) (hl:l.length≤137438953472):CO (NJ l):=by
 refine ai.vcO (V:=TT 2 (l≠[]∧an [] (([]:List Ps).map bw)∧TT 1 ((([]:List Ps).length+(l.map bw).length≤137438953472∧([]:List Ps).map bw++l.map bw=l.map bw)∧TT 2 (((.own 0):D)=.own 0∧((.arr 56 2 bw bB l):aq)=(.arr 56 2 bw bB l))))) (.w 3 [(0,.box 56 2 bw bB ([]:List Ps)),(2,.box 56 2 bw bB l)]<|.e) Tryz.func84 rfl rfl rfl (by kernel_rfl) ?_
 exact tt ⟨(by exact h),⟨oK,tt ⟨⟨by simp only[List.length_map,List.length_nil];omega,by simp⟩,tt ⟨rfl,rfl⟩⟩⟩⟩
abbrev NK:vK:=⟨84,[.nils],(.own 0),(.arr 56 2 bw bB ([]:List Ps))⟩
theorem Bk  : CO NK:=by
 refine ai.vcO (V:=TT 5 (((.own 0):D)=.own 0∧([]:List Ps)=[])) (.e) Tryz.func84 rfl rfl rfl (by kernel_rfl) ?_
 refine tt ⟨rfl,?_⟩
 rfl
abbrev NL:vK:=⟨84,[(.v .esl)],(.own 0),(.arr 56 2 bw bB ([]:List Ps))⟩
theorem Bl  : CO NL:=by
 refine ai.vcO (V:=TT 3 (an [] (([]:List Ps).map bw)∧TT 1 ((([]:List Ps).length+(([]:List (List V))).length≤137438953472∧([]:List Ps).map bw++([]:List (List V))=([]:List Ps).map bw)∧TT 2 (((.own 0):D)=.own 0∧((.arr 56 2 bw bB ([]:List Ps)):aq)=(.arr 56 2 bw bB ([]:List Ps)))))) (.w 3 [(0,.box 56 2 bw bB ([]:List Ps)),(2,.box 56 2 bw bB ([]:List Ps))]<|.e) Tryz.func84 rfl rfl rfl (by kernel_rfl) ?_
 exact tt ⟨oK,tt ⟨⟨by simp,by simp⟩,tt ⟨rfl,rfl⟩⟩⟩
abbrev NM (l:List Ps):vK:=⟨84,[(dL 2 bw bB l)],(.own 0),(.arr 56 2 bw bB l)⟩
theorem Em (l:List Ps) (hl:l.length≤137438953472):CO (NM l) :=
  ai.nilcases (fun h=>Bj l h hl) (fun h=>by subst h;exact Bk) (fun h=>by subst h;exact Bl)
abbrev NN (l:List (List Int)):vK:=⟨85,[(dL 1 ae [] l)],(.own 0),(.arr 42 1 ae [] l)⟩
theorem Bm (l:List (List Int)) (h:l≠[]) (hl:l.length≤137438953472):CO (NN l):=by
 refine ai.vcO (V:=TT 2 (l≠[]∧an [] (([]:List (List Int)).map ae)∧TT 1 ((([]:List (List Int)).length+(l.map ae).length≤137438953472∧([]:List (List Int)).map ae++l.map ae=l.map ae)∧TT 2 (((.own 0):D)=.own 0∧((.arr 42 1 ae [] l):aq)=(.arr 42 1 ae [] l))))) (.w 3 [(0,.box 42 1 ae [] ([]:List (List Int))),(2,.box 42 1 ae [] l)]<|.e) Tryz.func85 rfl rfl rfl (by kernel_rfl) ?_
 exact tt ⟨(by exact h),⟨oK,tt ⟨⟨by simp only[List.length_map,List.length_nil];omega,by simp⟩,tt ⟨rfl,rfl⟩⟩⟩⟩
abbrev NO:vK:=⟨85,[.nils],(.own 0),C7⟩
theorem Bn  : CO NO:=by
 refine ai.vcO (V:=TT 5 (((.own 0):D)=.own 0∧([]:List (List Int))=[])) (.e) Tryz.func85 rfl rfl rfl (by kernel_rfl) ?_
 refine tt ⟨rfl,?_⟩
 rfl
abbrev NP:vK:=⟨85,[(.v .esl)],(.own 0),C7⟩
theorem Bo  : CO NP:=by
 refine ai.vcO (V:=TT 3 (an [] (([]:List (List Int)).map ae)∧TT 1 ((([]:List (List Int)).length+(([]:List (List V))).length≤137438953472∧([]:List (List Int)).map ae++([]:List (List V))=([]:List (List Int)).map ae)∧TT 2 (((.own 0):D)=.own 0∧(C7:aq)=C7)))) (.w 3 [(0,.box 42 1 ae [] ([]:List (List Int))),(2,.box 42 1 ae [] ([]:List (List Int)))]<|.e) Tryz.func85 rfl rfl rfl (by kernel_rfl) ?_
 exact tt ⟨oK,tt ⟨⟨by simp,by simp⟩,tt ⟨rfl,rfl⟩⟩⟩
abbrev NQ (l:List (List Int)):vK:=⟨85,[(dL 1 ae [] l)],(.own 0),(.arr 42 1 ae [] l)⟩
theorem Eo (l:List (List Int)) (hl:l.length≤137438953472):CO (NQ l) :=
  ai.nilcases (fun h=>Bm l h hl) (fun h=>by subst h;exact Bn) (fun h=>by subst h;exact Bo)
set_option maxHeartbeats 1600000 in
theorem Bp (n:Nat) (hn:n≤137438953472) (w:World):Calls Tryz.prog 107 #[.slice none 0 0,.int .i64 (n:Int)] w (fun e w'=>∃v,e=.returned v∧w'.ownsRow 0 3 1 v 0 []∧w.grownBy w' none∧∀b,aG v=some b→w.heap.size≤b):=by
  by_cases h0:n=0
  · subst h0
    go_enter Tryz.func107,Tryz.ntmps107
    go_wp2
    go_ret
    exact⟨_,rfl,World.ownsRow_nil _ 0 _ _,kD w,fun b hb=>by simp[aG]at hb⟩
  · have hp:0<n:=by omega
    have e1:IntKind.i64.wrap ((n:Int)-(0-0))=(n:Int):=Hw rfl (by omega) (by omega)
    have e0:¬((n:Int)<0):=by omega
    have e2:(n:Int)>0:=by omega
    have hb8:Tryz.t3.bytes=8:=rfl
    have hnx:Builtin.nextslicecap n 0=n:=nextslicecap_zero hp
    go_enter Tryz.func107,Tryz.ntmps107
    go_wp2
    all_goals try (exfalso;simp only[hb8,hnx]at *;omega)
    go_ret
    have hK:n≤grownCap w n 0 3∧grownCap w n 0 3≤maxLen:=⟨grownCap_ge ..,grownCap_le_maxLen _ _ _ _ (by unfold maxLen;omega)⟩
    refine⟨_,rfl,World.ownsRow_made w (Builtin.zeroCells #[Value.int IntKind.i64 0] n++Builtin.zeroCells #[Value.int IntKind.i64 0] (grownCap w n 0 3-n)) (grownCap w n 0 3) (Nat.zero_le _) hK.2 ?_,⟨rfl,rfl,rfl,?_,fun k hk _=>?_⟩,fun b hb=>?_⟩
    · simp[Builtin.zeroCells];omega
    · simp
    · exact Below.heap_alloc w _ k hk
    · simp[aG]at hb;omega
abbrev KC (n:Nat):vK:=⟨107,[.nils,(i6 (n:Int))],.own 0,.arr 3 1 (ab .i64) 0 []⟩
theorem IH (n:Nat) (hn:n≤137438953472):CO (KC n):=by
  refine ai.of_empty (fun S μ w us hu=>?_)
  obtain⟨h1,h2⟩:=hu
  have h0:us=#[us[0]'(by simp at h1;omega),us[1]'(by simp at h1;omega)]:=by
    apply Array.ext
    · simpa using h1
    · intro i a b
      simp at h1
      have:i=0∨i=1:=by omega
      rcases this with rfl | rfl<;>rfl
  have k0:=h2 0 _ (us[0]'(by simp at h1;omega)) rfl (Array.getElem?_eq_getElem _)
  have k1:=h2 1 _ (us[1]'(by simp at h1;omega)) rfl (Array.getElem?_eq_getElem _)
  rw[h0]
  generalize us[0]'(by simp at h1;omega)=x at k0 ⊢
  generalize us[1]'(by simp at h1;omega)=y at k1 ⊢
  cases k0
  rw[bM k1]
  exact Bp n hn w
abbrev NR (ls:List (List Int)):Ct:=⟨88,[(dL 1 ae [] ls)],false,(LI ls.flatten)⟩
abbrev nW (ls:List (List Int)):Lp (Nat):=lS [0,3,9,10,11] 0 (fun (i:Nat)=>⟨[(0,(dL 1 ae [] ls)),(3,(i6 (((ls.take i).flatten.length:Nat):Int))),(9,(dL 1 ae [] ls)),(10,(i6 (ls.length:Int))),(11,(i6 (i:Int)))],[]⟩) (fun (i:Nat)=>i≤ls.length) (fun (i:Nat)=>ls.length-i)
abbrev nX (ls:List (List Int)):Lp (Nat):=lS [6,25,26,27] 1 (fun (j:Nat)=>⟨[(6,(.own 0)),(25,(dL 1 ae [] ls)),(26,(i6 (ls.length:Int))),(27,(i6 (j:Int)))],[(.arr 3 1 (ab .i64) 0 ((ls.take j).flatten))]⟩) (fun (j:Nat)=>j≤ls.length) (fun (j:Nat)=>ls.length-j)
theorem Ep (ls:List (List Int)) (h1:ls.length≤1000000) (h2:ls.flatten.length≤137438953472):CC (NR ls):=by
 refine ai.vc (V:=TT 5 (GO (nW ls) 0 (∀i,(nW ls).inv i→TT 1 (CD ((i:Int)<(ls.length:Int)) (IX (i:Int) ls.length∧TT 5 ((True∧(IntKind.wrap .i64 ((((ls.take i).flatten.length:Nat):Int)+(((ls.getD i []).length:Nat):Int)))=(((ls.take (i+1)).flatten.length:Nat):Int))∧TT 3 ((decide ((((ls.take (i+1)).flatten.length:Nat):Int)<0))=false∧W6 ((i+1:Nat):Int)∧TT 1 (AG (nW ls) i (i+1))))) (TT 1 (CO (KC ((ls.take i).flatten.length))∧TT 4 (GO (nX ls) 0 (∀j,(nX ls).inv j→TT 1 (CD ((j:Int)<(ls.length:Int)) (IX (j:Int) ls.length∧TT 4 ((((ls.take j).flatten).length+((ls.getD j []).map (ab .i64)).length≤137438953472∧((ls.take j).flatten).map (ab .i64)++(ls.getD j []).map (ab .i64)=((ls.take (j+1)).flatten).map (ab .i64))∧TT 1 (W6 ((j+1:Nat):Int)∧TT 1 (AG (nX ls) j (j+1))))) (TT 3 (((ls.take j).flatten).map (ab .i64)=ls.flatten.map (ab .i64)∧((∀z∈ls.flatten,((ab .i64) z).all V.scal=true))))))))))))) (.l (nW ls) 0 (fun i=>.b 12 (.w 5 [(3,.val (i6 (((ls.take (i+1)).flatten.length:Nat):Int)))]<|.u 20 (.w 8 [(0,.val (i6 ((i+1:Nat):Int)))]<|.e)) (.w 9 [(1,(KC ((ls.take i).flatten.length)).O)]<|.l (nX ls) 0 (fun j=>.b 28 (.w 13 [(2,.box 3 1 (ab .i64) 0 ((ls.take (j+1)).flatten))]<|.w 14 [(0,.val (i6 ((j+1:Nat):Int)))]<|.e) (.e))))) Tryz.func88 rfl rfl rfl (by kernel_rfl) ?_
 refine tt ⟨rfl,(by omega),?_⟩
 intro i hinv
 have hi:=hinv
 refine tt (cd (fun hc12=>?_) (fun hc12=>?_))
 · have hi1:i<ls.length:=by omega
   have hf:=wU hi1
   have hg:=x6 (ls:=ls) (i:=i+1)
   rw[hf,List.length_append]at hg
   refine⟨ix,tt ⟨⟨oK,(by rw[hf,List.length_append,Int.natCast_add];exact Hw rfl (by omega) (by omega))⟩,tt ⟨(decide_eq_false (by omega)),⟨w6,tt ⟨(i+1),rfl,(?_:(i+1)≤ls.length),(?_:ls.length-(i+1)<ls.length-i)⟩⟩⟩⟩⟩
   · omega
   · omega
 · have hg:=x6 (ls:=ls) (i:=i)
   refine tt ⟨(IH ((ls.take i).flatten.length) om),tt ⟨rfl,(by omega),?_⟩⟩
   intro j hinv
   have hj:=hinv
   refine tt (cd (fun hc28=>?_) (fun hc28=>?_))
   · have hj1:j<ls.length:=by omega
     have hf:=wU hj1
     have hg:=x6 (ls:=ls) (i:=j+1)
     rw[hf,List.length_append]at hg
     refine⟨ix,tt ⟨⟨by simp only[List.length_map];omega,by rw[hf,List.map_append]⟩,tt ⟨w6,tt ⟨(j+1),rfl,(?_:(j+1)≤ls.length),(?_:ls.length-(j+1)<ls.length-j)⟩⟩⟩⟩
     · omega
     · omega
   · refine tt ⟨(congrArg _ (?_:((ls.take j).flatten)=ls.flatten)),(fun _ _=>rfl)⟩
     exact Gm (by omega)
end Go.Proofs.YtckgpflobhpnpaaGreat
