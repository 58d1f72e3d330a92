/-
  Package network: copies of slices, values.
-/
import Derived.Test.YtckgpflobhpnpaaGreatQPrB
import Derived.Test.YtckgpflobhpnpaaGreatQGrw
namespace Go.Proofs.YtckgpflobhpnpaaGreat
open Go.RowKit
set_option linter.unusedVariables false
set_option linter.unusedSimpArgs false
abbrev EZ:am:=(.arr 42 1 ac [] ([]:List (List Int)))
abbrev E1:am:=(.arr 3 1 (ae .i64) 0 ([]:List Int))
set_option maxRecDepth 100000
abbrev Qa (l:List Int):xm:=⟨97,[(LI l)],(.own 0),(.arr 3 1 (ae .i64) 0 l)⟩
theorem C4 (l:List Int) (h:l≠[]) (hl:l.length≤137438953472):CO (Qa l):=by
 refine ah.vcO (V:=TT 2 (l≠[]∧ap [] (([]:List Int).map (ae .i64))∧TT 1 ((([]:List Int).length+(l.map (ae .i64)).length≤137438953472∧([]:List Int).map (ae .i64)++l.map (ae .i64)=l.map (ae .i64))∧TT 2 (((.own 0):D)=.own 0∧((.arr 3 1 (ae .i64) 0 l):am)=(.arr 3 1 (ae .i64) 0 l))))) (.w 3 [(0,.box 3 1 (ae .i64) 0 ([]:List Int)),(2,.box 3 1 (ae .i64) 0 l)]<|.e) Tryz.func97 rfl rfl rfl (by kernel_rfl) ?_
 exact tt ⟨(by exact h),⟨oK,tt ⟨⟨by simp only[List.length_map,List.length_nil];omega,by simp⟩,tt ⟨rfl,rfl⟩⟩⟩⟩
abbrev Qb:xm:=⟨97,[.nils],(.own 0),E1⟩
theorem C5  : CO Qb:=by
 refine ah.vcO (V:=TT 5 (((.own 0):D)=.own 0∧([]:List Int)=[])) (.e) Tryz.func97 rfl rfl rfl (by kernel_rfl) ?_
 refine tt ⟨rfl,?_⟩
 rfl
abbrev Qc:xm:=⟨97,[(.v .esl)],(.own 0),E1⟩
theorem C6  : CO Qc:=by
 refine ah.vcO (V:=TT 3 (ap [] (([]:List Int).map (ae .i64))∧TT 1 ((([]:List Int).length+(([]:List (List V))).length≤137438953472∧([]:List Int).map (ae .i64)++([]:List (List V))=([]:List Int).map (ae .i64))∧TT 2 (((.own 0):D)=.own 0∧(E1:am)=E1)))) (.w 3 [(0,.box 3 1 (ae .i64) 0 ([]:List Int)),(2,.box 3 1 (ae .i64) 0 ([]:List Int))]<|.e) Tryz.func97 rfl rfl rfl (by kernel_rfl) ?_
 exact tt ⟨oK,tt ⟨⟨by simp,by simp⟩,tt ⟨rfl,rfl⟩⟩⟩
abbrev Qd (l:List Int):xm:=⟨97,[(LI l)],(.own 0),(.arr 3 1 (ae .i64) 0 l)⟩
theorem Gn (l:List Int) (hl:l.length≤137438953472):CO (Qd l) :=
  ah.nilcases (fun h=>C4 l h hl) (fun h=>by subst h;exact C5) (fun h=>by subst h;exact C6)
abbrev Qe (l:List Ps):xm:=⟨84,[(dL 2 bN bI l)],(.own 0),(.arr 56 2 bN bI l)⟩
theorem C7 (l:List Ps) (h:l≠[]) (hl:l.length≤137438953472):CO (Qe l):=by
 refine ah.vcO (V:=TT 2 (l≠[]∧ap [] (([]:List Ps).map bN)∧TT 1 ((([]:List Ps).length+(l.map bN).length≤137438953472∧([]:List Ps).map bN++l.map bN=l.map bN)∧TT 2 (((.own 0):D)=.own 0∧((.arr 56 2 bN bI l):am)=(.arr 56 2 bN bI l))))) (.w 3 [(0,.box 56 2 bN bI ([]:List Ps)),(2,.box 56 2 bN bI l)]<|.e) Tryz.func84 rfl rfl rfl (by kernel_rfl) ?_
 exact tt ⟨(by exact h),⟨oK,tt ⟨⟨by simp only[List.length_map,List.length_nil];omega,by simp⟩,tt ⟨rfl,rfl⟩⟩⟩⟩
abbrev Qf:xm:=⟨84,[.nils],(.own 0),(.arr 56 2 bN bI ([]:List Ps))⟩
theorem C8  : CO Qf:=by
 refine ah.vcO (V:=TT 5 (((.own 0):D)=.own 0∧([]:List Ps)=[])) (.e) Tryz.func84 rfl rfl rfl (by kernel_rfl) ?_
 refine tt ⟨rfl,?_⟩
 rfl
abbrev Qg:xm:=⟨84,[(.v .esl)],(.own 0),(.arr 56 2 bN bI ([]:List Ps))⟩
theorem C9  : CO Qg:=by
 refine ah.vcO (V:=TT 3 (ap [] (([]:List Ps).map bN)∧TT 1 ((([]:List Ps).length+(([]:List (List V))).length≤137438953472∧([]:List Ps).map bN++([]:List (List V))=([]:List Ps).map bN)∧TT 2 (((.own 0):D)=.own 0∧((.arr 56 2 bN bI ([]:List Ps)):am)=(.arr 56 2 bN bI ([]:List Ps)))))) (.w 3 [(0,.box 56 2 bN bI ([]:List Ps)),(2,.box 56 2 bN bI ([]:List Ps))]<|.e) Tryz.func84 rfl rfl rfl (by kernel_rfl) ?_
 exact tt ⟨oK,tt ⟨⟨by simp,by simp⟩,tt ⟨rfl,rfl⟩⟩⟩
abbrev M5 (l:List Ps):xm:=⟨84,[(dL 2 bN bI l)],(.own 0),(.arr 56 2 bN bI l)⟩
theorem tA (l:List Ps) (hl:l.length≤137438953472):CO (M5 l) :=
  ah.nilcases (fun h=>C7 l h hl) (fun h=>by subst h;exact C8) (fun h=>by subst h;exact C9)
abbrev Qh (l:List (List Int)):xm:=⟨85,[(dL 1 ac [] l)],(.own 0),(.arr 42 1 ac [] l)⟩
theorem Da (l:List (List Int)) (h:l≠[]) (hl:l.length≤137438953472):CO (Qh l):=by
 refine ah.vcO (V:=TT 2 (l≠[]∧ap [] (([]:List (List Int)).map ac)∧TT 1 ((([]:List (List Int)).length+(l.map ac).length≤137438953472∧([]:List (List Int)).map ac++l.map ac=l.map ac)∧TT 2 (((.own 0):D)=.own 0∧((.arr 42 1 ac [] l):am)=(.arr 42 1 ac [] l))))) (.w 3 [(0,.box 42 1 ac [] ([]:List (List Int))),(2,.box 42 1 ac [] l)]<|.e) Tryz.func85 rfl rfl rfl (by kernel_rfl) ?_
 exact tt ⟨(by exact h),⟨oK,tt ⟨⟨by simp only[List.length_map,List.length_nil];omega,by simp⟩,tt ⟨rfl,rfl⟩⟩⟩⟩
abbrev Qi:xm:=⟨85,[.nils],(.own 0),EZ⟩
theorem Db  : CO Qi:=by
 refine ah.vcO (V:=TT 5 (((.own 0):D)=.own 0∧([]:List (List Int))=[])) (.e) Tryz.func85 rfl rfl rfl (by kernel_rfl) ?_
 refine tt ⟨rfl,?_⟩
 rfl
abbrev Qj:xm:=⟨85,[(.v .esl)],(.own 0),EZ⟩
theorem Dc  : CO Qj:=by
 refine ah.vcO (V:=TT 3 (ap [] (([]:List (List Int)).map ac)∧TT 1 ((([]:List (List Int)).length+(([]:List (List V))).length≤137438953472∧([]:List (List Int)).map ac++([]:List (List V))=([]:List (List Int)).map ac)∧TT 2 (((.own 0):D)=.own 0∧(EZ:am)=EZ)))) (.w 3 [(0,.box 42 1 ac [] ([]:List (List Int))),(2,.box 42 1 ac [] ([]:List (List Int)))]<|.e) Tryz.func85 rfl rfl rfl (by kernel_rfl) ?_
 exact tt ⟨oK,tt ⟨⟨by simp,by simp⟩,tt ⟨rfl,rfl⟩⟩⟩
abbrev M6 (l:List (List Int)):xm:=⟨85,[(dL 1 ac [] l)],(.own 0),(.arr 42 1 ac [] l)⟩
theorem tB (l:List (List Int)) (hl:l.length≤137438953472):CO (M6 l) :=
  ah.nilcases (fun h=>Da l h hl) (fun h=>by subst h;exact Db) (fun h=>by subst h;exact Dc)
set_option maxHeartbeats 1600000 in
theorem Dd (n:Nat) (hn:n≤137438953472) (w:World):Calls Tryz.prog 107 #[.slice none 0 0,.int .i64 (n:Int)] w (fun e w'=>∃v,e=.returned v∧w'.ownsRow 0 3 1 v 0 []∧w.grownBy w' none∧∀b,aG v=some b→w.heap.size≤b):=by
  by_cases h0:n=0
  · subst h0
    go_enter Tryz.func107,Tryz.ntmps107
    go_wp2
    go_ret
    exact⟨_,rfl,World.ownsRow_nil _ 0 _ _,ly w,fun b hb=>by simp[aG]at hb⟩
  · have hp:0<n:=by omega
    have e1:IntKind.i64.wrap ((n:Int)-(0-0))=(n:Int):=Kd rfl (by omega) (by omega)
    have e0:¬((n:Int)<0):=by omega
    have e2:(n:Int)>0:=by omega
    have hb8:Tryz.t3.bytes=8:=rfl
    have hnx:Builtin.nextslicecap n 0=n:=nextslicecap_zero hp
    go_enter Tryz.func107,Tryz.ntmps107
    go_wp2
    all_goals try (exfalso;simp only[hb8,hnx]at *;omega)
    go_ret
    have hK:n≤grownCap w n 0 3∧grownCap w n 0 3≤maxLen:=⟨grownCap_ge ..,grownCap_le_maxLen _ _ _ _ (by unfold maxLen;omega)⟩
    refine⟨_,rfl,World.ownsRow_made w (Builtin.zeroCells #[Value.int IntKind.i64 0] n++Builtin.zeroCells #[Value.int IntKind.i64 0] (grownCap w n 0 3-n)) (grownCap w n 0 3) (Nat.zero_le _) hK.2 ?_,⟨rfl,rfl,rfl,?_,fun k hk _=>?_⟩,fun b hb=>?_⟩
    · simp[Builtin.zeroCells];omega
    · simp
    · exact Below.heap_alloc w _ k hk
    · simp[aG]at hb;omega
abbrev M7 (n:Nat):xm:=⟨107,[.nils,(i6 (n:Int))],.own 0,.arr 3 1 (ae .i64) 0 []⟩
theorem K0 (n:Nat) (hn:n≤137438953472):CO (M7 n):=by
  refine ah.of_empty (fun S μ w us hu=>?_)
  obtain⟨h1,h2⟩:=hu
  have h0:us=#[us[0]'(by simp at h1;omega),us[1]'(by simp at h1;omega)]:=by
    apply Array.ext
    · simpa using h1
    · intro i a b
      simp at h1
      have:i=0∨i=1:=by omega
      rcases this with rfl | rfl<;>rfl
  have k0:=h2 0 _ (us[0]'(by simp at h1;omega)) rfl (Array.getElem?_eq_getElem _)
  have k1:=h2 1 _ (us[1]'(by simp at h1;omega)) rfl (Array.getElem?_eq_getElem _)
  rw[h0]
  generalize us[0]'(by simp at h1;omega)=x at k0 ⊢
  generalize us[1]'(by simp at h1;omega)=y at k1 ⊢
  cases k0
  rw[bW k1]
  exact Dd n hn w
abbrev Qk (ls:List (List Int)):Ct:=⟨88,[(dL 1 ac [] ls)],false,(LI ls.flatten)⟩
abbrev pb (ls:List (List Int)):Lp (Nat):=li [0,3,9,10,11] 0 (fun (i:Nat)=>⟨[(0,(dL 1 ac [] ls)),(3,(i6 (((ls.take i).flatten.length:Nat):Int))),(9,(dL 1 ac [] ls)),(10,(i6 (ls.length:Int))),(11,(i6 (i:Int)))],[]⟩) (fun (i:Nat)=>i≤ls.length) (fun (i:Nat)=>ls.length-i)
abbrev pc (ls:List (List Int)):Lp (Nat):=li [6,25,26,27] 1 (fun (j:Nat)=>⟨[(6,(.own 0)),(25,(dL 1 ac [] ls)),(26,(i6 (ls.length:Int))),(27,(i6 (j:Int)))],[(.arr 3 1 (ae .i64) 0 ((ls.take j).flatten))]⟩) (fun (j:Nat)=>j≤ls.length) (fun (j:Nat)=>ls.length-j)
theorem Gp (ls:List (List Int)) (h1:ls.length≤1000000) (h2:ls.flatten.length≤137438953472):CC (Qk ls):=by
 refine ah.vc (V:=TT 5 (GO (pb ls) 0 (∀i,(pb ls).inv i→TT 1 (CD ((i:Int)<(ls.length:Int)) (IX (i:Int) ls.length∧TT 5 ((True∧(IntKind.wrap .i64 ((((ls.take i).flatten.length:Nat):Int)+(((ls.getD i []).length:Nat):Int)))=(((ls.take (i+1)).flatten.length:Nat):Int))∧TT 3 ((decide ((((ls.take (i+1)).flatten.length:Nat):Int)<0))=false∧W6 ((i+1:Nat):Int)∧TT 1 (AG (pb ls) i (i+1))))) (TT 1 (CO (M7 ((ls.take i).flatten.length))∧TT 4 (GO (pc ls) 0 (∀j,(pc ls).inv j→TT 1 (CD ((j:Int)<(ls.length:Int)) (IX (j:Int) ls.length∧TT 4 ((((ls.take j).flatten).length+((ls.getD j []).map (ae .i64)).length≤137438953472∧((ls.take j).flatten).map (ae .i64)++(ls.getD j []).map (ae .i64)=((ls.take (j+1)).flatten).map (ae .i64))∧TT 1 (W6 ((j+1:Nat):Int)∧TT 1 (AG (pc ls) j (j+1))))) (TT 3 (((ls.take j).flatten).map (ae .i64)=ls.flatten.map (ae .i64)∧((∀z∈ls.flatten,((ae .i64) z).all V.scal=true))))))))))))) (.l (pb ls) 0 (fun i=>.b 12 (.w 5 [(3,.val (i6 (((ls.take (i+1)).flatten.length:Nat):Int)))]<|.u 20 (.w 8 [(0,.val (i6 ((i+1:Nat):Int)))]<|.e)) (.w 9 [(1,(M7 ((ls.take i).flatten.length)).O)]<|.l (pc ls) 0 (fun j=>.b 28 (.w 13 [(2,.box 3 1 (ae .i64) 0 ((ls.take (j+1)).flatten))]<|.w 14 [(0,.val (i6 ((j+1:Nat):Int)))]<|.e) (.e))))) Tryz.func88 rfl rfl rfl (by kernel_rfl) ?_
 refine tt ⟨rfl,(by omega),?_⟩
 intro i hinv
 have hi:=hinv
 refine tt (cd (fun hc12=>?_) (fun hc12=>?_))
 · have hi1:i<ls.length:=by omega
   have hf:=yr hi1
   have hg:=zF (ls:=ls) (i:=i+1)
   rw[hf,List.length_append]at hg
   refine⟨ix,tt ⟨⟨oK,(by rw[hf,List.length_append,Int.natCast_add];exact Kd rfl (by omega) (by omega))⟩,tt ⟨(decide_eq_false (by omega)),⟨w6,tt ⟨(i+1),rfl,(?_:(i+1)≤ls.length),(?_:ls.length-(i+1)<ls.length-i)⟩⟩⟩⟩⟩
   · omega
   · omega
 · have hg:=zF (ls:=ls) (i:=i)
   refine tt ⟨(K0 ((ls.take i).flatten.length) om),tt ⟨rfl,(by omega),?_⟩⟩
   intro j hinv
   have hj:=hinv
   refine tt (cd (fun hc28=>?_) (fun hc28=>?_))
   · have hj1:j<ls.length:=by omega
     have hf:=yr hj1
     have hg:=zF (ls:=ls) (i:=j+1)
     rw[hf,List.length_append]at hg
     refine⟨ix,tt ⟨⟨by simp only[List.length_map];omega,by rw[hf,List.map_append]⟩,tt ⟨w6,tt ⟨(j+1),rfl,(?_:(j+1)≤ls.length),(?_:ls.length-(j+1)<ls.length-j)⟩⟩⟩⟩
     · omega
     · omega
   · refine tt ⟨(congrArg _ (?_:((ls.take j).flatten)=ls.flatten)),(fun _ _=>rfl)⟩
     exact Ik (by omega)
abbrev Ql (v w:Int):Ct:=⟨83,[(i6 v),(.iptr [(.int .i64 w)] 0)],false,(dB (!(b8 v w)))⟩
theorem De (v w:Int) (h0:0≤w) (h6:w≤62):CC (Ql v w):=by
 refine ah.vc (V:=TT 1 (CS (v<0) (TT 2 ((True∧(decide (v<0))=true)∧TT 7 (true=(!(b8 v w))∧True))) (TT 2 ((True∧(decide (v<0))=false)∧TT 2 (SH w∧TT 4 ((decide (v≥(2^w.toNat)))=(!(b8 v w))∧True)))))) (.s 1 (v<0) (.w 1 [(2,.val (dB true))]<|.e) (.w 1 [(2,.val (dB false)),(5,.val (i6 (2^w.toNat)))]<|.e)) Tryz.func83 rfl rfl rfl (by kernel_rfl) ?_
 refine tt ⟨fun hs0=>?_,fun hs0=>?_⟩
 · refine tt ⟨(vT hs0),tt ⟨?_,oK⟩⟩
   first | (unfold b8;rw[decide_eq_false (by omega)];rfl) | (unfold b8;rw[decide_eq_true (show(0:Int)≤v by omega),db h0 h6,Bool.true_and];by_cases hq:v<2^w.toNat<;>first | (rw[decide_eq_false (by omega),decide_eq_true (by omega)];rfl) | (rw[decide_eq_true (by omega),decide_eq_false (by omega)];rfl))
 · refine tt ⟨(vF hs0),tt ⟨(sh (by have:=kG (n:=w.toNat) (by omega);omega) (by have:=kG (n:=w.toNat) (by omega);omega)),tt ⟨?_,oK⟩⟩⟩
   first | (unfold b8;rw[decide_eq_false (by omega)];rfl) | (unfold b8;rw[decide_eq_true (show(0:Int)≤v by omega),db h0 h6,Bool.true_and];by_cases hq:v<2^w.toNat<;>first | (rw[decide_eq_false (by omega),decide_eq_true (by omega)];rfl) | (rw[decide_eq_true (by omega),decide_eq_false (by omega)];rfl))
abbrev Im (l:List Int) (w:Int):Ct:=⟨106,[(LI l),(.fn (.func 83) [] [(.iptr [(.int .i64 w)] 0)])],false,(i6 (l5 l w))⟩
abbrev zH (l:List Int) (w:Int):Lp (Nat):=li [0,1,7,8] 0 (fun (i:Nat)=>⟨[(0,(LI l)),(1,(.fn (.func 83) [] [(.iptr [(.int .i64 w)] 0)])),(7,(i6 (l.length:Int))),(8,(i6 (i:Int)))],[]⟩) (fun (i:Nat)=>i≤l.length∧∀z,z<i→(!b8 (l.getD z 0) w)=false) (fun (i:Nat)=>l.length-i)
theorem M8 (l:List Int) (w:Int) (h0:0≤w) (h6:w≤62) (hl:l.length≤9223372036854775807):CC (Im l w):=by
 refine ah.vc (V:=TT 4 (GO (zH l w) 0 (∀i,(zH l w).inv i→TT 1 (CD ((i:Int)<(l.length:Int)) (TT 5 (IX (i:Int) l.length∧TT 1 (CC (Ql (l.getD i 0) w)∧CB (!(b8 (l.getD i 0) w)) (TT 3 ((i:Int)=(l5 l w)∧True)) (W6 ((i+1:Nat):Int)∧TT 1 (AG (zH l w) i (i+1)))))) (TT 2 ((-1)=(l5 l w)∧True)))))) (.l (zH l w) 0 (fun i=>.b 9 (.w 4 [(5,(Ql (l.getD i 0) w).O)]<|.b 16 (.e) (.w 6 [(0,.val (i6 ((i+1:Nat):Int)))]<|.e)) (.e))) Tryz.func106 rfl rfl rfl (by kernel_rfl) ?_
 refine tt ⟨rfl,⟨by omega,fun z hz=>by omega⟩,?_⟩
 intro i hinv
 obtain⟨hi,h3⟩:=hinv
 refine tt (cd (fun hc9=>?_) (fun hc9=>?_))
 · refine tt ⟨ix,tt ⟨(De (l.getD i 0) w om om),⟨fun hc16=>?_,fun hc16=>?_⟩⟩⟩
   · refine tt ⟨?_,oK⟩
     first | exact(fc (f:=fun i=>!b8 (l.getD i 0) w) hc16 h3 (by omega)).symm | exact(iU (f:=fun i=>!b8 (l.getD i 0) w) (fun z hz=>h3 z (by omega))).symm
   · refine⟨w6,tt ⟨(i+1),rfl,?_,(?_:l.length-(i+1)<l.length-i)⟩⟩
     · exact⟨by omega,bD h3 hc16⟩
     · omega
 · refine tt ⟨?_,oK⟩
   first | exact(fc (f:=fun i=>!b8 (l.getD i 0) w) hc16 h3 (by omega)).symm | exact(iU (f:=fun i=>!b8 (l.getD i 0) w) (fun z hz=>h3 z (by omega))).symm
abbrev M9 (l:List Int) (w:Int):Ct:=⟨82,[(LI l),(.fn (.func 83) [] [(.iptr [(.int .i64 w)] 0)])],false,(dB (decide (0≤l5 l w)))⟩
theorem Na (l:List Int) (w:Int) (h0:0≤w) (h6:w≤62) (hl:l.length≤9223372036854775807):CC (M9 l w):=by
 refine ah.vc (V:=TT 3 (CC (Im l w)∧TT 3 ((decide ((l5 l w)≥0))=(decide (0≤l5 l w))∧True))) (.w 1 [(2,(Im l w).O)]<|.e) Tryz.func82 rfl rfl rfl (by kernel_rfl) ?_
 refine tt ⟨(M8 l w om om om),tt ⟨?_,oK⟩⟩
 rfl
abbrev Qm (l:List Int) (w:Int):Ct:=⟨58,[(LI l),(i6 w)],false,(dB (di l w))⟩
theorem Gq (l:List Int) (w:Int) (h0:0≤w) (h6:w≤62) (hl:l.length≤9223372036854775807):CC (Qm l w):=by
 refine ah.vc (V:=TT 4 (CK (M9 l w)∧TT 3 ((!(decide (0≤l5 l w)))=(di l w)∧True))) (.w 1 [(2,(M9 l w).O')]<|.e) Tryz.func58 rfl rfl rfl (by kernel_rfl) ?_
 refine tt ⟨⟨dU _ rfl,(Na l w om om om)⟩,tt ⟨?_,oK⟩⟩
 exact ts
end Go.Proofs.YtckgpflobhpnpaaGreat
