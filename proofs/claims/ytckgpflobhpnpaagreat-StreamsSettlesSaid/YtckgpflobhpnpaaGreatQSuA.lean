/-
  Package streams: own lists of lists.
-/
import Derived.Test.YtckgpflobhpnpaaGreatQNeJ
import Derived.Test.YtckgpflobhpnpaaGreatQStD
namespace Go.Proofs.YtckgpflobhpnpaaGreat
open Go.RowKit
set_option linter.unusedVariables false
set_option linter.unusedSimpArgs false
set_option maxRecDepth 100000
abbrev cz (l:List (List Int)) (r:Nat):sR:=⟨3,1,Int,ae .i64,0,l.getD r []⟩
abbrev ut (l:List (List Int)) (k i j:Nat):D:=if i<k then .gr 1 i else kF ac [] (List.replicate l.length []) i j
theorem Jc (l:List (List Int)) (k:Nat):s4 1 l.length k 0 [.own 2] [1,2] (fun i j=>ut l k i j) (fun i j=>if i=k then .own 2 else ut l k i j):=by
  intro i j hi hj
  have hj0:j=0:=by omega
  subst hj0
  refine⟨by by_cases h:i=k<;>simp[h],fun g hg=>?_⟩
  simp only[List.all_cons,Bool.and_eq_true]at hg
  show D.free g (if i=k then .own 2 else ut l k i 0)=true
  split
  · exact hg.2.1
  · unfold ut
    split
    · exact hg.1
    · rfl
theorem Nq (l:List (List Int)) (k:Nat):∀i j,i<l.length→j<1→F0 1 k 2 (if i=k then .own 2 else ut l k i j) (ut l (k+1) i j):=by
  intro i j hi hj
  by_cases h:i=k
  · subst h
    exact .inl ⟨if_pos rfl,if_pos (Nat.lt_succ_self i)⟩
  · refine .inr ⟨?_,?_⟩
    · rw[if_neg h];unfold ut;by_cases h2:i<k
      · rw[if_pos h2,if_pos (by omega)]
      · rw[if_neg h2,if_neg (by omega)]
    · rw[if_neg h];unfold ut;by_cases h2:i<k
      · rw[if_pos h2];exact .inl ⟨i,rfl,h⟩
      · rw[if_neg h2];exact .inr (.inl ⟨_,rfl⟩)
theorem K9 (l:List (List Int)) (k i j q:Nat) (hq:[1].all (fun g=>!(Nat.beq g q))=true):(ut l k i j).free q=true:=by
  unfold ut
  split
  · simpa[D.free]using hq
  · rfl
theorem Jd (l:List (List Int)) {k:Nat} (h:l.length≤k):∀i j,i<l.length→j<1→CG 1 (ut l k i j) (.me i):=by
  intro i j hi hj
  exact .inl ⟨i,if_pos (by omega),rfl⟩
abbrev Nr (l:List (List Int)):xm:=⟨66,[(dL 1 ac [] l)],(.gr 0 0),(.nest 42 1 l.length (fun i _=>.me i) l.length (cz l))⟩
abbrev mh (l:List (List Int)):Lp (Nat):=li [0,3,9,10] 2 (fun (k:Nat)=>⟨[(0,(dL 1 ac [] l)),(3,(.own 0)),(9,(i6 (l.length:Int))),(10,(i6 (k:Int)))],[(.arrD 42 1 l.length [1] (fun i j=>ut l k i j)),(.grp k (cz l))]⟩) (fun (k:Nat)=>k≤l.length) (fun (k:Nat)=>l.length-k)
theorem qY (l:List (List Int)) (hl:l.length≤100000) (hs:∀z∈l,z.length≤100000):CO (Nr l):=by
 refine ah.vcO (V:=TT 3 ((((0:Int)≤(l.length:Int)∧(l.length:Int)≤(l.length:Int)∧(l.length:Int)≤137438953472)∧(List.replicate l.length ([]:List Int)).length=l.length∧∀x∈(List.replicate l.length ([]:List Int)),c8 [.nils] (ac x))∧TT 3 ((l.length=(List.replicate l.length ([]:List Int)).length∧∀i j,i<l.length→j<1→ut l 0 i j=kF ac [] (List.replicate l.length []) i j∧∀k,[1].all (fun g=>!(Nat.beq g k))=true→(ut l 0 i j).free k=true)∧TT 3 (GO (mh l) 0 (∀k,(mh l).inv k→TT 1 (CD ((k:Int)<(l.length:Int)) (TT 6 (IX (k:Int) l.length∧TT 1 (CO (Qd (l.getD k []))∧IX (k:Int) l.length∧(k<l.length∧s4 1 l.length k 0 [(.own 2)] [1,2] (fun i j=>ut l k i j) (fun i j=>if i=k then .own 2 else ut l k i j))∧(k≤k∧k+1=max k (k+1)∧(∀q,q<k+1→cz l q=if q=k then cz l k else cz l q)∧∀i j,i<l.length→j<1→F0 1 k 2 (if i=k then .own 2 else ut l k i j) (ut l (k+1) i j))∧(l.length=l.length∧∀i j,i<l.length→j<1→ut l (k+1) i j=ut l (k+1) i j∧∀q,[1].all (fun g=>!(Nat.beq g q))=true→(ut l (k+1) i j).free q=true)∧W6 ((k+1:Nat):Int)∧TT 1 (AG (mh l) k (k+1))))) ((l.length=k∧∀q,q<l.length→cz l q=cz l q)∧(∀i j,i<l.length→j<1→CG 1 (ut l k i j) (.me i))∧TT 3 (((.gr 0 0):D)=.gr 0 0∧((.nest 42 1 l.length (fun i _=>.me i) l.length (cz l)):am)=(.nest 42 1 l.length (fun i _=>.me i) l.length (cz l)))))))))) (.w 1 [(2,.box 42 1 ac [] (List.replicate l.length ([]:List Int)))]<|.gh 2 (QZ 0)<|.gh 2 (PG (cz l))<|.gh 2 (kd 0 l.length [1] (fun i j=>ut l 0 i j))<|.l (mh l) 0 (fun k=>.b 11 (.w 5 [(6,(Qd (l.getD k [])).O),(8,.cells [1,2] (fun i j=>if i=k then .own 2 else ut l k i j))]<|.gh 6 (put 0 1 2 k (k+1) (fun i j=>ut l (k+1) i j) (cz l))<|.gh 6 (kd 0 l.length [1] (fun i j=>ut l (k+1) i j))<|.w 6 [(0,.val (i6 ((k+1:Nat):Int)))]<|.e) (.gh 7 (Hs 1 l.length (cz l))<|.gh 7 (Oi 0 1 (fun i _=>.me i))<|.e))) Tryz.func66 rfl rfl rfl (by kernel_rfl) ?_
 refine tt ⟨⟨by omega,List.length_replicate,fun x hx=>by rw[List.eq_of_mem_replicate hx];exact⟨rfl,oK⟩⟩,tt ⟨⟨(List.length_replicate ..).symm,fun i j _ _=>⟨rfl,fun _ _=>rfl⟩⟩,tt ⟨rfl,(Nat.zero_le _),?_⟩⟩⟩
 intro k hinv
 have hk:=hinv
 refine tt (cd (fun hc11=>?_) (fun hc11=>?_))
 · have hz:(l.getD k []).length≤100000:=by rw[List.getD_eq_getElem?_getD,List.getElem?_eq_getElem (by omega)];exact hs _ (List.getElem_mem _)
   refine tt ⟨ix,tt ⟨(Gn (l.getD k []) om),⟨ix,⟨⟨by omega,Jc l k⟩,⟨⟨Nat.le_refl k,by omega,fun q _=>by split<;>simp_all,Nq l k⟩,⟨⟨rfl,fun i j _ _=>⟨rfl,fun q hq=>K9 l _ i j q hq⟩⟩,⟨w6,tt ⟨(k+1),rfl,(?_:(k+1)≤l.length),(?_:l.length-(k+1)<l.length-k)⟩⟩⟩⟩⟩⟩⟩⟩
   · omega
   · omega
 · exact⟨⟨by omega,fun _ _=>rfl⟩,⟨Jd l (by omega),tt ⟨rfl,rfl⟩⟩⟩
end Go.Proofs.YtckgpflobhpnpaaGreat
