/-
  Package streams: own lists of lists.
-/
import Derived.Test.YtckgpflobhpnpaaGreatQNeJ
import Derived.Test.YtckgpflobhpnpaaGreatQStD
namespace Go.Proofs.YtckgpflobhpnpaaGreat
open Go.RowKit
set_option linter.unusedVariables false
set_option linter.unusedSimpArgs false
set_option maxRecDepth 100000
abbrev ca (l:List (List Int)) (r:Nat):rH:=⟨3,1,Int,ab .i64,0,l.getD r []⟩
abbrev s4 (l:List (List Int)) (k i j:Nat):D:=if i<k then .gr 1 i else iL ae [] (List.replicate l.length []) i j
theorem GS (l:List (List Int)) (k:Nat):rQ 1 l.length k 0 [.own 2] [1,2] (fun i j=>s4 l k i j) (fun i j=>if i=k then .own 2 else s4 l k i j):=by
  intro i j hi hj
  have hj0:j=0:=by omega
  subst hj0
  refine⟨by by_cases h:i=k<;>simp[h],fun g hg=>?_⟩
  simp only[List.all_cons,Bool.and_eq_true]at hg
  show D.free g (if i=k then .own 2 else s4 l k i 0)=true
  split
  · exact hg.2.1
  · unfold s4
    split
    · exact hg.1
    · rfl
theorem KX (l:List (List Int)) (k:Nat):∀i j,i<l.length→j<1→D1 1 k 2 (if i=k then .own 2 else s4 l k i j) (s4 l (k+1) i j):=by
  intro i j hi hj
  by_cases h:i=k
  · subst h
    exact .inl ⟨if_pos rfl,if_pos (Nat.lt_succ_self i)⟩
  · refine .inr ⟨?_,?_⟩
    · rw[if_neg h];unfold s4;by_cases h2:i<k
      · rw[if_pos h2,if_pos (by omega)]
      · rw[if_neg h2,if_neg (by omega)]
    · rw[if_neg h];unfold s4;by_cases h2:i<k
      · rw[if_pos h2];exact .inl ⟨i,rfl,h⟩
      · rw[if_neg h2];exact .inr (.inl ⟨_,rfl⟩)
theorem IP (l:List (List Int)) (k i j q:Nat) (hq:[1].all (fun g=>!(Nat.beq g q))=true):(s4 l k i j).free q=true:=by
  unfold s4
  split
  · simpa[D.free]using hq
  · rfl
theorem GT (l:List (List Int)) {k:Nat} (h:l.length≤k):∀i j,i<l.length→j<1→A2 1 (s4 l k i j) (.me i):=by
  intro i j hi hj
  exact .inl ⟨i,if_pos (by omega),rfl⟩
abbrev KY (l:List (List Int)):vK:=⟨66,[(dL 1 ae [] l)],(.gr 0 0),(.nest 42 1 l.length (fun i _=>.me i) l.length (ca l))⟩
abbrev kY (l:List (List Int)):Lp (Nat):=lS [0,3,9,10] 2 (fun (k:Nat)=>⟨[(0,(dL 1 ae [] l)),(3,(.own 0)),(9,(i6 (l.length:Int))),(10,(i6 (k:Int)))],[(.arrD 42 1 l.length [1] (fun i j=>s4 l k i j)),(.grp k (ca l))]⟩) (fun (k:Nat)=>k≤l.length) (fun (k:Nat)=>l.length-k)
theorem p9 (l:List (List Int)) (hl:l.length≤100000) (hs:∀z∈l,z.length≤100000):CO (KY l):=by
 refine ai.vcO (V:=TT 3 ((((0:Int)≤(l.length:Int)∧(l.length:Int)≤(l.length:Int)∧(l.length:Int)≤137438953472)∧(List.replicate l.length ([]:List Int)).length=l.length∧∀x∈(List.replicate l.length ([]:List Int)),cS [.nils] (ae x))∧TT 3 ((l.length=(List.replicate l.length ([]:List Int)).length∧∀i j,i<l.length→j<1→s4 l 0 i j=iL ae [] (List.replicate l.length []) i j∧∀k,[1].all (fun g=>!(Nat.beq g k))=true→(s4 l 0 i j).free k=true)∧TT 3 (GO (kY l) 0 (∀k,(kY l).inv k→TT 1 (CD ((k:Int)<(l.length:Int)) (TT 6 (IX (k:Int) l.length∧TT 1 (CO (NI (l.getD k []))∧IX (k:Int) l.length∧(k<l.length∧rQ 1 l.length k 0 [(.own 2)] [1,2] (fun i j=>s4 l k i j) (fun i j=>if i=k then .own 2 else s4 l k i j))∧(k≤k∧k+1=max k (k+1)∧(∀q,q<k+1→ca l q=if q=k then ca l k else ca l q)∧∀i j,i<l.length→j<1→D1 1 k 2 (if i=k then .own 2 else s4 l k i j) (s4 l (k+1) i j))∧(l.length=l.length∧∀i j,i<l.length→j<1→s4 l (k+1) i j=s4 l (k+1) i j∧∀q,[1].all (fun g=>!(Nat.beq g q))=true→(s4 l (k+1) i j).free q=true)∧W6 ((k+1:Nat):Int)∧TT 1 (AG (kY l) k (k+1))))) ((l.length=k∧∀q,q<l.length→ca l q=ca l q)∧(∀i j,i<l.length→j<1→A2 1 (s4 l k i j) (.me i))∧TT 3 (((.gr 0 0):D)=.gr 0 0∧((.nest 42 1 l.length (fun i _=>.me i) l.length (ca l)):aq)=(.nest 42 1 l.length (fun i _=>.me i) l.length (ca l)))))))))) (.w 1 [(2,.box 42 1 ae [] (List.replicate l.length ([]:List Int)))]<|.gh 2 (M8 0)<|.gh 2 (M9 (ca l))<|.gh 2 (jE 0 l.length [1] (fun i j=>s4 l 0 i j))<|.l (kY l) 0 (fun k=>.b 11 (.w 5 [(6,(NI (l.getD k [])).O),(8,.cells [1,2] (fun i j=>if i=k then .own 2 else s4 l k i j))]<|.gh 6 (put 0 1 2 k (k+1) (fun i j=>s4 l (k+1) i j) (ca l))<|.gh 6 (jE 0 l.length [1] (fun i j=>s4 l (k+1) i j))<|.w 6 [(0,.val (i6 ((k+1:Nat):Int)))]<|.e) (.gh 7 (Ft 1 l.length (ca l))<|.gh 7 (LP 0 1 (fun i _=>.me i))<|.e))) Tryz.func66 rfl rfl rfl (by kernel_rfl) ?_
 refine tt ⟨⟨by omega,List.length_replicate,fun x hx=>by rw[List.eq_of_mem_replicate hx];exact⟨rfl,oK⟩⟩,tt ⟨⟨(List.length_replicate ..).symm,fun i j _ _=>⟨rfl,fun _ _=>rfl⟩⟩,tt ⟨rfl,(Nat.zero_le _),?_⟩⟩⟩
 intro k hinv
 have hk:=hinv
 refine tt (cd (fun hc11=>?_) (fun hc11=>?_))
 · have hz:(l.getD k []).length≤100000:=by rw[List.getD_eq_getElem?_getD,List.getElem?_eq_getElem (by omega)];exact hs _ (List.getElem_mem _)
   refine tt ⟨ix,tt ⟨(El (l.getD k []) om),⟨ix,⟨⟨by omega,GS l k⟩,⟨⟨Nat.le_refl k,by omega,fun q _=>by split<;>simp_all,KX l k⟩,⟨⟨rfl,fun i j _ _=>⟨rfl,fun q hq=>IP l _ i j q hq⟩⟩,⟨w6,tt ⟨(k+1),rfl,(?_:(k+1)≤l.length),(?_:l.length-(k+1)<l.length-k)⟩⟩⟩⟩⟩⟩⟩⟩
   · omega
   · omega
 · exact⟨⟨by omega,fun _ _=>rfl⟩,⟨GT l (by omega),tt ⟨rfl,rfl⟩⟩⟩
end Go.Proofs.YtckgpflobhpnpaaGreat
