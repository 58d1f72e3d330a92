/-
  Package streams: what a process does; traces.
-/
import Derived.Test.YtckgpflobhpnpaaGreatQSuB
import Derived.Test.YtckgpflobhpnpaaGreatQRpt
import Derived.Test.YtckgpflobhpnpaaGreatQStF
namespace Go.Proofs.YtckgpflobhpnpaaGreat
open Go.RowKit
set_option linter.unusedVariables false
set_option linter.unusedSimpArgs false
abbrev hD (c:Ci) (k:Nat):D:=(dL 16 nJ aK ((c.procs.getD k af).puts))
abbrev Jy (c:Ci) (k:Nat):D:=(.agg [(dS ((c.procs.getD k af).name)),(dS ((c.procs.getD k af).clock)),(dL 13 kr cC ((c.procs.getD k af).regs)),(dL 27 wo bi ((c.procs.getD k af).mems)),(dL 9 kt aO ((c.procs.getD k af).takes)),(hD c k)])
abbrev jY (c:Ci):List D:=[(dL 6 hU af c.procs),(dL 5 gK a6 c.chans)]
abbrev yG (c:Ci) (sv:Ns) (k:Nat):List D:=[(dB ((bZ c sv k).fires)),(LI (((bZ c sv k).s).regs)),(dL 1 ac [] (((bZ c sv k).s).mems)),(LB ((bZ c sv k).pops)),(dL 2 cO aP ((bZ c sv k).puts))]
abbrev BH (k:Nat) (cls:List ByteArray) (i:Nat) (c:Ci) (sv:Ns):List (Nat×D):=[(3,(.ptr 0 0 0 0)),(9,(.ptr 1 0 0 0)),(10,(.own 12)),(11,(.own 9)),(14,(.ptr 13 0 0 0)),(16,(i6 (k:Int))),(38,(dL 1 pM .empty cls)),(39,(i6 (cls.length:Int))),(40,(i6 (i:Int))),(51,(LB (tab (ax c sv (br c (cls.getD i .empty))) c.procs.length))),(52,(i6 (((tab (ax c sv (br c (cls.getD i .empty))) c.procs.length).length:Nat):Int))),(53,(i6 (k:Int))),(65,(.own 12)),(66,(.ptr 0 0 0 0)),(67,(dL 6 hU af c.procs)),(68,(i6 (k:Int))),(69,(.iptr (hU (c.procs.getD k af)) 0)),(70,(Jy c k)),(71,(.agg (jY c))),(72,(.agg [(dL 2 bN bI sv.procs),(dL 1 ac [] sv.chans)])),(73,(i6 (k:Int))),(74,(.agg (yG c sv k)))]
abbrev wY (c:Ci) (k m:Nat):D:=(i6 ((((c.procs.getD k af).puts).getD m aK).chan))
abbrev Jz (c:Ci) (k m:Nat):am:=(.var 117 [(wY c k m),(i6 ((((c.procs.getD k af).puts).getD m aK).w)),(i6 (((((c.procs.getD k af).puts).getD m aK).when).op)),(dS (((((c.procs.getD k af).puts).getD m aK).when).name)),(i6 ((((((c.procs.getD k af).puts).getD m aK).when).k).n)),(dS ((((((c.procs.getD k af).puts).getD m aK).when).k).p)),(i6 ((((((c.procs.getD k af).puts).getD m aK).when).w).n)),(dS ((((((c.procs.getD k af).puts).getD m aK).when).w).p)),(dL 7 (eA 2) dE (((((c.procs.getD k af).puts).getD m aK).when).args)),(i6 (((((c.procs.getD k af).puts).getD m aK).data).op)),(dS (((((c.procs.getD k af).puts).getD m aK).data).name)),(i6 ((((((c.procs.getD k af).puts).getD m aK).data).k).n)),(dS ((((((c.procs.getD k af).puts).getD m aK).data).k).p)),(i6 ((((((c.procs.getD k af).puts).getD m aK).data).w).n)),(dS ((((((c.procs.getD k af).puts).getD m aK).data).w).p)),(dL 7 (eA 2) dE (((((c.procs.getD k af).puts).getD m aK).data).args))])
abbrev BI (c:Ci) (k:Nat):am:=(.var 63 [(dS ((c.procs.getD k af).name)),(dS ((c.procs.getD k af).clock)),(dL 13 kr cC ((c.procs.getD k af).regs)),(dL 27 wo bi ((c.procs.getD k af).mems)),(dL 9 kt aO ((c.procs.getD k af).takes)),(hD c k)])
abbrev sF (c:Ci) (sv:Ns) (cls:List ByteArray) (i:Nat):am:=(.var 70 [(dL 2 bN bI ((bf c sv (br c (cls.getD i .empty))).procs)),(dL 1 ac [] ((bf c sv (br c (cls.getD i .empty))).chans))])
abbrev jq (c:Ci) (k:Nat):D:=(i6 ((((c.procs.getD k af).puts).length:Nat):Int))
abbrev qg (sv:Ns):am:=(.var 70 [(dL 2 bN bI sv.procs),(dL 1 ac [] sv.chans)])
abbrev uu (c:Ci) (vv:Uf) (k:Nat):am:=(.arr 3 1 (ae .i64) 0 (dD c (ao c vv k)))
abbrev ff:D:=(.ptr 26 0 0 0)
set_option maxRecDepth 100000
abbrev QC (c:Ci) (s:Ns) (k:Nat):Ct:=⟨76,[(.agg (jY c)),(.agg [(dL 2 bN bI s.procs),(dL 1 ac [] s.chans)]),(i6 (k:Int))],true,(.agg [(dB ((bZ c s k).fires)),(LI (((bZ c s k).s).regs)),(dL 1 ac [] (((bZ c s k).s).mems)),(LB ((bZ c s k).pops)),(dL 2 cO aP ((bZ c s k).puts))])⟩
abbrev kY (c:Ci) (s:Ns) (k:Nat):Lp (Nat×List Hd):=u2 [2,4,6,7,8,22,23,24] 5 (fun (i:Nat) (hh:List Hd)=>⟨[(2,(i6 (k:Int))),(4,(.ptr 1 0 0 0)),(6,(.ptr 2 0 0 0)),(7,(.ptr 3 0 0 0)),(8,(.own 4)),(22,(dL 9 kt aO ((c.procs.getD k af).takes))),(23,(i6 ((((c.procs.getD k af).takes).length:Nat):Int))),(24,(i6 (i:Int)))],[(.var 33 (jY c)),(.var 70 [(dL 2 bN bI s.procs),(dL 1 ac [] s.chans)]),(.var 101 [(dB false),.nils,.nils,.nils,.nils]),(BI c k),(.arr 115 2 cO aP hh)]⟩) (fun (i:Nat) (hh:List Hd)=>i≤(c.procs.getD k af).takes.length∧hh=cf (de c s k) (List.replicate (c.procs.getD k af).takes.length aP) i) (fun (i:Nat) (hh:List Hd)=>(c.procs.getD k af).takes.length-i)
theorem GF (c:Ci) (s:Ns) (k:Nat) (hc:a8 c) (hq:L6 c) (hs:fa c s) (hk:k<c.procs.length):CC (QC c s k):=by
 have hnl:=hc.nl
 have hcl:=hc.cl
 have hpk:gW (c.procs.getD k af):=hc.pr k hk
 have ht1:(c.procs.getD k af).takes.length≤100:=hpk.tl
 have ht2:(c.procs.getD k af).puts.length≤100:=hpk.pl
 obtain⟨hq1,hq2⟩:1≤(c.procs.getD k af).puts.length∧(c.procs.getD k af).puts.length≤2:=hq k hk
 have hl1:=hs.pl
 have hl2:=hs.cl
 refine ah.vc (V:=TT 6 (IX (k:Int) c.procs.length∧TT 6 ((((0:Int)≤((((c.procs.getD k af).takes).length:Nat):Int)∧((((c.procs.getD k af).takes).length:Nat):Int)≤((((c.procs.getD k af).takes).length:Nat):Int)∧((((c.procs.getD k af).takes).length:Nat):Int)≤137438953472)∧(List.replicate (c.procs.getD k af).takes.length aP).length=((c.procs.getD k af).takes).length∧∀x∈(List.replicate (c.procs.getD k af).takes.length aP),c8 [(dB false),(i6 0)] (cO x))∧TT 5 (GO (kY c s k) (0,(List.replicate (c.procs.getD k af).takes.length aP)) (∀i hh,(kY c s k).inv (i,hh)→TT 1 (CD ((i:Int)<((((c.procs.getD k af).takes).length:Nat):Int)) (TT 1 (IX (i:Int) (((c.procs.getD k af).takes).length)∧TT 8 (IX ((((c.procs.getD k af).takes).getD i aO).chan) s.chans.length∧TT 5 (CD ((((s.chans.getD (((((c.procs.getD k af).takes).getD i aO).chan).toNat) []).length:Nat):Int)>0) (TT 3 (IX 0 ((s.chans.getD (((((c.procs.getD k af).takes).getD i aO).chan).toNat) []).length)∧TT 2 (IX (i:Int) hh.length∧(i<hh.length∧(hh.map cO).set i ((cO (hh.getD i aP)).take 0++[(.bool true),(.int .i64 ((s.chans.getD (((((c.procs.getD k af).takes).getD i aO).chan).toNat) []).getD 0 0))]++(cO (hh.getD i aP)).drop (0+2))=(hh.set i (⟨true,((s.chans.getD (((((c.procs.getD k af).takes).getD i aO).chan).toNat) []).getD 0 0)⟩:Hd)).map cO)∧W6 ((i+1:Nat):Int)∧TT 1 (AG (kY c s k) (i,hh) (i+1,hh.set i (⟨true,((s.chans.getD (((((c.procs.getD k af).takes).getD i aO).chan).toNat) []).getD 0 0)⟩:Hd)))))) (W6 ((i+1:Nat):Int)∧TT 1 (AG (kY c s k) (i,hh) (i+1,hh))))))) (TT 4 (IX (k:Int) s.procs.length∧TT 2 (ap [[(dB true)]] ([true].map bk)∧TT 3 (CC (DE (((c.procs.getD k af).puts).length))∧CC (KT (c.procs.getD k af) (s.procs.getD k bI) hh (List.replicate (((c.procs.getD k af).puts).length) true))∧TT 2 (((aM (c.procs.getD k af) (s.procs.getD k bI) hh (List.replicate (((c.procs.getD k af).puts).length) true)).fires)=((bZ c s k).fires)∧(((aM (c.procs.getD k af) (s.procs.getD k bI) hh (List.replicate (((c.procs.getD k af).puts).length) true)).s).regs).map (ae .i64)=(((bZ c s k).s).regs).map (ae .i64)∧(((aM (c.procs.getD k af) (s.procs.getD k bI) hh (List.replicate (((c.procs.getD k af).puts).length) true)).s).mems).map ac=(((bZ c s k).s).mems).map ac∧((aM (c.procs.getD k af) (s.procs.getD k bI) hh (List.replicate (((c.procs.getD k af).puts).length) true)).pops).map bk=((bZ c s k).pops).map bk∧((aM (c.procs.getD k af) (s.procs.getD k bI) hh (List.replicate (((c.procs.getD k af).puts).length) true)).puts).map cO=((bZ c s k).puts).map cO∧True))))))))))) (.w 2 [(3,.box 115 2 cO aP (List.replicate (c.procs.getD k af).takes.length aP))]<|.l (kY c s k) (0,(List.replicate (c.procs.getD k af).takes.length aP)) (fun ⟨i,hh⟩=>.b 25 (.b 37 (.w 8 [(7,.box 115 2 cO aP (hh.set i (⟨true,((s.chans.getD (((((c.procs.getD k af).takes).getD i aO).chan).toNat) []).getD 0 0)⟩:Hd)))]<|.w 9 [(0,.val (i6 ((i+1:Nat):Int)))]<|.e) (.w 9 [(0,.val (i6 ((i+1:Nat):Int)))]<|.e)) (.f 10 4<|.w 10 [(7,.box 4 1 bk false [true]),(11,(DE (((c.procs.getD k af).puts).length)).O),(12,(KT (c.procs.getD k af) (s.procs.getD k bI) hh (List.replicate (((c.procs.getD k af).puts).length) true)).O)]<|.e))) Tryz.func76 rfl rfl rfl (by kernel_rfl) ?_
 refine tt ⟨ix,tt ⟨⟨by omega,List.length_replicate,fun x hx=>by rw[List.eq_of_mem_replicate hx];exact⟨rfl,rfl,oK⟩⟩,tt ⟨rfl,⟨by omega,rfl⟩,?_⟩⟩⟩
 intro i hh hinv
 obtain⟨hi,hhe⟩:=hinv
 have hhl:hh.length=(c.procs.getD k af).takes.length:=by rw[hhe,dc (by rw[List.length_replicate];omega),List.length_replicate]
 refine tt (cd (fun hc25=>?_) (fun hc25=>?_))
 · refine tt ⟨ix,?_⟩
   have htk:0≤((c.procs.getD k af).takes.getD i aO).chan∧((c.procs.getD k af).takes.getD i aO).chan<c.chans.length:=⟨(hc.tk k hk i (show i<(c.procs.getD k af).takes.length by omega)).1,(hc.tk k hk i (show i<(c.procs.getD k af).takes.length by omega)).2.1⟩
   refine tt ⟨ix,tt (cd (fun hc37=>?_) (fun hc37=>?_))⟩
   · refine tt ⟨ix,tt ⟨ix,⟨⟨om,by simp only[List.map_set];rfl⟩,⟨w6,tt ⟨(i+1,hh.set i (⟨true,((s.chans.getD (((((c.procs.getD k af).takes).getD i aO).chan).toNat) []).getD 0 0)⟩:Hd)),rfl,?_,(?_:(c.procs.getD k af).takes.length-(i+1)<(c.procs.getD k af).takes.length-i)⟩⟩⟩⟩⟩
     · exact⟨by omega,by rw[hhe];exact bM (by rw[List.length_replicate];omega) (if_pos (show 0<(s.chans.getD ((c.procs.getD k af).takes.getD i aO).chan.toNat []).length by omega))⟩
     · omega
   · refine⟨w6,tt ⟨(i+1,hh),rfl,?_,(?_:(c.procs.getD k af).takes.length-(i+1)<(c.procs.getD k af).takes.length-i)⟩⟩
     · exact⟨by omega,by rw[hhe];exact bH (d:=aP) (by rw[List.length_replicate];omega) (by rw[bS];exact if_neg (show ¬(0<(s.chans.getD ((c.procs.getD k af).takes.getD i aO).chan.toNat []).length) by omega))⟩
     · omega
 · have hhd:hh=gz c s k:=by rw[hhe,show i=(c.procs.getD k af).takes.length by omega];exact cY (by rw[List.length_replicate];exact Nat.le_refl _)
   refine tt ⟨ix,tt ⟨⟨⟨rfl,oK⟩,oK⟩,tt ⟨(tM (((c.procs.getD k af).puts).length) hq1 hq2),⟨(r9 (c.procs.getD k af) (s.procs.getD k bI) hh (List.replicate (((c.procs.getD k af).puts).length) true) hpk (hs.pv k hk) (by rw[hhd];exact sa hc hs hk) List.length_replicate),tt ⟨?_,(congrArg _ (?_:(((aM (c.procs.getD k af) (s.procs.getD k bI) hh (List.replicate (((c.procs.getD k af).puts).length) true)).s).regs)=(((bZ c s k).s).regs))),(congrArg _ (?_:(((aM (c.procs.getD k af) (s.procs.getD k bI) hh (List.replicate (((c.procs.getD k af).puts).length) true)).s).mems)=(((bZ c s k).s).mems))),(congrArg _ (?_:((aM (c.procs.getD k af) (s.procs.getD k bI) hh (List.replicate (((c.procs.getD k af).puts).length) true)).pops)=((bZ c s k).pops))),(congrArg _ (?_:((aM (c.procs.getD k af) (s.procs.getD k bI) hh (List.replicate (((c.procs.getD k af).puts).length) true)).puts)=((bZ c s k).puts))),oK⟩⟩⟩⟩⟩
   all_goals (all_goals (rw[hhd];rfl))
abbrev cG (g zi zj:Nat):D:=.gr g zi
abbrev cT (g q R zi zj:Nat):D:=if zi=R then .own q else .gr g zi
abbrev cK (g q R zi zj:Nat):D:=killD q (cT g q R zi zj)
abbrev O0 (n m g R q:Nat):Prop:=R<n∧∀zi zj,zi<m→zj<1→Ht g R q (cG g zi zj) (cT g q R zi zj)
abbrev N0 (n m g R q:Nat) (W W2:List (List Int)) (l:List Int):Prop:=R≤n∧n=max n (R+1)∧(∀z8,z8<n→cz W2 z8=if z8=R then (⟨3,1,Int,ae .i64,0,l⟩:sR)else qE (cz W) R (pN (cz W R)) z8)∧∀zi zj,zi<m→zj<1→F0 g R q (cT g q R zi zj) (cG g zi zj)
abbrev NB (n m g:Nat):Prop:=n=m∧∀zi zj,zi<n→zj<1→cG g zi zj=cG g zi zj∧∀z8,[g].all (fun g=>!(Nat.beq g z8))=true→(cG g zi zj).free z8=true
theorem z6 {g k i:Nat} (h:[g].all (fun g=>!(Nat.beq g k))=true):D.free k (.gr g i)=true:=by simpa[D.free]using h
theorem Lg {g q R i:Nat}:Ht g R q (.gr g i) (if i=R then .own q else .gr g i):=by
  by_cases h:i=R
  · exact .inl ⟨by rw[h],if_pos h⟩
  · exact .inr ⟨if_neg h,.inl ⟨i,rfl,h⟩⟩
theorem yH {R q:Nat} {d:D}:rj (if R=R then .own q else d) (.own q):=by rw[if_pos rfl];exact rfl
theorem BJ {g q R n:Nat} (h:(!(Nat.beq g q))=true):s4 1 n R 0 [.own q] [q,g] (fun i j=>killD q (if i=R then .own q else .gr g i)) (fun i j=>if i=R then .own q else .gr g i):=by
  intro i j hi hj
  have hj0:j=0:=by omega
  subst hj0
  have hk:killD q (.gr g i)=.gr g i:=by unfold killD;rw[if_pos (show D.free q (.gr g i)=true from h)]
  refine⟨by by_cases h:i=R<;>simp[h];rw[hk],fun id hid=>?_⟩
  simp only[List.all_cons,List.all_nil,Bool.and_true,Bool.and_eq_true]at hid
  show D.free id (if i=R then .own q else .gr g i)=true
  split
  · exact hid.1
  · exact hid.2
theorem NC {g q R i:Nat}:F0 g R q (if i=R then .own q else .gr g i) (.gr g i):=by
  by_cases h:i=R
  · exact .inl ⟨if_pos h,by rw[h]⟩
  · exact .inr ⟨(if_neg h).symm,.inl ⟨i,if_neg h,h⟩⟩
theorem Lh {n m g R q:Nat} (h:R<n):O0 n m g R q:=⟨h,fun i j _ _=>Lg⟩
theorem GG {n m g:Nat} (h:n=m):NB n m g:=⟨h,fun i j _ _=>⟨rfl,fun k hk=>z6 hk⟩⟩
theorem ND {W W2:List (List Int)} {R k:Nat} {l:List Int} (h:W2.getD k []=if k=R then l else W.getD k []):cz W2 k=if k=R then (⟨3,1,Int,ae .i64,0,l⟩:sR)else qE (cz W) R (pN (cz W R)) k:=by
  by_cases e:k=R
  · rw[if_pos e]at h ⊢
    show(⟨_,_,_,_,_,W2.getD k []⟩:sR)=_
    rw[h]
  · rw[if_neg e]at h ⊢
    unfold qE
    rw[if_neg e]
    show(⟨_,_,_,_,_,W2.getD k []⟩:sR)=⟨_,_,_,_,_,W.getD k []⟩
    rw[h]
theorem pA {n R g q nn:Nat} {W W2:List (List Int)} {l:List Int} (hR:R<n) (h:∀k,k<n→W2.getD k []=if k=R then l else W.getD k []):R≤n∧n=max n (R+1)∧(∀k,k<n→cz W2 k=if k=R then (⟨3,1,Int,ae .i64,0,l⟩:sR)else qE (cz W) R (pN (cz W R)) k)∧∀i j,i<nn→j<1→F0 g R q (if i=R then .own q else .gr g i) (.gr g i) :=
  ⟨Nat.le_of_lt hR,by omega,fun k hk=>ND (h k hk),fun i j _ _=>NC⟩
theorem vw {k R:Nat} {W:List (List Int)}:W.getD k []=if k=R then W.getD R []else W.getD k []:=by
  split
  · rename_i h;rw[h]
  · rfl
theorem JA {k R n:Nat} {W:List (List Int)} {l:List Int} (hk:k<n) (hn:W.length=n) (hR:R<n):(W.set R l).getD k []=if k=R then l else W.getD k []:=by
  rw[cu (by omega)]
  by_cases h:R=k
  · rw[if_pos h,if_pos h.symm]
  · rw[if_neg h,if_neg (fun e=>h e.symm)]
theorem JB {l:List (List Int)} {n g:Nat}:∀i j,i<n→j<1→eZ g (.gs (fun zr=>.sl (cz l zr).sz (cz l zr).enc (cz l zr).d (cz l zr).l)) (.gr g i)=kF ac [] l i j:=by
  intro i j hi hj
  have hj0:j=0:=by omega
  subst hj0
  unfold eZ
  rw[if_pos (Nat.beq_refl g)]
  rfl
abbrev QE (c:Ci) (inp:List (List Int)) (cls:List ByteArray):Ct:=⟨46,[(.agg (jY c)),(dL 1 ac [] inp),(dL 1 pM .empty cls)],true,(.tup [(dL 1 ac [] ((ik c inp cls).1)),(LI ((ik c inp cls).2.1)),(i6 ((ik c inp cls).2.2))])⟩
abbrev pB (c:Ci) (inp:List (List Int)) (cls:List ByteArray):Lp (Nat×Ns×Uf):=MB [3,9,10,11,38,39,40] 13 (fun (i:Nat) (sv:Ns) (uv:Uf)=>⟨[(3,(.ptr 0 0 0 0)),(9,(.ptr 1 0 0 0)),(10,(.own 12)),(11,(.own 9)),(38,(dL 1 pM .empty cls)),(39,(i6 (cls.length:Int))),(40,(i6 (i:Int)))],[(.var 33 (jY c)),(qg sv),.dead,.dead,.dead,(.grp c.chans.length (cz (ca c uv))),.dead,.dead,.dead,(.arr 3 1 (ae .i64) 0 (dD c uv)),.dead,.dead,(.arrD 42 1 c.chans.length [5] (cG 5))]⟩) (fun (i:Nat) (sv:Ns) (uv:Uf)=>i≤cls.length∧sv=J0 c inp cls i∧uv=Jr c inp cls i) (fun (i:Nat) (sv:Ns) (uv:Uf)=>cls.length-i)
abbrev kZ (c:Ci) (cls:List ByteArray) (i:Nat) (sv:Ns) (uv:Uf):Lp (Nat×Uf):=u2 [3,9,10,11,14,38,39,40,51,52,53] 14 (fun (k:Nat) (vv:Uf)=>⟨[(3,(.ptr 0 0 0 0)),(9,(.ptr 1 0 0 0)),(10,(.own 12)),(11,(.own 9)),(14,(.ptr 13 0 0 0)),(38,(dL 1 pM .empty cls)),(39,(i6 (cls.length:Int))),(40,(i6 (i:Int))),(51,(LB (tab (ax c sv (br c (cls.getD i .empty))) c.procs.length))),(52,(i6 (((tab (ax c sv (br c (cls.getD i .empty))) c.procs.length).length:Nat):Int))),(53,(i6 (k:Int)))],[(.var 33 (jY c)),(qg sv),.dead,.dead,.dead,(.grp c.chans.length (cz (ca c vv))),.dead,.dead,.dead,(.arr 3 1 (ae .i64) 0 (dD c vv)),.dead,.dead,(.arrD 42 1 c.chans.length [5] (cG 5)),(sF c sv cls i)]⟩) (fun (k:Nat) (vv:Uf)=>k≤c.procs.length∧vv=GT c sv uv (br c (cls.getD i .empty)) k) (fun (k:Nat) (vv:Uf)=>c.procs.length-k)
abbrev GH (c:Ci) (cls:List ByteArray) (i:Nat) (sv:Ns) (k:Nat) (vv:Uf):List am:=[(.var 33 (jY c)),(qg sv),.dead,.dead,.dead,(.grp c.chans.length (cz (ca c vv))),.dead,.dead,.dead,(uu c vv k),.dead,.dead,(.arrD 42 1 c.chans.length [5] (cG 5)),(sF c sv cls i),.dead,.dead,.dead,.dead,.dead,.dead,.dead,.dead,.dead,.dead]
abbrev ld (c:Ci) (cls:List ByteArray) (i:Nat) (sv:Ns) (k:Nat):List (Nat×D):=(BH k cls i c sv)
abbrev tN (c:Ci) (cls:List ByteArray) (i:Nat) (sv:Ns) (k:Nat) (vv:Uf):List am:=[(.var 33 (jY c)),(qg sv),.dead,.dead,.dead,(.grp c.chans.length (cz (ca c (ao c vv k)))),.dead,.dead,.dead,(uu c vv k),.dead,.dead,(.arrD 42 1 c.chans.length [5] (cG 5)),(sF c sv cls i),.dead,.dead,.dead,.dead,.dead,.dead,.dead,.dead,.dead,.dead]
abbrev lf (c:Ci) (cls:List ByteArray) (i:Nat) (sv:Ns) (k:Nat) (vv:Uf) (tm0:Array Value):Lp (Nat×List (List Int)):=u2 [0,5,9,10,11] 27 (fun (m:Nat) (em:List (List Int))=>⟨[(0,(.own 12)),(5,ff),(9,(hD c k)),(10,(jq c k)),(11,(i6 (m:Int)))],[(.var 33 (jY c)),(qg sv),.dead,.dead,.dead,(.grp c.chans.length (cz em)),.dead,.dead,.dead,(uu c vv k),.dead,.dead,(.arrD 42 1 c.chans.length [5] (cG 5)),(sF c sv cls i),.dead,.dead,.dead,.dead,.dead,.dead,.dead,.dead,.dead,.dead,(.frame tm0 (BH k cls i c sv)),(BI c k),(.var 101 (yG c sv k))]⟩) (fun (m:Nat) (em:List (List Int))=>m≤(c.procs.getD k af).puts.length∧em=bq (ca c vv) (mO (c.procs.getD k af) (bZ c sv k) m)) (fun (m:Nat) (em:List (List Int))=>(c.procs.getD k af).puts.length-m)
abbrev ft (c:Ci) (cls:List ByteArray) (i:Nat) (sv:Ns) (k:Nat) (vv:Uf) (tm0:Array Value) (m:Nat) (em:List (List Int)):List am:=[(.var 33 (jY c)),(qg sv),.dead,.dead,.dead,(.grp c.chans.length (qE (cz em) (((c.procs.getD k af).puts.getD m aK).chan.toNat) (pN (cz em (((c.procs.getD k af).puts.getD m aK).chan.toNat))))),.dead,.dead,.dead,(uu c vv k),.dead,.dead,(.arrD 42 1 c.chans.length [28,5] (cT 5 28 (((c.procs.getD k af).puts.getD m aK).chan.toNat))),(sF c sv cls i),.dead,.dead,.dead,.dead,.dead,.dead,.dead,.dead,.dead,.dead,(.frame tm0 (BH k cls i c sv)),(BI c k),(.var 101 (yG c sv k)),(Jz c k m),(.arr 3 1 (ae .i64) 0 (em.getD (((c.procs.getD k af).puts.getD m aK).chan.toNat) [])),.dead,.dead,.dead,.dead,.dead,.dead,.dead,.dead,.dead,.dead,.dead,.dead,.dead,.dead,.dead]
def hE (c:Ci) (cls:List ByteArray) (i:Nat) (sv:Ns) (k:Nat) (vv:Uf) (tm0:Array Value) (m:Nat) (em:List (List Int)):St:=⟨[(0,(.own 12)),(5,ff),(9,(hD c k)),(10,(jq c k)),(11,(i6 (m:Int))),(22,(.own 12)),(24,(wY c k m)),(29,(.own 28)),(36,(LI [(((bZ c sv k)).puts.getD m aP).v]))],ft c cls i sv k vv tm0 m em⟩
def jZ (c:Ci) (cls:List ByteArray) (i:Nat) (sv:Ns) (k:Nat) (vv:Uf) (tm0:Array Value) (m:Nat) (em:List (List Int)):St:=⟨[(0,(.own 12)),(5,ff),(9,(hD c k)),(10,(jq c k)),(11,(i6 (m:Int))),(24,(wY c k m)),(29,(.own 28)),(36,(LI [(((bZ c sv k)).puts.getD m aP).v]))],ft c cls i sv k vv tm0 m em⟩
def hJ (c:Ci) (cls:List ByteArray) (i:Nat) (sv:Ns) (k:Nat) (vv:Uf) (tm0:Array Value) (m:Nat) (em:List (List Int)):St:=⟨[(0,(.own 12)),(5,ff),(9,(hD c k)),(10,(jq c k)),(11,(i6 (m:Int))),(22,(.own 12)),(23,(.ptr 27 0 0 0)),(29,(.own 28)),(36,(LI [(((bZ c sv k)).puts.getD m aP).v]))],ft c cls i sv k vv tm0 m em⟩
def j5 (c:Ci) (cls:List ByteArray) (i:Nat) (sv:Ns) (k:Nat) (vv:Uf) (tm0:Array Value) (m:Nat) (em:List (List Int)):St:=⟨[(0,(.own 12)),(5,ff),(9,(hD c k)),(10,(jq c k)),(11,(i6 (m:Int))),(23,(.ptr 27 0 0 0)),(29,(.own 28)),(36,(LI [(((bZ c sv k)).puts.getD m aP).v]))],ft c cls i sv k vv tm0 m em⟩
def j6 (c:Ci) (cls:List ByteArray) (i:Nat) (sv:Ns) (k:Nat) (vv:Uf) (tm0:Array Value) (m:Nat) (em:List (List Int)):St:=⟨[(0,(.own 12)),(5,ff),(7,(.ptr 27 0 0 0)),(9,(hD c k)),(10,(jq c k)),(11,(i6 (m:Int))),(22,(.own 12)),(29,(.own 28)),(36,(LI [(((bZ c sv k)).puts.getD m aP).v]))],ft c cls i sv k vv tm0 m em⟩
def oh (c:Ci) (cls:List ByteArray) (i:Nat) (sv:Ns) (k:Nat) (vv:Uf) (tm0:Array Value) (m:Nat) (em:List (List Int)):St:=⟨[(0,(.own 12)),(5,ff),(7,(.ptr 27 0 0 0)),(9,(hD c k)),(10,(jq c k)),(11,(i6 (m:Int))),(29,(.own 28)),(36,(LI [(((bZ c sv k)).puts.getD m aP).v]))],ft c cls i sv k vv tm0 m em⟩
abbrev ey (c:Ci) (cls:List ByteArray) (i:Nat) (sv:Ns) (k:Nat) (vv:Uf) (tm0:Array Value) (m:Nat) (em:List (List Int)):List am:=[(.var 33 (jY c)),(qg sv),.dead,.dead,.dead,(.grp c.chans.length (qE (cz em) (((c.procs.getD k af).puts.getD m aK).chan.toNat) (pN (cz em (((c.procs.getD k af).puts.getD m aK).chan.toNat))))),.dead,.dead,.dead,(uu c vv k),.dead,.dead,(.arrD 42 1 c.chans.length [5] (cK 5 28 (((c.procs.getD k af).puts.getD m aK).chan.toNat))),(sF c sv cls i),.dead,.dead,.dead,.dead,.dead,.dead,.dead,.dead,.dead,.dead,(.frame tm0 (BH k cls i c sv)),(BI c k),(.var 101 (yG c sv k)),(Jz c k m),(.arr 3 1 (ae .i64) 0 ((em.getD (((c.procs.getD k af).puts.getD m aK).chan.toNat) [])++[(((bZ c sv k)).puts.getD m aP).v])),.dead,.dead,.dead,.dead,.dead,.dead,.dead,.dead,.dead,.dead,.dead,.dead,.dead,.dead,.dead]
def j7 (c:Ci) (cls:List ByteArray) (i:Nat) (sv:Ns) (k:Nat) (vv:Uf) (tm0:Array Value) (m:Nat) (em:List (List Int)):St:=⟨[(0,(.own 12)),(5,ff),(9,(hD c k)),(10,(jq c k)),(11,(i6 (m:Int))),(22,(.own 12)),(24,(wY c k m)),(37,(.own 28))],ey c cls i sv k vv tm0 m em⟩
def oi (c:Ci) (cls:List ByteArray) (i:Nat) (sv:Ns) (k:Nat) (vv:Uf) (tm0:Array Value) (m:Nat) (em:List (List Int)):St:=⟨[(0,(.own 12)),(5,ff),(9,(hD c k)),(10,(jq c k)),(11,(i6 (m:Int))),(24,(wY c k m)),(37,(.own 28))],ey c cls i sv k vv tm0 m em⟩
def j8 (c:Ci) (cls:List ByteArray) (i:Nat) (sv:Ns) (k:Nat) (vv:Uf) (tm0:Array Value) (m:Nat) (em:List (List Int)):St:=⟨[(0,(.own 12)),(5,ff),(9,(hD c k)),(10,(jq c k)),(11,(i6 (m:Int))),(22,(.own 12)),(23,(.ptr 27 0 0 0)),(37,(.own 28))],ey c cls i sv k vv tm0 m em⟩
def ol (c:Ci) (cls:List ByteArray) (i:Nat) (sv:Ns) (k:Nat) (vv:Uf) (tm0:Array Value) (m:Nat) (em:List (List Int)):St:=⟨[(0,(.own 12)),(5,ff),(9,(hD c k)),(10,(jq c k)),(11,(i6 (m:Int))),(23,(.ptr 27 0 0 0)),(37,(.own 28))],ey c cls i sv k vv tm0 m em⟩
def mi (c:Ci) (cls:List ByteArray) (i:Nat) (sv:Ns) (k:Nat) (vv:Uf) (tm0:Array Value) (m:Nat) (em:List (List Int)):St:=⟨[(0,(.own 12)),(5,ff),(7,(.ptr 27 0 0 0)),(9,(hD c k)),(10,(jq c k)),(11,(i6 (m:Int))),(22,(.own 12)),(37,(.own 28))],ey c cls i sv k vv tm0 m em⟩
def sG (c:Ci) (cls:List ByteArray) (i:Nat) (sv:Ns) (k:Nat) (vv:Uf) (tm0:Array Value) (m:Nat) (em:List (List Int)):St:=⟨[(0,(.own 12)),(5,ff),(7,(.ptr 27 0 0 0)),(9,(hD c k)),(10,(jq c k)),(11,(i6 (m:Int))),(37,(.own 28))],ey c cls i sv k vv tm0 m em⟩
def sH (c:Ci) (cls:List ByteArray) (i:Nat) (sv:Ns) (k:Nat) (vv:Uf) (tm0:Array Value) (m:Nat) (em:List (List Int)):St:=⟨[(0,(.own 12)),(5,ff),(9,(hD c k)),(10,(jq c k)),(11,(i6 (m:Int))),(37,(.own 28)),(38,(.ptr 12 (((((c.procs.getD k af).puts).getD m aK).chan).toNat) 1 0))],ey c cls i sv k vv tm0 m em⟩
abbrev BK (c:Ci) (cls:List ByteArray) (i:Nat) (sv:Ns) (k:Nat) (vv:Uf) (tm0:Array Value) (m:Nat) (em:List (List Int)):List am:=[(.var 33 (jY c)),(qg sv),.dead,.dead,.dead,(.grp c.chans.length (qE (cz em) (((c.procs.getD k af).puts.getD m aK).chan.toNat) (pN (cz em (((c.procs.getD k af).puts.getD m aK).chan.toNat))))),.dead,.dead,.dead,(uu c vv k),.dead,.dead,(.arrD 42 1 c.chans.length [28,5] (cT 5 28 (((c.procs.getD k af).puts.getD m aK).chan.toNat))),(sF c sv cls i),.dead,.dead,.dead,.dead,.dead,.dead,.dead,.dead,.dead,.dead,(.frame tm0 (BH k cls i c sv)),(BI c k),(.var 101 (yG c sv k)),(Jz c k m),(.arr 3 1 (ae .i64) 0 ((em.getD (((c.procs.getD k af).puts.getD m aK).chan.toNat) [])++[(((bZ c sv k)).puts.getD m aP).v])),.dead,.dead,.dead,.dead,.dead,.dead,.dead,.dead,.dead,.dead,.dead,.dead,.dead,.dead,.dead]
def sI (c:Ci) (cls:List ByteArray) (i:Nat) (sv:Ns) (k:Nat) (vv:Uf) (tm0:Array Value) (m:Nat) (em:List (List Int)):St:=⟨[(0,(.own 12)),(5,ff),(9,(hD c k)),(10,(jq c k)),(11,(i6 (m:Int)))],BK c cls i sv k vv tm0 m em⟩
theorem GI (c:Ci) (inp:List (List Int)) (cls:List ByteArray) (hc:a8 c) (hq:L6 c) (hl:inp.length≤100000) (hs:∀z∈inp,z.length≤100000) (hcl:cls.length≤9223372036854775807):CC (QE c inp cls):=by
 have hnl:=hc.nl
 have hcl:=hc.cl
 have hsz:∀i,(inp.getD i []).length≤9223372036854775807:=fun i=>by
   by_cases h:i<inp.length
   · have:=hs _ (kL (d:=[]) h);omega
   · rw[List.getD_eq_getElem?_getD,List.getElem?_eq_none (by omega)];simp
 refine ah.vc (V:=TT 4 (CS ((ew c inp)=true) (TT 2 (CC (Jp c inp)∧TT 1 ((True∧(!(ew c inp))=false)∧TT 4 (CD ((cls.length:Int)>100) (TT 6 (((ik c inp cls).1)=[]∧((ik c inp cls).2.1)=[]∧(1:Int)=((ik c inp cls).2.2)∧True)) (TT 1 (CC (OM c)∧TT 3 (CO (Nr inp)∧TT 3 ((inp.length=inp.length∧(∀x∈inp,(ac x).length=1)∧∀zi zj,zi<inp.length→zj<1→(fun (zi zj:Nat)=>eZ 2 (.gs (fun zr=>.sl ((cz inp) zr).sz ((cz inp) zr).enc ((cz inp) zr).d ((cz inp) zr).l)) ((fun (zi zj:Nat)=>JX 2 ((fun i _=>.me i) zi zj)) zi zj)) zi zj=kF ac [] inp zi zj)∧TT 1 (CO (Nr inp)∧TT 3 ((((0:Int)≤(c.procs.length:Int)∧(c.procs.length:Int)≤(c.procs.length:Int)∧(c.procs.length:Int)≤137438953472)∧(dD c (u0 c inp)).length=c.procs.length∧∀x∈(dD c (u0 c inp)),c8 [(i6 0)] ((ae .i64) x))∧TT 3 ((c.chans.length=inp.length∧∀zi zj,zi<c.chans.length→zj<1→(cG 5) zi zj=(fun (zi zj:Nat)=>JX 5 ((fun i _=>.me i) zi zj)) zi zj∧∀z8,[5].all (fun g=>!(Nat.beq g z8))=true→((cG 5) zi zj).free z8=true)∧(c.chans.length=inp.length∧∀z8,z8<c.chans.length→cz (ca c (u0 c inp)) z8=(cz inp) z8)∧TT 3 (GO (pB c inp cls) (0,dg c inp,u0 c inp) (∀i sv uv,(pB c inp cls).inv (i,sv,uv)→TT 1 (CD ((i:Int)<(cls.length:Int)) (IX (i:Int) cls.length∧TT 5 (CC (Qs c sv (cls.getD i .empty))∧TT 9 (GO (kZ c cls i sv uv) (0,uv) (∀k vv,(kZ c cls i sv uv).inv (k,vv)→TT 1 (CD ((k:Int)<(((tab (ax c sv (br c (cls.getD i .empty))) c.procs.length).length:Nat):Int)) (TT 1 (IX (k:Int) ((tab (ax c sv (br c (cls.getD i .empty))) c.procs.length).length)∧TT 4 (CB (((tab (ax c sv (br c (cls.getD i .empty))) c.procs.length).getD k false)) (TT 2 (IX (k:Int) ((dD c vv).length)∧(k<(dD c vv).length∧True)∧W6 (((dD c vv).getD k 0)+1)∧IX (k:Int) ((dD c vv).length)∧(k<(dD c vv).length∧((dD c vv).map (ae .i64)).set k (((ae .i64) ((dD c vv).getD k 0)).take 0++[(.int .i64 (((dD c vv).getD k 0)+1))]++((ae .i64) ((dD c vv).getD k 0)).drop (0+1))=(dD c (ao c vv k)).map (ae .i64))∧TT 4 (IX (k:Int) c.procs.length∧TT 4 (CC (QC c sv k)∧lH Tryz.prog 75 [(.own 12),(Jy c k),(.agg (yG c sv k))] (GH c cls i sv k vv) (ld c cls i sv k) (tN c cls i sv k vv) [] (.tup [])∧W6 ((k+1:Nat):Int)∧TT 1 (AG (kZ c cls i sv uv) (k,vv) (k+1,ao c vv k)))))) (W6 ((k+1:Nat):Int)∧TT 1 (AG (kZ c cls i sv uv) (k,vv) (k+1,vv)))))) (TT 2 (W6 ((i+1:Nat):Int)∧TT 1 (AG (pB c inp cls) (i,sv,uv) (i+1,bf c sv (br c (cls.getD i .empty)),vv))))))))) (((ca c uv).length=c.chans.length∧(∀x∈(ca c uv),(ac x).length=1)∧∀zi zj,zi<c.chans.length→zj<1→(fun (zi zj:Nat)=>eZ 5 (.gs (fun zr=>.sl ((cz (ca c uv)) zr).sz ((cz (ca c uv)) zr).enc ((cz (ca c uv)) zr).d ((cz (ca c uv)) zr).l)) ((cG 5) zi zj)) zi zj=kF ac [] (ca c uv) zi zj)∧TT 8 ((ca c uv).map ac=((ik c inp cls).1).map ac∧(dD c uv).map (ae .i64)=((ik c inp cls).2.1).map (ae .i64)∧(0:Int)=((ik c inp cls).2.2)∧True)))))))))))))))) (TT 2 (CC (Jp c inp)∧TT 1 ((True∧(!(ew c inp))=true)∧TT 10 (((ik c inp cls).1)=[]∧((ik c inp cls).2.1)=[]∧(1:Int)=((ik c inp cls).2.2)∧True)))))) (.s 1 ((ew c inp)=true) (.w 1 [(2,(Jp c inp).O),(4,.val (dB false))]<|.b 26 (.e) (.w 3 [(1,(OM c).O)]<|.w 4 [(1,(Nr inp).O)]<|.gh 5 (Hz 2)<|.f 5 2<|.gh 5 (PA 3 ac [] inp)<|.f 5 3<|.w 5 [(1,(Nr inp).O),(5,.box 3 1 (ae .i64) 0 (dD c (u0 c inp)))]<|.gh 6 (Hz 5)<|.gh 6 (kd 12 c.chans.length [5] (cG 5))<|.gh 6 (Hs 5 c.chans.length (cz (ca c (u0 c inp))))<|.l (pB c inp cls) (0,dg c inp,u0 c inp) (fun ⟨i,sv,uv⟩=>.b 41 (.w 9 [(3,(Qs c sv (cls.getD i .empty)).O)]<|.l (kZ c cls i sv uv) (0,uv) (fun ⟨k,vv⟩=>.b 54 (.b 58 (.w 14 [(4,.val (i6 (((dD c vv).getD k 0)+1))),(6,.box 3 1 (ae .i64) 0 (dD c (ao c vv k)))]<|.q 15 [3,9,10,11,14,16,38,39,40,51,52,53] 14<|.w 15 [(9,(QC c sv k).O),(10,.inl (.tup []) (ld c cls i sv k) ((tN c cls i sv k vv)++.dead::[]))]<|.w 16 [(0,.val (i6 ((k+1:Nat):Int)))]<|.e) (.w 16 [(0,.val (i6 ((k+1:Nat):Int)))]<|.e)) (.w 18 [(0,.val (i6 ((i+1:Nat):Int)))]<|.e))) (.f 19 5<|.gh 19 (PA 12 ac [] (ca c uv))<|.f 19 12<|.e)))) (.w 1 [(2,(Jp c inp).O),(4,.val (dB true))]<|.e)) Tryz.func46 rfl rfl rfl (by kernel_rfl) ?_
 refine tt ⟨fun hs0=>?_,fun hs0=>?_⟩
 · refine tt ⟨(kX c inp hc (by omega) hsz),tt ⟨(mF hs0),tt (cd (fun hc26=>?_) (fun hc26=>?_))⟩⟩
   · refine tt ⟨?_,?_,?_,oK⟩
     all_goals (all_goals (first | (rw[vo (by rintro⟨q1,q2⟩;first | omega | (simp_all;done))];done) | (rw[og (en.2 hin) (by omega),← vu (show cls.length≤i by omega),← huv])))
   · have hin:jI c inp:=en.1 (by first | assumption | simpa using hs0)
     have hcs0:dD c (u0 c inp)=List.replicate c.procs.length (0:Int):=Jw
     have hws0:ca c (u0 c inp)=inp:=Jv 0 hin.l
     refine tt ⟨(yv c hc),tt ⟨(qY inp hl hs),tt ⟨⟨rfl,fun _ _=>rfl,JB⟩,tt ⟨(qY inp hl hs),tt ⟨⟨by omega,by rw[hcs0,List.length_replicate],fun x hx=>by rw[hcs0]at hx;rw[List.eq_of_mem_replicate hx];exact⟨rfl,oK⟩⟩,tt ⟨⟨hin.l.symm,fun i j _ _=>⟨rfl,fun k hk=>z6 hk⟩⟩,⟨⟨hin.l.symm,fun k _=>by rw[hws0]⟩,tt ⟨rfl,⟨by omega,rfl,rfl⟩,?_⟩⟩⟩⟩⟩⟩⟩⟩
     intro i sv uv hinv
     obtain⟨hi,hsv,huv⟩:=hinv
     obtain⟨hal,hnu,hns,hcn⟩:=Ju (cls:=cls) (i:=i) hc hin
     have hsm:=OY (cls:=cls) (i:=i) hc hin (by omega)
     have hln:=DF (cls:=cls) (i:=i) hc hin (by omega)
     rw[← hsv]at hns hnu hsm
     rw[← huv]at hnu hln hcn
     have hl1:=hns.pl
     have hl2:=hns.cl
     refine tt (cd (fun hc41=>?_) (fun hc41=>?_))
     · refine⟨ix,tt ⟨(IP c sv (cls.getD i .empty) hc hns (fun n=>Nat.le_trans (hsm n) (by decide))),tt ⟨rfl,⟨by omega,rfl⟩,?_⟩⟩⟩
       intro k vv hinv
       obtain⟨hk0,hvv⟩:=hinv
       have hvl:=Ld (w:=(br c (cls.getD i .empty))) (k:=k) hc hns hnu (by omega)
       have hvc:=Lf (c:=c) (s:=sv) (u:=uv) (w:=(br c (cls.getD i .empty))) (k:=k)
       rw[← hvv]at hvl hvc
       have hvcl:(dD c vv).length=c.procs.length:=aq _ _
       have htl:(tab (ax c sv (br c (cls.getD i .empty))) c.procs.length).length=c.procs.length:=aq _ _
       refine tt (cd (fun hc54=>?_) (fun hc54=>?_))
       · refine tt ⟨ix,tt ⟨fun hc58=>?_,fun hc58=>?_⟩⟩
         · have hf:ax c sv (br c (cls.getD i .empty)) k=true:=by rw[← hc58];exact(aC (show k<c.procs.length by omega)).symm
           have hst:ge c vv k=bZ c sv k:=by rw[hvv];exact NA hc hns hnu (by omega) hf
           have hcg:(dD c vv).getD k 0=(vv.cnt k:Int):=z5 (by omega)
           have hvck:=hvc k
           have hcnk:=hcn k
           refine tt ⟨ix,⟨⟨om,oK⟩,⟨w6,⟨ix,⟨⟨by rw[aq];omega,by rw[← Ji (show k<c.procs.length by omega),hcg,List.map_set];rfl⟩,tt ⟨ix,tt ⟨(GF c sv k hc hq hns (by omega)),⟨?_,?_⟩⟩⟩⟩⟩⟩⟩⟩
           · intro tm0
             refine dn.vc (V:=TT 6 (GO (lf c cls i sv k vv tm0) (0,ca c vv) (∀m em,(lf c cls i sv k vv tm0).inv (m,em)→TT 1 (CD ((m:Int)<((((c.procs.getD k af).puts).length:Nat):Int)) (TT 1 (IX (m:Int) (((c.procs.getD k af).puts).length)∧TT 7 (IX (m:Int) (((bZ c sv k).puts).length)∧TT 2 (CB ((((bZ c sv k).puts).getD m aP).has) (O0 c.chans.length c.chans.length 5 (((c.procs.getD k af).puts.getD m aK).chan.toNat) 28∧TT 6 (IX ((((c.procs.getD k af).puts).getD m aK).chan) c.chans.length∧((((((c.procs.getD k af).puts).getD m aK).chan).toNat<c.chans.length∧True)∧rj ((cT 5 28 (((c.procs.getD k af).puts.getD m aK).chan.toNat)) (((((c.procs.getD k af).puts).getD m aK).chan).toNat) 0) (.own 28))∧TT 3 (IX (m:Int) (((bZ c sv k).puts).length)∧TT 2 (ap [[(i6 ((((bZ c sv k).puts).getD m aP).v))]] ([(((bZ c sv k)).puts.getD m aP).v].map (ae .i64))∧((hE c cls i sv k vv tm0 m em)=(hE c cls i sv k vv tm0 m em)∧(jZ c cls i sv k vv tm0 m em)=(jZ c cls i sv k vv tm0 m em)∧(hJ c cls i sv k vv tm0 m em)=(hJ c cls i sv k vv tm0 m em)∧(j5 c cls i sv k vv tm0 m em)=(j5 c cls i sv k vv tm0 m em)∧(j6 c cls i sv k vv tm0 m em)=(j6 c cls i sv k vv tm0 m em)∧(oh c cls i sv k vv tm0 m em)=(oh c cls i sv k vv tm0 m em)∧True)∧(((sE (j7 c cls i sv k vv tm0 m em) ((em.getD (((c.procs.getD k af).puts.getD m aK).chan.toNat) []).length+([(((bZ c sv k)).puts.getD m aP).v].map (ae .i64)).length≤137438953472∧(em.getD (((c.procs.getD k af).puts.getD m aK).chan.toNat) []).map (ae .i64)++[(((bZ c sv k)).puts.getD m aP).v].map (ae .i64)=((em.getD (((c.procs.getD k af).puts.getD m aK).chan.toNat) [])++[(((bZ c sv k)).puts.getD m aP).v]).map (ae .i64)))∧True)∧((sE (hE c cls i sv k vv tm0 m em) (True))∧(sE (oi c cls i sv k vv tm0 m em) ((em.getD (((c.procs.getD k af).puts.getD m aK).chan.toNat) []).length+([(((bZ c sv k)).puts.getD m aP).v].map (ae .i64)).length≤137438953472∧(em.getD (((c.procs.getD k af).puts.getD m aK).chan.toNat) []).map (ae .i64)++[(((bZ c sv k)).puts.getD m aP).v].map (ae .i64)=((em.getD (((c.procs.getD k af).puts.getD m aK).chan.toNat) [])++[(((bZ c sv k)).puts.getD m aP).v]).map (ae .i64)))∧True)∧((sE (hE c cls i sv k vv tm0 m em) (True))∧(sE (j8 c cls i sv k vv tm0 m em) ((em.getD (((c.procs.getD k af).puts.getD m aK).chan.toNat) []).length+([(((bZ c sv k)).puts.getD m aP).v].map (ae .i64)).length≤137438953472∧(em.getD (((c.procs.getD k af).puts.getD m aK).chan.toNat) []).map (ae .i64)++[(((bZ c sv k)).puts.getD m aP).v].map (ae .i64)=((em.getD (((c.procs.getD k af).puts.getD m aK).chan.toNat) [])++[(((bZ c sv k)).puts.getD m aP).v]).map (ae .i64)))∧True)∧((sE (hJ c cls i sv k vv tm0 m em) (True))∧(sE (jZ c cls i sv k vv tm0 m em) (True))∧(sE (ol c cls i sv k vv tm0 m em) ((em.getD (((c.procs.getD k af).puts.getD m aK).chan.toNat) []).length+([(((bZ c sv k)).puts.getD m aP).v].map (ae .i64)).length≤137438953472∧(em.getD (((c.procs.getD k af).puts.getD m aK).chan.toNat) []).map (ae .i64)++[(((bZ c sv k)).puts.getD m aP).v].map (ae .i64)=((em.getD (((c.procs.getD k af).puts.getD m aK).chan.toNat) [])++[(((bZ c sv k)).puts.getD m aP).v]).map (ae .i64)))∧True)∧((sE (hJ c cls i sv k vv tm0 m em) (True))∧(sE (mi c cls i sv k vv tm0 m em) ((em.getD (((c.procs.getD k af).puts.getD m aK).chan.toNat) []).length+([(((bZ c sv k)).puts.getD m aP).v].map (ae .i64)).length≤137438953472∧(em.getD (((c.procs.getD k af).puts.getD m aK).chan.toNat) []).map (ae .i64)++[(((bZ c sv k)).puts.getD m aP).v].map (ae .i64)=((em.getD (((c.procs.getD k af).puts.getD m aK).chan.toNat) [])++[(((bZ c sv k)).puts.getD m aP).v]).map (ae .i64)))∧True)∧((sE (j6 c cls i sv k vv tm0 m em) (True))∧(sE (j5 c cls i sv k vv tm0 m em) (True))∧(sE (sG c cls i sv k vv tm0 m em) ((em.getD (((c.procs.getD k af).puts.getD m aK).chan.toNat) []).length+([(((bZ c sv k)).puts.getD m aP).v].map (ae .i64)).length≤137438953472∧(em.getD (((c.procs.getD k af).puts.getD m aK).chan.toNat) []).map (ae .i64)++[(((bZ c sv k)).puts.getD m aP).v].map (ae .i64)=((em.getD (((c.procs.getD k af).puts.getD m aK).chan.toNat) [])++[(((bZ c sv k)).puts.getD m aP).v]).map (ae .i64)))∧True)∧((sE (sH c cls i sv k vv tm0 m em) (IX ((((c.procs.getD k af).puts).getD m aK).chan) c.chans.length))∧True)∧((sE (j7 c cls i sv k vv tm0 m em) (True))∧True)∧((sE (j7 c cls i sv k vv tm0 m em) (True))∧True)∧((sE (j8 c cls i sv k vv tm0 m em) (True))∧(sE (oi c cls i sv k vv tm0 m em) (True))∧True)∧((sE (j8 c cls i sv k vv tm0 m em) (True))∧True)∧((sE (mi c cls i sv k vv tm0 m em) (True))∧(sE (ol c cls i sv k vv tm0 m em) (True))∧True)∧((sE (sI c cls i sv k vv tm0 m em) (((((c.procs.getD k af).puts).getD m aK).chan).toNat<c.chans.length∧s4 1 c.chans.length (((((c.procs.getD k af).puts).getD m aK).chan).toNat) 0 [(.own 28)] [28,5] (cK 5 28 (((c.procs.getD k af).puts.getD m aK).chan.toNat)) (cT 5 28 (((c.procs.getD k af).puts.getD m aK).chan.toNat))))∧True)∧True∧True)∧N0 c.chans.length c.chans.length 5 (((c.procs.getD k af).puts.getD m aK).chan.toNat) 28 em (em.set (((c.procs.getD k af).puts.getD m aK).chan.toNat) (em.getD (((c.procs.getD k af).puts.getD m aK).chan.toNat) []++[(((bZ c sv k)).puts.getD m aP).v])) ((em.getD (((c.procs.getD k af).puts.getD m aK).chan.toNat) [])++[(((bZ c sv k)).puts.getD m aP).v])∧NB c.chans.length c.chans.length 5∧W6 ((m+1:Nat):Int)∧TT 1 (AG (lf c cls i sv k vv tm0) (m,em) (m+1,em.set (((c.procs.getD k af).puts.getD m aK).chan.toNat) (em.getD (((c.procs.getD k af).puts.getD m aK).chan.toNat) []++[(((bZ c sv k)).puts.getD m aP).v]))))))) (W6 ((m+1:Nat):Int)∧TT 1 (AG (lf c cls i sv k vv tm0) (m,em) (m+1,em))))))) (True∧([(.var 33 (jY c)),(qg sv),.dead,.dead,.dead,(.grp c.chans.length (cz em)),.dead,.dead,.dead,(uu c vv k),.dead,.dead,(.arrD 42 1 c.chans.length [5] (cG 5)),(sF c sv cls i),.dead,.dead,.dead,.dead,.dead,.dead,.dead,.dead,.dead,.dead,.frame tm0 (ld c cls i sv k)]:List am)=(tN c cls i sv k vv)++.frame tm0 (ld c cls i sv k)::[]))))) (.l (lf c cls i sv k vv tm0) (0,ca c vv) (fun ⟨m,em⟩=>.b 12 (.b 21 (.gh 5 (take 12 5 (((c.procs.getD k af).puts.getD m aK).chan.toNat) (cT 5 28 (((c.procs.getD k af).puts.getD m aK).chan.toNat)))<|.y 5 [(7,.val (.own 28)),(14,.box 3 1 (ae .i64) 0 [(((bZ c sv k)).puts.getD m aP).v]),(15,.box 3 1 (ae .i64) 0 ((em.getD (((c.procs.getD k af).puts.getD m aK).chan.toNat) [])++[(((bZ c sv k)).puts.getD m aP).v])),(17,.cells [28,5] (cT 5 28 (((c.procs.getD k af).puts.getD m aK).chan.toNat)))] [((bm 18 32767),(hE c cls i sv k vv tm0 m em)),((bm 18 32766),(jZ c cls i sv k vv tm0 m em)),((bm 18 32763),(hJ c cls i sv k vv tm0 m em)),((bm 18 32762),(j5 c cls i sv k vv tm0 m em)),((bm 18 32761),(j6 c cls i sv k vv tm0 m em)),((bm 18 32760),(oh c cls i sv k vv tm0 m em)),((bm 18 65535),(j7 c cls i sv k vv tm0 m em)),((bm 18 65534),(oi c cls i sv k vv tm0 m em)),((bm 18 65531),(j8 c cls i sv k vv tm0 m em)),((bm 18 65530),(ol c cls i sv k vv tm0 m em)),((bm 18 65529),(mi c cls i sv k vv tm0 m em)),((bm 18 65528),(sG c cls i sv k vv tm0 m em)),((bm 18 131071),(sH c cls i sv k vv tm0 m em)),((bm 18 262143),(sI c cls i sv k vv tm0 m em))]<|.gh 6 (put 12 5 28 (((c.procs.getD k af).puts.getD m aK).chan.toNat) c.chans.length (cG 5) (cz (em.set (((c.procs.getD k af).puts.getD m aK).chan.toNat) (em.getD (((c.procs.getD k af).puts.getD m aK).chan.toNat) []++[(((bZ c sv k)).puts.getD m aP).v]))))<|.gh 6 (kd 12 c.chans.length [5] (cG 5))<|.w 6 [(0,.val (i6 ((m+1:Nat):Int)))]<|.e) (.w 6 [(0,.val (i6 ((m+1:Nat):Int)))]<|.e)) (.e))) Tryz.func75 rfl rfl (by kernel_rfl) ?_
             have hpl:((bZ c sv k)).puts.length=(c.procs.getD k af).puts.length:=gJ _ _ _ _
             have ht3:(c.procs.getD k af).puts.length≤100:=(hc.pr k (by omega)).pl
             refine tt ⟨rfl,⟨by omega,rfl⟩,?_⟩
             intro m em hinv
             obtain⟨hm,hem⟩:=hinv
             have hel:em.length=c.chans.length:=by rw[hem,cM];exact aq _ _
             refine tt (cd (fun hc12=>?_) (fun hc12=>?_))
             · refine tt ⟨ix,tt ⟨ix,tt ⟨fun hc21=>?_,fun hc21=>?_⟩⟩⟩
               · have hkt:m<(c.procs.getD k af).puts.length:=by omega
                 have htk:0≤((c.procs.getD k af).puts.getD m aK).chan∧((c.procs.getD k af).puts.getD m aK).chan<c.chans.length:=⟨(hc.pt k (by omega) m hkt).1,(hc.pt k (by omega) m hkt).2.1⟩
                 have hfl:(em.getD ((c.procs.getD k af).puts.getD m aK).chan.toNat []).length+1≤137438953472:=by
                   rw[hem]
                   exact Nat.le_trans (Nat.succ_le_succ (L4 (p:=k) (by omega))) (by have:=hvl (((c.procs.getD k af).puts.getD m aK).chan.toNat);have:=hln (((c.procs.getD k af).puts.getD m aK).chan.toNat);omega)
                 refine⟨(Lh om),tt ⟨ix,⟨⟨⟨om,oK⟩,yH⟩,tt ⟨ix,tt ⟨⟨⟨rfl,oK⟩,oK⟩,⟨⟨rfl,rfl,rfl,rfl,rfl,rfl,oK⟩,⟨⟨⟨⟨rfl,⟨by simp only[List.length_map,List.length_cons,List.length_nil];first | omega | (simp;first | done | omega),by simp only[List.map_append,List.map_nil,List.append_nil]⟩,oK⟩,oK⟩,⟨⟨rfl,oK,oK⟩,⟨rfl,⟨by simp only[List.length_map,List.length_cons,List.length_nil];first | omega | (simp;first | done | omega),by simp only[List.map_append,List.map_nil,List.append_nil]⟩,oK⟩,oK⟩,⟨⟨rfl,oK,oK⟩,⟨rfl,⟨by simp only[List.length_map,List.length_cons,List.length_nil];first | omega | (simp;first | done | omega),by simp only[List.map_append,List.map_nil,List.append_nil]⟩,oK⟩,oK⟩,⟨⟨rfl,oK,oK⟩,⟨rfl,oK,oK⟩,⟨rfl,⟨by simp only[List.length_map,List.length_cons,List.length_nil];first | omega | (simp;first | done | omega),by simp only[List.map_append,List.map_nil,List.append_nil]⟩,oK⟩,oK⟩,⟨⟨rfl,oK,oK⟩,⟨rfl,⟨by simp only[List.length_map,List.length_cons,List.length_nil];first | omega | (simp;first | done | omega),by simp only[List.map_append,List.map_nil,List.append_nil]⟩,oK⟩,oK⟩,⟨⟨rfl,oK,oK⟩,⟨rfl,oK,oK⟩,⟨rfl,⟨by simp only[List.length_map,List.length_cons,List.length_nil];first | omega | (simp;first | done | omega),by simp only[List.map_append,List.map_nil,List.append_nil]⟩,oK⟩,oK⟩,⟨⟨rfl,ix,oK⟩,oK⟩,⟨⟨rfl,oK,oK⟩,oK⟩,⟨⟨rfl,oK,oK⟩,oK⟩,⟨⟨rfl,oK,oK⟩,⟨rfl,oK,oK⟩,oK⟩,⟨⟨rfl,oK,oK⟩,oK⟩,⟨⟨rfl,oK,oK⟩,⟨rfl,oK,oK⟩,oK⟩,⟨⟨rfl,⟨om,BJ rfl⟩,oK⟩,oK⟩,oK,oK⟩,⟨(pA (by omega) (fun k9 hk9=>JA (n:=c.chans.length) (R:=((c.procs.getD k af).puts.getD m aK).chan.toNat) hk9 hel (by omega))),⟨(GG rfl),⟨w6,tt ⟨(m+1,em.set (((c.procs.getD k af).puts.getD m aK).chan.toNat) (em.getD (((c.procs.getD k af).puts.getD m aK).chan.toNat) []++[(((bZ c sv k)).puts.getD m aP).v])),rfl,?_,(?_:(c.procs.getD k af).puts.length-(m+1)<(c.procs.getD k af).puts.length-m)⟩⟩⟩⟩⟩⟩⟩⟩⟩⟩⟩
                 · exact⟨by omega,by rw[vf hc21,hem];exact(iz _ _ _ _).symm⟩
                 · omega
               · refine⟨w6,tt ⟨(m+1,em),rfl,?_,(?_:(c.procs.getD k af).puts.length-(m+1)<(c.procs.getD k af).puts.length-m)⟩⟩
                 · exact⟨by omega,by rw[zK hc21,hem]⟩
                 · omega
             · refine⟨oK,congrArg (fun (z0:List (List Int))=>([(.var 33 (jY c)),(qg sv),.dead,.dead,.dead,(.grp c.chans.length (cz z0)),.dead,.dead,.dead,(uu c vv k),.dead,.dead,(.arrD 42 1 c.chans.length [5] (cG 5)),(sF c sv cls i),.dead,.dead,.dead,.dead,.dead,.dead,.dead,.dead,.dead,.dead,.frame tm0 (ld c cls i sv k)]:List am)) (?_:em=(ca c (ao c vv k)))⟩
               rw[hem,show m=(c.procs.getD k af).puts.length by omega,← Jj hc (by omega),hst]
           refine⟨w6,tt ⟨(k+1,ao c vv k),rfl,?_,(?_:c.procs.length-(k+1)<c.procs.length-k)⟩⟩
           · exact⟨by omega,by rw[hvv];exact(Lc hf).symm⟩
           · omega
         · have hf:ax c sv (br c (cls.getD i .empty)) k=false:=by rw[← hc58];exact(aC (show k<c.procs.length by omega)).symm
           refine⟨w6,tt ⟨(k+1,vv),rfl,?_,(?_:c.procs.length-(k+1)<c.procs.length-k)⟩⟩
           · exact⟨by omega,by rw[hvv];exact(Nz hf).symm⟩
           · omega
       · refine tt ⟨w6,tt ⟨(i+1,bf c sv (br c (cls.getD i .empty)),vv),rfl,?_,(?_:cls.length-(i+1)<cls.length-i)⟩⟩
         · exact⟨by omega,by rw[Js (by omega),← hsv],by rw[hvv,show k=c.procs.length by omega,Jt (by omega),← hsv,← huv];rfl⟩
         · omega
     · refine⟨⟨(aq _ _),fun _ _=>rfl,JB⟩,tt ⟨(congrArg _ (?_:(ca c uv)=((ik c inp cls).1))),(congrArg _ (?_:(dD c uv)=((ik c inp cls).2.1))),?_,oK⟩⟩
       all_goals (all_goals (first | (rw[vo (by rintro⟨q1,q2⟩;first | omega | (simp_all;done))];done) | (rw[og (en.2 hin) (by omega),← vu (show cls.length≤i by omega),← huv])))
 · refine tt ⟨(kX c inp hc (by omega) hsz),tt ⟨(mT hs0),tt ⟨?_,?_,?_,oK⟩⟩⟩
   all_goals (all_goals (first | (rw[vo (by rintro⟨q1,q2⟩;first | omega | (simp_all;done))];done) | (rw[og (en.2 hin) (by omega),← vu (show cls.length≤i by omega),← huv])))
end Go.Proofs.YtckgpflobhpnpaaGreat
