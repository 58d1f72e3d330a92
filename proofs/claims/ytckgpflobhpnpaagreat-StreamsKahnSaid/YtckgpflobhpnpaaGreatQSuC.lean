/-
  Package streams: what a process does; traces.
-/
import Derived.Test.YtckgpflobhpnpaaGreatQSuB
import Derived.Test.YtckgpflobhpnpaaGreatQRpt
import Derived.Test.YtckgpflobhpnpaaGreatQStF
namespace Go.Proofs.YtckgpflobhpnpaaGreat
open Go.RowKit
set_option linter.unusedVariables false
set_option linter.unusedSimpArgs false
abbrev gH (c:Ci) (k:Nat):D:=(dL 16 lM aL ((c.procs.getD k aa).puts))
abbrev G9 (c:Ci) (k:Nat):D:=(.agg [(dS ((c.procs.getD k aa).name)),(dS ((c.procs.getD k aa).clock)),(dL 13 jq cb ((c.procs.getD k aa).regs)),(dL 27 tf ba ((c.procs.getD k aa).mems)),(dL 9 jY aK ((c.procs.getD k aa).takes)),(gH c k)])
abbrev jv (c:Ci):List D:=[(dL 6 je aa c.procs),(dL 5 gO ck c.chans)]
abbrev w8 (c:Ci) (sv:Ns) (k:Nat):List D:=[(dB ((bP c sv k).fires)),(LI (((bP c sv k).s).regs)),(dL 1 ae [] (((bP c sv k).s).mems)),(LB ((bP c sv k).pops)),(dL 2 bZ aP ((bP c sv k).puts))]
abbrev zY (k:Nat) (cls:List ByteArray) (i:Nat) (c:Ci) (sv:Ns):List (Nat×D):=[(3,(.ptr 0 0 0 0)),(9,(.ptr 1 0 0 0)),(10,(.own 12)),(11,(.own 9)),(14,(.ptr 13 0 0 0)),(16,(i6 (k:Int))),(38,(dL 1 oM .empty cls)),(39,(i6 (cls.length:Int))),(40,(i6 (i:Int))),(51,(LB (tab (aA c sv (bh c (cls.getD i .empty))) c.procs.length))),(52,(i6 (((tab (aA c sv (bh c (cls.getD i .empty))) c.procs.length).length:Nat):Int))),(53,(i6 (k:Int))),(65,(.own 12)),(66,(.ptr 0 0 0 0)),(67,(dL 6 je aa c.procs)),(68,(i6 (k:Int))),(69,(.iptr (je (c.procs.getD k aa)) 0)),(70,(G9 c k)),(71,(.agg (jv c))),(72,(.agg [(dL 2 bw bB sv.procs),(dL 1 ae [] sv.chans)])),(73,(i6 (k:Int))),(74,(.agg (w8 c sv k)))]
abbrev vt (c:Ci) (k m:Nat):D:=(i6 ((((c.procs.getD k aa).puts).getD m aL).chan))
abbrev Ha (c:Ci) (k m:Nat):aq:=(.var 117 [(vt c k m),(i6 ((((c.procs.getD k aa).puts).getD m aL).w)),(i6 (((((c.procs.getD k aa).puts).getD m aL).when).op)),(dS (((((c.procs.getD k aa).puts).getD m aL).when).name)),(i6 ((((((c.procs.getD k aa).puts).getD m aL).when).k).n)),(dS ((((((c.procs.getD k aa).puts).getD m aL).when).k).p)),(i6 ((((((c.procs.getD k aa).puts).getD m aL).when).w).n)),(dS ((((((c.procs.getD k aa).puts).getD m aL).when).w).p)),(dL 7 (eA 2) dE (((((c.procs.getD k aa).puts).getD m aL).when).args)),(i6 (((((c.procs.getD k aa).puts).getD m aL).data).op)),(dS (((((c.procs.getD k aa).puts).getD m aL).data).name)),(i6 ((((((c.procs.getD k aa).puts).getD m aL).data).k).n)),(dS ((((((c.procs.getD k aa).puts).getD m aL).data).k).p)),(i6 ((((((c.procs.getD k aa).puts).getD m aL).data).w).n)),(dS ((((((c.procs.getD k aa).puts).getD m aL).data).w).p)),(dL 7 (eA 2) dE (((((c.procs.getD k aa).puts).getD m aL).data).args))])
abbrev zZ (c:Ci) (k:Nat):aq:=(.var 63 [(dS ((c.procs.getD k aa).name)),(dS ((c.procs.getD k aa).clock)),(dL 13 jq cb ((c.procs.getD k aa).regs)),(dL 27 tf ba ((c.procs.getD k aa).mems)),(dL 9 jY aK ((c.procs.getD k aa).takes)),(gH c k)])
abbrev rp (c:Ci) (sv:Ns) (cls:List ByteArray) (i:Nat):aq:=(.var 70 [(dL 2 bw bB ((bD c sv (bh c (cls.getD i .empty))).procs)),(dL 1 ae [] ((bD c sv (bh c (cls.getD i .empty))).chans))])
abbrev i1 (c:Ci) (k:Nat):D:=(i6 ((((c.procs.getD k aa).puts).length:Nat):Int))
abbrev pn (sv:Ns):aq:=(.var 70 [(dL 2 bw bB sv.procs),(dL 1 ae [] sv.chans)])
abbrev s5 (c:Ci) (vv:Uf) (k:Nat):aq:=(.arr 3 1 (ab .i64) 0 (bu c (aj c vv k)))
abbrev eS:D:=(.ptr 26 0 0 0)
set_option maxRecDepth 100000
abbrev N5 (c:Ci) (s:Ns) (k:Nat):Ct:=⟨76,[(.agg (jv c)),(.agg [(dL 2 bw bB s.procs),(dL 1 ae [] s.chans)]),(i6 (k:Int))],true,(.agg [(dB ((bP c s k).fires)),(LI (((bP c s k).s).regs)),(dL 1 ae [] (((bP c s k).s).mems)),(LB ((bP c s k).pops)),(dL 2 bZ aP ((bP c s k).puts))])⟩
abbrev km (c:Ci) (s:Ns) (k:Nat):Lp (Nat×List Hd):=vI [2,4,6,7,8,22,23,24] 5 (fun (i:Nat) (hh:List Hd)=>⟨[(2,(i6 (k:Int))),(4,(.ptr 1 0 0 0)),(6,(.ptr 2 0 0 0)),(7,(.ptr 3 0 0 0)),(8,(.own 4)),(22,(dL 9 jY aK ((c.procs.getD k aa).takes))),(23,(i6 ((((c.procs.getD k aa).takes).length:Nat):Int))),(24,(i6 (i:Int)))],[(.var 33 (jv c)),(.var 70 [(dL 2 bw bB s.procs),(dL 1 ae [] s.chans)]),(.var 101 [(dB false),.nils,.nils,.nils,.nils]),(zZ c k),(.arr 115 2 bZ aP hh)]⟩) (fun (i:Nat) (hh:List Hd)=>i≤(c.procs.getD k aa).takes.length∧hh=cD (cM c s k) (List.replicate (c.procs.getD k aa).takes.length aP) i) (fun (i:Nat) (hh:List Hd)=>(c.procs.getD k aa).takes.length-i)
theorem EE (c:Ci) (s:Ns) (k:Nat) (hc:a6 c) (hq:JD c) (hs:j6 c s) (hk:k<c.procs.length):CC (N5 c s k):=by
 have hnl:=hc.nl
 have hcl:=hc.cl
 have hpk:fq (c.procs.getD k aa):=hc.pr k hk
 have ht1:(c.procs.getD k aa).takes.length≤100:=hpk.tl
 have ht2:(c.procs.getD k aa).puts.length≤100:=hpk.pl
 obtain⟨hq1,hq2⟩:1≤(c.procs.getD k aa).puts.length∧(c.procs.getD k aa).puts.length≤2:=hq k hk
 have hl1:=hs.pl
 have hl2:=hs.cl
 refine ai.vc (V:=TT 6 (IX (k:Int) c.procs.length∧TT 6 ((((0:Int)≤((((c.procs.getD k aa).takes).length:Nat):Int)∧((((c.procs.getD k aa).takes).length:Nat):Int)≤((((c.procs.getD k aa).takes).length:Nat):Int)∧((((c.procs.getD k aa).takes).length:Nat):Int)≤137438953472)∧(List.replicate (c.procs.getD k aa).takes.length aP).length=((c.procs.getD k aa).takes).length∧∀x∈(List.replicate (c.procs.getD k aa).takes.length aP),cS [(dB false),(i6 0)] (bZ x))∧TT 5 (GO (km c s k) (0,(List.replicate (c.procs.getD k aa).takes.length aP)) (∀i hh,(km c s k).inv (i,hh)→TT 1 (CD ((i:Int)<((((c.procs.getD k aa).takes).length:Nat):Int)) (TT 1 (IX (i:Int) (((c.procs.getD k aa).takes).length)∧TT 8 (IX ((((c.procs.getD k aa).takes).getD i aK).chan) s.chans.length∧TT 5 (CD ((((s.chans.getD (((((c.procs.getD k aa).takes).getD i aK).chan).toNat) []).length:Nat):Int)>0) (TT 3 (IX 0 ((s.chans.getD (((((c.procs.getD k aa).takes).getD i aK).chan).toNat) []).length)∧TT 2 (IX (i:Int) hh.length∧(i<hh.length∧(hh.map bZ).set i ((bZ (hh.getD i aP)).take 0++[(.bool true),(.int .i64 ((s.chans.getD (((((c.procs.getD k aa).takes).getD i aK).chan).toNat) []).getD 0 0))]++(bZ (hh.getD i aP)).drop (0+2))=(hh.set i (⟨true,((s.chans.getD (((((c.procs.getD k aa).takes).getD i aK).chan).toNat) []).getD 0 0)⟩:Hd)).map bZ)∧W6 ((i+1:Nat):Int)∧TT 1 (AG (km c s k) (i,hh) (i+1,hh.set i (⟨true,((s.chans.getD (((((c.procs.getD k aa).takes).getD i aK).chan).toNat) []).getD 0 0)⟩:Hd)))))) (W6 ((i+1:Nat):Int)∧TT 1 (AG (km c s k) (i,hh) (i+1,hh))))))) (TT 4 (IX (k:Int) s.procs.length∧TT 2 (an [[(dB true)]] ([true].map be)∧TT 3 (CC (BF (((c.procs.getD k aa).puts).length))∧CC (Ge (c.procs.getD k aa) (s.procs.getD k bB) hh (List.replicate (((c.procs.getD k aa).puts).length) true))∧TT 2 (((ay (c.procs.getD k aa) (s.procs.getD k bB) hh (List.replicate (((c.procs.getD k aa).puts).length) true)).fires)=((bP c s k).fires)∧(((ay (c.procs.getD k aa) (s.procs.getD k bB) hh (List.replicate (((c.procs.getD k aa).puts).length) true)).s).regs).map (ab .i64)=(((bP c s k).s).regs).map (ab .i64)∧(((ay (c.procs.getD k aa) (s.procs.getD k bB) hh (List.replicate (((c.procs.getD k aa).puts).length) true)).s).mems).map ae=(((bP c s k).s).mems).map ae∧((ay (c.procs.getD k aa) (s.procs.getD k bB) hh (List.replicate (((c.procs.getD k aa).puts).length) true)).pops).map be=((bP c s k).pops).map be∧((ay (c.procs.getD k aa) (s.procs.getD k bB) hh (List.replicate (((c.procs.getD k aa).puts).length) true)).puts).map bZ=((bP c s k).puts).map bZ∧True))))))))))) (.w 2 [(3,.box 115 2 bZ aP (List.replicate (c.procs.getD k aa).takes.length aP))]<|.l (km c s k) (0,(List.replicate (c.procs.getD k aa).takes.length aP)) (fun ⟨i,hh⟩=>.b 25 (.b 37 (.w 8 [(7,.box 115 2 bZ aP (hh.set i (⟨true,((s.chans.getD (((((c.procs.getD k aa).takes).getD i aK).chan).toNat) []).getD 0 0)⟩:Hd)))]<|.w 9 [(0,.val (i6 ((i+1:Nat):Int)))]<|.e) (.w 9 [(0,.val (i6 ((i+1:Nat):Int)))]<|.e)) (.f 10 4<|.w 10 [(7,.box 4 1 be false [true]),(11,(BF (((c.procs.getD k aa).puts).length)).O),(12,(Ge (c.procs.getD k aa) (s.procs.getD k bB) hh (List.replicate (((c.procs.getD k aa).puts).length) true)).O)]<|.e))) Tryz.func76 rfl rfl rfl (by kernel_rfl) ?_
 refine tt ⟨ix,tt ⟨⟨by omega,List.length_replicate,fun x hx=>by rw[List.eq_of_mem_replicate hx];exact⟨rfl,rfl,oK⟩⟩,tt ⟨rfl,⟨by omega,rfl⟩,?_⟩⟩⟩
 intro i hh hinv
 obtain⟨hi,hhe⟩:=hinv
 have hhl:hh.length=(c.procs.getD k aa).takes.length:=by rw[hhe,eG (by rw[List.length_replicate];omega),List.length_replicate]
 refine tt (cd (fun hc25=>?_) (fun hc25=>?_))
 · refine tt ⟨ix,?_⟩
   have htk:0≤((c.procs.getD k aa).takes.getD i aK).chan∧((c.procs.getD k aa).takes.getD i aK).chan<c.chans.length:=⟨(hc.tk k hk i (show i<(c.procs.getD k aa).takes.length by omega)).1,(hc.tk k hk i (show i<(c.procs.getD k aa).takes.length by omega)).2.1⟩
   refine tt ⟨ix,tt (cd (fun hc37=>?_) (fun hc37=>?_))⟩
   · refine tt ⟨ix,tt ⟨ix,⟨⟨om,by simp only[List.map_set];rfl⟩,⟨w6,tt ⟨(i+1,hh.set i (⟨true,((s.chans.getD (((((c.procs.getD k aa).takes).getD i aK).chan).toNat) []).getD 0 0)⟩:Hd)),rfl,?_,(?_:(c.procs.getD k aa).takes.length-(i+1)<(c.procs.getD k aa).takes.length-i)⟩⟩⟩⟩⟩
     · exact⟨by omega,by rw[hhe];exact cg (by rw[List.length_replicate];omega) (if_pos (show 0<(s.chans.getD ((c.procs.getD k aa).takes.getD i aK).chan.toNat []).length by omega))⟩
     · omega
   · refine⟨w6,tt ⟨(i+1,hh),rfl,?_,(?_:(c.procs.getD k aa).takes.length-(i+1)<(c.procs.getD k aa).takes.length-i)⟩⟩
     · exact⟨by omega,by rw[hhe];exact cy (d:=aP) (by rw[List.length_replicate];omega) (by rw[cL];exact if_neg (show ¬(0<(s.chans.getD ((c.procs.getD k aa).takes.getD i aK).chan.toNat []).length) by omega))⟩
     · omega
 · have hhd:hh=gf c s k:=by rw[hhe,show i=(c.procs.getD k aa).takes.length by omega];exact dz (by rw[List.length_replicate];exact Nat.le_refl _)
   refine tt ⟨ix,tt ⟨⟨⟨rfl,oK⟩,oK⟩,tt ⟨(sy (((c.procs.getD k aa).puts).length) hq1 hq2),⟨(mG (c.procs.getD k aa) (s.procs.getD k bB) hh (List.replicate (((c.procs.getD k aa).puts).length) true) hpk (hs.pv k hk) (by rw[hhd];exact qZ hc hs hk) List.length_replicate),tt ⟨?_,(congrArg _ (?_:(((ay (c.procs.getD k aa) (s.procs.getD k bB) hh (List.replicate (((c.procs.getD k aa).puts).length) true)).s).regs)=(((bP c s k).s).regs))),(congrArg _ (?_:(((ay (c.procs.getD k aa) (s.procs.getD k bB) hh (List.replicate (((c.procs.getD k aa).puts).length) true)).s).mems)=(((bP c s k).s).mems))),(congrArg _ (?_:((ay (c.procs.getD k aa) (s.procs.getD k bB) hh (List.replicate (((c.procs.getD k aa).puts).length) true)).pops)=((bP c s k).pops))),(congrArg _ (?_:((ay (c.procs.getD k aa) (s.procs.getD k bB) hh (List.replicate (((c.procs.getD k aa).puts).length) true)).puts)=((bP c s k).puts))),oK⟩⟩⟩⟩⟩
   all_goals (all_goals (rw[hhd];rfl))
abbrev cG (g zi zj:Nat):D:=.gr g zi
abbrev cT (g q R zi zj:Nat):D:=if zi=R then .own q else .gr g zi
abbrev cK (g q R zi zj:Nat):D:=killD q (cT g q R zi zj)
abbrev Mu (n m g R q:Nat):Prop:=R<n∧∀zi zj,zi<m→zj<1→Fu g R q (cG g zi zj) (cT g q R zi zj)
abbrev Lu (n m g R q:Nat) (W W2:List (List Int)) (l:List Int):Prop:=R≤n∧n=max n (R+1)∧(∀z8,z8<n→ca W2 z8=if z8=R then (⟨3,1,Int,ab .i64,0,l⟩:rH)else pQ (ca W) R (oO (ca W R)) z8)∧∀zi zj,zi<m→zj<1→D1 g R q (cT g q R zi zj) (cG g zi zj)
abbrev K5 (n m g:Nat):Prop:=n=m∧∀zi zj,zi<n→zj<1→cG g zi zj=cG g zi zj∧∀z8,[g].all (fun g=>!(Nat.beq g z8))=true→(cG g zi zj).free z8=true
theorem yu {g k i:Nat} (h:[g].all (fun g=>!(Nat.beq g k))=true):D.free k (.gr g i)=true:=by simpa[D.free]using h
theorem IW {g q R i:Nat}:Fu g R q (.gr g i) (if i=R then .own q else .gr g i):=by
  by_cases h:i=R
  · exact .inl ⟨by rw[h],if_pos h⟩
  · exact .inr ⟨if_neg h,.inl ⟨i,rfl,h⟩⟩
theorem w9 {R q:Nat} {d:D}:ql (if R=R then .own q else d) (.own q):=by rw[if_pos rfl];exact rfl
theorem z4 {g q R n:Nat} (h:(!(Nat.beq g q))=true):rQ 1 n R 0 [.own q] [q,g] (fun i j=>killD q (if i=R then .own q else .gr g i)) (fun i j=>if i=R then .own q else .gr g i):=by
  intro i j hi hj
  have hj0:j=0:=by omega
  subst hj0
  have hk:killD q (.gr g i)=.gr g i:=by unfold killD;rw[if_pos (show D.free q (.gr g i)=true from h)]
  refine⟨by by_cases h:i=R<;>simp[h];rw[hk],fun id hid=>?_⟩
  simp only[List.all_cons,List.all_nil,Bool.and_true,Bool.and_eq_true]at hid
  show D.free id (if i=R then .own q else .gr g i)=true
  split
  · exact hid.1
  · exact hid.2
theorem K6 {g q R i:Nat}:D1 g R q (if i=R then .own q else .gr g i) (.gr g i):=by
  by_cases h:i=R
  · exact .inl ⟨if_pos h,by rw[h]⟩
  · exact .inr ⟨(if_neg h).symm,.inl ⟨i,if_neg h,h⟩⟩
theorem IY {n m g R q:Nat} (h:R<n):Mu n m g R q:=⟨h,fun i j _ _=>IW⟩
theorem EF {n m g:Nat} (h:n=m):K5 n m g:=⟨h,fun i j _ _=>⟨rfl,fun k hk=>yu hk⟩⟩
theorem K7 {W W2:List (List Int)} {R k:Nat} {l:List Int} (h:W2.getD k []=if k=R then l else W.getD k []):ca W2 k=if k=R then (⟨3,1,Int,ab .i64,0,l⟩:rH)else pQ (ca W) R (oO (ca W R)) k:=by
  by_cases e:k=R
  · rw[if_pos e]at h ⊢
    show(⟨_,_,_,_,_,W2.getD k []⟩:rH)=_
    rw[h]
  · rw[if_neg e]at h ⊢
    unfold pQ
    rw[if_neg e]
    show(⟨_,_,_,_,_,W2.getD k []⟩:rH)=⟨_,_,_,_,_,W.getD k []⟩
    rw[h]
theorem ou {n R g q nn:Nat} {W W2:List (List Int)} {l:List Int} (hR:R<n) (h:∀k,k<n→W2.getD k []=if k=R then l else W.getD k []):R≤n∧n=max n (R+1)∧(∀k,k<n→ca W2 k=if k=R then (⟨3,1,Int,ab .i64,0,l⟩:rH)else pQ (ca W) R (oO (ca W R)) k)∧∀i j,i<nn→j<1→D1 g R q (if i=R then .own q else .gr g i) (.gr g i) :=
  ⟨Nat.le_of_lt hR,by omega,fun k hk=>K7 (h k hk),fun i j _ _=>K6⟩
theorem tW {k R:Nat} {W:List (List Int)}:W.getD k []=if k=R then W.getD R []else W.getD k []:=by
  split
  · rename_i h;rw[h]
  · rfl
theorem Hb {k R n:Nat} {W:List (List Int)} {l:List Int} (hk:k<n) (hn:W.length=n) (hR:R<n):(W.set R l).getD k []=if k=R then l else W.getD k []:=by
  rw[c8 (by omega)]
  by_cases h:R=k
  · rw[if_pos h,if_pos h.symm]
  · rw[if_neg h,if_neg (fun e=>h e.symm)]
theorem Hc {l:List (List Int)} {n g:Nat}:∀i j,i<n→j<1→eL g (.gs (fun zr=>.sl (ca l zr).sz (ca l zr).enc (ca l zr).d (ca l zr).l)) (.gr g i)=iL ae [] l i j:=by
  intro i j hi hj
  have hj0:j=0:=by omega
  subst hj0
  unfold eL
  rw[if_pos (Nat.beq_refl g)]
  rfl
abbrev N6 (c:Ci) (inp:List (List Int)) (cls:List ByteArray):Ct:=⟨46,[(.agg (jv c)),(dL 1 ae [] inp),(dL 1 oM .empty cls)],true,(.tup [(dL 1 ae [] ((gV c inp cls).1)),(LI ((gV c inp cls).2.1)),(i6 ((gV c inp cls).2.2))])⟩
abbrev ow (c:Ci) (inp:List (List Int)) (cls:List ByteArray):Lp (Nat×Ns×Uf):=Jn [3,9,10,11,38,39,40] 13 (fun (i:Nat) (sv:Ns) (uv:Uf)=>⟨[(3,(.ptr 0 0 0 0)),(9,(.ptr 1 0 0 0)),(10,(.own 12)),(11,(.own 9)),(38,(dL 1 oM .empty cls)),(39,(i6 (cls.length:Int))),(40,(i6 (i:Int)))],[(.var 33 (jv c)),(pn sv),.dead,.dead,.dead,(.grp c.chans.length (ca (bi c uv))),.dead,.dead,.dead,(.arr 3 1 (ab .i64) 0 (bu c uv)),.dead,.dead,(.arrD 42 1 c.chans.length [5] (cG 5))]⟩) (fun (i:Nat) (sv:Ns) (uv:Uf)=>i≤cls.length∧sv=HC c inp cls i∧uv=G5 c inp cls i) (fun (i:Nat) (sv:Ns) (uv:Uf)=>cls.length-i)
abbrev kn (c:Ci) (cls:List ByteArray) (i:Nat) (sv:Ns) (uv:Uf):Lp (Nat×Uf):=vI [3,9,10,11,14,38,39,40,51,52,53] 14 (fun (k:Nat) (vv:Uf)=>⟨[(3,(.ptr 0 0 0 0)),(9,(.ptr 1 0 0 0)),(10,(.own 12)),(11,(.own 9)),(14,(.ptr 13 0 0 0)),(38,(dL 1 oM .empty cls)),(39,(i6 (cls.length:Int))),(40,(i6 (i:Int))),(51,(LB (tab (aA c sv (bh c (cls.getD i .empty))) c.procs.length))),(52,(i6 (((tab (aA c sv (bh c (cls.getD i .empty))) c.procs.length).length:Nat):Int))),(53,(i6 (k:Int)))],[(.var 33 (jv c)),(pn sv),.dead,.dead,.dead,(.grp c.chans.length (ca (bi c vv))),.dead,.dead,.dead,(.arr 3 1 (ab .i64) 0 (bu c vv)),.dead,.dead,(.arrD 42 1 c.chans.length [5] (cG 5)),(rp c sv cls i)]⟩) (fun (k:Nat) (vv:Uf)=>k≤c.procs.length∧vv=ER c sv uv (bh c (cls.getD i .empty)) k) (fun (k:Nat) (vv:Uf)=>c.procs.length-k)
abbrev EG (c:Ci) (cls:List ByteArray) (i:Nat) (sv:Ns) (k:Nat) (vv:Uf):List aq:=[(.var 33 (jv c)),(pn sv),.dead,.dead,.dead,(.grp c.chans.length (ca (bi c vv))),.dead,.dead,.dead,(s5 c vv k),.dead,.dead,(.arrD 42 1 c.chans.length [5] (cG 5)),(rp c sv cls i),.dead,.dead,.dead,.dead,.dead,.dead,.dead,.dead,.dead,.dead]
abbrev ko (c:Ci) (cls:List ByteArray) (i:Nat) (sv:Ns) (k:Nat):List (Nat×D):=(zY k cls i c sv)
abbrev sA (c:Ci) (cls:List ByteArray) (i:Nat) (sv:Ns) (k:Nat) (vv:Uf):List aq:=[(.var 33 (jv c)),(pn sv),.dead,.dead,.dead,(.grp c.chans.length (ca (bi c (aj c vv k)))),.dead,.dead,.dead,(s5 c vv k),.dead,.dead,(.arrD 42 1 c.chans.length [5] (cG 5)),(rp c sv cls i),.dead,.dead,.dead,.dead,.dead,.dead,.dead,.dead,.dead,.dead]
abbrev kq (c:Ci) (cls:List ByteArray) (i:Nat) (sv:Ns) (k:Nat) (vv:Uf) (tm0:Array Value):Lp (Nat×List (List Int)):=vI [0,5,9,10,11] 27 (fun (m:Nat) (em:List (List Int))=>⟨[(0,(.own 12)),(5,eS),(9,(gH c k)),(10,(i1 c k)),(11,(i6 (m:Int)))],[(.var 33 (jv c)),(pn sv),.dead,.dead,.dead,(.grp c.chans.length (ca em)),.dead,.dead,.dead,(s5 c vv k),.dead,.dead,(.arrD 42 1 c.chans.length [5] (cG 5)),(rp c sv cls i),.dead,.dead,.dead,.dead,.dead,.dead,.dead,.dead,.dead,.dead,(.frame tm0 (zY k cls i c sv)),(zZ c k),(.var 101 (w8 c sv k))]⟩) (fun (m:Nat) (em:List (List Int))=>m≤(c.procs.getD k aa).puts.length∧em=bz (bi c vv) (mI (c.procs.getD k aa) (bP c sv k) m)) (fun (m:Nat) (em:List (List Int))=>(c.procs.getD k aa).puts.length-m)
abbrev fa (c:Ci) (cls:List ByteArray) (i:Nat) (sv:Ns) (k:Nat) (vv:Uf) (tm0:Array Value) (m:Nat) (em:List (List Int)):List aq:=[(.var 33 (jv c)),(pn sv),.dead,.dead,.dead,(.grp c.chans.length (pQ (ca em) (((c.procs.getD k aa).puts.getD m aL).chan.toNat) (oO (ca em (((c.procs.getD k aa).puts.getD m aL).chan.toNat))))),.dead,.dead,.dead,(s5 c vv k),.dead,.dead,(.arrD 42 1 c.chans.length [28,5] (cT 5 28 (((c.procs.getD k aa).puts.getD m aL).chan.toNat))),(rp c sv cls i),.dead,.dead,.dead,.dead,.dead,.dead,.dead,.dead,.dead,.dead,(.frame tm0 (zY k cls i c sv)),(zZ c k),(.var 101 (w8 c sv k)),(Ha c k m),(.arr 3 1 (ab .i64) 0 (em.getD (((c.procs.getD k aa).puts.getD m aL).chan.toNat) [])),.dead,.dead,.dead,.dead,.dead,.dead,.dead,.dead,.dead,.dead,.dead,.dead,.dead,.dead,.dead]
def gI (c:Ci) (cls:List ByteArray) (i:Nat) (sv:Ns) (k:Nat) (vv:Uf) (tm0:Array Value) (m:Nat) (em:List (List Int)):St:=⟨[(0,(.own 12)),(5,eS),(9,(gH c k)),(10,(i1 c k)),(11,(i6 (m:Int))),(22,(.own 12)),(24,(vt c k m)),(29,(.own 28)),(36,(LI [(((bP c sv k)).puts.getD m aP).v]))],fa c cls i sv k vv tm0 m em⟩
def jw (c:Ci) (cls:List ByteArray) (i:Nat) (sv:Ns) (k:Nat) (vv:Uf) (tm0:Array Value) (m:Nat) (em:List (List Int)):St:=⟨[(0,(.own 12)),(5,eS),(9,(gH c k)),(10,(i1 c k)),(11,(i6 (m:Int))),(24,(vt c k m)),(29,(.own 28)),(36,(LI [(((bP c sv k)).puts.getD m aP).v]))],fa c cls i sv k vv tm0 m em⟩
def gJ (c:Ci) (cls:List ByteArray) (i:Nat) (sv:Ns) (k:Nat) (vv:Uf) (tm0:Array Value) (m:Nat) (em:List (List Int)):St:=⟨[(0,(.own 12)),(5,eS),(9,(gH c k)),(10,(i1 c k)),(11,(i6 (m:Int))),(22,(.own 12)),(23,(.ptr 27 0 0 0)),(29,(.own 28)),(36,(LI [(((bP c sv k)).puts.getD m aP).v]))],fa c cls i sv k vv tm0 m em⟩
def jx (c:Ci) (cls:List ByteArray) (i:Nat) (sv:Ns) (k:Nat) (vv:Uf) (tm0:Array Value) (m:Nat) (em:List (List Int)):St:=⟨[(0,(.own 12)),(5,eS),(9,(gH c k)),(10,(i1 c k)),(11,(i6 (m:Int))),(23,(.ptr 27 0 0 0)),(29,(.own 28)),(36,(LI [(((bP c sv k)).puts.getD m aP).v]))],fa c cls i sv k vv tm0 m em⟩
def jy (c:Ci) (cls:List ByteArray) (i:Nat) (sv:Ns) (k:Nat) (vv:Uf) (tm0:Array Value) (m:Nat) (em:List (List Int)):St:=⟨[(0,(.own 12)),(5,eS),(7,(.ptr 27 0 0 0)),(9,(gH c k)),(10,(i1 c k)),(11,(i6 (m:Int))),(22,(.own 12)),(29,(.own 28)),(36,(LI [(((bP c sv k)).puts.getD m aP).v]))],fa c cls i sv k vv tm0 m em⟩
def mW (c:Ci) (cls:List ByteArray) (i:Nat) (sv:Ns) (k:Nat) (vv:Uf) (tm0:Array Value) (m:Nat) (em:List (List Int)):St:=⟨[(0,(.own 12)),(5,eS),(7,(.ptr 27 0 0 0)),(9,(gH c k)),(10,(i1 c k)),(11,(i6 (m:Int))),(29,(.own 28)),(36,(LI [(((bP c sv k)).puts.getD m aP).v]))],fa c cls i sv k vv tm0 m em⟩
abbrev d5 (c:Ci) (cls:List ByteArray) (i:Nat) (sv:Ns) (k:Nat) (vv:Uf) (tm0:Array Value) (m:Nat) (em:List (List Int)):List aq:=[(.var 33 (jv c)),(pn sv),.dead,.dead,.dead,(.grp c.chans.length (pQ (ca em) (((c.procs.getD k aa).puts.getD m aL).chan.toNat) (oO (ca em (((c.procs.getD k aa).puts.getD m aL).chan.toNat))))),.dead,.dead,.dead,(s5 c vv k),.dead,.dead,(.arrD 42 1 c.chans.length [5] (cK 5 28 (((c.procs.getD k aa).puts.getD m aL).chan.toNat))),(rp c sv cls i),.dead,.dead,.dead,.dead,.dead,.dead,.dead,.dead,.dead,.dead,(.frame tm0 (zY k cls i c sv)),(zZ c k),(.var 101 (w8 c sv k)),(Ha c k m),(.arr 3 1 (ab .i64) 0 ((em.getD (((c.procs.getD k aa).puts.getD m aL).chan.toNat) [])++[(((bP c sv k)).puts.getD m aP).v])),.dead,.dead,.dead,.dead,.dead,.dead,.dead,.dead,.dead,.dead,.dead,.dead,.dead,.dead,.dead]
def jz (c:Ci) (cls:List ByteArray) (i:Nat) (sv:Ns) (k:Nat) (vv:Uf) (tm0:Array Value) (m:Nat) (em:List (List Int)):St:=⟨[(0,(.own 12)),(5,eS),(9,(gH c k)),(10,(i1 c k)),(11,(i6 (m:Int))),(22,(.own 12)),(24,(vt c k m)),(37,(.own 28))],d5 c cls i sv k vv tm0 m em⟩
def mX (c:Ci) (cls:List ByteArray) (i:Nat) (sv:Ns) (k:Nat) (vv:Uf) (tm0:Array Value) (m:Nat) (em:List (List Int)):St:=⟨[(0,(.own 12)),(5,eS),(9,(gH c k)),(10,(i1 c k)),(11,(i6 (m:Int))),(24,(vt c k m)),(37,(.own 28))],d5 c cls i sv k vv tm0 m em⟩
def jA (c:Ci) (cls:List ByteArray) (i:Nat) (sv:Ns) (k:Nat) (vv:Uf) (tm0:Array Value) (m:Nat) (em:List (List Int)):St:=⟨[(0,(.own 12)),(5,eS),(9,(gH c k)),(10,(i1 c k)),(11,(i6 (m:Int))),(22,(.own 12)),(23,(.ptr 27 0 0 0)),(37,(.own 28))],d5 c cls i sv k vv tm0 m em⟩
def mY (c:Ci) (cls:List ByteArray) (i:Nat) (sv:Ns) (k:Nat) (vv:Uf) (tm0:Array Value) (m:Nat) (em:List (List Int)):St:=⟨[(0,(.own 12)),(5,eS),(9,(gH c k)),(10,(i1 c k)),(11,(i6 (m:Int))),(23,(.ptr 27 0 0 0)),(37,(.own 28))],d5 c cls i sv k vv tm0 m em⟩
def kZ (c:Ci) (cls:List ByteArray) (i:Nat) (sv:Ns) (k:Nat) (vv:Uf) (tm0:Array Value) (m:Nat) (em:List (List Int)):St:=⟨[(0,(.own 12)),(5,eS),(7,(.ptr 27 0 0 0)),(9,(gH c k)),(10,(i1 c k)),(11,(i6 (m:Int))),(22,(.own 12)),(37,(.own 28))],d5 c cls i sv k vv tm0 m em⟩
def rq (c:Ci) (cls:List ByteArray) (i:Nat) (sv:Ns) (k:Nat) (vv:Uf) (tm0:Array Value) (m:Nat) (em:List (List Int)):St:=⟨[(0,(.own 12)),(5,eS),(7,(.ptr 27 0 0 0)),(9,(gH c k)),(10,(i1 c k)),(11,(i6 (m:Int))),(37,(.own 28))],d5 c cls i sv k vv tm0 m em⟩
def rr (c:Ci) (cls:List ByteArray) (i:Nat) (sv:Ns) (k:Nat) (vv:Uf) (tm0:Array Value) (m:Nat) (em:List (List Int)):St:=⟨[(0,(.own 12)),(5,eS),(9,(gH c k)),(10,(i1 c k)),(11,(i6 (m:Int))),(37,(.own 28)),(38,(.ptr 12 (((((c.procs.getD k aa).puts).getD m aL).chan).toNat) 1 0))],d5 c cls i sv k vv tm0 m em⟩
abbrev z5 (c:Ci) (cls:List ByteArray) (i:Nat) (sv:Ns) (k:Nat) (vv:Uf) (tm0:Array Value) (m:Nat) (em:List (List Int)):List aq:=[(.var 33 (jv c)),(pn sv),.dead,.dead,.dead,(.grp c.chans.length (pQ (ca em) (((c.procs.getD k aa).puts.getD m aL).chan.toNat) (oO (ca em (((c.procs.getD k aa).puts.getD m aL).chan.toNat))))),.dead,.dead,.dead,(s5 c vv k),.dead,.dead,(.arrD 42 1 c.chans.length [28,5] (cT 5 28 (((c.procs.getD k aa).puts.getD m aL).chan.toNat))),(rp c sv cls i),.dead,.dead,.dead,.dead,.dead,.dead,.dead,.dead,.dead,.dead,(.frame tm0 (zY k cls i c sv)),(zZ c k),(.var 101 (w8 c sv k)),(Ha c k m),(.arr 3 1 (ab .i64) 0 ((em.getD (((c.procs.getD k aa).puts.getD m aL).chan.toNat) [])++[(((bP c sv k)).puts.getD m aP).v])),.dead,.dead,.dead,.dead,.dead,.dead,.dead,.dead,.dead,.dead,.dead,.dead,.dead,.dead,.dead]
def rt (c:Ci) (cls:List ByteArray) (i:Nat) (sv:Ns) (k:Nat) (vv:Uf) (tm0:Array Value) (m:Nat) (em:List (List Int)):St:=⟨[(0,(.own 12)),(5,eS),(9,(gH c k)),(10,(i1 c k)),(11,(i6 (m:Int)))],z5 c cls i sv k vv tm0 m em⟩
theorem EH (c:Ci) (inp:List (List Int)) (cls:List ByteArray) (hc:a6 c) (hq:JD c) (hl:inp.length≤100000) (hs:∀z∈inp,z.length≤100000) (hcl:cls.length≤9223372036854775807):CC (N6 c inp cls):=by
 have hnl:=hc.nl
 have hcl:=hc.cl
 have hsz:∀i,(inp.getD i []).length≤9223372036854775807:=fun i=>by
   by_cases h:i<inp.length
   · have:=hs _ (j8 (d:=[]) h);omega
   · rw[List.getD_eq_getElem?_getD,List.getElem?_eq_none (by omega)];simp
 refine ai.vc (V:=TT 4 (CS ((d4 c inp)=true) (TT 2 (CC (G3 c inp)∧TT 1 ((True∧(!(d4 c inp))=false)∧TT 4 (CD ((cls.length:Int)>100) (TT 6 (((gV c inp cls).1)=[]∧((gV c inp cls).2.1)=[]∧(1:Int)=((gV c inp cls).2.2)∧True)) (TT 1 (CC (NS c)∧TT 3 (CO (KY inp)∧TT 3 ((inp.length=inp.length∧(∀x∈inp,(ae x).length=1)∧∀zi zj,zi<inp.length→zj<1→(fun (zi zj:Nat)=>eL 2 (.gs (fun zr=>.sl ((ca inp) zr).sz ((ca inp) zr).enc ((ca inp) zr).d ((ca inp) zr).l)) ((fun (zi zj:Nat)=>Hy 2 ((fun i _=>.me i) zi zj)) zi zj)) zi zj=iL ae [] inp zi zj)∧TT 1 (CO (KY inp)∧TT 3 ((((0:Int)≤(c.procs.length:Int)∧(c.procs.length:Int)≤(c.procs.length:Int)∧(c.procs.length:Int)≤137438953472)∧(bu c (u0 c inp)).length=c.procs.length∧∀x∈(bu c (u0 c inp)),cS [(i6 0)] ((ab .i64) x))∧TT 3 ((c.chans.length=inp.length∧∀zi zj,zi<c.chans.length→zj<1→(cG 5) zi zj=(fun (zi zj:Nat)=>Hy 5 ((fun i _=>.me i) zi zj)) zi zj∧∀z8,[5].all (fun g=>!(Nat.beq g z8))=true→((cG 5) zi zj).free z8=true)∧(c.chans.length=inp.length∧∀z8,z8<c.chans.length→ca (bi c (u0 c inp)) z8=(ca inp) z8)∧TT 3 (GO (ow c inp cls) (0,HB c inp,u0 c inp) (∀i sv uv,(ow c inp cls).inv (i,sv,uv)→TT 1 (CD ((i:Int)<(cls.length:Int)) (IX (i:Int) cls.length∧TT 5 (CC (NX c sv (cls.getD i .empty))∧TT 9 (GO (kn c cls i sv uv) (0,uv) (∀k vv,(kn c cls i sv uv).inv (k,vv)→TT 1 (CD ((k:Int)<(((tab (aA c sv (bh c (cls.getD i .empty))) c.procs.length).length:Nat):Int)) (TT 1 (IX (k:Int) ((tab (aA c sv (bh c (cls.getD i .empty))) c.procs.length).length)∧TT 4 (CB (((tab (aA c sv (bh c (cls.getD i .empty))) c.procs.length).getD k false)) (TT 2 (IX (k:Int) ((bu c vv).length)∧(k<(bu c vv).length∧True)∧W6 (((bu c vv).getD k 0)+1)∧IX (k:Int) ((bu c vv).length)∧(k<(bu c vv).length∧((bu c vv).map (ab .i64)).set k (((ab .i64) ((bu c vv).getD k 0)).take 0++[(.int .i64 (((bu c vv).getD k 0)+1))]++((ab .i64) ((bu c vv).getD k 0)).drop (0+1))=(bu c (aj c vv k)).map (ab .i64))∧TT 4 (IX (k:Int) c.procs.length∧TT 4 (CC (N5 c sv k)∧vJ Tryz.prog 75 [(.own 12),(G9 c k),(.agg (w8 c sv k))] (EG c cls i sv k vv) (ko c cls i sv k) (sA c cls i sv k vv) [] (.tup [])∧W6 ((k+1:Nat):Int)∧TT 1 (AG (kn c cls i sv uv) (k,vv) (k+1,aj c vv k)))))) (W6 ((k+1:Nat):Int)∧TT 1 (AG (kn c cls i sv uv) (k,vv) (k+1,vv)))))) (TT 2 (W6 ((i+1:Nat):Int)∧TT 1 (AG (ow c inp cls) (i,sv,uv) (i+1,bD c sv (bh c (cls.getD i .empty)),vv))))))))) (((bi c uv).length=c.chans.length∧(∀x∈(bi c uv),(ae x).length=1)∧∀zi zj,zi<c.chans.length→zj<1→(fun (zi zj:Nat)=>eL 5 (.gs (fun zr=>.sl ((ca (bi c uv)) zr).sz ((ca (bi c uv)) zr).enc ((ca (bi c uv)) zr).d ((ca (bi c uv)) zr).l)) ((cG 5) zi zj)) zi zj=iL ae [] (bi c uv) zi zj)∧TT 8 ((bi c uv).map ae=((gV c inp cls).1).map ae∧(bu c uv).map (ab .i64)=((gV c inp cls).2.1).map (ab .i64)∧(0:Int)=((gV c inp cls).2.2)∧True)))))))))))))))) (TT 2 (CC (G3 c inp)∧TT 1 ((True∧(!(d4 c inp))=true)∧TT 10 (((gV c inp cls).1)=[]∧((gV c inp cls).2.1)=[]∧(1:Int)=((gV c inp cls).2.2)∧True)))))) (.s 1 ((d4 c inp)=true) (.w 1 [(2,(G3 c inp).O),(4,.val (dB false))]<|.b 26 (.e) (.w 3 [(1,(NS c).O)]<|.w 4 [(1,(KY inp).O)]<|.gh 5 (FB 2)<|.f 5 2<|.gh 5 (LO 3 ae [] inp)<|.f 5 3<|.w 5 [(1,(KY inp).O),(5,.box 3 1 (ab .i64) 0 (bu c (u0 c inp)))]<|.gh 6 (FB 5)<|.gh 6 (jE 12 c.chans.length [5] (cG 5))<|.gh 6 (Ft 5 c.chans.length (ca (bi c (u0 c inp))))<|.l (ow c inp cls) (0,HB c inp,u0 c inp) (fun ⟨i,sv,uv⟩=>.b 41 (.w 9 [(3,(NX c sv (cls.getD i .empty)).O)]<|.l (kn c cls i sv uv) (0,uv) (fun ⟨k,vv⟩=>.b 54 (.b 58 (.w 14 [(4,.val (i6 (((bu c vv).getD k 0)+1))),(6,.box 3 1 (ab .i64) 0 (bu c (aj c vv k)))]<|.q 15 [3,9,10,11,14,16,38,39,40,51,52,53] 14<|.w 15 [(9,(N5 c sv k).O),(10,.inl (.tup []) (ko c cls i sv k) ((sA c cls i sv k vv)++.dead::[]))]<|.w 16 [(0,.val (i6 ((k+1:Nat):Int)))]<|.e) (.w 16 [(0,.val (i6 ((k+1:Nat):Int)))]<|.e)) (.w 18 [(0,.val (i6 ((i+1:Nat):Int)))]<|.e))) (.f 19 5<|.gh 19 (LO 12 ae [] (bi c uv))<|.f 19 12<|.e)))) (.w 1 [(2,(G3 c inp).O),(4,.val (dB true))]<|.e)) Tryz.func46 rfl rfl rfl (by kernel_rfl) ?_
 refine tt ⟨fun hs0=>?_,fun hs0=>?_⟩
 · refine tt ⟨(kk c inp hc (by omega) hsz),tt ⟨(mF hs0),tt (cd (fun hc26=>?_) (fun hc26=>?_))⟩⟩
   · refine tt ⟨?_,?_,?_,oK⟩
     all_goals (all_goals (first | (rw[tR (by rintro⟨q1,q2⟩;first | omega | (simp_all;done))];done) | (rw[mU (dP.2 hin) (by omega),← tV (show cls.length≤i by omega),← huv])))
   · have hin:oX c inp:=dP.1 (by first | assumption | simpa using hs0)
     have hcs0:bu c (u0 c inp)=List.replicate c.procs.length (0:Int):=BI
     have hws0:bi c (u0 c inp)=inp:=BH 0 hin.l
     refine tt ⟨(Er c hc),tt ⟨(p9 inp hl hs),tt ⟨⟨rfl,fun _ _=>rfl,Hc⟩,tt ⟨(p9 inp hl hs),tt ⟨⟨by omega,by rw[hcs0,List.length_replicate],fun x hx=>by rw[hcs0]at hx;rw[List.eq_of_mem_replicate hx];exact⟨rfl,oK⟩⟩,tt ⟨⟨hin.l.symm,fun i j _ _=>⟨rfl,fun k hk=>yu hk⟩⟩,⟨⟨hin.l.symm,fun k _=>by rw[hws0]⟩,tt ⟨rfl,⟨by omega,rfl,rfl⟩,?_⟩⟩⟩⟩⟩⟩⟩⟩
     intro i sv uv hinv
     obtain⟨hi,hsv,huv⟩:=hinv
     obtain⟨hal,hnu,hns,hcn⟩:=G8 (cls:=cls) (i:=i) hc hin
     have hsm:=Mt (cls:=cls) (i:=i) hc hin (by omega)
     have hln:=BG (cls:=cls) (i:=i) hc hin (by omega)
     rw[← hsv]at hns hnu hsm
     rw[← huv]at hnu hln hcn
     have hl1:=hns.pl
     have hl2:=hns.cl
     refine tt (cd (fun hc41=>?_) (fun hc41=>?_))
     · refine⟨ix,tt ⟨(Gy c sv (cls.getD i .empty) hc hns (fun n=>Nat.le_trans (hsm n) (by decide))),tt ⟨rfl,⟨by omega,rfl⟩,?_⟩⟩⟩
       intro k vv hinv
       obtain⟨hk0,hvv⟩:=hinv
       have hvl:=IU (w:=(bh c (cls.getD i .empty))) (k:=k) hc hns hnu (by omega)
       have hvc:=IV (c:=c) (s:=sv) (u:=uv) (w:=(bh c (cls.getD i .empty))) (k:=k)
       rw[← hvv]at hvl hvc
       have hvcl:(bu c vv).length=c.procs.length:=ao _ _
       have htl:(tab (aA c sv (bh c (cls.getD i .empty))) c.procs.length).length=c.procs.length:=ao _ _
       refine tt (cd (fun hc54=>?_) (fun hc54=>?_))
       · refine tt ⟨ix,tt ⟨fun hc58=>?_,fun hc58=>?_⟩⟩
         · have hf:aA c sv (bh c (cls.getD i .empty)) k=true:=by rw[← hc58];exact(aE (show k<c.procs.length by omega)).symm
           have hst:fU c vv k=bP c sv k:=by rw[hvv];exact K4 hc hns hnu (by omega) hf
           have hcg:(bu c vv).getD k 0=(vv.cnt k:Int):=mV (by omega)
           have hvck:=hvc k
           have hcnk:=hcn k
           refine tt ⟨ix,⟨⟨om,oK⟩,⟨w6,⟨ix,⟨⟨by rw[ao];omega,by rw[← Bx (show k<c.procs.length by omega),hcg,List.map_set];rfl⟩,tt ⟨ix,tt ⟨(EE c sv k hc hq hns (by omega)),⟨?_,?_⟩⟩⟩⟩⟩⟩⟩⟩
           · intro tm0
             refine fV.vc (V:=TT 6 (GO (kq c cls i sv k vv tm0) (0,bi c vv) (∀m em,(kq c cls i sv k vv tm0).inv (m,em)→TT 1 (CD ((m:Int)<((((c.procs.getD k aa).puts).length:Nat):Int)) (TT 1 (IX (m:Int) (((c.procs.getD k aa).puts).length)∧TT 7 (IX (m:Int) (((bP c sv k).puts).length)∧TT 2 (CB ((((bP c sv k).puts).getD m aP).has) (Mu c.chans.length c.chans.length 5 (((c.procs.getD k aa).puts.getD m aL).chan.toNat) 28∧TT 6 (IX ((((c.procs.getD k aa).puts).getD m aL).chan) c.chans.length∧((((((c.procs.getD k aa).puts).getD m aL).chan).toNat<c.chans.length∧True)∧ql ((cT 5 28 (((c.procs.getD k aa).puts.getD m aL).chan.toNat)) (((((c.procs.getD k aa).puts).getD m aL).chan).toNat) 0) (.own 28))∧TT 3 (IX (m:Int) (((bP c sv k).puts).length)∧TT 2 (an [[(i6 ((((bP c sv k).puts).getD m aP).v))]] ([(((bP c sv k)).puts.getD m aP).v].map (ab .i64))∧((gI c cls i sv k vv tm0 m em)=(gI c cls i sv k vv tm0 m em)∧(jw c cls i sv k vv tm0 m em)=(jw c cls i sv k vv tm0 m em)∧(gJ c cls i sv k vv tm0 m em)=(gJ c cls i sv k vv tm0 m em)∧(jx c cls i sv k vv tm0 m em)=(jx c cls i sv k vv tm0 m em)∧(jy c cls i sv k vv tm0 m em)=(jy c cls i sv k vv tm0 m em)∧(mW c cls i sv k vv tm0 m em)=(mW c cls i sv k vv tm0 m em)∧True)∧(((sE (jz c cls i sv k vv tm0 m em) ((em.getD (((c.procs.getD k aa).puts.getD m aL).chan.toNat) []).length+([(((bP c sv k)).puts.getD m aP).v].map (ab .i64)).length≤137438953472∧(em.getD (((c.procs.getD k aa).puts.getD m aL).chan.toNat) []).map (ab .i64)++[(((bP c sv k)).puts.getD m aP).v].map (ab .i64)=((em.getD (((c.procs.getD k aa).puts.getD m aL).chan.toNat) [])++[(((bP c sv k)).puts.getD m aP).v]).map (ab .i64)))∧True)∧((sE (gI c cls i sv k vv tm0 m em) (True))∧(sE (mX c cls i sv k vv tm0 m em) ((em.getD (((c.procs.getD k aa).puts.getD m aL).chan.toNat) []).length+([(((bP c sv k)).puts.getD m aP).v].map (ab .i64)).length≤137438953472∧(em.getD (((c.procs.getD k aa).puts.getD m aL).chan.toNat) []).map (ab .i64)++[(((bP c sv k)).puts.getD m aP).v].map (ab .i64)=((em.getD (((c.procs.getD k aa).puts.getD m aL).chan.toNat) [])++[(((bP c sv k)).puts.getD m aP).v]).map (ab .i64)))∧True)∧((sE (gI c cls i sv k vv tm0 m em) (True))∧(sE (jA c cls i sv k vv tm0 m em) ((em.getD (((c.procs.getD k aa).puts.getD m aL).chan.toNat) []).length+([(((bP c sv k)).puts.getD m aP).v].map (ab .i64)).length≤137438953472∧(em.getD (((c.procs.getD k aa).puts.getD m aL).chan.toNat) []).map (ab .i64)++[(((bP c sv k)).puts.getD m aP).v].map (ab .i64)=((em.getD (((c.procs.getD k aa).puts.getD m aL).chan.toNat) [])++[(((bP c sv k)).puts.getD m aP).v]).map (ab .i64)))∧True)∧((sE (gJ c cls i sv k vv tm0 m em) (True))∧(sE (jw c cls i sv k vv tm0 m em) (True))∧(sE (mY c cls i sv k vv tm0 m em) ((em.getD (((c.procs.getD k aa).puts.getD m aL).chan.toNat) []).length+([(((bP c sv k)).puts.getD m aP).v].map (ab .i64)).length≤137438953472∧(em.getD (((c.procs.getD k aa).puts.getD m aL).chan.toNat) []).map (ab .i64)++[(((bP c sv k)).puts.getD m aP).v].map (ab .i64)=((em.getD (((c.procs.getD k aa).puts.getD m aL).chan.toNat) [])++[(((bP c sv k)).puts.getD m aP).v]).map (ab .i64)))∧True)∧((sE (gJ c cls i sv k vv tm0 m em) (True))∧(sE (kZ c cls i sv k vv tm0 m em) ((em.getD (((c.procs.getD k aa).puts.getD m aL).chan.toNat) []).length+([(((bP c sv k)).puts.getD m aP).v].map (ab .i64)).length≤137438953472∧(em.getD (((c.procs.getD k aa).puts.getD m aL).chan.toNat) []).map (ab .i64)++[(((bP c sv k)).puts.getD m aP).v].map (ab .i64)=((em.getD (((c.procs.getD k aa).puts.getD m aL).chan.toNat) [])++[(((bP c sv k)).puts.getD m aP).v]).map (ab .i64)))∧True)∧((sE (jy c cls i sv k vv tm0 m em) (True))∧(sE (jx c cls i sv k vv tm0 m em) (True))∧(sE (rq c cls i sv k vv tm0 m em) ((em.getD (((c.procs.getD k aa).puts.getD m aL).chan.toNat) []).length+([(((bP c sv k)).puts.getD m aP).v].map (ab .i64)).length≤137438953472∧(em.getD (((c.procs.getD k aa).puts.getD m aL).chan.toNat) []).map (ab .i64)++[(((bP c sv k)).puts.getD m aP).v].map (ab .i64)=((em.getD (((c.procs.getD k aa).puts.getD m aL).chan.toNat) [])++[(((bP c sv k)).puts.getD m aP).v]).map (ab .i64)))∧True)∧((sE (rr c cls i sv k vv tm0 m em) (IX ((((c.procs.getD k aa).puts).getD m aL).chan) c.chans.length))∧True)∧((sE (jz c cls i sv k vv tm0 m em) (True))∧True)∧((sE (jz c cls i sv k vv tm0 m em) (True))∧True)∧((sE (jA c cls i sv k vv tm0 m em) (True))∧(sE (mX c cls i sv k vv tm0 m em) (True))∧True)∧((sE (jA c cls i sv k vv tm0 m em) (True))∧True)∧((sE (kZ c cls i sv k vv tm0 m em) (True))∧(sE (mY c cls i sv k vv tm0 m em) (True))∧True)∧((sE (rt c cls i sv k vv tm0 m em) (((((c.procs.getD k aa).puts).getD m aL).chan).toNat<c.chans.length∧rQ 1 c.chans.length (((((c.procs.getD k aa).puts).getD m aL).chan).toNat) 0 [(.own 28)] [28,5] (cK 5 28 (((c.procs.getD k aa).puts.getD m aL).chan.toNat)) (cT 5 28 (((c.procs.getD k aa).puts.getD m aL).chan.toNat))))∧True)∧True∧True)∧Lu c.chans.length c.chans.length 5 (((c.procs.getD k aa).puts.getD m aL).chan.toNat) 28 em (em.set (((c.procs.getD k aa).puts.getD m aL).chan.toNat) (em.getD (((c.procs.getD k aa).puts.getD m aL).chan.toNat) []++[(((bP c sv k)).puts.getD m aP).v])) ((em.getD (((c.procs.getD k aa).puts.getD m aL).chan.toNat) [])++[(((bP c sv k)).puts.getD m aP).v])∧K5 c.chans.length c.chans.length 5∧W6 ((m+1:Nat):Int)∧TT 1 (AG (kq c cls i sv k vv tm0) (m,em) (m+1,em.set (((c.procs.getD k aa).puts.getD m aL).chan.toNat) (em.getD (((c.procs.getD k aa).puts.getD m aL).chan.toNat) []++[(((bP c sv k)).puts.getD m aP).v]))))))) (W6 ((m+1:Nat):Int)∧TT 1 (AG (kq c cls i sv k vv tm0) (m,em) (m+1,em))))))) (True∧([(.var 33 (jv c)),(pn sv),.dead,.dead,.dead,(.grp c.chans.length (ca em)),.dead,.dead,.dead,(s5 c vv k),.dead,.dead,(.arrD 42 1 c.chans.length [5] (cG 5)),(rp c sv cls i),.dead,.dead,.dead,.dead,.dead,.dead,.dead,.dead,.dead,.dead,.frame tm0 (ko c cls i sv k)]:List aq)=(sA c cls i sv k vv)++.frame tm0 (ko c cls i sv k)::[]))))) (.l (kq c cls i sv k vv tm0) (0,bi c vv) (fun ⟨m,em⟩=>.b 12 (.b 21 (.gh 5 (take 12 5 (((c.procs.getD k aa).puts.getD m aL).chan.toNat) (cT 5 28 (((c.procs.getD k aa).puts.getD m aL).chan.toNat)))<|.y 5 [(7,.val (.own 28)),(14,.box 3 1 (ab .i64) 0 [(((bP c sv k)).puts.getD m aP).v]),(15,.box 3 1 (ab .i64) 0 ((em.getD (((c.procs.getD k aa).puts.getD m aL).chan.toNat) [])++[(((bP c sv k)).puts.getD m aP).v])),(17,.cells [28,5] (cT 5 28 (((c.procs.getD k aa).puts.getD m aL).chan.toNat)))] [((bm 18 32767),(gI c cls i sv k vv tm0 m em)),((bm 18 32766),(jw c cls i sv k vv tm0 m em)),((bm 18 32763),(gJ c cls i sv k vv tm0 m em)),((bm 18 32762),(jx c cls i sv k vv tm0 m em)),((bm 18 32761),(jy c cls i sv k vv tm0 m em)),((bm 18 32760),(mW c cls i sv k vv tm0 m em)),((bm 18 65535),(jz c cls i sv k vv tm0 m em)),((bm 18 65534),(mX c cls i sv k vv tm0 m em)),((bm 18 65531),(jA c cls i sv k vv tm0 m em)),((bm 18 65530),(mY c cls i sv k vv tm0 m em)),((bm 18 65529),(kZ c cls i sv k vv tm0 m em)),((bm 18 65528),(rq c cls i sv k vv tm0 m em)),((bm 18 131071),(rr c cls i sv k vv tm0 m em)),((bm 18 262143),(rt c cls i sv k vv tm0 m em))]<|.gh 6 (put 12 5 28 (((c.procs.getD k aa).puts.getD m aL).chan.toNat) c.chans.length (cG 5) (ca (em.set (((c.procs.getD k aa).puts.getD m aL).chan.toNat) (em.getD (((c.procs.getD k aa).puts.getD m aL).chan.toNat) []++[(((bP c sv k)).puts.getD m aP).v]))))<|.gh 6 (jE 12 c.chans.length [5] (cG 5))<|.w 6 [(0,.val (i6 ((m+1:Nat):Int)))]<|.e) (.w 6 [(0,.val (i6 ((m+1:Nat):Int)))]<|.e)) (.e))) Tryz.func75 rfl rfl (by kernel_rfl) ?_
             have hpl:((bP c sv k)).puts.length=(c.procs.getD k aa).puts.length:=eF _ _ _ _
             have ht3:(c.procs.getD k aa).puts.length≤100:=(hc.pr k (by omega)).pl
             refine tt ⟨rfl,⟨by omega,rfl⟩,?_⟩
             intro m em hinv
             obtain⟨hm,hem⟩:=hinv
             have hel:em.length=c.chans.length:=by rw[hem,cP];exact ao _ _
             refine tt (cd (fun hc12=>?_) (fun hc12=>?_))
             · refine tt ⟨ix,tt ⟨ix,tt ⟨fun hc21=>?_,fun hc21=>?_⟩⟩⟩
               · have hkt:m<(c.procs.getD k aa).puts.length:=by omega
                 have htk:0≤((c.procs.getD k aa).puts.getD m aL).chan∧((c.procs.getD k aa).puts.getD m aL).chan<c.chans.length:=⟨(hc.pt k (by omega) m hkt).1,(hc.pt k (by omega) m hkt).2.1⟩
                 have hfl:(em.getD ((c.procs.getD k aa).puts.getD m aL).chan.toNat []).length+1≤137438953472:=by
                   rw[hem]
                   exact Nat.le_trans (Nat.succ_le_succ (GY (p:=k) (by omega))) (by have:=hvl (((c.procs.getD k aa).puts.getD m aL).chan.toNat);have:=hln (((c.procs.getD k aa).puts.getD m aL).chan.toNat);omega)
                 refine⟨(IY om),tt ⟨ix,⟨⟨⟨om,oK⟩,w9⟩,tt ⟨ix,tt ⟨⟨⟨rfl,oK⟩,oK⟩,⟨⟨rfl,rfl,rfl,rfl,rfl,rfl,oK⟩,⟨⟨⟨⟨rfl,⟨by simp only[List.length_map,List.length_cons,List.length_nil];first | omega | (simp;first | done | omega),by simp only[List.map_append,List.map_nil,List.append_nil]⟩,oK⟩,oK⟩,⟨⟨rfl,oK,oK⟩,⟨rfl,⟨by simp only[List.length_map,List.length_cons,List.length_nil];first | omega | (simp;first | done | omega),by simp only[List.map_append,List.map_nil,List.append_nil]⟩,oK⟩,oK⟩,⟨⟨rfl,oK,oK⟩,⟨rfl,⟨by simp only[List.length_map,List.length_cons,List.length_nil];first | omega | (simp;first | done | omega),by simp only[List.map_append,List.map_nil,List.append_nil]⟩,oK⟩,oK⟩,⟨⟨rfl,oK,oK⟩,⟨rfl,oK,oK⟩,⟨rfl,⟨by simp only[List.length_map,List.length_cons,List.length_nil];first | omega | (simp;first | done | omega),by simp only[List.map_append,List.map_nil,List.append_nil]⟩,oK⟩,oK⟩,⟨⟨rfl,oK,oK⟩,⟨rfl,⟨by simp only[List.length_map,List.length_cons,List.length_nil];first | omega | (simp;first | done | omega),by simp only[List.map_append,List.map_nil,List.append_nil]⟩,oK⟩,oK⟩,⟨⟨rfl,oK,oK⟩,⟨rfl,oK,oK⟩,⟨rfl,⟨by simp only[List.length_map,List.length_cons,List.length_nil];first | omega | (simp;first | done | omega),by simp only[List.map_append,List.map_nil,List.append_nil]⟩,oK⟩,oK⟩,⟨⟨rfl,ix,oK⟩,oK⟩,⟨⟨rfl,oK,oK⟩,oK⟩,⟨⟨rfl,oK,oK⟩,oK⟩,⟨⟨rfl,oK,oK⟩,⟨rfl,oK,oK⟩,oK⟩,⟨⟨rfl,oK,oK⟩,oK⟩,⟨⟨rfl,oK,oK⟩,⟨rfl,oK,oK⟩,oK⟩,⟨⟨rfl,⟨om,z4 rfl⟩,oK⟩,oK⟩,oK,oK⟩,⟨(ou (by omega) (fun k9 hk9=>Hb (n:=c.chans.length) (R:=((c.procs.getD k aa).puts.getD m aL).chan.toNat) hk9 hel (by omega))),⟨(EF rfl),⟨w6,tt ⟨(m+1,em.set (((c.procs.getD k aa).puts.getD m aL).chan.toNat) (em.getD (((c.procs.getD k aa).puts.getD m aL).chan.toNat) []++[(((bP c sv k)).puts.getD m aP).v])),rfl,?_,(?_:(c.procs.getD k aa).puts.length-(m+1)<(c.procs.getD k aa).puts.length-m)⟩⟩⟩⟩⟩⟩⟩⟩⟩⟩⟩
                 · exact⟨by omega,by rw[tM hc21,hem];exact(ic _ _ _ _).symm⟩
                 · omega
               · refine⟨w6,tt ⟨(m+1,em),rfl,?_,(?_:(c.procs.getD k aa).puts.length-(m+1)<(c.procs.getD k aa).puts.length-m)⟩⟩
                 · exact⟨by omega,by rw[x9 hc21,hem]⟩
                 · omega
             · refine⟨oK,congrArg (fun (z0:List (List Int))=>([(.var 33 (jv c)),(pn sv),.dead,.dead,.dead,(.grp c.chans.length (ca z0)),.dead,.dead,.dead,(s5 c vv k),.dead,.dead,(.arrD 42 1 c.chans.length [5] (cG 5)),(rp c sv cls i),.dead,.dead,.dead,.dead,.dead,.dead,.dead,.dead,.dead,.dead,.frame tm0 (ko c cls i sv k)]:List aq)) (?_:em=(bi c (aj c vv k)))⟩
               rw[hem,show m=(c.procs.getD k aa).puts.length by omega,← yq hc (by omega),hst]
           refine⟨w6,tt ⟨(k+1,aj c vv k),rfl,?_,(?_:c.procs.length-(k+1)<c.procs.length-k)⟩⟩
           · exact⟨by omega,by rw[hvv];exact(IT hf).symm⟩
           · omega
         · have hf:aA c sv (bh c (cls.getD i .empty)) k=false:=by rw[← hc58];exact(aE (show k<c.procs.length by omega)).symm
           refine⟨w6,tt ⟨(k+1,vv),rfl,?_,(?_:c.procs.length-(k+1)<c.procs.length-k)⟩⟩
           · exact⟨by omega,by rw[hvv];exact(K3 hf).symm⟩
           · omega
       · refine tt ⟨w6,tt ⟨(i+1,bD c sv (bh c (cls.getD i .empty)),vv),rfl,?_,(?_:cls.length-(i+1)<cls.length-i)⟩⟩
         · exact⟨by omega,by rw[G6 (by omega),← hsv],by rw[hvv,show k=c.procs.length by omega,G7 (by omega),← hsv,← huv];rfl⟩
         · omega
     · refine⟨⟨(ao _ _),fun _ _=>rfl,Hc⟩,tt ⟨(congrArg _ (?_:(bi c uv)=((gV c inp cls).1))),(congrArg _ (?_:(bu c uv)=((gV c inp cls).2.1))),?_,oK⟩⟩
       all_goals (all_goals (first | (rw[tR (by rintro⟨q1,q2⟩;first | omega | (simp_all;done))];done) | (rw[mU (dP.2 hin) (by omega),← tV (show cls.length≤i by omega),← huv])))
 · refine tt ⟨(kk c inp hc (by omega) hsz),tt ⟨(mT hs0),tt ⟨?_,?_,?_,oK⟩⟩⟩
   all_goals (all_goals (first | (rw[tR (by rintro⟨q1,q2⟩;first | omega | (simp_all;done))];done) | (rw[mU (dP.2 hin) (by omega),← tV (show cls.length≤i by omega),← huv])))
end Go.Proofs.YtckgpflobhpnpaaGreat
