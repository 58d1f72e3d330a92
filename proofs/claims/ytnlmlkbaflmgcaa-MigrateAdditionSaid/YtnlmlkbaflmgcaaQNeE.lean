/- Parts of a proof. -/
import Derived.Test.YtnlmlkbaflmgcaaQMjG
import Derived.Test.YtnlmlkbaflmgcaaProg
namespace Go.Proofs.Ytnlmlkbaflmgcaa
open Go.RowKit
set_option linter.unusedVariables false
set_option linter.unusedSimpArgs false
def lU (t:Nat):List ByteArray:=[Hc 0,Hc 1,Hc 2,Hc 3,Hc 4]++(List.range t).map (fun u=>Jx++cz (4*u))
def lV (t:Nat):List ByteArray:=[Jt 0,Jt 1,Jt 2,Jt 3]++(List.range t).map (fun u=>Jy++cz (4*u))
def qL (i:Nat):List ByteArray:=Nf i::(List.range 6).map (fun u=>(Ni++b3 (u:Nat))++cz i)
theorem Nj {t:Nat} (h:t<6):∀x∈lU t,x≠Jx++cz (4*t):=by
 have:t=0∨t=1∨t=2∨t=3∨t=4∨t=5:=by omega
 rcases this with h | h | h | h | h | h<;>subst h<;>decide +kernel
theorem Nk {t:Nat} (h:t<6):∀x∈lV t,x≠Jy++cz (4*t):=by
 have:t=0∨t=1∨t=2∨t=3∨t=4∨t=5:=by omega
 rcases this with h | h | h | h | h | h<;>subst h<;>decide +kernel
theorem KD:∀x∈qL 0,∀y∈qL 1,x≠y:=by decide +kernel
theorem Mf {t:Nat} {k:ByteArray} (h:k∈lU t):k∈lU (t+1):=by
 unfold lU at *;rw[Q3,P9,← P3];exact QI _ h
theorem Mg (t:Nat):Jx++cz (4*t)∈lU (t+1):=by
 unfold lU;rw[Q3,P9];simp
theorem Mh {t:Nat} {k:ByteArray} (h:k∈lV t):k∈lV (t+1):=by
 unfold lV at *;rw[Q3,P9,← P3];exact QI _ h
theorem Mi (t:Nat):Jy++cz (4*t)∈lV (t+1):=by
 unfold lV;rw[Q3,P9];simp
theorem D2 (k:Int):b3 k=b3 ((k%6).toNat:Nat):=by
 unfold b3
 have:(((k%6).toNat:Nat):Int)%6=k%6:=by omega
 rw[this]
theorem Nl (k2:Int) {i:Nat} {old:ByteArray} (h:old∈qL i):pO Ni k2 i old∈qL i:=by
 unfold pO
 split
 ·unfold qL
  refine PN _ (List.mem_map.2 ⟨(k2 / 8%6).toNat,P1.2 (by omega),?_⟩)
  rw[← D2]
 ·exact h
structure KE (p:Pr):Prop where
 rl:p.Pe.length≤2
 ml:p.Pd.length≤1
 rn:∀i,i<p.Pe.length→ku p i∈qL i
 rk:Ay p
structure nC (c:Ci) (t:Nat):Prop where
 cl:c.J.length≤5
 pl:c.U.length≤4
 cn:∀j,j<c.J.length→bq c j∈lU t
 cd:gP (bq c) c.J.length
 pn:∀j,j<c.U.length→iT c j∈lV t
 pd:gP (iT c) c.U.length
 pr:∀j,j<c.U.length→KE (c.U.getD j ac)
theorem ci {α:Type} {l:List α} {i j:Nat} {x d:α} (hi:i<l.length):(l.set i x).getD j d=if j=i then x else l.getD j d:=by
 by_cases e:j=i
 ·subst e;rw[Pn rfl];exact xk hi
 ·rw[Pj e,P4,PA (fun h=>e h.symm),← P4]
theorem yW {f g:Nat→ByteArray} {n i:Nat} {x:ByteArray} (h:gP f n) (hx:∀j,j<n→f j≠x) (hg:∀j,g j=if j=i then x else f j):gP g n:=by
 intro a ha b hb
 rw[hg,hg]
 by_cases h1:b=i
 ·rw[Pn h1]
  by_cases h2:a=i
  ·omega
  ·rw[Pj h2];exact fun e=>hx a ha e.symm
 ·rw[Pj h1]
  by_cases h2:a=i
  ·rw[Pn h2];exact hx b (by omega)
  ·rw[Pj h2];exact h a ha b hb
theorem tP {f g:Nat→ByteArray} {n:Nat} (h:gP f n) (hg:∀j,g j=f j):gP g n:=by
 intro a ha b hb;rw[hg,hg];exact h a ha b hb
theorem yX (k1 k2:Int):0≤(gC k1 k2).kind∧(gC k1 k2).kind≤3:=by
 show 0≤k1%4∧k1%4≤3;omega
theorem KF {p:Pr} (h:KE p) (k0 k1 k2:Int):KE (cL p k0 k1 k2):=by
 have hl:=xl p k0 k1 k2
 refine⟨by rw[hl.1];exact h.rl,by rw[hl.2];exact h.ml,?_,?_⟩
 ·intro i hi
  rw[hl.1]at hi
  have h0:=h.rn i hi
  unfold cL ku
  split
  ·exact h0
  ·split
   ·rename_i Ux
    show((p.Pe.set _ _).getD i aK).name∈_
    rw[ci Ux]
    split
    ·rename_i e;subst e;exact Nl k2 h0
    ·exact h0
   ·exact h0
 ·refine⟨fun j hj=>?_,fun j hj=>?_⟩
  ·rw[hl.1]at hj
   have h0:=h.rk.1 j hj
   unfold cL
   split
   ·exact h0
   ·split
    ·rename_i Ux
     show 0≤((p.Pe.set _ _).getD j aK).rule.kind∧((p.Pe.set _ _).getD j aK).rule.kind≤3
     rw[ci Ux]
     split
     ·exact yX k1 k2
     ·exact h0
    ·exact h0
  ·rw[hl.2]at hj
   have h0:=h.rk.2 j hj
   unfold cL
   split
   ·exact h0
   ·rename_i Sm
    split
    ·exact h0
    ·rename_i Ux
     have RF:=xj (p:=p) k0 Sm
     show 0≤((p.Pd.set _ _).getD j aA).rule.kind∧((p.Pd.set _ _).getD j aA).rule.kind≤3
     rw[ci (by omega)]
     split
     ·exact yX k1 k2
     ·exact h0
theorem Gu (p:Pr) (k0 k1 k2:Int):(cL p k0 k1 k2).name=p.name:=by
 unfold cL;repeat' split
 all_goals rfl
theorem It {c:Ci} {t:Nat} (h:nC c t):nC c (t+1):=⟨h.cl,h.pl,fun j hj=>Mf (h.cn j hj),h.cd,fun j hj=>Mh (h.pn j hj),h.pd,h.pr⟩
theorem KG {c:Ci} {t:Nat} (b:List Int) (ht:t<6) (h:nC c t):nC (rq c b (4*t)) (t+1):=by
 have hm:=It h
 have Xl:∀j,j<c.J.length→bq c j≠Jx++cz (4*t):=fun j hj=>Nj ht _ (h.cn j hj)
 have hnp:∀j,j<c.U.length→iT c j≠Jy++cz (4*t):=fun j hj=>Nk ht _ (h.pn j hj)
 unfold rq
 split
 ·split
  ·rename_i hl
   have hi:=eP (b.getD (4*t+1) 0) hl
   generalize bB c.J (b.getD (4*t+1) 0)=i at hi ⊢
   have hg:∀j,bq (⟨c.U,c.J.set i { c.J.getD i aF with name:=Jx++cz (4*t) }⟩:Ci) j=if j=i then Jx++cz (4*t)else bq c j:=by
    intro j
    show((c.J.set i _).getD j aF).name=_
    rw[ci hi]
    split<;>rfl
   refine⟨by rw[PO];exact h.cl,h.pl,fun j hj=>?_,?_,hm.pn,h.pd,h.pr⟩
   ·rw[PO]at hj
    rw[hg]
    split
    ·exact Mg t
    ·exact hm.cn j hj
   ·rw[PO];exact yW h.cd Xl hg
  ·exact hm
 ·split
  ·split
   ·rename_i hl
    have hi:=eP (b.getD (4*t+1) 0) hl.1
    generalize bB c.J (b.getD (4*t+1) 0)=i at hi ⊢
    have hg:∀j,bq (⟨c.U,c.J.set i { c.J.getD i aF with cap:=1+b.getD (4*t+2) 0%8 }⟩:Ci) j=bq c j:=by
     intro j
     show((c.J.set i _).getD j aF).name=(c.J.getD j aF).name
     rw[ci hi]
     split
     ·rename_i e;rw[e]
     ·rfl
    refine⟨by rw[PO];exact h.cl,h.pl,fun j hj=>?_,?_,hm.pn,h.pd,h.pr⟩
    ·rw[PO]at hj
     rw[hg];exact hm.cn j hj
    ·rw[PO];exact tP h.cd hg
   ·exact hm
  ·split
   ·split
    ·rename_i hl
     have hi:=eP (b.getD (4*t+1) 0) hl
     generalize bB c.U (b.getD (4*t+1) 0)=i at hi ⊢
     have hg:∀j,iT (⟨c.U.set i { c.U.getD i ac with name:=Jy++cz (4*t) },c.J⟩:Ci) j=if j=i then Jy++cz (4*t)else iT c j:=by
      intro j
      show((c.U.set i _).getD j ac).name=_
      rw[ci hi]
      split<;>rfl
     refine⟨h.cl,by rw[PO];exact h.pl,hm.cn,h.cd,fun j hj=>?_,?_,fun j hj=>?_⟩
     ·rw[PO]at hj
      rw[hg]
      split
      ·exact Mi t
      ·exact hm.pn j hj
     ·rw[PO];exact yW h.pd hnp hg
     ·rw[PO]at hj
      rw[ci hi]
      split
      ·have q:=h.pr i hi;exact⟨q.rl,q.ml,q.rn,q.rk⟩
      ·exact h.pr j hj
    ·exact hm
   ·split
    ·rename_i hl
     have hi:=eP (b.getD (4*t+1) 0) hl
     generalize bB c.U (b.getD (4*t+1) 0)=i at hi ⊢
     generalize hk0:b.getD (4*t+2) 0=k0
     generalize Um:b.getD (4*t+3) 0=k1
     generalize Tl:b.getD (4*t) 0+k0=k2
     have hg:∀j,iT (⟨c.U.set i (cL (c.U.getD i ac) k0 k1 k2),c.J⟩:Ci) j=iT c j:=by
      intro j
      show((c.U.set i _).getD j ac).name=(c.U.getD j ac).name
      rw[ci hi]
      split
      ·rename_i e;rw[e,Gu]
      ·rfl
     refine⟨h.cl,by rw[PO];exact h.pl,hm.cn,h.cd,fun j hj=>?_,?_,fun j hj=>?_⟩
     ·rw[PO]at hj
      rw[hg];exact hm.pn j hj
     ·rw[PO];exact tP h.pd hg
     ·rw[PO]at hj
      rw[ci hi]
      split
      ·exact KF (h.pr i hi) _ _ _
      ·exact h.pr j hj
    ·exact hm
theorem Gv {c:Ci} (b:List Int) (h:nC c 0):∀t,t≤6→nC (uo c b t) t
 | 0,_=>h
 | t+1,ht=>KG b (by omega) (Gv b h t (by omega))
theorem Jz {c:Ci} {t:Nat} (h:nC c t):je c:=by
 refine⟨h.cd,h.pd,fun i hi=>?_,fun i hi=>?_⟩
 ·have q:=h.pr i hi
  intro a ha b hb
  have:=q.rl
  have e1:a=1:=by omega
  have e0:b=0:=by omega
  subst e1;subst e0
  have h0:=q.rn 0 (by omega)
  have h1:=q.rn 1 ha
  exact KD _ h0 _ h1
 ·intro a ha b hb
  have:=(h.pr i hi).ml
  omega
theorem Iu:gP Hc 5:=by unfold gP;decide +kernel
theorem Iv:gP Jt 4:=by unfold gP;decide +kernel
theorem ip (sh:Int) (b:List Int):(aB sh b).U.length=(aj sh).length∧(aB sh b).J.length=jR sh:=⟨aC _ _,aC _ _⟩
theorem Iw {sh:Int} {b:List Int} (hb:gf b):nC (aB sh b) 0:=by
 obtain⟨l1,l2⟩:=ip sh b
 have hp:=lR sh
 have hn:=(Az sh).2
 have ec:∀j,j<jR sh→bq (aB sh b) j=Hc j:=fun j hj=>by unfold bq aB;rw[aN hj];rfl
 have ep:∀j,j<(aj sh).length→(aB sh b).U.getD j ac=nX b (aj sh) j:=fun j hj=>aN hj
 have en:∀j,j<(aj sh).length→iT (aB sh b) j=Jt j:=fun j hj=>by unfold iT;rw[ep j hj];rfl
 refine⟨by omega,by omega,fun j hj=>?_,fun i hi j hj=>?_,fun j hj=>?_,fun i hi j hj=>?_,fun j hj=>?_⟩
 ·rw[l2]at hj
  rw[ec j hj]
  have:j=0∨j=1∨j=2∨j=3∨j=4:=by omega
  unfold lU
  rcases this with h | h | h | h | h<;>subst h<;>simp
 ·rw[l2]at hi
  rw[ec i hi,ec j (by omega)]
  exact Iu i (by omega) j hj
 ·rw[l1]at hj
  rw[en j hj]
  have:j=0∨j=1∨j=2∨j=3:=by omega
  unfold lV
  rcases this with h | h | h | h<;>subst h<;>simp
 ·rw[l1]at hi
  rw[en i hi,en j (by omega)]
  exact Iv i (by omega) j hj
 ·rw[l1]at hj
  rw[ep j hj]
  generalize uG b (aj sh) j=q0 at *
  have hy:=b5 hb (uG b (aj sh) j)
  have hr:=xh hy.1
  have hl:(nX b (aj sh) j).Pe.length=pY (b.getD (uG b (aj sh) j) 0):=aC _ _
  refine⟨by rw[hl];exact hr.2,Qb _,fun i hi=>?_,fun i hi=>?_,fun i hi=>?_⟩
  ·rw[hl]at hi
   have:ku (nX b (aj sh) j) i=Nf i:=by unfold ku;rw[show(nX b (aj sh) j).Pe.getD i aK=L3 b _ _ _ i from aN hi];rfl
   rw[this]
   exact PT
  ·rw[hl]at hi
   rw[show(nX b (aj sh) j).Pe.getD i aK=L3 b _ _ _ i from aN hi]
   show 0≤[1,1,0].getD _ (0:Int)∧[1,1,0].getD _ (0:Int)≤3
   generalize hz:(b.getD (uG b (aj sh) j) 0 / 16%3).toNat=z
   have:z=0∨z=1∨z=2:=by omega
   rcases this with h | h | h<;>subst h<;>decide
  ·exact absurd hi (Qy _)
theorem vS {sh:Int} {b:List Int}:∀i,i<(aB sh b).U.length→(aZ (aB sh b) i).Pd=[]:=fun i hi=>by
 rw[(ip sh b).1]at hi
 rw[show aZ (aB sh b) i=nX b (aj sh) i from aN hi];rfl
theorem Ix {c:Ci} {t:Nat} (h:nC c t) (hm:∀i,i<c.U.length→(aZ c i).Pd=[]) (b:List Int):nC (aG c b) t:=by
 have hl:=yQ c b
 have Ux:∀i,i<c.U.length→(aG c b).U.getD i ac=jZ (c.U.getD i ac) b i:=fun i hi=>Cm hi
 have hn:∀i,i<c.U.length→iT (aG c b) i=iT c i:=fun i hi=>by unfold iT;rw[Ux i hi,Gr]
 refine⟨h.cl,by rw[hl];exact h.pl,h.cn,h.cd,fun j hj=>?_,fun i hi j hj=>?_,fun j hj=>?_⟩
 ·rw[hl]at hj;rw[hn j hj];exact h.pn j hj
 ·rw[hl]at hi;rw[hn i hi,hn j (by omega)];exact h.pd i hi j hj
 ·rw[hl]at hj
  rw[Ux j hj]
  have q:=h.pr j hj
  have hr:=Gq (c.U.getD j ac) b j
  refine⟨by rw[hr];exact q.rl,?_,fun i hi=>?_,fun i hi=>?_,fun i hi=>?_⟩
  ·unfold jZ;split
   ·exact Pl 1
   ·exact q.ml
  ·unfold ku;rw[hr]at hi ⊢;exact q.rn i hi
  ·rw[hr]at hi ⊢;exact q.rk.1 i hi
  ·unfold jZ at hi ⊢
   split at hi
   ·rename_i hs
    rw[Pn hs]
    have:i=0:=by have:i<1:=hi;omega
    subst this
    exact⟨(by decide:(0:Int)≤1),(by decide:(1:Int)≤3)⟩
   ·rename_i hs
    rw[Pj hs]
    exact q.rk.2 i hi
structure eS (p q:Pr):Prop where
 rl:q.Pe.length=p.Pe.length
 ml:q.Pd.length=p.Pd.length
 rg:∀i,(q.Pe.getD i aK).w=(p.Pe.getD i aK).w∧(q.Pe.getD i aK).init=(p.Pe.getD i aK).init∧(q.Pe.getD i aK).next=(p.Pe.getD i aK).next
 mm:∀i,(q.Pd.getD i aA).w=(p.Pd.getD i aA).w∧(q.Pd.getD i aA).words=(p.Pd.getD i aA).words∧(q.Pd.getD i aA).enable=(p.Pd.getD i aA).enable∧(q.Pd.getD i aA).addr=(p.Pd.getD i aA).addr∧(q.Pd.getD i aA).data=(p.Pd.getD i aA).data
 tk:q.I=p.I
 pt:q.Pc=p.Pc
theorem iq (p:Pr):eS p p:=⟨rfl,rfl,fun _=>⟨rfl,rfl,rfl⟩,fun _=>⟨rfl,rfl,rfl,rfl,rfl⟩,rfl,rfl⟩
theorem Iy {p q:Pr} (h:eS p q):mz q=mz p∧Kg q=Kg p:=by
 have e1:q.Pe.map (·.w)=p.Pe.map (·.w):=by
  apply Qq
  ·simp[h.rl]
  ·intro i h1 h2
   have:=(h.rg i).1
   simp only[Py]at h1 h2
   rw[bk _ _ h1,bk _ _ h2]at this
   simpa using this
 have e2:q.Pd.map (·.w)=p.Pd.map (·.w):=by
  apply Qq
  ·simp[h.ml]
  ·intro i h1 h2
   have:=(h.mm i).1
   simp only[Py]at h1 h2
   rw[bk _ _ h1,bk _ _ h2]at this
   simpa using this
 unfold mz Kg
 rw[e1,e2,h.tk]
 exact⟨rfl,rfl⟩
theorem Iz {p q:Pr} (h:eS p q) (hp:hT p):hT q:=by
 obtain⟨e1,e2⟩:=Iy h
 refine⟨by rw[h.rl];exact hp.rl,by rw[h.ml];exact hp.ml,by rw[h.tk];exact hp.tl,by rw[h.pt];exact hp.pl,fun i hi=>?_,fun i hi=>?_,fun i hi=>?_,fun i hi=>?_⟩
 ·rw[h.rl]at hi
  have:=hp.rw i hi
  obtain⟨a,b,c⟩:=h.rg i
  unfold oL at this ⊢
  rw[e1,a,b,c];exact this
 ·rw[h.ml]at hi
  have:=hp.mw i hi
  obtain⟨a,b,c,d,e⟩:=h.mm i
  unfold eh at this ⊢
  rw[e1,a,b,c,d,e];exact this
 ·rw[h.tk]at hi
  have:=hp.tw i hi
  unfold ny at this ⊢
  rw[e2,h.tk];exact this
 ·rw[h.pt]at hi
  have:=hp.pw i hi
  unfold qu at this ⊢
  rw[e1,h.pt];exact this
theorem Gw (p:Pr) (k0 k1 k2:Int):eS p (cL p k0 k1 k2):=by
 obtain⟨l1,l2⟩:=xl p k0 k1 k2
 refine⟨l1,l2,fun i=>?_,fun i=>?_,?_,?_⟩
 ·unfold cL
  split
  ·exact⟨rfl,rfl,rfl⟩
  ·split
   ·rename_i Ux
    show((p.Pe.set _ _).getD i aK).w=_∧((p.Pe.set _ _).getD i aK).init=_∧((p.Pe.set _ _).getD i aK).next=_
    rw[ci Ux]
    split
    ·rename_i e;rw[e];exact⟨rfl,rfl,rfl⟩
    ·exact⟨rfl,rfl,rfl⟩
   ·exact⟨rfl,rfl,rfl⟩
 ·unfold cL
  split
  ·exact⟨rfl,rfl,rfl,rfl,rfl⟩
  ·rename_i Sm
   split
   ·exact⟨rfl,rfl,rfl,rfl,rfl⟩
   ·rename_i Ux
    have RF:=xj (p:=p) k0 Sm
    show((p.Pd.set _ _).getD i aA).w=_∧((p.Pd.set _ _).getD i aA).words=_∧((p.Pd.set _ _).getD i aA).enable=_∧((p.Pd.set _ _).getD i aA).addr=_∧((p.Pd.set _ _).getD i aA).data=_
    rw[ci (by omega)]
    split
    ·rename_i e;rw[e];exact⟨rfl,rfl,rfl,rfl,rfl⟩
    ·exact⟨rfl,rfl,rfl,rfl,rfl⟩
 ·unfold cL;repeat' split
  all_goals rfl
 ·unfold cL;repeat' split
  all_goals rfl
structure jz (c d:Ci):Prop where
 pl:d.U.length=c.U.length
 cl:d.J.length=c.J.length
 pr:∀i,i<c.U.length→eS (aZ c i) (aZ d i)
 cw:∀n,(eK d n).w=(eK c n).w∧(eK d n).frm=(eK c n).frm∧(eK d n).dst=(eK c n).dst
 cp:∀n,0≤(eK c n).cap→0≤(eK d n).cap
 cq:∀n,0<(eK c n).cap→0<(eK d n).cap
theorem i3 (c:Ci):jz c c:=⟨rfl,rfl,fun _ _=>iq _,fun _=>⟨rfl,rfl,rfl⟩,fun _ h=>h,fun _ h=>h⟩
theorem tQ {c d:Ci} (h:jz c d) (hc:bQ c):bQ d:=by
 refine⟨by rw[h.pl];exact hc.n1,by rw[h.pl];exact hc.nl,by rw[h.cl];exact hc.cl,fun i hi=>?_,fun i hi j hj=>?_,fun i hi j hj=>?_,fun i hi=>?_,fun i hi=>?_,fun n hn=>?_,fun n hn=>?_⟩
 ·rw[h.pl]at hi;exact Iz (h.pr i hi) (hc.pr i hi)
 ·rw[h.pl]at hi
  have q:=h.pr i hi
  rw[q.tk]at hj
  have:=hc.tk i hi j hj
  unfold vz ny at this ⊢
  rw[q.tk,h.cl,(h.cw _).1,(h.cw _).2.2];exact this
 ·rw[h.pl]at hi
  have q:=h.pr i hi
  rw[q.pt]at hj
  have:=hc.pt i hi j hj
  unfold r9 qu at this ⊢
  rw[q.pt,h.cl,(h.cw _).1,(h.cw _).2.1];exact this
 ·rw[h.pl]at hi
  have q:=h.pr i hi
  have:=hc.td i hi
  unfold vz ny at this ⊢
  rw[q.tk];exact this
 ·rw[h.pl]at hi
  have q:=h.pr i hi
  have:=hc.pd i hi
  unfold r9 qu at this ⊢
  rw[q.pt];exact this
 ·rw[h.cl]at hn;rw[(h.cw n).1];exact hc.cw n hn
 ·rw[h.cl]at hn;exact h.cp n (hc.cp n hn)
theorem AC {p q r:Pr} (h:eS p q) (h2:eS q r):eS p r :=
 ⟨h2.rl.trans h.rl,h2.ml.trans h.ml,fun i=>⟨(h2.rg i).1.trans (h.rg i).1,(h2.rg i).2.1.trans (h.rg i).2.1,(h2.rg i).2.2.trans (h.rg i).2.2⟩,
  fun i=>⟨(h2.mm i).1.trans (h.mm i).1,(h2.mm i).2.1.trans (h.mm i).2.1,(h2.mm i).2.2.1.trans (h.mm i).2.2.1,(h2.mm i).2.2.2.1.trans (h.mm i).2.2.2.1,(h2.mm i).2.2.2.2.trans (h.mm i).2.2.2.2⟩,h2.tk.trans h.tk,h2.pt.trans h.pt⟩
theorem yY {c d e:Ci} (h:jz c d) (h2:jz d e):jz c e :=
 ⟨h2.pl.trans h.pl,h2.cl.trans h.cl,fun i hi=>AC (h.pr i hi) (h2.pr i (by rw[h.pl];exact hi)),fun n=>⟨(h2.cw n).1.trans (h.cw n).1,(h2.cw n).2.1.trans (h.cw n).2.1,(h2.cw n).2.2.trans (h.cw n).2.2⟩,fun n hn=>h2.cp n (h.cp n hn),fun n hn=>h2.cq n (h.cq n hn)⟩
theorem Gx (c:Ci) (b:List Int) (i:Nat):jz c (rq c b i):=by
 unfold rq
 split
 ·split
  ·rename_i hl
   have hi:=eP (b.getD (i+1) 0) hl
   refine⟨rfl,by simp,fun _ _=>iq _,fun n=>?_,fun n hn=>?_,fun n hn=>?_⟩
   ·show((c.J.set _ _).getD n aF).w=_∧((c.J.set _ _).getD n aF).frm=_∧((c.J.set _ _).getD n aF).dst=_
    rw[ci hi];split
    ·rename_i e;rw[e];exact⟨rfl,rfl,rfl⟩
    ·exact⟨rfl,rfl,rfl⟩
   ·show 0≤((c.J.set _ _).getD n aF).cap
    rw[ci hi];split
    ·rename_i e;rw[e]at hn;exact hn
    ·exact hn
   ·show 0<((c.J.set _ _).getD n aF).cap
    rw[ci hi];split
    ·rename_i e;rw[e]at hn;exact hn
    ·exact hn
  ·exact i3 c
 ·split
  ·split
   ·rename_i hl
    have hi:=eP (b.getD (i+1) 0) hl.1
    refine⟨rfl,by simp,fun _ _=>iq _,fun n=>?_,fun n hn=>?_,fun n hn=>?_⟩
    ·show((c.J.set _ _).getD n aF).w=_∧((c.J.set _ _).getD n aF).frm=_∧((c.J.set _ _).getD n aF).dst=_
     rw[ci hi];split
     ·rename_i e;rw[e];exact⟨rfl,rfl,rfl⟩
     ·exact⟨rfl,rfl,rfl⟩
    ·show 0≤((c.J.set _ _).getD n aF).cap
     rw[ci hi];split
     ·show 0≤1+b.getD (i+2) 0%8;omega
     ·exact hn
    ·show 0<((c.J.set _ _).getD n aF).cap
     rw[ci hi];split
     ·show 0<1+b.getD (i+2) 0%8;omega
     ·exact hn
   ·exact i3 c
  ·split
   ·split
    ·rename_i hl
     have hi:=eP (b.getD (i+1) 0) hl
     refine⟨by simp,rfl,fun j hj=>?_,fun n=>⟨rfl,rfl,rfl⟩,fun n hn=>hn,fun n hn=>hn⟩
     show eS (c.U.getD j ac) ((c.U.set _ _).getD j ac)
     rw[ci hi];split
     ·rename_i e;rw[e];exact⟨rfl,rfl,fun _=>⟨rfl,rfl,rfl⟩,fun _=>⟨rfl,rfl,rfl,rfl,rfl⟩,rfl,rfl⟩
     ·exact iq _
    ·exact i3 c
   ·split
    ·rename_i hl
     have hi:=eP (b.getD (i+1) 0) hl
     refine⟨by simp,rfl,fun j hj=>?_,fun n=>⟨rfl,rfl,rfl⟩,fun n hn=>hn,fun n hn=>hn⟩
     show eS (c.U.getD j ac) ((c.U.set _ _).getD j ac)
     rw[ci hi];split
     ·rename_i e;rw[e];exact Gw _ _ _ _
     ·exact iq _
    ·exact i3 c
theorem tR (c:Ci) (b:List Int):∀t,jz c (uo c b t)
 | 0=>i3 c
 | t+1=>yY (tR c b t) (Gx _ _ _)
def n9 (c:Ci):Prop:=∀n,n<c.J.length→0≤(eK c n).frm→0≤(eK c n).dst→0<(eK c n).cap
theorem Gy (sh:Int) (b:List Int):n9 (aB sh b):=by
 intro n hn h1 h2
 rw[(ip sh b).2]at hn
 have e:eK (aB sh b) n=sj sh (aj sh) n:=aN hn
 rw[e]at h1 h2 ⊢
 show 0<(if 0≤vO (aj sh) n (aj sh).length∧0≤vN (aj sh) n (aj sh).length then 1+(sh / 6+n)%3 else 0)
 rw[Pn ⟨h1,h2⟩];omega
theorem D3 {c d:Ci} (h:jz c d) (hc:n9 c):n9 d:=by
 intro n hn h1 h2
 rw[h.cl]at hn
 rw[(h.cw n).2.1]at h1
 rw[(h.cw n).2.2]at h2
 exact h.cq n (hc n hn h1 h2)
def au (sx:Int) (b1 me:List Int):Ci:=aG (aB sx b1) me
def qM (sx:Int) (b1:List Int) (sy:Int) (b2:List Int) (oth:Bool) (fe me:List Int):Ci:=if oth=true then aG (aB sy b2) fe else au sx b1 me
def rJ (sx:Int) (b1:List Int) (sy:Int) (b2:List Int) (oth:Bool) (ed fe me:List Int):Ci:=dj (qM sx b1 sy b2 oth fe me) ed
def ba (sx:Int) (b1 fe pl me:List Int):Ns:=gB (au sx b1 me) (ck (au sx b1 me) (bM (au sx b1 me) fe) (pl.take (min pl.length 24))) me
structure xm (o n:Ci) (s:Ns):Prop where
 co:bQ o
 cn:bQ n
 no:je o
 nn:je n
 ro:∀i,i<o.U.length→Ay (o.U.getD i ac)
 rn:∀i,i<n.U.length→Ay (n.U.getD i ac)
 so:dn o s
 sm:rH s 100
 ko:n9 o
 kn:n9 n
theorem Gz (l:List Int):Df (l.length:Int) 24=((min l.length 24:Nat):Int):=by unfold Df;split<;>omega
theorem Co {sh:Int} {b:List Int} (h0:0≤sh) (h1:sh≤255) (hb:gf b) (me:List Int):bQ (aG (aB sh b) me)∧nC (aG (aB sh b) me) 0∧n9 (aG (aB sh b) me) :=
 ⟨Io (Ma h0 h1 hb) vS me,Ix (Iw hb) vS me,Gy sh b⟩
theorem IA {c:Ci} (hc:bQ c) (he:nC c 0) (hk:n9 c) (b:List Int):bQ (dj c b)∧nC (dj c b) (uq b)∧n9 (dj c b) :=
 ⟨tQ (tR c b _) hc,Gv b he _ (by unfold uq;omega),D3 (tR c b _) hk⟩
theorem JA {c:Ci} {t:Nat} (h:nC c t):∀j,Hf (c.U.getD j ac):=by
 intro j
 by_cases hj:j<c.U.length
 ·have q:=h.pr j hj
  have:=q.rl;have:=q.ml
  unfold Hf;omega
 ·rw[show c.U.getD j ac=ac from by simp[List.getD,P2 (show c.U.length≤j by omega)]]
  exact Qb _
theorem xn {sx:Int} {b1 me:List Int} (h0:0≤sx) (h1:sx≤255) (hb:gf b1):bQ (au sx b1 me)∧nC (au sx b1 me) 0∧n9 (au sx b1 me):=Co h0 h1 hb me
theorem GA {sx sy:Int} {b1 b2 fe me:List Int} {oth:Bool} (h0:0≤sx) (h1:sx≤255) (hb:gf b1) (g0:0≤sy) (g1:sy≤255) (SD:gf b2):bQ (qM sx b1 sy b2 oth fe me)∧nC (qM sx b1 sy b2 oth fe me) 0∧n9 (qM sx b1 sy b2 oth fe me):=by
 unfold qM;split
 ·exact Co g0 g1 SD fe
 ·exact xn h0 h1 hb
theorem Mj {sx:Int} {b1 fe pl me:List Int} (h0:0≤sx) (h1:sx≤255) (hb:gf b1) (hf:gf fe):dn (au sx b1 me) (ba sx b1 fe pl me)∧rH (ba sx b1 fe pl me) 100:=by
 have hc:=(xn (me:=me) h0 h1 hb).1
 have h2:=Cg hc hf _ (Pl _)
 have h3:=xi hc (pl.take (min pl.length 24)) h2.1 h2.2
 refine⟨Ip hc h3.1 me,fun n=>?_⟩
 have:=h3.2 n
 rw[PD]at this
 exact PZ this (by omega)
theorem IB {sx sy:Int} {b1 b2 ed fe pl me:List Int} {oth:Bool} (h0:0≤sx) (h1:sx≤255) (hb:gf b1) (g0:0≤sy) (g1:sy≤255) (SD:gf b2) (hf:gf fe) :
  xm (au sx b1 me) (rJ sx b1 sy b2 oth ed fe me) (ba sx b1 fe pl me):=by
 obtain⟨q1,q2,q3⟩:=xn (me:=me) h0 h1 hb
 obtain⟨m1,m2,m3⟩:=GA (oth:=oth) (fe:=fe) (me:=me) h0 h1 hb g0 g1 SD
 obtain⟨n1,n2,n3⟩:=IA m1 m2 m3 ed
 obtain⟨s1,s2⟩:=Mj (fe:=fe) (pl:=pl) (me:=me) h0 h1 hb hf
 exact⟨q1,n1,Jz q2,Jz n2,fun i hi=>(q2.pr i hi).rk,fun i hi=>(n2.pr i hi).rk,s1,s2,q3,n3⟩
theorem fA {α:Type} {l:List α} {i:Nat} {d:α} (h:l.length≤i):l.getD i d=d:=by simp[List.getD,P2 h]
theorem xo {o n:Ci} {s:Ns} (TA:bQ o) (Vg:bQ n) (hr:∀i,i<n.U.length→Ay (n.U.getD i ac)) (hs:dn o s) (hm:rH s 1000000):F3 o n s:=by
 have h1:=TA.cl;have h2:=Vg.cl;have h3:=TA.nl;have h4:=Vg.nl
 refine⟨⟨by omega,by omega,by omega,by omega,hs.pl,hs.cl,fun i hi=>(hs.pv i hi).rl,fun i hi=>(hs.pv i hi).ml,fun i hi=>?_,fun i hi=>?_,fun i hi=>(hr i hi).1,fun i hi j hj=>?_,hm⟩,fun i hi j hj=>?_,fun i hi j hj=>?_,fun i j=>?_⟩
 ·have q:=TA.pr i hi
  exact⟨PZ q.rl (by decide),PZ q.ml (by decide)⟩
 ·have q:=Vg.pr i hi
  exact⟨PZ q.rl (by decide),PZ q.ml (by decide)⟩
 ·have q:1≤((n.U.getD i ac).Pd.getD j aA).words∧((n.U.getD i ac).Pd.getD j aA).words≤4:=((Vg.pr i hi).mw j hj).2.1
  exact⟨(hr i hi).2 j hj,by omega,by omega⟩
 ·have q:1≤((n.U.getD i ac).Pe.getD j aK).w∧((n.U.getD i ac).Pe.getD j aK).w≤8:=aR.1 ((Vg.pr i hi).rw j hj).1
  omega
 ·have q:1≤((n.U.getD i ac).Pd.getD j aA).w∧((n.U.getD i ac).Pd.getD j aA).w≤8:=aR.1 ((Vg.pr i hi).mw j hj).1
  omega
 ·by_cases hi:i<o.U.length
  ·have q:=hs.pv i hi
   by_cases hj:j<(aZ o i).Pd.length
   ·have a1:(((s.U.getD i a8).Pd.getD j []).length:Int)=(eh (aZ o i) j).words:=q.mn j hj
    have:=((TA.pr i hi).mw j hj).2.1.2
    omega
   ·have W8:((s.U.getD i a8).Pd).length≤j:=by have a1:((s.U.getD i a8).Pd).length=(aZ o i).Pd.length:=q.ml;omega
    rw[fA W8];exact Qb _
  ·rw[fA (l:=s.U) (by rw[hs.pl];omega)];exact Qb _
theorem xm.rc {o n:Ci} {s:Ns} (h:xm o n s):F3 o n s:=xo h.co h.cn h.rn h.so (fun i=>PZ (h.sm i) (by decide))
theorem tS {c:Ci} (hc:bQ c):∀i,i<c.U.length→FZ (c.U.getD i ac):=fun i hi=>⟨PZ (hc.pr i hi).rl (by decide),PZ (hc.pr i hi).ml (by decide)⟩
theorem JB {o n:Ci} {s:Ns} {k:Nat} (hm:rH s k) (i:Nat):(cS o n s i).length≤k:=by
 unfold cS;split
 ·exact hm _
 ·exact Qb _
theorem AD {o n:Ci} {s:Ns} (Vg:bQ n) (hm:rH s 1000000):Js (ae o n s).1:=by
 have h2:=Vg.cl;have h4:=Vg.nl
 unfold ae
 split
 ·exact Kr
 ·have hp:∀i,(tab (eu o n s) n.U.length).getD i a8=if i<n.U.length then eu o n s i else a8:=fun i=>by
   split
   ·rename_i h;exact aN h
   ·rename_i h;exact kr (by omega)
  refine⟨by rw[aC];omega,by rw[aC];omega,fun i=>?_,fun i=>?_,fun i=>?_,fun i j=>?_⟩
  ·show((tab (cS o n s) n.J.length).getD i []).length≤_
   by_cases hi:i<n.J.length
   ·rw[aN hi];exact PZ (JB hm i) (by decide)
   ·rw[kr (by omega)];exact Qb _
  ·show((tab (eu o n s) n.U.length).getD i a8).Pe.length≤_
   rw[hp];split
   ·rename_i hi
    unfold eu FS;rw[aC];exact PZ (Vg.pr i hi).rl (by decide)
   ·exact Qb _
  ·show((tab (eu o n s) n.U.length).getD i a8).Pd.length≤_
   rw[hp];split
   ·rename_i hi
    unfold eu FS;rw[aC];exact PZ (Vg.pr i hi).ml (by decide)
   ·exact Qb _
  ·show(((tab (eu o n s) n.U.length).getD i a8).Pd.getD j []).length≤_
   rw[hp];split
   ·rename_i hi
    unfold eu FS
    by_cases hj:j<(n.U.getD i ac).Pd.length
    ·rw[aN hj]
     have q:((n.U.getD i ac).Pd.getD j aA).words≤4:=((Vg.pr i hi).mw j hj).2.1.2
     unfold fG
     rw[Py,List.length_range]
     omega
    ·rw[kr (by omega)];exact Qb _
   ·exact Qb _
def AE (r:ah) (g:Rg):Rg:={ g with rule:=r }
def AF (r:ah) (g:Mm):Mm:={ g with rule:=r }
def D4 (r:ah) (p:Pr):Pr:={ p with Pe:=p.Pe.map (AE r),Pd:=p.Pd.map (AF r) }
def aQ (c:Ci) (r:ah):Ci:=⟨tab (fun i=>D4 r (c.U.getD i ac)) c.U.length,c.J⟩
def ab (nm:ByteArray) (w:Int) (r:ah):Rg:=⟨nm,w,0,⟨16,e0,⟨0,e0⟩,⟨0,e0⟩,[]⟩,r⟩
def Nn:Ex:=⟨1,e0,⟨0,e0⟩,⟨1,e0⟩,[]⟩
def OB:Ex:=⟨1,e0,⟨0,e0⟩,⟨2,e0⟩,[]⟩
def ak (nm:ByteArray) (n:Int) (r:ah):Mm:=⟨nm,2,n,Nn,Nn,OB,r⟩
def am (r:List Rg) (m:List Mm):Ci:=⟨[⟨bs [112],bs [97],r,m,[],[]⟩],[]⟩
def ez (a b:Ns) (ea eb:Int):Bool:=decide (ea=eb)&&cx a b
theorem IC {a b:Ns} {ea eb:Int} (h:¬ea=eb):ez a b ea eb=false:=by unfold ez;rw[Pv h];rfl
theorem GB {a b:Ns} {ea eb:Int} (h:ea=eb):ez a b ea eb=cx a b:=by unfold ez;rw[Pq h];rfl
theorem tT (a:Ns) (e:Int):ez a a e e=true:=by rw[GB rfl];exact tL.2 rfl
theorem xp (a b:ByteArray):(a.toList==b.toList)=decide (a=b):=by
 by_cases h:a=b
 ·rw[h,Pq rfl];simp
 ·rw[Pv h];exact beq_eq_false_iff_ne.2 (fun e=>h (toList_inj e))
theorem KH {x y:ByteArray} (h:(!(x.toList==y.toList))=false):x=y:=by
 rw[xp]at h;simpa using h
theorem AH {x:ByteArray} (h:(!(x.toList==x.toList))=true):False:=by
 rw[xp]at h;simp at h
def rK:ah:=⟨1,e0,0⟩
def rC (s:ByteArray):ah:=⟨2,s,0⟩
def rA (s:ByteArray) (n:Int):ah:=⟨3,s,n⟩
def uI:Ci:=am [ab (bs [114]) 2 rK] [ak (bs [109]) 2 rK]
def Ml:Ci:=am [ab (bs [114]) 2 rK] []
def Mn:Ci:=am [ab (bs [120]) 1 (rC (bs [114]))] [ak (bs [110]) 4 (rC (bs [109]))]
def Mo:Ci:=am [ab (bs [120]) 3 (rA (bs [114]) 2)] [ak (bs [110]) 4 (rA (bs [109]) 1)]
def zC:Ns:=⟨[⟨[3],[[1,2]]⟩],[]⟩
def lf:Ci:=⟨[⟨bs [112],bs [97],[],[],[],[⟨0,2,Nn,OB⟩]⟩],[⟨bs [99],2,0,0,-1⟩]⟩
def Mp:Ns:=⟨[⟨[],[]⟩],[[1]]⟩
theorem OC:ae uI Ml zC=(⟨[⟨[3],[]⟩],[]⟩,0):=by rfl
theorem OD:ae uI Mn zC=(⟨[⟨[1],[[1,2,0,0]]⟩],[]⟩,0):=by rfl
theorem OE:ae uI Mo zC=(⟨[⟨[5],[[2,3,1,1]]⟩],[]⟩,0):=by rfl
theorem OZ:(ae lf Nc Mp).2=150:=by rfl
theorem O0:(ae lf lf Mp).2=0:=by rfl
theorem O1:bc lf Nc lf.J.length=[bs [99]]:=by rfl
theorem O2:de uI uI=true:=by
 unfold de kY jn H2 H3 e7 ew jo nW
 simp only[xp]
 decide +kernel
theorem O3:de uI (am [] [])=false:=by
 refine io (i:=0) (by decide) ?_
 unfold kY jn H2 H3 e7 ew jo
 simp only[xp]
 decide +kernel
theorem tU {o n:Ci} {s:Ns} (h1:o.J.length≤1000000) (h2:n.J.length≤1000000) (h3:o.U.length≤1000000) (h4:n.U.length≤1000000) (h5:s.U.length=o.U.length) (h6:s.J.length=o.J.length)
  (h7:∀i,i<o.U.length→(s.U.getD i a8).Pe.length=(o.U.getD i ac).Pe.length∧(s.U.getD i a8).Pd.length=(o.U.getD i ac).Pd.length∧(o.U.getD i ac).Pe.length≤1000000∧(o.U.getD i ac).Pd.length≤1000000)
  (h8:∀i,i<n.U.length→(n.U.getD i ac).Pe.length≤1000000∧(n.U.getD i ac).Pd.length≤1000000∧(∀j,j<(n.U.getD i ac).Pe.length→0≤((n.U.getD i ac).Pe.getD j aK).rule.kind∧((n.U.getD i ac).Pe.getD j aK).rule.kind≤3)∧∀j,j<(n.U.getD i ac).Pd.length→(0≤((n.U.getD i ac).Pd.getD j aA).rule.kind∧((n.U.getD i ac).Pd.getD j aA).rule.kind≤3)∧0≤((n.U.getD i ac).Pd.getD j aA).words∧((n.U.getD i ac).Pd.getD j aA).words≤1000000)
  (h9:rH s 1000000):lP o n s :=
 ⟨h1,h2,h3,h4,h5,h6,fun i hi=>(h7 i hi).1,fun i hi=>(h7 i hi).2.1,fun i hi=>(h7 i hi).2.2,fun i hi=>⟨(h8 i hi).1,(h8 i hi).2.1⟩,fun i hi=>(h8 i hi).2.2.1,fun i hi=>(h8 i hi).2.2.2,h9⟩
theorem KI:rH zC 1000000:=Jv (by decide)
theorem Mq:rH Mp 1000000:=Jv (by decide)
theorem No:lP uI Ml zC:=tU (by decide) (by decide) (by decide) (by decide) rfl rfl (by decide) (by decide) KI
theorem Np:lP uI Mn zC:=tU (by decide) (by decide) (by decide) (by decide) rfl rfl (by decide) (by decide) KI
theorem Nq:lP uI Mo zC:=tU (by decide) (by decide) (by decide) (by decide) rfl rfl (by decide) (by decide) KI
theorem Nr:lP lf Nc Mp:=tU (by decide) (by decide) (by decide) (by decide) rfl rfl (by decide) (by decide) Mq
theorem Nt:lP lf lf Mp:=tU (by decide) (by decide) (by decide) (by decide) rfl rfl (by decide) (by decide) Mq
theorem tV {α:Type} {l:List α} {d:α} {P:α→Prop} (h:∀x∈l,P x) (hd:P d) (i:Nat):P (l.getD i d):=by
 by_cases hi:i<l.length
 ·rw[bk _ _ hi];exact h _ (QX hi)
 ·rw[fA (by omega)];exact hd
theorem xq {a:Ns} (h1:a.U.length≤1000000) (h2:a.J.length≤1000000) (h3:∀l∈a.J,l.length≤1099511627776) (h4:∀p∈a.U,p.Pe.length≤1000000∧p.Pd.length≤1000000∧∀l∈p.Pd,l.length≤1000000):Js a:=by
 have hp:=fun i=>tV (d:=a8) (P:=fun (p:Ps)=>p.Pe.length≤1000000∧p.Pd.length≤1000000∧∀l∈p.Pd,l.length≤1000000) h4 ⟨Qb _,Qb _,fun l hl=>by cases hl⟩ i
 exact⟨h1,h2,fun n=>tV (P:=fun (l:List Int)=>l.length≤1099511627776) h3 (Qb _) n,fun i=>(hp i).1,fun i=>(hp i).2.1,fun i j=>tV (P:=fun (l:List Int)=>l.length≤1000000) (hp i).2.2 (Qb _) j⟩
theorem Nu:ez (ae uI Ml zC).1 ⟨[⟨[3],[]⟩],[]⟩ (ae uI Ml zC).2 0=true:=by rw[OC];exact tT _ _
theorem Nv:ez (ae uI Mn zC).1 ⟨[⟨[1],[[1,2,0,0]]⟩],[]⟩ (ae uI Mn zC).2 0=true:=by rw[OD];exact tT _ _
theorem Nw:ez (ae uI Mo zC).1 ⟨[⟨[5],[[2,3,1,1]]⟩],[]⟩ (ae uI Mo zC).2 0=true:=by rw[OE];exact tT _ _
theorem Nx:Js (ae uI Ml zC).1:=by rw[OC];exact xq (by decide) (by decide) (by decide) (by decide)
theorem Ny:Js (ae uI Mn zC).1:=by rw[OD];exact xq (by decide) (by decide) (by decide) (by decide)
theorem Nz:Js (ae uI Mo zC).1:=by rw[OE];exact xq (by decide) (by decide) (by decide) (by decide)
theorem NA:¬de uI (am [] [])=true:=by rw[O3];simp
theorem KJ:∀i,i<uI.U.length→FZ (uI.U.getD i ac):=by unfold FZ;decide
theorem NB:∀i,i<(am [] []).U.length→FZ ((am [] []).U.getD i ac):=by unfold FZ;decide
theorem GC {o n:Ci} (nn:je n) {i:Nat} (h:Av o n i=false):∃k,k<n.J.length∧bq n k=bq o i∧(n.J.getD k aF).w=(o.J.getD i aF).w:=by
 rcases jy nn.cn (bq o i)with ⟨k,hk,e,_,_,h3⟩ | ⟨_,_,h3⟩
 ·refine⟨k,hk,e,?_⟩
  unfold Av at h
  rw[show qH n (bq o i)=Ax (bq n) n.J.length (bq o i)from rfl,h3,Bool.or_eq_false_iff]at h
  simpa using h.2
 ·rw[Nd (show qH n (bq o i)<0 by rw[show qH n (bq o i)=Ax (bq n) n.J.length (bq o i)from rfl,h3];omega)]at h
  cases h
theorem Cp {o n:Ci} (nn:je n) {i:Nat} (h:Av o n i=true) {k:Nat} (hk:k<n.J.length) (e:bq n k=bq o i):(n.J.getD k aF).w≠(o.J.getD i aF).w:=by
 unfold Av at h
 rw[show qH n (bq o i)=Ax (bq n) n.J.length (bq o i)from rfl,← e,qI nn.cn hk,PS]at h
 rcases h with h | h
 ·have:=Qt h;omega
 ·simpa using h
theorem Cq {o n:Ci} (no:je o) {i:Nat} (hi:i<o.J.length):Ej (vK o n) (bq o i)=Av o n i:=by
 rw[Bool.eq_iff_iff,w7]
 unfold vK
 rw[w8]
 constructor
 ·rintro⟨j,hj,a,b⟩
  have:=no.cn.inj hj hi b
  subst this;exact a
 ·intro h;exact⟨i,hi,h,rfl⟩
theorem IE {o n:Ci} {s:Ns} (no:je o) (nn:je n) {i k:Nat} (hi:i<o.J.length) (hk:k<n.J.length) (e:bq o i=bq n k) :
  cS o n s k=if (o.J.getD i aF).w=(n.J.getD k aF).w then s.J.getD i []else []:=by
 rw[se no nn]
 unfold rj
 rw[show qH o (bq n k)=Ax (bq o) o.J.length (bq n k)from rfl,← e,qI no.cn hi,P7,Cq no hi]
 cases h:Av o n i
 ·obtain⟨k',Si,e',hw⟩:=GC nn h
  have:k'=k:=nn.cn.inj Si hk (e'.trans e)
  subst this
  rw[Pn ⟨by omega,rfl⟩,Pn hw.symm]
 ·have:=Cp nn h hk e.symm
  rw[Pj (by simp),Pj (fun hh=>this hh.symm)]
theorem AI {o n:Ci} {s:Ns} (hm:rH s 1000000):rH (ae o n s).1 1000000:=by
 intro k
 unfold ae
 split
 ·exact Qb _
 ·show((tab (cS o n s) n.J.length).getD k []).length≤_
  by_cases hi:k<n.J.length
  ·rw[aN hi];exact JB hm k
  ·rw[kr (by omega)];exact Qb _
abbrev CC (c:Ct):Prop:=aq Try.prog c.f c.q' [] c.al c.r []
abbrev CK (c:Ct):Prop:=rz [] c.q' c.q'∧aq Try.prog c.f c.q' [] c.al c.r []
abbrev CO (c:Fc):Prop:=aq Try.prog c.f c.q' [] false c.r [c.B]
set_option maxRecDepth 100000
abbrev Mr (w:Int):Ct:=⟨87,[(i6 w)],false,(i6 (aE w))⟩
theorem Cr (w:Int):CC (Mr w):=by
 refine aq.vc (V:=TT 1 (CS (w<0) (TT 2 ((True∧(decide (w<0))=true)∧TT 5 ((0:Int)=(aE w)∧True))) (TT 2 ((True∧(decide (w<0))=false)∧TT 3 (CD (w>62) (TT 2 ((0:Int)=(aE w)∧True)) (TT 1 (SH w∧W6 ((2^w.toNat)-1)∧TT 2 (((2^w.toNat)-1)=(aE w)∧True)))))))) (.s 1 (w<0) (.w 1 [(2,.val (dB true))]<|.e) (.w 1 [(2,.val (dB false))]<|.b 8 (.e) (.w 3 [(1,.val (i6 (2^w.toNat))),(2,.val (i6 ((2^w.toNat)-1)))]<|.e))) Try.func87 rfl rfl rfl (by kernel_rfl) ?_
 refine tt ⟨fun Ru=>?_,fun Ru=>?_⟩
 · refine tt ⟨(vT Ru),tt ⟨?_,oK⟩⟩
   unfold aE;first | exact(Pn (by omega)).symm | exact(Pj (by omega)).symm
 · refine tt ⟨(vF Ru),tt (cd (fun WR=>?_) (fun WR=>?_))⟩
   · refine tt ⟨?_,oK⟩
     unfold aE;first | exact(Pn (by omega)).symm | exact(Pj (by omega)).symm
   · refine tt ⟨sh,⟨(w6 (by have:=lJ (n:=w.toNat) (by omega);omega) (by have:=lJ (n:=w.toNat) (by omega);omega)),tt ⟨?_,oK⟩⟩⟩
     unfold aE;first | exact(Pn (by omega)).symm | exact(Pj (by omega)).symm
abbrev JC (c:Ci) (i:Nat) (s:Ns):ax:=(.var 124 [(dS ((c.U.getD i ac).name)),(dS ((c.U.getD i ac).clock)),(dL 13 bG aK ((c.U.getD i ac).Pe)),(dL 27 bS aA ((c.U.getD i ac).Pd)),(dL 9 dU bV ((c.U.getD i ac).I)),(dL 16 dT b4 ((c.U.getD i ac).Pc)),(LI ((s.U.getD i a8).Pe)),(dL 1 af [] ((s.U.getD i a8).Pd)),(.own 10),(.own 11)])
abbrev JD (c:Ci) (i:Nat):ax:=(.var 80 [(dS ((c.U.getD i ac).name)),(dS ((c.U.getD i ac).clock)),(dL 13 bG aK ((c.U.getD i ac).Pe)),(dL 27 bS aA ((c.U.getD i ac).Pd)),(dL 9 dU bV ((c.U.getD i ac).I)),(dL 16 dT b4 ((c.U.getD i ac).Pc))])
abbrev vU (c:Ci):List D:=[(dL 6 bp ac c.U),(dL 5 bP aF c.J)]
abbrev Cs (s:Ns):List D:=[(dL 2 bo a8 s.U),(dL 1 af [] s.J)]
set_option maxRecDepth 100000
abbrev KK (c:Ci):Ct:=⟨38,[(.agg (vU c))],true,(.v (.sm false (aa .i64) 0 (b9 [] (bq c) c.J.length)))⟩
abbrev gi (c:Ci):Lp (Nat):=iC [3,8,9,10] 2 (fun (i:Nat)=>⟨[(3,(.own 1)),(8,(dL 5 bP aF c.J)),(9,(i6 (c.J.length:Int))),(10,(i6 (i:Int)))],[(.var 31 (vU c)),(.mpb 92 false (aa .i64) 0 (b9 [] (bq c) i))]⟩) (fun (i:Nat)=>i≤c.J.length) (fun (i:Nat)=>c.J.length-i)
theorem oV (c:Ci) (hl:c.J.length≤137438953472):CC (KK c):=by
 refine aq.vc (V:=TT 8 (GO (gi c) 0 (∀i,(gi c).inv i→TT 1 (CD ((i:Int)<(c.J.length:Int)) (TT 1 (IX (i:Int) c.J.length∧TT 8 (dJ ((b9 [] (bq c) i).map (fun z9=>(z9.1,(aa .i64) z9.2))) ((c.J.getD i aF).name) [(.int .i64 (i:Int))]=(b9 [] (bq c) (i+1)).map (fun z9=>(z9.1,(aa .i64) z9.2))∧W6 ((i+1:Nat):Int)∧TT 1 (AG (gi c) i (i+1))))) (TT 3 ((b9 [] (bq c) i).map (fun z9=>(z9.1,(aa .i64) z9.2))=(b9 [] (bq c) c.J.length).map (fun z9=>(z9.1,(aa .i64) z9.2)))))))) (.w 1 [(0,.mbox 92 false (aa .i64) 0 [])]<|.l (gi c) 0 (fun i=>.b 11 (.w 5 [(4,.mbox 92 false (aa .i64) 0 (b9 [] (bq c) (i+1)))]<|.w 6 [(0,.val (i6 ((i+1:Nat):Int)))]<|.e) (.f 7 1<|.e))) Try.func38 rfl rfl rfl (by kernel_rfl) ?_
 refine tt ⟨rfl,(by omega),?_⟩
 intro i F'
 have hi:=F'
 refine tt (cd (fun V'=>?_) (fun V'=>?_))
 · refine tt ⟨ix,tt ⟨(ln _ _ _ _),⟨w6,tt ⟨(i+1),rfl,(?_:(i+1)≤c.J.length),(?_:c.J.length-(i+1)<c.J.length-i)⟩⟩⟩⟩
   · omega
   · omega
 · have SK:i=c.J.length:=by omega
   refine tt ?_
   rw[SK]
abbrev NC (c:Ci) (s:Ns):Ct:=⟨59,[(.agg (vU c)),(.agg (Cs s))],true,(.v (.sm true lN bt (bv c s c.U.length)))⟩
abbrev hU (c:Ci) (s:Ns):Lp (Nat):=iC [3,5,15,16,17] 3 (fun (i:Nat)=>⟨[(3,(.ptr 1 0 0 0)),(5,(.own 2)),(15,(dL 6 bp ac c.U)),(16,(i6 (c.U.length:Int))),(17,(i6 (i:Int)))],[(.var 31 (vU c)),(.var 35 (Cs s)),(.mpb 121 true lN bt (bv c s i))]⟩) (fun (i:Nat)=>i≤c.U.length) (fun (i:Nat)=>c.U.length-i)
abbrev ia (c:Ci) (s:Ns) (i:Nat):Lp (Nat):=iC [3,5,7,8,15,16,17,32,33,34] 14 (fun (j:Nat)=>⟨[(3,(.ptr 1 0 0 0)),(5,(.own 2)),(7,(.ptr 3 0 0 0)),(8,(.ptr 13 0 0 0)),(15,(dL 6 bp ac c.U)),(16,(i6 (c.U.length:Int))),(17,(i6 (i:Int))),(32,(dL 13 bG aK ((c.U.getD i ac).Pe))),(33,(i6 ((((c.U.getD i ac).Pe).length:Nat):Int))),(34,(i6 (j:Int)))],[(.var 31 (vU c)),(.var 35 (Cs s)),(.mpb 121 true lN bt (bv c s i)),(JD c i),.dead,.dead,.dead,.dead,.dead,.dead,(.mpb 92 false (aa .i64) 0 (b9 [] (ku (c.U.getD i ac)) j)),(.mpb 92 false (aa .i64) 0 ([]:List (ByteArray×Int))),.dead,(JC c i s)]⟩) (fun (j:Nat)=>j≤(c.U.getD i ac).Pe.length) (fun (j:Nat)=>(c.U.getD i ac).Pe.length-j)
abbrev ib (c:Ci) (s:Ns) (i:Nat) (j:Nat):Lp (Nat):=iC [3,5,7,8,15,16,17,46,47,48] 14 (fun (k:Nat)=>⟨[(3,(.ptr 1 0 0 0)),(5,(.own 2)),(7,(.ptr 3 0 0 0)),(8,(.ptr 13 0 0 0)),(15,(dL 6 bp ac c.U)),(16,(i6 (c.U.length:Int))),(17,(i6 (i:Int))),(46,(dL 27 bS aA ((c.U.getD i ac).Pd))),(47,(i6 ((((c.U.getD i ac).Pd).length:Nat):Int))),(48,(i6 (k:Int)))],[(.var 31 (vU c)),(.var 35 (Cs s)),(.mpb 121 true lN bt (bv c s i)),(JD c i),.dead,.dead,.dead,.dead,.dead,.dead,(.mpb 92 false (aa .i64) 0 (b9 [] (ku (c.U.getD i ac)) j)),(.mpb 92 false (aa .i64) 0 (b9 [] (qy (c.U.getD i ac)) k)),.dead,(JC c i s)]⟩) (fun (k:Nat)=>k≤(c.U.getD i ac).Pd.length) (fun (k:Nat)=>(c.U.getD i ac).Pd.length-k)
theorem D5 (c:Ci) (s:Ns) (hl:c.U.length≤137438953472) (hsl:s.U.length=c.U.length) (hr:∀i,i<c.U.length→(c.U.getD i ac).Pe.length≤137438953472∧(c.U.getD i ac).Pd.length≤137438953472):CC (NC c s):=by
 refine aq.vc (V:=TT 9 (GO (hU c s) 0 (∀i,(hU c s).inv i→TT 1 (CD ((i:Int)<(c.U.length:Int)) (TT 1 (IX (i:Int) c.U.length∧TT 8 (IX (i:Int) s.U.length∧TT 10 (GO (ia c s i) 0 (∀j,(ia c s i).inv j→TT 1 (CD ((j:Int)<((((c.U.getD i ac).Pe).length:Nat):Int)) (TT 1 (IX (j:Int) (((c.U.getD i ac).Pe).length)∧TT 9 (dJ ((b9 [] (ku (c.U.getD i ac)) j).map (fun z9=>(z9.1,(aa .i64) z9.2))) ((((c.U.getD i ac).Pe).getD j aK).name) [(.int .i64 (j:Int))]=(b9 [] (ku (c.U.getD i ac)) (j+1)).map (fun z9=>(z9.1,(aa .i64) z9.2))∧W6 ((j+1:Nat):Int)∧TT 1 (AG (ia c s i) j (j+1))))) (TT 4 (GO (ib c s i j) 0 (∀k,(ib c s i j).inv k→TT 1 (CD ((k:Int)<((((c.U.getD i ac).Pd).length:Nat):Int)) (TT 1 (IX (k:Int) (((c.U.getD i ac).Pd).length)∧TT 9 (dJ ((b9 [] (qy (c.U.getD i ac)) k).map (fun z9=>(z9.1,(aa .i64) z9.2))) ((((c.U.getD i ac).Pd).getD k aA).name) [(.int .i64 (k:Int))]=(b9 [] (qy (c.U.getD i ac)) (k+1)).map (fun z9=>(z9.1,(aa .i64) z9.2))∧W6 ((k+1:Nat):Int)∧TT 1 (AG (ib c s i j) k (k+1))))) (TT 4 (dJ ((bv c s i).map (fun z9=>(z9.1,lN z9.2))) ((c.U.getD i ac).name) [(.str ((c.U.getD i ac).name)),(.str ((c.U.getD i ac).clock)),(.sl 13 bG aK ((c.U.getD i ac).Pe)),(.sl 27 bS aA ((c.U.getD i ac).Pd)),(.sl 9 dU bV ((c.U.getD i ac).I)),(.sl 16 dT b4 ((c.U.getD i ac).Pc)),(.sl 1 (aa .i64) 0 ((s.U.getD i a8).Pe)),(.sl 1 af [] ((s.U.getD i a8).Pd)),(.sm false (aa .i64) 0 (b9 [] (ku (c.U.getD i ac)) j)),(.sm false (aa .i64) 0 (b9 [] (qy (c.U.getD i ac)) k))]=(bv c s (i+1)).map (fun z9=>(z9.1,lN z9.2))∧W6 ((i+1:Nat):Int)∧TT 1 (AG (hU c s) i (i+1)))))))))))))) (TT 3 ((bv c s i).map (fun z9=>(z9.1,lN z9.2))=(bv c s c.U.length).map (fun z9=>(z9.1,lN z9.2)))))))) (.w 1 [(0,.mbox 121 true lN bt [])]<|.l (hU c s) 0 (fun i=>.b 18 (.w 5 [(6,.mbox 92 false (aa .i64) 0 []),(7,.mbox 92 false (aa .i64) 0 [])]<|.l (ia c s i) 0 (fun j=>.b 35 (.w 9 [(5,.mbox 92 false (aa .i64) 0 (b9 [] (ku (c.U.getD i ac)) (j+1)))]<|.w 10 [(0,.val (i6 ((j+1:Nat):Int)))]<|.e) (.l (ib c s i j) 0 (fun k=>.b 49 (.w 14 [(5,.mbox 92 false (aa .i64) 0 (b9 [] (qy (c.U.getD i ac)) (k+1)))]<|.w 15 [(0,.val (i6 ((k+1:Nat):Int)))]<|.e) (.f 16 10<|.f 16 11<|.w 16 [(4,.mbox 121 true lN bt (bv c s (i+1)))]<|.w 17 [(0,.val (i6 ((i+1:Nat):Int)))]<|.e))))) (.f 18 2<|.e))) Try.func59 rfl rfl rfl (by kernel_rfl) ?_
 refine tt ⟨rfl,(by omega),?_⟩
 intro i F'
 have hi:=F'
 refine tt (cd (fun Vs=>?_) (fun Vs=>?_))
 · refine tt ⟨ix,?_⟩
   have Ur:=hr i (by omega)
   refine tt ⟨ix,tt ⟨rfl,(by omega),?_⟩⟩
   intro j F'
   have hj:=F'
   refine tt (cd (fun RX=>?_) (fun RX=>?_))
   · refine tt ⟨ix,tt ⟨(ln _ _ _ _),⟨w6,tt ⟨(j+1),rfl,(?_:(j+1)≤(c.U.getD i ac).Pe.length),(?_:(c.U.getD i ac).Pe.length-(j+1)<(c.U.getD i ac).Pe.length-j)⟩⟩⟩⟩
     · omega
     · omega
   · have Wv:j=(c.U.getD i ac).Pe.length:=by omega
     refine tt ⟨rfl,(by omega),?_⟩
     intro k F'
     have hk:=F'
     refine tt (cd (fun hc49=>?_) (fun hc49=>?_))
     · refine tt ⟨ix,tt ⟨(ln _ _ _ _),⟨w6,tt ⟨(k+1),rfl,(?_:(k+1)≤(c.U.getD i ac).Pd.length),(?_:(c.U.getD i ac).Pd.length-(k+1)<(c.U.getD i ac).Pd.length-k)⟩⟩⟩⟩
       · omega
       · omega
     · have S6:k=(c.U.getD i ac).Pd.length:=by omega
       refine tt ⟨(by rw[Wv,S6];exact ln lN (ex c s i) (iT c i) (bv c s i)),⟨w6,tt ⟨(i+1),rfl,(?_:(i+1)≤c.U.length),(?_:c.U.length-(i+1)<c.U.length-i)⟩⟩⟩
       · omega
       · omega
 · have SK:i=c.U.length:=by omega
   refine tt ?_
   rw[SK]
abbrev JE (o n:Ci):Ct:=⟨14,[(.agg [(dL 6 bp ac o.U),(dL 5 bP aF o.J)]),(.agg [(dL 6 bp ac n.U),(dL 5 bP aF n.J)])],true,(dL 1 dk .empty (bc o n o.J.length))⟩
abbrev d9 (o:Ci) (n:Ci):Lp (Nat×List ByteArray):=o0 [3,5,6,14,15,16] 3 (fun (i:Nat) (RM:List ByteArray)=>⟨[(3,(.ptr 1 0 0 0)),(5,(.v (.sm false (aa .i64) 0 (b9 [] (bq n) n.J.length)))),(6,(.own 2)),(14,(dL 5 bP aF o.J)),(15,(i6 (o.J.length:Int))),(16,(i6 (i:Int)))],[(.var 31 [(dL 6 bp ac o.U),(dL 5 bP aF o.J)]),(.var 31 [(dL 6 bp ac n.U),(dL 5 bP aF n.J)]),(.arr 9 1 dk .empty RM)]⟩) (fun (i:Nat) (RM:List ByteArray)=>i≤o.J.length∧RM=bc o n i) (fun (i:Nat) (RM:List ByteArray)=>o.J.length-i)
theorem qN (o n:Ci) (hol:o.J.length≤1000000) (Sh:n.J.length≤1000000):CC (JE o n):=by
 refine aq.vc (V:=TT 4 (CC (KK n)∧TT 6 (GO (d9 o n) (0,[]) (∀i RM,(d9 o n).inv (i,RM)→TT 1 (CD ((i:Int)<(o.J.length:Int)) (IX (i:Int) o.J.length∧TT 6 (((cA (i6 0) (fF false ((aa .i64) 0)))∧(false=false→∀p∈(b9 [] (bq n) n.J.length),((aa .i64) p.2).length=1))∧TT 5 (CS ((aX (b9 [] (bq n) n.J.length) ((o.J.getD i aF).name))=true) (TT 2 ((True∧(!(aX (b9 [] (bq n) n.J.length) ((o.J.getD i aF).name)))=false)∧TT 3 (IX (ai 0 (b9 [] (bq n) n.J.length) ((o.J.getD i aF).name)) n.J.length∧TT 6 (CN (((n.J.getD ((ai 0 (b9 [] (bq n) n.J.length) ((o.J.getD i aF).name)).toNat) aF).w)=((o.J.getD i aF).w)) (TT 3 (an [[(dS ((o.J.getD i aF).name))]] ([(o.J.getD i aF).name].map dk)∧(RM.length+([(o.J.getD i aF).name].map dk).length≤137438953472∧RM.map dk++[(o.J.getD i aF).name].map dk=(bc o n (i+1)).map dk)∧TT 1 (W6 ((i+1:Nat):Int)∧TT 1 (AG (d9 o n) (i,RM) (i+1,bc o n (i+1)))))) (W6 ((i+1:Nat):Int)∧TT 1 (AG (d9 o n) (i,RM) (i+1,RM))))))) (TT 2 ((True∧(!(aX (b9 [] (bq n) n.J.length) ((o.J.getD i aF).name)))=true)∧TT 4 (an [[(dS ((o.J.getD i aF).name))]] ([(o.J.getD i aF).name].map dk)∧(RM.length+([(o.J.getD i aF).name].map dk).length≤137438953472∧RM.map dk++[(o.J.getD i aF).name].map dk=(bc o n (i+1)).map dk)∧TT 1 (W6 ((i+1:Nat):Int)∧TT 1 (AG (d9 o n) (i,RM) (i+1,bc o n (i+1)))))))))) (TT 3 (RM.map dk=(bc o n o.J.length).map dk))))))) (.w 1 [(1,(KK n).O)]<|.gs 3 6 9 1 dk .empty<|.l (d9 o n) (0,[]) (fun ⟨i,RM⟩=>.b 17 (.s 7 ((aX (b9 [] (bq n) n.J.length) ((o.J.getD i aF).name))=true) (.w 7 [(2,.val (dB false))]<|.b 39 (.w 8 [(3,.box 9 1 dk .empty [(o.J.getD i aF).name]),(4,.box 9 1 dk .empty (bc o n (i+1)))]<|.w 9 [(0,.val (i6 ((i+1:Nat):Int)))]<|.e) (.w 9 [(0,.val (i6 ((i+1:Nat):Int)))]<|.e)) (.w 7 [(2,.val (dB true))]<|.w 8 [(3,.box 9 1 dk .empty [(o.J.getD i aF).name]),(4,.box 9 1 dk .empty (bc o n (i+1)))]<|.w 9 [(0,.val (i6 ((i+1:Nat):Int)))]<|.e)) (.e))) Try.func14 rfl rfl rfl (by kernel_rfl) ?_
 refine tt ⟨(oV n (by omega)),tt ⟨rfl,⟨by omega,rfl⟩,?_⟩⟩
 intro i RM F'
 obtain⟨hi,Tw⟩:=F'
 refine tt (cd (fun Tx=>?_) (fun Tx=>?_))
 · refine⟨ix,tt ⟨⟨(cA.refl _),(fun _ _ _=>rfl)⟩,tt ?_⟩⟩
   have So:=vA (f:=bq n) (k:=bq o i) n.J.length
   refine⟨fun Ru=>?_,fun Ru=>?_⟩
   · have hin2:0≤ai 0 (b9 [] (bq n) n.J.length) (o.J.getD i aF).name∧ai 0 (b9 [] (bq n) n.J.length) (o.J.getD i aF).name<(n.J.length:Int):=So Ru
     refine tt ⟨(mF Ru),tt ⟨ix,tt (cn (fun Sf=>?_) (fun Sf=>?_))⟩⟩
     · refine tt ⟨⟨⟨rfl,oK⟩,oK⟩,⟨⟨by simp only[Py,P8,PP];rw[Tw];have:=pE o n i;omega,by rw[Tw,yu (o:=o) (n:=n) (i:=i) (by first | exact sd Ru | exact sd (QR.2 Ru) | exact BU Sf),P9];rfl⟩,tt ⟨w6,tt ⟨(i+1,bc o n (i+1)),rfl,?_,(?_:o.J.length-(i+1)<o.J.length-i)⟩⟩⟩⟩
       · exact⟨by omega,by first | rfl | (rw[Tw];exact wX (wW Ru Sf))⟩
       · omega
     · refine⟨w6,tt ⟨(i+1,RM),rfl,?_,(?_:o.J.length-(i+1)<o.J.length-i)⟩⟩
       · exact⟨by omega,by first | rfl | (rw[Tw];exact wX (wW Ru Sf))⟩
       · omega
   · refine tt ⟨(mT Ru),tt ⟨⟨⟨rfl,oK⟩,oK⟩,⟨⟨by simp only[Py,P8,PP];rw[Tw];have:=pE o n i;omega,by rw[Tw,yu (o:=o) (n:=n) (i:=i) (by first | exact sd Ru | exact sd (QR.2 Ru) | exact BU Sf),P9];rfl⟩,tt ⟨w6,tt ⟨(i+1,bc o n (i+1)),rfl,?_,(?_:o.J.length-(i+1)<o.J.length-i)⟩⟩⟩⟩⟩
     · exact⟨by omega,by first | rfl | (rw[Tw];exact wX (wW Ru Sf))⟩
     · omega
 · have SK:i=o.J.length:=by omega
   refine tt (congrArg _ (?_:RM=(bc o n o.J.length)))
   rw[Tw,SK]
abbrev Cu (c:eo) (v:Int) (is:Bool):List D:=[(.agg [(i6 c.first),(i6 c.w),(i6 c.rule.kind),(dS c.rule.src),(i6 c.rule.n)]),(i6 v),(dB is)]
set_option maxRecDepth 100000
abbrev Ms (own:ByteArray) (r:ah):Ct:=⟨82,[(dS own),(.agg [(i6 r.kind),(dS r.src),(i6 r.n)])],true,(dS (av own r))⟩
theorem Cv (own:ByteArray) (r:ah):CC (Ms own r):=by
 refine aq.vc (V:=TT 5 (CD (r.kind=1) (TT 3 (own=(av own r))) (TT 4 (r.src=(av own r))))) (.b 7 (.e) (.e)) Try.func82 rfl rfl rfl (by kernel_rfl) ?_
 refine tt (cd (fun hc7=>?_) (fun hc7=>?_))
 · refine tt ?_
   first | exact(Pn hc7).symm | exact(Pj hc7).symm
 · refine tt ?_
   first | exact(Pn hc7).symm | exact(Pj hc7).symm
abbrev ND (c:eo) (v:Int) (is:Bool):Ct:=⟨93,(Cu c v is),false,(i6 c.first)⟩
theorem IG (c:eo) (v:Int) (is:Bool):CC (ND c v is):=by
 refine aq.vc (V:=TT 6 (c.first=c.first∧True)) (.e) Try.func93 rfl rfl rfl (by kernel_rfl) ?_
 exact tt ⟨rfl,oK⟩
abbrev KL (c:eo) (v:Int) (is:Bool):Ct:=⟨94,(Cu c v is),false,(i6 (ey c v is))⟩
theorem AJ (c:eo) (v:Int) (is:Bool):CC (KL c v is):=by
 refine aq.vc (V:=TT 4 (CB (!is) (TT 4 (c.first=(ey c v is)∧True)) (TT 3 (CC (Mr c.w)∧(True∧(IntKind.wrap .i64 (BitVec.ofInt (IntKind.i64).bits v &&& BitVec.ofInt (IntKind.i64).bits (aE c.w)).toNat)=(jY v c.w))∧TT 2 ((jY v c.w)=(ey c v is)∧True))))) (.b 8 (.e) (.w 3 [(3,(Mr c.w).O),(4,.val (i6 (jY v c.w)))]<|.e)) Try.func94 rfl rfl rfl (by kernel_rfl) ?_
 refine tt ⟨fun WR=>?_,fun WR=>?_⟩
 · refine tt ⟨?_,oK⟩
   unfold ey;first | (rw[Pj (by simp_all)];done) | (rw[Pn (by simp_all)])
 · refine tt ⟨(Cr c.w),⟨⟨oK,FC⟩,tt ⟨?_,oK⟩⟩⟩
   unfold ey;first | (rw[Pj (by simp_all)];done) | (rw[Pn (by simp_all)])
abbrev NF (c:eo) (v:Int) (is:Bool):Ct:=⟨95,(Cu c v is),false,(i6 (pF c v is))⟩
theorem KM (c:eo) (v:Int) (is:Bool):CC (NF c v is):=by
 refine aq.vc (V:=TT 5 (CC (KL c v is)∧TT 3 ((True∧(IntKind.wrap .i64 ((ey c v is)+c.rule.n))=(IntKind.wrap .i64 (ey c v is+c.rule.n)))∧TT 2 (CC (Mr c.w)∧(True∧(IntKind.wrap .i64 (BitVec.ofInt (IntKind.i64).bits (IntKind.wrap .i64 (ey c v is+c.rule.n)) &&& BitVec.ofInt (IntKind.i64).bits (aE c.w)).toNat)=(pF c v is))∧TT 2 ((pF c v is)=(pF c v is)∧True))))) (.w 1 [(3,(KL c v is).O),(7,.val (i6 (IntKind.wrap .i64 (ey c v is+c.rule.n)))),(10,(Mr c.w).O),(11,.val (i6 (pF c v is)))]<|.e) Try.func95 rfl rfl rfl (by kernel_rfl) ?_
 exact tt ⟨(AJ c v is),tt ⟨⟨oK,(by rfl)⟩,tt ⟨(Cr c.w),⟨⟨oK,(by rw[FC,yv];rfl)⟩,tt ⟨rfl,oK⟩⟩⟩⟩⟩
abbrev oW (c:eo) (v:Int) (is:Bool):Ct:=⟨83,(Cu c v is),false,(i6 (cf c v is))⟩
theorem Mt (c:eo) (v:Int) (is:Bool) (hk:c.rule.kind=0):CC (oW c v is):=by
 refine aq.vc (V:=TT 15 ((True∧c.rule.kind=0)∧((0≤(0:Int)∧0<(4:Int))∧True)∧TT 3 (CC (ND c v is)∧TT 2 (c.first=(cf c v is)∧True)))) (.w 2 [(2,.val (i6 0)),(7,(ND c v is).O)]<|.e) Try.func83 rfl rfl rfl (by kernel_rfl) ?_
 refine tt ⟨⟨oK,(by exact hk)⟩,⟨⟨by omega,oK⟩,tt ⟨(IG c v is),tt ⟨?_,oK⟩⟩⟩⟩
 unfold cf;first | (rw[Pn (by omega)];done) | (rw[Pj (by omega),Pn (by omega)];done) | (rw[Pj (by omega),Pj (by omega)])
theorem Mu (c:eo) (v:Int) (is:Bool) (hk:c.rule.kind=1):CC (oW c v is):=by
 refine aq.vc (V:=TT 15 ((True∧c.rule.kind=1)∧((0≤(1:Int)∧1<(4:Int))∧True)∧TT 3 (CC (KL c v is)∧TT 2 ((ey c v is)=(cf c v is)∧True)))) (.w 2 [(2,.val (i6 1)),(7,(KL c v is).O)]<|.e) Try.func83 rfl rfl rfl (by kernel_rfl) ?_
 refine tt ⟨⟨oK,(by exact hk)⟩,⟨⟨by omega,oK⟩,tt ⟨(AJ c v is),tt ⟨?_,oK⟩⟩⟩⟩
 unfold cf;first | (rw[Pn (by omega)];done) | (rw[Pj (by omega),Pn (by omega)];done) | (rw[Pj (by omega),Pj (by omega)])
theorem Mv (c:eo) (v:Int) (is:Bool) (hk:c.rule.kind=2):CC (oW c v is):=by
 refine aq.vc (V:=TT 15 ((True∧c.rule.kind=2)∧((0≤(2:Int)∧2<(4:Int))∧True)∧TT 3 (CC (KL c v is)∧TT 2 ((ey c v is)=(cf c v is)∧True)))) (.w 2 [(2,.val (i6 2)),(7,(KL c v is).O)]<|.e) Try.func83 rfl rfl rfl (by kernel_rfl) ?_
 refine tt ⟨⟨oK,(by exact hk)⟩,⟨⟨by omega,oK⟩,tt ⟨(AJ c v is),tt ⟨?_,oK⟩⟩⟩⟩
 unfold cf;first | (rw[Pn (by omega)];done) | (rw[Pj (by omega),Pn (by omega)];done) | (rw[Pj (by omega),Pj (by omega)])
theorem Mw (c:eo) (v:Int) (is:Bool) (hk:c.rule.kind=3):CC (oW c v is):=by
 refine aq.vc (V:=TT 15 ((True∧c.rule.kind=3)∧((0≤(3:Int)∧3<(4:Int))∧True)∧TT 3 (CC (NF c v is)∧TT 2 ((pF c v is)=(cf c v is)∧True)))) (.w 2 [(2,.val (i6 3)),(7,(NF c v is).O)]<|.e) Try.func83 rfl rfl rfl (by kernel_rfl) ?_
 refine tt ⟨⟨oK,(by exact hk)⟩,⟨⟨by omega,oK⟩,tt ⟨(KM c v is),tt ⟨?_,oK⟩⟩⟩⟩
 unfold cf;first | (rw[Pn (by omega)];done) | (rw[Pj (by omega),Pn (by omega)];done) | (rw[Pj (by omega),Pj (by omega)])
theorem fY (c:eo) (v:Int) (is:Bool) (h:0≤c.rule.kind∧c.rule.kind≤3):CC (oW c v is):=by
  have:c.rule.kind=0∨c.rule.kind=1∨c.rule.kind=2∨c.rule.kind=3:=by omega
  rcases this with h | h | h | h
  · exact Mt c v is h
  · exact Mu c v is h
  · exact Mv c v is h
  · exact Mw c v is h
abbrev NG (f:ri) (r:Rg):Ct:=⟨60,[(.agg [(dS f.p.name),(dS f.p.clock),(dL 13 bG aK f.p.Pe),(dL 27 bS aA f.p.Pd),(dL 9 dU bV f.p.I),(dL 16 dT b4 f.p.Pc),(LI f.s.Pe),(dL 1 af [] f.s.Pd),(.v (.sm false (aa .i64) 0 f.Pe)),(.v (.sm false (aa .i64) 0 f.Pd))]),(.agg [(dS r.name),(i6 r.w),(i6 r.init),(i6 r.next.op),(dS r.next.name),(i6 r.next.k.n),(dS r.next.k.p),(i6 r.next.w.n),(dS r.next.w.p),(dL 7 (eA 2) dE r.next.args),(i6 r.rule.kind),(dS r.rule.src),(i6 r.rule.n)])],false,(i6 (eI f r))⟩
theorem KN (f:ri) (r:Rg) (UH:0≤r.rule.kind∧r.rule.kind≤3) (hix:aX f.Pe (av r.name r.rule)=true→0≤ai 0 f.Pe (av r.name r.rule)∧ai 0 f.Pe (av r.name r.rule)<f.p.Pe.length∧ai 0 f.Pe (av r.name r.rule)<f.s.Pe.length):CC (NG f r):=by
 refine aq.vc (V:=TT 9 (CC (Ms r.name r.rule)∧((cA (i6 0) (fF false ((aa .i64) 0)))∧(false=false→∀p∈f.Pe,((aa .i64) p.2).length=1))∧TT 5 (CS ((aX f.Pe (av r.name r.rule))=true) (TT 1 ((True∧(aX f.Pe (av r.name r.rule))=true)∧TT 5 (CD (r.rule.kind=1) (TT 4 (IX (ai 0 f.Pe (av r.name r.rule)) f.p.Pe.length∧TT 4 ((True∧(((f.p.Pe.getD ((ai 0 f.Pe (av r.name r.rule)).toNat) aK).w)==r.w)=(decide ((f.p.Pe.getD (ai 0 f.Pe (av r.name r.rule)).toNat aK).w=r.w)))∧TT 3 (CD ((f.p.Pe.getD (ai 0 f.Pe (av r.name r.rule)).toNat aK).w=r.w) (TT 4 (IX (ai 0 f.Pe (av r.name r.rule)) f.s.Pe.length∧TT 11 (CC (oW (⟨r.init,r.w,r.rule⟩:eo) (f.s.Pe.getD ((ai 0 f.Pe (av r.name r.rule)).toNat) 0) (decide ((f.p.Pe.getD (ai 0 f.Pe (av r.name r.rule)).toNat aK).w=r.w)))∧TT 2 ((cf (⟨r.init,r.w,r.rule⟩:eo) (f.s.Pe.getD ((ai 0 f.Pe (av r.name r.rule)).toNat) 0) (decide ((f.p.Pe.getD (ai 0 f.Pe (av r.name r.rule)).toNat aK).w=r.w)))=(eI f r)∧True)))) (TT 9 (CC (oW (⟨r.init,r.w,r.rule⟩:eo) 0 (decide ((f.p.Pe.getD (ai 0 f.Pe (av r.name r.rule)).toNat aK).w=r.w)))∧TT 2 ((cf (⟨r.init,r.w,r.rule⟩:eo) 0 (decide ((f.p.Pe.getD (ai 0 f.Pe (av r.name r.rule)).toNat aK).w=r.w)))=(eI f r)∧True))))))) (TT 2 (CB (aX f.Pe (av r.name r.rule)) (TT 4 (IX (ai 0 f.Pe (av r.name r.rule)) f.s.Pe.length∧TT 11 (CC (oW (⟨r.init,r.w,r.rule⟩:eo) (f.s.Pe.getD ((ai 0 f.Pe (av r.name r.rule)).toNat) 0) (aX f.Pe (av r.name r.rule)))∧TT 2 ((cf (⟨r.init,r.w,r.rule⟩:eo) (f.s.Pe.getD ((ai 0 f.Pe (av r.name r.rule)).toNat) 0) (aX f.Pe (av r.name r.rule)))=(eI f r)∧True)))) (TT 9 (CC (oW (⟨r.init,r.w,r.rule⟩:eo) 0 (aX f.Pe (av r.name r.rule)))∧TT 2 ((cf (⟨r.init,r.w,r.rule⟩:eo) 0 (aX f.Pe (av r.name r.rule)))=(eI f r)∧True)))))))) (TT 1 ((True∧(aX f.Pe (av r.name r.rule))=false)∧TT 7 ((aX f.Pe (av r.name r.rule))=false∧TT 9 (CC (oW (⟨r.init,r.w,r.rule⟩:eo) 0 (aX f.Pe (av r.name r.rule)))∧TT 2 ((cf (⟨r.init,r.w,r.rule⟩:eo) 0 (aX f.Pe (av r.name r.rule)))=(eI f r)∧True)))))))) (.w 1 [(6,(Ms r.name r.rule).O)]<|.s 2 ((aX f.Pe (av r.name r.rule))=true) (.w 2 [(1,.val (dB true))]<|.b 25 (.w 3 [(9,.val (dB (decide ((f.p.Pe.getD (ai 0 f.Pe (av r.name r.rule)).toNat aK).w=r.w))))]<|.b 36 (.w 7 [(9,(oW (⟨r.init,r.w,r.rule⟩:eo) (f.s.Pe.getD ((ai 0 f.Pe (av r.name r.rule)).toNat) 0) (decide ((f.p.Pe.getD (ai 0 f.Pe (av r.name r.rule)).toNat aK).w=r.w))).O)]<|.e) (.w 7 [(9,(oW (⟨r.init,r.w,r.rule⟩:eo) 0 (decide ((f.p.Pe.getD (ai 0 f.Pe (av r.name r.rule)).toNat aK).w=r.w))).O)]<|.e)) (.b 36 (.w 7 [(9,(oW (⟨r.init,r.w,r.rule⟩:eo) (f.s.Pe.getD ((ai 0 f.Pe (av r.name r.rule)).toNat) 0) (aX f.Pe (av r.name r.rule))).O)]<|.e) (.w 7 [(9,(oW (⟨r.init,r.w,r.rule⟩:eo) 0 (aX f.Pe (av r.name r.rule))).O)]<|.e))) (.w 2 [(1,.val (dB false))]<|.u 36 (.w 7 [(9,(oW (⟨r.init,r.w,r.rule⟩:eo) 0 (aX f.Pe (av r.name r.rule))).O)]<|.e))) Try.func60 rfl rfl rfl (by kernel_rfl) ?_
 refine tt ⟨(Cv r.name r.rule),⟨⟨(cA.refl _),(fun _ _ _=>rfl)⟩,tt ⟨fun Ru=>?_,fun Ru=>?_⟩⟩⟩
 · have hx:=hix Ru
   refine tt ⟨(bT Ru),tt (cd (fun Sl=>?_) (fun Sl=>?_))⟩
   · refine tt ⟨ix,tt ⟨⟨oK,(by rfl)⟩,tt (cd (fun Wa=>?_) (fun Wa=>?_))⟩⟩
     · refine tt ⟨ix,tt ⟨(fY (⟨r.init,r.w,r.rule⟩:eo) (f.s.Pe.getD ((ai 0 f.Pe (av r.name r.rule)).toNat) 0) (decide ((f.p.Pe.getD (ai 0 f.Pe (av r.name r.rule)).toNat aK).w=r.w)) UH),tt ⟨?_,oK⟩⟩⟩
       unfold eI nU wY yw;first | (simp_all;done) | (split<;>simp_all)
     · refine tt ⟨(fY (⟨r.init,r.w,r.rule⟩:eo) 0 (decide ((f.p.Pe.getD (ai 0 f.Pe (av r.name r.rule)).toNat aK).w=r.w)) UH),tt ⟨?_,oK⟩⟩
       unfold eI nU wY yw;first | (simp_all;done) | (split<;>simp_all)
   · refine tt ⟨fun Wa=>?_,fun Wa=>?_⟩
     · refine tt ⟨ix,tt ⟨(fY (⟨r.init,r.w,r.rule⟩:eo) (f.s.Pe.getD ((ai 0 f.Pe (av r.name r.rule)).toNat) 0) (aX f.Pe (av r.name r.rule)) UH),tt ⟨?_,oK⟩⟩⟩
       unfold eI nU wY yw;first | (simp_all;done) | (split<;>simp_all)
     · refine tt ⟨(fY (⟨r.init,r.w,r.rule⟩:eo) 0 (aX f.Pe (av r.name r.rule)) UH),tt ⟨?_,oK⟩⟩
       unfold eI nU wY yw;first | (simp_all;done) | (split<;>simp_all)
 · refine tt ⟨(bF Ru),tt ⟨(OA (by first | exact Ru | exact QR.2 Ru)),tt ⟨(fY (⟨r.init,r.w,r.rule⟩:eo) 0 (aX f.Pe (av r.name r.rule)) UH),tt ⟨?_,oK⟩⟩⟩⟩
   unfold eI nU wY yw;first | (simp_all;done) | (split<;>simp_all)
abbrev Cw (m:Mm):ax:=(.var 70 [(dS m.name),(i6 m.w),(i6 m.words),(i6 m.enable.op),(dS m.enable.name),(i6 m.enable.k.n),(dS m.enable.k.p),(i6 m.enable.w.n),(dS m.enable.w.p),(dL 7 (eA 2) dE m.enable.args),(i6 m.addr.op),(dS m.addr.name),(i6 m.addr.k.n),(dS m.addr.k.p),(i6 m.addr.w.n),(dS m.addr.w.p),(dL 7 (eA 2) dE m.addr.args),(i6 m.data.op),(dS m.data.name),(i6 m.data.k.n),(dS m.data.k.p),(i6 m.data.w.n),(dS m.data.w.p),(dL 7 (eA 2) dE m.data.args),(i6 m.rule.kind),(dS m.rule.src),(i6 m.rule.n)])
abbrev Cx (f:ri):ax:=(.var 124 [(dS f.p.name),(dS f.p.clock),(dL 13 bG aK f.p.Pe),(dL 27 bS aA f.p.Pd),(dL 9 dU bV f.p.I),(dL 16 dT b4 f.p.Pc),(LI f.s.Pe),(dL 1 af [] f.s.Pd),(.v (.sm false (aa .i64) 0 f.Pe)),(.v (.sm false (aa .i64) 0 f.Pd))])
abbrev rt (m:Mm):D:=(i6 (m.words.toNat:Int))
set_option maxRecDepth 100000
abbrev NH (f:ri) (m:Mm):Ct:=⟨61,[(.agg [(dS f.p.name),(dS f.p.clock),(dL 13 bG aK f.p.Pe),(dL 27 bS aA f.p.Pd),(dL 9 dU bV f.p.I),(dL 16 dT b4 f.p.Pc),(LI f.s.Pe),(dL 1 af [] f.s.Pd),(.v (.sm false (aa .i64) 0 f.Pe)),(.v (.sm false (aa .i64) 0 f.Pd))]),(.agg [(dS m.name),(i6 m.w),(i6 m.words),(i6 m.enable.op),(dS m.enable.name),(i6 m.enable.k.n),(dS m.enable.k.p),(i6 m.enable.w.n),(dS m.enable.w.p),(dL 7 (eA 2) dE m.enable.args),(i6 m.addr.op),(dS m.addr.name),(i6 m.addr.k.n),(dS m.addr.k.p),(i6 m.addr.w.n),(dS m.addr.w.p),(dL 7 (eA 2) dE m.addr.args),(i6 m.data.op),(dS m.data.name),(i6 m.data.k.n),(dS m.data.k.p),(i6 m.data.w.n),(dS m.data.w.p),(dL 7 (eA 2) dE m.data.args),(i6 m.rule.kind),(dS m.rule.src),(i6 m.rule.n)])],true,(LI (fG f m))⟩
abbrev ir (f:ri) (m:Mm):Lp (Nat×List Int):=o0 [2,3,5,6,7,55,56] 39 (fun (k:Nat) (wd:List Int)=>⟨[(2,(.ptr 0 0 0 0)),(3,(.ptr 1 0 0 0)),(5,(i6 (ai 0 f.Pd (av m.name m.rule)))),(6,(dB (decide ((f.p.Pd.getD (ai 0 f.Pd (av m.name m.rule)).toNat aA).words=m.words)))),(7,(.own 38)),(55,(rt m)),(56,(i6 (k:Int)))],[(Cx f),(Cw m),.dead,.dead,.dead,.dead,.dead,.dead,.dead,.dead,.dead,.dead,.dead,.dead,.dead,.dead,.dead,.dead,.dead,.dead,.dead,.dead,.dead,.dead,.dead,.dead,.dead,.dead,.dead,.dead,.dead,.dead,.dead,.dead,.dead,.dead,.dead,.dead,(.arr 3 1 (aa .i64) 0 wd)]⟩) (fun (k:Nat) (wd:List Int)=>k≤m.words.toNat∧wd=gN (cr f m) (List.replicate m.words.toNat (0:Int)) k) (fun (k:Nat) (wd:List Int)=>m.words.toNat-k)
abbrev mH (f:ri) (m:Mm):Lp (Nat×List Int):=o0 [2,3,5,6,7,55,56] 39 (fun (k:Nat) (wd:List Int)=>⟨[(2,(.ptr 0 0 0 0)),(3,(.ptr 1 0 0 0)),(5,(i6 (ai 0 f.Pd (av m.name m.rule)))),(6,(dB false)),(7,(.own 38)),(55,(rt m)),(56,(i6 (k:Int)))],[(Cx f),(Cw m),.dead,.dead,.dead,.dead,.dead,.dead,.dead,.dead,.dead,.dead,.dead,.dead,.dead,.dead,.dead,.dead,.dead,.dead,.dead,.dead,.dead,.dead,.dead,.dead,.dead,.dead,.dead,.dead,.dead,.dead,.dead,.dead,.dead,.dead,.dead,.dead,(.arr 3 1 (aa .i64) 0 wd)]⟩) (fun (k:Nat) (wd:List Int)=>k≤m.words.toNat∧wd=gN (cr f m) (List.replicate m.words.toNat (0:Int)) k) (fun (k:Nat) (wd:List Int)=>m.words.toNat-k)
abbrev it (f:ri) (m:Mm):Lp (Nat×List Int):=o0 [2,3,5,6,7,55,56] 16 (fun (k:Nat) (wd:List Int)=>⟨[(2,(.ptr 0 0 0 0)),(3,(.ptr 1 0 0 0)),(5,(i6 (ai 0 f.Pd (av m.name m.rule)))),(6,(dB (aX f.Pd (av m.name m.rule)))),(7,(.own 15)),(55,(rt m)),(56,(i6 (k:Int)))],[(Cx f),(Cw m),.dead,.dead,.dead,.dead,.dead,.dead,.dead,.dead,.dead,.dead,.dead,.dead,.dead,(.arr 3 1 (aa .i64) 0 wd)]⟩) (fun (k:Nat) (wd:List Int)=>k≤m.words.toNat∧wd=gN (cr f m) (List.replicate m.words.toNat (0:Int)) k) (fun (k:Nat) (wd:List Int)=>m.words.toNat-k)
abbrev mI (f:ri) (m:Mm):Lp (Nat×List Int):=o0 [2,3,5,6,7,55,56] 16 (fun (k:Nat) (wd:List Int)=>⟨[(2,(.ptr 0 0 0 0)),(3,(.ptr 1 0 0 0)),(5,(i6 (ai 0 f.Pd (av m.name m.rule)))),(6,(dB (aX f.Pd (av m.name m.rule)))),(7,(.own 15)),(55,(rt m)),(56,(i6 (k:Int)))],[(Cx f),(Cw m),.dead,.dead,.dead,.dead,.dead,.dead,.dead,.dead,.dead,.dead,.dead,.dead,.dead,(.arr 3 1 (aa .i64) 0 wd)]⟩) (fun (k:Nat) (wd:List Int)=>k≤m.words.toNat∧wd=gN (cr f m) (List.replicate m.words.toNat (0:Int)) k) (fun (k:Nat) (wd:List Int)=>m.words.toNat-k)
theorem KO (f:ri) (m:Mm) (UH:0≤m.rule.kind∧m.rule.kind≤3) (hwo:0≤m.words∧m.words≤1000000) (hix:aX f.Pd (av m.name m.rule)=true→0≤ai 0 f.Pd (av m.name m.rule)∧ai 0 f.Pd (av m.name m.rule)<f.p.Pd.length∧ai 0 f.Pd (av m.name m.rule)<f.s.Pd.length):CC (NH f m):=by
 refine aq.vc (V:=TT 9 (CC (Ms m.name m.rule)∧((cA (i6 0) (fF false ((aa .i64) 0)))∧(false=false→∀p∈f.Pd,((aa .i64) p.2).length=1))∧TT 5 (CS ((aX f.Pd (av m.name m.rule))=true) (TT 1 ((True∧(aX f.Pd (av m.name m.rule))=true)∧TT 5 (CD (m.rule.kind=1) (CS ((f.p.Pd.getD (ai 0 f.Pd (av m.name m.rule)).toNat aA).w=m.w) (TT 4 (IX (ai 0 f.Pd (av m.name m.rule)) f.p.Pd.length∧TT 4 ((True∧(((f.p.Pd.getD ((ai 0 f.Pd (av m.name m.rule)).toNat) aA).w)==m.w)=(decide ((f.p.Pd.getD (ai 0 f.Pd (av m.name m.rule)).toNat aA).w=m.w)))∧(True∧(decide ((f.p.Pd.getD (ai 0 f.Pd (av m.name m.rule)).toNat aA).w=m.w))=true)∧TT 4 (IX (ai 0 f.Pd (av m.name m.rule)) f.p.Pd.length∧TT 4 ((True∧(((f.p.Pd.getD ((ai 0 f.Pd (av m.name m.rule)).toNat) aA).words)==m.words)=(decide ((f.p.Pd.getD (ai 0 f.Pd (av m.name m.rule)).toNat aA).words=m.words)))∧TT 4 ((((0:Int)≤m.words∧m.words≤m.words∧m.words≤137438953472)∧(List.replicate m.words.toNat (0:Int)).length=m.words.toNat∧∀x∈(List.replicate m.words.toNat (0:Int)),dV [(i6 0)] ((aa .i64) x))∧TT 2 ((True∧(((List.replicate m.words.toNat (0:Int)).length:Nat):Int)=(m.words.toNat:Int))∧TT 1 (GO (ir f m) (0,List.replicate m.words.toNat (0:Int)) (∀k wd,(ir f m).inv (k,wd)→TT 1 (CD ((k:Int)<(m.words.toNat:Int)) (TT 2 (CS ((f.p.Pd.getD (ai 0 f.Pd (av m.name m.rule)).toNat aA).words=m.words) (TT 1 ((True∧(decide ((f.p.Pd.getD (ai 0 f.Pd (av m.name m.rule)).toNat aA).words=m.words))=true)∧TT 5 (IX (ai 0 f.Pd (av m.name m.rule)) f.s.Pd.length∧TT 7 (CD ((k:Int)<(((f.s.Pd.getD ((ai 0 f.Pd (av m.name m.rule)).toNat) []).length:Nat):Int)) (TT 4 (IX (ai 0 f.Pd (av m.name m.rule)) f.s.Pd.length∧TT 2 (IX (k:Int) ((f.s.Pd.getD ((ai 0 f.Pd (av m.name m.rule)).toNat) []).length)∧TT 11 (CC (oW (⟨0,m.w,m.rule⟩:eo) ((f.s.Pd.getD ((ai 0 f.Pd (av m.name m.rule)).toNat) []).getD k 0) (decide ((k:Int)<(((f.s.Pd.getD ((ai 0 f.Pd (av m.name m.rule)).toNat) []).length:Nat):Int))))∧IX (k:Int) wd.length∧(k<wd.length∧(wd.map (aa .i64)).set k (((aa .i64) (wd.getD k 0)).take 0++[(.int .i64 (cf (⟨0,m.w,m.rule⟩:eo) ((f.s.Pd.getD ((ai 0 f.Pd (av m.name m.rule)).toNat) []).getD k 0) (decide ((k:Int)<(((f.s.Pd.getD ((ai 0 f.Pd (av m.name m.rule)).toNat) []).length:Nat):Int)))))]++((aa .i64) (wd.getD k 0)).drop (0+1))=(wd.set k (cr f m k)).map (aa .i64))∧W6 ((k+1:Nat):Int)∧TT 1 (AG (ir f m) (k,wd) (k+1,wd.set k (cr f m k))))))) (TT 9 (CC (oW (⟨0,m.w,m.rule⟩:eo) 0 (decide ((k:Int)<(((f.s.Pd.getD ((ai 0 f.Pd (av m.name m.rule)).toNat) []).length:Nat):Int))))∧IX (k:Int) wd.length∧(k<wd.length∧(wd.map (aa .i64)).set k (((aa .i64) (wd.getD k 0)).take 0++[(.int .i64 (cf (⟨0,m.w,m.rule⟩:eo) 0 (decide ((k:Int)<(((f.s.Pd.getD ((ai 0 f.Pd (av m.name m.rule)).toNat) []).length:Nat):Int)))))]++((aa .i64) (wd.getD k 0)).drop (0+1))=(wd.set k (cr f m k)).map (aa .i64))∧W6 ((k+1:Nat):Int)∧TT 1 (AG (ir f m) (k,wd) (k+1,wd.set k (cr f m k))))))))) (TT 1 ((True∧(decide ((f.p.Pd.getD (ai 0 f.Pd (av m.name m.rule)).toNat aA).words=m.words))=false)∧TT 13 (CC (oW (⟨0,m.w,m.rule⟩:eo) 0 false)∧IX (k:Int) wd.length∧(k<wd.length∧(wd.map (aa .i64)).set k (((aa .i64) (wd.getD k 0)).take 0++[(.int .i64 (cf (⟨0,m.w,m.rule⟩:eo) 0 false))]++((aa .i64) (wd.getD k 0)).drop (0+1))=(wd.set k (cr f m k)).map (aa .i64))∧W6 ((k+1:Nat):Int)∧TT 1 (AG (ir f m) (k,wd) (k+1,wd.set k (cr f m k)))))))) (TT 3 (wd.map (aa .i64)=(fG f m).map (aa .i64))))))))))))) (TT 4 (IX (ai 0 f.Pd (av m.name m.rule)) f.p.Pd.length∧TT 4 ((True∧(((f.p.Pd.getD ((ai 0 f.Pd (av m.name m.rule)).toNat) aA).w)==m.w)=(decide ((f.p.Pd.getD (ai 0 f.Pd (av m.name m.rule)).toNat aA).w=m.w)))∧(True∧(decide ((f.p.Pd.getD (ai 0 f.Pd (av m.name m.rule)).toNat aA).w=m.w))=false)∧TT 4 ((((0:Int)≤m.words∧m.words≤m.words∧m.words≤137438953472)∧(List.replicate m.words.toNat (0:Int)).length=m.words.toNat∧∀x∈(List.replicate m.words.toNat (0:Int)),dV [(i6 0)] ((aa .i64) x))∧TT 2 ((True∧(((List.replicate m.words.toNat (0:Int)).length:Nat):Int)=(m.words.toNat:Int))∧TT 1 (GO (mH f m) (0,List.replicate m.words.toNat (0:Int)) (∀k wd,(mH f m).inv (k,wd)→TT 1 (CD ((k:Int)<(m.words.toNat:Int)) (TT 17 (CC (oW (⟨0,m.w,m.rule⟩:eo) 0 false)∧IX (k:Int) wd.length∧(k<wd.length∧(wd.map (aa .i64)).set k (((aa .i64) (wd.getD k 0)).take 0++[(.int .i64 (cf (⟨0,m.w,m.rule⟩:eo) 0 false))]++((aa .i64) (wd.getD k 0)).drop (0+1))=(wd.set k (cr f m k)).map (aa .i64))∧W6 ((k+1:Nat):Int)∧TT 1 (AG (mH f m) (k,wd) (k+1,wd.set k (cr f m k))))) (TT 3 (wd.map (aa .i64)=(fG f m).map (aa .i64)))))))))))) (TT 2 ((((0:Int)≤m.words∧m.words≤m.words∧m.words≤137438953472)∧(List.replicate m.words.toNat (0:Int)).length=m.words.toNat∧∀x∈(List.replicate m.words.toNat (0:Int)),dV [(i6 0)] ((aa .i64) x))∧TT 2 ((True∧(((List.replicate m.words.toNat (0:Int)).length:Nat):Int)=(m.words.toNat:Int))∧TT 1 (GO (it f m) (0,List.replicate m.words.toNat (0:Int)) (∀k wd,(it f m).inv (k,wd)→TT 1 (CD ((k:Int)<(m.words.toNat:Int)) (TT 2 (CS ((aX f.Pd (av m.name m.rule))=true) (TT 1 ((True∧(aX f.Pd (av m.name m.rule))=true)∧TT 5 (IX (ai 0 f.Pd (av m.name m.rule)) f.s.Pd.length∧TT 7 (CD ((k:Int)<(((f.s.Pd.getD ((ai 0 f.Pd (av m.name m.rule)).toNat) []).length:Nat):Int)) (TT 4 (IX (ai 0 f.Pd (av m.name m.rule)) f.s.Pd.length∧TT 2 (IX (k:Int) ((f.s.Pd.getD ((ai 0 f.Pd (av m.name m.rule)).toNat) []).length)∧TT 11 (CC (oW (⟨0,m.w,m.rule⟩:eo) ((f.s.Pd.getD ((ai 0 f.Pd (av m.name m.rule)).toNat) []).getD k 0) (decide ((k:Int)<(((f.s.Pd.getD ((ai 0 f.Pd (av m.name m.rule)).toNat) []).length:Nat):Int))))∧IX (k:Int) wd.length∧(k<wd.length∧(wd.map (aa .i64)).set k (((aa .i64) (wd.getD k 0)).take 0++[(.int .i64 (cf (⟨0,m.w,m.rule⟩:eo) ((f.s.Pd.getD ((ai 0 f.Pd (av m.name m.rule)).toNat) []).getD k 0) (decide ((k:Int)<(((f.s.Pd.getD ((ai 0 f.Pd (av m.name m.rule)).toNat) []).length:Nat):Int)))))]++((aa .i64) (wd.getD k 0)).drop (0+1))=(wd.set k (cr f m k)).map (aa .i64))∧W6 ((k+1:Nat):Int)∧TT 1 (AG (it f m) (k,wd) (k+1,wd.set k (cr f m k))))))) (TT 9 (CC (oW (⟨0,m.w,m.rule⟩:eo) 0 (decide ((k:Int)<(((f.s.Pd.getD ((ai 0 f.Pd (av m.name m.rule)).toNat) []).length:Nat):Int))))∧IX (k:Int) wd.length∧(k<wd.length∧(wd.map (aa .i64)).set k (((aa .i64) (wd.getD k 0)).take 0++[(.int .i64 (cf (⟨0,m.w,m.rule⟩:eo) 0 (decide ((k:Int)<(((f.s.Pd.getD ((ai 0 f.Pd (av m.name m.rule)).toNat) []).length:Nat):Int)))))]++((aa .i64) (wd.getD k 0)).drop (0+1))=(wd.set k (cr f m k)).map (aa .i64))∧W6 ((k+1:Nat):Int)∧TT 1 (AG (it f m) (k,wd) (k+1,wd.set k (cr f m k))))))))) (TT 1 ((True∧(aX f.Pd (av m.name m.rule))=false)∧TT 13 (CC (oW (⟨0,m.w,m.rule⟩:eo) 0 false)∧IX (k:Int) wd.length∧(k<wd.length∧(wd.map (aa .i64)).set k (((aa .i64) (wd.getD k 0)).take 0++[(.int .i64 (cf (⟨0,m.w,m.rule⟩:eo) 0 false))]++((aa .i64) (wd.getD k 0)).drop (0+1))=(wd.set k (cr f m k)).map (aa .i64))∧W6 ((k+1:Nat):Int)∧TT 1 (AG (it f m) (k,wd) (k+1,wd.set k (cr f m k)))))))) (TT 3 (wd.map (aa .i64)=(fG f m).map (aa .i64)))))))))))) (TT 1 ((True∧(aX f.Pd (av m.name m.rule))=false)∧TT 7 ((((0:Int)≤m.words∧m.words≤m.words∧m.words≤137438953472)∧(List.replicate m.words.toNat (0:Int)).length=m.words.toNat∧∀x∈(List.replicate m.words.toNat (0:Int)),dV [(i6 0)] ((aa .i64) x))∧TT 2 ((True∧(((List.replicate m.words.toNat (0:Int)).length:Nat):Int)=(m.words.toNat:Int))∧TT 1 (GO (mI f m) (0,List.replicate m.words.toNat (0:Int)) (∀k wd,(mI f m).inv (k,wd)→TT 1 (CD ((k:Int)<(m.words.toNat:Int)) (TT 3 ((True∧(aX f.Pd (av m.name m.rule))=false)∧TT 13 (CC (oW (⟨0,m.w,m.rule⟩:eo) 0 false)∧IX (k:Int) wd.length∧(k<wd.length∧(wd.map (aa .i64)).set k (((aa .i64) (wd.getD k 0)).take 0++[(.int .i64 (cf (⟨0,m.w,m.rule⟩:eo) 0 false))]++((aa .i64) (wd.getD k 0)).drop (0+1))=(wd.set k (cr f m k)).map (aa .i64))∧W6 ((k+1:Nat):Int)∧TT 1 (AG (mI f m) (k,wd) (k+1,wd.set k (cr f m k)))))) (TT 3 (wd.map (aa .i64)=(fG f m).map (aa .i64))))))))))))) (.w 1 [(6,(Ms m.name m.rule).O)]<|.s 2 ((aX f.Pd (av m.name m.rule))=true) (.w 2 [(1,.val (dB true))]<|.b 28 (.s 3 ((f.p.Pd.getD (ai 0 f.Pd (av m.name m.rule)).toNat aA).w=m.w) (.w 3 [(9,.val (dB (decide ((f.p.Pd.getD (ai 0 f.Pd (av m.name m.rule)).toNat aA).w=m.w)))),(10,.val (dB true)),(20,.val (dB (decide ((f.p.Pd.getD (ai 0 f.Pd (av m.name m.rule)).toNat aA).words=m.words))))]<|.w 4 [(2,.box 3 1 (aa .i64) 0 (List.replicate m.words.toNat (0:Int)))]<|.w 5 [(1,.val (rt m))]<|.l (ir f m) (0,List.replicate m.words.toNat (0:Int)) (fun ⟨k,wd⟩=>.b 57 (.s 8 ((f.p.Pd.getD (ai 0 f.Pd (av m.name m.rule)).toNat aA).words=m.words) (.w 8 [(1,.val (dB true))]<|.b 71 (.w 11 [(9,(oW (⟨0,m.w,m.rule⟩:eo) ((f.s.Pd.getD ((ai 0 f.Pd (av m.name m.rule)).toNat) []).getD k 0) (decide ((k:Int)<(((f.s.Pd.getD ((ai 0 f.Pd (av m.name m.rule)).toNat) []).length:Nat):Int)))).O),(11,.box 3 1 (aa .i64) 0 (wd.set k (cr f m k)))]<|.w 12 [(0,.val (i6 ((k+1:Nat):Int)))]<|.e) (.w 11 [(9,(oW (⟨0,m.w,m.rule⟩:eo) 0 (decide ((k:Int)<(((f.s.Pd.getD ((ai 0 f.Pd (av m.name m.rule)).toNat) []).length:Nat):Int)))).O),(11,.box 3 1 (aa .i64) 0 (wd.set k (cr f m k)))]<|.w 12 [(0,.val (i6 ((k+1:Nat):Int)))]<|.e)) (.w 8 [(1,.val (dB false))]<|.w 11 [(9,(oW (⟨0,m.w,m.rule⟩:eo) 0 false).O),(11,.box 3 1 (aa .i64) 0 (wd.set k (cr f m k)))]<|.w 12 [(0,.val (i6 ((k+1:Nat):Int)))]<|.e)) (.e))) (.w 3 [(9,.val (dB (decide ((f.p.Pd.getD (ai 0 f.Pd (av m.name m.rule)).toNat aA).w=m.w)))),(10,.val (dB false))]<|.w 4 [(2,.box 3 1 (aa .i64) 0 (List.replicate m.words.toNat (0:Int)))]<|.w 5 [(1,.val (rt m))]<|.l (mH f m) (0,List.replicate m.words.toNat (0:Int)) (fun ⟨k,wd⟩=>.b 57 (.w 11 [(9,(oW (⟨0,m.w,m.rule⟩:eo) 0 false).O),(11,.box 3 1 (aa .i64) 0 (wd.set k (cr f m k)))]<|.w 12 [(0,.val (i6 ((k+1:Nat):Int)))]<|.e) (.e)))) (.w 4 [(2,.box 3 1 (aa .i64) 0 (List.replicate m.words.toNat (0:Int)))]<|.w 5 [(1,.val (rt m))]<|.l (it f m) (0,List.replicate m.words.toNat (0:Int)) (fun ⟨k,wd⟩=>.b 57 (.s 8 ((aX f.Pd (av m.name m.rule))=true) (.w 8 [(1,.val (dB true))]<|.b 71 (.w 11 [(9,(oW (⟨0,m.w,m.rule⟩:eo) ((f.s.Pd.getD ((ai 0 f.Pd (av m.name m.rule)).toNat) []).getD k 0) (decide ((k:Int)<(((f.s.Pd.getD ((ai 0 f.Pd (av m.name m.rule)).toNat) []).length:Nat):Int)))).O),(11,.box 3 1 (aa .i64) 0 (wd.set k (cr f m k)))]<|.w 12 [(0,.val (i6 ((k+1:Nat):Int)))]<|.e) (.w 11 [(9,(oW (⟨0,m.w,m.rule⟩:eo) 0 (decide ((k:Int)<(((f.s.Pd.getD ((ai 0 f.Pd (av m.name m.rule)).toNat) []).length:Nat):Int)))).O),(11,.box 3 1 (aa .i64) 0 (wd.set k (cr f m k)))]<|.w 12 [(0,.val (i6 ((k+1:Nat):Int)))]<|.e)) (.w 8 [(1,.val (dB false))]<|.w 11 [(9,(oW (⟨0,m.w,m.rule⟩:eo) 0 false).O),(11,.box 3 1 (aa .i64) 0 (wd.set k (cr f m k)))]<|.w 12 [(0,.val (i6 ((k+1:Nat):Int)))]<|.e)) (.e)))) (.w 2 [(1,.val (dB false))]<|.w 4 [(2,.box 3 1 (aa .i64) 0 (List.replicate m.words.toNat (0:Int)))]<|.w 5 [(1,.val (rt m))]<|.l (mI f m) (0,List.replicate m.words.toNat (0:Int)) (fun ⟨k,wd⟩=>.b 57 (.w 8 [(1,.val (dB false))]<|.w 11 [(9,(oW (⟨0,m.w,m.rule⟩:eo) 0 false).O),(11,.box 3 1 (aa .i64) 0 (wd.set k (cr f m k)))]<|.w 12 [(0,.val (i6 ((k+1:Nat):Int)))]<|.e) (.e)))) Try.func61 rfl rfl rfl (by kernel_rfl) ?_
 refine tt ⟨(Cv m.name m.rule),⟨⟨(cA.refl _),(fun _ _ _=>rfl)⟩,tt ⟨fun Ru=>?_,fun Ru=>?_⟩⟩⟩
 · have hx:=hix Ru
   refine tt ⟨(bT Ru),tt (cd (fun SL=>?_) (fun SL=>?_))⟩
   · refine⟨fun RQ=>?_,fun RQ=>?_⟩
     · refine tt ⟨ix,tt ⟨⟨oK,(by rfl)⟩,⟨(vT RQ),tt ⟨ix,tt ⟨⟨oK,(by rfl)⟩,tt ⟨⟨by omega,Pp,fun x hx=>by rw[PW hx];exact⟨rfl,oK⟩⟩,tt ⟨⟨oK,(by rw[Pp])⟩,tt ⟨rfl,⟨by omega,rfl⟩,?_⟩⟩⟩⟩⟩⟩⟩⟩
       intro k wd F'
       obtain⟨hk,Uf⟩:=F'
       have hwl:wd.length=m.words.toNat:=by rw[Uf,cK (by rw[Pp];omega),Pp]
       refine tt (cd (fun Tn=>?_) (fun Tn=>?_))
       · refine tt ⟨fun SZ=>?_,fun SZ=>?_⟩
         · refine tt ⟨(vT SZ),tt ⟨ix,tt (cd (fun RG=>?_) (fun RG=>?_))⟩⟩
           · refine tt ⟨ix,tt ⟨ix,tt ⟨(fY (⟨0,m.w,m.rule⟩:eo) ((f.s.Pd.getD ((ai 0 f.Pd (av m.name m.rule)).toNat) []).getD k 0) (decide ((k:Int)<(((f.s.Pd.getD ((ai 0 f.Pd (av m.name m.rule)).toNat) []).length:Nat):Int))) UH),⟨ix,⟨⟨by omega,by simp only[P0];exact congrArg (fun z=>(wd.map (aa .i64)).set k [V.int .i64 z]) (by first | (rw[Pq RG];exact(gz (by unfold er;first | (simp_all;done) | (split<;>simp_all)) RG).symm) | (rw[Pv RG];exact(gA RG).symm) | exact(fy (by unfold er;first | (simp_all;done) | (split<;>simp_all))).symm)⟩,⟨w6,tt ⟨(k+1,wd.set k (cr f m k)),rfl,?_,(?_:m.words.toNat-(k+1)<m.words.toNat-k)⟩⟩⟩⟩⟩⟩⟩
             · exact⟨by omega,by rw[Uf];exact bU (by rw[Pp];omega) rfl⟩
             · omega
           · refine tt ⟨(fY (⟨0,m.w,m.rule⟩:eo) 0 (decide ((k:Int)<(((f.s.Pd.getD ((ai 0 f.Pd (av m.name m.rule)).toNat) []).length:Nat):Int))) UH),⟨ix,⟨⟨by omega,by simp only[P0];exact congrArg (fun z=>(wd.map (aa .i64)).set k [V.int .i64 z]) (by first | (rw[Pq RG];exact(gz (by unfold er;first | (simp_all;done) | (split<;>simp_all)) RG).symm) | (rw[Pv RG];exact(gA RG).symm) | exact(fy (by unfold er;first | (simp_all;done) | (split<;>simp_all))).symm)⟩,⟨w6,tt ⟨(k+1,wd.set k (cr f m k)),rfl,?_,(?_:m.words.toNat-(k+1)<m.words.toNat-k)⟩⟩⟩⟩⟩
             · exact⟨by omega,by rw[Uf];exact bU (by rw[Pp];omega) rfl⟩
             · omega
         · refine tt ⟨(vF SZ),tt ⟨(fY (⟨0,m.w,m.rule⟩:eo) 0 false UH),⟨ix,⟨⟨by omega,by simp only[P0];exact congrArg (fun z=>(wd.map (aa .i64)).set k [V.int .i64 z]) (by first | (rw[Pq RG];exact(gz (by unfold er;first | (simp_all;done) | (split<;>simp_all)) RG).symm) | (rw[Pv RG];exact(gA RG).symm) | exact(fy (by unfold er;first | (simp_all;done) | (split<;>simp_all))).symm)⟩,⟨w6,tt ⟨(k+1,wd.set k (cr f m k)),rfl,?_,(?_:m.words.toNat-(k+1)<m.words.toNat-k)⟩⟩⟩⟩⟩⟩
           · exact⟨by omega,by rw[Uf];exact bU (by rw[Pp];omega) rfl⟩
           · omega
       · refine tt (congrArg _ (?_:wd=(fG f m)))
         rw[Uf,show k=(List.replicate m.words.toNat (0:Int)).length from by rw[Pp];omega,b7 (Pl _),Pp];rfl
     · refine tt ⟨ix,tt ⟨⟨oK,(by rfl)⟩,⟨(vF RQ),tt ⟨⟨by omega,Pp,fun x hx=>by rw[PW hx];exact⟨rfl,oK⟩⟩,tt ⟨⟨oK,(by rw[Pp])⟩,tt ⟨rfl,⟨by omega,rfl⟩,?_⟩⟩⟩⟩⟩⟩
       intro k wd F'
       obtain⟨hk,Uf⟩:=F'
       have hwl:wd.length=m.words.toNat:=by rw[Uf,cK (by rw[Pp];omega),Pp]
       refine tt (cd (fun Tn=>?_) (fun Tn=>?_))
       · refine tt ⟨(fY (⟨0,m.w,m.rule⟩:eo) 0 false UH),⟨ix,⟨⟨by omega,by simp only[P0];exact congrArg (fun z=>(wd.map (aa .i64)).set k [V.int .i64 z]) (by first | (rw[Pq RG];exact(gz (by unfold er;first | (simp_all;done) | (split<;>simp_all)) RG).symm) | (rw[Pv RG];exact(gA RG).symm) | exact(fy (by unfold er;first | (simp_all;done) | (split<;>simp_all))).symm)⟩,⟨w6,tt ⟨(k+1,wd.set k (cr f m k)),rfl,?_,(?_:m.words.toNat-(k+1)<m.words.toNat-k)⟩⟩⟩⟩⟩
         · exact⟨by omega,by rw[Uf];exact bU (by rw[Pp];omega) rfl⟩
         · omega
       · refine tt (congrArg _ (?_:wd=(fG f m)))
         rw[Uf,show k=(List.replicate m.words.toNat (0:Int)).length from by rw[Pp];omega,b7 (Pl _),Pp];rfl
   · refine tt ⟨⟨by omega,Pp,fun x hx=>by rw[PW hx];exact⟨rfl,oK⟩⟩,tt ⟨⟨oK,(by rw[Pp])⟩,tt ⟨rfl,⟨by omega,rfl⟩,?_⟩⟩⟩
     intro k wd F'
     obtain⟨hk,Uf⟩:=F'
     have hwl:wd.length=m.words.toNat:=by rw[Uf,cK (by rw[Pp];omega),Pp]
     refine tt (cd (fun Tn=>?_) (fun Tn=>?_))
     · refine tt ⟨fun T9=>?_,fun T9=>?_⟩
       · refine tt ⟨(bT T9),tt ⟨ix,tt (cd (fun RG=>?_) (fun RG=>?_))⟩⟩
         · refine tt ⟨ix,tt ⟨ix,tt ⟨(fY (⟨0,m.w,m.rule⟩:eo) ((f.s.Pd.getD ((ai 0 f.Pd (av m.name m.rule)).toNat) []).getD k 0) (decide ((k:Int)<(((f.s.Pd.getD ((ai 0 f.Pd (av m.name m.rule)).toNat) []).length:Nat):Int))) UH),⟨ix,⟨⟨by omega,by simp only[P0];exact congrArg (fun z=>(wd.map (aa .i64)).set k [V.int .i64 z]) (by first | (rw[Pq RG];exact(gz (by unfold er;first | (simp_all;done) | (split<;>simp_all)) RG).symm) | (rw[Pv RG];exact(gA RG).symm) | exact(fy (by unfold er;first | (simp_all;done) | (split<;>simp_all))).symm)⟩,⟨w6,tt ⟨(k+1,wd.set k (cr f m k)),rfl,?_,(?_:m.words.toNat-(k+1)<m.words.toNat-k)⟩⟩⟩⟩⟩⟩⟩
           · exact⟨by omega,by rw[Uf];exact bU (by rw[Pp];omega) rfl⟩
           · omega
         · refine tt ⟨(fY (⟨0,m.w,m.rule⟩:eo) 0 (decide ((k:Int)<(((f.s.Pd.getD ((ai 0 f.Pd (av m.name m.rule)).toNat) []).length:Nat):Int))) UH),⟨ix,⟨⟨by omega,by simp only[P0];exact congrArg (fun z=>(wd.map (aa .i64)).set k [V.int .i64 z]) (by first | (rw[Pq RG];exact(gz (by unfold er;first | (simp_all;done) | (split<;>simp_all)) RG).symm) | (rw[Pv RG];exact(gA RG).symm) | exact(fy (by unfold er;first | (simp_all;done) | (split<;>simp_all))).symm)⟩,⟨w6,tt ⟨(k+1,wd.set k (cr f m k)),rfl,?_,(?_:m.words.toNat-(k+1)<m.words.toNat-k)⟩⟩⟩⟩⟩
           · exact⟨by omega,by rw[Uf];exact bU (by rw[Pp];omega) rfl⟩
           · omega
       · refine tt ⟨(bF T9),tt ⟨(fY (⟨0,m.w,m.rule⟩:eo) 0 false UH),⟨ix,⟨⟨by omega,by simp only[P0];exact congrArg (fun z=>(wd.map (aa .i64)).set k [V.int .i64 z]) (by first | (rw[Pq RG];exact(gz (by unfold er;first | (simp_all;done) | (split<;>simp_all)) RG).symm) | (rw[Pv RG];exact(gA RG).symm) | exact(fy (by unfold er;first | (simp_all;done) | (split<;>simp_all))).symm)⟩,⟨w6,tt ⟨(k+1,wd.set k (cr f m k)),rfl,?_,(?_:m.words.toNat-(k+1)<m.words.toNat-k)⟩⟩⟩⟩⟩⟩
         · exact⟨by omega,by rw[Uf];exact bU (by rw[Pp];omega) rfl⟩
         · omega
     · refine tt (congrArg _ (?_:wd=(fG f m)))
       rw[Uf,show k=(List.replicate m.words.toNat (0:Int)).length from by rw[Pp];omega,b7 (Pl _),Pp];rfl
 · refine tt ⟨(bF Ru),tt ⟨⟨by omega,Pp,fun x hx=>by rw[PW hx];exact⟨rfl,oK⟩⟩,tt ⟨⟨oK,(by rw[Pp])⟩,tt ⟨rfl,⟨by omega,rfl⟩,?_⟩⟩⟩⟩
   intro k wd F'
   obtain⟨hk,Uf⟩:=F'
   have hwl:wd.length=m.words.toNat:=by rw[Uf,cK (by rw[Pp];omega),Pp]
   refine tt (cd (fun Tn=>?_) (fun Tn=>?_))
   · refine tt ⟨(bF (by first | exact Ru | exact QR.2 Ru)),tt ⟨(fY (⟨0,m.w,m.rule⟩:eo) 0 false UH),⟨ix,⟨⟨by omega,by simp only[P0];exact congrArg (fun z=>(wd.map (aa .i64)).set k [V.int .i64 z]) (by first | (rw[Pq RG];exact(gz (by unfold er;first | (simp_all;done) | (split<;>simp_all)) RG).symm) | (rw[Pv RG];exact(gA RG).symm) | exact(fy (by unfold er;first | (simp_all;done) | (split<;>simp_all))).symm)⟩,⟨w6,tt ⟨(k+1,wd.set k (cr f m k)),rfl,?_,(?_:m.words.toNat-(k+1)<m.words.toNat-k)⟩⟩⟩⟩⟩⟩
     · exact⟨by omega,by rw[Uf];exact bU (by rw[Pp];omega) rfl⟩
     · omega
   · refine tt (congrArg _ (?_:wd=(fG f m)))
     rw[Uf,show k=(List.replicate m.words.toNat (0:Int)).length from by rw[Pp];omega,b7 (Pl _),Pp];rfl
abbrev Cy:ax:=(.arr 3 1 (aa .i64) 0 ([]:List Int))
set_option maxRecDepth 100000
abbrev NI (l:List Int):Fc:=⟨63,[(LI l)],(.own 0),(.arr 3 1 (aa .i64) 0 l)⟩
theorem AK (l:List Int) (h:l≠[]) (hl:l.length≤137438953472):CO (NI l):=by
 refine aq.vcO (V:=TT 2 (l≠[]∧an [] (([]:List Int).map (aa .i64))∧TT 1 ((([]:List Int).length+(l.map (aa .i64)).length≤137438953472∧([]:List Int).map (aa .i64)++l.map (aa .i64)=l.map (aa .i64))∧TT 2 (((.own 0):D)=.own 0∧((.arr 3 1 (aa .i64) 0 l):ax)=(.arr 3 1 (aa .i64) 0 l))))) (.w 3 [(0,.box 3 1 (aa .i64) 0 ([]:List Int)),(2,.box 3 1 (aa .i64) 0 l)]<|.e) Try.func63 rfl rfl rfl (by kernel_rfl) ?_
 exact tt ⟨(by exact h),⟨oK,tt ⟨⟨by simp only[Py,PP];omega,by simp⟩,tt ⟨rfl,rfl⟩⟩⟩⟩
abbrev NJ:Fc:=⟨63,[.nils],(.own 0),Cy⟩
theorem AL  : CO NJ:=by
 refine aq.vcO (V:=TT 5 (((.own 0):D)=.own 0∧([]:List Int)=[])) (.e) Try.func63 rfl rfl rfl (by kernel_rfl) ?_
 refine tt ⟨rfl,?_⟩
 rfl
abbrev NK:Fc:=⟨63,[(.v .esl)],(.own 0),Cy⟩
theorem AM  : CO NK:=by
 refine aq.vcO (V:=TT 3 (an [] (([]:List Int).map (aa .i64))∧TT 1 ((([]:List Int).length+(([]:List (List V))).length≤137438953472∧([]:List Int).map (aa .i64)++([]:List (List V))=([]:List Int).map (aa .i64))∧TT 2 (((.own 0):D)=.own 0∧(Cy:ax)=Cy)))) (.w 3 [(0,.box 3 1 (aa .i64) 0 ([]:List Int)),(2,.box 3 1 (aa .i64) 0 ([]:List Int))]<|.e) Try.func63 rfl rfl rfl (by kernel_rfl) ?_
 exact tt ⟨oK,tt ⟨⟨by simp,by simp⟩,tt ⟨rfl,rfl⟩⟩⟩
abbrev NL (l:List Int):Fc:=⟨63,[(LI l)],(.own 0),(.arr 3 1 (aa .i64) 0 l)⟩
theorem D6 (l:List Int) (hl:l.length≤137438953472):CO (NL l) :=
  aq.nilcases (fun h=>AK l h hl) (fun h=>by subst h;exact AL) (fun h=>by subst h;exact AM)
end Go.Proofs.Ytnlmlkbaflmgcaa
