/- Parts of a proof. -/
import Derived.Test.YtnlmlkbaflmgcaaQMjA
namespace Go.Proofs.Ytnlmlkbaflmgcaa
open Go.RowKit
set_option linter.unusedVariables false
set_option linter.unusedSimpArgs false
def Ax (f:Nat→ByteArray) (n:Nat) (k:ByteArray):Int:=cC (fun i=>(f i).toList==k.toList) n
def gP (f:Nat→ByteArray) (n:Nat):Prop:=∀i,i<n→∀i',i'<i→f i'≠f i
theorem gP.inj {f:Nat→ByteArray} {n:Nat} (h:gP f n) {i j:Nat} (hi:i<n) (hj:j<n) (e:f i=f j):i=j:=by
 rcases Nat.lt_trichotomy i j with h1 | h1 | h1
 ·exact absurd e (h j hj i h1)
 ·exact h1
 ·exact absurd e.symm (h i hi j h1)
theorem qI {f:Nat→ByteArray} {n j:Nat} (h:gP f n) (hj:j<n):Ax f n (f j)=(j:Int) :=
 dZ (by simp) (fun z hz=>beq_eq_false_iff_ne.2 (fun e=>h j hj z hz (toList_inj e))) hj
theorem Kh {f:Nat→ByteArray} {n:Nat} {k:ByteArray} (h:∀j,j<n→f j≠k):Ax f n k=-1 :=
 fX (fun z hz=>beq_eq_false_iff_ne.2 (fun e=>h z hz (toList_inj e)))
theorem jy {f:Nat→ByteArray} {n:Nat} (h:gP f n) (k:ByteArray) :
  (∃j,j<n∧f j=k∧aX (b9 [] f n) k=true∧ai 0 (b9 [] f n) k=(j:Int)∧Ax f n k=(j:Int)) ∨
  ((∀j,j<n→f j≠k)∧aX (b9 [] f n) k=false∧Ax f n k=-1):=by
 by_cases hh:∃j,j<n∧f j=k
 ·obtain⟨j,hj,e⟩:=hh
  subst e
  exact .inl ⟨j,hj,rfl,(Al n).2 ⟨j,hj,rfl⟩,wV n hj h,qI h hj⟩
 ·have h1:∀j,j<n→f j≠k:=fun j hj e=>hh ⟨j,hj,e⟩
  refine .inr ⟨h1,?_,Kh h1⟩
  cases hm:aX (b9 [] f n) k
  ·rfl
  ·exact absurd ((Al n).1 hm) hh
structure je (c:Ci):Prop where
 cn:gP (bq c) c.J.length
 pn:gP (iT c) c.U.length
 rn:∀i,i<c.U.length→gP (ku (c.U.getD i ac)) (c.U.getD i ac).Pe.length
 mn:∀i,i<c.U.length→gP (qy (c.U.getD i ac)) (c.U.getD i ac).Pd.length
theorem F0 {n:Ci} (h:gP (bq n) n.J.length) (o:Ci) (i:Nat):iU o n i=Av o n i:=by
 unfold iU Av kv
 rw[show qH n (bq o i)=Ax (bq n) n.J.length (bq o i)from rfl]
 rcases jy h (bq o i)with ⟨j,_,_,h1,h2,h3⟩ | ⟨_,h1,h3⟩
 ·rw[h1,h2,h3]
  rw[show decide ((j:Int)<0)=false from Pv (by omega)]
  rfl
 ·rw[h1,h3];rfl
theorem pI {n:Ci} (h:gP (bq n) n.J.length) (o:Ci):∀k,bc o n k=Jo o n k
 | 0=>rfl
 | k+1=>by rw[bc,Jo,pI h o k,F0 h]
theorem B6 {f:Nat→Bool} {n:Nat}:(!dh (fun i=>!f i) n)=true↔∃i,i<n∧f i=true:=by
 rw[PR,← Ra,bg]
 constructor
 ·intro h
  refine Classical.byContradiction fun hn=>h fun i hi=>?_
  cases hf:f i
  ·rfl
  ·exact absurd ⟨i,hi,hf⟩ hn
 ·intro ⟨i,hi,hf⟩ h
  have:=h i hi
  rw[hf]at this;cases this
structure Sr where
 is:Bool
 p:Pr
 s:Ps
abbrev LX:Sr:=⟨false,ac,a8⟩
def Ki (r:Rg) (f:Sr):Int :=
 if f.is=true∧2≤r.rule.kind then DW f.p r.rule.src
 else if f.is=true∧r.rule.kind=1 then (if 0≤DW f.p r.name∧¬(f.p.Pe.getD (DW f.p r.name).toNat aK).w=r.w then -1 else DW f.p r.name)else -1
def F1 (r:Rg) (f:Sr):Int:=if 0≤Ki r f then jY (f.s.Pe.getD (Ki r f).toNat 0) r.w else r.init
def yE (r:Rg) (f:Sr):Int:=if r.rule.kind=3 then jY (F1 r f+jY r.rule.n r.w) r.w else F1 r f
def Jp (m:Mm) (f:Sr):Int :=
 if f.is=true∧2≤m.rule.kind then Aw f.p m.rule.src
 else if f.is=true∧m.rule.kind=1 then (if 0≤Aw f.p m.name∧(¬(f.p.Pd.getD (Aw f.p m.name).toNat aA).w=m.w∨¬(f.p.Pd.getD (Aw f.p m.name).toNat aA).words=m.words)then -1 else Aw f.p m.name)else -1
def F2 (m:Mm) (f:Sr) (k:Nat):Int:=if 0≤Jp m f∧k<(f.s.Pd.getD (Jp m f).toNat []).length then jY ((f.s.Pd.getD (Jp m f).toNat []).getD k 0) m.w else 0
def uD (m:Mm) (f:Sr) (k:Nat):Int:=if m.rule.kind=3 then jY (F2 m f k+jY m.rule.n m.w) m.w else F2 m f k
theorem eL {a b w:Int}:jY (a+jY b w) w=jY (a+b) w:=by
 unfold jY
 by_cases h:0≤w∧w≤62
 ·rw[Pn h,Pn h,Pn h];exact Int.add_emod_emod _ _ _
 ·rw[Pj h,Pj h]
def Jq (p:Pr) (f:Sr):Ps:=⟨tab (fun i=>yE (p.Pe.getD i aK) f) p.Pe.length,tab (fun i=>tab (uD (p.Pd.getD i aA) f) (p.Pd.getD i aA).words.toNat) p.Pd.length⟩
def Kj (o n:Ci) (s:Ns) (i:Nat):Sr:=if 0≤yD o (iT n i)then ⟨true,o.U.getD (yD o (iT n i)).toNat ac,s.U.getD (yD o (iT n i)).toNat a8⟩else LX
def qJ (o n:Ci) (s:Ns) (i:Nat):Ps:=Jq (n.U.getD i ac) (Kj o n s i)
def vK (o n:Ci):List ByteArray:=Jo o n o.J.length
def vL (o n:Ci) (s:Ns) (i:Nat):Bool:=Ej (vK o n) (bq o i)&&decide (0<(s.J.getD i []).length)
def rj (o n:Ci) (s:Ns) (i:Nat):List Int:=if 0≤qH o (bq n i)∧Ej (vK o n) (bq o (qH o (bq n i)).toNat)=false then s.J.getD (qH o (bq n i)).toNat []else []
def mC (o n:Ci) (s:Ns) (i:Nat):Bool:=decide (0<(n.J.getD i aF).cap)&&decide ((n.J.getD i aF).cap<((rj o n s i).length:Int))
def B7 (o n:Ci) (s:Ns):Ns×Int:=if !(dh (fun i=>!vL o n s i) o.J.length&&dh (fun i=>!mC o n s i) n.J.length)then (⟨[],[]⟩,150)else (⟨tab (qJ o n s) n.U.length,tab (rj o n s) n.J.length⟩,0)
theorem H4 {o n:Ci} {s:Ns} (h1:∀k,k<o.J.length→vL o n s k=false) (h2:∀k,k<n.J.length→mC o n s k=false):B7 o n s=(⟨tab (qJ o n s) n.U.length,tab (rj o n s) n.J.length⟩,0):=by
 unfold B7;rw[bg.2 (fun i hi=>by rw[h1 i hi];rfl),bg.2 (fun i hi=>by rw[h2 i hi];rfl)];rfl
structure F3 (o n:Ci) (s:Ns):Prop extends lP o n s where
 rw:∀i,i<n.U.length→∀j,j<(n.U.getD i ac).Pe.length→0≤((n.U.getD i ac).Pe.getD j aK).w∧((n.U.getD i ac).Pe.getD j aK).w≤62
 mw:∀i,i<n.U.length→∀j,j<(n.U.getD i ac).Pd.length→0≤((n.U.getD i ac).Pd.getD j aA).w∧((n.U.getD i ac).Pd.getD j aA).w≤62
 sz:∀i j,((s.U.getD i a8).Pd.getD j []).length≤1000000
theorem Kk {o n:Ci} {s:Ns} {i:Nat} (h:0≤yD o (iT n i)):Kj o n s i=⟨true,o.U.getD (yD o (iT n i)).toNat ac,s.U.getD (yD o (iT n i)).toNat a8⟩:=Pn h
theorem F4 {o:Ci} {s:Ns} {j:Nat}:∀(m:Nat),j<m→gP (iT o) m→ai bt (bv o s m) (iT o j)=ex o s j
 | 0,h,_=>by omega
 | m+1,h,hd=>by
  rw[bv,eO]
  by_cases hj:j=m
  ·subst hj;rw[Pn rfl]
  ·rw[Pj (hd m (by omega) j (by omega))]
   exact F4 m (by omega) (fun i hi=>hd i (by omega))
theorem F5 {o:Ci} {s:Ns} {k:ByteArray}:∀(m:Nat),(∀j,j<m→iT o j≠k)→ai bt (bv o s m) k=bt
 | 0,_=>rfl
 | m+1,h=>by
  rw[bv,eO,Pj (fun e=>h m (by omega) e.symm)]
  exact F5 m (fun j hj=>h j (by omega))
theorem H5 (r:Rg) (hk:0≤r.rule.kind∧r.rule.kind≤3):eI bt r=yE r LX:=by
 have h0:nU bt r=false:=by
  unfold nU
  have:wY bt r=false:=rfl
  rw[this,Pj (by simp)]
 have h1:Ki r LX=-1:=by unfold Ki;rw[Pj (by simp),Pj (by simp)]
 unfold eI cf yE F1 pF ey
 rw[h0,h1]
 by_cases h3:r.rule.kind=3
 ·rw[Pj (by show ¬r.rule.kind=0;omega),Pn h3,Pn h3,eL];rfl
 ·rw[Pj h3,Pj h3];simp
theorem F6 {o:Ci} {s:Ns} {k:Nat} (h:gP (ku (o.U.getD k ac)) (o.U.getD k ac).Pe.length) (r:Rg) (hk:0≤r.rule.kind∧r.rule.kind≤3) :
  eI (ex o s k) r=yE r ⟨true,o.U.getD k ac,s.U.getD k a8⟩:=by
 generalize hp:o.U.getD k ac=p at h ⊢
 have e1:(ex o s k).Pe=b9 [] (ku p) p.Pe.length:=by unfold ex;rw[hp]
 have e2:(ex o s k).p=p:=by unfold ex;rw[hp]
 have e3:(ex o s k).s=s.U.getD k a8:=rfl
 have hI:∀q,DW p q=Ax (ku p) p.Pe.length q:=fun _=>rfl
 unfold eI nU wY yw
 rw[e1,e2,e3]
 unfold yE F1 Ki
 simp only[hI]
 have hkc:r.rule.kind=0∨r.rule.kind=1∨r.rule.kind=2∨r.rule.kind=3:=by omega
 rcases hkc with h0 | h0 | h0 | h0
 ·simp[cf,h0]
 ·have SR:av r.name r.rule=r.name:=Pn h0
  rw[SR]
  rcases jy h r.name with ⟨j,hj,e,h1,h2,h3⟩ | ⟨_,h1,h3⟩
  ·rw[h1,h2,h3]
   by_cases hw:(p.Pe.getD j aK).w=r.w
   ·simp only[cf,ey,h0,P7,hw]
    simp
   ·have hw':¬(p.Pe[j]?.getD aK).w=r.w:=by simpa[P4]using hw
    simp[cf,ey,h0,hw']
  ·rw[h1,h3];simp[cf,ey,h0]
 ·have SR:av r.name r.rule=r.rule.src:=Pj (by omega)
  rw[SR]
  rcases jy h r.rule.src with ⟨j,hj,e,h1,h2,h3⟩ | ⟨_,h1,h3⟩
  ·rw[h1,h2,h3];simp[cf,ey,h0]
  ·rw[h1,h3];simp[cf,ey,h0]
 ·have SR:av r.name r.rule=r.rule.src:=Pj (by omega)
  rw[SR]
  rcases jy h r.rule.src with ⟨j,hj,e,h1,h2,h3⟩ | ⟨_,h1,h3⟩
  ·rw[h1,h2,h3];simp[cf,pF,ey,h0,eL]
  ·rw[h1,h3];simp[cf,pF,ey,h0,eL]
theorem F7 (m:Mm) (hk:0≤m.rule.kind∧m.rule.kind≤3) (k:Nat):cr bt m k=uD m LX k:=by
 have h0:er bt m=false:=by
  unfold er
  have:aX bt.Pd (av m.name m.rule)=false:=rfl
  rw[this,Pj (by simp)]
 have h1:Jp m LX=-1:=by unfold Jp;rw[Pj (by simp),Pj (by simp)]
 rw[fy h0]
 unfold cf uD F2 pF ey
 rw[h1]
 by_cases h3:m.rule.kind=3
 ·rw[Pj (by show ¬m.rule.kind=0;omega),Pn h3,Pn h3,eL];rfl
 ·rw[Pj h3,Pj h3];simp
theorem H6 {o:Ci} {s:Ns} {k:Nat} (h:gP (qy (o.U.getD k ac)) (o.U.getD k ac).Pd.length) (m:Mm) (hk:0≤m.rule.kind∧m.rule.kind≤3) (z:Nat) :
  cr (ex o s k) m z=uD m ⟨true,o.U.getD k ac,s.U.getD k a8⟩ z:=by
 generalize hp:o.U.getD k ac=p at h ⊢
 have e1:(ex o s k).Pd=b9 [] (qy p) p.Pd.length:=by unfold ex;rw[hp]
 have e2:(ex o s k).p=p:=by unfold ex;rw[hp]
 have e3:(ex o s k).s=s.U.getD k a8:=rfl
 have hI:∀q,Aw p q=Ax (qy p) p.Pd.length q:=fun _=>rfl
 unfold cr vB er
 rw[e1,e2,e3]
 unfold uD F2 Jp
 simp only[hI]
 have hkc:m.rule.kind=0∨m.rule.kind=1∨m.rule.kind=2∨m.rule.kind=3:=by omega
 rcases hkc with h0 | h0 | h0 | h0
 ·simp[cf,h0]
 ·have SR:av m.name m.rule=m.name:=Pn h0
  rw[SR]
  rcases jy h m.name with ⟨j,hj,e,h1,h2,h3⟩ | ⟨_,h1,h3⟩
  ·rw[h1,h2,h3]
   by_cases hw:(p.Pd[j]?.getD aA).w=m.w
   ·by_cases hv:(p.Pd[j]?.getD aA).words=m.words
    ·by_cases hl:z<((s.U.getD k a8).Pd[j]?.getD []).length
     ·simp[cf,ey,h0,hw,hv,hl]<;>simp_all
     ·simp[cf,ey,h0,hw,hv,hl]<;>simp_all
    ·simp[cf,ey,h0,hw,hv]
   ·simp[cf,ey,h0,hw]
  ·rw[h1,h3];simp[cf,ey,h0]
 ·have SR:av m.name m.rule=m.rule.src:=Pj (by omega)
  rw[SR]
  rcases jy h m.rule.src with ⟨j,hj,e,h1,h2,h3⟩ | ⟨_,h1,h3⟩
  ·rw[h1,h2,h3]
   by_cases hl:z<((s.U.getD k a8).Pd[j]?.getD []).length
   ·simp[cf,ey,h0,hl]<;>simp_all
   ·simp[cf,ey,h0,hl]<;>simp_all
  ·rw[h1,h3];simp[cf,ey,h0]
 ·have SR:av m.name m.rule=m.rule.src:=Pj (by omega)
  rw[SR]
  rcases jy h m.rule.src with ⟨j,hj,e,h1,h2,h3⟩ | ⟨_,h1,h3⟩
  ·rw[h1,h2,h3]
   by_cases hl:z<((s.U.getD k a8).Pd[j]?.getD []).length
   ·simp[cf,pF,ey,h0,hl,eL]<;>simp_all
   ·simp[cf,pF,ey,h0,hl,eL]<;>simp_all
  ·rw[h1,h3]
   have:=eL (a:=0) (b:=m.rule.n) (w:=m.w)
   rw[Int.zero_add,Int.zero_add]at this
   simp[cf,pF,ey,h0,this]
def Ay (p:Pr):Prop:=(∀j,j<p.Pe.length→0≤(p.Pe.getD j aK).rule.kind∧(p.Pe.getD j aK).rule.kind≤3)∧∀j,j<p.Pd.length→0≤(p.Pd.getD j aA).rule.kind∧(p.Pd.getD j aA).rule.kind≤3
theorem F8 {o n:Ci} {s:Ns} (ho:je o) {i:Nat} (hr:Ay (n.U.getD i ac)):eu o n s i=qJ o n s i:=by
 unfold eu qJ FS Jq gV Kj
 rw[show yD o (iT n i)=Ax (iT o) o.U.length (iT n i)from rfl]
 rcases jy ho.pn (iT n i)with ⟨j,hj,e,_,_,h3⟩ | ⟨h1,_,h3⟩
 ·rw[h3,Pn (by omega),← e,F4 _ hj ho.pn,P7]
  rw[bC (fun q hq=>F6 (ho.rn j hj) _ (hr.1 q hq)),bC (fun q hq=>show fG _ _=tab (uD _ _) _ from bC (f:=cr _ _) (fun z _=>H6 (ho.mn j hj) _ (hr.2 q hq) z))]
 ·rw[h3,Pj (by omega),F5 _ h1]
  rw[bC (fun q hq=>H5 _ (hr.1 q hq)),bC (fun q hq=>show fG _ _=tab (uD _ _) _ from bC (f:=cr _ _) (fun z _=>F7 _ (hr.2 q hq) z))]
theorem se {o n:Ci} {s:Ns} (ho:je o) (hn:je n) (i:Nat):cS o n s i=rj o n s i:=by
 unfold cS rj FT eZ vK kv
 rw[pI hn.cn]
 rw[show qH o (bq n i)=Ax (bq o) o.J.length (bq n i)from rfl]
 rcases jy ho.cn (bq n i)with ⟨j,hj,e,h1,h2,h3⟩ | ⟨h1,h2,h3⟩
 ·rw[h1,h2,h3,P7,e]
  cases Ej (Jo o n o.J.length) (bq n i)
  ·rw[Pn (by simp),Pn ⟨by omega,rfl⟩]
  ·rw[Pj (by simp),Pj (by simp)]
 ·rw[h2,h3,Pj (by simp),Pj (by simp)]
theorem w7 {l:List ByteArray} {k:ByteArray}:Ej l k=true↔k∈l:=by
 unfold Ej
 rw[QV]
 exact⟨fun ⟨x,hx,e⟩=>Qt e ▸ hx,fun h=>⟨k,h,Pq rfl⟩⟩
theorem w8 {o n:Ci} {k:ByteArray}:∀m,k∈Jo o n m↔∃j,j<m∧Av o n j=true∧bq o j=k
 | 0=>by simp[Jo]
 | m+1=>by
  rw[Jo,Qn,w8 m]
  constructor
  ·rintro(⟨j,hj,a,b⟩ | h)
   ·exact⟨j,by omega,a,b⟩
   ·by_cases hp:Av o n m=true
    ·rw[Pn hp]at h;exact⟨m,by omega,hp,(QF.1 h).symm⟩
    ·rw[Pj hp]at h;cases h
  ·rintro⟨j,hj,a,b⟩
   by_cases hm:j=m
   ·subst hm;rw[Pn a];exact .inr (QF.2 b.symm)
   ·exact .inl ⟨j,by omega,a,b⟩
theorem F9 {o n:Ci} {s:Ns} (ho:je o) (hn:je n):(List.range (eZ o n).length).any (gg o n s)=!dh (fun i=>!vL o n s i) o.J.length:=by
 rw[Bool.eq_iff_iff,B6,QV]
 constructor
 ·rintro⟨k,hk,h⟩
  have hk:=P1.1 hk
  have hm:(eZ o n).getD k .empty∈eZ o n:=by rw[bk _ _ hk];exact QX hk
  unfold eZ at hm
  rw[pI hn.cn]at hm
  obtain⟨j,hj,hp,e⟩:=(w8 _).1 hm
  refine⟨j,hj,?_⟩
  unfold vL
  rw[Pg]
  refine⟨w7.2 ((w8 _).2 ⟨j,hj,hp,rfl⟩),?_⟩
  unfold gg eZ at h
  rw[pI hn.cn,← e,show ai 0 (kv o) (bq o j)=(j:Int)from wV _ hj ho.cn]at h
  exact h
 ·rintro⟨j,hj,h⟩
  unfold vL at h
  rw[Pg]at h
  have hm:=w7.1 h.1
  obtain⟨k,hk,e⟩:=QK hm
  have hg:eZ o n=vK o n:=pI hn.cn _ _
  refine⟨k,P1.2 (by rw[hg];exact hk),?_⟩
  unfold gg
  rw[hg,bk _ _ hk,e,show ai 0 (kv o) (bq o j)=(j:Int)from wV _ hj ho.cn]
  exact h.2
theorem H7 {o n:Ci} {s:Ns} (ho:je o) (hn:je n) (hr:∀i,i<n.U.length→Ay (n.U.getD i ac)):ae o n s=B7 o n s:=by
 have R':∀i,cg o n s i=mC o n s i:=fun i=>by unfold cg mC;rw[se ho hn]
 have h2:(List.range n.J.length).any (cg o n s)=!dh (fun i=>!mC o n s i) n.J.length:=by
  rw[Bool.eq_iff_iff,B6,QV]
  exact⟨fun ⟨k,hk,h⟩=>⟨k,P1.1 hk,by rw[← R'];exact h⟩,fun ⟨k,hk,h⟩=>⟨k,P1.2 hk,by rw[R'];exact h⟩⟩
 unfold ae B7
 rw[F9 ho hn,h2,bC (fun i hi=>F8 ho (hr i hi)),bC (fun i _=>se ho hn i),Bool.not_and]
def uE (k:Int) (q:Nat):Bool:=decide ((q:Int)=k)
section
variable {c:Ci} {s:Ns} {w:Nat→Bool} {i k:Nat}
theorem LZ (h:(!w i)=true):bz c s w i=false:=by
 unfold bz;cases hw:w i
 ·rfl
 ·rw[hw]at h;cases h
theorem Kl (h:yq c s i=false):bz c s w i=false:=by unfold bz;rw[h,Qd]
theorem Km (h:(!w i)=false) (h2:yq c s i=true):bz c s w i=true:=by
 unfold bz;cases hw:w i
 ·rw[hw]at h;cases h
 ·rw[h2];rfl
theorem Jr (h:bz c s w i=false):nz s i=dc c s w i:=by unfold dc;rw[Pj (by rw[h];simp)]
theorem Kn (h:bz c s w i=true):(aD c s i).s=dc c s w i:=by unfold dc;rw[Pn h]
theorem B8 (h:bz c s w i=false):qv c s w (i+1)=qv c s w i:=by rw[qv,Pj (by rw[h];simp),Qk]
theorem Ga (h:bz c s w i=true):qv c s w (i+1)=qv c s w i++ug (aZ c i) (aD c s i) (aZ c i).I.length:=by rw[qv,Pn h]
theorem B9 (h:bz c s w i=false):oO c s w (i+1)=oO c s w i:=by rw[oO,Pj (by rw[h];simp),Qk]
theorem Gb (h:bz c s w i=true):oO c s w (i+1)=oO c s w i++uj (aZ c i) (aD c s i) (aZ c i).Pc.length:=by rw[oO,Pn h]
theorem Ko {p:Pr} {f:Fi} (h:f.pops.getD k false=false):ug p f (k+1)=ug p f k:=by rw[ug,Pj (by rw[h];simp),Qk]
theorem H8 {p:Pr} {f:Fi} (h:f.pops.getD k false=true):ug p f (k+1)=ug p f k++[vz p k]:=by rw[ug,Pn h]
theorem Kp {p:Pr} {f:Fi} (h:(f.Pc.getD k cQ).has=false):uj p f (k+1)=uj p f k:=by rw[uj,Pj (by rw[h];simp),Qk]
theorem H9 {p:Pr} {f:Fi} (h:(f.Pc.getD k cQ).has=true):uj p f (k+1)=uj p f k++[(r9 p k,(f.Pc.getD k cQ).v)]:=by rw[uj,Pn h]
end
theorem Gc (p:Nat):uE (p:Int)=FN p:=funext fun q=>by
 unfold uE FN
 by_cases h:q=p
 ·rw[Pq h,Pq (by omega)]
 ·rw[Pv h,Pv (by omega)]
theorem Gd {c:Ci} {s:Ns} {w:Nat→Bool} (hc:bQ c) {k:Nat} (h:rH s k):rH (cT c s w) (k+1):=by
 intro n
 by_cases hn:n<c.J.length
 ·rw[pH c s w hn]
  unfold iR
  rw[PG,PQ]
  have h1:(k9 s n).length≤k:=h n
  have h2:(gU c s w n).length≤1:=by
   unfold gU;split
   ·exact tG hc n
   ·simp
  omega
 ·have:k9 (cT c s w) n=[]:=by show(tab _ _).getD n []=[];exact kr (by omega)
  rw[this];simp
theorem tI {c:Ci} {s:Ns} {p:Int} (h:¬0≤p):iP c s p=false:=by unfold iP;rw[Pv h];rfl
theorem tJ {c:Ci} {s:Ns} {p:Int} (h:¬p<c.U.length):iP c s p=false:=by unfold iP;rw[Pv h,Rr,Qd]
theorem sf {c:Ci} {s:Ns} {p:Int} (h:0≤p) (h2:p<c.U.length):iP c s p=(aD c s p.toNat).fires:=by unfold iP;rw[Pq h,Pq h2];rfl
theorem Kq {c:Ci} {s:Ns} {p:Nat} (h:p<c.U.length):iP c s (p:Int)=yq c s p:=by
 rw[sf (by omega) (by omega)];rfl
theorem w9 {v w:Int} (h:v<0):fg v w=false:=by unfold fg;rw[Pv (by omega)];rfl
theorem xa {v w:Int} (h:v>aE w):fg v w=false:=by unfold fg;rw[Pv (show ¬v≤aE w by omega),Qd]
theorem Ia {v w:Int} (h:¬v<0) (h2:¬v>aE w):fg v w=true:=by unfold fg;rw[Pq (show v≤aE w by omega),Pq (show 0≤v by omega)];rfl
theorem mD {l:List Int} {w:Int} {i:Nat} (hi:i<l.length) (h:fg (l.getD i 0) w=false):fx l w=false:=dR (f:=fun i=>fg (l.getD i 0) w) hi h
theorem tK {l:List Int} {w:Int} (h:∀i,i<l.length→fg (l.getD i 0) w=true):fx l w=true:=bg.2 h
def Js (a:Ns):Prop:=a.U.length≤1000000∧a.J.length≤1000000∧(∀n,(a.J.getD n []).length≤1099511627776)∧(∀i,(a.U.getD i a8).Pe.length≤1000000)∧(∀i,(a.U.getD i a8).Pd.length≤1000000)∧∀i j,((a.U.getD i a8).Pd.getD j []).length≤1000000
theorem Kr:Js OV:=by
 refine⟨by simp,by simp,fun n=>by simp,fun i=>by simp,fun i=>by simp,fun i j=>by simp⟩
def cx (a b:Ns):Bool:=decide (a.U.length=b.U.length)&&decide (a.J.length=b.J.length)&&dh (fun i=>dD (a.U.getD i a8) (b.U.getD i a8)) a.U.length&&decide (a.J=b.J)
section
variable {a b:Ns}
theorem iX (h:¬a.U.length=b.U.length):cx a b=false:=by unfold cx;rw[Pv h];rfl
theorem iY (h:¬a.J.length=b.J.length):cx a b=false:=by unfold cx;rw[Pv h,Qd];rfl
theorem iZ {i:Nat} (hi:i<a.U.length) (h:dD (a.U.getD i a8) (b.U.getD i a8)=false):cx a b=false:=by unfold cx;rw[dR hi h,Qd];rfl
theorem i1 {n:Nat} (h:¬a.J.getD n []=b.J.getD n []):cx a b=false:=by
 unfold cx;rw[Pv (show ¬a.J=b.J from fun e=>h (by rw[e])),Qd]
theorem i2 (h1:a.U.length=b.U.length) (h2:a.J.length=b.J.length) (h3:∀i,i<a.U.length→dD (a.U.getD i a8) (b.U.getD i a8)=true) (h4:∀n,n<a.J.length→a.J.getD n []=b.J.getD n []):cx a b=true:=by
 unfold cx;rw[Pq h1,Pq h2,bg.2 h3,Pq (lL h2 h4)];rfl
end
theorem yF (a:Ps):dD a a=true:=by simp[dD]
theorem tL {a b:Ns}:cx a b=true↔a=b:=by
 constructor
 ·intro h
  unfold cx at h
  simp only[Pg,P5,bg]at h
  obtain⟨⟨⟨h1,h2⟩,h3⟩,h4⟩:=h
  have:a.U=b.U:=lL h1 (fun i hi=>by have:=h3 i hi;exact iW.1 this)
  cases a;cases b;simp_all
 ·rintro rfl
  unfold cx
  simp only[Pg,P5,bg]
  exact⟨⟨⟨trivial,trivial⟩,fun i hi=>yF _⟩,trivial⟩
def gW (s:Ns) (n:Nat) (l:List Int):Ns:=⟨s.U,s.J.set n l⟩
def wB (l:List Bool) (q:Nat):Bool:=l.getD q false
def L0:Option Int→V
 | none=>.nsl
 | some v=>.sl 1 (aa .i64) 0 [v]
def Ge (o:Option Int):List V:=[L0 o]
def uF:Option Int→List Int
 | none=>[]
 | some v=>[v]
theorem Ks (o:Option Int):(uF o).length≤1:=by cases o<;>simp[uF]
theorem L1 (o:Option Int):xD (L0 o) (.sl 1 (aa .i64) 0 (uF o)):=by
 cases o
 ·exact rfl
 ·simp[L0,uF,xD]
section
variable {c:Ci} {s:Ns} {w:Nat→Bool} {i k:Nat}
theorem yG (l:List Int) (a b:List Nat):cU (cU l a) b=cU l (a++b):=by simp[cU,Q5]
theorem rm (l:List (Option Int)) (a b:List (Nat×Int)):cJ (cJ l a) b=cJ l (a++b):=by simp[cJ,Q5]
theorem pJ (ev:List (Nat×Int)):∀(l:List (Option Int)) (n:Nat),(∀e∈ev,e.1≠n)→(cJ l ev).getD n none=l.getD n none:=by
 induction ev with
 | nil=>intro l n h;rfl
 | cons e r ih =>
  intro l n h
  show(cJ (l.set e.1 _) r).getD n none=_
  rw[ih _ n (fun e' U6=>h e' (PN _ U6))]
  have:=h e (PT ..)
  simp[List.getD,Q4,this]
theorem yH (ev:List (Nat×Int)):∀(l:List (Option Int)) (n:Nat),n<l.length→l.getD n none=none→((ev.filter (fun e=>e.1==n)).map (·.2)).length≤1→uF ((cJ l ev).getD n none)=(ev.filter (fun e=>e.1==n)).map (·.2):=by
 induction ev with
 | nil=>intro l n hn h0 h;show uF (l.getD n none)=_;rw[h0];rfl
 | cons e r ih =>
  intro l n hn h0 h
  show uF ((cJ (l.set e.1 (some e.2)) r).getD n none)=_
  by_cases he:e.1=n
  ·have hf:(e::r).filter (fun e=>e.1==n)=e::r.filter (fun e=>e.1==n):=by simp[he]
   rw[hf,Qe]at h ⊢
   have hr:r.filter (fun e=>e.1==n)=[]:=by
    simp only[P8,Py]at h
    exact PL (by omega)
   rw[hr,pJ]
   ·subst he
    simp[List.getD,hn,uF]
   ·intro e' U6 h1
    have:e'∈r.filter (fun e=>e.1==n):=by rw[Rd];exact⟨U6,by simp[h1]⟩
    rw[hr]at this;cases this
  ·have hf:(e::r).filter (fun e=>e.1==n)=r.filter (fun e=>e.1==n):=by simp[he]
   rw[hf]at h ⊢
   refine ih _ n (by simpa using hn) ?_ h
   have:(l.set e.1 (some e.2)).getD n none=l.getD n none:=by simp[List.getD,Q4,he]
   rw[this];exact h0
theorem DX (hc:bQ c) (n:Nat):(gU c s w n).length≤1:=by
 unfold gU;split
 ·exact tG hc n
 ·simp
theorem yI {e:Nat×Int}:∀{P:Nat},e∈oO c s w P→∃p,p<P∧e∈uj (aZ c p) (aD c s p) (aZ c p).Pc.length
 | 0,h=>by cases h
 | P+1,h=>by
  rw[oO,Qn]at h
  rcases h with h | h
  ·obtain⟨p,h1,h2⟩:=yI h;exact⟨p,by omega,h2⟩
  ·split at h
   ·exact⟨P,by omega,h⟩
   ·cases h
theorem DY (hc:bQ c) (hi:i<c.U.length) (hk:k<(aZ c i).Pc.length) {f:Fi} {m:Nat}:(cJ (List.replicate m none) (oO c s w i++uj (aZ c i) f k)).getD (r9 (aZ c i) k) none=none:=by
 rw[pJ _ _ _ (fun e he h=>?_)]
 ·exact du
 ·rcases Qn.1 he with he | he
  ·obtain⟨p,h1,h3⟩:=yI he
   have h4:=(BQ hc (show p<c.U.length by omega) (Pl _) h3).2
   rw[h]at h4
   have h5:=(hc.pt i hi k hk).2.2.2
   have h6:((p:Nat):Int)=(i:Int):=h4.symm.trans h5
   omega
  ·obtain⟨j,h1,_,h3,_⟩:=pC he
   have:=hc.pd i hi j k (by omega) hk (h3.trans h)
   omega
theorem Ca (hc:bQ c) {n:Nat} (hn:n<c.J.length):(cU (List.replicate c.J.length 0) (qv c s w c.U.length)).getD n 0=(iQ c s w n:Nat):=by
 rw[yr _ _ _ (by simpa using hn),du]
 have h1:=tE (w:=w) (s:=s) hc n (Pl _)
 rw[HS hc]at h1
 split
 ·rename_i hm
  have:=List.count_pos_iff.2 hm
  unfold iQ at h1 ⊢
  split at h1
  ·rename_i hh;rw[Pn hh];rfl
  ·omega
 ·rename_i hm
  rw[List.count_eq_zero.2 hm]at h1
  rw[← h1];rfl
theorem Ib (n:Nat):iQ c s w n≤(k9 s n).length:=by
 unfold iQ;split
 ·rename_i h
  exact DT (vG h.1).2 h.2
 ·omega
theorem Ic (hc:bQ c) {n:Nat} (hn:n<c.J.length) :
  (k9 s n).drop ((cU (List.replicate c.J.length 0) (qv c s w c.U.length)).getD n 0).toNat++uF ((cJ (List.replicate c.J.length none) (oO c s w c.U.length)).getD n none)=iR c s w n:=by
 rw[Ca hc hn,P7,yH]
 ·rw[tF hc n (Pl _),BR];rfl
 ·simpa using hn
 ·exact du
 ·rw[tF hc n (Pl _),BR];exact DX hc n
theorem L2 {l:List Bool} (h:¬l.getD i false=true):bz c s (wB l) i=false:=LZ (by show(!l.getD i false)=true;simpa using h)
theorem Kt {l:List Bool} (h:(!(aD c s i).fires)=true):bz c s (wB l) i=false:=Kl (by show(aD c s i).fires=false;simpa using h)
theorem Ku {l:List Bool} (h:l.getD i false=true) (h2:(!(aD c s i).fires)=false):bz c s (wB l) i=true:=Km (by show(!l.getD i false)=false;rw[h];rfl) (by show(aD c s i).fires=true;simpa using h2)
theorem Gf {n p:Nat} (h:p<n):wB ((List.replicate n false).set p true)=uE (p:Int):=funext fun q=>by
 rw[Gc];unfold wB FN
 rw[dA (by simpa using h),du]
 by_cases e:p=q
 ·rw[Pn e,Pq e.symm]
 ·rw[Pj e,Pv (fun h=>e h.symm)]
theorem Cb (hs:dn c s) {p:Int} (h:iP c s p=false):cT c s (uE p)=s:=FM hs (fun q hq=>by
 unfold bz uE
 by_cases e:(q:Int)=p
 ·subst e
  rw[Kq hq]at h
  rw[h,Qd]
 ·rw[Pv e,Rr])
end
theorem Ie {c:Ci} {s:Ns} {p:Int} (h:iP c s p=true):0≤p∧p<c.U.length:=by
 unfold iP at h
 simp only[Pg,P5]at h
 exact⟨h.1,h.2.1⟩
structure En where
 I:List Int
 Pc:List Int
def pK (e:En):List V:=[.sl 1 (aa .i64) 0 e.I,.sl 1 (aa .i64) 0 e.Pc]
abbrev ct:En:=⟨[],[]⟩
def gQ:Ex:=⟨1,e0,⟨1,e0⟩,⟨1,e0⟩,[]⟩
def aU (s:Sg) (b:List Int) (i:Nat):Ex×Nat:=if b.getD i 0%4=1 then ap s b 2 (i+1) 1 else (gQ,i+1)
def OW:ByteArray:=bs [97]
def OX:ByteArray:=bs [98]
def Nf (k:Nat):ByteArray:=[bs [114],bs [115]].getD k e0
def Jt (k:Nat):ByteArray:=[bs [112],bs [113],bs [117],bs [118]].getD k e0
def Hc (k:Nat):ByteArray:=[bs [99,48],bs [99,49],bs [99,50],bs [99,51],bs [99,52]].getD k e0
def bw (y:Int) (k:Nat):Int:=1+(y / 4+k)%2
def pY (y:Int):Nat:=(1+y / 2%2).toNat
def Lg (y:Int):List Int:=tab (bw y) (pY y)
def Lh (y:Int):Sg:=⟨Lg y,[],[],false⟩
def yJ (y:Int) (n:Nat):Sg:=⟨Lg y,List.replicate n 2,[],true⟩
def tM (y:Int) (k:Nat):Rg:=⟨Nf k,bw y k,y / 8%2^(bw y k).toNat,dE,⟨[1,1,0].getD (y / 16%3).toNat 0,e0,0⟩⟩
def yK (b:List Int) (y:Int) (i:Nat):Nat→Nat
 | 0=>i
 | k+1=>(aU (Lh y) b (yK b y i k)).2
def xb (b:List Int) (y:Int) (n:Nat) (i:Nat):Nat→Nat
 | 0=>i
 | k+1=>(ap (yJ y n) b 3 (xb b y n i k) (bw y k)).2
def tN (b:List Int) (y:Int) (n:Nat) (i:Nat):Nat→Nat
 | 0=>i
 | k+1=>(ap (yJ y n) b 2 (aU (yJ y n) b (tN b y n i k)).2 2).2
def Ek (b:List Int) (y:Int) (i:Nat) (e:En) (k:Nat):Tk:=⟨e.I.getD k 0,2,(aU (Lh y) b (yK b y i k)).1⟩
def L3 (b:List Int) (y:Int) (n i k:Nat):Rg:={ tM y k with next:=(ap (yJ y n) b 3 (xb b y n i k) (bw y k)).1 }
def He (b:List Int) (y:Int) (n i:Nat) (e:En) (k:Nat):Pt:=⟨e.Pc.getD k 0,2,(aU (yJ y n) b (tN b y n i k)).1,(ap (yJ y n) b 2 (aU (yJ y n) b (tN b y n i k)).2 2).1⟩
def Ng (y:Int):ByteArray:=[OW,OX].getD (y%2).toNat e0
def lQ (b:List Int) (i:Nat) (e:En):Nat:=yK b (b.getD i 0) (i+1) e.I.length
def ld (b:List Int) (i:Nat) (e:En):Nat:=xb b (b.getD i 0) e.I.length (lQ b i e) (pY (b.getD i 0))
def bj (b:List Int) (i:Nat) (nm:ByteArray) (e:En):Pr×Nat :=
 (⟨nm,Ng (b.getD i 0),tab (L3 b (b.getD i 0) e.I.length (lQ b i e)) (pY (b.getD i 0)),[],tab (Ek b (b.getD i 0) (i+1) e) e.I.length,tab (He b (b.getD i 0) e.I.length (ld b i e) e) e.Pc.length⟩,
  tN b (b.getD i 0) e.I.length (ld b i e) e.Pc.length)
def aj (s:Int):List En :=
 if s%6=0 then [⟨[0],[1]⟩]
 else if s%6=1 then [⟨[0],[1]⟩,⟨[1],[2]⟩]
 else if s%6=2 then [⟨[0],[1,2]⟩,⟨[1],[3]⟩,⟨[2],[4]⟩]
 else if s%6=3 then [⟨[0,2],[1]⟩,⟨[1],[2,3]⟩]
 else if s%6=4 then [⟨[0],[2]⟩,⟨[1],[3]⟩,⟨[2,3],[4]⟩]
 else [⟨[0],[1]⟩,⟨[1],[2]⟩,⟨[2],[3]⟩,⟨[3],[4]⟩]
theorem xc {s:Sg} {b:List Int} {i:Nat} (h:b.getD i 0%4=1):aU s b i=ap s b 2 (i+1) 1:=Pn h
theorem xd {s:Sg} {b:List Int} {i:Nat} (h:¬b.getD i 0%4=1):aU s b i=(gQ,i+1):=Pj h
def rI (l:List Int) (n:Int):Bool:=!dh (fun i=>!decide (l.getD i 0=n)) l.length
theorem yL {l:List Int} {n:Int} {i:Nat} (hi:i<l.length) (h:l.getD i 0=n):rI l n=true:=by
 unfold rI;rw[dR hi (by rw[Pq h];rfl)];rfl
theorem Cc {l:List Int} {n:Int} (h:∀i,i<l.length→¬l.getD i 0=n):rI l n=false:=by
 unfold rI;rw[bg.2 (fun i hi=>by rw[Pv (h i hi)];rfl)];rfl
theorem vM {x w:Int} (h0:0≤w) (h6:w≤62):IntKind.wrap .i64 ((BitVec.ofInt (IntKind.i64).bits x &&& BitVec.ofInt (IntKind.i64).bits (aE w)).toNat:Int)=x%2^w.toNat:=by
 rw[cZ h0 h6];exact lI (by omega)
theorem xe {s:Sg} {b:List Int} (hb:gf b) {d i:Nat} {w:Int} (hd:d≤3) (h1:1≤w) (h2:w+d≤8):i≤(ap s b d i w).2∧(ap s b d i w).2≤i+64:=by
 have h:=(tx (s:=s) hb d i w hd h1 h2).2.2
 have:4^d≤4^3:=QH (by omega) hd
 omega
theorem tO {s:Sg} {b:List Int} (hb:gf b) {i:Nat}:i≤(aU s b i).2∧(aU s b i).2≤i+100:=by
 unfold aU
 split
 ·have:=xe (s:=s) hb (d:=2) (i:=i+1) (w:=1) (by omega) (by omega) (by omega);omega
 ·simp only;omega
theorem xf (y:Int) (k:Nat):1≤bw y k∧bw y k≤2:=by unfold bw;omega
theorem sg {b:List Int} (hb:gf b) (y:Int) (i:Nat):∀k,i≤yK b y i k∧yK b y i k≤i+100*k
 | 0=>⟨Pl _,Pl _⟩
 | k+1=>by
  have h1:=sg hb y i k
  have h2:=tO (s:=Lh y) hb (i:=yK b y i k)
  rw[yK];omega
theorem si {b:List Int} (hb:gf b) (y:Int) (n i:Nat):∀k,i≤xb b y n i k∧xb b y n i k≤i+100*k
 | 0=>⟨Pl _,Pl _⟩
 | k+1=>by
  have h1:=si hb y n i k
  have h3:=xf y k
  have h2:=xe (s:=yJ y n) hb (d:=3) (i:=xb b y n i k) (w:=bw y k) (by omega) (by omega) (by omega)
  rw[xb];omega
theorem xg {b:List Int} (hb:gf b) (y:Int) (n i:Nat):∀k,i≤tN b y n i k∧tN b y n i k≤i+200*k
 | 0=>⟨Pl _,Pl _⟩
 | k+1=>by
  have h1:=xg hb y n i k
  have h3:=tO (s:=yJ y n) hb (i:=tN b y n i k)
  have h2:=xe (s:=yJ y n) hb (d:=2) (i:=(aU (yJ y n) b (tN b y n i k)).2) (w:=2) (by omega) (by omega) (by omega)
  rw[tN];omega
theorem xh {y:Int} (h:0≤y):(pY y:Int)=1+y / 2%2∧pY y≤2:=by unfold pY;omega
def uG (b:List Int) (l:List En):Nat→Nat
 | 0=>0
 | i+1=>(bj b (uG b l i) (Jt i) (l.getD i ct)).2
def nX (b:List Int) (l:List En) (i:Nat):Pr:=(bj b (uG b l i) (Jt i) (l.getD i ct)).1
def L4 (l:List Int) (a:Int):Nat→Int
 | 0=>a
 | k+1=>JO (L4 l a k) (l.getD k 0)
def pL (l:List En):Nat→Int
 | 0=>0
 | i+1=>L4 (l.getD i ct).Pc (pL l i) (l.getD i ct).Pc.length
def vN (l:List En) (n:Int):Nat→Int
 | 0=>-1
 | i+1=>if rI (l.getD i ct).I n=true then (i:Int)else vN l n i
def vO (l:List En) (n:Int):Nat→Int
 | 0=>-1
 | i+1=>if rI (l.getD i ct).Pc n=true then (i:Int)else vO l n i
def sj (sh:Int) (l:List En) (n:Nat):Ch:=⟨Hc n,2,if 0≤vO l n l.length∧0≤vN l n l.length then 1+(sh / 6+n)%3 else 0,vO l n l.length,vN l n l.length⟩
def jR (sh:Int):Nat:=(pL (aj sh) (aj sh).length).toNat+1
def aB (sh:Int) (b:List Int):Ci:=⟨tab (nX b (aj sh)) (aj sh).length,tab (sj sh (aj sh)) (jR sh)⟩
theorem kE (sh:Int):aj sh=[⟨[0],[1]⟩]∨aj sh=[⟨[0],[1]⟩,⟨[1],[2]⟩]∨aj sh=[⟨[0],[1,2]⟩,⟨[1],[3]⟩,⟨[2],[4]⟩]∨aj sh=[⟨[0,2],[1]⟩,⟨[1],[2,3]⟩]∨aj sh=[⟨[0],[2]⟩,⟨[1],[3]⟩,⟨[2,3],[4]⟩]∨aj sh=[⟨[0],[1]⟩,⟨[1],[2]⟩,⟨[2],[3]⟩,⟨[3],[4]⟩]:=by
 unfold aj
 split
 ·exact .inl rfl
 split
 ·exact .inr (.inl rfl)
 split
 ·exact .inr (.inr (.inl rfl))
 split
 ·exact .inr (.inr (.inr (.inl rfl)))
 split
 ·exact .inr (.inr (.inr (.inr (.inl rfl))))
 ·exact .inr (.inr (.inr (.inr (.inr rfl))))
theorem lR (sh:Int):1≤(aj sh).length∧(aj sh).length≤4:=by
 rcases kE sh with h | h | h | h | h | h<;>rw[h]<;>decide
theorem mE (sh:Int) (i:Nat):((aj sh).getD i ct).I.length≤2∧((aj sh).getD i ct).Pc.length≤2:=by
 have key:∀e∈aj sh,e.I.length≤2∧e.Pc.length≤2:=by
  rcases kE sh with h | h | h | h | h | h<;>rw[h]<;>simp
 by_cases hi:i<(aj sh).length
 ·rw[bk _ _ hi];exact key _ (QX hi)
 ·rw[List.getD,P2 (by omega)];decide
theorem Cd (sh:Int):0≤pL (aj sh) (aj sh).length∧pL (aj sh) (aj sh).length≤4:=by
 rcases kE sh with h | h | h | h | h | h<;>rw[h]<;>decide
theorem Az (sh:Int):(jR sh:Int)=pL (aj sh) (aj sh).length+1∧jR sh≤5:=by
 have:=Cd sh;unfold jR;omega
theorem Cf {b:List Int} (hb:gf b) (sh:Int):∀i,uG b (aj sh) i≤1000*i
 | 0=>Pl _
 | i+1=>by
  have h1:=Cf hb sh i
  have he:=mE sh i
  rw[uG]
  unfold bj
  simp only
  generalize uG b (aj sh) i=p at *
  generalize (aj sh).getD i ct=e at *
  have hy:=b5 hb p
  have hn:=xh hy.1
  have a1:p+1≤lQ b p e∧lQ b p e≤p+1+100*e.I.length:=sg hb (b.getD p 0) (p+1) e.I.length
  have a2:lQ b p e≤ld b p e∧ld b p e≤lQ b p e+100*pY (b.getD p 0):=si hb (b.getD p 0) e.I.length (lQ b p e) (pY (b.getD p 0))
  have a3:=xg hb (b.getD p 0) e.I.length (ld b p e) e.Pc.length
  omega
theorem Gg (l:List En) (n:Int):∀i,-1≤vN l n i∧vN l n i<i
 | 0=>by simp[vN]
 | i+1=>by have:=Gg l n i;rw[vN];split<;>omega
theorem Gi (l:List En) (n:Int):∀i,-1≤vO l n i∧vO l n i<i
 | 0=>by simp[vO]
 | i+1=>by have:=Gi l n i;rw[vO];split<;>omega
theorem Ju {x:Int} (h0:0≤x) (h1:x≤255):IntKind.wrap .u8 x=x:=M9 rfl h0 h1
def sk (b:List Int) (i:Nat):Nat:=(b.getD i 0%7).toNat
def uH (b:List Int) (i:Nat) (w:Int) (k:Nat):Int:=b.getD (i+(1+k)) 0%2^w.toNat
def un (c:Ci) (b:List Int):Nat→Ns×Nat
 | 0=>(d4 c,0)
 | i+1=>if 0≤(eK c i).frm then un c b i else (gW (un c b i).1 i (tab (uH b (un c b i).2 (eK c i).w) (sk b (un c b i).2)),(un c b i).2+(1+sk b (un c b i).2))
def bM (c:Ci) (b:List Int):Ns:=(un c b c.J.length).1
theorem Gj {b:List Int} (hb:gf b) (i:Nat):sk b i≤6∧(sk b i:Int)=b.getD i 0%7:=by
 have:=b5 hb i;unfold sk;omega
theorem Gk {c:Ci} {b:List Int} {i:Nat} (h:0≤(eK c i).frm):un c b (i+1)=un c b i:=by rw[un,Pn h]
theorem AA {c:Ci} {b:List Int} {i:Nat} (h:¬0≤(eK c i).frm):un c b (i+1)=(gW (un c b i).1 i (tab (uH b (un c b i).2 (eK c i).w) (sk b (un c b i).2)),(un c b i).2+(1+sk b (un c b i).2)):=by rw[un,Pj h]
def ck (c:Ci) (s:Ns) (l:List Int):Ns:=l.foldl (fun u k=>cT c u (uE (k%c.U.length))) s
theorem DZ {c:Ci} {s:Ns} {l:List Int} {i:Nat} (h:i<l.length):ck c s (l.take (i+1))=cT c (ck c s (l.take i)) (uE (l.getD i 0%c.U.length)):=by
 unfold ck
 rw[List.take_succ_eq_append_getElem h,Q5]
 simp[List.getD,Ph h]
theorem Nh {x:Int} (h0:0≤x) (h1:x≤255):IntKind.wrap .u8 (Int.tdiv x 6)=x / 6:=by
 rw[QT h0];exact Ju (by omega) (by omega)
theorem Gl {sh:Int} {l:List En} {n:Nat} {fr to:Int} (h1:0≤vO l n l.length) (h2:0≤vN l n l.length) (h3:fr=vO l n l.length) (h4:to=vN l n l.length):(⟨Hc n,2,1+(sh / 6+n)%3,fr,to⟩:Ch)=sj sh l n:=by
 unfold sj;rw[Pn ⟨h1,h2⟩,h3,h4]
theorem Gm {sh:Int} {l:List En} {n:Nat} {fr to:Int} (h:¬(0≤vO l n l.length∧0≤vN l n l.length)) (h3:fr=vO l n l.length) (h4:to=vN l n l.length):(⟨Hc n,2,0,fr,to⟩:Ch)=sj sh l n:=by
 unfold sj;rw[Pj h,h3,h4]
theorem yM {l:List Int} {n:Nat} (h:gf l):gf (l.take n):=fun x hx=>h x (List.mem_of_mem_take hx)
theorem Gn {p:Pr} (hp:hT p):lM p (bx p) where
 rl:=by simp[bx]
 rv:=fun i hi=>by
  rw[show(bx p).Pe=p.Pe.map (·.init)from rfl]
  have:=(hp.rw i hi).2.1
  simpa[List.getD,PE,Ph hi]using this
 ml:=by simp[bx]
 mn:=fun i hi=>by
  have h2:=(hp.mw i hi).2.1
  rw[show(bx p).Pd=p.Pd.map (fun m=>List.replicate m.words.toNat 0)from rfl]
  have:(p.Pd.map (fun m=>List.replicate m.words.toNat (0:Int))).getD i []=List.replicate (eh p i).words.toNat 0:=by
   simp[List.getD,PE,Ph hi]
  rw[this,Pp];omega
 mv:=fun i hi j hj=>by
  rw[show(bx p).Pd=p.Pd.map (fun m=>List.replicate m.words.toNat 0)from rfl]at hj ⊢
  have:(p.Pd.map (fun m=>List.replicate m.words.toNat (0:Int))).getD i []=List.replicate (eh p i).words.toNat 0:=by
   simp[List.getD,PE,Ph hi]
  rw[this,du]
  exact oM (hp.mw i hi).1
theorem Gp {c:Ci} (hc:bQ c):dn c (d4 c) where
 pl:=by simp[d4,aC]
 cl:=by simp[d4]
 pv:=fun i hi=>by
  show lM _ ((tab _ _).getD i a8)
  rw[aN hi];exact Gn (hc.pr i hi)
 cv:=fun n hn i hi=>by
  have h0:k9 (d4 c) n=[]:=by show(List.replicate _ _).getD n []=[];exact du
  rw[h0]at hi;simp at hi
 cc:=fun n hn h1 h2=>by
  have h0:k9 (d4 c) n=[]:=by show(List.replicate _ _).getD n []=[];exact du
  rw[h0]
  simpa using hc.cp n hn
theorem Ig {c:Ci} {s:Ns} (hs:dn c s) {n:Nat} (hn:n<c.J.length) {l:List Int} (h1:∀i,i<l.length→cI (l.getD i 0) (eK c n).w) (h2:0≤(eK c n).frm→0≤(eK c n).dst→(l.length:Int)≤(eK c n).cap):dn c (gW s n l) where
 pl:=hs.pl
 cl:=by show(s.J.set n l).length=_;rw[PO];exact hs.cl
 pv:=hs.pv
 cv:=fun m hm i hi=>by
  have e:k9 (gW s n l) m=if n=m then l else k9 s m:=dA (by rw[hs.cl];exact hn)
  rw[e]at hi ⊢
  split at hi
  ·rename_i h;subst h;rw[Pn rfl];exact h1 i hi
  ·rename_i h;rw[Pj h];exact hs.cv m hm i hi
 cc:=fun m hm a b=>by
  have e:k9 (gW s n l) m=if n=m then l else k9 s m:=dA (by rw[hs.cl];exact hn)
  rw[e]
  split
  ·rename_i h;subst h;exact h2 a b
  ·exact hs.cc m hm a b
theorem Ih {s:Ns} {k n:Nat} {l:List Int} (h:rH s k) (hl:l.length≤k):rH (gW s n l) k:=fun m=>by
 by_cases hn:n<s.J.length
 ·have e:k9 (gW s n l) m=if n=m then l else k9 s m:=dA hn
  rw[e];split
  ·exact hl
  ·exact h m
 ·have e:gW s n l=s:=by show(⟨s.U,s.J.set n l⟩:Ns)=s;rw[List.set_eq_of_length_le (by omega)]
  rw[e];exact h m
theorem Kv {b:List Int} {i:Nat} {w:Int} {k:Nat} (h1:1≤w) (h2:w≤62):cI (uH b i w k) w:=by
 unfold uH cI
 rw[cZ (by omega) h2]
 have hp:(0:Int)<2^w.toNat:=Int.pow_pos (by omega)
 exact⟨Qw _ (by omega),by have:=QG (b.getD (i+(1+k)) 0) hp;omega⟩
theorem Cg {c:Ci} (hc:bQ c) {b:List Int} (hb:gf b):∀i,i≤c.J.length→dn c (un c b i).1∧rH (un c b i).1 6
 | 0,_=>⟨Gp hc,fun n=>by
  have:k9 (d4 c) n=[]:=by show(List.replicate _ _).getD n []=[];exact du
  show(k9 (d4 c) n).length≤6
  rw[this];simp⟩
 | i+1,h=>by
  have ih:=Cg hc hb i (by omega)
  by_cases hf:0≤(eK c i).frm
  ·rw[Gk hf];exact ih
  ·rw[AA hf]
   have hw:=aR.1 (hc.cw i (by omega))
   have hn:=Gj hb (un c b i).2
   refine⟨Ig ih.1 (by omega) (fun j hj=>?_) (fun a _=>absurd a hf),Ih ih.2 (by rw[aC];exact hn.1)⟩
   rw[aC]at hj
   rw[aN hj];exact Kv hw.1 (by omega)
theorem D0 {c:Ci} (hc:bQ c) {b:List Int} (hb:gf b):dn c (bM c b)∧rH (bM c b) 1000000000:=by
 have:=Cg hc hb c.J.length (Pl _)
 exact⟨this.1,fun n=>PZ (this.2 n) (by omega)⟩
theorem xi {c:Ci} (hc:bQ c):∀(l:List Int) {s:Ns} {k:Nat},dn c s→rH s k→dn c (ck c s l)∧rH (ck c s l) (k+l.length)
 | [],s,k,h1,h2=>⟨h1,h2⟩
 | x::r,s,k,h1,h2=>by
  have:=xi hc r (FJ hc h1 (uE (x%c.U.length))) (Gd (w:=uE (x%c.U.length)) hc h2)
  refine⟨this.1,fun n=>?_⟩
  have h3:=this.2 n
  show(k9 (ck c _ r) n).length≤_
  simp only[P8];omega
set_option maxRecDepth 100000
theorem Jv {s:Ns} {k:Nat} (h:s.J.all (fun l=>decide (l.length≤k))=true):rH s k:=fun n=>by
 by_cases hn:n<s.J.length
 ·rw[PH]at h
  have:=h _ (vH (d:=[]) hn)
  simpa using this
 ·show(s.J.getD n []).length≤k
  rw[List.getD,P2 (by omega)];simp
theorem Cj {s:Sg} {b:List Int} (hb:gf b) (i:Nat):dQ s.sc (aU s b i).1=some 1∧eN (aU s b i).1≤3:=by
 unfold aU
 split
 ·have h:=tx (s:=s) hb 2 (i+1) 1 (by omega) (by omega) (by omega)
  exact⟨h.1,by have:=h.2.1;omega⟩
 ·exact⟨rfl,by show eN gQ≤3;decide⟩
theorem Kw (y:Int) (f:Nat→Rg) (hf:∀k,(f k).w=bw y k):(⟨(tab f (pY y)).map (·.w),[],[]⟩:Sc)=(Lh y).sc:=by
 have:(tab f (pY y)).map (·.w)=Lg y:=by
  unfold Lg tab
  rw[Rf]
  exact QN (fun k _=>hf k)
 rw[this];rfl
theorem Kx (y:Int) (n:Nat) (f:Nat→Rg) (g:Nat→Tk) (hf:∀k,(f k).w=bw y k) (hg:∀k,(g k).w=2):(⟨(tab f (pY y)).map (·.w),[],(tab g n).map (·.w)⟩:Sc)=(yJ y n).sc:=by
 have e1:(tab f (pY y)).map (·.w)=Lg y:=by
  unfold Lg tab
  rw[Rf]
  exact QN (fun k _=>hf k)
 have e2:(tab g n).map (·.w)=List.replicate n 2:=by
  apply Qq
  ·simp[aC]
  ·intro i h1 h2
   simp[tab,hg]
 rw[e1,e2];rfl
theorem Ii {b:List Int} (hb:gf b) {i:Nat} {nm:ByteArray} {e:En} (ht:e.I.length≤2) (hp:e.Pc.length≤2):hT (bj b i nm e).1:=by
 have hy:=b5 hb i
 have hn:=xh hy.1
 have Ru:Kg (bj b i nm e).1=(Lh (b.getD i 0)).sc:=Kw _ _ (fun k=>rfl)
 have RQ:mz (bj b i nm e).1=(yJ (b.getD i 0) e.I.length).sc:=Kx _ _ _ _ (fun k=>rfl) (fun k=>rfl)
 have l1:(bj b i nm e).1.Pe.length=pY (b.getD i 0):=aC _ _
 have l2:(bj b i nm e).1.I.length=e.I.length:=aC _ _
 have l3:(bj b i nm e).1.Pc.length=e.Pc.length:=aC _ _
 have l4:(bj b i nm e).1.Pd.length=0:=rfl
 refine⟨by omega,by omega,by omega,by omega,fun k hk=>?_,fun k hk=>by omega,fun k hk=>?_,fun k hk=>?_⟩
 ·rw[RQ]
  rw[l1]at hk
  have e1:oL (bj b i nm e).1 k=L3 b (b.getD i 0) e.I.length (lQ b i e) k:=aN hk
  rw[e1]
  have hw:=xf (b.getD i 0) k
  have h:=tx (s:=yJ (b.getD i 0) e.I.length) hb 3 (xb b (b.getD i 0) e.I.length (lQ b i e) k) (bw (b.getD i 0) k) (by omega) (by omega) (by omega)
  refine⟨aR.2 (by show 1≤bw (b.getD i 0) k∧bw (b.getD i 0) k≤8;omega),?_,h.1,by have:=h.2.1;show eN (ap _ b 3 _ _).1≤3;omega⟩
  show cI (b.getD i 0 / 8%2^(bw (b.getD i 0) k).toNat) (bw (b.getD i 0) k)
  unfold cI
  rw[cZ (by omega) (by omega)]
  have hp2:(0:Int)<2^(bw (b.getD i 0) k).toNat:=Int.pow_pos (by omega)
  exact⟨Qw _ (by omega),by have:=QG (b.getD i 0 / 8) hp2;omega⟩
 ·rw[Ru]
  rw[l2]at hk
  have e1:ny (bj b i nm e).1 k=Ek b (b.getD i 0) (i+1) e k:=aN hk
  rw[e1]
  exact⟨rfl,Cj hb _⟩
 ·rw[RQ]
  rw[l3]at hk
  have e1:qu (bj b i nm e).1 k=He b (b.getD i 0) e.I.length (ld b i e) e k:=aN hk
  rw[e1]
  have h:=tx (s:=yJ (b.getD i 0) e.I.length) hb 2 (aU (yJ (b.getD i 0) e.I.length) b (tN b (b.getD i 0) e.I.length (ld b i e) k)).2 2 (by omega) (by omega) (by omega)
  exact⟨rfl,Cj hb _,h.1,by have:=h.2.1;show eN (ap _ b 2 _ _).1≤3;omega⟩
def L5 (l:List En):Prop:=∀i,i<l.length→∀j,j<(l.getD i ct).I.length→0≤(l.getD i ct).I.getD j 0∧(l.getD i ct).I.getD j 0<pL l l.length+1∧vN l ((l.getD i ct).I.getD j 0) l.length=(i:Int)
def L6 (l:List En):Prop:=∀i,i<l.length→∀j,j<(l.getD i ct).Pc.length→0≤(l.getD i ct).Pc.getD j 0∧(l.getD i ct).Pc.getD j 0<pL l l.length+1∧vO l ((l.getD i ct).Pc.getD j 0) l.length=(i:Int)
def L7 (l:List En):Prop:=∀i,i<l.length→∀j,j<(l.getD i ct).I.length→∀k,k<(l.getD i ct).I.length→(l.getD i ct).I.getD j 0=(l.getD i ct).I.getD k 0→j=k
def L8 (l:List En):Prop:=∀i,i<l.length→∀j,j<(l.getD i ct).Pc.length→∀k,k<(l.getD i ct).Pc.length→(l.getD i ct).Pc.getD j 0=(l.getD i ct).Pc.getD k 0→j=k
theorem L9 (sh:Int):L5 (aj sh)∧L6 (aj sh)∧L7 (aj sh)∧L8 (aj sh):=by
 unfold L5 L6 L7 L8
 rcases kE sh with h | h | h | h | h | h<;>rw[h]<;>decide
theorem Ma {sh:Int} {b:List Int} (h0:0≤sh) (h1:sh≤255) (hb:gf b):bQ (aB sh b):=by
 have Tt:=lR sh
 have Xl:=Az sh
 obtain⟨q1,q2,q3,q4⟩:=L9 sh
 have lp:(aB sh b).U.length=(aj sh).length:=aC _ _
 have lc:(aB sh b).J.length=jR sh:=aC _ _
 have gp:∀i,i<(aj sh).length→aZ (aB sh b) i=nX b (aj sh) i:=fun i hi=>aN hi
 have gc:∀n,n<jR sh→eK (aB sh b) n=sj sh (aj sh) n:=fun n hn=>aN hn
 have ltk:∀i,(nX b (aj sh) i).I.length=((aj sh).getD i ct).I.length:=fun i=>aC _ _
 have lpt:∀i,(nX b (aj sh) i).Pc.length=((aj sh).getD i ct).Pc.length:=fun i=>aC _ _
 have ctk:∀i j,j<((aj sh).getD i ct).I.length→(ny (nX b (aj sh) i) j).chan=((aj sh).getD i ct).I.getD j 0∧(ny (nX b (aj sh) i) j).w=2:=fun i j hj=>by
  have:ny (nX b (aj sh) i) j=Ek b _ _ ((aj sh).getD i ct) j:=aN hj
  rw[this];exact⟨rfl,rfl⟩
 have cpt:∀i j,j<((aj sh).getD i ct).Pc.length→(qu (nX b (aj sh) i) j).chan=((aj sh).getD i ct).Pc.getD j 0∧(qu (nX b (aj sh) i) j).w=2:=fun i j hj=>by
  have:qu (nX b (aj sh) i) j=He b _ _ _ ((aj sh).getD i ct) j:=aN hj
  rw[this];exact⟨rfl,rfl⟩
 have cast:∀x:Int,0≤x→((x.toNat:Nat):Int)=x:=fun x hx=>by omega
 refine⟨by omega,by omega,by omega,fun i hi=>?_,fun i hi j hj=>?_,fun i hi j hj=>?_,fun i hi j k hj hk he=>?_,fun i hi j k hj hk he=>?_,fun n hn=>?_,fun n hn=>?_⟩
 ·rw[lp]at hi
  rw[gp i hi]
  have he:=mE sh i
  exact Ii hb he.1 he.2
 ·rw[lp]at hi
  rw[gp i hi]at hj ⊢
  rw[ltk]at hj
  obtain⟨a1,a2,a3⟩:=q1 i hi j hj
  obtain⟨c1,c2⟩:=ctk i j hj
  have e:vz (nX b (aj sh) i) j=(((aj sh).getD i ct).I.getD j 0).toNat:=by show(ny _ j).chan.toNat=_;rw[c1]
  rw[c1,c2,e,gc _ (by omega),lc]
  refine⟨a1,by omega,rfl,?_⟩
  show vN _ _ _=_
  rw[cast _ a1];exact a3
 ·rw[lp]at hi
  rw[gp i hi]at hj ⊢
  rw[lpt]at hj
  obtain⟨a1,a2,a3⟩:=q2 i hi j hj
  obtain⟨c1,c2⟩:=cpt i j hj
  have e:r9 (nX b (aj sh) i) j=(((aj sh).getD i ct).Pc.getD j 0).toNat:=by show(qu _ j).chan.toNat=_;rw[c1]
  rw[c1,c2,e,gc _ (by omega),lc]
  refine⟨a1,by omega,rfl,?_⟩
  show vO _ _ _=_
  rw[cast _ a1];exact a3
 ·rw[lp]at hi
  rw[gp i hi]at hj hk he
  rw[ltk]at hj hk
  have a1:=(q1 i hi j hj).1
  have a2:=(q1 i hi k hk).1
  have e1:vz (nX b (aj sh) i) j=(((aj sh).getD i ct).I.getD j 0).toNat:=by show(ny _ j).chan.toNat=_;rw[(ctk i j hj).1]
  have e2:vz (nX b (aj sh) i) k=(((aj sh).getD i ct).I.getD k 0).toNat:=by show(ny _ k).chan.toNat=_;rw[(ctk i k hk).1]
  exact q3 i hi j hj k hk (by omega)
 ·rw[lp]at hi
  rw[gp i hi]at hj hk he
  rw[lpt]at hj hk
  have a1:=(q2 i hi j hj).1
  have a2:=(q2 i hi k hk).1
  have e1:r9 (nX b (aj sh) i) j=(((aj sh).getD i ct).Pc.getD j 0).toNat:=by show(qu _ j).chan.toNat=_;rw[(cpt i j hj).1]
  have e2:r9 (nX b (aj sh) i) k=(((aj sh).getD i ct).Pc.getD k 0).toNat:=by show(qu _ k).chan.toNat=_;rw[(cpt i k hk).1]
  exact q4 i hi j hj k hk (by omega)
 ·rw[lc]at hn
  rw[gc n hn];rfl
 ·rw[lc]at hn
  rw[gc n hn]
  show(0:Int)≤if _ then _ else _
  split
  ·exact Int.add_nonneg (by decide) (Qw _ (by decide))
  ·exact Int.le_refl 0
theorem yN {c d:Sc}:∀(l:List Ex) (ws:List Int),(∀a∈l,∀w,dQ c a=some w→dQ d a=some w)→dQ.tyL c l=some ws→dQ.tyL d l=some ws
 | [],ws,_,h=>by rw[dQ.tyL]at h ⊢;exact h
 | a::r,ws,hm,h=>by
  rw[dQ.tyL]at h
  split at h
  ·rename_i w ws' h1 h2
   cases h
   rw[dQ.tyL,hm a (by simp) w h1,yN r ws' (fun x hx=>hm x (by simp[hx])) h2]
  ·cases h
theorem pM {r t ms:List Int}:∀(n:Nat) (e:Ex) (w:Int),eN e≤n→dQ ⟨r,[],t⟩ e=some w→dQ ⟨r,ms,t⟩ e=some w
 | 0,e,w,h,_=>by have:=HU e;omega
 | n+1,e,w,h,ht=>by
  obtain⟨ws,q1,q2⟩:=fv ht
  have h1:dQ.tyL ⟨r,ms,t⟩ e.args=some ws:=yN e.args ws (fun a ha v hv=>pM n a v (by have:=wO ha;omega) hv) q1
  cases e with
  | mk op name k w0 args =>
   rw[dQ]
   simp only at h1 q2 ⊢
   rw[h1]
   simp only
   rcases q2 with ⟨a,b,c,d,e⟩ | ⟨a,b,c,d,e⟩ | ⟨a,b,c,d,e⟩ | ⟨a,b,c,d,e⟩
   ·rw[Pn a,Pn ⟨b,c,d⟩,e]
   ·rw[Pj (by omega),Pn a,Pn ⟨b,c,d⟩,e]
   ·simp at d;omega
   ·rw[Pj a,Pj c,Pj b,Pn d,e]
theorem Jw {x:Int} {k:Nat} (h0:0≤x) (h1:x≤255):IntKind.wrap .u8 (Int.tdiv x (k:Int))=x / k:=by
 rw[QT h0]
 have h2:0≤x / (k:Int):=Int.ediv_nonneg h0 (by omega)
 have h3:x / (k:Int)≤x:=Int.ediv_le_self _ h0
 exact M9 rfl h2 (by omega)
theorem Mb {n:Nat} (h:n≤1000000):IntKind.wrap .i64 (Int.tdiv (n:Int) 10)=((n / 10:Nat):Int):=by
 rw[QT (by omega)]
 exact rY rfl (by omega) (by omega)
theorem Mc (n:Nat):Int.tmod (n:Int) 10=((n%10:Nat):Int):=by
 rw[Qh (by omega)];omega
def Md:ByteArray:=bs [109,101,109]
def Ck:Ex:=⟨1,e0,⟨0,e0⟩,⟨1,e0⟩,[]⟩
def yO (y:Int):Int:=1+y / 2%2
def qK (y:Int):Mm:=⟨Md,yO y,[2,1,4,2].getD (y / 4%4).toNat 0,Ck,Ck,⟨1,e0,⟨0,e0⟩,⟨yO y,e0⟩,[]⟩,⟨1,e0,0⟩⟩
def Ij (b:List Int) (i:Nat):Bool:=decide (i<b.length)&&decide (b.getD i 0%2=1)
def jZ (p:Pr) (b:List Int) (i:Nat):Pr:=if Ij b i=true then { p with Pd:=[qK (b.getD i 0)] } else p
def aG (c:Ci) (b:List Int):Ci:=⟨tab (fun i=>jZ (c.U.getD i ac) b i) c.U.length,c.J⟩
theorem Ik {b:List Int} {i:Nat} (h1:i<b.length) (h2:b.getD i 0%2=1) (p:Pr):jZ p b i={ p with Pd:=[qK (b.getD i 0)] }:=by
 unfold jZ Ij;rw[Pq h1,Pq h2,Pn (by simp)]
theorem Il {b:List Int} {i:Nat} (h1:¬i<b.length) (p:Pr):jZ p b i=p:=by
 unfold jZ Ij;rw[Pv h1,Rr,Pj (by simp)]
theorem Im {b:List Int} {i:Nat} (h2:¬b.getD i 0%2=1) (p:Pr):jZ p b i=p:=by
 unfold jZ Ij;rw[Pv h2,Qd,Pj (by simp)]
def vP (b:List Int) (w:Int) (q:Nat) (z:Nat):Int:=if q+z<b.length then jY (b.getD (q+z) 0) w else 0
def rp (b:List Int) (p:Pr) (q:Nat):Nat→Nat
 | 0=>q
 | k+1=>rp b p q k+(p.Pd.getD k aA).words.toNat
def zB (b:List Int) (p:Pr) (q k:Nat):List Int:=tab (vP b (p.Pd.getD k aA).w (rp b p q k)) (p.Pd.getD k aA).words.toNat
def jA (b:List Int) (c:Ci):Nat→Nat
 | 0=>0
 | i+1=>rp b (c.U.getD i ac) (jA b c i) (c.U.getD i ac).Pd.length
def D1 (b:List Int) (c:Ci) (s:Ns) (i:Nat):Ps:=⟨(s.U.getD i a8).Pe,tab (zB b (c.U.getD i ac) (jA b c i)) (c.U.getD i ac).Pd.length⟩
def gB (c:Ci) (s:Ns) (b:List Int):Ns:=⟨tab (D1 b c s) c.U.length,s.J⟩
theorem Cl {x w:Int} (h0:0≤w) (h:w≤62):cI (jY x w) w:=by
 unfold jY;rw[Pn ⟨h0,h⟩];exact pz h0 h
theorem Ky (y:Int):aI (qK y).w=true∧(1≤(qK y).words∧(qK y).words≤4):=by
 refine⟨aR.2 (by show 1≤1+y / 2%2∧1+y / 2%2≤8;omega),?_⟩
 have:(y / 4%4).toNat=0∨(y / 4%4).toNat=1∨(y / 4%4).toNat=2∨(y / 4%4).toNat=3:=by omega
 show 1≤[2,1,4,2].getD (y / 4%4).toNat 0∧[2,1,4,2].getD (y / 4%4).toNat 0≤(4:Int)
 rcases this with h | h | h | h<;>rw[h]<;>decide
theorem Me {p:Pr} (hp:hT p) (hm:p.Pd=[]) (b:List Int) (i:Nat):hT (jZ p b i):=by
 unfold jZ
 split
 ·have hs:mz p=⟨p.Pe.map (·.w),[],p.I.map (·.w)⟩:=by unfold mz;rw[hm];rfl
  have hn:Kg p=⟨p.Pe.map (·.w),[],[]⟩:=by unfold Kg;rw[hm];rfl
  generalize hy:b.getD i 0=y
  have hk:=Ky y
  refine⟨hp.rl,by simp,hp.tl,hp.pl,fun j hj=>?_,fun j hj=>?_,fun j hj=>?_,fun j hj=>?_⟩
  ·have:=hp.rw j hj
   rw[hs]at this
   exact⟨this.1,this.2.1,pM _ _ _ (Pl _) this.2.2.1,this.2.2.2⟩
  ·have:j=0:=by have:j<1:=hj;omega
   subst this
   refine⟨hk.1,hk.2,⟨rfl,by show eN Ck≤3;decide⟩,⟨⟨1,rfl⟩,by show eN Ck≤3;decide⟩,?_,?_⟩
   ·show dQ _ ⟨1,e0,⟨0,e0⟩,⟨yO y,e0⟩,[]⟩=some (yO y)
    have:yO y=1∨yO y=2:=by unfold yO;omega
    rcases this with h | h<;>rw[h]<;>rfl
   ·show eN ⟨1,e0,⟨0,e0⟩,⟨yO y,e0⟩,[]⟩≤3
    simp[eN,eN.depL]
  ·have:=hp.tw j hj
   rw[hn]at this
   exact⟨this.1,pM _ _ _ (Pl _) this.2.1,this.2.2⟩
  ·have:=hp.pw j hj
   rw[hs]at this
   exact⟨this.1,⟨pM _ _ _ (Pl _) this.2.1.1,this.2.1.2⟩,pM _ _ _ (Pl _) this.2.2.1,this.2.2.2⟩
 ·exact hp
theorem vQ (p:Pr) (b:List Int) (i:Nat):(jZ p b i).I=p.I:=by unfold jZ;split<;>rfl
theorem yP (p:Pr) (b:List Int) (i:Nat):(jZ p b i).Pc=p.Pc:=by unfold jZ;split<;>rfl
theorem Gq (p:Pr) (b:List Int) (i:Nat):(jZ p b i).Pe=p.Pe:=by unfold jZ;split<;>rfl
theorem Gr (p:Pr) (b:List Int) (i:Nat):(jZ p b i).name=p.name:=by unfold jZ;split<;>rfl
theorem yQ (c:Ci) (b:List Int):(aG c b).U.length=c.U.length:=aC _ _
theorem Cm {c:Ci} {b:List Int} {i:Nat} (h:i<c.U.length):(aG c b).U.getD i ac=jZ (c.U.getD i ac) b i:=aN h
theorem Io {c:Ci} (hc:bQ c) (hm:∀i,i<c.U.length→(aZ c i).Pd=[]) (b:List Int):bQ (aG c b):=by
 have hl:=yQ c b
 have Ux:∀i,i<c.U.length→aZ (aG c b) i=jZ (aZ c i) b i:=fun i hi=>Cm hi
 refine⟨by rw[hl];exact hc.n1,by rw[hl];exact hc.nl,hc.cl,fun i hi=>?_,fun i hi=>?_,fun i hi=>?_,fun i hi=>?_,fun i hi=>?_,hc.cw,hc.cp⟩<;>rw[hl]at hi
 ·rw[Ux i hi];exact Me (hc.pr i hi) (hm i hi) b i
 ·rw[Ux i hi];unfold vz ny;rw[vQ];exact hc.tk i hi
 ·rw[Ux i hi];unfold r9 qu;rw[yP];exact hc.pt i hi
 ·rw[Ux i hi];unfold vz ny;rw[vQ];exact hc.td i hi
 ·rw[Ux i hi];unfold r9 qu;rw[yP];exact hc.pd i hi
theorem Ip {c:Ci} (hc:bQ c) {s:Ns} (hs:dn c s) (b:List Int):dn c (gB c s b):=by
 refine⟨aC _ _,hs.cl,fun i hi=>?_,hs.cv,hs.cc⟩
 have e:nz (gB c s b) i=D1 b c s i:=aN hi
 rw[e]
 have h:=hs.pv i hi
 have hk:=(hc.pr i hi).mw
 refine⟨h.rl,h.rv,aC _ _,fun j hj=>?_,fun j hj z hz=>?_⟩
 ·rw[show(D1 b c s i).Pd.getD j []=zB b (aZ c i) (jA b c i) j from aN hj]
  unfold zB
  rw[aC]
  have:=(hk j hj).2.1.1
  show(((eh (aZ c i) j).words.toNat:Nat):Int)=(eh (aZ c i) j).words
  omega
 ·rw[show(D1 b c s i).Pd.getD j []=zB b (aZ c i) (jA b c i) j from aN hj]at hz ⊢
  unfold zB at hz ⊢
  rw[aC]at hz
  rw[aN hz]
  have hw:=aR.1 (hk j hj).1
  unfold vP
  split
  ·exact Cl (by show 0≤(eh (aZ c i) j).w;omega) (by show(eh (aZ c i) j).w≤62;omega)
  ·exact⟨Int.le_refl _,by have:=cH (w:=(eh (aZ c i) j).w) (by omega) (by omega);exact this.1⟩
theorem AB {p:Pr} (hp:hT p) (b:List Int) (q:Nat):∀k,k≤p.Pd.length→rp b p q k≤q+4*k
 | 0,_=>Pl _
 | k+1,h=>by
  have h1:=AB hp b q k (by omega)
  have h2:=(hp.mw k (by omega)).2.1.2
  have:(eh p k).words=(p.Pd.getD k aA).words:=rfl
  rw[rp];omega
theorem Gs {c:Ci} (hc:bQ c) (b:List Int):∀i,i≤c.U.length→jA b c i≤400*i
 | 0,_=>Pl _
 | i+1,h=>by
  have h1:=Gs hc b i (by omega)
  have h2:=AB (hc.pr i (by omega)) b (jA b c i) (aZ c i).Pd.length (Pl _)
  have h3:=(hc.pr i (by omega)).ml
  rw[jA]
  show rp b (aZ c i) (jA b c i) (aZ c i).Pd.length≤_
  omega
def b3 (k:Int):ByteArray:=[bs [114],bs [115],bs [109,101,109],bs [111,108,100],bs [120],bs [109,101,109]].getD (k%6).toNat e0
abbrev Kz:ByteArray:=bs [48,49,50,51,52,53,54,55,56,57]
def cz (n:Nat):ByteArray:=Kz.extract (n / 10) (n / 10+1)++Kz.extract (n%10) (n%10+1)
theorem pN (k:Int):(b3 k).size≤3:=by
 have:(k%6).toNat=0∨(k%6).toNat=1∨(k%6).toNat=2∨(k%6).toNat=3∨(k%6).toNat=4∨(k%6).toNat=5:=by omega
 unfold b3
 rcases this with h | h | h | h | h | h<;>rw[h]<;>decide
theorem mG (n:Nat):(cz n).size≤20:=by
 unfold cz
 rw[QZ,Rc,Rc]
 have:Kz.size=10:=rfl
 omega
def gC (k1 k2:Int):ah:=⟨k1%4,if 2≤k1%4 then b3 (k1 / 4)else e0,if k1%4=3 then k2-128 else 0⟩
def pO (ue:ByteArray) (k2:Int) (at_:Nat) (old:ByteArray):ByteArray:=if k2%8=0 then (ue++b3 (k2 / 8))++cz at_ else old
def Ni:ByteArray:=bs [114,101,103]
def OY:ByteArray:=bs [109,101,109]
def Jx:ByteArray:=bs [99,104,97,110]
def Jy:ByteArray:=bs [112,114,111,99]
def aV (p:Pr) (k0:Int):Nat:=(k0%((p.Pe.length+p.Pd.length:Nat):Int)).toNat
def KA (r:Rg) (k1 k2:Int) (at_:Nat):Rg:={ r with rule:=gC k1 k2,name:=pO Ni k2 at_ r.name }
def KB (m:Mm) (k1 k2:Int) (at_:Nat):Mm:={ m with rule:=gC k1 k2,name:=pO OY k2 at_ m.name }
def cL (p:Pr) (k0 k1 k2:Int):Pr :=
 if p.Pe.length+p.Pd.length=0 then p
 else if aV p k0<p.Pe.length then { p with Pe:=p.Pe.set (aV p k0) (KA (p.Pe.getD (aV p k0) aK) k1 k2 (aV p k0)) }
 else { p with Pd:=p.Pd.set (aV p k0-p.Pe.length) (KB (p.Pd.getD (aV p k0-p.Pe.length) aA) k1 k2 (aV p k0)) }
def bB {α:Type} (l:List α) (k:Int):Nat:=(k%(l.length:Int)).toNat
def rq (c:Ci) (b:List Int) (i:Nat):Ci :=
 if b.getD i 0%8=0 then
  (if 0<c.J.length then ⟨c.U,c.J.set (bB c.J (b.getD (i+1) 0)) { c.J.getD (bB c.J (b.getD (i+1) 0)) aF with name:=Jx++cz i }⟩else c)
 else if b.getD i 0%8=1∨b.getD i 0%8=2 then
  (if 0<c.J.length∧0<(c.J.getD (bB c.J (b.getD (i+1) 0)) aF).cap then ⟨c.U,c.J.set (bB c.J (b.getD (i+1) 0)) { c.J.getD (bB c.J (b.getD (i+1) 0)) aF with cap:=1+b.getD (i+2) 0%8 }⟩else c)
 else if b.getD i 0%8=3 then
  (if 0<c.U.length then ⟨c.U.set (bB c.U (b.getD (i+1) 0)) { c.U.getD (bB c.U (b.getD (i+1) 0)) ac with name:=Jy++cz i },c.J⟩else c)
 else (if 0<c.U.length then ⟨c.U.set (bB c.U (b.getD (i+1) 0)) (cL (c.U.getD (bB c.U (b.getD (i+1) 0)) ac) (b.getD (i+2) 0) (b.getD (i+3) 0) (b.getD i 0+b.getD (i+2) 0)),c.J⟩else c)
def uo (c:Ci) (b:List Int):Nat→Ci
 | 0=>c
 | t+1=>rq (uo c b t) b (4*t)
def uq (b:List Int):Nat:=min 6 (b.length / 4)
def dj (c:Ci) (b:List Int):Ci:=uo c b (uq b)
theorem Iq (c:Ci) (b:List Int) (i:Nat):(rq c b i).J.length=c.J.length∧(rq c b i).U.length=c.U.length:=by
 unfold rq
 repeat' split
 all_goals simp
theorem Cn (c:Ci) (b:List Int):∀t,(uo c b t).J.length=c.J.length∧(uo c b t).U.length=c.U.length
 | 0=>⟨rfl,rfl⟩
 | t+1=>by
  have h:=Cn c b t
  have h2:=Iq (uo c b t) b (4*t)
  rw[uo];omega
theorem yR {c:Ci} {b:List Int} {i:Nat} (h:b.getD i 0%8=0) (hl:0<c.J.length):rq c b i=⟨c.U,c.J.set (bB c.J (b.getD (i+1) 0)) { c.J.getD (bB c.J (b.getD (i+1) 0)) aF with name:=Jx++cz i }⟩:=by
 unfold rq;rw[Pn h,Pn hl]
theorem oQ {c:Ci} {b:List Int} {i:Nat} (h:b.getD i 0%8=0) (hl:¬0<c.J.length):rq c b i=c:=by
 unfold rq;rw[Pn h,Pj hl]
theorem yS {c:Ci} {b:List Int} {i:Nat} (h:b.getD i 0%8=1∨b.getD i 0%8=2) (hl:0<c.J.length) (h2:0<(c.J.getD (bB c.J (b.getD (i+1) 0)) aF).cap):rq c b i=⟨c.U,c.J.set (bB c.J (b.getD (i+1) 0)) { c.J.getD (bB c.J (b.getD (i+1) 0)) aF with cap:=1+b.getD (i+2) 0%8 }⟩:=by
 unfold rq;rw[Pj (by omega),Pn h,Pn ⟨hl,h2⟩]
theorem oS {c:Ci} {b:List Int} {i:Nat} (h:b.getD i 0%8=1∨b.getD i 0%8=2) (hl:¬(0<c.J.length∧0<(c.J.getD (bB c.J (b.getD (i+1) 0)) aF).cap)):rq c b i=c:=by
 unfold rq;rw[Pj (by omega),Pn h,Pj hl]
theorem yT {c:Ci} {b:List Int} {i:Nat} (h:b.getD i 0%8=3) (hl:0<c.U.length):rq c b i=⟨c.U.set (bB c.U (b.getD (i+1) 0)) { c.U.getD (bB c.U (b.getD (i+1) 0)) ac with name:=Jy++cz i },c.J⟩:=by
 unfold rq;rw[Pj (by omega),Pj (by omega),Pn h,Pn hl]
theorem oT {c:Ci} {b:List Int} {i:Nat} (h:b.getD i 0%8=3) (hl:¬0<c.U.length):rq c b i=c:=by
 unfold rq;rw[Pj (by omega),Pj (by omega),Pn h,Pj hl]
theorem yU {c:Ci} {b:List Int} {i:Nat} (h:¬b.getD i 0%8=0) (h1:¬b.getD i 0%8=1) (h2:¬b.getD i 0%8=2) (h3:¬b.getD i 0%8=3) (hl:0<c.U.length):rq c b i=⟨c.U.set (bB c.U (b.getD (i+1) 0)) (cL (c.U.getD (bB c.U (b.getD (i+1) 0)) ac) (b.getD (i+2) 0) (b.getD (i+3) 0) (b.getD i 0+b.getD (i+2) 0)),c.J⟩:=by
 unfold rq;rw[Pj h,Pj (by omega),Pj h3,Pn hl]
theorem oU {c:Ci} {b:List Int} {i:Nat} (h:¬b.getD i 0%8=0) (h1:¬b.getD i 0%8=1) (h2:¬b.getD i 0%8=2) (h3:¬b.getD i 0%8=3) (hl:¬0<c.U.length):rq c b i=c:=by
 unfold rq;rw[Pj h,Pj (by omega),Pj h3,Pj hl]
theorem yV {p:Pr} {k0 k1 k2:Int} (h:p.Pe.length+p.Pd.length=0):cL p k0 k1 k2=p:=by unfold cL;rw[Pn h]
theorem nY {p:Pr} {k0 k1 k2:Int} (h:¬p.Pe.length+p.Pd.length=0) (h2:aV p k0<p.Pe.length):cL p k0 k1 k2={ p with Pe:=p.Pe.set (aV p k0) (KA (p.Pe.getD (aV p k0) aK) k1 k2 (aV p k0)) }:=by
 unfold cL;rw[Pj h,Pn h2]
theorem nZ {p:Pr} {k0 k1 k2:Int} (h:¬p.Pe.length+p.Pd.length=0) (h2:¬aV p k0<p.Pe.length):cL p k0 k1 k2={ p with Pd:=p.Pd.set (aV p k0-p.Pe.length) (KB (p.Pd.getD (aV p k0-p.Pe.length) aA) k1 k2 (aV p k0)) }:=by
 unfold cL;rw[Pj h,Pj h2]
theorem eP {α:Type} {l:List α} (k:Int) (h:0<l.length):bB l k<l.length:=by
 have:=Qw k (show(l.length:Int)≠0 by omega)
 have:=QG k (show(0:Int)<l.length by omega)
 unfold bB;omega
theorem xj {p:Pr} (k:Int) (h:¬p.Pe.length+p.Pd.length=0):aV p k<p.Pe.length+p.Pd.length:=by
 have:=Qw k (show((p.Pe.length+p.Pd.length:Nat):Int)≠0 by omega)
 have:=QG k (show(0:Int)<((p.Pe.length+p.Pd.length:Nat):Int) by omega)
 unfold aV;omega
theorem Ir {p:Pr} {k:Int} (h0:0≤k):Int.tmod k ((p.Pe.length+p.Pd.length:Nat):Int)=((aV p k:Nat):Int):=by
 rw[Qh h0]
 unfold aV
 by_cases h:p.Pe.length+p.Pd.length=0
 ·rw[h];simp;omega
 ·have:=Qw k (show((p.Pe.length+p.Pd.length:Nat):Int)≠0 by omega)
  omega
theorem lS {α:Type} {l:List α} {k:Int} (h0:0≤k):Int.tmod k (l.length:Int)=((bB l k:Nat):Int):=by
 rw[Qh h0]
 unfold bB
 by_cases h:l.length=0
 ·rw[h];simp;omega
 ·have:=Qw k (show(l.length:Int)≠0 by omega)
  omega
theorem xk {α:Type} {l:List α} {i:Nat} {x d:α} (h:i<l.length):(l.set i x).getD i d=x:=by
 rw[bk _ _ (by rw[PO];exact h),List.getElem_set_self]
theorem xl (p:Pr) (k0 k1 k2:Int):(cL p k0 k1 k2).Pe.length=p.Pe.length∧(cL p k0 k1 k2).Pd.length=p.Pd.length:=by
 unfold cL
 repeat' split
 all_goals simp
def Hf (p:Pr):Prop:=p.Pe.length+p.Pd.length≤100
theorem vR {l:List Pr} {i j:Nat} {x:Pr} (hi:i<l.length) (P:Pr→Prop) (hx:P x) (hj:P (l.getD j ac)):P ((l.set i x).getD j ac):=by
 by_cases e:i=j
 ·subst e;rw[xk hi];exact hx
 ·rw[P4,PA e,← P4];exact hj
theorem KC {c:Ci} {b:List Int} {i:Nat} (h:∀j,Hf (c.U.getD j ac)):∀j,Hf ((rq c b i).U.getD j ac):=by
 intro j
 unfold rq
 repeat' split
 all_goals first | exact h j | skip
 ·rename_i hl
  exact vR (eP _ hl) Hf (h _) (h j)
 ·rename_i hl
  exact vR (eP _ hl) Hf (by have:=xl (c.U.getD (bB c.U (b.getD (i+1) 0)) ac) (b.getD (i+2) 0) (b.getD (i+3) 0) (b.getD i 0+b.getD (i+2) 0);have:=h (bB c.U (b.getD (i+1) 0));unfold Hf at *;omega) (h j)
theorem Gt {c:Ci} {b:List Int} (h:∀j,Hf (c.U.getD j ac)):∀t j,Hf ((uo c b t).U.getD j ac)
 | 0=>h
 | t+1=>KC (Gt h t)
end Go.Proofs.Ytnlmlkbaflmgcaa
