/- Parts of a proof. -/
import Derived.Test.YtckgpflobhpnpaaGreatQNeN
namespace Go.Proofs.YtckgpflobhpnpaaGreat
open Go.RowKit
set_option linter.unusedVariables false
set_option linter.unusedSimpArgs false
structure Uf where
 s:Nat→Ps
 l:Nat→List Int
 rd:Nat→Nat
 cnt:Nat→Nat
def KW (c:Ci) (u:Uf) (p j:Nat):Hd:=if u.rd (ng (bg c p) j)<(u.l (ng (bg c p) j)).length then ⟨true,(u.l (ng (bg c p) j)).getD (u.rd (ng (bg c p) j)) 0⟩else aJ
def cB (c:Ci) (u:Uf) (p:Nat):List Hd:=tab (KW c u p) (bg c p).I.length
def c6 (c:Ci) (p:Nat):List Bool:=List.replicate (bg c p).Rv.length true
def fw (c:Ci) (u:Uf) (p:Nat):Fi:=ax (bg c p) (u.s p) (cB c u p) (c6 c p)
def jX (c:Ci) (p:Nat) (f:Fi) (n:Nat):Nat:=if n∈kR (bg c p) f (bg c p).I.length then 1 else 0
def iQ (c:Ci) (p:Nat) (f:Fi) (n:Nat):List Int:=((kS (bg c p) f (bg c p).Rv.length).filter (fun e=>e.1==n)).map (·.2)
def jm (c:Ci) (u:Uf) (p:Nat):Bool:=(fw c u p).fires
def aj (c:Ci) (u:Uf) (p:Nat):Uf:=⟨fun q=>if q=p then (fw c u p).s else u.s q,fun n=>u.l n++iQ c p (fw c u p) n,fun n=>u.rd n+jX c p (fw c u p) n,fun q=>if q=p then u.cnt q+1 else u.cnt q⟩
section
variable {c:Ci} {u v:Uf} {p q n:Nat}
theorem I0 (hc:be c) (hp:p<c.U.length) {f:Fi} (h:jX c p f n≠0):(f9 c n).dst=p:=by
 unfold jX at h
 split at h
 ·rename_i hm;exact(uJ hc hp (RD _) hm).2
 ·exact absurd rfl h
theorem wi (hc:be c) (hp:p<c.U.length) {f:Fi} (h:iQ c p f n≠[]):(f9 c n).frm=p:=by
 unfold iQ at h
 obtain⟨x,hx⟩:=List.exists_mem_of_ne_nil _ h
 obtain⟨e,he,_⟩:=TX.1 hx
 obtain⟨h1,h2⟩:=Ta.1 he
 have:=(zC hc hp (RD _) h1).2
 rw[beq_iff_eq]at h2
 rw[← h2];exact this
theorem wj (hc:be c) (hp:p<c.U.length) (hq:q<c.U.length) (Xz:p≠q) (h:jm c u q=true):fw c (aj c u p) q=fw c u q:=by
 unfold jm fw at h
 rw[ql]at h
 unfold fw
 have hs:(aj c u p).s q=u.s q:=RE (TO Xz)
 rw[hs]
 refine oJ (hc.pr q hq) h (fun j hj hh=>?_) (fun j hj hr=>hr)
 unfold cB at hh ⊢
 rw[aD hj]at hh ⊢
 rw[aD hj]
 have hd:(f9 c (ng (bg c q) j)).dst=q:=(hc.tk q hq j hj).2.2.2
 have Xj:(aj c u p).rd (ng (bg c q) j)=u.rd (ng (bg c q) j):=by
  show u.rd _+jX c p _ _=_
  by_cases h0:jX c p (fw c u p) (ng (bg c q) j)=0
  ·rw[h0];rfl
  ·have:=I0 hc hp h0
   rw[hd]at this;omega
 unfold KW at hh ⊢
 rw[Xj]
 split at hh
 ·rename_i Un
  rw[RH Un]
  have hl:(aj c u p).l (ng (bg c q) j)=u.l (ng (bg c q) j)++iQ c p (fw c u p) (ng (bg c q) j):=rfl
  rw[hl,RH (by rw[RV];omega),rG,RH Un]
 ·cases hh
theorem Bz (hc:be c) (hp:p<c.U.length) (hq:q<c.U.length) (Xz:p≠q) (h:jm c u q=true):jm c (aj c u p) q=true:=by
 unfold jm at h ⊢
 rw[wj hc hp hq Xz h];exact h
theorem Nh (h1:∀q,u.s q=v.s q) (h2:∀n,u.l n=v.l n) (h3:∀n,u.rd n=v.rd n) (h4:∀q,u.cnt q=v.cnt q):u=v:=by
 cases u;cases v
 simp only at h1 h2 h3 h4
 rw[funext h1,funext h2,funext h3,funext h4]
theorem Rq (hc:be c) (hp:p<c.U.length) (hq:q<c.U.length) (Xz:p≠q) (h1:jm c u p=true) (h2:jm c u q=true):aj c (aj c u p) q=aj c (aj c u q) p:=by
 have e1:=wj hc hp hq Xz h2
 have e2:=wj hc hq hp (TO Xz) h1
 have f1:aj c (aj c u p) q=⟨fun x=>if x=q then (fw c u q).s else (aj c u p).s x,fun n=>(aj c u p).l n++iQ c q (fw c u q) n,fun n=>(aj c u p).rd n+jX c q (fw c u q) n,fun x=>if x=q then (aj c u p).cnt x+1 else (aj c u p).cnt x⟩:=by rw[aj,e1]
 have f2:aj c (aj c u q) p=⟨fun x=>if x=p then (fw c u p).s else (aj c u q).s x,fun n=>(aj c u q).l n++iQ c p (fw c u p) n,fun n=>(aj c u q).rd n+jX c p (fw c u p) n,fun x=>if x=p then (aj c u q).cnt x+1 else (aj c u q).cnt x⟩:=by rw[aj,e2]
 rw[f1,f2]
 refine Nh (fun x=>?_) (fun n=>?_) (fun n=>?_) (fun x=>?_)
 ·show(if x=q then _ else if x=p then _ else u.s x)=(if x=p then _ else if x=q then _ else u.s x)
  by_cases a:x=q
  ·rw[RH a,RE (by omega),RH a]
  ·rw[RE a]
   by_cases b:x=p
   ·rw[RH b,RH b]
   ·rw[RE b,RE b,RE a]
 ·show(u.l n++iQ c p (fw c u p) n)++iQ c q (fw c u q) n=(u.l n++iQ c q (fw c u q) n)++iQ c p (fw c u p) n
  by_cases a:iQ c p (fw c u p) n=[]
  ·rw[a];simp
  ·have b:iQ c q (fw c u q) n=[]:=by
    refine Classical.byContradiction fun h=>?_
    have:=wi hc hp a
    have:=wi hc hq h
    omega
   rw[b];simp
 ·show(u.rd n+jX c p (fw c u p) n)+jX c q (fw c u q) n=(u.rd n+jX c q (fw c u q) n)+jX c p (fw c u p) n
  omega
 ·show(if x=q then (if x=p then u.cnt x+1 else u.cnt x)+1 else if x=p then u.cnt x+1 else u.cnt x)=(if x=p then (if x=q then u.cnt x+1 else u.cnt x)+1 else if x=q then u.cnt x+1 else u.cnt x)
  by_cases a:x=q
  ·have b:¬x=p:=by omega
   simp only[RH a,RE b]
  ·simp only[RE a]
def cC (c:Ci):Uf→List Nat→Uf
 | u,[]=>u
 | u,p::r=>cC c (aj c u p) r
def kw (c:Ci):Uf→List Nat→Prop
 | _,[]=>True
 | u,p::r=>p<c.U.length∧jm c u p=true∧kw c (aj c u p) r
theorem kx:∀{l m:List Nat} {u:Uf},cC c u (l++m)=cC c (cC c u l) m
 | [],_,_=>rfl
 | p::r,m,u=>kx (l:=r) (u:=aj c u p)
theorem rH:∀{l m:List Nat} {u:Uf},kw c u l→kw c (cC c u l) m→kw c u (l++m)
 | [],_,_,_,h=>h
 | p::r,m,u,h1,h2=>⟨h1.1,h1.2.1,rH (l:=r) h1.2.2 h2⟩
theorem hU:∀{l:List Nat} {u:Uf} (q:Nat),(cC c u l).cnt q=u.cnt q+l.count q
 | [],_,_=>rfl
 | p::r,u,q=>by
  rw[cC,hU (l:=r) q,SO]
  show(if q=p then u.cnt q+1 else u.cnt q)+_=_
  by_cases h:q=p
  ·rw[RH h,h];simp;omega
  ·rw[RE h]
   have:(p==q)=false:=beq_eq_false_iff_ne.2 (fun e=>h e.symm)
   rw[this];simp
theorem I1 (hc:be c):∀{l:List Nat} {u:Uf},kw c u l→∀{p:Nat},p<c.U.length→jm c u p=true →
  ∃m,kw c (aj c u p) m∧((p∈l∧(∀x,m.count x=l.count x-(if x=p then 1 else 0))∧cC c (aj c u p) m=cC c u l) ∨
   (p∉l∧(∀x,m.count x=l.count x)∧jm c (cC c u l) p=true∧cC c (aj c u p) m=aj c (cC c u l) p))
 | [],u,_,p,hp,Ua=>⟨[],trivial,.inr ⟨by simp,fun _=>rfl,Ua,rfl⟩⟩
 | q::r,u,⟨hq,hcq,hr⟩,p,hp,Ua=>by
  by_cases Xz:p=q
  ·subst Xz
   refine⟨r,hr,.inl ⟨Se,fun x=>?_,rfl⟩⟩
   rw[SO]
   by_cases h:x=p
   ·rw[RH h,h];simp
   ·have:(p==x)=false:=beq_eq_false_iff_ne.2 (fun e=>h e.symm)
    rw[RE h,this];simp
  ·obtain⟨m,h1,h2⟩:=I1 hc (l:=r) hr hp (Bz hc hq hp (TO Xz) Ua)
   have hd:=Rq hc hp hq Xz Ua hcq
   refine⟨q::m,⟨hq,Bz hc hp hq Xz hcq,by rw[hd];exact h1⟩,?_⟩
   have e:cC c (aj c u p) (q::m)=cC c (aj c (aj c u q) p) m:=by rw[cC,hd]
   rcases h2 with ⟨a,b,d⟩ | ⟨a,b,d,f⟩
   ·refine .inl ⟨Sb _ a,fun x=>?_,by rw[e];exact d⟩
    rw[SO,SO,b x]
    by_cases h:x=p
    ·have h0:0<r.count x:=by rw[h];exact List.count_pos_iff.2 a
     rw[RH h];omega
    ·rw[RE h];omega
   ·refine .inr ⟨fun hm=>?_,fun x=>by rw[SO,SO,b x],d,by rw[e];exact f⟩
    rcases Sq.1 hm with h | h
    ·exact Xz h
    ·exact a h
theorem Q9 (hc:be c):∀{l m:List Nat} {u:Uf},kw c u l→kw c u m →
  ∃l' m',kw c (cC c u l) m'∧kw c (cC c u m) l'∧cC c (cC c u l) m'=cC c (cC c u m) l'∧(∀x,m'.count x=m.count x-l.count x)∧∀x,l'.count x=l.count x-m.count x
 | [],m,u,_,hm=>⟨[],m,hm,trivial,rfl,fun x=>by simp,fun x=>by simp⟩
 | p::r,m,u,⟨hp,Ua,hr⟩,hm=>by
  obtain⟨m1,h1,h2⟩:=I1 hc hm hp Ua
  obtain⟨l1,m',a1,a2,a3,a4,a5⟩:=Q9 hc (l:=r) (m:=m1) hr h1
  have Xn:∀x,(p::r).count x=r.count x+(if x=p then 1 else 0):=fun x=>by
   rw[SO]
   by_cases h:x=p
   ·rw[RH h,h];simp
   ·have:(p==x)=false:=beq_eq_false_iff_ne.2 (fun e=>h e.symm)
    rw[RE h,this];simp
  rcases h2 with ⟨b1,b2,b3⟩ | ⟨b1,b2,b3,b4⟩
  ·refine⟨l1,m',a1,by rw[← b3];exact a2,by rw[cC,a3,b3],fun x=>?_,fun x=>?_⟩
   ·rw[a4,b2,Xn];omega
   ·rw[a5,b2,Xn]
    by_cases h:x=p
    ·have h0:0<m.count x:=by rw[h];exact List.count_pos_iff.2 b1
     rw[RH h];omega
    ·rw[RE h];omega
  ·have h0:m.count p=0:=TI.2 b1
   refine⟨p::l1,m',a1,⟨hp,b3,by rw[← b4];exact a2⟩,?_,fun x=>?_,fun x=>?_⟩
   ·show cC c (cC c (aj c u p) r) m'=cC c (aj c (cC c u m) p) l1
    rw[a3,b4]
   ·rw[a4,b2,Xn]
    by_cases h:x=p
    ·rw[RH h,h];omega
    ·rw[RE h];omega
   ·rw[SO,a5,b2,Xn]
    by_cases h:x=p
    ·rw[RH h,h];simp;omega
    ·have:(p==x)=false:=beq_eq_false_iff_ne.2 (fun e=>h e.symm)
     rw[RE h,this];simp
structure OS (c:Ci) (n:Nat) (u:Uf) (l:List Nat):Prop where
 can:kw c u l
 le:∀p,l.count p≤n
 stop:∀p,p<c.U.length→jm c (cC c u l) p=true→n≤l.count p
theorem zM {l:List Nat} (h:∀x,l.count x=0):l=[]:=by
 cases l with
 | nil=>rfl
 | cons a r=>have:=h a;rw[SO]at this;simp at this
theorem I2 (hc:be c) {l m:List Nat} (h:OS c n u l) (hm:kw c u m) (hle:∀p,m.count p≤n):∃l',kw c (cC c u m) l'∧cC c (cC c u m) l'=cC c u l∧∀p,m.count p≤l.count p:=by
 obtain⟨l',m',a1,a2,a3,a4,a5⟩:=Q9 hc h.can hm
 have WC:m'=[]:=by
  cases m' with
  | nil=>rfl
  | cons p r =>
   exfalso
   have h1:=a4 p
   rw[SO]at h1
   have h2:=h.stop p a1.1 a1.2.1
   have h3:=hle p
   simp at h1
   omega
 subst WC
 refine⟨l',a2,a3.symm,fun p=>?_⟩
 have:=a4 p
 simp at this
 omega
theorem OT (hc:be c) {l m:List Nat} (h:OS c n u l) (k:OS c n u m):cC c u l=cC c u m∧∀p,l.count p=m.count p:=by
 obtain⟨l',a1,a2,a3⟩:=I2 hc h k.can k.le
 obtain⟨m',b1,b2,b3⟩:=I2 hc k h.can h.le
 have hcnt:∀p,l.count p=m.count p:=fun p=>Nat.le_antisymm (b3 p) (a3 p)
 have WC:l'=[]:=by
  refine zM fun x=>?_
  have h1:=hU (c:=c) (l:=l') (u:=cC c u m) x
  rw[a2,hU,hU,hcnt x]at h1
  omega
 subst WC
 exact⟨a2.symm,hcnt⟩
end
structure NU (c:Ci) (s:Ns) (u:Uf):Prop where
 ps:∀p,p<c.U.length→De s p=u.s p
 wd:∀n,n<c.J.length→w7 s n=(u.l n).drop (u.rd n)
 le:∀n,n<c.J.length→u.rd n≤(u.l n).length
section
variable {c:Ci} {s:Ns} {u:Uf} {p n:Nat} {w:Nat→Bool}
theorem I3 (hc:be c) (h:NU c s u) (hp:p<c.U.length):cr c s p=cB c u p:=by
 unfold cr cB
 refine gy fun j hj=>?_
 have hn:=LX hc hp hj
 unfold cb KW
 rw[h.wd _ hn,Sd]
 have hle:=h.le _ hn
 by_cases Un:u.rd (ng (bg c p) j)<(u.l (ng (bg c p) j)).length
 ·rw[RH Un,RH (by omega),x8];rfl
 ·rw[RE Un,RE (by omega)]
theorem zN (hc:be c) (h:NU c s u) (hp:p<c.U.length) (Ua:gz c s p=true):fw c u p=ae c s p:=by
 rw[sV]at Ua
 unfold fw ae
 rw[← I3 hc h hp,← h.ps p hp]
 refine oJ (hc.pr p hp) Ua (fun j hj hh=>rfl) (fun j hj _=>?_)
 unfold c6
 rw[dF _ _ (by rw[RC];exact hj),List.getElem_replicate]
theorem Ni (hc:be c) (h:NU c s u) (hp:p<c.U.length) (Ua:gz c s p=true):jm c u p=true:=by
 unfold jm;rw[zN hc h hp Ua];exact Ua
theorem I4 (hc:be c) (hp:p<c.U.length) (Ua:gz c s p=true):dp c s (dq p) n=jX c p (ae c s p) n:=by
 unfold dp jX
 by_cases hm:n∈kR (bg c p) (ae c s p) (bg c p).I.length
 ·have hd:=(uJ hc hp (RD _) hm).2
  have ZM:iu c n=p:=by unfold iu;rw[hd];rfl
  rw[RH hm,ZM,RH]
  refine⟨?_,?_⟩
  ·unfold av;rw[kt,Ua];rfl
  ·unfold e7;exact RX hm
 ·rw[RE hm,RE]
  rintro⟨h1,h2⟩
  have he:iu c n=p:=by
   unfold av dq at h1
   rw[RA]at h1
   exact ST h1.1
  rw[he]at h2
  exact hm (ST h2)
theorem I5 (hc:be c) (hp:p<c.U.length) (Ua:gz c s p=true):cZ c s (dq p) n=iQ c p (ae c s p) n:=by
 unfold cZ
 by_cases he:fu c n=p
 ·rw[he,RH (by unfold av;rw[kt,Ua];rfl)];rfl
 ·rw[RE (by unfold av;rw[uK he];simp)]
  refine(Classical.byContradiction fun hh=>?_:[]=_)
  have:=wi hc hp (n:=n) (f:=ae c s p) (fun e=>hh e.symm)
  apply he
  unfold fu;rw[this];rfl
theorem BA (hc:be c) (h:NU c s u) (hp:p<c.U.length) (Ua:gz c s p=true) (hn:n<c.J.length):jX c p (ae c s p) n≤(w7 s n).length:=by
 unfold jX
 split
 ·rename_i hm
  exact sW Ua (RX hm)
 ·exact Su _
theorem Nj (hc:be c) (h:NU c s u) (hp:p<c.U.length) (Ua:gz c s p=true):NU c (bk c s (dq p)) (aj c u p):=by
 have Uz:=zN hc h hp Ua
 refine⟨fun q hq=>?_,fun m hm=>?_,fun m hm=>?_⟩
 ·rw[nq c s _ hq]
  show bE c s (dq p) q=if q=p then (fw c u p).s else u.s q
  unfold bE av
  by_cases e:q=p
  ·subst e;rw[kt,Ua,RH (by rfl),RH rfl,Uz]
  ·rw[uK e,RE e];exact h.ps q hq
 ·rw[ji c s _ hm]
  unfold cQ
  rw[I4 hc hp Ua,I5 hc hp Ua,h.wd m hm,List.drop_drop]
  show _=(u.l m++iQ c p (fw c u p) m).drop (u.rd m+jX c p (fw c u p) m)
  rw[Uz]
  have h1:=BA hc h hp Ua hm
  rw[h.wd m hm,Sd]at h1
  have h2:=h.le m hm
  rw[List.drop_append_of_le_length (by omega)]
 ·show u.rd m+jX c p (fw c u p) m≤(u.l m++iQ c p (fw c u p) m).length
  rw[Uz,RV]
  have h1:=BA hc h hp Ua hm
  rw[h.wd m hm,Sd]at h1
  have h2:=h.le m hm
  omega
def jY (c:Ci) (s:Ns) (w:Nat→Bool) (P:Nat):List Nat:=(List.range P).filter (av c s w)
theorem tN (q:Nat):∀P,(List.range P).count q=if q<P then 1 else 0
 | 0=>by simp
 | P+1=>by
  rw[TL,List.count_append,tN q P,SO,List.count_nil]
  by_cases e:P=q
  ·subst e;simp
  ·have e2:(P==q)=false:=beq_eq_false_iff_ne.2 e
   rw[e2,RE (show ¬(false=true) by simp)]
   by_cases g:q<P
   ·rw[RH g,RH (by omega)]
   ·rw[RE g,RE (by omega)]
theorem ye (c:Ci) (s:Ns) (w:Nat→Bool) (q P:Nat):(jY c s w P).count q=if q<P∧av c s w q=true then 1 else 0:=by
 unfold jY
 by_cases hf:av c s w q=true
 ·rw[List.count_filter hf,tN]
  by_cases g:q<P
  ·rw[RH g,RH ⟨g,hf⟩]
  ·rw[RE g,RE (fun h=>g h.1)]
 ·rw[RE (fun h=>hf h.2)]
  exact TI.2 (fun hm=>hf (Ta.1 hm).2)
theorem I6 (hc:be c) (hP:n<c.U.length):bk c s (gB w (n+1))=if av c s w n=true then bk c (bk c s (gB w n)) (dq n)else bk c s (gB w n):=by
 split
 ·rename_i hf
  obtain⟨hw,Ua⟩:=gA hf
  have hu:gB w n n=false:=by unfold gB;simp
  rw[KR hc hP Ua hu]
  refine x9 (fun q=>?_)
  unfold av gB dq
  by_cases e:q=n
  ·subst e;simp[hw]
  ·have:decide (q<n+1)=decide (q<n):=by simp only[decide_eq_decide];omega
   rw[this];simp[e]
 ·rename_i hf
  refine x9 (fun q=>?_)
  by_cases e:q=n
  ·subst e
   have h1:av c s (gB w (q+1)) q=false:=by
    unfold av gB
    unfold av at hf
    simp only[RA,not_and,TH]at hf
    cases hw:w q
    ·simp
    ·simp[hf hw]
   rw[h1];unfold av gB;simp
  ·unfold av gB
   have:decide (q<n+1)=decide (q<n):=by simp only[decide_eq_decide];omega
   rw[this]
theorem rI (hc:be c) (hs:it c s) (h:NU c s u) (w:Nat→Bool):∀P,P≤c.U.length→kw c u (jY c s w P)∧NU c (bk c s (gB w P)) (cC c u (jY c s w P))∧∀p,p<P→av c s w p=true→fw c (cC c u (jY c s w p)) p=ae c s p
 | 0,_=>by
  rw[IJ hs (fun p hp=>by unfold av gB;simp)]
  exact⟨trivial,h,fun p hp=>by omega⟩
 | P+1,hP=>by
  obtain⟨a,b,d⟩:=rI hc hs h w P (by omega)
  have e:jY c s w (P+1)=jY c s w P++(if av c s w P=true then [P]else []):=by
   unfold jY
   rw[TL,Tq]
   split
   ·rename_i hf;rw[List.filter_cons_of_pos hf,TV]
   ·rename_i hf;rw[List.filter_cons_of_neg hf,TV]
  rw[e,I6 hc (by omega)]
  by_cases hf:av c s w P=true
  ·rw[RH hf,RH hf]
   obtain⟨hw,Ua⟩:=gA hf
   have hu:gB w P P=false:=by unfold gB;simp
   have Xl:=KS hc (show P<c.U.length by omega) Ua hu
   have Uz:=we hc (show P<c.U.length by omega) Ua hu
   have hk:=Nj hc b (show P<c.U.length by omega) Xl
   refine⟨rH a ⟨by omega,Ni hc b (by omega) Xl,trivial⟩,by rw[kx];exact hk,fun p hp hfp=>?_⟩
   by_cases ep:p=P
   ·subst ep
    rw[zN hc b (by omega) Xl];exact Uz.1
   ·exact d p (by omega) hfp
  ·rw[RE hf,RE hf,RL]
   refine⟨a,b,fun p hp hfp=>?_⟩
   by_cases ep:p=P
   ·subst ep;exact absurd hfp hf
   ·exact d p (by omega) hfp
theorem KX (hc:be c) (hs:it c s) (h:NU c s u) (w:Nat→Bool):kw c u (jY c s w c.U.length)∧NU c (bk c s w) (cC c u (jY c s w c.U.length)):=by
 obtain⟨a,b,_⟩:=rI hc hs h w _ (RD _)
 rw[uL hs]
 exact⟨a,b⟩
def iz (c:Ci):Ns→List (Nat→Bool)→List Nat
 | _,[]=>[]
 | s,w::r=>jY c s w c.U.length++iz c (bk c s w) r
def w8 (c:Ci):Ns→List (Nat→Bool)→Ns
 | s,[]=>s
 | s,w::r=>w8 c (bk c s w) r
theorem I7 (hc:be c):∀{l:List (Nat→Bool)} {s:Ns} {u:Uf},it c s→NU c s u→kw c u (iz c s l)∧NU c (w8 c s l) (cC c u (iz c s l))∧it c (w8 c s l)∧∀q,(iz c s l).count q≤l.length
 | [],s,u,hs,h=>⟨trivial,h,hs,fun q=>by simp[iz]⟩
 | w::r,s,u,hs,h=>by
  obtain⟨a,b⟩:=KX hc hs h w
  obtain⟨a2,b2,d2,e2⟩:=I7 hc (l:=r) (M1 hc hs w) b
  refine⟨rH a a2,by rw[iz,kx];exact b2,d2,fun q=>?_⟩
  rw[iz,List.count_append,ye,RK]
  have:=e2 q
  split<;>omega
theorem Fh:∀{l m:List (Nat→Bool)} {s:Ns},iz c s (l++m)=iz c s l++iz c (w8 c s l) m
 | [],_,_=>rfl
 | w::r,m,s=>by rw[To,iz,iz,Fh (l:=r),SB];rfl
end
theorem BI {p:Pr} (hp:fk p):m6 p (aC p) where
 rl:=by simp[aC]
 rv:=fun i hi=>by
  rw[show(aC p).Ry=p.Ry.map (·.init)from rfl]
  have:=(hp.rw i hi).2.1
  simpa[List.getD,R3,RB hi]using this
 ml:=by simp[aC]
 mn:=fun i hi=>by
  have h2:=(hp.mw i hi).2.1
  rw[show(aC p).Rx=p.Rx.map (fun m=>List.replicate m.words.toNat 0)from rfl]
  have:(p.Rx.map (fun m=>List.replicate m.words.toNat (0:Int))).getD i []=List.replicate (qj p i).words.toNat 0:=by
   simp[List.getD,R3,RB hi]
  rw[this,RC];omega
 mv:=fun i hi j hj=>by
  rw[show(aC p).Rx=p.Rx.map (fun m=>List.replicate m.words.toNat 0)from rfl]at hj ⊢
  have:(p.Rx.map (fun m=>List.replicate m.words.toNat (0:Int))).getD i []=List.replicate (qj p i).words.toNat 0:=by
   simp[List.getD,R3,RB hi]
  rw[this,ca]
  exact qk (hp.mw i hi).1
theorem Je {c:Ci} (hc:be c):it c (d8 c) where
 pl:=by simp[d8,am]
 cl:=by simp[d8]
 pv:=fun i hi=>by
  show m6 _ ((tab _ _).getD i bh)
  rw[aD hi];exact BI (hc.pr i hi)
 cv:=fun n hn i hi=>by
  have h0:w7 (d8 c) n=[]:=by show(List.replicate _ _).getD n []=[];exact ca
  rw[h0]at hi;simp at hi
 cc:=fun n hn h1 h2=>by
  have h0:w7 (d8 c) n=[]:=by show(List.replicate _ _).getD n []=[];exact ca
  rw[h0]
  simpa using hc.cp n hn
theorem Np {b:List Int} {i:Nat} {w:Int} {k:Nat} (h1:1≤w) (h2:w≤62):d7 (ny b i w k) w:=by
 unfold ny d7
 rw[cY (by omega) h2]
 have hp:(0:Int)<2^w.toNat:=Int.pow_pos (by omega)
 exact⟨Tx _ (by omega),by have:=TJ (b.getD (i+(1+k)) 0) hp;omega⟩
def fx (n:Nat) (cnt:Nat→Nat):Nat→Nat
 | 0=>0
 | P+1=>fx n cnt P+(n-cnt P)
theorem rM {n p:Nat} {cnt:Nat→Nat} (h:cnt p<n):∀P,fx n (fun q=>if q=p then cnt q+1 else cnt q) P+(if p<P then 1 else 0)=fx n cnt P
 | 0=>rfl
 | P+1=>by
  have ih:=rM (p:=p) h P
  rw[fx,fx]
  by_cases e:P=p
  ·subst e
   rw[RE (Nat.lt_irrefl _)]at ih
   rw[RH (Nat.lt_succ_self _)]
   simp only[Tj]
   omega
  ·simp only[RE e]
   by_cases g:p<P
   ·rw[RH g]at ih;rw[RH (by omega)];omega
   ·rw[RE g]at ih;rw[RE (by omega)];omega
theorem Dx (n:Nat) (cnt:Nat→Nat):∀P,fx n cnt P≤n*P
 | 0=>RD _
 | P+1=>by have:=Dx n cnt P;rw[fx,Nat.mul_succ];omega
def Fo (c:Ci) (n:Nat) (u:Uf):Option Nat:=(List.range c.U.length).find? (fun p=>jm c u p&&decide (u.cnt p<n))
def J4 (c:Ci) (n:Nat):Nat→Uf→List Nat
 | 0,_=>[]
 | k+1,u=>match Fo c n u with
  | some p=>p::J4 c n k (aj c u p)
  | none=>[]
section
variable {c:Ci} {u v:Uf} {p n:Nat}
theorem GN (h:Fo c n u=some p):p<c.U.length∧jm c u p=true∧u.cnt p<n:=by
 have h1:=List.mem_of_find?_eq_some h
 have h2:=List.find?_some h
 rw[RA,Sy]at h2
 exact⟨SD.1 h1,h2.1,h2.2⟩
theorem GP (h:Fo c n u=none):∀p,p<c.U.length→jm c u p=true→n≤u.cnt p:=by
 intro p hp Ua
 have:=List.find?_eq_none.1 h p (SD.2 hp)
 rw[Ua,Tc,Sy]at this
 omega
theorem L2:∀(k:Nat) (u:Uf),fx n u.cnt c.U.length≤k→kw c u (J4 c n k u)∧(∀q,u.cnt q≤n→(cC c u (J4 c n k u)).cnt q≤n)∧∀p,p<c.U.length→jm c (cC c u (J4 c n k u)) p=true→n≤(cC c u (J4 c n k u)).cnt p
 | 0,u,h=>by
  refine⟨trivial,fun q hq=>hq,fun p hp _=>?_⟩
  refine Nat.not_lt.1 fun Un=>?_
  have ZX:u.cnt p<n:=Un
  have:=rM ZX c.U.length
  rw[RH hp]at this
  omega
 | k+1,u,h=>by
  rw[J4]
  cases hk:Fo c n u with
  | none=>exact⟨trivial,fun q hq=>hq,GP hk⟩
  | some p =>
   obtain⟨h1,h2,h3⟩:=GN hk
   have hr:=rM h3 c.U.length
   rw[RH h1]at hr
   obtain⟨a,b,d⟩:=L2 k (aj c u p) (by show fx n (fun q=>if q=p then u.cnt q+1 else u.cnt q) c.U.length≤k;omega)
   refine⟨⟨h1,h2,a⟩,fun q hq=>b q ?_,d⟩
   show(if q=p then u.cnt q+1 else u.cnt q)≤n
   split
   ·rename_i e;rw[e];omega
   ·exact hq
def u0 (c:Ci) (D':List (List Int)):Uf:=⟨fun p=>if p<c.U.length then aC (bg c p)else bh,fun n=>D'.getD n [],fun _=>0,fun _=>0⟩
def GQ (c:Ci) (D':List (List Int)) (n:Nat):List Nat:=J4 c n (n*c.U.length) (u0 c D')
def ef (c:Ci) (D':List (List Int)) (n:Nat):Uf:=cC c (u0 c D') (GQ c D' n)
theorem Jf (c:Ci) (D':List (List Int)) (n:Nat):OS c n (u0 c D') (GQ c D' n):=by
 obtain⟨a,b,d⟩:=L2 (c:=c) (n:=n) (n*c.U.length) (u0 c D') (Dx _ _ _)
 have hc:∀q,(cC c (u0 c D') (GQ c D' n)).cnt q=(GQ c D' n).count q:=fun q=>by rw[hU];show 0+_=_;omega
 exact⟨a,fun q=>by rw[← hc];exact b q (Su _),fun p hp Ua=>by rw[← hc];exact d p hp Ua⟩
theorem Nq (hc:be c) {D':List (List Int)} {l:List Nat} (h:OS c n (u0 c D') l):cC c (u0 c D') l=ef c D' n:=(OT hc h (Jf c D' n)).1
structure nz (c:Ci) (D':List (List Int)):Prop where
 l:D'.length=c.J.length
 ex:∀n,n<c.J.length→(f9 c n).frm≠-1→D'.getD n []=[]
 fv:∀n,n<c.J.length→∀i,i<(D'.getD n []).length→d7 ((D'.getD n []).getD i 0) (f9 c n).w
 sm:∀n,(D'.getD n []).length≤1000
def G9 (c:Ci) (D':List (List Int)):Ns:=⟨(d8 c).U,D'⟩
theorem L3 (hc:be c) {D':List (List Int)} (h:nz c D'):it c (G9 c D'):=by
 have h0:=Je hc
 refine⟨h0.pl,h.l,h0.pv,h.fv,fun n hn hf hd=>?_⟩
 show((D'.getD n []).length:Int)≤_
 rw[h.ex n hn (by omega)]
 exact hc.cp n hn
theorem OY (c:Ci) {D':List (List Int)}:NU c (G9 c D') (u0 c D'):=by
 refine⟨fun p hp=>?_,fun n hn=>rfl,fun n hn=>Su _⟩
 show(d8 c).U.getD p bh=if p<c.U.length then aC (bg c p)else bh
 rw[RH hp]
 exact aD hp
end
set_option maxRecDepth 100000
abbrev iq (n:Int):Ct:=⟨126,[(i6 n)],false,(dB (aq n))⟩
theorem d6 (n:Int):CC (iq n):=by
 refine ah.vc (V:=TT 1 (CS (n≥1) (TT 2 ((True∧(decide (n≥1))=true)∧TT 5 ((decide (n≤8))=(aq n)∧True))) (TT 2 ((True∧(decide (n≥1))=false)∧TT 5 (false=(aq n)∧True))))) (.s 1 (n≥1) (.w 1 [(2,.val (dB true))]<|.e) (.w 1 [(2,.val (dB false))]<|.e)) Tryz.func126 rfl rfl rfl (by kernel_rfl) ?_
 refine tt ⟨fun T7=>?_,fun T7=>?_⟩
 · refine tt ⟨(vT T7),tt ⟨?_,oK⟩⟩
   unfold aq;simp;omega
 · refine tt ⟨(vF T7),tt ⟨?_,oK⟩⟩
   unfold aq;simp;omega
abbrev zk (w:Int):Ct:=⟨118,[(i6 w)],false,(i6 (af w))⟩
theorem uD (w:Int):CC (zk w):=by
 refine ah.vc (V:=TT 1 (CS (w<0) (TT 2 ((True∧(decide (w<0))=true)∧TT 5 ((0:Int)=(af w)∧True))) (TT 2 ((True∧(decide (w<0))=false)∧TT 3 (CD (w>62) (TT 2 ((0:Int)=(af w)∧True)) (TT 1 (SH w∧W6 ((2^w.toNat)-1)∧TT 2 (((2^w.toNat)-1)=(af w)∧True)))))))) (.s 1 (w<0) (.w 1 [(2,.val (dB true))]<|.e) (.w 1 [(2,.val (dB false))]<|.b 8 (.e) (.w 3 [(1,.val (i6 (2^w.toNat))),(2,.val (i6 ((2^w.toNat)-1)))]<|.e))) Tryz.func118 rfl rfl rfl (by kernel_rfl) ?_
 refine tt ⟨fun T7=>?_,fun T7=>?_⟩
 · refine tt ⟨(vT T7),tt ⟨?_,oK⟩⟩
   unfold af;first | exact(RH (by omega)).symm | exact(RE (by omega)).symm
 · refine tt ⟨(vF T7),tt (cd (fun Z5=>?_) (fun Z5=>?_))⟩
   · refine tt ⟨?_,oK⟩
     unfold af;first | exact(RH (by omega)).symm | exact(RE (by omega)).symm
   · refine tt ⟨sh,⟨(w6 (by have:=pJ (n:=w.toNat) (by omega);omega) (by have:=pJ (n:=w.toNat) (by omega);omega)),tt ⟨?_,oK⟩⟩⟩
     unfold af;first | exact(RH (by omega)).symm | exact(RE (by omega)).symm
abbrev H4 (b:Bool):Ct:=⟨138,[(dB b)],false,(i6 (if b=true then 1 else 0))⟩
theorem H5 (b:Bool):CC (H4 b):=by
 refine ah.vc (V:=TT 2 (CB (b) (TT 2 ((1:Int)=(if b=true then 1 else 0)∧True)) (TT 2 ((0:Int)=(if b=true then 1 else 0)∧True)))) (.b 3 (.e) (.e)) Tryz.func138 rfl rfl rfl (by kernel_rfl) ?_
 refine tt ⟨fun Zs=>?_,fun Zs=>?_⟩
 · refine tt ⟨?_,oK⟩
   first | exact(RH Zs).symm | exact(RE (by rw[Zs];simp)).symm
 · refine tt ⟨?_,oK⟩
   first | exact(RH Zs).symm | exact(RE (by rw[Zs];simp)).symm
abbrev MH (n:Int):Ct:=⟨125,[(i6 n)],false,(dB (!(aq n)))⟩
theorem H6 (n:Int):CC (MH n):=by
 refine ah.vc (V:=TT 2 (CC (iq n)∧TT 3 ((!(aq n))=(!(aq n))∧True))) (.w 1 [(1,(iq n).O)]<|.e) Tryz.func125 rfl rfl rfl (by kernel_rfl) ?_
 exact tt ⟨(d6 n),tt ⟨rfl,oK⟩⟩
abbrev MI (ws:List Int):Ct:=⟨106,[(LI ws),(.fn (.func 125) [] [])],false,(i6 (sL 0 ws))⟩
abbrev rb (ws:List Int):Lp (Nat):=io [0,1,7,8] 0 (fun (k:Nat)=>⟨[(0,(LI ws)),(1,(.fn (.func 125) [] [])),(7,(i6 (ws.length:Int))),(8,(i6 (k:Int)))],[]⟩) (fun (k:Nat)=>k≤ws.length∧sL k (ws.drop k)=sL 0 ws) (fun (k:Nat)=>ws.length-k)
theorem H7 (ws:List Int) (hl:ws.length≤9223372036854775807):CC (MI ws):=by
 refine ah.vc (V:=TT 4 (GO (rb ws) 0 (∀k,(rb ws).inv k→TT 1 (CD ((k:Int)<(ws.length:Int)) (TT 5 (IX (k:Int) ws.length∧TT 1 (CC (MH (ws.getD k 0))∧CB (!(aq (ws.getD k 0))) (TT 3 ((k:Int)=(sL 0 ws)∧True)) (W6 ((k+1:Nat):Int)∧TT 1 (AG (rb ws) k (k+1)))))) (TT 2 ((-1)=(sL 0 ws)∧True)))))) (.l (rb ws) 0 (fun k=>.b 9 (.w 4 [(5,(MH (ws.getD k 0)).O)]<|.b 16 (.e) (.w 6 [(0,.val (i6 ((k+1:Nat):Int)))]<|.e)) (.e))) Tryz.func106 rfl rfl rfl (by kernel_rfl) ?_
 refine tt ⟨rfl,⟨by omega,by rw[S8]⟩,?_⟩
 intro k I'
 obtain⟨hk,hx⟩:=I'
 refine tt (cd (fun Yw=>?_) (fun Yw=>?_))
 · refine tt ⟨ix,tt ⟨(H6 (ws.getD k 0)),⟨fun Ws=>?_,fun Ws=>?_⟩⟩⟩
   · refine tt ⟨?_,oK⟩
     rw[← hx,xQ (show k<ws.length by omega),RE (by simpa using Ws)]
   · refine⟨w6,tt ⟨(k+1),rfl,?_,(?_:ws.length-(k+1)<ws.length-k)⟩⟩
     · refine⟨by omega,?_⟩
       rw[← hx,xQ (show k<ws.length by omega),RH (by simpa using Ws)]
     · omega
 · refine tt ⟨?_,oK⟩
   rw[← hx,List.drop_of_length_le (by omega)];rfl
abbrev KD (ws:List Int):Ct:=⟨82,[(LI ws),(.fn (.func 125) [] [])],false,(dB (!(ws.all aq)))⟩
theorem jA (ws:List Int) (hl:ws.length≤9223372036854775807):CC (KD ws):=by
 refine ah.vc (V:=TT 3 (CC (MI ws)∧TT 3 ((decide ((sL 0 ws)≥0))=(!(ws.all aq))∧True))) (.w 1 [(2,(MI ws).O)]<|.e) Tryz.func82 rfl rfl rfl (by kernel_rfl) ?_
 refine tt ⟨(H7 ws om),tt ⟨?_,oK⟩⟩
 rw[← xP ws 0]
abbrev PR (ws xs:List Int) (k w:Int):Ct:=⟨127,[(.agg [(LI ws),(LI xs),(i6 k),(i6 w)])],false,(i6 (ws.getD 0 0))⟩
theorem H8 (ws xs:List Int) (k w:Int) (hl:ws.length=1) (hf:ws.all aq=true):CC (PR ws xs k w):=by
 have f0:0<ws.length→1≤ws.getD 0 0∧ws.getD 0 0≤8:=fun h=>aA hf h
 have f1:1<ws.length→1≤ws.getD 1 0∧ws.getD 1 0≤8:=fun h=>aA hf h
 have f2:2<ws.length→1≤ws.getD 2 0∧ws.getD 2 0≤8:=fun h=>aA hf h
 refine ah.vc (V:=TT 4 (IX 0 ws.length∧TT 3 ((ws.getD 0 0)=(ws.getD 0 0)∧True))) (.e) Tryz.func127 rfl rfl rfl (by kernel_rfl) ?_
 exact tt ⟨ix,tt ⟨rfl,oK⟩⟩
abbrev MJ (ws xs:List Int) (k w:Int):Ct:=⟨130,[(.agg [(LI ws),(LI xs),(i6 k),(i6 w)])],false,(i6 (bI ws))⟩
theorem kn (ws xs:List Int) (k w:Int) (hl:ws.length=2) (hf:ws.all aq=true):CC (MJ ws xs k w):=by
 have f0:0<ws.length→1≤ws.getD 0 0∧ws.getD 0 0≤8:=fun h=>aA hf h
 have f1:1<ws.length→1≤ws.getD 1 0∧ws.getD 1 0≤8:=fun h=>aA hf h
 have f2:2<ws.length→1≤ws.getD 2 0∧ws.getD 2 0≤8:=fun h=>aA hf h
 refine ah.vc (V:=TT 4 (IX 0 ws.length∧TT 3 (IX 1 ws.length∧TT 2 (CN ((ws.getD 0 0)=(ws.getD 1 0)) (TT 2 ((0:Int)=(bI ws)∧True)) (TT 2 (IX 0 ws.length∧TT 3 ((ws.getD 0 0)=(bI ws)∧True))))))) (.b 11 (.e) (.e)) Tryz.func130 rfl rfl rfl (by kernel_rfl) ?_
 refine tt ⟨ix,tt ⟨ix,tt (cn (fun Wc=>?_) (fun Wc=>?_))⟩⟩
 · refine tt ⟨?_,oK⟩
   first | exact(RH (by simpa using Wc)).symm | exact(RE (by simpa using Wc)).symm
 · refine tt ⟨ix,tt ⟨?_,oK⟩⟩
   first | exact(RH (by simpa using Wc)).symm | exact(RE (by simpa using Wc)).symm
abbrev PS (ws xs:List Int) (k w:Int):Ct:=⟨136,[(.agg [(LI ws),(LI xs),(i6 k),(i6 w)])],false,(i6 (min (bI ws) 1))⟩
theorem H9 (ws xs:List Int) (k w:Int) (hl:ws.length=2) (hf:ws.all aq=true):CC (PS ws xs k w):=by
 have f0:0<ws.length→1≤ws.getD 0 0∧ws.getD 0 0≤8:=fun h=>aA hf h
 have f1:1<ws.length→1≤ws.getD 1 0∧ws.getD 1 0≤8:=fun h=>aA hf h
 have f2:2<ws.length→1≤ws.getD 2 0∧ws.getD 2 0≤8:=fun h=>aA hf h
 refine ah.vc (V:=TT 3 (CC (MJ ws xs k w)∧(True∧(tY (bI ws) 1)=(min (bI ws) 1))∧TT 2 ((min (bI ws) 1)=(min (bI ws) 1)∧True))) (.w 1 [(1,(MJ ws xs k w).O),(2,.val (i6 (min (bI ws) 1)))]<|.e) Tryz.func136 rfl rfl rfl (by kernel_rfl) ?_
 exact tt ⟨(kn ws xs k w om hf),⟨⟨oK,(by unfold tY;split<;>omega)⟩,tt ⟨rfl,oK⟩⟩⟩
abbrev PT (ws xs:List Int) (k w:Int):Ct:=⟨140,[(.agg [(LI ws),(LI xs),(i6 k),(i6 w)])],false,(i6 (if aq w=false∨k<0∨af w<k then 0 else w))⟩
theorem Gn (ws xs:List Int) (k w:Int) (hl:ws.length=0) (hf:ws.all aq=true):CC (PT ws xs k w):=by
 have f0:0<ws.length→1≤ws.getD 0 0∧ws.getD 0 0≤8:=fun h=>aA hf h
 have f1:1<ws.length→1≤ws.getD 1 0∧ws.getD 1 0≤8:=fun h=>aA hf h
 have f2:2<ws.length→1≤ws.getD 2 0∧ws.getD 2 0≤8:=fun h=>aA hf h
 refine ah.vc (V:=TT 2 (CS ((aq w)=true) (CS (k<0) (TT 2 (CC (iq w)∧TT 1 ((True∧(!(aq w))=false)∧TT 4 ((True∧(decide (k<0))=true)∧TT 3 ((((0:Int)=(if aq w=false∨k<0∨af w<k then 0 else w)))∧True))))) (TT 2 (CC (iq w)∧TT 1 ((True∧(!(aq w))=false)∧TT 4 ((True∧(decide (k<0))=false)∧TT 4 (CC (zk w)∧TT 2 (CD (k>(af w)) (TT 2 ((((0:Int)=(if aq w=false∨k<0∨af w<k then 0 else w)))∧True)) (TT 4 (((w=(if aq w=false∨k<0∨af w<k then 0 else w)))∧True))))))))) (TT 2 (CC (iq w)∧TT 1 ((True∧(!(aq w))=true)∧TT 5 ((((0:Int)=(if aq w=false∨k<0∨af w<k then 0 else w)))∧True)))))) (.s 1 ((aq w)=true) (.s 1 (k<0) (.w 1 [(2,(iq w).O),(4,.val (dB false)),(9,.val (dB true))]<|.e) (.w 1 [(2,(iq w).O),(4,.val (dB false)),(9,.val (dB false)),(14,(zk w).O)]<|.b 19 (.e) (.e))) (.w 1 [(2,(iq w).O),(4,.val (dB true))]<|.e)) Tryz.func140 rfl rfl rfl (by kernel_rfl) ?_
 refine tt ⟨fun T7=>?_,fun T7=>?_⟩
 · refine⟨fun Ur=>?_,fun Ur=>?_⟩
   · refine tt ⟨(d6 w),tt ⟨(mF T7),tt ⟨(vT Ur),tt ⟨?_,oK⟩⟩⟩⟩
     first | exact(RH (by first | assumption | omega)).symm | exact(RE (by first | assumption | omega)).symm | (split<;>first | rfl | omega | (simp_all;done) | (simp_all;omega))
   · refine tt ⟨(d6 w),tt ⟨(mF T7),tt ⟨(vF Ur),tt ⟨(uD w),tt (cd (fun Zt=>?_) (fun Zt=>?_))⟩⟩⟩⟩
     · refine tt ⟨?_,oK⟩
       first | exact(RH (by first | assumption | omega)).symm | exact(RE (by first | assumption | omega)).symm | (split<;>first | rfl | omega | (simp_all;done) | (simp_all;omega))
     · refine tt ⟨?_,oK⟩
       first | exact(RH (by first | assumption | omega)).symm | exact(RE (by first | assumption | omega)).symm | (split<;>first | rfl | omega | (simp_all;done) | (simp_all;omega))
 · refine tt ⟨(d6 w),tt ⟨(mT T7),tt ⟨?_,oK⟩⟩⟩
   first | exact(RH (by first | assumption | omega)).symm | exact(RE (by first | assumption | omega)).symm | (split<;>first | rfl | omega | (simp_all;done) | (simp_all;omega))
abbrev PU (ws xs:List Int) (k w:Int):Ct:=⟨142,[(.agg [(LI ws),(LI xs),(i6 k),(i6 w)])],false,(i6 (if ws.getD 0 0≠1∨ws.getD 1 0≠ws.getD 2 0 then 0 else ws.getD 1 0))⟩
theorem KE (ws xs:List Int) (k w:Int) (hl:ws.length=3) (hf:ws.all aq=true):CC (PU ws xs k w):=by
 have f0:0<ws.length→1≤ws.getD 0 0∧ws.getD 0 0≤8:=fun h=>aA hf h
 have f1:1<ws.length→1≤ws.getD 1 0∧ws.getD 1 0≤8:=fun h=>aA hf h
 have f2:2<ws.length→1≤ws.getD 2 0∧ws.getD 2 0≤8:=fun h=>aA hf h
 refine ah.vc (V:=TT 2 (CS ((ws.getD 0 0)=1) (TT 2 (IX 0 ws.length∧TT 2 ((True∧(!decide ((ws.getD 0 0)=1))=false)∧TT 2 (IX 1 ws.length∧TT 3 (IX 2 ws.length∧TT 3 (CN ((ws.getD 1 0)=(ws.getD 2 0)) (TT 2 ((((0:Int)=(if ws.getD 0 0≠1∨ws.getD 1 0≠ws.getD 2 0 then 0 else ws.getD 1 0)))∧True)) (TT 2 (IX 1 ws.length∧TT 3 ((((ws.getD 1 0)=(if ws.getD 0 0≠1∨ws.getD 1 0≠ws.getD 2 0 then 0 else ws.getD 1 0)))∧True))))))))) (TT 2 (IX 0 ws.length∧TT 2 ((True∧(!decide ((ws.getD 0 0)=1))=true)∧TT 3 ((((0:Int)=(if ws.getD 0 0≠1∨ws.getD 1 0≠ws.getD 2 0 then 0 else ws.getD 1 0)))∧True)))))) (.s 1 ((ws.getD 0 0)=1) (.w 1 [(5,.val (dB false))]<|.b 18 (.e) (.e)) (.w 1 [(5,.val (dB true))]<|.e)) Tryz.func142 rfl rfl rfl (by kernel_rfl) ?_
 refine tt ⟨fun T7=>?_,fun T7=>?_⟩
 · refine tt ⟨ix,tt ⟨(nF T7),tt ⟨ix,tt ⟨ix,tt (cn (fun Xo=>?_) (fun Xo=>?_))⟩⟩⟩⟩
   · refine tt ⟨?_,oK⟩
     first | exact(RH (by first | assumption | omega)).symm | exact(RE (by first | assumption | omega)).symm | (split<;>first | rfl | omega | (simp_all;done) | (simp_all;omega))
   · refine tt ⟨ix,tt ⟨?_,oK⟩⟩
     first | exact(RH (by first | assumption | omega)).symm | exact(RE (by first | assumption | omega)).symm | (split<;>first | rfl | omega | (simp_all;done) | (simp_all;omega))
 · refine tt ⟨ix,tt ⟨(nT T7),tt ⟨?_,oK⟩⟩⟩
   first | exact(RH (by first | assumption | omega)).symm | exact(RE (by first | assumption | omega)).symm | (split<;>first | rfl | omega | (simp_all;done) | (simp_all;omega))
abbrev PV (ws xs:List Int) (k w:Int):Ct:=⟨144,[(.agg [(LI ws),(LI xs),(i6 k),(i6 w)])],false,(i6 (ws.getD 0 0+ws.getD 1 0))⟩
theorem KF (ws xs:List Int) (k w:Int) (hl:ws.length=2) (hf:ws.all aq=true):CC (PV ws xs k w):=by
 have f0:0<ws.length→1≤ws.getD 0 0∧ws.getD 0 0≤8:=fun h=>aA hf h
 have f1:1<ws.length→1≤ws.getD 1 0∧ws.getD 1 0≤8:=fun h=>aA hf h
 have f2:2<ws.length→1≤ws.getD 2 0∧ws.getD 2 0≤8:=fun h=>aA hf h
 refine ah.vc (V:=TT 4 (IX 0 ws.length∧TT 3 (IX 1 ws.length∧TT 1 (W6 ((ws.getD 0 0)+(ws.getD 1 0))∧TT 2 (((ws.getD 0 0)+(ws.getD 1 0))=(ws.getD 0 0+ws.getD 1 0)∧True))))) (.w 1 [(8,.val (i6 ((ws.getD 0 0)+(ws.getD 1 0))))]<|.e) Tryz.func144 rfl rfl rfl (by kernel_rfl) ?_
 refine tt ⟨ix,tt ⟨ix,tt ⟨w6,tt ⟨?_,oK⟩⟩⟩⟩
 first | rfl | omega | (simp;first | done | omega)
abbrev PW (ws xs:List Int) (k w:Int):Ct:=⟨146,[(.agg [(LI ws),(LI xs),(i6 k),(i6 w)])],false,(i6 (if aq w=false∨k<0∨ws.getD 0 0-w<k then 0 else w))⟩
theorem Gp (ws xs:List Int) (k w:Int) (hl:ws.length=1) (hf:ws.all aq=true):CC (PW ws xs k w):=by
 have f0:0<ws.length→1≤ws.getD 0 0∧ws.getD 0 0≤8:=fun h=>aA hf h
 have f1:1<ws.length→1≤ws.getD 1 0∧ws.getD 1 0≤8:=fun h=>aA hf h
 have f2:2<ws.length→1≤ws.getD 2 0∧ws.getD 2 0≤8:=fun h=>aA hf h
 refine ah.vc (V:=TT 2 (CS ((aq w)=true) (CS (k<0) (TT 2 (CC (iq w)∧TT 1 ((True∧(!(aq w))=false)∧TT 4 ((True∧(decide (k<0))=true)∧TT 3 ((((0:Int)=(if aq w=false∨k<0∨ws.getD 0 0-w<k then 0 else w)))∧True))))) (TT 2 (CC (iq w)∧TT 1 ((True∧(!(aq w))=false)∧TT 4 ((True∧(decide (k<0))=false)∧TT 4 (IX 0 ws.length∧TT 3 (W6 ((ws.getD 0 0)-w)∧TT 2 (CD (k>((ws.getD 0 0)-w)) (TT 2 ((((0:Int)=(if aq w=false∨k<0∨ws.getD 0 0-w<k then 0 else w)))∧True)) (TT 4 (((w=(if aq w=false∨k<0∨ws.getD 0 0-w<k then 0 else w)))∧True)))))))))) (TT 2 (CC (iq w)∧TT 1 ((True∧(!(aq w))=true)∧TT 5 ((((0:Int)=(if aq w=false∨k<0∨ws.getD 0 0-w<k then 0 else w)))∧True)))))) (.s 1 ((aq w)=true) (.s 1 (k<0) (.w 1 [(2,(iq w).O),(4,.val (dB false)),(9,.val (dB true))]<|.e) (.w 1 [(2,(iq w).O),(4,.val (dB false)),(9,.val (dB false)),(18,.val (i6 ((ws.getD 0 0)-w)))]<|.b 23 (.e) (.e))) (.w 1 [(2,(iq w).O),(4,.val (dB true))]<|.e)) Tryz.func146 rfl rfl rfl (by kernel_rfl) ?_
 refine tt ⟨fun T7=>?_,fun T7=>?_⟩
 · refine⟨fun Ur=>?_,fun Ur=>?_⟩
   · refine tt ⟨(d6 w),tt ⟨(mF T7),tt ⟨(vT Ur),tt ⟨?_,oK⟩⟩⟩⟩
     first | exact(RH (by first | assumption | omega)).symm | exact(RE (by first | assumption | omega)).symm | (split<;>first | rfl | omega | (simp_all;done) | (simp_all;omega))
   · refine tt ⟨(d6 w),tt ⟨(mF T7),tt ⟨(vF Ur),tt ⟨ix,tt ⟨(w6 (by have:=aW.1 (show aq w=true by simp_all);omega) (by have:=aW.1 (show aq w=true by simp_all);omega)),tt (cd (fun WT=>?_) (fun WT=>?_))⟩⟩⟩⟩⟩
     · refine tt ⟨?_,oK⟩
       first | exact(RH (by first | assumption | omega)).symm | exact(RE (by first | assumption | omega)).symm | (split<;>first | rfl | omega | (simp_all;done) | (simp_all;omega))
     · refine tt ⟨?_,oK⟩
       first | exact(RH (by first | assumption | omega)).symm | exact(RE (by first | assumption | omega)).symm | (split<;>first | rfl | omega | (simp_all;done) | (simp_all;omega))
 · refine tt ⟨(d6 w),tt ⟨(mT T7),tt ⟨?_,oK⟩⟩⟩
   first | exact(RH (by first | assumption | omega)).symm | exact(RE (by first | assumption | omega)).symm | (split<;>first | rfl | omega | (simp_all;done) | (simp_all;omega))
abbrev PX (ws xs:List Int) (k w:Int):Ct:=⟨148,[(.agg [(LI ws),(LI xs),(i6 k),(i6 w)])],false,(i6 (if w<ws.getD 0 0 then 0 else w))⟩
theorem KG (ws xs:List Int) (k w:Int) (hl:ws.length=1) (hf:ws.all aq=true):CC (PX ws xs k w):=by
 have f0:0<ws.length→1≤ws.getD 0 0∧ws.getD 0 0≤8:=fun h=>aA hf h
 have f1:1<ws.length→1≤ws.getD 1 0∧ws.getD 1 0≤8:=fun h=>aA hf h
 have f2:2<ws.length→1≤ws.getD 2 0∧ws.getD 2 0≤8:=fun h=>aA hf h
 refine ah.vc (V:=TT 6 (IX 0 ws.length∧TT 2 (CD (w<(ws.getD 0 0)) (TT 2 ((0:Int)=(if w<ws.getD 0 0 then 0 else w)∧True)) (TT 4 (w=(if w<ws.getD 0 0 then 0 else w)∧True))))) (.b 9 (.e) (.e)) Tryz.func148 rfl rfl rfl (by kernel_rfl) ?_
 refine tt ⟨ix,tt (cd (fun Yw=>?_) (fun Yw=>?_))⟩
 · refine tt ⟨?_,oK⟩
   first | exact(RH (by first | assumption | omega)).symm | exact(RE (by first | assumption | omega)).symm | (split<;>first | rfl | omega | (simp_all;done) | (simp_all;omega))
 · refine tt ⟨?_,oK⟩
   first | exact(RH (by first | assumption | omega)).symm | exact(RE (by first | assumption | omega)).symm | (split<;>first | rfl | omega | (simp_all;done) | (simp_all;omega))
abbrev jB (ws xs:List Int) (k w:Int):List D:=[(.agg [(LI ws),(LI xs),(i6 k),(i6 w)])]
set_option maxRecDepth 100000
structure Gq (ws xs:List Int) (n:Nat):Prop where
  hl:ws.length=n
  hf:ws.all aq=true
  hx:xs.length=ws.length
  hin:Bg ws xs=true
abbrev C8 (ws xs:List Int) (k w:Int):Ct:=⟨129,(jB ws xs k w),false,(i6 (af (ws.getD 0 0)))⟩
theorem vY (ws xs:List Int) (k w:Int) (hl:0<ws.length):CC (C8 ws xs k w):=by
 refine ah.vc (V:=TT 4 (IX 0 ws.length∧TT 1 (CC (zk (ws.getD 0 0))∧TT 2 ((af (ws.getD 0 0))=(af (ws.getD 0 0))∧True)))) (.w 1 [(4,(zk (ws.getD 0 0)).O)]<|.e) Tryz.func129 rfl rfl rfl (by kernel_rfl) ?_
 exact tt ⟨ix,tt ⟨(uD (ws.getD 0 0)),tt ⟨rfl,oK⟩⟩⟩
abbrev PY (ws xs:List Int) (k w:Int):Ct:=⟨128,(jB ws xs k w),false,(i6 (je 2 ws xs k w))⟩
theorem MK (ws xs:List Int) (k w:Int) (ho:Gq ws xs 1):CC (PY ws xs k w):=by
 obtain⟨hl,hf,hx,hin⟩:=ho
 have f0:0<ws.length→1≤ws.getD 0 0∧ws.getD 0 0≤8:=fun h=>aA hf h
 have f1:1<ws.length→1≤ws.getD 1 0∧ws.getD 1 0≤8:=fun h=>aA hf h
 have f2:2<ws.length→1≤ws.getD 2 0∧ws.getD 2 0≤8:=fun h=>aA hf h
 have a0:0<ws.length→0≤xs.getD 0 0∧xs.getD 0 0≤af (ws.getD 0 0):=fun h=>a7 hin (by omega)
 have a1:1<ws.length→0≤xs.getD 1 0∧xs.getD 1 0≤af (ws.getD 1 0):=fun h=>a7 hin (by omega)
 have a2:2<ws.length→0≤xs.getD 2 0∧xs.getD 2 0≤af (ws.getD 2 0):=fun h=>a7 hin (by omega)
 have m0:0<ws.length→0≤af (ws.getD 0 0)∧af (ws.getD 0 0)≤255:=fun h=>az (by have:=f0 h;omega) (f0 h).2
 have m1:1<ws.length→0≤af (ws.getD 1 0)∧af (ws.getD 1 0)≤255:=fun h=>az (by have:=f1 h;omega) (f1 h).2
 have m2:2<ws.length→0≤af (ws.getD 2 0)∧af (ws.getD 2 0)≤255:=fun h=>az (by have:=f2 h;omega) (f2 h).2
 have b0:=f0 (by omega);have c0:=a0 (by omega);have d0:=m0 (by omega)
 refine ah.vc (V:=TT 4 (IX 0 xs.length∧TT 2 (CC (C8 ws xs k w)∧(True∧(IntKind.wrap .i64 (BitVec.ofInt (IntKind.i64).bits (xs.getD 0 0) ^^^ BitVec.ofInt (IntKind.i64).bits (af (ws.getD 0 0))).toNat)=(((xs.getD 0 0).toNat ^^^ (af (ws.getD 0 0)).toNat:Nat):Int))∧TT 2 ((((xs.getD 0 0).toNat ^^^ (af (ws.getD 0 0)).toNat:Nat):Int)=(je 2 ws xs k w)∧True)))) (.w 1 [(5,(C8 ws xs k w).O),(6,.val (i6 (((xs.getD 0 0).toNat ^^^ (af (ws.getD 0 0)).toNat:Nat):Int)))]<|.e) Tryz.func128 rfl rfl rfl (by kernel_rfl) ?_
 refine tt ⟨ix,tt ⟨(vY ws xs k w om),⟨⟨oK,(sM (by omega) (by omega) (by omega) (by omega))⟩,tt ⟨?_,oK⟩⟩⟩⟩
 rfl
abbrev PZ (ws xs:List Int) (k w:Int):Ct:=⟨131,(jB ws xs k w),false,(i6 (je 3 ws xs k w))⟩
theorem ML (ws xs:List Int) (k w:Int) (ho:Gq ws xs 2):CC (PZ ws xs k w):=by
 obtain⟨hl,hf,hx,hin⟩:=ho
 have f0:0<ws.length→1≤ws.getD 0 0∧ws.getD 0 0≤8:=fun h=>aA hf h
 have f1:1<ws.length→1≤ws.getD 1 0∧ws.getD 1 0≤8:=fun h=>aA hf h
 have f2:2<ws.length→1≤ws.getD 2 0∧ws.getD 2 0≤8:=fun h=>aA hf h
 have a0:0<ws.length→0≤xs.getD 0 0∧xs.getD 0 0≤af (ws.getD 0 0):=fun h=>a7 hin (by omega)
 have a1:1<ws.length→0≤xs.getD 1 0∧xs.getD 1 0≤af (ws.getD 1 0):=fun h=>a7 hin (by omega)
 have a2:2<ws.length→0≤xs.getD 2 0∧xs.getD 2 0≤af (ws.getD 2 0):=fun h=>a7 hin (by omega)
 have m0:0<ws.length→0≤af (ws.getD 0 0)∧af (ws.getD 0 0)≤255:=fun h=>az (by have:=f0 h;omega) (f0 h).2
 have m1:1<ws.length→0≤af (ws.getD 1 0)∧af (ws.getD 1 0)≤255:=fun h=>az (by have:=f1 h;omega) (f1 h).2
 have m2:2<ws.length→0≤af (ws.getD 2 0)∧af (ws.getD 2 0)≤255:=fun h=>az (by have:=f2 h;omega) (f2 h).2
 have b0:=f0 (by omega);have c0:=a0 (by omega);have d0:=m0 (by omega)
 have b1:=f1 (by omega);have c1:=a1 (by omega);have d1:=m1 (by omega)
 refine ah.vc (V:=TT 4 (IX 0 xs.length∧TT 3 (IX 1 xs.length∧TT 1 ((True∧(IntKind.wrap .i64 (BitVec.ofInt (IntKind.i64).bits (xs.getD 0 0) &&& BitVec.ofInt (IntKind.i64).bits (xs.getD 1 0)).toNat)=(((xs.getD 0 0).toNat &&& (xs.getD 1 0).toNat:Nat):Int))∧TT 2 ((((xs.getD 0 0).toNat &&& (xs.getD 1 0).toNat:Nat):Int)=(je 3 ws xs k w)∧True))))) (.w 1 [(8,.val (i6 (((xs.getD 0 0).toNat &&& (xs.getD 1 0).toNat:Nat):Int)))]<|.e) Tryz.func131 rfl rfl rfl (by kernel_rfl) ?_
 refine tt ⟨ix,tt ⟨ix,tt ⟨⟨oK,(xR (by omega) (by omega) (by omega) (by omega))⟩,tt ⟨?_,oK⟩⟩⟩⟩
 rfl
abbrev P0 (ws xs:List Int) (k w:Int):Ct:=⟨132,(jB ws xs k w),false,(i6 (je 4 ws xs k w))⟩
theorem OG (ws xs:List Int) (k w:Int) (ho:Gq ws xs 2):CC (P0 ws xs k w):=by
 obtain⟨hl,hf,hx,hin⟩:=ho
 have f0:0<ws.length→1≤ws.getD 0 0∧ws.getD 0 0≤8:=fun h=>aA hf h
 have f1:1<ws.length→1≤ws.getD 1 0∧ws.getD 1 0≤8:=fun h=>aA hf h
 have f2:2<ws.length→1≤ws.getD 2 0∧ws.getD 2 0≤8:=fun h=>aA hf h
 have a0:0<ws.length→0≤xs.getD 0 0∧xs.getD 0 0≤af (ws.getD 0 0):=fun h=>a7 hin (by omega)
 have a1:1<ws.length→0≤xs.getD 1 0∧xs.getD 1 0≤af (ws.getD 1 0):=fun h=>a7 hin (by omega)
 have a2:2<ws.length→0≤xs.getD 2 0∧xs.getD 2 0≤af (ws.getD 2 0):=fun h=>a7 hin (by omega)
 have m0:0<ws.length→0≤af (ws.getD 0 0)∧af (ws.getD 0 0)≤255:=fun h=>az (by have:=f0 h;omega) (f0 h).2
 have m1:1<ws.length→0≤af (ws.getD 1 0)∧af (ws.getD 1 0)≤255:=fun h=>az (by have:=f1 h;omega) (f1 h).2
 have m2:2<ws.length→0≤af (ws.getD 2 0)∧af (ws.getD 2 0)≤255:=fun h=>az (by have:=f2 h;omega) (f2 h).2
 have b0:=f0 (by omega);have c0:=a0 (by omega);have d0:=m0 (by omega)
 have b1:=f1 (by omega);have c1:=a1 (by omega);have d1:=m1 (by omega)
 refine ah.vc (V:=TT 4 (IX 0 xs.length∧TT 3 (IX 1 xs.length∧TT 1 ((True∧(IntKind.wrap .i64 (BitVec.ofInt (IntKind.i64).bits (xs.getD 0 0) ||| BitVec.ofInt (IntKind.i64).bits (xs.getD 1 0)).toNat)=(((xs.getD 0 0).toNat ||| (xs.getD 1 0).toNat:Nat):Int))∧TT 2 ((((xs.getD 0 0).toNat ||| (xs.getD 1 0).toNat:Nat):Int)=(je 4 ws xs k w)∧True))))) (.w 1 [(8,.val (i6 (((xs.getD 0 0).toNat ||| (xs.getD 1 0).toNat:Nat):Int)))]<|.e) Tryz.func132 rfl rfl rfl (by kernel_rfl) ?_
 refine tt ⟨ix,tt ⟨ix,tt ⟨⟨oK,(Bh (by omega) (by omega) (by omega) (by omega))⟩,tt ⟨?_,oK⟩⟩⟩⟩
 rfl
abbrev P1 (ws xs:List Int) (k w:Int):Ct:=⟨133,(jB ws xs k w),false,(i6 (je 5 ws xs k w))⟩
theorem MM (ws xs:List Int) (k w:Int) (ho:Gq ws xs 2):CC (P1 ws xs k w):=by
 obtain⟨hl,hf,hx,hin⟩:=ho
 have f0:0<ws.length→1≤ws.getD 0 0∧ws.getD 0 0≤8:=fun h=>aA hf h
 have f1:1<ws.length→1≤ws.getD 1 0∧ws.getD 1 0≤8:=fun h=>aA hf h
 have f2:2<ws.length→1≤ws.getD 2 0∧ws.getD 2 0≤8:=fun h=>aA hf h
 have a0:0<ws.length→0≤xs.getD 0 0∧xs.getD 0 0≤af (ws.getD 0 0):=fun h=>a7 hin (by omega)
 have a1:1<ws.length→0≤xs.getD 1 0∧xs.getD 1 0≤af (ws.getD 1 0):=fun h=>a7 hin (by omega)
 have a2:2<ws.length→0≤xs.getD 2 0∧xs.getD 2 0≤af (ws.getD 2 0):=fun h=>a7 hin (by omega)
 have m0:0<ws.length→0≤af (ws.getD 0 0)∧af (ws.getD 0 0)≤255:=fun h=>az (by have:=f0 h;omega) (f0 h).2
 have m1:1<ws.length→0≤af (ws.getD 1 0)∧af (ws.getD 1 0)≤255:=fun h=>az (by have:=f1 h;omega) (f1 h).2
 have m2:2<ws.length→0≤af (ws.getD 2 0)∧af (ws.getD 2 0)≤255:=fun h=>az (by have:=f2 h;omega) (f2 h).2
 have b0:=f0 (by omega);have c0:=a0 (by omega);have d0:=m0 (by omega)
 have b1:=f1 (by omega);have c1:=a1 (by omega);have d1:=m1 (by omega)
 refine ah.vc (V:=TT 4 (IX 0 xs.length∧TT 3 (IX 1 xs.length∧TT 1 ((True∧(IntKind.wrap .i64 (BitVec.ofInt (IntKind.i64).bits (xs.getD 0 0) ^^^ BitVec.ofInt (IntKind.i64).bits (xs.getD 1 0)).toNat)=(((xs.getD 0 0).toNat ^^^ (xs.getD 1 0).toNat:Nat):Int))∧TT 2 ((((xs.getD 0 0).toNat ^^^ (xs.getD 1 0).toNat:Nat):Int)=(je 5 ws xs k w)∧True))))) (.w 1 [(8,.val (i6 (((xs.getD 0 0).toNat ^^^ (xs.getD 1 0).toNat:Nat):Int)))]<|.e) Tryz.func133 rfl rfl rfl (by kernel_rfl) ?_
 refine tt ⟨ix,tt ⟨ix,tt ⟨⟨oK,(sM (by omega) (by omega) (by omega) (by omega))⟩,tt ⟨?_,oK⟩⟩⟩⟩
 rfl
abbrev P2 (ws xs:List Int) (k w:Int):Ct:=⟨134,(jB ws xs k w),false,(i6 (je 6 ws xs k w))⟩
theorem MN (ws xs:List Int) (k w:Int) (ho:Gq ws xs 2):CC (P2 ws xs k w):=by
 obtain⟨hl,hf,hx,hin⟩:=ho
 have f0:0<ws.length→1≤ws.getD 0 0∧ws.getD 0 0≤8:=fun h=>aA hf h
 have f1:1<ws.length→1≤ws.getD 1 0∧ws.getD 1 0≤8:=fun h=>aA hf h
 have f2:2<ws.length→1≤ws.getD 2 0∧ws.getD 2 0≤8:=fun h=>aA hf h
 have a0:0<ws.length→0≤xs.getD 0 0∧xs.getD 0 0≤af (ws.getD 0 0):=fun h=>a7 hin (by omega)
 have a1:1<ws.length→0≤xs.getD 1 0∧xs.getD 1 0≤af (ws.getD 1 0):=fun h=>a7 hin (by omega)
 have a2:2<ws.length→0≤xs.getD 2 0∧xs.getD 2 0≤af (ws.getD 2 0):=fun h=>a7 hin (by omega)
 have m0:0<ws.length→0≤af (ws.getD 0 0)∧af (ws.getD 0 0)≤255:=fun h=>az (by have:=f0 h;omega) (f0 h).2
 have m1:1<ws.length→0≤af (ws.getD 1 0)∧af (ws.getD 1 0)≤255:=fun h=>az (by have:=f1 h;omega) (f1 h).2
 have m2:2<ws.length→0≤af (ws.getD 2 0)∧af (ws.getD 2 0)≤255:=fun h=>az (by have:=f2 h;omega) (f2 h).2
 have b0:=f0 (by omega);have c0:=a0 (by omega);have d0:=m0 (by omega)
 have b1:=f1 (by omega);have c1:=a1 (by omega);have d1:=m1 (by omega)
 refine ah.vc (V:=TT 4 (IX 0 xs.length∧TT 3 (IX 1 xs.length∧TT 1 (W6 ((xs.getD 0 0)+(xs.getD 1 0))∧TT 1 (CC (C8 ws xs k w)∧(True∧(IntKind.wrap .i64 (BitVec.ofInt (IntKind.i64).bits ((xs.getD 0 0)+(xs.getD 1 0)) &&& BitVec.ofInt (IntKind.i64).bits (af (ws.getD 0 0))).toNat)=((xs.getD 0 0+xs.getD 1 0)%2^(ws.getD 0 0).toNat))∧TT 2 (((xs.getD 0 0+xs.getD 1 0)%2^(ws.getD 0 0).toNat)=(je 6 ws xs k w)∧True)))))) (.w 1 [(8,.val (i6 ((xs.getD 0 0)+(xs.getD 1 0)))),(10,(C8 ws xs k w).O),(11,.val (i6 ((xs.getD 0 0+xs.getD 1 0)%2^(ws.getD 0 0).toNat)))]<|.e) Tryz.func134 rfl rfl rfl (by kernel_rfl) ?_
 refine tt ⟨ix,tt ⟨ix,tt ⟨w6,tt ⟨(vY ws xs k w om),⟨⟨oK,(by rw[cY (by omega) (by omega)];exact km (by omega))⟩,tt ⟨?_,oK⟩⟩⟩⟩⟩⟩
 rfl
abbrev P3 (ws xs:List Int) (k w:Int):Ct:=⟨135,(jB ws xs k w),false,(i6 (je 7 ws xs k w))⟩
theorem MO (ws xs:List Int) (k w:Int) (ho:Gq ws xs 2):CC (P3 ws xs k w):=by
 obtain⟨hl,hf,hx,hin⟩:=ho
 have f0:0<ws.length→1≤ws.getD 0 0∧ws.getD 0 0≤8:=fun h=>aA hf h
 have f1:1<ws.length→1≤ws.getD 1 0∧ws.getD 1 0≤8:=fun h=>aA hf h
 have f2:2<ws.length→1≤ws.getD 2 0∧ws.getD 2 0≤8:=fun h=>aA hf h
 have a0:0<ws.length→0≤xs.getD 0 0∧xs.getD 0 0≤af (ws.getD 0 0):=fun h=>a7 hin (by omega)
 have a1:1<ws.length→0≤xs.getD 1 0∧xs.getD 1 0≤af (ws.getD 1 0):=fun h=>a7 hin (by omega)
 have a2:2<ws.length→0≤xs.getD 2 0∧xs.getD 2 0≤af (ws.getD 2 0):=fun h=>a7 hin (by omega)
 have m0:0<ws.length→0≤af (ws.getD 0 0)∧af (ws.getD 0 0)≤255:=fun h=>az (by have:=f0 h;omega) (f0 h).2
 have m1:1<ws.length→0≤af (ws.getD 1 0)∧af (ws.getD 1 0)≤255:=fun h=>az (by have:=f1 h;omega) (f1 h).2
 have m2:2<ws.length→0≤af (ws.getD 2 0)∧af (ws.getD 2 0)≤255:=fun h=>az (by have:=f2 h;omega) (f2 h).2
 have b0:=f0 (by omega);have c0:=a0 (by omega);have d0:=m0 (by omega)
 have b1:=f1 (by omega);have c1:=a1 (by omega);have d1:=m1 (by omega)
 refine ah.vc (V:=TT 4 (IX 0 xs.length∧TT 3 (IX 1 xs.length∧TT 1 (W6 ((xs.getD 0 0)-(xs.getD 1 0))∧TT 1 (CC (C8 ws xs k w)∧(True∧(IntKind.wrap .i64 (BitVec.ofInt (IntKind.i64).bits ((xs.getD 0 0)-(xs.getD 1 0)) &&& BitVec.ofInt (IntKind.i64).bits (af (ws.getD 0 0))).toNat)=((xs.getD 0 0-xs.getD 1 0)%2^(ws.getD 0 0).toNat))∧TT 2 (((xs.getD 0 0-xs.getD 1 0)%2^(ws.getD 0 0).toNat)=(je 7 ws xs k w)∧True)))))) (.w 1 [(8,.val (i6 ((xs.getD 0 0)-(xs.getD 1 0)))),(10,(C8 ws xs k w).O),(11,.val (i6 ((xs.getD 0 0-xs.getD 1 0)%2^(ws.getD 0 0).toNat)))]<|.e) Tryz.func135 rfl rfl rfl (by kernel_rfl) ?_
 refine tt ⟨ix,tt ⟨ix,tt ⟨w6,tt ⟨(vY ws xs k w om),⟨⟨oK,(by rw[cY (by omega) (by omega)];exact km (by omega))⟩,tt ⟨?_,oK⟩⟩⟩⟩⟩⟩
 rfl
abbrev P4 (ws xs:List Int) (k w:Int):Ct:=⟨137,(jB ws xs k w),false,(i6 (je 8 ws xs k w))⟩
theorem OH (ws xs:List Int) (k w:Int) (ho:Gq ws xs 2):CC (P4 ws xs k w):=by
 obtain⟨hl,hf,hx,hin⟩:=ho
 have f0:0<ws.length→1≤ws.getD 0 0∧ws.getD 0 0≤8:=fun h=>aA hf h
 have f1:1<ws.length→1≤ws.getD 1 0∧ws.getD 1 0≤8:=fun h=>aA hf h
 have f2:2<ws.length→1≤ws.getD 2 0∧ws.getD 2 0≤8:=fun h=>aA hf h
 have a0:0<ws.length→0≤xs.getD 0 0∧xs.getD 0 0≤af (ws.getD 0 0):=fun h=>a7 hin (by omega)
 have a1:1<ws.length→0≤xs.getD 1 0∧xs.getD 1 0≤af (ws.getD 1 0):=fun h=>a7 hin (by omega)
 have a2:2<ws.length→0≤xs.getD 2 0∧xs.getD 2 0≤af (ws.getD 2 0):=fun h=>a7 hin (by omega)
 have m0:0<ws.length→0≤af (ws.getD 0 0)∧af (ws.getD 0 0)≤255:=fun h=>az (by have:=f0 h;omega) (f0 h).2
 have m1:1<ws.length→0≤af (ws.getD 1 0)∧af (ws.getD 1 0)≤255:=fun h=>az (by have:=f1 h;omega) (f1 h).2
 have m2:2<ws.length→0≤af (ws.getD 2 0)∧af (ws.getD 2 0)≤255:=fun h=>az (by have:=f2 h;omega) (f2 h).2
 have b0:=f0 (by omega);have c0:=a0 (by omega);have d0:=m0 (by omega)
 have b1:=f1 (by omega);have c1:=a1 (by omega);have d1:=m1 (by omega)
 refine ah.vc (V:=TT 4 (IX 0 xs.length∧TT 3 (IX 1 xs.length∧TT 2 (CC (H4 ((xs.getD 0 0)==(xs.getD 1 0)))∧TT 2 ((if ((xs.getD 0 0)==(xs.getD 1 0))=true then 1 else 0)=(je 8 ws xs k w)∧True))))) (.w 1 [(9,(H4 ((xs.getD 0 0)==(xs.getD 1 0))).O)]<|.e) Tryz.func137 rfl rfl rfl (by kernel_rfl) ?_
 refine tt ⟨ix,tt ⟨ix,tt ⟨(H5 ((xs.getD 0 0)==(xs.getD 1 0))),tt ⟨?_,oK⟩⟩⟩⟩
 show _=(if xs.getD 0 0=xs.getD 1 0 then (1:Int)else 0)
 by_cases h:xs.getD 0 0=xs.getD 1 0
 · rw[RH h,RH (by simpa using h)]
 · rw[RE h,RE (by simpa using h)]
abbrev P5 (ws xs:List Int) (k w:Int):Ct:=⟨139,(jB ws xs k w),false,(i6 (je 9 ws xs k w))⟩
theorem OI (ws xs:List Int) (k w:Int) (ho:Gq ws xs 2):CC (P5 ws xs k w):=by
 obtain⟨hl,hf,hx,hin⟩:=ho
 have f0:0<ws.length→1≤ws.getD 0 0∧ws.getD 0 0≤8:=fun h=>aA hf h
 have f1:1<ws.length→1≤ws.getD 1 0∧ws.getD 1 0≤8:=fun h=>aA hf h
 have f2:2<ws.length→1≤ws.getD 2 0∧ws.getD 2 0≤8:=fun h=>aA hf h
 have a0:0<ws.length→0≤xs.getD 0 0∧xs.getD 0 0≤af (ws.getD 0 0):=fun h=>a7 hin (by omega)
 have a1:1<ws.length→0≤xs.getD 1 0∧xs.getD 1 0≤af (ws.getD 1 0):=fun h=>a7 hin (by omega)
 have a2:2<ws.length→0≤xs.getD 2 0∧xs.getD 2 0≤af (ws.getD 2 0):=fun h=>a7 hin (by omega)
 have m0:0<ws.length→0≤af (ws.getD 0 0)∧af (ws.getD 0 0)≤255:=fun h=>az (by have:=f0 h;omega) (f0 h).2
 have m1:1<ws.length→0≤af (ws.getD 1 0)∧af (ws.getD 1 0)≤255:=fun h=>az (by have:=f1 h;omega) (f1 h).2
 have m2:2<ws.length→0≤af (ws.getD 2 0)∧af (ws.getD 2 0)≤255:=fun h=>az (by have:=f2 h;omega) (f2 h).2
 have b0:=f0 (by omega);have c0:=a0 (by omega);have d0:=m0 (by omega)
 have b1:=f1 (by omega);have c1:=a1 (by omega);have d1:=m1 (by omega)
 refine ah.vc (V:=TT 4 (IX 0 xs.length∧TT 3 (IX 1 xs.length∧TT 2 (CC (H4 (decide ((xs.getD 0 0)<(xs.getD 1 0))))∧TT 2 ((if (decide ((xs.getD 0 0)<(xs.getD 1 0)))=true then 1 else 0)=(je 9 ws xs k w)∧True))))) (.w 1 [(9,(H4 (decide ((xs.getD 0 0)<(xs.getD 1 0)))).O)]<|.e) Tryz.func139 rfl rfl rfl (by kernel_rfl) ?_
 refine tt ⟨ix,tt ⟨ix,tt ⟨(H5 (decide ((xs.getD 0 0)<(xs.getD 1 0)))),tt ⟨?_,oK⟩⟩⟩⟩
 show _=(if xs.getD 0 0<xs.getD 1 0 then (1:Int)else 0)
 by_cases h:xs.getD 0 0<xs.getD 1 0
 · rw[RH h,RH (by simpa using h)]
 · rw[RE h,RE (by simpa using h)]
abbrev P6 (ws xs:List Int) (k w:Int):Ct:=⟨141,(jB ws xs k w),false,(i6 (je 1 ws xs k w))⟩
theorem Ia (ws xs:List Int) (k w:Int) (ho:Gq ws xs 0):CC (P6 ws xs k w):=by
 obtain⟨hl,hf,hx,hin⟩:=ho
 have f0:0<ws.length→1≤ws.getD 0 0∧ws.getD 0 0≤8:=fun h=>aA hf h
 have f1:1<ws.length→1≤ws.getD 1 0∧ws.getD 1 0≤8:=fun h=>aA hf h
 have f2:2<ws.length→1≤ws.getD 2 0∧ws.getD 2 0≤8:=fun h=>aA hf h
 have a0:0<ws.length→0≤xs.getD 0 0∧xs.getD 0 0≤af (ws.getD 0 0):=fun h=>a7 hin (by omega)
 have a1:1<ws.length→0≤xs.getD 1 0∧xs.getD 1 0≤af (ws.getD 1 0):=fun h=>a7 hin (by omega)
 have a2:2<ws.length→0≤xs.getD 2 0∧xs.getD 2 0≤af (ws.getD 2 0):=fun h=>a7 hin (by omega)
 have m0:0<ws.length→0≤af (ws.getD 0 0)∧af (ws.getD 0 0)≤255:=fun h=>az (by have:=f0 h;omega) (f0 h).2
 have m1:1<ws.length→0≤af (ws.getD 1 0)∧af (ws.getD 1 0)≤255:=fun h=>az (by have:=f1 h;omega) (f1 h).2
 have m2:2<ws.length→0≤af (ws.getD 2 0)∧af (ws.getD 2 0)≤255:=fun h=>az (by have:=f2 h;omega) (f2 h).2
 refine ah.vc (V:=TT 6 (k=(je 1 ws xs k w)∧True)) (.e) Tryz.func141 rfl rfl rfl (by kernel_rfl) ?_
 refine tt ⟨?_,oK⟩
 rfl
abbrev P7 (ws xs:List Int) (k w:Int):Ct:=⟨149,(jB ws xs k w),false,(i6 (je 13 ws xs k w))⟩
theorem MP (ws xs:List Int) (k w:Int) (ho:Gq ws xs 1):CC (P7 ws xs k w):=by
 obtain⟨hl,hf,hx,hin⟩:=ho
 have f0:0<ws.length→1≤ws.getD 0 0∧ws.getD 0 0≤8:=fun h=>aA hf h
 have f1:1<ws.length→1≤ws.getD 1 0∧ws.getD 1 0≤8:=fun h=>aA hf h
 have f2:2<ws.length→1≤ws.getD 2 0∧ws.getD 2 0≤8:=fun h=>aA hf h
 have a0:0<ws.length→0≤xs.getD 0 0∧xs.getD 0 0≤af (ws.getD 0 0):=fun h=>a7 hin (by omega)
 have a1:1<ws.length→0≤xs.getD 1 0∧xs.getD 1 0≤af (ws.getD 1 0):=fun h=>a7 hin (by omega)
 have a2:2<ws.length→0≤xs.getD 2 0∧xs.getD 2 0≤af (ws.getD 2 0):=fun h=>a7 hin (by omega)
 have m0:0<ws.length→0≤af (ws.getD 0 0)∧af (ws.getD 0 0)≤255:=fun h=>az (by have:=f0 h;omega) (f0 h).2
 have m1:1<ws.length→0≤af (ws.getD 1 0)∧af (ws.getD 1 0)≤255:=fun h=>az (by have:=f1 h;omega) (f1 h).2
 have m2:2<ws.length→0≤af (ws.getD 2 0)∧af (ws.getD 2 0)≤255:=fun h=>az (by have:=f2 h;omega) (f2 h).2
 have b0:=f0 (by omega);have c0:=a0 (by omega);have d0:=m0 (by omega)
 refine ah.vc (V:=TT 4 (IX 0 xs.length∧TT 3 ((xs.getD 0 0)=(je 13 ws xs k w)∧True))) (.e) Tryz.func149 rfl rfl rfl (by kernel_rfl) ?_
 refine tt ⟨ix,tt ⟨?_,oK⟩⟩
 rfl
abbrev P8 (ws xs:List Int) (k w:Int):Ct:=⟨143,(jB ws xs k w),false,(i6 (je 10 ws xs k w))⟩
theorem MQ (ws xs:List Int) (k w:Int) (ho:Gq ws xs 3) (h1:ws.getD 0 0=1):CC (P8 ws xs k w):=by
 obtain⟨hl,hf,hx,hin⟩:=ho
 have f0:0<ws.length→1≤ws.getD 0 0∧ws.getD 0 0≤8:=fun h=>aA hf h
 have f1:1<ws.length→1≤ws.getD 1 0∧ws.getD 1 0≤8:=fun h=>aA hf h
 have f2:2<ws.length→1≤ws.getD 2 0∧ws.getD 2 0≤8:=fun h=>aA hf h
 have a0:0<ws.length→0≤xs.getD 0 0∧xs.getD 0 0≤af (ws.getD 0 0):=fun h=>a7 hin (by omega)
 have a1:1<ws.length→0≤xs.getD 1 0∧xs.getD 1 0≤af (ws.getD 1 0):=fun h=>a7 hin (by omega)
 have a2:2<ws.length→0≤xs.getD 2 0∧xs.getD 2 0≤af (ws.getD 2 0):=fun h=>a7 hin (by omega)
 have m0:0<ws.length→0≤af (ws.getD 0 0)∧af (ws.getD 0 0)≤255:=fun h=>az (by have:=f0 h;omega) (f0 h).2
 have m1:1<ws.length→0≤af (ws.getD 1 0)∧af (ws.getD 1 0)≤255:=fun h=>az (by have:=f1 h;omega) (f1 h).2
 have m2:2<ws.length→0≤af (ws.getD 2 0)∧af (ws.getD 2 0)≤255:=fun h=>az (by have:=f2 h;omega) (f2 h).2
 have b0:=f0 (by omega);have c0:=a0 (by omega);have d0:=m0 (by omega)
 have b1:=f1 (by omega);have c1:=a1 (by omega);have d1:=m1 (by omega)
 have b2:=f2 (by omega);have c2:=a2 (by omega);have d2:=m2 (by omega)
 have hm1:af (ws.getD 0 0)=1:=by rw[h1];decide
 have hx0:xs.getD 0 0=0∨xs.getD 0 0=1:=by omega
 refine ah.vc (V:=TT 6 (IX 0 xs.length∧TT 1 (W6 (2-(xs.getD 0 0))∧IX (2-(xs.getD 0 0)) xs.length∧TT 3 ((xs.getD ((2-(xs.getD 0 0)).toNat) 0)=(je 10 ws xs k w)∧True)))) (.w 1 [(6,.val (i6 (2-(xs.getD 0 0))))]<|.e) Tryz.func143 rfl rfl rfl (by kernel_rfl) ?_
 refine tt ⟨ix,tt ⟨w6,⟨ix,tt ⟨?_,oK⟩⟩⟩⟩
 rfl
abbrev P9 (ws xs:List Int) (k w:Int):Ct:=⟨145,(jB ws xs k w),false,(i6 (je 11 ws xs k w))⟩
theorem MR (ws xs:List Int) (k w:Int) (ho:Gq ws xs 2):CC (P9 ws xs k w):=by
 obtain⟨hl,hf,hx,hin⟩:=ho
 have f0:0<ws.length→1≤ws.getD 0 0∧ws.getD 0 0≤8:=fun h=>aA hf h
 have f1:1<ws.length→1≤ws.getD 1 0∧ws.getD 1 0≤8:=fun h=>aA hf h
 have f2:2<ws.length→1≤ws.getD 2 0∧ws.getD 2 0≤8:=fun h=>aA hf h
 have a0:0<ws.length→0≤xs.getD 0 0∧xs.getD 0 0≤af (ws.getD 0 0):=fun h=>a7 hin (by omega)
 have a1:1<ws.length→0≤xs.getD 1 0∧xs.getD 1 0≤af (ws.getD 1 0):=fun h=>a7 hin (by omega)
 have a2:2<ws.length→0≤xs.getD 2 0∧xs.getD 2 0≤af (ws.getD 2 0):=fun h=>a7 hin (by omega)
 have m0:0<ws.length→0≤af (ws.getD 0 0)∧af (ws.getD 0 0)≤255:=fun h=>az (by have:=f0 h;omega) (f0 h).2
 have m1:1<ws.length→0≤af (ws.getD 1 0)∧af (ws.getD 1 0)≤255:=fun h=>az (by have:=f1 h;omega) (f1 h).2
 have m2:2<ws.length→0≤af (ws.getD 2 0)∧af (ws.getD 2 0)≤255:=fun h=>az (by have:=f2 h;omega) (f2 h).2
 have b0:=f0 (by omega);have c0:=a0 (by omega);have d0:=m0 (by omega)
 have b1:=f1 (by omega);have c1:=a1 (by omega);have d1:=m1 (by omega)
 refine ah.vc (V:=TT 4 (IX 0 xs.length∧TT 3 (IX 1 ws.length∧TT 1 ((0≤(ws.getD 1 0)∧(IntKind.wrap .i64 ((xs.getD 0 0)*2^min ((ws.getD 1 0).toNat) 64))=(((xs.getD 0 0).toNat*2^(ws.getD 1 0).toNat:Nat):Int))∧TT 2 (IX 1 xs.length∧TT 1 ((True∧(IntKind.wrap .i64 (BitVec.ofInt (IntKind.i64).bits (((xs.getD 0 0).toNat*2^(ws.getD 1 0).toNat:Nat):Int) ||| BitVec.ofInt (IntKind.i64).bits (xs.getD 1 0)).toNat)=(((xs.getD 0 0).toNat*2^(ws.getD 1 0).toNat ||| (xs.getD 1 0).toNat:Nat):Int))∧TT 2 ((((xs.getD 0 0).toNat*2^(ws.getD 1 0).toNat ||| (xs.getD 1 0).toNat:Nat):Int)=(je 11 ws xs k w)∧True))))))) (.w 1 [(8,.val (i6 (((xs.getD 0 0).toNat*2^(ws.getD 1 0).toNat:Nat):Int))),(13,.val (i6 (((xs.getD 0 0).toNat*2^(ws.getD 1 0).toNat ||| (xs.getD 1 0).toNat:Nat):Int)))]<|.e) Tryz.func145 rfl rfl rfl (by kernel_rfl) ?_
 refine tt ⟨ix,tt ⟨ix,tt ⟨⟨om,(EF (by omega) (by omega))⟩,tt ⟨ix,tt ⟨⟨oK,(EG (by omega) (by omega) (by omega))⟩,tt ⟨?_,oK⟩⟩⟩⟩⟩⟩
 rfl
abbrev Qa (ws xs:List Int) (k w:Int):Ct:=⟨147,(jB ws xs k w),false,(i6 (je 12 ws xs k w))⟩
theorem Ib (ws xs:List Int) (k w:Int) (ho:Gq ws xs 1) (hk:0≤k∧k≤8∧aq w=true):CC (Qa ws xs k w):=by
 obtain⟨hl,hf,hx,hin⟩:=ho
 have f0:0<ws.length→1≤ws.getD 0 0∧ws.getD 0 0≤8:=fun h=>aA hf h
 have f1:1<ws.length→1≤ws.getD 1 0∧ws.getD 1 0≤8:=fun h=>aA hf h
 have f2:2<ws.length→1≤ws.getD 2 0∧ws.getD 2 0≤8:=fun h=>aA hf h
 have a0:0<ws.length→0≤xs.getD 0 0∧xs.getD 0 0≤af (ws.getD 0 0):=fun h=>a7 hin (by omega)
 have a1:1<ws.length→0≤xs.getD 1 0∧xs.getD 1 0≤af (ws.getD 1 0):=fun h=>a7 hin (by omega)
 have a2:2<ws.length→0≤xs.getD 2 0∧xs.getD 2 0≤af (ws.getD 2 0):=fun h=>a7 hin (by omega)
 have m0:0<ws.length→0≤af (ws.getD 0 0)∧af (ws.getD 0 0)≤255:=fun h=>az (by have:=f0 h;omega) (f0 h).2
 have m1:1<ws.length→0≤af (ws.getD 1 0)∧af (ws.getD 1 0)≤255:=fun h=>az (by have:=f1 h;omega) (f1 h).2
 have m2:2<ws.length→0≤af (ws.getD 2 0)∧af (ws.getD 2 0)≤255:=fun h=>az (by have:=f2 h;omega) (f2 h).2
 have b0:=f0 (by omega);have c0:=a0 (by omega);have d0:=m0 (by omega)
 have hw:=aW.1 hk.2.2
 refine ah.vc (V:=TT 4 (IX 0 xs.length∧TT 3 ((0≤k∧(Int.fdiv (xs.getD 0 0) (2^min k.toNat 64))=(xs.getD 0 0 / 2^k.toNat))∧TT 2 (CC (zk w)∧(True∧(IntKind.wrap .i64 (BitVec.ofInt (IntKind.i64).bits (xs.getD 0 0 / 2^k.toNat) &&& BitVec.ofInt (IntKind.i64).bits (af w)).toNat)=((xs.getD 0 0 / 2^k.toNat)%2^w.toNat))∧TT 2 (((xs.getD 0 0 / 2^k.toNat)%2^w.toNat)=(je 12 ws xs k w)∧True))))) (.w 1 [(6,.val (i6 (xs.getD 0 0 / 2^k.toNat))),(9,(zk w).O),(10,.val (i6 ((xs.getD 0 0 / 2^k.toNat)%2^w.toNat)))]<|.e) Tryz.func147 rfl rfl rfl (by kernel_rfl) ?_
 refine tt ⟨ix,tt ⟨⟨om,(EH hk.1 (by omega))⟩,tt ⟨(uD w),⟨⟨oK,(by rw[cY (by omega) (by omega)];exact km (by omega))⟩,tt ⟨?_,oK⟩⟩⟩⟩⟩
 rfl
abbrev eC:ap:=(.var 216 [(i6 0),(.v .nilf),(.v .nilf)])
abbrev aY (op:Int):D:=(i6 (bo op))
abbrev cP:D:=(.ptr 1 0 0 0)
abbrev db:D:=(.ptr 2 0 0 0)
set_option maxRecDepth 100000
def fo:List (Int×Value):=[(2,.agg #[.int .i64 1,.func (.func 127) #[] #[],.func (.func 128) #[] #[]]),(3,.agg #[.int .i64 2,.func (.func 130) #[] #[],.func (.func 131) #[] #[]]),(4,.agg #[.int .i64 2,.func (.func 130) #[] #[],.func (.func 132) #[] #[]]),(5,.agg #[.int .i64 2,.func (.func 130) #[] #[],.func (.func 133) #[] #[]]),(6,.agg #[.int .i64 2,.func (.func 130) #[] #[],.func (.func 134) #[] #[]]),(7,.agg #[.int .i64 2,.func (.func 130) #[] #[],.func (.func 135) #[] #[]]),(8,.agg #[.int .i64 2,.func (.func 136) #[] #[],.func (.func 137) #[] #[]]),(9,.agg #[.int .i64 2,.func (.func 136) #[] #[],.func (.func 139) #[] #[]])]
set_option maxHeartbeats 800000 in
theorem zl (w:World):Calls Tryz.prog 123 #[] w (fun e w'=>∃arr:Array MapEntry,e=.returned (.map (some w.heap.size))∧w'=w.alloc (.map arr 8)∧arr.toList.map (fun e=>(e.key,e.val))=fo.map (fun e=>(Value.int .i64 e.1,e.2))):=by
  go_enter Tryz.func123,Tryz.ntmps123
  go_wp2_with (first | (rw[tA]) | (rw[vX Tryz.underlying227 Tryz.underlying3 (by rfl)]))
  go_ret
  exact⟨_,rfl,rfl,rfl⟩
abbrev zm:Ct:=⟨123,[],false,.v (.mp fo)⟩
theorem oA:CC zm:=ah.of_map zl
def fR:List (Int×Value):=[(1,.agg #[.int .i64 0,.func (.func 140) #[] #[],.func (.func 141) #[] #[]]),(10,.agg #[.int .i64 3,.func (.func 142) #[] #[],.func (.func 143) #[] #[]]),(11,.agg #[.int .i64 2,.func (.func 144) #[] #[],.func (.func 145) #[] #[]]),(12,.agg #[.int .i64 1,.func (.func 146) #[] #[],.func (.func 147) #[] #[]]),(13,.agg #[.int .i64 1,.func (.func 148) #[] #[],.func (.func 149) #[] #[]])]
set_option maxHeartbeats 800000 in
theorem zo (w:World):Calls Tryz.prog 124 #[] w (fun e w'=>∃arr:Array MapEntry,e=.returned (.map (some w.heap.size))∧w'=w.alloc (.map arr 5)∧arr.toList.map (fun e=>(e.key,e.val))=fR.map (fun e=>(Value.int .i64 e.1,e.2))):=by
  go_enter Tryz.func124,Tryz.ntmps124
  go_wp2_with (first | (rw[tA]) | (rw[vX Tryz.underlying227 Tryz.underlying3 (by rfl)]))
  go_ret
  exact⟨_,rfl,rfl,rfl⟩
abbrev C9:Ct:=⟨124,[],false,.v (.mp fR)⟩
theorem sN:CC C9:=ah.of_map zo
def eo (op:Int):Nat :=
  if op=1 then 140 else
  if op=2 then 127 else
  if op=3 then 130 else
  if op=4 then 130 else
  if op=5 then 130 else
  if op=6 then 130 else
  if op=7 then 130 else
  if op=8 then 136 else
  if op=9 then 136 else
  if op=10 then 142 else
  if op=11 then 144 else
  if op=12 then 146 else
  if op=13 then 148 else 0
def er (op:Int):Nat :=
  if op=1 then 141 else
  if op=2 then 128 else
  if op=3 then 131 else
  if op=4 then 132 else
  if op=5 then 133 else
  if op=6 then 134 else
  if op=7 then 135 else
  if op=8 then 137 else
  if op=9 then 139 else
  if op=10 then 143 else
  if op=11 then 145 else
  if op=12 then 147 else
  if op=13 then 149 else 0
abbrev cW (op:Int) (ws xs:List Int) (k w:Int):Ct:=⟨eo op,[(.agg [(LI ws),(LI xs),(i6 k),(i6 w)])],false,i6 (bi op ws k w)⟩
abbrev cV (op:Int) (ws xs:List Int) (k w:Int):Ct:=⟨er op,[(.agg [(LI ws),(LI xs),(i6 k),(i6 w)])],false,i6 (je op ws xs k w)⟩
theorem vZ {op:Int} {ws:List Int} (h:Bi op ws=true):op=1∨op=2∨op=3∨op=4∨op=5∨op=6∨op=7∨op=8∨op=9∨op=10∨op=11∨op=12∨op=13:=by
  have h1:=(zh h).1
  by_cases hr:op<1∨13<op
  · have:bo op=-1:=by unfold bo;rw[RE (by omega),RE (by omega),RE (by omega),RE (by omega)]
    omega
  · omega
theorem LS (op:Int) (ws xs:List Int) (k w:Int) (h:Bi op ws=true):GC (cW op ws xs k w):=by
  obtain⟨h1,hf⟩:=zh h
  rcases vZ h with rfl | rfl | rfl | rfl | rfl | rfl | rfl | rfl | rfl | rfl | rfl | rfl | rfl
  · (have hl:(ws.length:Int)=0:=h1);exact⟨by kernel_rfl,Gn ws xs k w (by omega) hf⟩
  · (have hl:(ws.length:Int)=1:=h1);exact⟨by kernel_rfl,H8 ws xs k w (by omega) hf⟩
  · (have hl:(ws.length:Int)=2:=h1);exact⟨by kernel_rfl,kn ws xs k w (by omega) hf⟩
  · (have hl:(ws.length:Int)=2:=h1);exact⟨by kernel_rfl,kn ws xs k w (by omega) hf⟩
  · (have hl:(ws.length:Int)=2:=h1);exact⟨by kernel_rfl,kn ws xs k w (by omega) hf⟩
  · (have hl:(ws.length:Int)=2:=h1);exact⟨by kernel_rfl,kn ws xs k w (by omega) hf⟩
  · (have hl:(ws.length:Int)=2:=h1);exact⟨by kernel_rfl,kn ws xs k w (by omega) hf⟩
  · (have hl:(ws.length:Int)=2:=h1);exact⟨by kernel_rfl,H9 ws xs k w (by omega) hf⟩
  · (have hl:(ws.length:Int)=2:=h1);exact⟨by kernel_rfl,H9 ws xs k w (by omega) hf⟩
  · (have hl:(ws.length:Int)=3:=h1);exact⟨by kernel_rfl,KE ws xs k w (by omega) hf⟩
  · (have hl:(ws.length:Int)=2:=h1);exact⟨by kernel_rfl,KF ws xs k w (by omega) hf⟩
  · (have hl:(ws.length:Int)=1:=h1);exact⟨by kernel_rfl,Gp ws xs k w (by omega) hf⟩
  · (have hl:(ws.length:Int)=1:=h1);exact⟨by kernel_rfl,KG ws xs k w (by omega) hf⟩
theorem OJ (op:Int) (ws xs:List Int) (k w:Int) (h:hC op ws k w=true) (hx:xs.length=ws.length) (hin:Bg ws xs=true):GC (cV op ws xs k w):=by
  obtain⟨h1,hf,h3⟩:=jT h
  have hb:Bi op ws=true:=by unfold Bi;rw[RX h1,hf];rfl
  rcases vZ hb with rfl | rfl | rfl | rfl | rfl | rfl | rfl | rfl | rfl | rfl | rfl | rfl | rfl
  · (have hl:(ws.length:Int)=0:=h1);exact⟨by kernel_rfl,Ia ws xs k w ⟨by omega,hf,hx,hin⟩⟩
  · (have hl:(ws.length:Int)=1:=h1);exact⟨by kernel_rfl,MK ws xs k w ⟨by omega,hf,hx,hin⟩⟩
  · (have hl:(ws.length:Int)=2:=h1);exact⟨by kernel_rfl,ML ws xs k w ⟨by omega,hf,hx,hin⟩⟩
  · (have hl:(ws.length:Int)=2:=h1);exact⟨by kernel_rfl,OG ws xs k w ⟨by omega,hf,hx,hin⟩⟩
  · (have hl:(ws.length:Int)=2:=h1);exact⟨by kernel_rfl,MM ws xs k w ⟨by omega,hf,hx,hin⟩⟩
  · (have hl:(ws.length:Int)=2:=h1);exact⟨by kernel_rfl,MN ws xs k w ⟨by omega,hf,hx,hin⟩⟩
  · (have hl:(ws.length:Int)=2:=h1);exact⟨by kernel_rfl,MO ws xs k w ⟨by omega,hf,hx,hin⟩⟩
  · (have hl:(ws.length:Int)=2:=h1);exact⟨by kernel_rfl,OH ws xs k w ⟨by omega,hf,hx,hin⟩⟩
  · (have hl:(ws.length:Int)=2:=h1);exact⟨by kernel_rfl,OI ws xs k w ⟨by omega,hf,hx,hin⟩⟩
  · (have hl:(ws.length:Int)=3:=h1);exact⟨by kernel_rfl,MQ ws xs k w ⟨by omega,hf,hx,hin⟩ (zf h)⟩
  · (have hl:(ws.length:Int)=2:=h1);exact⟨by kernel_rfl,MR ws xs k w ⟨by omega,hf,hx,hin⟩⟩
  · (have hl:(ws.length:Int)=1:=h1);exact⟨by kernel_rfl,Ib ws xs k w ⟨by omega,hf,hx,hin⟩ (zg h)⟩
  · (have hl:(ws.length:Int)=1:=h1);exact⟨by kernel_rfl,MP ws xs k w ⟨by omega,hf,hx,hin⟩⟩
theorem v3 {op:Int} (h:op=2∨op=3∨op=4∨op=5∨op=6∨op=7∨op=8∨op=9):∃(j:Nat) (e:Int×Value),fo[j]?=some e∧op=e.1∧(∀e'∈fo.take j,op≠e'.1)∧p6 (D.ofVal e.2) (.agg [(aY op),(.fn (.func (eo op)) [] []),(.fn (.func (er op)) [] [])]):=by
  rcases h with rfl | rfl | rfl | rfl | rfl | rfl | rfl | rfl
  · exact⟨0,_,rfl,rfl,by decide,⟨rfl,rfl,rfl,oK⟩⟩
  · exact⟨1,_,rfl,rfl,by decide,⟨rfl,rfl,rfl,oK⟩⟩
  · exact⟨2,_,rfl,rfl,by decide,⟨rfl,rfl,rfl,oK⟩⟩
  · exact⟨3,_,rfl,rfl,by decide,⟨rfl,rfl,rfl,oK⟩⟩
  · exact⟨4,_,rfl,rfl,by decide,⟨rfl,rfl,rfl,oK⟩⟩
  · exact⟨5,_,rfl,rfl,by decide,⟨rfl,rfl,rfl,oK⟩⟩
  · exact⟨6,_,rfl,rfl,by decide,⟨rfl,rfl,rfl,oK⟩⟩
  · exact⟨7,_,rfl,rfl,by decide,⟨rfl,rfl,rfl,oK⟩⟩
theorem v4 {op:Int} (h:¬(op=2∨op=3∨op=4∨op=5∨op=6∨op=7∨op=8∨op=9)):∀e'∈fo,op≠e'.1:=by
  intro e' WX
  simp only[fo,Sq,List.not_mem_nil,or_false]at WX
  rcases WX with rfl | rfl | rfl | rfl | rfl | rfl | rfl | rfl<;>simp only[ne_eq]<;>omega
theorem v5 {op:Int} (h:op=1∨op=10∨op=11∨op=12∨op=13):∃(j:Nat) (e:Int×Value),fR[j]?=some e∧op=e.1∧(∀e'∈fR.take j,op≠e'.1)∧p6 (D.ofVal e.2) (.agg [(aY op),(.fn (.func (eo op)) [] []),(.fn (.func (er op)) [] [])]):=by
  rcases h with rfl | rfl | rfl | rfl | rfl
  · exact⟨0,_,rfl,rfl,by decide,⟨rfl,rfl,rfl,oK⟩⟩
  · exact⟨1,_,rfl,rfl,by decide,⟨rfl,rfl,rfl,oK⟩⟩
  · exact⟨2,_,rfl,rfl,by decide,⟨rfl,rfl,rfl,oK⟩⟩
  · exact⟨3,_,rfl,rfl,by decide,⟨rfl,rfl,rfl,oK⟩⟩
  · exact⟨4,_,rfl,rfl,by decide,⟨rfl,rfl,rfl,oK⟩⟩
theorem Da {op:Int} (h:¬(op=1∨op=10∨op=11∨op=12∨op=13)):∀e'∈fR,op≠e'.1:=by
  intro e' WX
  simp only[fR,Sq,List.not_mem_nil,or_false]at WX
  rcases WX with rfl | rfl | rfl | rfl | rfl<;>simp only[ne_eq]<;>omega
abbrev Gr (op:Int) (ws xs:List Int) (k w:Int):Ct:=⟨117,[(i6 op),(.agg [(LI ws),(LI xs),(i6 k),(i6 w)])],true,(.tup [(.agg [(aY op),(.fn (.func (eo op)) [] []),(.fn (.func (er op)) [] [])]),(i6 (bi op ws k w)),(dB (aq (bi op ws k w)))])⟩
def mV (op:Int) (ws:List Int) (xs:List Int) (k:Int) (w:Int):St:=⟨[(4,cP),(7,db),(9,(i6 (bi op ws k w)))],[(.var 213 [(LI ws),(LI xs),(i6 k),(i6 w)]),eC,(.var 216 [(aY op),(.fn (.func (eo op)) [] []),(.fn (.func (er op)) [] [])])]⟩
def tB (op:Int) (ws:List Int) (xs:List Int) (k:Int) (w:Int):St:=⟨[(4,cP),(7,db),(9,(i6 (bi op ws k w))),(44,(.agg [(aY op),(.fn (.func (eo op)) [] []),(.fn (.func (er op)) [] [])]))],[(.var 213 [(LI ws),(LI xs),(i6 k),(i6 w)]),eC,(.var 216 [(aY op),(.fn (.func (eo op)) [] []),(.fn (.func (er op)) [] [])])]⟩
def tC (op:Int) (ws:List Int) (xs:List Int) (k:Int) (w:Int):St:=⟨[(4,cP),(7,db),(9,(i6 (bi op ws k w))),(45,(i6 (bi op ws k w)))],[(.var 213 [(LI ws),(LI xs),(i6 k),(i6 w)]),eC,(.var 216 [(aY op),(.fn (.func (eo op)) [] []),(.fn (.func (er op)) [] [])])]⟩
def tD (op:Int) (ws:List Int) (xs:List Int) (k:Int) (w:Int):St:=⟨[(4,cP),(7,db),(9,(i6 (bi op ws k w))),(46,(i6 (bi op ws k w)))],[(.var 213 [(LI ws),(LI xs),(i6 k),(i6 w)]),eC,(.var 216 [(aY op),(.fn (.func (eo op)) [] []),(.fn (.func (er op)) [] [])])]⟩
def mW (op:Int) (ws:List Int) (xs:List Int) (k:Int) (w:Int):St:=⟨[(4,cP),(7,db),(9,(i6 (bi op ws k w))),(44,(.agg [(aY op),(.fn (.func (eo op)) [] []),(.fn (.func (er op)) [] [])])),(45,(i6 (bi op ws k w)))],[(.var 213 [(LI ws),(LI xs),(i6 k),(i6 w)]),eC,(.var 216 [(aY op),(.fn (.func (eo op)) [] []),(.fn (.func (er op)) [] [])])]⟩
def mX (op:Int) (ws:List Int) (xs:List Int) (k:Int) (w:Int):St:=⟨[(4,cP),(7,db),(9,(i6 (bi op ws k w))),(44,(.agg [(aY op),(.fn (.func (eo op)) [] []),(.fn (.func (er op)) [] [])])),(46,(i6 (bi op ws k w)))],[(.var 213 [(LI ws),(LI xs),(i6 k),(i6 w)]),eC,(.var 216 [(aY op),(.fn (.func (eo op)) [] []),(.fn (.func (er op)) [] [])])]⟩
def mY (op:Int) (ws:List Int) (xs:List Int) (k:Int) (w:Int):St:=⟨[(4,cP),(7,db),(9,(i6 (bi op ws k w))),(45,(i6 (bi op ws k w))),(46,(i6 (bi op ws k w)))],[(.var 213 [(LI ws),(LI xs),(i6 k),(i6 w)]),eC,(.var 216 [(aY op),(.fn (.func (eo op)) [] []),(.fn (.func (er op)) [] [])])]⟩
def tE (op:Int) (ws:List Int) (xs:List Int) (k:Int) (w:Int):St:=⟨[(4,cP),(7,db),(9,(i6 (bi op ws k w))),(46,(i6 (bi op ws k w))),(47,(dB (aq (bi op ws k w))))],[(.var 213 [(LI ws),(LI xs),(i6 k),(i6 w)]),eC,(.var 216 [(aY op),(.fn (.func (eo op)) [] []),(.fn (.func (er op)) [] [])])]⟩
def jC (op:Int) (ws:List Int) (xs:List Int) (k:Int) (w:Int):St:=⟨[(4,cP),(7,db),(9,(i6 (bi op ws k w))),(44,(.agg [(aY op),(.fn (.func (eo op)) [] []),(.fn (.func (er op)) [] [])])),(45,(i6 (bi op ws k w))),(46,(i6 (bi op ws k w)))],[(.var 213 [(LI ws),(LI xs),(i6 k),(i6 w)]),eC,(.var 216 [(aY op),(.fn (.func (eo op)) [] []),(.fn (.func (er op)) [] [])])]⟩
def mZ (op:Int) (ws:List Int) (xs:List Int) (k:Int) (w:Int):St:=⟨[(4,cP),(7,db),(9,(i6 (bi op ws k w))),(44,(.agg [(aY op),(.fn (.func (eo op)) [] []),(.fn (.func (er op)) [] [])])),(46,(i6 (bi op ws k w))),(47,(dB (aq (bi op ws k w))))],[(.var 213 [(LI ws),(LI xs),(i6 k),(i6 w)]),eC,(.var 216 [(aY op),(.fn (.func (eo op)) [] []),(.fn (.func (er op)) [] [])])]⟩
def lq (op:Int) (ws:List Int) (xs:List Int) (k:Int) (w:Int):St:=⟨[(4,cP),(7,db),(9,(i6 (bi op ws k w))),(45,(i6 (bi op ws k w))),(46,(i6 (bi op ws k w))),(47,(dB (aq (bi op ws k w))))],[(.var 213 [(LI ws),(LI xs),(i6 k),(i6 w)]),eC,(.var 216 [(aY op),(.fn (.func (eo op)) [] []),(.fn (.func (er op)) [] [])])]⟩
def iM (op:Int) (ws:List Int) (xs:List Int) (k:Int) (w:Int):St:=⟨[(4,cP),(7,db),(9,(i6 (bi op ws k w))),(44,(.agg [(aY op),(.fn (.func (eo op)) [] []),(.fn (.func (er op)) [] [])])),(45,(i6 (bi op ws k w))),(46,(i6 (bi op ws k w))),(47,(dB (aq (bi op ws k w))))],[(.var 213 [(LI ws),(LI xs),(i6 k),(i6 w)]),eC,(.var 216 [(aY op),(.fn (.func (eo op)) [] []),(.fn (.func (er op)) [] [])])]⟩
def rc (op:Int) (ws:List Int) (xs:List Int) (k:Int) (w:Int):St:=⟨[(4,cP),(7,db),(9,(i6 (bi op ws k w))),(44,(.agg [(aY op),(.fn (.func (eo op)) [] []),(.fn (.func (er op)) [] [])])),(46,(i6 (bi op ws k w))),(47,(dB (aq (bi op ws k w))))],[(.var 213 [(LI ws),(LI xs),(i6 k),(i6 w)]),(.var 216 [(aY op),(.fn (.func (eo op)) [] []),(.fn (.func (er op)) [] [])]),(.var 216 [(aY op),(.fn (.func (eo op)) [] []),(.fn (.func (er op)) [] [])])]⟩
def lr (op:Int) (ws:List Int) (xs:List Int) (k:Int) (w:Int):St:=⟨[(4,cP),(7,db),(9,(i6 (bi op ws k w))),(44,(.agg [(aY op),(.fn (.func (eo op)) [] []),(.fn (.func (er op)) [] [])])),(45,(i6 (bi op ws k w))),(46,(i6 (bi op ws k w))),(47,(dB (aq (bi op ws k w))))],[(.var 213 [(LI ws),(LI xs),(i6 k),(i6 w)]),(.var 216 [(aY op),(.fn (.func (eo op)) [] []),(.fn (.func (er op)) [] [])]),(.var 216 [(aY op),(.fn (.func (eo op)) [] []),(.fn (.func (er op)) [] [])])]⟩
def rf (op:Int) (ws:List Int) (xs:List Int) (k:Int) (w:Int):St:=⟨[(4,cP),(5,(i6 (bi op ws k w))),(7,db),(9,(i6 (bi op ws k w))),(44,(.agg [(aY op),(.fn (.func (eo op)) [] []),(.fn (.func (er op)) [] [])])),(45,(i6 (bi op ws k w))),(46,(i6 (bi op ws k w))),(47,(dB (aq (bi op ws k w))))],[(.var 213 [(LI ws),(LI xs),(i6 k),(i6 w)]),(.var 216 [(aY op),(.fn (.func (eo op)) [] []),(.fn (.func (er op)) [] [])]),(.var 216 [(aY op),(.fn (.func (eo op)) [] []),(.fn (.func (er op)) [] [])])]⟩
def rh (op:Int) (ws:List Int) (xs:List Int) (k:Int) (w:Int):St:=⟨[(4,cP),(5,(i6 (bi op ws k w))),(6,(dB (aq (bi op ws k w))))],[(.var 213 [(LI ws),(LI xs),(i6 k),(i6 w)]),(.var 216 [(aY op),(.fn (.func (eo op)) [] []),(.fn (.func (er op)) [] [])]),(.var 216 [(aY op),(.fn (.func (eo op)) [] []),(.fn (.func (er op)) [] [])])]⟩
def lu (op:Int) (ws:List Int) (xs:List Int) (k:Int) (w:Int):St:=⟨[(4,cP),(7,db),(9,(i6 (bi op ws k w)))],[(.var 213 [(LI ws),(LI xs),(i6 k),(i6 w)]),eC,(.var 216 [(aY op),(.fn (.func (eo op)) [] []),(.fn (.func (er op)) [] [])])]⟩
def ri (op:Int) (ws:List Int) (xs:List Int) (k:Int) (w:Int):St:=⟨[(4,cP),(7,db),(9,(i6 (bi op ws k w))),(44,(.agg [(aY op),(.fn (.func (eo op)) [] []),(.fn (.func (er op)) [] [])]))],[(.var 213 [(LI ws),(LI xs),(i6 k),(i6 w)]),eC,(.var 216 [(aY op),(.fn (.func (eo op)) [] []),(.fn (.func (er op)) [] [])])]⟩
def rj (op:Int) (ws:List Int) (xs:List Int) (k:Int) (w:Int):St:=⟨[(4,cP),(7,db),(9,(i6 (bi op ws k w))),(45,(i6 (bi op ws k w)))],[(.var 213 [(LI ws),(LI xs),(i6 k),(i6 w)]),eC,(.var 216 [(aY op),(.fn (.func (eo op)) [] []),(.fn (.func (er op)) [] [])])]⟩
def rk (op:Int) (ws:List Int) (xs:List Int) (k:Int) (w:Int):St:=⟨[(4,cP),(7,db),(9,(i6 (bi op ws k w))),(46,(i6 (bi op ws k w)))],[(.var 213 [(LI ws),(LI xs),(i6 k),(i6 w)]),eC,(.var 216 [(aY op),(.fn (.func (eo op)) [] []),(.fn (.func (er op)) [] [])])]⟩
def lx (op:Int) (ws:List Int) (xs:List Int) (k:Int) (w:Int):St:=⟨[(4,cP),(7,db),(9,(i6 (bi op ws k w))),(44,(.agg [(aY op),(.fn (.func (eo op)) [] []),(.fn (.func (er op)) [] [])])),(45,(i6 (bi op ws k w)))],[(.var 213 [(LI ws),(LI xs),(i6 k),(i6 w)]),eC,(.var 216 [(aY op),(.fn (.func (eo op)) [] []),(.fn (.func (er op)) [] [])])]⟩
def ly (op:Int) (ws:List Int) (xs:List Int) (k:Int) (w:Int):St:=⟨[(4,cP),(7,db),(9,(i6 (bi op ws k w))),(44,(.agg [(aY op),(.fn (.func (eo op)) [] []),(.fn (.func (er op)) [] [])])),(46,(i6 (bi op ws k w)))],[(.var 213 [(LI ws),(LI xs),(i6 k),(i6 w)]),eC,(.var 216 [(aY op),(.fn (.func (eo op)) [] []),(.fn (.func (er op)) [] [])])]⟩
def lz (op:Int) (ws:List Int) (xs:List Int) (k:Int) (w:Int):St:=⟨[(4,cP),(7,db),(9,(i6 (bi op ws k w))),(45,(i6 (bi op ws k w))),(46,(i6 (bi op ws k w)))],[(.var 213 [(LI ws),(LI xs),(i6 k),(i6 w)]),eC,(.var 216 [(aY op),(.fn (.func (eo op)) [] []),(.fn (.func (er op)) [] [])])]⟩
def rm (op:Int) (ws:List Int) (xs:List Int) (k:Int) (w:Int):St:=⟨[(4,cP),(7,db),(9,(i6 (bi op ws k w))),(46,(i6 (bi op ws k w))),(47,(dB (aq (bi op ws k w))))],[(.var 213 [(LI ws),(LI xs),(i6 k),(i6 w)]),eC,(.var 216 [(aY op),(.fn (.func (eo op)) [] []),(.fn (.func (er op)) [] [])])]⟩
def iO (op:Int) (ws:List Int) (xs:List Int) (k:Int) (w:Int):St:=⟨[(4,cP),(7,db),(9,(i6 (bi op ws k w))),(44,(.agg [(aY op),(.fn (.func (eo op)) [] []),(.fn (.func (er op)) [] [])])),(45,(i6 (bi op ws k w))),(46,(i6 (bi op ws k w)))],[(.var 213 [(LI ws),(LI xs),(i6 k),(i6 w)]),eC,(.var 216 [(aY op),(.fn (.func (eo op)) [] []),(.fn (.func (er op)) [] [])])]⟩
def lC (op:Int) (ws:List Int) (xs:List Int) (k:Int) (w:Int):St:=⟨[(4,cP),(7,db),(9,(i6 (bi op ws k w))),(44,(.agg [(aY op),(.fn (.func (eo op)) [] []),(.fn (.func (er op)) [] [])])),(46,(i6 (bi op ws k w))),(47,(dB (aq (bi op ws k w))))],[(.var 213 [(LI ws),(LI xs),(i6 k),(i6 w)]),eC,(.var 216 [(aY op),(.fn (.func (eo op)) [] []),(.fn (.func (er op)) [] [])])]⟩
def jU (op:Int) (ws:List Int) (xs:List Int) (k:Int) (w:Int):St:=⟨[(4,cP),(7,db),(9,(i6 (bi op ws k w))),(45,(i6 (bi op ws k w))),(46,(i6 (bi op ws k w))),(47,(dB (aq (bi op ws k w))))],[(.var 213 [(LI ws),(LI xs),(i6 k),(i6 w)]),eC,(.var 216 [(aY op),(.fn (.func (eo op)) [] []),(.fn (.func (er op)) [] [])])]⟩
def gL (op:Int) (ws:List Int) (xs:List Int) (k:Int) (w:Int):St:=⟨[(4,cP),(7,db),(9,(i6 (bi op ws k w))),(44,(.agg [(aY op),(.fn (.func (eo op)) [] []),(.fn (.func (er op)) [] [])])),(45,(i6 (bi op ws k w))),(46,(i6 (bi op ws k w))),(47,(dB (aq (bi op ws k w))))],[(.var 213 [(LI ws),(LI xs),(i6 k),(i6 w)]),eC,(.var 216 [(aY op),(.fn (.func (eo op)) [] []),(.fn (.func (er op)) [] [])])]⟩
def pK (op:Int) (ws:List Int) (xs:List Int) (k:Int) (w:Int):St:=⟨[(4,cP),(7,db),(9,(i6 (bi op ws k w))),(44,(.agg [(aY op),(.fn (.func (eo op)) [] []),(.fn (.func (er op)) [] [])])),(46,(i6 (bi op ws k w))),(47,(dB (aq (bi op ws k w))))],[(.var 213 [(LI ws),(LI xs),(i6 k),(i6 w)]),(.var 216 [(aY op),(.fn (.func (eo op)) [] []),(.fn (.func (er op)) [] [])]),(.var 216 [(aY op),(.fn (.func (eo op)) [] []),(.fn (.func (er op)) [] [])])]⟩
def jV (op:Int) (ws:List Int) (xs:List Int) (k:Int) (w:Int):St:=⟨[(4,cP),(7,db),(9,(i6 (bi op ws k w))),(44,(.agg [(aY op),(.fn (.func (eo op)) [] []),(.fn (.func (er op)) [] [])])),(45,(i6 (bi op ws k w))),(46,(i6 (bi op ws k w))),(47,(dB (aq (bi op ws k w))))],[(.var 213 [(LI ws),(LI xs),(i6 k),(i6 w)]),(.var 216 [(aY op),(.fn (.func (eo op)) [] []),(.fn (.func (er op)) [] [])]),(.var 216 [(aY op),(.fn (.func (eo op)) [] []),(.fn (.func (er op)) [] [])])]⟩
def pL (op:Int) (ws:List Int) (xs:List Int) (k:Int) (w:Int):St:=⟨[(4,cP),(5,(i6 (bi op ws k w))),(7,db),(9,(i6 (bi op ws k w))),(44,(.agg [(aY op),(.fn (.func (eo op)) [] []),(.fn (.func (er op)) [] [])])),(45,(i6 (bi op ws k w))),(46,(i6 (bi op ws k w))),(47,(dB (aq (bi op ws k w))))],[(.var 213 [(LI ws),(LI xs),(i6 k),(i6 w)]),(.var 216 [(aY op),(.fn (.func (eo op)) [] []),(.fn (.func (er op)) [] [])]),(.var 216 [(aY op),(.fn (.func (eo op)) [] []),(.fn (.func (er op)) [] [])])]⟩
def pM (op:Int) (ws:List Int) (xs:List Int) (k:Int) (w:Int):St:=⟨[(4,cP),(5,(i6 (bi op ws k w))),(6,(dB (aq (bi op ws k w))))],[(.var 213 [(LI ws),(LI xs),(i6 k),(i6 w)]),(.var 216 [(aY op),(.fn (.func (eo op)) [] []),(.fn (.func (er op)) [] [])]),(.var 216 [(aY op),(.fn (.func (eo op)) [] []),(.fn (.func (er op)) [] [])])]⟩
theorem xT (op:Int) (ws xs:List Int) (k w:Int) (hw:ws.length≤9223372036854775807) (h:Bi op ws=true):CC (Gr op ws xs k w):=by
 obtain⟨h1,h2⟩:=zh h
 have VL:=vZ h
 refine ah.vc (V:=TT 4 (CS (op=2∨op=3∨op=4∨op=5∨op=6∨op=7∨op=8∨op=9) (CC zm∧TT 1 ((∃(j:Nat) (e:Int×Value),fo[j]?=some e∧op=e.1∧(∀e'∈fo.take j,op≠e'.1)∧p6 (D.ofVal e.2) (.agg [(aY op),(.fn (.func (eo op)) [] []),(.fn (.func (er op)) [] [])]))∧TT 18 ((True∧(!decide ((ws.length:Int)=(bo op)))=false)∧TT 2 (CC (KD ws)∧TT 1 ((!(ws.all aq))=false∧TT 3 (GC (cW op ws xs k w)∧TT 1 ((mV op ws xs k w)=(mV op ws xs k w)∧(((sE (tB op ws xs k w) (True))∧(sE (tC op ws xs k w) (True))∧(sE (tD op ws xs k w) (True))∧True)∧((sE (mW op ws xs k w) (True))∧(sE (mX op ws xs k w) (True))∧True)∧((sE (mW op ws xs k w) (True))∧(sE (mY op ws xs k w) (True))∧True)∧((sE (mX op ws xs k w) (True))∧(sE (mY op ws xs k w) (True))∧(sE (tE op ws xs k w) (CC (iq (bi op ws k w))))∧True)∧((sE (jC op ws xs k w) (True))∧True)∧((sE (jC op ws xs k w) (True))∧(sE (mZ op ws xs k w) (CC (iq (bi op ws k w))))∧True)∧((sE (jC op ws xs k w) (True))∧(sE (lq op ws xs k w) (CC (iq (bi op ws k w))))∧True)∧((sE (mZ op ws xs k w) (True))∧(sE (lq op ws xs k w) (True))∧True)∧((sE (iM op ws xs k w) (CC (iq (bi op ws k w))))∧True)∧((sE (iM op ws xs k w) (True))∧(sE (rc op ws xs k w) (True))∧True)∧((sE (iM op ws xs k w) (True))∧True)∧((sE (lr op ws xs k w) (True))∧True)∧((sE (lr op ws xs k w) (True))∧True)∧((sE (rf op ws xs k w) (True))∧True)∧((sE (rh op ws xs k w) (True))∧True)∧True∧True)∧TT 3 (((bo op)=(bo op)∧((.fn (.func (eo op)) [] []):D)=(.fn (.func (eo op)) [] [])∧((.fn (.func (er op)) [] []):D)=(.fn (.func (er op)) [] [])∧True)∧(bi op ws k w)=(bi op ws k w)∧(aq (bi op ws k w))=(aq (bi op ws k w))∧True)))))))) (CC zm∧TT 1 ((∀e'∈fo,op≠e'.1)∧TT 8 (CC C9∧TT 1 ((∃(j:Nat) (e:Int×Value),fR[j]?=some e∧op=e.1∧(∀e'∈fR.take j,op≠e'.1)∧p6 (D.ofVal e.2) (.agg [(aY op),(.fn (.func (eo op)) [] []),(.fn (.func (er op)) [] [])]))∧TT 15 ((True∧(!decide ((ws.length:Int)=(bo op)))=false)∧TT 2 (CC (KD ws)∧TT 1 ((!(ws.all aq))=false∧TT 3 (GC (cW op ws xs k w)∧TT 1 ((lu op ws xs k w)=(lu op ws xs k w)∧(((sE (ri op ws xs k w) (True))∧(sE (rj op ws xs k w) (True))∧(sE (rk op ws xs k w) (True))∧True)∧((sE (lx op ws xs k w) (True))∧(sE (ly op ws xs k w) (True))∧True)∧((sE (lx op ws xs k w) (True))∧(sE (lz op ws xs k w) (True))∧True)∧((sE (ly op ws xs k w) (True))∧(sE (lz op ws xs k w) (True))∧(sE (rm op ws xs k w) (CC (iq (bi op ws k w))))∧True)∧((sE (iO op ws xs k w) (True))∧True)∧((sE (iO op ws xs k w) (True))∧(sE (lC op ws xs k w) (CC (iq (bi op ws k w))))∧True)∧((sE (iO op ws xs k w) (True))∧(sE (jU op ws xs k w) (CC (iq (bi op ws k w))))∧True)∧((sE (lC op ws xs k w) (True))∧(sE (jU op ws xs k w) (True))∧True)∧((sE (gL op ws xs k w) (CC (iq (bi op ws k w))))∧True)∧((sE (gL op ws xs k w) (True))∧(sE (pK op ws xs k w) (True))∧True)∧((sE (gL op ws xs k w) (True))∧True)∧((sE (jV op ws xs k w) (True))∧True)∧((sE (jV op ws xs k w) (True))∧True)∧((sE (pL op ws xs k w) (True))∧True)∧((sE (pM op ws xs k w) (True))∧True)∧True∧True)∧TT 3 (((bo op)=(bo op)∧((.fn (.func (eo op)) [] []):D)=(.fn (.func (eo op)) [] [])∧((.fn (.func (er op)) [] []):D)=(.fn (.func (er op)) [] [])∧True)∧(bi op ws k w)=(bi op ws k w)∧(aq (bi op ws k w))=(aq (bi op ws k w))∧True)))))))))))) (.s 1 (op=2∨op=3∨op=4∨op=5∨op=6∨op=7∨op=8∨op=9) (.w 1 [(0,zm.O),(2,.ent (.agg [(aY op),(.fn (.func (eo op)) [] []),(.fn (.func (er op)) [] [])]))]<|.w 4 [(10,.val (dB false)),(13,(KD ws).O)]<|.u 38 (.w 6 [(3,.callg none false (i6 (bi op ws k w)))]<|.y 7 [(3,(iq (bi op ws k w)).O)] [((bm 7 0),(mV op ws xs k w)),((bm 7 1),(tB op ws xs k w)),((bm 7 2),(tC op ws xs k w)),((bm 7 4),(tD op ws xs k w)),((bm 7 3),(mW op ws xs k w)),((bm 7 5),(mX op ws xs k w)),((bm 7 6),(mY op ws xs k w)),((bm 7 12),(tE op ws xs k w)),((bm 7 7),(jC op ws xs k w)),((bm 7 13),(mZ op ws xs k w)),((bm 7 14),(lq op ws xs k w)),((bm 7 15),(iM op ws xs k w)),((bm 7 29),(rc op ws xs k w)),((bm 7 31),(lr op ws xs k w)),((bm 7 63),(rf op ws xs k w)),((bm 7 127),(rh op ws xs k w))]<|.e)) (.w 1 [(0,zm.O),(2,.idx none)]<|.w 3 [(0,C9.O),(2,.ent (.agg [(aY op),(.fn (.func (eo op)) [] []),(.fn (.func (er op)) [] [])]))]<|.w 4 [(10,.val (dB false)),(13,(KD ws).O)]<|.u 38 (.w 6 [(3,.callg none false (i6 (bi op ws k w)))]<|.y 7 [(3,(iq (bi op ws k w)).O)] [((bm 7 0),(lu op ws xs k w)),((bm 7 1),(ri op ws xs k w)),((bm 7 2),(rj op ws xs k w)),((bm 7 4),(rk op ws xs k w)),((bm 7 3),(lx op ws xs k w)),((bm 7 5),(ly op ws xs k w)),((bm 7 6),(lz op ws xs k w)),((bm 7 12),(rm op ws xs k w)),((bm 7 7),(iO op ws xs k w)),((bm 7 13),(lC op ws xs k w)),((bm 7 14),(jU op ws xs k w)),((bm 7 15),(gL op ws xs k w)),((bm 7 29),(pK op ws xs k w)),((bm 7 31),(jV op ws xs k w)),((bm 7 63),(pL op ws xs k w)),((bm 7 127),(pM op ws xs k w))]<|.e))) Tryz.func117 rfl rfl rfl (by kernel_rfl) ?_
 refine tt ⟨fun T7=>?_,fun T7=>?_⟩
 · have hS:=T7
   exact⟨oA,tt ⟨(v3 hS),tt ⟨(nF h1),tt ⟨(jA ws hw),tt ⟨(ze h2),tt ⟨(LS op ws xs k w h),tt ⟨rfl,⟨⟨⟨⟨rfl,oK,oK⟩,⟨rfl,oK,oK⟩,⟨rfl,oK,oK⟩,oK⟩,⟨⟨rfl,oK,oK⟩,⟨rfl,oK,oK⟩,oK⟩,⟨⟨rfl,oK,oK⟩,⟨rfl,oK,oK⟩,oK⟩,⟨⟨rfl,oK,oK⟩,⟨rfl,oK,oK⟩,⟨rfl,(d6 (bi op ws k w)),oK⟩,oK⟩,⟨⟨rfl,oK,oK⟩,oK⟩,⟨⟨rfl,oK,oK⟩,⟨rfl,(d6 (bi op ws k w)),oK⟩,oK⟩,⟨⟨rfl,oK,oK⟩,⟨rfl,(d6 (bi op ws k w)),oK⟩,oK⟩,⟨⟨rfl,oK,oK⟩,⟨rfl,oK,oK⟩,oK⟩,⟨⟨rfl,(d6 (bi op ws k w)),oK⟩,oK⟩,⟨⟨rfl,oK,oK⟩,⟨rfl,oK,oK⟩,oK⟩,⟨⟨rfl,oK,oK⟩,oK⟩,⟨⟨rfl,oK,oK⟩,oK⟩,⟨⟨rfl,oK,oK⟩,oK⟩,⟨⟨rfl,oK,oK⟩,oK⟩,⟨⟨rfl,oK,oK⟩,oK⟩,oK,oK⟩,tt ⟨⟨rfl,rfl,rfl,oK⟩,rfl,rfl,oK⟩⟩⟩⟩⟩⟩⟩⟩⟩
 · have hS:=T7
   exact⟨oA,tt ⟨(v4 hS),tt ⟨sN,tt ⟨(v5 (by omega)),tt ⟨(nF h1),tt ⟨(jA ws hw),tt ⟨(ze h2),tt ⟨(LS op ws xs k w h),tt ⟨rfl,⟨⟨⟨⟨rfl,oK,oK⟩,⟨rfl,oK,oK⟩,⟨rfl,oK,oK⟩,oK⟩,⟨⟨rfl,oK,oK⟩,⟨rfl,oK,oK⟩,oK⟩,⟨⟨rfl,oK,oK⟩,⟨rfl,oK,oK⟩,oK⟩,⟨⟨rfl,oK,oK⟩,⟨rfl,oK,oK⟩,⟨rfl,(d6 (bi op ws k w)),oK⟩,oK⟩,⟨⟨rfl,oK,oK⟩,oK⟩,⟨⟨rfl,oK,oK⟩,⟨rfl,(d6 (bi op ws k w)),oK⟩,oK⟩,⟨⟨rfl,oK,oK⟩,⟨rfl,(d6 (bi op ws k w)),oK⟩,oK⟩,⟨⟨rfl,oK,oK⟩,⟨rfl,oK,oK⟩,oK⟩,⟨⟨rfl,(d6 (bi op ws k w)),oK⟩,oK⟩,⟨⟨rfl,oK,oK⟩,⟨rfl,oK,oK⟩,oK⟩,⟨⟨rfl,oK,oK⟩,oK⟩,⟨⟨rfl,oK,oK⟩,oK⟩,⟨⟨rfl,oK,oK⟩,oK⟩,⟨⟨rfl,oK,oK⟩,oK⟩,⟨⟨rfl,oK,oK⟩,oK⟩,oK,oK⟩,tt ⟨⟨rfl,rfl,rfl,oK⟩,rfl,rfl,oK⟩⟩⟩⟩⟩⟩⟩⟩⟩⟩⟩
abbrev Gs (op:Int) (ws xs:List Int) (k w:Int):Ct:=⟨117,[(i6 op),(.agg [(LI ws),(LI xs),(i6 k),(i6 w)])],true,(.tup [(.agg [(i6 0),(.v .nilf),(.v .nilf)]),(i6 0),(dB false)])⟩
theorem xU (op:Int) (ws xs:List Int) (k w:Int) (hw:ws.length≤9223372036854775807) (h:Bi op ws=false):CC (Gs op ws xs k w):=by
 refine ah.vc (V:=TT 4 (CS (op=2∨op=3∨op=4∨op=5∨op=6∨op=7∨op=8∨op=9) (CC zm∧TT 1 ((∃(j:Nat) (e:Int×Value),fo[j]?=some e∧op=e.1∧(∀e'∈fo.take j,op≠e'.1)∧p6 (D.ofVal e.2) (.agg [(aY op),(.fn (.func (eo op)) [] []),(.fn (.func (er op)) [] [])]))∧TT 8 (CS ((ws.length:Int)=(bo op)) (TT 10 ((True∧(!decide ((ws.length:Int)=(bo op)))=false)∧TT 2 (CC (KD ws)∧TT 1 ((!(ws.all aq))=true∧TT 7 (((0:Int)=0∧True∧True∧True)∧(0:Int)=0∧false=false∧True))))) (TT 10 ((True∧(!decide ((ws.length:Int)=(bo op)))=true)∧TT 11 (((0:Int)=0∧True∧True∧True)∧(0:Int)=0∧false=false∧True)))))) (CC zm∧TT 1 ((∀e'∈fo,op≠e'.1)∧TT 8 (CS (op=1∨op=10∨op=11∨op=12∨op=13) (CC C9∧TT 1 ((∃(j:Nat) (e:Int×Value),fR[j]?=some e∧op=e.1∧(∀e'∈fR.take j,op≠e'.1)∧p6 (D.ofVal e.2) (.agg [(aY op),(.fn (.func (eo op)) [] []),(.fn (.func (er op)) [] [])]))∧TT 5 (CS ((ws.length:Int)=(bo op)) (TT 10 ((True∧(!decide ((ws.length:Int)=(bo op)))=false)∧TT 2 (CC (KD ws)∧TT 1 ((!(ws.all aq))=true∧TT 7 (((0:Int)=0∧True∧True∧True)∧(0:Int)=0∧false=false∧True))))) (TT 10 ((True∧(!decide ((ws.length:Int)=(bo op)))=true)∧TT 11 (((0:Int)=0∧True∧True∧True)∧(0:Int)=0∧false=false∧True)))))) (CC C9∧TT 1 ((∀e'∈fR,op≠e'.1)∧TT 27 (((0:Int)=0∧True∧True∧True)∧(0:Int)=0∧false=false∧True)))))))) (.s 1 (op=2∨op=3∨op=4∨op=5∨op=6∨op=7∨op=8∨op=9) (.w 1 [(0,zm.O),(2,.ent (.agg [(aY op),(.fn (.func (eo op)) [] []),(.fn (.func (er op)) [] [])]))]<|.s 4 ((ws.length:Int)=(bo op)) (.w 4 [(10,.val (dB false)),(13,(KD ws).O)]<|.t 38 (.e)) (.w 4 [(10,.val (dB true))]<|.e)) (.w 1 [(0,zm.O),(2,.idx none)]<|.s 3 (op=1∨op=10∨op=11∨op=12∨op=13) (.w 3 [(0,C9.O),(2,.ent (.agg [(aY op),(.fn (.func (eo op)) [] []),(.fn (.func (er op)) [] [])]))]<|.s 4 ((ws.length:Int)=(bo op)) (.w 4 [(10,.val (dB false)),(13,(KD ws).O)]<|.t 38 (.e)) (.w 4 [(10,.val (dB true))]<|.e)) (.w 3 [(0,C9.O),(2,.idx none)]<|.e))) Tryz.func117 rfl rfl rfl (by kernel_rfl) ?_
 refine tt ⟨fun T7=>?_,fun T7=>?_⟩
 · have hS:=T7
   refine⟨oA,tt ⟨(v3 hS),tt ⟨fun Ur=>?_,fun Ur=>?_⟩⟩⟩
   · exact tt ⟨(nF Ur),tt ⟨(jA ws hw),tt ⟨(PQ (by rcases H3 h with h5 | ⟨_,h5⟩;exact absurd (by assumption) h5;rw[h5];simp)),tt ⟨⟨rfl,oK,oK,oK⟩,rfl,rfl,oK⟩⟩⟩⟩
   · exact tt ⟨(nT Ur),tt ⟨⟨rfl,oK,oK,oK⟩,rfl,rfl,oK⟩⟩
 · have hS:=T7
   refine⟨oA,tt ⟨(v4 hS),tt ⟨fun Vs=>?_,fun Vs=>?_⟩⟩⟩
   · have hO:=Vs
     refine⟨sN,tt ⟨(v5 hO),tt ⟨fun hs3=>?_,fun hs3=>?_⟩⟩⟩
     · exact tt ⟨(nF hs3),tt ⟨(jA ws hw),tt ⟨(PQ (by rcases H3 h with h5 | ⟨_,h5⟩;exact absurd (by assumption) h5;rw[h5];simp)),tt ⟨⟨rfl,oK,oK,oK⟩,rfl,rfl,oK⟩⟩⟩⟩
     · exact tt ⟨(nT hs3),tt ⟨⟨rfl,oK,oK,oK⟩,rfl,rfl,oK⟩⟩
   · have hO:=Vs
     exact⟨sN,tt ⟨(Da hO),tt ⟨⟨rfl,oK,oK,oK⟩,rfl,rfl,oK⟩⟩⟩
theorem qh {op:Int} {ws:List Int} {k w:Int} (h:Bi op ws=true) (h2:aq (bi op ws k w)=true):hC op ws k w=true:=by rw[C7,h,h2];rfl
theorem cE {op:Int} {ws:List Int} {k w:Int} (h:¬Bi op ws=true):hC op ws k w=false:=by rw[C7,Ty.2 h];rfl
theorem cF {op:Int} {ws:List Int} {k w:Int} (h2:¬aq (bi op ws k w)=true):hC op ws k w=false:=by rw[C7,Ty.2 h2,S7]
theorem mu {op:Int} {ws:List Int} {k w:Int} (h:hC op ws k w=false):0=b5 op ws k w∧1=jS op ws k w:=by unfold b5 jS;rw[h];exact⟨rfl,rfl⟩
theorem sO {op:Int} {ws:List Int} {k w:Int} (h:hC op ws k w=true):bi op ws k w=b5 op ws k w∧0=jS op ws k w:=by unfold b5 jS;rw[h];exact⟨rfl,rfl⟩
abbrev MS (op:Int) (ws:List Int) (k w:Int):Ct:=⟨105,[(i6 op),(LI ws),(.agg [(i6 k),(i6 w)])],false,(.tup [(i6 (b5 op ws k w)),(i6 (jS op ws k w))])⟩
theorem Ic (op:Int) (ws:List Int) (k w:Int) (hw:ws.length≤9223372036854775807):CC (MS op ws k w):=by
 refine ah.vc (V:=TT 3 (CS (Bi op ws=true) (TT 2 (((0≤(0:Int)∧0<(2:Int))∧True)∧TT 1 (((0≤(1:Int)∧1<(2:Int))∧True)∧TT 2 ((wS [] [(i6 op),(.agg [(LI ws),.nils,(i6 k),(i6 w)])] (Gr op ws [] k w).q'∧CC (Gr op ws [] k w))∧TT 10 (CB (!(aq (bi op ws k w))) (TT 4 (((0:Int)=(b5 op ws k w)∧(1:Int)=(jS op ws k w)∧True)∧(True∧True∧True))) (TT 5 (((bi op ws k w)=(b5 op ws k w)∧(0:Int)=(jS op ws k w)∧True)∧(True∧True∧True)))))))) (TT 2 (((0≤(0:Int)∧0<(2:Int))∧True)∧TT 1 (((0≤(1:Int)∧1<(2:Int))∧True)∧TT 2 ((wS [] [(i6 op),(.agg [(LI ws),.nils,(i6 k),(i6 w)])] (Gs op ws [] k w).q'∧CC (Gs op ws [] k w))∧TT 14 (((0:Int)=(b5 op ws k w)∧(1:Int)=(jS op ws k w)∧True)∧(True∧True∧True)))))))) (.s 1 (Bi op ws=true) (.w 1 [(7,(Gr op ws [] k w).O')]<|.b 24 (.e) (.e)) (.w 1 [(7,(Gs op ws [] k w).O')]<|.e)) Tryz.func105 rfl rfl rfl (by kernel_rfl) ?_
 refine tt ⟨fun T7=>?_,fun T7=>?_⟩
 · have hb:=T7
   refine tt ⟨⟨by omega,oK⟩,tt ⟨⟨by omega,oK⟩,tt ⟨⟨⟨rfl,⟨rfl,rfl,rfl,rfl,oK⟩,oK⟩,(xT op ws [] k w hw hb)⟩,tt ⟨fun Vz=>?_,fun Vz=>?_⟩⟩⟩⟩
   · refine tt ⟨⟨?_,?_,oK⟩,⟨oK,oK,oK⟩⟩
     all_goals (first | exact(mu (cE hb)).1 | exact(mu (cE hb)).2 | exact(mu (cF (by simpa using Vz))).1 | exact(mu (cF (by simpa using Vz))).2 | exact(sO (qh hb (by simpa using Vz))).1 | exact(sO (qh hb (by simpa using Vz))).2)
   · refine tt ⟨⟨?_,?_,oK⟩,⟨oK,oK,oK⟩⟩
     all_goals (first | exact(mu (cE hb)).1 | exact(mu (cE hb)).2 | exact(mu (cF (by simpa using Vz))).1 | exact(mu (cF (by simpa using Vz))).2 | exact(sO (qh hb (by simpa using Vz))).1 | exact(sO (qh hb (by simpa using Vz))).2)
 · have hb:=T7
   refine tt ⟨⟨by omega,oK⟩,tt ⟨⟨by omega,oK⟩,tt ⟨⟨⟨rfl,⟨rfl,rfl,rfl,rfl,oK⟩,oK⟩,(xU op ws [] k w hw (Ty.2 hb))⟩,tt ⟨⟨?_,?_,oK⟩,⟨oK,oK,oK⟩⟩⟩⟩⟩
   all_goals (first | exact(mu (cE hb)).1 | exact(mu (cE hb)).2 | exact(mu (cF (by simpa using Vz))).1 | exact(mu (cF (by simpa using Vz))).2 | exact(sO (qh hb (by simpa using Vz))).1 | exact(sO (qh hb (by simpa using Vz))).2)
abbrev MT (op:Int) (ws xs L':List Int):Ct:=⟨104,[(i6 op),(LI ws),(LI xs),(LI L')],false,(.tup [(i6 (cI op ws xs L')),(i6 (ip op ws xs L'))])⟩
abbrev rn (op:Int) (ws:List Int) (xs:List Int) (L':List Int):Lp (Nat):=io [1,10,11,44,45,46] 11 (fun (i:Nat)=>⟨[(1,(LI ws)),(10,(.ptr 9 0 0 0)),(11,(.ptr 10 0 0 0)),(44,(LI xs)),(45,(i6 (xs.length:Int))),(46,(i6 (i:Int)))],[.dead,.dead,.dead,.dead,.dead,.dead,.dead,.dead,.dead,(.var 213 [(LI ws),(LI xs),(i6 (L'.getD 0 0)),(i6 (L'.getD 1 0))]),(.var 216 [(aY op),(.fn (.func (eo op)) [] []),(.fn (.func (er op)) [] [])])]⟩) (fun (i:Nat)=>i≤xs.length∧∀j,j<i→0≤xs.getD j 0∧xs.getD j 0≤af (ws.getD j 0)) (fun (i:Nat)=>xs.length-i)
theorem Ie (op:Int) (ws xs L':List Int) (ZE:ws.length≤9223372036854775807) (hxl0:xs.length≤9223372036854775807):CC (MT op ws xs L'):=by
 refine ah.vc (V:=TT 2 (CS ((L'.length:Int)=2) (TT 3 ((True∧(!decide ((L'.length:Int)=2))=false)∧TT 6 (CN ((xs.length:Int)=(ws.length:Int)) (TT 4 (((0:Int)=(cI op ws xs L')∧(1:Int)=(ip op ws xs L')∧True)∧(True∧True∧True))) (TT 3 (IX 0 L'.length∧TT 2 (IX 1 L'.length∧TT 4 (CS (Bi op ws=true) (TT 2 (CC (Gr op ws xs (L'.getD 0 0) (L'.getD 1 0))∧TT 10 (CB (!(aq (bi op ws (L'.getD 0 0) (L'.getD 1 0)))) (TT 4 (((0:Int)=(cI op ws xs L')∧(1:Int)=(ip op ws xs L')∧True)∧(True∧True∧True))) (TT 3 (GO (rn op ws xs L') 0 (∀i,(rn op ws xs L').inv i→TT 1 (CD ((i:Int)<(xs.length:Int)) (TT 1 (IX (i:Int) xs.length∧TT 3 (CS ((xs.getD i 0)<0) (TT 2 ((True∧(decide ((xs.getD i 0)<0))=true)∧TT 12 (((0:Int)=(cI op ws xs L')∧(1:Int)=(ip op ws xs L')∧True)∧(True∧True∧True)))) (TT 2 ((True∧(decide ((xs.getD i 0)<0))=false)∧TT 3 (IX (i:Int) ws.length∧TT 1 (CC (zk (ws.getD i 0))∧TT 2 (CD ((xs.getD i 0)>(af (ws.getD i 0))) (TT 4 (((0:Int)=(cI op ws xs L')∧(1:Int)=(ip op ws xs L')∧True)∧(True∧True∧True))) (W6 ((i+1:Nat):Int)∧TT 1 (AG (rn op ws xs L') i (i+1))))))))))) (TT 3 (GC (cV op ws xs (L'.getD 0 0) (L'.getD 1 0))∧TT 4 (((je op ws xs (L'.getD 0 0) (L'.getD 1 0))=(cI op ws xs L')∧(0:Int)=(ip op ws xs L')∧True)∧(True∧True∧True))))))))))) (TT 2 (CC (Gs op ws xs (L'.getD 0 0) (L'.getD 1 0))∧TT 14 (((0:Int)=(cI op ws xs L')∧(1:Int)=(ip op ws xs L')∧True)∧(True∧True∧True))))))))))) (TT 3 ((True∧(!decide ((L'.length:Int)=2))=true)∧TT 10 (((0:Int)=(cI op ws xs L')∧(1:Int)=(ip op ws xs L')∧True)∧(True∧True∧True)))))) (.s 1 ((L'.length:Int)=2) (.w 1 [(3,.val (dB false))]<|.b 25 (.e) (.s 4 (Bi op ws=true) (.w 4 [(2,(Gr op ws xs (L'.getD 0 0) (L'.getD 1 0)).O)]<|.b 43 (.e) (.l (rn op ws xs L') 0 (fun i=>.b 47 (.s 10 ((xs.getD i 0)<0) (.w 10 [(2,.val (dB true))]<|.e) (.w 10 [(2,.val (dB false)),(8,(zk (ws.getD i 0)).O)]<|.b 61 (.e) (.w 12 [(0,.val (i6 ((i+1:Nat):Int)))]<|.e))) (.w 13 [(3,.callg none false (i6 (je op ws xs (L'.getD 0 0) (L'.getD 1 0))))]<|.e)))) (.w 4 [(2,(Gs op ws xs (L'.getD 0 0) (L'.getD 1 0)).O)]<|.e))) (.w 1 [(3,.val (dB true))]<|.e)) Tryz.func104 rfl rfl rfl (by kernel_rfl) ?_
 refine tt ⟨fun T7=>?_,fun T7=>?_⟩
 · refine tt ⟨(nF T7),tt (cn (fun Uv=>?_) (fun Uv=>?_))⟩
   · refine tt ⟨⟨?_,?_,oK⟩,⟨oK,oK,oK⟩⟩
     all_goals (first | exact(aX (qZ (by omega))).1.symm | exact(aX (qZ (by omega))).2.symm | exact(aX (ra (by omega))).1.symm | exact(aX (ra (by omega))).2.symm | exact(aX (co (cE hb))).1.symm | exact(aX (co (cE hb))).2.symm | exact(aX (co (cF (by simpa using UD)))).1.symm | exact(aX (co (cF (by simpa using UD)))).2.symm | exact(aX (jz (i:=i) (by omega) (by omega))).1.symm | exact(aX (jz (i:=i) (by omega) (by omega))).2.symm | exact(dT VJ V8 Vj hin).1.symm | exact(dT VJ V8 Vj hin).2.symm)
   · refine tt ⟨ix,tt ⟨ix,tt ⟨fun Ur=>?_,fun Ur=>?_⟩⟩⟩
     · have hb:=Ur
       refine tt ⟨(xT op ws xs (L'.getD 0 0) (L'.getD 1 0) ZE hb),tt ⟨fun UD=>?_,fun UD=>?_⟩⟩
       · refine tt ⟨⟨?_,?_,oK⟩,⟨oK,oK,oK⟩⟩
         all_goals (first | exact(aX (qZ (by omega))).1.symm | exact(aX (qZ (by omega))).2.symm | exact(aX (ra (by omega))).1.symm | exact(aX (ra (by omega))).2.symm | exact(aX (co (cE hb))).1.symm | exact(aX (co (cE hb))).2.symm | exact(aX (co (cF (by simpa using UD)))).1.symm | exact(aX (co (cF (by simpa using UD)))).2.symm | exact(aX (jz (i:=i) (by omega) (by omega))).1.symm | exact(aX (jz (i:=i) (by omega) (by omega))).2.symm | exact(dT VJ V8 Vj hin).1.symm | exact(dT VJ V8 Vj hin).2.symm)
       · refine tt ?_
         have Vj:=qh hb (by simpa using UD)
         have VJ:L'.length=2:=by omega
         have V8:xs.length=ws.length:=by omega
         refine⟨rfl,⟨by omega,fun j hj=>by omega⟩,?_⟩
         intro i I'
         obtain⟨hi,hall⟩:=I'
         refine tt (cd (fun hc47=>?_) (fun hc47=>?_))
         · refine tt ⟨ix,tt ⟨fun Vs=>?_,fun Vs=>?_⟩⟩
           · refine tt ⟨(vT Vs),tt ⟨⟨?_,?_,oK⟩,⟨oK,oK,oK⟩⟩⟩
             all_goals (first | exact(aX (qZ (by omega))).1.symm | exact(aX (qZ (by omega))).2.symm | exact(aX (ra (by omega))).1.symm | exact(aX (ra (by omega))).2.symm | exact(aX (co (cE hb))).1.symm | exact(aX (co (cE hb))).2.symm | exact(aX (co (cF (by simpa using UD)))).1.symm | exact(aX (co (cF (by simpa using UD)))).2.symm | exact(aX (jz (i:=i) (by omega) (by omega))).1.symm | exact(aX (jz (i:=i) (by omega) (by omega))).2.symm | exact(dT VJ V8 Vj hin).1.symm | exact(dT VJ V8 Vj hin).2.symm)
           · refine tt ⟨(vF Vs),tt ⟨ix,tt ⟨(uD (ws.getD i 0)),tt (cd (fun Wb=>?_) (fun Wb=>?_))⟩⟩⟩
             · refine tt ⟨⟨?_,?_,oK⟩,⟨oK,oK,oK⟩⟩
               all_goals (first | exact(aX (qZ (by omega))).1.symm | exact(aX (qZ (by omega))).2.symm | exact(aX (ra (by omega))).1.symm | exact(aX (ra (by omega))).2.symm | exact(aX (co (cE hb))).1.symm | exact(aX (co (cE hb))).2.symm | exact(aX (co (cF (by simpa using UD)))).1.symm | exact(aX (co (cF (by simpa using UD)))).2.symm | exact(aX (jz (i:=i) (by omega) (by omega))).1.symm | exact(aX (jz (i:=i) (by omega) (by omega))).2.symm | exact(dT VJ V8 Vj hin).1.symm | exact(dT VJ V8 Vj hin).2.symm)
             · refine⟨w6,tt ⟨(i+1),rfl,?_,(?_:xs.length-(i+1)<xs.length-i)⟩⟩
               · exact⟨by omega,di hall ⟨by omega,by omega⟩⟩
               · omega
         · have hin:Bg ws xs=true:=H2 (fun j hj=>hall j (by omega))
           refine tt ⟨(OJ op ws xs _ _ Vj V8 hin),tt ⟨⟨?_,?_,oK⟩,⟨oK,oK,oK⟩⟩⟩
           all_goals (first | exact(aX (qZ (by omega))).1.symm | exact(aX (qZ (by omega))).2.symm | exact(aX (ra (by omega))).1.symm | exact(aX (ra (by omega))).2.symm | exact(aX (co (cE hb))).1.symm | exact(aX (co (cE hb))).2.symm | exact(aX (co (cF (by simpa using UD)))).1.symm | exact(aX (co (cF (by simpa using UD)))).2.symm | exact(aX (jz (i:=i) (by omega) (by omega))).1.symm | exact(aX (jz (i:=i) (by omega) (by omega))).2.symm | exact(dT VJ V8 Vj hin).1.symm | exact(dT VJ V8 Vj hin).2.symm)
     · have hb:=Ur
       refine tt ⟨(xU op ws xs (L'.getD 0 0) (L'.getD 1 0) ZE (Ty.2 hb)),tt ⟨⟨?_,?_,oK⟩,⟨oK,oK,oK⟩⟩⟩
       all_goals (first | exact(aX (qZ (by omega))).1.symm | exact(aX (qZ (by omega))).2.symm | exact(aX (ra (by omega))).1.symm | exact(aX (ra (by omega))).2.symm | exact(aX (co (cE hb))).1.symm | exact(aX (co (cE hb))).2.symm | exact(aX (co (cF (by simpa using UD)))).1.symm | exact(aX (co (cF (by simpa using UD)))).2.symm | exact(aX (jz (i:=i) (by omega) (by omega))).1.symm | exact(aX (jz (i:=i) (by omega) (by omega))).2.symm | exact(dT VJ V8 Vj hin).1.symm | exact(dT VJ V8 Vj hin).2.symm)
 · refine tt ⟨(nT T7),tt ⟨⟨?_,?_,oK⟩,⟨oK,oK,oK⟩⟩⟩
   all_goals (first | exact(aX (qZ (by omega))).1.symm | exact(aX (qZ (by omega))).2.symm | exact(aX (ra (by omega))).1.symm | exact(aX (ra (by omega))).2.symm | exact(aX (co (cE hb))).1.symm | exact(aX (co (cE hb))).2.symm | exact(aX (co (cF (by simpa using UD)))).1.symm | exact(aX (co (cF (by simpa using UD)))).2.symm | exact(aX (jz (i:=i) (by omega) (by omega))).1.symm | exact(aX (jz (i:=i) (by omega) (by omega))).2.symm | exact(dT VJ V8 Vj hin).1.symm | exact(dT VJ V8 Vj hin).2.symm)
abbrev KI (p:Pr) (s:Ps) (data:List Int) (n:Nat) (e:Ex):Ct:=⟨80,[(.agg [(dS p.name),(dS p.clock),(dL 13 gM bH p.Ry),(dL 27 m3 aP p.Rx),(dL 9 ir aF p.I),(dL 16 gd aB p.Rv),(LI s.Ry),(dL 1 aa [] s.Rx),(LI data)]),(.agg [(i6 e.op),(dS e.name),(i6 e.k.n),(dS e.k.p),(i6 e.w.n),(dS e.w.p),(dL 7 (eA n) dE e.args)])],false,(.tup [(i6 ((a8 p s data e).1)),(i6 ((a8 p s data e).2))])⟩
abbrev zp (p:Pr) (s:Ps) (data:List Int) (n:Nat) (e:Ex):Lp (Nat):=io [2,3,6,9,10,90,91,92] 4 (fun (i:Nat)=>⟨[(2,(.ptr 0 0 0 0)),(3,(.ptr 1 0 0 0)),(6,(i6 e.k.n)),(9,(.own 2)),(10,(.own 3)),(90,(dL 7 (eA (n+1)) dE e.args)),(91,(i6 (e.args.length:Int))),(92,(i6 (i:Int)))],[(.var 174 [(dS p.name),(dS p.clock),(dL 13 gM bH p.Ry),(dL 27 m3 aP p.Rx),(dL 9 ir aF p.I),(dL 16 gd aB p.Rv),(LI s.Ry),(dL 1 aa [] s.Rx),(LI data)]),(.var 111 [(i6 e.op),(dS e.name),(i6 e.k.n),(dS e.k.p),(i6 e.w.n),(dS e.w.p),(dL 7 (eA (n+1)) dE e.args)]),(.arr 3 1 (ab .i64) 0 (eZ p s data (e.args.take i))),(.arr 3 1 (ab .i64) 0 (dj p s data (e.args.take i)))]⟩) (fun (i:Nat)=>i≤e.args.length) (fun (i:Nat)=>e.args.length-i)
theorem Il (p:Pr) (s:Ps) (data:List Int) (n:Nat) (e:Ex) (c:Sc) (v:Int) (ho:sP c p s data) (ht:fc c e=some v) (ih:∀a∈e.args,CC (KI p s data n a)):CC (KI p s data (n+1) e):=by
 have UL:=Ij ht
 refine ah.vc (V:=TT 12 (CD (e.op=16) (TT 4 (IX e.k.n s.Ry.length∧TT 5 (IX e.k.n p.Ry.length∧TT 6 (((s.Ry.getD e.k.n.toNat 0)=((a8 p s data e).1)∧((p.Ry.getD e.k.n.toNat bH).w)=((a8 p s data e).2)∧True)∧(True∧True∧True))))) (TT 2 (CD (e.op=18) (TT 3 (IX e.k.n data.length∧TT 5 (IX e.k.n p.I.length∧TT 6 (((data.getD e.k.n.toNat 0)=((a8 p s data e).1)∧((p.I.getD e.k.n.toNat aF).w)=((a8 p s data e).2)∧True)∧(True∧True∧True))))) (TT 2 (CD (e.op=17) (TT 3 (IX 0 e.args.length∧TT 1 (CC (KI p s data n (e.args.getD 0 dE))∧TT 9 (IX e.k.n s.Rx.length∧TT 6 (IX e.k.n s.Rx.length∧TT 2 ((((s.Rx.getD e.k.n.toNat []).length:Nat):Int)≠0∧IX (Int.tmod ((a8 p s data (e.args.getD 0 dE)).1) (((s.Rx.getD e.k.n.toNat []).length:Nat):Int)) ((s.Rx.getD e.k.n.toNat []).length)∧TT 5 (IX e.k.n p.Rx.length∧TT 6 ((((s.Rx.getD e.k.n.toNat []).getD ((Int.tmod ((a8 p s data (e.args.getD 0 dE)).1) (((s.Rx.getD e.k.n.toNat []).length:Nat):Int)).toNat) 0)=((a8 p s data e).1)∧((p.Rx.getD e.k.n.toNat aP).w)=((a8 p s data e).2)∧True)∧(True∧True∧True))))))))) (TT 6 (GO (zp p s data n e) 0 (∀i,(zp p s data n e).inv i→TT 1 (CD ((i:Int)<(e.args.length:Int)) (IX (i:Int) e.args.length∧TT 5 (CC (KI p s data n (e.args.getD i dE))∧TT 7 (ai [[(i6 ((a8 p s data (e.args.getD i dE)).1))]] ([(a8 p s data (e.args.getD i dE)).1].map (ab .i64))∧((eZ p s data (e.args.take i)).length+([(a8 p s data (e.args.getD i dE)).1].map (ab .i64)).length≤137438953472∧(eZ p s data (e.args.take i)).map (ab .i64)++[(a8 p s data (e.args.getD i dE)).1].map (ab .i64)=(eZ p s data (e.args.take (i+1))).map (ab .i64))∧TT 2 (ai [[(i6 ((a8 p s data (e.args.getD i dE)).2))]] ([(a8 p s data (e.args.getD i dE)).2].map (ab .i64))∧((dj p s data (e.args.take i)).length+([(a8 p s data (e.args.getD i dE)).2].map (ab .i64)).length≤137438953472∧(dj p s data (e.args.take i)).map (ab .i64)++[(a8 p s data (e.args.getD i dE)).2].map (ab .i64)=(dj p s data (e.args.take (i+1))).map (ab .i64))∧TT 2 (W6 ((i+1:Nat):Int)∧TT 1 (AG (zp p s data n e) i (i+1))))))) (TT 11 ((0≤(0:Int)∧(0:Int)≤(2:Int)∧(2:Int)≤(2:Int))∧CK (MT e.op (dj p s data (e.args.take i)) (eZ p s data (e.args.take i)) [e.k.n,e.w.n])∧TT 9 (CK (MS e.op (dj p s data (e.args.take i)) e.k.n e.w.n)∧TT 11 (((cI e.op (dj p s data (e.args.take i)) (eZ p s data (e.args.take i)) [e.k.n,e.w.n])=((a8 p s data e).1)∧(b5 e.op (dj p s data (e.args.take i)) e.k.n e.w.n)=((a8 p s data e).2)∧True)∧(True∧True∧True))))))))))))))) (.b 25 (.e) (.b 40 (.e) (.b 54 (.w 8 [(5,(KI p s data n (e.args.getD 0 dE)).O)]<|.e) (.gs 11 9 3 1 (ab .i64) 0<|.gs 11 10 3 1 (ab .i64) 0<|.l (zp p s data n e) 0 (fun i=>.b 93 (.w 14 [(2,(KI p s data n (e.args.getD i dE)).O)]<|.w 15 [(2,.box 3 1 (ab .i64) 0 [(a8 p s data (e.args.getD i dE)).1]),(3,.box 3 1 (ab .i64) 0 (eZ p s data (e.args.take (i+1)))),(6,.box 3 1 (ab .i64) 0 [(a8 p s data (e.args.getD i dE)).2]),(7,.box 3 1 (ab .i64) 0 (dj p s data (e.args.take (i+1))))]<|.w 16 [(0,.val (i6 ((i+1:Nat):Int)))]<|.e) (.f 18 4<|.w 18 [(5,(MT e.op (dj p s data (e.args.take i)) (eZ p s data (e.args.take i)) [e.k.n,e.w.n]).O')]<|.w 19 [(4,(MS e.op (dj p s data (e.args.take i)) e.k.n e.w.n).O')]<|.e)))))) Tryz.func80 rfl rfl rfl (by kernel_rfl) ?_
 refine tt (cd (fun Uv=>?_) (fun Uv=>?_))
 · obtain⟨h1,h2,h3⟩:=Ik ho ht Uv
   refine tt ⟨ix,tt ⟨ix,tt ⟨⟨?_,?_,oK⟩,⟨oK,oK,oK⟩⟩⟩⟩
   all_goals (first | exact(eY Uv).1.symm | exact(eY Uv).2.symm | exact(dG Vr).1.symm | exact(dG Vr).2.symm | exact(dH U4 Ud).1.symm | exact(dH U4 Ud).2.symm | (rw[Vp,Sv];exact(iE Uv Vr U4).1.symm) | (rw[Vp,Sv];exact(iE Uv Vr U4).2.symm))
 · refine tt (cd (fun Vr=>?_) (fun Vr=>?_))
   · obtain⟨h1,h2,h3⟩:=EM ho ht Vr
     refine tt ⟨ix,tt ⟨ix,tt ⟨⟨?_,?_,oK⟩,⟨oK,oK,oK⟩⟩⟩⟩
     all_goals (first | exact(eY Uv).1.symm | exact(eY Uv).2.symm | exact(dG Vr).1.symm | exact(dG Vr).2.symm | exact(dH U4 Ud).1.symm | exact(dH U4 Ud).2.symm | (rw[Vp,Sv];exact(iE Uv Vr U4).1.symm) | (rw[Vp,Sv];exact(iE Uv Vr U4).2.symm))
   · refine tt (cd (fun U4=>?_) (fun U4=>?_))
     · obtain⟨h1,h2,h3,Ud,h4,h5,h6⟩:=EN ho ht U4
       refine tt ⟨ix,tt ⟨(ih _ (iZ (by omega))),tt ⟨ix,tt ⟨ix,tt ⟨om,⟨ix,tt ⟨ix,tt ⟨⟨?_,?_,oK⟩,⟨oK,oK,oK⟩⟩⟩⟩⟩⟩⟩⟩⟩
       all_goals (first | exact(eY Uv).1.symm | exact(eY Uv).2.symm | exact(dG Vr).1.symm | exact(dG Vr).2.symm | exact(dH U4 Ud).1.symm | exact(dH U4 Ud).2.symm | (rw[Vp,Sv];exact(iE Uv Vr U4).1.symm) | (rw[Vp,Sv];exact(iE Uv Vr U4).2.symm))
     · refine tt ⟨rfl,(by omega),?_⟩
       intro i I'
       have hi:=I'
       refine tt (cd (fun WU=>?_) (fun WU=>?_))
       · refine⟨ix,tt ⟨(ih _ (iZ (by omega))),tt ⟨⟨⟨rfl,oK⟩,oK⟩,⟨⟨by first | (simp[eZ];done) | (simp[eZ];omega),by rw[xW (by omega),RO]⟩,tt ⟨⟨⟨rfl,oK⟩,oK⟩,⟨⟨by first | (simp[dj];done) | (simp[dj];omega),by rw[xX (by omega),RO]⟩,tt ⟨w6,tt ⟨(i+1),rfl,(?_:(i+1)≤e.args.length),(?_:e.args.length-(i+1)<e.args.length-i)⟩⟩⟩⟩⟩⟩⟩⟩
         · omega
         · omega
       · have Vp:i=e.args.length:=by omega
         refine tt ⟨om,⟨⟨dR _ rfl,(Ie e.op (dj p s data (e.args.take i)) (eZ p s data (e.args.take i)) [e.k.n,e.w.n] (by rw[rq,RZ];omega) (by rw[v6,RZ];omega))⟩,tt ⟨⟨dR _ rfl,(Ic e.op (dj p s data (e.args.take i)) e.k.n e.w.n (by rw[rq,RZ];omega))⟩,tt ⟨⟨?_,?_,oK⟩,⟨oK,oK,oK⟩⟩⟩⟩⟩
         all_goals (first | exact(eY Uv).1.symm | exact(eY Uv).2.symm | exact(dG Vr).1.symm | exact(dG Vr).2.symm | exact(dH U4 Ud).1.symm | exact(dH U4 Ud).2.symm | (rw[Vp,Sv];exact(iE Uv Vr U4).1.symm) | (rw[Vp,Sv];exact(iE Uv Vr U4).2.symm))
theorem EO {c:Sc} {p:Pr} {s:Ps} {data:List Int} (ho:sP c p s data):∀(n:Nat) (e:Ex) (v:Int),fc c e=some v→fI e≤n+1→CC (KI p s data n e)
  | 0,e,v,ht,hd=>by
    have ha:e.args=[]:=by
      cases hl:e.args with
      | nil=>rfl
      | cons a r =>
        have:=uF (e:=e) (a:=a) (by rw[hl];simp)
        cases a with | mk op name k w args=>rw[fI]at this;omega
    have h:=Il p s data 0 e c v ho ht (fun a h=>by rw[ha]at h;cases h)
    refine ah.recast ?_ h
    refine⟨vW _ rfl,⟨rfl,rfl,rfl,rfl,rfl,rfl,?_,oK⟩,oK⟩
    show e.args.map (eA 0)=e.args.map (eA 1)
    rw[ha];rfl
  | n+1,e,v,ht,hd=>Il p s data n e c v ho ht (fun a h=>by
    obtain⟨w,hw⟩:=Ii ht h
    exact EO ho n a w hw (by have:=uF h;omega))
abbrev pO (s:Ps):D:=(dL 1 aa [] s.Rx)
abbrev rA (p:Pr) (s:Ps):ap:=(.var 174 [(dS p.name),(dS p.clock),(dL 13 gM bH p.Ry),(dL 27 m3 aP p.Rx),(dL 9 ir aF p.I),(dL 16 gd aB p.Rv),(LI s.Ry),(pO s),(.own 8)])
abbrev tG:D:=(.fn (.func 79) [] [(.ptr 10 0 0 0)])
abbrev LV (p:Pr) (s:Ps):D:=(.agg [(dS p.name),(dS p.clock),(dL 13 gM bH p.Ry),(dL 27 m3 aP p.Rx),(dL 9 ir aF p.I),(dL 16 gd aB p.Rv),(LI s.Ry),(pO s),(.own 8)])
abbrev E4 (p:Pr) (s:Ps):List (Nat×D):=[(127,tG),(126,(LV p s)),(8,(.ptr 2 0 0 0)),(9,(.ptr 10 0 0 0)),(10,tG),(11,(.ptr 21 0 0 0))]
abbrev tH (p:Pr):ap:=(.var 63 [(dS p.name),(dS p.clock),(dL 13 gM bH p.Ry),(dL 27 m3 aP p.Rx),(dL 9 ir aF p.I),(dL 16 gd aB p.Rv)])
abbrev x4:ap:=(.var 101 [(dB false),.nils,.nils,.nils,.nils])
abbrev LW (p:Pr):D:=(.agg [(dS p.name),(dS p.clock),(dL 13 gM bH p.Ry),(dL 27 m3 aP p.Rx),(dL 9 ir aF p.I),(dL 16 gd aB p.Rv)])
abbrev x5 (s:Ps):ap:=(.var 56 [(LI s.Ry),(pO s)])
set_option maxRecDepth 100000
abbrev OL (p:Pr):Ct:=⟨21,[(LW p)],true,(.agg [(LI ((aC p).Ry)),(dL 1 aa [] ((aC p).Rx))])⟩
abbrev oD (p:Pr):Lp (Nat):=io [1,2,3,9,10,11] 4 (fun (i:Nat)=>⟨[(1,(.ptr 0 0 0 0)),(2,(.ptr 1 0 0 0)),(3,(.ptr 2 0 0 0)),(9,(dL 13 gM bH p.Ry)),(10,(i6 (p.Ry.length:Int))),(11,(i6 (i:Int)))],[(tH p),(.var 56 [.nils,.nils]),(.var 56 [(.own 3),.nils]),(.arr 3 1 (ab .i64) 0 (tab (fun z=>(p.Ry.getD z bH).init) i))]⟩) (fun (i:Nat)=>i≤p.Ry.length) (fun (i:Nat)=>p.Ry.length-i)
abbrev oE (p:Pr) (i:Nat):Lp (Nat):=io [2,3,24,25,26] 5 (fun (j:Nat)=>⟨[(2,(.ptr 1 0 0 0)),(3,(.ptr 2 0 0 0)),(24,(dL 27 m3 aP p.Rx)),(25,(i6 (p.Rx.length:Int))),(26,(i6 (j:Int)))],[(tH p),(.var 56 [.nils,.nils]),(.var 56 [(.own 3),(.own 4)]),(.arr 3 1 (ab .i64) 0 (tab (fun z=>(p.Ry.getD z bH).init) i)),(.arr 42 1 aa [] (tab (fun z=>List.replicate (p.Rx.getD z aP).words.toNat (0:Int)) j))]⟩) (fun (j:Nat)=>j≤p.Rx.length) (fun (j:Nat)=>p.Rx.length-j)
theorem x6 (p:Pr) (hp:fk p):CC (OL p):=by
 have Wp:=hp.rl
 have VJ:=hp.ml
 refine ah.vc (V:=TT 7 (GO (oD p) 0 (∀i,(oD p).inv i→TT 1 (CD ((i:Int)<(p.Ry.length:Int)) (IX (i:Int) p.Ry.length∧TT 7 (ai [[(i6 ((p.Ry.getD i bH).init))]] ([(p.Ry.getD i bH).init].map (ab .i64))∧((tab (fun z=>(p.Ry.getD z bH).init) i).length+([(p.Ry.getD i bH).init].map (ab .i64)).length≤137438953472∧(tab (fun z=>(p.Ry.getD z bH).init) i).map (ab .i64)++[(p.Ry.getD i bH).init].map (ab .i64)=(tab (fun z=>(p.Ry.getD z bH).init) (i+1)).map (ab .i64))∧TT 2 (W6 ((i+1:Nat):Int)∧TT 1 (AG (oD p) i (i+1))))) (TT 4 (GO (oE p i) 0 (∀j,(oE p i).inv j→TT 1 (CD ((j:Int)<(p.Rx.length:Int)) (IX (j:Int) p.Rx.length∧TT 7 ((((0:Int)≤(p.Rx.getD j aP).words∧(p.Rx.getD j aP).words≤(p.Rx.getD j aP).words∧(p.Rx.getD j aP).words≤137438953472)∧(List.replicate (p.Rx.getD j aP).words.toNat (0:Int)).length=((p.Rx.getD j aP).words).toNat∧∀x∈(List.replicate (p.Rx.getD j aP).words.toNat (0:Int)),cg [(i6 0)] ((ab .i64) x))∧ai [[(LI (List.replicate (p.Rx.getD j aP).words.toNat (0:Int)))]] ([List.replicate (p.Rx.getD j aP).words.toNat (0:Int)].map aa)∧((tab (fun z=>List.replicate (p.Rx.getD z aP).words.toNat (0:Int)) j).length+([List.replicate (p.Rx.getD j aP).words.toNat (0:Int)].map aa).length≤137438953472∧(tab (fun z=>List.replicate (p.Rx.getD z aP).words.toNat (0:Int)) j).map aa++[List.replicate (p.Rx.getD j aP).words.toNat (0:Int)].map aa=(tab (fun z=>List.replicate (p.Rx.getD z aP).words.toNat (0:Int)) (j+1)).map aa)∧TT 2 (W6 ((j+1:Nat):Int)∧TT 1 (AG (oE p i) j (j+1))))) (TT 3 ((tab (fun z=>(p.Ry.getD z bH).init) i).map (ab .i64)=((aC p).Ry).map (ab .i64)∧(tab (fun z=>List.replicate (p.Rx.getD z aP).words.toNat (0:Int)) j).map aa=((aC p).Rx).map aa∧True)))))))))) (.g 2 2 0 3 1 (ab .i64) 0<|.l (oD p) 0 (fun i=>.b 12 (.w 5 [(4,.box 3 1 (ab .i64) 0 [(p.Ry.getD i bH).init]),(5,.box 3 1 (ab .i64) 0 (tab (fun z=>(p.Ry.getD z bH).init) (i+1)))]<|.w 6 [(0,.val (i6 ((i+1:Nat):Int)))]<|.e) (.g 7 2 1 42 1 aa []<|.l (oE p i) 0 (fun j=>.b 27 (.w 10 [(4,.frz 3 1 (ab .i64) 0 (List.replicate (p.Rx.getD j aP).words.toNat (0:Int))),(5,.box 42 1 aa [] [List.replicate (p.Rx.getD j aP).words.toNat (0:Int)]),(6,.box 42 1 aa [] (tab (fun z=>List.replicate (p.Rx.getD z aP).words.toNat (0:Int)) (j+1)))]<|.w 11 [(0,.val (i6 ((j+1:Nat):Int)))]<|.e) (.e))))) Tryz.func21 rfl rfl rfl (by kernel_rfl) ?_
 refine tt ⟨rfl,(by omega),?_⟩
 intro i I'
 have hi:=I'
 refine tt (cd (fun VQ=>?_) (fun VQ=>?_))
 · refine⟨ix,tt ⟨⟨⟨rfl,oK⟩,oK⟩,⟨(fV (f:=fun z=>(p.Ry.getD z bH).init) (by omega)),tt ⟨w6,tt ⟨(i+1),rfl,(?_:(i+1)≤p.Ry.length),(?_:p.Ry.length-(i+1)<p.Ry.length-i)⟩⟩⟩⟩⟩
   · omega
   · omega
 · refine tt ⟨rfl,(by omega),?_⟩
   intro j I'
   have hj:=I'
   refine tt (cd (fun hc27=>?_) (fun hc27=>?_))
   · refine⟨ix,?_⟩
     have Ww:1≤(p.Rx.getD j aP).words∧(p.Rx.getD j aP).words≤4:=(hp.mw j (by omega)).2.1
     refine tt ⟨⟨by omega,RC,fun x hx=>by rw[RS hx];exact⟨rfl,oK⟩⟩,⟨⟨⟨rfl,oK⟩,oK⟩,⟨(fV (f:=fun z=>List.replicate (p.Rx.getD z aP).words.toNat (0:Int)) (by omega)),tt ⟨w6,tt ⟨(j+1),rfl,(?_:(j+1)≤p.Rx.length),(?_:p.Rx.length-(j+1)<p.Rx.length-j)⟩⟩⟩⟩⟩
     · omega
     · omega
   · refine tt ⟨(congrArg _ (?_:(tab (fun z=>(p.Ry.getD z bH).init) i)=((aC p).Ry))),(congrArg _ (?_:(tab (fun z=>List.replicate (p.Rx.getD z aP).words.toNat (0:Int)) j)=((aC p).Rx))),oK⟩
     · rw[rz,show i=p.Ry.length by omega]
     · rw[rz,show j=p.Rx.length by omega]
abbrev Dd (p:Pr) (s:Ps) (data:List Int) (e:Ex):Ct:=⟨79,[(.agg [(i6 e.op),(dS e.name),(i6 e.k.n),(dS e.k.p),(i6 e.w.n),(dS e.w.p),(dL 7 (eA 2) dE e.args)]),(.iptr [(.str p.name),(.str p.clock),(.sl 13 gM bH p.Ry),(.sl 27 m3 aP p.Rx),(.sl 9 ir aF p.I),(.sl 16 gd aB p.Rv),(.sl 1 (ab .i64) 0 s.Ry),(.sl 1 aa [] s.Rx),(.sl 1 (ab .i64) 0 data)] 0)],false,(i6 ((a8 p s data e).1))⟩
theorem lG (p:Pr) (s:Ps) (data:List Int) (e:Ex) {c:Sc} {v:Int} (ho:sP c p s data) (ht:fc c e=some v) (hd:fI e≤3):CC (Dd p s data e):=by
 refine ah.vc (V:=TT 4 (CC (KI p s data 2 e)∧TT 8 (((a8 p s data e).1)=((a8 p s data e).1)∧True))) (.w 1 [(2,(KI p s data 2 e).O)]<|.e) Tryz.func79 rfl rfl rfl (by kernel_rfl) ?_
 exact tt ⟨(EO ho 2 e _ ht hd),tt ⟨rfl,oK⟩⟩
abbrev KP (p:Pr) (s:Ps) (hs:List Hd) (rs:List Bool):Ct:=⟨53,[(LW p),(.agg [(LI s.Ry),(pO s)]),(dL 2 bt aJ hs),(LB rs)],true,(.agg [(dB ((ax p s hs rs).fires)),(LI (((ax p s hs rs).s).Ry)),(dL 1 aa [] (((ax p s hs rs).s).Rx)),(LB ((ax p s hs rs).pops)),(dL 2 bt aJ ((ax p s hs rs).Rv))])⟩
abbrev hJ (p:Pr) (s:Ps) (hs:List Hd) (rs:List Bool):Lp (Nat×List Int×List Bool×Bool):=Q7 [2,3,8,9,10,11,12,13,46,47,48] 32 (fun (i:Nat) (T8:List Int) (Uq:List Bool) (Uy:Bool)=>⟨[(2,(dL 2 bt aJ hs)),(3,(LB rs)),(8,(.ptr 2 0 0 0)),(9,(.ptr 10 0 0 0)),(10,tG),(11,(.ptr 21 0 0 0)),(12,(.own 25)),(13,(.own 29)),(46,(dL 9 ir aF p.I)),(47,(i6 (p.I.length:Int))),(48,(i6 (i:Int)))],[(tH p),(x5 s),x4,.dead,.dead,.dead,.dead,.dead,(.arr 3 1 (ab .i64) 0 T8),.dead,(rA p s),.dead,.dead,.dead,.dead,.dead,.dead,.dead,.dead,.dead,.dead,(.var 101 [(dB Uy),(LI s.Ry),(pO s),(LB (List.replicate p.I.length false)),(dL 2 bt aJ (List.replicate p.Rv.length aJ))]),.dead,.dead,.dead,(.arr 4 1 aL false Uq),.dead,.dead,.dead,(.arr 115 2 bt aJ (List.replicate p.Rv.length aJ)),.dead,.dead]⟩) (fun (i:Nat) (T8:List Int) (Uq:List Bool) (Uy:Bool)=>i≤p.I.length∧T8=cM (mA p s hs) (jg p) i∧Uq=cM (m4 p s hs) (List.replicate p.I.length false) i∧Uy=eu (iP p s hs) i) (fun (i:Nat) (T8:List Int) (Uq:List Bool) (Uy:Bool)=>p.I.length-i)
abbrev kq (p:Pr) (s:Ps) (hs:List Hd) (rs:List Bool) (T8:List Int) (Uq:List Bool) (Uy:Bool):Lp (Nat×List Hd×Bool):=LQ [3,8,9,10,11,12,13,88,89,90] 32 (fun (m:Nat) (put:List Hd) (Uu:Bool)=>⟨[(3,(LB rs)),(8,(.ptr 2 0 0 0)),(9,(.ptr 10 0 0 0)),(10,tG),(11,(.ptr 21 0 0 0)),(12,(.own 25)),(13,(.own 29)),(88,(dL 16 gd aB p.Rv)),(89,(i6 (p.Rv.length:Int))),(90,(i6 (m:Int)))],[(tH p),(x5 s),x4,.dead,.dead,.dead,.dead,.dead,(.arr 3 1 (ab .i64) 0 T8),.dead,(rA p s),.dead,.dead,.dead,.dead,.dead,.dead,.dead,.dead,.dead,.dead,(.var 101 [(dB Uu),(LI s.Ry),(pO s),(LB (List.replicate p.I.length false)),(dL 2 bt aJ (List.replicate p.Rv.length aJ))]),.dead,.dead,.dead,(.arr 4 1 aL false Uq),.dead,.dead,.dead,(.arr 115 2 bt aJ put),.dead,.dead]⟩) (fun (m:Nat) (put:List Hd) (Uu:Bool)=>m≤p.Rv.length∧put=cM (m5 p s hs) (List.replicate p.Rv.length aJ) m∧Uu=(Uy&&eu (ko p s hs rs) m)) (fun (m:Nat) (put:List Hd) (Uu:Bool)=>p.Rv.length-m)
abbrev Bn (p:Pr) (s:Ps) (T8:List Int) (Uq:List Bool) (put:List Hd) (Uu:Bool):List ap:=[(tH p),(x5 s),x4,.dead,.dead,.dead,.dead,.dead,(.arr 3 1 (ab .i64) 0 T8),.dead,(rA p s),.dead,.dead,.dead,.dead,.dead,.dead,.dead,.dead,.dead,.dead,(.var 101 [(dB Uu),(LI s.Ry),(pO s),(LB Uq),(dL 2 bt aJ put)]),.dead,.dead,.dead,.dead,.dead,.dead,.dead,.dead,.dead,.dead]
abbrev Bo (p:Pr) (s:Ps):List (Nat×D):=(E4 p s)
abbrev rB (p:Pr) (s:Ps) (T8:List Int) (Uq:List Bool) (put:List Hd) (Uu:Bool) (T9:Array Value):Lp (Nat):=io [1,2,4,5,14,15,16] 37 (fun (i:Nat)=>⟨[(1,tG),(2,(.ptr 33 0 0 0)),(4,(.ptr 34 0 0 0)),(5,(.ptr 35 0 0 0)),(14,(dL 13 gM bH p.Ry)),(15,(i6 (p.Ry.length:Int))),(16,(i6 (i:Int)))],[(tH p),(x5 s),x4,.dead,.dead,.dead,.dead,.dead,(.arr 3 1 (ab .i64) 0 T8),.dead,(rA p s),.dead,.dead,.dead,.dead,.dead,.dead,.dead,.dead,.dead,.dead,(.var 101 [(dB Uu),(LI s.Ry),(pO s),(LB Uq),(dL 2 bt aJ put)]),.dead,.dead,.dead,.dead,.dead,.dead,.dead,.dead,.dead,.dead,(.frame T9 (E4 p s)),(rA p s),(.var 56 [.nils,.nils]),(.var 56 [(.own 36),.nils]),(.arr 3 1 (ab .i64) 0 (tab (fun z=>(a8 p s T8 (p.Ry.getD z bH).next).1) i))]⟩) (fun (i:Nat)=>i≤p.Ry.length) (fun (i:Nat)=>p.Ry.length-i)
abbrev nf (p:Pr) (s:Ps) (i:Nat) (T8:List Int) (Uq:List Bool) (put:List Hd) (Uu:Bool) (T9:Array Value):Lp (Nat):=io [1,2,4,5,32,33,34] 38 (fun (j:Nat)=>⟨[(1,tG),(2,(.ptr 33 0 0 0)),(4,(.ptr 34 0 0 0)),(5,(.ptr 35 0 0 0)),(32,(dL 27 m3 aP p.Rx)),(33,(i6 (p.Rx.length:Int))),(34,(i6 (j:Int)))],[(tH p),(x5 s),x4,.dead,.dead,.dead,.dead,.dead,(.arr 3 1 (ab .i64) 0 T8),.dead,(rA p s),.dead,.dead,.dead,.dead,.dead,.dead,.dead,.dead,.dead,.dead,(.var 101 [(dB Uu),(LI s.Ry),(pO s),(LB Uq),(dL 2 bt aJ put)]),.dead,.dead,.dead,.dead,.dead,.dead,.dead,.dead,.dead,.dead,(.frame T9 (E4 p s)),(rA p s),(.var 56 [.nils,.nils]),(.var 56 [(.own 36),(.own 37)]),(.arr 3 1 (ab .i64) 0 (tab (fun z=>(a8 p s T8 (p.Ry.getD z bH).next).1) i)),(.arr 42 1 aa [] (tab (sf p s T8) j))]⟩) (fun (j:Nat)=>j≤p.Rx.length) (fun (j:Nat)=>p.Rx.length-j)
abbrev rC (p:Pr) (s:Ps) (i:Nat) (T8:List Int) (Uq:List Bool) (put:List Hd) (Uu:Bool) (T9:Array Value) (j:Nat):Lp (Nat×List Int):=pI [1,2,4,5,8,9,10,32,33,34,43,44] 40 (fun (k:Nat) (wd:List Int)=>⟨[(1,tG),(2,(.ptr 33 0 0 0)),(4,(.ptr 34 0 0 0)),(5,(.ptr 35 0 0 0)),(8,(i6 (j:Int))),(9,(.ptr 38 0 0 0)),(10,(.own 39)),(32,(dL 27 m3 aP p.Rx)),(33,(i6 (p.Rx.length:Int))),(34,(i6 (j:Int))),(43,(i6 ((p.Rx.getD j aP).words))),(44,(i6 (k:Int)))],[(tH p),(x5 s),x4,.dead,.dead,.dead,.dead,.dead,(.arr 3 1 (ab .i64) 0 T8),.dead,(rA p s),.dead,.dead,.dead,.dead,.dead,.dead,.dead,.dead,.dead,.dead,(.var 101 [(dB Uu),(LI s.Ry),(pO s),(LB Uq),(dL 2 bt aJ put)]),.dead,.dead,.dead,.dead,.dead,.dead,.dead,.dead,.dead,.dead,(.frame T9 (E4 p s)),(rA p s),(.var 56 [.nils,.nils]),(.var 56 [(.own 36),(.own 37)]),(.arr 3 1 (ab .i64) 0 (tab (fun z=>(a8 p s T8 (p.Ry.getD z bH).next).1) i)),(.arr 42 1 aa [] (tab (sf p s T8) j)),(.var 131 [(dS ((p.Rx.getD j aP).name)),(i6 ((p.Rx.getD j aP).w)),(i6 ((p.Rx.getD j aP).words)),(i6 (((p.Rx.getD j aP).enable).op)),(dS (((p.Rx.getD j aP).enable).name)),(i6 ((((p.Rx.getD j aP).enable).k).n)),(dS ((((p.Rx.getD j aP).enable).k).p)),(i6 ((((p.Rx.getD j aP).enable).w).n)),(dS ((((p.Rx.getD j aP).enable).w).p)),(dL 7 (eA 2) dE (((p.Rx.getD j aP).enable).args)),(i6 (((p.Rx.getD j aP).addr).op)),(dS (((p.Rx.getD j aP).addr).name)),(i6 ((((p.Rx.getD j aP).addr).k).n)),(dS ((((p.Rx.getD j aP).addr).k).p)),(i6 ((((p.Rx.getD j aP).addr).w).n)),(dS ((((p.Rx.getD j aP).addr).w).p)),(dL 7 (eA 2) dE (((p.Rx.getD j aP).addr).args)),(i6 (((p.Rx.getD j aP).data).op)),(dS (((p.Rx.getD j aP).data).name)),(i6 ((((p.Rx.getD j aP).data).k).n)),(dS ((((p.Rx.getD j aP).data).k).p)),(i6 ((((p.Rx.getD j aP).data).w).n)),(dS ((((p.Rx.getD j aP).data).w).p)),(dL 7 (eA 2) dE (((p.Rx.getD j aP).data).args)),(i6 (((p.Rx.getD j aP).rule).kind)),(dS (((p.Rx.getD j aP).rule).src)),(i6 (((p.Rx.getD j aP).rule).n))]),(.arr 3 1 (ab .i64) 0 wd)]⟩) (fun (k:Nat) (wd:List Int)=>(k:Int)≤(p.Rx.getD j aP).words∧wd=cM (fun z=>(s.Rx.getD j []).getD z 0) (List.replicate (p.Rx.getD j aP).words.toNat (0:Int)) k∧(wd.length:Int)=(p.Rx.getD j aP).words) (fun (k:Nat) (wd:List Int)=>(p.Rx.getD j aP).words.toNat-k)
theorem rD (p:Pr) (s:Ps) (hs:List Hd) (rs:List Bool) (hp:fk p) (Wv:m6 p s) (hh:zq p hs) (hrs:rs.length=p.Rv.length):CC (KP p s hs rs):=by
 have Yj:=hp.tl
 have ZC:=hp.pl
 have ht3:=hp.rl
 have ht4:=hp.ml
 have ht5:=Wv.ml
 have ht6:=Wv.rl
 have hhl:=hh.l
 refine ah.vc (V:=TT 8 ((((0:Int)≤(p.I.length:Int)∧(p.I.length:Int)≤(p.I.length:Int)∧(p.I.length:Int)≤137438953472)∧(jg p).length=p.I.length∧∀x∈(jg p),cg [(i6 0)] ((ab .i64) x))∧TT 9 ((((0:Int)≤(p.I.length:Int)∧(p.I.length:Int)≤(p.I.length:Int)∧(p.I.length:Int)≤137438953472)∧(List.replicate p.I.length false).length=p.I.length∧∀x∈(List.replicate p.I.length false),cg [(dB false)] (aL x))∧TT 3 ((((0:Int)≤(p.Rv.length:Int)∧(p.Rv.length:Int)≤(p.Rv.length:Int)∧(p.Rv.length:Int)≤137438953472)∧(List.replicate p.Rv.length aJ).length=p.Rv.length∧∀x∈(List.replicate p.Rv.length aJ),cg [(dB false),(i6 0)] (bt x))∧TT 6 ((((0:Int)≤(p.I.length:Int)∧(p.I.length:Int)≤(p.I.length:Int)∧(p.I.length:Int)≤137438953472)∧(List.replicate p.I.length false).length=p.I.length∧∀x∈(List.replicate p.I.length false),cg [(dB false)] (aL x))∧TT 3 ((((0:Int)≤(p.Rv.length:Int)∧(p.Rv.length:Int)≤(p.Rv.length:Int)∧(p.Rv.length:Int)≤137438953472)∧(List.replicate p.Rv.length aJ).length=p.Rv.length∧∀x∈(List.replicate p.Rv.length aJ),cg [(dB false),(i6 0)] (bt x))∧TT 7 (GO (hJ p s hs rs) (0,jg p,List.replicate p.I.length false,true) (∀i T8 Uq Uy,(hJ p s hs rs).inv (i,T8,Uq,Uy)→TT 1 (CD ((i:Int)<(p.I.length:Int)) (TT 1 (IX (i:Int) p.I.length∧TT 7 (CK (Dd p s T8 ((p.I.getD i aF).when))∧TT 1 (CN (((a8 p s T8 ((p.I.getD i aF).when)).1)=1) (W6 ((i+1:Nat):Int)∧TT 1 (AG (hJ p s hs rs) (i,T8,Uq,Uy) (i+1,T8,Uq,Uy))) (TT 2 (IX (i:Int) Uq.length∧(i<Uq.length∧(Uq.map aL).set i ((aL (Uq.getD i false)).take 0++[(.bool true)]++(aL (Uq.getD i false)).drop (0+1))=(Uq.set i true).map aL)∧TT 2 (IX (i:Int) hs.length∧TT 2 (CB ((hs.getD i aJ).has) (TT 5 (IX (i:Int) hs.length∧TT 2 (IX (i:Int) T8.length∧(i<T8.length∧(T8.map (ab .i64)).set i (((ab .i64) (T8.getD i 0)).take 0++[(.int .i64 ((hs.getD i aJ).v))]++((ab .i64) (T8.getD i 0)).drop (0+1))=(T8.set i ((hs.getD i aJ).v)).map (ab .i64))∧CS (Uy=true) (TT 2 ((True∧Uy=true)∧TT 2 (IX (i:Int) hs.length∧TT 5 (W6 ((i+1:Nat):Int)∧TT 1 (AG (hJ p s hs rs) (i,T8,Uq,Uy) (i+1,T8.set i ((hs.getD i aJ).v),Uq.set i true,(hs.getD i aJ).has)))))) (TT 2 ((True∧Uy=false)∧TT 8 (W6 ((i+1:Nat):Int)∧TT 1 (AG (hJ p s hs rs) (i,T8,Uq,Uy) (i+1,T8.set i ((hs.getD i aJ).v),Uq.set i true,false)))))))) (CS (Uy=true) (TT 2 ((True∧Uy=true)∧TT 2 (IX (i:Int) hs.length∧TT 5 (W6 ((i+1:Nat):Int)∧TT 1 (AG (hJ p s hs rs) (i,T8,Uq,Uy) (i+1,T8,Uq.set i true,(hs.getD i aJ).has)))))) (TT 2 ((True∧Uy=false)∧TT 8 (W6 ((i+1:Nat):Int)∧TT 1 (AG (hJ p s hs rs) (i,T8,Uq,Uy) (i+1,T8,Uq.set i true,false)))))))))))))) (TT 5 (GO (kq p s hs rs T8 Uq Uy) (0,List.replicate p.Rv.length aJ,Uy) (∀m put Uu,(kq p s hs rs T8 Uq Uy).inv (m,put,Uu)→TT 1 (CD ((m:Int)<(p.Rv.length:Int)) (TT 1 (IX (m:Int) p.Rv.length∧TT 7 (CK (Dd p s T8 ((p.Rv.getD m aB).when))∧TT 1 (CN (((a8 p s T8 ((p.Rv.getD m aB).when)).1)=1) (W6 ((m+1:Nat):Int)∧TT 1 (AG (kq p s hs rs T8 Uq Uy) (m,put,Uu) (m+1,put,Uu))) (TT 5 (CK (Dd p s T8 ((p.Rv.getD m aB).data))∧TT 1 (IX (m:Int) put.length∧(m<put.length∧(put.map bt).set m ((bt (put.getD m aJ)).take 0++[(.bool true),(.int .i64 ((a8 p s T8 ((p.Rv.getD m aB).data)).1))]++(bt (put.getD m aJ)).drop (0+2))=(put.set m (⟨true,(a8 p s T8 ((p.Rv.getD m aB).data)).1⟩:Hd)).map bt)∧CS (Uu=true) (TT 2 ((True∧Uu=true)∧TT 2 (IX (m:Int) rs.length∧TT 4 (W6 ((m+1:Nat):Int)∧TT 1 (AG (kq p s hs rs T8 Uq Uy) (m,put,Uu) (m+1,put.set m (⟨true,(a8 p s T8 ((p.Rv.getD m aB).data)).1⟩:Hd),(rs.getD m false))))))) (TT 2 ((True∧Uu=false)∧TT 7 (W6 ((m+1:Nat):Int)∧TT 1 (AG (kq p s hs rs T8 Uq Uy) (m,put,Uu) (m+1,put.set m (⟨true,(a8 p s T8 ((p.Rv.getD m aB).data)).1⟩:Hd),false)))))))))))) (TT 3 (CB (!Uu) (TT 3 (Uu=((ax p s hs rs).fires)∧s.Ry.map (ab .i64)=(((ax p s hs rs).s).Ry).map (ab .i64)∧s.Rx.map aa=(((ax p s hs rs).s).Rx).map aa∧(List.replicate p.I.length false).map aL=((ax p s hs rs).pops).map aL∧(List.replicate p.Rv.length aJ).map bt=((ax p s hs rs).Rv).map bt∧True)) (TT 8 (Ke Tryz.prog 81 [(LV p s),tG] (Bn p s T8 Uq put Uu) (Bo p s) (.agg [(LI ((cz p s T8).Ry)),(dL 1 aa [] ((cz p s T8).Rx))])∧TT 5 (Uu=((ax p s hs rs).fires)∧((cz p s T8).Ry).map (ab .i64)=(((ax p s hs rs).s).Ry).map (ab .i64)∧((cz p s T8).Rx).map aa=(((ax p s hs rs).s).Rx).map aa∧Uq.map aL=((ax p s hs rs).pops).map aL∧put.map bt=((ax p s hs rs).Rv).map bt∧True)))))))))))))))))) (.w 1 [(5,.box 3 1 (ab .i64) 0 (jg p))]<|.w 3 [(4,.frz 4 1 aL false (List.replicate p.I.length false)),(8,.frz 115 2 bt aJ (List.replicate p.Rv.length aJ))]<|.w 4 [(3,.box 4 1 aL false (List.replicate p.I.length false)),(7,.box 115 2 bt aJ (List.replicate p.Rv.length aJ))]<|.l (hJ p s hs rs) (0,jg p,List.replicate p.I.length false,true) (fun ⟨i,T8,Uq,Uy⟩=>.b 49 (.q 8 [2,3,8,9,10,11,12,13,14,15,46,47,48] 33<|.w 8 [(3,(Dd p s T8 ((p.I.getD i aF).when)).O')]<|.b 57 (.w 13 [(0,.val (i6 ((i+1:Nat):Int)))]<|.e) (.w 9 [(3,.box 4 1 aL false (Uq.set i true))]<|.b 65 (.w 11 [(9,.box 3 1 (ab .i64) 0 (T8.set i ((hs.getD i aJ).v)))]<|.s 12 (Uy=true) (.w 12 [(2,.val (dB true))]<|.w 13 [(0,.val (i6 ((i+1:Nat):Int)))]<|.e) (.w 12 [(2,.val (dB false))]<|.w 13 [(0,.val (i6 ((i+1:Nat):Int)))]<|.e)) (.s 12 (Uy=true) (.w 12 [(2,.val (dB true))]<|.w 13 [(0,.val (i6 ((i+1:Nat):Int)))]<|.e) (.w 12 [(2,.val (dB false))]<|.w 13 [(0,.val (i6 ((i+1:Nat):Int)))]<|.e)))) (.l (kq p s hs rs T8 Uq Uy) (0,List.replicate p.Rv.length aJ,Uy) (fun ⟨m,put,Uu⟩=>.b 91 (.q 17 [3,8,9,10,11,12,13,16,17,88,89,90] 33<|.w 17 [(3,(Dd p s T8 ((p.Rv.getD m aB).when)).O')]<|.b 99 (.w 20 [(0,.val (i6 ((m+1:Nat):Int)))]<|.e) (.q 18 [3,8,9,10,11,12,13,16,17,88,89,90] 33<|.w 18 [(5,(Dd p s T8 ((p.Rv.getD m aB).data)).O'),(8,.box 115 2 bt aJ (put.set m (⟨true,(a8 p s T8 ((p.Rv.getD m aB).data)).1⟩:Hd)))]<|.s 19 (Uu=true) (.w 19 [(2,.val (dB true))]<|.w 20 [(0,.val (i6 ((m+1:Nat):Int)))]<|.e) (.w 19 [(2,.val (dB false))]<|.w 20 [(0,.val (i6 ((m+1:Nat):Int)))]<|.e))) (.b 120 (.e) (.f 23 25<|.f 23 29<|.q 24 [8,9,10,11] 32<|.w 24 [(2,.inls (.agg [(LI ((cz p s T8).Ry)),(dL 1 aa [] ((cz p s T8).Rx))]))]<|.e)))))) Tryz.func53 rfl rfl rfl (by kernel_rfl) ?_
 refine tt ⟨⟨by omega,eG,fun x hx=>by rw[RS hx];exact⟨rfl,oK⟩⟩,tt ⟨⟨by omega,RC,fun x hx=>by rw[RS hx];exact⟨rfl,oK⟩⟩,tt ⟨⟨by omega,RC,fun x hx=>by rw[RS hx];exact⟨rfl,rfl,oK⟩⟩,tt ⟨⟨by omega,RC,fun x hx=>by rw[RS hx];exact⟨rfl,oK⟩⟩,tt ⟨⟨by omega,RC,fun x hx=>by rw[RS hx];exact⟨rfl,rfl,oK⟩⟩,tt ⟨rfl,⟨by omega,rfl,rfl,rfl⟩,?_⟩⟩⟩⟩⟩⟩
 intro i T8 Uq Uy I'
 obtain⟨hi,We,UZ,U1⟩:=I'
 have hda:Bm p T8:=by rw[We];exact MZ hp hh hi
 have ho:=hE hp Wv hda
 have hdl:T8.length=p.I.length:=hda.l
 have Xf:Uq.length=p.I.length:=by rw[UZ,dm (by rw[RC];exact hi),RC]
 refine tt (cd (fun hc49=>?_) (fun hc49=>?_))
 · refine tt ⟨ix,?_⟩
   have Yx:=uI hp (show i<p.I.length by omega)
   refine tt ⟨⟨dR _ rfl,(lG p s T8 ((p.I.getD i aF).when) ho Yx.1 Yx.2)⟩,tt (cn (fun Wr=>?_) (fun Wr=>?_))⟩
   · refine⟨w6,tt ⟨(i+1,T8,Uq,Uy),rfl,(?_:(i+1)≤p.I.length∧T8=cM (mA p s hs) (jg p) (i+1)∧Uq=cM (m4 p s hs) (List.replicate p.I.length false) (i+1)∧Uy=eu (iP p s hs) (i+1)),(?_:p.I.length-(i+1)<p.I.length-i)⟩⟩
     · obtain⟨k1,k2,k3⟩:=KN (hs:=hs) hp (show i<p.I.length by omega) Wr
       exact⟨by omega,by rw[We];exact bP (by rw[eG];omega) (by rw[k2,wc]),by rw[UZ];exact bP (d:=false) (by rw[RC];omega) (by rw[k1,ca]),nd U1 _ (by rw[k3,Tr])⟩
     · omega
   · refine tt ⟨ix,⟨⟨om,by simp only[Ss];rfl⟩,tt ⟨ix,tt ⟨fun V5=>?_,fun V5=>?_⟩⟩⟩⟩
     · refine tt ⟨ix,tt ⟨ix,⟨⟨om,by simp only[Ss];rfl⟩,⟨fun T7=>?_,fun T7=>?_⟩⟩⟩⟩
       · refine tt ⟨(bT T7),tt ⟨ix,tt ⟨w6,tt ⟨(i+1,T8.set i ((hs.getD i aJ).v),Uq.set i true,(hs.getD i aJ).has),rfl,(?_:(i+1)≤p.I.length∧(T8.set i ((hs.getD i aJ).v))=cM (mA p s hs) (jg p) (i+1)∧(Uq.set i true)=cM (m4 p s hs) (List.replicate p.I.length false) (i+1)∧((hs.getD i aJ).has)=eu (iP p s hs) (i+1)),(?_:p.I.length-(i+1)<p.I.length-i)⟩⟩⟩⟩
         · obtain⟨k1,k2,k3⟩:=ry (hs:=hs) hp (show i<p.I.length by omega) (by simpa using Wr)
           exact⟨by omega,by rw[We];exact bR (by rw[eG];omega) (by rw[k2,RH V5]),by rw[UZ];exact bR (by rw[RC];omega) k1,nd U1 _ (by rw[k3];first | done | (clear U1;cases Uy<;>simp_all))⟩
         · omega
       · refine tt ⟨(bF T7),tt ⟨w6,tt ⟨(i+1,T8.set i ((hs.getD i aJ).v),Uq.set i true,false),rfl,(?_:(i+1)≤p.I.length∧(T8.set i ((hs.getD i aJ).v))=cM (mA p s hs) (jg p) (i+1)∧(Uq.set i true)=cM (m4 p s hs) (List.replicate p.I.length false) (i+1)∧false=eu (iP p s hs) (i+1)),(?_:p.I.length-(i+1)<p.I.length-i)⟩⟩⟩
         · obtain⟨k1,k2,k3⟩:=ry (hs:=hs) hp (show i<p.I.length by omega) (by simpa using Wr)
           exact⟨by omega,by rw[We];exact bR (by rw[eG];omega) (by rw[k2,RH V5]),by rw[UZ];exact bR (by rw[RC];omega) k1,nd U1 _ (by rw[k3];first | done | (clear U1;cases Uy<;>simp_all))⟩
         · omega
     · refine⟨fun Ur=>?_,fun Ur=>?_⟩
       · refine tt ⟨(bT Ur),tt ⟨ix,tt ⟨w6,tt ⟨(i+1,T8,Uq.set i true,(hs.getD i aJ).has),rfl,(?_:(i+1)≤p.I.length∧T8=cM (mA p s hs) (jg p) (i+1)∧(Uq.set i true)=cM (m4 p s hs) (List.replicate p.I.length false) (i+1)∧((hs.getD i aJ).has)=eu (iP p s hs) (i+1)),(?_:p.I.length-(i+1)<p.I.length-i)⟩⟩⟩⟩
         · obtain⟨k1,k2,k3⟩:=ry (hs:=hs) hp (show i<p.I.length by omega) (by simpa using Wr)
           exact⟨by omega,by rw[We];exact bP (by rw[eG];omega) (by rw[k2,RE (by rw[V5];simp),wc]),by rw[UZ];exact bR (by rw[RC];omega) k1,nd U1 _ (by rw[k3];first | done | (clear U1;cases Uy<;>simp_all))⟩
         · omega
       · refine tt ⟨(bF Ur),tt ⟨w6,tt ⟨(i+1,T8,Uq.set i true,false),rfl,(?_:(i+1)≤p.I.length∧T8=cM (mA p s hs) (jg p) (i+1)∧(Uq.set i true)=cM (m4 p s hs) (List.replicate p.I.length false) (i+1)∧false=eu (iP p s hs) (i+1)),(?_:p.I.length-(i+1)<p.I.length-i)⟩⟩⟩
         · obtain⟨k1,k2,k3⟩:=ry (hs:=hs) hp (show i<p.I.length by omega) (by simpa using Wr)
           exact⟨by omega,by rw[We];exact bP (by rw[eG];omega) (by rw[k2,RE (by rw[V5];simp),wc]),by rw[UZ];exact bR (by rw[RC];omega) k1,nd U1 _ (by rw[k3];first | done | (clear U1;cases Uy<;>simp_all))⟩
         · omega
 · have Vp:i=p.I.length:=by omega
   have hcu:T8=bN p s hs:=by rw[We,Vp];exact cH (by rw[eG];exact RD _)
   refine tt ⟨rfl,⟨by omega,rfl,by simp[eu]⟩,?_⟩
   intro m put Uu I'
   obtain⟨hm,Vb,VE⟩:=I'
   have W4:put.length=p.Rv.length:=by rw[Vb,dm (by rw[RC];exact hm),RC]
   refine tt (cd (fun hc91=>?_) (fun hc91=>?_))
   · refine tt ⟨ix,?_⟩
     have XX:=hp.pw m (by omega)
     refine tt ⟨⟨dR _ rfl,(lG p s T8 ((p.Rv.getD m aB).when) ho XX.2.1.1 XX.2.1.2)⟩,tt (cn (fun XZ=>?_) (fun XZ=>?_))⟩
     · refine⟨w6,tt ⟨(m+1,put,Uu),rfl,(?_:(m+1)≤p.Rv.length∧put=cM (m5 p s hs) (List.replicate p.Rv.length aJ) (m+1)∧Uu=(Uy&&eu (ko p s hs rs) (m+1))),(?_:p.Rv.length-(m+1)<p.Rv.length-m)⟩⟩
       · rw[hcu]at XZ
         obtain⟨k1,k2⟩:=M0 (rs:=rs) XZ
         exact⟨by omega,by rw[Vb];exact bP (d:=aJ) (by rw[RC];omega) (by rw[k1,ca]),sU VE _ (by rw[k2,Tr])⟩
       · omega
     · refine tt ⟨⟨dR _ rfl,(lG p s T8 ((p.Rv.getD m aB).data) ho XX.2.2.1 XX.2.2.2)⟩,tt ⟨ix,⟨⟨om,by simp only[Ss];rfl⟩,⟨fun Vs=>?_,fun Vs=>?_⟩⟩⟩⟩
       · refine tt ⟨(bT Vs),tt ⟨ix,tt ⟨w6,tt ⟨(m+1,put.set m (⟨true,(a8 p s T8 ((p.Rv.getD m aB).data)).1⟩:Hd),(rs.getD m false)),rfl,(?_:(m+1)≤p.Rv.length∧(put.set m (⟨true,(a8 p s T8 ((p.Rv.getD m aB).data)).1⟩:Hd))=cM (m5 p s hs) (List.replicate p.Rv.length aJ) (m+1)∧(rs.getD m false)=(Uy&&eu (ko p s hs rs) (m+1))),(?_:p.Rv.length-(m+1)<p.Rv.length-m)⟩⟩⟩⟩
         · rw[hcu]at XZ
           obtain⟨k1,k2⟩:=EV (rs:=rs) (by simpa using XZ)
           exact⟨by omega,by rw[Vb];exact bR (by rw[RC];omega) (by rw[k1,hcu]),sU VE _ (by rw[k2];first | done | (clear VE U1;cases Uu<;>simp_all))⟩
         · omega
       · refine tt ⟨(bF Vs),tt ⟨w6,tt ⟨(m+1,put.set m (⟨true,(a8 p s T8 ((p.Rv.getD m aB).data)).1⟩:Hd),false),rfl,(?_:(m+1)≤p.Rv.length∧(put.set m (⟨true,(a8 p s T8 ((p.Rv.getD m aB).data)).1⟩:Hd))=cM (m5 p s hs) (List.replicate p.Rv.length aJ) (m+1)∧false=(Uy&&eu (ko p s hs rs) (m+1))),(?_:p.Rv.length-(m+1)<p.Rv.length-m)⟩⟩⟩
         · rw[hcu]at XZ
           obtain⟨k1,k2⟩:=EV (rs:=rs) (by simpa using XZ)
           exact⟨by omega,by rw[Vb];exact bR (by rw[RC];omega) (by rw[k1,hcu]),sU VE _ (by rw[k2];first | done | (clear VE U1;cases Uu<;>simp_all))⟩
         · omega
   · have Yk:m=p.Rv.length:=by omega
     refine tt ⟨fun Xm=>?_,fun Xm=>?_⟩
     · refine tt ⟨?_,(congrArg _ (?_:s.Ry=(((ax p s hs rs).s).Ry))),(congrArg _ (?_:s.Rx=(((ax p s hs rs).s).Rx))),(congrArg _ (?_:(List.replicate p.I.length false)=((ax p s hs rs).pops))),(congrArg _ (?_:(List.replicate p.Rv.length aJ)=((ax p s hs rs).Rv))),oK⟩
       all_goals
         rw[EW (by rw[oC (rs:=rs) (a:=Uy) (b:=Uu) (by rw[U1,Vp]) (by rw[VE,Yk])];simpa using Xm)]
         first | done | rfl | simpa using Xm
     · refine tt ⟨?_,?_⟩
       · intro T9
         refine fO.vc (V:=TT 8 (GO (rB p s T8 Uq put Uu T9) 0 (∀i,(rB p s T8 Uq put Uu T9).inv i→TT 1 (CD ((i:Int)<(p.Ry.length:Int)) (IX (i:Int) p.Ry.length∧TT 8 (CK (Dd p s T8 ((p.Ry.getD i bH).next))∧ai [[(i6 ((a8 p s T8 ((p.Ry.getD i bH).next)).1))]] ([(a8 p s T8 ((p.Ry.getD i bH).next)).1].map (ab .i64))∧((tab (fun z=>(a8 p s T8 (p.Ry.getD z bH).next).1) i).length+([(a8 p s T8 ((p.Ry.getD i bH).next)).1].map (ab .i64)).length≤137438953472∧(tab (fun z=>(a8 p s T8 (p.Ry.getD z bH).next).1) i).map (ab .i64)++[(a8 p s T8 ((p.Ry.getD i bH).next)).1].map (ab .i64)=(tab (fun z=>(a8 p s T8 (p.Ry.getD z bH).next).1) (i+1)).map (ab .i64))∧TT 2 (W6 ((i+1:Nat):Int)∧TT 1 (AG (rB p s T8 Uq put Uu T9) i (i+1))))) (TT 5 (GO (nf p s i T8 Uq put Uu T9) 0 (∀j,(nf p s i T8 Uq put Uu T9).inv j→TT 1 (CD ((j:Int)<(p.Rx.length:Int)) (TT 1 (IX (j:Int) p.Rx.length∧TT 6 ((((0:Int)≤(p.Rx.getD j aP).words∧(p.Rx.getD j aP).words≤(p.Rx.getD j aP).words∧(p.Rx.getD j aP).words≤137438953472)∧(List.replicate (p.Rx.getD j aP).words.toNat (0:Int)).length=((p.Rx.getD j aP).words).toNat∧∀x∈(List.replicate (p.Rx.getD j aP).words.toNat (0:Int)),cg [(i6 0)] ((ab .i64) x))∧TT 4 (GO (rC p s i T8 Uq put Uu T9 j) (0,List.replicate (p.Rx.getD j aP).words.toNat (0:Int)) (∀k wd,(rC p s i T8 Uq put Uu T9 j).inv (k,wd)→TT 1 (CD ((k:Int)<((p.Rx.getD j aP).words)) (TT 8 (IX (j:Int) s.Rx.length∧TT 2 (IX (k:Int) ((s.Rx.getD j []).length)∧TT 1 (IX (k:Int) wd.length∧(k<wd.length∧(wd.map (ab .i64)).set k (((ab .i64) (wd.getD k 0)).take 0++[(.int .i64 ((s.Rx.getD j []).getD k 0))]++((ab .i64) (wd.getD k 0)).drop (0+1))=(wd.set k ((s.Rx.getD j []).getD k 0)).map (ab .i64))∧W6 ((k+1:Nat):Int)∧TT 1 (AG (rC p s i T8 Uq put Uu T9 j) (k,wd) (k+1,wd.set k ((s.Rx.getD j []).getD k 0))))))) (TT 3 (CK (Dd p s T8 ((p.Rx.getD j aP).enable))∧TT 1 (CD (((a8 p s T8 ((p.Rx.getD j aP).enable)).1)=1) (TT 4 (CK (Dd p s T8 ((p.Rx.getD j aP).addr))∧TT 2 (((p.Rx.getD j aP).words)≠0∧TT 3 (CK (Dd p s T8 ((p.Rx.getD j aP).data))∧IX (Int.tmod ((a8 p s T8 ((p.Rx.getD j aP).addr)).1) ((p.Rx.getD j aP).words)) wd.length∧((Int.tmod ((a8 p s T8 ((p.Rx.getD j aP).addr)).1) ((p.Rx.getD j aP).words)).toNat<wd.length∧(wd.map (ab .i64)).set ((Int.tmod ((a8 p s T8 ((p.Rx.getD j aP).addr)).1) ((p.Rx.getD j aP).words)).toNat) (((ab .i64) (wd.getD ((Int.tmod ((a8 p s T8 ((p.Rx.getD j aP).addr)).1) ((p.Rx.getD j aP).words)).toNat) 0)).take 0++[(.int .i64 ((a8 p s T8 ((p.Rx.getD j aP).data)).1))]++((ab .i64) (wd.getD ((Int.tmod ((a8 p s T8 ((p.Rx.getD j aP).addr)).1) ((p.Rx.getD j aP).words)).toNat) 0)).drop (0+1))=(wd.set ((Int.tmod ((a8 p s T8 ((p.Rx.getD j aP).addr)).1) ((p.Rx.getD j aP).words)).toNat) ((a8 p s T8 ((p.Rx.getD j aP).data)).1)).map (ab .i64))∧TT 3 (ai [[(LI (wd.set ((Int.tmod ((a8 p s T8 ((p.Rx.getD j aP).addr)).1) ((p.Rx.getD j aP).words)).toNat) ((a8 p s T8 ((p.Rx.getD j aP).data)).1)))]] ([wd.set ((Int.tmod ((a8 p s T8 ((p.Rx.getD j aP).addr)).1) ((p.Rx.getD j aP).words)).toNat) ((a8 p s T8 ((p.Rx.getD j aP).data)).1)].map aa)∧((tab (sf p s T8) j).length+([wd.set ((Int.tmod ((a8 p s T8 ((p.Rx.getD j aP).addr)).1) ((p.Rx.getD j aP).words)).toNat) ((a8 p s T8 ((p.Rx.getD j aP).data)).1)].map aa).length≤137438953472∧(tab (sf p s T8) j).map aa++[wd.set ((Int.tmod ((a8 p s T8 ((p.Rx.getD j aP).addr)).1) ((p.Rx.getD j aP).words)).toNat) ((a8 p s T8 ((p.Rx.getD j aP).data)).1)].map aa=(tab (sf p s T8) (j+1)).map aa)∧TT 2 (W6 ((j+1:Nat):Int)∧TT 1 (AG (nf p s i T8 Uq put Uu T9) j (j+1)))))))) (TT 3 (ai [[(LI wd)]] ([wd].map aa)∧((tab (sf p s T8) j).length+([wd].map aa).length≤137438953472∧(tab (sf p s T8) j).map aa++[wd].map aa=(tab (sf p s T8) (j+1)).map aa)∧TT 2 (W6 ((j+1:Nat):Int)∧TT 1 (AG (nf p s i T8 Uq put Uu T9) j (j+1)))))))))))))) (TT 3 ((((tab (fun z=>(a8 p s T8 (p.Ry.getD z bH).next).1) i).map (ab .i64)=((cz p s T8).Ry).map (ab .i64)∧(tab (sf p s T8) j).map aa=((cz p s T8).Rx).map aa∧True))∧HE ((Bn p s T8 Uq put Uu)++[.frame T9 (Bo p s)]))))))))))) (.g 2 35 0 3 1 (ab .i64) 0<|.l (rB p s T8 Uq put Uu T9) 0 (fun i=>.b 17 (.w 5 [(5,(Dd p s T8 ((p.Ry.getD i bH).next)).O'),(6,.box 3 1 (ab .i64) 0 [(a8 p s T8 ((p.Ry.getD i bH).next)).1]),(7,.box 3 1 (ab .i64) 0 (tab (fun z=>(a8 p s T8 (p.Ry.getD z bH).next).1) (i+1)))]<|.w 6 [(0,.val (i6 ((i+1:Nat):Int)))]<|.e) (.g 7 35 1 42 1 aa []<|.l (nf p s i T8 Uq put Uu T9) 0 (fun j=>.b 35 (.w 10 [(2,.box 3 1 (ab .i64) 0 (List.replicate (p.Rx.getD j aP).words.toNat (0:Int)))]<|.l (rC p s i T8 Uq put Uu T9 j) (0,List.replicate (p.Rx.getD j aP).words.toNat (0:Int)) (fun ⟨k,wd⟩=>.b 45 (.w 14 [(12,.box 3 1 (ab .i64) 0 (wd.set k ((s.Rx.getD j []).getD k 0)))]<|.w 15 [(0,.val (i6 ((k+1:Nat):Int)))]<|.e) (.w 16 [(3,(Dd p s T8 ((p.Rx.getD j aP).enable)).O')]<|.b 64 (.w 17 [(4,(Dd p s T8 ((p.Rx.getD j aP).addr)).O'),(11,(Dd p s T8 ((p.Rx.getD j aP).data)).O'),(13,.box 3 1 (ab .i64) 0 (wd.set ((Int.tmod ((a8 p s T8 ((p.Rx.getD j aP).addr)).1) ((p.Rx.getD j aP).words)).toNat) ((a8 p s T8 ((p.Rx.getD j aP).data)).1)))]<|.f 18 39<|.w 18 [(3,.box 42 1 aa [] [wd.set ((Int.tmod ((a8 p s T8 ((p.Rx.getD j aP).addr)).1) ((p.Rx.getD j aP).words)).toNat) ((a8 p s T8 ((p.Rx.getD j aP).data)).1)]),(4,.box 42 1 aa [] (tab (sf p s T8) (j+1)))]<|.w 19 [(0,.val (i6 ((j+1:Nat):Int)))]<|.e) (.f 18 39<|.w 18 [(3,.box 42 1 aa [] [wd]),(4,.box 42 1 aa [] (tab (sf p s T8) (j+1)))]<|.w 19 [(0,.val (i6 ((j+1:Nat):Int)))]<|.e)))) (.f 20 36<|.f 20 37<|.e))))) Tryz.func81 rfl rfl (by kernel_rfl) ?_
         refine tt ⟨rfl,(by omega),?_⟩
         intro i I'
         have hi:=I'
         refine tt (cd (fun Wq=>?_) (fun Wq=>?_))
         · refine⟨ix,?_⟩
           have hrn:=hp.rw i (by omega)
           refine tt ⟨⟨dR _ rfl,(lG p s T8 ((p.Ry.getD i bH).next) ho hrn.2.2.1 hrn.2.2.2)⟩,⟨⟨⟨rfl,oK⟩,oK⟩,⟨(fV (f:=fun z=>(a8 p s T8 (p.Ry.getD z bH).next).1) (by omega)),tt ⟨w6,tt ⟨(i+1),rfl,(?_:(i+1)≤p.Ry.length),(?_:p.Ry.length-(i+1)<p.Ry.length-i)⟩⟩⟩⟩⟩
           · omega
           · omega
         · refine tt ⟨rfl,(by omega),?_⟩
           intro j I'
           have hj:=I'
           refine tt (cd (fun UQ=>?_) (fun UQ=>?_))
           · have Ww:1≤(p.Rx.getD j aP).words∧(p.Rx.getD j aP).words≤4:=(hp.mw j (by omega)).2.1
             have hml:((s.Rx.getD j []).length:Int)=(p.Rx.getD j aP).words:=Wv.mn j (by omega)
             have Yk:=(hp.mw j (by omega)).2.2.1
             have Z8:=(hp.mw j (by omega)).2.2.2
             obtain⟨va,hma⟩:=Z8.1.1
             have had:0≤Int.tmod (a8 p s T8 (p.Rx.getD j aP).addr).1 (p.Rx.getD j aP).words∧Int.tmod (a8 p s T8 (p.Rx.getD j aP).addr).1 (p.Rx.getD j aP).words<(s.Rx.getD j []).length∧(p.Rx.getD j aP).words≠0:=E3 hp Wv hda (show j<p.Rx.length by omega)
             refine tt ⟨ix,tt ⟨⟨by omega,RC,fun x hx=>by rw[RS hx];exact⟨rfl,oK⟩⟩,tt ⟨rfl,⟨by omega,rfl,by rw[RC];omega⟩,?_⟩⟩⟩
             intro k wd I'
             obtain⟨hk,hwd,ZE⟩:=I'
             refine tt (cd (fun hc45=>?_) (fun hc45=>?_))
             · refine tt ⟨ix,tt ⟨ix,tt ⟨ix,⟨⟨om,by simp only[Ss];rfl⟩,⟨w6,tt ⟨(k+1,wd.set k ((s.Rx.getD j []).getD k 0)),rfl,?_,(?_:(p.Rx.getD j aP).words.toNat-(k+1)<(p.Rx.getD j aP).words.toNat-k)⟩⟩⟩⟩⟩⟩
               · exact⟨by omega,by rw[hwd];exact bR (by rw[RC];omega) rfl,by rw[Sw];exact ZE⟩
               · omega
             · have Xn:wd=s.Rx.getD j []:=by
                 rw[hwd,show k=(List.replicate (p.Rx.getD j aP).words.toNat (0:Int)).length by rw[RC];omega]
                 exact IB (by rw[RC];omega)
               refine tt ⟨⟨dR _ rfl,(lG p s T8 ((p.Rx.getD j aP).enable) ho Yk.1 Yk.2)⟩,tt (cd (fun Zg=>?_) (fun Zg=>?_))⟩
               · refine tt ⟨⟨dR _ rfl,(lG p s T8 ((p.Rx.getD j aP).addr) ho hma Z8.1.2)⟩,tt ⟨om,tt ⟨⟨dR _ rfl,(lG p s T8 ((p.Rx.getD j aP).data) ho Z8.2.1 Z8.2.2)⟩,⟨ix,⟨⟨om,by simp only[Ss];rfl⟩,tt ⟨⟨⟨rfl,oK⟩,oK⟩,⟨(a6 (by omega) (by rw[Xn];first | exact zx (uH Zg) | exact EZ (by rw[zu Zg];simp))),tt ⟨w6,tt ⟨(j+1),rfl,(?_:(j+1)≤p.Rx.length),(?_:p.Rx.length-(j+1)<p.Rx.length-j)⟩⟩⟩⟩⟩⟩⟩⟩⟩
                 · omega
                 · omega
               · refine tt ⟨⟨⟨rfl,oK⟩,oK⟩,⟨(a6 (by omega) (by rw[Xn];first | exact zx (uH Zg) | exact EZ (by rw[zu Zg];simp))),tt ⟨w6,tt ⟨(j+1),rfl,(?_:(j+1)≤p.Rx.length),(?_:p.Rx.length-(j+1)<p.Rx.length-j)⟩⟩⟩⟩
                 · omega
                 · omega
           · refine tt ⟨⟨(congrArg _ (?_:(tab (fun z=>(a8 p s T8 (p.Ry.getD z bH).next).1) i)=((cz p s T8).Ry))),(congrArg _ (?_:(tab (sf p s T8) j)=((cz p s T8).Rx))),oK⟩,rfl⟩
             · rw[show i=p.Ry.length by omega];rfl
             · rw[show j=p.Rx.length by omega];rfl
       refine tt ⟨?_,(congrArg _ (?_:((cz p s T8).Ry)=(((ax p s hs rs).s).Ry))),(congrArg _ (?_:((cz p s T8).Rx)=(((ax p s hs rs).s).Rx))),(congrArg _ (?_:Uq=((ax p s hs rs).pops))),(congrArg _ (?_:put=((ax p s hs rs).Rv))),oK⟩
       all_goals
         rw[zw (by rw[oC (rs:=rs) (a:=Uy) (b:=Uu) (by rw[U1,Vp]) (by rw[VE,Yk])];simpa using Xm)]
         first | done | (simpa using Xm) | (rw[hcu]) | (rw[UZ,Vp,cH (by rw[RC];exact RD _)]) | (rw[Vb,Yk,cH (by rw[RC];exact RD _)])
end Go.Proofs.YtckgpflobhpnpaaGreat
