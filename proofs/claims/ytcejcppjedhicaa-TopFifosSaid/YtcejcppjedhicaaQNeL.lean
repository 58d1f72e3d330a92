/- Parts of a proof. -/
import Derived.Test.YtcejcppjedhicaaQPrB
namespace Go.Proofs.Ytcejcppjedhicaa
open Go.RowKit
set_option linter.unusedVariables false
set_option linter.unusedSimpArgs false
abbrev CH:ak:=(.arr 3 1 (ac .i64) 0 ([]:List Int))
set_option maxRecDepth 100000
abbrev Mv (l:List Int):Eo:=⟨42,[(LI l)],(.own 0),(.arr 3 1 (ac .i64) 0 l)⟩
theorem AZ (l:List Int) (h:l≠[]) (hl:l.length≤137438953472):CO (Mv l):=by
 refine ap.vcO (V:=TT 2 (l≠[]∧av [] (([]:List Int).map (ac .i64))∧TT 1 ((([]:List Int).length+(l.map (ac .i64)).length≤137438953472∧([]:List Int).map (ac .i64)++l.map (ac .i64)=l.map (ac .i64))∧TT 2 (((.own 0):D)=.own 0∧((.arr 3 1 (ac .i64) 0 l):ak)=(.arr 3 1 (ac .i64) 0 l))))) (.w 3 [(0,.box 3 1 (ac .i64) 0 ([]:List Int)),(2,.box 3 1 (ac .i64) 0 l)]<|.e) Try.func42 rfl rfl rfl (by kernel_rfl) ?_
 exact tt ⟨(by exact h),⟨oK,tt ⟨⟨by simp only[N1,Ot];omega,by simp⟩,tt ⟨rfl,rfl⟩⟩⟩⟩
abbrev Mw:Eo:=⟨42,[.nils],(.own 0),CH⟩
theorem A1  : CO Mw:=by
 refine ap.vcO (V:=TT 5 (((.own 0):D)=.own 0∧([]:List Int)=[])) (.e) Try.func42 rfl rfl rfl (by kernel_rfl) ?_
 refine tt ⟨rfl,?_⟩
 rfl
abbrev Mx:Eo:=⟨42,[(.v .esl)],(.own 0),CH⟩
theorem A2  : CO Mx:=by
 refine ap.vcO (V:=TT 3 (av [] (([]:List Int).map (ac .i64))∧TT 1 ((([]:List Int).length+(([]:List (List V))).length≤137438953472∧([]:List Int).map (ac .i64)++([]:List (List V))=([]:List Int).map (ac .i64))∧TT 2 (((.own 0):D)=.own 0∧(CH:ak)=CH)))) (.w 3 [(0,.box 3 1 (ac .i64) 0 ([]:List Int)),(2,.box 3 1 (ac .i64) 0 ([]:List Int))]<|.e) Try.func42 rfl rfl rfl (by kernel_rfl) ?_
 exact tt ⟨oK,tt ⟨⟨by simp,by simp⟩,tt ⟨rfl,rfl⟩⟩⟩
abbrev Lm (l:List Int):Eo:=⟨42,[(LI l)],(.own 0),(.arr 3 1 (ac .i64) 0 l)⟩
theorem wy (l:List Int) (hl:l.length≤137438953472):CO (Lm l) :=
  ap.nilcases (fun h=>AZ l h hl) (fun h=>by subst h;exact A1) (fun h=>by subst h;exact A2)
section
variable {c:Ci} {s:Ns} {w:Nat→Bool} {i k:Nat}
theorem JM {p:Pr} {f:Fi} (h:f.pops.getD k false=false):nZ p f (k+1)=nZ p f k:=by rw[nZ,NQ (by rw[h];simp),Om]
theorem HS {p:Pr} {f:Fi} (h:f.pops.getD k false=true):nZ p f (k+1)=nZ p f k++[cj p k]:=by rw[nZ,NT h]
theorem JN {p:Pr} {f:Fi} (h:(f.NG.getD k aj).has=false):pW p f (k+1)=pW p f k:=by rw[pW,NQ (by rw[h];simp),Om]
theorem HT {p:Pr} {f:Fi} (h:(f.NG.getD k aj).has=true):pW p f (k+1)=pW p f k++[(ep p k,(f.NG.getD k aj).v)]:=by rw[pW,NT h]
theorem CI {p:Pr} {f:Fi}:∀{k:Nat},(pW p f k).length≤k
 | 0=>NN _
 | k+1=>by
  rw[pW,NY]
  have:=CI (p:=p) (f:=f) (k:=k)
  split<;>simp<;>omega
theorem HU (ev:List (Nat×Int)) (l:List (List Int)) (n:Nat) (hn:n<l.length):((d8 l ev).getD n []).length≤(l.getD n []).length+ev.length:=by
 rw[rX ev l n hn,NY,N1]
 have:=List.length_filter_le (fun e:Nat×Int=>e.1==n) ev
 omega
end
theorem xF {v w:Int} (h:v<0):cy v w=false:=by unfold cy;rw[N5 (by omega)];rfl
theorem xG {v w:Int} (h:v>ao w):cy v w=false:=by unfold cy;rw[N5 (show ¬v≤ao w by omega),PT]
theorem HW {v w:Int} (h:¬v<0) (h2:¬v>ao w):cy v w=true:=by unfold cy;rw[Og (show v≤ao w by omega),Og (show 0≤v by omega)];rfl
theorem mO {l:List Int} {w:Int} {i:Nat} (hi:i<l.length) (h:cy (l.getD i 0) w=false):iW l w=false:=iV (f:=fun i=>cy (l.getD i 0) w) hi h
theorem uv {l:List Int} {w:Int} (h:∀i,i<l.length→cy (l.getD i 0) w=true):iW l w=true:=b7.2 h
structure Uf where
 s:Nat→Ps
 l:Nat→List Int
 rd:Nat→Nat
 cnt:Nat→Nat
def HV (c:Ci) (u:Uf) (p j:Nat):Hd:=if u.rd (cj (aJ c p) j)<(u.l (cj (aJ c p) j)).length then ⟨true,(u.l (cj (aJ c p) j)).getD (u.rd (cj (aJ c p) j)) 0⟩else aj
def ur (c:Ci) (u:Uf) (p:Nat):List Hd:=tab (HV c u p) (aJ c p).I.length
def JO (c:Ci) (p:Nat):List Bool:=List.replicate (aJ c p).NG.length true
def ft (c:Ci) (u:Uf) (p:Nat):Fi:=aR (aJ c p) (u.s p) (ur c u p) (JO c p)
def fS (c:Ci) (p:Nat) (f:Fi) (n:Nat):Nat:=if n∈nZ (aJ c p) f (aJ c p).I.length then 1 else 0
def eV (c:Ci) (p:Nat) (f:Fi) (n:Nat):List Int:=((pW (aJ c p) f (aJ c p).NG.length).filter (fun e=>e.1==n)).map (·.2)
def gG (c:Ci) (u:Uf) (p:Nat):Bool:=(ft c u p).fires
def au (c:Ci) (u:Uf) (p:Nat):Uf:=⟨fun q=>if q=p then (ft c u p).s else u.s q,fun n=>u.l n++eV c p (ft c u p) n,fun n=>u.rd n+fS c p (ft c u p) n,fun q=>if q=p then u.cnt q+1 else u.cnt q⟩
section
variable {c:Ci} {u v:Uf} {p q n:Nat}
theorem FV (hc:bE c) (hp:p<c.U.length) {f:Fi} (h:fS c p f n≠0):(b9 c n).dst=p:=by
 unfold fS at h
 split at h
 ·rename_i hm;exact(CF hc hp (NN _) hm).2
 ·exact absurd rfl h
theorem ut (hc:bE c) (hp:p<c.U.length) {f:Fi} (h:eV c p f n≠[]):(b9 c n).frm=p:=by
 unfold eV at h
 obtain⟨x,hx⟩:=List.exists_mem_of_ne_nil _ h
 obtain⟨e,he,_⟩:=P4.1 hx
 obtain⟨h1,h2⟩:=PV.1 he
 have:=(HR hc hp (NN _) h1).2
 rw[P5]at h2
 rw[← h2];exact this
theorem uu (hc:bE c) (hp:p<c.U.length) (hq:q<c.U.length) (Ro:p≠q) (h:gG c u q=true):ft c (au c u p) q=ft c u q:=by
 unfold gG ft at h
 rw[dQ]at h
 unfold ft
 have hs:(au c u p).s q=u.s q:=NQ (PN Ro)
 rw[hs]
 refine wo (hc.pr q hq) h (fun j hj hh=>?_) (fun j hj hr=>hr)
 unfold ur at hh ⊢
 rw[aI hj]at hh ⊢
 rw[aI hj]
 have hd:(b9 c (cj (aJ c q) j)).dst=q:=(hc.tk q hq j hj).2.2.2
 have Vd:(au c u p).rd (cj (aJ c q) j)=u.rd (cj (aJ c q) j):=by
  show u.rd _+fS c p _ _=_
  by_cases h0:fS c p (ft c u p) (cj (aJ c q) j)=0
  ·rw[h0];rfl
  ·have:=FV hc hp h0
   rw[hd]at this;omega
 unfold HV at hh ⊢
 rw[Vd]
 split at hh
 ·rename_i Ql
  rw[NT Ql]
  have hl:(au c u p).l (cj (aJ c q) j)=u.l (cj (aJ c q) j)++eV c p (ft c u p) (cj (aJ c q) j):=rfl
  rw[hl,NT (by rw[NY];omega),lM,NT Ql]
 ·cases hh
theorem y9 (hc:bE c) (hp:p<c.U.length) (hq:q<c.U.length) (Ro:p≠q) (h:gG c u q=true):gG c (au c u p) q=true:=by
 unfold gG at h ⊢
 rw[uu hc hp hq Ro h];exact h
theorem JP (h1:∀q,u.s q=v.s q) (h2:∀n,u.l n=v.l n) (h3:∀n,u.rd n=v.rd n) (h4:∀q,u.cnt q=v.cnt q):u=v:=by
 cases u;cases v
 simp only at h1 h2 h3 h4
 rw[funext h1,funext h2,funext h3,funext h4]
theorem NB (hc:bE c) (hp:p<c.U.length) (hq:q<c.U.length) (Ro:p≠q) (h1:gG c u p=true) (h2:gG c u q=true):au c (au c u p) q=au c (au c u q) p:=by
 have e1:=uu hc hp hq Ro h2
 have e2:=uu hc hq hp (PN Ro) h1
 have f1:au c (au c u p) q=⟨fun x=>if x=q then (ft c u q).s else (au c u p).s x,fun n=>(au c u p).l n++eV c q (ft c u q) n,fun n=>(au c u p).rd n+fS c q (ft c u q) n,fun x=>if x=q then (au c u p).cnt x+1 else (au c u p).cnt x⟩:=by rw[au,e1]
 have f2:au c (au c u q) p=⟨fun x=>if x=p then (ft c u p).s else (au c u q).s x,fun n=>(au c u q).l n++eV c p (ft c u p) n,fun n=>(au c u q).rd n+fS c p (ft c u p) n,fun x=>if x=p then (au c u q).cnt x+1 else (au c u q).cnt x⟩:=by rw[au,e2]
 rw[f1,f2]
 refine JP (fun x=>?_) (fun n=>?_) (fun n=>?_) (fun x=>?_)
 ·show(if x=q then _ else if x=p then _ else u.s x)=(if x=p then _ else if x=q then _ else u.s x)
  by_cases a:x=q
  ·rw[NT a,NQ (by omega),NT a]
  ·rw[NQ a]
   by_cases b:x=p
   ·rw[NT b,NT b]
   ·rw[NQ b,NQ b,NQ a]
 ·show(u.l n++eV c p (ft c u p) n)++eV c q (ft c u q) n=(u.l n++eV c q (ft c u q) n)++eV c p (ft c u p) n
  by_cases a:eV c p (ft c u p) n=[]
  ·rw[a];simp
  ·have b:eV c q (ft c u q) n=[]:=by
    refine Classical.byContradiction fun h=>?_
    have:=ut hc hp a
    have:=ut hc hq h
    omega
   rw[b];simp
 ·show(u.rd n+fS c p (ft c u p) n)+fS c q (ft c u q) n=(u.rd n+fS c q (ft c u q) n)+fS c p (ft c u p) n
  omega
 ·show(if x=q then (if x=p then u.cnt x+1 else u.cnt x)+1 else if x=p then u.cnt x+1 else u.cnt x)=(if x=p then (if x=q then u.cnt x+1 else u.cnt x)+1 else if x=q then u.cnt x+1 else u.cnt x)
  by_cases a:x=q
  ·have b:¬x=p:=by omega
   simp only[NT a,NQ b]
  ·simp only[NQ a]
def b6 (c:Ci):Uf→List Nat→Uf
 | u,[]=>u
 | u,p::r=>b6 c (au c u p) r
def iu (c:Ci):Uf→List Nat→Prop
 | _,[]=>True
 | u,p::r=>p<c.U.length∧gG c u p=true∧iu c (au c u p) r
theorem iv:∀{l m:List Nat} {u:Uf},b6 c u (l++m)=b6 c (b6 c u l) m
 | [],_,_=>rfl
 | p::r,m,u=>iv (l:=r) (u:=au c u p)
theorem lO:∀{l m:List Nat} {u:Uf},iu c u l→iu c (b6 c u l) m→iu c u (l++m)
 | [],_,_,_,h=>h
 | p::r,m,u,h1,h2=>⟨h1.1,h1.2.1,lO (l:=r) h1.2.2 h2⟩
theorem fe:∀{l:List Nat} {u:Uf} (q:Nat),(b6 c u l).cnt q=u.cnt q+l.count q
 | [],_,_=>rfl
 | p::r,u,q=>by
  rw[b6,fe (l:=r) q,O8]
  show(if q=p then u.cnt q+1 else u.cnt q)+_=_
  by_cases h:q=p
  ·rw[NT h,h];simp;omega
  ·rw[NQ h]
   have:(p==q)=false:=beq_eq_false_iff_ne.2 (fun e=>h e.symm)
   rw[this];simp
theorem za (n:Nat):∀{l:List Nat} {u:Uf},u.l n <+: (b6 c u l).l n
 | [],_=>List.prefix_refl _
 | p::r,u=>(List.prefix_append (u.l n) _).trans (za n (l:=r) (u:=au c u p))
theorem FW (hc:bE c):∀{l:List Nat} {u:Uf},iu c u l→∀{p:Nat},p<c.U.length→gG c u p=true →
  ∃m,iu c (au c u p) m∧((p∈l∧(∀x,m.count x=l.count x-(if x=p then 1 else 0))∧b6 c (au c u p) m=b6 c u l) ∨
   (p∉l∧(∀x,m.count x=l.count x)∧gG c (b6 c u l) p=true∧b6 c (au c u p) m=au c (b6 c u l) p))
 | [],u,_,p,hp,QH=>⟨[],trivial,.inr ⟨by simp,fun _=>rfl,QH,rfl⟩⟩
 | q::r,u,⟨hq,hcq,hr⟩,p,hp,QH=>by
  by_cases Ro:p=q
  ·subst Ro
   refine⟨r,hr,.inl ⟨Oi,fun x=>?_,rfl⟩⟩
   rw[O8]
   by_cases h:x=p
   ·rw[NT h,h];simp
   ·have:(p==x)=false:=beq_eq_false_iff_ne.2 (fun e=>h e.symm)
    rw[NQ h,this];simp
  ·obtain⟨m,h1,h2⟩:=FW hc (l:=r) hr hp (y9 hc hq hp (PN Ro) QH)
   have hd:=NB hc hp hq Ro QH hcq
   refine⟨q::m,⟨hq,y9 hc hp hq Ro hcq,by rw[hd];exact h1⟩,?_⟩
   have e:b6 c (au c u p) (q::m)=b6 c (au c (au c u q) p) m:=by rw[b6,hd]
   rcases h2 with ⟨a,b,d⟩ | ⟨a,b,d,f⟩
   ·refine .inl ⟨Oe _ a,fun x=>?_,by rw[e];exact d⟩
    rw[O8,O8,b x]
    by_cases h:x=p
    ·have h0:0<r.count x:=by rw[h];exact List.count_pos_iff.2 a
     rw[NT h];omega
    ·rw[NQ h];omega
   ·refine .inr ⟨fun hm=>?_,fun x=>by rw[O8,O8,b x],d,by rw[e];exact f⟩
    rcases OB.1 hm with h | h
    ·exact Ro h
    ·exact a h
theorem M2 (hc:bE c):∀{l m:List Nat} {u:Uf},iu c u l→iu c u m →
  ∃l' m',iu c (b6 c u l) m'∧iu c (b6 c u m) l'∧b6 c (b6 c u l) m'=b6 c (b6 c u m) l'∧(∀x,m'.count x=m.count x-l.count x)∧∀x,l'.count x=l.count x-m.count x
 | [],m,u,_,hm=>⟨[],m,hm,trivial,rfl,fun x=>by simp,fun x=>by simp⟩
 | p::r,m,u,⟨hp,QH,hr⟩,hm=>by
  obtain⟨m1,h1,h2⟩:=FW hc hm hp QH
  obtain⟨l1,m',a1,a2,a3,a4,a5⟩:=M2 hc (l:=r) (m:=m1) hr h1
  have Uy:∀x,(p::r).count x=r.count x+(if x=p then 1 else 0):=fun x=>by
   rw[O8]
   by_cases h:x=p
   ·rw[NT h,h];simp
   ·have:(p==x)=false:=beq_eq_false_iff_ne.2 (fun e=>h e.symm)
    rw[NQ h,this];simp
  rcases h2 with ⟨b1,b2,b3⟩ | ⟨b1,b2,b3,b4⟩
  ·refine⟨l1,m',a1,by rw[← b3];exact a2,by rw[b6,a3,b3],fun x=>?_,fun x=>?_⟩
   ·rw[a4,b2,Uy];omega
   ·rw[a5,b2,Uy]
    by_cases h:x=p
    ·have h0:0<m.count x:=by rw[h];exact List.count_pos_iff.2 b1
     rw[NT h];omega
    ·rw[NQ h];omega
  ·have h0:m.count p=0:=List.count_eq_zero.2 b1
   refine⟨p::l1,m',a1,⟨hp,b3,by rw[← b4];exact a2⟩,?_,fun x=>?_,fun x=>?_⟩
   ·show b6 c (b6 c (au c u p) r) m'=b6 c (au c (b6 c u m) p) l1
    rw[a3,b4]
   ·rw[a4,b2,Uy]
    by_cases h:x=p
    ·rw[NT h,h];omega
    ·rw[NQ h];omega
   ·rw[O8,a5,b2,Uy]
    by_cases h:x=p
    ·rw[NT h,h];simp;omega
    ·have:(p==x)=false:=beq_eq_false_iff_ne.2 (fun e=>h e.symm)
     rw[NQ h,this];simp
structure Ln (c:Ci) (n:Nat) (u:Uf) (l:List Nat):Prop where
 can:iu c u l
 le:∀p,l.count p≤n
 stop:∀p,p<c.U.length→gG c (b6 c u l) p=true→n≤l.count p
theorem xE {l:List Nat} (h:∀x,l.count x=0):l=[]:=by
 cases l with
 | nil=>rfl
 | cons a r=>have:=h a;rw[O8]at this;simp at this
theorem A3 (hc:bE c) {l m:List Nat} (h:Ln c n u l) (hm:iu c u m) (UW:∀p,m.count p≤n):∃l',iu c (b6 c u m) l'∧b6 c (b6 c u m) l'=b6 c u l∧∀p,m.count p≤l.count p:=by
 obtain⟨l',m',a1,a2,a3,a4,a5⟩:=M2 hc h.can hm
 have Sb:m'=[]:=by
  cases m' with
  | nil=>rfl
  | cons p r =>
   exfalso
   have h1:=a4 p
   rw[O8]at h1
   have h2:=h.stop p a1.1 a1.2.1
   have h3:=UW p
   simp at h1
   omega
 subst Sb
 refine⟨l',a2,a3.symm,fun p=>?_⟩
 have:=a4 p
 simp at this
 omega
theorem Lo (hc:bE c) {l m:List Nat} (h:Ln c n u l) (k:Ln c n u m):b6 c u l=b6 c u m∧∀p,l.count p=m.count p:=by
 obtain⟨l',a1,a2,a3⟩:=A3 hc h k.can k.le
 obtain⟨m',b1,b2,b3⟩:=A3 hc k h.can h.le
 have hcnt:∀p,l.count p=m.count p:=fun p=>Nat.le_antisymm (b3 p) (a3 p)
 have Sb:l'=[]:=by
  refine xE fun x=>?_
  have h1:=fe (c:=c) (l:=l') (u:=b6 c u m) x
  rw[a2,fe,fe,hcnt x]at h1
  omega
 subst Sb
 exact⟨a2.symm,hcnt⟩
end
structure En where
 I:List Int
 NG:List Int
def pZ (e:En):List V:=[.sl 1 (ac .i64) 0 e.I,.sl 1 (ac .i64) 0 e.NG]
abbrev co:En:=⟨[],[]⟩
def gH:Ex:=⟨1,e0,⟨1,e0⟩,⟨1,e0⟩,[]⟩
def aN (s:Sg) (b:List Int) (i:Nat):Ex×Nat:=if b.getD i 0%4=1 then am s b 2 (i+1) 1 else (gH,i+1)
def NC:ByteArray:=bs [97]
def ND:ByteArray:=bs [98]
def NF (k:Nat):ByteArray:=[bs [114],bs [115]].getD k e0
def M3 (k:Nat):ByteArray:=[bs [112],bs [113],bs [117],bs [118]].getD k e0
def My (k:Nat):ByteArray:=[bs [99,48],bs [99,49],bs [99,50],bs [99,51],bs [99,52]].getD k e0
def bB (y:Int) (k:Nat):Int:=1+(y / 4+k)%2
def ra (y:Int):Nat:=(1+y / 2%2).toNat
def KB (y:Int):List Int:=tab (bB y) (ra y)
def KC (y:Int):Sg:=⟨KB y,[],[],false⟩
def zb (y:Int) (n:Nat):Sg:=⟨KB y,List.replicate n 2,[],true⟩
def uw (y:Int) (k:Nat):Rg:=⟨NF k,bB y k,y / 8%2^(bB y k).toNat,dE,⟨[1,1,0].getD (y / 16%3).toNat 0,e0,0⟩⟩
def zc (b:List Int) (y:Int) (i:Nat):Nat→Nat
 | 0=>i
 | k+1=>(aN (KC y) b (zc b y i k)).2
def xH (b:List Int) (y:Int) (n:Nat) (i:Nat):Nat→Nat
 | 0=>i
 | k+1=>(am (zb y n) b 3 (xH b y n i k) (bB y k)).2
def uz (b:List Int) (y:Int) (n:Nat) (i:Nat):Nat→Nat
 | 0=>i
 | k+1=>(am (zb y n) b 2 (aN (zb y n) b (uz b y n i k)).2 2).2
def Ep (b:List Int) (y:Int) (i:Nat) (e:En) (k:Nat):Tk:=⟨e.I.getD k 0,2,(aN (KC y) b (zc b y i k)).1⟩
def Mz (b:List Int) (y:Int) (n i k:Nat):Rg:={ uw y k with next:=(am (zb y n) b 3 (xH b y n i k) (bB y k)).1 }
def GX (b:List Int) (y:Int) (n i:Nat) (e:En) (k:Nat):Pt:=⟨e.NG.getD k 0,2,(aN (zb y n) b (uz b y n i k)).1,(am (zb y n) b 2 (aN (zb y n) b (uz b y n i k)).2 2).1⟩
def MA (y:Int):ByteArray:=[NC,ND].getD (y%2).toNat e0
def lP (b:List Int) (i:Nat) (e:En):Nat:=zc b (b.getD i 0) (i+1) e.I.length
def kK (b:List Int) (i:Nat) (e:En):Nat:=xH b (b.getD i 0) e.I.length (lP b i e) (ra (b.getD i 0))
def bo (b:List Int) (i:Nat) (nm:ByteArray) (e:En):Pr×Nat :=
 (⟨nm,MA (b.getD i 0),tab (Mz b (b.getD i 0) e.I.length (lP b i e)) (ra (b.getD i 0)),[],tab (Ep b (b.getD i 0) (i+1) e) e.I.length,tab (GX b (b.getD i 0) e.I.length (kK b i e) e) e.NG.length⟩,
  uz b (b.getD i 0) e.I.length (kK b i e) e.NG.length)
def ah (s:Int):List En :=
 if s%6=0 then [⟨[0],[1]⟩]
 else if s%6=1 then [⟨[0],[1]⟩,⟨[1],[2]⟩]
 else if s%6=2 then [⟨[0],[1,2]⟩,⟨[1],[3]⟩,⟨[2],[4]⟩]
 else if s%6=3 then [⟨[0,2],[1]⟩,⟨[1],[2,3]⟩]
 else if s%6=4 then [⟨[0],[2]⟩,⟨[1],[3]⟩,⟨[2,3],[4]⟩]
 else [⟨[0],[1]⟩,⟨[1],[2]⟩,⟨[2],[3]⟩,⟨[3],[4]⟩]
theorem xI {s:Sg} {b:List Int} {i:Nat} (h:b.getD i 0%4=1):aN s b i=am s b 2 (i+1) 1:=NT h
theorem xJ {s:Sg} {b:List Int} {i:Nat} (h:¬b.getD i 0%4=1):aN s b i=(gH,i+1):=NQ h
def sr (l:List Int) (n:Int):Bool:=!dC (fun i=>!decide (l.getD i 0=n)) l.length
theorem zd {l:List Int} {n:Int} {i:Nat} (hi:i<l.length) (h:l.getD i 0=n):sr l n=true:=by
 unfold sr;rw[iV hi (by rw[Og h];rfl)];rfl
theorem CJ {l:List Int} {n:Int} (h:∀i,i<l.length→¬l.getD i 0=n):sr l n=false:=by
 unfold sr;rw[b7.2 (fun i hi=>by rw[N5 (h i hi)];rfl)];rfl
theorem wz {x w:Int} (h0:0≤w) (h6:w≤62):IntKind.wrap .i64 ((BitVec.ofInt (IntKind.i64).bits x &&& BitVec.ofInt (IntKind.i64).bits (ao w)).toNat:Int)=x%2^w.toNat:=by
 rw[dr h0 h6];exact lu (by omega)
theorem xK {s:Sg} {b:List Int} (hb:oM b) {d i:Nat} {w:Int} (hd:d≤3) (h1:1≤w) (h2:w+d≤8):i≤(am s b d i w).2∧(am s b d i w).2≤i+64:=by
 have h:=(t9 (s:=s) hb d i w hd h1 h2).2.2
 have:4^d≤4^3:=Pv (by omega) hd
 omega
theorem uA {s:Sg} {b:List Int} (hb:oM b) {i:Nat}:i≤(aN s b i).2∧(aN s b i).2≤i+100:=by
 unfold aN
 split
 ·have:=xK (s:=s) hb (d:=2) (i:=i+1) (w:=1) (by omega) (by omega) (by omega);omega
 ·simp only;omega
theorem xL (y:Int) (k:Nat):1≤bB y k∧bB y k≤2:=by unfold bB;omega
theorem sU {b:List Int} (hb:oM b) (y:Int) (i:Nat):∀k,i≤zc b y i k∧zc b y i k≤i+100*k
 | 0=>⟨NN _,NN _⟩
 | k+1=>by
  have h1:=sU hb y i k
  have h2:=uA (s:=KC y) hb (i:=zc b y i k)
  rw[zc];omega
theorem sV {b:List Int} (hb:oM b) (y:Int) (n i:Nat):∀k,i≤xH b y n i k∧xH b y n i k≤i+100*k
 | 0=>⟨NN _,NN _⟩
 | k+1=>by
  have h1:=sV hb y n i k
  have h3:=xL y k
  have h2:=xK (s:=zb y n) hb (d:=3) (i:=xH b y n i k) (w:=bB y k) (by omega) (by omega) (by omega)
  rw[xH];omega
theorem xM {b:List Int} (hb:oM b) (y:Int) (n i:Nat):∀k,i≤uz b y n i k∧uz b y n i k≤i+200*k
 | 0=>⟨NN _,NN _⟩
 | k+1=>by
  have h1:=xM hb y n i k
  have h3:=uA (s:=zb y n) hb (i:=uz b y n i k)
  have h2:=xK (s:=zb y n) hb (d:=2) (i:=(aN (zb y n) b (uz b y n i k)).2) (w:=2) (by omega) (by omega) (by omega)
  rw[uz];omega
theorem A4 {y:Int} (h:0≤y):(ra y:Int)=1+y / 2%2∧ra y≤2:=by unfold ra;omega
def DZ (b:List Int) (l:List En):Nat→Nat
 | 0=>0
 | i+1=>(bo b (DZ b l i) (M3 i) (l.getD i co)).2
def qq (b:List Int) (l:List En) (i:Nat):Pr:=(bo b (DZ b l i) (M3 i) (l.getD i co)).1
def Lq (l:List Int) (a:Int):Nat→Int
 | 0=>a
 | k+1=>GZ (Lq l a k) (l.getD k 0)
def p6 (l:List En):Nat→Int
 | 0=>0
 | i+1=>Lq (l.getD i co).NG (p6 l i) (l.getD i co).NG.length
def yd (l:List En) (n:Int):Nat→Int
 | 0=>-1
 | i+1=>if sr (l.getD i co).I n=true then (i:Int)else yd l n i
def ye (l:List En) (n:Int):Nat→Int
 | 0=>-1
 | i+1=>if sr (l.getD i co).NG n=true then (i:Int)else ye l n i
def ss (sh:Int) (l:List En) (n:Nat):Ch:=⟨My n,2,if 0≤ye l n l.length∧0≤yd l n l.length then 1+(sh / 6+n)%3 else 0,ye l n l.length,yd l n l.length⟩
def iH (sh:Int):Nat:=(p6 (ah sh) (ah sh).length).toNat+1
def ab (sh:Int) (b:List Int):Ci:=⟨tab (qq b (ah sh)) (ah sh).length,tab (ss sh (ah sh)) (iH sh)⟩
theorem iw (sh:Int):ah sh=[⟨[0],[1]⟩]∨ah sh=[⟨[0],[1]⟩,⟨[1],[2]⟩]∨ah sh=[⟨[0],[1,2]⟩,⟨[1],[3]⟩,⟨[2],[4]⟩]∨ah sh=[⟨[0,2],[1]⟩,⟨[1],[2,3]⟩]∨ah sh=[⟨[0],[2]⟩,⟨[1],[3]⟩,⟨[2,3],[4]⟩]∨ah sh=[⟨[0],[1]⟩,⟨[1],[2]⟩,⟨[2],[3]⟩,⟨[3],[4]⟩]:=by
 unfold ah
 split
 ·exact .inl rfl
 split
 ·exact .inr (.inl rfl)
 split
 ·exact .inr (.inr (.inl rfl))
 split
 ·exact .inr (.inr (.inr (.inl rfl)))
 split
 ·exact .inr (.inr (.inr (.inr (.inl rfl))))
 ·exact .inr (.inr (.inr (.inr (.inr rfl))))
theorem ze (sh:Int):1≤(ah sh).length∧(ah sh).length≤4:=by
 rcases iw sh with h | h | h | h | h | h<;>rw[h]<;>decide
theorem mP (sh:Int) (i:Nat):((ah sh).getD i co).I.length≤2∧((ah sh).getD i co).NG.length≤2:=by
 have key:∀e∈ah sh,e.I.length≤2∧e.NG.length≤2:=by
  rcases iw sh with h | h | h | h | h | h<;>rw[h]<;>simp
 by_cases hi:i<(ah sh).length
 ·rw[cO _ _ hi];exact key _ (Pq hi)
 ·rw[List.getD,OL (by omega)];decide
theorem CL (sh:Int):0≤p6 (ah sh) (ah sh).length∧p6 (ah sh) (ah sh).length≤4:=by
 rcases iw sh with h | h | h | h | h | h<;>rw[h]<;>decide
theorem FX (sh:Int):(iH sh:Int)=p6 (ah sh) (ah sh).length+1∧iH sh≤5:=by
 have:=CL sh;unfold iH;omega
theorem CM {b:List Int} (hb:oM b) (sh:Int):∀i,DZ b (ah sh) i≤1000*i
 | 0=>NN _
 | i+1=>by
  have h1:=CM hb sh i
  have he:=mP sh i
  rw[DZ]
  unfold bo
  simp only
  generalize DZ b (ah sh) i=p at *
  generalize (ah sh).getD i co=e at *
  have hy:=d6 hb p
  have hn:=A4 hy.1
  have a1:p+1≤lP b p e∧lP b p e≤p+1+100*e.I.length:=sU hb (b.getD p 0) (p+1) e.I.length
  have a2:lP b p e≤kK b p e∧kK b p e≤lP b p e+100*ra (b.getD p 0):=sV hb (b.getD p 0) e.I.length (lP b p e) (ra (b.getD p 0))
  have a3:=xM hb (b.getD p 0) e.I.length (kK b p e) e.NG.length
  omega
theorem FY (l:List En) (n:Int):∀i,-1≤yd l n i∧yd l n i<i
 | 0=>by simp[yd]
 | i+1=>by have:=FY l n i;rw[yd];split<;>omega
theorem A5 (l:List En) (n:Int):∀i,-1≤ye l n i∧ye l n i<i
 | 0=>by simp[ye]
 | i+1=>by have:=A5 l n i;rw[ye];split<;>omega
theorem IT {x:Int} (h0:0≤x) (h1:x≤255):IntKind.wrap .u8 x=x:=MZ rfl h0 h1
def lQ (b:List Int) (i:Nat) (w:Int) (k:Nat):Int:=b.getD (i+(1+k)) 0%2^w.toNat
theorem MB {x:Int} (h0:0≤x) (h1:x≤255):IntKind.wrap .u8 (Int.tdiv x 6)=x / 6:=by
 rw[Int.tdiv_eq_ediv_of_nonneg h0];exact IT (by omega) (by omega)
theorem FZ {sh:Int} {l:List En} {n:Nat} {fr to:Int} (h1:0≤ye l n l.length) (h2:0≤yd l n l.length) (h3:fr=ye l n l.length) (h4:to=yd l n l.length):(⟨My n,2,1+(sh / 6+n)%3,fr,to⟩:Ch)=ss sh l n:=by
 unfold ss;rw[NT ⟨h1,h2⟩,h3,h4]
theorem F0 {sh:Int} {l:List En} {n:Nat} {fr to:Int} (h:¬(0≤ye l n l.length∧0≤yd l n l.length)) (h3:fr=ye l n l.length) (h4:to=yd l n l.length):(⟨My n,2,0,fr,to⟩:Ch)=ss sh l n:=by
 unfold ss;rw[NQ h,h3,h4]
theorem F1 {p:Pr} (hp:gt p):pP p (aQ p) where
 rl:=by simp[aQ]
 rv:=fun i hi=>by
  rw[show(aQ p).NI=p.NI.map (·.init)from rfl]
  have:=(hp.rw i hi).2.1
  simpa[List.getD,N4,NM hi]using this
 ml:=by simp[aQ]
 mn:=fun i hi=>by
  have h2:=(hp.mw i hi).2.1
  rw[show(aQ p).NH=p.NH.map (fun m=>List.replicate m.NJ.toNat 0)from rfl]
  have:(p.NH.map (fun m=>List.replicate m.NJ.toNat (0:Int))).getD i []=List.replicate (kJ p i).NJ.toNat 0:=by
   simp[List.getD,N4,NM hi]
  rw[this,NR];omega
 mv:=fun i hi j hj=>by
  rw[show(aQ p).NH=p.NH.map (fun m=>List.replicate m.NJ.toNat 0)from rfl]at hj ⊢
  have:(p.NH.map (fun m=>List.replicate m.NJ.toNat (0:Int))).getD i []=List.replicate (kJ p i).NJ.toNat 0:=by
   simp[List.getD,N4,NM hi]
  rw[this,gu]
  exact oP (hp.mw i hi).1
theorem JQ {b:List Int} {i:Nat} {w:Int} {k:Nat} (h1:1≤w) (h2:w≤62):dk (lQ b i w k) w:=by
 unfold lQ dk
 rw[dr (by omega) h2]
 have hp:(0:Int)<2^w.toNat:=Int.pow_pos (by omega)
 exact⟨Pm _ (by omega),by have:=Pg (b.getD (i+(1+k)) 0) hp;omega⟩
def gw (n:Nat) (cnt:Nat→Nat):Nat→Nat
 | 0=>0
 | P+1=>gw n cnt P+(n-cnt P)
theorem p7 {n p:Nat} {cnt:Nat→Nat} (h:cnt p<n):∀P,gw n (fun q=>if q=p then cnt q+1 else cnt q) P+(if p<P then 1 else 0)=gw n cnt P
 | 0=>rfl
 | P+1=>by
  have ih:=p7 (p:=p) h P
  rw[gw,gw]
  by_cases e:P=p
  ·subst e
   rw[NQ (Nat.lt_irrefl _)]at ih
   rw[NT (Nat.lt_succ_self _)]
   simp only[Pe]
   omega
  ·simp only[NQ e]
   by_cases g:p<P
   ·rw[NT g]at ih;rw[NT (by omega)];omega
   ·rw[NQ g]at ih;rw[NQ (by omega)];omega
theorem A6 (n:Nat) (cnt:Nat→Nat):∀P,gw n cnt P≤n*P
 | 0=>NN _
 | P+1=>by have:=A6 n cnt P;rw[gw,Nat.mul_succ];omega
def CP (c:Ci) (n:Nat) (u:Uf):Option Nat:=(List.range c.U.length).find? (fun p=>gG c u p&&decide (u.cnt p<n))
def JR (c:Ci) (n:Nat):Nat→Uf→List Nat
 | 0,_=>[]
 | k+1,u=>match CP c n u with
  | some p=>p::JR c n k (au c u p)
  | none=>[]
section
variable {c:Ci} {u v:Uf} {p n:Nat}
theorem D0 (h:CP c n u=some p):p<c.U.length∧gG c u p=true∧u.cnt p<n:=by
 have h1:=List.mem_of_find?_eq_some h
 have h2:=List.find?_some h
 rw[NK,OO]at h2
 exact⟨OJ.1 h1,h2.1,h2.2⟩
theorem D1 (h:CP c n u=none):∀p,p<c.U.length→gG c u p=true→n≤u.cnt p:=by
 intro p hp QH
 have:=List.find?_eq_none.1 h p (OJ.2 hp)
 rw[QH,Pw,OO]at this
 omega
theorem IU:∀(k:Nat) (u:Uf),gw n u.cnt c.U.length≤k→iu c u (JR c n k u)∧(∀q,u.cnt q≤n→(b6 c u (JR c n k u)).cnt q≤n)∧∀p,p<c.U.length→gG c (b6 c u (JR c n k u)) p=true→n≤(b6 c u (JR c n k u)).cnt p
 | 0,u,h=>by
  refine⟨trivial,fun q hq=>hq,fun p hp _=>?_⟩
  refine Nat.not_lt.1 fun Ql=>?_
  have UK:u.cnt p<n:=Ql
  have:=p7 UK c.U.length
  rw[NT hp]at this
  omega
 | k+1,u,h=>by
  rw[JR]
  cases hk:CP c n u with
  | none=>exact⟨trivial,fun q hq=>hq,D1 hk⟩
  | some p =>
   obtain⟨h1,h2,h3⟩:=D0 hk
   have hr:=p7 h3 c.U.length
   rw[NT h1]at hr
   obtain⟨a,b,d⟩:=IU k (au c u p) (by show gw n (fun q=>if q=p then u.cnt q+1 else u.cnt q) c.U.length≤k;omega)
   refine⟨⟨h1,h2,a⟩,fun q hq=>b q ?_,d⟩
   show(if q=p then u.cnt q+1 else u.cnt q)≤n
   split
   ·rename_i e;rw[e];omega
   ·exact hq
def u0 (c:Ci) (F':List (List Int)):Uf:=⟨fun p=>if p<c.U.length then aQ (aJ c p)else cB,fun n=>F'.getD n [],fun _=>0,fun _=>0⟩
def F2 (c:Ci) (F':List (List Int)) (n:Nat):List Nat:=JR c n (n*c.U.length) (u0 c F')
def cg (c:Ci) (F':List (List Int)) (n:Nat):Uf:=b6 c (u0 c F') (F2 c F' n)
theorem F3 (c:Ci) (F':List (List Int)) (n:Nat):Ln c n (u0 c F') (F2 c F' n):=by
 obtain⟨a,b,d⟩:=IU (c:=c) (n:=n) (n*c.U.length) (u0 c F') (A6 _ _ _)
 have hc:∀q,(b6 c (u0 c F') (F2 c F' n)).cnt q=(F2 c F' n).count q:=fun q=>by rw[fe];show 0+_=_;omega
 exact⟨a,fun q=>by rw[← hc];exact b q (Oy _),fun p hp QH=>by rw[← hc];exact d p hp QH⟩
theorem HX (c:Ci) (F':List (List Int)) (n q:Nat):(cg c F' n).cnt q=(F2 c F' n).count q:=by
 unfold cg;rw[fe];show 0+_=_;omega
theorem JS (hc:bE c) {F':List (List Int)} {l:List Nat} (h:Ln c n (u0 c F') l):b6 c (u0 c F') l=cg c F' n:=(Lo hc h (F3 c F' n)).1
theorem D2 (hc:bE c) {F':List (List Int)} {m:List Nat} (hm:iu c (u0 c F') m) (UW:∀p,m.count p≤n):(∀k,(b6 c (u0 c F') m).l k <+: (cg c F' n).l k)∧∀p,m.count p≤(cg c F' n).cnt p:=by
 obtain⟨l',a1,a2,a3⟩:=A3 hc (F3 c F' n) hm UW
 refine⟨fun k=>?_,fun p=>by rw[HX];exact a3 p⟩
 have:=za (c:=c) k (l:=l') (u:=b6 c (u0 c F') m)
 rw[a2]at this
 exact this
structure su (c:Ci) (F':List (List Int)):Prop where
 l:F'.length=c.J.length
 ex:∀n,n<c.J.length→(b9 c n).frm≠-1→F'.getD n []=[]
 fv:∀n,n<c.J.length→∀i,i<(F'.getD n []).length→dk ((F'.getD n []).getD i 0) (b9 c n).w
 sm:∀n,(F'.getD n []).length≤1000
end
section
variable {c:Ci} {s:Ns} {u:Uf} {p n:Nat}
def IV (c:Ci) (b:List Int) (q n:Nat):Nat:=if (b9 c n).frm<0 then (b.getD q 0%8).toNat else 0
def inQ (c:Ci) (b:List Int):Nat→Nat
 | 0=>0
 | n+1=>if (b9 c n).frm<0 then inQ c b n+(1+(b.getD (inQ c b n) 0%8).toNat)else inQ c b n
def rb (c:Ci) (b:List Int) (n:Nat):List Int:=tab (lQ b (inQ c b n) (b9 c n).w) (IV c b (inQ c b n) n)
def bc (c:Ci) (b:List Int):List (List Int):=tab (rb c b) c.J.length
theorem JT (c:Ci) {b:List Int} (hb:oM b) (q n:Nat):IV c b q n≤7:=by
 have:=d6 hb q
 unfold IV;split<;>omega
theorem Lr (hc:bE c) {b:List Int} (hb:oM b) (hf:∀n,n<c.J.length→-1≤(b9 c n).frm):su c (bc c b):=by
 have hat:∀n,n<c.J.length→(bc c b).getD n []=rb c b n:=fun n hn=>aI hn
 refine⟨ax _ _,fun n hn h=>?_,fun n hn i hi=>?_,fun n=>?_⟩
 ·rw[hat n hn]
  unfold rb IV
  rw[NQ (by have:=hf n hn;omega)];rfl
 ·rw[hat n hn]at hi ⊢
  unfold rb at hi ⊢
  rw[ax]at hi
  rw[aI hi]
  have hw:=bf.1 (hc.cw n hn)
  exact JQ hw.1 (by omega)
 ·by_cases hn:n<c.J.length
  ·rw[hat n hn]
   unfold rb
   rw[ax]
   exact Pb (JT c hb _ _) (by decide)
  ·rw[show(bc c b).getD n []=[]from HI (by omega)];exact Oy _
def gx:List Int→List Int→Nat
 | x::a,y::b=>if x=y then gx a b+1 else 0
 | _,_=>0
theorem F4:∀a b,gx a b≤a.length∧gx a b≤b.length
 | [],_=>⟨Oy _,Oy _⟩
 | x::a,[]=>⟨Oy _,Oy _⟩
 | x::a,y::b=>by
  have:=F4 a b
  rw[gx];split<;>simp<;>omega
theorem xN:∀a b:List Int,¬gx a b<a.length↔a <+: b
 | [],b=>⟨fun _=>List.nil_prefix,fun _=>by simp⟩
 | x::a,[]=>⟨fun h=>absurd (show gx (x::a) []<(x::a).length from Nat.succ_pos _) h,fun h=>by simp at h⟩
 | x::a,y::b=>by
  rw[List.cons_prefix_cons,← xN a b,gx]
  split
  ·rename_i h;simp[h]
  ·rename_i h;simp[h]
theorem F5:∀{a b:List Int} {i:Nat},i<gx a b→a.getD i 0=b.getD i 0
 | [],_,_,h=>by simp[gx]at h
 | x::a,[],_,h=>by simp[gx]at h
 | x::a,y::b,i,h=>by
  rw[gx]at h
  split at h
  ·rename_i e
   cases i with
   | zero=>simpa using e
   | succ i =>
    have:=F5 (a:=a) (b:=b) (i:=i) (by omega)
    simpa using this
  ·omega
theorem F6:∀{a b:List Int},gx a b<a.length→gx a b<b.length→a.getD (gx a b) 0≠b.getD (gx a b) 0
 | [],_,h,_=>by simp at h
 | x::a,[],_,h=>by simp at h
 | x::a,y::b,h,k=>by
  rw[gx]at h k ⊢
  split
  ·rename_i e
   rw[NT e]at h k
   have:=F6 (a:=a) (b:=b) (by simpa using h) (by simpa using k)
   simpa using this
  ·rename_i e;simpa using e
theorem xO {a b:List Int} {i:Nat} (h1:i≤a.length) (h2:i≤b.length) (h:∀j,j<i→a.getD j 0=b.getD j 0) (h3:¬(i<a.length∧i<b.length∧a.getD i 0=b.getD i 0)):gx a b=i:=by
 rcases Nat.lt_trichotomy (gx a b) i with h4 | h4 | h4
 ·exact absurd (h _ h4) (F6 (by omega) (by omega))
 ·exact h4
 ·have:=F4 a b
  exact absurd ⟨by omega,by omega,F5 h4⟩ h3
def p8 (a b:List (List Int)):Bool:=decide (a.length=b.length)&&dC (fun i=>!decide (gx (a.getD i []) (b.getD i [])<(a.getD i []).length)) a.length
theorem HY {a b:List (List Int)}:p8 a b=true↔a.length=b.length∧∀i,i<a.length→a.getD i [] <+: b.getD i []:=by
 unfold p8
 rw[NK,OO,b7]
 refine⟨fun ⟨h1,h2⟩=>⟨h1,fun i hi=>(xN _ _).1 ?_⟩,fun ⟨h1,h2⟩=>⟨h1,fun i hi=>?_⟩⟩
 ·have:=h2 i hi;simpa using this
 ·have:=(xN _ _).2 (h2 i hi)
  rw[N5 this];rfl
end
structure CQ (c:Ci) (u:Uf):Prop where
 ps:∀p,p<c.U.length→pP (aJ c p) (u.s p)
 fv:∀n,n<c.J.length→∀i,i<(u.l n).length→dk ((u.l n).getD i 0) (b9 c n).w
 rd:∀n,n<c.J.length→u.rd n≤(u.l n).length
section
variable {c:Ci} {u v:Uf} {p n k:Nat} {f:Fi} {F':List (List Int)}
theorem p9 (hc:bE c) (h:CQ c u) (hp:p<c.U.length):AU (aJ c p) (ur c u p) where
 l:=by rw[ur,ax]
 v:=fun i hi hh=>by
  rw[ur,aI hi]at hh ⊢
  unfold HV at hh ⊢
  split
  ·rename_i h0
   obtain⟨k1,k2,k3,k4⟩:=hc.tk p hp i hi
   have:=h.fv (cj (aJ c p) i) (by show(lI (aJ c p) i).chan.toNat<_;omega) _ h0
   rw[k3]at this
   exact this
  ·rename_i h0;rw[NQ h0]at hh;cases hh
theorem zf (hc:bE c) (hp:p<c.U.length):(eV c p f n).length≤1:=by
 rw[eV,N1];exact CG hc hp n (NN _)
theorem zg (hc:bE c) (h:CQ c u) (hp:p<c.U.length) (QH:gG c u p=true):CQ c (au c u p) where
 ps:=fun q hq=>by
  show pP _ (if q=p then _ else u.s q)
  by_cases e:q=p
  ·rw[NT e,e];exact nX (hc.pr p hp) (h.ps p hp) (p9 hc h hp)
  ·rw[NQ e];exact h.ps q hq
 fv:=fun n hn i hi=>by
  have hl:(au c u p).l n=u.l n++eV c p (ft c u p) n:=rfl
  rw[hl]at hi ⊢
  rw[lM]
  split
  ·rename_i h0;exact h.fv n hn i h0
  ·rename_i h0
   rw[NY]at hi
   have hm:=mN (d:=(0:Int)) (show i-(u.l n).length<(eV c p (ft c u p) n).length by omega)
   generalize (eV c p (ft c u p) n).getD _ 0=v at hm
   unfold eV at hm
   obtain⟨e,he,rfl⟩:=P4.1 hm
   obtain⟨h1,h2⟩:=PV.1 he
   rw[P5]at h2
   obtain⟨j,j1,j2,j3,j4⟩:=pX h1
   have:=pQ (rs:=JO c p) (hc.pr p hp) (h.ps p hp) (p9 hc h hp) j1 j2
   rw[← (hc.pt p hp j j1).2.2.1,j3,h2]at this
   rw[← j4];exact this
 rd:=fun n hn=>by
  show u.rd n+fS c p (ft c u p) n≤(u.l n++eV c p (ft c u p) n).length
  rw[NY]
  have h0:=h.rd n hn
  unfold fS
  split
  ·rename_i hm
   obtain⟨j,j1,j2,j3⟩:=gU hm
   unfold gG ft at QH
   rw[dQ]at QH
   have:=sT QH j1 j2
   rw[ur,aI j1]at this
   unfold HV at this
   split at this
   ·rename_i Ql;rw[j3]at Ql;omega
   ·cases this
  ·omega
def uB (c:Ci) (n:Nat) (u:Uf) (k:Nat):Bool:=decide (u.cnt k<n)&&gG c u k
def bI (c:Ci) (n:Nat) (u:Uf) (k:Nat):Fi:=if u.cnt k<n then ft c u k else ⟨false,cB,[],[]⟩
theorem F9 (h:n≤u.cnt k):bI c n u k=⟨false,cB,[],[]⟩:=NQ (by omega)
theorem xP (h:u.cnt k<n):bI c n u k=ft c u k:=NT h
theorem CR (h:n≤u.cnt k):uB c n u k=false:=by rw[uB,N5 (by omega)];rfl
theorem uC (h:u.cnt k<n):uB c n u k=gG c u k:=by rw[uB,Og h];rfl
theorem uD (h:uB c n u k=true):u.cnt k<n∧gG c u k=true:=by
 unfold uB at h;simpa using h
structure UI (c:Ci) (F':List (List Int)) (n:Nat) (u:Uf):Prop where
 run:∃m,iu c (u0 c F') m∧u=b6 c (u0 c F') m
 cn:∀q,u.cnt q≤n
 ok:CQ c u
 ln:∀k,(u.l k).length+gw n u.cnt c.U.length≤1000+n*c.U.length
theorem IW (hc:bE c) (h:su c F'):CQ c (u0 c F') where
 ps:=fun p hp=>by
  show pP _ (if p<c.U.length then _ else _)
  rw[NT hp];exact F1 (hc.pr p hp)
 fv:=h.fv
 rd:=fun n hn=>Oy _
theorem Ga (hc:bE c) (h:su c F') (n:Nat):UI c F' n (u0 c F') where
 run:=⟨[],trivial,rfl⟩
 cn:=fun q=>Oy _
 ok:=IW hc h
 ln:=fun k=>by
  have:=h.sm k
  have:=A6 n (u0 c F').cnt c.U.length
  show(F'.getD k []).length+_≤_
  omega
theorem qa (hp:p<c.U.length) (h:uB c n u p=true):gw n (au c u p).cnt c.U.length+1=gw n u.cnt c.U.length:=by
 have:=p7 (uD h).1 c.U.length
 rw[NT hp]at this
 exact this
theorem CT (hc:bE c) (h:UI c F' n u) (hp:p<c.U.length) (Uy:uB c n u p=true):UI c F' n (au c u p) where
 run:=by
  obtain⟨m,h1,h2⟩:=h.run
  refine⟨m++[p],lO h1 ⟨hp,by rw[← h2];exact(uD Uy).2,trivial⟩,by rw[iv,← h2];rfl⟩
 cn:=fun q=>by
  show(if q=p then u.cnt q+1 else u.cnt q)≤n
  have:=h.cn q
  have:=(uD Uy).1
  split
  ·rename_i e;rw[e];omega
  ·omega
 ok:=zg hc h.ok hp (uD Uy).2
 ln:=fun k=>by
  have h1:=h.ln k
  have h2:=qa hp Uy
  have h3:=zf (f:=ft c u p) (n:=k) hc hp
  show(u.l k++eV c p (ft c u p) k).length+_≤_
  rw[NY]
  omega
theorem Gb (h:UI c F' n u) (k:Nat):(u.l k).length≤1000+n*c.U.length:=by have:=h.ln k;omega
theorem JV (hc:bE c) (h:UI c F' n u) (he:∀p,p<c.U.length→uB c n u p=false):u=cg c F' n:=by
 obtain⟨m,h1,h2⟩:=h.run
 have hcn:∀q,u.cnt q=m.count q:=fun q=>by rw[h2,fe];show 0+_=_;omega
 rw[h2]
 refine JS hc ⟨h1,fun q=>by rw[← hcn];exact h.cn q,fun p hp QH=>?_⟩
 rw[← h2]at QH
 have:=he p hp
 rw[← hcn]
 refine Nat.le_of_not_lt fun Ql=>?_
 rw[uC Ql,QH]at this
 cases this
abbrev cr (c:Ci) (u:Uf):List (List Int):=tab u.l c.J.length
abbrev iC (c:Ci) (u:Uf):List Ps:=tab u.s c.U.length
abbrev jd (c:Ci) (u:Uf):List Int:=tab (fun m=>(u.rd m:Int)) c.J.length
abbrev eM (c:Ci) (u:Uf):List Int:=tab (fun q=>(u.cnt q:Int)) c.U.length
theorem JW (hp:p<c.U.length):(iC c u).set p (ft c u p).s=iC c (au c u p):=by
 refine gq (d:=cB) (by simp[ax]) (fun i hi=>?_)
 rw[Ok,ax]at hi
 rw[be (by rw[ax];exact hp),aI hi,aI hi]
 show _=(if i=p then _ else u.s i)
 by_cases e:p=i
 ·rw[NT e,NT e.symm]
 ·rw[NQ e,NQ (fun q=>e q.symm)]
theorem JX (hp:p<c.U.length):(eM c u).set p ((u.cnt p:Int)+1)=eM c (au c u p):=by
 refine gq (d:=(0:Int)) (by simp[ax]) (fun i hi=>?_)
 rw[Ok,ax]at hi
 rw[be (by rw[ax];exact hp),aI hi,aI hi]
 show _=(((if i=p then u.cnt i+1 else u.cnt i:Nat)):Int)
 by_cases e:p=i
 ·rw[NT e,NT e.symm,← e];simp
 ·rw[NQ e,NQ (fun q=>e q.symm)]
def jt (l:List Int) (ev:List Nat):List Int:=ev.foldl (fun l n=>l.set n (l.getD n 0+1)) l
theorem rc (ev:List Nat):∀(l:List Int),(jt l ev).length=l.length:=by
 induction ev with
 | nil=>intro l;rfl
 | cons a r ih=>intro l;rw[jt,List.foldl_cons];exact(ih _).trans (Ok ..)
theorem A8 (l:List Int) (ev:List Nat) (n:Nat):jt l (ev++[n])=(jt l ev).set n ((jt l ev).getD n 0+1):=by simp[jt,List.foldl_append]
theorem wA (ev:List Nat):∀(l:List Int) (n:Nat),n<l.length→(jt l ev).getD n 0=l.getD n 0+(ev.count n:Int):=by
 induction ev with
 | nil=>intro l n hn;show l.getD n 0=_;simp
 | cons a r ih =>
  intro l n hn
  rw[jt,List.foldl_cons]
  refine(ih _ n (by rw[Ok];exact hn)).trans ?_
  rw[O8]
  by_cases e:a=n
  ·subst e;rw[be hn,NT rfl];simp;omega
  ·rw[show(l.set a (l.getD a 0+1)).getD n 0=l.getD n 0 by simp[List.getD,P0,e]]
   have:(a==n)=false:=beq_eq_false_iff_ne.2 e
   rw[this];simp
theorem JY (hc:bE c) (hp:p<c.U.length):jt (jd c u) (nZ (aJ c p) (ft c u p) (aJ c p).I.length)=jd c (au c u p):=by
 refine gq (d:=(0:Int)) (by rw[rc,ax,ax]) (fun i hi=>?_)
 rw[rc,ax]at hi
 rw[wA _ _ _ (by rw[ax];exact hi),aI hi,aI hi,qZ hc i hp (NN _)]
 show _=((u.rd i+fS c p (ft c u p) i:Nat):Int)
 unfold fS
 split<;>simp
theorem Ls (hc:bE c) (hp:p<c.U.length) (hk:k≤(aJ c p).I.length) (hn:n<c.J.length):0≤(jt (jd c u) (nZ (aJ c p) f k)).getD n 0∧(jt (jd c u) (nZ (aJ c p) f k)).getD n 0≤u.rd n+1:=by
 rw[wA _ _ _ (by rw[ax];exact hn),aI hn,qZ hc n hp hk]
 split<;>constructor<;>simp<;>omega
theorem JZ (hc:bE c) (hp:p<c.U.length):d8 (cr c u) (pW (aJ c p) (ft c u p) (aJ c p).NG.length)=cr c (au c u p):=by
 refine gq (d:=[]) (by rw[lL,ax,ax]) (fun i hi=>?_)
 rw[lL,ax]at hi
 rw[rX _ _ _ (by rw[ax];exact hi),aI hi,aI hi]
 rfl
theorem Lu (hn:n<c.J.length):((d8 (cr c u) (pW (aJ c p) f k)).getD n []).length≤(u.l n).length+k:=by
 have h1:=HU (pW (aJ c p) f k) (cr c u) n (by rw[ax];exact hn)
 rw[aI hn]at h1
 exact Pb h1 (Nat.add_le_add_left CI _)
def ve (c:Ci) (F':List (List Int)) (n:Nat):Bool:=decide ((F'.getD n []).length≤1000)&&((decide ((F'.getD n []).length=0)||decide ((b9 c n).frm=-1))&&iW (F'.getD n []) (b9 c n).w)
def gy (c:Ci) (F':List (List Int)):Bool:=decide (F'.length=c.J.length)&&dC (ve c F') c.J.length
theorem mQ:gy c F'=true↔su c F':=by
 unfold gy ve
 simp only[NK,OO,b7,Oq,y7]
 constructor
 ·rintro⟨h1,h2⟩
  refine⟨h1,fun n hn hf=>?_,fun n hn=>(h2 n hn).2.2,fun n=>?_⟩
  ·rcases(h2 n hn).2.1 with h | h
   ·exact Oj h
   ·exact absurd h hf
  ·by_cases hn:n<c.J.length
   ·exact(h2 n hn).1
   ·rw[Od,OL (by omega)];simp
 ·rintro⟨h1,h2,h3,h4⟩
  refine⟨h1,fun n hn=>⟨h4 n,?_,h3 n hn⟩⟩
  by_cases hf:(b9 c n).frm=-1
  ·exact .inr hf
  ·exact .inl (by rw[h2 n hn hf];rfl)
def cX (c:Ci) (F':List (List Int)) (n:Int):List (List Int)×List Int×Int:=if gy c F'=true∧0≤n∧n≤100 then (cr c (cg c F' n.toNat),eM c (cg c F' n.toNat),0)else ([],[],1)
theorem sW {k:Int} (h:¬(gy c F'=true∧0≤k∧k≤100)):cX c F' k=([],[],1):=NQ h
theorem lR {k:Int} (h:gy c F'=true) (h2:0≤k∧k≤100):cX c F' k=(cr c (cg c F' k.toNat),eM c (cg c F' k.toNat),0):=NT ⟨h,h2⟩
end
section
variable {a b:List (List Int)} {i:Nat} {c:Ci} {n:Nat} {F':List (List Int)}
theorem xQ (h:¬a.length=b.length):p8 a b=false:=by rw[p8,N5 h];rfl
theorem xR (hi:i<a.length) (h:gx (a.getD i []) (b.getD i [])<(a.getD i []).length):p8 a b=false:=by
 rw[p8,iV hi (by rw[Og h];rfl),PT]
theorem xS (h:a.length=b.length) (h2:∀q,q<a.length→(!decide (gx (a.getD q []) (b.getD q [])<(a.getD q []).length))=true):p8 a b=true:=by
 rw[p8,Og h,b7.2 h2];rfl
theorem IY (h1:(F'.getD n []).length≤1000) (h2:(F'.getD n []).length=0∨(b9 c n).frm=-1) (h3:(!decide (0≤so (F'.getD n []) (b9 c n).w))=true):ve c F' n=true:=by
 rw[wx]at h3
 unfold ve
 rw[h3,Og h1,PD,Pw]
 rcases h2 with h2 | h2
 ·rw[Og h2,Bool.true_or]
 ·rw[Og h2,Bool.or_true]
theorem mR (h:¬F'.length=c.J.length):gy c F'=false:=by rw[gy,N5 h];rfl
theorem A9 (hn:n<c.J.length) (h:ve c F' n=false):gy c F'=false:=by rw[gy,iV hn h,PT]
theorem mS (hn:n<c.J.length) (h:¬(F'.getD n []).length≤1000):gy c F'=false:=A9 hn (by unfold ve;rw[N5 h];rfl)
theorem mU (hn:n<c.J.length) (h:¬(F'.getD n []).length=0) (h2:¬(b9 c n).frm=-1):gy c F'=false:=A9 hn (by unfold ve;rw[N5 h,N5 h2];simp)
theorem mV (hn:n<c.J.length) (h:decide (0≤so (F'.getD n []) (b9 c n).w)=true):gy c F'=false:=A9 hn (by unfold ve;rw[← wx,h];simp)
theorem mW (h:F'.length=c.J.length) (h2:∀z,z<c.J.length→ve c F' z=true):gy c F'=true:=by rw[gy,Og h,b7.2 h2];rfl
end
theorem CU {c:Ci} {F':List (List Int)} (h:su c F') (hc:bE c):F'.length≤100000∧∀z∈F',z.length≤100000:=by
 refine⟨by rw[h.l];have:=hc.cl;omega,fun z hz=>?_⟩
 obtain⟨i,hi,rfl⟩:=PQ hz
 have:=h.sm i
 rw[cO _ _ hi]at this
 omega
theorem MD {F':List (List Int)} (h:F'.length≤100000∧∀z∈F',z.length≤100000):F'.length≤9223372036854775807:=by omega
theorem ME {F':List (List Int)} (h:F'.length≤100000∧∀z∈F',z.length≤100000) (i:Nat):(F'.getD i []).length≤9223372036854775807:=by
 by_cases hi:i<F'.length
 ·have:=h.2 _ (mN (d:=[]) hi);omega
 ·rw[Od,OL (by omega)];simp
def MJ (c:Ci):Prop:=∀p,p<c.U.length→1≤(aJ c p).NG.length∧(aJ c p).NG.length≤2
section
variable {c:Ci} {s:Ns} {u v:Uf} {p n k i:Nat} {F':List (List Int)} {cls:List ByteArray} {w:Nat→Bool}
theorem zk (hc:bE c) (n:Nat):∀{l:List Nat} {u:Uf},iu c u l→((b6 c u l).l n).length≤(u.l n).length+l.length
 | [],u,_=>NN _
 | p::r,u,h=>by
  refine Pb (zk hc n (l:=r) h.2.2) ?_
  have:=zf (f:=ft c u p) (n:=n) hc h.1
  show(u.l n++eV c p (ft c u p) n).length+r.length≤_+(r.length+1)
  rw[NY];omega
theorem J4 (n:Nat) (hl:F'.length=c.J.length):cr c (u0 c F')=F':=by
 refine gq (d:=[]) (by rw[ax,hl]) (fun i hi=>?_)
 rw[ax]at hi
 rw[aI hi];rfl
theorem J5:eM c (u0 c F')=List.replicate c.U.length 0:=by
 refine gq (d:=(0:Int)) (by rw[ax,NR]) (fun i hi=>?_)
 rw[ax]at hi
 rw[aI hi,gu];rfl
theorem Lx:jd c (u0 c F')=List.replicate c.J.length 0:=by
 refine gq (d:=(0:Int)) (by rw[ax,NR]) (fun i hi=>?_)
 rw[ax]at hi
 rw[aI hi,gu];rfl
theorem Bd (hk:k<c.U.length):(eM c v).getD k 0=(v.cnt k:Int):=aI hk
theorem Gf (hk:k<c.J.length):(jd c v).getD k 0=(v.rd k:Int):=aI hk
end
abbrev wr (x:Int):Int:=IntKind.wrap .i64 x
structure Rs where
 l:List (List Int)
 c:List Int
 e:Int
def Ka (c:Ci) (F':List (List Int)) (n:Int):Rs:=⟨(cX c F' n).1,(cX c F' n).2.1,(cX c F' n).2.2⟩
def sv (b:List Int) (i:Nat):ByteArray:=([(bs [97]),(bs [98]),(bs [97]),(bs [98]),(bs [97]),(bs [98]),(bs [99])]).getD (b.getD i 0%7).toNat .empty
def D3 (b:List Int):Nat:=min b.length 40
def cC (b:List Int):List ByteArray:=tab (sv b) (D3 b)
theorem H5 (b:List Int):(cC b).length≤40:=by unfold cC;rw[ax];unfold D3;omega
set_option maxRecDepth 100000
set_option maxRecDepth 100000
abbrev Kb (w:Int):Ct:=⟨25,[(i6 w)],false,(i6 (ao w))⟩
theorem uN (w:Int):CC (Kb w):=by
 refine ap.vc (V:=TT 1 (CS (w<0) (TT 2 ((True∧(decide (w<0))=true)∧TT 5 ((0:Int)=(ao w)∧True))) (TT 2 ((True∧(decide (w<0))=false)∧TT 3 (CD (w>62) (TT 2 ((0:Int)=(ao w)∧True)) (TT 1 ((True∧IntKind.u64.wrap w=w)∧SH w∧W6 ((2^w.toNat)-1)∧TT 2 (((2^w.toNat)-1)=(ao w)∧True)))))))) (.s 1 (w<0) (.w 1 [(2,.val (dB true))]<|.e) (.w 1 [(2,.val (dB false))]<|.b 8 (.e) (.w 3 [(1,.val (dI .u64 w)),(2,.val (i6 (2^w.toNat))),(3,.val (i6 ((2^w.toNat)-1)))]<|.e))) Try.func25 rfl rfl rfl (by kernel_rfl) ?_
 refine tt ⟨fun Qe=>?_,fun Qe=>?_⟩
 · refine tt ⟨(vT Qe),tt ⟨?_,oK⟩⟩
   unfold ao;first | exact(NT (by omega)).symm | exact(NQ (by omega)).symm
 · refine tt ⟨(vF Qe),tt (cd (fun S8=>?_) (fun S8=>?_))⟩
   · refine tt ⟨?_,oK⟩
     unfold ao;first | exact(NT (by omega)).symm | exact(NQ (by omega)).symm
   · refine tt ⟨⟨oK,Jb rfl om om⟩,⟨sh,⟨(w6 (by have:=lx (n:=w.toNat) (by omega);omega) (by have:=lx (n:=w.toNat) (by omega);omega)),tt ⟨?_,oK⟩⟩⟩⟩
     unfold ao;first | exact(NT (by omega)).symm | exact(NQ (by omega)).symm
abbrev zq (p:Pr):ak:=(.var 57 [(dS p.name),(dS p.clock),(dL 13 jY bU p.NI),(dL 27 t7 a6 p.NH),(dL 9 oJ aD p.I),(dL 16 nR an p.NG)])
abbrev IZ (p:Pr):D:=(.agg [(dS p.name),(dS p.clock),(dL 13 jY bU p.NI),(dL 27 t7 a6 p.NH),(dL 9 oJ aD p.I),(dL 16 nR an p.NG)])
set_option maxRecDepth 100000
abbrev LA (v w:Int):Ct:=⟨50,[(i6 v),(i6 w)],false,(dB (cy v w))⟩
theorem zt (v w:Int) (h1:0≤w) (h2:w≤62):CC (LA v w):=by
 refine ap.vc (V:=TT 1 (CS (v≥0) (TT 2 ((True∧(decide (v≥0))=true)∧TT 2 ((True∧IntKind.u64.wrap w=w)∧(0≤w∧(Int.fdiv v (2^min w.toNat 64))=(v / 2^w.toNat))∧TT 4 (((v / 2^w.toNat)==0)=(cy v w)∧True)))) (TT 2 ((True∧(decide (v≥0))=false)∧TT 8 (false=(cy v w)∧True))))) (.s 1 (v≥0) (.w 1 [(2,.val (dB true)),(5,.val (dI .u64 w)),(6,.val (i6 (v / 2^w.toNat)))]<|.e) (.w 1 [(2,.val (dB false))]<|.e)) Try.func50 rfl rfl rfl (by kernel_rfl) ?_
 refine tt ⟨fun Qe=>?_,fun Qe=>?_⟩
 · refine tt ⟨(vT Qe),tt ⟨⟨oK,Jb rfl om om⟩,⟨⟨(by omega),(Ck h1 h2)⟩,tt ⟨?_,oK⟩⟩⟩⟩
   first | exact CA (by omega) h1 h2 | (unfold cy;rw[N5 (by omega)];rfl)
 · refine tt ⟨(vF Qe),tt ⟨?_,oK⟩⟩
   first | exact CA (by omega) h1 h2 | (unfold cy;rw[N5 (by omega)];rfl)
abbrev ML (p:Pr) (s:Ps):Ct:=⟨33,[(IZ p),(.agg [(LI s.NI),(dL 1 af [] s.NH)])],false,(dB (cf p s))⟩
abbrev mX (p:Pr) (s:Ps):Lp (Nat):=lm [2,3,5] 2 (fun (i:Nat)=>⟨[(2,(.ptr 0 0 0 0)),(3,(.ptr 1 0 0 0)),(5,(i6 (i:Int)))],[(zq p),(.var 50 [(LI s.NI),(dL 1 af [] s.NH)])]⟩) (fun (i:Nat)=>i≤s.NI.length∧∀z,z<i→cy (s.NI.getD z 0) (p.NI.getD z bU).w=true) (fun (i:Nat)=>s.NI.length-i)
abbrev mY (p:Pr) (s:Ps):Lp (Nat):=lm [2,3,6] 2 (fun (j:Nat)=>⟨[(2,(.ptr 0 0 0 0)),(3,(.ptr 1 0 0 0)),(6,(i6 (j:Int)))],[(zq p),(.var 50 [(LI s.NI),(dL 1 af [] s.NH)])]⟩) (fun (j:Nat)=>j≤s.NH.length∧∀z,z<j→it p s z=true) (fun (j:Nat)=>s.NH.length-j)
abbrev mZ (p:Pr) (s:Ps) (j:Nat):Lp (Nat):=lm [2,3,6,7] 15 (fun (k:Nat)=>⟨[(2,(.ptr 0 0 0 0)),(3,(.ptr 1 0 0 0)),(6,(i6 (j:Int))),(7,(i6 (k:Int)))],[(zq p),(.var 50 [(LI s.NI),(dL 1 af [] s.NH)]),.dead,.dead,.dead,.dead,.dead,.dead,.dead,.dead,.dead,.dead,.dead,.dead,.dead]⟩) (fun (k:Nat)=>k≤(s.NH.getD j []).length∧∀z,z<k→cy ((s.NH.getD j []).getD z 0) (p.NH.getD j a6).w=true) (fun (k:Nat)=>(s.NH.getD j []).length-k)
theorem D4 (p:Pr) (s:Ps) (hp:gt p):CC (ML p s):=by
 have Ut:=hp.rl
 have R8:=hp.ml
 refine ap.vc (V:=TT 3 (CS ((s.NI.length:Int)=(p.NI.length:Int)) (TT 7 ((True∧(!decide ((s.NI.length:Int)=(p.NI.length:Int)))=false)∧TT 8 (CN ((s.NH.length:Int)=(p.NH.length:Int)) (TT 2 (false=(cf p s)∧True)) (TT 1 (GO (mX p s) 0 (∀i,(mX p s).inv i→TT 5 (CD ((i:Int)<(s.NI.length:Int)) (TT 3 (IX (i:Int) s.NI.length∧TT 4 (IX (i:Int) p.NI.length∧TT 2 (CC (LA (s.NI.getD i 0) ((p.NI.getD i bU).w))∧TT 1 (CB (!(cy (s.NI.getD i 0) ((p.NI.getD i bU).w))) (TT 2 (false=(cf p s)∧True)) (TT 1 (W6 ((i+1:Nat):Int)∧TT 1 (AG (mX p s) i (i+1))))))))) (TT 1 (GO (mY p s) 0 (∀j,(mY p s).inv j→TT 5 (CD ((j:Int)<(s.NH.length:Int)) (TT 3 (IX (j:Int) s.NH.length∧TT 5 (IX (j:Int) p.NH.length∧TT 3 (CN ((((s.NH.getD j []).length:Nat):Int)=((p.NH.getD j a6).NJ)) (TT 2 (false=(cf p s)∧True)) (TT 1 (GO (mZ p s j) 0 (∀k,(mZ p s j).inv k→TT 4 (IX (j:Int) s.NH.length∧TT 3 (CD ((k:Int)<(((s.NH.getD j []).length:Nat):Int)) (TT 3 (IX (j:Int) s.NH.length∧TT 2 (IX (k:Int) ((s.NH.getD j []).length)∧TT 4 (IX (j:Int) p.NH.length∧TT 2 (CC (LA ((s.NH.getD j []).getD k 0) ((p.NH.getD j a6).w))∧TT 1 (CB (!(cy ((s.NH.getD j []).getD k 0) ((p.NH.getD j a6).w))) (TT 2 (false=(cf p s)∧True)) (TT 1 (W6 ((k+1:Nat):Int)∧TT 1 (AG (mZ p s j) k (k+1)))))))))) (TT 1 (W6 ((j+1:Nat):Int)∧TT 1 (AG (mY p s) j (j+1))))))))))))) (TT 2 (true=(cf p s)∧True))))))))))))) (TT 7 ((True∧(!decide ((s.NI.length:Int)=(p.NI.length:Int)))=true)∧TT 10 (false=(cf p s)∧True))))) (.s 1 ((s.NI.length:Int)=(p.NI.length:Int)) (.w 1 [(7,.val (dB false))]<|.b 23 (.e) (.l (mX p s) 0 (fun i=>.b 28 (.w 6 [(11,(LA (s.NI.getD i 0) ((p.NI.getD i bU).w)).O)]<|.b 43 (.e) (.w 5 [(1,.val (i6 ((i+1:Nat):Int)))]<|.e)) (.l (mY p s) 0 (fun j=>.b 48 (.b 63 (.e) (.l (mZ p s j) 0 (fun k=>.b 71 (.w 16 [(14,(LA ((s.NH.getD j []).getD k 0) ((p.NH.getD j a6).w)).O)]<|.b 89 (.e) (.w 15 [(1,.val (i6 ((k+1:Nat):Int)))]<|.e)) (.w 10 [(1,.val (i6 ((j+1:Nat):Int)))]<|.e)))) (.e)))))) (.w 1 [(7,.val (dB true))]<|.e)) Try.func33 rfl rfl rfl (by kernel_rfl) ?_
 refine tt ⟨fun Qe=>?_,fun Qe=>?_⟩
 · refine tt ⟨(nF Qe),tt (cn (fun S5=>?_) (fun S5=>?_))⟩
   · refine tt ⟨?_,oK⟩
     first | exact(hE (by omega)).symm | exact(hJ (by omega)).symm | exact(hT (i:=i) (by omega) (by simpa using Qx)).symm | exact(cE (i:=j) (by omega) (mI (by omega))).symm | exact(cE (i:=j) (by omega) (mJ (j:=k) (by omega) (by simpa using Tx))).symm | exact(ia (by omega) (by omega) (fun z hz=>h3 z (by omega)) (fun z hz=>h4 z (by omega))).symm
   · refine tt ⟨rfl,⟨by omega,fun z hz=>by omega⟩,?_⟩
     intro i L'
     obtain⟨hi,h3⟩:=L'
     refine tt (cd (fun Ug=>?_) (fun Ug=>?_))
     · have hrw:=bf.1 (show aB (p.NI.getD i bU).w=true from (hp.rw i (by omega)).1)
       refine tt ⟨ix,tt ⟨ix,tt ⟨(zt (s.NI.getD i 0) ((p.NI.getD i bU).w) om om),tt ⟨fun Qx=>?_,fun Qx=>?_⟩⟩⟩⟩
       · refine tt ⟨?_,oK⟩
         first | exact(hE (by omega)).symm | exact(hJ (by omega)).symm | exact(hT (i:=i) (by omega) (by simpa using Qx)).symm | exact(cE (i:=j) (by omega) (mI (by omega))).symm | exact(cE (i:=j) (by omega) (mJ (j:=k) (by omega) (by simpa using Tx))).symm | exact(ia (by omega) (by omega) (fun z hz=>h3 z (by omega)) (fun z hz=>h4 z (by omega))).symm
       · refine tt ⟨w6,tt ⟨(i+1),rfl,?_,(?_:s.NI.length-(i+1)<s.NI.length-i)⟩⟩
         · exact⟨by omega,d4 h3 (by simpa using Qx)⟩
         · omega
     · refine tt ⟨rfl,⟨by omega,fun z hz=>by omega⟩,?_⟩
       intro j L'
       obtain⟨hj,h4⟩:=L'
       refine tt (cd (fun hc48=>?_) (fun hc48=>?_))
       · refine tt ⟨ix,tt ⟨ix,tt (cn (fun hc63=>?_) (fun hc63=>?_))⟩⟩
         · refine tt ⟨?_,oK⟩
           first | exact(hE (by omega)).symm | exact(hJ (by omega)).symm | exact(hT (i:=i) (by omega) (by simpa using Qx)).symm | exact(cE (i:=j) (by omega) (mI (by omega))).symm | exact(cE (i:=j) (by omega) (mJ (j:=k) (by omega) (by simpa using Tx))).symm | exact(ia (by omega) (by omega) (fun z hz=>h3 z (by omega)) (fun z hz=>h4 z (by omega))).symm
         · have UU:1≤(p.NH.getD j a6).NJ∧(p.NH.getD j a6).NJ≤4:=(hp.mw j (by omega)).2.1
           refine tt ⟨rfl,⟨by omega,fun z hz=>by omega⟩,?_⟩
           intro k L'
           obtain⟨hk,h5⟩:=L'
           refine tt ⟨ix,tt (cd (fun hc71=>?_) (fun hc71=>?_))⟩
           · have hmww:=bf.1 (show aB (p.NH.getD j a6).w=true from (hp.mw j (by omega)).1)
             refine tt ⟨ix,tt ⟨ix,tt ⟨ix,tt ⟨(zt ((s.NH.getD j []).getD k 0) ((p.NH.getD j a6).w) om om),tt ⟨fun Tx=>?_,fun Tx=>?_⟩⟩⟩⟩⟩
             · refine tt ⟨?_,oK⟩
               first | exact(hE (by omega)).symm | exact(hJ (by omega)).symm | exact(hT (i:=i) (by omega) (by simpa using Qx)).symm | exact(cE (i:=j) (by omega) (mI (by omega))).symm | exact(cE (i:=j) (by omega) (mJ (j:=k) (by omega) (by simpa using Tx))).symm | exact(ia (by omega) (by omega) (fun z hz=>h3 z (by omega)) (fun z hz=>h4 z (by omega))).symm
             · refine tt ⟨w6,tt ⟨(k+1),rfl,?_,(?_:(s.NH.getD j []).length-(k+1)<(s.NH.getD j []).length-k)⟩⟩
               · exact⟨by omega,d4 h5 (by simpa using Tx)⟩
               · omega
           · refine tt ⟨w6,tt ⟨(j+1),rfl,?_,(?_:s.NH.length-(j+1)<s.NH.length-j)⟩⟩
             · exact⟨by omega,d4 h4 (HP (by omega) (fun z hz=>h5 z (by omega)))⟩
             · omega
       · refine tt ⟨?_,oK⟩
         first | exact(hE (by omega)).symm | exact(hJ (by omega)).symm | exact(hT (i:=i) (by omega) (by simpa using Qx)).symm | exact(cE (i:=j) (by omega) (mI (by omega))).symm | exact(cE (i:=j) (by omega) (mJ (j:=k) (by omega) (by simpa using Tx))).symm | exact(ia (by omega) (by omega) (fun z hz=>h3 z (by omega)) (fun z hz=>h4 z (by omega))).symm
 · refine tt ⟨(nT Qe),tt ⟨?_,oK⟩⟩
   first | exact(hE (by omega)).symm | exact(hJ (by omega)).symm | exact(hT (i:=i) (by omega) (by simpa using Qx)).symm | exact(cE (i:=j) (by omega) (mI (by omega))).symm | exact(cE (i:=j) (by omega) (mJ (j:=k) (by omega) (by simpa using Tx))).symm | exact(ia (by omega) (by omega) (fun z hz=>h3 z (by omega)) (fun z hz=>h4 z (by omega))).symm
abbrev MM (p:Pr):Ct:=⟨10,[(IZ p)],true,(.agg [(LI ((aQ p).NI)),(dL 1 af [] ((aQ p).NH))])⟩
abbrev m4 (p:Pr):Lp (Nat):=lm [1,2,3,4] 4 (fun (i:Nat)=>⟨[(1,(.ptr 0 0 0 0)),(2,(.ptr 1 0 0 0)),(3,(.ptr 2 0 0 0)),(4,(i6 (i:Int)))],[(zq p),(.var 50 [.nils,.nils]),(.var 50 [(.own 3),.nils]),(.arr 3 1 (ac .i64) 0 (tab (fun z=>(p.NI.getD z bU).init) i))]⟩) (fun (i:Nat)=>i≤p.NI.length) (fun (i:Nat)=>p.NI.length-i)
abbrev m5 (p:Pr) (i:Nat):Lp (Nat):=lm [1,2,3,5] 5 (fun (j:Nat)=>⟨[(1,(.ptr 0 0 0 0)),(2,(.ptr 1 0 0 0)),(3,(.ptr 2 0 0 0)),(5,(i6 (j:Int)))],[(zq p),(.var 50 [.nils,.nils]),(.var 50 [(.own 3),(.own 4)]),(.arr 3 1 (ac .i64) 0 (tab (fun z=>(p.NI.getD z bU).init) i)),(.arr 35 1 af [] (tab (fun z=>List.replicate (p.NH.getD z a6).NJ.toNat (0:Int)) j))]⟩) (fun (j:Nat)=>j≤p.NH.length) (fun (j:Nat)=>p.NH.length-j)
theorem D5 (p:Pr) (hp:gt p):CC (MM p):=by
 have Ut:=hp.rl
 have R8:=hp.ml
 refine ap.vc (V:=TT 6 (GO (m4 p) 0 (∀i,(m4 p).inv i→TT 5 (CD ((i:Int)<(p.NI.length:Int)) (TT 5 (IX (i:Int) p.NI.length∧TT 2 (av [[(i6 ((p.NI.getD i bU).init))]] ([(p.NI.getD i bU).init].map (ac .i64))∧((tab (fun z=>(p.NI.getD z bU).init) i).length+([(p.NI.getD i bU).init].map (ac .i64)).length≤137438953472∧(tab (fun z=>(p.NI.getD z bU).init) i).map (ac .i64)++[(p.NI.getD i bU).init].map (ac .i64)=(tab (fun z=>(p.NI.getD z bU).init) (i+1)).map (ac .i64))∧TT 3 (W6 ((i+1:Nat):Int)∧TT 1 (AG (m4 p) i (i+1)))))) (TT 1 (GO (m5 p i) 0 (∀j,(m5 p i).inv j→TT 5 (CD ((j:Int)<(p.NH.length:Int)) (TT 5 (IX (j:Int) p.NH.length∧TT 2 ((((0:Int)≤(p.NH.getD j a6).NJ∧(p.NH.getD j a6).NJ≤(p.NH.getD j a6).NJ∧(p.NH.getD j a6).NJ≤137438953472)∧(List.replicate (p.NH.getD j a6).NJ.toNat (0:Int)).length=((p.NH.getD j a6).NJ).toNat∧∀x∈(List.replicate (p.NH.getD j a6).NJ.toNat (0:Int)),dp [(i6 0)] ((ac .i64) x))∧av [[(LI (List.replicate (p.NH.getD j a6).NJ.toNat (0:Int)))]] ([List.replicate (p.NH.getD j a6).NJ.toNat (0:Int)].map af)∧((tab (fun z=>List.replicate (p.NH.getD z a6).NJ.toNat (0:Int)) j).length+([List.replicate (p.NH.getD j a6).NJ.toNat (0:Int)].map af).length≤137438953472∧(tab (fun z=>List.replicate (p.NH.getD z a6).NJ.toNat (0:Int)) j).map af++[List.replicate (p.NH.getD j a6).NJ.toNat (0:Int)].map af=(tab (fun z=>List.replicate (p.NH.getD z a6).NJ.toNat (0:Int)) (j+1)).map af)∧TT 3 (W6 ((j+1:Nat):Int)∧TT 1 (AG (m5 p i) j (j+1)))))) (TT 3 ((tab (fun z=>(p.NI.getD z bU).init) i).map (ac .i64)=((aQ p).NI).map (ac .i64)∧(tab (fun z=>List.replicate (p.NH.getD z a6).NJ.toNat (0:Int)) j).map af=((aQ p).NH).map af∧True)))))))))) (.g 2 2 0 3 1 (ac .i64) 0<|.l (m4 p) 0 (fun i=>.b 11 (.w 5 [(8,.box 3 1 (ac .i64) 0 [(p.NI.getD i bU).init]),(9,.box 3 1 (ac .i64) 0 (tab (fun z=>(p.NI.getD z bU).init) (i+1)))]<|.w 4 [(1,.val (i6 ((i+1:Nat):Int)))]<|.e) (.g 6 2 1 35 1 af []<|.l (m5 p i) 0 (fun j=>.b 29 (.w 9 [(8,.frz 3 1 (ac .i64) 0 (List.replicate (p.NH.getD j a6).NJ.toNat (0:Int))),(9,.box 35 1 af [] [List.replicate (p.NH.getD j a6).NJ.toNat (0:Int)]),(10,.box 35 1 af [] (tab (fun z=>List.replicate (p.NH.getD z a6).NJ.toNat (0:Int)) (j+1)))]<|.w 8 [(1,.val (i6 ((j+1:Nat):Int)))]<|.e) (.e))))) Try.func10 rfl rfl rfl (by kernel_rfl) ?_
 refine tt ⟨rfl,(by omega),?_⟩
 intro i L'
 have hi:=L'
 refine tt (cd (fun RE=>?_) (fun RE=>?_))
 · refine tt ⟨ix,tt ⟨⟨⟨rfl,oK⟩,oK⟩,⟨(mH (f:=fun z=>(p.NI.getD z bU).init) (by omega)),tt ⟨w6,tt ⟨(i+1),rfl,(?_:(i+1)≤p.NI.length),(?_:p.NI.length-(i+1)<p.NI.length-i)⟩⟩⟩⟩⟩
   · omega
   · omega
 · refine tt ⟨rfl,(by omega),?_⟩
   intro j L'
   have hj:=L'
   refine tt (cd (fun hc29=>?_) (fun hc29=>?_))
   · have UU:1≤(p.NH.getD j a6).NJ∧(p.NH.getD j a6).NJ≤4:=(hp.mw j (by omega)).2.1
     refine tt ⟨ix,tt ⟨⟨by omega,NR,fun x hx=>by rw[Ol hx];exact⟨rfl,oK⟩⟩,⟨⟨⟨rfl,oK⟩,oK⟩,⟨(mH (f:=fun z=>List.replicate (p.NH.getD z a6).NJ.toNat (0:Int)) (by omega)),tt ⟨w6,tt ⟨(j+1),rfl,(?_:(j+1)≤p.NH.length),(?_:p.NH.length-(j+1)<p.NH.length-j)⟩⟩⟩⟩⟩⟩
     · omega
     · omega
   · refine tt ⟨(congrArg _ (?_:(tab (fun z=>(p.NI.getD z bU).init) i)=((aQ p).NI))),(congrArg _ (?_:(tab (fun z=>List.replicate (p.NH.getD z a6).NJ.toNat (0:Int)) j)=((aQ p).NH))),oK⟩
     · rw[pS,show i=p.NI.length by omega]
     · rw[pS,show j=p.NH.length by omega]
abbrev LC (l:List Int) (w:Int):Ct:=⟨34,[(LI l),(i6 w)],false,(dB (iW l w))⟩
abbrev ko (l:List Int) (w:Int):Lp (Nat):=lm [0,1,5] 0 (fun (i:Nat)=>⟨[(0,(LI l)),(1,(i6 w)),(5,(i6 (i:Int)))],[]⟩) (fun (i:Nat)=>i≤l.length∧∀z,z<i→cy (l.getD z 0) w=true) (fun (i:Nat)=>l.length-i)
theorem uO (l:List Int) (w:Int) (hl:l.length≤9223372036854775807):CC (LC l w):=by
 refine ap.vc (V:=TT 2 (GO (ko l w) 0 (∀i,(ko l w).inv i→TT 4 (CD ((i:Int)<(l.length:Int)) (CS ((l.getD i 0)<0) (TT 2 (IX (i:Int) l.length∧TT 2 ((True∧(decide ((l.getD i 0)<0))=true)∧TT 3 (false=(iW l w)∧True)))) (TT 2 (IX (i:Int) l.length∧TT 2 ((True∧(decide ((l.getD i 0)<0))=false)∧TT 2 (IX (i:Int) l.length∧TT 2 (CC (Kb w)∧TT 2 (CD ((l.getD i 0)>(ao w)) (TT 2 (false=(iW l w)∧True)) (TT 1 (W6 ((i+1:Nat):Int)∧TT 1 (AG (ko l w) i (i+1))))))))))) (TT 2 (true=(iW l w)∧True)))))) (.l (ko l w) 0 (fun i=>.b 9 (.s 4 ((l.getD i 0)<0) (.w 4 [(5,.val (dB true))]<|.e) (.w 4 [(5,.val (dB false)),(11,(Kb w).O)]<|.b 25 (.e) (.w 3 [(1,.val (i6 ((i+1:Nat):Int)))]<|.e))) (.e))) Try.func34 rfl rfl rfl (by kernel_rfl) ?_
 refine tt ⟨rfl,⟨by omega,fun z hz=>by omega⟩,?_⟩
 intro i L'
 obtain⟨hi,h3⟩:=L'
 refine tt (cd (fun V2=>?_) (fun V2=>?_))
 · refine⟨fun Qe=>?_,fun Qe=>?_⟩
   · refine tt ⟨ix,tt ⟨(vT Qe),tt ⟨?_,oK⟩⟩⟩
     first | exact(mO (i:=i) (by omega) (xF Qe)).symm | exact(mO (i:=i) (by omega) (xG QC)).symm | exact(uv (fun z hz=>h3 z (by omega))).symm
   · refine tt ⟨ix,tt ⟨(vF Qe),tt ⟨ix,tt ⟨(uN w),tt (cd (fun QC=>?_) (fun QC=>?_))⟩⟩⟩⟩
     · refine tt ⟨?_,oK⟩
       first | exact(mO (i:=i) (by omega) (xF Qe)).symm | exact(mO (i:=i) (by omega) (xG QC)).symm | exact(uv (fun z hz=>h3 z (by omega))).symm
     · refine tt ⟨w6,tt ⟨(i+1),rfl,?_,(?_:l.length-(i+1)<l.length-i)⟩⟩
       · exact⟨by omega,d4 h3 (HW Qe QC)⟩
       · omega
 · refine tt ⟨?_,oK⟩
   first | exact(mO (i:=i) (by omega) (xF Qe)).symm | exact(mO (i:=i) (by omega) (xG QC)).symm | exact(uv (fun z hz=>h3 z (by omega))).symm
end Go.Proofs.Ytcejcppjedhicaa
