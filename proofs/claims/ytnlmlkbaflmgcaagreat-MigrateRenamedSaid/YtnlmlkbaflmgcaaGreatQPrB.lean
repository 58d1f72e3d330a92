/- Parts of a proof. -/
import Derived.Test.YtnlmlkbaflmgcaaGreatQMjK
import Derived.Test.YtnlmlkbaflmgcaaGreatProg
namespace Go.Proofs.YtnlmlkbaflmgcaaGreat
open Go.RowKit
set_option linter.unusedVariables false
set_option linter.unusedSimpArgs false
def qt (c:Ci):Prop:=∀n,n<c.J.length→0≤(fy c n).frm→0≤(fy c n).dst→0<(fy c n).cap
theorem Kf (sh:Int) (b:List Int):qt (aF sh b):=by
 intro n hn h1 h2
 rw[(jn sh b).2]at hn
 have e:fy (aF sh b) n=vH sh (aj sh) n:=aX hn
 rw[e]at h1 h2 ⊢
 show 0<(if 0≤yA (aj sh) n (aj sh).length∧0≤yz (aj sh) n (aj sh).length then 1+(sh / 6+n)%3 else 0)
 rw[Uw ⟨h1,h2⟩];omega
theorem Hp {c d:Ci} (h:kN c d) (hc:qt c):qt d:=by
 intro n hn h1 h2
 rw[h.cl]at hn
 rw[(h.cw n).2.1]at h1
 rw[(h.cw n).2.2]at h2
 exact h.cq n (hc n hn h1 h2)
def aL (sx:Int) (b1 me:List Int):Ci:=aM (aF sx b1) me
def t6 (sx:Int) (b1:List Int) (sy:Int) (b2:List Int) (oth:Bool) (fe me:List Int):Ci:=if oth=true then aM (aF sy b2) fe else aL sx b1 me
def sJ (sx:Int) (b1:List Int) (sy:Int) (b2:List Int) (oth:Bool) (ed fe me:List Int):Ci:=d9 (t6 sx b1 sy b2 oth fe me) ed
def ex (sx:Int) (b1 fe pl me:List Int):Ns:=iA (aL sx b1 me) (dk (aL sx b1 me) (cu (aL sx b1 me) fe) (pl.take (min pl.length 24))) me
structure Ar (o n:Ci) (s:Ns):Prop where
 co:cr o
 cn:cr n
 no:kM o
 nn:kM n
 ro:∀i,i<o.U.length→DL (o.U.getD i ac)
 rn:∀i,i<n.U.length→DL (n.U.getD i ac)
 so:eG o s
 sm:sA s 100
 ko:qt o
 kn:qt n
theorem Kg (l:List Int):A1 (l.length:Int) 24=((min l.length 24:Nat):Int):=by unfold A1;split<;>omega
theorem FY {sh:Int} {b:List Int} (h0:0≤sh) (h1:sh≤255) (hb:ic b) (me:List Int):cr (aM (aF sh b) me)∧p9 (aM (aF sh b) me) 0∧qt (aM (aF sh b) me) :=
 ⟨Ml (Qv h0 h1 hb) yE me,Mu (Mt hb) yE me,Kf sh b⟩
theorem Mx {c:Ci} (hc:cr c) (he:p9 c 0) (hk:qt c) (b:List Int):cr (d9 c b)∧p9 (d9 c b) (xl b)∧qt (d9 c b) :=
 ⟨Ck (wS c b _) hc,Kc b he _ (by unfold xl;omega),Hp (wS c b _) hk⟩
theorem Nx {c:Ci} {t:Nat} (h:p9 c t):∀j,La (c.U.getD j ac):=by
 intro j
 by_cases hj:j<c.U.length
 ·have q:=h.pr j hj
  have:=q.rl;have:=q.ml
  unfold La;omega
 ·rw[show c.U.getD j ac=ac from by simp[List.getD,U1 (show c.U.length≤j by omega)]]
  exact Vs _
theorem Au {sx:Int} {b1 me:List Int} (h0:0≤sx) (h1:sx≤255) (hb:ic b1):cr (aL sx b1 me)∧p9 (aL sx b1 me) 0∧qt (aL sx b1 me):=FY h0 h1 hb me
theorem Kh {sx sy:Int} {b1 b2 fe me:List Int} {oth:Bool} (h0:0≤sx) (h1:sx≤255) (hb:ic b1) (g0:0≤sy) (g1:sy≤255) (X7:ic b2):cr (t6 sx b1 sy b2 oth fe me)∧p9 (t6 sx b1 sy b2 oth fe me) 0∧qt (t6 sx b1 sy b2 oth fe me):=by
 unfold t6;split
 ·exact FY g0 g1 X7 fe
 ·exact Au h0 h1 hb
theorem QE {sx:Int} {b1 fe pl me:List Int} (h0:0≤sx) (h1:sx≤255) (hb:ic b1) (hf:ic fe):eG (aL sx b1 me) (ex sx b1 fe pl me)∧sA (ex sx b1 fe pl me) 100:=by
 have hc:=(Au (me:=me) h0 h1 hb).1
 have h2:=FT hc hf _ (Ut _)
 have h3:=An hc (pl.take (min pl.length 24)) h2.1 h2.2
 refine⟨Mn hc h3.1 me,fun n=>?_⟩
 have:=h3.2 n
 rw[UG]at this
 exact U6 this (by omega)
theorem My {sx sy:Int} {b1 b2 ed fe pl me:List Int} {oth:Bool} (h0:0≤sx) (h1:sx≤255) (hb:ic b1) (g0:0≤sy) (g1:sy≤255) (X7:ic b2) (hf:ic fe) :
  Ar (aL sx b1 me) (sJ sx b1 sy b2 oth ed fe me) (ex sx b1 fe pl me):=by
 obtain⟨q1,q2,q3⟩:=Au (me:=me) h0 h1 hb
 obtain⟨m1,m2,m3⟩:=Kh (oth:=oth) (fe:=fe) (me:=me) h0 h1 hb g0 g1 X7
 obtain⟨n1,n2,n3⟩:=Mx m1 m2 m3 ed
 obtain⟨s1,s2⟩:=QE (fe:=fe) (pl:=pl) (me:=me) h0 h1 hb hf
 exact⟨q1,n1,Nw q2,Nw n2,fun i hi=>(q2.pr i hi).rk,fun i hi=>(n2.pr i hi).rk,s1,s2,q3,n3⟩
theorem gw {α:Type} {l:List α} {i:Nat} {d:α} (h:l.length≤i):l.getD i d=d:=by simp[List.getD,U1 h]
theorem FZ {o n:Ci} {s:Ns} (Z7:cr o) (hcn:cr n) (hr:∀i,i<n.U.length→DL (n.U.getD i ac)) (hs:eG o s) (hm:sA s 1000000):JI o n s:=by
 have h1:=Z7.cl;have h2:=hcn.cl;have h3:=Z7.nl;have h4:=hcn.nl
 refine⟨⟨by omega,by omega,by omega,by omega,hs.pl,hs.cl,fun i hi=>(hs.pv i hi).rl,fun i hi=>(hs.pv i hi).ml,fun i hi=>?_,fun i hi=>?_,fun i hi=>(hr i hi).1,fun i hi j hj=>?_,hm⟩,fun i hi j hj=>?_,fun i hi j hj=>?_,fun i j=>?_⟩
 ·have q:=Z7.pr i hi
  exact⟨U6 q.rl (by decide),U6 q.ml (by decide)⟩
 ·have q:=hcn.pr i hi
  exact⟨U6 q.rl (by decide),U6 q.ml (by decide)⟩
 ·have q:1≤((n.U.getD i ac).Uk.getD j ay).Um∧((n.U.getD i ac).Uk.getD j ay).Um≤4:=((hcn.pr i hi).mw j hj).2.1
  exact⟨(hr i hi).2 j hj,by omega,by omega⟩
 ·have q:1≤((n.U.getD i ac).Ul.getD j aI).w∧((n.U.getD i ac).Ul.getD j aI).w≤8:=aQ.1 ((hcn.pr i hi).rw j hj).1
  omega
 ·have q:1≤((n.U.getD i ac).Uk.getD j ay).w∧((n.U.getD i ac).Uk.getD j ay).w≤8:=aQ.1 ((hcn.pr i hi).mw j hj).1
  omega
 ·by_cases hi:i<o.U.length
  ·have q:=hs.pv i hi
   by_cases hj:j<(a9 o i).Uk.length
   ·have a1:(((s.U.getD i a7).Uk.getD j []).length:Int)=(fK (a9 o i) j).Um:=q.mn j hj
    have:=((Z7.pr i hi).mw j hj).2.1.2
    omega
   ·have hml:((s.U.getD i a7).Uk).length≤j:=by have a1:((s.U.getD i a7).Uk).length=(a9 o i).Uk.length:=q.ml;omega
    rw[gw hml];exact Vs _
  ·rw[gw (l:=s.U) (by rw[hs.pl];omega)];exact Vs _
theorem Ar.rc {o n:Ci} {s:Ns} (h:Ar o n s):JI o n s:=FZ h.co h.cn h.rn h.so (fun i=>U6 (h.sm i) (by decide))
theorem OM {c:Ci} (hc:cr c):∀i,i<c.U.length→JE (c.U.getD i ac):=fun i hi=>⟨U6 (hc.pr i hi).rl (by decide),U6 (hc.pr i hi).ml (by decide)⟩
theorem QF {o n:Ci} {s:Ns} {k:Nat} (hm:sA s k) (i:Nat):(dT o n s i).length≤k:=by
 unfold dT;split
 ·exact hm _
 ·exact Vs _
def DS (r:an) (g:Rg):Rg:={ g with Un:=r }
def DT (r:an) (g:Mm):Mm:={ g with Un:=r }
def Av (r:an) (p:Pr):Pr:={ p with Ul:=p.Ul.map (DS r),Uk:=p.Uk.map (DT r) }
def aW (c:Ci) (r:an):Ci:=⟨tab (fun i=>Av r (c.U.getD i ac)) c.U.length,c.J⟩
def af (nm:ByteArray) (w:Int) (r:an):Rg:=⟨nm,w,0,⟨16,e0,⟨0,e0⟩,⟨0,e0⟩,[]⟩,r⟩
def RH:Ex:=⟨1,e0,⟨0,e0⟩,⟨1,e0⟩,[]⟩
def TI:Ex:=⟨1,e0,⟨0,e0⟩,⟨2,e0⟩,[]⟩
def ao (nm:ByteArray) (n:Int) (r:an):Mm:=⟨nm,2,n,RH,RH,TI,r⟩
def ap (r:List Rg) (m:List Mm):Ci:=⟨[⟨bs [112],bs [97],r,m,[],[]⟩],[]⟩
def gx (a b:Ns) (ea eb:Int):Bool:=decide (ea=eb)&&cZ a b
theorem Mz {a b:Ns} {ea eb:Int} (h:¬ea=eb):gx a b ea eb=false:=by unfold gx;rw[Uy h];rfl
theorem Ki {a b:Ns} {ea eb:Int} (h:ea=eb):gx a b ea eb=cZ a b:=by unfold gx;rw[Uz h];rfl
theorem DU (a:Ns) (e:Int):gx a a e e=true:=by rw[Ki rfl];exact mh.2 rfl
theorem Aw (a b:ByteArray):(a.toList==b.toList)=decide (a=b):=by
 by_cases h:a=b
 ·rw[h,Uz rfl];simp
 ·rw[Uy h];exact beq_eq_false_iff_ne.2 (fun e=>h (toList_inj e))
theorem OO {x y:ByteArray} (h:(!(x.toList==y.toList))=false):x=y:=by
 rw[Aw]at h;simpa using h
theorem DV {x:ByteArray} (h:(!(x.toList==x.toList))=true):False:=by
 rw[Aw]at h;simp at h
def rK:an:=⟨1,e0,0⟩
def rC (s:ByteArray):an:=⟨2,s,0⟩
def rA (s:ByteArray) (n:Int):an:=⟨3,s,n⟩
def xx:Ci:=ap [af (bs [114]) 2 rK] [ao (bs [109]) 2 rK]
def QG:Ci:=ap [af (bs [114]) 2 rK] []
def QH:Ci:=ap [af (bs [120]) 1 (rC (bs [114]))] [ao (bs [110]) 4 (rC (bs [109]))]
def QI:Ci:=ap [af (bs [120]) 3 (rA (bs [114]) 2)] [ao (bs [110]) 4 (rA (bs [109]) 1)]
def CT:Ns:=⟨[⟨[3],[[1,2]]⟩],[]⟩
def nj:Ci:=⟨[⟨bs [112],bs [97],[],[],[],[⟨0,2,RH,TI⟩]⟩],[⟨bs [99],2,0,0,-1⟩]⟩
def QJ:Ns:=⟨[⟨[],[]⟩],[[1]]⟩
theorem TJ:au xx QG CT=(⟨[⟨[3],[]⟩],[]⟩,0):=by rfl
theorem TK:au xx QH CT=(⟨[⟨[1],[[1,2,0,0]]⟩],[]⟩,0):=by rfl
theorem TL:au xx QI CT=(⟨[⟨[5],[[2,3,1,1]]⟩],[]⟩,0):=by rfl
theorem T6:(au nj Rz QJ).2=150:=by rfl
theorem T7:(au nj nj QJ).2=0:=by rfl
theorem T8:bv nj Rz nj.J.length=[bs [99]]:=by rfl
theorem T9:d6 xx xx=true:=by
 unfold d6 nc kh LZ L0 fX ft kk qq
 simp only[Aw]
 decide +kernel
theorem Ua:d6 xx (ap [] [])=false:=by
 refine jm (i:=0) (by decide) ?_
 unfold nc kh LZ L0 fX ft kk
 simp only[Aw]
 decide +kernel
theorem wT {o n:Ci} {s:Ns} (h1:o.J.length≤1000000) (h2:n.J.length≤1000000) (h3:o.U.length≤1000000) (h4:n.U.length≤1000000) (h5:s.U.length=o.U.length) (h6:s.J.length=o.J.length)
  (h7:∀i,i<o.U.length→(s.U.getD i a7).Ul.length=(o.U.getD i ac).Ul.length∧(s.U.getD i a7).Uk.length=(o.U.getD i ac).Uk.length∧(o.U.getD i ac).Ul.length≤1000000∧(o.U.getD i ac).Uk.length≤1000000)
  (h8:∀i,i<n.U.length→(n.U.getD i ac).Ul.length≤1000000∧(n.U.getD i ac).Uk.length≤1000000∧(∀j,j<(n.U.getD i ac).Ul.length→0≤((n.U.getD i ac).Ul.getD j aI).Un.kind∧((n.U.getD i ac).Ul.getD j aI).Un.kind≤3)∧∀j,j<(n.U.getD i ac).Uk.length→(0≤((n.U.getD i ac).Uk.getD j ay).Un.kind∧((n.U.getD i ac).Uk.getD j ay).Un.kind≤3)∧0≤((n.U.getD i ac).Uk.getD j ay).Um∧((n.U.getD i ac).Uk.getD j ay).Um≤1000000)
  (h9:sA s 1000000):qp o n s :=
 ⟨h1,h2,h3,h4,h5,h6,fun i hi=>(h7 i hi).1,fun i hi=>(h7 i hi).2.1,fun i hi=>(h7 i hi).2.2,fun i hi=>⟨(h8 i hi).1,(h8 i hi).2.1⟩,fun i hi=>(h8 i hi).2.2.1,fun i hi=>(h8 i hi).2.2.2,h9⟩
theorem OP:sA CT 1000000:=Nq (by decide)
theorem QK:sA QJ 1000000:=Nq (by decide)
theorem RI:qp xx QG CT:=wT (by decide) (by decide) (by decide) (by decide) rfl rfl (by decide) (by decide) OP
theorem RJ:qp xx QH CT:=wT (by decide) (by decide) (by decide) (by decide) rfl rfl (by decide) (by decide) OP
theorem RK:qp xx QI CT:=wT (by decide) (by decide) (by decide) (by decide) rfl rfl (by decide) (by decide) OP
theorem RL:qp nj Rz QJ:=wT (by decide) (by decide) (by decide) (by decide) rfl rfl (by decide) (by decide) QK
theorem RM:qp nj nj QJ:=wT (by decide) (by decide) (by decide) (by decide) rfl rfl (by decide) (by decide) QK
theorem wU {α:Type} {l:List α} {d:α} {P:α→Prop} (h:∀x∈l,P x) (hd:P d) (i:Nat):P (l.getD i d):=by
 by_cases hi:i<l.length
 ·rw[bJ _ _ hi];exact h _ (V0 hi)
 ·rw[gw (by omega)];exact hd
theorem Ax {a:Ns} (h1:a.U.length≤1000000) (h2:a.J.length≤1000000) (h3:∀l∈a.J,l.length≤1099511627776) (h4:∀p∈a.U,p.Ul.length≤1000000∧p.Uk.length≤1000000∧∀l∈p.Uk,l.length≤1000000):Oq a:=by
 have hp:=fun i=>wU (d:=a7) (P:=fun (p:Ps)=>p.Ul.length≤1000000∧p.Uk.length≤1000000∧∀l∈p.Uk,l.length≤1000000) h4 ⟨Vs _,Vs _,fun l hl=>by cases hl⟩ i
 exact⟨h1,h2,fun n=>wU (P:=fun (l:List Int)=>l.length≤1099511627776) h3 (Vs _) n,fun i=>(hp i).1,fun i=>(hp i).2.1,fun i j=>wU (P:=fun (l:List Int)=>l.length≤1000000) (hp i).2.2 (Vs _) j⟩
theorem RN:gx (au xx QG CT).1 ⟨[⟨[3],[]⟩],[]⟩ (au xx QG CT).2 0=true:=by rw[TJ];exact DU _ _
theorem RO:gx (au xx QH CT).1 ⟨[⟨[1],[[1,2,0,0]]⟩],[]⟩ (au xx QH CT).2 0=true:=by rw[TK];exact DU _ _
theorem RP:gx (au xx QI CT).1 ⟨[⟨[5],[[2,3,1,1]]⟩],[]⟩ (au xx QI CT).2 0=true:=by rw[TL];exact DU _ _
theorem RQ:Oq (au xx QG CT).1:=by rw[TJ];exact Ax (by decide) (by decide) (by decide) (by decide)
theorem RR:Oq (au xx QH CT).1:=by rw[TK];exact Ax (by decide) (by decide) (by decide) (by decide)
theorem RS:Oq (au xx QI CT).1:=by rw[TL];exact Ax (by decide) (by decide) (by decide) (by decide)
theorem RT:¬d6 xx (ap [] [])=true:=by rw[Ua];simp
theorem OQ:∀i,i<xx.U.length→JE (xx.U.getD i ac):=by unfold JE;decide
theorem RU:∀i,i<(ap [] []).U.length→JE ((ap [] []).U.getD i ac):=by unfold JE;decide
theorem Kj {o n:Ci} (nn:kM n) {i:Nat} (h:DI o n i=false):∃k,k<n.J.length∧bP n k=bP o i∧(n.J.getD k aK).w=(o.J.getD i aK).w:=by
 rcases kL nn.cn (bP o i)with ⟨k,hk,e,_,_,h3⟩ | ⟨_,_,h3⟩
 ·refine⟨k,hk,e,?_⟩
  unfold DI at h
  rw[show tY n (bP o i)=DK (bP n) n.J.length (bP o i)from rfl,h3,Bool.or_eq_false_iff]at h
  simpa using h.2
 ·rw[RA (show tY n (bP o i)<0 by rw[show tY n (bP o i)=DK (bP n) n.J.length (bP o i)from rfl,h3];omega)]at h
  cases h
theorem F0 {o n:Ci} (nn:kM n) {i:Nat} (h:DI o n i=true) {k:Nat} (hk:k<n.J.length) (e:bP n k=bP o i):(n.J.getD k aK).w≠(o.J.getD i aK).w:=by
 unfold DI at h
 rw[show tY n (bP o i)=DK (bP n) n.J.length (bP o i)from rfl,← e,tZ nn.cn hk,U3]at h
 rcases h with h | h
 ·have:=VF h;omega
 ·simpa using h
theorem F1 {o n:Ci} (no:kM o) {i:Nat} (hi:i<o.J.length):H2 (yw o n) (bP o i)=DI o n i:=by
 rw[Bool.eq_iff_iff,Aa]
 unfold yw
 rw[Ab]
 constructor
 ·rintro⟨j,hj,a,b⟩
  have:=no.cn.inj hj hi b
  subst this;exact a
 ·intro h;exact⟨i,hi,h,rfl⟩
theorem MA {o n:Ci} {s:Ns} (no:kM o) (nn:kM n) {i k:Nat} (hi:i<o.J.length) (hk:k<n.J.length) (e:bP o i=bP n k) :
  dT o n s k=if (o.J.getD i aK).w=(n.J.getD k aK).w then s.J.getD i []else []:=by
 rw[vB no nn]
 unfold uL
 rw[show tY o (bP n k)=DK (bP o) o.J.length (bP n k)from rfl,← e,tZ no.cn hi,Vd,F1 no hi]
 cases h:DI o n i
 ·obtain⟨k',Xr,e',hw⟩:=Kj nn h
  have:k'=k:=nn.cn.inj Xr hk (e'.trans e)
  subst this
  rw[Uw ⟨by omega,rfl⟩,Uw hw.symm]
 ·have:=F0 nn h hk e.symm
  rw[Ur (by simp),Ur (fun hh=>this hh.symm)]
theorem OS {o n:Ci} {s:Ns} (hm:sA s 1000000):sA (au o n s).1 1000000:=by
 intro k
 unfold au
 split
 ·exact Vs _
 ·show((tab (dT o n s) n.J.length).getD k []).length≤_
  by_cases hi:k<n.J.length
  ·rw[aX hi];exact QF hm k
  ·rw[oY (by omega)];exact Vs _
abbrev CC (c:Ct):Prop:=ah Tryz.prog c.f c.q' [] c.al c.r []
abbrev CK (c:Ct):Prop:=uB [] c.q' c.q'∧ah Tryz.prog c.f c.q' [] c.al c.r []
abbrev GC (c:Ct):Prop:=j7 Tryz.prog c.f=true∧ah Tryz.prog c.f c.q' [] c.al c.r []
abbrev CO (c:yb):Prop:=ah Tryz.prog c.f c.q' [] false c.r [c.B]
set_option maxRecDepth 100000
abbrev iR (n:Int):Ct:=⟨109,[(i6 n)],false,(dB (ax n))⟩
theorem ey (n:Int):CC (iR n):=by
 refine ah.vc (V:=TT 1 (CS (n≥1) (TT 2 ((True∧(decide (n≥1))=true)∧TT 5 ((decide (n≤8))=(ax n)∧True))) (TT 2 ((True∧(decide (n≥1))=false)∧TT 5 (false=(ax n)∧True))))) (.s 1 (n≥1) (.w 1 [(2,.val (dB true))]<|.e) (.w 1 [(2,.val (dB false))]<|.e)) Tryz.func109 rfl rfl rfl (by kernel_rfl) ?_
 refine tt ⟨fun N'=>?_,fun N'=>?_⟩
 · refine tt ⟨(vT N'),tt ⟨?_,oK⟩⟩
   unfold ax;simp;omega
 · refine tt ⟨(vF N'),tt ⟨?_,oK⟩⟩
   unfold ax;simp;omega
abbrev Hq (w:Int):Ct:=⟨94,[(i6 w)],false,(i6 (ai w))⟩
theorem pj (w:Int):CC (Hq w):=by
 refine ah.vc (V:=TT 1 (CS (w<0) (TT 2 ((True∧(decide (w<0))=true)∧TT 5 ((0:Int)=(ai w)∧True))) (TT 2 ((True∧(decide (w<0))=false)∧TT 3 (CD (w>62) (TT 2 ((0:Int)=(ai w)∧True)) (TT 1 (SH w∧W6 ((2^w.toNat)-1)∧TT 2 (((2^w.toNat)-1)=(ai w)∧True)))))))) (.s 1 (w<0) (.w 1 [(2,.val (dB true))]<|.e) (.w 1 [(2,.val (dB false))]<|.b 8 (.e) (.w 3 [(1,.val (i6 (2^w.toNat))),(2,.val (i6 ((2^w.toNat)-1)))]<|.e))) Tryz.func94 rfl rfl rfl (by kernel_rfl) ?_
 refine tt ⟨fun N'=>?_,fun N'=>?_⟩
 · refine tt ⟨(vT N'),tt ⟨?_,oK⟩⟩
   unfold ai;first | exact(Uw (by omega)).symm | exact(Ur (by omega)).symm
 · refine tt ⟨(vF N'),tt (cd (fun hc8=>?_) (fun hc8=>?_))⟩
   · refine tt ⟨?_,oK⟩
     unfold ai;first | exact(Uw (by omega)).symm | exact(Ur (by omega)).symm
   · refine tt ⟨sh,⟨(w6 (by have:=nP (n:=w.toNat) (by omega);omega) (by have:=nP (n:=w.toNat) (by omega);omega)),tt ⟨?_,oK⟩⟩⟩
     unfold ai;first | exact(Uw (by omega)).symm | exact(Ur (by omega)).symm
abbrev Kk (b:Bool):Ct:=⟨124,[(dB b)],false,(i6 (if b=true then 1 else 0))⟩
theorem Kl (b:Bool):CC (Kk b):=by
 refine ah.vc (V:=TT 2 (CB (b) (TT 2 ((1:Int)=(if b=true then 1 else 0)∧True)) (TT 2 ((0:Int)=(if b=true then 1 else 0)∧True)))) (.b 3 (.e) (.e)) Tryz.func124 rfl rfl rfl (by kernel_rfl) ?_
 refine tt ⟨fun hc3=>?_,fun hc3=>?_⟩
 · refine tt ⟨?_,oK⟩
   first | exact(Uw hc3).symm | exact(Ur (by rw[hc3];simp)).symm
 · refine tt ⟨?_,oK⟩
   first | exact(Uw hc3).symm | exact(Ur (by rw[hc3];simp)).symm
abbrev OT (n:Int):Ct:=⟨108,[(i6 n)],false,(dB (!(ax n)))⟩
theorem Km (n:Int):CC (OT n):=by
 refine ah.vc (V:=TT 2 (CC (iR n)∧TT 3 ((!(ax n))=(!(ax n))∧True))) (.w 1 [(1,(iR n).O)]<|.e) Tryz.func108 rfl rfl rfl (by kernel_rfl) ?_
 exact tt ⟨(ey n),tt ⟨rfl,oK⟩⟩
abbrev OU (ws:List Int):Ct:=⟨136,[(LI ws),(.fn (.func 108) [] [])],false,(i6 (tE 0 ws))⟩
abbrev sK (ws:List Int):Lp (Nat):=gD [0,1,7,8] 0 (fun (k:Nat)=>⟨[(0,(LI ws)),(1,(.fn (.func 108) [] [])),(7,(i6 (ws.length:Int))),(8,(i6 (k:Int)))],[]⟩) (fun (k:Nat)=>k≤ws.length∧tE k (ws.drop k)=tE 0 ws) (fun (k:Nat)=>ws.length-k)
theorem Kn (ws:List Int) (hl:ws.length≤9223372036854775807):CC (OU ws):=by
 refine ah.vc (V:=TT 4 (GO (sK ws) 0 (∀k,(sK ws).inv k→TT 1 (CD ((k:Int)<(ws.length:Int)) (TT 5 (IX (k:Int) ws.length∧TT 1 (CC (OT (ws.getD k 0))∧CB (!(ax (ws.getD k 0))) (TT 3 ((k:Int)=(tE 0 ws)∧True)) (W6 ((k+1:Nat):Int)∧TT 1 (AG (sK ws) k (k+1)))))) (TT 2 ((-1)=(tE 0 ws)∧True)))))) (.l (sK ws) 0 (fun k=>.b 9 (.w 4 [(5,(OT (ws.getD k 0)).O)]<|.b 16 (.e) (.w 6 [(0,.val (i6 ((k+1:Nat):Int)))]<|.e)) (.e))) Tryz.func136 rfl rfl rfl (by kernel_rfl) ?_
 refine tt ⟨rfl,⟨by omega,by rw[List.drop_zero]⟩,?_⟩
 intro k F'
 obtain⟨hk,hx⟩:=F'
 refine tt (cd (fun hc9=>?_) (fun hc9=>?_))
 · refine tt ⟨ix,tt ⟨(Km (ws.getD k 0)),⟨fun XC=>?_,fun XC=>?_⟩⟩⟩
   · refine tt ⟨?_,oK⟩
     rw[← hx,yd (show k<ws.length by omega),Ur (by simpa using XC)]
   · refine⟨w6,tt ⟨(k+1),rfl,?_,(?_:ws.length-(k+1)<ws.length-k)⟩⟩
     · refine⟨by omega,?_⟩
       rw[← hx,yd (show k<ws.length by omega),Uw (by simpa using XC)]
     · omega
 · refine tt ⟨?_,oK⟩
   rw[← hx,List.drop_of_length_le (by omega)];rfl
abbrev Ay (ws:List Int):Ct:=⟨107,[(LI ws),(.fn (.func 108) [] [])],false,(dB (!(ws.all ax)))⟩
theorem kq (ws:List Int) (hl:ws.length≤9223372036854775807):CC (Ay ws):=by
 refine ah.vc (V:=TT 3 (CC (OU ws)∧TT 3 ((decide ((tE 0 ws)≥0))=(!(ws.all ax))∧True))) (.w 1 [(2,(OU ws).O)]<|.e) Tryz.func107 rfl rfl rfl (by kernel_rfl) ?_
 refine tt ⟨(Kn ws om),tt ⟨?_,oK⟩⟩
 rw[← yc ws 0]
abbrev RV (ws xs:List Int) (k w:Int):Ct:=⟨113,[(.agg [(LI ws),(LI xs),(i6 k),(i6 w)])],false,(i6 (ws.getD 0 0))⟩
theorem Ko (ws xs:List Int) (k w:Int) (hl:ws.length=1) (hf:ws.all ax=true):CC (RV ws xs k w):=by
 have f0:0<ws.length→1≤ws.getD 0 0∧ws.getD 0 0≤8:=fun h=>aE hf h
 have f1:1<ws.length→1≤ws.getD 1 0∧ws.getD 1 0≤8:=fun h=>aE hf h
 have f2:2<ws.length→1≤ws.getD 2 0∧ws.getD 2 0≤8:=fun h=>aE hf h
 refine ah.vc (V:=TT 4 (IX 0 ws.length∧TT 3 ((ws.getD 0 0)=(ws.getD 0 0)∧True))) (.e) Tryz.func113 rfl rfl rfl (by kernel_rfl) ?_
 exact tt ⟨ix,tt ⟨rfl,oK⟩⟩
abbrev OV (ws xs:List Int) (k w:Int):Ct:=⟨116,[(.agg [(LI ws),(LI xs),(i6 k),(i6 w)])],false,(i6 (bV ws))⟩
theorem lq (ws xs:List Int) (k w:Int) (hl:ws.length=2) (hf:ws.all ax=true):CC (OV ws xs k w):=by
 have f0:0<ws.length→1≤ws.getD 0 0∧ws.getD 0 0≤8:=fun h=>aE hf h
 have f1:1<ws.length→1≤ws.getD 1 0∧ws.getD 1 0≤8:=fun h=>aE hf h
 have f2:2<ws.length→1≤ws.getD 2 0∧ws.getD 2 0≤8:=fun h=>aE hf h
 refine ah.vc (V:=TT 4 (IX 0 ws.length∧TT 3 (IX 1 ws.length∧TT 2 (CN ((ws.getD 0 0)=(ws.getD 1 0)) (TT 2 ((0:Int)=(bV ws)∧True)) (TT 2 (IX 0 ws.length∧TT 3 ((ws.getD 0 0)=(bV ws)∧True))))))) (.b 11 (.e) (.e)) Tryz.func116 rfl rfl rfl (by kernel_rfl) ?_
 refine tt ⟨ix,tt ⟨ix,tt (cn (fun YL=>?_) (fun YL=>?_))⟩⟩
 · refine tt ⟨?_,oK⟩
   first | exact(Uw (by simpa using YL)).symm | exact(Ur (by simpa using YL)).symm
 · refine tt ⟨ix,tt ⟨?_,oK⟩⟩
   first | exact(Uw (by simpa using YL)).symm | exact(Ur (by simpa using YL)).symm
abbrev RX (ws xs:List Int) (k w:Int):Ct:=⟨122,[(.agg [(LI ws),(LI xs),(i6 k),(i6 w)])],false,(i6 (min (bV ws) 1))⟩
theorem Kp (ws xs:List Int) (k w:Int) (hl:ws.length=2) (hf:ws.all ax=true):CC (RX ws xs k w):=by
 have f0:0<ws.length→1≤ws.getD 0 0∧ws.getD 0 0≤8:=fun h=>aE hf h
 have f1:1<ws.length→1≤ws.getD 1 0∧ws.getD 1 0≤8:=fun h=>aE hf h
 have f2:2<ws.length→1≤ws.getD 2 0∧ws.getD 2 0≤8:=fun h=>aE hf h
 refine ah.vc (V:=TT 3 (CC (OV ws xs k w)∧(True∧(A1 (bV ws) 1)=(min (bV ws) 1))∧TT 2 ((min (bV ws) 1)=(min (bV ws) 1)∧True))) (.w 1 [(1,(OV ws xs k w).O),(2,.val (i6 (min (bV ws) 1)))]<|.e) Tryz.func122 rfl rfl rfl (by kernel_rfl) ?_
 exact tt ⟨(lq ws xs k w om hf),⟨⟨oK,(by unfold A1;split<;>omega)⟩,tt ⟨rfl,oK⟩⟩⟩
abbrev RY (ws xs:List Int) (k w:Int):Ct:=⟨126,[(.agg [(LI ws),(LI xs),(i6 k),(i6 w)])],false,(i6 (if ax w=false∨k<0∨ai w<k then 0 else w))⟩
theorem Hr (ws xs:List Int) (k w:Int) (hl:ws.length=0) (hf:ws.all ax=true):CC (RY ws xs k w):=by
 have f0:0<ws.length→1≤ws.getD 0 0∧ws.getD 0 0≤8:=fun h=>aE hf h
 have f1:1<ws.length→1≤ws.getD 1 0∧ws.getD 1 0≤8:=fun h=>aE hf h
 have f2:2<ws.length→1≤ws.getD 2 0∧ws.getD 2 0≤8:=fun h=>aE hf h
 refine ah.vc (V:=TT 2 (CS ((ax w)=true) (CS (k<0) (TT 2 (CC (iR w)∧TT 1 ((True∧(!(ax w))=false)∧TT 4 ((True∧(decide (k<0))=true)∧TT 3 ((((0:Int)=(if ax w=false∨k<0∨ai w<k then 0 else w)))∧True))))) (TT 2 (CC (iR w)∧TT 1 ((True∧(!(ax w))=false)∧TT 4 ((True∧(decide (k<0))=false)∧TT 4 (CC (Hq w)∧TT 2 (CD (k>(ai w)) (TT 2 ((((0:Int)=(if ax w=false∨k<0∨ai w<k then 0 else w)))∧True)) (TT 4 (((w=(if ax w=false∨k<0∨ai w<k then 0 else w)))∧True))))))))) (TT 2 (CC (iR w)∧TT 1 ((True∧(!(ax w))=true)∧TT 5 ((((0:Int)=(if ax w=false∨k<0∨ai w<k then 0 else w)))∧True)))))) (.s 1 ((ax w)=true) (.s 1 (k<0) (.w 1 [(2,(iR w).O),(4,.val (dB false)),(9,.val (dB true))]<|.e) (.w 1 [(2,(iR w).O),(4,.val (dB false)),(9,.val (dB false)),(14,(Hq w).O)]<|.b 19 (.e) (.e))) (.w 1 [(2,(iR w).O),(4,.val (dB true))]<|.e)) Tryz.func126 rfl rfl rfl (by kernel_rfl) ?_
 refine tt ⟨fun N'=>?_,fun N'=>?_⟩
 · refine⟨fun WN=>?_,fun WN=>?_⟩
   · refine tt ⟨(ey w),tt ⟨(mF N'),tt ⟨(vT WN),tt ⟨?_,oK⟩⟩⟩⟩
     first | exact(Uw (by first | assumption | omega)).symm | exact(Ur (by first | assumption | omega)).symm | (split<;>first | rfl | omega | (simp_all;done) | (simp_all;omega))
   · refine tt ⟨(ey w),tt ⟨(mF N'),tt ⟨(vF WN),tt ⟨(pj w),tt (cd (fun YX=>?_) (fun YX=>?_))⟩⟩⟩⟩
     · refine tt ⟨?_,oK⟩
       first | exact(Uw (by first | assumption | omega)).symm | exact(Ur (by first | assumption | omega)).symm | (split<;>first | rfl | omega | (simp_all;done) | (simp_all;omega))
     · refine tt ⟨?_,oK⟩
       first | exact(Uw (by first | assumption | omega)).symm | exact(Ur (by first | assumption | omega)).symm | (split<;>first | rfl | omega | (simp_all;done) | (simp_all;omega))
 · refine tt ⟨(ey w),tt ⟨(mT N'),tt ⟨?_,oK⟩⟩⟩
   first | exact(Uw (by first | assumption | omega)).symm | exact(Ur (by first | assumption | omega)).symm | (split<;>first | rfl | omega | (simp_all;done) | (simp_all;omega))
abbrev RZ (ws xs:List Int) (k w:Int):Ct:=⟨128,[(.agg [(LI ws),(LI xs),(i6 k),(i6 w)])],false,(i6 (if ws.getD 0 0≠1∨ws.getD 1 0≠ws.getD 2 0 then 0 else ws.getD 1 0))⟩
theorem MB (ws xs:List Int) (k w:Int) (hl:ws.length=3) (hf:ws.all ax=true):CC (RZ ws xs k w):=by
 have f0:0<ws.length→1≤ws.getD 0 0∧ws.getD 0 0≤8:=fun h=>aE hf h
 have f1:1<ws.length→1≤ws.getD 1 0∧ws.getD 1 0≤8:=fun h=>aE hf h
 have f2:2<ws.length→1≤ws.getD 2 0∧ws.getD 2 0≤8:=fun h=>aE hf h
 refine ah.vc (V:=TT 2 (CS ((ws.getD 0 0)=1) (TT 2 (IX 0 ws.length∧TT 2 ((True∧(!decide ((ws.getD 0 0)=1))=false)∧TT 2 (IX 1 ws.length∧TT 3 (IX 2 ws.length∧TT 3 (CN ((ws.getD 1 0)=(ws.getD 2 0)) (TT 2 ((((0:Int)=(if ws.getD 0 0≠1∨ws.getD 1 0≠ws.getD 2 0 then 0 else ws.getD 1 0)))∧True)) (TT 2 (IX 1 ws.length∧TT 3 ((((ws.getD 1 0)=(if ws.getD 0 0≠1∨ws.getD 1 0≠ws.getD 2 0 then 0 else ws.getD 1 0)))∧True))))))))) (TT 2 (IX 0 ws.length∧TT 2 ((True∧(!decide ((ws.getD 0 0)=1))=true)∧TT 3 ((((0:Int)=(if ws.getD 0 0≠1∨ws.getD 1 0≠ws.getD 2 0 then 0 else ws.getD 1 0)))∧True)))))) (.s 1 ((ws.getD 0 0)=1) (.w 1 [(5,.val (dB false))]<|.b 18 (.e) (.e)) (.w 1 [(5,.val (dB true))]<|.e)) Tryz.func128 rfl rfl rfl (by kernel_rfl) ?_
 refine tt ⟨fun N'=>?_,fun N'=>?_⟩
 · refine tt ⟨ix,tt ⟨(nF N'),tt ⟨ix,tt ⟨ix,tt (cn (fun Zp=>?_) (fun Zp=>?_))⟩⟩⟩⟩
   · refine tt ⟨?_,oK⟩
     first | exact(Uw (by first | assumption | omega)).symm | exact(Ur (by first | assumption | omega)).symm | (split<;>first | rfl | omega | (simp_all;done) | (simp_all;omega))
   · refine tt ⟨ix,tt ⟨?_,oK⟩⟩
     first | exact(Uw (by first | assumption | omega)).symm | exact(Ur (by first | assumption | omega)).symm | (split<;>first | rfl | omega | (simp_all;done) | (simp_all;omega))
 · refine tt ⟨ix,tt ⟨(nT N'),tt ⟨?_,oK⟩⟩⟩
   first | exact(Uw (by first | assumption | omega)).symm | exact(Ur (by first | assumption | omega)).symm | (split<;>first | rfl | omega | (simp_all;done) | (simp_all;omega))
abbrev R0 (ws xs:List Int) (k w:Int):Ct:=⟨130,[(.agg [(LI ws),(LI xs),(i6 k),(i6 w)])],false,(i6 (ws.getD 0 0+ws.getD 1 0))⟩
theorem MC (ws xs:List Int) (k w:Int) (hl:ws.length=2) (hf:ws.all ax=true):CC (R0 ws xs k w):=by
 have f0:0<ws.length→1≤ws.getD 0 0∧ws.getD 0 0≤8:=fun h=>aE hf h
 have f1:1<ws.length→1≤ws.getD 1 0∧ws.getD 1 0≤8:=fun h=>aE hf h
 have f2:2<ws.length→1≤ws.getD 2 0∧ws.getD 2 0≤8:=fun h=>aE hf h
 refine ah.vc (V:=TT 4 (IX 0 ws.length∧TT 3 (IX 1 ws.length∧TT 1 (W6 ((ws.getD 0 0)+(ws.getD 1 0))∧TT 2 (((ws.getD 0 0)+(ws.getD 1 0))=(ws.getD 0 0+ws.getD 1 0)∧True))))) (.w 1 [(8,.val (i6 ((ws.getD 0 0)+(ws.getD 1 0))))]<|.e) Tryz.func130 rfl rfl rfl (by kernel_rfl) ?_
 refine tt ⟨ix,tt ⟨ix,tt ⟨w6,tt ⟨?_,oK⟩⟩⟩⟩
 first | rfl | omega | (simp;first | done | omega)
abbrev R3 (ws xs:List Int) (k w:Int):Ct:=⟨132,[(.agg [(LI ws),(LI xs),(i6 k),(i6 w)])],false,(i6 (if ax w=false∨k<0∨ws.getD 0 0-w<k then 0 else w))⟩
theorem Hs (ws xs:List Int) (k w:Int) (hl:ws.length=1) (hf:ws.all ax=true):CC (R3 ws xs k w):=by
 have f0:0<ws.length→1≤ws.getD 0 0∧ws.getD 0 0≤8:=fun h=>aE hf h
 have f1:1<ws.length→1≤ws.getD 1 0∧ws.getD 1 0≤8:=fun h=>aE hf h
 have f2:2<ws.length→1≤ws.getD 2 0∧ws.getD 2 0≤8:=fun h=>aE hf h
 refine ah.vc (V:=TT 2 (CS ((ax w)=true) (CS (k<0) (TT 2 (CC (iR w)∧TT 1 ((True∧(!(ax w))=false)∧TT 4 ((True∧(decide (k<0))=true)∧TT 3 ((((0:Int)=(if ax w=false∨k<0∨ws.getD 0 0-w<k then 0 else w)))∧True))))) (TT 2 (CC (iR w)∧TT 1 ((True∧(!(ax w))=false)∧TT 4 ((True∧(decide (k<0))=false)∧TT 4 (IX 0 ws.length∧TT 3 (W6 ((ws.getD 0 0)-w)∧TT 2 (CD (k>((ws.getD 0 0)-w)) (TT 2 ((((0:Int)=(if ax w=false∨k<0∨ws.getD 0 0-w<k then 0 else w)))∧True)) (TT 4 (((w=(if ax w=false∨k<0∨ws.getD 0 0-w<k then 0 else w)))∧True)))))))))) (TT 2 (CC (iR w)∧TT 1 ((True∧(!(ax w))=true)∧TT 5 ((((0:Int)=(if ax w=false∨k<0∨ws.getD 0 0-w<k then 0 else w)))∧True)))))) (.s 1 ((ax w)=true) (.s 1 (k<0) (.w 1 [(2,(iR w).O),(4,.val (dB false)),(9,.val (dB true))]<|.e) (.w 1 [(2,(iR w).O),(4,.val (dB false)),(9,.val (dB false)),(18,.val (i6 ((ws.getD 0 0)-w)))]<|.b 23 (.e) (.e))) (.w 1 [(2,(iR w).O),(4,.val (dB true))]<|.e)) Tryz.func132 rfl rfl rfl (by kernel_rfl) ?_
 refine tt ⟨fun N'=>?_,fun N'=>?_⟩
 · refine⟨fun WN=>?_,fun WN=>?_⟩
   · refine tt ⟨(ey w),tt ⟨(mF N'),tt ⟨(vT WN),tt ⟨?_,oK⟩⟩⟩⟩
     first | exact(Uw (by first | assumption | omega)).symm | exact(Ur (by first | assumption | omega)).symm | (split<;>first | rfl | omega | (simp_all;done) | (simp_all;omega))
   · refine tt ⟨(ey w),tt ⟨(mF N'),tt ⟨(vF WN),tt ⟨ix,tt ⟨(w6 (by have:=aQ.1 (show ax w=true by simp_all);omega) (by have:=aQ.1 (show ax w=true by simp_all);omega)),tt (cd (fun ZU=>?_) (fun ZU=>?_))⟩⟩⟩⟩⟩
     · refine tt ⟨?_,oK⟩
       first | exact(Uw (by first | assumption | omega)).symm | exact(Ur (by first | assumption | omega)).symm | (split<;>first | rfl | omega | (simp_all;done) | (simp_all;omega))
     · refine tt ⟨?_,oK⟩
       first | exact(Uw (by first | assumption | omega)).symm | exact(Ur (by first | assumption | omega)).symm | (split<;>first | rfl | omega | (simp_all;done) | (simp_all;omega))
 · refine tt ⟨(ey w),tt ⟨(mT N'),tt ⟨?_,oK⟩⟩⟩
   first | exact(Uw (by first | assumption | omega)).symm | exact(Ur (by first | assumption | omega)).symm | (split<;>first | rfl | omega | (simp_all;done) | (simp_all;omega))
abbrev R4 (ws xs:List Int) (k w:Int):Ct:=⟨134,[(.agg [(LI ws),(LI xs),(i6 k),(i6 w)])],false,(i6 (if w<ws.getD 0 0 then 0 else w))⟩
theorem MD (ws xs:List Int) (k w:Int) (hl:ws.length=1) (hf:ws.all ax=true):CC (R4 ws xs k w):=by
 have f0:0<ws.length→1≤ws.getD 0 0∧ws.getD 0 0≤8:=fun h=>aE hf h
 have f1:1<ws.length→1≤ws.getD 1 0∧ws.getD 1 0≤8:=fun h=>aE hf h
 have f2:2<ws.length→1≤ws.getD 2 0∧ws.getD 2 0≤8:=fun h=>aE hf h
 refine ah.vc (V:=TT 6 (IX 0 ws.length∧TT 2 (CD (w<(ws.getD 0 0)) (TT 2 ((0:Int)=(if w<ws.getD 0 0 then 0 else w)∧True)) (TT 4 (w=(if w<ws.getD 0 0 then 0 else w)∧True))))) (.b 9 (.e) (.e)) Tryz.func134 rfl rfl rfl (by kernel_rfl) ?_
 refine tt ⟨ix,tt (cd (fun hc9=>?_) (fun hc9=>?_))⟩
 · refine tt ⟨?_,oK⟩
   first | exact(Uw (by first | assumption | omega)).symm | exact(Ur (by first | assumption | omega)).symm | (split<;>first | rfl | omega | (simp_all;done) | (simp_all;omega))
 · refine tt ⟨?_,oK⟩
   first | exact(Uw (by first | assumption | omega)).symm | exact(Ur (by first | assumption | omega)).symm | (split<;>first | rfl | omega | (simp_all;done) | (simp_all;omega))
abbrev kr (ws xs:List Int) (k w:Int):List D:=[(.agg [(LI ws),(LI xs),(i6 k),(i6 w)])]
set_option maxRecDepth 100000
structure Hu (ws xs:List Int) (n:Nat):Prop where
  hl:ws.length=n
  hf:ws.all ax=true
  hx:xs.length=ws.length
  hin:Bx ws xs=true
abbrev DX (ws xs:List Int) (k w:Int):Ct:=⟨115,(kr ws xs k w),false,(i6 (ai (ws.getD 0 0)))⟩
theorem wV (ws xs:List Int) (k w:Int) (hl:0<ws.length):CC (DX ws xs k w):=by
 refine ah.vc (V:=TT 4 (IX 0 ws.length∧TT 1 (CC (Hq (ws.getD 0 0))∧TT 2 ((ai (ws.getD 0 0))=(ai (ws.getD 0 0))∧True)))) (.w 1 [(4,(Hq (ws.getD 0 0)).O)]<|.e) Tryz.func115 rfl rfl rfl (by kernel_rfl) ?_
 exact tt ⟨ix,tt ⟨(pj (ws.getD 0 0)),tt ⟨rfl,oK⟩⟩⟩
abbrev Sb (ws xs:List Int) (k w:Int):Ct:=⟨114,(kr ws xs k w),false,(i6 (jB 2 ws xs k w))⟩
theorem O1 (ws xs:List Int) (k w:Int) (ho:Hu ws xs 1):CC (Sb ws xs k w):=by
 obtain⟨hl,hf,hx,hin⟩:=ho
 have f0:0<ws.length→1≤ws.getD 0 0∧ws.getD 0 0≤8:=fun h=>aE hf h
 have f1:1<ws.length→1≤ws.getD 1 0∧ws.getD 1 0≤8:=fun h=>aE hf h
 have f2:2<ws.length→1≤ws.getD 2 0∧ws.getD 2 0≤8:=fun h=>aE hf h
 have a0:0<ws.length→0≤xs.getD 0 0∧xs.getD 0 0≤ai (ws.getD 0 0):=fun h=>bh hin (by omega)
 have a1:1<ws.length→0≤xs.getD 1 0∧xs.getD 1 0≤ai (ws.getD 1 0):=fun h=>bh hin (by omega)
 have a2:2<ws.length→0≤xs.getD 2 0∧xs.getD 2 0≤ai (ws.getD 2 0):=fun h=>bh hin (by omega)
 have m0:0<ws.length→0≤ai (ws.getD 0 0)∧ai (ws.getD 0 0)≤255:=fun h=>aB (by have:=f0 h;omega) (f0 h).2
 have m1:1<ws.length→0≤ai (ws.getD 1 0)∧ai (ws.getD 1 0)≤255:=fun h=>aB (by have:=f1 h;omega) (f1 h).2
 have m2:2<ws.length→0≤ai (ws.getD 2 0)∧ai (ws.getD 2 0)≤255:=fun h=>aB (by have:=f2 h;omega) (f2 h).2
 have b0:=f0 (by omega);have c0:=a0 (by omega);have d0:=m0 (by omega)
 refine ah.vc (V:=TT 4 (IX 0 xs.length∧TT 2 (CC (DX ws xs k w)∧(True∧(IntKind.wrap .i64 (BitVec.ofInt (IntKind.i64).bits (xs.getD 0 0) ^^^ BitVec.ofInt (IntKind.i64).bits (ai (ws.getD 0 0))).toNat)=(((xs.getD 0 0).toNat ^^^ (ai (ws.getD 0 0)).toNat:Nat):Int))∧TT 2 ((((xs.getD 0 0).toNat ^^^ (ai (ws.getD 0 0)).toNat:Nat):Int)=(jB 2 ws xs k w)∧True)))) (.w 1 [(5,(DX ws xs k w).O),(6,.val (i6 (((xs.getD 0 0).toNat ^^^ (ai (ws.getD 0 0)).toNat:Nat):Int)))]<|.e) Tryz.func114 rfl rfl rfl (by kernel_rfl) ?_
 refine tt ⟨ix,tt ⟨(wV ws xs k w om),⟨⟨oK,(tF (by omega) (by omega) (by omega) (by omega))⟩,tt ⟨?_,oK⟩⟩⟩⟩
 rfl
abbrev Sd (ws xs:List Int) (k w:Int):Ct:=⟨117,(kr ws xs k w),false,(i6 (jB 3 ws xs k w))⟩
theorem O2 (ws xs:List Int) (k w:Int) (ho:Hu ws xs 2):CC (Sd ws xs k w):=by
 obtain⟨hl,hf,hx,hin⟩:=ho
 have f0:0<ws.length→1≤ws.getD 0 0∧ws.getD 0 0≤8:=fun h=>aE hf h
 have f1:1<ws.length→1≤ws.getD 1 0∧ws.getD 1 0≤8:=fun h=>aE hf h
 have f2:2<ws.length→1≤ws.getD 2 0∧ws.getD 2 0≤8:=fun h=>aE hf h
 have a0:0<ws.length→0≤xs.getD 0 0∧xs.getD 0 0≤ai (ws.getD 0 0):=fun h=>bh hin (by omega)
 have a1:1<ws.length→0≤xs.getD 1 0∧xs.getD 1 0≤ai (ws.getD 1 0):=fun h=>bh hin (by omega)
 have a2:2<ws.length→0≤xs.getD 2 0∧xs.getD 2 0≤ai (ws.getD 2 0):=fun h=>bh hin (by omega)
 have m0:0<ws.length→0≤ai (ws.getD 0 0)∧ai (ws.getD 0 0)≤255:=fun h=>aB (by have:=f0 h;omega) (f0 h).2
 have m1:1<ws.length→0≤ai (ws.getD 1 0)∧ai (ws.getD 1 0)≤255:=fun h=>aB (by have:=f1 h;omega) (f1 h).2
 have m2:2<ws.length→0≤ai (ws.getD 2 0)∧ai (ws.getD 2 0)≤255:=fun h=>aB (by have:=f2 h;omega) (f2 h).2
 have b0:=f0 (by omega);have c0:=a0 (by omega);have d0:=m0 (by omega)
 have b1:=f1 (by omega);have c1:=a1 (by omega);have d1:=m1 (by omega)
 refine ah.vc (V:=TT 4 (IX 0 xs.length∧TT 3 (IX 1 xs.length∧TT 1 ((True∧(IntKind.wrap .i64 (BitVec.ofInt (IntKind.i64).bits (xs.getD 0 0) &&& BitVec.ofInt (IntKind.i64).bits (xs.getD 1 0)).toNat)=(((xs.getD 0 0).toNat &&& (xs.getD 1 0).toNat:Nat):Int))∧TT 2 ((((xs.getD 0 0).toNat &&& (xs.getD 1 0).toNat:Nat):Int)=(jB 3 ws xs k w)∧True))))) (.w 1 [(8,.val (i6 (((xs.getD 0 0).toNat &&& (xs.getD 1 0).toNat:Nat):Int)))]<|.e) Tryz.func117 rfl rfl rfl (by kernel_rfl) ?_
 refine tt ⟨ix,tt ⟨ix,tt ⟨⟨oK,(ye (by omega) (by omega) (by omega) (by omega))⟩,tt ⟨?_,oK⟩⟩⟩⟩
 rfl
abbrev Se (ws xs:List Int) (k w:Int):Ct:=⟨118,(kr ws xs k w),false,(i6 (jB 4 ws xs k w))⟩
theorem QR (ws xs:List Int) (k w:Int) (ho:Hu ws xs 2):CC (Se ws xs k w):=by
 obtain⟨hl,hf,hx,hin⟩:=ho
 have f0:0<ws.length→1≤ws.getD 0 0∧ws.getD 0 0≤8:=fun h=>aE hf h
 have f1:1<ws.length→1≤ws.getD 1 0∧ws.getD 1 0≤8:=fun h=>aE hf h
 have f2:2<ws.length→1≤ws.getD 2 0∧ws.getD 2 0≤8:=fun h=>aE hf h
 have a0:0<ws.length→0≤xs.getD 0 0∧xs.getD 0 0≤ai (ws.getD 0 0):=fun h=>bh hin (by omega)
 have a1:1<ws.length→0≤xs.getD 1 0∧xs.getD 1 0≤ai (ws.getD 1 0):=fun h=>bh hin (by omega)
 have a2:2<ws.length→0≤xs.getD 2 0∧xs.getD 2 0≤ai (ws.getD 2 0):=fun h=>bh hin (by omega)
 have m0:0<ws.length→0≤ai (ws.getD 0 0)∧ai (ws.getD 0 0)≤255:=fun h=>aB (by have:=f0 h;omega) (f0 h).2
 have m1:1<ws.length→0≤ai (ws.getD 1 0)∧ai (ws.getD 1 0)≤255:=fun h=>aB (by have:=f1 h;omega) (f1 h).2
 have m2:2<ws.length→0≤ai (ws.getD 2 0)∧ai (ws.getD 2 0)≤255:=fun h=>aB (by have:=f2 h;omega) (f2 h).2
 have b0:=f0 (by omega);have c0:=a0 (by omega);have d0:=m0 (by omega)
 have b1:=f1 (by omega);have c1:=a1 (by omega);have d1:=m1 (by omega)
 refine ah.vc (V:=TT 4 (IX 0 xs.length∧TT 3 (IX 1 xs.length∧TT 1 ((True∧(IntKind.wrap .i64 (BitVec.ofInt (IntKind.i64).bits (xs.getD 0 0) ||| BitVec.ofInt (IntKind.i64).bits (xs.getD 1 0)).toNat)=(((xs.getD 0 0).toNat ||| (xs.getD 1 0).toNat:Nat):Int))∧TT 2 ((((xs.getD 0 0).toNat ||| (xs.getD 1 0).toNat:Nat):Int)=(jB 4 ws xs k w)∧True))))) (.w 1 [(8,.val (i6 (((xs.getD 0 0).toNat ||| (xs.getD 1 0).toNat:Nat):Int)))]<|.e) Tryz.func118 rfl rfl rfl (by kernel_rfl) ?_
 refine tt ⟨ix,tt ⟨ix,tt ⟨⟨oK,(Bz (by omega) (by omega) (by omega) (by omega))⟩,tt ⟨?_,oK⟩⟩⟩⟩
 rfl
abbrev Sf (ws xs:List Int) (k w:Int):Ct:=⟨119,(kr ws xs k w),false,(i6 (jB 5 ws xs k w))⟩
theorem O3 (ws xs:List Int) (k w:Int) (ho:Hu ws xs 2):CC (Sf ws xs k w):=by
 obtain⟨hl,hf,hx,hin⟩:=ho
 have f0:0<ws.length→1≤ws.getD 0 0∧ws.getD 0 0≤8:=fun h=>aE hf h
 have f1:1<ws.length→1≤ws.getD 1 0∧ws.getD 1 0≤8:=fun h=>aE hf h
 have f2:2<ws.length→1≤ws.getD 2 0∧ws.getD 2 0≤8:=fun h=>aE hf h
 have a0:0<ws.length→0≤xs.getD 0 0∧xs.getD 0 0≤ai (ws.getD 0 0):=fun h=>bh hin (by omega)
 have a1:1<ws.length→0≤xs.getD 1 0∧xs.getD 1 0≤ai (ws.getD 1 0):=fun h=>bh hin (by omega)
 have a2:2<ws.length→0≤xs.getD 2 0∧xs.getD 2 0≤ai (ws.getD 2 0):=fun h=>bh hin (by omega)
 have m0:0<ws.length→0≤ai (ws.getD 0 0)∧ai (ws.getD 0 0)≤255:=fun h=>aB (by have:=f0 h;omega) (f0 h).2
 have m1:1<ws.length→0≤ai (ws.getD 1 0)∧ai (ws.getD 1 0)≤255:=fun h=>aB (by have:=f1 h;omega) (f1 h).2
 have m2:2<ws.length→0≤ai (ws.getD 2 0)∧ai (ws.getD 2 0)≤255:=fun h=>aB (by have:=f2 h;omega) (f2 h).2
 have b0:=f0 (by omega);have c0:=a0 (by omega);have d0:=m0 (by omega)
 have b1:=f1 (by omega);have c1:=a1 (by omega);have d1:=m1 (by omega)
 refine ah.vc (V:=TT 4 (IX 0 xs.length∧TT 3 (IX 1 xs.length∧TT 1 ((True∧(IntKind.wrap .i64 (BitVec.ofInt (IntKind.i64).bits (xs.getD 0 0) ^^^ BitVec.ofInt (IntKind.i64).bits (xs.getD 1 0)).toNat)=(((xs.getD 0 0).toNat ^^^ (xs.getD 1 0).toNat:Nat):Int))∧TT 2 ((((xs.getD 0 0).toNat ^^^ (xs.getD 1 0).toNat:Nat):Int)=(jB 5 ws xs k w)∧True))))) (.w 1 [(8,.val (i6 (((xs.getD 0 0).toNat ^^^ (xs.getD 1 0).toNat:Nat):Int)))]<|.e) Tryz.func119 rfl rfl rfl (by kernel_rfl) ?_
 refine tt ⟨ix,tt ⟨ix,tt ⟨⟨oK,(tF (by omega) (by omega) (by omega) (by omega))⟩,tt ⟨?_,oK⟩⟩⟩⟩
 rfl
abbrev Sh (ws xs:List Int) (k w:Int):Ct:=⟨120,(kr ws xs k w),false,(i6 (jB 6 ws xs k w))⟩
theorem O4 (ws xs:List Int) (k w:Int) (ho:Hu ws xs 2):CC (Sh ws xs k w):=by
 obtain⟨hl,hf,hx,hin⟩:=ho
 have f0:0<ws.length→1≤ws.getD 0 0∧ws.getD 0 0≤8:=fun h=>aE hf h
 have f1:1<ws.length→1≤ws.getD 1 0∧ws.getD 1 0≤8:=fun h=>aE hf h
 have f2:2<ws.length→1≤ws.getD 2 0∧ws.getD 2 0≤8:=fun h=>aE hf h
 have a0:0<ws.length→0≤xs.getD 0 0∧xs.getD 0 0≤ai (ws.getD 0 0):=fun h=>bh hin (by omega)
 have a1:1<ws.length→0≤xs.getD 1 0∧xs.getD 1 0≤ai (ws.getD 1 0):=fun h=>bh hin (by omega)
 have a2:2<ws.length→0≤xs.getD 2 0∧xs.getD 2 0≤ai (ws.getD 2 0):=fun h=>bh hin (by omega)
 have m0:0<ws.length→0≤ai (ws.getD 0 0)∧ai (ws.getD 0 0)≤255:=fun h=>aB (by have:=f0 h;omega) (f0 h).2
 have m1:1<ws.length→0≤ai (ws.getD 1 0)∧ai (ws.getD 1 0)≤255:=fun h=>aB (by have:=f1 h;omega) (f1 h).2
 have m2:2<ws.length→0≤ai (ws.getD 2 0)∧ai (ws.getD 2 0)≤255:=fun h=>aB (by have:=f2 h;omega) (f2 h).2
 have b0:=f0 (by omega);have c0:=a0 (by omega);have d0:=m0 (by omega)
 have b1:=f1 (by omega);have c1:=a1 (by omega);have d1:=m1 (by omega)
 refine ah.vc (V:=TT 4 (IX 0 xs.length∧TT 3 (IX 1 xs.length∧TT 1 (W6 ((xs.getD 0 0)+(xs.getD 1 0))∧TT 1 (CC (DX ws xs k w)∧(True∧(IntKind.wrap .i64 (BitVec.ofInt (IntKind.i64).bits ((xs.getD 0 0)+(xs.getD 1 0)) &&& BitVec.ofInt (IntKind.i64).bits (ai (ws.getD 0 0))).toNat)=((xs.getD 0 0+xs.getD 1 0)%2^(ws.getD 0 0).toNat))∧TT 2 (((xs.getD 0 0+xs.getD 1 0)%2^(ws.getD 0 0).toNat)=(jB 6 ws xs k w)∧True)))))) (.w 1 [(8,.val (i6 ((xs.getD 0 0)+(xs.getD 1 0)))),(10,(DX ws xs k w).O),(11,.val (i6 ((xs.getD 0 0+xs.getD 1 0)%2^(ws.getD 0 0).toNat)))]<|.e) Tryz.func120 rfl rfl rfl (by kernel_rfl) ?_
 refine tt ⟨ix,tt ⟨ix,tt ⟨w6,tt ⟨(wV ws xs k w om),⟨⟨oK,(by rw[da (by omega) (by omega)];exact ir (by omega))⟩,tt ⟨?_,oK⟩⟩⟩⟩⟩⟩
 rfl
abbrev Si (ws xs:List Int) (k w:Int):Ct:=⟨121,(kr ws xs k w),false,(i6 (jB 7 ws xs k w))⟩
theorem O5 (ws xs:List Int) (k w:Int) (ho:Hu ws xs 2):CC (Si ws xs k w):=by
 obtain⟨hl,hf,hx,hin⟩:=ho
 have f0:0<ws.length→1≤ws.getD 0 0∧ws.getD 0 0≤8:=fun h=>aE hf h
 have f1:1<ws.length→1≤ws.getD 1 0∧ws.getD 1 0≤8:=fun h=>aE hf h
 have f2:2<ws.length→1≤ws.getD 2 0∧ws.getD 2 0≤8:=fun h=>aE hf h
 have a0:0<ws.length→0≤xs.getD 0 0∧xs.getD 0 0≤ai (ws.getD 0 0):=fun h=>bh hin (by omega)
 have a1:1<ws.length→0≤xs.getD 1 0∧xs.getD 1 0≤ai (ws.getD 1 0):=fun h=>bh hin (by omega)
 have a2:2<ws.length→0≤xs.getD 2 0∧xs.getD 2 0≤ai (ws.getD 2 0):=fun h=>bh hin (by omega)
 have m0:0<ws.length→0≤ai (ws.getD 0 0)∧ai (ws.getD 0 0)≤255:=fun h=>aB (by have:=f0 h;omega) (f0 h).2
 have m1:1<ws.length→0≤ai (ws.getD 1 0)∧ai (ws.getD 1 0)≤255:=fun h=>aB (by have:=f1 h;omega) (f1 h).2
 have m2:2<ws.length→0≤ai (ws.getD 2 0)∧ai (ws.getD 2 0)≤255:=fun h=>aB (by have:=f2 h;omega) (f2 h).2
 have b0:=f0 (by omega);have c0:=a0 (by omega);have d0:=m0 (by omega)
 have b1:=f1 (by omega);have c1:=a1 (by omega);have d1:=m1 (by omega)
 refine ah.vc (V:=TT 4 (IX 0 xs.length∧TT 3 (IX 1 xs.length∧TT 1 (W6 ((xs.getD 0 0)-(xs.getD 1 0))∧TT 1 (CC (DX ws xs k w)∧(True∧(IntKind.wrap .i64 (BitVec.ofInt (IntKind.i64).bits ((xs.getD 0 0)-(xs.getD 1 0)) &&& BitVec.ofInt (IntKind.i64).bits (ai (ws.getD 0 0))).toNat)=((xs.getD 0 0-xs.getD 1 0)%2^(ws.getD 0 0).toNat))∧TT 2 (((xs.getD 0 0-xs.getD 1 0)%2^(ws.getD 0 0).toNat)=(jB 7 ws xs k w)∧True)))))) (.w 1 [(8,.val (i6 ((xs.getD 0 0)-(xs.getD 1 0)))),(10,(DX ws xs k w).O),(11,.val (i6 ((xs.getD 0 0-xs.getD 1 0)%2^(ws.getD 0 0).toNat)))]<|.e) Tryz.func121 rfl rfl rfl (by kernel_rfl) ?_
 refine tt ⟨ix,tt ⟨ix,tt ⟨w6,tt ⟨(wV ws xs k w om),⟨⟨oK,(by rw[da (by omega) (by omega)];exact ir (by omega))⟩,tt ⟨?_,oK⟩⟩⟩⟩⟩⟩
 rfl
abbrev Sj (ws xs:List Int) (k w:Int):Ct:=⟨123,(kr ws xs k w),false,(i6 (jB 8 ws xs k w))⟩
theorem QS (ws xs:List Int) (k w:Int) (ho:Hu ws xs 2):CC (Sj ws xs k w):=by
 obtain⟨hl,hf,hx,hin⟩:=ho
 have f0:0<ws.length→1≤ws.getD 0 0∧ws.getD 0 0≤8:=fun h=>aE hf h
 have f1:1<ws.length→1≤ws.getD 1 0∧ws.getD 1 0≤8:=fun h=>aE hf h
 have f2:2<ws.length→1≤ws.getD 2 0∧ws.getD 2 0≤8:=fun h=>aE hf h
 have a0:0<ws.length→0≤xs.getD 0 0∧xs.getD 0 0≤ai (ws.getD 0 0):=fun h=>bh hin (by omega)
 have a1:1<ws.length→0≤xs.getD 1 0∧xs.getD 1 0≤ai (ws.getD 1 0):=fun h=>bh hin (by omega)
 have a2:2<ws.length→0≤xs.getD 2 0∧xs.getD 2 0≤ai (ws.getD 2 0):=fun h=>bh hin (by omega)
 have m0:0<ws.length→0≤ai (ws.getD 0 0)∧ai (ws.getD 0 0)≤255:=fun h=>aB (by have:=f0 h;omega) (f0 h).2
 have m1:1<ws.length→0≤ai (ws.getD 1 0)∧ai (ws.getD 1 0)≤255:=fun h=>aB (by have:=f1 h;omega) (f1 h).2
 have m2:2<ws.length→0≤ai (ws.getD 2 0)∧ai (ws.getD 2 0)≤255:=fun h=>aB (by have:=f2 h;omega) (f2 h).2
 have b0:=f0 (by omega);have c0:=a0 (by omega);have d0:=m0 (by omega)
 have b1:=f1 (by omega);have c1:=a1 (by omega);have d1:=m1 (by omega)
 refine ah.vc (V:=TT 4 (IX 0 xs.length∧TT 3 (IX 1 xs.length∧TT 2 (CC (Kk ((xs.getD 0 0)==(xs.getD 1 0)))∧TT 2 ((if ((xs.getD 0 0)==(xs.getD 1 0))=true then 1 else 0)=(jB 8 ws xs k w)∧True))))) (.w 1 [(9,(Kk ((xs.getD 0 0)==(xs.getD 1 0))).O)]<|.e) Tryz.func123 rfl rfl rfl (by kernel_rfl) ?_
 refine tt ⟨ix,tt ⟨ix,tt ⟨(Kl ((xs.getD 0 0)==(xs.getD 1 0))),tt ⟨?_,oK⟩⟩⟩⟩
 show _=(if xs.getD 0 0=xs.getD 1 0 then (1:Int)else 0)
 by_cases h:xs.getD 0 0=xs.getD 1 0
 · rw[Uw h,Uw (by simpa using h)]
 · rw[Ur h,Ur (by simpa using h)]
abbrev Sk (ws xs:List Int) (k w:Int):Ct:=⟨125,(kr ws xs k w),false,(i6 (jB 9 ws xs k w))⟩
theorem QT (ws xs:List Int) (k w:Int) (ho:Hu ws xs 2):CC (Sk ws xs k w):=by
 obtain⟨hl,hf,hx,hin⟩:=ho
 have f0:0<ws.length→1≤ws.getD 0 0∧ws.getD 0 0≤8:=fun h=>aE hf h
 have f1:1<ws.length→1≤ws.getD 1 0∧ws.getD 1 0≤8:=fun h=>aE hf h
 have f2:2<ws.length→1≤ws.getD 2 0∧ws.getD 2 0≤8:=fun h=>aE hf h
 have a0:0<ws.length→0≤xs.getD 0 0∧xs.getD 0 0≤ai (ws.getD 0 0):=fun h=>bh hin (by omega)
 have a1:1<ws.length→0≤xs.getD 1 0∧xs.getD 1 0≤ai (ws.getD 1 0):=fun h=>bh hin (by omega)
 have a2:2<ws.length→0≤xs.getD 2 0∧xs.getD 2 0≤ai (ws.getD 2 0):=fun h=>bh hin (by omega)
 have m0:0<ws.length→0≤ai (ws.getD 0 0)∧ai (ws.getD 0 0)≤255:=fun h=>aB (by have:=f0 h;omega) (f0 h).2
 have m1:1<ws.length→0≤ai (ws.getD 1 0)∧ai (ws.getD 1 0)≤255:=fun h=>aB (by have:=f1 h;omega) (f1 h).2
 have m2:2<ws.length→0≤ai (ws.getD 2 0)∧ai (ws.getD 2 0)≤255:=fun h=>aB (by have:=f2 h;omega) (f2 h).2
 have b0:=f0 (by omega);have c0:=a0 (by omega);have d0:=m0 (by omega)
 have b1:=f1 (by omega);have c1:=a1 (by omega);have d1:=m1 (by omega)
 refine ah.vc (V:=TT 4 (IX 0 xs.length∧TT 3 (IX 1 xs.length∧TT 2 (CC (Kk (decide ((xs.getD 0 0)<(xs.getD 1 0))))∧TT 2 ((if (decide ((xs.getD 0 0)<(xs.getD 1 0)))=true then 1 else 0)=(jB 9 ws xs k w)∧True))))) (.w 1 [(9,(Kk (decide ((xs.getD 0 0)<(xs.getD 1 0)))).O)]<|.e) Tryz.func125 rfl rfl rfl (by kernel_rfl) ?_
 refine tt ⟨ix,tt ⟨ix,tt ⟨(Kl (decide ((xs.getD 0 0)<(xs.getD 1 0)))),tt ⟨?_,oK⟩⟩⟩⟩
 show _=(if xs.getD 0 0<xs.getD 1 0 then (1:Int)else 0)
 by_cases h:xs.getD 0 0<xs.getD 1 0
 · rw[Uw h,Uw (by simpa using h)]
 · rw[Ur h,Ur (by simpa using h)]
abbrev Sl (ws xs:List Int) (k w:Int):Ct:=⟨127,(kr ws xs k w),false,(i6 (jB 1 ws xs k w))⟩
theorem Kq (ws xs:List Int) (k w:Int) (ho:Hu ws xs 0):CC (Sl ws xs k w):=by
 obtain⟨hl,hf,hx,hin⟩:=ho
 have f0:0<ws.length→1≤ws.getD 0 0∧ws.getD 0 0≤8:=fun h=>aE hf h
 have f1:1<ws.length→1≤ws.getD 1 0∧ws.getD 1 0≤8:=fun h=>aE hf h
 have f2:2<ws.length→1≤ws.getD 2 0∧ws.getD 2 0≤8:=fun h=>aE hf h
 have a0:0<ws.length→0≤xs.getD 0 0∧xs.getD 0 0≤ai (ws.getD 0 0):=fun h=>bh hin (by omega)
 have a1:1<ws.length→0≤xs.getD 1 0∧xs.getD 1 0≤ai (ws.getD 1 0):=fun h=>bh hin (by omega)
 have a2:2<ws.length→0≤xs.getD 2 0∧xs.getD 2 0≤ai (ws.getD 2 0):=fun h=>bh hin (by omega)
 have m0:0<ws.length→0≤ai (ws.getD 0 0)∧ai (ws.getD 0 0)≤255:=fun h=>aB (by have:=f0 h;omega) (f0 h).2
 have m1:1<ws.length→0≤ai (ws.getD 1 0)∧ai (ws.getD 1 0)≤255:=fun h=>aB (by have:=f1 h;omega) (f1 h).2
 have m2:2<ws.length→0≤ai (ws.getD 2 0)∧ai (ws.getD 2 0)≤255:=fun h=>aB (by have:=f2 h;omega) (f2 h).2
 refine ah.vc (V:=TT 6 (k=(jB 1 ws xs k w)∧True)) (.e) Tryz.func127 rfl rfl rfl (by kernel_rfl) ?_
 refine tt ⟨?_,oK⟩
 rfl
abbrev Sm (ws xs:List Int) (k w:Int):Ct:=⟨135,(kr ws xs k w),false,(i6 (jB 13 ws xs k w))⟩
theorem O6 (ws xs:List Int) (k w:Int) (ho:Hu ws xs 1):CC (Sm ws xs k w):=by
 obtain⟨hl,hf,hx,hin⟩:=ho
 have f0:0<ws.length→1≤ws.getD 0 0∧ws.getD 0 0≤8:=fun h=>aE hf h
 have f1:1<ws.length→1≤ws.getD 1 0∧ws.getD 1 0≤8:=fun h=>aE hf h
 have f2:2<ws.length→1≤ws.getD 2 0∧ws.getD 2 0≤8:=fun h=>aE hf h
 have a0:0<ws.length→0≤xs.getD 0 0∧xs.getD 0 0≤ai (ws.getD 0 0):=fun h=>bh hin (by omega)
 have a1:1<ws.length→0≤xs.getD 1 0∧xs.getD 1 0≤ai (ws.getD 1 0):=fun h=>bh hin (by omega)
 have a2:2<ws.length→0≤xs.getD 2 0∧xs.getD 2 0≤ai (ws.getD 2 0):=fun h=>bh hin (by omega)
 have m0:0<ws.length→0≤ai (ws.getD 0 0)∧ai (ws.getD 0 0)≤255:=fun h=>aB (by have:=f0 h;omega) (f0 h).2
 have m1:1<ws.length→0≤ai (ws.getD 1 0)∧ai (ws.getD 1 0)≤255:=fun h=>aB (by have:=f1 h;omega) (f1 h).2
 have m2:2<ws.length→0≤ai (ws.getD 2 0)∧ai (ws.getD 2 0)≤255:=fun h=>aB (by have:=f2 h;omega) (f2 h).2
 have b0:=f0 (by omega);have c0:=a0 (by omega);have d0:=m0 (by omega)
 refine ah.vc (V:=TT 4 (IX 0 xs.length∧TT 3 ((xs.getD 0 0)=(jB 13 ws xs k w)∧True))) (.e) Tryz.func135 rfl rfl rfl (by kernel_rfl) ?_
 refine tt ⟨ix,tt ⟨?_,oK⟩⟩
 rfl
abbrev So (ws xs:List Int) (k w:Int):Ct:=⟨129,(kr ws xs k w),false,(i6 (jB 10 ws xs k w))⟩
theorem O7 (ws xs:List Int) (k w:Int) (ho:Hu ws xs 3) (h1:ws.getD 0 0=1):CC (So ws xs k w):=by
 obtain⟨hl,hf,hx,hin⟩:=ho
 have f0:0<ws.length→1≤ws.getD 0 0∧ws.getD 0 0≤8:=fun h=>aE hf h
 have f1:1<ws.length→1≤ws.getD 1 0∧ws.getD 1 0≤8:=fun h=>aE hf h
 have f2:2<ws.length→1≤ws.getD 2 0∧ws.getD 2 0≤8:=fun h=>aE hf h
 have a0:0<ws.length→0≤xs.getD 0 0∧xs.getD 0 0≤ai (ws.getD 0 0):=fun h=>bh hin (by omega)
 have a1:1<ws.length→0≤xs.getD 1 0∧xs.getD 1 0≤ai (ws.getD 1 0):=fun h=>bh hin (by omega)
 have a2:2<ws.length→0≤xs.getD 2 0∧xs.getD 2 0≤ai (ws.getD 2 0):=fun h=>bh hin (by omega)
 have m0:0<ws.length→0≤ai (ws.getD 0 0)∧ai (ws.getD 0 0)≤255:=fun h=>aB (by have:=f0 h;omega) (f0 h).2
 have m1:1<ws.length→0≤ai (ws.getD 1 0)∧ai (ws.getD 1 0)≤255:=fun h=>aB (by have:=f1 h;omega) (f1 h).2
 have m2:2<ws.length→0≤ai (ws.getD 2 0)∧ai (ws.getD 2 0)≤255:=fun h=>aB (by have:=f2 h;omega) (f2 h).2
 have b0:=f0 (by omega);have c0:=a0 (by omega);have d0:=m0 (by omega)
 have b1:=f1 (by omega);have c1:=a1 (by omega);have d1:=m1 (by omega)
 have b2:=f2 (by omega);have c2:=a2 (by omega);have d2:=m2 (by omega)
 have hm1:ai (ws.getD 0 0)=1:=by rw[h1];decide
 have hx0:xs.getD 0 0=0∨xs.getD 0 0=1:=by omega
 refine ah.vc (V:=TT 6 (IX 0 xs.length∧TT 1 (W6 (2-(xs.getD 0 0))∧IX (2-(xs.getD 0 0)) xs.length∧TT 3 ((xs.getD ((2-(xs.getD 0 0)).toNat) 0)=(jB 10 ws xs k w)∧True)))) (.w 1 [(6,.val (i6 (2-(xs.getD 0 0))))]<|.e) Tryz.func129 rfl rfl rfl (by kernel_rfl) ?_
 refine tt ⟨ix,tt ⟨w6,⟨ix,tt ⟨?_,oK⟩⟩⟩⟩
 rfl
abbrev Sp (ws xs:List Int) (k w:Int):Ct:=⟨131,(kr ws xs k w),false,(i6 (jB 11 ws xs k w))⟩
theorem O8 (ws xs:List Int) (k w:Int) (ho:Hu ws xs 2):CC (Sp ws xs k w):=by
 obtain⟨hl,hf,hx,hin⟩:=ho
 have f0:0<ws.length→1≤ws.getD 0 0∧ws.getD 0 0≤8:=fun h=>aE hf h
 have f1:1<ws.length→1≤ws.getD 1 0∧ws.getD 1 0≤8:=fun h=>aE hf h
 have f2:2<ws.length→1≤ws.getD 2 0∧ws.getD 2 0≤8:=fun h=>aE hf h
 have a0:0<ws.length→0≤xs.getD 0 0∧xs.getD 0 0≤ai (ws.getD 0 0):=fun h=>bh hin (by omega)
 have a1:1<ws.length→0≤xs.getD 1 0∧xs.getD 1 0≤ai (ws.getD 1 0):=fun h=>bh hin (by omega)
 have a2:2<ws.length→0≤xs.getD 2 0∧xs.getD 2 0≤ai (ws.getD 2 0):=fun h=>bh hin (by omega)
 have m0:0<ws.length→0≤ai (ws.getD 0 0)∧ai (ws.getD 0 0)≤255:=fun h=>aB (by have:=f0 h;omega) (f0 h).2
 have m1:1<ws.length→0≤ai (ws.getD 1 0)∧ai (ws.getD 1 0)≤255:=fun h=>aB (by have:=f1 h;omega) (f1 h).2
 have m2:2<ws.length→0≤ai (ws.getD 2 0)∧ai (ws.getD 2 0)≤255:=fun h=>aB (by have:=f2 h;omega) (f2 h).2
 have b0:=f0 (by omega);have c0:=a0 (by omega);have d0:=m0 (by omega)
 have b1:=f1 (by omega);have c1:=a1 (by omega);have d1:=m1 (by omega)
 refine ah.vc (V:=TT 4 (IX 0 xs.length∧TT 3 (IX 1 ws.length∧TT 1 ((0≤(ws.getD 1 0)∧(IntKind.wrap .i64 ((xs.getD 0 0)*2^min ((ws.getD 1 0).toNat) 64))=(((xs.getD 0 0).toNat*2^(ws.getD 1 0).toNat:Nat):Int))∧TT 2 (IX 1 xs.length∧TT 1 ((True∧(IntKind.wrap .i64 (BitVec.ofInt (IntKind.i64).bits (((xs.getD 0 0).toNat*2^(ws.getD 1 0).toNat:Nat):Int) ||| BitVec.ofInt (IntKind.i64).bits (xs.getD 1 0)).toNat)=(((xs.getD 0 0).toNat*2^(ws.getD 1 0).toNat ||| (xs.getD 1 0).toNat:Nat):Int))∧TT 2 ((((xs.getD 0 0).toNat*2^(ws.getD 1 0).toNat ||| (xs.getD 1 0).toNat:Nat):Int)=(jB 11 ws xs k w)∧True))))))) (.w 1 [(8,.val (i6 (((xs.getD 0 0).toNat*2^(ws.getD 1 0).toNat:Nat):Int))),(13,.val (i6 (((xs.getD 0 0).toNat*2^(ws.getD 1 0).toNat ||| (xs.getD 1 0).toNat:Nat):Int)))]<|.e) Tryz.func131 rfl rfl rfl (by kernel_rfl) ?_
 refine tt ⟨ix,tt ⟨ix,tt ⟨⟨om,(Fa (by omega) (by omega))⟩,tt ⟨ix,tt ⟨⟨oK,(Fb (by omega) (by omega) (by omega))⟩,tt ⟨?_,oK⟩⟩⟩⟩⟩⟩
 rfl
abbrev Sq (ws xs:List Int) (k w:Int):Ct:=⟨133,(kr ws xs k w),false,(i6 (jB 12 ws xs k w))⟩
theorem Kr (ws xs:List Int) (k w:Int) (ho:Hu ws xs 1) (hk:0≤k∧k≤8∧ax w=true):CC (Sq ws xs k w):=by
 obtain⟨hl,hf,hx,hin⟩:=ho
 have f0:0<ws.length→1≤ws.getD 0 0∧ws.getD 0 0≤8:=fun h=>aE hf h
 have f1:1<ws.length→1≤ws.getD 1 0∧ws.getD 1 0≤8:=fun h=>aE hf h
 have f2:2<ws.length→1≤ws.getD 2 0∧ws.getD 2 0≤8:=fun h=>aE hf h
 have a0:0<ws.length→0≤xs.getD 0 0∧xs.getD 0 0≤ai (ws.getD 0 0):=fun h=>bh hin (by omega)
 have a1:1<ws.length→0≤xs.getD 1 0∧xs.getD 1 0≤ai (ws.getD 1 0):=fun h=>bh hin (by omega)
 have a2:2<ws.length→0≤xs.getD 2 0∧xs.getD 2 0≤ai (ws.getD 2 0):=fun h=>bh hin (by omega)
 have m0:0<ws.length→0≤ai (ws.getD 0 0)∧ai (ws.getD 0 0)≤255:=fun h=>aB (by have:=f0 h;omega) (f0 h).2
 have m1:1<ws.length→0≤ai (ws.getD 1 0)∧ai (ws.getD 1 0)≤255:=fun h=>aB (by have:=f1 h;omega) (f1 h).2
 have m2:2<ws.length→0≤ai (ws.getD 2 0)∧ai (ws.getD 2 0)≤255:=fun h=>aB (by have:=f2 h;omega) (f2 h).2
 have b0:=f0 (by omega);have c0:=a0 (by omega);have d0:=m0 (by omega)
 have hw:=aQ.1 hk.2.2
 refine ah.vc (V:=TT 4 (IX 0 xs.length∧TT 3 ((0≤k∧(Int.fdiv (xs.getD 0 0) (2^min k.toNat 64))=(xs.getD 0 0 / 2^k.toNat))∧TT 2 (CC (Hq w)∧(True∧(IntKind.wrap .i64 (BitVec.ofInt (IntKind.i64).bits (xs.getD 0 0 / 2^k.toNat) &&& BitVec.ofInt (IntKind.i64).bits (ai w)).toNat)=((xs.getD 0 0 / 2^k.toNat)%2^w.toNat))∧TT 2 (((xs.getD 0 0 / 2^k.toNat)%2^w.toNat)=(jB 12 ws xs k w)∧True))))) (.w 1 [(6,.val (i6 (xs.getD 0 0 / 2^k.toNat))),(9,(Hq w).O),(10,.val (i6 ((xs.getD 0 0 / 2^k.toNat)%2^w.toNat)))]<|.e) Tryz.func133 rfl rfl rfl (by kernel_rfl) ?_
 refine tt ⟨ix,tt ⟨⟨om,(zI hk.1 (by omega))⟩,tt ⟨(pj w),⟨⟨oK,(by rw[da (by omega) (by omega)];exact ir (by omega))⟩,tt ⟨?_,oK⟩⟩⟩⟩⟩
 rfl
abbrev eW:aC:=(.var 206 [(i6 0),(.v .nilf),(.v .nilf)])
abbrev bg (op:Int):D:=(i6 (bw op))
abbrev dm:D:=(.ptr 1 0 0 0)
abbrev dD:D:=(.ptr 2 0 0 0)
set_option maxRecDepth 100000
def fL:List (Int×Value):=[(2,.agg #[.int .i64 1,.func (.func 113) #[] #[],.func (.func 114) #[] #[]]),(3,.agg #[.int .i64 2,.func (.func 116) #[] #[],.func (.func 117) #[] #[]]),(4,.agg #[.int .i64 2,.func (.func 116) #[] #[],.func (.func 118) #[] #[]]),(5,.agg #[.int .i64 2,.func (.func 116) #[] #[],.func (.func 119) #[] #[]]),(6,.agg #[.int .i64 2,.func (.func 116) #[] #[],.func (.func 120) #[] #[]]),(7,.agg #[.int .i64 2,.func (.func 116) #[] #[],.func (.func 121) #[] #[]]),(8,.agg #[.int .i64 2,.func (.func 122) #[] #[],.func (.func 123) #[] #[]]),(9,.agg #[.int .i64 2,.func (.func 122) #[] #[],.func (.func 125) #[] #[]])]
set_option maxHeartbeats 800000 in
theorem Az (w:World):Calls Tryz.prog 105 #[] w (fun e w'=>∃arr:Array MapEntry,e=.returned (.map (some w.heap.size))∧w'=w.alloc (.map arr 8)∧arr.toList.map (fun e=>(e.key,e.val))=fL.map (fun e=>(Value.int .i64 e.1,e.2))):=by
  go_enter Tryz.func105,Tryz.ntmps105
  go_wp2_with (first | (rw[uF]) | (rw[wA Tryz.underlying215 Tryz.underlying3 (by rfl)]))
  go_ret
  exact⟨_,rfl,rfl,rfl⟩
abbrev AA:Ct:=⟨105,[],false,.v (.mp fL)⟩
theorem po:CC AA:=ah.of_map Az
def gy:List (Int×Value):=[(1,.agg #[.int .i64 0,.func (.func 126) #[] #[],.func (.func 127) #[] #[]]),(10,.agg #[.int .i64 3,.func (.func 128) #[] #[],.func (.func 129) #[] #[]]),(11,.agg #[.int .i64 2,.func (.func 130) #[] #[],.func (.func 131) #[] #[]]),(12,.agg #[.int .i64 1,.func (.func 132) #[] #[],.func (.func 133) #[] #[]]),(13,.agg #[.int .i64 1,.func (.func 134) #[] #[],.func (.func 135) #[] #[]])]
set_option maxHeartbeats 800000 in
theorem AB (w:World):Calls Tryz.prog 106 #[] w (fun e w'=>∃arr:Array MapEntry,e=.returned (.map (some w.heap.size))∧w'=w.alloc (.map arr 5)∧arr.toList.map (fun e=>(e.key,e.val))=gy.map (fun e=>(Value.int .i64 e.1,e.2))):=by
  go_enter Tryz.func106,Tryz.ntmps106
  go_wp2_with (first | (rw[uF]) | (rw[wA Tryz.underlying215 Tryz.underlying3 (by rfl)]))
  go_ret
  exact⟨_,rfl,rfl,rfl⟩
abbrev DY:Ct:=⟨106,[],false,.v (.mp gy)⟩
theorem t8:CC DY:=ah.of_map AB
def eJ (op:Int):Nat :=
  if op=1 then 126 else
  if op=2 then 113 else
  if op=3 then 116 else
  if op=4 then 116 else
  if op=5 then 116 else
  if op=6 then 116 else
  if op=7 then 116 else
  if op=8 then 122 else
  if op=9 then 122 else
  if op=10 then 128 else
  if op=11 then 130 else
  if op=12 then 132 else
  if op=13 then 134 else 0
def eK (op:Int):Nat :=
  if op=1 then 127 else
  if op=2 then 114 else
  if op=3 then 117 else
  if op=4 then 118 else
  if op=5 then 119 else
  if op=6 then 120 else
  if op=7 then 121 else
  if op=8 then 123 else
  if op=9 then 125 else
  if op=10 then 129 else
  if op=11 then 131 else
  if op=12 then 133 else
  if op=13 then 135 else 0
abbrev cW (op:Int) (ws xs:List Int) (k w:Int):Ct:=⟨eJ op,[(.agg [(LI ws),(LI xs),(i6 k),(i6 w)])],false,i6 (bp op ws k w)⟩
abbrev cV (op:Int) (ws xs:List Int) (k w:Int):Ct:=⟨eK op,[(.agg [(LI ws),(LI xs),(i6 k),(i6 w)])],false,i6 (jB op ws xs k w)⟩
theorem wW {op:Int} {ws:List Int} (h:BA op ws=true):op=1∨op=2∨op=3∨op=4∨op=5∨op=6∨op=7∨op=8∨op=9∨op=10∨op=11∨op=12∨op=13:=by
  have h1:=(zL h).1
  by_cases hr:op<1∨13<op
  · have:bw op=-1:=by unfold bw;rw[Ur (by omega),Ur (by omega),Ur (by omega),Ur (by omega)]
    omega
  · omega
theorem NB (op:Int) (ws xs:List Int) (k w:Int) (h:BA op ws=true):GC (cW op ws xs k w):=by
  obtain⟨h1,hf⟩:=zL h
  rcases wW h with rfl | rfl | rfl | rfl | rfl | rfl | rfl | rfl | rfl | rfl | rfl | rfl | rfl
  · (have hl:(ws.length:Int)=0:=h1);exact⟨by kernel_rfl,Hr ws xs k w (by omega) hf⟩
  · (have hl:(ws.length:Int)=1:=h1);exact⟨by kernel_rfl,Ko ws xs k w (by omega) hf⟩
  · (have hl:(ws.length:Int)=2:=h1);exact⟨by kernel_rfl,lq ws xs k w (by omega) hf⟩
  · (have hl:(ws.length:Int)=2:=h1);exact⟨by kernel_rfl,lq ws xs k w (by omega) hf⟩
  · (have hl:(ws.length:Int)=2:=h1);exact⟨by kernel_rfl,lq ws xs k w (by omega) hf⟩
  · (have hl:(ws.length:Int)=2:=h1);exact⟨by kernel_rfl,lq ws xs k w (by omega) hf⟩
  · (have hl:(ws.length:Int)=2:=h1);exact⟨by kernel_rfl,lq ws xs k w (by omega) hf⟩
  · (have hl:(ws.length:Int)=2:=h1);exact⟨by kernel_rfl,Kp ws xs k w (by omega) hf⟩
  · (have hl:(ws.length:Int)=2:=h1);exact⟨by kernel_rfl,Kp ws xs k w (by omega) hf⟩
  · (have hl:(ws.length:Int)=3:=h1);exact⟨by kernel_rfl,MB ws xs k w (by omega) hf⟩
  · (have hl:(ws.length:Int)=2:=h1);exact⟨by kernel_rfl,MC ws xs k w (by omega) hf⟩
  · (have hl:(ws.length:Int)=1:=h1);exact⟨by kernel_rfl,Hs ws xs k w (by omega) hf⟩
  · (have hl:(ws.length:Int)=1:=h1);exact⟨by kernel_rfl,MD ws xs k w (by omega) hf⟩
theorem QU (op:Int) (ws xs:List Int) (k w:Int) (h:it op ws k w=true) (hx:xs.length=ws.length) (hin:Bx ws xs=true):GC (cV op ws xs k w):=by
  obtain⟨h1,hf,h3⟩:=kI h
  have hb:BA op ws=true:=by unfold BA;rw[Uz h1,hf];rfl
  rcases wW hb with rfl | rfl | rfl | rfl | rfl | rfl | rfl | rfl | rfl | rfl | rfl | rfl | rfl
  · (have hl:(ws.length:Int)=0:=h1);exact⟨by kernel_rfl,Kq ws xs k w ⟨by omega,hf,hx,hin⟩⟩
  · (have hl:(ws.length:Int)=1:=h1);exact⟨by kernel_rfl,O1 ws xs k w ⟨by omega,hf,hx,hin⟩⟩
  · (have hl:(ws.length:Int)=2:=h1);exact⟨by kernel_rfl,O2 ws xs k w ⟨by omega,hf,hx,hin⟩⟩
  · (have hl:(ws.length:Int)=2:=h1);exact⟨by kernel_rfl,QR ws xs k w ⟨by omega,hf,hx,hin⟩⟩
  · (have hl:(ws.length:Int)=2:=h1);exact⟨by kernel_rfl,O3 ws xs k w ⟨by omega,hf,hx,hin⟩⟩
  · (have hl:(ws.length:Int)=2:=h1);exact⟨by kernel_rfl,O4 ws xs k w ⟨by omega,hf,hx,hin⟩⟩
  · (have hl:(ws.length:Int)=2:=h1);exact⟨by kernel_rfl,O5 ws xs k w ⟨by omega,hf,hx,hin⟩⟩
  · (have hl:(ws.length:Int)=2:=h1);exact⟨by kernel_rfl,QS ws xs k w ⟨by omega,hf,hx,hin⟩⟩
  · (have hl:(ws.length:Int)=2:=h1);exact⟨by kernel_rfl,QT ws xs k w ⟨by omega,hf,hx,hin⟩⟩
  · (have hl:(ws.length:Int)=3:=h1);exact⟨by kernel_rfl,O7 ws xs k w ⟨by omega,hf,hx,hin⟩ (zJ h)⟩
  · (have hl:(ws.length:Int)=2:=h1);exact⟨by kernel_rfl,O8 ws xs k w ⟨by omega,hf,hx,hin⟩⟩
  · (have hl:(ws.length:Int)=1:=h1);exact⟨by kernel_rfl,Kr ws xs k w ⟨by omega,hf,hx,hin⟩ (zK h)⟩
  · (have hl:(ws.length:Int)=1:=h1);exact⟨by kernel_rfl,O6 ws xs k w ⟨by omega,hf,hx,hin⟩⟩
theorem wX {op:Int} (h:op=2∨op=3∨op=4∨op=5∨op=6∨op=7∨op=8∨op=9):∃(j:Nat) (e:Int×Value),fL[j]?=some e∧op=e.1∧(∀e'∈fL.take j,op≠e'.1)∧xh (D.ofVal e.2) (.agg [(bg op),(.fn (.func (eJ op)) [] []),(.fn (.func (eK op)) [] [])]):=by
  rcases h with rfl | rfl | rfl | rfl | rfl | rfl | rfl | rfl
  · exact⟨0,_,rfl,rfl,by decide,⟨rfl,rfl,rfl,oK⟩⟩
  · exact⟨1,_,rfl,rfl,by decide,⟨rfl,rfl,rfl,oK⟩⟩
  · exact⟨2,_,rfl,rfl,by decide,⟨rfl,rfl,rfl,oK⟩⟩
  · exact⟨3,_,rfl,rfl,by decide,⟨rfl,rfl,rfl,oK⟩⟩
  · exact⟨4,_,rfl,rfl,by decide,⟨rfl,rfl,rfl,oK⟩⟩
  · exact⟨5,_,rfl,rfl,by decide,⟨rfl,rfl,rfl,oK⟩⟩
  · exact⟨6,_,rfl,rfl,by decide,⟨rfl,rfl,rfl,oK⟩⟩
  · exact⟨7,_,rfl,rfl,by decide,⟨rfl,rfl,rfl,oK⟩⟩
theorem wY {op:Int} (h:¬(op=2∨op=3∨op=4∨op=5∨op=6∨op=7∨op=8∨op=9)):∀e'∈fL,op≠e'.1:=by
  intro e' Y0
  simp only[fL,Vh,List.not_mem_nil,or_false]at Y0
  rcases Y0 with rfl | rfl | rfl | rfl | rfl | rfl | rfl | rfl<;>simp only[ne_eq]<;>omega
theorem wZ {op:Int} (h:op=1∨op=10∨op=11∨op=12∨op=13):∃(j:Nat) (e:Int×Value),gy[j]?=some e∧op=e.1∧(∀e'∈gy.take j,op≠e'.1)∧xh (D.ofVal e.2) (.agg [(bg op),(.fn (.func (eJ op)) [] []),(.fn (.func (eK op)) [] [])]):=by
  rcases h with rfl | rfl | rfl | rfl | rfl
  · exact⟨0,_,rfl,rfl,by decide,⟨rfl,rfl,rfl,oK⟩⟩
  · exact⟨1,_,rfl,rfl,by decide,⟨rfl,rfl,rfl,oK⟩⟩
  · exact⟨2,_,rfl,rfl,by decide,⟨rfl,rfl,rfl,oK⟩⟩
  · exact⟨3,_,rfl,rfl,by decide,⟨rfl,rfl,rfl,oK⟩⟩
  · exact⟨4,_,rfl,rfl,by decide,⟨rfl,rfl,rfl,oK⟩⟩
theorem DZ {op:Int} (h:¬(op=1∨op=10∨op=11∨op=12∨op=13)):∀e'∈gy,op≠e'.1:=by
  intro e' Y0
  simp only[gy,Vh,List.not_mem_nil,or_false]at Y0
  rcases Y0 with rfl | rfl | rfl | rfl | rfl<;>simp only[ne_eq]<;>omega
abbrev Hv (op:Int) (ws xs:List Int) (k w:Int):Ct:=⟨102,[(i6 op),(.agg [(LI ws),(LI xs),(i6 k),(i6 w)])],true,(.tup [(.agg [(bg op),(.fn (.func (eJ op)) [] []),(.fn (.func (eK op)) [] [])]),(i6 (bp op ws k w)),(dB (ax (bp op ws k w)))])⟩
def oi (op:Int) (ws:List Int) (xs:List Int) (k:Int) (w:Int):St:=⟨[(4,dm),(7,dD),(9,(i6 (bp op ws k w)))],[(.var 203 [(LI ws),(LI xs),(i6 k),(i6 w)]),eW,(.var 206 [(bg op),(.fn (.func (eJ op)) [] []),(.fn (.func (eK op)) [] [])])]⟩
def uS (op:Int) (ws:List Int) (xs:List Int) (k:Int) (w:Int):St:=⟨[(4,dm),(7,dD),(9,(i6 (bp op ws k w))),(44,(.agg [(bg op),(.fn (.func (eJ op)) [] []),(.fn (.func (eK op)) [] [])]))],[(.var 203 [(LI ws),(LI xs),(i6 k),(i6 w)]),eW,(.var 206 [(bg op),(.fn (.func (eJ op)) [] []),(.fn (.func (eK op)) [] [])])]⟩
def uT (op:Int) (ws:List Int) (xs:List Int) (k:Int) (w:Int):St:=⟨[(4,dm),(7,dD),(9,(i6 (bp op ws k w))),(45,(i6 (bp op ws k w)))],[(.var 203 [(LI ws),(LI xs),(i6 k),(i6 w)]),eW,(.var 206 [(bg op),(.fn (.func (eJ op)) [] []),(.fn (.func (eK op)) [] [])])]⟩
def uU (op:Int) (ws:List Int) (xs:List Int) (k:Int) (w:Int):St:=⟨[(4,dm),(7,dD),(9,(i6 (bp op ws k w))),(46,(i6 (bp op ws k w)))],[(.var 203 [(LI ws),(LI xs),(i6 k),(i6 w)]),eW,(.var 206 [(bg op),(.fn (.func (eJ op)) [] []),(.fn (.func (eK op)) [] [])])]⟩
def oo (op:Int) (ws:List Int) (xs:List Int) (k:Int) (w:Int):St:=⟨[(4,dm),(7,dD),(9,(i6 (bp op ws k w))),(44,(.agg [(bg op),(.fn (.func (eJ op)) [] []),(.fn (.func (eK op)) [] [])])),(45,(i6 (bp op ws k w)))],[(.var 203 [(LI ws),(LI xs),(i6 k),(i6 w)]),eW,(.var 206 [(bg op),(.fn (.func (eJ op)) [] []),(.fn (.func (eK op)) [] [])])]⟩
def oq (op:Int) (ws:List Int) (xs:List Int) (k:Int) (w:Int):St:=⟨[(4,dm),(7,dD),(9,(i6 (bp op ws k w))),(44,(.agg [(bg op),(.fn (.func (eJ op)) [] []),(.fn (.func (eK op)) [] [])])),(46,(i6 (bp op ws k w)))],[(.var 203 [(LI ws),(LI xs),(i6 k),(i6 w)]),eW,(.var 206 [(bg op),(.fn (.func (eJ op)) [] []),(.fn (.func (eK op)) [] [])])]⟩
def ot (op:Int) (ws:List Int) (xs:List Int) (k:Int) (w:Int):St:=⟨[(4,dm),(7,dD),(9,(i6 (bp op ws k w))),(45,(i6 (bp op ws k w))),(46,(i6 (bp op ws k w)))],[(.var 203 [(LI ws),(LI xs),(i6 k),(i6 w)]),eW,(.var 206 [(bg op),(.fn (.func (eJ op)) [] []),(.fn (.func (eK op)) [] [])])]⟩
def uV (op:Int) (ws:List Int) (xs:List Int) (k:Int) (w:Int):St:=⟨[(4,dm),(7,dD),(9,(i6 (bp op ws k w))),(46,(i6 (bp op ws k w))),(47,(dB (ax (bp op ws k w))))],[(.var 203 [(LI ws),(LI xs),(i6 k),(i6 w)]),eW,(.var 206 [(bg op),(.fn (.func (eJ op)) [] []),(.fn (.func (eK op)) [] [])])]⟩
def kt (op:Int) (ws:List Int) (xs:List Int) (k:Int) (w:Int):St:=⟨[(4,dm),(7,dD),(9,(i6 (bp op ws k w))),(44,(.agg [(bg op),(.fn (.func (eJ op)) [] []),(.fn (.func (eK op)) [] [])])),(45,(i6 (bp op ws k w))),(46,(i6 (bp op ws k w)))],[(.var 203 [(LI ws),(LI xs),(i6 k),(i6 w)]),eW,(.var 206 [(bg op),(.fn (.func (eJ op)) [] []),(.fn (.func (eK op)) [] [])])]⟩
def ou (op:Int) (ws:List Int) (xs:List Int) (k:Int) (w:Int):St:=⟨[(4,dm),(7,dD),(9,(i6 (bp op ws k w))),(44,(.agg [(bg op),(.fn (.func (eJ op)) [] []),(.fn (.func (eK op)) [] [])])),(46,(i6 (bp op ws k w))),(47,(dB (ax (bp op ws k w))))],[(.var 203 [(LI ws),(LI xs),(i6 k),(i6 w)]),eW,(.var 206 [(bg op),(.fn (.func (eJ op)) [] []),(.fn (.func (eK op)) [] [])])]⟩
def mr (op:Int) (ws:List Int) (xs:List Int) (k:Int) (w:Int):St:=⟨[(4,dm),(7,dD),(9,(i6 (bp op ws k w))),(45,(i6 (bp op ws k w))),(46,(i6 (bp op ws k w))),(47,(dB (ax (bp op ws k w))))],[(.var 203 [(LI ws),(LI xs),(i6 k),(i6 w)]),eW,(.var 206 [(bg op),(.fn (.func (eJ op)) [] []),(.fn (.func (eK op)) [] [])])]⟩
def jb (op:Int) (ws:List Int) (xs:List Int) (k:Int) (w:Int):St:=⟨[(4,dm),(7,dD),(9,(i6 (bp op ws k w))),(44,(.agg [(bg op),(.fn (.func (eJ op)) [] []),(.fn (.func (eK op)) [] [])])),(45,(i6 (bp op ws k w))),(46,(i6 (bp op ws k w))),(47,(dB (ax (bp op ws k w))))],[(.var 203 [(LI ws),(LI xs),(i6 k),(i6 w)]),eW,(.var 206 [(bg op),(.fn (.func (eJ op)) [] []),(.fn (.func (eK op)) [] [])])]⟩
def sL (op:Int) (ws:List Int) (xs:List Int) (k:Int) (w:Int):St:=⟨[(4,dm),(7,dD),(9,(i6 (bp op ws k w))),(44,(.agg [(bg op),(.fn (.func (eJ op)) [] []),(.fn (.func (eK op)) [] [])])),(46,(i6 (bp op ws k w))),(47,(dB (ax (bp op ws k w))))],[(.var 203 [(LI ws),(LI xs),(i6 k),(i6 w)]),(.var 206 [(bg op),(.fn (.func (eJ op)) [] []),(.fn (.func (eK op)) [] [])]),(.var 206 [(bg op),(.fn (.func (eJ op)) [] []),(.fn (.func (eK op)) [] [])])]⟩
def mt (op:Int) (ws:List Int) (xs:List Int) (k:Int) (w:Int):St:=⟨[(4,dm),(7,dD),(9,(i6 (bp op ws k w))),(44,(.agg [(bg op),(.fn (.func (eJ op)) [] []),(.fn (.func (eK op)) [] [])])),(45,(i6 (bp op ws k w))),(46,(i6 (bp op ws k w))),(47,(dB (ax (bp op ws k w))))],[(.var 203 [(LI ws),(LI xs),(i6 k),(i6 w)]),(.var 206 [(bg op),(.fn (.func (eJ op)) [] []),(.fn (.func (eK op)) [] [])]),(.var 206 [(bg op),(.fn (.func (eJ op)) [] []),(.fn (.func (eK op)) [] [])])]⟩
def sM (op:Int) (ws:List Int) (xs:List Int) (k:Int) (w:Int):St:=⟨[(4,dm),(5,(i6 (bp op ws k w))),(7,dD),(9,(i6 (bp op ws k w))),(44,(.agg [(bg op),(.fn (.func (eJ op)) [] []),(.fn (.func (eK op)) [] [])])),(45,(i6 (bp op ws k w))),(46,(i6 (bp op ws k w))),(47,(dB (ax (bp op ws k w))))],[(.var 203 [(LI ws),(LI xs),(i6 k),(i6 w)]),(.var 206 [(bg op),(.fn (.func (eJ op)) [] []),(.fn (.func (eK op)) [] [])]),(.var 206 [(bg op),(.fn (.func (eJ op)) [] []),(.fn (.func (eK op)) [] [])])]⟩
def sN (op:Int) (ws:List Int) (xs:List Int) (k:Int) (w:Int):St:=⟨[(4,dm),(5,(i6 (bp op ws k w))),(6,(dB (ax (bp op ws k w))))],[(.var 203 [(LI ws),(LI xs),(i6 k),(i6 w)]),(.var 206 [(bg op),(.fn (.func (eJ op)) [] []),(.fn (.func (eK op)) [] [])]),(.var 206 [(bg op),(.fn (.func (eJ op)) [] []),(.fn (.func (eK op)) [] [])])]⟩
def mu (op:Int) (ws:List Int) (xs:List Int) (k:Int) (w:Int):St:=⟨[(4,dm),(7,dD),(9,(i6 (bp op ws k w)))],[(.var 203 [(LI ws),(LI xs),(i6 k),(i6 w)]),eW,(.var 206 [(bg op),(.fn (.func (eJ op)) [] []),(.fn (.func (eK op)) [] [])])]⟩
def sO (op:Int) (ws:List Int) (xs:List Int) (k:Int) (w:Int):St:=⟨[(4,dm),(7,dD),(9,(i6 (bp op ws k w))),(44,(.agg [(bg op),(.fn (.func (eJ op)) [] []),(.fn (.func (eK op)) [] [])]))],[(.var 203 [(LI ws),(LI xs),(i6 k),(i6 w)]),eW,(.var 206 [(bg op),(.fn (.func (eJ op)) [] []),(.fn (.func (eK op)) [] [])])]⟩
def sP (op:Int) (ws:List Int) (xs:List Int) (k:Int) (w:Int):St:=⟨[(4,dm),(7,dD),(9,(i6 (bp op ws k w))),(45,(i6 (bp op ws k w)))],[(.var 203 [(LI ws),(LI xs),(i6 k),(i6 w)]),eW,(.var 206 [(bg op),(.fn (.func (eJ op)) [] []),(.fn (.func (eK op)) [] [])])]⟩
def sQ (op:Int) (ws:List Int) (xs:List Int) (k:Int) (w:Int):St:=⟨[(4,dm),(7,dD),(9,(i6 (bp op ws k w))),(46,(i6 (bp op ws k w)))],[(.var 203 [(LI ws),(LI xs),(i6 k),(i6 w)]),eW,(.var 206 [(bg op),(.fn (.func (eJ op)) [] []),(.fn (.func (eK op)) [] [])])]⟩
def my (op:Int) (ws:List Int) (xs:List Int) (k:Int) (w:Int):St:=⟨[(4,dm),(7,dD),(9,(i6 (bp op ws k w))),(44,(.agg [(bg op),(.fn (.func (eJ op)) [] []),(.fn (.func (eK op)) [] [])])),(45,(i6 (bp op ws k w)))],[(.var 203 [(LI ws),(LI xs),(i6 k),(i6 w)]),eW,(.var 206 [(bg op),(.fn (.func (eJ op)) [] []),(.fn (.func (eK op)) [] [])])]⟩
def mz (op:Int) (ws:List Int) (xs:List Int) (k:Int) (w:Int):St:=⟨[(4,dm),(7,dD),(9,(i6 (bp op ws k w))),(44,(.agg [(bg op),(.fn (.func (eJ op)) [] []),(.fn (.func (eK op)) [] [])])),(46,(i6 (bp op ws k w)))],[(.var 203 [(LI ws),(LI xs),(i6 k),(i6 w)]),eW,(.var 206 [(bg op),(.fn (.func (eJ op)) [] []),(.fn (.func (eK op)) [] [])])]⟩
def mA (op:Int) (ws:List Int) (xs:List Int) (k:Int) (w:Int):St:=⟨[(4,dm),(7,dD),(9,(i6 (bp op ws k w))),(45,(i6 (bp op ws k w))),(46,(i6 (bp op ws k w)))],[(.var 203 [(LI ws),(LI xs),(i6 k),(i6 w)]),eW,(.var 206 [(bg op),(.fn (.func (eJ op)) [] []),(.fn (.func (eK op)) [] [])])]⟩
def sR (op:Int) (ws:List Int) (xs:List Int) (k:Int) (w:Int):St:=⟨[(4,dm),(7,dD),(9,(i6 (bp op ws k w))),(46,(i6 (bp op ws k w))),(47,(dB (ax (bp op ws k w))))],[(.var 203 [(LI ws),(LI xs),(i6 k),(i6 w)]),eW,(.var 206 [(bg op),(.fn (.func (eJ op)) [] []),(.fn (.func (eK op)) [] [])])]⟩
def jc (op:Int) (ws:List Int) (xs:List Int) (k:Int) (w:Int):St:=⟨[(4,dm),(7,dD),(9,(i6 (bp op ws k w))),(44,(.agg [(bg op),(.fn (.func (eJ op)) [] []),(.fn (.func (eK op)) [] [])])),(45,(i6 (bp op ws k w))),(46,(i6 (bp op ws k w)))],[(.var 203 [(LI ws),(LI xs),(i6 k),(i6 w)]),eW,(.var 206 [(bg op),(.fn (.func (eJ op)) [] []),(.fn (.func (eK op)) [] [])])]⟩
def mB (op:Int) (ws:List Int) (xs:List Int) (k:Int) (w:Int):St:=⟨[(4,dm),(7,dD),(9,(i6 (bp op ws k w))),(44,(.agg [(bg op),(.fn (.func (eJ op)) [] []),(.fn (.func (eK op)) [] [])])),(46,(i6 (bp op ws k w))),(47,(dB (ax (bp op ws k w))))],[(.var 203 [(LI ws),(LI xs),(i6 k),(i6 w)]),eW,(.var 206 [(bg op),(.fn (.func (eJ op)) [] []),(.fn (.func (eK op)) [] [])])]⟩
def kO (op:Int) (ws:List Int) (xs:List Int) (k:Int) (w:Int):St:=⟨[(4,dm),(7,dD),(9,(i6 (bp op ws k w))),(45,(i6 (bp op ws k w))),(46,(i6 (bp op ws k w))),(47,(dB (ax (bp op ws k w))))],[(.var 203 [(LI ws),(LI xs),(i6 k),(i6 w)]),eW,(.var 206 [(bg op),(.fn (.func (eJ op)) [] []),(.fn (.func (eK op)) [] [])])]⟩
def ii (op:Int) (ws:List Int) (xs:List Int) (k:Int) (w:Int):St:=⟨[(4,dm),(7,dD),(9,(i6 (bp op ws k w))),(44,(.agg [(bg op),(.fn (.func (eJ op)) [] []),(.fn (.func (eK op)) [] [])])),(45,(i6 (bp op ws k w))),(46,(i6 (bp op ws k w))),(47,(dB (ax (bp op ws k w))))],[(.var 203 [(LI ws),(LI xs),(i6 k),(i6 w)]),eW,(.var 206 [(bg op),(.fn (.func (eJ op)) [] []),(.fn (.func (eK op)) [] [])])]⟩
def qu (op:Int) (ws:List Int) (xs:List Int) (k:Int) (w:Int):St:=⟨[(4,dm),(7,dD),(9,(i6 (bp op ws k w))),(44,(.agg [(bg op),(.fn (.func (eJ op)) [] []),(.fn (.func (eK op)) [] [])])),(46,(i6 (bp op ws k w))),(47,(dB (ax (bp op ws k w))))],[(.var 203 [(LI ws),(LI xs),(i6 k),(i6 w)]),(.var 206 [(bg op),(.fn (.func (eJ op)) [] []),(.fn (.func (eK op)) [] [])]),(.var 206 [(bg op),(.fn (.func (eJ op)) [] []),(.fn (.func (eK op)) [] [])])]⟩
def kP (op:Int) (ws:List Int) (xs:List Int) (k:Int) (w:Int):St:=⟨[(4,dm),(7,dD),(9,(i6 (bp op ws k w))),(44,(.agg [(bg op),(.fn (.func (eJ op)) [] []),(.fn (.func (eK op)) [] [])])),(45,(i6 (bp op ws k w))),(46,(i6 (bp op ws k w))),(47,(dB (ax (bp op ws k w))))],[(.var 203 [(LI ws),(LI xs),(i6 k),(i6 w)]),(.var 206 [(bg op),(.fn (.func (eJ op)) [] []),(.fn (.func (eK op)) [] [])]),(.var 206 [(bg op),(.fn (.func (eJ op)) [] []),(.fn (.func (eK op)) [] [])])]⟩
def qv (op:Int) (ws:List Int) (xs:List Int) (k:Int) (w:Int):St:=⟨[(4,dm),(5,(i6 (bp op ws k w))),(7,dD),(9,(i6 (bp op ws k w))),(44,(.agg [(bg op),(.fn (.func (eJ op)) [] []),(.fn (.func (eK op)) [] [])])),(45,(i6 (bp op ws k w))),(46,(i6 (bp op ws k w))),(47,(dB (ax (bp op ws k w))))],[(.var 203 [(LI ws),(LI xs),(i6 k),(i6 w)]),(.var 206 [(bg op),(.fn (.func (eJ op)) [] []),(.fn (.func (eK op)) [] [])]),(.var 206 [(bg op),(.fn (.func (eJ op)) [] []),(.fn (.func (eK op)) [] [])])]⟩
def qx (op:Int) (ws:List Int) (xs:List Int) (k:Int) (w:Int):St:=⟨[(4,dm),(5,(i6 (bp op ws k w))),(6,(dB (ax (bp op ws k w))))],[(.var 203 [(LI ws),(LI xs),(i6 k),(i6 w)]),(.var 206 [(bg op),(.fn (.func (eJ op)) [] []),(.fn (.func (eK op)) [] [])]),(.var 206 [(bg op),(.fn (.func (eJ op)) [] []),(.fn (.func (eK op)) [] [])])]⟩
theorem yG (op:Int) (ws xs:List Int) (k w:Int) (hw:ws.length≤9223372036854775807) (h:BA op ws=true):CC (Hv op ws xs k w):=by
 obtain⟨h1,h2⟩:=zL h
 have XP:=wW h
 refine ah.vc (V:=TT 4 (CS (op=2∨op=3∨op=4∨op=5∨op=6∨op=7∨op=8∨op=9) (CC AA∧TT 1 ((∃(j:Nat) (e:Int×Value),fL[j]?=some e∧op=e.1∧(∀e'∈fL.take j,op≠e'.1)∧xh (D.ofVal e.2) (.agg [(bg op),(.fn (.func (eJ op)) [] []),(.fn (.func (eK op)) [] [])]))∧TT 18 ((True∧(!decide ((ws.length:Int)=(bw op)))=false)∧TT 2 (CC (Ay ws)∧TT 1 ((!(ws.all ax))=false∧TT 3 (GC (cW op ws xs k w)∧TT 1 ((oi op ws xs k w)=(oi op ws xs k w)∧(((sE (uS op ws xs k w) (True))∧(sE (uT op ws xs k w) (True))∧(sE (uU op ws xs k w) (True))∧True)∧((sE (oo op ws xs k w) (True))∧(sE (oq op ws xs k w) (True))∧True)∧((sE (oo op ws xs k w) (True))∧(sE (ot op ws xs k w) (True))∧True)∧((sE (oq op ws xs k w) (True))∧(sE (ot op ws xs k w) (True))∧(sE (uV op ws xs k w) (CC (iR (bp op ws k w))))∧True)∧((sE (kt op ws xs k w) (True))∧True)∧((sE (kt op ws xs k w) (True))∧(sE (ou op ws xs k w) (CC (iR (bp op ws k w))))∧True)∧((sE (kt op ws xs k w) (True))∧(sE (mr op ws xs k w) (CC (iR (bp op ws k w))))∧True)∧((sE (ou op ws xs k w) (True))∧(sE (mr op ws xs k w) (True))∧True)∧((sE (jb op ws xs k w) (CC (iR (bp op ws k w))))∧True)∧((sE (jb op ws xs k w) (True))∧(sE (sL op ws xs k w) (True))∧True)∧((sE (jb op ws xs k w) (True))∧True)∧((sE (mt op ws xs k w) (True))∧True)∧((sE (mt op ws xs k w) (True))∧True)∧((sE (sM op ws xs k w) (True))∧True)∧((sE (sN op ws xs k w) (True))∧True)∧True∧True)∧TT 3 (((bw op)=(bw op)∧((.fn (.func (eJ op)) [] []):D)=(.fn (.func (eJ op)) [] [])∧((.fn (.func (eK op)) [] []):D)=(.fn (.func (eK op)) [] [])∧True)∧(bp op ws k w)=(bp op ws k w)∧(ax (bp op ws k w))=(ax (bp op ws k w))∧True)))))))) (CC AA∧TT 1 ((∀e'∈fL,op≠e'.1)∧TT 8 (CC DY∧TT 1 ((∃(j:Nat) (e:Int×Value),gy[j]?=some e∧op=e.1∧(∀e'∈gy.take j,op≠e'.1)∧xh (D.ofVal e.2) (.agg [(bg op),(.fn (.func (eJ op)) [] []),(.fn (.func (eK op)) [] [])]))∧TT 15 ((True∧(!decide ((ws.length:Int)=(bw op)))=false)∧TT 2 (CC (Ay ws)∧TT 1 ((!(ws.all ax))=false∧TT 3 (GC (cW op ws xs k w)∧TT 1 ((mu op ws xs k w)=(mu op ws xs k w)∧(((sE (sO op ws xs k w) (True))∧(sE (sP op ws xs k w) (True))∧(sE (sQ op ws xs k w) (True))∧True)∧((sE (my op ws xs k w) (True))∧(sE (mz op ws xs k w) (True))∧True)∧((sE (my op ws xs k w) (True))∧(sE (mA op ws xs k w) (True))∧True)∧((sE (mz op ws xs k w) (True))∧(sE (mA op ws xs k w) (True))∧(sE (sR op ws xs k w) (CC (iR (bp op ws k w))))∧True)∧((sE (jc op ws xs k w) (True))∧True)∧((sE (jc op ws xs k w) (True))∧(sE (mB op ws xs k w) (CC (iR (bp op ws k w))))∧True)∧((sE (jc op ws xs k w) (True))∧(sE (kO op ws xs k w) (CC (iR (bp op ws k w))))∧True)∧((sE (mB op ws xs k w) (True))∧(sE (kO op ws xs k w) (True))∧True)∧((sE (ii op ws xs k w) (CC (iR (bp op ws k w))))∧True)∧((sE (ii op ws xs k w) (True))∧(sE (qu op ws xs k w) (True))∧True)∧((sE (ii op ws xs k w) (True))∧True)∧((sE (kP op ws xs k w) (True))∧True)∧((sE (kP op ws xs k w) (True))∧True)∧((sE (qv op ws xs k w) (True))∧True)∧((sE (qx op ws xs k w) (True))∧True)∧True∧True)∧TT 3 (((bw op)=(bw op)∧((.fn (.func (eJ op)) [] []):D)=(.fn (.func (eJ op)) [] [])∧((.fn (.func (eK op)) [] []):D)=(.fn (.func (eK op)) [] [])∧True)∧(bp op ws k w)=(bp op ws k w)∧(ax (bp op ws k w))=(ax (bp op ws k w))∧True)))))))))))) (.s 1 (op=2∨op=3∨op=4∨op=5∨op=6∨op=7∨op=8∨op=9) (.w 1 [(0,AA.O),(2,.ent (.agg [(bg op),(.fn (.func (eJ op)) [] []),(.fn (.func (eK op)) [] [])]))]<|.w 4 [(10,.val (dB false)),(13,(Ay ws).O)]<|.u 38 (.w 6 [(3,.callg none false (i6 (bp op ws k w)))]<|.y 7 [(3,(iR (bp op ws k w)).O)] [((bm 7 0),(oi op ws xs k w)),((bm 7 1),(uS op ws xs k w)),((bm 7 2),(uT op ws xs k w)),((bm 7 4),(uU op ws xs k w)),((bm 7 3),(oo op ws xs k w)),((bm 7 5),(oq op ws xs k w)),((bm 7 6),(ot op ws xs k w)),((bm 7 12),(uV op ws xs k w)),((bm 7 7),(kt op ws xs k w)),((bm 7 13),(ou op ws xs k w)),((bm 7 14),(mr op ws xs k w)),((bm 7 15),(jb op ws xs k w)),((bm 7 29),(sL op ws xs k w)),((bm 7 31),(mt op ws xs k w)),((bm 7 63),(sM op ws xs k w)),((bm 7 127),(sN op ws xs k w))]<|.e)) (.w 1 [(0,AA.O),(2,.idx none)]<|.w 3 [(0,DY.O),(2,.ent (.agg [(bg op),(.fn (.func (eJ op)) [] []),(.fn (.func (eK op)) [] [])]))]<|.w 4 [(10,.val (dB false)),(13,(Ay ws).O)]<|.u 38 (.w 6 [(3,.callg none false (i6 (bp op ws k w)))]<|.y 7 [(3,(iR (bp op ws k w)).O)] [((bm 7 0),(mu op ws xs k w)),((bm 7 1),(sO op ws xs k w)),((bm 7 2),(sP op ws xs k w)),((bm 7 4),(sQ op ws xs k w)),((bm 7 3),(my op ws xs k w)),((bm 7 5),(mz op ws xs k w)),((bm 7 6),(mA op ws xs k w)),((bm 7 12),(sR op ws xs k w)),((bm 7 7),(jc op ws xs k w)),((bm 7 13),(mB op ws xs k w)),((bm 7 14),(kO op ws xs k w)),((bm 7 15),(ii op ws xs k w)),((bm 7 29),(qu op ws xs k w)),((bm 7 31),(kP op ws xs k w)),((bm 7 63),(qv op ws xs k w)),((bm 7 127),(qx op ws xs k w))]<|.e))) Tryz.func102 rfl rfl rfl (by kernel_rfl) ?_
 refine tt ⟨fun N'=>?_,fun N'=>?_⟩
 · have hS:=N'
   exact⟨po,tt ⟨(wX hS),tt ⟨(nF h1),tt ⟨(kq ws hw),tt ⟨(ya h2),tt ⟨(NB op ws xs k w h),tt ⟨rfl,⟨⟨⟨⟨rfl,oK,oK⟩,⟨rfl,oK,oK⟩,⟨rfl,oK,oK⟩,oK⟩,⟨⟨rfl,oK,oK⟩,⟨rfl,oK,oK⟩,oK⟩,⟨⟨rfl,oK,oK⟩,⟨rfl,oK,oK⟩,oK⟩,⟨⟨rfl,oK,oK⟩,⟨rfl,oK,oK⟩,⟨rfl,(ey (bp op ws k w)),oK⟩,oK⟩,⟨⟨rfl,oK,oK⟩,oK⟩,⟨⟨rfl,oK,oK⟩,⟨rfl,(ey (bp op ws k w)),oK⟩,oK⟩,⟨⟨rfl,oK,oK⟩,⟨rfl,(ey (bp op ws k w)),oK⟩,oK⟩,⟨⟨rfl,oK,oK⟩,⟨rfl,oK,oK⟩,oK⟩,⟨⟨rfl,(ey (bp op ws k w)),oK⟩,oK⟩,⟨⟨rfl,oK,oK⟩,⟨rfl,oK,oK⟩,oK⟩,⟨⟨rfl,oK,oK⟩,oK⟩,⟨⟨rfl,oK,oK⟩,oK⟩,⟨⟨rfl,oK,oK⟩,oK⟩,⟨⟨rfl,oK,oK⟩,oK⟩,⟨⟨rfl,oK,oK⟩,oK⟩,oK,oK⟩,tt ⟨⟨rfl,rfl,rfl,oK⟩,rfl,rfl,oK⟩⟩⟩⟩⟩⟩⟩⟩⟩
 · have hS:=N'
   exact⟨po,tt ⟨(wY hS),tt ⟨t8,tt ⟨(wZ (by omega)),tt ⟨(nF h1),tt ⟨(kq ws hw),tt ⟨(ya h2),tt ⟨(NB op ws xs k w h),tt ⟨rfl,⟨⟨⟨⟨rfl,oK,oK⟩,⟨rfl,oK,oK⟩,⟨rfl,oK,oK⟩,oK⟩,⟨⟨rfl,oK,oK⟩,⟨rfl,oK,oK⟩,oK⟩,⟨⟨rfl,oK,oK⟩,⟨rfl,oK,oK⟩,oK⟩,⟨⟨rfl,oK,oK⟩,⟨rfl,oK,oK⟩,⟨rfl,(ey (bp op ws k w)),oK⟩,oK⟩,⟨⟨rfl,oK,oK⟩,oK⟩,⟨⟨rfl,oK,oK⟩,⟨rfl,(ey (bp op ws k w)),oK⟩,oK⟩,⟨⟨rfl,oK,oK⟩,⟨rfl,(ey (bp op ws k w)),oK⟩,oK⟩,⟨⟨rfl,oK,oK⟩,⟨rfl,oK,oK⟩,oK⟩,⟨⟨rfl,(ey (bp op ws k w)),oK⟩,oK⟩,⟨⟨rfl,oK,oK⟩,⟨rfl,oK,oK⟩,oK⟩,⟨⟨rfl,oK,oK⟩,oK⟩,⟨⟨rfl,oK,oK⟩,oK⟩,⟨⟨rfl,oK,oK⟩,oK⟩,⟨⟨rfl,oK,oK⟩,oK⟩,⟨⟨rfl,oK,oK⟩,oK⟩,oK,oK⟩,tt ⟨⟨rfl,rfl,rfl,oK⟩,rfl,rfl,oK⟩⟩⟩⟩⟩⟩⟩⟩⟩⟩⟩
abbrev Hw (op:Int) (ws xs:List Int) (k w:Int):Ct:=⟨102,[(i6 op),(.agg [(LI ws),(LI xs),(i6 k),(i6 w)])],true,(.tup [(.agg [(i6 0),(.v .nilf),(.v .nilf)]),(i6 0),(dB false)])⟩
theorem yH (op:Int) (ws xs:List Int) (k w:Int) (hw:ws.length≤9223372036854775807) (h:BA op ws=false):CC (Hw op ws xs k w):=by
 refine ah.vc (V:=TT 4 (CS (op=2∨op=3∨op=4∨op=5∨op=6∨op=7∨op=8∨op=9) (CC AA∧TT 1 ((∃(j:Nat) (e:Int×Value),fL[j]?=some e∧op=e.1∧(∀e'∈fL.take j,op≠e'.1)∧xh (D.ofVal e.2) (.agg [(bg op),(.fn (.func (eJ op)) [] []),(.fn (.func (eK op)) [] [])]))∧TT 8 (CS ((ws.length:Int)=(bw op)) (TT 10 ((True∧(!decide ((ws.length:Int)=(bw op)))=false)∧TT 2 (CC (Ay ws)∧TT 1 ((!(ws.all ax))=true∧TT 7 (((0:Int)=0∧True∧True∧True)∧(0:Int)=0∧false=false∧True))))) (TT 10 ((True∧(!decide ((ws.length:Int)=(bw op)))=true)∧TT 11 (((0:Int)=0∧True∧True∧True)∧(0:Int)=0∧false=false∧True)))))) (CC AA∧TT 1 ((∀e'∈fL,op≠e'.1)∧TT 8 (CS (op=1∨op=10∨op=11∨op=12∨op=13) (CC DY∧TT 1 ((∃(j:Nat) (e:Int×Value),gy[j]?=some e∧op=e.1∧(∀e'∈gy.take j,op≠e'.1)∧xh (D.ofVal e.2) (.agg [(bg op),(.fn (.func (eJ op)) [] []),(.fn (.func (eK op)) [] [])]))∧TT 5 (CS ((ws.length:Int)=(bw op)) (TT 10 ((True∧(!decide ((ws.length:Int)=(bw op)))=false)∧TT 2 (CC (Ay ws)∧TT 1 ((!(ws.all ax))=true∧TT 7 (((0:Int)=0∧True∧True∧True)∧(0:Int)=0∧false=false∧True))))) (TT 10 ((True∧(!decide ((ws.length:Int)=(bw op)))=true)∧TT 11 (((0:Int)=0∧True∧True∧True)∧(0:Int)=0∧false=false∧True)))))) (CC DY∧TT 1 ((∀e'∈gy,op≠e'.1)∧TT 27 (((0:Int)=0∧True∧True∧True)∧(0:Int)=0∧false=false∧True)))))))) (.s 1 (op=2∨op=3∨op=4∨op=5∨op=6∨op=7∨op=8∨op=9) (.w 1 [(0,AA.O),(2,.ent (.agg [(bg op),(.fn (.func (eJ op)) [] []),(.fn (.func (eK op)) [] [])]))]<|.s 4 ((ws.length:Int)=(bw op)) (.w 4 [(10,.val (dB false)),(13,(Ay ws).O)]<|.t 38 (.e)) (.w 4 [(10,.val (dB true))]<|.e)) (.w 1 [(0,AA.O),(2,.idx none)]<|.s 3 (op=1∨op=10∨op=11∨op=12∨op=13) (.w 3 [(0,DY.O),(2,.ent (.agg [(bg op),(.fn (.func (eJ op)) [] []),(.fn (.func (eK op)) [] [])]))]<|.s 4 ((ws.length:Int)=(bw op)) (.w 4 [(10,.val (dB false)),(13,(Ay ws).O)]<|.t 38 (.e)) (.w 4 [(10,.val (dB true))]<|.e)) (.w 3 [(0,DY.O),(2,.idx none)]<|.e))) Tryz.func102 rfl rfl rfl (by kernel_rfl) ?_
 refine tt ⟨fun N'=>?_,fun N'=>?_⟩
 · have hS:=N'
   refine⟨po,tt ⟨(wX hS),tt ⟨fun WN=>?_,fun WN=>?_⟩⟩⟩
   · exact tt ⟨(nF WN),tt ⟨(kq ws hw),tt ⟨(Ry (by rcases IZ h with h5 | ⟨_,h5⟩;exact absurd (by assumption) h5;rw[h5];simp)),tt ⟨⟨rfl,oK,oK,oK⟩,rfl,rfl,oK⟩⟩⟩⟩
   · exact tt ⟨(nT WN),tt ⟨⟨rfl,oK,oK,oK⟩,rfl,rfl,oK⟩⟩
 · have hS:=N'
   refine⟨po,tt ⟨(wY hS),tt ⟨fun XH=>?_,fun XH=>?_⟩⟩⟩
   · have hO:=XH
     refine⟨t8,tt ⟨(wZ hO),tt ⟨fun Y4=>?_,fun Y4=>?_⟩⟩⟩
     · exact tt ⟨(nF Y4),tt ⟨(kq ws hw),tt ⟨(Ry (by rcases IZ h with h5 | ⟨_,h5⟩;exact absurd (by assumption) h5;rw[h5];simp)),tt ⟨⟨rfl,oK,oK,oK⟩,rfl,rfl,oK⟩⟩⟩⟩
     · exact tt ⟨(nT Y4),tt ⟨⟨rfl,oK,oK,oK⟩,rfl,rfl,oK⟩⟩
   · have hO:=XH
     exact⟨t8,tt ⟨(DZ hO),tt ⟨⟨rfl,oK,oK,oK⟩,rfl,rfl,oK⟩⟩⟩
theorem rh {op:Int} {ws:List Int} {k w:Int} (h:BA op ws=true) (h2:ax (bp op ws k w)=true):it op ws k w=true:=by rw[Dx,h,h2];rfl
theorem cR {op:Int} {ws:List Int} {k w:Int} (h:¬BA op ws=true):it op ws k w=false:=by rw[Dx,Vu.2 h];rfl
theorem cS {op:Int} {ws:List Int} {k w:Int} (h2:¬ax (bp op ws k w)=true):it op ws k w=false:=by rw[Dx,Vu.2 h2,U7]
theorem nf {op:Int} {ws:List Int} {k w:Int} (h:it op ws k w=false):0=b7 op ws k w∧1=kH op ws k w:=by unfold b7 kH;rw[h];exact⟨rfl,rfl⟩
theorem t9 {op:Int} {ws:List Int} {k w:Int} (h:it op ws k w=true):bp op ws k w=b7 op ws k w∧0=kH op ws k w:=by unfold b7 kH;rw[h];exact⟨rfl,rfl⟩
abbrev Ss (op:Int) (ws:List Int) (k w:Int):Ct:=⟨96,[(i6 op),(LI ws),(.agg [(i6 k),(i6 w)])],false,(.tup [(i6 (b7 op ws k w)),(i6 (kH op ws k w))])⟩
theorem Ks (op:Int) (ws:List Int) (k w:Int) (hw:ws.length≤9223372036854775807):CC (Ss op ws k w):=by
 refine ah.vc (V:=TT 3 (CS (BA op ws=true) (TT 2 (((0≤(0:Int)∧0<(2:Int))∧True)∧TT 1 (((0≤(1:Int)∧1<(2:Int))∧True)∧TT 2 ((uB [] [(i6 op),(.agg [(LI ws),.nils,(i6 k),(i6 w)])] (Hv op ws [] k w).q'∧CC (Hv op ws [] k w))∧TT 10 (CB (!(ax (bp op ws k w))) (TT 4 (((0:Int)=(b7 op ws k w)∧(1:Int)=(kH op ws k w)∧True)∧(True∧True∧True))) (TT 5 (((bp op ws k w)=(b7 op ws k w)∧(0:Int)=(kH op ws k w)∧True)∧(True∧True∧True)))))))) (TT 2 (((0≤(0:Int)∧0<(2:Int))∧True)∧TT 1 (((0≤(1:Int)∧1<(2:Int))∧True)∧TT 2 ((uB [] [(i6 op),(.agg [(LI ws),.nils,(i6 k),(i6 w)])] (Hw op ws [] k w).q'∧CC (Hw op ws [] k w))∧TT 14 (((0:Int)=(b7 op ws k w)∧(1:Int)=(kH op ws k w)∧True)∧(True∧True∧True)))))))) (.s 1 (BA op ws=true) (.w 1 [(7,(Hv op ws [] k w).O')]<|.b 24 (.e) (.e)) (.w 1 [(7,(Hw op ws [] k w).O')]<|.e)) Tryz.func96 rfl rfl rfl (by kernel_rfl) ?_
 refine tt ⟨fun N'=>?_,fun N'=>?_⟩
 · have hb:=N'
   refine tt ⟨⟨by omega,oK⟩,tt ⟨⟨by omega,oK⟩,tt ⟨⟨⟨rfl,⟨rfl,rfl,rfl,rfl,oK⟩,oK⟩,(yG op ws [] k w hw hb)⟩,tt ⟨fun XN=>?_,fun XN=>?_⟩⟩⟩⟩
   · refine tt ⟨⟨?_,?_,oK⟩,⟨oK,oK,oK⟩⟩
     all_goals (first | exact(nf (cR hb)).1 | exact(nf (cR hb)).2 | exact(nf (cS (by simpa using XN))).1 | exact(nf (cS (by simpa using XN))).2 | exact(t9 (rh hb (by simpa using XN))).1 | exact(t9 (rh hb (by simpa using XN))).2)
   · refine tt ⟨⟨?_,?_,oK⟩,⟨oK,oK,oK⟩⟩
     all_goals (first | exact(nf (cR hb)).1 | exact(nf (cR hb)).2 | exact(nf (cS (by simpa using XN))).1 | exact(nf (cS (by simpa using XN))).2 | exact(t9 (rh hb (by simpa using XN))).1 | exact(t9 (rh hb (by simpa using XN))).2)
 · have hb:=N'
   refine tt ⟨⟨by omega,oK⟩,tt ⟨⟨by omega,oK⟩,tt ⟨⟨⟨rfl,⟨rfl,rfl,rfl,rfl,oK⟩,oK⟩,(yH op ws [] k w hw (Vu.2 hb))⟩,tt ⟨⟨?_,?_,oK⟩,⟨oK,oK,oK⟩⟩⟩⟩⟩
   all_goals (first | exact(nf (cR hb)).1 | exact(nf (cR hb)).2 | exact(nf (cS (by simpa using XN))).1 | exact(nf (cS (by simpa using XN))).2 | exact(t9 (rh hb (by simpa using XN))).1 | exact(t9 (rh hb (by simpa using XN))).2)
abbrev Su (op:Int) (ws xs G':List Int):Ct:=⟨95,[(i6 op),(LI ws),(LI xs),(LI G')],false,(.tup [(i6 (cT op ws xs G')),(i6 (iL op ws xs G'))])⟩
abbrev sS (op:Int) (ws:List Int) (xs:List Int) (G':List Int):Lp (Nat):=gD [1,10,11,44,45,46] 11 (fun (i:Nat)=>⟨[(1,(LI ws)),(10,(.ptr 9 0 0 0)),(11,(.ptr 10 0 0 0)),(44,(LI xs)),(45,(i6 (xs.length:Int))),(46,(i6 (i:Int)))],[.dead,.dead,.dead,.dead,.dead,.dead,.dead,.dead,.dead,(.var 203 [(LI ws),(LI xs),(i6 (G'.getD 0 0)),(i6 (G'.getD 1 0))]),(.var 206 [(bg op),(.fn (.func (eJ op)) [] []),(.fn (.func (eK op)) [] [])])]⟩) (fun (i:Nat)=>i≤xs.length∧∀j,j<i→0≤xs.getD j 0∧xs.getD j 0≤ai (ws.getD j 0)) (fun (i:Nat)=>xs.length-i)
theorem Kt (op:Int) (ws xs G':List Int) (hwl:ws.length≤9223372036854775807) (hxl0:xs.length≤9223372036854775807):CC (Su op ws xs G'):=by
 refine ah.vc (V:=TT 2 (CS ((G'.length:Int)=2) (TT 3 ((True∧(!decide ((G'.length:Int)=2))=false)∧TT 6 (CN ((xs.length:Int)=(ws.length:Int)) (TT 4 (((0:Int)=(cT op ws xs G')∧(1:Int)=(iL op ws xs G')∧True)∧(True∧True∧True))) (TT 3 (IX 0 G'.length∧TT 2 (IX 1 G'.length∧TT 4 (CS (BA op ws=true) (TT 2 (CC (Hv op ws xs (G'.getD 0 0) (G'.getD 1 0))∧TT 10 (CB (!(ax (bp op ws (G'.getD 0 0) (G'.getD 1 0)))) (TT 4 (((0:Int)=(cT op ws xs G')∧(1:Int)=(iL op ws xs G')∧True)∧(True∧True∧True))) (TT 3 (GO (sS op ws xs G') 0 (∀i,(sS op ws xs G').inv i→TT 1 (CD ((i:Int)<(xs.length:Int)) (TT 1 (IX (i:Int) xs.length∧TT 3 (CS ((xs.getD i 0)<0) (TT 2 ((True∧(decide ((xs.getD i 0)<0))=true)∧TT 12 (((0:Int)=(cT op ws xs G')∧(1:Int)=(iL op ws xs G')∧True)∧(True∧True∧True)))) (TT 2 ((True∧(decide ((xs.getD i 0)<0))=false)∧TT 3 (IX (i:Int) ws.length∧TT 1 (CC (Hq (ws.getD i 0))∧TT 2 (CD ((xs.getD i 0)>(ai (ws.getD i 0))) (TT 4 (((0:Int)=(cT op ws xs G')∧(1:Int)=(iL op ws xs G')∧True)∧(True∧True∧True))) (W6 ((i+1:Nat):Int)∧TT 1 (AG (sS op ws xs G') i (i+1))))))))))) (TT 3 (GC (cV op ws xs (G'.getD 0 0) (G'.getD 1 0))∧TT 4 (((jB op ws xs (G'.getD 0 0) (G'.getD 1 0))=(cT op ws xs G')∧(0:Int)=(iL op ws xs G')∧True)∧(True∧True∧True))))))))))) (TT 2 (CC (Hw op ws xs (G'.getD 0 0) (G'.getD 1 0))∧TT 14 (((0:Int)=(cT op ws xs G')∧(1:Int)=(iL op ws xs G')∧True)∧(True∧True∧True))))))))))) (TT 3 ((True∧(!decide ((G'.length:Int)=2))=true)∧TT 10 (((0:Int)=(cT op ws xs G')∧(1:Int)=(iL op ws xs G')∧True)∧(True∧True∧True)))))) (.s 1 ((G'.length:Int)=2) (.w 1 [(3,.val (dB false))]<|.b 25 (.e) (.s 4 (BA op ws=true) (.w 4 [(2,(Hv op ws xs (G'.getD 0 0) (G'.getD 1 0)).O)]<|.b 43 (.e) (.l (sS op ws xs G') 0 (fun i=>.b 47 (.s 10 ((xs.getD i 0)<0) (.w 10 [(2,.val (dB true))]<|.e) (.w 10 [(2,.val (dB false)),(8,(Hq (ws.getD i 0)).O)]<|.b 61 (.e) (.w 12 [(0,.val (i6 ((i+1:Nat):Int)))]<|.e))) (.w 13 [(3,.callg none false (i6 (jB op ws xs (G'.getD 0 0) (G'.getD 1 0))))]<|.e)))) (.w 4 [(2,(Hw op ws xs (G'.getD 0 0) (G'.getD 1 0)).O)]<|.e))) (.w 1 [(3,.val (dB true))]<|.e)) Tryz.func95 rfl rfl rfl (by kernel_rfl) ?_
 refine tt ⟨fun N'=>?_,fun N'=>?_⟩
 · refine tt ⟨(nF N'),tt (cn (fun WD=>?_) (fun WD=>?_))⟩
   · refine tt ⟨⟨?_,?_,oK⟩,⟨oK,oK,oK⟩⟩
     all_goals (first | exact(bf (rY (by omega))).1.symm | exact(bf (rY (by omega))).2.symm | exact(bf (rZ (by omega))).1.symm | exact(bf (rZ (by omega))).2.symm | exact(bf (cB (cR hb))).1.symm | exact(bf (cB (cR hb))).2.symm | exact(bf (cB (cS (by simpa using W5)))).1.symm | exact(bf (cB (cS (by simpa using W5)))).2.symm | exact(bf (kb (i:=i) (by omega) (by omega))).1.symm | exact(bf (kb (i:=i) (by omega) (by omega))).2.symm | exact(d4 Yf Yd XG hin).1.symm | exact(d4 Yf Yd XG hin).2.symm)
   · refine tt ⟨ix,tt ⟨ix,tt ⟨fun WN=>?_,fun WN=>?_⟩⟩⟩
     · have hb:=WN
       refine tt ⟨(yG op ws xs (G'.getD 0 0) (G'.getD 1 0) hwl hb),tt ⟨fun W5=>?_,fun W5=>?_⟩⟩
       · refine tt ⟨⟨?_,?_,oK⟩,⟨oK,oK,oK⟩⟩
         all_goals (first | exact(bf (rY (by omega))).1.symm | exact(bf (rY (by omega))).2.symm | exact(bf (rZ (by omega))).1.symm | exact(bf (rZ (by omega))).2.symm | exact(bf (cB (cR hb))).1.symm | exact(bf (cB (cR hb))).2.symm | exact(bf (cB (cS (by simpa using W5)))).1.symm | exact(bf (cB (cS (by simpa using W5)))).2.symm | exact(bf (kb (i:=i) (by omega) (by omega))).1.symm | exact(bf (kb (i:=i) (by omega) (by omega))).2.symm | exact(d4 Yf Yd XG hin).1.symm | exact(d4 Yf Yd XG hin).2.symm)
       · refine tt ?_
         have XG:=rh hb (by simpa using W5)
         have Yf:G'.length=2:=by omega
         have Yd:xs.length=ws.length:=by omega
         refine⟨rfl,⟨by omega,fun j hj=>by omega⟩,?_⟩
         intro i F'
         obtain⟨hi,hall⟩:=F'
         refine tt (cd (fun hc47=>?_) (fun hc47=>?_))
         · refine tt ⟨ix,tt ⟨fun XH=>?_,fun XH=>?_⟩⟩
           · refine tt ⟨(vT XH),tt ⟨⟨?_,?_,oK⟩,⟨oK,oK,oK⟩⟩⟩
             all_goals (first | exact(bf (rY (by omega))).1.symm | exact(bf (rY (by omega))).2.symm | exact(bf (rZ (by omega))).1.symm | exact(bf (rZ (by omega))).2.symm | exact(bf (cB (cR hb))).1.symm | exact(bf (cB (cR hb))).2.symm | exact(bf (cB (cS (by simpa using W5)))).1.symm | exact(bf (cB (cS (by simpa using W5)))).2.symm | exact(bf (kb (i:=i) (by omega) (by omega))).1.symm | exact(bf (kb (i:=i) (by omega) (by omega))).2.symm | exact(d4 Yf Yd XG hin).1.symm | exact(d4 Yf Yd XG hin).2.symm)
           · refine tt ⟨(vF XH),tt ⟨ix,tt ⟨(pj (ws.getD i 0)),tt (cd (fun Y5=>?_) (fun Y5=>?_))⟩⟩⟩
             · refine tt ⟨⟨?_,?_,oK⟩,⟨oK,oK,oK⟩⟩
               all_goals (first | exact(bf (rY (by omega))).1.symm | exact(bf (rY (by omega))).2.symm | exact(bf (rZ (by omega))).1.symm | exact(bf (rZ (by omega))).2.symm | exact(bf (cB (cR hb))).1.symm | exact(bf (cB (cR hb))).2.symm | exact(bf (cB (cS (by simpa using W5)))).1.symm | exact(bf (cB (cS (by simpa using W5)))).2.symm | exact(bf (kb (i:=i) (by omega) (by omega))).1.symm | exact(bf (kb (i:=i) (by omega) (by omega))).2.symm | exact(d4 Yf Yd XG hin).1.symm | exact(d4 Yf Yd XG hin).2.symm)
             · refine⟨w6,tt ⟨(i+1),rfl,?_,(?_:xs.length-(i+1)<xs.length-i)⟩⟩
               · exact⟨by omega,bD hall ⟨by omega,by omega⟩⟩
               · omega
         · have hin:Bx ws xs=true:=IY (fun j hj=>hall j (by omega))
           refine tt ⟨(QU op ws xs _ _ XG Yd hin),tt ⟨⟨?_,?_,oK⟩,⟨oK,oK,oK⟩⟩⟩
           all_goals (first | exact(bf (rY (by omega))).1.symm | exact(bf (rY (by omega))).2.symm | exact(bf (rZ (by omega))).1.symm | exact(bf (rZ (by omega))).2.symm | exact(bf (cB (cR hb))).1.symm | exact(bf (cB (cR hb))).2.symm | exact(bf (cB (cS (by simpa using W5)))).1.symm | exact(bf (cB (cS (by simpa using W5)))).2.symm | exact(bf (kb (i:=i) (by omega) (by omega))).1.symm | exact(bf (kb (i:=i) (by omega) (by omega))).2.symm | exact(d4 Yf Yd XG hin).1.symm | exact(d4 Yf Yd XG hin).2.symm)
     · have hb:=WN
       refine tt ⟨(yH op ws xs (G'.getD 0 0) (G'.getD 1 0) hwl (Vu.2 hb)),tt ⟨⟨?_,?_,oK⟩,⟨oK,oK,oK⟩⟩⟩
       all_goals (first | exact(bf (rY (by omega))).1.symm | exact(bf (rY (by omega))).2.symm | exact(bf (rZ (by omega))).1.symm | exact(bf (rZ (by omega))).2.symm | exact(bf (cB (cR hb))).1.symm | exact(bf (cB (cR hb))).2.symm | exact(bf (cB (cS (by simpa using W5)))).1.symm | exact(bf (cB (cS (by simpa using W5)))).2.symm | exact(bf (kb (i:=i) (by omega) (by omega))).1.symm | exact(bf (kb (i:=i) (by omega) (by omega))).2.symm | exact(d4 Yf Yd XG hin).1.symm | exact(d4 Yf Yd XG hin).2.symm)
 · refine tt ⟨(nT N'),tt ⟨⟨?_,?_,oK⟩,⟨oK,oK,oK⟩⟩⟩
   all_goals (first | exact(bf (rY (by omega))).1.symm | exact(bf (rY (by omega))).2.symm | exact(bf (rZ (by omega))).1.symm | exact(bf (rZ (by omega))).2.symm | exact(bf (cB (cR hb))).1.symm | exact(bf (cB (cR hb))).2.symm | exact(bf (cB (cS (by simpa using W5)))).1.symm | exact(bf (cB (cS (by simpa using W5)))).2.symm | exact(bf (kb (i:=i) (by omega) (by omega))).1.symm | exact(bf (kb (i:=i) (by omega) (by omega))).2.symm | exact(d4 Yf Yd XG hin).1.symm | exact(d4 Yf Yd XG hin).2.symm)
abbrev MF (p:Pr) (s:Ps) (data:List Int) (n:Nat) (e:Ex):Ct:=⟨86,[(.agg [(dS p.name),(dS p.clock),(dL 13 bO aI p.Ul),(dL 27 b8 ay p.Uk),(dL 9 dU bC p.I),(dL 16 dQ bt p.Uj),(LI s.Ul),(dL 1 aa [] s.Uk),(LI data)]),(.agg [(i6 e.op),(dS e.name),(i6 e.k.n),(dS e.k.p),(i6 e.w.n),(dS e.w.p),(dL 7 (eA n) dE e.args)])],false,(.tup [(i6 ((be p s data e).1)),(i6 ((be p s data e).2))])⟩
abbrev AC (p:Pr) (s:Ps) (data:List Int) (n:Nat) (e:Ex):Lp (Nat):=gD [2,3,6,9,10,90,91,92] 4 (fun (i:Nat)=>⟨[(2,(.ptr 0 0 0 0)),(3,(.ptr 1 0 0 0)),(6,(i6 e.k.n)),(9,(.own 2)),(10,(.own 3)),(90,(dL 7 (eA (n+1)) dE e.args)),(91,(i6 (e.args.length:Int))),(92,(i6 (i:Int)))],[(.var 178 [(dS p.name),(dS p.clock),(dL 13 bO aI p.Ul),(dL 27 b8 ay p.Uk),(dL 9 dU bC p.I),(dL 16 dQ bt p.Uj),(LI s.Ul),(dL 1 aa [] s.Uk),(LI data)]),(.var 58 [(i6 e.op),(dS e.name),(i6 e.k.n),(dS e.k.p),(i6 e.w.n),(dS e.w.p),(dL 7 (eA (n+1)) dE e.args)]),(.arr 3 1 (ab .i64) 0 (fx p s data (e.args.take i))),(.arr 3 1 (ab .i64) 0 (dJ p s data (e.args.take i)))]⟩) (fun (i:Nat)=>i≤e.args.length) (fun (i:Nat)=>e.args.length-i)
theorem Ku (p:Pr) (s:Ps) (data:List Int) (n:Nat) (e:Ex) (c:Sc) (v:Int) (ho:tG c p s data) (ht:eF c e=some v) (ih:∀a∈e.args,CC (MF p s data n a)):CC (MF p s data (n+1) e):=by
 have Xm:=I3 ht
 refine ah.vc (V:=TT 12 (CD (e.op=16) (TT 4 (IX e.k.n s.Ul.length∧TT 5 (IX e.k.n p.Ul.length∧TT 6 (((s.Ul.getD e.k.n.toNat 0)=((be p s data e).1)∧((p.Ul.getD e.k.n.toNat aI).w)=((be p s data e).2)∧True)∧(True∧True∧True))))) (TT 2 (CD (e.op=18) (TT 3 (IX e.k.n data.length∧TT 5 (IX e.k.n p.I.length∧TT 6 (((data.getD e.k.n.toNat 0)=((be p s data e).1)∧((p.I.getD e.k.n.toNat bC).w)=((be p s data e).2)∧True)∧(True∧True∧True))))) (TT 2 (CD (e.op=17) (TT 3 (IX 0 e.args.length∧TT 1 (CC (MF p s data n (e.args.getD 0 dE))∧TT 9 (IX e.k.n s.Uk.length∧TT 6 (IX e.k.n s.Uk.length∧TT 2 ((((s.Uk.getD e.k.n.toNat []).length:Nat):Int)≠0∧IX (Int.tmod ((be p s data (e.args.getD 0 dE)).1) (((s.Uk.getD e.k.n.toNat []).length:Nat):Int)) ((s.Uk.getD e.k.n.toNat []).length)∧TT 5 (IX e.k.n p.Uk.length∧TT 6 ((((s.Uk.getD e.k.n.toNat []).getD ((Int.tmod ((be p s data (e.args.getD 0 dE)).1) (((s.Uk.getD e.k.n.toNat []).length:Nat):Int)).toNat) 0)=((be p s data e).1)∧((p.Uk.getD e.k.n.toNat ay).w)=((be p s data e).2)∧True)∧(True∧True∧True))))))))) (TT 6 (GO (AC p s data n e) 0 (∀i,(AC p s data n e).inv i→TT 1 (CD ((i:Int)<(e.args.length:Int)) (IX (i:Int) e.args.length∧TT 5 (CC (MF p s data n (e.args.getD i dE))∧TT 7 (am [[(i6 ((be p s data (e.args.getD i dE)).1))]] ([(be p s data (e.args.getD i dE)).1].map (ab .i64))∧((fx p s data (e.args.take i)).length+([(be p s data (e.args.getD i dE)).1].map (ab .i64)).length≤137438953472∧(fx p s data (e.args.take i)).map (ab .i64)++[(be p s data (e.args.getD i dE)).1].map (ab .i64)=(fx p s data (e.args.take (i+1))).map (ab .i64))∧TT 2 (am [[(i6 ((be p s data (e.args.getD i dE)).2))]] ([(be p s data (e.args.getD i dE)).2].map (ab .i64))∧((dJ p s data (e.args.take i)).length+([(be p s data (e.args.getD i dE)).2].map (ab .i64)).length≤137438953472∧(dJ p s data (e.args.take i)).map (ab .i64)++[(be p s data (e.args.getD i dE)).2].map (ab .i64)=(dJ p s data (e.args.take (i+1))).map (ab .i64))∧TT 2 (W6 ((i+1:Nat):Int)∧TT 1 (AG (AC p s data n e) i (i+1))))))) (TT 11 ((0≤(0:Int)∧(0:Int)≤(2:Int)∧(2:Int)≤(2:Int))∧CK (Su e.op (dJ p s data (e.args.take i)) (fx p s data (e.args.take i)) [e.k.n,e.w.n])∧TT 9 (CK (Ss e.op (dJ p s data (e.args.take i)) e.k.n e.w.n)∧TT 11 (((cT e.op (dJ p s data (e.args.take i)) (fx p s data (e.args.take i)) [e.k.n,e.w.n])=((be p s data e).1)∧(b7 e.op (dJ p s data (e.args.take i)) e.k.n e.w.n)=((be p s data e).2)∧True)∧(True∧True∧True))))))))))))))) (.b 25 (.e) (.b 40 (.e) (.b 54 (.w 8 [(5,(MF p s data n (e.args.getD 0 dE)).O)]<|.e) (.gs 11 9 3 1 (ab .i64) 0<|.gs 11 10 3 1 (ab .i64) 0<|.l (AC p s data n e) 0 (fun i=>.b 93 (.w 14 [(2,(MF p s data n (e.args.getD i dE)).O)]<|.w 15 [(2,.box 3 1 (ab .i64) 0 [(be p s data (e.args.getD i dE)).1]),(3,.box 3 1 (ab .i64) 0 (fx p s data (e.args.take (i+1)))),(6,.box 3 1 (ab .i64) 0 [(be p s data (e.args.getD i dE)).2]),(7,.box 3 1 (ab .i64) 0 (dJ p s data (e.args.take (i+1))))]<|.w 16 [(0,.val (i6 ((i+1:Nat):Int)))]<|.e) (.f 18 4<|.w 18 [(5,(Su e.op (dJ p s data (e.args.take i)) (fx p s data (e.args.take i)) [e.k.n,e.w.n]).O')]<|.w 19 [(4,(Ss e.op (dJ p s data (e.args.take i)) e.k.n e.w.n).O')]<|.e)))))) Tryz.func86 rfl rfl rfl (by kernel_rfl) ?_
 refine tt (cd (fun WD=>?_) (fun WD=>?_))
 · obtain⟨h1,h2,h3⟩:=I4 ho ht WD
   refine tt ⟨ix,tt ⟨ix,tt ⟨⟨?_,?_,oK⟩,⟨oK,oK,oK⟩⟩⟩⟩
   all_goals (first | exact(fw WD).1.symm | exact(fw WD).2.symm | exact(dV XE).1.symm | exact(dV XE).2.symm | exact(dW XD WA).1.symm | exact(dW XD WA).2.symm | (rw[W8,U9];exact(iV WD XE XD).1.symm) | (rw[W8,U9];exact(iV WD XE XD).2.symm))
 · refine tt (cd (fun XE=>?_) (fun XE=>?_))
   · obtain⟨h1,h2,h3⟩:=Ff ho ht XE
     refine tt ⟨ix,tt ⟨ix,tt ⟨⟨?_,?_,oK⟩,⟨oK,oK,oK⟩⟩⟩⟩
     all_goals (first | exact(fw WD).1.symm | exact(fw WD).2.symm | exact(dV XE).1.symm | exact(dV XE).2.symm | exact(dW XD WA).1.symm | exact(dW XD WA).2.symm | (rw[W8,U9];exact(iV WD XE XD).1.symm) | (rw[W8,U9];exact(iV WD XE XD).2.symm))
   · refine tt (cd (fun XD=>?_) (fun XD=>?_))
     · obtain⟨h1,h2,h3,WA,h4,h5,h6⟩:=Fg ho ht XD
       refine tt ⟨ix,tt ⟨(ih _ (jg (by omega))),tt ⟨ix,tt ⟨ix,tt ⟨om,⟨ix,tt ⟨ix,tt ⟨⟨?_,?_,oK⟩,⟨oK,oK,oK⟩⟩⟩⟩⟩⟩⟩⟩⟩
       all_goals (first | exact(fw WD).1.symm | exact(fw WD).2.symm | exact(dV XE).1.symm | exact(dV XE).2.symm | exact(dW XD WA).1.symm | exact(dW XD WA).2.symm | (rw[W8,U9];exact(iV WD XE XD).1.symm) | (rw[W8,U9];exact(iV WD XE XD).2.symm))
     · refine tt ⟨rfl,(by omega),?_⟩
       intro i F'
       have hi:=F'
       refine tt (cd (fun YZ=>?_) (fun YZ=>?_))
       · refine⟨ix,tt ⟨(ih _ (jg (by omega))),tt ⟨⟨⟨rfl,oK⟩,oK⟩,⟨⟨by first | (simp[fx];done) | (simp[fx];omega),by rw[yh (by omega),Vc]⟩,tt ⟨⟨⟨rfl,oK⟩,oK⟩,⟨⟨by first | (simp[dJ];done) | (simp[dJ];omega),by rw[yi (by omega),Vc]⟩,tt ⟨w6,tt ⟨(i+1),rfl,(?_:(i+1)≤e.args.length),(?_:e.args.length-(i+1)<e.args.length-i)⟩⟩⟩⟩⟩⟩⟩⟩
         · omega
         · omega
       · have W8:i=e.args.length:=by omega
         refine tt ⟨om,⟨⟨du _ rfl,(Kt e.op (dJ p s data (e.args.take i)) (fx p s data (e.args.take i)) [e.k.n,e.w.n] (by rw[r9,UG];omega) (by rw[wC,UG];omega))⟩,tt ⟨⟨du _ rfl,(Ks e.op (dJ p s data (e.args.take i)) e.k.n e.w.n (by rw[r9,UG];omega))⟩,tt ⟨⟨?_,?_,oK⟩,⟨oK,oK,oK⟩⟩⟩⟩⟩
         all_goals (first | exact(fw WD).1.symm | exact(fw WD).2.symm | exact(dV XE).1.symm | exact(dV XE).2.symm | exact(dW XD WA).1.symm | exact(dW XD WA).2.symm | (rw[W8,U9];exact(iV WD XE XD).1.symm) | (rw[W8,U9];exact(iV WD XE XD).2.symm))
theorem F7 {c:Sc} {p:Pr} {s:Ps} {data:List Int} (ho:tG c p s data):∀(n:Nat) (e:Ex) (v:Int),eF c e=some v→fo e≤n+1→CC (MF p s data n e)
  | 0,e,v,ht,hd=>by
    have ha:e.args=[]:=by
      cases hl:e.args with
      | nil=>rfl
      | cons a r =>
        have:=r8 (e:=e) (a:=a) (by rw[hl];simp)
        cases a with | mk op name k w args=>rw[fo]at this;omega
    have h:=Ku p s data 0 e c v ho ht (fun a h=>by rw[ha]at h;cases h)
    refine ah.recast ?_ h
    refine⟨wz _ rfl,⟨rfl,rfl,rfl,rfl,rfl,rfl,?_,oK⟩,oK⟩
    show e.args.map (eA 0)=e.args.map (eA 1)
    rw[ha];rfl
  | n+1,e,v,ht,hd=>Ku p s data n e c v ho ht (fun a h=>by
    obtain⟨w,hw⟩:=I2 ht h
    exact F7 ho n a w hw (by have:=r8 h;omega))
abbrev qy (s:Ps):D:=(dL 1 aa [] s.Uk)
abbrev sT (p:Pr) (s:Ps):aC:=(.var 178 [(dS p.name),(dS p.clock),(dL 13 bO aI p.Ul),(dL 27 b8 ay p.Uk),(dL 9 dU bC p.I),(dL 16 dQ bt p.Uj),(LI s.Ul),(qy s),(.own 8)])
abbrev uW:D:=(.fn (.func 85) [] [(.ptr 10 0 0 0)])
abbrev NC (p:Pr) (s:Ps):D:=(.agg [(dS p.name),(dS p.clock),(dL 13 bO aI p.Ul),(dL 27 b8 ay p.Uk),(dL 9 dU bC p.I),(dL 16 dQ bt p.Uj),(LI s.Ul),(qy s),(.own 8)])
abbrev F8 (p:Pr) (s:Ps):List (Nat×D):=[(127,uW),(126,(NC p s)),(8,(.ptr 2 0 0 0)),(9,(.ptr 10 0 0 0)),(10,uW),(11,(.ptr 21 0 0 0))]
abbrev yI (p:Pr):aC:=(.var 76 [(dS p.name),(dS p.clock),(dL 13 bO aI p.Ul),(dL 27 b8 ay p.Uk),(dL 9 dU bC p.I),(dL 16 dQ bt p.Uj)])
abbrev yJ:aC:=(.var 135 [(dB false),.nils,.nils,.nils,.nils])
abbrev yK (s:Ps):aC:=(.var 69 [(LI s.Ul),(qy s)])
set_option maxRecDepth 100000
abbrev D0 (p:Pr) (s:Ps) (data:List Int) (e:Ex):Ct:=⟨85,[(.agg [(i6 e.op),(dS e.name),(i6 e.k.n),(dS e.k.p),(i6 e.w.n),(dS e.w.p),(dL 7 (eA 2) dE e.args)]),(.iptr [(.str p.name),(.str p.clock),(.sl 13 bO aI p.Ul),(.sl 27 b8 ay p.Uk),(.sl 9 dU bC p.I),(.sl 16 dQ bt p.Uj),(.sl 1 (ab .i64) 0 s.Ul),(.sl 1 aa [] s.Uk),(.sl 1 (ab .i64) 0 data)] 0)],false,(i6 ((be p s data e).1))⟩
theorem mC (p:Pr) (s:Ps) (data:List Int) (e:Ex) {c:Sc} {v:Int} (ho:tG c p s data) (ht:eF c e=some v) (hd:fo e≤3):CC (D0 p s data e):=by
 refine ah.vc (V:=TT 4 (CC (MF p s data 2 e)∧TT 8 (((be p s data e).1)=((be p s data e).1)∧True))) (.w 1 [(2,(MF p s data 2 e).O)]<|.e) Tryz.func85 rfl rfl rfl (by kernel_rfl) ?_
 exact tt ⟨(F7 ho 2 e _ ht hd),tt ⟨rfl,oK⟩⟩
abbrev Sv (p:Pr) (s:Ps) (hs:List Hd) (rs:List Bool):Ct:=⟨72,[(.agg [(dS p.name),(dS p.clock),(dL 13 bO aI p.Ul),(dL 27 b8 ay p.Uk),(dL 9 dU bC p.I),(dL 16 dQ bt p.Uj)]),(.agg [(LI s.Ul),(qy s)]),(dL 2 db bu hs),(LB rs)],true,(.agg [(dB ((aY p s hs rs).fires)),(LI (((aY p s hs rs).s).Ul)),(dL 1 aa [] (((aY p s hs rs).s).Uk)),(LB ((aY p s hs rs).pops)),(dL 2 db bu ((aY p s hs rs).Uj))])⟩
abbrev iC (p:Pr) (s:Ps) (hs:List Hd) (rs:List Bool):Lp (Nat×List Int×List Bool×Bool):=TG [2,3,8,9,10,11,12,13,46,47,48] 32 (fun (i:Nat) (R':List Int) (WJ:List Bool) (WT:Bool)=>⟨[(2,(dL 2 db bu hs)),(3,(LB rs)),(8,(.ptr 2 0 0 0)),(9,(.ptr 10 0 0 0)),(10,uW),(11,(.ptr 21 0 0 0)),(12,(.own 25)),(13,(.own 29)),(46,(dL 9 dU bC p.I)),(47,(i6 (p.I.length:Int))),(48,(i6 (i:Int)))],[(yI p),(yK s),yJ,.dead,.dead,.dead,.dead,.dead,(.arr 3 1 (ab .i64) 0 R'),.dead,(sT p s),.dead,.dead,.dead,.dead,.dead,.dead,.dead,.dead,.dead,.dead,(.var 135 [(dB WT),(LI s.Ul),(qy s),(LB (List.replicate p.I.length false)),(dL 2 db bu (List.replicate p.Uj.length bu))]),.dead,.dead,.dead,(.arr 4 1 ba false WJ),.dead,.dead,.dead,(.arr 167 2 db bu (List.replicate p.Uj.length bu)),.dead,.dead]⟩) (fun (i:Nat) (R':List Int) (WJ:List Bool) (WT:Bool)=>i≤p.I.length∧R'=cG (nh p s hs) (i5 p) i∧WJ=cG (nQ p s hs) (List.replicate p.I.length false) i∧WT=cU (iM p s hs) i) (fun (i:Nat) (R':List Int) (WJ:List Bool) (WT:Bool)=>p.I.length-i)
abbrev lu (p:Pr) (s:Ps) (hs:List Hd) (rs:List Bool) (R':List Int) (WJ:List Bool) (WT:Bool):Lp (Nat×List Hd×Bool):=P0 [3,8,9,10,11,12,13,88,89,90] 32 (fun (m:Nat) (put:List Hd) (WP:Bool)=>⟨[(3,(LB rs)),(8,(.ptr 2 0 0 0)),(9,(.ptr 10 0 0 0)),(10,uW),(11,(.ptr 21 0 0 0)),(12,(.own 25)),(13,(.own 29)),(88,(dL 16 dQ bt p.Uj)),(89,(i6 (p.Uj.length:Int))),(90,(i6 (m:Int)))],[(yI p),(yK s),yJ,.dead,.dead,.dead,.dead,.dead,(.arr 3 1 (ab .i64) 0 R'),.dead,(sT p s),.dead,.dead,.dead,.dead,.dead,.dead,.dead,.dead,.dead,.dead,(.var 135 [(dB WP),(LI s.Ul),(qy s),(LB (List.replicate p.I.length false)),(dL 2 db bu (List.replicate p.Uj.length bu))]),.dead,.dead,.dead,(.arr 4 1 ba false WJ),.dead,.dead,.dead,(.arr 167 2 db bu put),.dead,.dead]⟩) (fun (m:Nat) (put:List Hd) (WP:Bool)=>m≤p.Uj.length∧put=cG (nR p s hs) (List.replicate p.Uj.length bu) m∧WP=(WT&&cU (jZ p s hs rs) m)) (fun (m:Nat) (put:List Hd) (WP:Bool)=>p.Uj.length-m)
abbrev Cm (p:Pr) (s:Ps) (R':List Int) (WJ:List Bool) (put:List Hd) (WP:Bool):List aC:=[(yI p),(yK s),yJ,.dead,.dead,.dead,.dead,.dead,(.arr 3 1 (ab .i64) 0 R'),.dead,(sT p s),.dead,.dead,.dead,.dead,.dead,.dead,.dead,.dead,.dead,.dead,(.var 135 [(dB WP),(LI s.Ul),(qy s),(LB WJ),(dL 2 db bu put)]),.dead,.dead,.dead,.dead,.dead,.dead,.dead,.dead,.dead,.dead]
abbrev Cn (p:Pr) (s:Ps):List (Nat×D):=(F8 p s)
abbrev sU (p:Pr) (s:Ps) (R':List Int) (WJ:List Bool) (put:List Hd) (WP:Bool) (WI:Array Value):Lp (Nat):=gD [1,2,4,5,14,15,16] 37 (fun (i:Nat)=>⟨[(1,uW),(2,(.ptr 33 0 0 0)),(4,(.ptr 34 0 0 0)),(5,(.ptr 35 0 0 0)),(14,(dL 13 bO aI p.Ul)),(15,(i6 (p.Ul.length:Int))),(16,(i6 (i:Int)))],[(yI p),(yK s),yJ,.dead,.dead,.dead,.dead,.dead,(.arr 3 1 (ab .i64) 0 R'),.dead,(sT p s),.dead,.dead,.dead,.dead,.dead,.dead,.dead,.dead,.dead,.dead,(.var 135 [(dB WP),(LI s.Ul),(qy s),(LB WJ),(dL 2 db bu put)]),.dead,.dead,.dead,.dead,.dead,.dead,.dead,.dead,.dead,.dead,(.frame WI (F8 p s)),(sT p s),(.var 69 [.nils,.nils]),(.var 69 [(.own 36),.nils]),(.arr 3 1 (ab .i64) 0 (tab (fun z=>(be p s R' (p.Ul.getD z aI).next).1) i))]⟩) (fun (i:Nat)=>i≤p.Ul.length) (fun (i:Nat)=>p.Ul.length-i)
abbrev ow (p:Pr) (s:Ps) (i:Nat) (R':List Int) (WJ:List Bool) (put:List Hd) (WP:Bool) (WI:Array Value):Lp (Nat):=gD [1,2,4,5,32,33,34] 38 (fun (j:Nat)=>⟨[(1,uW),(2,(.ptr 33 0 0 0)),(4,(.ptr 34 0 0 0)),(5,(.ptr 35 0 0 0)),(32,(dL 27 b8 ay p.Uk)),(33,(i6 (p.Uk.length:Int))),(34,(i6 (j:Int)))],[(yI p),(yK s),yJ,.dead,.dead,.dead,.dead,.dead,(.arr 3 1 (ab .i64) 0 R'),.dead,(sT p s),.dead,.dead,.dead,.dead,.dead,.dead,.dead,.dead,.dead,.dead,(.var 135 [(dB WP),(LI s.Ul),(qy s),(LB WJ),(dL 2 db bu put)]),.dead,.dead,.dead,.dead,.dead,.dead,.dead,.dead,.dead,.dead,(.frame WI (F8 p s)),(sT p s),(.var 69 [.nils,.nils]),(.var 69 [(.own 36),(.own 37)]),(.arr 3 1 (ab .i64) 0 (tab (fun z=>(be p s R' (p.Ul.getD z aI).next).1) i)),(.arr 67 1 aa [] (tab (qR p s R') j))]⟩) (fun (j:Nat)=>j≤p.Uk.length) (fun (j:Nat)=>p.Uk.length-j)
abbrev sV (p:Pr) (s:Ps) (i:Nat) (R':List Int) (WJ:List Bool) (put:List Hd) (WP:Bool) (WI:Array Value) (j:Nat):Lp (Nat×List Int):=nN [1,2,4,5,8,9,10,32,33,34,43,44] 40 (fun (k:Nat) (wd:List Int)=>⟨[(1,uW),(2,(.ptr 33 0 0 0)),(4,(.ptr 34 0 0 0)),(5,(.ptr 35 0 0 0)),(8,(i6 (j:Int))),(9,(.ptr 38 0 0 0)),(10,(.own 39)),(32,(dL 27 b8 ay p.Uk)),(33,(i6 (p.Uk.length:Int))),(34,(i6 (j:Int))),(43,(i6 ((p.Uk.getD j ay).Um))),(44,(i6 (k:Int)))],[(yI p),(yK s),yJ,.dead,.dead,.dead,.dead,.dead,(.arr 3 1 (ab .i64) 0 R'),.dead,(sT p s),.dead,.dead,.dead,.dead,.dead,.dead,.dead,.dead,.dead,.dead,(.var 135 [(dB WP),(LI s.Ul),(qy s),(LB WJ),(dL 2 db bu put)]),.dead,.dead,.dead,.dead,.dead,.dead,.dead,.dead,.dead,.dead,(.frame WI (F8 p s)),(sT p s),(.var 69 [.nils,.nils]),(.var 69 [(.own 36),(.own 37)]),(.arr 3 1 (ab .i64) 0 (tab (fun z=>(be p s R' (p.Ul.getD z aI).next).1) i)),(.arr 67 1 aa [] (tab (qR p s R') j)),(.var 64 [(dS ((p.Uk.getD j ay).name)),(i6 ((p.Uk.getD j ay).w)),(i6 ((p.Uk.getD j ay).Um)),(i6 (((p.Uk.getD j ay).enable).op)),(dS (((p.Uk.getD j ay).enable).name)),(i6 ((((p.Uk.getD j ay).enable).k).n)),(dS ((((p.Uk.getD j ay).enable).k).p)),(i6 ((((p.Uk.getD j ay).enable).w).n)),(dS ((((p.Uk.getD j ay).enable).w).p)),(dL 7 (eA 2) dE (((p.Uk.getD j ay).enable).args)),(i6 (((p.Uk.getD j ay).addr).op)),(dS (((p.Uk.getD j ay).addr).name)),(i6 ((((p.Uk.getD j ay).addr).k).n)),(dS ((((p.Uk.getD j ay).addr).k).p)),(i6 ((((p.Uk.getD j ay).addr).w).n)),(dS ((((p.Uk.getD j ay).addr).w).p)),(dL 7 (eA 2) dE (((p.Uk.getD j ay).addr).args)),(i6 (((p.Uk.getD j ay).data).op)),(dS (((p.Uk.getD j ay).data).name)),(i6 ((((p.Uk.getD j ay).data).k).n)),(dS ((((p.Uk.getD j ay).data).k).p)),(i6 ((((p.Uk.getD j ay).data).w).n)),(dS ((((p.Uk.getD j ay).data).w).p)),(dL 7 (eA 2) dE (((p.Uk.getD j ay).data).args)),(i6 (((p.Uk.getD j ay).Un).kind)),(dS (((p.Uk.getD j ay).Un).src)),(i6 (((p.Uk.getD j ay).Un).n))]),(.arr 3 1 (ab .i64) 0 wd)]⟩) (fun (k:Nat) (wd:List Int)=>(k:Int)≤(p.Uk.getD j ay).Um∧wd=cG (fun z=>(s.Uk.getD j []).getD z 0) (List.replicate (p.Uk.getD j ay).Um.toNat (0:Int)) k∧(wd.length:Int)=(p.Uk.getD j ay).Um) (fun (k:Nat) (wd:List Int)=>(p.Uk.getD j ay).Um.toNat-k)
theorem Kv (p:Pr) (s:Ps) (hs:List Hd) (rs:List Bool) (hp:gm p) (YD:ni p s) (hh:BG p hs) (hrs:rs.length=p.Uj.length):CC (Sv p s hs rs):=by
 have ht1:=hp.tl
 have ht2:=hp.pl
 have ht3:=hp.rl
 have ht4:=hp.ml
 have ht5:=YD.ml
 have ht6:=YD.rl
 have hhl:=hh.l
 refine ah.vc (V:=TT 8 ((((0:Int)≤(p.I.length:Int)∧(p.I.length:Int)≤(p.I.length:Int)∧(p.I.length:Int)≤137438953472)∧(i5 p).length=p.I.length∧∀x∈(i5 p),dt [(i6 0)] ((ab .i64) x))∧TT 9 ((((0:Int)≤(p.I.length:Int)∧(p.I.length:Int)≤(p.I.length:Int)∧(p.I.length:Int)≤137438953472)∧(List.replicate p.I.length false).length=p.I.length∧∀x∈(List.replicate p.I.length false),dt [(dB false)] (ba x))∧TT 3 ((((0:Int)≤(p.Uj.length:Int)∧(p.Uj.length:Int)≤(p.Uj.length:Int)∧(p.Uj.length:Int)≤137438953472)∧(List.replicate p.Uj.length bu).length=p.Uj.length∧∀x∈(List.replicate p.Uj.length bu),dt [(dB false),(i6 0)] (db x))∧TT 6 ((((0:Int)≤(p.I.length:Int)∧(p.I.length:Int)≤(p.I.length:Int)∧(p.I.length:Int)≤137438953472)∧(List.replicate p.I.length false).length=p.I.length∧∀x∈(List.replicate p.I.length false),dt [(dB false)] (ba x))∧TT 3 ((((0:Int)≤(p.Uj.length:Int)∧(p.Uj.length:Int)≤(p.Uj.length:Int)∧(p.Uj.length:Int)≤137438953472)∧(List.replicate p.Uj.length bu).length=p.Uj.length∧∀x∈(List.replicate p.Uj.length bu),dt [(dB false),(i6 0)] (db x))∧TT 7 (GO (iC p s hs rs) (0,i5 p,List.replicate p.I.length false,true) (∀i R' WJ WT,(iC p s hs rs).inv (i,R',WJ,WT)→TT 1 (CD ((i:Int)<(p.I.length:Int)) (TT 1 (IX (i:Int) p.I.length∧TT 7 (CK (D0 p s R' ((p.I.getD i bC).when))∧TT 1 (CN (((be p s R' ((p.I.getD i bC).when)).1)=1) (W6 ((i+1:Nat):Int)∧TT 1 (AG (iC p s hs rs) (i,R',WJ,WT) (i+1,R',WJ,WT))) (TT 2 (IX (i:Int) WJ.length∧(i<WJ.length∧(WJ.map ba).set i ((ba (WJ.getD i false)).take 0++[(.bool true)]++(ba (WJ.getD i false)).drop (0+1))=(WJ.set i true).map ba)∧TT 2 (IX (i:Int) hs.length∧TT 2 (CB ((hs.getD i bu).has) (TT 5 (IX (i:Int) hs.length∧TT 2 (IX (i:Int) R'.length∧(i<R'.length∧(R'.map (ab .i64)).set i (((ab .i64) (R'.getD i 0)).take 0++[(.int .i64 ((hs.getD i bu).v))]++((ab .i64) (R'.getD i 0)).drop (0+1))=(R'.set i ((hs.getD i bu).v)).map (ab .i64))∧CS (WT=true) (TT 2 ((True∧WT=true)∧TT 2 (IX (i:Int) hs.length∧TT 5 (W6 ((i+1:Nat):Int)∧TT 1 (AG (iC p s hs rs) (i,R',WJ,WT) (i+1,R'.set i ((hs.getD i bu).v),WJ.set i true,(hs.getD i bu).has)))))) (TT 2 ((True∧WT=false)∧TT 8 (W6 ((i+1:Nat):Int)∧TT 1 (AG (iC p s hs rs) (i,R',WJ,WT) (i+1,R'.set i ((hs.getD i bu).v),WJ.set i true,false)))))))) (CS (WT=true) (TT 2 ((True∧WT=true)∧TT 2 (IX (i:Int) hs.length∧TT 5 (W6 ((i+1:Nat):Int)∧TT 1 (AG (iC p s hs rs) (i,R',WJ,WT) (i+1,R',WJ.set i true,(hs.getD i bu).has)))))) (TT 2 ((True∧WT=false)∧TT 8 (W6 ((i+1:Nat):Int)∧TT 1 (AG (iC p s hs rs) (i,R',WJ,WT) (i+1,R',WJ.set i true,false)))))))))))))) (TT 5 (GO (lu p s hs rs R' WJ WT) (0,List.replicate p.Uj.length bu,WT) (∀m put WP,(lu p s hs rs R' WJ WT).inv (m,put,WP)→TT 1 (CD ((m:Int)<(p.Uj.length:Int)) (TT 1 (IX (m:Int) p.Uj.length∧TT 7 (CK (D0 p s R' ((p.Uj.getD m bt).when))∧TT 1 (CN (((be p s R' ((p.Uj.getD m bt).when)).1)=1) (W6 ((m+1:Nat):Int)∧TT 1 (AG (lu p s hs rs R' WJ WT) (m,put,WP) (m+1,put,WP))) (TT 5 (CK (D0 p s R' ((p.Uj.getD m bt).data))∧TT 1 (IX (m:Int) put.length∧(m<put.length∧(put.map db).set m ((db (put.getD m bu)).take 0++[(.bool true),(.int .i64 ((be p s R' ((p.Uj.getD m bt).data)).1))]++(db (put.getD m bu)).drop (0+2))=(put.set m (⟨true,(be p s R' ((p.Uj.getD m bt).data)).1⟩:Hd)).map db)∧CS (WP=true) (TT 2 ((True∧WP=true)∧TT 2 (IX (m:Int) rs.length∧TT 4 (W6 ((m+1:Nat):Int)∧TT 1 (AG (lu p s hs rs R' WJ WT) (m,put,WP) (m+1,put.set m (⟨true,(be p s R' ((p.Uj.getD m bt).data)).1⟩:Hd),(rs.getD m false))))))) (TT 2 ((True∧WP=false)∧TT 7 (W6 ((m+1:Nat):Int)∧TT 1 (AG (lu p s hs rs R' WJ WT) (m,put,WP) (m+1,put.set m (⟨true,(be p s R' ((p.Uj.getD m bt).data)).1⟩:Hd),false)))))))))))) (TT 3 (CB (!WP) (TT 3 (WP=((aY p s hs rs).fires)∧s.Ul.map (ab .i64)=(((aY p s hs rs).s).Ul).map (ab .i64)∧s.Uk.map aa=(((aY p s hs rs).s).Uk).map aa∧(List.replicate p.I.length false).map ba=((aY p s hs rs).pops).map ba∧(List.replicate p.Uj.length bu).map db=((aY p s hs rs).Uj).map db∧True)) (TT 8 (PU Tryz.prog 87 [(NC p s),uW] (Cm p s R' WJ put WP) (Cn p s) (.agg [(LI ((cy p s R').Ul)),(dL 1 aa [] ((cy p s R').Uk))])∧TT 5 (WP=((aY p s hs rs).fires)∧((cy p s R').Ul).map (ab .i64)=(((aY p s hs rs).s).Ul).map (ab .i64)∧((cy p s R').Uk).map aa=(((aY p s hs rs).s).Uk).map aa∧WJ.map ba=((aY p s hs rs).pops).map ba∧put.map db=((aY p s hs rs).Uj).map db∧True)))))))))))))))))) (.w 1 [(5,.box 3 1 (ab .i64) 0 (i5 p))]<|.w 3 [(4,.frz 4 1 ba false (List.replicate p.I.length false)),(8,.frz 167 2 db bu (List.replicate p.Uj.length bu))]<|.w 4 [(3,.box 4 1 ba false (List.replicate p.I.length false)),(7,.box 167 2 db bu (List.replicate p.Uj.length bu))]<|.l (iC p s hs rs) (0,i5 p,List.replicate p.I.length false,true) (fun ⟨i,R',WJ,WT⟩=>.b 49 (.q 8 [2,3,8,9,10,11,12,13,14,15,46,47,48] 33<|.w 8 [(3,(D0 p s R' ((p.I.getD i bC).when)).O')]<|.b 57 (.w 13 [(0,.val (i6 ((i+1:Nat):Int)))]<|.e) (.w 9 [(3,.box 4 1 ba false (WJ.set i true))]<|.b 65 (.w 11 [(9,.box 3 1 (ab .i64) 0 (R'.set i ((hs.getD i bu).v)))]<|.s 12 (WT=true) (.w 12 [(2,.val (dB true))]<|.w 13 [(0,.val (i6 ((i+1:Nat):Int)))]<|.e) (.w 12 [(2,.val (dB false))]<|.w 13 [(0,.val (i6 ((i+1:Nat):Int)))]<|.e)) (.s 12 (WT=true) (.w 12 [(2,.val (dB true))]<|.w 13 [(0,.val (i6 ((i+1:Nat):Int)))]<|.e) (.w 12 [(2,.val (dB false))]<|.w 13 [(0,.val (i6 ((i+1:Nat):Int)))]<|.e)))) (.l (lu p s hs rs R' WJ WT) (0,List.replicate p.Uj.length bu,WT) (fun ⟨m,put,WP⟩=>.b 91 (.q 17 [3,8,9,10,11,12,13,16,17,88,89,90] 33<|.w 17 [(3,(D0 p s R' ((p.Uj.getD m bt).when)).O')]<|.b 99 (.w 20 [(0,.val (i6 ((m+1:Nat):Int)))]<|.e) (.q 18 [3,8,9,10,11,12,13,16,17,88,89,90] 33<|.w 18 [(5,(D0 p s R' ((p.Uj.getD m bt).data)).O'),(8,.box 167 2 db bu (put.set m (⟨true,(be p s R' ((p.Uj.getD m bt).data)).1⟩:Hd)))]<|.s 19 (WP=true) (.w 19 [(2,.val (dB true))]<|.w 20 [(0,.val (i6 ((m+1:Nat):Int)))]<|.e) (.w 19 [(2,.val (dB false))]<|.w 20 [(0,.val (i6 ((m+1:Nat):Int)))]<|.e))) (.b 120 (.e) (.f 23 25<|.f 23 29<|.q 24 [8,9,10,11] 32<|.w 24 [(2,.inls (.agg [(LI ((cy p s R').Ul)),(dL 1 aa [] ((cy p s R').Uk))]))]<|.e)))))) Tryz.func72 rfl rfl rfl (by kernel_rfl) ?_
 refine tt ⟨⟨by omega,e9,fun x hx=>by rw[UN hx];exact⟨rfl,oK⟩⟩,tt ⟨⟨by omega,Us,fun x hx=>by rw[UN hx];exact⟨rfl,oK⟩⟩,tt ⟨⟨by omega,Us,fun x hx=>by rw[UN hx];exact⟨rfl,rfl,oK⟩⟩,tt ⟨⟨by omega,Us,fun x hx=>by rw[UN hx];exact⟨rfl,oK⟩⟩,tt ⟨⟨by omega,Us,fun x hx=>by rw[UN hx];exact⟨rfl,rfl,oK⟩⟩,tt ⟨rfl,⟨by omega,rfl,rfl,rfl⟩,?_⟩⟩⟩⟩⟩⟩
 intro i R' WJ WT F'
 obtain⟨hi,Yl,Xe,Xh⟩:=F'
 have hda:BF p R':=by rw[Yl];exact Og hp hh hi
 have ho:=iu hp YD hda
 have hdl:R'.length=p.I.length:=hda.l
 have Yg:WJ.length=p.I.length:=by rw[Xe,ci (by rw[Us];exact hi),Us]
 refine tt (cd (fun hc49=>?_) (fun hc49=>?_))
 · refine tt ⟨ix,?_⟩
   have hwh:=vA hp (show i<p.I.length by omega)
   refine tt ⟨⟨du _ rfl,(mC p s R' ((p.I.getD i bC).when) ho hwh.1 hwh.2)⟩,tt (cn (fun XB=>?_) (fun XB=>?_))⟩
   · refine⟨w6,tt ⟨(i+1,R',WJ,WT),rfl,(?_:(i+1)≤p.I.length∧R'=cG (nh p s hs) (i5 p) (i+1)∧WJ=cG (nQ p s hs) (List.replicate p.I.length false) (i+1)∧WT=cU (iM p s hs) (i+1)),(?_:p.I.length-(i+1)<p.I.length-i)⟩⟩
     · obtain⟨k1,k2,k3⟩:=LU (hs:=hs) hp (show i<p.I.length by omega) XB
       exact⟨by omega,by rw[Yl];exact cI (by rw[e9];omega) (by rw[k2,wI]),by rw[Xe];exact cI (d:=false) (by rw[Us];omega) (by rw[k1,cK]),n9 Xh _ (by rw[k3,Wo])⟩
     · omega
   · refine tt ⟨ix,⟨⟨om,by simp only[US];rfl⟩,tt ⟨ix,tt ⟨fun XU=>?_,fun XU=>?_⟩⟩⟩⟩
     · refine tt ⟨ix,tt ⟨ix,⟨⟨om,by simp only[US];rfl⟩,⟨fun N'=>?_,fun N'=>?_⟩⟩⟩⟩
       · refine tt ⟨(bT N'),tt ⟨ix,tt ⟨w6,tt ⟨(i+1,R'.set i ((hs.getD i bu).v),WJ.set i true,(hs.getD i bu).has),rfl,(?_:(i+1)≤p.I.length∧(R'.set i ((hs.getD i bu).v))=cG (nh p s hs) (i5 p) (i+1)∧(WJ.set i true)=cG (nQ p s hs) (List.replicate p.I.length false) (i+1)∧((hs.getD i bu).has)=cU (iM p s hs) (i+1)),(?_:p.I.length-(i+1)<p.I.length-i)⟩⟩⟩⟩
         · obtain⟨k1,k2,k3⟩:=sq (hs:=hs) hp (show i<p.I.length by omega) (by simpa using XB)
           exact⟨by omega,by rw[Yl];exact bn (by rw[e9];omega) (by rw[k2,Uw XU]),by rw[Xe];exact bn (by rw[Us];omega) k1,n9 Xh _ (by rw[k3];first | done | (clear Xh;cases WT<;>simp_all))⟩
         · omega
       · refine tt ⟨(bF N'),tt ⟨w6,tt ⟨(i+1,R'.set i ((hs.getD i bu).v),WJ.set i true,false),rfl,(?_:(i+1)≤p.I.length∧(R'.set i ((hs.getD i bu).v))=cG (nh p s hs) (i5 p) (i+1)∧(WJ.set i true)=cG (nQ p s hs) (List.replicate p.I.length false) (i+1)∧false=cU (iM p s hs) (i+1)),(?_:p.I.length-(i+1)<p.I.length-i)⟩⟩⟩
         · obtain⟨k1,k2,k3⟩:=sq (hs:=hs) hp (show i<p.I.length by omega) (by simpa using XB)
           exact⟨by omega,by rw[Yl];exact bn (by rw[e9];omega) (by rw[k2,Uw XU]),by rw[Xe];exact bn (by rw[Us];omega) k1,n9 Xh _ (by rw[k3];first | done | (clear Xh;cases WT<;>simp_all))⟩
         · omega
     · refine⟨fun WN=>?_,fun WN=>?_⟩
       · refine tt ⟨(bT WN),tt ⟨ix,tt ⟨w6,tt ⟨(i+1,R',WJ.set i true,(hs.getD i bu).has),rfl,(?_:(i+1)≤p.I.length∧R'=cG (nh p s hs) (i5 p) (i+1)∧(WJ.set i true)=cG (nQ p s hs) (List.replicate p.I.length false) (i+1)∧((hs.getD i bu).has)=cU (iM p s hs) (i+1)),(?_:p.I.length-(i+1)<p.I.length-i)⟩⟩⟩⟩
         · obtain⟨k1,k2,k3⟩:=sq (hs:=hs) hp (show i<p.I.length by omega) (by simpa using XB)
           exact⟨by omega,by rw[Yl];exact cI (by rw[e9];omega) (by rw[k2,Ur (by rw[XU];simp),wI]),by rw[Xe];exact bn (by rw[Us];omega) k1,n9 Xh _ (by rw[k3];first | done | (clear Xh;cases WT<;>simp_all))⟩
         · omega
       · refine tt ⟨(bF WN),tt ⟨w6,tt ⟨(i+1,R',WJ.set i true,false),rfl,(?_:(i+1)≤p.I.length∧R'=cG (nh p s hs) (i5 p) (i+1)∧(WJ.set i true)=cG (nQ p s hs) (List.replicate p.I.length false) (i+1)∧false=cU (iM p s hs) (i+1)),(?_:p.I.length-(i+1)<p.I.length-i)⟩⟩⟩
         · obtain⟨k1,k2,k3⟩:=sq (hs:=hs) hp (show i<p.I.length by omega) (by simpa using XB)
           exact⟨by omega,by rw[Yl];exact cI (by rw[e9];omega) (by rw[k2,Ur (by rw[XU];simp),wI]),by rw[Xe];exact bn (by rw[Us];omega) k1,n9 Xh _ (by rw[k3];first | done | (clear Xh;cases WT<;>simp_all))⟩
         · omega
 · have W8:i=p.I.length:=by omega
   have hcu:R'=b5 p s hs:=by rw[Yl,W8];exact bN (by rw[e9];exact Ut _)
   refine tt ⟨rfl,⟨by omega,rfl,by simp[cU]⟩,?_⟩
   intro m put WP F'
   obtain⟨hm,Xw,XW⟩:=F'
   have Zh:put.length=p.Uj.length:=by rw[Xw,ci (by rw[Us];exact hm),Us]
   refine tt (cd (fun hc91=>?_) (fun hc91=>?_))
   · refine tt ⟨ix,?_⟩
     have ZV:=hp.pw m (by omega)
     refine tt ⟨⟨du _ rfl,(mC p s R' ((p.Uj.getD m bt).when) ho ZV.2.1.1 ZV.2.1.2)⟩,tt (cn (fun ZX=>?_) (fun ZX=>?_))⟩
     · refine⟨w6,tt ⟨(m+1,put,WP),rfl,(?_:(m+1)≤p.Uj.length∧put=cG (nR p s hs) (List.replicate p.Uj.length bu) (m+1)∧WP=(WT&&cU (jZ p s hs rs) (m+1))),(?_:p.Uj.length-(m+1)<p.Uj.length-m)⟩⟩
       · rw[hcu]at ZX
         obtain⟨k1,k2⟩:=Oh (rs:=rs) ZX
         exact⟨by omega,by rw[Xw];exact cI (d:=bu) (by rw[Us];omega) (by rw[k1,cK]),tQ XW _ (by rw[k2,Wo])⟩
       · omega
     · refine tt ⟨⟨du _ rfl,(mC p s R' ((p.Uj.getD m bt).data) ho ZV.2.2.1 ZV.2.2.2)⟩,tt ⟨ix,⟨⟨om,by simp only[US];rfl⟩,⟨fun XH=>?_,fun XH=>?_⟩⟩⟩⟩
       · refine tt ⟨(bT XH),tt ⟨ix,tt ⟨w6,tt ⟨(m+1,put.set m (⟨true,(be p s R' ((p.Uj.getD m bt).data)).1⟩:Hd),(rs.getD m false)),rfl,(?_:(m+1)≤p.Uj.length∧(put.set m (⟨true,(be p s R' ((p.Uj.getD m bt).data)).1⟩:Hd))=cG (nR p s hs) (List.replicate p.Uj.length bu) (m+1)∧(rs.getD m false)=(WT&&cU (jZ p s hs rs) (m+1))),(?_:p.Uj.length-(m+1)<p.Uj.length-m)⟩⟩⟩⟩
         · rw[hcu]at ZX
           obtain⟨k1,k2⟩:=Fv (rs:=rs) (by simpa using ZX)
           exact⟨by omega,by rw[Xw];exact bn (by rw[Us];omega) (by rw[k1,hcu]),tQ XW _ (by rw[k2];first | done | (clear XW Xh;cases WP<;>simp_all))⟩
         · omega
       · refine tt ⟨(bF XH),tt ⟨w6,tt ⟨(m+1,put.set m (⟨true,(be p s R' ((p.Uj.getD m bt).data)).1⟩:Hd),false),rfl,(?_:(m+1)≤p.Uj.length∧(put.set m (⟨true,(be p s R' ((p.Uj.getD m bt).data)).1⟩:Hd))=cG (nR p s hs) (List.replicate p.Uj.length bu) (m+1)∧false=(WT&&cU (jZ p s hs rs) (m+1))),(?_:p.Uj.length-(m+1)<p.Uj.length-m)⟩⟩⟩
         · rw[hcu]at ZX
           obtain⟨k1,k2⟩:=Fv (rs:=rs) (by simpa using ZX)
           exact⟨by omega,by rw[Xw];exact bn (by rw[Us];omega) (by rw[k1,hcu]),tQ XW _ (by rw[k2];first | done | (clear XW Xh;cases WP<;>simp_all))⟩
         · omega
   · have X8:m=p.Uj.length:=by omega
     refine tt ⟨fun Ye=>?_,fun Ye=>?_⟩
     · refine tt ⟨?_,(congrArg _ (?_:s.Ul=(((aY p s hs rs).s).Ul))),(congrArg _ (?_:s.Uk=(((aY p s hs rs).s).Uk))),(congrArg _ (?_:(List.replicate p.I.length false)=((aY p s hs rs).pops))),(congrArg _ (?_:(List.replicate p.Uj.length bu)=((aY p s hs rs).Uj))),oK⟩
       all_goals
         rw[Fw (by rw[o7 (rs:=rs) (a:=WT) (b:=WP) (by rw[Xh,W8]) (by rw[XW,X8])];simpa using Ye)]
         first | done | rfl | simpa using Ye
     · refine tt ⟨?_,?_⟩
       · intro WI
         refine j8.vc (V:=TT 8 (GO (sU p s R' WJ put WP WI) 0 (∀i,(sU p s R' WJ put WP WI).inv i→TT 1 (CD ((i:Int)<(p.Ul.length:Int)) (IX (i:Int) p.Ul.length∧TT 8 (CK (D0 p s R' ((p.Ul.getD i aI).next))∧am [[(i6 ((be p s R' ((p.Ul.getD i aI).next)).1))]] ([(be p s R' ((p.Ul.getD i aI).next)).1].map (ab .i64))∧((tab (fun z=>(be p s R' (p.Ul.getD z aI).next).1) i).length+([(be p s R' ((p.Ul.getD i aI).next)).1].map (ab .i64)).length≤137438953472∧(tab (fun z=>(be p s R' (p.Ul.getD z aI).next).1) i).map (ab .i64)++[(be p s R' ((p.Ul.getD i aI).next)).1].map (ab .i64)=(tab (fun z=>(be p s R' (p.Ul.getD z aI).next).1) (i+1)).map (ab .i64))∧TT 2 (W6 ((i+1:Nat):Int)∧TT 1 (AG (sU p s R' WJ put WP WI) i (i+1))))) (TT 5 (GO (ow p s i R' WJ put WP WI) 0 (∀j,(ow p s i R' WJ put WP WI).inv j→TT 1 (CD ((j:Int)<(p.Uk.length:Int)) (TT 1 (IX (j:Int) p.Uk.length∧TT 6 ((((0:Int)≤(p.Uk.getD j ay).Um∧(p.Uk.getD j ay).Um≤(p.Uk.getD j ay).Um∧(p.Uk.getD j ay).Um≤137438953472)∧(List.replicate (p.Uk.getD j ay).Um.toNat (0:Int)).length=((p.Uk.getD j ay).Um).toNat∧∀x∈(List.replicate (p.Uk.getD j ay).Um.toNat (0:Int)),dt [(i6 0)] ((ab .i64) x))∧TT 4 (GO (sV p s i R' WJ put WP WI j) (0,List.replicate (p.Uk.getD j ay).Um.toNat (0:Int)) (∀k wd,(sV p s i R' WJ put WP WI j).inv (k,wd)→TT 1 (CD ((k:Int)<((p.Uk.getD j ay).Um)) (TT 8 (IX (j:Int) s.Uk.length∧TT 2 (IX (k:Int) ((s.Uk.getD j []).length)∧TT 1 (IX (k:Int) wd.length∧(k<wd.length∧(wd.map (ab .i64)).set k (((ab .i64) (wd.getD k 0)).take 0++[(.int .i64 ((s.Uk.getD j []).getD k 0))]++((ab .i64) (wd.getD k 0)).drop (0+1))=(wd.set k ((s.Uk.getD j []).getD k 0)).map (ab .i64))∧W6 ((k+1:Nat):Int)∧TT 1 (AG (sV p s i R' WJ put WP WI j) (k,wd) (k+1,wd.set k ((s.Uk.getD j []).getD k 0))))))) (TT 3 (CK (D0 p s R' ((p.Uk.getD j ay).enable))∧TT 1 (CD (((be p s R' ((p.Uk.getD j ay).enable)).1)=1) (TT 4 (CK (D0 p s R' ((p.Uk.getD j ay).addr))∧TT 2 (((p.Uk.getD j ay).Um)≠0∧TT 3 (CK (D0 p s R' ((p.Uk.getD j ay).data))∧IX (Int.tmod ((be p s R' ((p.Uk.getD j ay).addr)).1) ((p.Uk.getD j ay).Um)) wd.length∧((Int.tmod ((be p s R' ((p.Uk.getD j ay).addr)).1) ((p.Uk.getD j ay).Um)).toNat<wd.length∧(wd.map (ab .i64)).set ((Int.tmod ((be p s R' ((p.Uk.getD j ay).addr)).1) ((p.Uk.getD j ay).Um)).toNat) (((ab .i64) (wd.getD ((Int.tmod ((be p s R' ((p.Uk.getD j ay).addr)).1) ((p.Uk.getD j ay).Um)).toNat) 0)).take 0++[(.int .i64 ((be p s R' ((p.Uk.getD j ay).data)).1))]++((ab .i64) (wd.getD ((Int.tmod ((be p s R' ((p.Uk.getD j ay).addr)).1) ((p.Uk.getD j ay).Um)).toNat) 0)).drop (0+1))=(wd.set ((Int.tmod ((be p s R' ((p.Uk.getD j ay).addr)).1) ((p.Uk.getD j ay).Um)).toNat) ((be p s R' ((p.Uk.getD j ay).data)).1)).map (ab .i64))∧TT 3 (am [[(LI (wd.set ((Int.tmod ((be p s R' ((p.Uk.getD j ay).addr)).1) ((p.Uk.getD j ay).Um)).toNat) ((be p s R' ((p.Uk.getD j ay).data)).1)))]] ([wd.set ((Int.tmod ((be p s R' ((p.Uk.getD j ay).addr)).1) ((p.Uk.getD j ay).Um)).toNat) ((be p s R' ((p.Uk.getD j ay).data)).1)].map aa)∧((tab (qR p s R') j).length+([wd.set ((Int.tmod ((be p s R' ((p.Uk.getD j ay).addr)).1) ((p.Uk.getD j ay).Um)).toNat) ((be p s R' ((p.Uk.getD j ay).data)).1)].map aa).length≤137438953472∧(tab (qR p s R') j).map aa++[wd.set ((Int.tmod ((be p s R' ((p.Uk.getD j ay).addr)).1) ((p.Uk.getD j ay).Um)).toNat) ((be p s R' ((p.Uk.getD j ay).data)).1)].map aa=(tab (qR p s R') (j+1)).map aa)∧TT 2 (W6 ((j+1:Nat):Int)∧TT 1 (AG (ow p s i R' WJ put WP WI) j (j+1)))))))) (TT 3 (am [[(LI wd)]] ([wd].map aa)∧((tab (qR p s R') j).length+([wd].map aa).length≤137438953472∧(tab (qR p s R') j).map aa++[wd].map aa=(tab (qR p s R') (j+1)).map aa)∧TT 2 (W6 ((j+1:Nat):Int)∧TT 1 (AG (ow p s i R' WJ put WP WI) j (j+1)))))))))))))) (TT 3 ((((tab (fun z=>(be p s R' (p.Ul.getD z aI).next).1) i).map (ab .i64)=((cy p s R').Ul).map (ab .i64)∧(tab (qR p s R') j).map aa=((cy p s R').Uk).map aa∧True))∧HE ((Cm p s R' WJ put WP)++[.frame WI (Cn p s)]))))))))))) (.g 2 35 0 3 1 (ab .i64) 0<|.l (sU p s R' WJ put WP WI) 0 (fun i=>.b 17 (.w 5 [(5,(D0 p s R' ((p.Ul.getD i aI).next)).O'),(6,.box 3 1 (ab .i64) 0 [(be p s R' ((p.Ul.getD i aI).next)).1]),(7,.box 3 1 (ab .i64) 0 (tab (fun z=>(be p s R' (p.Ul.getD z aI).next).1) (i+1)))]<|.w 6 [(0,.val (i6 ((i+1:Nat):Int)))]<|.e) (.g 7 35 1 67 1 aa []<|.l (ow p s i R' WJ put WP WI) 0 (fun j=>.b 35 (.w 10 [(2,.box 3 1 (ab .i64) 0 (List.replicate (p.Uk.getD j ay).Um.toNat (0:Int)))]<|.l (sV p s i R' WJ put WP WI j) (0,List.replicate (p.Uk.getD j ay).Um.toNat (0:Int)) (fun ⟨k,wd⟩=>.b 45 (.w 14 [(12,.box 3 1 (ab .i64) 0 (wd.set k ((s.Uk.getD j []).getD k 0)))]<|.w 15 [(0,.val (i6 ((k+1:Nat):Int)))]<|.e) (.w 16 [(3,(D0 p s R' ((p.Uk.getD j ay).enable)).O')]<|.b 64 (.w 17 [(4,(D0 p s R' ((p.Uk.getD j ay).addr)).O'),(11,(D0 p s R' ((p.Uk.getD j ay).data)).O'),(13,.box 3 1 (ab .i64) 0 (wd.set ((Int.tmod ((be p s R' ((p.Uk.getD j ay).addr)).1) ((p.Uk.getD j ay).Um)).toNat) ((be p s R' ((p.Uk.getD j ay).data)).1)))]<|.f 18 39<|.w 18 [(3,.box 67 1 aa [] [wd.set ((Int.tmod ((be p s R' ((p.Uk.getD j ay).addr)).1) ((p.Uk.getD j ay).Um)).toNat) ((be p s R' ((p.Uk.getD j ay).data)).1)]),(4,.box 67 1 aa [] (tab (qR p s R') (j+1)))]<|.w 19 [(0,.val (i6 ((j+1:Nat):Int)))]<|.e) (.f 18 39<|.w 18 [(3,.box 67 1 aa [] [wd]),(4,.box 67 1 aa [] (tab (qR p s R') (j+1)))]<|.w 19 [(0,.val (i6 ((j+1:Nat):Int)))]<|.e)))) (.f 20 36<|.f 20 37<|.e))))) Tryz.func87 rfl rfl (by kernel_rfl) ?_
         refine tt ⟨rfl,(by omega),?_⟩
         intro i F'
         have hi:=F'
         refine tt (cd (fun XT=>?_) (fun XT=>?_))
         · refine⟨ix,?_⟩
           have hrn:=hp.rw i (by omega)
           refine tt ⟨⟨du _ rfl,(mC p s R' ((p.Ul.getD i aI).next) ho hrn.2.2.1 hrn.2.2.2)⟩,⟨⟨⟨rfl,oK⟩,oK⟩,⟨(o6 (f:=fun z=>(be p s R' (p.Ul.getD z aI).next).1) (by omega)),tt ⟨w6,tt ⟨(i+1),rfl,(?_:(i+1)≤p.Ul.length),(?_:p.Ul.length-(i+1)<p.Ul.length-i)⟩⟩⟩⟩⟩
           · omega
           · omega
         · refine tt ⟨rfl,(by omega),?_⟩
           intro j F'
           have hj:=F'
           refine tt (cd (fun WZ=>?_) (fun WZ=>?_))
           · have Yx:1≤(p.Uk.getD j ay).Um∧(p.Uk.getD j ay).Um≤4:=(hp.mw j (by omega)).2.1
             have hml:((s.Uk.getD j []).length:Int)=(p.Uk.getD j ay).Um:=YD.mn j (by omega)
             have X8:=(hp.mw j (by omega)).2.2.1
             have hmb:=(hp.mw j (by omega)).2.2.2
             obtain⟨va,hma⟩:=hmb.1.1
             have had:0≤Int.tmod (be p s R' (p.Uk.getD j ay).addr).1 (p.Uk.getD j ay).Um∧Int.tmod (be p s R' (p.Uk.getD j ay).addr).1 (p.Uk.getD j ay).Um<(s.Uk.getD j []).length∧(p.Uk.getD j ay).Um≠0:=FE hp YD hda (show j<p.Uk.length by omega)
             refine tt ⟨ix,tt ⟨⟨by omega,Us,fun x hx=>by rw[UN hx];exact⟨rfl,oK⟩⟩,tt ⟨rfl,⟨by omega,rfl,by rw[Us];omega⟩,?_⟩⟩⟩
             intro k wd F'
             obtain⟨hk,YR,hwl⟩:=F'
             refine tt (cd (fun hc45=>?_) (fun hc45=>?_))
             · refine tt ⟨ix,tt ⟨ix,tt ⟨ix,⟨⟨om,by simp only[US];rfl⟩,⟨w6,tt ⟨(k+1,wd.set k ((s.Uk.getD j []).getD k 0)),rfl,?_,(?_:(p.Uk.getD j ay).Um.toNat-(k+1)<(p.Uk.getD j ay).Um.toNat-k)⟩⟩⟩⟩⟩⟩
               · exact⟨by omega,by rw[YR];exact bn (by rw[Us];omega) rfl,by rw[UQ];exact hwl⟩
               · omega
             · have hcp:wd=s.Uk.getD j []:=by
                 rw[YR,show k=(List.replicate (p.Uk.getD j ay).Um.toNat (0:Int)).length by rw[Us];omega]
                 exact Jo (by rw[Us];omega)
               refine tt ⟨⟨du _ rfl,(mC p s R' ((p.Uk.getD j ay).enable) ho X8.1 X8.2)⟩,tt (cd (fun hc64=>?_) (fun hc64=>?_))⟩
               · refine tt ⟨⟨du _ rfl,(mC p s R' ((p.Uk.getD j ay).addr) ho hma hmb.1.2)⟩,tt ⟨om,tt ⟨⟨du _ rfl,(mC p s R' ((p.Uk.getD j ay).data) ho hmb.2.1 hmb.2.2)⟩,⟨ix,⟨⟨om,by simp only[US];rfl⟩,tt ⟨⟨⟨rfl,oK⟩,oK⟩,⟨(aZ (by omega) (by rw[hcp];first | exact z3 (vz hc64) | exact FD (by rw[zY hc64];simp))),tt ⟨w6,tt ⟨(j+1),rfl,(?_:(j+1)≤p.Uk.length),(?_:p.Uk.length-(j+1)<p.Uk.length-j)⟩⟩⟩⟩⟩⟩⟩⟩⟩
                 · omega
                 · omega
               · refine tt ⟨⟨⟨rfl,oK⟩,oK⟩,⟨(aZ (by omega) (by rw[hcp];first | exact z3 (vz hc64) | exact FD (by rw[zY hc64];simp))),tt ⟨w6,tt ⟨(j+1),rfl,(?_:(j+1)≤p.Uk.length),(?_:p.Uk.length-(j+1)<p.Uk.length-j)⟩⟩⟩⟩
                 · omega
                 · omega
           · refine tt ⟨⟨(congrArg _ (?_:(tab (fun z=>(be p s R' (p.Ul.getD z aI).next).1) i)=((cy p s R').Ul))),(congrArg _ (?_:(tab (qR p s R') j)=((cy p s R').Uk))),oK⟩,rfl⟩
             · rw[show i=p.Ul.length by omega];rfl
             · rw[show j=p.Uk.length by omega];rfl
       refine tt ⟨?_,(congrArg _ (?_:((cy p s R').Ul)=(((aY p s hs rs).s).Ul))),(congrArg _ (?_:((cy p s R').Uk)=(((aY p s hs rs).s).Uk))),(congrArg _ (?_:WJ=((aY p s hs rs).pops))),(congrArg _ (?_:put=((aY p s hs rs).Uj))),oK⟩
       all_goals
         rw[zZ (by rw[o7 (rs:=rs) (a:=WT) (b:=WP) (by rw[Xh,W8]) (by rw[XW,X8])];simpa using Ye)]
         first | done | (simpa using Ye) | (rw[hcu]) | (rw[Xe,W8,bN (by rw[Us];exact Ut _)]) | (rw[Xw,X8,bN (by rw[Us];exact Ut _)])
end Go.Proofs.YtnlmlkbaflmgcaaGreat
