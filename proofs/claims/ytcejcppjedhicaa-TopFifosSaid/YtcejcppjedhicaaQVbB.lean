/- Parts of a proof. -/
import Derived.Test.YtcejcppjedhicaaQVc
import Derived.Test.YtcejcppjedhicaaQBitP
import Derived.Test.YtcejcppjedhicaaProg
namespace Go.Proofs.Ytcejcppjedhicaa
open Go.RowKit
set_option linter.unusedVariables false
set_option linter.unusedSimpArgs false
structure Nm where
 n:Int
 p:ByteArray
structure Ex where
 op:Int
 name:ByteArray
 k:Nm
 w:Nm
 args:List Ex
abbrev e0:ByteArray:=ByteArray.empty
abbrev bs (l:List UInt8):ByteArray:=⟨l.toArray⟩
abbrev dN:Nm:=⟨0,e0⟩
abbrev dE:Ex:=⟨0,e0,dN,dN,[]⟩
structure Mt where
 kind:Int
 src:ByteArray
 n:Int
structure Rg where
 name:ByteArray
 w:Int
 init:Int
 next:Ex
 rule:Mt
structure Mm where
 name:ByteArray
 w:Int
 NJ:Int
 enable:Ex
 addr:Ex
 data:Ex
 rule:Mt
structure Tk where
 chan:Int
 w:Int
 when:Ex
structure Pt where
 chan:Int
 w:Int
 when:Ex
 data:Ex
structure Pr where
 name:ByteArray
 clock:ByteArray
 NI:List Rg
 NH:List Mm
 I:List Tk
 NG:List Pt
structure Ps where
 NI:List Int
 NH:List (List Int)
structure Hd where
 has:Bool
 v:Int
structure Fi where
 fires:Bool
 s:Ps
 pops:List Bool
 NG:List Hd
abbrev Lj:Mt:=⟨0,e0,0⟩
abbrev bU:Rg:=⟨e0,0,0,dE,Lj⟩
abbrev a6:Mm:=⟨e0,0,0,dE,dE,dE,Lj⟩
abbrev aD:Tk:=⟨0,0,dE⟩
abbrev an:Pt:=⟨0,0,dE,dE⟩
abbrev aa:Pr:=⟨e0,e0,[],[],[],[]⟩
abbrev cB:Ps:=⟨[],[]⟩
abbrev aj:Hd:=⟨false,0⟩
def eA:Nat→Ex→List V
 | 0,_=>[]
 | n+1,e=>[.int .i64 e.op,.str e.name,.int .i64 e.k.n,.str e.k.p,.int .i64 e.w.n,.str e.w.p,.sl 7 (eA n) dE e.args]
def af (l:List Int):List V:=[.sl 1 (ac .i64) 0 l]
def jY (r:Rg):List V:=[.str r.name,.int .i64 r.w,.int .i64 r.init,.int .i64 r.next.op,.str r.next.name,.int .i64 r.next.k.n,.str r.next.k.p,.int .i64 r.next.w.n,.str r.next.w.p,.sl 7 (eA 2) dE r.next.args,.int .i64 r.rule.kind,.str r.rule.src,.int .i64 r.rule.n]
def t7 (r:Mm):List V:=[.str r.name,.int .i64 r.w,.int .i64 r.NJ,.int .i64 r.enable.op,.str r.enable.name,.int .i64 r.enable.k.n,.str r.enable.k.p,.int .i64 r.enable.w.n,.str r.enable.w.p,.sl 7 (eA 2) dE r.enable.args,
 .int .i64 r.addr.op,.str r.addr.name,.int .i64 r.addr.k.n,.str r.addr.k.p,.int .i64 r.addr.w.n,.str r.addr.w.p,.sl 7 (eA 2) dE r.addr.args,
 .int .i64 r.data.op,.str r.data.name,.int .i64 r.data.k.n,.str r.data.k.p,.int .i64 r.data.w.n,.str r.data.w.p,.sl 7 (eA 2) dE r.data.args,.int .i64 r.rule.kind,.str r.rule.src,.int .i64 r.rule.n]
def oJ (r:Tk):List V:=[.int .i64 r.chan,.int .i64 r.w,.int .i64 r.when.op,.str r.when.name,.int .i64 r.when.k.n,.str r.when.k.p,.int .i64 r.when.w.n,.str r.when.w.p,.sl 7 (eA 2) dE r.when.args]
def nR (r:Pt):List V:=[.int .i64 r.chan,.int .i64 r.w,.int .i64 r.when.op,.str r.when.name,.int .i64 r.when.k.n,.str r.when.k.p,.int .i64 r.when.w.n,.str r.when.w.p,.sl 7 (eA 2) dE r.when.args,
 .int .i64 r.data.op,.str r.data.name,.int .i64 r.data.k.n,.str r.data.k.p,.int .i64 r.data.w.n,.str r.data.w.p,.sl 7 (eA 2) dE r.data.args]
def mB (p:Pr):List V:=[.str p.name,.str p.clock,.sl 13 jY bU p.NI,.sl 27 t7 a6 p.NH,.sl 9 oJ aD p.I,.sl 16 nR an p.NG]
def df (s:Ps):List V:=[.sl 1 (ac .i64) 0 s.NI,.sl 1 af [] s.NH]
def cv (h:Hd):List V:=[.bool h.has,.int .i64 h.v]
def Nz (f:Fi):List V:=[.bool f.fires,.sl 1 (ac .i64) 0 f.s.NI,.sl 1 af [] f.s.NH,.sl 1 ck false f.pops,.sl 2 cv aj f.NG]
def fP:Ex→Nat
 | ⟨_,_,_,_,args⟩=>depL args+1
where depL:List Ex→Nat
 | []=>0
 | a::r=>max (fP a) (depL r)
theorem iQ {x w:Int} (h0:0≤w) (h:w≤62):x≤ao w↔x<2^w.toNat:=by
 rw[dr h0 h];omega
theorem d5 {x:Int} {n:Nat} (h0:0≤x) (h:x<2^n):x.toNat<2^n:=by
 have e:((2:Int)^n)=((2^n:Nat):Int):=by simp
 rw[e]at h
 omega
theorem yV {x n:Nat} (h:x<2^n):(x:Int)<2^n:=by
 have e:((2:Int)^n)=((2^n:Nat):Int):=by simp
 rw[e]
 omega
theorem DQ {a b:Int} (h:a≤b) (h0:0≤a) (hb:b≤62):ao a≤ao b:=by
 rw[dr h0 (by omega),dr (by omega) hb]
 have:(2:Nat)^a.toNat≤2^b.toNat:=Pv (by omega) (by omega)
 have e1:((2:Int)^a.toNat)=((2^a.toNat:Nat):Int):=by simp
 have e2:((2:Int)^b.toNat)=((2^b.toNat:Nat):Int):=by simp
 rw[e1,e2]
 omega
def dk (v w:Int):Prop:=0≤v∧v≤ao w
theorem sR {x w:Int} (h0:0≤w) (h:w≤62):dk (x%2^w.toNat) w:=by
 have hp:=lx (n:=w.toNat) (by omega)
 refine⟨Pm _ (by omega),?_⟩
 rw[iQ h0 h]
 exact Pg _ (by omega)
theorem pL {x:Nat} {w:Int} (h0:0≤w) (h:w≤62) (hx:x<2^w.toNat):dk (x:Int) w:=by
 refine⟨by omega,?_⟩
 rw[iQ h0 h]
 exact yV hx
theorem AP {ws:List Int} (h:bX ws≠0):ws.getD 0 0=ws.getD 1 0∧bX ws=ws.getD 0 0:=by
 unfold bX at h ⊢
 split at h
 ·exact absurd rfl h
 ·rename_i hn
  rw[NQ hn]
  exact⟨Decidable.not_not.1 hn,rfl⟩
theorem FC {op:Int} {ws xs:List Int} {k w:Int} (h:nq op ws k w=true) (hx:xs.length=ws.length) (hin:DI ws xs=true):dk (nr op ws xs k w) (bj op ws k w):=by
 obtain⟨h1,hf,h3⟩:=qQ h
 have h3:=bf.1 h3
 have TG:1≤op∧op≤13:=by
  by_cases hr:op<1∨13<op
  ·have:bD op=-1:=by unfold bD;rw[NQ (by omega),NQ (by omega),NQ (by omega),NQ (by omega)]
   omega
  ·omega
 have f0:0<ws.length→1≤ws.getD 0 0∧ws.getD 0 0≤8:=fun h=>aE hf h
 have f1:1<ws.length→1≤ws.getD 1 0∧ws.getD 1 0≤8:=fun h=>aE hf h
 have f2:2<ws.length→1≤ws.getD 2 0∧ws.getD 2 0≤8:=fun h=>aE hf h
 have a0:0<ws.length→0≤xs.getD 0 0∧xs.getD 0 0≤ao (ws.getD 0 0):=fun h=>a8 hin (by omega)
 have a1:1<ws.length→0≤xs.getD 1 0∧xs.getD 1 0≤ao (ws.getD 1 0):=fun h=>a8 hin (by omega)
 have a2:2<ws.length→0≤xs.getD 2 0∧xs.getD 2 0≤ao (ws.getD 2 0):=fun h=>a8 hin (by omega)
 have two:∀{op:Int},bD op=2→(ws.length:Int)=bD op→bj op ws k w=bX ws→1≤bj op ws k w∧bj op ws k w≤8→ws.getD 0 0=ws.getD 1 0∧bj op ws k w=ws.getD 0 0∧(xs.getD 0 0).toNat<2^(ws.getD 0 0).toNat∧(xs.getD 1 0).toNat<2^(ws.getD 0 0).toNat∧1≤ws.getD 0 0∧ws.getD 0 0≤8:=by
  intro op hA hl hw hb
  have R8:ws.length=2:=by omega
  obtain⟨e1,e2⟩:=AP (ws:=ws) (by rw[← hw];omega)
  have b0:=f0 (by omega)
  have c0:=a0 (by omega)
  have c1:=a1 (by omega)
  refine⟨e1,by rw[hw,e2],d5 c0.1 ((iQ (by omega) (by omega)).1 c0.2),?_,b0⟩
  have:=(iQ (w:=ws.getD 1 0) (by omega) (by omega)).1 c1.2
  rw[← e1]at this
  exact d5 c1.1 this
 have Um:op=1∨op=2∨op=3∨op=4∨op=5∨op=6∨op=7∨op=8∨op=9∨op=10∨op=11∨op=12∨op=13:=by omega
 rcases Um with rfl | rfl | rfl | rfl | rfl | rfl | rfl | rfl | rfl | rfl | rfl | rfl | rfl
 ·show dk k (if aB w=false∨k<0∨ao w<k then 0 else w)
  have e:bj 1 ws k w=(if aB w=false∨k<0∨ao w<k then 0 else w):=rfl
  rw[e]at h3
  split at h3
  ·omega
  ·rename_i hn
   rw[NQ hn]
   simp only[not_or,Int.not_lt]at hn
   exact⟨hn.2.1,hn.2.2⟩
 ·have hl:(ws.length:Int)=1:=h1
  have b0:=f0 (by omega)
  have c0:=a0 (by omega)
  show dk (((xs.getD 0 0).toNat ^^^ (ao (ws.getD 0 0)).toNat:Nat):Int) (ws.getD 0 0)
  refine pL (by omega) (by omega) (Nat.xor_lt_two_pow (d5 c0.1 ((iQ (by omega) (by omega)).1 c0.2)) ?_)
  have m0:=aC (w:=ws.getD 0 0) (by omega) (by omega)
  exact d5 m0.1 ((iQ (by omega) (by omega)).1 (Int.le_refl _))
 ·obtain⟨e1,e2,e3,e4,e5,e6⟩:=two (op:=3) (by decide) h1 rfl h3
  rw[e2]
  exact pL (by omega) (by omega) (Nat.lt_of_le_of_lt Nat.and_le_left e3)
 ·obtain⟨e1,e2,e3,e4,e5,e6⟩:=two (op:=4) (by decide) h1 rfl h3
  rw[e2]
  exact pL (by omega) (by omega) (Nat.or_lt_two_pow e3 e4)
 ·obtain⟨e1,e2,e3,e4,e5,e6⟩:=two (op:=5) (by decide) h1 rfl h3
  rw[e2]
  exact pL (by omega) (by omega) (Nat.xor_lt_two_pow e3 e4)
 ·obtain⟨e1,e2,e3,e4,e5,e6⟩:=two (op:=6) (by decide) h1 rfl h3
  rw[e2]
  exact sR (by omega) (by omega)
 ·obtain⟨e1,e2,e3,e4,e5,e6⟩:=two (op:=7) (by decide) h1 rfl h3
  rw[e2]
  exact sR (by omega) (by omega)
 ·have e:bj 8 ws k w=min (bX ws) 1:=rfl
  rw[e]at h3 ⊢
  have e1:min (bX ws) 1=1:=by omega
  rw[e1]
  show dk (if xs.getD 0 0=xs.getD 1 0 then 1 else 0) 1
  split<;>exact⟨by decide,by decide⟩
 ·have e:bj 9 ws k w=min (bX ws) 1:=rfl
  rw[e]at h3 ⊢
  have e1:min (bX ws) 1=1:=by omega
  rw[e1]
  show dk (if xs.getD 0 0<xs.getD 1 0 then 1 else 0) 1
  split<;>exact⟨by decide,by decide⟩
 ·have hl:(ws.length:Int)=3:=h1
  have hm1:=Cl h
  have c0:=a0 (by omega)
  rw[hm1]at c0
  have c0':xs.getD 0 0≤1:=c0.2
  have c1:=a1 (by omega)
  have c2:=a2 (by omega)
  have e:bj 10 ws k w=(if ws.getD 0 0≠1∨ws.getD 1 0≠ws.getD 2 0 then 0 else ws.getD 1 0):=rfl
  rw[e]at h3 ⊢
  split at h3
  ·omega
  ·rename_i hn
   rw[NQ hn]
   have hs:ws.getD 1 0=ws.getD 2 0:=OX fun hh=>hn (.inr hh)
   show dk (xs.getD (2-xs.getD 0 0).toNat 0) (ws.getD 1 0)
   have hc:xs.getD 0 0=0∨xs.getD 0 0=1:=by omega
   rcases hc with hc | hc
   ·rw[hc,hs];exact c2
   ·rw[hc];exact c1
 ·have hl:(ws.length:Int)=2:=h1
  have b0:=f0 (by omega)
  have b1:=f1 (by omega)
  have c0:=a0 (by omega)
  have c1:=a1 (by omega)
  have e:bj 11 ws k w=ws.getD 0 0+ws.getD 1 0:=rfl
  rw[e]at h3 ⊢
  show dk ((((xs.getD 0 0).toNat*2^(ws.getD 1 0).toNat ||| (xs.getD 1 0).toNat:Nat)):Int) (ws.getD 0 0+ws.getD 1 0)
  have d0:=d5 c0.1 ((iQ (by omega) (by omega)).1 c0.2)
  have d1:=d5 c1.1 ((iQ (by omega) (by omega)).1 c1.2)
  have hs:(ws.getD 0 0+ws.getD 1 0).toNat=(ws.getD 0 0).toNat+(ws.getD 1 0).toNat:=by omega
  refine pL (by omega) (by omega) ?_
  rw[hs,Nat.pow_add]
  refine(Nat.pow_add 2 _ _) ▸ Nat.or_lt_two_pow ?_ ?_
  ·rw[Nat.pow_add];exact Nat.mul_lt_mul_of_pos_right d0 (Nat.two_pow_pos _)
  ·exact OV d1 (Pv (by omega) (by omega))
 ·have hk:=Cm h
  have e:bj 12 ws k w=(if aB w=false∨k<0∨ws.getD 0 0-w<k then 0 else w):=rfl
  rw[e]at h3 ⊢
  split at h3
  ·omega
  ·rename_i hn
   rw[NQ hn]
   have hw:=bf.1 hk.2.2
   exact sR (by omega) (by omega)
 ·have hl:(ws.length:Int)=1:=h1
  have b0:=f0 (by omega)
  have c0:=a0 (by omega)
  have e:bj 13 ws k w=(if w<ws.getD 0 0 then 0 else w):=rfl
  rw[e]at h3 ⊢
  split at h3
  ·omega
  ·rename_i hn
   rw[NQ hn]
   show dk (xs.getD 0 0) w
   exact⟨c0.1,Int.le_trans c0.2 (DQ (by omega) (by omega) (by omega))⟩
theorem DR {op:Int} {ws xs P':List Int} {k w:Int} (h:nq op ws k w=true) (hx:xs.length=ws.length) (hin:DI ws xs=true) (hn:P'.length=2) (h0:P'.getD 0 0=k) (h1:P'.getD 1 0=w) :
  dy op ws xs P'=nr op ws xs k w∧dk (dy op ws xs P') (bj op ws k w):=by
 have e:=(eI hn hx (by rw[h0,h1];exact h) hin).1
 rw[h0,h1]at e
 exact⟨e,by rw[e];exact FC h hx hin⟩
def bC (p:Pr) (s:Ps) (data:List Int):Ex→Int×Int
 | ⟨op,_,k,w,args⟩ =>
  if op=16 then (s.NI.getD k.n.toNat 0,(p.NI.getD k.n.toNat bU).w)
  else if op=18 then (data.getD k.n.toNat 0,(p.I.getD k.n.toNat aD).w)
  else if op=17 then ((s.NH.getD k.n.toNat []).getD (Int.tmod ((evL args).getD 0 (0,0)).1 (s.NH.getD k.n.toNat []).length).toNat 0,(p.NH.getD k.n.toNat a6).w)
  else (dy op ((evL args).map (·.2)) ((evL args).map (·.1)) [k.n,w.n],fO op ((evL args).map (·.2)) k.n w.n)
where evL:List Ex→List (Int×Int)
 | []=>[]
 | a::r=>bC p s data a::evL r
theorem Cn {p:Pr} {s:Ps} {data:List Int}:∀(l:List Ex),bC.evL p s data l=l.map (bC p s data)
 | []=>rfl
 | a::r=>by rw[bC.evL,Cn r];rfl
theorem oL (p:Pr) (s:Ps) (data:List Int) (e:Ex):bC p s data e =
  if e.op=16 then (s.NI.getD e.k.n.toNat 0,(p.NI.getD e.k.n.toNat bU).w)
  else if e.op=18 then (data.getD e.k.n.toNat 0,(p.I.getD e.k.n.toNat aD).w)
  else if e.op=17 then ((s.NH.getD e.k.n.toNat []).getD (Int.tmod ((e.args.map (bC p s data)).getD 0 (0,0)).1 (s.NH.getD e.k.n.toNat []).length).toNat 0,(p.NH.getD e.k.n.toNat a6).w)
  else (dy e.op ((e.args.map (bC p s data)).map (·.2)) ((e.args.map (bC p s data)).map (·.1)) [e.k.n,e.w.n],fO e.op ((e.args.map (bC p s data)).map (·.2)) e.k.n e.w.n):=by
 cases e with
 | mk op name k w args=>rw[bC,Cn]
structure Sc where
 rw:List Int
 mw:List Int
 tw:List Int
def eT (c:Sc):Ex→Option Int
 | ⟨op,_,k,w,args⟩=>match tyL args with
  | none=>none
  | some ws =>
   if op=16 then (if ws=[]∧0≤k.n∧k.n<c.rw.length then some (c.rw.getD k.n.toNat 0)else none)
   else if op=18 then (if ws=[]∧0≤k.n∧k.n<c.tw.length then some (c.tw.getD k.n.toNat 0)else none)
   else if op=17 then (if ws.length=1∧0≤k.n∧k.n<c.mw.length then some (c.mw.getD k.n.toNat 0)else none)
   else if nq op ws k.n w.n then some (bj op ws k.n w.n)else none
where tyL:List Ex→Option (List Int)
 | []=>some []
 | a::r=>match eT c a,tyL r with
  | some w,some ws=>some (w::ws)
  | _,_=>none
theorem mC {c:Sc}:∀{l:List Ex} {ws:List Int},eT.tyL c l=some ws→ws.length=l.length∧∀i,i<l.length→eT c (l.getD i dE)=some (ws.getD i 0)
 | [],ws,h=>by rw[eT.tyL]at h;cases h;exact⟨rfl,fun i hi=>absurd hi (Po _)⟩
 | a::r,ws,h=>by
  rw[eT.tyL]at h
  split at h
  ·rename_i w ws' h1 h2
   cases h
   obtain⟨q1,q2⟩:=mC h2
   refine⟨by simp[q1],fun i hi=>?_⟩
   cases i with
   | zero=>exact h1
   | succ i=>exact q2 i (by simpa using hi)
  ·cases h
theorem ip {c:Sc} {e:Ex} {w:Int} (h:eT c e=some w):∃ws,eT.tyL c e.args=some ws ∧
  ((e.op=16∧ws=[]∧0≤e.k.n∧e.k.n<c.rw.length∧w=c.rw.getD e.k.n.toNat 0)∨(e.op=18∧ws=[]∧0≤e.k.n∧e.k.n<c.tw.length∧w=c.tw.getD e.k.n.toNat 0) ∨
   (e.op=17∧ws.length=1∧0≤e.k.n∧e.k.n<c.mw.length∧w=c.mw.getD e.k.n.toNat 0)∨(e.op≠16∧e.op≠17∧e.op≠18∧nq e.op ws e.k.n e.w.n=true∧w=bj e.op ws e.k.n e.w.n)):=by
 cases e with
 | mk op name k w0 args =>
  rw[eT]at h
  split at h
  ·cases h
  ·rename_i ws hws
   refine⟨ws,hws,?_⟩
   split at h
   ·rename_i ho
    split at h
    ·rename_i hc;cases h;exact .inl ⟨ho,hc.1,hc.2.1,hc.2.2,rfl⟩
    ·cases h
   ·split at h
    ·rename_i ho
     split at h
     ·rename_i hc;cases h;exact .inr (.inl ⟨ho,hc.1,hc.2.1,hc.2.2,rfl⟩)
     ·cases h
    ·split at h
     ·rename_i ho
      split at h
      ·rename_i hc;cases h;exact .inr (.inr (.inl ⟨ho,hc.1,hc.2.1,hc.2.2,rfl⟩))
      ·cases h
     ·split at h
      ·rename_i h1 h2 h3 hc;cases h;exact .inr (.inr (.inr ⟨h1,h3,h2,hc,rfl⟩))
      ·cases h
structure xz (c:Sc) (p:Pr) (s:Ps) (data:List Int):Prop where
 prl:p.NI.length=c.rw.length
 prw:∀i,i<c.rw.length→(p.NI.getD i bU).w=c.rw.getD i 0
 pml:p.NH.length=c.mw.length
 pmw:∀i,i<c.mw.length→(p.NH.getD i a6).w=c.mw.getD i 0
 ptl:p.I.length=c.tw.length
 ptw:∀i,i<c.tw.length→(p.I.getD i aD).w=c.tw.getD i 0
 srl:s.NI.length=c.rw.length
 srv:∀i,i<c.rw.length→dk (s.NI.getD i 0) (c.rw.getD i 0)
 sml:s.NH.length=c.mw.length
 smn:∀i,i<c.mw.length→0<(s.NH.getD i []).length
 smv:∀i,i<c.mw.length→∀j,j<(s.NH.getD i []).length→dk ((s.NH.getD i []).getD j 0) (c.mw.getD i 0)
 dl:data.length=c.tw.length
 dv:∀i,i<c.tw.length→dk (data.getD i 0) (c.tw.getD i 0)
 rok:∀i,i<c.rw.length→aB (c.rw.getD i 0)=true
 mok:∀i,i<c.mw.length→aB (c.mw.getD i 0)=true
 tok:∀i,i<c.tw.length→aB (c.tw.getD i 0)=true
theorem cS {α β:Type} (f:α→β) (l:List α) (i:Nat) (d:α) (d':β) (h:i<l.length):(l.map f).getD i d'=f (l.getD i d):=by
 simp[List.getD,NM h]
theorem Co {e:Ex} {i:Nat} (h:i<e.args.length):fP (e.args.getD i dE)<fP e:=by
 cases e with
 | mk op name k w args =>
  have key:∀(l:List Ex) (i:Nat),i<l.length→fP (l.getD i dE)≤fP.depL l:=by
   intro l
   induction l with
   | nil=>intro i hi;exact absurd hi (Po _)
   | cons a r ih =>
    intro i hi
    rw[fP.depL]
    cases i with
    | zero=>show fP a≤_;omega
    | succ i =>
     have:=ih i (by simpa using hi)
     show fP (r.getD i dE)≤_
     omega
  have:=key args i h
  rw[fP]
  exact Nat.lt_succ_of_le this
theorem JC {l:List Int} {p:Int→Bool} (h:∀i,i<l.length→p (l.getD i 0)=true):l.all p=true:=by
 rw[Oa]
 intro x hx
 obtain⟨i,hi,rfl⟩:=List.mem_iff_getElem.1 hx
 have:=h i hi
 simpa[List.getD,NM hi]using this
theorem HC {c:Sc} {p:Pr} {s:Ps} {data:List Int} {args:List Ex} {ws:List Int} (hl:ws.length=args.length)
  (h:∀i,i<args.length→(bC p s data (args.getD i dE)).2=ws.getD i 0∧dk (bC p s data (args.getD i dE)).1 (ws.getD i 0)∧aB (ws.getD i 0)=true) :
  (args.map (bC p s data)).map (·.2)=ws∧((args.map (bC p s data)).map (·.1)).length=ws.length∧DI ws ((args.map (bC p s data)).map (·.1))=true∧ws.all aB=true:=by
 refine⟨?_,by simp[hl],?_,JC (fun i hi=>(h i (by omega)).2.2)⟩
 ·apply Pj
  ·simp[hl]
  ·intro i h1 h2
   have:=(h i (by omega)).1
   simp only[List.getElem_map]
   have e1:args.getD i dE=args[i]'(by omega):=by simp[List.getD,NM (show i<args.length by omega)]
   have e2:ws.getD i 0=ws[i]:=by simp[List.getD,NM h2]
   rw[e1,e2]at this
   exact this
 ·refine Fp (fun i hi=>?_)
  have Ri:i<args.length:=by simpa using hi
  have:=(h i Ri).2.1
  rw[List.map_map,cS ((·.1) ∘ bC p s data) args i dE 0 Ri]
  exact this
theorem IM {c:Sc} {p:Pr} {s:Ps} {data:List Int} (ho:xz c p s data):∀(n:Nat) (e:Ex) (w:Int),fP e≤n→eT c e=some w→(bC p s data e).2=w∧dk (bC p s data e).1 w∧aB w=true:=by
 intro n
 induction n with
 | zero=>intro e w hd;cases e with | mk op name k w args=>rw[fP]at hd;omega
 | succ n ih =>
  intro e w hd hty
  obtain⟨ws,hws,hc⟩:=ip hty
  obtain⟨hl,QN⟩:=mC hws
  have hargs:∀i,i<e.args.length→(bC p s data (e.args.getD i dE)).2=ws.getD i 0∧dk (bC p s data (e.args.getD i dE)).1 (ws.getD i 0)∧aB (ws.getD i 0)=true:=fun i hi=>ih _ _ (by have:=Co hi;omega) (QN i hi)
  rw[oL]
  rcases hc with ⟨h1,h2,h3,h4,rfl⟩ | ⟨h1,h2,h3,h4,rfl⟩ | ⟨h1,h2,h3,h4,rfl⟩ | ⟨h1,h2,h2',h3,rfl⟩
  ·rw[NT h1]
   exact⟨ho.prw _ (by omega),ho.srv _ (by omega),ho.rok _ (by omega)⟩
  ·rw[NQ (by omega),NT h1]
   exact⟨ho.ptw _ (by omega),ho.dv _ (by omega),ho.tok _ (by omega)⟩
  ·rw[NQ (by omega),NQ (by omega),NT h1]
   refine⟨ho.pmw _ (by omega),ho.smv _ (by omega) _ ?_,ho.mok _ (by omega)⟩
   have hn:=ho.smn e.k.n.toNat (by omega)
   have a0:=(hargs 0 (by omega)).2.1.1
   rw[cS (bC p s data) e.args 0 dE (0,0) (by omega)]
   have:=Int.tmod_lt_of_pos (bC p s data (e.args.getD 0 dE)).1 (show(0:Int)<(s.NH.getD e.k.n.toNat []).length by omega)
   have h0:=Int.tmod_nonneg (((s.NH.getD e.k.n.toNat []).length:Nat):Int) a0
   omega
  ·rw[NQ h1,NQ h2',NQ h2]
   obtain⟨q1,q2,q3,q4⟩:=HC (c:=c) hl hargs
   rw[q1]
   obtain⟨r1,r2⟩:=DR (P':=[e.k.n,e.w.n]) h3 q2 q3 rfl rfl rfl
   refine⟨?_,r2,?_⟩
   ·unfold fO;rw[h3];rfl
   ·exact(qQ h3).2.2
theorem Cp {a:Ex}:∀{l:List Ex},a∈l→fP a≤fP.depL l
 | b::r,h=>by
  rw[fP.depL]
  rcases OB.1 h with rfl | h
  ·omega
  ·have:=Cp h;omega
theorem Cq {e a:Ex} (h:a∈e.args):fP a<fP e:=by
 cases e with
 | mk op name k w args=>rw[fP];exact Nat.lt_succ_of_le (Cp h)
theorem JD {c:Sc} {e a:Ex} {w:Int} (h:eT c e=some w) (ha:a∈e.args):∃w',eT c a=some w':=by
 obtain⟨ws,h1,_⟩:=ip h
 obtain⟨i,hi,rfl⟩:=List.mem_iff_getElem.1 ha
 have:=(mC h1).2 i hi
 exact⟨_,by simpa[List.getD,NM hi]using this⟩
theorem JE {c:Sc} {e:Ex} {w:Int} (h:eT c e=some w):e.args.length≤3:=by
 obtain⟨ws,h1,h2⟩:=ip h
 have hl:=(mC h1).1
 rcases h2 with ⟨_,h2,_⟩ | ⟨_,h2,_⟩ | ⟨_,h2,_⟩ | ⟨_,_,_,h2,_⟩
 ·rw[h2]at hl;simp at hl;omega
 ·rw[h2]at hl;simp at hl;omega
 ·omega
 ·have:=(qQ h2).1
  have:bD e.op≤3:=by unfold bD;split<;>(try split)<;>(try split)<;>(try split)<;>omega
  omega
theorem JF {c:Sc} {p:Pr} {s:Ps} {data:List Int} {e:Ex} {w:Int} (ho:xz c p s data) (h:eT c e=some w) (TG:e.op=16):0≤e.k.n∧e.k.n<s.NI.length∧e.k.n<p.NI.length:=by
 obtain⟨ws,h1,h2⟩:=ip h
 have a1:=ho.srl;have a2:=ho.prl
 rcases h2 with ⟨_,_,h3,h4,_⟩ | ⟨h,_⟩ | ⟨h,_⟩ | ⟨h,_⟩<;>omega
theorem HD {c:Sc} {p:Pr} {s:Ps} {data:List Int} {e:Ex} {w:Int} (ho:xz c p s data) (h:eT c e=some w) (TG:e.op=18):0≤e.k.n∧e.k.n<data.length∧e.k.n<p.I.length:=by
 obtain⟨ws,h1,h2⟩:=ip h
 have a1:=ho.dl;have a2:=ho.ptl
 rcases h2 with ⟨h,_⟩ | ⟨_,_,h3,h4,_⟩ | ⟨h,_⟩ | ⟨_,_,h,_⟩<;>omega
theorem HF {c:Sc} {p:Pr} {s:Ps} {data:List Int} {e:Ex} {w:Int} (ho:xz c p s data) (h:eT c e=some w) (TG:e.op=17) :
  0≤e.k.n∧e.k.n<s.NH.length∧e.k.n<p.NH.length∧e.args.length=1∧0<(s.NH.getD e.k.n.toNat []).length ∧
   0≤Int.tmod (bC p s data (e.args.getD 0 dE)).1 (s.NH.getD e.k.n.toNat []).length∧Int.tmod (bC p s data (e.args.getD 0 dE)).1 (s.NH.getD e.k.n.toNat []).length<(s.NH.getD e.k.n.toNat []).length:=by
 obtain⟨ws,h1,h2⟩:=ip h
 have a1:=ho.sml;have a2:=ho.pml
 obtain⟨hl,hg⟩:=mC h1
 rcases h2 with ⟨h,_⟩ | ⟨h,_⟩ | ⟨_,h5,h3,h4,_⟩ | ⟨_,h,_⟩<;>try omega
 have hn:=ho.smn e.k.n.toNat (by omega)
 have a0:=(IM ho _ (e.args.getD 0 dE) _ (NN _) (hg 0 (by omega))).2.1.1
 refine⟨by omega,by omega,by omega,by omega,hn,Int.tmod_nonneg _ a0,Int.tmod_lt_of_pos _ (by omega)⟩
theorem lH {p:Pr} {s:Ps} {data:List Int} {e:Ex} (h:e.op=16):(bC p s data e).1=s.NI.getD e.k.n.toNat 0∧(bC p s data e).2=(p.NI.getD e.k.n.toNat bU).w:=by
 rw[oL,NT h];exact⟨rfl,rfl⟩
theorem iR {p:Pr} {s:Ps} {data:List Int} {e:Ex} (h:e.op=18):(bC p s data e).1=data.getD e.k.n.toNat 0∧(bC p s data e).2=(p.I.getD e.k.n.toNat aD).w:=by
 rw[oL,NQ (by omega),NT h];exact⟨rfl,rfl⟩
theorem iT {p:Pr} {s:Ps} {data:List Int} {e:Ex} (h:e.op=17) (hl:e.args.length=1):(bC p s data e).1=(s.NH.getD e.k.n.toNat []).getD (Int.tmod (bC p s data (e.args.getD 0 dE)).1 (s.NH.getD e.k.n.toNat []).length).toNat 0∧(bC p s data e).2=(p.NH.getD e.k.n.toNat a6).w:=by
 rw[oL,NQ (by omega),NQ (by omega),NT h,cS (bC p s data) e.args 0 dE (0,0) (by omega)];exact⟨rfl,rfl⟩
def kI (p:Pr) (s:Ps) (data:List Int) (l:List Ex):List Int:=l.map fun a=>(bC p s data a).1
def iq (p:Pr) (s:Ps) (data:List Int) (l:List Ex):List Int:=l.map fun a=>(bC p s data a).2
theorem FD {p:Pr} {s:Ps} {data:List Int} (l:List Ex):(kI p s data l).length=l.length:=by simp[kI]
theorem yW {p:Pr} {s:Ps} {data:List Int} (l:List Ex):(iq p s data l).length=l.length:=by simp[iq]
theorem wh {α:Type} {l:List α} {i:Nat} {d:α} (h:i<l.length):l.take (i+1)=l.take i++[l.getD i d]:=by
 rw[List.take_succ_eq_append_getElem h];simp[List.getD,NM h]
theorem DS {p:Pr} {s:Ps} {data:List Int} {l:List Ex} {i:Nat} (h:i<l.length):kI p s data (l.take (i+1))=kI p s data (l.take i)++[(bC p s data (l.getD i dE)).1]:=by
 rw[wh (d:=dE) h];simp[kI]
theorem DT {p:Pr} {s:Ps} {data:List Int} {l:List Ex} {i:Nat} (h:i<l.length):iq p s data (l.take (i+1))=iq p s data (l.take i)++[(bC p s data (l.getD i dE)).2]:=by
 rw[wh (d:=dE) h];simp[iq]
theorem rS {p:Pr} {s:Ps} {data:List Int} {e:Ex} (h1:¬e.op=16) (h2:¬e.op=18) (h3:¬e.op=17):(bC p s data e).1=dy e.op (iq p s data e.args) (kI p s data e.args) [e.k.n,e.w.n]∧(bC p s data e).2=fO e.op (iq p s data e.args) e.k.n e.w.n:=by
 rw[oL,NQ h1,NQ h2,NQ h3]
 simp only[kI,iq,List.map_map]
 exact⟨rfl,rfl⟩
theorem mD {l:List Ex} {i:Nat} (h:i<l.length):l.getD i dE∈l:=by simp[List.getD,NM h]
def oM (b:List Int):Prop:=∀x∈b,0≤x∧x≤255
theorem d6 {b:List Int} (h:oM b) (i:Nat):0≤b.getD i 0∧b.getD i 0≤255:=by
 by_cases hi:i<b.length
 ·simp only[List.getD,NM hi,P3]
  exact h _ (Pq hi)
 ·simp[List.getD,OL (Nat.le_of_not_lt hi)]
structure Sg where
 NI:List Int
 I:List Int
 NH:List Mm
 data:Bool
def Sg.sc (s:Sg):Sc:=⟨s.NI,s.NH.map (·.w),if s.data then s.I else []⟩
def d7 (v w:Int):Ex:=⟨1,e0,⟨v%2^w.toNat,e0⟩,⟨w,e0⟩,[]⟩
def DU (i:Nat):Ex:=⟨16,e0,⟨i,e0⟩,dN,[]⟩
def FF (i:Nat):Ex:=⟨18,e0,⟨i,e0⟩,dN,[]⟩
def ez (f:Nat→Ex) (w:Int) (l:List Int):Nat→List Ex
 | 0=>[]
 | k+1=>ez f w l k++(if l.getD k 0=w then [f k]else [])
def cx (s:Sg) (w:Int):List Ex:=ez DU w s.NI s.NI.length++(if s.data then ez FF w s.I s.I.length else [])
def a7 (s:Sg) (w b:Int):Ex:=if (cx s w).length=0∨b%4=0 then d7 (b / 4) w else (cx s w).getD (b / 4%(cx s w).length).toNat dE
def ns (l:List Mm) (w:Int):Nat→Nat→Option Nat
 | 0,_=>none
 | n+1,k=>if (l.getD k a6).w=w then some k else ns l w n (k+1)
def ir (k:Int):Int:=[2,3,4,5,6,7,10,8,9,11].getD (k-4).toNat 0
def qU (y w:Int):Int:=let o:=ir (y%14);if (o=8∨o=9)∧w>1 then 5 else if o=11∧w=1 then 3 else o
def iU (y w:Int):List Int:=let o:=ir (y%14)
 if o=2 then [w]else if o=10 then [1,w,w]else if o=8∨o=9 then (if w>1 then [w,w]else [1+y / 14%3,1+y / 14%3])else if o=11 then (if w=1 then [w,w]else [w-1,1])else [w,w]
def bn (t:Nat→Int→Ex×Nat):List Int→Nat→List Ex×Nat
 | [],i=>([],i)
 | w::r,i=>((t i w).1::(bn t r (t i w).2).1,(bn t r (t i w).2).2)
def bz (s:Sg) (t:Nat→Int→Ex×Nat) (w b:Int) (i:Nat):Ex×Nat :=
 match (if b%3=0 then ns s.NH w s.NH.length 0 else none)with
 | some m=>let x:=t i (1+b / 3%3);(⟨17,e0,⟨m,e0⟩,dN,[x.1]⟩,x.2)
 | none=>if b%3=1∧w>1 then let x:=t i (w-1);(⟨13,e0,dN,⟨w,e0⟩,[x.1]⟩,x.2)
  else let x:=t i (w+b / 3%2);(⟨12,e0,⟨b / 3%2,e0⟩,⟨w,e0⟩,[x.1]⟩,x.2)
def am (s:Sg) (b:List Int):Nat→Nat→Int→Ex×Nat
 | 0,i,w=>(a7 s w (b.getD i 0 / 14),i+1)
 | d+1,i,w =>
  let y:=b.getD i 0
  if d=0∨y%14<2 then (a7 s w (y / 14),i+1)
  else if y%14=2∨y%14=3 then bz s (am s b d) w (y / 14) (i+1)
  else (⟨qU y w,e0,dN,dN,(bn (am s b d) (iU y w) (i+1)).1⟩,(bn (am s b d) (iU y w) (i+1)).2)
theorem Cs {s:Sg} {w:Int} {QW:List Ex} {j:Nat} (h:QW=ez DU w s.NI s.NI.length++ez FF w s.I j) (h0:s.data=false→j=0) (h1:s.data=true→j=s.I.length):QW=cx s w:=by
 rw[h];unfold cx
 cases hs:s.data
 ·rw[h0 hs];simp[ez]
 ·rw[h1 hs];simp
theorem mE {f:Nat→Ex} {w:Int} {l:List Int} {k:Nat} (h:l.getD k 0=w):ez f w l k++[f k]=ez f w l (k+1):=by rw[ez,NT h]
theorem pM {f:Nat→Ex} {w:Int} {l:List Int} {k:Nat} (h:¬l.getD k 0=w):ez f w l k=ez f w l (k+1):=by rw[ez,NQ h,Om]
theorem HH (s:Sg) (w:Int):(cx s w).length≤s.NI.length+s.I.length:=by
 have key:∀(f:Nat→Ex) (l:List Int) (k:Nat),(ez f w l k).length≤k:=by
  intro f l k
  induction k with
  | zero=>simp[ez]
  | succ k ih=>rw[ez];simp only[NY];split<;>simp<;>omega
 unfold cx
 have h1:=key DU s.NI s.NI.length
 have h2:=key FF s.I s.I.length
 rw[NY]
 split
 ·omega
 ·simp;omega
theorem qV {f:Nat→Ex} {w:Int} {l:List Int} {e:Ex}:∀(k:Nat),e∈ez f w l k→∃i,i<k∧e=f i∧l.getD i 0=w
 | 0,h=>by cases h
 | k+1,h=>by
  rw[ez,OZ]at h
  rcases h with h | h
  ·obtain⟨i,h1,h2⟩:=qV k h;exact⟨i,by omega,h2⟩
  ·split at h
   ·rename_i hw
    simp only[O7]at h
    exact⟨k,by omega,h,hw⟩
   ·cases h
theorem JG {c:Sc} {v w:Int} (hw:aB w=true):eT c (d7 v w)=some w:=by
 have h:=bf.1 hw
 unfold d7
 rw[eT,eT.tyL]
 simp only
 rw[NQ (by decide),NQ (by decide),NQ (by decide)]
 have hm:=sR (x:=v) (w:=w) (by omega) (by omega)
 have e:bj 1 [] (v%2^w.toNat) w=w:=by
  show(if aB w=false∨v%2^w.toNat<0∨ao w<v%2^w.toNat then 0 else w)=w
  rw[NQ]
  rintro(h1 | h1 | h1)
  ·rw[hw]at h1;cases h1
  ·have:=hm.1;omega
  ·have:=hm.2;omega
 have ho:nq 1 [] (v%2^w.toNat) w=true:=by
  unfold nq
  rw[e,hw]
  rfl
 rw[NT ho,e]
theorem FG {s:Sg} {w:Int} {e:Ex} (h:e∈cx s w):eT s.sc e=some w∧e.args=[]∧fP e=1:=by
 unfold cx at h
 rw[OZ]at h
 rcases h with h | h
 ·obtain⟨i,h1,rfl,h2⟩:=qV _ h
  refine⟨?_,rfl,rfl⟩
  unfold DU
  rw[eT,eT.tyL]
  simp only
  rw[NT trivial,NT ⟨by trivial,by simp,by show((i:Nat):Int)<(s.NI.length:Int);omega⟩]
  show some (s.NI.getD (i:Int).toNat 0)=some w
  rw[PI,h2]
 ·split at h
  ·rename_i hd
   obtain⟨i,h1,rfl,h2⟩:=qV _ h
   refine⟨?_,rfl,rfl⟩
   have ht:s.sc.tw=s.I:=by show(if s.data then s.I else [])=s.I;rw[NT hd]
   unfold FF
   rw[eT,eT.tyL]
   simp only
   rw[NQ (by decide),NT trivial,ht,NT ⟨by trivial,by simp,by omega⟩,PI,h2]
  ·cases h
theorem Cu {s:Sg} {w b:Int} (hw:aB w=true) (hb:0≤b):eT s.sc (a7 s w b)=some w∧(a7 s w b).args=[]∧fP (a7 s w b)=1:=by
 unfold a7
 split
 ·exact⟨JG hw,rfl,rfl⟩
 ·rename_i hn
  simp only[not_or]at hn
  have h1:=Pg (b / 4) (show(0:Int)<((cx s w).length:Int) by omega)
  have h0:=Pm (b / 4) (show((cx s w).length:Int)≠0 by omega)
  exact FG (mD (by omega))
theorem wi {l:List Mm} {w:Int}:∀{n k m:Nat},ns l w n k=some m→k≤m∧m<k+n∧(l.getD m a6).w=w
 | 0,k,m,h=>by cases h
 | n+1,k,m,h=>by
  rw[ns]at h
  split at h
  ·rename_i hw;cases h;exact⟨by omega,by omega,hw⟩
  ·obtain⟨h1,h2,h3⟩:=wi h;exact⟨by omega,by omega,h3⟩
theorem yX {t:Nat→Int→Ex×Nat}:∀(ws:List Int) (i:Nat),(bn t ws i).1.length=ws.length
 | [],i=>rfl
 | w::r,i=>by rw[bn];simp[yX r]
theorem Cv {c:Sc} {t:Nat→Int→Ex×Nat}:∀(ws:List Int) (i:Nat),(∀w∈ws,∀i,eT c (t i w).1=some w)→eT.tyL c (bn t ws i).1=some ws
 | [],i,_=>rfl
 | w::r,i,h=>by
  rw[bn,eT.tyL,h w (by simp) i,Cv r _ (fun w hw=>h w (by simp[hw]))]
theorem yY {t:Nat→Int→Ex×Nat} {n:Nat}:∀(ws:List Int) (i:Nat),(∀w∈ws,∀i,fP (t i w).1≤n)→fP.depL (bn t ws i).1≤n
 | [],i,_=>by rw[bn,fP.depL];exact Oy _
 | w::r,i,h=>by
  rw[bn,fP.depL]
  have h1:=h w (by simp) i
  have h2:=yY r (t i w).2 (fun w hw=>h w (by simp[hw]))
  omega
theorem t8 {t:Nat→Int→Ex×Nat} {n:Nat}:∀(ws:List Int) (i:Nat),(∀w∈ws,∀i,i≤(t i w).2∧(t i w).2≤i+n)→i≤(bn t ws i).2∧(bn t ws i).2≤i+n*ws.length
 | [],i,_=>⟨NN _,Nat.le_add_right _ _⟩
 | w::r,i,h=>by
  rw[bn]
  have h1:=h w (by simp) i
  have h2:=t8 r (t i w).2 (fun w hw=>h w (by simp[hw]))
  have:n*(w::r).length=n*r.length+n:=by rw[Ow,Nat.mul_succ]
  show i≤(bn t r (t i w).2).2∧(bn t r (t i w).2).2≤i+n*(w::r).length
  omega
theorem DV {k:Int} (h:4≤k) (h2:k<14):ir k=2∨ir k=3∨ir k=4∨ir k=5∨ir k=6∨ir k=7∨ir k=10∨ir k=8∨ir k=9∨ir k=11:=by
 have:k=4∨k=5∨k=6∨k=7∨k=8∨k=9∨k=10∨k=11∨k=12∨k=13:=by omega
 rcases this with rfl | rfl | rfl | rfl | rfl | rfl | rfl | rfl | rfl | rfl<;>decide
theorem z4 {op:Int} {w k v:Int} (TG:op=3∨op=4∨op=5∨op=6∨op=7) (hw:aB w=true):nq op [w,w] k v=true∧bj op [w,w] k v=w:=by
 have e:∀op,bj op [w,w] k v=w∨True:=fun _=>.inr trivial
 have ha:bX [w,w]=w:=by unfold bX;rw[NQ (by simp)];rfl
 have hv:bj op [w,w] k v=bX [w,w]:=by rcases TG with rfl | rfl | rfl | rfl | rfl<;>rfl
 have hA:bD op=2:=by rcases TG with rfl | rfl | rfl | rfl | rfl<;>decide
 refine⟨?_,by rw[hv,ha]⟩
 unfold nq
 rw[hv,ha,hA]
 simp[hw]
theorem FH {y w:Int} (hk:4≤y%14) (h0:0≤y) (hw:1≤w) (hw8:w≤8):nq (qU y w) (iU y w) 0 0=true∧bj (qU y w) (iU y w) 0 0=w∧(qU y w≠16∧qU y w≠18∧qU y w≠17)∧(∀v∈iU y w,1≤v∧(v≤w∨v≤3))∧(iU y w).length≤3:=by
 have hf:aB w=true:=bf.2 ⟨hw,hw8⟩
 have hc:=DV hk (by omega)
 unfold qU iU
 simp only
 have hn:(1:Int)≤1+y / 14%3∧1+y / 14%3≤3:=by omega
 generalize hv:1+y / 14%3=v at *
 have RJ:aB v=true:=bf.2 ⟨hn.1,by omega⟩
 rcases hc with h | h | h | h | h | h | h | h | h | h<;>rw[h]<;>simp only[Int.reduceEq,false_or,or_false,false_and,Pf,true_and,Pe,or_true,true_or]
 ·refine⟨?_,rfl,by decide,by simp;omega,by simp⟩
  show(decide (([w].length:Int)=bD 2)&&[w].all aB&&aB w)=true
  simp[hf];decide
 ·exact⟨(z4 (by simp) hf).1,(z4 (by simp) hf).2,by decide,by simp;omega,by simp⟩
 ·exact⟨(z4 (by simp) hf).1,(z4 (by simp) hf).2,by decide,by simp;omega,by simp⟩
 ·exact⟨(z4 (by simp) hf).1,(z4 (by simp) hf).2,by decide,by simp;omega,by simp⟩
 ·exact⟨(z4 (by simp) hf).1,(z4 (by simp) hf).2,by decide,by simp;omega,by simp⟩
 ·exact⟨(z4 (by simp) hf).1,(z4 (by simp) hf).2,by decide,by simp;omega,by simp⟩
 ·have e:bj 10 [1,w,w] 0 0=w:=by
   show(if (1:Int)≠1∨w≠w then 0 else w)=w
   rw[NQ (by simp)]
  refine⟨?_,e,by decide,by simp;omega,by simp⟩
  unfold nq
  rw[e]
  simp[hf];decide
 ·split
  ·exact⟨(z4 (by simp) hf).1,(z4 (by simp) hf).2,by decide,by simp;omega,by simp⟩
  ·have hw1:w=1:=by omega
   subst hw1
   have ha:bX [v,v]=v:=by unfold bX;rw[NQ (by simp)];rfl
   have e:bj 8 [v,v] 0 0=1:=by
    show min (bX [v,v]) 1=1
    rw[ha];omega
   refine⟨?_,e,by decide,by simp;omega,by simp⟩
   unfold nq
   rw[e]
   simp[RJ];decide
 ·split
  ·exact⟨(z4 (by simp) hf).1,(z4 (by simp) hf).2,by decide,by simp;omega,by simp⟩
  ·have hw1:w=1:=by omega
   subst hw1
   have ha:bX [v,v]=v:=by unfold bX;rw[NQ (by simp)];rfl
   have e:bj 9 [v,v] 0 0=1:=by
    show min (bX [v,v]) 1=1
    rw[ha];omega
   refine⟨?_,e,by decide,by simp;omega,by simp⟩
   unfold nq
   rw[e]
   simp[RJ];decide
 ·split
  ·exact⟨(z4 (by simp) hf).1,(z4 (by simp) hf).2,by decide,by simp;omega,by simp⟩
  ·have e:bj 11 [w-1,1] 0 0=w:=by
    show(w-1)+1=w
    omega
   have hf1:aB (w-1)=true:=bf.2 ⟨by omega,by omega⟩
   refine⟨?_,e,by decide,by simp;omega,by simp⟩
   unfold nq
   rw[e]
   simp[hf,hf1];decide
theorem t9 {s:Sg} {b:List Int} (hb:oM b):∀(d i:Nat) (w:Int),d≤3→1≤w→w+d≤8→eT s.sc (am s b d i w).1=some w∧fP (am s b d i w).1≤max d 1∧i≤(am s b d i w).2∧(am s b d i w).2≤i+4^d:=by
 intro d
 induction d with
 | zero =>
  intro i w h3 h1 h2
  have hy:=d6 hb i
  obtain⟨q1,q2,q3⟩:=Cu (s:=s) (w:=w) (b:=b.getD i 0 / 14) (bf.2 ⟨h1,by omega⟩) (by omega)
  rw[am]
  exact⟨q1,by show fP (a7 s w (b.getD i 0 / 14))≤1;omega,by show i≤i+1;omega,by show i+1≤i+4^0;omega⟩
 | succ d ih =>
  intro i w h3 h1 h2
  have hy:=d6 hb i
  have hp:1≤4^d:=Nat.one_le_pow _ _ (by omega)
  have hpow:4^(d+1)=4*4^d:=by rw[Nat.pow_succ];omega
  rw[am]
  split
  ·obtain⟨q1,q2,q3⟩:=Cu (s:=s) (w:=w) (b:=b.getD i 0 / 14) (bf.2 ⟨h1,by omega⟩) (by omega)
   exact⟨q1,by show fP (a7 s w (b.getD i 0 / 14))≤_;omega,by show i≤i+1;omega,by show i+1≤i+4^(d+1);omega⟩
  ·rename_i hn
   simp only[not_or]at hn
   split
   ·generalize hz:b.getD i 0 / 14=z
    have hz0:0≤z:=by omega
    unfold bz
    split
    ·rename_i m hm
     split at hm
     ·obtain⟨e1,e2,e3⟩:=wi hm
      obtain⟨q1,q2,q3,q4⟩:=ih (i+1) (1+z / 3%3) (by omega) (by omega) (by omega)
      refine⟨?_,?_,by simp only;omega,by simp only;omega⟩
      ·simp only
       rw[eT,eT.tyL,q1,eT.tyL]
       simp only
       rw[NQ (by decide),NQ (by decide),NT trivial]
       have hl:(s.sc.mw.length:Int)=s.NH.length:=by show((s.NH.map (·.w)).length:Int)=_;simp
       rw[NT ⟨rfl,by simp,by rw[hl];show((m:Nat):Int)<_;omega⟩]
       show some ((s.NH.map (·.w)).getD (m:Int).toNat 0)=some w
       rw[PI,cS (·.w) s.NH m a6 0 (by omega),e3]
      ·rw[fP,fP.depL,fP.depL];omega
     ·cases hm
    ·rename_i hm
     split
     ·rename_i hc
      obtain⟨q1,q2,q3,q4⟩:=ih (i+1) (w-1) (by omega) (by omega) (by omega)
      refine⟨?_,?_,by simp only;omega,by simp only;omega⟩
      ·simp only
       rw[eT,eT.tyL,q1,eT.tyL]
       simp only
       rw[NQ (by decide),NQ (by decide),NQ (by decide)]
       have e:bj 13 [w-1] 0 w=w:=by
        show(if w<w-1 then 0 else w)=w
        rw[NQ (by omega)]
       have ho:nq 13 [w-1] 0 w=true:=by
        unfold nq
        rw[e]
        have f1:aB w=true:=bf.2 ⟨h1,by omega⟩
        have f2:aB (w-1)=true:=bf.2 ⟨by omega,by omega⟩
        simp[f1,f2];decide
       rw[NT ho,e]
      ·rw[fP,fP.depL,fP.depL];omega
     ·have hm2:z / 3%2=0∨z / 3%2=1:=by omega
      obtain⟨q1,q2,q3,q4⟩:=ih (i+1) (w+z / 3%2) (by omega) (by omega) (by omega)
      refine⟨?_,?_,by simp only;omega,by simp only;omega⟩
      ·simp only
       rw[eT,eT.tyL,q1,eT.tyL]
       simp only
       rw[NQ (by decide),NQ (by decide),NQ (by decide)]
       have f1:aB w=true:=bf.2 ⟨h1,by omega⟩
       have f2:aB (w+z / 3%2)=true:=bf.2 ⟨by omega,by omega⟩
       have e:bj 12 [w+z / 3%2] (z / 3%2) w=w:=by
        show(if aB w=false∨z / 3%2<0∨(w+z / 3%2)-w<z / 3%2 then 0 else w)=w
        rw[NQ]
        rintro(hh | hh | hh)
        ·rw[f1]at hh;cases hh
        ·omega
        ·omega
       have ho:nq 12 [w+z / 3%2] (z / 3%2) w=true:=by
        unfold nq
        rw[e]
        simp[f1,f2];decide
       rw[NT ho,e]
      ·rw[fP,fP.depL,fP.depL];omega
   ·obtain⟨o1,o2,o3,o4,o5⟩:=FH (y:=b.getD i 0) (w:=w) (by omega) hy.1 h1 (by omega)
    have key:∀v∈iU (b.getD i 0) w,∀i,eT s.sc (am s b d i v).1=some v∧fP (am s b d i v).1≤max d 1∧i≤(am s b d i v).2∧(am s b d i v).2≤i+4^d:=by
     intro v hv j
     have:=o4 v hv
     exact ih j v (by omega) this.1 (by omega)
    have hty:=Cv (c:=s.sc) (t:=am s b d) (iU (b.getD i 0) w) (i+1) (fun v hv j=>(key v hv j).1)
    have hdp:=yY (t:=am s b d) (n:=max d 1) (iU (b.getD i 0) w) (i+1) (fun v hv j=>(key v hv j).2.1)
    have hps:=t8 (t:=am s b d) (n:=4^d) (iU (b.getD i 0) w) (i+1) (fun v hv j=>(key v hv j).2.2)
    refine⟨?_,?_,by simp only;omega,?_⟩
    ·rw[eT,hty]
     simp only
     rw[NQ o3.1,NQ o3.2.1,NQ o3.2.2,NT o1,o2]
    ·rw[fP];omega
    ·simp only
     have:4^d*(iU (b.getD i 0) w).length≤4^d*3:=PM _ o5
     omega
theorem FI {s:Sg} {w b:Int} (h:(cx s w).length=0∨b%4=0):a7 s w b=d7 (b / 4) w:=NT h
theorem FJ {s:Sg} {w b:Int} (h1:¬((cx s w).length:Int)=0) (h2:¬b%4=0):a7 s w b=(cx s w).getD (b / 4%((cx s w).length:Int)).toNat dE:=NQ (by rintro(h | h)<;>omega)
theorem wj (s:Sg) (w b:Int):(a7 s w b).args=[]:=by
 unfold a7
 split
 ·rfl
 ·by_cases h:(b / 4%((cx s w).length:Int)).toNat<(cx s w).length
  ·exact(FG (mD h)).2.1
  ·rw[List.getD,OL (by omega)];rfl
theorem Lk {s:Sg} {t:Nat→Int→Ex×Nat} {w b:Int} {i k:Nat} (h:b%3=0) (hm:ns s.NH w s.NH.length 0=some k):bz s t w b i=(⟨17,e0,⟨k,e0⟩,dN,[(t i (1+b / 3%3)).1]⟩,(t i (1+b / 3%3)).2):=by
 unfold bz;rw[NT h,hm]
theorem FK {s:Sg} {t:Nat→Int→Ex×Nat} {w b:Int} {i:Nat} (h:b%3=1) (hw:w>1):bz s t w b i=(⟨13,e0,dN,⟨w,e0⟩,[(t i (w-1)).1]⟩,(t i (w-1)).2):=by
 unfold bz;rw[NQ (by omega)];simp only;rw[NT ⟨h,hw⟩]
theorem FL {s:Sg} {t:Nat→Int→Ex×Nat} {w b:Int} {i:Nat} (hm:b%3=0→ns s.NH w s.NH.length 0=none) (h:¬(b%3=1∧w>1)):bz s t w b i=(⟨12,e0,⟨b / 3%2,e0⟩,⟨w,e0⟩,[(t i (w+b / 3%2)).1]⟩,(t i (w+b / 3%2)).2):=by
 unfold bz
 have e:(if b%3=0 then ns s.NH w s.NH.length 0 else none)=none:=by split;exact hm ‹_›;rfl
 rw[e];simp only;rw[NQ h]
theorem Cw {l:List Mm} {w:Int} {k:Nat} (hk:k<l.length) (h:¬(l.getD k a6).w=w):ns l w (l.length-k) k=ns l w (l.length-(k+1)) (k+1):=by
 have e:l.length-k=(l.length-(k+1))+1:=by omega
 rw[e,ns,NQ h]
theorem FM {l:List Mm} {w:Int} {k:Nat} (hk:k<l.length) (h:(l.getD k a6).w=w):ns l w (l.length-k) k=some k:=by
 have e:l.length-k=(l.length-(k+1))+1:=by omega
 rw[e,ns,NT h]
theorem ub {l:List Mm} {w:Int} {k:Nat} (hk:¬k<l.length):ns l w (l.length-k) k=none:=by
 have e:l.length-k=0:=by omega
 rw[e,ns]
theorem FN {s:Sg} {b:List Int} {d i:Nat} {w:Int} (h:d≤1):am s b d i w=(a7 s w (b.getD i 0 / 14),i+1):=by
 cases d with
 | zero=>rfl
 | succ d=>rw[am];rw[NT (.inl (by omega))]
theorem JH {s:Sg} {b:List Int} {d i:Nat} {w:Int} (h:b.getD i 0%14<2):am s b (d+1+1) i w=(a7 s w (b.getD i 0 / 14),i+1):=by
 rw[am];rw[NT (.inr h)]
theorem FO {s:Sg} {b:List Int} {d i:Nat} {w:Int} (h:b.getD i 0%14=2∨b.getD i 0%14=3):am s b (d+1+1) i w=bz s (am s b (d+1)) w (b.getD i 0 / 14) (i+1):=by
 rw[am];rw[NQ (by omega),NT h]
theorem AQ {s:Sg} {b:List Int} {d i:Nat} {w:Int} (h:¬b.getD i 0%14<2) (h2:¬b.getD i 0%14=2) (h3:¬b.getD i 0%14=3):am s b (d+1+1) i w=(⟨qU (b.getD i 0) w,e0,dN,dN,(bn (am s b (d+1)) (iU (b.getD i 0) w) (i+1)).1⟩,(bn (am s b (d+1)) (iU (b.getD i 0) w) (i+1)).2):=by
 rw[am];rw[NQ (by omega),NQ (by omega)]
theorem qX {t:Nat→Int→Ex×Nat}:∀(l:List Int) (i k:Nat),k<l.length→bn t (l.take (k+1)) i=((bn t (l.take k) i).1++[(t (bn t (l.take k) i).2 (l.getD k 0)).1],(t (bn t (l.take k) i).2 (l.getD k 0)).2)
 | [],i,k,h=>by cases h
 | w::r,i,0,h=>by simp[bn]
 | w::r,i,k+1,h=>by
  simp only[List.take_succ_cons,bn]
  rw[qX r _ k (by simpa using h)]
  simp
theorem JI {s:Sg} {b:List Int} (hb:oM b) {y w:Int} {d k:Nat} (i:Nat) (h1:1≤w) (h2:w+(d+2:Nat)≤8) (h3:d+2≤3) (hy:4≤y%14) (hy0:0≤y) (hk:k<(iU y w).length):1≤(iU y w).getD k 0∧(iU y w).getD k 0+(d+1:Nat)≤8∧i≤(bn (am s b (d+1)) ((iU y w).take k) i).2∧(bn (am s b (d+1)) ((iU y w).take k) i).2+4^(d+1)+1≤i+4^(d+2):=by
 obtain⟨o1,o2,o3,o4,o5⟩:=FH hy hy0 h1 (by omega:w≤8)
 have hm:(iU y w).getD k 0∈iU y w:=by
  rw[List.getD,NM hk];exact Pq hk
 have hv:=o4 _ hm
 have hps:=t8 (t:=am s b (d+1)) (n:=4^(d+1)) ((iU y w).take k) i (fun v hv j=>by
  have hh:=o4 v (List.mem_of_mem_take hv)
  exact(t9 hb (d+1) j v (by omega) hh.1 (by omega)).2.2)
 have hl:((iU y w).take k).length≤2:=by rw[N3];omega
 have hq:4^(d+1)*((iU y w).take k).length≤4^(d+1)*2:=PM _ hl
 have hp:1≤4^(d+1):=Nat.one_le_pow _ _ (by omega)
 have hpow:4^(d+2)=4*4^(d+1):=by rw[Nat.pow_succ];omega
 exact⟨hv.1,by omega,hps.1,by omega⟩
theorem NA {x:Int} {n:Nat} (h:¬(n:Int)=0):IX (x%(n:Int)) (n:Int):=⟨Pm x h,Pg x (by omega)⟩
def tab {α:Type} (f:Nat→α) (n:Nat):List α:=(List.range n).map f
theorem ud {α:Type} (f:Nat→α) (n:Nat):tab f (n+1)=tab f n++[f n]:=by simp[tab,List.range_succ]
theorem ax {α:Type} (f:Nat→α) (n:Nat):(tab f n).length=n:=by simp[tab]
theorem aI {α:Type} {f:Nat→α} {n i:Nat} {d:α} (h:i<n):(tab f n).getD i d=f i:=by
 simp[tab,List.getD,NM,h]
theorem HI {α:Type} {f:Nat→α} {n i:Nat} {d:α} (h:n≤i):(tab f n).getD i d=d:=by
 rw[List.getD,OL (by rw[ax];exact h)];rfl
theorem mG {α:Type} {f g:Nat→α} {n:Nat} (h:∀i,i<n→f i=g i):tab f n=tab g n:=by
 unfold tab
 exact Pz (fun a ha=>h a (OJ.1 ha))
theorem FP {α:Type} {l:List α} {d:α}:l=tab (fun i=>l.getD i d) l.length:=by
 apply Pj
 ·rw[ax]
 ·intro i h1 h2;simp[tab,List.getD,NM h1]
theorem gq {α:Type} {a b:List α} {d:α} (hl:a.length=b.length) (h:∀i,i<a.length→a.getD i d=b.getD i d):a=b:=by
 apply Pj hl
 intro i h1 h2
 have:=h i h1
 simpa[List.getD,NM h1,NM h2]using this
theorem Cx {α β:Type} {l:List α} {d:α} (f:α→β):l.map f=tab (fun i=>f (l.getD i d)) l.length:=by
 apply Pj
 ·simp[ax]
 ·intro i h1 h2;rw[N1]at h1;simp[tab,List.getD,NM h1]
theorem HJ {α:Type} {f:Nat→α} {l:List α} {k:Nat} (hk:k<l.length):(tab f k++l.drop k).set k (f k)=tab f (k+1)++l.drop (k+1):=by
 rw[List.set_append_right _ _ (by rw[ax];omega),ax,Nat.sub_self,ud,OE]
 congr 1
 rw[List.drop_eq_getElem_cons hk];rfl
theorem FQ {α:Type} {f:Nat→α} {l:List α} {k:Nat} (hk:l.length≤k):tab f k++l.drop k=tab f k:=by rw[List.drop_eq_nil_of_le hk,Om]
theorem be {α:Type} {l:List α} {i j:Nat} {x d:α} (h:i<l.length):(l.set i x).getD j d=if i=j then x else l.getD j d:=by
 simp only[List.getD,P0]
 split
 ·rename_i e;subst e;simp[h]
 ·rfl
def dC (f:Nat→Bool):Nat→Bool
 | 0=>true
 | n+1=>dC f n&&f n
theorem b7 {f:Nat→Bool}:∀{n:Nat},dC f n=true↔∀i,i<n→f i=true
 | 0=>⟨fun _ i hi=>absurd hi (Po _),fun _=>rfl⟩
 | n+1=>by
  rw[dC,NK,b7]
  constructor
  ·rintro⟨h1,h2⟩ i hi
   rcases Nat.lt_or_ge i n with h | h
   ·exact h1 i h
   ·rw[show i=n by omega];exact h2
  ·intro h;exact⟨fun i hi=>h i (by omega),h n (by omega)⟩
theorem iV {f:Nat→Bool} {n i:Nat} (hi:i<n) (h:f i=false):dC f n=false:=by
 cases hh:dC f n
 ·rfl
 ·rw[b7.1 hh i hi]at h;cases h
def jZ (p:Pr) (s:Ps) (data:List Int) (e:Ex):Bool:=decide ((bC p s data e).1=1)
def ue (p:Pr):List Int:=List.replicate p.I.length 0
abbrev lI (p:Pr) (i:Nat):Tk:=p.I.getD i aD
abbrev rT (p:Pr) (i:Nat):Pt:=p.NG.getD i an
abbrev DW (p:Pr) (i:Nat):Rg:=p.NI.getD i bU
abbrev kJ (p:Pr) (i:Nat):Mm:=p.NH.getD i a6
def pN (p:Pr) (s:Ps) (hs:List Hd) (i:Nat):Int:=if jZ p s (ue p) (lI p i).when=true∧(hs.getD i aj).has=true then (hs.getD i aj).v else 0
def iG (p:Pr) (s:Ps) (hs:List Hd):List Int:=tab (pN p s hs) p.I.length
def yZ (p:Pr) (s:Ps) (data:List Int) (i:Nat):List Int :=
 if jZ p s data (kJ p i).enable=true then (s.NH.getD i []).set (Int.tmod (bC p s data (kJ p i).addr).1 (kJ p i).NJ).toNat (bC p s data (kJ p i).data).1 else s.NH.getD i []
def eB (p:Pr) (s:Ps) (data:List Int):Ps:=⟨tab (fun i=>(bC p s data (DW p i).next).1) p.NI.length,tab (yZ p s data) p.NH.length⟩
def j5 (p:Pr) (s:Ps) (hs:List Hd) (i:Nat):Bool:=(hs.getD i aj).has||!jZ p s (iG p s hs) (lI p i).when
def nu (p:Pr) (s:Ps) (hs:List Hd) (rs:List Bool) (i:Nat):Bool:=rs.getD i false||!jZ p s (iG p s hs) (rT p i).when
def gF (p:Pr) (s:Ps) (hs:List Hd) (rs:List Bool):Bool:=dC (j5 p s hs) p.I.length&&dC (nu p s hs rs) p.NG.length
def oO (p:Pr) (s:Ps) (hs:List Hd) (i:Nat):Bool:=jZ p s (iG p s hs) (lI p i).when
def nx (p:Pr) (s:Ps) (hs:List Hd) (i:Nat):Hd:=if jZ p s (iG p s hs) (rT p i).when=true then ⟨true,(bC p s (iG p s hs) (rT p i).data).1⟩else aj
def aR (p:Pr) (s:Ps) (hs:List Hd) (rs:List Bool):Fi :=
 if gF p s hs rs=true then ⟨true,eB p s (iG p s hs),tab (oO p s hs) p.I.length,tab (nx p s hs) p.NG.length⟩
 else ⟨false,s,List.replicate p.I.length false,List.replicate p.NG.length aj⟩
def aQ (p:Pr):Ps:=⟨p.NI.map (·.init),p.NH.map (fun m=>List.replicate m.NJ.toNat 0)⟩
def cy (v w:Int):Bool:=decide (0≤v)&&decide (v≤ao w)
theorem y3 {v w:Int}:cy v w=true↔dk v w:=by simp[cy,dk]
def it (p:Pr) (s:Ps) (i:Nat):Bool:=decide (((s.NH.getD i []).length:Int)=(kJ p i).NJ)&&dC (fun j=>cy ((s.NH.getD i []).getD j 0) (kJ p i).w) (s.NH.getD i []).length
def cf (p:Pr) (s:Ps):Bool:=decide (s.NI.length=p.NI.length)&&decide (s.NH.length=p.NH.length)&&dC (fun i=>cy (s.NI.getD i 0) (DW p i).w) s.NI.length&&dC (it p s) s.NH.length
def pO (p:Pr):Sc:=⟨p.NI.map (·.w),p.NH.map (·.w),p.I.map (·.w)⟩
def M1 (p:Pr):Sc:=⟨p.NI.map (·.w),p.NH.map (·.w),[]⟩
structure gt (p:Pr):Prop where
 rl:p.NI.length≤100
 ml:p.NH.length≤100
 tl:p.I.length≤100
 pl:p.NG.length≤100
 rw:∀i,i<p.NI.length→aB (DW p i).w=true∧dk (DW p i).init (DW p i).w∧eT (pO p) (DW p i).next=some (DW p i).w∧fP (DW p i).next≤3
 mw:∀i,i<p.NH.length→aB (kJ p i).w=true∧(1≤(kJ p i).NJ∧(kJ p i).NJ≤4)∧(eT (pO p) (kJ p i).enable=some 1∧fP (kJ p i).enable≤3)∧((∃v,eT (pO p) (kJ p i).addr=some v)∧fP (kJ p i).addr≤3)∧eT (pO p) (kJ p i).data=some (kJ p i).w∧fP (kJ p i).data≤3
 tw:∀i,i<p.I.length→aB (lI p i).w=true∧eT (M1 p) (lI p i).when=some 1∧fP (lI p i).when≤3
 pw:∀i,i<p.NG.length→aB (rT p i).w=true∧(eT (pO p) (rT p i).when=some 1∧fP (rT p i).when≤3)∧eT (pO p) (rT p i).data=some (rT p i).w∧fP (rT p i).data≤3
structure pP (p:Pr) (s:Ps):Prop where
 rl:s.NI.length=p.NI.length
 rv:∀i,i<p.NI.length→dk (s.NI.getD i 0) (DW p i).w
 ml:s.NH.length=p.NH.length
 mn:∀i,i<p.NH.length→((s.NH.getD i []).length:Int)=(kJ p i).NJ
 mv:∀i,i<p.NH.length→∀j,j<(s.NH.getD i []).length→dk ((s.NH.getD i []).getD j 0) (kJ p i).w
structure AR (p:Pr) (d:List Int):Prop where
 l:d.length=p.I.length
 v:∀i,i<p.I.length→dk (d.getD i 0) (lI p i).w
structure AU (p:Pr) (hs:List Hd):Prop where
 l:hs.length=p.I.length
 v:∀i,i<p.I.length→(hs.getD i aj).has=true→dk (hs.getD i aj).v (lI p i).w
theorem DX {p:Pr} {s:Ps}:cf p s=true↔pP p s:=by
 unfold cf it
 simp only[NK,OO,b7,y3]
 constructor
 ·rintro⟨⟨⟨h1,h2⟩,h3⟩,h4⟩
  exact⟨h1,fun i hi=>h3 i (by omega),h2,fun i hi=>(h4 i (by omega)).1,fun i hi=>(h4 i (by omega)).2⟩
 ·intro h
  exact⟨⟨⟨h.rl,h.ml⟩,fun i hi=>h.rv i (by have:=h.rl;omega)⟩,fun i hi=>⟨h.mn i (by have:=h.ml;omega),h.mv i (by have:=h.ml;omega)⟩⟩
set_option maxHeartbeats 1600000 in
theorem lJ {p:Pr} {s:Ps} {d:List Int} (hp:gt p) (hs:pP p s) (hd:AR p d):xz (pO p) p s d where
 prl:=by simp[pO]
 prw:=fun i hi=>by
  have Ri:i<p.NI.length:=by simpa[pO]using hi
  show(p.NI.getD i bU).w=(p.NI.map (·.w)).getD i 0
  rw[cS (·.w) p.NI i bU 0 Ri]
 pml:=by simp[pO]
 pmw:=fun i hi=>by
  have Ri:i<p.NH.length:=by simpa[pO]using hi
  show(p.NH.getD i a6).w=(p.NH.map (·.w)).getD i 0
  rw[cS (·.w) p.NH i a6 0 Ri]
 ptl:=by simp[pO]
 ptw:=fun i hi=>by
  have Ri:i<p.I.length:=by simpa[pO]using hi
  show(p.I.getD i aD).w=(p.I.map (·.w)).getD i 0
  rw[cS (·.w) p.I i aD 0 Ri]
 srl:=(hs.rl).trans (by simp[pO])
 srv:=fun i hi=>by
  have Ri:i<p.NI.length:=by simpa[pO]using hi
  show dk _ ((p.NI.map (·.w)).getD i 0)
  rw[cS (·.w) p.NI i bU 0 Ri]
  exact hs.rv i Ri
 sml:=(hs.ml).trans (by simp[pO])
 smn:=fun i hi=>by
  have Ri:i<p.NH.length:=by simpa[pO]using hi
  have:=hs.mn i Ri
  have:=(hp.mw i Ri).2.1
  omega
 smv:=fun i hi j hj=>by
  have Ri:i<p.NH.length:=by simpa[pO]using hi
  show dk _ ((p.NH.map (·.w)).getD i 0)
  rw[cS (·.w) p.NH i a6 0 Ri]
  exact hs.mv i Ri j hj
 dl:=(hd.l).trans (by simp[pO])
 dv:=fun i hi=>by
  have Ri:i<p.I.length:=by simpa[pO]using hi
  show dk _ ((p.I.map (·.w)).getD i 0)
  rw[cS (·.w) p.I i aD 0 Ri]
  exact hd.v i Ri
 rok:=fun i hi=>by
  have Ri:i<p.NI.length:=by simpa[pO]using hi
  show aB ((p.NI.map (·.w)).getD i 0)=true
  rw[cS (·.w) p.NI i bU 0 Ri]
  exact(hp.rw i Ri).1
 mok:=fun i hi=>by
  have Ri:i<p.NH.length:=by simpa[pO]using hi
  show aB ((p.NH.map (·.w)).getD i 0)=true
  rw[cS (·.w) p.NH i a6 0 Ri]
  exact(hp.mw i Ri).1
 tok:=fun i hi=>by
  have Ri:i<p.I.length:=by simpa[pO]using hi
  show aB ((p.I.map (·.w)).getD i 0)=true
  rw[cS (·.w) p.I i aD 0 Ri]
  exact(hp.tw i Ri).1
theorem HK {c:Sc} {p:Pr} {s:Ps} (d d':List Int):∀(n:Nat) (e:Ex) (w:Int),fP e≤n→eT ⟨c.rw,c.mw,[]⟩ e=some w→eT c e=some w∧bC p s d e=bC p s d' e:=by
 intro n
 induction n with
 | zero=>intro e w hd;cases e with | mk op name k w args=>rw[fP]at hd;omega
 | succ n ih =>
  intro e w hd hty
  obtain⟨ws,hws,hc⟩:=ip hty
  obtain⟨hl,QN⟩:=mC hws
  have hargs:∀i,i<e.args.length→eT c (e.args.getD i dE)=some (ws.getD i 0)∧bC p s d (e.args.getD i dE)=bC p s d' (e.args.getD i dE):=fun i hi=>ih _ _ (by have:=Co hi;omega) (QN i hi)
  have hL:∀(l:List Ex) (ws:List Int),ws.length=l.length→(∀i,i<l.length→eT c (l.getD i dE)=some (ws.getD i 0))→eT.tyL c l=some ws:=by
   intro l
   induction l with
   | nil=>intro ws h _;cases ws with | nil=>rfl | cons a r=>cases h
   | cons a r ihr =>
    intro ws h hh
    cases ws with
    | nil=>cases h
    | cons w0 wr =>
     have h0:eT c a=some w0:=hh 0 (by simp)
     have h1:=ihr wr (by simpa using h) (fun i hi=>hh (i+1) (by simpa using hi))
     rw[eT.tyL,h0,h1]
  have T3:e.args.map (bC p s d)=e.args.map (bC p s d'):=by
   apply Pz
   intro a ha
   obtain⟨i,hi,rfl⟩:=List.mem_iff_getElem.1 ha
   have:=(hargs i hi).2
   simpa[List.getD,NM hi]using this
  have hws':=hL e.args ws hl (fun i hi=>(hargs i hi).1)
  refine⟨?_,?_⟩
  ·cases e with
   | mk op name k w0 args =>
    rw[eT,hws']
    simp only at hc ⊢
    rcases hc with ⟨h1,h2,h3,h4,rfl⟩ | ⟨h1,h2,h3,h4,rfl⟩ | ⟨h1,h2,h3,h4,rfl⟩ | ⟨h1,h2,h2',h3,rfl⟩
    ·rw[NT h1,NT ⟨h2,h3,h4⟩]
    ·exact absurd h4 (by simp;omega)
    ·rw[NQ (by omega),NQ (by omega),NT h1,NT ⟨h2,h3,h4⟩]
    ·rw[NQ h1,NQ h2',NQ h2,NT h3]
  ·rw[oL,oL p s d',T3]
   have h18:e.op≠18:=by
    rcases hc with ⟨h1,h2,h3,h4,rfl⟩ | ⟨h1,h2,h3,h4,rfl⟩ | ⟨h1,h2,h3,h4,rfl⟩ | ⟨h1,h2,h2',h3,rfl⟩
    ·omega
    ·exact absurd h4 (by simp;omega)
    ·omega
    ·exact h2'
   rw[NQ h18,NQ h18]
theorem hD {p:Pr} {s:Ps} (hp:gt p) {i:Nat} (hi:i<p.I.length) (d d':List Int):jZ p s d (lI p i).when=jZ p s d' (lI p i).when∧eT (pO p) (lI p i).when=some 1:=by
 obtain⟨h1,h2,h3⟩:=hp.tw i hi
 have h:=HK (c:=pO p) (p:=p) (s:=s) d d' 3 _ 1 h3 h2
 exact⟨by unfold jZ;rw[h.2],h.1⟩
theorem oP {w:Int} (h:aB w=true):dk 0 w:=by
 have:=bf.1 h
 exact⟨by omega,(aC (by omega) (by omega)).1⟩
theorem Ll {p:Pr} (hp:gt p):AR p (ue p) where
 l:=by simp[ue]
 v:=fun i hi=>by
  have e:(ue p).getD i 0=0:=by simp[ue,List.getD,OW];split<;>rfl
  rw[e];exact oP (hp.tw i hi).1
theorem AV {p:Pr} {s:Ps} {hs:List Hd} (hp:gt p) (hh:AU p hs):AR p (iG p s hs) where
 l:=by rw[iG,ax]
 v:=fun i hi=>by
  rw[iG,aI hi,pN]
  split
  ·rename_i h;exact hh.v i hi h.2
  ·exact oP (hp.tw i hi).1
theorem dQ (p:Pr) (s:Ps) (hs:List Hd) (rs:List Bool):(aR p s hs rs).fires=gF p s hs rs:=by
 unfold aR;split<;>simp_all
theorem nU (p:Pr) (s:Ps) (hs:List Hd) (rs:List Bool):(aR p s hs rs).pops.length=p.I.length:=by
 unfold aR;split<;>simp[ax]
theorem nW (p:Pr) (s:Ps) (hs:List Hd) (rs:List Bool):(aR p s hs rs).NG.length=p.NG.length:=by
 unfold aR;split<;>simp[ax]
theorem xB {p:Pr} {s:Ps} {d:List Int} {e:Ex} {w:Int} (ho:xz (pO p) p s d) (h:eT (pO p) e=some w) (hd:fP e≤3):(bC p s d e).2=w∧dk (bC p s d e).1 w∧aB w=true:=IM ho 3 e w hd h
theorem HL {p:Pr} {s:Ps} {d:List Int} (hp:gt p) (hs:pP p s) (hd:AR p d):pP p (eB p s d) where
 rl:=by rw[eB];simp[ax]
 rv:=fun i hi=>by
  rw[eB];simp only;rw[aI hi]
  have h:=hp.rw i hi
  exact(xB (lJ hp hs hd) h.2.2.1 h.2.2.2).2.1
 ml:=by rw[eB];simp[ax]
 mn:=fun i hi=>by
  rw[eB];simp only;rw[aI hi,yZ]
  split
  ·rw[Ok];exact hs.mn i hi
  ·exact hs.mn i hi
 mv:=fun i hi j hj=>by
  rw[eB]at hj ⊢;simp only at hj ⊢;rw[aI hi,yZ]at hj ⊢
  have h:=hp.mw i hi
  split at hj
  ·rename_i he
   rw[NT he]
   rw[Ok]at hj
   by_cases hm:(Int.tmod (bC p s d (kJ p i).addr).1 (kJ p i).NJ).toNat<(s.NH.getD i []).length
   ·rw[be hm]
    split
    ·exact(xB (lJ hp hs hd) h.2.2.2.2.1 h.2.2.2.2.2).2.1
    ·exact hs.mv i hi j hj
   ·rw[List.set_eq_of_length_le (by omega)]
    exact hs.mv i hi j hj
  ·rename_i he
   rw[NQ he]
   exact hs.mv i hi j hj
theorem nX {p:Pr} {s:Ps} {hs:List Hd} {rs:List Bool} (hp:gt p) (VH:pP p s) (hh:AU p hs):pP p (aR p s hs rs).s:=by
 unfold aR
 split
 ·exact HL hp VH (AV hp hh)
 ·exact VH
theorem pQ {p:Pr} {s:Ps} {hs:List Hd} {rs:List Bool} (hp:gt p) (VH:pP p s) (hh:AU p hs) {i:Nat} (hi:i<p.NG.length) (SN:((aR p s hs rs).NG.getD i aj).has=true):dk ((aR p s hs rs).NG.getD i aj).v (rT p i).w:=by
 unfold aR at SN ⊢
 split
 ·rename_i hf
  rw[NT hf]at SN
  simp only at SN ⊢
  rw[aI hi]at SN ⊢
  unfold nx at SN ⊢
  split
  ·have h:=hp.pw i hi
   exact(xB (lJ hp VH (AV hp hh)) h.2.2.1 h.2.2.2).2.1
  ·rename_i hn;rw[NQ hn]at SN;cases SN
 ·rename_i hf
  rw[NQ hf]at SN
  simp[List.getD,OW,hi]at SN
structure Ch where
 name:ByteArray
 w:Int
 cap:Int
 frm:Int
 dst:Int
abbrev bx:Ch:=⟨e0,0,0,0,0⟩
structure Ci where
 U:List Pr
 J:List Ch
structure Ns where
 U:List Ps
 J:List (List Int)
def js (c:Ch):List V:=[.str c.name,.int .i64 c.w,.int .i64 c.cap,.int .i64 c.frm,.int .i64 c.dst]
abbrev aJ (c:Ci) (i:Nat):Pr:=c.U.getD i aa
abbrev b9 (c:Ci) (n:Nat):Ch:=c.J.getD n bx
abbrev cj (p:Pr) (j:Nat):Nat:=(lI p j).chan.toNat
abbrev ep (p:Pr) (j:Nat):Nat:=(rT p j).chan.toNat
structure bE (c:Ci):Prop where
 n1:1≤c.U.length
 nl:c.U.length≤100
 cl:c.J.length≤100
 pr:∀i,i<c.U.length→gt (aJ c i)
 tk:∀i,i<c.U.length→∀j,j<(aJ c i).I.length→0≤(lI (aJ c i) j).chan∧(lI (aJ c i) j).chan<c.J.length∧(b9 c (cj (aJ c i) j)).w=(lI (aJ c i) j).w∧(b9 c (cj (aJ c i) j)).dst=i
 pt:∀i,i<c.U.length→∀j,j<(aJ c i).NG.length→0≤(rT (aJ c i) j).chan∧(rT (aJ c i) j).chan<c.J.length∧(b9 c (ep (aJ c i) j)).w=(rT (aJ c i) j).w∧(b9 c (ep (aJ c i) j)).frm=i
 td:∀i,i<c.U.length→∀j k,j<(aJ c i).I.length→k<(aJ c i).I.length→cj (aJ c i) j=cj (aJ c i) k→j=k
 pd:∀i,i<c.U.length→∀j k,j<(aJ c i).NG.length→k<(aJ c i).NG.length→ep (aJ c i) j=ep (aJ c i) k→j=k
 cw:∀n,n<c.J.length→aB (b9 c n).w=true
 cp:∀n,n<c.J.length→0≤(b9 c n).cap
def iW (l:List Int) (w:Int):Bool:=dC (fun i=>cy (l.getD i 0) w) l.length
theorem y7 {l:List Int} {w:Int}:iW l w=true↔∀i,i<l.length→dk (l.getD i 0) w:=by
 unfold iW
 simp only[b7,y3]
def nZ (p:Pr) (f:Fi):Nat→List Nat
 | 0=>[]
 | k+1=>nZ p f k++(if f.pops.getD k false=true then [cj p k]else [])
def pW (p:Pr) (f:Fi):Nat→List (Nat×Int)
 | 0=>[]
 | k+1=>pW p f k++(if (f.NG.getD k aj).has=true then [(ep p k,(f.NG.getD k aj).v)]else [])
def d8 (l:List (List Int)) (ev:List (Nat×Int)):List (List Int):=ev.foldl (fun l e=>l.set e.1 (l.getD e.1 []++[e.2])) l
theorem gU {p:Pr} {f:Fi} {n:Nat}:∀{k:Nat},n∈nZ p f k→∃j,j<k∧f.pops.getD j false=true∧cj p j=n
 | 0,h=>by cases h
 | k+1,h=>by
  rw[nZ,OZ]at h
  rcases h with h | h
  ·obtain⟨j,h1,h2⟩:=gU h;exact⟨j,by omega,h2⟩
  ·split at h
   ·rename_i hh;simp only[O7]at h;exact⟨k,by omega,hh,h.symm⟩
   ·cases h
theorem FT {p:Pr} {f:Fi} {j:Nat} (hj:f.pops.getD j false=true):∀{k:Nat},j<k→cj p j∈nZ p f k
 | 0,h=>absurd h (Po _)
 | k+1,h=>by
  rw[nZ,OZ]
  by_cases e:j=k
  ·subst e;rw[NT hj];exact .inr (by simp)
  ·exact .inl (FT hj (by omega))
theorem pX {p:Pr} {f:Fi} {e:Nat×Int}:∀{k:Nat},e∈pW p f k→∃j,j<k∧(f.NG.getD j aj).has=true∧ep p j=e.1∧(f.NG.getD j aj).v=e.2
 | 0,h=>by cases h
 | k+1,h=>by
  rw[pW,OZ]at h
  rcases h with h | h
  ·obtain⟨j,h1,h2⟩:=pX h;exact⟨j,by omega,h2⟩
  ·split at h
   ·rename_i hh;simp only[O7]at h;subst h;exact⟨k,by omega,hh,rfl,rfl⟩
   ·cases h
theorem lL (ev:List (Nat×Int)):∀(l:List (List Int)),(d8 l ev).length=l.length:=by
 induction ev with
 | nil=>intro l;rfl
 | cons n r ih=>intro l;show(d8 _ r).length=_;rw[ih];simp
theorem xD (l:List (List Int)) (ev:List (Nat×Int)) (n:Nat) (v:Int):d8 l (ev++[(n,v)])=(d8 l ev).set n ((d8 l ev).getD n []++[v]):=by simp[d8,List.foldl_append]
theorem rX (ev:List (Nat×Int)):∀(l:List (List Int)) (n:Nat),n<l.length→(d8 l ev).getD n []=l.getD n []++(ev.filter (fun e=>e.1==n)).map (·.2):=by
 induction ev with
 | nil=>intro l n hn;simp[d8]
 | cons m r ih =>
  intro l n hn
  show(d8 (l.set m.1 _) r).getD n []=_
  rw[ih _ n (by simpa using hn)]
  by_cases e:m.1=n
  ·subst e
   rw[be hn,NT rfl]
   simp
  ·by_cases hm:m.1<l.length
   ·rw[be hm,NQ e];simp[e]
   ·rw[List.set_eq_of_length_le (by omega)];simp[e]
section
variable {c:Ci} {s:Ns} {w:Nat→Bool}
theorem CF (hc:bE c) {p n:Nat} (hp:p<c.U.length) {f:Fi} {k:Nat} (hk:k≤(aJ c p).I.length) (h:n∈nZ (aJ c p) f k):n<c.J.length∧(b9 c n).dst=p:=by
 obtain⟨j,h1,h2,rfl⟩:=gU h
 obtain⟨k1,k2,k3,k4⟩:=hc.tk p hp j (by omega)
 exact⟨by show(lI (aJ c p) j).chan.toNat<_;omega,k4⟩
theorem HR (hc:bE c) {p:Nat} {e:Nat×Int} (hp:p<c.U.length) {f:Fi} {k:Nat} (hk:k≤(aJ c p).NG.length) (h:e∈pW (aJ c p) f k):e.1<c.J.length∧(b9 c e.1).frm=p:=by
 obtain⟨j,h1,h2,h3,h4⟩:=pX h
 obtain⟨k1,k2,k3,k4⟩:=hc.pt p hp j (by omega)
 rw[← h3]
 exact⟨by show(rT (aJ c p) j).chan.toNat<_;omega,k4⟩
theorem qZ (hc:bE c) {p:Nat} (n:Nat) (hp:p<c.U.length) {f:Fi}:∀{k:Nat},k≤(aJ c p).I.length→(nZ (aJ c p) f k).count n=if n∈nZ (aJ c p) f k then 1 else 0
 | 0,_=>by simp[nZ]
 | k+1,hk=>by
  have ih:=qZ hc n hp (f:=f) (k:=k) (by omega)
  rw[nZ,List.count_append,ih]
  by_cases h1:f.pops.getD k false=true
  ·rw[NT h1]
   by_cases e:cj (aJ c p) k=n
   ·have:n∉nZ (aJ c p) f k:=by
     intro hm
     obtain⟨j,g1,g2,g3⟩:=gU hm
     have:=hc.td p hp j k (by omega) (by omega) (by rw[g3,e])
     omega
    rw[NQ this,e,List.count_singleton_self,NT (OK _ (O7.2 rfl))]
   ·have e3:([cj (aJ c p) k]).count n=0:=List.count_eq_zero.2 (by rw[O7];exact fun h=>e h.symm)
    rw[e3,Ph]
    by_cases hm:n∈nZ (aJ c p) f k
    ·rw[NT hm,NT (OS _ hm)]
    ·rw[NQ hm,NQ]
     intro h
     rcases OZ.1 h with h | h
     ·exact hm h
     ·exact e (O7.1 h).symm
  ·rw[NQ h1,Om];rfl
end
section
variable {p:Pr} {s:Ps} {hs hs':List Hd} {rs rs':List Bool}
theorem mM:gF p s hs rs=true↔(∀j,j<p.I.length→j5 p s hs j=true)∧∀j,j<p.NG.length→nu p s hs rs j=true:=by
 unfold gF
 rw[NK,b7,b7]
theorem pY (h:gF p s hs rs=true):aR p s hs rs=⟨true,eB p s (iG p s hs),tab (oO p s hs) p.I.length,tab (nx p s hs) p.NG.length⟩:=NT h
theorem wo (hp:gt p) (h:gF p s hs rs=true) (h1:∀j,j<p.I.length→(hs.getD j aj).has=true→hs'.getD j aj=hs.getD j aj)
  (h2:∀j,j<p.NG.length→rs.getD j false=true→rs'.getD j false=true):aR p s hs' rs'=aR p s hs rs:=by
 obtain⟨ht,hr⟩:=mM.1 h
 have Sh:iG p s hs'=iG p s hs:=by
  unfold iG
  refine mG (fun j hj=>?_)
  unfold pN
  by_cases hd:jZ p s (ue p) (lI p j).when=true
  ·have hh:=ht j hj
   unfold j5 at hh
   have hdue:jZ p s (iG p s hs) (lI p j).when=true:=by rw[← hd];exact(hD hp hj _ _).1
   have SN:(hs.getD j aj).has=true:=by rw[hdue]at hh;simpa using hh
   rw[h1 j hj SN]
  ·rw[NQ (by rintro⟨a,_⟩;exact hd a),NQ (by rintro⟨a,_⟩;exact hd a)]
 have hf:gF p s hs' rs'=true:=by
  rw[mM]
  refine⟨fun j hj=>?_,fun j hj=>?_⟩
  ·have hh:=ht j hj
   unfold j5 at hh ⊢
   rw[Sh]
   rw[Oq]at hh ⊢
   rcases hh with hh | hh
   ·left;rw[h1 j hj hh];exact hh
   ·exact .inr hh
  ·have hh:=hr j hj
   unfold nu at hh ⊢
   rw[Sh]
   rw[Oq]at hh ⊢
   rcases hh with hh | hh
   ·exact .inl (h2 j hj hh)
   ·exact .inr hh
 rw[pY hf,pY h]
 have e1:oO p s hs'=oO p s hs:=by funext j;unfold oO;rw[Sh]
 have e2:nx p s hs'=nx p s hs:=by funext j;unfold nx;rw[Sh]
 rw[Sh,e1,e2]
theorem sT (h:gF p s hs rs=true) {j:Nat} (hj:j<p.I.length) (QO:(aR p s hs rs).pops.getD j false=true):(hs.getD j aj).has=true:=by
 rw[pY h]at QO
 simp only at QO
 rw[aI hj]at QO
 have hh:=(mM.1 h).1 j hj
 unfold j5 at hh
 unfold oO at QO
 rw[QO]at hh
 simpa using hh
theorem FU (h:gF p s hs rs=true) {j:Nat} (hj:j<p.NG.length) (Q2:((aR p s hs rs).NG.getD j aj).has=true):rs.getD j false=true:=by
 rw[pY h]at Q2
 simp only at Q2
 rw[aI hj]at Q2
 have hh:=(mM.1 h).2 j hj
 unfold nu at hh
 unfold nx at Q2
 split at Q2
 ·rename_i hd;rw[hd]at hh;simpa using hh
 ·cases Q2
end
section
variable {c:Ci} {s:Ns} {w w':Nat→Bool}
theorem CG (hc:bE c) {p:Nat} (hp:p<c.U.length) {f:Fi} (n:Nat):∀{k:Nat},k≤(aJ c p).NG.length→((pW (aJ c p) f k).filter (fun e=>e.1==n)).length≤1
 | 0,_=>by simp[pW]
 | k+1,hk=>by
  have ih:=CG hc hp (f:=f) n (k:=k) (by omega)
  rw[pW,PC,NY]
  by_cases h1:(f.NG.getD k aj).has=true
  ·rw[NT h1]
   by_cases e:ep (aJ c p) k=n
   ·have h0:(pW (aJ c p) f k).filter (fun e=>e.1==n)=[]:=by
     rw[List.filter_eq_nil_iff]
     intro z hz hzn
     obtain⟨j,g1,g2,g3,g4⟩:=pX hz
     have h5:z.1=n:=by simpa using hzn
     have:=hc.pd p hp j k (by omega) (by omega) (by rw[g3,e,h5])
     omega
    rw[h0]
    simp only[Ot,OA]
    exact Pb (List.length_filter_le _ _) (by simp)
   ·rw[PR (by simpa using e),List.filter_nil];exact ih
  ·rw[NQ h1];exact ih
theorem lM {α:Type} {a b:List α} {i:Nat} {d:α}:(a++b).getD i d=if i<a.length then a.getD i d else b.getD (i-a.length) d:=by
 simp only[List.getD,List.getElem?_append]
 split<;>rfl
theorem wq {α:Type} {a:List α} {k i:Nat} {d:α}:(a.drop k).getD i d=a.getD (k+i) d:=by
 simp only[List.getD,O6]
theorem mN {α:Type} {l:List α} {i:Nat} {d:α} (h:i<l.length):l.getD i d∈l:=by
 simp[List.getD,NM h]
theorem wv (hc:bE c) {p j:Nat} (hp:p<c.U.length) (hj:j<(aJ c p).I.length):cj (aJ c p) j<c.J.length:=by
 have:=hc.tk p hp j hj
 show(lI (aJ c p) j).chan.toNat<_
 omega
theorem y8 (hc:bE c) {p j:Nat} (hp:p<c.U.length) (hj:j<(aJ c p).NG.length):ep (aJ c p) j<c.J.length:=by
 have:=hc.pt p hp j hj
 show(rT (aJ c p) j).chan.toNat<_
 omega
end
def eC {α:Type} (f:Nat→α) (l:List α) (i:Nat):List α:=tab f i++l.drop i
theorem jq {α:Type} {f:Nat→α} {l:List α} {i:Nat} (h:i≤l.length):(eC f l i).length=l.length:=by
 unfold eC;rw[NY,ax,N9];omega
theorem dt {α:Type} {f:Nat→α} {l:List α} {i:Nat} {v:α} (h:i<l.length) (hv:f i=v):(eC f l i).set i v=eC f l (i+1):=by
 rw[← hv];exact HJ h
theorem fQ {α:Type} {f:Nat→α} {l:List α} {i:Nat} {d:α} (h:i<l.length) (hv:f i=l.getD i d):eC f l i=eC f l (i+1):=by
 unfold eC
 rw[ud,OE,hv]
 congr 1
 rw[List.drop_eq_getElem_cons h,List.getD,NM h];rfl
theorem fR {α:Type} {f:Nat→α} {l:List α} {i:Nat} (h:l.length≤i):eC f l i=tab f i:=FQ h
theorem y4 {α:Type} {f:Nat→α} {l:List α} {i j:Nat} {d:α}:(eC f l i).getD j d=if j<i then f j else l.getD j d:=by
 unfold eC
 by_cases h:j<i
 ·rw[NT h,List.getD,NU (by rw[ax];exact h),← List.getD,aI h]
 ·rw[NQ h,List.getD,NX (by rw[ax];omega),ax,O6,← List.getD]
  congr 1;omega
theorem mH {α:Type} {f:Nat→α} {enc:α→List V} {i:Nat} (h:i<137438953472):(tab f i).length+([f i].map enc).length≤137438953472∧(tab f i).map enc++[f i].map enc=(tab f (i+1)).map enc:=by
 refine⟨by rw[ax];simp;omega,?_⟩
 rw[ud,Ox]
theorem gu {α:Type} {n i:Nat} {a:α}:(List.replicate n a).getD i a=a:=by
 rw[List.getD,OW];split<;>rfl
section
variable {p:Pr} {s:Ps} {hs:List Hd} {rs:List Bool} {d:List Int} {i:Nat}
theorem AW:(ue p).getD i 0=0:=gu
theorem j6:(ue p).length=p.I.length:=by simp[ue]
theorem JJ (hp:gt p) (hh:AU p hs) (hi:i≤p.I.length):AR p (eC (pN p s hs) (ue p) i) where
 l:=by rw[jq (by rw[j6];exact hi),j6]
 v:=fun j hj=>by
  rw[y4]
  split
  ·have:=(AV (s:=s) hp hh).v j hj
   rw[iG,aI hj]at this
   exact this
  ·exact(Ll hp).v j hj
theorem xC {e:Ex} (h:¬(bC p s d e).1=1):jZ p s d e=false:=N5 h
theorem sS {e:Ex} (h:(bC p s d e).1=1):jZ p s d e=true:=Og h
theorem HM (hp:gt p) (hi:i<p.I.length) (h:¬(bC p s d (lI p i).when).1=1):oO p s hs i=false∧pN p s hs i=0∧j5 p s hs i=true:=by
 have h0:=xC h
 have h1:jZ p s (ue p) (lI p i).when=false:=by rw[← h0];exact(hD hp hi _ _).1
 have h2:jZ p s (iG p s hs) (lI p i).when=false:=by rw[← h0];exact(hD hp hi _ _).1
 refine⟨h2,?_,?_⟩
 ·unfold pN;rw[NQ (by rw[h1];simp)]
 ·unfold j5;rw[h2];simp
theorem pR (hp:gt p) (hi:i<p.I.length) (h:(bC p s d (lI p i).when).1=1):oO p s hs i=true∧(pN p s hs i=if (hs.getD i aj).has=true then (hs.getD i aj).v else 0)∧j5 p s hs i=(hs.getD i aj).has:=by
 have h0:=sS h
 have h1:jZ p s (ue p) (lI p i).when=true:=by rw[← h0];exact(hD hp hi _ _).1
 have h2:jZ p s (iG p s hs) (lI p i).when=true:=by rw[← h0];exact(hD hp hi _ _).1
 refine⟨h2,?_,?_⟩
 ·unfold pN;rw[h1];simp
 ·unfold j5;rw[h2];simp
theorem JK (h:¬(bC p s (iG p s hs) (rT p i).when).1=1):nx p s hs i=aj∧nu p s hs rs i=true:=by
 have h0:=xC h
 refine⟨?_,?_⟩
 ·unfold nx;rw[h0];simp
 ·unfold nu;rw[h0];simp
theorem Cy (h:(bC p s (iG p s hs) (rT p i).when).1=1):nx p s hs i=⟨true,(bC p s (iG p s hs) (rT p i).data).1⟩∧nu p s hs rs i=rs.getD i false:=by
 have h0:=sS h
 refine⟨?_,?_⟩
 ·unfold nx;rw[h0];simp
 ·unfold nu;rw[h0];simp
theorem Cz (h:gF p s hs rs=false):aR p s hs rs=⟨false,s,List.replicate p.I.length false,List.replicate p.NG.length aj⟩:=NQ (by rw[h];simp)
theorem HN (h:gF p s hs rs=true):aR p s hs rs=⟨true,eB p s (iG p s hs),tab (oO p s hs) p.I.length,tab (nx p s hs) p.NG.length⟩:=NT h
theorem wk {a b:Bool} (h1:a=dC (j5 p s hs) p.I.length) (h2:b=(a&&dC (nu p s hs rs) p.NG.length)):gF p s hs rs=b:=by
 rw[h2,h1];rfl
theorem HO (hp:gt p) (hi:i<p.I.length):eT (pO p) (lI p i).when=some 1∧fP (lI p i).when≤3:=⟨(hD (s:=cB) hp hi [] []).2,(hp.tw i hi).2.2⟩
theorem pS (p:Pr):aQ p=⟨tab (fun i=>(DW p i).init) p.NI.length,tab (fun i=>List.replicate (kJ p i).NJ.toNat 0) p.NH.length⟩:=by
 unfold aQ;rw[Cx (d:=bU),Cx (d:=a6)]
theorem FR {l:List Int} {z:List Int} (h:l.length=z.length):eC (fun j=>l.getD j 0) z z.length=l:=by
 rw[fR (NN _),← h,← FP]
end
theorem hE {p:Pr} {s:Ps} (h:¬s.NI.length=p.NI.length):cf p s=false:=by unfold cf;rw[N5 h];rfl
theorem hJ {p:Pr} {s:Ps} (h:¬s.NH.length=p.NH.length):cf p s=false:=by unfold cf;rw[N5 h];simp
theorem hT {p:Pr} {s:Ps} {i:Nat} (hi:i<s.NI.length) (h:cy (s.NI.getD i 0) (DW p i).w=false):cf p s=false:=by
 unfold cf;rw[iV hi h];simp
theorem cE {p:Pr} {s:Ps} {i:Nat} (hi:i<s.NH.length) (h:it p s i=false):cf p s=false:=by
 unfold cf;rw[iV hi h];simp
theorem mI {p:Pr} {s:Ps} {i:Nat} (h:¬((s.NH.getD i []).length:Int)=(kJ p i).NJ):it p s i=false:=by unfold it;rw[N5 h];rfl
theorem mJ {p:Pr} {s:Ps} {i j:Nat} (hj:j<(s.NH.getD i []).length) (h:cy ((s.NH.getD i []).getD j 0) (kJ p i).w=false):it p s i=false:=by
 unfold it;rw[iV hj h];simp
theorem HP {p:Pr} {s:Ps} {i:Nat} (h1:((s.NH.getD i []).length:Int)=(kJ p i).NJ) (h2:∀j,j<(s.NH.getD i []).length→cy ((s.NH.getD i []).getD j 0) (kJ p i).w=true):it p s i=true:=by
 unfold it;rw[Og h1,b7.2 h2];rfl
theorem ia {p:Pr} {s:Ps} (h1:s.NI.length=p.NI.length) (h2:s.NH.length=p.NH.length) (h3:∀i,i<s.NI.length→cy (s.NI.getD i 0) (DW p i).w=true) (h4:∀i,i<s.NH.length→it p s i=true):cf p s=true:=by
 unfold cf;rw[Og h1,Og h2,b7.2 h3,b7.2 h4];rfl
theorem CA {v w:Int} (h0:0≤v) (h1:0≤w) (h2:w≤62):(v / 2^w.toNat==0)=cy v w:=by
 have hp:=lx (n:=w.toNat) (by omega)
 unfold cy
 rw[Og h0,Pw,dr h1 h2]
 rw[Bool.eq_iff_iff,P5,OO]
 generalize (2:Int)^w.toNat=m at hp ⊢
 constructor
 ·intro h
  have h3:=Int.emod_add_mul_ediv v m
  rw[h]at h3
  have h4:=Pg v (show 0<m by omega)
  omega
 ·intro h
  exact Int.ediv_eq_zero_of_lt h0 (by omega)
theorem qY {α:Type} {a b:List α} {d:α} {k:Nat} (hl:a.length=b.length) (hk:¬k<a.length) (h:∀j,j<k→a.getD j d=b.getD j d):a=b :=
 gq (d:=d) hl (fun i hi=>h i (by omega))
theorem ba {α:Type} {f:Nat→α} {x:α} {enc:α→List V} {i:Nat} (h:i<137438953472) (hx:x=f i):(tab f i).length+([x].map enc).length≤137438953472∧(tab f i).map enc++[x].map enc=(tab f (i+1)).map enc:=by
 subst hx;exact mH h
section
variable {c:Sc} {p:Pr} {s:Ps} {hs:List Hd} {rs:List Bool} {d:List Int} {i:Nat}
theorem FS (h:jZ p s d (kJ p i).enable=true):(s.NH.getD i []).set (Int.tmod (bC p s d (kJ p i).addr).1 (kJ p i).NJ).toNat (bC p s d (kJ p i).data).1=yZ p s d i:=(NT h).symm
theorem IP (h:¬jZ p s d (kJ p i).enable=true):s.NH.getD i []=yZ p s d i:=(NQ h).symm
theorem HQ (hp:gt p) (hs:pP p s) (hd:AR p d) (hi:i<p.NH.length):0≤Int.tmod (bC p s d (kJ p i).addr).1 (kJ p i).NJ∧Int.tmod (bC p s d (kJ p i).addr).1 (kJ p i).NJ<(s.NH.getD i []).length∧(kJ p i).NJ≠0:=by
 have h:=hp.mw i hi
 obtain⟨v,hv⟩:=h.2.2.2.1.1
 have h0:=(xB (lJ hp hs hd) hv h.2.2.2.1.2).2.1.1
 have hm:=hs.mn i hi
 rw[hm]
 exact⟨Int.tmod_nonneg _ h0,Int.tmod_lt_of_pos _ (by omega),by omega⟩
theorem uj {b:Bool} (h:b=dC (j5 p s hs) i) (x:Bool) (hx:x=(b&&j5 p s hs i)):x=dC (j5 p s hs) (i+1):=by rw[hx,h];rfl
theorem AX {a b:Bool} (h:b=(a&&dC (nu p s hs rs) i)) (x:Bool) (hx:x=(b&&nu p s hs rs i)):x=(a&&dC (nu p s hs rs) (i+1)):=by rw[hx,h,dC,Bool.and_assoc]
end
def lN (f:Nat→Bool):Nat→Int
 | 0=>-1
 | n+1=>if dC (fun i=>!f i) n=true then (if f n=true then n else -1)else lN f n
theorem oQ {f:Nat→Bool} {i:Nat} (hf:f i=true) (h:∀z,z<i→f z=false):∀{n:Nat},i<n→lN f n=i
 | 0,h0=>absurd h0 (Po _)
 | n+1,h0=>by
  rw[lN]
  by_cases e:i=n
  ·subst e
   rw[NT (b7.2 (fun z hz=>by rw[h z hz];rfl)),NT hf]
  ·rw[NQ (by rw[iV (show i<n by omega) (by simp[hf])];simp),oQ hf h (by omega)]
theorem ww {f:Nat→Bool}:∀{n:Nat},(∀z,z<n→f z=false)→lN f n=-1
 | 0,_=>rfl
 | n+1,h=>by
  rw[lN,NT (b7.2 (fun z hz=>by rw[h z (by omega)];rfl)),NQ (by rw[h n (by omega)];simp)]
theorem uq {f:Nat→Bool}:∀{n:Nat},decide (0≤lN f n)=!(dC (fun i=>!f i) n)
 | 0=>rfl
 | n+1=>by
  rw[lN]
  split
  ·rename_i h1
   rw[dC,h1]
   split
   ·rename_i h2;simp[h2]
   ·rename_i h2;simp[h2]
  ·rename_i h1
   rw[uq,dC]
   simp only[P2]at h1
   rw[h1];rfl
def so (l:List Int) (w:Int):Int:=lN (fun i=>!cy (l.getD i 0) w) l.length
theorem wx {l:List Int} {w:Int}:(!decide (0≤so l w))=iW l w:=by
 unfold so iW
 rw[uq,Bool.not_not]
 exact congrArg (dC · _) (funext fun i=>by rw[Bool.not_not])
abbrev CC (c:Ct):Prop:=ap Try.prog c.f c.q' [] c.al c.r []
abbrev CK (c:Ct):Prop:=yr [] c.q' c.q'∧ap Try.prog c.f c.q' [] c.al c.r []
abbrev GC (c:Ct):Prop:=gi Try.prog c.f=true∧ap Try.prog c.f c.q' [] c.al c.r []
abbrev CO (c:Eo):Prop:=ap Try.prog c.f c.q' [] false c.r [c.B]
set_option maxRecDepth 100000
abbrev sn (n:Int):Ct:=⟨68,[(i6 n)],false,(dB (aB n))⟩
theorem dj (n:Int):CC (sn n):=by
 refine ap.vc (V:=TT 1 (CS (n≥1) (TT 2 ((True∧(decide (n≥1))=true)∧TT 5 ((decide (n≤8))=(aB n)∧True))) (TT 2 ((True∧(decide (n≥1))=false)∧TT 5 (false=(aB n)∧True))))) (.s 1 (n≥1) (.w 1 [(2,.val (dB true))]<|.e) (.w 1 [(2,.val (dB false))]<|.e)) Try.func68 rfl rfl rfl (by kernel_rfl) ?_
 refine tt ⟨fun Qe=>?_,fun Qe=>?_⟩
 · refine tt ⟨(vT Qe),tt ⟨?_,oK⟩⟩
   unfold aB;simp;omega
 · refine tt ⟨(vF Qe),tt ⟨?_,oK⟩⟩
   unfold aB;simp;omega
abbrev Hw (w:Int):Ct:=⟨60,[(i6 w)],false,(i6 (ao w))⟩
theorem sQ (w:Int):CC (Hw w):=by
 refine ap.vc (V:=TT 1 (CS (w<0) (TT 2 ((True∧(decide (w<0))=true)∧TT 5 ((0:Int)=(ao w)∧True))) (TT 2 ((True∧(decide (w<0))=false)∧TT 3 (CD (w>62) (TT 2 ((0:Int)=(ao w)∧True)) (TT 1 (SH w∧W6 ((2^w.toNat)-1)∧TT 2 (((2^w.toNat)-1)=(ao w)∧True)))))))) (.s 1 (w<0) (.w 1 [(2,.val (dB true))]<|.e) (.w 1 [(2,.val (dB false))]<|.b 8 (.e) (.w 3 [(1,.val (i6 (2^w.toNat))),(2,.val (i6 ((2^w.toNat)-1)))]<|.e))) Try.func60 rfl rfl rfl (by kernel_rfl) ?_
 refine tt ⟨fun Qe=>?_,fun Qe=>?_⟩
 · refine tt ⟨(vT Qe),tt ⟨?_,oK⟩⟩
   unfold ao;first | exact(NT (by omega)).symm | exact(NQ (by omega)).symm
 · refine tt ⟨(vF Qe),tt (cd (fun S8=>?_) (fun S8=>?_))⟩
   · refine tt ⟨?_,oK⟩
     unfold ao;first | exact(NT (by omega)).symm | exact(NQ (by omega)).symm
   · refine tt ⟨sh,⟨(w6 (by have:=lx (n:=w.toNat) (by omega);omega) (by have:=lx (n:=w.toNat) (by omega);omega)),tt ⟨?_,oK⟩⟩⟩
     unfold ao;first | exact(NT (by omega)).symm | exact(NQ (by omega)).symm
abbrev Ld (b:Bool):Ct:=⟨81,[(dB b)],false,(i6 (if b=true then 1 else 0))⟩
theorem Fs (b:Bool):CC (Ld b):=by
 refine ap.vc (V:=TT 2 (CB (b) (TT 2 ((1:Int)=(if b=true then 1 else 0)∧True)) (TT 2 ((0:Int)=(if b=true then 1 else 0)∧True)))) (.b 3 (.e) (.e)) Try.func81 rfl rfl rfl (by kernel_rfl) ?_
 refine tt ⟨fun hc3=>?_,fun hc3=>?_⟩
 · refine tt ⟨?_,oK⟩
   first | exact(NT hc3).symm | exact(NQ (by rw[hc3];simp)).symm
 · refine tt ⟨?_,oK⟩
   first | exact(NT hc3).symm | exact(NQ (by rw[hc3];simp)).symm
abbrev Mo (n:Int):Ct:=⟨67,[(i6 n)],false,(dB (!(aB n)))⟩
theorem Ft (n:Int):CC (Mo n):=by
 refine ap.vc (V:=TT 2 (CC (sn n)∧TT 3 ((!(aB n))=(!(aB n))∧True))) (.w 1 [(1,(sn n).O)]<|.e) Try.func67 rfl rfl rfl (by kernel_rfl) ?_
 exact tt ⟨(dj n),tt ⟨rfl,oK⟩⟩
abbrev Mp (ws:List Int):Ct:=⟨61,[(LI ws),(.fn (.func 67) [] [])],false,(i6 (qO 0 ws))⟩
abbrev pC (ws:List Int):Lp (Nat):=lm [0,1,7,8] 0 (fun (k:Nat)=>⟨[(0,(LI ws)),(1,(.fn (.func 67) [] [])),(7,(i6 (ws.length:Int))),(8,(i6 (k:Int)))],[]⟩) (fun (k:Nat)=>k≤ws.length∧qO k (ws.drop k)=qO 0 ws) (fun (k:Nat)=>ws.length-k)
theorem Fu (ws:List Int) (hl:ws.length≤9223372036854775807):CC (Mp ws):=by
 refine ap.vc (V:=TT 4 (GO (pC ws) 0 (∀k,(pC ws).inv k→TT 1 (CD ((k:Int)<(ws.length:Int)) (TT 5 (IX (k:Int) ws.length∧TT 1 (CC (Mo (ws.getD k 0))∧CB (!(aB (ws.getD k 0))) (TT 3 ((k:Int)=(qO 0 ws)∧True)) (W6 ((k+1:Nat):Int)∧TT 1 (AG (pC ws) k (k+1)))))) (TT 2 ((-1)=(qO 0 ws)∧True)))))) (.l (pC ws) 0 (fun k=>.b 9 (.w 4 [(5,(Mo (ws.getD k 0)).O)]<|.b 16 (.e) (.w 6 [(0,.val (i6 ((k+1:Nat):Int)))]<|.e)) (.e))) Try.func61 rfl rfl rfl (by kernel_rfl) ?_
 refine tt ⟨rfl,⟨by omega,by rw[List.drop_zero]⟩,?_⟩
 intro k L'
 obtain⟨hk,hx⟩:=L'
 refine tt (cd (fun V2=>?_) (fun V2=>?_))
 · refine tt ⟨ix,tt ⟨(Ft (ws.getD k 0)),⟨fun Ty=>?_,fun Ty=>?_⟩⟩⟩
   · refine tt ⟨?_,oK⟩
     rw[← hx,v8 (show k<ws.length by omega),NQ (by simpa using Ty)]
   · refine⟨w6,tt ⟨(k+1),rfl,?_,(?_:ws.length-(k+1)<ws.length-k)⟩⟩
     · refine⟨by omega,?_⟩
       rw[← hx,v8 (show k<ws.length by omega),NT (by simpa using Ty)]
     · omega
 · refine tt ⟨?_,oK⟩
   rw[← hx,List.drop_of_length_le (by omega)];rfl
abbrev Hx (ws:List Int):Ct:=⟨52,[(LI ws),(.fn (.func 67) [] [])],false,(dB (!(ws.all aB)))⟩
theorem iM (ws:List Int) (hl:ws.length≤9223372036854775807):CC (Hx ws):=by
 refine ap.vc (V:=TT 3 (CC (Mp ws)∧TT 3 ((decide ((qO 0 ws)≥0))=(!(ws.all aB))∧True))) (.w 1 [(2,(Mp ws).O)]<|.e) Try.func52 rfl rfl rfl (by kernel_rfl) ?_
 refine tt ⟨(Fu ws om),tt ⟨?_,oK⟩⟩
 rw[← v7 ws 0]
abbrev Nc (ws xs:List Int) (k w:Int):Ct:=⟨70,[(.agg [(LI ws),(LI xs),(i6 k),(i6 w)])],false,(i6 (ws.getD 0 0))⟩
theorem Fv (ws xs:List Int) (k w:Int) (hl:ws.length=1) (hf:ws.all aB=true):CC (Nc ws xs k w):=by
 have f0:0<ws.length→1≤ws.getD 0 0∧ws.getD 0 0≤8:=fun h=>aE hf h
 have f1:1<ws.length→1≤ws.getD 1 0∧ws.getD 1 0≤8:=fun h=>aE hf h
 have f2:2<ws.length→1≤ws.getD 2 0∧ws.getD 2 0≤8:=fun h=>aE hf h
 refine ap.vc (V:=TT 4 (IX 0 ws.length∧TT 3 ((ws.getD 0 0)=(ws.getD 0 0)∧True))) (.e) Try.func70 rfl rfl rfl (by kernel_rfl) ?_
 exact tt ⟨ix,tt ⟨rfl,oK⟩⟩
abbrev Mq (ws xs:List Int) (k w:Int):Ct:=⟨73,[(.agg [(LI ws),(LI xs),(i6 k),(i6 w)])],false,(i6 (bX ws))⟩
theorem jp (ws xs:List Int) (k w:Int) (hl:ws.length=2) (hf:ws.all aB=true):CC (Mq ws xs k w):=by
 have f0:0<ws.length→1≤ws.getD 0 0∧ws.getD 0 0≤8:=fun h=>aE hf h
 have f1:1<ws.length→1≤ws.getD 1 0∧ws.getD 1 0≤8:=fun h=>aE hf h
 have f2:2<ws.length→1≤ws.getD 2 0∧ws.getD 2 0≤8:=fun h=>aE hf h
 refine ap.vc (V:=TT 4 (IX 0 ws.length∧TT 3 (IX 1 ws.length∧TT 2 (CN ((ws.getD 0 0)=(ws.getD 1 0)) (TT 2 ((0:Int)=(bX ws)∧True)) (TT 2 (IX 0 ws.length∧TT 3 ((ws.getD 0 0)=(bX ws)∧True))))))) (.b 11 (.e) (.e)) Try.func73 rfl rfl rfl (by kernel_rfl) ?_
 refine tt ⟨ix,tt ⟨ix,tt (cn (fun RE=>?_) (fun RE=>?_))⟩⟩
 · refine tt ⟨?_,oK⟩
   first | exact(NT (by simpa using RE)).symm | exact(NQ (by simpa using RE)).symm
 · refine tt ⟨ix,tt ⟨?_,oK⟩⟩
   first | exact(NT (by simpa using RE)).symm | exact(NQ (by simpa using RE)).symm
abbrev Nd (ws xs:List Int) (k w:Int):Ct:=⟨79,[(.agg [(LI ws),(LI xs),(i6 k),(i6 w)])],false,(i6 (min (bX ws) 1))⟩
theorem Fw (ws xs:List Int) (k w:Int) (hl:ws.length=2) (hf:ws.all aB=true):CC (Nd ws xs k w):=by
 have f0:0<ws.length→1≤ws.getD 0 0∧ws.getD 0 0≤8:=fun h=>aE hf h
 have f1:1<ws.length→1≤ws.getD 1 0∧ws.getD 1 0≤8:=fun h=>aE hf h
 have f2:2<ws.length→1≤ws.getD 2 0∧ws.getD 2 0≤8:=fun h=>aE hf h
 refine ap.vc (V:=TT 3 (CC (Mq ws xs k w)∧(True∧(yk (bX ws) 1)=(min (bX ws) 1))∧TT 2 ((min (bX ws) 1)=(min (bX ws) 1)∧True))) (.w 1 [(1,(Mq ws xs k w).O),(2,.val (i6 (min (bX ws) 1)))]<|.e) Try.func79 rfl rfl rfl (by kernel_rfl) ?_
 exact tt ⟨(jp ws xs k w om hf),⟨⟨oK,(by unfold yk;split<;>omega)⟩,tt ⟨rfl,oK⟩⟩⟩
abbrev Nf (ws xs:List Int) (k w:Int):Ct:=⟨83,[(.agg [(LI ws),(LI xs),(i6 k),(i6 w)])],false,(i6 (if aB w=false∨k<0∨ao w<k then 0 else w))⟩
theorem DK (ws xs:List Int) (k w:Int) (hl:ws.length=0) (hf:ws.all aB=true):CC (Nf ws xs k w):=by
 have f0:0<ws.length→1≤ws.getD 0 0∧ws.getD 0 0≤8:=fun h=>aE hf h
 have f1:1<ws.length→1≤ws.getD 1 0∧ws.getD 1 0≤8:=fun h=>aE hf h
 have f2:2<ws.length→1≤ws.getD 2 0∧ws.getD 2 0≤8:=fun h=>aE hf h
 refine ap.vc (V:=TT 2 (CS ((aB w)=true) (CS (k<0) (TT 2 (CC (sn w)∧TT 1 ((True∧(!(aB w))=false)∧TT 4 ((True∧(decide (k<0))=true)∧TT 3 ((((0:Int)=(if aB w=false∨k<0∨ao w<k then 0 else w)))∧True))))) (TT 2 (CC (sn w)∧TT 1 ((True∧(!(aB w))=false)∧TT 4 ((True∧(decide (k<0))=false)∧TT 4 (CC (Hw w)∧TT 2 (CD (k>(ao w)) (TT 2 ((((0:Int)=(if aB w=false∨k<0∨ao w<k then 0 else w)))∧True)) (TT 4 (((w=(if aB w=false∨k<0∨ao w<k then 0 else w)))∧True))))))))) (TT 2 (CC (sn w)∧TT 1 ((True∧(!(aB w))=true)∧TT 5 ((((0:Int)=(if aB w=false∨k<0∨ao w<k then 0 else w)))∧True)))))) (.s 1 ((aB w)=true) (.s 1 (k<0) (.w 1 [(2,(sn w).O),(4,.val (dB false)),(9,.val (dB true))]<|.e) (.w 1 [(2,(sn w).O),(4,.val (dB false)),(9,.val (dB false)),(14,(Hw w).O)]<|.b 19 (.e) (.e))) (.w 1 [(2,(sn w).O),(4,.val (dB true))]<|.e)) Try.func83 rfl rfl rfl (by kernel_rfl) ?_
 refine tt ⟨fun Qe=>?_,fun Qe=>?_⟩
 · refine⟨fun Qy=>?_,fun Qy=>?_⟩
   · refine tt ⟨(dj w),tt ⟨(mF Qe),tt ⟨(vT Qy),tt ⟨?_,oK⟩⟩⟩⟩
     first | exact(NT (by first | assumption | omega)).symm | exact(NQ (by first | assumption | omega)).symm | (split<;>first | rfl | omega | (simp_all;done) | (simp_all;omega))
   · refine tt ⟨(dj w),tt ⟨(mF Qe),tt ⟨(vF Qy),tt ⟨(sQ w),tt (cd (fun hc19=>?_) (fun hc19=>?_))⟩⟩⟩⟩
     · refine tt ⟨?_,oK⟩
       first | exact(NT (by first | assumption | omega)).symm | exact(NQ (by first | assumption | omega)).symm | (split<;>first | rfl | omega | (simp_all;done) | (simp_all;omega))
     · refine tt ⟨?_,oK⟩
       first | exact(NT (by first | assumption | omega)).symm | exact(NQ (by first | assumption | omega)).symm | (split<;>first | rfl | omega | (simp_all;done) | (simp_all;omega))
 · refine tt ⟨(dj w),tt ⟨(mT Qe),tt ⟨?_,oK⟩⟩⟩
   first | exact(NT (by first | assumption | omega)).symm | exact(NQ (by first | assumption | omega)).symm | (split<;>first | rfl | omega | (simp_all;done) | (simp_all;omega))
abbrev Ng (ws xs:List Int) (k w:Int):Ct:=⟨85,[(.agg [(LI ws),(LI xs),(i6 k),(i6 w)])],false,(i6 (if ws.getD 0 0≠1∨ws.getD 1 0≠ws.getD 2 0 then 0 else ws.getD 1 0))⟩
theorem Hy (ws xs:List Int) (k w:Int) (hl:ws.length=3) (hf:ws.all aB=true):CC (Ng ws xs k w):=by
 have f0:0<ws.length→1≤ws.getD 0 0∧ws.getD 0 0≤8:=fun h=>aE hf h
 have f1:1<ws.length→1≤ws.getD 1 0∧ws.getD 1 0≤8:=fun h=>aE hf h
 have f2:2<ws.length→1≤ws.getD 2 0∧ws.getD 2 0≤8:=fun h=>aE hf h
 refine ap.vc (V:=TT 2 (CS ((ws.getD 0 0)=1) (TT 2 (IX 0 ws.length∧TT 2 ((True∧(!decide ((ws.getD 0 0)=1))=false)∧TT 2 (IX 1 ws.length∧TT 3 (IX 2 ws.length∧TT 3 (CN ((ws.getD 1 0)=(ws.getD 2 0)) (TT 2 ((((0:Int)=(if ws.getD 0 0≠1∨ws.getD 1 0≠ws.getD 2 0 then 0 else ws.getD 1 0)))∧True)) (TT 2 (IX 1 ws.length∧TT 3 ((((ws.getD 1 0)=(if ws.getD 0 0≠1∨ws.getD 1 0≠ws.getD 2 0 then 0 else ws.getD 1 0)))∧True))))))))) (TT 2 (IX 0 ws.length∧TT 2 ((True∧(!decide ((ws.getD 0 0)=1))=true)∧TT 3 ((((0:Int)=(if ws.getD 0 0≠1∨ws.getD 1 0≠ws.getD 2 0 then 0 else ws.getD 1 0)))∧True)))))) (.s 1 ((ws.getD 0 0)=1) (.w 1 [(5,.val (dB false))]<|.b 18 (.e) (.e)) (.w 1 [(5,.val (dB true))]<|.e)) Try.func85 rfl rfl rfl (by kernel_rfl) ?_
 refine tt ⟨fun Qe=>?_,fun Qe=>?_⟩
 · refine tt ⟨ix,tt ⟨(nF Qe),tt ⟨ix,tt ⟨ix,tt (cn (fun Tw=>?_) (fun Tw=>?_))⟩⟩⟩⟩
   · refine tt ⟨?_,oK⟩
     first | exact(NT (by first | assumption | omega)).symm | exact(NQ (by first | assumption | omega)).symm | (split<;>first | rfl | omega | (simp_all;done) | (simp_all;omega))
   · refine tt ⟨ix,tt ⟨?_,oK⟩⟩
     first | exact(NT (by first | assumption | omega)).symm | exact(NQ (by first | assumption | omega)).symm | (split<;>first | rfl | omega | (simp_all;done) | (simp_all;omega))
 · refine tt ⟨ix,tt ⟨(nT Qe),tt ⟨?_,oK⟩⟩⟩
   first | exact(NT (by first | assumption | omega)).symm | exact(NQ (by first | assumption | omega)).symm | (split<;>first | rfl | omega | (simp_all;done) | (simp_all;omega))
abbrev Nh (ws xs:List Int) (k w:Int):Ct:=⟨87,[(.agg [(LI ws),(LI xs),(i6 k),(i6 w)])],false,(i6 (ws.getD 0 0+ws.getD 1 0))⟩
theorem Hz (ws xs:List Int) (k w:Int) (hl:ws.length=2) (hf:ws.all aB=true):CC (Nh ws xs k w):=by
 have f0:0<ws.length→1≤ws.getD 0 0∧ws.getD 0 0≤8:=fun h=>aE hf h
 have f1:1<ws.length→1≤ws.getD 1 0∧ws.getD 1 0≤8:=fun h=>aE hf h
 have f2:2<ws.length→1≤ws.getD 2 0∧ws.getD 2 0≤8:=fun h=>aE hf h
 refine ap.vc (V:=TT 4 (IX 0 ws.length∧TT 3 (IX 1 ws.length∧TT 1 (W6 ((ws.getD 0 0)+(ws.getD 1 0))∧TT 2 (((ws.getD 0 0)+(ws.getD 1 0))=(ws.getD 0 0+ws.getD 1 0)∧True))))) (.w 1 [(8,.val (i6 ((ws.getD 0 0)+(ws.getD 1 0))))]<|.e) Try.func87 rfl rfl rfl (by kernel_rfl) ?_
 refine tt ⟨ix,tt ⟨ix,tt ⟨w6,tt ⟨?_,oK⟩⟩⟩⟩
 first | rfl | omega | (simp;first | done | omega)
abbrev Ni (ws xs:List Int) (k w:Int):Ct:=⟨89,[(.agg [(LI ws),(LI xs),(i6 k),(i6 w)])],false,(i6 (if aB w=false∨k<0∨ws.getD 0 0-w<k then 0 else w))⟩
theorem DL (ws xs:List Int) (k w:Int) (hl:ws.length=1) (hf:ws.all aB=true):CC (Ni ws xs k w):=by
 have f0:0<ws.length→1≤ws.getD 0 0∧ws.getD 0 0≤8:=fun h=>aE hf h
 have f1:1<ws.length→1≤ws.getD 1 0∧ws.getD 1 0≤8:=fun h=>aE hf h
 have f2:2<ws.length→1≤ws.getD 2 0∧ws.getD 2 0≤8:=fun h=>aE hf h
 refine ap.vc (V:=TT 2 (CS ((aB w)=true) (CS (k<0) (TT 2 (CC (sn w)∧TT 1 ((True∧(!(aB w))=false)∧TT 4 ((True∧(decide (k<0))=true)∧TT 3 ((((0:Int)=(if aB w=false∨k<0∨ws.getD 0 0-w<k then 0 else w)))∧True))))) (TT 2 (CC (sn w)∧TT 1 ((True∧(!(aB w))=false)∧TT 4 ((True∧(decide (k<0))=false)∧TT 4 (IX 0 ws.length∧TT 3 (W6 ((ws.getD 0 0)-w)∧TT 2 (CD (k>((ws.getD 0 0)-w)) (TT 2 ((((0:Int)=(if aB w=false∨k<0∨ws.getD 0 0-w<k then 0 else w)))∧True)) (TT 4 (((w=(if aB w=false∨k<0∨ws.getD 0 0-w<k then 0 else w)))∧True)))))))))) (TT 2 (CC (sn w)∧TT 1 ((True∧(!(aB w))=true)∧TT 5 ((((0:Int)=(if aB w=false∨k<0∨ws.getD 0 0-w<k then 0 else w)))∧True)))))) (.s 1 ((aB w)=true) (.s 1 (k<0) (.w 1 [(2,(sn w).O),(4,.val (dB false)),(9,.val (dB true))]<|.e) (.w 1 [(2,(sn w).O),(4,.val (dB false)),(9,.val (dB false)),(18,.val (i6 ((ws.getD 0 0)-w)))]<|.b 23 (.e) (.e))) (.w 1 [(2,(sn w).O),(4,.val (dB true))]<|.e)) Try.func89 rfl rfl rfl (by kernel_rfl) ?_
 refine tt ⟨fun Qe=>?_,fun Qe=>?_⟩
 · refine⟨fun Qy=>?_,fun Qy=>?_⟩
   · refine tt ⟨(dj w),tt ⟨(mF Qe),tt ⟨(vT Qy),tt ⟨?_,oK⟩⟩⟩⟩
     first | exact(NT (by first | assumption | omega)).symm | exact(NQ (by first | assumption | omega)).symm | (split<;>first | rfl | omega | (simp_all;done) | (simp_all;omega))
   · refine tt ⟨(dj w),tt ⟨(mF Qe),tt ⟨(vF Qy),tt ⟨ix,tt ⟨(w6 (by have:=bf.1 (show aB w=true by simp_all);omega) (by have:=bf.1 (show aB w=true by simp_all);omega)),tt (cd (fun S5=>?_) (fun S5=>?_))⟩⟩⟩⟩⟩
     · refine tt ⟨?_,oK⟩
       first | exact(NT (by first | assumption | omega)).symm | exact(NQ (by first | assumption | omega)).symm | (split<;>first | rfl | omega | (simp_all;done) | (simp_all;omega))
     · refine tt ⟨?_,oK⟩
       first | exact(NT (by first | assumption | omega)).symm | exact(NQ (by first | assumption | omega)).symm | (split<;>first | rfl | omega | (simp_all;done) | (simp_all;omega))
 · refine tt ⟨(dj w),tt ⟨(mT Qe),tt ⟨?_,oK⟩⟩⟩
   first | exact(NT (by first | assumption | omega)).symm | exact(NQ (by first | assumption | omega)).symm | (split<;>first | rfl | omega | (simp_all;done) | (simp_all;omega))
abbrev Nj (ws xs:List Int) (k w:Int):Ct:=⟨91,[(.agg [(LI ws),(LI xs),(i6 k),(i6 w)])],false,(i6 (if w<ws.getD 0 0 then 0 else w))⟩
theorem HA (ws xs:List Int) (k w:Int) (hl:ws.length=1) (hf:ws.all aB=true):CC (Nj ws xs k w):=by
 have f0:0<ws.length→1≤ws.getD 0 0∧ws.getD 0 0≤8:=fun h=>aE hf h
 have f1:1<ws.length→1≤ws.getD 1 0∧ws.getD 1 0≤8:=fun h=>aE hf h
 have f2:2<ws.length→1≤ws.getD 2 0∧ws.getD 2 0≤8:=fun h=>aE hf h
 refine ap.vc (V:=TT 6 (IX 0 ws.length∧TT 2 (CD (w<(ws.getD 0 0)) (TT 2 ((0:Int)=(if w<ws.getD 0 0 then 0 else w)∧True)) (TT 4 (w=(if w<ws.getD 0 0 then 0 else w)∧True))))) (.b 9 (.e) (.e)) Try.func91 rfl rfl rfl (by kernel_rfl) ?_
 refine tt ⟨ix,tt (cd (fun V2=>?_) (fun V2=>?_))⟩
 · refine tt ⟨?_,oK⟩
   first | exact(NT (by first | assumption | omega)).symm | exact(NQ (by first | assumption | omega)).symm | (split<;>first | rfl | omega | (simp_all;done) | (simp_all;omega))
 · refine tt ⟨?_,oK⟩
   first | exact(NT (by first | assumption | omega)).symm | exact(NQ (by first | assumption | omega)).symm | (split<;>first | rfl | omega | (simp_all;done) | (simp_all;omega))
abbrev iO (ws xs:List Int) (k w:Int):List D:=[(.agg [(LI ws),(LI xs),(i6 k),(i6 w)])]
set_option maxRecDepth 100000
structure DM (ws xs:List Int) (n:Nat):Prop where
  hl:ws.length=n
  hf:ws.all aB=true
  hx:xs.length=ws.length
  hin:DI ws xs=true
abbrev Js (ws xs:List Int) (k w:Int):Ct:=⟨72,(iO ws xs k w),false,(i6 (ao (ws.getD 0 0)))⟩
theorem t1 (ws xs:List Int) (k w:Int) (hl:0<ws.length):CC (Js ws xs k w):=by
 refine ap.vc (V:=TT 4 (IX 0 ws.length∧TT 1 (CC (Hw (ws.getD 0 0))∧TT 2 ((ao (ws.getD 0 0))=(ao (ws.getD 0 0))∧True)))) (.w 1 [(4,(Hw (ws.getD 0 0)).O)]<|.e) Try.func72 rfl rfl rfl (by kernel_rfl) ?_
 exact tt ⟨ix,tt ⟨(sQ (ws.getD 0 0)),tt ⟨rfl,oK⟩⟩⟩
abbrev Nk (ws xs:List Int) (k w:Int):Ct:=⟨71,(iO ws xs k w),false,(i6 (nr 2 ws xs k w))⟩
theorem Jt (ws xs:List Int) (k w:Int) (ho:DM ws xs 1):CC (Nk ws xs k w):=by
 obtain⟨hl,hf,hx,hin⟩:=ho
 have f0:0<ws.length→1≤ws.getD 0 0∧ws.getD 0 0≤8:=fun h=>aE hf h
 have f1:1<ws.length→1≤ws.getD 1 0∧ws.getD 1 0≤8:=fun h=>aE hf h
 have f2:2<ws.length→1≤ws.getD 2 0∧ws.getD 2 0≤8:=fun h=>aE hf h
 have a0:0<ws.length→0≤xs.getD 0 0∧xs.getD 0 0≤ao (ws.getD 0 0):=fun h=>a8 hin (by omega)
 have a1:1<ws.length→0≤xs.getD 1 0∧xs.getD 1 0≤ao (ws.getD 1 0):=fun h=>a8 hin (by omega)
 have a2:2<ws.length→0≤xs.getD 2 0∧xs.getD 2 0≤ao (ws.getD 2 0):=fun h=>a8 hin (by omega)
 have m0:0<ws.length→0≤ao (ws.getD 0 0)∧ao (ws.getD 0 0)≤255:=fun h=>aC (by have:=f0 h;omega) (f0 h).2
 have m1:1<ws.length→0≤ao (ws.getD 1 0)∧ao (ws.getD 1 0)≤255:=fun h=>aC (by have:=f1 h;omega) (f1 h).2
 have m2:2<ws.length→0≤ao (ws.getD 2 0)∧ao (ws.getD 2 0)≤255:=fun h=>aC (by have:=f2 h;omega) (f2 h).2
 have b0:=f0 (by omega);have c0:=a0 (by omega);have d0:=m0 (by omega)
 refine ap.vc (V:=TT 4 (IX 0 xs.length∧TT 2 (CC (Js ws xs k w)∧(True∧(IntKind.wrap .i64 (BitVec.ofInt (IntKind.i64).bits (xs.getD 0 0) ^^^ BitVec.ofInt (IntKind.i64).bits (ao (ws.getD 0 0))).toNat)=(((xs.getD 0 0).toNat ^^^ (ao (ws.getD 0 0)).toNat:Nat):Int))∧TT 2 ((((xs.getD 0 0).toNat ^^^ (ao (ws.getD 0 0)).toNat:Nat):Int)=(nr 2 ws xs k w)∧True)))) (.w 1 [(5,(Js ws xs k w).O),(6,.val (i6 (((xs.getD 0 0).toNat ^^^ (ao (ws.getD 0 0)).toNat:Nat):Int)))]<|.e) Try.func71 rfl rfl rfl (by kernel_rfl) ?_
 refine tt ⟨ix,tt ⟨(t1 ws xs k w om),⟨⟨oK,(v9 (by omega) (by omega) (by omega) (by omega))⟩,tt ⟨?_,oK⟩⟩⟩⟩
 rfl
abbrev Nl (ws xs:List Int) (k w:Int):Ct:=⟨74,(iO ws xs k w),false,(i6 (nr 3 ws xs k w))⟩
theorem Ju (ws xs:List Int) (k w:Int) (ho:DM ws xs 2):CC (Nl ws xs k w):=by
 obtain⟨hl,hf,hx,hin⟩:=ho
 have f0:0<ws.length→1≤ws.getD 0 0∧ws.getD 0 0≤8:=fun h=>aE hf h
 have f1:1<ws.length→1≤ws.getD 1 0∧ws.getD 1 0≤8:=fun h=>aE hf h
 have f2:2<ws.length→1≤ws.getD 2 0∧ws.getD 2 0≤8:=fun h=>aE hf h
 have a0:0<ws.length→0≤xs.getD 0 0∧xs.getD 0 0≤ao (ws.getD 0 0):=fun h=>a8 hin (by omega)
 have a1:1<ws.length→0≤xs.getD 1 0∧xs.getD 1 0≤ao (ws.getD 1 0):=fun h=>a8 hin (by omega)
 have a2:2<ws.length→0≤xs.getD 2 0∧xs.getD 2 0≤ao (ws.getD 2 0):=fun h=>a8 hin (by omega)
 have m0:0<ws.length→0≤ao (ws.getD 0 0)∧ao (ws.getD 0 0)≤255:=fun h=>aC (by have:=f0 h;omega) (f0 h).2
 have m1:1<ws.length→0≤ao (ws.getD 1 0)∧ao (ws.getD 1 0)≤255:=fun h=>aC (by have:=f1 h;omega) (f1 h).2
 have m2:2<ws.length→0≤ao (ws.getD 2 0)∧ao (ws.getD 2 0)≤255:=fun h=>aC (by have:=f2 h;omega) (f2 h).2
 have b0:=f0 (by omega);have c0:=a0 (by omega);have d0:=m0 (by omega)
 have b1:=f1 (by omega);have c1:=a1 (by omega);have d1:=m1 (by omega)
 refine ap.vc (V:=TT 4 (IX 0 xs.length∧TT 3 (IX 1 xs.length∧TT 1 ((True∧(IntKind.wrap .i64 (BitVec.ofInt (IntKind.i64).bits (xs.getD 0 0) &&& BitVec.ofInt (IntKind.i64).bits (xs.getD 1 0)).toNat)=(((xs.getD 0 0).toNat &&& (xs.getD 1 0).toNat:Nat):Int))∧TT 2 ((((xs.getD 0 0).toNat &&& (xs.getD 1 0).toNat:Nat):Int)=(nr 3 ws xs k w)∧True))))) (.w 1 [(8,.val (i6 (((xs.getD 0 0).toNat &&& (xs.getD 1 0).toNat:Nat):Int)))]<|.e) Try.func74 rfl rfl rfl (by kernel_rfl) ?_
 refine tt ⟨ix,tt ⟨ix,tt ⟨⟨oK,(DJ (by omega) (by omega) (by omega) (by omega))⟩,tt ⟨?_,oK⟩⟩⟩⟩
 rfl
abbrev Nn (ws xs:List Int) (k w:Int):Ct:=⟨75,(iO ws xs k w),false,(i6 (nr 4 ws xs k w))⟩
theorem Lf (ws xs:List Int) (k w:Int) (ho:DM ws xs 2):CC (Nn ws xs k w):=by
 obtain⟨hl,hf,hx,hin⟩:=ho
 have f0:0<ws.length→1≤ws.getD 0 0∧ws.getD 0 0≤8:=fun h=>aE hf h
 have f1:1<ws.length→1≤ws.getD 1 0∧ws.getD 1 0≤8:=fun h=>aE hf h
 have f2:2<ws.length→1≤ws.getD 2 0∧ws.getD 2 0≤8:=fun h=>aE hf h
 have a0:0<ws.length→0≤xs.getD 0 0∧xs.getD 0 0≤ao (ws.getD 0 0):=fun h=>a8 hin (by omega)
 have a1:1<ws.length→0≤xs.getD 1 0∧xs.getD 1 0≤ao (ws.getD 1 0):=fun h=>a8 hin (by omega)
 have a2:2<ws.length→0≤xs.getD 2 0∧xs.getD 2 0≤ao (ws.getD 2 0):=fun h=>a8 hin (by omega)
 have m0:0<ws.length→0≤ao (ws.getD 0 0)∧ao (ws.getD 0 0)≤255:=fun h=>aC (by have:=f0 h;omega) (f0 h).2
 have m1:1<ws.length→0≤ao (ws.getD 1 0)∧ao (ws.getD 1 0)≤255:=fun h=>aC (by have:=f1 h;omega) (f1 h).2
 have m2:2<ws.length→0≤ao (ws.getD 2 0)∧ao (ws.getD 2 0)≤255:=fun h=>aC (by have:=f2 h;omega) (f2 h).2
 have b0:=f0 (by omega);have c0:=a0 (by omega);have d0:=m0 (by omega)
 have b1:=f1 (by omega);have c1:=a1 (by omega);have d1:=m1 (by omega)
 refine ap.vc (V:=TT 4 (IX 0 xs.length∧TT 3 (IX 1 xs.length∧TT 1 ((True∧(IntKind.wrap .i64 (BitVec.ofInt (IntKind.i64).bits (xs.getD 0 0) ||| BitVec.ofInt (IntKind.i64).bits (xs.getD 1 0)).toNat)=(((xs.getD 0 0).toNat ||| (xs.getD 1 0).toNat:Nat):Int))∧TT 2 ((((xs.getD 0 0).toNat ||| (xs.getD 1 0).toNat:Nat):Int)=(nr 4 ws xs k w)∧True))))) (.w 1 [(8,.val (i6 (((xs.getD 0 0).toNat ||| (xs.getD 1 0).toNat:Nat):Int)))]<|.e) Try.func75 rfl rfl rfl (by kernel_rfl) ?_
 refine tt ⟨ix,tt ⟨ix,tt ⟨⟨oK,(Fo (by omega) (by omega) (by omega) (by omega))⟩,tt ⟨?_,oK⟩⟩⟩⟩
 rfl
abbrev No (ws xs:List Int) (k w:Int):Ct:=⟨76,(iO ws xs k w),false,(i6 (nr 5 ws xs k w))⟩
theorem Jv (ws xs:List Int) (k w:Int) (ho:DM ws xs 2):CC (No ws xs k w):=by
 obtain⟨hl,hf,hx,hin⟩:=ho
 have f0:0<ws.length→1≤ws.getD 0 0∧ws.getD 0 0≤8:=fun h=>aE hf h
 have f1:1<ws.length→1≤ws.getD 1 0∧ws.getD 1 0≤8:=fun h=>aE hf h
 have f2:2<ws.length→1≤ws.getD 2 0∧ws.getD 2 0≤8:=fun h=>aE hf h
 have a0:0<ws.length→0≤xs.getD 0 0∧xs.getD 0 0≤ao (ws.getD 0 0):=fun h=>a8 hin (by omega)
 have a1:1<ws.length→0≤xs.getD 1 0∧xs.getD 1 0≤ao (ws.getD 1 0):=fun h=>a8 hin (by omega)
 have a2:2<ws.length→0≤xs.getD 2 0∧xs.getD 2 0≤ao (ws.getD 2 0):=fun h=>a8 hin (by omega)
 have m0:0<ws.length→0≤ao (ws.getD 0 0)∧ao (ws.getD 0 0)≤255:=fun h=>aC (by have:=f0 h;omega) (f0 h).2
 have m1:1<ws.length→0≤ao (ws.getD 1 0)∧ao (ws.getD 1 0)≤255:=fun h=>aC (by have:=f1 h;omega) (f1 h).2
 have m2:2<ws.length→0≤ao (ws.getD 2 0)∧ao (ws.getD 2 0)≤255:=fun h=>aC (by have:=f2 h;omega) (f2 h).2
 have b0:=f0 (by omega);have c0:=a0 (by omega);have d0:=m0 (by omega)
 have b1:=f1 (by omega);have c1:=a1 (by omega);have d1:=m1 (by omega)
 refine ap.vc (V:=TT 4 (IX 0 xs.length∧TT 3 (IX 1 xs.length∧TT 1 ((True∧(IntKind.wrap .i64 (BitVec.ofInt (IntKind.i64).bits (xs.getD 0 0) ^^^ BitVec.ofInt (IntKind.i64).bits (xs.getD 1 0)).toNat)=(((xs.getD 0 0).toNat ^^^ (xs.getD 1 0).toNat:Nat):Int))∧TT 2 ((((xs.getD 0 0).toNat ^^^ (xs.getD 1 0).toNat:Nat):Int)=(nr 5 ws xs k w)∧True))))) (.w 1 [(8,.val (i6 (((xs.getD 0 0).toNat ^^^ (xs.getD 1 0).toNat:Nat):Int)))]<|.e) Try.func76 rfl rfl rfl (by kernel_rfl) ?_
 refine tt ⟨ix,tt ⟨ix,tt ⟨⟨oK,(v9 (by omega) (by omega) (by omega) (by omega))⟩,tt ⟨?_,oK⟩⟩⟩⟩
 rfl
abbrev Np (ws xs:List Int) (k w:Int):Ct:=⟨77,(iO ws xs k w),false,(i6 (nr 6 ws xs k w))⟩
theorem Jw (ws xs:List Int) (k w:Int) (ho:DM ws xs 2):CC (Np ws xs k w):=by
 obtain⟨hl,hf,hx,hin⟩:=ho
 have f0:0<ws.length→1≤ws.getD 0 0∧ws.getD 0 0≤8:=fun h=>aE hf h
 have f1:1<ws.length→1≤ws.getD 1 0∧ws.getD 1 0≤8:=fun h=>aE hf h
 have f2:2<ws.length→1≤ws.getD 2 0∧ws.getD 2 0≤8:=fun h=>aE hf h
 have a0:0<ws.length→0≤xs.getD 0 0∧xs.getD 0 0≤ao (ws.getD 0 0):=fun h=>a8 hin (by omega)
 have a1:1<ws.length→0≤xs.getD 1 0∧xs.getD 1 0≤ao (ws.getD 1 0):=fun h=>a8 hin (by omega)
 have a2:2<ws.length→0≤xs.getD 2 0∧xs.getD 2 0≤ao (ws.getD 2 0):=fun h=>a8 hin (by omega)
 have m0:0<ws.length→0≤ao (ws.getD 0 0)∧ao (ws.getD 0 0)≤255:=fun h=>aC (by have:=f0 h;omega) (f0 h).2
 have m1:1<ws.length→0≤ao (ws.getD 1 0)∧ao (ws.getD 1 0)≤255:=fun h=>aC (by have:=f1 h;omega) (f1 h).2
 have m2:2<ws.length→0≤ao (ws.getD 2 0)∧ao (ws.getD 2 0)≤255:=fun h=>aC (by have:=f2 h;omega) (f2 h).2
 have b0:=f0 (by omega);have c0:=a0 (by omega);have d0:=m0 (by omega)
 have b1:=f1 (by omega);have c1:=a1 (by omega);have d1:=m1 (by omega)
 refine ap.vc (V:=TT 4 (IX 0 xs.length∧TT 3 (IX 1 xs.length∧TT 1 (W6 ((xs.getD 0 0)+(xs.getD 1 0))∧TT 1 (CC (Js ws xs k w)∧(True∧(IntKind.wrap .i64 (BitVec.ofInt (IntKind.i64).bits ((xs.getD 0 0)+(xs.getD 1 0)) &&& BitVec.ofInt (IntKind.i64).bits (ao (ws.getD 0 0))).toNat)=((xs.getD 0 0+xs.getD 1 0)%2^(ws.getD 0 0).toNat))∧TT 2 (((xs.getD 0 0+xs.getD 1 0)%2^(ws.getD 0 0).toNat)=(nr 6 ws xs k w)∧True)))))) (.w 1 [(8,.val (i6 ((xs.getD 0 0)+(xs.getD 1 0)))),(10,(Js ws xs k w).O),(11,.val (i6 ((xs.getD 0 0+xs.getD 1 0)%2^(ws.getD 0 0).toNat)))]<|.e) Try.func77 rfl rfl rfl (by kernel_rfl) ?_
 refine tt ⟨ix,tt ⟨ix,tt ⟨w6,tt ⟨(t1 ws xs k w om),⟨⟨oK,(by rw[dr (by omega) (by omega)];exact lu (by omega))⟩,tt ⟨?_,oK⟩⟩⟩⟩⟩⟩
 rfl
abbrev Nq (ws xs:List Int) (k w:Int):Ct:=⟨78,(iO ws xs k w),false,(i6 (nr 7 ws xs k w))⟩
theorem Jx (ws xs:List Int) (k w:Int) (ho:DM ws xs 2):CC (Nq ws xs k w):=by
 obtain⟨hl,hf,hx,hin⟩:=ho
 have f0:0<ws.length→1≤ws.getD 0 0∧ws.getD 0 0≤8:=fun h=>aE hf h
 have f1:1<ws.length→1≤ws.getD 1 0∧ws.getD 1 0≤8:=fun h=>aE hf h
 have f2:2<ws.length→1≤ws.getD 2 0∧ws.getD 2 0≤8:=fun h=>aE hf h
 have a0:0<ws.length→0≤xs.getD 0 0∧xs.getD 0 0≤ao (ws.getD 0 0):=fun h=>a8 hin (by omega)
 have a1:1<ws.length→0≤xs.getD 1 0∧xs.getD 1 0≤ao (ws.getD 1 0):=fun h=>a8 hin (by omega)
 have a2:2<ws.length→0≤xs.getD 2 0∧xs.getD 2 0≤ao (ws.getD 2 0):=fun h=>a8 hin (by omega)
 have m0:0<ws.length→0≤ao (ws.getD 0 0)∧ao (ws.getD 0 0)≤255:=fun h=>aC (by have:=f0 h;omega) (f0 h).2
 have m1:1<ws.length→0≤ao (ws.getD 1 0)∧ao (ws.getD 1 0)≤255:=fun h=>aC (by have:=f1 h;omega) (f1 h).2
 have m2:2<ws.length→0≤ao (ws.getD 2 0)∧ao (ws.getD 2 0)≤255:=fun h=>aC (by have:=f2 h;omega) (f2 h).2
 have b0:=f0 (by omega);have c0:=a0 (by omega);have d0:=m0 (by omega)
 have b1:=f1 (by omega);have c1:=a1 (by omega);have d1:=m1 (by omega)
 refine ap.vc (V:=TT 4 (IX 0 xs.length∧TT 3 (IX 1 xs.length∧TT 1 (W6 ((xs.getD 0 0)-(xs.getD 1 0))∧TT 1 (CC (Js ws xs k w)∧(True∧(IntKind.wrap .i64 (BitVec.ofInt (IntKind.i64).bits ((xs.getD 0 0)-(xs.getD 1 0)) &&& BitVec.ofInt (IntKind.i64).bits (ao (ws.getD 0 0))).toNat)=((xs.getD 0 0-xs.getD 1 0)%2^(ws.getD 0 0).toNat))∧TT 2 (((xs.getD 0 0-xs.getD 1 0)%2^(ws.getD 0 0).toNat)=(nr 7 ws xs k w)∧True)))))) (.w 1 [(8,.val (i6 ((xs.getD 0 0)-(xs.getD 1 0)))),(10,(Js ws xs k w).O),(11,.val (i6 ((xs.getD 0 0-xs.getD 1 0)%2^(ws.getD 0 0).toNat)))]<|.e) Try.func78 rfl rfl rfl (by kernel_rfl) ?_
 refine tt ⟨ix,tt ⟨ix,tt ⟨w6,tt ⟨(t1 ws xs k w om),⟨⟨oK,(by rw[dr (by omega) (by omega)];exact lu (by omega))⟩,tt ⟨?_,oK⟩⟩⟩⟩⟩⟩
 rfl
abbrev Nr (ws xs:List Int) (k w:Int):Ct:=⟨80,(iO ws xs k w),false,(i6 (nr 8 ws xs k w))⟩
theorem Lg (ws xs:List Int) (k w:Int) (ho:DM ws xs 2):CC (Nr ws xs k w):=by
 obtain⟨hl,hf,hx,hin⟩:=ho
 have f0:0<ws.length→1≤ws.getD 0 0∧ws.getD 0 0≤8:=fun h=>aE hf h
 have f1:1<ws.length→1≤ws.getD 1 0∧ws.getD 1 0≤8:=fun h=>aE hf h
 have f2:2<ws.length→1≤ws.getD 2 0∧ws.getD 2 0≤8:=fun h=>aE hf h
 have a0:0<ws.length→0≤xs.getD 0 0∧xs.getD 0 0≤ao (ws.getD 0 0):=fun h=>a8 hin (by omega)
 have a1:1<ws.length→0≤xs.getD 1 0∧xs.getD 1 0≤ao (ws.getD 1 0):=fun h=>a8 hin (by omega)
 have a2:2<ws.length→0≤xs.getD 2 0∧xs.getD 2 0≤ao (ws.getD 2 0):=fun h=>a8 hin (by omega)
 have m0:0<ws.length→0≤ao (ws.getD 0 0)∧ao (ws.getD 0 0)≤255:=fun h=>aC (by have:=f0 h;omega) (f0 h).2
 have m1:1<ws.length→0≤ao (ws.getD 1 0)∧ao (ws.getD 1 0)≤255:=fun h=>aC (by have:=f1 h;omega) (f1 h).2
 have m2:2<ws.length→0≤ao (ws.getD 2 0)∧ao (ws.getD 2 0)≤255:=fun h=>aC (by have:=f2 h;omega) (f2 h).2
 have b0:=f0 (by omega);have c0:=a0 (by omega);have d0:=m0 (by omega)
 have b1:=f1 (by omega);have c1:=a1 (by omega);have d1:=m1 (by omega)
 refine ap.vc (V:=TT 4 (IX 0 xs.length∧TT 3 (IX 1 xs.length∧TT 2 (CC (Ld ((xs.getD 0 0)==(xs.getD 1 0)))∧TT 2 ((if ((xs.getD 0 0)==(xs.getD 1 0))=true then 1 else 0)=(nr 8 ws xs k w)∧True))))) (.w 1 [(9,(Ld ((xs.getD 0 0)==(xs.getD 1 0))).O)]<|.e) Try.func80 rfl rfl rfl (by kernel_rfl) ?_
 refine tt ⟨ix,tt ⟨ix,tt ⟨(Fs ((xs.getD 0 0)==(xs.getD 1 0))),tt ⟨?_,oK⟩⟩⟩⟩
 show _=(if xs.getD 0 0=xs.getD 1 0 then (1:Int)else 0)
 by_cases h:xs.getD 0 0=xs.getD 1 0
 · rw[NT h,NT (by simpa using h)]
 · rw[NQ h,NQ (by simpa using h)]
abbrev Nt (ws xs:List Int) (k w:Int):Ct:=⟨82,(iO ws xs k w),false,(i6 (nr 9 ws xs k w))⟩
theorem Lh (ws xs:List Int) (k w:Int) (ho:DM ws xs 2):CC (Nt ws xs k w):=by
 obtain⟨hl,hf,hx,hin⟩:=ho
 have f0:0<ws.length→1≤ws.getD 0 0∧ws.getD 0 0≤8:=fun h=>aE hf h
 have f1:1<ws.length→1≤ws.getD 1 0∧ws.getD 1 0≤8:=fun h=>aE hf h
 have f2:2<ws.length→1≤ws.getD 2 0∧ws.getD 2 0≤8:=fun h=>aE hf h
 have a0:0<ws.length→0≤xs.getD 0 0∧xs.getD 0 0≤ao (ws.getD 0 0):=fun h=>a8 hin (by omega)
 have a1:1<ws.length→0≤xs.getD 1 0∧xs.getD 1 0≤ao (ws.getD 1 0):=fun h=>a8 hin (by omega)
 have a2:2<ws.length→0≤xs.getD 2 0∧xs.getD 2 0≤ao (ws.getD 2 0):=fun h=>a8 hin (by omega)
 have m0:0<ws.length→0≤ao (ws.getD 0 0)∧ao (ws.getD 0 0)≤255:=fun h=>aC (by have:=f0 h;omega) (f0 h).2
 have m1:1<ws.length→0≤ao (ws.getD 1 0)∧ao (ws.getD 1 0)≤255:=fun h=>aC (by have:=f1 h;omega) (f1 h).2
 have m2:2<ws.length→0≤ao (ws.getD 2 0)∧ao (ws.getD 2 0)≤255:=fun h=>aC (by have:=f2 h;omega) (f2 h).2
 have b0:=f0 (by omega);have c0:=a0 (by omega);have d0:=m0 (by omega)
 have b1:=f1 (by omega);have c1:=a1 (by omega);have d1:=m1 (by omega)
 refine ap.vc (V:=TT 4 (IX 0 xs.length∧TT 3 (IX 1 xs.length∧TT 2 (CC (Ld (decide ((xs.getD 0 0)<(xs.getD 1 0))))∧TT 2 ((if (decide ((xs.getD 0 0)<(xs.getD 1 0)))=true then 1 else 0)=(nr 9 ws xs k w)∧True))))) (.w 1 [(9,(Ld (decide ((xs.getD 0 0)<(xs.getD 1 0)))).O)]<|.e) Try.func82 rfl rfl rfl (by kernel_rfl) ?_
 refine tt ⟨ix,tt ⟨ix,tt ⟨(Fs (decide ((xs.getD 0 0)<(xs.getD 1 0)))),tt ⟨?_,oK⟩⟩⟩⟩
 show _=(if xs.getD 0 0<xs.getD 1 0 then (1:Int)else 0)
 by_cases h:xs.getD 0 0<xs.getD 1 0
 · rw[NT h,NT (by simpa using h)]
 · rw[NQ h,NQ (by simpa using h)]
abbrev Nu (ws xs:List Int) (k w:Int):Ct:=⟨84,(iO ws xs k w),false,(i6 (nr 1 ws xs k w))⟩
theorem Fx (ws xs:List Int) (k w:Int) (ho:DM ws xs 0):CC (Nu ws xs k w):=by
 obtain⟨hl,hf,hx,hin⟩:=ho
 have f0:0<ws.length→1≤ws.getD 0 0∧ws.getD 0 0≤8:=fun h=>aE hf h
 have f1:1<ws.length→1≤ws.getD 1 0∧ws.getD 1 0≤8:=fun h=>aE hf h
 have f2:2<ws.length→1≤ws.getD 2 0∧ws.getD 2 0≤8:=fun h=>aE hf h
 have a0:0<ws.length→0≤xs.getD 0 0∧xs.getD 0 0≤ao (ws.getD 0 0):=fun h=>a8 hin (by omega)
 have a1:1<ws.length→0≤xs.getD 1 0∧xs.getD 1 0≤ao (ws.getD 1 0):=fun h=>a8 hin (by omega)
 have a2:2<ws.length→0≤xs.getD 2 0∧xs.getD 2 0≤ao (ws.getD 2 0):=fun h=>a8 hin (by omega)
 have m0:0<ws.length→0≤ao (ws.getD 0 0)∧ao (ws.getD 0 0)≤255:=fun h=>aC (by have:=f0 h;omega) (f0 h).2
 have m1:1<ws.length→0≤ao (ws.getD 1 0)∧ao (ws.getD 1 0)≤255:=fun h=>aC (by have:=f1 h;omega) (f1 h).2
 have m2:2<ws.length→0≤ao (ws.getD 2 0)∧ao (ws.getD 2 0)≤255:=fun h=>aC (by have:=f2 h;omega) (f2 h).2
 refine ap.vc (V:=TT 6 (k=(nr 1 ws xs k w)∧True)) (.e) Try.func84 rfl rfl rfl (by kernel_rfl) ?_
 refine tt ⟨?_,oK⟩
 rfl
abbrev Nv (ws xs:List Int) (k w:Int):Ct:=⟨92,(iO ws xs k w),false,(i6 (nr 13 ws xs k w))⟩
theorem Jy (ws xs:List Int) (k w:Int) (ho:DM ws xs 1):CC (Nv ws xs k w):=by
 obtain⟨hl,hf,hx,hin⟩:=ho
 have f0:0<ws.length→1≤ws.getD 0 0∧ws.getD 0 0≤8:=fun h=>aE hf h
 have f1:1<ws.length→1≤ws.getD 1 0∧ws.getD 1 0≤8:=fun h=>aE hf h
 have f2:2<ws.length→1≤ws.getD 2 0∧ws.getD 2 0≤8:=fun h=>aE hf h
 have a0:0<ws.length→0≤xs.getD 0 0∧xs.getD 0 0≤ao (ws.getD 0 0):=fun h=>a8 hin (by omega)
 have a1:1<ws.length→0≤xs.getD 1 0∧xs.getD 1 0≤ao (ws.getD 1 0):=fun h=>a8 hin (by omega)
 have a2:2<ws.length→0≤xs.getD 2 0∧xs.getD 2 0≤ao (ws.getD 2 0):=fun h=>a8 hin (by omega)
 have m0:0<ws.length→0≤ao (ws.getD 0 0)∧ao (ws.getD 0 0)≤255:=fun h=>aC (by have:=f0 h;omega) (f0 h).2
 have m1:1<ws.length→0≤ao (ws.getD 1 0)∧ao (ws.getD 1 0)≤255:=fun h=>aC (by have:=f1 h;omega) (f1 h).2
 have m2:2<ws.length→0≤ao (ws.getD 2 0)∧ao (ws.getD 2 0)≤255:=fun h=>aC (by have:=f2 h;omega) (f2 h).2
 have b0:=f0 (by omega);have c0:=a0 (by omega);have d0:=m0 (by omega)
 refine ap.vc (V:=TT 4 (IX 0 xs.length∧TT 3 ((xs.getD 0 0)=(nr 13 ws xs k w)∧True))) (.e) Try.func92 rfl rfl rfl (by kernel_rfl) ?_
 refine tt ⟨ix,tt ⟨?_,oK⟩⟩
 rfl
abbrev Nw (ws xs:List Int) (k w:Int):Ct:=⟨86,(iO ws xs k w),false,(i6 (nr 10 ws xs k w))⟩
theorem Jz (ws xs:List Int) (k w:Int) (ho:DM ws xs 3) (h1:ws.getD 0 0=1):CC (Nw ws xs k w):=by
 obtain⟨hl,hf,hx,hin⟩:=ho
 have f0:0<ws.length→1≤ws.getD 0 0∧ws.getD 0 0≤8:=fun h=>aE hf h
 have f1:1<ws.length→1≤ws.getD 1 0∧ws.getD 1 0≤8:=fun h=>aE hf h
 have f2:2<ws.length→1≤ws.getD 2 0∧ws.getD 2 0≤8:=fun h=>aE hf h
 have a0:0<ws.length→0≤xs.getD 0 0∧xs.getD 0 0≤ao (ws.getD 0 0):=fun h=>a8 hin (by omega)
 have a1:1<ws.length→0≤xs.getD 1 0∧xs.getD 1 0≤ao (ws.getD 1 0):=fun h=>a8 hin (by omega)
 have a2:2<ws.length→0≤xs.getD 2 0∧xs.getD 2 0≤ao (ws.getD 2 0):=fun h=>a8 hin (by omega)
 have m0:0<ws.length→0≤ao (ws.getD 0 0)∧ao (ws.getD 0 0)≤255:=fun h=>aC (by have:=f0 h;omega) (f0 h).2
 have m1:1<ws.length→0≤ao (ws.getD 1 0)∧ao (ws.getD 1 0)≤255:=fun h=>aC (by have:=f1 h;omega) (f1 h).2
 have m2:2<ws.length→0≤ao (ws.getD 2 0)∧ao (ws.getD 2 0)≤255:=fun h=>aC (by have:=f2 h;omega) (f2 h).2
 have b0:=f0 (by omega);have c0:=a0 (by omega);have d0:=m0 (by omega)
 have b1:=f1 (by omega);have c1:=a1 (by omega);have d1:=m1 (by omega)
 have b2:=f2 (by omega);have c2:=a2 (by omega);have d2:=m2 (by omega)
 have hm1:ao (ws.getD 0 0)=1:=by rw[h1];decide
 have Wi:xs.getD 0 0=0∨xs.getD 0 0=1:=by omega
 refine ap.vc (V:=TT 6 (IX 0 xs.length∧TT 1 (W6 (2-(xs.getD 0 0))∧IX (2-(xs.getD 0 0)) xs.length∧TT 3 ((xs.getD ((2-(xs.getD 0 0)).toNat) 0)=(nr 10 ws xs k w)∧True)))) (.w 1 [(6,.val (i6 (2-(xs.getD 0 0))))]<|.e) Try.func86 rfl rfl rfl (by kernel_rfl) ?_
 refine tt ⟨ix,tt ⟨w6,⟨ix,tt ⟨?_,oK⟩⟩⟩⟩
 rfl
abbrev Nx (ws xs:List Int) (k w:Int):Ct:=⟨88,(iO ws xs k w),false,(i6 (nr 11 ws xs k w))⟩
theorem JA (ws xs:List Int) (k w:Int) (ho:DM ws xs 2):CC (Nx ws xs k w):=by
 obtain⟨hl,hf,hx,hin⟩:=ho
 have f0:0<ws.length→1≤ws.getD 0 0∧ws.getD 0 0≤8:=fun h=>aE hf h
 have f1:1<ws.length→1≤ws.getD 1 0∧ws.getD 1 0≤8:=fun h=>aE hf h
 have f2:2<ws.length→1≤ws.getD 2 0∧ws.getD 2 0≤8:=fun h=>aE hf h
 have a0:0<ws.length→0≤xs.getD 0 0∧xs.getD 0 0≤ao (ws.getD 0 0):=fun h=>a8 hin (by omega)
 have a1:1<ws.length→0≤xs.getD 1 0∧xs.getD 1 0≤ao (ws.getD 1 0):=fun h=>a8 hin (by omega)
 have a2:2<ws.length→0≤xs.getD 2 0∧xs.getD 2 0≤ao (ws.getD 2 0):=fun h=>a8 hin (by omega)
 have m0:0<ws.length→0≤ao (ws.getD 0 0)∧ao (ws.getD 0 0)≤255:=fun h=>aC (by have:=f0 h;omega) (f0 h).2
 have m1:1<ws.length→0≤ao (ws.getD 1 0)∧ao (ws.getD 1 0)≤255:=fun h=>aC (by have:=f1 h;omega) (f1 h).2
 have m2:2<ws.length→0≤ao (ws.getD 2 0)∧ao (ws.getD 2 0)≤255:=fun h=>aC (by have:=f2 h;omega) (f2 h).2
 have b0:=f0 (by omega);have c0:=a0 (by omega);have d0:=m0 (by omega)
 have b1:=f1 (by omega);have c1:=a1 (by omega);have d1:=m1 (by omega)
 refine ap.vc (V:=TT 4 (IX 0 xs.length∧TT 3 (IX 1 ws.length∧TT 1 ((0≤(ws.getD 1 0)∧(IntKind.wrap .i64 ((xs.getD 0 0)*2^min ((ws.getD 1 0).toNat) 64))=(((xs.getD 0 0).toNat*2^(ws.getD 1 0).toNat:Nat):Int))∧TT 2 (IX 1 xs.length∧TT 1 ((True∧(IntKind.wrap .i64 (BitVec.ofInt (IntKind.i64).bits (((xs.getD 0 0).toNat*2^(ws.getD 1 0).toNat:Nat):Int) ||| BitVec.ofInt (IntKind.i64).bits (xs.getD 1 0)).toNat)=(((xs.getD 0 0).toNat*2^(ws.getD 1 0).toNat ||| (xs.getD 1 0).toNat:Nat):Int))∧TT 2 ((((xs.getD 0 0).toNat*2^(ws.getD 1 0).toNat ||| (xs.getD 1 0).toNat:Nat):Int)=(nr 11 ws xs k w)∧True))))))) (.w 1 [(8,.val (i6 (((xs.getD 0 0).toNat*2^(ws.getD 1 0).toNat:Nat):Int))),(13,.val (i6 (((xs.getD 0 0).toNat*2^(ws.getD 1 0).toNat ||| (xs.getD 1 0).toNat:Nat):Int)))]<|.e) Try.func88 rfl rfl rfl (by kernel_rfl) ?_
 refine tt ⟨ix,tt ⟨ix,tt ⟨⟨om,(Hu (by omega) (by omega))⟩,tt ⟨ix,tt ⟨⟨oK,(Hv (by omega) (by omega) (by omega))⟩,tt ⟨?_,oK⟩⟩⟩⟩⟩⟩
 rfl
abbrev Ny (ws xs:List Int) (k w:Int):Ct:=⟨90,(iO ws xs k w),false,(i6 (nr 12 ws xs k w))⟩
theorem Fy (ws xs:List Int) (k w:Int) (ho:DM ws xs 1) (hk:0≤k∧k≤8∧aB w=true):CC (Ny ws xs k w):=by
 obtain⟨hl,hf,hx,hin⟩:=ho
 have f0:0<ws.length→1≤ws.getD 0 0∧ws.getD 0 0≤8:=fun h=>aE hf h
 have f1:1<ws.length→1≤ws.getD 1 0∧ws.getD 1 0≤8:=fun h=>aE hf h
 have f2:2<ws.length→1≤ws.getD 2 0∧ws.getD 2 0≤8:=fun h=>aE hf h
 have a0:0<ws.length→0≤xs.getD 0 0∧xs.getD 0 0≤ao (ws.getD 0 0):=fun h=>a8 hin (by omega)
 have a1:1<ws.length→0≤xs.getD 1 0∧xs.getD 1 0≤ao (ws.getD 1 0):=fun h=>a8 hin (by omega)
 have a2:2<ws.length→0≤xs.getD 2 0∧xs.getD 2 0≤ao (ws.getD 2 0):=fun h=>a8 hin (by omega)
 have m0:0<ws.length→0≤ao (ws.getD 0 0)∧ao (ws.getD 0 0)≤255:=fun h=>aC (by have:=f0 h;omega) (f0 h).2
 have m1:1<ws.length→0≤ao (ws.getD 1 0)∧ao (ws.getD 1 0)≤255:=fun h=>aC (by have:=f1 h;omega) (f1 h).2
 have m2:2<ws.length→0≤ao (ws.getD 2 0)∧ao (ws.getD 2 0)≤255:=fun h=>aC (by have:=f2 h;omega) (f2 h).2
 have b0:=f0 (by omega);have c0:=a0 (by omega);have d0:=m0 (by omega)
 have hw:=bf.1 hk.2.2
 refine ap.vc (V:=TT 4 (IX 0 xs.length∧TT 3 ((0≤k∧(Int.fdiv (xs.getD 0 0) (2^min k.toNat 64))=(xs.getD 0 0 / 2^k.toNat))∧TT 2 (CC (Hw w)∧(True∧(IntKind.wrap .i64 (BitVec.ofInt (IntKind.i64).bits (xs.getD 0 0 / 2^k.toNat) &&& BitVec.ofInt (IntKind.i64).bits (ao w)).toNat)=((xs.getD 0 0 / 2^k.toNat)%2^w.toNat))∧TT 2 (((xs.getD 0 0 / 2^k.toNat)%2^w.toNat)=(nr 12 ws xs k w)∧True))))) (.w 1 [(6,.val (i6 (xs.getD 0 0 / 2^k.toNat))),(9,(Hw w).O),(10,.val (i6 ((xs.getD 0 0 / 2^k.toNat)%2^w.toNat)))]<|.e) Try.func90 rfl rfl rfl (by kernel_rfl) ?_
 refine tt ⟨ix,tt ⟨⟨om,(Ck hk.1 (by omega))⟩,tt ⟨(sQ w),⟨⟨oK,(by rw[dr (by omega) (by omega)];exact lu (by omega))⟩,tt ⟨?_,oK⟩⟩⟩⟩⟩
 rfl
end Go.Proofs.Ytcejcppjedhicaa
