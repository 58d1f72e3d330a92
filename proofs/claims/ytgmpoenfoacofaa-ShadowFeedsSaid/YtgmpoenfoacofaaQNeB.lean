/- Parts of a proof. -/
import Derived.Test.YtgmpoenfoacofaaQVc
import Derived.Test.YtgmpoenfoacofaaProg
import Derived.Test.YtgmpoenfoacofaaQBitT
namespace Go.Proofs.Ytgmpoenfoacofaa
open Go.RowKit
abbrev CC (c:Ct):Prop:=ai Try.prog c.f c.q' [] c.al c.r []
abbrev CK (c:Ct):Prop:=tE [] c.q' c.q'∧ai Try.prog c.f c.q' [] c.al c.r []
abbrev CO (c:ub):Prop:=ai Try.prog c.f c.q' [] false c.r [c.B]
abbrev CR (c:I2):Prop:=ai Try.prog c.f c.q' [c.B] true c.r []
set_option linter.unusedVariables false
set_option linter.unusedSimpArgs false
theorem ai.of_empty {P:Program} {f:FuncId} {ar:List D} {E sz:Nat} {α:Type} {enc:α→List V} {d:α}
  (h:∀(S:Nat→Prop) (μ:Nat→Value) (w:World) (us:Array Value),aE S μ w ar us→Calls P f us w (fun e w'=>∃v,e=.returned v∧w'.ownsRow 0 E sz v 0 []∧w.grownBy w' none∧∀b,aA v=some b→w.heap.size≤b)) :
  ai P f ar [] false (.own 0) [.arr E sz enc d []]:=by
 intro S μ w us hS _ _ Nj
 refine(h S μ w us Nj).mono ?_
 rintro e w' ⟨v,rfl,ho,hg,Rh⟩
 have OA:v.oneCell'=true:=by rcases ho.2 with ⟨rfl,_⟩ | ⟨g,cap,Na,rfl,_⟩<;>rfl
 have hb:∀b,bi v b→w.heap.size≤b:=fun b h=>Rh b (h.bl OA)
 have hB:az S (fun _=>v) w' v (.arr E sz enc d []):=⟨fun i x hx=>by simp at hx,[],by simpa using ho,fun i x j y hx=>by simp at hx⟩
 refine⟨v,fun _=>v,S,rfl,hg.os,hg.tape,hg.output,hg.size,fun k hk _=>hg.block k hk (by simp),fun _ h=>h,fun _ h=>.inl h,fun b hb=>LA (hS b hb) hg.size,?_,⟨fun id B Nf=>?_,fun i j A B b hA Nf _ _ _ _=>?_,fun i A b hA _ Oe hSb=>?_⟩,fun i A b hA _ Oe=>.inl (hb b Oe),fun i A hA=>by simp at hA⟩
 ·exact ah.own (μ:=fun _=>v) 0
 ·cases id with
  | zero=>simp at Nf;subst Nf;exact hB
  | succ id=>simp at Nf
 ·have h1:i=0:=by cases i with | zero=>rfl | succ i=>simp at hA
  have h2:j=0:=by cases j with | zero=>rfl | succ j=>simp at Nf
  rw[h1,h2]
 ·have:=hb b Oe
  have:=hS b hSb
  omega
structure Nm where
 n:Int
 p:ByteArray
structure Ex where
 op:Int
 name:ByteArray
 k:Nm
 w:Nm
 args:List Ex
abbrev e0:ByteArray:=ByteArray.empty
abbrev bs (l:List UInt8):ByteArray:=⟨l.toArray⟩
abbrev dN:Nm:=⟨0,e0⟩
abbrev dE:Ex:=⟨0,e0,dN,dN,[]⟩
structure Jd where
 kind:Int
 src:ByteArray
 n:Int
structure Rg where
 name:ByteArray
 w:Int
 init:Int
 next:Ex
 rule:Jd
structure Mm where
 name:ByteArray
 w:Int
 words:Int
 enable:Ex
 addr:Ex
 data:Ex
 rule:Jd
structure Tk where
 chan:Int
 w:Int
 when:Ex
structure Pt where
 chan:Int
 w:Int
 when:Ex
 data:Ex
structure Pr where
 name:ByteArray
 clock:ByteArray
 KC:List Rg
 KB:List Mm
 I:List Tk
 KA:List Pt
structure Ps where
 KC:List Int
 KB:List (List Int)
structure Hd where
 has:Bool
 v:Int
structure Fi where
 fires:Bool
 s:Ps
 pops:List Bool
 KA:List Hd
abbrev HY:Jd:=⟨0,e0,0⟩
abbrev bE:Rg:=⟨e0,0,0,dE,HY⟩
abbrev a7:Mm:=⟨e0,0,0,dE,dE,dE,HY⟩
abbrev cU:Tk:=⟨0,0,dE⟩
abbrev dj:Pt:=⟨0,0,dE,dE⟩
abbrev aO:Pr:=⟨e0,e0,[],[],[],[]⟩
abbrev aY:Ps:=⟨[],[]⟩
abbrev cz:Hd:=⟨false,0⟩
def eA:Nat→Ex→List V
 | 0,_=>[]
 | n+1,e=>[.int .i64 e.op,.str e.name,.int .i64 e.k.n,.str e.k.p,.int .i64 e.w.n,.str e.w.p,.sl 7 (eA n) dE e.args]
def ac (l:List Int):List V:=[.sl 1 (ab .i64) 0 l]
def jN (r:Rg):List V:=[.str r.name,.int .i64 r.w,.int .i64 r.init,.int .i64 r.next.op,.str r.next.name,.int .i64 r.next.k.n,.str r.next.k.p,.int .i64 r.next.w.n,.str r.next.w.p,.sl 7 (eA 2) dE r.next.args,.int .i64 r.rule.kind,.str r.rule.src,.int .i64 r.rule.n]
def vu (r:Mm):List V:=[.str r.name,.int .i64 r.w,.int .i64 r.words,.int .i64 r.enable.op,.str r.enable.name,.int .i64 r.enable.k.n,.str r.enable.k.p,.int .i64 r.enable.w.n,.str r.enable.w.p,.sl 7 (eA 2) dE r.enable.args,
 .int .i64 r.addr.op,.str r.addr.name,.int .i64 r.addr.k.n,.str r.addr.k.p,.int .i64 r.addr.w.n,.str r.addr.w.p,.sl 7 (eA 2) dE r.addr.args,
 .int .i64 r.data.op,.str r.data.name,.int .i64 r.data.k.n,.str r.data.k.p,.int .i64 r.data.w.n,.str r.data.w.p,.sl 7 (eA 2) dE r.data.args,.int .i64 r.rule.kind,.str r.rule.src,.int .i64 r.rule.n]
def nq (r:Tk):List V:=[.int .i64 r.chan,.int .i64 r.w,.int .i64 r.when.op,.str r.when.name,.int .i64 r.when.k.n,.str r.when.k.p,.int .i64 r.when.w.n,.str r.when.w.p,.sl 7 (eA 2) dE r.when.args]
def oZ (r:Pt):List V:=[.int .i64 r.chan,.int .i64 r.w,.int .i64 r.when.op,.str r.when.name,.int .i64 r.when.k.n,.str r.when.k.p,.int .i64 r.when.w.n,.str r.when.w.p,.sl 7 (eA 2) dE r.when.args,
 .int .i64 r.data.op,.str r.data.name,.int .i64 r.data.k.n,.str r.data.k.p,.int .i64 r.data.w.n,.str r.data.w.p,.sl 7 (eA 2) dE r.data.args]
def eK (p:Pr):List V:=[.str p.name,.str p.clock,.sl 13 jN bE p.KC,.sl 27 vu a7 p.KB,.sl 9 nq cU p.I,.sl 16 oZ dj p.KA]
def aU (s:Ps):List V:=[.sl 1 (ab .i64) 0 s.KC,.sl 1 ac [] s.KB]
def gq (h:Hd):List V:=[.bool h.has,.int .i64 h.v]
def eL:Ex→Nat
 | ⟨_,_,_,_,args⟩=>depL args+1
where depL:List Ex→Nat
 | []=>0
 | a::r=>max (eL a) (depL r)
theorem gZ {x w:Int} (h0:0≤w) (h:w≤62):x≤aB w↔x<2^w.toNat:=by
 rw[bW h0 h];omega
theorem du {x:Int} {n:Nat} (h0:0≤x) (h:x<2^n):x.toNat<2^n:=by
 have e:((2:Int)^n)=((2^n:Nat):Int):=by simp
 rw[e]at h
 omega
theorem wV {x n:Nat} (h:x<2^n):(x:Int)<2^n:=by
 have e:((2:Int)^n)=((2^n:Nat):Int):=by simp
 rw[e]
 omega
theorem Bv {a b:Int} (h:a≤b) (h0:0≤a) (hb:b≤62):aB a≤aB b:=by
 rw[bW h0 (by omega),bW (by omega) hb]
 have:(2:Nat)^a.toNat≤2^b.toNat:=L2 (by omega) (by omega)
 have e1:((2:Int)^a.toNat)=((2^a.toNat:Nat):Int):=by simp
 have e2:((2:Int)^b.toNat)=((2^b.toNat:Nat):Int):=by simp
 rw[e1,e2]
 omega
def cH (v w:Int):Prop:=0≤v∧v≤aB w
theorem qB {x w:Int} (h0:0≤w) (h:w≤62):cH (x%2^w.toNat) w:=by
 have hp:=np (n:=w.toNat) (by omega)
 refine⟨Mo _ (by omega),?_⟩
 rw[gZ h0 h]
 exact Mj _ (by omega)
theorem nr {x:Nat} {w:Int} (h0:0≤w) (h:w≤62) (hx:x<2^w.toNat):cH (x:Int) w:=by
 refine⟨by omega,?_⟩
 rw[gZ h0 h]
 exact wV hx
theorem yz {ws:List Int} (h:bN ws≠0):ws.getD 0 0=ws.getD 1 0∧bN ws=ws.getD 0 0:=by
 unfold bN at h ⊢
 split at h
 ·exact absurd rfl h
 ·rename_i hn
  rw[KK hn]
  exact⟨Decidable.not_not.1 hn,rfl⟩
theorem Dm {op:Int} {ws xs:List Int} {k w:Int} (h:gQ op ws k w=true) (hx:xs.length=ws.length) (NN:Bs ws xs=true):cH (wc op ws xs k w) (dW op ws k w):=by
 obtain⟨h1,hf,h3⟩:=jd h
 have h3:=aJ.1 h3
 have N0:1≤op∧op≤13:=by
  by_cases hr:op<1∨13<op
  ·have:cy op=-1:=by unfold cy;rw[KK (by omega),KK (by omega),KK (by omega),KK (by omega)]
   omega
  ·omega
 have f0:0<ws.length→1≤ws.getD 0 0∧ws.getD 0 0≤8:=fun h=>dt hf h
 have f1:1<ws.length→1≤ws.getD 1 0∧ws.getD 1 0≤8:=fun h=>dt hf h
 have f2:2<ws.length→1≤ws.getD 2 0∧ws.getD 2 0≤8:=fun h=>dt hf h
 have a0:0<ws.length→0≤xs.getD 0 0∧xs.getD 0 0≤aB (ws.getD 0 0):=fun h=>gm NN (by omega)
 have a1:1<ws.length→0≤xs.getD 1 0∧xs.getD 1 0≤aB (ws.getD 1 0):=fun h=>gm NN (by omega)
 have a2:2<ws.length→0≤xs.getD 2 0∧xs.getD 2 0≤aB (ws.getD 2 0):=fun h=>gm NN (by omega)
 have two:∀{op:Int},cy op=2→(ws.length:Int)=cy op→dW op ws k w=bN ws→1≤dW op ws k w∧dW op ws k w≤8→ws.getD 0 0=ws.getD 1 0∧dW op ws k w=ws.getD 0 0∧(xs.getD 0 0).toNat<2^(ws.getD 0 0).toNat∧(xs.getD 1 0).toNat<2^(ws.getD 0 0).toNat∧1≤ws.getD 0 0∧ws.getD 0 0≤8:=by
  intro op hA hl hw hb
  have Qz:ws.length=2:=by omega
  obtain⟨e1,e2⟩:=yz (ws:=ws) (by rw[← hw];omega)
  have b0:=f0 (by omega)
  have c0:=a0 (by omega)
  have c1:=a1 (by omega)
  refine⟨e1,by rw[hw,e2],du c0.1 ((gZ (by omega) (by omega)).1 c0.2),?_,b0⟩
  have:=(gZ (w:=ws.getD 1 0) (by omega) (by omega)).1 c1.2
  rw[← e1]at this
  exact du c1.1 this
 have Qo:op=1∨op=2∨op=3∨op=4∨op=5∨op=6∨op=7∨op=8∨op=9∨op=10∨op=11∨op=12∨op=13:=by omega
 rcases Qo with rfl | rfl | rfl | rfl | rfl | rfl | rfl | rfl | rfl | rfl | rfl | rfl | rfl
 ·show cH k (if aD w=false∨k<0∨aB w<k then 0 else w)
  have e:dW 1 ws k w=(if aD w=false∨k<0∨aB w<k then 0 else w):=rfl
  rw[e]at h3
  split at h3
  ·omega
  ·rename_i hn
   rw[KK hn]
   simp only[not_or,Int.not_lt]at hn
   exact⟨hn.2.1,hn.2.2⟩
 ·have hl:(ws.length:Int)=1:=h1
  have b0:=f0 (by omega)
  have c0:=a0 (by omega)
  show cH (((xs.getD 0 0).toNat ^^^ (aB (ws.getD 0 0)).toNat:Nat):Int) (ws.getD 0 0)
  refine nr (by omega) (by omega) (Nat.xor_lt_two_pow (du c0.1 ((gZ (by omega) (by omega)).1 c0.2)) ?_)
  have m0:=cN (w:=ws.getD 0 0) (by omega) (by omega)
  exact du m0.1 ((gZ (by omega) (by omega)).1 (Int.le_refl _))
 ·obtain⟨e1,e2,e3,e4,e5,e6⟩:=two (op:=3) (by decide) h1 rfl h3
  rw[e2]
  exact nr (by omega) (by omega) (Nat.lt_of_le_of_lt Nat.and_le_left e3)
 ·obtain⟨e1,e2,e3,e4,e5,e6⟩:=two (op:=4) (by decide) h1 rfl h3
  rw[e2]
  exact nr (by omega) (by omega) (Nat.or_lt_two_pow e3 e4)
 ·obtain⟨e1,e2,e3,e4,e5,e6⟩:=two (op:=5) (by decide) h1 rfl h3
  rw[e2]
  exact nr (by omega) (by omega) (Nat.xor_lt_two_pow e3 e4)
 ·obtain⟨e1,e2,e3,e4,e5,e6⟩:=two (op:=6) (by decide) h1 rfl h3
  rw[e2]
  exact qB (by omega) (by omega)
 ·obtain⟨e1,e2,e3,e4,e5,e6⟩:=two (op:=7) (by decide) h1 rfl h3
  rw[e2]
  exact qB (by omega) (by omega)
 ·have e:dW 8 ws k w=min (bN ws) 1:=rfl
  rw[e]at h3 ⊢
  have e1:min (bN ws) 1=1:=by omega
  rw[e1]
  show cH (if xs.getD 0 0=xs.getD 1 0 then 1 else 0) 1
  split<;>exact⟨by decide,by decide⟩
 ·have e:dW 9 ws k w=min (bN ws) 1:=rfl
  rw[e]at h3 ⊢
  have e1:min (bN ws) 1=1:=by omega
  rw[e1]
  show cH (if xs.getD 0 0<xs.getD 1 0 then 1 else 0) 1
  split<;>exact⟨by decide,by decide⟩
 ·have hl:(ws.length:Int)=3:=h1
  have hm1:=zX h
  have c0:=a0 (by omega)
  rw[hm1]at c0
  have c0':xs.getD 0 0≤1:=c0.2
  have c1:=a1 (by omega)
  have c2:=a2 (by omega)
  have e:dW 10 ws k w=(if ws.getD 0 0≠1∨ws.getD 1 0≠ws.getD 2 0 then 0 else ws.getD 1 0):=rfl
  rw[e]at h3 ⊢
  split at h3
  ·omega
  ·rename_i hn
   rw[KK hn]
   have hs:ws.getD 1 0=ws.getD 2 0:=LH fun hh=>hn (.inr hh)
   show cH (xs.getD (2-xs.getD 0 0).toNat 0) (ws.getD 1 0)
   have hc:xs.getD 0 0=0∨xs.getD 0 0=1:=by omega
   rcases hc with hc | hc
   ·rw[hc,hs];exact c2
   ·rw[hc];exact c1
 ·have hl:(ws.length:Int)=2:=h1
  have b0:=f0 (by omega)
  have b1:=f1 (by omega)
  have c0:=a0 (by omega)
  have c1:=a1 (by omega)
  have e:dW 11 ws k w=ws.getD 0 0+ws.getD 1 0:=rfl
  rw[e]at h3 ⊢
  show cH ((((xs.getD 0 0).toNat*2^(ws.getD 1 0).toNat ||| (xs.getD 1 0).toNat:Nat)):Int) (ws.getD 0 0+ws.getD 1 0)
  have d0:=du c0.1 ((gZ (by omega) (by omega)).1 c0.2)
  have d1:=du c1.1 ((gZ (by omega) (by omega)).1 c1.2)
  have hs:(ws.getD 0 0+ws.getD 1 0).toNat=(ws.getD 0 0).toNat+(ws.getD 1 0).toNat:=by omega
  refine nr (by omega) (by omega) ?_
  rw[hs,Nat.pow_add]
  refine(Nat.pow_add 2 _ _) ▸ Nat.or_lt_two_pow ?_ ?_
  ·rw[Nat.pow_add];exact Nat.mul_lt_mul_of_pos_right d0 (Nat.two_pow_pos _)
  ·exact LA d1 (L2 (by omega) (by omega))
 ·have hk:=zY h
  have e:dW 12 ws k w=(if aD w=false∨k<0∨ws.getD 0 0-w<k then 0 else w):=rfl
  rw[e]at h3 ⊢
  split at h3
  ·omega
  ·rename_i hn
   rw[KK hn]
   have hw:=aJ.1 hk.2.2
   exact qB (by omega) (by omega)
 ·have hl:(ws.length:Int)=1:=h1
  have b0:=f0 (by omega)
  have c0:=a0 (by omega)
  have e:dW 13 ws k w=(if w<ws.getD 0 0 then 0 else w):=rfl
  rw[e]at h3 ⊢
  split at h3
  ·omega
  ·rename_i hn
   rw[KK hn]
   show cH (xs.getD 0 0) w
   exact⟨c0.1,Int.le_trans c0.2 (Bv (by omega) (by omega) (by omega))⟩
theorem Bw {op:Int} {ws xs MU:List Int} {k w:Int} (h:gQ op ws k w=true) (hx:xs.length=ws.length) (NN:Bs ws xs=true) (hn:MU.length=2) (h0:MU.getD 0 0=k) (h1:MU.getD 1 0=w) :
  eb op ws xs MU=wc op ws xs k w∧cH (eb op ws xs MU) (dW op ws k w):=by
 have e:=(oY hn hx (by rw[h0,h1];exact h) NN).1
 rw[h0,h1]at e
 exact⟨e,by rw[e];exact Dm h hx NN⟩
def bu (p:Pr) (s:Ps) (data:List Int):Ex→Int×Int
 | ⟨op,_,k,w,args⟩ =>
  if op=16 then (s.KC.getD k.n.toNat 0,(p.KC.getD k.n.toNat bE).w)
  else if op=18 then (data.getD k.n.toNat 0,(p.I.getD k.n.toNat cU).w)
  else if op=17 then ((s.KB.getD k.n.toNat []).getD (Int.tmod ((evL args).getD 0 (0,0)).1 (s.KB.getD k.n.toNat []).length).toNat 0,(p.KB.getD k.n.toNat a7).w)
  else (eb op ((evL args).map (·.2)) ((evL args).map (·.1)) [k.n,w.n],b7 op ((evL args).map (·.2)) k.n w.n)
where evL:List Ex→List (Int×Int)
 | []=>[]
 | a::r=>bu p s data a::evL r
theorem zZ {p:Pr} {s:Ps} {data:List Int}:∀(l:List Ex),bu.evL p s data l=l.map (bu p s data)
 | []=>rfl
 | a::r=>by rw[bu.evL,zZ r];rfl
theorem mH (p:Pr) (s:Ps) (data:List Int) (e:Ex):bu p s data e =
  if e.op=16 then (s.KC.getD e.k.n.toNat 0,(p.KC.getD e.k.n.toNat bE).w)
  else if e.op=18 then (data.getD e.k.n.toNat 0,(p.I.getD e.k.n.toNat cU).w)
  else if e.op=17 then ((s.KB.getD e.k.n.toNat []).getD (Int.tmod ((e.args.map (bu p s data)).getD 0 (0,0)).1 (s.KB.getD e.k.n.toNat []).length).toNat 0,(p.KB.getD e.k.n.toNat a7).w)
  else (eb e.op ((e.args.map (bu p s data)).map (·.2)) ((e.args.map (bu p s data)).map (·.1)) [e.k.n,e.w.n],b7 e.op ((e.args.map (bu p s data)).map (·.2)) e.k.n e.w.n):=by
 cases e with
 | mk op name k w args=>rw[bu,zZ]
structure Sc where
 rw:List Int
 mw:List Int
 tw:List Int
def dR (c:Sc):Ex→Option Int
 | ⟨op,_,k,w,args⟩=>match tyL args with
  | none=>none
  | some ws =>
   if op=16 then (if ws=[]∧0≤k.n∧k.n<c.rw.length then some (c.rw.getD k.n.toNat 0)else none)
   else if op=18 then (if ws=[]∧0≤k.n∧k.n<c.tw.length then some (c.tw.getD k.n.toNat 0)else none)
   else if op=17 then (if ws.length=1∧0≤k.n∧k.n<c.mw.length then some (c.mw.getD k.n.toNat 0)else none)
   else if gQ op ws k.n w.n then some (dW op ws k.n w.n)else none
where tyL:List Ex→Option (List Int)
 | []=>some []
 | a::r=>match dR c a,tyL r with
  | some w,some ws=>some (w::ws)
  | _,_=>none
theorem je {c:Sc}:∀{l:List Ex} {ws:List Int},dR.tyL c l=some ws→ws.length=l.length∧∀i,i<l.length→dR c (l.getD i dE)=some (ws.getD i 0)
 | [],ws,h=>by rw[dR.tyL]at h;cases h;exact⟨rfl,fun i hi=>absurd hi (MK _)⟩
 | a::r,ws,h=>by
  rw[dR.tyL]at h
  split at h
  ·rename_i w ws' h1 h2
   cases h
   obtain⟨q1,q2⟩:=je h2
   refine⟨by simp[q1],fun i hi=>?_⟩
   cases i with
   | zero=>exact h1
   | succ i=>exact q2 i (by simpa using hi)
  ·cases h
theorem fp {c:Sc} {e:Ex} {w:Int} (h:dR c e=some w):∃ws,dR.tyL c e.args=some ws ∧
  ((e.op=16∧ws=[]∧0≤e.k.n∧e.k.n<c.rw.length∧w=c.rw.getD e.k.n.toNat 0)∨(e.op=18∧ws=[]∧0≤e.k.n∧e.k.n<c.tw.length∧w=c.tw.getD e.k.n.toNat 0) ∨
   (e.op=17∧ws.length=1∧0≤e.k.n∧e.k.n<c.mw.length∧w=c.mw.getD e.k.n.toNat 0)∨(e.op≠16∧e.op≠17∧e.op≠18∧gQ e.op ws e.k.n e.w.n=true∧w=dW e.op ws e.k.n e.w.n)):=by
 cases e with
 | mk op name k w0 args =>
  rw[dR]at h
  split at h
  ·cases h
  ·rename_i ws hws
   refine⟨ws,hws,?_⟩
   split at h
   ·rename_i ho
    split at h
    ·rename_i hc;cases h;exact .inl ⟨ho,hc.1,hc.2.1,hc.2.2,rfl⟩
    ·cases h
   ·split at h
    ·rename_i ho
     split at h
     ·rename_i hc;cases h;exact .inr (.inl ⟨ho,hc.1,hc.2.1,hc.2.2,rfl⟩)
     ·cases h
    ·split at h
     ·rename_i ho
      split at h
      ·rename_i hc;cases h;exact .inr (.inr (.inl ⟨ho,hc.1,hc.2.1,hc.2.2,rfl⟩))
      ·cases h
     ·split at h
      ·rename_i h1 h2 h3 hc;cases h;exact .inr (.inr (.inr ⟨h1,h3,h2,hc,rfl⟩))
      ·cases h
structure te (c:Sc) (p:Pr) (s:Ps) (data:List Int):Prop where
 prl:p.KC.length=c.rw.length
 prw:∀i,i<c.rw.length→(p.KC.getD i bE).w=c.rw.getD i 0
 pml:p.KB.length=c.mw.length
 pmw:∀i,i<c.mw.length→(p.KB.getD i a7).w=c.mw.getD i 0
 ptl:p.I.length=c.tw.length
 ptw:∀i,i<c.tw.length→(p.I.getD i cU).w=c.tw.getD i 0
 srl:s.KC.length=c.rw.length
 srv:∀i,i<c.rw.length→cH (s.KC.getD i 0) (c.rw.getD i 0)
 sml:s.KB.length=c.mw.length
 smn:∀i,i<c.mw.length→0<(s.KB.getD i []).length
 smv:∀i,i<c.mw.length→∀j,j<(s.KB.getD i []).length→cH ((s.KB.getD i []).getD j 0) (c.mw.getD i 0)
 dl:data.length=c.tw.length
 dv:∀i,i<c.tw.length→cH (data.getD i 0) (c.tw.getD i 0)
 rok:∀i,i<c.rw.length→aD (c.rw.getD i 0)=true
 mok:∀i,i<c.mw.length→aD (c.mw.getD i 0)=true
 tok:∀i,i<c.tw.length→aD (c.tw.getD i 0)=true
theorem cI {α β:Type} (f:α→β) (l:List α) (i:Nat) (d:α) (d':β) (h:i<l.length):(l.map f).getD i d'=f (l.getD i d):=by
 simp[List.getD,KF h]
theorem z3 {e:Ex} {i:Nat} (h:i<e.args.length):eL (e.args.getD i dE)<eL e:=by
 cases e with
 | mk op name k w args =>
  have key:∀(l:List Ex) (i:Nat),i<l.length→eL (l.getD i dE)≤eL.depL l:=by
   intro l
   induction l with
   | nil=>intro i hi;exact absurd hi (MK _)
   | cons a r ih =>
    intro i hi
    rw[eL.depL]
    cases i with
    | zero=>show eL a≤_;omega
    | succ i =>
     have:=ih i (by simpa using hi)
     show eL (r.getD i dE)≤_
     omega
  have:=key args i h
  rw[eL]
  exact Nat.lt_succ_of_le this
theorem GQ {l:List Int} {p:Int→Bool} (h:∀i,i<l.length→p (l.getD i 0)=true):l.all p=true:=by
 rw[K2]
 intro x hx
 obtain⟨i,hi,rfl⟩:=List.mem_iff_getElem.1 hx
 have:=h i hi
 simpa[List.getD,KF hi]using this
theorem z4 {c:Sc} {p:Pr} {s:Ps} {data:List Int} {args:List Ex} {ws:List Int} (hl:ws.length=args.length)
  (h:∀i,i<args.length→(bu p s data (args.getD i dE)).2=ws.getD i 0∧cH (bu p s data (args.getD i dE)).1 (ws.getD i 0)∧aD (ws.getD i 0)=true) :
  (args.map (bu p s data)).map (·.2)=ws∧((args.map (bu p s data)).map (·.1)).length=ws.length∧Bs ws ((args.map (bu p s data)).map (·.1))=true∧ws.all aD=true:=by
 refine⟨?_,by simp[hl],?_,GQ (fun i hi=>(h i (by omega)).2.2)⟩
 ·apply Mw
  ·simp[hl]
  ·intro i h1 h2
   have:=(h i (by omega)).1
   simp only[List.getElem_map]
   have e1:args.getD i dE=args[i]'(by omega):=by simp[List.getD,KF (show i<args.length by omega)]
   have e2:ws.getD i 0=ws[i]:=by simp[List.getD,KF h2]
   rw[e1,e2]at this
   exact this
 ·refine GP (fun i hi=>?_)
  have NK:i<args.length:=by simpa using hi
  have:=(h i NK).2.1
  rw[MN,cI ((·.1) ∘ bu p s data) args i dE 0 NK]
  exact this
theorem Dn {c:Sc} {p:Pr} {s:Ps} {data:List Int} (ho:te c p s data):∀(n:Nat) (e:Ex) (w:Int),eL e≤n→dR c e=some w→(bu p s data e).2=w∧cH (bu p s data e).1 w∧aD w=true:=by
 intro n
 induction n with
 | zero=>intro e w hd;cases e with | mk op name k w args=>rw[eL]at hd;omega
 | succ n ih =>
  intro e w hd hty
  obtain⟨ws,hws,hc⟩:=fp hty
  obtain⟨hl,Nh⟩:=je hws
  have hargs:∀i,i<e.args.length→(bu p s data (e.args.getD i dE)).2=ws.getD i 0∧cH (bu p s data (e.args.getD i dE)).1 (ws.getD i 0)∧aD (ws.getD i 0)=true:=fun i hi=>ih _ _ (by have:=z3 hi;omega) (Nh i hi)
  rw[mH]
  rcases hc with ⟨h1,h2,h3,h4,rfl⟩ | ⟨h1,h2,h3,h4,rfl⟩ | ⟨h1,h2,h3,h4,rfl⟩ | ⟨h1,h2,R0,h3,rfl⟩
  ·rw[KT h1]
   exact⟨ho.prw _ (by omega),ho.srv _ (by omega),ho.rok _ (by omega)⟩
  ·rw[KK (by omega),KT h1]
   exact⟨ho.ptw _ (by omega),ho.dv _ (by omega),ho.tok _ (by omega)⟩
  ·rw[KK (by omega),KK (by omega),KT h1]
   refine⟨ho.pmw _ (by omega),ho.smv _ (by omega) _ ?_,ho.mok _ (by omega)⟩
   have hn:=ho.smn e.k.n.toNat (by omega)
   have a0:=(hargs 0 (by omega)).2.1.1
   rw[cI (bu p s data) e.args 0 dE (0,0) (by omega)]
   have:=Int.tmod_lt_of_pos (bu p s data (e.args.getD 0 dE)).1 (show(0:Int)<(s.KB.getD e.k.n.toNat []).length by omega)
   have h0:=Int.tmod_nonneg (((s.KB.getD e.k.n.toNat []).length:Nat):Int) a0
   omega
  ·rw[KK h1,KK R0,KK h2]
   obtain⟨q1,q2,q3,q4⟩:=z4 (c:=c) hl hargs
   rw[q1]
   obtain⟨r1,r2⟩:=Bw (MU:=[e.k.n,e.w.n]) h3 q2 q3 rfl rfl rfl
   refine⟨?_,r2,?_⟩
   ·unfold b7;rw[h3];rfl
   ·exact(jd h3).2.2
theorem z5 {a:Ex}:∀{l:List Ex},a∈l→eL a≤eL.depL l
 | b::r,h=>by
  rw[eL.depL]
  rcases Lv.1 h with rfl | h
  ·omega
  ·have:=z5 h;omega
theorem z6 {e a:Ex} (h:a∈e.args):eL a<eL e:=by
 cases e with
 | mk op name k w args=>rw[eL];exact Nat.lt_succ_of_le (z5 h)
theorem GR {c:Sc} {e a:Ex} {w:Int} (h:dR c e=some w) (ha:a∈e.args):∃w',dR c a=some w':=by
 obtain⟨ws,h1,_⟩:=fp h
 obtain⟨i,hi,rfl⟩:=List.mem_iff_getElem.1 ha
 have:=(je h1).2 i hi
 exact⟨_,by simpa[List.getD,KF hi]using this⟩
theorem GS {c:Sc} {e:Ex} {w:Int} (h:dR c e=some w):e.args.length≤3:=by
 obtain⟨ws,h1,h2⟩:=fp h
 have hl:=(je h1).1
 rcases h2 with ⟨_,h2,_⟩ | ⟨_,h2,_⟩ | ⟨_,h2,_⟩ | ⟨_,_,_,h2,_⟩
 ·rw[h2]at hl;simp at hl;omega
 ·rw[h2]at hl;simp at hl;omega
 ·omega
 ·have:=(jd h2).1
  have:cy e.op≤3:=by unfold cy;split<;>(try split)<;>(try split)<;>(try split)<;>omega
  omega
theorem GT {c:Sc} {p:Pr} {s:Ps} {data:List Int} {e:Ex} {w:Int} (ho:te c p s data) (h:dR c e=some w) (N0:e.op=16):0≤e.k.n∧e.k.n<s.KC.length∧e.k.n<p.KC.length:=by
 obtain⟨ws,h1,h2⟩:=fp h
 have a1:=ho.srl;have a2:=ho.prl
 rcases h2 with ⟨_,_,h3,h4,_⟩ | ⟨h,_⟩ | ⟨h,_⟩ | ⟨h,_⟩<;>omega
theorem Fk {c:Sc} {p:Pr} {s:Ps} {data:List Int} {e:Ex} {w:Int} (ho:te c p s data) (h:dR c e=some w) (N0:e.op=18):0≤e.k.n∧e.k.n<data.length∧e.k.n<p.I.length:=by
 obtain⟨ws,h1,h2⟩:=fp h
 have a1:=ho.dl;have a2:=ho.ptl
 rcases h2 with ⟨h,_⟩ | ⟨_,_,h3,h4,_⟩ | ⟨h,_⟩ | ⟨_,_,h,_⟩<;>omega
theorem Fl {c:Sc} {p:Pr} {s:Ps} {data:List Int} {e:Ex} {w:Int} (ho:te c p s data) (h:dR c e=some w) (N0:e.op=17) :
  0≤e.k.n∧e.k.n<s.KB.length∧e.k.n<p.KB.length∧e.args.length=1∧0<(s.KB.getD e.k.n.toNat []).length ∧
   0≤Int.tmod (bu p s data (e.args.getD 0 dE)).1 (s.KB.getD e.k.n.toNat []).length∧Int.tmod (bu p s data (e.args.getD 0 dE)).1 (s.KB.getD e.k.n.toNat []).length<(s.KB.getD e.k.n.toNat []).length:=by
 obtain⟨ws,h1,h2⟩:=fp h
 have a1:=ho.sml;have a2:=ho.pml
 obtain⟨hl,hg⟩:=je h1
 rcases h2 with ⟨h,_⟩ | ⟨h,_⟩ | ⟨_,h5,h3,h4,_⟩ | ⟨_,h,_⟩<;>try omega
 have hn:=ho.smn e.k.n.toNat (by omega)
 have a0:=(Dn ho _ (e.args.getD 0 dE) _ (KI _) (hg 0 (by omega))).2.1.1
 refine⟨by omega,by omega,by omega,by omega,hn,Int.tmod_nonneg _ a0,Int.tmod_lt_of_pos _ (by omega)⟩
theorem kh {p:Pr} {s:Ps} {data:List Int} {e:Ex} (h:e.op=16):(bu p s data e).1=s.KC.getD e.k.n.toNat 0∧(bu p s data e).2=(p.KC.getD e.k.n.toNat bE).w:=by
 rw[mH,KT h];exact⟨rfl,rfl⟩
theorem hC {p:Pr} {s:Ps} {data:List Int} {e:Ex} (h:e.op=18):(bu p s data e).1=data.getD e.k.n.toNat 0∧(bu p s data e).2=(p.I.getD e.k.n.toNat cU).w:=by
 rw[mH,KK (by omega),KT h];exact⟨rfl,rfl⟩
theorem hD {p:Pr} {s:Ps} {data:List Int} {e:Ex} (h:e.op=17) (hl:e.args.length=1):(bu p s data e).1=(s.KB.getD e.k.n.toNat []).getD (Int.tmod (bu p s data (e.args.getD 0 dE)).1 (s.KB.getD e.k.n.toNat []).length).toNat 0∧(bu p s data e).2=(p.KB.getD e.k.n.toNat a7).w:=by
 rw[mH,KK (by omega),KK (by omega),KT h,cI (bu p s data) e.args 0 dE (0,0) (by omega)];exact⟨rfl,rfl⟩
def gR (p:Pr) (s:Ps) (data:List Int) (l:List Ex):List Int:=l.map fun a=>(bu p s data a).1
def ee (p:Pr) (s:Ps) (data:List Int) (l:List Ex):List Int:=l.map fun a=>(bu p s data a).2
theorem wW {p:Pr} {s:Ps} {data:List Int} (l:List Ex):(gR p s data l).length=l.length:=by simp[gR]
theorem wX {p:Pr} {s:Ps} {data:List Int} (l:List Ex):(ee p s data l).length=l.length:=by simp[ee]
theorem ue {α:Type} {l:List α} {i:Nat} {d:α} (h:i<l.length):l.take (i+1)=l.take i++[l.getD i d]:=by
 rw[L3 h];simp[List.getD,KF h]
theorem Bx {p:Pr} {s:Ps} {data:List Int} {l:List Ex} {i:Nat} (h:i<l.length):gR p s data (l.take (i+1))=gR p s data (l.take i)++[(bu p s data (l.getD i dE)).1]:=by
 rw[ue (d:=dE) h];simp[gR]
theorem Bz {p:Pr} {s:Ps} {data:List Int} {l:List Ex} {i:Nat} (h:i<l.length):ee p s data (l.take (i+1))=ee p s data (l.take i)++[(bu p s data (l.getD i dE)).2]:=by
 rw[ue (d:=dE) h];simp[ee]
theorem pF {p:Pr} {s:Ps} {data:List Int} {e:Ex} (h1:¬e.op=16) (h2:¬e.op=18) (h3:¬e.op=17):(bu p s data e).1=eb e.op (ee p s data e.args) (gR p s data e.args) [e.k.n,e.w.n]∧(bu p s data e).2=b7 e.op (ee p s data e.args) e.k.n e.w.n:=by
 rw[mH,KK h1,KK h2,KK h3]
 simp only[gR,ee,MN]
 exact⟨rfl,rfl⟩
theorem kT {l:List Ex} {i:Nat} (h:i<l.length):l.getD i dE∈l:=by simp[List.getD,KF h]
def ip (b:List Int):Prop:=∀x∈b,0≤x∧x≤255
theorem dy {b:List Int} (h:ip b) (i:Nat):0≤b.getD i 0∧b.getD i 0≤255:=by
 by_cases hi:i<b.length
 ·simp only[List.getD,KF hi,MG]
  exact h _ (Mx hi)
 ·simp[List.getD,Lo (Nat.le_of_not_lt hi)]
structure Sg where
 KC:List Int
 I:List Int
 KB:List Mm
 data:Bool
def Sg.sc (s:Sg):Sc:=⟨s.KC,s.KB.map (·.w),if s.data then s.I else []⟩
def dz (v w:Int):Ex:=⟨1,e0,⟨v%2^w.toNat,e0⟩,⟨w,e0⟩,[]⟩
def BA (i:Nat):Ex:=⟨16,e0,⟨i,e0⟩,dN,[]⟩
def Dp (i:Nat):Ex:=⟨18,e0,⟨i,e0⟩,dN,[]⟩
def dJ (f:Nat→Ex) (w:Int) (l:List Int):Nat→List Ex
 | 0=>[]
 | k+1=>dJ f w l k++(if l.getD k 0=w then [f k]else [])
def b5 (s:Sg) (w:Int):List Ex:=dJ BA w s.KC s.KC.length++(if s.data then dJ Dp w s.I s.I.length else [])
def aR (s:Sg) (w b:Int):Ex:=if (b5 s w).length=0∨b%4=0 then dz (b / 4) w else (b5 s w).getD (b / 4%(b5 s w).length).toNat dE
def lM (l:List Mm) (w:Int):Nat→Nat→Option Nat
 | 0,_=>none
 | n+1,k=>if (l.getD k a7).w=w then some k else lM l w n (k+1)
def gt (k:Int):Int:=[2,3,4,5,6,7,10,8,9,11].getD (k-4).toNat 0
def o0 (y w:Int):Int:=let o:=gt (y%14);if (o=8∨o=9)∧w>1 then 5 else if o=11∧w=1 then 3 else o
def hE (y w:Int):List Int:=let o:=gt (y%14)
 if o=2 then [w]else if o=10 then [1,w,w]else if o=8∨o=9 then (if w>1 then [w,w]else [1+y / 14%3,1+y / 14%3])else if o=11 then (if w=1 then [w,w]else [w-1,1])else [w,w]
def a4 (t:Nat→Int→Ex×Nat):List Int→Nat→List Ex×Nat
 | [],i=>([],i)
 | w::r,i=>((t i w).1::(a4 t r (t i w).2).1,(a4 t r (t i w).2).2)
def bf (s:Sg) (t:Nat→Int→Ex×Nat) (w b:Int) (i:Nat):Ex×Nat :=
 match (if b%3=0 then lM s.KB w s.KB.length 0 else none)with
 | some m=>let x:=t i (1+b / 3%3);(⟨17,e0,⟨m,e0⟩,dN,[x.1]⟩,x.2)
 | none=>if b%3=1∧w>1 then let x:=t i (w-1);(⟨13,e0,dN,⟨w,e0⟩,[x.1]⟩,x.2)
  else let x:=t i (w+b / 3%2);(⟨12,e0,⟨b / 3%2,e0⟩,⟨w,e0⟩,[x.1]⟩,x.2)
def aj (s:Sg) (b:List Int):Nat→Nat→Int→Ex×Nat
 | 0,i,w=>(aR s w (b.getD i 0 / 14),i+1)
 | d+1,i,w =>
  let y:=b.getD i 0
  if d=0∨y%14<2 then (aR s w (y / 14),i+1)
  else if y%14=2∨y%14=3 then bf s (aj s b d) w (y / 14) (i+1)
  else (⟨o0 y w,e0,dN,dN,(a4 (aj s b d) (hE y w) (i+1)).1⟩,(a4 (aj s b d) (hE y w) (i+1)).2)
theorem z7 {s:Sg} {w:Int} {Nw:List Ex} {j:Nat} (h:Nw=dJ BA w s.KC s.KC.length++dJ Dp w s.I j) (h0:s.data=false→j=0) (h1:s.data=true→j=s.I.length):Nw=b5 s w:=by
 rw[h];unfold b5
 cases hs:s.data
 ·rw[h0 hs];simp[dJ]
 ·rw[h1 hs];simp
theorem kU {f:Nat→Ex} {w:Int} {l:List Int} {k:Nat} (h:l.getD k 0=w):dJ f w l k++[f k]=dJ f w l (k+1):=by rw[dJ,KT h]
theorem ns {f:Nat→Ex} {w:Int} {l:List Int} {k:Nat} (h:¬l.getD k 0=w):dJ f w l k=dJ f w l (k+1):=by rw[dJ,KK h,K9]
theorem Fm (s:Sg) (w:Int):(b5 s w).length≤s.KC.length+s.I.length:=by
 have key:∀(f:Nat→Ex) (l:List Int) (k:Nat),(dJ f w l k).length≤k:=by
  intro f l k
  induction k with
  | zero=>simp[dJ]
  | succ k ih=>rw[dJ];simp only[KN];split<;>simp<;>omega
 unfold b5
 have h1:=key BA s.KC s.KC.length
 have h2:=key Dp s.I s.I.length
 rw[KN]
 split
 ·omega
 ·simp;omega
theorem o6 {f:Nat→Ex} {w:Int} {l:List Int} {e:Ex}:∀(k:Nat),e∈dJ f w l k→∃i,i<k∧e=f i∧l.getD i 0=w
 | 0,h=>by cases h
 | k+1,h=>by
  rw[dJ,LL]at h
  rcases h with h | h
  ·obtain⟨i,h1,h2⟩:=o6 k h;exact⟨i,by omega,h2⟩
  ·split at h
   ·rename_i hw
    simp only[Mc]at h
    exact⟨k,by omega,h,hw⟩
   ·cases h
theorem GU {c:Sc} {v w:Int} (hw:aD w=true):dR c (dz v w)=some w:=by
 have h:=aJ.1 hw
 unfold dz
 rw[dR,dR.tyL]
 simp only
 rw[KK (by decide),KK (by decide),KK (by decide)]
 have hm:=qB (x:=v) (w:=w) (by omega) (by omega)
 have e:dW 1 [] (v%2^w.toNat) w=w:=by
  show(if aD w=false∨v%2^w.toNat<0∨aB w<v%2^w.toNat then 0 else w)=w
  rw[KK]
  rintro(h1 | h1 | h1)
  ·rw[hw]at h1;cases h1
  ·have:=hm.1;omega
  ·have:=hm.2;omega
 have ho:gQ 1 [] (v%2^w.toNat) w=true:=by
  unfold gQ
  rw[e,hw]
  rfl
 rw[KT ho,e]
theorem Dq {s:Sg} {w:Int} {e:Ex} (h:e∈b5 s w):dR s.sc e=some w∧e.args=[]∧eL e=1:=by
 unfold b5 at h
 rw[LL]at h
 rcases h with h | h
 ·obtain⟨i,h1,rfl,h2⟩:=o6 _ h
  refine⟨?_,rfl,rfl⟩
  unfold BA
  rw[dR,dR.tyL]
  simp only
  rw[KT trivial,KT ⟨by trivial,by simp,by show((i:Nat):Int)<(s.KC.length:Int);omega⟩]
  show some (s.KC.getD (i:Int).toNat 0)=some w
  rw[Ly,h2]
 ·split at h
  ·rename_i hd
   obtain⟨i,h1,rfl,h2⟩:=o6 _ h
   refine⟨?_,rfl,rfl⟩
   have ht:s.sc.tw=s.I:=by show(if s.data then s.I else [])=s.I;rw[KT hd]
   unfold Dp
   rw[dR,dR.tyL]
   simp only
   rw[KK (by decide),KT trivial,ht,KT ⟨by trivial,by simp,by omega⟩,Ly,h2]
  ·cases h
theorem z8 {s:Sg} {w b:Int} (hw:aD w=true) (hb:0≤b):dR s.sc (aR s w b)=some w∧(aR s w b).args=[]∧eL (aR s w b)=1:=by
 unfold aR
 split
 ·exact⟨GU hw,rfl,rfl⟩
 ·rename_i hn
  simp only[not_or]at hn
  have h1:=Mj (b / 4) (show(0:Int)<((b5 s w).length:Int) by omega)
  have h0:=Mo (b / 4) (show((b5 s w).length:Int)≠0 by omega)
  exact Dq (kT (by omega))
theorem ug {l:List Mm} {w:Int}:∀{n k m:Nat},lM l w n k=some m→k≤m∧m<k+n∧(l.getD m a7).w=w
 | 0,k,m,h=>by cases h
 | n+1,k,m,h=>by
  rw[lM]at h
  split at h
  ·rename_i hw;cases h;exact⟨by omega,by omega,hw⟩
  ·obtain⟨h1,h2,h3⟩:=ug h;exact⟨by omega,by omega,h3⟩
theorem wY {t:Nat→Int→Ex×Nat}:∀(ws:List Int) (i:Nat),(a4 t ws i).1.length=ws.length
 | [],i=>rfl
 | w::r,i=>by rw[a4];simp[wY r]
theorem z9 {c:Sc} {t:Nat→Int→Ex×Nat}:∀(ws:List Int) (i:Nat),(∀w∈ws,∀i,dR c (t i w).1=some w)→dR.tyL c (a4 t ws i).1=some ws
 | [],i,_=>rfl
 | w::r,i,h=>by
  rw[a4,dR.tyL,h w (by simp) i,z9 r _ (fun w hw=>h w (by simp[hw]))]
theorem wZ {t:Nat→Int→Ex×Nat} {n:Nat}:∀(ws:List Int) (i:Nat),(∀w∈ws,∀i,eL (t i w).1≤n)→eL.depL (a4 t ws i).1≤n
 | [],i,_=>by rw[a4,eL.depL];exact Mf _
 | w::r,i,h=>by
  rw[a4,eL.depL]
  have h1:=h w (by simp) i
  have h2:=wZ r (t i w).2 (fun w hw=>h w (by simp[hw]))
  omega
theorem rX {t:Nat→Int→Ex×Nat} {n:Nat}:∀(ws:List Int) (i:Nat),(∀w∈ws,∀i,i≤(t i w).2∧(t i w).2≤i+n)→i≤(a4 t ws i).2∧(a4 t ws i).2≤i+n*ws.length
 | [],i,_=>⟨KI _,Nat.le_add_right _ _⟩
 | w::r,i,h=>by
  rw[a4]
  have h1:=h w (by simp) i
  have h2:=rX r (t i w).2 (fun w hw=>h w (by simp[hw]))
  have:n*(w::r).length=n*r.length+n:=by rw[K1,Nat.mul_succ]
  show i≤(a4 t r (t i w).2).2∧(a4 t r (t i w).2).2≤i+n*(w::r).length
  omega
theorem BB {k:Int} (h:4≤k) (h2:k<14):gt k=2∨gt k=3∨gt k=4∨gt k=5∨gt k=6∨gt k=7∨gt k=10∨gt k=8∨gt k=9∨gt k=11:=by
 have:k=4∨k=5∨k=6∨k=7∨k=8∨k=9∨k=10∨k=11∨k=12∨k=13:=by omega
 rcases this with rfl | rfl | rfl | rfl | rfl | rfl | rfl | rfl | rfl | rfl<;>decide
theorem xO {op:Int} {w k v:Int} (N0:op=3∨op=4∨op=5∨op=6∨op=7) (hw:aD w=true):gQ op [w,w] k v=true∧dW op [w,w] k v=w:=by
 have e:∀op,dW op [w,w] k v=w∨True:=fun _=>.inr trivial
 have ha:bN [w,w]=w:=by unfold bN;rw[KK (by simp)];rfl
 have hv:dW op [w,w] k v=bN [w,w]:=by rcases N0 with rfl | rfl | rfl | rfl | rfl<;>rfl
 have hA:cy op=2:=by rcases N0 with rfl | rfl | rfl | rfl | rfl<;>decide
 refine⟨?_,by rw[hv,ha]⟩
 unfold gQ
 rw[hv,ha,hA]
 simp[hw]
theorem Dr {y w:Int} (hk:4≤y%14) (h0:0≤y) (hw:1≤w) (hw8:w≤8):gQ (o0 y w) (hE y w) 0 0=true∧dW (o0 y w) (hE y w) 0 0=w∧(o0 y w≠16∧o0 y w≠18∧o0 y w≠17)∧(∀v∈hE y w,1≤v∧(v≤w∨v≤3))∧(hE y w).length≤3:=by
 have hf:aD w=true:=aJ.2 ⟨hw,hw8⟩
 have hc:=BB hk (by omega)
 unfold o0 hE
 simp only
 have hn:(1:Int)≤1+y / 14%3∧1+y / 14%3≤3:=by omega
 generalize hv:1+y / 14%3=v at *
 have N5:aD v=true:=aJ.2 ⟨hn.1,by omega⟩
 rcases hc with h | h | h | h | h | h | h | h | h | h<;>rw[h]<;>simp only[Int.reduceEq,false_or,or_false,false_and,L6,true_and,L9,or_true,true_or]
 ·refine⟨?_,rfl,by decide,by simp;omega,by simp⟩
  show(decide (([w].length:Int)=cy 2)&&[w].all aD&&aD w)=true
  simp[hf];decide
 ·exact⟨(xO (by simp) hf).1,(xO (by simp) hf).2,by decide,by simp;omega,by simp⟩
 ·exact⟨(xO (by simp) hf).1,(xO (by simp) hf).2,by decide,by simp;omega,by simp⟩
 ·exact⟨(xO (by simp) hf).1,(xO (by simp) hf).2,by decide,by simp;omega,by simp⟩
 ·exact⟨(xO (by simp) hf).1,(xO (by simp) hf).2,by decide,by simp;omega,by simp⟩
 ·exact⟨(xO (by simp) hf).1,(xO (by simp) hf).2,by decide,by simp;omega,by simp⟩
 ·have e:dW 10 [1,w,w] 0 0=w:=by
   show(if (1:Int)≠1∨w≠w then 0 else w)=w
   rw[KK (by simp)]
  refine⟨?_,e,by decide,by simp;omega,by simp⟩
  unfold gQ
  rw[e]
  simp[hf];decide
 ·split
  ·exact⟨(xO (by simp) hf).1,(xO (by simp) hf).2,by decide,by simp;omega,by simp⟩
  ·have Q0:w=1:=by omega
   subst Q0
   have ha:bN [v,v]=v:=by unfold bN;rw[KK (by simp)];rfl
   have e:dW 8 [v,v] 0 0=1:=by
    show min (bN [v,v]) 1=1
    rw[ha];omega
   refine⟨?_,e,by decide,by simp;omega,by simp⟩
   unfold gQ
   rw[e]
   simp[N5];decide
 ·split
  ·exact⟨(xO (by simp) hf).1,(xO (by simp) hf).2,by decide,by simp;omega,by simp⟩
  ·have Q0:w=1:=by omega
   subst Q0
   have ha:bN [v,v]=v:=by unfold bN;rw[KK (by simp)];rfl
   have e:dW 9 [v,v] 0 0=1:=by
    show min (bN [v,v]) 1=1
    rw[ha];omega
   refine⟨?_,e,by decide,by simp;omega,by simp⟩
   unfold gQ
   rw[e]
   simp[N5];decide
 ·split
  ·exact⟨(xO (by simp) hf).1,(xO (by simp) hf).2,by decide,by simp;omega,by simp⟩
  ·have e:dW 11 [w-1,1] 0 0=w:=by
    show(w-1)+1=w
    omega
   have Q1:aD (w-1)=true:=aJ.2 ⟨by omega,by omega⟩
   refine⟨?_,e,by decide,by simp;omega,by simp⟩
   unfold gQ
   rw[e]
   simp[hf,Q1];decide
theorem rY {s:Sg} {b:List Int} (hb:ip b):∀(d i:Nat) (w:Int),d≤3→1≤w→w+d≤8→dR s.sc (aj s b d i w).1=some w∧eL (aj s b d i w).1≤max d 1∧i≤(aj s b d i w).2∧(aj s b d i w).2≤i+4^d:=by
 intro d
 induction d with
 | zero =>
  intro i w h3 h1 h2
  have hy:=dy hb i
  obtain⟨q1,q2,q3⟩:=z8 (s:=s) (w:=w) (b:=b.getD i 0 / 14) (aJ.2 ⟨h1,by omega⟩) (by omega)
  rw[aj]
  exact⟨q1,by show eL (aR s w (b.getD i 0 / 14))≤1;omega,by show i≤i+1;omega,by show i+1≤i+4^0;omega⟩
 | succ d ih =>
  intro i w h3 h1 h2
  have hy:=dy hb i
  have hp:1≤4^d:=Nat.one_le_pow _ _ (by omega)
  have hpow:4^(d+1)=4*4^d:=by rw[Nat.pow_succ];omega
  rw[aj]
  split
  ·obtain⟨q1,q2,q3⟩:=z8 (s:=s) (w:=w) (b:=b.getD i 0 / 14) (aJ.2 ⟨h1,by omega⟩) (by omega)
   exact⟨q1,by show eL (aR s w (b.getD i 0 / 14))≤_;omega,by show i≤i+1;omega,by show i+1≤i+4^(d+1);omega⟩
  ·rename_i hn
   simp only[not_or]at hn
   split
   ·generalize hz:b.getD i 0 / 14=z
    have hz0:0≤z:=by omega
    unfold bf
    split
    ·rename_i m hm
     split at hm
     ·obtain⟨e1,e2,e3⟩:=ug hm
      obtain⟨q1,q2,q3,q4⟩:=ih (i+1) (1+z / 3%3) (by omega) (by omega) (by omega)
      refine⟨?_,?_,by simp only;omega,by simp only;omega⟩
      ·simp only
       rw[dR,dR.tyL,q1,dR.tyL]
       simp only
       rw[KK (by decide),KK (by decide),KT trivial]
       have hl:(s.sc.mw.length:Int)=s.KB.length:=by show((s.KB.map (·.w)).length:Int)=_;simp
       rw[KT ⟨rfl,by simp,by rw[hl];show((m:Nat):Int)<_;omega⟩]
       show some ((s.KB.map (·.w)).getD (m:Int).toNat 0)=some w
       rw[Ly,cI (·.w) s.KB m a7 0 (by omega),e3]
      ·rw[eL,eL.depL,eL.depL];omega
     ·cases hm
    ·rename_i hm
     split
     ·rename_i hc
      obtain⟨q1,q2,q3,q4⟩:=ih (i+1) (w-1) (by omega) (by omega) (by omega)
      refine⟨?_,?_,by simp only;omega,by simp only;omega⟩
      ·simp only
       rw[dR,dR.tyL,q1,dR.tyL]
       simp only
       rw[KK (by decide),KK (by decide),KK (by decide)]
       have e:dW 13 [w-1] 0 w=w:=by
        show(if w<w-1 then 0 else w)=w
        rw[KK (by omega)]
       have ho:gQ 13 [w-1] 0 w=true:=by
        unfold gQ
        rw[e]
        have f1:aD w=true:=aJ.2 ⟨h1,by omega⟩
        have f2:aD (w-1)=true:=aJ.2 ⟨by omega,by omega⟩
        simp[f1,f2];decide
       rw[KT ho,e]
      ·rw[eL,eL.depL,eL.depL];omega
     ·have hm2:z / 3%2=0∨z / 3%2=1:=by omega
      obtain⟨q1,q2,q3,q4⟩:=ih (i+1) (w+z / 3%2) (by omega) (by omega) (by omega)
      refine⟨?_,?_,by simp only;omega,by simp only;omega⟩
      ·simp only
       rw[dR,dR.tyL,q1,dR.tyL]
       simp only
       rw[KK (by decide),KK (by decide),KK (by decide)]
       have f1:aD w=true:=aJ.2 ⟨h1,by omega⟩
       have f2:aD (w+z / 3%2)=true:=aJ.2 ⟨by omega,by omega⟩
       have e:dW 12 [w+z / 3%2] (z / 3%2) w=w:=by
        show(if aD w=false∨z / 3%2<0∨(w+z / 3%2)-w<z / 3%2 then 0 else w)=w
        rw[KK]
        rintro(hh | hh | hh)
        ·rw[f1]at hh;cases hh
        ·omega
        ·omega
       have ho:gQ 12 [w+z / 3%2] (z / 3%2) w=true:=by
        unfold gQ
        rw[e]
        simp[f1,f2];decide
       rw[KT ho,e]
      ·rw[eL,eL.depL,eL.depL];omega
   ·obtain⟨o1,o2,o3,o4,o5⟩:=Dr (y:=b.getD i 0) (w:=w) (by omega) hy.1 h1 (by omega)
    have key:∀v∈hE (b.getD i 0) w,∀i,dR s.sc (aj s b d i v).1=some v∧eL (aj s b d i v).1≤max d 1∧i≤(aj s b d i v).2∧(aj s b d i v).2≤i+4^d:=by
     intro v hv j
     have:=o4 v hv
     exact ih j v (by omega) this.1 (by omega)
    have hty:=z9 (c:=s.sc) (t:=aj s b d) (hE (b.getD i 0) w) (i+1) (fun v hv j=>(key v hv j).1)
    have hdp:=wZ (t:=aj s b d) (n:=max d 1) (hE (b.getD i 0) w) (i+1) (fun v hv j=>(key v hv j).2.1)
    have hps:=rX (t:=aj s b d) (n:=4^d) (hE (b.getD i 0) w) (i+1) (fun v hv j=>(key v hv j).2.2)
    refine⟨?_,?_,by simp only;omega,?_⟩
    ·rw[dR,hty]
     simp only
     rw[KK o3.1,KK o3.2.1,KK o3.2.2,KT o1,o2]
    ·rw[eL];omega
    ·simp only
     have:4^d*(hE (b.getD i 0) w).length≤4^d*3:=Mu _ o5
     omega
theorem Ds {s:Sg} {w b:Int} (h:(b5 s w).length=0∨b%4=0):aR s w b=dz (b / 4) w:=KT h
theorem Dt {s:Sg} {w b:Int} (h1:¬((b5 s w).length:Int)=0) (h2:¬b%4=0):aR s w b=(b5 s w).getD (b / 4%((b5 s w).length:Int)).toNat dE:=KK (by rintro(h | h)<;>omega)
theorem uj (s:Sg) (w b:Int):(aR s w b).args=[]:=by
 unfold aR
 split
 ·rfl
 ·by_cases h:(b / 4%((b5 s w).length:Int)).toNat<(b5 s w).length
  ·exact(Dq (kT h)).2.1
  ·rw[List.getD,Lo (by omega)];rfl
theorem HZ {s:Sg} {t:Nat→Int→Ex×Nat} {w b:Int} {i k:Nat} (h:b%3=0) (hm:lM s.KB w s.KB.length 0=some k):bf s t w b i=(⟨17,e0,⟨k,e0⟩,dN,[(t i (1+b / 3%3)).1]⟩,(t i (1+b / 3%3)).2):=by
 unfold bf;rw[KT h,hm]
theorem Du {s:Sg} {t:Nat→Int→Ex×Nat} {w b:Int} {i:Nat} (h:b%3=1) (hw:w>1):bf s t w b i=(⟨13,e0,dN,⟨w,e0⟩,[(t i (w-1)).1]⟩,(t i (w-1)).2):=by
 unfold bf;rw[KK (by omega)];simp only;rw[KT ⟨h,hw⟩]
theorem Dv {s:Sg} {t:Nat→Int→Ex×Nat} {w b:Int} {i:Nat} (hm:b%3=0→lM s.KB w s.KB.length 0=none) (h:¬(b%3=1∧w>1)):bf s t w b i=(⟨12,e0,⟨b / 3%2,e0⟩,⟨w,e0⟩,[(t i (w+b / 3%2)).1]⟩,(t i (w+b / 3%2)).2):=by
 unfold bf
 have e:(if b%3=0 then lM s.KB w s.KB.length 0 else none)=none:=by split;exact hm ‹_›;rfl
 rw[e];simp only;rw[KK h]
theorem Aa {l:List Mm} {w:Int} {k:Nat} (hk:k<l.length) (h:¬(l.getD k a7).w=w):lM l w (l.length-k) k=lM l w (l.length-(k+1)) (k+1):=by
 have e:l.length-k=(l.length-(k+1))+1:=by omega
 rw[e,lM,KK h]
theorem Dw {l:List Mm} {w:Int} {k:Nat} (hk:k<l.length) (h:(l.getD k a7).w=w):lM l w (l.length-k) k=some k:=by
 have e:l.length-k=(l.length-(k+1))+1:=by omega
 rw[e,lM,KT h]
theorem rZ {l:List Mm} {w:Int} {k:Nat} (hk:¬k<l.length):lM l w (l.length-k) k=none:=by
 have e:l.length-k=0:=by omega
 rw[e,lM]
theorem Dx {s:Sg} {b:List Int} {d i:Nat} {w:Int} (h:d≤1):aj s b d i w=(aR s w (b.getD i 0 / 14),i+1):=by
 cases d with
 | zero=>rfl
 | succ d=>rw[aj];rw[KT (.inl (by omega))]
theorem GV {s:Sg} {b:List Int} {d i:Nat} {w:Int} (h:b.getD i 0%14<2):aj s b (d+1+1) i w=(aR s w (b.getD i 0 / 14),i+1):=by
 rw[aj];rw[KT (.inr h)]
theorem Dy {s:Sg} {b:List Int} {d i:Nat} {w:Int} (h:b.getD i 0%14=2∨b.getD i 0%14=3):aj s b (d+1+1) i w=bf s (aj s b (d+1)) w (b.getD i 0 / 14) (i+1):=by
 rw[aj];rw[KK (by omega),KT h]
theorem yA {s:Sg} {b:List Int} {d i:Nat} {w:Int} (h:¬b.getD i 0%14<2) (h2:¬b.getD i 0%14=2) (h3:¬b.getD i 0%14=3):aj s b (d+1+1) i w=(⟨o0 (b.getD i 0) w,e0,dN,dN,(a4 (aj s b (d+1)) (hE (b.getD i 0) w) (i+1)).1⟩,(a4 (aj s b (d+1)) (hE (b.getD i 0) w) (i+1)).2):=by
 rw[aj];rw[KK (by omega),KK (by omega)]
theorem o7 {t:Nat→Int→Ex×Nat}:∀(l:List Int) (i k:Nat),k<l.length→a4 t (l.take (k+1)) i=((a4 t (l.take k) i).1++[(t (a4 t (l.take k) i).2 (l.getD k 0)).1],(t (a4 t (l.take k) i).2 (l.getD k 0)).2)
 | [],i,k,h=>by cases h
 | w::r,i,0,h=>by simp[a4]
 | w::r,i,k+1,h=>by
  simp only[MJ,a4]
  rw[o7 r _ k (by simpa using h)]
  simp
theorem GW {s:Sg} {b:List Int} (hb:ip b) {y w:Int} {d k:Nat} (i:Nat) (h1:1≤w) (h2:w+(d+2:Nat)≤8) (h3:d+2≤3) (hy:4≤y%14) (hy0:0≤y) (hk:k<(hE y w).length):1≤(hE y w).getD k 0∧(hE y w).getD k 0+(d+1:Nat)≤8∧i≤(a4 (aj s b (d+1)) ((hE y w).take k) i).2∧(a4 (aj s b (d+1)) ((hE y w).take k) i).2+4^(d+1)+1≤i+4^(d+2):=by
 obtain⟨o1,o2,o3,o4,o5⟩:=Dr hy hy0 h1 (by omega:w≤8)
 have hm:(hE y w).getD k 0∈hE y w:=by
  rw[List.getD,KF hk];exact Mx hk
 have hv:=o4 _ hm
 have hps:=rX (t:=aj s b (d+1)) (n:=4^(d+1)) ((hE y w).take k) i (fun v hv j=>by
  have hh:=o4 v (List.mem_of_mem_take hv)
  exact(rY hb (d+1) j v (by omega) hh.1 (by omega)).2.2)
 have hl:((hE y w).take k).length≤2:=by rw[KV];omega
 have hq:4^(d+1)*((hE y w).take k).length≤4^(d+1)*2:=Mu _ hl
 have hp:1≤4^(d+1):=Nat.one_le_pow _ _ (by omega)
 have hpow:4^(d+2)=4*4^(d+1):=by rw[Nat.pow_succ];omega
 exact⟨hv.1,by omega,hps.1,by omega⟩
theorem Kh {x:Int} {n:Nat} (h:¬(n:Int)=0):IX (x%(n:Int)) (n:Int):=⟨Mo x h,Mj x (by omega)⟩
def tab {α:Type} (f:Nat→α) (n:Nat):List α:=(List.range n).map f
theorem r6 {α:Type} (f:Nat→α) (n:Nat):tab f (n+1)=tab f n++[f n]:=by simp[tab,List.range_succ]
theorem ay {α:Type} (f:Nat→α) (n:Nat):(tab f n).length=n:=by simp[tab]
theorem bq {α:Type} {f:Nat→α} {n i:Nat} {d:α} (h:i<n):(tab f n).getD i d=f i:=by
 simp[tab,List.getD,KF,h]
theorem Fo {α:Type} {f:Nat→α} {n i:Nat} {d:α} (h:n≤i):(tab f n).getD i d=d:=by
 rw[List.getD,Lo (by rw[ay];exact h)];rfl
theorem km {α:Type} {a b:List α} {d:α} (hl:a.length=b.length) (h:∀i,i<a.length→a.getD i d=b.getD i d):a=b:=by
 apply Mw hl
 intro i h1 h2
 have:=h i h1
 simpa[List.getD,KF h1,KF h2]using this
theorem Ab {α β:Type} {l:List α} {d:α} (f:α→β):l.map f=tab (fun i=>f (l.getD i d)) l.length:=by
 apply Mw
 ·simp[ay]
 ·intro i h1 h2;rw[KM]at h1;simp[tab,List.getD,KF h1]
theorem Fp {α:Type} {f:Nat→α} {l:List α} {k:Nat} (hk:k<l.length):(tab f k++l.drop k).set k (f k)=tab f (k+1)++l.drop (k+1):=by
 rw[List.set_append_right _ _ (by rw[ay];omega),ay,Nat.sub_self,r6,Ls]
 congr 1
 rw[List.drop_eq_getElem_cons hk];rfl
theorem Dz {α:Type} {f:Nat→α} {l:List α} {k:Nat} (hk:l.length≤k):tab f k++l.drop k=tab f k:=by rw[List.drop_eq_nil_of_le hk,K9]
theorem eM {α:Type} {l:List α} {i j:Nat} {x d:α} (h:i<l.length):(l.set i x).getD j d=if i=j then x else l.getD j d:=by
 simp only[List.getD,Ms]
 split
 ·rename_i e;subst e;simp[h]
 ·rfl
def dk (f:Nat→Bool):Nat→Bool
 | 0=>true
 | n+1=>dk f n&&f n
theorem bo {f:Nat→Bool}:∀{n:Nat},dk f n=true↔∀i,i<n→f i=true
 | 0=>⟨fun _ i hi=>absurd hi (MK _),fun _=>rfl⟩
 | n+1=>by
  rw[dk,KD,bo]
  constructor
  ·rintro⟨h1,h2⟩ i hi
   rcases Nat.lt_or_ge i n with h | h
   ·exact h1 i h
   ·rw[show i=n by omega];exact h2
  ·intro h;exact⟨fun i hi=>h i (by omega),h n (by omega)⟩
theorem eZ {f:Nat→Bool} {n i:Nat} (hi:i<n) (h:f i=false):dk f n=false:=by
 cases hh:dk f n
 ·rfl
 ·rw[bo.1 hh i hi]at h;cases h
def dV (p:Pr) (s:Ps) (data:List Int) (e:Ex):Bool:=decide ((bu p s data e).1=1)
def l7 (p:Pr):List Int:=List.replicate p.I.length 0
abbrev oz (p:Pr) (i:Nat):Tk:=p.I.getD i cU
abbrev sZ (p:Pr) (i:Nat):Pt:=p.KA.getD i dj
abbrev BC (p:Pr) (i:Nat):Rg:=p.KC.getD i bE
abbrev jH (p:Pr) (i:Nat):Mm:=p.KB.getD i a7
def BD (p:Pr) (s:Ps) (hs:List Hd) (i:Nat):Int:=if dV p s (l7 p) (oz p i).when=true∧(hs.getD i cz).has=true then (hs.getD i cz).v else 0
def bG (p:Pr) (s:Ps) (hs:List Hd):List Int:=tab (BD p s hs) p.I.length
def xP (p:Pr) (s:Ps) (data:List Int) (i:Nat):List Int :=
 if dV p s data (jH p i).enable=true then (s.KB.getD i []).set (Int.tmod (bu p s data (jH p i).addr).1 (jH p i).words).toNat (bu p s data (jH p i).data).1 else s.KB.getD i []
def dm (p:Pr) (s:Ps) (data:List Int):Ps:=⟨tab (fun i=>(bu p s data (BC p i).next).1) p.KC.length,tab (xP p s data) p.KB.length⟩
def r7 (p:Pr) (s:Ps) (hs:List Hd) (i:Nat):Bool:=(hs.getD i cz).has||!dV p s (bG p s hs) (oz p i).when
def r8 (p:Pr) (s:Ps) (hs:List Hd) (rs:List Bool) (i:Nat):Bool:=rs.getD i false||!dV p s (bG p s hs) (sZ p i).when
def gu (p:Pr) (s:Ps) (hs:List Hd) (rs:List Bool):Bool:=dk (r7 p s hs) p.I.length&&dk (r8 p s hs rs) p.KA.length
def DA (p:Pr) (s:Ps) (hs:List Hd) (i:Nat):Bool:=dV p s (bG p s hs) (oz p i).when
def BE (p:Pr) (s:Ps) (hs:List Hd) (i:Nat):Hd:=if dV p s (bG p s hs) (sZ p i).when=true then ⟨true,(bu p s (bG p s hs) (sZ p i).data).1⟩else cz
def a8 (p:Pr) (s:Ps) (hs:List Hd) (rs:List Bool):Fi :=
 if gu p s hs rs=true then ⟨true,dm p s (bG p s hs),tab (DA p s hs) p.I.length,tab (BE p s hs) p.KA.length⟩
 else ⟨false,s,List.replicate p.I.length false,List.replicate p.KA.length cz⟩
def aI (p:Pr):Ps:=⟨p.KC.map (·.init),p.KB.map (fun m=>List.replicate m.words.toNat 0)⟩
def co (v w:Int):Bool:=decide (0≤v)&&decide (v≤aB w)
theorem w3 {v w:Int}:co v w=true↔cH v w:=by simp[co,cH]
def gv (p:Pr) (s:Ps) (i:Nat):Bool:=decide (((s.KB.getD i []).length:Int)=(jH p i).words)&&dk (fun j=>co ((s.KB.getD i []).getD j 0) (jH p i).w) (s.KB.getD i []).length
def bx (p:Pr) (s:Ps):Bool:=decide (s.KC.length=p.KC.length)&&decide (s.KB.length=p.KB.length)&&dk (fun i=>co (s.KC.getD i 0) (BC p i).w) s.KC.length&&dk (gv p s) s.KB.length
def nu (p:Pr):Sc:=⟨p.KC.map (·.w),p.KB.map (·.w),p.I.map (·.w)⟩
def J7 (p:Pr):Sc:=⟨p.KC.map (·.w),p.KB.map (·.w),[]⟩
structure iG (p:Pr):Prop where
 rl:p.KC.length≤100
 ml:p.KB.length≤100
 tl:p.I.length≤100
 pl:p.KA.length≤100
 rw:∀i,i<p.KC.length→aD (BC p i).w=true∧cH (BC p i).init (BC p i).w∧dR (nu p) (BC p i).next=some (BC p i).w∧eL (BC p i).next≤3
 mw:∀i,i<p.KB.length→aD (jH p i).w=true∧(1≤(jH p i).words∧(jH p i).words≤4)∧(dR (nu p) (jH p i).enable=some 1∧eL (jH p i).enable≤3)∧((∃v,dR (nu p) (jH p i).addr=some v)∧eL (jH p i).addr≤3)∧dR (nu p) (jH p i).data=some (jH p i).w∧eL (jH p i).data≤3
 tw:∀i,i<p.I.length→aD (oz p i).w=true∧dR (J7 p) (oz p i).when=some 1∧eL (oz p i).when≤3
 pw:∀i,i<p.KA.length→aD (sZ p i).w=true∧(dR (nu p) (sZ p i).when=some 1∧eL (sZ p i).when≤3)∧dR (nu p) (sZ p i).data=some (sZ p i).w∧eL (sZ p i).data≤3
structure nx (p:Pr) (s:Ps):Prop where
 rl:s.KC.length=p.KC.length
 rv:∀i,i<p.KC.length→cH (s.KC.getD i 0) (BC p i).w
 ml:s.KB.length=p.KB.length
 mn:∀i,i<p.KB.length→((s.KB.getD i []).length:Int)=(jH p i).words
 mv:∀i,i<p.KB.length→∀j,j<(s.KB.getD i []).length→cH ((s.KB.getD i []).getD j 0) (jH p i).w
structure BF (p:Pr) (d:List Int):Prop where
 l:d.length=p.I.length
 v:∀i,i<p.I.length→cH (d.getD i 0) (oz p i).w
structure BG (p:Pr) (hs:List Hd):Prop where
 l:hs.length=p.I.length
 v:∀i,i<p.I.length→(hs.getD i cz).has=true→cH (hs.getD i cz).v (oz p i).w
theorem BH {p:Pr} {s:Ps}:bx p s=true↔nx p s:=by
 unfold bx gv
 simp only[KD,Lu,bo,w3]
 constructor
 ·rintro⟨⟨⟨h1,h2⟩,h3⟩,h4⟩
  exact⟨h1,fun i hi=>h3 i (by omega),h2,fun i hi=>(h4 i (by omega)).1,fun i hi=>(h4 i (by omega)).2⟩
 ·intro h
  exact⟨⟨⟨h.rl,h.ml⟩,fun i hi=>h.rv i (by have:=h.rl;omega)⟩,fun i hi=>⟨h.mn i (by have:=h.ml;omega),h.mv i (by have:=h.ml;omega)⟩⟩
set_option maxHeartbeats 1600000 in
theorem gw {p:Pr} {s:Ps} {d:List Int} (hp:iG p) (hs:nx p s) (hd:BF p d):te (nu p) p s d where
 prl:=by simp[nu]
 prw:=fun i hi=>by
  have NK:i<p.KC.length:=by simpa[nu]using hi
  show(p.KC.getD i bE).w=(p.KC.map (·.w)).getD i 0
  rw[cI (·.w) p.KC i bE 0 NK]
 pml:=by simp[nu]
 pmw:=fun i hi=>by
  have NK:i<p.KB.length:=by simpa[nu]using hi
  show(p.KB.getD i a7).w=(p.KB.map (·.w)).getD i 0
  rw[cI (·.w) p.KB i a7 0 NK]
 ptl:=by simp[nu]
 ptw:=fun i hi=>by
  have NK:i<p.I.length:=by simpa[nu]using hi
  show(p.I.getD i cU).w=(p.I.map (·.w)).getD i 0
  rw[cI (·.w) p.I i cU 0 NK]
 srl:=(hs.rl).trans (by simp[nu])
 srv:=fun i hi=>by
  have NK:i<p.KC.length:=by simpa[nu]using hi
  show cH _ ((p.KC.map (·.w)).getD i 0)
  rw[cI (·.w) p.KC i bE 0 NK]
  exact hs.rv i NK
 sml:=(hs.ml).trans (by simp[nu])
 smn:=fun i hi=>by
  have NK:i<p.KB.length:=by simpa[nu]using hi
  have:=hs.mn i NK
  have:=(hp.mw i NK).2.1
  omega
 smv:=fun i hi j hj=>by
  have NK:i<p.KB.length:=by simpa[nu]using hi
  show cH _ ((p.KB.map (·.w)).getD i 0)
  rw[cI (·.w) p.KB i a7 0 NK]
  exact hs.mv i NK j hj
 dl:=(hd.l).trans (by simp[nu])
 dv:=fun i hi=>by
  have NK:i<p.I.length:=by simpa[nu]using hi
  show cH _ ((p.I.map (·.w)).getD i 0)
  rw[cI (·.w) p.I i cU 0 NK]
  exact hd.v i NK
 rok:=fun i hi=>by
  have NK:i<p.KC.length:=by simpa[nu]using hi
  show aD ((p.KC.map (·.w)).getD i 0)=true
  rw[cI (·.w) p.KC i bE 0 NK]
  exact(hp.rw i NK).1
 mok:=fun i hi=>by
  have NK:i<p.KB.length:=by simpa[nu]using hi
  show aD ((p.KB.map (·.w)).getD i 0)=true
  rw[cI (·.w) p.KB i a7 0 NK]
  exact(hp.mw i NK).1
 tok:=fun i hi=>by
  have NK:i<p.I.length:=by simpa[nu]using hi
  show aD ((p.I.map (·.w)).getD i 0)=true
  rw[cI (·.w) p.I i cU 0 NK]
  exact(hp.tw i NK).1
theorem Fq {c:Sc} {p:Pr} {s:Ps} (d d':List Int):∀(n:Nat) (e:Ex) (w:Int),eL e≤n→dR ⟨c.rw,c.mw,[]⟩ e=some w→dR c e=some w∧bu p s d e=bu p s d' e:=by
 intro n
 induction n with
 | zero=>intro e w hd;cases e with | mk op name k w args=>rw[eL]at hd;omega
 | succ n ih =>
  intro e w hd hty
  obtain⟨ws,hws,hc⟩:=fp hty
  obtain⟨hl,Nh⟩:=je hws
  have hargs:∀i,i<e.args.length→dR c (e.args.getD i dE)=some (ws.getD i 0)∧bu p s d (e.args.getD i dE)=bu p s d' (e.args.getD i dE):=fun i hi=>ih _ _ (by have:=z3 hi;omega) (Nh i hi)
  have hL:∀(l:List Ex) (ws:List Int),ws.length=l.length→(∀i,i<l.length→dR c (l.getD i dE)=some (ws.getD i 0))→dR.tyL c l=some ws:=by
   intro l
   induction l with
   | nil=>intro ws h _;cases ws with | nil=>rfl | cons a r=>cases h
   | cons a r ihr =>
    intro ws h hh
    cases ws with
    | nil=>cases h
    | cons w0 wr =>
     have h0:dR c a=some w0:=hh 0 (by simp)
     have h1:=ihr wr (by simpa using h) (fun i hi=>hh (i+1) (by simpa using hi))
     rw[dR.tyL,h0,h1]
  have P8:e.args.map (bu p s d)=e.args.map (bu p s d'):=by
   apply List.map_congr_left
   intro a ha
   obtain⟨i,hi,rfl⟩:=List.mem_iff_getElem.1 ha
   have:=(hargs i hi).2
   simpa[List.getD,KF hi]using this
  have hws':=hL e.args ws hl (fun i hi=>(hargs i hi).1)
  refine⟨?_,?_⟩
  ·cases e with
   | mk op name k w0 args =>
    rw[dR,hws']
    simp only at hc ⊢
    rcases hc with ⟨h1,h2,h3,h4,rfl⟩ | ⟨h1,h2,h3,h4,rfl⟩ | ⟨h1,h2,h3,h4,rfl⟩ | ⟨h1,h2,R0,h3,rfl⟩
    ·rw[KT h1,KT ⟨h2,h3,h4⟩]
    ·exact absurd h4 (by simp;omega)
    ·rw[KK (by omega),KK (by omega),KT h1,KT ⟨h2,h3,h4⟩]
    ·rw[KK h1,KK R0,KK h2,KT h3]
  ·rw[mH,mH p s d',P8]
   have h18:e.op≠18:=by
    rcases hc with ⟨h1,h2,h3,h4,rfl⟩ | ⟨h1,h2,h3,h4,rfl⟩ | ⟨h1,h2,h3,h4,rfl⟩ | ⟨h1,h2,R0,h3,rfl⟩
    ·omega
    ·exact absurd h4 (by simp;omega)
    ·omega
    ·exact R0
   rw[KK h18,KK h18]
theorem BI {p:Pr} {s:Ps} (hp:iG p) {i:Nat} (hi:i<p.I.length) (d d':List Int):dV p s d (oz p i).when=dV p s d' (oz p i).when∧dR (nu p) (oz p i).when=some 1:=by
 obtain⟨h1,h2,h3⟩:=hp.tw i hi
 have h:=Fq (c:=nu p) (p:=p) (s:=s) d d' 3 _ 1 h3 h2
 exact⟨by unfold dV;rw[h.2],h.1⟩
theorem mI {w:Int} (h:aD w=true):cH 0 w:=by
 have:=aJ.1 h
 exact⟨by omega,(cN (by omega) (by omega)).1⟩
theorem H0 {p:Pr} (hp:iG p):BF p (l7 p) where
 l:=by simp[l7]
 v:=fun i hi=>by
  have e:(l7 p).getD i 0=0:=by simp[l7,List.getD,LK];split<;>rfl
  rw[e];exact mI (hp.tw i hi).1
theorem vw {p:Pr} {s:Ps} {hs:List Hd} (hp:iG p) (hh:BG p hs):BF p (bG p s hs) where
 l:=by rw[bG,ay]
 v:=fun i hi=>by
  rw[bG,bq hi,BD]
  split
  ·rename_i h;exact hh.v i hi h.2
  ·exact mI (hp.tw i hi).1
theorem yB (p:Pr) (s:Ps) (hs:List Hd) (rs:List Bool):(a8 p s hs rs).fires=gu p s hs rs:=by
 unfold a8;split<;>simp_all
theorem tf (p:Pr) (s:Ps) (hs:List Hd) (rs:List Bool):(a8 p s hs rs).pops.length=p.I.length:=by
 unfold a8;split<;>simp[ay]
theorem tg (p:Pr) (s:Ps) (hs:List Hd) (rs:List Bool):(a8 p s hs rs).KA.length=p.KA.length:=by
 unfold a8;split<;>simp[ay]
theorem vx {p:Pr} {s:Ps} {d:List Int} {e:Ex} {w:Int} (ho:te (nu p) p s d) (h:dR (nu p) e=some w) (hd:eL e≤3):(bu p s d e).2=w∧cH (bu p s d e).1 w∧aD w=true:=Dn ho 3 e w hd h
theorem Fr {p:Pr} {s:Ps} {d:List Int} (hp:iG p) (hs:nx p s) (hd:BF p d):nx p (dm p s d) where
 rl:=by rw[dm];simp[ay]
 rv:=fun i hi=>by
  rw[dm];simp only;rw[bq hi]
  have h:=hp.rw i hi
  exact(vx (gw hp hs hd) h.2.2.1 h.2.2.2).2.1
 ml:=by rw[dm];simp[ay]
 mn:=fun i hi=>by
  rw[dm];simp only;rw[bq hi,xP]
  split
  ·rw[LF];exact hs.mn i hi
  ·exact hs.mn i hi
 mv:=fun i hi j hj=>by
  rw[dm]at hj ⊢;simp only at hj ⊢;rw[bq hi,xP]at hj ⊢
  have h:=hp.mw i hi
  split at hj
  ·rename_i he
   rw[KT he]
   rw[LF]at hj
   by_cases hm:(Int.tmod (bu p s d (jH p i).addr).1 (jH p i).words).toNat<(s.KB.getD i []).length
   ·rw[eM hm]
    split
    ·exact(vx (gw hp hs hd) h.2.2.2.2.1 h.2.2.2.2.2).2.1
    ·exact hs.mv i hi j hj
   ·rw[List.set_eq_of_length_le (by omega)]
    exact hs.mv i hi j hj
  ·rename_i he
   rw[KK he]
   exact hs.mv i hi j hj
theorem th {p:Pr} {s:Ps} {hs:List Hd} {rs:List Bool} (hp:iG p) (PC:nx p s) (hh:BG p hs):nx p (a8 p s hs rs).s:=by
 unfold a8
 split
 ·exact Fr hp PC (vw hp hh)
 ·exact PC
theorem vy {p:Pr} {s:Ps} {hs:List Hd} {rs:List Bool} (hp:iG p) (PC:nx p s) (hh:BG p hs) {i:Nat} (hi:i<p.KA.length) (Py:((a8 p s hs rs).KA.getD i cz).has=true):cH ((a8 p s hs rs).KA.getD i cz).v (sZ p i).w:=by
 unfold a8 at Py ⊢
 split
 ·rename_i hf
  rw[KT hf]at Py
  simp only at Py ⊢
  rw[bq hi]at Py ⊢
  unfold BE at Py ⊢
  split
  ·have h:=hp.pw i hi
   exact(vx (gw hp PC (vw hp hh)) h.2.2.1 h.2.2.2).2.1
  ·rename_i hn;rw[KK hn]at Py;cases Py
 ·rename_i hf
  rw[KK hf]at Py
  simp[List.getD,LK,hi]at Py
structure Ch where
 name:ByteArray
 w:Int
 cap:Int
 frm:Int
 dst:Int
abbrev aN:Ch:=⟨e0,0,0,0,0⟩
structure Ci where
 U:List Pr
 J:List Ch
structure Ns where
 U:List Ps
 J:List (List Int)
def dq (c:Ch):List V:=[.str c.name,.int .i64 c.w,.int .i64 c.cap,.int .i64 c.frm,.int .i64 c.dst]
abbrev Cj:Ns:=⟨[],[]⟩
abbrev bD (c:Ci) (i:Nat):Pr:=c.U.getD i aO
abbrev dn (c:Ci) (n:Nat):Ch:=c.J.getD n aN
abbrev Af (s:Ns) (i:Nat):Ps:=s.U.getD i aY
abbrev gS (s:Ns) (n:Nat):List Int:=s.J.getD n []
abbrev xQ (p:Pr) (j:Nat):Nat:=(oz p j).chan.toNat
abbrev uo (p:Pr) (j:Nat):Nat:=(sZ p j).chan.toNat
structure bO (c:Ci):Prop where
 n1:1≤c.U.length
 nl:c.U.length≤100
 cl:c.J.length≤100
 pr:∀i,i<c.U.length→iG (bD c i)
 tk:∀i,i<c.U.length→∀j,j<(bD c i).I.length→0≤(oz (bD c i) j).chan∧(oz (bD c i) j).chan<c.J.length∧(dn c (xQ (bD c i) j)).w=(oz (bD c i) j).w∧(dn c (xQ (bD c i) j)).dst=i
 pt:∀i,i<c.U.length→∀j,j<(bD c i).KA.length→0≤(sZ (bD c i) j).chan∧(sZ (bD c i) j).chan<c.J.length∧(dn c (uo (bD c i) j)).w=(sZ (bD c i) j).w∧(dn c (uo (bD c i) j)).frm=i
 td:∀i,i<c.U.length→∀j k,j<(bD c i).I.length→k<(bD c i).I.length→xQ (bD c i) j=xQ (bD c i) k→j=k
 pd:∀i,i<c.U.length→∀j k,j<(bD c i).KA.length→k<(bD c i).KA.length→uo (bD c i) j=uo (bD c i) k→j=k
 cw:∀n,n<c.J.length→aD (dn c n).w=true
 cp:∀n,n<c.J.length→0≤(dn c n).cap
def bM (l:List Int) (w:Int):Bool:=dk (fun i=>co (l.getD i 0) w) l.length
def gA (c:Ci) (s:Ns) (n:Nat):Bool:=bM (gS s n) (dn c n).w&&(!(decide (0≤(dn c n).frm)&&decide (0≤(dn c n).dst))||decide (((gS s n).length:Int)≤(dn c n).cap))
def bK (c:Ci) (s:Ns):Bool:=decide (s.U.length=c.U.length)&&decide (s.J.length=c.J.length)&&dk (fun i=>bx (bD c i) (Af s i)) c.U.length&&dk (gA c s) c.J.length
structure cA (c:Ci) (s:Ns):Prop where
 pl:s.U.length=c.U.length
 cl:s.J.length=c.J.length
 pv:∀i,i<c.U.length→nx (bD c i) (Af s i)
 cv:∀n,n<c.J.length→∀i,i<(gS s n).length→cH ((gS s n).getD i 0) (dn c n).w
 cc:∀n,n<c.J.length→0≤(dn c n).frm→0≤(dn c n).dst→((gS s n).length:Int)≤(dn c n).cap
theorem nz {l:List Int} {w:Int}:bM l w=true↔∀i,i<l.length→cH (l.getD i 0) w:=by
 unfold bM
 simp only[bo,w3]
theorem r9 {c:Ci} {s:Ns}:bK c s=true↔cA c s:=by
 unfold bK gA
 simp only[KD,Lu,bo,BH,nz,Lf,K5,Bool.and_eq_false_iff,decide_eq_false_iff_not]
 constructor
 ·rintro⟨⟨⟨h1,h2⟩,h3⟩,h4⟩
  refine⟨h1,h2,h3,fun n hn=>(h4 n hn).1,fun n hn ha hb=>?_⟩
  rcases(h4 n hn).2 with (h | h) | h
  ·exact absurd ha h
  ·exact absurd hb h
  ·exact h
 ·intro h
  refine⟨⟨⟨h.pl,h.cl⟩,h.pv⟩,fun n hn=>⟨h.cv n hn,?_⟩⟩
  by_cases ha:0≤(dn c n).frm
  ·by_cases hb:0≤(dn c n).dst
   ·exact .inr (h.cc n hn ha hb)
   ·exact .inl (.inr hb)
  ·exact .inl (.inl ha)
def gB (c:Ci) (s:Ns) (p j:Nat):Hd:=if 0<(gS s (xQ (bD c p) j)).length then ⟨true,(gS s (xQ (bD c p) j)).getD 0 0⟩else cz
def cB (c:Ci) (s:Ns) (p:Nat):List Hd:=tab (gB c s p) (bD c p).I.length
def fq (c:Ci) (s:Ns) (p j:Nat):Bool:=decide ((dn c (uo (bD c p) j)).dst=-1)||decide (((gS s (uo (bD c p) j)).length:Int)<(dn c (uo (bD c p) j)).cap)
def cJ (c:Ci) (s:Ns) (p:Nat):List Bool:=tab (fq c s p) (bD c p).KA.length
def ax (c:Ci) (s:Ns) (p:Nat):Fi:=a8 (bD c p) (Af s p) (cB c s p) (cJ c s p)
def vA (c:Ci) (s:Ns) (p:Nat):Bool:=(ax c s p).fires
def gC (c:Ci) (s:Ns) (p:Int):Bool:=decide (0≤p)&&(decide (p<c.U.length)&&vA c s p.toNat)
theorem DF (c:Ci) (s:Ns) (p:Nat):vA c s p=gu (bD c p) (Af s p) (cB c s p) (cJ c s p):=yB _ _ _ _
theorem sa {c:Ci} {s:Ns} (hc:bO c) (hs:cA c s) {p:Nat} (hp:p<c.U.length):BG (bD c p) (cB c s p) where
 l:=by rw[cB,ay]
 v:=fun i hi hh=>by
  rw[cB,bq hi]at hh ⊢
  unfold gB at hh ⊢
  split
  ·rename_i h0
   obtain⟨k1,k2,k3,k4⟩:=hc.tk p hp i hi
   have:=hs.cv (xQ (bD c p) i) (by show(oz (bD c p) i).chan.toNat<_;omega) 0 h0
   rw[k3]at this
   exact this
  ·rename_i h0;rw[KK h0]at hh;cases hh
def s4 (p:Pr) (f:Fi):Nat→List Nat
 | 0=>[]
 | k+1=>s4 p f k++(if f.pops.getD k false=true then [xQ p k]else [])
def s5 (p:Pr) (f:Fi):Nat→List (Nat×Int)
 | 0=>[]
 | k+1=>s5 p f k++(if (f.KA.getD k cz).has=true then [(uo p k,(f.KA.getD k cz).v)]else [])
def bh (c:Ci) (s:Ns) (w:Nat→Bool) (p:Nat):Bool:=w p&&vA c s p
def o8 (c:Ci) (s:Ns) (w:Nat→Bool):Nat→List Nat
 | 0=>[]
 | p+1=>o8 c s w p++(if bh c s w p=true then s4 (bD c p) (ax c s p) (bD c p).I.length else [])
def mK (c:Ci) (s:Ns) (w:Nat→Bool):Nat→List (Nat×Int)
 | 0=>[]
 | p+1=>mK c s w p++(if bh c s w p=true then s5 (bD c p) (ax c s p) (bD c p).KA.length else [])
def cD (l:List Int) (ev:List Nat):List Int:=ev.foldl (fun l n=>l.set n 1) l
def cr (l:List (Option Int)) (ev:List (Nat×Int)):List (Option Int):=ev.foldl (fun l e=>l.set e.1 (some e.2)) l
def jj (c:Ci) (s:Ns) (p n:Nat):Bool:=decide (n∈s4 (bD c p) (ax c s p) (bD c p).I.length)
def vB (c:Ci) (s:Ns) (p n:Nat):List Int:=((s5 (bD c p) (ax c s p) (bD c p).KA.length).filter (fun e=>e.1==n)).map (·.2)
def p6 (c:Ci) (n:Nat):Nat:=(dn c n).dst.toNat
def lN (c:Ci) (n:Nat):Nat:=(dn c n).frm.toNat
def gD (c:Ci) (s:Ns) (w:Nat→Bool) (n:Nat):Nat:=if bh c s w (p6 c n)=true∧jj c s (p6 c n) n=true then 1 else 0
def fK (c:Ci) (s:Ns) (w:Nat→Bool) (n:Nat):List Int:=if bh c s w (lN c n)=true then vB c s (lN c n) n else []
def gE (c:Ci) (s:Ns) (w:Nat→Bool) (n:Nat):List Int:=(gS s n).drop (gD c s w n)++fK c s w n
def cK (c:Ci) (s:Ns) (w:Nat→Bool) (p:Nat):Ps:=if bh c s w p=true then (ax c s p).s else Af s p
def b6 (c:Ci) (s:Ns) (w:Nat→Bool):Ns:=⟨tab (cK c s w) c.U.length,tab (gE c s w) c.J.length⟩
theorem qC {p:Pr} {f:Fi} {n:Nat}:∀{k:Nat},n∈s4 p f k→∃j,j<k∧f.pops.getD j false=true∧xQ p j=n
 | 0,h=>by cases h
 | k+1,h=>by
  rw[s4,LL]at h
  rcases h with h | h
  ·obtain⟨j,h1,h2⟩:=qC h;exact⟨j,by omega,h2⟩
  ·split at h
   ·rename_i hh;simp only[Mc]at h;exact⟨k,by omega,hh,h.symm⟩
   ·cases h
theorem nA {p:Pr} {f:Fi} {e:Nat×Int}:∀{k:Nat},e∈s5 p f k→∃j,j<k∧(f.KA.getD j cz).has=true∧uo p j=e.1∧(f.KA.getD j cz).v=e.2
 | 0,h=>by cases h
 | k+1,h=>by
  rw[s5,LL]at h
  rcases h with h | h
  ·obtain⟨j,h1,h2⟩:=nA h;exact⟨j,by omega,h2⟩
  ·split at h
   ·rename_i hh;simp only[Mc]at h;subst h;exact⟨k,by omega,hh,rfl,rfl⟩
   ·cases h
theorem pG (ev:List Nat):∀(l:List Int),(cD l ev).length=l.length:=by
 induction ev with
 | nil=>intro l;rfl
 | cons n r ih=>intro l;show(cD _ r).length=_;rw[ih];simp
theorem pH (ev:List (Nat×Int)):∀(l:List (Option Int)),(cr l ev).length=l.length:=by
 induction ev with
 | nil=>intro l;rfl
 | cons n r ih=>intro l;show(cr _ r).length=_;rw[ih];simp
theorem vC (l:List Int) (ev:List Nat) (n:Nat):cD l (ev++[n])=(cD l ev).set n 1:=by simp[cD,Mr]
theorem vD (l:List (Option Int)) (ev:List (Nat×Int)) (n:Nat) (v:Int):cr l (ev++[(n,v)])=(cr l ev).set n (some v):=by simp[cr,Mr]
theorem w4 (ev:List Nat):∀(l:List Int) (n:Nat),n<l.length→(cD l ev).getD n 0=if n∈ev then 1 else l.getD n 0:=by
 induction ev with
 | nil=>intro l n hn;simp[cD]
 | cons m r ih =>
  intro l n hn
  show(cD (l.set m _) r).getD n 0=_
  rw[ih _ n (by simpa using hn)]
  by_cases hr:n∈r
  ·rw[KT hr,KT (by simp[hr])]
  ·rw[KK hr]
   by_cases e:m=n
   ·subst e
    rw[eM hn,KT rfl,KT (by simp)]
   ·rw[KK (by simp[hr];omega)]
    by_cases hm:m<l.length
    ·rw[eM hm,KK e]
    ·rw[List.set_eq_of_length_le (by omega)]
section
variable {c:Ci} {s:Ns} {w:Nat→Bool}
theorem Fx (hc:bO c) {p n:Nat} (hp:p<c.U.length) {f:Fi} {k:Nat} (hk:k≤(bD c p).I.length) (h:n∈s4 (bD c p) f k):n<c.J.length∧(dn c n).dst=p:=by
 obtain⟨j,h1,h2,rfl⟩:=qC h
 obtain⟨k1,k2,k3,k4⟩:=hc.tk p hp j (by omega)
 exact⟨by show(oz (bD c p) j).chan.toNat<_;omega,k4⟩
theorem Ag (hc:bO c) {p:Nat} {e:Nat×Int} (hp:p<c.U.length) {f:Fi} {k:Nat} (hk:k≤(bD c p).KA.length) (h:e∈s5 (bD c p) f k):e.1<c.J.length∧(dn c e.1).frm=p:=by
 obtain⟨j,h1,h2,h3,h4⟩:=nA h
 obtain⟨k1,k2,k3,k4⟩:=hc.pt p hp j (by omega)
 rw[← h3]
 exact⟨by show(sZ (bD c p) j).chan.toNat<_;omega,k4⟩
theorem o9 (hc:bO c) {p:Nat} (n:Nat) (hp:p<c.U.length) {f:Fi}:∀{k:Nat},k≤(bD c p).I.length→(s4 (bD c p) f k).count n=if n∈s4 (bD c p) f k then 1 else 0
 | 0,_=>by simp[s4]
 | k+1,hk=>by
  have ih:=o9 hc n hp (f:=f) (k:=k) (by omega)
  rw[s4,List.count_append,ih]
  by_cases h1:f.pops.getD k false=true
  ·rw[KT h1]
   by_cases e:xQ (bD c p) k=n
   ·have:n∉s4 (bD c p) f k:=by
     intro hm
     obtain⟨j,g1,g2,g3⟩:=qC hm
     have:=hc.td p hp j k (by omega) (by omega) (by rw[g3,e])
     omega
    rw[KK this,e,List.count_singleton_self,KT (Lx _ (Mc.2 rfl))]
   ·have e3:([xQ (bD c p) k]).count n=0:=List.count_eq_zero.2 (by rw[Mc];exact fun h=>e h.symm)
    rw[e3,Ma]
    by_cases hm:n∈s4 (bD c p) f k
    ·rw[KT hm,KT (LC _ hm)]
    ·rw[KK hm,KK]
     intro h
     rcases LL.1 h with h | h
     ·exact hm h
     ·exact e (Mc.1 h).symm
  ·rw[KK h1,K9];rfl
theorem sd (hc:bO c) (n:Nat):∀{P:Nat},P≤c.U.length→(o8 c s w P).count n=if p6 c n<P then gD c s w n else 0
 | 0,_=>by simp[o8]
 | P+1,hP=>by
  have ih:=sd hc n (P:=P) (by omega)
  rw[o8,List.count_append,ih]
  by_cases hd:p6 c n=P
  ·rw[KK (show ¬p6 c n<P by omega),KT (show p6 c n<P+1 by omega),gD,hd,Li]
   by_cases hf:bh c s w P=true
   ·rw[KT hf,o9 hc n (by omega) (KI _)]
    simp[jj,hf]
   ·rw[KK hf];simp[hf]
  ·have h0:(if bh c s w P=true then s4 (bD c P) (ax c s P) (bD c P).I.length else []).count n=0:=by
    split
    ·rw[o9 hc n (by omega) (KI _),KK]
     intro hm
     have:=(Fx hc (by omega) (KI _) hm).2
     exact hd (by rw[p6,this];rfl)
    ·rfl
   rw[h0]
   by_cases h1:p6 c n<P
   ·rw[KT h1,KT (show p6 c n<P+1 by omega)];rfl
   ·rw[KK h1,KK (show ¬p6 c n<P+1 by omega)]
theorem DG (hc:bO c) {p n:Nat} (h:jj c s p n=true):p<c.U.length:=by
 by_cases hp:p<c.U.length
 ·exact hp
 ·unfold jj at h
  have e:bD c p=aO:=by rw[bD,List.getD,Lo (by omega)];rfl
  rw[e]at h
  simp[s4]at h
theorem Fy (hc:bO c) (n:Nat):(if p6 c n<c.U.length then gD c s w n else 0)=gD c s w n:=by
 split
 ·rfl
 ·rename_i h
  rw[gD,KK]
  rintro⟨_,h2⟩
  exact h (DG hc h2)
theorem FA (hc:bO c) {p n:Nat} (hp:p<c.U.length) (hd:¬lN c n=p) (f:Fi):(s5 (bD c p) f (bD c p).KA.length).filter (fun e=>e.1==n)=[]:=by
 rw[List.filter_eq_nil_iff]
 intro e he h
 have h1:e.1=n:=by simpa using h
 have:=(Ag hc hp (KI _) he).2
 rw[h1]at this
 exact hd (by rw[lN,this];rfl)
theorem se (hc:bO c) (n:Nat):∀{P:Nat},P≤c.U.length→((mK c s w P).filter (fun e=>e.1==n)).map (·.2)=if lN c n<P then fK c s w n else []
 | 0,_=>by simp[mK]
 | P+1,hP=>by
  have ih:=se hc n (P:=P) (by omega)
  rw[mK,List.filter_append,K8,ih]
  by_cases hd:lN c n=P
  ·rw[KK (show ¬lN c n<P by omega),KT (show lN c n<P+1 by omega),fK,hd]
   by_cases hf:bh c s w P=true
   ·rw[KT hf,KT hf];rfl
   ·rw[KK hf,KK hf];rfl
  ·have h0:(if bh c s w P=true then s5 (bD c P) (ax c s P) (bD c P).KA.length else []).filter (fun e=>e.1==n)=[]:=by
    split
    ·exact FA hc (by omega) hd _
    ·rfl
   rw[h0]
   by_cases h1:lN c n<P
   ·rw[KT h1,KT (show lN c n<P+1 by omega)];exact K9 _
   ·rw[KK h1,KK (show ¬lN c n<P+1 by omega)];rfl
theorem nC {p n:Nat} (hp:¬p<c.U.length):vB c s p n=[]:=by
 have e:bD c p=aO:=by rw[bD,List.getD,Lo (by omega)];rfl
 unfold vB
 rw[e];rfl
theorem Ah (n:Nat):(if lN c n<c.U.length then fK c s w n else [])=fK c s w n:=by
 split
 ·rfl
 ·rename_i h
  rw[fK]
  split
  ·rw[nC h]
  ·rfl
end
end Go.Proofs.Ytgmpoenfoacofaa
