/- Parts of a proof. -/
import Derived.Test.YtckgpflobhpnpaaGreatQPrQ
namespace Go.Proofs.YtckgpflobhpnpaaGreat
open Go.RowKit
set_option linter.unusedVariables false
set_option linter.unusedSimpArgs false
def qy (b:List Int):Prop:=∀x∈b,0≤x∧x≤255
theorem eS {b:List Int} (h:qy b) (i:Nat):0≤b.getD i 0∧b.getD i 0≤255:=by
 by_cases hi:i<b.length
 ·simp only[List.getD,RB hi,Option.getD_some]
  exact h _ (Tp hi)
 ·simp[List.getD,Sm (Nat.le_of_not_lt hi)]
structure Sg where
 Ry:List Int
 I:List Int
 Rx:List Mm
 data:Bool
def Sg.sc (s:Sg):Sc:=⟨s.Ry,s.Rx.map (·.w),if s.data then s.I else []⟩
def eT (v w:Int):Ex:=⟨1,e0,⟨v%2^w.toNat,e0⟩,⟨w,e0⟩,[]⟩
def Gv (i:Nat):Ex:=⟨16,e0,⟨i,e0⟩,dN,[]⟩
def Im (i:Nat):Ex:=⟨18,e0,⟨i,e0⟩,dN,[]⟩
def fh (f:Nat→Ex) (w:Int) (l:List Int):Nat→List Ex
 | 0=>[]
 | k+1=>fh f w l k++(if l.getD k 0=w then [f k]else [])
def c5 (s:Sg) (w:Int):List Ex:=fh Gv w s.Ry s.Ry.length++(if s.data then fh Im w s.I s.I.length else [])
def bj (s:Sg) (w b:Int):Ex:=if (c5 s w).length=0∨b%4=0 then eT (b / 4) w else (c5 s w).getD (b / 4%(c5 s w).length).toNat dE
def pA (l:List Mm) (w:Int):Nat→Nat→Option Nat
 | 0,_=>none
 | n+1,k=>if (l.getD k aP).w=w then some k else pA l w n (k+1)
def jf (k:Int):Int:=[2,3,4,5,6,7,10,8,9,11].getD (k-4).toNat 0
def sQ (y w:Int):Int:=let o:=jf (y%14);if (o=8∨o=9)∧w>1 then 5 else if o=11∧w=1 then 3 else o
def jE (y w:Int):List Int:=let o:=jf (y%14)
 if o=2 then [w]else if o=10 then [1,w,w]else if o=8∨o=9 then (if w>1 then [w,w]else [1+y / 14%3,1+y / 14%3])else if o=11 then (if w=1 then [w,w]else [w-1,1])else [w,w]
def bx (t:Nat→Int→Ex×Nat):List Int→Nat→List Ex×Nat
 | [],i=>([],i)
 | w::r,i=>((t i w).1::(bx t r (t i w).2).1,(bx t r (t i w).2).2)
def bD (s:Sg) (t:Nat→Int→Ex×Nat) (w b:Int) (i:Nat):Ex×Nat :=
 match (if b%3=0 then pA s.Rx w s.Rx.length 0 else none)with
 | some m=>let x:=t i (1+b / 3%3);(⟨17,e0,⟨m,e0⟩,dN,[x.1]⟩,x.2)
 | none=>if b%3=1∧w>1 then let x:=t i (w-1);(⟨13,e0,dN,⟨w,e0⟩,[x.1]⟩,x.2)
  else let x:=t i (w+b / 3%2);(⟨12,e0,⟨b / 3%2,e0⟩,⟨w,e0⟩,[x.1]⟩,x.2)
def ao (s:Sg) (b:List Int):Nat→Nat→Int→Ex×Nat
 | 0,i,w=>(bj s w (b.getD i 0 / 14),i+1)
 | d+1,i,w =>
  let y:=b.getD i 0
  if d=0∨y%14<2 then (bj s w (y / 14),i+1)
  else if y%14=2∨y%14=3 then bD s (ao s b d) w (y / 14) (i+1)
  else (⟨sQ y w,e0,dN,dN,(bx (ao s b d) (jE y w) (i+1)).1⟩,(bx (ao s b d) (jE y w) (i+1)).2)
theorem EP {s:Sg} {w:Int} {UV:List Ex} {j:Nat} (h:UV=fh Gv w s.Ry s.Ry.length++fh Im w s.I j) (h0:s.data=false→j=0) (h1:s.data=true→j=s.I.length):UV=c5 s w:=by
 rw[h];unfold c5
 cases hs:s.data
 ·rw[h0 hs];simp[fh]
 ·rw[h1 hs];simp
theorem oB {f:Nat→Ex} {w:Int} {l:List Int} {k:Nat} (h:l.getD k 0=w):fh f w l k++[f k]=fh f w l (k+1):=by rw[fh,RH h]
theorem rr {f:Nat→Ex} {w:Int} {l:List Int} {k:Nat} (h:¬l.getD k 0=w):fh f w l k=fh f w l (k+1):=by rw[fh,RE h,RL]
theorem KJ (s:Sg) (w:Int):(c5 s w).length≤s.Ry.length+s.I.length:=by
 have key:∀(f:Nat→Ex) (l:List Int) (k:Nat),(fh f w l k).length≤k:=by
  intro f l k
  induction k with
  | zero=>simp[fh]
  | succ k ih=>rw[fh];simp only[RV];split<;>simp<;>omega
 unfold c5
 have h1:=key Gv s.Ry s.Ry.length
 have h2:=key Im s.I s.I.length
 rw[RV]
 split
 ·omega
 ·simp;omega
theorem sR {f:Nat→Ex} {w:Int} {l:List Int} {e:Ex}:∀(k:Nat),e∈fh f w l k→∃i,i<k∧e=f i∧l.getD i 0=w
 | 0,h=>by cases h
 | k+1,h=>by
  rw[fh,SK]at h
  rcases h with h | h
  ·obtain⟨i,h1,h2⟩:=sR k h;exact⟨i,by omega,h2⟩
  ·split at h
   ·rename_i hw
    simp only[Ts]at h
    exact⟨k,by omega,h,hw⟩
   ·cases h
theorem MW {c:Sc} {v w:Int} (hw:aq w=true):fc c (eT v w)=some w:=by
 have h:=aW.1 hw
 unfold eT
 rw[fc,fc.tyL]
 simp only
 rw[RE (by decide),RE (by decide),RE (by decide)]
 have hm:=uE (x:=v) (w:=w) (by omega) (by omega)
 have e:bi 1 [] (v%2^w.toNat) w=w:=by
  show(if aq w=false∨v%2^w.toNat<0∨af w<v%2^w.toNat then 0 else w)=w
  rw[RE]
  rintro(h1 | h1 | h1)
  ·rw[hw]at h1;cases h1
  ·have:=hm.1;omega
  ·have:=hm.2;omega
 have ho:hC 1 [] (v%2^w.toNat) w=true:=by
  unfold hC
  rw[e,hw]
  rfl
 rw[RH ho,e]
theorem Io {s:Sg} {w:Int} {e:Ex} (h:e∈c5 s w):fc s.sc e=some w∧e.args=[]∧fI e=1:=by
 unfold c5 at h
 rw[SK]at h
 rcases h with h | h
 ·obtain⟨i,h1,rfl,h2⟩:=sR _ h
  refine⟨?_,rfl,rfl⟩
  unfold Gv
  rw[fc,fc.tyL]
  simp only
  rw[RH trivial,RH ⟨by trivial,by simp,by show((i:Nat):Int)<(s.Ry.length:Int);omega⟩]
  show some (s.Ry.getD (i:Int).toNat 0)=some w
  rw[SQ,h2]
 ·split at h
  ·rename_i hd
   obtain⟨i,h1,rfl,h2⟩:=sR _ h
   refine⟨?_,rfl,rfl⟩
   have ht:s.sc.tw=s.I:=by show(if s.data then s.I else [])=s.I;rw[RH hd]
   unfold Im
   rw[fc,fc.tyL]
   simp only
   rw[RE (by decide),RH trivial,ht,RH ⟨by trivial,by simp,by omega⟩,SQ,h2]
  ·cases h
theorem ER {s:Sg} {w b:Int} (hw:aq w=true) (hb:0≤b):fc s.sc (bj s w b)=some w∧(bj s w b).args=[]∧fI (bj s w b)=1:=by
 unfold bj
 split
 ·exact⟨MW hw,rfl,rfl⟩
 ·rename_i hn
  simp only[not_or]at hn
  have h1:=TJ (b / 4) (show(0:Int)<((c5 s w).length:Int) by omega)
  have h0:=Tx (b / 4) (show((c5 s w).length:Int)≠0 by omega)
  exact Io (iZ (by omega))
theorem xY {l:List Mm} {w:Int}:∀{n k m:Nat},pA l w n k=some m→k≤m∧m<k+n∧(l.getD m aP).w=w
 | 0,k,m,h=>by cases h
 | n+1,k,m,h=>by
  rw[pA]at h
  split at h
  ·rename_i hw;cases h;exact⟨by omega,by omega,hw⟩
  ·obtain⟨h1,h2,h3⟩:=xY h;exact⟨by omega,by omega,h3⟩
theorem Bk {t:Nat→Int→Ex×Nat}:∀(ws:List Int) (i:Nat),(bx t ws i).1.length=ws.length
 | [],i=>rfl
 | w::r,i=>by rw[bx];simp[Bk r]
theorem ES {c:Sc} {t:Nat→Int→Ex×Nat}:∀(ws:List Int) (i:Nat),(∀w∈ws,∀i,fc c (t i w).1=some w)→fc.tyL c (bx t ws i).1=some ws
 | [],i,_=>rfl
 | w::r,i,h=>by
  rw[bx,fc.tyL,h w (by simp) i,ES r _ (fun w hw=>h w (by simp[hw]))]
theorem Bl {t:Nat→Int→Ex×Nat} {n:Nat}:∀(ws:List Int) (i:Nat),(∀w∈ws,∀i,fI (t i w).1≤n)→fI.depL (bx t ws i).1≤n
 | [],i,_=>by rw[bx,fI.depL];exact Su _
 | w::r,i,h=>by
  rw[bx,fI.depL]
  have h1:=h w (by simp) i
  have h2:=Bl r (t i w).2 (fun w hw=>h w (by simp[hw]))
  omega
theorem v7 {t:Nat→Int→Ex×Nat} {n:Nat}:∀(ws:List Int) (i:Nat),(∀w∈ws,∀i,i≤(t i w).2∧(t i w).2≤i+n)→i≤(bx t ws i).2∧(bx t ws i).2≤i+n*ws.length
 | [],i,_=>⟨RD _,Nat.le_add_right _ _⟩
 | w::r,i,h=>by
  rw[bx]
  have h1:=h w (by simp) i
  have h2:=v7 r (t i w).2 (fun w hw=>h w (by simp[hw]))
  have:n*(w::r).length=n*r.length+n:=by rw[RK,Nat.mul_succ]
  show i≤(bx t r (t i w).2).2∧(bx t r (t i w).2).2≤i+n*(w::r).length
  omega
theorem Gw {k:Int} (h:4≤k) (h2:k<14):jf k=2∨jf k=3∨jf k=4∨jf k=5∨jf k=6∨jf k=7∨jf k=10∨jf k=8∨jf k=9∨jf k=11:=by
 have:k=4∨k=5∨k=6∨k=7∨k=8∨k=9∨k=10∨k=11∨k=12∨k=13:=by omega
 rcases this with rfl | rfl | rfl | rfl | rfl | rfl | rfl | rfl | rfl | rfl<;>decide
theorem Cp {op:Int} {w k v:Int} (VL:op=3∨op=4∨op=5∨op=6∨op=7) (hw:aq w=true):hC op [w,w] k v=true∧bi op [w,w] k v=w:=by
 have e:∀op,bi op [w,w] k v=w∨True:=fun _=>.inr trivial
 have ha:bI [w,w]=w:=by unfold bI;rw[RE (by simp)];rfl
 have hv:bi op [w,w] k v=bI [w,w]:=by rcases VL with rfl | rfl | rfl | rfl | rfl<;>rfl
 have hA:bo op=2:=by rcases VL with rfl | rfl | rfl | rfl | rfl<;>decide
 refine⟨?_,by rw[hv,ha]⟩
 unfold hC
 rw[hv,ha,hA]
 simp[hw]
theorem Ip {y w:Int} (hk:4≤y%14) (h0:0≤y) (hw:1≤w) (hw8:w≤8):hC (sQ y w) (jE y w) 0 0=true∧bi (sQ y w) (jE y w) 0 0=w∧(sQ y w≠16∧sQ y w≠18∧sQ y w≠17)∧(∀v∈jE y w,1≤v∧(v≤w∨v≤3))∧(jE y w).length≤3:=by
 have hf:aq w=true:=aW.2 ⟨hw,hw8⟩
 have hc:=Gw hk (by omega)
 unfold sQ jE
 simp only
 have hn:(1:Int)≤1+y / 14%3∧1+y / 14%3≤3:=by omega
 generalize hv:1+y / 14%3=v at *
 have VF:aq v=true:=aW.2 ⟨hn.1,by omega⟩
 rcases hc with h | h | h | h | h | h | h | h | h | h<;>rw[h]<;>simp only[Int.reduceEq,false_or,or_false,false_and,Ti,true_and,Tj,or_true,true_or]
 ·refine⟨?_,rfl,by decide,by simp;omega,by simp⟩
  show(decide (([w].length:Int)=bo 2)&&[w].all aq&&aq w)=true
  simp[hf];decide
 ·exact⟨(Cp (by simp) hf).1,(Cp (by simp) hf).2,by decide,by simp;omega,by simp⟩
 ·exact⟨(Cp (by simp) hf).1,(Cp (by simp) hf).2,by decide,by simp;omega,by simp⟩
 ·exact⟨(Cp (by simp) hf).1,(Cp (by simp) hf).2,by decide,by simp;omega,by simp⟩
 ·exact⟨(Cp (by simp) hf).1,(Cp (by simp) hf).2,by decide,by simp;omega,by simp⟩
 ·exact⟨(Cp (by simp) hf).1,(Cp (by simp) hf).2,by decide,by simp;omega,by simp⟩
 ·have e:bi 10 [1,w,w] 0 0=w:=by
   show(if (1:Int)≠1∨w≠w then 0 else w)=w
   rw[RE (by simp)]
  refine⟨?_,e,by decide,by simp;omega,by simp⟩
  unfold hC
  rw[e]
  simp[hf];decide
 ·split
  ·exact⟨(Cp (by simp) hf).1,(Cp (by simp) hf).2,by decide,by simp;omega,by simp⟩
  ·have XE:w=1:=by omega
   subst XE
   have ha:bI [v,v]=v:=by unfold bI;rw[RE (by simp)];rfl
   have e:bi 8 [v,v] 0 0=1:=by
    show min (bI [v,v]) 1=1
    rw[ha];omega
   refine⟨?_,e,by decide,by simp;omega,by simp⟩
   unfold hC
   rw[e]
   simp[VF];decide
 ·split
  ·exact⟨(Cp (by simp) hf).1,(Cp (by simp) hf).2,by decide,by simp;omega,by simp⟩
  ·have XE:w=1:=by omega
   subst XE
   have ha:bI [v,v]=v:=by unfold bI;rw[RE (by simp)];rfl
   have e:bi 9 [v,v] 0 0=1:=by
    show min (bI [v,v]) 1=1
    rw[ha];omega
   refine⟨?_,e,by decide,by simp;omega,by simp⟩
   unfold hC
   rw[e]
   simp[VF];decide
 ·split
  ·exact⟨(Cp (by simp) hf).1,(Cp (by simp) hf).2,by decide,by simp;omega,by simp⟩
  ·have e:bi 11 [w-1,1] 0 0=w:=by
    show(w-1)+1=w
    omega
   have hf1:aq (w-1)=true:=aW.2 ⟨by omega,by omega⟩
   refine⟨?_,e,by decide,by simp;omega,by simp⟩
   unfold hC
   rw[e]
   simp[hf,hf1];decide
theorem v8 {s:Sg} {b:List Int} (hb:qy b):∀(d i:Nat) (w:Int),d≤3→1≤w→w+d≤8→fc s.sc (ao s b d i w).1=some w∧fI (ao s b d i w).1≤max d 1∧i≤(ao s b d i w).2∧(ao s b d i w).2≤i+4^d:=by
 intro d
 induction d with
 | zero =>
  intro i w h3 h1 h2
  have hy:=eS hb i
  obtain⟨q1,q2,q3⟩:=ER (s:=s) (w:=w) (b:=b.getD i 0 / 14) (aW.2 ⟨h1,by omega⟩) (by omega)
  rw[ao]
  exact⟨q1,by show fI (bj s w (b.getD i 0 / 14))≤1;omega,by show i≤i+1;omega,by show i+1≤i+4^0;omega⟩
 | succ d ih =>
  intro i w h3 h1 h2
  have hy:=eS hb i
  have hp:1≤4^d:=Nat.one_le_pow _ _ (by omega)
  have hpow:4^(d+1)=4*4^d:=by rw[Nat.pow_succ];omega
  rw[ao]
  split
  ·obtain⟨q1,q2,q3⟩:=ER (s:=s) (w:=w) (b:=b.getD i 0 / 14) (aW.2 ⟨h1,by omega⟩) (by omega)
   exact⟨q1,by show fI (bj s w (b.getD i 0 / 14))≤_;omega,by show i≤i+1;omega,by show i+1≤i+4^(d+1);omega⟩
  ·rename_i hn
   simp only[not_or]at hn
   split
   ·generalize hz:b.getD i 0 / 14=z
    have hz0:0≤z:=by omega
    unfold bD
    split
    ·rename_i m hm
     split at hm
     ·obtain⟨e1,e2,e3⟩:=xY hm
      obtain⟨q1,q2,q3,q4⟩:=ih (i+1) (1+z / 3%3) (by omega) (by omega) (by omega)
      refine⟨?_,?_,by simp only;omega,by simp only;omega⟩
      ·simp only
       rw[fc,fc.tyL,q1,fc.tyL]
       simp only
       rw[RE (by decide),RE (by decide),RH trivial]
       have hl:(s.sc.mw.length:Int)=s.Rx.length:=by show((s.Rx.map (·.w)).length:Int)=_;simp
       rw[RH ⟨rfl,by simp,by rw[hl];show((m:Nat):Int)<_;omega⟩]
       show some ((s.Rx.map (·.w)).getD (m:Int).toNat 0)=some w
       rw[SQ,dU (·.w) s.Rx m aP 0 (by omega),e3]
      ·rw[fI,fI.depL,fI.depL];omega
     ·cases hm
    ·rename_i hm
     split
     ·rename_i hc
      obtain⟨q1,q2,q3,q4⟩:=ih (i+1) (w-1) (by omega) (by omega) (by omega)
      refine⟨?_,?_,by simp only;omega,by simp only;omega⟩
      ·simp only
       rw[fc,fc.tyL,q1,fc.tyL]
       simp only
       rw[RE (by decide),RE (by decide),RE (by decide)]
       have e:bi 13 [w-1] 0 w=w:=by
        show(if w<w-1 then 0 else w)=w
        rw[RE (by omega)]
       have ho:hC 13 [w-1] 0 w=true:=by
        unfold hC
        rw[e]
        have f1:aq w=true:=aW.2 ⟨h1,by omega⟩
        have f2:aq (w-1)=true:=aW.2 ⟨by omega,by omega⟩
        simp[f1,f2];decide
       rw[RH ho,e]
      ·rw[fI,fI.depL,fI.depL];omega
     ·have hm2:z / 3%2=0∨z / 3%2=1:=by omega
      obtain⟨q1,q2,q3,q4⟩:=ih (i+1) (w+z / 3%2) (by omega) (by omega) (by omega)
      refine⟨?_,?_,by simp only;omega,by simp only;omega⟩
      ·simp only
       rw[fc,fc.tyL,q1,fc.tyL]
       simp only
       rw[RE (by decide),RE (by decide),RE (by decide)]
       have f1:aq w=true:=aW.2 ⟨h1,by omega⟩
       have f2:aq (w+z / 3%2)=true:=aW.2 ⟨by omega,by omega⟩
       have e:bi 12 [w+z / 3%2] (z / 3%2) w=w:=by
        show(if aq w=false∨z / 3%2<0∨(w+z / 3%2)-w<z / 3%2 then 0 else w)=w
        rw[RE]
        rintro(hh | hh | hh)
        ·rw[f1]at hh;cases hh
        ·omega
        ·omega
       have ho:hC 12 [w+z / 3%2] (z / 3%2) w=true:=by
        unfold hC
        rw[e]
        simp[f1,f2];decide
       rw[RH ho,e]
      ·rw[fI,fI.depL,fI.depL];omega
   ·obtain⟨o1,o2,o3,o4,o5⟩:=Ip (y:=b.getD i 0) (w:=w) (by omega) hy.1 h1 (by omega)
    have key:∀v∈jE (b.getD i 0) w,∀i,fc s.sc (ao s b d i v).1=some v∧fI (ao s b d i v).1≤max d 1∧i≤(ao s b d i v).2∧(ao s b d i v).2≤i+4^d:=by
     intro v hv j
     have:=o4 v hv
     exact ih j v (by omega) this.1 (by omega)
    have hty:=ES (c:=s.sc) (t:=ao s b d) (jE (b.getD i 0) w) (i+1) (fun v hv j=>(key v hv j).1)
    have hdp:=Bl (t:=ao s b d) (n:=max d 1) (jE (b.getD i 0) w) (i+1) (fun v hv j=>(key v hv j).2.1)
    have Yh:=v7 (t:=ao s b d) (n:=4^d) (jE (b.getD i 0) w) (i+1) (fun v hv j=>(key v hv j).2.2)
    refine⟨?_,?_,by simp only;omega,?_⟩
    ·rw[fc,hty]
     simp only
     rw[RE o3.1,RE o3.2.1,RE o3.2.2,RH o1,o2]
    ·rw[fI];omega
    ·simp only
     have:4^d*(jE (b.getD i 0) w).length≤4^d*3:=TE _ o5
     omega
theorem Iq {s:Sg} {w b:Int} (h:(c5 s w).length=0∨b%4=0):bj s w b=eT (b / 4) w:=RH h
theorem Ir {s:Sg} {w b:Int} (h1:¬((c5 s w).length:Int)=0) (h2:¬b%4=0):bj s w b=(c5 s w).getD (b / 4%((c5 s w).length:Int)).toNat dE:=RE (by rintro(h | h)<;>omega)
theorem xZ (s:Sg) (w b:Int):(bj s w b).args=[]:=by
 unfold bj
 split
 ·rfl
 ·by_cases h:(b / 4%((c5 s w).length:Int)).toNat<(c5 s w).length
  ·exact(Io (iZ h)).2.1
  ·rw[List.getD,Sm (by omega)];rfl
theorem OK {s:Sg} {t:Nat→Int→Ex×Nat} {w b:Int} {i k:Nat} (h:b%3=0) (hm:pA s.Rx w s.Rx.length 0=some k):bD s t w b i=(⟨17,e0,⟨k,e0⟩,dN,[(t i (1+b / 3%3)).1]⟩,(t i (1+b / 3%3)).2):=by
 unfold bD;rw[RH h,hm]
theorem It {s:Sg} {t:Nat→Int→Ex×Nat} {w b:Int} {i:Nat} (h:b%3=1) (hw:w>1):bD s t w b i=(⟨13,e0,dN,⟨w,e0⟩,[(t i (w-1)).1]⟩,(t i (w-1)).2):=by
 unfold bD;rw[RE (by omega)];simp only;rw[RH ⟨h,hw⟩]
theorem Iu {s:Sg} {t:Nat→Int→Ex×Nat} {w b:Int} {i:Nat} (hm:b%3=0→pA s.Rx w s.Rx.length 0=none) (h:¬(b%3=1∧w>1)):bD s t w b i=(⟨12,e0,⟨b / 3%2,e0⟩,⟨w,e0⟩,[(t i (w+b / 3%2)).1]⟩,(t i (w+b / 3%2)).2):=by
 unfold bD
 have e:(if b%3=0 then pA s.Rx w s.Rx.length 0 else none)=none:=by split;exact hm ‹_›;rfl
 rw[e];simp only;rw[RE h]
theorem ET {l:List Mm} {w:Int} {k:Nat} (hk:k<l.length) (h:¬(l.getD k aP).w=w):pA l w (l.length-k) k=pA l w (l.length-(k+1)) (k+1):=by
 have e:l.length-k=(l.length-(k+1))+1:=by omega
 rw[e,pA,RE h]
theorem Iv {l:List Mm} {w:Int} {k:Nat} (hk:k<l.length) (h:(l.getD k aP).w=w):pA l w (l.length-k) k=some k:=by
 have e:l.length-k=(l.length-(k+1))+1:=by omega
 rw[e,pA,RH h]
theorem v9 {l:List Mm} {w:Int} {k:Nat} (hk:¬k<l.length):pA l w (l.length-k) k=none:=by
 have e:l.length-k=0:=by omega
 rw[e,pA]
theorem Iw {s:Sg} {b:List Int} {d i:Nat} {w:Int} (h:d≤1):ao s b d i w=(bj s w (b.getD i 0 / 14),i+1):=by
 cases d with
 | zero=>rfl
 | succ d=>rw[ao];rw[RH (.inl (by omega))]
theorem MX {s:Sg} {b:List Int} {d i:Nat} {w:Int} (h:b.getD i 0%14<2):ao s b (d+1+1) i w=(bj s w (b.getD i 0 / 14),i+1):=by
 rw[ao];rw[RH (.inr h)]
theorem Ix {s:Sg} {b:List Int} {d i:Nat} {w:Int} (h:b.getD i 0%14=2∨b.getD i 0%14=3):ao s b (d+1+1) i w=bD s (ao s b (d+1)) w (b.getD i 0 / 14) (i+1):=by
 rw[ao];rw[RE (by omega),RH h]
theorem Dc {s:Sg} {b:List Int} {d i:Nat} {w:Int} (h:¬b.getD i 0%14<2) (h2:¬b.getD i 0%14=2) (h3:¬b.getD i 0%14=3):ao s b (d+1+1) i w=(⟨sQ (b.getD i 0) w,e0,dN,dN,(bx (ao s b (d+1)) (jE (b.getD i 0) w) (i+1)).1⟩,(bx (ao s b (d+1)) (jE (b.getD i 0) w) (i+1)).2):=by
 rw[ao];rw[RE (by omega),RE (by omega)]
theorem sS {t:Nat→Int→Ex×Nat}:∀(l:List Int) (i k:Nat),k<l.length→bx t (l.take (k+1)) i=((bx t (l.take k) i).1++[(t (bx t (l.take k) i).2 (l.getD k 0)).1],(t (bx t (l.take k) i).2 (l.getD k 0)).2)
 | [],i,k,h=>by cases h
 | w::r,i,0,h=>by simp[bx]
 | w::r,i,k+1,h=>by
  simp only[S6,bx]
  rw[sS r _ k (by simpa using h)]
  simp
theorem MY {s:Sg} {b:List Int} (hb:qy b) {y w:Int} {d k:Nat} (i:Nat) (h1:1≤w) (h2:w+(d+2:Nat)≤8) (h3:d+2≤3) (hy:4≤y%14) (hy0:0≤y) (hk:k<(jE y w).length):1≤(jE y w).getD k 0∧(jE y w).getD k 0+(d+1:Nat)≤8∧i≤(bx (ao s b (d+1)) ((jE y w).take k) i).2∧(bx (ao s b (d+1)) ((jE y w).take k) i).2+4^(d+1)+1≤i+4^(d+2):=by
 obtain⟨o1,o2,o3,o4,o5⟩:=Ip hy hy0 h1 (by omega:w≤8)
 have hm:(jE y w).getD k 0∈jE y w:=by
  rw[List.getD,RB hk];exact Tp hk
 have hv:=o4 _ hm
 have Yh:=v7 (t:=ao s b (d+1)) (n:=4^(d+1)) ((jE y w).take k) i (fun v hv j=>by
  have hh:=o4 v (List.mem_of_mem_take hv)
  exact(v8 hb (d+1) j v (by omega) hh.1 (by omega)).2.2)
 have hl:((jE y w).take k).length≤2:=by rw[RZ];omega
 have hq:4^(d+1)*((jE y w).take k).length≤4^(d+1)*2:=TE _ hl
 have hp:1≤4^(d+1):=Nat.one_le_pow _ _ (by omega)
 have hpow:4^(d+2)=4*4^(d+1):=by rw[Nat.pow_succ];omega
 exact⟨hv.1,by omega,Yh.1,by omega⟩
theorem Rp {x:Int} {n:Nat} (h:¬(n:Int)=0):IX (x%(n:Int)) (n:Int):=⟨Tx x h,TJ x (by omega)⟩
def tab {α:Type} (f:Nat→α) (n:Nat):List α:=(List.range n).map f
theorem wa {α:Type} (f:Nat→α) (n:Nat):tab f (n+1)=tab f n++[f n]:=by simp[tab,TL]
theorem am {α:Type} (f:Nat→α) (n:Nat):(tab f n).length=n:=by simp[tab]
theorem aD {α:Type} {f:Nat→α} {n i:Nat} {d:α} (h:i<n):(tab f n).getD i d=f i:=by
 simp[tab,List.getD,RB,h]
theorem uG {α:Type} {f:Nat→α} {n i:Nat} {d:α} (h:n≤i):(tab f n).getD i d=d:=by
 rw[List.getD,Sm (by rw[am];exact h)];rfl
theorem gy {α:Type} {f g:Nat→α} {n:Nat} (h:∀i,i<n→f i=g i):tab f n=tab g n:=by
 unfold tab
 exact TR (fun a ha=>h a (SD.1 ha))
theorem Iy {α:Type} {l:List α} {d:α}:l=tab (fun i=>l.getD i d) l.length:=by
 apply Tm
 ·rw[am]
 ·intro i h1 h2;simp[tab,List.getD,RB h1]
theorem dV {α:Type} {a b:List α} {d:α} (hl:a.length=b.length) (h:∀i,i<a.length→a.getD i d=b.getD i d):a=b:=by
 apply Tm hl
 intro i h1 h2
 have:=h i h1
 simpa[List.getD,RB h1,RB h2]using this
theorem EU {α β:Type} {l:List α} {d:α} (f:α→β):l.map f=tab (fun i=>f (l.getD i d)) l.length:=by
 apply Tm
 ·simp[am]
 ·intro i h1 h2;rw[RJ]at h1;simp[tab,List.getD,RB h1]
theorem KK {α:Type} {f:Nat→α} {l:List α} {k:Nat} (hk:k<l.length):(tab f k++l.drop k).set k (f k)=tab f (k+1)++l.drop (k+1):=by
 rw[List.set_append_right _ _ (by rw[am];omega),am,Nat.sub_self,wa,SB]
 congr 1
 rw[List.drop_eq_getElem_cons hk];rfl
theorem Iz {α:Type} {f:Nat→α} {l:List α} {k:Nat} (hk:l.length≤k):tab f k++l.drop k=tab f k:=by rw[List.drop_eq_nil_of_le hk,RL]
theorem cU {α:Type} {l:List α} {i j:Nat} {x d:α} (h:i<l.length):(l.set i x).getD j d=if i=j then x else l.getD j d:=by
 simp only[List.getD,List.getElem?_set]
 split
 ·rename_i e;subst e;simp[h]
 ·rfl
def eu (f:Nat→Bool):Nat→Bool
 | 0=>true
 | n+1=>eu f n&&f n
theorem dk {f:Nat→Bool}:∀{n:Nat},eu f n=true↔∀i,i<n→f i=true
 | 0=>⟨fun _ i hi=>absurd hi (Tz _),fun _=>rfl⟩
 | n+1=>by
  rw[eu,RA,dk]
  constructor
  ·rintro⟨h1,h2⟩ i hi
   rcases Nat.lt_or_ge i n with h | h
   ·exact h1 i h
   ·rw[show i=n by omega];exact h2
  ·intro h;exact⟨fun i hi=>h i (by omega),h n (by omega)⟩
theorem rt {f:Nat→Bool} {n i:Nat} (hi:i<n) (h:f i=false):eu f n=false:=by
 cases hh:eu f n
 ·rfl
 ·rw[dk.1 hh i hi]at h;cases h
def ee (p:Pr) (s:Ps) (data:List Int) (e:Ex):Bool:=decide ((a8 p s data e).1=1)
def jg (p:Pr):List Int:=List.replicate p.I.length 0
abbrev lF (p:Pr) (i:Nat):Tk:=p.I.getD i aF
abbrev tF (p:Pr) (i:Nat):Pt:=p.Rv.getD i aB
abbrev J2 (p:Pr) (i:Nat):Rg:=p.Ry.getD i bH
abbrev qj (p:Pr) (i:Nat):Mm:=p.Rx.getD i aP
def mA (p:Pr) (s:Ps) (hs:List Hd) (i:Nat):Int:=if ee p s (jg p) (lF p i).when=true∧(hs.getD i aJ).has=true then (hs.getD i aJ).v else 0
def bN (p:Pr) (s:Ps) (hs:List Hd):List Int:=tab (mA p s hs) p.I.length
def sf (p:Pr) (s:Ps) (data:List Int) (i:Nat):List Int :=
 if ee p s data (qj p i).enable=true then (s.Rx.getD i []).set (Int.tmod (a8 p s data (qj p i).addr).1 (qj p i).words).toNat (a8 p s data (qj p i).data).1 else s.Rx.getD i []
def cz (p:Pr) (s:Ps) (data:List Int):Ps:=⟨tab (fun i=>(a8 p s data (J2 p i).next).1) p.Ry.length,tab (sf p s data) p.Rx.length⟩
def iP (p:Pr) (s:Ps) (hs:List Hd) (i:Nat):Bool:=(hs.getD i aJ).has||!ee p s (bN p s hs) (lF p i).when
def ko (p:Pr) (s:Ps) (hs:List Hd) (rs:List Bool) (i:Nat):Bool:=rs.getD i false||!ee p s (bN p s hs) (tF p i).when
def fT (p:Pr) (s:Ps) (hs:List Hd) (rs:List Bool):Bool:=eu (iP p s hs) p.I.length&&eu (ko p s hs rs) p.Rv.length
def m4 (p:Pr) (s:Ps) (hs:List Hd) (i:Nat):Bool:=ee p s (bN p s hs) (lF p i).when
def m5 (p:Pr) (s:Ps) (hs:List Hd) (i:Nat):Hd:=if ee p s (bN p s hs) (tF p i).when=true then ⟨true,(a8 p s (bN p s hs) (tF p i).data).1⟩else aJ
def ax (p:Pr) (s:Ps) (hs:List Hd) (rs:List Bool):Fi :=
 if fT p s hs rs=true then ⟨true,cz p s (bN p s hs),tab (m4 p s hs) p.I.length,tab (m5 p s hs) p.Rv.length⟩
 else ⟨false,s,List.replicate p.I.length false,List.replicate p.Rv.length aJ⟩
def aC (p:Pr):Ps:=⟨p.Ry.map (·.init),p.Rx.map (fun m=>List.replicate m.words.toNat 0)⟩
def fU (v w:Int):Bool:=decide (0≤v)&&decide (v≤af w)
theorem IA {v w:Int}:fU v w=true↔d7 v w:=by simp[fU,d7]
def ru (p:Pr):Sc:=⟨p.Ry.map (·.w),p.Rx.map (·.w),p.I.map (·.w)⟩
def Q8 (p:Pr):Sc:=⟨p.Ry.map (·.w),p.Rx.map (·.w),[]⟩
structure fk (p:Pr):Prop where
 rl:p.Ry.length≤100
 ml:p.Rx.length≤100
 tl:p.I.length≤100
 pl:p.Rv.length≤100
 rw:∀i,i<p.Ry.length→aq (J2 p i).w=true∧d7 (J2 p i).init (J2 p i).w∧fc (ru p) (J2 p i).next=some (J2 p i).w∧fI (J2 p i).next≤3
 mw:∀i,i<p.Rx.length→aq (qj p i).w=true∧(1≤(qj p i).words∧(qj p i).words≤4)∧(fc (ru p) (qj p i).enable=some 1∧fI (qj p i).enable≤3)∧((∃v,fc (ru p) (qj p i).addr=some v)∧fI (qj p i).addr≤3)∧fc (ru p) (qj p i).data=some (qj p i).w∧fI (qj p i).data≤3
 tw:∀i,i<p.I.length→aq (lF p i).w=true∧fc (Q8 p) (lF p i).when=some 1∧fI (lF p i).when≤3
 pw:∀i,i<p.Rv.length→aq (tF p i).w=true∧(fc (ru p) (tF p i).when=some 1∧fI (tF p i).when≤3)∧fc (ru p) (tF p i).data=some (tF p i).w∧fI (tF p i).data≤3
structure m6 (p:Pr) (s:Ps):Prop where
 rl:s.Ry.length=p.Ry.length
 rv:∀i,i<p.Ry.length→d7 (s.Ry.getD i 0) (J2 p i).w
 ml:s.Rx.length=p.Rx.length
 mn:∀i,i<p.Rx.length→((s.Rx.getD i []).length:Int)=(qj p i).words
 mv:∀i,i<p.Rx.length→∀j,j<(s.Rx.getD i []).length→d7 ((s.Rx.getD i []).getD j 0) (qj p i).w
structure Bm (p:Pr) (d:List Int):Prop where
 l:d.length=p.I.length
 v:∀i,i<p.I.length→d7 (d.getD i 0) (lF p i).w
structure zq (p:Pr) (hs:List Hd):Prop where
 l:hs.length=p.I.length
 v:∀i,i<p.I.length→(hs.getD i aJ).has=true→d7 (hs.getD i aJ).v (lF p i).w
set_option maxHeartbeats 1600000 in
theorem hE {p:Pr} {s:Ps} {d:List Int} (hp:fk p) (hs:m6 p s) (hd:Bm p d):sP (ru p) p s d where
 prl:=by simp[ru]
 prw:=fun i hi=>by
  have Vc:i<p.Ry.length:=by simpa[ru]using hi
  show(p.Ry.getD i bH).w=(p.Ry.map (·.w)).getD i 0
  rw[dU (·.w) p.Ry i bH 0 Vc]
 pml:=by simp[ru]
 pmw:=fun i hi=>by
  have Vc:i<p.Rx.length:=by simpa[ru]using hi
  show(p.Rx.getD i aP).w=(p.Rx.map (·.w)).getD i 0
  rw[dU (·.w) p.Rx i aP 0 Vc]
 ptl:=by simp[ru]
 ptw:=fun i hi=>by
  have Vc:i<p.I.length:=by simpa[ru]using hi
  show(p.I.getD i aF).w=(p.I.map (·.w)).getD i 0
  rw[dU (·.w) p.I i aF 0 Vc]
 srl:=(hs.rl).trans (by simp[ru])
 srv:=fun i hi=>by
  have Vc:i<p.Ry.length:=by simpa[ru]using hi
  show d7 _ ((p.Ry.map (·.w)).getD i 0)
  rw[dU (·.w) p.Ry i bH 0 Vc]
  exact hs.rv i Vc
 sml:=(hs.ml).trans (by simp[ru])
 smn:=fun i hi=>by
  have Vc:i<p.Rx.length:=by simpa[ru]using hi
  have:=hs.mn i Vc
  have:=(hp.mw i Vc).2.1
  omega
 smv:=fun i hi j hj=>by
  have Vc:i<p.Rx.length:=by simpa[ru]using hi
  show d7 _ ((p.Rx.map (·.w)).getD i 0)
  rw[dU (·.w) p.Rx i aP 0 Vc]
  exact hs.mv i Vc j hj
 dl:=(hd.l).trans (by simp[ru])
 dv:=fun i hi=>by
  have Vc:i<p.I.length:=by simpa[ru]using hi
  show d7 _ ((p.I.map (·.w)).getD i 0)
  rw[dU (·.w) p.I i aF 0 Vc]
  exact hd.v i Vc
 rok:=fun i hi=>by
  have Vc:i<p.Ry.length:=by simpa[ru]using hi
  show aq ((p.Ry.map (·.w)).getD i 0)=true
  rw[dU (·.w) p.Ry i bH 0 Vc]
  exact(hp.rw i Vc).1
 mok:=fun i hi=>by
  have Vc:i<p.Rx.length:=by simpa[ru]using hi
  show aq ((p.Rx.map (·.w)).getD i 0)=true
  rw[dU (·.w) p.Rx i aP 0 Vc]
  exact(hp.mw i Vc).1
 tok:=fun i hi=>by
  have Vc:i<p.I.length:=by simpa[ru]using hi
  show aq ((p.I.map (·.w)).getD i 0)=true
  rw[dU (·.w) p.I i aF 0 Vc]
  exact(hp.tw i Vc).1
theorem KL {c:Sc} {p:Pr} {s:Ps} (d d':List Int):∀(n:Nat) (e:Ex) (w:Int),fI e≤n→fc ⟨c.rw,c.mw,[]⟩ e=some w→fc c e=some w∧a8 p s d e=a8 p s d' e:=by
 intro n
 induction n with
 | zero=>intro e w hd;cases e with | mk op name k w args=>rw[fI]at hd;omega
 | succ n ih =>
  intro e w hd hty
  obtain⟨ws,hws,hc⟩:=hD hty
  obtain⟨hl,UK⟩:=lD hws
  have hargs:∀i,i<e.args.length→fc c (e.args.getD i dE)=some (ws.getD i 0)∧a8 p s d (e.args.getD i dE)=a8 p s d' (e.args.getD i dE):=fun i hi=>ih _ _ (by have:=EJ hi;omega) (UK i hi)
  have hL:∀(l:List Ex) (ws:List Int),ws.length=l.length→(∀i,i<l.length→fc c (l.getD i dE)=some (ws.getD i 0))→fc.tyL c l=some ws:=by
   intro l
   induction l with
   | nil=>intro ws h _;cases ws with | nil=>rfl | cons a r=>cases h
   | cons a r ihr =>
    intro ws h hh
    cases ws with
    | nil=>cases h
    | cons w0 wr =>
     have h0:fc c a=some w0:=hh 0 (by simp)
     have h1:=ihr wr (by simpa using h) (fun i hi=>hh (i+1) (by simpa using hi))
     rw[fc.tyL,h0,h1]
  have Y3:e.args.map (a8 p s d)=e.args.map (a8 p s d'):=by
   apply TR
   intro a ha
   obtain⟨i,hi,rfl⟩:=List.mem_iff_getElem.1 ha
   have:=(hargs i hi).2
   simpa[List.getD,RB hi]using this
  have hws':=hL e.args ws hl (fun i hi=>(hargs i hi).1)
  refine⟨?_,?_⟩
  ·cases e with
   | mk op name k w0 args =>
    rw[fc,hws']
    simp only at hc ⊢
    rcases hc with ⟨h1,h2,h3,h4,rfl⟩ | ⟨h1,h2,h3,h4,rfl⟩ | ⟨h1,h2,h3,h4,rfl⟩ | ⟨h1,h2,ZP,h3,rfl⟩
    ·rw[RH h1,RH ⟨h2,h3,h4⟩]
    ·exact absurd h4 (by simp;omega)
    ·rw[RE (by omega),RE (by omega),RH h1,RH ⟨h2,h3,h4⟩]
    ·rw[RE h1,RE ZP,RE h2,RH h3]
  ·rw[qi,qi p s d',Y3]
   have h18:e.op≠18:=by
    rcases hc with ⟨h1,h2,h3,h4,rfl⟩ | ⟨h1,h2,h3,h4,rfl⟩ | ⟨h1,h2,h3,h4,rfl⟩ | ⟨h1,h2,ZP,h3,rfl⟩
    ·omega
    ·exact absurd h4 (by simp;omega)
    ·omega
    ·exact ZP
   rw[RE h18,RE h18]
theorem i1 {p:Pr} {s:Ps} (hp:fk p) {i:Nat} (hi:i<p.I.length) (d d':List Int):ee p s d (lF p i).when=ee p s d' (lF p i).when∧fc (ru p) (lF p i).when=some 1:=by
 obtain⟨h1,h2,h3⟩:=hp.tw i hi
 have h:=KL (c:=ru p) (p:=p) (s:=s) d d' 3 _ 1 h3 h2
 exact⟨by unfold ee;rw[h.2],h.1⟩
theorem qk {w:Int} (h:aq w=true):d7 0 w:=by
 have:=aW.1 h
 exact⟨by omega,(az (by omega) (by omega)).1⟩
theorem LU {p:Pr} (hp:fk p):Bm p (jg p) where
 l:=by simp[jg]
 v:=fun i hi=>by
  have e:(jg p).getD i 0=0:=by simp[jg,List.getD,SR];split<;>rfl
  rw[e];exact qk (hp.tw i hi).1
theorem wb {p:Pr} {s:Ps} {hs:List Hd} (hp:fk p) (hh:zq p hs):Bm p (bN p s hs) where
 l:=by rw[bN,am]
 v:=fun i hi=>by
  rw[bN,aD hi,mA]
  split
  ·rename_i h;exact hh.v i hi h.2
  ·exact qk (hp.tw i hi).1
theorem ql (p:Pr) (s:Ps) (hs:List Hd) (rs:List Bool):(ax p s hs rs).fires=fT p s hs rs:=by
 unfold ax;split<;>simp_all
theorem gN (p:Pr) (s:Ps) (hs:List Hd) (rs:List Bool):(ax p s hs rs).pops.length=p.I.length:=by
 unfold ax;split<;>simp[am]
theorem eh (p:Pr) (s:Ps) (hs:List Hd) (rs:List Bool):(ax p s hs rs).Rv.length=p.Rv.length:=by
 unfold ax;split<;>simp[am]
theorem zt {p:Pr} {s:Ps} {d:List Int} {e:Ex} {w:Int} (ho:sP (ru p) p s d) (h:fc (ru p) e=some w) (hd:fI e≤3):(a8 p s d e).2=w∧d7 (a8 p s d e).1 w∧aq w=true:=Ih ho 3 e w hd h
theorem KM {p:Pr} {s:Ps} {d:List Int} (hp:fk p) (hs:m6 p s) (hd:Bm p d):m6 p (cz p s d) where
 rl:=by rw[cz];simp[am]
 rv:=fun i hi=>by
  rw[cz];simp only;rw[aD hi]
  have h:=hp.rw i hi
  exact(zt (hE hp hs hd) h.2.2.1 h.2.2.2).2.1
 ml:=by rw[cz];simp[am]
 mn:=fun i hi=>by
  rw[cz];simp only;rw[aD hi,sf]
  split
  ·rw[Sw];exact hs.mn i hi
  ·exact hs.mn i hi
 mv:=fun i hi j hj=>by
  rw[cz]at hj ⊢;simp only at hj ⊢;rw[aD hi,sf]at hj ⊢
  have h:=hp.mw i hi
  split at hj
  ·rename_i he
   rw[RH he]
   rw[Sw]at hj
   by_cases hm:(Int.tmod (a8 p s d (qj p i).addr).1 (qj p i).words).toNat<(s.Rx.getD i []).length
   ·rw[cU hm]
    split
    ·exact(zt (hE hp hs hd) h.2.2.2.2.1 h.2.2.2.2.2).2.1
    ·exact hs.mv i hi j hj
   ·rw[TC (by omega)]
    exact hs.mv i hi j hj
  ·rename_i he
   rw[RE he]
   exact hs.mv i hi j hj
theorem pN {p:Pr} {s:Ps} {hs:List Hd} {rs:List Bool} (hp:fk p) (Wv:m6 p s) (hh:zq p hs):m6 p (ax p s hs rs).s:=by
 unfold ax
 split
 ·exact KM hp Wv (wb hp hh)
 ·exact Wv
theorem rx {p:Pr} {s:Ps} {hs:List Hd} {rs:List Bool} (hp:fk p) (Wv:m6 p s) (hh:zq p hs) {i:Nat} (hi:i<p.Rv.length) (WJ:((ax p s hs rs).Rv.getD i aJ).has=true):d7 ((ax p s hs rs).Rv.getD i aJ).v (tF p i).w:=by
 unfold ax at WJ ⊢
 split
 ·rename_i hf
  rw[RH hf]at WJ
  simp only at WJ ⊢
  rw[aD hi]at WJ ⊢
  unfold m5 at WJ ⊢
  split
  ·have h:=hp.pw i hi
   exact(zt (hE hp Wv (wb hp hh)) h.2.2.1 h.2.2.2).2.1
  ·rename_i hn;rw[RE hn]at WJ;cases WJ
 ·rename_i hf
  rw[RE hf]at WJ
  simp[List.getD,SR,hi]at WJ
structure Ch where
 name:ByteArray
 w:Int
 cap:Int
 frm:Int
 dst:Int
abbrev bK:Ch:=⟨e0,0,0,0,0⟩
structure Ci where
 U:List Pr
 J:List Ch
structure Ns where
 U:List Ps
 J:List (List Int)
def ga (c:Ch):List V:=[.str c.name,.int .i64 c.w,.int .i64 c.cap,.int .i64 c.frm,.int .i64 c.dst]
abbrev bg (c:Ci) (i:Nat):Pr:=c.U.getD i ac
abbrev f9 (c:Ci) (n:Nat):Ch:=c.J.getD n bK
abbrev De (s:Ns) (i:Nat):Ps:=s.U.getD i bh
abbrev w7 (s:Ns) (n:Nat):List Int:=s.J.getD n []
abbrev ng (p:Pr) (j:Nat):Nat:=(lF p j).chan.toNat
abbrev wV (p:Pr) (j:Nat):Nat:=(tF p j).chan.toNat
structure be (c:Ci):Prop where
 n1:1≤c.U.length
 nl:c.U.length≤100
 cl:c.J.length≤100
 pr:∀i,i<c.U.length→fk (bg c i)
 tk:∀i,i<c.U.length→∀j,j<(bg c i).I.length→0≤(lF (bg c i) j).chan∧(lF (bg c i) j).chan<c.J.length∧(f9 c (ng (bg c i) j)).w=(lF (bg c i) j).w∧(f9 c (ng (bg c i) j)).dst=i
 pt:∀i,i<c.U.length→∀j,j<(bg c i).Rv.length→0≤(tF (bg c i) j).chan∧(tF (bg c i) j).chan<c.J.length∧(f9 c (wV (bg c i) j)).w=(tF (bg c i) j).w∧(f9 c (wV (bg c i) j)).frm=i
 td:∀i,i<c.U.length→∀j k,j<(bg c i).I.length→k<(bg c i).I.length→ng (bg c i) j=ng (bg c i) k→j=k
 pd:∀i,i<c.U.length→∀j k,j<(bg c i).Rv.length→k<(bg c i).Rv.length→wV (bg c i) j=wV (bg c i) k→j=k
 cw:∀n,n<c.J.length→aq (f9 c n).w=true
 cp:∀n,n<c.J.length→0≤(f9 c n).cap
def jh (l:List Int) (w:Int):Bool:=eu (fun i=>fU (l.getD i 0) w) l.length
structure it (c:Ci) (s:Ns):Prop where
 pl:s.U.length=c.U.length
 cl:s.J.length=c.J.length
 pv:∀i,i<c.U.length→m6 (bg c i) (De s i)
 cv:∀n,n<c.J.length→∀i,i<(w7 s n).length→d7 ((w7 s n).getD i 0) (f9 c n).w
 cc:∀n,n<c.J.length→0≤(f9 c n).frm→0≤(f9 c n).dst→((w7 s n).length:Int)≤(f9 c n).cap
theorem IE {l:List Int} {w:Int}:jh l w=true↔∀i,i<l.length→d7 (l.getD i 0) w:=by
 unfold jh
 simp only[dk,IA]
def cb (c:Ci) (s:Ns) (p j:Nat):Hd:=if 0<(w7 s (ng (bg c p) j)).length then ⟨true,(w7 s (ng (bg c p) j)).getD 0 0⟩else aJ
def cr (c:Ci) (s:Ns) (p:Nat):List Hd:=tab (cb c s p) (bg c p).I.length
def ci (c:Ci) (s:Ns) (p j:Nat):Bool:=decide ((f9 c (wV (bg c p) j)).dst=-1)||decide (((w7 s (wV (bg c p) j)).length:Int)<(f9 c (wV (bg c p) j)).cap)
def dz (c:Ci) (s:Ns) (p:Nat):List Bool:=tab (ci c s p) (bg c p).Rv.length
def ae (c:Ci) (s:Ns) (p:Nat):Fi:=ax (bg c p) (De s p) (cr c s p) (dz c s p)
def gz (c:Ci) (s:Ns) (p:Nat):Bool:=(ae c s p).fires
theorem sV (c:Ci) (s:Ns) (p:Nat):gz c s p=fT (bg c p) (De s p) (cr c s p) (dz c s p):=ql _ _ _ _
theorem nh {c:Ci} {s:Ns} (hc:be c) (hs:it c s) {p:Nat} (hp:p<c.U.length):zq (bg c p) (cr c s p) where
 l:=by rw[cr,am]
 v:=fun i hi hh=>by
  rw[cr,aD hi]at hh ⊢
  unfold cb at hh ⊢
  split
  ·rename_i h0
   obtain⟨k1,k2,k3,k4⟩:=hc.tk p hp i hi
   have:=hs.cv (ng (bg c p) i) (by show(lF (bg c p) i).chan.toNat<_;omega) 0 h0
   rw[k3]at this
   exact this
  ·rename_i h0;rw[RE h0]at hh;cases hh
def kR (p:Pr) (f:Fi):Nat→List Nat
 | 0=>[]
 | k+1=>kR p f k++(if f.pops.getD k false=true then [ng p k]else [])
def kS (p:Pr) (f:Fi):Nat→List (Nat×Int)
 | 0=>[]
 | k+1=>kS p f k++(if (f.Rv.getD k aJ).has=true then [(wV p k,(f.Rv.getD k aJ).v)]else [])
def av (c:Ci) (s:Ns) (w:Nat→Bool) (p:Nat):Bool:=w p&&gz c s p
def hT (c:Ci) (s:Ns) (w:Nat→Bool):Nat→List Nat
 | 0=>[]
 | p+1=>hT c s w p++(if av c s w p=true then kR (bg c p) (ae c s p) (bg c p).I.length else [])
def jW (c:Ci) (s:Ns) (w:Nat→Bool):Nat→List (Nat×Int)
 | 0=>[]
 | p+1=>jW c s w p++(if av c s w p=true then kS (bg c p) (ae c s p) (bg c p).Rv.length else [])
def bA (l:List (List Int)) (ev:List Nat):List (List Int):=ev.foldl (fun l n=>l.set n ((l.getD n []).drop 1)) l
def bB (l:List (List Int)) (ev:List (Nat×Int)):List (List Int):=ev.foldl (fun l e=>l.set e.1 (l.getD e.1 []++[e.2])) l
def dJ (l:List Int) (ev:List Nat):List Int:=ev.foldl (fun l n=>l.set n 1) l
def dn (l:List (Option Int)) (ev:List (Nat×Int)):List (Option Int):=ev.foldl (fun l e=>l.set e.1 (some e.2)) l
def e7 (c:Ci) (s:Ns) (p n:Nat):Bool:=decide (n∈kR (bg c p) (ae c s p) (bg c p).I.length)
def t4 (c:Ci) (s:Ns) (p n:Nat):List Int:=((kS (bg c p) (ae c s p) (bg c p).Rv.length).filter (fun e=>e.1==n)).map (·.2)
def iu (c:Ci) (n:Nat):Nat:=(f9 c n).dst.toNat
def fu (c:Ci) (n:Nat):Nat:=(f9 c n).frm.toNat
def dp (c:Ci) (s:Ns) (w:Nat→Bool) (n:Nat):Nat:=if av c s w (iu c n)=true∧e7 c s (iu c n) n=true then 1 else 0
def cZ (c:Ci) (s:Ns) (w:Nat→Bool) (n:Nat):List Int:=if av c s w (fu c n)=true then t4 c s (fu c n) n else []
def cQ (c:Ci) (s:Ns) (w:Nat→Bool) (n:Nat):List Int:=(w7 s n).drop (dp c s w n)++cZ c s w n
def bE (c:Ci) (s:Ns) (w:Nat→Bool) (p:Nat):Ps:=if av c s w p=true then (ae c s p).s else De s p
def bk (c:Ci) (s:Ns) (w:Nat→Bool):Ns:=⟨tab (bE c s w) c.U.length,tab (cQ c s w) c.J.length⟩
theorem oG {p:Pr} {f:Fi} {n:Nat}:∀{k:Nat},n∈kR p f k→∃j,j<k∧f.pops.getD j false=true∧ng p j=n
 | 0,h=>by cases h
 | k+1,h=>by
  rw[kR,SK]at h
  rcases h with h | h
  ·obtain⟨j,h1,h2⟩:=oG h;exact⟨j,by omega,h2⟩
  ·split at h
   ·rename_i hh;simp only[Ts]at h;exact⟨k,by omega,hh,h.symm⟩
   ·cases h
theorem oH {p:Pr} {f:Fi} {e:Nat×Int}:∀{k:Nat},e∈kS p f k→∃j,j<k∧(f.Rv.getD j aJ).has=true∧wV p j=e.1∧(f.Rv.getD j aJ).v=e.2
 | 0,h=>by cases h
 | k+1,h=>by
  rw[kS,SK]at h
  rcases h with h | h
  ·obtain⟨j,h1,h2⟩:=oH h;exact⟨j,by omega,h2⟩
  ·split at h
   ·rename_i hh;simp only[Ts]at h;subst h;exact⟨k,by omega,hh,rfl,rfl⟩
   ·cases h
theorem eH (ev:List Nat):∀(l:List (List Int)),(bA l ev).length=l.length:=by
 induction ev with
 | nil=>intro l;rfl
 | cons n r ih=>intro l;show(bA _ r).length=_;rw[ih];simp
theorem cR (ev:List (Nat×Int)):∀(l:List (List Int)),(bB l ev).length=l.length:=by
 induction ev with
 | nil=>intro l;rfl
 | cons n r ih=>intro l;show(bB _ r).length=_;rw[ih];simp
theorem tI (ev:List Nat):∀(l:List Int),(dJ l ev).length=l.length:=by
 induction ev with
 | nil=>intro l;rfl
 | cons n r ih=>intro l;show(dJ _ r).length=_;rw[ih];simp
theorem tJ (ev:List (Nat×Int)):∀(l:List (Option Int)),(dn l ev).length=l.length:=by
 induction ev with
 | nil=>intro l;rfl
 | cons n r ih=>intro l;show(dn _ r).length=_;rw[ih];simp
theorem zy (l:List (List Int)) (ev:List Nat) (n:Nat):bA l (ev++[n])=(bA l ev).set n (((bA l ev).getD n []).drop 1):=by simp[bA,SS]
theorem fW (l:List (List Int)) (ev:List (Nat×Int)) (n:Nat) (v:Int):bB l (ev++[(n,v)])=(bB l ev).set n ((bB l ev).getD n []++[v]):=by simp[bB,SS]
theorem zA (l:List Int) (ev:List Nat) (n:Nat):dJ l (ev++[n])=(dJ l ev).set n 1:=by simp[dJ,SS]
theorem zB (l:List (Option Int)) (ev:List (Nat×Int)) (n:Nat) (v:Int):dn l (ev++[(n,v)])=(dn l ev).set n (some v):=by simp[dn,SS]
theorem nj (ev:List Nat):∀(l:List (List Int)) (n:Nat),n<l.length→(bA l ev).getD n []=(l.getD n []).drop (ev.count n):=by
 induction ev with
 | nil=>intro l n hn;simp[bA]
 | cons m r ih =>
  intro l n hn
  show(bA (l.set m _) r).getD n []=_
  rw[ih _ n (by simpa using hn),SO]
  by_cases e:m=n
  ·subst e
   rw[cU hn,RH rfl,List.drop_drop]
   simp[Nat.add_comm]
  ·by_cases hm:m<l.length
   ·rw[cU hm,RE e];simp[e]
   ·rw[TC (by omega)];simp[e]
theorem nk (ev:List (Nat×Int)):∀(l:List (List Int)) (n:Nat),n<l.length→(bB l ev).getD n []=l.getD n []++(ev.filter (fun e=>e.1==n)).map (·.2):=by
 induction ev with
 | nil=>intro l n hn;simp[bB]
 | cons m r ih =>
  intro l n hn
  show(bB (l.set m.1 _) r).getD n []=_
  rw[ih _ n (by simpa using hn)]
  by_cases e:m.1=n
  ·subst e
   rw[cU hn,RH rfl]
   simp
  ·by_cases hm:m.1<l.length
   ·rw[cU hm,RE e];simp[e]
   ·rw[TC (by omega)];simp[e]
theorem Bp (ev:List Nat):∀(l:List Int) (n:Nat),n<l.length→(dJ l ev).getD n 0=if n∈ev then 1 else l.getD n 0:=by
 induction ev with
 | nil=>intro l n hn;simp[dJ]
 | cons m r ih =>
  intro l n hn
  show(dJ (l.set m _) r).getD n 0=_
  rw[ih _ n (by simpa using hn)]
  by_cases hr:n∈r
  ·rw[RH hr,RH (by simp[hr])]
  ·rw[RE hr]
   by_cases e:m=n
   ·subst e
    rw[cU hn,RH rfl,RH (by simp)]
   ·rw[RE (by simp[hr];omega)]
    by_cases hm:m<l.length
    ·rw[cU hm,RE e]
    ·rw[TC (by omega)]
section
variable {c:Ci} {s:Ns} {w:Nat→Bool}
theorem uJ (hc:be c) {p n:Nat} (hp:p<c.U.length) {f:Fi} {k:Nat} (hk:k≤(bg c p).I.length) (h:n∈kR (bg c p) f k):n<c.J.length∧(f9 c n).dst=p:=by
 obtain⟨j,h1,h2,rfl⟩:=oG h
 obtain⟨k1,k2,k3,k4⟩:=hc.tk p hp j (by omega)
 exact⟨by show(lF (bg c p) j).chan.toNat<_;omega,k4⟩
theorem zC (hc:be c) {p:Nat} {e:Nat×Int} (hp:p<c.U.length) {f:Fi} {k:Nat} (hk:k≤(bg c p).Rv.length) (h:e∈kS (bg c p) f k):e.1<c.J.length∧(f9 c e.1).frm=p:=by
 obtain⟨j,h1,h2,h3,h4⟩:=oH h
 obtain⟨k1,k2,k3,k4⟩:=hc.pt p hp j (by omega)
 rw[← h3]
 exact⟨by show(tF (bg c p) j).chan.toNat<_;omega,k4⟩
theorem kr (hc:be c) {p:Nat} (n:Nat) (hp:p<c.U.length) {f:Fi}:∀{k:Nat},k≤(bg c p).I.length→(kR (bg c p) f k).count n=if n∈kR (bg c p) f k then 1 else 0
 | 0,_=>by simp[kR]
 | k+1,hk=>by
  have ih:=kr hc n hp (f:=f) (k:=k) (by omega)
  rw[kR,List.count_append,ih]
  by_cases h1:f.pops.getD k false=true
  ·rw[RH h1]
   by_cases e:ng (bg c p) k=n
   ·have:n∉kR (bg c p) f k:=by
     intro hm
     obtain⟨j,g1,g2,g3⟩:=oG hm
     have:=hc.td p hp j k (by omega) (by omega) (by rw[g3,e])
     omega
    rw[RE this,e,List.count_singleton_self,RH (S9 _ (Ts.2 rfl))]
   ·have e3:([ng (bg c p) k]).count n=0:=TI.2 (by rw[Ts];exact fun h=>e h.symm)
    rw[e3,SY]
    by_cases hm:n∈kR (bg c p) f k
    ·rw[RH hm,RH (Tu _ hm)]
    ·rw[RE hm,RE]
     intro h
     rcases SK.1 h with h | h
     ·exact hm h
     ·exact e (Ts.1 h).symm
  ·rw[RE h1,RL];rfl
theorem Bq {n:Nat}:∀{P:Nat},n∈hT c s w P→∃p,p<P∧av c s w p=true∧n∈kR (bg c p) (ae c s p) (bg c p).I.length
 | 0,h=>by cases h
 | P+1,h=>by
  rw[hT,SK]at h
  rcases h with h | h
  ·obtain⟨j,h1,h2⟩:=Bq h;exact⟨j,by omega,h2⟩
  ·split at h
   ·rename_i hh;exact⟨P,by omega,hh,h⟩
   ·cases h
theorem qn (hc:be c) (n:Nat):∀{P:Nat},P≤c.U.length→(hT c s w P).count n=if iu c n<P then dp c s w n else 0
 | 0,_=>by simp[hT]
 | P+1,hP=>by
  have ih:=qn hc n (P:=P) (by omega)
  rw[hT,List.count_append,ih]
  by_cases hd:iu c n=P
  ·rw[RE (show ¬iu c n<P by omega),RH (show iu c n<P+1 by omega),dp,hd,Sp]
   by_cases hf:av c s w P=true
   ·rw[RH hf,kr hc n (by omega) (RD _)]
    simp[e7,hf]
   ·rw[RE hf];simp[hf]
  ·have h0:(if av c s w P=true then kR (bg c P) (ae c s P) (bg c P).I.length else []).count n=0:=by
    split
    ·rw[kr hc n (by omega) (RD _),RE]
     intro hm
     have:=(uJ hc (by omega) (RD _) hm).2
     exact hd (by rw[iu,this];rfl)
    ·rfl
   rw[h0]
   by_cases h1:iu c n<P
   ·rw[RH h1,RH (show iu c n<P+1 by omega)];rfl
   ·rw[RE h1,RE (show ¬iu c n<P+1 by omega)]
theorem IG (hc:be c) {p n:Nat} (h:e7 c s p n=true):p<c.U.length:=by
 by_cases hp:p<c.U.length
 ·exact hp
 ·unfold e7 at h
  have e:bg c p=ac:=by rw[bg,List.getD,Sm (by omega)];rfl
  rw[e]at h
  simp[kR]at h
theorem E5 (hc:be c) (n:Nat):(if iu c n<c.U.length then dp c s w n else 0)=dp c s w n:=by
 split
 ·rfl
 ·rename_i h
  rw[dp,RE]
  rintro⟨_,h2⟩
  exact h (IG hc h2)
theorem KQ (hc:be c) {p n:Nat} (hp:p<c.U.length) (hd:¬fu c n=p) (f:Fi):(kS (bg c p) f (bg c p).Rv.length).filter (fun e=>e.1==n)=[]:=by
 rw[List.filter_eq_nil_iff]
 intro e he h
 have h1:e.1=n:=by simpa using h
 have:=(zC hc hp (RD _) he).2
 rw[h1]at this
 exact hd (by rw[fu,this];rfl)
theorem rE (hc:be c) (n:Nat):∀{P:Nat},P≤c.U.length→((jW c s w P).filter (fun e=>e.1==n)).map (·.2)=if fu c n<P then cZ c s w n else []
 | 0,_=>by simp[jW]
 | P+1,hP=>by
  have ih:=rE hc n (P:=P) (by omega)
  rw[jW,Tq,RO,ih]
  by_cases hd:fu c n=P
  ·rw[RE (show ¬fu c n<P by omega),RH (show fu c n<P+1 by omega),cZ,hd]
   by_cases hf:av c s w P=true
   ·rw[RH hf,RH hf];rfl
   ·rw[RE hf,RE hf];rfl
  ·have h0:(if av c s w P=true then kS (bg c P) (ae c s P) (bg c P).Rv.length else []).filter (fun e=>e.1==n)=[]:=by
    split
    ·exact KQ hc (by omega) hd _
    ·rfl
   rw[h0]
   by_cases h1:fu c n<P
   ·rw[RH h1,RH (show fu c n<P+1 by omega)];exact RL _
   ·rw[RE h1,RE (show ¬fu c n<P+1 by omega)];rfl
theorem np {p n:Nat} (hp:¬p<c.U.length):t4 c s p n=[]:=by
 have e:bg c p=ac:=by rw[bg,List.getD,Sm (by omega)];rfl
 unfold t4
 rw[e];rfl
theorem zD (n:Nat):(if fu c n<c.U.length then cZ c s w n else [])=cZ c s w n:=by
 split
 ·rfl
 ·rename_i h
  rw[cZ]
  split
  ·rw[np h]
  ·rfl
theorem Gx (hc:be c) (hs:s.J.length=c.J.length):bB (bA s.J (hT c s w c.U.length)) (jW c s w c.U.length)=(bk c s w).J:=by
 refine dV (d:=[]) ?_ (fun n hn=>?_)
 ·rw[cR,eH,bk,am,hs]
 ·rw[cR,eH]at hn
  rw[nk _ _ _ (by rw[eH];exact hn),nj _ _ _ hn,qn hc n (RD _),rE hc n (RD _),E5 hc,zD]
  show _=(tab (cQ c s w) c.J.length).getD n []
  rw[aD (by omega)]
  rfl
end
section
variable {p:Pr} {s:Ps} {hs hs':List Hd} {rs rs':List Bool}
theorem oI:fT p s hs rs=true↔(∀j,j<p.I.length→iP p s hs j=true)∧∀j,j<p.Rv.length→ko p s hs rs j=true:=by
 unfold fT
 rw[RA,dk,dk]
theorem rF (h:fT p s hs rs=true):ax p s hs rs=⟨true,cz p s (bN p s hs),tab (m4 p s hs) p.I.length,tab (m5 p s hs) p.Rv.length⟩:=RH h
theorem oJ (hp:fk p) (h:fT p s hs rs=true) (h1:∀j,j<p.I.length→(hs.getD j aJ).has=true→hs'.getD j aJ=hs.getD j aJ)
  (h2:∀j,j<p.Rv.length→rs.getD j false=true→rs'.getD j false=true):ax p s hs' rs'=ax p s hs rs:=by
 obtain⟨ht,hr⟩:=oI.1 h
 have XO:bN p s hs'=bN p s hs:=by
  unfold bN
  refine gy (fun j hj=>?_)
  unfold mA
  by_cases hd:ee p s (jg p) (lF p j).when=true
  ·have hh:=ht j hj
   unfold iP at hh
   have hdue:ee p s (bN p s hs) (lF p j).when=true:=by rw[← hd];exact(i1 hp hj _ _).1
   have WJ:(hs.getD j aJ).has=true:=by rw[hdue]at hh;simpa using hh
   rw[h1 j hj WJ]
  ·rw[RE (by rintro⟨a,_⟩;exact hd a),RE (by rintro⟨a,_⟩;exact hd a)]
 have hf:fT p s hs' rs'=true:=by
  rw[oI]
  refine⟨fun j hj=>?_,fun j hj=>?_⟩
  ·have hh:=ht j hj
   unfold iP at hh ⊢
   rw[XO]
   rw[Sh]at hh ⊢
   rcases hh with hh | hh
   ·left;rw[h1 j hj hh];exact hh
   ·exact .inr hh
  ·have hh:=hr j hj
   unfold ko at hh ⊢
   rw[XO]
   rw[Sh]at hh ⊢
   rcases hh with hh | hh
   ·exact .inl (h2 j hj hh)
   ·exact .inr hh
 rw[rF hf,rF h]
 have e1:m4 p s hs'=m4 p s hs:=by funext j;unfold m4;rw[XO]
 have e2:m5 p s hs'=m5 p s hs:=by funext j;unfold m5;rw[XO]
 rw[XO,e1,e2]
theorem E6 (h:fT p s hs rs=true) {j:Nat} (hj:j<p.I.length) (UZ:(ax p s hs rs).pops.getD j false=true):(hs.getD j aJ).has=true:=by
 rw[rF h]at UZ
 simp only at UZ
 rw[aD hj]at UZ
 have hh:=(oI.1 h).1 j hj
 unfold iP at hh
 unfold m4 at UZ
 rw[UZ]at hh
 simpa using hh
theorem IH (h:fT p s hs rs=true) {j:Nat} (hj:j<p.Rv.length) (Vb:((ax p s hs rs).Rv.getD j aJ).has=true):rs.getD j false=true:=by
 rw[rF h]at Vb
 simp only at Vb
 rw[aD hj]at Vb
 have hh:=(oI.1 h).2 j hj
 unfold ko at hh
 unfold m5 at Vb
 split at Vb
 ·rename_i hd;rw[hd]at hh;simpa using hh
 ·cases Vb
end
section
variable {c:Ci} {s:Ns} {w w':Nat→Bool}
theorem zE (hc:be c) {p:Nat} (hp:p<c.U.length) {f:Fi} (n:Nat):∀{k:Nat},k≤(bg c p).Rv.length→((kS (bg c p) f k).filter (fun e=>e.1==n)).length≤1
 | 0,_=>by simp[kS]
 | k+1,hk=>by
  have ih:=zE hc hp (f:=f) n (k:=k) (by omega)
  rw[kS,Tq,RV]
  by_cases h1:(f.Rv.getD k aJ).has=true
  ·rw[RH h1]
   by_cases e:wV (bg c p) k=n
   ·have h0:(kS (bg c p) f k).filter (fun e=>e.1==n)=[]:=by
     rw[List.filter_eq_nil_iff]
     intro z hz hzn
     obtain⟨j,g1,g2,g3,g4⟩:=oH hz
     have h5:z.1=n:=by simpa using hzn
     have:=hc.pd p hp j k (by omega) (by omega) (by rw[g3,e,h5])
     omega
    rw[h0]
    simp only[RN,Sp]
    exact SG (List.length_filter_le _ _) (by simp)
   ·rw[List.filter_cons_of_neg (by simpa using e),TV];exact ih
  ·rw[RE h1];exact ih
theorem Br (hc:be c) {p:Nat} (n:Nat):(t4 c s p n).length≤1:=by
 by_cases hp:p<c.U.length
 ·unfold t4;rw[RJ];exact zE hc hp n (RD _)
 ·rw[np hp];simp
theorem Bs {p n:Nat} {v:Int} (h:v∈t4 c s p n):∃j,j<(bg c p).Rv.length∧((ae c s p).Rv.getD j aJ).has=true∧wV (bg c p) j=n∧((ae c s p).Rv.getD j aJ).v=v:=by
 unfold t4 at h
 rw[TX]at h
 obtain⟨e,he,rfl⟩:=h
 rw[Ta]at he
 obtain⟨j,h1,h2,h3,h4⟩:=oH he.1
 exact⟨j,h1,h2,by rw[h3];simpa using he.2,h4⟩
theorem E7 {p n:Nat} {v:Int} (h:v∈t4 c s p n):p<c.U.length:=by
 by_cases hp:p<c.U.length
 ·exact hp
 ·rw[np hp]at h;cases h
theorem x7 {p n:Nat} (h:e7 c s p n=true):∃j,j<(bg c p).I.length∧(ae c s p).pops.getD j false=true∧ng (bg c p) j=n:=by
 unfold e7 at h
 exact oG (ST h)
theorem sW {p n:Nat} (Ua:gz c s p=true) (h:e7 c s p n=true):0<(w7 s n).length:=by
 obtain⟨j,h1,h2,rfl⟩:=x7 h
 rw[sV]at Ua
 have:=E6 Ua h1 h2
 rw[cr,aD h1]at this
 unfold cb at this
 split at this
 ·assumption
 ·cases this
theorem gA {p:Nat} (h:av c s w p=true):w p=true∧gz c s p=true:=by
 unfold av at h;simpa using h
theorem ji (c:Ci) (s:Ns) (w:Nat→Bool) {n:Nat} (hn:n<c.J.length):w7 (bk c s w) n=cQ c s w n:=by
 show(tab _ _).getD n []=_
 rw[aD hn]
theorem nq (c:Ci) (s:Ns) (w:Nat→Bool) {p:Nat} (hp:p<c.U.length):De (bk c s w) p=bE c s w p:=by
 show(tab _ _).getD p bh=_
 rw[aD hp]
theorem rG {α:Type} {a b:List α} {i:Nat} {d:α}:(a++b).getD i d=if i<a.length then a.getD i d else b.getD (i-a.length) d:=by
 simp only[List.getD,List.getElem?_append]
 split<;>rfl
theorem x8 {α:Type} {a:List α} {k i:Nat} {d:α}:(a.drop k).getD i d=a.getD (k+i) d:=by
 simp only[List.getD,SV]
theorem oL {α:Type} {l:List α} {i:Nat} {d:α} (h:i<l.length):l.getD i d∈l:=by
 simp[List.getD,RB h]
theorem M1 (hc:be c) (hs:it c s) (w:Nat→Bool):it c (bk c s w) where
 pl:=by rw[bk];exact am _ _
 cl:=by rw[bk];exact am _ _
 pv:=fun p hp=>by
  rw[nq c s w hp]
  unfold bE
  split
  ·exact pN (hc.pr p hp) (hs.pv p hp) (nh hc hs hp)
  ·exact hs.pv p hp
 cv:=fun n hn i hi=>by
  rw[ji c s w hn]at hi ⊢
  unfold cQ at hi ⊢
  rw[rG]
  split
  ·rename_i h
   rw[x8]
   rw[Sd]at h
   exact hs.cv n hn _ (by omega)
  ·rename_i h
   rw[RV]at hi
   have hm:=oL (d:=(0:Int)) (show i-((w7 s n).drop (dp c s w n)).length<(cZ c s w n).length by omega)
   generalize (cZ c s w n).getD _ 0=v at hm
   unfold cZ at hm
   split at hm
   ·have Un:=E7 hm
    obtain⟨j,h1,h2,h3,h4⟩:=Bs hm
    have:=rx (rs:=dz c s (fu c n)) (hc.pr _ Un) (hs.pv _ Un) (nh hc hs Un) h1 h2
    rw[← (hc.pt _ Un j h1).2.2.1,h3]at this
    rw[← h4];exact this
   ·cases hm
 cc:=fun n hn hf hd=>by
  rw[ji c s w hn]
  unfold cQ
  rw[RV,Sd]
  have h0:=hs.cc n hn hf hd
  unfold cZ
  split
  ·rename_i hfi
   have h1:=Br (s:=s) hc (p:=fu c n) n
   by_cases h2:t4 c s (fu c n) n=[]
   ·rw[h2];simp only[RN];omega
   ·obtain⟨v,hv⟩:=List.exists_mem_of_ne_nil _ h2
    have Un:=E7 hv
    obtain⟨j,h1',ZP,h3,h4⟩:=Bs hv
    have Ua:=(gA hfi).2
    rw[sV]at Ua
    have hr:=IH Ua h1' ZP
    rw[dz,aD h1']at hr
    unfold ci at hr
    rw[h3]at hr
    simp only[Sh,Sy]at hr
    omega
  ·simp only[RN];omega
theorem M2 (hc:be c) {p j:Nat} (hp:p<c.U.length) (hj:j<(bg c p).Rv.length):fu c (wV (bg c p) j)=p:=by
 rw[fu,(hc.pt p hp j hj).2.2.2];rfl
theorem M3 (hc:be c) {p j:Nat} (hp:p<c.U.length) (hj:j<(bg c p).I.length):iu c (ng (bg c p) j)=p:=by
 rw[iu,(hc.tk p hp j hj).2.2.2];rfl
theorem LX (hc:be c) {p j:Nat} (hp:p<c.U.length) (hj:j<(bg c p).I.length):ng (bg c p) j<c.J.length:=by
 have:=hc.tk p hp j hj
 show(lF (bg c p) j).chan.toNat<_
 omega
theorem OM (hc:be c) {p j:Nat} (hp:p<c.U.length) (hj:j<(bg c p).Rv.length):wV (bg c p) j<c.J.length:=by
 have:=hc.pt p hp j hj
 show(tF (bg c p) j).chan.toNat<_
 omega
theorem E8 {n:Nat} (h:w (iu c n)=false):dp c s w n=0:=by
 rw[dp,RE]
 rintro⟨h1,_⟩
 rw[(gA h1).1]at h;cases h
theorem E9 {n:Nat} (h:w (fu c n)=false):cZ c s w n=[]:=by
 rw[cZ,RE]
 intro h1
 rw[(gA h1).1]at h;cases h
theorem we (hc:be c) {p:Nat} (hp:p<c.U.length) (Ua:gz c s p=true) (hw:w p=false):ae c (bk c s w) p=ae c s p∧De (bk c s w) p=De s p:=by
 have Yh:De (bk c s w) p=De s p:=by
  rw[nq c s w hp,bE,RE (by unfold av;rw[hw];simp)]
 refine⟨?_,Yh⟩
 unfold ae
 rw[Yh]
 rw[sV]at Ua
 refine oJ (hc.pr p hp) Ua (fun j hj hh=>?_) (fun j hj hh=>?_)
 ·rw[cr,aD hj]at hh ⊢
  rw[cr,aD hj]
  unfold cb at hh ⊢
  rw[ji c s w (LX hc hp hj),cQ,E8 (by rw[M3 hc hp hj];exact hw),S8]
  split at hh
  ·rename_i h0
   rw[RH h0,RH (by rw[RV];omega),rG,RH h0]
  ·cases hh
 ·rw[dz,aD hj]at hh ⊢
  unfold ci at hh ⊢
  rw[ji c s w (OM hc hp hj),cQ,E9 (by rw[M2 hc hp hj];exact hw),RL,Sd]
  simp only[Sh,Sy]at hh ⊢
  omega
theorem x9 (h:∀p,av c s w p=av c s w' p):bk c s w=bk c s w':=by
 have h1:bE c s w=bE c s w':=by funext p;unfold bE;rw[h p]
 have h2:cQ c s w=cQ c s w':=by funext n;unfold cQ dp cZ;rw[h,h]
 unfold bk;rw[h1,h2]
theorem II {p:Nat} (h:av c s w p=false):bE c s w p=De s p:=by
 unfold bE;rw[RE (by rw[h];simp)]
theorem Bt {p:Nat} (hs:c.U.length≤p):e7 c s p=fun _=>false:=by
 funext n
 cases h:e7 c s p n
 ·rfl
 ·exfalso
  obtain⟨j,h1,_⟩:=x7 h
  have e:bg c p=ac:=by rw[bg,List.getD,Sm (by omega)];rfl
  rw[e]at h1
  exact Tz _ h1
theorem IJ (hs:it c s) (h:∀p,p<c.U.length→av c s w p=false):bk c s w=s:=by
 have e1:(bk c s w).U=s.U:=by
  refine dV (d:=bh) (by rw[bk,am,hs.pl]) (fun p hp=>?_)
  rw[bk,am]at hp
  show De (bk c s w) p=De s p
  rw[nq c s w hp,II (h p hp)]
 have e2:(bk c s w).J=s.J:=by
  refine dV (d:=[]) (by rw[bk,am,hs.cl]) (fun n hn=>?_)
  rw[bk,am]at hn
  show w7 (bk c s w) n=w7 s n
  rw[ji c s w hn,cQ]
  have h1:dp c s w n=0:=by
   rw[dp]
   by_cases hd:iu c n<c.U.length
   ·rw[h _ hd];simp
   ·rw[RE]
    rintro⟨_,h2⟩
    rw[Bt (by omega)]at h2;cases h2
  have h2:cZ c s w n=[]:=by
   rw[cZ]
   by_cases hd:fu c n<c.U.length
   ·rw[h _ hd];simp
   ·split
    ·exact np hd
    ·rfl
  rw[h1,h2];simp
 cases s;cases hq:bk c _ w
 rw[hq]at e1 e2
 simp only at e1 e2
 rw[e1,e2]
def dq (p:Nat):Nat→Bool:=fun q=>decide (q=p)
theorem kt (p:Nat):dq p p=true:=by simp[dq]
theorem uK {p q:Nat} (h:q≠p):dq p q=false:=by simp[dq,h]
theorem KR (hc:be c) {p:Nat} (hp:p<c.U.length) (Ua:gz c s p=true) (hw:w p=false):bk c (bk c s w) (dq p)=bk c s (fun q=>w q||dq p q):=by
 obtain⟨Uz,Yh⟩:=we (w:=w) hc hp Ua hw
 have Xl:gz c (bk c s w) p=true:=by unfold gz;rw[Uz];exact Ua
 have hfp:av c (bk c s w) (dq p) p=true:=by unfold av;rw[kt,Xl];rfl
 have hfq:∀q,q≠p→av c (bk c s w) (dq p) q=false:=fun q hq=>by unfold av;rw[uK hq];rfl
 have gp:av c s (fun q=>w q||dq p q) p=true:=by unfold av;simp[kt,Ua]
 have gq:∀q,q≠p→av c s (fun q=>w q||dq p q) q=av c s w q:=fun q hq=>by unfold av;simp[uK hq]
 have e1:∀q,q<c.U.length→bE c (bk c s w) (dq p) q=bE c s (fun q=>w q||dq p q) q:=by
  intro q hq
  unfold bE
  by_cases e:q=p
  ·subst e;rw[RH hfp,RH gp,Uz]
  ·rw[hfq q e,gq q e,RE (by simp),nq c s w hq];rfl
 have hfw:av c s w p=false:=by unfold av;rw[hw];rfl
 have e2:∀n,n<c.J.length→cQ c (bk c s w) (dq p) n=cQ c s (fun q=>w q||dq p q) n:=by
  intro n hn
  unfold cQ
  rw[ji c s w hn,cQ]
  have hcome:cZ c (bk c s w) (dq p) n=if fu c n=p then t4 c s p n else []:=by
   unfold cZ
   by_cases e:fu c n=p
   ·rw[RH e,e,RH hfp];unfold t4;rw[Uz]
   ·rw[RE e,hfq _ e];simp
  have hcome2:cZ c s (fun q=>w q||dq p q) n=if fu c n=p then t4 c s p n else cZ c s w n:=by
   unfold cZ
   by_cases e:fu c n=p
   ·rw[RH e,e,RH gp]
   ·rw[RE e,gq _ e]
  have XT:fu c n=p→cZ c s w n=[]:=fun e=>E9 (by rw[e];exact hw)
  have hgone:dp c (bk c s w) (dq p) n=if iu c n=p∧e7 c s p n=true then 1 else 0:=by
   unfold dp
   by_cases e:iu c n=p
   ·rw[e]
    have:e7 c (bk c s w) p n=e7 c s p n:=by unfold e7;rw[Uz]
    rw[this,hfp];simp
   ·rw[hfq _ e,RE (by simp),RE (by simp[e])]
  have hgone2:dp c s (fun q=>w q||dq p q) n=if iu c n=p∧e7 c s p n=true then 1 else dp c s w n:=by
   unfold dp
   by_cases e:iu c n=p
   ·rw[e,gp,hfw];simp
   ·rw[gq _ e];simp[e]
  have hgone3:iu c n=p→dp c s w n=0:=fun e=>E8 (by rw[e];exact hw)
  rw[hcome,hcome2,hgone,hgone2]
  have key:∀(z:List Int),(if fu c n=p then cZ c s w n++z else cZ c s w n)=(if fu c n=p then z else cZ c s w n):=by
   intro z;split
   ·rename_i e;rw[XT e];rfl
   ·rfl
  by_cases ht:iu c n=p∧e7 c s p n=true
  ·rw[RH ht,RH ht,hgone3 ht.1,S8]
   have h0:=sW Ua ht.2
   rw[List.drop_append_of_le_length (by omega)]
   by_cases e:fu c n=p
   ·rw[RH e,RH e,XT e,RL]
   ·rw[RE e,RE e,RL]
  ·rw[RE ht,RE ht,S8]
   by_cases e:fu c n=p
   ·rw[RH e,RH e,XT e,RL]
   ·rw[RE e,RE e,RL]
 unfold bk
 rw[show tab (bE c ⟨tab (bE c s w) c.U.length,tab (cQ c s w) c.J.length⟩ (dq p)) c.U.length=tab (bE c s (fun q=>w q||dq p q)) c.U.length from gy e1,
  show tab (cQ c ⟨tab (bE c s w) c.U.length,tab (cQ c s w) c.J.length⟩ (dq p)) c.J.length=tab (cQ c s (fun q=>w q||dq p q)) c.J.length from gy e2]
end
def cM {α:Type} (f:Nat→α) (l:List α) (i:Nat):List α:=tab f i++l.drop i
theorem dm {α:Type} {f:Nat→α} {l:List α} {i:Nat} (h:i≤l.length):(cM f l i).length=l.length:=by
 unfold cM;rw[RV,am,Sd];omega
theorem bR {α:Type} {f:Nat→α} {l:List α} {i:Nat} {v:α} (h:i<l.length) (hv:f i=v):(cM f l i).set i v=cM f l (i+1):=by
 rw[← hv];exact KK h
theorem bP {α:Type} {f:Nat→α} {l:List α} {i:Nat} {d:α} (h:i<l.length) (hv:f i=l.getD i d):cM f l i=cM f l (i+1):=by
 unfold cM
 rw[wa,SB,hv]
 congr 1
 rw[List.drop_eq_getElem_cons h,List.getD,RB h];rfl
theorem cH {α:Type} {f:Nat→α} {l:List α} {i:Nat} (h:l.length≤i):cM f l i=tab f i:=Iz h
theorem nc {α:Type} {f:Nat→α} {l:List α} {i j:Nat} {d:α}:(cM f l i).getD j d=if j<i then f j else l.getD j d:=by
 unfold cM
 by_cases h:j<i
 ·rw[RH h,List.getD,RP (by rw[am];exact h),← List.getD,aD h]
 ·rw[RE h,List.getD,RT (by rw[am];omega),am,SV,← List.getD]
  congr 1;omega
theorem fV {α:Type} {f:Nat→α} {enc:α→List V} {i:Nat} (h:i<137438953472):(tab f i).length+([f i].map enc).length≤137438953472∧(tab f i).map enc++[f i].map enc=(tab f (i+1)).map enc:=by
 refine⟨by rw[am];simp;omega,?_⟩
 rw[wa,RO]
theorem ca {α:Type} {n i:Nat} {a:α}:(List.replicate n a).getD i a=a:=by
 rw[List.getD,SR];split<;>rfl
section
variable {p:Pr} {s:Ps} {hs:List Hd} {rs:List Bool} {d:List Int} {i:Nat}
theorem wc:(jg p).getD i 0=0:=ca
theorem eG:(jg p).length=p.I.length:=by simp[jg]
theorem MZ (hp:fk p) (hh:zq p hs) (hi:i≤p.I.length):Bm p (cM (mA p s hs) (jg p) i) where
 l:=by rw[dm (by rw[eG];exact hi),eG]
 v:=fun j hj=>by
  rw[nc]
  split
  ·have:=(wb (s:=s) hp hh).v j hj
   rw[bN,aD hj]at this
   exact this
  ·exact(LU hp).v j hj
theorem zu {e:Ex} (h:¬(a8 p s d e).1=1):ee p s d e=false:=R6 h
theorem uH {e:Ex} (h:(a8 p s d e).1=1):ee p s d e=true:=RX h
theorem KN (hp:fk p) (hi:i<p.I.length) (h:¬(a8 p s d (lF p i).when).1=1):m4 p s hs i=false∧mA p s hs i=0∧iP p s hs i=true:=by
 have h0:=zu h
 have h1:ee p s (jg p) (lF p i).when=false:=by rw[← h0];exact(i1 hp hi _ _).1
 have h2:ee p s (bN p s hs) (lF p i).when=false:=by rw[← h0];exact(i1 hp hi _ _).1
 refine⟨h2,?_,?_⟩
 ·unfold mA;rw[RE (by rw[h1];simp)]
 ·unfold iP;rw[h2];simp
theorem ry (hp:fk p) (hi:i<p.I.length) (h:(a8 p s d (lF p i).when).1=1):m4 p s hs i=true∧(mA p s hs i=if (hs.getD i aJ).has=true then (hs.getD i aJ).v else 0)∧iP p s hs i=(hs.getD i aJ).has:=by
 have h0:=uH h
 have h1:ee p s (jg p) (lF p i).when=true:=by rw[← h0];exact(i1 hp hi _ _).1
 have h2:ee p s (bN p s hs) (lF p i).when=true:=by rw[← h0];exact(i1 hp hi _ _).1
 refine⟨h2,?_,?_⟩
 ·unfold mA;rw[h1];simp
 ·unfold iP;rw[h2];simp
theorem M0 (h:¬(a8 p s (bN p s hs) (tF p i).when).1=1):m5 p s hs i=aJ∧ko p s hs rs i=true:=by
 have h0:=zu h
 refine⟨?_,?_⟩
 ·unfold m5;rw[h0];simp
 ·unfold ko;rw[h0];simp
theorem EV (h:(a8 p s (bN p s hs) (tF p i).when).1=1):m5 p s hs i=⟨true,(a8 p s (bN p s hs) (tF p i).data).1⟩∧ko p s hs rs i=rs.getD i false:=by
 have h0:=uH h
 refine⟨?_,?_⟩
 ·unfold m5;rw[h0];simp
 ·unfold ko;rw[h0];simp
theorem EW (h:fT p s hs rs=false):ax p s hs rs=⟨false,s,List.replicate p.I.length false,List.replicate p.Rv.length aJ⟩:=RE (by rw[h];simp)
theorem zw (h:fT p s hs rs=true):ax p s hs rs=⟨true,cz p s (bN p s hs),tab (m4 p s hs) p.I.length,tab (m5 p s hs) p.Rv.length⟩:=RH h
theorem oC {a b:Bool} (h1:a=eu (iP p s hs) p.I.length) (h2:b=(a&&eu (ko p s hs rs) p.Rv.length)):fT p s hs rs=b:=by
 rw[h2,h1];rfl
theorem uI (hp:fk p) (hi:i<p.I.length):fc (ru p) (lF p i).when=some 1∧fI (lF p i).when≤3:=⟨(i1 (s:=bh) hp hi [] []).2,(hp.tw i hi).2.2⟩
theorem rz (p:Pr):aC p=⟨tab (fun i=>(J2 p i).init) p.Ry.length,tab (fun i=>List.replicate (qj p i).words.toNat 0) p.Rx.length⟩:=by
 unfold aC;rw[EU (d:=bH),EU (d:=aP)]
theorem IB {l:List Int} {z:List Int} (h:l.length=z.length):cM (fun j=>l.getD j 0) z z.length=l:=by
 rw[cH (RD _),← h,← Iy]
end
theorem sT {α:Type} {a b:List α} {d:α} {k:Nat} (hl:a.length=b.length) (hk:¬k<a.length) (h:∀j,j<k→a.getD j d=b.getD j d):a=b :=
 dV (d:=d) hl (fun i hi=>h i (by omega))
theorem a6 {α:Type} {f:Nat→α} {x:α} {enc:α→List V} {i:Nat} (h:i<137438953472) (hx:x=f i):(tab f i).length+([x].map enc).length≤137438953472∧(tab f i).map enc++[x].map enc=(tab f (i+1)).map enc:=by
 subst hx;exact fV h
section
variable {c:Sc} {p:Pr} {s:Ps} {hs:List Hd} {rs:List Bool} {d:List Int} {i:Nat}
theorem IC (ho:sP c p s d) {e:Ex} {v:Int} (ht:fc c e=some v) (h1:¬e.op=16) (h2:¬e.op=17) (h3:¬e.op=18):hC e.op (dj p s d e.args) e.k.n e.w.n=true∧Bg (dj p s d e.args) (eZ p s d e.args)=true:=by
 obtain⟨ws,hws,hc⟩:=hD ht
 obtain⟨hl,UK⟩:=lD hws
 have hargs:∀i,i<e.args.length→(a8 p s d (e.args.getD i dE)).2=ws.getD i 0∧d7 (a8 p s d (e.args.getD i dE)).1 (ws.getD i 0)∧aq (ws.getD i 0)=true:=fun i hi=>Ih ho _ _ _ (RD _) (UK i hi)
 obtain⟨q1,q2,q3,q4⟩:=EK (c:=c) hl hargs
 have e1:dj p s d e.args=ws:=by rw[← q1,dj,TY];rfl
 have e2:eZ p s d e.args=(e.args.map (a8 p s d)).map (·.1):=by rw[eZ,TY];rfl
 rw[e1,e2]
 rcases hc with ⟨h,_⟩ | ⟨h,_⟩ | ⟨h,_⟩ | ⟨_,_,_,h,_⟩
 ·exact absurd h h1
 ·exact absurd h h3
 ·exact absurd h h2
 ·exact⟨h,q3⟩
theorem KO (h1:ee p s (jg p) (lF p i).when=true) (h2:(hs.getD i aJ).has=true):mA p s hs i=(hs.getD i aJ).v:=RH ⟨h1,h2⟩
theorem EX (h1:¬ee p s (jg p) (lF p i).when=true):mA p s hs i=(jg p).getD i 0:=by rw[wc];exact RE (fun h=>h1 h.1)
theorem EY (h1:¬(hs.getD i aJ).has=true):mA p s hs i=(jg p).getD i 0:=by rw[wc];exact RE (fun h=>h1 h.2)
theorem zx (h:ee p s d (qj p i).enable=true):(s.Rx.getD i []).set (Int.tmod (a8 p s d (qj p i).addr).1 (qj p i).words).toNat (a8 p s d (qj p i).data).1=sf p s d i:=(RH h).symm
theorem EZ (h:¬ee p s d (qj p i).enable=true):s.Rx.getD i []=sf p s d i:=(RE h).symm
theorem E3 (hp:fk p) (hs:m6 p s) (hd:Bm p d) (hi:i<p.Rx.length):0≤Int.tmod (a8 p s d (qj p i).addr).1 (qj p i).words∧Int.tmod (a8 p s d (qj p i).addr).1 (qj p i).words<(s.Rx.getD i []).length∧(qj p i).words≠0:=by
 have h:=hp.mw i hi
 obtain⟨v,hv⟩:=h.2.2.2.1.1
 have h0:=(zt (hE hp hs hd) hv h.2.2.2.1.2).2.1.1
 have hm:=hs.mn i hi
 rw[hm]
 exact⟨Int.tmod_nonneg _ h0,Int.tmod_lt_of_pos _ (by omega),by omega⟩
theorem nd {b:Bool} (h:b=eu (iP p s hs) i) (x:Bool) (hx:x=(b&&iP p s hs i)):x=eu (iP p s hs) (i+1):=by rw[hx,h];rfl
theorem sU {a b:Bool} (h:b=(a&&eu (ko p s hs rs) i)) (x:Bool) (hx:x=(b&&ko p s hs rs i)):x=(a&&eu (ko p s hs rs) (i+1)):=by rw[hx,h,eu,Bool.and_assoc]
end
section
variable {c:Ci} {s e:Ns} {w:Nat→Bool}
theorem KS (hc:be c) {p:Nat} (hp:p<c.U.length) (h1:gz c s p=true) (hw:w p=false):gz c (bk c s w) p=true:=by
 unfold gz;rw[(we hc hp h1 hw).1];exact h1
def gB (w:Nat→Bool) (P:Nat):Nat→Bool:=fun q=>w q&&decide (q<P)
theorem uL (hs:it c s):bk c s w=bk c s (gB w c.U.length):=by
 have h1:∀q,q<c.U.length→av c s w q=av c s (gB w c.U.length) q:=fun q hq=>by unfold av gB;simp[hq]
 have e1:tab (bE c s w) c.U.length=tab (bE c s (gB w c.U.length)) c.U.length:=gy (fun q hq=>by unfold bE;rw[h1 q hq])
 have e2:tab (cQ c s w) c.J.length=tab (cQ c s (gB w c.U.length)) c.J.length:=gy (fun n hn=>by
  unfold cQ
  have g1:dp c s w n=dp c s (gB w c.U.length) n:=by
   unfold dp
   by_cases hd:iu c n<c.U.length
   ·rw[h1 _ hd]
   ·rw[Bt (by omega)];simp
  have g2:cZ c s w n=cZ c s (gB w c.U.length) n:=by
   unfold cZ
   by_cases hd:fu c n<c.U.length
   ·rw[h1 _ hd]
   ·rw[np hd];simp
  rw[g1,g2])
 unfold bk;rw[e1,e2]
end
def nr (f:Nat→Bool):Nat→Int
 | 0=>-1
 | n+1=>if eu (fun i=>!f i) n=true then (if f n=true then n else -1)else nr f n
theorem qo {f:Nat→Bool} {i:Nat} (hf:f i=true) (h:∀z,z<i→f z=false):∀{n:Nat},i<n→nr f n=i
 | 0,h0=>absurd h0 (Tz _)
 | n+1,h0=>by
  rw[nr]
  by_cases e:i=n
  ·subst e
   rw[RH (dk.2 (fun z hz=>by rw[h z hz];rfl)),RH hf]
  ·rw[RE (by rw[rt (show i<n by omega) (by simp[hf])];simp),qo hf h (by omega)]
theorem ya {f:Nat→Bool}:∀{n:Nat},(∀z,z<n→f z=false)→nr f n=-1
 | 0,_=>rfl
 | n+1,h=>by
  rw[nr,RH (dk.2 (fun z hz=>by rw[h z (by omega)];rfl)),RE (by rw[h n (by omega)];simp)]
theorem wg {f:Nat→Bool}:∀{n:Nat},decide (0≤nr f n)=!(eu (fun i=>!f i) n)
 | 0=>rfl
 | n+1=>by
  rw[nr]
  split
  ·rename_i h1
   rw[eu,h1]
   split
   ·rename_i h2;simp[h2]
   ·rename_i h2;simp[h2]
  ·rename_i h1
   rw[wg,eu]
   simp only[TH]at h1
   rw[h1];rfl
def t5 (l:List Int) (w:Int):Int:=nr (fun i=>!fU (l.getD i 0) w) l.length
theorem yb {l:List Int} {w:Int}:(!decide (0≤t5 l w))=jh l w:=by
 unfold t5 jh
 rw[wg,Bool.not_not]
 exact congrArg (eu · _) (funext fun i=>by rw[Bool.not_not])
theorem yc {ls:List (List Int)} {i:Nat} (h:i<ls.length):(ls.take (i+1)).flatten=(ls.take i).flatten++ls.getD i []:=by
 rw[List.take_succ_eq_append_getElem h,List.flatten_append]
 simp[List.getD,RB h]
theorem zF {ls:List (List Int)} {i:Nat}:(ls.take i).flatten.length≤ls.flatten.length:=by
 conv=>rhs;rw[← List.take_append_drop i ls,List.flatten_append,RV]
 omega
theorem IK {ls:List (List Int)} {i:Nat} (h:ls.length≤i):(ls.take i).flatten=ls.flatten:=by rw[Th h]
def d8 (c:Ci):Ns:=⟨tab (fun i=>aC (bg c i)) c.U.length,List.replicate c.J.length []⟩
theorem zG {c:Ci} {s:Ns} {p m:Nat} (h:(f9 c (wV (bg c p) m)).dst=-1):ci c s p m=true:=by unfold ci;rw[RX h];rfl
theorem ns {c:Ci} {s:Ns} {p m:Nat} (h:¬(f9 c (wV (bg c p) m)).dst=-1):ci c s p m=decide (((w7 s (wV (bg c p) m)).length:Int)<(f9 c (wV (bg c p) m)).cap):=by unfold ci;rw[R6 h];rfl
def NX (s:Ns) (k:Nat):Prop:=∀n,(w7 s n).length≤k
theorem ah.of_empty {P:Program} {f:FuncId} {ar:List D} {E sz:Nat} {α:Type} {enc:α→List V} {d:α}
  (h:∀(S:Nat→Prop) (μ:Nat→Value) (w:World) (us:Array Value),aM S μ w ar us→Calls P f us w (fun e w'=>∃v,e=.returned v∧w'.ownsRow 0 E sz v 0 []∧w.grownBy w' none∧∀b,aI v=some b→w.heap.size≤b)) :
  ah P f ar [] false (.own 0) [.arr E sz enc d []]:=by
 intro S μ w us hS _ _ UG
 refine(h S μ w us UG).mono ?_
 rintro e w' ⟨v,rfl,ho,hg,Wl⟩
 have Vf:v.oneCell'=true:=by rcases ho.2 with ⟨rfl,_⟩ | ⟨g,cap,UH,rfl,_⟩<;>rfl
 have hb:∀b,bL v b→w.heap.size≤b:=fun b h=>Wl b (h.bl Vf)
 have hB:aH S (fun _=>v) w' v (.arr E sz enc d []):=⟨fun i x hx=>by simp at hx,[],by simpa using ho,fun i x j y hx=>by simp at hx⟩
 refine⟨v,fun _=>v,S,rfl,hg.os,hg.tape,hg.output,hg.size,fun k hk _=>hg.block k hk (by simp),fun _ h=>h,fun _ h=>.inl h,fun b hb=>SA (hS b hb) hg.size,?_,⟨fun id B UJ=>?_,fun i j A B b hA UJ _ _ _ _=>?_,fun i A b hA _ Vn hSb=>?_⟩,fun i A b hA _ Vn=>.inl (hb b Vn),fun i A hA=>by simp at hA⟩
 ·exact an.own (μ:=fun _=>v) 0
 ·cases id with
  | zero=>simp at UJ;subst UJ;exact hB
  | succ id=>simp at UJ
 ·have h1:i=0:=by cases i with | zero=>rfl | succ i=>simp at hA
  have h2:j=0:=by cases j with | zero=>rfl | succ j=>simp at UJ
  rw[h1,h2]
 ·have:=hb b Vn
  have:=hS b hSb
  omega
abbrev qz:Fi:=⟨false,⟨[],[]⟩,[],[]⟩
def aU (c:Ci) (cl:ByteArray) (q:Nat):Bool:=(bg c q).clock.toList==cl.toList
def LZ (c:Ci) (s:Ns) (w:Nat→Bool) (p:Nat):Fi:=if w p=true then ae c s p else qz
section
variable {c:Ci} {s:Ns} {w:Nat→Bool} {i k:Nat}
theorem L0 (h:(!w i)=true):av c s w i=false:=by
 unfold av;cases hw:w i
 ·rfl
 ·rw[hw]at h;cases h
theorem IM (h:gz c s i=false):av c s w i=false:=by unfold av;rw[h,S7]
theorem IP (h:(!w i)=false) (h2:gz c s i=true):av c s w i=true:=by
 unfold av;cases hw:w i
 ·rw[hw]at h;cases h
 ·rw[h2];rfl
theorem Qr (h:av c s w i=true):w i=true∧gz c s i=true:=by unfold av at h;simpa using h
theorem Fc (h:av c s w i=false):De s i=bE c s w i:=by unfold bE;rw[RE (by rw[h];simp)]
theorem IQ (h:av c s w i=true):(ae c s i).s=bE c s w i:=by unfold bE;rw[RH h]
theorem OO (h:(!w i)=true):qz=LZ c s w i:=by
 unfold LZ;cases hw:w i
 ·rw[RE (by simp)]
 ·rw[hw]at h;cases h
theorem IR (h:(!w i)=false):ae c s i=LZ c s w i:=by
 unfold LZ;cases hw:w i
 ·rw[hw]at h;cases h
 ·rw[RH rfl]
theorem uM (h:av c s w i=false):hT c s w (i+1)=hT c s w i:=by rw[hT,RE (by rw[h];simp),RL]
theorem Bv (h:av c s w i=true):hT c s w (i+1)=hT c s w i++kR (bg c i) (ae c s i) (bg c i).I.length:=by rw[hT,RH h]
theorem zH (h:av c s w i=false):jW c s w (i+1)=jW c s w i:=by rw[jW,RE (by rw[h];simp),RL]
theorem Bw (h:av c s w i=true):jW c s w (i+1)=jW c s w i++kS (bg c i) (ae c s i) (bg c i).Rv.length:=by rw[jW,RH h]
theorem zI {p:Pr} {f:Fi} (h:f.pops.getD k false=false):kR p f (k+1)=kR p f k:=by rw[kR,RE (by rw[h];simp),RL]
theorem uN {p:Pr} {f:Fi} (h:f.pops.getD k false=true):kR p f (k+1)=kR p f k++[ng p k]:=by rw[kR,RH h]
theorem sX {p:Pr} {f:Fi} (h:(f.Rv.getD k aJ).has=false):kS p f (k+1)=kS p f k:=by rw[kS,RE (by rw[h];simp),RL]
theorem oQ {p:Pr} {f:Fi} (h:(f.Rv.getD k aJ).has=true):kS p f (k+1)=kS p f k++[(wV p k,(f.Rv.getD k aJ).v)]:=by rw[kS,RH h]
theorem tK (l:List (List Int)) (a b:List Nat):bA (bA l a) b=bA l (a++b):=by simp[bA,SS]
theorem tL (l:List (List Int)) (a b:List (Nat×Int)):bB (bB l a) b=bB l (a++b):=by simp[bB,SS]
theorem uO {p:Pr} {f:Fi}:∀{k:Nat},(kS p f k).length≤k
 | 0=>RD _
 | k+1=>by
  rw[kS,RV]
  have:=uO (p:=p) (f:=f) (k:=k)
  split<;>simp<;>omega
theorem Bx (hc:be c):∀{P:Nat},P≤c.U.length→(jW c s w P).length≤100*P
 | 0,_=>RD _
 | P+1,h=>by
  rw[jW,RV]
  have:=Bx hc (P:=P) (by omega)
  have h2:=uO (p:=bg c P) (f:=ae c s P) (k:=(bg c P).Rv.length)
  have h3:=(hc.pr P (by omega)).pl
  split
  ·omega
  ·simp only[RN];omega
theorem Fd (ev:List (Nat×Int)) (l:List (List Int)) (n:Nat) (hn:n<l.length):((bB l ev).getD n []).length≤(l.getD n []).length+ev.length:=by
 rw[nk ev l n hn,RV,RJ]
 have:=List.length_filter_le (fun e:Nat×Int=>e.1==n) ev
 omega
theorem KU (ev:List Nat) (l:List (List Int)) (n:Nat) (hn:n<l.length):((bA l ev).getD n []).length≤(l.getD n []).length:=by
 rw[nj ev l n hn,Sd];omega
theorem M5 (hc:be c) (hi:i<c.U.length) (hk:k<(bg c i).I.length) {f:Fi}:(hT c s w i++kR (bg c i) f k).count (ng (bg c i) k)=0:=by
 rw[TI]
 intro hm
 rcases SK.1 hm with hm | hm
 ·obtain⟨p,h1,_,h3⟩:=Bq hm
  have h4:=(uJ hc (show p<c.U.length by omega) (RD _) h3).2
  have h5:=(hc.tk i hi k hk).2.2.2
  have h6:((p:Nat):Int)=(i:Int):=h4.symm.trans h5
  omega
 ·obtain⟨j,h1,_,h3⟩:=oG hm
  have:=hc.td i hi j k (by omega) hk h3
  omega
theorem GE (Ua:gz c s i=true) (hk:k<(bg c i).I.length) (UZ:(ae c s i).pops.getD k false=true):0<(w7 s (ng (bg c i) k)).length:=by
 rw[sV]at Ua
 unfold ae at UZ
 rw[zw Ua]at UZ
 simp only at UZ
 rw[aD hk]at UZ
 unfold fT at Ua
 rw[RA,dk]at Ua
 have h1:=Ua.1 k hk
 unfold iP at h1
 unfold m4 at UZ
 rw[UZ]at h1
 simp only[Bool.not_true,Bool.or_false]at h1
 rw[cr,aD hk]at h1
 unfold cb at h1
 split at h1
 ·assumption
 ·cases h1
theorem IT (hc:be c) (hl:s.J.length=c.J.length) (hi:i<c.U.length) (Ua:gz c s i=true) (hk:k<(bg c i).I.length) (UZ:(ae c s i).pops.getD k false=true) :
  1≤((bA s.J (hT c s w i++kR (bg c i) (ae c s i) k)).getD (ng (bg c i) k) []).length:=by
 have h1:=hc.tk i hi k hk
 rw[nj _ _ _ (by rw[hl];show((lF (bg c i) k).chan).toNat<_;omega),M5 hc hi hk]
 exact GE Ua hk UZ
theorem KV {m n:Nat} (hc:be c) (hl:s.J.length=c.J.length) (XU:NX s 4294967296) (hi:i<c.U.length) (hm:m≤(bg c i).Rv.length) (hn:n<c.J.length) :
  ((bB (bA s.J (hT c s w c.U.length)) (jW c s w i++kS (bg c i) (ae c s i) m)).getD n []).length+1≤137438953472:=by
 have h1:=Fd (jW c s w i++kS (bg c i) (ae c s i) m) (bA s.J (hT c s w c.U.length)) n (by rw[eH];omega)
 have h2:=KU (hT c s w c.U.length) s.J n (by omega)
 have h3:(s.J.getD n []).length≤4294967296:=XU n
 have h4:=Bx hc (s:=s) (w:=w) (P:=i) (by omega)
 have h5:=uO (p:=bg c i) (f:=ae c s i) (k:=m)
 have h6:=(hc.pr i hi).pl
 have h7:=hc.nl
 rw[RV]at h1
 omega
end
theorem zO {v w:Int} (h:v<0):fU v w=false:=by unfold fU;rw[R6 (by omega)];rfl
theorem zP {v w:Int} (h:v>af w):fU v w=false:=by unfold fU;rw[R6 (show ¬v≤af w by omega),S7]
theorem KY {v w:Int} (h:¬v<0) (h2:¬v>af w):fU v w=true:=by unfold fU;rw[RX (show v≤af w by omega),RX (show 0≤v by omega)];rfl
theorem oT {l:List Int} {w:Int} {i:Nat} (hi:i<l.length) (h:fU (l.getD i 0) w=false):jh l w=false:=rt (f:=fun i=>fU (l.getD i 0) w) hi h
theorem wk {l:List Int} {w:Int} (h:∀i,i<l.length→fU (l.getD i 0) w=true):jh l w=true:=dk.2 h
def wB (l:List Bool) (q:Nat):Bool:=l.getD q false
def OU:Option Int→V
 | none=>.nsl
 | some v=>.sl 1 (ab .i64) 0 [v]
def I8 (o:Option Int):List V:=[OU o]
def w9:Option Int→List Int
 | none=>[]
 | some v=>[v]
theorem Nk (o:Option Int):(w9 o).length≤1:=by cases o<;>simp[w9]
theorem OV (o:Option Int):D6 (OU o) (.sl 1 (ab .i64) 0 (w9 o)):=by
 cases o
 ·exact rfl
 ·simp[OU,w9,D6]
section
variable {c:Ci} {s:Ns} {w:Nat→Bool} {i k:Nat}
theorem BB (l:List Int) (a b:List Nat):dJ (dJ l a) b=dJ l (a++b):=by simp[dJ,SS]
theorem tO (l:List (Option Int)) (a b:List (Nat×Int)):dn (dn l a) b=dn l (a++b):=by simp[dn,SS]
theorem rJ (ev:List (Nat×Int)):∀(l:List (Option Int)) (n:Nat),(∀e∈ev,e.1≠n)→(dn l ev).getD n none=l.getD n none:=by
 induction ev with
 | nil=>intro l n h;rfl
 | cons e r ih =>
  intro l n h
  show(dn (l.set e.1 _) r).getD n none=_
  rw[ih _ n (fun e' WX=>h e' (Sb _ WX))]
  have:=h e (Se ..)
  simp[List.getD,List.getElem?_set,this]
theorem BC (ev:List (Nat×Int)):∀(l:List (Option Int)) (n:Nat),n<l.length→l.getD n none=none→((ev.filter (fun e=>e.1==n)).map (·.2)).length≤1→w9 ((dn l ev).getD n none)=(ev.filter (fun e=>e.1==n)).map (·.2):=by
 induction ev with
 | nil=>intro l n hn h0 h;show w9 (l.getD n none)=_;rw[h0];rfl
 | cons e r ih =>
  intro l n hn h0 h
  show w9 ((dn (l.set e.1 (some e.2)) r).getD n none)=_
  by_cases he:e.1=n
  ·have hf:(e::r).filter (fun e=>e.1==n)=e::r.filter (fun e=>e.1==n):=by simp[he]
   rw[hf,SJ]at h ⊢
   have hr:r.filter (fun e=>e.1==n)=[]:=by
    simp only[RK,RJ]at h
    exact So (by omega)
   rw[hr,rJ]
   ·subst he
    simp[List.getD,hn,w9]
   ·intro e' WX h1
    have:e'∈r.filter (fun e=>e.1==n):=by rw[Ta];exact⟨WX,by simp[h1]⟩
    rw[hr]at this;cases this
  ·have hf:(e::r).filter (fun e=>e.1==n)=r.filter (fun e=>e.1==n):=by simp[he]
   rw[hf]at h ⊢
   refine ih _ n (by simpa using hn) ?_ h
   have:(l.set e.1 (some e.2)).getD n none=l.getD n none:=by simp[List.getD,List.getElem?_set,he]
   rw[this];exact h0
theorem GK (hc:be c) (n:Nat):(cZ c s w n).length≤1:=by
 unfold cZ;split
 ·exact Br hc n
 ·simp
theorem BD {e:Nat×Int}:∀{P:Nat},e∈jW c s w P→∃p,p<P∧e∈kS (bg c p) (ae c s p) (bg c p).Rv.length
 | 0,h=>by cases h
 | P+1,h=>by
  rw[jW,SK]at h
  rcases h with h | h
  ·obtain⟨p,h1,h2⟩:=BD h;exact⟨p,by omega,h2⟩
  ·split at h
   ·exact⟨P,by omega,h⟩
   ·cases h
theorem GL (hc:be c) (hi:i<c.U.length) (hk:k<(bg c i).Rv.length) {f:Fi} {m:Nat}:(dn (List.replicate m none) (jW c s w i++kS (bg c i) f k)).getD (wV (bg c i) k) none=none:=by
 rw[rJ _ _ _ (fun e he h=>?_)]
 ·exact ca
 ·rcases SK.1 he with he | he
  ·obtain⟨p,h1,h3⟩:=BD he
   have h4:=(zC hc (show p<c.U.length by omega) (RD _) h3).2
   rw[h]at h4
   have h5:=(hc.pt i hi k hk).2.2.2
   have h6:((p:Nat):Int)=(i:Int):=h4.symm.trans h5
   omega
  ·obtain⟨j,h1,_,h3,_⟩:=oH he
   have:=hc.pd i hi j k (by omega) hk (h3.trans h)
   omega
theorem Fj (hc:be c) {n:Nat} (hn:n<c.J.length):(dJ (List.replicate c.J.length 0) (hT c s w c.U.length)).getD n 0=(dp c s w n:Nat):=by
 rw[Bp _ _ _ (by simpa using hn),ca]
 have h1:=qn (w:=w) (s:=s) hc n (RD _)
 rw[E5 hc]at h1
 split
 ·rename_i hm
  have:=List.count_pos_iff.2 hm
  unfold dp at h1 ⊢
  split at h1
  ·rename_i hh;rw[RH hh];rfl
  ·omega
 ·rename_i hm
  rw[TI.2 hm]at h1
  rw[← h1];rfl
theorem KZ (n:Nat):dp c s w n≤(w7 s n).length:=by
 unfold dp;split
 ·rename_i h
  exact sW (gA h.1).2 h.2
 ·omega
theorem K0 (hc:be c) {n:Nat} (hn:n<c.J.length) :
  (w7 s n).drop ((dJ (List.replicate c.J.length 0) (hT c s w c.U.length)).getD n 0).toNat++w9 ((dn (List.replicate c.J.length none) (jW c s w c.U.length)).getD n none)=cQ c s w n:=by
 rw[Fj hc hn,SQ,BC]
 ·rw[rE hc n (RD _),zD];rfl
 ·simpa using hn
 ·exact ca
 ·rw[rE hc n (RD _),zD];exact GK hc n
theorem OW {l:List Bool} (h:¬l.getD i false=true):av c s (wB l) i=false:=L0 (by show(!l.getD i false)=true;simpa using h)
theorem Nl {l:List Bool} (h:(!(ae c s i).fires)=true):av c s (wB l) i=false:=IM (by show(ae c s i).fires=false;simpa using h)
theorem Nn {l:List Bool} (h:l.getD i false=true) (h2:(!(ae c s i).fires)=false):av c s (wB l) i=true:=IP (by show(!l.getD i false)=false;rw[h];rfl) (by show(ae c s i).fires=true;simpa using h2)
theorem No (f:Nat→Bool) (n:Nat):wB (tab f n)=gB f n:=funext fun q=>by
 unfold wB gB
 by_cases h:q<n
 ·rw[aD h,RX h,Tr]
 ·rw[uG (by omega),R6 h,S7]
theorem K1 (hs:it c s) (f:Nat→Bool):bk c s (wB (tab f c.U.length))=bk c s f:=by rw[No];exact(uL hs).symm
theorem Du (f:Nat→Bool):tab (av c s (wB (tab f c.U.length))) c.U.length=tab (av c s f) c.U.length:=gy (fun i hi=>by
 unfold av wB;rw[aD hi])
end
structure En where
 I:List Int
 Rv:List Int
def rK (e:En):List V:=[.sl 1 (ab .i64) 0 e.I,.sl 1 (ab .i64) 0 e.Rv]
abbrev cS:En:=⟨[],[]⟩
def fX:Ex:=⟨1,e0,⟨1,e0⟩,⟨1,e0⟩,[]⟩
def aQ (s:Sg) (b:List Int) (i:Nat):Ex×Nat:=if b.getD i 0%4=1 then ao s b 2 (i+1) 1 else (fX,i+1)
def Rr:ByteArray:=bs [97]
def Rt:ByteArray:=bs [98]
def Ru (k:Nat):ByteArray:=[bs [114],bs [115]].getD k e0
def Ra (k:Nat):ByteArray:=[bs [112],bs [113],bs [117],bs [118]].getD k e0
def Qu (k:Nat):ByteArray:=[bs [99,48],bs [99,49],bs [99,50],bs [99,51],bs [99,52]].getD k e0
def bJ (y:Int) (k:Nat):Int:=1+(y / 4+k)%2
def s7 (y:Int):Nat:=(1+y / 2%2).toNat
def NY (y:Int):List Int:=tab (bJ y) (s7 y)
def NZ (y:Int):Sg:=⟨NY y,[],[],false⟩
def BE (y:Int) (n:Nat):Sg:=⟨NY y,List.replicate n 2,[],true⟩
def wm (y:Int) (k:Nat):Rg:=⟨Ru k,bJ y k,y / 8%2^(bJ y k).toNat,dE,⟨[1,1,0].getD (y / 16%3).toNat 0,e0,0⟩⟩
def BF (b:List Int) (y:Int) (i:Nat):Nat→Nat
 | 0=>i
 | k+1=>(aQ (NZ y) b (BF b y i k)).2
def zQ (b:List Int) (y:Int) (n:Nat) (i:Nat):Nat→Nat
 | 0=>i
 | k+1=>(ao (BE y n) b 3 (zQ b y n i k) (bJ y k)).2
def wn (b:List Int) (y:Int) (n:Nat) (i:Nat):Nat→Nat
 | 0=>i
 | k+1=>(ao (BE y n) b 2 (aQ (BE y n) b (wn b y n i k)).2 2).2
def G8 (b:List Int) (y:Int) (i:Nat) (e:En) (k:Nat):Tk:=⟨e.I.getD k 0,2,(aQ (NZ y) b (BF b y i k)).1⟩
def Qv (b:List Int) (y:Int) (n i k:Nat):Rg:={ wm y k with next:=(ao (BE y n) b 3 (zQ b y n i k) (bJ y k)).1 }
def J3 (b:List Int) (y:Int) (n i:Nat) (e:En) (k:Nat):Pt:=⟨e.Rv.getD k 0,2,(aQ (BE y n) b (wn b y n i k)).1,(ao (BE y n) b 2 (aQ (BE y n) b (wn b y n i k)).2 2).1⟩
def Qw (y:Int):ByteArray:=[Rr,Rt].getD (y%2).toNat e0
def nx (b:List Int) (i:Nat) (e:En):Nat:=BF b (b.getD i 0) (i+1) e.I.length
def mB (b:List Int) (i:Nat) (e:En):Nat:=zQ b (b.getD i 0) e.I.length (nx b i e) (s7 (b.getD i 0))
def bz (b:List Int) (i:Nat) (nm:ByteArray) (e:En):Pr×Nat :=
 (⟨nm,Qw (b.getD i 0),tab (Qv b (b.getD i 0) e.I.length (nx b i e)) (s7 (b.getD i 0)),[],tab (G8 b (b.getD i 0) (i+1) e) e.I.length,tab (J3 b (b.getD i 0) e.I.length (mB b i e) e) e.Rv.length⟩,
  wn b (b.getD i 0) e.I.length (mB b i e) e.Rv.length)
def ak (s:Int):List En :=
 if s%6=0 then [⟨[0],[1]⟩]
 else if s%6=1 then [⟨[0],[1]⟩,⟨[1],[2]⟩]
 else if s%6=2 then [⟨[0],[1,2]⟩,⟨[1],[3]⟩,⟨[2],[4]⟩]
 else if s%6=3 then [⟨[0,2],[1]⟩,⟨[1],[2,3]⟩]
 else if s%6=4 then [⟨[0],[2]⟩,⟨[1],[3]⟩,⟨[2,3],[4]⟩]
 else [⟨[0],[1]⟩,⟨[1],[2]⟩,⟨[2],[3]⟩,⟨[3],[4]⟩]
theorem zR {s:Sg} {b:List Int} {i:Nat} (h:b.getD i 0%4=1):aQ s b i=ao s b 2 (i+1) 1:=RH h
theorem zS {s:Sg} {b:List Int} {i:Nat} (h:¬b.getD i 0%4=1):aQ s b i=(fX,i+1):=RE h
def t6 (l:List Int) (n:Int):Bool:=!eu (fun i=>!decide (l.getD i 0=n)) l.length
theorem BG {l:List Int} {n:Int} {i:Nat} (hi:i<l.length) (h:l.getD i 0=n):t6 l n=true:=by
 unfold t6;rw[rt hi (by rw[RX h];rfl)];rfl
theorem Fk {l:List Int} {n:Int} (h:∀i,i<l.length→¬l.getD i 0=n):t6 l n=false:=by
 unfold t6;rw[dk.2 (fun i hi=>by rw[R6 (h i hi)];rfl)];rfl
theorem yf {x w:Int} (h0:0≤w) (h6:w≤62):IntKind.wrap .i64 ((BitVec.ofInt (IntKind.i64).bits x &&& BitVec.ofInt (IntKind.i64).bits (af w)).toNat:Int)=x%2^w.toNat:=by
 rw[cY h0 h6];exact km (by omega)
theorem zT {s:Sg} {b:List Int} (hb:qy b) {d i:Nat} {w:Int} (hd:d≤3) (h1:1≤w) (h2:w+d≤8):i≤(ao s b d i w).2∧(ao s b d i w).2≤i+64:=by
 have h:=(v8 (s:=s) hb d i w hd h1 h2).2.2
 have:4^d≤4^3:=SX (by omega) hd
 omega
theorem wo {s:Sg} {b:List Int} (hb:qy b) {i:Nat}:i≤(aQ s b i).2∧(aQ s b i).2≤i+100:=by
 unfold aQ
 split
 ·have:=zT (s:=s) hb (d:=2) (i:=i+1) (w:=1) (by omega) (by omega) (by omega);omega
 ·simp only;omega
theorem zU (y:Int) (k:Nat):1≤bJ y k∧bJ y k≤2:=by unfold bJ;omega
theorem uP {b:List Int} (hb:qy b) (y:Int) (i:Nat):∀k,i≤BF b y i k∧BF b y i k≤i+100*k
 | 0=>⟨RD _,RD _⟩
 | k+1=>by
  have h1:=uP hb y i k
  have h2:=wo (s:=NZ y) hb (i:=BF b y i k)
  rw[BF];omega
theorem uQ {b:List Int} (hb:qy b) (y:Int) (n i:Nat):∀k,i≤zQ b y n i k∧zQ b y n i k≤i+100*k
 | 0=>⟨RD _,RD _⟩
 | k+1=>by
  have h1:=uQ hb y n i k
  have h3:=zU y k
  have h2:=zT (s:=BE y n) hb (d:=3) (i:=zQ b y n i k) (w:=bJ y k) (by omega) (by omega) (by omega)
  rw[zQ];omega
theorem zV {b:List Int} (hb:qy b) (y:Int) (n i:Nat):∀k,i≤wn b y n i k∧wn b y n i k≤i+200*k
 | 0=>⟨RD _,RD _⟩
 | k+1=>by
  have h1:=zV hb y n i k
  have h3:=wo (s:=BE y n) hb (i:=wn b y n i k)
  have h2:=zT (s:=BE y n) hb (d:=2) (i:=(aQ (BE y n) b (wn b y n i k)).2) (w:=2) (by omega) (by omega) (by omega)
  rw[wn];omega
theorem Dv {y:Int} (h:0≤y):(s7 y:Int)=1+y / 2%2∧s7 y≤2:=by unfold s7;omega
def GM (b:List Int) (l:List En):Nat→Nat
 | 0=>0
 | i+1=>(bz b (GM b l i) (Ra i) (l.getD i cS)).2
def sg (b:List Int) (l:List En) (i:Nat):Pr:=(bz b (GM b l i) (Ra i) (l.getD i cS)).1
def OX (l:List Int) (a:Int):Nat→Int
 | 0=>a
 | k+1=>Ml (OX l a k) (l.getD k 0)
def rL (l:List En):Nat→Int
 | 0=>0
 | i+1=>OX (l.getD i cS).Rv (rL l i) (l.getD i cS).Rv.length
def AA (l:List En) (n:Int):Nat→Int
 | 0=>-1
 | i+1=>if t6 (l.getD i cS).I n=true then (i:Int)else AA l n i
def AB (l:List En) (n:Int):Nat→Int
 | 0=>-1
 | i+1=>if t6 (l.getD i cS).Rv n=true then (i:Int)else AB l n i
def wq (sh:Int) (l:List En) (n:Nat):Ch:=⟨Qu n,2,if 0≤AB l n l.length∧0≤AA l n l.length then 1+(sh / 6+n)%3 else 0,AB l n l.length,AA l n l.length⟩
def ky (sh:Int):Nat:=(rL (ak sh) (ak sh).length).toNat+1
def a9 (sh:Int) (b:List Int):Ci:=⟨tab (sg b (ak sh)) (ak sh).length,tab (wq sh (ak sh)) (ky sh)⟩
theorem jn (sh:Int):ak sh=[⟨[0],[1]⟩]∨ak sh=[⟨[0],[1]⟩,⟨[1],[2]⟩]∨ak sh=[⟨[0],[1,2]⟩,⟨[1],[3]⟩,⟨[2],[4]⟩]∨ak sh=[⟨[0,2],[1]⟩,⟨[1],[2,3]⟩]∨ak sh=[⟨[0],[2]⟩,⟨[1],[3]⟩,⟨[2,3],[4]⟩]∨ak sh=[⟨[0],[1]⟩,⟨[1],[2]⟩,⟨[2],[3]⟩,⟨[3],[4]⟩]:=by
 unfold ak
 split
 ·exact .inl rfl
 split
 ·exact .inr (.inl rfl)
 split
 ·exact .inr (.inr (.inl rfl))
 split
 ·exact .inr (.inr (.inr (.inl rfl)))
 split
 ·exact .inr (.inr (.inr (.inr (.inl rfl))))
 ·exact .inr (.inr (.inr (.inr (.inr rfl))))
theorem BH (sh:Int):1≤(ak sh).length∧(ak sh).length≤4:=by
 rcases jn sh with h | h | h | h | h | h<;>rw[h]<;>decide
theorem oU (sh:Int) (i:Nat):((ak sh).getD i cS).I.length≤2∧((ak sh).getD i cS).Rv.length≤2:=by
 have key:∀e∈ak sh,e.I.length≤2∧e.Rv.length≤2:=by
  rcases jn sh with h | h | h | h | h | h<;>rw[h]<;>simp
 by_cases hi:i<(ak sh).length
 ·rw[dF _ _ hi];exact key _ (Tp hi)
 ·rw[List.getD,Sm (by omega)];decide
theorem Fl (sh:Int):0≤rL (ak sh) (ak sh).length∧rL (ak sh) (ak sh).length≤4:=by
 rcases jn sh with h | h | h | h | h | h<;>rw[h]<;>decide
theorem I9 (sh:Int):(ky sh:Int)=rL (ak sh) (ak sh).length+1∧ky sh≤5:=by
 have:=Fl sh;unfold ky;omega
theorem Fm {b:List Int} (hb:qy b) (sh:Int):∀i,GM b (ak sh) i≤1000*i
 | 0=>RD _
 | i+1=>by
  have h1:=Fm hb sh i
  have he:=oU sh i
  rw[GM]
  unfold bz
  simp only
  generalize GM b (ak sh) i=p at *
  generalize (ak sh).getD i cS=e at *
  have hy:=eS hb p
  have hn:=Dv hy.1
  have a1:p+1≤nx b p e∧nx b p e≤p+1+100*e.I.length:=uP hb (b.getD p 0) (p+1) e.I.length
  have a2:nx b p e≤mB b p e∧mB b p e≤nx b p e+100*s7 (b.getD p 0):=uQ hb (b.getD p 0) e.I.length (nx b p e) (s7 (b.getD p 0))
  have a3:=zV hb (b.getD p 0) e.I.length (mB b p e) e.Rv.length
  omega
theorem Ja (l:List En) (n:Int):∀i,-1≤AA l n i∧AA l n i<i
 | 0=>by simp[AA]
 | i+1=>by have:=Ja l n i;rw[AA];split<;>omega
theorem Dw (l:List En) (n:Int):∀i,-1≤AB l n i∧AB l n i<i
 | 0=>by simp[AB]
 | i+1=>by have:=Dw l n i;rw[AB];split<;>omega
theorem L1 {x:Int} (h0:0≤x) (h1:x≤255):IntKind.wrap .u8 x=x:=Q5 rfl h0 h1
def ny (b:List Int) (i:Nat) (w:Int) (k:Nat):Int:=b.getD (i+(1+k)) 0%2^w.toNat
theorem Qx {x:Int} (h0:0≤x) (h1:x≤255):IntKind.wrap .u8 (Int.tdiv x 6)=x / 6:=by
 rw[Int.tdiv_eq_ediv_of_nonneg h0];exact L1 (by omega) (by omega)
theorem Jc {sh:Int} {l:List En} {n:Nat} {fr to:Int} (h1:0≤AB l n l.length) (h2:0≤AA l n l.length) (h3:fr=AB l n l.length) (h4:to=AA l n l.length):(⟨Qu n,2,1+(sh / 6+n)%3,fr,to⟩:Ch)=wq sh l n:=by
 unfold wq;rw[RH ⟨h1,h2⟩,h3,h4]
theorem Jd {sh:Int} {l:List En} {n:Nat} {fr to:Int} (h:¬(0≤AB l n l.length∧0≤AA l n l.length)) (h3:fr=AB l n l.length) (h4:to=AA l n l.length):(⟨Qu n,2,0,fr,to⟩:Ch)=wq sh l n:=by
 unfold wq;rw[RE h,h3,h4]
end Go.Proofs.YtckgpflobhpnpaaGreat
