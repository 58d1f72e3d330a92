/- Parts of a proof. -/
import Derived.Test.YtnlmlkbaflmgcaaQPrG
namespace Go.Proofs.Ytnlmlkbaflmgcaa
open Go.RowKit
set_option linter.unusedVariables false
set_option linter.unusedSimpArgs false
def tab {α:Type} (f:Nat→α) (n:Nat):List α:=(List.range n).map f
theorem tA {α:Type} (f:Nat→α) (n:Nat):tab f (n+1)=tab f n++[f n]:=by simp[tab,Q3]
theorem aC {α:Type} (f:Nat→α) (n:Nat):(tab f n).length=n:=by simp[tab]
theorem aN {α:Type} {f:Nat→α} {n i:Nat} {d:α} (h:i<n):(tab f n).getD i d=f i:=by
 simp[tab,List.getD,Ph,h]
theorem kr {α:Type} {f:Nat→α} {n i:Nat} {d:α} (h:n≤i):(tab f n).getD i d=d:=by
 rw[List.getD,P2 (by rw[aC];exact h)];rfl
theorem bC {α:Type} {f g:Nat→α} {n:Nat} (h:∀i,i<n→f i=g i):tab f n=tab g n:=by
 unfold tab
 exact QN (fun a ha=>h a (P1.1 ha))
theorem lL {α:Type} {a b:List α} {d:α} (hl:a.length=b.length) (h:∀i,i<a.length→a.getD i d=b.getD i d):a=b:=by
 apply Qq hl
 intro i h1 h2
 have:=h i h1
 simpa[List.getD,Ph h1,Ph h2]using this
theorem BP {α β:Type} {l:List α} {d:α} (f:α→β):l.map f=tab (fun i=>f (l.getD i d)) l.length:=by
 apply Qq
 ·simp[aC]
 ·intro i h1 h2;rw[Py]at h1;simp[tab,List.getD,Ph h1]
theorem HO {α:Type} {f:Nat→α} {l:List α} {k:Nat} (hk:k<l.length):(tab f k++l.drop k).set k (f k)=tab f (k+1)++l.drop (k+1):=by
 rw[List.set_append_right _ _ (by rw[aC];omega),aC,Nat.sub_self,tA,P3]
 congr 1
 rw[List.drop_eq_getElem_cons hk];rfl
theorem Fw {α:Type} {f:Nat→α} {l:List α} {k:Nat} (hk:l.length≤k):tab f k++l.drop k=tab f k:=by rw[List.drop_eq_nil_of_le hk,Qk]
theorem dA {α:Type} {l:List α} {i j:Nat} {x d:α} (h:i<l.length):(l.set i x).getD j d=if i=j then x else l.getD j d:=by
 simp only[List.getD,Q4]
 split
 ·rename_i e;subst e;simp[h]
 ·rfl
def dh (f:Nat→Bool):Nat→Bool
 | 0=>true
 | n+1=>dh f n&&f n
theorem bg {f:Nat→Bool}:∀{n:Nat},dh f n=true↔∀i,i<n→f i=true
 | 0=>⟨fun _ i hi=>absurd hi (Qy _),fun _=>rfl⟩
 | n+1=>by
  rw[dh,Pg,bg]
  constructor
  ·rintro⟨h1,h2⟩ i hi
   rcases Nat.lt_or_ge i n with h | h
   ·exact h1 i h
   ·rw[show i=n by omega];exact h2
  ·intro h;exact⟨fun i hi=>h i (by omega),h n (by omega)⟩
theorem dR {f:Nat→Bool} {n i:Nat} (hi:i<n) (h:f i=false):dh f n=false:=by
 cases hh:dh f n
 ·rfl
 ·rw[bg.1 hh i hi]at h;cases h
def ff (p:Pr) (s:Ps) (data:List Int) (e:Ex):Bool:=decide ((bH p s data e).1=1)
def nR (p:Pr):List Int:=List.replicate p.I.length 0
abbrev ny (p:Pr) (i:Nat):Tk:=p.I.getD i bV
abbrev qu (p:Pr) (i:Nat):Pt:=p.Pc.getD i b4
abbrev oL (p:Pr) (i:Nat):Rg:=p.Pe.getD i aK
abbrev eh (p:Pr) (i:Nat):Mm:=p.Pd.getD i aA
def DM (p:Pr) (s:Ps) (hs:List Hd) (i:Nat):Int:=if ff p s (nR p) (ny p i).when=true∧(hs.getD i cQ).has=true then (hs.getD i cQ).v else 0
def bW (p:Pr) (s:Ps) (hs:List Hd):List Int:=tab (DM p s hs) p.I.length
def zA (p:Pr) (s:Ps) (data:List Int) (i:Nat):List Int :=
 if ff p s data (eh p i).enable=true then (s.Pd.getD i []).set (Int.tmod (bH p s data (eh p i).addr).1 (eh p i).words).toNat (bH p s data (eh p i).data).1 else s.Pd.getD i []
def dY (p:Pr) (s:Ps) (data:List Int):Ps:=⟨tab (fun i=>(bH p s data (oL p i).next).1) p.Pe.length,tab (zA p s data) p.Pd.length⟩
def tB (p:Pr) (s:Ps) (hs:List Hd) (i:Nat):Bool:=(hs.getD i cQ).has||!ff p s (bW p s hs) (ny p i).when
def tC (p:Pr) (s:Ps) (hs:List Hd) (rs:List Bool) (i:Nat):Bool:=rs.getD i false||!ff p s (bW p s hs) (qu p i).when
def iJ (p:Pr) (s:Ps) (hs:List Hd) (rs:List Bool):Bool:=dh (tB p s hs) p.I.length&&dh (tC p s hs rs) p.Pc.length
def Fx (p:Pr) (s:Ps) (hs:List Hd) (i:Nat):Bool:=ff p s (bW p s hs) (ny p i).when
def DN (p:Pr) (s:Ps) (hs:List Hd) (i:Nat):Hd:=if ff p s (bW p s hs) (qu p i).when=true then ⟨true,(bH p s (bW p s hs) (qu p i).data).1⟩else cQ
def bm (p:Pr) (s:Ps) (hs:List Hd) (rs:List Bool):Fi :=
 if iJ p s hs rs=true then ⟨true,dY p s (bW p s hs),tab (Fx p s hs) p.I.length,tab (DN p s hs) p.Pc.length⟩
 else ⟨false,s,List.replicate p.I.length false,List.replicate p.Pc.length cQ⟩
def bx (p:Pr):Ps:=⟨p.Pe.map (·.init),p.Pd.map (fun m=>List.replicate m.words.toNat 0)⟩
def fg (v w:Int):Bool:=decide (0≤v)&&decide (v≤aE w)
theorem yp {v w:Int}:fg v w=true↔cI v w:=by simp[fg,cI]
def iK (p:Pr) (s:Ps) (i:Nat):Bool:=decide (((s.Pd.getD i []).length:Int)=(eh p i).words)&&dh (fun j=>fg ((s.Pd.getD i []).getD j 0) (eh p i).w) (s.Pd.getD i []).length
def bK (p:Pr) (s:Ps):Bool:=decide (s.Pe.length=p.Pe.length)&&decide (s.Pd.length=p.Pd.length)&&dh (fun i=>fg (s.Pe.getD i 0) (oL p i).w) s.Pe.length&&dh (iK p s) s.Pd.length
def mz (p:Pr):Sc:=⟨p.Pe.map (·.w),p.Pd.map (·.w),p.I.map (·.w)⟩
def Kg (p:Pr):Sc:=⟨p.Pe.map (·.w),p.Pd.map (·.w),[]⟩
structure hT (p:Pr):Prop where
 rl:p.Pe.length≤100
 ml:p.Pd.length≤100
 tl:p.I.length≤100
 pl:p.Pc.length≤100
 rw:∀i,i<p.Pe.length→aI (oL p i).w=true∧cI (oL p i).init (oL p i).w∧dQ (mz p) (oL p i).next=some (oL p i).w∧eN (oL p i).next≤3
 mw:∀i,i<p.Pd.length→aI (eh p i).w=true∧(1≤(eh p i).words∧(eh p i).words≤4)∧(dQ (mz p) (eh p i).enable=some 1∧eN (eh p i).enable≤3)∧((∃v,dQ (mz p) (eh p i).addr=some v)∧eN (eh p i).addr≤3)∧dQ (mz p) (eh p i).data=some (eh p i).w∧eN (eh p i).data≤3
 tw:∀i,i<p.I.length→aI (ny p i).w=true∧dQ (Kg p) (ny p i).when=some 1∧eN (ny p i).when≤3
 pw:∀i,i<p.Pc.length→aI (qu p i).w=true∧(dQ (mz p) (qu p i).when=some 1∧eN (qu p i).when≤3)∧dQ (mz p) (qu p i).data=some (qu p i).w∧eN (qu p i).data≤3
structure lM (p:Pr) (s:Ps):Prop where
 rl:s.Pe.length=p.Pe.length
 rv:∀i,i<p.Pe.length→cI (s.Pe.getD i 0) (oL p i).w
 ml:s.Pd.length=p.Pd.length
 mn:∀i,i<p.Pd.length→((s.Pd.getD i []).length:Int)=(eh p i).words
 mv:∀i,i<p.Pd.length→∀j,j<(s.Pd.getD i []).length→cI ((s.Pd.getD i []).getD j 0) (eh p i).w
structure DP (p:Pr) (d:List Int):Prop where
 l:d.length=p.I.length
 v:∀i,i<p.I.length→cI (d.getD i 0) (ny p i).w
structure DQ (p:Pr) (hs:List Hd):Prop where
 l:hs.length=p.I.length
 v:∀i,i<p.I.length→(hs.getD i cQ).has=true→cI (hs.getD i cQ).v (ny p i).w
theorem DR {p:Pr} {s:Ps}:bK p s=true↔lM p s:=by
 unfold bK iK
 simp only[Pg,P5,bg,yp]
 constructor
 ·rintro⟨⟨⟨h1,h2⟩,h3⟩,h4⟩
  exact⟨h1,fun i hi=>h3 i (by omega),h2,fun i hi=>(h4 i (by omega)).1,fun i hi=>(h4 i (by omega)).2⟩
 ·intro h
  exact⟨⟨⟨h.rl,h.ml⟩,fun i hi=>h.rv i (by have:=h.rl;omega)⟩,fun i hi=>⟨h.mn i (by have:=h.ml;omega),h.mv i (by have:=h.ml;omega)⟩⟩
set_option maxHeartbeats 1600000 in
theorem iL {p:Pr} {s:Ps} {d:List Int} (hp:hT p) (hs:lM p s) (hd:DP p d):uz (mz p) p s d where
 prl:=by simp[mz]
 prw:=fun i hi=>by
  have Sk:i<p.Pe.length:=by simpa[mz]using hi
  show(p.Pe.getD i aK).w=(p.Pe.map (·.w)).getD i 0
  rw[da (·.w) p.Pe i aK 0 Sk]
 pml:=by simp[mz]
 pmw:=fun i hi=>by
  have Sk:i<p.Pd.length:=by simpa[mz]using hi
  show(p.Pd.getD i aA).w=(p.Pd.map (·.w)).getD i 0
  rw[da (·.w) p.Pd i aA 0 Sk]
 ptl:=by simp[mz]
 ptw:=fun i hi=>by
  have Sk:i<p.I.length:=by simpa[mz]using hi
  show(p.I.getD i bV).w=(p.I.map (·.w)).getD i 0
  rw[da (·.w) p.I i bV 0 Sk]
 srl:=(hs.rl).trans (by simp[mz])
 srv:=fun i hi=>by
  have Sk:i<p.Pe.length:=by simpa[mz]using hi
  show cI _ ((p.Pe.map (·.w)).getD i 0)
  rw[da (·.w) p.Pe i aK 0 Sk]
  exact hs.rv i Sk
 sml:=(hs.ml).trans (by simp[mz])
 smn:=fun i hi=>by
  have Sk:i<p.Pd.length:=by simpa[mz]using hi
  have:=hs.mn i Sk
  have:=(hp.mw i Sk).2.1
  omega
 smv:=fun i hi j hj=>by
  have Sk:i<p.Pd.length:=by simpa[mz]using hi
  show cI _ ((p.Pd.map (·.w)).getD i 0)
  rw[da (·.w) p.Pd i aA 0 Sk]
  exact hs.mv i Sk j hj
 dl:=(hd.l).trans (by simp[mz])
 dv:=fun i hi=>by
  have Sk:i<p.I.length:=by simpa[mz]using hi
  show cI _ ((p.I.map (·.w)).getD i 0)
  rw[da (·.w) p.I i bV 0 Sk]
  exact hd.v i Sk
 rok:=fun i hi=>by
  have Sk:i<p.Pe.length:=by simpa[mz]using hi
  show aI ((p.Pe.map (·.w)).getD i 0)=true
  rw[da (·.w) p.Pe i aK 0 Sk]
  exact(hp.rw i Sk).1
 mok:=fun i hi=>by
  have Sk:i<p.Pd.length:=by simpa[mz]using hi
  show aI ((p.Pd.map (·.w)).getD i 0)=true
  rw[da (·.w) p.Pd i aA 0 Sk]
  exact(hp.mw i Sk).1
 tok:=fun i hi=>by
  have Sk:i<p.I.length:=by simpa[mz]using hi
  show aI ((p.I.map (·.w)).getD i 0)=true
  rw[da (·.w) p.I i bV 0 Sk]
  exact(hp.tw i Sk).1
theorem HP {c:Sc} {p:Pr} {s:Ps} (d d':List Int):∀(n:Nat) (e:Ex) (w:Int),eN e≤n→dQ ⟨c.rw,c.mw,[]⟩ e=some w→dQ c e=some w∧bH p s d e=bH p s d' e:=by
 intro n
 induction n with
 | zero=>intro e w hd;cases e with | mk op name k w args=>rw[eN]at hd;omega
 | succ n ih =>
  intro e w hd hty
  obtain⟨ws,hws,hc⟩:=fv hty
  obtain⟨hl,RT⟩:=kq hws
  have hargs:∀i,i<e.args.length→dQ c (e.args.getD i dE)=some (ws.getD i 0)∧bH p s d (e.args.getD i dE)=bH p s d' (e.args.getD i dE):=fun i hi=>ih _ _ (by have:=BI hi;omega) (RT i hi)
  have hL:∀(l:List Ex) (ws:List Int),ws.length=l.length→(∀i,i<l.length→dQ c (l.getD i dE)=some (ws.getD i 0))→dQ.tyL c l=some ws:=by
   intro l
   induction l with
   | nil=>intro ws h _;cases ws with | nil=>rfl | cons a r=>cases h
   | cons a r ihr =>
    intro ws h hh
    cases ws with
    | nil=>cases h
    | cons w0 wr =>
     have h0:dQ c a=some w0:=hh 0 (by simp)
     have h1:=ihr wr (by simpa using h) (fun i hi=>hh (i+1) (by simpa using hi))
     rw[dQ.tyL,h0,h1]
  have UV:e.args.map (bH p s d)=e.args.map (bH p s d'):=by
   apply QN
   intro a ha
   obtain⟨i,hi,rfl⟩:=List.mem_iff_getElem.1 ha
   have:=(hargs i hi).2
   simpa[List.getD,Ph hi]using this
  have hws':=hL e.args ws hl (fun i hi=>(hargs i hi).1)
  refine⟨?_,?_⟩
  ·cases e with
   | mk op name k w0 args =>
    rw[dQ,hws']
    simp only at hc ⊢
    rcases hc with ⟨h1,h2,h3,h4,rfl⟩ | ⟨h1,h2,h3,h4,rfl⟩ | ⟨h1,h2,h3,h4,rfl⟩ | ⟨h1,h2,WI,h3,rfl⟩
    ·rw[Pn h1,Pn ⟨h2,h3,h4⟩]
    ·exact absurd h4 (by simp;omega)
    ·rw[Pj (by omega),Pj (by omega),Pn h1,Pn ⟨h2,h3,h4⟩]
    ·rw[Pj h1,Pj WI,Pj h2,Pn h3]
  ·rw[oJ,oJ p s d',UV]
   have h18:e.op≠18:=by
    rcases hc with ⟨h1,h2,h3,h4,rfl⟩ | ⟨h1,h2,h3,h4,rfl⟩ | ⟨h1,h2,h3,h4,rfl⟩ | ⟨h1,h2,WI,h3,rfl⟩
    ·omega
    ·exact absurd h4 (by simp;omega)
    ·omega
    ·exact WI
   rw[Pj h18,Pj h18]
theorem DS {p:Pr} {s:Ps} (hp:hT p) {i:Nat} (hi:i<p.I.length) (d d':List Int):ff p s d (ny p i).when=ff p s d' (ny p i).when∧dQ (mz p) (ny p i).when=some 1:=by
 obtain⟨h1,h2,h3⟩:=hp.tw i hi
 have h:=HP (c:=mz p) (p:=p) (s:=s) d d' 3 _ 1 h3 h2
 exact⟨by unfold ff;rw[h.2],h.1⟩
theorem oM {w:Int} (h:aI w=true):cI 0 w:=by
 have:=aR.1 h
 exact⟨by omega,(cH (by omega) (by omega)).1⟩
theorem LV {p:Pr} (hp:hT p):DP p (nR p) where
 l:=by simp[nR]
 v:=fun i hi=>by
  have e:(nR p).getD i 0=0:=by simp[nR,List.getD,Qs];split<;>rfl
  rw[e];exact oM (hp.tw i hi).1
theorem wP {p:Pr} {s:Ps} {hs:List Hd} (hp:hT p) (hh:DQ p hs):DP p (bW p s hs) where
 l:=by rw[bW,aC]
 v:=fun i hi=>by
  rw[bW,aN hi,DM]
  split
  ·rename_i h;exact hh.v i hi h.2
  ·exact oM (hp.tw i hi).1
theorem Aj (p:Pr) (s:Ps) (hs:List Hd) (rs:List Bool):(bm p s hs rs).fires=iJ p s hs rs:=by
 unfold bm;split<;>simp_all
theorem uA (p:Pr) (s:Ps) (hs:List Hd) (rs:List Bool):(bm p s hs rs).pops.length=p.I.length:=by
 unfold bm;split<;>simp[aC]
theorem uB (p:Pr) (s:Ps) (hs:List Hd) (rs:List Bool):(bm p s hs rs).Pc.length=p.Pc.length:=by
 unfold bm;split<;>simp[aC]
theorem wQ {p:Pr} {s:Ps} {d:List Int} {e:Ex} {w:Int} (ho:uz (mz p) p s d) (h:dQ (mz p) e=some w) (hd:eN e≤3):(bH p s d e).2=w∧cI (bH p s d e).1 w∧aI w=true:=Fk ho 3 e w hd h
theorem HQ {p:Pr} {s:Ps} {d:List Int} (hp:hT p) (hs:lM p s) (hd:DP p d):lM p (dY p s d) where
 rl:=by rw[dY];simp[aC]
 rv:=fun i hi=>by
  rw[dY];simp only;rw[aN hi]
  have h:=hp.rw i hi
  exact(wQ (iL hp hs hd) h.2.2.1 h.2.2.2).2.1
 ml:=by rw[dY];simp[aC]
 mn:=fun i hi=>by
  rw[dY];simp only;rw[aN hi,zA]
  split
  ·rw[PO];exact hs.mn i hi
  ·exact hs.mn i hi
 mv:=fun i hi j hj=>by
  rw[dY]at hj ⊢;simp only at hj ⊢;rw[aN hi,zA]at hj ⊢
  have h:=hp.mw i hi
  split at hj
  ·rename_i he
   rw[Pn he]
   rw[PO]at hj
   by_cases hm:(Int.tmod (bH p s d (eh p i).addr).1 (eh p i).words).toNat<(s.Pd.getD i []).length
   ·rw[dA hm]
    split
    ·exact(wQ (iL hp hs hd) h.2.2.2.2.1 h.2.2.2.2.2).2.1
    ·exact hs.mv i hi j hj
   ·rw[List.set_eq_of_length_le (by omega)]
    exact hs.mv i hi j hj
  ·rename_i he
   rw[Pj he]
   exact hs.mv i hi j hj
theorem uC {p:Pr} {s:Ps} {hs:List Hd} {rs:List Bool} (hp:hT p) (Un:lM p s) (hh:DQ p hs):lM p (bm p s hs rs).s:=by
 unfold bm
 split
 ·exact HQ hp Un (wP hp hh)
 ·exact Un
theorem wR {p:Pr} {s:Ps} {hs:List Hd} {rs:List Bool} (hp:hT p) (Un:lM p s) (hh:DQ p hs) {i:Nat} (hi:i<p.Pc.length) (Ug:((bm p s hs rs).Pc.getD i cQ).has=true):cI ((bm p s hs rs).Pc.getD i cQ).v (qu p i).w:=by
 unfold bm at Ug ⊢
 split
 ·rename_i hf
  rw[Pn hf]at Ug
  simp only at Ug ⊢
  rw[aN hi]at Ug ⊢
  unfold DN at Ug ⊢
  split
  ·have h:=hp.pw i hi
   exact(wQ (iL hp Un (wP hp hh)) h.2.2.1 h.2.2.2).2.1
  ·rename_i hn;rw[Pj hn]at Ug;cases Ug
 ·rename_i hf
  rw[Pj hf]at Ug
  simp[List.getD,Qs,hi]at Ug
structure Ch where
 name:ByteArray
 w:Int
 cap:Int
 frm:Int
 dst:Int
abbrev aF:Ch:=⟨e0,0,0,0,0⟩
structure Ci where
 U:List Pr
 J:List Ch
structure Ns where
 U:List Ps
 J:List (List Int)
def bP (c:Ch):List V:=[.str c.name,.int .i64 c.w,.int .i64 c.cap,.int .i64 c.frm,.int .i64 c.dst]
abbrev Nc:Ci:=⟨[],[]⟩
abbrev OV:Ns:=⟨[],[]⟩
abbrev aZ (c:Ci) (i:Nat):Pr:=c.U.getD i ac
abbrev eK (c:Ci) (n:Nat):Ch:=c.J.getD n aF
abbrev nz (s:Ns) (i:Nat):Ps:=s.U.getD i a8
abbrev k9 (s:Ns) (n:Nat):List Int:=s.J.getD n []
abbrev vz (p:Pr) (j:Nat):Nat:=(ny p j).chan.toNat
abbrev r9 (p:Pr) (j:Nat):Nat:=(qu p j).chan.toNat
structure bQ (c:Ci):Prop where
 n1:1≤c.U.length
 nl:c.U.length≤100
 cl:c.J.length≤100
 pr:∀i,i<c.U.length→hT (aZ c i)
 tk:∀i,i<c.U.length→∀j,j<(aZ c i).I.length→0≤(ny (aZ c i) j).chan∧(ny (aZ c i) j).chan<c.J.length∧(eK c (vz (aZ c i) j)).w=(ny (aZ c i) j).w∧(eK c (vz (aZ c i) j)).dst=i
 pt:∀i,i<c.U.length→∀j,j<(aZ c i).Pc.length→0≤(qu (aZ c i) j).chan∧(qu (aZ c i) j).chan<c.J.length∧(eK c (r9 (aZ c i) j)).w=(qu (aZ c i) j).w∧(eK c (r9 (aZ c i) j)).frm=i
 td:∀i,i<c.U.length→∀j k,j<(aZ c i).I.length→k<(aZ c i).I.length→vz (aZ c i) j=vz (aZ c i) k→j=k
 pd:∀i,i<c.U.length→∀j k,j<(aZ c i).Pc.length→k<(aZ c i).Pc.length→r9 (aZ c i) j=r9 (aZ c i) k→j=k
 cw:∀n,n<c.J.length→aI (eK c n).w=true
 cp:∀n,n<c.J.length→0≤(eK c n).cap
def fx (l:List Int) (w:Int):Bool:=dh (fun i=>fg (l.getD i 0) w) l.length
def iM (c:Ci) (s:Ns) (n:Nat):Bool:=fx (k9 s n) (eK c n).w&&(!(decide (0≤(eK c n).frm)&&decide (0≤(eK c n).dst))||decide (((k9 s n).length:Int)≤(eK c n).cap))
def b6 (c:Ci) (s:Ns):Bool:=decide (s.U.length=c.U.length)&&decide (s.J.length=c.J.length)&&dh (fun i=>bK (aZ c i) (nz s i)) c.U.length&&dh (iM c s) c.J.length
structure dn (c:Ci) (s:Ns):Prop where
 pl:s.U.length=c.U.length
 cl:s.J.length=c.J.length
 pv:∀i,i<c.U.length→lM (aZ c i) (nz s i)
 cv:∀n,n<c.J.length→∀i,i<(k9 s n).length→cI ((k9 s n).getD i 0) (eK c n).w
 cc:∀n,n<c.J.length→0≤(eK c n).frm→0≤(eK c n).dst→((k9 s n).length:Int)≤(eK c n).cap
theorem Fy {l:List Int} {w:Int}:fx l w=true↔∀i,i<l.length→cI (l.getD i 0) w:=by
 unfold fx
 simp only[bg,yp]
theorem Ak {c:Ci} {s:Ns}:b6 c s=true↔dn c s:=by
 unfold b6 iM
 simp only[Pg,P5,bg,DR,Fy,PS,PR,QE,Qu]
 constructor
 ·rintro⟨⟨⟨h1,h2⟩,h3⟩,h4⟩
  refine⟨h1,h2,h3,fun n hn=>(h4 n hn).1,fun n hn ha hb=>?_⟩
  rcases(h4 n hn).2 with (h | h) | h
  ·exact absurd ha h
  ·exact absurd hb h
  ·exact h
 ·intro h
  refine⟨⟨⟨h.pl,h.cl⟩,h.pv⟩,fun n hn=>⟨h.cv n hn,?_⟩⟩
  by_cases ha:0≤(eK c n).frm
  ·by_cases hb:0≤(eK c n).dst
   ·exact .inr (h.cc n hn ha hb)
   ·exact .inl (.inr hb)
  ·exact .inl (.inl ha)
def iO (c:Ci) (s:Ns) (p j:Nat):Hd:=if 0<(k9 s (vz (aZ c p) j)).length then ⟨true,(k9 s (vz (aZ c p) j)).getD 0 0⟩else cQ
def cR (c:Ci) (s:Ns) (p:Nat):List Hd:=tab (iO c s p) (aZ c p).I.length
def gy (c:Ci) (s:Ns) (p j:Nat):Bool:=decide ((eK c (r9 (aZ c p) j)).dst=-1)||decide (((k9 s (r9 (aZ c p) j)).length:Int)<(eK c (r9 (aZ c p) j)).cap)
def db (c:Ci) (s:Ns) (p:Nat):List Bool:=tab (gy c s p) (aZ c p).Pc.length
def aD (c:Ci) (s:Ns) (p:Nat):Fi:=bm (aZ c p) (nz s p) (cR c s p) (db c s p)
def yq (c:Ci) (s:Ns) (p:Nat):Bool:=(aD c s p).fires
def iP (c:Ci) (s:Ns) (p:Int):Bool:=decide (0≤p)&&(decide (p<c.U.length)&&yq c s p.toNat)
theorem FA (c:Ci) (s:Ns) (p:Nat):yq c s p=iJ (aZ c p) (nz s p) (cR c s p) (db c s p):=Aj _ _ _ _
theorem tD {c:Ci} {s:Ns} (hc:bQ c) (hs:dn c s) {p:Nat} (hp:p<c.U.length):DQ (aZ c p) (cR c s p) where
 l:=by rw[cR,aC]
 v:=fun i hi hh=>by
  rw[cR,aN hi]at hh ⊢
  unfold iO at hh ⊢
  split
  ·rename_i h0
   obtain⟨k1,k2,k3,k4⟩:=hc.tk p hp i hi
   have:=hs.cv (vz (aZ c p) i) (by show(ny (aZ c p) i).chan.toNat<_;omega) 0 h0
   rw[k3]at this
   exact this
  ·rename_i h0;rw[Pj h0]at hh;cases hh
def ug (p:Pr) (f:Fi):Nat→List Nat
 | 0=>[]
 | k+1=>ug p f k++(if f.pops.getD k false=true then [vz p k]else [])
def uj (p:Pr) (f:Fi):Nat→List (Nat×Int)
 | 0=>[]
 | k+1=>uj p f k++(if (f.Pc.getD k cQ).has=true then [(r9 p k,(f.Pc.getD k cQ).v)]else [])
def bz (c:Ci) (s:Ns) (w:Nat→Bool) (p:Nat):Bool:=w p&&yq c s p
def qv (c:Ci) (s:Ns) (w:Nat→Bool):Nat→List Nat
 | 0=>[]
 | p+1=>qv c s w p++(if bz c s w p=true then ug (aZ c p) (aD c s p) (aZ c p).I.length else [])
def oO (c:Ci) (s:Ns) (w:Nat→Bool):Nat→List (Nat×Int)
 | 0=>[]
 | p+1=>oO c s w p++(if bz c s w p=true then uj (aZ c p) (aD c s p) (aZ c p).Pc.length else [])
def cU (l:List Int) (ev:List Nat):List Int:=ev.foldl (fun l n=>l.set n 1) l
def cJ (l:List (Option Int)) (ev:List (Nat×Int)):List (Option Int):=ev.foldl (fun l e=>l.set e.1 (some e.2)) l
def kt (c:Ci) (s:Ns) (p n:Nat):Bool:=decide (n∈ug (aZ c p) (aD c s p) (aZ c p).I.length)
def wS (c:Ci) (s:Ns) (p n:Nat):List Int:=((uj (aZ c p) (aD c s p) (aZ c p).Pc.length).filter (fun e=>e.1==n)).map (·.2)
def rG (c:Ci) (n:Nat):Nat:=(eK c n).dst.toNat
def nA (c:Ci) (n:Nat):Nat:=(eK c n).frm.toNat
def iQ (c:Ci) (s:Ns) (w:Nat→Bool) (n:Nat):Nat:=if bz c s w (rG c n)=true∧kt c s (rG c n) n=true then 1 else 0
def gU (c:Ci) (s:Ns) (w:Nat→Bool) (n:Nat):List Int:=if bz c s w (nA c n)=true then wS c s (nA c n) n else []
def iR (c:Ci) (s:Ns) (w:Nat→Bool) (n:Nat):List Int:=(k9 s n).drop (iQ c s w n)++gU c s w n
def dc (c:Ci) (s:Ns) (w:Nat→Bool) (p:Nat):Ps:=if bz c s w p=true then (aD c s p).s else nz s p
def cT (c:Ci) (s:Ns) (w:Nat→Bool):Ns:=⟨tab (dc c s w) c.U.length,tab (iR c s w) c.J.length⟩
theorem sa {p:Pr} {f:Fi} {n:Nat}:∀{k:Nat},n∈ug p f k→∃j,j<k∧f.pops.getD j false=true∧vz p j=n
 | 0,h=>by cases h
 | k+1,h=>by
  rw[ug,Qn]at h
  rcases h with h | h
  ·obtain⟨j,h1,h2⟩:=sa h;exact⟨j,by omega,h2⟩
  ·split at h
   ·rename_i hh;simp only[QF]at h;exact⟨k,by omega,hh,h.symm⟩
   ·cases h
theorem pC {p:Pr} {f:Fi} {e:Nat×Int}:∀{k:Nat},e∈uj p f k→∃j,j<k∧(f.Pc.getD j cQ).has=true∧r9 p j=e.1∧(f.Pc.getD j cQ).v=e.2
 | 0,h=>by cases h
 | k+1,h=>by
  rw[uj,Qn]at h
  rcases h with h | h
  ·obtain⟨j,h1,h2⟩:=pC h;exact⟨j,by omega,h2⟩
  ·split at h
   ·rename_i hh;simp only[QF]at h;subst h;exact⟨k,by omega,hh,rfl,rfl⟩
   ·cases h
theorem rf (ev:List Nat):∀(l:List Int),(cU l ev).length=l.length:=by
 induction ev with
 | nil=>intro l;rfl
 | cons n r ih=>intro l;show(cU _ r).length=_;rw[ih];simp
theorem rh (ev:List (Nat×Int)):∀(l:List (Option Int)),(cJ l ev).length=l.length:=by
 induction ev with
 | nil=>intro l;rfl
 | cons n r ih=>intro l;show(cJ _ r).length=_;rw[ih];simp
theorem wT (l:List Int) (ev:List Nat) (n:Nat):cU l (ev++[n])=(cU l ev).set n 1:=by simp[cU,Q5]
theorem wU (l:List (Option Int)) (ev:List (Nat×Int)) (n:Nat) (v:Int):cJ l (ev++[(n,v)])=(cJ l ev).set n (some v):=by simp[cJ,Q5]
theorem yr (ev:List Nat):∀(l:List Int) (n:Nat),n<l.length→(cU l ev).getD n 0=if n∈ev then 1 else l.getD n 0:=by
 induction ev with
 | nil=>intro l n hn;simp[cU]
 | cons m r ih =>
  intro l n hn
  show(cU (l.set m _) r).getD n 0=_
  rw[ih _ n (by simpa using hn)]
  by_cases hr:n∈r
  ·rw[Pn hr,Pn (by simp[hr])]
  ·rw[Pj hr]
   by_cases e:m=n
   ·subst e
    rw[dA hn,Pn rfl,Pn (by simp)]
   ·rw[Pj (by simp[hr];omega)]
    by_cases hm:m<l.length
    ·rw[dA hm,Pj e]
    ·rw[List.set_eq_of_length_le (by omega)]
section
variable {c:Ci} {s:Ns} {w:Nat→Bool}
theorem HR (hc:bQ c) {p n:Nat} (hp:p<c.U.length) {f:Fi} {k:Nat} (hk:k≤(aZ c p).I.length) (h:n∈ug (aZ c p) f k):n<c.J.length∧(eK c n).dst=p:=by
 obtain⟨j,h1,h2,rfl⟩:=sa h
 obtain⟨k1,k2,k3,k4⟩:=hc.tk p hp j (by omega)
 exact⟨by show(ny (aZ c p) j).chan.toNat<_;omega,k4⟩
theorem BQ (hc:bQ c) {p:Nat} {e:Nat×Int} (hp:p<c.U.length) {f:Fi} {k:Nat} (hk:k≤(aZ c p).Pc.length) (h:e∈uj (aZ c p) f k):e.1<c.J.length∧(eK c e.1).frm=p:=by
 obtain⟨j,h1,h2,h3,h4⟩:=pC h
 obtain⟨k1,k2,k3,k4⟩:=hc.pt p hp j (by omega)
 rw[← h3]
 exact⟨by show(qu (aZ c p) j).chan.toNat<_;omega,k4⟩
theorem qx (hc:bQ c) {p:Nat} (n:Nat) (hp:p<c.U.length) {f:Fi}:∀{k:Nat},k≤(aZ c p).I.length→(ug (aZ c p) f k).count n=if n∈ug (aZ c p) f k then 1 else 0
 | 0,_=>by simp[ug]
 | k+1,hk=>by
  have ih:=qx hc n hp (f:=f) (k:=k) (by omega)
  rw[ug,List.count_append,ih]
  by_cases h1:f.pops.getD k false=true
  ·rw[Pn h1]
   by_cases e:vz (aZ c p) k=n
   ·have:n∉ug (aZ c p) f k:=by
     intro hm
     obtain⟨j,g1,g2,g3⟩:=sa hm
     have:=hc.td p hp j k (by omega) (by omega) (by rw[g3,e])
     omega
    rw[Pj this,e,List.count_singleton_self,Pn (QP _ (QF.2 rfl))]
   ·have e3:([vz (aZ c p) k]).count n=0:=List.count_eq_zero.2 (by rw[QF];exact fun h=>e h.symm)
    rw[e3,QO]
    by_cases hm:n∈ug (aZ c p) f k
    ·rw[Pn hm,Pn (QI _ hm)]
    ·rw[Pj hm,Pj]
     intro h
     rcases Qn.1 h with h | h
     ·exact hm h
     ·exact e (QF.1 h).symm
  ·rw[Pj h1,Qk];rfl
theorem tE (hc:bQ c) (n:Nat):∀{P:Nat},P≤c.U.length→(qv c s w P).count n=if rG c n<P then iQ c s w n else 0
 | 0,_=>by simp[qv]
 | P+1,hP=>by
  have ih:=tE hc n (P:=P) (by omega)
  rw[qv,List.count_append,ih]
  by_cases hd:rG c n=P
  ·rw[Pj (show ¬rG c n<P by omega),Pn (show rG c n<P+1 by omega),iQ,hd,PX]
   by_cases hf:bz c s w P=true
   ·rw[Pn hf,qx hc n (by omega) (Pl _)]
    simp[kt,hf]
   ·rw[Pj hf];simp[hf]
  ·have h0:(if bz c s w P=true then ug (aZ c P) (aD c s P) (aZ c P).I.length else []).count n=0:=by
    split
    ·rw[qx hc n (by omega) (Pl _),Pj]
     intro hm
     have:=(HR hc (by omega) (Pl _) hm).2
     exact hd (by rw[rG,this];rfl)
    ·rfl
   rw[h0]
   by_cases h1:rG c n<P
   ·rw[Pn h1,Pn (show rG c n<P+1 by omega)];rfl
   ·rw[Pj h1,Pj (show ¬rG c n<P+1 by omega)]
theorem FB (hc:bQ c) {p n:Nat} (h:kt c s p n=true):p<c.U.length:=by
 by_cases hp:p<c.U.length
 ·exact hp
 ·unfold kt at h
  have e:aZ c p=ac:=by rw[aZ,List.getD,P2 (by omega)];rfl
  rw[e]at h
  simp[ug]at h
theorem HS (hc:bQ c) (n:Nat):(if rG c n<c.U.length then iQ c s w n else 0)=iQ c s w n:=by
 split
 ·rfl
 ·rename_i h
  rw[iQ,Pj]
  rintro⟨_,h2⟩
  exact h (FB hc h2)
theorem HT (hc:bQ c) {p n:Nat} (hp:p<c.U.length) (hd:¬nA c n=p) (f:Fi):(uj (aZ c p) f (aZ c p).Pc.length).filter (fun e=>e.1==n)=[]:=by
 rw[List.filter_eq_nil_iff]
 intro e he h
 have h1:e.1=n:=by simpa using h
 have:=(BQ hc hp (Pl _) he).2
 rw[h1]at this
 exact hd (by rw[nA,this];rfl)
theorem tF (hc:bQ c) (n:Nat):∀{P:Nat},P≤c.U.length→((oO c s w P).filter (fun e=>e.1==n)).map (·.2)=if nA c n<P then gU c s w n else []
 | 0,_=>by simp[oO]
 | P+1,hP=>by
  have ih:=tF hc n (P:=P) (by omega)
  rw[oO,List.filter_append,P9,ih]
  by_cases hd:nA c n=P
  ·rw[Pj (show ¬nA c n<P by omega),Pn (show nA c n<P+1 by omega),gU,hd]
   by_cases hf:bz c s w P=true
   ·rw[Pn hf,Pn hf];rfl
   ·rw[Pj hf,Pj hf];rfl
  ·have h0:(if bz c s w P=true then uj (aZ c P) (aD c s P) (aZ c P).Pc.length else []).filter (fun e=>e.1==n)=[]:=by
    split
    ·exact HT hc (by omega) hd _
    ·rfl
   rw[h0]
   by_cases h1:nA c n<P
   ·rw[Pn h1,Pn (show nA c n<P+1 by omega)];exact Qk _
   ·rw[Pj h1,Pj (show ¬nA c n<P+1 by omega)];rfl
theorem pD {p n:Nat} (hp:¬p<c.U.length):wS c s p n=[]:=by
 have e:aZ c p=ac:=by rw[aZ,List.getD,P2 (by omega)];rfl
 unfold wS
 rw[e];rfl
theorem BR (n:Nat):(if nA c n<c.U.length then gU c s w n else [])=gU c s w n:=by
 split
 ·rfl
 ·rename_i h
  rw[gU]
  split
  ·rw[pD h]
  ·rfl
end
theorem BS (bs:ByteArray):∀(n i:Nat) (r:List UInt8),bs.size-i=n→ByteArray.toList.loop bs i r=r.reverse++bs.data.toList.drop i
 | 0,i,r,h=>by
  unfold ByteArray.toList.loop
  rw[Pj (by omega),List.drop_eq_nil_of_le (by show bs.data.toList.length≤i;rw[QB];have:bs.data.size=bs.size:=rfl;omega),Qk]
 | n+1,i,r,h=>by
  unfold ByteArray.toList.loop
  have hi:i<bs.size:=by omega
  have hi2:i<bs.data.toList.length:=by rw[QB];exact hi
  rw[Pn hi,BS bs n (i+1) _ (by omega),List.drop_eq_getElem_cons hi2]
  have e:bs.get! i=bs.data.toList[i]:=by
   show(bs.data[i]!)=_
   rw[getElem!_pos bs.data i hi];simp
  rw[e];simp
theorem BT (bs:ByteArray):bs.toList=bs.data.toList:=by
 unfold ByteArray.toList
 rw[BS bs _ 0 [] rfl];simp
theorem toList_inj {a b:ByteArray} (h:a.toList=b.toList):a=b:=by
 rw[BT,BT]at h
 cases a;cases b
 simp only[Array.toList_inj]at h
 rw[h]
def b9 (b:List (ByteArray×Int)) (f:Nat→ByteArray):Nat→List (ByteArray×Int)
 | 0=>b
 | i+1=>dJ (b9 b f i) (f i) (i:Int)
def bq (c:Ci) (i:Nat):ByteArray:=(c.J.getD i aF).name
def ku (p:Pr) (i:Nat):ByteArray:=(p.Pe.getD i aK).name
def qy (p:Pr) (i:Nat):ByteArray:=(p.Pd.getD i aA).name
def iT (c:Ci) (i:Nat):ByteArray:=(c.U.getD i ac).name
structure ri where
 p:Pr
 s:Ps
 Pe:List (ByteArray×Int)
 Pd:List (ByteArray×Int)
abbrev bt:ri:=⟨ac,a8,[],[]⟩
def lN (r:ri):List V:=[.str r.p.name,.str r.p.clock,.sl 13 bG aK r.p.Pe,.sl 27 bS aA r.p.Pd,.sl 9 dU bV r.p.I,.sl 16 dT b4 r.p.Pc,.sl 1 (aa .i64) 0 r.s.Pe,.sl 1 af [] r.s.Pd,.sm false (aa .i64) 0 r.Pe,.sm false (aa .i64) 0 r.Pd]
def ex (c:Ci) (s:Ns) (i:Nat):ri:=⟨c.U.getD i ac,s.U.getD i a8,b9 [] (ku (c.U.getD i ac)) (c.U.getD i ac).Pe.length,b9 [] (qy (c.U.getD i ac)) (c.U.getD i ac).Pd.length⟩
def bv (c:Ci) (s:Ns):Nat→List (ByteArray×ri)
 | 0=>[]
 | i+1=>dJ (bv c s i) (iT c i) (ex c s i)
theorem eO {α:Type _} (d x:α) (k k':ByteArray):∀l:List (ByteArray×α),ai d (dJ l k x) k'=if k'=k then x else ai d l k'
 | []=>rfl
 | (q,y)::r=>by
  rw[dJ]
  split
  ·rename_i h
   subst h
   rw[ai,ai]
   split<;>rfl
  ·rename_i h
   rw[ai,ai,eO d x k k' r]
   by_cases h1:k'=q
   ·rw[Pn h1,Pn h1,Pj (fun h2=>h (h2.symm.trans h1))]
   ·rw[Pj h1,Pj h1]
theorem qz {α:Type _} (x:α) (k k':ByteArray):∀l:List (ByteArray×α),aX (dJ l k x) k'=if k'=k then true else aX l k'
 | []=>rfl
 | (q,y)::r=>by
  rw[dJ]
  split
  ·rename_i h
   subst h
   rw[aX,aX]
   split<;>rfl
  ·rename_i h
   rw[aX,aX,qz x k k' r]
   by_cases h1:k'=q
   ·rw[Pn h1,Pn h1,Pj (fun h2=>h (h2.symm.trans h1))]
   ·rw[Pj h1,Pj h1]
theorem Al {f:Nat→ByteArray} {k:ByteArray}:∀(n:Nat),aX (b9 [] f n) k=true↔∃j,j<n∧f j=k
 | 0=>⟨fun h=>by simp[b9,aX]at h,fun ⟨j,hj,_⟩=>by omega⟩
 | n+1=>by
  rw[b9,qz]
  by_cases h:k=f n
  ·rw[Pn h];exact⟨fun _=>⟨n,by omega,h.symm⟩,fun _=>rfl⟩
  ·rw[Pj h,Al n]
   exact⟨fun ⟨j,h1,h2⟩=>⟨j,by omega,h2⟩,fun ⟨j,h1,h2⟩=>⟨j,by rcases Nat.lt_or_ge j n with h3 | h3;exact h3;exact absurd ((show j=n by omega) ▸ h2).symm h,h2⟩⟩
theorem wV {f:Nat→ByteArray} {j:Nat}:∀(n:Nat),j<n→(∀i,i<n→∀i',i'<i→f i'≠f i)→ai 0 (b9 [] f n) (f j)=(j:Int)
 | 0,h,_=>by omega
 | n+1,h,hd=>by
  rw[b9,eO]
  by_cases hj:j=n
  ·subst hj;rw[Pn rfl]
  ·rw[Pj (hd n (by omega) j (by omega))]
   exact wV n (by omega) (fun i hi i' Sk=>hd i (by omega) i' Sk)
theorem vA {f:Nat→ByteArray} {k:ByteArray}:∀(n:Nat),aX (b9 [] f n) k=true→0≤ai 0 (b9 [] f n) k∧ai 0 (b9 [] f n) k<(n:Int)
 | 0,h=>by simp[b9,aX]at h
 | n+1,h=>by
  rw[b9,qz]at h
  rw[b9,eO]
  by_cases hk:k=f n
  ·rw[Pn hk];omega
  ·rw[Pj hk]at h ⊢
   have:=vA n h
   omega
def kv (n:Ci):List (ByteArray×Int):=b9 [] (bq n) n.J.length
def iU (o n:Ci) (i:Nat):Bool:=!aX (kv n) (bq o i)||!decide ((n.J.getD (ai 0 (kv n) (bq o i)).toNat aF).w=(o.J.getD i aF).w)
theorem sd {o n:Ci} {i:Nat} (h:aX (kv n) (bq o i)=false):iU o n i=true:=by unfold iU;rw[h];rfl
theorem BU {o n:Ci} {i:Nat} (h:¬(n.J.getD (ai 0 (kv n) (bq o i)).toNat aF).w=(o.J.getD i aF).w):iU o n i=true:=by unfold iU;rw[Pv h];simp
theorem wW {o n:Ci} {i:Nat} (h:aX (kv n) (bq o i)=true) (h2:(n.J.getD (ai 0 (kv n) (bq o i)).toNat aF).w=(o.J.getD i aF).w):¬iU o n i=true:=by unfold iU;rw[h,Pq h2];simp
def bc (o n:Ci):Nat→List ByteArray
 | 0=>[]
 | i+1=>bc o n i++(if iU o n i=true then [bq o i]else [])
theorem pE (o n:Ci):∀i,(bc o n i).length≤i
 | 0=>Pl _
 | i+1=>by
  have:=pE o n i
  rw[bc,PG]
  split<;>simp<;>omega
theorem yu {o n:Ci} {i:Nat} (h:iU o n i=true):bc o n (i+1)=bc o n i++[bq o i]:=by rw[bc,Pn h]
theorem wX {o n:Ci} {i:Nat} (h:¬iU o n i=true):bc o n i=bc o n (i+1):=by rw[bc,Pj h,Qk]
def jY (x w:Int):Int:=if 0≤w∧w≤62 then x%2^w.toNat else 0
theorem FC {x w:Int}:IntKind.wrap .i64 ((BitVec.ofInt (IntKind.i64).bits x &&& BitVec.ofInt (IntKind.i64).bits (aE w)).toNat:Int)=jY x w:=by
 unfold jY
 by_cases h:0≤w∧w≤62
 ·rw[Pn h,cZ h.1 h.2]
  exact lI (n:=w.toNat) (by omega)
 ·rw[Pj h,show aE w=0 from Pn (by omega)]
  rw[show BitVec.ofInt (IntKind.i64).bits 0=0#_ from by simp,BitVec.and_zero]
  rfl
theorem FD {x:Int} {n:Nat} (h:n≤62):IntKind.wrap .i64 x%2^n=x%2^n:=by
 have hd:((2:Int)^n) ∣ 18446744073709551616:=by
  refine⟨2^(64-n),?_⟩
  rw[← Int.pow_add,show n+(64-n)=64 by omega]
  decide
 obtain⟨k,hk⟩:∃k:Int,IntKind.wrap .i64 x=x+k*18446744073709551616:=by
  have h1:(2:Int)^(IntKind.i64).bits=18446744073709551616:=by decide
  unfold IntKind.wrap
  simp only[h1]
  have:=Int.emod_add_mul_ediv x 18446744073709551616
  split
  ·exact⟨-(x / 18446744073709551616)-1,by omega⟩
  ·exact⟨-(x / 18446744073709551616),by omega⟩
 obtain⟨c,hc⟩:=hd
 rw[hk,hc,show k*(2^n*c)=2^n*(k*c) by rw[Int.mul_left_comm]]
 exact Int.add_mul_emod_self_left x (2^n) (k*c)
theorem yv {x w:Int}:jY (IntKind.wrap .i64 x) w=jY x w:=by
 unfold jY
 by_cases h:0≤w∧w≤62
 ·rw[Pn h,Pn h];exact FD (by omega)
 ·rw[Pj h,Pj h]
structure eo where
 first:Int
 w:Int
 rule:ah
def ey (c:eo) (v:Int) (is:Bool):Int:=if is=true then jY v c.w else c.first
def pF (c:eo) (v:Int) (is:Bool):Int:=jY (ey c v is+c.rule.n) c.w
def cf (c:eo) (v:Int) (is:Bool):Int:=if c.rule.kind=0 then c.first else if c.rule.kind=3 then pF c v is else ey c v is
def av (own:ByteArray) (r:ah):ByteArray:=if r.kind=1 then own else r.src
def yw (f:ri) (r:Rg):Int:=ai 0 f.Pe (av r.name r.rule)
def wY (f:ri) (r:Rg):Bool:=aX f.Pe (av r.name r.rule)
def nU (f:ri) (r:Rg):Bool:=if wY f r=true∧r.rule.kind=1 then decide ((f.p.Pe.getD (yw f r).toNat aK).w=r.w)else wY f r
def eI (f:ri) (r:Rg):Int:=cf ⟨r.init,r.w,r.rule⟩ (if nU f r=true then f.s.Pe.getD (yw f r).toNat 0 else 0) (nU f r)
def er (f:ri) (m:Mm):Bool:=if aX f.Pd (av m.name m.rule)=true∧m.rule.kind=1 then (decide ((f.p.Pd.getD (ai 0 f.Pd (av m.name m.rule)).toNat aA).w=m.w)&&decide ((f.p.Pd.getD (ai 0 f.Pd (av m.name m.rule)).toNat aA).words=m.words))else aX f.Pd (av m.name m.rule)
def vB (f:ri) (m:Mm) (k:Nat):Bool:=er f m&&decide (((k:Nat):Int)<((f.s.Pd.getD (ai 0 f.Pd (av m.name m.rule)).toNat []).length:Int))
def cr (f:ri) (m:Mm) (k:Nat):Int:=cf ⟨0,m.w,m.rule⟩ (if vB f m k=true then (f.s.Pd.getD (ai 0 f.Pd (av m.name m.rule)).toNat []).getD k 0 else 0) (vB f m k)
def fG (f:ri) (m:Mm):List Int:=(List.range m.words.toNat).map (cr f m)
theorem gz {f:ri} {m:Mm} {k:Nat} (h:er f m=true) (h2:(k:Int)<((f.s.Pd.getD (ai 0 f.Pd (av m.name m.rule)).toNat []).length:Int)):cr f m k=cf ⟨0,m.w,m.rule⟩ ((f.s.Pd.getD (ai 0 f.Pd (av m.name m.rule)).toNat []).getD k 0) true:=by
 unfold cr vB
 rw[h,Pq h2];rfl
theorem fy {f:ri} {m:Mm} {k:Nat} (h:er f m=false):cr f m k=cf ⟨0,m.w,m.rule⟩ 0 false:=by
 unfold cr vB
 rw[h];rfl
theorem gA {f:ri} {m:Mm} {k:Nat} (h2:¬(k:Int)<((f.s.Pd.getD (ai 0 f.Pd (av m.name m.rule)).toNat []).length:Int)):cr f m k=cf ⟨0,m.w,m.rule⟩ 0 false:=by
 unfold cr vB
 rw[Pv h2,Qd];rfl
theorem HU (e:Ex):1≤eN e:=by cases e with | mk op name k w args=>rw[eN];omega
def FE:List D→List D→Prop
 | [],[]=>True
 | x::xs,y::ys=>cA x y∧FE xs ys
 | _,_=>False
theorem FF {xs ys:List D} (h:FE xs ys):cA (.agg xs) (.agg ys):=by
 intro S μ w u hu
 obtain⟨us,rfl,h1,h2⟩:=dH hu
 have key:∀(xs ys:List D),FE xs ys→xs.length=ys.length∧∀(j:Nat) (y:D),ys[j]?=some y→∃x,xs[j]?=some x∧cA x y:=by
  intro xs
  induction xs with
  | nil =>
   intro ys h
   cases ys with
   | nil=>exact⟨rfl,fun j y hy=>by simp at hy⟩
   | cons _ _=>exact h.elim
  | cons x xs ih =>
   intro ys h
   cases ys with
   | nil=>exact h.elim
   | cons y ys =>
    obtain⟨q1,q2⟩:=ih ys h.2
    refine⟨by simp[q1],fun j z hz=>?_⟩
    cases j with
    | zero=>simp at hz;subst hz;exact⟨x,rfl,h.1⟩
    | succ j=>simpa using q2 j z (by simpa using hz)
 obtain⟨q1,q2⟩:=key xs ys h
 refine .agg _ _ (by rw[← q1];exact h1) (fun j y v hy hv=>?_)
 obtain⟨x,hx,hl⟩:=q2 j y hy
 exact hl S μ w v (h2 j x v hx hv)
theorem BV (x:D):cA x x:=fun _ _ _ _ h=>h
def gN {α:Type} (f:Nat→α) (l:List α) (i:Nat):List α:=tab f i++l.drop i
theorem cK {α:Type} {f:Nat→α} {l:List α} {i:Nat} (h:i≤l.length):(gN f l i).length=l.length:=by
 unfold gN;rw[PG,aC,PQ];omega
theorem bU {α:Type} {f:Nat→α} {l:List α} {i:Nat} {v:α} (h:i<l.length) (hv:f i=v):(gN f l i).set i v=gN f l (i+1):=by
 rw[← hv];exact HO h
theorem jL {α:Type} {f:Nat→α} {l:List α} {i:Nat} {d:α} (h:i<l.length) (hv:f i=l.getD i d):gN f l i=gN f l (i+1):=by
 unfold gN
 rw[tA,P3,hv]
 congr 1
 rw[List.drop_eq_getElem_cons h,List.getD,Ph h];rfl
theorem b7 {α:Type} {f:Nat→α} {l:List α} {i:Nat} (h:l.length≤i):gN f l i=tab f i:=Fw h
theorem iV {α:Type} {f:Nat→α} {l:List α} {i j:Nat} {d:α}:(gN f l i).getD j d=if j<i then f j else l.getD j d:=by
 unfold gN
 by_cases h:j<i
 ·rw[Pn h,List.getD,Pw (by rw[aC];exact h),← List.getD,aN h]
 ·rw[Pj h,List.getD,Pz (by rw[aC];omega),aC,Qv,← List.getD]
  congr 1;omega
theorem pG {α:Type} {f:Nat→α} {enc:α→List V} {i:Nat} (h:i<137438953472):(tab f i).length+([f i].map enc).length≤137438953472∧(tab f i).map enc++[f i].map enc=(tab f (i+1)).map enc:=by
 refine⟨by rw[aC];simp;omega,?_⟩
 rw[tA,P9]
theorem du {α:Type} {n i:Nat} {a:α}:(List.replicate n a).getD i a=a:=by
 rw[List.getD,Qs];split<;>rfl
section
variable {p:Pr} {s:Ps} {hs:List Hd} {rs:List Bool} {d:List Int} {i:Nat}
theorem FG:(nR p).getD i 0=0:=du
theorem lO:(nR p).length=p.I.length:=by simp[nR]
theorem HV (h:iJ p s hs rs=false):bm p s hs rs=⟨false,s,List.replicate p.I.length false,List.replicate p.Pc.length cQ⟩:=Pj (by rw[h];simp)
theorem HW (h:iJ p s hs rs=true):bm p s hs rs=⟨true,dY p s (bW p s hs),tab (Fx p s hs) p.I.length,tab (DN p s hs) p.Pc.length⟩:=Pn h
theorem vC {a b:Bool} (h1:a=dh (tB p s hs) p.I.length) (h2:b=(a&&dh (tC p s hs rs) p.Pc.length)):iJ p s hs rs=b:=by
 rw[h2,h1];rfl
theorem wZ (hp:hT p) (hi:i<p.I.length):dQ (mz p) (ny p i).when=some 1∧eN (ny p i).when≤3:=⟨(DS (s:=a8) hp hi [] []).2,(hp.tw i hi).2.2⟩
theorem yx (p:Pr):bx p=⟨tab (fun i=>(oL p i).init) p.Pe.length,tab (fun i=>List.replicate (eh p i).words.toNat 0) p.Pd.length⟩:=by
 unfold bx;rw[BP (d:=aK),BP (d:=aA)]
end
theorem ii {p:Pr} {s:Ps} (h:¬s.Pe.length=p.Pe.length):bK p s=false:=by unfold bK;rw[Pv h];rfl
theorem ij {p:Pr} {s:Ps} (h:¬s.Pd.length=p.Pd.length):bK p s=false:=by unfold bK;rw[Pv h];simp
theorem ik {p:Pr} {s:Ps} {i:Nat} (hi:i<s.Pe.length) (h:fg (s.Pe.getD i 0) (oL p i).w=false):bK p s=false:=by
 unfold bK;rw[dR hi h];simp
theorem cD {p:Pr} {s:Ps} {i:Nat} (hi:i<s.Pd.length) (h:iK p s i=false):bK p s=false:=by
 unfold bK;rw[dR hi h];simp
theorem mA {p:Pr} {s:Ps} {i:Nat} (h:¬((s.Pd.getD i []).length:Int)=(eh p i).words):iK p s i=false:=by unfold iK;rw[Pv h];rfl
theorem mB {p:Pr} {s:Ps} {i j:Nat} (hj:j<(s.Pd.getD i []).length) (h:fg ((s.Pd.getD i []).getD j 0) (eh p i).w=false):iK p s i=false:=by
 unfold iK;rw[dR hj h];simp
theorem HX {p:Pr} {s:Ps} {i:Nat} (h1:((s.Pd.getD i []).length:Int)=(eh p i).words) (h2:∀j,j<(s.Pd.getD i []).length→fg ((s.Pd.getD i []).getD j 0) (eh p i).w=true):iK p s i=true:=by
 unfold iK;rw[Pq h1,bg.2 h2];rfl
theorem il {p:Pr} {s:Ps} (h1:s.Pe.length=p.Pe.length) (h2:s.Pd.length=p.Pd.length) (h3:∀i,i<s.Pe.length→fg (s.Pe.getD i 0) (oL p i).w=true) (h4:∀i,i<s.Pd.length→iK p s i=true):bK p s=true:=by
 unfold bK;rw[Pq h1,Pq h2,bg.2 h3,bg.2 h4];rfl
theorem BW {v w:Int} (h0:0≤v) (h1:0≤w) (h2:w≤62):(v / 2^w.toNat==0)=fg v w:=by
 have hp:=lJ (n:=w.toNat) (by omega)
 unfold fg
 rw[Pq h0,Bool.true_and,cZ h1 h2]
 rw[Bool.eq_iff_iff,beq_iff_eq,P5]
 generalize (2:Int)^w.toNat=m at hp ⊢
 constructor
 ·intro h
  have h3:=Int.emod_add_mul_ediv v m
  rw[h]at h3
  have h4:=QG v (show 0<m by omega)
  omega
 ·intro h
  exact Int.ediv_eq_zero_of_lt h0 (by omega)
section
variable {p:Pr} {s:Ps} {hs hs':List Hd} {rs rs':List Bool}
theorem vD:iJ p s hs rs=true↔(∀j,j<p.I.length→tB p s hs j=true)∧∀j,j<p.Pc.length→tC p s hs rs j=true:=by
 unfold iJ
 rw[Pg,bg,bg]
theorem yy (h:iJ p s hs rs=true):bm p s hs rs=⟨true,dY p s (bW p s hs),tab (Fx p s hs) p.I.length,tab (DN p s hs) p.Pc.length⟩:=Pn h
theorem HY (h:iJ p s hs rs=true) {j:Nat} (hj:j<p.I.length) (Uh:(bm p s hs rs).pops.getD j false=true):(hs.getD j cQ).has=true:=by
 rw[yy h]at Uh
 simp only at Uh
 rw[aN hj]at Uh
 have hh:=(vD.1 h).1 j hj
 unfold tB at hh
 unfold Fx at Uh
 rw[Uh]at hh
 simpa using hh
theorem FH (h:iJ p s hs rs=true) {j:Nat} (hj:j<p.Pc.length) (Tb:((bm p s hs rs).Pc.getD j cQ).has=true):rs.getD j false=true:=by
 rw[yy h]at Tb
 simp only at Tb
 rw[aN hj]at Tb
 have hh:=(vD.1 h).2 j hj
 unfold tC at hh
 unfold DN at Tb
 split at Tb
 ·rename_i hd;rw[hd]at hh;simpa using hh
 ·cases Tb
end
section
variable {c:Ci} {s:Ns} {w w':Nat→Bool}
theorem BX (hc:bQ c) {p:Nat} (hp:p<c.U.length) {f:Fi} (n:Nat):∀{k:Nat},k≤(aZ c p).Pc.length→((uj (aZ c p) f k).filter (fun e=>e.1==n)).length≤1
 | 0,_=>by simp[uj]
 | k+1,hk=>by
  have ih:=BX hc hp (f:=f) n (k:=k) (by omega)
  rw[uj,List.filter_append,PG]
  by_cases h1:(f.Pc.getD k cQ).has=true
  ·rw[Pn h1]
   by_cases e:r9 (aZ c p) k=n
   ·have h0:(uj (aZ c p) f k).filter (fun e=>e.1==n)=[]:=by
     rw[List.filter_eq_nil_iff]
     intro z hz hzn
     obtain⟨j,g1,g2,g3,g4⟩:=pC hz
     have h5:z.1=n:=by simpa using hzn
     have:=hc.pd p hp j k (by omega) (by omega) (by rw[g3,e,h5])
     omega
    rw[h0]
    simp only[PP,PX]
    exact PZ (List.length_filter_le _ _) (by simp)
   ·rw[List.filter_cons_of_neg (by simpa using e),List.filter_nil];exact ih
  ·rw[Pj h1];exact ih
theorem tG (hc:bQ c) {p:Nat} (n:Nat):(wS c s p n).length≤1:=by
 by_cases hp:p<c.U.length
 ·unfold wS;rw[Py];exact BX hc hp n (Pl _)
 ·rw[pD hp];simp
theorem yz {p n:Nat} {v:Int} (h:v∈wS c s p n):∃j,j<(aZ c p).Pc.length∧((aD c s p).Pc.getD j cQ).has=true∧r9 (aZ c p) j=n∧((aD c s p).Pc.getD j cQ).v=v:=by
 unfold wS at h
 rw[List.mem_map]at h
 obtain⟨e,he,rfl⟩:=h
 rw[Rd]at he
 obtain⟨j,h1,h2,h3,h4⟩:=pC he.1
 exact⟨j,h1,h2,by rw[h3];simpa using he.2,h4⟩
theorem BZ {p n:Nat} {v:Int} (h:v∈wS c s p n):p<c.U.length:=by
 by_cases hp:p<c.U.length
 ·exact hp
 ·rw[pD hp]at h;cases h
theorem vE {p n:Nat} (h:kt c s p n=true):∃j,j<(aZ c p).I.length∧(aD c s p).pops.getD j false=true∧vz (aZ c p) j=n:=by
 unfold kt at h
 exact sa (Qt h)
theorem DT {p n:Nat} (Wk:yq c s p=true) (h:kt c s p n=true):0<(k9 s n).length:=by
 obtain⟨j,h1,h2,rfl⟩:=vE h
 rw[FA]at Wk
 have:=HY Wk h1 h2
 rw[cR,aN h1]at this
 unfold iO at this
 split at this
 ·assumption
 ·cases this
theorem vG {p:Nat} (h:bz c s w p=true):w p=true∧yq c s p=true:=by
 unfold bz at h;simpa using h
theorem pH (c:Ci) (s:Ns) (w:Nat→Bool) {n:Nat} (hn:n<c.J.length):k9 (cT c s w) n=iR c s w n:=by
 show(tab _ _).getD n []=_
 rw[aN hn]
theorem yA (c:Ci) (s:Ns) (w:Nat→Bool) {p:Nat} (hp:p<c.U.length):nz (cT c s w) p=dc c s w p:=by
 show(tab _ _).getD p a8=_
 rw[aN hp]
theorem FI {α:Type} {a b:List α} {i:Nat} {d:α}:(a++b).getD i d=if i<a.length then a.getD i d else b.getD (i-a.length) d:=by
 simp only[List.getD,List.getElem?_append]
 split<;>rfl
theorem DU {α:Type} {a:List α} {k i:Nat} {d:α}:(a.drop k).getD i d=a.getD (k+i) d:=by
 simp only[List.getD,Qv]
theorem vH {α:Type} {l:List α} {i:Nat} {d:α} (h:i<l.length):l.getD i d∈l:=by
 simp[List.getD,Ph h]
theorem FJ (hc:bQ c) (hs:dn c s) (w:Nat→Bool):dn c (cT c s w) where
 pl:=by rw[cT];exact aC _ _
 cl:=by rw[cT];exact aC _ _
 pv:=fun p hp=>by
  rw[yA c s w hp]
  unfold dc
  split
  ·exact uC (hc.pr p hp) (hs.pv p hp) (tD hc hs hp)
  ·exact hs.pv p hp
 cv:=fun n hn i hi=>by
  rw[pH c s w hn]at hi ⊢
  unfold iR at hi ⊢
  rw[FI]
  split
  ·rename_i h
   rw[DU]
   rw[PQ]at h
   exact hs.cv n hn _ (by omega)
  ·rename_i h
   rw[PG]at hi
   have hm:=vH (d:=(0:Int)) (show i-((k9 s n).drop (iQ c s w n)).length<(gU c s w n).length by omega)
   generalize (gU c s w n).getD _ 0=v at hm
   unfold gU at hm
   split at hm
   ·have RF:=BZ hm
    obtain⟨j,h1,h2,h3,h4⟩:=yz hm
    have:=wR (rs:=db c s (nA c n)) (hc.pr _ RF) (hs.pv _ RF) (tD hc hs RF) h1 h2
    rw[← (hc.pt _ RF j h1).2.2.1,h3]at this
    rw[← h4];exact this
   ·cases hm
 cc:=fun n hn hf hd=>by
  rw[pH c s w hn]
  unfold iR
  rw[PG,PQ]
  have h0:=hs.cc n hn hf hd
  unfold gU
  split
  ·rename_i hfi
   have h1:=tG (s:=s) hc (p:=nA c n) n
   by_cases h2:wS c s (nA c n) n=[]
   ·rw[h2];simp only[PP];omega
   ·obtain⟨v,hv⟩:=List.exists_mem_of_ne_nil _ h2
    have RF:=BZ hv
    obtain⟨j,h1',WI,h3,h4⟩:=yz hv
    have Wk:=(vG hfi).2
    rw[FA]at Wk
    have hr:=FH Wk h1' WI
    rw[db,aN h1']at hr
    unfold gy at hr
    rw[h3]at hr
    simp only[PS,P5]at hr
    omega
  ·simp only[PP];omega
theorem FK {p:Nat} (h:bz c s w p=false):dc c s w p=nz s p:=by
 unfold dc;rw[Pj (by rw[h];simp)]
theorem FL {p:Nat} (hs:c.U.length≤p):kt c s p=fun _=>false:=by
 funext n
 cases h:kt c s p n
 ·rfl
 ·exfalso
  obtain⟨j,h1,_⟩:=vE h
  have e:aZ c p=ac:=by rw[aZ,List.getD,P2 (by omega)];rfl
  rw[e]at h1
  exact Qy _ h1
theorem FM (hs:dn c s) (h:∀p,p<c.U.length→bz c s w p=false):cT c s w=s:=by
 have e1:(cT c s w).U=s.U:=by
  refine lL (d:=a8) (by rw[cT,aC,hs.pl]) (fun p hp=>?_)
  rw[cT,aC]at hp
  show nz (cT c s w) p=nz s p
  rw[yA c s w hp,FK (h p hp)]
 have e2:(cT c s w).J=s.J:=by
  refine lL (d:=[]) (by rw[cT,aC,hs.cl]) (fun n hn=>?_)
  rw[cT,aC]at hn
  show k9 (cT c s w) n=k9 s n
  rw[pH c s w hn,iR]
  have h1:iQ c s w n=0:=by
   rw[iQ]
   by_cases hd:rG c n<c.U.length
   ·rw[h _ hd];simp
   ·rw[Pj]
    rintro⟨_,h2⟩
    rw[FL (by omega)]at h2;cases h2
  have h2:gU c s w n=[]:=by
   rw[gU]
   by_cases hd:nA c n<c.U.length
   ·rw[h _ hd];simp
   ·split
    ·exact pD hd
    ·rfl
  rw[h1,h2];simp
 cases s;cases hq:cT c _ w
 rw[hq]at e1 e2
 simp only at e1 e2
 rw[e1,e2]
def FN (p:Nat):Nat→Bool:=fun q=>decide (q=p)
end
def dD (a b:Ps):Bool:=decide (a.Pe=b.Pe)&&decide (a.Pd=b.Pd)
theorem iW {a b:Ps}:dD a b=true↔a=b:=by
 cases a;cases b;simp[dD]
theorem dC {α:Type} {a b:List α} {d:α} {k:Nat} (hl:a.length=b.length) (hk:¬k<a.length) (h:∀j,j<k→a.getD j d=b.getD j d):a=b :=
 lL (d:=d) hl (fun i hi=>h i (by omega))
theorem kw {a b:Ps} (h:¬a.Pe=b.Pe):dD a b=false:=QR.2 (fun e=>h (by rw[iW.1 e]))
theorem kx {a b:Ps} (h:¬a.Pd.length=b.Pd.length):dD a b=false:=QR.2 (fun e=>h (by rw[iW.1 e]))
theorem ky {a b:Ps} {i:Nat} (h:¬a.Pd.getD i []=b.Pd.getD i []):dD a b=false:=QR.2 (fun e=>h (by rw[iW.1 e]))
theorem kA {a b:Ps} (h1:a.Pe=b.Pe) (h2:a.Pd=b.Pd):dD a b=true:=iW.2 (by cases a;cases b;simp_all)
theorem aY {α:Type} {f:Nat→α} {x:α} {enc:α→List V} {i:Nat} (h:i<137438953472) (hx:x=f i):(tab f i).length+([x].map enc).length≤137438953472∧(tab f i).map enc++[x].map enc=(tab f (i+1)).map enc:=by
 subst hx;exact pG h
section
variable {c:Sc} {p:Pr} {s:Ps} {hs:List Hd} {rs:List Bool} {d:List Int} {i:Nat}
theorem FO (ho:uz c p s d) {e:Ex} {v:Int} (ht:dQ c e=some v) (h1:¬e.op=16) (h2:¬e.op=17) (h3:¬e.op=18):jc e.op (fw p s d e.args) e.k.n e.w.n=true∧DD (fw p s d e.args) (jd p s d e.args)=true:=by
 obtain⟨ws,hws,hc⟩:=fv ht
 obtain⟨hl,RT⟩:=kq hws
 have hargs:∀i,i<e.args.length→(bH p s d (e.args.getD i dE)).2=ws.getD i 0∧cI (bH p s d (e.args.getD i dE)).1 (ws.getD i 0)∧aI (ws.getD i 0)=true:=fun i hi=>Fk ho _ _ _ (Pl _) (RT i hi)
 obtain⟨q1,q2,q3,q4⟩:=BJ (c:=c) hl hargs
 have e1:fw p s d e.args=ws:=by rw[← q1,fw,Rf];rfl
 have e2:jd p s d e.args=(e.args.map (bH p s d)).map (·.1):=by rw[jd,Rf];rfl
 rw[e1,e2]
 rcases hc with ⟨h,_⟩ | ⟨h,_⟩ | ⟨h,_⟩ | ⟨_,_,_,h,_⟩
 ·exact absurd h h1
 ·exact absurd h h3
 ·exact absurd h h2
 ·exact⟨h,q3⟩
theorem HZ (h1:ff p s (nR p) (ny p i).when=true) (h2:(hs.getD i cQ).has=true):DM p s hs i=(hs.getD i cQ).v:=Pn ⟨h1,h2⟩
theorem B1 (h1:¬ff p s (nR p) (ny p i).when=true):DM p s hs i=(nR p).getD i 0:=by rw[FG];exact Pj (fun h=>h1 h.1)
theorem B2 (h1:¬(hs.getD i cQ).has=true):DM p s hs i=(nR p).getD i 0:=by rw[FG];exact Pj (fun h=>h1 h.2)
theorem FP (h:ff p s d (eh p i).enable=true):(s.Pd.getD i []).set (Int.tmod (bH p s d (eh p i).addr).1 (eh p i).words).toNat (bH p s d (eh p i).data).1=zA p s d i:=(Pn h).symm
theorem Jm (h:¬ff p s d (eh p i).enable=true):s.Pd.getD i []=zA p s d i:=(Pj h).symm
theorem H0 (hp:hT p) (hs:lM p s) (hd:DP p d) (hi:i<p.Pd.length):0≤Int.tmod (bH p s d (eh p i).addr).1 (eh p i).words∧Int.tmod (bH p s d (eh p i).addr).1 (eh p i).words<(s.Pd.getD i []).length∧(eh p i).words≠0:=by
 have h:=hp.mw i hi
 obtain⟨v,hv⟩:=h.2.2.2.1.1
 have h0:=(wQ (iL hp hs hd) hv h.2.2.2.1.2).2.1.1
 have hm:=hs.mn i hi
 rw[hm]
 exact⟨Int.tmod_nonneg _ h0,Int.tmod_lt_of_pos _ (by omega),by omega⟩
theorem Am {b:Bool} (h:b=dh (tB p s hs) i) (x:Bool) (hx:x=(b&&tB p s hs i)):x=dh (tB p s hs) (i+1):=by rw[hx,h];rfl
theorem An {a b:Bool} (h:b=(a&&dh (tC p s hs rs) i)) (x:Bool) (hx:x=(b&&tC p s hs rs i)):x=(a&&dh (tC p s hs rs) (i+1)):=by rw[hx,h,dh,Bool.and_assoc]
end
def cC (f:Nat→Bool):Nat→Int
 | 0=>-1
 | n+1=>if dh (fun i=>!f i) n=true then (if f n=true then n else -1)else cC f n
theorem dZ {f:Nat→Bool} {i:Nat} (hf:f i=true) (h:∀z,z<i→f z=false):∀{n:Nat},i<n→cC f n=i
 | 0,h0=>absurd h0 (Qy _)
 | n+1,h0=>by
  rw[cC]
  by_cases e:i=n
  ·subst e
   rw[Pn (bg.2 (fun z hz=>by rw[h z hz];rfl)),Pn hf]
  ·rw[Pj (by rw[dR (show i<n by omega) (by simp[hf])];simp),dZ hf h (by omega)]
theorem fX {f:Nat→Bool}:∀{n:Nat},(∀z,z<n→f z=false)→cC f n=-1
 | 0,_=>rfl
 | n+1,h=>by
  rw[cC,Pn (bg.2 (fun z hz=>by rw[h z (by omega)];rfl)),Pj (by rw[h n (by omega)];simp)]
theorem kB {f:Nat→Bool}:∀{n:Nat},decide (0≤cC f n)=!(dh (fun i=>!f i) n)
 | 0=>rfl
 | n+1=>by
  rw[cC]
  split
  ·rename_i h1
   rw[dh,h1]
   split
   ·rename_i h2;simp[h2]
   ·rename_i h2;simp[h2]
  ·rename_i h1
   rw[kB,dh]
   simp only[Ra]at h1
   rw[h1];rfl
section
variable {c:Ci} {s:Ns}
theorem qA (h:¬s.U.length=c.U.length):b6 c s=false:=by unfold b6;rw[Pv h];rfl
theorem qB (h:¬s.J.length=c.J.length):b6 c s=false:=by unfold b6;rw[Pv h,Qd];rfl
theorem qC {i:Nat} (hi:i<c.U.length) (h:bK (aZ c i) (nz s i)=false):b6 c s=false:=by unfold b6;rw[dR hi h,Qd];rfl
theorem gO {n:Nat} (hn:n<c.J.length) (h:iM c s n=false):b6 c s=false:=by unfold b6;rw[dR hn h,Qd]
theorem qD (h1:s.U.length=c.U.length) (h2:s.J.length=c.J.length) (h3:∀i,i<c.U.length→bK (aZ c i) (nz s i)=true) (h4:∀n,n<c.J.length→iM c s n=true):b6 c s=true:=by
 unfold b6
 rw[Pq h1,Pq h2,bg.2 h3,bg.2 h4];rfl
end
theorem jM {c:Ci} {s:Ns} {n:Nat} (h:¬fx (k9 s n) (eK c n).w=true):iM c s n=false:=by
 simp only[Ra]at h
 unfold iM;rw[h,Rr]
theorem jN {c:Ci} {s:Ns} {n:Nat} (h0:0≤(eK c n).frm) (h1:0≤(eK c n).dst) (h:¬((k9 s n).length:Int)≤(eK c n).cap):iM c s n=false:=by
 unfold iM;rw[Pq h0,Pq h1,Pv h];simp
theorem Ao {c:Ci} {s:Ns} {n:Nat} (h:fx (k9 s n) (eK c n).w=true) (h0:¬0≤(eK c n).frm):iM c s n=true:=by
 unfold iM;rw[h,Pv h0];rfl
theorem Ap {c:Ci} {s:Ns} {n:Nat} (h:fx (k9 s n) (eK c n).w=true) (h0:¬0≤(eK c n).dst):iM c s n=true:=by
 unfold iM;rw[h,Pv h0,Qd];rfl
theorem Aq {c:Ci} {s:Ns} {n:Nat} (h:fx (k9 s n) (eK c n).w=true) (h0:((k9 s n).length:Int)≤(eK c n).cap):iM c s n=true:=by
 unfold iM;rw[h,Pq h0,Bool.or_true];rfl
def d4 (c:Ci):Ns:=⟨tab (fun i=>bx (aZ c i)) c.U.length,List.replicate c.J.length []⟩
theorem FQ {c:Ci} {s:Ns} {p m:Nat} (h:(eK c (r9 (aZ c p) m)).dst=-1):gy c s p m=true:=by unfold gy;rw[Pq h];rfl
theorem w3 {c:Ci} {s:Ns} {p m:Nat} (h:¬(eK c (r9 (aZ c p) m)).dst=-1):gy c s p m=decide (((k9 s (r9 (aZ c p) m)).length:Int)<(eK c (r9 (aZ c p) m)).cap):=by unfold gy;rw[Pv h];rfl
def rH (s:Ns) (k:Nat):Prop:=∀n,(k9 s n).length≤k
theorem im {sz:Nat} {α:Type} {enc:α→List V} {d:α}:cA .nils (.v (.sl sz enc d [])):=by
  intro S μ w u hu
  cases hu
  exact .v _ _ (.nil _ _ _ _ _ (by simp[maxLen]) (fun _=>rfl))
theorem yB {ag:Bool} {α:Type} {enc:α→List V} {d:α}:cA (.v .nmp) (.v (.sm ag enc d [])):=by
  intro S μ w u hu
  cases hu with
  | v _ _ h=>cases h;exact .v _ _ (.smn _ _ _)
theorem FR:cA (.agg [.v (.str e0),.v (.str e0),.nils,.nils,.nils,.nils,.nils,.nils,.v .nmp,.v .nmp]) (fF true (lN bt)) :=
  FF ⟨BV _,BV _,im,im,im,im,im,im,yB,yB,trivial⟩
def gV (o:Ci) (s:Ns) (k:ByteArray):ri:=ai bt (bv o s o.U.length) k
def FS (f:ri) (p:Pr):Ps:=⟨tab (fun i=>eI f (p.Pe.getD i aK)) p.Pe.length,tab (fun i=>fG f (p.Pd.getD i aA)) p.Pd.length⟩
def eu (o n:Ci) (s:Ns) (i:Nat):Ps:=FS (gV o s (iT n i)) (n.U.getD i ac)
def Ej (l:List ByteArray) (k:ByteArray):Bool:=l.any fun x=>decide (x=k)
def LW (l:List ByteArray) (b:ByteArray):Int:=cC (fun i=>b.toList==(l.getD i .empty).toList) l.length
theorem B3 (l:List ByteArray) (b:ByteArray):decide (LW l b≥0)=Ej l b:=by
  show decide (0≤cC _ _)=_
  rw[kB]
  unfold Ej
  cases h:l.any fun x=>decide (x=b)
  · rw[bg.2 (fun i hi=>?_)];· rfl
    rw[List.any_eq_false]at h
    have:=h (l.getD i .empty) (by rw[bk _ _ hi];exact QX hi)
    have Sm:¬(l.getD i .empty=b):=by simpa using this
    have:(b.toList==(l.getD i .empty).toList)=false:=beq_eq_false_iff_ne.2 (fun e=>Sm (toList_inj e).symm)
    rw[this];rfl
  · rw[QV]at h
    obtain⟨x,hx,hb⟩:=h
    have hb:x=b:=by simpa using hb
    obtain⟨i,hi,e⟩:=QK hx
    rw[dR (i:=i) hi (by rw[bk _ _ hi,e,hb];simp)];rfl
def eZ (o n:Ci):List ByteArray:=bc o n o.J.length
def FT (o n:Ci) (i:Nat):Bool:=aX (kv o) (bq n i)&&!Ej (eZ o n) (bq n i)
def cS (o n:Ci) (s:Ns) (i:Nat):List Int:=if FT o n i=true then s.J.getD (ai 0 (kv o) (bq n i)).toNat []else []
def gg (o n:Ci) (s:Ns) (k:Nat):Bool:=decide (0<(s.J.getD (ai 0 (kv o) ((eZ o n).getD k .empty)).toNat []).length)
def cg (o n:Ci) (s:Ns) (i:Nat):Bool:=decide (0<(n.J.getD i aF).cap)&&decide ((n.J.getD i aF).cap<((cS o n s i).length:Int))
def ae (o n:Ci) (s:Ns):Ns×Int:=if (List.range (eZ o n).length).any (gg o n s)||(List.range n.J.length).any (cg o n s)then (⟨[],[]⟩,150)else (⟨tab (eu o n s) n.U.length,tab (cS o n s) n.J.length⟩,0)
theorem Ar {o n:Ci} {s:Ns} {k:Nat} (hk:k<(eZ o n).length) (h:gg o n s k=true):ae o n s=(⟨[],[]⟩,150):=by
  unfold ae
  rw[show(List.range (eZ o n).length).any (gg o n s)=true from QV.2 ⟨k,P1.2 hk,h⟩];rfl
theorem oP {o n:Ci} {s:Ns} {i:Nat} (hi:i<n.J.length) (h:cg o n s i=true):ae o n s=(⟨[],[]⟩,150):=by
  unfold ae
  rw[show(List.range n.J.length).any (cg o n s)=true from QV.2 ⟨i,P1.2 hi,h⟩,Bool.or_true];rfl
theorem FU {o n:Ci} {s:Ns} (h1:∀k,k<(eZ o n).length→gg o n s k=false) (h2:∀i,i<n.J.length→cg o n s i=false):ae o n s=(⟨tab (eu o n s) n.U.length,tab (cS o n s) n.J.length⟩,0):=by
  have e1:(List.range (eZ o n).length).any (gg o n s)=false:=by
    rw[List.any_eq_false];intro k hk;rw[h1 k (P1.1 hk)];simp
  have e2:(List.range n.J.length).any (cg o n s)=false:=by
    rw[List.any_eq_false];intro k hk;rw[h2 k (P1.1 hk)];simp
  unfold ae
  rw[e1,e2];rfl
theorem Au {o:Ci} {s:Ns} {k:ByteArray}:∀(n:Nat),ai bt (bv o s n) k=bt∨∃i,i<n∧ai bt (bv o s n) k=ex o s i
  | 0=>.inl rfl
  | n+1=>by
    rw[bv,eO]
    by_cases h:k=iT o n
    · rw[Pn h];exact .inr ⟨n,by omega,rfl⟩
    · rw[Pj h]
      rcases Au (o:=o) (s:=s) (k:=k) n with h1 | ⟨i,h1,h2⟩
      · exact .inl h1
      · exact .inr ⟨i,by omega,h2⟩
theorem FV {o:Ci} {s:Ns} (hs:∀i,i<o.U.length→(s.U.getD i a8).Pe.length=(o.U.getD i ac).Pe.length) (k q:ByteArray) (h:aX (gV o s k).Pe q=true):0≤ai 0 (gV o s k).Pe q∧ai 0 (gV o s k).Pe q<(gV o s k).p.Pe.length∧ai 0 (gV o s k).Pe q<(gV o s k).s.Pe.length:=by
  unfold gV at h ⊢
  rcases Au (o:=o) (s:=s) (k:=k) o.U.length with h1 | ⟨i,h1,h2⟩
  · rw[h1]at h;cases h
  · rw[h2]at h ⊢
    have:=vA _ h
    have hl:=hs i h1
    exact⟨this.1,this.2,by show _<((s.U.getD i a8).Pe.length:Int);rw[hl];exact this.2⟩
theorem FW {o:Ci} {s:Ns} (hs:∀i,i<o.U.length→(s.U.getD i a8).Pd.length=(o.U.getD i ac).Pd.length) (k q:ByteArray) (h:aX (gV o s k).Pd q=true):0≤ai 0 (gV o s k).Pd q∧ai 0 (gV o s k).Pd q<(gV o s k).p.Pd.length∧ai 0 (gV o s k).Pd q<(gV o s k).s.Pd.length:=by
  unfold gV at h ⊢
  rcases Au (o:=o) (s:=s) (k:=k) o.U.length with h1 | ⟨i,h1,h2⟩
  · rw[h1]at h;cases h
  · rw[h2]at h ⊢
    have:=vA _ h
    have hl:=hs i h1
    exact⟨this.1,this.2,by show _<((s.U.getD i a8).Pd.length:Int);rw[hl];exact this.2⟩
theorem Jn {f:Nat→ByteArray} {k:ByteArray}:∀(n:Nat),0<n→0≤ai 0 (b9 [] f n) k∧ai 0 (b9 [] f n) k<(n:Int)
  | 0,h=>by omega
  | n+1,_=>by
    rw[b9,eO]
    by_cases hk:k=f n
    · rw[Pn hk];omega
    · rw[Pj hk]
      rcases Nat.eq_zero_or_pos n with h0 | h0
      · subst h0;rw[b9,ai];omega
      · have:=Jn (f:=f) (k:=k) n h0;omega
theorem FX (o n:Ci):(eZ o n).length≤o.J.length:=pE o n _
structure lP (o n:Ci) (s:Ns):Prop where
  ol:o.J.length≤1000000
  nl:n.J.length≤1000000
  op:o.U.length≤1000000
  np:n.U.length≤1000000
  sl:s.U.length=o.U.length
  sc:s.J.length=o.J.length
  sr:∀i,i<o.U.length→(s.U.getD i a8).Pe.length=(o.U.getD i ac).Pe.length
  sm:∀i,i<o.U.length→(s.U.getD i a8).Pd.length=(o.U.getD i ac).Pd.length
  orr:∀i,i<o.U.length→(o.U.getD i ac).Pe.length≤1000000∧(o.U.getD i ac).Pd.length≤1000000
  nr:∀i,i<n.U.length→(n.U.getD i ac).Pe.length≤1000000∧(n.U.getD i ac).Pd.length≤1000000
  rk:∀i,i<n.U.length→∀j,j<(n.U.getD i ac).Pe.length→0≤((n.U.getD i ac).Pe.getD j aK).rule.kind∧((n.U.getD i ac).Pe.getD j aK).rule.kind≤3
  mk':∀i,i<n.U.length→∀j,j<(n.U.getD i ac).Pd.length→(0≤((n.U.getD i ac).Pd.getD j aA).rule.kind∧((n.U.getD i ac).Pd.getD j aA).rule.kind≤3)∧0≤((n.U.getD i ac).Pd.getD j aA).words∧((n.U.getD i ac).Pd.getD j aA).words≤1000000
  sw:∀i,(s.J.getD i []).length≤1000000
def e7 (r q:Rg):Bool:=(q.name.toList==r.name.toList)&&(decide (q.w=r.w)&&decide (q.rule.kind=1))
def ew (r q:Mm):Bool:=(q.name.toList==r.name.toList)&&(decide (q.w=r.w)&&(decide (q.words=r.words)&&decide (q.rule.kind=1)))
def H2 (l:List Rg) (r:Rg):Bool:=!(dh (fun i=>!e7 r (l.getD i aK)) l.length)
def H3 (l:List Mm) (r:Mm):Bool:=!(dh (fun i=>!ew r (l.getD i aA)) l.length)
def jn (p q:Pr):Bool:=dh (fun i=>H2 q.Pe (p.Pe.getD i aK)) p.Pe.length&&dh (fun i=>H3 q.Pd (p.Pd.getD i aA)) p.Pd.length
theorem qE {p q:Pr} {i:Nat} (hi:i<p.Pe.length) (h:H2 q.Pe (p.Pe.getD i aK)=false):jn p q=false:=by unfold jn;rw[dR hi h];rfl
theorem qF {p q:Pr} {i:Nat} (hi:i<p.Pd.length) (h:H3 q.Pd (p.Pd.getD i aA)=false):jn p q=false:=by unfold jn;rw[dR hi h,Qd]
theorem qG {p q:Pr} (h1:∀i,i<p.Pe.length→H2 q.Pe (p.Pe.getD i aK)=true) (h2:∀i,i<p.Pd.length→H3 q.Pd (p.Pd.getD i aA)=true):jn p q=true:=by unfold jn;rw[bg.2 h1,bg.2 h2];rfl
def jo (c:Ci) (k:ByteArray):Nat→Pr
 | 0=>ac
 | j+1=>if (iT c j).toList==k.toList then c.U.getD j ac else jo c k j
theorem yC {c:Ci} {k:ByteArray} {j:Nat} (h:((iT c j).toList==k.toList)=true):jo c k (j+1)=c.U.getD j ac:=by rw[jo,Pn h]
theorem B4 {c:Ci} {k:ByteArray} {j:Nat} (h:((iT c j).toList==k.toList)=false):jo c k j=jo c k (j+1):=by rw[jo,Pj (by rw[h];exact Bool.false_ne_true)]
def tH (x:Ch):Int:=if x.cap=0 then 8 else x.cap
theorem kC {x:Ch} (h:x.cap=0):tH x=8:=by rw[tH,Pn h]
theorem kD {x:Ch} (h:¬x.cap=0):tH x=x.cap:=by rw[tH,Pj h]
def vI (o n:Ci) (i:Nat):Int:=(n.J.getD (ai 0 (kv n) (bq o i)).toNat aF).cap
def nW (o n:Ci) (i:Nat):Bool:=!(decide (0<vI o n i)&&decide (vI o n i<tH (o.J.getD i aF)))
def kY (o n:Ci) (i:Nat):Bool:=jn (o.U.getD i ac) (jo n (iT o i) n.U.length)
def de (o n:Ci):Bool:=(bc o n o.J.length).isEmpty&&(dh (nW o n) o.J.length&&dh (kY o n) o.U.length)
theorem jO {o n:Ci} (h:0<(bc o n o.J.length).length):de o n=false:=by
 unfold de;cases hm:bc o n o.J.length with
 | nil=>rw[hm]at h;simp at h
 | cons a l=>rfl
theorem jP {o n:Ci} {i:Nat} (hi:i<o.J.length) (h1:0<vI o n i) (h2:vI o n i<tH (o.J.getD i aF)):de o n=false:=by
 unfold de;rw[dR hi (show nW o n i=false by unfold nW;rw[Pq h1,Pq h2];rfl),Rr,Qd]
theorem io {o n:Ci} {i:Nat} (hi:i<o.U.length) (h:kY o n i=false):de o n=false:=by
 unfold de;rw[dR hi h,Qd,Qd]
theorem jQ {o n:Ci} (h1:¬0<(bc o n o.J.length).length) (h2:∀i,i<o.J.length→nW o n i=true) (h3:∀i,i<o.U.length→kY o n i=true):de o n=true:=by
 have e:bc o n o.J.length=[]:=PL (by omega)
 unfold de;rw[e,bg.2 h2,bg.2 h3];rfl
theorem w4 {o n:Ci} {i:Nat} (h:¬0<vI o n i):nW o n i=true:=by unfold nW;rw[Pv h];rfl
theorem w5 {o n:Ci} {i:Nat} (h:¬vI o n i<tH (o.J.getD i aF)):nW o n i=true:=by unfold nW;rw[Pv h,Qd];rfl
theorem vJ {o n:Ci}:∀{k:Nat},bc o n k=[]→∀i,i<k→iU o n i=false
 | 0,_,i,hi=>by omega
 | k+1,h,i,hi=>by
  rw[bc]at h
  have h':=List.append_eq_nil_iff.1 h
  rcases Nat.lt_or_ge i k with hk | hk
  ·exact vJ h'.1 i hk
  ·have:i=k:=by omega
   subst this
   cases hp:iU o n i
   ·rfl
   ·rw[hp]at h';simp at h'
theorem DV {o n:Ci} {i:Nat} (h:iU o n i=false):aX (kv n) (bq o i)=true∧(n.J.getD (ai 0 (kv n) (bq o i)).toNat aF).w=(o.J.getD i aF).w:=by
 unfold iU at h
 rw[Bool.or_eq_false_iff]at h
 simpa using h
theorem FY {o n:Ci} (h:¬(((bc o n o.J.length).length:Nat):Int)>0) {k:Nat} (hk:k<o.J.length):0≤ai 0 (b9 [] (bq n) n.J.length) (o.J.getD k aF).name∧ai 0 (b9 [] (bq n) n.J.length) (o.J.getD k aF).name<(n.J.length:Int) :=
 vA (f:=bq n) n.J.length (DV (vJ (PL (by omega)) k hk)).1
def FZ (p:Pr):Prop:=p.Pe.length≤1000000∧p.Pd.length≤1000000
theorem B5 {c:Ci} {k:ByteArray} (h:∀j,j<c.U.length→FZ (c.U.getD j ac)):∀r,r≤c.U.length→FZ (jo c k r)
 | 0,_=>⟨by simp[jo],by simp[jo]⟩
 | r+1,hr=>by
  rw[jo]
  split
  ·exact h r (by omega)
  ·exact B5 h r (by omega)
def qH (c:Ci) (k:ByteArray):Int:=cC (fun i=>(c.J.getD i aF).name.toList==k.toList) c.J.length
def Av (o n:Ci) (i:Nat):Bool:=decide (qH n (bq o i)<0)||!decide ((n.J.getD (qH n (bq o i)).toNat aF).w=(o.J.getD i aF).w)
def Jo (o n:Ci):Nat→List ByteArray
 | 0=>[]
 | i+1=>Jo o n i++(if Av o n i=true then [bq o i]else [])
theorem Nd {o n:Ci} {i:Nat} (h:qH n (bq o i)<0):Av o n i=true:=by unfold Av;rw[Pq h];rfl
def DW (q:Pr) (k:ByteArray):Int:=cC (fun i=>(q.Pe.getD i aK).name.toList==k.toList) q.Pe.length
def Aw (q:Pr) (k:ByteArray):Int:=cC (fun i=>(q.Pd.getD i aA).name.toList==k.toList) q.Pd.length
def yD (c:Ci) (k:ByteArray):Int:=cC (fun i=>(c.U.getD i ac).name.toList==k.toList) c.U.length
end Go.Proofs.Ytnlmlkbaflmgcaa
