/- Parts of a proof. -/
import Derived.Test.YtnlmlkbaflmgcaaGreatQPrG
namespace Go.Proofs.YtnlmlkbaflmgcaaGreat
open Go.RowKit
set_option linter.unusedVariables false
set_option linter.unusedSimpArgs false
def tab {α:Type} (f:Nat→α) (n:Nat):List α:=(List.range n).map f
theorem wG {α:Type} (f:Nat→α) (n:Nat):tab f (n+1)=tab f n++[f n]:=by simp[tab,Wq]
theorem aJ {α:Type} (f:Nat→α) (n:Nat):(tab f n).length=n:=by simp[tab]
theorem aX {α:Type} {f:Nat→α} {n i:Nat} {d:α} (h:i<n):(tab f n).getD i d=f i:=by
 simp[tab,List.getD,Uq,h]
theorem oY {α:Type} {f:Nat→α} {n i:Nat} {d:α} (h:n≤i):(tab f n).getD i d=d:=by
 rw[List.getD,U1 (by rw[aJ];exact h)];rfl
theorem cH {α:Type} {f g:Nat→α} {n:Nat} (h:∀i,i<n→f i=g i):tab f n=tab g n:=by
 unfold tab
 exact Wb (fun a ha=>h a (Va.1 ha))
theorem Jf {α:Type} {l:List α} {d:α}:l=tab (fun i=>l.getD i d) l.length:=by
 apply Vt
 ·rw[aJ]
 ·intro i h1 h2;simp[tab,List.getD,Uq h1]
theorem k9 {α:Type} {a b:List α} {d:α} (hl:a.length=b.length) (h:∀i,i<a.length→a.getD i d=b.getD i d):a=b:=by
 apply Vt hl
 intro i h1 h2
 have:=h i h1
 simpa[List.getD,Uq h1,Uq h2]using this
theorem Fm {α β:Type} {l:List α} {d:α} (f:α→β):l.map f=tab (fun i=>f (l.getD i d)) l.length:=by
 apply Vt
 ·simp[aJ]
 ·intro i h1 h2;rw[UB]at h1;simp[tab,List.getD,Uq h1]
theorem LO {α:Type} {f:Nat→α} {l:List α} {k:Nat} (hk:k<l.length):(tab f k++l.drop k).set k (f k)=tab f (k+1)++l.drop (k+1):=by
 rw[List.set_append_right _ _ (by rw[aJ];omega),aJ,Nat.sub_self,wG,Vf]
 congr 1
 rw[V4 hk];rfl
theorem Jg {α:Type} {f:Nat→α} {l:List α} {k:Nat} (hk:l.length≤k):tab f k++l.drop k=tab f k:=by rw[List.drop_eq_nil_of_le hk,Vq]
theorem bM {α:Type} {l:List α} {i j:Nat} {x d:α} (h:i<l.length):(l.set i x).getD j d=if i=j then x else l.getD j d:=by
 simp only[List.getD,Wf]
 split
 ·rename_i e;subst e;simp[h]
 ·rfl
def cU (f:Nat→Bool):Nat→Bool
 | 0=>true
 | n+1=>cU f n&&f n
theorem bB {f:Nat→Bool}:∀{n:Nat},cU f n=true↔∀i,i<n→f i=true
 | 0=>⟨fun _ i hi=>absurd hi (VN _),fun _=>rfl⟩
 | n+1=>by
  rw[cU,Uo,bB]
  constructor
  ·rintro⟨h1,h2⟩ i hi
   rcases Nat.lt_or_ge i n with h | h
   ·exact h1 i h
   ·rw[show i=n by omega];exact h2
  ·intro h;exact⟨fun i hi=>h i (by omega),h n (by omega)⟩
theorem eV {f:Nat→Bool} {n i:Nat} (hi:i<n) (h:f i=false):cU f n=false:=by
 cases hh:cU f n
 ·rfl
 ·rw[bB.1 hh i hi]at h;cases h
def ew (p:Pr) (s:Ps) (data:List Int) (e:Ex):Bool:=decide ((be p s data e).1=1)
def i5 (p:Pr):List Int:=List.replicate p.I.length 0
abbrev jY (p:Pr) (i:Nat):Tk:=p.I.getD i bC
abbrev oZ (p:Pr) (i:Nat):Pt:=p.Uj.getD i bt
abbrev sd (p:Pr) (i:Nat):Rg:=p.Ul.getD i aI
abbrev fK (p:Pr) (i:Nat):Mm:=p.Uk.getD i ay
def nh (p:Pr) (s:Ps) (hs:List Hd) (i:Nat):Int:=if ew p s (i5 p) (jY p i).when=true∧(hs.getD i bu).has=true then (hs.getD i bu).v else 0
def b5 (p:Pr) (s:Ps) (hs:List Hd):List Int:=tab (nh p s hs) p.I.length
def qR (p:Pr) (s:Ps) (data:List Int) (i:Nat):List Int :=
 if ew p s data (fK p i).enable=true then (s.Uk.getD i []).set (Int.tmod (be p s data (fK p i).addr).1 (fK p i).Um).toNat (be p s data (fK p i).data).1 else s.Uk.getD i []
def cy (p:Pr) (s:Ps) (data:List Int):Ps:=⟨tab (fun i=>(be p s data (sd p i).next).1) p.Ul.length,tab (qR p s data) p.Uk.length⟩
def iM (p:Pr) (s:Ps) (hs:List Hd) (i:Nat):Bool:=(hs.getD i bu).has||!ew p s (b5 p s hs) (jY p i).when
def jZ (p:Pr) (s:Ps) (hs:List Hd) (rs:List Bool) (i:Nat):Bool:=rs.getD i false||!ew p s (b5 p s hs) (oZ p i).when
def gV (p:Pr) (s:Ps) (hs:List Hd) (rs:List Bool):Bool:=cU (iM p s hs) p.I.length&&cU (jZ p s hs rs) p.Uj.length
def nQ (p:Pr) (s:Ps) (hs:List Hd) (i:Nat):Bool:=ew p s (b5 p s hs) (jY p i).when
def nR (p:Pr) (s:Ps) (hs:List Hd) (i:Nat):Hd:=if ew p s (b5 p s hs) (oZ p i).when=true then ⟨true,(be p s (b5 p s hs) (oZ p i).data).1⟩else bu
def aY (p:Pr) (s:Ps) (hs:List Hd) (rs:List Bool):Fi :=
 if gV p s hs rs=true then ⟨true,cy p s (b5 p s hs),tab (nQ p s hs) p.I.length,tab (nR p s hs) p.Uj.length⟩
 else ⟨false,s,List.replicate p.I.length false,List.replicate p.Uj.length bu⟩
def b3 (p:Pr):Ps:=⟨p.Ul.map (·.init),p.Uk.map (fun m=>List.replicate m.Um.toNat 0)⟩
def f8 (v w:Int):Bool:=decide (0≤v)&&decide (v≤ai w)
theorem BE {v w:Int}:f8 v w=true↔dR v w:=by simp[f8,dR]
def jD (p:Pr) (s:Ps) (i:Nat):Bool:=decide (((s.Uk.getD i []).length:Int)=(fK p i).Um)&&cU (fun j=>f8 ((s.Uk.getD i []).getD j 0) (fK p i).w) (s.Uk.getD i []).length
def ck (p:Pr) (s:Ps):Bool:=decide (s.Ul.length=p.Ul.length)&&decide (s.Uk.length=p.Uk.length)&&cU (fun i=>f8 (s.Ul.getD i 0) (sd p i).w) s.Ul.length&&cU (jD p s) s.Uk.length
def o0 (p:Pr):Sc:=⟨p.Ul.map (·.w),p.Uk.map (·.w),p.I.map (·.w)⟩
def Oe (p:Pr):Sc:=⟨p.Ul.map (·.w),p.Uk.map (·.w),[]⟩
structure gm (p:Pr):Prop where
 rl:p.Ul.length≤100
 ml:p.Uk.length≤100
 tl:p.I.length≤100
 pl:p.Uj.length≤100
 rw:∀i,i<p.Ul.length→ax (sd p i).w=true∧dR (sd p i).init (sd p i).w∧eF (o0 p) (sd p i).next=some (sd p i).w∧fo (sd p i).next≤3
 mw:∀i,i<p.Uk.length→ax (fK p i).w=true∧(1≤(fK p i).Um∧(fK p i).Um≤4)∧(eF (o0 p) (fK p i).enable=some 1∧fo (fK p i).enable≤3)∧((∃v,eF (o0 p) (fK p i).addr=some v)∧fo (fK p i).addr≤3)∧eF (o0 p) (fK p i).data=some (fK p i).w∧fo (fK p i).data≤3
 tw:∀i,i<p.I.length→ax (jY p i).w=true∧eF (Oe p) (jY p i).when=some 1∧fo (jY p i).when≤3
 pw:∀i,i<p.Uj.length→ax (oZ p i).w=true∧(eF (o0 p) (oZ p i).when=some 1∧fo (oZ p i).when≤3)∧eF (o0 p) (oZ p i).data=some (oZ p i).w∧fo (oZ p i).data≤3
structure ni (p:Pr) (s:Ps):Prop where
 rl:s.Ul.length=p.Ul.length
 rv:∀i,i<p.Ul.length→dR (s.Ul.getD i 0) (sd p i).w
 ml:s.Uk.length=p.Uk.length
 mn:∀i,i<p.Uk.length→((s.Uk.getD i []).length:Int)=(fK p i).Um
 mv:∀i,i<p.Uk.length→∀j,j<(s.Uk.getD i []).length→dR ((s.Uk.getD i []).getD j 0) (fK p i).w
structure BF (p:Pr) (d:List Int):Prop where
 l:d.length=p.I.length
 v:∀i,i<p.I.length→dR (d.getD i 0) (jY p i).w
structure BG (p:Pr) (hs:List Hd):Prop where
 l:hs.length=p.I.length
 v:∀i,i<p.I.length→(hs.getD i bu).has=true→dR (hs.getD i bu).v (jY p i).w
theorem Hb {p:Pr} {s:Ps}:ck p s=true↔ni p s:=by
 unfold ck jD
 simp only[Uo,U8,bB,BE]
 constructor
 ·rintro⟨⟨⟨h1,h2⟩,h3⟩,h4⟩
  exact⟨h1,fun i hi=>h3 i (by omega),h2,fun i hi=>(h4 i (by omega)).1,fun i hi=>(h4 i (by omega)).2⟩
 ·intro h
  exact⟨⟨⟨h.rl,h.ml⟩,fun i hi=>h.rv i (by have:=h.rl;omega)⟩,fun i hi=>⟨h.mn i (by have:=h.ml;omega),h.mv i (by have:=h.ml;omega)⟩⟩
set_option maxHeartbeats 1600000 in
theorem iu {p:Pr} {s:Ps} {d:List Int} (hp:gm p) (hs:ni p s) (hd:BF p d):tG (o0 p) p s d where
 prl:=by simp[o0]
 prw:=fun i hi=>by
  have Xz:i<p.Ul.length:=by simpa[o0]using hi
  show(p.Ul.getD i aI).w=(p.Ul.map (·.w)).getD i 0
  rw[d5 (·.w) p.Ul i aI 0 Xz]
 pml:=by simp[o0]
 pmw:=fun i hi=>by
  have Xz:i<p.Uk.length:=by simpa[o0]using hi
  show(p.Uk.getD i ay).w=(p.Uk.map (·.w)).getD i 0
  rw[d5 (·.w) p.Uk i ay 0 Xz]
 ptl:=by simp[o0]
 ptw:=fun i hi=>by
  have Xz:i<p.I.length:=by simpa[o0]using hi
  show(p.I.getD i bC).w=(p.I.map (·.w)).getD i 0
  rw[d5 (·.w) p.I i bC 0 Xz]
 srl:=(hs.rl).trans (by simp[o0])
 srv:=fun i hi=>by
  have Xz:i<p.Ul.length:=by simpa[o0]using hi
  show dR _ ((p.Ul.map (·.w)).getD i 0)
  rw[d5 (·.w) p.Ul i aI 0 Xz]
  exact hs.rv i Xz
 sml:=(hs.ml).trans (by simp[o0])
 smn:=fun i hi=>by
  have Xz:i<p.Uk.length:=by simpa[o0]using hi
  have:=hs.mn i Xz
  have:=(hp.mw i Xz).2.1
  omega
 smv:=fun i hi j hj=>by
  have Xz:i<p.Uk.length:=by simpa[o0]using hi
  show dR _ ((p.Uk.map (·.w)).getD i 0)
  rw[d5 (·.w) p.Uk i ay 0 Xz]
  exact hs.mv i Xz j hj
 dl:=(hd.l).trans (by simp[o0])
 dv:=fun i hi=>by
  have Xz:i<p.I.length:=by simpa[o0]using hi
  show dR _ ((p.I.map (·.w)).getD i 0)
  rw[d5 (·.w) p.I i bC 0 Xz]
  exact hd.v i Xz
 rok:=fun i hi=>by
  have Xz:i<p.Ul.length:=by simpa[o0]using hi
  show ax ((p.Ul.map (·.w)).getD i 0)=true
  rw[d5 (·.w) p.Ul i aI 0 Xz]
  exact(hp.rw i Xz).1
 mok:=fun i hi=>by
  have Xz:i<p.Uk.length:=by simpa[o0]using hi
  show ax ((p.Uk.map (·.w)).getD i 0)=true
  rw[d5 (·.w) p.Uk i ay 0 Xz]
  exact(hp.mw i Xz).1
 tok:=fun i hi=>by
  have Xz:i<p.I.length:=by simpa[o0]using hi
  show ax ((p.I.map (·.w)).getD i 0)=true
  rw[d5 (·.w) p.I i bC 0 Xz]
  exact(hp.tw i Xz).1
theorem LP {c:Sc} {p:Pr} {s:Ps} (d d':List Int):∀(n:Nat) (e:Ex) (w:Int),fo e≤n→eF ⟨c.rw,c.mw,[]⟩ e=some w→eF c e=some w∧be p s d e=be p s d' e:=by
 intro n
 induction n with
 | zero=>intro e w hd;cases e with | mk op name k w args=>rw[fo]at hd;omega
 | succ n ih =>
  intro e w hd hty
  obtain⟨ws,hws,hc⟩:=gk hty
  obtain⟨hl,W7⟩:=l5 hws
  have hargs:∀i,i<e.args.length→eF c (e.args.getD i dE)=some (ws.getD i 0)∧be p s d (e.args.getD i dE)=be p s d' (e.args.getD i dE):=fun i hi=>ih _ _ (by have:=zM hi;omega) (W7 i hi)
  have hL:∀(l:List Ex) (ws:List Int),ws.length=l.length→(∀i,i<l.length→eF c (l.getD i dE)=some (ws.getD i 0))→eF.tyL c l=some ws:=by
   intro l
   induction l with
   | nil=>intro ws h _;cases ws with | nil=>rfl | cons a r=>cases h
   | cons a r ihr =>
    intro ws h hh
    cases ws with
    | nil=>cases h
    | cons w0 wr =>
     have h0:eF c a=some w0:=hh 0 (by simp)
     have h1:=ihr wr (by simpa using h) (fun i hi=>hh (i+1) (by simpa using hi))
     rw[eF.tyL,h0,h1]
  have ZN:e.args.map (be p s d)=e.args.map (be p s d'):=by
   apply Wb
   intro a ha
   obtain⟨i,hi,rfl⟩:=List.mem_iff_getElem.1 ha
   have:=(hargs i hi).2
   simpa[List.getD,Uq hi]using this
  have hws':=hL e.args ws hl (fun i hi=>(hargs i hi).1)
  refine⟨?_,?_⟩
  ·cases e with
   | mk op name k w0 args =>
    rw[eF,hws']
    simp only at hc ⊢
    rcases hc with ⟨h1,h2,h3,h4,rfl⟩ | ⟨h1,h2,h3,h4,rfl⟩ | ⟨h1,h2,h3,h4,rfl⟩ | ⟨h1,h2,h2',h3,rfl⟩
    ·rw[Uw h1,Uw ⟨h2,h3,h4⟩]
    ·exact absurd h4 (by simp;omega)
    ·rw[Ur (by omega),Ur (by omega),Uw h1,Uw ⟨h2,h3,h4⟩]
    ·rw[Ur h1,Ur h2',Ur h2,Uw h3]
  ·rw[lZ,lZ p s d',ZN]
   have h18:e.op≠18:=by
    rcases hc with ⟨h1,h2,h3,h4,rfl⟩ | ⟨h1,h2,h3,h4,rfl⟩ | ⟨h1,h2,h3,h4,rfl⟩ | ⟨h1,h2,h2',h3,rfl⟩
    ·omega
    ·exact absurd h4 (by simp;omega)
    ·omega
    ·exact h2'
   rw[Ur h18,Ur h18]
theorem ld {p:Pr} {s:Ps} (hp:gm p) {i:Nat} (hi:i<p.I.length) (d d':List Int):ew p s d (jY p i).when=ew p s d' (jY p i).when∧eF (o0 p) (jY p i).when=some 1:=by
 obtain⟨h1,h2,h3⟩:=hp.tw i hi
 have h:=LP (c:=o0 p) (p:=p) (s:=s) d d' 3 _ 1 h3 h2
 exact⟨by unfold ew;rw[h.2],h.1⟩
theorem qS {w:Int} (h:ax w=true):dR 0 w:=by
 have:=aQ.1 h
 exact⟨by omega,(aB (by omega) (by omega)).1⟩
theorem Nh {p:Pr} (hp:gm p):BF p (i5 p) where
 l:=by simp[i5]
 v:=fun i hi=>by
  have e:(i5 p).getD i 0=0:=by simp[i5,List.getD,VR];split<;>rfl
  rw[e];exact qS (hp.tw i hi).1
theorem wH {p:Pr} {s:Ps} {hs:List Hd} (hp:gm p) (hh:BG p hs):BF p (b5 p s hs) where
 l:=by rw[b5,aJ]
 v:=fun i hi=>by
  rw[b5,aX hi,nh]
  split
  ·rename_i h;exact hh.v i hi h.2
  ·exact qS (hp.tw i hi).1
theorem DA (p:Pr) (s:Ps) (hs:List Hd) (rs:List Bool):(aY p s hs rs).fires=gV p s hs rs:=by
 unfold aY;split<;>simp_all
theorem qk (p:Pr) (s:Ps) (hs:List Hd) (rs:List Bool):(aY p s hs rs).pops.length=p.I.length:=by
 unfold aY;split<;>simp[aJ]
theorem ql (p:Pr) (s:Ps) (hs:List Hd) (rs:List Bool):(aY p s hs rs).Uj.length=p.Uj.length:=by
 unfold aY;split<;>simp[aJ]
theorem zN {p:Pr} {s:Ps} {d:List Int} {e:Ex} {w:Int} (ho:tG (o0 p) p s d) (h:eF (o0 p) e=some w) (hd:fo e≤3):(be p s d e).2=w∧dR (be p s d e).1 w∧ax w=true:=I1 ho 3 e w hd h
theorem LQ {p:Pr} {s:Ps} {d:List Int} (hp:gm p) (hs:ni p s) (hd:BF p d):ni p (cy p s d) where
 rl:=by rw[cy];simp[aJ]
 rv:=fun i hi=>by
  rw[cy];simp only;rw[aX hi]
  have h:=hp.rw i hi
  exact(zN (iu hp hs hd) h.2.2.1 h.2.2.2).2.1
 ml:=by rw[cy];simp[aJ]
 mn:=fun i hi=>by
  rw[cy];simp only;rw[aX hi,qR]
  split
  ·rw[UQ];exact hs.mn i hi
  ·exact hs.mn i hi
 mv:=fun i hi j hj=>by
  rw[cy]at hj ⊢;simp only at hj ⊢;rw[aX hi,qR]at hj ⊢
  have h:=hp.mw i hi
  split at hj
  ·rename_i he
   rw[Uw he]
   rw[UQ]at hj
   by_cases hm:(Int.tmod (be p s d (fK p i).addr).1 (fK p i).Um).toNat<(s.Uk.getD i []).length
   ·rw[bM hm]
    split
    ·exact(zN (iu hp hs hd) h.2.2.2.2.1 h.2.2.2.2.2).2.1
    ·exact hs.mv i hi j hj
   ·rw[VO (by omega)]
    exact hs.mv i hi j hj
  ·rename_i he
   rw[Ur he]
   exact hs.mv i hi j hj
theorem xq {p:Pr} {s:Ps} {hs:List Hd} {rs:List Bool} (hp:gm p) (YD:ni p s) (hh:BG p hs):ni p (aY p s hs rs).s:=by
 unfold aY
 split
 ·exact LQ hp YD (wH hp hh)
 ·exact YD
theorem zO {p:Pr} {s:Ps} {hs:List Hd} {rs:List Bool} (hp:gm p) (YD:ni p s) (hh:BG p hs) {i:Nat} (hi:i<p.Uj.length) (Y7:((aY p s hs rs).Uj.getD i bu).has=true):dR ((aY p s hs rs).Uj.getD i bu).v (oZ p i).w:=by
 unfold aY at Y7 ⊢
 split
 ·rename_i hf
  rw[Uw hf]at Y7
  simp only at Y7 ⊢
  rw[aX hi]at Y7 ⊢
  unfold nR at Y7 ⊢
  split
  ·have h:=hp.pw i hi
   exact(zN (iu hp YD (wH hp hh)) h.2.2.1 h.2.2.2).2.1
  ·rename_i hn;rw[Ur hn]at Y7;cases Y7
 ·rename_i hf
  rw[Ur hf]at Y7
  simp[List.getD,VR,hi]at Y7
structure Ch where
 name:ByteArray
 w:Int
 cap:Int
 frm:Int
 dst:Int
abbrev aK:Ch:=⟨e0,0,0,0,0⟩
structure Ci where
 U:List Pr
 J:List Ch
structure Ns where
 U:List Ps
 J:List (List Int)
def ca (c:Ch):List V:=[.str c.name,.int .i64 c.w,.int .i64 c.cap,.int .i64 c.frm,.int .i64 c.dst]
abbrev Rz:Ci:=⟨[],[]⟩
abbrev a9 (c:Ci) (i:Nat):Pr:=c.U.getD i ac
abbrev fy (c:Ci) (n:Nat):Ch:=c.J.getD n aK
abbrev tK (s:Ns) (i:Nat):Ps:=s.U.getD i a7
abbrev na (s:Ns) (n:Nat):List Int:=s.J.getD n []
abbrev u6 (p:Pr) (j:Nat):Nat:=(jY p j).chan.toNat
abbrev uG (p:Pr) (j:Nat):Nat:=(oZ p j).chan.toNat
structure cr (c:Ci):Prop where
 n1:1≤c.U.length
 nl:c.U.length≤100
 cl:c.J.length≤100
 pr:∀i,i<c.U.length→gm (a9 c i)
 tk:∀i,i<c.U.length→∀j,j<(a9 c i).I.length→0≤(jY (a9 c i) j).chan∧(jY (a9 c i) j).chan<c.J.length∧(fy c (u6 (a9 c i) j)).w=(jY (a9 c i) j).w∧(fy c (u6 (a9 c i) j)).dst=i
 pt:∀i,i<c.U.length→∀j,j<(a9 c i).Uj.length→0≤(oZ (a9 c i) j).chan∧(oZ (a9 c i) j).chan<c.J.length∧(fy c (uG (a9 c i) j)).w=(oZ (a9 c i) j).w∧(fy c (uG (a9 c i) j)).frm=i
 td:∀i,i<c.U.length→∀j k,j<(a9 c i).I.length→k<(a9 c i).I.length→u6 (a9 c i) j=u6 (a9 c i) k→j=k
 pd:∀i,i<c.U.length→∀j k,j<(a9 c i).Uj.length→k<(a9 c i).Uj.length→uG (a9 c i) j=uG (a9 c i) k→j=k
 cw:∀n,n<c.J.length→ax (fy c n).w=true
 cp:∀n,n<c.J.length→0≤(fy c n).cap
def gq (l:List Int) (w:Int):Bool:=cU (fun i=>f8 (l.getD i 0) w) l.length
def jE (c:Ci) (s:Ns) (n:Nat):Bool:=gq (na s n) (fy c n).w&&(!(decide (0≤(fy c n).frm)&&decide (0≤(fy c n).dst))||decide (((na s n).length:Int)≤(fy c n).cap))
def cC (c:Ci) (s:Ns):Bool:=decide (s.U.length=c.U.length)&&decide (s.J.length=c.J.length)&&cU (fun i=>ck (a9 c i) (tK s i)) c.U.length&&cU (jE c s) c.J.length
structure eG (c:Ci) (s:Ns):Prop where
 pl:s.U.length=c.U.length
 cl:s.J.length=c.J.length
 pv:∀i,i<c.U.length→ni (a9 c i) (tK s i)
 cv:∀n,n<c.J.length→∀i,i<(na s n).length→dR ((na s n).getD i 0) (fy c n).w
 cc:∀n,n<c.J.length→0≤(fy c n).frm→0≤(fy c n).dst→((na s n).length:Int)≤(fy c n).cap
theorem Jh {l:List Int} {w:Int}:gq l w=true↔∀i,i<l.length→dR (l.getD i 0) w:=by
 unfold gq
 simp only[bB,BE]
theorem qT {c:Ci} {s:Ns}:cC c s=true↔eG c s:=by
 unfold cC jE
 simp only[Uo,U8,bB,Hb,Jh,U3,U2,VG,Vz]
 constructor
 ·rintro⟨⟨⟨h1,h2⟩,h3⟩,h4⟩
  refine⟨h1,h2,h3,fun n hn=>(h4 n hn).1,fun n hn ha hb=>?_⟩
  rcases(h4 n hn).2 with (h | h) | h
  ·exact absurd ha h
  ·exact absurd hb h
  ·exact h
 ·intro h
  refine⟨⟨⟨h.pl,h.cl⟩,h.pv⟩,fun n hn=>⟨h.cv n hn,?_⟩⟩
  by_cases ha:0≤(fy c n).frm
  ·by_cases hb:0≤(fy c n).dst
   ·exact .inr (h.cc n hn ha hb)
   ·exact .inl (.inr hb)
  ·exact .inl (.inl ha)
def cf (c:Ci) (s:Ns) (p j:Nat):Hd:=if 0<(na s (u6 (a9 c p) j)).length then ⟨true,(na s (u6 (a9 c p) j)).getD 0 0⟩else bu
def cX (c:Ci) (s:Ns) (p:Nat):List Hd:=tab (cf c s p) (a9 c p).I.length
def cg (c:Ci) (s:Ns) (p j:Nat):Bool:=decide ((fy c (uG (a9 c p) j)).dst=-1)||decide (((na s (uG (a9 c p) j)).length:Int)<(fy c (uG (a9 c p) j)).cap)
def dy (c:Ci) (s:Ns) (p:Nat):List Bool:=tab (cg c s p) (a9 c p).Uj.length
def ae (c:Ci) (s:Ns) (p:Nat):Fi:=aY (a9 c p) (tK s p) (cX c s p) (dy c s p)
def p8 (c:Ci) (s:Ns) (p:Nat):Bool:=(ae c s p).fires
def jF (c:Ci) (s:Ns) (p:Int):Bool:=decide (0≤p)&&(decide (p<c.U.length)&&p8 c s p.toNat)
theorem DB (c:Ci) (s:Ns) (p:Nat):p8 c s p=gV (a9 c p) (tK s p) (cX c s p) (dy c s p):=DA _ _ _ _
theorem se {c:Ci} {s:Ns} (hc:cr c) (hs:eG c s) {p:Nat} (hp:p<c.U.length):BG (a9 c p) (cX c s p) where
 l:=by rw[cX,aJ]
 v:=fun i hi hh=>by
  rw[cX,aX hi]at hh ⊢
  unfold cf at hh ⊢
  split
  ·rename_i h0
   obtain⟨k1,k2,k3,k4⟩:=hc.tk p hp i hi
   have:=hs.cv (u6 (a9 c p) i) (by show(jY (a9 c p) i).chan.toNat<_;omega) 0 h0
   rw[k3]at this
   exact this
  ·rename_i h0;rw[Ur h0]at hh;cases hh
def nU (p:Pr) (f:Fi):Nat→List Nat
 | 0=>[]
 | k+1=>nU p f k++(if f.pops.getD k false=true then [u6 p k]else [])
def nW (p:Pr) (f:Fi):Nat→List (Nat×Int)
 | 0=>[]
 | k+1=>nW p f k++(if (f.Uj.getD k bu).has=true then [(uG p k,(f.Uj.getD k bu).v)]else [])
def aV (c:Ci) (s:Ns) (w:Nat→Bool) (p:Nat):Bool:=w p&&p8 c s p
def iv (c:Ci) (s:Ns) (w:Nat→Bool):Nat→List Nat
 | 0=>[]
 | p+1=>iv c s w p++(if aV c s w p=true then nU (a9 c p) (ae c s p) (a9 c p).I.length else [])
def kJ (c:Ci) (s:Ns) (w:Nat→Bool):Nat→List (Nat×Int)
 | 0=>[]
 | p+1=>kJ c s w p++(if aV c s w p=true then nW (a9 c p) (ae c s p) (a9 c p).Uj.length else [])
def bK (l:List (List Int)) (ev:List Nat):List (List Int):=ev.foldl (fun l n=>l.set n ((l.getD n []).drop 1)) l
def cD (l:List (List Int)) (ev:List (Nat×Int)):List (List Int):=ev.foldl (fun l e=>l.set e.1 (l.getD e.1 []++[e.2])) l
def dX (l:List Int) (ev:List Nat):List Int:=ev.foldl (fun l n=>l.set n 1) l
def dK (l:List (Option Int)) (ev:List (Nat×Int)):List (Option Int):=ev.foldl (fun l e=>l.set e.1 (some e.2)) l
def kK (c:Ci) (s:Ns) (p n:Nat):Bool:=decide (n∈nU (a9 c p) (ae c s p) (a9 c p).I.length)
def xr (c:Ci) (s:Ns) (p n:Nat):List Int:=((nW (a9 c p) (ae c s p) (a9 c p).Uj.length).filter (fun e=>e.1==n)).map (·.2)
def tL (c:Ci) (n:Nat):Nat:=(fy c n).dst.toNat
def nX (c:Ci) (n:Nat):Nat:=(fy c n).frm.toNat
def gF (c:Ci) (s:Ns) (w:Nat→Bool) (n:Nat):Nat:=if aV c s w (tL c n)=true∧kK c s (tL c n) n=true then 1 else 0
def gt (c:Ci) (s:Ns) (w:Nat→Bool) (n:Nat):List Int:=if aV c s w (nX c n)=true then xr c s (nX c n) n else []
def gu (c:Ci) (s:Ns) (w:Nat→Bool) (n:Nat):List Int:=(na s n).drop (gF c s w n)++gt c s w n
def cQ (c:Ci) (s:Ns) (w:Nat→Bool) (p:Nat):Ps:=if aV c s w p=true then (ae c s p).s else tK s p
def bx (c:Ci) (s:Ns) (w:Nat→Bool):Ns:=⟨tab (cQ c s w) c.U.length,tab (gu c s w) c.J.length⟩
theorem sf {p:Pr} {f:Fi} {n:Nat}:∀{k:Nat},n∈nU p f k→∃j,j<k∧f.pops.getD j false=true∧u6 p j=n
 | 0,h=>by cases h
 | k+1,h=>by
  rw[nU,Vp]at h
  rcases h with h | h
  ·obtain⟨j,h1,h2⟩:=sf h;exact⟨j,by omega,h2⟩
  ·split at h
   ·rename_i hh;simp only[VH]at h;exact⟨k,by omega,hh,h.symm⟩
   ·cases h
theorem sg {p:Pr} {f:Fi} {e:Nat×Int}:∀{k:Nat},e∈nW p f k→∃j,j<k∧(f.Uj.getD j bu).has=true∧uG p j=e.1∧(f.Uj.getD j bu).v=e.2
 | 0,h=>by cases h
 | k+1,h=>by
  rw[nW,Vp]at h
  rcases h with h | h
  ·obtain⟨j,h1,h2⟩:=sg h;exact⟨j,by omega,h2⟩
  ·split at h
   ·rename_i hh;simp only[VH]at h;subst h;exact⟨k,by omega,hh,rfl,rfl⟩
   ·cases h
theorem eZ (ev:List Nat):∀(l:List (List Int)),(bK l ev).length=l.length:=by
 induction ev with
 | nil=>intro l;rfl
 | cons n r ih=>intro l;show(bK _ r).length=_;rw[ih];simp
theorem kf (ev:List (Nat×Int)):∀(l:List (List Int)),(cD l ev).length=l.length:=by
 induction ev with
 | nil=>intro l;rfl
 | cons n r ih=>intro l;show(cD _ r).length=_;rw[ih];simp
theorem uH (ev:List Nat):∀(l:List Int),(dX l ev).length=l.length:=by
 induction ev with
 | nil=>intro l;rfl
 | cons n r ih=>intro l;show(dX _ r).length=_;rw[ih];simp
theorem uI (ev:List (Nat×Int)):∀(l:List (Option Int)),(dK l ev).length=l.length:=by
 induction ev with
 | nil=>intro l;rfl
 | cons n r ih=>intro l;show(dK _ r).length=_;rw[ih];simp
theorem zP (l:List (List Int)) (ev:List Nat) (n:Nat):bK l (ev++[n])=(bK l ev).set n (((bK l ev).getD n []).drop 1):=by simp[bK,Vy]
theorem zQ (l:List (List Int)) (ev:List (Nat×Int)) (n:Nat) (v:Int):cD l (ev++[(n,v)])=(cD l ev).set n ((cD l ev).getD n []++[v]):=by simp[cD,Vy]
theorem zR (l:List Int) (ev:List Nat) (n:Nat):dX l (ev++[n])=(dX l ev).set n 1:=by simp[dX,Vy]
theorem zS (l:List (Option Int)) (ev:List (Nat×Int)) (n:Nat) (v:Int):dK l (ev++[(n,v)])=(dK l ev).set n (some v):=by simp[dK,Vy]
theorem nY (ev:List Nat):∀(l:List (List Int)) (n:Nat),n<l.length→(bK l ev).getD n []=(l.getD n []).drop (ev.count n):=by
 induction ev with
 | nil=>intro l n hn;simp[bK]
 | cons m r ih =>
  intro l n hn
  show(bK (l.set m _) r).getD n []=_
  rw[ih _ n (by simpa using hn),List.count_cons]
  by_cases e:m=n
  ·subst e
   rw[bM hn,Uw rfl,List.drop_drop]
   simp[Nat.add_comm]
  ·by_cases hm:m<l.length
   ·rw[bM hm,Ur e];simp[e]
   ·rw[VO (by omega)];simp[e]
theorem uJ (ev:List (Nat×Int)):∀(l:List (List Int)) (n:Nat),n<l.length→(cD l ev).getD n []=l.getD n []++(ev.filter (fun e=>e.1==n)).map (·.2):=by
 induction ev with
 | nil=>intro l n hn;simp[cD]
 | cons m r ih =>
  intro l n hn
  show(cD (l.set m.1 _) r).getD n []=_
  rw[ih _ n (by simpa using hn)]
  by_cases e:m.1=n
  ·subst e
   rw[bM hn,Uw rfl]
   simp
  ·by_cases hm:m.1<l.length
   ·rw[bM hm,Ur e];simp[e]
   ·rw[VO (by omega)];simp[e]
theorem BH (ev:List Nat):∀(l:List Int) (n:Nat),n<l.length→(dX l ev).getD n 0=if n∈ev then 1 else l.getD n 0:=by
 induction ev with
 | nil=>intro l n hn;simp[dX]
 | cons m r ih =>
  intro l n hn
  show(dX (l.set m _) r).getD n 0=_
  rw[ih _ n (by simpa using hn)]
  by_cases hr:n∈r
  ·rw[Uw hr,Uw (by simp[hr])]
  ·rw[Ur hr]
   by_cases e:m=n
   ·subst e
    rw[bM hn,Uw rfl,Uw (by simp)]
   ·rw[Ur (by simp[hr];omega)]
    by_cases hm:m<l.length
    ·rw[bM hm,Ur e]
    ·rw[VO (by omega)]
section
variable {c:Ci} {s:Ns} {w:Nat→Bool}
theorem Fo (hc:cr c) {p n:Nat} (hp:p<c.U.length) {f:Fi} {k:Nat} (hk:k≤(a9 c p).I.length) (h:n∈nU (a9 c p) f k):n<c.J.length∧(fy c n).dst=p:=by
 obtain⟨j,h1,h2,rfl⟩:=sf h
 obtain⟨k1,k2,k3,k4⟩:=hc.tk p hp j (by omega)
 exact⟨by show(jY (a9 c p) j).chan.toNat<_;omega,k4⟩
theorem Fp (hc:cr c) {p:Nat} {e:Nat×Int} (hp:p<c.U.length) {f:Fi} {k:Nat} (hk:k≤(a9 c p).Uj.length) (h:e∈nW (a9 c p) f k):e.1<c.J.length∧(fy c e.1).frm=p:=by
 obtain⟨j,h1,h2,h3,h4⟩:=sg h
 obtain⟨k1,k2,k3,k4⟩:=hc.pt p hp j (by omega)
 rw[← h3]
 exact⟨by show(oZ (a9 c p) j).chan.toNat<_;omega,k4⟩
theorem tM (hc:cr c) {p:Nat} (n:Nat) (hp:p<c.U.length) {f:Fi}:∀{k:Nat},k≤(a9 c p).I.length→(nU (a9 c p) f k).count n=if n∈nU (a9 c p) f k then 1 else 0
 | 0,_=>by simp[nU]
 | k+1,hk=>by
  have ih:=tM hc n hp (f:=f) (k:=k) (by omega)
  rw[nU,List.count_append,ih]
  by_cases h1:f.pops.getD k false=true
  ·rw[Uw h1]
   by_cases e:u6 (a9 c p) k=n
   ·have:n∉nU (a9 c p) f k:=by
     intro hm
     obtain⟨j,g1,g2,g3⟩:=sf hm
     have:=hc.td p hp j k (by omega) (by omega) (by rw[g3,e])
     omega
    rw[Ur this,e,List.count_singleton_self,Uw (V1 _ (VH.2 rfl))]
   ·have e3:([u6 (a9 c p) k]).count n=0:=List.count_eq_zero.2 (by rw[VH];exact fun h=>e h.symm)
    rw[e3,VM]
    by_cases hm:n∈nU (a9 c p) f k
    ·rw[Uw hm,Uw (VP _ hm)]
    ·rw[Ur hm,Ur]
     intro h
     rcases Vp.1 h with h | h
     ·exact hm h
     ·exact e (VH.1 h).symm
  ·rw[Ur h1,Vq];rfl
theorem BI {n:Nat}:∀{P:Nat},n∈iv c s w P→∃p,p<P∧aV c s w p=true∧n∈nU (a9 c p) (ae c s p) (a9 c p).I.length
 | 0,h=>by cases h
 | P+1,h=>by
  rw[iv,Vp]at h
  rcases h with h | h
  ·obtain⟨j,h1,h2⟩:=BI h;exact⟨j,by omega,h2⟩
  ·split at h
   ·rename_i hh;exact⟨P,by omega,hh,h⟩
   ·cases h
theorem qU (hc:cr c) (n:Nat):∀{P:Nat},P≤c.U.length→(iv c s w P).count n=if tL c n<P then gF c s w n else 0
 | 0,_=>by simp[iv]
 | P+1,hP=>by
  have ih:=qU hc n (P:=P) (by omega)
  rw[iv,List.count_append,ih]
  by_cases hd:tL c n=P
  ·rw[Ur (show ¬tL c n<P by omega),Uw (show tL c n<P+1 by omega),gF,hd,U5]
   by_cases hf:aV c s w P=true
   ·rw[Uw hf,tM hc n (by omega) (Ut _)]
    simp[kK,hf]
   ·rw[Ur hf];simp[hf]
  ·have h0:(if aV c s w P=true then nU (a9 c P) (ae c s P) (a9 c P).I.length else []).count n=0:=by
    split
    ·rw[tM hc n (by omega) (Ut _),Ur]
     intro hm
     have:=(Fo hc (by omega) (Ut _) hm).2
     exact hd (by rw[tL,this];rfl)
    ·rfl
   rw[h0]
   by_cases h1:tL c n<P
   ·rw[Uw h1,Uw (show tL c n<P+1 by omega)];rfl
   ·rw[Ur h1,Ur (show ¬tL c n<P+1 by omega)]
theorem Ji (hc:cr c) {p n:Nat} (h:kK c s p n=true):p<c.U.length:=by
 by_cases hp:p<c.U.length
 ·exact hp
 ·unfold kK at h
  have e:a9 c p=ac:=by rw[a9,List.getD,U1 (by omega)];rfl
  rw[e]at h
  simp[nU]at h
theorem Fq (hc:cr c) (n:Nat):(if tL c n<c.U.length then gF c s w n else 0)=gF c s w n:=by
 split
 ·rfl
 ·rename_i h
  rw[gF,Ur]
  rintro⟨_,h2⟩
  exact h (Ji hc h2)
theorem LR (hc:cr c) {p n:Nat} (hp:p<c.U.length) (hd:¬nX c n=p) (f:Fi):(nW (a9 c p) f (a9 c p).Uj.length).filter (fun e=>e.1==n)=[]:=by
 rw[List.filter_eq_nil_iff]
 intro e he h
 have h1:e.1=n:=by simpa using h
 have:=(Fp hc hp (Ut _) he).2
 rw[h1]at this
 exact hd (by rw[nX,this];rfl)
theorem si (hc:cr c) (n:Nat):∀{P:Nat},P≤c.U.length→((kJ c s w P).filter (fun e=>e.1==n)).map (·.2)=if nX c n<P then gt c s w n else []
 | 0,_=>by simp[kJ]
 | P+1,hP=>by
  have ih:=si hc n (P:=P) (by omega)
  rw[kJ,List.filter_append,Vc,ih]
  by_cases hd:nX c n=P
  ·rw[Ur (show ¬nX c n<P by omega),Uw (show nX c n<P+1 by omega),gt,hd]
   by_cases hf:aV c s w P=true
   ·rw[Uw hf,Uw hf];rfl
   ·rw[Ur hf,Ur hf];rfl
  ·have h0:(if aV c s w P=true then nW (a9 c P) (ae c s P) (a9 c P).Uj.length else []).filter (fun e=>e.1==n)=[]:=by
    split
    ·exact LR hc (by omega) hd _
    ·rfl
   rw[h0]
   by_cases h1:nX c n<P
   ·rw[Uw h1,Uw (show nX c n<P+1 by omega)];exact Vq _
   ·rw[Ur h1,Ur (show ¬nX c n<P+1 by omega)];rfl
theorem sj {p n:Nat} (hp:¬p<c.U.length):xr c s p n=[]:=by
 have e:a9 c p=ac:=by rw[a9,List.getD,U1 (by omega)];rfl
 unfold xr
 rw[e];rfl
theorem zT (n:Nat):(if nX c n<c.U.length then gt c s w n else [])=gt c s w n:=by
 split
 ·rfl
 ·rename_i h
  rw[gt]
  split
  ·rw[sj h]
  ·rfl
theorem Hc (hc:cr c) (hs:s.J.length=c.J.length):cD (bK s.J (iv c s w c.U.length)) (kJ c s w c.U.length)=(bx c s w).J:=by
 refine k9 (d:=[]) ?_ (fun n hn=>?_)
 ·rw[kf,eZ,bx,aJ,hs]
 ·rw[kf,eZ]at hn
  rw[uJ _ _ _ (by rw[eZ];exact hn),nY _ _ _ hn,qU hc n (Ut _),si hc n (Ut _),Fq hc,zT]
  show _=(tab (gu c s w) c.J.length).getD n []
  rw[aX (by omega)]
  rfl
end
theorem Fr (bs:ByteArray):∀(n i:Nat) (r:List UInt8),bs.size-i=n→ByteArray.toList.loop bs i r=r.reverse++bs.data.toList.drop i
 | 0,i,r,h=>by
  unfold ByteArray.toList.loop
  rw[Ur (by omega),List.drop_eq_nil_of_le (by show bs.data.toList.length≤i;rw[VU];have:bs.data.size=bs.size:=rfl;omega),Vq]
 | n+1,i,r,h=>by
  unfold ByteArray.toList.loop
  have hi:i<bs.size:=by omega
  have hi2:i<bs.data.toList.length:=by rw[VU];exact hi
  rw[Uw hi,Fr bs n (i+1) _ (by omega),V4 hi2]
  have e:bs.get! i=bs.data.toList[i]:=by
   show(bs.data[i]!)=_
   rw[getElem!_pos bs.data i hi];simp
  rw[e];simp
theorem Fs (bs:ByteArray):bs.toList=bs.data.toList:=by
 unfold ByteArray.toList
 rw[Fr bs _ 0 [] rfl];simp
theorem toList_inj {a b:ByteArray} (h:a.toList=b.toList):a=b:=by
 rw[Fs,Fs]at h
 cases a;cases b
 simp only[Array.toList_inj]at h
 rw[h]
def cY (b:List (ByteArray×Int)) (f:Nat→ByteArray):Nat→List (ByteArray×Int)
 | 0=>b
 | i+1=>eP (cY b f i) (f i) (i:Int)
def bP (c:Ci) (i:Nat):ByteArray:=(c.J.getD i aK).name
def l6 (p:Pr) (i:Nat):ByteArray:=(p.Ul.getD i aI).name
def tN (p:Pr) (i:Nat):ByteArray:=(p.Uk.getD i ay).name
def jG (c:Ci) (i:Nat):ByteArray:=(c.U.getD i ac).name
structure uK where
 p:Pr
 s:Ps
 Ul:List (ByteArray×Int)
 Uk:List (ByteArray×Int)
abbrev bR:uK:=⟨ac,a7,[],[]⟩
def nZ (r:uK):List V:=[.str r.p.name,.str r.p.clock,.sl 13 bO aI r.p.Ul,.sl 27 b8 ay r.p.Uk,.sl 9 dU bC r.p.I,.sl 16 dQ bt r.p.Uj,.sl 1 (ab .i64) 0 r.s.Ul,.sl 1 aa [] r.s.Uk,.sm false (ab .i64) 0 r.Ul,.sm false (ab .i64) 0 r.Uk]
def fA (c:Ci) (s:Ns) (i:Nat):uK:=⟨c.U.getD i ac,s.U.getD i a7,cY [] (l6 (c.U.getD i ac)) (c.U.getD i ac).Ul.length,cY [] (tN (c.U.getD i ac)) (c.U.getD i ac).Uk.length⟩
def bU (c:Ci) (s:Ns):Nat→List (ByteArray×uK)
 | 0=>[]
 | i+1=>eP (bU c s i) (jG c i) (fA c s i)
theorem fN {α:Type _} (d x:α) (k k':ByteArray):∀l:List (ByteArray×α),ak d (eP l k x) k'=if k'=k then x else ak d l k'
 | []=>rfl
 | (q,y)::r=>by
  rw[eP]
  split
  ·rename_i h
   subst h
   rw[ak,ak]
   split<;>rfl
  ·rename_i h
   rw[ak,ak,fN d x k k' r]
   by_cases h1:k'=q
   ·rw[Uw h1,Uw h1,Ur (fun h2=>h (h2.symm.trans h1))]
   ·rw[Ur h1,Ur h1]
theorem tO {α:Type _} (x:α) (k k':ByteArray):∀l:List (ByteArray×α),bc (eP l k x) k'=if k'=k then true else bc l k'
 | []=>rfl
 | (q,y)::r=>by
  rw[eP]
  split
  ·rename_i h
   subst h
   rw[bc,bc]
   split<;>rfl
  ·rename_i h
   rw[bc,bc,tO x k k' r]
   by_cases h1:k'=q
   ·rw[Uw h1,Uw h1,Ur (fun h2=>h (h2.symm.trans h1))]
   ·rw[Ur h1,Ur h1]
theorem DC {f:Nat→ByteArray} {k:ByteArray}:∀(n:Nat),bc (cY [] f n) k=true↔∃j,j<n∧f j=k
 | 0=>⟨fun h=>by simp[cY,bc]at h,fun ⟨j,hj,_⟩=>by omega⟩
 | n+1=>by
  rw[cY,tO]
  by_cases h:k=f n
  ·rw[Uw h];exact⟨fun _=>⟨n,by omega,h.symm⟩,fun _=>rfl⟩
  ·rw[Ur h,DC n]
   exact⟨fun ⟨j,h1,h2⟩=>⟨j,by omega,h2⟩,fun ⟨j,h1,h2⟩=>⟨j,by rcases Nat.lt_or_ge j n with h3 | h3;exact h3;exact absurd ((show j=n by omega) ▸ h2).symm h,h2⟩⟩
theorem zU {f:Nat→ByteArray} {j:Nat}:∀(n:Nat),j<n→(∀i,i<n→∀i',i'<i→f i'≠f i)→ak 0 (cY [] f n) (f j)=(j:Int)
 | 0,h,_=>by omega
 | n+1,h,hd=>by
  rw[cY,fN]
  by_cases hj:j=n
  ·subst hj;rw[Uw rfl]
  ·rw[Ur (hd n (by omega) j (by omega))]
   exact zU n (by omega) (fun i hi i' Xz=>hd i (by omega) i' Xz)
theorem yl {f:Nat→ByteArray} {k:ByteArray}:∀(n:Nat),bc (cY [] f n) k=true→0≤ak 0 (cY [] f n) k∧ak 0 (cY [] f n) k<(n:Int)
 | 0,h=>by simp[cY,bc]at h
 | n+1,h=>by
  rw[cY,tO]at h
  rw[cY,fN]
  by_cases hk:k=f n
  ·rw[Uw hk];omega
  ·rw[Ur hk]at h ⊢
   have:=yl n h
   omega
def l7 (n:Ci):List (ByteArray×Int):=cY [] (bP n) n.J.length
def jH (o n:Ci) (i:Nat):Bool:=!bc (l7 n) (bP o i)||!decide ((n.J.getD (ak 0 (l7 n) (bP o i)).toNat aK).w=(o.J.getD i aK).w)
theorem vy {o n:Ci} {i:Nat} (h:bc (l7 n) (bP o i)=false):jH o n i=true:=by unfold jH;rw[h];rfl
theorem Ft {o n:Ci} {i:Nat} (h:¬(n.J.getD (ak 0 (l7 n) (bP o i)).toNat aK).w=(o.J.getD i aK).w):jH o n i=true:=by unfold jH;rw[Uy h];simp
theorem zV {o n:Ci} {i:Nat} (h:bc (l7 n) (bP o i)=true) (h2:(n.J.getD (ak 0 (l7 n) (bP o i)).toNat aK).w=(o.J.getD i aK).w):¬jH o n i=true:=by unfold jH;rw[h,Uz h2];simp
def bv (o n:Ci):Nat→List ByteArray
 | 0=>[]
 | i+1=>bv o n i++(if jH o n i=true then [bP o i]else [])
theorem sk (o n:Ci):∀i,(bv o n i).length≤i
 | 0=>Ut _
 | i+1=>by
  have:=sk o n i
  rw[bv,UK]
  split<;>simp<;>omega
theorem BJ {o n:Ci} {i:Nat} (h:jH o n i=true):bv o n (i+1)=bv o n i++[bP o i]:=by rw[bv,Uw h]
theorem zW {o n:Ci} {i:Nat} (h:¬jH o n i=true):bv o n i=bv o n (i+1):=by rw[bv,Ur h,Vq]
def nb (x w:Int):Int:=if 0≤w∧w≤62 then x%2^w.toNat else 0
theorem Jj {x w:Int}:IntKind.wrap .i64 ((BitVec.ofInt (IntKind.i64).bits x &&& BitVec.ofInt (IntKind.i64).bits (ai w)).toNat:Int)=nb x w:=by
 unfold nb
 by_cases h:0≤w∧w≤62
 ·rw[Uw h,da h.1 h.2]
  exact ir (n:=w.toNat) (by omega)
 ·rw[Ur h,show ai w=0 from Uw (by omega)]
  rw[show BitVec.ofInt (IntKind.i64).bits 0=0#_ from by simp,BitVec.and_zero]
  rfl
theorem Jk {x:Int} {n:Nat} (h:n≤62):IntKind.wrap .i64 x%2^n=x%2^n:=by
 have hd:((2:Int)^n) ∣ 18446744073709551616:=by
  refine⟨2^(64-n),?_⟩
  rw[← Int.pow_add,show n+(64-n)=64 by omega]
  decide
 obtain⟨k,hk⟩:∃k:Int,IntKind.wrap .i64 x=x+k*18446744073709551616:=by
  have h1:(2:Int)^(IntKind.i64).bits=18446744073709551616:=by decide
  unfold IntKind.wrap
  simp only[h1]
  have:=Int.emod_add_mul_ediv x 18446744073709551616
  split
  ·exact⟨-(x / 18446744073709551616)-1,by omega⟩
  ·exact⟨-(x / 18446744073709551616),by omega⟩
 obtain⟨c,hc⟩:=hd
 rw[hk,hc,show k*(2^n*c)=2^n*(k*c) by rw[Int.mul_left_comm]]
 exact Int.add_mul_emod_self_left x (2^n) (k*c)
theorem Jl {x w:Int}:nb (IntKind.wrap .i64 x) w=nb x w:=by
 unfold nb
 by_cases h:0≤w∧w≤62
 ·rw[Uw h,Uw h];exact Jk (by omega)
 ·rw[Ur h,Ur h]
structure fp where
 first:Int
 w:Int
 Un:an
def fB (c:fp) (v:Int) (is:Bool):Int:=if is=true then nb v c.w else c.first
def sn (c:fp) (v:Int) (is:Bool):Int:=nb (fB c v is+c.Un.n) c.w
def de (c:fp) (v:Int) (is:Bool):Int:=if c.Un.kind=0 then c.first else if c.Un.kind=3 then sn c v is else fB c v is
def aD (own:ByteArray) (r:an):ByteArray:=if r.kind=1 then own else r.src
def BK (f:uK) (r:Rg):Int:=ak 0 f.Ul (aD r.name r.Un)
def zX (f:uK) (r:Rg):Bool:=bc f.Ul (aD r.name r.Un)
def qo (f:uK) (r:Rg):Bool:=if zX f r=true∧r.Un.kind=1 then decide ((f.p.Ul.getD (BK f r).toNat aI).w=r.w)else zX f r
def fJ (f:uK) (r:Rg):Int:=de ⟨r.init,r.w,r.Un⟩ (if qo f r=true then f.s.Ul.getD (BK f r).toNat 0 else 0) (qo f r)
def fq (f:uK) (m:Mm):Bool:=if bc f.Uk (aD m.name m.Un)=true∧m.Un.kind=1 then (decide ((f.p.Uk.getD (ak 0 f.Uk (aD m.name m.Un)).toNat ay).w=m.w)&&decide ((f.p.Uk.getD (ak 0 f.Uk (aD m.name m.Un)).toNat ay).Um=m.Um))else bc f.Uk (aD m.name m.Un)
def ym (f:uK) (m:Mm) (k:Nat):Bool:=fq f m&&decide (((k:Nat):Int)<((f.s.Uk.getD (ak 0 f.Uk (aD m.name m.Un)).toNat []).length:Int))
def dn (f:uK) (m:Mm) (k:Nat):Int:=de ⟨0,m.w,m.Un⟩ (if ym f m k=true then (f.s.Uk.getD (ak 0 f.Uk (aD m.name m.Un)).toNat []).getD k 0 else 0) (ym f m k)
def gW (f:uK) (m:Mm):List Int:=(List.range m.Um.toNat).map (dn f m)
theorem iw {f:uK} {m:Mm} {k:Nat} (h:fq f m=true) (h2:(k:Int)<((f.s.Uk.getD (ak 0 f.Uk (aD m.name m.Un)).toNat []).length:Int)):dn f m k=de ⟨0,m.w,m.Un⟩ ((f.s.Uk.getD (ak 0 f.Uk (aD m.name m.Un)).toNat []).getD k 0) true:=by
 unfold dn ym
 rw[h,Uz h2];rfl
theorem gv {f:uK} {m:Mm} {k:Nat} (h:fq f m=false):dn f m k=de ⟨0,m.w,m.Un⟩ 0 false:=by
 unfold dn ym
 rw[h];rfl
theorem iz {f:uK} {m:Mm} {k:Nat} (h2:¬(k:Int)<((f.s.Uk.getD (ak 0 f.Uk (aD m.name m.Un)).toNat []).length:Int)):dn f m k=de ⟨0,m.w,m.Un⟩ 0 false:=by
 unfold dn ym
 rw[Uy h2,U7];rfl
theorem LS (e:Ex):1≤fo e:=by cases e with | mk op name k w args=>rw[fo];omega
def Jm:List D→List D→Prop
 | [],[]=>True
 | x::xs,y::ys=>dC x y∧Jm xs ys
 | _,_=>False
theorem Jn {xs ys:List D} (h:Jm xs ys):dC (.agg xs) (.agg ys):=by
 intro S μ w u hu
 obtain⟨us,rfl,h1,h2⟩:=eO hu
 have key:∀(xs ys:List D),Jm xs ys→xs.length=ys.length∧∀(j:Nat) (y:D),ys[j]?=some y→∃x,xs[j]?=some x∧dC x y:=by
  intro xs
  induction xs with
  | nil =>
   intro ys h
   cases ys with
   | nil=>exact⟨rfl,fun j y hy=>by simp at hy⟩
   | cons _ _=>exact h.elim
  | cons x xs ih =>
   intro ys h
   cases ys with
   | nil=>exact h.elim
   | cons y ys =>
    obtain⟨q1,q2⟩:=ih ys h.2
    refine⟨by simp[q1],fun j z hz=>?_⟩
    cases j with
    | zero=>simp at hz;subst hz;exact⟨x,rfl,h.1⟩
    | succ j=>simpa using q2 j z (by simpa using hz)
 obtain⟨q1,q2⟩:=key xs ys h
 refine .agg _ _ (by rw[← q1];exact h1) (fun j y v hy hv=>?_)
 obtain⟨x,hx,hl⟩:=q2 j y hy
 exact hl S μ w v (h2 j x v hx hv)
theorem Fu (x:D):dC x x:=fun _ _ _ _ h=>h
def cG {α:Type} (f:Nat→α) (l:List α) (i:Nat):List α:=tab f i++l.drop i
theorem ci {α:Type} {f:Nat→α} {l:List α} {i:Nat} (h:i≤l.length):(cG f l i).length=l.length:=by
 unfold cG;rw[UK,aJ,UW];omega
theorem bn {α:Type} {f:Nat→α} {l:List α} {i:Nat} {v:α} (h:i<l.length) (hv:f i=v):(cG f l i).set i v=cG f l (i+1):=by
 rw[← hv];exact LO h
theorem cI {α:Type} {f:Nat→α} {l:List α} {i:Nat} {d:α} (h:i<l.length) (hv:f i=l.getD i d):cG f l i=cG f l (i+1):=by
 unfold cG
 rw[wG,Vf,hv]
 congr 1
 rw[V4 h,List.getD,Uq h];rfl
theorem bN {α:Type} {f:Nat→α} {l:List α} {i:Nat} (h:l.length≤i):cG f l i=tab f i:=Jg h
theorem e7 {α:Type} {f:Nat→α} {l:List α} {i j:Nat} {d:α}:(cG f l i).getD j d=if j<i then f j else l.getD j d:=by
 unfold cG
 by_cases h:j<i
 ·rw[Uw h,List.getD,UD (by rw[aJ];exact h),← List.getD,aX h]
 ·rw[Ur h,List.getD,UE (by rw[aJ];omega),aJ,VB,← List.getD]
  congr 1;omega
theorem o6 {α:Type} {f:Nat→α} {enc:α→List V} {i:Nat} (h:i<137438953472):(tab f i).length+([f i].map enc).length≤137438953472∧(tab f i).map enc++[f i].map enc=(tab f (i+1)).map enc:=by
 refine⟨by rw[aJ];simp;omega,?_⟩
 rw[wG,Vc]
theorem cK {α:Type} {n i:Nat} {a:α}:(List.replicate n a).getD i a=a:=by
 rw[List.getD,VR];split<;>rfl
section
variable {p:Pr} {s:Ps} {hs:List Hd} {rs:List Bool} {d:List Int} {i:Nat}
theorem wI:(i5 p).getD i 0=0:=cK
theorem e9:(i5 p).length=p.I.length:=by simp[i5]
theorem Og (hp:gm p) (hh:BG p hs) (hi:i≤p.I.length):BF p (cG (nh p s hs) (i5 p) i) where
 l:=by rw[ci (by rw[e9];exact hi),e9]
 v:=fun j hj=>by
  rw[e7]
  split
  ·have:=(wH (s:=s) hp hh).v j hj
   rw[b5,aX hj]at this
   exact this
  ·exact(Nh hp).v j hj
theorem zY {e:Ex} (h:¬(be p s d e).1=1):ew p s d e=false:=Uy h
theorem vz {e:Ex} (h:(be p s d e).1=1):ew p s d e=true:=Uz h
theorem LU (hp:gm p) (hi:i<p.I.length) (h:¬(be p s d (jY p i).when).1=1):nQ p s hs i=false∧nh p s hs i=0∧iM p s hs i=true:=by
 have h0:=zY h
 have h1:ew p s (i5 p) (jY p i).when=false:=by rw[← h0];exact(ld hp hi _ _).1
 have h2:ew p s (b5 p s hs) (jY p i).when=false:=by rw[← h0];exact(ld hp hi _ _).1
 refine⟨h2,?_,?_⟩
 ·unfold nh;rw[Ur (by rw[h1];simp)]
 ·unfold iM;rw[h2];simp
theorem sq (hp:gm p) (hi:i<p.I.length) (h:(be p s d (jY p i).when).1=1):nQ p s hs i=true∧(nh p s hs i=if (hs.getD i bu).has=true then (hs.getD i bu).v else 0)∧iM p s hs i=(hs.getD i bu).has:=by
 have h0:=vz h
 have h1:ew p s (i5 p) (jY p i).when=true:=by rw[← h0];exact(ld hp hi _ _).1
 have h2:ew p s (b5 p s hs) (jY p i).when=true:=by rw[← h0];exact(ld hp hi _ _).1
 refine⟨h2,?_,?_⟩
 ·unfold nh;rw[h1];simp
 ·unfold iM;rw[h2];simp
theorem Oh (h:¬(be p s (b5 p s hs) (oZ p i).when).1=1):nR p s hs i=bu∧jZ p s hs rs i=true:=by
 have h0:=zY h
 refine⟨?_,?_⟩
 ·unfold nR;rw[h0];simp
 ·unfold jZ;rw[h0];simp
theorem Fv (h:(be p s (b5 p s hs) (oZ p i).when).1=1):nR p s hs i=⟨true,(be p s (b5 p s hs) (oZ p i).data).1⟩∧jZ p s hs rs i=rs.getD i false:=by
 have h0:=vz h
 refine⟨?_,?_⟩
 ·unfold nR;rw[h0];simp
 ·unfold jZ;rw[h0];simp
theorem Fw (h:gV p s hs rs=false):aY p s hs rs=⟨false,s,List.replicate p.I.length false,List.replicate p.Uj.length bu⟩:=Ur (by rw[h];simp)
theorem zZ (h:gV p s hs rs=true):aY p s hs rs=⟨true,cy p s (b5 p s hs),tab (nQ p s hs) p.I.length,tab (nR p s hs) p.Uj.length⟩:=Uw h
theorem o7 {a b:Bool} (h1:a=cU (iM p s hs) p.I.length) (h2:b=(a&&cU (jZ p s hs rs) p.Uj.length)):gV p s hs rs=b:=by
 rw[h2,h1];rfl
theorem vA (hp:gm p) (hi:i<p.I.length):eF (o0 p) (jY p i).when=some 1∧fo (jY p i).when≤3:=⟨(ld (s:=a7) hp hi [] []).2,(hp.tw i hi).2.2⟩
theorem BL (p:Pr):b3 p=⟨tab (fun i=>(sd p i).init) p.Ul.length,tab (fun i=>List.replicate (fK p i).Um.toNat 0) p.Uk.length⟩:=by
 unfold b3;rw[Fm (d:=aI),Fm (d:=ay)]
theorem Jo {l:List Int} {z:List Int} (h:l.length=z.length):cG (fun j=>l.getD j 0) z z.length=l:=by
 rw[bN (Ut _),← h,← Jf]
end
theorem jh {p:Pr} {s:Ps} (h:¬s.Ul.length=p.Ul.length):ck p s=false:=by unfold ck;rw[Uy h];rfl
theorem ji {p:Pr} {s:Ps} (h:¬s.Uk.length=p.Uk.length):ck p s=false:=by unfold ck;rw[Uy h];simp
theorem jj {p:Pr} {s:Ps} {i:Nat} (hi:i<s.Ul.length) (h:f8 (s.Ul.getD i 0) (sd p i).w=false):ck p s=false:=by
 unfold ck;rw[eV hi h];simp
theorem dG {p:Pr} {s:Ps} {i:Nat} (hi:i<s.Uk.length) (h:jD p s i=false):ck p s=false:=by
 unfold ck;rw[eV hi h];simp
theorem o8 {p:Pr} {s:Ps} {i:Nat} (h:¬((s.Uk.getD i []).length:Int)=(fK p i).Um):jD p s i=false:=by unfold jD;rw[Uy h];rfl
theorem o9 {p:Pr} {s:Ps} {i j:Nat} (hj:j<(s.Uk.getD i []).length) (h:f8 ((s.Uk.getD i []).getD j 0) (fK p i).w=false):jD p s i=false:=by
 unfold jD;rw[eV hj h];simp
theorem LV {p:Pr} {s:Ps} {i:Nat} (h1:((s.Uk.getD i []).length:Int)=(fK p i).Um) (h2:∀j,j<(s.Uk.getD i []).length→f8 ((s.Uk.getD i []).getD j 0) (fK p i).w=true):jD p s i=true:=by
 unfold jD;rw[Uz h1,bB.2 h2];rfl
theorem jk {p:Pr} {s:Ps} (h1:s.Ul.length=p.Ul.length) (h2:s.Uk.length=p.Uk.length) (h3:∀i,i<s.Ul.length→f8 (s.Ul.getD i 0) (sd p i).w=true) (h4:∀i,i<s.Uk.length→jD p s i=true):ck p s=true:=by
 unfold ck;rw[Uz h1,Uz h2,bB.2 h3,bB.2 h4];rfl
theorem Fx {v w:Int} (h0:0≤v) (h1:0≤w) (h2:w≤62):(v / 2^w.toNat==0)=f8 v w:=by
 have hp:=nP (n:=w.toNat) (by omega)
 unfold f8
 rw[Uz h0,Ww,da h1 h2]
 rw[Bool.eq_iff_iff,beq_iff_eq,U8]
 generalize (2:Int)^w.toNat=m at hp ⊢
 constructor
 ·intro h
  have h3:=Int.emod_add_mul_ediv v m
  rw[h]at h3
  have h4:=VI v (show 0<m by omega)
  omega
 ·intro h
  exact Int.ediv_eq_zero_of_lt h0 (by omega)
section
variable {p:Pr} {s:Ps} {hs hs':List Hd} {rs rs':List Bool}
theorem yn:gV p s hs rs=true↔(∀j,j<p.I.length→iM p s hs j=true)∧∀j,j<p.Uj.length→jZ p s hs rs j=true:=by
 unfold gV
 rw[Uo,bB,bB]
theorem BM (h:gV p s hs rs=true):aY p s hs rs=⟨true,cy p s (b5 p s hs),tab (nQ p s hs) p.I.length,tab (nR p s hs) p.Uj.length⟩:=Uw h
theorem LW (h:gV p s hs rs=true) {j:Nat} (hj:j<p.I.length) (Xe:(aY p s hs rs).pops.getD j false=true):(hs.getD j bu).has=true:=by
 rw[BM h]at Xe
 simp only at Xe
 rw[aX hj]at Xe
 have hh:=(yn.1 h).1 j hj
 unfold iM at hh
 unfold nQ at Xe
 rw[Xe]at hh
 simpa using hh
theorem Jp (h:gV p s hs rs=true) {j:Nat} (hj:j<p.Uj.length) (Xw:((aY p s hs rs).Uj.getD j bu).has=true):rs.getD j false=true:=by
 rw[BM h]at Xw
 simp only at Xw
 rw[aX hj]at Xw
 have hh:=(yn.1 h).2 j hj
 unfold jZ at hh
 unfold nR at Xw
 split at Xw
 ·rename_i hd;rw[hd]at hh;simpa using hh
 ·cases Xw
end
section
variable {c:Ci} {s:Ns} {w w':Nat→Bool}
theorem Fy (hc:cr c) {p:Nat} (hp:p<c.U.length) {f:Fi} (n:Nat):∀{k:Nat},k≤(a9 c p).Uj.length→((nW (a9 c p) f k).filter (fun e=>e.1==n)).length≤1
 | 0,_=>by simp[nW]
 | k+1,hk=>by
  have ih:=Fy hc hp (f:=f) n (k:=k) (by omega)
  rw[nW,List.filter_append,UK]
  by_cases h1:(f.Uj.getD k bu).has=true
  ·rw[Uw h1]
   by_cases e:uG (a9 c p) k=n
   ·have h0:(nW (a9 c p) f k).filter (fun e=>e.1==n)=[]:=by
     rw[List.filter_eq_nil_iff]
     intro z hz hzn
     obtain⟨j,g1,g2,g3,g4⟩:=sg hz
     have h5:z.1=n:=by simpa using hzn
     have:=hc.pd p hp j k (by omega) (by omega) (by rw[g3,e,h5])
     omega
    rw[h0]
    simp only[UR,U5]
    exact U6 (List.length_filter_le _ _) (by simp)
   ·rw[List.filter_cons_of_neg (by simpa using e),List.filter_nil];exact ih
  ·rw[Ur h1];exact ih
theorem wJ (hc:cr c) {p:Nat} (n:Nat):(xr c s p n).length≤1:=by
 by_cases hp:p<c.U.length
 ·unfold xr;rw[UB];exact Fy hc hp n (Ut _)
 ·rw[sj hp];simp
theorem BN {p n:Nat} {v:Int} (h:v∈xr c s p n):∃j,j<(a9 c p).Uj.length∧((ae c s p).Uj.getD j bu).has=true∧uG (a9 c p) j=n∧((ae c s p).Uj.getD j bu).v=v:=by
 unfold xr at h
 rw[List.mem_map]at h
 obtain⟨e,he,rfl⟩:=h
 rw[Wp]at he
 obtain⟨j,h1,h2,h3,h4⟩:=sg he.1
 exact⟨j,h1,h2,by rw[h3];simpa using he.2,h4⟩
theorem FA {p n:Nat} {v:Int} (h:v∈xr c s p n):p<c.U.length:=by
 by_cases hp:p<c.U.length
 ·exact hp
 ·rw[sj hp]at h;cases h
theorem yo {p n:Nat} (h:kK c s p n=true):∃j,j<(a9 c p).I.length∧(ae c s p).pops.getD j false=true∧u6 (a9 c p) j=n:=by
 unfold kK at h
 exact sf (VF h)
theorem He {p n:Nat} (XV:p8 c s p=true) (h:kK c s p n=true):0<(na s n).length:=by
 obtain⟨j,h1,h2,rfl⟩:=yo h
 rw[DB]at XV
 have:=LW XV h1 h2
 rw[cX,aX h1]at this
 unfold cf at this
 split at this
 ·assumption
 ·cases this
theorem yp {p:Nat} (h:aV c s w p=true):w p=true∧p8 c s p=true:=by
 unfold aV at h;simpa using h
theorem ss (c:Ci) (s:Ns) (w:Nat→Bool) {n:Nat} (hn:n<c.J.length):na (bx c s w) n=gu c s w n:=by
 show(tab _ _).getD n []=_
 rw[aX hn]
theorem BO (c:Ci) (s:Ns) (w:Nat→Bool) {p:Nat} (hp:p<c.U.length):tK (bx c s w) p=cQ c s w p:=by
 show(tab _ _).getD p a7=_
 rw[aX hp]
theorem Jq {α:Type} {a b:List α} {i:Nat} {d:α}:(a++b).getD i d=if i<a.length then a.getD i d else b.getD (i-a.length) d:=by
 simp only[List.getD,List.getElem?_append]
 split<;>rfl
theorem Hf {α:Type} {a:List α} {k i:Nat} {d:α}:(a.drop k).getD i d=a.getD (k+i) d:=by
 simp only[List.getD,VB]
theorem yq {α:Type} {l:List α} {i:Nat} {d:α} (h:i<l.length):l.getD i d∈l:=by
 simp[List.getD,Uq h]
theorem tP (hc:cr c) (hs:eG c s) (w:Nat→Bool):eG c (bx c s w) where
 pl:=by rw[bx];exact aJ _ _
 cl:=by rw[bx];exact aJ _ _
 pv:=fun p hp=>by
  rw[BO c s w hp]
  unfold cQ
  split
  ·exact xq (hc.pr p hp) (hs.pv p hp) (se hc hs hp)
  ·exact hs.pv p hp
 cv:=fun n hn i hi=>by
  rw[ss c s w hn]at hi ⊢
  unfold gu at hi ⊢
  rw[Jq]
  split
  ·rename_i h
   rw[Hf]
   rw[UW]at h
   exact hs.cv n hn _ (by omega)
  ·rename_i h
   rw[UK]at hi
   have hm:=yq (d:=(0:Int)) (show i-((na s n).drop (gF c s w n)).length<(gt c s w n).length by omega)
   generalize (gt c s w n).getD _ 0=v at hm
   unfold gt at hm
   split at hm
   ·have WL:=FA hm
    obtain⟨j,h1,h2,h3,h4⟩:=BN hm
    have:=zO (rs:=dy c s (nX c n)) (hc.pr _ WL) (hs.pv _ WL) (se hc hs WL) h1 h2
    rw[← (hc.pt _ WL j h1).2.2.1,h3]at this
    rw[← h4];exact this
   ·cases hm
 cc:=fun n hn hf hd=>by
  rw[ss c s w hn]
  unfold gu
  rw[UK,UW]
  have h0:=hs.cc n hn hf hd
  unfold gt
  split
  ·rename_i hfi
   have h1:=wJ (s:=s) hc (p:=nX c n) n
   by_cases h2:xr c s (nX c n) n=[]
   ·rw[h2];simp only[UR];omega
   ·obtain⟨v,hv⟩:=List.exists_mem_of_ne_nil _ h2
    have WL:=FA hv
    obtain⟨j,h1',h2',h3,h4⟩:=BN hv
    have XV:=(yp hfi).2
    rw[DB]at XV
    have hr:=Jp XV h1' h2'
    rw[dy,aX h1']at hr
    unfold cg at hr
    rw[h3]at hr
    simp only[U3,U8]at hr
    omega
  ·simp only[UR];omega
theorem Jr {p:Nat} (h:aV c s w p=false):cQ c s w p=tK s p:=by
 unfold cQ;rw[Ur (by rw[h];simp)]
theorem Js {p:Nat} (hs:c.U.length≤p):kK c s p=fun _=>false:=by
 funext n
 cases h:kK c s p n
 ·rfl
 ·exfalso
  obtain⟨j,h1,_⟩:=yo h
  have e:a9 c p=ac:=by rw[a9,List.getD,U1 (by omega)];rfl
  rw[e]at h1
  exact VN _ h1
theorem Jt (hs:eG c s) (h:∀p,p<c.U.length→aV c s w p=false):bx c s w=s:=by
 have e1:(bx c s w).U=s.U:=by
  refine k9 (d:=a7) (by rw[bx,aJ,hs.pl]) (fun p hp=>?_)
  rw[bx,aJ]at hp
  show tK (bx c s w) p=tK s p
  rw[BO c s w hp,Jr (h p hp)]
 have e2:(bx c s w).J=s.J:=by
  refine k9 (d:=[]) (by rw[bx,aJ,hs.cl]) (fun n hn=>?_)
  rw[bx,aJ]at hn
  show na (bx c s w) n=na s n
  rw[ss c s w hn,gu]
  have h1:gF c s w n=0:=by
   rw[gF]
   by_cases hd:tL c n<c.U.length
   ·rw[h _ hd];simp
   ·rw[Ur]
    rintro⟨_,h2⟩
    rw[Js (by omega)]at h2;cases h2
  have h2:gt c s w n=[]:=by
   rw[gt]
   by_cases hd:nX c n<c.U.length
   ·rw[h _ hd];simp
   ·split
    ·exact sj hd
    ·rfl
  rw[h1,h2];simp
 cases s;cases hq:bx c _ w
 rw[hq]at e1 e2
 simp only at e1 e2
 rw[e1,e2]
def Ju (p:Nat):Nat→Bool:=fun q=>decide (q=p)
end
def eI (a b:Ps):Bool:=decide (a.Ul=b.Ul)&&decide (a.Uk=b.Uk)
theorem jI {a b:Ps}:eI a b=true↔a=b:=by
 cases a;cases b;simp[eI]
theorem dp {α:Type} {a b:List α} {d:α} {k:Nat} (hl:a.length=b.length) (hk:¬k<a.length) (h:∀j,j<k→a.getD j d=b.getD j d):a=b :=
 k9 (d:=d) hl (fun i hi=>h i (by omega))
theorem l8 {a b:Ps} (h:¬a.Ul=b.Ul):eI a b=false:=Vu.2 (fun e=>h (by rw[jI.1 e]))
theorem l9 {a b:Ps} (h:¬a.Uk.length=b.Uk.length):eI a b=false:=Vu.2 (fun e=>h (by rw[jI.1 e]))
theorem ma {a b:Ps} {i:Nat} (h:¬a.Uk.getD i []=b.Uk.getD i []):eI a b=false:=Vu.2 (fun e=>h (by rw[jI.1 e]))
theorem mb {a b:Ps} (h1:a.Ul=b.Ul) (h2:a.Uk=b.Uk):eI a b=true:=jI.2 (by cases a;cases b;simp_all)
theorem aZ {α:Type} {f:Nat→α} {x:α} {enc:α→List V} {i:Nat} (h:i<137438953472) (hx:x=f i):(tab f i).length+([x].map enc).length≤137438953472∧(tab f i).map enc++[x].map enc=(tab f (i+1)).map enc:=by
 subst hx;exact o6 h
section
variable {c:Sc} {p:Pr} {s:Ps} {hs:List Hd} {rs:List Bool} {d:List Int} {i:Nat}
theorem Jv (ho:tG c p s d) {e:Ex} {v:Int} (ht:eF c e=some v) (h1:¬e.op=16) (h2:¬e.op=17) (h3:¬e.op=18):it e.op (dJ p s d e.args) e.k.n e.w.n=true∧Bx (dJ p s d e.args) (fx p s d e.args)=true:=by
 obtain⟨ws,hws,hc⟩:=gk ht
 obtain⟨hl,W7⟩:=l5 hws
 have hargs:∀i,i<e.args.length→(be p s d (e.args.getD i dE)).2=ws.getD i 0∧dR (be p s d (e.args.getD i dE)).1 (ws.getD i 0)∧ax (ws.getD i 0)=true:=fun i hi=>I1 ho _ _ _ (Ut _) (W7 i hi)
 obtain⟨q1,q2,q3,q4⟩:=Fd (c:=c) hl hargs
 have e1:dJ p s d e.args=ws:=by rw[← q1,dJ,Wn];rfl
 have e2:fx p s d e.args=(e.args.map (be p s d)).map (·.1):=by rw[fx,Wn];rfl
 rw[e1,e2]
 rcases hc with ⟨h,_⟩ | ⟨h,_⟩ | ⟨h,_⟩ | ⟨_,_,_,h,_⟩
 ·exact absurd h h1
 ·exact absurd h h3
 ·exact absurd h h2
 ·exact⟨h,q3⟩
theorem LX (h1:ew p s (i5 p) (jY p i).when=true) (h2:(hs.getD i bu).has=true):nh p s hs i=(hs.getD i bu).v:=Uw ⟨h1,h2⟩
theorem FB (h1:¬ew p s (i5 p) (jY p i).when=true):nh p s hs i=(i5 p).getD i 0:=by rw[wI];exact Ur (fun h=>h1 h.1)
theorem FC (h1:¬(hs.getD i bu).has=true):nh p s hs i=(i5 p).getD i 0:=by rw[wI];exact Ur (fun h=>h1 h.2)
theorem z3 (h:ew p s d (fK p i).enable=true):(s.Uk.getD i []).set (Int.tmod (be p s d (fK p i).addr).1 (fK p i).Um).toNat (be p s d (fK p i).data).1=qR p s d i:=(Uw h).symm
theorem FD (h:¬ew p s d (fK p i).enable=true):s.Uk.getD i []=qR p s d i:=(Ur h).symm
theorem FE (hp:gm p) (hs:ni p s) (hd:BF p d) (hi:i<p.Uk.length):0≤Int.tmod (be p s d (fK p i).addr).1 (fK p i).Um∧Int.tmod (be p s d (fK p i).addr).1 (fK p i).Um<(s.Uk.getD i []).length∧(fK p i).Um≠0:=by
 have h:=hp.mw i hi
 obtain⟨v,hv⟩:=h.2.2.2.1.1
 have h0:=(zN (iu hp hs hd) hv h.2.2.2.1.2).2.1.1
 have hm:=hs.mn i hi
 rw[hm]
 exact⟨Int.tmod_nonneg _ h0,Int.tmod_lt_of_pos _ (by omega),by omega⟩
theorem n9 {b:Bool} (h:b=cU (iM p s hs) i) (x:Bool) (hx:x=(b&&iM p s hs i)):x=cU (iM p s hs) (i+1):=by rw[hx,h];rfl
theorem tQ {a b:Bool} (h:b=(a&&cU (jZ p s hs rs) i)) (x:Bool) (hx:x=(b&&jZ p s hs rs i)):x=(a&&cU (jZ p s hs rs) (i+1)):=by rw[hx,h,cU,Bool.and_assoc]
end
def dF (f:Nat→Bool):Nat→Int
 | 0=>-1
 | n+1=>if cU (fun i=>!f i) n=true then (if f n=true then n else -1)else dF f n
theorem fa {f:Nat→Bool} {i:Nat} (hf:f i=true) (h:∀z,z<i→f z=false):∀{n:Nat},i<n→dF f n=i
 | 0,h0=>absurd h0 (VN _)
 | n+1,h0=>by
  rw[dF]
  by_cases e:i=n
  ·subst e
   rw[Uw (bB.2 (fun z hz=>by rw[h z hz];rfl)),Uw hf]
  ·rw[Ur (by rw[eV (show i<n by omega) (by simp[hf])];simp),fa hf h (by omega)]
theorem gX {f:Nat→Bool}:∀{n:Nat},(∀z,z<n→f z=false)→dF f n=-1
 | 0,_=>rfl
 | n+1,h=>by
  rw[dF,Uw (bB.2 (fun z hz=>by rw[h z (by omega)];rfl)),Ur (by rw[h n (by omega)];simp)]
theorem mc {f:Nat→Bool}:∀{n:Nat},decide (0≤dF f n)=!(cU (fun i=>!f i) n)
 | 0=>rfl
 | n+1=>by
  rw[dF]
  split
  ·rename_i h1
   rw[cU,h1]
   split
   ·rename_i h2;simp[h2]
   ·rename_i h2;simp[h2]
  ·rename_i h1
   rw[mc,cU]
   simp only[Wc]at h1
   rw[h1];rfl
theorem yr {ls:List (List Int)} {i:Nat} (h:i<ls.length):(ls.take (i+1)).flatten=(ls.take i).flatten++ls.getD i []:=by
 rw[VK h,List.flatten_append]
 simp[List.getD,Uq h]
theorem z4 {ls:List (List Int)} {i:Nat}:(ls.take i).flatten.length≤ls.flatten.length:=by
 conv=>rhs;rw[← List.take_append_drop i ls,List.flatten_append,UK]
 omega
theorem Jw {ls:List (List Int)} {i:Nat} (h:ls.length≤i):(ls.take i).flatten=ls.flatten:=by rw[VV h]
section
variable {c:Ci} {s:Ns}
theorem tR (h:¬s.U.length=c.U.length):cC c s=false:=by unfold cC;rw[Uy h];rfl
theorem tS (h:¬s.J.length=c.J.length):cC c s=false:=by unfold cC;rw[Uy h,U7];rfl
theorem tT {i:Nat} (hi:i<c.U.length) (h:ck (a9 c i) (tK s i)=false):cC c s=false:=by unfold cC;rw[eV hi h,U7];rfl
theorem iO {n:Nat} (hn:n<c.J.length) (h:jE c s n=false):cC c s=false:=by unfold cC;rw[eV hn h,U7]
theorem tU (h1:s.U.length=c.U.length) (h2:s.J.length=c.J.length) (h3:∀i,i<c.U.length→ck (a9 c i) (tK s i)=true) (h4:∀n,n<c.J.length→jE c s n=true):cC c s=true:=by
 unfold cC
 rw[Uz h1,Uz h2,bB.2 h3,bB.2 h4];rfl
end
theorem lf {c:Ci} {s:Ns} {n:Nat} (h:¬gq (na s n) (fy c n).w=true):jE c s n=false:=by
 simp only[Wc]at h
 unfold jE;rw[h,Wv]
theorem lg {c:Ci} {s:Ns} {n:Nat} (h0:0≤(fy c n).frm) (h1:0≤(fy c n).dst) (h:¬((na s n).length:Int)≤(fy c n).cap):jE c s n=false:=by
 unfold jE;rw[Uz h0,Uz h1,Uy h];simp
theorem DD {c:Ci} {s:Ns} {n:Nat} (h:gq (na s n) (fy c n).w=true) (h0:¬0≤(fy c n).frm):jE c s n=true:=by
 unfold jE;rw[h,Uy h0];rfl
theorem DE {c:Ci} {s:Ns} {n:Nat} (h:gq (na s n) (fy c n).w=true) (h0:¬0≤(fy c n).dst):jE c s n=true:=by
 unfold jE;rw[h,Uy h0,U7];rfl
theorem DF {c:Ci} {s:Ns} {n:Nat} (h:gq (na s n) (fy c n).w=true) (h0:((na s n).length:Int)≤(fy c n).cap):jE c s n=true:=by
 unfold jE;rw[h,Uz h0,Bool.or_true];rfl
def fb (c:Ci):Ns:=⟨tab (fun i=>b3 (a9 c i)) c.U.length,List.replicate c.J.length []⟩
theorem z5 {c:Ci} {s:Ns} {p m:Nat} (h:(fy c (uG (a9 c p) m)).dst=-1):cg c s p m=true:=by unfold cg;rw[Uz h];rfl
theorem oa {c:Ci} {s:Ns} {p m:Nat} (h:¬(fy c (uG (a9 c p) m)).dst=-1):cg c s p m=decide (((na s (uG (a9 c p) m)).length:Int)<(fy c (uG (a9 c p) m)).cap):=by unfold cg;rw[Uy h];rfl
def sA (s:Ns) (k:Nat):Prop:=∀n,(na s n).length≤k
theorem jl {sz:Nat} {α:Type} {enc:α→List V} {d:α}:dC .nils (.v (.sl sz enc d [])):=by
  intro S μ w u hu
  cases hu
  exact .v _ _ (.nil _ _ _ _ _ (by simp[maxLen]) (fun _=>rfl))
theorem BP {ag:Bool} {α:Type} {enc:α→List V} {d:α}:dC (.v .nmp) (.v (.sm ag enc d [])):=by
  intro S μ w u hu
  cases hu with
  | v _ _ h=>cases h;exact .v _ _ (.smn _ _ _)
theorem Jx:dC (.agg [.v (.str e0),.v (.str e0),.nils,.nils,.nils,.nils,.nils,.nils,.v .nmp,.v .nmp]) (gE true (nZ bR)) :=
  Jn ⟨Fu _,Fu _,jl,jl,jl,jl,jl,jl,BP,BP,trivial⟩
def iW (o:Ci) (s:Ns) (k:ByteArray):uK:=ak bR (bU o s o.U.length) k
def Qh (f:uK) (p:Pr):Ps:=⟨tab (fun i=>fJ f (p.Ul.getD i aI)) p.Ul.length,tab (fun i=>gW f (p.Uk.getD i ay)) p.Uk.length⟩
def kg (o n:Ci) (s:Ns) (i:Nat):Ps:=Qh (iW o s (jG n i)) (n.U.getD i ac)
def H2 (l:List ByteArray) (k:ByteArray):Bool:=l.any fun x=>decide (x=k)
def Qi (l:List ByteArray) (b:ByteArray):Int:=dF (fun i=>b.toList==(l.getD i .empty).toList) l.length
theorem FF (l:List ByteArray) (b:ByteArray):decide (Qi l b≥0)=H2 l b:=by
  show decide (0≤dF _ _)=_
  rw[mc]
  unfold H2
  cases h:l.any fun x=>decide (x=b)
  · rw[bB.2 (fun i hi=>?_)];· rfl
    rw[List.any_eq_false]at h
    have:=h (l.getD i .empty) (by rw[bJ _ _ hi];exact V0 hi)
    have Xt:¬(l.getD i .empty=b):=by simpa using this
    have:(b.toList==(l.getD i .empty).toList)=false:=beq_eq_false_iff_ne.2 (fun e=>Xt (toList_inj e).symm)
    rw[this];rfl
  · rw[VY]at h
    obtain⟨x,hx,hb⟩:=h
    have hb:x=b:=by simpa using hb
    obtain⟨i,hi,e⟩:=VT hx
    rw[eV (i:=i) hi (by rw[bJ _ _ hi,e,hb];simp)];rfl
def fW (o n:Ci):List ByteArray:=bv o n o.J.length
def Jy (o n:Ci) (i:Nat):Bool:=bc (l7 o) (bP n i)&&!H2 (fW o n) (bP n i)
def dT (o n:Ci) (s:Ns) (i:Nat):List Int:=if Jy o n i=true then s.J.getD (ak 0 (l7 o) (bP n i)).toNat []else []
def ie (o n:Ci) (s:Ns) (k:Nat):Bool:=decide (0<(s.J.getD (ak 0 (l7 o) ((fW o n).getD k .empty)).toNat []).length)
def df (o n:Ci) (s:Ns) (i:Nat):Bool:=decide (0<(n.J.getD i aK).cap)&&decide ((n.J.getD i aK).cap<((dT o n s i).length:Int))
def au (o n:Ci) (s:Ns):Ns×Int:=if (List.range (fW o n).length).any (ie o n s)||(List.range n.J.length).any (df o n s)then (⟨[],[]⟩,150)else (⟨tab (kg o n s) n.U.length,tab (dT o n s) n.J.length⟩,0)
theorem DG {o n:Ci} {s:Ns} {k:Nat} (hk:k<(fW o n).length) (h:ie o n s k=true):au o n s=(⟨[],[]⟩,150):=by
  unfold au
  rw[show(List.range (fW o n).length).any (ie o n s)=true from VY.2 ⟨k,Va.2 hk,h⟩];rfl
theorem qV {o n:Ci} {s:Ns} {i:Nat} (hi:i<n.J.length) (h:df o n s i=true):au o n s=(⟨[],[]⟩,150):=by
  unfold au
  rw[show(List.range n.J.length).any (df o n s)=true from VY.2 ⟨i,Va.2 hi,h⟩,Bool.or_true];rfl
theorem Jz {o n:Ci} {s:Ns} (h1:∀k,k<(fW o n).length→ie o n s k=false) (h2:∀i,i<n.J.length→df o n s i=false):au o n s=(⟨tab (kg o n s) n.U.length,tab (dT o n s) n.J.length⟩,0):=by
  have e1:(List.range (fW o n).length).any (ie o n s)=false:=by
    rw[List.any_eq_false];intro k hk;rw[h1 k (Va.1 hk)];simp
  have e2:(List.range n.J.length).any (df o n s)=false:=by
    rw[List.any_eq_false];intro k hk;rw[h2 k (Va.1 hk)];simp
  unfold au
  rw[e1,e2];rfl
theorem DH {o:Ci} {s:Ns} {k:ByteArray}:∀(n:Nat),ak bR (bU o s n) k=bR∨∃i,i<n∧ak bR (bU o s n) k=fA o s i
  | 0=>.inl rfl
  | n+1=>by
    rw[bU,fN]
    by_cases h:k=jG o n
    · rw[Uw h];exact .inr ⟨n,by omega,rfl⟩
    · rw[Ur h]
      rcases DH (o:=o) (s:=s) (k:=k) n with h1 | ⟨i,h1,h2⟩
      · exact .inl h1
      · exact .inr ⟨i,by omega,h2⟩
theorem JA {o:Ci} {s:Ns} (hs:∀i,i<o.U.length→(s.U.getD i a7).Ul.length=(o.U.getD i ac).Ul.length) (k q:ByteArray) (h:bc (iW o s k).Ul q=true):0≤ak 0 (iW o s k).Ul q∧ak 0 (iW o s k).Ul q<(iW o s k).p.Ul.length∧ak 0 (iW o s k).Ul q<(iW o s k).s.Ul.length:=by
  unfold iW at h ⊢
  rcases DH (o:=o) (s:=s) (k:=k) o.U.length with h1 | ⟨i,h1,h2⟩
  · rw[h1]at h;cases h
  · rw[h2]at h ⊢
    have:=yl _ h
    have hl:=hs i h1
    exact⟨this.1,this.2,by show _<((s.U.getD i a7).Ul.length:Int);rw[hl];exact this.2⟩
theorem JB {o:Ci} {s:Ns} (hs:∀i,i<o.U.length→(s.U.getD i a7).Uk.length=(o.U.getD i ac).Uk.length) (k q:ByteArray) (h:bc (iW o s k).Uk q=true):0≤ak 0 (iW o s k).Uk q∧ak 0 (iW o s k).Uk q<(iW o s k).p.Uk.length∧ak 0 (iW o s k).Uk q<(iW o s k).s.Uk.length:=by
  unfold iW at h ⊢
  rcases DH (o:=o) (s:=s) (k:=k) o.U.length with h1 | ⟨i,h1,h2⟩
  · rw[h1]at h;cases h
  · rw[h2]at h ⊢
    have:=yl _ h
    have hl:=hs i h1
    exact⟨this.1,this.2,by show _<((s.U.getD i a7).Uk.length:Int);rw[hl];exact this.2⟩
theorem Ni {f:Nat→ByteArray} {k:ByteArray}:∀(n:Nat),0<n→0≤ak 0 (cY [] f n) k∧ak 0 (cY [] f n) k<(n:Int)
  | 0,h=>by omega
  | n+1,_=>by
    rw[cY,fN]
    by_cases hk:k=f n
    · rw[Uw hk];omega
    · rw[Ur hk]
      rcases Nat.eq_zero_or_pos n with h0 | h0
      · subst h0;rw[cY,ak];omega
      · have:=Ni (f:=f) (k:=k) n h0;omega
theorem JC (o n:Ci):(fW o n).length≤o.J.length:=sk o n _
structure qp (o n:Ci) (s:Ns):Prop where
  ol:o.J.length≤1000000
  nl:n.J.length≤1000000
  op:o.U.length≤1000000
  np:n.U.length≤1000000
  sl:s.U.length=o.U.length
  sc:s.J.length=o.J.length
  sr:∀i,i<o.U.length→(s.U.getD i a7).Ul.length=(o.U.getD i ac).Ul.length
  sm:∀i,i<o.U.length→(s.U.getD i a7).Uk.length=(o.U.getD i ac).Uk.length
  orr:∀i,i<o.U.length→(o.U.getD i ac).Ul.length≤1000000∧(o.U.getD i ac).Uk.length≤1000000
  nr:∀i,i<n.U.length→(n.U.getD i ac).Ul.length≤1000000∧(n.U.getD i ac).Uk.length≤1000000
  rk:∀i,i<n.U.length→∀j,j<(n.U.getD i ac).Ul.length→0≤((n.U.getD i ac).Ul.getD j aI).Un.kind∧((n.U.getD i ac).Ul.getD j aI).Un.kind≤3
  mk':∀i,i<n.U.length→∀j,j<(n.U.getD i ac).Uk.length→(0≤((n.U.getD i ac).Uk.getD j ay).Un.kind∧((n.U.getD i ac).Uk.getD j ay).Un.kind≤3)∧0≤((n.U.getD i ac).Uk.getD j ay).Um∧((n.U.getD i ac).Uk.getD j ay).Um≤1000000
  sw:∀i,(s.J.getD i []).length≤1000000
def fX (r q:Rg):Bool:=(q.name.toList==r.name.toList)&&(decide (q.w=r.w)&&decide (q.Un.kind=1))
def ft (r q:Mm):Bool:=(q.name.toList==r.name.toList)&&(decide (q.w=r.w)&&(decide (q.Um=r.Um)&&decide (q.Un.kind=1)))
def LZ (l:List Rg) (r:Rg):Bool:=!(cU (fun i=>!fX r (l.getD i aI)) l.length)
def L0 (l:List Mm) (r:Mm):Bool:=!(cU (fun i=>!ft r (l.getD i ay)) l.length)
def kh (p q:Pr):Bool:=cU (fun i=>LZ q.Ul (p.Ul.getD i aI)) p.Ul.length&&cU (fun i=>L0 q.Uk (p.Uk.getD i ay)) p.Uk.length
theorem tV {p q:Pr} {i:Nat} (hi:i<p.Ul.length) (h:LZ q.Ul (p.Ul.getD i aI)=false):kh p q=false:=by unfold kh;rw[eV hi h];rfl
theorem tW {p q:Pr} {i:Nat} (hi:i<p.Uk.length) (h:L0 q.Uk (p.Uk.getD i ay)=false):kh p q=false:=by unfold kh;rw[eV hi h,U7]
theorem tX {p q:Pr} (h1:∀i,i<p.Ul.length→LZ q.Ul (p.Ul.getD i aI)=true) (h2:∀i,i<p.Uk.length→L0 q.Uk (p.Uk.getD i ay)=true):kh p q=true:=by unfold kh;rw[bB.2 h1,bB.2 h2];rfl
def kk (c:Ci) (k:ByteArray):Nat→Pr
 | 0=>ac
 | j+1=>if (jG c j).toList==k.toList then c.U.getD j ac else kk c k j
theorem BQ {c:Ci} {k:ByteArray} {j:Nat} (h:((jG c j).toList==k.toList)=true):kk c k (j+1)=c.U.getD j ac:=by rw[kk,Uw h]
theorem FG {c:Ci} {k:ByteArray} {j:Nat} (h:((jG c j).toList==k.toList)=false):kk c k j=kk c k (j+1):=by rw[kk,Ur (by rw[h];exact Bool.false_ne_true)]
def wK (x:Ch):Int:=if x.cap=0 then 8 else x.cap
theorem md {x:Ch} (h:x.cap=0):wK x=8:=by rw[wK,Uw h]
theorem mf {x:Ch} (h:¬x.cap=0):wK x=x.cap:=by rw[wK,Ur h]
def yu (o n:Ci) (i:Nat):Int:=(n.J.getD (ak 0 (l7 n) (bP o i)).toNat aK).cap
def qq (o n:Ci) (i:Nat):Bool:=!(decide (0<yu o n i)&&decide (yu o n i<wK (o.J.getD i aK)))
def nc (o n:Ci) (i:Nat):Bool:=kh (o.U.getD i ac) (kk n (jG o i) n.U.length)
def d6 (o n:Ci):Bool:=(bv o n o.J.length).isEmpty&&(cU (qq o n) o.J.length&&cU (nc o n) o.U.length)
theorem lh {o n:Ci} (h:0<(bv o n o.J.length).length):d6 o n=false:=by
 unfold d6;cases hm:bv o n o.J.length with
 | nil=>rw[hm]at h;simp at h
 | cons a l=>rfl
theorem li {o n:Ci} {i:Nat} (hi:i<o.J.length) (h1:0<yu o n i) (h2:yu o n i<wK (o.J.getD i aK)):d6 o n=false:=by
 unfold d6;rw[eV hi (show qq o n i=false by unfold qq;rw[Uz h1,Uz h2];rfl),Wv,U7]
theorem jm {o n:Ci} {i:Nat} (hi:i<o.U.length) (h:nc o n i=false):d6 o n=false:=by
 unfold d6;rw[eV hi h,U7,U7]
theorem lj {o n:Ci} (h1:¬0<(bv o n o.J.length).length) (h2:∀i,i<o.J.length→qq o n i=true) (h3:∀i,i<o.U.length→nc o n i=true):d6 o n=true:=by
 have e:bv o n o.J.length=[]:=U0 (by omega)
 unfold d6;rw[e,bB.2 h2,bB.2 h3];rfl
theorem z6 {o n:Ci} {i:Nat} (h:¬0<yu o n i):qq o n i=true:=by unfold qq;rw[Uy h];rfl
theorem z7 {o n:Ci} {i:Nat} (h:¬yu o n i<wK (o.J.getD i aK)):qq o n i=true:=by unfold qq;rw[Uy h,U7];rfl
theorem yv {o n:Ci}:∀{k:Nat},bv o n k=[]→∀i,i<k→jH o n i=false
 | 0,_,i,hi=>by omega
 | k+1,h,i,hi=>by
  rw[bv]at h
  have h':=List.append_eq_nil_iff.1 h
  rcases Nat.lt_or_ge i k with hk | hk
  ·exact yv h'.1 i hk
  ·have:i=k:=by omega
   subst this
   cases hp:jH o n i
   ·rfl
   ·rw[hp]at h';simp at h'
theorem Hg {o n:Ci} {i:Nat} (h:jH o n i=false):bc (l7 n) (bP o i)=true∧(n.J.getD (ak 0 (l7 n) (bP o i)).toNat aK).w=(o.J.getD i aK).w:=by
 unfold jH at h
 rw[Bool.or_eq_false_iff]at h
 simpa using h
theorem JD {o n:Ci} (h:¬(((bv o n o.J.length).length:Nat):Int)>0) {k:Nat} (hk:k<o.J.length):0≤ak 0 (cY [] (bP n) n.J.length) (o.J.getD k aK).name∧ak 0 (cY [] (bP n) n.J.length) (o.J.getD k aK).name<(n.J.length:Int) :=
 yl (f:=bP n) n.J.length (Hg (yv (U0 (by omega)) k hk)).1
def JE (p:Pr):Prop:=p.Ul.length≤1000000∧p.Uk.length≤1000000
theorem FH {c:Ci} {k:ByteArray} (h:∀j,j<c.U.length→JE (c.U.getD j ac)):∀r,r≤c.U.length→JE (kk c k r)
 | 0,_=>⟨by simp[kk],by simp[kk]⟩
 | r+1,hr=>by
  rw[kk]
  split
  ·exact h r (by omega)
  ·exact FH h r (by omega)
def tY (c:Ci) (k:ByteArray):Int:=dF (fun i=>(c.J.getD i aK).name.toList==k.toList) c.J.length
def DI (o n:Ci) (i:Nat):Bool:=decide (tY n (bP o i)<0)||!decide ((n.J.getD (tY n (bP o i)).toNat aK).w=(o.J.getD i aK).w)
def Nj (o n:Ci):Nat→List ByteArray
 | 0=>[]
 | i+1=>Nj o n i++(if DI o n i=true then [bP o i]else [])
theorem RA {o n:Ci} {i:Nat} (h:tY n (bP o i)<0):DI o n i=true:=by unfold DI;rw[Uz h];rfl
def Hh (q:Pr) (k:ByteArray):Int:=dF (fun i=>(q.Ul.getD i aI).name.toList==k.toList) q.Ul.length
def DJ (q:Pr) (k:ByteArray):Int:=dF (fun i=>(q.Uk.getD i ay).name.toList==k.toList) q.Uk.length
def BR (c:Ci) (k:ByteArray):Int:=dF (fun i=>(c.U.getD i ac).name.toList==k.toList) c.U.length
def DK (f:Nat→ByteArray) (n:Nat) (k:ByteArray):Int:=dF (fun i=>(f i).toList==k.toList) n
def iP (f:Nat→ByteArray) (n:Nat):Prop:=∀i,i<n→∀i',i'<i→f i'≠f i
theorem iP.inj {f:Nat→ByteArray} {n:Nat} (h:iP f n) {i j:Nat} (hi:i<n) (hj:j<n) (e:f i=f j):i=j:=by
 rcases Nat.lt_trichotomy i j with h1 | h1 | h1
 ·exact absurd e (h j hj i h1)
 ·exact h1
 ·exact absurd e.symm (h i hi j h1)
theorem tZ {f:Nat→ByteArray} {n j:Nat} (h:iP f n) (hj:j<n):DK f n (f j)=(j:Int) :=
 fa (by simp) (fun z hz=>beq_eq_false_iff_ne.2 (fun e=>h j hj z hz (toList_inj e))) hj
theorem Oi {f:Nat→ByteArray} {n:Nat} {k:ByteArray} (h:∀j,j<n→f j≠k):DK f n k=-1 :=
 gX (fun z hz=>beq_eq_false_iff_ne.2 (fun e=>h z hz (toList_inj e)))
theorem kL {f:Nat→ByteArray} {n:Nat} (h:iP f n) (k:ByteArray) :
  (∃j,j<n∧f j=k∧bc (cY [] f n) k=true∧ak 0 (cY [] f n) k=(j:Int)∧DK f n k=(j:Int)) ∨
  ((∀j,j<n→f j≠k)∧bc (cY [] f n) k=false∧DK f n k=-1):=by
 by_cases hh:∃j,j<n∧f j=k
 ·obtain⟨j,hj,e⟩:=hh
  subst e
  exact .inl ⟨j,hj,rfl,(DC n).2 ⟨j,hj,rfl⟩,zU n hj h,tZ h hj⟩
 ·have h1:∀j,j<n→f j≠k:=fun j hj e=>hh ⟨j,hj,e⟩
  refine .inr ⟨h1,?_,Oi h1⟩
  cases hm:bc (cY [] f n) k
  ·rfl
  ·exact absurd ((DC n).1 hm) hh
structure kM (c:Ci):Prop where
 cn:iP (bP c) c.J.length
 pn:iP (jG c) c.U.length
 rn:∀i,i<c.U.length→iP (l6 (c.U.getD i ac)) (c.U.getD i ac).Ul.length
 mn:∀i,i<c.U.length→iP (tN (c.U.getD i ac)) (c.U.getD i ac).Uk.length
theorem JF {n:Ci} (h:iP (bP n) n.J.length) (o:Ci) (i:Nat):jH o n i=DI o n i:=by
 unfold jH DI l7
 rw[show tY n (bP o i)=DK (bP n) n.J.length (bP o i)from rfl]
 rcases kL h (bP o i)with ⟨j,_,_,h1,h2,h3⟩ | ⟨_,h1,h3⟩
 ·rw[h1,h2,h3]
  rw[show decide ((j:Int)<0)=false from Uy (by omega)]
  rfl
 ·rw[h1,h3];rfl
theorem sB {n:Ci} (h:iP (bP n) n.J.length) (o:Ci):∀k,bv o n k=Nj o n k
 | 0=>rfl
 | k+1=>by rw[bv,Nj,sB h o k,JF h]
theorem FI {f:Nat→Bool} {n:Nat}:(!cU (fun i=>!f i) n)=true↔∃i,i<n∧f i=true:=by
 rw[U2,← Wc,bB]
 constructor
 ·intro h
  refine Classical.byContradiction fun hn=>h fun i hi=>?_
  cases hf:f i
  ·rfl
  ·exact absurd ⟨i,hi,hf⟩ hn
 ·intro ⟨i,hi,hf⟩ h
  have:=h i hi
  rw[hf]at this;cases this
structure Sr where
 is:Bool
 p:Pr
 s:Ps
abbrev Qj:Sr:=⟨false,ac,a7⟩
def Oj (r:Rg) (f:Sr):Int :=
 if f.is=true∧2≤r.Un.kind then Hh f.p r.Un.src
 else if f.is=true∧r.Un.kind=1 then (if 0≤Hh f.p r.name∧¬(f.p.Ul.getD (Hh f.p r.name).toNat aI).w=r.w then -1 else Hh f.p r.name)else -1
def JG (r:Rg) (f:Sr):Int:=if 0≤Oj r f then nb (f.s.Ul.getD (Oj r f).toNat 0) r.w else r.init
def BS (r:Rg) (f:Sr):Int:=if r.Un.kind=3 then nb (JG r f+nb r.Un.n r.w) r.w else JG r f
def Nk (m:Mm) (f:Sr):Int :=
 if f.is=true∧2≤m.Un.kind then DJ f.p m.Un.src
 else if f.is=true∧m.Un.kind=1 then (if 0≤DJ f.p m.name∧(¬(f.p.Uk.getD (DJ f.p m.name).toNat ay).w=m.w∨¬(f.p.Uk.getD (DJ f.p m.name).toNat ay).Um=m.Um)then -1 else DJ f.p m.name)else -1
def JH (m:Mm) (f:Sr) (k:Nat):Int:=if 0≤Nk m f∧k<(f.s.Uk.getD (Nk m f).toNat []).length then nb ((f.s.Uk.getD (Nk m f).toNat []).getD k 0) m.w else 0
def xt (m:Mm) (f:Sr) (k:Nat):Int:=if m.Un.kind=3 then nb (JH m f k+nb m.Un.n m.w) m.w else JH m f k
theorem i7 {a b w:Int}:nb (a+nb b w) w=nb (a+b) w:=by
 unfold nb
 by_cases h:0≤w∧w≤62
 ·rw[Uw h,Uw h,Uw h];exact Int.add_emod_emod _ _ _
 ·rw[Ur h,Ur h]
def Nl (p:Pr) (f:Sr):Ps:=⟨tab (fun i=>BS (p.Ul.getD i aI) f) p.Ul.length,tab (fun i=>tab (xt (p.Uk.getD i ay) f) (p.Uk.getD i ay).Um.toNat) p.Uk.length⟩
def Ok (o n:Ci) (s:Ns) (i:Nat):Sr:=if 0≤BR o (jG n i)then ⟨true,o.U.getD (BR o (jG n i)).toNat ac,s.U.getD (BR o (jG n i)).toNat a7⟩else Qj
def t0 (o n:Ci) (s:Ns) (i:Nat):Ps:=Nl (n.U.getD i ac) (Ok o n s i)
def yw (o n:Ci):List ByteArray:=Nj o n o.J.length
def yx (o n:Ci) (s:Ns) (i:Nat):Bool:=H2 (yw o n) (bP o i)&&decide (0<(s.J.getD i []).length)
def uL (o n:Ci) (s:Ns) (i:Nat):List Int:=if 0≤tY o (bP n i)∧H2 (yw o n) (bP o (tY o (bP n i)).toNat)=false then s.J.getD (tY o (bP n i)).toNat []else []
def pb (o n:Ci) (s:Ns) (i:Nat):Bool:=decide (0<(n.J.getD i aK).cap)&&decide ((n.J.getD i aK).cap<((uL o n s i).length:Int))
def FJ (o n:Ci) (s:Ns):Ns×Int:=if !(cU (fun i=>!yx o n s i) o.J.length&&cU (fun i=>!pb o n s i) n.J.length)then (⟨[],[]⟩,150)else (⟨tab (t0 o n s) n.U.length,tab (uL o n s) n.J.length⟩,0)
theorem L1 {o n:Ci} {s:Ns} (h1:∀k,k<o.J.length→yx o n s k=false) (h2:∀k,k<n.J.length→pb o n s k=false):FJ o n s=(⟨tab (t0 o n s) n.U.length,tab (uL o n s) n.J.length⟩,0):=by
 unfold FJ;rw[bB.2 (fun i hi=>by rw[h1 i hi];rfl),bB.2 (fun i hi=>by rw[h2 i hi];rfl)];rfl
structure JI (o n:Ci) (s:Ns):Prop extends qp o n s where
 rw:∀i,i<n.U.length→∀j,j<(n.U.getD i ac).Ul.length→0≤((n.U.getD i ac).Ul.getD j aI).w∧((n.U.getD i ac).Ul.getD j aI).w≤62
 mw:∀i,i<n.U.length→∀j,j<(n.U.getD i ac).Uk.length→0≤((n.U.getD i ac).Uk.getD j ay).w∧((n.U.getD i ac).Uk.getD j ay).w≤62
 sz:∀i j,((s.U.getD i a7).Uk.getD j []).length≤1000000
theorem Ol {o n:Ci} {s:Ns} {i:Nat} (h:0≤BR o (jG n i)):Ok o n s i=⟨true,o.U.getD (BR o (jG n i)).toNat ac,s.U.getD (BR o (jG n i)).toNat a7⟩:=Uw h
theorem JJ {o:Ci} {s:Ns} {j:Nat}:∀(m:Nat),j<m→iP (jG o) m→ak bR (bU o s m) (jG o j)=fA o s j
 | 0,h,_=>by omega
 | m+1,h,hd=>by
  rw[bU,fN]
  by_cases hj:j=m
  ·subst hj;rw[Uw rfl]
  ·rw[Ur (hd m (by omega) j (by omega))]
   exact JJ m (by omega) (fun i hi=>hd i (by omega))
theorem JK {o:Ci} {s:Ns} {k:ByteArray}:∀(m:Nat),(∀j,j<m→jG o j≠k)→ak bR (bU o s m) k=bR
 | 0,_=>rfl
 | m+1,h=>by
  rw[bU,fN,Ur (fun e=>h m (by omega) e.symm)]
  exact JK m (fun j hj=>h j (by omega))
theorem L2 (r:Rg) (hk:0≤r.Un.kind∧r.Un.kind≤3):fJ bR r=BS r Qj:=by
 have h0:qo bR r=false:=by
  unfold qo
  have:zX bR r=false:=rfl
  rw[this,Ur (by simp)]
 have h1:Oj r Qj=-1:=by unfold Oj;rw[Ur (by simp),Ur (by simp)]
 unfold fJ de BS JG sn fB
 rw[h0,h1]
 by_cases h3:r.Un.kind=3
 ·rw[Ur (by show ¬r.Un.kind=0;omega),Uw h3,Uw h3,i7];rfl
 ·rw[Ur h3,Ur h3];simp
theorem JL {o:Ci} {s:Ns} {k:Nat} (h:iP (l6 (o.U.getD k ac)) (o.U.getD k ac).Ul.length) (r:Rg) (hk:0≤r.Un.kind∧r.Un.kind≤3) :
  fJ (fA o s k) r=BS r ⟨true,o.U.getD k ac,s.U.getD k a7⟩:=by
 generalize hp:o.U.getD k ac=p at h ⊢
 have e1:(fA o s k).Ul=cY [] (l6 p) p.Ul.length:=by unfold fA;rw[hp]
 have e2:(fA o s k).p=p:=by unfold fA;rw[hp]
 have e3:(fA o s k).s=s.U.getD k a7:=rfl
 have hI:∀q,Hh p q=DK (l6 p) p.Ul.length q:=fun _=>rfl
 unfold fJ qo zX BK
 rw[e1,e2,e3]
 unfold BS JG Oj
 simp only[hI]
 have hkc:r.Un.kind=0∨r.Un.kind=1∨r.Un.kind=2∨r.Un.kind=3:=by omega
 rcases hkc with h0 | h0 | h0 | h0
 ·simp[de,h0]
 ·have XX:aD r.name r.Un=r.name:=Uw h0
  rw[XX]
  rcases kL h r.name with ⟨j,hj,e,h1,h2,h3⟩ | ⟨_,h1,h3⟩
  ·rw[h1,h2,h3]
   by_cases hw:(p.Ul.getD j aI).w=r.w
   ·simp only[de,fB,h0,Vd,hw]
    simp
   ·have hw':¬(p.Ul[j]?.getD aI).w=r.w:=by simpa[Vj]using hw
    simp[de,fB,h0,hw']
  ·rw[h1,h3];simp[de,fB,h0]
 ·have XX:aD r.name r.Un=r.Un.src:=Ur (by omega)
  rw[XX]
  rcases kL h r.Un.src with ⟨j,hj,e,h1,h2,h3⟩ | ⟨_,h1,h3⟩
  ·rw[h1,h2,h3];simp[de,fB,h0]
  ·rw[h1,h3];simp[de,fB,h0]
 ·have XX:aD r.name r.Un=r.Un.src:=Ur (by omega)
  rw[XX]
  rcases kL h r.Un.src with ⟨j,hj,e,h1,h2,h3⟩ | ⟨_,h1,h3⟩
  ·rw[h1,h2,h3];simp[de,sn,fB,h0,i7]
  ·rw[h1,h3];simp[de,sn,fB,h0,i7]
theorem JM (m:Mm) (hk:0≤m.Un.kind∧m.Un.kind≤3) (k:Nat):dn bR m k=xt m Qj k:=by
 have h0:fq bR m=false:=by
  unfold fq
  have:bc bR.Uk (aD m.name m.Un)=false:=rfl
  rw[this,Ur (by simp)]
 have h1:Nk m Qj=-1:=by unfold Nk;rw[Ur (by simp),Ur (by simp)]
 rw[gv h0]
 unfold de xt JH sn fB
 rw[h1]
 by_cases h3:m.Un.kind=3
 ·rw[Ur (by show ¬m.Un.kind=0;omega),Uw h3,Uw h3,i7];rfl
 ·rw[Ur h3,Ur h3];simp
theorem L3 {o:Ci} {s:Ns} {k:Nat} (h:iP (tN (o.U.getD k ac)) (o.U.getD k ac).Uk.length) (m:Mm) (hk:0≤m.Un.kind∧m.Un.kind≤3) (z:Nat) :
  dn (fA o s k) m z=xt m ⟨true,o.U.getD k ac,s.U.getD k a7⟩ z:=by
 generalize hp:o.U.getD k ac=p at h ⊢
 have e1:(fA o s k).Uk=cY [] (tN p) p.Uk.length:=by unfold fA;rw[hp]
 have e2:(fA o s k).p=p:=by unfold fA;rw[hp]
 have e3:(fA o s k).s=s.U.getD k a7:=rfl
 have hI:∀q,DJ p q=DK (tN p) p.Uk.length q:=fun _=>rfl
 unfold dn ym fq
 rw[e1,e2,e3]
 unfold xt JH Nk
 simp only[hI]
 have hkc:m.Un.kind=0∨m.Un.kind=1∨m.Un.kind=2∨m.Un.kind=3:=by omega
 rcases hkc with h0 | h0 | h0 | h0
 ·simp[de,h0]
 ·have XX:aD m.name m.Un=m.name:=Uw h0
  rw[XX]
  rcases kL h m.name with ⟨j,hj,e,h1,h2,h3⟩ | ⟨_,h1,h3⟩
  ·rw[h1,h2,h3]
   by_cases hw:(p.Uk[j]?.getD ay).w=m.w
   ·by_cases hv:(p.Uk[j]?.getD ay).Um=m.Um
    ·by_cases hl:z<((s.U.getD k a7).Uk[j]?.getD []).length
     ·simp[de,fB,h0,hw,hv,hl]<;>simp_all
     ·simp[de,fB,h0,hw,hv,hl]<;>simp_all
    ·simp[de,fB,h0,hw,hv]
   ·simp[de,fB,h0,hw]
  ·rw[h1,h3];simp[de,fB,h0]
 ·have XX:aD m.name m.Un=m.Un.src:=Ur (by omega)
  rw[XX]
  rcases kL h m.Un.src with ⟨j,hj,e,h1,h2,h3⟩ | ⟨_,h1,h3⟩
  ·rw[h1,h2,h3]
   by_cases hl:z<((s.U.getD k a7).Uk[j]?.getD []).length
   ·simp[de,fB,h0,hl]<;>simp_all
   ·simp[de,fB,h0,hl]<;>simp_all
  ·rw[h1,h3];simp[de,fB,h0]
 ·have XX:aD m.name m.Un=m.Un.src:=Ur (by omega)
  rw[XX]
  rcases kL h m.Un.src with ⟨j,hj,e,h1,h2,h3⟩ | ⟨_,h1,h3⟩
  ·rw[h1,h2,h3]
   by_cases hl:z<((s.U.getD k a7).Uk[j]?.getD []).length
   ·simp[de,sn,fB,h0,hl,i7]<;>simp_all
   ·simp[de,sn,fB,h0,hl,i7]<;>simp_all
  ·rw[h1,h3]
   have:=i7 (a:=0) (b:=m.Un.n) (w:=m.w)
   rw[Int.zero_add,Int.zero_add]at this
   simp[de,sn,fB,h0,this]
def DL (p:Pr):Prop:=(∀j,j<p.Ul.length→0≤(p.Ul.getD j aI).Un.kind∧(p.Ul.getD j aI).Un.kind≤3)∧∀j,j<p.Uk.length→0≤(p.Uk.getD j ay).Un.kind∧(p.Uk.getD j ay).Un.kind≤3
theorem JN {o n:Ci} {s:Ns} (ho:kM o) {i:Nat} (hr:DL (n.U.getD i ac)):kg o n s i=t0 o n s i:=by
 unfold kg t0 Qh Nl iW Ok
 rw[show BR o (jG n i)=DK (jG o) o.U.length (jG n i)from rfl]
 rcases kL ho.pn (jG n i)with ⟨j,hj,e,_,_,h3⟩ | ⟨h1,_,h3⟩
 ·rw[h3,Uw (by omega),← e,JJ _ hj ho.pn,Vd]
  rw[cH (fun q hq=>JL (ho.rn j hj) _ (hr.1 q hq)),cH (fun q hq=>show gW _ _=tab (xt _ _) _ from cH (f:=dn _ _) (fun z _=>L3 (ho.mn j hj) _ (hr.2 q hq) z))]
 ·rw[h3,Ur (by omega),JK _ h1]
  rw[cH (fun q hq=>L2 _ (hr.1 q hq)),cH (fun q hq=>show gW _ _=tab (xt _ _) _ from cH (f:=dn _ _) (fun z _=>JM _ (hr.2 q hq) z))]
theorem vB {o n:Ci} {s:Ns} (ho:kM o) (hn:kM n) (i:Nat):dT o n s i=uL o n s i:=by
 unfold dT uL Jy fW yw l7
 rw[sB hn.cn]
 rw[show tY o (bP n i)=DK (bP o) o.J.length (bP n i)from rfl]
 rcases kL ho.cn (bP n i)with ⟨j,hj,e,h1,h2,h3⟩ | ⟨h1,h2,h3⟩
 ·rw[h1,h2,h3,Vd,e]
  cases H2 (Nj o n o.J.length) (bP n i)
  ·rw[Uw (by simp),Uw ⟨by omega,rfl⟩]
  ·rw[Ur (by simp),Ur (by simp)]
 ·rw[h2,h3,Ur (by simp),Ur (by simp)]
theorem Aa {l:List ByteArray} {k:ByteArray}:H2 l k=true↔k∈l:=by
 unfold H2
 rw[VY]
 exact⟨fun ⟨x,hx,e⟩=>VF e ▸ hx,fun h=>⟨k,h,Uz rfl⟩⟩
theorem Ab {o n:Ci} {k:ByteArray}:∀m,k∈Nj o n m↔∃j,j<m∧DI o n j=true∧bP o j=k
 | 0=>by simp[Nj]
 | m+1=>by
  rw[Nj,Vp,Ab m]
  constructor
  ·rintro(⟨j,hj,a,b⟩ | h)
   ·exact⟨j,by omega,a,b⟩
   ·by_cases hp:DI o n m=true
    ·rw[Uw hp]at h;exact⟨m,by omega,hp,(VH.1 h).symm⟩
    ·rw[Ur hp]at h;cases h
  ·rintro⟨j,hj,a,b⟩
   by_cases hm:j=m
   ·subst hm;rw[Uw a];exact .inr (VH.2 b.symm)
   ·exact .inl ⟨j,by omega,a,b⟩
theorem JO {o n:Ci} {s:Ns} (ho:kM o) (hn:kM n):(List.range (fW o n).length).any (ie o n s)=!cU (fun i=>!yx o n s i) o.J.length:=by
 rw[Bool.eq_iff_iff,FI,VY]
 constructor
 ·rintro⟨k,hk,h⟩
  have hk:=Va.1 hk
  have hm:(fW o n).getD k .empty∈fW o n:=by rw[bJ _ _ hk];exact V0 hk
  unfold fW at hm
  rw[sB hn.cn]at hm
  obtain⟨j,hj,hp,e⟩:=(Ab _).1 hm
  refine⟨j,hj,?_⟩
  unfold yx
  rw[Uo]
  refine⟨Aa.2 ((Ab _).2 ⟨j,hj,hp,rfl⟩),?_⟩
  unfold ie fW at h
  rw[sB hn.cn,← e,show ak 0 (l7 o) (bP o j)=(j:Int)from zU _ hj ho.cn]at h
  exact h
 ·rintro⟨j,hj,h⟩
  unfold yx at h
  rw[Uo]at h
  have hm:=Aa.1 h.1
  obtain⟨k,hk,e⟩:=VT hm
  have hg:fW o n=yw o n:=sB hn.cn _ _
  refine⟨k,Va.2 (by rw[hg];exact hk),?_⟩
  unfold ie
  rw[hg,bJ _ _ hk,e,show ak 0 (l7 o) (bP o j)=(j:Int)from zU _ hj ho.cn]
  exact h.2
theorem L4 {o n:Ci} {s:Ns} (ho:kM o) (hn:kM n) (hr:∀i,i<n.U.length→DL (n.U.getD i ac)):au o n s=FJ o n s:=by
 have Xg:∀i,df o n s i=pb o n s i:=fun i=>by unfold df pb;rw[vB ho hn]
 have h2:(List.range n.J.length).any (df o n s)=!cU (fun i=>!pb o n s i) n.J.length:=by
  rw[Bool.eq_iff_iff,FI,VY]
  exact⟨fun ⟨k,hk,h⟩=>⟨k,Va.1 hk,by rw[← Xg];exact h⟩,fun ⟨k,hk,h⟩=>⟨k,Va.2 hk,by rw[Xg];exact h⟩⟩
 unfold au FJ
 rw[JO ho hn,h2,cH (fun i hi=>JN ho (hr i hi)),cH (fun i _=>vB ho hn i),Bool.not_and]
abbrev rz:Fi:=⟨false,⟨[],[]⟩,[],[]⟩
def xu (k:Int) (q:Nat):Bool:=decide ((q:Int)=k)
def bE (c:Ci) (cl:ByteArray) (q:Nat):Bool:=(a9 c q).clock.toList==cl.toList
def Nn (c:Ci) (s:Ns) (w:Nat→Bool) (p:Nat):Fi:=if w p=true then ae c s p else rz
section
variable {c:Ci} {s:Ns} {w:Nat→Bool} {i k:Nat}
theorem No (h:(!w i)=true):aV c s w i=false:=by
 unfold aV;cases hw:w i
 ·rfl
 ·rw[hw]at h;cases h
theorem JP (h:p8 c s i=false):aV c s w i=false:=by unfold aV;rw[h,U7]
theorem JQ (h:(!w i)=false) (h2:p8 c s i=true):aV c s w i=true:=by
 unfold aV;cases hw:w i
 ·rw[hw]at h;cases h
 ·rw[h2];rfl
theorem RB (h:aV c s w i=true):w i=true∧p8 c s i=true:=by unfold aV at h;simpa using h
theorem FK (h:aV c s w i=false):tK s i=cQ c s w i:=by unfold cQ;rw[Ur (by rw[h];simp)]
theorem JR (h:aV c s w i=true):(ae c s i).s=cQ c s w i:=by unfold cQ;rw[Uw h]
theorem Qk (h:(!w i)=true):rz=Nn c s w i:=by
 unfold Nn;cases hw:w i
 ·rw[Ur (by simp)]
 ·rw[hw]at h;cases h
theorem JS (h:(!w i)=false):ae c s i=Nn c s w i:=by
 unfold Nn;cases hw:w i
 ·rw[hw]at h;cases h
 ·rw[Uw rfl]
theorem vC (h:aV c s w i=false):iv c s w (i+1)=iv c s w i:=by rw[iv,Ur (by rw[h];simp),Vq]
theorem BT (h:aV c s w i=true):iv c s w (i+1)=iv c s w i++nU (a9 c i) (ae c s i) (a9 c i).I.length:=by rw[iv,Uw h]
theorem Ac (h:aV c s w i=false):kJ c s w (i+1)=kJ c s w i:=by rw[kJ,Ur (by rw[h];simp),Vq]
theorem BU (h:aV c s w i=true):kJ c s w (i+1)=kJ c s w i++nW (a9 c i) (ae c s i) (a9 c i).Uj.length:=by rw[kJ,Uw h]
theorem JT {p:Pr} {f:Fi} (h:f.pops.getD k false=false):nU p f (k+1)=nU p f k:=by rw[nU,Ur (by rw[h];simp),Vq]
theorem FL {p:Pr} {f:Fi} (h:f.pops.getD k false=true):nU p f (k+1)=nU p f k++[u6 p k]:=by rw[nU,Uw h]
theorem JU {p:Pr} {f:Fi} (h:(f.Uj.getD k bu).has=false):nW p f (k+1)=nW p f k:=by rw[nW,Ur (by rw[h];simp),Vq]
theorem FM {p:Pr} {f:Fi} (h:(f.Uj.getD k bu).has=true):nW p f (k+1)=nW p f k++[(uG p k,(f.Uj.getD k bu).v)]:=by rw[nW,Uw h]
theorem uM (l:List (List Int)) (a b:List Nat):bK (bK l a) b=bK l (a++b):=by simp[bK,Vy]
theorem uN (l:List (List Int)) (a b:List (Nat×Int)):cD (cD l a) b=cD l (a++b):=by simp[cD,Vy]
theorem Ad {p:Pr} {f:Fi}:∀{k:Nat},(nW p f k).length≤k
 | 0=>Ut _
 | k+1=>by
  rw[nW,UK]
  have:=Ad (p:=p) (f:=f) (k:=k)
  split<;>simp<;>omega
theorem BV (hc:cr c):∀{P:Nat},P≤c.U.length→(kJ c s w P).length≤100*P
 | 0,_=>Ut _
 | P+1,h=>by
  rw[kJ,UK]
  have:=BV hc (P:=P) (by omega)
  have h2:=Ad (p:=a9 c P) (f:=ae c s P) (k:=(a9 c P).Uj.length)
  have h3:=(hc.pr P (by omega)).pl
  split
  ·omega
  ·simp only[UR];omega
theorem L5 (ev:List (Nat×Int)) (l:List (List Int)) (n:Nat) (hn:n<l.length):((cD l ev).getD n []).length≤(l.getD n []).length+ev.length:=by
 rw[uJ ev l n hn,UK,UB]
 have:=List.length_filter_le (fun e:Nat×Int=>e.1==n) ev
 omega
theorem L6 (ev:List Nat) (l:List (List Int)) (n:Nat) (hn:n<l.length):((bK l ev).getD n []).length≤(l.getD n []).length:=by
 rw[nY ev l n hn,UW];omega
theorem Om (hc:cr c) (hi:i<c.U.length) (hk:k<(a9 c i).I.length) {f:Fi}:(iv c s w i++nU (a9 c i) f k).count (u6 (a9 c i) k)=0:=by
 rw[List.count_eq_zero]
 intro hm
 rcases Vp.1 hm with hm | hm
 ·obtain⟨p,h1,_,h3⟩:=BI hm
  have h4:=(Fo hc (show p<c.U.length by omega) (Ut _) h3).2
  have h5:=(hc.tk i hi k hk).2.2.2
  have h6:((p:Nat):Int)=(i:Int):=h4.symm.trans h5
  omega
 ·obtain⟨j,h1,_,h3⟩:=sf hm
  have:=hc.td i hi j k (by omega) hk h3
  omega
theorem Hi (XV:p8 c s i=true) (hk:k<(a9 c i).I.length) (Xe:(ae c s i).pops.getD k false=true):0<(na s (u6 (a9 c i) k)).length:=by
 rw[DB]at XV
 unfold ae at Xe
 rw[zZ XV]at Xe
 simp only at Xe
 rw[aX hk]at Xe
 unfold gV at XV
 rw[Uo,bB]at XV
 have h1:=XV.1 k hk
 unfold iM at h1
 unfold nQ at Xe
 rw[Xe]at h1
 simp only[Bool.not_true,Bool.or_false]at h1
 rw[cX,aX hk]at h1
 unfold cf at h1
 split at h1
 ·assumption
 ·cases h1
theorem JV (hc:cr c) (hl:s.J.length=c.J.length) (hi:i<c.U.length) (XV:p8 c s i=true) (hk:k<(a9 c i).I.length) (Xe:(ae c s i).pops.getD k false=true) :
  1≤((bK s.J (iv c s w i++nU (a9 c i) (ae c s i) k)).getD (u6 (a9 c i) k) []).length:=by
 have h1:=hc.tk i hi k hk
 rw[nY _ _ _ (by rw[hl];show((jY (a9 c i) k).chan).toNat<_;omega),Om hc hi hk]
 exact Hi XV hk Xe
theorem L7 {m n:Nat} (hc:cr c) (hl:s.J.length=c.J.length) (ZD:sA s 4294967296) (hi:i<c.U.length) (hm:m≤(a9 c i).Uj.length) (hn:n<c.J.length) :
  ((cD (bK s.J (iv c s w c.U.length)) (kJ c s w i++nW (a9 c i) (ae c s i) m)).getD n []).length+1≤137438953472:=by
 have h1:=L5 (kJ c s w i++nW (a9 c i) (ae c s i) m) (bK s.J (iv c s w c.U.length)) n (by rw[eZ];omega)
 have h2:=L6 (iv c s w c.U.length) s.J n (by omega)
 have h3:(s.J.getD n []).length≤4294967296:=ZD n
 have h4:=BV hc (s:=s) (w:=w) (P:=i) (by omega)
 have h5:=Ad (p:=a9 c i) (f:=ae c s i) (k:=m)
 have h6:=(hc.pr i hi).pl
 have h7:=hc.nl
 rw[UK]at h1
 omega
end
theorem JW (p:Nat):xu (p:Int)=Ju p:=funext fun q=>by
 unfold xu Ju
 by_cases h:q=p
 ·rw[Uz h,Uz (by omega)]
 ·rw[Uy h,Uy (by omega)]
theorem t1 {c:Ci} {s:Ns} {w:Nat→Bool} (hc:cr c) {k:Nat} (h:sA s k):sA (bx c s w) (k+1):=by
 intro n
 by_cases hn:n<c.J.length
 ·rw[ss c s w hn]
  unfold gu
  rw[UK,UW]
  have h1:(na s n).length≤k:=h n
  have h2:(gt c s w n).length≤1:=by
   unfold gt;split
   ·exact wJ hc n
   ·simp
  omega
 ·have:na (bx c s w) n=[]:=by show(tab _ _).getD n []=[];exact oY (by omega)
  rw[this];simp
theorem wL {c:Ci} {s:Ns} {p:Int} (h:¬0≤p):jF c s p=false:=by unfold jF;rw[Uy h];rfl
theorem wM {c:Ci} {s:Ns} {p:Int} (h:¬p<c.U.length):jF c s p=false:=by unfold jF;rw[Uy h,Wv,U7]
theorem vD {c:Ci} {s:Ns} {p:Int} (h:0≤p) (h2:p<c.U.length):jF c s p=(ae c s p.toNat).fires:=by unfold jF;rw[Uz h,Uz h2];rfl
theorem Oo {c:Ci} {s:Ns} {p:Nat} (h:p<c.U.length):jF c s (p:Int)=p8 c s p:=by
 rw[vD (by omega) (by omega)];rfl
theorem Ae {v w:Int} (h:v<0):f8 v w=false:=by unfold f8;rw[Uy (by omega)];rfl
theorem Af {v w:Int} (h:v>ai w):f8 v w=false:=by unfold f8;rw[Uy (show ¬v≤ai w by omega),U7]
theorem L8 {v w:Int} (h:¬v<0) (h2:¬v>ai w):f8 v w=true:=by unfold f8;rw[Uz (show v≤ai w by omega),Uz (show 0≤v by omega)];rfl
theorem pc {l:List Int} {w:Int} {i:Nat} (hi:i<l.length) (h:f8 (l.getD i 0) w=false):gq l w=false:=eV (f:=fun i=>f8 (l.getD i 0) w) hi h
theorem wN {l:List Int} {w:Int} (h:∀i,i<l.length→f8 (l.getD i 0) w=true):gq l w=true:=bB.2 h
def Oq (a:Ns):Prop:=a.U.length≤1000000∧a.J.length≤1000000∧(∀n,(a.J.getD n []).length≤1099511627776)∧(∀i,(a.U.getD i a7).Ul.length≤1000000)∧(∀i,(a.U.getD i a7).Uk.length≤1000000)∧∀i j,((a.U.getD i a7).Uk.getD j []).length≤1000000
theorem DM {c:Ci} {s:Ns} (hc:cr c) (hs:eG c s) (hm:sA s 4294967296):Oq s:=by
 have hp:∀i,(s.U.getD i a7).Ul.length≤100∧(s.U.getD i a7).Uk.length≤100∧∀j,((s.U.getD i a7).Uk.getD j []).length≤4:=by
  intro i
  by_cases hi:i<c.U.length
  ·have h1:=hs.pv i hi
   have h2:=hc.pr i hi
   refine⟨by rw[h1.rl];exact h2.rl,by rw[h1.ml];exact h2.ml,fun j=>?_⟩
   by_cases hj:j<(a9 c i).Uk.length
   ·have h3:=h1.mn j hj
    have h4:=(h2.mw j hj).2.1
    have h5:(((s.U.getD i a7).Uk.getD j []).length:Int)=(fK (a9 c i) j).Um:=h3
    omega
   ·have h6:=h1.ml
    rw[show(s.U.getD i a7).Uk.getD j []=[]from by
     rw[List.getD,U1 (by show(tK s i).Uk.length≤j;omega)];rfl]
    simp
  ·rw[show s.U.getD i a7=a7 from by rw[List.getD,U1 (by rw[hs.pl];omega)];rfl]
   simp
 have h1:=hc.nl
 have h2:=hc.cl
 refine⟨by rw[hs.pl];omega,by rw[hs.cl];omega,fun n=>U6 (hm n) (by omega),fun i=>U6 (hp i).1 (by omega),fun i=>U6 (hp i).2.1 (by omega),fun i j=>U6 ((hp i).2.2 j) (by omega)⟩
def cZ (a b:Ns):Bool:=decide (a.U.length=b.U.length)&&decide (a.J.length=b.J.length)&&cU (fun i=>eI (a.U.getD i a7) (b.U.getD i a7)) a.U.length&&decide (a.J=b.J)
section
variable {a b:Ns}
theorem jJ (h:¬a.U.length=b.U.length):cZ a b=false:=by unfold cZ;rw[Uy h];rfl
theorem jK (h:¬a.J.length=b.J.length):cZ a b=false:=by unfold cZ;rw[Uy h,U7];rfl
theorem jL {i:Nat} (hi:i<a.U.length) (h:eI (a.U.getD i a7) (b.U.getD i a7)=false):cZ a b=false:=by unfold cZ;rw[eV hi h,U7];rfl
theorem jM {n:Nat} (h:¬a.J.getD n []=b.J.getD n []):cZ a b=false:=by
 unfold cZ;rw[Uy (show ¬a.J=b.J from fun e=>h (by rw[e])),U7]
theorem jN (h1:a.U.length=b.U.length) (h2:a.J.length=b.J.length) (h3:∀i,i<a.U.length→eI (a.U.getD i a7) (b.U.getD i a7)=true) (h4:∀n,n<a.J.length→a.J.getD n []=b.J.getD n []):cZ a b=true:=by
 unfold cZ;rw[Uz h1,Uz h2,bB.2 h3,Uz (k9 h2 h4)];rfl
end
theorem BW (a:Ps):eI a a=true:=by simp[eI]
theorem mh {a b:Ns}:cZ a b=true↔a=b:=by
 constructor
 ·intro h
  unfold cZ at h
  simp only[Uo,U8,bB]at h
  obtain⟨⟨⟨h1,h2⟩,h3⟩,h4⟩:=h
  have:a.U=b.U:=k9 h1 (fun i hi=>by have:=h3 i hi;exact jI.1 this)
  cases a;cases b;simp_all
 ·rintro rfl
  unfold cZ
  simp only[Uo,U8,bB]
  exact⟨⟨⟨trivial,trivial⟩,fun i hi=>BW _⟩,trivial⟩
def iX (s:Ns) (n:Nat) (l:List Int):Ns:=⟨s.U,s.J.set n l⟩
def wB (l:List Bool) (q:Nat):Bool:=l.getD q false
def Ql:Option Int→V
 | none=>.nsl
 | some v=>.sl 1 (ab .i64) 0 [v]
def JX (o:Option Int):List V:=[Ql o]
def xv:Option Int→List Int
 | none=>[]
 | some v=>[v]
theorem Ot (o:Option Int):(xv o).length≤1:=by cases o<;>simp[xv]
theorem Qm (o:Option Int):AU (Ql o) (.sl 1 (ab .i64) 0 (xv o)):=by
 cases o
 ·exact rfl
 ·simp[Ql,xv,AU]
section
variable {c:Ci} {s:Ns} {w:Nat→Bool} {i k:Nat}
theorem BX (l:List Int) (a b:List Nat):dX (dX l a) b=dX l (a++b):=by simp[dX,Vy]
theorem uO (l:List (Option Int)) (a b:List (Nat×Int)):dK (dK l a) b=dK l (a++b):=by simp[dK,Vy]
theorem sC (ev:List (Nat×Int)):∀(l:List (Option Int)) (n:Nat),(∀e∈ev,e.1≠n)→(dK l ev).getD n none=l.getD n none:=by
 induction ev with
 | nil=>intro l n h;rfl
 | cons e r ih =>
  intro l n h
  show(dK (l.set e.1 _) r).getD n none=_
  rw[ih _ n (fun e' Y0=>h e' (UT _ Y0))]
  have:=h e (UX ..)
  simp[List.getD,Wf,this]
theorem BZ (ev:List (Nat×Int)):∀(l:List (Option Int)) (n:Nat),n<l.length→l.getD n none=none→((ev.filter (fun e=>e.1==n)).map (·.2)).length≤1→xv ((dK l ev).getD n none)=(ev.filter (fun e=>e.1==n)).map (·.2):=by
 induction ev with
 | nil=>intro l n hn h0 h;show xv (l.getD n none)=_;rw[h0];rfl
 | cons e r ih =>
  intro l n hn h0 h
  show xv ((dK (l.set e.1 (some e.2)) r).getD n none)=_
  by_cases he:e.1=n
  ·have hf:(e::r).filter (fun e=>e.1==n)=e::r.filter (fun e=>e.1==n):=by simp[he]
   rw[hf,Vn]at h ⊢
   have hr:r.filter (fun e=>e.1==n)=[]:=by
    simp only[Ve,UB]at h
    exact U0 (by omega)
   rw[hr,sC]
   ·subst he
    simp[List.getD,hn,xv]
   ·intro e' Y0 h1
    have:e'∈r.filter (fun e=>e.1==n):=by rw[Wp];exact⟨Y0,by simp[h1]⟩
    rw[hr]at this;cases this
  ·have hf:(e::r).filter (fun e=>e.1==n)=r.filter (fun e=>e.1==n):=by simp[he]
   rw[hf]at h ⊢
   refine ih _ n (by simpa using hn) ?_ h
   have:(l.set e.1 (some e.2)).getD n none=l.getD n none:=by simp[List.getD,Wf,he]
   rw[this];exact h0
theorem Hj (hc:cr c) (n:Nat):(gt c s w n).length≤1:=by
 unfold gt;split
 ·exact wJ hc n
 ·simp
theorem B1 {e:Nat×Int}:∀{P:Nat},e∈kJ c s w P→∃p,p<P∧e∈nW (a9 c p) (ae c s p) (a9 c p).Uj.length
 | 0,h=>by cases h
 | P+1,h=>by
  rw[kJ,Vp]at h
  rcases h with h | h
  ·obtain⟨p,h1,h2⟩:=B1 h;exact⟨p,by omega,h2⟩
  ·split at h
   ·exact⟨P,by omega,h⟩
   ·cases h
theorem Hk (hc:cr c) (hi:i<c.U.length) (hk:k<(a9 c i).Uj.length) {f:Fi} {m:Nat}:(dK (List.replicate m none) (kJ c s w i++nW (a9 c i) f k)).getD (uG (a9 c i) k) none=none:=by
 rw[sC _ _ _ (fun e he h=>?_)]
 ·exact cK
 ·rcases Vp.1 he with he | he
  ·obtain⟨p,h1,h3⟩:=B1 he
   have h4:=(Fp hc (show p<c.U.length by omega) (Ut _) h3).2
   rw[h]at h4
   have h5:=(hc.pt i hi k hk).2.2.2
   have h6:((p:Nat):Int)=(i:Int):=h4.symm.trans h5
   omega
  ·obtain⟨j,h1,_,h3,_⟩:=sg he
   have:=hc.pd i hi j k (by omega) hk (h3.trans h)
   omega
theorem FN (hc:cr c) {n:Nat} (hn:n<c.J.length):(dX (List.replicate c.J.length 0) (iv c s w c.U.length)).getD n 0=(gF c s w n:Nat):=by
 rw[BH _ _ _ (by simpa using hn),cK]
 have h1:=qU (w:=w) (s:=s) hc n (Ut _)
 rw[Fq hc]at h1
 split
 ·rename_i hm
  have:=List.count_pos_iff.2 hm
  unfold gF at h1 ⊢
  split at h1
  ·rename_i hh;rw[Uw hh];rfl
  ·omega
 ·rename_i hm
  rw[List.count_eq_zero.2 hm]at h1
  rw[← h1];rfl
theorem L9 (n:Nat):gF c s w n≤(na s n).length:=by
 unfold gF;split
 ·rename_i h
  exact He (yp h.1).2 h.2
 ·omega
theorem Ma (hc:cr c) {n:Nat} (hn:n<c.J.length) :
  (na s n).drop ((dX (List.replicate c.J.length 0) (iv c s w c.U.length)).getD n 0).toNat++xv ((dK (List.replicate c.J.length none) (kJ c s w c.U.length)).getD n none)=gu c s w n:=by
 rw[FN hc hn,Vd,BZ]
 ·rw[si hc n (Ut _),zT];rfl
 ·simpa using hn
 ·exact cK
 ·rw[si hc n (Ut _),zT];exact Hj hc n
theorem Qn {l:List Bool} (h:¬l.getD i false=true):aV c s (wB l) i=false:=No (by show(!l.getD i false)=true;simpa using h)
theorem Ou {l:List Bool} (h:(!(ae c s i).fires)=true):aV c s (wB l) i=false:=JP (by show(ae c s i).fires=false;simpa using h)
theorem Ow {l:List Bool} (h:l.getD i false=true) (h2:(!(ae c s i).fires)=false):aV c s (wB l) i=true:=JQ (by show(!l.getD i false)=false;rw[h];rfl) (by show(ae c s i).fires=true;simpa using h2)
theorem JY {n p:Nat} (h:p<n):wB ((List.replicate n false).set p true)=xu (p:Int):=funext fun q=>by
 rw[JW];unfold wB Ju
 rw[bM (by simpa using h),cK]
 by_cases e:p=q
 ·rw[Uw e,Uz e.symm]
 ·rw[Ur e,Uy (fun h=>e h.symm)]
theorem FO (hs:eG c s) {p:Int} (h:jF c s p=false):bx c s (xu p)=s:=Jt hs (fun q hq=>by
 unfold aV xu
 by_cases e:(q:Int)=p
 ·subst e
  rw[Oo hq]at h
  rw[h,U7]
 ·rw[Uy e,Wv])
end
theorem Mb {c:Ci} {s:Ns} {p:Int} (h:jF c s p=true):0≤p∧p<c.U.length:=by
 unfold jF at h
 simp only[Uo,U8]at h
 exact⟨h.1,h.2.1⟩
structure En where
 I:List Int
 Uj:List Int
def sD (e:En):List V:=[.sl 1 (ab .i64) 0 e.I,.sl 1 (ab .i64) 0 e.Uj]
abbrev dj:En:=⟨[],[]⟩
def iQ:Ex:=⟨1,e0,⟨1,e0⟩,⟨1,e0⟩,[]⟩
def a5 (s:Sg) (b:List Int) (i:Nat):Ex×Nat:=if b.getD i 0%4=1 then av s b 2 (i+1) 1 else (iQ,i+1)
def T3:ByteArray:=bs [97]
def T4:ByteArray:=bs [98]
def Qo (k:Nat):ByteArray:=[bs [114],bs [115]].getD k e0
def K8 (k:Nat):ByteArray:=[bs [112],bs [113],bs [117],bs [118]].getD k e0
def K9 (k:Nat):ByteArray:=[bs [99,48],bs [99,49],bs [99,50],bs [99,51],bs [99,52]].getD k e0
def bW (y:Int) (k:Nat):Int:=1+(y / 4+k)%2
def qW (y:Int):Nat:=(1+y / 2%2).toNat
def PF (y:Int):List Int:=tab (bW y) (qW y)
def PG (y:Int):Sg:=⟨PF y,[],[],false⟩
def B2 (y:Int) (n:Nat):Sg:=⟨PF y,List.replicate n 2,[],true⟩
def wO (y:Int) (k:Nat):Rg:=⟨Qo k,bW y k,y / 8%2^(bW y k).toNat,dE,⟨[1,1,0].getD (y / 16%3).toNat 0,e0,0⟩⟩
def B3 (b:List Int) (y:Int) (i:Nat):Nat→Nat
 | 0=>i
 | k+1=>(a5 (PG y) b (B3 b y i k)).2
def Ag (b:List Int) (y:Int) (n:Nat) (i:Nat):Nat→Nat
 | 0=>i
 | k+1=>(av (B2 y n) b 3 (Ag b y n i k) (bW y k)).2
def wP (b:List Int) (y:Int) (n:Nat) (i:Nat):Nat→Nat
 | 0=>i
 | k+1=>(av (B2 y n) b 2 (a5 (B2 y n) b (wP b y n i k)).2 2).2
def FP (b:List Int) (y:Int) (i:Nat) (e:En) (k:Nat):Tk:=⟨e.I.getD k 0,2,(a5 (PG y) b (B3 b y i k)).1⟩
def Ox (b:List Int) (y:Int) (n i k:Nat):Rg:={ wO y k with next:=(av (B2 y n) b 3 (Ag b y n i k) (bW y k)).1 }
def H3 (b:List Int) (y:Int) (n i:Nat) (e:En) (k:Nat):Pt:=⟨e.Uj.getD k 0,2,(a5 (B2 y n) b (wP b y n i k)).1,(av (B2 y n) b 2 (a5 (B2 y n) b (wP b y n i k)).2 2).1⟩
def Oy (y:Int):ByteArray:=[T3,T4].getD (y%2).toNat e0
def mi (b:List Int) (i:Nat) (e:En):Nat:=B3 b (b.getD i 0) (i+1) e.I.length
def ll (b:List Int) (i:Nat) (e:En):Nat:=Ag b (b.getD i 0) e.I.length (mi b i e) (qW (b.getD i 0))
def bH (b:List Int) (i:Nat) (nm:ByteArray) (e:En):Pr×Nat :=
 (⟨nm,Oy (b.getD i 0),tab (Ox b (b.getD i 0) e.I.length (mi b i e)) (qW (b.getD i 0)),[],tab (FP b (b.getD i 0) (i+1) e) e.I.length,tab (H3 b (b.getD i 0) e.I.length (ll b i e) e) e.Uj.length⟩,
  wP b (b.getD i 0) e.I.length (ll b i e) e.Uj.length)
def aj (s:Int):List En :=
 if s%6=0 then [⟨[0],[1]⟩]
 else if s%6=1 then [⟨[0],[1]⟩,⟨[1],[2]⟩]
 else if s%6=2 then [⟨[0],[1,2]⟩,⟨[1],[3]⟩,⟨[2],[4]⟩]
 else if s%6=3 then [⟨[0,2],[1]⟩,⟨[1],[2,3]⟩]
 else if s%6=4 then [⟨[0],[2]⟩,⟨[1],[3]⟩,⟨[2,3],[4]⟩]
 else [⟨[0],[1]⟩,⟨[1],[2]⟩,⟨[2],[3]⟩,⟨[3],[4]⟩]
theorem Ah {s:Sg} {b:List Int} {i:Nat} (h:b.getD i 0%4=1):a5 s b i=av s b 2 (i+1) 1:=Uw h
theorem Ai {s:Sg} {b:List Int} {i:Nat} (h:¬b.getD i 0%4=1):a5 s b i=(iQ,i+1):=Ur h
def u7 (l:List Int) (n:Int):Bool:=!cU (fun i=>!decide (l.getD i 0=n)) l.length
theorem B4 {l:List Int} {n:Int} {i:Nat} (hi:i<l.length) (h:l.getD i 0=n):u7 l n=true:=by
 unfold u7;rw[eV hi (by rw[Uz h];rfl)];rfl
theorem FQ {l:List Int} {n:Int} (h:∀i,i<l.length→¬l.getD i 0=n):u7 l n=false:=by
 unfold u7;rw[bB.2 (fun i hi=>by rw[Uy (h i hi)];rfl)];rfl
theorem yy {x w:Int} (h0:0≤w) (h6:w≤62):IntKind.wrap .i64 ((BitVec.ofInt (IntKind.i64).bits x &&& BitVec.ofInt (IntKind.i64).bits (ai w)).toNat:Int)=x%2^w.toNat:=by
 rw[da h0 h6];exact ir (by omega)
theorem Aj {s:Sg} {b:List Int} (hb:ic b) {d i:Nat} {w:Int} (hd:d≤3) (h1:1≤w) (h2:w+d≤8):i≤(av s b d i w).2∧(av s b d i w).2≤i+64:=by
 have h:=(wE (s:=s) hb d i w hd h1 h2).2.2
 have:4^d≤4^3:=VJ (by omega) hd
 omega
theorem wQ {s:Sg} {b:List Int} (hb:ic b) {i:Nat}:i≤(a5 s b i).2∧(a5 s b i).2≤i+100:=by
 unfold a5
 split
 ·have:=Aj (s:=s) hb (d:=2) (i:=i+1) (w:=1) (by omega) (by omega) (by omega);omega
 ·simp only;omega
theorem Ak (y:Int) (k:Nat):1≤bW y k∧bW y k≤2:=by unfold bW;omega
theorem vE {b:List Int} (hb:ic b) (y:Int) (i:Nat):∀k,i≤B3 b y i k∧B3 b y i k≤i+100*k
 | 0=>⟨Ut _,Ut _⟩
 | k+1=>by
  have h1:=vE hb y i k
  have h2:=wQ (s:=PG y) hb (i:=B3 b y i k)
  rw[B3];omega
theorem vG {b:List Int} (hb:ic b) (y:Int) (n i:Nat):∀k,i≤Ag b y n i k∧Ag b y n i k≤i+100*k
 | 0=>⟨Ut _,Ut _⟩
 | k+1=>by
  have h1:=vG hb y n i k
  have h3:=Ak y k
  have h2:=Aj (s:=B2 y n) hb (d:=3) (i:=Ag b y n i k) (w:=bW y k) (by omega) (by omega) (by omega)
  rw[Ag];omega
theorem Al {b:List Int} (hb:ic b) (y:Int) (n i:Nat):∀k,i≤wP b y n i k∧wP b y n i k≤i+200*k
 | 0=>⟨Ut _,Ut _⟩
 | k+1=>by
  have h1:=Al hb y n i k
  have h3:=wQ (s:=B2 y n) hb (i:=wP b y n i k)
  have h2:=Aj (s:=B2 y n) hb (d:=2) (i:=(a5 (B2 y n) b (wP b y n i k)).2) (w:=2) (by omega) (by omega) (by omega)
  rw[wP];omega
theorem Am {y:Int} (h:0≤y):(qW y:Int)=1+y / 2%2∧qW y≤2:=by unfold qW;omega
def gY (b:List Int) (l:List En):Nat→Nat
 | 0=>0
 | i+1=>(bH b (gY b l i) (K8 i) (l.getD i dj)).2
def pg (b:List Int) (l:List En) (i:Nat):Pr:=(bH b (gY b l i) (K8 i) (l.getD i dj)).1
def Qp (l:List Int) (a:Int):Nat→Int
 | 0=>a
 | k+1=>NR (Qp l a k) (l.getD k 0)
def sF (l:List En):Nat→Int
 | 0=>0
 | i+1=>Qp (l.getD i dj).Uj (sF l i) (l.getD i dj).Uj.length
def yz (l:List En) (n:Int):Nat→Int
 | 0=>-1
 | i+1=>if u7 (l.getD i dj).I n=true then (i:Int)else yz l n i
def yA (l:List En) (n:Int):Nat→Int
 | 0=>-1
 | i+1=>if u7 (l.getD i dj).Uj n=true then (i:Int)else yA l n i
def vH (sh:Int) (l:List En) (n:Nat):Ch:=⟨K9 n,2,if 0≤yA l n l.length∧0≤yz l n l.length then 1+(sh / 6+n)%3 else 0,yA l n l.length,yz l n l.length⟩
def ln (sh:Int):Nat:=(sF (aj sh) (aj sh).length).toNat+1
def aF (sh:Int) (b:List Int):Ci:=⟨tab (pg b (aj sh)) (aj sh).length,tab (vH sh (aj sh)) (ln sh)⟩
theorem mj (sh:Int):aj sh=[⟨[0],[1]⟩]∨aj sh=[⟨[0],[1]⟩,⟨[1],[2]⟩]∨aj sh=[⟨[0],[1,2]⟩,⟨[1],[3]⟩,⟨[2],[4]⟩]∨aj sh=[⟨[0,2],[1]⟩,⟨[1],[2,3]⟩]∨aj sh=[⟨[0],[2]⟩,⟨[1],[3]⟩,⟨[2,3],[4]⟩]∨aj sh=[⟨[0],[1]⟩,⟨[1],[2]⟩,⟨[2],[3]⟩,⟨[3],[4]⟩]:=by
 unfold aj
 split
 ·exact .inl rfl
 split
 ·exact .inr (.inl rfl)
 split
 ·exact .inr (.inr (.inl rfl))
 split
 ·exact .inr (.inr (.inr (.inl rfl)))
 split
 ·exact .inr (.inr (.inr (.inr (.inl rfl))))
 ·exact .inr (.inr (.inr (.inr (.inr rfl))))
theorem ob (sh:Int):1≤(aj sh).length∧(aj sh).length≤4:=by
 rcases mj sh with h | h | h | h | h | h<;>rw[h]<;>decide
theorem ph (sh:Int) (i:Nat):((aj sh).getD i dj).I.length≤2∧((aj sh).getD i dj).Uj.length≤2:=by
 have key:∀e∈aj sh,e.I.length≤2∧e.Uj.length≤2:=by
  rcases mj sh with h | h | h | h | h | h<;>rw[h]<;>simp
 by_cases hi:i<(aj sh).length
 ·rw[bJ _ _ hi];exact key _ (V0 hi)
 ·rw[List.getD,U1 (by omega)];decide
theorem FR (sh:Int):0≤sF (aj sh) (aj sh).length∧sF (aj sh) (aj sh).length≤4:=by
 rcases mj sh with h | h | h | h | h | h<;>rw[h]<;>decide
theorem DN (sh:Int):(ln sh:Int)=sF (aj sh) (aj sh).length+1∧ln sh≤5:=by
 have:=FR sh;unfold ln;omega
theorem FS {b:List Int} (hb:ic b) (sh:Int):∀i,gY b (aj sh) i≤1000*i
 | 0=>Ut _
 | i+1=>by
  have h1:=FS hb sh i
  have he:=ph sh i
  rw[gY]
  unfold bH
  simp only
  generalize gY b (aj sh) i=p at *
  generalize (aj sh).getD i dj=e at *
  have hy:=cO hb p
  have hn:=Am hy.1
  have a1:p+1≤mi b p e∧mi b p e≤p+1+100*e.I.length:=vE hb (b.getD p 0) (p+1) e.I.length
  have a2:mi b p e≤ll b p e∧ll b p e≤mi b p e+100*qW (b.getD p 0):=vG hb (b.getD p 0) e.I.length (mi b p e) (qW (b.getD p 0))
  have a3:=Al hb (b.getD p 0) e.I.length (ll b p e) e.Uj.length
  omega
theorem JZ (l:List En) (n:Int):∀i,-1≤yz l n i∧yz l n i<i
 | 0=>by simp[yz]
 | i+1=>by have:=JZ l n i;rw[yz];split<;>omega
theorem J0 (l:List En) (n:Int):∀i,-1≤yA l n i∧yA l n i<i
 | 0=>by simp[yA]
 | i+1=>by have:=J0 l n i;rw[yA];split<;>omega
theorem Np {x:Int} (h0:0≤x) (h1:x≤255):IntKind.wrap .u8 x=x:=Ru rfl h0 h1
def vI (b:List Int) (i:Nat):Nat:=(b.getD i 0%7).toNat
def xw (b:List Int) (i:Nat) (w:Int) (k:Nat):Int:=b.getD (i+(1+k)) 0%2^w.toNat
def xj (c:Ci) (b:List Int):Nat→Ns×Nat
 | 0=>(fb c,0)
 | i+1=>if 0≤(fy c i).frm then xj c b i else (iX (xj c b i).1 i (tab (xw b (xj c b i).2 (fy c i).w) (vI b (xj c b i).2)),(xj c b i).2+(1+vI b (xj c b i).2))
def cu (c:Ci) (b:List Int):Ns:=(xj c b c.J.length).1
theorem J1 {b:List Int} (hb:ic b) (i:Nat):vI b i≤6∧(vI b i:Int)=b.getD i 0%7:=by
 have:=cO hb i;unfold vI;omega
theorem J2 {c:Ci} {b:List Int} {i:Nat} (h:0≤(fy c i).frm):xj c b (i+1)=xj c b i:=by rw[xj,Uw h]
theorem DP {c:Ci} {b:List Int} {i:Nat} (h:¬0≤(fy c i).frm):xj c b (i+1)=(iX (xj c b i).1 i (tab (xw b (xj c b i).2 (fy c i).w) (vI b (xj c b i).2)),(xj c b i).2+(1+vI b (xj c b i).2)):=by rw[xj,Ur h]
def dk (c:Ci) (s:Ns) (l:List Int):Ns:=l.foldl (fun u k=>bx c u (xu (k%c.U.length))) s
theorem Hl {c:Ci} {s:Ns} {l:List Int} {i:Nat} (h:i<l.length):dk c s (l.take (i+1))=bx c (dk c s (l.take i)) (xu (l.getD i 0%c.U.length)):=by
 unfold dk
 rw[VK h,Vy]
 simp[List.getD,Uq h]
theorem RC {x:Int} (h0:0≤x) (h1:x≤255):IntKind.wrap .u8 (Int.tdiv x 6)=x / 6:=by
 rw[VW h0];exact Np (by omega) (by omega)
theorem J3 {sh:Int} {l:List En} {n:Nat} {fr to:Int} (h1:0≤yA l n l.length) (h2:0≤yz l n l.length) (h3:fr=yA l n l.length) (h4:to=yz l n l.length):(⟨K9 n,2,1+(sh / 6+n)%3,fr,to⟩:Ch)=vH sh l n:=by
 unfold vH;rw[Uw ⟨h1,h2⟩,h3,h4]
theorem J4 {sh:Int} {l:List En} {n:Nat} {fr to:Int} (h:¬(0≤yA l n l.length∧0≤yz l n l.length)) (h3:fr=yA l n l.length) (h4:to=yz l n l.length):(⟨K9 n,2,0,fr,to⟩:Ch)=vH sh l n:=by
 unfold vH;rw[Ur h,h3,h4]
theorem B5 {l:List Int} {n:Nat} (h:ic l):ic (l.take n):=fun x hx=>h x (List.mem_of_mem_take hx)
theorem J5 {p:Pr} (hp:gm p):ni p (b3 p) where
 rl:=by simp[b3]
 rv:=fun i hi=>by
  rw[show(b3 p).Ul=p.Ul.map (·.init)from rfl]
  have:=(hp.rw i hi).2.1
  simpa[List.getD,UJ,Uq hi]using this
 ml:=by simp[b3]
 mn:=fun i hi=>by
  have h2:=(hp.mw i hi).2.1
  rw[show(b3 p).Uk=p.Uk.map (fun m=>List.replicate m.Um.toNat 0)from rfl]
  have:(p.Uk.map (fun m=>List.replicate m.Um.toNat (0:Int))).getD i []=List.replicate (fK p i).Um.toNat 0:=by
   simp[List.getD,UJ,Uq hi]
  rw[this,Us];omega
 mv:=fun i hi j hj=>by
  rw[show(b3 p).Uk=p.Uk.map (fun m=>List.replicate m.Um.toNat 0)from rfl]at hj ⊢
  have:(p.Uk.map (fun m=>List.replicate m.Um.toNat (0:Int))).getD i []=List.replicate (fK p i).Um.toNat 0:=by
   simp[List.getD,UJ,Uq hi]
  rw[this,cK]
  exact qS (hp.mw i hi).1
theorem J6 {c:Ci} (hc:cr c):eG c (fb c) where
 pl:=by simp[fb,aJ]
 cl:=by simp[fb]
 pv:=fun i hi=>by
  show ni _ ((tab _ _).getD i a7)
  rw[aX hi];exact J5 (hc.pr i hi)
 cv:=fun n hn i hi=>by
  have h0:na (fb c) n=[]:=by show(List.replicate _ _).getD n []=[];exact cK
  rw[h0]at hi;simp at hi
 cc:=fun n hn h1 h2=>by
  have h0:na (fb c) n=[]:=by show(List.replicate _ _).getD n []=[];exact cK
  rw[h0]
  simpa using hc.cp n hn
theorem Mc {c:Ci} {s:Ns} (hs:eG c s) {n:Nat} (hn:n<c.J.length) {l:List Int} (h1:∀i,i<l.length→dR (l.getD i 0) (fy c n).w) (h2:0≤(fy c n).frm→0≤(fy c n).dst→(l.length:Int)≤(fy c n).cap):eG c (iX s n l) where
 pl:=hs.pl
 cl:=by show(s.J.set n l).length=_;rw[UQ];exact hs.cl
 pv:=hs.pv
 cv:=fun m hm i hi=>by
  have e:na (iX s n l) m=if n=m then l else na s m:=bM (by rw[hs.cl];exact hn)
  rw[e]at hi ⊢
  split at hi
  ·rename_i h;subst h;rw[Uw rfl];exact h1 i hi
  ·rename_i h;rw[Ur h];exact hs.cv m hm i hi
 cc:=fun m hm a b=>by
  have e:na (iX s n l) m=if n=m then l else na s m:=bM (by rw[hs.cl];exact hn)
  rw[e]
  split
  ·rename_i h;subst h;exact h2 a b
  ·exact hs.cc m hm a b
theorem Md {s:Ns} {k n:Nat} {l:List Int} (h:sA s k) (hl:l.length≤k):sA (iX s n l) k:=fun m=>by
 by_cases hn:n<s.J.length
 ·have e:na (iX s n l) m=if n=m then l else na s m:=bM hn
  rw[e];split
  ·exact hl
  ·exact h m
 ·have e:iX s n l=s:=by show(⟨s.U,s.J.set n l⟩:Ns)=s;rw[VO (by omega)]
  rw[e];exact h m
theorem Oz {b:List Int} {i:Nat} {w:Int} {k:Nat} (h1:1≤w) (h2:w≤62):dR (xw b i w k) w:=by
 unfold xw dR
 rw[da (by omega) h2]
 have hp:(0:Int)<2^w.toNat:=Int.pow_pos (by omega)
 exact⟨VC _ (by omega),by have:=VI (b.getD (i+(1+k)) 0) hp;omega⟩
theorem FT {c:Ci} (hc:cr c) {b:List Int} (hb:ic b):∀i,i≤c.J.length→eG c (xj c b i).1∧sA (xj c b i).1 6
 | 0,_=>⟨J6 hc,fun n=>by
  have:na (fb c) n=[]:=by show(List.replicate _ _).getD n []=[];exact cK
  show(na (fb c) n).length≤6
  rw[this];simp⟩
 | i+1,h=>by
  have ih:=FT hc hb i (by omega)
  by_cases hf:0≤(fy c i).frm
  ·rw[J2 hf];exact ih
  ·rw[DP hf]
   have hw:=aQ.1 (hc.cw i (by omega))
   have hn:=J1 hb (xj c b i).2
   refine⟨Mc ih.1 (by omega) (fun j hj=>?_) (fun a _=>absurd a hf),Md ih.2 (by rw[aJ];exact hn.1)⟩
   rw[aJ]at hj
   rw[aX hj];exact Oz hw.1 (by omega)
theorem Hm {c:Ci} (hc:cr c) {b:List Int} (hb:ic b):eG c (cu c b)∧sA (cu c b) 1000000000:=by
 have:=FT hc hb c.J.length (Ut _)
 exact⟨this.1,fun n=>U6 (this.2 n) (by omega)⟩
theorem An {c:Ci} (hc:cr c):∀(l:List Int) {s:Ns} {k:Nat},eG c s→sA s k→eG c (dk c s l)∧sA (dk c s l) (k+l.length)
 | [],s,k,h1,h2=>⟨h1,h2⟩
 | x::r,s,k,h1,h2=>by
  have:=An hc r (tP hc h1 (xu (x%c.U.length))) (t1 (w:=xu (x%c.U.length)) hc h2)
  refine⟨this.1,fun n=>?_⟩
  have h3:=this.2 n
  show(na (dk c _ r) n).length≤_
  simp only[Ve];omega
set_option maxRecDepth 100000
theorem Nq {s:Ns} {k:Nat} (h:s.J.all (fun l=>decide (l.length≤k))=true):sA s k:=fun n=>by
 by_cases hn:n<s.J.length
 ·rw[UU]at h
  have:=h _ (yq (d:=[]) hn)
  simpa using this
 ·show(s.J.getD n []).length≤k
  rw[List.getD,U1 (by omega)];simp
theorem FU {s:Sg} {b:List Int} (hb:ic b) (i:Nat):eF s.sc (a5 s b i).1=some 1∧fo (a5 s b i).1≤3:=by
 unfold a5
 split
 ·have h:=wE (s:=s) hb 2 (i+1) 1 (by omega) (by omega) (by omega)
  exact⟨h.1,by have:=h.2.1;omega⟩
 ·exact⟨rfl,by show fo iQ≤3;decide⟩
theorem OA (y:Int) (f:Nat→Rg) (hf:∀k,(f k).w=bW y k):(⟨(tab f (qW y)).map (·.w),[],[]⟩:Sc)=(PG y).sc:=by
 have:(tab f (qW y)).map (·.w)=PF y:=by
  unfold PF tab
  rw[Wn]
  exact Wb (fun k _=>hf k)
 rw[this];rfl
theorem OB (y:Int) (n:Nat) (f:Nat→Rg) (g:Nat→Tk) (hf:∀k,(f k).w=bW y k) (hg:∀k,(g k).w=2):(⟨(tab f (qW y)).map (·.w),[],(tab g n).map (·.w)⟩:Sc)=(B2 y n).sc:=by
 have e1:(tab f (qW y)).map (·.w)=PF y:=by
  unfold PF tab
  rw[Wn]
  exact Wb (fun k _=>hf k)
 have e2:(tab g n).map (·.w)=List.replicate n 2:=by
  apply Vt
  ·simp[aJ]
  ·intro i h1 h2
   simp[tab,hg]
 rw[e1,e2];rfl
theorem Me {b:List Int} (hb:ic b) {i:Nat} {nm:ByteArray} {e:En} (ht:e.I.length≤2) (hp:e.Uj.length≤2):gm (bH b i nm e).1:=by
 have hy:=cO hb i
 have hn:=Am hy.1
 have N':Oe (bH b i nm e).1=(PG (b.getD i 0)).sc:=OA _ _ (fun k=>rfl)
 have WN:o0 (bH b i nm e).1=(B2 (b.getD i 0) e.I.length).sc:=OB _ _ _ _ (fun k=>rfl) (fun k=>rfl)
 have l1:(bH b i nm e).1.Ul.length=qW (b.getD i 0):=aJ _ _
 have l2:(bH b i nm e).1.I.length=e.I.length:=aJ _ _
 have l3:(bH b i nm e).1.Uj.length=e.Uj.length:=aJ _ _
 have l4:(bH b i nm e).1.Uk.length=0:=rfl
 refine⟨by omega,by omega,by omega,by omega,fun k hk=>?_,fun k hk=>by omega,fun k hk=>?_,fun k hk=>?_⟩
 ·rw[WN]
  rw[l1]at hk
  have e1:sd (bH b i nm e).1 k=Ox b (b.getD i 0) e.I.length (mi b i e) k:=aX hk
  rw[e1]
  have hw:=Ak (b.getD i 0) k
  have h:=wE (s:=B2 (b.getD i 0) e.I.length) hb 3 (Ag b (b.getD i 0) e.I.length (mi b i e) k) (bW (b.getD i 0) k) (by omega) (by omega) (by omega)
  refine⟨aQ.2 (by show 1≤bW (b.getD i 0) k∧bW (b.getD i 0) k≤8;omega),?_,h.1,by have:=h.2.1;show fo (av _ b 3 _ _).1≤3;omega⟩
  show dR (b.getD i 0 / 8%2^(bW (b.getD i 0) k).toNat) (bW (b.getD i 0) k)
  unfold dR
  rw[da (by omega) (by omega)]
  have hp2:(0:Int)<2^(bW (b.getD i 0) k).toNat:=Int.pow_pos (by omega)
  exact⟨VC _ (by omega),by have:=VI (b.getD i 0 / 8) hp2;omega⟩
 ·rw[N']
  rw[l2]at hk
  have e1:jY (bH b i nm e).1 k=FP b (b.getD i 0) (i+1) e k:=aX hk
  rw[e1]
  exact⟨rfl,FU hb _⟩
 ·rw[WN]
  rw[l3]at hk
  have e1:oZ (bH b i nm e).1 k=H3 b (b.getD i 0) e.I.length (ll b i e) e k:=aX hk
  rw[e1]
  have h:=wE (s:=B2 (b.getD i 0) e.I.length) hb 2 (a5 (B2 (b.getD i 0) e.I.length) b (wP b (b.getD i 0) e.I.length (ll b i e) k)).2 2 (by omega) (by omega) (by omega)
  exact⟨rfl,FU hb _,h.1,by have:=h.2.1;show fo (av _ b 2 _ _).1≤3;omega⟩
def Qq (l:List En):Prop:=∀i,i<l.length→∀j,j<(l.getD i dj).I.length→0≤(l.getD i dj).I.getD j 0∧(l.getD i dj).I.getD j 0<sF l l.length+1∧yz l ((l.getD i dj).I.getD j 0) l.length=(i:Int)
def Qr (l:List En):Prop:=∀i,i<l.length→∀j,j<(l.getD i dj).Uj.length→0≤(l.getD i dj).Uj.getD j 0∧(l.getD i dj).Uj.getD j 0<sF l l.length+1∧yA l ((l.getD i dj).Uj.getD j 0) l.length=(i:Int)
def Qs (l:List En):Prop:=∀i,i<l.length→∀j,j<(l.getD i dj).I.length→∀k,k<(l.getD i dj).I.length→(l.getD i dj).I.getD j 0=(l.getD i dj).I.getD k 0→j=k
def Qt (l:List En):Prop:=∀i,i<l.length→∀j,j<(l.getD i dj).Uj.length→∀k,k<(l.getD i dj).Uj.length→(l.getD i dj).Uj.getD j 0=(l.getD i dj).Uj.getD k 0→j=k
theorem Qu (sh:Int):Qq (aj sh)∧Qr (aj sh)∧Qs (aj sh)∧Qt (aj sh):=by
 unfold Qq Qr Qs Qt
 rcases mj sh with h | h | h | h | h | h<;>rw[h]<;>decide
theorem Qv {sh:Int} {b:List Int} (h0:0≤sh) (h1:sh≤255) (hb:ic b):cr (aF sh b):=by
 have Yg:=ob sh
 have hnc:=DN sh
 obtain⟨q1,q2,q3,q4⟩:=Qu sh
 have lp:(aF sh b).U.length=(aj sh).length:=aJ _ _
 have lc:(aF sh b).J.length=ln sh:=aJ _ _
 have gp:∀i,i<(aj sh).length→a9 (aF sh b) i=pg b (aj sh) i:=fun i hi=>aX hi
 have gc:∀n,n<ln sh→fy (aF sh b) n=vH sh (aj sh) n:=fun n hn=>aX hn
 have ltk:∀i,(pg b (aj sh) i).I.length=((aj sh).getD i dj).I.length:=fun i=>aJ _ _
 have lpt:∀i,(pg b (aj sh) i).Uj.length=((aj sh).getD i dj).Uj.length:=fun i=>aJ _ _
 have ctk:∀i j,j<((aj sh).getD i dj).I.length→(jY (pg b (aj sh) i) j).chan=((aj sh).getD i dj).I.getD j 0∧(jY (pg b (aj sh) i) j).w=2:=fun i j hj=>by
  have:jY (pg b (aj sh) i) j=FP b _ _ ((aj sh).getD i dj) j:=aX hj
  rw[this];exact⟨rfl,rfl⟩
 have cpt:∀i j,j<((aj sh).getD i dj).Uj.length→(oZ (pg b (aj sh) i) j).chan=((aj sh).getD i dj).Uj.getD j 0∧(oZ (pg b (aj sh) i) j).w=2:=fun i j hj=>by
  have:oZ (pg b (aj sh) i) j=H3 b _ _ _ ((aj sh).getD i dj) j:=aX hj
  rw[this];exact⟨rfl,rfl⟩
 have cast:∀x:Int,0≤x→((x.toNat:Nat):Int)=x:=fun x hx=>by omega
 refine⟨by omega,by omega,by omega,fun i hi=>?_,fun i hi j hj=>?_,fun i hi j hj=>?_,fun i hi j k hj hk he=>?_,fun i hi j k hj hk he=>?_,fun n hn=>?_,fun n hn=>?_⟩
 ·rw[lp]at hi
  rw[gp i hi]
  have he:=ph sh i
  exact Me hb he.1 he.2
 ·rw[lp]at hi
  rw[gp i hi]at hj ⊢
  rw[ltk]at hj
  obtain⟨a1,a2,a3⟩:=q1 i hi j hj
  obtain⟨c1,c2⟩:=ctk i j hj
  have e:u6 (pg b (aj sh) i) j=(((aj sh).getD i dj).I.getD j 0).toNat:=by show(jY _ j).chan.toNat=_;rw[c1]
  rw[c1,c2,e,gc _ (by omega),lc]
  refine⟨a1,by omega,rfl,?_⟩
  show yz _ _ _=_
  rw[cast _ a1];exact a3
 ·rw[lp]at hi
  rw[gp i hi]at hj ⊢
  rw[lpt]at hj
  obtain⟨a1,a2,a3⟩:=q2 i hi j hj
  obtain⟨c1,c2⟩:=cpt i j hj
  have e:uG (pg b (aj sh) i) j=(((aj sh).getD i dj).Uj.getD j 0).toNat:=by show(oZ _ j).chan.toNat=_;rw[c1]
  rw[c1,c2,e,gc _ (by omega),lc]
  refine⟨a1,by omega,rfl,?_⟩
  show yA _ _ _=_
  rw[cast _ a1];exact a3
 ·rw[lp]at hi
  rw[gp i hi]at hj hk he
  rw[ltk]at hj hk
  have a1:=(q1 i hi j hj).1
  have a2:=(q1 i hi k hk).1
  have e1:u6 (pg b (aj sh) i) j=(((aj sh).getD i dj).I.getD j 0).toNat:=by show(jY _ j).chan.toNat=_;rw[(ctk i j hj).1]
  have e2:u6 (pg b (aj sh) i) k=(((aj sh).getD i dj).I.getD k 0).toNat:=by show(jY _ k).chan.toNat=_;rw[(ctk i k hk).1]
  exact q3 i hi j hj k hk (by omega)
 ·rw[lp]at hi
  rw[gp i hi]at hj hk he
  rw[lpt]at hj hk
  have a1:=(q2 i hi j hj).1
  have a2:=(q2 i hi k hk).1
  have e1:uG (pg b (aj sh) i) j=(((aj sh).getD i dj).Uj.getD j 0).toNat:=by show(oZ _ j).chan.toNat=_;rw[(cpt i j hj).1]
  have e2:uG (pg b (aj sh) i) k=(((aj sh).getD i dj).Uj.getD k 0).toNat:=by show(oZ _ k).chan.toNat=_;rw[(cpt i k hk).1]
  exact q4 i hi j hj k hk (by omega)
 ·rw[lc]at hn
  rw[gc n hn];rfl
 ·rw[lc]at hn
  rw[gc n hn]
  show(0:Int)≤if _ then _ else _
  split
  ·exact Int.add_nonneg (by decide) (VC _ (by decide))
  ·exact Int.le_refl 0
theorem B6 {c d:Sc}:∀(l:List Ex) (ws:List Int),(∀a∈l,∀w,eF c a=some w→eF d a=some w)→eF.tyL c l=some ws→eF.tyL d l=some ws
 | [],ws,_,h=>by rw[eF.tyL]at h ⊢;exact h
 | a::r,ws,hm,h=>by
  rw[eF.tyL]at h
  split at h
  ·rename_i w ws' h1 h2
   cases h
   rw[eF.tyL,hm a (by simp) w h1,B6 r ws' (fun x hx=>hm x (by simp[hx])) h2]
  ·cases h
theorem sG {r t ms:List Int}:∀(n:Nat) (e:Ex) (w:Int),fo e≤n→eF ⟨r,[],t⟩ e=some w→eF ⟨r,ms,t⟩ e=some w
 | 0,e,w,h,_=>by have:=LS e;omega
 | n+1,e,w,h,ht=>by
  obtain⟨ws,q1,q2⟩:=gk ht
  have h1:eF.tyL ⟨r,ms,t⟩ e.args=some ws:=B6 e.args ws (fun a ha v hv=>sG n a v (by have:=r8 ha;omega) hv) q1
  cases e with
  | mk op name k w0 args =>
   rw[eF]
   simp only at h1 q2 ⊢
   rw[h1]
   simp only
   rcases q2 with ⟨a,b,c,d,e⟩ | ⟨a,b,c,d,e⟩ | ⟨a,b,c,d,e⟩ | ⟨a,b,c,d,e⟩
   ·rw[Uw a,Uw ⟨b,c,d⟩,e]
   ·rw[Ur (by omega),Uw a,Uw ⟨b,c,d⟩,e]
   ·simp at d;omega
   ·rw[Ur a,Ur c,Ur b,Uw d,e]
theorem Nr {x:Int} {k:Nat} (h0:0≤x) (h1:x≤255):IntKind.wrap .u8 (Int.tdiv x (k:Int))=x / k:=by
 rw[VW h0]
 have h2:0≤x / (k:Int):=Int.ediv_nonneg h0 (by omega)
 have h3:x / (k:Int)≤x:=Int.ediv_le_self _ h0
 exact Ru rfl h2 (by omega)
theorem Qw {n:Nat} (h:n≤1000000):IntKind.wrap .i64 (Int.tdiv (n:Int) 10)=((n / 10:Nat):Int):=by
 rw[VW (by omega)]
 exact uD rfl (by omega) (by omega)
theorem Qx (n:Nat):Int.tmod (n:Int) 10=((n%10:Nat):Int):=by
 rw[Vo (by omega)];omega
def Nt:ByteArray:=bs [109,101,109]
def FV:Ex:=⟨1,e0,⟨0,e0⟩,⟨1,e0⟩,[]⟩
def B7 (y:Int):Int:=1+y / 2%2
def t4 (y:Int):Mm:=⟨Nt,B7 y,[2,1,4,2].getD (y / 4%4).toNat 0,FV,FV,⟨1,e0,⟨0,e0⟩,⟨B7 y,e0⟩,[]⟩,⟨1,e0,0⟩⟩
def Mf (b:List Int) (i:Nat):Bool:=decide (i<b.length)&&decide (b.getD i 0%2=1)
def km (p:Pr) (b:List Int) (i:Nat):Pr:=if Mf b i=true then { p with Uk:=[t4 (b.getD i 0)] } else p
def aM (c:Ci) (b:List Int):Ci:=⟨tab (fun i=>km (c.U.getD i ac) b i) c.U.length,c.J⟩
theorem Mg {b:List Int} {i:Nat} (h1:i<b.length) (h2:b.getD i 0%2=1) (p:Pr):km p b i={ p with Uk:=[t4 (b.getD i 0)] }:=by
 unfold km Mf;rw[Uz h1,Uz h2,Uw (by simp)]
theorem Mh {b:List Int} {i:Nat} (h1:¬i<b.length) (p:Pr):km p b i=p:=by
 unfold km Mf;rw[Uy h1,Wv,Ur (by simp)]
theorem Mi {b:List Int} {i:Nat} (h2:¬b.getD i 0%2=1) (p:Pr):km p b i=p:=by
 unfold km Mf;rw[Uy h2,U7,Ur (by simp)]
def yB (b:List Int) (w:Int) (q:Nat) (z:Nat):Int:=if q+z<b.length then nb (b.getD (q+z) 0) w else 0
def uP (b:List Int) (p:Pr) (q:Nat):Nat→Nat
 | 0=>q
 | k+1=>uP b p q k+(p.Uk.getD k ay).Um.toNat
def CR (b:List Int) (p:Pr) (q k:Nat):List Int:=tab (yB b (p.Uk.getD k ay).w (uP b p q k)) (p.Uk.getD k ay).Um.toNat
def kQ (b:List Int) (c:Ci):Nat→Nat
 | 0=>0
 | i+1=>uP b (c.U.getD i ac) (kQ b c i) (c.U.getD i ac).Uk.length
def Hn (b:List Int) (c:Ci) (s:Ns) (i:Nat):Ps:=⟨(s.U.getD i a7).Ul,tab (CR b (c.U.getD i ac) (kQ b c i)) (c.U.getD i ac).Uk.length⟩
def iA (c:Ci) (s:Ns) (b:List Int):Ns:=⟨tab (Hn b c s) c.U.length,s.J⟩
theorem Mj {x w:Int} (h0:0≤w) (h:w≤62):dR (nb x w) w:=by
 unfold nb;rw[Uw ⟨h0,h⟩];exact r6 h0 h
theorem OC (y:Int):ax (t4 y).w=true∧(1≤(t4 y).Um∧(t4 y).Um≤4):=by
 refine⟨aQ.2 (by show 1≤1+y / 2%2∧1+y / 2%2≤8;omega),?_⟩
 have:(y / 4%4).toNat=0∨(y / 4%4).toNat=1∨(y / 4%4).toNat=2∨(y / 4%4).toNat=3:=by omega
 show 1≤[2,1,4,2].getD (y / 4%4).toNat 0∧[2,1,4,2].getD (y / 4%4).toNat 0≤(4:Int)
 rcases this with h | h | h | h<;>rw[h]<;>decide
theorem Qy {p:Pr} (hp:gm p) (hm:p.Uk=[]) (b:List Int) (i:Nat):gm (km p b i):=by
 unfold km
 split
 ·have hs:o0 p=⟨p.Ul.map (·.w),[],p.I.map (·.w)⟩:=by unfold o0;rw[hm];rfl
  have hn:Oe p=⟨p.Ul.map (·.w),[],[]⟩:=by unfold Oe;rw[hm];rfl
  generalize hy:b.getD i 0=y
  have hk:=OC y
  refine⟨hp.rl,by simp,hp.tl,hp.pl,fun j hj=>?_,fun j hj=>?_,fun j hj=>?_,fun j hj=>?_⟩
  ·have:=hp.rw j hj
   rw[hs]at this
   exact⟨this.1,this.2.1,sG _ _ _ (Ut _) this.2.2.1,this.2.2.2⟩
  ·have:j=0:=by have:j<1:=hj;omega
   subst this
   refine⟨hk.1,hk.2,⟨rfl,by show fo FV≤3;decide⟩,⟨⟨1,rfl⟩,by show fo FV≤3;decide⟩,?_,?_⟩
   ·show eF _ ⟨1,e0,⟨0,e0⟩,⟨B7 y,e0⟩,[]⟩=some (B7 y)
    have:B7 y=1∨B7 y=2:=by unfold B7;omega
    rcases this with h | h<;>rw[h]<;>rfl
   ·show fo ⟨1,e0,⟨0,e0⟩,⟨B7 y,e0⟩,[]⟩≤3
    simp[fo,fo.depL]
  ·have:=hp.tw j hj
   rw[hn]at this
   exact⟨this.1,sG _ _ _ (Ut _) this.2.1,this.2.2⟩
  ·have:=hp.pw j hj
   rw[hs]at this
   exact⟨this.1,⟨sG _ _ _ (Ut _) this.2.1.1,this.2.1.2⟩,sG _ _ _ (Ut _) this.2.2.1,this.2.2.2⟩
 ·exact hp
theorem yC (p:Pr) (b:List Int) (i:Nat):(km p b i).I=p.I:=by unfold km;split<;>rfl
theorem B8 (p:Pr) (b:List Int) (i:Nat):(km p b i).Uj=p.Uj:=by unfold km;split<;>rfl
theorem J7 (p:Pr) (b:List Int) (i:Nat):(km p b i).Ul=p.Ul:=by unfold km;split<;>rfl
theorem J8 (p:Pr) (b:List Int) (i:Nat):(km p b i).name=p.name:=by unfold km;split<;>rfl
theorem B9 (c:Ci) (b:List Int):(aM c b).U.length=c.U.length:=aJ _ _
theorem FW {c:Ci} {b:List Int} {i:Nat} (h:i<c.U.length):(aM c b).U.getD i ac=km (c.U.getD i ac) b i:=aX h
theorem Ml {c:Ci} (hc:cr c) (hm:∀i,i<c.U.length→(a9 c i).Uk=[]) (b:List Int):cr (aM c b):=by
 have hl:=B9 c b
 have Zs:∀i,i<c.U.length→a9 (aM c b) i=km (a9 c i) b i:=fun i hi=>FW hi
 refine⟨by rw[hl];exact hc.n1,by rw[hl];exact hc.nl,hc.cl,fun i hi=>?_,fun i hi=>?_,fun i hi=>?_,fun i hi=>?_,fun i hi=>?_,hc.cw,hc.cp⟩<;>rw[hl]at hi
 ·rw[Zs i hi];exact Qy (hc.pr i hi) (hm i hi) b i
 ·rw[Zs i hi];unfold u6 jY;rw[yC];exact hc.tk i hi
 ·rw[Zs i hi];unfold uG oZ;rw[B8];exact hc.pt i hi
 ·rw[Zs i hi];unfold u6 jY;rw[yC];exact hc.td i hi
 ·rw[Zs i hi];unfold uG oZ;rw[B8];exact hc.pd i hi
theorem Mn {c:Ci} (hc:cr c) {s:Ns} (hs:eG c s) (b:List Int):eG c (iA c s b):=by
 refine⟨aJ _ _,hs.cl,fun i hi=>?_,hs.cv,hs.cc⟩
 have e:tK (iA c s b) i=Hn b c s i:=aX hi
 rw[e]
 have h:=hs.pv i hi
 have hk:=(hc.pr i hi).mw
 refine⟨h.rl,h.rv,aJ _ _,fun j hj=>?_,fun j hj z hz=>?_⟩
 ·rw[show(Hn b c s i).Uk.getD j []=CR b (a9 c i) (kQ b c i) j from aX hj]
  unfold CR
  rw[aJ]
  have:=(hk j hj).2.1.1
  show(((fK (a9 c i) j).Um.toNat:Nat):Int)=(fK (a9 c i) j).Um
  omega
 ·rw[show(Hn b c s i).Uk.getD j []=CR b (a9 c i) (kQ b c i) j from aX hj]at hz ⊢
  unfold CR at hz ⊢
  rw[aJ]at hz
  rw[aX hz]
  have hw:=aQ.1 (hk j hj).1
  unfold yB
  split
  ·exact Mj (by show 0≤(fK (a9 c i) j).w;omega) (by show(fK (a9 c i) j).w≤62;omega)
  ·exact⟨Int.le_refl _,by have:=aB (w:=(fK (a9 c i) j).w) (by omega) (by omega);exact this.1⟩
theorem DQ {p:Pr} (hp:gm p) (b:List Int) (q:Nat):∀k,k≤p.Uk.length→uP b p q k≤q+4*k
 | 0,_=>Ut _
 | k+1,h=>by
  have h1:=DQ hp b q k (by omega)
  have h2:=(hp.mw k (by omega)).2.1.2
  have:(fK p k).Um=(p.Uk.getD k ay).Um:=rfl
  rw[uP];omega
theorem J9 {c:Ci} (hc:cr c) (b:List Int):∀i,i≤c.U.length→kQ b c i≤400*i
 | 0,_=>Ut _
 | i+1,h=>by
  have h1:=J9 hc b i (by omega)
  have h2:=DQ (hc.pr i (by omega)) b (kQ b c i) (a9 c i).Uk.length (Ut _)
  have h3:=(hc.pr i (by omega)).ml
  rw[kQ]
  show uP b (a9 c i) (kQ b c i) (a9 c i).Uk.length≤_
  omega
def cL (k:Int):ByteArray:=[bs [114],bs [115],bs [109,101,109],bs [111,108,100],bs [120],bs [109,101,109]].getD (k%6).toNat e0
abbrev OD:ByteArray:=bs [48,49,50,51,52,53,54,55,56,57]
def dA (n:Nat):ByteArray:=OD.extract (n / 10) (n / 10+1)++OD.extract (n%10) (n%10+1)
theorem sH (k:Int):(cL k).size≤3:=by
 have:(k%6).toNat=0∨(k%6).toNat=1∨(k%6).toNat=2∨(k%6).toNat=3∨(k%6).toNat=4∨(k%6).toNat=5:=by omega
 unfold cL
 rcases this with h | h | h | h | h | h<;>rw[h]<;>decide
theorem pi (n:Nat):(dA n).size≤20:=by
 unfold dA
 rw[V3,Wd,Wd]
 have:OD.size=10:=rfl
 omega
def iB (k1 k2:Int):an:=⟨k1%4,if 2≤k1%4 then cL (k1 / 4)else e0,if k1%4=3 then k2-128 else 0⟩
def sI (xi:ByteArray) (k2:Int) (at_:Nat) (old:ByteArray):ByteArray:=if k2%8=0 then (xi++cL (k2 / 8))++dA at_ else old
def RD:ByteArray:=bs [114,101,103]
def T5:ByteArray:=bs [109,101,109]
def Nu:ByteArray:=bs [99,104,97,110]
def Nv:ByteArray:=bs [112,114,111,99]
def a6 (p:Pr) (k0:Int):Nat:=(k0%((p.Ul.length+p.Uk.length:Nat):Int)).toNat
def OE (r:Rg) (k1 k2:Int) (at_:Nat):Rg:={ r with Un:=iB k1 k2,name:=sI RD k2 at_ r.name }
def OG (m:Mm) (k1 k2:Int) (at_:Nat):Mm:={ m with Un:=iB k1 k2,name:=sI T5 k2 at_ m.name }
def dM (p:Pr) (k0 k1 k2:Int):Pr :=
 if p.Ul.length+p.Uk.length=0 then p
 else if a6 p k0<p.Ul.length then { p with Ul:=p.Ul.set (a6 p k0) (OE (p.Ul.getD (a6 p k0) aI) k1 k2 (a6 p k0)) }
 else { p with Uk:=p.Uk.set (a6 p k0-p.Ul.length) (OG (p.Uk.getD (a6 p k0-p.Ul.length) ay) k1 k2 (a6 p k0)) }
def b4 {α:Type} (l:List α) (k:Int):Nat:=(k%(l.length:Int)).toNat
def uQ (c:Ci) (b:List Int) (i:Nat):Ci :=
 if b.getD i 0%8=0 then
  (if 0<c.J.length then ⟨c.U,c.J.set (b4 c.J (b.getD (i+1) 0)) { c.J.getD (b4 c.J (b.getD (i+1) 0)) aK with name:=Nu++dA i }⟩else c)
 else if b.getD i 0%8=1∨b.getD i 0%8=2 then
  (if 0<c.J.length∧0<(c.J.getD (b4 c.J (b.getD (i+1) 0)) aK).cap then ⟨c.U,c.J.set (b4 c.J (b.getD (i+1) 0)) { c.J.getD (b4 c.J (b.getD (i+1) 0)) aK with cap:=1+b.getD (i+2) 0%8 }⟩else c)
 else if b.getD i 0%8=3 then
  (if 0<c.U.length then ⟨c.U.set (b4 c.U (b.getD (i+1) 0)) { c.U.getD (b4 c.U (b.getD (i+1) 0)) ac with name:=Nv++dA i },c.J⟩else c)
 else (if 0<c.U.length then ⟨c.U.set (b4 c.U (b.getD (i+1) 0)) (dM (c.U.getD (b4 c.U (b.getD (i+1) 0)) ac) (b.getD (i+2) 0) (b.getD (i+3) 0) (b.getD i 0+b.getD (i+2) 0)),c.J⟩else c)
def xk (c:Ci) (b:List Int):Nat→Ci
 | 0=>c
 | t+1=>uQ (xk c b t) b (4*t)
def xl (b:List Int):Nat:=min 6 (b.length / 4)
def d9 (c:Ci) (b:List Int):Ci:=xk c b (xl b)
theorem Mo (c:Ci) (b:List Int) (i:Nat):(uQ c b i).J.length=c.J.length∧(uQ c b i).U.length=c.U.length:=by
 unfold uQ
 repeat' split
 all_goals simp
theorem FX (c:Ci) (b:List Int):∀t,(xk c b t).J.length=c.J.length∧(xk c b t).U.length=c.U.length
 | 0=>⟨rfl,rfl⟩
 | t+1=>by
  have h:=FX c b t
  have h2:=Mo (xk c b t) b (4*t)
  rw[xk];omega
theorem Ca {c:Ci} {b:List Int} {i:Nat} (h:b.getD i 0%8=0) (hl:0<c.J.length):uQ c b i=⟨c.U,c.J.set (b4 c.J (b.getD (i+1) 0)) { c.J.getD (b4 c.J (b.getD (i+1) 0)) aK with name:=Nu++dA i }⟩:=by
 unfold uQ;rw[Uw h,Uw hl]
theorem qX {c:Ci} {b:List Int} {i:Nat} (h:b.getD i 0%8=0) (hl:¬0<c.J.length):uQ c b i=c:=by
 unfold uQ;rw[Uw h,Ur hl]
theorem Cb {c:Ci} {b:List Int} {i:Nat} (h:b.getD i 0%8=1∨b.getD i 0%8=2) (hl:0<c.J.length) (h2:0<(c.J.getD (b4 c.J (b.getD (i+1) 0)) aK).cap):uQ c b i=⟨c.U,c.J.set (b4 c.J (b.getD (i+1) 0)) { c.J.getD (b4 c.J (b.getD (i+1) 0)) aK with cap:=1+b.getD (i+2) 0%8 }⟩:=by
 unfold uQ;rw[Ur (by omega),Uw h,Uw ⟨hl,h2⟩]
theorem qY {c:Ci} {b:List Int} {i:Nat} (h:b.getD i 0%8=1∨b.getD i 0%8=2) (hl:¬(0<c.J.length∧0<(c.J.getD (b4 c.J (b.getD (i+1) 0)) aK).cap)):uQ c b i=c:=by
 unfold uQ;rw[Ur (by omega),Uw h,Ur hl]
theorem Cc {c:Ci} {b:List Int} {i:Nat} (h:b.getD i 0%8=3) (hl:0<c.U.length):uQ c b i=⟨c.U.set (b4 c.U (b.getD (i+1) 0)) { c.U.getD (b4 c.U (b.getD (i+1) 0)) ac with name:=Nv++dA i },c.J⟩:=by
 unfold uQ;rw[Ur (by omega),Ur (by omega),Uw h,Uw hl]
theorem qZ {c:Ci} {b:List Int} {i:Nat} (h:b.getD i 0%8=3) (hl:¬0<c.U.length):uQ c b i=c:=by
 unfold uQ;rw[Ur (by omega),Ur (by omega),Uw h,Ur hl]
theorem Cd {c:Ci} {b:List Int} {i:Nat} (h:¬b.getD i 0%8=0) (h1:¬b.getD i 0%8=1) (h2:¬b.getD i 0%8=2) (h3:¬b.getD i 0%8=3) (hl:0<c.U.length):uQ c b i=⟨c.U.set (b4 c.U (b.getD (i+1) 0)) (dM (c.U.getD (b4 c.U (b.getD (i+1) 0)) ac) (b.getD (i+2) 0) (b.getD (i+3) 0) (b.getD i 0+b.getD (i+2) 0)),c.J⟩:=by
 unfold uQ;rw[Ur h,Ur (by omega),Ur h3,Uw hl]
theorem ra {c:Ci} {b:List Int} {i:Nat} (h:¬b.getD i 0%8=0) (h1:¬b.getD i 0%8=1) (h2:¬b.getD i 0%8=2) (h3:¬b.getD i 0%8=3) (hl:¬0<c.U.length):uQ c b i=c:=by
 unfold uQ;rw[Ur h,Ur (by omega),Ur h3,Ur hl]
theorem Cf {p:Pr} {k0 k1 k2:Int} (h:p.Ul.length+p.Uk.length=0):dM p k0 k1 k2=p:=by unfold dM;rw[Uw h]
theorem qr {p:Pr} {k0 k1 k2:Int} (h:¬p.Ul.length+p.Uk.length=0) (h2:a6 p k0<p.Ul.length):dM p k0 k1 k2={ p with Ul:=p.Ul.set (a6 p k0) (OE (p.Ul.getD (a6 p k0) aI) k1 k2 (a6 p k0)) }:=by
 unfold dM;rw[Ur h,Uw h2]
theorem qs {p:Pr} {k0 k1 k2:Int} (h:¬p.Ul.length+p.Uk.length=0) (h2:¬a6 p k0<p.Ul.length):dM p k0 k1 k2={ p with Uk:=p.Uk.set (a6 p k0-p.Ul.length) (OG (p.Uk.getD (a6 p k0-p.Ul.length) ay) k1 k2 (a6 p k0)) }:=by
 unfold dM;rw[Ur h,Ur h2]
theorem fO {α:Type} {l:List α} (k:Int) (h:0<l.length):b4 l k<l.length:=by
 have:=VC k (show(l.length:Int)≠0 by omega)
 have:=VI k (show(0:Int)<l.length by omega)
 unfold b4;omega
theorem Ao {p:Pr} (k:Int) (h:¬p.Ul.length+p.Uk.length=0):a6 p k<p.Ul.length+p.Uk.length:=by
 have:=VC k (show((p.Ul.length+p.Uk.length:Nat):Int)≠0 by omega)
 have:=VI k (show(0:Int)<((p.Ul.length+p.Uk.length:Nat):Int) by omega)
 unfold a6;omega
theorem Mp {p:Pr} {k:Int} (h0:0≤k):Int.tmod k ((p.Ul.length+p.Uk.length:Nat):Int)=((a6 p k:Nat):Int):=by
 rw[Vo h0]
 unfold a6
 by_cases h:p.Ul.length+p.Uk.length=0
 ·rw[h];simp;omega
 ·have:=VC k (show((p.Ul.length+p.Uk.length:Nat):Int)≠0 by omega)
  omega
theorem oc {α:Type} {l:List α} {k:Int} (h0:0≤k):Int.tmod k (l.length:Int)=((b4 l k:Nat):Int):=by
 rw[Vo h0]
 unfold b4
 by_cases h:l.length=0
 ·rw[h];simp;omega
 ·have:=VC k (show(l.length:Int)≠0 by omega)
  omega
theorem Ap {α:Type} {l:List α} {i:Nat} {x d:α} (h:i<l.length):(l.set i x).getD i d=x:=by
 rw[bJ _ _ (by rw[UQ];exact h),List.getElem_set_self]
theorem Aq (p:Pr) (k0 k1 k2:Int):(dM p k0 k1 k2).Ul.length=p.Ul.length∧(dM p k0 k1 k2).Uk.length=p.Uk.length:=by
 unfold dM
 repeat' split
 all_goals simp
def La (p:Pr):Prop:=p.Ul.length+p.Uk.length≤100
theorem yD {l:List Pr} {i j:Nat} {x:Pr} (hi:i<l.length) (P:Pr→Prop) (hx:P x) (hj:P (l.getD j ac)):P ((l.set i x).getD j ac):=by
 by_cases e:i=j
 ·subst e;rw[Ap hi];exact hx
 ·rw[Vj,UF e,← Vj];exact hj
theorem OH {c:Ci} {b:List Int} {i:Nat} (h:∀j,La (c.U.getD j ac)):∀j,La ((uQ c b i).U.getD j ac):=by
 intro j
 unfold uQ
 repeat' split
 all_goals first | exact h j | skip
 ·rename_i hl
  exact yD (fO _ hl) La (h _) (h j)
 ·rename_i hl
  exact yD (fO _ hl) La (by have:=Aq (c.U.getD (b4 c.U (b.getD (i+1) 0)) ac) (b.getD (i+2) 0) (b.getD (i+3) 0) (b.getD i 0+b.getD (i+2) 0);have:=h (b4 c.U (b.getD (i+1) 0));unfold La at *;omega) (h j)
theorem Ka {c:Ci} {b:List Int} (h:∀j,La (c.U.getD j ac)):∀t j,La ((xk c b t).U.getD j ac)
 | 0=>h
 | t+1=>OH (Ka h t)
def og (t:Nat):List ByteArray:=[K9 0,K9 1,K9 2,K9 3,K9 4]++(List.range t).map (fun u=>Nu++dA (4*u))
def oh (t:Nat):List ByteArray:=[K8 0,K8 1,K8 2,K8 3]++(List.range t).map (fun u=>Nv++dA (4*u))
def t5 (i:Nat):List ByteArray:=Qo i::(List.range 6).map (fun u=>(RD++cL (u:Nat))++dA i)
theorem RE {t:Nat} (h:t<6):∀x∈og t,x≠Nu++dA (4*t):=by
 have:t=0∨t=1∨t=2∨t=3∨t=4∨t=5:=by omega
 rcases this with h | h | h | h | h | h<;>subst h<;>decide +kernel
theorem RF {t:Nat} (h:t<6):∀x∈oh t,x≠Nv++dA (4*t):=by
 have:t=0∨t=1∨t=2∨t=3∨t=4∨t=5:=by omega
 rcases this with h | h | h | h | h | h<;>subst h<;>decide +kernel
theorem OI:∀x∈t5 0,∀y∈t5 1,x≠y:=by decide +kernel
theorem Qz {t:Nat} {k:ByteArray} (h:k∈og t):k∈og (t+1):=by
 unfold og at *;rw[Wq,Vc,← Vf];exact VP _ h
theorem QA (t:Nat):Nu++dA (4*t)∈og (t+1):=by
 unfold og;rw[Wq,Vc];simp
theorem QB {t:Nat} {k:ByteArray} (h:k∈oh t):k∈oh (t+1):=by
 unfold oh at *;rw[Wq,Vc,← Vf];exact VP _ h
theorem QC (t:Nat):Nv++dA (4*t)∈oh (t+1):=by
 unfold oh;rw[Wq,Vc];simp
theorem Ho (k:Int):cL k=cL ((k%6).toNat:Nat):=by
 unfold cL
 have:(((k%6).toNat:Nat):Int)%6=k%6:=by omega
 rw[this]
theorem RG (k2:Int) {i:Nat} {old:ByteArray} (h:old∈t5 i):sI RD k2 i old∈t5 i:=by
 unfold sI
 split
 ·unfold t5
  refine UT _ (List.mem_map.2 ⟨(k2 / 8%6).toNat,Va.2 (by omega),?_⟩)
  rw[← Ho]
 ·exact h
structure OJ (p:Pr):Prop where
 rl:p.Ul.length≤2
 ml:p.Uk.length≤1
 rn:∀i,i<p.Ul.length→l6 p i∈t5 i
 rk:DL p
structure p9 (c:Ci) (t:Nat):Prop where
 cl:c.J.length≤5
 pl:c.U.length≤4
 cn:∀j,j<c.J.length→bP c j∈og t
 cd:iP (bP c) c.J.length
 pn:∀j,j<c.U.length→jG c j∈oh t
 pd:iP (jG c) c.U.length
 pr:∀j,j<c.U.length→OJ (c.U.getD j ac)
theorem dg {α:Type} {l:List α} {i j:Nat} {x d:α} (hi:i<l.length):(l.set i x).getD j d=if j=i then x else l.getD j d:=by
 by_cases e:j=i
 ·subst e;rw[Uw rfl];exact Ap hi
 ·rw[Ur e,Vj,UF (fun h=>e h.symm),← Vj]
theorem Cg {f g:Nat→ByteArray} {n i:Nat} {x:ByteArray} (h:iP f n) (hx:∀j,j<n→f j≠x) (hg:∀j,g j=if j=i then x else f j):iP g n:=by
 intro a ha b hb
 rw[hg,hg]
 by_cases h1:b=i
 ·rw[Uw h1]
  by_cases h2:a=i
  ·omega
  ·rw[Ur h2];exact fun e=>hx a ha e.symm
 ·rw[Ur h1]
  by_cases h2:a=i
  ·rw[Uw h2];exact hx b (by omega)
  ·rw[Ur h2];exact h a ha b hb
theorem wR {f g:Nat→ByteArray} {n:Nat} (h:iP f n) (hg:∀j,g j=f j):iP g n:=by
 intro a ha b hb;rw[hg,hg];exact h a ha b hb
theorem Cj (k1 k2:Int):0≤(iB k1 k2).kind∧(iB k1 k2).kind≤3:=by
 show 0≤k1%4∧k1%4≤3;omega
theorem OK {p:Pr} (h:OJ p) (k0 k1 k2:Int):OJ (dM p k0 k1 k2):=by
 have hl:=Aq p k0 k1 k2
 refine⟨by rw[hl.1];exact h.rl,by rw[hl.2];exact h.ml,?_,?_⟩
 ·intro i hi
  rw[hl.1]at hi
  have h0:=h.rn i hi
  unfold dM l6
  split
  ·exact h0
  ·split
   ·rename_i Zs
    show((p.Ul.set _ _).getD i aI).name∈_
    rw[dg Zs]
    split
    ·rename_i e;subst e;exact RG k2 h0
    ·exact h0
   ·exact h0
 ·refine⟨fun j hj=>?_,fun j hj=>?_⟩
  ·rw[hl.1]at hj
   have h0:=h.rk.1 j hj
   unfold dM
   split
   ·exact h0
   ·split
    ·rename_i Zs
     show 0≤((p.Ul.set _ _).getD j aI).Un.kind∧((p.Ul.set _ _).getD j aI).Un.kind≤3
     rw[dg Zs]
     split
     ·exact Cj k1 k2
     ·exact h0
    ·exact h0
  ·rw[hl.2]at hj
   have h0:=h.rk.2 j hj
   unfold dM
   split
   ·exact h0
   ·rename_i Xt
    split
    ·exact h0
    ·rename_i Zs
     have WL:=Ao (p:=p) k0 Xt
     show 0≤((p.Uk.set _ _).getD j ay).Un.kind∧((p.Uk.set _ _).getD j ay).Un.kind≤3
     rw[dg (by omega)]
     split
     ·exact Cj k1 k2
     ·exact h0
theorem Kb (p:Pr) (k0 k1 k2:Int):(dM p k0 k1 k2).name=p.name:=by
 unfold dM;repeat' split
 all_goals rfl
theorem Mq {c:Ci} {t:Nat} (h:p9 c t):p9 c (t+1):=⟨h.cl,h.pl,fun j hj=>Qz (h.cn j hj),h.cd,fun j hj=>QB (h.pn j hj),h.pd,h.pr⟩
theorem OL {c:Ci} {t:Nat} (b:List Int) (ht:t<6) (h:p9 c t):p9 (uQ c b (4*t)) (t+1):=by
 have hm:=Mq h
 have hnc:∀j,j<c.J.length→bP c j≠Nu++dA (4*t):=fun j hj=>RE ht _ (h.cn j hj)
 have hnp:∀j,j<c.U.length→jG c j≠Nv++dA (4*t):=fun j hj=>RF ht _ (h.pn j hj)
 unfold uQ
 split
 ·split
  ·rename_i hl
   have hi:=fO (b.getD (4*t+1) 0) hl
   generalize b4 c.J (b.getD (4*t+1) 0)=i at hi ⊢
   have hg:∀j,bP (⟨c.U,c.J.set i { c.J.getD i aK with name:=Nu++dA (4*t) }⟩:Ci) j=if j=i then Nu++dA (4*t)else bP c j:=by
    intro j
    show((c.J.set i _).getD j aK).name=_
    rw[dg hi]
    split<;>rfl
   refine⟨by rw[UQ];exact h.cl,h.pl,fun j hj=>?_,?_,hm.pn,h.pd,h.pr⟩
   ·rw[UQ]at hj
    rw[hg]
    split
    ·exact QA t
    ·exact hm.cn j hj
   ·rw[UQ];exact Cg h.cd hnc hg
  ·exact hm
 ·split
  ·split
   ·rename_i hl
    have hi:=fO (b.getD (4*t+1) 0) hl.1
    generalize b4 c.J (b.getD (4*t+1) 0)=i at hi ⊢
    have hg:∀j,bP (⟨c.U,c.J.set i { c.J.getD i aK with cap:=1+b.getD (4*t+2) 0%8 }⟩:Ci) j=bP c j:=by
     intro j
     show((c.J.set i _).getD j aK).name=(c.J.getD j aK).name
     rw[dg hi]
     split
     ·rename_i e;rw[e]
     ·rfl
    refine⟨by rw[UQ];exact h.cl,h.pl,fun j hj=>?_,?_,hm.pn,h.pd,h.pr⟩
    ·rw[UQ]at hj
     rw[hg];exact hm.cn j hj
    ·rw[UQ];exact wR h.cd hg
   ·exact hm
  ·split
   ·split
    ·rename_i hl
     have hi:=fO (b.getD (4*t+1) 0) hl
     generalize b4 c.U (b.getD (4*t+1) 0)=i at hi ⊢
     have hg:∀j,jG (⟨c.U.set i { c.U.getD i ac with name:=Nv++dA (4*t) },c.J⟩:Ci) j=if j=i then Nv++dA (4*t)else jG c j:=by
      intro j
      show((c.U.set i _).getD j ac).name=_
      rw[dg hi]
      split<;>rfl
     refine⟨h.cl,by rw[UQ];exact h.pl,hm.cn,h.cd,fun j hj=>?_,?_,fun j hj=>?_⟩
     ·rw[UQ]at hj
      rw[hg]
      split
      ·exact QC t
      ·exact hm.pn j hj
     ·rw[UQ];exact Cg h.pd hnp hg
     ·rw[UQ]at hj
      rw[dg hi]
      split
      ·have q:=h.pr i hi;exact⟨q.rl,q.ml,q.rn,q.rk⟩
      ·exact h.pr j hj
    ·exact hm
   ·split
    ·rename_i hl
     have hi:=fO (b.getD (4*t+1) 0) hl
     generalize b4 c.U (b.getD (4*t+1) 0)=i at hi ⊢
     generalize hk0:b.getD (4*t+2) 0=k0
     generalize Zd:b.getD (4*t+3) 0=k1
     generalize Ys:b.getD (4*t) 0+k0=k2
     have hg:∀j,jG (⟨c.U.set i (dM (c.U.getD i ac) k0 k1 k2),c.J⟩:Ci) j=jG c j:=by
      intro j
      show((c.U.set i _).getD j ac).name=(c.U.getD j ac).name
      rw[dg hi]
      split
      ·rename_i e;rw[e,Kb]
      ·rfl
     refine⟨h.cl,by rw[UQ];exact h.pl,hm.cn,h.cd,fun j hj=>?_,?_,fun j hj=>?_⟩
     ·rw[UQ]at hj
      rw[hg];exact hm.pn j hj
     ·rw[UQ];exact wR h.pd hg
     ·rw[UQ]at hj
      rw[dg hi]
      split
      ·exact OK (h.pr i hi) _ _ _
      ·exact h.pr j hj
    ·exact hm
theorem Kc {c:Ci} (b:List Int) (h:p9 c 0):∀t,t≤6→p9 (xk c b t) t
 | 0,_=>h
 | t+1,ht=>OL b (by omega) (Kc b h t (by omega))
theorem Nw {c:Ci} {t:Nat} (h:p9 c t):kM c:=by
 refine⟨h.cd,h.pd,fun i hi=>?_,fun i hi=>?_⟩
 ·have q:=h.pr i hi
  intro a ha b hb
  have:=q.rl
  have e1:a=1:=by omega
  have e0:b=0:=by omega
  subst e1;subst e0
  have h0:=q.rn 0 (by omega)
  have h1:=q.rn 1 ha
  exact OI _ h0 _ h1
 ·intro a ha b hb
  have:=(h.pr i hi).ml
  omega
theorem Mr:iP K9 5:=by unfold iP;decide +kernel
theorem Ms:iP K8 4:=by unfold iP;decide +kernel
theorem jn (sh:Int) (b:List Int):(aF sh b).U.length=(aj sh).length∧(aF sh b).J.length=ln sh:=⟨aJ _ _,aJ _ _⟩
theorem Mt {sh:Int} {b:List Int} (hb:ic b):p9 (aF sh b) 0:=by
 obtain⟨l1,l2⟩:=jn sh b
 have hp:=ob sh
 have hn:=(DN sh).2
 have ec:∀j,j<ln sh→bP (aF sh b) j=K9 j:=fun j hj=>by unfold bP aF;rw[aX hj];rfl
 have ep:∀j,j<(aj sh).length→(aF sh b).U.getD j ac=pg b (aj sh) j:=fun j hj=>aX hj
 have en:∀j,j<(aj sh).length→jG (aF sh b) j=K8 j:=fun j hj=>by unfold jG;rw[ep j hj];rfl
 refine⟨by omega,by omega,fun j hj=>?_,fun i hi j hj=>?_,fun j hj=>?_,fun i hi j hj=>?_,fun j hj=>?_⟩
 ·rw[l2]at hj
  rw[ec j hj]
  have:j=0∨j=1∨j=2∨j=3∨j=4:=by omega
  unfold og
  rcases this with h | h | h | h | h<;>subst h<;>simp
 ·rw[l2]at hi
  rw[ec i hi,ec j (by omega)]
  exact Mr i (by omega) j hj
 ·rw[l1]at hj
  rw[en j hj]
  have:j=0∨j=1∨j=2∨j=3:=by omega
  unfold oh
  rcases this with h | h | h | h<;>subst h<;>simp
 ·rw[l1]at hi
  rw[en i hi,en j (by omega)]
  exact Ms i (by omega) j hj
 ·rw[l1]at hj
  rw[ep j hj]
  generalize gY b (aj sh) j=q0 at *
  have hy:=cO hb (gY b (aj sh) j)
  have hr:=Am hy.1
  have hl:(pg b (aj sh) j).Ul.length=qW (b.getD (gY b (aj sh) j) 0):=aJ _ _
  refine⟨by rw[hl];exact hr.2,Vs _,fun i hi=>?_,fun i hi=>?_,fun i hi=>?_⟩
  ·rw[hl]at hi
   have:l6 (pg b (aj sh) j) i=Qo i:=by unfold l6;rw[show(pg b (aj sh) j).Ul.getD i aI=Ox b _ _ _ i from aX hi];rfl
   rw[this]
   exact UX
  ·rw[hl]at hi
   rw[show(pg b (aj sh) j).Ul.getD i aI=Ox b _ _ _ i from aX hi]
   show 0≤[1,1,0].getD _ (0:Int)∧[1,1,0].getD _ (0:Int)≤3
   generalize hz:(b.getD (gY b (aj sh) j) 0 / 16%3).toNat=z
   have:z=0∨z=1∨z=2:=by omega
   rcases this with h | h | h<;>subst h<;>decide
  ·exact absurd hi (VN _)
theorem yE {sh:Int} {b:List Int}:∀i,i<(aF sh b).U.length→(a9 (aF sh b) i).Uk=[]:=fun i hi=>by
 rw[(jn sh b).1]at hi
 rw[show a9 (aF sh b) i=pg b (aj sh) i from aX hi];rfl
theorem Mu {c:Ci} {t:Nat} (h:p9 c t) (hm:∀i,i<c.U.length→(a9 c i).Uk=[]) (b:List Int):p9 (aM c b) t:=by
 have hl:=B9 c b
 have Zs:∀i,i<c.U.length→(aM c b).U.getD i ac=km (c.U.getD i ac) b i:=fun i hi=>FW hi
 have hn:∀i,i<c.U.length→jG (aM c b) i=jG c i:=fun i hi=>by unfold jG;rw[Zs i hi,J8]
 refine⟨h.cl,by rw[hl];exact h.pl,h.cn,h.cd,fun j hj=>?_,fun i hi j hj=>?_,fun j hj=>?_⟩
 ·rw[hl]at hj;rw[hn j hj];exact h.pn j hj
 ·rw[hl]at hi;rw[hn i hi,hn j (by omega)];exact h.pd i hi j hj
 ·rw[hl]at hj
  rw[Zs j hj]
  have q:=h.pr j hj
  have hr:=J7 (c.U.getD j ac) b j
  refine⟨by rw[hr];exact q.rl,?_,fun i hi=>?_,fun i hi=>?_,fun i hi=>?_⟩
  ·unfold km;split
   ·exact Ut 1
   ·exact q.ml
  ·unfold l6;rw[hr]at hi ⊢;exact q.rn i hi
  ·rw[hr]at hi ⊢;exact q.rk.1 i hi
  ·unfold km at hi ⊢
   split at hi
   ·rename_i hs
    rw[Uw hs]
    have:i=0:=by have:i<1:=hi;omega
    subst this
    exact⟨(by decide:(0:Int)≤1),(by decide:(1:Int)≤3)⟩
   ·rename_i hs
    rw[Ur hs]
    exact q.rk.2 i hi
structure cM (p q:Pr):Prop where
 rl:q.Ul.length=p.Ul.length
 ml:q.Uk.length=p.Uk.length
 rg:∀i,(q.Ul.getD i aI).w=(p.Ul.getD i aI).w∧(q.Ul.getD i aI).init=(p.Ul.getD i aI).init∧(q.Ul.getD i aI).next=(p.Ul.getD i aI).next
 mm:∀i,(q.Uk.getD i ay).w=(p.Uk.getD i ay).w∧(q.Uk.getD i ay).Um=(p.Uk.getD i ay).Um∧(q.Uk.getD i ay).enable=(p.Uk.getD i ay).enable∧(q.Uk.getD i ay).addr=(p.Uk.getD i ay).addr∧(q.Uk.getD i ay).data=(p.Uk.getD i ay).data
 tk:q.I=p.I
 pt:q.Uj=p.Uj
theorem jo (p:Pr):cM p p:=⟨rfl,rfl,fun _=>⟨rfl,rfl,rfl⟩,fun _=>⟨rfl,rfl,rfl,rfl,rfl⟩,rfl,rfl⟩
theorem Mv {p q:Pr} (h:cM p q):o0 q=o0 p∧Oe q=Oe p:=by
 have e1:q.Ul.map (·.w)=p.Ul.map (·.w):=by
  apply Vt
  ·simp[h.rl]
  ·intro i h1 h2
   have:=(h.rg i).1
   simp only[UB]at h1 h2
   rw[bJ _ _ h1,bJ _ _ h2]at this
   simpa using this
 have e2:q.Uk.map (·.w)=p.Uk.map (·.w):=by
  apply Vt
  ·simp[h.ml]
  ·intro i h1 h2
   have:=(h.mm i).1
   simp only[UB]at h1 h2
   rw[bJ _ _ h1,bJ _ _ h2]at this
   simpa using this
 unfold o0 Oe
 rw[e1,e2,h.tk]
 exact⟨rfl,rfl⟩
theorem Mw {p q:Pr} (h:cM p q) (hp:gm p):gm q:=by
 obtain⟨e1,e2⟩:=Mv h
 refine⟨by rw[h.rl];exact hp.rl,by rw[h.ml];exact hp.ml,by rw[h.tk];exact hp.tl,by rw[h.pt];exact hp.pl,fun i hi=>?_,fun i hi=>?_,fun i hi=>?_,fun i hi=>?_⟩
 ·rw[h.rl]at hi
  have:=hp.rw i hi
  obtain⟨a,b,c⟩:=h.rg i
  unfold sd at this ⊢
  rw[e1,a,b,c];exact this
 ·rw[h.ml]at hi
  have:=hp.mw i hi
  obtain⟨a,b,c,d,e⟩:=h.mm i
  unfold fK at this ⊢
  rw[e1,a,b,c,d,e];exact this
 ·rw[h.tk]at hi
  have:=hp.tw i hi
  unfold jY at this ⊢
  rw[e2,h.tk];exact this
 ·rw[h.pt]at hi
  have:=hp.pw i hi
  unfold oZ at this ⊢
  rw[e1,h.pt];exact this
theorem Kd (p:Pr) (k0 k1 k2:Int):cM p (dM p k0 k1 k2):=by
 obtain⟨l1,l2⟩:=Aq p k0 k1 k2
 refine⟨l1,l2,fun i=>?_,fun i=>?_,?_,?_⟩
 ·unfold dM
  split
  ·exact⟨rfl,rfl,rfl⟩
  ·split
   ·rename_i Zs
    show((p.Ul.set _ _).getD i aI).w=_∧((p.Ul.set _ _).getD i aI).init=_∧((p.Ul.set _ _).getD i aI).next=_
    rw[dg Zs]
    split
    ·rename_i e;rw[e];exact⟨rfl,rfl,rfl⟩
    ·exact⟨rfl,rfl,rfl⟩
   ·exact⟨rfl,rfl,rfl⟩
 ·unfold dM
  split
  ·exact⟨rfl,rfl,rfl,rfl,rfl⟩
  ·rename_i Xt
   split
   ·exact⟨rfl,rfl,rfl,rfl,rfl⟩
   ·rename_i Zs
    have WL:=Ao (p:=p) k0 Xt
    show((p.Uk.set _ _).getD i ay).w=_∧((p.Uk.set _ _).getD i ay).Um=_∧((p.Uk.set _ _).getD i ay).enable=_∧((p.Uk.set _ _).getD i ay).addr=_∧((p.Uk.set _ _).getD i ay).data=_
    rw[dg (by omega)]
    split
    ·rename_i e;rw[e];exact⟨rfl,rfl,rfl,rfl,rfl⟩
    ·exact⟨rfl,rfl,rfl,rfl,rfl⟩
 ·unfold dM;repeat' split
  all_goals rfl
 ·unfold dM;repeat' split
  all_goals rfl
structure kN (c d:Ci):Prop where
 pl:d.U.length=c.U.length
 cl:d.J.length=c.J.length
 pr:∀i,i<c.U.length→cM (a9 c i) (a9 d i)
 cw:∀n,(fy d n).w=(fy c n).w∧(fy d n).frm=(fy c n).frm∧(fy d n).dst=(fy c n).dst
 cp:∀n,0≤(fy c n).cap→0≤(fy d n).cap
 cq:∀n,0<(fy c n).cap→0<(fy d n).cap
theorem jO (c:Ci):kN c c:=⟨rfl,rfl,fun _ _=>jo _,fun _=>⟨rfl,rfl,rfl⟩,fun _ h=>h,fun _ h=>h⟩
theorem Ck {c d:Ci} (h:kN c d) (hc:cr c):cr d:=by
 refine⟨by rw[h.pl];exact hc.n1,by rw[h.pl];exact hc.nl,by rw[h.cl];exact hc.cl,fun i hi=>?_,fun i hi j hj=>?_,fun i hi j hj=>?_,fun i hi=>?_,fun i hi=>?_,fun n hn=>?_,fun n hn=>?_⟩
 ·rw[h.pl]at hi;exact Mw (h.pr i hi) (hc.pr i hi)
 ·rw[h.pl]at hi
  have q:=h.pr i hi
  rw[q.tk]at hj
  have:=hc.tk i hi j hj
  unfold u6 jY at this ⊢
  rw[q.tk,h.cl,(h.cw _).1,(h.cw _).2.2];exact this
 ·rw[h.pl]at hi
  have q:=h.pr i hi
  rw[q.pt]at hj
  have:=hc.pt i hi j hj
  unfold uG oZ at this ⊢
  rw[q.pt,h.cl,(h.cw _).1,(h.cw _).2.1];exact this
 ·rw[h.pl]at hi
  have q:=h.pr i hi
  have:=hc.td i hi
  unfold u6 jY at this ⊢
  rw[q.tk];exact this
 ·rw[h.pl]at hi
  have q:=h.pr i hi
  have:=hc.pd i hi
  unfold uG oZ at this ⊢
  rw[q.pt];exact this
 ·rw[h.cl]at hn;rw[(h.cw n).1];exact hc.cw n hn
 ·rw[h.cl]at hn;exact h.cp n (hc.cp n hn)
theorem DR {p q r:Pr} (h:cM p q) (h2:cM q r):cM p r :=
 ⟨h2.rl.trans h.rl,h2.ml.trans h.ml,fun i=>⟨(h2.rg i).1.trans (h.rg i).1,(h2.rg i).2.1.trans (h.rg i).2.1,(h2.rg i).2.2.trans (h.rg i).2.2⟩,
  fun i=>⟨(h2.mm i).1.trans (h.mm i).1,(h2.mm i).2.1.trans (h.mm i).2.1,(h2.mm i).2.2.1.trans (h.mm i).2.2.1,(h2.mm i).2.2.2.1.trans (h.mm i).2.2.2.1,(h2.mm i).2.2.2.2.trans (h.mm i).2.2.2.2⟩,h2.tk.trans h.tk,h2.pt.trans h.pt⟩
theorem Cl {c d e:Ci} (h:kN c d) (h2:kN d e):kN c e :=
 ⟨h2.pl.trans h.pl,h2.cl.trans h.cl,fun i hi=>DR (h.pr i hi) (h2.pr i (by rw[h.pl];exact hi)),fun n=>⟨(h2.cw n).1.trans (h.cw n).1,(h2.cw n).2.1.trans (h.cw n).2.1,(h2.cw n).2.2.trans (h.cw n).2.2⟩,fun n hn=>h2.cp n (h.cp n hn),fun n hn=>h2.cq n (h.cq n hn)⟩
theorem Ke (c:Ci) (b:List Int) (i:Nat):kN c (uQ c b i):=by
 unfold uQ
 split
 ·split
  ·rename_i hl
   have hi:=fO (b.getD (i+1) 0) hl
   refine⟨rfl,by simp,fun _ _=>jo _,fun n=>?_,fun n hn=>?_,fun n hn=>?_⟩
   ·show((c.J.set _ _).getD n aK).w=_∧((c.J.set _ _).getD n aK).frm=_∧((c.J.set _ _).getD n aK).dst=_
    rw[dg hi];split
    ·rename_i e;rw[e];exact⟨rfl,rfl,rfl⟩
    ·exact⟨rfl,rfl,rfl⟩
   ·show 0≤((c.J.set _ _).getD n aK).cap
    rw[dg hi];split
    ·rename_i e;rw[e]at hn;exact hn
    ·exact hn
   ·show 0<((c.J.set _ _).getD n aK).cap
    rw[dg hi];split
    ·rename_i e;rw[e]at hn;exact hn
    ·exact hn
  ·exact jO c
 ·split
  ·split
   ·rename_i hl
    have hi:=fO (b.getD (i+1) 0) hl.1
    refine⟨rfl,by simp,fun _ _=>jo _,fun n=>?_,fun n hn=>?_,fun n hn=>?_⟩
    ·show((c.J.set _ _).getD n aK).w=_∧((c.J.set _ _).getD n aK).frm=_∧((c.J.set _ _).getD n aK).dst=_
     rw[dg hi];split
     ·rename_i e;rw[e];exact⟨rfl,rfl,rfl⟩
     ·exact⟨rfl,rfl,rfl⟩
    ·show 0≤((c.J.set _ _).getD n aK).cap
     rw[dg hi];split
     ·show 0≤1+b.getD (i+2) 0%8;omega
     ·exact hn
    ·show 0<((c.J.set _ _).getD n aK).cap
     rw[dg hi];split
     ·show 0<1+b.getD (i+2) 0%8;omega
     ·exact hn
   ·exact jO c
  ·split
   ·split
    ·rename_i hl
     have hi:=fO (b.getD (i+1) 0) hl
     refine⟨by simp,rfl,fun j hj=>?_,fun n=>⟨rfl,rfl,rfl⟩,fun n hn=>hn,fun n hn=>hn⟩
     show cM (c.U.getD j ac) ((c.U.set _ _).getD j ac)
     rw[dg hi];split
     ·rename_i e;rw[e];exact⟨rfl,rfl,fun _=>⟨rfl,rfl,rfl⟩,fun _=>⟨rfl,rfl,rfl,rfl,rfl⟩,rfl,rfl⟩
     ·exact jo _
    ·exact jO c
   ·split
    ·rename_i hl
     have hi:=fO (b.getD (i+1) 0) hl
     refine⟨by simp,rfl,fun j hj=>?_,fun n=>⟨rfl,rfl,rfl⟩,fun n hn=>hn,fun n hn=>hn⟩
     show cM (c.U.getD j ac) ((c.U.set _ _).getD j ac)
     rw[dg hi];split
     ·rename_i e;rw[e];exact Kd _ _ _ _
     ·exact jo _
    ·exact jO c
theorem wS (c:Ci) (b:List Int):∀t,kN c (xk c b t)
 | 0=>jO c
 | t+1=>Cl (wS c b t) (Ke _ _ _)
end Go.Proofs.YtnlmlkbaflmgcaaGreat
