/- Parts of a proof. -/
import Derived.Test.YtgmpoenfoacofaaQNeB
namespace Go.Proofs.Ytgmpoenfoacofaa
open Go.RowKit
set_option linter.unusedVariables false
set_option linter.unusedSimpArgs false
section
variable {p:Pr} {s:Ps} {hs hs':List Hd} {rs rs':List Bool}
theorem uq:gu p s hs rs=true↔(∀j,j<p.I.length→r7 p s hs j=true)∧∀j,j<p.KA.length→r8 p s hs rs j=true:=by
 unfold gu
 rw[KD,bo,bo]
theorem w5 (h:gu p s hs rs=true):a8 p s hs rs=⟨true,dm p s (bG p s hs),tab (DA p s hs) p.I.length,tab (BE p s hs) p.KA.length⟩:=KT h
theorem FB (h:gu p s hs rs=true) {j:Nat} (hj:j<p.I.length) (Pz:(a8 p s hs rs).pops.getD j false=true):(hs.getD j cz).has=true:=by
 rw[w5 h]at Pz
 simp only at Pz
 rw[bq hj]at Pz
 have hh:=(uq.1 h).1 j hj
 unfold r7 at hh
 unfold DA at Pz
 rw[Pz]at hh
 simpa using hh
theorem DH (h:gu p s hs rs=true) {j:Nat} (hj:j<p.KA.length) (Oi:((a8 p s hs rs).KA.getD j cz).has=true):rs.getD j false=true:=by
 rw[w5 h]at Oi
 simp only at Oi
 rw[bq hj]at Oi
 have hh:=(uq.1 h).2 j hj
 unfold r8 at hh
 unfold BE at Oi
 split at Oi
 ·rename_i hd;rw[hd]at hh;simpa using hh
 ·cases Oi
end
section
variable {c:Ci} {s:Ns} {w w':Nat→Bool}
theorem Ai (hc:bO c) {p:Nat} (hp:p<c.U.length) {f:Fi} (n:Nat):∀{k:Nat},k≤(bD c p).KA.length→((s5 (bD c p) f k).filter (fun e=>e.1==n)).length≤1
 | 0,_=>by simp[s5]
 | k+1,hk=>by
  have ih:=Ai hc hp (f:=f) n (k:=k) (by omega)
  rw[s5,List.filter_append,KN]
  by_cases h1:(f.KA.getD k cz).has=true
  ·rw[KT h1]
   by_cases e:uo (bD c p) k=n
   ·have h0:(s5 (bD c p) f k).filter (fun e=>e.1==n)=[]:=by
     rw[List.filter_eq_nil_iff]
     intro z hz hzn
     obtain⟨j,g1,g2,g3,g4⟩:=nA hz
     have h5:z.1=n:=by simpa using hzn
     have:=hc.pd p hp j k (by omega) (by omega) (by rw[g3,e,h5])
     omega
    rw[h0]
    simp only[K6,Li]
    exact LO (List.length_filter_le _ _) (by simp)
   ·rw[List.filter_cons_of_neg (by simpa using e),List.filter_nil];exact ih
  ·rw[KK h1];exact ih
theorem sf (hc:bO c) {p:Nat} (n:Nat):(vB c s p n).length≤1:=by
 by_cases hp:p<c.U.length
 ·unfold vB;rw[KM];exact Ai hc hp n (KI _)
 ·rw[nC hp];simp
theorem w7 {p n:Nat} {v:Int} (h:v∈vB c s p n):∃j,j<(bD c p).KA.length∧((ax c s p).KA.getD j cz).has=true∧uo (bD c p) j=n∧((ax c s p).KA.getD j cz).v=v:=by
 unfold vB at h
 rw[MM]at h
 obtain⟨e,he,rfl⟩:=h
 rw[Mz]at he
 obtain⟨j,h1,h2,h3,h4⟩:=nA he.1
 exact⟨j,h1,h2,by rw[h3];simpa using he.2,h4⟩
theorem Aj {p n:Nat} {v:Int} (h:v∈vB c s p n):p<c.U.length:=by
 by_cases hp:p<c.U.length
 ·exact hp
 ·rw[nC hp]at h;cases h
theorem ur {p n:Nat} (h:jj c s p n=true):∃j,j<(bD c p).I.length∧(ax c s p).pops.getD j false=true∧xQ (bD c p) j=n:=by
 unfold jj at h
 exact qC (L8 h)
theorem BK {p n:Nat} (Ry:vA c s p=true) (h:jj c s p n=true):0<(gS s n).length:=by
 obtain⟨j,h1,h2,rfl⟩:=ur h
 rw[DF]at Ry
 have:=FB Ry h1 h2
 rw[cB,bq h1]at this
 unfold gB at this
 split at this
 ·assumption
 ·cases this
theorem ut {p:Nat} (h:bh c s w p=true):w p=true∧vA c s p=true:=by
 unfold bh at h;simpa using h
theorem nG (c:Ci) (s:Ns) (w:Nat→Bool) {n:Nat} (hn:n<c.J.length):gS (b6 c s w) n=gE c s w n:=by
 show(tab _ _).getD n []=_
 rw[bq hn]
theorem w8 (c:Ci) (s:Ns) (w:Nat→Bool) {p:Nat} (hp:p<c.U.length):Af (b6 c s w) p=cK c s w p:=by
 show(tab _ _).getD p aY=_
 rw[bq hp]
theorem w9 {α:Type} {a b:List α} {i:Nat} {d:α}:(a++b).getD i d=if i<a.length then a.getD i d else b.getD (i-a.length) d:=by
 simp only[List.getD,List.getElem?_append]
 split<;>rfl
theorem BL {α:Type} {a:List α} {k i:Nat} {d:α}:(a.drop k).getD i d=a.getD (k+i) d:=by
 simp only[List.getD,LZ]
theorem BM {α:Type} {l:List α} {i:Nat} {d:α} (h:i<l.length):l.getD i d∈l:=by
 simp[List.getD,KF h]
theorem DI (hc:bO c) (hs:cA c s) (w:Nat→Bool):cA c (b6 c s w) where
 pl:=by rw[b6];exact ay _ _
 cl:=by rw[b6];exact ay _ _
 pv:=fun p hp=>by
  rw[w8 c s w hp]
  unfold cK
  split
  ·exact th (hc.pr p hp) (hs.pv p hp) (sa hc hs hp)
  ·exact hs.pv p hp
 cv:=fun n hn i hi=>by
  rw[nG c s w hn]at hi ⊢
  unfold gE at hi ⊢
  rw[w9]
  split
  ·rename_i h
   rw[BL]
   rw[K7]at h
   exact hs.cv n hn _ (by omega)
  ·rename_i h
   rw[KN]at hi
   have hm:=BM (d:=(0:Int)) (show i-((gS s n).drop (gD c s w n)).length<(fK c s w n).length by omega)
   generalize (fK c s w n).getD _ 0=v at hm
   unfold fK at hm
   split at hm
   ·have M6:=Aj hm
    obtain⟨j,h1,h2,h3,h4⟩:=w7 hm
    have:=vy (rs:=cJ c s (lN c n)) (hc.pr _ M6) (hs.pv _ M6) (sa hc hs M6) h1 h2
    rw[← (hc.pt _ M6 j h1).2.2.1,h3]at this
    rw[← h4];exact this
   ·cases hm
 cc:=fun n hn hf hd=>by
  rw[nG c s w hn]
  unfold gE
  rw[KN,K7]
  have h0:=hs.cc n hn hf hd
  unfold fK
  split
  ·rename_i hfi
   have h1:=sf (s:=s) hc (p:=lN c n) n
   by_cases h2:vB c s (lN c n) n=[]
   ·rw[h2];simp only[K6];omega
   ·obtain⟨v,hv⟩:=List.exists_mem_of_ne_nil _ h2
    have M6:=Aj hv
    obtain⟨j,h1',R0,h3,h4⟩:=w7 hv
    have Ry:=(ut hfi).2
    rw[DF]at Ry
    have hr:=DH Ry h1' R0
    rw[cJ,bq h1']at hr
    unfold fq at hr
    rw[h3]at hr
    simp only[Lf,Lu]at hr
    omega
  ·simp only[K6];omega
theorem DJ {p:Nat} (h:bh c s w p=false):cK c s w p=Af s p:=by
 unfold cK;rw[KK (by rw[h];simp)]
theorem DK {p:Nat} (hs:c.U.length≤p):jj c s p=fun _=>false:=by
 funext n
 cases h:jj c s p n
 ·rfl
 ·exfalso
  obtain⟨j,h1,_⟩:=ur h
  have e:bD c p=aO:=by rw[bD,List.getD,Lo (by omega)];rfl
  rw[e]at h1
  exact MK _ h1
theorem DL (hs:cA c s) (h:∀p,p<c.U.length→bh c s w p=false):b6 c s w=s:=by
 have e1:(b6 c s w).U=s.U:=by
  refine km (d:=aY) (by rw[b6,ay,hs.pl]) (fun p hp=>?_)
  rw[b6,ay]at hp
  show Af (b6 c s w) p=Af s p
  rw[w8 c s w hp,DJ (h p hp)]
 have e2:(b6 c s w).J=s.J:=by
  refine km (d:=[]) (by rw[b6,ay,hs.cl]) (fun n hn=>?_)
  rw[b6,ay]at hn
  show gS (b6 c s w) n=gS s n
  rw[nG c s w hn,gE]
  have h1:gD c s w n=0:=by
   rw[gD]
   by_cases hd:p6 c n<c.U.length
   ·rw[h _ hd];simp
   ·rw[KK]
    rintro⟨_,h2⟩
    rw[DK (by omega)]at h2;cases h2
  have h2:fK c s w n=[]:=by
   rw[fK]
   by_cases hd:lN c n<c.U.length
   ·rw[h _ hd];simp
   ·split
    ·exact nC hd
    ·rfl
  rw[h1,h2];simp
 cases s;cases hq:b6 c _ w
 rw[hq]at e1 e2
 simp only at e1 e2
 rw[e1,e2]
def xc (p:Nat):Nat→Bool:=fun q=>decide (q=p)
end
section
variable {c:Ci} {s e:Ns} {w:Nat→Bool}
def H2 (c:Ci) (s:Ns):List Nat→Ns
 | []=>s
 | p::r=>H2 c (b6 c s (xc p)) r
def DM (c:Ci) (s:Ns):List Nat→Prop
 | []=>True
 | p::r=>p<c.U.length∧vA c s p=true∧DM c (b6 c s (xc p)) r
end
def mJ {α:Type} (f:Nat→α) (l:List α) (i:Nat):List α:=tab f i++l.drop i
theorem kn {α:Type} {f:Nat→α} {l:List α} {i:Nat} (h:i≤l.length):(mJ f l i).length=l.length:=by
 unfold mJ;rw[KN,ay,K7];omega
theorem ko {α:Type} {f:Nat→α} {l:List α} {i:Nat} {v:α} (h:i<l.length) (hv:f i=v):(mJ f l i).set i v=mJ f l (i+1):=by
 rw[← hv];exact Fp h
theorem iH {α:Type} {f:Nat→α} {l:List α} {i:Nat} {d:α} (h:i<l.length) (hv:f i=l.getD i d):mJ f l i=mJ f l (i+1):=by
 unfold mJ
 rw[r6,Ls,hv]
 congr 1
 rw[List.drop_eq_getElem_cons h,List.getD,KF h];rfl
theorem iI {α:Type} {f:Nat→α} {l:List α} {i:Nat} (h:l.length≤i):mJ f l i=tab f i:=Dz h
theorem DB {α:Type} {f:Nat→α} {l:List α} {i j:Nat} {d:α}:(mJ f l i).getD j d=if j<i then f j else l.getD j d:=by
 unfold mJ
 by_cases h:j<i
 ·rw[KT h,List.getD,KL (by rw[ay];exact h),← List.getD,bq h]
 ·rw[KK h,List.getD,KR (by rw[ay];omega),ay,LZ,← List.getD]
  congr 1;omega
theorem hJ {α:Type} {f:Nat→α} {enc:α→List V} {i:Nat} (h:i<137438953472):(tab f i).length+([f i].map enc).length≤137438953472∧(tab f i).map enc++[f i].map enc=(tab f (i+1)).map enc:=by
 refine⟨by rw[ay];simp;omega,?_⟩
 rw[r6,K8]
theorem cY {α:Type} {n i:Nat} {a:α}:(List.replicate n a).getD i a=a:=by
 rw[List.getD,LK];split<;>rfl
section
variable {p:Pr} {s:Ps} {hs:List Hd} {rs:List Bool} {d:List Int} {i:Nat}
theorem DC:(l7 p).getD i 0=0:=cY
theorem kq:(l7 p).length=p.I.length:=by simp[l7]
theorem Fs (h:gu p s hs rs=false):a8 p s hs rs=⟨false,s,List.replicate p.I.length false,List.replicate p.KA.length cz⟩:=KK (by rw[h];simp)
theorem Ft (h:gu p s hs rs=true):a8 p s hs rs=⟨true,dm p s (bG p s hs),tab (DA p s hs) p.I.length,tab (BE p s hs) p.KA.length⟩:=KT h
theorem un {a b:Bool} (h1:a=dk (r7 p s hs) p.I.length) (h2:b=(a&&dk (r8 p s hs rs) p.KA.length)):gu p s hs rs=b:=by
 rw[h2,h1];rfl
theorem vz (hp:iG p) (hi:i<p.I.length):dR (nu p) (oz p i).when=some 1∧eL (oz p i).when≤3:=⟨(BI (s:=aY) hp hi [] []).2,(hp.tw i hi).2.2⟩
theorem ny (p:Pr):aI p=⟨tab (fun i=>(BC p i).init) p.KC.length,tab (fun i=>List.replicate (jH p i).words.toNat 0) p.KB.length⟩:=by
 unfold aI;rw[Ab (d:=bE),Ab (d:=a7)]
end
theorem fU {p:Pr} {s:Ps} (h:¬s.KC.length=p.KC.length):bx p s=false:=by unfold bx;rw[KS h];rfl
theorem fV {p:Pr} {s:Ps} (h:¬s.KB.length=p.KB.length):bx p s=false:=by unfold bx;rw[KS h];simp
theorem fW {p:Pr} {s:Ps} {i:Nat} (hi:i<s.KC.length) (h:co (s.KC.getD i 0) (BC p i).w=false):bx p s=false:=by
 unfold bx;rw[eZ hi h];simp
theorem b9 {p:Pr} {s:Ps} {i:Nat} (hi:i<s.KB.length) (h:gv p s i=false):bx p s=false:=by
 unfold bx;rw[eZ hi h];simp
theorem kV {p:Pr} {s:Ps} {i:Nat} (h:¬((s.KB.getD i []).length:Int)=(jH p i).words):gv p s i=false:=by unfold gv;rw[KS h];rfl
theorem kW {p:Pr} {s:Ps} {i j:Nat} (hj:j<(s.KB.getD i []).length) (h:co ((s.KB.getD i []).getD j 0) (jH p i).w=false):gv p s i=false:=by
 unfold gv;rw[eZ hj h];simp
theorem Fu {p:Pr} {s:Ps} {i:Nat} (h1:((s.KB.getD i []).length:Int)=(jH p i).words) (h2:∀j,j<(s.KB.getD i []).length→co ((s.KB.getD i []).getD j 0) (jH p i).w=true):gv p s i=true:=by
 unfold gv;rw[KO h1,bo.2 h2];rfl
theorem fY {p:Pr} {s:Ps} (h1:s.KC.length=p.KC.length) (h2:s.KB.length=p.KB.length) (h3:∀i,i<s.KC.length→co (s.KC.getD i 0) (BC p i).w=true) (h4:∀i,i<s.KB.length→gv p s i=true):bx p s=true:=by
 unfold bx;rw[KO h1,KO h2,bo.2 h3,bo.2 h4];rfl
theorem Ac {v w:Int} (h0:0≤v) (h1:0≤w) (h2:w≤62):(v / 2^w.toNat==0)=co v w:=by
 have hp:=np (n:=w.toNat) (by omega)
 unfold co
 rw[KO h0,L0,bW h1 h2]
 rw[Bool.eq_iff_iff,beq_iff_eq,Lu]
 generalize (2:Int)^w.toNat=m at hp ⊢
 constructor
 ·intro h
  have h3:=Int.emod_add_mul_ediv v m
  rw[h]at h3
  have h4:=Mj v (show 0<m by omega)
  omega
 ·intro h
  exact Int.ediv_eq_zero_of_lt h0 (by omega)
def c8 (a b:Ps):Bool:=decide (a.KC=b.KC)&&decide (a.KB=b.KB)
theorem gz {a b:Ps}:c8 a b=true↔a=b:=by
 cases a;cases b;simp[c8]
theorem eN {α:Type} {a b:List α} {d:α} {k:Nat} (hl:a.length=b.length) (hk:¬k<a.length) (h:∀j,j<k→a.getD j d=b.getD j d):a=b :=
 km (d:=d) hl (fun i hi=>h i (by omega))
theorem jf {a b:Ps} (h:¬a.KC=b.KC):c8 a b=false:=Bool.eq_false_iff.2 (fun e=>h (by rw[gz.1 e]))
theorem jg {a b:Ps} (h:¬a.KB.length=b.KB.length):c8 a b=false:=Bool.eq_false_iff.2 (fun e=>h (by rw[gz.1 e]))
theorem jh {a b:Ps} {i:Nat} (h:¬a.KB.getD i []=b.KB.getD i []):c8 a b=false:=Bool.eq_false_iff.2 (fun e=>h (by rw[gz.1 e]))
theorem ji {a b:Ps} (h1:a.KC=b.KC) (h2:a.KB=b.KB):c8 a b=true:=gz.2 (by cases a;cases b;simp_all)
theorem bw {α:Type} {f:Nat→α} {x:α} {enc:α→List V} {i:Nat} (h:i<137438953472) (hx:x=f i):(tab f i).length+([x].map enc).length≤137438953472∧(tab f i).map enc++[x].map enc=(tab f (i+1)).map enc:=by
 subst hx;exact hJ h
section
variable {c:Sc} {p:Pr} {s:Ps} {hs:List Hd} {rs:List Bool} {d:List Int} {i:Nat}
theorem DD (ho:te c p s d) {e:Ex} {v:Int} (ht:dR c e=some v) (h1:¬e.op=16) (h2:¬e.op=17) (h3:¬e.op=18):gQ e.op (ee p s d e.args) e.k.n e.w.n=true∧Bs (ee p s d e.args) (gR p s d e.args)=true:=by
 obtain⟨ws,hws,hc⟩:=fp ht
 obtain⟨hl,Nh⟩:=je hws
 have hargs:∀i,i<e.args.length→(bu p s d (e.args.getD i dE)).2=ws.getD i 0∧cH (bu p s d (e.args.getD i dE)).1 (ws.getD i 0)∧aD (ws.getD i 0)=true:=fun i hi=>Dn ho _ _ _ (KI _) (Nh i hi)
 obtain⟨q1,q2,q3,q4⟩:=z4 (c:=c) hl hargs
 have e1:ee p s d e.args=ws:=by rw[← q1,ee,MN];rfl
 have e2:gR p s d e.args=(e.args.map (bu p s d)).map (·.1):=by rw[gR,MN];rfl
 rw[e1,e2]
 rcases hc with ⟨h,_⟩ | ⟨h,_⟩ | ⟨h,_⟩ | ⟨_,_,_,h,_⟩
 ·exact absurd h h1
 ·exact absurd h h3
 ·exact absurd h h2
 ·exact⟨h,q3⟩
theorem Fv (h1:dV p s (l7 p) (oz p i).when=true) (h2:(hs.getD i cz).has=true):BD p s hs i=(hs.getD i cz).v:=KT ⟨h1,h2⟩
theorem Ad (h1:¬dV p s (l7 p) (oz p i).when=true):BD p s hs i=(l7 p).getD i 0:=by rw[DC];exact KK (fun h=>h1 h.1)
theorem Ae (h1:¬(hs.getD i cz).has=true):BD p s hs i=(l7 p).getD i 0:=by rw[DC];exact KK (fun h=>h1 h.2)
theorem DE (h:dV p s d (jH p i).enable=true):(s.KB.getD i []).set (Int.tmod (bu p s d (jH p i).addr).1 (jH p i).words).toNat (bu p s d (jH p i).data).1=xP p s d i:=(KT h).symm
theorem Gl (h:¬dV p s d (jH p i).enable=true):s.KB.getD i []=xP p s d i:=(KK h).symm
theorem Fw (hp:iG p) (hs:nx p s) (hd:BF p d) (hi:i<p.KB.length):0≤Int.tmod (bu p s d (jH p i).addr).1 (jH p i).words∧Int.tmod (bu p s d (jH p i).addr).1 (jH p i).words<(s.KB.getD i []).length∧(jH p i).words≠0:=by
 have h:=hp.mw i hi
 obtain⟨v,hv⟩:=h.2.2.2.1.1
 have h0:=(vx (gw hp hs hd) hv h.2.2.2.1.2).2.1.1
 have hm:=hs.mn i hi
 rw[hm]
 exact⟨Int.tmod_nonneg _ h0,Int.tmod_lt_of_pos _ (by omega),by omega⟩
theorem yC {b:Bool} (h:b=dk (r7 p s hs) i) (x:Bool) (hx:x=(b&&r7 p s hs i)):x=dk (r7 p s hs) (i+1):=by rw[hx,h];rfl
theorem yD {a b:Bool} (h:b=(a&&dk (r8 p s hs rs) i)) (x:Bool) (hx:x=(b&&r8 p s hs rs i)):x=(a&&dk (r8 p s hs rs) (i+1)):=by rw[hx,h,dk,Bool.and_assoc]
end
abbrev Gm (p:Pr):am:=(.var 86 [(dS p.name),(dS p.clock),(dL 13 jN bE p.KC),(dL 27 vu a7 p.KB),(dL 9 nq cU p.I),(dL 16 oZ dj p.KA)])
set_option maxRecDepth 100000
abbrev Je (p:Pr):Ct:=⟨35,[(.agg [(dS p.name),(dS p.clock),(dL 13 jN bE p.KC),(dL 27 vu a7 p.KB),(dL 9 nq cU p.I),(dL 16 oZ dj p.KA)])],true,(.agg [(LI ((aI p).KC)),(dL 1 ac [] ((aI p).KB))])⟩
abbrev kX (p:Pr):Lp (Nat):=il [1,2,3,9,10,11] 4 (fun (i:Nat)=>⟨[(1,(.ptr 0 0 0 0)),(2,(.ptr 1 0 0 0)),(3,(.ptr 2 0 0 0)),(9,(dL 13 jN bE p.KC)),(10,(i6 (p.KC.length:Int))),(11,(i6 (i:Int)))],[(Gm p),(.var 88 [.nils,.nils]),(.var 88 [(.own 3),.nils]),(.arr 3 1 (ab .i64) 0 (tab (fun z=>(p.KC.getD z bE).init) i))]⟩) (fun (i:Nat)=>i≤p.KC.length) (fun (i:Nat)=>p.KC.length-i)
abbrev kY (p:Pr) (i:Nat):Lp (Nat):=il [2,3,24,25,26] 5 (fun (j:Nat)=>⟨[(2,(.ptr 1 0 0 0)),(3,(.ptr 2 0 0 0)),(24,(dL 27 vu a7 p.KB)),(25,(i6 (p.KB.length:Int))),(26,(i6 (j:Int)))],[(Gm p),(.var 88 [.nils,.nils]),(.var 88 [(.own 3),(.own 4)]),(.arr 3 1 (ab .i64) 0 (tab (fun z=>(p.KC.getD z bE).init) i)),(.arr 38 1 ac [] (tab (fun z=>List.replicate (p.KB.getD z a7).words.toNat (0:Int)) j))]⟩) (fun (j:Nat)=>j≤p.KB.length) (fun (j:Nat)=>p.KB.length-j)
theorem BJ (p:Pr) (hp:iG p):CC (Je p):=by
 have OS:=hp.rl
 have Qz:=hp.ml
 refine ai.vc (V:=TT 7 (GO (kX p) 0 (∀i,(kX p).inv i→TT 1 (CD ((i:Int)<(p.KC.length:Int)) (IX (i:Int) p.KC.length∧TT 7 (an [[(i6 ((p.KC.getD i bE).init))]] ([(p.KC.getD i bE).init].map (ab .i64))∧((tab (fun z=>(p.KC.getD z bE).init) i).length+([(p.KC.getD i bE).init].map (ab .i64)).length≤137438953472∧(tab (fun z=>(p.KC.getD z bE).init) i).map (ab .i64)++[(p.KC.getD i bE).init].map (ab .i64)=(tab (fun z=>(p.KC.getD z bE).init) (i+1)).map (ab .i64))∧TT 2 (W6 ((i+1:Nat):Int)∧TT 1 (AG (kX p) i (i+1))))) (TT 4 (GO (kY p i) 0 (∀j,(kY p i).inv j→TT 1 (CD ((j:Int)<(p.KB.length:Int)) (IX (j:Int) p.KB.length∧TT 7 ((((0:Int)≤(p.KB.getD j a7).words∧(p.KB.getD j a7).words≤(p.KB.getD j a7).words∧(p.KB.getD j a7).words≤137438953472)∧(List.replicate (p.KB.getD j a7).words.toNat (0:Int)).length=((p.KB.getD j a7).words).toNat∧∀x∈(List.replicate (p.KB.getD j a7).words.toNat (0:Int)),dG [(i6 0)] ((ab .i64) x))∧an [[(LI (List.replicate (p.KB.getD j a7).words.toNat (0:Int)))]] ([List.replicate (p.KB.getD j a7).words.toNat (0:Int)].map ac)∧((tab (fun z=>List.replicate (p.KB.getD z a7).words.toNat (0:Int)) j).length+([List.replicate (p.KB.getD j a7).words.toNat (0:Int)].map ac).length≤137438953472∧(tab (fun z=>List.replicate (p.KB.getD z a7).words.toNat (0:Int)) j).map ac++[List.replicate (p.KB.getD j a7).words.toNat (0:Int)].map ac=(tab (fun z=>List.replicate (p.KB.getD z a7).words.toNat (0:Int)) (j+1)).map ac)∧TT 2 (W6 ((j+1:Nat):Int)∧TT 1 (AG (kY p i) j (j+1))))) (TT 3 ((tab (fun z=>(p.KC.getD z bE).init) i).map (ab .i64)=((aI p).KC).map (ab .i64)∧(tab (fun z=>List.replicate (p.KB.getD z a7).words.toNat (0:Int)) j).map ac=((aI p).KB).map ac∧True)))))))))) (.g 2 2 0 3 1 (ab .i64) 0<|.l (kX p) 0 (fun i=>.b 12 (.w 5 [(4,.box 3 1 (ab .i64) 0 [(p.KC.getD i bE).init]),(5,.box 3 1 (ab .i64) 0 (tab (fun z=>(p.KC.getD z bE).init) (i+1)))]<|.w 6 [(0,.val (i6 ((i+1:Nat):Int)))]<|.e) (.g 7 2 1 38 1 ac []<|.l (kY p i) 0 (fun j=>.b 27 (.w 10 [(4,.frz 3 1 (ab .i64) 0 (List.replicate (p.KB.getD j a7).words.toNat (0:Int))),(5,.box 38 1 ac [] [List.replicate (p.KB.getD j a7).words.toNat (0:Int)]),(6,.box 38 1 ac [] (tab (fun z=>List.replicate (p.KB.getD z a7).words.toNat (0:Int)) (j+1)))]<|.w 11 [(0,.val (i6 ((j+1:Nat):Int)))]<|.e) (.e))))) Try.func35 rfl rfl rfl (by kernel_rfl) ?_
 refine tt ⟨rfl,(by omega),?_⟩
 intro i J'
 have hi:=J'
 refine tt (cd (fun Ni=>?_) (fun Ni=>?_))
 · refine⟨ix,tt ⟨⟨⟨rfl,oK⟩,oK⟩,⟨(hJ (f:=fun z=>(p.KC.getD z bE).init) (by omega)),tt ⟨w6,tt ⟨(i+1),rfl,(?_:(i+1)≤p.KC.length),(?_:p.KC.length-(i+1)<p.KC.length-i)⟩⟩⟩⟩⟩
   · omega
   · omega
 · refine tt ⟨rfl,(by omega),?_⟩
   intro j J'
   have hj:=J'
   refine tt (cd (fun hc27=>?_) (fun hc27=>?_))
   · refine⟨ix,?_⟩
     have OT:1≤(p.KB.getD j a7).words∧(p.KB.getD j a7).words≤4:=(hp.mw j (by omega)).2.1
     refine tt ⟨⟨by omega,Ll,fun x hx=>by rw[Ln hx];exact⟨rfl,oK⟩⟩,⟨⟨⟨rfl,oK⟩,oK⟩,⟨(hJ (f:=fun z=>List.replicate (p.KB.getD z a7).words.toNat (0:Int)) (by omega)),tt ⟨w6,tt ⟨(j+1),rfl,(?_:(j+1)≤p.KB.length),(?_:p.KB.length-(j+1)<p.KB.length-j)⟩⟩⟩⟩⟩
     · omega
     · omega
   · refine tt ⟨(congrArg _ (?_:(tab (fun z=>(p.KC.getD z bE).init) i)=((aI p).KC))),(congrArg _ (?_:(tab (fun z=>List.replicate (p.KB.getD z a7).words.toNat (0:Int)) j)=((aI p).KB))),oK⟩
     · rw[ny,show i=p.KC.length by omega]
     · rw[ny,show j=p.KB.length by omega]
def bX (f:Nat→Bool):Nat→Int
 | 0=>-1
 | n+1=>if dk (fun i=>!f i) n=true then (if f n=true then n else -1)else bX f n
theorem bH {f:Nat→Bool} {i:Nat} (hf:f i=true) (h:∀z,z<i→f z=false):∀{n:Nat},i<n→bX f n=i
 | 0,h0=>absurd h0 (MK _)
 | n+1,h0=>by
  rw[bX]
  by_cases e:i=n
  ·subst e
   rw[KT (bo.2 (fun z hz=>by rw[h z hz];rfl)),KT hf]
  ·rw[KK (by rw[eZ (show i<n by omega) (by simp[hf])];simp),bH hf h (by omega)]
theorem ca {f:Nat→Bool}:∀{n:Nat},(∀z,z<n→f z=false)→bX f n=-1
 | 0,_=>rfl
 | n+1,h=>by
  rw[bX,KT (bo.2 (fun z hz=>by rw[h z (by omega)];rfl)),KK (by rw[h n (by omega)];simp)]
theorem sg {f:Nat→Bool}:∀{n:Nat},decide (0≤bX f n)=!(dk (fun i=>!f i) n)
 | 0=>rfl
 | n+1=>by
  rw[bX]
  split
  ·rename_i h1
   rw[dk,h1]
   split
   ·rename_i h2;simp[h2]
   ·rename_i h2;simp[h2]
  ·rename_i h1
   rw[sg,dk]
   simp only[MF]at h1
   rw[h1];rfl
theorem kZ {f:Nat→Bool}:∀{n:Nat},bX f n<n
 | 0=>by simp[bX]
 | n+1=>by
  rw[bX]
  have:=kZ (f:=f) (n:=n)
  split
  ·split<;>omega
  ·omega
def vE (l:List Int) (w:Int):Int:=bX (fun i=>!co (l.getD i 0) w) l.length
theorem BN {l:List Int} {w:Int}:(!decide (0≤vE l w))=bM l w:=by
 unfold vE bM
 rw[sg,Bool.not_not]
 exact congrArg (dk · _) (funext fun i=>by rw[Bool.not_not])
theorem k9 {ls:List (List Int)} {i:Nat} (h:i<ls.length):(ls.take (i+1)).flatten=(ls.take i).flatten++ls.getD i []:=by
 rw[L3 h,List.flatten_append]
 simp[List.getD,KF h]
theorem ld {ls:List (List Int)} {i:Nat}:(ls.take i).flatten.length≤ls.flatten.length:=by
 conv=>rhs;rw[← List.take_append_drop i ls,List.flatten_append,KN]
 omega
theorem xd {ls:List (List Int)} {i:Nat} (h:ls.length≤i):(ls.take i).flatten=ls.flatten:=by rw[Mh h]
section
variable {c:Ci} {s:Ns}
theorem pb (h:¬s.U.length=c.U.length):bK c s=false:=by unfold bK;rw[KS h];rfl
theorem pc (h:¬s.J.length=c.J.length):bK c s=false:=by unfold bK;rw[KS h,Lw];rfl
theorem pg {i:Nat} (hi:i<c.U.length) (h:bx (bD c i) (Af s i)=false):bK c s=false:=by unfold bK;rw[eZ hi h,Lw];rfl
theorem fG {n:Nat} (hn:n<c.J.length) (h:gA c s n=false):bK c s=false:=by unfold bK;rw[eZ hn h,Lw]
theorem ph (h1:s.U.length=c.U.length) (h2:s.J.length=c.J.length) (h3:∀i,i<c.U.length→bx (bD c i) (Af s i)=true) (h4:∀n,n<c.J.length→gA c s n=true):bK c s=true:=by
 unfold bK
 rw[KO h1,KO h2,bo.2 h3,bo.2 h4];rfl
end
theorem iJ {c:Ci} {s:Ns} {n:Nat} (h:¬bM (gS s n) (dn c n).w=true):gA c s n=false:=by
 simp only[MF]at h
 unfold gA;rw[h,Bool.false_and]
theorem iK {c:Ci} {s:Ns} {n:Nat} (h0:0≤(dn c n).frm) (h1:0≤(dn c n).dst) (h:¬((gS s n).length:Int)≤(dn c n).cap):gA c s n=false:=by
 unfold gA;rw[KO h0,KO h1,KS h];simp
theorem yE {c:Ci} {s:Ns} {n:Nat} (h:bM (gS s n) (dn c n).w=true) (h0:¬0≤(dn c n).frm):gA c s n=true:=by
 unfold gA;rw[h,KS h0];rfl
theorem yF {c:Ci} {s:Ns} {n:Nat} (h:bM (gS s n) (dn c n).w=true) (h0:¬0≤(dn c n).dst):gA c s n=true:=by
 unfold gA;rw[h,KS h0,Lw];rfl
theorem yG {c:Ci} {s:Ns} {n:Nat} (h:bM (gS s n) (dn c n).w=true) (h0:((gS s n).length:Int)≤(dn c n).cap):gA c s n=true:=by
 unfold gA;rw[h,KO h0,Bool.or_true];rfl
def aC (c:Ci):Ns:=⟨tab (fun i=>aI (bD c i)) c.U.length,List.replicate c.J.length []⟩
theorem DN {c:Ci} {s:Ns} {p m:Nat} (h:(dn c (uo (bD c p) m)).dst=-1):fq c s p m=true:=by unfold fq;rw[KO h];rfl
theorem vG {c:Ci} {s:Ns} {p m:Nat} (h:¬(dn c (uo (bD c p) m)).dst=-1):fq c s p m=decide (((gS s (uo (bD c p) m)).length:Int)<(dn c (uo (bD c p) m)).cap):=by unfold fq;rw[KS h];rfl
def jJ (s:Ns) (k:Nat):Prop:=∀n,(gS s n).length≤k
def ef (f:Ch→Int) (c:Ci) (n:Int):Bool:=decide (0≤n)&&(decide (n<c.J.length)&&decide (f (dn c n.toNat)=-1))
theorem ft {f:Ch→Int} {c:Ci} {n:Int} (h:¬0≤n):ef f c n=false:=by unfold ef;rw[KS h];rfl
theorem fu {f:Ch→Int} {c:Ci} {n:Int} (h:¬n<c.J.length):ef f c n=false:=by unfold ef;rw[KS h,Bool.false_and,Lw]
theorem lf {f:Ch→Int} {c:Ci} {n:Int} (h1:0≤n) (h2:n<c.J.length):ef f c n=decide (f (dn c n.toNat)=-1):=by unfold ef;rw[KO h1,KO h2,L0,L0]
abbrev Ak:am:=(.arr 38 1 ac [] ([]:List (List Int)))
set_option maxRecDepth 100000
abbrev Jf (l:List Ps):ub:=⟨67,[(dL 2 aU aY l)],(.own 0),(.arr 88 2 aU aY l)⟩
theorem yH (l:List Ps) (h:l≠[]) (hl:l.length≤137438953472):CO (Jf l):=by
 refine ai.vcO (V:=TT 2 (l≠[]∧an [] (([]:List Ps).map aU)∧TT 1 ((([]:List Ps).length+(l.map aU).length≤137438953472∧([]:List Ps).map aU++l.map aU=l.map aU)∧TT 2 (((.own 0):D)=.own 0∧((.arr 88 2 aU aY l):am)=(.arr 88 2 aU aY l))))) (.w 3 [(0,.box 88 2 aU aY ([]:List Ps)),(2,.box 88 2 aU aY l)]<|.e) Try.func67 rfl rfl rfl (by kernel_rfl) ?_
 exact tt ⟨(by exact h),⟨oK,tt ⟨⟨by simp only[KM,K6];omega,by simp⟩,tt ⟨rfl,rfl⟩⟩⟩⟩
abbrev Jg:ub:=⟨67,[.nils],(.own 0),(.arr 88 2 aU aY ([]:List Ps))⟩
theorem yI  : CO Jg:=by
 refine ai.vcO (V:=TT 5 (((.own 0):D)=.own 0∧([]:List Ps)=[])) (.e) Try.func67 rfl rfl rfl (by kernel_rfl) ?_
 refine tt ⟨rfl,?_⟩
 rfl
abbrev Jh:ub:=⟨67,[(.v .esl)],(.own 0),(.arr 88 2 aU aY ([]:List Ps))⟩
theorem yJ  : CO Jh:=by
 refine ai.vcO (V:=TT 3 (an [] (([]:List Ps).map aU)∧TT 1 ((([]:List Ps).length+(([]:List (List V))).length≤137438953472∧([]:List Ps).map aU++([]:List (List V))=([]:List Ps).map aU)∧TT 2 (((.own 0):D)=.own 0∧((.arr 88 2 aU aY ([]:List Ps)):am)=(.arr 88 2 aU aY ([]:List Ps)))))) (.w 3 [(0,.box 88 2 aU aY ([]:List Ps)),(2,.box 88 2 aU aY ([]:List Ps))]<|.e) Try.func67 rfl rfl rfl (by kernel_rfl) ?_
 exact tt ⟨oK,tt ⟨⟨by simp,by simp⟩,tt ⟨rfl,rfl⟩⟩⟩
abbrev H3 (l:List Ps):ub:=⟨67,[(dL 2 aU aY l)],(.own 0),(.arr 88 2 aU aY l)⟩
theorem uu (l:List Ps) (hl:l.length≤137438953472):CO (H3 l) :=
  ai.nilcases (fun h=>yH l h hl) (fun h=>by subst h;exact yI) (fun h=>by subst h;exact yJ)
abbrev Ji (l:List (List Int)):ub:=⟨68,[(dL 1 ac [] l)],(.own 0),(.arr 38 1 ac [] l)⟩
theorem yK (l:List (List Int)) (h:l≠[]) (hl:l.length≤137438953472):CO (Ji l):=by
 refine ai.vcO (V:=TT 2 (l≠[]∧an [] (([]:List (List Int)).map ac)∧TT 1 ((([]:List (List Int)).length+(l.map ac).length≤137438953472∧([]:List (List Int)).map ac++l.map ac=l.map ac)∧TT 2 (((.own 0):D)=.own 0∧((.arr 38 1 ac [] l):am)=(.arr 38 1 ac [] l))))) (.w 3 [(0,.box 38 1 ac [] ([]:List (List Int))),(2,.box 38 1 ac [] l)]<|.e) Try.func68 rfl rfl rfl (by kernel_rfl) ?_
 exact tt ⟨(by exact h),⟨oK,tt ⟨⟨by simp only[KM,K6];omega,by simp⟩,tt ⟨rfl,rfl⟩⟩⟩⟩
abbrev Jj:ub:=⟨68,[.nils],(.own 0),Ak⟩
theorem yL  : CO Jj:=by
 refine ai.vcO (V:=TT 5 (((.own 0):D)=.own 0∧([]:List (List Int))=[])) (.e) Try.func68 rfl rfl rfl (by kernel_rfl) ?_
 refine tt ⟨rfl,?_⟩
 rfl
abbrev Jk:ub:=⟨68,[(.v .esl)],(.own 0),Ak⟩
theorem yM  : CO Jk:=by
 refine ai.vcO (V:=TT 3 (an [] (([]:List (List Int)).map ac)∧TT 1 ((([]:List (List Int)).length+(([]:List (List V))).length≤137438953472∧([]:List (List Int)).map ac++([]:List (List V))=([]:List (List Int)).map ac)∧TT 2 (((.own 0):D)=.own 0∧(Ak:am)=Ak)))) (.w 3 [(0,.box 38 1 ac [] ([]:List (List Int))),(2,.box 38 1 ac [] ([]:List (List Int)))]<|.e) Try.func68 rfl rfl rfl (by kernel_rfl) ?_
 exact tt ⟨oK,tt ⟨⟨by simp,by simp⟩,tt ⟨rfl,rfl⟩⟩⟩
abbrev H4 (l:List (List Int)):ub:=⟨68,[(dL 1 ac [] l)],(.own 0),(.arr 38 1 ac [] l)⟩
theorem uv (l:List (List Int)) (hl:l.length≤137438953472):CO (H4 l) :=
  ai.nilcases (fun h=>yK l h hl) (fun h=>by subst h;exact yL) (fun h=>by subst h;exact yM)
set_option maxHeartbeats 1600000 in
theorem yN (n:Nat) (hn:n≤137438953472) (w:World):Calls Try.prog 77 #[.slice none 0 0,.int .i64 (n:Int)] w (fun e w'=>∃v,e=.returned v∧w'.ownsRow 0 3 1 v 0 []∧w.grownBy w' none∧∀b,aA v=some b→w.heap.size≤b):=by
  by_cases h0:n=0
  · subst h0
    go_enter Try.func77,Try.ntmps77
    go_wp2
    go_ret
    exact⟨_,rfl,LW _ 0 _ _,mA w,fun b hb=>by simp[aA]at hb⟩
  · have hp:0<n:=by omega
    have e1:IntKind.i64.wrap ((n:Int)-(0-0))=(n:Int):=Bm rfl (by omega) (by omega)
    have e0:¬((n:Int)<0):=by omega
    have e2:(n:Int)>0:=by omega
    have hb8:Try.t3.bytes=8:=rfl
    have hnx:Builtin.nextslicecap n 0=n:=nextslicecap_zero hp
    go_enter Try.func77,Try.ntmps77
    go_wp2
    all_goals try (exfalso;simp only[hb8,hnx]at *;omega)
    go_ret
    have hK:n≤grownCap w n 0 3∧grownCap w n 0 3≤maxLen:=⟨grownCap_ge ..,grownCap_le_maxLen _ _ _ _ (by unfold maxLen;omega)⟩
    refine⟨_,rfl,World.ownsRow_made w (Builtin.zeroCells #[Value.int IntKind.i64 0] n++Builtin.zeroCells #[Value.int IntKind.i64 0] (grownCap w n 0 3-n)) (grownCap w n 0 3) (Mf _) hK.2 ?_,⟨rfl,rfl,rfl,?_,fun k hk _=>?_⟩,fun b hb=>?_⟩
    · simp[Builtin.zeroCells];omega
    · simp
    · exact LU w _ k hk
    · simp[aA]at hb;omega
abbrev H5 (n:Nat):ub:=⟨77,[.nils,(i6 (n:Int))],.own 0,.arr 3 1 (ab .i64) 0 []⟩
theorem Al (n:Nat) (hn:n≤137438953472):CO (H5 n):=by
  refine ai.of_empty (fun S μ w us hu=>?_)
  obtain⟨h1,h2⟩:=hu
  have h0:us=#[us[0]'(by simp at h1;omega),us[1]'(by simp at h1;omega)]:=by
    apply Array.ext
    · simpa using h1
    · intro i a b
      simp at h1
      have:i=0∨i=1:=by omega
      rcases this with rfl | rfl<;>rfl
  have k0:=h2 0 _ (us[0]'(by simp at h1;omega)) rfl (K0 _)
  have k1:=h2 1 _ (us[1]'(by simp at h1;omega)) rfl (K0 _)
  rw[h0]
  generalize us[0]'(by simp at h1;omega)=x at k0 ⊢
  generalize us[1]'(by simp at h1;omega)=y at k1 ⊢
  cases k0
  rw[bp k1]
  exact yN n hn w
abbrev Jl (ls:List (List Int)):Ct:=⟨71,[(dL 1 ac [] ls)],false,(LI ls.flatten)⟩
abbrev lg (ls:List (List Int)):Lp (Nat):=il [0,3,9,10,11] 0 (fun (i:Nat)=>⟨[(0,(dL 1 ac [] ls)),(3,(i6 (((ls.take i).flatten.length:Nat):Int))),(9,(dL 1 ac [] ls)),(10,(i6 (ls.length:Int))),(11,(i6 (i:Int)))],[]⟩) (fun (i:Nat)=>i≤ls.length) (fun (i:Nat)=>ls.length-i)
abbrev lh (ls:List (List Int)):Lp (Nat):=il [6,25,26,27] 1 (fun (j:Nat)=>⟨[(6,(.own 0)),(25,(dL 1 ac [] ls)),(26,(i6 (ls.length:Int))),(27,(i6 (j:Int)))],[(.arr 3 1 (ab .i64) 0 ((ls.take j).flatten))]⟩) (fun (j:Nat)=>j≤ls.length) (fun (j:Nat)=>ls.length-j)
theorem BO (ls:List (List Int)) (h1:ls.length≤1000000) (h2:ls.flatten.length≤137438953472):CC (Jl ls):=by
 refine ai.vc (V:=TT 5 (GO (lg ls) 0 (∀i,(lg ls).inv i→TT 1 (CD ((i:Int)<(ls.length:Int)) (IX (i:Int) ls.length∧TT 5 ((True∧(IntKind.wrap .i64 ((((ls.take i).flatten.length:Nat):Int)+(((ls.getD i []).length:Nat):Int)))=(((ls.take (i+1)).flatten.length:Nat):Int))∧TT 3 ((decide ((((ls.take (i+1)).flatten.length:Nat):Int)<0))=false∧W6 ((i+1:Nat):Int)∧TT 1 (AG (lg ls) i (i+1))))) (TT 1 (CO (H5 ((ls.take i).flatten.length))∧TT 4 (GO (lh ls) 0 (∀j,(lh ls).inv j→TT 1 (CD ((j:Int)<(ls.length:Int)) (IX (j:Int) ls.length∧TT 4 ((((ls.take j).flatten).length+((ls.getD j []).map (ab .i64)).length≤137438953472∧((ls.take j).flatten).map (ab .i64)++(ls.getD j []).map (ab .i64)=((ls.take (j+1)).flatten).map (ab .i64))∧TT 1 (W6 ((j+1:Nat):Int)∧TT 1 (AG (lh ls) j (j+1))))) (TT 3 (((ls.take j).flatten).map (ab .i64)=ls.flatten.map (ab .i64)∧((∀z∈ls.flatten,((ab .i64) z).all V.scal=true))))))))))))) (.l (lg ls) 0 (fun i=>.b 12 (.w 5 [(3,.val (i6 (((ls.take (i+1)).flatten.length:Nat):Int)))]<|.u 20 (.w 8 [(0,.val (i6 ((i+1:Nat):Int)))]<|.e)) (.w 9 [(1,(H5 ((ls.take i).flatten.length)).O)]<|.l (lh ls) 0 (fun j=>.b 28 (.w 13 [(2,.box 3 1 (ab .i64) 0 ((ls.take (j+1)).flatten))]<|.w 14 [(0,.val (i6 ((j+1:Nat):Int)))]<|.e) (.e))))) Try.func71 rfl rfl rfl (by kernel_rfl) ?_
 refine tt ⟨rfl,(by omega),?_⟩
 intro i J'
 have hi:=J'
 refine tt (cd (fun Ni=>?_) (fun Ni=>?_))
 · have hi1:i<ls.length:=by omega
   have hf:=k9 hi1
   have hg:=ld (ls:=ls) (i:=i+1)
   rw[hf,KN]at hg
   refine⟨ix,tt ⟨⟨oK,(by rw[hf,KN,Int.natCast_add];exact Bm rfl (by omega) (by omega))⟩,tt ⟨(KS (by omega)),⟨w6,tt ⟨(i+1),rfl,(?_:(i+1)≤ls.length),(?_:ls.length-(i+1)<ls.length-i)⟩⟩⟩⟩⟩
   · omega
   · omega
 · have hg:=ld (ls:=ls) (i:=i)
   refine tt ⟨(Al ((ls.take i).flatten.length) om),tt ⟨rfl,(by omega),?_⟩⟩
   intro j J'
   have hj:=J'
   refine tt (cd (fun NP=>?_) (fun NP=>?_))
   · have hj1:j<ls.length:=by omega
     have hf:=k9 hj1
     have hg:=ld (ls:=ls) (i:=j+1)
     rw[hf,KN]at hg
     refine⟨ix,tt ⟨⟨by simp only[KM];omega,by rw[hf,K8]⟩,tt ⟨w6,tt ⟨(j+1),rfl,(?_:(j+1)≤ls.length),(?_:ls.length-(j+1)<ls.length-j)⟩⟩⟩⟩
     · omega
     · omega
   · refine tt ⟨(congrArg _ (?_:((ls.take j).flatten)=ls.flatten)),(fun _ _=>rfl)⟩
     exact xd (by omega)
abbrev Jm (v w:Int):Ct:=⟨66,[(i6 v),(.iptr [(.int .i64 w)] 0)],false,(dB (!(co v w)))⟩
theorem yO (v w:Int) (h0:0≤w) (h6:w≤62):CC (Jm v w):=by
 refine ai.vc (V:=TT 1 (CS (v<0) (TT 2 ((True∧(decide (v<0))=true)∧TT 7 (true=(!(co v w))∧True))) (TT 2 ((True∧(decide (v<0))=false)∧TT 2 (SH w∧TT 4 ((decide (v≥(2^w.toNat)))=(!(co v w))∧True)))))) (.s 1 (v<0) (.w 1 [(2,.val (dB true))]<|.e) (.w 1 [(2,.val (dB false)),(5,.val (i6 (2^w.toNat)))]<|.e)) Try.func66 rfl rfl rfl (by kernel_rfl) ?_
 refine tt ⟨fun MV=>?_,fun MV=>?_⟩
 · refine tt ⟨(vT MV),tt ⟨?_,oK⟩⟩
   first | (unfold co;rw[KS (by omega)];rfl) | (unfold co;rw[KO (show(0:Int)≤v by omega),bW h0 h6,L0];by_cases hq:v<2^w.toNat<;>first | (rw[KS (by omega),KO (by omega)];rfl) | (rw[KO (by omega),KS (by omega)];rfl))
 · refine tt ⟨(vF MV),tt ⟨(sh (by have:=np (n:=w.toNat) (by omega);omega) (by have:=np (n:=w.toNat) (by omega);omega)),tt ⟨?_,oK⟩⟩⟩
   first | (unfold co;rw[KS (by omega)];rfl) | (unfold co;rw[KO (show(0:Int)≤v by omega),bW h0 h6,L0];by_cases hq:v<2^w.toNat<;>first | (rw[KS (by omega),KO (by omega)];rfl) | (rw[KO (by omega),KS (by omega)];rfl))
abbrev GX (l:List Int) (w:Int):Ct:=⟨76,[(LI l),(.fn (.func 66) [] [(.iptr [(.int .i64 w)] 0)])],false,(i6 (vE l w))⟩
abbrev vH (l:List Int) (w:Int):Lp (Nat):=il [0,1,7,8] 0 (fun (i:Nat)=>⟨[(0,(LI l)),(1,(.fn (.func 66) [] [(.iptr [(.int .i64 w)] 0)])),(7,(i6 (l.length:Int))),(8,(i6 (i:Int)))],[]⟩) (fun (i:Nat)=>i≤l.length∧∀z,z<i→(!co (l.getD z 0) w)=false) (fun (i:Nat)=>l.length-i)
theorem GY (l:List Int) (w:Int) (h0:0≤w) (h6:w≤62) (hl:l.length≤9223372036854775807):CC (GX l w):=by
 refine ai.vc (V:=TT 4 (GO (vH l w) 0 (∀i,(vH l w).inv i→TT 1 (CD ((i:Int)<(l.length:Int)) (TT 5 (IX (i:Int) l.length∧TT 1 (CC (Jm (l.getD i 0) w)∧CB (!(co (l.getD i 0) w)) (TT 3 ((i:Int)=(vE l w)∧True)) (W6 ((i+1:Nat):Int)∧TT 1 (AG (vH l w) i (i+1)))))) (TT 2 ((-1)=(vE l w)∧True)))))) (.l (vH l w) 0 (fun i=>.b 9 (.w 4 [(5,(Jm (l.getD i 0) w).O)]<|.b 16 (.e) (.w 6 [(0,.val (i6 ((i+1:Nat):Int)))]<|.e)) (.e))) Try.func76 rfl rfl rfl (by kernel_rfl) ?_
 refine tt ⟨rfl,⟨by omega,fun z hz=>by omega⟩,?_⟩
 intro i J'
 obtain⟨hi,h3⟩:=J'
 refine tt (cd (fun Sd=>?_) (fun Sd=>?_))
 · refine tt ⟨ix,tt ⟨(yO (l.getD i 0) w om om),⟨fun Oo=>?_,fun Oo=>?_⟩⟩⟩
   · refine tt ⟨?_,oK⟩
     first | exact(bH (f:=fun i=>!co (l.getD i 0) w) Oo h3 (by omega)).symm | exact(ca (f:=fun i=>!co (l.getD i 0) w) (fun z hz=>h3 z (by omega))).symm
   · refine⟨w6,tt ⟨(i+1),rfl,?_,(?_:l.length-(i+1)<l.length-i)⟩⟩
     · exact⟨by omega,bA h3 Oo⟩
     · omega
 · refine tt ⟨?_,oK⟩
   first | exact(bH (f:=fun i=>!co (l.getD i 0) w) Oo h3 (by omega)).symm | exact(ca (f:=fun i=>!co (l.getD i 0) w) (fun z hz=>h3 z (by omega))).symm
abbrev GZ (l:List Int) (w:Int):Ct:=⟨65,[(LI l),(.fn (.func 66) [] [(.iptr [(.int .i64 w)] 0)])],false,(dB (decide (0≤vE l w)))⟩
theorem G0 (l:List Int) (w:Int) (h0:0≤w) (h6:w≤62) (hl:l.length≤9223372036854775807):CC (GZ l w):=by
 refine ai.vc (V:=TT 3 (CC (GX l w)∧TT 3 ((decide ((vE l w)≥0))=(decide (0≤vE l w))∧True))) (.w 1 [(2,(GX l w).O)]<|.e) Try.func65 rfl rfl rfl (by kernel_rfl) ?_
 refine tt ⟨(GY l w om om om),tt ⟨?_,oK⟩⟩
 rfl
abbrev H6 (l:List Int) (w:Int):Ct:=⟨58,[(LI l),(i6 w)],false,(dB (bM l w))⟩
theorem uw (l:List Int) (w:Int) (h0:0≤w) (h6:w≤62) (hl:l.length≤9223372036854775807):CC (H6 l w):=by
 refine ai.vc (V:=TT 4 (CK (GZ l w)∧TT 3 ((!(decide (0≤vE l w)))=(bM l w)∧True))) (.w 1 [(2,(GZ l w).O')]<|.e) Try.func58 rfl rfl rfl (by kernel_rfl) ?_
 refine tt ⟨⟨fo _ rfl,(G0 l w om om om)⟩,tt ⟨?_,oK⟩⟩
 exact BN
abbrev Jn (c:Ci):Ct:=⟨19,[(.agg [(dL 6 eK aO c.U),(dL 5 dq aN c.J)])],true,(.agg [(dL 2 aU aY ((aC c).U)),(dL 1 ac [] ((aC c).J))])⟩
abbrev li (c:Ci):Lp (Nat):=il [2,3,12,13,14] 5 (fun (i:Nat)=>⟨[(2,(.ptr 1 0 0 0)),(3,(.ptr 3 0 0 0)),(12,(dL 6 eK aO c.U)),(13,(i6 (c.U.length:Int))),(14,(i6 (i:Int)))],[(.var 42 [(dL 6 eK aO c.U),(dL 5 dq aN c.J)]),(.var 46 [.nils,.nils]),(.arr 38 1 ac [] (List.replicate c.J.length ([]:List Int))),(.var 46 [(.own 4),(.own 2)]),(.arr 88 2 aU aY (tab (fun i=>aI (bD c i)) i))]⟩) (fun (i:Nat)=>i≤c.U.length) (fun (i:Nat)=>c.U.length-i)
theorem BP (c:Ci) (hc:bO c):CC (Jn c):=by
 have NC:=hc.nl
 have hcl:=hc.cl
 refine ai.vc (V:=TT 5 ((((0:Int)≤(c.J.length:Int)∧(c.J.length:Int)≤(c.J.length:Int)∧(c.J.length:Int)≤137438953472)∧(List.replicate c.J.length ([]:List Int)).length=c.J.length∧∀x∈(List.replicate c.J.length ([]:List Int)),dG [.nils] (ac x))∧TT 7 (GO (li c) 0 (∀i,(li c).inv i→TT 1 (CD ((i:Int)<(c.U.length:Int)) (IX (i:Int) c.U.length∧TT 6 (CC (Je (c.U.getD i aO))∧an [[(LI ((aI (c.U.getD i aO)).KC)),(dL 1 ac [] ((aI (c.U.getD i aO)).KB))]] ([(⟨(aI (c.U.getD i aO)).KC,(aI (c.U.getD i aO)).KB⟩:Ps)].map aU)∧((tab (fun i=>aI (bD c i)) i).length+([(⟨(aI (c.U.getD i aO)).KC,(aI (c.U.getD i aO)).KB⟩:Ps)].map aU).length≤137438953472∧(tab (fun i=>aI (bD c i)) i).map aU++[(⟨(aI (c.U.getD i aO)).KC,(aI (c.U.getD i aO)).KB⟩:Ps)].map aU=(tab (fun i=>aI (bD c i)) (i+1)).map aU)∧TT 2 (W6 ((i+1:Nat):Int)∧TT 1 (AG (li c) i (i+1))))) (TT 3 ((tab (fun i=>aI (bD c i)) i).map aU=((aC c).U).map aU∧(List.replicate c.J.length ([]:List Int)).map ac=((aC c).J).map ac∧True))))))) (.w 1 [(3,.box 38 1 ac [] (List.replicate c.J.length ([]:List Int)))]<|.g 2 3 0 88 2 aU aY<|.l (li c) 0 (fun i=>.b 15 (.w 5 [(3,(Je (c.U.getD i aO)).O),(4,.box 88 2 aU aY [(⟨(aI (c.U.getD i aO)).KC,(aI (c.U.getD i aO)).KB⟩:Ps)]),(5,.box 88 2 aU aY (tab (fun i=>aI (bD c i)) (i+1)))]<|.w 6 [(0,.val (i6 ((i+1:Nat):Int)))]<|.e) (.e))) Try.func19 rfl rfl rfl (by kernel_rfl) ?_
 refine tt ⟨⟨by omega,by simp,fun x hx=>by rw[Ln hx];exact⟨rfl,oK⟩⟩,tt ⟨rfl,(by omega),?_⟩⟩
 intro i J'
 have hi:=J'
 refine tt (cd (fun Ny=>?_) (fun Ny=>?_))
 · refine⟨ix,?_⟩
   have QZ:=hc.pr i (by omega)
   refine tt ⟨(BJ (c.U.getD i aO) QZ),⟨⟨⟨rfl,rfl,oK⟩,oK⟩,⟨(hJ (f:=fun i=>aI (bD c i)) (by omega)),tt ⟨w6,tt ⟨(i+1),rfl,(?_:(i+1)≤c.U.length),(?_:c.U.length-(i+1)<c.U.length-i)⟩⟩⟩⟩⟩
   · omega
   · omega
 · refine tt ⟨(congrArg _ (?_:(tab (fun i=>aI (bD c i)) i)=((aC c).U))),(congrArg _ (?_:(List.replicate c.J.length ([]:List Int))=((aC c).J))),oK⟩
   · rw[show i=c.U.length by omega];rfl
   · rfl
abbrev Jo (h:Ch):Ct:=⟨57,[(.agg [(dS h.name),(i6 h.w),(i6 h.cap),(i6 h.frm),(i6 h.dst)])],false,(i6 h.frm)⟩
theorem DP (h:Ch):CC (Jo h):=by
 refine ai.vc (V:=TT 6 (h.frm=h.frm∧True)) (.e) Try.func57 rfl rfl rfl (by kernel_rfl) ?_
 exact tt ⟨rfl,oK⟩
abbrev vI (c:Ci) (n:Int):Ct:=⟨56,[(.agg [(dL 6 eK aO c.U),(dL 5 dq aN c.J)]),(i6 n),(.fn (.func 57) [] [])],false,(dB (ef (·.frm) c n))⟩
theorem nI (c:Ci) (n:Int) (hc:bO c):CC (vI c n):=by
 have NC:=hc.nl
 have hcl:=hc.cl
 refine ai.vc (V:=TT 2 (CS (n≥0) (CS (n<(c.J.length:Int)) (TT 2 ((True∧(decide (n≥0))=true)∧TT 6 ((True∧(decide (n<(c.J.length:Int)))=true)∧TT 4 (IX n c.J.length∧TT 1 (CC (Jo (c.J.getD n.toNat aN))∧TT 4 ((((c.J.getD n.toNat aN).frm)==(-1))=(ef (·.frm) c n)∧True)))))) (TT 2 ((True∧(decide (n≥0))=true)∧TT 6 ((True∧(decide (n<(c.J.length:Int)))=false)∧TT 11 (false=(ef (·.frm) c n)∧True))))) (TT 2 ((True∧(decide (n≥0))=false)∧TT 18 (false=(ef (·.frm) c n)∧True))))) (.s 1 (n≥0) (.s 1 (n<(c.J.length:Int)) (.w 1 [(2,.val (dB true)),(9,.val (dB true)),(16,(Jo (c.J.getD n.toNat aN)).O)]<|.e) (.w 1 [(2,.val (dB true)),(9,.val (dB false))]<|.e)) (.w 1 [(2,.val (dB false))]<|.e)) Try.func56 rfl rfl rfl (by kernel_rfl) ?_
 refine tt ⟨fun MV=>?_,fun MV=>?_⟩
 · refine⟨fun Nl=>?_,fun Nl=>?_⟩
   · refine tt ⟨(vT MV),tt ⟨(vT Nl),tt ⟨ix,tt ⟨(DP (c.J.getD n.toNat aN)),tt ⟨?_,oK⟩⟩⟩⟩⟩
     first | exact(ft (by omega)).symm | exact(fu (by omega)).symm | exact(lf (by omega) (by omega)).symm | (rw[lf (by omega) (by omega)];simp)
   · refine tt ⟨(vT MV),tt ⟨(vF Nl),tt ⟨?_,oK⟩⟩⟩
     first | exact(ft (by omega)).symm | exact(fu (by omega)).symm | exact(lf (by omega) (by omega)).symm | (rw[lf (by omega) (by omega)];simp)
 · refine tt ⟨(vF MV),tt ⟨?_,oK⟩⟩
   first | exact(ft (by omega)).symm | exact(fu (by omega)).symm | exact(lf (by omega) (by omega)).symm | (rw[lf (by omega) (by omega)];simp)
def ti (k:Int) (q:Nat):Bool:=decide ((q:Int)=k)
section
variable {c:Ci} {s:Ns} {w:Nat→Bool} {i k:Nat}
theorem H7 (h:(!w i)=true):bh c s w i=false:=by
 unfold bh;cases hw:w i
 ·rfl
 ·rw[hw]at h;cases h
theorem G1 (h:vA c s i=false):bh c s w i=false:=by unfold bh;rw[h,Lw]
theorem G2 (h:(!w i)=false) (h2:vA c s i=true):bh c s w i=true:=by
 unfold bh;cases hw:w i
 ·rw[hw]at h;cases h
 ·rw[h2];rfl
theorem Gn (h:bh c s w i=false):Af s i=cK c s w i:=by unfold cK;rw[KK (by rw[h];simp)]
theorem G3 (h:bh c s w i=true):(ax c s i).s=cK c s w i:=by unfold cK;rw[KT h]
theorem Am (h:bh c s w i=false):o8 c s w (i+1)=o8 c s w i:=by rw[o8,KK (by rw[h];simp),K9]
theorem DQ (h:bh c s w i=true):o8 c s w (i+1)=o8 c s w i++s4 (bD c i) (ax c s i) (bD c i).I.length:=by rw[o8,KT h]
theorem An (h:bh c s w i=false):mK c s w (i+1)=mK c s w i:=by rw[mK,KK (by rw[h];simp),K9]
theorem DR (h:bh c s w i=true):mK c s w (i+1)=mK c s w i++s5 (bD c i) (ax c s i) (bD c i).KA.length:=by rw[mK,KT h]
theorem G4 {p:Pr} {f:Fi} (h:f.pops.getD k false=false):s4 p f (k+1)=s4 p f k:=by rw[s4,KK (by rw[h];simp),K9]
theorem FC {p:Pr} {f:Fi} (h:f.pops.getD k false=true):s4 p f (k+1)=s4 p f k++[xQ p k]:=by rw[s4,KT h]
theorem G5 {p:Pr} {f:Fi} (h:(f.KA.getD k cz).has=false):s5 p f (k+1)=s5 p f k:=by rw[s5,KK (by rw[h];simp),K9]
theorem FD {p:Pr} {f:Fi} (h:(f.KA.getD k cz).has=true):s5 p f (k+1)=s5 p f k++[(uo p k,(f.KA.getD k cz).v)]:=by rw[s5,KT h]
end
theorem DS (p:Nat):ti (p:Int)=xc p:=funext fun q=>by
 unfold ti xc
 by_cases h:q=p
 ·rw[KO h,KO (by omega)]
 ·rw[KS h,KS (by omega)]
theorem DT {c:Ci} {s:Ns} {w:Nat→Bool} (hc:bO c) {k:Nat} (h:jJ s k):jJ (b6 c s w) (k+1):=by
 intro n
 by_cases hn:n<c.J.length
 ·rw[nG c s w hn]
  unfold gE
  rw[KN,K7]
  have h1:(gS s n).length≤k:=h n
  have h2:(fK c s w n).length≤1:=by
   unfold fK;split
   ·exact sf hc n
   ·simp
  omega
 ·have:gS (b6 c s w) n=[]:=by show(tab _ _).getD n []=[];exact Fo (by omega)
  rw[this];simp
theorem si {c:Ci} {s:Ns} {p:Int} (h:¬0≤p):gC c s p=false:=by unfold gC;rw[KS h];rfl
theorem sj {c:Ci} {s:Ns} {p:Int} (h:¬p<c.U.length):gC c s p=false:=by unfold gC;rw[KS h,Bool.false_and,Lw]
theorem qD {c:Ci} {s:Ns} {p:Int} (h:0≤p) (h2:p<c.U.length):gC c s p=(ax c s p.toNat).fires:=by unfold gC;rw[KO h,KO h2];rfl
theorem qE {f:Ch→Int} {c:Ci} {n:Int} (h:ef f c n=true):0≤n∧n<c.J.length∧f (dn c n.toNat)=-1:=by unfold ef at h;simpa using h
def aq (c:Ci) (s:Ns) (n:Int) (ws:List Int):Ns×Int:=if ef (·.frm) c n=true∧bM ws (dn c n.toNat).w=true then (⟨s.U,s.J.set n.toNat (gS s n.toNat++ws)⟩,0)else (Cj,1)
theorem gF {c:Ci} {s:Ns} {n:Int} {ws:List Int} (h:¬ef (·.frm) c n=true):aq c s n ws=(Cj,1):=KK (fun q=>h q.1)
theorem cZ {c:Ci} {s:Ns} {n:Int} {ws:List Int} (h:¬bM ws (dn c n.toNat).w=true):aq c s n ws=(Cj,1):=KK (fun q=>h q.2)
theorem gG {c:Ci} {s:Ns} {n:Int} {ws:List Int} (h:ef (·.frm) c n=true) (h2:bM ws (dn c n.toNat).w=true):aq c s n ws=(⟨s.U,s.J.set n.toNat (gS s n.toNat++ws)⟩,0):=KT ⟨h,h2⟩
theorem G6 {c:Ci} {s:Ns} {p:Nat} (h:p<c.U.length):gC c s (p:Int)=vA c s p:=by
 rw[qD (by omega) (by omega)];rfl
abbrev Jp (l ws:List Int):Ct:=⟨70,[(LI l),(.iptr [(.sl 1 (ab .i64) 0 ws)] 0)],true,(LI (l++ws))⟩
theorem yP (l ws:List Int) (h:l.length+ws.length≤137438953472):CC (Jp l ws):=by
 refine ai.vc (V:=TT 3 (an [[(LI l)],[(LI ws)]] ([l,ws].map ac)∧CK (Jl [l,ws])∧TT 2 (([l,ws].flatten).map (ab .i64)=(l++ws).map (ab .i64)))) (.w 1 [(2,.box 38 1 ac [] [l,ws]),(3,(Jl [l,ws]).O')]<|.e) Try.func70 rfl rfl rfl (by kernel_rfl) ?_
 refine tt ⟨⟨⟨rfl,oK⟩,⟨rfl,oK⟩,oK⟩,⟨⟨fo _ rfl,(BO [l,ws] (by simp) (by simpa using h))⟩,tt (congrArg _ (?_:([l,ws].flatten)=(l++ws)))⟩⟩
 simp
abbrev Ao (s:Ns):List D:=[(dL 2 aU aY s.U),(dL 1 ac [] s.J)]
abbrev fv (s:Ns):am:=(.var 46 (Ao s))
abbrev Ap (c:Ci):List D:=[(dL 6 eK aO c.U),(dL 5 dq aN c.J)]
abbrev fw (c:Ci):am:=(.var 42 (Ap c))
abbrev pI (c:Ci):am:=(.var 158 [(dL 6 eK aO c.U),(dL 5 dq aN c.J),(.own 9),(.own 12)])
abbrev Aq (ws:List Int) (n:Int):List (Nat×D):=[(32,(LI ws)),(31,(i6 n)),(30,(.ptr 15 0 0 0)),(2,(i6 n)),(3,(LI ws)),(8,(.ptr 2 0 0 0)),(10,(.ptr 15 0 0 0))]
abbrev Ar (s:Ns) (n:Int) (ws:List Int):am:=(.arr 38 1 ac [] (s.J.set n.toNat ((s.J.getD n.toNat [])++ws)))
abbrev nJ:am:=(.var 46 [.nils,.nils])
abbrev pJ (s:Ns):am:=(.arr 88 2 aU aY s.U)
set_option maxRecDepth 100000
abbrev H8 (c:Ci) (s:Ns) (n:Int) (ws:List Int):Ct:=⟨47,[(.agg (Ap c)),(.agg (Ao s)),(i6 n),(LI ws)],true,(.tup [(.agg [(dL 2 aU aY (((aq c s n ws).1).U)),(dL 1 ac [] (((aq c s n ws).1).J))]),(i6 ((aq c s n ws).2))])⟩
abbrev DU (c:Ci) (s:Ns):List am:=[(fw c),(fv s),nJ]
abbrev nM (c:Ci) (s:Ns) (n:Int) (ws:List Int):List (Nat×D):=[(28,(.agg (Ao s))),(27,(.agg (Ap c))),(2,(i6 n)),(3,(LI ws)),(4,(.ptr 0 0 0 0)),(5,(.ptr 1 0 0 0)),(8,(.ptr 2 0 0 0))]
abbrev sk (c:Ci) (s:Ns):List am:=[(fw c),(fv s),nJ]
abbrev sn (c:Ci) (s:Ns):List am:=[(fw c),(fv s),.dead,.dead,.dead,(pJ s),.dead,.dead,(.arr 38 1 ac [] s.J),.dead,.dead,(pI c)]
abbrev DV (c:Ci) (s:Ns):List am:=[(fw c),(fv s),nJ,.dead,(fw c),(fv s),.dead,.dead,.dead,(pJ s),.dead,.dead,(.arr 38 1 ac [] s.J),.dead,.dead,(pI c)]
abbrev nN (n:Int) (ws:List Int):List (Nat×D):=(Aq ws n)
abbrev DW (c:Ci) (s:Ns) (n:Int) (ws:List Int) (Og:Array Value):List am:=[(fw c),(fv s),nJ,.dead,(fw c),(fv s),.dead,.dead,.dead,(pJ s),.dead,.dead,(.arr 38 1 ac [] s.J),.dead,.dead,(pI c),(.frame Og (Aq ws n)),.dead]
abbrev nO (n:Int) (ws:List Int):List (Nat×D):=[(8,(.fn (.func 70) [] [(.iptr [(.sl 1 (ab .i64) 0 ws)] 0)])),(7,(i6 n)),(6,(.ptr 15 0 0 0)),(0,(.ptr 15 0 0 0)),(1,(i6 n)),(5,(.iptr [(.sl 1 (ab .i64) 0 ws)] 0))]
abbrev so (c:Ci) (s:Ns) (n:Int) (ws:List Int) (Og:Array Value):List am:=[(fw c),(fv s),nJ,.dead,(fw c),(fv s),.dead,.dead,.dead,(pJ s),.dead,.dead,(Ar s n ws),.dead,.dead,(pI c),(.frame Og (Aq ws n)),.dead]
abbrev sr (c:Ci) (s:Ns) (n:Int) (ws:List Int):List am:=[(fw c),(fv s),nJ,.dead,(fw c),(fv s),.dead,.dead,.dead,(pJ s),.dead,.dead,(Ar s n ws),.dead,.dead,(pI c)]
theorem xe (c:Ci) (s:Ns) (n:Int) (ws:List Int) (hc:bO c) (hs:cA c s) (O4:jJ s 4294967296) (hw:ws.length≤4294967296):CC (H8 c s n ws):=by
 have NC:=hc.nl
 have hcl:=hc.cl
 have OS:=hs.pl
 have Qz:=hs.cl
 refine ai.vc (V:=TT 4 (CS ((ef (·.frm) c n)=true) (TT 2 (CC (vI c n)∧TT 1 ((True∧(!(ef (·.frm) c n))=false)∧TT 4 (IX n c.J.length∧TT 2 (CC (H6 ws ((c.J.getD n.toNat aN).w))∧TT 2 (CB (!(bM ws ((c.J.getD n.toNat aN).w))) (TT 5 (((((aq c s n ws).1).U)=[]∧(((aq c s n ws).1).J)=[]∧True)∧(1:Int)=((aq c s n ws).2)∧True)) (TT 2 (Br Try.prog 59 [(.agg (Ap c)),(.agg (Ao s))] (DU c s) (nM c s n ws) (sk c s) (sn c s) (.ptr 15 0 0 0)∧TT 4 (Br Try.prog 60 [(.ptr 15 0 0 0),(i6 n),(LI ws)] (DV c s) (nN n ws) (sr c s n ws) [] (.tup [])∧TT 8 ((s.U.map aU=(((aq c s n ws).1).U).map aU∧(s.J.set n.toNat ((s.J.getD n.toNat [])++ws)).map ac=(((aq c s n ws).1).J).map ac∧True)∧(0:Int)=((aq c s n ws).2)∧True)))))))))) (TT 2 (CC (vI c n)∧TT 1 ((True∧(!(ef (·.frm) c n))=true)∧TT 15 (((((aq c s n ws).1).U)=[]∧(((aq c s n ws).1).J)=[]∧True)∧(1:Int)=((aq c s n ws).2)∧True)))))) (.s 1 ((ef (·.frm) c n)=true) (.w 1 [(2,(vI c n).O),(4,.val (dB false)),(12,(H6 ws ((c.J.getD n.toNat aN).w)).O)]<|.b 25 (.e) (.q 3 [2,3,4,5,8] 3<|.w 3 [(2,.inl (.ptr 15 0 0 0) (nM c s n ws) ((sk c s)++.dead::(sn c s)))]<|.q 4 [2,3,8,10] 16<|.w 4 [(3,.inl (.tup []) (nN n ws) ((sr c s n ws)++.dead::[]))]<|.e)) (.w 1 [(2,(vI c n).O),(4,.val (dB true))]<|.e)) Try.func47 rfl rfl rfl (by kernel_rfl) ?_
 refine tt ⟨fun MV=>?_,fun MV=>?_⟩
 · obtain⟨Se,QL,ho3⟩:=qE MV
   have hw:1≤(c.J.getD n.toNat aN).w∧(c.J.getD n.toNat aN).w≤8:=aJ.1 (hc.cw n.toNat (by omega))
   refine tt ⟨(nI c n hc),tt ⟨(mF MV),tt ⟨ix,tt ⟨(uw ws ((c.J.getD n.toNat aN).w) (by omega) (by omega) (by omega)),tt ⟨fun Nq=>?_,fun Nq=>?_⟩⟩⟩⟩⟩
   · refine tt ⟨⟨?_,?_,oK⟩,?_,oK⟩
     all_goals (all_goals (first | (rw[gF MV]) | (rw[cZ (by simpa using Nq)]) | (rw[gG MV (by simpa using Nq)])))
   · refine tt ⟨?_,?_⟩
     · intro Og
       refine j5.vc (V:=TT 6 (CO (H3 s.U)∧TT 2 (CO (H4 s.J)∧TT 5 (((.ptr 15 0 0 0):D)=(.ptr 15 0 0 0)∧([(fw c),(fv s),nJ,.frame Og (nM c s n ws),(fw c),(fv s),.dead,.dead,.dead,(pJ s),.dead,.dead,(.arr 38 1 ac [] s.J),.dead,.dead,(pI c)]:List am)=(sk c s)++.frame Og (nM c s n ws)::(sn c s))))) (.w 1 [(3,(H3 s.U).O),(6,(H4 s.J).O)]<|.e) Try.func59 rfl rfl (by kernel_rfl) ?_
       exact tt ⟨(uu s.U om),tt ⟨(uv s.J om),tt ⟨rfl,rfl⟩⟩⟩
     obtain⟨Se,QL,ho3⟩:=qE MV
     have SK:(s.J.getD n.toNat []).length≤4294967296:=O4 n.toNat
     refine tt ⟨?_,?_⟩
     · intro Og
       refine j5.vc (V:=TT 4 (Br Try.prog 69 [(.ptr 15 0 0 0),(i6 n),(.fn (.func 70) [] [(.iptr [(.sl 1 (ab .i64) 0 ws)] 0)])] (DW c s n ws Og) (nO n ws) (so c s n ws Og) [] (.tup [])∧True∧([(fw c),(fv s),nJ,.dead,(fw c),(fv s),.dead,.dead,.dead,(pJ s),.dead,.dead,(Ar s n ws),.dead,.dead,(pI c),.frame Og (nN n ws)]:List am)=(sr c s n ws)++.frame Og (nN n ws)::[])) (.q 1 [0,1,5] 18<|.f 1 17<|.w 1 [(3,.inl (.tup []) (nO n ws) ((so c s n ws Og)++.dead::[]))]<|.e) Try.func60 rfl rfl (by kernel_rfl) ?_
       refine tt ⟨?_,?_⟩
       · intro tm1
         refine j5.vc (V:=TT 13 (IX n s.J.length∧(n.toNat<s.J.length∧True)∧CC (Jp (s.J.getD n.toNat []) ws)∧IX n s.J.length∧(n.toNat<s.J.length∧(s.J.map ac).set n.toNat ((ac (s.J.getD n.toNat [])).take 0++[(.sl 1 (ab .i64) 0 ((s.J.getD n.toNat [])++ws))]++(ac (s.J.getD n.toNat [])).drop (0+1))=(s.J.set n.toNat ((s.J.getD n.toNat [])++ws)).map ac)∧True∧([(fw c),(fv s),nJ,.dead,(fw c),(fv s),.dead,.dead,.dead,(pJ s),.dead,.dead,(Ar s n ws),.dead,.dead,(pI c),(.frame Og (Aq ws n)),.dead,.frame tm1 (nO n ws)]:List am)=(so c s n ws Og)++.frame tm1 (nO n ws)::[])) (.w 0 [(15,(Jp (s.J.getD n.toNat []) ws).O),(17,.box 38 1 ac [] (s.J.set n.toNat ((s.J.getD n.toNat [])++ws)))]<|.e) Try.func69 rfl rfl (by kernel_rfl) ?_
         exact tt ⟨ix,⟨⟨om,oK⟩,⟨(yP (s.J.getD n.toNat []) ws om),⟨ix,⟨⟨om,by simp only[Mb];rfl⟩,⟨oK,rfl⟩⟩⟩⟩⟩⟩
       exact⟨oK,rfl⟩
     refine tt ⟨⟨(congrArg _ (?_:s.U=(((aq c s n ws).1).U))),(congrArg _ (?_:(s.J.set n.toNat ((s.J.getD n.toNat [])++ws))=(((aq c s n ws).1).J))),oK⟩,?_,oK⟩
     all_goals (all_goals (first | (rw[gF MV]) | (rw[cZ (by simpa using Nq)]) | (rw[gG MV (by simpa using Nq)])))
 · refine tt ⟨(nI c n hc),tt ⟨(mT MV),tt ⟨⟨?_,?_,oK⟩,?_,oK⟩⟩⟩
   all_goals (all_goals (first | (rw[gF MV]) | (rw[cZ (by simpa using Nq)]) | (rw[gG MV (by simpa using Nq)])))
theorem vO {v w:Int} (h:v<0):co v w=false:=by unfold co;rw[KS (by omega)];rfl
theorem vP {v w:Int} (h:v>aB w):co v w=false:=by unfold co;rw[KS (show ¬v≤aB w by omega),Lw]
theorem FL {v w:Int} (h:¬v<0) (h2:¬v>aB w):co v w=true:=by unfold co;rw[KO (show v≤aB w by omega),KO (show 0≤v by omega)];rfl
theorem lk {l:List Int} {w:Int} {i:Nat} (hi:i<l.length) (h:co (l.getD i 0) w=false):bM l w=false:=eZ (f:=fun i=>co (l.getD i 0) w) hi h
theorem sD {l:List Int} {w:Int} (h:∀i,i<l.length→co (l.getD i 0) w=true):bM l w=true:=bo.2 h
def Jw (a:Ns):Prop:=a.U.length≤1000000∧a.J.length≤1000000∧(∀n,(a.J.getD n []).length≤1099511627776)∧(∀i,(a.U.getD i aY).KC.length≤1000000)∧(∀i,(a.U.getD i aY).KB.length≤1000000)∧∀i j,((a.U.getD i aY).KB.getD j []).length≤1000000
theorem Hc {c:Ci} {s:Ns} (hc:bO c) (hs:cA c s) (hm:jJ s 4294967296):Jw s:=by
 have hp:∀i,(s.U.getD i aY).KC.length≤100∧(s.U.getD i aY).KB.length≤100∧∀j,((s.U.getD i aY).KB.getD j []).length≤4:=by
  intro i
  by_cases hi:i<c.U.length
  ·have h1:=hs.pv i hi
   have h2:=hc.pr i hi
   refine⟨by rw[h1.rl];exact h2.rl,by rw[h1.ml];exact h2.ml,fun j=>?_⟩
   by_cases hj:j<(bD c i).KB.length
   ·have h3:=h1.mn j hj
    have h4:=(h2.mw j hj).2.1
    have h5:(((s.U.getD i aY).KB.getD j []).length:Int)=(jH (bD c i) j).words:=h3
    omega
   ·have h6:=h1.ml
    rw[show(s.U.getD i aY).KB.getD j []=[]from by
     rw[List.getD,Lo (by show(Af s i).KB.length≤j;omega)];rfl]
    simp
  ·rw[show s.U.getD i aY=aY from by rw[List.getD,Lo (by rw[hs.pl];omega)];rfl]
   simp
 have h1:=hc.nl
 have h2:=hc.cl
 refine⟨by rw[hs.pl];omega,by rw[hs.cl];omega,fun n=>LO (hm n) (by omega),fun i=>LO (hp i).1 (by omega),fun i=>LO (hp i).2.1 (by omega),fun i j=>LO ((hp i).2.2 j) (by omega)⟩
def cC (a b:Ns):Bool:=decide (a.U.length=b.U.length)&&decide (a.J.length=b.J.length)&&dk (fun i=>c8 (a.U.getD i aY) (b.U.getD i aY)) a.U.length&&decide (a.J=b.J)
section
variable {a b:Ns}
theorem gH (h:¬a.U.length=b.U.length):cC a b=false:=by unfold cC;rw[KS h];rfl
theorem gI (h:¬a.J.length=b.J.length):cC a b=false:=by unfold cC;rw[KS h,Lw];rfl
theorem gJ {i:Nat} (hi:i<a.U.length) (h:c8 (a.U.getD i aY) (b.U.getD i aY)=false):cC a b=false:=by unfold cC;rw[eZ hi h,Lw];rfl
theorem gL {n:Nat} (h:¬a.J.getD n []=b.J.getD n []):cC a b=false:=by
 unfold cC;rw[KS (show ¬a.J=b.J from fun e=>h (by rw[e])),Lw]
theorem gM (h1:a.U.length=b.U.length) (h2:a.J.length=b.J.length) (h3:∀i,i<a.U.length→c8 (a.U.getD i aY) (b.U.getD i aY)=true) (h4:∀n,n<a.J.length→a.J.getD n []=b.J.getD n []):cC a b=true:=by
 unfold cC;rw[KO h1,KO h2,bo.2 h3,KO (km h2 h4)];rfl
end
theorem xi (a:Ps):c8 a a=true:=by simp[c8]
theorem sF {a b:Ns}:cC a b=true↔a=b:=by
 constructor
 ·intro h
  unfold cC at h
  simp only[KD,Lu,bo]at h
  obtain⟨⟨⟨h1,h2⟩,h3⟩,h4⟩:=h
  have:a.U=b.U:=km h1 (fun i hi=>by have:=h3 i hi;exact gz.1 this)
  cases a;cases b;simp_all
 ·rintro rfl
  unfold cC
  simp only[KD,Lu,bo]
  exact⟨⟨⟨trivial,trivial⟩,fun i hi=>xi _⟩,trivial⟩
def dp (s:Ns) (n:Nat) (l:List Int):Ns:=⟨s.U,s.J.set n l⟩
theorem f6 {c:Ci} {s:Ns} {n:Int} {ws:List Int} (h:ef (·.frm) c n=true) (h2:bM ws (dn c n.toNat).w=true):aq c s n ws=(dp s n.toNat (gS s n.toNat++ws),0):=gG h h2
theorem kv {f:Ch→Int} {c:Ci} {n:Int} (h:¬f (dn c n.toNat)=-1):ef f c n=false:=by unfold ef;rw[KS h,Lw,Lw]
theorem iL {f:Ch→Int} {c:Ci} {n:Int} (h1:0≤n) (h2:n<c.J.length) (h:f (dn c n.toNat)=-1):ef f c n=true:=by unfold ef;rw[KO h1,KO h2,KO h];rfl
theorem cR {c:Ci} {s:Ns} {n:Int} {ws:List Int} (h:ef (·.frm) c n=false):aq c s n ws=(Cj,1):=gF (by rw[h];simp)
def wB (l:List Bool) (q:Nat):Bool:=l.getD q false
def Ig:Option Int→V
 | none=>.nsl
 | some v=>.sl 1 (ab .i64) 0 [v]
def Ea (o:Option Int):List V:=[Ig o]
def tj:Option Int→List Int
 | none=>[]
 | some v=>[v]
theorem He (o:Option Int):(tj o).length≤1:=by cases o<;>simp[tj]
theorem Ih (o:Option Int):yc (Ig o) (.sl 1 (ab .i64) 0 (tj o)):=by
 cases o
 ·exact rfl
 ·simp[Ig,tj,yc]
section
variable {c:Ci} {s:Ns} {w:Nat→Bool} {i k:Nat}
theorem xj (l:List Int) (a b:List Nat):cD (cD l a) b=cD l (a++b):=by simp[cD,Mr]
theorem pM (l:List (Option Int)) (a b:List (Nat×Int)):cr (cr l a) b=cr l (a++b):=by simp[cr,Mr]
theorem nY (ev:List (Nat×Int)):∀(l:List (Option Int)) (n:Nat),(∀e∈ev,e.1≠n)→(cr l ev).getD n none=l.getD n none:=by
 induction ev with
 | nil=>intro l n h;rfl
 | cons e r ih =>
  intro l n h
  show(cr (l.set e.1 _) r).getD n none=_
  rw[ih _ n (fun e' Qm=>h e' (Lc _ Qm))]
  have:=h e (Lg ..)
  simp[List.getD,Ms,this]
theorem xk (ev:List (Nat×Int)):∀(l:List (Option Int)) (n:Nat),n<l.length→l.getD n none=none→((ev.filter (fun e=>e.1==n)).map (·.2)).length≤1→tj ((cr l ev).getD n none)=(ev.filter (fun e=>e.1==n)).map (·.2):=by
 induction ev with
 | nil=>intro l n hn h0 h;show tj (l.getD n none)=_;rw[h0];rfl
 | cons e r ih =>
  intro l n hn h0 h
  show tj ((cr (l.set e.1 (some e.2)) r).getD n none)=_
  by_cases he:e.1=n
  ·have hf:(e::r).filter (fun e=>e.1==n)=e::r.filter (fun e=>e.1==n):=by simp[he]
   rw[hf,LD]at h ⊢
   have hr:r.filter (fun e=>e.1==n)=[]:=by
    simp only[K1,KM]at h
    exact La (by omega)
   rw[hr,nY]
   ·subst he
    simp[List.getD,hn,tj]
   ·intro e' Qm h1
    have:e'∈r.filter (fun e=>e.1==n):=by rw[Mz];exact⟨Qm,by simp[h1]⟩
    rw[hr]at this;cases this
  ·have hf:(e::r).filter (fun e=>e.1==n)=r.filter (fun e=>e.1==n):=by simp[he]
   rw[hf]at h ⊢
   refine ih _ n (by simpa using hn) ?_ h
   have:(l.set e.1 (some e.2)).getD n none=l.getD n none:=by simp[List.getD,Ms,he]
   rw[this];exact h0
theorem BT (hc:bO c) (n:Nat):(fK c s w n).length≤1:=by
 unfold fK;split
 ·exact sf hc n
 ·simp
theorem xl {e:Nat×Int}:∀{P:Nat},e∈mK c s w P→∃p,p<P∧e∈s5 (bD c p) (ax c s p) (bD c p).KA.length
 | 0,h=>by cases h
 | P+1,h=>by
  rw[mK,LL]at h
  rcases h with h | h
  ·obtain⟨p,h1,h2⟩:=xl h;exact⟨p,by omega,h2⟩
  ·split at h
   ·exact⟨P,by omega,h⟩
   ·cases h
theorem BU (hc:bO c) (hi:i<c.U.length) (hk:k<(bD c i).KA.length) {f:Fi} {m:Nat}:(cr (List.replicate m none) (mK c s w i++s5 (bD c i) f k)).getD (uo (bD c i) k) none=none:=by
 rw[nY _ _ _ (fun e he h=>?_)]
 ·exact cY
 ·rcases LL.1 he with he | he
  ·obtain⟨p,h1,h3⟩:=xl he
   have h4:=(Ag hc (show p<c.U.length by omega) (KI _) h3).2
   rw[h]at h4
   have h5:=(hc.pt i hi k hk).2.2.2
   have h6:((p:Nat):Int)=(i:Int):=h4.symm.trans h5
   omega
  ·obtain⟨j,h1,_,h3,_⟩:=nA he
   have:=hc.pd i hi j k (by omega) hk (h3.trans h)
   omega
theorem AA (hc:bO c) {n:Nat} (hn:n<c.J.length):(cD (List.replicate c.J.length 0) (o8 c s w c.U.length)).getD n 0=(gD c s w n:Nat):=by
 rw[w4 _ _ _ (by simpa using hn),cY]
 have h1:=sd (w:=w) (s:=s) hc n (KI _)
 rw[Fy hc]at h1
 split
 ·rename_i hm
  have:=List.count_pos_iff.2 hm
  unfold gD at h1 ⊢
  split at h1
  ·rename_i hh;rw[KT hh];rfl
  ·omega
 ·rename_i hm
  rw[List.count_eq_zero.2 hm]at h1
  rw[← h1];rfl
theorem FM (n:Nat):gD c s w n≤(gS s n).length:=by
 unfold gD;split
 ·rename_i h
  exact BK (ut h.1).2 h.2
 ·omega
theorem FN (hc:bO c) {n:Nat} (hn:n<c.J.length) :
  (gS s n).drop ((cD (List.replicate c.J.length 0) (o8 c s w c.U.length)).getD n 0).toNat++tj ((cr (List.replicate c.J.length none) (mK c s w c.U.length)).getD n none)=gE c s w n:=by
 rw[AA hc hn,Ly,xk]
 ·rw[se hc n (KI _),Ah];rfl
 ·simpa using hn
 ·exact cY
 ·rw[se hc n (KI _),Ah];exact BT hc n
theorem Ii {l:List Bool} (h:¬l.getD i false=true):bh c s (wB l) i=false:=H7 (by show(!l.getD i false)=true;simpa using h)
theorem Hf {l:List Bool} (h:(!(ax c s i).fires)=true):bh c s (wB l) i=false:=G1 (by show(ax c s i).fires=false;simpa using h)
theorem Hg {l:List Bool} (h:l.getD i false=true) (h2:(!(ax c s i).fires)=false):bh c s (wB l) i=true:=G2 (by show(!l.getD i false)=false;rw[h];rfl) (by show(ax c s i).fires=true;simpa using h2)
theorem Eb {n p:Nat} (h:p<n):wB ((List.replicate n false).set p true)=ti (p:Int):=funext fun q=>by
 rw[DS];unfold wB xc
 rw[eM (by simpa using h),cY]
 by_cases e:p=q
 ·rw[KT e,KO e.symm]
 ·rw[KK e,KS (fun h=>e h.symm)]
theorem AB (hs:cA c s) {p:Int} (h:gC c s p=false):b6 c s (ti p)=s:=DL hs (fun q hq=>by
 unfold bh ti
 by_cases e:(q:Int)=p
 ·subst e
  rw[G6 hq]at h
  rw[h,Lw]
 ·rw[KS e,Bool.false_and])
end
theorem FO {c:Ci} {s:Ns} {p:Int} (h:gC c s p=true):0≤p∧p<c.U.length:=by
 unfold gC at h
 simp only[KD,Lu]at h
 exact⟨h.1,h.2.1⟩
end Go.Proofs.Ytgmpoenfoacofaa
