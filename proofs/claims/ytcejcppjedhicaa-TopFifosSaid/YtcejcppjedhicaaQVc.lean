/- Parts of a proof. -/
import Derived.Test.YtcejcppjedhicaaQDr
namespace Go.Proofs.Ytcejcppjedhicaa
open Go.RowKit
set_option linter.unusedVariables false
set_option linter.unusedSimpArgs false
def Gh (st J':St):Prop:=∀(C:jB) (S:Nat→Prop) (μ:Nat→Value) (a:Act) (w:World),aU C S μ st a w→∃S' μ',aU C S' μ' J' a w
structure E6:Type 1 where
 F:St→St×Prop
 ok:∀st,(F st).2→Gh st (F st).1
section
variable {C:jB} {S:Nat→Prop} {μ μ':Nat→Value} {st:St} {a:Act} {w:World}
theorem aU.boxTo2 (h:aU C S μ st a w) {id:Nat} {A B:ak} (hA:st.heap[id]?=some A) (TH:A.live=true) (hB:aG S μ w (μ id) B) (Rc:B.isRo=false:=by rfl):aU C S μ ⟨st.env,st.heap.set id B⟩ a w:=by
 have Qh:id<st.heap.length:=(NL.1 hA).1
 have hg:∀(i:Nat) (X:ak),(st.heap.set id B)[i]?=some X→(i=id∧X=B)∨(i≠id∧st.heap[i]?=some X):=by
  intro i X hX
  by_cases hi:i=id
  ·subst hi
   rw[N0 Qh]at hX
   cases hX
   exact .inl ⟨rfl,rfl⟩
  ·rw[NZ (fun e=>hi e.symm)]at hX
   exact .inr ⟨hi,hX⟩
 have hl:∀(i:Nat) (X:ak),(st.heap.set id B)[i]?=some X→X.live=true→∃Y,st.heap[i]?=some Y∧Y.live=true:=by
  intro i X hX hXl
  rcases hg i X hX with ⟨rfl,rfl⟩ | ⟨_,U9⟩
  ·exact⟨A,hA,TH⟩
  ·exact⟨X,U9,hXl⟩
 refine h.retell (fun t d hm=>⟨d,hm,fun _ h=>h⟩) (fun i X hX=>?_) (fun i X b hX lX hb=>?_) (fun i k X Y b hX hY lX lY=>?_) (fun i X hX lX=>?_)
 ·rcases hg i X hX with ⟨rfl,rfl⟩ | ⟨_,U9⟩
  ·exact hB
  ·exact h.heap.box i X U9
 ·obtain⟨Y,h1,h2⟩:=hl i X hX lX
  exact⟨i,Y,h1,h2,hb⟩
 ·obtain⟨X',q1,q2⟩:=hl i X hX lX
  obtain⟨Y',q3,q4⟩:=hl k Y hY lY
  exact h.heap.apart i k X' Y' b q1 q3 q2 q4
 ·rcases hg i X hX with ⟨rfl,rfl⟩ | ⟨_,U9⟩
  ·rw[Rc]at lX;cases lX
  ·exact⟨U9,rfl⟩
theorem Gh.trans {QR Uq st3:St} (h1:Gh QR Uq) (h2:Gh Uq st3):Gh QR st3:=fun C S μ a w h=>by
 obtain⟨S1,μ1,h'⟩:=h1 C S μ a w h
 exact h2 C S1 μ1 a w h'
theorem Gh.kill (id:Nat) (st:St):Gh st (st.kill id):=fun C S μ a w h=>⟨S,μ,h.kill id⟩
def gn {α:Type} (enc:α→List V) (d:α) (l:List α) (i j:Nat):D:=.v ((enc (l.getD i d)).getD j .nilf)
def Hc (id:Nat) (st:St):St×Prop:=match st.heap[id]? with
 | some (.arr E sz enc d l)=>(⟨st.env,st.heap.set id (.arrD E sz l.length [] (gn enc d l))⟩,True)
 | _=>(st,False)
theorem Ji (id:Nat) (st:St) (hp:(Hc id st).2):Gh st (Hc id st).1:=fun C S μ a w h=>by
 unfold Hc at hp ⊢
 split
 ·rename_i E sz α enc d l hb
  refine⟨S,μ,h.boxTo2 hb rfl ?_⟩
  obtain⟨r0,xs,r1,r2⟩:=h.heap.box id _ hb
  refine⟨fun i j k hi hj _=>rfl,xs,r1,fun i j hi hj=>?_⟩
  have Wi:l[i]?=some (l.getD i d):=by rw[cO _ _ hi];exact NM hi
  have VC:=r0 i _ Wi
  have Ur:j<(enc (l.getD i d)).length:=by omega
  have hy:(enc (l.getD i d))[j]?=some ((enc (l.getD i d)).getD j .nilf):=by
   generalize enc (l.getD i d)=q at Ur ⊢
   rw[Od,NM Ur]
   rfl
  obtain⟨z,hz,hr⟩:=r2 i _ j _ Wi hy
  exact⟨z,hz,hr.one,.v _ _ hr⟩
 ·rename_i hn
  split at hp
  ·rename_i E sz α enc d l hb;exact(hn _ _ _ _ _ _ hb).elim
  ·exact hp.elim
def KU (id:Nat):E6:=⟨Hc id,Ji id⟩
def He (id:Nat) {α:Type} (enc:α→List V) (d:α) (l:List α) (st:St):St×Prop:=match st.heap[id]? with
 | some (.arrD E sz n _ cell)=>(⟨st.env,st.heap.set id (.arr E sz enc d l)⟩,l.length=n∧(∀x∈l,(enc x).length=sz)∧∀i j,i<n→j<sz→cell i j=gn enc d l i j)
 | _=>(st,False)
theorem Jj (id:Nat) {α:Type} (enc:α→List V) (d:α) (l:List α) (st:St) (hp:(He id enc d l st).2):Gh st (He id enc d l st).1:=fun C S μ a w h=>by
 unfold He at hp ⊢
 split
 ·rename_i E sz n gs cell hb
  rw[hb]at hp
  obtain⟨rfl,p1,p2⟩:=hp
  refine⟨S,μ,h.boxTo2 hb rfl ?_⟩
  obtain⟨r0,xs,r1,r2⟩:=h.heap.box id _ hb
  refine⟨fun i x hx=>p1 x (Oh hx),xs,r1,fun i x j y hx hy=>?_⟩
  have hi:=(NL.1 hx).1
  have hj:=(NL.1 hy).1
  rw[p1 x (Oh hx)]at hj
  obtain⟨z,hz,_,hr⟩:=r2 i j hi hj
  rw[p2 i j hi hj]at hr
  have Wi:l.getD i d=x:=by rw[Od,hx];rfl
  unfold gn at hr
  rw[Wi,Od,hy]at hr
  exact⟨z,hz,bg hr⟩
 ·rename_i hn
  split at hp
  ·rename_i E sz n gs cell hb;exact(hn _ _ _ _ _ hb).elim
  ·exact hp.elim
def KV (id:Nat) {α:Type} (enc:α→List V) (d:α) (l:List α):E6:=⟨He id enc d l,Jj id enc d l⟩
def Hf (id n':Nat) (Sy:List Nat) (Qg:Nat→Nat→D) (st:St):St×Prop:=match st.heap[id]? with
 | some (.arrD E sz n gs cell)=>(⟨st.env,st.heap.set id (.arrD E sz n' Sy Qg)⟩,n'=n∧∀i j,i<n'→j<sz→Qg i j=cell i j∧∀k,Sy.all (fun g=>!(Nat.beq g k))=true→(Qg i j).free k=true)
 | _=>(st,False)
theorem Jk (id n':Nat) (Sy:List Nat) (Qg:Nat→Nat→D) (st:St) (hp:(Hf id n' Sy Qg st).2):Gh st (Hf id n' Sy Qg st).1:=fun C S μ a w h=>by
 unfold Hf at hp ⊢
 split
 ·rename_i E sz n gs cell hb
  rw[hb]at hp
  obtain⟨rfl,hp⟩:=hp
  refine⟨S,μ,h.boxTo2 hb rfl ?_⟩
  obtain⟨r0,xs,r1,r2⟩:=h.heap.box id _ hb
  refine⟨fun i j k hi hj hk=>(hp i j hi hj).2 k hk,xs,r1,fun i j hi hj=>?_⟩
  rw[(hp i j hi hj).1]
  exact r2 i j hi hj
 ·rename_i hn
  split at hp
  ·rename_i E sz n gs cell hb;exact(hn _ _ _ _ _ hb).elim
  ·exact hp.elim
def ll (id n':Nat) (Sy:List Nat) (Qg:Nat→Nat→D):E6:=⟨Hf id n' Sy Qg,Jk id n' Sy Qg⟩
def Hg (g m':Nat) (f':Nat→qo) (st:St):St×Prop:=match st.heap[g]? with
 | some (.grp m f)=>(⟨st.env,st.heap.set g (.grp m' f')⟩,m'=m∧∀k,k<m'→f' k=f k)
 | _=>(st,False)
theorem Jl (g m':Nat) (f':Nat→qo) (st:St) (hp:(Hg g m' f' st).2):Gh st (Hg g m' f' st).1:=fun C S μ a w h=>by
 unfold Hg at hp ⊢
 split
 ·rename_i m f hb
  rw[hb]at hp
  obtain⟨rfl,hp⟩:=hp
  refine⟨S,μ,h.boxTo2 hb rfl ?_⟩
  obtain⟨us,h0,h1,h2,h3⟩:=h.heap.box g _ hb
  refine⟨us,h0,h1,fun r v hv=>?_,h3⟩
  have hr:=(NV.1 hv).1
  rw[hp r (by omega)]
  exact h2 r v hv
 ·rename_i hn
  split at hp
  ·rename_i m f hb;exact(hn _ _ hb).elim
  ·exact hp.elim
def IH (g m':Nat) (f':Nat→qo):E6:=⟨Hg g m' f',Jl g m' f'⟩
def B8 (f:Nat→qo) (st:St):St×Prop:=if bv st.heap.length st.env&&aY st.heap.length st.heap then (⟨st.env,st.heap++[.grp 0 f]⟩,True)else (st,False)
theorem Hh (f:Nat→qo) (st:St) (hp:(B8 f st).2):Gh st (B8 f st).1:=fun C S μ a w h=>by
 unfold B8 at hp ⊢
 split
 ·rename_i hc
  simp only[NK]at hc
  have:=h.upd0 (id:=st.heap.length) (B:=.grp 0 f) (row:=none) (u:=.tuple #[]) (oA w) (fun k hk=>by cases hk) (NN _)
   ⟨#[],rfl,rfl,fun r v hv=>by simp at hv,fun r r' v v' b hv=>by simp at hv⟩ (fun b hb=>by
    rcases hb with hb | ⟨us,e,k,x,hk,_⟩
    ·cases hb
    ·cases e;simp at hk) (.inr hc)
  rw[show bh st.heap st.heap.length (.grp 0 f)=st.heap++[.grp 0 f]from by simp[bh]]at this
  exact⟨_,_,this⟩
 ·rename_i hc
  rw[NQ hc]at hp
  exact hp.elim
def Mf (f:Nat→qo):E6:=⟨B8 f,Hh f⟩
def E7 (g r q:Nat) (c c':D):Prop:=(c=.gr g r∧c'=.own q)∨(c'=c∧((∃r',c=.gr g r'∧r'≠r)∨(∃x,c=.v x)∨(c=.nils)∨∃p,c=.own p∧p≠q∧p≠g))
def qo.box (x:qo):ak:=.arr x.E x.sz x.enc x.d x.l
def qM (x:qo):qo:=⟨x.E,x.sz,x.α,x.enc,x.d,[]⟩
def sj (f:Nat→qo) (r:Nat) (x:qo):Nat→qo:=fun i=>if i=r then x else f i
def B9 (a g r:Nat) (Qg:Nat→Nat→D) (st:St):St×Prop:=match st.heap[a]?,st.heap[g]? with
 | some (.arrD E sz n gs cell),some (.grp m f) =>
  if bv st.heap.length st.env&&aY st.heap.length st.heap then
   (⟨kE g st.env,(((bN g st.heap).set a (.arrD E sz n (st.heap.length::gs) Qg)).set g (.grp m (sj f r (qM (f r)))))++[(f r).box]⟩,
    r<m∧∀i j,i<n→j<sz→E7 g r st.heap.length (cell i j) (Qg i j))
  else (st,False)
 | _,_=>(st,False)
theorem E8 (S:Nat→Prop) (w:World) (x:qo):qt S w (.slice none 0 0) (qM x) :=
 ⟨fun i y hy=>(List.not_mem_nil (Oh (show([]:List x.α)[i]?=some y from hy))).elim,[],Pa w 0 _ _,fun i z j y hz=>(List.not_mem_nil (Oh (show([]:List x.α)[i]?=some z from hz))).elim⟩
theorem ai.two {d:D} {u x y:Value} {g q:Nat} (h:ai S μ w d u) (hq:D.free q d=true):ai S (aO (aO μ q x) g y) w (Proofs.Ytcejcppjedhicaa.killD g d) u:=by
 have h1:ai S (aO μ q x) w d u:=h.stable (fun _ h _=>h) (fun _ _ _=>rfl) (NN _) (fun id Qh=>aA _ _ (fun e=>by rw[e,hq]at Qh;cases Qh))
 exact(h1.killD (id:=g)).stable (fun _ h _=>h) (fun _ _ _=>rfl) (NN _) (fun id Qh=>aA _ _ (fun e=>by rw[e,jF]at Qh;cases Qh))
theorem v6 (g:Nat) (B:ak):ak.free g (B.kill g)=true:=by
 have:=jH g [B]
 simp only[bN,aY,PD]at this
 exact this
theorem aG.two {B:ak} {u x y:Value} {g q:Nat} (h:aG S μ w u B) (hq:ak.free q B=true):aG S (aO (aO μ q x) g y) w u (B.kill g):=by
 have h1:aG S (aO μ q x) w u B:=h.stable (fun _ h _=>h) (fun _ _ _=>rfl) (NN _) (fun id Qh=>aA _ _ (fun e=>by rw[e,hq]at Qh;cases Qh)) (fun _ _=>rfl)
 exact(h1.kill (id:=g)).stable (fun _ h _=>h) (fun _ _ _=>rfl) (NN _) (fun id Qh=>aA _ _ (fun e=>by rw[e,v6]at Qh;cases Qh)) (fun _ _=>rfl)
theorem xp {g r:Nat} {u:Value} (h:ai S μ w (.gr g r) u):∃us:Array Value,μ g=.tuple us∧us[r]?=some u∧u.oneCell'=true:=by
 cases h with
 | gr _ _ us _ h1 h2 h3=>exact⟨us,h1,h2,h3⟩
theorem E9 {H:List ak} {g a i:Nat} {A G X B:ak} (ha:a<H.length) (hg:g<H.length) (h:(((bN g H).set a A).set g G++[X])[i]?=some B) :
  (i=H.length∧B=X)∨(i=g∧B=G)∨(i=a∧i≠g∧B=A)∨(i≠H.length∧i≠g∧i≠a∧∃B0,H[i]?=some B0∧B=B0.kill g):=by
 have hl:(((bN g H).set a A).set g G).length=H.length:=by rw[Ok,Ok,bH]
 by_cases hi:i<H.length
 ·rw[NU (by omega)]at h
  refine .inr ?_
  by_cases e1:i=g
  ·subst e1
   rw[N0 (by rw[Ok,bH];exact hg)]at h
   cases h
   exact .inl ⟨rfl,rfl⟩
  ·rw[NZ (fun e=>e1 e.symm)]at h
   refine .inr ?_
   by_cases e2:i=a
   ·subst e2
    rw[N0 (by rw[bH];exact ha)]at h
    cases h
    exact .inl ⟨rfl,e1,rfl⟩
   ·rw[NZ (fun e=>e2 e.symm),dX]at h
    cases hc:H[i]? with
    | none=>rw[hc]at h;cases h
    | some B0=>rw[hc]at h;simp at h;exact .inr ⟨by omega,e1,e2,B0,rfl,h.symm⟩
 ·rw[NX (by omega),hl]at h
  have:i=H.length:=by
   have:=(NL.1 h).1
   simp at this
   omega
  subst this
  simp at h
  exact .inl ⟨rfl,h.symm⟩
theorem Hi (a g r:Nat) (Qg:Nat→Nat→D) (st:St) (hp:(B9 a g r Qg st).2):Gh st (B9 a g r Qg st).1:=fun C S μ act w h=>by
 unfold B9 at hp ⊢
 split
 rotate_left
 ·rename_i hn
  split at hp
  ·rename_i E sz n gs cell m f h1 h2;exact(hn _ _ _ _ _ _ _ h1 h2).elim
  ·exact hp.elim
 rename_i E sz n gs cell m f Sm Rt
 rw[Sm,Rt]at hp
 split
 rotate_left
 ·rename_i hc;simp only at hp;rw[NQ hc]at hp;exact hp.elim
 rename_i hc
 simp only at hp
 rw[NT hc]at hp
 simp only[NK]at hc
 obtain⟨fE,fH⟩:=hc
 obtain⟨hr,Rj⟩:=hp
 generalize hq:st.heap.length=q at *
 have hag:a≠g:=fun e=>by rw[e,Rt]at Sm;cases Sm
 have QG:a<q:=by rw[← hq];exact(NL.1 Sm).1
 have hgl:g<q:=by rw[← hq];exact(NL.1 Rt).1
 obtain⟨us,QF,Qk,QA,SI⟩:=h.heap.box g _ Rt
 obtain⟨a0,xs,a1,a2⟩:=h.heap.box a _ Sm
 have VS:r<us.size:=by omega
 obtain⟨Sf,hRr⟩:=QA r us[r] (N7 VS)
 generalize hv:us[r]=v at *
 have Wj:us[r]?=some v:=by rw[N7 VS,hv]
 let RL:=us.setIfInBounds r (.slice none 0 0)
 have SW:∀k,RL[k]?=if k=r then some (.slice none 0 0)else us[k]?:=by
  intro k
  by_cases hk:k=r
  ·subst hk;rw[NT rfl];simp[RL,VS]
  ·rw[NQ hk];simp only[RL];exact OP (fun e=>hk e.symm)
 have Q4:∀(i:Nat) (B:ak),((((bN g st.heap).set a (.arrD E sz n (q::gs) Qg)).set g (.grp m (sj f r (qM (f r)))))++[(f r).box])[i]?=some B→_:=fun i B hB=>E9 (by rw[hq];exact QG) (by rw[hq];exact hgl) hB
 rw[hq]at Q4
 have mq:aO (aO μ q v) g (.tuple RL) q=v:=by rw[aA _ _ (by omega),ar]
 have mg:aO (aO μ q v) g (.tuple RL) g=.tuple RL:=ar _ _ _
 have mo:∀i,i≠g→i≠q→aO (aO μ q v) g (.tuple RL) i=μ i:=fun i h1 h2=>by rw[aA _ _ h1,aA _ _ h2]
 have own:∀(i:Nat) (B:ak) (b:Nat),((((bN g st.heap).set a (.arrD E sz n (q::gs) Qg)).set g (.grp m (sj f r (qM (f r)))))++[(f r).box])[i]?=some B→B.live=true→bu (aO (aO μ q v) g (.tuple RL) i) b →
   (i=q∧aF v=some b)∨(i=g∧∃k x,k≠r∧us[k]?=some x∧aF x=some b)∨(i≠q∧i≠g∧∃A,st.heap[i]?=some A∧A.live=true∧bu (μ i) b):=by
  intro i B b hB hl hb
  rcases Q4 i B hB with ⟨rfl,rfl⟩ | ⟨rfl,rfl⟩ | ⟨rfl,QI,rfl⟩ | ⟨h1,h2,h3,B0,Q1,rfl⟩
  ·rw[mq]at hb
   exact .inl ⟨rfl,hb.bl Sf⟩
  ·rw[mg]at hb
   rcases hb with hb | ⟨SJ,e,k,x,hk,hx⟩
   ·cases hb
   ·cases e
    rw[SW]at hk
    split at hk
    ·cases hk;cases hx
    ·rename_i hkr;exact .inr (.inl ⟨rfl,k,x,hkr,hk,hx⟩)
  ·rw[mo i QI (by omega)]at hb
   exact .inr (.inr ⟨by omega,QI,_,Sm,rfl,hb⟩)
  ·rw[mo i h2 h1]at hb
   rw[dY]at hl
   exact .inr (.inr ⟨h1,h2,B0,Q1,hl,hb⟩)
 have TK:∀(k:Nat) (x:Value) (b:Nat),us[k]?=some x→aF x=some b→bu (μ g) b:=fun k x b hk hx=>.inr ⟨us,QF,k,x,hk,hx⟩
 refine⟨S,aO (aO μ q v) g (.tuple RL),h.retell ?_ ?_ ?_ ?_ ?_⟩
 ·intro t d hm
  obtain⟨e,he,rfl⟩:=fC hm
  exact⟨e,he,fun u hu=>hu.two (bR fE he)⟩
 ·intro i B hB
  rcases Q4 i B hB with ⟨rfl,rfl⟩ | ⟨rfl,rfl⟩ | ⟨rfl,QI,rfl⟩ | ⟨h1,h2,h3,B0,Q1,rfl⟩
  ·rw[mq];exact hRr
  ·rw[mg]
   refine⟨RL,rfl,by simp[RL,Qk],fun k x hk=>?_,fun k k' x x' b hk QX hx RV=>?_⟩
   ·rw[SW]at hk
    split at hk
    ·rename_i e
     cases hk
     subst e
     refine⟨rfl,?_⟩
     rw[show sj f k (qM (f k)) k=qM (f k)from NT rfl]
     exact E8 S w (f k)
    ·rename_i e
     rw[show sj f r (qM (f r)) k=f k from NQ e]
     exact QA k x hk
   ·rw[SW]at hk QX
    split at hk
    ·cases hk;cases hx
    ·split at QX
     ·cases QX;cases RV
     ·exact SI k k' x x' b hk QX hx RV
  ·rw[mo i QI (by omega)]
   refine⟨fun j k id hj hk Qh=>?_,xs,a1,fun j k hj hk=>?_⟩
   ·simp only[PX,NK]at Qh
    rcases Rj j k hj hk with ⟨_,e⟩ | ⟨e,_⟩
    ·rw[e];exact Qh.1
    ·rw[e];exact a0 j k id hj hk Qh.2
   ·obtain⟨z,hz,ho,hd⟩:=a2 j k hj hk
    refine⟨z,hz,ho,?_⟩
    rcases Rj j k hj hk with ⟨e1,e2⟩ | ⟨e,hc⟩
    ·rw[e1]at hd
     obtain⟨SJ,g1,g2,_⟩:=xp hd
     rw[QF]at g1
     cases g1
     rw[Wj]at g2
     cases g2
     rw[e2]
     have:=ai.own (S:=S) (μ:=aO (aO μ q v) g (.tuple RL)) (w:=w) q
     rwa [mq]at this
    ·rw[e]
     rcases hc with ⟨r',e1,e2⟩ | ⟨x,e1⟩ | e1 | ⟨p,e1,e2,e3⟩
     ·rw[e1]at hd ⊢
      obtain⟨SJ,g1,g2,g3⟩:=xp hd
      rw[QF]at g1
      cases g1
      exact .gr g r' RL z mg (by rw[SW,NQ e2];exact g2) g3
     ·rw[e1]at hd ⊢
      exact .v _ _ (bg hd)
     ·rw[e1]at hd ⊢
      cases hd
      exact .nils
     ·rw[e1]at hd ⊢
      have hu:=bq hd
      have:=ai.own (S:=S) (μ:=aO (aO μ q v) g (.tuple RL)) (w:=w) p
      rw[mo p e3 e2]at this
      rw[hu]
      exact this
  ·rw[mo i h2 h1]
   exact(h.heap.box i B0 Q1).two (bS fH Q1)
 ·intro i B b hB hl hb
  rcases own i B b hB hl hb with ⟨rfl,hv'⟩ | ⟨rfl,k,x,_,hk,hx⟩ | ⟨_,_,A,hA,TH,hb⟩
  ·exact⟨g,_,Rt,rfl,TK r v b Wj hv'⟩
  ·exact⟨i,_,Rt,rfl,TK k x b hk hx⟩
  ·exact⟨i,A,hA,TH,hb⟩
 ·intro i j A B b hA hB lA lB TJ TY
  rcases own i A b hA lA TJ with ⟨rfl,Rm⟩ | ⟨rfl,k,x,hkr,hk,hx⟩ | ⟨n1,n2,A0,hA0,SD,Sz⟩<;>rcases own j B b hB lB TY with ⟨rfl,Sw⟩ | ⟨rfl,k',x',hkr',QX,RV⟩ | ⟨n3,n4,B0,Q1,RQ,RR⟩
  ·rfl
  ·exact(hkr' (SI r k' v x' b Wj QX Rm RV).symm).elim
  ·exact(n4 (h.heap.apart j g B0 _ b Q1 Rt RQ rfl RR (TK r v b Wj Rm))).elim
  ·exact(hkr (SI k r x v b hk Wj hx Sw)).elim
  ·rfl
  ·exact(n4 (h.heap.apart j i B0 _ b Q1 Rt RQ rfl RR (TK k x b hk hx))).elim
  ·exact(n2 (h.heap.apart i g A0 _ b hA0 Rt SD rfl Sz (TK r v b Wj Sw))).elim
  ·exact(n2 (h.heap.apart i j A0 _ b hA0 Rt SD rfl Sz (TK k' x' b QX RV))).elim
  ·exact h.heap.apart i j A0 B0 b hA0 Q1 SD RQ Sz RR
 ·intro i B hB Rc
  rcases Q4 i B hB with ⟨rfl,rfl⟩ | ⟨rfl,rfl⟩ | ⟨rfl,QI,rfl⟩ | ⟨h1,h2,h3,B0,Q1,rfl⟩
  ·cases Rc
  ·cases Rc
  ·cases Rc
  ·rw[mf]at Rc
   rw[show B0.kill g=B0 from by cases B0<;>first | rfl | cases Rc]
   exact⟨Q1,mo i h2 h1⟩
def take (a g r:Nat) (Qg:Nat→Nat→D):E6:=⟨B9 a g r Qg,Hi a g r Qg⟩
def DD (g r q:Nat) (c c':D):Prop:=(c=.own q∧c'=.gr g r)∨(c'=c∧((∃r',c=.gr g r'∧r'≠r)∨(∃x,c=.v x)∨(c=.nils)∨∃p,c=.own p∧p≠q∧p≠g))
def Hj (a g q r m':Nat) (Qg:Nat→Nat→D) (f':Nat→qo) (st:St):St×Prop:=match st.heap[a]?,st.heap[g]?,st.heap[q]? with
 | some (.arrD E sz n gs cell),some (.grp m f),some (.arr E2 Us enc d l) =>
   (⟨kE q (kE g st.env),(((bN q (bN g st.heap)).set a (.arrD E sz n (g::gs) Qg)).set g (.grp m' f')).set q .dead⟩,
    r≤m∧m'=max m (r+1)∧(∀k,k<m'→f' k=if k=r then ⟨E2,Us,_,enc,d,l⟩else f k)∧∀i j,i<n→j<sz→DD g r q (cell i j) (Qg i j))
 | _,_,_=>(st,False)
theorem Fa {H:List ak} {q g a i:Nat} {A G B:ak} (ha:a<H.length) (hg:g<H.length) (hq:q<H.length) (h:((((bN q (bN g H)).set a A).set g G).set q .dead)[i]?=some B) :
  (i=q∧B=.dead)∨(i=g∧i≠q∧B=G)∨(i=a∧i≠g∧i≠q∧B=A)∨(i≠q∧i≠g∧i≠a∧∃B0,H[i]?=some B0∧B=(B0.kill g).kill q):=by
 by_cases e0:i=q
 ·subst e0
  rw[N0 (by simp only[Ok,bH];exact hq)]at h
  cases h
  exact .inl ⟨rfl,rfl⟩
 ·rw[NZ (fun e=>e0 e.symm)]at h
  refine .inr ?_
  by_cases e1:i=g
  ·subst e1
   rw[N0 (by simp only[Ok,bH];exact hg)]at h
   cases h
   exact .inl ⟨rfl,e0,rfl⟩
  ·rw[NZ (fun e=>e1 e.symm)]at h
   refine .inr ?_
   by_cases e2:i=a
   ·subst e2
    rw[N0 (by simp only[bH];exact ha)]at h
    cases h
    exact .inl ⟨rfl,e1,e0,rfl⟩
   ·rw[NZ (fun e=>e2 e.symm),dX,dX]at h
    cases hc:H[i]? with
    | none=>rw[hc]at h;cases h
    | some B0=>rw[hc]at h;simp at h;exact .inr ⟨e0,e1,e2,B0,rfl,h.symm⟩
theorem Jm (a g q r m':Nat) (Qg:Nat→Nat→D) (f':Nat→qo) (st:St) (hp:(Hj a g q r m' Qg f' st).2):Gh st (Hj a g q r m' Qg f' st).1:=fun C S μ act w h=>by
 unfold Hj at hp ⊢
 split
 rotate_left
 ·rename_i hn
  split at hp
  ·rename_i E sz n gs cell m f E2 Us α enc d l h1 h2 h3;exact(hn _ _ _ _ _ _ _ _ _ _ _ _ _ h1 h2 h3).elim
  ·exact hp.elim
 rename_i E sz n gs cell m f E2 Us α enc d l Sm Rt SX
 rw[Sm,Rt,SX]at hp
 obtain⟨hr,rfl,TL,Rj⟩:=hp
 have hag:a≠g:=fun e=>by rw[e,Rt]at Sm;cases Sm
 have haq:a≠q:=fun e=>by rw[e,SX]at Sm;cases Sm
 have hgq:g≠q:=fun e=>by rw[e,SX]at Rt;cases Rt
 have QG:=(NL.1 Sm).1
 have hgl:=(NL.1 Rt).1
 have Ry:=(NL.1 SX).1
 obtain⟨us,QF,Qk,QA,SI⟩:=h.heap.box g _ Rt
 obtain⟨a0,xs,a1,a2⟩:=h.heap.box a _ Sm
 have hB:=h.heap.box q _ SX
 have Sf:(μ q).oneCell'=true:=by
  obtain⟨p',c',hm,_⟩:=bK hB
  rw[hm]
  rfl
 obtain⟨RL,VT,SW⟩:∃RL:Array Value,RL.size=max m (r+1)∧∀k,RL[k]?=if k=r then some (μ q)else us[k]?:=by
  by_cases hrm:r<m
  ·refine⟨us.setIfInBounds r (μ q),by rw[Array.size_setIfInBounds];omega,fun k=>?_⟩
   by_cases hk:k=r
   ·subst hk;rw[NT rfl];simp[Qk,hrm]
   ·rw[NQ hk];exact OP (fun e=>hk e.symm)
  ·refine⟨us.push (μ q),by rw[Array.size_push];omega,fun k=>?_⟩
   have hrm':r=us.size:=by omega
   rw[O3]
   by_cases hk:k=r
   ·rw[NT hk,NT (by omega)]
   ·rw[NQ hk,NQ (by omega)]
 have Q4:∀(i:Nat) (B:ak),((((bN q (bN g st.heap)).set a (.arrD E sz n (g::gs) Qg)).set g (.grp (max m (r+1)) f')).set q .dead)[i]?=some B→_:=fun i B hB=>Fa QG hgl Ry hB
 have mg:aO μ g (.tuple RL) g=.tuple RL:=ar _ _ _
 have mo:∀i,i≠g→aO μ g (.tuple RL) i=μ i:=fun i h1=>aA _ _ h1
 have own:∀(i:Nat) (B:ak) (b:Nat),((((bN q (bN g st.heap)).set a (.arrD E sz n (g::gs) Qg)).set g (.grp (max m (r+1)) f')).set q .dead)[i]?=some B→B.live=true→bu (aO μ g (.tuple RL) i) b →
   (i=g∧aF (μ q)=some b)∨(i=g∧∃k x,k≠r∧us[k]?=some x∧aF x=some b)∨(i≠q∧i≠g∧∃A,st.heap[i]?=some A∧A.live=true∧bu (μ i) b):=by
  intro i B b hB hl hb
  rcases Q4 i B hB with ⟨rfl,rfl⟩ | ⟨rfl,QI,rfl⟩ | ⟨rfl,QI,hne2,rfl⟩ | ⟨h1,h2,h3,B0,Q1,rfl⟩
  ·cases hl
  ·rw[mg]at hb
   rcases hb with hb | ⟨SJ,e,k,x,hk,hx⟩
   ·cases hb
   ·cases e
    rw[SW]at hk
    split at hk
    ·cases hk;exact .inl ⟨rfl,hx⟩
    ·rename_i hkr;exact .inr (.inl ⟨rfl,k,x,hkr,hk,hx⟩)
  ·rw[mo i QI]at hb
   exact .inr (.inr ⟨hne2,QI,_,Sm,rfl,hb⟩)
  ·rw[mo i h2]at hb
   rw[dY,dY]at hl
   exact .inr (.inr ⟨h1,h2,B0,Q1,hl,hb⟩)
 have TK:∀(k:Nat) (x:Value) (b:Nat),us[k]?=some x→aF x=some b→bu (μ g) b:=fun k x b hk hx=>.inr ⟨us,QF,k,x,hk,hx⟩
 refine⟨S,aO μ g (.tuple RL),h.retell ?_ ?_ ?_ ?_ ?_⟩
 ·intro t d hm
  obtain⟨e,he,rfl⟩:=fC hm
  obtain⟨e',TD,rfl⟩:=fC he
  exact⟨e',TD,fun u hu=>((hu.killD (id:=g)).stable (fun _ h _=>h) (fun _ _ _=>rfl) (NN _) (fun id Qh=>aA _ _ (fun e=>by rw[e,jF]at Qh;cases Qh))).killD⟩
 ·intro i B hBi
  rcases Q4 i B hBi with ⟨rfl,rfl⟩ | ⟨rfl,QI,rfl⟩ | ⟨rfl,QI,hne2,rfl⟩ | ⟨h1,h2,h3,B0,Q1,rfl⟩
  ·trivial
  ·rw[mg]
   refine⟨RL,rfl,VT,fun k x hk=>?_,fun k k' x x' b hk QX hx RV=>?_⟩
   ·rw[SW]at hk
    split at hk
    ·rename_i e
     cases hk
     subst e
     refine⟨Sf,?_⟩
     rw[TL k (by omega),NT rfl]
     exact hB
    ·rename_i e
     have RA:=(NV.1 hk).1
     rw[TL k (by omega),NQ e]
     exact QA k x hk
   ·rw[SW]at hk QX
    split at hk
    ·rename_i e1
     split at QX
     ·rename_i e2;rw[e1,e2]
     ·cases hk;exact(hgq (h.heap.apart i q _ _ b Rt SX rfl rfl (TK k' x' b QX RV) (.inl hx))).elim
    ·split at QX
     ·cases QX;exact(hgq (h.heap.apart i q _ _ b Rt SX rfl rfl (TK k x b hk hx) (.inl RV))).elim
     ·exact SI k k' x x' b hk QX hx RV
  ·rw[mo i QI]
   refine⟨fun j k id hj hk Qh=>?_,xs,a1,fun j k hj hk=>?_⟩
   ·simp only[PX,NK]at Qh
    rcases Rj j k hj hk with ⟨_,e⟩ | ⟨e,_⟩
    ·rw[e];exact Qh.1
    ·rw[e];exact a0 j k id hj hk Qh.2
   ·obtain⟨z,hz,ho,hd⟩:=a2 j k hj hk
    refine⟨z,hz,ho,?_⟩
    rcases Rj j k hj hk with ⟨e1,e2⟩ | ⟨e,hc⟩
    ·rw[e1]at hd
     have hu:=bq hd
     rw[e2]
     exact .gr g r RL z mg (by rw[SW,NT rfl,hu]) ho
    ·rw[e]
     rcases hc with ⟨r',e1,e2⟩ | ⟨x,e1⟩ | e1 | ⟨p,e1,e2,e3⟩
     ·rw[e1]at hd ⊢
      obtain⟨SJ,g1,g2,g3⟩:=xp hd
      rw[QF]at g1
      cases g1
      exact .gr g r' RL z mg (by rw[SW,NQ e2];exact g2) g3
     ·rw[e1]at hd ⊢
      exact .v _ _ (bg hd)
     ·rw[e1]at hd ⊢
      cases hd
      exact .nils
     ·rw[e1]at hd ⊢
      have hu:=bq hd
      have:=ai.own (S:=S) (μ:=aO μ g (.tuple RL)) (w:=w) p
      rw[mo p e3]at this
      rw[hu]
      exact this
  ·rw[mo i h2]
   exact(((h.heap.box i B0 Q1).kill (id:=g)).stable (fun _ h _=>h) (fun _ _ _=>rfl) (NN _) (fun id Qh=>aA _ _ (fun e=>by rw[e,v6]at Qh;cases Qh)) (fun _ _=>rfl)).kill
 ·intro i B b hBi hl hb
  rcases own i B b hBi hl hb with ⟨rfl,hv'⟩ | ⟨rfl,k,x,_,hk,hx⟩ | ⟨_,_,A,hA,TH,hb⟩
  ·exact⟨q,_,SX,rfl,.inl hv'⟩
  ·exact⟨i,_,Rt,rfl,TK k x b hk hx⟩
  ·exact⟨i,A,hA,TH,hb⟩
 ·intro i j A B b hA hBj lA lB TJ TY
  rcases own i A b hA lA TJ with ⟨rfl,Rm⟩ | ⟨rfl,k,x,hkr,hk,hx⟩ | ⟨n1,n2,A0,hA0,SD,Sz⟩<;>rcases own j B b hBj lB TY with ⟨rfl,Sw⟩ | ⟨rfl,k',x',hkr',QX,RV⟩ | ⟨n3,n4,B0,Q1,RQ,RR⟩<;>first | rfl | skip
  ·exact(n3 (h.heap.apart j q B0 _ b Q1 SX RQ rfl RR (.inl Rm))).elim
  ·exact(n4 (h.heap.apart j i B0 _ b Q1 Rt RQ rfl RR (TK k x b hk hx))).elim
  ·exact(n1 (h.heap.apart i q A0 _ b hA0 SX SD rfl Sz (.inl Sw))).elim
  ·exact(n2 (h.heap.apart i j A0 _ b hA0 Rt SD rfl Sz (TK k' x' b QX RV))).elim
  ·exact h.heap.apart i j A0 B0 b hA0 Q1 SD RQ Sz RR
 ·intro i B hBi Rc
  rcases Q4 i B hBi with ⟨rfl,rfl⟩ | ⟨rfl,QI,rfl⟩ | ⟨rfl,QI,hne2,rfl⟩ | ⟨h1,h2,h3,B0,Q1,rfl⟩
  ·cases Rc
  ·cases Rc
  ·cases Rc
  ·rw[mf,mf]at Rc
   rw[show(B0.kill g).kill q=B0 from by cases B0<;>first | rfl | cases Rc]
   exact⟨Q1,mo i h2⟩
def put (a g q r m':Nat) (Qg:Nat→Nat→D) (f':Nat→qo):E6:=⟨Hj a g q r m' Qg f',Jm a g q r m' Qg f'⟩
def M0 (a g q:Nat):D→D
 | .own i=>if Nat.beq i a then .gr q 0 else killD g (.own i)
 | d=>killD g (killD a d)
def Mg (a g q:Nat):List (Nat×D)→List (Nat×D)
 | []=>[]
 | (t,d)::r=>(t,M0 a g q d)::Mg a g q r
theorem Ca {a g q:Nat}:∀{env:List (Nat×D)} {t:Nat} {d:D},(t,d)∈Mg a g q env→∃e,(t,e)∈env∧d=M0 a g q e
 | (s,e)::r,t,d,h=>by
  rcases OB.1 h with h | h
  ·cases h;exact⟨e,Oi ..,rfl⟩
  ·obtain⟨e',h1,h2⟩:=Ca h
   exact⟨e',Oe _ h1,h2⟩
def AL (g:Nat) (c:D) (x:Ce):Prop:=(∃r,c=.gr g r∧x=.me r)∨∃y,c=.v y∧x=.v y
def xq (a g:Nat) (ce:Nat→Nat→Ce) (st:St):St×Prop:=match st.heap[a]?,st.heap[g]? with
 | some (.arrD E sz n gs cell),some (.grp m f) =>
  if bv st.heap.length st.env&&aY st.heap.length st.heap then
   (⟨Mg a g st.heap.length st.env,((bN g (bN a st.heap)).set a .dead).set g .dead++[.nest E sz n ce m f]⟩,∀i j,i<n→j<sz→AL g (cell i j) (ce i j))
  else (st,False)
 | _,_=>(st,False)
theorem Fb (a g:Nat) (ce:Nat→Nat→Ce) (st:St) (hp:(xq a g ce st).2):Gh st (xq a g ce st).1:=fun C S μ act w h=>by
 unfold xq at hp ⊢
 split
 rotate_left
 ·rename_i hn
  split at hp
  ·rename_i E sz n gs cell m f h1 h2;exact(hn _ _ _ _ _ _ _ h1 h2).elim
  ·exact hp.elim
 rename_i E sz n gs cell m f Sm Rt
 rw[Sm,Rt]at hp
 split
 rotate_left
 ·rename_i hc;simp only at hp;rw[NQ hc]at hp;exact hp.elim
 rename_i hc
 simp only at hp
 rw[NT hc]at hp
 simp only[NK]at hc
 obtain⟨fE,fH⟩:=hc
 have hag:a≠g:=fun e=>by rw[e,Rt]at Sm;cases Sm
 have QG:=(NL.1 Sm).1
 have hgl:=(NL.1 Rt).1
 obtain⟨us,QF,Qk,QA,SI⟩:=h.heap.box g _ Rt
 obtain⟨a0,xs,a1,a2⟩:=h.heap.box a _ Sm
 have Sf:(μ a).oneCell'=true:=by
  obtain⟨p',c',hm,_⟩:=eH (h.heap.box a _ Sm)
  rw[hm]
  rfl
 let SJ:Array Value:=(μ a::us.toList).toArray
 have g0:SJ[0]?=some (μ a):=by simp[SJ]
 have gS:∀k,SJ[k+1]?=us[k]?:=fun k=>by simp[SJ]
 have mq:aO μ st.heap.length (.tuple SJ) st.heap.length=.tuple SJ:=ar _ _ _
 have mo:∀i,i≠st.heap.length→aO μ st.heap.length (.tuple SJ) i=μ i:=fun i h=>aA _ _ h
 have Q4:∀(i:Nat) (B:ak),(((bN g (bN a st.heap)).set a .dead).set g .dead++[ak.nest E sz n ce m f])[i]?=some B→(i=st.heap.length∧B=.nest E sz n ce m f)∨B=.dead∨(i≠st.heap.length∧i≠a∧i≠g∧∃B0,st.heap[i]?=some B0∧B=(B0.kill a).kill g):=by
  intro i B hB
  have hl:(((bN g (bN a st.heap)).set a .dead).set g ak.dead).length=st.heap.length:=by simp only[Ok,bH]
  by_cases hi:i<st.heap.length
  ·rw[NU (by omega)]at hB
   refine .inr ?_
   by_cases e1:i=g
   ·subst e1
    rw[N0 (by simp only[Ok,bH];exact hgl)]at hB
    cases hB;exact .inl rfl
   ·rw[NZ (fun e=>e1 e.symm)]at hB
    by_cases e2:i=a
    ·subst e2
     rw[N0 (by simp only[bH];exact QG)]at hB
     cases hB;exact .inl rfl
    ·rw[NZ (fun e=>e2 e.symm),dX,dX]at hB
     cases hc:st.heap[i]? with
     | none=>rw[hc]at hB;cases hB
     | some B0=>rw[hc]at hB;simp at hB;exact .inr ⟨by omega,e2,e1,B0,rfl,hB.symm⟩
  ·rw[NX (by omega),hl]at hB
   have:i=st.heap.length:=by
    have:=(NL.1 hB).1
    simp at this
    omega
   subst this
   simp at hB
   exact .inl ⟨rfl,hB.symm⟩
 have inA:∀b,aF (μ a)=some b→bu (μ a) b:=fun b h=>.inl h
 have TK:∀(k:Nat) (x:Value) (b:Nat),us[k]?=some x→aF x=some b→bu (μ g) b:=fun k x b hk hx=>.inr ⟨us,QF,k,x,hk,hx⟩
 have apAG:∀b,bu (μ a) b→bu (μ g) b→False:=fun b h1 h2=>hag (h.heap.apart a g _ _ b Sm Rt rfl rfl h1 h2)
 have own:∀(i:Nat) (B:ak) (b:Nat),(((bN g (bN a st.heap)).set a .dead).set g .dead++[ak.nest E sz n ce m f])[i]?=some B→B.live=true→bu (aO μ st.heap.length (.tuple SJ) i) b →
   (i=st.heap.length∧(bu (μ a) b∨bu (μ g) b))∨(i≠st.heap.length∧i≠a∧i≠g∧∃A,st.heap[i]?=some A∧A.live=true∧bu (μ i) b):=by
  intro i B b hB hl hb
  rcases Q4 i B hB with ⟨rfl,rfl⟩ | rfl | ⟨h1,h2,h3,B0,Q1,rfl⟩
  ·rw[mq]at hb
   refine .inl ⟨rfl,?_⟩
   rcases hb with hb | ⟨us3,e,k,x,hk,hx⟩
   ·cases hb
   ·cases e
    cases k with
    | zero=>rw[g0]at hk;cases hk;exact .inl (inA b hx)
    | succ k=>rw[gS]at hk;exact .inr (TK k x b hk hx)
  ·cases hl
  ·rw[mo i h1]at hb
   rw[dY,dY]at hl
   exact .inr ⟨h1,h2,h3,B0,Q1,hl,hb⟩
 refine⟨S,aO μ st.heap.length (.tuple SJ),h.retell ?_ ?_ ?_ ?_ ?_⟩
 ·intro t d hm
  obtain⟨e,he,rfl⟩:=Ca hm
  refine⟨e,he,fun u hu=>?_⟩
  have QU:∀d:D,D.free st.heap.length d=true→ai S μ w d u→ai S (aO μ st.heap.length (.tuple SJ)) w d u:=fun d hd h=>h.stable (fun _ h _=>h) (fun _ _ _=>rfl) (NN _) (fun id Qh=>mo id (fun e=>by rw[e,hd]at Qh;cases Qh))
  have Rh:=bR fE he
  have key:ai S (aO μ st.heap.length (.tuple SJ)) w (killD g (killD a e)) u:=((QU e Rh hu).killD (id:=a)).killD
  cases e<;>first | exact key | skip
  rename_i i
  show ai S _ w (if Nat.beq i a=true then .gr st.heap.length 0 else killD g (.own i)) u
  split
  ·rename_i hi
   rw[N2]at hi
   subst hi
   have:=bq hu
   subst this
   exact .gr _ 0 SJ _ mq g0 Sf
  ·exact(QU _ Rh hu).killD
 ·intro i B hB
  rcases Q4 i B hB with ⟨rfl,rfl⟩ | rfl | ⟨h1,h2,h3,B0,Q1,rfl⟩
  ·rw[mq]
   refine⟨SJ,rfl,by simp[SJ,Qk],⟨μ a,xs,g0,Sf,a1,fun i j hi hj=>?_⟩,fun r v hv=>?_,fun k k' x x' b hk QX hx RV=>?_⟩
   ·obtain⟨z,hz,ho,hd⟩:=a2 i j hi hj
    refine⟨z,hz,ho,?_⟩
    rcases hp i j hi hj with ⟨r,e1,e2⟩ | ⟨y,e1,e2⟩
    ·rw[e1]at hd
     rw[e2]
     obtain⟨us3,q1,q2,_⟩:=xp hd
     rw[QF]at q1
     cases q1
     show SJ[r+1]?=some z
     rw[gS];exact q2
    ·rw[e1]at hd
     rw[e2]
     exact bg hd
   ·rw[gS]at hv;exact QA r v hv
   ·cases k with
    | zero =>
     rw[g0]at hk;cases hk
     cases k' with
     | zero=>rfl
     | succ k'=>rw[gS]at QX;exact(apAG b (inA b hx) (TK k' x' b QX RV)).elim
    | succ k =>
     rw[gS]at hk
     cases k' with
     | zero=>rw[g0]at QX;cases QX;exact(apAG b (inA b RV) (TK k x b hk hx)).elim
     | succ k'=>rw[gS]at QX;rw[SI k k' x x' b hk QX hx RV]
  ·trivial
  ·rw[mo i h1]
   have Sz:aG S (aO μ st.heap.length (.tuple SJ)) w (μ i) B0:=(h.heap.box i B0 Q1).stable (fun _ h _=>h) (fun _ _ _=>rfl) (NN _) (fun id Qh=>mo id (fun e=>by rw[e,bS fH Q1]at Qh;cases Qh)) (fun _ _=>rfl)
   exact(Sz.kill (id:=a)).kill
 ·intro i B b hB hl hb
  rcases own i B b hB hl hb with ⟨rfl,hb | hb⟩ | ⟨_,_,_,A,hA,TH,hb⟩
  ·exact⟨a,_,Sm,rfl,hb⟩
  ·exact⟨g,_,Rt,rfl,hb⟩
  ·exact⟨i,A,hA,TH,hb⟩
 ·intro i j A B b hA hB lA lB TJ TY
  rcases own i A b hA lA TJ with ⟨rfl,Rm⟩ | ⟨n1,n2,n3,A0,hA0,SD,Sz⟩<;>rcases own j B b hB lB TY with ⟨rfl,Sw⟩ | ⟨n4,n5,n6,B0,Q1,RQ,RR⟩
  ·rfl
  ·rcases Rm with Rm | Rm
   ·exact(n5 (h.heap.apart j a B0 _ b Q1 Sm RQ rfl RR Rm)).elim
   ·exact(n6 (h.heap.apart j g B0 _ b Q1 Rt RQ rfl RR Rm)).elim
  ·rcases Sw with Rm | Rm
   ·exact(n2 (h.heap.apart i a A0 _ b hA0 Sm SD rfl Sz Rm)).elim
   ·exact(n3 (h.heap.apart i g A0 _ b hA0 Rt SD rfl Sz Rm)).elim
  ·exact h.heap.apart i j A0 B0 b hA0 Q1 SD RQ Sz RR
 ·intro i B hB Rc
  rcases Q4 i B hB with ⟨rfl,rfl⟩ | rfl | ⟨h1,h2,h3,B0,Q1,rfl⟩
  ·cases Rc
  ·cases Rc
  ·rw[mf,mf]at Rc
   rw[show(B0.kill a).kill g=B0 from by cases B0<;>first | rfl | cases Rc]
   exact⟨Q1,mo i h1⟩
def KW (a g:Nat) (ce:Nat→Nat→Ce):E6:=⟨xq a g ce,Fb a g ce⟩
mutual
def Fc (q a:Nat):D→D
 | .own i=>if Nat.beq i q then .junk else .own i
 | .ptr i k sz I'=>if Nat.beq i q then .junk else .ptr i k sz I'
 | .gr i r=>if Nat.beq i q then (match r with | 0=>.own a | _+1=>.junk)else .gr i r
 | .yld i=>if Nat.beq i q then .junk else .yld i
 | .agg cs=>.agg (Em q a cs)
 | .tup cs=>.tup (Em q a cs)
 | .fn f x y=>.fn f (Em q a x) (Em q a y)
 | .v y=>.v y
 | .nils=>.nils
 | .iptr cs I'=>.iptr cs I'
 | .capd y=>.capd y
 | .pre i sz sh enc d l=>if Nat.beq i q then .junk else .pre i sz sh enc d l
 | .junk=>.junk
def Em (q a:Nat):List D→List D
 | []=>[]
 | d::r=>Fc q a d::Em q a r
end
def KX (q a:Nat):List (Nat×D)→List (Nat×D)
 | []=>[]
 | (t,d)::r=>(t,Fc q a d)::KX q a r
def II (q a:Nat):ak→ak
 | .var T cs=>.var T (Em q a cs)
 | .loop l tm nt env ps q' bd s p=>.loop l tm nt (KX q a env) ps q' bd s p
 | .frame tm env=>.frame tm (KX q a env)
 | .arrD E sz n gs cell=>if gs.all (fun g=>!(Nat.beq g q))then .arrD E sz n gs cell else .dead
 | .ro E sz enc d l=>.ro E sz enc d l
 | .dead=>.dead
 | .arr E sz enc d l=>.arr E sz enc d l
 | .mpb t ag enc d l=>.mpb t ag enc d l
 | .grp n f=>.grp n f
 | .nest E sz n ce m f=>.nest E sz n ce m f
def Fd (q a:Nat):List ak→List ak
 | []=>[]
 | B::r=>II q a B::Fd q a r
theorem my (q a:Nat):∀(cs:List D) (j:Nat),(Em q a cs)[j]?=(cs[j]?).map (Fc q a)
 | [],j=>by simp[Em]
 | d::r,0=>by simp[Em]
 | d::r,j+1=>by simp[Em,my q a r j]
theorem fN (q a:Nat):∀(cs:List D),(Em q a cs).length=cs.length
 | []=>rfl
 | d::r=>by simp[Em,fN q a r]
theorem Cb (q a:Nat):∀(H:List ak) (j:Nat),(Fd q a H)[j]?=(H[j]?).map (II q a)
 | [],j=>by simp[Fd]
 | d::r,0=>by simp[Fd]
 | d::r,j+1=>by simp[Fd,Cb q a r j]
theorem oH (q a:Nat):∀(H:List ak),(Fd q a H).length=H.length
 | []=>rfl
 | d::r=>by simp[Fd,oH q a r]
theorem sN {q a:Nat}:∀{env:List (Nat×D)} {t:Nat} {d:D},(t,d)∈KX q a env→∃e,(t,e)∈env∧d=Fc q a e
 | (s,e)::r,t,d,h=>by
  rcases OB.1 h with h | h
  ·cases h;exact⟨e,Oi ..,rfl⟩
  ·obtain⟨e',h1,h2⟩:=sN h
   exact⟨e',Oe _ h1,h2⟩
section
variable {q a:Nat} {us:Array Value}
theorem xr {d:D} {u:Value} (h:ai S μ w d u) (hq:μ q=.tuple us) (h0:us[0]?=some (μ' a)) (ho:∀i,i≠q→i≠a→μ' i=μ i) (hf:D.free a d=true):ai S μ' w (Fc q a d) u:=by
 induction h with
 | v y u h=>exact .v y u h
 | nils=>exact .nils
 | own i =>
  unfold Fc
  split
  ·exact .junk _
  ·rename_i hi
   rw[← ho i (fun e=>hi (by rw[e];exact PE q)) (fun e=>by simp[D.free,e]at hf)]
   exact .own i
 | ptr i k sz I' b h =>
  unfold Fc
  split
  ·exact .junk _
  ·rename_i hi
   exact .ptr i k sz I' b (by rw[ho i (fun e=>hi (by rw[e];exact PE q)) (fun e=>by simp[D.free,e]at hf)];exact h)
 | iptr cs I' b o us h1 h2 h3 h4=>exact .iptr cs I' b o us h1 h2 h3 h4
 | yld i l h =>
  unfold Fc
  split
  ·exact .junk _
  ·rename_i hi
   exact .yld i l (by rw[ho i (fun e=>hi (by rw[e];exact PE q)) (fun e=>by simp[D.free,e]at hf)];exact h)
 | capd y p n h=>exact .capd y p n h
 | preA i sz sh enc d l g n c h0 h h2 h3 h4 =>
  unfold Fc
  split
  ·exact .junk _
  ·rename_i hi
   exact .preA i sz sh enc d l g n c h0 (by rw[ho i (fun e=>hi (by rw[e];exact PE q)) (fun e=>by simp[D.free,e]at hf)];exact h) h2 h3 h4
 | preB i sz sh enc d l u h =>
  unfold Fc
  split
  ·exact .junk _
  ·exact .preB i sz sh enc d l u h
 | junk u=>exact .junk u
 | gr i r SJ u h h1 h2 =>
  unfold Fc
  split
  ·rename_i hi
   rw[N2]at hi
   subst hi
   cases r with
   | zero =>
    rw[hq]at h
    cases h
    rw[h0]at h1
    cases h1
    exact .own a
   | succ r=>exact .junk _
  ·rename_i hi
   exact .gr i r SJ u (by rw[ho i (fun e=>hi (by rw[e];exact PE q)) (fun e=>by simp[D.free,e]at hf)];exact h) h1 h2
 | agg cs us h1 _ ih =>
  refine .agg _ us (by rw[fN];exact h1) (fun j y u hy hu=>?_)
  rw[my]at hy
  cases hc:cs[j]? with
  | none=>rw[hc]at hy;cases hy
  | some e=>rw[hc]at hy;simp at hy;subst hy;exact ih j e u hc hu (D.freeL_get (by simpa only [D.free]using hf) hc)
 | tup cs us h1 _ ih =>
  refine .tup _ us (by rw[fN];exact h1) (fun j y u hy hu=>?_)
  rw[my]at hy
  cases hc:cs[j]? with
  | none=>rw[hc]at hy;cases hy
  | some e=>rw[hc]at hy;simp at hy;subst hy;exact ih j e u hc hu (D.freeL_get (by simpa only [D.free]using hf) hc)
 | fn f x y us vs h1 _ h2 _ UR ih2 =>
  simp only[D.free,NK]at hf
  refine .fn f _ _ us vs (by rw[fN];exact h1) (fun j y u hy hu=>?_) (by rw[fN];exact h2) (fun j z u hy hu=>?_)
  ·rw[my]at hy
   cases hc:x[j]? with
   | none=>rw[hc]at hy;cases hy
   | some e=>rw[hc]at hy;simp at hy;subst hy;exact UR j e u hc hu (D.freeL_get hf.1 hc)
  ·rw[my]at hy
   cases hc:y[j]? with
   | none=>rw[hc]at hy;cases hy
   | some e=>rw[hc]at hy;simp at hy;subst hy;exact ih2 j e u hc hu (D.freeL_get hf.2 hc)
theorem Jn {B:ak} {u:Value} (h:aG S μ w u B) (hq:μ q=.tuple us) (h0:us[0]?=some (μ' a)) (ho:∀i,i≠q→i≠a→μ' i=μ i) (hf:ak.free a B=true):aG S μ' w u (II q a B):=by
 cases B with
 | dead=>trivial
 | arr E sz enc d l=>exact h
 | ro E sz enc d l=>exact h
 | grp n f=>exact h
 | nest E sz n ce m f=>exact h
 | mpb t ag enc d l=>exact h.stable (fun _ h _=>h) (fun _ _ _=>rfl) (NN _) (fun id Qh=>by cases Qh) (fun _ _=>rfl)
 | arrD E sz n gs cell =>
  simp only[II]
  split
  ·rename_i hg
   refine h.stable (fun _ h _=>h) (fun _ _ _=>rfl) (NN _) (fun id Qh=>ho id (fun e=>?_) (fun e=>?_)) (fun _ _=>rfl)
   ·rw[e]at Qh;simp only[ak.free]at Qh;rw[hg]at Qh;cases Qh
   ·rw[e,hf]at Qh;cases Qh
  ·trivial
 | var T cs =>
  obtain⟨b,vs,e,q1,q2,q3⟩:=h
  refine⟨b,vs,e,q1,by rw[fN];exact q2,fun j y z hy hz=>?_⟩
  rw[my]at hy
  cases hc:cs[j]? with
  | none=>rw[hc]at hy;cases hy
  | some y'=>rw[hc]at hy;simp at hy;subst hy;exact xr (q3 j y' z hc hz) hq h0 ho (D.freeL_get (by simpa only [ak.free]using hf) hc)
 | loop l tm nt env ps q' bd s pe =>
  obtain⟨r,h0',h1,h2,h3,h4,h5,h6,h7,h8,h9⟩:=h
  refine⟨r,h0',h1,h2,h3,h4,h5,h6,h7,h8,fun t e hm=>?_⟩
  obtain⟨e',k1,rfl⟩:=sN hm
  exact⟨(h9 t e' k1).1,xr (h9 t e' k1).2 hq h0 ho (bR (by simpa only [ak.free]using hf) k1)⟩
 | frame tm env =>
  obtain⟨h1,h9⟩:=h
  refine⟨h1,fun t e hm=>?_⟩
  obtain⟨e',k1,rfl⟩:=sN hm
  exact⟨(h9 t e' k1).1,xr (h9 t e' k1).2 hq h0 ho (bR (by simpa only [ak.free]using hf) k1)⟩
end
def IJ (q:Nat):Ce→D
 | .v x=>.v x
 | .me r=>.gr q r
def Cc (q:Nat) (st:St):St×Prop:=match st.heap[q]? with
 | some (.nest E sz n ce m f)=>if bv st.heap.length st.env&&aY st.heap.length st.heap then
   (⟨KX q st.heap.length st.env,(Fd q st.heap.length st.heap).set q (.grp m f)++[.arrD E sz n [q] (fun i j=>IJ q (ce i j))]⟩,True)
  else (st,False)
 | _=>(st,False)
theorem Hk (q:Nat) (st:St) (hp:(Cc q st).2):Gh st (Cc q st).1:=fun C S μ act w h=>by
 unfold Cc at hp ⊢
 split
 rotate_left
 ·rename_i hn
  split at hp
  ·rename_i E sz n ce m f h1;exact(hn _ _ _ _ _ _ h1).elim
  ·exact hp.elim
 rename_i E sz n ce m f SX
 rw[SX]at hp
 split
 rotate_left
 ·rename_i hc;simp only at hp;rw[NQ hc]at hp;exact hp.elim
 rename_i hc
 simp only[NK]at hc
 obtain⟨fE,fH⟩:=hc
 have Ry:=(NL.1 SX).1
 obtain⟨us,QF,Qk,⟨v0,xs,g0,gone,gr,gc⟩,QA,SI⟩:=h.heap.box q _ SX
 obtain⟨vs,Rr⟩:∃vs:Array Value,vs.size=m∧∀k,vs[k]?=us[k+1]?:=⟨us.toList.tail.toArray,by simp;omega,fun k=>by simp⟩
 obtain⟨hvl,Rr⟩:=Rr
 let μ':=aO (aO μ st.heap.length v0) q (.tuple vs)
 have mq:μ' q=.tuple vs:=ar _ _ _
 have ma:μ' st.heap.length=v0:=by show aO _ _ _ _=_;rw[aA _ _ (by omega),ar]
 have mo:∀i,i≠q→i≠st.heap.length→μ' i=μ i:=fun i h1 h2=>by show aO _ _ _ _=_;rw[aA _ _ h1,aA _ _ h2]
 have h0:us[0]?=some (μ' st.heap.length):=by rw[ma];exact g0
 have Q4:∀(i:Nat) (B:ak),((Fd q st.heap.length st.heap).set q (.grp m f)++[ak.arrD E sz n [q] (fun i j=>IJ q (ce i j))])[i]?=some B→(i=st.heap.length∧B=.arrD E sz n [q] (fun i j=>IJ q (ce i j)))∨(i=q∧B=.grp m f)∨(i≠st.heap.length∧i≠q∧∃B0,st.heap[i]?=some B0∧B=II q st.heap.length B0):=by
  intro i B hB
  have hl:((Fd q st.heap.length st.heap).set q (ak.grp m f)).length=st.heap.length:=by simp only[Ok,oH]
  by_cases hi:i<st.heap.length
  ·rw[NU (by omega)]at hB
   refine .inr ?_
   by_cases e1:i=q
   ·subst e1
    rw[N0 (by simp only[oH];exact Ry)]at hB
    cases hB;exact .inl ⟨rfl,rfl⟩
   ·rw[NZ (fun e=>e1 e.symm),Cb]at hB
    cases hc:st.heap[i]? with
    | none=>rw[hc]at hB;cases hB
    | some B0=>rw[hc]at hB;simp at hB;exact .inr ⟨by omega,e1,B0,rfl,hB.symm⟩
  ·rw[NX (by omega),hl]at hB
   have:i=st.heap.length:=by
    have:=(NL.1 hB).1
    simp at this
    omega
   subst this
   simp at hB
   exact .inl ⟨rfl,hB.symm⟩
 have inQ:∀(k:Nat) (x:Value) (b:Nat),us[k]?=some x→aF x=some b→bu (μ q) b:=fun k x b hk hx=>.inr ⟨us,QF,k,x,hk,hx⟩
 have opl:∀B:ak,(II q st.heap.length B).live=true→B.live=true:=by
  intro B hB
  cases B<;>first | exact hB | rfl
 have own:∀(i:Nat) (B:ak) (b:Nat),((Fd q st.heap.length st.heap).set q (.grp m f)++[ak.arrD E sz n [q] (fun i j=>IJ q (ce i j))])[i]?=some B→B.live=true→bu (μ' i) b →
   (i=st.heap.length∧aF v0=some b)∨(i=q∧∃k x,us[k+1]?=some x∧aF x=some b)∨(i≠st.heap.length∧i≠q∧∃A,st.heap[i]?=some A∧A.live=true∧bu (μ i) b):=by
  intro i B b hB hl hb
  rcases Q4 i B hB with ⟨rfl,rfl⟩ | ⟨rfl,rfl⟩ | ⟨h1,h2,B0,Q1,rfl⟩
  ·rw[ma]at hb;exact .inl ⟨rfl,hb.bl gone⟩
  ·rw[mq]at hb
   rcases hb with hb | ⟨us3,e,k,x,hk,hx⟩
   ·cases hb
   ·cases e;rw[Rr]at hk;exact .inr (.inl ⟨rfl,k,x,hk,hx⟩)
  ·rw[mo i h2 h1]at hb
   exact .inr (.inr ⟨h1,h2,B0,Q1,opl B0 hl,hb⟩)
 refine⟨S,μ',h.retell ?_ ?_ ?_ ?_ ?_⟩
 ·intro t d hm
  obtain⟨e,he,rfl⟩:=sN hm
  exact⟨e,he,fun u hu=>xr hu QF h0 mo (bR fE he)⟩
 ·intro i B hB
  rcases Q4 i B hB with ⟨rfl,rfl⟩ | ⟨rfl,rfl⟩ | ⟨h1,h2,B0,Q1,rfl⟩
  ·rw[ma]
   refine⟨fun i j id hi hj Qh=>?_,xs,gr,fun i j hi hj=>?_⟩
   ·show D.free id (IJ q (ce i j))=true
    cases hc:ce i j with
    | v x=>rfl
    | me r=>simpa[IJ,D.free]using Qh
   ·obtain⟨z,hz,ho,hr⟩:=gc i j hi hj
    refine⟨z,hz,ho,?_⟩
    show ai S μ' w (IJ q (ce i j)) z
    cases hc:ce i j with
    | v x=>rw[hc]at hr;exact .v _ _ hr
    | me r=>rw[hc]at hr;exact .gr q r vs z mq (by rw[Rr];exact hr) ho
  ·rw[mq]
   exact⟨vs,rfl,hvl,fun r v hv=>QA r v (by rw[← Rr];exact hv),fun r r' v v' b hr hr' hb QJ=>by
    rw[Rr]at hr hr'
    have:=SI (r+1) (r'+1) v v' b hr hr' hb QJ
    omega⟩
  ·rw[mo i h2 h1]
   exact Jn (h.heap.box i B0 Q1) QF h0 mo (bS fH Q1)
 ·intro i B b hB hl hb
  rcases own i B b hB hl hb with ⟨rfl,hv⟩ | ⟨rfl,k,x,hk,hx⟩ | ⟨_,_,A,hA,TH,hb⟩
  ·exact⟨q,_,SX,rfl,inQ 0 v0 b g0 hv⟩
  ·exact⟨i,_,SX,rfl,inQ (k+1) x b hk hx⟩
  ·exact⟨i,A,hA,TH,hb⟩
 ·intro i j A B b hA hB lA lB TJ TY
  rcases own i A b hA lA TJ with ⟨rfl,Rm⟩ | ⟨rfl,k,x,hk,hx⟩ | ⟨n1,n2,A0,hA0,SD,Sz⟩<;>rcases own j B b hB lB TY with ⟨rfl,Sw⟩ | ⟨rfl,k',x',QX,RV⟩ | ⟨n4,n5,B0,Q1,RQ,RR⟩<;>first | rfl | skip
  ·have:=SI 0 (k'+1) v0 x' b g0 QX Rm RV;omega
  ·exact(n5 (h.heap.apart j q B0 _ b Q1 SX RQ rfl RR (inQ 0 v0 b g0 Rm))).elim
  ·have:=SI (k+1) 0 x v0 b hk g0 hx Sw;omega
  ·exact(n5 (h.heap.apart j i B0 _ b Q1 SX RQ rfl RR (inQ (k+1) x b hk hx))).elim
  ·exact(n2 (h.heap.apart i q A0 _ b hA0 SX SD rfl Sz (inQ 0 v0 b g0 Sw))).elim
  ·exact(n2 (h.heap.apart i j A0 _ b hA0 SX SD rfl Sz (inQ (k'+1) x' b QX RV))).elim
  ·exact h.heap.apart i j A0 B0 b hA0 Q1 SD RQ Sz RR
 ·intro i B hB Rc
  rcases Q4 i B hB with ⟨rfl,rfl⟩ | ⟨rfl,rfl⟩ | ⟨h1,h2,B0,Q1,rfl⟩
  ·cases Rc
  ·cases Rc
  ·have:II q st.heap.length B0=B0:=by
    cases B0<;>first | rfl | (cases Rc;done) | (simp only[II]at Rc;split at Rc<;>cases Rc)
   rw[this]
   exact⟨Q1,mo i h2 h1⟩
def KY (q:Nat):E6:=⟨Cc q,Hk q⟩
def Mh (j i:Nat) (d:D):D:=if D.free i d&&D.free j d then d else match d with
 | .ptr k a b c=>if Nat.beq k j then .ptr i a b c else .junk
 | _=>.junk
def Mi (j i:Nat):List (Nat×D)→List (Nat×D)
 | []=>[]
 | (t,d)::r=>(t,Mh j i d)::Mi j i r
theorem Cd {j i:Nat}:∀{env:List (Nat×D)} {t:Nat} {d:D},(t,d)∈Mi j i env→∃e,(t,e)∈env∧d=Mh j i e
 | (s,e)::r,t,d,h=>by
  rcases OB.1 h with h | h
  ·cases h;exact⟨e,Oi ..,rfl⟩
  ·obtain⟨e',h1,h2⟩:=Cd h
   exact⟨e',Oe _ h1,h2⟩
def Hl (j i:Nat) (st:St):St×Prop:=match st.heap[j]? with
 | some (.var T cs)=>if aY i st.heap&&aY j st.heap&&!(Nat.beq i j)&&Nat.blt i st.heap.length then (⟨Mi j i st.env,(st.heap.set i (.var T cs)).set j .dead⟩,True)else (st,False)
 | _=>(st,False)
theorem Jo (j i:Nat) (st:St) (hp:(Hl j i st).2):Gh st (Hl j i st).1:=fun C S μ a w h=>by
 unfold Hl at hp ⊢
 split
 rotate_left
 ·rename_i hn
  split at hp
  ·rename_i T cs h1;exact(hn _ _ h1).elim
  ·exact hp.elim
 rename_i T cs TY
 rw[TY]at hp
 split
 rotate_left
 ·rename_i hc;simp only at hp;rw[NQ hc]at hp;exact hp.elim
 rename_i hc
 simp only[NK,Oc,PA]at hc
 obtain⟨⟨⟨f1,f2⟩,QI⟩,UF⟩:=hc
 have VD:i≠j:=fun e=>by subst e;rw[PE]at QI;cases QI
 have Th:j<st.heap.length:=(NL.1 TY).1
 have Q4:∀(k:Nat) (B:ak),((st.heap.set i (.var T cs)).set j .dead)[k]?=some B→(k=j∧B=.dead)∨(k=i∧k≠j∧B=.var T cs)∨(k≠i∧k≠j∧st.heap[k]?=some B):=by
  intro k B hB
  by_cases e1:k=j
  ·subst e1;rw[N0 (by rw[Ok];exact Th)]at hB;cases hB;exact .inl ⟨rfl,rfl⟩
  ·rw[NZ (PN e1)]at hB
   by_cases e2:k=i
   ·subst e2;rw[N0 UF]at hB;cases hB;exact .inr (.inl ⟨rfl,e1,rfl⟩)
   ·rw[NZ (PN e2)]at hB;exact .inr (.inr ⟨e2,e1,hB⟩)
 have mo:∀k,k≠i→aO μ i (μ j) k=μ k:=fun k hk=>aA _ _ hk
 refine⟨S,aO μ i (μ j),h.retell ?_ ?_ ?_ ?_ ?_⟩
 ·intro t d hm
  obtain⟨e,he,rfl⟩:=Cd hm
  refine⟨e,he,fun u hu=>?_⟩
  unfold Mh
  split
  ·rename_i hf
   simp only[NK]at hf
   exact hu.stable (fun _ h _=>h) (fun _ _ _=>rfl) (NN _) (fun id Qh=>mo id (fun e=>by rw[e,hf.1]at Qh;cases Qh))
  ·split
   ·rename_i k a' b c
    split
    ·rename_i hk
     rw[N2]at hk
     subst hk
     cases hu with
     | ptr _ _ _ _ b' hb=>exact .ptr i _ _ _ b' (by rw[ar];exact hb)
    ·exact .junk _
   ·exact .junk _
 ·intro k B hB
  rcases Q4 k B hB with ⟨rfl,rfl⟩ | ⟨rfl,Wg,rfl⟩ | ⟨h1,h2,h3⟩
  ·exact trivial
  ·rw[ar]
   exact(h.heap.box j _ TY).stable (fun _ h _=>h) (fun _ _ _=>rfl) (NN _) (fun id Qh=>mo id (fun e=>by rw[e,bS f1 TY]at Qh;cases Qh)) (fun _ _=>rfl)
  ·rw[mo k h1]
   exact(h.heap.box k B h3).stable (fun _ h _=>h) (fun _ _ _=>rfl) (NN _) (fun id Qh=>mo id (fun e=>by rw[e,bS f1 h3]at Qh;cases Qh)) (fun _ _=>rfl)
 ·intro k B b hB hl hb
  rcases Q4 k B hB with ⟨rfl,rfl⟩ | ⟨rfl,Wg,rfl⟩ | ⟨h1,h2,h3⟩
  ·cases hl
  ·rw[ar]at hb;exact⟨j,_,TY,rfl,hb⟩
  ·rw[mo k h1]at hb;exact⟨k,B,h3,hl,hb⟩
 ·intro k l A B b hA hB lA lB RF Tr
  rcases Q4 k A hA with ⟨rfl,rfl⟩ | ⟨rfl,Wg,rfl⟩ | ⟨h1,h2,h3⟩
  ·cases lA
  ·rcases Q4 l B hB with ⟨rfl,rfl⟩ | ⟨rfl,hlj,rfl⟩ | ⟨q1,q2,q3⟩
   ·cases lB
   ·rfl
   ·rw[ar]at RF
    rw[mo l q1]at Tr
    exact(q2 (h.heap.apart j l _ B b TY q3 rfl lB RF Tr).symm).elim
  ·rw[mo k h1]at RF
   rcases Q4 l B hB with ⟨rfl,rfl⟩ | ⟨rfl,hlj,rfl⟩ | ⟨q1,q2,q3⟩
   ·cases lB
   ·rw[ar]at Tr
    exact(h2 (h.heap.apart k j A _ b h3 TY lA rfl RF Tr)).elim
   ·rw[mo l q1]at Tr
    exact h.heap.apart k l A B b h3 q3 lA lB RF Tr
 ·intro k B hB Rc
  rcases Q4 k B hB with ⟨rfl,rfl⟩ | ⟨rfl,Wg,rfl⟩ | ⟨h1,h2,h3⟩
  ·cases Rc
  ·cases Rc
  ·exact⟨h3,mo k h1⟩
def M4 (j i:Nat):E6:=⟨Hl j i,Jo j i⟩
theorem mz {α:Type} {enc:α→List V} {d:α} {l l':List α} {sz:Nat} (h:l'=l) (hs:∀x,(enc x).length=sz):l'.length=l.length∧(∀x∈l',(enc x).length=sz)∧∀i j,i<l.length→j<sz→gn enc d l i j=gn enc d l' i j:=by
 subst h;exact⟨rfl,fun x _=>hs x,fun _ _ _ _=>rfl⟩
end
structure Lp (σ:Type):Type 1 where
 make ::
 keep:List Nat
 n:Nat
 all:(σ→Prop)→Prop
 hall:∀P,all P→∀s,P s
 mk:σ→St
 inv:σ→Prop
 m:σ→Nat
abbrev lm {α:Type} (keep:List Nat) (n:Nat) (mk:α→St) (inv:α→Prop) (m:α→Nat):Lp α:=⟨keep,n,fun P=>∀a,P a,fun _ h=>h,mk,inv,m⟩
abbrev yP {α β:Type} (keep:List Nat) (n:Nat) (mk:α→β→St) (inv:α→β→Prop) (m:α→β→Nat):Lp (α×β) :=
 ⟨keep,n,fun P=>∀a b,P (a,b),fun _ h ⟨a,b⟩=>h a b,fun | (a,b)=>mk a b,fun | (a,b)=>inv a b,fun | (a,b)=>m a b⟩
abbrev Hm {α β γ:Type} (keep:List Nat) (n:Nat) (mk:α→β→γ→St) (inv:α→β→γ→Prop) (m:α→β→γ→Nat):Lp (α×β×γ) :=
 ⟨keep,n,fun P=>∀a b c,P (a,b,c),fun _ h ⟨a,b,c⟩=>h a b c,fun | (a,b,c)=>mk a b c,fun | (a,b,c)=>inv a b c,fun | (a,b,c)=>m a b c⟩
abbrev M5 {α β γ δ:Type} (keep:List Nat) (n:Nat) (mk:α→β→γ→δ→St) (inv:α→β→γ→δ→Prop) (m:α→β→γ→δ→Nat):Lp (α×β×γ×δ) :=
 ⟨keep,n,fun P=>∀a b c d,P (a,b,c,d),fun _ h ⟨a,b,c,d⟩=>h a b c d,fun | (a,b,c,d)=>mk a b c d,fun | (a,b,c,d)=>inv a b c d,fun | (a,b,c,d)=>m a b c d⟩
def Lp.ag {σ:Type} (L:Lp σ) (s:σ) (st:St):Prop:=∃s',st=L.mk s'∧L.inv s'∧L.m s'<L.m s
def Lp.at {σ:Type} (L:Lp σ) (st:St):Prop:=∃s',st=L.mk s'∧L.inv s'
inductive bk:Type 1
 | e
 | w (id:Nat) (o:List (Nat×Ov)) (h:bk)
 | q (id:Nat) (keep:List Nat) (n:Nat) (h:bk)
 | f (id b:Nat) (h:bk)
 | g (id i j E sz:Nat) {α:Type} (enc:α→List V) (d:α) (h:bk)
 | gs (id t E sz:Nat) {α:Type} (enc:α→List V) (d:α) (h:bk)
 | mv (id j i:Nat) (h:bk)
 | s (id:Nat) (P:Prop) (x y:bk)
 | y (id:Nat) (o:List (Nat×Ov)) (tab:sK) (h:bk)
 | c (t:Nat) (P:Prop) [i:Decidable P] (x y:bk)
 | n (t:Nat) (P:Prop) [i:Decidable P] (x y:bk)
 | b (t:Nat) (x y:bk)
 | t (t:Nat) (x:bk)
 | u (t:Nat) (x:bk)
 | l {σ:Type} (L:Lp σ) (s0:σ) (h:σ→bk)
 | r (n:Nat) (h:bk)
 | k (id:Nat) {σ:Type} (L:Lp σ) (x:bk) (h:σ→bk)
 | rg (e:Exit) (st:St) (h:bk)
 | gh (id:Nat) (F:E6) (h:bk)
def KZ (o:Oper):Bool:=match o.op with
 | .store _ _ _=>true
 | .call ⟨.builtin .append,_,_⟩=>true
 | .call ⟨.builtin .copy,_,_⟩=>true
 | _=>false
def K0:Ov→Bool
 | .inl _ _ _=>true
 | .inls _=>true
 | .yld _ _ _=>true
 | _=>false
def K1:Ov→Bool
 | .app _ _ _ _ _ _=>true
 | _=>false
def K2:Ov→Bool
 | .val .junk=>true
 | _=>false
def px (Qs:List (Nat×Ov)):List Nat→Nat→List Oper→Nat
 | _,_,[]=>0
 | rd,i,o::r=>if (KZ o&&!(K1 (ld Qs i)||K2 (ld Qs i)))||K0 (ld Qs i)||(match o.dst with | some t=>rd.any (fun s=>Nat.beq t s) | none=>false)then 0 else px Qs (EP o.op++rd) (i+1) r+1
def Hn (P:Program) (nt:Nat) (ops:List Oper) (Qs:List (Nat×Ov)) (tab:sK) (st:St) (k:St→Prop):Prop :=
 match P.follows .mixedOrders&&ops.all (fun o=>!cH o),eL tab (List.replicate ops.length false),eL tab (List.replicate ops.length true)with
 | true,some RX,some QR=>tK st RX=RX∧DA P nt ops Qs tab tab∧nS QR k
 | _,_,_=>False
def pre (id:Nat):bk→St→(List (Nat×Ov)→Option sK→bk→St→Prop)→Prop
 | .w i o h,st,k=>match Nat.beq i id with
  | true=>k o none h st
  | false=>k [] none (.w i o h) st
 | .y i o t h,st,k=>match Nat.beq i id with
  | true=>k o (some t) h st
  | false=>k [] none (.y i o t h) st
 | .q i kp n h,st,k=>match Nat.beq i id with
  | true=>nS (keepS kp n st) (fun J'=>pre id h J' k)
  | false=>k [] none (.q i kp n h) st
 | .f i b h,st,k=>match Nat.beq i id with
  | true=>match mi b st with
   | some J'=>nS J' (fun J'=>pre id h J' k)
   | none=>False
  | false=>k [] none (.f i b h) st
 | .g i a j E sz enc d h,st,k=>match Nat.beq i id with
  | true=>match Az a j E sz enc d st with
   | some J'=>nS J' (fun J'=>pre id h J' k)
   | none=>False
  | false=>k [] none (.g i a j E sz enc d h) st
 | .gs i t E sz enc d h,st,k=>match Nat.beq i id with
  | true=>match adoptE t E sz enc d st with
   | some J'=>nS J' (fun J'=>pre id h J' k)
   | none=>False
  | false=>k [] none (.gs i t E sz enc d h) st
 | .mv i j a h,st,k=>match Nat.beq i id with
  | true=>match BU j a st with
   | some J'=>nS J' (fun J'=>pre id h J' k)
   | none=>False
  | false=>k [] none (.mv i j a h) st
 | .gh i F h,st,k=>match Nat.beq i id with
  | true=>(F.F st).2∧nS (F.F st).1 (fun J'=>pre id h J' k)
  | false=>k [] none (.gh i F h) st
 | .s i P x y,st,k=>match Nat.beq i id with
  | true=>(P→pre id x st k)∧(¬P→pre id y st k)
  | false=>k [] none (.s i P x y) st
 | h,st,k=>k [] none h st
def K3:Operand→Nat
 | .tmp t=>t+1
 | _=>0
def tW (t:Nat) (b:Bool) (X Y:bk→Prop):bk→Prop
 | @bk.c t' P i x y=>match Nat.beq (t'+1) t with
  | true=>b=@decide P i∧(P→X x)∧(¬P→Y y)
  | false=>match b with | true=>X (@bk.c t' P i x y) | false=>Y (@bk.c t' P i x y)
 | @bk.n t' P i x y=>match Nat.beq (t'+1) t with
  | true=>b=(!@decide P i)∧(¬P→X x)∧(P→Y y)
  | false=>match b with | true=>X (@bk.n t' P i x y) | false=>Y (@bk.n t' P i x y)
 | .b t' x y=>match Nat.beq (t'+1) t with
  | true=>(b=true→X x)∧(b=false→Y y)
  | false=>match b with | true=>X (.b t' x y) | false=>Y (.b t' x y)
 | .t t' x=>match Nat.beq (t'+1) t with
  | true=>b=true∧X x
  | false=>match b with | true=>X (.t t' x) | false=>Y (.t t' x)
 | .u t' x=>match Nat.beq (t'+1) t with
  | true=>b=false∧Y x
  | false=>match b with | true=>X (.u t' x) | false=>Y (.u t' x)
 | h=>match b with | true=>X h | false=>Y h
def Fe:Code→Option Nat
 | .region id _ _=>some id
 | .seq a _=>Fe a
 | .block _ a=>Fe a
 | .loop a=>Fe a
 | .cond _ a _=>Fe a
 | _=>none
def K4 (x:Code):bk→Bool
 | .k id _ _ _=>match Fe x with | some i=>Nat.beq i id | none=>false
 | _=>false
@[reducible] def kSeq (n:bk→St→Prop) (K:bk→Exit→St→Prop) (h:bk) (e:Exit) (st:St):Prop:=match e with
 | .normal=>n h st
 | e=>K h e st
@[reducible] def kBlock (id:Nat) (K:bk→Exit→St→Prop) (h:bk) (e:Exit) (st:St):Prop:=match e with
 | .exit i=>match Nat.beq i id with | true=>K h .normal st | false=>K h (.exit i) st
 | e=>K h e st
def Ho (body:(bk→Exit→St→Prop)→bk→St→Prop) (K:bk→Exit→St→Prop):Nat→bk→St→Prop
 | 0,_,_=>False
 | n+1,h,st=>body (fun h' e J'=>match e with | .normal=>Ho body K n h' J' | e=>K h' e J') h st
def py (P:Program) (nt:Nat) (c:Code) (st:St) (e:Exit) (J':St):Prop:=∀C:jB,C.P=P→C.nt=nt→C.rd=none→Ev C c (fun e1 QR=>e1=e∧QR=J') st
def AM (o:List (Nat×Ov)):Option (List Nat):=match ld o 999 with
 | .cells π _=>some π
 | _=>none
def Hp:Code→Bool
 | .seq a b=>Hp a&&Hp b
 | .cond _ a b=>Hp a&&Hp b
 | .block _ a=>Hp a
 | .loop a=>Hp a
 | .rangeFunc _ _ _ _=>false
 | _=>true
def vc (P:Program) (nt:Nat):Code→(bk→Exit→St→Prop)→bk→St→Prop
 | .skip,K,h,st=>K h .normal st
 | .label _,K,h,st=>K h .normal st
 | .exit i,K,h,st=>K h (.exit i) st
 | .ret,K,h,st=>K h .ret st
 | .seq x y,K,h,st=>match K4 x h with
  | false=>vc P nt x (kSeq (vc P nt y K) K) h st
  | true=>match h with
   | .k _ L hx hy=>vc P nt x (fun h' e J'=>match e with | .normal=>L.at (keepS L.keep L.n J') | e=>K h' e J') hx st∧L.all (fun s=>L.inv s→vc P nt y K (hy s) (L.mk s))
   | _=>False
 | .block i c,K,h,st=>vc P nt c (kBlock i K) h st
 | .cond c x y,K,h,st=>match dW st.env c with
  | .v (.bool b)=>tW (K3 c) b (fun h=>vc P nt x K h st) (fun h=>vc P nt y K h st) h
  | _=>False
 | .loop c,K,h,st=>match h with
  | .l L s0 hb=>keepS L.keep L.n st=L.mk s0∧L.inv s0∧L.all (fun s=>L.inv s→vc P nt c (fun h' e J'=>match e with | .normal=>L.ag s (keepS L.keep L.n J') | e=>K h' e J') (hb s) (L.mk s))
  | .r n h=>Ho (fun K=>vc P nt c K) K n h st
  | _=>False
 | .region id ops S9,K,h,st=>pre id h st fun o t h st=>match t with
  | some tab=>match S9 with
   | true=>match eL tab (List.replicate ops.toList.length false)with
    | some _=>Hn P nt ops.toList o tab st (fun st=>K h .normal st)
    | none=>match AM o with
     | none=>si P nt ops.toList o (px o [] 0 ops.toList) tab st (fun st=>K h .normal st)
     | some π=>match oG π ops.toList with
      | true=>si P nt (fu π ops.toList) o (px o [] 0 (fu π ops.toList)) tab st (fun st=>K h .normal st)
      | false=>False
   | false=>False
  | none=>match S9 with
   | false=>xm P nt ops.toList o 0 ops.toList st (fun st=>nS st (fun st=>K h .normal st))
   | true=>Jh P nt ops.toList o (px o [] 0 ops.toList) st (fun st=>nS st (fun st=>K h .normal st))
 | .rangeFunc g ps S7 bd,K,h,st=>match h with
  | .rg e J' h'=>py P nt (.rangeFunc g ps S7 bd) st e J'∧K h' e J'
  | _=>False
 | _,_,_,_=>False
section
variable {C:jB} {Q:Exit→St→Prop}
theorem Ev.regA {st J':St} {id:Nat} {ops:List Oper} (Qs:List (Nat×Ov)) {p:Prop} (h:cR C.P C.nt ops Qs 0 ops st=(J',p)) (hp:p) (hq:Q .normal J'):Ev C (.region id ops.toArray false) Q st:=fun a w S μ hR =>
 wpIn_region_lit (pm ops 0 st S μ a w p hR h hp (fun S' μ' a' w' QZ=>⟨_,S',μ',hq,QZ⟩))
theorem Ev.gh {c:Code} {st J':St} (h:Gh st J') (he:Ev C c Q J'):Ev C c Q st:=fun a w S μ hR=>by
 obtain⟨S',μ',h'⟩:=h C S μ a w hR
 exact he a w S' μ' h'
theorem Jp {id:Nat} {c:Code} {k:List (Nat×Ov)→Option sK→bk→St→Prop} (hk:∀o t h st,k o t h st→Ev C c Q st):∀(h:bk) (st:St),pre id h st k→Ev C c Q st:=by
 intro h
 induction h with
 | w i o h ih=>intro st hp;unfold pre at hp;split at hp<;>exact hk _ _ _ _ hp
 | y i o t h ih=>intro st hp;unfold pre at hp;split at hp<;>exact hk _ _ _ _ hp
 | q i kp n h ih =>
  intro st hp;unfold pre at hp;split at hp
  ·rw[lj]at hp;exact Ev.keep kp n rfl (ih _ hp)
  ·exact hk _ _ _ _ hp
 | f i b h ih =>
  intro st hp;unfold pre at hp;split at hp
  ·split at hp
   ·rename_i J' hf;rw[lj]at hp;exact Ev.freeze b hf (ih _ hp)
   ·exact hp.elim
  ·exact hk _ _ _ _ hp
 | g i a j E sz enc d h ih =>
  intro st hp;unfold pre at hp;split at hp
  ·split at hp
   ·rename_i J' hf;rw[lj]at hp;exact Ev.adopt a j E sz enc d hf (ih _ hp)
   ·exact hp.elim
  ·exact hk _ _ _ _ hp
 | gs i t E sz enc d h ih =>
  intro st hp;unfold pre at hp;split at hp
  ·split at hp
   ·rename_i J' hf;rw[lj]at hp;exact Ev.adoptE t E sz enc d hf (ih _ hp)
   ·exact hp.elim
  ·exact hk _ _ _ _ hp
 | mv i j a h ih =>
  intro st hp;unfold pre at hp;split at hp
  ·split at hp
   ·rename_i J' hf;rw[lj]at hp;exact Ev.move j a hf (ih _ hp)
   ·exact hp.elim
  ·exact hk _ _ _ _ hp
 | gh i F h ih =>
  intro st hp;unfold pre at hp;split at hp
  ·rw[lj]at hp;exact Ev.gh (F.ok st hp.1) (ih _ hp.2)
  ·exact hk _ _ _ _ hp
 | s i P x y UR ih2 =>
  intro st hp;unfold pre at hp;split at hp
  ·by_cases hP:P
   ·exact UR _ (hp.1 hP)
   ·exact ih2 _ (hp.2 hP)
  ·exact hk _ _ _ _ hp
 | _=>intro st hp;unfold pre at hp;exact hk _ _ _ _ hp
theorem hC {b:Bool} {X Y:bk→Prop} (h:bk) (hh:match b with | true=>X h | false=>Y h):(b=true→∃h',X h')∧(b=false→∃h',Y h'):=by
 cases b
 ·exact⟨fun h=>(by cases h),fun _=>⟨_,hh⟩⟩
 ·exact⟨fun _=>⟨_,hh⟩,fun h=>(by cases h)⟩
theorem Ff {t:Nat} {b:Bool} {X Y:bk→Prop} {h:bk} (hc:tW t b X Y h):(b=true→∃h',X h')∧(b=false→∃h',Y h'):=by
 cases h with
 | c t' P x y =>
  simp only[tW]at hc;split at hc
  ·obtain⟨h1,h2,h3⟩:=hc
   subst h1
   exact⟨fun h=>⟨_,h2 (O4 h)⟩,fun h=>⟨_,h3 (of_decide_eq_false h)⟩⟩
  ·exact hC _ hc
 | n t' P x y =>
  simp only[tW]at hc;split at hc
  ·obtain⟨h1,h2,h3⟩:=hc
   subst h1
   exact⟨fun h=>⟨_,h2 (by simpa using h)⟩,fun h=>⟨_,h3 (by simpa using h)⟩⟩
  ·exact hC _ hc
 | b t' x y =>
  simp only[tW]at hc;split at hc
  ·exact⟨fun h=>⟨_,hc.1 h⟩,fun h=>⟨_,hc.2 h⟩⟩
  ·exact hC _ hc
 | t t' x =>
  simp only[tW]at hc;split at hc
  ·exact⟨fun h=>⟨_,hc.2⟩,fun h=>(by rw[hc.1]at h;cases h)⟩
  ·exact hC _ hc
 | u t' x =>
  simp only[tW]at hc;split at hc
  ·exact⟨fun h=>(by rw[hc.1]at h;cases h),fun h=>⟨_,hc.2⟩⟩
  ·exact hC _ hc
 | _=>exact hC _ hc
theorem DE {id:Nat} {ops:Array Oper} {S9:Bool} {h:bk} {st:St} {K:bk→Exit→St→Prop} (hv:vc C.P C.nt (.region id ops S9) K h st) (hK:∀h st,K h .normal st→Q .normal st):Ev C (.region id ops S9) Q st:=by
 unfold vc at hv
 refine Jp ?_ h st hv
 intro o t h st hq
 have ha:ops=ops.toList.toArray:=by simp
 cases t with
 | some tab =>
  cases S9 with
  | false=>exact hq.elim
  | true =>
   replace hq:(match eL tab (List.replicate ops.toList.length false)with
    | some _=>Hn C.P C.nt ops.toList o tab st (fun st=>K h .normal st)
    | none=>match AM o with
     | none=>si C.P C.nt ops.toList o (px o [] 0 ops.toList) tab st (fun st=>K h .normal st)
     | some π=>match oG π ops.toList with
      | true=>si C.P C.nt (fu π ops.toList) o (px o [] 0 (fu π ops.toList)) tab st (fun st=>K h .normal st)
      | false=>False):=hq
   cases h00:eL tab (List.replicate ops.toList.length false)with
   | none =>
    rw[h00]at hq
    cases TU:AM o with
    | none =>
     rw[TU]at hq
     have hq:si C.P C.nt ops.toList o (px o [] 0 ops.toList) tab st (fun st=>K h .normal st):=hq
     rw[ha]
     exact Ev.dwT (Q:=Q) o _ tab (v5 hq (fun J' hk=>hK _ _ hk))
    | some π =>
     rw[TU]at hq
     cases hpo:oG π ops.toList with
     | false =>
      simp only[hpo]at hq
     | true =>
      simp only[hpo]at hq
      rw[ha]
      exact Ev.dwTP (Q:=Q) o _ tab π hpo (v5 hq (fun J' hk=>hK _ _ hk))
   | some st00 =>
   rw[h00]at hq
   replace hq:Hn C.P C.nt ops.toList o tab st (fun st=>K h .normal st):=hq
   unfold Hn at hq
   cases hb:C.P.follows .mixedOrders&&ops.toList.all (fun o=>!cH o)with
   | false=>rw[hb]at hq;exact hq.elim
   | true =>
   cases h0:eL tab (List.replicate ops.toList.length false)with
   | none=>rw[hb,h0]at hq;exact hq.elim
   | some RX =>
   cases h1:eL tab (List.replicate ops.toList.length true)with
   | none=>rw[hb,h0,h1]at hq;exact hq.elim
   | some QR =>
   rw[hb,h0,h1]at hq
   simp only[NK]at hb
   obtain⟨q1,q2,q3⟩:=hq
   rw[lj]at q3
   rw[ha]
   exact Ev.any (J':=QR) o tab hb.1 hb.2 h0 q1 h1 rfl q2 (hK _ _ q3)
 | none =>
  cases S9 with
  | false =>
   obtain⟨h1,h2⟩:=sL _ _ _ _ hq
   rw[lj]at h2
   rw[ha]
   exact Ev.regA o rfl h1 (hK _ _ h2)
  | true =>
   rw[ha]
   refine Ev.dw o (px o [] 0 ops.toList) ?_
   have VW:Jh C.P C.nt ops.toList o (px o [] 0 ops.toList) st (fun st=>nS st (fun st=>K h .normal st)):=by simpa using hq
   exact EY VW (fun QR h1=>hK _ _ (by rwa [lj]at h1))
theorem tX {c:Code} (ih:∀(K:bk→Exit→St→Prop) (h:bk) (st:St),vc C.P C.nt c K h st→Ev C c (fun e st=>∃h',K h' e st) st) (K:bk→Exit→St→Prop):∀(n:Nat) (h:bk) (st:St) (S:Nat→Prop) (μ:Nat→Value) (a:Act) (w:World),aU C S μ st a w →
  Ho (fun K=>vc C.P C.nt c K) K n h st→Code.roundsIn (kL C.rd) 0 C.P c (fun e a' w'=>∃J' S' μ',(∃h',K h' e J')∧aU C S' μ' J' a' w') n a w
 | 0,h,st,S,μ,a,w,hR,hv=>hv.elim
 | n+1,h,st,S,μ,a,w,hR,hv=>by
  rw[roundsIn_succ]
  refine wpIn_mono (ih _ _ _ hv a w S μ hR) ?_
  rintro e a' w' ⟨J',S',μ',⟨h',hq⟩,QZ⟩
  cases e with
  | normal=>exact tX ih K n h' J' S' μ' a' w' QZ hq
  | exit i=>exact⟨J',S',μ',⟨h',hq⟩,QZ⟩
  | goto l=>exact⟨J',S',μ',⟨h',hq⟩,QZ⟩
  | ret=>exact⟨J',S',μ',⟨h',hq⟩,QZ⟩
  | panic ch=>exact⟨J',S',μ',⟨h',hq⟩,QZ⟩
  | outgrown=>exact⟨J',S',μ',⟨h',hq⟩,QZ⟩
theorem DF {c:Code} (ih:∀(K:bk→Exit→St→Prop) (h:bk) (st:St),vc C.P C.nt c K h st→Ev C c (fun e st=>∃h',K h' e st) st) (K:bk→Exit→St→Prop) (n:Nat) (h:bk) (st:St) (hv:Ho (fun K=>vc C.P C.nt c K) K n h st):Ev C (.loop c) (fun e st=>∃h',K h' e st) st :=
 fun a w S μ hR=>wpIn_loop_rounds n (tX ih K n h st S μ a w hR hv)
theorem K5 {p:Prop} {a b:Bool} (h:p∨(a&&b)=true):p∨a=true:=h.imp_right fun h=>by rw[NK]at h;exact h.1
theorem K6 {p:Prop} {a b:Bool} (h:p∨(a&&b)=true):p∨b=true:=h.imp_right fun h=>by rw[NK]at h;exact h.2
theorem qN:∀(c:Code),(C.rd=none∨Hp c=true)→∀(K:bk→Exit→St→Prop) (h:bk) (st:St),vc C.P C.nt c K h st→Ev C c (fun e st=>∃h',K h' e st) st:=by
 intro c
 induction c with
 | skip=>intro _ K h st hv;exact Ev.skip ⟨h,hv⟩
 | label l=>intro _ K h st hv;exact Ev.label ⟨h,hv⟩
 | exit i=>intro _ K h st hv;exact Ev.exit ⟨h,hv⟩
 | ret=>intro _ K h st hv;exact Ev.ret ⟨h,hv⟩
 | region id ops S9=>intro _ K h st hv;exact DE hv (fun h st hk=>⟨h,hk⟩)
 | seq x y WC WD =>
  intro hr K h st hv
  have WC:=WC (K5 hr)
  have WD:=WD (K6 hr)
  unfold vc at hv
  split at hv
  ·refine Ev.seq ((WC _ _ _ hv).mono ?_)
   rintro e J' ⟨h',hq⟩
   cases e with
   | normal=>exact WD _ _ _ hq
   | exit i=>exact⟨h',hq⟩
   | goto l=>exact⟨h',hq⟩
   | ret=>exact⟨h',hq⟩
   | panic ch=>exact⟨h',hq⟩
   | outgrown=>exact⟨h',hq⟩
  ·cases h with
   | k id L hx hy =>
    obtain⟨h1,h2⟩:=hv
    refine Ev.cut L.keep L.n L.mk L.inv ((WC _ _ _ h1).mono ?_) (fun s hs=>WD _ _ _ (L.hall _ h2 s hs))
    rintro e J' ⟨h',hq⟩
    cases e with
    | normal=>exact hq
    | exit i=>exact⟨h',hq⟩
    | goto l=>exact⟨h',hq⟩
    | ret=>exact⟨h',hq⟩
    | panic ch=>exact⟨h',hq⟩
    | outgrown=>exact⟨h',hq⟩
   | _=>exact hv.elim
 | cond c x y WC WD =>
  intro hr K h st hv
  have WC:=WC (K5 hr)
  have WD:=WD (K6 hr)
  unfold vc at hv
  split at hv
  ·rename_i b hb
   obtain⟨h1,h2⟩:=Ff hv
   exact Ev.cond b hb (fun hb=>by obtain⟨h',q⟩:=h1 hb;exact WC _ _ _ q) (fun hb=>by obtain⟨h',q⟩:=h2 hb;exact WD _ _ _ q)
  ·exact hv.elim
 | block i c ih =>
  intro hr K h st hv
  have ih:=ih hr
  unfold vc at hv
  refine Ev.block ((ih _ _ _ hv).mono ?_)
  rintro e J' ⟨h',hq⟩
  cases e with
  | exit j =>
   show(if Nat.beq j i=true then _ else _)
   change (match Nat.beq j i with | true=>K h' .normal J' | false=>K h' (.exit j) J')at hq
   by_cases hj:Nat.beq j i=true
   ·rw[hj]at hq;rw[NT hj];exact⟨h',hq⟩
   ·rw[NQ hj]
    simp only[P2]at hj
    rw[hj]at hq
    exact⟨h',hq⟩
  | normal=>exact⟨h',hq⟩
  | goto l=>exact⟨h',hq⟩
  | ret=>exact⟨h',hq⟩
  | panic ch=>exact⟨h',hq⟩
  | outgrown=>exact⟨h',hq⟩
 | loop c ih =>
  intro hr K h st hv
  have ih:=ih hr
  unfold vc at hv
  split at hv
  ·rename_i σ L s0 hb
   obtain⟨h1,h2,h3⟩:=hv
   refine Ev.loop L.keep L.n L.mk L.inv L.m s0 h1 h2 ?_
   intro s hs
   refine(ih _ _ _ (L.hall _ h3 s hs)).mono ?_
   rintro e J' ⟨h',hq⟩
   cases e with
   | normal=>exact hq
   | exit i=>exact⟨h',hq⟩
   | goto l=>exact⟨h',hq⟩
   | ret=>exact⟨h',hq⟩
   | panic ch=>exact⟨h',hq⟩
   | outgrown=>exact⟨h',hq⟩
  ·exact DF ih K _ _ _ hv
  ·exact hv.elim
 | rangeFunc g ps S7 bd =>
  intro hr K h st hv
  unfold vc at hv
  split at hv
  ·rcases hr with hr | hr
   ·exact(hv.1 C rfl rfl hr).mono (fun e1 QR hq=>by obtain⟨rfl,rfl⟩:=hq;exact⟨_,hv.2⟩)
   ·cases hr
  ·exact hv.elim
 | _=>intro _ K h st hv;exact(by unfold vc at hv;exact hv.elim)
theorem pz (hr:C.rd=none) (c:Code):∀(K:bk→Exit→St→Prop) (h:bk) (st:St),vc C.P C.nt c K h st→Ev C c (fun e st=>∃h',K h' e st) st:=qN c (.inl hr)
end
def sk (P:Program) (st:St):List ResultVar→(List D→Prop)→Prop
 | [],k=>k []
 | r::rs,k=>match Ds P st r with
  | (d,p)=>p∧sk P st rs (fun ds=>k (d::ds))
theorem sO {P:Program} {st:St}:∀(rs:List ResultVar) (k:List D→Prop),sk P st rs k→(resL P st rs).2∧k (resL P st rs).1
 | [],k,h=>⟨trivial,h⟩
 | r::rs,k,h=>by
  unfold sk at h
  unfold resL
  generalize hq:Ds P st r=q at h
  obtain⟨d,p⟩:=q
  obtain⟨h1,h2⟩:=h
  obtain⟨h3,h4⟩:=sO rs _ h2
  exact⟨⟨h1,h3⟩,h4⟩
def K7 (H:List ak):D→D→Prop
 | .tup xs,.tup ys=>KL H xs ys
 | x,y=>Iz H x y
def L8:D→D→Prop
 | .tup xs,.tup ys=>L6 xs ys
 | x,y=>I8 x y
def Fg:List D→D
 | [d]=>d
 | ds=>.tup ds
def Jq (al:Bool) (H:List ak) (x r:D):Prop:=match al with
 | true=>K7 H x r
 | false=>K7 H x r∧L8 x r
def K8 (P:Program) (fn:Func) (al:Bool) (r:D) (_:bk) (e:Exit) (st:St):Prop:=match e with
 | .normal=>sk P st fn.results.toList (fun ds=>Jq al st.heap (Fg ds) r)
 | .ret=>sk P st fn.results.toList (fun ds=>Jq al st.heap (Fg ds) r)
 | _=>False
theorem xt {P:Program} {st:St} {rs:List ResultVar}:Dt P rs st=(Fg (resL P st rs).1,(resL P st rs).2):=by
 unfold Dt
 generalize resL P st rs=q
 obtain⟨ds,p⟩:=q
 match ds with
 | []=>rfl
 | [d]=>rfl
 | d::e::r=>rfl
theorem Cf {al:Bool} {H:List ak} {x r:D} (h1:K7 H x r) (h2:al=true∨L8 x r):yE al H x r:=by
 unfold yE
 split
 ·exact⟨h1,h2⟩
 ·rename_i QI
  have e1:K7 H x r=Iz H x r:=by
   unfold K7;split
   ·exact(QI _ _ rfl rfl).elim
   ·rfl
  have e2:L8 x r=I8 x r:=by
   unfold L8;split
   ·exact(QI _ _ rfl rfl).elim
   ·rfl
  rw[e1]at h1;rw[e2]at h2
  exact⟨h1,h2⟩
theorem Hq {P:Program} {fn:Func} {al:Bool} {r:D} {h:bk} {e:Exit} {st:St} (hk:K8 P fn al r h e st):KQ P fn al r e st:=by
 have key:sk P st fn.results.toList (fun ds=>Jq al st.heap (Fg ds) r)→gg P fn st∧yE al st.heap (gO P fn st) r:=by
  intro hq
  obtain⟨h1,h2⟩:=sO _ _ hq
  unfold gg gO
  rw[xt]
  refine⟨h1,?_⟩
  cases al
  ·exact Cf h2.1 (.inr h2.2)
  ·exact Cf h2 (.inl rfl)
 cases e with
 | normal=>exact key hk
 | ret=>exact key hk
 | exit i=>exact hk.elim
 | goto l=>exact hk.elim
 | panic ch=>exact hk.elim
 | outgrown=>exact hk.elim
theorem ap.vc {P:Program} {f:FuncId} {fn:Func} {c:Code} {q':List D} {al:Bool} {r:D} {V:Prop} (R6:bk) (hf:P.funcs[f]?=some fn) (hb:fn.body=some c) (hn:Nat.ble q'.length fn.ntmps=true) (hr:ed r=true)
  (hv:Proofs.Ytcejcppjedhicaa.vc P fn.ntmps c (K8 P fn al r) R6 ⟨ii 0 q',[]⟩=V) (pf:V):ap P f q' [] al r []:=by
 refine ap.of_ev hf hb hn hr ?_
 intro C h1 h2 Vy
 subst h1
 rw[← hv,← h2]at pf
 exact(pz Vy c _ R6 _ pf).mono (fun e J' ⟨h',hk⟩=>Hq hk)
def K9 (P:Program) (fn:Func) (r:D) (H:List ak) (_:bk) (e:Exit) (st:St):Prop:=match e with
 | .normal=>sk P st fn.results.toList (fun ds=>qp (Fg ds) r∧st.heap.take H.length=H)
 | .ret=>sk P st fn.results.toList (fun ds=>qp (Fg ds) r∧st.heap.take H.length=H)
 | _=>False
theorem Hr {P:Program} {fn:Func} {r:D} {H:List ak} {h:bk} {e:Exit} {st:St} (hk:K9 P fn r H h e st):KP P fn r H e st:=by
 have key:sk P st fn.results.toList (fun ds=>qp (Fg ds) r∧st.heap.take H.length=H)→gg P fn st∧qp (gO P fn st) r∧st.heap.take H.length=H:=by
  intro hq
  obtain⟨h1,h2⟩:=sO _ _ hq
  unfold gg gO
  rw[xt]
  exact⟨h1,h2⟩
 cases e with
 | normal=>exact key hk
 | ret=>exact key hk
 | exit i=>exact hk.elim
 | goto l=>exact hk.elim
 | panic ch=>exact hk.elim
 | outgrown=>exact hk.elim
theorem gj.vc {P:Program} {f:FuncId} {fn:Func} {c:Code} {ds:List D} {H H':List ak} {r:D} {V:Prop} (R6:bk) (hf:P.funcs[f]?=some fn) (hb:fn.body=some c) (hn:Nat.ble ds.length fn.ntmps=true)
  (hv:Proofs.Ytcejcppjedhicaa.vc P fn.ntmps c (K9 P fn r H') R6 ⟨ii 0 ds,H⟩=V) (pf:V):gj P f ds H r H':=by
 refine⟨fn,c,hf,hb,hn,?_⟩
 intro C h1 h2 Vy
 subst h1
 rw[← hv,← h2]at pf
 exact(pz Vy c _ R6 _ pf).mono (fun e J' ⟨h',hk⟩=>Hr hk)
def lq (k:Nat):Code→Option Code
 | .rangeFunc g ps a b=>match Nat.beq (ps.toList.headD 0) k with
  | true=>some (.rangeFunc g ps a b)
  | false=>lq k b
 | .seq a b=>match lq k a with
  | some c=>some c
  | none=>lq k b
 | .cond _ a b=>match lq k a with
  | some c=>some c
  | none=>lq k b
 | .block _ a=>lq k a
 | .loop a=>lq k a
 | _=>none
def M6 (P:Program) (f:FuncId) (k:Nat):Code:=match P.funcs[f]? with
 | some fn=>match fn.body with
  | some c=>match lq k c with
   | some r=>r
   | none=>.skip
  | none=>.skip
 | none=>.skip
def M7:Code→Operand
 | .rangeFunc g _ _ _=>g
 | _=>.tmp 0
def Mj:Code→List Nat
 | .rangeFunc _ ps _ _=>ps.toList
 | _=>[]
def M8:Code→Code
 | .rangeFunc _ _ a _=>a
 | c=>c
def M9:Code→Code
 | .rangeFunc _ _ _ b=>b
 | c=>c
def Ml:Code→Bool
 | .rangeFunc _ _ _ _=>true
 | _=>false
def Cg (P:Program) (nt:Nat) (RG:Code) (st:St) (id l VE:Nat) (tm:Array Value) (e0:Exit) (RX:St):Prop:=∀C1:jB,C1.P=P→C1.nt=nt→C1.rd=none→Ev C1 RG (Ay id l VE tm (fun e s=>e=e0∧s=RX)) st
theorem py.vc {P:Program} {nt:Nat} {c:Code} {st RX:St} {e0:Exit} {US:FuncId} {first cap:List D} {fn:Func} {RG:Code} (hc:Ml c=true) (hg:dW st.env (M7 c)=.fn (.func US) first cap) (hf:P.funcs[US]?=some fn) (hb:fn.body=some RG)
  (SC:gi P US=true) (hn:Nat.ble (first.length+1+cap.length) fn.ntmps=true) (hres:fn.results.toList=[]) (Rh:bv st.heap.length st.env=true) (TN:aY st.heap.length st.heap=true)
  (h:∀(l:Nat) (tm:Array Value) (S7 bd:Code),S7=M8 c→bd=M9 c→Cg P fn.ntmps RG ⟨ii 0 (first++[.yld st.heap.length]++cap),st.heap++[.loop l tm nt st.env (Mj c) S7 bd .ready none]⟩ st.heap.length l nt tm e0 RX):py P nt c st e0 RX:=by
 intro C h1 h2 h3
 subst h1
 subst h2
 cases c with
 | rangeFunc g ps a b =>
  have hk:=Ev.range (C:=C) (ps:=ps.toList) (assign:=a) (body:=b) (Q:=fun e s=>e=e0∧s=RX) h3 hg hf hb SC hn hres Rh TN (fun C1 l tm S7 bd q1 q2 q3 q4 q5=>h l tm S7 bd q1 q2 C1 q3 q4 q5)
  rwa [Array.toArray_toList]at hk
 | _=>cases hc
def sP (id l nt:Nat) (tm:Array Value) (e0:Exit) (RX st:St):Prop:=match st.heap[id]? with
 | some (.loop l' tm' nt' env _ _ _ s p)=>match Ax s with
  | true=>False
  | false=>match EN p with
   | some e'=>(l'=l∧tm'=tm∧nt'=nt)∧e'=e0∧(⟨env,st.heap.set id .dead⟩:St)=RX
   | none=>False
 | _=>False
def Fh (id l nt:Nat) (tm:Array Value) (e0:Exit) (RX:St) (_:bk) (e:Exit) (st:St):Prop:=match e with
 | .normal=>sP id l nt tm e0 RX st
 | .ret=>sP id l nt tm e0 RX st
 | _=>False
theorem DG {id l nt:Nat} {tm:Array Value} {e0:Exit} {RX:St} {h:bk} {e:Exit} {st:St} (hk:Fh id l nt tm e0 RX h e st):Ay id l nt tm (fun e s=>e=e0∧s=RX) e st:=by
 have key:sP id l nt tm e0 RX st→match st.heap[id]? with
  | some (.loop l' tm' nt' env _ _ _ s p)=>l'=l∧tm'=tm∧nt'=nt∧Ax s=false∧match EN p with
   | some e'=>e'=e0∧(⟨env,st.heap.set id .dead⟩:St)=RX
   | none=>False
  | _=>False:=by
  intro hq
  unfold sP at hq
  split at hq
  ·rename_i l' tm' nt' env a1 a2 a3 s p hb
   split at hq
   ·exact hq.elim
   ·rename_i hs
    split at hq
    ·rename_i e' hp
     obtain⟨⟨q1,q2,q3⟩,q4⟩:=hq
     exact⟨q1,q2,q3,hs,q4⟩
    ·exact hq.elim
  ·exact hq.elim
 cases e with
 | normal=>exact⟨.inl rfl,key hk⟩
 | ret=>exact⟨.inr rfl,key hk⟩
 | _=>exact hk.elim
theorem Cg.vc {P:Program} {nt:Nat} {RG:Code} {st RX:St} {id l VE:Nat} {tm:Array Value} {e0:Exit} {V:Prop} (R6:bk) (hv:Proofs.Ytcejcppjedhicaa.vc P nt RG (Fh id l VE tm e0 RX) R6 st=V) (pf:V):Cg P nt RG st id l VE tm e0 RX:=by
 intro C h1 h2 h3
 subst h1
 subst h2
 rw[← hv]at pf
 exact(pz h3 RG _ R6 _ pf).mono (fun e J' ⟨h',hk⟩=>DG hk)
def xu (id l:Nat) (b:Bool) (H:List ak) (_:bk) (e:Exit) (st:St):Prop:=match st.heap[id]? with
 | some (.loop l' tm nt env ps S7 bd _ _)=>match Ar e with
  | some b'=>l'=l∧b'=b∧(st.heap.set id (.loop l' tm nt env ps S7 bd (ph e) (sH e))).take H.length=H
  | none=>False
 | _=>False
theorem DH {id l:Nat} {b:Bool} {H:List ak} {h:bk} {e:Exit} {st:St} (hk:xu id l b H h e st):xh id l b H e st:=by
 unfold xu at hk
 unfold xh
 split at hk
 ·rename_i hq
  split at hk
  ·rename_i ha
   rw[hq]
   exact⟨hk.1,by rw[ha,hk.2.1],hk.2.2⟩
  ·exact hk.elim
 ·exact hk.elim
def Jr (P:Program) (nt:Nat) (bd:Code) (id l:Nat) (b:Bool) (H:List ak) (h:bk) (e:Exit) (st:St):Prop:=match e with
 | .normal=>match st.heap[id]? with
  | some (.loop l' tm n2 env ps S7 bd' .ready none)=>l'=l∧vc P nt bd (xu id l b H) h ⟨st.env,st.heap.set id (.loop l' tm n2 env ps S7 bd' .busy none)⟩
  | _=>False
 | _=>False
theorem pi.vc {P:Program} {l nt id:Nat} {S7 bd A B:Code} {st:St} {b:Bool} {H:List ak} {V:Prop} (R6:bk) (ha:S7=A) (hb:bd=B) (hn:(Hp A&&Hp B)=true) (hv:Proofs.Ytcejcppjedhicaa.vc P nt A (Jr P nt B id l b H) R6 st=V) (pf:V):pi P l nt S7 bd st id b H:=by
 subst ha
 subst hb
 rw[NK]at hn
 intro C h1 h2 h3
 subst h1
 subst h2
 rw[← hv]at pf
 refine(qN S7 (.inr hn.1) _ R6 _ pf).mono ?_
 rintro e J' ⟨h',hk⟩
 cases e with
 | normal =>
  change (match J'.heap[id]? with
   | some (.loop l' tm n2 env ps S7 bd' .ready none)=>l'=l∧Proofs.Ytcejcppjedhicaa.vc C.P C.nt bd (xu id l b H) h' ⟨J'.env,J'.heap.set id (.loop l' tm n2 env ps S7 bd' .busy none)⟩
   | _=>False)at hk
  simp only[Au]
  split at hk
  ·rename_i hq
   rw[hq]
   exact⟨hk.1,(qN bd (.inr hn.2) _ _ _ hk.2).mono (fun e J' ⟨h',hk⟩=>DH hk)⟩
  ·exact hk.elim
 | _=>exact hk.elim
def tY:ak→Prop
 | .arr _ _ _ _ l=>l=[]
 | _=>False
def Cj:Option ak→ak→Prop
 | some B',B=>B'=B
 | none,_=>False
def Hs (H:List ak) (x r:D) (B:ak):Prop:=match x with
 | .nils=>r=.own 0∧tY B
 | .own i=>r=.own 0∧Cj H[i]? B
 | .gr i s=>r=.gr 0 s∧Cj H[i]? B
 | x=>∃id,H[id]?=some B∧AB id x r
def IK (P:Program) (fn:Func) (r:D) (B:ak) (_:bk) (e:Exit) (st:St):Prop:=match e with
 | .normal=>sk P st fn.results.toList (fun ds=>Hs st.heap (Fg ds) r B)
 | .ret=>sk P st fn.results.toList (fun ds=>Hs st.heap (Fg ds) r B)
 | _=>False
def Fj (P:Program) (fn:Func) (r:D) (B:ak):Exit→St→Prop
 | .normal,st=>gg P fn st∧((∃id,st.heap[id]?=some B∧AB id (gO P fn st) r)∨(gO P fn st=.nils∧r=.own 0∧tY B))
 | .ret,st=>gg P fn st∧((∃id,st.heap[id]?=some B∧AB id (gO P fn st) r)∨(gO P fn st=.nils∧r=.own 0∧tY B))
 | _,_=>False
theorem Fk {P:Program} {fn:Func} {r:D} {B:ak} {h:bk} {e:Exit} {st:St} (hk:IK P fn r B h e st):Fj P fn r B e st:=by
 have key:sk P st fn.results.toList (fun ds=>Hs st.heap (Fg ds) r B)→gg P fn st∧((∃id,st.heap[id]?=some B∧AB id (gO P fn st) r)∨(gO P fn st=.nils∧r=.own 0∧tY B)):=by
  intro hq
  obtain⟨h1,h2⟩:=sO _ _ hq
  unfold gg gO
  rw[xt]
  refine⟨h1,?_⟩
  generalize Fg (resL P st fn.results.toList).1=x at h2 ⊢
  unfold Hs at h2
  split at h2
  ·exact .inr ⟨rfl,h2⟩
  ·rename_i i
   obtain⟨rfl,h2⟩:=h2
   unfold Cj at h2
   split at h2
   ·rename_i B' QL
    subst h2
    exact .inl ⟨i,QL,rfl,rfl⟩
   ·exact h2.elim
  ·rename_i i q
   obtain⟨rfl,h2⟩:=h2
   unfold Cj at h2
   split at h2
   ·rename_i B' QL
    subst h2
    exact .inl ⟨i,QL,rfl,rfl,rfl⟩
   ·exact h2.elim
  ·exact .inl h2
 cases e with
 | normal=>exact key hk
 | ret=>exact key hk
 | exit i=>exact hk.elim
 | goto l=>exact hk.elim
 | panic ch=>exact hk.elim
 | outgrown=>exact hk.elim
theorem ap.of_evO' {P:Program} {f:FuncId} {fn:Func} {c:Code} {q':List D} {r:D} {B:ak} (hf:P.funcs[f]?=some fn) (hb:fn.body=some c) (hn:Nat.ble q'.length fn.ntmps=true) (hB:B.isOwn=true)
  (h:∀C:jB,C.P=P→C.nt=fn.ntmps→C.rd=none→Ev C c (Fj P fn r B) ⟨ii 0 q',[]⟩):ap P f q' [] false r [B]:=by
 intro S μ w us hS hG hH QF
 rw[OY]at hn
 let C:jB:=⟨P,w,S,fn.ntmps,[],none,hG⟩
 have hrel:aU C S μ ⟨ii 0 q',[]⟩ (tp us fn.ntmps) w :=
  ⟨rfl,rfl,rfl,NN _,fun _ _=>rfl,fun _ h=>h,fun _ h=>.inl h,hS,sF QF hn,⟨fun id B hB=>by simp at hB,fun i j A B b hA=>by simp at hA,fun i A b hA=>by simp at hA⟩,fun i A b hA=>by simp at hA,⟨[],rfl,by simp[C],fun b hb=>by simp[C]at hb⟩,pg QF.1 hn,fun i A b hA=>by simp at hA⟩
 refine(iK (C:=C) hf hb rfl hrel (h C rfl rfl rfl) (fun e J' hq=>?_)).mono ?_
 ·cases e<;>first | exact⟨.inl rfl,hq.1⟩ | exact⟨.inr rfl,hq.1⟩ | exact hq.elim
 rintro e w' ⟨u,e0,J',S',μ',a',rfl,hq,hR,hx⟩
 have hq:(∃id,J'.heap[id]?=some B∧AB id (gO P fn J') r)∨(gO P fn J'=.nils∧r=.own 0∧tY B):=by
  cases e0<;>first | exact hq.2 | exact hq.elim
 have hl:B.live=true:=by cases B<;>first | rfl | cases hB
 have one:∀(i:Nat) (A:ak),[B][i]?=some A→i=0∧A=B:=by
  intro i A hA
  match i with
  | 0=>simp at hA;exact⟨rfl,hA.symm⟩
  | i+1=>simp at hA
 rcases hq with ⟨id,Qh,hr⟩ | ⟨hn0,rfl,hem⟩
 ·refine⟨u,fun _=>μ' id,S',rfl,hR.os,hR.tape,hR.output,hR.size,fun k hk _=>hR.old k hk,hR.mono,hR.new,hR.slt,ES hx hr,⟨?_,?_,?_⟩,?_,fun i A hA=>by simp at hA⟩
  ·intro i A hA
   obtain⟨rfl,rfl⟩:=one i A hA
   refine(hR.heap.box id _ Qh).stable (fun _ h _=>h) (fun _ _ _=>rfl) (NN _) (fun j hj=>?_) (fun _ _=>rfl)
   cases A<;>first | (cases hB;done) | cases hj
  ·intro i j A A' b hA QQ _ _ _ _
   rw[(one i A hA).1,(one j A' QQ).1]
  ·intro i A b hA la hb
   obtain⟨rfl,rfl⟩:=one i A hA
   exact hR.heap.notS id _ b Qh hl hb
  ·intro i A b hA la hb
   obtain⟨rfl,rfl⟩:=one i A hA
   exact .inl (hR.may id _ b Qh hl hb)
 ·rw[hn0]at hx
  cases hx
  refine⟨_,fun _=>.slice none 0 0,S',rfl,hR.os,hR.tape,hR.output,hR.size,fun k hk _=>hR.old k hk,hR.mono,hR.new,hR.slt,ai.own (μ:=fun _=>.slice none 0 0) 0,⟨?_,?_,?_⟩,?_,fun i A hA=>by simp at hA⟩
  ·intro i A hA
   obtain⟨rfl,rfl⟩:=one i A hA
   cases A<;>first | cases hem | skip
   exact⟨fun i x hx=>by simp at hx,[],Pa w' 0 _ _,fun i x j y hx=>by simp at hx⟩
  ·intro i j A A' b hA QQ _ _ _ _
   rw[(one i A hA).1,(one j A' QQ).1]
  ·intro i A b hA la hb
   simp[bu,aF]at hb
  ·intro i A b hA la hb
   simp[bu,aF]at hb
theorem ap.vcO {P:Program} {f:FuncId} {fn:Func} {c:Code} {q':List D} {r:D} {B:ak} {V:Prop} (R6:bk) (hf:P.funcs[f]?=some fn) (hb:fn.body=some c) (hn:Nat.ble q'.length fn.ntmps=true) (hB:B.isOwn=true)
  (hv:Proofs.Ytcejcppjedhicaa.vc P fn.ntmps c (IK P fn r B) R6 ⟨ii 0 q',[]⟩=V) (pf:V):ap P f q' [] false r [B]:=by
 refine ap.of_evO' hf hb hn hB ?_
 intro C h1 h2 Vy
 subst h1
 rw[← hv,← h2]at pf
 exact(pz Vy c _ R6 _ pf).mono (fun e J' ⟨h',hk⟩=>Fk hk)
theorem ap.nilcases {P:Program} {f:FuncId} {sz:Nat} {α:Type} {enc:α→List V} {d:α} {l:List α} {q':List D} {al:Bool} {r:D} {H':List ak}
  (h1:l≠[]→ap P f (.v (.sl sz enc d l)::q') [] al r H') (h2:l=[]→ap P f (.nils::q') [] al r H') (h3:l=[]→ap P f (.v .esl::q') [] al r H'):ap P f (.v (.sl sz enc d l)::q') [] al r H':=by
 by_cases hl:l=[]
 ·intro S μ w us hS hG hH QF
  have Qk:=QF.1
  simp only[Ow]at Qk
  have h0:us[0]?=some us[0]:=N7 (by omega)
  have hx:=bg (QF.2 0 _ _ rfl h0)
  have re:∀(x:D),ai S μ w x us[0]→aK S μ w (x::q') us:=fun x hx=>⟨by simp[Qk],fun j y u hy hu=>by
   cases j with
   | zero=>simp at hy;subst hy;rw[h0]at hu;cases hu;exact hx
   | succ j=>exact QF.2 (j+1) y u (by simpa using hy) hu⟩
  obtain⟨p,c,hu,q1,q2,q3,q4⟩:=eF hx
  subst hl
  cases p with
  | none =>
   have:=q3 rfl
   subst this
   exact h2 rfl S μ w us hS hG hH (re _ (by rw[hu];exact .nils))
  | some p=>exact h3 rfl S μ w us hS hG hH (re _ (by rw[hu];exact .v _ _ (.esl p c q2)))
 ·exact h1 hl
abbrev xv (P:Program) (g:FuncId) (ds:List D) (H:List ak) (E:List (Nat×D)) (H' N:List ak) (r:D):Prop:=∀tm:Array Value,gj P g ds (H++[.frame tm E]) r (H'++.frame tm E::N)
def fE (n:Nat):List (Nat×Nat×Nat×Nat×D)→List (Nat×D)
 | []=>[]
 | (t,a,b,c,d)::r=>if Nat.beq (n &&& a) a&&(Nat.beq b 0||!(Nat.beq (n &&& b) b))&&Nat.beq (n &&& c) 0 then (t,d)::fE n r else fE n r
def TT:Nat→Prop→Prop
 | 0,p=>p
 | n+1,p=>True∧TT n p
theorem tt:∀{n:Nat} {p:Prop},p→TT n p
 | 0,_,h=>h
 | n+1,_,h=>⟨trivial,tt h⟩
abbrev CB (b:Bool) (x y:Prop):Prop:=(b=true→x)∧(b=false→y)
abbrev CD (P:Prop) [Decidable P] (x y:Prop):Prop:=CB (decide P) x y
abbrev CN (P:Prop) [Decidable P] (x y:Prop):Prop:=CB (!decide P) x y
abbrev CS (P x y:Prop):Prop:=(P→x)∧(¬P→y)
theorem cd {P:Prop} [Decidable P] {x y:Prop} (h1:P→x) (h2:¬P→y):CD P x y:=⟨fun h=>h1 (O4 h),fun h=>h2 (of_decide_eq_false h)⟩
theorem cn {P:Prop} [Decidable P] {x y:Prop} (h1:¬P→x) (h2:P→y):CN P x y:=⟨fun h=>h1 (by simpa using h),fun h=>h2 (by simpa using h)⟩
abbrev GO {σ:Type} (L:Lp σ) (s0:σ) (body:Prop):Prop:=L.mk s0=L.mk s0∧L.inv s0∧body
abbrev AG {σ:Type} (L:Lp σ) (s s':σ):Prop:=L.ag s (L.mk s')
abbrev AT {σ:Type} (L:Lp σ) (s':σ):Prop:=L.at (L.mk s')
theorem vT {P:Prop} [Decidable P] (h:P):True∧decide P=true:=⟨trivial,Og h⟩
theorem vF {P:Prop} [Decidable P] (h:¬P):True∧decide P=false:=⟨trivial,N5 h⟩
theorem Na {P:Prop} [Decidable P] (h:¬P):(!decide P)=true:=by simp[h]
theorem L9 {P:Prop} [Decidable P] (h:P):(!decide P)=false:=by simp[h]
theorem nT {P:Prop} [Decidable P] (h:¬P):True∧(!decide P)=true:=⟨trivial,Na h⟩
theorem nF {P:Prop} [Decidable P] (h:P):True∧(!decide P)=false:=⟨trivial,L9 h⟩
theorem Nb {b:Bool} (h:¬b=true):b=false:=by simpa using h
theorem Mn {b:Bool} (h:¬b=true):(!b)=true:=by simpa using h
theorem KA {b:Bool} (h:b=true):(!b)=false:=by simp[h]
theorem bT {b:Bool} (h:b=true):True∧b=true:=⟨trivial,h⟩
theorem bF {b:Bool} (h:¬b=true):True∧b=false:=⟨trivial,Nb h⟩
theorem mT {b:Bool} (h:¬b=true):True∧(!b)=true:=⟨trivial,Mn h⟩
theorem mF {b:Bool} (h:b=true):True∧(!b)=false:=⟨trivial,KA h⟩
abbrev HE (H:List ak):Prop:=H=H
abbrev IX (i n:Int):Prop:=0≤i∧i<n
theorem ix {i n:Int} (h:0≤i∧i<n:=by first | omega | (simp;omega)):IX i n:=h
theorem om {p:Prop} (h:p:=by first | omega | (simp;first | done | omega)):p:=h
abbrev W6 (x:Int):Prop:=True∧IntKind.i64.wrap x=x
theorem w6 {x:Int} (h1:-9223372036854775808≤x:=by first | omega | (simp;first | done | omega)) (h2:x≤9223372036854775807:=by first | omega | (simp;first | done | omega)):W6 x:=⟨trivial,IB rfl h1 h2⟩
abbrev QD (a n:Int):Prop:=n≠0∧IntKind.i64.wrap (Int.tdiv a n)=a / n
theorem qd {a n:Int} (h0:0≤a:=by first | omega | (simp;omega)) (h1:a≤9223372036854775807:=by first | omega | (simp;omega)) (hn:0<n:=by first | omega | (simp;omega)):QD a n:=by
 refine⟨by omega,?_⟩
 rw[Int.tdiv_eq_ediv_of_nonneg h0,IntKind.wrap_i64]
 have:=Int.ediv_nonneg h0 (Int.le_of_lt hn)
 have:=Int.ediv_le_self n h0
 omega
abbrev QM (a n:Int):Prop:=n≠0∧Int.tmod a n=a%n
theorem qm {a n:Int} (h0:0≤a:=by first | omega | (simp;omega)) (hn:0<n:=by first | omega | (simp;omega)):QM a n:=⟨by omega,OI h0⟩
theorem ap.recast {P:Program} {f:FuncId} {q' Uj:List D} {al:Bool} {r:D} (h:yr [] q' Uj) (hc:ap P f Uj [] al r []):ap P f q' [] al r []:=fun S μ w us hS hG hH QF =>
 hc S μ w us hS hG hH (jI hH (fun _ h=>h) hS (.inl fun i A b hA=>by simp at hA) h QF)
structure Ct:Type 1 where
 f:FuncId
 q':List D
 al:Bool
 r:D
abbrev Ct.O (c:Ct):Ov:=.call none c.al c.r
abbrev Ct.O' (c:Ct):Ov:=.call (some c.q') c.al c.r
abbrev Ct.C (P:Program) (c:Ct):Prop:=ap P c.f c.q' [] c.al c.r []
abbrev Ct.K (P:Program) (c:Ct):Prop:=yr [] c.q' c.q'∧ap P c.f c.q' [] c.al c.r []
structure Eo:Type 1 where
 f:FuncId
 q':List D
 r:D
 B:ak
abbrev Eo.O (c:Eo):Ov:=.ownd none c.r c.B
abbrev Eo.O' (c:Eo):Ov:=.ownd (some c.q') c.r c.B
abbrev Eo.F (c:Eo):Ov:=.ownc none c.r c.B
mutual
def lr:D→Bool
 | .v (.mp _)=>false
 | .agg cs=>fc cs
 | .tup cs=>fc cs
 | .fn _ a b=>fc a&&fc b
 | _=>true
def fc:List D→Bool
 | []=>true
 | d::r=>lr d&&fc r
end
theorem Fl:∀(x:V),(∀es,x≠.mp es)→El x x
 | .int k n,_=>by simp[El]
 | .bool b,_=>rfl
 | .str s,_=>rfl
 | .nilf,_=>trivial
 | .nsl,_=>trivial
 | .esl,_=>trivial
 | .sl sz enc d l,_=>by simp[El]
 | .sm ag enc d l,_=>by simp[El]
 | .nmp,_=>trivial
 | .fnv f,_=>by simp[El]
 | .mp es,h=>(h es rfl).elim
theorem Fm:∀(x:D),lr x=true→G1 x x
 | .v x,h=>Fl x (fun es e=>by subst e;simp[lr]at h)
 | .nils,_=>rfl
 | .own i,_=>rfl
 | .ptr _ _ _ _,_=>rfl
 | .iptr cs o,_=>by simp[G1]
 | .agg _,_=>rfl
 | .tup _,_=>rfl
 | .fn _ _ _,_=>rfl
 | .yld _,_=>rfl
 | .capd _,_=>rfl
 | .pre _ _ _ _ _ _,_=>rfl
 | .gr _ _,_=>rfl
 | .junk,_=>trivial
theorem yQ (x:D) (h:lr x=true):GV [] x x:=by
 cases x<;>exact Fm _ h
theorem yR:∀(l:List D),fc l=true→KK [] l l
 | [],_=>trivial
 | d::r,h=>by simp only[fc,NK]at h;exact⟨yQ d h.1,yR r h.2⟩
theorem yS (x:D) (h:lr x=true):Kx [] x x:=by
 cases x<;>exact yQ _ h
theorem tZ:∀(l:List D),fc l=true→KM [] l l
 | [],_=>trivial
 | d::r,h=>by simp only[fc,NK]at h;exact⟨yS d h.1,tZ r h.2⟩
theorem yT (x:D) (h:lr x=true):L4 [] x x:=by
 cases x with
 | agg xs=>exact yR _ (by simpa[lr]using h)
 | fn f a b=>simp only[lr,NK]at h;exact⟨rfl,tZ a h.1,tZ b h.2⟩
 | _=>exact yS _ h
theorem ey:∀(l:List D),fc l=true→yr [] l l
 | [],_=>trivial
 | d::r,h=>by simp only[fc,NK]at h;exact⟨yT d h.1,ey r h.2⟩
end Go.Proofs.Ytcejcppjedhicaa
