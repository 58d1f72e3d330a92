/- Parts of a proof. -/
import Derived.Test.YtnlmlkbaflmgcaaGreatQDr
namespace Go.Proofs.YtnlmlkbaflmgcaaGreat
open Go.RowKit
set_option linter.unusedVariables false
set_option linter.unusedSimpArgs false
def Gh (st P':St):Prop:=∀(C:ns) (S:Nat→Prop) (μ:Nat→Value) (a:Act) (w:World),bk C S μ st a w→∃S' μ',bk C S' μ' P' a w
structure Ls:Type 1 where
 F:St→St×Prop
 ok:∀st,(F st).2→Gh st (F st).1
section
variable {C:ns} {S:Nat→Prop} {μ μ':Nat→Value} {st:St} {a:Act} {w:World}
theorem bk.retell (h:bk C S μ st a w) {Yt:List (Nat×D)} {H':List aC} (henv:∀t d,(t,d)∈Yt→∃e,(t,e)∈st.env∧∀u,aq S μ w e u→aq S μ' w d u)
  (I':∀(i:Nat) (B:aC),H'[i]?=some B→aN S μ' w (μ' i) B)
  (V':∀(i:Nat) (B:aC) (b:Nat),H'[i]?=some B→B.live=true→cx (μ' i) b→∃(j:Nat) (A:aC),st.heap[j]?=some A∧A.live=true∧cx (μ j) b)
  (hap:∀(i j:Nat) (A B:aC) (b:Nat),H'[i]?=some A→H'[j]?=some B→A.live=true→B.live=true→cx (μ' i) b→cx (μ' j) b→i=j)
  (X3:∀(i:Nat) (B:aC),H'[i]?=some B→B.isRo=true→st.heap[i]?=some B∧μ' i=μ i):bk C S μ' ⟨Yt,H'⟩ a w:=by
 refine⟨h.os,h.tape,h.output,h.size,h.old,h.mono,h.new,h.slt,fun t d hm=>?_,⟨I',hap,fun i A b hA la hb=>?_⟩,fun i A b hA la hb=>?_,?_,h.tsize,fun i A b hA la hb=>?_⟩
 ·obtain⟨e,h1,h2⟩:=henv t d hm
  obtain⟨q1,q2⟩:=h.env t e h1
  exact⟨q1,h2 _ q2⟩
 ·obtain⟨j,B,h1,h2,h3⟩:=V' i A b hA la hb
  exact h.heap.notS j B b h1 h2 h3
 ·obtain⟨j,B,h1,h2,h3⟩:=V' i A b hA la hb
  exact h.may j B b h1 h2 h3
 ·obtain⟨mk,d1,d2,d3⟩:=h.defers
  refine⟨mk,d1,d2,fun b hb=>?_⟩
  obtain⟨q1,q2,q3,q4⟩:=d3 b hb
  refine⟨q1,q2,q3,fun i A hA hl hbi=>?_⟩
  obtain⟨j,B,h1,h2,h3⟩:=V' i A b hA hl hbi
  exact q4 j B h1 h2 h3
 ·obtain⟨h1,h2⟩:=X3 i A hA la
  rw[h2]at hb
  exact h.ro i A b h1 la hb
theorem bk.boxTo2 (h:bk C S μ st a w) {id:Nat} {A B:aC} (hA:st.heap[id]?=some A) (hAl:A.live=true) (hB:aN S μ w (μ id) B) (X3:B.isRo=false:=by rfl):bk C S μ ⟨st.env,st.heap.set id B⟩ a w:=by
 have WG:id<st.heap.length:=(Up.1 hA).1
 have hg:∀(i:Nat) (X:aC),(st.heap.set id B)[i]?=some X→(i=id∧X=B)∨(i≠id∧st.heap[i]?=some X):=by
  intro i X hX
  by_cases hi:i=id
  ·subst hi
   rw[UI WG]at hX
   cases hX
   exact .inl ⟨rfl,rfl⟩
  ·rw[UF (fun e=>hi e.symm)]at hX
   exact .inr ⟨hi,hX⟩
 have hl:∀(i:Nat) (X:aC),(st.heap.set id B)[i]?=some X→X.live=true→∃Y,st.heap[i]?=some Y∧Y.live=true:=by
  intro i X hX hXl
  rcases hg i X hX with ⟨rfl,rfl⟩ | ⟨_,hX'⟩
  ·exact⟨A,hA,hAl⟩
  ·exact⟨X,hX',hXl⟩
 refine h.retell (fun t d hm=>⟨d,hm,fun _ h=>h⟩) (fun i X hX=>?_) (fun i X b hX lX hb=>?_) (fun i k X Y b hX hY lX lY=>?_) (fun i X hX lX=>?_)
 ·rcases hg i X hX with ⟨rfl,rfl⟩ | ⟨_,hX'⟩
  ·exact hB
  ·exact h.heap.box i X hX'
 ·obtain⟨Y,h1,h2⟩:=hl i X hX lX
  exact⟨i,Y,h1,h2,hb⟩
 ·obtain⟨X',q1,q2⟩:=hl i X hX lX
  obtain⟨Y',q3,q4⟩:=hl k Y hY lY
  exact h.heap.apart i k X' Y' b q1 q3 q2 q4
 ·rcases hg i X hX with ⟨rfl,rfl⟩ | ⟨_,hX'⟩
  ·rw[X3]at lX;cases lX
  ·exact⟨hX',rfl⟩
theorem Gh.trans {Xl Z3 st3:St} (h1:Gh Xl Z3) (h2:Gh Z3 st3):Gh Xl st3:=fun C S μ a w h=>by
 obtain⟨S1,μ1,h'⟩:=h1 C S μ a w h
 exact h2 C S1 μ1 a w h'
theorem Gh.kill (id:Nat) (st:St):Gh st (st.kill id):=fun C S μ a w h=>⟨S,μ,h.kill id⟩
def m6 {α:Type} (enc:α→List V) (d:α) (l:List α) (i j:Nat):D:=.v ((enc (l.getD i d)).getD j .nilf)
def Lu (id:Nat) (st:St):St×Prop:=match st.heap[id]? with
 | some (.arr E sz enc d l)=>(⟨st.env,st.heap.set id (.arrD E sz l.length [] (m6 enc d l))⟩,True)
 | _=>(st,False)
theorem N2 (id:Nat) (st:St) (hp:(Lu id st).2):Gh st (Lu id st).1:=fun C S μ a w h=>by
 unfold Lu at hp ⊢
 split
 ·rename_i E sz α enc d l hb
  refine⟨S,μ,h.boxTo2 hb rfl ?_⟩
  obtain⟨r0,xs,r1,r2⟩:=h.heap.box id _ hb
  refine⟨fun i j k hi hj _=>rfl,xs,r1,fun i j hi hj=>?_⟩
  have hx0:l[i]?=some (l.getD i d):=by rw[bJ _ _ hi];exact Uq hi
  have hel:=r0 i _ hx0
  have Z4:j<(enc (l.getD i d)).length:=by omega
  have hy:(enc (l.getD i d))[j]?=some ((enc (l.getD i d)).getD j .nilf):=by
   generalize enc (l.getD i d)=q at Z4 ⊢
   rw[Vj,Uq Z4]
   rfl
  obtain⟨z,hz,hr⟩:=r2 i _ j _ hx0 hy
  exact⟨z,hz,hr.one,.v _ _ hr⟩
 ·rename_i hn
  split at hp
  ·rename_i E sz α enc d l hb;exact(hn _ _ _ _ _ _ hb).elim
  ·exact hp.elim
def TU (id:Nat):Ls:=⟨Lu id,N2 id⟩
def Lv (id:Nat) {α:Type} (enc:α→List V) (d:α) (l:List α) (st:St):St×Prop:=match st.heap[id]? with
 | some (.arrD E sz n _ cell)=>(⟨st.env,st.heap.set id (.arr E sz enc d l)⟩,l.length=n∧(∀x∈l,(enc x).length=sz)∧∀i j,i<n→j<sz→cell i j=m6 enc d l i j)
 | _=>(st,False)
theorem N3 (id:Nat) {α:Type} (enc:α→List V) (d:α) (l:List α) (st:St) (hp:(Lv id enc d l st).2):Gh st (Lv id enc d l st).1:=fun C S μ a w h=>by
 unfold Lv at hp ⊢
 split
 ·rename_i E sz n gs cell hb
  rw[hb]at hp
  obtain⟨rfl,p1,p2⟩:=hp
  refine⟨S,μ,h.boxTo2 hb rfl ?_⟩
  obtain⟨r0,xs,r1,r2⟩:=h.heap.box id _ hb
  refine⟨fun i x hx=>p1 x (UV hx),xs,r1,fun i x j y hx hy=>?_⟩
  have hi:=(Up.1 hx).1
  have hj:=(Up.1 hy).1
  rw[p1 x (UV hx)]at hj
  obtain⟨z,hz,_,hr⟩:=r2 i j hi hj
  rw[p2 i j hi hj]at hr
  have hx0:l.getD i d=x:=by rw[Vj,hx];rfl
  unfold m6 at hr
  rw[hx0,Vj,hy]at hr
  exact⟨z,hz,bL hr⟩
 ·rename_i hn
  split at hp
  ·rename_i E sz n gs cell hb;exact(hn _ _ _ _ _ hb).elim
  ·exact hp.elim
def TV (id:Nat) {α:Type} (enc:α→List V) (d:α) (l:List α):Ls:=⟨Lv id enc d l,N3 id enc d l⟩
def Lw (id n':Nat) (YB:List Nat) (U':Nat→Nat→D) (st:St):St×Prop:=match st.heap[id]? with
 | some (.arrD E sz n gs cell)=>(⟨st.env,st.heap.set id (.arrD E sz n' YB U')⟩,n'=n∧∀i j,i<n'→j<sz→U' i j=cell i j∧∀k,YB.all (fun g=>!(Nat.beq g k))=true→(U' i j).free k=true)
 | _=>(st,False)
theorem N4 (id n':Nat) (YB:List Nat) (U':Nat→Nat→D) (st:St) (hp:(Lw id n' YB U' st).2):Gh st (Lw id n' YB U' st).1:=fun C S μ a w h=>by
 unfold Lw at hp ⊢
 split
 ·rename_i E sz n gs cell hb
  rw[hb]at hp
  obtain⟨rfl,hp⟩:=hp
  refine⟨S,μ,h.boxTo2 hb rfl ?_⟩
  obtain⟨r0,xs,r1,r2⟩:=h.heap.box id _ hb
  refine⟨fun i j k hi hj hk=>(hp i j hi hj).2 k hk,xs,r1,fun i j hi hj=>?_⟩
  rw[(hp i j hi hj).1]
  exact r2 i j hi hj
 ·rename_i hn
  split at hp
  ·rename_i E sz n gs cell hb;exact(hn _ _ _ _ _ hb).elim
  ·exact hp.elim
def zF (id n':Nat) (YB:List Nat) (U':Nat→Nat→D):Ls:=⟨Lw id n' YB U',N4 id n' YB U'⟩
def Lx (g m':Nat) (f':Nat→ry) (st:St):St×Prop:=match st.heap[g]? with
 | some (.grp m f)=>(⟨st.env,st.heap.set g (.grp m' f')⟩,m'=m∧∀k,k<m'→f' k=f k)
 | _=>(st,False)
theorem N5 (g m':Nat) (f':Nat→ry) (st:St) (hp:(Lx g m' f' st).2):Gh st (Lx g m' f' st).1:=fun C S μ a w h=>by
 unfold Lx at hp ⊢
 split
 ·rename_i m f hb
  rw[hb]at hp
  obtain⟨rfl,hp⟩:=hp
  refine⟨S,μ,h.boxTo2 hb rfl ?_⟩
  obtain⟨us,h0,h1,h2,h3⟩:=h.heap.box g _ hb
  refine⟨us,h0,h1,fun r v hv=>?_,h3⟩
  have hr:=(UC.1 hv).1
  rw[hp r (by omega)]
  exact h2 r v hv
 ·rename_i hn
  split at hp
  ·rename_i m f hb;exact(hn _ _ hb).elim
  ·exact hp.elim
def Nd (g m':Nat) (f':Nat→ry):Ls:=⟨Lx g m' f',N5 g m' f'⟩
def E5 (f:Nat→ry) (st:St):St×Prop:=if cE st.heap.length st.env&&cF st.heap.length st.heap then (⟨st.env,st.heap++[.grp 0 f]⟩,True)else (st,False)
theorem Ly (f:Nat→ry) (st:St) (hp:(E5 f st).2):Gh st (E5 f st).1:=fun C S μ a w h=>by
 unfold E5 at hp ⊢
 split
 ·rename_i hc
  simp only[Uo]at hc
  have:=h.upd0 (id:=st.heap.length) (B:=.grp 0 f) (row:=none) (u:=.tuple #[]) (lR w) (fun k hk=>by cases hk) (Ut _)
   ⟨#[],rfl,rfl,fun r v hv=>by simp at hv,fun r r' v v' b hv=>by simp at hv⟩ (fun b hb=>by
    rcases hb with hb | ⟨us,e,k,x,hk,_⟩
    ·cases hb
    ·cases e;simp at hk) (.inr hc)
  rw[show cA st.heap st.heap.length (.grp 0 f)=st.heap++[.grp 0 f]from by simp[cA]]at this
  exact⟨_,_,this⟩
 ·rename_i hc
  rw[Ur hc]at hp
  exact hp.elim
def Rv (f:Nat→ry):Ls:=⟨E5 f,Ly f⟩
def Bs (g r q:Nat) (c c':D):Prop:=(c=.gr g r∧c'=.own q)∨(c'=c∧((∃r',c=.gr g r'∧r'≠r)∨(∃x,c=.v x)∨(c=.nils)∨∃p,c=.own p∧p≠q∧p≠g))
def ry.box (x:ry):aC:=.arr x.E x.sz x.enc x.d x.l
def tD (x:ry):ry:=⟨x.E,x.sz,x.α,x.enc,x.d,[]⟩
def u4 (f:Nat→ry) (r:Nat) (x:ry):Nat→ry:=fun i=>if i=r then x else f i
def E6 (a g r:Nat) (U':Nat→Nat→D) (st:St):St×Prop:=match st.heap[a]?,st.heap[g]? with
 | some (.arrD E sz n gs cell),some (.grp m f) =>
  if cE st.heap.length st.env&&cF st.heap.length st.heap then
   (⟨mZ g st.env,(((di g st.heap).set a (.arrD E sz n (st.heap.length::gs) U')).set g (.grp m (u4 f r (tD (f r)))))++[(f r).box]⟩,
    r<m∧∀i j,i<n→j<sz→Bs g r st.heap.length (cell i j) (U' i j))
  else (st,False)
 | _,_=>(st,False)
theorem IJ (S:Nat→Prop) (w:World) (x:ry):tf S w (.slice none 0 0) (tD x) :=
 ⟨fun i y hy=>(List.not_mem_nil (UV (show([]:List x.α)[i]?=some y from hy))).elim,[],VS w 0 _ _,fun i z j y hz=>(List.not_mem_nil (UV (show([]:List x.α)[i]?=some z from hz))).elim⟩
theorem aq.two {d:D} {u x y:Value} {g q:Nat} (h:aq S μ w d u) (hq:D.free q d=true):aq S (br (br μ q x) g y) w (Proofs.YtnlmlkbaflmgcaaGreat.killD g d) u:=by
 have h1:aq S (br μ q x) w d u:=h.stable (fun _ h _=>h) (fun _ _ _=>rfl) (Ut _) (fun id WG=>aP _ _ (fun e=>by rw[e,hq]at WG;cases WG))
 exact(h1.killD (id:=g)).stable (fun _ h _=>h) (fun _ _ _=>rfl) (Ut _) (fun id WG=>aP _ _ (fun e=>by rw[e,lL]at WG;cases WG))
theorem x9 (g:Nat) (B:aC):aC.free g (B.kill g)=true:=by
 have:=lN g [B]
 simp only[di,cF,Wo]at this
 exact this
theorem aN.two {B:aC} {u x y:Value} {g q:Nat} (h:aN S μ w u B) (hq:aC.free q B=true):aN S (br (br μ q x) g y) w u (B.kill g):=by
 have h1:aN S (br μ q x) w u B:=h.stable (fun _ h _=>h) (fun _ _ _=>rfl) (Ut _) (fun id WG=>aP _ _ (fun e=>by rw[e,hq]at WG;cases WG)) (fun _ _=>rfl)
 exact(h1.kill (id:=g)).stable (fun _ h _=>h) (fun _ _ _=>rfl) (Ut _) (fun id WG=>aP _ _ (fun e=>by rw[e,x9]at WG;cases WG)) (fun _ _=>rfl)
theorem Dv {g r:Nat} {u:Value} (h:aq S μ w (.gr g r) u):∃us:Array Value,μ g=.tuple us∧us[r]?=some u∧u.oneCell'=true:=by
 cases h with
 | gr _ _ us _ h1 h2 h3=>exact⟨us,h1,h2,h3⟩
theorem IK {H:List aC} {g a i:Nat} {A G X B:aC} (ha:a<H.length) (hg:g<H.length) (h:(((di g H).set a A).set g G++[X])[i]?=some B) :
  (i=H.length∧B=X)∨(i=g∧B=G)∨(i=a∧i≠g∧B=A)∨(i≠H.length∧i≠g∧i≠a∧∃B0,H[i]?=some B0∧B=B0.kill g):=by
 have hl:(((di g H).set a A).set g G).length=H.length:=by rw[UQ,UQ,dc]
 by_cases hi:i<H.length
 ·rw[UD (by omega)]at h
  refine .inr ?_
  by_cases e1:i=g
  ·subst e1
   rw[UI (by rw[UQ,dc];exact hg)]at h
   cases h
   exact .inl ⟨rfl,rfl⟩
  ·rw[UF (fun e=>e1 e.symm)]at h
   refine .inr ?_
   by_cases e2:i=a
   ·subst e2
    rw[UI (by rw[dc];exact ha)]at h
    cases h
    exact .inl ⟨rfl,e1,rfl⟩
   ·rw[UF (fun e=>e2 e.symm),gM]at h
    cases hc:H[i]? with
    | none=>rw[hc]at h;cases h
    | some B0=>rw[hc]at h;simp at h;exact .inr ⟨by omega,e1,e2,B0,rfl,h.symm⟩
 ·rw[UE (by omega),hl]at h
  have:i=H.length:=by
   have:=(Up.1 h).1
   simp at this
   omega
  subst this
  simp at h
  exact .inl ⟨rfl,h.symm⟩
theorem Lz (a g r:Nat) (U':Nat→Nat→D) (st:St) (hp:(E6 a g r U' st).2):Gh st (E6 a g r U' st).1:=fun C S μ act w h=>by
 unfold E6 at hp ⊢
 split
 rotate_left
 ·rename_i hn
  split at hp
  ·rename_i E sz n gs cell m f h1 h2;exact(hn _ _ _ _ _ _ _ h1 h2).elim
  ·exact hp.elim
 rename_i E sz n gs cell m f ZI YC
 rw[ZI,YC]at hp
 split
 rotate_left
 ·rename_i hc;simp only at hp;rw[Ur hc]at hp;exact hp.elim
 rename_i hc
 simp only at hp
 rw[Uw hc]at hp
 simp only[Uo]at hc
 obtain⟨fE,fH⟩:=hc
 obtain⟨hr,Xy⟩:=hp
 generalize hq:st.heap.length=q at *
 have hag:a≠g:=fun e=>by rw[e,YC]at ZI;cases ZI
 have Xm:a<q:=by rw[← hq];exact(Up.1 ZI).1
 have hgl:g<q:=by rw[← hq];exact(Up.1 YC).1
 obtain⟨us,WX,WE,W0,hdis⟩:=h.heap.box g _ YC
 obtain⟨a0,xs,a1,a2⟩:=h.heap.box a _ ZI
 have hrl:r<us.size:=by omega
 obtain⟨YG,hRr⟩:=W0 r us[r] (UM hrl)
 generalize hv:us[r]=v at *
 have hvr:us[r]?=some v:=by rw[UM hrl,hv]
 let XZ:=us.setIfInBounds r (.slice none 0 0)
 have YU:∀k,XZ[k]?=if k=r then some (.slice none 0 0)else us[k]?:=by
  intro k
  by_cases hk:k=r
  ·subst hk;rw[Uw rfl];simp[XZ,hrl]
  ·rw[Ur hk];simp only[XZ];exact Vk (fun e=>hk e.symm)
 have XY:∀(i:Nat) (B:aC),((((di g st.heap).set a (.arrD E sz n (q::gs) U')).set g (.grp m (u4 f r (tD (f r)))))++[(f r).box])[i]?=some B→_:=fun i B hB=>IK (by rw[hq];exact Xm) (by rw[hq];exact hgl) hB
 rw[hq]at XY
 have mq:br (br μ q v) g (.tuple XZ) q=v:=by rw[aP _ _ (by omega),aG]
 have mg:br (br μ q v) g (.tuple XZ) g=.tuple XZ:=aG _ _ _
 have mo:∀i,i≠g→i≠q→br (br μ q v) g (.tuple XZ) i=μ i:=fun i h1 h2=>by rw[aP _ _ h1,aP _ _ h2]
 have own:∀(i:Nat) (B:aC) (b:Nat),((((di g st.heap).set a (.arrD E sz n (q::gs) U')).set g (.grp m (u4 f r (tD (f r)))))++[(f r).box])[i]?=some B→B.live=true→cx (br (br μ q v) g (.tuple XZ) i) b →
   (i=q∧aO v=some b)∨(i=g∧∃k x,k≠r∧us[k]?=some x∧aO x=some b)∨(i≠q∧i≠g∧∃A,st.heap[i]?=some A∧A.live=true∧cx (μ i) b):=by
  intro i B b hB hl hb
  rcases XY i B hB with ⟨rfl,rfl⟩ | ⟨rfl,rfl⟩ | ⟨rfl,Xt,rfl⟩ | ⟨h1,h2,h3,B0,Y1,rfl⟩
  ·rw[mq]at hb
   exact .inl ⟨rfl,hb.bl YG⟩
  ·rw[mg]at hb
   rcases hb with hb | ⟨us2,e,k,x,hk,hx⟩
   ·cases hb
   ·cases e
    rw[YU]at hk
    split at hk
    ·cases hk;cases hx
    ·rename_i hkr;exact .inr (.inl ⟨rfl,k,x,hkr,hk,hx⟩)
  ·rw[mo i Xt (by omega)]at hb
   exact .inr (.inr ⟨by omega,Xt,_,ZI,rfl,hb⟩)
  ·rw[mo i h2 h1]at hb
   rw[gN]at hl
   exact .inr (.inr ⟨h1,h2,B0,Y1,hl,hb⟩)
 have inG:∀(k:Nat) (x:Value) (b:Nat),us[k]?=some x→aO x=some b→cx (μ g) b:=fun k x b hk hx=>.inr ⟨us,WX,k,x,hk,hx⟩
 refine⟨S,br (br μ q v) g (.tuple XZ),h.retell ?_ ?_ ?_ ?_ ?_⟩
 ·intro t d hm
  obtain⟨e,he,rfl⟩:=gL hm
  exact⟨e,he,fun u hu=>hu.two (eH fE he)⟩
 ·intro i B hB
  rcases XY i B hB with ⟨rfl,rfl⟩ | ⟨rfl,rfl⟩ | ⟨rfl,Xt,rfl⟩ | ⟨h1,h2,h3,B0,Y1,rfl⟩
  ·rw[mq];exact hRr
  ·rw[mg]
   refine⟨XZ,rfl,by simp[XZ,WE],fun k x hk=>?_,fun k k' x x' b hk Xr hx YH=>?_⟩
   ·rw[YU]at hk
    split at hk
    ·rename_i e
     cases hk
     subst e
     refine⟨rfl,?_⟩
     rw[show u4 f k (tD (f k)) k=tD (f k)from Uw rfl]
     exact IJ S w (f k)
    ·rename_i e
     rw[show u4 f r (tD (f r)) k=f k from Ur e]
     exact W0 k x hk
   ·rw[YU]at hk Xr
    split at hk
    ·cases hk;cases hx
    ·split at Xr
     ·cases Xr;cases YH
     ·exact hdis k k' x x' b hk Xr hx YH
  ·rw[mo i Xt (by omega)]
   refine⟨fun j k id hj hk WG=>?_,xs,a1,fun j k hj hk=>?_⟩
   ·simp only[We,Uo]at WG
    rcases Xy j k hj hk with ⟨_,e⟩ | ⟨e,_⟩
    ·rw[e];exact WG.1
    ·rw[e];exact a0 j k id hj hk WG.2
   ·obtain⟨z,hz,ho,hd⟩:=a2 j k hj hk
    refine⟨z,hz,ho,?_⟩
    rcases Xy j k hj hk with ⟨e1,e2⟩ | ⟨e,hc⟩
    ·rw[e1]at hd
     obtain⟨us2,g1,g2,_⟩:=Dv hd
     rw[WX]at g1
     cases g1
     rw[hvr]at g2
     cases g2
     rw[e2]
     have:=aq.own (S:=S) (μ:=br (br μ q v) g (.tuple XZ)) (w:=w) q
     rwa [mq]at this
    ·rw[e]
     rcases hc with ⟨r',e1,e2⟩ | ⟨x,e1⟩ | e1 | ⟨p,e1,e2,e3⟩
     ·rw[e1]at hd ⊢
      obtain⟨us2,g1,g2,g3⟩:=Dv hd
      rw[WX]at g1
      cases g1
      exact .gr g r' XZ z mg (by rw[YU,Ur e2];exact g2) g3
     ·rw[e1]at hd ⊢
      exact .v _ _ (bL hd)
     ·rw[e1]at hd ⊢
      cases hd
      exact .nils
     ·rw[e1]at hd ⊢
      have hu:=cj hd
      have:=aq.own (S:=S) (μ:=br (br μ q v) g (.tuple XZ)) (w:=w) p
      rw[mo p e3 e2]at this
      rw[hu]
      exact this
  ·rw[mo i h2 h1]
   exact(h.heap.box i B0 Y1).two (dZ fH Y1)
 ·intro i B b hB hl hb
  rcases own i B b hB hl hb with ⟨rfl,hv'⟩ | ⟨rfl,k,x,_,hk,hx⟩ | ⟨_,_,A,hA,hAl,hb⟩
  ·exact⟨g,_,YC,rfl,inG r v b hvr hv'⟩
  ·exact⟨i,_,YC,rfl,inG k x b hk hx⟩
  ·exact⟨i,A,hA,hAl,hb⟩
 ·intro i j A B b hA hB lA lB hbi hbj
  rcases own i A b hA lA hbi with ⟨rfl,YA⟩ | ⟨rfl,k,x,hkr,hk,hx⟩ | ⟨n1,n2,A0,hA0,Yr,Z5⟩<;>rcases own j B b hB lB hbj with ⟨rfl,Zc⟩ | ⟨rfl,k',x',hkr',Xr,YH⟩ | ⟨n3,n4,B0,Y1,ZJ,ZK⟩
  ·rfl
  ·exact(hkr' (hdis r k' v x' b hvr Xr YA YH).symm).elim
  ·exact(n4 (h.heap.apart j g B0 _ b Y1 YC ZJ rfl ZK (inG r v b hvr YA))).elim
  ·exact(hkr (hdis k r x v b hk hvr hx Zc)).elim
  ·rfl
  ·exact(n4 (h.heap.apart j i B0 _ b Y1 YC ZJ rfl ZK (inG k x b hk hx))).elim
  ·exact(n2 (h.heap.apart i g A0 _ b hA0 YC Yr rfl Z5 (inG r v b hvr Zc))).elim
  ·exact(n2 (h.heap.apart i j A0 _ b hA0 YC Yr rfl Z5 (inG k' x' b Xr YH))).elim
  ·exact h.heap.apart i j A0 B0 b hA0 Y1 Yr ZJ Z5 ZK
 ·intro i B hB X3
  rcases XY i B hB with ⟨rfl,rfl⟩ | ⟨rfl,rfl⟩ | ⟨rfl,Xt,rfl⟩ | ⟨h1,h2,h3,B0,Y1,rfl⟩
  ·cases X3
  ·cases X3
  ·cases X3
  ·rw[vi]at X3
   rw[show B0.kill g=B0 from by cases B0<;>first | rfl | cases X3]
   exact⟨Y1,mo i h2 h1⟩
def take (a g r:Nat) (U':Nat→Nat→D):Ls:=⟨E6 a g r U',Lz a g r U'⟩
def Dw (g r q:Nat) (c c':D):Prop:=(c=.own q∧c'=.gr g r)∨(c'=c∧((∃r',c=.gr g r'∧r'≠r)∨(∃x,c=.v x)∨(c=.nils)∨∃p,c=.own p∧p≠q∧p≠g))
def LA (a g q r m':Nat) (U':Nat→Nat→D) (f':Nat→ry) (st:St):St×Prop:=match st.heap[a]?,st.heap[g]?,st.heap[q]? with
 | some (.arrD E sz n gs cell),some (.grp m f),some (.arr E2 Z6 enc d l) =>
   (⟨mZ q (mZ g st.env),(((di q (di g st.heap)).set a (.arrD E sz n (g::gs) U')).set g (.grp m' f')).set q .dead⟩,
    r≤m∧m'=max m (r+1)∧(∀k,k<m'→f' k=if k=r then ⟨E2,Z6,_,enc,d,l⟩else f k)∧∀i j,i<n→j<sz→Dw g r q (cell i j) (U' i j))
 | _,_,_=>(st,False)
theorem IL {H:List aC} {q g a i:Nat} {A G B:aC} (ha:a<H.length) (hg:g<H.length) (hq:q<H.length) (h:((((di q (di g H)).set a A).set g G).set q .dead)[i]?=some B) :
  (i=q∧B=.dead)∨(i=g∧i≠q∧B=G)∨(i=a∧i≠g∧i≠q∧B=A)∨(i≠q∧i≠g∧i≠a∧∃B0,H[i]?=some B0∧B=(B0.kill g).kill q):=by
 by_cases e0:i=q
 ·subst e0
  rw[UI (by simp only[UQ,dc];exact hq)]at h
  cases h
  exact .inl ⟨rfl,rfl⟩
 ·rw[UF (fun e=>e0 e.symm)]at h
  refine .inr ?_
  by_cases e1:i=g
  ·subst e1
   rw[UI (by simp only[UQ,dc];exact hg)]at h
   cases h
   exact .inl ⟨rfl,e0,rfl⟩
  ·rw[UF (fun e=>e1 e.symm)]at h
   refine .inr ?_
   by_cases e2:i=a
   ·subst e2
    rw[UI (by simp only[dc];exact ha)]at h
    cases h
    exact .inl ⟨rfl,e1,e0,rfl⟩
   ·rw[UF (fun e=>e2 e.symm),gM,gM]at h
    cases hc:H[i]? with
    | none=>rw[hc]at h;cases h
    | some B0=>rw[hc]at h;simp at h;exact .inr ⟨e0,e1,e2,B0,rfl,h.symm⟩
theorem N6 (a g q r m':Nat) (U':Nat→Nat→D) (f':Nat→ry) (st:St) (hp:(LA a g q r m' U' f' st).2):Gh st (LA a g q r m' U' f' st).1:=fun C S μ act w h=>by
 unfold LA at hp ⊢
 split
 rotate_left
 ·rename_i hn
  split at hp
  ·rename_i E sz n gs cell m f E2 Z6 α enc d l h1 h2 h3;exact(hn _ _ _ _ _ _ _ _ _ _ _ _ _ h1 h2 h3).elim
  ·exact hp.elim
 rename_i E sz n gs cell m f E2 Z6 α enc d l ZI YC hbq
 rw[ZI,YC,hbq]at hp
 obtain⟨hr,rfl,hf',Xy⟩:=hp
 have hag:a≠g:=fun e=>by rw[e,YC]at ZI;cases ZI
 have haq:a≠q:=fun e=>by rw[e,hbq]at ZI;cases ZI
 have hgq:g≠q:=fun e=>by rw[e,hbq]at YC;cases YC
 have Xm:=(Up.1 ZI).1
 have hgl:=(Up.1 YC).1
 have Zh:=(Up.1 hbq).1
 obtain⟨us,WX,WE,W0,hdis⟩:=h.heap.box g _ YC
 obtain⟨a0,xs,a1,a2⟩:=h.heap.box a _ ZI
 have hB:=h.heap.box q _ hbq
 have YG:(μ q).oneCell'=true:=by
  obtain⟨p',c',hm,_⟩:=cN hB
  rw[hm]
  rfl
 obtain⟨XZ,hsz',YU⟩:∃XZ:Array Value,XZ.size=max m (r+1)∧∀k,XZ[k]?=if k=r then some (μ q)else us[k]?:=by
  by_cases Zl:r<m
  ·refine⟨us.setIfInBounds r (μ q),by rw[Array.size_setIfInBounds];omega,fun k=>?_⟩
   by_cases hk:k=r
   ·subst hk;rw[Uw rfl];simp[WE,Zl]
   ·rw[Ur hk];exact Vk (fun e=>hk e.symm)
  ·refine⟨us.push (μ q),by rw[Array.size_push];omega,fun k=>?_⟩
   have hrm':r=us.size:=by omega
   rw[Array.getElem?_push]
   by_cases hk:k=r
   ·rw[Uw hk,Uw (by omega)]
   ·rw[Ur hk,Ur (by omega)]
 have XY:∀(i:Nat) (B:aC),((((di q (di g st.heap)).set a (.arrD E sz n (g::gs) U')).set g (.grp (max m (r+1)) f')).set q .dead)[i]?=some B→_:=fun i B hB=>IL Xm hgl Zh hB
 have mg:br μ g (.tuple XZ) g=.tuple XZ:=aG _ _ _
 have mo:∀i,i≠g→br μ g (.tuple XZ) i=μ i:=fun i h1=>aP _ _ h1
 have own:∀(i:Nat) (B:aC) (b:Nat),((((di q (di g st.heap)).set a (.arrD E sz n (g::gs) U')).set g (.grp (max m (r+1)) f')).set q .dead)[i]?=some B→B.live=true→cx (br μ g (.tuple XZ) i) b →
   (i=g∧aO (μ q)=some b)∨(i=g∧∃k x,k≠r∧us[k]?=some x∧aO x=some b)∨(i≠q∧i≠g∧∃A,st.heap[i]?=some A∧A.live=true∧cx (μ i) b):=by
  intro i B b hB hl hb
  rcases XY i B hB with ⟨rfl,rfl⟩ | ⟨rfl,Xt,rfl⟩ | ⟨rfl,Xt,hne2,rfl⟩ | ⟨h1,h2,h3,B0,Y1,rfl⟩
  ·cases hl
  ·rw[mg]at hb
   rcases hb with hb | ⟨us2,e,k,x,hk,hx⟩
   ·cases hb
   ·cases e
    rw[YU]at hk
    split at hk
    ·cases hk;exact .inl ⟨rfl,hx⟩
    ·rename_i hkr;exact .inr (.inl ⟨rfl,k,x,hkr,hk,hx⟩)
  ·rw[mo i Xt]at hb
   exact .inr (.inr ⟨hne2,Xt,_,ZI,rfl,hb⟩)
  ·rw[mo i h2]at hb
   rw[gN,gN]at hl
   exact .inr (.inr ⟨h1,h2,B0,Y1,hl,hb⟩)
 have inG:∀(k:Nat) (x:Value) (b:Nat),us[k]?=some x→aO x=some b→cx (μ g) b:=fun k x b hk hx=>.inr ⟨us,WX,k,x,hk,hx⟩
 refine⟨S,br μ g (.tuple XZ),h.retell ?_ ?_ ?_ ?_ ?_⟩
 ·intro t d hm
  obtain⟨e,he,rfl⟩:=gL hm
  obtain⟨e',Y0,rfl⟩:=gL he
  exact⟨e',Y0,fun u hu=>((hu.killD (id:=g)).stable (fun _ h _=>h) (fun _ _ _=>rfl) (Ut _) (fun id WG=>aP _ _ (fun e=>by rw[e,lL]at WG;cases WG))).killD⟩
 ·intro i B hBi
  rcases XY i B hBi with ⟨rfl,rfl⟩ | ⟨rfl,Xt,rfl⟩ | ⟨rfl,Xt,hne2,rfl⟩ | ⟨h1,h2,h3,B0,Y1,rfl⟩
  ·trivial
  ·rw[mg]
   refine⟨XZ,rfl,hsz',fun k x hk=>?_,fun k k' x x' b hk Xr hx YH=>?_⟩
   ·rw[YU]at hk
    split at hk
    ·rename_i e
     cases hk
     subst e
     refine⟨YG,?_⟩
     rw[hf' k (by omega),Uw rfl]
     exact hB
    ·rename_i e
     have XL:=(UC.1 hk).1
     rw[hf' k (by omega),Ur e]
     exact W0 k x hk
   ·rw[YU]at hk Xr
    split at hk
    ·rename_i e1
     split at Xr
     ·rename_i e2;rw[e1,e2]
     ·cases hk;exact(hgq (h.heap.apart i q _ _ b YC hbq rfl rfl (inG k' x' b Xr YH) (.inl hx))).elim
    ·split at Xr
     ·cases Xr;exact(hgq (h.heap.apart i q _ _ b YC hbq rfl rfl (inG k x b hk hx) (.inl YH))).elim
     ·exact hdis k k' x x' b hk Xr hx YH
  ·rw[mo i Xt]
   refine⟨fun j k id hj hk WG=>?_,xs,a1,fun j k hj hk=>?_⟩
   ·simp only[We,Uo]at WG
    rcases Xy j k hj hk with ⟨_,e⟩ | ⟨e,_⟩
    ·rw[e];exact WG.1
    ·rw[e];exact a0 j k id hj hk WG.2
   ·obtain⟨z,hz,ho,hd⟩:=a2 j k hj hk
    refine⟨z,hz,ho,?_⟩
    rcases Xy j k hj hk with ⟨e1,e2⟩ | ⟨e,hc⟩
    ·rw[e1]at hd
     have hu:=cj hd
     rw[e2]
     exact .gr g r XZ z mg (by rw[YU,Uw rfl,hu]) ho
    ·rw[e]
     rcases hc with ⟨r',e1,e2⟩ | ⟨x,e1⟩ | e1 | ⟨p,e1,e2,e3⟩
     ·rw[e1]at hd ⊢
      obtain⟨us2,g1,g2,g3⟩:=Dv hd
      rw[WX]at g1
      cases g1
      exact .gr g r' XZ z mg (by rw[YU,Ur e2];exact g2) g3
     ·rw[e1]at hd ⊢
      exact .v _ _ (bL hd)
     ·rw[e1]at hd ⊢
      cases hd
      exact .nils
     ·rw[e1]at hd ⊢
      have hu:=cj hd
      have:=aq.own (S:=S) (μ:=br μ g (.tuple XZ)) (w:=w) p
      rw[mo p e3]at this
      rw[hu]
      exact this
  ·rw[mo i h2]
   exact(((h.heap.box i B0 Y1).kill (id:=g)).stable (fun _ h _=>h) (fun _ _ _=>rfl) (Ut _) (fun id WG=>aP _ _ (fun e=>by rw[e,x9]at WG;cases WG)) (fun _ _=>rfl)).kill
 ·intro i B b hBi hl hb
  rcases own i B b hBi hl hb with ⟨rfl,hv'⟩ | ⟨rfl,k,x,_,hk,hx⟩ | ⟨_,_,A,hA,hAl,hb⟩
  ·exact⟨q,_,hbq,rfl,.inl hv'⟩
  ·exact⟨i,_,YC,rfl,inG k x b hk hx⟩
  ·exact⟨i,A,hA,hAl,hb⟩
 ·intro i j A B b hA hBj lA lB hbi hbj
  rcases own i A b hA lA hbi with ⟨rfl,YA⟩ | ⟨rfl,k,x,hkr,hk,hx⟩ | ⟨n1,n2,A0,hA0,Yr,Z5⟩<;>rcases own j B b hBj lB hbj with ⟨rfl,Zc⟩ | ⟨rfl,k',x',hkr',Xr,YH⟩ | ⟨n3,n4,B0,Y1,ZJ,ZK⟩<;>first | rfl | skip
  ·exact(n3 (h.heap.apart j q B0 _ b Y1 hbq ZJ rfl ZK (.inl YA))).elim
  ·exact(n4 (h.heap.apart j i B0 _ b Y1 YC ZJ rfl ZK (inG k x b hk hx))).elim
  ·exact(n1 (h.heap.apart i q A0 _ b hA0 hbq Yr rfl Z5 (.inl Zc))).elim
  ·exact(n2 (h.heap.apart i j A0 _ b hA0 YC Yr rfl Z5 (inG k' x' b Xr YH))).elim
  ·exact h.heap.apart i j A0 B0 b hA0 Y1 Yr ZJ Z5 ZK
 ·intro i B hBi X3
  rcases XY i B hBi with ⟨rfl,rfl⟩ | ⟨rfl,Xt,rfl⟩ | ⟨rfl,Xt,hne2,rfl⟩ | ⟨h1,h2,h3,B0,Y1,rfl⟩
  ·cases X3
  ·cases X3
  ·cases X3
  ·rw[vi,vi]at X3
   rw[show(B0.kill g).kill q=B0 from by cases B0<;>first | rfl | cases X3]
   exact⟨Y1,mo i h2⟩
def put (a g q r m':Nat) (U':Nat→Nat→D) (f':Nat→ry):Ls:=⟨LA a g q r m' U' f',N6 a g q r m' U' f'⟩
def zG (id:Nat) (B':aC) (st:St):St×Prop:=match st.heap[id]? with
 | some B=>(⟨st.env,st.heap.set id B'⟩,B'=B)
 | none=>(st,False)
theorem IM (id:Nat) (B':aC) (st:St) (hp:(zG id B' st).2):Gh st (zG id B' st).1:=fun C S μ a w h=>by
 unfold zG at hp ⊢
 split
 ·rename_i B hb
  rw[hb]at hp
  have e:st.heap.set id B'=st.heap:=by
   refine List.ext_getElem? (fun j=>?_)
   rw[Wf]
   by_cases hj:id=j
   ·subst hj
    rw[Uw rfl,Uw (Up.1 hb).1,hb,show B'=B from hp]
   ·rw[Ur hj]
  rw[e]
  exact⟨S,μ,h⟩
 ·rename_i hn
  rw[hn]at hp
  exact hp.elim
def Nf (id:Nat) (B':aC):Ls:=⟨zG id B',IM id B'⟩
end
structure Lp (σ:Type):Type 1 where
 make ::
 keep:List Nat
 n:Nat
 all:(σ→Prop)→Prop
 hall:∀P,all P→∀s,P s
 mk:σ→St
 inv:σ→Prop
 m:σ→Nat
abbrev gD {α:Type} (keep:List Nat) (n:Nat) (mk:α→St) (inv:α→Prop) (m:α→Nat):Lp α:=⟨keep,n,fun P=>∀a,P a,fun _ h=>h,mk,inv,m⟩
abbrev nN {α β:Type} (keep:List Nat) (n:Nat) (mk:α→β→St) (inv:α→β→Prop) (m:α→β→Nat):Lp (α×β) :=
 ⟨keep,n,fun P=>∀a b,P (a,b),fun _ h ⟨a,b⟩=>h a b,fun | (a,b)=>mk a b,fun | (a,b)=>inv a b,fun | (a,b)=>m a b⟩
abbrev P0 {α β γ:Type} (keep:List Nat) (n:Nat) (mk:α→β→γ→St) (inv:α→β→γ→Prop) (m:α→β→γ→Nat):Lp (α×β×γ) :=
 ⟨keep,n,fun P=>∀a b c,P (a,b,c),fun _ h ⟨a,b,c⟩=>h a b c,fun | (a,b,c)=>mk a b c,fun | (a,b,c)=>inv a b c,fun | (a,b,c)=>m a b c⟩
abbrev TG {α β γ δ:Type} (keep:List Nat) (n:Nat) (mk:α→β→γ→δ→St) (inv:α→β→γ→δ→Prop) (m:α→β→γ→δ→Nat):Lp (α×β×γ×δ) :=
 ⟨keep,n,fun P=>∀a b c d,P (a,b,c,d),fun _ h ⟨a,b,c,d⟩=>h a b c d,fun | (a,b,c,d)=>mk a b c d,fun | (a,b,c,d)=>inv a b c d,fun | (a,b,c,d)=>m a b c d⟩
abbrev TW {α β γ δ ε:Type} (keep:List Nat) (n:Nat) (mk:α→β→γ→δ→ε→St) (inv:α→β→γ→δ→ε→Prop) (m:α→β→γ→δ→ε→Nat):Lp (α×β×γ×δ×ε) :=
 ⟨keep,n,fun P=>∀a b c d e,P (a,b,c,d,e),fun _ h ⟨a,b,c,d,e⟩=>h a b c d e,fun | (a,b,c,d,e)=>mk a b c d e,fun | (a,b,c,d,e)=>inv a b c d e,fun | (a,b,c,d,e)=>m a b c d e⟩
def Lp.ag {σ:Type} (L:Lp σ) (s:σ) (st:St):Prop:=∃s',st=L.mk s'∧L.inv s'∧L.m s'<L.m s
def Lp.at {σ:Type} (L:Lp σ) (st:St):Prop:=∃s',st=L.mk s'∧L.inv s'
inductive bS:Type 1
 | e
 | w (id:Nat) (o:List (Nat×Ov)) (h:bS)
 | q (id:Nat) (keep:List Nat) (n:Nat) (h:bS)
 | f (id b:Nat) (h:bS)
 | g (id i j E sz:Nat) {α:Type} (enc:α→List V) (d:α) (h:bS)
 | gs (id t E sz:Nat) {α:Type} (enc:α→List V) (d:α) (h:bS)
 | mv (id j i:Nat) (h:bS)
 | s (id:Nat) (P:Prop) (x y:bS)
 | y (id:Nat) (o:List (Nat×Ov)) (tab:Dj) (h:bS)
 | c (t:Nat) (P:Prop) [i:Decidable P] (x y:bS)
 | n (t:Nat) (P:Prop) [i:Decidable P] (x y:bS)
 | b (t:Nat) (x y:bS)
 | t (t:Nat) (x:bS)
 | u (t:Nat) (x:bS)
 | l {σ:Type} (L:Lp σ) (s0:σ) (h:σ→bS)
 | r (n:Nat) (h:bS)
 | k (id:Nat) {σ:Type} (L:Lp σ) (x:bS) (h:σ→bS)
 | rg (e:Exit) (st:St) (h:bS)
 | gh (id:Nat) (F:Ls) (h:bS)
def P1 (o:Oper):Bool:=match o.op with
 | .store _ _ _=>true
 | .call ⟨.builtin .append,_,_⟩=>true
 | .call ⟨.builtin .copy,_,_⟩=>true
 | _=>false
def P2:Ov→Bool
 | .inl _ _ _=>true
 | .inls _=>true
 | .yld _ _ _=>true
 | _=>false
def P3:Ov→Bool
 | .app _ _ _ _ _ _=>true
 | _=>false
def P4:Ov→Bool
 | .val .junk=>true
 | _=>false
def E7 (WS:List (Nat×Ov)):List Nat→Nat→List Oper→Nat
 | _,_,[]=>0
 | rd,i,o::r=>if (P1 o&&!(P3 (qN WS i)||P4 (qN WS i)))||P2 (qN WS i)||(match o.dst with | some t=>rd.any (fun s=>Nat.beq t s) | none=>false)then 0 else E7 WS (Iw o.op++rd) (i+1) r+1
def LC (P:Program) (nt:Nat) (ops:List Oper) (WS:List (Nat×Ov)) (tab:Dj) (st:St) (k:St→Prop):Prop :=
 match P.follows .mixedOrders&&ops.all (fun o=>!eN o),ka tab (List.replicate ops.length false),ka tab (List.replicate ops.length true)with
 | true,some st0,some Xl=>Dk st st0=st0∧Ll P nt ops WS tab tab∧nS Xl k
 | _,_,_=>False
def xi (id:Nat):bS→St→(List (Nat×Ov)→Option Dj→bS→St→Prop)→Prop
 | .w i o h,st,k=>match Nat.beq i id with
  | true=>k o none h st
  | false=>k [] none (.w i o h) st
 | .y i o t h,st,k=>match Nat.beq i id with
  | true=>k o (some t) h st
  | false=>k [] none (.y i o t h) st
 | .q i kp n h,st,k=>match Nat.beq i id with
  | true=>nS (keepS kp n st) (fun P'=>xi id h P' k)
  | false=>k [] none (.q i kp n h) st
 | .f i b h,st,k=>match Nat.beq i id with
  | true=>match oQ b st with
   | some P'=>nS P' (fun P'=>xi id h P' k)
   | none=>False
  | false=>k [] none (.f i b h) st
 | .g i a j E sz enc d h,st,k=>match Nat.beq i id with
  | true=>match Di a j E sz enc d st with
   | some P'=>nS P' (fun P'=>xi id h P' k)
   | none=>False
  | false=>k [] none (.g i a j E sz enc d h) st
 | .gs i t E sz enc d h,st,k=>match Nat.beq i id with
  | true=>match adoptE t E sz enc d st with
   | some P'=>nS P' (fun P'=>xi id h P' k)
   | none=>False
  | false=>k [] none (.gs i t E sz enc d h) st
 | .mv i j a h,st,k=>match Nat.beq i id with
  | true=>match ES j a st with
   | some P'=>nS P' (fun P'=>xi id h P' k)
   | none=>False
  | false=>k [] none (.mv i j a h) st
 | .gh i F h,st,k=>match Nat.beq i id with
  | true=>(F.F st).2∧nS (F.F st).1 (fun P'=>xi id h P' k)
  | false=>k [] none (.gh i F h) st
 | .s i P x y,st,k=>match Nat.beq i id with
  | true=>(P→xi id x st k)∧(¬P→xi id y st k)
  | false=>k [] none (.s i P x y) st
 | h,st,k=>k [] none h st
def P5:Operand→Nat
 | .tmp t=>t+1
 | _=>0
def wu (t:Nat) (b:Bool) (X Y:bS→Prop):bS→Prop
 | @bS.c t' P i x y=>match Nat.beq (t'+1) t with
  | true=>b=@decide P i∧(P→X x)∧(¬P→Y y)
  | false=>match b with | true=>X (@bS.c t' P i x y) | false=>Y (@bS.c t' P i x y)
 | @bS.n t' P i x y=>match Nat.beq (t'+1) t with
  | true=>b=(!@decide P i)∧(¬P→X x)∧(P→Y y)
  | false=>match b with | true=>X (@bS.n t' P i x y) | false=>Y (@bS.n t' P i x y)
 | .b t' x y=>match Nat.beq (t'+1) t with
  | true=>(b=true→X x)∧(b=false→Y y)
  | false=>match b with | true=>X (.b t' x y) | false=>Y (.b t' x y)
 | .t t' x=>match Nat.beq (t'+1) t with
  | true=>b=true∧X x
  | false=>match b with | true=>X (.t t' x) | false=>Y (.t t' x)
 | .u t' x=>match Nat.beq (t'+1) t with
  | true=>b=false∧Y x
  | false=>match b with | true=>X (.u t' x) | false=>Y (.u t' x)
 | h=>match b with | true=>X h | false=>Y h
def IP:Code→Option Nat
 | .region id _ _=>some id
 | .seq a _=>IP a
 | .block _ a=>IP a
 | .loop a=>IP a
 | .cond _ a _=>IP a
 | _=>none
def P6 (x:Code):bS→Bool
 | .k id _ _ _=>match IP x with | some i=>Nat.beq i id | none=>false
 | _=>false
@[reducible] def kSeq (n:bS→St→Prop) (K:bS→Exit→St→Prop) (h:bS) (e:Exit) (st:St):Prop:=match e with
 | .normal=>n h st
 | e=>K h e st
@[reducible] def kBlock (id:Nat) (K:bS→Exit→St→Prop) (h:bS) (e:Exit) (st:St):Prop:=match e with
 | .exit i=>match Nat.beq i id with | true=>K h .normal st | false=>K h (.exit i) st
 | e=>K h e st
def LD (body:(bS→Exit→St→Prop)→bS→St→Prop) (K:bS→Exit→St→Prop):Nat→bS→St→Prop
 | 0,_,_=>False
 | n+1,h,st=>body (fun h' e P'=>match e with | .normal=>LD body K n h' P' | e=>K h' e P') h st
def LF (P:Program) (nt:Nat) (c:Code) (st:St) (e:Exit) (P':St):Prop:=∀C:ns,C.P=P→C.nt=nt→C.rd=none→Ev C c (fun e1 Xl=>e1=e∧Xl=P') st
def N7:Code→Bool
 | .seq a b=>N7 a&&N7 b
 | .cond _ a b=>N7 a&&N7 b
 | .block _ a=>N7 a
 | .loop a=>N7 a
 | .rangeFunc _ _ _ _=>false
 | _=>true
def vc (P:Program) (nt:Nat):Code→(bS→Exit→St→Prop)→bS→St→Prop
 | .skip,K,h,st=>K h .normal st
 | .label _,K,h,st=>K h .normal st
 | .exit i,K,h,st=>K h (.exit i) st
 | .ret,K,h,st=>K h .ret st
 | .seq x y,K,h,st=>match P6 x h with
  | false=>vc P nt x (kSeq (vc P nt y K) K) h st
  | true=>match h with
   | .k _ L hx hy=>vc P nt x (fun h' e P'=>match e with | .normal=>L.at (keepS L.keep L.n P') | e=>K h' e P') hx st∧L.all (fun s=>L.inv s→vc P nt y K (hy s) (L.mk s))
   | _=>False
 | .block i c,K,h,st=>vc P nt c (kBlock i K) h st
 | .cond c x y,K,h,st=>match fF st.env c with
  | .v (.bool b)=>wu (P5 c) b (fun h=>vc P nt x K h st) (fun h=>vc P nt y K h st) h
  | _=>False
 | .loop c,K,h,st=>match h with
  | .l L s0 hb=>keepS L.keep L.n st=L.mk s0∧L.inv s0∧L.all (fun s=>L.inv s→vc P nt c (fun h' e P'=>match e with | .normal=>L.ag s (keepS L.keep L.n P') | e=>K h' e P') (hb s) (L.mk s))
  | .r n h=>LD (fun K=>vc P nt c K) K n h st
  | _=>False
 | .region id ops YS,K,h,st=>xi id h st fun o t h st=>match t with
  | some tab=>match YS with
   | true=>match ka tab (List.replicate ops.toList.length false)with
    | some _=>LC P nt ops.toList o tab st (fun st=>K h .normal st)
    | none=>False
   | false=>False
  | none=>match YS with
   | false=>zC P nt ops.toList o 0 ops.toList st (fun st=>nS st (fun st=>K h .normal st))
   | true=>N1 P nt ops.toList o (E7 o [] 0 ops.toList) st (fun st=>nS st (fun st=>K h .normal st))
 | .rangeFunc g ps asg bd,K,h,st=>match h with
  | .rg e P' h'=>LF P nt (.rangeFunc g ps asg bd) st e P'∧K h' e P'
  | _=>False
 | _,_,_,_=>False
section
variable {C:ns} {Q:Exit→St→Prop}
theorem Ev.regA {st P':St} {id:Nat} {ops:List Oper} (WS:List (Nat×Ov)) {p:Prop} (h:fv C.P C.nt ops WS 0 ops st=(P',p)) (hp:p) (hq:Q .normal P'):Ev C (.region id ops.toArray false) Q st:=fun a w S μ hR =>
 wpIn_region_lit (rR ops 0 st S μ a w p hR h hp (fun S' μ' a' w' Xj=>⟨_,S',μ',hq,Xj⟩))
theorem Ev.gh {c:Code} {st P':St} (h:Gh st P') (he:Ev C c Q P'):Ev C c Q st:=fun a w S μ hR=>by
 obtain⟨S',μ',h'⟩:=h C S μ a w hR
 exact he a w S' μ' h'
theorem N8 {id:Nat} {c:Code} {k:List (Nat×Ov)→Option Dj→bS→St→Prop} (hk:∀o t h st,k o t h st→Ev C c Q st):∀(h:bS) (st:St),xi id h st k→Ev C c Q st:=by
 intro h
 induction h with
 | w i o h ih=>intro st hp;unfold xi at hp;split at hp<;>exact hk _ _ _ _ hp
 | y i o t h ih=>intro st hp;unfold xi at hp;split at hp<;>exact hk _ _ _ _ hp
 | q i kp n h ih =>
  intro st hp;unfold xi at hp;split at hp
  ·rw[rS]at hp;exact Ev.keep kp n rfl (ih _ hp)
  ·exact hk _ _ _ _ hp
 | f i b h ih =>
  intro st hp;unfold xi at hp;split at hp
  ·split at hp
   ·rename_i P' hf;rw[rS]at hp;exact Ev.freeze b hf (ih _ hp)
   ·exact hp.elim
  ·exact hk _ _ _ _ hp
 | g i a j E sz enc d h ih =>
  intro st hp;unfold xi at hp;split at hp
  ·split at hp
   ·rename_i P' hf;rw[rS]at hp;exact Ev.adopt a j E sz enc d hf (ih _ hp)
   ·exact hp.elim
  ·exact hk _ _ _ _ hp
 | gs i t E sz enc d h ih =>
  intro st hp;unfold xi at hp;split at hp
  ·split at hp
   ·rename_i P' hf;rw[rS]at hp;exact Ev.adoptE t E sz enc d hf (ih _ hp)
   ·exact hp.elim
  ·exact hk _ _ _ _ hp
 | mv i j a h ih =>
  intro st hp;unfold xi at hp;split at hp
  ·split at hp
   ·rename_i P' hf;rw[rS]at hp;exact Ev.move j a hf (ih _ hp)
   ·exact hp.elim
  ·exact hk _ _ _ _ hp
 | gh i F h ih =>
  intro st hp;unfold xi at hp;split at hp
  ·rw[rS]at hp;exact Ev.gh (F.ok st hp.1) (ih _ hp.2)
  ·exact hk _ _ _ _ hp
 | s i P x y ih1 ih2 =>
  intro st hp;unfold xi at hp;split at hp
  ·by_cases hP:P
   ·exact ih1 _ (hp.1 hP)
   ·exact ih2 _ (hp.2 hP)
  ·exact hk _ _ _ _ hp
 | _=>intro st hp;unfold xi at hp;exact hk _ _ _ _ hp
theorem jf {b:Bool} {X Y:bS→Prop} (h:bS) (hh:match b with | true=>X h | false=>Y h):(b=true→∃h',X h')∧(b=false→∃h',Y h'):=by
 cases b
 ·exact⟨fun h=>(by cases h),fun _=>⟨_,hh⟩⟩
 ·exact⟨fun _=>⟨_,hh⟩,fun h=>(by cases h)⟩
theorem IQ {t:Nat} {b:Bool} {X Y:bS→Prop} {h:bS} (hc:wu t b X Y h):(b=true→∃h',X h')∧(b=false→∃h',Y h'):=by
 cases h with
 | c t' P x y =>
  simp only[wu]at hc;split at hc
  ·obtain⟨h1,h2,h3⟩:=hc
   subst h1
   exact⟨fun h=>⟨_,h2 (VF h)⟩,fun h=>⟨_,h3 (of_decide_eq_false h)⟩⟩
  ·exact jf _ hc
 | n t' P x y =>
  simp only[wu]at hc;split at hc
  ·obtain⟨h1,h2,h3⟩:=hc
   subst h1
   exact⟨fun h=>⟨_,h2 (by simpa using h)⟩,fun h=>⟨_,h3 (by simpa using h)⟩⟩
  ·exact jf _ hc
 | b t' x y =>
  simp only[wu]at hc;split at hc
  ·exact⟨fun h=>⟨_,hc.1 h⟩,fun h=>⟨_,hc.2 h⟩⟩
  ·exact jf _ hc
 | t t' x =>
  simp only[wu]at hc;split at hc
  ·exact⟨fun h=>⟨_,hc.2⟩,fun h=>(by rw[hc.1]at h;cases h)⟩
  ·exact jf _ hc
 | u t' x =>
  simp only[wu]at hc;split at hc
  ·exact⟨fun h=>(by rw[hc.1]at h;cases h),fun h=>⟨_,hc.2⟩⟩
  ·exact jf _ hc
 | _=>exact jf _ hc
theorem G4 {id:Nat} {ops:Array Oper} {YS:Bool} {h:bS} {st:St} {K:bS→Exit→St→Prop} (hv:vc C.P C.nt (.region id ops YS) K h st) (hK:∀h st,K h .normal st→Q .normal st):Ev C (.region id ops YS) Q st:=by
 unfold vc at hv
 refine N8 ?_ h st hv
 intro o t h st hq
 have ha:ops=ops.toList.toArray:=by simp
 cases t with
 | some tab =>
  cases YS with
  | false=>exact hq.elim
  | true =>
   replace hq:(match ka tab (List.replicate ops.toList.length false)with
    | some _=>LC C.P C.nt ops.toList o tab st (fun st=>K h .normal st)
    | none=>False):=hq
   cases h00:ka tab (List.replicate ops.toList.length false)with
   | none =>
    rw[h00]at hq
    exact hq.elim
   | some st00 =>
   rw[h00]at hq
   replace hq:LC C.P C.nt ops.toList o tab st (fun st=>K h .normal st):=hq
   unfold LC at hq
   cases hb:C.P.follows .mixedOrders&&ops.toList.all (fun o=>!eN o)with
   | false=>rw[hb]at hq;exact hq.elim
   | true =>
   cases h0:ka tab (List.replicate ops.toList.length false)with
   | none=>rw[hb,h0]at hq;exact hq.elim
   | some st0 =>
   cases h1:ka tab (List.replicate ops.toList.length true)with
   | none=>rw[hb,h0,h1]at hq;exact hq.elim
   | some Xl =>
   rw[hb,h0,h1]at hq
   simp only[Uo]at hb
   obtain⟨q1,q2,q3⟩:=hq
   rw[rS]at q3
   rw[ha]
   exact Ev.any (P':=Xl) o tab hb.1 hb.2 h0 q1 h1 rfl q2 (hK _ _ q3)
 | none =>
  cases YS with
  | false =>
   obtain⟨h1,h2⟩:=vu _ _ _ _ hq
   rw[rS]at h2
   rw[ha]
   exact Ev.regA o rfl h1 (hK _ _ h2)
  | true =>
   rw[ha]
   refine Ev.dw o (E7 o [] 0 ops.toList) ?_
   have hq':N1 C.P C.nt ops.toList o (E7 o [] 0 ops.toList) st (fun st=>nS st (fun st=>K h .normal st)):=by simpa using hq
   exact IG hq' (fun Xl h1=>hK _ _ (by rwa [rS]at h1))
theorem wv {c:Code} (ih:∀(K:bS→Exit→St→Prop) (h:bS) (st:St),vc C.P C.nt c K h st→Ev C c (fun e st=>∃h',K h' e st) st) (K:bS→Exit→St→Prop):∀(n:Nat) (h:bS) (st:St) (S:Nat→Prop) (μ:Nat→Value) (a:Act) (w:World),bk C S μ st a w →
  LD (fun K=>vc C.P C.nt c K) K n h st→Code.roundsIn (qE C.rd) 0 C.P c (fun e a' w'=>∃P' S' μ',(∃h',K h' e P')∧bk C S' μ' P' a' w') n a w
 | 0,h,st,S,μ,a,w,hR,hv=>hv.elim
 | n+1,h,st,S,μ,a,w,hR,hv=>by
  rw[roundsIn_succ]
  refine wpIn_mono (ih _ _ _ hv a w S μ hR) ?_
  rintro e a' w' ⟨P',S',μ',⟨h',hq⟩,Xj⟩
  cases e with
  | normal=>exact wv ih K n h' P' S' μ' a' w' Xj hq
  | exit i=>exact⟨P',S',μ',⟨h',hq⟩,Xj⟩
  | goto l=>exact⟨P',S',μ',⟨h',hq⟩,Xj⟩
  | ret=>exact⟨P',S',μ',⟨h',hq⟩,Xj⟩
  | panic ch=>exact⟨P',S',μ',⟨h',hq⟩,Xj⟩
  | outgrown=>exact⟨P',S',μ',⟨h',hq⟩,Xj⟩
theorem G5 {c:Code} (ih:∀(K:bS→Exit→St→Prop) (h:bS) (st:St),vc C.P C.nt c K h st→Ev C c (fun e st=>∃h',K h' e st) st) (K:bS→Exit→St→Prop) (n:Nat) (h:bS) (st:St) (hv:LD (fun K=>vc C.P C.nt c K) K n h st):Ev C (.loop c) (fun e st=>∃h',K h' e st) st :=
 fun a w S μ hR=>wpIn_loop_rounds n (wv ih K n h st S μ a w hR hv)
theorem P7 {p:Prop} {a b:Bool} (h:p∨(a&&b)=true):p∨a=true:=h.imp_right fun h=>by rw[Uo]at h;exact h.1
theorem P8 {p:Prop} {a b:Bool} (h:p∨(a&&b)=true):p∨b=true:=h.imp_right fun h=>by rw[Uo]at h;exact h.2
theorem G6:∀(c:Code),(C.rd=none∨N7 c=true)→∀(K:bS→Exit→St→Prop) (h:bS) (st:St),vc C.P C.nt c K h st→Ev C c (fun e st=>∃h',K h' e st) st:=by
 intro c
 induction c with
 | skip=>intro _ K h st hv;exact Ev.skip ⟨h,hv⟩
 | label l=>intro _ K h st hv;exact Ev.label ⟨h,hv⟩
 | exit i=>intro _ K h st hv;exact Ev.exit ⟨h,hv⟩
 | ret=>intro _ K h st hv;exact Ev.ret ⟨h,hv⟩
 | region id ops YS=>intro _ K h st hv;exact G4 hv (fun h st hk=>⟨h,hk⟩)
 | seq x y ihx ihy =>
  intro hr K h st hv
  have ihx:=ihx (P7 hr)
  have ihy:=ihy (P8 hr)
  unfold vc at hv
  split at hv
  ·refine Ev.seq ((ihx _ _ _ hv).mono ?_)
   rintro e P' ⟨h',hq⟩
   cases e with
   | normal=>exact ihy _ _ _ hq
   | exit i=>exact⟨h',hq⟩
   | goto l=>exact⟨h',hq⟩
   | ret=>exact⟨h',hq⟩
   | panic ch=>exact⟨h',hq⟩
   | outgrown=>exact⟨h',hq⟩
  ·cases h with
   | k id L hx hy =>
    obtain⟨h1,h2⟩:=hv
    refine Ev.cut L.keep L.n L.mk L.inv ((ihx _ _ _ h1).mono ?_) (fun s hs=>ihy _ _ _ (L.hall _ h2 s hs))
    rintro e P' ⟨h',hq⟩
    cases e with
    | normal=>exact hq
    | exit i=>exact⟨h',hq⟩
    | goto l=>exact⟨h',hq⟩
    | ret=>exact⟨h',hq⟩
    | panic ch=>exact⟨h',hq⟩
    | outgrown=>exact⟨h',hq⟩
   | _=>exact hv.elim
 | cond c x y ihx ihy =>
  intro hr K h st hv
  have ihx:=ihx (P7 hr)
  have ihy:=ihy (P8 hr)
  unfold vc at hv
  split at hv
  ·rename_i b hb
   obtain⟨h1,h2⟩:=IQ hv
   exact Ev.cond b hb (fun hb=>by obtain⟨h',q⟩:=h1 hb;exact ihx _ _ _ q) (fun hb=>by obtain⟨h',q⟩:=h2 hb;exact ihy _ _ _ q)
  ·exact hv.elim
 | block i c ih =>
  intro hr K h st hv
  have ih:=ih hr
  unfold vc at hv
  refine Ev.block ((ih _ _ _ hv).mono ?_)
  rintro e P' ⟨h',hq⟩
  cases e with
  | exit j =>
   show(if Nat.beq j i=true then _ else _)
   change (match Nat.beq j i with | true=>K h' .normal P' | false=>K h' (.exit j) P')at hq
   by_cases hj:Nat.beq j i=true
   ·rw[hj]at hq;rw[Uw hj];exact⟨h',hq⟩
   ·rw[Ur hj]
    simp only[Wc]at hj
    rw[hj]at hq
    exact⟨h',hq⟩
  | normal=>exact⟨h',hq⟩
  | goto l=>exact⟨h',hq⟩
  | ret=>exact⟨h',hq⟩
  | panic ch=>exact⟨h',hq⟩
  | outgrown=>exact⟨h',hq⟩
 | loop c ih =>
  intro hr K h st hv
  have ih:=ih hr
  unfold vc at hv
  split at hv
  ·rename_i σ L s0 hb
   obtain⟨h1,h2,h3⟩:=hv
   refine Ev.loop L.keep L.n L.mk L.inv L.m s0 h1 h2 ?_
   intro s hs
   refine(ih _ _ _ (L.hall _ h3 s hs)).mono ?_
   rintro e P' ⟨h',hq⟩
   cases e with
   | normal=>exact hq
   | exit i=>exact⟨h',hq⟩
   | goto l=>exact⟨h',hq⟩
   | ret=>exact⟨h',hq⟩
   | panic ch=>exact⟨h',hq⟩
   | outgrown=>exact⟨h',hq⟩
  ·exact G5 ih K _ _ _ hv
  ·exact hv.elim
 | rangeFunc g ps asg bd =>
  intro hr K h st hv
  unfold vc at hv
  split at hv
  ·rcases hr with hr | hr
   ·exact(hv.1 C rfl rfl hr).mono (fun e1 Xl hq=>by obtain⟨rfl,rfl⟩:=hq;exact⟨_,hv.2⟩)
   ·cases hr
  ·exact hv.elim
 | _=>intro _ K h st hv;exact(by unfold vc at hv;exact hv.elim)
theorem ww (hr:C.rd=none) (c:Code):∀(K:bS→Exit→St→Prop) (h:bS) (st:St),vc C.P C.nt c K h st→Ev C c (fun e st=>∃h',K h' e st) st:=G6 c (.inl hr)
end
def u5 (P:Program) (st:St):List ResultVar→(List D→Prop)→Prop
 | [],k=>k []
 | r::rs,k=>match GV P st r with
  | (d,p)=>p∧u5 P st rs (fun ds=>k (d::ds))
theorem vx {P:Program} {st:St}:∀(rs:List ResultVar) (k:List D→Prop),u5 P st rs k→(resL P st rs).2∧k (resL P st rs).1
 | [],k,h=>⟨trivial,h⟩
 | r::rs,k,h=>by
  unfold u5 at h
  unfold resL
  generalize hq:GV P st r=q at h
  obtain⟨d,p⟩:=q
  obtain⟨h1,h2⟩:=h
  obtain⟨h3,h4⟩:=vx rs _ h2
  exact⟨⟨h1,h3⟩,h4⟩
def P9 (H:List aC):D→D→Prop
 | .tup xs,.tup ys=>PP H xs ys
 | x,y=>M8 H x y
def Ro:D→D→Prop
 | .tup xs,.tup ys=>Rm xs ys
 | x,y=>NU x y
def IR:List D→D
 | [d]=>d
 | ds=>.tup ds
def N9 (al:Bool) (H:List aC) (x r:D):Prop:=match al with
 | true=>P9 H x r
 | false=>P9 H x r∧Ro x r
def Qa (P:Program) (fn:Func) (al:Bool) (r:D) (_:bS) (e:Exit) (st:St):Prop:=match e with
 | .normal=>u5 P st fn.results.toList (fun ds=>N9 al st.heap (IR ds) r)
 | .ret=>u5 P st fn.results.toList (fun ds=>N9 al st.heap (IR ds) r)
 | _=>False
theorem zH {P:Program} {st:St} {rs:List ResultVar}:GW P rs st=(IR (resL P st rs).1,(resL P st rs).2):=by
 unfold GW
 generalize resL P st rs=q
 obtain⟨ds,p⟩:=q
 match ds with
 | []=>rfl
 | [d]=>rfl
 | d::e::r=>rfl
theorem E8 {al:Bool} {H:List aC} {x r:D} (h1:P9 H x r) (h2:al=true∨Ro x r):Bh al H x r:=by
 unfold Bh
 split
 ·exact⟨h1,h2⟩
 ·rename_i Xt
  have e1:P9 H x r=M8 H x r:=by
   unfold P9;split
   ·exact(Xt _ _ rfl rfl).elim
   ·rfl
  have e2:Ro x r=NU x r:=by
   unfold Ro;split
   ·exact(Xt _ _ rfl rfl).elim
   ·rfl
  rw[e1]at h1;rw[e2]at h2
  exact⟨h1,h2⟩
theorem LG {P:Program} {fn:Func} {al:Bool} {r:D} {h:bS} {e:Exit} {st:St} (hk:Qa P fn al r h e st):PV P fn al r e st:=by
 have key:u5 P st fn.results.toList (fun ds=>N9 al st.heap (IR ds) r)→iU P fn st∧Bh al st.heap (i2 P fn st) r:=by
  intro hq
  obtain⟨h1,h2⟩:=vx _ _ hq
  unfold iU i2
  rw[zH]
  refine⟨h1,?_⟩
  cases al
  ·exact E8 h2.1 (.inr h2.2)
  ·exact E8 h2 (.inl rfl)
 cases e with
 | normal=>exact key hk
 | ret=>exact key hk
 | exit i=>exact hk.elim
 | goto l=>exact hk.elim
 | panic ch=>exact hk.elim
 | outgrown=>exact hk.elim
theorem ah.vc {P:Program} {f:FuncId} {fn:Func} {c:Code} {q':List D} {al:Bool} {r:D} {V:Prop} (Zv:bS) (hf:P.funcs[f]?=some fn) (hb:fn.body=some c) (hn:Nat.ble q'.length fn.ntmps=true) (hr:fm r=true)
  (hv:Proofs.YtnlmlkbaflmgcaaGreat.vc P fn.ntmps c (Qa P fn al r) Zv ⟨m4 0 q',[]⟩=V) (pf:V):ah P f q' [] al r []:=by
 refine ah.of_ev hf hb hn hr ?_
 intro C h1 h2 hrd_
 subst h1
 rw[← hv,← h2]at pf
 exact(ww hrd_ c _ Zv _ pf).mono (fun e P' ⟨h',hk⟩=>LG hk)
def Qb (P:Program) (fn:Func) (r:D) (H:List aC) (_:bS) (e:Exit) (st:St):Prop:=match e with
 | .normal=>u5 P st fn.results.toList (fun ds=>xh (IR ds) r∧st.heap.take H.length=H)
 | .ret=>u5 P st fn.results.toList (fun ds=>xh (IR ds) r∧st.heap.take H.length=H)
 | _=>False
theorem LH {P:Program} {fn:Func} {r:D} {H:List aC} {h:bS} {e:Exit} {st:St} (hk:Qb P fn r H h e st):PT P fn r H e st:=by
 have key:u5 P st fn.results.toList (fun ds=>xh (IR ds) r∧st.heap.take H.length=H)→iU P fn st∧xh (i2 P fn st) r∧st.heap.take H.length=H:=by
  intro hq
  obtain⟨h1,h2⟩:=vx _ _ hq
  unfold iU i2
  rw[zH]
  exact⟨h1,h2⟩
 cases e with
 | normal=>exact key hk
 | ret=>exact key hk
 | exit i=>exact hk.elim
 | goto l=>exact hk.elim
 | panic ch=>exact hk.elim
 | outgrown=>exact hk.elim
theorem j8.vc {P:Program} {f:FuncId} {fn:Func} {c:Code} {ds:List D} {H H':List aC} {r:D} {V:Prop} (Zv:bS) (hf:P.funcs[f]?=some fn) (hb:fn.body=some c) (hn:Nat.ble ds.length fn.ntmps=true)
  (hv:Proofs.YtnlmlkbaflmgcaaGreat.vc P fn.ntmps c (Qb P fn r H') Zv ⟨m4 0 ds,H⟩=V) (pf:V):j8 P f ds H r H':=by
 refine⟨fn,c,hf,hb,hn,?_⟩
 intro C h1 h2 hrd_
 subst h1
 rw[← hv,← h2]at pf
 exact(ww hrd_ c _ Zv _ pf).mono (fun e P' ⟨h',hk⟩=>LH hk)
def wx:aC→Prop
 | .arr _ _ _ _ l=>l=[]
 | _=>False
def E9:Option aC→aC→Prop
 | some B',B=>B'=B
 | none,_=>False
def LJ (H:List aC) (x r:D) (B:aC):Prop:=match x with
 | .nils=>r=.own 0∧wx B
 | .own i=>r=.own 0∧E9 H[i]? B
 | .gr i s=>r=.gr 0 s∧E9 H[i]? B
 | x=>∃id,H[id]?=some B∧Dp id x r
def Ng (P:Program) (fn:Func) (r:D) (B:aC) (_:bS) (e:Exit) (st:St):Prop:=match e with
 | .normal=>u5 P st fn.results.toList (fun ds=>LJ st.heap (IR ds) r B)
 | .ret=>u5 P st fn.results.toList (fun ds=>LJ st.heap (IR ds) r B)
 | _=>False
def IT (P:Program) (fn:Func) (r:D) (B:aC):Exit→St→Prop
 | .normal,st=>iU P fn st∧((∃id,st.heap[id]?=some B∧Dp id (i2 P fn st) r)∨(i2 P fn st=.nils∧r=.own 0∧wx B))
 | .ret,st=>iU P fn st∧((∃id,st.heap[id]?=some B∧Dp id (i2 P fn st) r)∨(i2 P fn st=.nils∧r=.own 0∧wx B))
 | _,_=>False
theorem IU {P:Program} {fn:Func} {r:D} {B:aC} {h:bS} {e:Exit} {st:St} (hk:Ng P fn r B h e st):IT P fn r B e st:=by
 have key:u5 P st fn.results.toList (fun ds=>LJ st.heap (IR ds) r B)→iU P fn st∧((∃id,st.heap[id]?=some B∧Dp id (i2 P fn st) r)∨(i2 P fn st=.nils∧r=.own 0∧wx B)):=by
  intro hq
  obtain⟨h1,h2⟩:=vx _ _ hq
  unfold iU i2
  rw[zH]
  refine⟨h1,?_⟩
  generalize IR (resL P st fn.results.toList).1=x at h2 ⊢
  unfold LJ at h2
  split at h2
  ·exact .inr ⟨rfl,h2⟩
  ·rename_i i
   obtain⟨rfl,h2⟩:=h2
   unfold E9 at h2
   split at h2
   ·rename_i B' W3
    subst h2
    exact .inl ⟨i,W3,rfl,rfl⟩
   ·exact h2.elim
  ·rename_i i q
   obtain⟨rfl,h2⟩:=h2
   unfold E9 at h2
   split at h2
   ·rename_i B' W3
    subst h2
    exact .inl ⟨i,W3,rfl,rfl,rfl⟩
   ·exact h2.elim
  ·exact .inl h2
 cases e with
 | normal=>exact key hk
 | ret=>exact key hk
 | exit i=>exact hk.elim
 | goto l=>exact hk.elim
 | panic ch=>exact hk.elim
 | outgrown=>exact hk.elim
theorem ah.of_evO' {P:Program} {f:FuncId} {fn:Func} {c:Code} {q':List D} {r:D} {B:aC} (hf:P.funcs[f]?=some fn) (hb:fn.body=some c) (hn:Nat.ble q'.length fn.ntmps=true) (hB:B.isOwn=true)
  (h:∀C:ns,C.P=P→C.nt=fn.ntmps→C.rd=none→Ev C c (IT P fn r B) ⟨m4 0 q',[]⟩):ah P f q' [] false r [B]:=by
 intro S μ w us hS hG hH WX
 rw[Vv]at hn
 let C:ns:=⟨P,w,S,fn.ntmps,[],none,hG⟩
 have hrel:bk C S μ ⟨m4 0 q',[]⟩ (xM us fn.ntmps) w :=
  ⟨rfl,rfl,rfl,Ut _,fun _ _=>rfl,fun _ h=>h,fun _ h=>.inl h,hS,zt WX hn,⟨fun id B hB=>by simp at hB,fun i j A B b hA=>by simp at hA,fun i A b hA=>by simp at hA⟩,fun i A b hA=>by simp at hA,⟨[],rfl,by simp[C],fun b hb=>by simp[C]at hb⟩,v3 WX.1 hn,fun i A b hA=>by simp at hA⟩
 refine(nz (C:=C) hf hb rfl hrel (h C rfl rfl rfl) (fun e P' hq=>?_)).mono ?_
 ·cases e<;>first | exact⟨.inl rfl,hq.1⟩ | exact⟨.inr rfl,hq.1⟩ | exact hq.elim
 rintro e w' ⟨u,e0,P',S',μ',a',rfl,hq,hR,hx⟩
 have hq:(∃id,P'.heap[id]?=some B∧Dp id (i2 P fn P') r)∨(i2 P fn P'=.nils∧r=.own 0∧wx B):=by
  cases e0<;>first | exact hq.2 | exact hq.elim
 have hl:B.live=true:=by cases B<;>first | rfl | cases hB
 have one:∀(i:Nat) (A:aC),[B][i]?=some A→i=0∧A=B:=by
  intro i A hA
  match i with
  | 0=>simp at hA;exact⟨rfl,hA.symm⟩
  | i+1=>simp at hA
 rcases hq with ⟨id,WG,hr⟩ | ⟨hn0,rfl,hem⟩
 ·refine⟨u,fun _=>μ' id,S',rfl,hR.os,hR.tape,hR.output,hR.size,fun k hk _=>hR.old k hk,hR.mono,hR.new,hR.slt,Iy hx hr,⟨?_,?_,?_⟩,?_,fun i A hA=>by simp at hA⟩
  ·intro i A hA
   obtain⟨rfl,rfl⟩:=one i A hA
   refine(hR.heap.box id _ WG).stable (fun _ h _=>h) (fun _ _ _=>rfl) (Ut _) (fun j hj=>?_) (fun _ _=>rfl)
   cases A<;>first | (cases hB;done) | cases hj
  ·intro i j A A' b hA Xf _ _ _ _
   rw[(one i A hA).1,(one j A' Xf).1]
  ·intro i A b hA la hb
   obtain⟨rfl,rfl⟩:=one i A hA
   exact hR.heap.notS id _ b WG hl hb
  ·intro i A b hA la hb
   obtain⟨rfl,rfl⟩:=one i A hA
   exact .inl (hR.may id _ b WG hl hb)
 ·rw[hn0]at hx
  cases hx
  refine⟨_,fun _=>.slice none 0 0,S',rfl,hR.os,hR.tape,hR.output,hR.size,fun k hk _=>hR.old k hk,hR.mono,hR.new,hR.slt,aq.own (μ:=fun _=>.slice none 0 0) 0,⟨?_,?_,?_⟩,?_,fun i A hA=>by simp at hA⟩
  ·intro i A hA
   obtain⟨rfl,rfl⟩:=one i A hA
   cases A<;>first | cases hem | skip
   exact⟨fun i x hx=>by simp at hx,[],VS w' 0 _ _,fun i x j y hx=>by simp at hx⟩
  ·intro i j A A' b hA Xf _ _ _ _
   rw[(one i A hA).1,(one j A' Xf).1]
  ·intro i A b hA la hb
   simp[cx,aO]at hb
  ·intro i A b hA la hb
   simp[cx,aO]at hb
theorem ah.vcO {P:Program} {f:FuncId} {fn:Func} {c:Code} {q':List D} {r:D} {B:aC} {V:Prop} (Zv:bS) (hf:P.funcs[f]?=some fn) (hb:fn.body=some c) (hn:Nat.ble q'.length fn.ntmps=true) (hB:B.isOwn=true)
  (hv:Proofs.YtnlmlkbaflmgcaaGreat.vc P fn.ntmps c (Ng P fn r B) Zv ⟨m4 0 q',[]⟩=V) (pf:V):ah P f q' [] false r [B]:=by
 refine ah.of_evO' hf hb hn hB ?_
 intro C h1 h2 hrd_
 subst h1
 rw[← hv,← h2]at pf
 exact(ww hrd_ c _ Zv _ pf).mono (fun e P' ⟨h',hk⟩=>IU hk)
theorem ah.nilcases {P:Program} {f:FuncId} {sz:Nat} {α:Type} {enc:α→List V} {d:α} {l:List α} {q':List D} {al:Bool} {r:D} {H':List aC}
  (h1:l≠[]→ah P f (.v (.sl sz enc d l)::q') [] al r H') (h2:l=[]→ah P f (.nils::q') [] al r H') (h3:l=[]→ah P f (.v .esl::q') [] al r H'):ah P f (.v (.sl sz enc d l)::q') [] al r H':=by
 by_cases hl:l=[]
 ·intro S μ w us hS hG hH WX
  have WE:=WX.1
  simp only[Ve]at WE
  have h0:us[0]?=some us[0]:=UM (by omega)
  have hx:=bL (WX.2 0 _ _ rfl h0)
  have re:∀(x:D),aq S μ w x us[0]→aU S μ w (x::q') us:=fun x hx=>⟨by simp[WE],fun j y u hy hu=>by
   cases j with
   | zero=>simp at hy;subst hy;rw[h0]at hu;cases hu;exact hx
   | succ j=>exact WX.2 (j+1) y u (by simpa using hy) hu⟩
  obtain⟨p,c,hu,q1,q2,q3,q4⟩:=ib hx
  subst hl
  cases p with
  | none =>
   have:=q3 rfl
   subst this
   exact h2 rfl S μ w us hS hG hH (re _ (by rw[hu];exact .nils))
  | some p=>exact h3 rfl S μ w us hS hG hH (re _ (by rw[hu];exact .v _ _ (.esl p c q2)))
 ·exact h1 hl
abbrev Bt (P:Program) (g:FuncId) (ds:List D) (H:List aC) (E:List (Nat×D)) (H' N:List aC) (r:D):Prop:=∀tm:Array Value,j8 P g ds (H++[.frame tm E]) r (H'++.frame tm E::N)
def TT:Nat→Prop→Prop
 | 0,p=>p
 | n+1,p=>True∧TT n p
theorem tt:∀{n:Nat} {p:Prop},p→TT n p
 | 0,_,h=>h
 | n+1,_,h=>⟨trivial,tt h⟩
abbrev CB (b:Bool) (x y:Prop):Prop:=(b=true→x)∧(b=false→y)
abbrev CD (P:Prop) [Decidable P] (x y:Prop):Prop:=CB (decide P) x y
abbrev CN (P:Prop) [Decidable P] (x y:Prop):Prop:=CB (!decide P) x y
abbrev CS (P x y:Prop):Prop:=(P→x)∧(¬P→y)
theorem cd {P:Prop} [Decidable P] {x y:Prop} (h1:P→x) (h2:¬P→y):CD P x y:=⟨fun h=>h1 (VF h),fun h=>h2 (of_decide_eq_false h)⟩
theorem cn {P:Prop} [Decidable P] {x y:Prop} (h1:¬P→x) (h2:P→y):CN P x y:=⟨fun h=>h1 (by simpa using h),fun h=>h2 (by simpa using h)⟩
abbrev GO {σ:Type} (L:Lp σ) (s0:σ) (body:Prop):Prop:=L.mk s0=L.mk s0∧L.inv s0∧body
abbrev AG {σ:Type} (L:Lp σ) (s s':σ):Prop:=L.ag s (L.mk s')
abbrev AT {σ:Type} (L:Lp σ) (s':σ):Prop:=L.at (L.mk s')
theorem vT {P:Prop} [Decidable P] (h:P):True∧decide P=true:=⟨trivial,Uz h⟩
theorem vF {P:Prop} [Decidable P] (h:¬P):True∧decide P=false:=⟨trivial,Uy h⟩
theorem TX {P:Prop} [Decidable P] (h:¬P):(!decide P)=true:=by simp[h]
theorem Rx {P:Prop} [Decidable P] (h:P):(!decide P)=false:=by simp[h]
theorem nT {P:Prop} [Decidable P] (h:¬P):True∧(!decide P)=true:=⟨trivial,TX h⟩
theorem nF {P:Prop} [Decidable P] (h:P):True∧(!decide P)=false:=⟨trivial,Rx h⟩
theorem TY {b:Bool} (h:b=true):b=true:=h
theorem TH {b:Bool} (h:¬b=true):b=false:=by simpa using h
theorem Ry {b:Bool} (h:¬b=true):(!b)=true:=by simpa using h
theorem ya {b:Bool} (h:b=true):(!b)=false:=by simp[h]
theorem bT {b:Bool} (h:b=true):True∧b=true:=⟨trivial,h⟩
theorem bF {b:Bool} (h:¬b=true):True∧b=false:=⟨trivial,TH h⟩
theorem mT {b:Bool} (h:¬b=true):True∧(!b)=true:=⟨trivial,Ry h⟩
theorem mF {b:Bool} (h:b=true):True∧(!b)=false:=⟨trivial,ya h⟩
abbrev HE (H:List aC):Prop:=H=H
abbrev IX (i n:Int):Prop:=0≤i∧i<n
theorem ix {i n:Int} (h:0≤i∧i<n:=by first | omega | (simp;omega)):IX i n:=h
theorem om {p:Prop} (h:p:=by first | omega | (simp;first | done | omega)):p:=h
abbrev W6 (x:Int):Prop:=True∧IntKind.i64.wrap x=x
theorem w6 {x:Int} (h1:-9223372036854775808≤x:=by first | omega | (simp;first | done | omega)) (h2:x≤9223372036854775807:=by first | omega | (simp;first | done | omega)):W6 x:=⟨trivial,uD rfl h1 h2⟩
abbrev QD (a n:Int):Prop:=n≠0∧IntKind.i64.wrap (Int.tdiv a n)=a / n
theorem qd {a n:Int} (h0:0≤a:=by first | omega | (simp;omega)) (h1:a≤9223372036854775807:=by first | omega | (simp;omega)) (hn:0<n:=by first | omega | (simp;omega)):QD a n:=by
 refine⟨by omega,?_⟩
 rw[VW h0,IntKind.wrap_i64]
 have:=Int.ediv_nonneg h0 (Int.le_of_lt hn)
 have:=Int.ediv_le_self n h0
 omega
abbrev QM (a n:Int):Prop:=n≠0∧Int.tmod a n=a%n
theorem qm {a n:Int} (h0:0≤a:=by first | omega | (simp;omega)) (hn:0<n:=by first | omega | (simp;omega)):QM a n:=⟨by omega,Vo h0⟩
theorem ah.recast {P:Program} {f:FuncId} {q' ZZ:List D} {al:Bool} {r:D} (h:uB [] q' ZZ) (hc:ah P f ZZ [] al r []):ah P f q' [] al r []:=fun S μ w us hS hG hH WX =>
 hc S μ w us hS hG hH (oP hH (fun _ h=>h) hS (.inl fun i A b hA=>by simp at hA) h WX)
structure Ct:Type 1 where
 f:FuncId
 q':List D
 al:Bool
 r:D
abbrev Ct.O (c:Ct):Ov:=.call none c.al c.r
abbrev Ct.O' (c:Ct):Ov:=.call (some c.q') c.al c.r
abbrev Ct.C (P:Program) (c:Ct):Prop:=ah P c.f c.q' [] c.al c.r []
abbrev Ct.K (P:Program) (c:Ct):Prop:=uB [] c.q' c.q'∧ah P c.f c.q' [] c.al c.r []
structure yb:Type 1 where
 f:FuncId
 q':List D
 r:D
 B:aC
abbrev yb.O (c:yb):Ov:=.ownd none c.r c.B
abbrev yb.O' (c:yb):Ov:=.ownd (some c.q') c.r c.B
abbrev yb.F (c:yb):Ov:=.ownc none c.r c.B
mutual
def nO:D→Bool
 | .v (.mp _)=>false
 | .agg cs=>gj cs
 | .tup cs=>gj cs
 | .fn _ a b=>gj a&&gj b
 | _=>true
def gj:List D→Bool
 | []=>true
 | d::r=>nO d&&gj r
end
theorem IV:∀(x:V),(∀es,x≠.mp es)→AU x x
 | .int k n,_=>by simp[AU]
 | .bool b,_=>rfl
 | .str s,_=>rfl
 | .nilf,_=>trivial
 | .nsl,_=>trivial
 | .esl,_=>trivial
 | .sl sz enc d l,_=>by simp[AU]
 | .sm ag enc d l,_=>by simp[AU]
 | .nmp,_=>trivial
 | .fnv f,_=>by simp[AU]
 | .mp es,h=>(h es rfl).elim
theorem IW:∀(x:D),nO x=true→u2 x x
 | .v x,h=>IV x (fun es e=>by subst e;simp[nO]at h)
 | .nils,_=>rfl
 | .own i,_=>rfl
 | .ptr _ _ _ _,_=>rfl
 | .iptr cs o,_=>by simp[u2]
 | .agg _,_=>rfl
 | .tup _,_=>rfl
 | .fn _ _ _,_=>rfl
 | .yld _,_=>rfl
 | .capd _,_=>rfl
 | .gr _ _,_=>rfl
 | .junk,_=>trivial
theorem Bu (x:D) (h:nO x=true):K7 [] x x:=by
 cases x<;>exact IW _ h
theorem Bv:∀(l:List D),gj l=true→PO [] l l
 | [],_=>trivial
 | d::r,h=>by simp only[gj,Uo]at h;exact⟨Bu d h.1,Bv r h.2⟩
theorem Bw (x:D) (h:nO x=true):PC [] x x:=by
 cases x<;>exact Bu _ h
theorem wy:∀(l:List D),gj l=true→PQ [] l l
 | [],_=>trivial
 | d::r,h=>by simp only[gj,Uo]at h;exact⟨Bw d h.1,wy r h.2⟩
theorem wz (x:D) (h:nO x=true):Rk [] x x:=by
 cases x with
 | agg xs=>exact Bv _ (by simpa[nO]using h)
 | fn f a b=>simp only[nO,Uo]at h;exact⟨rfl,wy a h.1,wy b h.2⟩
 | _=>exact Bw _ h
theorem du:∀(l:List D),gj l=true→uB [] l l
 | [],_=>trivial
 | d::r,h=>by simp only[gj,Uo]at h;exact⟨wz d h.1,du r h.2⟩
structure Nm where
 n:Int
 p:ByteArray
structure Ex where
 op:Int
 name:ByteArray
 k:Nm
 w:Nm
 args:List Ex
abbrev e0:ByteArray:=ByteArray.empty
abbrev bs (l:List UInt8):ByteArray:=⟨l.toArray⟩
abbrev dN:Nm:=⟨0,e0⟩
abbrev dE:Ex:=⟨0,e0,dN,dN,[]⟩
structure an where
 kind:Int
 src:ByteArray
 n:Int
structure Rg where
 name:ByteArray
 w:Int
 init:Int
 next:Ex
 Un:an
structure Mm where
 name:ByteArray
 w:Int
 Um:Int
 enable:Ex
 addr:Ex
 data:Ex
 Un:an
structure Tk where
 chan:Int
 w:Int
 when:Ex
structure Pt where
 chan:Int
 w:Int
 when:Ex
 data:Ex
structure Pr where
 name:ByteArray
 clock:ByteArray
 Ul:List Rg
 Uk:List Mm
 I:List Tk
 Uj:List Pt
structure Ps where
 Ul:List Int
 Uk:List (List Int)
structure Hd where
 has:Bool
 v:Int
structure Fi where
 fires:Bool
 s:Ps
 pops:List Bool
 Uj:List Hd
abbrev Qf:an:=⟨0,e0,0⟩
abbrev aI:Rg:=⟨e0,0,0,dE,Qf⟩
abbrev ay:Mm:=⟨e0,0,0,dE,dE,dE,Qf⟩
abbrev bC:Tk:=⟨0,0,dE⟩
abbrev bt:Pt:=⟨0,0,dE,dE⟩
abbrev ac:Pr:=⟨e0,e0,[],[],[],[]⟩
abbrev a7:Ps:=⟨[],[]⟩
abbrev bu:Hd:=⟨false,0⟩
def eA:Nat→Ex→List V
 | 0,_=>[]
 | n+1,e=>[.int .i64 e.op,.str e.name,.int .i64 e.k.n,.str e.k.p,.int .i64 e.w.n,.str e.w.p,.sl 7 (eA n) dE e.args]
def aa (l:List Int):List V:=[.sl 1 (ab .i64) 0 l]
def bO (r:Rg):List V:=[.str r.name,.int .i64 r.w,.int .i64 r.init,.int .i64 r.next.op,.str r.next.name,.int .i64 r.next.k.n,.str r.next.k.p,.int .i64 r.next.w.n,.str r.next.w.p,.sl 7 (eA 2) dE r.next.args,.int .i64 r.Un.kind,.str r.Un.src,.int .i64 r.Un.n]
def b8 (r:Mm):List V:=[.str r.name,.int .i64 r.w,.int .i64 r.Um,.int .i64 r.enable.op,.str r.enable.name,.int .i64 r.enable.k.n,.str r.enable.k.p,.int .i64 r.enable.w.n,.str r.enable.w.p,.sl 7 (eA 2) dE r.enable.args,
 .int .i64 r.addr.op,.str r.addr.name,.int .i64 r.addr.k.n,.str r.addr.k.p,.int .i64 r.addr.w.n,.str r.addr.w.p,.sl 7 (eA 2) dE r.addr.args,
 .int .i64 r.data.op,.str r.data.name,.int .i64 r.data.k.n,.str r.data.k.p,.int .i64 r.data.w.n,.str r.data.w.p,.sl 7 (eA 2) dE r.data.args,.int .i64 r.Un.kind,.str r.Un.src,.int .i64 r.Un.n]
def dU (r:Tk):List V:=[.int .i64 r.chan,.int .i64 r.w,.int .i64 r.when.op,.str r.when.name,.int .i64 r.when.k.n,.str r.when.k.p,.int .i64 r.when.w.n,.str r.when.w.p,.sl 7 (eA 2) dE r.when.args]
def dQ (r:Pt):List V:=[.int .i64 r.chan,.int .i64 r.w,.int .i64 r.when.op,.str r.when.name,.int .i64 r.when.k.n,.str r.when.k.p,.int .i64 r.when.w.n,.str r.when.w.p,.sl 7 (eA 2) dE r.when.args,
 .int .i64 r.data.op,.str r.data.name,.int .i64 r.data.k.n,.str r.data.k.p,.int .i64 r.data.w.n,.str r.data.w.p,.sl 7 (eA 2) dE r.data.args]
def bG (p:Pr):List V:=[.str p.name,.str p.clock,.sl 13 bO aI p.Ul,.sl 27 b8 ay p.Uk,.sl 9 dU bC p.I,.sl 16 dQ bt p.Uj]
def bi (s:Ps):List V:=[.sl 1 (ab .i64) 0 s.Ul,.sl 1 aa [] s.Uk]
def db (h:Hd):List V:=[.bool h.has,.int .i64 h.v]
def LM (f:Fi):List V:=[.bool f.fires,.sl 1 (ab .i64) 0 f.s.Ul,.sl 1 aa [] f.s.Uk,.sl 1 ba false f.pops,.sl 2 db bu f.Uj]
def fo:Ex→Nat
 | ⟨_,_,_,_,args⟩=>depL args+1
where depL:List Ex→Nat
 | []=>0
 | a::r=>max (fo a) (depL r)
theorem kd {x w:Int} (h0:0≤w) (h:w≤62):x≤ai w↔x<2^w.toNat:=by
 rw[da h0 h];omega
theorem fh {x:Int} {n:Nat} (h0:0≤x) (h:x<2^n):x.toNat<2^n:=by
 have e:((2:Int)^n)=((2^n:Nat):Int):=by simp
 rw[e]at h
 omega
theorem BB {x n:Nat} (h:x<2^n):(x:Int)<2^n:=by
 have e:((2:Int)^n)=((2^n:Nat):Int):=by simp
 rw[e]
 omega
theorem G7 {a b:Int} (h:a≤b) (h0:0≤a) (hb:b≤62):ai a≤ai b:=by
 rw[da h0 (by omega),da (by omega) hb]
 have:(2:Nat)^a.toNat≤2^b.toNat:=VJ (by omega) (by omega)
 have e1:((2:Int)^a.toNat)=((2^a.toNat:Nat):Int):=by simp
 have e2:((2:Int)^b.toNat)=((2^b.toNat:Nat):Int):=by simp
 rw[e1,e2]
 omega
def dR (v w:Int):Prop:=0≤v∧v≤ai w
theorem r6 {x w:Int} (h0:0≤w) (h:w≤62):dR (x%2^w.toNat) w:=by
 have hp:=nP (n:=w.toNat) (by omega)
 refine⟨VC _ (by omega),?_⟩
 rw[kd h0 h]
 exact VI _ (by omega)
theorem r7 {x:Nat} {w:Int} (h0:0≤w) (h:w≤62) (hx:x<2^w.toNat):dR (x:Int) w:=by
 refine⟨by omega,?_⟩
 rw[kd h0 h]
 exact BB hx
theorem Dy {ws:List Int} (h:bV ws≠0):ws.getD 0 0=ws.getD 1 0∧bV ws=ws.getD 0 0:=by
 unfold bV at h ⊢
 split at h
 ·exact absurd rfl h
 ·rename_i hn
  rw[Ur hn]
  exact⟨Decidable.not_not.1 hn,rfl⟩
theorem I0 {op:Int} {ws xs:List Int} {k w:Int} (h:it op ws k w=true) (hx:xs.length=ws.length) (hin:Bx ws xs=true):dR (jB op ws xs k w) (bp op ws k w):=by
 obtain⟨h1,hf,h3⟩:=kI h
 have h3:=aQ.1 h3
 have XP:1≤op∧op≤13:=by
  by_cases hr:op<1∨13<op
  ·have:bw op=-1:=by unfold bw;rw[Ur (by omega),Ur (by omega),Ur (by omega),Ur (by omega)]
   omega
  ·omega
 have f0:0<ws.length→1≤ws.getD 0 0∧ws.getD 0 0≤8:=fun h=>aE hf h
 have f1:1<ws.length→1≤ws.getD 1 0∧ws.getD 1 0≤8:=fun h=>aE hf h
 have f2:2<ws.length→1≤ws.getD 2 0∧ws.getD 2 0≤8:=fun h=>aE hf h
 have a0:0<ws.length→0≤xs.getD 0 0∧xs.getD 0 0≤ai (ws.getD 0 0):=fun h=>bh hin (by omega)
 have a1:1<ws.length→0≤xs.getD 1 0∧xs.getD 1 0≤ai (ws.getD 1 0):=fun h=>bh hin (by omega)
 have a2:2<ws.length→0≤xs.getD 2 0∧xs.getD 2 0≤ai (ws.getD 2 0):=fun h=>bh hin (by omega)
 have two:∀{op:Int},bw op=2→(ws.length:Int)=bw op→bp op ws k w=bV ws→1≤bp op ws k w∧bp op ws k w≤8→ws.getD 0 0=ws.getD 1 0∧bp op ws k w=ws.getD 0 0∧(xs.getD 0 0).toNat<2^(ws.getD 0 0).toNat∧(xs.getD 1 0).toNat<2^(ws.getD 0 0).toNat∧1≤ws.getD 0 0∧ws.getD 0 0≤8:=by
  intro op hA hl hw hb
  have Yf:ws.length=2:=by omega
  obtain⟨e1,e2⟩:=Dy (ws:=ws) (by rw[← hw];omega)
  have b0:=f0 (by omega)
  have c0:=a0 (by omega)
  have c1:=a1 (by omega)
  refine⟨e1,by rw[hw,e2],fh c0.1 ((kd (by omega) (by omega)).1 c0.2),?_,b0⟩
  have:=(kd (w:=ws.getD 1 0) (by omega) (by omega)).1 c1.2
  rw[← e1]at this
  exact fh c1.1 this
 have Z0:op=1∨op=2∨op=3∨op=4∨op=5∨op=6∨op=7∨op=8∨op=9∨op=10∨op=11∨op=12∨op=13:=by omega
 rcases Z0 with rfl | rfl | rfl | rfl | rfl | rfl | rfl | rfl | rfl | rfl | rfl | rfl | rfl
 ·show dR k (if ax w=false∨k<0∨ai w<k then 0 else w)
  have e:bp 1 ws k w=(if ax w=false∨k<0∨ai w<k then 0 else w):=rfl
  rw[e]at h3
  split at h3
  ·omega
  ·rename_i hn
   rw[Ur hn]
   simp only[not_or,Int.not_lt]at hn
   exact⟨hn.2.1,hn.2.2⟩
 ·have hl:(ws.length:Int)=1:=h1
  have b0:=f0 (by omega)
  have c0:=a0 (by omega)
  show dR (((xs.getD 0 0).toNat ^^^ (ai (ws.getD 0 0)).toNat:Nat):Int) (ws.getD 0 0)
  refine r7 (by omega) (by omega) (Nat.xor_lt_two_pow (fh c0.1 ((kd (by omega) (by omega)).1 c0.2)) ?_)
  have m0:=aB (w:=ws.getD 0 0) (by omega) (by omega)
  exact fh m0.1 ((kd (by omega) (by omega)).1 (Int.le_refl _))
 ·obtain⟨e1,e2,e3,e4,e5,e6⟩:=two (op:=3) (by decide) h1 rfl h3
  rw[e2]
  exact r7 (by omega) (by omega) (Nat.lt_of_le_of_lt Nat.and_le_left e3)
 ·obtain⟨e1,e2,e3,e4,e5,e6⟩:=two (op:=4) (by decide) h1 rfl h3
  rw[e2]
  exact r7 (by omega) (by omega) (Nat.or_lt_two_pow e3 e4)
 ·obtain⟨e1,e2,e3,e4,e5,e6⟩:=two (op:=5) (by decide) h1 rfl h3
  rw[e2]
  exact r7 (by omega) (by omega) (Nat.xor_lt_two_pow e3 e4)
 ·obtain⟨e1,e2,e3,e4,e5,e6⟩:=two (op:=6) (by decide) h1 rfl h3
  rw[e2]
  exact r6 (by omega) (by omega)
 ·obtain⟨e1,e2,e3,e4,e5,e6⟩:=two (op:=7) (by decide) h1 rfl h3
  rw[e2]
  exact r6 (by omega) (by omega)
 ·have e:bp 8 ws k w=min (bV ws) 1:=rfl
  rw[e]at h3 ⊢
  have e1:min (bV ws) 1=1:=by omega
  rw[e1]
  show dR (if xs.getD 0 0=xs.getD 1 0 then 1 else 0) 1
  split<;>exact⟨by decide,by decide⟩
 ·have e:bp 9 ws k w=min (bV ws) 1:=rfl
  rw[e]at h3 ⊢
  have e1:min (bV ws) 1=1:=by omega
  rw[e1]
  show dR (if xs.getD 0 0<xs.getD 1 0 then 1 else 0) 1
  split<;>exact⟨by decide,by decide⟩
 ·have hl:(ws.length:Int)=3:=h1
  have hm1:=zJ h
  have c0:=a0 (by omega)
  rw[hm1]at c0
  have c0':xs.getD 0 0≤1:=c0.2
  have c1:=a1 (by omega)
  have c2:=a2 (by omega)
  have e:bp 10 ws k w=(if ws.getD 0 0≠1∨ws.getD 1 0≠ws.getD 2 0 then 0 else ws.getD 1 0):=rfl
  rw[e]at h3 ⊢
  split at h3
  ·omega
  ·rename_i hn
   rw[Ur hn]
   have hs:ws.getD 1 0=ws.getD 2 0:=Vr fun hh=>hn (.inr hh)
   show dR (xs.getD (2-xs.getD 0 0).toNat 0) (ws.getD 1 0)
   have hc:xs.getD 0 0=0∨xs.getD 0 0=1:=by omega
   rcases hc with hc | hc
   ·rw[hc,hs];exact c2
   ·rw[hc];exact c1
 ·have hl:(ws.length:Int)=2:=h1
  have b0:=f0 (by omega)
  have b1:=f1 (by omega)
  have c0:=a0 (by omega)
  have c1:=a1 (by omega)
  have e:bp 11 ws k w=ws.getD 0 0+ws.getD 1 0:=rfl
  rw[e]at h3 ⊢
  show dR ((((xs.getD 0 0).toNat*2^(ws.getD 1 0).toNat ||| (xs.getD 1 0).toNat:Nat)):Int) (ws.getD 0 0+ws.getD 1 0)
  have d0:=fh c0.1 ((kd (by omega) (by omega)).1 c0.2)
  have d1:=fh c1.1 ((kd (by omega) (by omega)).1 c1.2)
  have hs:(ws.getD 0 0+ws.getD 1 0).toNat=(ws.getD 0 0).toNat+(ws.getD 1 0).toNat:=by omega
  refine r7 (by omega) (by omega) ?_
  rw[hs,Nat.pow_add]
  refine(Nat.pow_add 2 _ _) ▸ Nat.or_lt_two_pow ?_ ?_
  ·rw[Nat.pow_add];exact Nat.mul_lt_mul_of_pos_right d0 (Nat.two_pow_pos _)
  ·exact Vl d1 (VJ (by omega) (by omega))
 ·have hk:=zK h
  have e:bp 12 ws k w=(if ax w=false∨k<0∨ws.getD 0 0-w<k then 0 else w):=rfl
  rw[e]at h3 ⊢
  split at h3
  ·omega
  ·rename_i hn
   rw[Ur hn]
   have hw:=aQ.1 hk.2.2
   exact r6 (by omega) (by omega)
 ·have hl:(ws.length:Int)=1:=h1
  have b0:=f0 (by omega)
  have c0:=a0 (by omega)
  have e:bp 13 ws k w=(if w<ws.getD 0 0 then 0 else w):=rfl
  rw[e]at h3 ⊢
  split at h3
  ·omega
  ·rename_i hn
   rw[Ur hn]
   show dR (xs.getD 0 0) w
   exact⟨c0.1,Int.le_trans c0.2 (G7 (by omega) (by omega) (by omega))⟩
theorem G8 {op:Int} {ws xs G':List Int} {k w:Int} (h:it op ws k w=true) (hx:xs.length=ws.length) (hin:Bx ws xs=true) (hn:G'.length=2) (h0:G'.getD 0 0=k) (h1:G'.getD 1 0=w) :
  cT op ws xs G'=jB op ws xs k w∧dR (cT op ws xs G') (bp op ws k w):=by
 have e:=(d4 hn hx (by rw[h0,h1];exact h) hin).1
 rw[h0,h1]at e
 exact⟨e,by rw[e];exact I0 h hx hin⟩
def be (p:Pr) (s:Ps) (data:List Int):Ex→Int×Int
 | ⟨op,_,k,w,args⟩ =>
  if op=16 then (s.Ul.getD k.n.toNat 0,(p.Ul.getD k.n.toNat aI).w)
  else if op=18 then (data.getD k.n.toNat 0,(p.I.getD k.n.toNat bC).w)
  else if op=17 then ((s.Uk.getD k.n.toNat []).getD (Int.tmod ((evL args).getD 0 (0,0)).1 (s.Uk.getD k.n.toNat []).length).toNat 0,(p.Uk.getD k.n.toNat ay).w)
  else (cT op ((evL args).map (·.2)) ((evL args).map (·.1)) [k.n,w.n],b7 op ((evL args).map (·.2)) k.n w.n)
where evL:List Ex→List (Int×Int)
 | []=>[]
 | a::r=>be p s data a::evL r
theorem Fc {p:Pr} {s:Ps} {data:List Int}:∀(l:List Ex),be.evL p s data l=l.map (be p s data)
 | []=>rfl
 | a::r=>by rw[be.evL,Fc r];rfl
theorem lZ (p:Pr) (s:Ps) (data:List Int) (e:Ex):be p s data e =
  if e.op=16 then (s.Ul.getD e.k.n.toNat 0,(p.Ul.getD e.k.n.toNat aI).w)
  else if e.op=18 then (data.getD e.k.n.toNat 0,(p.I.getD e.k.n.toNat bC).w)
  else if e.op=17 then ((s.Uk.getD e.k.n.toNat []).getD (Int.tmod ((e.args.map (be p s data)).getD 0 (0,0)).1 (s.Uk.getD e.k.n.toNat []).length).toNat 0,(p.Uk.getD e.k.n.toNat ay).w)
  else (cT e.op ((e.args.map (be p s data)).map (·.2)) ((e.args.map (be p s data)).map (·.1)) [e.k.n,e.w.n],b7 e.op ((e.args.map (be p s data)).map (·.2)) e.k.n e.w.n):=by
 cases e with
 | mk op name k w args=>rw[be,Fc]
structure Sc where
 rw:List Int
 mw:List Int
 tw:List Int
def eF (c:Sc):Ex→Option Int
 | ⟨op,_,k,w,args⟩=>match tyL args with
  | none=>none
  | some ws =>
   if op=16 then (if ws=[]∧0≤k.n∧k.n<c.rw.length then some (c.rw.getD k.n.toNat 0)else none)
   else if op=18 then (if ws=[]∧0≤k.n∧k.n<c.tw.length then some (c.tw.getD k.n.toNat 0)else none)
   else if op=17 then (if ws.length=1∧0≤k.n∧k.n<c.mw.length then some (c.mw.getD k.n.toNat 0)else none)
   else if it op ws k.n w.n then some (bp op ws k.n w.n)else none
where tyL:List Ex→Option (List Int)
 | []=>some []
 | a::r=>match eF c a,tyL r with
  | some w,some ws=>some (w::ws)
  | _,_=>none
theorem l5 {c:Sc}:∀{l:List Ex} {ws:List Int},eF.tyL c l=some ws→ws.length=l.length∧∀i,i<l.length→eF c (l.getD i dE)=some (ws.getD i 0)
 | [],ws,h=>by rw[eF.tyL]at h;cases h;exact⟨rfl,fun i hi=>absurd hi (VN _)⟩
 | a::r,ws,h=>by
  rw[eF.tyL]at h
  split at h
  ·rename_i w ws' h1 h2
   cases h
   obtain⟨q1,q2⟩:=l5 h2
   refine⟨by simp[q1],fun i hi=>?_⟩
   cases i with
   | zero=>exact h1
   | succ i=>exact q2 i (by simpa using hi)
  ·cases h
theorem gk {c:Sc} {e:Ex} {w:Int} (h:eF c e=some w):∃ws,eF.tyL c e.args=some ws ∧
  ((e.op=16∧ws=[]∧0≤e.k.n∧e.k.n<c.rw.length∧w=c.rw.getD e.k.n.toNat 0)∨(e.op=18∧ws=[]∧0≤e.k.n∧e.k.n<c.tw.length∧w=c.tw.getD e.k.n.toNat 0) ∨
   (e.op=17∧ws.length=1∧0≤e.k.n∧e.k.n<c.mw.length∧w=c.mw.getD e.k.n.toNat 0)∨(e.op≠16∧e.op≠17∧e.op≠18∧it e.op ws e.k.n e.w.n=true∧w=bp e.op ws e.k.n e.w.n)):=by
 cases e with
 | mk op name k w0 args =>
  rw[eF]at h
  split at h
  ·cases h
  ·rename_i ws hws
   refine⟨ws,hws,?_⟩
   split at h
   ·rename_i ho
    split at h
    ·rename_i hc;cases h;exact .inl ⟨ho,hc.1,hc.2.1,hc.2.2,rfl⟩
    ·cases h
   ·split at h
    ·rename_i ho
     split at h
     ·rename_i hc;cases h;exact .inr (.inl ⟨ho,hc.1,hc.2.1,hc.2.2,rfl⟩)
     ·cases h
    ·split at h
     ·rename_i ho
      split at h
      ·rename_i hc;cases h;exact .inr (.inr (.inl ⟨ho,hc.1,hc.2.1,hc.2.2,rfl⟩))
      ·cases h
     ·split at h
      ·rename_i h1 h2 h3 hc;cases h;exact .inr (.inr (.inr ⟨h1,h3,h2,hc,rfl⟩))
      ·cases h
structure tG (c:Sc) (p:Pr) (s:Ps) (data:List Int):Prop where
 prl:p.Ul.length=c.rw.length
 prw:∀i,i<c.rw.length→(p.Ul.getD i aI).w=c.rw.getD i 0
 pml:p.Uk.length=c.mw.length
 pmw:∀i,i<c.mw.length→(p.Uk.getD i ay).w=c.mw.getD i 0
 ptl:p.I.length=c.tw.length
 ptw:∀i,i<c.tw.length→(p.I.getD i bC).w=c.tw.getD i 0
 srl:s.Ul.length=c.rw.length
 srv:∀i,i<c.rw.length→dR (s.Ul.getD i 0) (c.rw.getD i 0)
 sml:s.Uk.length=c.mw.length
 smn:∀i,i<c.mw.length→0<(s.Uk.getD i []).length
 smv:∀i,i<c.mw.length→∀j,j<(s.Uk.getD i []).length→dR ((s.Uk.getD i []).getD j 0) (c.mw.getD i 0)
 dl:data.length=c.tw.length
 dv:∀i,i<c.tw.length→dR (data.getD i 0) (c.tw.getD i 0)
 rok:∀i,i<c.rw.length→ax (c.rw.getD i 0)=true
 mok:∀i,i<c.mw.length→ax (c.mw.getD i 0)=true
 tok:∀i,i<c.tw.length→ax (c.tw.getD i 0)=true
theorem d5 {α β:Type} (f:α→β) (l:List α) (i:Nat) (d:α) (d':β) (h:i<l.length):(l.map f).getD i d'=f (l.getD i d):=by
 simp[List.getD,Uq h]
theorem zM {e:Ex} {i:Nat} (h:i<e.args.length):fo (e.args.getD i dE)<fo e:=by
 cases e with
 | mk op name k w args =>
  have key:∀(l:List Ex) (i:Nat),i<l.length→fo (l.getD i dE)≤fo.depL l:=by
   intro l
   induction l with
   | nil=>intro i hi;exact absurd hi (VN _)
   | cons a r ih =>
    intro i hi
    rw[fo.depL]
    cases i with
    | zero=>show fo a≤_;omega
    | succ i =>
     have:=ih i (by simpa using hi)
     show fo (r.getD i dE)≤_
     omega
  have:=key args i h
  rw[fo]
  exact Nat.lt_succ_of_le this
theorem Oa {l:List Int} {p:Int→Bool} (h:∀i,i<l.length→p (l.getD i 0)=true):l.all p=true:=by
 rw[UU]
 intro x hx
 obtain⟨i,hi,rfl⟩:=List.mem_iff_getElem.1 hx
 have:=h i hi
 simpa[List.getD,Uq hi]using this
theorem Fd {c:Sc} {p:Pr} {s:Ps} {data:List Int} {args:List Ex} {ws:List Int} (hl:ws.length=args.length)
  (h:∀i,i<args.length→(be p s data (args.getD i dE)).2=ws.getD i 0∧dR (be p s data (args.getD i dE)).1 (ws.getD i 0)∧ax (ws.getD i 0)=true) :
  (args.map (be p s data)).map (·.2)=ws∧((args.map (be p s data)).map (·.1)).length=ws.length∧Bx ws ((args.map (be p s data)).map (·.1))=true∧ws.all ax=true:=by
 refine⟨?_,by simp[hl],?_,Oa (fun i hi=>(h i (by omega)).2.2)⟩
 ·apply Vt
  ·simp[hl]
  ·intro i h1 h2
   have:=(h i (by omega)).1
   simp only[Wj]
   have e1:args.getD i dE=args[i]'(by omega):=by simp[List.getD,Uq (show i<args.length by omega)]
   have e2:ws.getD i 0=ws[i]:=by simp[List.getD,Uq h2]
   rw[e1,e2]at this
   exact this
 ·refine IY (fun i hi=>?_)
  have Xz:i<args.length:=by simpa using hi
  have:=(h i Xz).2.1
  rw[Wn,d5 ((·.1) ∘ be p s data) args i dE 0 Xz]
  exact this
theorem I1 {c:Sc} {p:Pr} {s:Ps} {data:List Int} (ho:tG c p s data):∀(n:Nat) (e:Ex) (w:Int),fo e≤n→eF c e=some w→(be p s data e).2=w∧dR (be p s data e).1 w∧ax w=true:=by
 intro n
 induction n with
 | zero=>intro e w hd;cases e with | mk op name k w args=>rw[fo]at hd;omega
 | succ n ih =>
  intro e w hd hty
  obtain⟨ws,hws,hc⟩:=gk hty
  obtain⟨hl,W7⟩:=l5 hws
  have hargs:∀i,i<e.args.length→(be p s data (e.args.getD i dE)).2=ws.getD i 0∧dR (be p s data (e.args.getD i dE)).1 (ws.getD i 0)∧ax (ws.getD i 0)=true:=fun i hi=>ih _ _ (by have:=zM hi;omega) (W7 i hi)
  rw[lZ]
  rcases hc with ⟨h1,h2,h3,h4,rfl⟩ | ⟨h1,h2,h3,h4,rfl⟩ | ⟨h1,h2,h3,h4,rfl⟩ | ⟨h1,h2,h2',h3,rfl⟩
  ·rw[Uw h1]
   exact⟨ho.prw _ (by omega),ho.srv _ (by omega),ho.rok _ (by omega)⟩
  ·rw[Ur (by omega),Uw h1]
   exact⟨ho.ptw _ (by omega),ho.dv _ (by omega),ho.tok _ (by omega)⟩
  ·rw[Ur (by omega),Ur (by omega),Uw h1]
   refine⟨ho.pmw _ (by omega),ho.smv _ (by omega) _ ?_,ho.mok _ (by omega)⟩
   have hn:=ho.smn e.k.n.toNat (by omega)
   have a0:=(hargs 0 (by omega)).2.1.1
   rw[d5 (be p s data) e.args 0 dE (0,0) (by omega)]
   have:=Int.tmod_lt_of_pos (be p s data (e.args.getD 0 dE)).1 (show(0:Int)<(s.Uk.getD e.k.n.toNat []).length by omega)
   have h0:=Int.tmod_nonneg (((s.Uk.getD e.k.n.toNat []).length:Nat):Int) a0
   omega
  ·rw[Ur h1,Ur h2',Ur h2]
   obtain⟨q1,q2,q3,q4⟩:=Fd (c:=c) hl hargs
   rw[q1]
   obtain⟨r1,r2⟩:=G8 (G':=[e.k.n,e.w.n]) h3 q2 q3 rfl rfl rfl
   refine⟨?_,r2,?_⟩
   ·unfold b7;rw[h3];rfl
   ·exact(kI h3).2.2
theorem Fe {a:Ex}:∀{l:List Ex},a∈l→fo a≤fo.depL l
 | b::r,h=>by
  rw[fo.depL]
  rcases Vh.1 h with rfl | h
  ·omega
  ·have:=Fe h;omega
theorem r8 {e a:Ex} (h:a∈e.args):fo a<fo e:=by
 cases e with
 | mk op name k w args=>rw[fo];exact Nat.lt_succ_of_le (Fe h)
theorem I2 {c:Sc} {e a:Ex} {w:Int} (h:eF c e=some w) (ha:a∈e.args):∃w',eF c a=some w':=by
 obtain⟨ws,h1,_⟩:=gk h
 obtain⟨i,hi,rfl⟩:=List.mem_iff_getElem.1 ha
 have:=(l5 h1).2 i hi
 exact⟨_,by simpa[List.getD,Uq hi]using this⟩
theorem I3 {c:Sc} {e:Ex} {w:Int} (h:eF c e=some w):e.args.length≤3:=by
 obtain⟨ws,h1,h2⟩:=gk h
 have hl:=(l5 h1).1
 rcases h2 with ⟨_,h2,_⟩ | ⟨_,h2,_⟩ | ⟨_,h2,_⟩ | ⟨_,_,_,h2,_⟩
 ·rw[h2]at hl;simp at hl;omega
 ·rw[h2]at hl;simp at hl;omega
 ·omega
 ·have:=(kI h2).1
  have:bw e.op≤3:=by unfold bw;split<;>(try split)<;>(try split)<;>(try split)<;>omega
  omega
theorem I4 {c:Sc} {p:Pr} {s:Ps} {data:List Int} {e:Ex} {w:Int} (ho:tG c p s data) (h:eF c e=some w) (XP:e.op=16):0≤e.k.n∧e.k.n<s.Ul.length∧e.k.n<p.Ul.length:=by
 obtain⟨ws,h1,h2⟩:=gk h
 have a1:=ho.srl;have a2:=ho.prl
 rcases h2 with ⟨_,_,h3,h4,_⟩ | ⟨h,_⟩ | ⟨h,_⟩ | ⟨h,_⟩<;>omega
theorem Ff {c:Sc} {p:Pr} {s:Ps} {data:List Int} {e:Ex} {w:Int} (ho:tG c p s data) (h:eF c e=some w) (XP:e.op=18):0≤e.k.n∧e.k.n<data.length∧e.k.n<p.I.length:=by
 obtain⟨ws,h1,h2⟩:=gk h
 have a1:=ho.dl;have a2:=ho.ptl
 rcases h2 with ⟨h,_⟩ | ⟨_,_,h3,h4,_⟩ | ⟨h,_⟩ | ⟨_,_,h,_⟩<;>omega
theorem Fg {c:Sc} {p:Pr} {s:Ps} {data:List Int} {e:Ex} {w:Int} (ho:tG c p s data) (h:eF c e=some w) (XP:e.op=17) :
  0≤e.k.n∧e.k.n<s.Uk.length∧e.k.n<p.Uk.length∧e.args.length=1∧0<(s.Uk.getD e.k.n.toNat []).length ∧
   0≤Int.tmod (be p s data (e.args.getD 0 dE)).1 (s.Uk.getD e.k.n.toNat []).length∧Int.tmod (be p s data (e.args.getD 0 dE)).1 (s.Uk.getD e.k.n.toNat []).length<(s.Uk.getD e.k.n.toNat []).length:=by
 obtain⟨ws,h1,h2⟩:=gk h
 have a1:=ho.sml;have a2:=ho.pml
 obtain⟨hl,hg⟩:=l5 h1
 rcases h2 with ⟨h,_⟩ | ⟨h,_⟩ | ⟨_,h5,h3,h4,_⟩ | ⟨_,h,_⟩<;>try omega
 have hn:=ho.smn e.k.n.toNat (by omega)
 have a0:=(I1 ho _ (e.args.getD 0 dE) _ (Ut _) (hg 0 (by omega))).2.1.1
 refine⟨by omega,by omega,by omega,by omega,hn,Int.tmod_nonneg _ a0,Int.tmod_lt_of_pos _ (by omega)⟩
theorem fw {p:Pr} {s:Ps} {data:List Int} {e:Ex} (h:e.op=16):(be p s data e).1=s.Ul.getD e.k.n.toNat 0∧(be p s data e).2=(p.Ul.getD e.k.n.toNat aI).w:=by
 rw[lZ,Uw h];exact⟨rfl,rfl⟩
theorem dV {p:Pr} {s:Ps} {data:List Int} {e:Ex} (h:e.op=18):(be p s data e).1=data.getD e.k.n.toNat 0∧(be p s data e).2=(p.I.getD e.k.n.toNat bC).w:=by
 rw[lZ,Ur (by omega),Uw h];exact⟨rfl,rfl⟩
theorem dW {p:Pr} {s:Ps} {data:List Int} {e:Ex} (h:e.op=17) (hl:e.args.length=1):(be p s data e).1=(s.Uk.getD e.k.n.toNat []).getD (Int.tmod (be p s data (e.args.getD 0 dE)).1 (s.Uk.getD e.k.n.toNat []).length).toNat 0∧(be p s data e).2=(p.Uk.getD e.k.n.toNat ay).w:=by
 rw[lZ,Ur (by omega),Ur (by omega),Uw h,d5 (be p s data) e.args 0 dE (0,0) (by omega)];exact⟨rfl,rfl⟩
def fx (p:Pr) (s:Ps) (data:List Int) (l:List Ex):List Int:=l.map fun a=>(be p s data a).1
def dJ (p:Pr) (s:Ps) (data:List Int) (l:List Ex):List Int:=l.map fun a=>(be p s data a).2
theorem wC {p:Pr} {s:Ps} {data:List Int} (l:List Ex):(fx p s data l).length=l.length:=by simp[fx]
theorem r9 {p:Pr} {s:Ps} {data:List Int} (l:List Ex):(dJ p s data l).length=l.length:=by simp[dJ]
theorem yg {α:Type} {l:List α} {i:Nat} {d:α} (h:i<l.length):l.take (i+1)=l.take i++[l.getD i d]:=by
 rw[VK h];simp[List.getD,Uq h]
theorem yh {p:Pr} {s:Ps} {data:List Int} {l:List Ex} {i:Nat} (h:i<l.length):fx p s data (l.take (i+1))=fx p s data (l.take i)++[(be p s data (l.getD i dE)).1]:=by
 rw[yg (d:=dE) h];simp[fx]
theorem yi {p:Pr} {s:Ps} {data:List Int} {l:List Ex} {i:Nat} (h:i<l.length):dJ p s data (l.take (i+1))=dJ p s data (l.take i)++[(be p s data (l.getD i dE)).2]:=by
 rw[yg (d:=dE) h];simp[dJ]
theorem iV {p:Pr} {s:Ps} {data:List Int} {e:Ex} (h1:¬e.op=16) (h2:¬e.op=18) (h3:¬e.op=17):(be p s data e).1=cT e.op (dJ p s data e.args) (fx p s data e.args) [e.k.n,e.w.n]∧(be p s data e).2=b7 e.op (dJ p s data e.args) e.k.n e.w.n:=by
 rw[lZ,Ur h1,Ur h2,Ur h3]
 simp only[fx,dJ,Wn]
 exact⟨rfl,rfl⟩
theorem jg {l:List Ex} {i:Nat} (h:i<l.length):l.getD i dE∈l:=by simp[List.getD,Uq h]
def ic (b:List Int):Prop:=∀x∈b,0≤x∧x≤255
theorem cO {b:List Int} (h:ic b) (i:Nat):0≤b.getD i 0∧b.getD i 0≤255:=by
 by_cases hi:i<b.length
 ·simp only[List.getD,Uq hi,Wk]
  exact h _ (V0 hi)
 ·simp[List.getD,U1 (Nat.le_of_not_lt hi)]
structure Sg where
 Ul:List Int
 I:List Int
 Uk:List Mm
 data:Bool
def Sg.sc (s:Sg):Sc:=⟨s.Ul,s.Uk.map (·.w),if s.data then s.I else []⟩
def fk (v w:Int):Ex:=⟨1,e0,⟨v%2^w.toNat,e0⟩,⟨w,e0⟩,[]⟩
def G9 (i:Nat):Ex:=⟨16,e0,⟨i,e0⟩,dN,[]⟩
def I5 (i:Nat):Ex:=⟨18,e0,⟨i,e0⟩,dN,[]⟩
def fI (f:Nat→Ex) (w:Int) (l:List Int):Nat→List Ex
 | 0=>[]
 | k+1=>fI f w l k++(if l.getD k 0=w then [f k]else [])
def dz (s:Sg) (w:Int):List Ex:=fI G9 w s.Ul s.Ul.length++(if s.data then fI I5 w s.I s.I.length else [])
def bq (s:Sg) (w b:Int):Ex:=if (dz s w).length=0∨b%4=0 then fk (b / 4) w else (dz s w).getD (b / 4%(dz s w).length).toNat dE
def p7 (l:List Mm) (w:Int):Nat→Nat→Option Nat
 | 0,_=>none
 | n+1,k=>if (l.getD k ay).w=w then some k else p7 l w n (k+1)
def jC (k:Int):Int:=[2,3,4,5,6,7,10,8,9,11].getD (k-4).toNat 0
def tH (y w:Int):Int:=let o:=jC (y%14);if (o=8∨o=9)∧w>1 then 5 else if o=11∧w=1 then 3 else o
def ke (y w:Int):List Int:=let o:=jC (y%14)
 if o=2 then [w]else if o=10 then [1,w,w]else if o=8∨o=9 then (if w>1 then [w,w]else [1+y / 14%3,1+y / 14%3])else if o=11 then (if w=1 then [w,w]else [w-1,1])else [w,w]
def bI (t:Nat→Int→Ex×Nat):List Int→Nat→List Ex×Nat
 | [],i=>([],i)
 | w::r,i=>((t i w).1::(bI t r (t i w).2).1,(bI t r (t i w).2).2)
def bQ (s:Sg) (t:Nat→Int→Ex×Nat) (w b:Int) (i:Nat):Ex×Nat :=
 match (if b%3=0 then p7 s.Uk w s.Uk.length 0 else none)with
 | some m=>let x:=t i (1+b / 3%3);(⟨17,e0,⟨m,e0⟩,dN,[x.1]⟩,x.2)
 | none=>if b%3=1∧w>1 then let x:=t i (w-1);(⟨13,e0,dN,⟨w,e0⟩,[x.1]⟩,x.2)
  else let x:=t i (w+b / 3%2);(⟨12,e0,⟨b / 3%2,e0⟩,⟨w,e0⟩,[x.1]⟩,x.2)
def av (s:Sg) (b:List Int):Nat→Nat→Int→Ex×Nat
 | 0,i,w=>(bq s w (b.getD i 0 / 14),i+1)
 | d+1,i,w =>
  let y:=b.getD i 0
  if d=0∨y%14<2 then (bq s w (y / 14),i+1)
  else if y%14=2∨y%14=3 then bQ s (av s b d) w (y / 14) (i+1)
  else (⟨tH y w,e0,dN,dN,(bI (av s b d) (ke y w) (i+1)).1⟩,(bI (av s b d) (ke y w) (i+1)).2)
theorem Fh {s:Sg} {w:Int} {WU:List Ex} {j:Nat} (h:WU=fI G9 w s.Ul s.Ul.length++fI I5 w s.I j) (h0:s.data=false→j=0) (h1:s.data=true→j=s.I.length):WU=dz s w:=by
 rw[h];unfold dz
 cases hs:s.data
 ·rw[h0 hs];simp[fI]
 ·rw[h1 hs];simp
theorem oX {f:Nat→Ex} {w:Int} {l:List Int} {k:Nat} (h:l.getD k 0=w):fI f w l k++[f k]=fI f w l (k+1):=by rw[fI,Uw h]
theorem sa {f:Nat→Ex} {w:Int} {l:List Int} {k:Nat} (h:¬l.getD k 0=w):fI f w l k=fI f w l (k+1):=by rw[fI,Ur h,Vq]
theorem LN (s:Sg) (w:Int):(dz s w).length≤s.Ul.length+s.I.length:=by
 have key:∀(f:Nat→Ex) (l:List Int) (k:Nat),(fI f w l k).length≤k:=by
  intro f l k
  induction k with
  | zero=>simp[fI]
  | succ k ih=>rw[fI];simp only[UK];split<;>simp<;>omega
 unfold dz
 have h1:=key G9 s.Ul s.Ul.length
 have h2:=key I5 s.I s.I.length
 rw[UK]
 split
 ·omega
 ·simp;omega
theorem tI {f:Nat→Ex} {w:Int} {l:List Int} {e:Ex}:∀(k:Nat),e∈fI f w l k→∃i,i<k∧e=f i∧l.getD i 0=w
 | 0,h=>by cases h
 | k+1,h=>by
  rw[fI,Vp]at h
  rcases h with h | h
  ·obtain⟨i,h1,h2⟩:=tI k h;exact⟨i,by omega,h2⟩
  ·split at h
   ·rename_i hw
    simp only[VH]at h
    exact⟨k,by omega,h,hw⟩
   ·cases h
theorem Ob {c:Sc} {v w:Int} (hw:ax w=true):eF c (fk v w)=some w:=by
 have h:=aQ.1 hw
 unfold fk
 rw[eF,eF.tyL]
 simp only
 rw[Ur (by decide),Ur (by decide),Ur (by decide)]
 have hm:=r6 (x:=v) (w:=w) (by omega) (by omega)
 have e:bp 1 [] (v%2^w.toNat) w=w:=by
  show(if ax w=false∨v%2^w.toNat<0∨ai w<v%2^w.toNat then 0 else w)=w
  rw[Ur]
  rintro(h1 | h1 | h1)
  ·rw[hw]at h1;cases h1
  ·have:=hm.1;omega
  ·have:=hm.2;omega
 have ho:it 1 [] (v%2^w.toNat) w=true:=by
  unfold it
  rw[e,hw]
  rfl
 rw[Uw ho,e]
theorem I6 {s:Sg} {w:Int} {e:Ex} (h:e∈dz s w):eF s.sc e=some w∧e.args=[]∧fo e=1:=by
 unfold dz at h
 rw[Vp]at h
 rcases h with h | h
 ·obtain⟨i,h1,rfl,h2⟩:=tI _ h
  refine⟨?_,rfl,rfl⟩
  unfold G9
  rw[eF,eF.tyL]
  simp only
  rw[Uw trivial,Uw ⟨by trivial,by simp,by show((i:Nat):Int)<(s.Ul.length:Int);omega⟩]
  show some (s.Ul.getD (i:Int).toNat 0)=some w
  rw[Vd,h2]
 ·split at h
  ·rename_i hd
   obtain⟨i,h1,rfl,h2⟩:=tI _ h
   refine⟨?_,rfl,rfl⟩
   have ht:s.sc.tw=s.I:=by show(if s.data then s.I else [])=s.I;rw[Uw hd]
   unfold I5
   rw[eF,eF.tyL]
   simp only
   rw[Ur (by decide),Uw trivial,ht,Uw ⟨by trivial,by simp,by omega⟩,Vd,h2]
  ·cases h
theorem Fj {s:Sg} {w b:Int} (hw:ax w=true) (hb:0≤b):eF s.sc (bq s w b)=some w∧(bq s w b).args=[]∧fo (bq s w b)=1:=by
 unfold bq
 split
 ·exact⟨Ob hw,rfl,rfl⟩
 ·rename_i hn
  simp only[not_or]at hn
  have h1:=VI (b / 4) (show(0:Int)<((dz s w).length:Int) by omega)
  have h0:=VC (b / 4) (show((dz s w).length:Int)≠0 by omega)
  exact I6 (jg (by omega))
theorem yj {l:List Mm} {w:Int}:∀{n k m:Nat},p7 l w n k=some m→k≤m∧m<k+n∧(l.getD m ay).w=w
 | 0,k,m,h=>by cases h
 | n+1,k,m,h=>by
  rw[p7]at h
  split at h
  ·rename_i hw;cases h;exact⟨by omega,by omega,hw⟩
  ·obtain⟨h1,h2,h3⟩:=yj h;exact⟨by omega,by omega,h3⟩
theorem BC {t:Nat→Int→Ex×Nat}:∀(ws:List Int) (i:Nat),(bI t ws i).1.length=ws.length
 | [],i=>rfl
 | w::r,i=>by rw[bI];simp[BC r]
theorem Fk {c:Sc} {t:Nat→Int→Ex×Nat}:∀(ws:List Int) (i:Nat),(∀w∈ws,∀i,eF c (t i w).1=some w)→eF.tyL c (bI t ws i).1=some ws
 | [],i,_=>rfl
 | w::r,i,h=>by
  rw[bI,eF.tyL,h w (by simp) i,Fk r _ (fun w hw=>h w (by simp[hw]))]
theorem BD {t:Nat→Int→Ex×Nat} {n:Nat}:∀(ws:List Int) (i:Nat),(∀w∈ws,∀i,fo (t i w).1≤n)→fo.depL (bI t ws i).1≤n
 | [],i,_=>by rw[bI,fo.depL];exact Vs _
 | w::r,i,h=>by
  rw[bI,fo.depL]
  have h1:=h w (by simp) i
  have h2:=BD r (t i w).2 (fun w hw=>h w (by simp[hw]))
  omega
theorem wD {t:Nat→Int→Ex×Nat} {n:Nat}:∀(ws:List Int) (i:Nat),(∀w∈ws,∀i,i≤(t i w).2∧(t i w).2≤i+n)→i≤(bI t ws i).2∧(bI t ws i).2≤i+n*ws.length
 | [],i,_=>⟨Ut _,Nat.le_add_right _ _⟩
 | w::r,i,h=>by
  rw[bI]
  have h1:=h w (by simp) i
  have h2:=wD r (t i w).2 (fun w hw=>h w (by simp[hw]))
  have:n*(w::r).length=n*r.length+n:=by rw[Ve,Nat.mul_succ]
  show i≤(bI t r (t i w).2).2∧(bI t r (t i w).2).2≤i+n*(w::r).length
  omega
theorem Ha {k:Int} (h:4≤k) (h2:k<14):jC k=2∨jC k=3∨jC k=4∨jC k=5∨jC k=6∨jC k=7∨jC k=10∨jC k=8∨jC k=9∨jC k=11:=by
 have:k=4∨k=5∨k=6∨k=7∨k=8∨k=9∨k=10∨k=11∨k=12∨k=13:=by omega
 rcases this with rfl | rfl | rfl | rfl | rfl | rfl | rfl | rfl | rfl | rfl<;>decide
theorem CQ {op:Int} {w k v:Int} (XP:op=3∨op=4∨op=5∨op=6∨op=7) (hw:ax w=true):it op [w,w] k v=true∧bp op [w,w] k v=w:=by
 have e:∀op,bp op [w,w] k v=w∨True:=fun _=>.inr trivial
 have ha:bV [w,w]=w:=by unfold bV;rw[Ur (by simp)];rfl
 have hv:bp op [w,w] k v=bV [w,w]:=by rcases XP with rfl | rfl | rfl | rfl | rfl<;>rfl
 have hA:bw op=2:=by rcases XP with rfl | rfl | rfl | rfl | rfl<;>decide
 refine⟨?_,by rw[hv,ha]⟩
 unfold it
 rw[hv,ha,hA]
 simp[hw]
theorem I7 {y w:Int} (hk:4≤y%14) (h0:0≤y) (hw:1≤w) (hw8:w≤8):it (tH y w) (ke y w) 0 0=true∧bp (tH y w) (ke y w) 0 0=w∧(tH y w≠16∧tH y w≠18∧tH y w≠17)∧(∀v∈ke y w,1≤v∧(v≤w∨v≤3))∧(ke y w).length≤3:=by
 have hf:ax w=true:=aQ.2 ⟨hw,hw8⟩
 have hc:=Ha hk (by omega)
 unfold tH ke
 simp only
 have hn:(1:Int)≤1+y / 14%3∧1+y / 14%3≤3:=by omega
 generalize hv:1+y / 14%3=v at *
 have Ya:ax v=true:=aQ.2 ⟨hn.1,by omega⟩
 rcases hc with h | h | h | h | h | h | h | h | h | h<;>rw[h]<;>simp only[Int.reduceEq,false_or,or_false,false_and,V2,true_and,V5,or_true,true_or]
 ·refine⟨?_,rfl,by decide,by simp;omega,by simp⟩
  show(decide (([w].length:Int)=bw 2)&&[w].all ax&&ax w)=true
  simp[hf];decide
 ·exact⟨(CQ (by simp) hf).1,(CQ (by simp) hf).2,by decide,by simp;omega,by simp⟩
 ·exact⟨(CQ (by simp) hf).1,(CQ (by simp) hf).2,by decide,by simp;omega,by simp⟩
 ·exact⟨(CQ (by simp) hf).1,(CQ (by simp) hf).2,by decide,by simp;omega,by simp⟩
 ·exact⟨(CQ (by simp) hf).1,(CQ (by simp) hf).2,by decide,by simp;omega,by simp⟩
 ·exact⟨(CQ (by simp) hf).1,(CQ (by simp) hf).2,by decide,by simp;omega,by simp⟩
 ·have e:bp 10 [1,w,w] 0 0=w:=by
   show(if (1:Int)≠1∨w≠w then 0 else w)=w
   rw[Ur (by simp)]
  refine⟨?_,e,by decide,by simp;omega,by simp⟩
  unfold it
  rw[e]
  simp[hf];decide
 ·split
  ·exact⟨(CQ (by simp) hf).1,(CQ (by simp) hf).2,by decide,by simp;omega,by simp⟩
  ·have hw1:w=1:=by omega
   subst hw1
   have ha:bV [v,v]=v:=by unfold bV;rw[Ur (by simp)];rfl
   have e:bp 8 [v,v] 0 0=1:=by
    show min (bV [v,v]) 1=1
    rw[ha];omega
   refine⟨?_,e,by decide,by simp;omega,by simp⟩
   unfold it
   rw[e]
   simp[Ya];decide
 ·split
  ·exact⟨(CQ (by simp) hf).1,(CQ (by simp) hf).2,by decide,by simp;omega,by simp⟩
  ·have hw1:w=1:=by omega
   subst hw1
   have ha:bV [v,v]=v:=by unfold bV;rw[Ur (by simp)];rfl
   have e:bp 9 [v,v] 0 0=1:=by
    show min (bV [v,v]) 1=1
    rw[ha];omega
   refine⟨?_,e,by decide,by simp;omega,by simp⟩
   unfold it
   rw[e]
   simp[Ya];decide
 ·split
  ·exact⟨(CQ (by simp) hf).1,(CQ (by simp) hf).2,by decide,by simp;omega,by simp⟩
  ·have e:bp 11 [w-1,1] 0 0=w:=by
    show(w-1)+1=w
    omega
   have hf1:ax (w-1)=true:=aQ.2 ⟨by omega,by omega⟩
   refine⟨?_,e,by decide,by simp;omega,by simp⟩
   unfold it
   rw[e]
   simp[hf,hf1];decide
theorem wE {s:Sg} {b:List Int} (hb:ic b):∀(d i:Nat) (w:Int),d≤3→1≤w→w+d≤8→eF s.sc (av s b d i w).1=some w∧fo (av s b d i w).1≤max d 1∧i≤(av s b d i w).2∧(av s b d i w).2≤i+4^d:=by
 intro d
 induction d with
 | zero =>
  intro i w h3 h1 h2
  have hy:=cO hb i
  obtain⟨q1,q2,q3⟩:=Fj (s:=s) (w:=w) (b:=b.getD i 0 / 14) (aQ.2 ⟨h1,by omega⟩) (by omega)
  rw[av]
  exact⟨q1,by show fo (bq s w (b.getD i 0 / 14))≤1;omega,by show i≤i+1;omega,by show i+1≤i+4^0;omega⟩
 | succ d ih =>
  intro i w h3 h1 h2
  have hy:=cO hb i
  have hp:1≤4^d:=Nat.one_le_pow _ _ (by omega)
  have hpow:4^(d+1)=4*4^d:=by rw[Nat.pow_succ];omega
  rw[av]
  split
  ·obtain⟨q1,q2,q3⟩:=Fj (s:=s) (w:=w) (b:=b.getD i 0 / 14) (aQ.2 ⟨h1,by omega⟩) (by omega)
   exact⟨q1,by show fo (bq s w (b.getD i 0 / 14))≤_;omega,by show i≤i+1;omega,by show i+1≤i+4^(d+1);omega⟩
  ·rename_i hn
   simp only[not_or]at hn
   split
   ·generalize hz:b.getD i 0 / 14=z
    have hz0:0≤z:=by omega
    unfold bQ
    split
    ·rename_i m hm
     split at hm
     ·obtain⟨e1,e2,e3⟩:=yj hm
      obtain⟨q1,q2,q3,q4⟩:=ih (i+1) (1+z / 3%3) (by omega) (by omega) (by omega)
      refine⟨?_,?_,by simp only;omega,by simp only;omega⟩
      ·simp only
       rw[eF,eF.tyL,q1,eF.tyL]
       simp only
       rw[Ur (by decide),Ur (by decide),Uw trivial]
       have hl:(s.sc.mw.length:Int)=s.Uk.length:=by show((s.Uk.map (·.w)).length:Int)=_;simp
       rw[Uw ⟨rfl,by simp,by rw[hl];show((m:Nat):Int)<_;omega⟩]
       show some ((s.Uk.map (·.w)).getD (m:Int).toNat 0)=some w
       rw[Vd,d5 (·.w) s.Uk m ay 0 (by omega),e3]
      ·rw[fo,fo.depL,fo.depL];omega
     ·cases hm
    ·rename_i hm
     split
     ·rename_i hc
      obtain⟨q1,q2,q3,q4⟩:=ih (i+1) (w-1) (by omega) (by omega) (by omega)
      refine⟨?_,?_,by simp only;omega,by simp only;omega⟩
      ·simp only
       rw[eF,eF.tyL,q1,eF.tyL]
       simp only
       rw[Ur (by decide),Ur (by decide),Ur (by decide)]
       have e:bp 13 [w-1] 0 w=w:=by
        show(if w<w-1 then 0 else w)=w
        rw[Ur (by omega)]
       have ho:it 13 [w-1] 0 w=true:=by
        unfold it
        rw[e]
        have f1:ax w=true:=aQ.2 ⟨h1,by omega⟩
        have f2:ax (w-1)=true:=aQ.2 ⟨by omega,by omega⟩
        simp[f1,f2];decide
       rw[Uw ho,e]
      ·rw[fo,fo.depL,fo.depL];omega
     ·have hm2:z / 3%2=0∨z / 3%2=1:=by omega
      obtain⟨q1,q2,q3,q4⟩:=ih (i+1) (w+z / 3%2) (by omega) (by omega) (by omega)
      refine⟨?_,?_,by simp only;omega,by simp only;omega⟩
      ·simp only
       rw[eF,eF.tyL,q1,eF.tyL]
       simp only
       rw[Ur (by decide),Ur (by decide),Ur (by decide)]
       have f1:ax w=true:=aQ.2 ⟨h1,by omega⟩
       have f2:ax (w+z / 3%2)=true:=aQ.2 ⟨by omega,by omega⟩
       have e:bp 12 [w+z / 3%2] (z / 3%2) w=w:=by
        show(if ax w=false∨z / 3%2<0∨(w+z / 3%2)-w<z / 3%2 then 0 else w)=w
        rw[Ur]
        rintro(hh | hh | hh)
        ·rw[f1]at hh;cases hh
        ·omega
        ·omega
       have ho:it 12 [w+z / 3%2] (z / 3%2) w=true:=by
        unfold it
        rw[e]
        simp[f1,f2];decide
       rw[Uw ho,e]
      ·rw[fo,fo.depL,fo.depL];omega
   ·obtain⟨o1,o2,o3,o4,o5⟩:=I7 (y:=b.getD i 0) (w:=w) (by omega) hy.1 h1 (by omega)
    have key:∀v∈ke (b.getD i 0) w,∀i,eF s.sc (av s b d i v).1=some v∧fo (av s b d i v).1≤max d 1∧i≤(av s b d i v).2∧(av s b d i v).2≤i+4^d:=by
     intro v hv j
     have:=o4 v hv
     exact ih j v (by omega) this.1 (by omega)
    have hty:=Fk (c:=s.sc) (t:=av s b d) (ke (b.getD i 0) w) (i+1) (fun v hv j=>(key v hv j).1)
    have hdp:=BD (t:=av s b d) (n:=max d 1) (ke (b.getD i 0) w) (i+1) (fun v hv j=>(key v hv j).2.1)
    have hps:=wD (t:=av s b d) (n:=4^d) (ke (b.getD i 0) w) (i+1) (fun v hv j=>(key v hv j).2.2)
    refine⟨?_,?_,by simp only;omega,?_⟩
    ·rw[eF,hty]
     simp only
     rw[Ur o3.1,Ur o3.2.1,Ur o3.2.2,Uw o1,o2]
    ·rw[fo];omega
    ·simp only
     have:4^d*(ke (b.getD i 0) w).length≤4^d*3:=V9 _ o5
     omega
theorem I8 {s:Sg} {w b:Int} (h:(dz s w).length=0∨b%4=0):bq s w b=fk (b / 4) w:=Uw h
theorem I9 {s:Sg} {w b:Int} (h1:¬((dz s w).length:Int)=0) (h2:¬b%4=0):bq s w b=(dz s w).getD (b / 4%((dz s w).length:Int)).toNat dE:=Ur (by rintro(h | h)<;>omega)
theorem yk (s:Sg) (w b:Int):(bq s w b).args=[]:=by
 unfold bq
 split
 ·rfl
 ·by_cases h:(b / 4%((dz s w).length:Int)).toNat<(dz s w).length
  ·exact(I6 (jg h)).2.1
  ·rw[List.getD,U1 (by omega)];rfl
theorem Qg {s:Sg} {t:Nat→Int→Ex×Nat} {w b:Int} {i k:Nat} (h:b%3=0) (hm:p7 s.Uk w s.Uk.length 0=some k):bQ s t w b i=(⟨17,e0,⟨k,e0⟩,dN,[(t i (1+b / 3%3)).1]⟩,(t i (1+b / 3%3)).2):=by
 unfold bQ;rw[Uw h,hm]
theorem Ja {s:Sg} {t:Nat→Int→Ex×Nat} {w b:Int} {i:Nat} (h:b%3=1) (hw:w>1):bQ s t w b i=(⟨13,e0,dN,⟨w,e0⟩,[(t i (w-1)).1]⟩,(t i (w-1)).2):=by
 unfold bQ;rw[Ur (by omega)];simp only;rw[Uw ⟨h,hw⟩]
theorem Jb {s:Sg} {t:Nat→Int→Ex×Nat} {w b:Int} {i:Nat} (hm:b%3=0→p7 s.Uk w s.Uk.length 0=none) (h:¬(b%3=1∧w>1)):bQ s t w b i=(⟨12,e0,⟨b / 3%2,e0⟩,⟨w,e0⟩,[(t i (w+b / 3%2)).1]⟩,(t i (w+b / 3%2)).2):=by
 unfold bQ
 have e:(if b%3=0 then p7 s.Uk w s.Uk.length 0 else none)=none:=by split;exact hm ‹_›;rfl
 rw[e];simp only;rw[Ur h]
theorem Fl {l:List Mm} {w:Int} {k:Nat} (hk:k<l.length) (h:¬(l.getD k ay).w=w):p7 l w (l.length-k) k=p7 l w (l.length-(k+1)) (k+1):=by
 have e:l.length-k=(l.length-(k+1))+1:=by omega
 rw[e,p7,Ur h]
theorem Jc {l:List Mm} {w:Int} {k:Nat} (hk:k<l.length) (h:(l.getD k ay).w=w):p7 l w (l.length-k) k=some k:=by
 have e:l.length-k=(l.length-(k+1))+1:=by omega
 rw[e,p7,Uw h]
theorem wF {l:List Mm} {w:Int} {k:Nat} (hk:¬k<l.length):p7 l w (l.length-k) k=none:=by
 have e:l.length-k=0:=by omega
 rw[e,p7]
theorem Jd {s:Sg} {b:List Int} {d i:Nat} {w:Int} (h:d≤1):av s b d i w=(bq s w (b.getD i 0 / 14),i+1):=by
 cases d with
 | zero=>rfl
 | succ d=>rw[av];rw[Uw (.inl (by omega))]
theorem Oc {s:Sg} {b:List Int} {d i:Nat} {w:Int} (h:b.getD i 0%14<2):av s b (d+1+1) i w=(bq s w (b.getD i 0 / 14),i+1):=by
 rw[av];rw[Uw (.inr h)]
theorem Je {s:Sg} {b:List Int} {d i:Nat} {w:Int} (h:b.getD i 0%14=2∨b.getD i 0%14=3):av s b (d+1+1) i w=bQ s (av s b (d+1)) w (b.getD i 0 / 14) (i+1):=by
 rw[av];rw[Ur (by omega),Uw h]
theorem Dz {s:Sg} {b:List Int} {d i:Nat} {w:Int} (h:¬b.getD i 0%14<2) (h2:¬b.getD i 0%14=2) (h3:¬b.getD i 0%14=3):av s b (d+1+1) i w=(⟨tH (b.getD i 0) w,e0,dN,dN,(bI (av s b (d+1)) (ke (b.getD i 0) w) (i+1)).1⟩,(bI (av s b (d+1)) (ke (b.getD i 0) w) (i+1)).2):=by
 rw[av];rw[Ur (by omega),Ur (by omega)]
theorem tJ {t:Nat→Int→Ex×Nat}:∀(l:List Int) (i k:Nat),k<l.length→bI t (l.take (k+1)) i=((bI t (l.take k) i).1++[(t (bI t (l.take k) i).2 (l.getD k 0)).1],(t (bI t (l.take k) i).2 (l.getD k 0)).2)
 | [],i,k,h=>by cases h
 | w::r,i,0,h=>by simp[bI]
 | w::r,i,k+1,h=>by
  simp only[Wl,bI]
  rw[tJ r _ k (by simpa using h)]
  simp
theorem Od {s:Sg} {b:List Int} (hb:ic b) {y w:Int} {d k:Nat} (i:Nat) (h1:1≤w) (h2:w+(d+2:Nat)≤8) (h3:d+2≤3) (hy:4≤y%14) (hy0:0≤y) (hk:k<(ke y w).length):1≤(ke y w).getD k 0∧(ke y w).getD k 0+(d+1:Nat)≤8∧i≤(bI (av s b (d+1)) ((ke y w).take k) i).2∧(bI (av s b (d+1)) ((ke y w).take k) i).2+4^(d+1)+1≤i+4^(d+2):=by
 obtain⟨o1,o2,o3,o4,o5⟩:=I7 hy hy0 h1 (by omega:w≤8)
 have hm:(ke y w).getD k 0∈ke y w:=by
  rw[List.getD,Uq hk];exact V0 hk
 have hv:=o4 _ hm
 have hps:=wD (t:=av s b (d+1)) (n:=4^(d+1)) ((ke y w).take k) i (fun v hv j=>by
  have hh:=o4 v (List.mem_of_mem_take hv)
  exact(wE hb (d+1) j v (by omega) hh.1 (by omega)).2.2)
 have hl:((ke y w).take k).length≤2:=by rw[UG];omega
 have hq:4^(d+1)*((ke y w).take k).length≤4^(d+1)*2:=V9 _ hl
 have hp:1≤4^(d+1):=Nat.one_le_pow _ _ (by omega)
 have hpow:4^(d+2)=4*4^(d+1):=by rw[Nat.pow_succ];omega
 exact⟨hv.1,by omega,hps.1,by omega⟩
theorem TZ {x:Int} {n:Nat} (h:¬(n:Int)=0):IX (x%(n:Int)) (n:Int):=⟨VC x h,VI x (by omega)⟩
end Go.Proofs.YtnlmlkbaflmgcaaGreat
