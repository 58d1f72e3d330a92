/- Parts of a proof. -/
import Derived.Test.YtckgpflobhpnpaaGreatQDr
import Derived.Test.YtckgpflobhpnpaaGreatProg
namespace Go.Proofs.YtckgpflobhpnpaaGreat
open Go.RowKit
set_option linter.unusedVariables false
set_option linter.unusedSimpArgs false
def Gh (st T4:St):Prop:=∀(C:kU) (S:Nat→Prop) (μ:Nat→Value) (a:Act) (w:World),bc C S μ st a w→∃S' μ',bc C S' μ' T4 a w
structure HM:Type 1 where
 F:St→St×Prop
 ok:∀st,(F st).2→Gh st (F st).1
section
variable {C:kU} {S:Nat→Prop} {μ μ':Nat→Value} {st:St} {a:Act} {w:World}
theorem bc.retell (h:bc C S μ st a w) {Wm:List (Nat×D)} {H':List ap} (XK:∀t d,(t,d)∈Wm→∃e,(t,e)∈st.env∧∀u,an S μ w e u→an S μ' w d u)
  (N':∀(i:Nat) (B:ap),H'[i]?=some B→aH S μ' w (μ' i) B)
  (Uc:∀(i:Nat) (B:ap) (b:Nat),H'[i]?=some B→B.live=true→bL (μ' i) b→∃(j:Nat) (A:ap),st.heap[j]?=some A∧A.live=true∧bL (μ j) b)
  (hap:∀(i j:Nat) (A B:ap) (b:Nat),H'[i]?=some A→H'[j]?=some B→A.live=true→B.live=true→bL (μ' i) b→bL (μ' j) b→i=j)
  (U9:∀(i:Nat) (B:ap),H'[i]?=some B→B.isRo=true→st.heap[i]?=some B∧μ' i=μ i):bc C S μ' ⟨Wm,H'⟩ a w:=by
 refine⟨h.os,h.tape,h.output,h.size,h.old,h.mono,h.new,h.slt,fun t d hm=>?_,⟨N',hap,fun i A b hA la hb=>?_⟩,fun i A b hA la hb=>?_,?_,h.tsize,fun i A b hA la hb=>?_⟩
 ·obtain⟨e,h1,h2⟩:=XK t d hm
  obtain⟨q1,q2⟩:=h.env t e h1
  exact⟨q1,h2 _ q2⟩
 ·obtain⟨j,B,h1,h2,h3⟩:=Uc i A b hA la hb
  exact h.heap.notS j B b h1 h2 h3
 ·obtain⟨j,B,h1,h2,h3⟩:=Uc i A b hA la hb
  exact h.may j B b h1 h2 h3
 ·obtain⟨mk,d1,d2,d3⟩:=h.defers
  refine⟨mk,d1,d2,fun b hb=>?_⟩
  obtain⟨q1,q2,q3,q4⟩:=d3 b hb
  refine⟨q1,q2,q3,fun i A hA hl XC=>?_⟩
  obtain⟨j,B,h1,h2,h3⟩:=Uc i A b hA hl XC
  exact q4 j B h1 h2 h3
 ·obtain⟨h1,h2⟩:=U9 i A hA la
  rw[h2]at hb
  exact h.ro i A b h1 la hb
theorem bc.boxTo2 (h:bc C S μ st a w) {id:Nat} {A B:ap} (hA:st.heap[id]?=some A) (XA:A.live=true) (hB:aH S μ w (μ id) B) (U9:B.isRo=false:=by rfl):bc C S μ ⟨st.env,st.heap.set id B⟩ a w:=by
 have Uh:id<st.heap.length:=(Rz.1 hA).1
 have hg:∀(i:Nat) (X:ap),(st.heap.set id B)[i]?=some X→(i=id∧X=B)∨(i≠id∧st.heap[i]?=some X):=by
  intro i X hX
  by_cases hi:i=id
  ·subst hi
   rw[RR Uh]at hX
   cases hX
   exact .inl ⟨rfl,rfl⟩
  ·rw[RQ (fun e=>hi e.symm)]at hX
   exact .inr ⟨hi,hX⟩
 have hl:∀(i:Nat) (X:ap),(st.heap.set id B)[i]?=some X→X.live=true→∃Y,st.heap[i]?=some Y∧Y.live=true:=by
  intro i X hX hXl
  rcases hg i X hX with ⟨rfl,rfl⟩ | ⟨_,YX⟩
  ·exact⟨A,hA,XA⟩
  ·exact⟨X,YX,hXl⟩
 refine h.retell (fun t d hm=>⟨d,hm,fun _ h=>h⟩) (fun i X hX=>?_) (fun i X b hX lX hb=>?_) (fun i k X Y b hX hY lX lY=>?_) (fun i X hX lX=>?_)
 ·rcases hg i X hX with ⟨rfl,rfl⟩ | ⟨_,YX⟩
  ·exact hB
  ·exact h.heap.box i X YX
 ·obtain⟨Y,h1,h2⟩:=hl i X hX lX
  exact⟨i,Y,h1,h2,hb⟩
 ·obtain⟨X',q1,q2⟩:=hl i X hX lX
  obtain⟨Y',q3,q4⟩:=hl k Y hY lY
  exact h.heap.apart i k X' Y' b q1 q3 q2 q4
 ·rcases hg i X hX with ⟨rfl,rfl⟩ | ⟨_,YX⟩
  ·rw[U9]at lX;cases lX
  ·exact⟨YX,rfl⟩
theorem Gh.trans {UW Yc st3:St} (h1:Gh UW Yc) (h2:Gh Yc st3):Gh UW st3:=fun C S μ a w h=>by
 obtain⟨S1,μ1,h'⟩:=h1 C S μ a w h
 exact h2 C S1 μ1 a w h'
theorem Gh.kill (id:Nat) (st:St):Gh st (st.kill id):=fun C S μ a w h=>⟨S,μ,h.kill id⟩
def fg {α:Type} (enc:α→List V) (d:α) (l:List α) (i j:Nat):D:=.v ((enc (l.getD i d)).getD j .nilf)
def Kk (id:Nat) (st:St):St×Prop:=match st.heap[id]? with
 | some (.arr E sz enc d l)=>(⟨st.env,st.heap.set id (.arrD E sz l.length [] (fg enc d l))⟩,True)
 | _=>(st,False)
theorem Mx (id:Nat) (st:St) (hp:(Kk id st).2):Gh st (Kk id st).1:=fun C S μ a w h=>by
 unfold Kk at hp ⊢
 split
 ·rename_i E sz α enc d l hb
  refine⟨S,μ,h.boxTo2 hb rfl ?_⟩
  obtain⟨r0,xs,r1,r2⟩:=h.heap.box id _ hb
  refine⟨fun i j k hi hj _=>rfl,xs,r1,fun i j hi hj=>?_⟩
  have hx0:l[i]?=some (l.getD i d):=by rw[dF _ _ hi];exact RB hi
  have YC:=r0 i _ hx0
  have Yd:j<(enc (l.getD i d)).length:=by omega
  have hy:(enc (l.getD i d))[j]?=some ((enc (l.getD i d)).getD j .nilf):=by
   generalize enc (l.getD i d)=q at Yd ⊢
   rw[Sk,RB Yd]
   rfl
  obtain⟨z,hz,hr⟩:=r2 i _ j _ hx0 hy
  exact⟨z,hz,hr.one,.v _ _ hr⟩
 ·rename_i hn
  split at hp
  ·rename_i E sz α enc d l hb;exact(hn _ _ _ _ _ _ hb).elim
  ·exact hp.elim
def Oj (id:Nat):HM:=⟨Kk id,Mx id⟩
def Kl (id:Nat) {α:Type} (enc:α→List V) (d:α) (l:List α) (st:St):St×Prop:=match st.heap[id]? with
 | some (.arrD E sz n _ cell)=>(⟨st.env,st.heap.set id (.arr E sz enc d l)⟩,l.length=n∧(∀x∈l,(enc x).length=sz)∧∀i j,i<n→j<sz→cell i j=fg enc d l i j)
 | _=>(st,False)
theorem My (id:Nat) {α:Type} (enc:α→List V) (d:α) (l:List α) (st:St) (hp:(Kl id enc d l st).2):Gh st (Kl id enc d l st).1:=fun C S μ a w h=>by
 unfold Kl at hp ⊢
 split
 ·rename_i E sz n gs cell hb
  rw[hb]at hp
  obtain⟨rfl,p1,p2⟩:=hp
  refine⟨S,μ,h.boxTo2 hb rfl ?_⟩
  obtain⟨r0,xs,r1,r2⟩:=h.heap.box id _ hb
  refine⟨fun i x hx=>p1 x (Sf hx),xs,r1,fun i x j y hx hy=>?_⟩
  have hi:=(Rz.1 hx).1
  have hj:=(Rz.1 hy).1
  rw[p1 x (Sf hx)]at hj
  obtain⟨z,hz,_,hr⟩:=r2 i j hi hj
  rw[p2 i j hi hj]at hr
  have hx0:l.getD i d=x:=by rw[Sk,hx];rfl
  unfold fg at hr
  rw[hx0,Sk,hy]at hr
  exact⟨z,hz,bv hr⟩
 ·rename_i hn
  split at hp
  ·rename_i E sz n gs cell hb;exact(hn _ _ _ _ _ hb).elim
  ·exact hp.elim
def Km (id:Nat) {α:Type} (enc:α→List V) (d:α) (l:List α):HM:=⟨Kl id enc d l,My id enc d l⟩
def Kn (id n':Nat) (Wu:List Nat) (Ub:Nat→Nat→D) (st:St):St×Prop:=match st.heap[id]? with
 | some (.arrD E sz n gs cell)=>(⟨st.env,st.heap.set id (.arrD E sz n' Wu Ub)⟩,n'=n∧∀i j,i<n'→j<sz→Ub i j=cell i j∧∀k,Wu.all (fun g=>!(Nat.beq g k))=true→(Ub i j).free k=true)
 | _=>(st,False)
theorem Mz (id n':Nat) (Wu:List Nat) (Ub:Nat→Nat→D) (st:St) (hp:(Kn id n' Wu Ub st).2):Gh st (Kn id n' Wu Ub st).1:=fun C S μ a w h=>by
 unfold Kn at hp ⊢
 split
 ·rename_i E sz n gs cell hb
  rw[hb]at hp
  obtain⟨rfl,hp⟩:=hp
  refine⟨S,μ,h.boxTo2 hb rfl ?_⟩
  obtain⟨r0,xs,r1,r2⟩:=h.heap.box id _ hb
  refine⟨fun i j k hi hj hk=>(hp i j hi hj).2 k hk,xs,r1,fun i j hi hj=>?_⟩
  rw[(hp i j hi hj).1]
  exact r2 i j hi hj
 ·rename_i hn
  split at hp
  ·rename_i E sz n gs cell hb;exact(hn _ _ _ _ _ hb).elim
  ·exact hp.elim
def eE (id n':Nat) (Wu:List Nat) (Ub:Nat→Nat→D):HM:=⟨Kn id n' Wu Ub,Mz id n' Wu Ub⟩
def Ko (g m':Nat) (f':Nat→qC) (st:St):St×Prop:=match st.heap[g]? with
 | some (.grp m f)=>(⟨st.env,st.heap.set g (.grp m' f')⟩,m'=m∧∀k,k<m'→f' k=f k)
 | _=>(st,False)
theorem MA (g m':Nat) (f':Nat→qC) (st:St) (hp:(Ko g m' f' st).2):Gh st (Ko g m' f' st).1:=fun C S μ a w h=>by
 unfold Ko at hp ⊢
 split
 ·rename_i m f hb
  rw[hb]at hp
  obtain⟨rfl,hp⟩:=hp
  refine⟨S,μ,h.boxTo2 hb rfl ?_⟩
  obtain⟨us,h0,h1,h2,h3⟩:=h.heap.box g _ hb
  refine⟨us,h0,h1,fun r v hv=>?_,h3⟩
  have hr:=(RU.1 hv).1
  rw[hp r (by omega)]
  exact h2 r v hv
 ·rename_i hn
  split at hp
  ·rename_i m f hb;exact(hn _ _ hb).elim
  ·exact hp.elim
def tz (g m':Nat) (f':Nat→qC):HM:=⟨Ko g m' f',MA g m' f'⟩
def Eu (f:Nat→qC) (st:St):St×Prop:=if b9 st.heap.length st.env&&bQ st.heap.length st.heap then (⟨st.env,st.heap++[.grp 0 f]⟩,True)else (st,False)
theorem Kp (f:Nat→qC) (st:St) (hp:(Eu f st).2):Gh st (Eu f st).1:=fun C S μ a w h=>by
 unfold Eu at hp ⊢
 split
 ·rename_i hc
  simp only[RA]at hc
  have:=h.upd0 (id:=st.heap.length) (B:=.grp 0 f) (row:=none) (u:=.tuple #[]) (lh w) (fun k hk=>by cases hk) (RD _)
   ⟨#[],rfl,rfl,fun r v hv=>by simp at hv,fun r r' v v' b hv=>by simp at hv⟩ (fun b hb=>by
    rcases hb with hb | ⟨us,e,k,x,hk,_⟩
    ·cases hb
    ·cases e;simp at hk) (.inr hc)
  rw[show ck st.heap st.heap.length (.grp 0 f)=st.heap++[.grp 0 f]from by simp[ck]]at this
  exact⟨_,_,this⟩
 ·rename_i hc
  rw[RE hc]at hp
  exact hp.elim
def Ok (f:Nat→qC):HM:=⟨Eu f,Kp f⟩
def HN (g r q:Nat) (c c':D):Prop:=(c=.gr g r∧c'=.own q)∨(c'=c∧((∃r',c=.gr g r'∧r'≠r)∨(∃x,c=.v x)∨(c=.nils)∨∃p,c=.own p∧p≠q∧p≠g))
def qC.box (x:qC):ap:=.arr x.E x.sz x.enc x.d x.l
def ju (x:qC):qC:=⟨x.E,x.sz,x.α,x.enc,x.d,[]⟩
def jR (f:Nat→qC) (r:Nat) (x:qC):Nat→qC:=fun i=>if i=r then x else f i
def Ew (a g r:Nat) (Ub:Nat→Nat→D) (st:St):St×Prop:=match st.heap[a]?,st.heap[g]? with
 | some (.arrD E sz n gs cell),some (.grp m f) =>
  if b9 st.heap.length st.env&&bQ st.heap.length st.heap then
   (⟨ms g st.env,(((cf g st.heap).set a (.arrD E sz n (st.heap.length::gs) Ub)).set g (.grp m (jR f r (ju (f r)))))++[(f r).box]⟩,
    r<m∧∀i j,i<n→j<sz→HN g r st.heap.length (cell i j) (Ub i j))
  else (st,False)
 | _,_=>(st,False)
theorem HO (S:Nat→Prop) (w:World) (x:qC):sk S w (.slice none 0 0) (ju x) :=
 ⟨fun i y hy=>(List.not_mem_nil (Sf (show([]:List x.α)[i]?=some y from hy))).elim,[],Td w 0 _ _,fun i z j y hz=>(List.not_mem_nil (Sf (show([]:List x.α)[i]?=some z from hz))).elim⟩
theorem an.two {d:D} {u x y:Value} {g q:Nat} (h:an S μ w d u) (hq:D.free q d=true):an S (aZ (aZ μ q x) g y) w (Proofs.YtckgpflobhpnpaaGreat.killD g d) u:=by
 have h1:an S (aZ μ q x) w d u:=h.stable (fun _ h _=>h) (fun _ _ _=>rfl) (RD _) (fun id Uh=>aG _ _ (fun e=>by rw[e,hq]at Uh;cases Uh))
 exact(h1.killD (id:=g)).stable (fun _ h _=>h) (fun _ _ _=>rfl) (RD _) (fun id Uh=>aG _ _ (fun e=>by rw[e,kW]at Uh;cases Uh))
theorem xM (g:Nat) (B:ap):ap.free g (B.kill g)=true:=by
 have:=kY g [B]
 simp only[cf,bQ,Tr]at this
 exact this
theorem aH.two {B:ap} {u x y:Value} {g q:Nat} (h:aH S μ w u B) (hq:ap.free q B=true):aH S (aZ (aZ μ q x) g y) w u (B.kill g):=by
 have h1:aH S (aZ μ q x) w u B:=h.stable (fun _ h _=>h) (fun _ _ _=>rfl) (RD _) (fun id Uh=>aG _ _ (fun e=>by rw[e,hq]at Uh;cases Uh)) (fun _ _=>rfl)
 exact(h1.kill (id:=g)).stable (fun _ h _=>h) (fun _ _ _=>rfl) (RD _) (fun id Uh=>aG _ _ (fun e=>by rw[e,xM]at Uh;cases Uh)) (fun _ _=>rfl)
theorem y6 {g r:Nat} {u:Value} (h:an S μ w (.gr g r) u):∃us:Array Value,μ g=.tuple us∧us[r]?=some u∧u.oneCell'=true:=by
 cases h with
 | gr _ _ us _ h1 h2 h3=>exact⟨us,h1,h2,h3⟩
theorem HP {H:List ap} {g a i:Nat} {A G X B:ap} (ha:a<H.length) (hg:g<H.length) (h:(((cf g H).set a A).set g G++[X])[i]?=some B) :
  (i=H.length∧B=X)∨(i=g∧B=G)∨(i=a∧i≠g∧B=A)∨(i≠H.length∧i≠g∧i≠a∧∃B0,H[i]?=some B0∧B=B0.kill g):=by
 have hl:(((cf g H).set a A).set g G).length=H.length:=by rw[Sw,Sw,bZ]
 by_cases hi:i<H.length
 ·rw[RP (by omega)]at h
  refine .inr ?_
  by_cases e1:i=g
  ·subst e1
   rw[RR (by rw[Sw,bZ];exact hg)]at h
   cases h
   exact .inl ⟨rfl,rfl⟩
  ·rw[RQ (fun e=>e1 e.symm)]at h
   refine .inr ?_
   by_cases e2:i=a
   ·subst e2
    rw[RR (by rw[bZ];exact ha)]at h
    cases h
    exact .inl ⟨rfl,e1,rfl⟩
   ·rw[RQ (fun e=>e2 e.symm),eK]at h
    cases hc:H[i]? with
    | none=>rw[hc]at h;cases h
    | some B0=>rw[hc]at h;simp at h;exact .inr ⟨by omega,e1,e2,B0,rfl,h.symm⟩
 ·rw[RT (by omega),hl]at h
  have:i=H.length:=by
   have:=(Rz.1 h).1
   simp at this
   omega
  subst this
  simp at h
  exact .inl ⟨rfl,h.symm⟩
theorem Kq (a g r:Nat) (Ub:Nat→Nat→D) (st:St) (hp:(Ew a g r Ub st).2):Gh st (Ew a g r Ub st).1:=fun C S μ act w h=>by
 unfold Ew at hp ⊢
 split
 rotate_left
 ·rename_i hn
  split at hp
  ·rename_i E sz n gs cell m f h1 h2;exact(hn _ _ _ _ _ _ _ h1 h2).elim
  ·exact hp.elim
 rename_i E sz n gs cell m f Wk VD
 rw[Wk,VD]at hp
 split
 rotate_left
 ·rename_i hc;simp only at hp;rw[RE hc]at hp;exact hp.elim
 rename_i hc
 simp only at hp
 rw[RH hc]at hp
 simp only[RA]at hc
 obtain⟨fE,fH⟩:=hc
 obtain⟨hr,Vd⟩:=hp
 generalize hq:st.heap.length=q at *
 have hag:a≠g:=fun e=>by rw[e,VD]at Wk;cases Wk
 have UL:a<q:=by rw[← hq];exact(Rz.1 Wk).1
 have hgl:g<q:=by rw[← hq];exact(Rz.1 VD).1
 obtain⟨us,UG,Ul,UA,WF⟩:=h.heap.box g _ VD
 obtain⟨a0,xs,a1,a2⟩:=h.heap.box a _ Wk
 have ZR:r<us.size:=by omega
 obtain⟨V2,hRr⟩:=UA r us[r] (R0 ZR)
 generalize hv:us[r]=v at *
 have hvr:us[r]?=some v:=by rw[R0 ZR,hv]
 let VH:=us.setIfInBounds r (.slice none 0 0)
 have WP:∀k,VH[k]?=if k=r then some (.slice none 0 0)else us[k]?:=by
  intro k
  by_cases hk:k=r
  ·subst hk;rw[RH rfl];simp[VH,ZR]
  ·rw[RE hk];simp only[VH];exact SE (fun e=>hk e.symm)
 have U6:∀(i:Nat) (B:ap),((((cf g st.heap).set a (.arrD E sz n (q::gs) Ub)).set g (.grp m (jR f r (ju (f r)))))++[(f r).box])[i]?=some B→_:=fun i B hB=>HP (by rw[hq];exact UL) (by rw[hq];exact hgl) hB
 rw[hq]at U6
 have mq:aZ (aZ μ q v) g (.tuple VH) q=v:=by rw[aG _ _ (by omega),ay]
 have mg:aZ (aZ μ q v) g (.tuple VH) g=.tuple VH:=ay _ _ _
 have mo:∀i,i≠g→i≠q→aZ (aZ μ q v) g (.tuple VH) i=μ i:=fun i h1 h2=>by rw[aG _ _ h1,aG _ _ h2]
 have own:∀(i:Nat) (B:ap) (b:Nat),((((cf g st.heap).set a (.arrD E sz n (q::gs) Ub)).set g (.grp m (jR f r (ju (f r)))))++[(f r).box])[i]?=some B→B.live=true→bL (aZ (aZ μ q v) g (.tuple VH) i) b →
   (i=q∧aI v=some b)∨(i=g∧∃k x,k≠r∧us[k]?=some x∧aI x=some b)∨(i≠q∧i≠g∧∃A,st.heap[i]?=some A∧A.live=true∧bL (μ i) b):=by
  intro i B b hB hl hb
  rcases U6 i B hB with ⟨rfl,rfl⟩ | ⟨rfl,rfl⟩ | ⟨rfl,Vh,rfl⟩ | ⟨h1,h2,h3,B0,Va,rfl⟩
  ·rw[mq]at hb
   exact .inl ⟨rfl,hb.bl V2⟩
  ·rw[mg]at hb
   rcases hb with hb | ⟨WG,e,k,x,hk,hx⟩
   ·cases hb
   ·cases e
    rw[WP]at hk
    split at hk
    ·cases hk;cases hx
    ·rename_i hkr;exact .inr (.inl ⟨rfl,k,x,hkr,hk,hx⟩)
  ·rw[mo i Vh (by omega)]at hb
   exact .inr (.inr ⟨by omega,Vh,_,Wk,rfl,hb⟩)
  ·rw[mo i h2 h1]at hb
   rw[eM]at hl
   exact .inr (.inr ⟨h1,h2,B0,Va,hl,hb⟩)
 have XD:∀(k:Nat) (x:Value) (b:Nat),us[k]?=some x→aI x=some b→bL (μ g) b:=fun k x b hk hx=>.inr ⟨us,UG,k,x,hk,hx⟩
 refine⟨S,aZ (aZ μ q v) g (.tuple VH),h.retell ?_ ?_ ?_ ?_ ?_⟩
 ·intro t d hm
  obtain⟨e,he,rfl⟩:=gj hm
  exact⟨e,he,fun u hu=>hu.two (ct fE he)⟩
 ·intro i B hB
  rcases U6 i B hB with ⟨rfl,rfl⟩ | ⟨rfl,rfl⟩ | ⟨rfl,Vh,rfl⟩ | ⟨h1,h2,h3,B0,Va,rfl⟩
  ·rw[mq];exact hRr
  ·rw[mg]
   refine⟨VH,rfl,by simp[VH,Ul],fun k x hk=>?_,fun k k' x x' b hk UX hx VX=>?_⟩
   ·rw[WP]at hk
    split at hk
    ·rename_i e
     cases hk
     subst e
     refine⟨rfl,?_⟩
     rw[show jR f k (ju (f k)) k=ju (f k)from RH rfl]
     exact HO S w (f k)
    ·rename_i e
     rw[show jR f r (ju (f r)) k=f k from RE e]
     exact UA k x hk
   ·rw[WP]at hk UX
    split at hk
    ·cases hk;cases hx
    ·split at UX
     ·cases UX;cases VX
     ·exact WF k k' x x' b hk UX hx VX
  ·rw[mo i Vh (by omega)]
   refine⟨fun j k id hj hk Uh=>?_,xs,a1,fun j k hj hk=>?_⟩
   ·simp only[TD,RA]at Uh
    rcases Vd j k hj hk with ⟨_,e⟩ | ⟨e,_⟩
    ·rw[e];exact Uh.1
    ·rw[e];exact a0 j k id hj hk Uh.2
   ·obtain⟨z,hz,ho,hd⟩:=a2 j k hj hk
    refine⟨z,hz,ho,?_⟩
    rcases Vd j k hj hk with ⟨e1,e2⟩ | ⟨e,hc⟩
    ·rw[e1]at hd
     obtain⟨WG,g1,g2,_⟩:=y6 hd
     rw[UG]at g1
     cases g1
     rw[hvr]at g2
     cases g2
     rw[e2]
     have:=an.own (S:=S) (μ:=aZ (aZ μ q v) g (.tuple VH)) (w:=w) q
     rwa [mq]at this
    ·rw[e]
     rcases hc with ⟨r',e1,e2⟩ | ⟨x,e1⟩ | e1 | ⟨p,e1,e2,e3⟩
     ·rw[e1]at hd ⊢
      obtain⟨WG,g1,g2,g3⟩:=y6 hd
      rw[UG]at g1
      cases g1
      exact .gr g r' VH z mg (by rw[WP,RE e2];exact g2) g3
     ·rw[e1]at hd ⊢
      exact .v _ _ (bv hd)
     ·rw[e1]at hd ⊢
      cases hd
      exact .nils
     ·rw[e1]at hd ⊢
      have hu:=bX hd
      have:=an.own (S:=S) (μ:=aZ (aZ μ q v) g (.tuple VH)) (w:=w) p
      rw[mo p e3 e2]at this
      rw[hu]
      exact this
  ·rw[mo i h2 h1]
   exact(h.heap.box i B0 Va).two (cu fH Va)
 ·intro i B b hB hl hb
  rcases own i B b hB hl hb with ⟨rfl,hv'⟩ | ⟨rfl,k,x,_,hk,hx⟩ | ⟨_,_,A,hA,XA,hb⟩
  ·exact⟨g,_,VD,rfl,XD r v b hvr hv'⟩
  ·exact⟨i,_,VD,rfl,XD k x b hk hx⟩
  ·exact⟨i,A,hA,XA,hb⟩
 ·intro i j A B b hA hB lA lB XC XL
  rcases own i A b hA lA XC with ⟨rfl,Vf⟩ | ⟨rfl,k,x,hkr,hk,hx⟩ | ⟨n1,n2,A0,hA0,Vw,Wl⟩<;>rcases own j B b hB lB XL with ⟨rfl,Wy⟩ | ⟨rfl,k',x',hkr',UX,VX⟩ | ⟨n3,n4,B0,Va,VO,VP⟩
  ·rfl
  ·exact(hkr' (WF r k' v x' b hvr UX Vf VX).symm).elim
  ·exact(n4 (h.heap.apart j g B0 _ b Va VD VO rfl VP (XD r v b hvr Vf))).elim
  ·exact(hkr (WF k r x v b hk hvr hx Wy)).elim
  ·rfl
  ·exact(n4 (h.heap.apart j i B0 _ b Va VD VO rfl VP (XD k x b hk hx))).elim
  ·exact(n2 (h.heap.apart i g A0 _ b hA0 VD Vw rfl Wl (XD r v b hvr Wy))).elim
  ·exact(n2 (h.heap.apart i j A0 _ b hA0 VD Vw rfl Wl (XD k' x' b UX VX))).elim
  ·exact h.heap.apart i j A0 B0 b hA0 Va Vw VO Wl VP
 ·intro i B hB U9
  rcases U6 i B hB with ⟨rfl,rfl⟩ | ⟨rfl,rfl⟩ | ⟨rfl,Vh,rfl⟩ | ⟨h1,h2,h3,B0,Va,rfl⟩
  ·cases U9
  ·cases U9
  ·cases U9
  ·rw[og]at U9
   rw[show B0.kill g=B0 from by cases B0<;>first | rfl | cases U9]
   exact⟨Va,mo i h2 h1⟩
def take (a g r:Nat) (Ub:Nat→Nat→D):HM:=⟨Ew a g r Ub,Kq a g r Ub⟩
def Bc (g r q:Nat) (c c':D):Prop:=(c=.own q∧c'=.gr g r)∨(c'=c∧((∃r',c=.gr g r'∧r'≠r)∨(∃x,c=.v x)∨(c=.nils)∨∃p,c=.own p∧p≠q∧p≠g))
def Kr (a g q r m':Nat) (Ub:Nat→Nat→D) (f':Nat→qC) (st:St):St×Prop:=match st.heap[a]?,st.heap[g]?,st.heap[q]? with
 | some (.arrD E sz n gs cell),some (.grp m f),some (.arr E2 Ye enc d l) =>
   (⟨ms q (ms g st.env),(((cf q (cf g st.heap)).set a (.arrD E sz n (g::gs) Ub)).set g (.grp m' f')).set q .dead⟩,
    r≤m∧m'=max m (r+1)∧(∀k,k<m'→f' k=if k=r then ⟨E2,Ye,_,enc,d,l⟩else f k)∧∀i j,i<n→j<sz→Bc g r q (cell i j) (Ub i j))
 | _,_,_=>(st,False)
theorem HQ {H:List ap} {q g a i:Nat} {A G B:ap} (ha:a<H.length) (hg:g<H.length) (hq:q<H.length) (h:((((cf q (cf g H)).set a A).set g G).set q .dead)[i]?=some B) :
  (i=q∧B=.dead)∨(i=g∧i≠q∧B=G)∨(i=a∧i≠g∧i≠q∧B=A)∨(i≠q∧i≠g∧i≠a∧∃B0,H[i]?=some B0∧B=(B0.kill g).kill q):=by
 by_cases e0:i=q
 ·subst e0
  rw[RR (by simp only[Sw,bZ];exact hq)]at h
  cases h
  exact .inl ⟨rfl,rfl⟩
 ·rw[RQ (fun e=>e0 e.symm)]at h
  refine .inr ?_
  by_cases e1:i=g
  ·subst e1
   rw[RR (by simp only[Sw,bZ];exact hg)]at h
   cases h
   exact .inl ⟨rfl,e0,rfl⟩
  ·rw[RQ (fun e=>e1 e.symm)]at h
   refine .inr ?_
   by_cases e2:i=a
   ·subst e2
    rw[RR (by simp only[bZ];exact ha)]at h
    cases h
    exact .inl ⟨rfl,e1,e0,rfl⟩
   ·rw[RQ (fun e=>e2 e.symm),eK,eK]at h
    cases hc:H[i]? with
    | none=>rw[hc]at h;cases h
    | some B0=>rw[hc]at h;simp at h;exact .inr ⟨e0,e1,e2,B0,rfl,h.symm⟩
theorem MB (a g q r m':Nat) (Ub:Nat→Nat→D) (f':Nat→qC) (st:St) (hp:(Kr a g q r m' Ub f' st).2):Gh st (Kr a g q r m' Ub f' st).1:=fun C S μ act w h=>by
 unfold Kr at hp ⊢
 split
 rotate_left
 ·rename_i hn
  split at hp
  ·rename_i E sz n gs cell m f E2 Ye α enc d l h1 h2 h3;exact(hn _ _ _ _ _ _ _ _ _ _ _ _ _ h1 h2 h3).elim
  ·exact hp.elim
 rename_i E sz n gs cell m f E2 Ye α enc d l Wk VD WZ
 rw[Wk,VD,WZ]at hp
 obtain⟨hr,rfl,hf',Vd⟩:=hp
 have hag:a≠g:=fun e=>by rw[e,VD]at Wk;cases Wk
 have haq:a≠q:=fun e=>by rw[e,WZ]at Wk;cases Wk
 have hgq:g≠q:=fun e=>by rw[e,WZ]at VD;cases VD
 have UL:=(Rz.1 Wk).1
 have hgl:=(Rz.1 VD).1
 have W4:=(Rz.1 WZ).1
 obtain⟨us,UG,Ul,UA,WF⟩:=h.heap.box g _ VD
 obtain⟨a0,xs,a1,a2⟩:=h.heap.box a _ Wk
 have hB:=h.heap.box q _ WZ
 have V2:(μ q).oneCell'=true:=by
  obtain⟨p',c',hm,_⟩:=cD hB
  rw[hm]
  rfl
 obtain⟨VH,ZS,WP⟩:∃VH:Array Value,VH.size=max m (r+1)∧∀k,VH[k]?=if k=r then some (μ q)else us[k]?:=by
  by_cases hrm:r<m
  ·refine⟨us.setIfInBounds r (μ q),by rw[Array.size_setIfInBounds];omega,fun k=>?_⟩
   by_cases hk:k=r
   ·subst hk;rw[RH rfl];simp[Ul,hrm]
   ·rw[RE hk];exact SE (fun e=>hk e.symm)
  ·refine⟨us.push (μ q),by rw[Array.size_push];omega,fun k=>?_⟩
   have hrm':r=us.size:=by omega
   rw[S5]
   by_cases hk:k=r
   ·rw[RH hk,RH (by omega)]
   ·rw[RE hk,RE (by omega)]
 have U6:∀(i:Nat) (B:ap),((((cf q (cf g st.heap)).set a (.arrD E sz n (g::gs) Ub)).set g (.grp (max m (r+1)) f')).set q .dead)[i]?=some B→_:=fun i B hB=>HQ UL hgl W4 hB
 have mg:aZ μ g (.tuple VH) g=.tuple VH:=ay _ _ _
 have mo:∀i,i≠g→aZ μ g (.tuple VH) i=μ i:=fun i h1=>aG _ _ h1
 have own:∀(i:Nat) (B:ap) (b:Nat),((((cf q (cf g st.heap)).set a (.arrD E sz n (g::gs) Ub)).set g (.grp (max m (r+1)) f')).set q .dead)[i]?=some B→B.live=true→bL (aZ μ g (.tuple VH) i) b →
   (i=g∧aI (μ q)=some b)∨(i=g∧∃k x,k≠r∧us[k]?=some x∧aI x=some b)∨(i≠q∧i≠g∧∃A,st.heap[i]?=some A∧A.live=true∧bL (μ i) b):=by
  intro i B b hB hl hb
  rcases U6 i B hB with ⟨rfl,rfl⟩ | ⟨rfl,Vh,rfl⟩ | ⟨rfl,Vh,hne2,rfl⟩ | ⟨h1,h2,h3,B0,Va,rfl⟩
  ·cases hl
  ·rw[mg]at hb
   rcases hb with hb | ⟨WG,e,k,x,hk,hx⟩
   ·cases hb
   ·cases e
    rw[WP]at hk
    split at hk
    ·cases hk;exact .inl ⟨rfl,hx⟩
    ·rename_i hkr;exact .inr (.inl ⟨rfl,k,x,hkr,hk,hx⟩)
  ·rw[mo i Vh]at hb
   exact .inr (.inr ⟨hne2,Vh,_,Wk,rfl,hb⟩)
  ·rw[mo i h2]at hb
   rw[eM,eM]at hl
   exact .inr (.inr ⟨h1,h2,B0,Va,hl,hb⟩)
 have XD:∀(k:Nat) (x:Value) (b:Nat),us[k]?=some x→aI x=some b→bL (μ g) b:=fun k x b hk hx=>.inr ⟨us,UG,k,x,hk,hx⟩
 refine⟨S,aZ μ g (.tuple VH),h.retell ?_ ?_ ?_ ?_ ?_⟩
 ·intro t d hm
  obtain⟨e,he,rfl⟩:=gj hm
  obtain⟨e',WX,rfl⟩:=gj he
  exact⟨e',WX,fun u hu=>((hu.killD (id:=g)).stable (fun _ h _=>h) (fun _ _ _=>rfl) (RD _) (fun id Uh=>aG _ _ (fun e=>by rw[e,kW]at Uh;cases Uh))).killD⟩
 ·intro i B hBi
  rcases U6 i B hBi with ⟨rfl,rfl⟩ | ⟨rfl,Vh,rfl⟩ | ⟨rfl,Vh,hne2,rfl⟩ | ⟨h1,h2,h3,B0,Va,rfl⟩
  ·trivial
  ·rw[mg]
   refine⟨VH,rfl,ZS,fun k x hk=>?_,fun k k' x x' b hk UX hx VX=>?_⟩
   ·rw[WP]at hk
    split at hk
    ·rename_i e
     cases hk
     subst e
     refine⟨V2,?_⟩
     rw[hf' k (by omega),RH rfl]
     exact hB
    ·rename_i e
     have VB:=(RU.1 hk).1
     rw[hf' k (by omega),RE e]
     exact UA k x hk
   ·rw[WP]at hk UX
    split at hk
    ·rename_i e1
     split at UX
     ·rename_i e2;rw[e1,e2]
     ·cases hk;exact(hgq (h.heap.apart i q _ _ b VD WZ rfl rfl (XD k' x' b UX VX) (.inl hx))).elim
    ·split at UX
     ·cases UX;exact(hgq (h.heap.apart i q _ _ b VD WZ rfl rfl (XD k x b hk hx) (.inl VX))).elim
     ·exact WF k k' x x' b hk UX hx VX
  ·rw[mo i Vh]
   refine⟨fun j k id hj hk Uh=>?_,xs,a1,fun j k hj hk=>?_⟩
   ·simp only[TD,RA]at Uh
    rcases Vd j k hj hk with ⟨_,e⟩ | ⟨e,_⟩
    ·rw[e];exact Uh.1
    ·rw[e];exact a0 j k id hj hk Uh.2
   ·obtain⟨z,hz,ho,hd⟩:=a2 j k hj hk
    refine⟨z,hz,ho,?_⟩
    rcases Vd j k hj hk with ⟨e1,e2⟩ | ⟨e,hc⟩
    ·rw[e1]at hd
     have hu:=bX hd
     rw[e2]
     exact .gr g r VH z mg (by rw[WP,RH rfl,hu]) ho
    ·rw[e]
     rcases hc with ⟨r',e1,e2⟩ | ⟨x,e1⟩ | e1 | ⟨p,e1,e2,e3⟩
     ·rw[e1]at hd ⊢
      obtain⟨WG,g1,g2,g3⟩:=y6 hd
      rw[UG]at g1
      cases g1
      exact .gr g r' VH z mg (by rw[WP,RE e2];exact g2) g3
     ·rw[e1]at hd ⊢
      exact .v _ _ (bv hd)
     ·rw[e1]at hd ⊢
      cases hd
      exact .nils
     ·rw[e1]at hd ⊢
      have hu:=bX hd
      have:=an.own (S:=S) (μ:=aZ μ g (.tuple VH)) (w:=w) p
      rw[mo p e3]at this
      rw[hu]
      exact this
  ·rw[mo i h2]
   exact(((h.heap.box i B0 Va).kill (id:=g)).stable (fun _ h _=>h) (fun _ _ _=>rfl) (RD _) (fun id Uh=>aG _ _ (fun e=>by rw[e,xM]at Uh;cases Uh)) (fun _ _=>rfl)).kill
 ·intro i B b hBi hl hb
  rcases own i B b hBi hl hb with ⟨rfl,hv'⟩ | ⟨rfl,k,x,_,hk,hx⟩ | ⟨_,_,A,hA,XA,hb⟩
  ·exact⟨q,_,WZ,rfl,.inl hv'⟩
  ·exact⟨i,_,VD,rfl,XD k x b hk hx⟩
  ·exact⟨i,A,hA,XA,hb⟩
 ·intro i j A B b hA hBj lA lB XC XL
  rcases own i A b hA lA XC with ⟨rfl,Vf⟩ | ⟨rfl,k,x,hkr,hk,hx⟩ | ⟨n1,n2,A0,hA0,Vw,Wl⟩<;>rcases own j B b hBj lB XL with ⟨rfl,Wy⟩ | ⟨rfl,k',x',hkr',UX,VX⟩ | ⟨n3,n4,B0,Va,VO,VP⟩<;>first | rfl | skip
  ·exact(n3 (h.heap.apart j q B0 _ b Va WZ VO rfl VP (.inl Vf))).elim
  ·exact(n4 (h.heap.apart j i B0 _ b Va VD VO rfl VP (XD k x b hk hx))).elim
  ·exact(n1 (h.heap.apart i q A0 _ b hA0 WZ Vw rfl Wl (.inl Wy))).elim
  ·exact(n2 (h.heap.apart i j A0 _ b hA0 VD Vw rfl Wl (XD k' x' b UX VX))).elim
  ·exact h.heap.apart i j A0 B0 b hA0 Va Vw VO Wl VP
 ·intro i B hBi U9
  rcases U6 i B hBi with ⟨rfl,rfl⟩ | ⟨rfl,Vh,rfl⟩ | ⟨rfl,Vh,hne2,rfl⟩ | ⟨h1,h2,h3,B0,Va,rfl⟩
  ·cases U9
  ·cases U9
  ·cases U9
  ·rw[og,og]at U9
   rw[show(B0.kill g).kill q=B0 from by cases B0<;>first | rfl | cases U9]
   exact⟨Va,mo i h2⟩
def put (a g q r m':Nat) (Ub:Nat→Nat→D) (f':Nat→qC):HM:=⟨Kr a g q r m' Ub f',MB a g q r m' Ub f'⟩
def Q6 (a g q:Nat):D→D
 | .own i=>if Nat.beq i a then .gr q 0 else killD g (.own i)
 | d=>killD g (killD a d)
def PK (a g q:Nat):List (Nat×D)→List (Nat×D)
 | []=>[]
 | (t,d)::r=>(t,Q6 a g q d)::PK a g q r
theorem Ey {a g q:Nat}:∀{env:List (Nat×D)} {t:Nat} {d:D},(t,d)∈PK a g q env→∃e,(t,e)∈env∧d=Q6 a g q e
 | (s,e)::r,t,d,h=>by
  rcases Sq.1 h with h | h
  ·cases h;exact⟨e,Se ..,rfl⟩
  ·obtain⟨e',h1,h2⟩:=Ey h
   exact⟨e',Sb _ h1,h2⟩
def y7 (g:Nat) (c:D) (x:Ce):Prop:=(∃r,c=.gr g r∧x=.me r)∨∃y,c=.v y∧x=.v y
def y8 (a g:Nat) (ce:Nat→Nat→Ce) (st:St):St×Prop:=match st.heap[a]?,st.heap[g]? with
 | some (.arrD E sz n gs cell),some (.grp m f) =>
  if b9 st.heap.length st.env&&bQ st.heap.length st.heap then
   (⟨PK a g st.heap.length st.env,((cf g (cf a st.heap)).set a .dead).set g .dead++[.nest E sz n ce m f]⟩,∀i j,i<n→j<sz→y7 g (cell i j) (ce i j))
  else (st,False)
 | _,_=>(st,False)
theorem HR (a g:Nat) (ce:Nat→Nat→Ce) (st:St) (hp:(y8 a g ce st).2):Gh st (y8 a g ce st).1:=fun C S μ act w h=>by
 unfold y8 at hp ⊢
 split
 rotate_left
 ·rename_i hn
  split at hp
  ·rename_i E sz n gs cell m f h1 h2;exact(hn _ _ _ _ _ _ _ h1 h2).elim
  ·exact hp.elim
 rename_i E sz n gs cell m f Wk VD
 rw[Wk,VD]at hp
 split
 rotate_left
 ·rename_i hc;simp only at hp;rw[RE hc]at hp;exact hp.elim
 rename_i hc
 simp only at hp
 rw[RH hc]at hp
 simp only[RA]at hc
 obtain⟨fE,fH⟩:=hc
 have hag:a≠g:=fun e=>by rw[e,VD]at Wk;cases Wk
 have UL:=(Rz.1 Wk).1
 have hgl:=(Rz.1 VD).1
 obtain⟨us,UG,Ul,UA,WF⟩:=h.heap.box g _ VD
 obtain⟨a0,xs,a1,a2⟩:=h.heap.box a _ Wk
 have V2:(μ a).oneCell'=true:=by
  obtain⟨p',c',hm,_⟩:=ft (h.heap.box a _ Wk)
  rw[hm]
  rfl
 let WG:Array Value:=(μ a::us.toList).toArray
 have g0:WG[0]?=some (μ a):=by simp[WG]
 have gS:∀k,WG[k+1]?=us[k]?:=fun k=>by simp[WG]
 have mq:aZ μ st.heap.length (.tuple WG) st.heap.length=.tuple WG:=ay _ _ _
 have mo:∀i,i≠st.heap.length→aZ μ st.heap.length (.tuple WG) i=μ i:=fun i h=>aG _ _ h
 have U6:∀(i:Nat) (B:ap),(((cf g (cf a st.heap)).set a .dead).set g .dead++[ap.nest E sz n ce m f])[i]?=some B→(i=st.heap.length∧B=.nest E sz n ce m f)∨B=.dead∨(i≠st.heap.length∧i≠a∧i≠g∧∃B0,st.heap[i]?=some B0∧B=(B0.kill a).kill g):=by
  intro i B hB
  have hl:(((cf g (cf a st.heap)).set a .dead).set g ap.dead).length=st.heap.length:=by simp only[Sw,bZ]
  by_cases hi:i<st.heap.length
  ·rw[RP (by omega)]at hB
   refine .inr ?_
   by_cases e1:i=g
   ·subst e1
    rw[RR (by simp only[Sw,bZ];exact hgl)]at hB
    cases hB;exact .inl rfl
   ·rw[RQ (fun e=>e1 e.symm)]at hB
    by_cases e2:i=a
    ·subst e2
     rw[RR (by simp only[bZ];exact UL)]at hB
     cases hB;exact .inl rfl
    ·rw[RQ (fun e=>e2 e.symm),eK,eK]at hB
     cases hc:st.heap[i]? with
     | none=>rw[hc]at hB;cases hB
     | some B0=>rw[hc]at hB;simp at hB;exact .inr ⟨by omega,e2,e1,B0,rfl,hB.symm⟩
  ·rw[RT (by omega),hl]at hB
   have:i=st.heap.length:=by
    have:=(Rz.1 hB).1
    simp at this
    omega
   subst this
   simp at hB
   exact .inl ⟨rfl,hB.symm⟩
 have inA:∀b,aI (μ a)=some b→bL (μ a) b:=fun b h=>.inl h
 have XD:∀(k:Nat) (x:Value) (b:Nat),us[k]?=some x→aI x=some b→bL (μ g) b:=fun k x b hk hx=>.inr ⟨us,UG,k,x,hk,hx⟩
 have apAG:∀b,bL (μ a) b→bL (μ g) b→False:=fun b h1 h2=>hag (h.heap.apart a g _ _ b Wk VD rfl rfl h1 h2)
 have own:∀(i:Nat) (B:ap) (b:Nat),(((cf g (cf a st.heap)).set a .dead).set g .dead++[ap.nest E sz n ce m f])[i]?=some B→B.live=true→bL (aZ μ st.heap.length (.tuple WG) i) b →
   (i=st.heap.length∧(bL (μ a) b∨bL (μ g) b))∨(i≠st.heap.length∧i≠a∧i≠g∧∃A,st.heap[i]?=some A∧A.live=true∧bL (μ i) b):=by
  intro i B b hB hl hb
  rcases U6 i B hB with ⟨rfl,rfl⟩ | rfl | ⟨h1,h2,h3,B0,Va,rfl⟩
  ·rw[mq]at hb
   refine .inl ⟨rfl,?_⟩
   rcases hb with hb | ⟨us3,e,k,x,hk,hx⟩
   ·cases hb
   ·cases e
    cases k with
    | zero=>rw[g0]at hk;cases hk;exact .inl (inA b hx)
    | succ k=>rw[gS]at hk;exact .inr (XD k x b hk hx)
  ·cases hl
  ·rw[mo i h1]at hb
   rw[eM,eM]at hl
   exact .inr ⟨h1,h2,h3,B0,Va,hl,hb⟩
 refine⟨S,aZ μ st.heap.length (.tuple WG),h.retell ?_ ?_ ?_ ?_ ?_⟩
 ·intro t d hm
  obtain⟨e,he,rfl⟩:=Ey hm
  refine⟨e,he,fun u hu=>?_⟩
  have Uz:∀d:D,D.free st.heap.length d=true→an S μ w d u→an S (aZ μ st.heap.length (.tuple WG)) w d u:=fun d hd h=>h.stable (fun _ h _=>h) (fun _ _ _=>rfl) (RD _) (fun id Uh=>mo id (fun e=>by rw[e,hd]at Uh;cases Uh))
  have Vu:=ct fE he
  have key:an S (aZ μ st.heap.length (.tuple WG)) w (killD g (killD a e)) u:=((Uz e Vu hu).killD (id:=a)).killD
  cases e<;>first | exact key | skip
  rename_i i
  show an S _ w (if Nat.beq i a=true then .gr st.heap.length 0 else killD g (.own i)) u
  split
  ·rename_i hi
   rw[RY]at hi
   subst hi
   have:=bX hu
   subst this
   exact .gr _ 0 WG _ mq g0 V2
  ·exact(Uz _ Vu hu).killD
 ·intro i B hB
  rcases U6 i B hB with ⟨rfl,rfl⟩ | rfl | ⟨h1,h2,h3,B0,Va,rfl⟩
  ·rw[mq]
   refine⟨WG,rfl,by simp[WG,Ul],⟨μ a,xs,g0,V2,a1,fun i j hi hj=>?_⟩,fun r v hv=>?_,fun k k' x x' b hk UX hx VX=>?_⟩
   ·obtain⟨z,hz,ho,hd⟩:=a2 i j hi hj
    refine⟨z,hz,ho,?_⟩
    rcases hp i j hi hj with ⟨r,e1,e2⟩ | ⟨y,e1,e2⟩
    ·rw[e1]at hd
     rw[e2]
     obtain⟨us3,q1,q2,_⟩:=y6 hd
     rw[UG]at q1
     cases q1
     show WG[r+1]?=some z
     rw[gS];exact q2
    ·rw[e1]at hd
     rw[e2]
     exact bv hd
   ·rw[gS]at hv;exact UA r v hv
   ·cases k with
    | zero =>
     rw[g0]at hk;cases hk
     cases k' with
     | zero=>rfl
     | succ k'=>rw[gS]at UX;exact(apAG b (inA b hx) (XD k' x' b UX VX)).elim
    | succ k =>
     rw[gS]at hk
     cases k' with
     | zero=>rw[g0]at UX;cases UX;exact(apAG b (inA b VX) (XD k x b hk hx)).elim
     | succ k'=>rw[gS]at UX;rw[WF k k' x x' b hk UX hx VX]
  ·trivial
  ·rw[mo i h1]
   have Wl:aH S (aZ μ st.heap.length (.tuple WG)) w (μ i) B0:=(h.heap.box i B0 Va).stable (fun _ h _=>h) (fun _ _ _=>rfl) (RD _) (fun id Uh=>mo id (fun e=>by rw[e,cu fH Va]at Uh;cases Uh)) (fun _ _=>rfl)
   exact(Wl.kill (id:=a)).kill
 ·intro i B b hB hl hb
  rcases own i B b hB hl hb with ⟨rfl,hb | hb⟩ | ⟨_,_,_,A,hA,XA,hb⟩
  ·exact⟨a,_,Wk,rfl,hb⟩
  ·exact⟨g,_,VD,rfl,hb⟩
  ·exact⟨i,A,hA,XA,hb⟩
 ·intro i j A B b hA hB lA lB XC XL
  rcases own i A b hA lA XC with ⟨rfl,Vf⟩ | ⟨n1,n2,n3,A0,hA0,Vw,Wl⟩<;>rcases own j B b hB lB XL with ⟨rfl,Wy⟩ | ⟨n4,n5,n6,B0,Va,VO,VP⟩
  ·rfl
  ·rcases Vf with Vf | Vf
   ·exact(n5 (h.heap.apart j a B0 _ b Va Wk VO rfl VP Vf)).elim
   ·exact(n6 (h.heap.apart j g B0 _ b Va VD VO rfl VP Vf)).elim
  ·rcases Wy with Vf | Vf
   ·exact(n2 (h.heap.apart i a A0 _ b hA0 Wk Vw rfl Wl Vf)).elim
   ·exact(n3 (h.heap.apart i g A0 _ b hA0 VD Vw rfl Wl Vf)).elim
  ·exact h.heap.apart i j A0 B0 b hA0 Va Vw VO Wl VP
 ·intro i B hB U9
  rcases U6 i B hB with ⟨rfl,rfl⟩ | rfl | ⟨h1,h2,h3,B0,Va,rfl⟩
  ·cases U9
  ·cases U9
  ·rw[og,og]at U9
   rw[show(B0.kill a).kill g=B0 from by cases B0<;>first | rfl | cases U9]
   exact⟨Va,mo i h1⟩
def LO (a g:Nat) (ce:Nat→Nat→Ce):HM:=⟨y8 a g ce,HR a g ce⟩
mutual
def Ks (q a:Nat):D→D
 | .own i=>if Nat.beq i q then .junk else .own i
 | .ptr i k sz M'=>if Nat.beq i q then .junk else .ptr i k sz M'
 | .gr i r=>if Nat.beq i q then (match r with | 0=>.own a | _+1=>.junk)else .gr i r
 | .yld i=>if Nat.beq i q then .junk else .yld i
 | .agg cs=>.agg (G7 q a cs)
 | .tup cs=>.tup (G7 q a cs)
 | .fn f x y=>.fn f (G7 q a x) (G7 q a y)
 | .v y=>.v y
 | .nils=>.nils
 | .iptr cs M'=>.iptr cs M'
 | .capd y=>.capd y
 | .junk=>.junk
def G7 (q a:Nat):List D→List D
 | []=>[]
 | d::r=>Ks q a d::G7 q a r
end
def Ol (q a:Nat):List (Nat×D)→List (Nat×D)
 | []=>[]
 | (t,d)::r=>(t,Ks q a d)::Ol q a r
def LP (q a:Nat):ap→ap
 | .var T cs=>.var T (G7 q a cs)
 | .loop l tm nt env ps q' bd s p=>.loop l tm nt (Ol q a env) ps q' bd s p
 | .frame tm env=>.frame tm (Ol q a env)
 | .arrD E sz n gs cell=>if gs.all (fun g=>!(Nat.beq g q))then .arrD E sz n gs cell else .dead
 | .ro E sz enc d l=>.ro E sz enc d l
 | .dead=>.dead
 | .arr E sz enc d l=>.arr E sz enc d l
 | .mpb t ag enc d l=>.mpb t ag enc d l
 | .grp n f=>.grp n f
 | .nest E sz n ce m f=>.nest E sz n ce m f
def HS (q a:Nat):List ap→List ap
 | []=>[]
 | B::r=>LP q a B::HS q a r
theorem oz (q a:Nat):∀(cs:List D) (j:Nat),(G7 q a cs)[j]?=(cs[j]?).map (Ks q a)
 | [],j=>by simp[G7]
 | d::r,0=>by simp[G7]
 | d::r,j+1=>by simp[G7,oz q a r j]
theorem gx (q a:Nat):∀(cs:List D),(G7 q a cs).length=cs.length
 | []=>rfl
 | d::r=>by simp[G7,gx q a r]
theorem Ez (q a:Nat):∀(H:List ap) (j:Nat),(HS q a H)[j]?=(H[j]?).map (LP q a)
 | [],j=>by simp[HS]
 | d::r,0=>by simp[HS]
 | d::r,j+1=>by simp[HS,Ez q a r j]
theorem qg (q a:Nat):∀(H:List ap),(HS q a H).length=H.length
 | []=>rfl
 | d::r=>by simp[HS,qg q a r]
theorem uA {q a:Nat}:∀{env:List (Nat×D)} {t:Nat} {d:D},(t,d)∈Ol q a env→∃e,(t,e)∈env∧d=Ks q a e
 | (s,e)::r,t,d,h=>by
  rcases Sq.1 h with h | h
  ·cases h;exact⟨e,Se ..,rfl⟩
  ·obtain⟨e',h1,h2⟩:=uA h
   exact⟨e',Sb _ h1,h2⟩
section
variable {q a:Nat} {us:Array Value}
theorem y9 {d:D} {u:Value} (h:an S μ w d u) (hq:μ q=.tuple us) (h0:us[0]?=some (μ' a)) (ho:∀i,i≠q→i≠a→μ' i=μ i) (hf:D.free a d=true):an S μ' w (Ks q a d) u:=by
 induction h with
 | v y u h=>exact .v y u h
 | nils=>exact .nils
 | own i =>
  unfold Ks
  split
  ·exact .junk _
  ·rename_i hi
   rw[← ho i (fun e=>hi (by rw[e];exact TM q)) (fun e=>by simp[D.free,e]at hf)]
   exact .own i
 | ptr i k sz M' b h =>
  unfold Ks
  split
  ·exact .junk _
  ·rename_i hi
   exact .ptr i k sz M' b (by rw[ho i (fun e=>hi (by rw[e];exact TM q)) (fun e=>by simp[D.free,e]at hf)];exact h)
 | iptr cs M' b o us h1 h2 h3 h4=>exact .iptr cs M' b o us h1 h2 h3 h4
 | yld i l h =>
  unfold Ks
  split
  ·exact .junk _
  ·rename_i hi
   exact .yld i l (by rw[ho i (fun e=>hi (by rw[e];exact TM q)) (fun e=>by simp[D.free,e]at hf)];exact h)
 | capd y p n h=>exact .capd y p n h
 | junk u=>exact .junk u
 | gr i r WG u h h1 h2 =>
  unfold Ks
  split
  ·rename_i hi
   rw[RY]at hi
   subst hi
   cases r with
   | zero =>
    rw[hq]at h
    cases h
    rw[h0]at h1
    cases h1
    exact .own a
   | succ r=>exact .junk _
  ·rename_i hi
   exact .gr i r WG u (by rw[ho i (fun e=>hi (by rw[e];exact TM q)) (fun e=>by simp[D.free,e]at hf)];exact h) h1 h2
 | agg cs us h1 _ ih =>
  refine .agg _ us (by rw[gx];exact h1) (fun j y u hy hu=>?_)
  rw[oz]at hy
  cases hc:cs[j]? with
  | none=>rw[hc]at hy;cases hy
  | some e=>rw[hc]at hy;simp at hy;subst hy;exact ih j e u hc hu (D.freeL_get (by simpa only [D.free]using hf) hc)
 | tup cs us h1 _ ih =>
  refine .tup _ us (by rw[gx];exact h1) (fun j y u hy hu=>?_)
  rw[oz]at hy
  cases hc:cs[j]? with
  | none=>rw[hc]at hy;cases hy
  | some e=>rw[hc]at hy;simp at hy;subst hy;exact ih j e u hc hu (D.freeL_get (by simpa only [D.free]using hf) hc)
 | fn f x y us vs h1 _ h2 _ ih1 ih2 =>
  simp only[D.free,RA]at hf
  refine .fn f _ _ us vs (by rw[gx];exact h1) (fun j y u hy hu=>?_) (by rw[gx];exact h2) (fun j z u hy hu=>?_)
  ·rw[oz]at hy
   cases hc:x[j]? with
   | none=>rw[hc]at hy;cases hy
   | some e=>rw[hc]at hy;simp at hy;subst hy;exact ih1 j e u hc hu (D.freeL_get hf.1 hc)
  ·rw[oz]at hy
   cases hc:y[j]? with
   | none=>rw[hc]at hy;cases hy
   | some e=>rw[hc]at hy;simp at hy;subst hy;exact ih2 j e u hc hu (D.freeL_get hf.2 hc)
theorem MC {B:ap} {u:Value} (h:aH S μ w u B) (hq:μ q=.tuple us) (h0:us[0]?=some (μ' a)) (ho:∀i,i≠q→i≠a→μ' i=μ i) (hf:ap.free a B=true):aH S μ' w u (LP q a B):=by
 cases B with
 | dead=>trivial
 | arr E sz enc d l=>exact h
 | ro E sz enc d l=>exact h
 | grp n f=>exact h
 | nest E sz n ce m f=>exact h
 | mpb t ag enc d l=>exact h.stable (fun _ h _=>h) (fun _ _ _=>rfl) (RD _) (fun id Uh=>by cases Uh) (fun _ _=>rfl)
 | arrD E sz n gs cell =>
  simp only[LP]
  split
  ·rename_i hg
   refine h.stable (fun _ h _=>h) (fun _ _ _=>rfl) (RD _) (fun id Uh=>ho id (fun e=>?_) (fun e=>?_)) (fun _ _=>rfl)
   ·rw[e]at Uh;simp only[ap.free]at Uh;rw[hg]at Uh;cases Uh
   ·rw[e,hf]at Uh;cases Uh
  ·trivial
 | var T cs =>
  obtain⟨b,vs,e,q1,q2,q3⟩:=h
  refine⟨b,vs,e,q1,by rw[gx];exact q2,fun j y z hy hz=>?_⟩
  rw[oz]at hy
  cases hc:cs[j]? with
  | none=>rw[hc]at hy;cases hy
  | some y'=>rw[hc]at hy;simp at hy;subst hy;exact y9 (q3 j y' z hc hz) hq h0 ho (D.freeL_get (by simpa only [ap.free]using hf) hc)
 | loop l tm nt env ps q' bd s pe =>
  obtain⟨r,h0',h1,h2,h3,h4,h5,h6,h7,h8,h9⟩:=h
  refine⟨r,h0',h1,h2,h3,h4,h5,h6,h7,h8,fun t e hm=>?_⟩
  obtain⟨e',k1,rfl⟩:=uA hm
  exact⟨(h9 t e' k1).1,y9 (h9 t e' k1).2 hq h0 ho (ct (by simpa only [ap.free]using hf) k1)⟩
 | frame tm env =>
  obtain⟨h1,h9⟩:=h
  refine⟨h1,fun t e hm=>?_⟩
  obtain⟨e',k1,rfl⟩:=uA hm
  exact⟨(h9 t e' k1).1,y9 (h9 t e' k1).2 hq h0 ho (ct (by simpa only [ap.free]using hf) k1)⟩
end
def Gi (q:Nat):Ce→D
 | .v x=>.v x
 | .me r=>.gr q r
def EA (q:Nat) (st:St):St×Prop:=match st.heap[q]? with
 | some (.nest E sz n ce m f)=>if b9 st.heap.length st.env&&bQ st.heap.length st.heap then
   (⟨Ol q st.heap.length st.env,(HS q st.heap.length st.heap).set q (.grp m f)++[.arrD E sz n [q] (fun i j=>Gi q (ce i j))]⟩,True)
  else (st,False)
 | _=>(st,False)
theorem Kt (q:Nat) (st:St) (hp:(EA q st).2):Gh st (EA q st).1:=fun C S μ act w h=>by
 unfold EA at hp ⊢
 split
 rotate_left
 ·rename_i hn
  split at hp
  ·rename_i E sz n ce m f h1;exact(hn _ _ _ _ _ _ h1).elim
  ·exact hp.elim
 rename_i E sz n ce m f WZ
 rw[WZ]at hp
 split
 rotate_left
 ·rename_i hc;simp only at hp;rw[RE hc]at hp;exact hp.elim
 rename_i hc
 simp only[RA]at hc
 obtain⟨fE,fH⟩:=hc
 have W4:=(Rz.1 WZ).1
 obtain⟨us,UG,Ul,⟨v0,xs,g0,gone,gr,gc⟩,UA,WF⟩:=h.heap.box q _ WZ
 obtain⟨vs,VM⟩:∃vs:Array Value,vs.size=m∧∀k,vs[k]?=us[k+1]?:=⟨us.toList.tail.toArray,by simp;omega,fun k=>by simp⟩
 obtain⟨YY,VM⟩:=VM
 let μ':=aZ (aZ μ st.heap.length v0) q (.tuple vs)
 have mq:μ' q=.tuple vs:=ay _ _ _
 have ma:μ' st.heap.length=v0:=by show aZ _ _ _ _=_;rw[aG _ _ (by omega),ay]
 have mo:∀i,i≠q→i≠st.heap.length→μ' i=μ i:=fun i h1 h2=>by show aZ _ _ _ _=_;rw[aG _ _ h1,aG _ _ h2]
 have h0:us[0]?=some (μ' st.heap.length):=by rw[ma];exact g0
 have U6:∀(i:Nat) (B:ap),((HS q st.heap.length st.heap).set q (.grp m f)++[ap.arrD E sz n [q] (fun i j=>Gi q (ce i j))])[i]?=some B→(i=st.heap.length∧B=.arrD E sz n [q] (fun i j=>Gi q (ce i j)))∨(i=q∧B=.grp m f)∨(i≠st.heap.length∧i≠q∧∃B0,st.heap[i]?=some B0∧B=LP q st.heap.length B0):=by
  intro i B hB
  have hl:((HS q st.heap.length st.heap).set q (ap.grp m f)).length=st.heap.length:=by simp only[Sw,qg]
  by_cases hi:i<st.heap.length
  ·rw[RP (by omega)]at hB
   refine .inr ?_
   by_cases e1:i=q
   ·subst e1
    rw[RR (by simp only[qg];exact W4)]at hB
    cases hB;exact .inl ⟨rfl,rfl⟩
   ·rw[RQ (fun e=>e1 e.symm),Ez]at hB
    cases hc:st.heap[i]? with
    | none=>rw[hc]at hB;cases hB
    | some B0=>rw[hc]at hB;simp at hB;exact .inr ⟨by omega,e1,B0,rfl,hB.symm⟩
  ·rw[RT (by omega),hl]at hB
   have:i=st.heap.length:=by
    have:=(Rz.1 hB).1
    simp at this
    omega
   subst this
   simp at hB
   exact .inl ⟨rfl,hB.symm⟩
 have inQ:∀(k:Nat) (x:Value) (b:Nat),us[k]?=some x→aI x=some b→bL (μ q) b:=fun k x b hk hx=>.inr ⟨us,UG,k,x,hk,hx⟩
 have opl:∀B:ap,(LP q st.heap.length B).live=true→B.live=true:=by
  intro B hB
  cases B<;>first | exact hB | rfl
 have own:∀(i:Nat) (B:ap) (b:Nat),((HS q st.heap.length st.heap).set q (.grp m f)++[ap.arrD E sz n [q] (fun i j=>Gi q (ce i j))])[i]?=some B→B.live=true→bL (μ' i) b →
   (i=st.heap.length∧aI v0=some b)∨(i=q∧∃k x,us[k+1]?=some x∧aI x=some b)∨(i≠st.heap.length∧i≠q∧∃A,st.heap[i]?=some A∧A.live=true∧bL (μ i) b):=by
  intro i B b hB hl hb
  rcases U6 i B hB with ⟨rfl,rfl⟩ | ⟨rfl,rfl⟩ | ⟨h1,h2,B0,Va,rfl⟩
  ·rw[ma]at hb;exact .inl ⟨rfl,hb.bl gone⟩
  ·rw[mq]at hb
   rcases hb with hb | ⟨us3,e,k,x,hk,hx⟩
   ·cases hb
   ·cases e;rw[VM]at hk;exact .inr (.inl ⟨rfl,k,x,hk,hx⟩)
  ·rw[mo i h2 h1]at hb
   exact .inr (.inr ⟨h1,h2,B0,Va,opl B0 hl,hb⟩)
 refine⟨S,μ',h.retell ?_ ?_ ?_ ?_ ?_⟩
 ·intro t d hm
  obtain⟨e,he,rfl⟩:=uA hm
  exact⟨e,he,fun u hu=>y9 hu UG h0 mo (ct fE he)⟩
 ·intro i B hB
  rcases U6 i B hB with ⟨rfl,rfl⟩ | ⟨rfl,rfl⟩ | ⟨h1,h2,B0,Va,rfl⟩
  ·rw[ma]
   refine⟨fun i j id hi hj Uh=>?_,xs,gr,fun i j hi hj=>?_⟩
   ·show D.free id (Gi q (ce i j))=true
    cases hc:ce i j with
    | v x=>rfl
    | me r=>simpa[Gi,D.free]using Uh
   ·obtain⟨z,hz,ho,hr⟩:=gc i j hi hj
    refine⟨z,hz,ho,?_⟩
    show an S μ' w (Gi q (ce i j)) z
    cases hc:ce i j with
    | v x=>rw[hc]at hr;exact .v _ _ hr
    | me r=>rw[hc]at hr;exact .gr q r vs z mq (by rw[VM];exact hr) ho
  ·rw[mq]
   exact⟨vs,rfl,YY,fun r v hv=>UA r v (by rw[← VM];exact hv),fun r r' v v' b hr hr' hb UN=>by
    rw[VM]at hr hr'
    have:=WF (r+1) (r'+1) v v' b hr hr' hb UN
    omega⟩
  ·rw[mo i h2 h1]
   exact MC (h.heap.box i B0 Va) UG h0 mo (cu fH Va)
 ·intro i B b hB hl hb
  rcases own i B b hB hl hb with ⟨rfl,hv⟩ | ⟨rfl,k,x,hk,hx⟩ | ⟨_,_,A,hA,XA,hb⟩
  ·exact⟨q,_,WZ,rfl,inQ 0 v0 b g0 hv⟩
  ·exact⟨i,_,WZ,rfl,inQ (k+1) x b hk hx⟩
  ·exact⟨i,A,hA,XA,hb⟩
 ·intro i j A B b hA hB lA lB XC XL
  rcases own i A b hA lA XC with ⟨rfl,Vf⟩ | ⟨rfl,k,x,hk,hx⟩ | ⟨n1,n2,A0,hA0,Vw,Wl⟩<;>rcases own j B b hB lB XL with ⟨rfl,Wy⟩ | ⟨rfl,k',x',UX,VX⟩ | ⟨n4,n5,B0,Va,VO,VP⟩<;>first | rfl | skip
  ·have:=WF 0 (k'+1) v0 x' b g0 UX Vf VX;omega
  ·exact(n5 (h.heap.apart j q B0 _ b Va WZ VO rfl VP (inQ 0 v0 b g0 Vf))).elim
  ·have:=WF (k+1) 0 x v0 b hk g0 hx Wy;omega
  ·exact(n5 (h.heap.apart j i B0 _ b Va WZ VO rfl VP (inQ (k+1) x b hk hx))).elim
  ·exact(n2 (h.heap.apart i q A0 _ b hA0 WZ Vw rfl Wl (inQ 0 v0 b g0 Wy))).elim
  ·exact(n2 (h.heap.apart i j A0 _ b hA0 WZ Vw rfl Wl (inQ (k'+1) x' b UX VX))).elim
  ·exact h.heap.apart i j A0 B0 b hA0 Va Vw VO Wl VP
 ·intro i B hB U9
  rcases U6 i B hB with ⟨rfl,rfl⟩ | ⟨rfl,rfl⟩ | ⟨h1,h2,B0,Va,rfl⟩
  ·cases U9
  ·cases U9
  ·have:LP q st.heap.length B0=B0:=by
    cases B0<;>first | rfl | (cases U9;done) | (simp only[LP]at U9;split at U9<;>cases U9)
   rw[this]
   exact⟨Va,mo i h2 h1⟩
def xN (q:Nat):HM:=⟨EA q,Kt q⟩
def PL (j i:Nat) (d:D):D:=if D.free i d&&D.free j d then d else match d with
 | .ptr k a b c=>if Nat.beq k j then .ptr i a b c else .junk
 | _=>.junk
def PM (j i:Nat):List (Nat×D)→List (Nat×D)
 | []=>[]
 | (t,d)::r=>(t,PL j i d)::PM j i r
theorem EB {j i:Nat}:∀{env:List (Nat×D)} {t:Nat} {d:D},(t,d)∈PM j i env→∃e,(t,e)∈env∧d=PL j i e
 | (s,e)::r,t,d,h=>by
  rcases Sq.1 h with h | h
  ·cases h;exact⟨e,Se ..,rfl⟩
  ·obtain⟨e',h1,h2⟩:=EB h
   exact⟨e',Sb _ h1,h2⟩
def Ku (j i:Nat) (st:St):St×Prop:=match st.heap[j]? with
 | some (.var T cs)=>if bQ i st.heap&&bQ j st.heap&&!(Nat.beq i j)&&Nat.blt i st.heap.length then (⟨PM j i st.env,(st.heap.set i (.var T cs)).set j .dead⟩,True)else (st,False)
 | _=>(st,False)
theorem MD (j i:Nat) (st:St) (hp:(Ku j i st).2):Gh st (Ku j i st).1:=fun C S μ a w h=>by
 unfold Ku at hp ⊢
 split
 rotate_left
 ·rename_i hn
  split at hp
  ·rename_i T cs h1;exact(hn _ _ h1).elim
  ·exact hp.elim
 rename_i T cs XL
 rw[XL]at hp
 split
 rotate_left
 ·rename_i hc;simp only at hp;rw[RE hc]at hp;exact hp.elim
 rename_i hc
 simp only[RA,Sj,TS]at hc
 obtain⟨⟨⟨f1,f2⟩,Vh⟩,hil⟩:=hc
 have hij:i≠j:=fun e=>by subst e;rw[TM]at Vh;cases Vh
 have hjl:j<st.heap.length:=(Rz.1 XL).1
 have U6:∀(k:Nat) (B:ap),((st.heap.set i (.var T cs)).set j .dead)[k]?=some B→(k=j∧B=.dead)∨(k=i∧k≠j∧B=.var T cs)∨(k≠i∧k≠j∧st.heap[k]?=some B):=by
  intro k B hB
  by_cases e1:k=j
  ·subst e1;rw[RR (by rw[Sw];exact hjl)]at hB;cases hB;exact .inl ⟨rfl,rfl⟩
  ·rw[RQ (TO e1)]at hB
   by_cases e2:k=i
   ·subst e2;rw[RR hil]at hB;cases hB;exact .inr (.inl ⟨rfl,e1,rfl⟩)
   ·rw[RQ (TO e2)]at hB;exact .inr (.inr ⟨e2,e1,hB⟩)
 have mo:∀k,k≠i→aZ μ i (μ j) k=μ k:=fun k hk=>aG _ _ hk
 refine⟨S,aZ μ i (μ j),h.retell ?_ ?_ ?_ ?_ ?_⟩
 ·intro t d hm
  obtain⟨e,he,rfl⟩:=EB hm
  refine⟨e,he,fun u hu=>?_⟩
  unfold PL
  split
  ·rename_i hf
   simp only[RA]at hf
   exact hu.stable (fun _ h _=>h) (fun _ _ _=>rfl) (RD _) (fun id Uh=>mo id (fun e=>by rw[e,hf.1]at Uh;cases Uh))
  ·split
   ·rename_i k a' b c
    split
    ·rename_i hk
     rw[RY]at hk
     subst hk
     cases hu with
     | ptr _ _ _ _ b' hb=>exact .ptr i _ _ _ b' (by rw[ay];exact hb)
    ·exact .junk _
   ·exact .junk _
 ·intro k B hB
  rcases U6 k B hB with ⟨rfl,rfl⟩ | ⟨rfl,hkj,rfl⟩ | ⟨h1,h2,h3⟩
  ·exact trivial
  ·rw[ay]
   exact(h.heap.box j _ XL).stable (fun _ h _=>h) (fun _ _ _=>rfl) (RD _) (fun id Uh=>mo id (fun e=>by rw[e,cu f1 XL]at Uh;cases Uh)) (fun _ _=>rfl)
  ·rw[mo k h1]
   exact(h.heap.box k B h3).stable (fun _ h _=>h) (fun _ _ _=>rfl) (RD _) (fun id Uh=>mo id (fun e=>by rw[e,cu f1 h3]at Uh;cases Uh)) (fun _ _=>rfl)
 ·intro k B b hB hl hb
  rcases U6 k B hB with ⟨rfl,rfl⟩ | ⟨rfl,hkj,rfl⟩ | ⟨h1,h2,h3⟩
  ·cases hl
  ·rw[ay]at hb;exact⟨j,_,XL,rfl,hb⟩
  ·rw[mo k h1]at hb;exact⟨k,B,h3,hl,hb⟩
 ·intro k l A B b hA hB lA lB Vn W0
  rcases U6 k A hA with ⟨rfl,rfl⟩ | ⟨rfl,hkj,rfl⟩ | ⟨h1,h2,h3⟩
  ·cases lA
  ·rcases U6 l B hB with ⟨rfl,rfl⟩ | ⟨rfl,hlj,rfl⟩ | ⟨q1,q2,q3⟩
   ·cases lB
   ·rfl
   ·rw[ay]at Vn
    rw[mo l q1]at W0
    exact(q2 (h.heap.apart j l _ B b XL q3 rfl lB Vn W0).symm).elim
  ·rw[mo k h1]at Vn
   rcases U6 l B hB with ⟨rfl,rfl⟩ | ⟨rfl,hlj,rfl⟩ | ⟨q1,q2,q3⟩
   ·cases lB
   ·rw[ay]at W0
    exact(h2 (h.heap.apart k j A _ b h3 XL lA rfl Vn W0)).elim
   ·rw[mo l q1]at W0
    exact h.heap.apart k l A B b h3 q3 lA lB Vn W0
 ·intro k B hB U9
  rcases U6 k B hB with ⟨rfl,rfl⟩ | ⟨rfl,hkj,rfl⟩ | ⟨h1,h2,h3⟩
  ·cases U9
  ·cases U9
  ·exact⟨h3,mo k h1⟩
def Rf (j i:Nat):HM:=⟨Ku j i,MD j i⟩
theorem sJ {α:Type} {enc:α→List V} {d:α} {l l':List α} {sz:Nat} (h:l'=l) (hs:∀x,(enc x).length=sz):l'.length=l.length∧(∀x∈l',(enc x).length=sz)∧∀i j,i<l.length→j<sz→fg enc d l i j=fg enc d l' i j:=by
 subst h;exact⟨rfl,fun x _=>hs x,fun _ _ _ _=>rfl⟩
end
structure Lp (σ:Type):Type 1 where
 make ::
 keep:List Nat
 n:Nat
 all:(σ→Prop)→Prop
 hall:∀P,all P→∀s,P s
 mk:σ→St
 inv:σ→Prop
 m:σ→Nat
abbrev io {α:Type} (keep:List Nat) (n:Nat) (mk:α→St) (inv:α→Prop) (m:α→Nat):Lp α:=⟨keep,n,fun P=>∀a,P a,fun _ h=>h,mk,inv,m⟩
abbrev pI {α β:Type} (keep:List Nat) (n:Nat) (mk:α→β→St) (inv:α→β→Prop) (m:α→β→Nat):Lp (α×β) :=
 ⟨keep,n,fun P=>∀a b,P (a,b),fun _ h ⟨a,b⟩=>h a b,fun | (a,b)=>mk a b,fun | (a,b)=>inv a b,fun | (a,b)=>m a b⟩
abbrev LQ {α β γ:Type} (keep:List Nat) (n:Nat) (mk:α→β→γ→St) (inv:α→β→γ→Prop) (m:α→β→γ→Nat):Lp (α×β×γ) :=
 ⟨keep,n,fun P=>∀a b c,P (a,b,c),fun _ h ⟨a,b,c⟩=>h a b c,fun | (a,b,c)=>mk a b c,fun | (a,b,c)=>inv a b c,fun | (a,b,c)=>m a b c⟩
abbrev Q7 {α β γ δ:Type} (keep:List Nat) (n:Nat) (mk:α→β→γ→δ→St) (inv:α→β→γ→δ→Prop) (m:α→β→γ→δ→Nat):Lp (α×β×γ×δ) :=
 ⟨keep,n,fun P=>∀a b c d,P (a,b,c,d),fun _ h ⟨a,b,c,d⟩=>h a b c d,fun | (a,b,c,d)=>mk a b c d,fun | (a,b,c,d)=>inv a b c d,fun | (a,b,c,d)=>m a b c d⟩
abbrev Rh {α β γ δ ε:Type} (keep:List Nat) (n:Nat) (mk:α→β→γ→δ→ε→St) (inv:α→β→γ→δ→ε→Prop) (m:α→β→γ→δ→ε→Nat):Lp (α×β×γ×δ×ε) :=
 ⟨keep,n,fun P=>∀a b c d e,P (a,b,c,d,e),fun _ h ⟨a,b,c,d,e⟩=>h a b c d e,fun | (a,b,c,d,e)=>mk a b c d e,fun | (a,b,c,d,e)=>inv a b c d e,fun | (a,b,c,d,e)=>m a b c d e⟩
def Lp.ag {σ:Type} (L:Lp σ) (s:σ) (st:St):Prop:=∃s',st=L.mk s'∧L.inv s'∧L.m s'<L.m s
def Lp.at {σ:Type} (L:Lp σ) (st:St):Prop:=∃s',st=L.mk s'∧L.inv s'
inductive bw:Type 1
 | e
 | w (id:Nat) (o:List (Nat×Ov)) (h:bw)
 | q (id:Nat) (keep:List Nat) (n:Nat) (h:bw)
 | f (id b:Nat) (h:bw)
 | g (id i j E sz:Nat) {α:Type} (enc:α→List V) (d:α) (h:bw)
 | gs (id t E sz:Nat) {α:Type} (enc:α→List V) (d:α) (h:bw)
 | mv (id j i:Nat) (h:bw)
 | s (id:Nat) (P:Prop) (x y:bw)
 | y (id:Nat) (o:List (Nat×Ov)) (tab:wU) (h:bw)
 | c (t:Nat) (P:Prop) [i:Decidable P] (x y:bw)
 | n (t:Nat) (P:Prop) [i:Decidable P] (x y:bw)
 | b (t:Nat) (x y:bw)
 | t (t:Nat) (x:bw)
 | u (t:Nat) (x:bw)
 | l {σ:Type} (L:Lp σ) (s0:σ) (h:σ→bw)
 | r (n:Nat) (h:bw)
 | k (id:Nat) {σ:Type} (L:Lp σ) (x:bw) (h:σ→bw)
 | rg (e:Exit) (st:St) (h:bw)
 | gh (id:Nat) (F:HM) (h:bw)
def Om (o:Oper):Bool:=match o.op with
 | .store _ _ _=>true
 | .call ⟨.builtin .append,_,_⟩=>true
 | .call ⟨.builtin .copy,_,_⟩=>true
 | _=>false
def Oo:Ov→Bool
 | .inl _ _ _=>true
 | .inls _=>true
 | .yld _ _ _=>true
 | _=>false
def Oq:Ov→Bool
 | .app _ _ _ _ _ _=>true
 | _=>false
def Ot:Ov→Bool
 | .val .junk=>true
 | _=>false
def vP (Us:List (Nat×Ov)):List Nat→Nat→List Oper→Nat
 | _,_,[]=>0
 | rd,i,o::r=>if (Om o&&!(Oq (pz Us i)||Ot (pz Us i)))||Oo (pz Us i)||(match o.dst with | some t=>rd.any (fun s=>Nat.beq t s) | none=>false)then 0 else vP Us (Hz o.op++rd) (i+1) r+1
def Kv (P:Program) (nt:Nat) (ops:List Oper) (Us:List (Nat×Ov)) (tab:wU) (st:St) (k:St→Prop):Prop :=
 match P.follows .mixedOrders&&ops.all (fun o=>!dg o),fD tab (List.replicate ops.length false),fD tab (List.replicate ops.length true)with
 | true,some VY,some UW=>vC st VY=VY∧Gd P nt ops Us tab tab∧nS UW k
 | _,_,_=>False
def xO (id:Nat):bw→St→(List (Nat×Ov)→Option wU→bw→St→Prop)→Prop
 | .w i o h,st,k=>match Nat.beq i id with
  | true=>k o none h st
  | false=>k [] none (.w i o h) st
 | .y i o t h,st,k=>match Nat.beq i id with
  | true=>k o (some t) h st
  | false=>k [] none (.y i o t h) st
 | .q i kp n h,st,k=>match Nat.beq i id with
  | true=>nS (keepS kp n st) (fun T4=>xO id h T4 k)
  | false=>k [] none (.q i kp n h) st
 | .f i b h,st,k=>match Nat.beq i id with
  | true=>match ol b st with
   | some T4=>nS T4 (fun T4=>xO id h T4 k)
   | none=>False
  | false=>k [] none (.f i b h) st
 | .g i a j E sz enc d h,st,k=>match Nat.beq i id with
  | true=>match CW a j E sz enc d st with
   | some T4=>nS T4 (fun T4=>xO id h T4 k)
   | none=>False
  | false=>k [] none (.g i a j E sz enc d h) st
 | .gs i t E sz enc d h,st,k=>match Nat.beq i id with
  | true=>match adoptE t E sz enc d st with
   | some T4=>nS T4 (fun T4=>xO id h T4 k)
   | none=>False
  | false=>k [] none (.gs i t E sz enc d h) st
 | .mv i j a h,st,k=>match Nat.beq i id with
  | true=>match Eg j a st with
   | some T4=>nS T4 (fun T4=>xO id h T4 k)
   | none=>False
  | false=>k [] none (.mv i j a h) st
 | .gh i F h,st,k=>match Nat.beq i id with
  | true=>(F.F st).2∧nS (F.F st).1 (fun T4=>xO id h T4 k)
  | false=>k [] none (.gh i F h) st
 | .s i P x y,st,k=>match Nat.beq i id with
  | true=>(P→xO id x st k)∧(¬P→xO id y st k)
  | false=>k [] none (.s i P x y) st
 | h,st,k=>k [] none h st
def Ou:Operand→Nat
 | .tmp t=>t+1
 | _=>0
def vQ (t:Nat) (b:Bool) (X Y:bw→Prop):bw→Prop
 | @bw.c t' P i x y=>match Nat.beq (t'+1) t with
  | true=>b=@decide P i∧(P→X x)∧(¬P→Y y)
  | false=>match b with | true=>X (@bw.c t' P i x y) | false=>Y (@bw.c t' P i x y)
 | @bw.n t' P i x y=>match Nat.beq (t'+1) t with
  | true=>b=(!@decide P i)∧(¬P→X x)∧(P→Y y)
  | false=>match b with | true=>X (@bw.n t' P i x y) | false=>Y (@bw.n t' P i x y)
 | .b t' x y=>match Nat.beq (t'+1) t with
  | true=>(b=true→X x)∧(b=false→Y y)
  | false=>match b with | true=>X (.b t' x y) | false=>Y (.b t' x y)
 | .t t' x=>match Nat.beq (t'+1) t with
  | true=>b=true∧X x
  | false=>match b with | true=>X (.t t' x) | false=>Y (.t t' x)
 | .u t' x=>match Nat.beq (t'+1) t with
  | true=>b=false∧Y x
  | false=>match b with | true=>X (.u t' x) | false=>Y (.u t' x)
 | h=>match b with | true=>X h | false=>Y h
def HT:Code→Option Nat
 | .region id _ _=>some id
 | .seq a _=>HT a
 | .block _ a=>HT a
 | .loop a=>HT a
 | .cond _ a _=>HT a
 | _=>none
def Ow (x:Code):bw→Bool
 | .k id _ _ _=>match HT x with | some i=>Nat.beq i id | none=>false
 | _=>false
@[reducible] def kSeq (n:bw→St→Prop) (K:bw→Exit→St→Prop) (h:bw) (e:Exit) (st:St):Prop:=match e with
 | .normal=>n h st
 | e=>K h e st
@[reducible] def kBlock (id:Nat) (K:bw→Exit→St→Prop) (h:bw) (e:Exit) (st:St):Prop:=match e with
 | .exit i=>match Nat.beq i id with | true=>K h .normal st | false=>K h (.exit i) st
 | e=>K h e st
def Kw (body:(bw→Exit→St→Prop)→bw→St→Prop) (K:bw→Exit→St→Prop):Nat→bw→St→Prop
 | 0,_,_=>False
 | n+1,h,st=>body (fun h' e T4=>match e with | .normal=>Kw body K n h' T4 | e=>K h' e T4) h st
def qX (P:Program) (nt:Nat) (c:Code) (st:St) (e:Exit) (T4:St):Prop:=∀C:kU,C.P=P→C.nt=nt→C.rd=none→Ev C c (fun e1 UW=>e1=e∧UW=T4) st
def Kx:Code→Bool
 | .seq a b=>Kx a&&Kx b
 | .cond _ a b=>Kx a&&Kx b
 | .block _ a=>Kx a
 | .loop a=>Kx a
 | .rangeFunc _ _ _ _=>false
 | _=>true
def vc (P:Program) (nt:Nat):Code→(bw→Exit→St→Prop)→bw→St→Prop
 | .skip,K,h,st=>K h .normal st
 | .label _,K,h,st=>K h .normal st
 | .exit i,K,h,st=>K h (.exit i) st
 | .ret,K,h,st=>K h .ret st
 | .seq x y,K,h,st=>match Ow x h with
  | false=>vc P nt x (kSeq (vc P nt y K) K) h st
  | true=>match h with
   | .k _ L hx hy=>vc P nt x (fun h' e T4=>match e with | .normal=>L.at (keepS L.keep L.n T4) | e=>K h' e T4) hx st∧L.all (fun s=>L.inv s→vc P nt y K (hy s) (L.mk s))
   | _=>False
 | .block i c,K,h,st=>vc P nt c (kBlock i K) h st
 | .cond c x y,K,h,st=>match eX st.env c with
  | .v (.bool b)=>vQ (Ou c) b (fun h=>vc P nt x K h st) (fun h=>vc P nt y K h st) h
  | _=>False
 | .loop c,K,h,st=>match h with
  | .l L s0 hb=>keepS L.keep L.n st=L.mk s0∧L.inv s0∧L.all (fun s=>L.inv s→vc P nt c (fun h' e T4=>match e with | .normal=>L.ag s (keepS L.keep L.n T4) | e=>K h' e T4) (hb s) (L.mk s))
  | .r n h=>Kw (fun K=>vc P nt c K) K n h st
  | _=>False
 | .region id ops W3,K,h,st=>xO id h st fun o t h st=>match t with
  | some tab=>match W3 with
   | true=>match fD tab (List.replicate ops.toList.length false)with
    | some _=>Kv P nt ops.toList o tab st (fun st=>K h .normal st)
    | none=>Bb P nt ops.toList o (vP o [] 0 ops.toList) tab st (fun st=>K h .normal st)
   | false=>False
  | none=>match W3 with
   | false=>y4 P nt ops.toList o 0 ops.toList st (fun st=>nS st (fun st=>K h .normal st))
   | true=>Mw P nt ops.toList o (vP o [] 0 ops.toList) st (fun st=>nS st (fun st=>K h .normal st))
 | .rangeFunc g ps W1 bd,K,h,st=>match h with
  | .rg e T4 h'=>qX P nt (.rangeFunc g ps W1 bd) st e T4∧K h' e T4
  | _=>False
 | _,_,_,_=>False
section
variable {C:kU} {Q:Exit→St→Prop}
theorem Ev.regA {st T4:St} {id:Nat} {ops:List Oper} (Us:List (Nat×Ov)) {p:Prop} (h:dQ C.P C.nt ops Us 0 ops st=(T4,p)) (hp:p) (hq:Q .normal T4):Ev C (.region id ops.toArray false) Q st:=fun a w S μ hR =>
 wpIn_region_lit (qS ops 0 st S μ a w p hR h hp (fun S' μ' a' w' U0=>⟨_,S',μ',hq,U0⟩))
theorem Ev.gh {c:Code} {st T4:St} (h:Gh st T4) (he:Ev C c Q T4):Ev C c Q st:=fun a w S μ hR=>by
 obtain⟨S',μ',h'⟩:=h C S μ a w hR
 exact he a w S' μ' h'
theorem ME {id:Nat} {c:Code} {k:List (Nat×Ov)→Option wU→bw→St→Prop} (hk:∀o t h st,k o t h st→Ev C c Q st):∀(h:bw) (st:St),xO id h st k→Ev C c Q st:=by
 intro h
 induction h with
 | w i o h ih=>intro st hp;unfold xO at hp;split at hp<;>exact hk _ _ _ _ hp
 | y i o t h ih=>intro st hp;unfold xO at hp;split at hp<;>exact hk _ _ _ _ hp
 | q i kp n h ih =>
  intro st hp;unfold xO at hp;split at hp
  ·rw[mQ]at hp;exact Ev.keep kp n rfl (ih _ hp)
  ·exact hk _ _ _ _ hp
 | f i b h ih =>
  intro st hp;unfold xO at hp;split at hp
  ·split at hp
   ·rename_i T4 hf;rw[mQ]at hp;exact Ev.freeze b hf (ih _ hp)
   ·exact hp.elim
  ·exact hk _ _ _ _ hp
 | g i a j E sz enc d h ih =>
  intro st hp;unfold xO at hp;split at hp
  ·split at hp
   ·rename_i T4 hf;rw[mQ]at hp;exact Ev.adopt a j E sz enc d hf (ih _ hp)
   ·exact hp.elim
  ·exact hk _ _ _ _ hp
 | gs i t E sz enc d h ih =>
  intro st hp;unfold xO at hp;split at hp
  ·split at hp
   ·rename_i T4 hf;rw[mQ]at hp;exact Ev.adoptE t E sz enc d hf (ih _ hp)
   ·exact hp.elim
  ·exact hk _ _ _ _ hp
 | mv i j a h ih =>
  intro st hp;unfold xO at hp;split at hp
  ·split at hp
   ·rename_i T4 hf;rw[mQ]at hp;exact Ev.move j a hf (ih _ hp)
   ·exact hp.elim
  ·exact hk _ _ _ _ hp
 | gh i F h ih =>
  intro st hp;unfold xO at hp;split at hp
  ·rw[mQ]at hp;exact Ev.gh (F.ok st hp.1) (ih _ hp.2)
  ·exact hk _ _ _ _ hp
 | s i P x y ih1 ih2 =>
  intro st hp;unfold xO at hp;split at hp
  ·by_cases hP:P
   ·exact ih1 _ (hp.1 hP)
   ·exact ih2 _ (hp.2 hP)
  ·exact hk _ _ _ _ hp
 | _=>intro st hp;unfold xO at hp;exact hk _ _ _ _ hp
theorem iY {b:Bool} {X Y:bw→Prop} (h:bw) (hh:match b with | true=>X h | false=>Y h):(b=true→∃h',X h')∧(b=false→∃h',Y h'):=by
 cases b
 ·exact⟨fun h=>(by cases h),fun _=>⟨_,hh⟩⟩
 ·exact⟨fun _=>⟨_,hh⟩,fun h=>(by cases h)⟩
theorem HU {t:Nat} {b:Bool} {X Y:bw→Prop} {h:bw} (hc:vQ t b X Y h):(b=true→∃h',X h')∧(b=false→∃h',Y h'):=by
 cases h with
 | c t' P x y =>
  simp only[vQ]at hc;split at hc
  ·obtain⟨h1,h2,h3⟩:=hc
   subst h1
   exact⟨fun h=>⟨_,h2 (ST h)⟩,fun h=>⟨_,h3 (of_decide_eq_false h)⟩⟩
  ·exact iY _ hc
 | n t' P x y =>
  simp only[vQ]at hc;split at hc
  ·obtain⟨h1,h2,h3⟩:=hc
   subst h1
   exact⟨fun h=>⟨_,h2 (by simpa using h)⟩,fun h=>⟨_,h3 (by simpa using h)⟩⟩
  ·exact iY _ hc
 | b t' x y =>
  simp only[vQ]at hc;split at hc
  ·exact⟨fun h=>⟨_,hc.1 h⟩,fun h=>⟨_,hc.2 h⟩⟩
  ·exact iY _ hc
 | t t' x =>
  simp only[vQ]at hc;split at hc
  ·exact⟨fun h=>⟨_,hc.2⟩,fun h=>(by rw[hc.1]at h;cases h)⟩
  ·exact iY _ hc
 | u t' x =>
  simp only[vQ]at hc;split at hc
  ·exact⟨fun h=>(by rw[hc.1]at h;cases h),fun h=>⟨_,hc.2⟩⟩
  ·exact iY _ hc
 | _=>exact iY _ hc
theorem Gj {id:Nat} {ops:Array Oper} {W3:Bool} {h:bw} {st:St} {K:bw→Exit→St→Prop} (hv:vc C.P C.nt (.region id ops W3) K h st) (hK:∀h st,K h .normal st→Q .normal st):Ev C (.region id ops W3) Q st:=by
 unfold vc at hv
 refine ME ?_ h st hv
 intro o t h st hq
 have ha:ops=ops.toList.toArray:=by simp
 cases t with
 | some tab =>
  cases W3 with
  | false=>exact hq.elim
  | true =>
   replace hq:(match fD tab (List.replicate ops.toList.length false)with
    | some _=>Kv C.P C.nt ops.toList o tab st (fun st=>K h .normal st)
    | none=>Bb C.P C.nt ops.toList o (vP o [] 0 ops.toList) tab st (fun st=>K h .normal st)):=hq
   cases h00:fD tab (List.replicate ops.toList.length false)with
   | none =>
    rw[h00]at hq
    have hq:Bb C.P C.nt ops.toList o (vP o [] 0 ops.toList) tab st (fun st=>K h .normal st):=hq
    rw[ha]
    exact Ev.dwT (Q:=Q) o _ tab (Gg hq (fun T4 hk=>hK _ _ hk))
   | some st00 =>
   rw[h00]at hq
   replace hq:Kv C.P C.nt ops.toList o tab st (fun st=>K h .normal st):=hq
   unfold Kv at hq
   cases hb:C.P.follows .mixedOrders&&ops.toList.all (fun o=>!dg o)with
   | false=>rw[hb]at hq;exact hq.elim
   | true =>
   cases h0:fD tab (List.replicate ops.toList.length false)with
   | none=>rw[hb,h0]at hq;exact hq.elim
   | some VY =>
   cases h1:fD tab (List.replicate ops.toList.length true)with
   | none=>rw[hb,h0,h1]at hq;exact hq.elim
   | some UW =>
   rw[hb,h0,h1]at hq
   simp only[RA]at hb
   obtain⟨q1,q2,q3⟩:=hq
   rw[mQ]at q3
   rw[ha]
   exact Ev.any (T4:=UW) o tab hb.1 hb.2 h0 q1 h1 rfl q2 (hK _ _ q3)
 | none =>
  cases W3 with
  | false =>
   obtain⟨h1,h2⟩:=uw _ _ _ _ hq
   rw[mQ]at h2
   rw[ha]
   exact Ev.regA o rfl h1 (hK _ _ h2)
  | true =>
   rw[ha]
   refine Ev.dw o (vP o [] 0 ops.toList) ?_
   have ZV:Mw C.P C.nt ops.toList o (vP o [] 0 ops.toList) st (fun st=>nS st (fun st=>K h .normal st)):=by simpa using hq
   exact HI ZV (fun UW h1=>hK _ _ (by rwa [mQ]at h1))
theorem vR {c:Code} (ih:∀(K:bw→Exit→St→Prop) (h:bw) (st:St),vc C.P C.nt c K h st→Ev C c (fun e st=>∃h',K h' e st) st) (K:bw→Exit→St→Prop):∀(n:Nat) (h:bw) (st:St) (S:Nat→Prop) (μ:Nat→Value) (a:Act) (w:World),bc C S μ st a w →
  Kw (fun K=>vc C.P C.nt c K) K n h st→Code.roundsIn (od C.rd) 0 C.P c (fun e a' w'=>∃T4 S' μ',(∃h',K h' e T4)∧bc C S' μ' T4 a' w') n a w
 | 0,h,st,S,μ,a,w,hR,hv=>hv.elim
 | n+1,h,st,S,μ,a,w,hR,hv=>by
  rw[roundsIn_succ]
  refine wpIn_mono (ih _ _ _ hv a w S μ hR) ?_
  rintro e a' w' ⟨T4,S',μ',⟨h',hq⟩,U0⟩
  cases e with
  | normal=>exact vR ih K n h' T4 S' μ' a' w' U0 hq
  | exit i=>exact⟨T4,S',μ',⟨h',hq⟩,U0⟩
  | goto l=>exact⟨T4,S',μ',⟨h',hq⟩,U0⟩
  | ret=>exact⟨T4,S',μ',⟨h',hq⟩,U0⟩
  | panic ch=>exact⟨T4,S',μ',⟨h',hq⟩,U0⟩
  | outgrown=>exact⟨T4,S',μ',⟨h',hq⟩,U0⟩
theorem Gk {c:Code} (ih:∀(K:bw→Exit→St→Prop) (h:bw) (st:St),vc C.P C.nt c K h st→Ev C c (fun e st=>∃h',K h' e st) st) (K:bw→Exit→St→Prop) (n:Nat) (h:bw) (st:St) (hv:Kw (fun K=>vc C.P C.nt c K) K n h st):Ev C (.loop c) (fun e st=>∃h',K h' e st) st :=
 fun a w S μ hR=>wpIn_loop_rounds n (vR ih K n h st S μ a w hR hv)
theorem Ox {p:Prop} {a b:Bool} (h:p∨(a&&b)=true):p∨a=true:=h.imp_right fun h=>by rw[RA]at h;exact h.1
theorem Oy {p:Prop} {a b:Bool} (h:p∨(a&&b)=true):p∨b=true:=h.imp_right fun h=>by rw[RA]at h;exact h.2
theorem sK:∀(c:Code),(C.rd=none∨Kx c=true)→∀(K:bw→Exit→St→Prop) (h:bw) (st:St),vc C.P C.nt c K h st→Ev C c (fun e st=>∃h',K h' e st) st:=by
 intro c
 induction c with
 | skip=>intro _ K h st hv;exact Ev.skip ⟨h,hv⟩
 | label l=>intro _ K h st hv;exact Ev.label ⟨h,hv⟩
 | exit i=>intro _ K h st hv;exact Ev.exit ⟨h,hv⟩
 | ret=>intro _ K h st hv;exact Ev.ret ⟨h,hv⟩
 | region id ops W3=>intro _ K h st hv;exact Gj hv (fun h st hk=>⟨h,hk⟩)
 | seq x y ihx ihy =>
  intro hr K h st hv
  have ihx:=ihx (Ox hr)
  have ihy:=ihy (Oy hr)
  unfold vc at hv
  split at hv
  ·refine Ev.seq ((ihx _ _ _ hv).mono ?_)
   rintro e T4 ⟨h',hq⟩
   cases e with
   | normal=>exact ihy _ _ _ hq
   | exit i=>exact⟨h',hq⟩
   | goto l=>exact⟨h',hq⟩
   | ret=>exact⟨h',hq⟩
   | panic ch=>exact⟨h',hq⟩
   | outgrown=>exact⟨h',hq⟩
  ·cases h with
   | k id L hx hy =>
    obtain⟨h1,h2⟩:=hv
    refine Ev.cut L.keep L.n L.mk L.inv ((ihx _ _ _ h1).mono ?_) (fun s hs=>ihy _ _ _ (L.hall _ h2 s hs))
    rintro e T4 ⟨h',hq⟩
    cases e with
    | normal=>exact hq
    | exit i=>exact⟨h',hq⟩
    | goto l=>exact⟨h',hq⟩
    | ret=>exact⟨h',hq⟩
    | panic ch=>exact⟨h',hq⟩
    | outgrown=>exact⟨h',hq⟩
   | _=>exact hv.elim
 | cond c x y ihx ihy =>
  intro hr K h st hv
  have ihx:=ihx (Ox hr)
  have ihy:=ihy (Oy hr)
  unfold vc at hv
  split at hv
  ·rename_i b hb
   obtain⟨h1,h2⟩:=HU hv
   exact Ev.cond b hb (fun hb=>by obtain⟨h',q⟩:=h1 hb;exact ihx _ _ _ q) (fun hb=>by obtain⟨h',q⟩:=h2 hb;exact ihy _ _ _ q)
  ·exact hv.elim
 | block i c ih =>
  intro hr K h st hv
  have ih:=ih hr
  unfold vc at hv
  refine Ev.block ((ih _ _ _ hv).mono ?_)
  rintro e T4 ⟨h',hq⟩
  cases e with
  | exit j =>
   show(if Nat.beq j i=true then _ else _)
   change (match Nat.beq j i with | true=>K h' .normal T4 | false=>K h' (.exit j) T4)at hq
   by_cases hj:Nat.beq j i=true
   ·rw[hj]at hq;rw[RH hj];exact⟨h',hq⟩
   ·rw[RE hj]
    simp only[TH]at hj
    rw[hj]at hq
    exact⟨h',hq⟩
  | normal=>exact⟨h',hq⟩
  | goto l=>exact⟨h',hq⟩
  | ret=>exact⟨h',hq⟩
  | panic ch=>exact⟨h',hq⟩
  | outgrown=>exact⟨h',hq⟩
 | loop c ih =>
  intro hr K h st hv
  have ih:=ih hr
  unfold vc at hv
  split at hv
  ·rename_i σ L s0 hb
   obtain⟨h1,h2,h3⟩:=hv
   refine Ev.loop L.keep L.n L.mk L.inv L.m s0 h1 h2 ?_
   intro s hs
   refine(ih _ _ _ (L.hall _ h3 s hs)).mono ?_
   rintro e T4 ⟨h',hq⟩
   cases e with
   | normal=>exact hq
   | exit i=>exact⟨h',hq⟩
   | goto l=>exact⟨h',hq⟩
   | ret=>exact⟨h',hq⟩
   | panic ch=>exact⟨h',hq⟩
   | outgrown=>exact⟨h',hq⟩
  ·exact Gk ih K _ _ _ hv
  ·exact hv.elim
 | rangeFunc g ps W1 bd =>
  intro hr K h st hv
  unfold vc at hv
  split at hv
  ·rcases hr with hr | hr
   ·exact(hv.1 C rfl rfl hr).mono (fun e1 UW hq=>by obtain⟨rfl,rfl⟩:=hq;exact⟨_,hv.2⟩)
   ·cases hr
  ·exact hv.elim
 | _=>intro _ K h st hv;exact(by unfold vc at hv;exact hv.elim)
theorem qY (hr:C.rd=none) (c:Code):∀(K:bw→Exit→St→Prop) (h:bw) (st:St),vc C.P C.nt c K h st→Ev C c (fun e st=>∃h',K h' e st) st:=sK c (.inl hr)
end
def t0 (P:Program) (st:St):List ResultVar→(List D→Prop)→Prop
 | [],k=>k []
 | r::rs,k=>match F6 P st r with
  | (d,p)=>p∧t0 P st rs (fun ds=>k (d::ds))
theorem uB {P:Program} {st:St}:∀(rs:List ResultVar) (k:List D→Prop),t0 P st rs k→(resL P st rs).2∧k (resL P st rs).1
 | [],k,h=>⟨trivial,h⟩
 | r::rs,k,h=>by
  unfold t0 at h
  unfold resL
  generalize hq:F6 P st r=q at h
  obtain⟨d,p⟩:=q
  obtain⟨h1,h2⟩:=h
  obtain⟨h3,h4⟩:=uB rs _ h2
  exact⟨⟨h1,h3⟩,h4⟩
def Oz (H:List ap):D→D→Prop
 | .tup xs,.tup ys=>N8 H xs ys
 | x,y=>LJ H x y
def PD:D→D→Prop
 | .tup xs,.tup ys=>PB xs ys
 | x,y=>Mo x y
def HV:List D→D
 | [d]=>d
 | ds=>.tup ds
def MF (al:Bool) (H:List ap) (x r:D):Prop:=match al with
 | true=>Oz H x r
 | false=>Oz H x r∧PD x r
def OA (P:Program) (fn:Func) (al:Bool) (r:D) (_:bw) (e:Exit) (st:St):Prop:=match e with
 | .normal=>t0 P st fn.results.toList (fun ds=>MF al st.heap (HV ds) r)
 | .ret=>t0 P st fn.results.toList (fun ds=>MF al st.heap (HV ds) r)
 | _=>False
theorem zc {P:Program} {st:St} {rs:List ResultVar}:F7 P rs st=(HV (resL P st rs).1,(resL P st rs).2):=by
 unfold F7
 generalize resL P st rs=q
 obtain⟨ds,p⟩:=q
 match ds with
 | []=>rfl
 | [d]=>rfl
 | d::e::r=>rfl
theorem EC {al:Bool} {H:List ap} {x r:D} (h1:Oz H x r) (h2:al=true∨PD x r):AZ al H x r:=by
 unfold AZ
 split
 ·exact⟨h1,h2⟩
 ·rename_i Vh
  have e1:Oz H x r=LJ H x r:=by
   unfold Oz;split
   ·exact(Vh _ _ rfl rfl).elim
   ·rfl
  have e2:PD x r=Mo x r:=by
   unfold PD;split
   ·exact(Vh _ _ rfl rfl).elim
   ·rfl
  rw[e1]at h1;rw[e2]at h2
  exact⟨h1,h2⟩
theorem Ky {P:Program} {fn:Func} {al:Bool} {r:D} {h:bw} {e:Exit} {st:St} (hk:OA P fn al r h e st):Oe P fn al r e st:=by
 have key:t0 P st fn.results.toList (fun ds=>MF al st.heap (HV ds) r)→gW P fn st∧AZ al st.heap (iJ P fn st) r:=by
  intro hq
  obtain⟨h1,h2⟩:=uB _ _ hq
  unfold gW iJ
  rw[zc]
  refine⟨h1,?_⟩
  cases al
  ·exact EC h2.1 (.inr h2.2)
  ·exact EC h2 (.inl rfl)
 cases e with
 | normal=>exact key hk
 | ret=>exact key hk
 | exit i=>exact hk.elim
 | goto l=>exact hk.elim
 | panic ch=>exact hk.elim
 | outgrown=>exact hk.elim
theorem ah.vc {P:Program} {f:FuncId} {fn:Func} {c:Code} {q':List D} {al:Bool} {r:D} {V:Prop} (V6:bw) (hf:P.funcs[f]?=some fn) (hb:fn.body=some c) (hn:Nat.ble q'.length fn.ntmps=true) (hr:eV r=true)
  (hv:Proofs.YtckgpflobhpnpaaGreat.vc P fn.ntmps c (OA P fn al r) V6 ⟨i7 0 q',[]⟩=V) (pf:V):ah P f q' [] al r []:=by
 refine ah.of_ev hf hb hn hr ?_
 intro C h1 h2 Zu
 subst h1
 rw[← hv,← h2]at pf
 exact(qY Zu c _ V6 _ pf).mono (fun e T4 ⟨h',hk⟩=>Ky hk)
def OB (P:Program) (fn:Func) (r:D) (H:List ap) (_:bw) (e:Exit) (st:St):Prop:=match e with
 | .normal=>t0 P st fn.results.toList (fun ds=>p6 (HV ds) r∧st.heap.take H.length=H)
 | .ret=>t0 P st fn.results.toList (fun ds=>p6 (HV ds) r∧st.heap.take H.length=H)
 | _=>False
theorem Kz {P:Program} {fn:Func} {r:D} {H:List ap} {h:bw} {e:Exit} {st:St} (hk:OB P fn r H h e st):Od P fn r H e st:=by
 have key:t0 P st fn.results.toList (fun ds=>p6 (HV ds) r∧st.heap.take H.length=H)→gW P fn st∧p6 (iJ P fn st) r∧st.heap.take H.length=H:=by
  intro hq
  obtain⟨h1,h2⟩:=uB _ _ hq
  unfold gW iJ
  rw[zc]
  exact⟨h1,h2⟩
 cases e with
 | normal=>exact key hk
 | ret=>exact key hk
 | exit i=>exact hk.elim
 | goto l=>exact hk.elim
 | panic ch=>exact hk.elim
 | outgrown=>exact hk.elim
theorem fO.vc {P:Program} {f:FuncId} {fn:Func} {c:Code} {ds:List D} {H H':List ap} {r:D} {V:Prop} (V6:bw) (hf:P.funcs[f]?=some fn) (hb:fn.body=some c) (hn:Nat.ble ds.length fn.ntmps=true)
  (hv:Proofs.YtckgpflobhpnpaaGreat.vc P fn.ntmps c (OB P fn r H') V6 ⟨i7 0 ds,H⟩=V) (pf:V):fO P f ds H r H':=by
 refine⟨fn,c,hf,hb,hn,?_⟩
 intro C h1 h2 Zu
 subst h1
 rw[← hv,← h2]at pf
 exact(qY Zu c _ V6 _ pf).mono (fun e T4 ⟨h',hk⟩=>Kz hk)
def mS (k:Nat):Code→Option Code
 | .rangeFunc g ps a b=>match Nat.beq (ps.toList.headD 0) k with
  | true=>some (.rangeFunc g ps a b)
  | false=>mS k b
 | .seq a b=>match mS k a with
  | some c=>some c
  | none=>mS k b
 | .cond _ a b=>match mS k a with
  | some c=>some c
  | none=>mS k b
 | .block _ a=>mS k a
 | .loop a=>mS k a
 | _=>none
def Ri (P:Program) (f:FuncId) (k:Nat):Code:=match P.funcs[f]? with
 | some fn=>match fn.body with
  | some c=>match mS k c with
   | some r=>r
   | none=>.skip
  | none=>.skip
 | none=>.skip
def Rj:Code→Operand
 | .rangeFunc g _ _ _=>g
 | _=>.tmp 0
def PN:Code→List Nat
 | .rangeFunc _ ps _ _=>ps.toList
 | _=>[]
def Rk:Code→Code
 | .rangeFunc _ _ a _=>a
 | c=>c
def Rl:Code→Code
 | .rangeFunc _ _ _ b=>b
 | c=>c
def PO:Code→Bool
 | .rangeFunc _ _ _ _=>true
 | _=>false
def ED (P:Program) (nt:Nat) (VC:Code) (st:St) (id l ZB:Nat) (tm:Array Value) (e0:Exit) (VY:St):Prop:=∀C1:kU,C1.P=P→C1.nt=nt→C1.rd=none→Ev C1 VC (CV id l ZB tm (fun e s=>e=e0∧s=VY)) st
theorem qX.vc {P:Program} {nt:Nat} {c:Code} {st VY:St} {e0:Exit} {YD:FuncId} {first cap:List D} {fn:Func} {VC:Code} (hc:PO c=true) (hg:eX st.env (Rj c)=.fn (.func YD) first cap) (hf:P.funcs[YD]?=some fn) (hb:fn.body=some VC)
  (Wx:gX P YD=true) (hn:Nat.ble (first.length+1+cap.length) fn.ntmps=true) (hres:fn.results.toList=[]) (Vu:b9 st.heap.length st.env=true) (Y8:bQ st.heap.length st.heap=true)
  (h:∀(l:Nat) (tm:Array Value) (W1 bd:Code),W1=Rk c→bd=Rl c→ED P fn.ntmps VC ⟨i7 0 (first++[.yld st.heap.length]++cap),st.heap++[.loop l tm nt st.env (PN c) W1 bd .ready none]⟩ st.heap.length l nt tm e0 VY):qX P nt c st e0 VY:=by
 intro C h1 h2 h3
 subst h1
 subst h2
 cases c with
 | rangeFunc g ps a b =>
  have hk:=Ev.range (C:=C) (ps:=ps.toList) (assign:=a) (body:=b) (Q:=fun e s=>e=e0∧s=VY) h3 hg hf hb Wx hn hres Vu Y8 (fun C1 l tm W1 bd q1 q2 q3 q4 q5=>h l tm W1 bd q1 q2 C1 q3 q4 q5)
  rwa [Array.toArray_toList]at hk
 | _=>cases hc
def uC (id l nt:Nat) (tm:Array Value) (e0:Exit) (VY st:St):Prop:=match st.heap[id]? with
 | some (.loop l' tm' nt' env _ _ _ s p)=>match CU s with
  | true=>False
  | false=>match Hx p with
   | some e'=>(l'=l∧tm'=tm∧nt'=nt)∧e'=e0∧(⟨env,st.heap.set id .dead⟩:St)=VY
   | none=>False
 | _=>False
def HW (id l nt:Nat) (tm:Array Value) (e0:Exit) (VY:St) (_:bw) (e:Exit) (st:St):Prop:=match e with
 | .normal=>uC id l nt tm e0 VY st
 | .ret=>uC id l nt tm e0 VY st
 | _=>False
theorem Gl {id l nt:Nat} {tm:Array Value} {e0:Exit} {VY:St} {h:bw} {e:Exit} {st:St} (hk:HW id l nt tm e0 VY h e st):CV id l nt tm (fun e s=>e=e0∧s=VY) e st:=by
 have key:uC id l nt tm e0 VY st→match st.heap[id]? with
  | some (.loop l' tm' nt' env _ _ _ s p)=>l'=l∧tm'=tm∧nt'=nt∧CU s=false∧match Hx p with
   | some e'=>e'=e0∧(⟨env,st.heap.set id .dead⟩:St)=VY
   | none=>False
  | _=>False:=by
  intro hq
  unfold uC at hq
  split at hq
  ·rename_i l' tm' nt' env a1 a2 a3 s p hb
   split at hq
   ·exact hq.elim
   ·rename_i hs
    split at hq
    ·rename_i e' hp
     obtain⟨⟨q1,q2,q3⟩,q4⟩:=hq
     exact⟨q1,q2,q3,hs,q4⟩
    ·exact hq.elim
  ·exact hq.elim
 cases e with
 | normal=>exact⟨.inl rfl,key hk⟩
 | ret=>exact⟨.inr rfl,key hk⟩
 | _=>exact hk.elim
theorem ED.vc {P:Program} {nt:Nat} {VC:Code} {st VY:St} {id l ZB:Nat} {tm:Array Value} {e0:Exit} {V:Prop} (V6:bw) (hv:Proofs.YtckgpflobhpnpaaGreat.vc P nt VC (HW id l ZB tm e0 VY) V6 st=V) (pf:V):ED P nt VC st id l ZB tm e0 VY:=by
 intro C h1 h2 h3
 subst h1
 subst h2
 rw[← hv]at pf
 exact(qY h3 VC _ V6 _ pf).mono (fun e T4 ⟨h',hk⟩=>Gl hk)
def zd (id l:Nat) (b:Bool) (H:List ap) (_:bw) (e:Exit) (st:St):Prop:=match st.heap[id]? with
 | some (.loop l' tm nt env ps W1 bd _ _)=>match CQ e with
  | some b'=>l'=l∧b'=b∧(st.heap.set id (.loop l' tm nt env ps W1 bd (qN e) (ut e))).take H.length=H
  | none=>False
 | _=>False
theorem Gm {id l:Nat} {b:Bool} {H:List ap} {h:bw} {e:Exit} {st:St} (hk:zd id l b H h e st):yX id l b H e st:=by
 unfold zd at hk
 unfold yX
 split at hk
 ·rename_i hq
  split at hk
  ·rename_i ha
   rw[hq]
   exact⟨hk.1,by rw[ha,hk.2.1],hk.2.2⟩
  ·exact hk.elim
 ·exact hk.elim
def MG (P:Program) (nt:Nat) (bd:Code) (id l:Nat) (b:Bool) (H:List ap) (h:bw) (e:Exit) (st:St):Prop:=match e with
 | .normal=>match st.heap[id]? with
  | some (.loop l' tm n2 env ps W1 bd' .ready none)=>l'=l∧vc P nt bd (zd id l b H) h ⟨st.env,st.heap.set id (.loop l' tm n2 env ps W1 bd' .busy none)⟩
  | _=>False
 | _=>False
theorem qO.vc {P:Program} {l nt id:Nat} {W1 bd A B:Code} {st:St} {b:Bool} {H:List ap} {V:Prop} (V6:bw) (ha:W1=A) (hb:bd=B) (hn:(Kx A&&Kx B)=true) (hv:Proofs.YtckgpflobhpnpaaGreat.vc P nt A (MG P nt B id l b H) V6 st=V) (pf:V):qO P l nt W1 bd st id b H:=by
 subst ha
 subst hb
 rw[RA]at hn
 intro C h1 h2 h3
 subst h1
 subst h2
 rw[← hv]at pf
 refine(sK W1 (.inr hn.1) _ V6 _ pf).mono ?_
 rintro e T4 ⟨h',hk⟩
 cases e with
 | normal =>
  change (match T4.heap[id]? with
   | some (.loop l' tm n2 env ps W1 bd' .ready none)=>l'=l∧Proofs.YtckgpflobhpnpaaGreat.vc C.P C.nt bd (zd id l b H) h' ⟨T4.env,T4.heap.set id (.loop l' tm n2 env ps W1 bd' .busy none)⟩
   | _=>False)at hk
  simp only[CR]
  split at hk
  ·rename_i hq
   rw[hq]
   exact⟨hk.1,(sK bd (.inr hn.2) _ _ _ hk.2).mono (fun e T4 ⟨h',hk⟩=>Gm hk)⟩
  ·exact hk.elim
 | _=>exact hk.elim
def vS:ap→Prop
 | .arr _ _ _ _ l=>l=[]
 | _=>False
def EE:Option ap→ap→Prop
 | some B',B=>B'=B
 | none,_=>False
def KA (H:List ap) (x r:D) (B:ap):Prop:=match x with
 | .nils=>r=.own 0∧vS B
 | .own i=>r=.own 0∧EE H[i]? B
 | .gr i s=>r=.gr 0 s∧EE H[i]? B
 | x=>∃id,H[id]?=some B∧CY id x r
def LR (P:Program) (fn:Func) (r:D) (B:ap) (_:bw) (e:Exit) (st:St):Prop:=match e with
 | .normal=>t0 P st fn.results.toList (fun ds=>KA st.heap (HV ds) r B)
 | .ret=>t0 P st fn.results.toList (fun ds=>KA st.heap (HV ds) r B)
 | _=>False
def HX (P:Program) (fn:Func) (r:D) (B:ap):Exit→St→Prop
 | .normal,st=>gW P fn st∧((∃id,st.heap[id]?=some B∧CY id (iJ P fn st) r)∨(iJ P fn st=.nils∧r=.own 0∧vS B))
 | .ret,st=>gW P fn st∧((∃id,st.heap[id]?=some B∧CY id (iJ P fn st) r)∨(iJ P fn st=.nils∧r=.own 0∧vS B))
 | _,_=>False
theorem HY {P:Program} {fn:Func} {r:D} {B:ap} {h:bw} {e:Exit} {st:St} (hk:LR P fn r B h e st):HX P fn r B e st:=by
 have key:t0 P st fn.results.toList (fun ds=>KA st.heap (HV ds) r B)→gW P fn st∧((∃id,st.heap[id]?=some B∧CY id (iJ P fn st) r)∨(iJ P fn st=.nils∧r=.own 0∧vS B)):=by
  intro hq
  obtain⟨h1,h2⟩:=uB _ _ hq
  unfold gW iJ
  rw[zc]
  refine⟨h1,?_⟩
  generalize HV (resL P st fn.results.toList).1=x at h2 ⊢
  unfold KA at h2
  split at h2
  ·exact .inr ⟨rfl,h2⟩
  ·rename_i i
   obtain⟨rfl,h2⟩:=h2
   unfold EE at h2
   split at h2
   ·rename_i B' UJ
    subst h2
    exact .inl ⟨i,UJ,rfl,rfl⟩
   ·exact h2.elim
  ·rename_i i q
   obtain⟨rfl,h2⟩:=h2
   unfold EE at h2
   split at h2
   ·rename_i B' UJ
    subst h2
    exact .inl ⟨i,UJ,rfl,rfl,rfl⟩
   ·exact h2.elim
  ·exact .inl h2
 cases e with
 | normal=>exact key hk
 | ret=>exact key hk
 | exit i=>exact hk.elim
 | goto l=>exact hk.elim
 | panic ch=>exact hk.elim
 | outgrown=>exact hk.elim
theorem ah.of_evO' {P:Program} {f:FuncId} {fn:Func} {c:Code} {q':List D} {r:D} {B:ap} (hf:P.funcs[f]?=some fn) (hb:fn.body=some c) (hn:Nat.ble q'.length fn.ntmps=true) (hB:B.isOwn=true)
  (h:∀C:kU,C.P=P→C.nt=fn.ntmps→C.rd=none→Ev C c (HX P fn r B) ⟨i7 0 q',[]⟩):ah P f q' [] false r [B]:=by
 intro S μ w us hS hG hH UG
 rw[SM]at hn
 let C:kU:=⟨P,w,S,fn.ntmps,[],none,hG⟩
 have hrel:bc C S μ ⟨i7 0 q',[]⟩ (vn us fn.ntmps) w :=
  ⟨rfl,rfl,rfl,RD _,fun _ _=>rfl,fun _ h=>h,fun _ h=>.inl h,hS,uq UG hn,⟨fun id B hB=>by simp at hB,fun i j A B b hA=>by simp at hA,fun i A b hA=>by simp at hA⟩,fun i A b hA=>by simp at hA,⟨[],rfl,by simp[C],fun b hb=>by simp[C]at hb⟩,qL UG.1 hn,fun i A b hA=>by simp at hA⟩
 refine(jx (C:=C) hf hb rfl hrel (h C rfl rfl rfl) (fun e T4 hq=>?_)).mono ?_
 ·cases e<;>first | exact⟨.inl rfl,hq.1⟩ | exact⟨.inr rfl,hq.1⟩ | exact hq.elim
 rintro e w' ⟨u,e0,T4,S',μ',a',rfl,hq,hR,hx⟩
 have hq:(∃id,T4.heap[id]?=some B∧CY id (iJ P fn T4) r)∨(iJ P fn T4=.nils∧r=.own 0∧vS B):=by
  cases e0<;>first | exact hq.2 | exact hq.elim
 have hl:B.live=true:=by cases B<;>first | rfl | cases hB
 have one:∀(i:Nat) (A:ap),[B][i]?=some A→i=0∧A=B:=by
  intro i A hA
  match i with
  | 0=>simp at hA;exact⟨rfl,hA.symm⟩
  | i+1=>simp at hA
 rcases hq with ⟨id,Uh,hr⟩ | ⟨hn0,rfl,VS⟩
 ·refine⟨u,fun _=>μ' id,S',rfl,hR.os,hR.tape,hR.output,hR.size,fun k hk _=>hR.old k hk,hR.mono,hR.new,hR.slt,HB hx hr,⟨?_,?_,?_⟩,?_,fun i A hA=>by simp at hA⟩
  ·intro i A hA
   obtain⟨rfl,rfl⟩:=one i A hA
   refine(hR.heap.box id _ Uh).stable (fun _ h _=>h) (fun _ _ _=>rfl) (RD _) (fun j hj=>?_) (fun _ _=>rfl)
   cases A<;>first | (cases hB;done) | cases hj
  ·intro i j A A' b hA UT _ _ _ _
   rw[(one i A hA).1,(one j A' UT).1]
  ·intro i A b hA la hb
   obtain⟨rfl,rfl⟩:=one i A hA
   exact hR.heap.notS id _ b Uh hl hb
  ·intro i A b hA la hb
   obtain⟨rfl,rfl⟩:=one i A hA
   exact .inl (hR.may id _ b Uh hl hb)
 ·rw[hn0]at hx
  cases hx
  refine⟨_,fun _=>.slice none 0 0,S',rfl,hR.os,hR.tape,hR.output,hR.size,fun k hk _=>hR.old k hk,hR.mono,hR.new,hR.slt,an.own (μ:=fun _=>.slice none 0 0) 0,⟨?_,?_,?_⟩,?_,fun i A hA=>by simp at hA⟩
  ·intro i A hA
   obtain⟨rfl,rfl⟩:=one i A hA
   cases A<;>first | cases VS | skip
   exact⟨fun i x hx=>by simp at hx,[],Td w' 0 _ _,fun i x j y hx=>by simp at hx⟩
  ·intro i j A A' b hA UT _ _ _ _
   rw[(one i A hA).1,(one j A' UT).1]
  ·intro i A b hA la hb
   simp[bL,aI]at hb
  ·intro i A b hA la hb
   simp[bL,aI]at hb
theorem ah.vcO {P:Program} {f:FuncId} {fn:Func} {c:Code} {q':List D} {r:D} {B:ap} {V:Prop} (V6:bw) (hf:P.funcs[f]?=some fn) (hb:fn.body=some c) (hn:Nat.ble q'.length fn.ntmps=true) (hB:B.isOwn=true)
  (hv:Proofs.YtckgpflobhpnpaaGreat.vc P fn.ntmps c (LR P fn r B) V6 ⟨i7 0 q',[]⟩=V) (pf:V):ah P f q' [] false r [B]:=by
 refine ah.of_evO' hf hb hn hB ?_
 intro C h1 h2 Zu
 subst h1
 rw[← hv,← h2]at pf
 exact(qY Zu c _ V6 _ pf).mono (fun e T4 ⟨h',hk⟩=>HY hk)
theorem ah.nilcases {P:Program} {f:FuncId} {sz:Nat} {α:Type} {enc:α→List V} {d:α} {l:List α} {q':List D} {al:Bool} {r:D} {H':List ap}
  (h1:l≠[]→ah P f (.v (.sl sz enc d l)::q') [] al r H') (h2:l=[]→ah P f (.nils::q') [] al r H') (h3:l=[]→ah P f (.v .esl::q') [] al r H'):ah P f (.v (.sl sz enc d l)::q') [] al r H':=by
 by_cases hl:l=[]
 ·intro S μ w us hS hG hH UG
  have Ul:=UG.1
  simp only[RK]at Ul
  have h0:us[0]?=some us[0]:=R0 (by omega)
  have hx:=bv (UG.2 0 _ _ rfl h0)
  have re:∀(x:D),an S μ w x us[0]→aM S μ w (x::q') us:=fun x hx=>⟨by simp[Ul],fun j y u hy hu=>by
   cases j with
   | zero=>simp at hy;subst hy;rw[h0]at hu;cases hu;exact hx
   | succ j=>exact UG.2 (j+1) y u (by simpa using hy) hu⟩
  obtain⟨p,c,hu,q1,q2,q3,q4⟩:=fJ hx
  subst hl
  cases p with
  | none =>
   have:=q3 rfl
   subst this
   exact h2 rfl S μ w us hS hG hH (re _ (by rw[hu];exact .nils))
  | some p=>exact h3 rfl S μ w us hS hG hH (re _ (by rw[hu];exact .v _ _ (.esl p c q2)))
 ·exact h1 hl
abbrev vU (P:Program) (g:FuncId) (ds:List D) (H:List ap) (E:List (Nat×D)) (H' N:List ap) (r:D):Prop:=∀tm:Array Value,fO P g ds (H++[.frame tm E]) r (H'++.frame tm E::N)
def fE (n:Nat):List (Nat×Nat×Nat×Nat×D)→List (Nat×D)
 | []=>[]
 | (t,a,b,c,d)::r=>if Nat.beq (n &&& a) a&&(Nat.beq b 0||!(Nat.beq (n &&& b) b))&&Nat.beq (n &&& c) 0 then (t,d)::fE n r else fE n r
def TT:Nat→Prop→Prop
 | 0,p=>p
 | n+1,p=>True∧TT n p
theorem tt:∀{n:Nat} {p:Prop},p→TT n p
 | 0,_,h=>h
 | n+1,_,h=>⟨trivial,tt h⟩
abbrev CB (b:Bool) (x y:Prop):Prop:=(b=true→x)∧(b=false→y)
abbrev CD (P:Prop) [Decidable P] (x y:Prop):Prop:=CB (decide P) x y
abbrev CN (P:Prop) [Decidable P] (x y:Prop):Prop:=CB (!decide P) x y
abbrev CS (P x y:Prop):Prop:=(P→x)∧(¬P→y)
theorem cd {P:Prop} [Decidable P] {x y:Prop} (h1:P→x) (h2:¬P→y):CD P x y:=⟨fun h=>h1 (ST h),fun h=>h2 (of_decide_eq_false h)⟩
theorem cn {P:Prop} [Decidable P] {x y:Prop} (h1:¬P→x) (h2:P→y):CN P x y:=⟨fun h=>h1 (by simpa using h),fun h=>h2 (by simpa using h)⟩
abbrev GO {σ:Type} (L:Lp σ) (s0:σ) (body:Prop):Prop:=L.mk s0=L.mk s0∧L.inv s0∧body
abbrev AG {σ:Type} (L:Lp σ) (s s':σ):Prop:=L.ag s (L.mk s')
abbrev AT {σ:Type} (L:Lp σ) (s':σ):Prop:=L.at (L.mk s')
theorem vT {P:Prop} [Decidable P] (h:P):True∧decide P=true:=⟨trivial,RX h⟩
theorem vF {P:Prop} [Decidable P] (h:¬P):True∧decide P=false:=⟨trivial,R6 h⟩
theorem Rm {P:Prop} [Decidable P] (h:¬P):(!decide P)=true:=by simp[h]
theorem PP {P:Prop} [Decidable P] (h:P):(!decide P)=false:=by simp[h]
theorem nT {P:Prop} [Decidable P] (h:¬P):True∧(!decide P)=true:=⟨trivial,Rm h⟩
theorem nF {P:Prop} [Decidable P] (h:P):True∧(!decide P)=false:=⟨trivial,PP h⟩
theorem Rn {b:Bool} (h:b=true):b=true:=h
theorem Ro {b:Bool} (h:¬b=true):b=false:=by simpa using h
theorem PQ {b:Bool} (h:¬b=true):(!b)=true:=by simpa using h
theorem ze {b:Bool} (h:b=true):(!b)=false:=by simp[h]
theorem bT {b:Bool} (h:b=true):True∧b=true:=⟨trivial,h⟩
theorem bF {b:Bool} (h:¬b=true):True∧b=false:=⟨trivial,Ro h⟩
theorem mT {b:Bool} (h:¬b=true):True∧(!b)=true:=⟨trivial,PQ h⟩
theorem mF {b:Bool} (h:b=true):True∧(!b)=false:=⟨trivial,ze h⟩
abbrev HE (H:List ap):Prop:=H=H
abbrev IX (i n:Int):Prop:=0≤i∧i<n
theorem ix {i n:Int} (h:0≤i∧i<n:=by first | omega | (simp;omega)):IX i n:=h
theorem om {p:Prop} (h:p:=by first | omega | (simp;first | done | omega)):p:=h
abbrev W6 (x:Int):Prop:=True∧IntKind.i64.wrap x=x
theorem w6 {x:Int} (h1:-9223372036854775808≤x:=by first | omega | (simp;first | done | omega)) (h2:x≤9223372036854775807:=by first | omega | (simp;first | done | omega)):W6 x:=⟨trivial,G6 rfl h1 h2⟩
abbrev QD (a n:Int):Prop:=n≠0∧IntKind.i64.wrap (Int.tdiv a n)=a / n
theorem qd {a n:Int} (h0:0≤a:=by first | omega | (simp;omega)) (h1:a≤9223372036854775807:=by first | omega | (simp;omega)) (hn:0<n:=by first | omega | (simp;omega)):QD a n:=by
 refine⟨by omega,?_⟩
 rw[Int.tdiv_eq_ediv_of_nonneg h0,IntKind.wrap_i64]
 have:=Int.ediv_nonneg h0 (Int.le_of_lt hn)
 have:=Int.ediv_le_self n h0
 omega
abbrev QM (a n:Int):Prop:=n≠0∧Int.tmod a n=a%n
theorem qm {a n:Int} (h0:0≤a:=by first | omega | (simp;omega)) (hn:0<n:=by first | omega | (simp;omega)):QM a n:=⟨by omega,SU h0⟩
theorem ah.recast {P:Program} {f:FuncId} {q' X4:List D} {al:Bool} {r:D} (h:wS [] q' X4) (hc:ah P f X4 [] al r []):ah P f q' [] al r []:=fun S μ w us hS hG hH UG =>
 hc S μ w us hS hG hH (kZ hH (fun _ h=>h) hS (.inl fun i A b hA=>by simp at hA) h UG)
structure Ct:Type 1 where
 f:FuncId
 q':List D
 al:Bool
 r:D
abbrev Ct.O (c:Ct):Ov:=.call none c.al c.r
abbrev Ct.O' (c:Ct):Ov:=.call (some c.q') c.al c.r
abbrev Ct.C (P:Program) (c:Ct):Prop:=ah P c.f c.q' [] c.al c.r []
abbrev Ct.K (P:Program) (c:Ct):Prop:=wS [] c.q' c.q'∧ah P c.f c.q' [] c.al c.r []
structure t1:Type 1 where
 f:FuncId
 q':List D
 r:D
 B:ap
abbrev t1.O (c:t1):Ov:=.ownd none c.r c.B
abbrev t1.O' (c:t1):Ov:=.ownd (some c.q') c.r c.B
abbrev t1.F (c:t1):Ov:=.ownc none c.r c.B
abbrev t1.F' (c:t1):Ov:=.ownc (some c.q') c.r c.B
mutual
def mU:D→Bool
 | .v (.mp _)=>false
 | .agg cs=>fQ cs
 | .tup cs=>fQ cs
 | .fn _ a b=>fQ a&&fQ b
 | _=>true
def fQ:List D→Bool
 | []=>true
 | d::r=>mU d&&fQ r
end
theorem HZ:∀(x:V),(∀es,x≠.mp es)→D6 x x
 | .int k n,_=>by simp[D6]
 | .bool b,_=>rfl
 | .str s,_=>rfl
 | .nilf,_=>trivial
 | .nsl,_=>trivial
 | .esl,_=>trivial
 | .sl sz enc d l,_=>by simp[D6]
 | .sm ag enc d l,_=>by simp[D6]
 | .nmp,_=>trivial
 | .fnv f,_=>by simp[D6]
 | .mp es,h=>(h es rfl).elim
theorem H0:∀(x:D),mU x=true→J8 x x
 | .v x,h=>HZ x (fun es e=>by subst e;simp[mU]at h)
 | .nils,_=>rfl
 | .own i,_=>rfl
 | .ptr _ _ _ _,_=>rfl
 | .iptr cs o,_=>by simp[J8]
 | .agg _,_=>rfl
 | .tup _,_=>rfl
 | .fn _ _ _,_=>rfl
 | .yld _,_=>rfl
 | .capd _,_=>rfl
 | .gr _ _,_=>rfl
 | .junk,_=>trivial
theorem Bd (x:D) (h:mU x=true):J0 [] x x:=by
 cases x<;>exact H0 _ h
theorem Be:∀(l:List D),fQ l=true→N7 [] l l
 | [],_=>trivial
 | d::r,h=>by simp only[fQ,RA]at h;exact⟨Bd d h.1,Be r h.2⟩
theorem Bf (x:D) (h:mU x=true):NV [] x x:=by
 cases x<;>exact Bd _ h
theorem vV:∀(l:List D),fQ l=true→N9 [] l l
 | [],_=>trivial
 | d::r,h=>by simp only[fQ,RA]at h;exact⟨Bf d h.1,vV r h.2⟩
theorem vW (x:D) (h:mU x=true):Pz [] x x:=by
 cases x with
 | agg xs=>exact Be _ (by simpa[mU]using h)
 | fn f a b=>simp only[mU,RA]at h;exact⟨rfl,vV a h.1,vV b h.2⟩
 | _=>exact Bf _ h
theorem dR:∀(l:List D),fQ l=true→wS [] l l
 | [],_=>trivial
 | d::r,h=>by simp only[fQ,RA]at h;exact⟨vW d h.1,dR r h.2⟩
abbrev CC (c:Ct):Prop:=ah Tryz.prog c.f c.q' [] c.al c.r []
abbrev CK (c:Ct):Prop:=wS [] c.q' c.q'∧ah Tryz.prog c.f c.q' [] c.al c.r []
abbrev GC (c:Ct):Prop:=gX Tryz.prog c.f=true∧ah Tryz.prog c.f c.q' [] c.al c.r []
abbrev CO (c:t1):Prop:=ah Tryz.prog c.f c.q' [] false c.r [c.B]
set_option linter.unusedVariables false
set_option linter.unusedSimpArgs false
theorem tA {P:Program} {w:World} {t:TypeId}:(Instr.makeMap t none).run P w=.ok (.map (some w.heap.size)) (w.alloc (.map #[] 0)):=by
 simp[Instr.makeMap,newObj,Sem.run]
theorem vX {P:Program} {w:World} {t K E:TypeId} {arr:Array MapEntry} {clock:Nat} {k:Int} {v:Value} (ht:P.underlying t=some (.map K E)) (hK:P.underlying K=some (.int .i64)) (hf:Instr.findNow (.int .i64) (.int .i64 k) arr.toList 0=some none) :
  (Instr.mapUpdate t (.map (some w.heap.size)) (.int .i64 k) v).run P (w.alloc (.map arr clock))=.ok () (w.alloc (.map (arr.push ⟨.int .i64 k,v,clock⟩) (clock+1))):=by
 have hu:∀w,(underlying t).run P w=.ok (.map K E) w:=fun w=>by simp[underlying,ht,RG,Sem.run]
 have WH:∀w,(underlying K).run P w=.ok (.int .i64) w:=fun w=>by simp[underlying,hK,RG,Sem.run]
 have hb:(w.alloc (.map arr clock)).heap[w.heap.size]?=some (.map arr clock):=SF w _
 have hg:(getObj w.heap.size).run P (w.alloc (.map arr clock))=.ok (.map arr clock) (w.alloc (.map arr clock)):=by
  unfold getObj Sem.run
  rw[hb]
  rfl
 have hc:(Instr.checkKey false 10000 K (.int .i64 k)).run P (w.alloc (.map arr clock))=.ok () (w.alloc (.map arr clock)):=by
  rw[show(10000:Nat)=9999+1 from rfl]
  unfold Instr.checkKey
  simp[RG,WH]
 have hk:(Instr.findKey K (.int .i64 k) arr.toList).run P (w.alloc (.map arr clock))=.ok none (w.alloc (.map arr clock)):=by
  simp[Instr.findKey,RG,WH,hf]
 have hs:∀o:Obj,(setObj w.heap.size o).run P (w.alloc (.map arr clock))=.ok () (w.alloc o):=by
  intro o
  unfold setObj Sem.run
  rw[hb]
  have hh:(w.heap.push (.map arr clock)).setIfInBounds w.heap.size o=w.heap.push o:=by
   apply Array.ext
   ·simp
   ·intro i h1 h2
    simp only[Array.size_push]at h2
    by_cases hi:i=w.heap.size
    ·subst hi;simp
    ·rw[Array.getElem_setIfInBounds_ne (by simp;omega) (TO hi)]
     simp[Array.getElem_push,show i<w.heap.size by omega]
  show Result.ok () (⟨(w.heap.push (.map arr clock)).setIfInBounds w.heap.size o,w.tape,w.drawn,w.os,w.output⟩:World)=.ok () ⟨w.heap.push o,w.tape,w.drawn,w.os,w.output⟩
  rw[hh]
 simp[Instr.mapUpdate,RG,hu,hg,hc,hk,hs]
theorem ah.of_map {P:Program} {f:FuncId} {n:Nat} {es:List (Int×Value)} (h:∀w:World,Calls P f #[] w (fun e w'=>∃arr:Array MapEntry,e=.returned (.map (some w.heap.size))∧w'=w.alloc (.map arr n)∧arr.toList.map (fun e=>(e.key,e.val))=es.map (fun e=>(Value.int .i64 e.1,e.2)))) :
  ah P f [] [] false (.v (.mp es)) []:=by
 intro S μ w us hS _ hH UG
 have h0:us=#[]:=Array.eq_empty_of_size_eq_zero UG.1
 subst h0
 refine(h w).mono ?_
 rintro e w' ⟨arr,rfl,rfl,he⟩
 have hb:Below w.heap.size w (w.alloc (.map arr n)):=(Below.refl _ w).alloc (RD _) _
 have Ul:(w.alloc (.map arr n)).heap.size=w.heap.size+1:=by simp
 refine⟨_,μ,fun b=>S b∨b=w.heap.size,rfl,hb.os,hb.tape,hb.output,hb.size,fun k hk _=>hb.block k hk,fun _ h=>.inl h,fun b h=>h.imp id (fun h=>by omega),fun b UN=>UN.elim (fun h=>by have:=hS b h;omega) (fun h=>by omega),.v _ _ (.mp es w.heap.size n arr ⟨.inr rfl,.inr (RD _)⟩ (by omega) (SF w _) he),⟨fun id B hB=>by simp at hB,fun i j A B b hA=>by simp at hA,fun i A b hA=>by simp at hA⟩,fun i A b hA=>by simp at hA,fun i A hA=>by simp at hA⟩
theorem eF {a:Nat} (h:a<9223372036854775808):(BitVec.ofInt (IntKind.i64).bits (a:Int)).toNat=a:=by
 show(BitVec.ofInt 64 (a:Int)).toNat=a
 rw[BitVec.toNat_ofInt]
 omega
theorem jd {a:Nat} (h:a<9223372036854775808):IntKind.wrap .i64 (a:Int)=(a:Int):=by
 rw[IntKind.wrap_i64];omega
theorem OC {a b:Nat} (ha:a<9223372036854775808) (hb:b<9223372036854775808):IntKind.wrap .i64 ((BitVec.ofInt (IntKind.i64).bits (a:Int) &&& BitVec.ofInt (IntKind.i64).bits (b:Int)).toNat:Int)=((a &&& b:Nat):Int):=by
 rw[BitVec.toNat_and,eF ha,eF hb]
 exact jd (Nat.lt_of_le_of_lt Nat.and_le_left ha)
theorem OD {a b:Nat} (ha:a<9223372036854775808) (hb:b<9223372036854775808):IntKind.wrap .i64 ((BitVec.ofInt (IntKind.i64).bits (a:Int) ||| BitVec.ofInt (IntKind.i64).bits (b:Int)).toNat:Int)=((a ||| b:Nat):Int):=by
 rw[BitVec.toNat_or,eF ha,eF hb]
 exact jd (Nat.or_lt_two_pow (n:=63) ha hb)
theorem OE {a b:Nat} (ha:a<9223372036854775808) (hb:b<9223372036854775808):IntKind.wrap .i64 ((BitVec.ofInt (IntKind.i64).bits (a:Int) ^^^ BitVec.ofInt (IntKind.i64).bits (b:Int)).toNat:Int)=((a ^^^ b:Nat):Int):=by
 rw[BitVec.toNat_xor,eF ha,eF hb]
 exact jd (Nat.xor_lt_two_pow (n:=63) ha hb)
theorem km {x:Int} {n:Nat} (hn:n≤62):IntKind.wrap .i64 ((BitVec.ofInt (IntKind.i64).bits x &&& BitVec.ofInt (IntKind.i64).bits ((2:Int)^n-1)).toNat:Int)=x%2^n:=by
 have hp:(2:Nat)^n≤2^62:=SX (by omega) hn
 have Xc:1≤(2:Nat)^n:=Nat.one_le_two_pow
 have e:((2:Int)^n-1)=((2^n-1:Nat):Int):=by
  have:((2:Int)^n)=((2^n:Nat):Int):=by simp
  rw[this]
  omega
 rw[e,BitVec.toNat_and,eF (by omega)]
 rw[Nat.and_two_pow_sub_one_eq_mod]
 have h1:(BitVec.ofInt (IntKind.i64).bits x).toNat%2^n<2^n:=Nat.mod_lt _ (by omega)
 rw[jd (by omega)]
 show(((BitVec.ofInt 64 x).toNat%2^n:Nat):Int)=x%2^n
 rw[BitVec.toNat_ofInt]
 have h2:((2^n:Nat):Int) ∣ ((2^64:Nat):Int):=Int.natCast_dvd_natCast.2 (Nat.pow_dvd_pow 2 (by omega))
 have h3:(((x%((2^64:Nat):Int)).toNat:Nat):Int)=x%((2^64:Nat):Int):=Te (Tx _ (by decide))
 have e3:(((2^n:Nat)):Int)=2^n:=by simp
 have e4:∀a b:Nat,((a%b:Nat):Int)=(a:Int)%(b:Int):=fun a b=>by first | exact Int.natCast_emod a b | exact Int.ofNat_emod a b | simp
 rw[e4,h3,← e3]
 exact Int.emod_emod_of_dvd x h2
def aq (n:Int):Bool:=decide (1≤n)&&decide (n≤8)
theorem aW {n:Int}:aq n=true↔1≤n∧n≤8:=by simp[aq]
def af (w:Int):Int:=if w<0∨62<w then 0 else 2^w.toNat-1
theorem cY {w:Int} (h:0≤w) (h2:w≤62):af w=2^w.toNat-1:=RE (by omega)
theorem az {w:Int} (h:0≤w) (h2:w≤8):0≤af w∧af w≤255:=by
 have:w=0∨w=1∨w=2∨w=3∨w=4∨w=5∨w=6∨w=7∨w=8:=by omega
 rcases this with rfl | rfl | rfl | rfl | rfl | rfl | rfl | rfl | rfl<;>decide
theorem pJ {n:Nat} (h:n≤62):(1:Int)≤2^n∧(2:Int)^n≤4611686018427387904:=by
 have hp:(2:Nat)^n≤2^62:=SX (by omega) h
 have Xc:1≤(2:Nat)^n:=Nat.one_le_two_pow
 have e:((2:Int)^n)=((2^n:Nat):Int):=by simp
 rw[e]
 omega
theorem KB {w:Int} (h0:0≤w) (h:w≤62):IntKind.wrap .i64 (1*2^min w.toNat 64)=2^w.toNat:=by
 have hp:=pJ (n:=w.toNat) (by omega)
 rw[TU (by omega),Int.one_mul,IntKind.wrap_i64]
 omega
abbrev SH (w:Int):Prop:=0≤w∧IntKind.i64.wrap (1*2^min w.toNat 64)=2^w.toNat
theorem sh {w:Int} (h0:0≤w:=by omega) (h:w≤62:=by omega):SH w:=⟨h0,KB h0 h⟩
def bo (op:Int):Int:=if op=1 then 0 else if op=2∨op=12∨op=13 then 1 else if op=10 then 3 else if 3≤op∧op≤11 then 2 else -1
def g (l:List Int) (i:Nat):Int:=l.getD i 0
def bI (ws:List Int):Int:=if ws.getD 0 0≠ws.getD 1 0 then 0 else ws.getD 0 0
def bi (op:Int) (ws:List Int) (k w:Int):Int :=
 if op=1 then (if aq w=false∨k<0∨af w<k then 0 else w)
 else if op=2 then ws.getD 0 0
 else if op=8∨op=9 then min (bI ws) 1
 else if op=10 then (if ws.getD 0 0≠1∨ws.getD 1 0≠ws.getD 2 0 then 0 else ws.getD 1 0)
 else if op=11 then ws.getD 0 0+ws.getD 1 0
 else if op=12 then (if aq w=false∨k<0∨ws.getD 0 0-w<k then 0 else w)
 else if op=13 then (if w<ws.getD 0 0 then 0 else w)
 else bI ws
def hC (op:Int) (ws:List Int) (k w:Int):Bool:=decide ((ws.length:Int)=bo op)&&ws.all aq&&aq (bi op ws k w)
def je (op:Int) (ws ys:List Int) (k w:Int):Int :=
 if op=1 then k
 else if op=2 then (((ys.getD 0 0).toNat ^^^ (af (ws.getD 0 0)).toNat:Nat):Int)
 else if op=3 then (((ys.getD 0 0).toNat &&& (ys.getD 1 0).toNat:Nat):Int)
 else if op=4 then (((ys.getD 0 0).toNat ||| (ys.getD 1 0).toNat:Nat):Int)
 else if op=5 then (((ys.getD 0 0).toNat ^^^ (ys.getD 1 0).toNat:Nat):Int)
 else if op=6 then (ys.getD 0 0+ys.getD 1 0)%2^(ws.getD 0 0).toNat
 else if op=7 then (ys.getD 0 0-ys.getD 1 0)%2^(ws.getD 0 0).toNat
 else if op=8 then (if ys.getD 0 0=ys.getD 1 0 then 1 else 0)
 else if op=9 then (if ys.getD 0 0<ys.getD 1 0 then 1 else 0)
 else if op=10 then ys.getD (2-ys.getD 0 0).toNat 0
 else if op=11 then (((ys.getD 0 0).toNat*2^(ws.getD 1 0).toNat ||| (ys.getD 1 0).toNat:Nat):Int)
 else if op=12 then (ys.getD 0 0 / 2^k.toNat)%2^w.toNat
 else ys.getD 0 0
def Bg (ws ys:List Int):Bool:=(List.range ys.length).all fun i=>decide (0≤ys.getD i 0)&&decide (ys.getD i 0≤af (ws.getD i 0))
def eP (op:Int) (ws ys L':List Int):Bool:=decide (L'.length=2)&&decide (ys.length=ws.length)&&hC op ws (L'.getD 0 0) (L'.getD 1 0)&&Bg ws ys
def cI (op:Int) (ws ys L':List Int):Int:=if eP op ws ys L' then je op ws ys (L'.getD 0 0) (L'.getD 1 0)else 0
def ip (op:Int) (ws ys L':List Int):Int:=if eP op ws ys L' then 0 else 1
def b5 (op:Int) (ws:List Int) (k w:Int):Int:=if hC op ws k w then bi op ws k w else 0
def jS (op:Int) (ws:List Int) (k w:Int):Int:=if hC op ws k w then 0 else 1
def sL:Nat→List Int→Int
 | _,[]=>-1
 | n,x::l=>if aq x then sL (n+1) l else (n:Int)
theorem xP:∀(l:List Int) (n:Nat),decide (0≤sL n l)=!(l.all aq)
 | [],n=>by simp[sL]
 | x::l,n=>by
  unfold sL
  rw[TD]
  cases h:aq x
  ·simp
  ·simp only[Tj,Tc]
   exact xP l (n+1)
theorem xQ {ws:List Int} {k:Nat} (h:k<ws.length):sL k (ws.drop k)=if aq (ws.getD k 0)then sL (k+1) (ws.drop (k+1))else (k:Int):=by
 rw[List.drop_eq_getElem_cons h]
 simp[sL,List.getD,RB h]
theorem aA {ws:List Int} (h:ws.all aq=true) {i:Nat} (hi:i<ws.length):1≤ws.getD i 0∧ws.getD i 0≤8:=by
 rw[R7]at h
 have:=h (ws.getD i 0) (by simp[List.getD,RB hi])
 exact aW.1 this
theorem a7 {ws xs:List Int} (h:Bg ws xs=true) {i:Nat} (hi:i<xs.length):0≤xs.getD i 0∧xs.getD i 0≤af (ws.getD i 0):=by
 unfold Bg at h
 rw[R7]at h
 have:=h i (SD.2 hi)
 simp only[RA,Sy]at this
 exact this
theorem sM {a b:Int} (h1:0≤a) (h2:a<9223372036854775808) (h3:0≤b) (h4:b<9223372036854775808):IntKind.wrap .i64 ((BitVec.ofInt (IntKind.i64).bits a ^^^ BitVec.ofInt (IntKind.i64).bits b).toNat:Int)=((a.toNat ^^^ b.toNat:Nat):Int):=by
 obtain⟨n,rfl⟩:=Sz h1
 obtain⟨m,rfl⟩:=Sz h3
 exact OE (by omega) (by omega)
theorem xR {a b:Int} (h1:0≤a) (h2:a<9223372036854775808) (h3:0≤b) (h4:b<9223372036854775808):IntKind.wrap .i64 ((BitVec.ofInt (IntKind.i64).bits a &&& BitVec.ofInt (IntKind.i64).bits b).toNat:Int)=((a.toNat &&& b.toNat:Nat):Int):=by
 obtain⟨n,rfl⟩:=Sz h1
 obtain⟨m,rfl⟩:=Sz h3
 exact OC (by omega) (by omega)
theorem Bh {a b:Int} (h1:0≤a) (h2:a<9223372036854775808) (h3:0≤b) (h4:b<9223372036854775808):IntKind.wrap .i64 ((BitVec.ofInt (IntKind.i64).bits a ||| BitVec.ofInt (IntKind.i64).bits b).toNat:Int)=((a.toNat ||| b.toNat:Nat):Int):=by
 obtain⟨n,rfl⟩:=Sz h1
 obtain⟨m,rfl⟩:=Sz h3
 exact OD (by omega) (by omega)
theorem xS {a:Nat} {n:Nat} (ha:a≤255) (hn:n≤8):a*2^n≤65280:=by
 have:2^n≤2^8:=SX (by omega) hn
 calc a*2^n≤255*2^8:=Tt ha this
  _=65280:=by decide
theorem EF {a n:Int} (ha:0≤a∧a≤255) (hn:0≤n∧n≤8):IntKind.wrap .i64 (a*2^min n.toNat 64)=((a.toNat*2^n.toNat:Nat):Int):=by
 obtain⟨x,rfl⟩:=Sz ha.1
 obtain⟨m,rfl⟩:=Sz hn.1
 have hb:=xS (a:=x) (n:=m) (by omega) (by omega)
 rw[SQ,SQ,TU (by omega)]
 have e:((x:Int)*2^m)=((x*2^m:Nat):Int):=by simp
 rw[e]
 exact jd (by omega)
theorem EG {a b n:Int} (ha:0≤a∧a≤255) (hn:0≤n∧n≤8) (hb:0≤b∧b≤255):IntKind.wrap .i64 ((BitVec.ofInt (IntKind.i64).bits ((a.toNat*2^n.toNat:Nat):Int) ||| BitVec.ofInt (IntKind.i64).bits b).toNat:Int)=((a.toNat*2^n.toNat ||| b.toNat:Nat):Int):=by
 have h:=xS (a:=a.toNat) (n:=n.toNat) (by omega) (by omega)
 obtain⟨m,rfl⟩:=Sz hb.1
 exact OD (by omega) (by omega)
theorem EH {a n:Int} (h:0≤n) (h2:n≤62):Int.fdiv a (2^min n.toNat 64)=a / 2^n.toNat:=by
 rw[TU (by omega),Int.fdiv_eq_ediv_of_nonneg _ (Int.le_of_lt (Int.pow_pos (by decide)))]
theorem jT {op:Int} {ws:List Int} {k w:Int} (h:hC op ws k w=true):(ws.length:Int)=bo op∧ws.all aq=true∧aq (bi op ws k w)=true:=by
 unfold hC at h
 simp only[RA,Sy]at h
 exact⟨h.1.1,h.1.2,h.2⟩
theorem KC {op:Int} (h:op<1∨13<op) (ws:List Int) (k w:Int):hC op ws k w=false:=by
 have:bo op=-1:=by
  unfold bo
  rw[RE (by omega),RE (by omega),RE (by omega),RE (by omega)]
 unfold hC
 rw[this,R6 (by omega)]
 rfl
theorem zf {ws:List Int} {k w:Int} (h:hC 10 ws k w=true):ws.getD 0 0=1:=by
 have h3:=aW.1 (jT h).2.2
 have e:bi 10 ws k w=(if ws.getD 0 0≠1∨ws.getD 1 0≠ws.getD 2 0 then 0 else ws.getD 1 0):=rfl
 rw[e]at h3
 split at h3
 ·omega
 ·rename_i hn
  refine SI fun hh=>hn (.inl hh)
theorem zg {ws:List Int} {k w:Int} (h:hC 12 ws k w=true):0≤k∧k≤8∧aq w=true:=by
 obtain⟨h1,h2,h3⟩:=jT h
 have h3:=aW.1 h3
 have e:bi 12 ws k w=(if aq w=false∨k<0∨ws.getD 0 0-w<k then 0 else w):=rfl
 rw[e]at h3
 have hA:bo 12=1:=by decide
 rw[hA]at h1
 have f0:=aA h2 (i:=0) (by omega)
 split at h3
 ·omega
 ·rename_i hn
  simp only[not_or,Bool.not_eq_false]at hn
  have:=aW.1 hn.1
  exact⟨by omega,by omega,hn.1⟩
theorem aX {op:Int} {ws xs L':List Int} (h:eP op ws xs L'=false):cI op ws xs L'=0∧ip op ws xs L'=1:=by
 unfold cI ip
 rw[h]
 exact⟨rfl,rfl⟩
theorem dT {op:Int} {ws xs L':List Int} (h1:L'.length=2) (h2:xs.length=ws.length) (h3:hC op ws (L'.getD 0 0) (L'.getD 1 0)=true) (h4:Bg ws xs=true):cI op ws xs L'=je op ws xs (L'.getD 0 0) (L'.getD 1 0)∧ip op ws xs L'=0:=by
 have h:eP op ws xs L'=true:=by
  unfold eP
  rw[RX h1,RX h2,h3,h4]
  rfl
 unfold cI ip
 rw[h]
 exact⟨rfl,rfl⟩
theorem qZ {op:Int} {ws xs L':List Int} (h:L'.length≠2):eP op ws xs L'=false:=by
 unfold eP
 rw[R6 h]
 rfl
theorem ra {op:Int} {ws xs L':List Int} (h:xs.length≠ws.length):eP op ws xs L'=false:=by
 unfold eP
 rw[R6 h,S7]
 rfl
theorem co {op:Int} {ws xs L':List Int} (h:hC op ws (L'.getD 0 0) (L'.getD 1 0)=false):eP op ws xs L'=false:=by
 unfold eP
 rw[h,S7]
 rfl
theorem jz {op:Int} {ws xs L':List Int} {i:Nat} (hi:i<xs.length) (h:xs.getD i 0<0∨af (ws.getD i 0)<xs.getD i 0):eP op ws xs L'=false:=by
 have:Bg ws xs=false:=by
  rw[Ty]
  intro hh
  have:=a7 hh hi
  omega
 unfold eP
 rw[this,S7]
theorem H2 {ws xs:List Int} (h:∀i,i<xs.length→0≤xs.getD i 0∧xs.getD i 0≤af (ws.getD i 0)):Bg ws xs=true:=by
 unfold Bg
 rw[R7]
 intro i hi
 have:=h i (SD.1 hi)
 rw[RX this.1,RX this.2]
 rfl
theorem di {p:Nat→Prop} {i:Nat} (h:∀j,j<i→p j) (hi:p i):∀j,j<i+1→p j:=fun j hj=>by
 rcases Nat.lt_or_ge j i with h1 | h1
 ·exact h j h1
 ·have:j=i:=by omega
  rw[this];exact hi
def Bi (op:Int) (ws:List Int):Bool:=decide ((ws.length:Int)=bo op)&&ws.all aq
theorem C7 (op:Int) (ws:List Int) (k w:Int):hC op ws k w=(Bi op ws&&aq (bi op ws k w)):=rfl
theorem zh {op:Int} {ws:List Int} (h:Bi op ws=true):(ws.length:Int)=bo op∧ws.all aq=true:=by
 unfold Bi at h
 simp only[RA,Sy]at h
 exact h
theorem H3 {op:Int} {ws:List Int} (h:Bi op ws=false):(ws.length:Int)≠bo op∨((ws.length:Int)=bo op∧ws.all aq=false):=by
 unfold Bi at h
 by_cases h1:(ws.length:Int)=bo op
 ·rw[RX h1,Tc]at h
  exact .inr ⟨h1,h⟩
 ·exact .inl h1
structure Nm where
 n:Int
 p:ByteArray
structure Ex where
 op:Int
 name:ByteArray
 k:Nm
 w:Nm
 args:List Ex
abbrev e0:ByteArray:=ByteArray.empty
abbrev bs (l:List UInt8):ByteArray:=⟨l.toArray⟩
abbrev dN:Nm:=⟨0,e0⟩
abbrev dE:Ex:=⟨0,e0,dN,dN,[]⟩
structure Qb where
 kind:Int
 src:ByteArray
 n:Int
structure Rg where
 name:ByteArray
 w:Int
 init:Int
 next:Ex
 rule:Qb
structure Mm where
 name:ByteArray
 w:Int
 words:Int
 enable:Ex
 addr:Ex
 data:Ex
 rule:Qb
structure Tk where
 chan:Int
 w:Int
 when:Ex
structure Pt where
 chan:Int
 w:Int
 when:Ex
 data:Ex
structure Pr where
 name:ByteArray
 clock:ByteArray
 Ry:List Rg
 Rx:List Mm
 I:List Tk
 Rv:List Pt
structure Ps where
 Ry:List Int
 Rx:List (List Int)
structure Hd where
 has:Bool
 v:Int
structure Fi where
 fires:Bool
 s:Ps
 pops:List Bool
 Rv:List Hd
abbrev MU:Qb:=⟨0,e0,0⟩
abbrev bH:Rg:=⟨e0,0,0,dE,MU⟩
abbrev aP:Mm:=⟨e0,0,0,dE,dE,dE,MU⟩
abbrev aF:Tk:=⟨0,0,dE⟩
abbrev aB:Pt:=⟨0,0,dE,dE⟩
abbrev ac:Pr:=⟨e0,e0,[],[],[],[]⟩
abbrev bh:Ps:=⟨[],[]⟩
abbrev aJ:Hd:=⟨false,0⟩
def eA:Nat→Ex→List V
 | 0,_=>[]
 | n+1,e=>[.int .i64 e.op,.str e.name,.int .i64 e.k.n,.str e.k.p,.int .i64 e.w.n,.str e.w.p,.sl 7 (eA n) dE e.args]
def aa (l:List Int):List V:=[.sl 1 (ab .i64) 0 l]
def gM (r:Rg):List V:=[.str r.name,.int .i64 r.w,.int .i64 r.init,.int .i64 r.next.op,.str r.next.name,.int .i64 r.next.k.n,.str r.next.k.p,.int .i64 r.next.w.n,.str r.next.w.p,.sl 7 (eA 2) dE r.next.args,.int .i64 r.rule.kind,.str r.rule.src,.int .i64 r.rule.n]
def m3 (r:Mm):List V:=[.str r.name,.int .i64 r.w,.int .i64 r.words,.int .i64 r.enable.op,.str r.enable.name,.int .i64 r.enable.k.n,.str r.enable.k.p,.int .i64 r.enable.w.n,.str r.enable.w.p,.sl 7 (eA 2) dE r.enable.args,
 .int .i64 r.addr.op,.str r.addr.name,.int .i64 r.addr.k.n,.str r.addr.k.p,.int .i64 r.addr.w.n,.str r.addr.w.p,.sl 7 (eA 2) dE r.addr.args,
 .int .i64 r.data.op,.str r.data.name,.int .i64 r.data.k.n,.str r.data.k.p,.int .i64 r.data.w.n,.str r.data.w.p,.sl 7 (eA 2) dE r.data.args,.int .i64 r.rule.kind,.str r.rule.src,.int .i64 r.rule.n]
def ir (r:Tk):List V:=[.int .i64 r.chan,.int .i64 r.w,.int .i64 r.when.op,.str r.when.name,.int .i64 r.when.k.n,.str r.when.k.p,.int .i64 r.when.w.n,.str r.when.w.p,.sl 7 (eA 2) dE r.when.args]
def gd (r:Pt):List V:=[.int .i64 r.chan,.int .i64 r.w,.int .i64 r.when.op,.str r.when.name,.int .i64 r.when.k.n,.str r.when.k.p,.int .i64 r.when.w.n,.str r.when.w.p,.sl 7 (eA 2) dE r.when.args,
 .int .i64 r.data.op,.str r.data.name,.int .i64 r.data.k.n,.str r.data.k.p,.int .i64 r.data.w.n,.str r.data.w.p,.sl 7 (eA 2) dE r.data.args]
def fS (p:Pr):List V:=[.str p.name,.str p.clock,.sl 13 gM bH p.Ry,.sl 27 m3 aP p.Rx,.sl 9 ir aF p.I,.sl 16 gd aB p.Rv]
def bn (s:Ps):List V:=[.sl 1 (ab .i64) 0 s.Ry,.sl 1 aa [] s.Rx]
def bt (h:Hd):List V:=[.bool h.has,.int .i64 h.v]
def KH (f:Fi):List V:=[.bool f.fires,.sl 1 (ab .i64) 0 f.s.Ry,.sl 1 aa [] f.s.Rx,.sl 1 aL false f.pops,.sl 2 bt aJ f.Rv]
def fI:Ex→Nat
 | ⟨_,_,_,_,args⟩=>depL args+1
where depL:List Ex→Nat
 | []=>0
 | a::r=>max (fI a) (depL r)
theorem jD {x w:Int} (h0:0≤w) (h:w≤62):x≤af w↔x<2^w.toNat:=by
 rw[cY h0 h];omega
theorem eR {x:Int} {n:Nat} (h0:0≤x) (h:x<2^n):x.toNat<2^n:=by
 have e:((2:Int)^n)=((2^n:Nat):Int):=by simp
 rw[e]at h
 omega
theorem Bj {x n:Nat} (h:x<2^n):(x:Int)<2^n:=by
 have e:((2:Int)^n)=((2^n:Nat):Int):=by simp
 rw[e]
 omega
theorem Gt {a b:Int} (h:a≤b) (h0:0≤a) (hb:b≤62):af a≤af b:=by
 rw[cY h0 (by omega),cY (by omega) hb]
 have:(2:Nat)^a.toNat≤2^b.toNat:=SX (by omega) (by omega)
 have e1:((2:Int)^a.toNat)=((2^a.toNat:Nat):Int):=by simp
 have e2:((2:Int)^b.toNat)=((2^b.toNat:Nat):Int):=by simp
 rw[e1,e2]
 omega
def d7 (v w:Int):Prop:=0≤v∧v≤af w
theorem uE {x w:Int} (h0:0≤w) (h:w≤62):d7 (x%2^w.toNat) w:=by
 have hp:=pJ (n:=w.toNat) (by omega)
 refine⟨Tx _ (by omega),?_⟩
 rw[jD h0 h]
 exact TJ _ (by omega)
theorem rp {x:Nat} {w:Int} (h0:0≤w) (h:w≤62) (hx:x<2^w.toNat):d7 (x:Int) w:=by
 refine⟨by omega,?_⟩
 rw[jD h0 h]
 exact Bj hx
theorem Db {ws:List Int} (h:bI ws≠0):ws.getD 0 0=ws.getD 1 0∧bI ws=ws.getD 0 0:=by
 unfold bI at h ⊢
 split at h
 ·exact absurd rfl h
 ·rename_i hn
  rw[RE hn]
  exact⟨Decidable.not_not.1 hn,rfl⟩
theorem Ig {op:Int} {ws xs:List Int} {k w:Int} (h:hC op ws k w=true) (hx:xs.length=ws.length) (hin:Bg ws xs=true):d7 (je op ws xs k w) (bi op ws k w):=by
 obtain⟨h1,hf,h3⟩:=jT h
 have h3:=aW.1 h3
 have VL:1≤op∧op≤13:=by
  by_cases hr:op<1∨13<op
  ·have:bo op=-1:=by unfold bo;rw[RE (by omega),RE (by omega),RE (by omega),RE (by omega)]
   omega
  ·omega
 have f0:0<ws.length→1≤ws.getD 0 0∧ws.getD 0 0≤8:=fun h=>aA hf h
 have f1:1<ws.length→1≤ws.getD 1 0∧ws.getD 1 0≤8:=fun h=>aA hf h
 have f2:2<ws.length→1≤ws.getD 2 0∧ws.getD 2 0≤8:=fun h=>aA hf h
 have a0:0<ws.length→0≤xs.getD 0 0∧xs.getD 0 0≤af (ws.getD 0 0):=fun h=>a7 hin (by omega)
 have a1:1<ws.length→0≤xs.getD 1 0∧xs.getD 1 0≤af (ws.getD 1 0):=fun h=>a7 hin (by omega)
 have a2:2<ws.length→0≤xs.getD 2 0∧xs.getD 2 0≤af (ws.getD 2 0):=fun h=>a7 hin (by omega)
 have two:∀{op:Int},bo op=2→(ws.length:Int)=bo op→bi op ws k w=bI ws→1≤bi op ws k w∧bi op ws k w≤8→ws.getD 0 0=ws.getD 1 0∧bi op ws k w=ws.getD 0 0∧(xs.getD 0 0).toNat<2^(ws.getD 0 0).toNat∧(xs.getD 1 0).toNat<2^(ws.getD 0 0).toNat∧1≤ws.getD 0 0∧ws.getD 0 0≤8:=by
  intro op hA hl hw hb
  have VJ:ws.length=2:=by omega
  obtain⟨e1,e2⟩:=Db (ws:=ws) (by rw[← hw];omega)
  have b0:=f0 (by omega)
  have c0:=a0 (by omega)
  have c1:=a1 (by omega)
  refine⟨e1,by rw[hw,e2],eR c0.1 ((jD (by omega) (by omega)).1 c0.2),?_,b0⟩
  have:=(jD (w:=ws.getD 1 0) (by omega) (by omega)).1 c1.2
  rw[← e1]at this
  exact eR c1.1 this
 have X8:op=1∨op=2∨op=3∨op=4∨op=5∨op=6∨op=7∨op=8∨op=9∨op=10∨op=11∨op=12∨op=13:=by omega
 rcases X8 with rfl | rfl | rfl | rfl | rfl | rfl | rfl | rfl | rfl | rfl | rfl | rfl | rfl
 ·show d7 k (if aq w=false∨k<0∨af w<k then 0 else w)
  have e:bi 1 ws k w=(if aq w=false∨k<0∨af w<k then 0 else w):=rfl
  rw[e]at h3
  split at h3
  ·omega
  ·rename_i hn
   rw[RE hn]
   simp only[not_or,Int.not_lt]at hn
   exact⟨hn.2.1,hn.2.2⟩
 ·have hl:(ws.length:Int)=1:=h1
  have b0:=f0 (by omega)
  have c0:=a0 (by omega)
  show d7 (((xs.getD 0 0).toNat ^^^ (af (ws.getD 0 0)).toNat:Nat):Int) (ws.getD 0 0)
  refine rp (by omega) (by omega) (Nat.xor_lt_two_pow (eR c0.1 ((jD (by omega) (by omega)).1 c0.2)) ?_)
  have m0:=az (w:=ws.getD 0 0) (by omega) (by omega)
  exact eR m0.1 ((jD (by omega) (by omega)).1 (Int.le_refl _))
 ·obtain⟨e1,e2,e3,e4,e5,e6⟩:=two (op:=3) (by decide) h1 rfl h3
  rw[e2]
  exact rp (by omega) (by omega) (Nat.lt_of_le_of_lt Nat.and_le_left e3)
 ·obtain⟨e1,e2,e3,e4,e5,e6⟩:=two (op:=4) (by decide) h1 rfl h3
  rw[e2]
  exact rp (by omega) (by omega) (Nat.or_lt_two_pow e3 e4)
 ·obtain⟨e1,e2,e3,e4,e5,e6⟩:=two (op:=5) (by decide) h1 rfl h3
  rw[e2]
  exact rp (by omega) (by omega) (Nat.xor_lt_two_pow e3 e4)
 ·obtain⟨e1,e2,e3,e4,e5,e6⟩:=two (op:=6) (by decide) h1 rfl h3
  rw[e2]
  exact uE (by omega) (by omega)
 ·obtain⟨e1,e2,e3,e4,e5,e6⟩:=two (op:=7) (by decide) h1 rfl h3
  rw[e2]
  exact uE (by omega) (by omega)
 ·have e:bi 8 ws k w=min (bI ws) 1:=rfl
  rw[e]at h3 ⊢
  have e1:min (bI ws) 1=1:=by omega
  rw[e1]
  show d7 (if xs.getD 0 0=xs.getD 1 0 then 1 else 0) 1
  split<;>exact⟨by decide,by decide⟩
 ·have e:bi 9 ws k w=min (bI ws) 1:=rfl
  rw[e]at h3 ⊢
  have e1:min (bI ws) 1=1:=by omega
  rw[e1]
  show d7 (if xs.getD 0 0<xs.getD 1 0 then 1 else 0) 1
  split<;>exact⟨by decide,by decide⟩
 ·have hl:(ws.length:Int)=3:=h1
  have hm1:=zf h
  have c0:=a0 (by omega)
  rw[hm1]at c0
  have c0':xs.getD 0 0≤1:=c0.2
  have c1:=a1 (by omega)
  have c2:=a2 (by omega)
  have e:bi 10 ws k w=(if ws.getD 0 0≠1∨ws.getD 1 0≠ws.getD 2 0 then 0 else ws.getD 1 0):=rfl
  rw[e]at h3 ⊢
  split at h3
  ·omega
  ·rename_i hn
   rw[RE hn]
   have hs:ws.getD 1 0=ws.getD 2 0:=SI fun hh=>hn (.inr hh)
   show d7 (xs.getD (2-xs.getD 0 0).toNat 0) (ws.getD 1 0)
   have hc:xs.getD 0 0=0∨xs.getD 0 0=1:=by omega
   rcases hc with hc | hc
   ·rw[hc,hs];exact c2
   ·rw[hc];exact c1
 ·have hl:(ws.length:Int)=2:=h1
  have b0:=f0 (by omega)
  have b1:=f1 (by omega)
  have c0:=a0 (by omega)
  have c1:=a1 (by omega)
  have e:bi 11 ws k w=ws.getD 0 0+ws.getD 1 0:=rfl
  rw[e]at h3 ⊢
  show d7 ((((xs.getD 0 0).toNat*2^(ws.getD 1 0).toNat ||| (xs.getD 1 0).toNat:Nat)):Int) (ws.getD 0 0+ws.getD 1 0)
  have d0:=eR c0.1 ((jD (by omega) (by omega)).1 c0.2)
  have d1:=eR c1.1 ((jD (by omega) (by omega)).1 c1.2)
  have hs:(ws.getD 0 0+ws.getD 1 0).toNat=(ws.getD 0 0).toNat+(ws.getD 1 0).toNat:=by omega
  refine rp (by omega) (by omega) ?_
  rw[hs,Nat.pow_add]
  refine(Nat.pow_add 2 _ _) ▸ Nat.or_lt_two_pow ?_ ?_
  ·rw[Nat.pow_add];exact Nat.mul_lt_mul_of_pos_right d0 (Nat.two_pow_pos _)
  ·exact SA d1 (SX (by omega) (by omega))
 ·have hk:=zg h
  have e:bi 12 ws k w=(if aq w=false∨k<0∨ws.getD 0 0-w<k then 0 else w):=rfl
  rw[e]at h3 ⊢
  split at h3
  ·omega
  ·rename_i hn
   rw[RE hn]
   have hw:=aW.1 hk.2.2
   exact uE (by omega) (by omega)
 ·have hl:(ws.length:Int)=1:=h1
  have b0:=f0 (by omega)
  have c0:=a0 (by omega)
  have e:bi 13 ws k w=(if w<ws.getD 0 0 then 0 else w):=rfl
  rw[e]at h3 ⊢
  split at h3
  ·omega
  ·rename_i hn
   rw[RE hn]
   show d7 (xs.getD 0 0) w
   exact⟨c0.1,Int.le_trans c0.2 (Gt (by omega) (by omega) (by omega))⟩
theorem Gu {op:Int} {ws xs L':List Int} {k w:Int} (h:hC op ws k w=true) (hx:xs.length=ws.length) (hin:Bg ws xs=true) (hn:L'.length=2) (h0:L'.getD 0 0=k) (h1:L'.getD 1 0=w) :
  cI op ws xs L'=je op ws xs k w∧d7 (cI op ws xs L') (bi op ws k w):=by
 have e:=(dT hn hx (by rw[h0,h1];exact h) hin).1
 rw[h0,h1]at e
 exact⟨e,by rw[e];exact Ig h hx hin⟩
def a8 (p:Pr) (s:Ps) (data:List Int):Ex→Int×Int
 | ⟨op,_,k,w,args⟩ =>
  if op=16 then (s.Ry.getD k.n.toNat 0,(p.Ry.getD k.n.toNat bH).w)
  else if op=18 then (data.getD k.n.toNat 0,(p.I.getD k.n.toNat aF).w)
  else if op=17 then ((s.Rx.getD k.n.toNat []).getD (Int.tmod ((evL args).getD 0 (0,0)).1 (s.Rx.getD k.n.toNat []).length).toNat 0,(p.Rx.getD k.n.toNat aP).w)
  else (cI op ((evL args).map (·.2)) ((evL args).map (·.1)) [k.n,w.n],b5 op ((evL args).map (·.2)) k.n w.n)
where evL:List Ex→List (Int×Int)
 | []=>[]
 | a::r=>a8 p s data a::evL r
theorem EI {p:Pr} {s:Ps} {data:List Int}:∀(l:List Ex),a8.evL p s data l=l.map (a8 p s data)
 | []=>rfl
 | a::r=>by rw[a8.evL,EI r];rfl
theorem qi (p:Pr) (s:Ps) (data:List Int) (e:Ex):a8 p s data e =
  if e.op=16 then (s.Ry.getD e.k.n.toNat 0,(p.Ry.getD e.k.n.toNat bH).w)
  else if e.op=18 then (data.getD e.k.n.toNat 0,(p.I.getD e.k.n.toNat aF).w)
  else if e.op=17 then ((s.Rx.getD e.k.n.toNat []).getD (Int.tmod ((e.args.map (a8 p s data)).getD 0 (0,0)).1 (s.Rx.getD e.k.n.toNat []).length).toNat 0,(p.Rx.getD e.k.n.toNat aP).w)
  else (cI e.op ((e.args.map (a8 p s data)).map (·.2)) ((e.args.map (a8 p s data)).map (·.1)) [e.k.n,e.w.n],b5 e.op ((e.args.map (a8 p s data)).map (·.2)) e.k.n e.w.n):=by
 cases e with
 | mk op name k w args=>rw[a8,EI]
structure Sc where
 rw:List Int
 mw:List Int
 tw:List Int
def fc (c:Sc):Ex→Option Int
 | ⟨op,_,k,w,args⟩=>match tyL args with
  | none=>none
  | some ws =>
   if op=16 then (if ws=[]∧0≤k.n∧k.n<c.rw.length then some (c.rw.getD k.n.toNat 0)else none)
   else if op=18 then (if ws=[]∧0≤k.n∧k.n<c.tw.length then some (c.tw.getD k.n.toNat 0)else none)
   else if op=17 then (if ws.length=1∧0≤k.n∧k.n<c.mw.length then some (c.mw.getD k.n.toNat 0)else none)
   else if hC op ws k.n w.n then some (bi op ws k.n w.n)else none
where tyL:List Ex→Option (List Int)
 | []=>some []
 | a::r=>match fc c a,tyL r with
  | some w,some ws=>some (w::ws)
  | _,_=>none
theorem lD {c:Sc}:∀{l:List Ex} {ws:List Int},fc.tyL c l=some ws→ws.length=l.length∧∀i,i<l.length→fc c (l.getD i dE)=some (ws.getD i 0)
 | [],ws,h=>by rw[fc.tyL]at h;cases h;exact⟨rfl,fun i hi=>absurd hi (Tz _)⟩
 | a::r,ws,h=>by
  rw[fc.tyL]at h
  split at h
  ·rename_i w ws' h1 h2
   cases h
   obtain⟨q1,q2⟩:=lD h2
   refine⟨by simp[q1],fun i hi=>?_⟩
   cases i with
   | zero=>exact h1
   | succ i=>exact q2 i (by simpa using hi)
  ·cases h
theorem hD {c:Sc} {e:Ex} {w:Int} (h:fc c e=some w):∃ws,fc.tyL c e.args=some ws ∧
  ((e.op=16∧ws=[]∧0≤e.k.n∧e.k.n<c.rw.length∧w=c.rw.getD e.k.n.toNat 0)∨(e.op=18∧ws=[]∧0≤e.k.n∧e.k.n<c.tw.length∧w=c.tw.getD e.k.n.toNat 0) ∨
   (e.op=17∧ws.length=1∧0≤e.k.n∧e.k.n<c.mw.length∧w=c.mw.getD e.k.n.toNat 0)∨(e.op≠16∧e.op≠17∧e.op≠18∧hC e.op ws e.k.n e.w.n=true∧w=bi e.op ws e.k.n e.w.n)):=by
 cases e with
 | mk op name k w0 args =>
  rw[fc]at h
  split at h
  ·cases h
  ·rename_i ws hws
   refine⟨ws,hws,?_⟩
   split at h
   ·rename_i ho
    split at h
    ·rename_i hc;cases h;exact .inl ⟨ho,hc.1,hc.2.1,hc.2.2,rfl⟩
    ·cases h
   ·split at h
    ·rename_i ho
     split at h
     ·rename_i hc;cases h;exact .inr (.inl ⟨ho,hc.1,hc.2.1,hc.2.2,rfl⟩)
     ·cases h
    ·split at h
     ·rename_i ho
      split at h
      ·rename_i hc;cases h;exact .inr (.inr (.inl ⟨ho,hc.1,hc.2.1,hc.2.2,rfl⟩))
      ·cases h
     ·split at h
      ·rename_i h1 h2 h3 hc;cases h;exact .inr (.inr (.inr ⟨h1,h3,h2,hc,rfl⟩))
      ·cases h
structure sP (c:Sc) (p:Pr) (s:Ps) (data:List Int):Prop where
 prl:p.Ry.length=c.rw.length
 prw:∀i,i<c.rw.length→(p.Ry.getD i bH).w=c.rw.getD i 0
 pml:p.Rx.length=c.mw.length
 pmw:∀i,i<c.mw.length→(p.Rx.getD i aP).w=c.mw.getD i 0
 ptl:p.I.length=c.tw.length
 ptw:∀i,i<c.tw.length→(p.I.getD i aF).w=c.tw.getD i 0
 srl:s.Ry.length=c.rw.length
 srv:∀i,i<c.rw.length→d7 (s.Ry.getD i 0) (c.rw.getD i 0)
 sml:s.Rx.length=c.mw.length
 smn:∀i,i<c.mw.length→0<(s.Rx.getD i []).length
 smv:∀i,i<c.mw.length→∀j,j<(s.Rx.getD i []).length→d7 ((s.Rx.getD i []).getD j 0) (c.mw.getD i 0)
 dl:data.length=c.tw.length
 dv:∀i,i<c.tw.length→d7 (data.getD i 0) (c.tw.getD i 0)
 rok:∀i,i<c.rw.length→aq (c.rw.getD i 0)=true
 mok:∀i,i<c.mw.length→aq (c.mw.getD i 0)=true
 tok:∀i,i<c.tw.length→aq (c.tw.getD i 0)=true
theorem dU {α β:Type} (f:α→β) (l:List α) (i:Nat) (d:α) (d':β) (h:i<l.length):(l.map f).getD i d'=f (l.getD i d):=by
 simp[List.getD,RB h]
theorem EJ {e:Ex} {i:Nat} (h:i<e.args.length):fI (e.args.getD i dE)<fI e:=by
 cases e with
 | mk op name k w args =>
  have key:∀(l:List Ex) (i:Nat),i<l.length→fI (l.getD i dE)≤fI.depL l:=by
   intro l
   induction l with
   | nil=>intro i hi;exact absurd hi (Tz _)
   | cons a r ih =>
    intro i hi
    rw[fI.depL]
    cases i with
    | zero=>show fI a≤_;omega
    | succ i =>
     have:=ih i (by simpa using hi)
     show fI (r.getD i dE)≤_
     omega
  have:=key args i h
  rw[fI]
  exact Nat.lt_succ_of_le this
theorem MV {l:List Int} {p:Int→Bool} (h:∀i,i<l.length→p (l.getD i 0)=true):l.all p=true:=by
 rw[R7]
 intro x hx
 obtain⟨i,hi,rfl⟩:=List.mem_iff_getElem.1 hx
 have:=h i hi
 simpa[List.getD,RB hi]using this
theorem EK {c:Sc} {p:Pr} {s:Ps} {data:List Int} {args:List Ex} {ws:List Int} (hl:ws.length=args.length)
  (h:∀i,i<args.length→(a8 p s data (args.getD i dE)).2=ws.getD i 0∧d7 (a8 p s data (args.getD i dE)).1 (ws.getD i 0)∧aq (ws.getD i 0)=true) :
  (args.map (a8 p s data)).map (·.2)=ws∧((args.map (a8 p s data)).map (·.1)).length=ws.length∧Bg ws ((args.map (a8 p s data)).map (·.1))=true∧ws.all aq=true:=by
 refine⟨?_,by simp[hl],?_,MV (fun i hi=>(h i (by omega)).2.2)⟩
 ·apply Tm
  ·simp[hl]
  ·intro i h1 h2
   have:=(h i (by omega)).1
   simp only[List.getElem_map]
   have e1:args.getD i dE=args[i]'(by omega):=by simp[List.getD,RB (show i<args.length by omega)]
   have e2:ws.getD i 0=ws[i]:=by simp[List.getD,RB h2]
   rw[e1,e2]at this
   exact this
 ·refine H2 (fun i hi=>?_)
  have Vc:i<args.length:=by simpa using hi
  have:=(h i Vc).2.1
  rw[TY,dU ((·.1) ∘ a8 p s data) args i dE 0 Vc]
  exact this
theorem Ih {c:Sc} {p:Pr} {s:Ps} {data:List Int} (ho:sP c p s data):∀(n:Nat) (e:Ex) (w:Int),fI e≤n→fc c e=some w→(a8 p s data e).2=w∧d7 (a8 p s data e).1 w∧aq w=true:=by
 intro n
 induction n with
 | zero=>intro e w hd;cases e with | mk op name k w args=>rw[fI]at hd;omega
 | succ n ih =>
  intro e w hd hty
  obtain⟨ws,hws,hc⟩:=hD hty
  obtain⟨hl,UK⟩:=lD hws
  have hargs:∀i,i<e.args.length→(a8 p s data (e.args.getD i dE)).2=ws.getD i 0∧d7 (a8 p s data (e.args.getD i dE)).1 (ws.getD i 0)∧aq (ws.getD i 0)=true:=fun i hi=>ih _ _ (by have:=EJ hi;omega) (UK i hi)
  rw[qi]
  rcases hc with ⟨h1,h2,h3,h4,rfl⟩ | ⟨h1,h2,h3,h4,rfl⟩ | ⟨h1,h2,h3,h4,rfl⟩ | ⟨h1,h2,ZP,h3,rfl⟩
  ·rw[RH h1]
   exact⟨ho.prw _ (by omega),ho.srv _ (by omega),ho.rok _ (by omega)⟩
  ·rw[RE (by omega),RH h1]
   exact⟨ho.ptw _ (by omega),ho.dv _ (by omega),ho.tok _ (by omega)⟩
  ·rw[RE (by omega),RE (by omega),RH h1]
   refine⟨ho.pmw _ (by omega),ho.smv _ (by omega) _ ?_,ho.mok _ (by omega)⟩
   have hn:=ho.smn e.k.n.toNat (by omega)
   have a0:=(hargs 0 (by omega)).2.1.1
   rw[dU (a8 p s data) e.args 0 dE (0,0) (by omega)]
   have:=Int.tmod_lt_of_pos (a8 p s data (e.args.getD 0 dE)).1 (show(0:Int)<(s.Rx.getD e.k.n.toNat []).length by omega)
   have h0:=Int.tmod_nonneg (((s.Rx.getD e.k.n.toNat []).length:Nat):Int) a0
   omega
  ·rw[RE h1,RE ZP,RE h2]
   obtain⟨q1,q2,q3,q4⟩:=EK (c:=c) hl hargs
   rw[q1]
   obtain⟨r1,r2⟩:=Gu (L':=[e.k.n,e.w.n]) h3 q2 q3 rfl rfl rfl
   refine⟨?_,r2,?_⟩
   ·unfold b5;rw[h3];rfl
   ·exact(jT h3).2.2
theorem EL {a:Ex}:∀{l:List Ex},a∈l→fI a≤fI.depL l
 | b::r,h=>by
  rw[fI.depL]
  rcases Sq.1 h with rfl | h
  ·omega
  ·have:=EL h;omega
theorem uF {e a:Ex} (h:a∈e.args):fI a<fI e:=by
 cases e with
 | mk op name k w args=>rw[fI];exact Nat.lt_succ_of_le (EL h)
theorem Ii {c:Sc} {e a:Ex} {w:Int} (h:fc c e=some w) (ha:a∈e.args):∃w',fc c a=some w':=by
 obtain⟨ws,h1,_⟩:=hD h
 obtain⟨i,hi,rfl⟩:=List.mem_iff_getElem.1 ha
 have:=(lD h1).2 i hi
 exact⟨_,by simpa[List.getD,RB hi]using this⟩
theorem Ij {c:Sc} {e:Ex} {w:Int} (h:fc c e=some w):e.args.length≤3:=by
 obtain⟨ws,h1,h2⟩:=hD h
 have hl:=(lD h1).1
 rcases h2 with ⟨_,h2,_⟩ | ⟨_,h2,_⟩ | ⟨_,h2,_⟩ | ⟨_,_,_,h2,_⟩
 ·rw[h2]at hl;simp at hl;omega
 ·rw[h2]at hl;simp at hl;omega
 ·omega
 ·have:=(jT h2).1
  have:bo e.op≤3:=by unfold bo;split<;>(try split)<;>(try split)<;>(try split)<;>omega
  omega
theorem Ik {c:Sc} {p:Pr} {s:Ps} {data:List Int} {e:Ex} {w:Int} (ho:sP c p s data) (h:fc c e=some w) (VL:e.op=16):0≤e.k.n∧e.k.n<s.Ry.length∧e.k.n<p.Ry.length:=by
 obtain⟨ws,h1,h2⟩:=hD h
 have a1:=ho.srl;have a2:=ho.prl
 rcases h2 with ⟨_,_,h3,h4,_⟩ | ⟨h,_⟩ | ⟨h,_⟩ | ⟨h,_⟩<;>omega
theorem EM {c:Sc} {p:Pr} {s:Ps} {data:List Int} {e:Ex} {w:Int} (ho:sP c p s data) (h:fc c e=some w) (VL:e.op=18):0≤e.k.n∧e.k.n<data.length∧e.k.n<p.I.length:=by
 obtain⟨ws,h1,h2⟩:=hD h
 have a1:=ho.dl;have a2:=ho.ptl
 rcases h2 with ⟨h,_⟩ | ⟨_,_,h3,h4,_⟩ | ⟨h,_⟩ | ⟨_,_,h,_⟩<;>omega
theorem EN {c:Sc} {p:Pr} {s:Ps} {data:List Int} {e:Ex} {w:Int} (ho:sP c p s data) (h:fc c e=some w) (VL:e.op=17) :
  0≤e.k.n∧e.k.n<s.Rx.length∧e.k.n<p.Rx.length∧e.args.length=1∧0<(s.Rx.getD e.k.n.toNat []).length ∧
   0≤Int.tmod (a8 p s data (e.args.getD 0 dE)).1 (s.Rx.getD e.k.n.toNat []).length∧Int.tmod (a8 p s data (e.args.getD 0 dE)).1 (s.Rx.getD e.k.n.toNat []).length<(s.Rx.getD e.k.n.toNat []).length:=by
 obtain⟨ws,h1,h2⟩:=hD h
 have a1:=ho.sml;have a2:=ho.pml
 obtain⟨hl,hg⟩:=lD h1
 rcases h2 with ⟨h,_⟩ | ⟨h,_⟩ | ⟨_,h5,h3,h4,_⟩ | ⟨_,h,_⟩<;>try omega
 have hn:=ho.smn e.k.n.toNat (by omega)
 have a0:=(Ih ho _ (e.args.getD 0 dE) _ (RD _) (hg 0 (by omega))).2.1.1
 refine⟨by omega,by omega,by omega,by omega,hn,Int.tmod_nonneg _ a0,Int.tmod_lt_of_pos _ (by omega)⟩
theorem eY {p:Pr} {s:Ps} {data:List Int} {e:Ex} (h:e.op=16):(a8 p s data e).1=s.Ry.getD e.k.n.toNat 0∧(a8 p s data e).2=(p.Ry.getD e.k.n.toNat bH).w:=by
 rw[qi,RH h];exact⟨rfl,rfl⟩
theorem dG {p:Pr} {s:Ps} {data:List Int} {e:Ex} (h:e.op=18):(a8 p s data e).1=data.getD e.k.n.toNat 0∧(a8 p s data e).2=(p.I.getD e.k.n.toNat aF).w:=by
 rw[qi,RE (by omega),RH h];exact⟨rfl,rfl⟩
theorem dH {p:Pr} {s:Ps} {data:List Int} {e:Ex} (h:e.op=17) (hl:e.args.length=1):(a8 p s data e).1=(s.Rx.getD e.k.n.toNat []).getD (Int.tmod (a8 p s data (e.args.getD 0 dE)).1 (s.Rx.getD e.k.n.toNat []).length).toNat 0∧(a8 p s data e).2=(p.Rx.getD e.k.n.toNat aP).w:=by
 rw[qi,RE (by omega),RE (by omega),RH h,dU (a8 p s data) e.args 0 dE (0,0) (by omega)];exact⟨rfl,rfl⟩
def eZ (p:Pr) (s:Ps) (data:List Int) (l:List Ex):List Int:=l.map fun a=>(a8 p s data a).1
def dj (p:Pr) (s:Ps) (data:List Int) (l:List Ex):List Int:=l.map fun a=>(a8 p s data a).2
theorem v6 {p:Pr} {s:Ps} {data:List Int} (l:List Ex):(eZ p s data l).length=l.length:=by simp[eZ]
theorem rq {p:Pr} {s:Ps} {data:List Int} (l:List Ex):(dj p s data l).length=l.length:=by simp[dj]
theorem xV {α:Type} {l:List α} {i:Nat} {d:α} (h:i<l.length):l.take (i+1)=l.take i++[l.getD i d]:=by
 rw[List.take_succ_eq_append_getElem h];simp[List.getD,RB h]
theorem xW {p:Pr} {s:Ps} {data:List Int} {l:List Ex} {i:Nat} (h:i<l.length):eZ p s data (l.take (i+1))=eZ p s data (l.take i)++[(a8 p s data (l.getD i dE)).1]:=by
 rw[xV (d:=dE) h];simp[eZ]
theorem xX {p:Pr} {s:Ps} {data:List Int} {l:List Ex} {i:Nat} (h:i<l.length):dj p s data (l.take (i+1))=dj p s data (l.take i)++[(a8 p s data (l.getD i dE)).2]:=by
 rw[xV (d:=dE) h];simp[dj]
theorem iE {p:Pr} {s:Ps} {data:List Int} {e:Ex} (h1:¬e.op=16) (h2:¬e.op=18) (h3:¬e.op=17):(a8 p s data e).1=cI e.op (dj p s data e.args) (eZ p s data e.args) [e.k.n,e.w.n]∧(a8 p s data e).2=b5 e.op (dj p s data e.args) e.k.n e.w.n:=by
 rw[qi,RE h1,RE h2,RE h3]
 simp only[eZ,dj,TY]
 exact⟨rfl,rfl⟩
theorem iZ {l:List Ex} {i:Nat} (h:i<l.length):l.getD i dE∈l:=by simp[List.getD,RB h]
end Go.Proofs.YtckgpflobhpnpaaGreat
