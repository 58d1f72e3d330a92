/- Parts of a proof. -/
import Derived.Test.YtnlmlkbaflmgcaaQDr
import Derived.Test.YtnlmlkbaflmgcaaQBitT
namespace Go.Proofs.Ytnlmlkbaflmgcaa
open Go.RowKit
set_option linter.unusedVariables false
set_option linter.unusedSimpArgs false
def Gh (st L':St):Prop:=∀(C:li) (S:Nat→Prop) (μ:Nat→Value) (a:Act) (w:World),a5 C S μ st a w→∃S' μ',a5 C S' μ' L' a w
structure Ht:Type 1 where
 F:St→St×Prop
 ok:∀st,(F st).2→Gh st (F st).1
section
variable {C:li} {S:Nat→Prop} {μ μ':Nat→Value} {st:St} {a:Act} {w:World}
theorem a5.retell (h:a5 C S μ st a w) {Tu:List (Nat×D)} {H':List ax} (VY:∀t d,(t,d)∈Tu→∃e,(t,e)∈st.env∧∀u,ao S μ w e u→ao S μ' w d u)
  (G':∀(i:Nat) (B:ax),H'[i]?=some B→aJ S μ' w (μ' i) B)
  (P':∀(i:Nat) (B:ax) (b:Nat),H'[i]?=some B→B.live=true→bI (μ' i) b→∃(j:Nat) (A:ax),st.heap[j]?=some A∧A.live=true∧bI (μ j) b)
  (hap:∀(i j:Nat) (A B:ax) (b:Nat),H'[i]?=some A→H'[j]?=some B→A.live=true→B.live=true→bI (μ' i) b→bI (μ' j) b→i=j)
  (S4:∀(i:Nat) (B:ax),H'[i]?=some B→B.isRo=true→st.heap[i]?=some B∧μ' i=μ i):a5 C S μ' ⟨Tu,H'⟩ a w:=by
 refine⟨h.os,h.tape,h.output,h.size,h.old,h.mono,h.new,h.slt,fun t d hm=>?_,⟨G',hap,fun i A b hA la hb=>?_⟩,fun i A b hA la hb=>?_,?_,h.tsize,fun i A b hA la hb=>?_⟩
 ·obtain⟨e,h1,h2⟩:=VY t d hm
  obtain⟨q1,q2⟩:=h.env t e h1
  exact⟨q1,h2 _ q2⟩
 ·obtain⟨j,B,h1,h2,h3⟩:=P' i A b hA la hb
  exact h.heap.notS j B b h1 h2 h3
 ·obtain⟨j,B,h1,h2,h3⟩:=P' i A b hA la hb
  exact h.may j B b h1 h2 h3
 ·obtain⟨mk,d1,d2,d3⟩:=h.defers
  refine⟨mk,d1,d2,fun b hb=>?_⟩
  obtain⟨q1,q2,q3,q4⟩:=d3 b hb
  refine⟨q1,q2,q3,fun i A hA hl VD=>?_⟩
  obtain⟨j,B,h1,h2,h3⟩:=P' i A b hA hl VD
  exact q4 j B h1 h2 h3
 ·obtain⟨h1,h2⟩:=S4 i A hA la
  rw[h2]at hb
  exact h.ro i A b h1 la hb
theorem a5.boxTo2 (h:a5 C S μ st a w) {id:Nat} {A B:ax} (hA:st.heap[id]?=some A) (Vz:A.live=true) (hB:aJ S μ w (μ id) B) (S4:B.isRo=false:=by rfl):a5 C S μ ⟨st.env,st.heap.set id B⟩ a w:=by
 have RE:id<st.heap.length:=(Pf.1 hA).1
 have hg:∀(i:Nat) (X:ax),(st.heap.set id B)[i]?=some X→(i=id∧X=B)∨(i≠id∧st.heap[i]?=some X):=by
  intro i X hX
  by_cases hi:i=id
  ·subst hi
   rw[PB RE]at hX
   cases hX
   exact .inl ⟨rfl,rfl⟩
  ·rw[PA (fun e=>hi e.symm)]at hX
   exact .inr ⟨hi,hX⟩
 have hl:∀(i:Nat) (X:ax),(st.heap.set id B)[i]?=some X→X.live=true→∃Y,st.heap[i]?=some Y∧Y.live=true:=by
  intro i X hX hXl
  rcases hg i X hX with ⟨rfl,rfl⟩ | ⟨_,VZ⟩
  ·exact⟨A,hA,Vz⟩
  ·exact⟨X,VZ,hXl⟩
 refine h.retell (fun t d hm=>⟨d,hm,fun _ h=>h⟩) (fun i X hX=>?_) (fun i X b hX lX hb=>?_) (fun i k X Y b hX hY lX lY=>?_) (fun i X hX lX=>?_)
 ·rcases hg i X hX with ⟨rfl,rfl⟩ | ⟨_,VZ⟩
  ·exact hB
  ·exact h.heap.box i X VZ
 ·obtain⟨Y,h1,h2⟩:=hl i X hX lX
  exact⟨i,Y,h1,h2,hb⟩
 ·obtain⟨X',q1,q2⟩:=hl i X hX lX
  obtain⟨Y',q3,q4⟩:=hl k Y hY lY
  exact h.heap.apart i k X' Y' b q1 q3 q2 q4
 ·rcases hg i X hX with ⟨rfl,rfl⟩ | ⟨_,VZ⟩
  ·rw[S4]at lX;cases lX
  ·exact⟨VZ,rfl⟩
theorem Gh.trans {R5 Va st3:St} (h1:Gh R5 Va) (h2:Gh Va st3):Gh R5 st3:=fun C S μ a w h=>by
 obtain⟨S1,μ1,h'⟩:=h1 C S μ a w h
 exact h2 C S1 μ1 a w h'
theorem Gh.kill (id:Nat) (st:St):Gh st (st.kill id):=fun C S μ a w h=>⟨S,μ,h.kill id⟩
def kX {α:Type} (enc:α→List V) (d:α) (l:List α) (i j:Nat):D:=.v ((enc (l.getD i d)).getD j .nilf)
def Hu (id:Nat) (st:St):St×Prop:=match st.heap[id]? with
 | some (.arr E sz enc d l)=>(⟨st.env,st.heap.set id (.arrD E sz l.length [] (kX enc d l))⟩,True)
 | _=>(st,False)
theorem J0 (id:Nat) (st:St) (hp:(Hu id st).2):Gh st (Hu id st).1:=fun C S μ a w h=>by
 unfold Hu at hp ⊢
 split
 ·rename_i E sz α enc d l hb
  refine⟨S,μ,h.boxTo2 hb rfl ?_⟩
  obtain⟨r0,xs,r1,r2⟩:=h.heap.box id _ hb
  refine⟨fun i j k hi hj _=>rfl,xs,r1,fun i j hi hj=>?_⟩
  have hx0:l[i]?=some (l.getD i d):=by rw[bk _ _ hi];exact Ph hi
  have hel:=r0 i _ hx0
  have TB:j<(enc (l.getD i d)).length:=by omega
  have hy:(enc (l.getD i d))[j]?=some ((enc (l.getD i d)).getD j .nilf):=by
   generalize enc (l.getD i d)=q at TB ⊢
   rw[P4,Ph TB]
   rfl
  obtain⟨z,hz,hr⟩:=r2 i _ j _ hx0 hy
  exact⟨z,hz,hr.one,.v _ _ hr⟩
 ·rename_i hn
  split at hp
  ·rename_i E sz α enc d l hb;exact(hn _ _ _ _ _ _ hb).elim
  ·exact hp.elim
def OM (id:Nat):Ht:=⟨Hu id,J0 id⟩
def Hv (id:Nat) {α:Type} (enc:α→List V) (d:α) (l:List α) (st:St):St×Prop:=match st.heap[id]? with
 | some (.arrD E sz n _ cell)=>(⟨st.env,st.heap.set id (.arr E sz enc d l)⟩,l.length=n∧(∀x∈l,(enc x).length=sz)∧∀i j,i<n→j<sz→cell i j=kX enc d l i j)
 | _=>(st,False)
theorem J1 (id:Nat) {α:Type} (enc:α→List V) (d:α) (l:List α) (st:St) (hp:(Hv id enc d l st).2):Gh st (Hv id enc d l st).1:=fun C S μ a w h=>by
 unfold Hv at hp ⊢
 split
 ·rename_i E sz n gs cell hb
  rw[hb]at hp
  obtain⟨rfl,p1,p2⟩:=hp
  refine⟨S,μ,h.boxTo2 hb rfl ?_⟩
  obtain⟨r0,xs,r1,r2⟩:=h.heap.box id _ hb
  refine⟨fun i x hx=>p1 x (PM hx),xs,r1,fun i x j y hx hy=>?_⟩
  have hi:=(Pf.1 hx).1
  have hj:=(Pf.1 hy).1
  rw[p1 x (PM hx)]at hj
  obtain⟨z,hz,_,hr⟩:=r2 i j hi hj
  rw[p2 i j hi hj]at hr
  have hx0:l.getD i d=x:=by rw[P4,hx];rfl
  unfold kX at hr
  rw[hx0,P4,hy]at hr
  exact⟨z,hz,bn hr⟩
 ·rename_i hn
  split at hp
  ·rename_i E sz n gs cell hb;exact(hn _ _ _ _ _ hb).elim
  ·exact hp.elim
def OO (id:Nat) {α:Type} (enc:α→List V) (d:α) (l:List α):Ht:=⟨Hv id enc d l,J1 id enc d l⟩
def Hw (id n':Nat) (TC:List Nat) (Rv:Nat→Nat→D) (st:St):St×Prop:=match st.heap[id]? with
 | some (.arrD E sz n gs cell)=>(⟨st.env,st.heap.set id (.arrD E sz n' TC Rv)⟩,n'=n∧∀i j,i<n'→j<sz→Rv i j=cell i j∧∀k,TC.all (fun g=>!(Nat.beq g k))=true→(Rv i j).free k=true)
 | _=>(st,False)
theorem J2 (id n':Nat) (TC:List Nat) (Rv:Nat→Nat→D) (st:St) (hp:(Hw id n' TC Rv st).2):Gh st (Hw id n' TC Rv st).1:=fun C S μ a w h=>by
 unfold Hw at hp ⊢
 split
 ·rename_i E sz n gs cell hb
  rw[hb]at hp
  obtain⟨rfl,hp⟩:=hp
  refine⟨S,μ,h.boxTo2 hb rfl ?_⟩
  obtain⟨r0,xs,r1,r2⟩:=h.heap.box id _ hb
  refine⟨fun i j k hi hj hk=>(hp i j hi hj).2 k hk,xs,r1,fun i j hi hj=>?_⟩
  rw[(hp i j hi hj).1]
  exact r2 i j hi hj
 ·rename_i hn
  split at hp
  ·rename_i E sz n gs cell hb;exact(hn _ _ _ _ _ hb).elim
  ·exact hp.elim
def wL (id n':Nat) (TC:List Nat) (Rv:Nat→Nat→D):Ht:=⟨Hw id n' TC Rv,J2 id n' TC Rv⟩
def Hx (g m':Nat) (f':Nat→oZ) (st:St):St×Prop:=match st.heap[g]? with
 | some (.grp m f)=>(⟨st.env,st.heap.set g (.grp m' f')⟩,m'=m∧∀k,k<m'→f' k=f k)
 | _=>(st,False)
theorem J3 (g m':Nat) (f':Nat→oZ) (st:St) (hp:(Hx g m' f' st).2):Gh st (Hx g m' f' st).1:=fun C S μ a w h=>by
 unfold Hx at hp ⊢
 split
 ·rename_i m f hb
  rw[hb]at hp
  obtain⟨rfl,hp⟩:=hp
  refine⟨S,μ,h.boxTo2 hb rfl ?_⟩
  obtain⟨us,h0,h1,h2,h3⟩:=h.heap.box g _ hb
  refine⟨us,h0,h1,fun r v hv=>?_,h3⟩
  have hr:=(Px.1 hv).1
  rw[hp r (by omega)]
  exact h2 r v hv
 ·rename_i hn
  split at hp
  ·rename_i m f hb;exact(hn _ _ hb).elim
  ·exact hp.elim
def Jj (g m':Nat) (f':Nat→oZ):Ht:=⟨Hx g m' f',J3 g m' f'⟩
def BA (f:Nat→oZ) (st:St):St×Prop:=if bO st.heap.length st.env&&bL st.heap.length st.heap then (⟨st.env,st.heap++[.grp 0 f]⟩,True)else (st,False)
theorem Hy (f:Nat→oZ) (st:St) (hp:(BA f st).2):Gh st (BA f st).1:=fun C S μ a w h=>by
 unfold BA at hp ⊢
 split
 ·rename_i hc
  simp only[Pg]at hc
  have:=h.upd0 (id:=st.heap.length) (B:=.grp 0 f) (row:=none) (u:=.tuple #[]) (oD w) (fun k hk=>by cases hk) (Pl _)
   ⟨#[],rfl,rfl,fun r v hv=>by simp at hv,fun r r' v v' b hv=>by simp at hv⟩ (fun b hb=>by
    rcases hb with hb | ⟨us,e,k,x,hk,_⟩
    ·cases hb
    ·cases e;simp at hk) (.inr hc)
  rw[show bD st.heap st.heap.length (.grp 0 f)=st.heap++[.grp 0 f]from by simp[bD]]at this
  exact⟨_,_,this⟩
 ·rename_i hc
  rw[Pj hc]at hp
  exact hp.elim
def Na (f:Nat→oZ):Ht:=⟨BA f,Hy f⟩
def ye (g r q:Nat) (c c':D):Prop:=(c=.gr g r∧c'=.own q)∨(c'=c∧((∃r',c=.gr g r'∧r'≠r)∨(∃x,c=.v x)∨(c=.nils)∨∃p,c=.own p∧p≠q∧p≠g))
def oZ.box (x:oZ):ax:=.arr x.E x.sz x.enc x.d x.l
def qp (x:oZ):oZ:=⟨x.E,x.sz,x.α,x.enc,x.d,[]⟩
def rE (f:Nat→oZ) (r:Nat) (x:oZ):Nat→oZ:=fun i=>if i=r then x else f i
def BB (a g r:Nat) (Rv:Nat→Nat→D) (st:St):St×Prop:=match st.heap[a]?,st.heap[g]? with
 | some (.arrD E sz n gs cell),some (.grp m f) =>
  if bO st.heap.length st.env&&bL st.heap.length st.heap then
   (⟨kU g st.env,(((cj g st.heap).set a (.arrD E sz n (st.heap.length::gs) Rv)).set g (.grp m (rE f r (qp (f r)))))++[(f r).box]⟩,
    r<m∧∀i j,i<n→j<sz→ye g r st.heap.length (cell i j) (Rv i j))
  else (st,False)
 | _,_=>(st,False)
theorem E3 (S:Nat→Prop) (w:World) (x:oZ):p6 S w (.slice none 0 0) (qp x) :=
 ⟨fun i y hy=>(List.not_mem_nil (PM (show([]:List x.α)[i]?=some y from hy))).elim,[],QC w 0 _ _,fun i z j y hz=>(List.not_mem_nil (PM (show([]:List x.α)[i]?=some z from hz))).elim⟩
theorem ao.two {d:D} {u x y:Value} {g q:Nat} (h:ao S μ w d u) (hq:D.free q d=true):ao S (a7 (a7 μ q x) g y) w (Proofs.Ytnlmlkbaflmgcaa.killD g d) u:=by
 have h1:ao S (a7 μ q x) w d u:=h.stable (fun _ h _=>h) (fun _ _ _=>rfl) (Pl _) (fun id RE=>aL _ _ (fun e=>by rw[e,hq]at RE;cases RE))
 exact(h1.killD (id:=g)).stable (fun _ h _=>h) (fun _ _ _=>rfl) (Pl _) (fun id RE=>aL _ _ (fun e=>by rw[e,j6]at RE;cases RE))
theorem vt (g:Nat) (B:ax):ax.free g (B.kill g)=true:=by
 have:=j8 g [B]
 simp only[cj,bL,Bool.and_true]at this
 exact this
theorem aJ.two {B:ax} {u x y:Value} {g q:Nat} (h:aJ S μ w u B) (hq:ax.free q B=true):aJ S (a7 (a7 μ q x) g y) w u (B.kill g):=by
 have h1:aJ S (a7 μ q x) w u B:=h.stable (fun _ h _=>h) (fun _ _ _=>rfl) (Pl _) (fun id RE=>aL _ _ (fun e=>by rw[e,hq]at RE;cases RE)) (fun _ _=>rfl)
 exact(h1.kill (id:=g)).stable (fun _ h _=>h) (fun _ _ _=>rfl) (Pl _) (fun id RE=>aL _ _ (fun e=>by rw[e,vt]at RE;cases RE)) (fun _ _=>rfl)
theorem Af {g r:Nat} {u:Value} (h:ao S μ w (.gr g r) u):∃us:Array Value,μ g=.tuple us∧us[r]?=some u∧u.oneCell'=true:=by
 cases h with
 | gr _ _ us _ h1 h2 h3=>exact⟨us,h1,h2,h3⟩
theorem E4 {H:List ax} {g a i:Nat} {A G X B:ax} (ha:a<H.length) (hg:g<H.length) (h:(((cj g H).set a A).set g G++[X])[i]?=some B) :
  (i=H.length∧B=X)∨(i=g∧B=G)∨(i=a∧i≠g∧B=A)∨(i≠H.length∧i≠g∧i≠a∧∃B0,H[i]?=some B0∧B=B0.kill g):=by
 have hl:(((cj g H).set a A).set g G).length=H.length:=by rw[PO,PO,cb]
 by_cases hi:i<H.length
 ·rw[Pw (by omega)]at h
  refine .inr ?_
  by_cases e1:i=g
  ·subst e1
   rw[PB (by rw[PO,cb];exact hg)]at h
   cases h
   exact .inl ⟨rfl,rfl⟩
  ·rw[PA (fun e=>e1 e.symm)]at h
   refine .inr ?_
   by_cases e2:i=a
   ·subst e2
    rw[PB (by rw[cb];exact ha)]at h
    cases h
    exact .inl ⟨rfl,e1,rfl⟩
   ·rw[PA (fun e=>e2 e.symm),fO]at h
    cases hc:H[i]? with
    | none=>rw[hc]at h;cases h
    | some B0=>rw[hc]at h;simp at h;exact .inr ⟨by omega,e1,e2,B0,rfl,h.symm⟩
 ·rw[Pz (by omega),hl]at h
  have:i=H.length:=by
   have:=(Pf.1 h).1
   simp at this
   omega
  subst this
  simp at h
  exact .inl ⟨rfl,h.symm⟩
theorem Hz (a g r:Nat) (Rv:Nat→Nat→D) (st:St) (hp:(BB a g r Rv st).2):Gh st (BB a g r Rv st).1:=fun C S μ act w h=>by
 unfold BB at hp ⊢
 split
 rotate_left
 ·rename_i hn
  split at hp
  ·rename_i E sz n gs cell m f h1 h2;exact(hn _ _ _ _ _ _ _ h1 h2).elim
  ·exact hp.elim
 rename_i E sz n gs cell m f UQ Th
 rw[UQ,Th]at hp
 split
 rotate_left
 ·rename_i hc;simp only at hp;rw[Pj hc]at hp;exact hp.elim
 rename_i hc
 simp only at hp
 rw[Pn hc]at hp
 simp only[Pg]at hc
 obtain⟨fE,fH⟩:=hc
 obtain⟨hr,Sq⟩:=hp
 generalize hq:st.heap.length=q at *
 have hag:a≠g:=fun e=>by rw[e,Th]at UQ;cases UQ
 have Sb:a<q:=by rw[← hq];exact(Pf.1 UQ).1
 have hgl:g<q:=by rw[← hq];exact(Pf.1 Th).1
 obtain⟨us,RU,RB,RS,V0⟩:=h.heap.box g _ Th
 obtain⟨a0,xs,a1,a2⟩:=h.heap.box a _ UQ
 have WJ:r<us.size:=by omega
 obtain⟨TK,hRr⟩:=RS r us[r] (PJ WJ)
 generalize hv:us[r]=v at *
 have hvr:us[r]?=some v:=by rw[PJ WJ,hv]
 let SW:=us.setIfInBounds r (.slice none 0 0)
 have TZ:∀k,SW[k]?=if k=r then some (.slice none 0 0)else us[k]?:=by
  intro k
  by_cases hk:k=r
  ·subst hk;rw[Pn rfl];simp[SW,WJ]
  ·rw[Pj hk];simp only[SW];exact Qg (fun e=>hk e.symm)
 have ST:∀(i:Nat) (B:ax),((((cj g st.heap).set a (.arrD E sz n (q::gs) Rv)).set g (.grp m (rE f r (qp (f r)))))++[(f r).box])[i]?=some B→_:=fun i B hB=>E4 (by rw[hq];exact Sb) (by rw[hq];exact hgl) hB
 rw[hq]at ST
 have mq:a7 (a7 μ q v) g (.tuple SW) q=v:=by rw[aL _ _ (by omega),az]
 have mg:a7 (a7 μ q v) g (.tuple SW) g=.tuple SW:=az _ _ _
 have mo:∀i,i≠g→i≠q→a7 (a7 μ q v) g (.tuple SW) i=μ i:=fun i h1 h2=>by rw[aL _ _ h1,aL _ _ h2]
 have own:∀(i:Nat) (B:ax) (b:Nat),((((cj g st.heap).set a (.arrD E sz n (q::gs) Rv)).set g (.grp m (rE f r (qp (f r)))))++[(f r).box])[i]?=some B→B.live=true→bI (a7 (a7 μ q v) g (.tuple SW) i) b →
   (i=q∧aM v=some b)∨(i=g∧∃k x,k≠r∧us[k]?=some x∧aM x=some b)∨(i≠q∧i≠g∧∃A,st.heap[i]?=some A∧A.live=true∧bI (μ i) b):=by
  intro i B b hB hl hb
  rcases ST i B hB with ⟨rfl,rfl⟩ | ⟨rfl,rfl⟩ | ⟨rfl,Sm,rfl⟩ | ⟨h1,h2,h3,B0,TD,rfl⟩
  ·rw[mq]at hb
   exact .inl ⟨rfl,hb.bl TK⟩
  ·rw[mg]at hb
   rcases hb with hb | ⟨us2,e,k,x,hk,hx⟩
   ·cases hb
   ·cases e
    rw[TZ]at hk
    split at hk
    ·cases hk;cases hx
    ·rename_i hkr;exact .inr (.inl ⟨rfl,k,x,hkr,hk,hx⟩)
  ·rw[mo i Sm (by omega)]at hb
   exact .inr (.inr ⟨by omega,Sm,_,UQ,rfl,hb⟩)
  ·rw[mo i h2 h1]at hb
   rw[fP]at hl
   exact .inr (.inr ⟨h1,h2,B0,TD,hl,hb⟩)
 have VE:∀(k:Nat) (x:Value) (b:Nat),us[k]?=some x→aM x=some b→bI (μ g) b:=fun k x b hk hx=>.inr ⟨us,RU,k,x,hk,hx⟩
 refine⟨S,a7 (a7 μ q v) g (.tuple SW),h.retell ?_ ?_ ?_ ?_ ?_⟩
 ·intro t d hm
  obtain⟨e,he,rfl⟩:=fN hm
  exact⟨e,he,fun u hu=>hu.two (dy fE he)⟩
 ·intro i B hB
  rcases ST i B hB with ⟨rfl,rfl⟩ | ⟨rfl,rfl⟩ | ⟨rfl,Sm,rfl⟩ | ⟨h1,h2,h3,B0,TD,rfl⟩
  ·rw[mq];exact hRr
  ·rw[mg]
   refine⟨SW,rfl,by simp[SW,RB],fun k x hk=>?_,fun k k' x x' b hk Si hx TL=>?_⟩
   ·rw[TZ]at hk
    split at hk
    ·rename_i e
     cases hk
     subst e
     refine⟨rfl,?_⟩
     rw[show rE f k (qp (f k)) k=qp (f k)from Pn rfl]
     exact E3 S w (f k)
    ·rename_i e
     rw[show rE f r (qp (f r)) k=f k from Pj e]
     exact RS k x hk
   ·rw[TZ]at hk Si
    split at hk
    ·cases hk;cases hx
    ·split at Si
     ·cases Si;cases TL
     ·exact V0 k k' x x' b hk Si hx TL
  ·rw[mo i Sm (by omega)]
   refine⟨fun j k id hj hk RE=>?_,xs,a1,fun j k hj hk=>?_⟩
   ·simp only[Rn,Pg]at RE
    rcases Sq j k hj hk with ⟨_,e⟩ | ⟨e,_⟩
    ·rw[e];exact RE.1
    ·rw[e];exact a0 j k id hj hk RE.2
   ·obtain⟨z,hz,ho,hd⟩:=a2 j k hj hk
    refine⟨z,hz,ho,?_⟩
    rcases Sq j k hj hk with ⟨e1,e2⟩ | ⟨e,hc⟩
    ·rw[e1]at hd
     obtain⟨us2,g1,g2,_⟩:=Af hd
     rw[RU]at g1
     cases g1
     rw[hvr]at g2
     cases g2
     rw[e2]
     have:=ao.own (S:=S) (μ:=a7 (a7 μ q v) g (.tuple SW)) (w:=w) q
     rwa [mq]at this
    ·rw[e]
     rcases hc with ⟨r',e1,e2⟩ | ⟨x,e1⟩ | e1 | ⟨p,e1,e2,e3⟩
     ·rw[e1]at hd ⊢
      obtain⟨us2,g1,g2,g3⟩:=Af hd
      rw[RU]at g1
      cases g1
      exact .gr g r' SW z mg (by rw[TZ,Pj e2];exact g2) g3
     ·rw[e1]at hd ⊢
      exact .v _ _ (bn hd)
     ·rw[e1]at hd ⊢
      cases hd
      exact .nils
     ·rw[e1]at hd ⊢
      have hu:=bA hd
      have:=ao.own (S:=S) (μ:=a7 (a7 μ q v) g (.tuple SW)) (w:=w) p
      rw[mo p e3 e2]at this
      rw[hu]
      exact this
  ·rw[mo i h2 h1]
   exact(h.heap.box i B0 TD).two (cX fH TD)
 ·intro i B b hB hl hb
  rcases own i B b hB hl hb with ⟨rfl,hv'⟩ | ⟨rfl,k,x,_,hk,hx⟩ | ⟨_,_,A,hA,Vz,hb⟩
  ·exact⟨g,_,Th,rfl,VE r v b hvr hv'⟩
  ·exact⟨i,_,Th,rfl,VE k x b hk hx⟩
  ·exact⟨i,A,hA,Vz,hb⟩
 ·intro i j A B b hA hB lA lB VD hbj
  rcases own i A b hA lA VD with ⟨rfl,TW⟩ | ⟨rfl,k,x,hkr,hk,hx⟩ | ⟨n1,n2,A0,hA0,Ts,VF⟩<;>rcases own j B b hB lB hbj with ⟨rfl,Ul⟩ | ⟨rfl,k',x',hkr',Si,TL⟩ | ⟨n3,n4,B0,TD,UR,US⟩
  ·rfl
  ·exact(hkr' (V0 r k' v x' b hvr Si TW TL).symm).elim
  ·exact(n4 (h.heap.apart j g B0 _ b TD Th UR rfl US (VE r v b hvr TW))).elim
  ·exact(hkr (V0 k r x v b hk hvr hx Ul)).elim
  ·rfl
  ·exact(n4 (h.heap.apart j i B0 _ b TD Th UR rfl US (VE k x b hk hx))).elim
  ·exact(n2 (h.heap.apart i g A0 _ b hA0 Th Ts rfl VF (VE r v b hvr Ul))).elim
  ·exact(n2 (h.heap.apart i j A0 _ b hA0 Th Ts rfl VF (VE k' x' b Si TL))).elim
  ·exact h.heap.apart i j A0 B0 b hA0 TD Ts UR VF US
 ·intro i B hB S4
  rcases ST i B hB with ⟨rfl,rfl⟩ | ⟨rfl,rfl⟩ | ⟨rfl,Sm,rfl⟩ | ⟨h1,h2,h3,B0,TD,rfl⟩
  ·cases S4
  ·cases S4
  ·cases S4
  ·rw[rQ]at S4
   rw[show B0.kill g=B0 from by cases B0<;>first | rfl | cases S4]
   exact⟨TD,mo i h2 h1⟩
def take (a g r:Nat) (Rv:Nat→Nat→D):Ht:=⟨BB a g r Rv,Hz a g r Rv⟩
def Ag (g r q:Nat) (c c':D):Prop:=(c=.own q∧c'=.gr g r)∨(c'=c∧((∃r',c=.gr g r'∧r'≠r)∨(∃x,c=.v x)∨(c=.nils)∨∃p,c=.own p∧p≠q∧p≠g))
def HA (a g q r m':Nat) (Rv:Nat→Nat→D) (f':Nat→oZ) (st:St):St×Prop:=match st.heap[a]?,st.heap[g]?,st.heap[q]? with
 | some (.arrD E sz n gs cell),some (.grp m f),some (.arr E2 Vb enc d l) =>
   (⟨kU q (kU g st.env),(((cj q (cj g st.heap)).set a (.arrD E sz n (g::gs) Rv)).set g (.grp m' f')).set q .dead⟩,
    r≤m∧m'=max m (r+1)∧(∀k,k<m'→f' k=if k=r then ⟨E2,Vb,_,enc,d,l⟩else f k)∧∀i j,i<n→j<sz→Ag g r q (cell i j) (Rv i j))
 | _,_,_=>(st,False)
theorem E5 {H:List ax} {q g a i:Nat} {A G B:ax} (ha:a<H.length) (hg:g<H.length) (hq:q<H.length) (h:((((cj q (cj g H)).set a A).set g G).set q .dead)[i]?=some B) :
  (i=q∧B=.dead)∨(i=g∧i≠q∧B=G)∨(i=a∧i≠g∧i≠q∧B=A)∨(i≠q∧i≠g∧i≠a∧∃B0,H[i]?=some B0∧B=(B0.kill g).kill q):=by
 by_cases e0:i=q
 ·subst e0
  rw[PB (by simp only[PO,cb];exact hq)]at h
  cases h
  exact .inl ⟨rfl,rfl⟩
 ·rw[PA (fun e=>e0 e.symm)]at h
  refine .inr ?_
  by_cases e1:i=g
  ·subst e1
   rw[PB (by simp only[PO,cb];exact hg)]at h
   cases h
   exact .inl ⟨rfl,e0,rfl⟩
  ·rw[PA (fun e=>e1 e.symm)]at h
   refine .inr ?_
   by_cases e2:i=a
   ·subst e2
    rw[PB (by simp only[cb];exact ha)]at h
    cases h
    exact .inl ⟨rfl,e1,e0,rfl⟩
   ·rw[PA (fun e=>e2 e.symm),fO,fO]at h
    cases hc:H[i]? with
    | none=>rw[hc]at h;cases h
    | some B0=>rw[hc]at h;simp at h;exact .inr ⟨e0,e1,e2,B0,rfl,h.symm⟩
theorem J4 (a g q r m':Nat) (Rv:Nat→Nat→D) (f':Nat→oZ) (st:St) (hp:(HA a g q r m' Rv f' st).2):Gh st (HA a g q r m' Rv f' st).1:=fun C S μ act w h=>by
 unfold HA at hp ⊢
 split
 rotate_left
 ·rename_i hn
  split at hp
  ·rename_i E sz n gs cell m f E2 Vb α enc d l h1 h2 h3;exact(hn _ _ _ _ _ _ _ _ _ _ _ _ _ h1 h2 h3).elim
  ·exact hp.elim
 rename_i E sz n gs cell m f E2 Vb α enc d l UQ Th hbq
 rw[UQ,Th,hbq]at hp
 obtain⟨hr,rfl,hf',Sq⟩:=hp
 have hag:a≠g:=fun e=>by rw[e,Th]at UQ;cases UQ
 have haq:a≠q:=fun e=>by rw[e,hbq]at UQ;cases UQ
 have hgq:g≠q:=fun e=>by rw[e,hbq]at Th;cases Th
 have Sb:=(Pf.1 UQ).1
 have hgl:=(Pf.1 Th).1
 have UF:=(Pf.1 hbq).1
 obtain⟨us,RU,RB,RS,V0⟩:=h.heap.box g _ Th
 obtain⟨a0,xs,a1,a2⟩:=h.heap.box a _ UQ
 have hB:=h.heap.box q _ hbq
 have TK:(μ q).oneCell'=true:=by
  obtain⟨p',c',hm,_⟩:=bN hB
  rw[hm]
  rfl
 obtain⟨SW,WK,TZ⟩:∃SW:Array Value,SW.size=max m (r+1)∧∀k,SW[k]?=if k=r then some (μ q)else us[k]?:=by
  by_cases Ur:r<m
  ·refine⟨us.setIfInBounds r (μ q),by rw[Array.size_setIfInBounds];omega,fun k=>?_⟩
   by_cases hk:k=r
   ·subst hk;rw[Pn rfl];simp[RB,Ur]
   ·rw[Pj hk];exact Qg (fun e=>hk e.symm)
  ·refine⟨us.push (μ q),by rw[Array.size_push];omega,fun k=>?_⟩
   have hrm':r=us.size:=by omega
   rw[Array.getElem?_push]
   by_cases hk:k=r
   ·rw[Pn hk,Pn (by omega)]
   ·rw[Pj hk,Pj (by omega)]
 have ST:∀(i:Nat) (B:ax),((((cj q (cj g st.heap)).set a (.arrD E sz n (g::gs) Rv)).set g (.grp (max m (r+1)) f')).set q .dead)[i]?=some B→_:=fun i B hB=>E5 Sb hgl UF hB
 have mg:a7 μ g (.tuple SW) g=.tuple SW:=az _ _ _
 have mo:∀i,i≠g→a7 μ g (.tuple SW) i=μ i:=fun i h1=>aL _ _ h1
 have own:∀(i:Nat) (B:ax) (b:Nat),((((cj q (cj g st.heap)).set a (.arrD E sz n (g::gs) Rv)).set g (.grp (max m (r+1)) f')).set q .dead)[i]?=some B→B.live=true→bI (a7 μ g (.tuple SW) i) b →
   (i=g∧aM (μ q)=some b)∨(i=g∧∃k x,k≠r∧us[k]?=some x∧aM x=some b)∨(i≠q∧i≠g∧∃A,st.heap[i]?=some A∧A.live=true∧bI (μ i) b):=by
  intro i B b hB hl hb
  rcases ST i B hB with ⟨rfl,rfl⟩ | ⟨rfl,Sm,rfl⟩ | ⟨rfl,Sm,hne2,rfl⟩ | ⟨h1,h2,h3,B0,TD,rfl⟩
  ·cases hl
  ·rw[mg]at hb
   rcases hb with hb | ⟨us2,e,k,x,hk,hx⟩
   ·cases hb
   ·cases e
    rw[TZ]at hk
    split at hk
    ·cases hk;exact .inl ⟨rfl,hx⟩
    ·rename_i hkr;exact .inr (.inl ⟨rfl,k,x,hkr,hk,hx⟩)
  ·rw[mo i Sm]at hb
   exact .inr (.inr ⟨hne2,Sm,_,UQ,rfl,hb⟩)
  ·rw[mo i h2]at hb
   rw[fP,fP]at hl
   exact .inr (.inr ⟨h1,h2,B0,TD,hl,hb⟩)
 have VE:∀(k:Nat) (x:Value) (b:Nat),us[k]?=some x→aM x=some b→bI (μ g) b:=fun k x b hk hx=>.inr ⟨us,RU,k,x,hk,hx⟩
 refine⟨S,a7 μ g (.tuple SW),h.retell ?_ ?_ ?_ ?_ ?_⟩
 ·intro t d hm
  obtain⟨e,he,rfl⟩:=fN hm
  obtain⟨e',U6,rfl⟩:=fN he
  exact⟨e',U6,fun u hu=>((hu.killD (id:=g)).stable (fun _ h _=>h) (fun _ _ _=>rfl) (Pl _) (fun id RE=>aL _ _ (fun e=>by rw[e,j6]at RE;cases RE))).killD⟩
 ·intro i B hBi
  rcases ST i B hBi with ⟨rfl,rfl⟩ | ⟨rfl,Sm,rfl⟩ | ⟨rfl,Sm,hne2,rfl⟩ | ⟨h1,h2,h3,B0,TD,rfl⟩
  ·trivial
  ·rw[mg]
   refine⟨SW,rfl,WK,fun k x hk=>?_,fun k k' x x' b hk Si hx TL=>?_⟩
   ·rw[TZ]at hk
    split at hk
    ·rename_i e
     cases hk
     subst e
     refine⟨TK,?_⟩
     rw[hf' k (by omega),Pn rfl]
     exact hB
    ·rename_i e
     have Sw:=(Px.1 hk).1
     rw[hf' k (by omega),Pj e]
     exact RS k x hk
   ·rw[TZ]at hk Si
    split at hk
    ·rename_i e1
     split at Si
     ·rename_i e2;rw[e1,e2]
     ·cases hk;exact(hgq (h.heap.apart i q _ _ b Th hbq rfl rfl (VE k' x' b Si TL) (.inl hx))).elim
    ·split at Si
     ·cases Si;exact(hgq (h.heap.apart i q _ _ b Th hbq rfl rfl (VE k x b hk hx) (.inl TL))).elim
     ·exact V0 k k' x x' b hk Si hx TL
  ·rw[mo i Sm]
   refine⟨fun j k id hj hk RE=>?_,xs,a1,fun j k hj hk=>?_⟩
   ·simp only[Rn,Pg]at RE
    rcases Sq j k hj hk with ⟨_,e⟩ | ⟨e,_⟩
    ·rw[e];exact RE.1
    ·rw[e];exact a0 j k id hj hk RE.2
   ·obtain⟨z,hz,ho,hd⟩:=a2 j k hj hk
    refine⟨z,hz,ho,?_⟩
    rcases Sq j k hj hk with ⟨e1,e2⟩ | ⟨e,hc⟩
    ·rw[e1]at hd
     have hu:=bA hd
     rw[e2]
     exact .gr g r SW z mg (by rw[TZ,Pn rfl,hu]) ho
    ·rw[e]
     rcases hc with ⟨r',e1,e2⟩ | ⟨x,e1⟩ | e1 | ⟨p,e1,e2,e3⟩
     ·rw[e1]at hd ⊢
      obtain⟨us2,g1,g2,g3⟩:=Af hd
      rw[RU]at g1
      cases g1
      exact .gr g r' SW z mg (by rw[TZ,Pj e2];exact g2) g3
     ·rw[e1]at hd ⊢
      exact .v _ _ (bn hd)
     ·rw[e1]at hd ⊢
      cases hd
      exact .nils
     ·rw[e1]at hd ⊢
      have hu:=bA hd
      have:=ao.own (S:=S) (μ:=a7 μ g (.tuple SW)) (w:=w) p
      rw[mo p e3]at this
      rw[hu]
      exact this
  ·rw[mo i h2]
   exact(((h.heap.box i B0 TD).kill (id:=g)).stable (fun _ h _=>h) (fun _ _ _=>rfl) (Pl _) (fun id RE=>aL _ _ (fun e=>by rw[e,vt]at RE;cases RE)) (fun _ _=>rfl)).kill
 ·intro i B b hBi hl hb
  rcases own i B b hBi hl hb with ⟨rfl,hv'⟩ | ⟨rfl,k,x,_,hk,hx⟩ | ⟨_,_,A,hA,Vz,hb⟩
  ·exact⟨q,_,hbq,rfl,.inl hv'⟩
  ·exact⟨i,_,Th,rfl,VE k x b hk hx⟩
  ·exact⟨i,A,hA,Vz,hb⟩
 ·intro i j A B b hA hBj lA lB VD hbj
  rcases own i A b hA lA VD with ⟨rfl,TW⟩ | ⟨rfl,k,x,hkr,hk,hx⟩ | ⟨n1,n2,A0,hA0,Ts,VF⟩<;>rcases own j B b hBj lB hbj with ⟨rfl,Ul⟩ | ⟨rfl,k',x',hkr',Si,TL⟩ | ⟨n3,n4,B0,TD,UR,US⟩<;>first | rfl | skip
  ·exact(n3 (h.heap.apart j q B0 _ b TD hbq UR rfl US (.inl TW))).elim
  ·exact(n4 (h.heap.apart j i B0 _ b TD Th UR rfl US (VE k x b hk hx))).elim
  ·exact(n1 (h.heap.apart i q A0 _ b hA0 hbq Ts rfl VF (.inl Ul))).elim
  ·exact(n2 (h.heap.apart i j A0 _ b hA0 Th Ts rfl VF (VE k' x' b Si TL))).elim
  ·exact h.heap.apart i j A0 B0 b hA0 TD Ts UR VF US
 ·intro i B hBi S4
  rcases ST i B hBi with ⟨rfl,rfl⟩ | ⟨rfl,Sm,rfl⟩ | ⟨rfl,Sm,hne2,rfl⟩ | ⟨h1,h2,h3,B0,TD,rfl⟩
  ·cases S4
  ·cases S4
  ·cases S4
  ·rw[rQ,rQ]at S4
   rw[show(B0.kill g).kill q=B0 from by cases B0<;>first | rfl | cases S4]
   exact⟨TD,mo i h2⟩
def put (a g q r m':Nat) (Rv:Nat→Nat→D) (f':Nat→oZ):Ht:=⟨HA a g q r m' Rv f',J4 a g q r m' Rv f'⟩
def wM (id:Nat) (B':ax) (st:St):St×Prop:=match st.heap[id]? with
 | some B=>(⟨st.env,st.heap.set id B'⟩,B'=B)
 | none=>(st,False)
theorem E6 (id:Nat) (B':ax) (st:St) (hp:(wM id B' st).2):Gh st (wM id B' st).1:=fun C S μ a w h=>by
 unfold wM at hp ⊢
 split
 ·rename_i B hb
  rw[hb]at hp
  have e:st.heap.set id B'=st.heap:=by
   refine List.ext_getElem? (fun j=>?_)
   rw[Q4]
   by_cases hj:id=j
   ·subst hj
    rw[Pn rfl,Pn (Pf.1 hb).1,hb,show B'=B from hp]
   ·rw[Pj hj]
  rw[e]
  exact⟨S,μ,h⟩
 ·rename_i hn
  rw[hn]at hp
  exact hp.elim
def Jk (id:Nat) (B':ax):Ht:=⟨wM id B',E6 id B'⟩
end
structure Lp (σ:Type):Type 1 where
 make ::
 keep:List Nat
 n:Nat
 all:(σ→Prop)→Prop
 hall:∀P,all P→∀s,P s
 mk:σ→St
 inv:σ→Prop
 m:σ→Nat
abbrev iC {α:Type} (keep:List Nat) (n:Nat) (mk:α→St) (inv:α→Prop) (m:α→Nat):Lp α:=⟨keep,n,fun P=>∀a,P a,fun _ h=>h,mk,inv,m⟩
abbrev o0 {α β:Type} (keep:List Nat) (n:Nat) (mk:α→β→St) (inv:α→β→Prop) (m:α→β→Nat):Lp (α×β) :=
 ⟨keep,n,fun P=>∀a b,P (a,b),fun _ h ⟨a,b⟩=>h a b,fun | (a,b)=>mk a b,fun | (a,b)=>inv a b,fun | (a,b)=>m a b⟩
abbrev M1 {α β γ:Type} (keep:List Nat) (n:Nat) (mk:α→β→γ→St) (inv:α→β→γ→Prop) (m:α→β→γ→Nat):Lp (α×β×γ) :=
 ⟨keep,n,fun P=>∀a b c,P (a,b,c),fun _ h ⟨a,b,c⟩=>h a b c,fun | (a,b,c)=>mk a b c,fun | (a,b,c)=>inv a b c,fun | (a,b,c)=>m a b c⟩
abbrev OP {α β γ δ:Type} (keep:List Nat) (n:Nat) (mk:α→β→γ→δ→St) (inv:α→β→γ→δ→Prop) (m:α→β→γ→δ→Nat):Lp (α×β×γ×δ) :=
 ⟨keep,n,fun P=>∀a b c d,P (a,b,c,d),fun _ h ⟨a,b,c,d⟩=>h a b c d,fun | (a,b,c,d)=>mk a b c d,fun | (a,b,c,d)=>inv a b c d,fun | (a,b,c,d)=>m a b c d⟩
def Lp.ag {σ:Type} (L:Lp σ) (s:σ) (st:St):Prop:=∃s',st=L.mk s'∧L.inv s'∧L.m s'<L.m s
def Lp.at {σ:Type} (L:Lp σ) (st:St):Prop:=∃s',st=L.mk s'∧L.inv s'
inductive bu:Type 1
 | e
 | w (id:Nat) (o:List (Nat×Ov)) (h:bu)
 | q (id:Nat) (keep:List Nat) (n:Nat) (h:bu)
 | f (id b:Nat) (h:bu)
 | g (id i j E sz:Nat) {α:Type} (enc:α→List V) (d:α) (h:bu)
 | gs (id t E sz:Nat) {α:Type} (enc:α→List V) (d:α) (h:bu)
 | mv (id j i:Nat) (h:bu)
 | s (id:Nat) (P:Prop) (x y:bu)
 | y (id:Nat) (o:List (Nat×Ov)) (tab:ud) (h:bu)
 | c (t:Nat) (P:Prop) [i:Decidable P] (x y:bu)
 | n (t:Nat) (P:Prop) [i:Decidable P] (x y:bu)
 | b (t:Nat) (x y:bu)
 | t (t:Nat) (x:bu)
 | u (t:Nat) (x:bu)
 | l {σ:Type} (L:Lp σ) (s0:σ) (h:σ→bu)
 | r (n:Nat) (h:bu)
 | k (id:Nat) {σ:Type} (L:Lp σ) (x:bu) (h:σ→bu)
 | rg (e:Exit) (st:St) (h:bu)
 | gh (id:Nat) (F:Ht) (h:bu)
def LA (o:Oper):Bool:=match o.op with
 | .store _ _ _=>true
 | .call ⟨.builtin .append,_,_⟩=>true
 | .call ⟨.builtin .copy,_,_⟩=>true
 | _=>false
def LC:Ov→Bool
 | .inl _ _ _=>true
 | .inls _=>true
 | .yld _ _ _=>true
 | _=>false
def LD:Ov→Bool
 | .app _ _ _ _ _ _=>true
 | _=>false
def LF:Ov→Bool
 | .val .junk=>true
 | _=>false
def tn (RI:List (Nat×Ov)):List Nat→Nat→List Oper→Nat
 | _,_,[]=>0
 | rd,i,o::r=>if (LA o&&!(LD (nw RI i)||LF (nw RI i)))||LC (nw RI i)||(match o.dst with | some t=>rd.any (fun s=>Nat.beq t s) | none=>false)then 0 else tn RI (EN o.op++rd) (i+1) r+1
def HB (P:Program) (nt:Nat) (ops:List Oper) (RI:List (Nat×Ov)) (tab:ud) (st:St) (k:St→Prop):Prop :=
 match P.follows .mixedOrders&&ops.all (fun o=>!cF o),eY tab (List.replicate ops.length false),eY tab (List.replicate ops.length true)with
 | true,some V9,some R5=>s7 st V9=V9∧Dv P nt ops RI tab tab∧nS R5 k
 | _,_,_=>False
def ue (id:Nat):bu→St→(List (Nat×Ov)→Option ud→bu→St→Prop)→Prop
 | .w i o h,st,k=>match Nat.beq i id with
  | true=>k o none h st
  | false=>k [] none (.w i o h) st
 | .y i o t h,st,k=>match Nat.beq i id with
  | true=>k o (some t) h st
  | false=>k [] none (.y i o t h) st
 | .q i kp n h,st,k=>match Nat.beq i id with
  | true=>nS (keepS kp n st) (fun L'=>ue id h L' k)
  | false=>k [] none (.q i kp n h) st
 | .f i b h,st,k=>match Nat.beq i id with
  | true=>match md b st with
   | some L'=>nS L' (fun L'=>ue id h L' k)
   | none=>False
  | false=>k [] none (.f i b h) st
 | .g i a j E sz enc d h,st,k=>match Nat.beq i id with
  | true=>match z3 a j E sz enc d st with
   | some L'=>nS L' (fun L'=>ue id h L' k)
   | none=>False
  | false=>k [] none (.g i a j E sz enc d h) st
 | .gs i t E sz enc d h,st,k=>match Nat.beq i id with
  | true=>match adoptE t E sz enc d st with
   | some L'=>nS L' (fun L'=>ue id h L' k)
   | none=>False
  | false=>k [] none (.gs i t E sz enc d h) st
 | .mv i j a h,st,k=>match Nat.beq i id with
  | true=>match Bo j a st with
   | some L'=>nS L' (fun L'=>ue id h L' k)
   | none=>False
  | false=>k [] none (.mv i j a h) st
 | .gh i F h,st,k=>match Nat.beq i id with
  | true=>(F.F st).2∧nS (F.F st).1 (fun L'=>ue id h L' k)
  | false=>k [] none (.gh i F h) st
 | .s i P x y,st,k=>match Nat.beq i id with
  | true=>(P→ue id x st k)∧(¬P→ue id y st k)
  | false=>k [] none (.s i P x y) st
 | h,st,k=>k [] none h st
def LG:Operand→Nat
 | .tmp t=>t+1
 | _=>0
def tp (t:Nat) (b:Bool) (X Y:bu→Prop):bu→Prop
 | @bu.c t' P i x y=>match Nat.beq (t'+1) t with
  | true=>b=@decide P i∧(P→X x)∧(¬P→Y y)
  | false=>match b with | true=>X (@bu.c t' P i x y) | false=>Y (@bu.c t' P i x y)
 | @bu.n t' P i x y=>match Nat.beq (t'+1) t with
  | true=>b=(!@decide P i)∧(¬P→X x)∧(P→Y y)
  | false=>match b with | true=>X (@bu.n t' P i x y) | false=>Y (@bu.n t' P i x y)
 | .b t' x y=>match Nat.beq (t'+1) t with
  | true=>(b=true→X x)∧(b=false→Y y)
  | false=>match b with | true=>X (.b t' x y) | false=>Y (.b t' x y)
 | .t t' x=>match Nat.beq (t'+1) t with
  | true=>b=true∧X x
  | false=>match b with | true=>X (.t t' x) | false=>Y (.t t' x)
 | .u t' x=>match Nat.beq (t'+1) t with
  | true=>b=false∧Y x
  | false=>match b with | true=>X (.u t' x) | false=>Y (.u t' x)
 | h=>match b with | true=>X h | false=>Y h
def E7:Code→Option Nat
 | .region id _ _=>some id
 | .seq a _=>E7 a
 | .block _ a=>E7 a
 | .loop a=>E7 a
 | .cond _ a _=>E7 a
 | _=>none
def LH (x:Code):bu→Bool
 | .k id _ _ _=>match E7 x with | some i=>Nat.beq i id | none=>false
 | _=>false
@[reducible] def kSeq (n:bu→St→Prop) (K:bu→Exit→St→Prop) (h:bu) (e:Exit) (st:St):Prop:=match e with
 | .normal=>n h st
 | e=>K h e st
@[reducible] def kBlock (id:Nat) (K:bu→Exit→St→Prop) (h:bu) (e:Exit) (st:St):Prop:=match e with
 | .exit i=>match Nat.beq i id with | true=>K h .normal st | false=>K h (.exit i) st
 | e=>K h e st
def HC (body:(bu→Exit→St→Prop)→bu→St→Prop) (K:bu→Exit→St→Prop):Nat→bu→St→Prop
 | 0,_,_=>False
 | n+1,h,st=>body (fun h' e L'=>match e with | .normal=>HC body K n h' L' | e=>K h' e L') h st
def HD (P:Program) (nt:Nat) (c:Code) (st:St) (e:Exit) (L':St):Prop:=∀C:li,C.P=P→C.nt=nt→C.rd=none→Ev C c (fun e1 R5=>e1=e∧R5=L') st
def J5:Code→Bool
 | .seq a b=>J5 a&&J5 b
 | .cond _ a b=>J5 a&&J5 b
 | .block _ a=>J5 a
 | .loop a=>J5 a
 | .rangeFunc _ _ _ _=>false
 | _=>true
def vc (P:Program) (nt:Nat):Code→(bu→Exit→St→Prop)→bu→St→Prop
 | .skip,K,h,st=>K h .normal st
 | .label _,K,h,st=>K h .normal st
 | .exit i,K,h,st=>K h (.exit i) st
 | .ret,K,h,st=>K h .ret st
 | .seq x y,K,h,st=>match LH x h with
  | false=>vc P nt x (kSeq (vc P nt y K) K) h st
  | true=>match h with
   | .k _ L hx hy=>vc P nt x (fun h' e L'=>match e with | .normal=>L.at (keepS L.keep L.n L') | e=>K h' e L') hx st∧L.all (fun s=>L.inv s→vc P nt y K (hy s) (L.mk s))
   | _=>False
 | .block i c,K,h,st=>vc P nt c (kBlock i K) h st
 | .cond c x y,K,h,st=>match eE st.env c with
  | .v (.bool b)=>tp (LG c) b (fun h=>vc P nt x K h st) (fun h=>vc P nt y K h st) h
  | _=>False
 | .loop c,K,h,st=>match h with
  | .l L s0 hb=>keepS L.keep L.n st=L.mk s0∧L.inv s0∧L.all (fun s=>L.inv s→vc P nt c (fun h' e L'=>match e with | .normal=>L.ag s (keepS L.keep L.n L') | e=>K h' e L') (hb s) (L.mk s))
  | .r n h=>HC (fun K=>vc P nt c K) K n h st
  | _=>False
 | .region id ops TX,K,h,st=>ue id h st fun o t h st=>match t with
  | some tab=>match TX with
   | true=>match eY tab (List.replicate ops.toList.length false)with
    | some _=>HB P nt ops.toList o tab st (fun st=>K h .normal st)
    | none=>yd P nt ops.toList o (tn o [] 0 ops.toList) tab st (fun st=>K h .normal st)
   | false=>False
  | none=>match TX with
   | false=>wJ P nt ops.toList o 0 ops.toList st (fun st=>nS st (fun st=>K h .normal st))
   | true=>JZ P nt ops.toList o (tn o [] 0 ops.toList) st (fun st=>nS st (fun st=>K h .normal st))
 | .rangeFunc g ps asg bd,K,h,st=>match h with
  | .rg e L' h'=>HD P nt (.rangeFunc g ps asg bd) st e L'∧K h' e L'
  | _=>False
 | _,_,_,_=>False
section
variable {C:li} {Q:Exit→St→Prop}
theorem Ev.regA {st L':St} {id:Nat} {ops:List Oper} (RI:List (Nat×Ov)) {p:Prop} (h:cY C.P C.nt ops RI 0 ops st=(L',p)) (hp:p) (hq:Q .normal L'):Ev C (.region id ops.toArray false) Q st:=fun a w S μ hR =>
 wpIn_region_lit (po ops 0 st S μ a w p hR h hp (fun S' μ' a' w' R9=>⟨_,S',μ',hq,R9⟩))
theorem Ev.gh {c:Code} {st L':St} (h:Gh st L') (he:Ev C c Q L'):Ev C c Q st:=fun a w S μ hR=>by
 obtain⟨S',μ',h'⟩:=h C S μ a w hR
 exact he a w S' μ' h'
theorem J6 {id:Nat} {c:Code} {k:List (Nat×Ov)→Option ud→bu→St→Prop} (hk:∀o t h st,k o t h st→Ev C c Q st):∀(h:bu) (st:St),ue id h st k→Ev C c Q st:=by
 intro h
 induction h with
 | w i o h ih=>intro st hp;unfold ue at hp;split at hp<;>exact hk _ _ _ _ hp
 | y i o t h ih=>intro st hp;unfold ue at hp;split at hp<;>exact hk _ _ _ _ hp
 | q i kp n h ih =>
  intro st hp;unfold ue at hp;split at hp
  ·rw[lD]at hp;exact Ev.keep kp n rfl (ih _ hp)
  ·exact hk _ _ _ _ hp
 | f i b h ih =>
  intro st hp;unfold ue at hp;split at hp
  ·split at hp
   ·rename_i L' hf;rw[lD]at hp;exact Ev.freeze b hf (ih _ hp)
   ·exact hp.elim
  ·exact hk _ _ _ _ hp
 | g i a j E sz enc d h ih =>
  intro st hp;unfold ue at hp;split at hp
  ·split at hp
   ·rename_i L' hf;rw[lD]at hp;exact Ev.adopt a j E sz enc d hf (ih _ hp)
   ·exact hp.elim
  ·exact hk _ _ _ _ hp
 | gs i t E sz enc d h ih =>
  intro st hp;unfold ue at hp;split at hp
  ·split at hp
   ·rename_i L' hf;rw[lD]at hp;exact Ev.adoptE t E sz enc d hf (ih _ hp)
   ·exact hp.elim
  ·exact hk _ _ _ _ hp
 | mv i j a h ih =>
  intro st hp;unfold ue at hp;split at hp
  ·split at hp
   ·rename_i L' hf;rw[lD]at hp;exact Ev.move j a hf (ih _ hp)
   ·exact hp.elim
  ·exact hk _ _ _ _ hp
 | gh i F h ih =>
  intro st hp;unfold ue at hp;split at hp
  ·rw[lD]at hp;exact Ev.gh (F.ok st hp.1) (ih _ hp.2)
  ·exact hk _ _ _ _ hp
 | s i P x y ih1 ih2 =>
  intro st hp;unfold ue at hp;split at hp
  ·by_cases hP:P
   ·exact ih1 _ (hp.1 hP)
   ·exact ih2 _ (hp.2 hP)
  ·exact hk _ _ _ _ hp
 | _=>intro st hp;unfold ue at hp;exact hk _ _ _ _ hp
theorem ig {b:Bool} {X Y:bu→Prop} (h:bu) (hh:match b with | true=>X h | false=>Y h):(b=true→∃h',X h')∧(b=false→∃h',Y h'):=by
 cases b
 ·exact⟨fun h=>(by cases h),fun _=>⟨_,hh⟩⟩
 ·exact⟨fun _=>⟨_,hh⟩,fun h=>(by cases h)⟩
theorem E8 {t:Nat} {b:Bool} {X Y:bu→Prop} {h:bu} (hc:tp t b X Y h):(b=true→∃h',X h')∧(b=false→∃h',Y h'):=by
 cases h with
 | c t' P x y =>
  simp only[tp]at hc;split at hc
  ·obtain⟨h1,h2,h3⟩:=hc
   subst h1
   exact⟨fun h=>⟨_,h2 (Qt h)⟩,fun h=>⟨_,h3 (of_decide_eq_false h)⟩⟩
  ·exact ig _ hc
 | n t' P x y =>
  simp only[tp]at hc;split at hc
  ·obtain⟨h1,h2,h3⟩:=hc
   subst h1
   exact⟨fun h=>⟨_,h2 (by simpa using h)⟩,fun h=>⟨_,h3 (by simpa using h)⟩⟩
  ·exact ig _ hc
 | b t' x y =>
  simp only[tp]at hc;split at hc
  ·exact⟨fun h=>⟨_,hc.1 h⟩,fun h=>⟨_,hc.2 h⟩⟩
  ·exact ig _ hc
 | t t' x =>
  simp only[tp]at hc;split at hc
  ·exact⟨fun h=>⟨_,hc.2⟩,fun h=>(by rw[hc.1]at h;cases h)⟩
  ·exact ig _ hc
 | u t' x =>
  simp only[tp]at hc;split at hc
  ·exact⟨fun h=>(by rw[hc.1]at h;cases h),fun h=>⟨_,hc.2⟩⟩
  ·exact ig _ hc
 | _=>exact ig _ hc
theorem DA {id:Nat} {ops:Array Oper} {TX:Bool} {h:bu} {st:St} {K:bu→Exit→St→Prop} (hv:vc C.P C.nt (.region id ops TX) K h st) (hK:∀h st,K h .normal st→Q .normal st):Ev C (.region id ops TX) Q st:=by
 unfold vc at hv
 refine J6 ?_ h st hv
 intro o t h st hq
 have ha:ops=ops.toList.toArray:=by simp
 cases t with
 | some tab =>
  cases TX with
  | false=>exact hq.elim
  | true =>
   replace hq:(match eY tab (List.replicate ops.toList.length false)with
    | some _=>HB C.P C.nt ops.toList o tab st (fun st=>K h .normal st)
    | none=>yd C.P C.nt ops.toList o (tn o [] 0 ops.toList) tab st (fun st=>K h .normal st)):=hq
   cases h00:eY tab (List.replicate ops.toList.length false)with
   | none =>
    rw[h00]at hq
    have hq:yd C.P C.nt ops.toList o (tn o [] 0 ops.toList) tab st (fun st=>K h .normal st):=hq
    rw[ha]
    exact Ev.dwT (Q:=Q) o _ tab (Dz hq (fun L' hk=>hK _ _ hk))
   | some st00 =>
   rw[h00]at hq
   replace hq:HB C.P C.nt ops.toList o tab st (fun st=>K h .normal st):=hq
   unfold HB at hq
   cases hb:C.P.follows .mixedOrders&&ops.toList.all (fun o=>!cF o)with
   | false=>rw[hb]at hq;exact hq.elim
   | true =>
   cases h0:eY tab (List.replicate ops.toList.length false)with
   | none=>rw[hb,h0]at hq;exact hq.elim
   | some V9 =>
   cases h1:eY tab (List.replicate ops.toList.length true)with
   | none=>rw[hb,h0,h1]at hq;exact hq.elim
   | some R5 =>
   rw[hb,h0,h1]at hq
   simp only[Pg]at hb
   obtain⟨q1,q2,q3⟩:=hq
   rw[lD]at q3
   rw[ha]
   exact Ev.any (L':=R5) o tab hb.1 hb.2 h0 q1 h1 rfl q2 (hK _ _ q3)
 | none =>
  cases TX with
  | false =>
   obtain⟨h1,h2⟩:=rZ _ _ _ _ hq
   rw[lD]at h2
   rw[ha]
   exact Ev.regA o rfl h1 (hK _ _ h2)
  | true =>
   rw[ha]
   refine Ev.dw o (tn o [] 0 ops.toList) ?_
   have WM:JZ C.P C.nt ops.toList o (tn o [] 0 ops.toList) st (fun st=>nS st (fun st=>K h .normal st)):=by simpa using hq
   exact EW WM (fun R5 h1=>hK _ _ (by rwa [lD]at h1))
theorem tq {c:Code} (ih:∀(K:bu→Exit→St→Prop) (h:bu) (st:St),vc C.P C.nt c K h st→Ev C c (fun e st=>∃h',K h' e st) st) (K:bu→Exit→St→Prop):∀(n:Nat) (h:bu) (st:St) (S:Nat→Prop) (μ:Nat→Value) (a:Act) (w:World),a5 C S μ st a w →
  HC (fun K=>vc C.P C.nt c K) K n h st→Code.roundsIn (nk C.rd) 0 C.P c (fun e a' w'=>∃L' S' μ',(∃h',K h' e L')∧a5 C S' μ' L' a' w') n a w
 | 0,h,st,S,μ,a,w,hR,hv=>hv.elim
 | n+1,h,st,S,μ,a,w,hR,hv=>by
  rw[roundsIn_succ]
  refine wpIn_mono (ih _ _ _ hv a w S μ hR) ?_
  rintro e a' w' ⟨L',S',μ',⟨h',hq⟩,R9⟩
  cases e with
  | normal=>exact tq ih K n h' L' S' μ' a' w' R9 hq
  | exit i=>exact⟨L',S',μ',⟨h',hq⟩,R9⟩
  | goto l=>exact⟨L',S',μ',⟨h',hq⟩,R9⟩
  | ret=>exact⟨L',S',μ',⟨h',hq⟩,R9⟩
  | panic ch=>exact⟨L',S',μ',⟨h',hq⟩,R9⟩
  | outgrown=>exact⟨L',S',μ',⟨h',hq⟩,R9⟩
theorem DB {c:Code} (ih:∀(K:bu→Exit→St→Prop) (h:bu) (st:St),vc C.P C.nt c K h st→Ev C c (fun e st=>∃h',K h' e st) st) (K:bu→Exit→St→Prop) (n:Nat) (h:bu) (st:St) (hv:HC (fun K=>vc C.P C.nt c K) K n h st):Ev C (.loop c) (fun e st=>∃h',K h' e st) st :=
 fun a w S μ hR=>wpIn_loop_rounds n (tq ih K n h st S μ a w hR hv)
theorem LJ {p:Prop} {a b:Bool} (h:p∨(a&&b)=true):p∨a=true:=h.imp_right fun h=>by rw[Pg]at h;exact h.1
theorem LK {p:Prop} {a b:Bool} (h:p∨(a&&b)=true):p∨b=true:=h.imp_right fun h=>by rw[Pg]at h;exact h.2
theorem DC:∀(c:Code),(C.rd=none∨J5 c=true)→∀(K:bu→Exit→St→Prop) (h:bu) (st:St),vc C.P C.nt c K h st→Ev C c (fun e st=>∃h',K h' e st) st:=by
 intro c
 induction c with
 | skip=>intro _ K h st hv;exact Ev.skip ⟨h,hv⟩
 | label l=>intro _ K h st hv;exact Ev.label ⟨h,hv⟩
 | exit i=>intro _ K h st hv;exact Ev.exit ⟨h,hv⟩
 | ret=>intro _ K h st hv;exact Ev.ret ⟨h,hv⟩
 | region id ops TX=>intro _ K h st hv;exact DA hv (fun h st hk=>⟨h,hk⟩)
 | seq x y Xr Xs =>
  intro hr K h st hv
  have Xr:=Xr (LJ hr)
  have Xs:=Xs (LK hr)
  unfold vc at hv
  split at hv
  ·refine Ev.seq ((Xr _ _ _ hv).mono ?_)
   rintro e L' ⟨h',hq⟩
   cases e with
   | normal=>exact Xs _ _ _ hq
   | exit i=>exact⟨h',hq⟩
   | goto l=>exact⟨h',hq⟩
   | ret=>exact⟨h',hq⟩
   | panic ch=>exact⟨h',hq⟩
   | outgrown=>exact⟨h',hq⟩
  ·cases h with
   | k id L hx hy =>
    obtain⟨h1,h2⟩:=hv
    refine Ev.cut L.keep L.n L.mk L.inv ((Xr _ _ _ h1).mono ?_) (fun s hs=>Xs _ _ _ (L.hall _ h2 s hs))
    rintro e L' ⟨h',hq⟩
    cases e with
    | normal=>exact hq
    | exit i=>exact⟨h',hq⟩
    | goto l=>exact⟨h',hq⟩
    | ret=>exact⟨h',hq⟩
    | panic ch=>exact⟨h',hq⟩
    | outgrown=>exact⟨h',hq⟩
   | _=>exact hv.elim
 | cond c x y Xr Xs =>
  intro hr K h st hv
  have Xr:=Xr (LJ hr)
  have Xs:=Xs (LK hr)
  unfold vc at hv
  split at hv
  ·rename_i b hb
   obtain⟨h1,h2⟩:=E8 hv
   exact Ev.cond b hb (fun hb=>by obtain⟨h',q⟩:=h1 hb;exact Xr _ _ _ q) (fun hb=>by obtain⟨h',q⟩:=h2 hb;exact Xs _ _ _ q)
  ·exact hv.elim
 | block i c ih =>
  intro hr K h st hv
  have ih:=ih hr
  unfold vc at hv
  refine Ev.block ((ih _ _ _ hv).mono ?_)
  rintro e L' ⟨h',hq⟩
  cases e with
  | exit j =>
   show(if Nat.beq j i=true then _ else _)
   change (match Nat.beq j i with | true=>K h' .normal L' | false=>K h' (.exit j) L')at hq
   by_cases hj:Nat.beq j i=true
   ·rw[hj]at hq;rw[Pn hj];exact⟨h',hq⟩
   ·rw[Pj hj]
    simp only[Ra]at hj
    rw[hj]at hq
    exact⟨h',hq⟩
  | normal=>exact⟨h',hq⟩
  | goto l=>exact⟨h',hq⟩
  | ret=>exact⟨h',hq⟩
  | panic ch=>exact⟨h',hq⟩
  | outgrown=>exact⟨h',hq⟩
 | loop c ih =>
  intro hr K h st hv
  have ih:=ih hr
  unfold vc at hv
  split at hv
  ·rename_i σ L s0 hb
   obtain⟨h1,h2,h3⟩:=hv
   refine Ev.loop L.keep L.n L.mk L.inv L.m s0 h1 h2 ?_
   intro s hs
   refine(ih _ _ _ (L.hall _ h3 s hs)).mono ?_
   rintro e L' ⟨h',hq⟩
   cases e with
   | normal=>exact hq
   | exit i=>exact⟨h',hq⟩
   | goto l=>exact⟨h',hq⟩
   | ret=>exact⟨h',hq⟩
   | panic ch=>exact⟨h',hq⟩
   | outgrown=>exact⟨h',hq⟩
  ·exact DB ih K _ _ _ hv
  ·exact hv.elim
 | rangeFunc g ps asg bd =>
  intro hr K h st hv
  unfold vc at hv
  split at hv
  ·rcases hr with hr | hr
   ·exact(hv.1 C rfl rfl hr).mono (fun e1 R5 hq=>by obtain⟨rfl,rfl⟩:=hq;exact⟨_,hv.2⟩)
   ·cases hr
  ·exact hv.elim
 | _=>intro _ K h st hv;exact(by unfold vc at hv;exact hv.elim)
theorem tr (hr:C.rd=none) (c:Code):∀(K:bu→Exit→St→Prop) (h:bu) (st:St),vc C.P C.nt c K h st→Ev C c (fun e st=>∃h',K h' e st) st:=DC c (.inl hr)
end
def rF (P:Program) (st:St):List ResultVar→(List D→Prop)→Prop
 | [],k=>k []
 | r::rs,k=>match Dn P st r with
  | (d,p)=>p∧rF P st rs (fun ds=>k (d::ds))
theorem r7 {P:Program} {st:St}:∀(rs:List ResultVar) (k:List D→Prop),rF P st rs k→(resL P st rs).2∧k (resL P st rs).1
 | [],k,h=>⟨trivial,h⟩
 | r::rs,k,h=>by
  unfold rF at h
  unfold resL
  generalize hq:Dn P st r=q at h
  obtain⟨d,p⟩:=q
  obtain⟨h1,h2⟩:=h
  obtain⟨h3,h4⟩:=r7 rs _ h2
  exact⟨⟨h1,h3⟩,h4⟩
def LL (H:List ax):D→D→Prop
 | .tup xs,.tup ys=>Lq H xs ys
 | x,y=>Je H x y
def M2:D→D→Prop
 | .tup xs,.tup ys=>MZ xs ys
 | x,y=>JR x y
def E9:List D→D
 | [d]=>d
 | ds=>.tup ds
def J7 (al:Bool) (H:List ax) (x r:D):Prop:=match al with
 | true=>LL H x r
 | false=>LL H x r∧M2 x r
def LM (P:Program) (fn:Func) (al:Bool) (r:D) (_:bu) (e:Exit) (st:St):Prop:=match e with
 | .normal=>rF P st fn.results.toList (fun ds=>J7 al st.heap (E9 ds) r)
 | .ret=>rF P st fn.results.toList (fun ds=>J7 al st.heap (E9 ds) r)
 | _=>False
theorem wN {P:Program} {st:St} {rs:List ResultVar}:Dp P rs st=(E9 (resL P st rs).1,(resL P st rs).2):=by
 unfold Dp
 generalize resL P st rs=q
 obtain⟨ds,p⟩:=q
 match ds with
 | []=>rfl
 | [d]=>rfl
 | d::e::r=>rfl
theorem BC {al:Bool} {H:List ax} {x r:D} (h1:LL H x r) (h2:al=true∨M2 x r):xY al H x r:=by
 unfold xY
 split
 ·exact⟨h1,h2⟩
 ·rename_i Sm
  have e1:LL H x r=Je H x r:=by
   unfold LL;split
   ·exact(Sm _ _ rfl rfl).elim
   ·rfl
  have e2:M2 x r=JR x r:=by
   unfold M2;split
   ·exact(Sm _ _ rfl rfl).elim
   ·rfl
  rw[e1]at h1;rw[e2]at h2
  exact⟨h1,h2⟩
theorem HE {P:Program} {fn:Func} {al:Bool} {r:D} {h:bu} {e:Exit} {st:St} (hk:LM P fn al r h e st):Lw P fn al r e st:=by
 have key:rF P st fn.results.toList (fun ds=>J7 al st.heap (E9 ds) r)→gT P fn st∧xY al st.heap (hC P fn st) r:=by
  intro hq
  obtain⟨h1,h2⟩:=r7 _ _ hq
  unfold gT hC
  rw[wN]
  refine⟨h1,?_⟩
  cases al
  ·exact BC h2.1 (.inr h2.2)
  ·exact BC h2 (.inl rfl)
 cases e with
 | normal=>exact key hk
 | ret=>exact key hk
 | exit i=>exact hk.elim
 | goto l=>exact hk.elim
 | panic ch=>exact hk.elim
 | outgrown=>exact hk.elim
theorem aq.vc {P:Program} {f:FuncId} {fn:Func} {c:Code} {q':List D} {al:Bool} {r:D} {V:Prop} (UA:bu) (hf:P.funcs[f]?=some fn) (hb:fn.body=some c) (hn:Nat.ble q'.length fn.ntmps=true) (hr:ef r=true)
  (hv:Proofs.Ytnlmlkbaflmgcaa.vc P fn.ntmps c (LM P fn al r) UA ⟨kV 0 q',[]⟩=V) (pf:V):aq P f q' [] al r []:=by
 refine aq.of_ev hf hb hn hr ?_
 intro C h1 h2 Wr
 subst h1
 rw[← hv,← h2]at pf
 exact(tr Wr c _ UA _ pf).mono (fun e L' ⟨h',hk⟩=>HE hk)
def LN (P:Program) (fn:Func) (r:D) (H:List ax) (_:bu) (e:Exit) (st:St):Prop:=match e with
 | .normal=>rF P st fn.results.toList (fun ds=>zy (E9 ds) r∧st.heap.take H.length=H)
 | .ret=>rF P st fn.results.toList (fun ds=>zy (E9 ds) r∧st.heap.take H.length=H)
 | _=>False
theorem HF {P:Program} {fn:Func} {r:D} {H:List ax} {h:bu} {e:Exit} {st:St} (hk:LN P fn r H h e st):Lv P fn r H e st:=by
 have key:rF P st fn.results.toList (fun ds=>zy (E9 ds) r∧st.heap.take H.length=H)→gT P fn st∧zy (hC P fn st) r∧st.heap.take H.length=H:=by
  intro hq
  obtain⟨h1,h2⟩:=r7 _ _ hq
  unfold gT hC
  rw[wN]
  exact⟨h1,h2⟩
 cases e with
 | normal=>exact key hk
 | ret=>exact key hk
 | exit i=>exact hk.elim
 | goto l=>exact hk.elim
 | panic ch=>exact hk.elim
 | outgrown=>exact hk.elim
theorem sV.vc {P:Program} {f:FuncId} {fn:Func} {c:Code} {ds:List D} {H H':List ax} {r:D} {V:Prop} (UA:bu) (hf:P.funcs[f]?=some fn) (hb:fn.body=some c) (hn:Nat.ble ds.length fn.ntmps=true)
  (hv:Proofs.Ytnlmlkbaflmgcaa.vc P fn.ntmps c (LN P fn r H') UA ⟨kV 0 ds,H⟩=V) (pf:V):sV P f ds H r H':=by
 refine⟨fn,c,hf,hb,hn,?_⟩
 intro C h1 h2 Wr
 subst h1
 rw[← hv,← h2]at pf
 exact(tr Wr c _ UA _ pf).mono (fun e L' ⟨h',hk⟩=>HF hk)
def ts:ax→Prop
 | .arr _ _ _ _ l=>l=[]
 | _=>False
def BD:Option ax→ax→Prop
 | some B',B=>B'=B
 | none,_=>False
def HG (H:List ax) (x r:D) (B:ax):Prop:=match x with
 | .nils=>r=.own 0∧ts B
 | .own i=>r=.own 0∧BD H[i]? B
 | .gr i s=>r=.gr 0 s∧BD H[i]? B
 | x=>∃id,H[id]?=some B∧z5 id x r
def Jl (P:Program) (fn:Func) (r:D) (B:ax) (_:bu) (e:Exit) (st:St):Prop:=match e with
 | .normal=>rF P st fn.results.toList (fun ds=>HG st.heap (E9 ds) r B)
 | .ret=>rF P st fn.results.toList (fun ds=>HG st.heap (E9 ds) r B)
 | _=>False
def Fa (P:Program) (fn:Func) (r:D) (B:ax):Exit→St→Prop
 | .normal,st=>gT P fn st∧((∃id,st.heap[id]?=some B∧z5 id (hC P fn st) r)∨(hC P fn st=.nils∧r=.own 0∧ts B))
 | .ret,st=>gT P fn st∧((∃id,st.heap[id]?=some B∧z5 id (hC P fn st) r)∨(hC P fn st=.nils∧r=.own 0∧ts B))
 | _,_=>False
theorem Fb {P:Program} {fn:Func} {r:D} {B:ax} {h:bu} {e:Exit} {st:St} (hk:Jl P fn r B h e st):Fa P fn r B e st:=by
 have key:rF P st fn.results.toList (fun ds=>HG st.heap (E9 ds) r B)→gT P fn st∧((∃id,st.heap[id]?=some B∧z5 id (hC P fn st) r)∨(hC P fn st=.nils∧r=.own 0∧ts B)):=by
  intro hq
  obtain⟨h1,h2⟩:=r7 _ _ hq
  unfold gT hC
  rw[wN]
  refine⟨h1,?_⟩
  generalize E9 (resL P st fn.results.toList).1=x at h2 ⊢
  unfold HG at h2
  split at h2
  ·exact .inr ⟨rfl,h2⟩
  ·rename_i i
   obtain⟨rfl,h2⟩:=h2
   unfold BD at h2
   split at h2
   ·rename_i B' RZ
    subst h2
    exact .inl ⟨i,RZ,rfl,rfl⟩
   ·exact h2.elim
  ·rename_i i q
   obtain⟨rfl,h2⟩:=h2
   unfold BD at h2
   split at h2
   ·rename_i B' RZ
    subst h2
    exact .inl ⟨i,RZ,rfl,rfl,rfl⟩
   ·exact h2.elim
  ·exact .inl h2
 cases e with
 | normal=>exact key hk
 | ret=>exact key hk
 | exit i=>exact hk.elim
 | goto l=>exact hk.elim
 | panic ch=>exact hk.elim
 | outgrown=>exact hk.elim
theorem aq.of_evO' {P:Program} {f:FuncId} {fn:Func} {c:Code} {q':List D} {r:D} {B:ax} (hf:P.funcs[f]?=some fn) (hb:fn.body=some c) (hn:Nat.ble q'.length fn.ntmps=true) (hB:B.isOwn=true)
  (h:∀C:li,C.P=P→C.nt=fn.ntmps→C.rd=none→Ev C c (Fa P fn r B) ⟨kV 0 q',[]⟩):aq P f q' [] false r [B]:=by
 intro S μ w us hS hG hH RU
 rw[Qm]at hn
 let C:li:=⟨P,w,S,fn.ntmps,[],none,hG⟩
 have hrel:a5 C S μ ⟨kV 0 q',[]⟩ (uY us fn.ntmps) w :=
  ⟨rfl,rfl,rfl,Pl _,fun _ _=>rfl,fun _ h=>h,fun _ h=>.inl h,hS,wz RU hn,⟨fun id B hB=>by simp at hB,fun i j A B b hA=>by simp at hA,fun i A b hA=>by simp at hA⟩,fun i A b hA=>by simp at hA,⟨[],rfl,by simp[C],fun b hb=>by simp[C]at hb⟩,sO RU.1 hn,fun i A b hA=>by simp at hA⟩
 refine(lq (C:=C) hf hb rfl hrel (h C rfl rfl rfl) (fun e L' hq=>?_)).mono ?_
 ·cases e<;>first | exact⟨.inl rfl,hq.1⟩ | exact⟨.inr rfl,hq.1⟩ | exact hq.elim
 rintro e w' ⟨u,e0,L',S',μ',a',rfl,hq,hR,hx⟩
 have hq:(∃id,L'.heap[id]?=some B∧z5 id (hC P fn L') r)∨(hC P fn L'=.nils∧r=.own 0∧ts B):=by
  cases e0<;>first | exact hq.2 | exact hq.elim
 have hl:B.live=true:=by cases B<;>first | rfl | cases hB
 have one:∀(i:Nat) (A:ax),[B][i]?=some A→i=0∧A=B:=by
  intro i A hA
  match i with
  | 0=>simp at hA;exact⟨rfl,hA.symm⟩
  | i+1=>simp at hA
 rcases hq with ⟨id,RE,hr⟩ | ⟨hn0,rfl,hem⟩
 ·refine⟨u,fun _=>μ' id,S',rfl,hR.os,hR.tape,hR.output,hR.size,fun k hk _=>hR.old k hk,hR.mono,hR.new,hR.slt,EP hx hr,⟨?_,?_,?_⟩,?_,fun i A hA=>by simp at hA⟩
  ·intro i A hA
   obtain⟨rfl,rfl⟩:=one i A hA
   refine(hR.heap.box id _ RE).stable (fun _ h _=>h) (fun _ _ _=>rfl) (Pl _) (fun j hj=>?_) (fun _ _=>rfl)
   cases A<;>first | (cases hB;done) | cases hj
  ·intro i j A A' b hA R4 _ _ _ _
   rw[(one i A hA).1,(one j A' R4).1]
  ·intro i A b hA la hb
   obtain⟨rfl,rfl⟩:=one i A hA
   exact hR.heap.notS id _ b RE hl hb
  ·intro i A b hA la hb
   obtain⟨rfl,rfl⟩:=one i A hA
   exact .inl (hR.may id _ b RE hl hb)
 ·rw[hn0]at hx
  cases hx
  refine⟨_,fun _=>.slice none 0 0,S',rfl,hR.os,hR.tape,hR.output,hR.size,fun k hk _=>hR.old k hk,hR.mono,hR.new,hR.slt,ao.own (μ:=fun _=>.slice none 0 0) 0,⟨?_,?_,?_⟩,?_,fun i A hA=>by simp at hA⟩
  ·intro i A hA
   obtain⟨rfl,rfl⟩:=one i A hA
   cases A<;>first | cases hem | skip
   exact⟨fun i x hx=>by simp at hx,[],QC w' 0 _ _,fun i x j y hx=>by simp at hx⟩
  ·intro i j A A' b hA R4 _ _ _ _
   rw[(one i A hA).1,(one j A' R4).1]
  ·intro i A b hA la hb
   simp[bI,aM]at hb
  ·intro i A b hA la hb
   simp[bI,aM]at hb
theorem aq.vcO {P:Program} {f:FuncId} {fn:Func} {c:Code} {q':List D} {r:D} {B:ax} {V:Prop} (UA:bu) (hf:P.funcs[f]?=some fn) (hb:fn.body=some c) (hn:Nat.ble q'.length fn.ntmps=true) (hB:B.isOwn=true)
  (hv:Proofs.Ytnlmlkbaflmgcaa.vc P fn.ntmps c (Jl P fn r B) UA ⟨kV 0 q',[]⟩=V) (pf:V):aq P f q' [] false r [B]:=by
 refine aq.of_evO' hf hb hn hB ?_
 intro C h1 h2 Wr
 subst h1
 rw[← hv,← h2]at pf
 exact(tr Wr c _ UA _ pf).mono (fun e L' ⟨h',hk⟩=>Fb hk)
theorem aq.nilcases {P:Program} {f:FuncId} {sz:Nat} {α:Type} {enc:α→List V} {d:α} {l:List α} {q':List D} {al:Bool} {r:D} {H':List ax}
  (h1:l≠[]→aq P f (.v (.sl sz enc d l)::q') [] al r H') (h2:l=[]→aq P f (.nils::q') [] al r H') (h3:l=[]→aq P f (.v .esl::q') [] al r H'):aq P f (.v (.sl sz enc d l)::q') [] al r H':=by
 by_cases hl:l=[]
 ·intro S μ w us hS hG hH RU
  have RB:=RU.1
  simp only[P8]at RB
  have h0:us[0]?=some us[0]:=PJ (by omega)
  have hx:=bn (RU.2 0 _ _ rfl h0)
  have re:∀(x:D),ao S μ w x us[0]→aO S μ w (x::q') us:=fun x hx=>⟨by simp[RB],fun j y u hy hu=>by
   cases j with
   | zero=>simp at hy;subst hy;rw[h0]at hu;cases hu;exact hx
   | succ j=>exact RU.2 (j+1) y u (by simpa using hy) hu⟩
  obtain⟨p,c,hu,q1,q2,q3,q4⟩:=gb hx
  subst hl
  cases p with
  | none =>
   have:=q3 rfl
   subst this
   exact h2 rfl S μ w us hS hG hH (re _ (by rw[hu];exact .nils))
  | some p=>exact h3 rfl S μ w us hS hG hH (re _ (by rw[hu];exact .v _ _ (.esl p c q2)))
 ·exact h1 hl
abbrev LO (P:Program) (g:FuncId) (ds:List D) (H:List ax) (E:List (Nat×D)) (H' N:List ax) (r:D):Prop:=∀tm:Array Value,sV P g ds (H++[.frame tm E]) r (H'++.frame tm E::N)
def TT:Nat→Prop→Prop
 | 0,p=>p
 | n+1,p=>True∧TT n p
theorem tt:∀{n:Nat} {p:Prop},p→TT n p
 | 0,_,h=>h
 | n+1,_,h=>⟨trivial,tt h⟩
abbrev CB (b:Bool) (x y:Prop):Prop:=(b=true→x)∧(b=false→y)
abbrev CD (P:Prop) [Decidable P] (x y:Prop):Prop:=CB (decide P) x y
abbrev CN (P:Prop) [Decidable P] (x y:Prop):Prop:=CB (!decide P) x y
abbrev CS (P x y:Prop):Prop:=(P→x)∧(¬P→y)
theorem cd {P:Prop} [Decidable P] {x y:Prop} (h1:P→x) (h2:¬P→y):CD P x y:=⟨fun h=>h1 (Qt h),fun h=>h2 (of_decide_eq_false h)⟩
theorem cn {P:Prop} [Decidable P] {x y:Prop} (h1:¬P→x) (h2:P→y):CN P x y:=⟨fun h=>h1 (by simpa using h),fun h=>h2 (by simpa using h)⟩
abbrev GO {σ:Type} (L:Lp σ) (s0:σ) (body:Prop):Prop:=L.mk s0=L.mk s0∧L.inv s0∧body
abbrev AG {σ:Type} (L:Lp σ) (s s':σ):Prop:=L.ag s (L.mk s')
abbrev AT {σ:Type} (L:Lp σ) (s':σ):Prop:=L.at (L.mk s')
theorem vT {P:Prop} [Decidable P] (h:P):True∧decide P=true:=⟨trivial,Pq h⟩
theorem vF {P:Prop} [Decidable P] (h:¬P):True∧decide P=false:=⟨trivial,Pv h⟩
theorem OQ {P:Prop} [Decidable P] (h:¬P):(!decide P)=true:=by simp[h]
theorem Nb {P:Prop} [Decidable P] (h:P):(!decide P)=false:=by simp[h]
theorem nT {P:Prop} [Decidable P] (h:¬P):True∧(!decide P)=true:=⟨trivial,OQ h⟩
theorem nF {P:Prop} [Decidable P] (h:P):True∧(!decide P)=false:=⟨trivial,Nb h⟩
theorem OS {b:Bool} (h:b=true):b=true:=h
theorem OA {b:Bool} (h:¬b=true):b=false:=by simpa using h
theorem OT {b:Bool} (h:¬b=true):(!b)=true:=by simpa using h
theorem yf {b:Bool} (h:b=true):(!b)=false:=by simp[h]
theorem bT {b:Bool} (h:b=true):True∧b=true:=⟨trivial,h⟩
theorem bF {b:Bool} (h:¬b=true):True∧b=false:=⟨trivial,OA h⟩
theorem mT {b:Bool} (h:¬b=true):True∧(!b)=true:=⟨trivial,OT h⟩
theorem mF {b:Bool} (h:b=true):True∧(!b)=false:=⟨trivial,yf h⟩
abbrev IX (i n:Int):Prop:=0≤i∧i<n
theorem ix {i n:Int} (h:0≤i∧i<n:=by first | omega | (simp;omega)):IX i n:=h
theorem om {p:Prop} (h:p:=by first | omega | (simp;first | done | omega)):p:=h
abbrev W6 (x:Int):Prop:=True∧IntKind.i64.wrap x=x
theorem w6 {x:Int} (h1:-9223372036854775808≤x:=by first | omega | (simp;first | done | omega)) (h2:x≤9223372036854775807:=by first | omega | (simp;first | done | omega)):W6 x:=⟨trivial,rY rfl h1 h2⟩
abbrev QD (a n:Int):Prop:=n≠0∧IntKind.i64.wrap (Int.tdiv a n)=a / n
theorem qd {a n:Int} (h0:0≤a:=by first | omega | (simp;omega)) (h1:a≤9223372036854775807:=by first | omega | (simp;omega)) (hn:0<n:=by first | omega | (simp;omega)):QD a n:=by
 refine⟨by omega,?_⟩
 rw[QT h0,IntKind.wrap_i64]
 have:=Int.ediv_nonneg h0 (Int.le_of_lt hn)
 have:=Int.ediv_le_self n h0
 omega
abbrev QM (a n:Int):Prop:=n≠0∧Int.tmod a n=a%n
theorem qm {a n:Int} (h0:0≤a:=by first | omega | (simp;omega)) (hn:0<n:=by first | omega | (simp;omega)):QM a n:=⟨by omega,Qh h0⟩
theorem aq.recast {P:Program} {f:FuncId} {q' U5:List D} {al:Bool} {r:D} (h:rz [] q' U5) (hc:aq P f U5 [] al r []):aq P f q' [] al r []:=fun S μ w us hS hG hH RU =>
 hc S μ w us hS hG hH (j9 hH (fun _ h=>h) hS (.inl fun i A b hA=>by simp at hA) h RU)
structure Ct:Type 1 where
 f:FuncId
 q':List D
 al:Bool
 r:D
abbrev Ct.O (c:Ct):Ov:=.call none c.al c.r
abbrev Ct.O' (c:Ct):Ov:=.call (some c.q') c.al c.r
abbrev Ct.C (P:Program) (c:Ct):Prop:=aq P c.f c.q' [] c.al c.r []
abbrev Ct.K (P:Program) (c:Ct):Prop:=rz [] c.q' c.q'∧aq P c.f c.q' [] c.al c.r []
structure Fc:Type 1 where
 f:FuncId
 q':List D
 r:D
 B:ax
abbrev Fc.O (c:Fc):Ov:=.ownd none c.r c.B
abbrev Fc.O' (c:Fc):Ov:=.ownd (some c.q') c.r c.B
abbrev Fc.F (c:Fc):Ov:=.ownc none c.r c.B
mutual
def lG:D→Bool
 | .v (.mp _)=>false
 | .agg cs=>ft cs
 | .tup cs=>ft cs
 | .fn _ a b=>ft a&&ft b
 | _=>true
def ft:List D→Bool
 | []=>true
 | d::r=>lG d&&ft r
end
theorem Fd:∀(x:V),(∀es,x≠.mp es)→xD x x
 | .int k n,_=>by simp[xD]
 | .bool b,_=>rfl
 | .str s,_=>rfl
 | .nilf,_=>trivial
 | .nsl,_=>trivial
 | .esl,_=>trivial
 | .sl sz enc d l,_=>by simp[xD]
 | .sm ag enc d l,_=>by simp[xD]
 | .nmp,_=>trivial
 | .fnv f,_=>by simp[xD]
 | .mp es,h=>(h es rfl).elim
theorem Fe:∀(x:D),lG x=true→ry x x
 | .v x,h=>Fd x (fun es e=>by subst e;simp[lG]at h)
 | .nils,_=>rfl
 | .own i,_=>rfl
 | .ptr _ _ _ _,_=>rfl
 | .iptr cs o,_=>by simp[ry]
 | .agg _,_=>rfl
 | .tup _,_=>rfl
 | .fn _ _ _,_=>rfl
 | .yld _,_=>rfl
 | .capd _,_=>rfl
 | .gr _ _,_=>rfl
 | .junk,_=>trivial
theorem yg (x:D) (h:lG x=true):Ha [] x x:=by
 cases x<;>exact Fe _ h
theorem yh:∀(l:List D),ft l=true→Lo [] l l
 | [],_=>trivial
 | d::r,h=>by simp only[ft,Pg]at h;exact⟨yg d h.1,yh r h.2⟩
theorem yi (x:D) (h:lG x=true):Lc [] x x:=by
 cases x<;>exact yg _ h
theorem tu:∀(l:List D),ft l=true→Lr [] l l
 | [],_=>trivial
 | d::r,h=>by simp only[ft,Pg]at h;exact⟨yi d h.1,tu r h.2⟩
theorem yj (x:D) (h:lG x=true):MX [] x x:=by
 cases x with
 | agg xs=>exact yh _ (by simpa[lG]using h)
 | fn f a b=>simp only[lG,Pg]at h;exact⟨rfl,tu a h.1,tu b h.2⟩
 | _=>exact yi _ h
theorem lH:∀(l:List D),ft l=true→rz [] l l
 | [],_=>trivial
 | d::r,h=>by simp only[ft,Pg]at h;exact⟨yj d h.1,lH r h.2⟩
structure Nm where
 n:Int
 p:ByteArray
structure Ex where
 op:Int
 name:ByteArray
 k:Nm
 w:Nm
 args:List Ex
abbrev e0:ByteArray:=ByteArray.empty
abbrev bs (l:List UInt8):ByteArray:=⟨l.toArray⟩
abbrev dN:Nm:=⟨0,e0⟩
abbrev dE:Ex:=⟨0,e0,dN,dN,[]⟩
structure ah where
 kind:Int
 src:ByteArray
 n:Int
structure Rg where
 name:ByteArray
 w:Int
 init:Int
 next:Ex
 rule:ah
structure Mm where
 name:ByteArray
 w:Int
 words:Int
 enable:Ex
 addr:Ex
 data:Ex
 rule:ah
structure Tk where
 chan:Int
 w:Int
 when:Ex
structure Pt where
 chan:Int
 w:Int
 when:Ex
 data:Ex
structure Pr where
 name:ByteArray
 clock:ByteArray
 Pe:List Rg
 Pd:List Mm
 I:List Tk
 Pc:List Pt
structure Ps where
 Pe:List Int
 Pd:List (List Int)
structure Hd where
 has:Bool
 v:Int
structure Fi where
 fires:Bool
 s:Ps
 pops:List Bool
 Pc:List Hd
abbrev LS:ah:=⟨0,e0,0⟩
abbrev aK:Rg:=⟨e0,0,0,dE,LS⟩
abbrev aA:Mm:=⟨e0,0,0,dE,dE,dE,LS⟩
abbrev bV:Tk:=⟨0,0,dE⟩
abbrev b4:Pt:=⟨0,0,dE,dE⟩
abbrev ac:Pr:=⟨e0,e0,[],[],[],[]⟩
abbrev a8:Ps:=⟨[],[]⟩
abbrev cQ:Hd:=⟨false,0⟩
def eA:Nat→Ex→List V
 | 0,_=>[]
 | n+1,e=>[.int .i64 e.op,.str e.name,.int .i64 e.k.n,.str e.k.p,.int .i64 e.w.n,.str e.w.p,.sl 7 (eA n) dE e.args]
def af (l:List Int):List V:=[.sl 1 (aa .i64) 0 l]
def bG (r:Rg):List V:=[.str r.name,.int .i64 r.w,.int .i64 r.init,.int .i64 r.next.op,.str r.next.name,.int .i64 r.next.k.n,.str r.next.k.p,.int .i64 r.next.w.n,.str r.next.w.p,.sl 7 (eA 2) dE r.next.args,.int .i64 r.rule.kind,.str r.rule.src,.int .i64 r.rule.n]
def bS (r:Mm):List V:=[.str r.name,.int .i64 r.w,.int .i64 r.words,.int .i64 r.enable.op,.str r.enable.name,.int .i64 r.enable.k.n,.str r.enable.k.p,.int .i64 r.enable.w.n,.str r.enable.w.p,.sl 7 (eA 2) dE r.enable.args,
 .int .i64 r.addr.op,.str r.addr.name,.int .i64 r.addr.k.n,.str r.addr.k.p,.int .i64 r.addr.w.n,.str r.addr.w.p,.sl 7 (eA 2) dE r.addr.args,
 .int .i64 r.data.op,.str r.data.name,.int .i64 r.data.k.n,.str r.data.k.p,.int .i64 r.data.w.n,.str r.data.w.p,.sl 7 (eA 2) dE r.data.args,.int .i64 r.rule.kind,.str r.rule.src,.int .i64 r.rule.n]
def dU (r:Tk):List V:=[.int .i64 r.chan,.int .i64 r.w,.int .i64 r.when.op,.str r.when.name,.int .i64 r.when.k.n,.str r.when.k.p,.int .i64 r.when.w.n,.str r.when.w.p,.sl 7 (eA 2) dE r.when.args]
def dT (r:Pt):List V:=[.int .i64 r.chan,.int .i64 r.w,.int .i64 r.when.op,.str r.when.name,.int .i64 r.when.k.n,.str r.when.k.p,.int .i64 r.when.w.n,.str r.when.w.p,.sl 7 (eA 2) dE r.when.args,
 .int .i64 r.data.op,.str r.data.name,.int .i64 r.data.k.n,.str r.data.k.p,.int .i64 r.data.w.n,.str r.data.w.p,.sl 7 (eA 2) dE r.data.args]
def bp (p:Pr):List V:=[.str p.name,.str p.clock,.sl 13 bG aK p.Pe,.sl 27 bS aA p.Pd,.sl 9 dU bV p.I,.sl 16 dT b4 p.Pc]
def bo (s:Ps):List V:=[.sl 1 (aa .i64) 0 s.Pe,.sl 1 af [] s.Pd]
def iH (h:Hd):List V:=[.bool h.has,.int .i64 h.v]
def eN:Ex→Nat
 | ⟨_,_,_,_,args⟩=>depL args+1
where depL:List Ex→Nat
 | []=>0
 | a::r=>max (eN a) (depL r)
theorem jj {x w:Int} (h0:0≤w) (h:w≤62):x≤aE w↔x<2^w.toNat:=by
 rw[cZ h0 h];omega
theorem d7 {x:Int} {n:Nat} (h0:0≤x) (h:x<2^n):x.toNat<2^n:=by
 have e:((2:Int)^n)=((2^n:Nat):Int):=by simp
 rw[e]at h
 omega
theorem yk {x n:Nat} (h:x<2^n):(x:Int)<2^n:=by
 have e:((2:Int)^n)=((2^n:Nat):Int):=by simp
 rw[e]
 omega
theorem DG {a b:Int} (h:a≤b) (h0:0≤a) (hb:b≤62):aE a≤aE b:=by
 rw[cZ h0 (by omega),cZ (by omega) hb]
 have:(2:Nat)^a.toNat≤2^b.toNat:=QH (by omega) (by omega)
 have e1:((2:Int)^a.toNat)=((2^a.toNat:Nat):Int):=by simp
 have e2:((2:Int)^b.toNat)=((2^b.toNat:Nat):Int):=by simp
 rw[e1,e2]
 omega
def cI (v w:Int):Prop:=0≤v∧v≤aE w
theorem pz {x w:Int} (h0:0≤w) (h:w≤62):cI (x%2^w.toNat) w:=by
 have hp:=lJ (n:=w.toNat) (by omega)
 refine⟨Qw _ (by omega),?_⟩
 rw[jj h0 h]
 exact QG _ (by omega)
theorem pA {x:Nat} {w:Int} (h0:0≤w) (h:w≤62) (hx:x<2^w.toNat):cI (x:Int) w:=by
 refine⟨by omega,?_⟩
 rw[jj h0 h]
 exact yk hx
theorem Ah {ws:List Int} (h:b8 ws≠0):ws.getD 0 0=ws.getD 1 0∧b8 ws=ws.getD 0 0:=by
 unfold b8 at h ⊢
 split at h
 ·exact absurd rfl h
 ·rename_i hn
  rw[Pj hn]
  exact⟨Decidable.not_not.1 hn,rfl⟩
theorem Fj {op:Int} {ws xs:List Int} {k w:Int} (h:jc op ws k w=true) (hx:xs.length=ws.length) (So:DD ws xs=true):cI (xE op ws xs k w) (fh op ws k w):=by
 obtain⟨h1,hf,h3⟩:=km h
 have h3:=aR.1 h3
 have Sz:1≤op∧op≤13:=by
  by_cases hr:op<1∨13<op
  ·have:cO op=-1:=by unfold cO;rw[Pj (by omega),Pj (by omega),Pj (by omega),Pj (by omega)]
   omega
  ·omega
 have f0:0<ws.length→1≤ws.getD 0 0∧ws.getD 0 0≤8:=fun h=>d6 hf h
 have f1:1<ws.length→1≤ws.getD 1 0∧ws.getD 1 0≤8:=fun h=>d6 hf h
 have f2:2<ws.length→1≤ws.getD 2 0∧ws.getD 2 0≤8:=fun h=>d6 hf h
 have a0:0<ws.length→0≤xs.getD 0 0∧xs.getD 0 0≤aE (ws.getD 0 0):=fun h=>iG So (by omega)
 have a1:1<ws.length→0≤xs.getD 1 0∧xs.getD 1 0≤aE (ws.getD 1 0):=fun h=>iG So (by omega)
 have a2:2<ws.length→0≤xs.getD 2 0∧xs.getD 2 0≤aE (ws.getD 2 0):=fun h=>iG So (by omega)
 have two:∀{op:Int},cO op=2→(ws.length:Int)=cO op→fh op ws k w=b8 ws→1≤fh op ws k w∧fh op ws k w≤8→ws.getD 0 0=ws.getD 1 0∧fh op ws k w=ws.getD 0 0∧(xs.getD 0 0).toNat<2^(ws.getD 0 0).toNat∧(xs.getD 1 0).toNat<2^(ws.getD 0 0).toNat∧1≤ws.getD 0 0∧ws.getD 0 0≤8:=by
  intro op hA hl hw hb
  have hl2:ws.length=2:=by omega
  obtain⟨e1,e2⟩:=Ah (ws:=ws) (by rw[← hw];omega)
  have b0:=f0 (by omega)
  have c0:=a0 (by omega)
  have c1:=a1 (by omega)
  refine⟨e1,by rw[hw,e2],d7 c0.1 ((jj (by omega) (by omega)).1 c0.2),?_,b0⟩
  have:=(jj (w:=ws.getD 1 0) (by omega) (by omega)).1 c1.2
  rw[← e1]at this
  exact d7 c1.1 this
 have U7:op=1∨op=2∨op=3∨op=4∨op=5∨op=6∨op=7∨op=8∨op=9∨op=10∨op=11∨op=12∨op=13:=by omega
 rcases U7 with rfl | rfl | rfl | rfl | rfl | rfl | rfl | rfl | rfl | rfl | rfl | rfl | rfl
 ·show cI k (if aI w=false∨k<0∨aE w<k then 0 else w)
  have e:fh 1 ws k w=(if aI w=false∨k<0∨aE w<k then 0 else w):=rfl
  rw[e]at h3
  split at h3
  ·omega
  ·rename_i hn
   rw[Pj hn]
   simp only[not_or,Int.not_lt]at hn
   exact⟨hn.2.1,hn.2.2⟩
 ·have hl:(ws.length:Int)=1:=h1
  have b0:=f0 (by omega)
  have c0:=a0 (by omega)
  show cI (((xs.getD 0 0).toNat ^^^ (aE (ws.getD 0 0)).toNat:Nat):Int) (ws.getD 0 0)
  refine pA (by omega) (by omega) (Nat.xor_lt_two_pow (d7 c0.1 ((jj (by omega) (by omega)).1 c0.2)) ?_)
  have m0:=cH (w:=ws.getD 0 0) (by omega) (by omega)
  exact d7 m0.1 ((jj (by omega) (by omega)).1 (Int.le_refl _))
 ·obtain⟨e1,e2,e3,e4,e5,e6⟩:=two (op:=3) (by decide) h1 rfl h3
  rw[e2]
  exact pA (by omega) (by omega) (Nat.lt_of_le_of_lt Nat.and_le_left e3)
 ·obtain⟨e1,e2,e3,e4,e5,e6⟩:=two (op:=4) (by decide) h1 rfl h3
  rw[e2]
  exact pA (by omega) (by omega) (Nat.or_lt_two_pow e3 e4)
 ·obtain⟨e1,e2,e3,e4,e5,e6⟩:=two (op:=5) (by decide) h1 rfl h3
  rw[e2]
  exact pA (by omega) (by omega) (Nat.xor_lt_two_pow e3 e4)
 ·obtain⟨e1,e2,e3,e4,e5,e6⟩:=two (op:=6) (by decide) h1 rfl h3
  rw[e2]
  exact pz (by omega) (by omega)
 ·obtain⟨e1,e2,e3,e4,e5,e6⟩:=two (op:=7) (by decide) h1 rfl h3
  rw[e2]
  exact pz (by omega) (by omega)
 ·have e:fh 8 ws k w=min (b8 ws) 1:=rfl
  rw[e]at h3 ⊢
  have e1:min (b8 ws) 1=1:=by omega
  rw[e1]
  show cI (if xs.getD 0 0=xs.getD 1 0 then 1 else 0) 1
  split<;>exact⟨by decide,by decide⟩
 ·have e:fh 9 ws k w=min (b8 ws) 1:=rfl
  rw[e]at h3 ⊢
  have e1:min (b8 ws) 1=1:=by omega
  rw[e1]
  show cI (if xs.getD 0 0<xs.getD 1 0 then 1 else 0) 1
  split<;>exact⟨by decide,by decide⟩
 ·have hl:(ws.length:Int)=3:=h1
  have hm1:=BF h
  have c0:=a0 (by omega)
  rw[hm1]at c0
  have c0':xs.getD 0 0≤1:=c0.2
  have c1:=a1 (by omega)
  have c2:=a2 (by omega)
  have e:fh 10 ws k w=(if ws.getD 0 0≠1∨ws.getD 1 0≠ws.getD 2 0 then 0 else ws.getD 1 0):=rfl
  rw[e]at h3 ⊢
  split at h3
  ·omega
  ·rename_i hn
   rw[Pj hn]
   have hs:ws.getD 1 0=ws.getD 2 0:=Ql fun hh=>hn (.inr hh)
   show cI (xs.getD (2-xs.getD 0 0).toNat 0) (ws.getD 1 0)
   have hc:xs.getD 0 0=0∨xs.getD 0 0=1:=by omega
   rcases hc with hc | hc
   ·rw[hc,hs];exact c2
   ·rw[hc];exact c1
 ·have hl:(ws.length:Int)=2:=h1
  have b0:=f0 (by omega)
  have b1:=f1 (by omega)
  have c0:=a0 (by omega)
  have c1:=a1 (by omega)
  have e:fh 11 ws k w=ws.getD 0 0+ws.getD 1 0:=rfl
  rw[e]at h3 ⊢
  show cI ((((xs.getD 0 0).toNat*2^(ws.getD 1 0).toNat ||| (xs.getD 1 0).toNat:Nat)):Int) (ws.getD 0 0+ws.getD 1 0)
  have d0:=d7 c0.1 ((jj (by omega) (by omega)).1 c0.2)
  have d1:=d7 c1.1 ((jj (by omega) (by omega)).1 c1.2)
  have hs:(ws.getD 0 0+ws.getD 1 0).toNat=(ws.getD 0 0).toNat+(ws.getD 1 0).toNat:=by omega
  refine pA (by omega) (by omega) ?_
  rw[hs,Nat.pow_add]
  refine(Nat.pow_add 2 _ _) ▸ Nat.or_lt_two_pow ?_ ?_
  ·rw[Nat.pow_add];exact Nat.mul_lt_mul_of_pos_right d0 (Nat.two_pow_pos _)
  ·exact Qi d1 (QH (by omega) (by omega))
 ·have hk:=BG h
  have e:fh 12 ws k w=(if aI w=false∨k<0∨ws.getD 0 0-w<k then 0 else w):=rfl
  rw[e]at h3 ⊢
  split at h3
  ·omega
  ·rename_i hn
   rw[Pj hn]
   have hw:=aR.1 hk.2.2
   exact pz (by omega) (by omega)
 ·have hl:(ws.length:Int)=1:=h1
  have b0:=f0 (by omega)
  have c0:=a0 (by omega)
  have e:fh 13 ws k w=(if w<ws.getD 0 0 then 0 else w):=rfl
  rw[e]at h3 ⊢
  split at h3
  ·omega
  ·rename_i hn
   rw[Pj hn]
   show cI (xs.getD 0 0) w
   exact⟨c0.1,Int.le_trans c0.2 (DG (by omega) (by omega) (by omega))⟩
theorem DH {op:Int} {ws xs N':List Int} {k w:Int} (h:jc op ws k w=true) (hx:xs.length=ws.length) (So:DD ws xs=true) (hn:N'.length=2) (h0:N'.getD 0 0=k) (h1:N'.getD 1 0=w) :
  fu op ws xs N'=xE op ws xs k w∧cI (fu op ws xs N') (fh op ws k w):=by
 have e:=(qq hn hx (by rw[h0,h1];exact h) So).1
 rw[h0,h1]at e
 exact⟨e,by rw[e];exact Fj h hx So⟩
def bH (p:Pr) (s:Ps) (data:List Int):Ex→Int×Int
 | ⟨op,_,k,w,args⟩ =>
  if op=16 then (s.Pe.getD k.n.toNat 0,(p.Pe.getD k.n.toNat aK).w)
  else if op=18 then (data.getD k.n.toNat 0,(p.I.getD k.n.toNat bV).w)
  else if op=17 then ((s.Pd.getD k.n.toNat []).getD (Int.tmod ((evL args).getD 0 (0,0)).1 (s.Pd.getD k.n.toNat []).length).toNat 0,(p.Pd.getD k.n.toNat aA).w)
  else (fu op ((evL args).map (·.2)) ((evL args).map (·.1)) [k.n,w.n],cB op ((evL args).map (·.2)) k.n w.n)
where evL:List Ex→List (Int×Int)
 | []=>[]
 | a::r=>bH p s data a::evL r
theorem BH {p:Pr} {s:Ps} {data:List Int}:∀(l:List Ex),bH.evL p s data l=l.map (bH p s data)
 | []=>rfl
 | a::r=>by rw[bH.evL,BH r];rfl
theorem oJ (p:Pr) (s:Ps) (data:List Int) (e:Ex):bH p s data e =
  if e.op=16 then (s.Pe.getD e.k.n.toNat 0,(p.Pe.getD e.k.n.toNat aK).w)
  else if e.op=18 then (data.getD e.k.n.toNat 0,(p.I.getD e.k.n.toNat bV).w)
  else if e.op=17 then ((s.Pd.getD e.k.n.toNat []).getD (Int.tmod ((e.args.map (bH p s data)).getD 0 (0,0)).1 (s.Pd.getD e.k.n.toNat []).length).toNat 0,(p.Pd.getD e.k.n.toNat aA).w)
  else (fu e.op ((e.args.map (bH p s data)).map (·.2)) ((e.args.map (bH p s data)).map (·.1)) [e.k.n,e.w.n],cB e.op ((e.args.map (bH p s data)).map (·.2)) e.k.n e.w.n):=by
 cases e with
 | mk op name k w args=>rw[bH,BH]
structure Sc where
 rw:List Int
 mw:List Int
 tw:List Int
def dQ (c:Sc):Ex→Option Int
 | ⟨op,_,k,w,args⟩=>match tyL args with
  | none=>none
  | some ws =>
   if op=16 then (if ws=[]∧0≤k.n∧k.n<c.rw.length then some (c.rw.getD k.n.toNat 0)else none)
   else if op=18 then (if ws=[]∧0≤k.n∧k.n<c.tw.length then some (c.tw.getD k.n.toNat 0)else none)
   else if op=17 then (if ws.length=1∧0≤k.n∧k.n<c.mw.length then some (c.mw.getD k.n.toNat 0)else none)
   else if jc op ws k.n w.n then some (fh op ws k.n w.n)else none
where tyL:List Ex→Option (List Int)
 | []=>some []
 | a::r=>match dQ c a,tyL r with
  | some w,some ws=>some (w::ws)
  | _,_=>none
theorem kq {c:Sc}:∀{l:List Ex} {ws:List Int},dQ.tyL c l=some ws→ws.length=l.length∧∀i,i<l.length→dQ c (l.getD i dE)=some (ws.getD i 0)
 | [],ws,h=>by rw[dQ.tyL]at h;cases h;exact⟨rfl,fun i hi=>absurd hi (Qy _)⟩
 | a::r,ws,h=>by
  rw[dQ.tyL]at h
  split at h
  ·rename_i w ws' h1 h2
   cases h
   obtain⟨q1,q2⟩:=kq h2
   refine⟨by simp[q1],fun i hi=>?_⟩
   cases i with
   | zero=>exact h1
   | succ i=>exact q2 i (by simpa using hi)
  ·cases h
theorem fv {c:Sc} {e:Ex} {w:Int} (h:dQ c e=some w):∃ws,dQ.tyL c e.args=some ws ∧
  ((e.op=16∧ws=[]∧0≤e.k.n∧e.k.n<c.rw.length∧w=c.rw.getD e.k.n.toNat 0)∨(e.op=18∧ws=[]∧0≤e.k.n∧e.k.n<c.tw.length∧w=c.tw.getD e.k.n.toNat 0) ∨
   (e.op=17∧ws.length=1∧0≤e.k.n∧e.k.n<c.mw.length∧w=c.mw.getD e.k.n.toNat 0)∨(e.op≠16∧e.op≠17∧e.op≠18∧jc e.op ws e.k.n e.w.n=true∧w=fh e.op ws e.k.n e.w.n)):=by
 cases e with
 | mk op name k w0 args =>
  rw[dQ]at h
  split at h
  ·cases h
  ·rename_i ws hws
   refine⟨ws,hws,?_⟩
   split at h
   ·rename_i ho
    split at h
    ·rename_i hc;cases h;exact .inl ⟨ho,hc.1,hc.2.1,hc.2.2,rfl⟩
    ·cases h
   ·split at h
    ·rename_i ho
     split at h
     ·rename_i hc;cases h;exact .inr (.inl ⟨ho,hc.1,hc.2.1,hc.2.2,rfl⟩)
     ·cases h
    ·split at h
     ·rename_i ho
      split at h
      ·rename_i hc;cases h;exact .inr (.inr (.inl ⟨ho,hc.1,hc.2.1,hc.2.2,rfl⟩))
      ·cases h
     ·split at h
      ·rename_i h1 h2 h3 hc;cases h;exact .inr (.inr (.inr ⟨h1,h3,h2,hc,rfl⟩))
      ·cases h
structure uz (c:Sc) (p:Pr) (s:Ps) (data:List Int):Prop where
 prl:p.Pe.length=c.rw.length
 prw:∀i,i<c.rw.length→(p.Pe.getD i aK).w=c.rw.getD i 0
 pml:p.Pd.length=c.mw.length
 pmw:∀i,i<c.mw.length→(p.Pd.getD i aA).w=c.mw.getD i 0
 ptl:p.I.length=c.tw.length
 ptw:∀i,i<c.tw.length→(p.I.getD i bV).w=c.tw.getD i 0
 srl:s.Pe.length=c.rw.length
 srv:∀i,i<c.rw.length→cI (s.Pe.getD i 0) (c.rw.getD i 0)
 sml:s.Pd.length=c.mw.length
 smn:∀i,i<c.mw.length→0<(s.Pd.getD i []).length
 smv:∀i,i<c.mw.length→∀j,j<(s.Pd.getD i []).length→cI ((s.Pd.getD i []).getD j 0) (c.mw.getD i 0)
 dl:data.length=c.tw.length
 dv:∀i,i<c.tw.length→cI (data.getD i 0) (c.tw.getD i 0)
 rok:∀i,i<c.rw.length→aI (c.rw.getD i 0)=true
 mok:∀i,i<c.mw.length→aI (c.mw.getD i 0)=true
 tok:∀i,i<c.tw.length→aI (c.tw.getD i 0)=true
theorem da {α β:Type} (f:α→β) (l:List α) (i:Nat) (d:α) (d':β) (h:i<l.length):(l.map f).getD i d'=f (l.getD i d):=by
 simp[List.getD,Ph h]
theorem BI {e:Ex} {i:Nat} (h:i<e.args.length):eN (e.args.getD i dE)<eN e:=by
 cases e with
 | mk op name k w args =>
  have key:∀(l:List Ex) (i:Nat),i<l.length→eN (l.getD i dE)≤eN.depL l:=by
   intro l
   induction l with
   | nil=>intro i hi;exact absurd hi (Qy _)
   | cons a r ih =>
    intro i hi
    rw[eN.depL]
    cases i with
    | zero=>show eN a≤_;omega
    | succ i =>
     have:=ih i (by simpa using hi)
     show eN (r.getD i dE)≤_
     omega
  have:=key args i h
  rw[eN]
  exact Nat.lt_succ_of_le this
theorem J9 {l:List Int} {p:Int→Bool} (h:∀i,i<l.length→p (l.getD i 0)=true):l.all p=true:=by
 rw[PH]
 intro x hx
 obtain⟨i,hi,rfl⟩:=List.mem_iff_getElem.1 hx
 have:=h i hi
 simpa[List.getD,Ph hi]using this
theorem BJ {c:Sc} {p:Pr} {s:Ps} {data:List Int} {args:List Ex} {ws:List Int} (hl:ws.length=args.length)
  (h:∀i,i<args.length→(bH p s data (args.getD i dE)).2=ws.getD i 0∧cI (bH p s data (args.getD i dE)).1 (ws.getD i 0)∧aI (ws.getD i 0)=true) :
  (args.map (bH p s data)).map (·.2)=ws∧((args.map (bH p s data)).map (·.1)).length=ws.length∧DD ws ((args.map (bH p s data)).map (·.1))=true∧ws.all aI=true:=by
 refine⟨?_,by simp[hl],?_,J9 (fun i hi=>(h i (by omega)).2.2)⟩
 ·apply Qq
  ·simp[hl]
  ·intro i h1 h2
   have:=(h i (by omega)).1
   simp only[Rj]
   have e1:args.getD i dE=args[i]'(by omega):=by simp[List.getD,Ph (show i<args.length by omega)]
   have e2:ws.getD i 0=ws[i]:=by simp[List.getD,Ph h2]
   rw[e1,e2]at this
   exact this
 ·refine J8 (fun i hi=>?_)
  have Sk:i<args.length:=by simpa using hi
  have:=(h i Sk).2.1
  rw[Rf,da ((·.1) ∘ bH p s data) args i dE 0 Sk]
  exact this
theorem Fk {c:Sc} {p:Pr} {s:Ps} {data:List Int} (ho:uz c p s data):∀(n:Nat) (e:Ex) (w:Int),eN e≤n→dQ c e=some w→(bH p s data e).2=w∧cI (bH p s data e).1 w∧aI w=true:=by
 intro n
 induction n with
 | zero=>intro e w hd;cases e with | mk op name k w args=>rw[eN]at hd;omega
 | succ n ih =>
  intro e w hd hty
  obtain⟨ws,hws,hc⟩:=fv hty
  obtain⟨hl,RT⟩:=kq hws
  have hargs:∀i,i<e.args.length→(bH p s data (e.args.getD i dE)).2=ws.getD i 0∧cI (bH p s data (e.args.getD i dE)).1 (ws.getD i 0)∧aI (ws.getD i 0)=true:=fun i hi=>ih _ _ (by have:=BI hi;omega) (RT i hi)
  rw[oJ]
  rcases hc with ⟨h1,h2,h3,h4,rfl⟩ | ⟨h1,h2,h3,h4,rfl⟩ | ⟨h1,h2,h3,h4,rfl⟩ | ⟨h1,h2,WI,h3,rfl⟩
  ·rw[Pn h1]
   exact⟨ho.prw _ (by omega),ho.srv _ (by omega),ho.rok _ (by omega)⟩
  ·rw[Pj (by omega),Pn h1]
   exact⟨ho.ptw _ (by omega),ho.dv _ (by omega),ho.tok _ (by omega)⟩
  ·rw[Pj (by omega),Pj (by omega),Pn h1]
   refine⟨ho.pmw _ (by omega),ho.smv _ (by omega) _ ?_,ho.mok _ (by omega)⟩
   have hn:=ho.smn e.k.n.toNat (by omega)
   have a0:=(hargs 0 (by omega)).2.1.1
   rw[da (bH p s data) e.args 0 dE (0,0) (by omega)]
   have:=Int.tmod_lt_of_pos (bH p s data (e.args.getD 0 dE)).1 (show(0:Int)<(s.Pd.getD e.k.n.toNat []).length by omega)
   have h0:=Int.tmod_nonneg (((s.Pd.getD e.k.n.toNat []).length:Nat):Int) a0
   omega
  ·rw[Pj h1,Pj WI,Pj h2]
   obtain⟨q1,q2,q3,q4⟩:=BJ (c:=c) hl hargs
   rw[q1]
   obtain⟨r1,r2⟩:=DH (N':=[e.k.n,e.w.n]) h3 q2 q3 rfl rfl rfl
   refine⟨?_,r2,?_⟩
   ·unfold cB;rw[h3];rfl
   ·exact(km h3).2.2
theorem BK {a:Ex}:∀{l:List Ex},a∈l→eN a≤eN.depL l
 | b::r,h=>by
  rw[eN.depL]
  rcases Qf.1 h with rfl | h
  ·omega
  ·have:=BK h;omega
theorem wO {e a:Ex} (h:a∈e.args):eN a<eN e:=by
 cases e with
 | mk op name k w args=>rw[eN];exact Nat.lt_succ_of_le (BK h)
theorem Ka {c:Sc} {e a:Ex} {w:Int} (h:dQ c e=some w) (ha:a∈e.args):∃w',dQ c a=some w':=by
 obtain⟨ws,h1,_⟩:=fv h
 obtain⟨i,hi,rfl⟩:=List.mem_iff_getElem.1 ha
 have:=(kq h1).2 i hi
 exact⟨_,by simpa[List.getD,Ph hi]using this⟩
theorem Kb {c:Sc} {e:Ex} {w:Int} (h:dQ c e=some w):e.args.length≤3:=by
 obtain⟨ws,h1,h2⟩:=fv h
 have hl:=(kq h1).1
 rcases h2 with ⟨_,h2,_⟩ | ⟨_,h2,_⟩ | ⟨_,h2,_⟩ | ⟨_,_,_,h2,_⟩
 ·rw[h2]at hl;simp at hl;omega
 ·rw[h2]at hl;simp at hl;omega
 ·omega
 ·have:=(km h2).1
  have:cO e.op≤3:=by unfold cO;split<;>(try split)<;>(try split)<;>(try split)<;>omega
  omega
theorem Kc {c:Sc} {p:Pr} {s:Ps} {data:List Int} {e:Ex} {w:Int} (ho:uz c p s data) (h:dQ c e=some w) (Sz:e.op=16):0≤e.k.n∧e.k.n<s.Pe.length∧e.k.n<p.Pe.length:=by
 obtain⟨ws,h1,h2⟩:=fv h
 have a1:=ho.srl;have a2:=ho.prl
 rcases h2 with ⟨_,_,h3,h4,_⟩ | ⟨h,_⟩ | ⟨h,_⟩ | ⟨h,_⟩<;>omega
theorem HL {c:Sc} {p:Pr} {s:Ps} {data:List Int} {e:Ex} {w:Int} (ho:uz c p s data) (h:dQ c e=some w) (Sz:e.op=18):0≤e.k.n∧e.k.n<data.length∧e.k.n<p.I.length:=by
 obtain⟨ws,h1,h2⟩:=fv h
 have a1:=ho.dl;have a2:=ho.ptl
 rcases h2 with ⟨h,_⟩ | ⟨_,_,h3,h4,_⟩ | ⟨h,_⟩ | ⟨_,_,h,_⟩<;>omega
theorem HM {c:Sc} {p:Pr} {s:Ps} {data:List Int} {e:Ex} {w:Int} (ho:uz c p s data) (h:dQ c e=some w) (Sz:e.op=17) :
  0≤e.k.n∧e.k.n<s.Pd.length∧e.k.n<p.Pd.length∧e.args.length=1∧0<(s.Pd.getD e.k.n.toNat []).length ∧
   0≤Int.tmod (bH p s data (e.args.getD 0 dE)).1 (s.Pd.getD e.k.n.toNat []).length∧Int.tmod (bH p s data (e.args.getD 0 dE)).1 (s.Pd.getD e.k.n.toNat []).length<(s.Pd.getD e.k.n.toNat []).length:=by
 obtain⟨ws,h1,h2⟩:=fv h
 have a1:=ho.sml;have a2:=ho.pml
 obtain⟨hl,hg⟩:=kq h1
 rcases h2 with ⟨h,_⟩ | ⟨h,_⟩ | ⟨_,h5,h3,h4,_⟩ | ⟨_,h,_⟩<;>try omega
 have hn:=ho.smn e.k.n.toNat (by omega)
 have a0:=(Fk ho _ (e.args.getD 0 dE) _ (Pl _) (hg 0 (by omega))).2.1.1
 refine⟨by omega,by omega,by omega,by omega,hn,Int.tmod_nonneg _ a0,Int.tmod_lt_of_pos _ (by omega)⟩
theorem lK {p:Pr} {s:Ps} {data:List Int} {e:Ex} (h:e.op=16):(bH p s data e).1=s.Pe.getD e.k.n.toNat 0∧(bH p s data e).2=(p.Pe.getD e.k.n.toNat aK).w:=by
 rw[oJ,Pn h];exact⟨rfl,rfl⟩
theorem jk {p:Pr} {s:Ps} {data:List Int} {e:Ex} (h:e.op=18):(bH p s data e).1=data.getD e.k.n.toNat 0∧(bH p s data e).2=(p.I.getD e.k.n.toNat bV).w:=by
 rw[oJ,Pj (by omega),Pn h];exact⟨rfl,rfl⟩
theorem jl {p:Pr} {s:Ps} {data:List Int} {e:Ex} (h:e.op=17) (hl:e.args.length=1):(bH p s data e).1=(s.Pd.getD e.k.n.toNat []).getD (Int.tmod (bH p s data (e.args.getD 0 dE)).1 (s.Pd.getD e.k.n.toNat []).length).toNat 0∧(bH p s data e).2=(p.Pd.getD e.k.n.toNat aA).w:=by
 rw[oJ,Pj (by omega),Pj (by omega),Pn h,da (bH p s data) e.args 0 dE (0,0) (by omega)];exact⟨rfl,rfl⟩
def jd (p:Pr) (s:Ps) (data:List Int) (l:List Ex):List Int:=l.map fun a=>(bH p s data a).1
def fw (p:Pr) (s:Ps) (data:List Int) (l:List Ex):List Int:=l.map fun a=>(bH p s data a).2
theorem yl {p:Pr} {s:Ps} {data:List Int} (l:List Ex):(jd p s data l).length=l.length:=by simp[jd]
theorem ym {p:Pr} {s:Ps} {data:List Int} (l:List Ex):(fw p s data l).length=l.length:=by simp[fw]
theorem vw {α:Type} {l:List α} {i:Nat} {d:α} (h:i<l.length):l.take (i+1)=l.take i++[l.getD i d]:=by
 rw[List.take_succ_eq_append_getElem h];simp[List.getD,Ph h]
theorem DI {p:Pr} {s:Ps} {data:List Int} {l:List Ex} {i:Nat} (h:i<l.length):jd p s data (l.take (i+1))=jd p s data (l.take i)++[(bH p s data (l.getD i dE)).1]:=by
 rw[vw (d:=dE) h];simp[jd]
theorem DJ {p:Pr} {s:Ps} {data:List Int} {l:List Ex} {i:Nat} (h:i<l.length):fw p s data (l.take (i+1))=fw p s data (l.take i)++[(bH p s data (l.getD i dE)).2]:=by
 rw[vw (d:=dE) h];simp[fw]
theorem rb {p:Pr} {s:Ps} {data:List Int} {e:Ex} (h1:¬e.op=16) (h2:¬e.op=18) (h3:¬e.op=17):(bH p s data e).1=fu e.op (fw p s data e.args) (jd p s data e.args) [e.k.n,e.w.n]∧(bH p s data e).2=cB e.op (fw p s data e.args) e.k.n e.w.n:=by
 rw[oJ,Pj h1,Pj h2,Pj h3]
 simp only[jd,fw,Rf]
 exact⟨rfl,rfl⟩
theorem mu {l:List Ex} {i:Nat} (h:i<l.length):l.getD i dE∈l:=by simp[List.getD,Ph h]
def gf (b:List Int):Prop:=∀x∈b,0≤x∧x≤255
theorem b5 {b:List Int} (h:gf b) (i:Nat):0≤b.getD i 0∧b.getD i 0≤255:=by
 by_cases hi:i<b.length
 ·simp only[List.getD,Ph hi,Rk]
  exact h _ (QX hi)
 ·simp[List.getD,P2 (Nat.le_of_not_lt hi)]
structure Sg where
 Pe:List Int
 I:List Int
 Pd:List Mm
 data:Bool
def Sg.sc (s:Sg):Sc:=⟨s.Pe,s.Pd.map (·.w),if s.data then s.I else []⟩
def d8 (v w:Int):Ex:=⟨1,e0,⟨v%2^w.toNat,e0⟩,⟨w,e0⟩,[]⟩
def DK (i:Nat):Ex:=⟨16,e0,⟨i,e0⟩,dN,[]⟩
def Fl (i:Nat):Ex:=⟨18,e0,⟨i,e0⟩,dN,[]⟩
def eH (f:Nat→Ex) (w:Int) (l:List Int):Nat→List Ex
 | 0=>[]
 | k+1=>eH f w l k++(if l.getD k 0=w then [f k]else [])
def cy (s:Sg) (w:Int):List Ex:=eH DK w s.Pe s.Pe.length++(if s.data then eH Fl w s.I s.I.length else [])
def a9 (s:Sg) (w b:Int):Ex:=if (cy s w).length=0∨b%4=0 then d8 (b / 4) w else (cy s w).getD (b / 4%(cy s w).length).toNat dE
def nx (l:List Mm) (w:Int):Nat→Nat→Option Nat
 | 0,_=>none
 | n+1,k=>if (l.getD k aA).w=w then some k else nx l w n (k+1)
def iI (k:Int):Int:=[2,3,4,5,6,7,10,8,9,11].getD (k-4).toNat 0
def qr (y w:Int):Int:=let o:=iI (y%14);if (o=8∨o=9)∧w>1 then 5 else if o=11∧w=1 then 3 else o
def jm (y w:Int):List Int:=let o:=iI (y%14)
 if o=2 then [w]else if o=10 then [1,w,w]else if o=8∨o=9 then (if w>1 then [w,w]else [1+y / 14%3,1+y / 14%3])else if o=11 then (if w=1 then [w,w]else [w-1,1])else [w,w]
def bi (t:Nat→Int→Ex×Nat):List Int→Nat→List Ex×Nat
 | [],i=>([],i)
 | w::r,i=>((t i w).1::(bi t r (t i w).2).1,(bi t r (t i w).2).2)
def br (s:Sg) (t:Nat→Int→Ex×Nat) (w b:Int) (i:Nat):Ex×Nat :=
 match (if b%3=0 then nx s.Pd w s.Pd.length 0 else none)with
 | some m=>let x:=t i (1+b / 3%3);(⟨17,e0,⟨m,e0⟩,dN,[x.1]⟩,x.2)
 | none=>if b%3=1∧w>1 then let x:=t i (w-1);(⟨13,e0,dN,⟨w,e0⟩,[x.1]⟩,x.2)
  else let x:=t i (w+b / 3%2);(⟨12,e0,⟨b / 3%2,e0⟩,⟨w,e0⟩,[x.1]⟩,x.2)
def ap (s:Sg) (b:List Int):Nat→Nat→Int→Ex×Nat
 | 0,i,w=>(a9 s w (b.getD i 0 / 14),i+1)
 | d+1,i,w =>
  let y:=b.getD i 0
  if d=0∨y%14<2 then (a9 s w (y / 14),i+1)
  else if y%14=2∨y%14=3 then br s (ap s b d) w (y / 14) (i+1)
  else (⟨qr y w,e0,dN,dN,(bi (ap s b d) (jm y w) (i+1)).1⟩,(bi (ap s b d) (jm y w) (i+1)).2)
theorem BL {s:Sg} {w:Int} {RM:List Ex} {j:Nat} (h:RM=eH DK w s.Pe s.Pe.length++eH Fl w s.I j) (h0:s.data=false→j=0) (h1:s.data=true→j=s.I.length):RM=cy s w:=by
 rw[h];unfold cy
 cases hs:s.data
 ·rw[h0 hs];simp[eH]
 ·rw[h1 hs];simp
theorem my {f:Nat→Ex} {w:Int} {l:List Int} {k:Nat} (h:l.getD k 0=w):eH f w l k++[f k]=eH f w l (k+1):=by rw[eH,Pn h]
theorem pB {f:Nat→Ex} {w:Int} {l:List Int} {k:Nat} (h:¬l.getD k 0=w):eH f w l k=eH f w l (k+1):=by rw[eH,Pj h,Qk]
theorem HN (s:Sg) (w:Int):(cy s w).length≤s.Pe.length+s.I.length:=by
 have key:∀(f:Nat→Ex) (l:List Int) (k:Nat),(eH f w l k).length≤k:=by
  intro f l k
  induction k with
  | zero=>simp[eH]
  | succ k ih=>rw[eH];simp only[PG];split<;>simp<;>omega
 unfold cy
 have h1:=key DK s.Pe s.Pe.length
 have h2:=key Fl s.I s.I.length
 rw[PG]
 split
 ·omega
 ·simp;omega
theorem qs {f:Nat→Ex} {w:Int} {l:List Int} {e:Ex}:∀(k:Nat),e∈eH f w l k→∃i,i<k∧e=f i∧l.getD i 0=w
 | 0,h=>by cases h
 | k+1,h=>by
  rw[eH,Qn]at h
  rcases h with h | h
  ·obtain⟨i,h1,h2⟩:=qs k h;exact⟨i,by omega,h2⟩
  ·split at h
   ·rename_i hw
    simp only[QF]at h
    exact⟨k,by omega,h,hw⟩
   ·cases h
theorem Kd {c:Sc} {v w:Int} (hw:aI w=true):dQ c (d8 v w)=some w:=by
 have h:=aR.1 hw
 unfold d8
 rw[dQ,dQ.tyL]
 simp only
 rw[Pj (by decide),Pj (by decide),Pj (by decide)]
 have hm:=pz (x:=v) (w:=w) (by omega) (by omega)
 have e:fh 1 [] (v%2^w.toNat) w=w:=by
  show(if aI w=false∨v%2^w.toNat<0∨aE w<v%2^w.toNat then 0 else w)=w
  rw[Pj]
  rintro(h1 | h1 | h1)
  ·rw[hw]at h1;cases h1
  ·have:=hm.1;omega
  ·have:=hm.2;omega
 have ho:jc 1 [] (v%2^w.toNat) w=true:=by
  unfold jc
  rw[e,hw]
  rfl
 rw[Pn ho,e]
theorem Fm {s:Sg} {w:Int} {e:Ex} (h:e∈cy s w):dQ s.sc e=some w∧e.args=[]∧eN e=1:=by
 unfold cy at h
 rw[Qn]at h
 rcases h with h | h
 ·obtain⟨i,h1,rfl,h2⟩:=qs _ h
  refine⟨?_,rfl,rfl⟩
  unfold DK
  rw[dQ,dQ.tyL]
  simp only
  rw[Pn trivial,Pn ⟨by trivial,by simp,by show((i:Nat):Int)<(s.Pe.length:Int);omega⟩]
  show some (s.Pe.getD (i:Int).toNat 0)=some w
  rw[P7,h2]
 ·split at h
  ·rename_i hd
   obtain⟨i,h1,rfl,h2⟩:=qs _ h
   refine⟨?_,rfl,rfl⟩
   have ht:s.sc.tw=s.I:=by show(if s.data then s.I else [])=s.I;rw[Pn hd]
   unfold Fl
   rw[dQ,dQ.tyL]
   simp only
   rw[Pj (by decide),Pn trivial,ht,Pn ⟨by trivial,by simp,by omega⟩,P7,h2]
  ·cases h
theorem BM {s:Sg} {w b:Int} (hw:aI w=true) (hb:0≤b):dQ s.sc (a9 s w b)=some w∧(a9 s w b).args=[]∧eN (a9 s w b)=1:=by
 unfold a9
 split
 ·exact⟨Kd hw,rfl,rfl⟩
 ·rename_i hn
  simp only[not_or]at hn
  have h1:=QG (b / 4) (show(0:Int)<((cy s w).length:Int) by omega)
  have h0:=Qw (b / 4) (show((cy s w).length:Int)≠0 by omega)
  exact Fm (mu (by omega))
theorem vx {l:List Mm} {w:Int}:∀{n k m:Nat},nx l w n k=some m→k≤m∧m<k+n∧(l.getD m aA).w=w
 | 0,k,m,h=>by cases h
 | n+1,k,m,h=>by
  rw[nx]at h
  split at h
  ·rename_i hw;cases h;exact⟨by omega,by omega,hw⟩
  ·obtain⟨h1,h2,h3⟩:=vx h;exact⟨by omega,by omega,h3⟩
theorem yn {t:Nat→Int→Ex×Nat}:∀(ws:List Int) (i:Nat),(bi t ws i).1.length=ws.length
 | [],i=>rfl
 | w::r,i=>by rw[bi];simp[yn r]
theorem BN {c:Sc} {t:Nat→Int→Ex×Nat}:∀(ws:List Int) (i:Nat),(∀w∈ws,∀i,dQ c (t i w).1=some w)→dQ.tyL c (bi t ws i).1=some ws
 | [],i,_=>rfl
 | w::r,i,h=>by
  rw[bi,dQ.tyL,h w (by simp) i,BN r _ (fun w hw=>h w (by simp[hw]))]
theorem yo {t:Nat→Int→Ex×Nat} {n:Nat}:∀(ws:List Int) (i:Nat),(∀w∈ws,∀i,eN (t i w).1≤n)→eN.depL (bi t ws i).1≤n
 | [],i,_=>by rw[bi,eN.depL];exact Qb _
 | w::r,i,h=>by
  rw[bi,eN.depL]
  have h1:=h w (by simp) i
  have h2:=yo r (t i w).2 (fun w hw=>h w (by simp[hw]))
  omega
theorem tv {t:Nat→Int→Ex×Nat} {n:Nat}:∀(ws:List Int) (i:Nat),(∀w∈ws,∀i,i≤(t i w).2∧(t i w).2≤i+n)→i≤(bi t ws i).2∧(bi t ws i).2≤i+n*ws.length
 | [],i,_=>⟨Pl _,Nat.le_add_right _ _⟩
 | w::r,i,h=>by
  rw[bi]
  have h1:=h w (by simp) i
  have h2:=tv r (t i w).2 (fun w hw=>h w (by simp[hw]))
  have:n*(w::r).length=n*r.length+n:=by rw[P8,Nat.mul_succ]
  show i≤(bi t r (t i w).2).2∧(bi t r (t i w).2).2≤i+n*(w::r).length
  omega
theorem DL {k:Int} (h:4≤k) (h2:k<14):iI k=2∨iI k=3∨iI k=4∨iI k=5∨iI k=6∨iI k=7∨iI k=10∨iI k=8∨iI k=9∨iI k=11:=by
 have:k=4∨k=5∨k=6∨k=7∨k=8∨k=9∨k=10∨k=11∨k=12∨k=13:=by omega
 rcases this with rfl | rfl | rfl | rfl | rfl | rfl | rfl | rfl | rfl | rfl<;>decide
theorem zz {op:Int} {w k v:Int} (Sz:op=3∨op=4∨op=5∨op=6∨op=7) (hw:aI w=true):jc op [w,w] k v=true∧fh op [w,w] k v=w:=by
 have e:∀op,fh op [w,w] k v=w∨True:=fun _=>.inr trivial
 have ha:b8 [w,w]=w:=by unfold b8;rw[Pj (by simp)];rfl
 have hv:fh op [w,w] k v=b8 [w,w]:=by rcases Sz with rfl | rfl | rfl | rfl | rfl<;>rfl
 have hA:cO op=2:=by rcases Sz with rfl | rfl | rfl | rfl | rfl<;>decide
 refine⟨?_,by rw[hv,ha]⟩
 unfold jc
 rw[hv,ha,hA]
 simp[hw]
theorem Fo {y w:Int} (hk:4≤y%14) (h0:0≤y) (hw:1≤w) (hw8:w≤8):jc (qr y w) (jm y w) 0 0=true∧fh (qr y w) (jm y w) 0 0=w∧(qr y w≠16∧qr y w≠18∧qr y w≠17)∧(∀v∈jm y w,1≤v∧(v≤w∨v≤3))∧(jm y w).length≤3:=by
 have hf:aI w=true:=aR.2 ⟨hw,hw8⟩
 have hc:=DL hk (by omega)
 unfold qr jm
 simp only
 have hn:(1:Int)≤1+y / 14%3∧1+y / 14%3≤3:=by omega
 generalize hv:1+y / 14%3=v at *
 have SS:aI v=true:=aR.2 ⟨hn.1,by omega⟩
 rcases hc with h | h | h | h | h | h | h | h | h | h<;>rw[h]<;>simp only[Int.reduceEq,false_or,or_false,false_and,QY,true_and,Q7,or_true,true_or]
 ·refine⟨?_,rfl,by decide,by simp;omega,by simp⟩
  show(decide (([w].length:Int)=cO 2)&&[w].all aI&&aI w)=true
  simp[hf];decide
 ·exact⟨(zz (by simp) hf).1,(zz (by simp) hf).2,by decide,by simp;omega,by simp⟩
 ·exact⟨(zz (by simp) hf).1,(zz (by simp) hf).2,by decide,by simp;omega,by simp⟩
 ·exact⟨(zz (by simp) hf).1,(zz (by simp) hf).2,by decide,by simp;omega,by simp⟩
 ·exact⟨(zz (by simp) hf).1,(zz (by simp) hf).2,by decide,by simp;omega,by simp⟩
 ·exact⟨(zz (by simp) hf).1,(zz (by simp) hf).2,by decide,by simp;omega,by simp⟩
 ·have e:fh 10 [1,w,w] 0 0=w:=by
   show(if (1:Int)≠1∨w≠w then 0 else w)=w
   rw[Pj (by simp)]
  refine⟨?_,e,by decide,by simp;omega,by simp⟩
  unfold jc
  rw[e]
  simp[hf];decide
 ·split
  ·exact⟨(zz (by simp) hf).1,(zz (by simp) hf).2,by decide,by simp;omega,by simp⟩
  ·have VI:w=1:=by omega
   subst VI
   have ha:b8 [v,v]=v:=by unfold b8;rw[Pj (by simp)];rfl
   have e:fh 8 [v,v] 0 0=1:=by
    show min (b8 [v,v]) 1=1
    rw[ha];omega
   refine⟨?_,e,by decide,by simp;omega,by simp⟩
   unfold jc
   rw[e]
   simp[SS];decide
 ·split
  ·exact⟨(zz (by simp) hf).1,(zz (by simp) hf).2,by decide,by simp;omega,by simp⟩
  ·have VI:w=1:=by omega
   subst VI
   have ha:b8 [v,v]=v:=by unfold b8;rw[Pj (by simp)];rfl
   have e:fh 9 [v,v] 0 0=1:=by
    show min (b8 [v,v]) 1=1
    rw[ha];omega
   refine⟨?_,e,by decide,by simp;omega,by simp⟩
   unfold jc
   rw[e]
   simp[SS];decide
 ·split
  ·exact⟨(zz (by simp) hf).1,(zz (by simp) hf).2,by decide,by simp;omega,by simp⟩
  ·have e:fh 11 [w-1,1] 0 0=w:=by
    show(w-1)+1=w
    omega
   have hf1:aI (w-1)=true:=aR.2 ⟨by omega,by omega⟩
   refine⟨?_,e,by decide,by simp;omega,by simp⟩
   unfold jc
   rw[e]
   simp[hf,hf1];decide
theorem tx {s:Sg} {b:List Int} (hb:gf b):∀(d i:Nat) (w:Int),d≤3→1≤w→w+d≤8→dQ s.sc (ap s b d i w).1=some w∧eN (ap s b d i w).1≤max d 1∧i≤(ap s b d i w).2∧(ap s b d i w).2≤i+4^d:=by
 intro d
 induction d with
 | zero =>
  intro i w h3 h1 h2
  have hy:=b5 hb i
  obtain⟨q1,q2,q3⟩:=BM (s:=s) (w:=w) (b:=b.getD i 0 / 14) (aR.2 ⟨h1,by omega⟩) (by omega)
  rw[ap]
  exact⟨q1,by show eN (a9 s w (b.getD i 0 / 14))≤1;omega,by show i≤i+1;omega,by show i+1≤i+4^0;omega⟩
 | succ d ih =>
  intro i w h3 h1 h2
  have hy:=b5 hb i
  have hp:1≤4^d:=Nat.one_le_pow _ _ (by omega)
  have hpow:4^(d+1)=4*4^d:=by rw[Nat.pow_succ];omega
  rw[ap]
  split
  ·obtain⟨q1,q2,q3⟩:=BM (s:=s) (w:=w) (b:=b.getD i 0 / 14) (aR.2 ⟨h1,by omega⟩) (by omega)
   exact⟨q1,by show eN (a9 s w (b.getD i 0 / 14))≤_;omega,by show i≤i+1;omega,by show i+1≤i+4^(d+1);omega⟩
  ·rename_i hn
   simp only[not_or]at hn
   split
   ·generalize hz:b.getD i 0 / 14=z
    have hz0:0≤z:=by omega
    unfold br
    split
    ·rename_i m hm
     split at hm
     ·obtain⟨e1,e2,e3⟩:=vx hm
      obtain⟨q1,q2,q3,q4⟩:=ih (i+1) (1+z / 3%3) (by omega) (by omega) (by omega)
      refine⟨?_,?_,by simp only;omega,by simp only;omega⟩
      ·simp only
       rw[dQ,dQ.tyL,q1,dQ.tyL]
       simp only
       rw[Pj (by decide),Pj (by decide),Pn trivial]
       have hl:(s.sc.mw.length:Int)=s.Pd.length:=by show((s.Pd.map (·.w)).length:Int)=_;simp
       rw[Pn ⟨rfl,by simp,by rw[hl];show((m:Nat):Int)<_;omega⟩]
       show some ((s.Pd.map (·.w)).getD (m:Int).toNat 0)=some w
       rw[P7,da (·.w) s.Pd m aA 0 (by omega),e3]
      ·rw[eN,eN.depL,eN.depL];omega
     ·cases hm
    ·rename_i hm
     split
     ·rename_i hc
      obtain⟨q1,q2,q3,q4⟩:=ih (i+1) (w-1) (by omega) (by omega) (by omega)
      refine⟨?_,?_,by simp only;omega,by simp only;omega⟩
      ·simp only
       rw[dQ,dQ.tyL,q1,dQ.tyL]
       simp only
       rw[Pj (by decide),Pj (by decide),Pj (by decide)]
       have e:fh 13 [w-1] 0 w=w:=by
        show(if w<w-1 then 0 else w)=w
        rw[Pj (by omega)]
       have ho:jc 13 [w-1] 0 w=true:=by
        unfold jc
        rw[e]
        have f1:aI w=true:=aR.2 ⟨h1,by omega⟩
        have f2:aI (w-1)=true:=aR.2 ⟨by omega,by omega⟩
        simp[f1,f2];decide
       rw[Pn ho,e]
      ·rw[eN,eN.depL,eN.depL];omega
     ·have hm2:z / 3%2=0∨z / 3%2=1:=by omega
      obtain⟨q1,q2,q3,q4⟩:=ih (i+1) (w+z / 3%2) (by omega) (by omega) (by omega)
      refine⟨?_,?_,by simp only;omega,by simp only;omega⟩
      ·simp only
       rw[dQ,dQ.tyL,q1,dQ.tyL]
       simp only
       rw[Pj (by decide),Pj (by decide),Pj (by decide)]
       have f1:aI w=true:=aR.2 ⟨h1,by omega⟩
       have f2:aI (w+z / 3%2)=true:=aR.2 ⟨by omega,by omega⟩
       have e:fh 12 [w+z / 3%2] (z / 3%2) w=w:=by
        show(if aI w=false∨z / 3%2<0∨(w+z / 3%2)-w<z / 3%2 then 0 else w)=w
        rw[Pj]
        rintro(hh | hh | hh)
        ·rw[f1]at hh;cases hh
        ·omega
        ·omega
       have ho:jc 12 [w+z / 3%2] (z / 3%2) w=true:=by
        unfold jc
        rw[e]
        simp[f1,f2];decide
       rw[Pn ho,e]
      ·rw[eN,eN.depL,eN.depL];omega
   ·obtain⟨o1,o2,o3,o4,o5⟩:=Fo (y:=b.getD i 0) (w:=w) (by omega) hy.1 h1 (by omega)
    have key:∀v∈jm (b.getD i 0) w,∀i,dQ s.sc (ap s b d i v).1=some v∧eN (ap s b d i v).1≤max d 1∧i≤(ap s b d i v).2∧(ap s b d i v).2≤i+4^d:=by
     intro v hv j
     have:=o4 v hv
     exact ih j v (by omega) this.1 (by omega)
    have hty:=BN (c:=s.sc) (t:=ap s b d) (jm (b.getD i 0) w) (i+1) (fun v hv j=>(key v hv j).1)
    have hdp:=yo (t:=ap s b d) (n:=max d 1) (jm (b.getD i 0) w) (i+1) (fun v hv j=>(key v hv j).2.1)
    have hps:=tv (t:=ap s b d) (n:=4^d) (jm (b.getD i 0) w) (i+1) (fun v hv j=>(key v hv j).2.2)
    refine⟨?_,?_,by simp only;omega,?_⟩
    ·rw[dQ,hty]
     simp only
     rw[Pj o3.1,Pj o3.2.1,Pj o3.2.2,Pn o1,o2]
    ·rw[eN];omega
    ·simp only
     have:4^d*(jm (b.getD i 0) w).length≤4^d*3:=Q8 _ o5
     omega
theorem Fp {s:Sg} {w b:Int} (h:(cy s w).length=0∨b%4=0):a9 s w b=d8 (b / 4) w:=Pn h
theorem Fq {s:Sg} {w b:Int} (h1:¬((cy s w).length:Int)=0) (h2:¬b%4=0):a9 s w b=(cy s w).getD (b / 4%((cy s w).length:Int)).toNat dE:=Pj (by rintro(h | h)<;>omega)
theorem vy (s:Sg) (w b:Int):(a9 s w b).args=[]:=by
 unfold a9
 split
 ·rfl
 ·by_cases h:(b / 4%((cy s w).length:Int)).toNat<(cy s w).length
  ·exact(Fm (mu h)).2.1
  ·rw[List.getD,P2 (by omega)];rfl
theorem LU {s:Sg} {t:Nat→Int→Ex×Nat} {w b:Int} {i k:Nat} (h:b%3=0) (hm:nx s.Pd w s.Pd.length 0=some k):br s t w b i=(⟨17,e0,⟨k,e0⟩,dN,[(t i (1+b / 3%3)).1]⟩,(t i (1+b / 3%3)).2):=by
 unfold br;rw[Pn h,hm]
theorem Fr {s:Sg} {t:Nat→Int→Ex×Nat} {w b:Int} {i:Nat} (h:b%3=1) (hw:w>1):br s t w b i=(⟨13,e0,dN,⟨w,e0⟩,[(t i (w-1)).1]⟩,(t i (w-1)).2):=by
 unfold br;rw[Pj (by omega)];simp only;rw[Pn ⟨h,hw⟩]
theorem Fs {s:Sg} {t:Nat→Int→Ex×Nat} {w b:Int} {i:Nat} (hm:b%3=0→nx s.Pd w s.Pd.length 0=none) (h:¬(b%3=1∧w>1)):br s t w b i=(⟨12,e0,⟨b / 3%2,e0⟩,⟨w,e0⟩,[(t i (w+b / 3%2)).1]⟩,(t i (w+b / 3%2)).2):=by
 unfold br
 have e:(if b%3=0 then nx s.Pd w s.Pd.length 0 else none)=none:=by split;exact hm ‹_›;rfl
 rw[e];simp only;rw[Pj h]
theorem BO {l:List Mm} {w:Int} {k:Nat} (hk:k<l.length) (h:¬(l.getD k aA).w=w):nx l w (l.length-k) k=nx l w (l.length-(k+1)) (k+1):=by
 have e:l.length-k=(l.length-(k+1))+1:=by omega
 rw[e,nx,Pj h]
theorem Ft {l:List Mm} {w:Int} {k:Nat} (hk:k<l.length) (h:(l.getD k aA).w=w):nx l w (l.length-k) k=some k:=by
 have e:l.length-k=(l.length-(k+1))+1:=by omega
 rw[e,nx,Pn h]
theorem tz {l:List Mm} {w:Int} {k:Nat} (hk:¬k<l.length):nx l w (l.length-k) k=none:=by
 have e:l.length-k=0:=by omega
 rw[e,nx]
theorem Fu {s:Sg} {b:List Int} {d i:Nat} {w:Int} (h:d≤1):ap s b d i w=(a9 s w (b.getD i 0 / 14),i+1):=by
 cases d with
 | zero=>rfl
 | succ d=>rw[ap];rw[Pn (.inl (by omega))]
theorem Ke {s:Sg} {b:List Int} {d i:Nat} {w:Int} (h:b.getD i 0%14<2):ap s b (d+1+1) i w=(a9 s w (b.getD i 0 / 14),i+1):=by
 rw[ap];rw[Pn (.inr h)]
theorem Fv {s:Sg} {b:List Int} {d i:Nat} {w:Int} (h:b.getD i 0%14=2∨b.getD i 0%14=3):ap s b (d+1+1) i w=br s (ap s b (d+1)) w (b.getD i 0 / 14) (i+1):=by
 rw[ap];rw[Pj (by omega),Pn h]
theorem Ai {s:Sg} {b:List Int} {d i:Nat} {w:Int} (h:¬b.getD i 0%14<2) (h2:¬b.getD i 0%14=2) (h3:¬b.getD i 0%14=3):ap s b (d+1+1) i w=(⟨qr (b.getD i 0) w,e0,dN,dN,(bi (ap s b (d+1)) (jm (b.getD i 0) w) (i+1)).1⟩,(bi (ap s b (d+1)) (jm (b.getD i 0) w) (i+1)).2):=by
 rw[ap];rw[Pj (by omega),Pj (by omega)]
theorem qt {t:Nat→Int→Ex×Nat}:∀(l:List Int) (i k:Nat),k<l.length→bi t (l.take (k+1)) i=((bi t (l.take k) i).1++[(t (bi t (l.take k) i).2 (l.getD k 0)).1],(t (bi t (l.take k) i).2 (l.getD k 0)).2)
 | [],i,k,h=>by cases h
 | w::r,i,0,h=>by simp[bi]
 | w::r,i,k+1,h=>by
  simp only[Rl,bi]
  rw[qt r _ k (by simpa using h)]
  simp
theorem Kf {s:Sg} {b:List Int} (hb:gf b) {y w:Int} {d k:Nat} (i:Nat) (h1:1≤w) (h2:w+(d+2:Nat)≤8) (h3:d+2≤3) (hy:4≤y%14) (hy0:0≤y) (hk:k<(jm y w).length):1≤(jm y w).getD k 0∧(jm y w).getD k 0+(d+1:Nat)≤8∧i≤(bi (ap s b (d+1)) ((jm y w).take k) i).2∧(bi (ap s b (d+1)) ((jm y w).take k) i).2+4^(d+1)+1≤i+4^(d+2):=by
 obtain⟨o1,o2,o3,o4,o5⟩:=Fo hy hy0 h1 (by omega:w≤8)
 have hm:(jm y w).getD k 0∈jm y w:=by
  rw[List.getD,Ph hk];exact QX hk
 have hv:=o4 _ hm
 have hps:=tv (t:=ap s b (d+1)) (n:=4^(d+1)) ((jm y w).take k) i (fun v hv j=>by
  have hh:=o4 v (List.mem_of_mem_take hv)
  exact(tx hb (d+1) j v (by omega) hh.1 (by omega)).2.2)
 have hl:((jm y w).take k).length≤2:=by rw[PD];omega
 have hq:4^(d+1)*((jm y w).take k).length≤4^(d+1)*2:=Q8 _ hl
 have hp:1≤4^(d+1):=Nat.one_le_pow _ _ (by omega)
 have hpow:4^(d+2)=4*4^(d+1):=by rw[Nat.pow_succ];omega
 exact⟨hv.1,by omega,hps.1,by omega⟩
theorem OU {x:Int} {n:Nat} (h:¬(n:Int)=0):IX (x%(n:Int)) (n:Int):=⟨Qw x h,QG x (by omega)⟩
end Go.Proofs.Ytnlmlkbaflmgcaa
