/- Parts of a proof. -/
import Derived.Test.YtgmpoenfoacofaaQDr
namespace Go.Proofs.Ytgmpoenfoacofaa
open Go.RowKit
set_option linter.unusedVariables false
set_option linter.unusedSimpArgs false
def Gh (st I':St):Prop:=∀(C:jC) (S:Nat→Prop) (μ:Nat→Value) (a:Act) (w:World),aK C S μ st a w→∃S' μ',aK C S' μ' I' a w
structure Ja:Type 1 where
 F:St→St×Prop
 ok:∀st,(F st).2→Gh st (F st).1
section
variable {C:jC} {S:Nat→Prop} {μ μ':Nat→Value} {st:St} {a:Act} {w:World}
theorem Gh.trans {Nt Qu st3:St} (h1:Gh Nt Qu) (h2:Gh Qu st3):Gh Nt st3:=fun C S μ a w h=>by
 obtain⟨S1,μ1,h'⟩:=h1 C S μ a w h
 exact h2 C S1 μ1 a w h'
theorem Gh.kill (id:Nat) (st:St):Gh st (st.kill id):=fun C S μ a w h=>⟨S,μ,h.kill id⟩
def HK (g r q:Nat) (c c':D):Prop:=(c=.gr g r∧c'=.own q)∨(c'=c∧((∃r',c=.gr g r'∧r'≠r)∨(∃x,c=.v x)∨(c=.nils)∨∃p,c=.own p∧p≠q∧p≠g))
def xL.box (x:xL):am:=.arr x.E x.sz x.enc x.d x.l
def yw (x:xL):xL:=⟨x.E,x.sz,x.α,x.enc,x.d,[]⟩
def C8 (f:Nat→xL) (r:Nat) (x:xL):Nat→xL:=fun i=>if i=r then x else f i
def zR (a g r:Nat) (M1:Nat→Nat→D) (st:St):St×Prop:=match st.heap[a]?,st.heap[g]? with
 | some (.arrD E sz n gs cell),some (.grp m f) =>
  if bj st.heap.length st.env&&aP st.heap.length st.heap then
   (⟨jE g st.env,(((bS g st.heap).set a (.arrD E sz n (st.heap.length::gs) M1)).set g (.grp m (C8 f r (yw (f r)))))++[(f r).box]⟩,
    r<m∧∀i j,i<n→j<sz→HK g r st.heap.length (cell i j) (M1 i j))
  else (st,False)
 | _,_=>(st,False)
theorem C9 (S:Nat→Prop) (w:World) (x:xL):oC S w (.slice none 0 0) (yw x) :=
 ⟨fun i y hy=>(List.not_mem_nil (Lb (show([]:List x.α)[i]?=some y from hy))).elim,[],LW w 0 _ _,fun i z j y hz=>(List.not_mem_nil (Lb (show([]:List x.α)[i]?=some z from hz))).elim⟩
theorem ah.two {d:D} {u x y:Value} {g q:Nat} (h:ah S μ w d u) (hq:D.free q d=true):ah S (aM (aM μ q x) g y) w (Proofs.Ytgmpoenfoacofaa.killD g d) u:=by
 have h1:ah S (aM μ q x) w d u:=h.stable (fun _ h _=>h) (fun _ _ _=>rfl) (KI _) (fun id M5=>av _ _ (fun e=>by rw[e,hq]at M5;cases M5))
 exact(h1.killD (id:=g)).stable (fun _ h _=>h) (fun _ _ _=>rfl) (KI _) (fun id M5=>av _ _ (fun e=>by rw[e,iZ]at M5;cases M5))
theorem t9 (g:Nat) (B:am):am.free g (B.kill g)=true:=by
 have:=i2 g [B]
 simp only[bS,aP,MO]at this
 exact this
theorem az.two {B:am} {u x y:Value} {g q:Nat} (h:az S μ w u B) (hq:am.free q B=true):az S (aM (aM μ q x) g y) w u (B.kill g):=by
 have h1:az S (aM μ q x) w u B:=h.stable (fun _ h _=>h) (fun _ _ _=>rfl) (KI _) (fun id M5=>av _ _ (fun e=>by rw[e,hq]at M5;cases M5)) (fun _ _=>rfl)
 exact(h1.kill (id:=g)).stable (fun _ h _=>h) (fun _ _ _=>rfl) (KI _) (fun id M5=>av _ _ (fun e=>by rw[e,t9]at M5;cases M5)) (fun _ _=>rfl)
theorem yx {g r:Nat} {u:Value} (h:ah S μ w (.gr g r) u):∃us:Array Value,μ g=.tuple us∧us[r]?=some u∧u.oneCell'=true:=by
 cases h with
 | gr _ _ us _ h1 h2 h3=>exact⟨us,h1,h2,h3⟩
theorem Da {H:List am} {g a i:Nat} {A G X B:am} (ha:a<H.length) (hg:g<H.length) (h:(((bS g H).set a A).set g G++[X])[i]?=some B) :
  (i=H.length∧B=X)∨(i=g∧B=G)∨(i=a∧i≠g∧B=A)∨(i≠H.length∧i≠g∧i≠a∧∃B0,H[i]?=some B0∧B=B0.kill g):=by
 have hl:(((bS g H).set a A).set g G).length=H.length:=by rw[LF,LF,bR]
 by_cases hi:i<H.length
 ·rw[KL (by omega)]at h
  refine .inr ?_
  by_cases e1:i=g
  ·subst e1
   rw[KY (by rw[LF,bR];exact hg)]at h
   cases h
   exact .inl ⟨rfl,rfl⟩
  ·rw[KW (fun e=>e1 e.symm)]at h
   refine .inr ?_
   by_cases e2:i=a
   ·subst e2
    rw[KY (by rw[bR];exact ha)]at h
    cases h
    exact .inl ⟨rfl,e1,rfl⟩
   ·rw[KW (fun e=>e2 e.symm),ez]at h
    cases hc:H[i]? with
    | none=>rw[hc]at h;cases h
    | some B0=>rw[hc]at h;simp at h;exact .inr ⟨by omega,e1,e2,B0,rfl,h.symm⟩
 ·rw[KR (by omega),hl]at h
  have:i=H.length:=by
   have:=(KE.1 h).1
   simp at this
   omega
  subst this
  simp at h
  exact .inl ⟨rfl,h.symm⟩
theorem E8 (a g r:Nat) (M1:Nat→Nat→D) (st:St) (hp:(zR a g r M1 st).2):Gh st (zR a g r M1 st).1:=fun C S μ act w h=>by
 unfold zR at hp ⊢
 split
 rotate_left
 ·rename_i hn
  split at hp
  ·rename_i E sz n gs cell m f h1 h2;exact(hn _ _ _ _ _ _ _ h1 h2).elim
  ·exact hp.elim
 rename_i E sz n gs cell m f P3 Ow
 rw[P3,Ow]at hp
 split
 rotate_left
 ·rename_i hc;simp only at hp;rw[KK hc]at hp;exact hp.elim
 rename_i hc
 simp only at hp
 rw[KT hc]at hp
 simp only[KD]at hc
 obtain⟨fE,fH⟩:=hc
 obtain⟨hr,NL⟩:=hp
 generalize hq:st.heap.length=q at *
 have hag:a≠g:=fun e=>by rw[e,Ow]at P3;cases P3
 have NA:a<q:=by rw[← hq];exact(KE.1 P3).1
 have hgl:g<q:=by rw[← hq];exact(KE.1 Ow).1
 obtain⟨us,Nj,M0,Ng,Rf⟩:=h.heap.box g _ Ow
 obtain⟨a0,xs,a1,a2⟩:=h.heap.box a _ P3
 have R3:r<us.size:=by omega
 obtain⟨OP,hRr⟩:=Ng r us[r] (K0 R3)
 generalize hv:us[r]=v at *
 have hvr:us[r]?=some v:=by rw[K0 R3,hv]
 let N8:=us.setIfInBounds r (.slice none 0 0)
 have Pj:∀k,N8[k]?=if k=r then some (.slice none 0 0)else us[k]?:=by
  intro k
  by_cases hk:k=r
  ·subst hk;rw[KT rfl];simp[N8,R3]
  ·rw[KK hk];simp only[N8];exact Lz (fun e=>hk e.symm)
 have N6:∀(i:Nat) (B:am),((((bS g st.heap).set a (.arrD E sz n (q::gs) M1)).set g (.grp m (C8 f r (yw (f r)))))++[(f r).box])[i]?=some B→_:=fun i B hB=>Da (by rw[hq];exact NA) (by rw[hq];exact hgl) hB
 rw[hq]at N6
 have mq:aM (aM μ q v) g (.tuple N8) q=v:=by rw[av _ _ (by omega),ao]
 have mg:aM (aM μ q v) g (.tuple N8) g=.tuple N8:=ao _ _ _
 have mo:∀i,i≠g→i≠q→aM (aM μ q v) g (.tuple N8) i=μ i:=fun i h1 h2=>by rw[av _ _ h1,av _ _ h2]
 have own:∀(i:Nat) (B:am) (b:Nat),((((bS g st.heap).set a (.arrD E sz n (q::gs) M1)).set g (.grp m (C8 f r (yw (f r)))))++[(f r).box])[i]?=some B→B.live=true→bi (aM (aM μ q v) g (.tuple N8) i) b →
   (i=q∧aA v=some b)∨(i=g∧∃k x,k≠r∧us[k]?=some x∧aA x=some b)∨(i≠q∧i≠g∧∃A,st.heap[i]?=some A∧A.live=true∧bi (μ i) b):=by
  intro i B b hB hl hb
  rcases N6 i B hB with ⟨rfl,rfl⟩ | ⟨rfl,rfl⟩ | ⟨rfl,NF,rfl⟩ | ⟨h1,h2,h3,B0,Ox,rfl⟩
  ·rw[mq]at hb
   exact .inl ⟨rfl,hb.bl OP⟩
  ·rw[mg]at hb
   rcases hb with hb | ⟨us2,e,k,x,hk,hx⟩
   ·cases hb
   ·cases e
    rw[Pj]at hk
    split at hk
    ·cases hk;cases hx
    ·rename_i hkr;exact .inr (.inl ⟨rfl,k,x,hkr,hk,hx⟩)
  ·rw[mo i NF (by omega)]at hb
   exact .inr (.inr ⟨by omega,NF,_,P3,rfl,hb⟩)
  ·rw[mo i h2 h1]at hb
   rw[eB]at hl
   exact .inr (.inr ⟨h1,h2,B0,Ox,hl,hb⟩)
 have QV:∀(k:Nat) (x:Value) (b:Nat),us[k]?=some x→aA x=some b→bi (μ g) b:=fun k x b hk hx=>.inr ⟨us,Nj,k,x,hk,hx⟩
 refine⟨S,aM (aM μ q v) g (.tuple N8),h.retell ?_ ?_ ?_ ?_ ?_⟩
 ·intro t d hm
  obtain⟨e,he,rfl⟩:=ey hm
  exact⟨e,he,fun u hu=>hu.two (cE fE he)⟩
 ·intro i B hB
  rcases N6 i B hB with ⟨rfl,rfl⟩ | ⟨rfl,rfl⟩ | ⟨rfl,NF,rfl⟩ | ⟨h1,h2,h3,B0,Ox,rfl⟩
  ·rw[mq];exact hRr
  ·rw[mg]
   refine⟨N8,rfl,by simp[N8,M0],fun k x hk=>?_,fun k k' x x' b hk NH hx OZ=>?_⟩
   ·rw[Pj]at hk
    split at hk
    ·rename_i e
     cases hk
     subst e
     refine⟨rfl,?_⟩
     rw[show C8 f k (yw (f k)) k=yw (f k)from KT rfl]
     exact C9 S w (f k)
    ·rename_i e
     rw[show C8 f r (yw (f r)) k=f k from KK e]
     exact Ng k x hk
   ·rw[Pj]at hk NH
    split at hk
    ·cases hk;cases hx
    ·split at NH
     ·cases NH;cases OZ
     ·exact Rf k k' x x' b hk NH hx OZ
  ·rw[mo i NF (by omega)]
   refine⟨fun j k id hj hk M5=>?_,xs,a1,fun j k hj hk=>?_⟩
   ·simp only[List.all_cons,KD]at M5
    rcases NL j k hj hk with ⟨_,e⟩ | ⟨e,_⟩
    ·rw[e];exact M5.1
    ·rw[e];exact a0 j k id hj hk M5.2
   ·obtain⟨z,hz,ho,hd⟩:=a2 j k hj hk
    refine⟨z,hz,ho,?_⟩
    rcases NL j k hj hk with ⟨e1,e2⟩ | ⟨e,hc⟩
    ·rw[e1]at hd
     obtain⟨us2,g1,g2,_⟩:=yx hd
     rw[Nj]at g1
     cases g1
     rw[hvr]at g2
     cases g2
     rw[e2]
     have:=ah.own (S:=S) (μ:=aM (aM μ q v) g (.tuple N8)) (w:=w) q
     rwa [mq]at this
    ·rw[e]
     rcases hc with ⟨r',e1,e2⟩ | ⟨x,e1⟩ | e1 | ⟨p,e1,e2,e3⟩
     ·rw[e1]at hd ⊢
      obtain⟨us2,g1,g2,g3⟩:=yx hd
      rw[Nj]at g1
      cases g1
      exact .gr g r' N8 z mg (by rw[Pj,KK e2];exact g2) g3
     ·rw[e1]at hd ⊢
      exact .v _ _ (ba hd)
     ·rw[e1]at hd ⊢
      cases hd
      exact .nils
     ·rw[e1]at hd ⊢
      have hu:=a6 hd
      have:=ah.own (S:=S) (μ:=aM (aM μ q v) g (.tuple N8)) (w:=w) p
      rw[mo p e3 e2]at this
      rw[hu]
      exact this
  ·rw[mo i h2 h1]
   exact(h.heap.box i B0 Ox).two (b8 fH Ox)
 ·intro i B b hB hl hb
  rcases own i B b hB hl hb with ⟨rfl,hv'⟩ | ⟨rfl,k,x,_,hk,hx⟩ | ⟨_,_,A,hA,RL,hb⟩
  ·exact⟨g,_,Ow,rfl,QV r v b hvr hv'⟩
  ·exact⟨i,_,Ow,rfl,QV k x b hk hx⟩
  ·exact⟨i,A,hA,RL,hb⟩
 ·intro i j A B b hA hB lA lB QU hbj
  rcases own i A b hA lA QU with ⟨rfl,OA⟩ | ⟨rfl,k,x,hkr,hk,hx⟩ | ⟨n1,n2,A0,hA0,OB,Rh⟩<;>rcases own j B b hB lB hbj with ⟨rfl,Pf⟩ | ⟨rfl,k',x',hkr',NH,OZ⟩ | ⟨n3,n4,B0,Ox,P4,P5⟩
  ·rfl
  ·exact(hkr' (Rf r k' v x' b hvr NH OA OZ).symm).elim
  ·exact(n4 (h.heap.apart j g B0 _ b Ox Ow P4 rfl P5 (QV r v b hvr OA))).elim
  ·exact(hkr (Rf k r x v b hk hvr hx Pf)).elim
  ·rfl
  ·exact(n4 (h.heap.apart j i B0 _ b Ox Ow P4 rfl P5 (QV k x b hk hx))).elim
  ·exact(n2 (h.heap.apart i g A0 _ b hA0 Ow OB rfl Rh (QV r v b hvr Pf))).elim
  ·exact(n2 (h.heap.apart i j A0 _ b hA0 Ow OB rfl Rh (QV k' x' b NH OZ))).elim
  ·exact h.heap.apart i j A0 B0 b hA0 Ox OB P4 Rh P5
 ·intro i B hB Oj
  rcases N6 i B hB with ⟨rfl,rfl⟩ | ⟨rfl,rfl⟩ | ⟨rfl,NF,rfl⟩ | ⟨h1,h2,h3,B0,Ox,rfl⟩
  ·cases Oj
  ·cases Oj
  ·cases Oj
  ·rw[qo]at Oj
   rw[show B0.kill g=B0 from by cases B0<;>first | rfl | cases Oj]
   exact⟨Ox,mo i h2 h1⟩
def take (a g r:Nat) (M1:Nat→Nat→D):Ja:=⟨zR a g r M1,E8 a g r M1⟩
def Jb (g r q:Nat) (c c':D):Prop:=(c=.own q∧c'=.gr g r)∨(c'=c∧((∃r',c=.gr g r'∧r'≠r)∨(∃x,c=.v x)∨(c=.nils)∨∃p,c=.own p∧p≠q∧p≠g))
def E9 (a g q r m':Nat) (M1:Nat→Nat→D) (f':Nat→xL) (st:St):St×Prop:=match st.heap[a]?,st.heap[g]?,st.heap[q]? with
 | some (.arrD E sz n gs cell),some (.grp m f),some (.arr E2 Qv enc d l) =>
   (⟨jE q (jE g st.env),(((bS q (bS g st.heap)).set a (.arrD E sz n (g::gs) M1)).set g (.grp m' f')).set q .dead⟩,
    r≤m∧m'=max m (r+1)∧(∀k,k<m'→f' k=if k=r then ⟨E2,Qv,_,enc,d,l⟩else f k)∧∀i j,i<n→j<sz→Jb g r q (cell i j) (M1 i j))
 | _,_,_=>(st,False)
theorem Db {H:List am} {q g a i:Nat} {A G B:am} (ha:a<H.length) (hg:g<H.length) (hq:q<H.length) (h:((((bS q (bS g H)).set a A).set g G).set q .dead)[i]?=some B) :
  (i=q∧B=.dead)∨(i=g∧i≠q∧B=G)∨(i=a∧i≠g∧i≠q∧B=A)∨(i≠q∧i≠g∧i≠a∧∃B0,H[i]?=some B0∧B=(B0.kill g).kill q):=by
 by_cases e0:i=q
 ·subst e0
  rw[KY (by simp only[LF,bR];exact hq)]at h
  cases h
  exact .inl ⟨rfl,rfl⟩
 ·rw[KW (fun e=>e0 e.symm)]at h
  refine .inr ?_
  by_cases e1:i=g
  ·subst e1
   rw[KY (by simp only[LF,bR];exact hg)]at h
   cases h
   exact .inl ⟨rfl,e0,rfl⟩
  ·rw[KW (fun e=>e1 e.symm)]at h
   refine .inr ?_
   by_cases e2:i=a
   ·subst e2
    rw[KY (by simp only[bR];exact ha)]at h
    cases h
    exact .inl ⟨rfl,e1,e0,rfl⟩
   ·rw[KW (fun e=>e2 e.symm),ez,ez]at h
    cases hc:H[i]? with
    | none=>rw[hc]at h;cases h
    | some B0=>rw[hc]at h;simp at h;exact .inr ⟨e0,e1,e2,B0,rfl,h.symm⟩
theorem GJ (a g q r m':Nat) (M1:Nat→Nat→D) (f':Nat→xL) (st:St) (hp:(E9 a g q r m' M1 f' st).2):Gh st (E9 a g q r m' M1 f' st).1:=fun C S μ act w h=>by
 unfold E9 at hp ⊢
 split
 rotate_left
 ·rename_i hn
  split at hp
  ·rename_i E sz n gs cell m f E2 Qv α enc d l h1 h2 h3;exact(hn _ _ _ _ _ _ _ _ _ _ _ _ _ h1 h2 h3).elim
  ·exact hp.elim
 rename_i E sz n gs cell m f E2 Qv α enc d l P3 Ow hbq
 rw[P3,Ow,hbq]at hp
 obtain⟨hr,rfl,hf',NL⟩:=hp
 have hag:a≠g:=fun e=>by rw[e,Ow]at P3;cases P3
 have haq:a≠q:=fun e=>by rw[e,hbq]at P3;cases P3
 have hgq:g≠q:=fun e=>by rw[e,hbq]at Ow;cases Ow
 have NA:=(KE.1 P3).1
 have hgl:=(KE.1 Ow).1
 have PR:=(KE.1 hbq).1
 obtain⟨us,Nj,M0,Ng,Rf⟩:=h.heap.box g _ Ow
 obtain⟨a0,xs,a1,a2⟩:=h.heap.box a _ P3
 have hB:=h.heap.box q _ hbq
 have OP:(μ q).oneCell'=true:=by
  obtain⟨p',c',hm,_⟩:=bv hB
  rw[hm]
  rfl
 obtain⟨N8,R4,Pj⟩:∃N8:Array Value,N8.size=max m (r+1)∧∀k,N8[k]?=if k=r then some (μ q)else us[k]?:=by
  by_cases hrm:r<m
  ·refine⟨us.setIfInBounds r (μ q),by rw[Array.size_setIfInBounds];omega,fun k=>?_⟩
   by_cases hk:k=r
   ·subst hk;rw[KT rfl];simp[M0,hrm]
   ·rw[KK hk];exact Lz (fun e=>hk e.symm)
  ·refine⟨us.push (μ q),by rw[Array.size_push];omega,fun k=>?_⟩
   have hrm':r=us.size:=by omega
   rw[Array.getElem?_push]
   by_cases hk:k=r
   ·rw[KT hk,KT (by omega)]
   ·rw[KK hk,KK (by omega)]
 have N6:∀(i:Nat) (B:am),((((bS q (bS g st.heap)).set a (.arrD E sz n (g::gs) M1)).set g (.grp (max m (r+1)) f')).set q .dead)[i]?=some B→_:=fun i B hB=>Db NA hgl PR hB
 have mg:aM μ g (.tuple N8) g=.tuple N8:=ao _ _ _
 have mo:∀i,i≠g→aM μ g (.tuple N8) i=μ i:=fun i h1=>av _ _ h1
 have own:∀(i:Nat) (B:am) (b:Nat),((((bS q (bS g st.heap)).set a (.arrD E sz n (g::gs) M1)).set g (.grp (max m (r+1)) f')).set q .dead)[i]?=some B→B.live=true→bi (aM μ g (.tuple N8) i) b →
   (i=g∧aA (μ q)=some b)∨(i=g∧∃k x,k≠r∧us[k]?=some x∧aA x=some b)∨(i≠q∧i≠g∧∃A,st.heap[i]?=some A∧A.live=true∧bi (μ i) b):=by
  intro i B b hB hl hb
  rcases N6 i B hB with ⟨rfl,rfl⟩ | ⟨rfl,NF,rfl⟩ | ⟨rfl,NF,hne2,rfl⟩ | ⟨h1,h2,h3,B0,Ox,rfl⟩
  ·cases hl
  ·rw[mg]at hb
   rcases hb with hb | ⟨us2,e,k,x,hk,hx⟩
   ·cases hb
   ·cases e
    rw[Pj]at hk
    split at hk
    ·cases hk;exact .inl ⟨rfl,hx⟩
    ·rename_i hkr;exact .inr (.inl ⟨rfl,k,x,hkr,hk,hx⟩)
  ·rw[mo i NF]at hb
   exact .inr (.inr ⟨hne2,NF,_,P3,rfl,hb⟩)
  ·rw[mo i h2]at hb
   rw[eB,eB]at hl
   exact .inr (.inr ⟨h1,h2,B0,Ox,hl,hb⟩)
 have QV:∀(k:Nat) (x:Value) (b:Nat),us[k]?=some x→aA x=some b→bi (μ g) b:=fun k x b hk hx=>.inr ⟨us,Nj,k,x,hk,hx⟩
 refine⟨S,aM μ g (.tuple N8),h.retell ?_ ?_ ?_ ?_ ?_⟩
 ·intro t d hm
  obtain⟨e,he,rfl⟩:=ey hm
  obtain⟨e',Qm,rfl⟩:=ey he
  exact⟨e',Qm,fun u hu=>((hu.killD (id:=g)).stable (fun _ h _=>h) (fun _ _ _=>rfl) (KI _) (fun id M5=>av _ _ (fun e=>by rw[e,iZ]at M5;cases M5))).killD⟩
 ·intro i B hBi
  rcases N6 i B hBi with ⟨rfl,rfl⟩ | ⟨rfl,NF,rfl⟩ | ⟨rfl,NF,hne2,rfl⟩ | ⟨h1,h2,h3,B0,Ox,rfl⟩
  ·trivial
  ·rw[mg]
   refine⟨N8,rfl,R4,fun k x hk=>?_,fun k k' x x' b hk NH hx OZ=>?_⟩
   ·rw[Pj]at hk
    split at hk
    ·rename_i e
     cases hk
     subst e
     refine⟨OP,?_⟩
     rw[hf' k (by omega),KT rfl]
     exact hB
    ·rename_i e
     have NY:=(KQ.1 hk).1
     rw[hf' k (by omega),KK e]
     exact Ng k x hk
   ·rw[Pj]at hk NH
    split at hk
    ·rename_i e1
     split at NH
     ·rename_i e2;rw[e1,e2]
     ·cases hk;exact(hgq (h.heap.apart i q _ _ b Ow hbq rfl rfl (QV k' x' b NH OZ) (.inl hx))).elim
    ·split at NH
     ·cases NH;exact(hgq (h.heap.apart i q _ _ b Ow hbq rfl rfl (QV k x b hk hx) (.inl OZ))).elim
     ·exact Rf k k' x x' b hk NH hx OZ
  ·rw[mo i NF]
   refine⟨fun j k id hj hk M5=>?_,xs,a1,fun j k hj hk=>?_⟩
   ·simp only[List.all_cons,KD]at M5
    rcases NL j k hj hk with ⟨_,e⟩ | ⟨e,_⟩
    ·rw[e];exact M5.1
    ·rw[e];exact a0 j k id hj hk M5.2
   ·obtain⟨z,hz,ho,hd⟩:=a2 j k hj hk
    refine⟨z,hz,ho,?_⟩
    rcases NL j k hj hk with ⟨e1,e2⟩ | ⟨e,hc⟩
    ·rw[e1]at hd
     have hu:=a6 hd
     rw[e2]
     exact .gr g r N8 z mg (by rw[Pj,KT rfl,hu]) ho
    ·rw[e]
     rcases hc with ⟨r',e1,e2⟩ | ⟨x,e1⟩ | e1 | ⟨p,e1,e2,e3⟩
     ·rw[e1]at hd ⊢
      obtain⟨us2,g1,g2,g3⟩:=yx hd
      rw[Nj]at g1
      cases g1
      exact .gr g r' N8 z mg (by rw[Pj,KK e2];exact g2) g3
     ·rw[e1]at hd ⊢
      exact .v _ _ (ba hd)
     ·rw[e1]at hd ⊢
      cases hd
      exact .nils
     ·rw[e1]at hd ⊢
      have hu:=a6 hd
      have:=ah.own (S:=S) (μ:=aM μ g (.tuple N8)) (w:=w) p
      rw[mo p e3]at this
      rw[hu]
      exact this
  ·rw[mo i h2]
   exact(((h.heap.box i B0 Ox).kill (id:=g)).stable (fun _ h _=>h) (fun _ _ _=>rfl) (KI _) (fun id M5=>av _ _ (fun e=>by rw[e,t9]at M5;cases M5)) (fun _ _=>rfl)).kill
 ·intro i B b hBi hl hb
  rcases own i B b hBi hl hb with ⟨rfl,hv'⟩ | ⟨rfl,k,x,_,hk,hx⟩ | ⟨_,_,A,hA,RL,hb⟩
  ·exact⟨q,_,hbq,rfl,.inl hv'⟩
  ·exact⟨i,_,Ow,rfl,QV k x b hk hx⟩
  ·exact⟨i,A,hA,RL,hb⟩
 ·intro i j A B b hA hBj lA lB QU hbj
  rcases own i A b hA lA QU with ⟨rfl,OA⟩ | ⟨rfl,k,x,hkr,hk,hx⟩ | ⟨n1,n2,A0,hA0,OB,Rh⟩<;>rcases own j B b hBj lB hbj with ⟨rfl,Pf⟩ | ⟨rfl,k',x',hkr',NH,OZ⟩ | ⟨n3,n4,B0,Ox,P4,P5⟩<;>first | rfl | skip
  ·exact(n3 (h.heap.apart j q B0 _ b Ox hbq P4 rfl P5 (.inl OA))).elim
  ·exact(n4 (h.heap.apart j i B0 _ b Ox Ow P4 rfl P5 (QV k x b hk hx))).elim
  ·exact(n1 (h.heap.apart i q A0 _ b hA0 hbq OB rfl Rh (.inl Pf))).elim
  ·exact(n2 (h.heap.apart i j A0 _ b hA0 Ow OB rfl Rh (QV k' x' b NH OZ))).elim
  ·exact h.heap.apart i j A0 B0 b hA0 Ox OB P4 Rh P5
 ·intro i B hBi Oj
  rcases N6 i B hBi with ⟨rfl,rfl⟩ | ⟨rfl,NF,rfl⟩ | ⟨rfl,NF,hne2,rfl⟩ | ⟨h1,h2,h3,B0,Ox,rfl⟩
  ·cases Oj
  ·cases Oj
  ·cases Oj
  ·rw[qo,qo]at Oj
   rw[show(B0.kill g).kill q=B0 from by cases B0<;>first | rfl | cases Oj]
   exact⟨Ox,mo i h2⟩
def put (a g q r m':Nat) (M1:Nat→Nat→D) (f':Nat→xL):Ja:=⟨E9 a g q r m' M1 f',GJ a g q r m' M1 f'⟩
end
structure Lp (σ:Type):Type 1 where
 make ::
 keep:List Nat
 n:Nat
 all:(σ→Prop)→Prop
 hall:∀P,all P→∀s,P s
 mk:σ→St
 inv:σ→Prop
 m:σ→Nat
abbrev il {α:Type} (keep:List Nat) (n:Nat) (mk:α→St) (inv:α→Prop) (m:α→Nat):Lp α:=⟨keep,n,fun P=>∀a,P a,fun _ h=>h,mk,inv,m⟩
abbrev zS {α β:Type} (keep:List Nat) (n:Nat) (mk:α→β→St) (inv:α→β→Prop) (m:α→β→Nat):Lp (α×β) :=
 ⟨keep,n,fun P=>∀a b,P (a,b),fun _ h ⟨a,b⟩=>h a b,fun | (a,b)=>mk a b,fun | (a,b)=>inv a b,fun | (a,b)=>m a b⟩
abbrev I0 {α β γ:Type} (keep:List Nat) (n:Nat) (mk:α→β→γ→St) (inv:α→β→γ→Prop) (m:α→β→γ→Nat):Lp (α×β×γ) :=
 ⟨keep,n,fun P=>∀a b c,P (a,b,c),fun _ h ⟨a,b,c⟩=>h a b c,fun | (a,b,c)=>mk a b c,fun | (a,b,c)=>inv a b c,fun | (a,b,c)=>m a b c⟩
abbrev Kd {α β γ δ:Type} (keep:List Nat) (n:Nat) (mk:α→β→γ→δ→St) (inv:α→β→γ→δ→Prop) (m:α→β→γ→δ→Nat):Lp (α×β×γ×δ) :=
 ⟨keep,n,fun P=>∀a b c d,P (a,b,c,d),fun _ h ⟨a,b,c,d⟩=>h a b c d,fun | (a,b,c,d)=>mk a b c d,fun | (a,b,c,d)=>inv a b c d,fun | (a,b,c,d)=>m a b c d⟩
def Lp.ag {σ:Type} (L:Lp σ) (s:σ) (st:St):Prop:=∃s',st=L.mk s'∧L.inv s'∧L.m s'<L.m s
def Lp.at {σ:Type} (L:Lp σ) (st:St):Prop:=∃s',st=L.mk s'∧L.inv s'
inductive be:Type 1
 | e
 | w (id:Nat) (o:List (Nat×Ov)) (h:be)
 | q (id:Nat) (keep:List Nat) (n:Nat) (h:be)
 | f (id b:Nat) (h:be)
 | g (id i j E sz:Nat) {α:Type} (enc:α→List V) (d:α) (h:be)
 | gs (id t E sz:Nat) {α:Type} (enc:α→List V) (d:α) (h:be)
 | mv (id j i:Nat) (h:be)
 | s (id:Nat) (P:Prop) (x y:be)
 | y (id:Nat) (o:List (Nat×Ov)) (tab:qw) (h:be)
 | c (t:Nat) (P:Prop) [i:Decidable P] (x y:be)
 | n (t:Nat) (P:Prop) [i:Decidable P] (x y:be)
 | b (t:Nat) (x y:be)
 | t (t:Nat) (x:be)
 | u (t:Nat) (x:be)
 | l {σ:Type} (L:Lp σ) (s0:σ) (h:σ→be)
 | r (n:Nat) (h:be)
 | k (id:Nat) {σ:Type} (L:Lp σ) (x:be) (h:σ→be)
 | rg (e:Exit) (st:St) (h:be)
 | gh (id:Nat) (F:Ja) (h:be)
def HL (o:Oper):Bool:=match o.op with
 | .store _ _ _=>true
 | .call ⟨.builtin .append,_,_⟩=>true
 | .call ⟨.builtin .copy,_,_⟩=>true
 | _=>false
def HM:Ov→Bool
 | .inl _ _ _=>true
 | .inls _=>true
 | .yld _ _ _=>true
 | _=>false
def HN:Ov→Bool
 | .app _ _ _ _ _ _=>true
 | _=>false
def HO:Ov→Bool
 | .val .junk=>true
 | _=>false
def nj (M7:List (Nat×Ov)):List Nat→Nat→List Oper→Nat
 | _,_,[]=>0
 | rd,i,o::r=>if (HL o&&!(HN (j8 M7 i)||HO (j8 M7 i)))||HM (j8 M7 i)||(match o.dst with | some t=>rd.any (fun s=>Nat.beq t s) | none=>false)then 0 else nj M7 (CQ o.op++rd) (i+1) r+1
def Fa (P:Program) (nt:Nat) (ops:List Oper) (M7:List (Nat×Ov)) (tab:qw) (st:St) (k:St→Prop):Prop :=
 match P.follows .mixedOrders&&ops.all (fun o=>!cg o),dQ tab (List.replicate ops.length false),dQ tab (List.replicate ops.length true)with
 | true,some Rx,some Nt=>rG st Rx=Rx∧Bk P nt ops M7 tab tab∧nS Nt k
 | _,_,_=>False
def pre (id:Nat):be→St→(List (Nat×Ov)→Option qw→be→St→Prop)→Prop
 | .w i o h,st,k=>match Nat.beq i id with
  | true=>k o none h st
  | false=>k [] none (.w i o h) st
 | .y i o t h,st,k=>match Nat.beq i id with
  | true=>k o (some t) h st
  | false=>k [] none (.y i o t h) st
 | .q i kp n h,st,k=>match Nat.beq i id with
  | true=>nS (keepS kp n st) (fun I'=>pre id h I' k)
  | false=>k [] none (.q i kp n h) st
 | .f i b h,st,k=>match Nat.beq i id with
  | true=>match kM b st with
   | some I'=>nS I' (fun I'=>pre id h I' k)
   | none=>False
  | false=>k [] none (.f i b h) st
 | .g i a j E sz enc d h,st,k=>match Nat.beq i id with
  | true=>match yj a j E sz enc d st with
   | some I'=>nS I' (fun I'=>pre id h I' k)
   | none=>False
  | false=>k [] none (.g i a j E sz enc d h) st
 | .gs i t E sz enc d h,st,k=>match Nat.beq i id with
  | true=>match adoptE t E sz enc d st with
   | some I'=>nS I' (fun I'=>pre id h I' k)
   | none=>False
  | false=>k [] none (.gs i t E sz enc d h) st
 | .mv i j a h,st,k=>match Nat.beq i id with
  | true=>match zF j a st with
   | some I'=>nS I' (fun I'=>pre id h I' k)
   | none=>False
  | false=>k [] none (.mv i j a h) st
 | .gh i F h,st,k=>match Nat.beq i id with
  | true=>(F.F st).2∧nS (F.F st).1 (fun I'=>pre id h I' k)
  | false=>k [] none (.gh i F h) st
 | .s i P x y,st,k=>match Nat.beq i id with
  | true=>(P→pre id x st k)∧(¬P→pre id y st k)
  | false=>k [] none (.s i P x y) st
 | h,st,k=>k [] none h st
def HP:Operand→Nat
 | .tmp t=>t+1
 | _=>0
def rS (t:Nat) (b:Bool) (X Y:be→Prop):be→Prop
 | @be.c t' P i x y=>match Nat.beq (t'+1) t with
  | true=>b=@decide P i∧(P→X x)∧(¬P→Y y)
  | false=>match b with | true=>X (@be.c t' P i x y) | false=>Y (@be.c t' P i x y)
 | @be.n t' P i x y=>match Nat.beq (t'+1) t with
  | true=>b=(!@decide P i)∧(¬P→X x)∧(P→Y y)
  | false=>match b with | true=>X (@be.n t' P i x y) | false=>Y (@be.n t' P i x y)
 | .b t' x y=>match Nat.beq (t'+1) t with
  | true=>(b=true→X x)∧(b=false→Y y)
  | false=>match b with | true=>X (.b t' x y) | false=>Y (.b t' x y)
 | .t t' x=>match Nat.beq (t'+1) t with
  | true=>b=true∧X x
  | false=>match b with | true=>X (.t t' x) | false=>Y (.t t' x)
 | .u t' x=>match Nat.beq (t'+1) t with
  | true=>b=false∧Y x
  | false=>match b with | true=>X (.u t' x) | false=>Y (.u t' x)
 | h=>match b with | true=>X h | false=>Y h
def Dc:Code→Option Nat
 | .region id _ _=>some id
 | .seq a _=>Dc a
 | .block _ a=>Dc a
 | .loop a=>Dc a
 | .cond _ a _=>Dc a
 | _=>none
def HQ (x:Code):be→Bool
 | .k id _ _ _=>match Dc x with | some i=>Nat.beq i id | none=>false
 | _=>false
@[reducible] def kSeq (n:be→St→Prop) (K:be→Exit→St→Prop) (h:be) (e:Exit) (st:St):Prop:=match e with
 | .normal=>n h st
 | e=>K h e st
@[reducible] def kBlock (id:Nat) (K:be→Exit→St→Prop) (h:be) (e:Exit) (st:St):Prop:=match e with
 | .exit i=>match Nat.beq i id with | true=>K h .normal st | false=>K h (.exit i) st
 | e=>K h e st
def Fb (body:(be→Exit→St→Prop)→be→St→Prop) (K:be→Exit→St→Prop):Nat→be→St→Prop
 | 0,_,_=>False
 | n+1,h,st=>body (fun h' e I'=>match e with | .normal=>Fb body K n h' I' | e=>K h' e I') h st
def Fc (P:Program) (nt:Nat) (c:Code) (st:St) (e:Exit) (I':St):Prop:=∀C:jC,C.P=P→C.nt=nt→C.rd=none→Ev C c (fun e1 Nt=>e1=e∧Nt=I') st
def yy (o:List (Nat×Ov)):Option (List Nat):=match j8 o 999 with
 | .cells π _=>some π
 | _=>none
def GK:Code→Bool
 | .seq a b=>GK a&&GK b
 | .cond _ a b=>GK a&&GK b
 | .block _ a=>GK a
 | .loop a=>GK a
 | .rangeFunc _ _ _ _=>false
 | _=>true
def vc (P:Program) (nt:Nat):Code→(be→Exit→St→Prop)→be→St→Prop
 | .skip,K,h,st=>K h .normal st
 | .label _,K,h,st=>K h .normal st
 | .exit i,K,h,st=>K h (.exit i) st
 | .ret,K,h,st=>K h .ret st
 | .seq x y,K,h,st=>match HQ x h with
  | false=>vc P nt x (kSeq (vc P nt y K) K) h st
  | true=>match h with
   | .k _ L hx hy=>vc P nt x (fun h' e I'=>match e with | .normal=>L.at (keepS L.keep L.n I') | e=>K h' e I') hx st∧L.all (fun s=>L.inv s→vc P nt y K (hy s) (L.mk s))
   | _=>False
 | .block i c,K,h,st=>vc P nt c (kBlock i K) h st
 | .cond c x y,K,h,st=>match dA st.env c with
  | .v (.bool b)=>rS (HP c) b (fun h=>vc P nt x K h st) (fun h=>vc P nt y K h st) h
  | _=>False
 | .loop c,K,h,st=>match h with
  | .l L s0 hb=>keepS L.keep L.n st=L.mk s0∧L.inv s0∧L.all (fun s=>L.inv s→vc P nt c (fun h' e I'=>match e with | .normal=>L.ag s (keepS L.keep L.n I') | e=>K h' e I') (hb s) (L.mk s))
  | .r n h=>Fb (fun K=>vc P nt c K) K n h st
  | _=>False
 | .region id ops Po,K,h,st=>pre id h st fun o t h st=>match t with
  | some tab=>match Po with
   | true=>match dQ tab (List.replicate ops.toList.length false)with
    | some _=>Fa P nt ops.toList o tab st (fun st=>K h .normal st)
    | none=>match yy o with
     | none=>pZ P nt ops.toList o (nj o [] 0 ops.toList) tab st (fun st=>K h .normal st)
     | some π=>match mG π ops.toList with
      | true=>pZ P nt (ep π ops.toList) o (nj o [] 0 (ep π ops.toList)) tab st (fun st=>K h .normal st)
      | false=>False
   | false=>False
  | none=>match Po with
   | false=>vo P nt ops.toList o 0 ops.toList st (fun st=>nS st (fun st=>K h .normal st))
   | true=>GI P nt ops.toList o (nj o [] 0 ops.toList) st (fun st=>nS st (fun st=>K h .normal st))
 | .rangeFunc g ps asg bd,K,h,st=>match h with
  | .rg e I' h'=>Fc P nt (.rangeFunc g ps asg bd) st e I'∧K h' e I'
  | _=>False
 | _,_,_,_=>False
section
variable {C:jC} {Q:Exit→St→Prop}
theorem Ev.regA {st I':St} {id:Nat} {ops:List Oper} (M7:List (Nat×Ov)) {p:Prop} (h:cG C.P C.nt ops M7 0 ops st=(I',p)) (hp:p) (hq:Q .normal I'):Ev C (.region id ops.toArray false) Q st:=fun a w S μ hR =>
 wpIn_region_lit (nc ops 0 st S μ a w p hR h hp (fun S' μ' a' w' Nx=>⟨_,S',μ',hq,Nx⟩))
theorem Ev.gh {c:Code} {st I':St} (h:Gh st I') (he:Ev C c Q I'):Ev C c Q st:=fun a w S μ hR=>by
 obtain⟨S',μ',h'⟩:=h C S μ a w hR
 exact he a w S' μ' h'
theorem GL {id:Nat} {c:Code} {k:List (Nat×Ov)→Option qw→be→St→Prop} (hk:∀o t h st,k o t h st→Ev C c Q st):∀(h:be) (st:St),pre id h st k→Ev C c Q st:=by
 intro h
 induction h with
 | w i o h ih=>intro st hp;unfold pre at hp;split at hp<;>exact hk _ _ _ _ hp
 | y i o t h ih=>intro st hp;unfold pre at hp;split at hp<;>exact hk _ _ _ _ hp
 | q i kp n h ih =>
  intro st hp;unfold pre at hp;split at hp
  ·rw[ke]at hp;exact Ev.keep kp n rfl (ih _ hp)
  ·exact hk _ _ _ _ hp
 | f i b h ih =>
  intro st hp;unfold pre at hp;split at hp
  ·split at hp
   ·rename_i I' hf;rw[ke]at hp;exact Ev.freeze b hf (ih _ hp)
   ·exact hp.elim
  ·exact hk _ _ _ _ hp
 | g i a j E sz enc d h ih =>
  intro st hp;unfold pre at hp;split at hp
  ·split at hp
   ·rename_i I' hf;rw[ke]at hp;exact Ev.adopt a j E sz enc d hf (ih _ hp)
   ·exact hp.elim
  ·exact hk _ _ _ _ hp
 | gs i t E sz enc d h ih =>
  intro st hp;unfold pre at hp;split at hp
  ·split at hp
   ·rename_i I' hf;rw[ke]at hp;exact Ev.adoptE t E sz enc d hf (ih _ hp)
   ·exact hp.elim
  ·exact hk _ _ _ _ hp
 | mv i j a h ih =>
  intro st hp;unfold pre at hp;split at hp
  ·split at hp
   ·rename_i I' hf;rw[ke]at hp;exact Ev.move j a hf (ih _ hp)
   ·exact hp.elim
  ·exact hk _ _ _ _ hp
 | gh i F h ih =>
  intro st hp;unfold pre at hp;split at hp
  ·rw[ke]at hp;exact Ev.gh (F.ok st hp.1) (ih _ hp.2)
  ·exact hk _ _ _ _ hp
 | s i P x y ih1 ih2 =>
  intro st hp;unfold pre at hp;split at hp
  ·by_cases hP:P
   ·exact ih1 _ (hp.1 hP)
   ·exact ih2 _ (hp.2 hP)
  ·exact hk _ _ _ _ hp
 | _=>intro st hp;unfold pre at hp;exact hk _ _ _ _ hp
theorem fT {b:Bool} {X Y:be→Prop} (h:be) (hh:match b with | true=>X h | false=>Y h):(b=true→∃h',X h')∧(b=false→∃h',Y h'):=by
 cases b
 ·exact⟨fun h=>(by cases h),fun _=>⟨_,hh⟩⟩
 ·exact⟨fun _=>⟨_,hh⟩,fun h=>(by cases h)⟩
theorem Dd {t:Nat} {b:Bool} {X Y:be→Prop} {h:be} (hc:rS t b X Y h):(b=true→∃h',X h')∧(b=false→∃h',Y h'):=by
 cases h with
 | c t' P x y =>
  simp only[rS]at hc;split at hc
  ·obtain⟨h1,h2,h3⟩:=hc
   subst h1
   exact⟨fun h=>⟨_,h2 (L8 h)⟩,fun h=>⟨_,h3 (of_decide_eq_false h)⟩⟩
  ·exact fT _ hc
 | n t' P x y =>
  simp only[rS]at hc;split at hc
  ·obtain⟨h1,h2,h3⟩:=hc
   subst h1
   exact⟨fun h=>⟨_,h2 (by simpa using h)⟩,fun h=>⟨_,h3 (by simpa using h)⟩⟩
  ·exact fT _ hc
 | b t' x y =>
  simp only[rS]at hc;split at hc
  ·exact⟨fun h=>⟨_,hc.1 h⟩,fun h=>⟨_,hc.2 h⟩⟩
  ·exact fT _ hc
 | t t' x =>
  simp only[rS]at hc;split at hc
  ·exact⟨fun h=>⟨_,hc.2⟩,fun h=>(by rw[hc.1]at h;cases h)⟩
  ·exact fT _ hc
 | u t' x =>
  simp only[rS]at hc;split at hc
  ·exact⟨fun h=>(by rw[hc.1]at h;cases h),fun h=>⟨_,hc.2⟩⟩
  ·exact fT _ hc
 | _=>exact fT _ hc
theorem Bo {id:Nat} {ops:Array Oper} {Po:Bool} {h:be} {st:St} {K:be→Exit→St→Prop} (hv:vc C.P C.nt (.region id ops Po) K h st) (hK:∀h st,K h .normal st→Q .normal st):Ev C (.region id ops Po) Q st:=by
 unfold vc at hv
 refine GL ?_ h st hv
 intro o t h st hq
 have ha:ops=ops.toList.toArray:=by simp
 cases t with
 | some tab =>
  cases Po with
  | false=>exact hq.elim
  | true =>
   replace hq:(match dQ tab (List.replicate ops.toList.length false)with
    | some _=>Fa C.P C.nt ops.toList o tab st (fun st=>K h .normal st)
    | none=>match yy o with
     | none=>pZ C.P C.nt ops.toList o (nj o [] 0 ops.toList) tab st (fun st=>K h .normal st)
     | some π=>match mG π ops.toList with
      | true=>pZ C.P C.nt (ep π ops.toList) o (nj o [] 0 (ep π ops.toList)) tab st (fun st=>K h .normal st)
      | false=>False):=hq
   cases h00:dQ tab (List.replicate ops.toList.length false)with
   | none =>
    rw[h00]at hq
    cases PZ:yy o with
    | none =>
     rw[PZ]at hq
     have hq:pZ C.P C.nt ops.toList o (nj o [] 0 ops.toList) tab st (fun st=>K h .normal st):=hq
     rw[ha]
     exact Ev.dwT (Q:=Q) o _ tab (t8 hq (fun I' hk=>hK _ _ hk))
    | some π =>
     rw[PZ]at hq
     cases hpo:mG π ops.toList with
     | false =>
      simp only[hpo]at hq
     | true =>
      simp only[hpo]at hq
      rw[ha]
      exact Ev.dwTP (Q:=Q) o _ tab π hpo (t8 hq (fun I' hk=>hK _ _ hk))
   | some st00 =>
   rw[h00]at hq
   replace hq:Fa C.P C.nt ops.toList o tab st (fun st=>K h .normal st):=hq
   unfold Fa at hq
   cases hb:C.P.follows .mixedOrders&&ops.toList.all (fun o=>!cg o)with
   | false=>rw[hb]at hq;exact hq.elim
   | true =>
   cases h0:dQ tab (List.replicate ops.toList.length false)with
   | none=>rw[hb,h0]at hq;exact hq.elim
   | some Rx =>
   cases h1:dQ tab (List.replicate ops.toList.length true)with
   | none=>rw[hb,h0,h1]at hq;exact hq.elim
   | some Nt =>
   rw[hb,h0,h1]at hq
   simp only[KD]at hb
   obtain⟨q1,q2,q3⟩:=hq
   rw[ke]at q3
   rw[ha]
   exact Ev.any (I':=Nt) o tab hb.1 hb.2 h0 q1 h1 rfl q2 (hK _ _ q3)
 | none =>
  cases Po with
  | false =>
   obtain⟨h1,h2⟩:=qx _ _ _ _ hq
   rw[ke]at h2
   rw[ha]
   exact Ev.regA o rfl h1 (hK _ _ h2)
  | true =>
   rw[ha]
   refine Ev.dw o (nj o [] 0 ops.toList) ?_
   have R7:GI C.P C.nt ops.toList o (nj o [] 0 ops.toList) st (fun st=>nS st (fun st=>K h .normal st)):=by simpa using hq
   exact C3 R7 (fun Nt h1=>hK _ _ (by rwa [ke]at h1))
theorem rT {c:Code} (ih:∀(K:be→Exit→St→Prop) (h:be) (st:St),vc C.P C.nt c K h st→Ev C c (fun e st=>∃h',K h' e st) st) (K:be→Exit→St→Prop):∀(n:Nat) (h:be) (st:St) (S:Nat→Prop) (μ:Nat→Value) (a:Act) (w:World),aK C S μ st a w →
  Fb (fun K=>vc C.P C.nt c K) K n h st→Code.roundsIn (jP C.rd) 0 C.P c (fun e a' w'=>∃I' S' μ',(∃h',K h' e I')∧aK C S' μ' I' a' w') n a w
 | 0,h,st,S,μ,a,w,hR,hv=>hv.elim
 | n+1,h,st,S,μ,a,w,hR,hv=>by
  rw[roundsIn_succ]
  refine wpIn_mono (ih _ _ _ hv a w S μ hR) ?_
  rintro e a' w' ⟨I',S',μ',⟨h',hq⟩,Nx⟩
  cases e with
  | normal=>exact rT ih K n h' I' S' μ' a' w' Nx hq
  | exit i=>exact⟨I',S',μ',⟨h',hq⟩,Nx⟩
  | goto l=>exact⟨I',S',μ',⟨h',hq⟩,Nx⟩
  | ret=>exact⟨I',S',μ',⟨h',hq⟩,Nx⟩
  | panic ch=>exact⟨I',S',μ',⟨h',hq⟩,Nx⟩
  | outgrown=>exact⟨I',S',μ',⟨h',hq⟩,Nx⟩
theorem Bp {c:Code} (ih:∀(K:be→Exit→St→Prop) (h:be) (st:St),vc C.P C.nt c K h st→Ev C c (fun e st=>∃h',K h' e st) st) (K:be→Exit→St→Prop) (n:Nat) (h:be) (st:St) (hv:Fb (fun K=>vc C.P C.nt c K) K n h st):Ev C (.loop c) (fun e st=>∃h',K h' e st) st :=
 fun a w S μ hR=>wpIn_loop_rounds n (rT ih K n h st S μ a w hR hv)
theorem HR {p:Prop} {a b:Bool} (h:p∨(a&&b)=true):p∨a=true:=h.imp_right fun h=>by rw[KD]at h;exact h.1
theorem HS {p:Prop} {a b:Bool} (h:p∨(a&&b)=true):p∨b=true:=h.imp_right fun h=>by rw[KD]at h;exact h.2
theorem Bq:∀(c:Code),(C.rd=none∨GK c=true)→∀(K:be→Exit→St→Prop) (h:be) (st:St),vc C.P C.nt c K h st→Ev C c (fun e st=>∃h',K h' e st) st:=by
 intro c
 induction c with
 | skip=>intro _ K h st hv;exact Ev.skip ⟨h,hv⟩
 | label l=>intro _ K h st hv;exact Ev.label ⟨h,hv⟩
 | exit i=>intro _ K h st hv;exact Ev.exit ⟨h,hv⟩
 | ret=>intro _ K h st hv;exact Ev.ret ⟨h,hv⟩
 | region id ops Po=>intro _ K h st hv;exact Bo hv (fun h st hk=>⟨h,hk⟩)
 | seq x y SL SM =>
  intro hr K h st hv
  have SL:=SL (HR hr)
  have SM:=SM (HS hr)
  unfold vc at hv
  split at hv
  ·refine Ev.seq ((SL _ _ _ hv).mono ?_)
   rintro e I' ⟨h',hq⟩
   cases e with
   | normal=>exact SM _ _ _ hq
   | exit i=>exact⟨h',hq⟩
   | goto l=>exact⟨h',hq⟩
   | ret=>exact⟨h',hq⟩
   | panic ch=>exact⟨h',hq⟩
   | outgrown=>exact⟨h',hq⟩
  ·cases h with
   | k id L hx hy =>
    obtain⟨h1,h2⟩:=hv
    refine Ev.cut L.keep L.n L.mk L.inv ((SL _ _ _ h1).mono ?_) (fun s hs=>SM _ _ _ (L.hall _ h2 s hs))
    rintro e I' ⟨h',hq⟩
    cases e with
    | normal=>exact hq
    | exit i=>exact⟨h',hq⟩
    | goto l=>exact⟨h',hq⟩
    | ret=>exact⟨h',hq⟩
    | panic ch=>exact⟨h',hq⟩
    | outgrown=>exact⟨h',hq⟩
   | _=>exact hv.elim
 | cond c x y SL SM =>
  intro hr K h st hv
  have SL:=SL (HR hr)
  have SM:=SM (HS hr)
  unfold vc at hv
  split at hv
  ·rename_i b hb
   obtain⟨h1,h2⟩:=Dd hv
   exact Ev.cond b hb (fun hb=>by obtain⟨h',q⟩:=h1 hb;exact SL _ _ _ q) (fun hb=>by obtain⟨h',q⟩:=h2 hb;exact SM _ _ _ q)
  ·exact hv.elim
 | block i c ih =>
  intro hr K h st hv
  have ih:=ih hr
  unfold vc at hv
  refine Ev.block ((ih _ _ _ hv).mono ?_)
  rintro e I' ⟨h',hq⟩
  cases e with
  | exit j =>
   show(if Nat.beq j i=true then _ else _)
   change (match Nat.beq j i with | true=>K h' .normal I' | false=>K h' (.exit j) I')at hq
   by_cases hj:Nat.beq j i=true
   ·rw[hj]at hq;rw[KT hj];exact⟨h',hq⟩
   ·rw[KK hj]
    simp only[MF]at hj
    rw[hj]at hq
    exact⟨h',hq⟩
  | normal=>exact⟨h',hq⟩
  | goto l=>exact⟨h',hq⟩
  | ret=>exact⟨h',hq⟩
  | panic ch=>exact⟨h',hq⟩
  | outgrown=>exact⟨h',hq⟩
 | loop c ih =>
  intro hr K h st hv
  have ih:=ih hr
  unfold vc at hv
  split at hv
  ·rename_i σ L s0 hb
   obtain⟨h1,h2,h3⟩:=hv
   refine Ev.loop L.keep L.n L.mk L.inv L.m s0 h1 h2 ?_
   intro s hs
   refine(ih _ _ _ (L.hall _ h3 s hs)).mono ?_
   rintro e I' ⟨h',hq⟩
   cases e with
   | normal=>exact hq
   | exit i=>exact⟨h',hq⟩
   | goto l=>exact⟨h',hq⟩
   | ret=>exact⟨h',hq⟩
   | panic ch=>exact⟨h',hq⟩
   | outgrown=>exact⟨h',hq⟩
  ·exact Bp ih K _ _ _ hv
  ·exact hv.elim
 | rangeFunc g ps asg bd =>
  intro hr K h st hv
  unfold vc at hv
  split at hv
  ·rcases hr with hr | hr
   ·exact(hv.1 C rfl rfl hr).mono (fun e1 Nt hq=>by obtain⟨rfl,rfl⟩:=hq;exact⟨_,hv.2⟩)
   ·cases hr
  ·exact hv.elim
 | _=>intro _ K h st hv;exact(by unfold vc at hv;exact hv.elim)
theorem nk (hr:C.rd=none) (c:Code):∀(K:be→Exit→St→Prop) (h:be) (st:St),vc C.P C.nt c K h st→Ev C c (fun e st=>∃h',K h' e st) st:=Bq c (.inl hr)
end
def p5 (P:Program) (st:St):List ResultVar→(List D→Prop)→Prop
 | [],k=>k []
 | r::rs,k=>match Bc P st r with
  | (d,p)=>p∧p5 P st rs (fun ds=>k (d::ds))
theorem qz {P:Program} {st:St}:∀(rs:List ResultVar) (k:List D→Prop),p5 P st rs k→(resL P st rs).2∧k (resL P st rs).1
 | [],k,h=>⟨trivial,h⟩
 | r::rs,k,h=>by
  unfold p5 at h
  unfold resL
  generalize hq:Bc P st r=q at h
  obtain⟨d,p⟩:=q
  obtain⟨h1,h2⟩:=h
  obtain⟨h3,h4⟩:=qz rs _ h2
  exact⟨⟨h1,h3⟩,h4⟩
def HT (H:List am):D→D→Prop
 | .tup xs,.tup ys=>HC H xs ys
 | x,y=>Gd H x y
def I1:D→D→Prop
 | .tup xs,.tup ys=>IY xs ys
 | x,y=>Gz x y
def De:List D→D
 | [d]=>d
 | ds=>.tup ds
def GM (al:Bool) (H:List am) (x r:D):Prop:=match al with
 | true=>HT H x r
 | false=>HT H x r∧I1 x r
def GN (P:Program) (fn:Func) (al:Bool) (r:D) (_:be) (e:Exit) (st:St):Prop:=match e with
 | .normal=>p5 P st fn.results.toList (fun ds=>GM al st.heap (De ds) r)
 | .ret=>p5 P st fn.results.toList (fun ds=>GM al st.heap (De ds) r)
 | _=>False
theorem vt {P:Program} {st:St} {rs:List ResultVar}:Bd P rs st=(De (resL P st rs).1,(resL P st rs).2):=by
 unfold Bd
 generalize resL P st rs=q
 obtain⟨ds,p⟩:=q
 match ds with
 | []=>rfl
 | [d]=>rfl
 | d::e::r=>rfl
theorem zT {al:Bool} {H:List am} {x r:D} (h1:HT H x r) (h2:al=true∨I1 x r):vj al H x r:=by
 unfold vj
 split
 ·exact⟨h1,h2⟩
 ·rename_i NF
  have e1:HT H x r=Gd H x r:=by
   unfold HT;split
   ·exact(NF _ _ rfl rfl).elim
   ·rfl
  have e2:I1 x r=Gz x r:=by
   unfold I1;split
   ·exact(NF _ _ rfl rfl).elim
   ·rfl
  rw[e1]at h1;rw[e2]at h2
  exact⟨h1,h2⟩
theorem zU {P:Program} {fn:Func} {al:Bool} {r:D} {h:be} {e:Exit} {st:St} (hk:GN P fn al r h e st):GA P fn al r e st:=by
 have key:p5 P st fn.results.toList (fun ds=>GM al st.heap (De ds) r)→fJ P fn st∧vj al st.heap (fD P fn st) r:=by
  intro hq
  obtain⟨h1,h2⟩:=qz _ _ hq
  unfold fJ fD
  rw[vt]
  refine⟨h1,?_⟩
  cases al
  ·exact zT h2.1 (.inr h2.2)
  ·exact zT h2 (.inl rfl)
 cases e with
 | normal=>exact key hk
 | ret=>exact key hk
 | exit i=>exact hk.elim
 | goto l=>exact hk.elim
 | panic ch=>exact hk.elim
 | outgrown=>exact hk.elim
theorem ai.vc {P:Program} {f:FuncId} {fn:Func} {c:Code} {q':List D} {al:Bool} {r:D} {V:Prop} (Pa:be) (hf:P.funcs[f]?=some fn) (hb:fn.body=some c) (hn:Nat.ble q'.length fn.ntmps=true) (hr:da r=true)
  (hv:Proofs.Ytgmpoenfoacofaa.vc P fn.ntmps c (GN P fn al r) Pa ⟨ge 0 q',[]⟩=V) (pf:V):ai P f q' [] al r []:=by
 refine ai.of_ev hf hb hn hr ?_
 intro C h1 h2 Qi
 subst h1
 rw[← hv,← h2]at pf
 exact(nk Qi c _ Pa _ pf).mono (fun e I' ⟨h',hk⟩=>zU hk)
theorem ai.vcR {P:Program} {f:FuncId} {fn:Func} {c:Code} {q':List D} {r:D} {B:am} {V:Prop} (Pa:be) (hf:P.funcs[f]?=some fn) (hb:fn.body=some c) (hn:Nat.ble q'.length fn.ntmps=true) (hr:da r=true) (hB:B.isRo=true)
  (hv:Proofs.Ytgmpoenfoacofaa.vc P fn.ntmps c (GN P fn true r) Pa ⟨ge 0 q',[B]⟩=V) (pf:V):ai P f q' [B] true r []:=by
 refine ai.of_evR hf hb hn hr hB ?_
 intro C h1 h2 Qi
 subst h1
 rw[← hv,← h2]at pf
 exact(nk Qi c _ Pa _ pf).mono (fun e I' ⟨h',hk⟩=>zU hk)
def HU (P:Program) (fn:Func) (r:D) (H:List am) (_:be) (e:Exit) (st:St):Prop:=match e with
 | .normal=>p5 P st fn.results.toList (fun ds=>xM (De ds) r∧st.heap.take H.length=H)
 | .ret=>p5 P st fn.results.toList (fun ds=>xM (De ds) r∧st.heap.take H.length=H)
 | _=>False
theorem Fd {P:Program} {fn:Func} {r:D} {H:List am} {h:be} {e:Exit} {st:St} (hk:HU P fn r H h e st):HG P fn r H e st:=by
 have key:p5 P st fn.results.toList (fun ds=>xM (De ds) r∧st.heap.take H.length=H)→fJ P fn st∧xM (fD P fn st) r∧st.heap.take H.length=H:=by
  intro hq
  obtain⟨h1,h2⟩:=qz _ _ hq
  unfold fJ fD
  rw[vt]
  exact⟨h1,h2⟩
 cases e with
 | normal=>exact key hk
 | ret=>exact key hk
 | exit i=>exact hk.elim
 | goto l=>exact hk.elim
 | panic ch=>exact hk.elim
 | outgrown=>exact hk.elim
theorem j5.vc {P:Program} {f:FuncId} {fn:Func} {c:Code} {ds:List D} {H H':List am} {r:D} {V:Prop} (Pa:be) (hf:P.funcs[f]?=some fn) (hb:fn.body=some c) (hn:Nat.ble ds.length fn.ntmps=true)
  (hv:Proofs.Ytgmpoenfoacofaa.vc P fn.ntmps c (HU P fn r H') Pa ⟨ge 0 ds,H⟩=V) (pf:V):j5 P f ds H r H':=by
 refine⟨fn,c,hf,hb,hn,?_⟩
 intro C h1 h2 Qi
 subst h1
 rw[← hv,← h2]at pf
 exact(nk Qi c _ Pa _ pf).mono (fun e I' ⟨h',hk⟩=>Fd hk)
def rU:am→Prop
 | .arr _ _ _ _ l=>l=[]
 | _=>False
def zV:Option am→am→Prop
 | some B',B=>B'=B
 | none,_=>False
def Fe (H:List am) (x r:D) (B:am):Prop:=match x with
 | .nils=>r=.own 0∧rU B
 | .own i=>r=.own 0∧zV H[i]? B
 | .gr i s=>r=.gr 0 s∧zV H[i]? B
 | x=>∃id,H[id]?=some B∧yl id x r
def Gk (P:Program) (fn:Func) (r:D) (B:am) (_:be) (e:Exit) (st:St):Prop:=match e with
 | .normal=>p5 P st fn.results.toList (fun ds=>Fe st.heap (De ds) r B)
 | .ret=>p5 P st fn.results.toList (fun ds=>Fe st.heap (De ds) r B)
 | _=>False
def Df (P:Program) (fn:Func) (r:D) (B:am):Exit→St→Prop
 | .normal,st=>fJ P fn st∧((∃id,st.heap[id]?=some B∧yl id (fD P fn st) r)∨(fD P fn st=.nils∧r=.own 0∧rU B))
 | .ret,st=>fJ P fn st∧((∃id,st.heap[id]?=some B∧yl id (fD P fn st) r)∨(fD P fn st=.nils∧r=.own 0∧rU B))
 | _,_=>False
theorem Dg {P:Program} {fn:Func} {r:D} {B:am} {h:be} {e:Exit} {st:St} (hk:Gk P fn r B h e st):Df P fn r B e st:=by
 have key:p5 P st fn.results.toList (fun ds=>Fe st.heap (De ds) r B)→fJ P fn st∧((∃id,st.heap[id]?=some B∧yl id (fD P fn st) r)∨(fD P fn st=.nils∧r=.own 0∧rU B)):=by
  intro hq
  obtain⟨h1,h2⟩:=qz _ _ hq
  unfold fJ fD
  rw[vt]
  refine⟨h1,?_⟩
  generalize De (resL P st fn.results.toList).1=x at h2 ⊢
  unfold Fe at h2
  split at h2
  ·exact .inr ⟨rfl,h2⟩
  ·rename_i i
   obtain⟨rfl,h2⟩:=h2
   unfold zV at h2
   split at h2
   ·rename_i B' Nf
    subst h2
    exact .inl ⟨i,Nf,rfl,rfl⟩
   ·exact h2.elim
  ·rename_i i q
   obtain⟨rfl,h2⟩:=h2
   unfold zV at h2
   split at h2
   ·rename_i B' Nf
    subst h2
    exact .inl ⟨i,Nf,rfl,rfl,rfl⟩
   ·exact h2.elim
  ·exact .inl h2
 cases e with
 | normal=>exact key hk
 | ret=>exact key hk
 | exit i=>exact hk.elim
 | goto l=>exact hk.elim
 | panic ch=>exact hk.elim
 | outgrown=>exact hk.elim
theorem ai.of_evO' {P:Program} {f:FuncId} {fn:Func} {c:Code} {q':List D} {r:D} {B:am} (hf:P.funcs[f]?=some fn) (hb:fn.body=some c) (hn:Nat.ble q'.length fn.ntmps=true) (hB:B.isOwn=true)
  (h:∀C:jC,C.P=P→C.nt=fn.ntmps→C.rd=none→Ev C c (Df P fn r B) ⟨ge 0 q',[]⟩):ai P f q' [] false r [B]:=by
 intro S μ w us hS hG hH Nj
 rw[LJ]at hn
 let C:jC:=⟨P,w,S,fn.ntmps,[],none,hG⟩
 have Rv:aK C S μ ⟨ge 0 q',[]⟩ (rm us fn.ntmps) w :=
  ⟨rfl,rfl,rfl,KI _,fun _ _=>rfl,fun _ h=>h,fun _ h=>.inl h,hS,qs Nj hn,⟨fun id B hB=>by simp at hB,fun i j A B b hA=>by simp at hA,fun i A b hA=>by simp at hA⟩,fun i A b hA=>by simp at hA,⟨[],rfl,by simp[C],fun b hb=>by simp[C]at hb⟩,m6 Nj.1 hn,fun i A b hA=>by simp at hA⟩
 refine(gX (C:=C) hf hb rfl Rv (h C rfl rfl rfl) (fun e I' hq=>?_)).mono ?_
 ·cases e<;>first | exact⟨.inl rfl,hq.1⟩ | exact⟨.inr rfl,hq.1⟩ | exact hq.elim
 rintro e w' ⟨u,e0,I',S',μ',a',rfl,hq,hR,hx⟩
 have hq:(∃id,I'.heap[id]?=some B∧yl id (fD P fn I') r)∨(fD P fn I'=.nils∧r=.own 0∧rU B):=by
  cases e0<;>first | exact hq.2 | exact hq.elim
 have hl:B.live=true:=by cases B<;>first | rfl | cases hB
 have one:∀(i:Nat) (A:am),[B][i]?=some A→i=0∧A=B:=by
  intro i A hA
  match i with
  | 0=>simp at hA;exact⟨rfl,hA.symm⟩
  | i+1=>simp at hA
 rcases hq with ⟨id,M5,hr⟩ | ⟨hn0,rfl,hem⟩
 ·refine⟨u,fun _=>μ' id,S',rfl,hR.os,hR.tape,hR.output,hR.size,fun k hk _=>hR.old k hk,hR.mono,hR.new,hR.slt,CU hx hr,⟨?_,?_,?_⟩,?_,fun i A hA=>by simp at hA⟩
  ·intro i A hA
   obtain⟨rfl,rfl⟩:=one i A hA
   refine(hR.heap.box id _ M5).stable (fun _ h _=>h) (fun _ _ _=>rfl) (KI _) (fun j hj=>?_) (fun _ _=>rfl)
   cases A<;>first | (cases hB;done) | cases hj
  ·intro i j A A' b hA Nr _ _ _ _
   rw[(one i A hA).1,(one j A' Nr).1]
  ·intro i A b hA la hb
   obtain⟨rfl,rfl⟩:=one i A hA
   exact hR.heap.notS id _ b M5 hl hb
  ·intro i A b hA la hb
   obtain⟨rfl,rfl⟩:=one i A hA
   exact .inl (hR.may id _ b M5 hl hb)
 ·rw[hn0]at hx
  cases hx
  refine⟨_,fun _=>.slice none 0 0,S',rfl,hR.os,hR.tape,hR.output,hR.size,fun k hk _=>hR.old k hk,hR.mono,hR.new,hR.slt,ah.own (μ:=fun _=>.slice none 0 0) 0,⟨?_,?_,?_⟩,?_,fun i A hA=>by simp at hA⟩
  ·intro i A hA
   obtain⟨rfl,rfl⟩:=one i A hA
   cases A<;>first | cases hem | skip
   exact⟨fun i x hx=>by simp at hx,[],LW w' 0 _ _,fun i x j y hx=>by simp at hx⟩
  ·intro i j A A' b hA Nr _ _ _ _
   rw[(one i A hA).1,(one j A' Nr).1]
  ·intro i A b hA la hb
   simp[bi,aA]at hb
  ·intro i A b hA la hb
   simp[bi,aA]at hb
theorem ai.vcO {P:Program} {f:FuncId} {fn:Func} {c:Code} {q':List D} {r:D} {B:am} {V:Prop} (Pa:be) (hf:P.funcs[f]?=some fn) (hb:fn.body=some c) (hn:Nat.ble q'.length fn.ntmps=true) (hB:B.isOwn=true)
  (hv:Proofs.Ytgmpoenfoacofaa.vc P fn.ntmps c (Gk P fn r B) Pa ⟨ge 0 q',[]⟩=V) (pf:V):ai P f q' [] false r [B]:=by
 refine ai.of_evO' hf hb hn hB ?_
 intro C h1 h2 Qi
 subst h1
 rw[← hv,← h2]at pf
 exact(nk Qi c _ Pa _ pf).mono (fun e I' ⟨h',hk⟩=>Dg hk)
theorem ai.nilcases {P:Program} {f:FuncId} {sz:Nat} {α:Type} {enc:α→List V} {d:α} {l:List α} {q':List D} {al:Bool} {r:D} {H':List am}
  (h1:l≠[]→ai P f (.v (.sl sz enc d l)::q') [] al r H') (h2:l=[]→ai P f (.nils::q') [] al r H') (h3:l=[]→ai P f (.v .esl::q') [] al r H'):ai P f (.v (.sl sz enc d l)::q') [] al r H':=by
 by_cases hl:l=[]
 ·intro S μ w us hS hG hH Nj
  have M0:=Nj.1
  simp only[K1]at M0
  have h0:us[0]?=some us[0]:=K0 (by omega)
  have hx:=ba (Nj.2 0 _ _ rfl h0)
  have re:∀(x:D),ah S μ w x us[0]→aE S μ w (x::q') us:=fun x hx=>⟨by simp[M0],fun j y u hy hu=>by
   cases j with
   | zero=>simp at hy;subst hy;rw[h0]at hu;cases hu;exact hx
   | succ j=>exact Nj.2 (j+1) y u (by simpa using hy) hu⟩
  obtain⟨p,c,hu,q1,q2,q3,q4⟩:=dY hx
  subst hl
  cases p with
  | none =>
   have:=q3 rfl
   subst this
   exact h2 rfl S μ w us hS hG hH (re _ (by rw[hu];exact .nils))
  | some p=>exact h3 rfl S μ w us hS hG hH (re _ (by rw[hu];exact .v _ _ (.esl p c q2)))
 ·exact h1 hl
abbrev Br (P:Program) (g:FuncId) (ds:List D) (H:List am) (E:List (Nat×D)) (H' N:List am) (r:D):Prop:=∀tm:Array Value,j5 P g ds (H++[.frame tm E]) r (H'++.frame tm E::N)
def fE (n:Nat):List (Nat×Nat×Nat×Nat×D)→List (Nat×D)
 | []=>[]
 | (t,a,b,c,d)::r=>if Nat.beq (n &&& a) a&&(Nat.beq b 0||!(Nat.beq (n &&& b) b))&&Nat.beq (n &&& c) 0 then (t,d)::fE n r else fE n r
def TT:Nat→Prop→Prop
 | 0,p=>p
 | n+1,p=>True∧TT n p
theorem tt:∀{n:Nat} {p:Prop},p→TT n p
 | 0,_,h=>h
 | n+1,_,h=>⟨trivial,tt h⟩
abbrev CB (b:Bool) (x y:Prop):Prop:=(b=true→x)∧(b=false→y)
abbrev CD (P:Prop) [Decidable P] (x y:Prop):Prop:=CB (decide P) x y
abbrev CN (P:Prop) [Decidable P] (x y:Prop):Prop:=CB (!decide P) x y
abbrev CS (P x y:Prop):Prop:=(P→x)∧(¬P→y)
theorem cd {P:Prop} [Decidable P] {x y:Prop} (h1:P→x) (h2:¬P→y):CD P x y:=⟨fun h=>h1 (L8 h),fun h=>h2 (of_decide_eq_false h)⟩
theorem cn {P:Prop} [Decidable P] {x y:Prop} (h1:¬P→x) (h2:P→y):CN P x y:=⟨fun h=>h1 (by simpa using h),fun h=>h2 (by simpa using h)⟩
abbrev GO {σ:Type} (L:Lp σ) (s0:σ) (body:Prop):Prop:=L.mk s0=L.mk s0∧L.inv s0∧body
abbrev AG {σ:Type} (L:Lp σ) (s s':σ):Prop:=L.ag s (L.mk s')
abbrev AT {σ:Type} (L:Lp σ) (s':σ):Prop:=L.at (L.mk s')
theorem vT {P:Prop} [Decidable P] (h:P):True∧decide P=true:=⟨trivial,KO h⟩
theorem vF {P:Prop} [Decidable P] (h:¬P):True∧decide P=false:=⟨trivial,KS h⟩
theorem Ke {P:Prop} [Decidable P] (h:¬P):(!decide P)=true:=by simp[h]
theorem Jc {P:Prop} [Decidable P] (h:P):(!decide P)=false:=by simp[h]
theorem nT {P:Prop} [Decidable P] (h:¬P):True∧(!decide P)=true:=⟨trivial,Ke h⟩
theorem nF {P:Prop} [Decidable P] (h:P):True∧(!decide P)=false:=⟨trivial,Jc h⟩
theorem Kf {b:Bool} (h:b=true):b=true:=h
theorem J6 {b:Bool} (h:¬b=true):b=false:=by simpa using h
theorem Kg {b:Bool} (h:¬b=true):(!b)=true:=by simpa using h
theorem xN {b:Bool} (h:b=true):(!b)=false:=by simp[h]
theorem bT {b:Bool} (h:b=true):True∧b=true:=⟨trivial,h⟩
theorem bF {b:Bool} (h:¬b=true):True∧b=false:=⟨trivial,J6 h⟩
theorem mT {b:Bool} (h:¬b=true):True∧(!b)=true:=⟨trivial,Kg h⟩
theorem mF {b:Bool} (h:b=true):True∧(!b)=false:=⟨trivial,xN h⟩
abbrev IX (i n:Int):Prop:=0≤i∧i<n
theorem ix {i n:Int} (h:0≤i∧i<n:=by first | omega | (simp;omega)):IX i n:=h
theorem om {p:Prop} (h:p:=by first | omega | (simp;first | done | omega)):p:=h
abbrev W6 (x:Int):Prop:=True∧IntKind.i64.wrap x=x
theorem w6 {x:Int} (h1:-9223372036854775808≤x:=by first | omega | (simp;first | done | omega)) (h2:x≤9223372036854775807:=by first | omega | (simp;first | done | omega)):W6 x:=⟨trivial,Bm rfl h1 h2⟩
abbrev QD (a n:Int):Prop:=n≠0∧IntKind.i64.wrap (Int.tdiv a n)=a / n
theorem qd {a n:Int} (h0:0≤a:=by first | omega | (simp;omega)) (h1:a≤9223372036854775807:=by first | omega | (simp;omega)) (hn:0<n:=by first | omega | (simp;omega)):QD a n:=by
 refine⟨by omega,?_⟩
 rw[Int.tdiv_eq_ediv_of_nonneg h0,IntKind.wrap_i64]
 have:=Int.ediv_nonneg h0 (Int.le_of_lt hn)
 have:=Int.ediv_le_self n h0
 omega
abbrev QM (a n:Int):Prop:=n≠0∧Int.tmod a n=a%n
theorem qm {a n:Int} (h0:0≤a:=by first | omega | (simp;omega)) (hn:0<n:=by first | omega | (simp;omega)):QM a n:=⟨by omega,L4 h0⟩
theorem ai.recast {P:Program} {f:FuncId} {q' Ql:List D} {al:Bool} {r:D} (h:tE [] q' Ql) (hc:ai P f Ql [] al r []):ai P f q' [] al r []:=fun S μ w us hS hG hH Nj =>
 hc S μ w us hS hG hH (i3 hH (fun _ h=>h) hS (.inl fun i A b hA=>by simp at hA) h Nj)
structure Ct:Type 1 where
 f:FuncId
 q':List D
 al:Bool
 r:D
abbrev Ct.O (c:Ct):Ov:=.call none c.al c.r
abbrev Ct.O' (c:Ct):Ov:=.call (some c.q') c.al c.r
abbrev Ct.C (P:Program) (c:Ct):Prop:=ai P c.f c.q' [] c.al c.r []
abbrev Ct.K (P:Program) (c:Ct):Prop:=tE [] c.q' c.q'∧ai P c.f c.q' [] c.al c.r []
structure ub:Type 1 where
 f:FuncId
 q':List D
 r:D
 B:am
abbrev ub.O (c:ub):Ov:=.ownd none c.r c.B
abbrev ub.O' (c:ub):Ov:=.ownd (some c.q') c.r c.B
abbrev ub.F (c:ub):Ov:=.ownc none c.r c.B
abbrev ub.F' (c:ub):Ov:=.ownc (some c.q') c.r c.B
structure I2:Type 1 where
 f:FuncId
 q':List D
 r:D
 B:am
mutual
def kg:D→Bool
 | .v (.mp _)=>false
 | .agg cs=>d9 cs
 | .tup cs=>d9 cs
 | .fn _ a b=>d9 a&&d9 b
 | _=>true
def d9:List D→Bool
 | []=>true
 | d::r=>kg d&&d9 r
end
theorem Dh:∀(x:V),(∀es,x≠.mp es)→yc x x
 | .int k n,_=>by simp[yc]
 | .bool b,_=>rfl
 | .str s,_=>rfl
 | .nilf,_=>trivial
 | .nsl,_=>trivial
 | .esl,_=>trivial
 | .sl sz enc d l,_=>by simp[yc]
 | .sm ag enc d l,_=>by simp[yc]
 | .nmp,_=>trivial
 | .fnv f,_=>by simp[yc]
 | .mp es,h=>(h es rfl).elim
theorem Di:∀(x:D),kg x=true→EU x x
 | .v x,h=>Dh x (fun es e=>by subst e;simp[kg]at h)
 | .nils,_=>rfl
 | .own i,_=>rfl
 | .ptr _ _ _ _,_=>rfl
 | .iptr cs o,_=>by simp[EU]
 | .agg _,_=>rfl
 | .tup _,_=>rfl
 | .fn _ _ _,_=>rfl
 | .yld _,_=>rfl
 | .capd _,_=>rfl
 | .pre _ _ _ _ _ _,_=>rfl
 | .gr _ _,_=>rfl
 | .junk,_=>trivial
theorem wR (x:D) (h:kg x=true):EN [] x x:=by
 cases x<;>exact Di _ h
theorem wS:∀(l:List D),d9 l=true→HB [] l l
 | [],_=>trivial
 | d::r,h=>by simp only[d9,KD]at h;exact⟨wR d h.1,wS r h.2⟩
theorem wT (x:D) (h:kg x=true):Hp [] x x:=by
 cases x<;>exact wR _ h
theorem rV:∀(l:List D),d9 l=true→HD [] l l
 | [],_=>trivial
 | d::r,h=>by simp only[d9,KD]at h;exact⟨wT d h.1,rV r h.2⟩
theorem wU (x:D) (h:kg x=true):IW [] x x:=by
 cases x with
 | agg xs=>exact wS _ (by simpa[kg]using h)
 | fn f a b=>simp only[kg,KD]at h;exact⟨rfl,rV a h.1,rV b h.2⟩
 | _=>exact wT _ h
theorem fo:∀(l:List D),d9 l=true→tE [] l l
 | [],_=>trivial
 | d::r,h=>by simp only[d9,KD]at h;exact⟨wU d h.1,fo r h.2⟩
end Go.Proofs.Ytgmpoenfoacofaa
