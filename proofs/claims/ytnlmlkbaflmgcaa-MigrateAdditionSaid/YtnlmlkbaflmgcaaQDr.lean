/-
  Regions that TX their order: new boxes may be used at once. Generic: over any program.
-/
import Derived.Test.YtnlmlkbaflmgcaaQKb
namespace Go.Proofs.Ytnlmlkbaflmgcaa
open Go.RowKit
set_option linter.unusedVariables false
set_option linter.unusedSimpArgs false
mutual
def nD:D→(D→Prop)→Prop
 | .v x,k=>nV x (fun x=>k (.v x))
 | .agg cs,k=>nL cs (fun cs=>k (.agg cs))
 | .tup cs,k=>nL cs (fun cs=>k (.tup cs))
 | .fn f a b,k=>nL a (fun a=>nL b (fun b=>k (.fn f a b)))
 | .nils,k=>k .nils
 | .own i,k=>k (.own i)
 | .ptr i a b c,k=>k (.ptr i a b c)
 | .iptr cs o,k=>k (.iptr cs o)
 | .yld i,k=>k (.yld i)
 | .capd x,k=>k (.capd x)
 | .gr g r,k=>k (.gr g r)
 | .junk,k=>k .junk
def nV:V→(V→Prop)→Prop
 | .int a n,k=>k (.int a n)
 | .bool b,k=>k (.bool b)
 | .str s,k=>k (.str s)
 | .sl sz enc d l,k=>k (.sl sz enc d l)
 | .mp es,k=>k (.mp es)
 | .nilf,k=>k .nilf
 | .nsl,k=>k .nsl
 | .esl,k=>k .esl
 | .sm true enc d l,k=>k (.sm true enc d l)
 | .sm false enc d l,k=>k (.sm false enc d l)
 | .nmp,k=>k .nmp
 | .fnv f,k=>k (.fnv f)
def nL:List D→(List D→Prop)→Prop
 | [],k=>k []
 | d::r,k=>nD d (fun d=>nL r (fun r=>k (d::r)))
end
theorem Ly:∀(x:V) (k:V→Prop),nV x k=k x:=by
 intro x k
 cases x with
 | sm ag enc d l=>cases ag<;>rfl
 | _=>rfl
mutual
theorem Bw:∀(d:D) (k:D→Prop),nD d k=k d
 | .v x,k=>Ly x _
 | .agg cs,k=>vf cs _
 | .tup cs,k=>vf cs _
 | .fn f a b,k=>(vf a _).trans (vf b _)
 | .nils,k=>rfl
 | .own i,k=>rfl
 | .ptr i a b c,k=>rfl
 | .iptr cs o,k=>rfl
 | .yld i,k=>rfl
 | .capd x,k=>rfl
 | .gr g r,k=>rfl
 | .junk,k=>rfl
theorem vf:∀(l:List D) (k:List D→Prop),nL l k=k l
 | [],k=>rfl
 | d::r,k=>(Bw d _).trans (vf r _)
end
def nE:List (Nat×D)→(List (Nat×D)→Prop)→Prop
 | [],k=>k []
 | (t,d)::r,k=>nD d (fun d=>nE r (fun r=>k ((t,d)::r)))
theorem Jg:∀(l:List (Nat×D)) (k:List (Nat×D)→Prop),nE l k=k l
 | [],k=>rfl
 | (t,d)::r,k=>(Bw d _).trans (Jg r _)
def nB:ax→(ax→Prop)→Prop
 | .dead,k=>k .dead
 | .var T cs,k=>nL cs (fun cs=>k (.var T cs))
 | .arr E sz enc d l,k=>k (.arr E sz enc d l)
 | .loop l tm nt env ps a b s p,k=>k (.loop l tm nt env ps a b s p)
 | .frame tm env,k=>k (.frame tm env)
 | .ro E sz enc d l,k=>k (.ro E sz enc d l)
 | .mpb t ag enc d l,k=>k (.mpb t ag enc d l)
 | .arrD E sz n gs cell,k=>k (.arrD E sz n gs cell)
 | .grp n f,k=>k (.grp n f)
 | .nest E sz n ce m f,k=>k (.nest E sz n ce m f)
theorem ER (b:ax) (k:ax→Prop):nB b k=k b:=by
 cases b with
 | var T cs=>exact vf cs _
 | _=>rfl
def nH:List ax→(List ax→Prop)→Prop
 | [],k=>k []
 | b::r,k=>nB b (fun b=>nH r (fun r=>k (b::r)))
theorem Jh:∀(l:List ax) (k:List ax→Prop),nH l k=k l
 | [],k=>rfl
 | b::r,k=>(ER b _).trans (Jh r _)
def nS (st:St) (k:St→Prop):Prop:=nE st.env (fun e=>nH st.heap (fun h=>k ⟨e,h⟩))
theorem lD (st:St) (k:St→Prop):nS st k=k st:=(Jg _ _).trans (Jh _ _)
def wJ (P:Program) (nt:Nat) (ops:List Oper) (RI:List (Nat×Ov)):Nat→List Oper→St→(St→Prop)→Prop
 | _,[],st,k=>k st
 | i,o::r,st,k=>match fU ops st o with
  | some true=>match nP P nt (nw RI i) o st with
   | (R5,p1)=>p1∧wJ P nt ops RI (i+1) r R5 k
  | some false=>match lx nt st o.dst with
   | (R5,p1)=>p1∧wJ P nt ops RI (i+1) r R5 k
  | none=>False
theorem rZ {P:Program} {nt:Nat} {ops:List Oper} {RI:List (Nat×Ov)}:∀(r:List Oper) (i:Nat) (st:St) (k:St→Prop),wJ P nt ops RI i r st k→(cY P nt ops RI i r st).2∧k (cY P nt ops RI i r st).1
 | [],i,st,k,h=>⟨trivial,h⟩
 | o::r,i,st,k,h=>by
  unfold wJ at h
  unfold cY
  split at h
  ·rename_i hg
   rw[hg]
   simp only
   generalize hq:nP P nt (nw RI i) o st=q at h
   obtain⟨R5,p1⟩:=q
   obtain⟨h1,h2⟩:=h
   have h3:=rZ r (i+1) R5 k h2
   exact⟨⟨h1,h3.1⟩,h3.2⟩
  ·rename_i hg
   rw[hg]
   simp only
   generalize hq:lx nt st o.dst=q at h
   obtain⟨R5,p1⟩:=q
   obtain⟨h1,h2⟩:=h
   have h3:=rZ r (i+1) R5 k h2
   exact⟨⟨h1,h3.1⟩,h3.2⟩
  ·exact h.elim
structure Mk:Type 1 where
 make ::
 d:D
 b:ax
 kl:Option Nat
abbrev lF (d:D) (b:ax):Mk:=.make d b none
def Mk.kil (k:Mk):Option Nat:=match k.b with | .var _ _=>none | _=>k.kl
def Mk.fil (k:Mk):Option Nat:=match k.b with | .var _ _=>k.kl | _=>none
theorem JU {k:Mk} {i:Nat} (h:k.kil=some i):k.kl=some i:=by
 unfold Mk.kil at h
 split at h
 ·cases h
 ·exact h
theorem tb {k:Mk} {i:Nat} (h:k.fil=some i):k.kl=some i:=by
 unfold Mk.fil at h
 split at h
 ·exact h
 ·cases h
theorem tc {k:Mk} (h:k.kl=none):k.fil=none:=by
 unfold Mk.fil
 split
 ·exact h
 ·rfl
theorem Hp {k:Mk} (h:k.b.isOwn=true∨k.b=.dead):k.fil=none:=by
 unfold Mk.fil
 split
 ·rename_i T cs hb
  rcases h with h | h<;>rw[hb]at h<;>cases h
 ·rfl
theorem JV {k:Mk} (h:k.fil=none):k.kil=k.kl:=by
 unfold Mk.fil at h
 unfold Mk.kil
 cases hb:k.b<;>rw[hb]at h<;>first | rfl | exact h.symm
def nK:Option Nat→(Option Nat→Prop)→Prop
 | none,k=>k none
 | some i,k=>k (some i)
theorem Ji (o:Option Nat) (k:Option Nat→Prop):nK o k=k o:=by cases o<;>rfl
def Hq (H:List ax) (fz:Bool) (E sz:Nat) {α:Type} (enc:α→List V) (d:α) (l:List α) (kl:Option Nat) (p:Prop):Option (Mk×Prop):=match fz with
 | false=>some (.make (.own H.length) (.arr E sz enc d l) kl,p)
 | true=>some (.make (.v (.sl sz enc d l)) .dead kl,p)
def gM:Option (Mk×Prop):=some (lF .junk .dead,False)
def ES (P:Program) (H:List ax) (fz:Bool) (E sz:Nat) {α:Type} (enc:α→List V) (d:α) (l:List α) (t:TypeId) (s x:D):Option (Mk×Prop):=match P.underlying t with
 | some (.slice E0)=>match gS P E0,u4 H (ay P E0) x with
  | some z,some new=>match ca P E0&&Nat.beq z.length (ay P E0)&&Nat.ble 1 (ay P E0)&&Nat.ble (gv P E0) 1024&&(Nat.beq E E0&&Nat.beq sz (ay P E0))with
   | true=>match s with
    | .own id=>match H[id]? with
     | some (.arr E' RY UI _ l0)=>match Nat.beq E' E0&&Nat.beq RY (ay P E0)&&D.free id x with
      | true=>Hq H fz E sz enc d l (some id) (l0.length+new.length≤137438953472∧l0.map UI++new=l.map enc)
      | false=>gM
     | _=>gM
    | .nils=>Hq H fz E sz enc d l none (new.length≤137438953472∧new=l.map enc)
    | _=>gM
   | false=>gM
  | _,_=>gM
 | _=>gM
def ET (P:Program) (H:List ax) (ρ:Operand→D) (ov:Ov) (op:Op):Option (Mk×Prop):=match op with
 | .call ⟨.value f,args,_⟩=>match ov,ρ f with
  | .ownd q' r B,.fn (.func g) first cap=>match jh P g&&(zV r&&(B.isOwn&&fp (first++args.toList.map ρ++cap)))with
   | true=>some (lF (r.up H.length) B,rU P g H (first++args.toList.map ρ++cap) q' r B)
   | false=>gM
  | .ownc (some q') r (.arr E sz enc d l),.fn (.func g) first cap=>match jh P g with
   | true=>some (lF (.v (.sl sz enc d l)) .dead,r=.own 0∧sP (.arr E sz enc d l)∧rz H (first++args.toList.map ρ++cap) q'∧aq P g q' [] false (.own 0) [.arr E sz enc d l])
   | false=>gM
  | _,_=>none
 | .call ⟨.builtin .append,args,UC⟩=>match ov,args.toList,UC.toList with
  | .app fz E sz enc d l,[s,x],[t,t']=>match Nat.beq t t' with
   | true=>ES P H fz E sz enc d l t (ρ s) (ρ x)
   | false=>gM
  | _,_,_=>none
 | .buildSlice t len M'=>match ov with
  | .app false E sz enc d l=>match qh P H (.box E sz enc d l) t len (M'.toList.map fun p=>(p.1,ρ p.2))with
   | (.v _,p)=>some (lF (.own H.length) (.arr E sz enc d l),p)
   | _=>gM
  | _=>none
 | _=>none
def Hr (P:Program) (H:List ax) (ρ:Operand→D) (ov:Ov) (op:Op):Mk×Prop :=
 match op with
 | .alloc T=>match gS P T with
  | some z=>match D.freeL H.length z with
   | true=>(lF (.ptr H.length 0 0 0) (.var T z),True)
   | false=>(lF (.junk) (.dead),False)
  | none=>(lF (.junk) (.dead),False)
 | .box T x=>match jw H (ρ x)with
  | some cs=>match D.freeL H.length cs with
   | true=>(lF (.ptr H.length 0 0 0) (.var T cs),True)
   | false=>(lF (.junk) (.dead),False)
  | none=>(lF (.junk) (.dead),False)
 | .makeSlice t l c=>match P.underlying t,ρ l,ρ c with
  | some (.slice E),.v (.int _ n),.v (.int _ m)=>match gS P E with
   | some z=>match ca P E&&Nat.beq z.length (ay P E)&&Nat.ble 1 (ay P E)&&Nat.ble (gv P E) 1024 with
    | true=>match ov with
     | .box E' RY Rz d' l'=>match Nat.beq E E'&&Nat.beq (ay P E) RY with
      | true=>(lF (.own H.length) (.arr E (ay P E) Rz d' l'),(0≤n∧n≤m∧m≤137438953472)∧l'.length=n.toNat∧∀x∈l',dV z (Rz x))
      | false=>(lF (.junk) (.dead),False)
     | .frz E' RY Rz d' l'=>match Nat.beq E E'&&Nat.beq (ay P E) RY with
      | true=>(lF (.v (.sl (ay P E) Rz d' l')) (.dead),(0≤n∧n≤m∧m≤137438953472)∧l'.length=n.toNat∧∀x∈l',dV z (Rz x))
      | false=>(lF (.junk) (.dead),False)
     | _=>(lF (.junk) (.dead),False)
    | false=>(lF (.junk) (.dead),False)
   | none=>(lF (.junk) (.dead),False)
  | _,_,_=>(lF (.junk) (.dead),False)
 | .makeMap t none=>match ov with
  | .mbox t' ag enc d _=>match Nat.beq t t' with
   | true=>(lF (.own H.length) (.mpb t ag enc d []),True)
   | false=>(lF (.junk) (.dead),False)
  | _=>(lF (.junk) (.dead),False)
 | op=>match ET P H ρ ov op with
  | some q=>q
  | none=>match M0 P H ρ ov op with
   | (d,p)=>(lF (d) (.dead),p)
def kf:Op→Bool
 | .store _ _ _=>true
 | _=>false
def z6 (P:Program) (H:List ax) (t:TypeId) (a x:D):Mk×Prop:=match a,jw [] x with
 | .ptr id i _ I',some new=>match H[id]? with
  | some (.var T cs)=>match ca P t&&Nat.beq new.length (ay P t)&&new.all (sQ [])&&(Nat.beq i 0&&Nat.ble (I'+new.length) cs.length)with
   | true=>(.make (.tup []) (.var T (fo cs new I')) (some id),True)
   | false=>(lF .junk .dead,False)
  | _=>(lF .junk .dead,False)
 | _,_=>(lF .junk .dead,False)
def te (P:Program) (H:List ax) (ρ:Operand→D) (ov:Ov) (op:Op):Mk×Prop:=match op with
 | .store t a x=>z6 P H t (ρ a) (ρ x)
 | op=>Hr P H ρ ov op
theorem EU {P:Program} {H:List ax} {ρ:Operand→D} {ov:Ov} {op:Op} (h:kf op=false):te P H ρ ov op=Hr P H ρ ov op:=by
 cases op<;>first | rfl | cases h
theorem z7 {x:D} {new:List D} (h:jw [] x=some new) (H:List ax):jw H x=some new:=by
 cases x<;>first | exact h | (simp[jw]at h)
theorem EV {x:D} (h:sQ [] x=true) (H:List ax):sQ H x=true:=by
 cases x<;>first | exact h | (simp[sQ]at h)
theorem Hs {new:List D} (h:new.all (sQ [])=true) (H:List ax):new.all (sQ H)=true:=by
 rw[PH]at h ⊢
 exact fun x hx=>EV (h x hx) H
theorem Aa {P:Program} {H:List ax} {t:TypeId} {a x:D} {k:Mk} {p:Prop} (h:z6 P H t a x=(k,p)) (hp:p) :
  ∃(id:Nat) (T:TypeId) (cs W2:List D),H[id]?=some (.var T cs)∧k=.make (.tup []) (.var T W2) (some id) ∧
   ∀(st:St),st.heap[id]?=some (.var T cs)→sS P st .none t a x=(⟨st.env,st.heap.set id (.var T W2)⟩,True):=by
 unfold z6 at h
 split at h
 ·rename_i id i sz I' new RR
  split at h
  ·rename_i T cs G'
   split at h
   ·rename_i hc
    simp only[Po]at h
    obtain⟨rfl,rfl⟩:=h
    refine⟨id,T,cs,_,G',rfl,fun st Sj=>?_⟩
    simp only[Pg]at hc
    obtain⟨⟨⟨h1,h2⟩,h3⟩,h4,h5⟩:=hc
    unfold sS
    rw[z7 RR st.heap]
    simp only[h1,h2,Hs h3 st.heap,Bool.and_self,Q7,Sj,h4,h5]
   ·cases h;exact hp.elim
  ·cases h;exact hp.elim
 ·cases h;exact hp.elim
section
variable {P:Program} {S:Nat→Prop} {μ:Nat→Value} {w:World}
theorem x5 {E:TypeId} {z:List D} {i:TypeInfo} {v:Value} {n m:Int} {α:Type} {enc:α→List V} {d:α} {l:List α} {μ':Nat→Value} (hz:gS P E=some z) (hi:P.info? E=some i) (hv:i.zero=some v) (Ua:z=v.cells.toList.map D.ofVal1) (RB:i.size=ay P E)
  (SC:z.length=ay P E) (RQ:1≤ay P E) (h0:0≤n) (SR:n≤m) (hm:m≤137438953472) (RA:l.length=n.toNat) (Ta:∀x∈l,dV z (enc x)) :
  aJ S μ' (w.alloc (.cells (madeCells v.cells (m.toNat*i.size)) E)) (.slice (some ⟨w.heap.size,0,none⟩) n.toNat m.toNat) (.arr E (ay P E) enc d l):=by
 have Vj:aO S μ' w z v.cells:=by
  rw[Ua]
  refine⟨by simp,fun j y u hy hu=>?_⟩
  simp only[PE,PU,hu,PY,Pu]at hy
  subst hy
  exact ao.ofVal1 S μ' w u
 have Tf:v.cells.size=ay P E:=by rw[Vj.1,SC]
 refine aJ.arr_mk ?_
 refine⟨fun k x hx=>?_,(madeCells v.cells (m.toNat*i.size)).toList.take (n.toNat*ay P E),?_,fun k x j y hx hy=>?_⟩
 ·obtain⟨q,hq,rfl⟩:=dK hx
  rw[← (eX (Ta q (PM hq))).1,SC]
 ·have hle:n.toNat*ay P E≤m.toNat*i.size:=by rw[RB];exact PI _ (by omega)
  refine⟨by simp[size_madeCells,RA];omega,.inr ⟨w.heap.size,m.toNat,madeCells v.cells (m.toNat*i.size),by simp[RA],Qb _,Qx w _,by simp[RA];omega,by simp only[maxLen];omega,by rw[size_madeCells,RB],by simp[RA]⟩⟩
 ·obtain⟨q,hq,rfl⟩:=dK hx
  have Sw:k<n.toNat:=by rw[← RA];exact(Pf.1 hq).1
  obtain⟨r1,r2⟩:=eX (Ta q (PM hq))
  obtain⟨d,hd,VJ⟩:=r2 j y hy
  have hj:j<ay P E:=by rw[← SC];exact(Pf.1 hd).1
  have hjv:j<v.cells.size:=by omega
  have Uk:(k+1)*ay P E≤n.toNat*ay P E:=PI _ Sw
  rw[Qo]at Uk
  have hle:n.toNat*ay P E≤m.toNat*i.size:=by rw[RB];exact PI _ (by omega)
  refine⟨v.cells[j],?_,(lw VJ (Vj.2 j d _ hd (PJ hjv))).stable (fun _ h _=>h) (fun b hb hl=>Qz w _ b hl) (by simp)⟩
  rw[PK,Pn (by omega),PU]
  unfold madeCells
  rw[Qp,Array.getElem?_range,Pn (by omega)]
  simp only[PY,Pu]
  rw[Tf,Nat.mul_add_mod_of_lt' hj]
  simp[hjv]
def JW (S:Nat→Prop) (μ:Nat→Value) (w:World) (H:List ax) (k:Mk) (u:Value) (w':World):Prop :=
 (k.kl=none∧Below w.heap.size w w'∧((k.b=.dead∧ao (fun b=>S b∨w.heap.size≤b) μ w' k.d u)∨(∃obj,k.b.live=true∧w'=w.alloc obj∧aJ S (a7 μ H.length u) w' u k.b∧ao S (a7 μ H.length u) w' k.d u∧∀b,bI u b→b=w.heap.size) ∨
  (∃(S2:Nat→Prop) (μ1:Nat→Value) (u0:Value),k.b.isOwn=true∧(∀b,S b→S2 b)∧(∀b,S2 b→S b∨w.heap.size≤b)∧(∀b,S2 b→b<w'.heap.size)∧aJ S2 μ1 w' u0 k.b∧ao S2 (a7 μ H.length u0) w' k.d u∧∀b,bI u0 b→w.heap.size≤b∧¬S2 b))) ∨
 (∃(id:Nat) (A B:ax),k.kl=some id∧H[id]?=some A∧A.isArr=true∧B.isArr=true∧w.grownBy w' (aM (μ id))∧aJ S μ w' u B∧(∀b,bI u b→aM (μ id)=some b∨w.heap.size≤b) ∧
  ((k.b=B∧k.d=.own H.length)∨∃(E sz:Nat) (α:Type) (enc:α→List V) (d:α) (l:List α),B=.arr E sz enc d l∧k.b=.dead∧k.d=.v (.sl sz enc d l)))
theorem Ab {H:List ax} (hH:be S μ w H) {E0 W3:Nat} {α:Type} {UI:α→List V} {d0:α} {l0:List α} {t:TypeId} {len:Nat} {M':List (Nat×D)} {Ry:List (Nat×Value)} (h1:M'.map (·.1)=Ry.map (·.1))
  (h2:∀(j:Nat) (x:Nat×D) (u:Nat×Value),M'[j]?=some x→Ry[j]?=some u→ao S μ w x.2 u.2) (hS:∀b,S b→b<w.heap.size) {d:D} {p:Prop} (hp:qh P H (.box E0 W3 UI d0 l0) t len M'=(d,p)) (D':p) (Sm:∃x,d=.v x) :
  ∃vs,(Instr.buildSlice t len Ry.toArray).run P w=.ok (.slice (some ⟨w.heap.size,0,none⟩) len len) (w.alloc (.cells vs E0))∧aJ S μ (w.alloc (.cells vs E0)) (.slice (some ⟨w.heap.size,0,none⟩) len len) (.arr E0 W3 UI d0 l0):=by
 unfold qh at hp
 split at hp
 ·rename_i E hu
  split at hp
  ·rename_i z hz
   split at hp
   ·rename_i hc
    simp only[Pg,PC,Qm]at hc
    obtain⟨⟨⟨hk,SC⟩,RQ⟩,R'⟩:=hc
    obtain⟨i,v,hi,hv,Ua,RB,W4⟩:=hD hz
    split at hp
    ·rename_i cells hf
     have Vj:aO S μ w z v.cells:=by
      rw[Ua]
      refine⟨by simp,fun j y u hy hu=>?_⟩
      simp only[PE,PU,hu,PY,Pu]at hy
      subst hy
      exact ao.ofVal1 S μ w u
     have Up:=qf (P:=P) Vj SC (by omega) len
     obtain⟨vs,Tr,Tf⟩:=eV hH M' Ry _ cells _ h1 h2 Up hf
     rw[← RB]at Tr
     have RD:=iw (P:=P) (w:=w) hu hi hv (by rw[RB];exact R') Tr
     have hcl:cells.length=len*ay P E:=by
      have:∀(M':List (Nat×D)) (c0 TF:List D),gq H (fun i=>some (i*ay P E,ay P E)) c0 M'=some TF→TF.length=c0.length:=by
       intro M'
       induction M' with
       | nil=>intro c0 TF h;simp only[gq,Pu]at h;rw[h]
       | cons q r ih =>
        intro c0 TF h
        obtain⟨k,x⟩:=q
        unfold gq at h
        split at h
        ·split at h
         ·rename_i RK
          simp only[Pg,Qm]at RK
          rw[ih _ _ h]
          simp[fo]
          omega
         ·cases h
        ·cases h
      rw[this _ _ _ hf]
      simp[SC]
     have RA:len≤maxLen:=by
      have:len*1≤len*ay P E:=Q8 _ RQ
      simp only[maxLen]
      omega
     simp only at hp
     split at hp
     ·rename_i hc
      simp only[Pg,PC]at hc
      obtain⟨rfl,rfl⟩:=hc
      simp only[Po]at hp
      obtain⟨rfl,rfl⟩:=hp
      refine⟨vs,RD,?_⟩
      obtain⟨q1,q2⟩:=kb D'
      have hA:eM S (w.alloc (.cells vs E)) E (ay P E) (l0.map UI) (.slice (some ⟨w.heap.size,0,none⟩) len len):=by
       refine rX Tf hcl RA (by rw[← q1];simp[nO]) (fun i x hx=>?_) hS
       obtain⟨r,hr,RS⟩:=q2 i x hx
       obtain⟨r1,r2⟩:=eX RS
       obtain⟨So,rfl⟩:=jF _ _ _ hr
       refine⟨?_,fun j y hy=>?_⟩
       ·rw[← r1,PD,PQ,hcl]
        have:(i+1)*ay P E≤len*ay P E:=PI _ So
        rw[Qo]at this
        omega
       ·obtain⟨d,hd,VJ⟩:=r2 j y hy
        exact⟨d,kd hr hd,fun u hu=>lw VJ hu⟩
      exact hA.box rfl
     ·cases hp;exact D'.elim
    ·cases hp;exact D'.elim
   ·cases hp;exact D'.elim
  ·cases hp;exact D'.elim
 ·cases hp;exact D'.elim
theorem x6 {H:List ax} {fz:Bool} {E sz:Nat} {α:Type} {enc:α→List V} {d:α} {l:List α} {kl:Option Nat} {q:Prop} {k:Mk} {p:Prop} (h:Hq H fz E sz enc d l kl q=some (k,p)) :
  p=q∧k.kl=kl∧((k.b=.arr E sz enc d l∧k.d=.own H.length)∨(k.b=.dead∧k.d=.v (.sl sz enc d l))):=by
 unfold Hq at h
 cases fz<;>simp only[Pu,Po]at h<;>obtain⟨rfl,rfl⟩:=h
 ·exact⟨rfl,rfl,.inl ⟨rfl,rfl⟩⟩
 ·exact⟨rfl,rfl,.inr ⟨rfl,rfl⟩⟩
theorem cN {k:Mk} {p:Prop} (h:gM=some (k,p)):p=False:=by
 simp only[gM,Pu,Po]at h
 exact h.2.symm
theorem x7 {H:List ax} (hH:be S μ w H) (hS:∀b,S b→b<w.heap.size) {fz:Bool} {E sz:Nat} {α:Type} {enc:α→List V} {d:α} {l:List α} {t ty:TypeId} {s x:D} {us ux:Value} (hs:ao S μ w s us) (hx:ao S μ w x ux) {k:Mk} {p:Prop}
  (hp:ES P H fz E sz enc d l t s x=some (k,p)) (D':p):∃u w',(Builtin.append_ #[t,t] ty #[us,ux]).run P w=.ok u w'∧JW S μ w H k u w':=by
 unfold ES at hp
 split at hp
 case h_2=>rw[cN hp]at D';exact D'.elim
 rename_i E0 hu
 split at hp
 case h_2=>rw[cN hp]at D';exact D'.elim
 rename_i z new hz RR
 split at hp
 case h_2=>rw[cN hp]at D';exact D'.elim
 rename_i RK
 simp only[Pg,PC,Qm]at RK
 obtain⟨⟨⟨⟨hk,SC⟩,RQ⟩,VK⟩,rfl,rfl⟩:=RK
 obtain⟨i,v,hi,hv,Ua,RB,W4⟩:=hD hz
 have Tf:v.cells.size=i.size:=by rw[RB,← SC,Ua];simp
 obtain⟨pa,c,RC,rfl,n1,n2,n3,n4,n5,n6⟩:=ji hH RQ RR hx
 rw[← RB]at n2 n6 n5
 have bytes:∀k,k≤137438953472→k*i.bytes≤140737488355328:=by
  intro k hk
  have:k*i.bytes≤137438953472*1024:=Rq hk (by omega)
  omega
 split at hp
 ·rename_i id
  split at hp
  case h_2=>rw[cN hp]at D';exact D'.elim
  rename_i E' RY β UI d0 l0 G'
  split at hp
  case h_2=>rw[cN hp]at D';exact D'.elim
  rename_i U4
  simp only[Pg,PC]at U4
  obtain⟨⟨rfl,rfl⟩,hfx⟩:=U4
  obtain⟨rfl,Sw,hval⟩:=x6 hp
  obtain⟨RA,Ws⟩:=D'
  have RU:=bA hs
  subst RU
  obtain⟨r0,xs,r1,r2⟩:=eM.of (hH.box id _ G')
  simp only[Py]at r1
  have VL:l0.length+new.length≤maxLen:=by simp only[maxLen];omega
  obtain⟨v',w',RD,ho,hg,Rx⟩:=dt (P:=P) (w:=w) t ty E' i v hu hi hv Tf (by rw[RB];exact r1) n1 n2 n3 n4 VL (bytes _ RA)
  have P':(μ id).ownBlock=aM (μ id):=by
   obtain⟨p',c',hm,_⟩:=bN (hH.box id _ G')
   rw[hm]
   cases p'<;>rfl
  have TU:∀b,S b→b<w.heap.size→w'.heap[b]?=w.heap[b]?:=fun b hb hl=>hg.block b hl (fun e=>hH.notS id _ b G' rfl (.inl (by rw[← P'];exact e.symm)) hb)
  have hA:eM S w' E' (ay P E') (l0.map UI++new) v':=by
   rw[RB]at ho n2 n5 n6
   refine eM.append r0 (by rw[r1.1];simp) (fun k x j y hx hy=>?_) n5 (fun k x j y hx hy=>?_) (by simpa using ho)
   ·obtain⟨z,hz,hr⟩:=r2 k x j y hx hy
    exact⟨z,hz,hr.stable (fun _ h _=>h) TU hg.size⟩
   ·obtain⟨z,hz,hr⟩:=n6 k x j y hx hy
    exact⟨z,hz,hr.stable (fun _ h _=>h) TU hg.size⟩
  rw[Ws]at hA
  have hB:aJ S μ w' v' (.arr E' (ay P E') enc d l):=hA.box rfl
  have VM:∀b,bI v' b→aM (μ id)=some b∨w.heap.size≤b:=by
   intro b hb
   have hb:=hb.bl (by rcases ho.2 with ⟨rfl,_⟩ | ⟨g,cap,RN,rfl,_⟩<;>rfl)
   have Ub:v'.ownBlock=aM v':=by
    rcases ho.2 with ⟨rfl,_⟩ | ⟨g,cap,RN,rfl,_⟩<;>rfl
   rcases Rx with Rx | Rx
   ·exact .inl (by rw[← P',← Rx,Ub];exact hb)
   ·rw[Ub,hb]at Rx
    cases Rx
    exact .inr (Pl _)
  refine⟨v',w',RD,.inr ⟨id,_,_,Sw,G',rfl,rfl,by rw[← P'];exact hg,hB,VM,?_⟩⟩
  rcases hval with ⟨e1,e2⟩ | ⟨e1,e2⟩
  ·exact .inl ⟨e1,e2⟩
  ·exact .inr ⟨_,_,_,_,_,_,rfl,e1,e2⟩
 ·obtain⟨rfl,Sw,hval⟩:=x6 hp
  obtain⟨RA,Ws⟩:=D'
  cases hs
  obtain⟨v',w',RD,ho,hg,Rx⟩:=dt (P:=P) (w:=w) t ty E i v hu hi hv Tf (QC w 0 E i.size) n1 n2 n3 n4 (by simp only[maxLen];omega) (bytes _ (by omega))
  have Vk:w.grownBy w' none:=hg
  have TU:∀b,S b→b<w.heap.size→w'.heap[b]?=w.heap[b]?:=fun b hb hl=>Vk.block b hl (by simp)
  have hA:eM S w' E (ay P E) ([]++new) v':=by
   rw[RB]at ho n2 n5 n6
   refine eM.append (xs:=[]) (fun k x hx=>by simp at hx) (by simp) (fun k x j y hx=>by simp at hx) n5 (fun k x j y hx hy=>?_) (by simpa using ho)
   obtain⟨z,hz,hr⟩:=n6 k x j y hx hy
   exact⟨z,hz,hr.stable (fun _ h _=>h) TU Vk.size⟩
  rw[QS,Ws]at hA
  have hB:aJ S μ w' v' (.arr E (ay P E) enc d l):=hA.box rfl
  have hvb:∀b,bI v' b→w.heap.size≤b:=by
   intro b hb
   have hb:=hb.bl (by rcases ho.2 with ⟨rfl,_⟩ | ⟨g,cap,RN,rfl,_⟩<;>rfl)
   have Ub:v'.ownBlock=aM v':=by
    rcases ho.2 with ⟨rfl,_⟩ | ⟨g,cap,RN,rfl,_⟩<;>rfl
   rcases Rx with Rx | Rx
   ·rw[Ub,hb]at Rx;cases Rx
   ·rw[Ub,hb]at Rx;cases Rx;exact Pl _
  have Tj:Below w.heap.size w w':=⟨Vk.os,Vk.tape,Vk.output,Vk.size,fun k hk=>Vk.block k hk (by simp)⟩
  refine⟨v',w',RD,.inl ⟨Sw,Tj,?_⟩⟩
  rcases hval with ⟨e1,e2⟩ | ⟨e1,e2⟩
  ·refine .inr (.inr ⟨S,μ,v',by rw[e1];rfl,fun _ h=>h,fun _ h=>.inl h,fun b hb=>Qi (hS b hb) Vk.size,by rw[e1];exact hB,?_,fun b hb=>⟨hvb b hb,fun hSb=>by have:=hS b hSb;have:=hvb b hb;omega⟩⟩)
   rw[e2]
   have:=ao.own (S:=S) (μ:=a7 μ H.length v') (w:=w') H.length
   rwa [az]at this
  ·refine .inl ⟨e1,?_⟩
   rw[e2]
   exact .v _ _ (fq (S':=fun b=>S b∨w.heap.size≤b) hB (fun b hb=>Or.inl hb) (fun b hb=>Or.inr (hvb b hb)) (fun b hb=>Qi (hS b hb) Vk.size))
 ·rw[cN hp]at D';exact D'.elim
theorem x8 {H:List ax} (hH:be S μ w H) (hS:∀b,S b→b<w.heap.size) (hG:fI S w) {ρ:Operand→D} {ρ':Operand→Value} (hρ:∀x,ao S μ w (ρ x) (ρ' x)) {ov:Ov} {o:Oper} {k:Mk} {p:Prop} (hp:ET P H ρ ov o.op=some (k,p)) (D':p)
  {R:Value→World→Prop} (hR:∀u w',JW S μ w H k u w'→R u w'):nj P R ((execOp ρ' o).run P w):=by
 unfold ET at hp
 split at hp
 ·rename_i f args UC ho
  split at hp
  ·rename_i q' r B g first cap hf
   split at hp
   ·rename_i hc
    simp only[Pg]at hc
    obtain⟨Uc,hr,W5,SM⟩:=hc
    simp only[Pu,Po]at hp
    obtain⟨rfl,rfl⟩:=hp
    have SS:=hf ▸ hρ f
    generalize Sy:ρ' f=uf at SS
    cases SS with
    | fn _ _ _ us vs h1 h2 h3 h4 =>
     have RD:(execOp ρ' o).run P w=.ok (.enter g (us++args.map ρ'++vs)) w:=by
      simp[execOp,ho,resolve,Sy,Deferred.ofValue,invoke,bE Uc]
     rw[RD]
     have SF:aO S μ w (args.toList.map ρ) (args.map ρ'):=by
      refine⟨by simp,fun j y z hy hz=>?_⟩
      simp only[PE,PU,Qp]at hy hz
      cases hj:args[j]? with
      | none=>rw[hj]at hy;cases hy
      | some x=>rw[hj]at hy hz;simp at hy hz;subst hy hz;exact hρ x
     have hall:=aO.app (aO.app ⟨h1,h2⟩ SF) ⟨h3,h4⟩
     obtain⟨U5,hc',VN⟩:∃U5,aq P g U5 [] false r [B]∧aO S μ w U5 (us++args.map ρ'++vs):=by
      cases q' with
      | none=>exact⟨_,D',hall⟩
      | some q'=>exact⟨q',D'.2,j9 hH (fun _ h=>h) hS (.inr SM) D'.1 hall⟩
     refine nj.enter ((hc' S μ w _ hS hG ⟨fun id B hB=>by simp at hB,fun i j A B b hA=>by simp at hA,fun i A b hA=>by simp at hA⟩ VN).mono ?_)
     rintro e w' ⟨u,μ',S',rfl,q1,q2,q3,q4,q5,q6,q7,q8,q9,q10,q11,_⟩
     have hl:B.live=true:=by cases B<;>first | rfl | cases W5
     refine⟨u,rfl,hR u w' (.inl ⟨rfl,⟨q1,q2,q3,q4,fun k hk=>q5 k hk (fun i A hA=>by simp at hA)⟩,.inr (.inr ⟨S',μ',μ' 0,W5,q6,q7,q8,q10.box 0 B rfl,zW q9 hr (az _ _ _),fun b hb=>⟨?_,q10.notS 0 B b rfl hl hb⟩⟩)⟩)⟩
     rcases q11 0 B b rfl hl hb with hb | ⟨j,A',R4,_⟩
     ·exact hb
     ·simp at R4
   ·rw[cN hp]at D';exact D'.elim
  ·rename_i q' r E sz α enc d l g first cap hf
   split at hp
   ·rename_i Uc
    simp only[Pu,Po]at hp
    obtain⟨rfl,rfl⟩:=hp
    obtain⟨_,WB,TA,hc'⟩:=D'
    have SS:=hf ▸ hρ f
    generalize Sy:ρ' f=uf at SS
    cases SS with
    | fn _ _ _ us vs h1 h2 h3 h4 =>
     have RD:(execOp ρ' o).run P w=.ok (.enter g (us++args.map ρ'++vs)) w:=by
      simp[execOp,ho,resolve,Sy,Deferred.ofValue,invoke,bE Uc]
     rw[RD]
     have SF:aO S μ w (args.toList.map ρ) (args.map ρ'):=by
      refine⟨by simp,fun j y z hy hz=>?_⟩
      simp only[PE,PU,Qp]at hy hz
      cases hj:args[j]? with
      | none=>rw[hj]at hy;cases hy
      | some x=>rw[hj]at hy hz;simp at hy hz;subst hy hz;exact hρ x
     have hall:=aO.app (aO.app ⟨h1,h2⟩ SF) ⟨h3,h4⟩
     have hSc:∀b,(S b∨∃(i:Nat) (A:ax),H[i]?=some A∧A.mem=true∧bI (μ i) b)→b<w.heap.size:=by
      rintro b (hb | ⟨i,A,hA,hl,hb⟩)
      ·exact hS b hb
      ·exact(hH.box i A hA).lt (ax.mem_live hl) b hb
     have VN:=j9 (S':=fun b=>S b∨∃(i:Nat) (A:ax),H[i]?=some A∧A.mem=true∧bI (μ i) b) hH (fun b hb=>.inl hb) hS (.inl (fun i A b hA hl hb=>.inr ⟨i,A,hA,hl,hb⟩)) TA hall
     refine nj.enter ((hc' _ μ w _ hSc (hG.stable (fun b hb _=>.inl hb) (fun _ _ _=>rfl) (Pl _)) ⟨fun id B hB=>by simp at hB,fun i j A B b hA=>by simp at hA,fun i A b hA=>by simp at hA⟩ VN).mono ?_)
     rintro e w' ⟨u,μ',S',rfl,q1,q2,q3,q4,q5,q6,q7,q8,q9,q10,q11,_⟩
     have hu:=bA q9
     subst hu
     have hB:aJ S μ w' (μ' 0) (.arr E sz enc d l):=(q10.box 0 _ rfl).flat WB
     refine⟨_,rfl,hR _ w' (.inl ⟨rfl,⟨q1,q2,q3,q4,fun k hk=>q5 k hk (fun i A hA=>by simp at hA)⟩,.inl ⟨rfl,.v _ _ (sM hB (fun b hb=>Or.inl hb) (fun b hb=>Or.inr ?_))⟩⟩)⟩
     rcases q11 0 _ b rfl rfl hb with hb | ⟨j,A',R4,_⟩
     ·exact hb
     ·simp at R4
   ·rw[cN hp]at D';exact D'.elim
  ·cases hp
 ·rename_i args UC ho
  split at hp
  ·rename_i fz E sz α enc d l s x t t' ha ht
   split at hp
   ·rename_i hc
    rw[PC]at hc
    subst hc
    have ea:args=#[s,x]:=Q2 (by simpa using ha)
    have et:UC=#[t,t]:=Q2 (by simpa using ht)
    subst ea et
    obtain⟨u,w',h1,h2⟩:=x7 (ty:=o.type) hH hS (hρ s) (hρ x) hp D'
    refine nj.of (v:=u) (w':=w') ?_ (hR u w' h2)
    simp only[execOp,ho,resolve,invoke,builtin,QU,Qe,QJ,Pm,PF,Pk,h1]
   ·rw[cN hp]at D';exact D'.elim
  ·cases hp
 ·rename_i t len M' ho
  split at hp
  ·rename_i E sz α enc d l
   split at hp
   ·rename_i y q hq
    simp only[Pu,Po]at hp
    obtain⟨rfl,rfl⟩:=hp
    obtain⟨vs,h1,h2⟩:=Ab hH (Ry:=M'.toList.map fun p=>(p.1,ρ' p.2)) (by simp) (fun j x u hx hu=>by
     simp only[PE,PU]at hx hu
     cases hj:M'[j]? with
     | none=>rw[hj]at hx;cases hx
     | some q=>rw[hj]at hx hu;simp at hx hu;subst hx hu;exact hρ q.2) hS hq D' ⟨_,rfl⟩
    have he:M'.map (fun (i,x)=>(i,ρ' x))=(M'.toList.map fun p=>(p.1,ρ' p.2)).toArray:=Q2 (by simp)
    rw[← he]at h1
    refine nj.of (v:=.slice (some ⟨w.heap.size,0,none⟩) len len) (w':=w.alloc (.cells vs E)) ?_ (hR _ _ (.inl ⟨rfl,(Rp _ _).alloc (Pl _) _,.inr (.inl ⟨_,rfl,rfl,h2.arrMu rfl,?_,fun b hb=>by simp[bI,aM]at hb;exact hb.symm⟩)⟩))
    ·simp only[execOp,ho,Pm,h1,Pk,PF]
    ·have:=ao.own (S:=S) (μ:=a7 μ H.length (Value.slice (some ⟨w.heap.size,0,none⟩) len len)) (w:=w.alloc (.cells vs E)) H.length
     rwa [az]at this
   ·rw[cN hp]at D';exact D'.elim
  ·cases hp
 ·cases hp
theorem Ac {H:List ax} (hH:be S μ w H) (hS:∀b,S b→b<w.heap.size) (hG:fI S w) {ρ:Operand→D} {ρ':Operand→Value} (hρ:∀x,ao S μ w (ρ x) (ρ' x)) {ov:Ov} {o:Oper} {k:Mk} {p:Prop} (hp:Hr P H ρ ov o.op=(k,p)) (D':p)
  {R:Value→World→Prop} (hR:∀u w',JW S μ w H k u w'→R u w'):nj P R ((execOp ρ' o).run P w):=by
 unfold Hr at hp
 split at hp
 ·rename_i T ho
  split at hp
  ·rename_i z hz
   split at hp
   case h_2=>cases hp;exact D'.elim
   rename_i TV
   simp only[Po]at hp
   obtain⟨rfl,rfl⟩:=hp
   obtain⟨v,TW,Ul⟩:=gt (P:=P) (S:=S) (μ:=μ) (w:=w) hz
   refine nj.of (v:=.pointer (some ⟨w.heap.size,0,none⟩)) (w':=w.alloc (.cells v.cells T)) ?_ (hR _ _ (.inl ⟨rfl,(Rp _ _).alloc (Pl _) _,.inr (.inl ⟨_,rfl,rfl,?_,?_,fun b hb=>by simp[bI,aM]at hb;exact hb.symm⟩)⟩))
   ·simp[execOp,ho,Instr.alloc,Pm,TW,newVar,newRow,newObj,Sem.run]
   ·refine⟨w.heap.size,v.cells,rfl,Qx w _,Ul.1,fun j y x hy hx=>?_⟩
    exact(Ul.2 j y x hy hx).stable (fun _ h _=>h) (fun b hb hl=>Qz w _ b hl) (by simp) (fun id RE=>aL _ _ (fun e=>by rw[e,D.freeL_get TV hy]at RE;cases RE))
   ·exact .ptr _ 0 0 0 _ (by rw[az];rfl)
  ·cases hp;exact D'.elim
 ·rename_i T x ho
  split at hp
  ·rename_i cs hcs
   split at hp
   case h_2=>cases hp;exact D'.elim
   rename_i TV
   simp only[Po]at hp
   obtain⟨rfl,rfl⟩:=hp
   have Ul:=gY hH (hρ x) hcs
   refine nj.of (v:=.pointer (some ⟨w.heap.size,0,none⟩)) (w':=w.alloc (.cells (ρ' x).cells T)) ?_ (hR _ _ (.inl ⟨rfl,(Rp _ _).alloc (Pl _) _,.inr (.inl ⟨_,rfl,rfl,?_,?_,fun b hb=>by simp[bI,aM]at hb;exact hb.symm⟩)⟩))
   ·simp[execOp,ho,Instr.box,newVar,newRow,newObj,Sem.run]
   ·refine⟨w.heap.size,(ρ' x).cells,rfl,Qx w _,Ul.1,fun j y x hy hx=>?_⟩
    exact(Ul.2 j y x hy hx).stable (fun _ h _=>h) (fun b hb hl=>Qz w _ b hl) (by simp) (fun id RE=>aL _ _ (fun e=>by rw[e,D.freeL_get TV hy]at RE;cases RE))
   ·exact .ptr _ 0 0 0 _ (by rw[az];rfl)
  ·cases hp;exact D'.elim
 ·rename_i t l c ho
  split at hp
  ·rename_i E kl n kc m hu Ts hc0
   split at hp
   ·rename_i z hz
    split at hp
    ·rename_i RK
     simp only[Pg,PC,Qm]at RK
     obtain⟨⟨⟨hk,SC⟩,RQ⟩,VK⟩:=RK
     obtain⟨i,v,hi,hv,Ua,RB,W4⟩:=hD hz
     have hl:=hρ l
     have hc:=hρ c
     rw[Ts]at hl
     rw[hc0]at hc
     have TG:(0≤n∧n≤m∧m≤137438953472)→(execOp ρ' o).run P w=.ok (.value (.slice (some ⟨w.heap.size,0,none⟩) n.toNat m.toNat)) (w.alloc (.cells (madeCells v.cells (m.toNat*i.size)) E)):=by
      rintro⟨h0,SR,hm⟩
      have hbm:(i.bytes:Int)*m≤281474976710656:=by
       have h9:(i.bytes:Int)≤1024:=by omega
       have:(i.bytes:Int)*m≤1024*m:=Int.mul_le_mul_of_nonneg_right h9 (by omega)
       omega
      have RD:=run_make (P:=P) w t E i v hu hi hv kl kc n m h0 SR hbm (by omega)
      rw[← bJ hl,← bJ hc]at RD
      simp only[execOp,ho,Pm,RD,Pk,PF]
     split at hp
     ·rename_i E' RY α Rz d' l'
      split at hp
      ·rename_i U4
       simp only[Pg,PC]at U4
       obtain⟨rfl,rfl⟩:=U4
       simp only[Po]at hp
       obtain⟨rfl,rfl⟩:=hp
       obtain⟨SR,RA,Ta⟩:=D'
       refine nj.of (TG SR) (hR _ _ (.inl ⟨rfl,(Rp _ _).alloc (Pl _) _,.inr (.inl ⟨_,rfl,rfl,x5 hz hi hv Ua RB SC RQ SR.1 SR.2.1 SR.2.2 RA Ta,?_,fun b hb=>by simp[bI,aM]at hb;exact hb.symm⟩)⟩))
       have:=ao.own (S:=S) (μ:=a7 μ H.length (Value.slice (some ⟨w.heap.size,0,none⟩) n.toNat m.toNat)) (w:=w.alloc (.cells (madeCells v.cells (m.toNat*i.size)) E)) H.length
       rwa [az]at this
      ·cases hp;exact D'.elim
     ·rename_i E' RY α Rz d' l'
      split at hp
      ·rename_i U4
       simp only[Pg,PC]at U4
       obtain⟨rfl,rfl⟩:=U4
       simp only[Po]at hp
       obtain⟨rfl,rfl⟩:=hp
       obtain⟨SR,RA,Ta⟩:=D'
       have hB:aJ S μ (w.alloc (.cells (madeCells v.cells (m.toNat*i.size)) E)) (.slice (some ⟨w.heap.size,0,none⟩) n.toNat m.toNat) (.arr E (ay P E) Rz d' l'):=x5 hz hi hv Ua RB SC RQ SR.1 SR.2.1 SR.2.2 RA Ta
       refine nj.of (TG SR) (hR _ _ (.inl ⟨rfl,(Rp _ _).alloc (Pl _) _,.inl ⟨rfl,.v _ _ (fq (S':=fun b=>S b∨w.heap.size≤b) hB (fun b hb=>Or.inl hb) (fun b hb=>Or.inr (by simp[bI,aM]at hb;omega)) (fun b hb=>by have:=hS b hb;simp;omega))⟩⟩))
      ·cases hp;exact D'.elim
     ·cases hp;exact D'.elim
    ·cases hp;exact D'.elim
   ·cases hp;exact D'.elim
  ·cases hp;exact D'.elim
 ·rename_i t ho
  split at hp
  ·rename_i t' ag α enc d l
   split at hp
   ·simp only[Po]at hp
    obtain⟨rfl,rfl⟩:=hp
    refine nj.of (v:=.map (some w.heap.size)) (w':=w.alloc (.map #[] 0)) ?_ (hR _ _ (.inl ⟨rfl,(Rp _ _).alloc (Pl _) _,.inr (.inl ⟨_,rfl,rfl,?_,?_,fun b hb=>by simp[bI,aM]at hb;exact hb.symm⟩)⟩))
    ·simp[execOp,ho,Instr.makeMap,newObj,Sem.run]
    ·exact⟨w.heap.size,#[],0,rfl,Qx w _,rfl,fun i k x hx=>by simp at hx⟩
    ·have:=ao.own (S:=S) (μ:=a7 μ H.length (.map (some w.heap.size))) (w:=w.alloc (.map #[] 0)) H.length
     rwa [az]at this
   ·cases hp;exact D'.elim
  ·cases hp;exact D'.elim
 ·rename_i h1 h2 h3 h4
  split at hp
  ·rename_i q hq
   obtain⟨k',p'⟩:=q
   simp only[Po]at hp
   obtain⟨rfl,rfl⟩:=hp
   exact x8 hH hS hG hρ hq D' hR
  generalize hq:M0 P H ρ ov o.op=q at hp
  obtain⟨d,q⟩:=q
  simp only[Po]at hp
  obtain⟨rfl,rfl⟩:=hp
  refine Du hH hS hG hρ hq D' ?_ (fun u w' hb hd=>hR u w' (.inl ⟨rfl,hb,.inl ⟨rfl,hd⟩⟩))
  unfold JS
  split
  ·rename_i T ho;exact(h1 T ho).elim
  ·rfl
end
def JX:List Bool→List Bool→List Bool
 | a::q',b::bs=>(a||b)::JX q' bs
 | [],bs=>bs
 | q',[]=>q'
def vg:Nat→List Bool
 | 0=>[true]
 | n+1=>false::vg n
def hE (J':List (List Bool)):List Edge→List Bool
 | []=>[]
 | e::r=>if Region.binds .any e then JX (JX (vg e.on) (J'.getD e.on [])) (hE J' r)else hE J' r
theorem wK:∀(a b:List Bool) (j:Nat),(JX a b).getD j false=(a.getD j false||b.getD j false)
 | a::q',b::bs,0=>rfl
 | a::q',b::bs,j+1=>by simpa[JX]using wK q' bs j
 | [],bs,j=>by simp[JX]
 | a::q',[],j=>by simp[JX]
theorem vi:∀(n j:Nat),(vg n).getD j false=true→j=n
 | 0,0,_=>rfl
 | 0,j+1,h=>by simp[vg]at h
 | n+1,0,h=>by simp[vg]at h
 | n+1,j+1,h=>by have:=vi n j (by simpa[vg]using h);omega
theorem pp {J':List (List Bool)} {j:Nat}:∀{es:List Edge},(hE J' es).getD j false=true→∃e∈es,Region.binds .any e=true∧(j=e.on∨(J'.getD e.on []).getD j false=true)
 | [],h=>by simp[hE]at h
 | e::r,h=>by
  unfold hE at h
  split at h
  ·rename_i hb
   rw[wK,wK]at h
   simp only[PS]at h
   rcases h with (h | h) | h
   ·exact⟨e,PT ..,hb,.inl (vi _ _ h)⟩
   ·exact⟨e,PT ..,hb,.inr h⟩
   ·obtain⟨e',h1,h2⟩:=pp h
    exact⟨e',PN _ h1,h2⟩
  ·obtain⟨e',h1,h2⟩:=pp h
   exact⟨e',PN _ h1,h2⟩
def kW:List Oper→List Mk→List Bool→List (Nat×D)
 | o::os,k::ks,b::bs=>match b,o.dst with
  | true,some t=>(t,k.d)::kW os ks bs
  | _,_=>kW os ks bs
 | _,_,_=>[]
def jx (id:Nat):List Mk→List Bool→Bool
 | k::ks,true::bs=>(match k.kil with | some i=>Nat.beq i id | none=>false)||jx id ks bs
 | _::ks,false::bs=>jx id ks bs
 | _,_=>false
def jG (id:Nat) (bs:List Bool):Nat→List Mk→Option ax
 | _,[]=>none
 | p,k::ks=>match k.fil,bs.getD p false with
  | some i,true=>(match Nat.beq i id with | true=>some k.b | false=>jG id bs (p+1) ks)
  | _,_=>jG id bs (p+1) ks
def jH (id:Nat) (ks:List Mk) (bs:List Bool):Option ax:=jG id bs 0 ks
def Lz (UD:List Mk) (UE:List Bool) (id:Nat) (k:Mk):ax:=match jx id UD UE,k.fil,jH id UD UE with
 | false,none,some B=>B
 | false,none,none=>k.b
 | _,_,_=>.dead
def iA (UD:List Mk) (UE:List Bool):Nat→List Mk→List Bool→List ax
 | _,[],_=>[]
 | id,_::ks,[]=>.dead::iA UD UE (id+1) ks []
 | id,k::ks,true::bs=>Lz UD UE id k::iA UD UE (id+1) ks bs
 | id,_::ks,false::bs=>.dead::iA UD UE (id+1) ks bs
def di (n0:Nat) (ks:List Mk) (bs:List Bool):List ax:=iA ks bs n0 ks bs
theorem fV {id:Nat} {bs:List Bool} {B:ax}:∀{ks:List Mk} {p0:Nat},jG id bs p0 ks=some B→∃(p:Nat) (k:Mk),ks[p]?=some k∧bs.getD (p0+p) false=true∧k.fil=some id∧B=k.b
 | [],p0,h=>by simp[jG]at h
 | k::ks,p0,h=>by
  unfold jG at h
  have go:jG id bs (p0+1) ks=some B→∃(p:Nat) (k':Mk),(k::ks)[p]?=some k'∧bs.getD (p0+p) false=true∧k'.fil=some id∧B=k'.b:=fun h=>by
   obtain⟨p,k',h1,h2,h3⟩:=fV h
   exact⟨p+1,k',by simpa using h1,by rw[show p0+(p+1)=p0+1+p by omega];exact h2,h3⟩
  split at h
  ·rename_i i hf hb
   split at h
   ·rename_i he
    rw[PC]at he
    cases h
    exact⟨0,k,rfl,hb,by rw[hf,he],rfl⟩
   ·exact go h
  ·exact go h
theorem kg {id:Nat} {bs:List Bool}:∀{ks:List Mk} {p0:Nat},jG id bs p0 ks=none→∀(p:Nat) (k:Mk),ks[p]?=some k→bs.getD (p0+p) false=true→k.fil=some id→False
 | [],p0,h,p,k,h1,_,_=>by simp at h1
 | k'::ks,p0,h,p,k,h1,h2,h3=>by
  unfold jG at h
  cases p with
  | zero =>
   simp at h1;subst h1
   rw[h3,show bs.getD p0 false=true from h2]at h
   simp at h
  | succ p =>
   have h4:jG id bs (p0+1) ks=none:=by
    split at h
    ·split at h
     ·cases h
     ·exact h
    ·exact h
   exact kg h4 p k (by simpa using h1) (by rw[show p0+1+p=p0+(p+1) by omega];exact h2) h3
theorem qZ {id:Nat} {bs bs':List Bool}:∀{ks:List Mk} {p0:Nat},(∀(p:Nat) (k:Mk),ks[p]?=some k→k.fil=some id→bs.getD (p0+p) false=bs'.getD (p0+p) false)→jG id bs p0 ks=jG id bs' p0 ks
 | [],p0,h=>rfl
 | k::ks,p0,h=>by
  have ih:=qZ (id:=id) (bs:=bs) (bs':=bs') (ks:=ks) (p0:=p0+1) (fun p k' h1 h2=>by
   have:=h (p+1) k' (by simpa using h1) h2
   rwa [show p0+(p+1)=p0+1+p by omega]at this)
  unfold jG
  cases hf:k.fil with
  | none=>simp only;exact ih
  | some i =>
   by_cases e:i=id
   ·have:=h 0 k rfl (by rw[hf,e])
    rw[QO]at this
    rw[this]
    subst e
    cases bs'.getD p0 false
    ·exact ih
    ·simp
   ·have e2:Nat.beq i id=false:=by
     cases hb:Nat.beq i id
     ·rfl
     ·rw[PC]at hb;exact(e hb).elim
    cases bs.getD p0 false<;>cases bs'.getD p0 false<;>simp only[e2]<;>exact ih
theorem pu {id:Nat}:∀{ks:List Mk} {bs:List Bool},jx id ks bs=true→∃(p:Nat) (k:Mk),ks[p]?=some k∧bs.getD p false=true∧k.kil=some id
 | [],bs,h=>by simp[jx]at h
 | k::ks,[],h=>by simp[jx]at h
 | k::ks,true::bs,h=>by
  unfold jx at h
  rw[PS]at h
  rcases h with h | h
  ·split at h
   ·rename_i i hk;rw[PC]at h;exact⟨0,k,rfl,rfl,by rw[hk,h]⟩
   ·cases h
  ·obtain⟨p,k',h1,h2,h3⟩:=pu h
   exact⟨p+1,k',h1,h2,h3⟩
 | k::ks,false::bs,h=>by
  unfold jx at h
  obtain⟨p,k',h1,h2,h3⟩:=pu h
  exact⟨p+1,k',h1,h2,h3⟩
theorem r6 {id:Nat}:∀{ks:List Mk} {bs:List Bool} {p:Nat} {k:Mk},ks[p]?=some k→bs.getD p false=true→k.kil=some id→jx id ks bs=true
 | [],bs,p,k,h,_,_=>by simp at h
 | k'::ks,[],p,k,_,h,_=>by simp at h
 | k'::ks,b::bs,0,k,h1,h2,h3=>by
  simp at h1 h2
  subst h1 h2
  unfold jx
  rw[h3]
  simp
 | k'::ks,b::bs,p+1,k,h1,h2,h3=>by
  have:=r6 (ks:=ks) (bs:=bs) (p:=p) (by simpa using h1) (by simpa using h2) h3
  cases b
  ·unfold jx;exact this
  ·unfold jx;rw[this,Bool.or_true]
theorem fW {t:Nat} {d:D}:∀{os:List Oper} {ks:List Mk} {bs:List Bool},(t,d)∈kW os ks bs→∃(j:Nat) (o:Oper) (k:Mk),os[j]?=some o∧ks[j]?=some k∧bs.getD j false=true∧o.dst=some t∧d=k.d
 | o::os,k::ks,b::bs,h=>by
  unfold kW at h
  split at h
  ·rename_i t' hd
   rcases Qf.1 h with h | h
   ·cases h;exact⟨0,o,k,rfl,rfl,rfl,hd,rfl⟩
   ·obtain⟨j,o',k',h1⟩:=fW h;exact⟨j+1,o',k',h1⟩
  ·obtain⟨j,o',k',h1⟩:=fW h;exact⟨j+1,o',k',h1⟩
 | [],_,_,h=>by simp[kW]at h
 | _::_,[],_,h=>by simp[kW]at h
 | _::_,_::_,[],h=>by simp[kW]at h
theorem mi:∀{os:List Oper} {ks:List Mk} {bs:List Bool} (j:Nat) {o:Oper} {k:Mk} {t:Nat},os[j]?=some o→ks[j]?=some k→bs.getD j false=true→o.dst=some t→(t,k.d)∈kW os ks bs
 | o::os,k::ks,b::bs,0,o',k',t,h1,h2,h3,h4=>by
  simp at h1 h2 h3;subst h1 h2 h3
  unfold kW
  rw[h4]
  exact PT ..
 | o::os,k::ks,b::bs,j+1,o',k',t,h1,h2,h3,h4=>by
  have:=mi (os:=os) (ks:=ks) (bs:=bs) j (by simpa using h1) (by simpa using h2) (by simpa using h3) h4
  unfold kW
  split
  ·exact PN _ this
  ·exact this
 | [],_,_,_,_,_,_,h1,_,_,_=>by simp at h1
 | _::_,[],_,_,_,_,_,_,h2,_,_=>by simp at h2
 | _::_,_::_,[],_,_,_,_,_,_,h3,_=>by simp at h3
theorem hJ {UD:List Mk} {UE:List Bool}:∀(n:Nat) (ks:List Mk) (bs:List Bool),(iA UD UE n ks bs).length=ks.length
 | _,[],_=>rfl
 | n,_::ks,[]=>by simp[iA,hJ (n+1) ks]
 | n,_::ks,true::bs=>by simp[iA,hJ (n+1) ks]
 | n,_::ks,false::bs=>by simp[iA,hJ (n+1) ks]
theorem dm (n:Nat) (ks:List Mk) (bs:List Bool):(di n ks bs).length=ks.length:=hJ _ _ _
theorem mj {UD:List Mk} {UE:List Bool}:∀(n:Nat) (ks:List Mk) (bs:List Bool) (j:Nat) (k:Mk),ks[j]?=some k→(iA UD UE n ks bs)[j]?=some (if bs.getD j false=true then Lz UD UE (n+j) k else .dead)
 | n,_::ks,[],0,k,h=>by simp[iA]
 | n,_::ks,[],j+1,k,h=>by simpa[iA]using mj (n+1) ks [] j k (by simpa using h)
 | n,k'::ks,true::bs,0,k,h=>by
  simp at h;subst h
  simp[iA]
 | n,_::ks,true::bs,j+1,k,h=>by
  have:=mj (UD:=UD) (UE:=UE) (n+1) ks bs j k (by simpa using h)
  rw[show n+1+j=n+(j+1) by omega]at this
  simpa[iA]using this
 | n,_::ks,false::bs,0,k,h=>by simp[iA]
 | n,_::ks,false::bs,j+1,k,h=>by
  have:=mj (UD:=UD) (UE:=UE) (n+1) ks bs j k (by simpa using h)
  rw[show n+1+j=n+(j+1) by omega]at this
  simpa[iA]using this
 | _,[],_,_,_,h=>by simp at h
theorem mr (n:Nat) (ks:List Mk) (bs:List Bool) (j:Nat) (k:Mk) (h:ks[j]?=some k):(di n ks bs)[j]?=some (if bs.getD j false=true then Lz ks bs (n+j) k else .dead):=mj n ks bs j k h
theorem kh {n:Nat} {ks:List Mk} {bs:List Bool} {j:Nat} {k:Mk} {B:ax} (h:ks[j]?=some k) (hB:(di n ks bs)[j]?=some B) :
  B=.dead∨(bs.getD j false=true∧jx (n+j) ks bs=false∧k.fil=none∧((jH (n+j) ks bs=none∧B=k.b)∨jH (n+j) ks bs=some B)):=by
 rw[mr _ _ _ _ _ h]at hB
 split at hB
 ·rename_i hb
  simp only[Pu]at hB
  unfold Lz at hB
  split at hB
  ·rename_i B0 h1 h2 h3;exact .inr ⟨hb,h1,h2,.inr (by rw[h3,hB])⟩
  ·rename_i h1 h2 h3;exact .inr ⟨hb,h1,h2,.inl ⟨h3,hB.symm⟩⟩
  ·exact .inl hB.symm
 ·cases hB;exact .inl rfl
theorem tf {n:Nat} {ks:List Mk} {bs:List Bool} {j:Nat} {k:Mk} {B:ax} (h:ks[j]?=some k) (h1:bs.getD j false=true) (h2:jx (n+j) ks bs=false) (h3:k.fil=none) (h4:(jH (n+j) ks bs=none∧B=k.b)∨jH (n+j) ks bs=some B) :
  (di n ks bs)[j]?=some B:=by
 rw[mr _ _ _ _ _ h,Pn h1]
 unfold Lz
 rw[h2,h3]
 rcases h4 with ⟨h5,rfl⟩ | h5
 ·rw[h5]
 ·rw[h5]
def vj (os:List Oper):List (Nat×D)→List (Nat×D)
 | []=>[]
 | (t,d)::r=>if os.any (fun o=>match o.dst with | some s=>Nat.beq s t | none=>false)then vj os r else (t,d)::vj os r
theorem jI {os:List Oper} {t:Nat} {d:D}:∀{env:List (Nat×D)},(t,d)∈vj os env→(t,d)∈env∧∀o∈os,o.dst≠some t
 | (s,e)::r,h=>by
  unfold vj at h
  split at h
  ·obtain⟨h1,h2⟩:=jI h;exact⟨PN _ h1,h2⟩
  ·rename_i hn
   rcases Qf.1 h with h | h
   ·cases h
    refine⟨PT ..,fun o ho he=>hn ?_⟩
    rw[QV]
    exact⟨o,ho,by rw[he];simp⟩
   ·obtain⟨h1,h2⟩:=jI h;exact⟨PN _ h1,h2⟩
def dP (os:List Oper) (st:St) (ks:List Mk) (anc:List Bool):St:=⟨vj os st.env++kW os ks anc,st.heap++di st.heap.length ks anc⟩
def Hb (P:Program) (ops os:List Oper) (st:St) (RI:List (Nat×Ov)):Nat→List Oper→List (List Bool)→List Mk→(List (List Bool)→List Mk→Prop)→Prop
 | _,[],J',ks,K=>K J' ks
 | i,o::r,J',ks,K =>
  match fU ops (dP os st ks (hE J' o.after.toList)) o with
  | some true=>match te P (dP os st ks (hE J' o.after.toList)).heap (eE (dP os st ks (hE J' o.after.toList)).env) (nw RI i) o.op with
   | (k,p)=>p∧nD k.d (fun d=>nB k.b (fun b=>nK k.kl (fun kl=>Hb P ops os st RI (i+1) r (J'++[hE J' o.after.toList]) (ks++[.make d b kl]) K)))
  | some false=>Hb P ops os st RI (i+1) r (J'++[hE J' o.after.toList]) (ks++[lF (.tup []) .dead]) K
  | none=>False
def jJ (st:St) (n0:Nat):Nat→List (List Bool)→List Mk→List (List Bool)→List Mk→Bool
 | i,a::q',k::ks,J',mks=>(match k.b,k.kl with
   | .dead,none=>true
   | _,_=>bO (n0+i) st.env&&bL (n0+i) st.heap&&freeM i (n0+i) 0 J' mks)&&jJ st n0 (i+1) q' ks J' mks
 | _,_,_,_,_=>true
where freeM (i id:Nat):Nat→List (List Bool)→List Mk→Bool
 | j,a::q',k::ks=>(Nat.beq j i||a.getD i false||(D.free id k.d&&ax.free id k.b))&&freeM i id (j+1) q' ks
 | _,_,_=>true
def vk:List Oper→Bool
 | []=>true
 | o::r=>(match o.dst with | some t=>r.all (fun o'=>match o'.dst with | some s=>!(Nat.beq s t) | none=>true) | none=>true)&&vk r
def mt (nt:Nat):List Oper→Bool
 | []=>true
 | o::r=>(match o.dst with | some t=>Nat.blt t nt&&!(kf o.op) | none=>kf o.op)&&mt nt r
def tg:qV:={ K:=fun _=>.grow,F:=fun _ _ _ _=>True,ins:=fun _=>[] }
def JY (nt:Nat) (ops:List Oper) (m:Nat):Bool :=
 Ja ops.toArray tg ⟨Array.replicate nt undef,[]⟩&&A6 ops.toArray m&&mt nt (ops.take m)&&vk (ops.take m)&&ops.all (fun o=>!cF o)
def kk (n0:Nat) (J':List (List Bool)) (ks:List Mk):Bool:=(List.range ks.length).all fun p=>match (ks.getD p (lF .junk .dead)).kl with
 | none=>true
 | some id=>Nat.ble n0 id&&(J'.getD p []).getD (id-n0) false&&((List.range ks.length).all fun i=>Nat.beq i p||!((J'.getD i []).getD (id-n0) false)||(J'.getD i []).getD p false||(J'.getD p []).getD i false)&&(List.range ks.length).all fun i=>Nat.beq i p||(match (ks.getD i (lF .junk .dead)).kl with | some j=>!(Nat.beq j id) | none=>true)
theorem iB {n0:Nat} {J':List (List Bool)} {ks:List Mk} (h:kk n0 J' ks=true) {p:Nat} {k:Mk} (hp:ks[p]?=some k) {id:Nat} (hk:k.kl=some id) :
  n0≤id∧(J'.getD p []).getD (id-n0) false=true∧∀i,i<ks.length→i≠p→(J'.getD i []).getD (id-n0) false=true→(J'.getD i []).getD p false=true∨(J'.getD p []).getD i false=true:=by
 unfold kk at h
 rw[PH]at h
 have Tt:p<ks.length:=(Pf.1 hp).1
 have h1:=h p (P1.2 Tt)
 have e:ks.getD p (lF .junk .dead)=k:=by rw[List.getD,hp];rfl
 rw[e,hk]at h1
 simp only[Pg]at h1
 have h1:=h1.1
 simp only[Qm,PH,P1,PS,PC,PR]at h1
 refine⟨h1.1.1,h1.1.2,fun i hi Sm ha=>?_⟩
 rcases h1.2 i hi with ((h2 | h2) | h2) | h2
 ·exact absurd h2 Sm
 ·rw[ha]at h2;cases h2
 ·exact .inl h2
 ·exact .inr h2
theorem th {n0:Nat} {J':List (List Bool)} {ks:List Mk} (h:kk n0 J' ks=true) {p q:Nat} {k k':Mk} (hp:ks[p]?=some k) (hq:ks[q]?=some k') {id:Nat} (hk:k.kl=some id) (Si:k'.kl=some id):p=q:=by
 unfold kk at h
 rw[PH]at h
 have Tt:p<ks.length:=(Pf.1 hp).1
 have UF:q<ks.length:=(Pf.1 hq).1
 have h1:=h p (P1.2 Tt)
 have e:ks.getD p (lF .junk .dead)=k:=by rw[List.getD,hp];rfl
 rw[e,hk]at h1
 simp only[Pg]at h1
 have h2:=h1.2
 rw[PH]at h2
 have h3:=h2 q (P1.2 UF)
 have e2:ks.getD q (lF .junk .dead)=k':=by rw[List.getD,hq];rfl
 rw[e2,Si]at h3
 simp only[PS,PC,PR]at h3
 rcases h3 with h3 | h3
 ·exact h3.symm
 ·have:Nat.beq id id=true:=by rw[PC]
  rw[this]at h3;cases h3
def JZ (P:Program) (nt:Nat) (ops:List Oper) (RI:List (Nat×Ov)) (m:Nat) (st:St) (k:St→Prop):Prop :=
 Hb P ops (ops.take m) st RI 0 (ops.take m) [] [] fun J' ks =>
  match JY nt ops m&&(jJ st st.heap.length 0 J' ks J' ks&&kk st.heap.length J' ks)&&P.follows .mixedOrders with
  | true=>wJ P nt ops RI m (ops.drop m) ⟨vj (ops.take m) st.env++kW (ops.take m) ks (List.replicate m true),st.heap++di st.heap.length ks (List.replicate m true)⟩ k
  | false=>False
theorem qk {P:Program} {nt:Nat} {ops:List Oper} {RI:List (Nat×Ov)} {k k':St→Prop} (hk:∀st,k st→k' st):∀(r:List Oper) (i:Nat) (st:St),wJ P nt ops RI i r st k→wJ P nt ops RI i r st k'
 | [],i,st,h=>hk _ h
 | o::r,i,st,h=>by
  unfold wJ at h ⊢
  split at h
  ·rename_i hg;exact⟨h.1,qk hk r (i+1) _ h.2⟩
  ·rename_i hg;exact⟨h.1,qk hk r (i+1) _ h.2⟩
  ·exact h.elim
theorem px {P:Program} {ops os:List Oper} {st:St} {RI:List (Nat×Ov)} {K K':List (List Bool)→List Mk→Prop} (hk:∀a b,K a b→K' a b):∀(r:List Oper) (i:Nat) (J':List (List Bool)) (ks:List Mk),Hb P ops os st RI i r J' ks K→Hb P ops os st RI i r J' ks K'
 | [],i,J',ks,h=>hk _ _ h
 | o::r,i,J',ks,h=>by
  unfold Hb at h ⊢
  split at h
  ·rename_i hg
   refine⟨h.1,?_⟩
   have h2:=h.2
   rw[Bw,ER,Ji]at h2 ⊢
   exact px hk r (i+1) _ _ h2
  ·exact px hk r (i+1) _ _ h
  ·exact h.elim
theorem EW {P:Program} {nt:Nat} {ops:List Oper} {RI:List (Nat×Ov)} {m:Nat} {st:St} {k k':St→Prop} (h:JZ P nt ops RI m st k) (hk:∀st,k st→k' st):JZ P nt ops RI m st k':=by
 unfold JZ at h ⊢
 refine px (fun a b hq=>?_) _ _ _ _ h
 split at hq
 ·exact qk hk _ _ _ hq
 ·exact hq.elim
section
variable {C:li}
theorem Ad {P:Program} {ops os:List Oper} {st:St} {RI:List (Nat×Ov)} {K:List (List Bool)→List Mk→Prop}:∀(r:List Oper) (i:Nat) (J':List (List Bool)) (ks:List Mk),J'.length=i→ks.length=i→Hb P ops os st RI i r J' ks K →
  ∃(RO:List (List Bool)) (TH:List Mk),RO.length=i+r.length∧TH.length=i+r.length∧(∃x,RO=J'++x)∧(∃y,TH=ks++y)∧K RO TH ∧
   ∀(j:Nat) (o:Oper),r[j]?=some o→(RO.getD (i+j) [])=hE (RO.take (i+j)) o.after.toList ∧
    ((fU ops (dP os st (TH.take (i+j)) (RO.getD (i+j) [])) o=some true∧∃k p,te P (dP os st (TH.take (i+j)) (RO.getD (i+j) [])).heap (eE (dP os st (TH.take (i+j)) (RO.getD (i+j) [])).env) (nw RI (i+j)) o.op=(k,p)∧p∧TH[i+j]?=some k) ∨
     (fU ops (dP os st (TH.take (i+j)) (RO.getD (i+j) [])) o=some false∧TH[i+j]?=some (lF (.tup []) .dead)))
 | [],i,J',ks,h1,h2,h=>⟨J',ks,by simp[h1],by simp[h2],⟨[],by simp⟩,⟨[],by simp⟩,h,fun j o ho=>by simp at ho⟩
 | o::r,i,J',ks,h1,h2,h=>by
  unfold Hb at h
  have WC:∀(k:Mk),Hb P ops os st RI (i+1) r (J'++[hE J' o.after.toList]) (ks++[k]) K →
    ((fU ops (dP os st ks (hE J' o.after.toList)) o=some true∧∃p,te P (dP os st ks (hE J' o.after.toList)).heap (eE (dP os st ks (hE J' o.after.toList)).env) (nw RI i) o.op=(k,p)∧p)∨(fU ops (dP os st ks (hE J' o.after.toList)) o=some false∧k=lF (.tup []) .dead)) →
    ∃(RO:List (List Bool)) (TH:List Mk),RO.length=i+(o::r).length∧TH.length=i+(o::r).length∧(∃x,RO=J'++x)∧(∃y,TH=ks++y)∧K RO TH ∧
     ∀(j:Nat) (o':Oper),(o::r)[j]?=some o'→(RO.getD (i+j) [])=hE (RO.take (i+j)) o'.after.toList ∧
      ((fU ops (dP os st (TH.take (i+j)) (RO.getD (i+j) [])) o'=some true∧∃k p,te P (dP os st (TH.take (i+j)) (RO.getD (i+j) [])).heap (eE (dP os st (TH.take (i+j)) (RO.getD (i+j) [])).env) (nw RI (i+j)) o'.op=(k,p)∧p∧TH[i+j]?=some k) ∨
       (fU ops (dP os st (TH.take (i+j)) (RO.getD (i+j) [])) o'=some false∧TH[i+j]?=some (lF (.tup []) .dead))):=by
   intro k hk hc
   obtain⟨RO,TH,q1,q2,⟨x,q3⟩,⟨y,q4⟩,q5,q6⟩:=Ad r (i+1) _ _ (by simp[h1]) (by simp[h2]) hk
   refine⟨RO,TH,by rw[q1,P8];omega,by rw[q2,P8];omega,⟨_,by rw[q3,P3]⟩,⟨_,by rw[q4,P3]⟩,q5,fun j o' SG=>?_⟩
   cases j with
   | zero =>
    simp at SG
    subst SG
    have ea:RO.getD (i+0) []=hE J' o.after.toList:=by
     rw[q3];unfold List.getD
     rw[P3,Pz (by omega)]
     simp[h1]
    have et:RO.take (i+0)=J':=by rw[q3,P3,QO,← h1,Q0]
    have ek:TH.take (i+0)=ks:=by rw[q4,P3,QO,← h2,Q0]
    have eg:TH[i+0]?=some k:=by
     rw[q4,P3,Pz (by omega)]
     simp[h2]
    rw[ea,et,ek,eg]
    refine⟨rfl,?_⟩
    rcases hc with ⟨c1,p,c2,c3⟩ | ⟨c1,rfl⟩
    ·exact .inl ⟨c1,k,p,c2,c3,rfl⟩
    ·exact .inr ⟨c1,rfl⟩
   | succ j =>
    have:=q6 j o' (by simpa using SG)
    rwa [show i+1+j=i+(j+1)from by omega]at this
  split at h
  ·rename_i hg
   generalize hq:te P (dP os st ks (hE J' o.after.toList)).heap (eE (dP os st ks (hE J' o.after.toList)).env) (nw RI i) o.op=q at h
   obtain⟨k,p⟩:=q
   obtain⟨hp,hk⟩:=h
   rw[Bw,ER,Ji]at hk
   exact WC k hk (.inl ⟨hg,p,hq,hp⟩)
  ·rename_i hg
   exact WC _ h (.inr ⟨hg,rfl⟩)
  ·exact h.elim
theorem x9 {α:Type _} {l:List α} {i:Nat} {x:α} (h:l[i]?=some x):l.set i x=l:=by
 apply List.ext_getElem?
 intro j
 by_cases hj:i=j
 ·subst hj
  rw[PB (Pf.1 h).1,h]
 ·rw[PA hj]
theorem ya {id:Nat}:∀{env:List (Nat×D)},(∀t d,(t,d)∈env→D.free id d=true)→bO id env=true
 | [],_=>rfl
 | (t,d)::r,h=>by
  simp only[bO,Pg]
  exact⟨h t d (PT ..),ya (fun t d hm=>h t d (PN _ hm))⟩
theorem py {id:Nat}:∀{H:List ax},(∀(j:Nat) (B:ax),H[j]?=some B→ax.free id B=true)→bL id H=true
 | [],_=>rfl
 | B::r,h=>by
  simp only[bL,Pg]
  exact⟨h 0 B rfl,py (fun j B hB=>h (j+1) B (by simpa using hB))⟩
theorem jK {t s:Nat} {d:D}:∀{env:List (Nat×D)},(s,d)∈env→s≠t→(s,d)∈qY env t
 | (q,e)::r,h,hn=>by
  unfold qY
  rcases Qf.1 h with h | h
  ·cases h
   split
   ·rename_i hq;rw[PC]at hq;exact(hn hq).elim
   ·exact PT ..
  ·split
   ·exact jK h hn
   ·exact PN _ (jK h hn)
theorem vo {i id:Nat}:∀{q':List (List Bool)} {ks:List Mk} {j0:Nat},jJ.freeM i id j0 q' ks=true→∀(j:Nat) (a:List Bool) (k:Mk),q'[j]?=some a→ks[j]?=some k→j0+j=i∨a.getD i false=true∨(D.free id k.d=true∧ax.free id k.b=true)
 | a::q',k::ks,j0,h,0,a',k',h1,h2=>by
  simp at h1 h2;subst h1 h2
  unfold jJ.freeM at h
  simp only[Pg,PS,PC]at h
  rcases h.1 with (h3 | h3) | h3
  ·exact .inl (by omega)
  ·exact .inr (.inl h3)
  ·exact .inr (.inr h3)
 | a::q',k::ks,j0,h,j+1,a',k',h1,h2=>by
  unfold jJ.freeM at h
  simp only[Pg]at h
  have:=vo h.2 j a' k' (by simpa using h1) (by simpa using h2)
  rcases this with h3 | h3
  ·exact .inl (by omega)
  ·exact .inr h3
 | [],_,_,_,_,_,_,h1,_=>by simp at h1
 | _::_,[],_,_,_,_,_,_,h2=>by simp at h2
theorem vp {st:St} {n0:Nat} {J':List (List Bool)} {mks:List Mk}:∀{q':List (List Bool)} {ks:List Mk} {i0:Nat},jJ st n0 i0 q' ks J' mks=true→∀(i:Nat) (a:List Bool) (k:Mk),q'[i]?=some a→ks[i]?=some k→k.b.live=true∨k.kl.isSome=true →
  bO (n0+(i0+i)) st.env=true∧bL (n0+(i0+i)) st.heap=true∧jJ.freeM (i0+i) (n0+(i0+i)) 0 J' mks=true
 | a::q',k::ks,i0,h,0,a',k',h1,h2,hl=>by
  simp at h1 h2;subst h1 h2
  unfold jJ at h
  simp only[Pg]at h
  have h3:=h.1
  split at h3
  ·rename_i hb SD;rw[hb,SD]at hl;rcases hl with hl | hl<;>cases hl
  ·simp only[Pg]at h3
   exact⟨h3.1.1,h3.1.2,h3.2⟩
 | a::q',k::ks,i0,h,i+1,a',k',h1,h2,hl=>by
  unfold jJ at h
  simp only[Pg]at h
  have:=vp h.2 i a' k' (by simpa using h1) (by simpa using h2) hl
  rwa [show i0+1+i=i0+(i+1)from by omega]at this
 | [],_,_,_,_,_,_,h1,_,_=>by simp at h1
 | _::_,[],_,_,_,_,_,_,h2,_=>by simp at h2
theorem vq:∀{os:List Oper},vk os=true→∀(i j:Nat) (o o':Oper) (t:Nat),os[i]?=some o→os[j]?=some o'→o.dst=some t→o'.dst=some t→i=j
 | x::r,h,i,j,o,o',t,hi,hj,h1,h2=>by
  unfold vk at h
  simp only[Pg]at h
  have key:∀(k:Nat) (y z:Oper),r[k]?=some y→z=x→z.dst=some t→y.dst=some t→False:=by
   intro k y z hy hz hd hd2
   subst hz
   have h3:=h.1
   rw[hd]at h3
   simp only[PH]at h3
   have:=h3 y (PM hy)
   rw[hd2]at this
   simp at this
  cases i with
  | zero =>
   cases j with
   | zero=>rfl
   | succ j=>simp at hi hj;exact(key j o' o hj hi.symm h1 h2).elim
  | succ i =>
   cases j with
   | zero=>simp at hi hj;exact(key i o o' hi hj.symm h2 h1).elim
   | succ j=>simp at hi hj;rw[vq h.2 i j o o' t hi hj h1 h2]
 | [],_,i,_,_,_,_,hi,_,_,_=>by simp at hi
theorem oH {ops:List Oper} {J':List (List Bool)} {m:Nat} {ls:Array Bool} (hcl:∀i o,ls.getD i false=true→ops[i]?=some o→∀e∈o.after,Region.binds .any e=true→ls.getD e.on false=true)
  (RF:∀i o,ops[i]?=some o→∀e∈o.after,Region.binds .any e=true→e.on<i) (hm:m≤ops.length)
  (UJ:∀(j:Nat) (o:Oper),(ops.take m)[j]?=some o→J'.getD j []=hE (J'.take j) o.after.toList) (Sb:J'.length=m) :
  ∀(i:Nat) (o:Oper),i<m→ops[i]?=some o→(∀e∈o.after,Region.binds .any e=true→ls.getD e.on false=true)→∀j,(J'.getD i []).getD j false=true→ls.getD j false=true:=by
 intro i
 induction i using Nat.strongRecOn with
 | _ i ih =>
  intro o hi ho hr j hj
  rw[UJ i o (by rw[PK,Pn hi];exact ho)]at hj
  obtain⟨e,he,hb,hc⟩:=pp hj
  have U6:e∈o.after:=by simpa using he
  have hlst:=hr e U6 hb
  have hei:=RF i o ho e U6 hb
  rcases hc with rfl | hc
  ·exact hlst
  ·have e2:(J'.take i).getD e.on []=J'.getD e.on []:=by
    unfold List.getD;rw[PK,Pn hei]
   rw[e2]at hc
   have hoe:ops[e.on]?=some (ops[e.on]'(by omega)):=Ph (by omega)
   exact ih e.on hei _ (by omega) hoe (hcl e.on _ hlst hoe) j hc
theorem cG (C':Array Bool) (m j:Nat) (h:j<m):((List.range m).map fun j=>C'.getD j false).getD j false=C'.getD j false:=by
 simp[List.getD,h]
theorem ql (C':Array Bool) (m j:Nat) (h:m≤j):((List.range m).map fun j=>C'.getD j false).getD j false=false:=by
 simp[List.getD,h]
theorem EX {ops:List Oper} {J':List (List Bool)} {m:Nat} (RF:∀i o,ops[i]?=some o→∀e∈o.after,Region.binds .any e=true→e.on<i) (hm:m≤ops.length)
  (UJ:∀(j:Nat) (o:Oper),(ops.take m)[j]?=some o→J'.getD j []=hE (J'.take j) o.after.toList):∀(i:Nat),i<m→∀j,(J'.getD i []).getD j false=true→j<i:=by
 intro i
 induction i using Nat.strongRecOn with
 | _ i ih =>
  intro hi j hj
  have hoi:ops[i]?=some (ops[i]'(by omega)):=Ph (by omega)
  rw[UJ i _ (by rw[PK,Pn hi];exact hoi)]at hj
  obtain⟨e,he,hb,hc⟩:=pp hj
  have U6:e∈(ops[i]'(by omega)).after:=by simpa using he
  have hei:=RF i _ hoi e U6 hb
  rcases hc with rfl | hc
  ·exact hei
  ·have e2:(J'.take i).getD e.on []=J'.getD e.on []:=by
    unfold List.getD;rw[PK,Pn hei]
   rw[e2]at hc
   have:=ih e.on hei (by omega) j hc
   omega
theorem ti {id:Nat} {x:Fz}:∀{env:List (Nat×D)} {t:Nat} {d:D},(t,d)∈env→(t,eF id x d)∈ns id x env
 | (s,e)::r,t,d,h=>by
  rcases Qf.1 h with h | h
  ·cases h;exact PT ..
  ·exact PN _ (ti h)
theorem a5.addAt {S:Nat→Prop} {μ:Nat→Value} {st:St} {a:Act} {w:World} (h:a5 C S μ st a w) {id:Nat} (hd:st.heap[id]?=some .dead) (hf:bO id st.env=true) (hh:bL id st.heap=true) {B:ax} {u:Value} (WD:B.isOwn=true) {μ1:Nat→Value} (G':aJ S μ1 w u B)
  (RR:∀b,bI u b→C.W.heap.size≤b∧¬S b∧∀(i:Nat) (A:ax),st.heap[i]?=some A→A.live=true→¬bI (μ i) b):a5 C S (a7 μ id u) ⟨st.env,st.heap.set id B⟩ a w:=by
 have RL:∀i,i≠id→a7 μ id u i=μ i:=fun i hi=>aL _ _ hi
 have RF:id<st.heap.length:=(Pf.1 hd).1
 have ST:∀(i:Nat) (A:ax),(st.heap.set id B)[i]?=some A→(i≠id∧st.heap[i]?=some A)∨(i=id∧A=B):=by
  intro i A hA
  by_cases hi:i=id
  ·subst hi
   rw[PB RF]at hA
   exact .inr ⟨rfl,by cases hA;rfl⟩
  ·rw[PA (Rt hi)]at hA
   exact .inl ⟨hi,hA⟩
 refine⟨h.os,h.tape,h.output,h.size,h.old,h.mono,h.new,h.slt,?_,⟨?_,?_,?_⟩,?_,?_,h.tsize,?_⟩
 ·intro t d hm
  obtain⟨q1,q2⟩:=h.env t d hm
  exact⟨q1,q2.stable (fun _ h _=>h) (fun _ _ _=>rfl) (Pl _) (fun id RE=>aL _ _ (fun e=>by rw[e,dy hf hm]at RE;cases RE))⟩
 ·intro i A hA
  rcases ST i A hA with ⟨hi,hA⟩ | ⟨rfl,rfl⟩
  ·rw[RL i hi]
   exact(h.heap.box i A hA).stable (fun _ h _=>h) (fun _ _ _=>rfl) (Pl _) (fun id RE=>aL _ _ (fun e=>by rw[e,cX hh hA]at RE;cases RE)) (fun _ _=>rfl)
  ·rw[az]
   exact G'.arrMu WD
 ·intro i j A A' b hA R4 la Vx hb R6
  have g1:=ST i A hA
  have g2:=ST j A' R4
  clear hA R4
  rcases g1 with ⟨hi,hA⟩ | ⟨ei,eA⟩<;>rcases g2 with ⟨hj,R4⟩ | ⟨ej,eA'⟩
  ·rw[RL i hi]at hb;rw[RL j hj]at R6
   exact h.heap.apart i j A A' b hA R4 la Vx hb R6
  ·rw[RL i hi]at hb;rw[ej,az]at R6
   exact((RR b R6).2.2 i A hA la hb).elim
  ·rw[RL j hj]at R6;rw[ei,az]at hb
   exact((RR b hb).2.2 j A' R4 Vx R6).elim
  ·rw[ei,ej]
 ·intro i A b hA la hb
  rcases ST i A hA with ⟨hi,hA⟩ | ⟨rfl,rfl⟩
  ·rw[RL i hi]at hb
   exact h.heap.notS i A b hA la hb
  ·rw[az]at hb
   exact(RR b hb).2.1
 ·intro i A b hA la hb
  rcases ST i A hA with ⟨hi,hA⟩ | ⟨rfl,rfl⟩
  ·rw[RL i hi]at hb
   exact h.may i A b hA la hb
  ·rw[az]at hb
   exact(RR b hb).1
 ·obtain⟨mk,e1,e2,e3⟩:=h.defers
  refine⟨mk,e1,e2,fun b hb=>?_⟩
  obtain⟨g1,g2,g3,g4⟩:=e3 b hb
  refine⟨g1,g2,g3,fun i A hA la SU=>?_⟩
  rcases ST i A hA with ⟨hi,hA⟩ | ⟨rfl,rfl⟩
  ·rw[RL i hi]at SU
   exact g4 i A hA la SU
  ·rw[az]at SU
   obtain⟨cs,T,x,hh2⟩:=G'.ownBlk WD SU
   rw[hh2]at g1
   simp at g1
 ·intro i A b hA la hb
  rcases ST i A hA with ⟨hi,hA⟩ | ⟨rfl,rfl⟩
  ·rw[RL i hi]at hb
   exact h.ro i A b hA la hb
  ·cases A<;>first | (cases WD;done) | cases la
theorem a5.alias {S:Nat→Prop} {μ:Nat→Value} {st:St} {a:Act} {w:World} (h:a5 C S μ st a w) {q p:Nat} {A:ax} (hq:st.heap[q]?=some A) (hA:A.isArr=true) (hp:st.heap[p]?=some .dead) (hf:bO p st.env=true) (hh:bL p st.heap=true) :
  a5 C S (a7 μ p (μ q)) ⟨st.env,(st.heap.set q .dead).set p A⟩ a w:=by
 have hl:A.live=true:=by cases A<;>first | rfl | cases hA
 have hqp:q≠p:=fun e=>by subst e;rw[hq]at hp;cases hp;cases hl
 have hqL:q<st.heap.length:=(Pf.1 hq).1
 have hpL:p<st.heap.length:=(Pf.1 hp).1
 have h1:a5 C S μ ⟨st.env,st.heap.set q .dead⟩ a w:=h.heapTo (fun i B hB=>by
  by_cases e:i=q
  ·subst e;rw[PB hqL]at hB;cases hB;exact .inl rfl
  ·rw[PA (Rt e)]at hB;exact .inr hB)
 have Uo:(st.heap.set q .dead)[p]?=some .dead:=by rw[PA hqp];exact hp
 have hh1:bL p (st.heap.set q .dead)=true:=py (fun i B hB=>by
  by_cases e:i=q
  ·subst e;rw[PB hqL]at hB;cases hB;rfl
  ·rw[PA (Rt e)]at hB;exact cX hh hB)
 refine h1.addAt Uo hf hh1 (ax.isOwn_arr hA) (h.heap.box q A hq) (fun b hb=>⟨h.may q A b hq hl hb,h.heap.notS q A b hq hl hb,fun i B hB lB SU=>?_⟩)
 have RZ:(st.heap.set q .dead)[i]?=some B:=hB
 by_cases e:i=q
 ·subst e;rw[PB hqL]at RZ;cases RZ;cases lB
 ·rw[PA (Rt e)]at RZ
  exact e (h.heap.apart i q B A b RZ hq lB hl SU hb)
theorem Ev.dwG {id:Nat} {ops:List Oper} {st:St} {Q:Exit→St→Prop} (RI:List (Nat×Ov)) (m:Nat) (Su:Nat→Bool) {J':List (List Bool)} {ks:List Mk} (UK:m≤ops.length)
  (Sb:J'.length=(ops.take m).length) (Sw:ks.length=(ops.take m).length)
  (Vl:∀(j:Nat) (o:Oper),(ops.take m)[j]?=some o→(J'.getD j [])=hE (J'.take j) o.after.toList ∧
    ((fU ops (dP (ops.take m) st (ks.take j) (J'.getD j [])) o=some true∧∃k p,te C.P (dP (ops.take m) st (ks.take j) (J'.getD j [])).heap (eE (dP (ops.take m) st (ks.take j) (J'.getD j [])).env) (nw RI j) o.op=(k,p)∧p∧ks[j]?=some k) ∨
     (fU ops (dP (ops.take m) st (ks.take j) (J'.getD j [])) o=some false∧ks[j]?=some (lF (.tup []) .dead))))
  (Vm:Ja ops.toArray tg ⟨Array.replicate C.nt undef,[]⟩=true) (VO:mt C.nt (ops.take m)=true) (VP:vk (ops.take m)=true) (UL:ops.all (fun o=>!cF o)=true)
  (SV:jJ st st.heap.length 0 J' ks J' ks=true) (RV:kk st.heap.length J' ks=true) (VQ:C.P.follows .mixedOrders=true)
  (htailL:∀i,m≤i→i<ops.length→∀j,j<m→Su j=false→cE ops.toArray i j=true)
  (W7:∀(C':Array Bool) (S:Nat→Prop) (μ:Nat→Value) (a':Act) (w:World),C'.size=ops.length →
    (∀i o,C'.getD i false=true→ops[i]?=some o→∀e∈o.after,Region.binds .any e=true→C'.getD e.on false=true)→a5 C S μ (dP (ops.take m) st ks ((List.range m).map fun j=>C'.getD j false)) a' w →
    (∀j,j<m→Su j=false→C'.getD j false=true)→(∀i,m≤i→C'.getD i false=false) →
    wpAnyIn (nk C.rd) 0 C.P .any ops.toArray (fun e a' w'=>∃L' S' μ',Q e L'∧a5 C S' μ' L' a' w') (xC C' m+(ops.length-m)) C' a' w) :
  Ev C (.region id ops.toArray true) Q st:=fun a w S μ hR=>by
 have hnd:A8 ops.toArray:=fun i o ho=>by
  rw[PH]at UL
  have:=UL o (PM (by simpa using ho))
  simpa using this
 have W8:(ops.take m).length=m:=by rw[PD];omega
 rw[W8]at Sb Sw
 have TI:G9 ops.toArray tg a:=xG (x4 Vm (by simp[hR.tsize]) rfl rfl)
 have Vy:∀(k:Nat) (o:Oper),k<m→ops[k]?=some o→(ops.take m)[k]?=some o:=fun k o hk ho=>by rw[PK,Pn hk];exact ho
 have RB:ops.toArray.size=ops.length:=by simp
 have hdsts:∀(k:Nat) (o:Oper),k<m→ops[k]?=some o→(∃t,o.dst=some t∧t<C.nt∧kf o.op=false)∨(o.dst=none∧kf o.op=true):=by
  have key:∀(l:List Oper),mt C.nt l=true→∀(k:Nat) (o:Oper),l[k]?=some o→(∃t,o.dst=some t∧t<C.nt∧kf o.op=false)∨(o.dst=none∧kf o.op=true):=by
   intro l
   induction l with
   | nil=>intro _ k o ho;simp at ho
   | cons x r ih =>
    intro hd k o ho
    unfold mt at hd
    simp only[Pg]at hd
    cases k with
    | zero =>
     simp at ho;subst ho
     have h1:=hd.1
     split at h1
     ·rename_i t ht;simp only[Pg,PR]at h1;exact .inl ⟨t,ht,by simpa using h1.1,h1.2⟩
     ·rename_i ht;exact .inr ⟨ht,h1⟩
    | succ k=>exact ih hd.2 k o (by simpa using ho)
  exact fun k o hk ho=>key _ VO k o (Vy k o hk ho)
 let RJ:Array Bool→List Bool:=fun C'=>(List.range m).map fun j=>C'.getD j false
 have main:∀(fuel:Nat) (C':Array Bool) (env:Nat→Value) (S:Nat→Prop) (μ:Nat→Value) (a':Act) (w:World),lg ops.toArray a C' env a'→a5 C S μ (dP (ops.take m) st ks (RJ C')) a' w→xC C' m=fuel→(∀i,m≤i→C'.getD i false=false) →
   wpAnyIn (nk C.rd) 0 C.P .any ops.toArray (fun e a' w'=>∃L' S' μ',Q e L'∧a5 C S' μ' L' a' w') (fuel+(ops.toArray.size-m)) C' a' w:=by
  intro fuel
  induction fuel with
  | zero =>
   intro C' env S μ a' w hF hRL hu SM
   have hj:=W7 C' S μ a' w (by rw[hF.lsize];exact RB) (fun i o hl ho e he hb=>hF.closed i o hl (by simpa using ho) e he hb) hRL (fun j hj _=>xI C' m hu j hj) SM
   rw[hu]at hj
   rw[RB]
   exact hj
  | succ fuel ih =>
   intro C' env S μ a' w hF hRL hu SM
   by_cases hnlate:∀j,j<m→Su j=false→C'.getD j false=true
   ·rw[show fuel+1=xC C' m from hu.symm,RB]
    exact W7 C' S μ a' w (by rw[hF.lsize];exact RB) (fun i o hl ho e he hb=>hF.closed i o hl (by simpa using ho) e he hb) hRL hnlate SM
   obtain⟨k0,hk01,hk0l,hk02⟩:∃k,k<m∧Su k=false∧C'.getD k false=false:=by
    refine Classical.byContradiction fun hn=>hnlate fun j hj hl=>?_
    cases h:C'.getD j false
    ·exact(hn ⟨j,hj,hl,h⟩).elim
    ·rfl
   have hex:∃k,k<m∧C'.getD k false=false:=⟨k0,hk01,hk02⟩
   rw[show fuel+1+(ops.toArray.size-m)=(fuel+(ops.toArray.size-m))+1 from by omega]
   refine⟨fun UM=>?_,fun i hi=>?_⟩
   ·obtain⟨k,Um,Tl⟩:=hex
    have:=p5 TI C' hF.lsize UM k (by omega)
    rw[Tl]at this
    cases this
   obtain⟨Sh,o,ho,hr⟩:=(cV C' hF.lsize i).1 hi
   have RF:i<ops.toArray.size:=(Px.1 ho).1
   have Vn:i<C'.size:=by rw[hF.lsize];exact RF
   have Vo:i<m:=by
    refine Ql fun hn=>?_
    have:=ga hF.closed 12 i k0 (fun o' SG=>by rw[ho]at SG;cases SG;exact hr) (htailL i (by omega) (by rw[← RB];exact RF) k0 hk01 hk0l)
    rw[hk02]at this
    cases this
   have hu':xC (C'.setIfInBounds i true) m=fuel:=by
    have:=A5 C' i Vn Sh m
    rw[Pn Vo]at this
    omega
   have hno':∀k,m≤k→(C'.setIfInBounds i true).getD k false=false:=fun k hk=>by
    rw[a6 _ _ _ Vn,Pj (by omega)]
    exact SM k hk
   have SG:ops[i]?=some o:=by simpa using ho
   obtain⟨han,U7⟩:=Vl i o (Vy i o Vo SG)
   have UJ:∀j,(J'.getD i []).getD j false=true→C'.getD j false=true :=
    oH (ops:=ops) (fun i o hl ho e he hb=>hF.closed i o hl (by simpa using ho) e he hb) (fun i o ho e he hb=>TI.top i o (by simpa using ho) e he hb) UK (fun j o ho=>(Vl j o ho).1) Sb i o Vo SG hr
   have hgi:(RJ C').getD i false=false:=by rw[cG C' m i Vo];exact Sh
   have hltE:∀i o,ops[i]?=some o→∀e∈o.after,Region.binds .any e=true→e.on<i:=fun i o ho e he hb=>TI.top i o (by simpa using ho) e he hb
   have Ud:∀(j:Nat) (o:Oper),(ops.take m)[j]?=some o→J'.getD j []=hE (J'.take j) o.after.toList:=fun j o ho=>(Vl j o ho).1
   have VR:∀(p:Nat),C'.getD p false=true→p<m→∀j,(J'.getD p []).getD j false=true→C'.getD j false=true:=fun p hp Wt j hj =>
    oH (ops:=ops) (J':=J') (m:=m) (ls:=C') (fun i o hl ho e he hb=>hF.closed i o hl (by simpa using ho) e he hb) hltE UK Ud Sb p _ Wt (Ph (by omega))
     (hF.closed p _ hp (by simp)) j hj
   have hthere:∀(q:Nat),q<m→(J'.getD i []).getD q false=true→jx (st.heap.length+q) (ks.take i) (J'.getD i [])=false→jx (st.heap.length+q) ks (RJ C')=false:=by
    intro q hqm hanq W9
    cases hd:jx (st.heap.length+q) ks (RJ C')
    ·rfl
    obtain⟨p,kp,p1,p2,p3⟩:=pu hd
    have Wt:p<m:=by have:=(Pf.1 p1).1;omega
    rw[cG C' m p Wt]at p2
    obtain⟨_,_,k3⟩:=iB RV p1 (JU p3)
    have hip:i≠p:=fun e=>by rw[← e,Sh]at p2;cases p2
    rcases k3 i (by omega) hip (by rw[Q9];exact hanq)with k4 | k4
    ·have hpi:=EX hltE UK Ud i Vo p k4
     rw[r6 (ks:=ks.take i) (bs:=J'.getD i []) (p:=p) (k:=kp) (by rw[PK,Pn hpi];exact p1) k4 p3]at W9
     cases W9
    ·have:=VR p p2 Wt i k4
     rw[Sh]at this;cases this
   have hfillv:∀(q:Nat),q<m→(J'.getD i []).getD q false=true→jH (st.heap.length+q) (ks.take i) (J'.getD i [])=jH (st.heap.length+q) ks (RJ C'):=by
    intro q hqm hanq
    cases hv:jH (st.heap.length+q) (ks.take i) (J'.getD i [])with
    | none =>
     cases ha:jH (st.heap.length+q) ks (RJ C')with
     | none=>rfl
     | some B =>
      exfalso
      obtain⟨p,kp,p1,p2,p3,_⟩:=fV ha
      rw[PX]at p2
      have Wt:p<m:=by have:=(Pf.1 p1).1;omega
      rw[cG C' m p Wt]at p2
      obtain⟨_,_,k3⟩:=iB RV p1 (tb p3)
      have hip:i≠p:=fun e=>by rw[← e,Sh]at p2;cases p2
      rcases k3 i (by omega) hip (by rw[Q9];exact hanq)with k4 | k4
      ·have hpi:=EX hltE UK Ud i Vo p k4
       exact kg hv p kp (by rw[PK,Pn hpi];exact p1) (by rw[PX];exact k4) p3
      ·have:=VR p p2 Wt i k4
       rw[Sh]at this;cases this
    | some B =>
     obtain⟨p,kp,p1,p2,p3,p4⟩:=fV hv
     rw[PX]at p2
     have hpi:p<i:=by have:=(Pf.1 p1).1;rw[PD]at this;omega
     rw[PK,Pn hpi]at p1
     have hlp:(RJ C').getD p false=true:=by rw[cG C' m p (by omega)];exact UJ p p2
     cases ha:jH (st.heap.length+q) ks (RJ C')with
     | none=>exact(kg ha p kp p1 (by rw[PX];exact hlp) p3).elim
     | some B' =>
      obtain⟨p',kp',r1,r2,r3,r4⟩:=fV ha
      have e:=th RV p1 r1 (tb p3) (tb r3)
      subst e
      rw[p1]at r1
      cases r1
      rw[p4,r4]
   let sti:=dP (ops.take m) st (ks.take i) (J'.getD i [])
   have VS:∀(j:Nat) (B:ax),sti.heap[j]?=some B→B=.dead∨(dP (ops.take m) st ks (RJ C')).heap[j]?=some B:=by
     intro j B hB
     show B=.dead∨(st.heap++di st.heap.length ks (RJ C'))[j]?=some B
     have RZ:(st.heap++di st.heap.length (ks.take i) (J'.getD i []))[j]?=some B:=hB
     by_cases hj:j<st.heap.length
     ·rw[Pw hj]at RZ ⊢;exact .inr RZ
     ·rw[Pz (by omega)]at RZ ⊢
      generalize hjj:j-st.heap.length=q at RZ ⊢
      have UF:q<(ks.take i).length:=by
       have:=(Pf.1 RZ).1
       rwa [dm]at this
      have Uq:(ks.take i)[q]?=some ((ks.take i)[q]):=Ph UF
      have hqi:q<i:=by rw[PD]at UF;omega
      have hkq2:ks[q]?=some ((ks.take i)[q]):=by rw[← Uq,PK,Pn hqi]
      rcases kh Uq RZ with h0 | ⟨g1,g2,g3,g4⟩
      ·exact .inl h0
      ·refine .inr (tf hkq2 (by rw[cG C' m q (by omega)];exact UJ q g1) (hthere q (by omega) g1 g2) g3 ?_)
       rw[hfillv q (by omega) g1]at g4
       exact g4
   have Wu:a5 C S μ sti a' w:=by
    have h1:=hRL.weak (env:=sti.env) (fun s d hm=>.inr ?_)
    ·exact h1.heapTo VS
    ·rcases Qn.1 hm with hm | hm
     ·exact QI _ hm
     ·obtain⟨j,oj,kj,q1,q2,q3,q4,rfl⟩:=fW hm
      have Sd:j<i:=by
       have:=(Pf.1 q2).1
       rw[PD]at this;omega
      refine QP _ (mi j q1 (by rw[← q2,PK,Pn Sd]) ?_ q4)
      rw[cG C' m j (by omega)]
      exact UJ j q3
   have hlenk:(di st.heap.length (ks.take i) (J'.getD i [])).length=i:=by rw[dm,PD];omega
   have hsl:sti.heap.length=st.heap.length+i:=by
    show(st.heap++_).length=_
    rw[PG,hlenk]
   have WE:∀j,(RJ (C'.setIfInBounds i true)).getD j false=(if j=i then true else (RJ C').getD j false):=by
    intro j
    by_cases hj:j<m
    ·rw[cG _ m j hj,cG _ m j hj,a6 _ _ _ Vn]
    ·rw[ql _ m j (by omega),ql _ m j (by omega),Pj (by omega)]
   have SI:∃k,ks[i]?=some k:=⟨_,Ph (by omega)⟩
   obtain⟨ki,SI⟩:=SI
   have Xa:∀(q:Nat),jx (st.heap.length+q) ks (RJ (C'.setIfInBounds i true))=false→jx (st.heap.length+q) ks (RJ C')=false:=by
    intro q hq
    cases hd:jx (st.heap.length+q) ks (RJ C')
    ·rfl
    ·obtain⟨p,kp,p1,p2,p3⟩:=pu hd
     have:=r6 (bs:=RJ (C'.setIfInBounds i true)) p1 (by rw[WE];split;rfl;exact p2) p3
     rw[this]at hq;cases hq
   have VT:∀(q:Nat),ki.fil≠some (st.heap.length+q)→jH (st.heap.length+q) ks (RJ C')=jH (st.heap.length+q) ks (RJ (C'.setIfInBounds i true)):=by
    intro q hq
    refine qZ (fun p kp p1 p2=>?_)
    rw[PX,WE,Pj]
    rintro rfl
    rw[SI]at p1
    cases p1
    exact hq p2
   have RR:ki.fil=none→∀(q:Nat) (B:ax),(di st.heap.length ks (RJ (C'.setIfInBounds i true)))[q]?=some B→B=.dead∨(q=i∧B=ki.b)∨(q≠i∧(di st.heap.length ks (RJ C'))[q]?=some B∧jx (st.heap.length+q) ks (RJ (C'.setIfInBounds i true))=false):=by
    intro UG q B hB
    have UF:q<ks.length:=by
     have:=(Pf.1 hB).1
     rwa [dm]at this
    have Uq:ks[q]?=some ks[q]:=Ph UF
    rcases kh Uq hB with h0 | ⟨g1,g2,g3,g4⟩
    ·exact .inl h0
    by_cases e:q=i
    ·subst e
     rw[SI]at Uq
     rcases g4 with ⟨_,g5⟩ | g5
     ·refine .inr (.inl ⟨rfl,?_⟩)
      rw[g5]
      simp only[Pu]at Uq
      rw[← Uq]
     ·exfalso
      obtain⟨p,kp,p1,p2,p3,_⟩:=fV g5
      rw[PX,WE]at p2
      obtain⟨_,k2,_⟩:=iB RV p1 (tb p3)
      rw[Q9]at k2
      by_cases hpq:p=q
      ·subst hpq
       rw[SI]at p1
       cases p1
       rw[UG]at p3;cases p3
      ·rw[Pj hpq]at p2
       have Wt:p<m:=by have:=(Pf.1 p1).1;omega
       rw[cG C' m p Wt]at p2
       have:=VR p p2 Wt q k2
       rw[Sh]at this;cases this
    ·refine .inr (.inr ⟨e,tf Uq ?_ (Xa q g2) g3 ?_,g2⟩)
     ·have e2:=WE q
      rw[Pj e]at e2
      rw[← e2];exact g1
     ·rw[VT q (by rw[UG];simp)];exact g4
   have VU:∀(t:Nat),o.dst=some t→∀(S':Nat→Prop) (μ':Nat→Value) (u:Value) (w':World) (Tu:List (Nat×D)) (H':List ax),a5 C S' μ' ⟨Tu,H'⟩ (a'.put o.dst u) w'→(∀s d,(s,d)∈(dP (ops.take m) st ks (RJ C')).env→s≠t→(s,d)∈Tu)→(t,ki.d)∈Tu →
     (∀(j:Nat) (B:ax),(dP (ops.take m) st ks (RJ (C'.setIfInBounds i true))).heap[j]?=some B→B=.dead∨H'[j]?=some B)→a5 C S' μ' (dP (ops.take m) st ks (RJ (C'.setIfInBounds i true))) (a'.put o.dst u) w':=by
    intro t U8 S' μ' u w' Tu H' R9 he1 he2 hH
    have h2:=R9.weak (env:=(dP (ops.take m) st ks (RJ (C'.setIfInBounds i true))).env) (fun s d hm=>.inr ?_)
    ·exact h2.heapTo hH
    ·rcases Qn.1 hm with hm | hm
     ·refine he1 s d (QI _ hm) ?_
      rintro rfl
      exact(jI hm).2 o (PM (Vy i o Vo SG)) U8
     ·obtain⟨j,oj,kj,q1,q2,q3,q4,rfl⟩:=fW hm
      by_cases hj:j=i
      ·subst hj
       rw[SI]at q2;cases q2
       rw[Vy j o Vo SG]at q1;cases q1
       rw[U8]at q4;cases q4
       exact he2
      ·rw[WE,Pj hj]at q3
       refine he1 s kj.d (QP _ (mi j q1 q2 q3 q4)) ?_
       rintro rfl
       exact hj (vq VP j i oj o s q1 (Vy i o Vo SG) q4 U8)
   have Xb:(dP (ops.take m) st ks (RJ C')).heap.length=st.heap.length+ks.length:=by
    show(st.heap++di st.heap.length ks (RJ C')).length=_
    rw[PG,dm]
   have hil:i<ks.length:=(Pf.1 SI).1
   have WF:∀(t:Nat),o.dst=some t→t<C.nt→ki.fil=none→∀(S':Nat→Prop) (μ':Nat→Value) (u:Value) (w':World) (H':List ax),a5 C S' μ' ⟨(dP (ops.take m) st ks (RJ C')).env,H'⟩ a' w'→H'=(dP (ops.take m) st ks (RJ C')).heap.set (st.heap.length+i) ki.b→ao S' μ' w' ki.d u→a5 C S' μ' (dP (ops.take m) st ks (RJ (C'.setIfInBounds i true))) (a'.put o.dst u) w':=by
    intro t U8 htn UG S' μ' u w' H' R9 hH' hd
    subst hH'
    have h1:=R9.put htn hd
    rw[← U8]at h1
    refine VU t U8 S' μ' u w' _ _ h1 (fun s d hm hs=>PN _ (jK hm hs)) (PT ..) (fun j B hB=>?_)
    show B=.dead∨((dP (ops.take m) st ks (RJ C')).heap.set (st.heap.length+i) ki.b)[j]?=some B
    have RZ:(st.heap++di st.heap.length ks (RJ (C'.setIfInBounds i true)))[j]?=some B:=hB
    by_cases hj2:j<st.heap.length
    ·rw[Pw hj2]at RZ
     rw[PA (by omega)]
     refine .inr ?_
     show(st.heap++di st.heap.length ks (RJ C'))[j]?=some B
     rw[Pw hj2];exact RZ
    ·rw[Pz (by omega)]at RZ
     rcases RR UG _ B RZ with h1 | ⟨h1,rfl⟩ | ⟨h1,h2,_⟩
     ·exact .inl h1
     ·rw[show j=st.heap.length+i by omega,PB (by rw[Xb];omega)]
      exact .inr rfl
     ·rw[PA (by omega)]
      refine .inr ?_
      show(st.heap++di st.heap.length ks (RJ C'))[j]?=some B
      rw[Pz (by omega)];exact h2
   have SY:(dP (ops.take m) st ks (RJ C')).heap[st.heap.length+i]?=some .dead:=by
    show(st.heap++di st.heap.length ks (RJ C'))[st.heap.length+i]?=some .dead
    rw[Pz (by omega),Q9,mr _ _ _ _ _ SI,Pj (by rw[hgi];simp)]
   have next:∀(S':Nat→Prop) (μ':Nat→Value) (u:Value) (w':World),a5 C S' μ' (dP (ops.take m) st ks (RJ (C'.setIfInBounds i true))) (a'.put o.dst u) w' →
     wpAnyIn (nk C.rd) 0 C.P .any ops.toArray (fun e a' w'=>∃L' S' μ',Q e L'∧a5 C S' μ' L' a' w') (fuel+(ops.toArray.size-m)) (C'.setIfInBounds i true) (a'.put o.dst u) w' :=
    fun S' μ' u w' R9=>ih _ _ S' μ' _ w' (hF.step TI ho Sh hr u) R9 hu' hno'
   have Xc:∀(S':Nat→Prop) (μ':Nat→Value) (w':World) (H':List ax),o.dst=none→a5 C S' μ' ⟨(dP (ops.take m) st ks (RJ C')).env,H'⟩ a' w' →
     (∀(j:Nat) (B:ax),(dP (ops.take m) st ks (RJ (C'.setIfInBounds i true))).heap[j]?=some B→B=.dead∨H'[j]?=some B)→a5 C S' μ' (dP (ops.take m) st ks (RJ (C'.setIfInBounds i true))) a' w':=by
    intro S' μ' w' H' hdn R9 hH
    have h2:=R9.weak (env:=(dP (ops.take m) st ks (RJ (C'.setIfInBounds i true))).env) (fun s d hm=>.inr ?_)
    ·exact h2.heapTo hH
    ·rcases Qn.1 hm with hm | hm
     ·exact QI _ hm
     ·obtain⟨j,oj,kj,q1,q2,q3,q4,rfl⟩:=fW hm
      by_cases hj:j=i
      ·subst hj
       rw[Vy j o Vo SG]at q1;cases q1
       rw[hdn]at q4;cases q4
      ·rw[WE,Pj hj]at q3
       exact QP _ (mi j q1 q2 q3 q4)
   unfold wpOpIn
   simp only[ho]
   rcases hdsts i o Vo SG with ⟨t,U8,htn,hns⟩ | ⟨hdn,Sj⟩
   rotate_left
   ·-- a store that fills
    have VV:∀(S':Nat→Prop) (μ':Nat→Value) (w':World),a5 C S' μ' (dP (ops.take m) st ks (RJ (C'.setIfInBounds i true))) a' w' →
      wpAnyIn (nk C.rd) 0 C.P .any ops.toArray (fun e a' w'=>∃L' S' μ',Q e L'∧a5 C S' μ' L' a' w') (fuel+(ops.toArray.size-m)) (C'.setIfInBounds i true) a' w':=by
     intro S' μ' w' R9
     have Tb:a'.put o.dst undef=a':=by rw[hdn];rfl
     have h1:=next S' μ' undef w' (by rw[Tb];exact R9)
     rw[Tb]at h1
     exact h1
    have Se:ki.fil=none→ki.b=.dead→∀(j:Nat) (B:ax),(dP (ops.take m) st ks (RJ (C'.setIfInBounds i true))).heap[j]?=some B→B=.dead∨(dP (ops.take m) st ks (RJ C')).heap[j]?=some B:=by
     intro UG hbd j B hB
     have RZ:(st.heap++di st.heap.length ks (RJ (C'.setIfInBounds i true)))[j]?=some B:=hB
     show B=.dead∨(st.heap++di st.heap.length ks (RJ C'))[j]?=some B
     by_cases hj2:j<st.heap.length
     ·rw[Pw hj2]at RZ ⊢;exact .inr RZ
     ·rw[Pz (by omega)]at RZ ⊢
      rcases RR UG _ B RZ with h1 | ⟨_,h1⟩ | ⟨_,h2,_⟩
      ·exact .inl h1
      ·rw[hbd]at h1;exact .inl h1
      ·exact .inr h2
    rcases U7 with ⟨hg,k,p,hq,hp,hk⟩ | ⟨hg,hk⟩
    ·rw[SI]at hk
     cases hk
     rw[Pn (by rw[bZ Wu hg])]
     cases Sz:o.op<;>rw[Sz]at Sj<;>try (cases Sj)
     rename_i ty ad x
     rw[Sz]at hq
     obtain⟨id,T,cs,W2,f1,f2,f3⟩:=Aa hq hp
     have f1':(dP (ops.take m) st ks (RJ C')).heap[id]?=some (.var T cs):=(VS id _ f1).resolve_left (by simp)
     obtain⟨w',h1,h2⟩:=pk hRL (Wu.eval ad) (Wu.eval x) (f3 _ f1') trivial
     have hr:(execOp a'.eval o).run C.P w=.ok .skip w':=by
      simp only[execOp,Sz,Pm,h1,Pk,PF]
     have Xd:ki.b=.var T W2:=by rw[f2]
     have Sw:ki.kl=some id:=by rw[f2]
     have hkf:ki.fil=some id:=by unfold Mk.fil;rw[Xd];exact Sw
     obtain⟨k1,k2,_⟩:=iB RV SI Sw
     refine Lj hnd ho ?_
     rw[hr,Oper.uponIn_skip,hdn]
     refine VV S μ w' (Xc S μ w' _ hdn h2 (fun j B hB=>?_))
     have RZ:(st.heap++di st.heap.length ks (RJ (C'.setIfInBounds i true)))[j]?=some B:=hB
     have hidl:id<(dP (ops.take m) st ks (RJ C')).heap.length:=(Pf.1 f1').1
     by_cases hj2:j<st.heap.length
     ·rw[Pw hj2]at RZ
      rw[PA (by omega)]
      refine .inr ?_
      show(st.heap++di st.heap.length ks (RJ C'))[j]?=some B
      rw[Pw hj2];exact RZ
     ·rw[Pz (by omega)]at RZ
      generalize hjq:j-st.heap.length=q at RZ
      have Wv:j=st.heap.length+q:=by omega
      have UF:q<ks.length:=by
       have:=(Pf.1 RZ).1
       rwa [dm]at this
      have Uq:ks[q]?=some ks[q]:=Ph UF
      rcases kh Uq RZ with h0 | ⟨g1,g2,g3,g4⟩
      ·exact .inl h0
      have hqi:q≠i:=fun e=>by
       subst e
       rw[SI]at Uq
       simp only[Pu]at Uq
       rw[← Uq,hkf]at g3;cases g3
      by_cases e:j=id
      ·refine .inr ?_
       rw[e,PB hidl]
       have hfi:jH (st.heap.length+q) ks (RJ (C'.setIfInBounds i true))=some B→B=ki.b:=fun g5=>by
        obtain⟨p',kp,p1,p2,p3,p4⟩:=fV g5
        have e3:=th RV p1 SI (tb p3) (by rw[Sw,← e,Wv])
        subst e3
        rw[SI]at p1
        cases p1
        exact p4
       rcases g4 with ⟨g5,_⟩ | g5
       ·exact(kg g5 i ki SI (by rw[PX,WE,Pn rfl]) (by rw[hkf,← e,Wv])).elim
       ·rw[hfi g5,Xd]
      ·rw[PA (Rt e)]
       refine .inr ?_
       show(st.heap++di st.heap.length ks (RJ C'))[j]?=some B
       rw[Pz (by omega),hjq]
       refine tf Uq ?_ (Xa q g2) g3 ?_
       ·have e2:=WE q
        rw[Pj hqi]at e2
        rw[← e2];exact g1
       ·rw[VT q (by rw[hkf,← Wv];intro h;cases h;exact e rfl)];exact g4
    ·rw[SI]at hk
     cases hk
     rw[Pj (by rw[bZ Wu hg];simp)]
     have h9:=VV S μ w (Xc S μ w _ hdn hRL (Se rfl rfl))
     refine⟨fun f _=>oi C.rd f,?_⟩
     rw[hdn]
     exact h9
   rcases U7 with ⟨hg,k,p,hq,hp,hk⟩ | ⟨hg,hk⟩
   ·rw[SI]at hk
    cases hk
    rw[Pn (by rw[bZ Wu hg])]
    have WG:ki.b.live=true∨ki.kl.isSome=true→bO (st.heap.length+i) (dP (ops.take m) st ks (RJ C')).env=true∧bL (st.heap.length+i) (dP (ops.take m) st ks (RJ C')).heap=true:=by
     intro Sp
     obtain⟨f1,f2,f3⟩:=vp SV i _ ki (Ph (show i<J'.length by omega)) SI Sp
     rw[PX]at f1 f2 f3
     have TV:∀(j:Nat) (k:Mk),ks[j]?=some k→(RJ C').getD j false=true→D.free (st.heap.length+i) k.d=true∧ax.free (st.heap.length+i) k.b=true:=by
      intro j k hkj hlj
      have hjm:j<m:=by have:=(Pf.1 hkj).1;omega
      rw[cG C' m j hjm]at hlj
      rcases vo f3 j _ k (Ph (show j<J'.length by omega)) hkj with h1 | h1 | h1
      ·rw[PX]at h1;subst h1;rw[Sh]at hlj;cases hlj
      ·exfalso
       have hoj:ops[j]?=some (ops[j]'(by omega)):=Ph (by omega)
       have:=oH (ops:=ops) (J':=J') (m:=m) (ls:=C') (fun i o hl ho e he hb=>hF.closed i o hl (by simpa using ho) e he hb) (fun i o ho e he hb=>TI.top i o (by simpa using ho) e he hb) UK (fun j o ho=>(Vl j o ho).1) Sb j _ hjm hoj
        (hF.closed j _ hlj (by simp)) i (by
         have e:J'.getD j []=J'[j]'(by omega):=by simp[List.getD,Ph (show j<J'.length by omega)]
         rw[e];exact h1)
       rw[Sh]at this;cases this
      ·exact h1
     refine⟨ya (fun s d hm=>?_),py (fun j B hB=>?_)⟩
     ·rcases Qn.1 hm with hm | hm
      ·exact dy f1 (jI hm).1
      ·obtain⟨j,oj,kj,q1,q2,q3,q4,rfl⟩:=fW hm
       exact(TV j kj q2 q3).1
     ·have RZ:(st.heap++di st.heap.length ks (RJ C'))[j]?=some B:=hB
      by_cases hj2:j<st.heap.length
      ·rw[Pw hj2]at RZ;exact cX f2 RZ
      ·rw[Pz (by omega)]at RZ
       generalize Tg:j-st.heap.length=q at RZ
       have UF:q<ks.length:=by
        have:=(Pf.1 RZ).1
        rwa [dm]at this
       have Uq:ks[q]?=some ks[q]:=Ph UF
       rcases kh Uq RZ with rfl | ⟨g1,_,_,g4⟩
       ·rfl
       ·rcases g4 with ⟨_,rfl⟩ | g5
        ·exact(TV q _ Uq g1).2
        ·obtain⟨p',kp,p1,p2,_,rfl⟩:=fV g5
         rw[PX]at p2
         exact(TV p' kp p1 p2).2
    have hkill:∀(u:Value) (w':World) (TY:Nat) (A0 B0:ax),ki.kl=some TY→sti.heap[TY]?=some A0→A0.isArr=true→B0.isArr=true→w.grownBy w' (aM (μ TY))→aJ S μ w' u B0→(∀b,bI u b→aM (μ TY)=some b∨w.heap.size≤b) →
      ((ki.b=B0∧ki.d=.own sti.heap.length)∨∃(E sz:Nat) (α:Type) (enc:α→List V) (d:α) (l:List α),B0=.arr E sz enc d l∧ki.b=.dead∧ki.d=.v (.sl sz enc d l))→∃S' μ',a5 C S' μ' (dP (ops.take m) st ks (RJ (C'.setIfInBounds i true))) (a'.put o.dst u) w':=by
     intro u w' TY A0 B0 Sw hA0 hAa U9 Tv G' Rx hval
     obtain⟨k1,k2,_⟩:=iB RV SI Sw
     have UG:ki.fil=none:=Hp (by
      rcases hval with ⟨e1,_⟩ | ⟨_,_,_,_,_,_,_,e1,_⟩
      ·exact .inl (by rw[e1];exact(ax.isOwn_arr U9))
      ·exact .inr e1)
     obtain⟨f1,f2⟩:=WG (.inr (by rw[Sw];rfl))
     have Vz:A0.live=true:=by cases A0<;>first | rfl | cases hAa
     have VA:B0.live=true:=by cases B0<;>first | rfl | cases U9
     have WH:(dP (ops.take m) st ks (RJ C')).heap[TY]?=some A0:=by
      refine(VS TY A0 hA0).resolve_left (fun e=>?_)
      rw[e]at Vz;cases Vz
     have Sm:TY≠st.heap.length+i:=fun e=>by rw[e,SY]at WH;cases WH;cases Vz
     have h1:=hRL.alias WH hAa SY f1 f2
     have hPl:st.heap.length+i<(dP (ops.take m) st ks (RJ C')).heap.length:=by rw[Xb];omega
     have hidl:TY<(dP (ops.take m) st ks (RJ C')).heap.length:=(Pf.1 WH).1
     let H1:=((dP (ops.take m) st ks (RJ C')).heap.set TY .dead).set (st.heap.length+i) A0
     have hH1P:H1[st.heap.length+i]?=some A0:=PB (by rw[PO];exact hPl)
     have hH1:∀j,j≠st.heap.length+i→j≠TY→H1[j]?=(dP (ops.take m) st ks (RJ C')).heap[j]?:=fun j h1 h2=>by
      show(((dP (ops.take m) st ks (RJ C')).heap.set TY .dead).set (st.heap.length+i) A0)[j]?=_
      rw[PA (Rt h1),PA (Rt h2)]
     have hfH1:bL (st.heap.length+i) H1=true:=py (fun j B hB=>by
      by_cases e1:j=st.heap.length+i
      ·rw[e1,hH1P]at hB;cases hB;cases A0<;>first | rfl | cases hAa
      ·by_cases e2:j=TY
       ·subst e2
        have:H1[j]?=some .dead:=by
         show(((dP (ops.take m) st ks (RJ C')).heap.set j .dead).set (st.heap.length+i) A0)[j]?=_
         rw[PA (Rt e1),PB hidl]
        rw[this]at hB;cases hB;rfl
       ·rw[hH1 j e1 e2]at hB;exact cX f2 hB)
     have h2:=h1.upd0 (id:=st.heap.length+i) (B:=B0) (row:=aM (μ TY)) (u:=u) Tv (fun k hk=>⟨A0,hH1P,Vz,by rw[az];exact .inl hk⟩) (by show _≤H1.length;simp[H1];omega) (G'.arrMu (ax.isOwn_arr U9)) Rx (.inr ⟨f1,hfH1⟩) (lh U9)
     have hset:bD H1 (st.heap.length+i) B0=H1.set (st.heap.length+i) B0:=by
      unfold bD
      rw[Pj (by
       intro hh;rw[PC]at hh
       have:H1.length=(dP (ops.take m) st ks (RJ C')).heap.length:=by simp[H1]
       omega)]
     have WI:a5 C S (a7 (a7 μ (st.heap.length+i) (μ TY)) (st.heap.length+i) u) ⟨(dP (ops.take m) st ks (RJ C')).env,H1.set (st.heap.length+i) B0⟩ a' w':=by rw[← hset];exact h2
     have P':ao S (a7 (a7 μ (st.heap.length+i) (μ TY)) (st.heap.length+i) u) w' (.own (st.heap.length+i)) u:=by
      have:=ao.own (S:=S) (μ:=a7 (a7 μ (st.heap.length+i) (μ TY)) (st.heap.length+i) u) (w:=w') (st.heap.length+i)
      rwa [az]at this
     have h3:=WI.put htn P'
     rw[← U8]at h3
     have hH1l:H1.length=(dP (ops.take m) st ks (RJ C')).heap.length:=by simp[H1]
     have VW:∀(j:Nat) (B:ax),(dP (ops.take m) st ks (RJ (C'.setIfInBounds i true))).heap[j]?=some B→B=.dead∨(j=st.heap.length+i∧B=ki.b)∨(j≠st.heap.length+i∧H1[j]?=some B∧ax.free (st.heap.length+i) B=true):=by
      intro j B hB
      have RZ:(st.heap++di st.heap.length ks (RJ (C'.setIfInBounds i true)))[j]?=some B:=hB
      by_cases hj2:j<st.heap.length
      ·rw[Pw hj2]at RZ
       have UN:(dP (ops.take m) st ks (RJ C')).heap[j]?=some B:=by
        show(st.heap++di st.heap.length ks (RJ C'))[j]?=some B
        rw[Pw hj2];exact RZ
       exact .inr (.inr ⟨by omega,by rw[hH1 j (by omega) (by omega)];exact UN,cX f2 UN⟩)
      ·rw[Pz (by omega)]at RZ
       rcases RR UG _ B RZ with q1 | ⟨q1,rfl⟩ | ⟨q1,q2,q3⟩
       ·exact .inl q1
       ·exact .inr (.inl ⟨by omega,rfl⟩)
       ·have UN:(dP (ops.take m) st ks (RJ C')).heap[j]?=some B:=by
         show(st.heap++di st.heap.length ks (RJ C'))[j]?=some B
         rw[Pz (by omega)];exact q2
        have hjid:j≠TY:=fun e=>by
         rw[show st.heap.length+(j-st.heap.length)=TY by omega,r6 (bs:=RJ (C'.setIfInBounds i true)) SI (by rw[WE,Pn rfl]) (by rw[JV UG];exact Sw)]at q3
         cases q3
        exact .inr (.inr ⟨by omega,by rw[hH1 j (by omega) hjid];exact UN,cX f2 UN⟩)
     rcases hval with ⟨e1,e2⟩ | ⟨E,sz,α,enc,d,l,rfl,e1,e2⟩
     ·refine⟨_,_,VU t U8 S _ u w' _ _ h3 (fun s d hm hs=>PN _ (jK hm hs)) (by rw[e2,hsl];exact PT ..) (fun j B hB=>?_)⟩
      rcases VW j B hB with q1 | ⟨rfl,rfl⟩ | ⟨q1,q2,_⟩
      ·exact .inl q1
      ·refine .inr ?_
       rw[PB (by rw[hH1l];exact hPl),e1]
      ·refine .inr ?_
       rw[PA (Rt q1)];exact q2
     ·have VB:(H1.set (st.heap.length+i) (ax.arr E sz enc d l))[st.heap.length+i]?=some (ax.arr E sz enc d l):=PB (by rw[hH1l];exact hPl)
      obtain⟨S3,h4⟩:=h3.freezeZ (id:=st.heap.length+i) (Z:=ax.arr E sz enc d l) (z:=.sl (.sl sz enc d l)) VB rfl (fq (h3.heap.box _ _ VB) (fun b hb=>.inl hb) (fun b hb=>.inr hb) h3.slt)
      refine⟨S3,_,VU t U8 S3 _ u w' _ _ h4 (fun s d' hm hs=>?_) ?_ (fun j B hB=>?_)⟩
      ·have:=ti (id:=st.heap.length+i) (x:=.sl (.sl sz enc d l)) (PN (t,D.own (st.heap.length+i)) (jK (t:=t) hm hs))
       rwa [qc d' (dy f1 hm)]at this
      ·have:=ti (id:=st.heap.length+i) (x:=.sl (.sl sz enc d l)) (PT (a:=(t,D.own (st.heap.length+i))) (l:=qY (dP (ops.take m) st ks (RJ C')).env t))
       have e:eF (st.heap.length+i) (.sl (.sl sz enc d l)) (.own (st.heap.length+i))=.v (.sl sz enc d l):=by simp[eF,Fz.own]
       rw[e2,← e]
       exact this
      ·rcases VW j B hB with q1 | ⟨_,rfl⟩ | ⟨q1,q2,q3⟩
       ·exact .inl q1
       ·exact .inl e1
       ·refine .inr ?_
        show((fc (st.heap.length+i) (.sl (.sl sz enc d l)) (H1.set (st.heap.length+i) (ax.arr E sz enc d l))).set (st.heap.length+i) .dead)[j]?=some B
        rw[PA (Rt q1),jE,PA (Rt q1),q2,PY,uV B q3]
    rw[EU hns]at hq
    refine Lj hnd ho (nj.uponIn (Ac Wu.heap Wu.slt Wu.glob (fun x=>Wu.eval x) hq hp (R:=fun u w'=>∃S' μ',a5 C S' μ' (dP (ops.take m) st ks (RJ (C'.setIfInBounds i true))) (a'.put o.dst u) w') ?_) (fun u w' hex=>?_))
    ·rintro u w' (⟨Sw,Tj,hc⟩ | ⟨TY,A0,B0,Sw,hA0,hAa,U9,Tv,G',Rx,hval⟩)
     rotate_left
     ·exact hkill u w' TY A0 B0 Sw hA0 hAa U9 Tv G' Rx hval
     rcases hc with ⟨hbd,hd⟩ | ⟨obj,Sp,rfl,G',hd,Rx⟩ | ⟨S2,μ1,u0,W5,s1,s2,s3,G',hd,Rx⟩
     ·-- no box
      refine⟨fun b=>S b∨(w.heap.size≤b∧b<w'.heap.size),μ,WF t U8 htn (tc Sw) _ μ u w' (H':=(dP (ops.take m) st ks (RJ C')).heap.set (st.heap.length+i) ki.b) ?_ rfl ?_⟩
      ·rw[hbd,x9 SY]
       exact hRL.grow Tj.os Tj.tape Tj.output Tj.size Tj.block (fun b hb=>.inl hb) (fun b hb=>hb.imp (fun h=>h) (fun h=>h.1)) (fun b hb=>by
        rcases hb with hb | hb
        ·exact Qi (hRL.slt b hb) Tj.size
        ·exact hb.2)
      ·exact hd.stable (fun b hb hl=>hb.imp (fun h=>h) (fun h=>⟨h,hl⟩)) (fun _ _ _=>rfl) (Pl _) (fun _ _=>rfl)
     ·-- a new box
      rw[hsl]at G' hd
      refine⟨S,a7 μ (st.heap.length+i) u,WF t U8 htn (tc Sw) S _ u _ (H':=bD (dP (ops.take m) st ks (RJ C')).heap (st.heap.length+i) ki.b) ?_ ?_ hd⟩
      ·refine hRL.upd0 (QA w obj none) (fun k hk=>by cases hk) ?_ G' (fun b hb=>.inr (by rw[Rx b hb];exact Pl _)) ?_ (Dd Sp)
       ·have:=(Pf.1 SY).1;omega
       ·refine .inr ?_
        exact WG (.inl Sp)
      ·unfold bD
       rw[Pj (by
        have:=(Pf.1 SY).1
        intro hh;rw[PC]at hh;omega)]
     ·-- a box that a call hands over
      rw[hsl]at hd
      have Sp:ki.b.live=true:=by cases Xd:ki.b<;>first | rfl | (rw[Xd]at W5;cases W5)
      refine⟨S2,a7 μ (st.heap.length+i) u0,WF t U8 htn (tc Sw) S2 _ u _ (H':=(dP (ops.take m) st ks (RJ C')).heap.set (st.heap.length+i) ki.b) ?_ rfl hd⟩
      have hG:a5 C S2 μ (dP (ops.take m) st ks (RJ C')) a' w':=hRL.grow Tj.os Tj.tape Tj.output Tj.size Tj.block s1 s2 s3
      refine hG.addAt SY (WG (.inl Sp)).1 (WG (.inl Sp)).2 W5 G' (fun b hb=>?_)
      obtain⟨k1,k2⟩:=Rx b hb
      refine⟨PZ hRL.size k1,k2,fun j A hA la SU=>?_⟩
      have:=(hRL.heap.box j A hA).lt la b SU
      omega
    ·obtain⟨S',μ',R9⟩:=hex
     exact next S' μ' u w' R9
   ·rw[SI]at hk
    cases hk
    rw[Pj (by rw[bZ Wu hg];simp)]
    refine⟨fun f _=>oi C.rd f,next S μ undef w (WF t U8 htn rfl S μ undef w (H':=(dP (ops.take m) st ks (RJ C')).heap.set (st.heap.length+i) .dead) ?_ rfl (.tup [] #[] rfl (fun j y u hy _=>by simp at hy)))⟩
    rw[x9 SY]
    exact hRL
 have h0:a5 C S μ (dP (ops.take m) st ks (RJ (Array.replicate ops.toArray.size false))) a w.drew:=by
  have hd:a5 C S μ st a w.drew:=hR.grow rfl rfl rfl (Pl _) (fun _ _=>rfl) (fun _ h=>h) (fun _ h=>.inl h) hR.slt
  have hf:∀j,(RJ (Array.replicate ops.toArray.size false)).getD j false=false:=by
   intro j
   by_cases hj:j<m
   ·rw[cG _ m j hj];simp[Array.getD]
   ·exact ql _ m j (by omega)
  have h1:=hd.weak (env:=(dP (ops.take m) st ks (RJ (Array.replicate ops.toArray.size false))).env) (fun s d hm=>.inr ?_)
  ·refine h1.heapTo (fun j B hB=>?_)
   have RZ:(st.heap++di st.heap.length ks (RJ (Array.replicate ops.toArray.size false)))[j]?=some B:=hB
   by_cases hj:j<st.heap.length
   ·rw[Pw hj]at RZ;exact .inr RZ
   ·rw[Pz (by omega)]at RZ
    generalize hjj:j-st.heap.length=q at RZ
    have UF:q<ks.length:=by
     have:=(Pf.1 RZ).1
     rwa [dm]at this
    rw[mr _ _ _ _ _ (Ph UF),hf q,Pj (by simp)]at RZ
    cases RZ
    exact .inl rfl
  ·rcases Qn.1 hm with hm | hm
   ·exact(jI hm).1
   ·obtain⟨j,oj,kj,q1,q2,q3,q4,rfl⟩:=fW hm
    rw[hf j]at q3;cases q3
 have key:=main m (Array.replicate ops.toArray.size false) (fun _=>undef) S μ a w.drew ?_ h0 (nG _ _ (by rw[RB];exact UK)) (fun i _=>by simp[Array.getD])
 ·rw[show m+(ops.toArray.size-m)=ops.toArray.size from by rw[RB];omega]at key
  exact wpIn_region_any VQ key
 ·have hf:∀k,(Array.replicate ops.toArray.size false).getD k false=true→False:=by
   intro k hk
   simp[Array.getD]at hk
  exact⟨by simp,fun i o h=>(hf i h).elim,rfl,rfl,fun _ _=>rfl,fun j t h=>(hf j h).elim⟩
theorem Ev.dw {id:Nat} {ops:List Oper} {st:St} {Q:Exit→St→Prop} (RI:List (Nat×Ov)) (m:Nat) (h:JZ C.P C.nt ops RI m st (fun R5=>Q .normal R5)):Ev C (.region id ops.toArray true) Q st:=by
 unfold JZ at h
 obtain⟨J',ks,Sb,Sw,_,_,hK,Vl⟩:=Ad (ops.take m) 0 [] [] rfl rfl h
 simp only[PX]at Sb Sw Vl
 cases hb:JY C.nt ops m&&(jJ st st.heap.length 0 J' ks J' ks&&kk st.heap.length J' ks)&&C.P.follows .mixedOrders with
 | false=>rw[hb]at hK;exact hK.elim
 | true =>
 rw[hb]at hK
 simp only[Pg]at hb
 obtain⟨⟨hdw,SV,RV⟩,VQ⟩:=hb
 unfold JY at hdw
 simp only[Pg]at hdw
 obtain⟨⟨⟨⟨Vm,TJ⟩,VO⟩,VP⟩,UL⟩:=hdw
 have UK:m≤ops.length:=by have:=(oh TJ).1;simpa using this
 have RB:ops.toArray.size=ops.length:=by simp
 obtain⟨htp,htq⟩:=rZ _ _ _ _ hK
 refine Ev.dwG RI m (fun _=>false) UK Sb Sw Vl Vm VO VP UL SV RV VQ (fun i hi hil j hj _=>(oh TJ).2 i hi (by rw[RB];exact hil) j (by omega)) ?_
 intro C' S μ a' w T7 hcl hRL hall SM
 have hall:∀i,i<m→C'.getD i false=true:=fun i hi=>hall i hi rfl
 have TI:G9 ops.toArray tg a':=xG (x4 Vm (by simp[hRL.tsize]) rfl rfl)
 have hu:xC C' m=0:=by
  have:∀n,n≤m→xC C' n=0:=by
   intro n
   induction n with
   | zero=>intro _;rfl
   | succ n ihn=>intro SR;simp[xC,ihn (by omega),hall n (by omega)]
  exact this m (Pl _)
 rw[hu,PX,← RB]
 refine we TI TJ (ops.toArray.size-m) m C' a' w (Pl _) (by omega) (by rw[T7,RB]) hall SM ?_
 have el:((List.range m).map fun j=>C'.getD j false)=List.replicate m true:=by
  apply Qq
  ·simp
  ·intro j h1 h2
   simp only[Rj,List.getElem_range,List.getElem_replicate]
   exact hall j (by simpa using h1)
 rw[el]at hRL
 have hl:=po (Q:=fun e a' w'=>∃L' S' μ',Q e L'∧a5 C S' μ' L' a' w') (ops.drop m) m _ S μ _ w _ hRL rfl htp (fun S' μ' a' w' R9=>⟨_,S',μ',htq,R9⟩)
 have e:=wpOpsIn_eq_wpListIn (F:=nk C.rd) (n:=0) (P:=C.P) (ops:=ops.toArray) (Q:=fun e a' w'=>∃L' S' μ',Q e L'∧a5 C S' μ' L' a' w') (ops.drop m) m (fun j=>by simp)
 rw[PQ]at e
 rw[RB,e]
 exact hl
theorem EY {ops:List Oper} {Q:Exit→St→Prop} (RI:List (Nat×Ov)) (tab:ud) {L':St} (hnd:ops.all (fun o=>!cF o)=true) (he:eY tab (List.replicate ops.length true)=some L') (hp:Dv C.P C.nt ops RI tab tab) (hq:Q .normal L'):∀(fuel:Nat) (ls:List Bool) (C':Array Bool) (s:St) (S:Nat→Prop) (μ:Nat→Value) (a:Act) (w:World),gx ls=fuel→ls.length=ops.length→C'.size=ops.length→(∀i,C'.getD i false=ls.getD i false) →
   eY tab ls=some s→a5 C S μ s a w→wpAnyIn (nk C.rd) 0 C.P .any ops.toArray (fun e a' w'=>∃L' S' μ',Q e L'∧a5 C S' μ' L' a' w') fuel C' a w:=by
 have RB:ops.toArray.size=ops.length:=by simp
 intro fuel
 induction fuel with
 | zero =>
  intro ls C' s S μ a w hf hl T7 hg hs hR
  have hall:=s9 hf
  have SA:=eG hall
  rw[hl]at SA
  refine⟨List.eq_nil_iff_forall_not_mem.2 (fun i hi=>?_),?_⟩
  ·obtain⟨h1,o,ho,_⟩:=(cV C' (by rw[T7,RB]) i).1 hi
   have Sk:i<ops.length:=by simpa using(Px.1 ho).1
   have hb:(List.replicate ops.length true).getD i false=true:=by simp[List.getD,Qs,Sk]
   rw[hg,SA,hb]at h1
   cases h1
  ·rw[SA,he]at hs
   cases hs
   exact⟨_,S,μ,hq,hR⟩
 | succ fuel ih =>
  intro ls C' s S μ a w hf hl T7 hg hs hR
  have Tm:=s8 hp (qi hs)
  have VC:ls.all id=false:=by
   cases hb:ls.all id
   ·rfl
   ·rw[eG hb]at hf
    simp[gx]at hf
  unfold wI at Tm
  rw[Pj (by rw[VC];simp)]at Tm
  have UO:∀i,i∈Region.ready .any ops.toArray C'↔i∈iz ops ls:=by
   intro i
   rw[cV C' (by rw[T7,RB]) i]
   unfold iz
   rw[Rd,P1]
   unfold JT
   constructor
   ·rintro⟨h1,o,ho,h2⟩
    have SG:ops[i]?=some o:=by simpa using ho
    refine⟨(Pf.1 SG).1,?_⟩
    rw[← hg,h1,SG]
    simp only[Bool.not_false,Bool.true_and,PH,Q1,PS,PR]
    intro e he
    cases hb:Region.binds .any e
    ·exact .inl rfl
    ·exact .inr (by rw[← hg];exact h2 e he hb)
   ·rintro⟨h1,h2⟩
    rw[Pg]at h2
    obtain⟨h2,h3⟩:=h2
    rw[Ph h1]at h3
    refine⟨by rw[hg];simpa using h2,ops[i],by simp[Ph h1],fun e he hb=>?_⟩
    simp only[PH,Q1,PS,PR]at h3
    rcases h3 e he with h4 | h4
    ·rw[hb]at h4;cases h4
    ·rw[hg];exact h4
  have VX:∀i,i∈iz ops ls→u9 C.P C.nt ops RI tab ls s i:=by
   intro i hi
   cases hr:iz ops ls with
   | nil=>rw[hr]at hi;cases hi
   | cons j r =>
    rw[hr]at Tm hi
    exact oG Tm hi
  refine⟨fun UM=>?_,fun i hi=>?_⟩
  ·exfalso
   cases hr:iz ops ls with
   | nil=>rw[hr]at Tm;exact Tm
   | cons j r =>
    have:j∈Region.ready .any ops.toArray C':=(UO j).2 (by rw[hr];exact PT ..)
    rw[UM]at this
    cases this
  ·have hi2:=(UO i).1 hi
   have Sj:=VX i hi2
   obtain⟨Sh,o,ho,_⟩:=(cV C' (by rw[T7,RB]) i).1 hi
   have SG:ops[i]?=some o:=by simpa using ho
   have RF:i<ops.length:=(Pf.1 SG).1
   unfold u9 at Sj
   rw[SG]at Sj
   simp only at Sj
   generalize hsq:cY C.P C.nt ops RI i [o] s=q at Sj
   obtain⟨s1,p1⟩:=q
   simp only at Sj
   split at Sj
   ·rename_i s2 SZ
    obtain⟨Tl,Uo⟩:=Sj
    have next:∀S' μ' a' w',a5 C S' μ' s1 a' w'→wpAnyIn (nk C.rd) 0 C.P .any ops.toArray (fun e a' w'=>∃L' S' μ',Q e L'∧a5 C S' μ' L' a' w') fuel (C'.setIfInBounds i true) a' w':=by
     intro S' μ' a' w' R9
     have U':=R9.keep (s2.env.map (·.1))
     have e2:(⟨ly (s2.env.map (·.1)) s1.env,s1.heap⟩:St)=s2:=Tl
     rw[e2]at U'
     refine ih (ls.set i true) (C'.setIfInBounds i true) s2 S' μ' a' w' ?_ (by simpa using hl) (by simpa using T7) ?_ SZ U'
     ·have:=qj (ls:=ls) (i:=i) (by omega) (by rw[← hg];exact Sh)
      omega
     ·intro j
      rw[a6 _ _ _ (by omega)]
      split
      ·rename_i hj
       rw[hj]
       unfold List.getD
       rw[PB (show i<ls.length by omega)]
       rfl
      ·rename_i hj
       rw[hg]
       unfold List.getD
       rw[PA (by omega)]
    have hdef:cF o=false:=by
     rw[PH]at hnd
     have:=hnd o (PM SG)
     simpa using this
    unfold cY at hsq
    unfold wpOpIn
    rw[ho]
    simp only
    split at hsq
    ·rename_i Ww
     rw[Pn (bZ hR Ww)]
     generalize S9:nP C.P C.nt (nw RI i) o s=q1 at hsq
     obtain⟨s1',p1'⟩:=q1
     simp only[cY,Po]at hsq
     obtain⟨rfl,rfl⟩:=hsq
     exact rN hdef (lC hR S9 Uo.1 next)
    ·rename_i Ww
     rw[Pj (by rw[bZ hR Ww];simp)]
     generalize S9:lx C.nt s o.dst=q1 at hsq
     obtain⟨s1',p1'⟩:=q1
     simp only[cY,Po]at hsq
     obtain⟨rfl,rfl⟩:=hsq
     refine⟨fun f _=>oi C.rd f,?_⟩
     unfold lx at S9
     refine next S μ _ _ (hR.ePut S9 Uo.1 ?_).2
     exact .tup [] #[] rfl (fun j y u hy _=>by simp at hy)
    ·simp only[aW,Po]at hsq
     rw[← hsq.2]at Uo
     exact Uo.elim
   ·exact Sj.elim
def Bx (tab:ud) (j:Nat):Bool:=tab.any (fun e=>!(e.1.getD j false))
def Ae (ops:Array Oper) (m:Nat) (Su:Nat→Bool):Bool:=decide (m≤ops.size)&&(List.range ops.size).all fun k=>decide (k<m)||(List.range m).all fun j=>Su j||cE ops k j
theorem yb {ops:Array Oper} {m:Nat} {Su:Nat→Bool} (h:Ae ops m Su=true):m≤ops.size∧∀k,m≤k→k<ops.size→∀j,j<m→Su j=false→cE ops k j=true:=by
 unfold Ae at h
 simp only[Pg,P5,PH,P1,PS]at h
 exact⟨h.1,fun k hk hkn j hj hl=>((h.2 k hkn).resolve_left (by omega) j hj).resolve_left (by rw[hl];simp)⟩
def oI (Su:Nat→Bool):Nat→List (List Bool)
 | 0=>[[]]
 | m+1=>match Su m with
  | true=>(oI Su m).map (·++[true])++(oI Su m).map (·++[false])
  | false=>(oI Su m).map (·++[true])
theorem tj {Su:Nat→Bool} (f:Nat→Bool):∀(m:Nat),(∀j,j<m→Su j=false→f j=true)→(List.range m).map f∈oI Su m
 | 0,_=>by simp[oI]
 | m+1,h=>by
  have ih:=tj f m (fun j hj=>h j (by omega))
  rw[Q3,P9,oI]
  split
  ·rename_i hl
   cases hf:f m
   ·exact QP _ (List.mem_map.2 ⟨_,ih,by simp[hf]⟩)
   ·exact QI _ (List.mem_map.2 ⟨_,ih,by simp[hf]⟩)
  ·rename_i hl
   exact List.mem_map.2 ⟨_,ih,by simp[h m (by omega) hl]⟩
def Bz (ops:List Oper) (ls:List Bool):Bool:=(List.range ls.length).all fun i=>!(ls.getD i false)||(match ops[i]? with | some o=>o.after.toList.all (fun e=>!Region.binds .any e||ls.getD e.on false) | none=>true)
def yc (ops:List Oper) (m:Nat) (st:St) (ks:List Mk) (tab:ud):List (List Bool)→Prop
 | []=>True
 | l::r=>match Bz ops l with
  | true=>match eY tab (l++List.replicate (ops.length-m) false)with
   | some s=>s7 (dP (ops.take m) st ks l) s=s∧yc ops m st ks tab r
   | none=>False
  | false=>yc ops m st ks tab r
theorem qo {ops:List Oper} {m:Nat} {st:St} {ks:List Mk} {tab:ud}:∀{r:List (List Bool)} {l:List Bool},yc ops m st ks tab r→l∈r→Bz ops l=true→∃s,eY tab (l++List.replicate (ops.length-m) false)=some s∧s7 (dP (ops.take m) st ks l) s=s
 | x::r,l,h,hm,hc=>by
  unfold yc at h
  rcases Qf.1 hm with e | hm
  ·subst e
   rw[hc]at h
   simp only at h
   split at h
   ·rename_i s hs;exact⟨s,hs,h.1⟩
   ·exact h.elim
  ·split at h
   ·split at h
    ·exact qo h.2 hm hc
    ·exact h.elim
   ·exact qo h hm hc
def EZ (nt:Nat) (ops:List Oper) (m:Nat) (Su:Nat→Bool):Bool :=
 Ja ops.toArray tg ⟨Array.replicate nt undef,[]⟩&&Ae ops.toArray m Su&&mt nt (ops.take m)&&vk (ops.take m)&&ops.all (fun o=>!cF o)
def yd (P:Program) (nt:Nat) (ops:List Oper) (RI:List (Nat×Ov)) (m:Nat) (tab:ud) (st:St) (k:St→Prop):Prop :=
 Hb P ops (ops.take m) st RI 0 (ops.take m) [] [] fun J' ks =>
  match EZ nt ops m (Bx tab)&&(jJ st st.heap.length 0 J' ks J' ks&&kk st.heap.length J' ks)&&P.follows .mixedOrders,eY tab (List.replicate ops.length true)with
  | true,some R5=>yc ops m st ks tab (oI (Bx tab) m)∧Dv P nt ops RI tab tab∧nS R5 k
  | _,_=>False
theorem ra (f:Nat→Bool) (C':Array Bool) (hf:∀j,f j=C'.getD j false):∀m,gx ((List.range m).map f)=xC C' m
 | 0=>rfl
 | m+1=>by
  have ih:=ra f C' hf m
  unfold gx at ih ⊢
  rw[Q3,P9,List.filter_append,PG,ih,xC,← hf m,Qe,QJ]
  cases f m<;>rfl
theorem Dy (l:List Bool) (n:Nat):gx (l++List.replicate n false)=gx l+n:=by
 unfold gx
 rw[List.filter_append,PG]
 congr 1
 rw[List.filter_eq_self.2 (fun x hx=>by rw[PW hx];rfl),Pp]
theorem Ev.dwT {id:Nat} {ops:List Oper} {st:St} {Q:Exit→St→Prop} (RI:List (Nat×Ov)) (m:Nat) (tab:ud) (h:yd C.P C.nt ops RI m tab st (fun R5=>Q .normal R5)):Ev C (.region id ops.toArray true) Q st:=by
 unfold yd at h
 obtain⟨J',ks,Sb,Sw,_,_,hK,Vl⟩:=Ad (ops.take m) 0 [] [] rfl rfl h
 simp only[PX]at Sb Sw Vl
 cases hb:EZ C.nt ops m (Bx tab)&&(jJ st st.heap.length 0 J' ks J' ks&&kk st.heap.length J' ks)&&C.P.follows .mixedOrders with
 | false=>rw[hb]at hK;exact hK.elim
 | true =>
 cases he:eY tab (List.replicate ops.length true)with
 | none=>rw[hb,he]at hK;exact hK.elim
 | some R5 =>
 rw[hb,he]at hK
 simp only[Pg]at hb
 obtain⟨⟨hdw,SV,RV⟩,VQ⟩:=hb
 unfold EZ at hdw
 simp only[Pg]at hdw
 obtain⟨⟨⟨⟨Vm,TJ⟩,VO⟩,VP⟩,UL⟩:=hdw
 have RB:ops.toArray.size=ops.length:=by simp
 obtain⟨UK,htl⟩:=yb TJ
 rw[RB]at UK
 obtain⟨hj,htab,hend⟩:=hK
 rw[lD]at hend
 refine Ev.dwG RI m (Bx tab) UK Sb Sw Vl Vm VO VP UL SV RV VQ (fun i hi hil j hj hl=>htl i hi (by rw[RB];exact hil) j hj hl) ?_
 intro C' S μ a' w T7 hcl hRL hall SM
 have RT:∀i,(((List.range m).map fun j=>C'.getD j false)++List.replicate (ops.length-m) false).getD i false=C'.getD i false:=by
  intro i
  by_cases hi:i<m
  ·rw[P4,Pw (by simpa using hi),← P4]
   exact cG C' m i hi
  ·rw[P4,Pz (by simpa using Nat.le_of_not_lt hi),Qs,SM i (by omega)]
   split<;>rfl
 have hclos:Bz ops ((List.range m).map fun j=>C'.getD j false)=true:=by
  unfold Bz
  simp only[PH,P1,Py,List.length_range,PS,PR]
  intro i hi
  rw[cG C' m i hi]
  cases hl:C'.getD i false
  ·exact .inl rfl
  ·refine .inr ?_
   split
   ·rename_i o ho
    simp only[PH,Q1,PS,PR]
    intro e hee
    cases VD:Region.binds .any e
    ·exact .inl rfl
    ·have hon:=hcl i o hl ho e hee VD
     have:e.on<m:=by
      refine Nat.lt_of_not_le fun hle=>?_
      rw[SM e.on hle]at hon;cases hon
     exact .inr (by rw[cG C' m _ this];exact hon)
   ·rfl
 obtain⟨s,RQ,SZ⟩:=qo hj (tj (fun j=>C'.getD j false) m hall) hclos
 have U':=hRL.keep (s.env.map (·.1))
 have e2:(⟨ly (s.env.map (·.1)) (dP (ops.take m) st ks ((List.range m).map fun j=>C'.getD j false)).env,(dP (ops.take m) st ks ((List.range m).map fun j=>C'.getD j false)).heap⟩:St)=s:=SZ
 rw[e2]at U'
 exact EY (Q:=Q) RI tab UL he htab hend _ _ C' s S μ a' w (by rw[Dy,ra _ C' (fun _=>rfl)]) (by simp;omega) T7 (fun i=>(RT i).symm) RQ U'
theorem Dz {P:Program} {nt:Nat} {ops:List Oper} {RI:List (Nat×Ov)} {m:Nat} {tab:ud} {st:St} {k k':St→Prop} (h:yd P nt ops RI m tab st k) (hk:∀st,k st→k' st):yd P nt ops RI m tab st k':=by
 unfold yd at h ⊢
 refine px (fun a b hq=>?_) _ _ _ _ h
 split at hq
 ·exact⟨hq.1,hq.2.1,by have:=hq.2.2;rw[lD]at this ⊢;exact hk _ this⟩
 ·exact hq.elim
end
end Go.Proofs.Ytnlmlkbaflmgcaa
