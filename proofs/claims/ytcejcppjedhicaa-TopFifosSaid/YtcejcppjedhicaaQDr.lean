/-
  Regions that S9 their order: new boxes may be used at once. Generic: over any program.
-/
import Derived.Test.YtcejcppjedhicaaQKb
namespace Go.Proofs.Ytcejcppjedhicaa
open Go.RowKit
set_option linter.unusedVariables false
set_option linter.unusedSimpArgs false
mutual
def nD:D→(D→Prop)→Prop
 | .v x,k=>nV x (fun x=>k (.v x))
 | .agg cs,k=>nL cs (fun cs=>k (.agg cs))
 | .tup cs,k=>nL cs (fun cs=>k (.tup cs))
 | .fn f a b,k=>nL a (fun a=>nL b (fun b=>k (.fn f a b)))
 | .nils,k=>k .nils
 | .own i,k=>k (.own i)
 | .ptr i a b c,k=>k (.ptr i a b c)
 | .iptr cs o,k=>k (.iptr cs o)
 | .yld i,k=>k (.yld i)
 | .capd x,k=>k (.capd x)
 | .gr g r,k=>k (.gr g r)
 | .pre i sz sh enc d l,k=>k (.pre i sz sh enc d l)
 | .junk,k=>k .junk
def nV:V→(V→Prop)→Prop
 | .int a n,k=>k (.int a n)
 | .bool b,k=>k (.bool b)
 | .str s,k=>k (.str s)
 | .sl sz enc d l,k=>k (.sl sz enc d l)
 | .mp es,k=>k (.mp es)
 | .nilf,k=>k .nilf
 | .nsl,k=>k .nsl
 | .esl,k=>k .esl
 | .sm true enc d l,k=>k (.sm true enc d l)
 | .sm false enc d l,k=>k (.sm false enc d l)
 | .nmp,k=>k .nmp
 | .fnv f,k=>k (.fnv f)
def nL:List D→(List D→Prop)→Prop
 | [],k=>k []
 | d::r,k=>nD d (fun d=>nL r (fun r=>k (d::r)))
end
theorem KS:∀(x:V) (k:V→Prop),nV x k=k x:=by
 intro x k
 cases x with
 | sm ag enc d l=>cases ag<;>rfl
 | _=>rfl
mutual
theorem B4:∀(d:D) (k:D→Prop),nD d k=k d
 | .v x,k=>KS x _
 | .agg cs,k=>vU cs _
 | .tup cs,k=>vU cs _
 | .fn f a b,k=>(vU a _).trans (vU b _)
 | .nils,k=>rfl
 | .own i,k=>rfl
 | .ptr i a b c,k=>rfl
 | .iptr cs o,k=>rfl
 | .yld i,k=>rfl
 | .capd x,k=>rfl
 | .gr g r,k=>rfl
 | .pre i sz sh enc d l,k=>rfl
 | .junk,k=>rfl
theorem vU:∀(l:List D) (k:List D→Prop),nL l k=k l
 | [],k=>rfl
 | d::r,k=>(B4 d _).trans (vU r _)
end
def nE:List (Nat×D)→(List (Nat×D)→Prop)→Prop
 | [],k=>k []
 | (t,d)::r,k=>nD d (fun d=>nE r (fun r=>k ((t,d)::r)))
theorem IC:∀(l:List (Nat×D)) (k:List (Nat×D)→Prop),nE l k=k l
 | [],k=>rfl
 | (t,d)::r,k=>(B4 d _).trans (IC r _)
def nB:ak→(ak→Prop)→Prop
 | .dead,k=>k .dead
 | .var T cs,k=>nL cs (fun cs=>k (.var T cs))
 | .arr E sz enc d l,k=>k (.arr E sz enc d l)
 | .loop l tm nt env ps a b s p,k=>k (.loop l tm nt env ps a b s p)
 | .frame tm env,k=>k (.frame tm env)
 | .ro E sz enc d l,k=>k (.ro E sz enc d l)
 | .mpb t ag enc d l,k=>k (.mpb t ag enc d l)
 | .arrD E sz n gs cell,k=>k (.arrD E sz n gs cell)
 | .grp n f,k=>k (.grp n f)
 | .nest E sz n ce m f,k=>k (.nest E sz n ce m f)
theorem ET (b:ak) (k:ak→Prop):nB b k=k b:=by
 cases b with
 | var T cs=>exact vU cs _
 | _=>rfl
def nH:List ak→(List ak→Prop)→Prop
 | [],k=>k []
 | b::r,k=>nB b (fun b=>nH r (fun r=>k (b::r)))
theorem IE:∀(l:List ak) (k:List ak→Prop),nH l k=k l
 | [],k=>rfl
 | b::r,k=>(ET b _).trans (IE r _)
def nS (st:St) (k:St→Prop):Prop:=nE st.env (fun e=>nH st.heap (fun h=>k ⟨e,h⟩))
theorem lj (st:St) (k:St→Prop):nS st k=k st:=(IC _ _).trans (IE _ _)
def xm (P:Program) (nt:Nat) (ops:List Oper) (Qs:List (Nat×Ov)):Nat→List Oper→St→(St→Prop)→Prop
 | _,[],st,k=>k st
 | i,o::r,st,k=>match fK ops st o with
  | some true=>match nM P nt (ld Qs i) o st with
   | (QR,p1)=>p1∧xm P nt ops Qs (i+1) r QR k
  | some false=>match lf nt st o.dst with
   | (QR,p1)=>p1∧xm P nt ops Qs (i+1) r QR k
  | none=>False
theorem sL {P:Program} {nt:Nat} {ops:List Oper} {Qs:List (Nat×Ov)}:∀(r:List Oper) (i:Nat) (st:St) (k:St→Prop),xm P nt ops Qs i r st k→(cR P nt ops Qs i r st).2∧k (cR P nt ops Qs i r st).1
 | [],i,st,k,h=>⟨trivial,h⟩
 | o::r,i,st,k,h=>by
  unfold xm at h
  unfold cR
  split at h
  ·rename_i hg
   rw[hg]
   simp only
   generalize hq:nM P nt (ld Qs i) o st=q at h
   obtain⟨QR,p1⟩:=q
   obtain⟨h1,h2⟩:=h
   have h3:=sL r (i+1) QR k h2
   exact⟨⟨h1,h3.1⟩,h3.2⟩
  ·rename_i hg
   rw[hg]
   simp only
   generalize hq:lf nt st o.dst=q at h
   obtain⟨QR,p1⟩:=q
   obtain⟨h1,h2⟩:=h
   have h3:=sL r (i+1) QR k h2
   exact⟨⟨h1,h3.1⟩,h3.2⟩
  ·exact h.elim
structure Mk:Type 1 where
 make ::
 d:D
 b:ak
 kl:Option Nat
abbrev lk (d:D) (b:ak):Mk:=.make d b none
def Mk.kil (k:Mk):Option Nat:=match k.b with | .var _ _=>none | _=>k.kl
def Mk.fil (k:Mk):Option Nat:=match k.b with | .var _ _=>k.kl | _=>none
theorem Jc {k:Mk} {i:Nat} (h:k.kil=some i):k.kl=some i:=by
 unfold Mk.kil at h
 split at h
 ·cases h
 ·exact h
theorem tO {k:Mk} {i:Nat} (h:k.fil=some i):k.kl=some i:=by
 unfold Mk.fil at h
 split at h
 ·exact h
 ·cases h
theorem tP {k:Mk} (h:k.kl=none):k.fil=none:=by
 unfold Mk.fil
 split
 ·exact h
 ·rfl
theorem G8 {k:Mk} (h:k.b.isOwn=true∨k.b=.dead):k.fil=none:=by
 unfold Mk.fil
 split
 ·rename_i T cs hb
  rcases h with h | h<;>rw[hb]at h<;>cases h
 ·rfl
theorem Jd {k:Mk} (h:k.fil=none):k.kil=k.kl:=by
 unfold Mk.fil at h
 unfold Mk.kil
 cases hb:k.b<;>rw[hb]at h<;>first | rfl | exact h.symm
def nK:Option Nat→(Option Nat→Prop)→Prop
 | none,k=>k none
 | some i,k=>k (some i)
theorem IG (o:Option Nat) (k:Option Nat→Prop):nK o k=k o:=by cases o<;>rfl
def G9 (H:List ak) (fz:Bool) (E sz:Nat) {α:Type} (enc:α→List V) (d:α) (l:List α) (kl:Option Nat) (p:Prop):Option (Mk×Prop):=match fz with
 | false=>some (.make (.own H.length) (.arr E sz enc d l) kl,p)
 | true=>some (.make (.v (.sl sz enc d l)) .dead kl,p)
def gD:Option (Mk×Prop):=some (lk .junk .dead,False)
def EU (P:Program) (H:List ak) (fz:Bool) (E sz:Nat) {α:Type} (enc:α→List V) (d:α) (l:List α) (t:TypeId) (s x:D):Option (Mk×Prop):=match P.underlying t with
 | some (.slice E0)=>match ga P E0,tz H (az P E0) x with
  | some z,some new=>match ca P E0&&Nat.beq z.length (az P E0)&&Nat.ble 1 (az P E0)&&Nat.ble (fb P E0) 1024&&(Nat.beq E E0&&Nat.beq sz (az P E0))with
   | true=>match s with
    | .own id=>match H[id]? with
     | some (.arr E' QK TO _ l0)=>match Nat.beq E' E0&&Nat.beq QK (az P E0)&&D.free id x with
      | true=>G9 H fz E sz enc d l (some id) (l0.length+new.length≤137438953472∧l0.map TO++new=l.map enc)
      | false=>gD
     | _=>gD
    | .nils=>G9 H fz E sz enc d l none (new.length≤137438953472∧new=l.map enc)
    | _=>gD
   | false=>gD
  | _,_=>gD
 | _=>gD
def EV (P:Program) (H:List ak) (ρ:Operand→D) (ov:Ov) (op:Op):Option (Mk×Prop):=match op with
 | .call ⟨.value f,args,_⟩=>match ov,ρ f with
  | .ownd q' r B,.fn (.func g) first cap=>match gi P g&&(Ao r&&(B.isOwn&&fa (first++args.toList.map ρ++cap)))with
   | true=>some (lk (r.up H.length) B,sG P g H (first++args.toList.map ρ++cap) q' r B)
   | false=>gD
  | .ownc (some q') r (.arr E sz enc d l),.fn (.func g) first cap=>match gi P g with
   | true=>some (lk (.v (.sl sz enc d l)) .dead,r=.own 0∧tr (.arr E sz enc d l)∧yr H (first++args.toList.map ρ++cap) q'∧ap P g q' [] false (.own 0) [.arr E sz enc d l])
   | false=>gD
  | _,_=>none
 | .call ⟨.builtin .append,args,Tz⟩=>match ov,args.toList,Tz.toList with
  | .app fz E sz enc d l,[s,x],[t,t']=>match Nat.beq t t' with
   | true=>EU P H fz E sz enc d l t (ρ s) (ρ x)
   | false=>gD
  | _,_,_=>none
 | .buildSlice t len P8=>match ov with
  | .app false E sz enc d l=>match qG P H (.box E sz enc d l) t len (P8.toList.map fun p=>(p.1,ρ p.2))with
   | (.v _,p)=>some (lk (.own H.length) (.arr E sz enc d l),p)
   | _=>gD
  | _=>none
 | _=>none
def Ha (P:Program) (H:List ak) (ρ:Operand→D) (ov:Ov) (op:Op):Mk×Prop :=
 match op with
 | .alloc T=>match ga P T with
  | some z=>match D.freeL H.length z with
   | true=>(lk (.ptr H.length 0 0 0) (.var T z),True)
   | false=>(lk (.junk) (.dead),False)
  | none=>(lk (.junk) (.dead),False)
 | .box T x=>match i4 H (ρ x)with
  | some cs=>match D.freeL H.length cs with
   | true=>(lk (.ptr H.length 0 0 0) (.var T cs),True)
   | false=>(lk (.junk) (.dead),False)
  | none=>(lk (.junk) (.dead),False)
 | .makeSlice t l c=>match P.underlying t,ρ l,ρ c with
  | some (.slice E),.v (.int _ n),.v (.int _ m)=>match ga P E with
   | some z=>match ca P E&&Nat.beq z.length (az P E)&&Nat.ble 1 (az P E)&&Nat.ble (fb P E) 1024 with
    | true=>match ov with
     | .box E' QK Qb d' l'=>match Nat.beq E E'&&Nat.beq (az P E) QK with
      | true=>(lk (.own H.length) (.arr E (az P E) Qb d' l'),(0≤n∧n≤m∧m≤137438953472)∧l'.length=n.toNat∧∀x∈l',dp z (Qb x))
      | false=>(lk (.junk) (.dead),False)
     | .frz E' QK Qb d' l'=>match Nat.beq E E'&&Nat.beq (az P E) QK with
      | true=>(lk (.v (.sl (az P E) Qb d' l')) (.dead),(0≤n∧n≤m∧m≤137438953472)∧l'.length=n.toNat∧∀x∈l',dp z (Qb x))
      | false=>(lk (.junk) (.dead),False)
     | _=>(lk (.junk) (.dead),False)
    | false=>(lk (.junk) (.dead),False)
   | none=>(lk (.junk) (.dead),False)
  | _,_,_=>(lk (.junk) (.dead),False)
 | .makeMap t none=>match ov with
  | .mbox t' ag enc d _=>match Nat.beq t t' with
   | true=>(lk (.own H.length) (.mpb t ag enc d []),True)
   | false=>(lk (.junk) (.dead),False)
  | _=>(lk (.junk) (.dead),False)
 | op=>match EV P H ρ ov op with
  | some q=>q
  | none=>match L7 P H ρ ov op with
   | (d,p)=>(lk (d) (.dead),p)
def jN:Op→Bool
 | .store _ _ _=>true
 | _=>false
def AC (P:Program) (H:List ak) (t:TypeId) (a x:D):Mk×Prop:=match a,i4 [] x with
 | .ptr id i _ I',some new=>match H[id]? with
  | some (.var T cs)=>match ca P t&&Nat.beq new.length (az P t)&&new.all (ts [])&&(Nat.beq i 0&&Nat.ble (I'+new.length) cs.length)with
   | true=>(.make (.tup []) (.var T (e9 cs new I')) (some id),True)
   | false=>(lk .junk .dead,False)
  | _=>(lk .junk .dead,False)
 | _,_=>(lk .junk .dead,False)
def tQ (P:Program) (H:List ak) (ρ:Operand→D) (ov:Ov) (op:Op):Mk×Prop:=match op with
 | .store t a x=>AC P H t (ρ a) (ρ x)
 | op=>Ha P H ρ ov op
theorem EW {P:Program} {H:List ak} {ρ:Operand→D} {ov:Ov} {op:Op} (h:jN op=false):tQ P H ρ ov op=Ha P H ρ ov op:=by
 cases op<;>first | rfl | cases h
theorem AD {x:D} {new:List D} (h:i4 [] x=some new) (H:List ak):i4 H x=some new:=by
 cases x<;>first | exact h | (simp[i4]at h)
theorem EX {x:D} (h:ts [] x=true) (H:List ak):ts H x=true:=by
 cases x<;>first | exact h | (simp[ts]at h)
theorem Hb {new:List D} (h:new.all (ts [])=true) (H:List ak):new.all (ts H)=true:=by
 rw[Oa]at h ⊢
 exact fun x hx=>EX (h x hx) H
theorem AE {P:Program} {H:List ak} {t:TypeId} {a x:D} {k:Mk} {p:Prop} (h:AC P H t a x=(k,p)) (hp:p) :
  ∃(id:Nat) (T:TypeId) (cs UV:List D),H[id]?=some (.var T cs)∧k=.make (.tup []) (.var T UV) (some id) ∧
   ∀(st:St),st.heap[id]?=some (.var T cs)→tx P st .none t a x=(⟨st.env,st.heap.set id (.var T UV)⟩,True):=by
 unfold AC at h
 split at h
 ·rename_i id i sz I' new Qv
  split at h
  ·rename_i T cs G'
   split at h
   ·rename_i hc
    simp only[NS]at h
    obtain⟨rfl,rfl⟩:=h
    refine⟨id,T,cs,_,G',rfl,fun st QU=>?_⟩
    simp only[NK]at hc
    obtain⟨⟨⟨h1,h2⟩,h3⟩,h4,h5⟩:=hc
    unfold tx
    rw[AD Qv st.heap]
    simp only[h1,h2,Hb h3 st.heap,Bool.and_self,Pe,QU,h4,h5]
   ·cases h;exact hp.elim
  ·cases h;exact hp.elim
 ·cases h;exact hp.elim
section
variable {P:Program} {S:Nat→Prop} {μ:Nat→Value} {w:World}
theorem yH {E:TypeId} {z:List D} {i:TypeInfo} {v:Value} {n m:Int} {α:Type} {enc:α→List V} {d:α} {l:List α} {μ':Nat→Value} (hz:ga P E=some z) (hi:P.info? E=some i) (hv:i.zero=some v) (SS:z=v.cells.toList.map D.ofVal1) (Qk:i.size=az P E)
  (Rp:z.length=az P E) (Qy:1≤az P E) (h0:0≤n) (TA:n≤m) (hm:m≤137438953472) (Qi:l.length=n.toNat) (RY:∀x∈l,dp z (enc x)) :
  aG S μ' (w.alloc (.cells (madeCells v.cells (m.toNat*i.size)) E)) (.slice (some ⟨w.heap.size,0,none⟩) n.toNat m.toNat) (.arr E (az P E) enc d l):=by
 have UA:aK S μ' w z v.cells:=by
  rw[SS]
  refine⟨by simp,fun j y u hy hu=>?_⟩
  simp only[N4,Oo,hu,Oz,NW]at hy
  subst hy
  exact ai.ofVal1 S μ' w u
 have Rr:v.cells.size=az P E:=by rw[UA.1,Rp]
 refine aG.arr_mk ?_
 refine⟨fun k x hx=>?_,(madeCells v.cells (m.toNat*i.size)).toList.take (n.toNat*az P E),?_,fun k x j y hx hy=>?_⟩
 ·obtain⟨q,hq,rfl⟩:=dg hx
  rw[← (eK (RY q (Oh hq))).1,Rp]
 ·have UW:n.toNat*az P E≤m.toNat*i.size:=by rw[Qk];exact N8 _ (by omega)
  refine⟨by simp[size_madeCells,Qi];omega,.inr ⟨w.heap.size,m.toNat,madeCells v.cells (m.toNat*i.size),by simp[Qi],Oy _,OM w _,by simp[Qi];omega,by simp only[maxLen];omega,by rw[size_madeCells,Qk],by simp[Qi]⟩⟩
 ·obtain⟨q,hq,rfl⟩:=dg hx
  have RA:k<n.toNat:=by rw[← Qi];exact(NL.1 hq).1
  obtain⟨r1,r2⟩:=eK (RY q (Oh hq))
  obtain⟨d,hd,UX⟩:=r2 j y hy
  have hj:j<az P E:=by rw[← Rp];exact(NL.1 hd).1
  have hjv:j<v.cells.size:=by omega
  have Tg:(k+1)*az P E≤n.toNat*az P E:=N8 _ RA
  rw[O0]at Tg
  have UW:n.toNat*az P E≤m.toNat*i.size:=by rw[Qk];exact N8 _ (by omega)
  refine⟨v.cells[j],?_,(kZ UX (UA.2 j d _ hd (N7 hjv))).stable (fun _ h _=>h) (fun b hb hl=>Below.heap_alloc w _ b hl) (by simp)⟩
  rw[Ob,NT (by omega),Oo]
  unfold madeCells
  rw[O1,Array.getElem?_range,NT (by omega)]
  simp only[Oz,NW]
  rw[Rr,Nat.mul_add_mod_of_lt' hj]
  simp[hjv]
def Je (S:Nat→Prop) (μ:Nat→Value) (w:World) (H:List ak) (k:Mk) (u:Value) (w':World):Prop :=
 (k.kl=none∧Below w.heap.size w w'∧((k.b=.dead∧ai (fun b=>S b∨w.heap.size≤b) μ w' k.d u)∨(∃obj,k.b.live=true∧w'=w.alloc obj∧aG S (aO μ H.length u) w' u k.b∧ai S (aO μ H.length u) w' k.d u∧∀b,bu u b→b=w.heap.size) ∨
  (∃(S2:Nat→Prop) (μ1:Nat→Value) (u0:Value),k.b.isOwn=true∧(∀b,S b→S2 b)∧(∀b,S2 b→S b∨w.heap.size≤b)∧(∀b,S2 b→b<w'.heap.size)∧aG S2 μ1 w' u0 k.b∧ai S2 (aO μ H.length u0) w' k.d u∧∀b,bu u0 b→w.heap.size≤b∧¬S2 b))) ∨
 (∃(id:Nat) (A B:ak),k.kl=some id∧H[id]?=some A∧A.isArr=true∧B.isArr=true∧w.grownBy w' (aF (μ id))∧aG S μ w' u B∧(∀b,bu u b→aF (μ id)=some b∨w.heap.size≤b) ∧
  ((k.b=B∧k.d=.own H.length)∨∃(E sz:Nat) (α:Type) (enc:α→List V) (d:α) (l:List α),B=.arr E sz enc d l∧k.b=.dead∧k.d=.v (.sl sz enc d l)))
theorem AF {H:List ak} (hH:a9 S μ w H) {E0 UM:Nat} {α:Type} {TO:α→List V} {d0:α} {l0:List α} {t:TypeId} {len:Nat} {P8:List (Nat×D)} {Qj:List (Nat×Value)} (h1:P8.map (·.1)=Qj.map (·.1))
  (h2:∀(j:Nat) (x:Nat×D) (u:Nat×Value),P8[j]?=some x→Qj[j]?=some u→ai S μ w x.2 u.2) (hS:∀b,S b→b<w.heap.size) {d:D} {p:Prop} (hp:qG P H (.box E0 UM TO d0 l0) t len P8=(d,p)) (D':p) (QI:∃x,d=.v x) :
  ∃vs,(Instr.buildSlice t len Qj.toArray).run P w=.ok (.slice (some ⟨w.heap.size,0,none⟩) len len) (w.alloc (.cells vs E0))∧aG S μ (w.alloc (.cells vs E0)) (.slice (some ⟨w.heap.size,0,none⟩) len len) (.arr E0 UM TO d0 l0):=by
 unfold qG at hp
 split at hp
 ·rename_i E hu
  split at hp
  ·rename_i z hz
   split at hp
   ·rename_i hc
    simp only[NK,N2,OY]at hc
    obtain⟨⟨⟨hk,Rp⟩,Qy⟩,ST⟩:=hc
    obtain⟨i,v,hi,hv,SS,Qk,VK⟩:=f5 hz
    split at hp
    ·rename_i cells hf
     have UA:aK S μ w z v.cells:=by
      rw[SS]
      refine⟨by simp,fun j y u hy hu=>?_⟩
      simp only[N4,Oo,hu,Oz,NW]at hy
      subst hy
      exact ai.ofVal1 S μ w u
     have Tm:=qE (P:=P) UA Rp (by omega) len
     obtain⟨vs,Sk,Rr⟩:=eJ hH P8 Qj _ cells _ h1 h2 Tm hf
     rw[← Qk]at Sk
     have Qp:=ij (P:=P) (w:=w) hu hi hv (by rw[Qk];exact ST) Sk
     have hcl:cells.length=len*az P E:=by
      have:∀(P8:List (Nat×D)) (c0 SU:List D),f9 H (fun i=>some (i*az P E,az P E)) c0 P8=some SU→SU.length=c0.length:=by
       intro P8
       induction P8 with
       | nil=>intro c0 SU h;simp only[f9,NW]at h;rw[h]
       | cons q r ih =>
        intro c0 SU h
        obtain⟨k,x⟩:=q
        unfold f9 at h
        split at h
        ·split at h
         ·rename_i Qt
          simp only[NK,OY]at Qt
          rw[ih _ _ h]
          simp[e9]
          omega
         ·cases h
        ·cases h
      rw[this _ _ _ hf]
      simp[Rp]
     have Qi:len≤maxLen:=by
      have:len*1≤len*az P E:=PM _ Qy
      simp only[maxLen]
      omega
     simp only at hp
     split at hp
     ·rename_i hc
      simp only[NK,N2]at hc
      obtain⟨rfl,rfl⟩:=hc
      simp only[NS]at hp
      obtain⟨rfl,rfl⟩:=hp
      refine⟨vs,Qp,?_⟩
      obtain⟨q1,q2⟩:=jK D'
      have hA:dK S (w.alloc (.cells vs E)) E (az P E) (l0.map TO) (.slice (some ⟨w.heap.size,0,none⟩) len len):=by
       refine sJ Rr hcl Qi (by rw[← q1];simp[nJ]) (fun i x hx=>?_) hS
       obtain⟨r,hr,QA⟩:=q2 i x hx
       obtain⟨r1,r2⟩:=eK QA
       obtain⟨hin,rfl⟩:=jj _ _ _ hr
       refine⟨?_,fun j y hy=>?_⟩
       ·rw[← r1,N3,N9,hcl]
        have:(i+1)*az P E≤len*az P E:=N8 _ hin
        rw[O0]at this
        omega
       ·obtain⟨d,hd,UX⟩:=r2 j y hy
        exact⟨d,jL hr hd,fun u hu=>kZ UX hu⟩
      exact hA.box rfl
     ·cases hp;exact D'.elim
    ·cases hp;exact D'.elim
   ·cases hp;exact D'.elim
  ·cases hp;exact D'.elim
 ·cases hp;exact D'.elim
theorem yI {H:List ak} {fz:Bool} {E sz:Nat} {α:Type} {enc:α→List V} {d:α} {l:List α} {kl:Option Nat} {q:Prop} {k:Mk} {p:Prop} (h:G9 H fz E sz enc d l kl q=some (k,p)) :
  p=q∧k.kl=kl∧((k.b=.arr E sz enc d l∧k.d=.own H.length)∨(k.b=.dead∧k.d=.v (.sl sz enc d l))):=by
 unfold G9 at h
 cases fz<;>simp only[NW,NS]at h<;>obtain⟨rfl,rfl⟩:=h
 ·exact⟨rfl,rfl,.inl ⟨rfl,rfl⟩⟩
 ·exact⟨rfl,rfl,.inr ⟨rfl,rfl⟩⟩
theorem cL {k:Mk} {p:Prop} (h:gD=some (k,p)):p=False:=by
 simp only[gD,NW,NS]at h
 exact h.2.symm
theorem yJ {H:List ak} (hH:a9 S μ w H) (hS:∀b,S b→b<w.heap.size) {fz:Bool} {E sz:Nat} {α:Type} {enc:α→List V} {d:α} {l:List α} {t ty:TypeId} {s x:D} {us ux:Value} (hs:ai S μ w s us) (hx:ai S μ w x ux) {k:Mk} {p:Prop}
  (hp:EU P H fz E sz enc d l t s x=some (k,p)) (D':p):∃u w',(Builtin.append_ #[t,t] ty #[us,ux]).run P w=.ok u w'∧Je S μ w H k u w':=by
 unfold EU at hp
 split at hp
 case h_2=>rw[cL hp]at D';exact D'.elim
 rename_i E0 hu
 split at hp
 case h_2=>rw[cL hp]at D';exact D'.elim
 rename_i z new hz Qv
 split at hp
 case h_2=>rw[cL hp]at D';exact D'.elim
 rename_i Qt
 simp only[NK,N2,OY]at Qt
 obtain⟨⟨⟨⟨hk,Rp⟩,Qy⟩,UB⟩,rfl,rfl⟩:=Qt
 obtain⟨i,v,hi,hv,SS,Qk,VK⟩:=f5 hz
 have Rr:v.cells.size=i.size:=by rw[Qk,← Rp,SS];simp
 obtain⟨pa,c,Qq,rfl,n1,n2,n3,n4,n5,n6⟩:=gl hH Qy Qv hx
 rw[← Qk]at n2 n6 n5
 have bytes:∀k,k≤137438953472→k*i.bytes≤140737488355328:=by
  intro k hk
  have:k*i.bytes≤137438953472*1024:=PS hk (by omega)
  omega
 split at hp
 ·rename_i id
  split at hp
  case h_2=>rw[cL hp]at D';exact D'.elim
  rename_i E' QK β TO d0 l0 G'
  split at hp
  case h_2=>rw[cL hp]at D';exact D'.elim
  rename_i Ui
  simp only[NK,N2]at Ui
  obtain⟨⟨rfl,rfl⟩,hfx⟩:=Ui
  obtain⟨rfl,RA,hval⟩:=yI hp
  obtain⟨Qi,UN⟩:=D'
  have QF:=bq hs
  subst QF
  obtain⟨r0,xs,r1,r2⟩:=dK.of (hH.box id _ G')
  simp only[N1]at r1
  have TP:l0.length+new.length≤maxLen:=by simp only[maxLen];omega
  obtain⟨v',w',Qp,ho,hg,Qd⟩:=dq (P:=P) (w:=w) t ty E' i v hu hi hv Rr (by rw[Qk];exact r1) n1 n2 n3 n4 TP (bytes _ Qi)
  have P9:(μ id).ownBlock=aF (μ id):=by
   obtain⟨p',c',hm,_⟩:=bK (hH.box id _ G')
   rw[hm]
   cases p'<;>rfl
  have So:∀b,S b→b<w.heap.size→w'.heap[b]?=w.heap[b]?:=fun b hb hl=>hg.block b hl (fun e=>hH.notS id _ b G' rfl (.inl (by rw[← P9];exact e.symm)) hb)
  have hA:dK S w' E' (az P E') (l0.map TO++new) v':=by
   rw[Qk]at ho n2 n5 n6
   refine dK.append r0 (by rw[r1.1];simp) (fun k x j y hx hy=>?_) n5 (fun k x j y hx hy=>?_) (by simpa using ho)
   ·obtain⟨z,hz,hr⟩:=r2 k x j y hx hy
    exact⟨z,hz,hr.stable (fun _ h _=>h) So hg.size⟩
   ·obtain⟨z,hz,hr⟩:=n6 k x j y hx hy
    exact⟨z,hz,hr.stable (fun _ h _=>h) So hg.size⟩
  rw[UN]at hA
  have hB:aG S μ w' v' (.arr E' (az P E') enc d l):=hA.box rfl
  have UY:∀b,bu v' b→aF (μ id)=some b∨w.heap.size≤b:=by
   intro b hb
   have hb:=hb.bl (by rcases ho.2 with ⟨rfl,_⟩ | ⟨g,cap,Qz,rfl,_⟩<;>rfl)
   have SB:v'.ownBlock=aF v':=by
    rcases ho.2 with ⟨rfl,_⟩ | ⟨g,cap,Qz,rfl,_⟩<;>rfl
   rcases Qd with Qd | Qd
   ·exact .inl (by rw[← P9,← Qd,SB];exact hb)
   ·rw[SB,hb]at Qd
    cases Qd
    exact .inr (NN _)
  refine⟨v',w',Qp,.inr ⟨id,_,_,RA,G',rfl,rfl,by rw[← P9];exact hg,hB,UY,?_⟩⟩
  rcases hval with ⟨e1,e2⟩ | ⟨e1,e2⟩
  ·exact .inl ⟨e1,e2⟩
  ·exact .inr ⟨_,_,_,_,_,_,rfl,e1,e2⟩
 ·obtain⟨rfl,RA,hval⟩:=yI hp
  obtain⟨Qi,UN⟩:=D'
  cases hs
  obtain⟨v',w',Qp,ho,hg,Qd⟩:=dq (P:=P) (w:=w) t ty E i v hu hi hv Rr (Pa w 0 E i.size) n1 n2 n3 n4 (by simp only[maxLen];omega) (bytes _ (by omega))
  have TQ:w.grownBy w' none:=hg
  have So:∀b,S b→b<w.heap.size→w'.heap[b]?=w.heap[b]?:=fun b hb hl=>TQ.block b hl (by simp)
  have hA:dK S w' E (az P E) ([]++new) v':=by
   rw[Qk]at ho n2 n5 n6
   refine dK.append (xs:=[]) (fun k x hx=>by simp at hx) (by simp) (fun k x j y hx=>by simp at hx) n5 (fun k x j y hx hy=>?_) (by simpa using ho)
   obtain⟨z,hz,hr⟩:=n6 k x j y hx hy
   exact⟨z,hz,hr.stable (fun _ h _=>h) So TQ.size⟩
  rw[OU,UN]at hA
  have hB:aG S μ w' v' (.arr E (az P E) enc d l):=hA.box rfl
  have hvb:∀b,bu v' b→w.heap.size≤b:=by
   intro b hb
   have hb:=hb.bl (by rcases ho.2 with ⟨rfl,_⟩ | ⟨g,cap,Qz,rfl,_⟩<;>rfl)
   have SB:v'.ownBlock=aF v':=by
    rcases ho.2 with ⟨rfl,_⟩ | ⟨g,cap,Qz,rfl,_⟩<;>rfl
   rcases Qd with Qd | Qd
   ·rw[SB,hb]at Qd;cases Qd
   ·rw[SB,hb]at Qd;cases Qd;exact NN _
  have R':Below w.heap.size w w':=⟨TQ.os,TQ.tape,TQ.output,TQ.size,fun k hk=>TQ.block k hk (by simp)⟩
  refine⟨v',w',Qp,.inl ⟨RA,R',?_⟩⟩
  rcases hval with ⟨e1,e2⟩ | ⟨e1,e2⟩
  ·refine .inr (.inr ⟨S,μ,v',by rw[e1];rfl,fun _ h=>h,fun _ h=>.inl h,fun b hb=>OV (hS b hb) TQ.size,by rw[e1];exact hB,?_,fun b hb=>⟨hvb b hb,fun hSb=>by have:=hS b hSb;have:=hvb b hb;omega⟩⟩)
   rw[e2]
   have:=ai.own (S:=S) (μ:=aO μ H.length v') (w:=w') H.length
   rwa [ar]at this
  ·refine .inl ⟨e1,?_⟩
   rw[e2]
   exact .v _ _ (dh (S':=fun b=>S b∨w.heap.size≤b) hB (fun b hb=>Or.inl hb) (fun b hb=>Or.inr (hvb b hb)) (fun b hb=>OV (hS b hb) TQ.size))
 ·rw[cL hp]at D';exact D'.elim
theorem yK {H:List ak} (hH:a9 S μ w H) (hS:∀b,S b→b<w.heap.size) (hG:fy S w) {ρ:Operand→D} {ρ':Operand→Value} (hρ:∀x,ai S μ w (ρ x) (ρ' x)) {ov:Ov} {o:Oper} {k:Mk} {p:Prop} (hp:EV P H ρ ov o.op=some (k,p)) (D':p)
  {R:Value→World→Prop} (hR:∀u w',Je S μ w H k u w'→R u w'):nk P R ((execOp ρ' o).run P w):=by
 unfold EV at hp
 split at hp
 ·rename_i f args Tz ho
  split at hp
  ·rename_i q' r B g first cap hf
   split at hp
   ·rename_i hc
    simp only[NK]at hc
    obtain⟨SC,hr,V8,RZ⟩:=hc
    simp only[NW,NS]at hp
    obtain⟨rfl,rfl⟩:=hp
    have RJ:=hf ▸ hρ f
    generalize Rh:ρ' f=uf at RJ
    cases RJ with
    | fn _ _ _ us vs h1 h2 h3 h4 =>
     have Qp:(execOp ρ' o).run P w=.ok (.enter g (us++args.map ρ'++vs)) w:=by
      simp[execOp,ho,resolve,Rh,Deferred.ofValue,invoke,bA SC]
     rw[Qp]
     have RB:aK S μ w (args.toList.map ρ) (args.map ρ'):=by
      refine⟨by simp,fun j y z hy hz=>?_⟩
      simp only[N4,Oo,O1]at hy hz
      cases hj:args[j]? with
      | none=>rw[hj]at hy;cases hy
      | some x=>rw[hj]at hy hz;simp at hy hz;subst hy hz;exact hρ x
     have hall:=aK.app (aK.app ⟨h1,h2⟩ RB) ⟨h3,h4⟩
     obtain⟨Uj,hc',UZ⟩:∃Uj,ap P g Uj [] false r [B]∧aK S μ w Uj (us++args.map ρ'++vs):=by
      cases q' with
      | none=>exact⟨_,D',hall⟩
      | some q'=>exact⟨q',D'.2,jI hH (fun _ h=>h) hS (.inr RZ) D'.1 hall⟩
     refine nk.enter ((hc' S μ w _ hS hG ⟨fun id B hB=>by simp at hB,fun i j A B b hA=>by simp at hA,fun i A b hA=>by simp at hA⟩ UZ).mono ?_)
     rintro e w' ⟨u,μ',S',rfl,q1,q2,q3,q4,q5,q6,q7,q8,q9,q10,q11,_⟩
     have hl:B.live=true:=by cases B<;>first | rfl | cases V8
     refine⟨u,rfl,hR u w' (.inl ⟨rfl,⟨q1,q2,q3,q4,fun k hk=>q5 k hk (fun i A hA=>by simp at hA)⟩,.inr (.inr ⟨S',μ',μ' 0,V8,q6,q7,q8,q10.box 0 B rfl,Ap q9 hr (ar _ _ _),fun b hb=>⟨?_,q10.notS 0 B b rfl hl hb⟩⟩)⟩)⟩
     rcases q11 0 B b rfl hl hb with hb | ⟨j,A',QQ,_⟩
     ·exact hb
     ·simp at QQ
   ·rw[cL hp]at D';exact D'.elim
  ·rename_i q' r E sz α enc d l g first cap hf
   split at hp
   ·rename_i SC
    simp only[NW,NS]at hp
    obtain⟨rfl,rfl⟩:=hp
    obtain⟨_,Vz,hco,hc'⟩:=D'
    have RJ:=hf ▸ hρ f
    generalize Rh:ρ' f=uf at RJ
    cases RJ with
    | fn _ _ _ us vs h1 h2 h3 h4 =>
     have Qp:(execOp ρ' o).run P w=.ok (.enter g (us++args.map ρ'++vs)) w:=by
      simp[execOp,ho,resolve,Rh,Deferred.ofValue,invoke,bA SC]
     rw[Qp]
     have RB:aK S μ w (args.toList.map ρ) (args.map ρ'):=by
      refine⟨by simp,fun j y z hy hz=>?_⟩
      simp only[N4,Oo,O1]at hy hz
      cases hj:args[j]? with
      | none=>rw[hj]at hy;cases hy
      | some x=>rw[hj]at hy hz;simp at hy hz;subst hy hz;exact hρ x
     have hall:=aK.app (aK.app ⟨h1,h2⟩ RB) ⟨h3,h4⟩
     have hSc:∀b,(S b∨∃(i:Nat) (A:ak),H[i]?=some A∧A.mem=true∧bu (μ i) b)→b<w.heap.size:=by
      rintro b (hb | ⟨i,A,hA,hl,hb⟩)
      ·exact hS b hb
      ·exact(hH.box i A hA).ltM hl b hb
     have UZ:=jI (S':=fun b=>S b∨∃(i:Nat) (A:ak),H[i]?=some A∧A.mem=true∧bu (μ i) b) hH (fun b hb=>.inl hb) hS (.inl (fun i A b hA hl hb=>.inr ⟨i,A,hA,hl,hb⟩)) hco hall
     refine nk.enter ((hc' _ μ w _ hSc (hG.stable (fun b hb _=>.inl hb) (fun _ _ _=>rfl) (NN _)) ⟨fun id B hB=>by simp at hB,fun i j A B b hA=>by simp at hA,fun i A b hA=>by simp at hA⟩ UZ).mono ?_)
     rintro e w' ⟨u,μ',S',rfl,q1,q2,q3,q4,q5,q6,q7,q8,q9,q10,q11,_⟩
     have hu:=bq q9
     subst hu
     have hB:aG S μ w' (μ' 0) (.arr E sz enc d l):=(q10.box 0 _ rfl).flat Vz
     refine⟨_,rfl,hR _ w' (.inl ⟨rfl,⟨q1,q2,q3,q4,fun k hk=>q5 k hk (fun i A hA=>by simp at hA)⟩,.inl ⟨rfl,.v _ _ (th hB (fun b hb=>Or.inl hb) (fun b hb=>Or.inr ?_))⟩⟩)⟩
     rcases q11 0 _ b rfl rfl hb with hb | ⟨j,A',QQ,_⟩
     ·exact hb
     ·simp at QQ
   ·rw[cL hp]at D';exact D'.elim
  ·cases hp
 ·rename_i args Tz ho
  split at hp
  ·rename_i fz E sz α enc d l s x t t' ha ht
   split at hp
   ·rename_i hc
    rw[N2]at hc
    subst hc
    have ea:args=#[s,x]:=PJ (by simpa using ha)
    have et:Tz=#[t,t]:=PJ (by simpa using ht)
    subst ea et
    obtain⟨u,w',h1,h2⟩:=yJ (ty:=o.type) hH hS (hρ s) (hρ x) hp D'
    refine nk.of (v:=u) (w':=w') ?_ (hR u w' h2)
    simp only[execOp,ho,resolve,invoke,builtin,Pp,OQ,OG,NP,N6,NO,h1]
   ·rw[cL hp]at D';exact D'.elim
  ·cases hp
 ·rename_i t len P8 ho
  split at hp
  ·rename_i E sz α enc d l
   split at hp
   ·rename_i y q hq
    simp only[NW,NS]at hp
    obtain⟨rfl,rfl⟩:=hp
    obtain⟨vs,h1,h2⟩:=AF hH (Qj:=P8.toList.map fun p=>(p.1,ρ' p.2)) (by simp) (fun j x u hx hu=>by
     simp only[N4,Oo]at hx hu
     cases hj:P8[j]? with
     | none=>rw[hj]at hx;cases hx
     | some q=>rw[hj]at hx hu;simp at hx hu;subst hx hu;exact hρ q.2) hS hq D' ⟨_,rfl⟩
    have he:P8.map (fun (i,x)=>(i,ρ' x))=(P8.toList.map fun p=>(p.1,ρ' p.2)).toArray:=PJ (by simp)
    rw[← he]at h1
    refine nk.of (v:=.slice (some ⟨w.heap.size,0,none⟩) len len) (w':=w.alloc (.cells vs E)) ?_ (hR _ _ (.inl ⟨rfl,(Below.refl _ _).alloc (NN _) _,.inr (.inl ⟨_,rfl,rfl,h2.arrMu rfl,?_,fun b hb=>by simp[bu,aF]at hb;exact hb.symm⟩)⟩))
    ·simp only[execOp,ho,NP,h1,NO,N6]
    ·have:=ai.own (S:=S) (μ:=aO μ H.length (Value.slice (some ⟨w.heap.size,0,none⟩) len len)) (w:=w.alloc (.cells vs E)) H.length
     rwa [ar]at this
   ·rw[cL hp]at D';exact D'.elim
  ·cases hp
 ·cases hp
theorem AH {H:List ak} (hH:a9 S μ w H) (hS:∀b,S b→b<w.heap.size) (hG:fy S w) {ρ:Operand→D} {ρ':Operand→Value} (hρ:∀x,ai S μ w (ρ x) (ρ' x)) {ov:Ov} {o:Oper} {k:Mk} {p:Prop} (hp:Ha P H ρ ov o.op=(k,p)) (D':p)
  {R:Value→World→Prop} (hR:∀u w',Je S μ w H k u w'→R u w'):nk P R ((execOp ρ' o).run P w):=by
 unfold Ha at hp
 split at hp
 ·rename_i T ho
  split at hp
  ·rename_i z hz
   split at hp
   case h_2=>cases hp;exact D'.elim
   rename_i RN
   simp only[NS]at hp
   obtain⟨rfl,rfl⟩:=hp
   obtain⟨v,Rm,Sw⟩:=gd (P:=P) (S:=S) (μ:=μ) (w:=w) hz
   refine nk.of (v:=.pointer (some ⟨w.heap.size,0,none⟩)) (w':=w.alloc (.cells v.cells T)) ?_ (hR _ _ (.inl ⟨rfl,(Below.refl _ _).alloc (NN _) _,.inr (.inl ⟨_,rfl,rfl,?_,?_,fun b hb=>by simp[bu,aF]at hb;exact hb.symm⟩)⟩))
   ·simp[execOp,ho,Instr.alloc,NP,Rm,newVar,newRow,newObj,Sem.run]
   ·refine⟨w.heap.size,v.cells,rfl,OM w _,Sw.1,fun j y x hy hx=>?_⟩
    exact(Sw.2 j y x hy hx).stable (fun _ h _=>h) (fun b hb hl=>Below.heap_alloc w _ b hl) (by simp) (fun id Qh=>aA _ _ (fun e=>by rw[e,D.freeL_get RN hy]at Qh;cases Qh))
   ·exact .ptr _ 0 0 0 _ (by rw[ar];rfl)
  ·cases hp;exact D'.elim
 ·rename_i T x ho
  split at hp
  ·rename_i cs hcs
   split at hp
   case h_2=>cases hp;exact D'.elim
   rename_i RN
   simp only[NS]at hp
   obtain⟨rfl,rfl⟩:=hp
   have Sw:=gL hH (hρ x) hcs
   refine nk.of (v:=.pointer (some ⟨w.heap.size,0,none⟩)) (w':=w.alloc (.cells (ρ' x).cells T)) ?_ (hR _ _ (.inl ⟨rfl,(Below.refl _ _).alloc (NN _) _,.inr (.inl ⟨_,rfl,rfl,?_,?_,fun b hb=>by simp[bu,aF]at hb;exact hb.symm⟩)⟩))
   ·simp[execOp,ho,Instr.box,newVar,newRow,newObj,Sem.run]
   ·refine⟨w.heap.size,(ρ' x).cells,rfl,OM w _,Sw.1,fun j y x hy hx=>?_⟩
    exact(Sw.2 j y x hy hx).stable (fun _ h _=>h) (fun b hb hl=>Below.heap_alloc w _ b hl) (by simp) (fun id Qh=>aA _ _ (fun e=>by rw[e,D.freeL_get RN hy]at Qh;cases Qh))
   ·exact .ptr _ 0 0 0 _ (by rw[ar];rfl)
  ·cases hp;exact D'.elim
 ·rename_i t l c ho
  split at hp
  ·rename_i E kl n kc m hu SD hc0
   split at hp
   ·rename_i z hz
    split at hp
    ·rename_i Qt
     simp only[NK,N2,OY]at Qt
     obtain⟨⟨⟨hk,Rp⟩,Qy⟩,UB⟩:=Qt
     obtain⟨i,v,hi,hv,SS,Qk,VK⟩:=f5 hz
     have hl:=hρ l
     have hc:=hρ c
     rw[SD]at hl
     rw[hc0]at hc
     have SE:(0≤n∧n≤m∧m≤137438953472)→(execOp ρ' o).run P w=.ok (.value (.slice (some ⟨w.heap.size,0,none⟩) n.toNat m.toNat)) (w.alloc (.cells (madeCells v.cells (m.toNat*i.size)) E)):=by
      rintro⟨h0,TA,hm⟩
      have hbm:(i.bytes:Int)*m≤281474976710656:=by
       have h9:(i.bytes:Int)≤1024:=by omega
       have:(i.bytes:Int)*m≤1024*m:=Int.mul_le_mul_of_nonneg_right h9 (by omega)
       omega
      have Qp:=run_make (P:=P) w t E i v hu hi hv kl kc n m h0 TA hbm (by omega)
      rw[← bM hl,← bM hc]at Qp
      simp only[execOp,ho,NP,Qp,NO,N6]
     split at hp
     ·rename_i E' QK α Qb d' l'
      split at hp
      ·rename_i Ui
       simp only[NK,N2]at Ui
       obtain⟨rfl,rfl⟩:=Ui
       simp only[NS]at hp
       obtain⟨rfl,rfl⟩:=hp
       obtain⟨TA,Qi,RY⟩:=D'
       refine nk.of (SE TA) (hR _ _ (.inl ⟨rfl,(Below.refl _ _).alloc (NN _) _,.inr (.inl ⟨_,rfl,rfl,yH hz hi hv SS Qk Rp Qy TA.1 TA.2.1 TA.2.2 Qi RY,?_,fun b hb=>by simp[bu,aF]at hb;exact hb.symm⟩)⟩))
       have:=ai.own (S:=S) (μ:=aO μ H.length (Value.slice (some ⟨w.heap.size,0,none⟩) n.toNat m.toNat)) (w:=w.alloc (.cells (madeCells v.cells (m.toNat*i.size)) E)) H.length
       rwa [ar]at this
      ·cases hp;exact D'.elim
     ·rename_i E' QK α Qb d' l'
      split at hp
      ·rename_i Ui
       simp only[NK,N2]at Ui
       obtain⟨rfl,rfl⟩:=Ui
       simp only[NS]at hp
       obtain⟨rfl,rfl⟩:=hp
       obtain⟨TA,Qi,RY⟩:=D'
       have hB:aG S μ (w.alloc (.cells (madeCells v.cells (m.toNat*i.size)) E)) (.slice (some ⟨w.heap.size,0,none⟩) n.toNat m.toNat) (.arr E (az P E) Qb d' l'):=yH hz hi hv SS Qk Rp Qy TA.1 TA.2.1 TA.2.2 Qi RY
       refine nk.of (SE TA) (hR _ _ (.inl ⟨rfl,(Below.refl _ _).alloc (NN _) _,.inl ⟨rfl,.v _ _ (dh (S':=fun b=>S b∨w.heap.size≤b) hB (fun b hb=>Or.inl hb) (fun b hb=>Or.inr (by simp[bu,aF]at hb;omega)) (fun b hb=>by have:=hS b hb;simp;omega))⟩⟩))
      ·cases hp;exact D'.elim
     ·cases hp;exact D'.elim
    ·cases hp;exact D'.elim
   ·cases hp;exact D'.elim
  ·cases hp;exact D'.elim
 ·rename_i t ho
  split at hp
  ·rename_i t' ag α enc d l
   split at hp
   ·simp only[NS]at hp
    obtain⟨rfl,rfl⟩:=hp
    refine nk.of (v:=.map (some w.heap.size)) (w':=w.alloc (.map #[] 0)) ?_ (hR _ _ (.inl ⟨rfl,(Below.refl _ _).alloc (NN _) _,.inr (.inl ⟨_,rfl,rfl,?_,?_,fun b hb=>by simp[bu,aF]at hb;exact hb.symm⟩)⟩))
    ·simp[execOp,ho,Instr.makeMap,newObj,Sem.run]
    ·exact⟨w.heap.size,#[],0,rfl,OM w _,rfl,fun i k x hx=>by simp at hx⟩
    ·have:=ai.own (S:=S) (μ:=aO μ H.length (.map (some w.heap.size))) (w:=w.alloc (.map #[] 0)) H.length
     rwa [ar]at this
   ·cases hp;exact D'.elim
  ·cases hp;exact D'.elim
 ·rename_i h1 h2 h3 h4
  split at hp
  ·rename_i q hq
   obtain⟨k',p'⟩:=q
   simp only[NS]at hp
   obtain⟨rfl,rfl⟩:=hp
   exact yK hH hS hG hρ hq D' hR
  generalize hq:L7 P H ρ ov o.op=q at hp
  obtain⟨d,q⟩:=q
  simp only[NS]at hp
  obtain⟨rfl,rfl⟩:=hp
  refine Dz hH hS hG hρ hq D' ?_ (fun u w' hb hd=>hR u w' (.inl ⟨rfl,hb,.inl ⟨rfl,hd⟩⟩))
  unfold I9
  split
  ·rename_i T ho;exact(h1 T ho).elim
  ·rfl
end
def Jf:List Bool→List Bool→List Bool
 | a::q',b::bs=>(a||b)::Jf q' bs
 | [],bs=>bs
 | q',[]=>q'
def vV:Nat→List Bool
 | 0=>[true]
 | n+1=>false::vV n
def gP (M':List (List Bool)):List Edge→List Bool
 | []=>[]
 | e::r=>if Region.binds .any e then Jf (Jf (vV e.on) (M'.getD e.on [])) (gP M' r)else gP M' r
theorem xn:∀(a b:List Bool) (j:Nat),(Jf a b).getD j false=(a.getD j false||b.getD j false)
 | a::q',b::bs,0=>rfl
 | a::q',b::bs,j+1=>by simpa[Jf]using xn q' bs j
 | [],bs,j=>by simp[Jf]
 | a::q',[],j=>by simp[Jf]
theorem vW:∀(n j:Nat),(vV n).getD j false=true→j=n
 | 0,0,_=>rfl
 | 0,j+1,h=>by simp[vV]at h
 | n+1,0,h=>by simp[vV]at h
 | n+1,j+1,h=>by have:=vW n j (by simpa[vV]using h);omega
theorem pn {M':List (List Bool)} {j:Nat}:∀{es:List Edge},(gP M' es).getD j false=true→∃e∈es,Region.binds .any e=true∧(j=e.on∨(M'.getD e.on []).getD j false=true)
 | [],h=>by simp[gP]at h
 | e::r,h=>by
  unfold gP at h
  split at h
  ·rename_i hb
   rw[xn,xn]at h
   simp only[Oq]at h
   rcases h with (h | h) | h
   ·exact⟨e,Oi ..,hb,.inl (vW _ _ h)⟩
   ·exact⟨e,Oi ..,hb,.inr h⟩
   ·obtain⟨e',h1,h2⟩:=pn h
    exact⟨e',Oe _ h1,h2⟩
  ·obtain⟨e',h1,h2⟩:=pn h
   exact⟨e',Oe _ h1,h2⟩
def kG:List Oper→List Mk→List Bool→List (Nat×D)
 | o::os,k::ks,b::bs=>match b,o.dst with
  | true,some t=>(t,k.d)::kG os ks bs
  | _,_=>kG os ks bs
 | _,_,_=>[]
def i5 (id:Nat):List Mk→List Bool→Bool
 | k::ks,true::bs=>(match k.kil with | some i=>Nat.beq i id | none=>false)||i5 id ks bs
 | _::ks,false::bs=>i5 id ks bs
 | _,_=>false
def jk (id:Nat) (bs:List Bool):Nat→List Mk→Option ak
 | _,[]=>none
 | p,k::ks=>match k.fil,bs.getD p false with
  | some i,true=>(match Nat.beq i id with | true=>some k.b | false=>jk id bs (p+1) ks)
  | _,_=>jk id bs (p+1) ks
def jl (id:Nat) (ks:List Mk) (bs:List Bool):Option ak:=jk id bs 0 ks
def KT (TB:List Mk) (TC:List Bool) (id:Nat) (k:Mk):ak:=match i5 id TB TC,k.fil,jl id TB TC with
 | false,none,some B=>B
 | false,none,none=>k.b
 | _,_,_=>.dead
def il (TB:List Mk) (TC:List Bool):Nat→List Mk→List Bool→List ak
 | _,[],_=>[]
 | id,_::ks,[]=>.dead::il TB TC (id+1) ks []
 | id,k::ks,true::bs=>KT TB TC id k::il TB TC (id+1) ks bs
 | id,_::ks,false::bs=>.dead::il TB TC (id+1) ks bs
def de (n0:Nat) (ks:List Mk) (bs:List Bool):List ak:=il ks bs n0 ks bs
theorem fL {id:Nat} {bs:List Bool} {B:ak}:∀{ks:List Mk} {p0:Nat},jk id bs p0 ks=some B→∃(p:Nat) (k:Mk),ks[p]?=some k∧bs.getD (p0+p) false=true∧k.fil=some id∧B=k.b
 | [],p0,h=>by simp[jk]at h
 | k::ks,p0,h=>by
  unfold jk at h
  have go:jk id bs (p0+1) ks=some B→∃(p:Nat) (k':Mk),(k::ks)[p]?=some k'∧bs.getD (p0+p) false=true∧k'.fil=some id∧B=k'.b:=fun h=>by
   obtain⟨p,k',h1,h2,h3⟩:=fL h
   exact⟨p+1,k',by simpa using h1,by rw[show p0+(p+1)=p0+1+p by omega];exact h2,h3⟩
  split at h
  ·rename_i i hf hb
   split at h
   ·rename_i he
    rw[N2]at he
    cases h
    exact⟨0,k,rfl,hb,by rw[hf,he],rfl⟩
   ·exact go h
  ·exact go h
theorem jO {id:Nat} {bs:List Bool}:∀{ks:List Mk} {p0:Nat},jk id bs p0 ks=none→∀(p:Nat) (k:Mk),ks[p]?=some k→bs.getD (p0+p) false=true→k.fil=some id→False
 | [],p0,h,p,k,h1,_,_=>by simp at h1
 | k'::ks,p0,h,p,k,h1,h2,h3=>by
  unfold jk at h
  cases p with
  | zero =>
   simp at h1;subst h1
   rw[h3,show bs.getD p0 false=true from h2]at h
   simp at h
  | succ p =>
   have h4:jk id bs (p0+1) ks=none:=by
    split at h
    ·split at h
     ·cases h
     ·exact h
    ·exact h
   exact jO h4 p k (by simpa using h1) (by rw[show p0+1+p=p0+(p+1) by omega];exact h2) h3
theorem rL {id:Nat} {bs bs':List Bool}:∀{ks:List Mk} {p0:Nat},(∀(p:Nat) (k:Mk),ks[p]?=some k→k.fil=some id→bs.getD (p0+p) false=bs'.getD (p0+p) false)→jk id bs p0 ks=jk id bs' p0 ks
 | [],p0,h=>rfl
 | k::ks,p0,h=>by
  have ih:=rL (id:=id) (bs:=bs) (bs':=bs') (ks:=ks) (p0:=p0+1) (fun p k' h1 h2=>by
   have:=h (p+1) k' (by simpa using h1) h2
   rwa [show p0+(p+1)=p0+1+p by omega]at this)
  unfold jk
  cases hf:k.fil with
  | none=>simp only;exact ih
  | some i =>
   by_cases e:i=id
   ·have:=h 0 k rfl (by rw[hf,e])
    rw[Ph]at this
    rw[this]
    subst e
    cases bs'.getD p0 false
    ·exact ih
    ·simp
   ·have e2:Nat.beq i id=false:=by
     cases hb:Nat.beq i id
     ·rfl
     ·rw[N2]at hb;exact(e hb).elim
    cases bs.getD p0 false<;>cases bs'.getD p0 false<;>simp only[e2]<;>exact ih
theorem po {id:Nat}:∀{ks:List Mk} {bs:List Bool},i5 id ks bs=true→∃(p:Nat) (k:Mk),ks[p]?=some k∧bs.getD p false=true∧k.kil=some id
 | [],bs,h=>by simp[i5]at h
 | k::ks,[],h=>by simp[i5]at h
 | k::ks,true::bs,h=>by
  unfold i5 at h
  rw[Oq]at h
  rcases h with h | h
  ·split at h
   ·rename_i i hk;rw[N2]at h;exact⟨0,k,rfl,rfl,by rw[hk,h]⟩
   ·cases h
  ·obtain⟨p,k',h1,h2,h3⟩:=po h
   exact⟨p+1,k',h1,h2,h3⟩
 | k::ks,false::bs,h=>by
  unfold i5 at h
  obtain⟨p,k',h1,h2,h3⟩:=po h
  exact⟨p+1,k',h1,h2,h3⟩
theorem sM {id:Nat}:∀{ks:List Mk} {bs:List Bool} {p:Nat} {k:Mk},ks[p]?=some k→bs.getD p false=true→k.kil=some id→i5 id ks bs=true
 | [],bs,p,k,h,_,_=>by simp at h
 | k'::ks,[],p,k,_,h,_=>by simp at h
 | k'::ks,b::bs,0,k,h1,h2,h3=>by
  simp at h1 h2
  subst h1 h2
  unfold i5
  rw[h3]
  simp
 | k'::ks,b::bs,p+1,k,h1,h2,h3=>by
  have:=sM (ks:=ks) (bs:=bs) (p:=p) (by simpa using h1) (by simpa using h2) h3
  cases b
  ·unfold i5;exact this
  ·unfold i5;rw[this,Bool.or_true]
theorem fM {t:Nat} {d:D}:∀{os:List Oper} {ks:List Mk} {bs:List Bool},(t,d)∈kG os ks bs→∃(j:Nat) (o:Oper) (k:Mk),os[j]?=some o∧ks[j]?=some k∧bs.getD j false=true∧o.dst=some t∧d=k.d
 | o::os,k::ks,b::bs,h=>by
  unfold kG at h
  split at h
  ·rename_i t' hd
   rcases OB.1 h with h | h
   ·cases h;exact⟨0,o,k,rfl,rfl,rfl,hd,rfl⟩
   ·obtain⟨j,o',k',h1⟩:=fM h;exact⟨j+1,o',k',h1⟩
  ·obtain⟨j,o',k',h1⟩:=fM h;exact⟨j+1,o',k',h1⟩
 | [],_,_,h=>by simp[kG]at h
 | _::_,[],_,h=>by simp[kG]at h
 | _::_,_::_,[],h=>by simp[kG]at h
theorem mr:∀{os:List Oper} {ks:List Mk} {bs:List Bool} (j:Nat) {o:Oper} {k:Mk} {t:Nat},os[j]?=some o→ks[j]?=some k→bs.getD j false=true→o.dst=some t→(t,k.d)∈kG os ks bs
 | o::os,k::ks,b::bs,0,o',k',t,h1,h2,h3,h4=>by
  simp at h1 h2 h3;subst h1 h2 h3
  unfold kG
  rw[h4]
  exact Oi ..
 | o::os,k::ks,b::bs,j+1,o',k',t,h1,h2,h3,h4=>by
  have:=mr (os:=os) (ks:=ks) (bs:=bs) j (by simpa using h1) (by simpa using h2) (by simpa using h3) h4
  unfold kG
  split
  ·exact Oe _ this
  ·exact this
 | [],_,_,_,_,_,_,h1,_,_,_=>by simp at h1
 | _::_,[],_,_,_,_,_,_,h2,_,_=>by simp at h2
 | _::_,_::_,[],_,_,_,_,_,_,h3,_=>by simp at h3
theorem gQ {TB:List Mk} {TC:List Bool}:∀(n:Nat) (ks:List Mk) (bs:List Bool),(il TB TC n ks bs).length=ks.length
 | _,[],_=>rfl
 | n,_::ks,[]=>by simp[il,gQ (n+1) ks]
 | n,_::ks,true::bs=>by simp[il,gQ (n+1) ks]
 | n,_::ks,false::bs=>by simp[il,gQ (n+1) ks]
theorem di (n:Nat) (ks:List Mk) (bs:List Bool):(de n ks bs).length=ks.length:=gQ _ _ _
theorem ms {TB:List Mk} {TC:List Bool}:∀(n:Nat) (ks:List Mk) (bs:List Bool) (j:Nat) (k:Mk),ks[j]?=some k→(il TB TC n ks bs)[j]?=some (if bs.getD j false=true then KT TB TC (n+j) k else .dead)
 | n,_::ks,[],0,k,h=>by simp[il]
 | n,_::ks,[],j+1,k,h=>by simpa[il]using ms (n+1) ks [] j k (by simpa using h)
 | n,k'::ks,true::bs,0,k,h=>by
  simp at h;subst h
  simp[il]
 | n,_::ks,true::bs,j+1,k,h=>by
  have:=ms (TB:=TB) (TC:=TC) (n+1) ks bs j k (by simpa using h)
  rw[show n+1+j=n+(j+1) by omega]at this
  simpa[il]using this
 | n,_::ks,false::bs,0,k,h=>by simp[il]
 | n,_::ks,false::bs,j+1,k,h=>by
  have:=ms (TB:=TB) (TC:=TC) (n+1) ks bs j k (by simpa using h)
  rw[show n+1+j=n+(j+1) by omega]at this
  simpa[il]using this
 | _,[],_,_,_,h=>by simp at h
theorem mt (n:Nat) (ks:List Mk) (bs:List Bool) (j:Nat) (k:Mk) (h:ks[j]?=some k):(de n ks bs)[j]?=some (if bs.getD j false=true then KT ks bs (n+j) k else .dead):=ms n ks bs j k h
theorem jP {n:Nat} {ks:List Mk} {bs:List Bool} {j:Nat} {k:Mk} {B:ak} (h:ks[j]?=some k) (hB:(de n ks bs)[j]?=some B) :
  B=.dead∨(bs.getD j false=true∧i5 (n+j) ks bs=false∧k.fil=none∧((jl (n+j) ks bs=none∧B=k.b)∨jl (n+j) ks bs=some B)):=by
 rw[mt _ _ _ _ _ h]at hB
 split at hB
 ·rename_i hb
  simp only[NW]at hB
  unfold KT at hB
  split at hB
  ·rename_i B0 h1 h2 h3;exact .inr ⟨hb,h1,h2,.inr (by rw[h3,hB])⟩
  ·rename_i h1 h2 h3;exact .inr ⟨hb,h1,h2,.inl ⟨h3,hB.symm⟩⟩
  ·exact .inl hB.symm
 ·cases hB;exact .inl rfl
theorem tR {n:Nat} {ks:List Mk} {bs:List Bool} {j:Nat} {k:Mk} {B:ak} (h:ks[j]?=some k) (h1:bs.getD j false=true) (h2:i5 (n+j) ks bs=false) (h3:k.fil=none) (h4:(jl (n+j) ks bs=none∧B=k.b)∨jl (n+j) ks bs=some B) :
  (de n ks bs)[j]?=some B:=by
 rw[mt _ _ _ _ _ h,NT h1]
 unfold KT
 rw[h2,h3]
 rcases h4 with ⟨h5,rfl⟩ | h5
 ·rw[h5]
 ·rw[h5]
def vX (os:List Oper):List (Nat×D)→List (Nat×D)
 | []=>[]
 | (t,d)::r=>if os.any (fun o=>match o.dst with | some s=>Nat.beq s t | none=>false)then vX os r else (t,d)::vX os r
theorem jm {os:List Oper} {t:Nat} {d:D}:∀{env:List (Nat×D)},(t,d)∈vX os env→(t,d)∈env∧∀o∈os,o.dst≠some t
 | (s,e)::r,h=>by
  unfold vX at h
  split at h
  ·obtain⟨h1,h2⟩:=jm h;exact⟨Oe _ h1,h2⟩
  ·rename_i hn
   rcases OB.1 h with h | h
   ·cases h
    refine⟨Oi ..,fun o ho he=>hn ?_⟩
    rw[List.any_eq_true]
    exact⟨o,ho,by rw[he];simp⟩
   ·obtain⟨h1,h2⟩:=jm h;exact⟨Oe _ h1,h2⟩
def dG (os:List Oper) (st:St) (ks:List Mk) (anc:List Bool):St:=⟨vX os st.env++kG os ks anc,st.heap++de st.heap.length ks anc⟩
def GW (P:Program) (ops os:List Oper) (st:St) (Qs:List (Nat×Ov)):Nat→List Oper→List (List Bool)→List Mk→(List (List Bool)→List Mk→Prop)→Prop
 | _,[],M',ks,K=>K M' ks
 | i,o::r,M',ks,K =>
  match fK ops (dG os st ks (gP M' o.after.toList)) o with
  | some true=>match tQ P (dG os st ks (gP M' o.after.toList)).heap (dW (dG os st ks (gP M' o.after.toList)).env) (ld Qs i) o.op with
   | (k,p)=>p∧nD k.d (fun d=>nB k.b (fun b=>nK k.kl (fun kl=>GW P ops os st Qs (i+1) r (M'++[gP M' o.after.toList]) (ks++[.make d b kl]) K)))
  | some false=>GW P ops os st Qs (i+1) r (M'++[gP M' o.after.toList]) (ks++[lk (.tup []) .dead]) K
  | none=>False
def jn (st:St) (n0:Nat):Nat→List (List Bool)→List Mk→List (List Bool)→List Mk→Bool
 | i,a::q',k::ks,M',mks=>(match k.b,k.kl with
   | .dead,none=>true
   | _,_=>bv (n0+i) st.env&&aY (n0+i) st.heap&&freeM i (n0+i) 0 M' mks)&&jn st n0 (i+1) q' ks M' mks
 | _,_,_,_,_=>true
where freeM (i id:Nat):Nat→List (List Bool)→List Mk→Bool
 | j,a::q',k::ks=>(Nat.beq j i||a.getD i false||(D.free id k.d&&ak.free id k.b))&&freeM i id (j+1) q' ks
 | _,_,_=>true
def vY:List Oper→Bool
 | []=>true
 | o::r=>(match o.dst with | some t=>r.all (fun o'=>match o'.dst with | some s=>!(Nat.beq s t) | none=>true) | none=>true)&&vY r
def mu (nt:Nat):List Oper→Bool
 | []=>true
 | o::r=>(match o.dst with | some t=>Nat.blt t nt&&!(jN o.op) | none=>jN o.op)&&mu nt r
def tS:rG:={ K:=fun _=>.grow,F:=fun _ _ _ _=>True,ins:=fun _=>[] }
def Jg (nt:Nat) (ops:List Oper) (m:Nat):Bool :=
 Iu ops.toArray tS ⟨Array.replicate nt undef,[]⟩&&BB ops.toArray m&&mu nt (ops.take m)&&vY (ops.take m)&&ops.all (fun o=>!cH o)
def jQ (n0:Nat) (M':List (List Bool)) (ks:List Mk):Bool:=(List.range ks.length).all fun p=>match (ks.getD p (lk .junk .dead)).kl with
 | none=>true
 | some id=>Nat.ble n0 id&&(M'.getD p []).getD (id-n0) false&&((List.range ks.length).all fun i=>Nat.beq i p||!((M'.getD i []).getD (id-n0) false)||(M'.getD i []).getD p false||(M'.getD p []).getD i false)&&(List.range ks.length).all fun i=>Nat.beq i p||(match (ks.getD i (lk .junk .dead)).kl with | some j=>!(Nat.beq j id) | none=>true)
theorem im {n0:Nat} {M':List (List Bool)} {ks:List Mk} (h:jQ n0 M' ks=true) {p:Nat} {k:Mk} (hp:ks[p]?=some k) {id:Nat} (hk:k.kl=some id) :
  n0≤id∧(M'.getD p []).getD (id-n0) false=true∧∀i,i<ks.length→i≠p→(M'.getD i []).getD (id-n0) false=true→(M'.getD i []).getD p false=true∨(M'.getD p []).getD i false=true:=by
 unfold jQ at h
 rw[Oa]at h
 have Tn:p<ks.length:=(NL.1 hp).1
 have h1:=h p (OJ.2 Tn)
 have e:ks.getD p (lk .junk .dead)=k:=by rw[List.getD,hp];rfl
 rw[e,hk]at h1
 simp only[NK]at h1
 have h1:=h1.1
 simp only[OY,Oa,OJ,Oq,N2,Oc]at h1
 refine⟨h1.1.1,h1.1.2,fun i hi QI ha=>?_⟩
 rcases h1.2 i hi with ((h2 | h2) | h2) | h2
 ·exact absurd h2 QI
 ·rw[ha]at h2;cases h2
 ·exact .inl h2
 ·exact .inr h2
theorem tT {n0:Nat} {M':List (List Bool)} {ks:List Mk} (h:jQ n0 M' ks=true) {p q:Nat} {k k':Mk} (hp:ks[p]?=some k) (hq:ks[q]?=some k') {id:Nat} (hk:k.kl=some id) (QX:k'.kl=some id):p=q:=by
 unfold jQ at h
 rw[Oa]at h
 have Tn:p<ks.length:=(NL.1 hp).1
 have Ry:q<ks.length:=(NL.1 hq).1
 have h1:=h p (OJ.2 Tn)
 have e:ks.getD p (lk .junk .dead)=k:=by rw[List.getD,hp];rfl
 rw[e,hk]at h1
 simp only[NK]at h1
 have h2:=h1.2
 rw[Oa]at h2
 have h3:=h2 q (OJ.2 Ry)
 have e2:ks.getD q (lk .junk .dead)=k':=by rw[List.getD,hq];rfl
 rw[e2,QX]at h3
 simp only[Oq,N2,Oc]at h3
 rcases h3 with h3 | h3
 ·exact h3.symm
 ·have:Nat.beq id id=true:=by rw[N2]
  rw[this]at h3;cases h3
def Jh (P:Program) (nt:Nat) (ops:List Oper) (Qs:List (Nat×Ov)) (m:Nat) (st:St) (k:St→Prop):Prop :=
 GW P ops (ops.take m) st Qs 0 (ops.take m) [] [] fun M' ks =>
  match Jg nt ops m&&(jn st st.heap.length 0 M' ks M' ks&&jQ st.heap.length M' ks)&&P.follows .mixedOrders with
  | true=>xm P nt ops Qs m (ops.drop m) ⟨vX (ops.take m) st.env++kG (ops.take m) ks (List.replicate m true),st.heap++de st.heap.length ks (List.replicate m true)⟩ k
  | false=>False
theorem qJ {P:Program} {nt:Nat} {ops:List Oper} {Qs:List (Nat×Ov)} {k k':St→Prop} (hk:∀st,k st→k' st):∀(r:List Oper) (i:Nat) (st:St),xm P nt ops Qs i r st k→xm P nt ops Qs i r st k'
 | [],i,st,h=>hk _ h
 | o::r,i,st,h=>by
  unfold xm at h ⊢
  split at h
  ·rename_i hg;exact⟨h.1,qJ hk r (i+1) _ h.2⟩
  ·rename_i hg;exact⟨h.1,qJ hk r (i+1) _ h.2⟩
  ·exact h.elim
theorem pp {P:Program} {ops os:List Oper} {st:St} {Qs:List (Nat×Ov)} {K K':List (List Bool)→List Mk→Prop} (hk:∀a b,K a b→K' a b):∀(r:List Oper) (i:Nat) (M':List (List Bool)) (ks:List Mk),GW P ops os st Qs i r M' ks K→GW P ops os st Qs i r M' ks K'
 | [],i,M',ks,h=>hk _ _ h
 | o::r,i,M',ks,h=>by
  unfold GW at h ⊢
  split at h
  ·rename_i hg
   refine⟨h.1,?_⟩
   have h2:=h.2
   rw[B4,ET,IG]at h2 ⊢
   exact pp hk r (i+1) _ _ h2
  ·exact pp hk r (i+1) _ _ h
  ·exact h.elim
theorem EY {P:Program} {nt:Nat} {ops:List Oper} {Qs:List (Nat×Ov)} {m:Nat} {st:St} {k k':St→Prop} (h:Jh P nt ops Qs m st k) (hk:∀st,k st→k' st):Jh P nt ops Qs m st k':=by
 unfold Jh at h ⊢
 refine pp (fun a b hq=>?_) _ _ _ _ h
 split at hq
 ·exact qJ hk _ _ _ hq
 ·exact hq.elim
section
variable {C:jB}
theorem AI {P:Program} {ops os:List Oper} {st:St} {Qs:List (Nat×Ov)} {K:List (List Bool)→List Mk→Prop}:∀(r:List Oper) (i:Nat) (M':List (List Bool)) (ks:List Mk),M'.length=i→ks.length=i→GW P ops os st Qs i r M' ks K →
  ∃(QB:List (List Bool)) (SF:List Mk),QB.length=i+r.length∧SF.length=i+r.length∧(∃x,QB=M'++x)∧(∃y,SF=ks++y)∧K QB SF ∧
   ∀(j:Nat) (o:Oper),r[j]?=some o→(QB.getD (i+j) [])=gP (QB.take (i+j)) o.after.toList ∧
    ((fK ops (dG os st (SF.take (i+j)) (QB.getD (i+j) [])) o=some true∧∃k p,tQ P (dG os st (SF.take (i+j)) (QB.getD (i+j) [])).heap (dW (dG os st (SF.take (i+j)) (QB.getD (i+j) [])).env) (ld Qs (i+j)) o.op=(k,p)∧p∧SF[i+j]?=some k) ∨
     (fK ops (dG os st (SF.take (i+j)) (QB.getD (i+j) [])) o=some false∧SF[i+j]?=some (lk (.tup []) .dead)))
 | [],i,M',ks,h1,h2,h=>⟨M',ks,by simp[h1],by simp[h2],⟨[],by simp⟩,⟨[],by simp⟩,h,fun j o ho=>by simp at ho⟩
 | o::r,i,M',ks,h1,h2,h=>by
  unfold GW at h
  have VL:∀(k:Mk),GW P ops os st Qs (i+1) r (M'++[gP M' o.after.toList]) (ks++[k]) K →
    ((fK ops (dG os st ks (gP M' o.after.toList)) o=some true∧∃p,tQ P (dG os st ks (gP M' o.after.toList)).heap (dW (dG os st ks (gP M' o.after.toList)).env) (ld Qs i) o.op=(k,p)∧p)∨(fK ops (dG os st ks (gP M' o.after.toList)) o=some false∧k=lk (.tup []) .dead)) →
    ∃(QB:List (List Bool)) (SF:List Mk),QB.length=i+(o::r).length∧SF.length=i+(o::r).length∧(∃x,QB=M'++x)∧(∃y,SF=ks++y)∧K QB SF ∧
     ∀(j:Nat) (o':Oper),(o::r)[j]?=some o'→(QB.getD (i+j) [])=gP (QB.take (i+j)) o'.after.toList ∧
      ((fK ops (dG os st (SF.take (i+j)) (QB.getD (i+j) [])) o'=some true∧∃k p,tQ P (dG os st (SF.take (i+j)) (QB.getD (i+j) [])).heap (dW (dG os st (SF.take (i+j)) (QB.getD (i+j) [])).env) (ld Qs (i+j)) o'.op=(k,p)∧p∧SF[i+j]?=some k) ∨
       (fK ops (dG os st (SF.take (i+j)) (QB.getD (i+j) [])) o'=some false∧SF[i+j]?=some (lk (.tup []) .dead))):=by
   intro k hk hc
   obtain⟨QB,SF,q1,q2,⟨x,q3⟩,⟨y,q4⟩,q5,q6⟩:=AI r (i+1) _ _ (by simp[h1]) (by simp[h2]) hk
   refine⟨QB,SF,by rw[q1,Ow];omega,by rw[q2,Ow];omega,⟨_,by rw[q3,OE]⟩,⟨_,by rw[q4,OE]⟩,q5,fun j o' Rq=>?_⟩
   cases j with
   | zero =>
    simp at Rq
    subst Rq
    have ea:QB.getD (i+0) []=gP M' o.after.toList:=by
     rw[q3];unfold List.getD
     rw[OE,NX (by omega)]
     simp[h1]
    have et:QB.take (i+0)=M':=by rw[q3,OE,Ph,← h1,PF]
    have ek:SF.take (i+0)=ks:=by rw[q4,OE,Ph,← h2,PF]
    have eg:SF[i+0]?=some k:=by
     rw[q4,OE,NX (by omega)]
     simp[h2]
    rw[ea,et,ek,eg]
    refine⟨rfl,?_⟩
    rcases hc with ⟨c1,p,c2,c3⟩ | ⟨c1,rfl⟩
    ·exact .inl ⟨c1,k,p,c2,c3,rfl⟩
    ·exact .inr ⟨c1,rfl⟩
   | succ j =>
    have:=q6 j o' (by simpa using Rq)
    rwa [show i+1+j=i+(j+1)from by omega]at this
  split at h
  ·rename_i hg
   generalize hq:tQ P (dG os st ks (gP M' o.after.toList)).heap (dW (dG os st ks (gP M' o.after.toList)).env) (ld Qs i) o.op=q at h
   obtain⟨k,p⟩:=q
   obtain⟨hp,hk⟩:=h
   rw[B4,ET,IG]at hk
   exact VL k hk (.inl ⟨hg,p,hq,hp⟩)
  ·rename_i hg
   exact VL _ h (.inr ⟨hg,rfl⟩)
  ·exact h.elim
theorem yL {α:Type _} {l:List α} {i:Nat} {x:α} (h:l[i]?=some x):l.set i x=l:=by
 apply List.ext_getElem?
 intro j
 by_cases hj:i=j
 ·subst hj
  rw[N0 (NL.1 h).1,h]
 ·rw[NZ hj]
theorem yM {id:Nat}:∀{env:List (Nat×D)},(∀t d,(t,d)∈env→D.free id d=true)→bv id env=true
 | [],_=>rfl
 | (t,d)::r,h=>by
  simp only[bv,NK]
  exact⟨h t d (Oi ..),yM (fun t d hm=>h t d (Oe _ hm))⟩
theorem pu {id:Nat}:∀{H:List ak},(∀(j:Nat) (B:ak),H[j]?=some B→ak.free id B=true)→aY id H=true
 | [],_=>rfl
 | B::r,h=>by
  simp only[aY,NK]
  exact⟨h 0 B rfl,pu (fun j B hB=>h (j+1) B (by simpa using hB))⟩
theorem jo {t s:Nat} {d:D}:∀{env:List (Nat×D)},(s,d)∈env→s≠t→(s,d)∈rK env t
 | (q,e)::r,h,hn=>by
  unfold rK
  rcases OB.1 h with h | h
  ·cases h
   split
   ·rename_i hq;rw[N2]at hq;exact(hn hq).elim
   ·exact Oi ..
  ·split
   ·exact jo h hn
   ·exact Oe _ (jo h hn)
theorem vZ {i id:Nat}:∀{q':List (List Bool)} {ks:List Mk} {j0:Nat},jn.freeM i id j0 q' ks=true→∀(j:Nat) (a:List Bool) (k:Mk),q'[j]?=some a→ks[j]?=some k→j0+j=i∨a.getD i false=true∨(D.free id k.d=true∧ak.free id k.b=true)
 | a::q',k::ks,j0,h,0,a',k',h1,h2=>by
  simp at h1 h2;subst h1 h2
  unfold jn.freeM at h
  simp only[NK,Oq,N2]at h
  rcases h.1 with (h3 | h3) | h3
  ·exact .inl (by omega)
  ·exact .inr (.inl h3)
  ·exact .inr (.inr h3)
 | a::q',k::ks,j0,h,j+1,a',k',h1,h2=>by
  unfold jn.freeM at h
  simp only[NK]at h
  have:=vZ h.2 j a' k' (by simpa using h1) (by simpa using h2)
  rcases this with h3 | h3
  ·exact .inl (by omega)
  ·exact .inr h3
 | [],_,_,_,_,_,_,h1,_=>by simp at h1
 | _::_,[],_,_,_,_,_,_,h2=>by simp at h2
theorem v3 {st:St} {n0:Nat} {M':List (List Bool)} {mks:List Mk}:∀{q':List (List Bool)} {ks:List Mk} {i0:Nat},jn st n0 i0 q' ks M' mks=true→∀(i:Nat) (a:List Bool) (k:Mk),q'[i]?=some a→ks[i]?=some k→k.b.live=true∨k.kl.isSome=true →
  bv (n0+(i0+i)) st.env=true∧aY (n0+(i0+i)) st.heap=true∧jn.freeM (i0+i) (n0+(i0+i)) 0 M' mks=true
 | a::q',k::ks,i0,h,0,a',k',h1,h2,hl=>by
  simp at h1 h2;subst h1 h2
  unfold jn at h
  simp only[NK]at h
  have h3:=h.1
  split at h3
  ·rename_i hb RU;rw[hb,RU]at hl;rcases hl with hl | hl<;>cases hl
  ·simp only[NK]at h3
   exact⟨h3.1.1,h3.1.2,h3.2⟩
 | a::q',k::ks,i0,h,i+1,a',k',h1,h2,hl=>by
  unfold jn at h
  simp only[NK]at h
  have:=v3 h.2 i a' k' (by simpa using h1) (by simpa using h2) hl
  rwa [show i0+1+i=i0+(i+1)from by omega]at this
 | [],_,_,_,_,_,_,h1,_,_=>by simp at h1
 | _::_,[],_,_,_,_,_,_,h2,_=>by simp at h2
theorem v4:∀{os:List Oper},vY os=true→∀(i j:Nat) (o o':Oper) (t:Nat),os[i]?=some o→os[j]?=some o'→o.dst=some t→o'.dst=some t→i=j
 | x::r,h,i,j,o,o',t,hi,hj,h1,h2=>by
  unfold vY at h
  simp only[NK]at h
  have key:∀(k:Nat) (y z:Oper),r[k]?=some y→z=x→z.dst=some t→y.dst=some t→False:=by
   intro k y z hy hz hd hd2
   subst hz
   have h3:=h.1
   rw[hd]at h3
   simp only[Oa]at h3
   have:=h3 y (Oh hy)
   rw[hd2]at this
   simp at this
  cases i with
  | zero =>
   cases j with
   | zero=>rfl
   | succ j=>simp at hi hj;exact(key j o' o hj hi.symm h1 h2).elim
  | succ i =>
   cases j with
   | zero=>simp at hi hj;exact(key i o o' hi hj.symm h2 h1).elim
   | succ j=>simp at hi hj;rw[v4 h.2 i j o o' t hi hj h1 h2]
 | [],_,i,_,_,_,_,hi,_,_,_=>by simp at hi
theorem oD {ops:List Oper} {M':List (List Bool)} {m:Nat} {ls:Array Bool} (hcl:∀i o,ls.getD i false=true→ops[i]?=some o→∀e∈o.after,Region.binds .any e=true→ls.getD e.on false=true)
  (Ql:∀i o,ops[i]?=some o→∀e∈o.after,Region.binds .any e=true→e.on<i) (hm:m≤ops.length)
  (TR:∀(j:Nat) (o:Oper),(ops.take m)[j]?=some o→M'.getD j []=gP (M'.take j) o.after.toList) (QG:M'.length=m) :
  ∀(i:Nat) (o:Oper),i<m→ops[i]?=some o→(∀e∈o.after,Region.binds .any e=true→ls.getD e.on false=true)→∀j,(M'.getD i []).getD j false=true→ls.getD j false=true:=by
 intro i
 induction i using Nat.strongRecOn with
 | _ i ih =>
  intro o hi ho hr j hj
  rw[TR i o (by rw[Ob,NT hi];exact ho)]at hj
  obtain⟨e,he,hb,hc⟩:=pn hj
  have TD:e∈o.after:=by simpa using he
  have hlst:=hr e TD hb
  have hei:=Ql i o ho e TD hb
  rcases hc with rfl | hc
  ·exact hlst
  ·have e2:(M'.take i).getD e.on []=M'.getD e.on []:=by
    unfold List.getD;rw[Ob,NT hei]
   rw[e2]at hc
   have hoe:ops[e.on]?=some (ops[e.on]'(by omega)):=NM (by omega)
   exact ih e.on hei _ (by omega) hoe (hcl e.on _ hlst hoe) j hc
theorem cI (C':Array Bool) (m j:Nat) (h:j<m):((List.range m).map fun j=>C'.getD j false).getD j false=C'.getD j false:=by
 simp[List.getD,h]
theorem qK (C':Array Bool) (m j:Nat) (h:m≤j):((List.range m).map fun j=>C'.getD j false).getD j false=false:=by
 simp[List.getD,h]
theorem EZ {ops:List Oper} {M':List (List Bool)} {m:Nat} (Ql:∀i o,ops[i]?=some o→∀e∈o.after,Region.binds .any e=true→e.on<i) (hm:m≤ops.length)
  (TR:∀(j:Nat) (o:Oper),(ops.take m)[j]?=some o→M'.getD j []=gP (M'.take j) o.after.toList):∀(i:Nat),i<m→∀j,(M'.getD i []).getD j false=true→j<i:=by
 intro i
 induction i using Nat.strongRecOn with
 | _ i ih =>
  intro hi j hj
  have hoi:ops[i]?=some (ops[i]'(by omega)):=NM (by omega)
  rw[TR i _ (by rw[Ob,NT hi];exact hoi)]at hj
  obtain⟨e,he,hb,hc⟩:=pn hj
  have TD:e∈(ops[i]'(by omega)).after:=by simpa using he
  have hei:=Ql i _ hoi e TD hb
  rcases hc with rfl | hc
  ·exact hei
  ·have e2:(M'.take i).getD e.on []=M'.getD e.on []:=by
    unfold List.getD;rw[Ob,NT hei]
   rw[e2]at hc
   have:=ih e.on hei (by omega) j hc
   omega
theorem tU {id:Nat} {x:Fz}:∀{env:List (Nat×D)} {t:Nat} {d:D},(t,d)∈env→(t,cu id x d)∈ic id x env
 | (s,e)::r,t,d,h=>by
  rcases OB.1 h with h | h
  ·cases h;exact Oi ..
  ·exact Oe _ (tU h)
theorem aU.addAt {S:Nat→Prop} {μ:Nat→Value} {st:St} {a:Act} {w:World} (h:aU C S μ st a w) {id:Nat} (hd:st.heap[id]?=some .dead) (hf:bv id st.env=true) (hh:aY id st.heap=true) {B:ak} {u:Value} (VM:B.isOwn=true) {μ1:Nat→Value} (G':aG S μ1 w u B)
  (Qv:∀b,bu u b→C.W.heap.size≤b∧¬S b∧∀(i:Nat) (A:ak),st.heap[i]?=some A→A.live=true→¬bu (μ i) b):aU C S (aO μ id u) ⟨st.env,st.heap.set id B⟩ a w:=by
 have Qw:∀i,i≠id→aO μ id u i=μ i:=fun i hi=>aA _ _ hi
 have Ql:id<st.heap.length:=(NL.1 hd).1
 have Q4:∀(i:Nat) (A:ak),(st.heap.set id B)[i]?=some A→(i≠id∧st.heap[i]?=some A)∨(i=id∧A=B):=by
  intro i A hA
  by_cases hi:i=id
  ·subst hi
   rw[N0 Ql]at hA
   exact .inr ⟨rfl,by cases hA;rfl⟩
  ·rw[NZ (PN hi)]at hA
   exact .inl ⟨hi,hA⟩
 refine⟨h.os,h.tape,h.output,h.size,h.old,h.mono,h.new,h.slt,?_,⟨?_,?_,?_⟩,?_,?_,h.tsize,?_⟩
 ·intro t d hm
  obtain⟨q1,q2⟩:=h.env t d hm
  exact⟨q1,q2.stable (fun _ h _=>h) (fun _ _ _=>rfl) (NN _) (fun id Qh=>aA _ _ (fun e=>by rw[e,bR hf hm]at Qh;cases Qh))⟩
 ·intro i A hA
  rcases Q4 i A hA with ⟨hi,hA⟩ | ⟨rfl,rfl⟩
  ·rw[Qw i hi]
   exact(h.heap.box i A hA).stable (fun _ h _=>h) (fun _ _ _=>rfl) (NN _) (fun id Qh=>aA _ _ (fun e=>by rw[e,bS hh hA]at Qh;cases Qh)) (fun _ _=>rfl)
  ·rw[ar]
   exact G'.arrMu VM
 ·intro i j A A' b hA QQ la UO hb QJ
  have g1:=Q4 i A hA
  have g2:=Q4 j A' QQ
  clear hA QQ
  rcases g1 with ⟨hi,hA⟩ | ⟨ei,eA⟩<;>rcases g2 with ⟨hj,QQ⟩ | ⟨ej,eA'⟩
  ·rw[Qw i hi]at hb;rw[Qw j hj]at QJ
   exact h.heap.apart i j A A' b hA QQ la UO hb QJ
  ·rw[Qw i hi]at hb;rw[ej,ar]at QJ
   exact((Qv b QJ).2.2 i A hA la hb).elim
  ·rw[Qw j hj]at QJ;rw[ei,ar]at hb
   exact((Qv b hb).2.2 j A' QQ UO QJ).elim
  ·rw[ei,ej]
 ·intro i A b hA la hb
  rcases Q4 i A hA with ⟨hi,hA⟩ | ⟨rfl,rfl⟩
  ·rw[Qw i hi]at hb
   exact h.heap.notS i A b hA la hb
  ·rw[ar]at hb
   exact(Qv b hb).2.1
 ·intro i A b hA la hb
  rcases Q4 i A hA with ⟨hi,hA⟩ | ⟨rfl,rfl⟩
  ·rw[Qw i hi]at hb
   exact h.may i A b hA la hb
  ·rw[ar]at hb
   exact(Qv b hb).1
 ·obtain⟨mk,e1,e2,e3⟩:=h.defers
  refine⟨mk,e1,e2,fun b hb=>?_⟩
  obtain⟨g1,g2,g3,g4⟩:=e3 b hb
  refine⟨g1,g2,g3,fun i A hA la RF=>?_⟩
  rcases Q4 i A hA with ⟨hi,hA⟩ | ⟨rfl,rfl⟩
  ·rw[Qw i hi]at RF
   exact g4 i A hA la RF
  ·rw[ar]at RF
   obtain⟨cs,T,x,hh2⟩:=G'.ownBlk VM RF
   rw[hh2]at g1
   simp at g1
 ·intro i A b hA la hb
  rcases Q4 i A hA with ⟨hi,hA⟩ | ⟨rfl,rfl⟩
  ·rw[Qw i hi]at hb
   exact h.ro i A b hA la hb
  ·cases A<;>first | (cases VM;done) | cases la
theorem aU.alias {S:Nat→Prop} {μ:Nat→Value} {st:St} {a:Act} {w:World} (h:aU C S μ st a w) {q p:Nat} {A:ak} (hq:st.heap[q]?=some A) (hA:A.isArr=true) (hp:st.heap[p]?=some .dead) (hf:bv p st.env=true) (hh:aY p st.heap=true) :
  aU C S (aO μ p (μ q)) ⟨st.env,(st.heap.set q .dead).set p A⟩ a w:=by
 have hl:A.live=true:=by cases A<;>first | rfl | cases hA
 have hqp:q≠p:=fun e=>by subst e;rw[hq]at hp;cases hp;cases hl
 have hqL:q<st.heap.length:=(NL.1 hq).1
 have hpL:p<st.heap.length:=(NL.1 hp).1
 have h1:aU C S μ ⟨st.env,st.heap.set q .dead⟩ a w:=h.heapTo (fun i B hB=>by
  by_cases e:i=q
  ·subst e;rw[N0 hqL]at hB;cases hB;exact .inl rfl
  ·rw[NZ (PN e)]at hB;exact .inr hB)
 have Tl:(st.heap.set q .dead)[p]?=some .dead:=by rw[NZ hqp];exact hp
 have hh1:aY p (st.heap.set q .dead)=true:=pu (fun i B hB=>by
  by_cases e:i=q
  ·subst e;rw[N0 hqL]at hB;cases hB;rfl
  ·rw[NZ (PN e)]at hB;exact bS hh hB)
 refine h1.addAt Tl hf hh1 (ak.isOwn_arr hA) (h.heap.box q A hq) (fun b hb=>⟨h.may q A b hq hl hb,h.heap.notS q A b hq hl hb,fun i B hB lB RF=>?_⟩)
 have QL:(st.heap.set q .dead)[i]?=some B:=hB
 by_cases e:i=q
 ·subst e;rw[N0 hqL]at QL;cases QL;cases lB
 ·rw[NZ (PN e)]at QL
  exact e (h.heap.apart i q B A b QL hq lB hl RF hb)
theorem B5 {ops:List Oper} {st:St} {Q:Exit→St→Prop} (Qs:List (Nat×Ov)) (m:Nat) (Rn:Nat→Bool) {M':List (List Bool)} {ks:List Mk} (Uk:m≤ops.length)
  (QG:M'.length=(ops.take m).length) (RA:ks.length=(ops.take m).length)
  (UP:∀(j:Nat) (o:Oper),(ops.take m)[j]?=some o→(M'.getD j [])=gP (M'.take j) o.after.toList ∧
    ((fK ops (dG (ops.take m) st (ks.take j) (M'.getD j [])) o=some true∧∃k p,tQ C.P (dG (ops.take m) st (ks.take j) (M'.getD j [])).heap (dW (dG (ops.take m) st (ks.take j) (M'.getD j [])).env) (ld Qs j) o.op=(k,p)∧p∧ks[j]?=some k) ∨
     (fK ops (dG (ops.take m) st (ks.take j) (M'.getD j [])) o=some false∧ks[j]?=some (lk (.tup []) .dead))))
  (UC:Iu ops.toArray tS ⟨Array.replicate C.nt undef,[]⟩=true) (U0:mu C.nt (ops.take m)=true) (U1:vY (ops.take m)=true) (TS:ops.all (fun o=>!cH o)=true)
  (RK:jn st st.heap.length 0 M' ks M' ks=true) (QP:jQ st.heap.length M' ks=true) (To:C.P.follows .mixedOrders=true)
  (htailL:∀i,m≤i→i<ops.length→∀j,j<m→Rn j=false→cF ops.toArray i j=true)
  (V9:∀(C':Array Bool) (S:Nat→Prop) (μ:Nat→Value) (a':Act) (w:World),C'.size=ops.length →
    (∀i o,C'.getD i false=true→ops[i]?=some o→∀e∈o.after,Region.binds .any e=true→C'.getD e.on false=true)→aU C S μ (dG (ops.take m) st ks ((List.range m).map fun j=>C'.getD j false)) a' w →
    (∀j,j<m→Rn j=false→C'.getD j false=true)→(∀i,m≤i→C'.getD i false=false) →
    wpAnyIn (kL C.rd) 0 C.P .any ops.toArray (fun e a' w'=>∃J' S' μ',Q e J'∧aU C S' μ' J' a' w') (yc C' m+(ops.length-m)) C' a' w) :
  ∀(a:Act) (w:World) (S:Nat→Prop) (μ:Nat→Value),aU C S μ st a w→wpAnyIn (kL C.rd) 0 C.P .any ops.toArray (fun e a' w'=>∃J' S' μ',Q e J'∧aU C S' μ' J' a' w') ops.toArray.size (Array.replicate ops.toArray.size false) a w.drew:=fun a w S μ hR=>by
 have hnd:BD ops.toArray:=fun i o ho=>by
  rw[Oa]at TS
  have:=TS o (Oh (by simpa using ho))
  simpa using this
 have hml:(ops.take m).length=m:=by rw[N3];omega
 rw[hml]at QG RA
 have Rd:GU ops.toArray tS a:=yf (yG UC (by simp[hR.tsize]) rfl rfl)
 have Tp:∀(k:Nat) (o:Oper),k<m→ops[k]?=some o→(ops.take m)[k]?=some o:=fun k o hk ho=>by rw[Ob,NT hk];exact ho
 have Qk:ops.toArray.size=ops.length:=by simp
 have hdsts:∀(k:Nat) (o:Oper),k<m→ops[k]?=some o→(∃t,o.dst=some t∧t<C.nt∧jN o.op=false)∨(o.dst=none∧jN o.op=true):=by
  have key:∀(l:List Oper),mu C.nt l=true→∀(k:Nat) (o:Oper),l[k]?=some o→(∃t,o.dst=some t∧t<C.nt∧jN o.op=false)∨(o.dst=none∧jN o.op=true):=by
   intro l
   induction l with
   | nil=>intro _ k o ho;simp at ho
   | cons x r ih =>
    intro hd k o ho
    unfold mu at hd
    simp only[NK]at hd
    cases k with
    | zero =>
     simp at ho;subst ho
     have h1:=hd.1
     split at h1
     ·rename_i t ht;simp only[NK,Oc]at h1;exact .inl ⟨t,ht,by simpa using h1.1,h1.2⟩
     ·rename_i ht;exact .inr ⟨ht,h1⟩
    | succ k=>exact ih hd.2 k o (by simpa using ho)
  exact fun k o hk ho=>key _ U0 k o (Tp k o hk ho)
 let Qu:Array Bool→List Bool:=fun C'=>(List.range m).map fun j=>C'.getD j false
 have main:∀(fuel:Nat) (C':Array Bool) (env:Nat→Value) (S:Nat→Prop) (μ:Nat→Value) (a':Act) (w:World),kN ops.toArray a C' env a'→aU C S μ (dG (ops.take m) st ks (Qu C')) a' w→yc C' m=fuel→(∀i,m≤i→C'.getD i false=false) →
   wpAnyIn (kL C.rd) 0 C.P .any ops.toArray (fun e a' w'=>∃J' S' μ',Q e J'∧aU C S' μ' J' a' w') (fuel+(ops.toArray.size-m)) C' a' w:=by
  intro fuel
  induction fuel with
  | zero =>
   intro C' env S μ a' w hF hRL hu RZ
   have hj:=V9 C' S μ a' w (by rw[hF.lsize];exact Qk) (fun i o hl ho e he hb=>hF.closed i o hl (by simpa using ho) e he hb) hRL (fun j hj _=>yh C' m hu j hj) RZ
   rw[hu]at hj
   rw[Qk]
   exact hj
  | succ fuel ih =>
   intro C' env S μ a' w hF hRL hu RZ
   by_cases hnlate:∀j,j<m→Rn j=false→C'.getD j false=true
   ·rw[show fuel+1=yc C' m from hu.symm,Qk]
    exact V9 C' S μ a' w (by rw[hF.lsize];exact Qk) (fun i o hl ho e he hb=>hF.closed i o hl (by simpa using ho) e he hb) hRL hnlate RZ
   obtain⟨k0,hk01,hk0l,hk02⟩:∃k,k<m∧Rn k=false∧C'.getD k false=false:=by
    refine Classical.byContradiction fun hn=>hnlate fun j hj hl=>?_
    cases h:C'.getD j false
    ·exact(hn ⟨j,hj,hl,h⟩).elim
    ·rfl
   have Ul:∃k,k<m∧C'.getD k false=false:=⟨k0,hk01,hk02⟩
   rw[show fuel+1+(ops.toArray.size-m)=(fuel+(ops.toArray.size-m))+1 from by omega]
   refine⟨fun Sb=>?_,fun i hi=>?_⟩
   ·obtain⟨k,TE,Sp⟩:=Ul
    have:=qs Rd C' hF.lsize Sb k (by omega)
    rw[Sp]at this
    cases this
   obtain⟨Re,o,ho,hr⟩:=(bQ C' hF.lsize i).1 hi
   have Ql:i<ops.toArray.size:=(NV.1 ho).1
   have UD:i<C'.size:=by rw[hF.lsize];exact Ql
   have UE:i<m:=by
    refine OX fun hn=>?_
    have:=f4 hF.closed 12 i k0 (fun o' Rq=>by rw[ho]at Rq;cases Rq;exact hr) (htailL i (by omega) (by rw[← Qk];exact Ql) k0 hk01 hk0l)
    rw[hk02]at this
    cases this
   have hu':yc (C'.setIfInBounds i true) m=fuel:=by
    have:=BA C' i UD Re m
    rw[NT UE]at this
    omega
   have hno':∀k,m≤k→(C'.setIfInBounds i true).getD k false=false:=fun k hk=>by
    rw[aV _ _ _ UD,NQ (by omega)]
    exact RZ k hk
   have Rq:ops[i]?=some o:=by simpa using ho
   obtain⟨han,Um⟩:=UP i o (Tp i o UE Rq)
   have TR:∀j,(M'.getD i []).getD j false=true→C'.getD j false=true :=
    oD (ops:=ops) (fun i o hl ho e he hb=>hF.closed i o hl (by simpa using ho) e he hb) (fun i o ho e he hb=>Rd.top i o (by simpa using ho) e he hb) Uk (fun j o ho=>(UP j o ho).1) QG i o UE Rq hr
   have hgi:(Qu C').getD i false=false:=by rw[cI C' m i UE];exact Re
   have hltE:∀i o,ops[i]?=some o→∀e∈o.after,Region.binds .any e=true→e.on<i:=fun i o ho e he hb=>Rd.top i o (by simpa using ho) e he hb
   have Ta:∀(j:Nat) (o:Oper),(ops.take m)[j]?=some o→M'.getD j []=gP (M'.take j) o.after.toList:=fun j o ho=>(UP j o ho).1
   have U2:∀(p:Nat),C'.getD p false=true→p<m→∀j,(M'.getD p []).getD j false=true→C'.getD j false=true:=fun p hp TU j hj =>
    oD (ops:=ops) (M':=M') (m:=m) (ls:=C') (fun i o hl ho e he hb=>hF.closed i o hl (by simpa using ho) e he hb) hltE Uk Ta QG p _ TU (NM (by omega))
     (hF.closed p _ hp (by simp)) j hj
   have hthere:∀(q:Nat),q<m→(M'.getD i []).getD q false=true→i5 (st.heap.length+q) (ks.take i) (M'.getD i [])=false→i5 (st.heap.length+q) ks (Qu C')=false:=by
    intro q hqm hanq V'
    cases hd:i5 (st.heap.length+q) ks (Qu C')
    ·rfl
    obtain⟨p,kp,p1,p2,p3⟩:=po hd
    have TU:p<m:=by have:=(NL.1 p1).1;omega
    rw[cI C' m p TU]at p2
    obtain⟨_,_,k3⟩:=im QP p1 (Jc p3)
    have hip:i≠p:=fun e=>by rw[← e,Re]at p2;cases p2
    rcases k3 i (by omega) hip (by rw[PO];exact hanq)with k4 | k4
    ·have hpi:=EZ hltE Uk Ta i UE p k4
     rw[sM (ks:=ks.take i) (bs:=M'.getD i []) (p:=p) (k:=kp) (by rw[Ob,NT hpi];exact p1) k4 p3]at V'
     cases V'
    ·have:=U2 p p2 TU i k4
     rw[Re]at this;cases this
   have hfillv:∀(q:Nat),q<m→(M'.getD i []).getD q false=true→jl (st.heap.length+q) (ks.take i) (M'.getD i [])=jl (st.heap.length+q) ks (Qu C'):=by
    intro q hqm hanq
    cases hv:jl (st.heap.length+q) (ks.take i) (M'.getD i [])with
    | none =>
     cases ha:jl (st.heap.length+q) ks (Qu C')with
     | none=>rfl
     | some B =>
      exfalso
      obtain⟨p,kp,p1,p2,p3,_⟩:=fL ha
      rw[OA]at p2
      have TU:p<m:=by have:=(NL.1 p1).1;omega
      rw[cI C' m p TU]at p2
      obtain⟨_,_,k3⟩:=im QP p1 (tO p3)
      have hip:i≠p:=fun e=>by rw[← e,Re]at p2;cases p2
      rcases k3 i (by omega) hip (by rw[PO];exact hanq)with k4 | k4
      ·have hpi:=EZ hltE Uk Ta i UE p k4
       exact jO hv p kp (by rw[Ob,NT hpi];exact p1) (by rw[OA];exact k4) p3
      ·have:=U2 p p2 TU i k4
       rw[Re]at this;cases this
    | some B =>
     obtain⟨p,kp,p1,p2,p3,p4⟩:=fL hv
     rw[OA]at p2
     have hpi:p<i:=by have:=(NL.1 p1).1;rw[N3]at this;omega
     rw[Ob,NT hpi]at p1
     have hlp:(Qu C').getD p false=true:=by rw[cI C' m p (by omega)];exact TR p p2
     cases ha:jl (st.heap.length+q) ks (Qu C')with
     | none=>exact(jO ha p kp p1 (by rw[OA];exact hlp) p3).elim
     | some B' =>
      obtain⟨p',kp',r1,r2,r3,r4⟩:=fL ha
      have e:=tT QP p1 r1 (tO p3) (tO r3)
      subst e
      rw[p1]at r1
      cases r1
      rw[p4,r4]
   let sti:=dG (ops.take m) st (ks.take i) (M'.getD i [])
   have U3:∀(j:Nat) (B:ak),sti.heap[j]?=some B→B=.dead∨(dG (ops.take m) st ks (Qu C')).heap[j]?=some B:=by
     intro j B hB
     show B=.dead∨(st.heap++de st.heap.length ks (Qu C'))[j]?=some B
     have QL:(st.heap++de st.heap.length (ks.take i) (M'.getD i []))[j]?=some B:=hB
     by_cases hj:j<st.heap.length
     ·rw[NU hj]at QL ⊢;exact .inr QL
     ·rw[NX (by omega)]at QL ⊢
      generalize hjj:j-st.heap.length=q at QL ⊢
      have Ry:q<(ks.take i).length:=by
       have:=(NL.1 QL).1
       rwa [di]at this
      have Tq:(ks.take i)[q]?=some ((ks.take i)[q]):=NM Ry
      have hqi:q<i:=by rw[N3]at Ry;omega
      have hkq2:ks[q]?=some ((ks.take i)[q]):=by rw[← Tq,Ob,NT hqi]
      rcases jP Tq QL with h0 | ⟨g1,g2,g3,g4⟩
      ·exact .inl h0
      ·refine .inr (tR hkq2 (by rw[cI C' m q (by omega)];exact TR q g1) (hthere q (by omega) g1 g2) g3 ?_)
       rw[hfillv q (by omega) g1]at g4
       exact g4
   have VA:aU C S μ sti a' w:=by
    have h1:=hRL.weak (env:=sti.env) (fun s d hm=>.inr ?_)
    ·exact h1.heapTo U3
    ·rcases OZ.1 hm with hm | hm
     ·exact OS _ hm
     ·obtain⟨j,oj,kj,q1,q2,q3,q4,rfl⟩:=fM hm
      have Q0:j<i:=by
       have:=(NL.1 q2).1
       rw[N3]at this;omega
      refine OK _ (mr j q1 (by rw[← q2,Ob,NT Q0]) ?_ q4)
      rw[cI C' m j (by omega)]
      exact TR j q3
   have hlenk:(de st.heap.length (ks.take i) (M'.getD i [])).length=i:=by rw[di,N3];omega
   have hsl:sti.heap.length=st.heap.length+i:=by
    show(st.heap++_).length=_
    rw[NY,hlenk]
   have VN:∀j,(Qu (C'.setIfInBounds i true)).getD j false=(if j=i then true else (Qu C').getD j false):=by
    intro j
    by_cases hj:j<m
    ·rw[cI _ m j hj,cI _ m j hj,aV _ _ _ UD]
    ·rw[qK _ m j (by omega),qK _ m j (by omega),NQ (by omega)]
   have RC:∃k,ks[i]?=some k:=⟨_,NM (by omega)⟩
   obtain⟨ki,RC⟩:=RC
   have Wa:∀(q:Nat),i5 (st.heap.length+q) ks (Qu (C'.setIfInBounds i true))=false→i5 (st.heap.length+q) ks (Qu C')=false:=by
    intro q hq
    cases hd:i5 (st.heap.length+q) ks (Qu C')
    ·rfl
    ·obtain⟨p,kp,p1,p2,p3⟩:=po hd
     have:=sM (bs:=Qu (C'.setIfInBounds i true)) p1 (by rw[VN];split;rfl;exact p2) p3
     rw[this]at hq;cases hq
   have U4:∀(q:Nat),ki.fil≠some (st.heap.length+q)→jl (st.heap.length+q) ks (Qu C')=jl (st.heap.length+q) ks (Qu (C'.setIfInBounds i true)):=by
    intro q hq
    refine rL (fun p kp p1 p2=>?_)
    rw[OA,VN,NQ]
    rintro rfl
    rw[RC]at p1
    cases p1
    exact hq p2
   have Qv:ki.fil=none→∀(q:Nat) (B:ak),(de st.heap.length ks (Qu (C'.setIfInBounds i true)))[q]?=some B→B=.dead∨(q=i∧B=ki.b)∨(q≠i∧(de st.heap.length ks (Qu C'))[q]?=some B∧i5 (st.heap.length+q) ks (Qu (C'.setIfInBounds i true))=false):=by
    intro TF q B hB
    have Ry:q<ks.length:=by
     have:=(NL.1 hB).1
     rwa [di]at this
    have Tq:ks[q]?=some ks[q]:=NM Ry
    rcases jP Tq hB with h0 | ⟨g1,g2,g3,g4⟩
    ·exact .inl h0
    by_cases e:q=i
    ·subst e
     rw[RC]at Tq
     rcases g4 with ⟨_,g5⟩ | g5
     ·refine .inr (.inl ⟨rfl,?_⟩)
      rw[g5]
      simp only[NW]at Tq
      rw[← Tq]
     ·exfalso
      obtain⟨p,kp,p1,p2,p3,_⟩:=fL g5
      rw[OA,VN]at p2
      obtain⟨_,k2,_⟩:=im QP p1 (tO p3)
      rw[PO]at k2
      by_cases Ro:p=q
      ·subst Ro
       rw[RC]at p1
       cases p1
       rw[TF]at p3;cases p3
      ·rw[NQ Ro]at p2
       have TU:p<m:=by have:=(NL.1 p1).1;omega
       rw[cI C' m p TU]at p2
       have:=U2 p p2 TU q k2
       rw[Re]at this;cases this
    ·refine .inr (.inr ⟨e,tR Tq ?_ (Wa q g2) g3 ?_,g2⟩)
     ·have e2:=VN q
      rw[NQ e]at e2
      rw[← e2];exact g1
     ·rw[U4 q (by rw[TF];simp)];exact g4
   have U5:∀(t:Nat),o.dst=some t→∀(S':Nat→Prop) (μ':Nat→Value) (u:Value) (w':World) (Sq:List (Nat×D)) (H':List ak),aU C S' μ' ⟨Sq,H'⟩ (a'.put o.dst u) w'→(∀s d,(s,d)∈(dG (ops.take m) st ks (Qu C')).env→s≠t→(s,d)∈Sq)→(t,ki.d)∈Sq →
     (∀(j:Nat) (B:ak),(dG (ops.take m) st ks (Qu (C'.setIfInBounds i true))).heap[j]?=some B→B=.dead∨H'[j]?=some B)→aU C S' μ' (dG (ops.take m) st ks (Qu (C'.setIfInBounds i true))) (a'.put o.dst u) w':=by
    intro t Un S' μ' u w' Sq H' QZ he1 he2 hH
    have h2:=QZ.weak (env:=(dG (ops.take m) st ks (Qu (C'.setIfInBounds i true))).env) (fun s d hm=>.inr ?_)
    ·exact h2.heapTo hH
    ·rcases OZ.1 hm with hm | hm
     ·refine he1 s d (OS _ hm) ?_
      rintro rfl
      exact(jm hm).2 o (Oh (Tp i o UE Rq)) Un
     ·obtain⟨j,oj,kj,q1,q2,q3,q4,rfl⟩:=fM hm
      by_cases hj:j=i
      ·subst hj
       rw[RC]at q2;cases q2
       rw[Tp j o UE Rq]at q1;cases q1
       rw[Un]at q4;cases q4
       exact he2
      ·rw[VN,NQ hj]at q3
       refine he1 s kj.d (OK _ (mr j q1 q2 q3 q4)) ?_
       rintro rfl
       exact hj (v4 U1 j i oj o s q1 (Tp i o UE Rq) q4 Un)
   have Wb:(dG (ops.take m) st ks (Qu C')).heap.length=st.heap.length+ks.length:=by
    show(st.heap++de st.heap.length ks (Qu C')).length=_
    rw[NY,di]
   have UF:i<ks.length:=(NL.1 RC).1
   have VO:∀(t:Nat),o.dst=some t→t<C.nt→ki.fil=none→∀(S':Nat→Prop) (μ':Nat→Value) (u:Value) (w':World) (H':List ak),aU C S' μ' ⟨(dG (ops.take m) st ks (Qu C')).env,H'⟩ a' w'→H'=(dG (ops.take m) st ks (Qu C')).heap.set (st.heap.length+i) ki.b→ai S' μ' w' ki.d u→aU C S' μ' (dG (ops.take m) st ks (Qu (C'.setIfInBounds i true))) (a'.put o.dst u) w':=by
    intro t Un htn TF S' μ' u w' H' QZ hH' hd
    subst hH'
    have h1:=QZ.put htn hd
    rw[← Un]at h1
    refine U5 t Un S' μ' u w' _ _ h1 (fun s d hm hs=>Oe _ (jo hm hs)) (Oi ..) (fun j B hB=>?_)
    show B=.dead∨((dG (ops.take m) st ks (Qu C')).heap.set (st.heap.length+i) ki.b)[j]?=some B
    have QL:(st.heap++de st.heap.length ks (Qu (C'.setIfInBounds i true)))[j]?=some B:=hB
    by_cases hj2:j<st.heap.length
    ·rw[NU hj2]at QL
     rw[NZ (by omega)]
     refine .inr ?_
     show(st.heap++de st.heap.length ks (Qu C'))[j]?=some B
     rw[NU hj2];exact QL
    ·rw[NX (by omega)]at QL
     rcases Qv TF _ B QL with h1 | ⟨h1,rfl⟩ | ⟨h1,h2,_⟩
     ·exact .inl h1
     ·rw[show j=st.heap.length+i by omega,N0 (by rw[Wb];omega)]
      exact .inr rfl
     ·rw[NZ (by omega)]
      refine .inr ?_
      show(st.heap++de st.heap.length ks (Qu C'))[j]?=some B
      rw[NX (by omega)];exact h2
   have RO:(dG (ops.take m) st ks (Qu C')).heap[st.heap.length+i]?=some .dead:=by
    show(st.heap++de st.heap.length ks (Qu C'))[st.heap.length+i]?=some .dead
    rw[NX (by omega),PO,mt _ _ _ _ _ RC,NQ (by rw[hgi];simp)]
   have next:∀(S':Nat→Prop) (μ':Nat→Value) (u:Value) (w':World),aU C S' μ' (dG (ops.take m) st ks (Qu (C'.setIfInBounds i true))) (a'.put o.dst u) w' →
     wpAnyIn (kL C.rd) 0 C.P .any ops.toArray (fun e a' w'=>∃J' S' μ',Q e J'∧aU C S' μ' J' a' w') (fuel+(ops.toArray.size-m)) (C'.setIfInBounds i true) (a'.put o.dst u) w' :=
    fun S' μ' u w' QZ=>ih _ _ S' μ' _ w' (hF.step Rd ho Re hr u) QZ hu' hno'
   have Wc:∀(S':Nat→Prop) (μ':Nat→Value) (w':World) (H':List ak),o.dst=none→aU C S' μ' ⟨(dG (ops.take m) st ks (Qu C')).env,H'⟩ a' w' →
     (∀(j:Nat) (B:ak),(dG (ops.take m) st ks (Qu (C'.setIfInBounds i true))).heap[j]?=some B→B=.dead∨H'[j]?=some B)→aU C S' μ' (dG (ops.take m) st ks (Qu (C'.setIfInBounds i true))) a' w':=by
    intro S' μ' w' H' hdn QZ hH
    have h2:=QZ.weak (env:=(dG (ops.take m) st ks (Qu (C'.setIfInBounds i true))).env) (fun s d hm=>.inr ?_)
    ·exact h2.heapTo hH
    ·rcases OZ.1 hm with hm | hm
     ·exact OS _ hm
     ·obtain⟨j,oj,kj,q1,q2,q3,q4,rfl⟩:=fM hm
      by_cases hj:j=i
      ·subst hj
       rw[Tp j o UE Rq]at q1;cases q1
       rw[hdn]at q4;cases q4
      ·rw[VN,NQ hj]at q3
       exact OK _ (mr j q1 q2 q3 q4)
   unfold wpOpIn
   simp only[ho]
   rcases hdsts i o UE Rq with ⟨t,Un,htn,hns⟩ | ⟨hdn,QU⟩
   rotate_left
   ·-- a store that fills
    have U6:∀(S':Nat→Prop) (μ':Nat→Value) (w':World),aU C S' μ' (dG (ops.take m) st ks (Qu (C'.setIfInBounds i true))) a' w' →
      wpAnyIn (kL C.rd) 0 C.P .any ops.toArray (fun e a' w'=>∃J' S' μ',Q e J'∧aU C S' μ' J' a' w') (fuel+(ops.toArray.size-m)) (C'.setIfInBounds i true) a' w':=by
     intro S' μ' w' QZ
     have Q2:a'.put o.dst undef=a':=by rw[hdn];rfl
     have h1:=next S' μ' undef w' (by rw[Q2];exact QZ)
     rw[Q2]at h1
     exact h1
    have hsame:ki.fil=none→ki.b=.dead→∀(j:Nat) (B:ak),(dG (ops.take m) st ks (Qu (C'.setIfInBounds i true))).heap[j]?=some B→B=.dead∨(dG (ops.take m) st ks (Qu C')).heap[j]?=some B:=by
     intro TF hbd j B hB
     have QL:(st.heap++de st.heap.length ks (Qu (C'.setIfInBounds i true)))[j]?=some B:=hB
     show B=.dead∨(st.heap++de st.heap.length ks (Qu C'))[j]?=some B
     by_cases hj2:j<st.heap.length
     ·rw[NU hj2]at QL ⊢;exact .inr QL
     ·rw[NX (by omega)]at QL ⊢
      rcases Qv TF _ B QL with h1 | ⟨_,h1⟩ | ⟨_,h2,_⟩
      ·exact .inl h1
      ·rw[hbd]at h1;exact .inl h1
      ·exact .inr h2
    rcases Um with ⟨hg,k,p,hq,hp,hk⟩ | ⟨hg,hk⟩
    ·rw[RC]at hk
     cases hk
     rw[NT (by rw[b5 VA hg])]
     cases TG:o.op<;>rw[TG]at QU<;>try (cases QU)
     rename_i ty ad x
     rw[TG]at hq
     obtain⟨id,T,cs,UV,f1,f2,f3⟩:=AE hq hp
     have f1':(dG (ops.take m) st ks (Qu C')).heap[id]?=some (.var T cs):=(U3 id _ f1).resolve_left (by simp)
     obtain⟨w',h1,h2⟩:=pj hRL (VA.eval ad) (VA.eval x) (f3 _ f1') trivial
     have hr:(execOp a'.eval o).run C.P w=.ok .skip w':=by
      simp only[execOp,TG,NP,h1,NO,N6]
     have Wd:ki.b=.var T UV:=by rw[f2]
     have RA:ki.kl=some id:=by rw[f2]
     have hkf:ki.fil=some id:=by unfold Mk.fil;rw[Wd];exact RA
     obtain⟨k1,k2,_⟩:=im QP RC RA
     refine KF hnd ho ?_
     rw[hr,Oper.uponIn_skip,hdn]
     refine U6 S μ w' (Wc S μ w' _ hdn h2 (fun j B hB=>?_))
     have QL:(st.heap++de st.heap.length ks (Qu (C'.setIfInBounds i true)))[j]?=some B:=hB
     have hidl:id<(dG (ops.take m) st ks (Qu C')).heap.length:=(NL.1 f1').1
     by_cases hj2:j<st.heap.length
     ·rw[NU hj2]at QL
      rw[NZ (by omega)]
      refine .inr ?_
      show(st.heap++de st.heap.length ks (Qu C'))[j]?=some B
      rw[NU hj2];exact QL
     ·rw[NX (by omega)]at QL
      generalize hjq:j-st.heap.length=q at QL
      have We:j=st.heap.length+q:=by omega
      have Ry:q<ks.length:=by
       have:=(NL.1 QL).1
       rwa [di]at this
      have Tq:ks[q]?=some ks[q]:=NM Ry
      rcases jP Tq QL with h0 | ⟨g1,g2,g3,g4⟩
      ·exact .inl h0
      have hqi:q≠i:=fun e=>by
       subst e
       rw[RC]at Tq
       simp only[NW]at Tq
       rw[← Tq,hkf]at g3;cases g3
      by_cases e:j=id
      ·refine .inr ?_
       rw[e,N0 hidl]
       have hfi:jl (st.heap.length+q) ks (Qu (C'.setIfInBounds i true))=some B→B=ki.b:=fun g5=>by
        obtain⟨p',kp,p1,p2,p3,p4⟩:=fL g5
        have e3:=tT QP p1 RC (tO p3) (by rw[RA,← e,We])
        subst e3
        rw[RC]at p1
        cases p1
        exact p4
       rcases g4 with ⟨g5,_⟩ | g5
       ·exact(jO g5 i ki RC (by rw[OA,VN,NT rfl]) (by rw[hkf,← e,We])).elim
       ·rw[hfi g5,Wd]
      ·rw[NZ (PN e)]
       refine .inr ?_
       show(st.heap++de st.heap.length ks (Qu C'))[j]?=some B
       rw[NX (by omega),hjq]
       refine tR Tq ?_ (Wa q g2) g3 ?_
       ·have e2:=VN q
        rw[NQ hqi]at e2
        rw[← e2];exact g1
       ·rw[U4 q (by rw[hkf,← We];intro h;cases h;exact e rfl)];exact g4
    ·rw[RC]at hk
     cases hk
     rw[NQ (by rw[b5 VA hg];simp)]
     have h9:=U6 S μ w (Wc S μ w _ hdn hRL (hsame rfl rfl))
     refine⟨fun f _=>oe C.rd f,?_⟩
     rw[hdn]
     exact h9
   rcases Um with ⟨hg,k,p,hq,hp,hk⟩ | ⟨hg,hk⟩
   ·rw[RC]at hk
    cases hk
    rw[NT (by rw[b5 VA hg])]
    have VP:ki.b.live=true∨ki.kl.isSome=true→bv (st.heap.length+i) (dG (ops.take m) st ks (Qu C')).env=true∧aY (st.heap.length+i) (dG (ops.take m) st ks (Qu C')).heap=true:=by
     intro Q5
     obtain⟨f1,f2,f3⟩:=v3 RK i _ ki (NM (show i<M'.length by omega)) RC Q5
     rw[OA]at f1 f2 f3
     have RN:∀(j:Nat) (k:Mk),ks[j]?=some k→(Qu C').getD j false=true→D.free (st.heap.length+i) k.d=true∧ak.free (st.heap.length+i) k.b=true:=by
      intro j k Wg hlj
      have hjm:j<m:=by have:=(NL.1 Wg).1;omega
      rw[cI C' m j hjm]at hlj
      rcases vZ f3 j _ k (NM (show j<M'.length by omega)) Wg with h1 | h1 | h1
      ·rw[OA]at h1;subst h1;rw[Re]at hlj;cases hlj
      ·exfalso
       have Wh:ops[j]?=some (ops[j]'(by omega)):=NM (by omega)
       have:=oD (ops:=ops) (M':=M') (m:=m) (ls:=C') (fun i o hl ho e he hb=>hF.closed i o hl (by simpa using ho) e he hb) (fun i o ho e he hb=>Rd.top i o (by simpa using ho) e he hb) Uk (fun j o ho=>(UP j o ho).1) QG j _ hjm Wh
        (hF.closed j _ hlj (by simp)) i (by
         have e:M'.getD j []=M'[j]'(by omega):=by simp[List.getD,NM (show j<M'.length by omega)]
         rw[e];exact h1)
       rw[Re]at this;cases this
      ·exact h1
     refine⟨yM (fun s d hm=>?_),pu (fun j B hB=>?_)⟩
     ·rcases OZ.1 hm with hm | hm
      ·exact bR f1 (jm hm).1
      ·obtain⟨j,oj,kj,q1,q2,q3,q4,rfl⟩:=fM hm
       exact(RN j kj q2 q3).1
     ·have QL:(st.heap++de st.heap.length ks (Qu C'))[j]?=some B:=hB
      by_cases hj2:j<st.heap.length
      ·rw[NU hj2]at QL;exact bS f2 QL
      ·rw[NX (by omega)]at QL
       generalize Sl:j-st.heap.length=q at QL
       have Ry:q<ks.length:=by
        have:=(NL.1 QL).1
        rwa [di]at this
       have Tq:ks[q]?=some ks[q]:=NM Ry
       rcases jP Tq QL with rfl | ⟨g1,_,_,g4⟩
       ·rfl
       ·rcases g4 with ⟨_,rfl⟩ | g5
        ·exact(RN q _ Tq g1).2
        ·obtain⟨p',kp,p1,p2,_,rfl⟩:=fL g5
         rw[OA]at p2
         exact(RN p' kp p1 p2).2
    have hkill:∀(u:Value) (w':World) (SV:Nat) (A0 B0:ak),ki.kl=some SV→sti.heap[SV]?=some A0→A0.isArr=true→B0.isArr=true→w.grownBy w' (aF (μ SV))→aG S μ w' u B0→(∀b,bu u b→aF (μ SV)=some b∨w.heap.size≤b) →
      ((ki.b=B0∧ki.d=.own sti.heap.length)∨∃(E sz:Nat) (α:Type) (enc:α→List V) (d:α) (l:List α),B0=.arr E sz enc d l∧ki.b=.dead∧ki.d=.v (.sl sz enc d l))→∃S' μ',aU C S' μ' (dG (ops.take m) st ks (Qu (C'.setIfInBounds i true))) (a'.put o.dst u) w':=by
     intro u w' SV A0 B0 RA hA0 hAa Uo Sr G' Qd hval
     obtain⟨k1,k2,_⟩:=im QP RC RA
     have TF:ki.fil=none:=G8 (by
      rcases hval with ⟨e1,_⟩ | ⟨_,_,_,_,_,_,_,e1,_⟩
      ·exact .inl (by rw[e1];exact(ak.isOwn_arr Uo))
      ·exact .inr e1)
     obtain⟨f1,f2⟩:=VP (.inr (by rw[RA];rfl))
     have TH:A0.live=true:=by cases A0<;>first | rfl | cases hAa
     have UQ:B0.live=true:=by cases B0<;>first | rfl | cases Uo
     have VQ:(dG (ops.take m) st ks (Qu C')).heap[SV]?=some A0:=by
      refine(U3 SV A0 hA0).resolve_left (fun e=>?_)
      rw[e]at TH;cases TH
     have QI:SV≠st.heap.length+i:=fun e=>by rw[e,RO]at VQ;cases VQ;cases TH
     have h1:=hRL.alias VQ hAa RO f1 f2
     have hPl:st.heap.length+i<(dG (ops.take m) st ks (Qu C')).heap.length:=by rw[Wb];omega
     have hidl:SV<(dG (ops.take m) st ks (Qu C')).heap.length:=(NL.1 VQ).1
     let H1:=((dG (ops.take m) st ks (Qu C')).heap.set SV .dead).set (st.heap.length+i) A0
     have hH1P:H1[st.heap.length+i]?=some A0:=N0 (by rw[Ok];exact hPl)
     have hH1:∀j,j≠st.heap.length+i→j≠SV→H1[j]?=(dG (ops.take m) st ks (Qu C')).heap[j]?:=fun j h1 h2=>by
      show(((dG (ops.take m) st ks (Qu C')).heap.set SV .dead).set (st.heap.length+i) A0)[j]?=_
      rw[NZ (PN h1),NZ (PN h2)]
     have hfH1:aY (st.heap.length+i) H1=true:=pu (fun j B hB=>by
      by_cases e1:j=st.heap.length+i
      ·rw[e1,hH1P]at hB;cases hB;cases A0<;>first | rfl | cases hAa
      ·by_cases e2:j=SV
       ·subst e2
        have:H1[j]?=some .dead:=by
         show(((dG (ops.take m) st ks (Qu C')).heap.set j .dead).set (st.heap.length+i) A0)[j]?=_
         rw[NZ (PN e1),N0 hidl]
        rw[this]at hB;cases hB;rfl
       ·rw[hH1 j e1 e2]at hB;exact bS f2 hB)
     have h2:=h1.upd0 (id:=st.heap.length+i) (B:=B0) (row:=aF (μ SV)) (u:=u) Sr (fun k hk=>⟨A0,hH1P,TH,by rw[ar];exact .inl hk⟩) (by show _≤H1.length;simp[H1];omega) (G'.arrMu (ak.isOwn_arr Uo)) Qd (.inr ⟨f1,hfH1⟩) (kO Uo)
     have UG:bh H1 (st.heap.length+i) B0=H1.set (st.heap.length+i) B0:=by
      unfold bh
      rw[NQ (by
       intro hh;rw[N2]at hh
       have:H1.length=(dG (ops.take m) st ks (Qu C')).heap.length:=by simp[H1]
       omega)]
     have h2':aU C S (aO (aO μ (st.heap.length+i) (μ SV)) (st.heap.length+i) u) ⟨(dG (ops.take m) st ks (Qu C')).env,H1.set (st.heap.length+i) B0⟩ a' w':=by rw[← UG];exact h2
     have P9:ai S (aO (aO μ (st.heap.length+i) (μ SV)) (st.heap.length+i) u) w' (.own (st.heap.length+i)) u:=by
      have:=ai.own (S:=S) (μ:=aO (aO μ (st.heap.length+i) (μ SV)) (st.heap.length+i) u) (w:=w') (st.heap.length+i)
      rwa [ar]at this
     have h3:=h2'.put htn P9
     rw[← Un]at h3
     have hH1l:H1.length=(dG (ops.take m) st ks (Qu C')).heap.length:=by simp[H1]
     have U7:∀(j:Nat) (B:ak),(dG (ops.take m) st ks (Qu (C'.setIfInBounds i true))).heap[j]?=some B→B=.dead∨(j=st.heap.length+i∧B=ki.b)∨(j≠st.heap.length+i∧H1[j]?=some B∧ak.free (st.heap.length+i) B=true):=by
      intro j B hB
      have QL:(st.heap++de st.heap.length ks (Qu (C'.setIfInBounds i true)))[j]?=some B:=hB
      by_cases hj2:j<st.heap.length
      ·rw[NU hj2]at QL
       have RP:(dG (ops.take m) st ks (Qu C')).heap[j]?=some B:=by
        show(st.heap++de st.heap.length ks (Qu C'))[j]?=some B
        rw[NU hj2];exact QL
       exact .inr (.inr ⟨by omega,by rw[hH1 j (by omega) (by omega)];exact RP,bS f2 RP⟩)
      ·rw[NX (by omega)]at QL
       rcases Qv TF _ B QL with q1 | ⟨q1,rfl⟩ | ⟨q1,q2,q3⟩
       ·exact .inl q1
       ·exact .inr (.inl ⟨by omega,rfl⟩)
       ·have RP:(dG (ops.take m) st ks (Qu C')).heap[j]?=some B:=by
         show(st.heap++de st.heap.length ks (Qu C'))[j]?=some B
         rw[NX (by omega)];exact q2
        have hjid:j≠SV:=fun e=>by
         rw[show st.heap.length+(j-st.heap.length)=SV by omega,sM (bs:=Qu (C'.setIfInBounds i true)) RC (by rw[VN,NT rfl]) (by rw[Jd TF];exact RA)]at q3
         cases q3
        exact .inr (.inr ⟨by omega,by rw[hH1 j (by omega) hjid];exact RP,bS f2 RP⟩)
     rcases hval with ⟨e1,e2⟩ | ⟨E,sz,α,enc,d,l,rfl,e1,e2⟩
     ·refine⟨_,_,U5 t Un S _ u w' _ _ h3 (fun s d hm hs=>Oe _ (jo hm hs)) (by rw[e2,hsl];exact Oi ..) (fun j B hB=>?_)⟩
      rcases U7 j B hB with q1 | ⟨rfl,rfl⟩ | ⟨q1,q2,_⟩
      ·exact .inl q1
      ·refine .inr ?_
       rw[N0 (by rw[hH1l];exact hPl),e1]
      ·refine .inr ?_
       rw[NZ (PN q1)];exact q2
     ·have TV:(H1.set (st.heap.length+i) (ak.arr E sz enc d l))[st.heap.length+i]?=some (ak.arr E sz enc d l):=N0 (by rw[hH1l];exact hPl)
      obtain⟨S3,h4⟩:=h3.freezeZ (id:=st.heap.length+i) (Z:=ak.arr E sz enc d l) (z:=.sl (.sl sz enc d l)) TV rfl (dh (h3.heap.box _ _ TV) (fun b hb=>.inl hb) (fun b hb=>.inr hb) h3.slt)
      refine⟨S3,_,U5 t Un S3 _ u w' _ _ h4 (fun s d' hm hs=>?_) ?_ (fun j B hB=>?_)⟩
      ·have:=tU (id:=st.heap.length+i) (x:=.sl (.sl sz enc d l)) (Oe (t,D.own (st.heap.length+i)) (jo (t:=t) hm hs))
       rwa [qB d' (bR f1 hm)]at this
      ·have:=tU (id:=st.heap.length+i) (x:=.sl (.sl sz enc d l)) (Oi (a:=(t,D.own (st.heap.length+i))) (l:=rK (dG (ops.take m) st ks (Qu C')).env t))
       have e:cu (st.heap.length+i) (.sl (.sl sz enc d l)) (.own (st.heap.length+i))=.v (.sl sz enc d l):=by simp[cu,Fz.own]
       rw[e2,← e]
       exact this
      ·rcases U7 j B hB with q1 | ⟨_,rfl⟩ | ⟨q1,q2,q3⟩
       ·exact .inl q1
       ·exact .inl e1
       ·refine .inr ?_
        show((bO (st.heap.length+i) (.sl (.sl sz enc d l)) (H1.set (st.heap.length+i) (ak.arr E sz enc d l))).set (st.heap.length+i) .dead)[j]?=some B
        rw[NZ (PN q1),gf,NZ (PN q1),q2,Oz,vC B q3]
    rw[EW hns]at hq
    refine KF hnd ho (nk.uponIn (AH VA.heap VA.slt VA.glob (fun x=>VA.eval x) hq hp (R:=fun u w'=>∃S' μ',aU C S' μ' (dG (ops.take m) st ks (Qu (C'.setIfInBounds i true))) (a'.put o.dst u) w') ?_) (fun u w' Ul=>?_))
    ·rintro u w' (⟨RA,R',hc⟩ | ⟨SV,A0,B0,RA,hA0,hAa,Uo,Sr,G',Qd,hval⟩)
     rotate_left
     ·exact hkill u w' SV A0 B0 RA hA0 hAa Uo Sr G' Qd hval
     rcases hc with ⟨hbd,hd⟩ | ⟨obj,Q5,rfl,G',hd,Qd⟩ | ⟨S2,μ1,u0,V8,s1,s2,s3,G',hd,Qd⟩
     ·-- no box
      refine⟨fun b=>S b∨(w.heap.size≤b∧b<w'.heap.size),μ,VO t Un htn (tP RA) _ μ u w' (H':=(dG (ops.take m) st ks (Qu C')).heap.set (st.heap.length+i) ki.b) ?_ rfl ?_⟩
      ·rw[hbd,yL RO]
       exact hRL.grow R'.os R'.tape R'.output R'.size R'.block (fun b hb=>.inl hb) (fun b hb=>hb.imp (fun h=>h) (fun h=>h.1)) (fun b hb=>by
        rcases hb with hb | hb
        ·exact OV (hRL.slt b hb) R'.size
        ·exact hb.2)
      ·exact hd.stable (fun b hb hl=>hb.imp (fun h=>h) (fun h=>⟨h,hl⟩)) (fun _ _ _=>rfl) (NN _) (fun _ _=>rfl)
     ·-- a new box
      rw[hsl]at G' hd
      refine⟨S,aO μ (st.heap.length+i) u,VO t Un htn (tP RA) S _ u _ (H':=bh (dG (ops.take m) st ks (Qu C')).heap (st.heap.length+i) ki.b) ?_ ?_ hd⟩
      ·refine hRL.upd0 (O2 w obj none) (fun k hk=>by cases hk) ?_ G' (fun b hb=>.inr (by rw[Qd b hb];exact NN _)) ?_ (Dj Q5)
       ·have:=(NL.1 RO).1;omega
       ·refine .inr ?_
        exact VP (.inl Q5)
      ·unfold bh
       rw[NQ (by
        have:=(NL.1 RO).1
        intro hh;rw[N2]at hh;omega)]
     ·-- a box that a call hands over
      rw[hsl]at hd
      have Q5:ki.b.live=true:=by cases Wd:ki.b<;>first | rfl | (rw[Wd]at V8;cases V8)
      refine⟨S2,aO μ (st.heap.length+i) u0,VO t Un htn (tP RA) S2 _ u _ (H':=(dG (ops.take m) st ks (Qu C')).heap.set (st.heap.length+i) ki.b) ?_ rfl hd⟩
      have hG:aU C S2 μ (dG (ops.take m) st ks (Qu C')) a' w':=hRL.grow R'.os R'.tape R'.output R'.size R'.block s1 s2 s3
      refine hG.addAt RO (VP (.inl Q5)).1 (VP (.inl Q5)).2 V8 G' (fun b hb=>?_)
      obtain⟨k1,k2⟩:=Qd b hb
      refine⟨Pb hRL.size k1,k2,fun j A hA la RF=>?_⟩
      have:=(hRL.heap.box j A hA).lt la b RF
      omega
    ·obtain⟨S',μ',QZ⟩:=Ul
     exact next S' μ' u w' QZ
   ·rw[RC]at hk
    cases hk
    rw[NQ (by rw[b5 VA hg];simp)]
    refine⟨fun f _=>oe C.rd f,next S μ undef w (VO t Un htn rfl S μ undef w (H':=(dG (ops.take m) st ks (Qu C')).heap.set (st.heap.length+i) .dead) ?_ rfl (.tup [] #[] rfl (fun j y u hy _=>by simp at hy)))⟩
    rw[yL RO]
    exact hRL
 have h0:aU C S μ (dG (ops.take m) st ks (Qu (Array.replicate ops.toArray.size false))) a w.drew:=by
  have hd:aU C S μ st a w.drew:=hR.grow rfl rfl rfl (NN _) (fun _ _=>rfl) (fun _ h=>h) (fun _ h=>.inl h) hR.slt
  have hf:∀j,(Qu (Array.replicate ops.toArray.size false)).getD j false=false:=by
   intro j
   by_cases hj:j<m
   ·rw[cI _ m j hj];simp[Array.getD]
   ·exact qK _ m j (by omega)
  have h1:=hd.weak (env:=(dG (ops.take m) st ks (Qu (Array.replicate ops.toArray.size false))).env) (fun s d hm=>.inr ?_)
  ·refine h1.heapTo (fun j B hB=>?_)
   have QL:(st.heap++de st.heap.length ks (Qu (Array.replicate ops.toArray.size false)))[j]?=some B:=hB
   by_cases hj:j<st.heap.length
   ·rw[NU hj]at QL;exact .inr QL
   ·rw[NX (by omega)]at QL
    generalize hjj:j-st.heap.length=q at QL
    have Ry:q<ks.length:=by
     have:=(NL.1 QL).1
     rwa [di]at this
    rw[mt _ _ _ _ _ (NM Ry),hf q,NQ (by simp)]at QL
    cases QL
    exact .inl rfl
  ·rcases OZ.1 hm with hm | hm
   ·exact(jm hm).1
   ·obtain⟨j,oj,kj,q1,q2,q3,q4,rfl⟩:=fM hm
    rw[hf j]at q3;cases q3
 have key:=main m (Array.replicate ops.toArray.size false) (fun _=>undef) S μ a w.drew ?_ h0 (ny _ _ (by rw[Qk];exact Uk)) (fun i _=>by simp[Array.getD])
 ·rw[show m+(ops.toArray.size-m)=ops.toArray.size from by rw[Qk];omega]at key
  exact key
 ·have hf:∀k,(Array.replicate ops.toArray.size false).getD k false=true→False:=by
   intro k hk
   simp[Array.getD]at hk
  exact⟨by simp,fun i o h=>(hf i h).elim,rfl,rfl,fun _ _=>rfl,fun j t h=>(hf j h).elim⟩
theorem Ev.dw {id:Nat} {ops:List Oper} {st:St} {Q:Exit→St→Prop} (Qs:List (Nat×Ov)) (m:Nat) (h:Jh C.P C.nt ops Qs m st (fun QR=>Q .normal QR)):Ev C (.region id ops.toArray true) Q st:=by
 unfold Jh at h
 obtain⟨M',ks,QG,RA,_,_,hK,UP⟩:=AI (ops.take m) 0 [] [] rfl rfl h
 simp only[OA]at QG RA UP
 cases hb:Jg C.nt ops m&&(jn st st.heap.length 0 M' ks M' ks&&jQ st.heap.length M' ks)&&C.P.follows .mixedOrders with
 | false=>rw[hb]at hK;exact hK.elim
 | true =>
 rw[hb]at hK
 simp only[NK]at hb
 obtain⟨⟨hdw,RK,QP⟩,To⟩:=hb
 unfold Jg at hdw
 simp only[NK]at hdw
 obtain⟨⟨⟨⟨UC,SG⟩,U0⟩,U1⟩,TS⟩:=hdw
 have Uk:m≤ops.length:=by have:=(od SG).1;simpa using this
 have Qk:ops.toArray.size=ops.length:=by simp
 obtain⟨htp,htq⟩:=sL _ _ _ _ hK
 refine fun a w S μ hR=>wpIn_region_any To (B5 Qs m (fun _=>false) Uk QG RA UP UC U0 U1 TS RK QP To (fun i hi UF j hj _=>(od SG).2 i hi (by rw[Qk];exact UF) j (by omega)) ?_ a w S μ hR)
 clear hR
 intro C' S μ a' w hls hcl hRL hall RZ
 have hall:∀i,i<m→C'.getD i false=true:=fun i hi=>hall i hi rfl
 have Rd:GU ops.toArray tS a':=yf (yG UC (by simp[hRL.tsize]) rfl rfl)
 have hu:yc C' m=0:=by
  have:∀n,n≤m→yc C' n=0:=by
   intro n
   induction n with
   | zero=>intro _;rfl
   | succ n ihn=>intro TA;simp[yc,ihn (by omega),hall n (by omega)]
  exact this m (NN _)
 rw[hu,OA,← Qk]
 refine wS Rd SG (ops.toArray.size-m) m C' a' w (NN _) (by omega) (by rw[hls,Qk]) hall RZ ?_
 have el:((List.range m).map fun j=>C'.getD j false)=List.replicate m true:=by
  apply Pj
  ·simp
  ·intro j h1 h2
   simp only[List.getElem_map,List.getElem_range,PU]
   exact hall j (by simpa using h1)
 rw[el]at hRL
 have hl:=pm (Q:=fun e a' w'=>∃J' S' μ',Q e J'∧aU C S' μ' J' a' w') (ops.drop m) m _ S μ _ w _ hRL rfl htp (fun S' μ' a' w' QZ=>⟨_,S',μ',htq,QZ⟩)
 have e:=wpOpsIn_eq_wpListIn (F:=kL C.rd) (n:=0) (P:=C.P) (ops:=ops.toArray) (Q:=fun e a' w'=>∃J' S' μ',Q e J'∧aU C S' μ' J' a' w') (ops.drop m) m (fun j=>by simp)
 rw[N9]at e
 rw[Qk,e]
 exact hl
theorem E3 {ops:List Oper} {Q:Exit→St→Prop} (Qs:List (Nat×Ov)) (tab:sK) {J':St} (hnd:ops.all (fun o=>!cH o)=true) (he:eL tab (List.replicate ops.length true)=some J') (hp:DA C.P C.nt ops Qs tab tab) (hq:Q .normal J'):∀(fuel:Nat) (ls:List Bool) (C':Array Bool) (s:St) (S:Nat→Prop) (μ:Nat→Value) (a:Act) (w:World),gm ls=fuel→ls.length=ops.length→C'.size=ops.length→(∀i,C'.getD i false=ls.getD i false) →
   eL tab ls=some s→aU C S μ s a w→wpAnyIn (kL C.rd) 0 C.P .any ops.toArray (fun e a' w'=>∃J' S' μ',Q e J'∧aU C S' μ' J' a' w') fuel C' a w:=by
 have Qk:ops.toArray.size=ops.length:=by simp
 intro fuel
 induction fuel with
 | zero =>
  intro ls C' s S μ a w hf hl hls hg hs hR
  have hall:=tM hf
  have QY:=ew hall
  rw[hl]at QY
  refine⟨O5.2 (fun i hi=>?_),?_⟩
  ·obtain⟨h1,o,ho,_⟩:=(bQ C' (by rw[hls,Qk]) i).1 hi
   have Ri:i<ops.length:=by simpa using(NV.1 ho).1
   have hb:(List.replicate ops.length true).getD i false=true:=by simp[List.getD,OW,Ri]
   rw[hg,QY,hb]at h1
   cases h1
  ·rw[QY,he]at hs
   cases hs
   exact⟨_,S,μ,hq,hR⟩
 | succ fuel ih =>
  intro ls C' s S μ a w hf hl hls hg hs hR
  have Sd:=tL hp (qH hs)
  have Up:ls.all id=false:=by
   cases hb:ls.all id
   ·rfl
   ·rw[ew hb]at hf
    simp[gm]at hf
  unfold xl at Sd
  rw[NQ (by rw[Up];simp)]at Sd
  have TW:∀i,i∈Region.ready .any ops.toArray C'↔i∈ik ops ls:=by
   intro i
   rw[bQ C' (by rw[hls,Qk]) i]
   unfold ik
   rw[PV,OJ]
   unfold Ja
   constructor
   ·rintro⟨h1,o,ho,h2⟩
    have Rq:ops[i]?=some o:=by simpa using ho
    refine⟨(NL.1 Rq).1,?_⟩
    rw[← hg,h1,Rq]
    simp only[Bool.not_false,Pw,Oa,PG,Oq,Oc]
    intro e he
    cases hb:Region.binds .any e
    ·exact .inl rfl
    ·exact .inr (by rw[← hg];exact h2 e he hb)
   ·rintro⟨h1,h2⟩
    rw[NK]at h2
    obtain⟨h2,h3⟩:=h2
    rw[NM h1]at h3
    refine⟨by rw[hg];simpa using h2,ops[i],by simp[NM h1],fun e he hb=>?_⟩
    simp only[Oa,PG,Oq,Oc]at h3
    rcases h3 e he with h4 | h4
    ·rw[hb]at h4;cases h4
    ·rw[hg];exact h4
  have U8:∀i,i∈ik ops ls→vR C.P C.nt ops Qs tab ls s i:=by
   intro i hi
   cases hr:ik ops ls with
   | nil=>rw[hr]at hi;cases hi
   | cons j r =>
    rw[hr]at Sd hi
    exact oC Sd hi
  refine⟨fun Sb=>?_,fun i hi=>?_⟩
  ·exfalso
   cases hr:ik ops ls with
   | nil=>rw[hr]at Sd;exact Sd
   | cons j r =>
    have:j∈Region.ready .any ops.toArray C':=(TW j).2 (by rw[hr];exact Oi ..)
    rw[Sb]at this
    cases this
  ·have hi2:=(TW i).1 hi
   have QU:=U8 i hi2
   obtain⟨Re,o,ho,_⟩:=(bQ C' (by rw[hls,Qk]) i).1 hi
   have Rq:ops[i]?=some o:=by simpa using ho
   have Ql:i<ops.length:=(NL.1 Rq).1
   unfold vR at QU
   rw[Rq]at QU
   simp only at QU
   generalize hsq:cR C.P C.nt ops Qs i [o] s=q at QU
   obtain⟨s1,p1⟩:=q
   simp only at QU
   split at QU
   ·rename_i s2 Ss
    obtain⟨Sp,Tl⟩:=QU
    have next:∀S' μ' a' w',aU C S' μ' s1 a' w'→wpAnyIn (kL C.rd) 0 C.P .any ops.toArray (fun e a' w'=>∃J' S' μ',Q e J'∧aU C S' μ' J' a' w') fuel (C'.setIfInBounds i true) a' w':=by
     intro S' μ' a' w' QZ
     have TI:=QZ.keep (s2.env.map (·.1))
     have e2:(⟨lg (s2.env.map (·.1)) s1.env,s1.heap⟩:St)=s2:=Sp
     rw[e2]at TI
     refine ih (ls.set i true) (C'.setIfInBounds i true) s2 S' μ' a' w' ?_ (by simpa using hl) (by simpa using hls) ?_ Ss TI
     ·have:=qI (ls:=ls) (i:=i) (by omega) (by rw[← hg];exact Re)
      omega
     ·intro j
      rw[aV _ _ _ (by omega)]
      split
      ·rename_i hj
       rw[hj]
       unfold List.getD
       rw[N0 (show i<ls.length by omega)]
       rfl
      ·rename_i hj
       rw[hg]
       unfold List.getD
       rw[NZ (by omega)]
    have hdef:cH o=false:=by
     rw[Oa]at hnd
     have:=hnd o (Oh Rq)
     simpa using this
    unfold cR at hsq
    unfold wpOpIn
    rw[ho]
    simp only
    split at hsq
    ·rename_i VB
     rw[NT (b5 hR VB)]
     generalize Se:nM C.P C.nt (ld Qs i) o s=q1 at hsq
     obtain⟨s1',p1'⟩:=q1
     simp only[cR,NS]at hsq
     obtain⟨rfl,rfl⟩:=hsq
     exact sx hdef (li hR Se Tl.1 next)
    ·rename_i VB
     rw[NQ (by rw[b5 hR VB];simp)]
     generalize Se:lf C.nt s o.dst=q1 at hsq
     obtain⟨s1',p1'⟩:=q1
     simp only[cR,NS]at hsq
     obtain⟨rfl,rfl⟩:=hsq
     refine⟨fun f _=>oe C.rd f,?_⟩
     unfold lf at Se
     refine next S μ _ _ (hR.ePut Se Tl.1 ?_).2
     exact .tup [] #[] rfl (fun j y u hy _=>by simp at hy)
    ·simp only[aL,NS]at hsq
     rw[← hsq.2]at Tl
     exact Tl.elim
   ·exact QU.elim
def B6 (tab:sK) (j:Nat):Bool:=tab.any (fun e=>!(e.1.getD j false))
def AJ (ops:Array Oper) (m:Nat) (Rn:Nat→Bool):Bool:=decide (m≤ops.size)&&(List.range ops.size).all fun k=>decide (k<m)||(List.range m).all fun j=>Rn j||cF ops k j
theorem yN {ops:Array Oper} {m:Nat} {Rn:Nat→Bool} (h:AJ ops m Rn=true):m≤ops.size∧∀k,m≤k→k<ops.size→∀j,j<m→Rn j=false→cF ops k j=true:=by
 unfold AJ at h
 simp only[NK,OO,Oa,OJ,Oq]at h
 exact⟨h.1,fun k hk VR j hj hl=>((h.2 k VR).resolve_left (by omega) j hj).resolve_left (by rw[hl];simp)⟩
def oE (Rn:Nat→Bool):Nat→List (List Bool)
 | 0=>[[]]
 | m+1=>match Rn m with
  | true=>(oE Rn m).map (·++[true])++(oE Rn m).map (·++[false])
  | false=>(oE Rn m).map (·++[true])
theorem tV {Rn:Nat→Bool} (f:Nat→Bool):∀(m:Nat),(∀j,j<m→Rn j=false→f j=true)→(List.range m).map f∈oE Rn m
 | 0,_=>by simp[oE]
 | m+1,h=>by
  have ih:=tV f m (fun j hj=>h j (by omega))
  rw[List.range_succ,Ox,oE]
  split
  ·rename_i hl
   cases hf:f m
   ·exact OK _ (P4.2 ⟨_,ih,by simp[hf]⟩)
   ·exact OS _ (P4.2 ⟨_,ih,by simp[hf]⟩)
  ·rename_i hl
   exact P4.2 ⟨_,ih,by simp[h m (by omega) hl]⟩
def B7 (ops:List Oper) (ls:List Bool):Bool:=(List.range ls.length).all fun i=>!(ls.getD i false)||(match ops[i]? with | some o=>o.after.toList.all (fun e=>!Region.binds .any e||ls.getD e.on false) | none=>true)
def yO (ops:List Oper) (m:Nat) (st:St) (ks:List Mk) (tab:sK):List (List Bool)→Prop
 | []=>True
 | l::r=>match B7 ops l with
  | true=>match eL tab (l++List.replicate (ops.length-m) false)with
   | some s=>tK (dG (ops.take m) st ks l) s=s∧yO ops m st ks tab r
   | none=>False
  | false=>yO ops m st ks tab r
theorem qL {ops:List Oper} {m:Nat} {st:St} {ks:List Mk} {tab:sK}:∀{r:List (List Bool)} {l:List Bool},yO ops m st ks tab r→l∈r→B7 ops l=true→∃s,eL tab (l++List.replicate (ops.length-m) false)=some s∧tK (dG (ops.take m) st ks l) s=s
 | x::r,l,h,hm,hc=>by
  unfold yO at h
  rcases OB.1 hm with e | hm
  ·subst e
   rw[hc]at h
   simp only at h
   split at h
   ·rename_i s hs;exact⟨s,hs,h.1⟩
   ·exact h.elim
  ·split at h
   ·split at h
    ·exact qL h.2 hm hc
    ·exact h.elim
   ·exact qL h hm hc
def E4 (nt:Nat) (ops:List Oper) (m:Nat) (Rn:Nat→Bool):Bool :=
 Iu ops.toArray tS ⟨Array.replicate nt undef,[]⟩&&AJ ops.toArray m Rn&&mu nt (ops.take m)&&vY (ops.take m)&&ops.all (fun o=>!cH o)
def si (P:Program) (nt:Nat) (ops:List Oper) (Qs:List (Nat×Ov)) (m:Nat) (tab:sK) (st:St) (k:St→Prop):Prop :=
 GW P ops (ops.take m) st Qs 0 (ops.take m) [] [] fun M' ks =>
  match E4 nt ops m (B6 tab)&&(jn st st.heap.length 0 M' ks M' ks&&jQ st.heap.length M' ks)&&P.follows .mixedOrders,eL tab (List.replicate ops.length true)with
  | true,some QR=>yO ops m st ks tab (oE (B6 tab) m)∧DA P nt ops Qs tab tab∧nS QR k
  | _,_=>False
theorem rM (f:Nat→Bool) (C':Array Bool) (hf:∀j,f j=C'.getD j false):∀m,gm ((List.range m).map f)=yc C' m
 | 0=>rfl
 | m+1=>by
  have ih:=rM f C' hf m
  unfold gm at ih ⊢
  rw[List.range_succ,Ox,PC,NY,ih,yc,← hf m,OQ,OG]
  cases f m<;>rfl
theorem DC (l:List Bool) (n:Nat):gm (l++List.replicate n false)=gm l+n:=by
 unfold gm
 rw[PC,NY]
 congr 1
 rw[List.filter_eq_self.2 (fun x hx=>by rw[Ol hx];rfl),NR]
theorem xo {ops:List Oper} {st:St} {Q:Exit→St→Prop} (Qs:List (Nat×Ov)) (m:Nat) (tab:sK) (h:si C.P C.nt ops Qs m tab st (fun QR=>Q .normal QR)):C.P.follows .mixedOrders=true ∧
  ∀(a:Act) (w:World) (S:Nat→Prop) (μ:Nat→Value),aU C S μ st a w→wpAnyIn (kL C.rd) 0 C.P .any ops.toArray (fun e a' w'=>∃J' S' μ',Q e J'∧aU C S' μ' J' a' w') ops.toArray.size (Array.replicate ops.toArray.size false) a w.drew:=by
 unfold si at h
 obtain⟨M',ks,QG,RA,_,_,hK,UP⟩:=AI (ops.take m) 0 [] [] rfl rfl h
 simp only[OA]at QG RA UP
 cases hb:E4 C.nt ops m (B6 tab)&&(jn st st.heap.length 0 M' ks M' ks&&jQ st.heap.length M' ks)&&C.P.follows .mixedOrders with
 | false=>rw[hb]at hK;exact hK.elim
 | true =>
 cases he:eL tab (List.replicate ops.length true)with
 | none=>rw[hb,he]at hK;exact hK.elim
 | some QR =>
 rw[hb,he]at hK
 simp only[NK]at hb
 obtain⟨⟨hdw,RK,QP⟩,To⟩:=hb
 unfold E4 at hdw
 simp only[NK]at hdw
 obtain⟨⟨⟨⟨UC,SG⟩,U0⟩,U1⟩,TS⟩:=hdw
 have Qk:ops.toArray.size=ops.length:=by simp
 obtain⟨Uk,htl⟩:=yN SG
 rw[Qk]at Uk
 obtain⟨hj,htab,UH⟩:=hK
 rw[lj]at UH
 refine⟨To,B5 Qs m (B6 tab) Uk QG RA UP UC U0 U1 TS RK QP To (fun i hi UF j hj hl=>htl i hi (by rw[Qk];exact UF) j hj hl) ?_⟩
 intro C' S μ a' w hls hcl hRL hall RZ
 have QN:∀i,(((List.range m).map fun j=>C'.getD j false)++List.replicate (ops.length-m) false).getD i false=C'.getD i false:=by
  intro i
  by_cases hi:i<m
  ·rw[Od,NU (by simpa using hi),← Od]
   exact cI C' m i hi
  ·rw[Od,NX (by simpa using Nat.le_of_not_lt hi),OW,RZ i (by omega)]
   split<;>rfl
 have hclos:B7 ops ((List.range m).map fun j=>C'.getD j false)=true:=by
  unfold B7
  simp only[Oa,OJ,N1,List.length_range,Oq,Oc]
  intro i hi
  rw[cI C' m i hi]
  cases hl:C'.getD i false
  ·exact .inl rfl
  ·refine .inr ?_
   split
   ·rename_i o ho
    simp only[Oa,PG,Oq,Oc]
    intro e hee
    cases TJ:Region.binds .any e
    ·exact .inl rfl
    ·have hon:=hcl i o hl ho e hee TJ
     have:e.on<m:=by
      refine Nat.lt_of_not_le fun UW=>?_
      rw[RZ e.on UW]at hon;cases hon
     exact .inr (by rw[cI C' m _ this];exact hon)
   ·rfl
 obtain⟨s,Qy,Ss⟩:=qL hj (tV (fun j=>C'.getD j false) m hall) hclos
 have TI:=hRL.keep (s.env.map (·.1))
 have e2:(⟨lg (s.env.map (·.1)) (dG (ops.take m) st ks ((List.range m).map fun j=>C'.getD j false)).env,(dG (ops.take m) st ks ((List.range m).map fun j=>C'.getD j false)).heap⟩:St)=s:=Ss
 rw[e2]at TI
 exact E3 (Q:=Q) Qs tab TS he htab UH _ _ C' s S μ a' w (by rw[DC,rM _ C' (fun _=>rfl)]) (by simp;omega) hls (fun i=>(QN i).symm) Qy TI
theorem Ev.dwT {id:Nat} {ops:List Oper} {st:St} {Q:Exit→St→Prop} (Qs:List (Nat×Ov)) (m:Nat) (tab:sK) (h:si C.P C.nt ops Qs m tab st (fun QR=>Q .normal QR)):Ev C (.region id ops.toArray true) Q st :=
 fun a w S μ hR=>wpIn_region_any (xo Qs m tab h).1 ((xo Qs m tab h).2 a w S μ hR)
def np (i:Nat):List Nat→Nat
 | []=>0
 | x::r=>match Nat.beq x i with | true=>0 | false=>np i r+1
def AK (π:List Nat) (o:Oper):Oper:=⟨o.dst,o.op,o.type,o.pos,(o.after.toList.map fun e=>⟨np e.on π,e.ground⟩).toArray,none⟩
def fu (π:List Nat) (ops:List Oper):List Oper:=π.map fun i=>match ops[i]? with | some o=>AK π o | none=>default
def oG (π:List Nat) (ops:List Oper):Bool :=
 Nat.beq π.length ops.length&&((List.range ops.length).all (fun i=>(Nat.blt (np i π) ops.length&&Nat.beq (π.getD (np i π) 0) i)&&(Nat.blt (π.getD i 0) ops.length&&Nat.beq (np (π.getD i 0) π) i))&&ops.all (fun o=>o.guard.isNone&&o.after.toList.all (fun e=>Nat.blt e.on ops.length)))
theorem E5 {F:Fence} {n:Nat} {P:Program} {Q:Exit→Act→World→Prop} {π:List Nat} {ops:List Oper} (Rd:oG π ops=true):∀(fuel:Nat) (C' Qn:Array Bool) (a:Act) (w:World),C'.size=ops.length→Qn.size=ops.length →
  (∀i,i<ops.length→C'.getD i false=Qn.getD (np i π) false)→wpAnyIn F n P .any (fu π ops).toArray Q fuel Qn a w→wpAnyIn F n P .any ops.toArray Q fuel C' a w:=by
 unfold oG at Rd
 simp only[NK,N2,Oa,OJ,PA]at Rd
 obtain⟨hL,hI,hO⟩:=Rd
 have Tn:(fu π ops).length=ops.length:=by unfold fu;rw[N1];exact hL
 have QN:∀j,j<ops.length→π[j]?=some (π.getD j 0):=fun j hj=>by
  rw[Od,NM (by omega)];rfl
 have TG:∀i o,ops[i]?=some o→(fu π ops)[np i π]?=some (AK π o):=fun i o ho=>by
  have hi:i<ops.length:=(NL.1 ho).1
  unfold fu
  rw[N4,QN _ (hI i hi).1.1,(hI i hi).1.2,Oz,ho]
 intro fuel
 have TX:∀(C' Qn:Array Bool),C'.size=ops.length→Qn.size=ops.length→(∀i,i<ops.length→C'.getD i false=Qn.getD (np i π) false) →
   ∀i,i<ops.length→(i∈Region.ready .any ops.toArray C'↔np i π∈Region.ready .any (fu π ops).toArray Qn):=by
  intro C' Qn h1 h2 h3 i hi
  have hoi:ops[i]?=some ops[i]:=NM hi
  have Wh:=TG i _ hoi
  rw[bQ C' (by simpa using h1) i,bQ Qn (by simpa[Tn]using h2) (np i π),h3 i hi]
  constructor
  ·rintro⟨q1,o,ho,q2⟩
   simp only[Pc]at ho
   rw[hoi]at ho
   cases ho
   refine⟨q1,AK π ops[i],by rw[Pc];exact Wh,fun e he hb=>?_⟩
   simp only[AK,List.mem_toArray,P4]at he
   obtain⟨e0,he0,rfl⟩:=he
   have Ql:=(hO _ (Pq hi)).2 e0 he0
   rw[← h3 _ Ql]
   exact q2 e0 (by simpa using he0) hb
  ·rintro⟨q1,o,ho,q2⟩
   simp only[Pc]at ho
   rw[Wh]at ho
   cases ho
   refine⟨q1,ops[i],by rw[Pc];exact hoi,fun e he hb=>?_⟩
   have he0:e∈ops[i].after.toList:=by simpa using he
   have Ql:=(hO _ (Pq hi)).2 e he0
   rw[h3 _ Ql]
   exact q2 ⟨np e.on π,e.ground⟩ (by simp only[AK,List.mem_toArray,P4];exact⟨e,he0,rfl⟩) hb
 have Sb:∀(C' Qn:Array Bool),C'.size=ops.length→Qn.size=ops.length→(∀i,i<ops.length→C'.getD i false=Qn.getD (np i π) false) →
   Region.ready .any ops.toArray C'=[]→Region.ready .any (fu π ops).toArray Qn=[]:=by
  intro C' Qn h1 h2 h3 hn
  refine O5.2 fun j hj=>?_
  obtain⟨_,o,ho,_⟩:=(bQ Qn (by simpa[Tn]using h2) j).1 hj
  have Th:j<ops.length:=by
   have:=(NV.1 ho).1
   simpa[Tn]using this
  have:=(TX C' Qn h1 h2 h3 (π.getD j 0) (hI j Th).2.1).2 (by rw[(hI j Th).2.2];exact hj)
  rw[hn]at this
  cases this
 induction fuel with
 | zero =>
  intro C' Qn a w h1 h2 h3 h
  refine⟨O5.2 fun i hi=>?_,h.2⟩
  obtain⟨_,o,ho,_⟩:=(bQ C' (by simpa using h1) i).1 hi
  have UF:i<ops.length:=by
   have:=(NV.1 ho).1
   simpa using this
  have:=(TX C' Qn h1 h2 h3 i UF).1 hi
  rw[h.1]at this
  cases this
 | succ fuel ih =>
  intro C' Qn a w h1 h2 h3 h
  refine⟨fun hn=>h.1 (Sb C' Qn h1 h2 h3 hn),fun i hi=>?_⟩
  obtain⟨_,o,ho,_⟩:=(bQ C' (by simpa using h1) i).1 hi
  have UF:i<ops.length:=by
   have:=(NV.1 ho).1
   simpa using this
  have Rq:ops[i]?=some o:=by simpa using ho
  have hh:=h.2 _ ((TX C' Qn h1 h2 h3 i UF).1 hi)
  have Wh:=TG i o Rq
  have hg:o.guard=none:=by simpa using(hO o (Oh Rq)).1
  have UG:∀k,k<ops.length→(C'.setIfInBounds i true).getD k false=(Qn.setIfInBounds (np i π) true).getD (np k π) false:=by
   intro k hk
   rw[aV _ _ _ (by omega),aV _ _ _ (by rw[h2];exact(hI i UF).1.1)]
   by_cases e:k=i
   ·rw[NT e,e,NT rfl]
   ·rw[NQ e,NQ (fun e2=>e (by rw[← (hI k hk).1.2,e2,(hI i UF).1.2])),h3 k hk]
  have hK:∀a w,wpAnyIn F n P .any (fu π ops).toArray Q fuel (Qn.setIfInBounds (np i π) true) a w→wpAnyIn F n P .any ops.toArray Q fuel (C'.setIfInBounds i true) a w :=
   fun a w hq=>ih _ _ a w (by simpa using h1) (by simpa using h2) UG hq
  unfold wpOpIn at hh ⊢
  have e1:(fu π ops).toArray[np i π]?=some (AK π o):=by rw[Pc];exact Wh
  rw[e1]at hh
  rw[ho]
  have w1:Region.wanted (AK π o) (yielded (fu π ops).toArray a.tmps)=true:=rfl
  have w2:Region.wanted o (yielded ops.toArray a.tmps)=true:=by unfold Region.wanted;rw[hg]
  simp only[w1,w2,Pe]at hh ⊢
  exact Oper.wpIn_mono (o:=o) hK hh
theorem Ev.dwTP {id:Nat} {ops:List Oper} {st:St} {Q:Exit→St→Prop} (Qs:List (Nat×Ov)) (m:Nat) (tab:sK) (π:List Nat) (hπ:oG π ops=true) (h:si C.P C.nt (fu π ops) Qs m tab st (fun QR=>Q .normal QR)):Ev C (.region id ops.toArray true) Q st:=by
 obtain⟨To,hany⟩:=xo Qs m tab h
 intro a w S μ hR
 have Tn:(fu π ops).length=ops.length:=by
  unfold oG at hπ
  simp only[NK,N2]at hπ
  unfold fu;rw[N1];exact hπ.1
 have h1:=hany a w S μ hR
 rw[show(fu π ops).toArray.size=ops.toArray.size from by simp[Tn]]at h1
 refine wpIn_region_any To (E5 hπ _ _ _ a w.drew (by simp) (by simp) (fun i hi=>?_) h1)
 simp[Array.getD]
theorem v5 {P:Program} {nt:Nat} {ops:List Oper} {Qs:List (Nat×Ov)} {m:Nat} {tab:sK} {st:St} {k k':St→Prop} (h:si P nt ops Qs m tab st k) (hk:∀st,k st→k' st):si P nt ops Qs m tab st k':=by
 unfold si at h ⊢
 refine pp (fun a b hq=>?_) _ _ _ _ h
 split at hq
 ·exact⟨hq.1,hq.2.1,by have:=hq.2.2;rw[lj]at this ⊢;exact hk _ this⟩
 ·exact hq.elim
end
end Go.Proofs.Ytcejcppjedhicaa
