/-
  Regions that W3 their order: new boxes may be used at once. Generic: over any program.
-/
import Derived.Test.YtckgpflobhpnpaaGreatQKb
namespace Go.Proofs.YtckgpflobhpnpaaGreat
open Go.RowKit
set_option linter.unusedVariables false
set_option linter.unusedSimpArgs false
mutual
def nD:D→(D→Prop)→Prop
 | .v x,k=>nV x (fun x=>k (.v x))
 | .agg cs,k=>nL cs (fun cs=>k (.agg cs))
 | .tup cs,k=>nL cs (fun cs=>k (.tup cs))
 | .fn f a b,k=>nL a (fun a=>nL b (fun b=>k (.fn f a b)))
 | .nils,k=>k .nils
 | .own i,k=>k (.own i)
 | .ptr i a b c,k=>k (.ptr i a b c)
 | .iptr cs o,k=>k (.iptr cs o)
 | .yld i,k=>k (.yld i)
 | .capd x,k=>k (.capd x)
 | .gr g r,k=>k (.gr g r)
 | .junk,k=>k .junk
def nV:V→(V→Prop)→Prop
 | .int a n,k=>k (.int a n)
 | .bool b,k=>k (.bool b)
 | .str s,k=>k (.str s)
 | .sl sz enc d l,k=>k (.sl sz enc d l)
 | .mp es,k=>k (.mp es)
 | .nilf,k=>k .nilf
 | .nsl,k=>k .nsl
 | .esl,k=>k .esl
 | .sm true enc d l,k=>k (.sm true enc d l)
 | .sm false enc d l,k=>k (.sm false enc d l)
 | .nmp,k=>k .nmp
 | .fnv f,k=>k (.fnv f)
def nL:List D→(List D→Prop)→Prop
 | [],k=>k []
 | d::r,k=>nD d (fun d=>nL r (fun r=>k (d::r)))
end
theorem Oh:∀(x:V) (k:V→Prop),nV x k=k x:=by
 intro x k
 cases x with
 | sm ag enc d l=>cases ag<;>rfl
 | _=>rfl
mutual
theorem Er:∀(d:D) (k:D→Prop),nD d k=k d
 | .v x,k=>Oh x _
 | .agg cs,k=>xE cs _
 | .tup cs,k=>xE cs _
 | .fn f a b,k=>(xE a _).trans (xE b _)
 | .nils,k=>rfl
 | .own i,k=>rfl
 | .ptr i a b c,k=>rfl
 | .iptr cs o,k=>rfl
 | .yld i,k=>rfl
 | .capd x,k=>rfl
 | .gr g r,k=>rfl
 | .junk,k=>rfl
theorem xE:∀(l:List D) (k:List D→Prop),nL l k=k l
 | [],k=>rfl
 | d::r,k=>(Er d _).trans (xE r _)
end
def nE:List (Nat×D)→(List (Nat×D)→Prop)→Prop
 | [],k=>k []
 | (t,d)::r,k=>nD d (fun d=>nE r (fun r=>k ((t,d)::r)))
theorem LL:∀(l:List (Nat×D)) (k:List (Nat×D)→Prop),nE l k=k l
 | [],k=>rfl
 | (t,d)::r,k=>(Er d _).trans (LL r _)
def nB:ap→(ap→Prop)→Prop
 | .dead,k=>k .dead
 | .var T cs,k=>nL cs (fun cs=>k (.var T cs))
 | .arr E sz enc d l,k=>k (.arr E sz enc d l)
 | .loop l tm nt env ps a b s p,k=>k (.loop l tm nt env ps a b s p)
 | .frame tm env,k=>k (.frame tm env)
 | .ro E sz enc d l,k=>k (.ro E sz enc d l)
 | .mpb t ag enc d l,k=>k (.mpb t ag enc d l)
 | .arrD E sz n gs cell,k=>k (.arrD E sz n gs cell)
 | .grp n f,k=>k (.grp n f)
 | .nest E sz n ce m f,k=>k (.nest E sz n ce m f)
theorem HC (b:ap) (k:ap→Prop):nB b k=k b:=by
 cases b with
 | var T cs=>exact xE cs _
 | _=>rfl
def nH:List ap→(List ap→Prop)→Prop
 | [],k=>k []
 | b::r,k=>nB b (fun b=>nH r (fun r=>k (b::r)))
theorem LM:∀(l:List ap) (k:List ap→Prop),nH l k=k l
 | [],k=>rfl
 | b::r,k=>(HC b _).trans (LM r _)
def nS (st:St) (k:St→Prop):Prop:=nE st.env (fun e=>nH st.heap (fun h=>k ⟨e,h⟩))
theorem mQ (st:St) (k:St→Prop):nS st k=k st:=(LL _ _).trans (LM _ _)
def y4 (P:Program) (nt:Nat) (ops:List Oper) (Us:List (Nat×Ov)):Nat→List Oper→St→(St→Prop)→Prop
 | _,[],st,k=>k st
 | i,o::r,st,k=>match gu ops st o with
  | some true=>match pH P nt (pz Us i) o st with
   | (UW,p1)=>p1∧y4 P nt ops Us (i+1) r UW k
  | some false=>match mM nt st o.dst with
   | (UW,p1)=>p1∧y4 P nt ops Us (i+1) r UW k
  | none=>False
theorem uw {P:Program} {nt:Nat} {ops:List Oper} {Us:List (Nat×Ov)}:∀(r:List Oper) (i:Nat) (st:St) (k:St→Prop),y4 P nt ops Us i r st k→(dQ P nt ops Us i r st).2∧k (dQ P nt ops Us i r st).1
 | [],i,st,k,h=>⟨trivial,h⟩
 | o::r,i,st,k,h=>by
  unfold y4 at h
  unfold dQ
  split at h
  ·rename_i hg
   rw[hg]
   simp only
   generalize hq:pH P nt (pz Us i) o st=q at h
   obtain⟨UW,p1⟩:=q
   obtain⟨h1,h2⟩:=h
   have h3:=uw r (i+1) UW k h2
   exact⟨⟨h1,h3.1⟩,h3.2⟩
  ·rename_i hg
   rw[hg]
   simp only
   generalize hq:mM nt st o.dst=q at h
   obtain⟨UW,p1⟩:=q
   obtain⟨h1,h2⟩:=h
   have h3:=uw r (i+1) UW k h2
   exact⟨⟨h1,h3.1⟩,h3.2⟩
  ·exact h.elim
structure Mk:Type 1 where
 make ::
 d:D
 b:ap
 kl:Option Nat
abbrev mR (d:D) (b:ap):Mk:=.make d b none
def Mk.kil (k:Mk):Option Nat:=match k.b with | .var _ _=>none | _=>k.kl
def Mk.fil (k:Mk):Option Nat:=match k.b with | .var _ _=>k.kl | _=>none
theorem Mr {k:Mk} {i:Nat} (h:k.kil=some i):k.kl=some i:=by
 unfold Mk.kil at h
 split at h
 ·cases h
 ·exact h
theorem vH {k:Mk} {i:Nat} (h:k.fil=some i):k.kl=some i:=by
 unfold Mk.fil at h
 split at h
 ·exact h
 ·cases h
theorem vI {k:Mk} (h:k.kl=none):k.fil=none:=by
 unfold Mk.fil
 split
 ·exact h
 ·rfl
theorem Kg {k:Mk} (h:k.b.isOwn=true∨k.b=.dead):k.fil=none:=by
 unfold Mk.fil
 split
 ·rename_i T cs hb
  rcases h with h | h<;>rw[hb]at h<;>cases h
 ·rfl
theorem Ms {k:Mk} (h:k.fil=none):k.kil=k.kl:=by
 unfold Mk.fil at h
 unfold Mk.kil
 cases hb:k.b<;>rw[hb]at h<;>first | rfl | exact h.symm
def nK:Option Nat→(Option Nat→Prop)→Prop
 | none,k=>k none
 | some i,k=>k (some i)
theorem LN (o:Option Nat) (k:Option Nat→Prop):nK o k=k o:=by cases o<;>rfl
def Kh (H:List ap) (fz:Bool) (E sz:Nat) {α:Type} (enc:α→List V) (d:α) (l:List α) (kl:Option Nat) (p:Prop):Option (Mk×Prop):=match fz with
 | false=>some (.make (.own H.length) (.arr E sz enc d l) kl,p)
 | true=>some (.make (.v (.sl sz enc d l)) .dead kl,p)
def im:Option (Mk×Prop):=some (mR .junk .dead,False)
def HD (P:Program) (H:List ap) (fz:Bool) (E sz:Nat) {α:Type} (enc:α→List V) (d:α) (l:List α) (t:TypeId) (s x:D):Option (Mk×Prop):=match P.underlying t with
 | some (.slice E0)=>match i5 P E0,AU H (aE P E0) x with
  | some z,some new=>match cN P E0&&Nat.beq z.length (aE P E0)&&Nat.ble 1 (aE P E0)&&Nat.ble (i8 P E0) 1024&&(Nat.beq E E0&&Nat.beq sz (aE P E0))with
   | true=>match s with
    | .own id=>match H[id]? with
     | some (.arr E' UR XF _ l0)=>match Nat.beq E' E0&&Nat.beq UR (aE P E0)&&D.free id x with
      | true=>Kh H fz E sz enc d l (some id) (l0.length+new.length≤137438953472∧l0.map XF++new=l.map enc)
      | false=>im
     | _=>im
    | .nils=>Kh H fz E sz enc d l none (new.length≤137438953472∧new=l.map enc)
    | _=>im
   | false=>im
  | _,_=>im
 | _=>im
def HF (P:Program) (H:List ap) (ρ:Operand→D) (ov:Ov) (op:Op):Option (Mk×Prop):=match op with
 | .call ⟨.value f,args,_⟩=>match ov,ρ f with
  | .ownd q' r B,.fn (.func g) first cap=>match gX P g&&(CM r&&(B.isOwn&&fN (first++args.toList.map ρ++cap)))with
   | true=>some (mR (r.up H.length) B,ur P g H (first++args.toList.map ρ++cap) q' r B)
   | false=>im
  | .ownc (some q') r (.arr E sz enc d l),.fn (.func g) first cap=>match gX P g with
   | true=>some (mR (.v (.sl sz enc d l)) .dead,r=.own 0∧qM (.arr E sz enc d l)∧wS H (first++args.toList.map ρ++cap) q'∧ah P g q' [] false (.own 0) [.arr E sz enc d l])
   | false=>im
  | _,_=>none
 | .call ⟨.builtin .append,args,Xr⟩=>match ov,args.toList,Xr.toList with
  | .app fz E sz enc d l,[s,x],[t,t']=>match Nat.beq t t' with
   | true=>HD P H fz E sz enc d l t (ρ s) (ρ x)
   | false=>im
  | _,_,_=>none
 | .buildSlice t len T6=>match ov with
  | .app false E sz enc d l=>match sC P H (.box E sz enc d l) t len (T6.toList.map fun p=>(p.1,ρ p.2))with
   | (.v _,p)=>some (mR (.own H.length) (.arr E sz enc d l),p)
   | _=>im
  | _=>none
 | _=>none
def Ki (P:Program) (H:List ap) (ρ:Operand→D) (ov:Ov) (op:Op):Mk×Prop :=
 match op with
 | .alloc T=>match i5 P T with
  | some z=>match D.freeL H.length z with
   | true=>(mR (.ptr H.length 0 0 0) (.var T z),True)
   | false=>(mR (.junk) (.dead),False)
  | none=>(mR (.junk) (.dead),False)
 | .box T x=>match jP H (ρ x)with
  | some cs=>match D.freeL H.length cs with
   | true=>(mR (.ptr H.length 0 0 0) (.var T cs),True)
   | false=>(mR (.junk) (.dead),False)
  | none=>(mR (.junk) (.dead),False)
 | .makeSlice t l c=>match P.underlying t,ρ l,ρ c with
  | some (.slice E),.v (.int _ n),.v (.int _ m)=>match i5 P E with
   | some z=>match cN P E&&Nat.beq z.length (aE P E)&&Nat.ble 1 (aE P E)&&Nat.ble (i8 P E) 1024 with
    | true=>match ov with
     | .box E' UR Up d' l'=>match Nat.beq E E'&&Nat.beq (aE P E) UR with
      | true=>(mR (.own H.length) (.arr E (aE P E) Up d' l'),(0≤n∧n≤m∧m≤137438953472)∧l'.length=n.toNat∧∀x∈l',cg z (Up x))
      | false=>(mR (.junk) (.dead),False)
     | .frz E' UR Up d' l'=>match Nat.beq E E'&&Nat.beq (aE P E) UR with
      | true=>(mR (.v (.sl (aE P E) Up d' l')) (.dead),(0≤n∧n≤m∧m≤137438953472)∧l'.length=n.toNat∧∀x∈l',cg z (Up x))
      | false=>(mR (.junk) (.dead),False)
     | _=>(mR (.junk) (.dead),False)
    | false=>(mR (.junk) (.dead),False)
   | none=>(mR (.junk) (.dead),False)
  | _,_,_=>(mR (.junk) (.dead),False)
 | .makeMap t none=>match ov with
  | .mbox t' ag enc d _=>match Nat.beq t t' with
   | true=>(mR (.own H.length) (.mpb t ag enc d []),True)
   | false=>(mR (.junk) (.dead),False)
  | _=>(mR (.junk) (.dead),False)
 | op=>match HF P H ρ ov op with
  | some q=>q
  | none=>match PC P H ρ ov op with
   | (d,p)=>(mR (d) (.dead),p)
def lj:Op→Bool
 | .store _ _ _=>true
 | _=>false
def CZ (P:Program) (H:List ap) (t:TypeId) (a x:D):Mk×Prop:=match a,jP [] x with
 | .ptr id i _ M',some new=>match H[id]? with
  | some (.var T cs)=>match cN P t&&Nat.beq new.length (aE P t)&&new.all (vo [])&&(Nat.beq i 0&&Nat.ble (M'+new.length) cs.length)with
   | true=>(.make (.tup []) (.var T (fM cs new M')) (some id),True)
   | false=>(mR .junk .dead,False)
  | _=>(mR .junk .dead,False)
 | _,_=>(mR .junk .dead,False)
def vJ (P:Program) (H:List ap) (ρ:Operand→D) (ov:Ov) (op:Op):Mk×Prop:=match op with
 | .store t a x=>CZ P H t (ρ a) (ρ x)
 | op=>Ki P H ρ ov op
theorem HG {P:Program} {H:List ap} {ρ:Operand→D} {ov:Ov} {op:Op} (h:lj op=false):vJ P H ρ ov op=Ki P H ρ ov op:=by
 cases op<;>first | rfl | cases h
theorem C0 {x:D} {new:List D} (h:jP [] x=some new) (H:List ap):jP H x=some new:=by
 cases x<;>first | exact h | (simp[jP]at h)
theorem HH {x:D} (h:vo [] x=true) (H:List ap):vo H x=true:=by
 cases x<;>first | exact h | (simp[vo]at h)
theorem Kj {new:List D} (h:new.all (vo [])=true) (H:List ap):new.all (vo H)=true:=by
 rw[R7]at h ⊢
 exact fun x hx=>HH (h x hx) H
theorem C2 {P:Program} {H:List ap} {t:TypeId} {a x:D} {k:Mk} {p:Prop} (h:CZ P H t a x=(k,p)) (hp:p) :
  ∃(id:Nat) (T:TypeId) (cs YH:List D),H[id]?=some (.var T cs)∧k=.make (.tup []) (.var T YH) (some id) ∧
   ∀(st:St),st.heap[id]?=some (.var T cs)→vq P st .none t a x=(⟨st.env,st.heap.set id (.var T YH)⟩,True):=by
 unfold CZ at h
 split at h
 ·rename_i id i sz M' new UE
  split at h
  ·rename_i T cs N'
   split at h
   ·rename_i hc
    simp only[RI]at h
    obtain⟨rfl,rfl⟩:=h
    refine⟨id,T,cs,_,N',rfl,fun st Uz=>?_⟩
    simp only[RA]at hc
    obtain⟨⟨⟨h1,h2⟩,h3⟩,h4,h5⟩:=hc
    unfold vq
    rw[C0 UE st.heap]
    simp only[h1,h2,Kj h3 st.heap,Bool.and_self,Tj,Uz,h4,h5]
   ·cases h;exact hp.elim
  ·cases h;exact hp.elim
 ·cases h;exact hp.elim
section
variable {P:Program} {S:Nat→Prop} {μ:Nat→Value} {w:World}
theorem A3 {E:TypeId} {z:List D} {i:TypeInfo} {v:Value} {n m:Int} {α:Type} {enc:α→List V} {d:α} {l:List α} {μ':Nat→Value} (hz:i5 P E=some z) (hi:P.info? E=some i) (hv:i.zero=some v) (Xd:z=v.cells.toList.map D.ofVal1) (Ul:i.size=aE P E)
  (VA:z.length=aE P E) (Ur:1≤aE P E) (h0:0≤n) (Xs:n≤m) (hm:m≤137438953472) (Ud:l.length=n.toNat) (VZ:∀x∈l,cg z (enc x)) :
  aH S μ' (w.alloc (.cells (madeCells v.cells (m.toNat*i.size)) E)) (.slice (some ⟨w.heap.size,0,none⟩) n.toNat m.toNat) (.arr E (aE P E) enc d l):=by
 have Yp:aM S μ' w z v.cells:=by
  rw[Xd]
  refine⟨by simp,fun j y u hy hu=>?_⟩
  simp only[R3,Si,hu,Sr,RM]at hy
  subst hy
  exact an.ofVal1 S μ' w u
 have VM:v.cells.size=aE P E:=by rw[Yp.1,VA]
 refine aH.arr_mk ?_
 refine⟨fun k x hx=>?_,(madeCells v.cells (m.toNat*i.size)).toList.take (n.toNat*aE P E),?_,fun k x j y hx hy=>?_⟩
 ·obtain⟨q,hq,rfl⟩:=eN hx
  rw[← (fC (VZ q (Sf hq))).1,VA]
 ·have hle:n.toNat*aE P E≤m.toNat*i.size:=by rw[Ul];exact R9 _ (by omega)
  refine⟨by simp[size_madeCells,Ud];omega,.inr ⟨w.heap.size,m.toNat,madeCells v.cells (m.toNat*i.size),by simp[Ud],Su _,SF w _,by simp[Ud];omega,by simp only[maxLen];omega,by rw[size_madeCells,Ul],by simp[Ud]⟩⟩
 ·obtain⟨q,hq,rfl⟩:=eN hx
  have VB:k<n.toNat:=by rw[← Ud];exact(Rz.1 hq).1
  obtain⟨r1,r2⟩:=fC (VZ q (Sf hq))
  obtain⟨d,hd,YI⟩:=r2 j y hy
  have hj:j<aE P E:=by rw[← VA];exact(Rz.1 hd).1
  have hjv:j<v.cells.size:=by omega
  have Xt:(k+1)*aE P E≤n.toNat*aE P E:=R9 _ VB
  rw[SL]at Xt
  have hle:n.toNat*aE P E≤m.toNat*i.size:=by rw[Ul];exact R9 _ (by omega)
  refine⟨v.cells[j],?_,(mK YI (Yp.2 j d _ hd (R0 hjv))).stable (fun _ h _=>h) (fun b hb hl=>Below.heap_alloc w _ b hl) (by simp)⟩
  rw[R8,RH (by omega),Si]
  unfold madeCells
  rw[SP,Array.getElem?_range,RH (by omega)]
  simp only[Sr,RM]
  rw[VM,Nat.mul_add_mod_of_lt' hj]
  simp[hjv]
def Mt (S:Nat→Prop) (μ:Nat→Value) (w:World) (H:List ap) (k:Mk) (u:Value) (w':World):Prop :=
 (k.kl=none∧Below w.heap.size w w'∧((k.b=.dead∧an (fun b=>S b∨w.heap.size≤b) μ w' k.d u)∨(∃obj,k.b.live=true∧w'=w.alloc obj∧aH S (aZ μ H.length u) w' u k.b∧an S (aZ μ H.length u) w' k.d u∧∀b,bL u b→b=w.heap.size) ∨
  (∃(S2:Nat→Prop) (μ1:Nat→Value) (u0:Value),k.b.isOwn=true∧(∀b,S b→S2 b)∧(∀b,S2 b→S b∨w.heap.size≤b)∧(∀b,S2 b→b<w'.heap.size)∧aH S2 μ1 w' u0 k.b∧an S2 (aZ μ H.length u0) w' k.d u∧∀b,bL u0 b→w.heap.size≤b∧¬S2 b))) ∨
 (∃(id:Nat) (A B:ap),k.kl=some id∧H[id]?=some A∧A.isArr=true∧B.isArr=true∧w.grownBy w' (aI (μ id))∧aH S μ w' u B∧(∀b,bL u b→aI (μ id)=some b∨w.heap.size≤b) ∧
  ((k.b=B∧k.d=.own H.length)∨∃(E sz:Nat) (α:Type) (enc:α→List V) (d:α) (l:List α),B=.arr E sz enc d l∧k.b=.dead∧k.d=.v (.sl sz enc d l)))
theorem C3 {H:List ap} (hH:bp S μ w H) {E0 sz0:Nat} {α:Type} {XF:α→List V} {d0:α} {l0:List α} {t:TypeId} {len:Nat} {T6:List (Nat×D)} {Ue:List (Nat×Value)} (h1:T6.map (·.1)=Ue.map (·.1))
  (h2:∀(j:Nat) (x:Nat×D) (u:Nat×Value),T6[j]?=some x→Ue[j]?=some u→an S μ w x.2 u.2) (hS:∀b,S b→b<w.heap.size) {d:D} {p:Prop} (hp:sC P H (.box E0 sz0 XF d0 l0) t len T6=(d,p)) (G':p) (Vh:∃x,d=.v x) :
  ∃vs,(Instr.buildSlice t len Ue.toArray).run P w=.ok (.slice (some ⟨w.heap.size,0,none⟩) len len) (w.alloc (.cells vs E0))∧aH S μ (w.alloc (.cells vs E0)) (.slice (some ⟨w.heap.size,0,none⟩) len len) (.arr E0 sz0 XF d0 l0):=by
 unfold sC at hp
 split at hp
 ·rename_i E hu
  split at hp
  ·rename_i z hz
   split at hp
   ·rename_i hc
    simp only[RA,RY,SM]at hc
    obtain⟨⟨⟨hk,VA⟩,Ur⟩,WN⟩:=hc
    obtain⟨i,v,hi,hv,Xd,Ul,hby⟩:=jy hz
    split at hp
    ·rename_i cells hf
     have Yp:aM S μ w z v.cells:=by
      rw[Xd]
      refine⟨by simp,fun j y u hy hu=>?_⟩
      simp only[R3,Si,hu,Sr,RM]at hy
      subst hy
      exact an.ofVal1 S μ w u
     have Xe:=sA (P:=P) Yp VA (by omega) len
     obtain⟨vs,Wj,VM⟩:=fA hH T6 Ue _ cells _ h1 h2 Xe hf
     rw[← Ul]at Wj
     have Uo:=i9 (P:=P) (w:=w) hu hi hv (by rw[Ul];exact WN) Wj
     have hcl:cells.length=len*aE P E:=by
      have:∀(T6:List (Nat×D)) (c0 Wt:List D),gT H (fun i=>some (i*aE P E,aE P E)) c0 T6=some Wt→Wt.length=c0.length:=by
       intro T6
       induction T6 with
       | nil=>intro c0 Wt h;simp only[gT,RM]at h;rw[h]
       | cons q r ih =>
        intro c0 Wt h
        obtain⟨k,x⟩:=q
        unfold gT at h
        split at h
        ·split at h
         ·rename_i UB
          simp only[RA,SM]at UB
          rw[ih _ _ h]
          simp[fM]
          omega
         ·cases h
        ·cases h
      rw[this _ _ _ hf]
      simp[VA]
     have Ud:len≤maxLen:=by
      have:len*1≤len*aE P E:=TE _ Ur
      simp only[maxLen]
      omega
     simp only at hp
     split at hp
     ·rename_i hc
      simp only[RA,RY]at hc
      obtain⟨rfl,rfl⟩:=hc
      simp only[RI]at hp
      obtain⟨rfl,rfl⟩:=hp
      refine⟨vs,Uo,?_⟩
      obtain⟨q1,q2⟩:=lf G'
      have hA:gt S (w.alloc (.cells vs E)) E (aE P E) (l0.map XF) (.slice (some ⟨w.heap.size,0,none⟩) len len):=by
       refine uu VM hcl Ud (by rw[← q1];simp[pG]) (fun i x hx=>?_) hS
       obtain⟨r,hr,UA⟩:=q2 i x hx
       obtain⟨r1,r2⟩:=fC UA
       obtain⟨hin,rfl⟩:=kd _ _ _ hr
       refine⟨?_,fun j y hy=>?_⟩
       ·rw[← r1,RZ,Sd,hcl]
        have:(i+1)*aE P E≤len*aE P E:=R9 _ hin
        rw[SL]at this
        omega
       ·obtain⟨d,hd,YI⟩:=r2 j y hy
        exact⟨d,lg hr hd,fun u hu=>mK YI hu⟩
      exact hA.box rfl
     ·cases hp;exact G'.elim
    ·cases hp;exact G'.elim
   ·cases hp;exact G'.elim
  ·cases hp;exact G'.elim
 ·cases hp;exact G'.elim
theorem A4 {H:List ap} {fz:Bool} {E sz:Nat} {α:Type} {enc:α→List V} {d:α} {l:List α} {kl:Option Nat} {q:Prop} {k:Mk} {p:Prop} (h:Kh H fz E sz enc d l kl q=some (k,p)) :
  p=q∧k.kl=kl∧((k.b=.arr E sz enc d l∧k.d=.own H.length)∨(k.b=.dead∧k.d=.v (.sl sz enc d l))):=by
 unfold Kh at h
 cases fz<;>simp only[RM,RI]at h<;>obtain⟨rfl,rfl⟩:=h
 ·exact⟨rfl,rfl,.inl ⟨rfl,rfl⟩⟩
 ·exact⟨rfl,rfl,.inr ⟨rfl,rfl⟩⟩
theorem dy {k:Mk} {p:Prop} (h:im=some (k,p)):p=False:=by
 simp only[im,RM,RI]at h
 exact h.2.symm
theorem A5 {H:List ap} (hH:bp S μ w H) (hS:∀b,S b→b<w.heap.size) {fz:Bool} {E sz:Nat} {α:Type} {enc:α→List V} {d:α} {l:List α} {t ty:TypeId} {s x:D} {us ux:Value} (hs:an S μ w s us) (hx:an S μ w x ux) {k:Mk} {p:Prop}
  (hp:HD P H fz E sz enc d l t s x=some (k,p)) (G':p):∃u w',(Builtin.append_ #[t,t] ty #[us,ux]).run P w=.ok u w'∧Mt S μ w H k u w':=by
 unfold HD at hp
 split at hp
 case h_2=>rw[dy hp]at G';exact G'.elim
 rename_i E0 hu
 split at hp
 case h_2=>rw[dy hp]at G';exact G'.elim
 rename_i z new hz UE
 split at hp
 case h_2=>rw[dy hp]at G';exact G'.elim
 rename_i UB
 simp only[RA,RY,SM]at UB
 obtain⟨⟨⟨⟨hk,VA⟩,Ur⟩,ZH⟩,rfl,rfl⟩:=UB
 obtain⟨i,v,hi,hv,Xd,Ul,hby⟩:=jy hz
 have VM:v.cells.size=i.size:=by rw[Ul,← VA,Xd];simp
 obtain⟨pa,c,Uw,rfl,n1,n2,n3,n4,n5,n6⟩:=mL hH Ur UE hx
 rw[← Ul]at n2 n6 n5
 have bytes:∀k,k≤137438953472→k*i.bytes≤140737488355328:=by
  intro k hk
  have:k*i.bytes≤137438953472*1024:=Tt hk (by omega)
  omega
 split at hp
 ·rename_i id
  split at hp
  case h_2=>rw[dy hp]at G';exact G'.elim
  rename_i E' UR β XF d0 l0 N'
  split at hp
  case h_2=>rw[dy hp]at G';exact G'.elim
  rename_i Xu
  simp only[RA,RY]at Xu
  obtain⟨⟨rfl,rfl⟩,hfx⟩:=Xu
  obtain⟨rfl,VB,hval⟩:=A4 hp
  obtain⟨Ud,Zv⟩:=G'
  have UG:=bX hs
  subst UG
  obtain⟨r0,xs,r1,r2⟩:=gt.of (hH.box id _ N')
  simp only[RJ]at r1
  have hmax:l0.length+new.length≤maxLen:=by simp only[maxLen];omega
  obtain⟨v',w',Uo,ho,hg,Uj⟩:=ed (P:=P) (w:=w) t ty E' i v hu hi hv VM (by rw[Ul];exact r1) n1 n2 n3 n4 hmax (bytes _ Ud)
  have Uc:(μ id).ownBlock=aI (μ id):=by
   obtain⟨p',c',hm,_⟩:=cD (hH.box id _ N')
   rw[hm]
   cases p'<;>rfl
  have Xv:∀b,S b→b<w.heap.size→w'.heap[b]?=w.heap[b]?:=fun b hb hl=>hg.block b hl (fun e=>hH.notS id _ b N' rfl (.inl (by rw[← Uc];exact e.symm)) hb)
  have hA:gt S w' E' (aE P E') (l0.map XF++new) v':=by
   rw[Ul]at ho n2 n5 n6
   refine gt.append r0 (by rw[r1.1];simp) (fun k x j y hx hy=>?_) n5 (fun k x j y hx hy=>?_) (by simpa using ho)
   ·obtain⟨z,hz,hr⟩:=r2 k x j y hx hy
    exact⟨z,hz,hr.stable (fun _ h _=>h) Xv hg.size⟩
   ·obtain⟨z,hz,hr⟩:=n6 k x j y hx hy
    exact⟨z,hz,hr.stable (fun _ h _=>h) Xv hg.size⟩
  rw[Zv]at hA
  have hB:aH S μ w' v' (.arr E' (aE P E') enc d l):=hA.box rfl
  have YJ:∀b,bL v' b→aI (μ id)=some b∨w.heap.size≤b:=by
   intro b hb
   have hb:=hb.bl (by rcases ho.2 with ⟨rfl,_⟩ | ⟨g,cap,UH,rfl,_⟩<;>rfl)
   have V7:v'.ownBlock=aI v':=by
    rcases ho.2 with ⟨rfl,_⟩ | ⟨g,cap,UH,rfl,_⟩<;>rfl
   rcases Uj with Uj | Uj
   ·exact .inl (by rw[← Uc,← Uj,V7];exact hb)
   ·rw[V7,hb]at Uj
    cases Uj
    exact .inr (RD _)
  refine⟨v',w',Uo,.inr ⟨id,_,_,VB,N',rfl,rfl,by rw[← Uc];exact hg,hB,YJ,?_⟩⟩
  rcases hval with ⟨e1,e2⟩ | ⟨e1,e2⟩
  ·exact .inl ⟨e1,e2⟩
  ·exact .inr ⟨_,_,_,_,_,_,rfl,e1,e2⟩
 ·obtain⟨rfl,VB,hval⟩:=A4 hp
  obtain⟨Ud,Zv⟩:=G'
  cases hs
  obtain⟨v',w',Uo,ho,hg,Uj⟩:=ed (P:=P) (w:=w) t ty E i v hu hi hv VM (Td w 0 E i.size) n1 n2 n3 n4 (by simp only[maxLen];omega) (bytes _ (by omega))
  have Yq:w.grownBy w' none:=hg
  have Xv:∀b,S b→b<w.heap.size→w'.heap[b]?=w.heap[b]?:=fun b hb hl=>Yq.block b hl (by simp)
  have hA:gt S w' E (aE P E) ([]++new) v':=by
   rw[Ul]at ho n2 n5 n6
   refine gt.append (xs:=[]) (fun k x hx=>by simp at hx) (by simp) (fun k x j y hx=>by simp at hx) n5 (fun k x j y hx hy=>?_) (by simpa using ho)
   obtain⟨z,hz,hr⟩:=n6 k x j y hx hy
   exact⟨z,hz,hr.stable (fun _ h _=>h) Xv Yq.size⟩
  rw[TK,Zv]at hA
  have hB:aH S μ w' v' (.arr E (aE P E) enc d l):=hA.box rfl
  have hvb:∀b,bL v' b→w.heap.size≤b:=by
   intro b hb
   have hb:=hb.bl (by rcases ho.2 with ⟨rfl,_⟩ | ⟨g,cap,UH,rfl,_⟩<;>rfl)
   have V7:v'.ownBlock=aI v':=by
    rcases ho.2 with ⟨rfl,_⟩ | ⟨g,cap,UH,rfl,_⟩<;>rfl
   rcases Uj with Uj | Uj
   ·rw[V7,hb]at Uj;cases Uj
   ·rw[V7,hb]at Uj;cases Uj;exact RD _
  have V':Below w.heap.size w w':=⟨Yq.os,Yq.tape,Yq.output,Yq.size,fun k hk=>Yq.block k hk (by simp)⟩
  refine⟨v',w',Uo,.inl ⟨VB,V',?_⟩⟩
  rcases hval with ⟨e1,e2⟩ | ⟨e1,e2⟩
  ·refine .inr (.inr ⟨S,μ,v',by rw[e1];rfl,fun _ h=>h,fun _ h=>.inl h,fun b hb=>SA (hS b hb) Yq.size,by rw[e1];exact hB,?_,fun b hb=>⟨hvb b hb,fun hSb=>by have:=hS b hSb;have:=hvb b hb;omega⟩⟩)
   rw[e2]
   have:=an.own (S:=S) (μ:=aZ μ H.length v') (w:=w') H.length
   rwa [ay]at this
  ·refine .inl ⟨e1,?_⟩
   rw[e2]
   exact .v _ _ (iI (S':=fun b=>S b∨w.heap.size≤b) hB (fun b hb=>Or.inl hb) (fun b hb=>Or.inr (hvb b hb)) (fun b hb=>SA (hS b hb) Yq.size))
 ·rw[dy hp]at G';exact G'.elim
theorem A6 {H:List ap} (hH:bp S μ w H) (hS:∀b,S b→b<w.heap.size) (hG:gf S w) {ρ:Operand→D} {ρ':Operand→Value} (hρ:∀x,an S μ w (ρ x) (ρ' x)) {ov:Ov} {o:Oper} {k:Mk} {p:Prop} (hp:HF P H ρ ov o.op=some (k,p)) (G':p)
  {R:Value→World→Prop} (hR:∀u w',Mt S μ w H k u w'→R u w'):pu P R ((execOp ρ' o).run P w):=by
 unfold HF at hp
 split at hp
 ·rename_i f args Xr ho
  split at hp
  ·rename_i q' r B g first cap hf
   split at hp
   ·rename_i hc
    simp only[RA]at hc
    obtain⟨Wx,hr,hBA,U'⟩:=hc
    simp only[RM,RI]at hp
    obtain⟨rfl,rfl⟩:=hp
    have VF:=hf ▸ hρ f
    generalize Vu:ρ' f=uf at VF
    cases VF with
    | fn _ _ _ us vs h1 h2 h3 h4 =>
     have Uo:(execOp ρ' o).run P w=.ok (.enter g (us++args.map ρ'++vs)) w:=by
      simp[execOp,ho,resolve,Vu,Deferred.ofValue,invoke,bG Wx]
     rw[Uo]
     have Vv:aM S μ w (args.toList.map ρ) (args.map ρ'):=by
      refine⟨by simp,fun j y z hy hz=>?_⟩
      simp only[R3,Si,SP]at hy hz
      cases hj:args[j]? with
      | none=>rw[hj]at hy;cases hy
      | some x=>rw[hj]at hy hz;simp at hy hz;subst hy hz;exact hρ x
     have hall:=aM.app (aM.app ⟨h1,h2⟩ Vv) ⟨h3,h4⟩
     obtain⟨X4,hc',YK⟩:∃X4,ah P g X4 [] false r [B]∧aM S μ w X4 (us++args.map ρ'++vs):=by
      cases q' with
      | none=>exact⟨_,G',hall⟩
      | some q'=>exact⟨q',G'.2,kZ hH (fun _ h=>h) hS (.inr U') G'.1 hall⟩
     refine pu.enter ((hc' S μ w _ hS hG ⟨fun id B hB=>by simp at hB,fun i j A B b hA=>by simp at hA,fun i A b hA=>by simp at hA⟩ YK).mono ?_)
     rintro e w' ⟨u,μ',S',rfl,q1,q2,q3,q4,q5,q6,q7,q8,q9,q10,q11,_⟩
     have hl:B.live=true:=by cases B<;>first | rfl | cases hBA
     refine⟨u,rfl,hR u w' (.inl ⟨rfl,⟨q1,q2,q3,q4,fun k hk=>q5 k hk (fun i A hA=>by simp at hA)⟩,.inr (.inr ⟨S',μ',μ' 0,hBA,q6,q7,q8,q10.box 0 B rfl,CP q9 hr (ay _ _ _),fun b hb=>⟨?_,q10.notS 0 B b rfl hl hb⟩⟩)⟩)⟩
     rcases q11 0 B b rfl hl hb with hb | ⟨j,A',UT,_⟩
     ·exact hb
     ·simp at UT
   ·rw[dy hp]at G';exact G'.elim
  ·rename_i q' r E sz α enc d l g first cap hf
   split at hp
   ·rename_i Wx
    simp only[RM,RI]at hp
    obtain⟨rfl,rfl⟩:=hp
    obtain⟨_,X5,YL,hc'⟩:=G'
    have VF:=hf ▸ hρ f
    generalize Vu:ρ' f=uf at VF
    cases VF with
    | fn _ _ _ us vs h1 h2 h3 h4 =>
     have Uo:(execOp ρ' o).run P w=.ok (.enter g (us++args.map ρ'++vs)) w:=by
      simp[execOp,ho,resolve,Vu,Deferred.ofValue,invoke,bG Wx]
     rw[Uo]
     have Vv:aM S μ w (args.toList.map ρ) (args.map ρ'):=by
      refine⟨by simp,fun j y z hy hz=>?_⟩
      simp only[R3,Si,SP]at hy hz
      cases hj:args[j]? with
      | none=>rw[hj]at hy;cases hy
      | some x=>rw[hj]at hy hz;simp at hy hz;subst hy hz;exact hρ x
     have hall:=aM.app (aM.app ⟨h1,h2⟩ Vv) ⟨h3,h4⟩
     have hSc:∀b,(S b∨∃(i:Nat) (A:ap),H[i]?=some A∧A.mem=true∧bL (μ i) b)→b<w.heap.size:=by
      rintro b (hb | ⟨i,A,hA,hl,hb⟩)
      ·exact hS b hb
      ·exact(hH.box i A hA).lt (ap.mem_live hl) b hb
     have YK:=kZ (S':=fun b=>S b∨∃(i:Nat) (A:ap),H[i]?=some A∧A.mem=true∧bL (μ i) b) hH (fun b hb=>.inl hb) hS (.inl (fun i A b hA hl hb=>.inr ⟨i,A,hA,hl,hb⟩)) YL hall
     refine pu.enter ((hc' _ μ w _ hSc (hG.stable (fun b hb _=>.inl hb) (fun _ _ _=>rfl) (RD _)) ⟨fun id B hB=>by simp at hB,fun i j A B b hA=>by simp at hA,fun i A b hA=>by simp at hA⟩ YK).mono ?_)
     rintro e w' ⟨u,μ',S',rfl,q1,q2,q3,q4,q5,q6,q7,q8,q9,q10,q11,_⟩
     have hu:=bX q9
     subst hu
     have hB:aH S μ w' (μ' 0) (.arr E sz enc d l):=(q10.box 0 _ rfl).flat X5
     refine⟨_,rfl,hR _ w' (.inl ⟨rfl,⟨q1,q2,q3,q4,fun k hk=>q5 k hk (fun i A hA=>by simp at hA)⟩,.inl ⟨rfl,.v _ _ (vl hB (fun b hb=>Or.inl hb) (fun b hb=>Or.inr ?_))⟩⟩)⟩
     rcases q11 0 _ b rfl rfl hb with hb | ⟨j,A',UT,_⟩
     ·exact hb
     ·simp at UT
   ·rw[dy hp]at G';exact G'.elim
  ·cases hp
 ·rename_i args Xr ho
  split at hp
  ·rename_i fz E sz α enc d l s x t t' ha ht
   split at hp
   ·rename_i hc
    rw[RY]at hc
    subst hc
    have ea:args=#[s,x]:=TA (by simpa using ha)
    have et:Xr=#[t,t]:=TA (by simpa using ht)
    subst ea et
    obtain⟨u,w',h1,h2⟩:=A5 (ty:=o.type) hH hS (hρ s) (hρ x) hp G'
    refine pu.of (v:=u) (w':=w') ?_ (hR u w' h2)
    simp only[execOp,ho,resolve,invoke,builtin,Tl,SJ,R4,RG,R5,RF,h1]
   ·rw[dy hp]at G';exact G'.elim
  ·cases hp
 ·rename_i t len T6 ho
  split at hp
  ·rename_i E sz α enc d l
   split at hp
   ·rename_i y q hq
    simp only[RM,RI]at hp
    obtain⟨rfl,rfl⟩:=hp
    obtain⟨vs,h1,h2⟩:=C3 hH (Ue:=T6.toList.map fun p=>(p.1,ρ' p.2)) (by simp) (fun j x u hx hu=>by
     simp only[R3,Si]at hx hu
     cases hj:T6[j]? with
     | none=>rw[hj]at hx;cases hx
     | some q=>rw[hj]at hx hu;simp at hx hu;subst hx hu;exact hρ q.2) hS hq G' ⟨_,rfl⟩
    have he:T6.map (fun (i,x)=>(i,ρ' x))=(T6.toList.map fun p=>(p.1,ρ' p.2)).toArray:=TA (by simp)
    rw[← he]at h1
    refine pu.of (v:=.slice (some ⟨w.heap.size,0,none⟩) len len) (w':=w.alloc (.cells vs E)) ?_ (hR _ _ (.inl ⟨rfl,(Below.refl _ _).alloc (RD _) _,.inr (.inl ⟨_,rfl,rfl,h2.arrMu rfl,?_,fun b hb=>by simp[bL,aI]at hb;exact hb.symm⟩)⟩))
    ·simp only[execOp,ho,RG,h1,RF,R5]
    ·have:=an.own (S:=S) (μ:=aZ μ H.length (Value.slice (some ⟨w.heap.size,0,none⟩) len len)) (w:=w.alloc (.cells vs E)) H.length
     rwa [ay]at this
   ·rw[dy hp]at G';exact G'.elim
  ·cases hp
 ·cases hp
theorem C4 {H:List ap} (hH:bp S μ w H) (hS:∀b,S b→b<w.heap.size) (hG:gf S w) {ρ:Operand→D} {ρ':Operand→Value} (hρ:∀x,an S μ w (ρ x) (ρ' x)) {ov:Ov} {o:Oper} {k:Mk} {p:Prop} (hp:Ki P H ρ ov o.op=(k,p)) (G':p)
  {R:Value→World→Prop} (hR:∀u w',Mt S μ w H k u w'→R u w'):pu P R ((execOp ρ' o).run P w):=by
 unfold Ki at hp
 split at hp
 ·rename_i T ho
  split at hp
  ·rename_i z hz
   split at hp
   case h_2=>cases hp;exact G'.elim
   rename_i VW
   simp only[RI]at hp
   obtain⟨rfl,rfl⟩:=hp
   obtain⟨v,Vf,Wy⟩:=gU (P:=P) (S:=S) (μ:=μ) (w:=w) hz
   refine pu.of (v:=.pointer (some ⟨w.heap.size,0,none⟩)) (w':=w.alloc (.cells v.cells T)) ?_ (hR _ _ (.inl ⟨rfl,(Below.refl _ _).alloc (RD _) _,.inr (.inl ⟨_,rfl,rfl,?_,?_,fun b hb=>by simp[bL,aI]at hb;exact hb.symm⟩)⟩))
   ·simp[execOp,ho,Instr.alloc,RG,Vf,newVar,newRow,newObj,Sem.run]
   ·refine⟨w.heap.size,v.cells,rfl,SF w _,Wy.1,fun j y x hy hx=>?_⟩
    exact(Wy.2 j y x hy hx).stable (fun _ h _=>h) (fun b hb hl=>Below.heap_alloc w _ b hl) (by simp) (fun id Uh=>aG _ _ (fun e=>by rw[e,D.freeL_get VW hy]at Uh;cases Uh))
   ·exact .ptr _ 0 0 0 _ (by rw[ay];rfl)
  ·cases hp;exact G'.elim
 ·rename_i T x ho
  split at hp
  ·rename_i cs hcs
   split at hp
   case h_2=>cases hp;exact G'.elim
   rename_i VW
   simp only[RI]at hp
   obtain⟨rfl,rfl⟩:=hp
   have Wy:=iG hH (hρ x) hcs
   refine pu.of (v:=.pointer (some ⟨w.heap.size,0,none⟩)) (w':=w.alloc (.cells (ρ' x).cells T)) ?_ (hR _ _ (.inl ⟨rfl,(Below.refl _ _).alloc (RD _) _,.inr (.inl ⟨_,rfl,rfl,?_,?_,fun b hb=>by simp[bL,aI]at hb;exact hb.symm⟩)⟩))
   ·simp[execOp,ho,Instr.box,newVar,newRow,newObj,Sem.run]
   ·refine⟨w.heap.size,(ρ' x).cells,rfl,SF w _,Wy.1,fun j y x hy hx=>?_⟩
    exact(Wy.2 j y x hy hx).stable (fun _ h _=>h) (fun b hb hl=>Below.heap_alloc w _ b hl) (by simp) (fun id Uh=>aG _ _ (fun e=>by rw[e,D.freeL_get VW hy]at Uh;cases Uh))
   ·exact .ptr _ 0 0 0 _ (by rw[ay];rfl)
  ·cases hp;exact G'.elim
 ·rename_i t l c ho
  split at hp
  ·rename_i E kl n kc m hu Vw hc0
   split at hp
   ·rename_i z hz
    split at hp
    ·rename_i UB
     simp only[RA,RY,SM]at UB
     obtain⟨⟨⟨hk,VA⟩,Ur⟩,ZH⟩:=UB
     obtain⟨i,v,hi,hv,Xd,Ul,hby⟩:=jy hz
     have hl:=hρ l
     have hc:=hρ c
     rw[Vw]at hl
     rw[hc0]at hc
     have Wz:(0≤n∧n≤m∧m≤137438953472)→(execOp ρ' o).run P w=.ok (.value (.slice (some ⟨w.heap.size,0,none⟩) n.toNat m.toNat)) (w.alloc (.cells (madeCells v.cells (m.toNat*i.size)) E)):=by
      rintro⟨h0,Xs,hm⟩
      have hbm:(i.bytes:Int)*m≤281474976710656:=by
       have h9:(i.bytes:Int)≤1024:=by omega
       have:(i.bytes:Int)*m≤1024*m:=Int.mul_le_mul_of_nonneg_right h9 (by omega)
       omega
      have Uo:=run_make (P:=P) w t E i v hu hi hv kl kc n m h0 Xs hbm (by omega)
      rw[← bW hl,← bW hc]at Uo
      simp only[execOp,ho,RG,Uo,RF,R5]
     split at hp
     ·rename_i E' UR α Up d' l'
      split at hp
      ·rename_i Xu
       simp only[RA,RY]at Xu
       obtain⟨rfl,rfl⟩:=Xu
       simp only[RI]at hp
       obtain⟨rfl,rfl⟩:=hp
       obtain⟨Xs,Ud,VZ⟩:=G'
       refine pu.of (Wz Xs) (hR _ _ (.inl ⟨rfl,(Below.refl _ _).alloc (RD _) _,.inr (.inl ⟨_,rfl,rfl,A3 hz hi hv Xd Ul VA Ur Xs.1 Xs.2.1 Xs.2.2 Ud VZ,?_,fun b hb=>by simp[bL,aI]at hb;exact hb.symm⟩)⟩))
       have:=an.own (S:=S) (μ:=aZ μ H.length (Value.slice (some ⟨w.heap.size,0,none⟩) n.toNat m.toNat)) (w:=w.alloc (.cells (madeCells v.cells (m.toNat*i.size)) E)) H.length
       rwa [ay]at this
      ·cases hp;exact G'.elim
     ·rename_i E' UR α Up d' l'
      split at hp
      ·rename_i Xu
       simp only[RA,RY]at Xu
       obtain⟨rfl,rfl⟩:=Xu
       simp only[RI]at hp
       obtain⟨rfl,rfl⟩:=hp
       obtain⟨Xs,Ud,VZ⟩:=G'
       have hB:aH S μ (w.alloc (.cells (madeCells v.cells (m.toNat*i.size)) E)) (.slice (some ⟨w.heap.size,0,none⟩) n.toNat m.toNat) (.arr E (aE P E) Up d' l'):=A3 hz hi hv Xd Ul VA Ur Xs.1 Xs.2.1 Xs.2.2 Ud VZ
       refine pu.of (Wz Xs) (hR _ _ (.inl ⟨rfl,(Below.refl _ _).alloc (RD _) _,.inl ⟨rfl,.v _ _ (iI (S':=fun b=>S b∨w.heap.size≤b) hB (fun b hb=>Or.inl hb) (fun b hb=>Or.inr (by simp[bL,aI]at hb;omega)) (fun b hb=>by have:=hS b hb;simp;omega))⟩⟩))
      ·cases hp;exact G'.elim
     ·cases hp;exact G'.elim
    ·cases hp;exact G'.elim
   ·cases hp;exact G'.elim
  ·cases hp;exact G'.elim
 ·rename_i t ho
  split at hp
  ·rename_i t' ag α enc d l
   split at hp
   ·simp only[RI]at hp
    obtain⟨rfl,rfl⟩:=hp
    refine pu.of (v:=.map (some w.heap.size)) (w':=w.alloc (.map #[] 0)) ?_ (hR _ _ (.inl ⟨rfl,(Below.refl _ _).alloc (RD _) _,.inr (.inl ⟨_,rfl,rfl,?_,?_,fun b hb=>by simp[bL,aI]at hb;exact hb.symm⟩)⟩))
    ·simp[execOp,ho,Instr.makeMap,newObj,Sem.run]
    ·exact⟨w.heap.size,#[],0,rfl,SF w _,rfl,fun i k x hx=>by simp at hx⟩
    ·have:=an.own (S:=S) (μ:=aZ μ H.length (.map (some w.heap.size))) (w:=w.alloc (.map #[] 0)) H.length
     rwa [ay]at this
   ·cases hp;exact G'.elim
  ·cases hp;exact G'.elim
 ·rename_i h1 h2 h3 h4
  split at hp
  ·rename_i q hq
   obtain⟨k',p'⟩:=q
   simp only[RI]at hp
   obtain⟨rfl,rfl⟩:=hp
   exact A6 hH hS hG hρ hq G' hR
  generalize hq:PC P H ρ ov o.op=q at hp
  obtain⟨d,q⟩:=q
  simp only[RI]at hp
  obtain⟨rfl,rfl⟩:=hp
  refine Gc hH hS hG hρ hq G' ?_ (fun u w' hb hd=>hR u w' (.inl ⟨rfl,hb,.inl ⟨rfl,hd⟩⟩))
  unfold Mp
  split
  ·rename_i T ho;exact(h1 T ho).elim
  ·rfl
end
def Mu:List Bool→List Bool→List Bool
 | a::q',b::bs=>(a||b)::Mu q' bs
 | [],bs=>bs
 | q',[]=>q'
def xF:Nat→List Bool
 | 0=>[true]
 | n+1=>false::xF n
def iK (P':List (List Bool)):List Edge→List Bool
 | []=>[]
 | e::r=>if Region.binds .any e then Mu (Mu (xF e.on) (P'.getD e.on [])) (iK P' r)else iK P' r
theorem y5:∀(a b:List Bool) (j:Nat),(Mu a b).getD j false=(a.getD j false||b.getD j false)
 | a::q',b::bs,0=>rfl
 | a::q',b::bs,j+1=>by simpa[Mu]using y5 q' bs j
 | [],bs,j=>by simp[Mu]
 | a::q',[],j=>by simp[Mu]
theorem xG:∀(n j:Nat),(xF n).getD j false=true→j=n
 | 0,0,_=>rfl
 | 0,j+1,h=>by simp[xF]at h
 | n+1,0,h=>by simp[xF]at h
 | n+1,j+1,h=>by have:=xG n j (by simpa[xF]using h);omega
theorem qT {P':List (List Bool)} {j:Nat}:∀{es:List Edge},(iK P' es).getD j false=true→∃e∈es,Region.binds .any e=true∧(j=e.on∨(P'.getD e.on []).getD j false=true)
 | [],h=>by simp[iK]at h
 | e::r,h=>by
  unfold iK at h
  split at h
  ·rename_i hb
   rw[y5,y5]at h
   simp only[Sh]at h
   rcases h with (h | h) | h
   ·exact⟨e,Se ..,hb,.inl (xG _ _ h)⟩
   ·exact⟨e,Se ..,hb,.inr h⟩
   ·obtain⟨e',h1,h2⟩:=qT h
    exact⟨e',Sb _ h1,h2⟩
  ·obtain⟨e',h1,h2⟩:=qT h
   exact⟨e',Sb _ h1,h2⟩
def mt:List Oper→List Mk→List Bool→List (Nat×D)
 | o::os,k::ks,b::bs=>match b,o.dst with
  | true,some t=>(t,k.d)::mt os ks bs
  | _,_=>mt os ks bs
 | _,_,_=>[]
def jQ (id:Nat):List Mk→List Bool→Bool
 | k::ks,true::bs=>(match k.kil with | some i=>Nat.beq i id | none=>false)||jQ id ks bs
 | _::ks,false::bs=>jQ id ks bs
 | _,_=>false
def ke (id:Nat) (bs:List Bool):Nat→List Mk→Option ap
 | _,[]=>none
 | p,k::ks=>match k.fil,bs.getD p false with
  | some i,true=>(match Nat.beq i id with | true=>some k.b | false=>ke id bs (p+1) ks)
  | _,_=>ke id bs (p+1) ks
def kf (id:Nat) (ks:List Mk) (bs:List Bool):Option ap:=ke id bs 0 ks
def Oi (Xw:List Mk) (Xx:List Bool) (id:Nat) (k:Mk):ap:=match jQ id Xw Xx,k.fil,kf id Xw Xx with
 | false,none,some B=>B
 | false,none,none=>k.b
 | _,_,_=>.dead
def jb (Xw:List Mk) (Xx:List Bool):Nat→List Mk→List Bool→List ap
 | _,[],_=>[]
 | id,_::ks,[]=>.dead::jb Xw Xx (id+1) ks []
 | id,k::ks,true::bs=>Oi Xw Xx id k::jb Xw Xx (id+1) ks bs
 | id,_::ks,false::bs=>.dead::jb Xw Xx (id+1) ks bs
def d4 (n0:Nat) (ks:List Mk) (bs:List Bool):List ap:=jb ks bs n0 ks bs
theorem gv {id:Nat} {bs:List Bool} {B:ap}:∀{ks:List Mk} {p0:Nat},ke id bs p0 ks=some B→∃(p:Nat) (k:Mk),ks[p]?=some k∧bs.getD (p0+p) false=true∧k.fil=some id∧B=k.b
 | [],p0,h=>by simp[ke]at h
 | k::ks,p0,h=>by
  unfold ke at h
  have go:ke id bs (p0+1) ks=some B→∃(p:Nat) (k':Mk),(k::ks)[p]?=some k'∧bs.getD (p0+p) false=true∧k'.fil=some id∧B=k'.b:=fun h=>by
   obtain⟨p,k',h1,h2,h3⟩:=gv h
   exact⟨p+1,k',by simpa using h1,by rw[show p0+(p+1)=p0+1+p by omega];exact h2,h3⟩
  split at h
  ·rename_i i hf hb
   split at h
   ·rename_i he
    rw[RY]at he
    cases h
    exact⟨0,k,rfl,hb,by rw[hf,he],rfl⟩
   ·exact go h
  ·exact go h
theorem lk {id:Nat} {bs:List Bool}:∀{ks:List Mk} {p0:Nat},ke id bs p0 ks=none→∀(p:Nat) (k:Mk),ks[p]?=some k→bs.getD (p0+p) false=true→k.fil=some id→False
 | [],p0,h,p,k,h1,_,_=>by simp at h1
 | k'::ks,p0,h,p,k,h1,h2,h3=>by
  unfold ke at h
  cases p with
  | zero =>
   simp at h1;subst h1
   rw[h3,show bs.getD p0 false=true from h2]at h
   simp at h
  | succ p =>
   have h4:ke id bs (p0+1) ks=none:=by
    split at h
    ·split at h
     ·cases h
     ·exact h
    ·exact h
   exact lk h4 p k (by simpa using h1) (by rw[show p0+1+p=p0+(p+1) by omega];exact h2) h3
theorem tv {id:Nat} {bs bs':List Bool}:∀{ks:List Mk} {p0:Nat},(∀(p:Nat) (k:Mk),ks[p]?=some k→k.fil=some id→bs.getD (p0+p) false=bs'.getD (p0+p) false)→ke id bs p0 ks=ke id bs' p0 ks
 | [],p0,h=>rfl
 | k::ks,p0,h=>by
  have ih:=tv (id:=id) (bs:=bs) (bs':=bs') (ks:=ks) (p0:=p0+1) (fun p k' h1 h2=>by
   have:=h (p+1) k' (by simpa using h1) h2
   rwa [show p0+(p+1)=p0+1+p by omega]at this)
  unfold ke
  cases hf:k.fil with
  | none=>simp only;exact ih
  | some i =>
   by_cases e:i=id
   ·have:=h 0 k rfl (by rw[hf,e])
    rw[SY]at this
    rw[this]
    subst e
    cases bs'.getD p0 false
    ·exact ih
    ·simp
   ·have e2:Nat.beq i id=false:=by
     cases hb:Nat.beq i id
     ·rfl
     ·rw[RY]at hb;exact(e hb).elim
    cases bs.getD p0 false<;>cases bs'.getD p0 false<;>simp only[e2]<;>exact ih
theorem qU {id:Nat}:∀{ks:List Mk} {bs:List Bool},jQ id ks bs=true→∃(p:Nat) (k:Mk),ks[p]?=some k∧bs.getD p false=true∧k.kil=some id
 | [],bs,h=>by simp[jQ]at h
 | k::ks,[],h=>by simp[jQ]at h
 | k::ks,true::bs,h=>by
  unfold jQ at h
  rw[Sh]at h
  rcases h with h | h
  ·split at h
   ·rename_i i hk;rw[RY]at h;exact⟨0,k,rfl,rfl,by rw[hk,h]⟩
   ·cases h
  ·obtain⟨p,k',h1,h2,h3⟩:=qU h
   exact⟨p+1,k',h1,h2,h3⟩
 | k::ks,false::bs,h=>by
  unfold jQ at h
  obtain⟨p,k',h1,h2,h3⟩:=qU h
  exact⟨p+1,k',h1,h2,h3⟩
theorem uz {id:Nat}:∀{ks:List Mk} {bs:List Bool} {p:Nat} {k:Mk},ks[p]?=some k→bs.getD p false=true→k.kil=some id→jQ id ks bs=true
 | [],bs,p,k,h,_,_=>by simp at h
 | k'::ks,[],p,k,_,h,_=>by simp at h
 | k'::ks,b::bs,0,k,h1,h2,h3=>by
  simp at h1 h2
  subst h1 h2
  unfold jQ
  rw[h3]
  simp
 | k'::ks,b::bs,p+1,k,h1,h2,h3=>by
  have:=uz (ks:=ks) (bs:=bs) (p:=p) (by simpa using h1) (by simpa using h2) h3
  cases b
  ·unfold jQ;exact this
  ·unfold jQ;rw[this,Bool.or_true]
theorem gw {t:Nat} {d:D}:∀{os:List Oper} {ks:List Mk} {bs:List Bool},(t,d)∈mt os ks bs→∃(j:Nat) (o:Oper) (k:Mk),os[j]?=some o∧ks[j]?=some k∧bs.getD j false=true∧o.dst=some t∧d=k.d
 | o::os,k::ks,b::bs,h=>by
  unfold mt at h
  split at h
  ·rename_i t' hd
   rcases Sq.1 h with h | h
   ·cases h;exact⟨0,o,k,rfl,rfl,rfl,hd,rfl⟩
   ·obtain⟨j,o',k',h1⟩:=gw h;exact⟨j+1,o',k',h1⟩
  ·obtain⟨j,o',k',h1⟩:=gw h;exact⟨j+1,o',k',h1⟩
 | [],_,_,h=>by simp[mt]at h
 | _::_,[],_,h=>by simp[mt]at h
 | _::_,_::_,[],h=>by simp[mt]at h
theorem oq:∀{os:List Oper} {ks:List Mk} {bs:List Bool} (j:Nat) {o:Oper} {k:Mk} {t:Nat},os[j]?=some o→ks[j]?=some k→bs.getD j false=true→o.dst=some t→(t,k.d)∈mt os ks bs
 | o::os,k::ks,b::bs,0,o',k',t,h1,h2,h3,h4=>by
  simp at h1 h2 h3;subst h1 h2 h3
  unfold mt
  rw[h4]
  exact Se ..
 | o::os,k::ks,b::bs,j+1,o',k',t,h1,h2,h3,h4=>by
  have:=oq (os:=os) (ks:=ks) (bs:=bs) j (by simpa using h1) (by simpa using h2) (by simpa using h3) h4
  unfold mt
  split
  ·exact Sb _ this
  ·exact this
 | [],_,_,_,_,_,_,h1,_,_,_=>by simp at h1
 | _::_,[],_,_,_,_,_,_,h2,_,_=>by simp at h2
 | _::_,_::_,[],_,_,_,_,_,_,h3,_=>by simp at h3
theorem iL {Xw:List Mk} {Xx:List Bool}:∀(n:Nat) (ks:List Mk) (bs:List Bool),(jb Xw Xx n ks bs).length=ks.length
 | _,[],_=>rfl
 | n,_::ks,[]=>by simp[jb,iL (n+1) ks]
 | n,_::ks,true::bs=>by simp[jb,iL (n+1) ks]
 | n,_::ks,false::bs=>by simp[jb,iL (n+1) ks]
theorem d5 (n:Nat) (ks:List Mk) (bs:List Bool):(d4 n ks bs).length=ks.length:=iL _ _ _
theorem ot {Xw:List Mk} {Xx:List Bool}:∀(n:Nat) (ks:List Mk) (bs:List Bool) (j:Nat) (k:Mk),ks[j]?=some k→(jb Xw Xx n ks bs)[j]?=some (if bs.getD j false=true then Oi Xw Xx (n+j) k else .dead)
 | n,_::ks,[],0,k,h=>by simp[jb]
 | n,_::ks,[],j+1,k,h=>by simpa[jb]using ot (n+1) ks [] j k (by simpa using h)
 | n,k'::ks,true::bs,0,k,h=>by
  simp at h;subst h
  simp[jb]
 | n,_::ks,true::bs,j+1,k,h=>by
  have:=ot (Xw:=Xw) (Xx:=Xx) (n+1) ks bs j k (by simpa using h)
  rw[show n+1+j=n+(j+1) by omega]at this
  simpa[jb]using this
 | n,_::ks,false::bs,0,k,h=>by simp[jb]
 | n,_::ks,false::bs,j+1,k,h=>by
  have:=ot (Xw:=Xw) (Xx:=Xx) (n+1) ks bs j k (by simpa using h)
  rw[show n+1+j=n+(j+1) by omega]at this
  simpa[jb]using this
 | _,[],_,_,_,h=>by simp at h
theorem ou (n:Nat) (ks:List Mk) (bs:List Bool) (j:Nat) (k:Mk) (h:ks[j]?=some k):(d4 n ks bs)[j]?=some (if bs.getD j false=true then Oi ks bs (n+j) k else .dead):=ot n ks bs j k h
theorem ll {n:Nat} {ks:List Mk} {bs:List Bool} {j:Nat} {k:Mk} {B:ap} (h:ks[j]?=some k) (hB:(d4 n ks bs)[j]?=some B) :
  B=.dead∨(bs.getD j false=true∧jQ (n+j) ks bs=false∧k.fil=none∧((kf (n+j) ks bs=none∧B=k.b)∨kf (n+j) ks bs=some B)):=by
 rw[ou _ _ _ _ _ h]at hB
 split at hB
 ·rename_i hb
  simp only[RM]at hB
  unfold Oi at hB
  split at hB
  ·rename_i B0 h1 h2 h3;exact .inr ⟨hb,h1,h2,.inr (by rw[h3,hB])⟩
  ·rename_i h1 h2 h3;exact .inr ⟨hb,h1,h2,.inl ⟨h3,hB.symm⟩⟩
  ·exact .inl hB.symm
 ·cases hB;exact .inl rfl
theorem vK {n:Nat} {ks:List Mk} {bs:List Bool} {j:Nat} {k:Mk} {B:ap} (h:ks[j]?=some k) (h1:bs.getD j false=true) (h2:jQ (n+j) ks bs=false) (h3:k.fil=none) (h4:(kf (n+j) ks bs=none∧B=k.b)∨kf (n+j) ks bs=some B) :
  (d4 n ks bs)[j]?=some B:=by
 rw[ou _ _ _ _ _ h,RH h1]
 unfold Oi
 rw[h2,h3]
 rcases h4 with ⟨h5,rfl⟩ | h5
 ·rw[h5]
 ·rw[h5]
def xH (os:List Oper):List (Nat×D)→List (Nat×D)
 | []=>[]
 | (t,d)::r=>if os.any (fun o=>match o.dst with | some s=>Nat.beq s t | none=>false)then xH os r else (t,d)::xH os r
theorem kg {os:List Oper} {t:Nat} {d:D}:∀{env:List (Nat×D)},(t,d)∈xH os env→(t,d)∈env∧∀o∈os,o.dst≠some t
 | (s,e)::r,h=>by
  unfold xH at h
  split at h
  ·obtain⟨h1,h2⟩:=kg h;exact⟨Sb _ h1,h2⟩
  ·rename_i hn
   rcases Sq.1 h with h | h
   ·cases h
    refine⟨Se ..,fun o ho he=>hn ?_⟩
    rw[List.any_eq_true]
    exact⟨o,ho,by rw[he];simp⟩
   ·obtain⟨h1,h2⟩:=kg h;exact⟨Sb _ h1,h2⟩
def eB (os:List Oper) (st:St) (ks:List Mk) (anc:List Bool):St:=⟨xH os st.env++mt os ks anc,st.heap++d4 st.heap.length ks anc⟩
def J1 (P:Program) (ops os:List Oper) (st:St) (Us:List (Nat×Ov)):Nat→List Oper→List (List Bool)→List Mk→(List (List Bool)→List Mk→Prop)→Prop
 | _,[],P',ks,K=>K P' ks
 | i,o::r,P',ks,K =>
  match gu ops (eB os st ks (iK P' o.after.toList)) o with
  | some true=>match vJ P (eB os st ks (iK P' o.after.toList)).heap (eX (eB os st ks (iK P' o.after.toList)).env) (pz Us i) o.op with
   | (k,p)=>p∧nD k.d (fun d=>nB k.b (fun b=>nK k.kl (fun kl=>J1 P ops os st Us (i+1) r (P'++[iK P' o.after.toList]) (ks++[.make d b kl]) K)))
  | some false=>J1 P ops os st Us (i+1) r (P'++[iK P' o.after.toList]) (ks++[mR (.tup []) .dead]) K
  | none=>False
def kh (st:St) (n0:Nat):Nat→List (List Bool)→List Mk→List (List Bool)→List Mk→Bool
 | i,a::q',k::ks,P',mks=>(match k.b,k.kl with
   | .dead,none=>true
   | _,_=>b9 (n0+i) st.env&&bQ (n0+i) st.heap&&freeM i (n0+i) 0 P' mks)&&kh st n0 (i+1) q' ks P' mks
 | _,_,_,_,_=>true
where freeM (i id:Nat):Nat→List (List Bool)→List Mk→Bool
 | j,a::q',k::ks=>(Nat.beq j i||a.getD i false||(D.free id k.d&&ap.free id k.b))&&freeM i id (j+1) q' ks
 | _,_,_=>true
def xI:List Oper→Bool
 | []=>true
 | o::r=>(match o.dst with | some t=>r.all (fun o'=>match o'.dst with | some s=>!(Nat.beq s t) | none=>true) | none=>true)&&xI r
def ow (nt:Nat):List Oper→Bool
 | []=>true
 | o::r=>(match o.dst with | some t=>Nat.blt t nt&&!(lj o.op) | none=>lj o.op)&&ow nt r
def vL:tp:={ K:=fun _=>.grow,F:=fun _ _ _ _=>True,ins:=fun _=>[] }
def Mv (nt:Nat) (ops:List Oper) (m:Nat):Bool :=
 LC ops.toArray vL ⟨Array.replicate nt undef,[]⟩&&DX ops.toArray m&&ow nt (ops.take m)&&xI (ops.take m)&&ops.all (fun o=>!dg o)
def lm (n0:Nat) (P':List (List Bool)) (ks:List Mk):Bool:=(List.range ks.length).all fun p=>match (ks.getD p (mR .junk .dead)).kl with
 | none=>true
 | some id=>Nat.ble n0 id&&(P'.getD p []).getD (id-n0) false&&((List.range ks.length).all fun i=>Nat.beq i p||!((P'.getD i []).getD (id-n0) false)||(P'.getD i []).getD p false||(P'.getD p []).getD i false)&&(List.range ks.length).all fun i=>Nat.beq i p||(match (ks.getD i (mR .junk .dead)).kl with | some j=>!(Nat.beq j id) | none=>true)
theorem jc {n0:Nat} {P':List (List Bool)} {ks:List Mk} (h:lm n0 P' ks=true) {p:Nat} {k:Mk} (hp:ks[p]?=some k) {id:Nat} (hk:k.kl=some id) :
  n0≤id∧(P'.getD p []).getD (id-n0) false=true∧∀i,i<ks.length→i≠p→(P'.getD i []).getD (id-n0) false=true→(P'.getD i []).getD p false=true∨(P'.getD p []).getD i false=true:=by
 unfold lm at h
 rw[R7]at h
 have Xf:p<ks.length:=(Rz.1 hp).1
 have h1:=h p (SD.2 Xf)
 have e:ks.getD p (mR .junk .dead)=k:=by rw[List.getD,hp];rfl
 rw[e,hk]at h1
 simp only[RA]at h1
 have h1:=h1.1
 simp only[SM,R7,SD,Sh,RY,Sj]at h1
 refine⟨h1.1.1,h1.1.2,fun i hi Vh ha=>?_⟩
 rcases h1.2 i hi with ((h2 | h2) | h2) | h2
 ·exact absurd h2 Vh
 ·rw[ha]at h2;cases h2
 ·exact .inl h2
 ·exact .inr h2
theorem vM {n0:Nat} {P':List (List Bool)} {ks:List Mk} (h:lm n0 P' ks=true) {p q:Nat} {k k':Mk} (hp:ks[p]?=some k) (hq:ks[q]?=some k') {id:Nat} (hk:k.kl=some id) (UX:k'.kl=some id):p=q:=by
 unfold lm at h
 rw[R7]at h
 have Xf:p<ks.length:=(Rz.1 hp).1
 have W4:q<ks.length:=(Rz.1 hq).1
 have h1:=h p (SD.2 Xf)
 have e:ks.getD p (mR .junk .dead)=k:=by rw[List.getD,hp];rfl
 rw[e,hk]at h1
 simp only[RA]at h1
 have h2:=h1.2
 rw[R7]at h2
 have h3:=h2 q (SD.2 W4)
 have e2:ks.getD q (mR .junk .dead)=k':=by rw[List.getD,hq];rfl
 rw[e2,UX]at h3
 simp only[Sh,RY,Sj]at h3
 rcases h3 with h3 | h3
 ·exact h3.symm
 ·have:Nat.beq id id=true:=by rw[RY]
  rw[this]at h3;cases h3
def Mw (P:Program) (nt:Nat) (ops:List Oper) (Us:List (Nat×Ov)) (m:Nat) (st:St) (k:St→Prop):Prop :=
 J1 P ops (ops.take m) st Us 0 (ops.take m) [] [] fun P' ks =>
  match Mv nt ops m&&(kh st st.heap.length 0 P' ks P' ks&&lm st.heap.length P' ks)&&P.follows .mixedOrders with
  | true=>y4 P nt ops Us m (ops.drop m) ⟨xH (ops.take m) st.env++mt (ops.take m) ks (List.replicate m true),st.heap++d4 st.heap.length ks (List.replicate m true)⟩ k
  | false=>False
theorem sG {P:Program} {nt:Nat} {ops:List Oper} {Us:List (Nat×Ov)} {k k':St→Prop} (hk:∀st,k st→k' st):∀(r:List Oper) (i:Nat) (st:St),y4 P nt ops Us i r st k→y4 P nt ops Us i r st k'
 | [],i,st,h=>hk _ h
 | o::r,i,st,h=>by
  unfold y4 at h ⊢
  split at h
  ·rename_i hg;exact⟨h.1,sG hk r (i+1) _ h.2⟩
  ·rename_i hg;exact⟨h.1,sG hk r (i+1) _ h.2⟩
  ·exact h.elim
theorem qV {P:Program} {ops os:List Oper} {st:St} {Us:List (Nat×Ov)} {K K':List (List Bool)→List Mk→Prop} (hk:∀a b,K a b→K' a b):∀(r:List Oper) (i:Nat) (P':List (List Bool)) (ks:List Mk),J1 P ops os st Us i r P' ks K→J1 P ops os st Us i r P' ks K'
 | [],i,P',ks,h=>hk _ _ h
 | o::r,i,P',ks,h=>by
  unfold J1 at h ⊢
  split at h
  ·rename_i hg
   refine⟨h.1,?_⟩
   have h2:=h.2
   rw[Er,HC,LN]at h2 ⊢
   exact qV hk r (i+1) _ _ h2
  ·exact qV hk r (i+1) _ _ h
  ·exact h.elim
theorem HI {P:Program} {nt:Nat} {ops:List Oper} {Us:List (Nat×Ov)} {m:Nat} {st:St} {k k':St→Prop} (h:Mw P nt ops Us m st k) (hk:∀st,k st→k' st):Mw P nt ops Us m st k':=by
 unfold Mw at h ⊢
 refine qV (fun a b hq=>?_) _ _ _ _ h
 split at hq
 ·exact sG hk _ _ _ hq
 ·exact hq.elim
section
variable {C:kU}
theorem C5 {P:Program} {ops os:List Oper} {st:St} {Us:List (Nat×Ov)} {K:List (List Bool)→List Mk→Prop}:∀(r:List Oper) (i:Nat) (P':List (List Bool)) (ks:List Mk),P'.length=i→ks.length=i→J1 P ops os st Us i r P' ks K →
  ∃(UC:List (List Bool)) (WA:List Mk),UC.length=i+r.length∧WA.length=i+r.length∧(∃x,UC=P'++x)∧(∃y,WA=ks++y)∧K UC WA ∧
   ∀(j:Nat) (o:Oper),r[j]?=some o→(UC.getD (i+j) [])=iK (UC.take (i+j)) o.after.toList ∧
    ((gu ops (eB os st (WA.take (i+j)) (UC.getD (i+j) [])) o=some true∧∃k p,vJ P (eB os st (WA.take (i+j)) (UC.getD (i+j) [])).heap (eX (eB os st (WA.take (i+j)) (UC.getD (i+j) [])).env) (pz Us (i+j)) o.op=(k,p)∧p∧WA[i+j]?=some k) ∨
     (gu ops (eB os st (WA.take (i+j)) (UC.getD (i+j) [])) o=some false∧WA[i+j]?=some (mR (.tup []) .dead)))
 | [],i,P',ks,h1,h2,h=>⟨P',ks,by simp[h1],by simp[h2],⟨[],by simp⟩,⟨[],by simp⟩,h,fun j o ho=>by simp at ho⟩
 | o::r,i,P',ks,h1,h2,h=>by
  unfold J1 at h
  have ZI:∀(k:Mk),J1 P ops os st Us (i+1) r (P'++[iK P' o.after.toList]) (ks++[k]) K →
    ((gu ops (eB os st ks (iK P' o.after.toList)) o=some true∧∃p,vJ P (eB os st ks (iK P' o.after.toList)).heap (eX (eB os st ks (iK P' o.after.toList)).env) (pz Us i) o.op=(k,p)∧p)∨(gu ops (eB os st ks (iK P' o.after.toList)) o=some false∧k=mR (.tup []) .dead)) →
    ∃(UC:List (List Bool)) (WA:List Mk),UC.length=i+(o::r).length∧WA.length=i+(o::r).length∧(∃x,UC=P'++x)∧(∃y,WA=ks++y)∧K UC WA ∧
     ∀(j:Nat) (o':Oper),(o::r)[j]?=some o'→(UC.getD (i+j) [])=iK (UC.take (i+j)) o'.after.toList ∧
      ((gu ops (eB os st (WA.take (i+j)) (UC.getD (i+j) [])) o'=some true∧∃k p,vJ P (eB os st (WA.take (i+j)) (UC.getD (i+j) [])).heap (eX (eB os st (WA.take (i+j)) (UC.getD (i+j) [])).env) (pz Us (i+j)) o'.op=(k,p)∧p∧WA[i+j]?=some k) ∨
       (gu ops (eB os st (WA.take (i+j)) (UC.getD (i+j) [])) o'=some false∧WA[i+j]?=some (mR (.tup []) .dead))):=by
   intro k hk hc
   obtain⟨UC,WA,q1,q2,⟨x,q3⟩,⟨y,q4⟩,q5,q6⟩:=C5 r (i+1) _ _ (by simp[h1]) (by simp[h2]) hk
   refine⟨UC,WA,by rw[q1,RK];omega,by rw[q2,RK];omega,⟨_,by rw[q3,SB]⟩,⟨_,by rw[q4,SB]⟩,q5,fun j o' Vx=>?_⟩
   cases j with
   | zero =>
    simp at Vx
    subst Vx
    have ea:UC.getD (i+0) []=iK P' o.after.toList:=by
     rw[q3];unfold List.getD
     rw[SB,RT (by omega)]
     simp[h1]
    have et:UC.take (i+0)=P':=by rw[q3,SB,SY,← h1,TW]
    have ek:WA.take (i+0)=ks:=by rw[q4,SB,SY,← h2,TW]
    have eg:WA[i+0]?=some k:=by
     rw[q4,SB,RT (by omega)]
     simp[h2]
    rw[ea,et,ek,eg]
    refine⟨rfl,?_⟩
    rcases hc with ⟨c1,p,c2,c3⟩ | ⟨c1,rfl⟩
    ·exact .inl ⟨c1,k,p,c2,c3,rfl⟩
    ·exact .inr ⟨c1,rfl⟩
   | succ j =>
    have:=q6 j o' (by simpa using Vx)
    rwa [show i+1+j=i+(j+1)from by omega]at this
  split at h
  ·rename_i hg
   generalize hq:vJ P (eB os st ks (iK P' o.after.toList)).heap (eX (eB os st ks (iK P' o.after.toList)).env) (pz Us i) o.op=q at h
   obtain⟨k,p⟩:=q
   obtain⟨hp,hk⟩:=h
   rw[Er,HC,LN]at hk
   exact ZI k hk (.inl ⟨hg,p,hq,hp⟩)
  ·rename_i hg
   exact ZI _ h (.inr ⟨hg,rfl⟩)
  ·exact h.elim
theorem A7 {α:Type _} {l:List α} {i:Nat} {x:α} (h:l[i]?=some x):l.set i x=l:=by
 apply List.ext_getElem?
 intro j
 by_cases hj:i=j
 ·subst hj
  rw[RR (Rz.1 h).1,h]
 ·rw[RQ hj]
theorem A8 {id:Nat}:∀{env:List (Nat×D)},(∀t d,(t,d)∈env→D.free id d=true)→b9 id env=true
 | [],_=>rfl
 | (t,d)::r,h=>by
  simp only[b9,RA]
  exact⟨h t d (Se ..),A8 (fun t d hm=>h t d (Sb _ hm))⟩
theorem qW {id:Nat}:∀{H:List ap},(∀(j:Nat) (B:ap),H[j]?=some B→ap.free id B=true)→bQ id H=true
 | [],_=>rfl
 | B::r,h=>by
  simp only[bQ,RA]
  exact⟨h 0 B rfl,qW (fun j B hB=>h (j+1) B (by simpa using hB))⟩
theorem kk {t s:Nat} {d:D}:∀{env:List (Nat×D)},(s,d)∈env→s≠t→(s,d)∈tu env t
 | (q,e)::r,h,hn=>by
  unfold tu
  rcases Sq.1 h with h | h
  ·cases h
   split
   ·rename_i hq;rw[RY]at hq;exact(hn hq).elim
   ·exact Se ..
  ·split
   ·exact kk h hn
   ·exact Sb _ (kk h hn)
theorem xJ {i id:Nat}:∀{q':List (List Bool)} {ks:List Mk} {j0:Nat},kh.freeM i id j0 q' ks=true→∀(j:Nat) (a:List Bool) (k:Mk),q'[j]?=some a→ks[j]?=some k→j0+j=i∨a.getD i false=true∨(D.free id k.d=true∧ap.free id k.b=true)
 | a::q',k::ks,j0,h,0,a',k',h1,h2=>by
  simp at h1 h2;subst h1 h2
  unfold kh.freeM at h
  simp only[RA,Sh,RY]at h
  rcases h.1 with (h3 | h3) | h3
  ·exact .inl (by omega)
  ·exact .inr (.inl h3)
  ·exact .inr (.inr h3)
 | a::q',k::ks,j0,h,j+1,a',k',h1,h2=>by
  unfold kh.freeM at h
  simp only[RA]at h
  have:=xJ h.2 j a' k' (by simpa using h1) (by simpa using h2)
  rcases this with h3 | h3
  ·exact .inl (by omega)
  ·exact .inr h3
 | [],_,_,_,_,_,_,h1,_=>by simp at h1
 | _::_,[],_,_,_,_,_,_,h2=>by simp at h2
theorem xK {st:St} {n0:Nat} {P':List (List Bool)} {mks:List Mk}:∀{q':List (List Bool)} {ks:List Mk} {i0:Nat},kh st n0 i0 q' ks P' mks=true→∀(i:Nat) (a:List Bool) (k:Mk),q'[i]?=some a→ks[i]?=some k→k.b.live=true∨k.kl.isSome=true →
  b9 (n0+(i0+i)) st.env=true∧bQ (n0+(i0+i)) st.heap=true∧kh.freeM (i0+i) (n0+(i0+i)) 0 P' mks=true
 | a::q',k::ks,i0,h,0,a',k',h1,h2,hl=>by
  simp at h1 h2;subst h1 h2
  unfold kh at h
  simp only[RA]at h
  have h3:=h.1
  split at h3
  ·rename_i hb WW;rw[hb,WW]at hl;rcases hl with hl | hl<;>cases hl
  ·simp only[RA]at h3
   exact⟨h3.1.1,h3.1.2,h3.2⟩
 | a::q',k::ks,i0,h,i+1,a',k',h1,h2,hl=>by
  unfold kh at h
  simp only[RA]at h
  have:=xK h.2 i a' k' (by simpa using h1) (by simpa using h2) hl
  rwa [show i0+1+i=i0+(i+1)from by omega]at this
 | [],_,_,_,_,_,_,h1,_,_=>by simp at h1
 | _::_,[],_,_,_,_,_,_,h2,_=>by simp at h2
theorem xL:∀{os:List Oper},xI os=true→∀(i j:Nat) (o o':Oper) (t:Nat),os[i]?=some o→os[j]?=some o'→o.dst=some t→o'.dst=some t→i=j
 | x::r,h,i,j,o,o',t,hi,hj,h1,h2=>by
  unfold xI at h
  simp only[RA]at h
  have key:∀(k:Nat) (y z:Oper),r[k]?=some y→z=x→z.dst=some t→y.dst=some t→False:=by
   intro k y z hy hz hd Zw
   subst hz
   have h3:=h.1
   rw[hd]at h3
   simp only[R7]at h3
   have:=h3 y (Sf hy)
   rw[Zw]at this
   simp at this
  cases i with
  | zero =>
   cases j with
   | zero=>rfl
   | succ j=>simp at hi hj;exact(key j o' o hj hi.symm h1 h2).elim
  | succ i =>
   cases j with
   | zero=>simp at hi hj;exact(key i o o' hi hj.symm h2 h1).elim
   | succ j=>simp at hi hj;rw[xL h.2 i j o o' t hi hj h1 h2]
 | [],_,i,_,_,_,_,hi,_,_,_=>by simp at hi
theorem qe {ops:List Oper} {P':List (List Bool)} {m:Nat} {ls:Array Bool} (hcl:∀i o,ls.getD i false=true→ops[i]?=some o→∀e∈o.after,Region.binds .any e=true→ls.getD e.on false=true)
  (Un:∀i o,ops[i]?=some o→∀e∈o.after,Region.binds .any e=true→e.on<i) (hm:m≤ops.length)
  (XG:∀(j:Nat) (o:Oper),(ops.take m)[j]?=some o→P'.getD j []=iK (P'.take j) o.after.toList) (UL:P'.length=m) :
  ∀(i:Nat) (o:Oper),i<m→ops[i]?=some o→(∀e∈o.after,Region.binds .any e=true→ls.getD e.on false=true)→∀j,(P'.getD i []).getD j false=true→ls.getD j false=true:=by
 intro i
 induction i using Nat.strongRecOn with
 | _ i ih =>
  intro o hi ho hr j hj
  rw[XG i o (by rw[R8,RH hi];exact ho)]at hj
  obtain⟨e,he,hb,hc⟩:=qT hj
  have WX:e∈o.after:=by simpa using he
  have hlst:=hr e WX hb
  have hei:=Un i o ho e WX hb
  rcases hc with rfl | hc
  ·exact hlst
  ·have e2:(P'.take i).getD e.on []=P'.getD e.on []:=by
    unfold List.getD;rw[R8,RH hei]
   rw[e2]at hc
   have hoe:ops[e.on]?=some (ops[e.on]'(by omega)):=RB (by omega)
   exact ih e.on hei _ (by omega) hoe (hcl e.on _ hlst hoe) j hc
theorem dh (C':Array Bool) (m j:Nat) (h:j<m):((List.range m).map fun j=>C'.getD j false).getD j false=C'.getD j false:=by
 simp[List.getD,h]
theorem sH (C':Array Bool) (m j:Nat) (h:m≤j):((List.range m).map fun j=>C'.getD j false).getD j false=false:=by
 simp[List.getD,h]
theorem HJ {ops:List Oper} {P':List (List Bool)} {m:Nat} (Un:∀i o,ops[i]?=some o→∀e∈o.after,Region.binds .any e=true→e.on<i) (hm:m≤ops.length)
  (XG:∀(j:Nat) (o:Oper),(ops.take m)[j]?=some o→P'.getD j []=iK (P'.take j) o.after.toList):∀(i:Nat),i<m→∀j,(P'.getD i []).getD j false=true→j<i:=by
 intro i
 induction i using Nat.strongRecOn with
 | _ i ih =>
  intro hi j hj
  have hoi:ops[i]?=some (ops[i]'(by omega)):=RB (by omega)
  rw[XG i _ (by rw[R8,RH hi];exact hoi)]at hj
  obtain⟨e,he,hb,hc⟩:=qT hj
  have WX:e∈(ops[i]'(by omega)).after:=by simpa using he
  have hei:=Un i _ hoi e WX hb
  rcases hc with rfl | hc
  ·exact hei
  ·have e2:(P'.take i).getD e.on []=P'.getD e.on []:=by
    unfold List.getD;rw[R8,RH hei]
   rw[e2]at hc
   have:=ih e.on hei (by omega) j hc
   omega
theorem vN {id:Nat} {x:Fz}:∀{env:List (Nat×D)} {t:Nat} {d:D},(t,d)∈env→(t,eO id x d)∈su id x env
 | (s,e)::r,t,d,h=>by
  rcases Sq.1 h with h | h
  ·cases h;exact Se ..
  ·exact Sb _ (vN h)
theorem bc.addAt {S:Nat→Prop} {μ:Nat→Value} {st:St} {a:Act} {w:World} (h:bc C S μ st a w) {id:Nat} (hd:st.heap[id]?=some .dead) (hf:b9 id st.env=true) (hh:bQ id st.heap=true) {B:ap} {u:Value} (ZJ:B.isOwn=true) {μ1:Nat→Value} (N':aH S μ1 w u B)
  (UE:∀b,bL u b→C.W.heap.size≤b∧¬S b∧∀(i:Nat) (A:ap),st.heap[i]?=some A→A.live=true→¬bL (μ i) b):bc C S (aZ μ id u) ⟨st.env,st.heap.set id B⟩ a w:=by
 have Ux:∀i,i≠id→aZ μ id u i=μ i:=fun i hi=>aG _ _ hi
 have Un:id<st.heap.length:=(Rz.1 hd).1
 have U6:∀(i:Nat) (A:ap),(st.heap.set id B)[i]?=some A→(i≠id∧st.heap[i]?=some A)∨(i=id∧A=B):=by
  intro i A hA
  by_cases hi:i=id
  ·subst hi
   rw[RR Un]at hA
   exact .inr ⟨rfl,by cases hA;rfl⟩
  ·rw[RQ (TO hi)]at hA
   exact .inl ⟨hi,hA⟩
 refine⟨h.os,h.tape,h.output,h.size,h.old,h.mono,h.new,h.slt,?_,⟨?_,?_,?_⟩,?_,?_,h.tsize,?_⟩
 ·intro t d hm
  obtain⟨q1,q2⟩:=h.env t d hm
  exact⟨q1,q2.stable (fun _ h _=>h) (fun _ _ _=>rfl) (RD _) (fun id Uh=>aG _ _ (fun e=>by rw[e,ct hf hm]at Uh;cases Uh))⟩
 ·intro i A hA
  rcases U6 i A hA with ⟨hi,hA⟩ | ⟨rfl,rfl⟩
  ·rw[Ux i hi]
   exact(h.heap.box i A hA).stable (fun _ h _=>h) (fun _ _ _=>rfl) (RD _) (fun id Uh=>aG _ _ (fun e=>by rw[e,cu hh hA]at Uh;cases Uh)) (fun _ _=>rfl)
  ·rw[ay]
   exact N'.arrMu ZJ
 ·intro i j A A' b hA UT la Yy hb UN
  have g1:=U6 i A hA
  have g2:=U6 j A' UT
  clear hA UT
  rcases g1 with ⟨hi,hA⟩ | ⟨ei,eA⟩<;>rcases g2 with ⟨hj,UT⟩ | ⟨ej,eA'⟩
  ·rw[Ux i hi]at hb;rw[Ux j hj]at UN
   exact h.heap.apart i j A A' b hA UT la Yy hb UN
  ·rw[Ux i hi]at hb;rw[ej,ay]at UN
   exact((UE b UN).2.2 i A hA la hb).elim
  ·rw[Ux j hj]at UN;rw[ei,ay]at hb
   exact((UE b hb).2.2 j A' UT Yy UN).elim
  ·rw[ei,ej]
 ·intro i A b hA la hb
  rcases U6 i A hA with ⟨hi,hA⟩ | ⟨rfl,rfl⟩
  ·rw[Ux i hi]at hb
   exact h.heap.notS i A b hA la hb
  ·rw[ay]at hb
   exact(UE b hb).2.1
 ·intro i A b hA la hb
  rcases U6 i A hA with ⟨hi,hA⟩ | ⟨rfl,rfl⟩
  ·rw[Ux i hi]at hb
   exact h.may i A b hA la hb
  ·rw[ay]at hb
   exact(UE b hb).1
 ·obtain⟨mk,e1,e2,e3⟩:=h.defers
  refine⟨mk,e1,e2,fun b hb=>?_⟩
  obtain⟨g1,g2,g3,g4⟩:=e3 b hb
  refine⟨g1,g2,g3,fun i A hA la Vn=>?_⟩
  rcases U6 i A hA with ⟨hi,hA⟩ | ⟨rfl,rfl⟩
  ·rw[Ux i hi]at Vn
   exact g4 i A hA la Vn
  ·rw[ay]at Vn
   obtain⟨cs,T,x,hh2⟩:=N'.ownBlk ZJ Vn
   rw[hh2]at g1
   simp at g1
 ·intro i A b hA la hb
  rcases U6 i A hA with ⟨hi,hA⟩ | ⟨rfl,rfl⟩
  ·rw[Ux i hi]at hb
   exact h.ro i A b hA la hb
  ·cases A<;>first | (cases ZJ;done) | cases la
theorem bc.alias {S:Nat→Prop} {μ:Nat→Value} {st:St} {a:Act} {w:World} (h:bc C S μ st a w) {q p:Nat} {A:ap} (hq:st.heap[q]?=some A) (hA:A.isArr=true) (hp:st.heap[p]?=some .dead) (hf:b9 p st.env=true) (hh:bQ p st.heap=true) :
  bc C S (aZ μ p (μ q)) ⟨st.env,(st.heap.set q .dead).set p A⟩ a w:=by
 have hl:A.live=true:=by cases A<;>first | rfl | cases hA
 have hqp:q≠p:=fun e=>by subst e;rw[hq]at hp;cases hp;cases hl
 have hqL:q<st.heap.length:=(Rz.1 hq).1
 have hpL:p<st.heap.length:=(Rz.1 hp).1
 have h1:bc C S μ ⟨st.env,st.heap.set q .dead⟩ a w:=h.heapTo (fun i B hB=>by
  by_cases e:i=q
  ·subst e;rw[RR hqL]at hB;cases hB;exact .inl rfl
  ·rw[RQ (TO e)]at hB;exact .inr hB)
 have Xc:(st.heap.set q .dead)[p]?=some .dead:=by rw[RQ hqp];exact hp
 have hh1:bQ p (st.heap.set q .dead)=true:=qW (fun i B hB=>by
  by_cases e:i=q
  ·subst e;rw[RR hqL]at hB;cases hB;rfl
  ·rw[RQ (TO e)]at hB;exact cu hh hB)
 refine h1.addAt Xc hf hh1 (ap.isOwn_arr hA) (h.heap.box q A hq) (fun b hb=>⟨h.may q A b hq hl hb,h.heap.notS q A b hq hl hb,fun i B hB lB Vn=>?_⟩)
 have UJ:(st.heap.set q .dead)[i]?=some B:=hB
 by_cases e:i=q
 ·subst e;rw[RR hqL]at UJ;cases UJ;cases lB
 ·rw[RQ (TO e)]at UJ
  exact e (h.heap.apart i q B A b UJ hq lB hl Vn hb)
theorem Ev.dwG {id:Nat} {ops:List Oper} {st:St} {Q:Exit→St→Prop} (Us:List (Nat×Ov)) (m:Nat) (Vi:Nat→Bool) {P':List (List Bool)} {ks:List Mk} (X6:m≤ops.length)
  (UL:P'.length=(ops.take m).length) (VB:ks.length=(ops.take m).length)
  (Yz:∀(j:Nat) (o:Oper),(ops.take m)[j]?=some o→(P'.getD j [])=iK (P'.take j) o.after.toList ∧
    ((gu ops (eB (ops.take m) st (ks.take j) (P'.getD j [])) o=some true∧∃k p,vJ C.P (eB (ops.take m) st (ks.take j) (P'.getD j [])).heap (eX (eB (ops.take m) st (ks.take j) (P'.getD j [])).env) (pz Us j) o.op=(k,p)∧p∧ks[j]?=some k) ∨
     (gu ops (eB (ops.take m) st (ks.take j) (P'.getD j [])) o=some false∧ks[j]?=some (mR (.tup []) .dead))))
  (Yr:LC ops.toArray vL ⟨Array.replicate C.nt undef,[]⟩=true) (YM:ow C.nt (ops.take m)=true) (YN:xI (ops.take m)=true) (XH:ops.all (fun o=>!dg o)=true)
  (VG:kh st st.heap.length 0 P' ks P' ks=true) (UO:lm st.heap.length P' ks=true) (YO:C.P.follows .mixedOrders=true)
  (htailL:∀i,m≤i→i<ops.length→∀j,j<m→Vi j=false→df ops.toArray i j=true)
  (hjump:∀(C':Array Bool) (S:Nat→Prop) (μ:Nat→Value) (a':Act) (w:World),C'.size=ops.length →
    (∀i o,C'.getD i false=true→ops[i]?=some o→∀e∈o.after,Region.binds .any e=true→C'.getD e.on false=true)→bc C S μ (eB (ops.take m) st ks ((List.range m).map fun j=>C'.getD j false)) a' w →
    (∀j,j<m→Vi j=false→C'.getD j false=true)→(∀i,m≤i→C'.getD i false=false) →
    wpAnyIn (od C.rd) 0 C.P .any ops.toArray (fun e a' w'=>∃T4 S' μ',Q e T4∧bc C S' μ' T4 a' w') (Az C' m+(ops.length-m)) C' a' w) :
  Ev C (.region id ops.toArray true) Q st:=fun a w S μ hR=>by
 have hnd:DZ ops.toArray:=fun i o ho=>by
  rw[R7]at XH
  have:=XH o (Sf (by simpa using ho))
  simpa using this
 have hml:(ops.take m).length=m:=by rw[RZ];omega
 rw[hml]at UL VB
 have Vj:JZ ops.toArray vL a:=AC (A2 Yr (by simp[hR.tsize]) rfl rfl)
 have WB:∀(k:Nat) (o:Oper),k<m→ops[k]?=some o→(ops.take m)[k]?=some o:=fun k o hk ho=>by rw[R8,RH hk];exact ho
 have Ul:ops.toArray.size=ops.length:=by simp
 have hdsts:∀(k:Nat) (o:Oper),k<m→ops[k]?=some o→(∃t,o.dst=some t∧t<C.nt∧lj o.op=false)∨(o.dst=none∧lj o.op=true):=by
  have key:∀(l:List Oper),ow C.nt l=true→∀(k:Nat) (o:Oper),l[k]?=some o→(∃t,o.dst=some t∧t<C.nt∧lj o.op=false)∨(o.dst=none∧lj o.op=true):=by
   intro l
   induction l with
   | nil=>intro _ k o ho;simp at ho
   | cons x r ih =>
    intro hd k o ho
    unfold ow at hd
    simp only[RA]at hd
    cases k with
    | zero =>
     simp at ho;subst ho
     have h1:=hd.1
     split at h1
     ·rename_i t ht;simp only[RA,Sj]at h1;exact .inl ⟨t,ht,by simpa using h1.1,h1.2⟩
     ·rename_i ht;exact .inr ⟨ht,h1⟩
    | succ k=>exact ih hd.2 k o (by simpa using ho)
  exact fun k o hk ho=>key _ YM k o (WB k o hk ho)
 let Ut:Array Bool→List Bool:=fun C'=>(List.range m).map fun j=>C'.getD j false
 have main:∀(fuel:Nat) (C':Array Bool) (env:Nat→Value) (S:Nat→Prop) (μ:Nat→Value) (a':Act) (w:World),mC ops.toArray a C' env a'→bc C S μ (eB (ops.take m) st ks (Ut C')) a' w→Az C' m=fuel→(∀i,m≤i→C'.getD i false=false) →
   wpAnyIn (od C.rd) 0 C.P .any ops.toArray (fun e a' w'=>∃T4 S' μ',Q e T4∧bc C S' μ' T4 a' w') (fuel+(ops.toArray.size-m)) C' a' w:=by
  intro fuel
  induction fuel with
  | zero =>
   intro C' env S μ a' w hF hRL hu U'
   have hj:=hjump C' S μ a' w (by rw[hF.lsize];exact Ul) (fun i o hl ho e he hb=>hF.closed i o hl (by simpa using ho) e he hb) hRL (fun j hj _=>AE C' m hu j hj) U'
   rw[hu]at hj
   rw[Ul]
   exact hj
  | succ fuel ih =>
   intro C' env S μ a' w hF hRL hu U'
   by_cases hnlate:∀j,j<m→Vi j=false→C'.getD j false=true
   ·rw[show fuel+1=Az C' m from hu.symm,Ul]
    exact hjump C' S μ a' w (by rw[hF.lsize];exact Ul) (fun i o hl ho e he hb=>hF.closed i o hl (by simpa using ho) e he hb) hRL hnlate U'
   obtain⟨k0,hk01,hk0l,hk02⟩:∃k,k<m∧Vi k=false∧C'.getD k false=false:=by
    refine Classical.byContradiction fun hn=>hnlate fun j hj hl=>?_
    cases h:C'.getD j false
    ·exact(hn ⟨j,hj,hl,h⟩).elim
    ·rfl
   have hex:∃k,k<m∧C'.getD k false=false:=⟨k0,hk01,hk02⟩
   rw[show fuel+1+(ops.toArray.size-m)=(fuel+(ops.toArray.size-m))+1 from by omega]
   refine⟨fun WC=>?_,fun i hi=>?_⟩
   ·obtain⟨k,WY,V0⟩:=hex
    have:=sj Vj C' hF.lsize WC k (by omega)
    rw[V0]at this
    cases this
   obtain⟨UU,o,ho,hr⟩:=(dK C' hF.lsize i).1 hi
   have Un:i<ops.toArray.size:=(RU.1 ho).1
   have Ys:i<C'.size:=by rw[hF.lsize];exact Un
   have X7:i<m:=by
    refine SI fun hn=>?_
    have:=gI hF.closed 12 i k0 (fun o' Vx=>by rw[ho]at Vx;cases Vx;exact hr) (htailL i (by omega) (by rw[← Ul];exact Un) k0 hk01 hk0l)
    rw[hk02]at this
    cases this
   have hu':Az (C'.setIfInBounds i true) m=fuel:=by
    have:=DW C' i Ys UU m
    rw[RH X7]at this
    omega
   have hno':∀k,m≤k→(C'.setIfInBounds i true).getD k false=false:=fun k hk=>by
    rw[ba _ _ _ Ys,RE (by omega)]
    exact U' k hk
   have Vx:ops[i]?=some o:=by simpa using ho
   obtain⟨han,X8⟩:=Yz i o (WB i o X7 Vx)
   have XG:∀j,(P'.getD i []).getD j false=true→C'.getD j false=true :=
    qe (ops:=ops) (fun i o hl ho e he hb=>hF.closed i o hl (by simpa using ho) e he hb) (fun i o ho e he hb=>Vj.top i o (by simpa using ho) e he hb) X6 (fun j o ho=>(Yz j o ho).1) UL i o X7 Vx hr
   have hgi:(Ut C').getD i false=false:=by rw[dh C' m i X7];exact UU
   have hltE:∀i o,ops[i]?=some o→∀e∈o.after,Region.binds .any e=true→e.on<i:=fun i o ho e he hb=>Vj.top i o (by simpa using ho) e he hb
   have W5:∀(j:Nat) (o:Oper),(ops.take m)[j]?=some o→P'.getD j []=iK (P'.take j) o.after.toList:=fun j o ho=>(Yz j o ho).1
   have YP:∀(p:Nat),C'.getD p false=true→p<m→∀j,(P'.getD p []).getD j false=true→C'.getD j false=true:=fun p hp Zx j hj =>
    qe (ops:=ops) (P':=P') (m:=m) (ls:=C') (fun i o hl ho e he hb=>hF.closed i o hl (by simpa using ho) e he hb) hltE X6 W5 UL p _ Zx (RB (by omega))
     (hF.closed p _ hp (by simp)) j hj
   have hthere:∀(q:Nat),q<m→(P'.getD i []).getD q false=true→jQ (st.heap.length+q) (ks.take i) (P'.getD i [])=false→jQ (st.heap.length+q) ks (Ut C')=false:=by
    intro q hqm hanq hsafe
    cases hd:jQ (st.heap.length+q) ks (Ut C')
    ·rfl
    obtain⟨p,kp,p1,p2,p3⟩:=qU hd
    have Zx:p<m:=by have:=(Rz.1 p1).1;omega
    rw[dh C' m p Zx]at p2
    obtain⟨_,_,k3⟩:=jc UO p1 (Mr p3)
    have hip:i≠p:=fun e=>by rw[← e,UU]at p2;cases p2
    rcases k3 i (by omega) hip (by rw[TF];exact hanq)with k4 | k4
    ·have hpi:=HJ hltE X6 W5 i X7 p k4
     rw[uz (ks:=ks.take i) (bs:=P'.getD i []) (p:=p) (k:=kp) (by rw[R8,RH hpi];exact p1) k4 p3]at hsafe
     cases hsafe
    ·have:=YP p p2 Zx i k4
     rw[UU]at this;cases this
   have hfillv:∀(q:Nat),q<m→(P'.getD i []).getD q false=true→kf (st.heap.length+q) (ks.take i) (P'.getD i [])=kf (st.heap.length+q) ks (Ut C'):=by
    intro q hqm hanq
    cases hv:kf (st.heap.length+q) (ks.take i) (P'.getD i [])with
    | none =>
     cases ha:kf (st.heap.length+q) ks (Ut C')with
     | none=>rfl
     | some B =>
      exfalso
      obtain⟨p,kp,p1,p2,p3,_⟩:=gv ha
      rw[Sp]at p2
      have Zx:p<m:=by have:=(Rz.1 p1).1;omega
      rw[dh C' m p Zx]at p2
      obtain⟨_,_,k3⟩:=jc UO p1 (vH p3)
      have hip:i≠p:=fun e=>by rw[← e,UU]at p2;cases p2
      rcases k3 i (by omega) hip (by rw[TF];exact hanq)with k4 | k4
      ·have hpi:=HJ hltE X6 W5 i X7 p k4
       exact lk hv p kp (by rw[R8,RH hpi];exact p1) (by rw[Sp];exact k4) p3
      ·have:=YP p p2 Zx i k4
       rw[UU]at this;cases this
    | some B =>
     obtain⟨p,kp,p1,p2,p3,p4⟩:=gv hv
     rw[Sp]at p2
     have hpi:p<i:=by have:=(Rz.1 p1).1;rw[RZ]at this;omega
     rw[R8,RH hpi]at p1
     have hlp:(Ut C').getD p false=true:=by rw[dh C' m p (by omega)];exact XG p p2
     cases ha:kf (st.heap.length+q) ks (Ut C')with
     | none=>exact(lk ha p kp p1 (by rw[Sp];exact hlp) p3).elim
     | some B' =>
      obtain⟨p',kp',r1,r2,r3,r4⟩:=gv ha
      have e:=vM UO p1 r1 (vH p3) (vH r3)
      subst e
      rw[p1]at r1
      cases r1
      rw[p4,r4]
   let sti:=eB (ops.take m) st (ks.take i) (P'.getD i [])
   have YQ:∀(j:Nat) (B:ap),sti.heap[j]?=some B→B=.dead∨(eB (ops.take m) st ks (Ut C')).heap[j]?=some B:=by
     intro j B hB
     show B=.dead∨(st.heap++d4 st.heap.length ks (Ut C'))[j]?=some B
     have UJ:(st.heap++d4 st.heap.length (ks.take i) (P'.getD i []))[j]?=some B:=hB
     by_cases hj:j<st.heap.length
     ·rw[RP hj]at UJ ⊢;exact .inr UJ
     ·rw[RT (by omega)]at UJ ⊢
      generalize hjj:j-st.heap.length=q at UJ ⊢
      have W4:q<(ks.take i).length:=by
       have:=(Rz.1 UJ).1
       rwa [d5]at this
      have Xg:(ks.take i)[q]?=some ((ks.take i)[q]):=RB W4
      have hqi:q<i:=by rw[RZ]at W4;omega
      have hkq2:ks[q]?=some ((ks.take i)[q]):=by rw[← Xg,R8,RH hqi]
      rcases ll Xg UJ with h0 | ⟨g1,g2,g3,g4⟩
      ·exact .inl h0
      ·refine .inr (vK hkq2 (by rw[dh C' m q (by omega)];exact XG q g1) (hthere q (by omega) g1 g2) g3 ?_)
       rw[hfillv q (by omega) g1]at g4
       exact g4
   have Zy:bc C S μ sti a' w:=by
    have h1:=hRL.weak (env:=sti.env) (fun s d hm=>.inr ?_)
    ·exact h1.heapTo YQ
    ·rcases SK.1 hm with hm | hm
     ·exact Tu _ hm
     ·obtain⟨j,oj,kj,q1,q2,q3,q4,rfl⟩:=gw hm
      have U3:j<i:=by
       have:=(Rz.1 q2).1
       rw[RZ]at this;omega
      refine S9 _ (oq j q1 (by rw[← q2,R8,RH U3]) ?_ q4)
      rw[dh C' m j (by omega)]
      exact XG j q3
   have hlenk:(d4 st.heap.length (ks.take i) (P'.getD i [])).length=i:=by rw[d5,RZ];omega
   have hsl:sti.heap.length=st.heap.length+i:=by
    show(st.heap++_).length=_
    rw[RV,hlenk]
   have ZK:∀j,(Ut (C'.setIfInBounds i true)).getD j false=(if j=i then true else (Ut C').getD j false):=by
    intro j
    by_cases hj:j<m
    ·rw[dh _ m j hj,dh _ m j hj,ba _ _ _ Ys]
    ·rw[sH _ m j (by omega),sH _ m j (by omega),RE (by omega)]
   have Vy:∃k,ks[i]?=some k:=⟨_,RB (by omega)⟩
   obtain⟨ki,Vy⟩:=Vy
   have hdold:∀(q:Nat),jQ (st.heap.length+q) ks (Ut (C'.setIfInBounds i true))=false→jQ (st.heap.length+q) ks (Ut C')=false:=by
    intro q hq
    cases hd:jQ (st.heap.length+q) ks (Ut C')
    ·rfl
    ·obtain⟨p,kp,p1,p2,p3⟩:=qU hd
     have:=uz (bs:=Ut (C'.setIfInBounds i true)) p1 (by rw[ZK];split;rfl;exact p2) p3
     rw[this]at hq;cases hq
   have YR:∀(q:Nat),ki.fil≠some (st.heap.length+q)→kf (st.heap.length+q) ks (Ut C')=kf (st.heap.length+q) ks (Ut (C'.setIfInBounds i true)):=by
    intro q hq
    refine tv (fun p kp p1 p2=>?_)
    rw[Sp,ZK,RE]
    rintro rfl
    rw[Vy]at p1
    cases p1
    exact hq p2
   have UE:ki.fil=none→∀(q:Nat) (B:ap),(d4 st.heap.length ks (Ut (C'.setIfInBounds i true)))[q]?=some B→B=.dead∨(q=i∧B=ki.b)∨(q≠i∧(d4 st.heap.length ks (Ut C'))[q]?=some B∧jQ (st.heap.length+q) ks (Ut (C'.setIfInBounds i true))=false):=by
    intro Xy q B hB
    have W4:q<ks.length:=by
     have:=(Rz.1 hB).1
     rwa [d5]at this
    have Xg:ks[q]?=some ks[q]:=RB W4
    rcases ll Xg hB with h0 | ⟨g1,g2,g3,g4⟩
    ·exact .inl h0
    by_cases e:q=i
    ·subst e
     rw[Vy]at Xg
     rcases g4 with ⟨_,g5⟩ | g5
     ·refine .inr (.inl ⟨rfl,?_⟩)
      rw[g5]
      simp only[RM]at Xg
      rw[← Xg]
     ·exfalso
      obtain⟨p,kp,p1,p2,p3,_⟩:=gv g5
      rw[Sp,ZK]at p2
      obtain⟨_,k2,_⟩:=jc UO p1 (vH p3)
      rw[TF]at k2
      by_cases Xz:p=q
      ·subst Xz
       rw[Vy]at p1
       cases p1
       rw[Xy]at p3;cases p3
      ·rw[RE Xz]at p2
       have Zx:p<m:=by have:=(Rz.1 p1).1;omega
       rw[dh C' m p Zx]at p2
       have:=YP p p2 Zx q k2
       rw[UU]at this;cases this
    ·refine .inr (.inr ⟨e,vK Xg ?_ (hdold q g2) g3 ?_,g2⟩)
     ·have e2:=ZK q
      rw[RE e]at e2
      rw[← e2];exact g1
     ·rw[YR q (by rw[Xy];simp)];exact g4
   have YS:∀(t:Nat),o.dst=some t→∀(S':Nat→Prop) (μ':Nat→Value) (u:Value) (w':World) (Wm:List (Nat×D)) (H':List ap),bc C S' μ' ⟨Wm,H'⟩ (a'.put o.dst u) w'→(∀s d,(s,d)∈(eB (ops.take m) st ks (Ut C')).env→s≠t→(s,d)∈Wm)→(t,ki.d)∈Wm →
     (∀(j:Nat) (B:ap),(eB (ops.take m) st ks (Ut (C'.setIfInBounds i true))).heap[j]?=some B→B=.dead∨H'[j]?=some B)→bc C S' μ' (eB (ops.take m) st ks (Ut (C'.setIfInBounds i true))) (a'.put o.dst u) w':=by
    intro t X9 S' μ' u w' Wm H' U0 he1 he2 hH
    have h2:=U0.weak (env:=(eB (ops.take m) st ks (Ut (C'.setIfInBounds i true))).env) (fun s d hm=>.inr ?_)
    ·exact h2.heapTo hH
    ·rcases SK.1 hm with hm | hm
     ·refine he1 s d (Tu _ hm) ?_
      rintro rfl
      exact(kg hm).2 o (Sf (WB i o X7 Vx)) X9
     ·obtain⟨j,oj,kj,q1,q2,q3,q4,rfl⟩:=gw hm
      by_cases hj:j=i
      ·subst hj
       rw[Vy]at q2;cases q2
       rw[WB j o X7 Vx]at q1;cases q1
       rw[X9]at q4;cases q4
       exact he2
      ·rw[ZK,RE hj]at q3
       refine he1 s kj.d (S9 _ (oq j q1 q2 q3 q4)) ?_
       rintro rfl
       exact hj (xL YN j i oj o s q1 (WB i o X7 Vx) q4 X9)
   have hlenA:(eB (ops.take m) st ks (Ut C')).heap.length=st.heap.length+ks.length:=by
    show(st.heap++d4 st.heap.length ks (Ut C')).length=_
    rw[RV,d5]
   have hil:i<ks.length:=(Rz.1 Vy).1
   have ZL:∀(t:Nat),o.dst=some t→t<C.nt→ki.fil=none→∀(S':Nat→Prop) (μ':Nat→Value) (u:Value) (w':World) (H':List ap),bc C S' μ' ⟨(eB (ops.take m) st ks (Ut C')).env,H'⟩ a' w'→H'=(eB (ops.take m) st ks (Ut C')).heap.set (st.heap.length+i) ki.b→an S' μ' w' ki.d u→bc C S' μ' (eB (ops.take m) st ks (Ut (C'.setIfInBounds i true))) (a'.put o.dst u) w':=by
    intro t X9 htn Xy S' μ' u w' H' U0 hH' hd
    subst hH'
    have h1:=U0.put htn hd
    rw[← X9]at h1
    refine YS t X9 S' μ' u w' _ _ h1 (fun s d hm hs=>Sb _ (kk hm hs)) (Se ..) (fun j B hB=>?_)
    show B=.dead∨((eB (ops.take m) st ks (Ut C')).heap.set (st.heap.length+i) ki.b)[j]?=some B
    have UJ:(st.heap++d4 st.heap.length ks (Ut (C'.setIfInBounds i true)))[j]?=some B:=hB
    by_cases hj2:j<st.heap.length
    ·rw[RP hj2]at UJ
     rw[RQ (by omega)]
     refine .inr ?_
     show(st.heap++d4 st.heap.length ks (Ut C'))[j]?=some B
     rw[RP hj2];exact UJ
    ·rw[RT (by omega)]at UJ
     rcases UE Xy _ B UJ with h1 | ⟨h1,rfl⟩ | ⟨h1,h2,_⟩
     ·exact .inl h1
     ·rw[show j=st.heap.length+i by omega,RR (by rw[hlenA];omega)]
      exact .inr rfl
     ·rw[RQ (by omega)]
      refine .inr ?_
      show(st.heap++d4 st.heap.length ks (Ut C'))[j]?=some B
      rw[RT (by omega)];exact h2
   have VN:(eB (ops.take m) st ks (Ut C')).heap[st.heap.length+i]?=some .dead:=by
    show(st.heap++d4 st.heap.length ks (Ut C'))[st.heap.length+i]?=some .dead
    rw[RT (by omega),TF,ou _ _ _ _ _ Vy,RE (by rw[hgi];simp)]
   have next:∀(S':Nat→Prop) (μ':Nat→Value) (u:Value) (w':World),bc C S' μ' (eB (ops.take m) st ks (Ut (C'.setIfInBounds i true))) (a'.put o.dst u) w' →
     wpAnyIn (od C.rd) 0 C.P .any ops.toArray (fun e a' w'=>∃T4 S' μ',Q e T4∧bc C S' μ' T4 a' w') (fuel+(ops.toArray.size-m)) (C'.setIfInBounds i true) (a'.put o.dst u) w' :=
    fun S' μ' u w' U0=>ih _ _ S' μ' _ w' (hF.step Vj ho UU hr u) U0 hu' hno'
   have joinN:∀(S':Nat→Prop) (μ':Nat→Value) (w':World) (H':List ap),o.dst=none→bc C S' μ' ⟨(eB (ops.take m) st ks (Ut C')).env,H'⟩ a' w' →
     (∀(j:Nat) (B:ap),(eB (ops.take m) st ks (Ut (C'.setIfInBounds i true))).heap[j]?=some B→B=.dead∨H'[j]?=some B)→bc C S' μ' (eB (ops.take m) st ks (Ut (C'.setIfInBounds i true))) a' w':=by
    intro S' μ' w' H' ZM U0 hH
    have h2:=U0.weak (env:=(eB (ops.take m) st ks (Ut (C'.setIfInBounds i true))).env) (fun s d hm=>.inr ?_)
    ·exact h2.heapTo hH
    ·rcases SK.1 hm with hm | hm
     ·exact Tu _ hm
     ·obtain⟨j,oj,kj,q1,q2,q3,q4,rfl⟩:=gw hm
      by_cases hj:j=i
      ·subst hj
       rw[WB j o X7 Vx]at q1;cases q1
       rw[ZM]at q4;cases q4
      ·rw[ZK,RE hj]at q3
       exact S9 _ (oq j q1 q2 q3 q4)
   unfold wpOpIn
   simp only[ho]
   rcases hdsts i o X7 Vx with ⟨t,X9,htn,W7⟩ | ⟨ZM,Uz⟩
   rotate_left
   ·-- a store that fills
    have YT:∀(S':Nat→Prop) (μ':Nat→Value) (w':World),bc C S' μ' (eB (ops.take m) st ks (Ut (C'.setIfInBounds i true))) a' w' →
      wpAnyIn (od C.rd) 0 C.P .any ops.toArray (fun e a' w'=>∃T4 S' μ',Q e T4∧bc C S' μ' T4 a' w') (fuel+(ops.toArray.size-m)) (C'.setIfInBounds i true) a' w':=by
     intro S' μ' w' U0
     have Vb:a'.put o.dst undef=a':=by rw[ZM];rfl
     have h1:=next S' μ' undef w' (by rw[Vb];exact U0)
     rw[Vb]at h1
     exact h1
    have U7:ki.fil=none→ki.b=.dead→∀(j:Nat) (B:ap),(eB (ops.take m) st ks (Ut (C'.setIfInBounds i true))).heap[j]?=some B→B=.dead∨(eB (ops.take m) st ks (Ut C')).heap[j]?=some B:=by
     intro Xy hbd j B hB
     have UJ:(st.heap++d4 st.heap.length ks (Ut (C'.setIfInBounds i true)))[j]?=some B:=hB
     show B=.dead∨(st.heap++d4 st.heap.length ks (Ut C'))[j]?=some B
     by_cases hj2:j<st.heap.length
     ·rw[RP hj2]at UJ ⊢;exact .inr UJ
     ·rw[RT (by omega)]at UJ ⊢
      rcases UE Xy _ B UJ with h1 | ⟨_,h1⟩ | ⟨_,h2,_⟩
      ·exact .inl h1
      ·rw[hbd]at h1;exact .inl h1
      ·exact .inr h2
    rcases X8 with ⟨hg,k,p,hq,hp,hk⟩ | ⟨hg,hk⟩
    ·rw[Vy]at hk
     cases hk
     rw[RH (by rw[cy Zy hg])]
     cases VL:o.op<;>rw[VL]at Uz<;>try (cases Uz)
     rename_i ty ad x
     rw[VL]at hq
     obtain⟨id,T,cs,YH,f1,f2,f3⟩:=C2 hq hp
     have f1':(eB (ops.take m) st ks (Ut C')).heap[id]?=some (.var T cs):=(YQ id _ f1).resolve_left (by simp)
     obtain⟨w',h1,h2⟩:=qQ hRL (Zy.eval ad) (Zy.eval x) (f3 _ f1') trivial
     have hr:(execOp a'.eval o).run C.P w=.ok .skip w':=by
      simp only[execOp,VL,RG,h1,RF,R5]
     have hkb:ki.b=.var T YH:=by rw[f2]
     have VB:ki.kl=some id:=by rw[f2]
     have hkf:ki.fil=some id:=by unfold Mk.fil;rw[hkb];exact VB
     obtain⟨k1,k2,_⟩:=jc UO Vy VB
     refine N2 hnd ho ?_
     rw[hr,Oper.uponIn_skip,ZM]
     refine YT S μ w' (joinN S μ w' _ ZM h2 (fun j B hB=>?_))
     have UJ:(st.heap++d4 st.heap.length ks (Ut (C'.setIfInBounds i true)))[j]?=some B:=hB
     have hidl:id<(eB (ops.take m) st ks (Ut C')).heap.length:=(Rz.1 f1').1
     by_cases hj2:j<st.heap.length
     ·rw[RP hj2]at UJ
      rw[RQ (by omega)]
      refine .inr ?_
      show(st.heap++d4 st.heap.length ks (Ut C'))[j]?=some B
      rw[RP hj2];exact UJ
     ·rw[RT (by omega)]at UJ
      generalize hjq:j-st.heap.length=q at UJ
      have hje:j=st.heap.length+q:=by omega
      have W4:q<ks.length:=by
       have:=(Rz.1 UJ).1
       rwa [d5]at this
      have Xg:ks[q]?=some ks[q]:=RB W4
      rcases ll Xg UJ with h0 | ⟨g1,g2,g3,g4⟩
      ·exact .inl h0
      have hqi:q≠i:=fun e=>by
       subst e
       rw[Vy]at Xg
       simp only[RM]at Xg
       rw[← Xg,hkf]at g3;cases g3
      by_cases e:j=id
      ·refine .inr ?_
       rw[e,RR hidl]
       have hfi:kf (st.heap.length+q) ks (Ut (C'.setIfInBounds i true))=some B→B=ki.b:=fun g5=>by
        obtain⟨p',kp,p1,p2,p3,p4⟩:=gv g5
        have e3:=vM UO p1 Vy (vH p3) (by rw[VB,← e,hje])
        subst e3
        rw[Vy]at p1
        cases p1
        exact p4
       rcases g4 with ⟨g5,_⟩ | g5
       ·exact(lk g5 i ki Vy (by rw[Sp,ZK,RH rfl]) (by rw[hkf,← e,hje])).elim
       ·rw[hfi g5,hkb]
      ·rw[RQ (TO e)]
       refine .inr ?_
       show(st.heap++d4 st.heap.length ks (Ut C'))[j]?=some B
       rw[RT (by omega),hjq]
       refine vK Xg ?_ (hdold q g2) g3 ?_
       ·have e2:=ZK q
        rw[RE hqi]at e2
        rw[← e2];exact g1
       ·rw[YR q (by rw[hkf,← hje];intro h;cases h;exact e rfl)];exact g4
    ·rw[Vy]at hk
     cases hk
     rw[RE (by rw[cy Zy hg];simp)]
     have h9:=YT S μ w (joinN S μ w _ ZM hRL (U7 rfl rfl))
     refine⟨fun f _=>pV C.rd f,?_⟩
     rw[ZM]
     exact h9
   rcases X8 with ⟨hg,k,p,hq,hp,hk⟩ | ⟨hg,hk⟩
   ·rw[Vy]at hk
    cases hk
    rw[RH (by rw[cy Zy hg])]
    have ZN:ki.b.live=true∨ki.kl.isSome=true→b9 (st.heap.length+i) (eB (ops.take m) st ks (Ut C')).env=true∧bQ (st.heap.length+i) (eB (ops.take m) st ks (Ut C')).heap=true:=by
     intro U8
     obtain⟨f1,f2,f3⟩:=xK VG i _ ki (RB (show i<P'.length by omega)) Vy U8
     rw[Sp]at f1 f2 f3
     have VW:∀(j:Nat) (k:Mk),ks[j]?=some k→(Ut C').getD j false=true→D.free (st.heap.length+i) k.d=true∧ap.free (st.heap.length+i) k.b=true:=by
      intro j k hkj hlj
      have hjm:j<m:=by have:=(Rz.1 hkj).1;omega
      rw[dh C' m j hjm]at hlj
      rcases xJ f3 j _ k (RB (show j<P'.length by omega)) hkj with h1 | h1 | h1
      ·rw[Sp]at h1;subst h1;rw[UU]at hlj;cases hlj
      ·exfalso
       have hoj:ops[j]?=some (ops[j]'(by omega)):=RB (by omega)
       have:=qe (ops:=ops) (P':=P') (m:=m) (ls:=C') (fun i o hl ho e he hb=>hF.closed i o hl (by simpa using ho) e he hb) (fun i o ho e he hb=>Vj.top i o (by simpa using ho) e he hb) X6 (fun j o ho=>(Yz j o ho).1) UL j _ hjm hoj
        (hF.closed j _ hlj (by simp)) i (by
         have e:P'.getD j []=P'[j]'(by omega):=by simp[List.getD,RB (show j<P'.length by omega)]
         rw[e];exact h1)
       rw[UU]at this;cases this
      ·exact h1
     refine⟨A8 (fun s d hm=>?_),qW (fun j B hB=>?_)⟩
     ·rcases SK.1 hm with hm | hm
      ·exact ct f1 (kg hm).1
      ·obtain⟨j,oj,kj,q1,q2,q3,q4,rfl⟩:=gw hm
       exact(VW j kj q2 q3).1
     ·have UJ:(st.heap++d4 st.heap.length ks (Ut C'))[j]?=some B:=hB
      by_cases hj2:j<st.heap.length
      ·rw[RP hj2]at UJ;exact cu f2 UJ
      ·rw[RT (by omega)]at UJ
       generalize Wn:j-st.heap.length=q at UJ
       have W4:q<ks.length:=by
        have:=(Rz.1 UJ).1
        rwa [d5]at this
       have Xg:ks[q]?=some ks[q]:=RB W4
       rcases ll Xg UJ with rfl | ⟨g1,_,_,g4⟩
       ·rfl
       ·rcases g4 with ⟨_,rfl⟩ | g5
        ·exact(VW q _ Xg g1).2
        ·obtain⟨p',kp,p1,p2,_,rfl⟩:=gv g5
         rw[Sp]at p2
         exact(VW p' kp p1 p2).2
    have hkill:∀(u:Value) (w':World) (WO:Nat) (A0 B0:ap),ki.kl=some WO→sti.heap[WO]?=some A0→A0.isArr=true→B0.isArr=true→w.grownBy w' (aI (μ WO))→aH S μ w' u B0→(∀b,bL u b→aI (μ WO)=some b∨w.heap.size≤b) →
      ((ki.b=B0∧ki.d=.own sti.heap.length)∨∃(E sz:Nat) (α:Type) (enc:α→List V) (d:α) (l:List α),B0=.arr E sz enc d l∧ki.b=.dead∧ki.d=.v (.sl sz enc d l))→∃S' μ',bc C S' μ' (eB (ops.take m) st ks (Ut (C'.setIfInBounds i true))) (a'.put o.dst u) w':=by
     intro u w' WO A0 B0 VB hA0 hAa Ya Xh N' Uj hval
     obtain⟨k1,k2,_⟩:=jc UO Vy VB
     have Xy:ki.fil=none:=Kg (by
      rcases hval with ⟨e1,_⟩ | ⟨_,_,_,_,_,_,_,e1,_⟩
      ·exact .inl (by rw[e1];exact(ap.isOwn_arr Ya))
      ·exact .inr e1)
     obtain⟨f1,f2⟩:=ZN (.inr (by rw[VB];rfl))
     have XA:A0.live=true:=by cases A0<;>first | rfl | cases hAa
     have YA:B0.live=true:=by cases B0<;>first | rfl | cases Ya
     have ZO:(eB (ops.take m) st ks (Ut C')).heap[WO]?=some A0:=by
      refine(YQ WO A0 hA0).resolve_left (fun e=>?_)
      rw[e]at XA;cases XA
     have Vh:WO≠st.heap.length+i:=fun e=>by rw[e,VN]at ZO;cases ZO;cases XA
     have h1:=hRL.alias ZO hAa VN f1 f2
     have hPl:st.heap.length+i<(eB (ops.take m) st ks (Ut C')).heap.length:=by rw[hlenA];omega
     have hidl:WO<(eB (ops.take m) st ks (Ut C')).heap.length:=(Rz.1 ZO).1
     let H1:=((eB (ops.take m) st ks (Ut C')).heap.set WO .dead).set (st.heap.length+i) A0
     have hH1P:H1[st.heap.length+i]?=some A0:=RR (by rw[Sw];exact hPl)
     have hH1:∀j,j≠st.heap.length+i→j≠WO→H1[j]?=(eB (ops.take m) st ks (Ut C')).heap[j]?:=fun j h1 h2=>by
      show(((eB (ops.take m) st ks (Ut C')).heap.set WO .dead).set (st.heap.length+i) A0)[j]?=_
      rw[RQ (TO h1),RQ (TO h2)]
     have hfH1:bQ (st.heap.length+i) H1=true:=qW (fun j B hB=>by
      by_cases e1:j=st.heap.length+i
      ·rw[e1,hH1P]at hB;cases hB;cases A0<;>first | rfl | cases hAa
      ·by_cases e2:j=WO
       ·subst e2
        have:H1[j]?=some .dead:=by
         show(((eB (ops.take m) st ks (Ut C')).heap.set j .dead).set (st.heap.length+i) A0)[j]?=_
         rw[RQ (TO e1),RR hidl]
        rw[this]at hB;cases hB;rfl
       ·rw[hH1 j e1 e2]at hB;exact cu f2 hB)
     have h2:=h1.upd0 (id:=st.heap.length+i) (B:=B0) (row:=aI (μ WO)) (u:=u) Xh (fun k hk=>⟨A0,hH1P,XA,by rw[ay];exact .inl hk⟩) (by show _≤H1.length;simp[H1];omega) (N'.arrMu (ap.isOwn_arr Ya)) Uj (.inr ⟨f1,hfH1⟩) (mD Ya)
     have hset:ck H1 (st.heap.length+i) B0=H1.set (st.heap.length+i) B0:=by
      unfold ck
      rw[RE (by
       intro hh;rw[RY]at hh
       have:H1.length=(eB (ops.take m) st ks (Ut C')).heap.length:=by simp[H1]
       omega)]
     have ZP:bc C S (aZ (aZ μ (st.heap.length+i) (μ WO)) (st.heap.length+i) u) ⟨(eB (ops.take m) st ks (Ut C')).env,H1.set (st.heap.length+i) B0⟩ a' w':=by rw[← hset];exact h2
     have Uc:an S (aZ (aZ μ (st.heap.length+i) (μ WO)) (st.heap.length+i) u) w' (.own (st.heap.length+i)) u:=by
      have:=an.own (S:=S) (μ:=aZ (aZ μ (st.heap.length+i) (μ WO)) (st.heap.length+i) u) (w:=w') (st.heap.length+i)
      rwa [ay]at this
     have h3:=ZP.put htn Uc
     rw[← X9]at h3
     have hH1l:H1.length=(eB (ops.take m) st ks (Ut C')).heap.length:=by simp[H1]
     have YU:∀(j:Nat) (B:ap),(eB (ops.take m) st ks (Ut (C'.setIfInBounds i true))).heap[j]?=some B→B=.dead∨(j=st.heap.length+i∧B=ki.b)∨(j≠st.heap.length+i∧H1[j]?=some B∧ap.free (st.heap.length+i) B=true):=by
      intro j B hB
      have UJ:(st.heap++d4 st.heap.length ks (Ut (C'.setIfInBounds i true)))[j]?=some B:=hB
      by_cases hj2:j<st.heap.length
      ·rw[RP hj2]at UJ
       have YV:(eB (ops.take m) st ks (Ut C')).heap[j]?=some B:=by
        show(st.heap++d4 st.heap.length ks (Ut C'))[j]?=some B
        rw[RP hj2];exact UJ
       exact .inr (.inr ⟨by omega,by rw[hH1 j (by omega) (by omega)];exact YV,cu f2 YV⟩)
      ·rw[RT (by omega)]at UJ
       rcases UE Xy _ B UJ with q1 | ⟨q1,rfl⟩ | ⟨q1,q2,q3⟩
       ·exact .inl q1
       ·exact .inr (.inl ⟨by omega,rfl⟩)
       ·have YV:(eB (ops.take m) st ks (Ut C')).heap[j]?=some B:=by
         show(st.heap++d4 st.heap.length ks (Ut C'))[j]?=some B
         rw[RT (by omega)];exact q2
        have hjid:j≠WO:=fun e=>by
         rw[show st.heap.length+(j-st.heap.length)=WO by omega,uz (bs:=Ut (C'.setIfInBounds i true)) Vy (by rw[ZK,RH rfl]) (by rw[Ms Xy];exact VB)]at q3
         cases q3
        exact .inr (.inr ⟨by omega,by rw[hH1 j (by omega) hjid];exact YV,cu f2 YV⟩)
     rcases hval with ⟨e1,e2⟩ | ⟨E,sz,α,enc,d,l,rfl,e1,e2⟩
     ·refine⟨_,_,YS t X9 S _ u w' _ _ h3 (fun s d hm hs=>Sb _ (kk hm hs)) (by rw[e2,hsl];exact Se ..) (fun j B hB=>?_)⟩
      rcases YU j B hB with q1 | ⟨rfl,rfl⟩ | ⟨q1,q2,_⟩
      ·exact .inl q1
      ·refine .inr ?_
       rw[RR (by rw[hH1l];exact hPl),e1]
      ·refine .inr ?_
       rw[RQ (TO q1)];exact q2
     ·have XI:(H1.set (st.heap.length+i) (ap.arr E sz enc d l))[st.heap.length+i]?=some (ap.arr E sz enc d l):=RR (by rw[hH1l];exact hPl)
      obtain⟨S3,h4⟩:=h3.freezeZ (id:=st.heap.length+i) (Z:=ap.arr E sz enc d l) (z:=.sl (.sl sz enc d l)) XI rfl (iI (h3.heap.box _ _ XI) (fun b hb=>.inl hb) (fun b hb=>.inr hb) h3.slt)
      refine⟨S3,_,YS t X9 S3 _ u w' _ _ h4 (fun s d' hm hs=>?_) ?_ (fun j B hB=>?_)⟩
      ·have:=vN (id:=st.heap.length+i) (x:=.sl (.sl sz enc d l)) (Sb (t,D.own (st.heap.length+i)) (kk (t:=t) hm hs))
       rwa [sw d' (ct f1 hm)]at this
      ·have:=vN (id:=st.heap.length+i) (x:=.sl (.sl sz enc d l)) (Se (a:=(t,D.own (st.heap.length+i))) (l:=tu (eB (ops.take m) st ks (Ut C')).env t))
       have e:eO (st.heap.length+i) (.sl (.sl sz enc d l)) (.own (st.heap.length+i))=.v (.sl sz enc d l):=by simp[eO,Fz.own]
       rw[e2,← e]
       exact this
      ·rcases YU j B hB with q1 | ⟨_,rfl⟩ | ⟨q1,q2,q3⟩
       ·exact .inl q1
       ·exact .inl e1
       ·refine .inr ?_
        show((py (st.heap.length+i) (.sl (.sl sz enc d l)) (H1.set (st.heap.length+i) (ap.arr E sz enc d l))).set (st.heap.length+i) .dead)[j]?=some B
        rw[RQ (TO q1),kb,RQ (TO q1),q2,Sr,F5 B q3]
    rw[HG W7]at hq
    refine N2 hnd ho (pu.uponIn (C4 Zy.heap Zy.slt Zy.glob (fun x=>Zy.eval x) hq hp (R:=fun u w'=>∃S' μ',bc C S' μ' (eB (ops.take m) st ks (Ut (C'.setIfInBounds i true))) (a'.put o.dst u) w') ?_) (fun u w' hex=>?_))
    ·rintro u w' (⟨VB,V',hc⟩ | ⟨WO,A0,B0,VB,hA0,hAa,Ya,Xh,N',Uj,hval⟩)
     rotate_left
     ·exact hkill u w' WO A0 B0 VB hA0 hAa Ya Xh N' Uj hval
     rcases hc with ⟨hbd,hd⟩ | ⟨obj,U8,rfl,N',hd,Uj⟩ | ⟨S2,μ1,u0,hBA,s1,s2,s3,N',hd,Uj⟩
     ·-- no box
      refine⟨fun b=>S b∨(w.heap.size≤b∧b<w'.heap.size),μ,ZL t X9 htn (vI VB) _ μ u w' (H':=(eB (ops.take m) st ks (Ut C')).heap.set (st.heap.length+i) ki.b) ?_ rfl ?_⟩
      ·rw[hbd,A7 VN]
       exact hRL.grow V'.os V'.tape V'.output V'.size V'.block (fun b hb=>.inl hb) (fun b hb=>hb.imp (fun h=>h) (fun h=>h.1)) (fun b hb=>by
        rcases hb with hb | hb
        ·exact SA (hRL.slt b hb) V'.size
        ·exact hb.2)
      ·exact hd.stable (fun b hb hl=>hb.imp (fun h=>h) (fun h=>⟨h,hl⟩)) (fun _ _ _=>rfl) (RD _) (fun _ _=>rfl)
     ·-- a new box
      rw[hsl]at N' hd
      refine⟨S,aZ μ (st.heap.length+i) u,ZL t X9 htn (vI VB) S _ u _ (H':=ck (eB (ops.take m) st ks (Ut C')).heap (st.heap.length+i) ki.b) ?_ ?_ hd⟩
      ·refine hRL.upd0 (SW w obj none) (fun k hk=>by cases hk) ?_ N' (fun b hb=>.inr (by rw[Uj b hb];exact RD _)) ?_ (FV U8)
       ·have:=(Rz.1 VN).1;omega
       ·refine .inr ?_
        exact ZN (.inl U8)
      ·unfold ck
       rw[RE (by
        have:=(Rz.1 VN).1
        intro hh;rw[RY]at hh;omega)]
     ·-- a box that a call hands over
      rw[hsl]at hd
      have U8:ki.b.live=true:=by cases hkb:ki.b<;>first | rfl | (rw[hkb]at hBA;cases hBA)
      refine⟨S2,aZ μ (st.heap.length+i) u0,ZL t X9 htn (vI VB) S2 _ u _ (H':=(eB (ops.take m) st ks (Ut C')).heap.set (st.heap.length+i) ki.b) ?_ rfl hd⟩
      have hG:bc C S2 μ (eB (ops.take m) st ks (Ut C')) a' w':=hRL.grow V'.os V'.tape V'.output V'.size V'.block s1 s2 s3
      refine hG.addAt VN (ZN (.inl U8)).1 (ZN (.inl U8)).2 hBA N' (fun b hb=>?_)
      obtain⟨k1,k2⟩:=Uj b hb
      refine⟨SG hRL.size k1,k2,fun j A hA la Vn=>?_⟩
      have:=(hRL.heap.box j A hA).lt la b Vn
      omega
    ·obtain⟨S',μ',U0⟩:=hex
     exact next S' μ' u w' U0
   ·rw[Vy]at hk
    cases hk
    rw[RE (by rw[cy Zy hg];simp)]
    refine⟨fun f _=>pV C.rd f,next S μ undef w (ZL t X9 htn rfl S μ undef w (H':=(eB (ops.take m) st ks (Ut C')).heap.set (st.heap.length+i) .dead) ?_ rfl (.tup [] #[] rfl (fun j y u hy _=>by simp at hy)))⟩
    rw[A7 VN]
    exact hRL
 have h0:bc C S μ (eB (ops.take m) st ks (Ut (Array.replicate ops.toArray.size false))) a w.drew:=by
  have hd:bc C S μ st a w.drew:=hR.grow rfl rfl rfl (RD _) (fun _ _=>rfl) (fun _ h=>h) (fun _ h=>.inl h) hR.slt
  have hf:∀j,(Ut (Array.replicate ops.toArray.size false)).getD j false=false:=by
   intro j
   by_cases hj:j<m
   ·rw[dh _ m j hj];simp[Array.getD]
   ·exact sH _ m j (by omega)
  have h1:=hd.weak (env:=(eB (ops.take m) st ks (Ut (Array.replicate ops.toArray.size false))).env) (fun s d hm=>.inr ?_)
  ·refine h1.heapTo (fun j B hB=>?_)
   have UJ:(st.heap++d4 st.heap.length ks (Ut (Array.replicate ops.toArray.size false)))[j]?=some B:=hB
   by_cases hj:j<st.heap.length
   ·rw[RP hj]at UJ;exact .inr UJ
   ·rw[RT (by omega)]at UJ
    generalize hjj:j-st.heap.length=q at UJ
    have W4:q<ks.length:=by
     have:=(Rz.1 UJ).1
     rwa [d5]at this
    rw[ou _ _ _ _ _ (RB W4),hf q,RE (by simp)]at UJ
    cases UJ
    exact .inl rfl
  ·rcases SK.1 hm with hm | hm
   ·exact(kg hm).1
   ·obtain⟨j,oj,kj,q1,q2,q3,q4,rfl⟩:=gw hm
    rw[hf j]at q3;cases q3
 have key:=main m (Array.replicate ops.toArray.size false) (fun _=>undef) S μ a w.drew ?_ h0 (pB _ _ (by rw[Ul];exact X6)) (fun i _=>by simp[Array.getD])
 ·rw[show m+(ops.toArray.size-m)=ops.toArray.size from by rw[Ul];omega]at key
  exact wpIn_region_any YO key
 ·have hf:∀k,(Array.replicate ops.toArray.size false).getD k false=true→False:=by
   intro k hk
   simp[Array.getD]at hk
  exact⟨by simp,fun i o h=>(hf i h).elim,rfl,rfl,fun _ _=>rfl,fun j t h=>(hf j h).elim⟩
theorem Ev.dw {id:Nat} {ops:List Oper} {st:St} {Q:Exit→St→Prop} (Us:List (Nat×Ov)) (m:Nat) (h:Mw C.P C.nt ops Us m st (fun UW=>Q .normal UW)):Ev C (.region id ops.toArray true) Q st:=by
 unfold Mw at h
 obtain⟨P',ks,UL,VB,_,_,hK,Yz⟩:=C5 (ops.take m) 0 [] [] rfl rfl h
 simp only[Sp]at UL VB Yz
 cases hb:Mv C.nt ops m&&(kh st st.heap.length 0 P' ks P' ks&&lm st.heap.length P' ks)&&C.P.follows .mixedOrders with
 | false=>rw[hb]at hK;exact hK.elim
 | true =>
 rw[hb]at hK
 simp only[RA]at hb
 obtain⟨⟨hdw,VG,UO⟩,YO⟩:=hb
 unfold Mv at hdw
 simp only[RA]at hdw
 obtain⟨⟨⟨⟨Yr,WD⟩,YM⟩,YN⟩,XH⟩:=hdw
 have X6:m≤ops.length:=by have:=(pU WD).1;simpa using this
 have Ul:ops.toArray.size=ops.length:=by simp
 obtain⟨htp,htq⟩:=uw _ _ _ _ hK
 refine Ev.dwG Us m (fun _=>false) X6 UL VB Yz Yr YM YN XH VG UO YO (fun i hi hil j hj _=>(pU WD).2 i hi (by rw[Ul];exact hil) j (by omega)) ?_
 intro C' S μ a' w hls hcl hRL hall U'
 have hall:∀i,i<m→C'.getD i false=true:=fun i hi=>hall i hi rfl
 have Vj:JZ ops.toArray vL a':=AC (A2 Yr (by simp[hRL.tsize]) rfl rfl)
 have hu:Az C' m=0:=by
  have:∀n,n≤m→Az C' n=0:=by
   intro n
   induction n with
   | zero=>intro _;rfl
   | succ n ihn=>intro Xs;simp[Az,ihn (by omega),hall n (by omega)]
  exact this m (RD _)
 rw[hu,Sp,← Ul]
 refine yD Vj WD (ops.toArray.size-m) m C' a' w (RD _) (by omega) (by rw[hls,Ul]) hall U' ?_
 have el:((List.range m).map fun j=>C'.getD j false)=List.replicate m true:=by
  apply Tm
  ·simp
  ·intro j h1 h2
   simp only[List.getElem_map,List.getElem_range,List.getElem_replicate]
   exact hall j (by simpa using h1)
 rw[el]at hRL
 have hl:=qS (Q:=fun e a' w'=>∃T4 S' μ',Q e T4∧bc C S' μ' T4 a' w') (ops.drop m) m _ S μ _ w _ hRL rfl htp (fun S' μ' a' w' U0=>⟨_,S',μ',htq,U0⟩)
 have e:=wpOpsIn_eq_wpListIn (F:=od C.rd) (n:=0) (P:=C.P) (ops:=ops.toArray) (Q:=fun e a' w'=>∃T4 S' μ',Q e T4∧bc C S' μ' T4 a' w') (ops.drop m) m (fun j=>by simp)
 rw[Sd]at e
 rw[Ul,e]
 exact hl
theorem HK {ops:List Oper} {Q:Exit→St→Prop} (Us:List (Nat×Ov)) (tab:wU) {T4:St} (hnd:ops.all (fun o=>!dg o)=true) (he:fD tab (List.replicate ops.length true)=some T4) (hp:Gd C.P C.nt ops Us tab tab) (hq:Q .normal T4):∀(fuel:Nat) (ls:List Bool) (C':Array Bool) (s:St) (S:Nat→Prop) (μ:Nat→Value) (a:Act) (w:World),gZ ls=fuel→ls.length=ops.length→C'.size=ops.length→(∀i,C'.getD i false=ls.getD i false) →
   fD tab ls=some s→bc C S μ s a w→wpAnyIn (od C.rd) 0 C.P .any ops.toArray (fun e a' w'=>∃T4 S' μ',Q e T4∧bc C S' μ' T4 a' w') fuel C' a w:=by
 have Ul:ops.toArray.size=ops.length:=by simp
 intro fuel
 induction fuel with
 | zero =>
  intro ls C' s S μ a w hf hl hls hg hs hR
  have hall:=vE hf
  have Vk:=ff hall
  rw[hl]at Vk
  refine⟨List.eq_nil_iff_forall_not_mem.2 (fun i hi=>?_),?_⟩
  ·obtain⟨h1,o,ho,_⟩:=(dK C' (by rw[hls,Ul]) i).1 hi
   have Vc:i<ops.length:=by simpa using(RU.1 ho).1
   have hb:(List.replicate ops.length true).getD i false=true:=by simp[List.getD,SR,Vc]
   rw[hg,Vk,hb]at h1
   cases h1
  ·rw[Vk,he]at hs
   cases hs
   exact⟨_,S,μ,hq,hR⟩
 | succ fuel ih =>
  intro ls C' s S μ a w hf hl hls hg hs hR
  have Wa:=vD hp (sD hs)
  have YB:ls.all id=false:=by
   cases hb:ls.all id
   ·rfl
   ·rw[ff hb]at hf
    simp[gZ]at hf
  unfold y3 at Wa
  rw[RE (by rw[YB];simp)]at Wa
  have XJ:∀i,i∈Region.ready .any ops.toArray C'↔i∈ja ops ls:=by
   intro i
   rw[dK C' (by rw[hls,Ul]) i]
   unfold ja
   rw[Ta,SD]
   unfold Mq
   constructor
   ·rintro⟨h1,o,ho,h2⟩
    have Vx:ops[i]?=some o:=by simpa using ho
    refine⟨(Rz.1 Vx).1,?_⟩
    rw[← hg,h1,Vx]
    simp only[Bool.not_false,Tc,R7,Tv,Sh,Sj]
    intro e he
    cases hb:Region.binds .any e
    ·exact .inl rfl
    ·exact .inr (by rw[← hg];exact h2 e he hb)
   ·rintro⟨h1,h2⟩
    rw[RA]at h2
    obtain⟨h2,h3⟩:=h2
    rw[RB h1]at h3
    refine⟨by rw[hg];simpa using h2,ops[i],by simp[RB h1],fun e he hb=>?_⟩
    simp only[R7,Tv,Sh,Sj]at h3
    rcases h3 e he with h4 | h4
    ·rw[hb]at h4;cases h4
    ·rw[hg];exact h4
  have YW:∀i,i∈ja ops ls→xC C.P C.nt ops Us tab ls s i:=by
   intro i hi
   cases hr:ja ops ls with
   | nil=>rw[hr]at hi;cases hi
   | cons j r =>
    rw[hr]at Wa hi
    exact qc Wa hi
  refine⟨fun WC=>?_,fun i hi=>?_⟩
  ·exfalso
   cases hr:ja ops ls with
   | nil=>rw[hr]at Wa;exact Wa
   | cons j r =>
    have:j∈Region.ready .any ops.toArray C':=(XJ j).2 (by rw[hr];exact Se ..)
    rw[WC]at this
    cases this
  ·have Yb:=(XJ i).1 hi
   have Uz:=YW i Yb
   obtain⟨UU,o,ho,_⟩:=(dK C' (by rw[hls,Ul]) i).1 hi
   have Vx:ops[i]?=some o:=by simpa using ho
   have Un:i<ops.length:=(Rz.1 Vx).1
   unfold xC at Uz
   rw[Vx]at Uz
   simp only at Uz
   generalize hsq:dQ C.P C.nt ops Us i [o] s=q at Uz
   obtain⟨s1,p1⟩:=q
   simp only at Uz
   split at Uz
   ·rename_i s2 Vs
    obtain⟨V0,Xc⟩:=Uz
    have next:∀S' μ' a' w',bc C S' μ' s1 a' w'→wpAnyIn (od C.rd) 0 C.P .any ops.toArray (fun e a' w'=>∃T4 S' μ',Q e T4∧bc C S' μ' T4 a' w') fuel (C'.setIfInBounds i true) a' w':=by
     intro S' μ' a' w' U0
     have XB:=U0.keep (s2.env.map (·.1))
     have e2:(⟨mN (s2.env.map (·.1)) s1.env,s1.heap⟩:St)=s2:=V0
     rw[e2]at XB
     refine ih (ls.set i true) (C'.setIfInBounds i true) s2 S' μ' a' w' ?_ (by simpa using hl) (by simpa using hls) ?_ Vs XB
     ·have:=sF (ls:=ls) (i:=i) (by omega) (by rw[← hg];exact UU)
      omega
     ·intro j
      rw[ba _ _ _ (by omega)]
      split
      ·rename_i hj
       rw[hj]
       unfold List.getD
       rw[RR (show i<ls.length by omega)]
       rfl
      ·rename_i hj
       rw[hg]
       unfold List.getD
       rw[RQ (by omega)]
    have hdef:dg o=false:=by
     rw[R7]at hnd
     have:=hnd o (Sf Vx)
     simpa using this
    unfold dQ at hsq
    unfold wpOpIn
    rw[ho]
    simp only
    split at hsq
    ·rename_i Zz
     rw[RH (cy hR Zz)]
     generalize V1:pH C.P C.nt (pz Us i) o s=q1 at hsq
     obtain⟨s1',p1'⟩:=q1
     simp only[dQ,RI]at hsq
     obtain⟨rfl,rfl⟩:=hsq
     exact ub hdef (mP hR V1 Xc.1 next)
    ·rename_i Zz
     rw[RE (by rw[cy hR Zz];simp)]
     generalize V1:mM C.nt s o.dst=q1 at hsq
     obtain⟨s1',p1'⟩:=q1
     simp only[dQ,RI]at hsq
     obtain⟨rfl,rfl⟩:=hsq
     refine⟨fun f _=>pV C.rd f,?_⟩
     unfold mM at V1
     refine next S μ _ _ (hR.ePut V1 Xc.1 ?_).2
     exact .tup [] #[] rfl (fun j y u hy _=>by simp at hy)
    ·simp only[aV,RI]at hsq
     rw[← hsq.2]at Xc
     exact Xc.elim
   ·exact Uz.elim
def Es (tab:wU) (j:Nat):Bool:=tab.any (fun e=>!(e.1.getD j false))
def C6 (ops:Array Oper) (m:Nat) (Vi:Nat→Bool):Bool:=decide (m≤ops.size)&&(List.range ops.size).all fun k=>decide (k<m)||(List.range m).all fun j=>Vi j||df ops k j
theorem A9 {ops:Array Oper} {m:Nat} {Vi:Nat→Bool} (h:C6 ops m Vi=true):m≤ops.size∧∀k,m≤k→k<ops.size→∀j,j<m→Vi j=false→df ops k j=true:=by
 unfold C6 at h
 simp only[RA,Sy,R7,SD,Sh]at h
 exact⟨h.1,fun k hk ZQ j hj hl=>((h.2 k ZQ).resolve_left (by omega) j hj).resolve_left (by rw[hl];simp)⟩
def qf (Vi:Nat→Bool):Nat→List (List Bool)
 | 0=>[[]]
 | m+1=>match Vi m with
  | true=>(qf Vi m).map (·++[true])++(qf Vi m).map (·++[false])
  | false=>(qf Vi m).map (·++[true])
theorem vO {Vi:Nat→Bool} (f:Nat→Bool):∀(m:Nat),(∀j,j<m→Vi j=false→f j=true)→(List.range m).map f∈qf Vi m
 | 0,_=>by simp[qf]
 | m+1,h=>by
  have ih:=vO f m (fun j hj=>h j (by omega))
  rw[TL,RO,qf]
  split
  ·rename_i hl
   cases hf:f m
   ·exact S9 _ (TX.2 ⟨_,ih,by simp[hf]⟩)
   ·exact Tu _ (TX.2 ⟨_,ih,by simp[hf]⟩)
  ·rename_i hl
   exact TX.2 ⟨_,ih,by simp[h m (by omega) hl]⟩
def Et (ops:List Oper) (ls:List Bool):Bool:=(List.range ls.length).all fun i=>!(ls.getD i false)||(match ops[i]? with | some o=>o.after.toList.all (fun e=>!Region.binds .any e||ls.getD e.on false) | none=>true)
def Ba (ops:List Oper) (m:Nat) (st:St) (ks:List Mk) (tab:wU):List (List Bool)→Prop
 | []=>True
 | l::r=>match Et ops l with
  | true=>match fD tab (l++List.replicate (ops.length-m) false)with
   | some s=>vC (eB (ops.take m) st ks l) s=s∧Ba ops m st ks tab r
   | none=>False
  | false=>Ba ops m st ks tab r
theorem sI {ops:List Oper} {m:Nat} {st:St} {ks:List Mk} {tab:wU}:∀{r:List (List Bool)} {l:List Bool},Ba ops m st ks tab r→l∈r→Et ops l=true→∃s,fD tab (l++List.replicate (ops.length-m) false)=some s∧vC (eB (ops.take m) st ks l) s=s
 | x::r,l,h,hm,hc=>by
  unfold Ba at h
  rcases Sq.1 hm with e | hm
  ·subst e
   rw[hc]at h
   simp only at h
   split at h
   ·rename_i s hs;exact⟨s,hs,h.1⟩
   ·exact h.elim
  ·split at h
   ·split at h
    ·exact sI h.2 hm hc
    ·exact h.elim
   ·exact sI h hm hc
def HL (nt:Nat) (ops:List Oper) (m:Nat) (Vi:Nat→Bool):Bool :=
 LC ops.toArray vL ⟨Array.replicate nt undef,[]⟩&&C6 ops.toArray m Vi&&ow nt (ops.take m)&&xI (ops.take m)&&ops.all (fun o=>!dg o)
def Bb (P:Program) (nt:Nat) (ops:List Oper) (Us:List (Nat×Ov)) (m:Nat) (tab:wU) (st:St) (k:St→Prop):Prop :=
 J1 P ops (ops.take m) st Us 0 (ops.take m) [] [] fun P' ks =>
  match HL nt ops m (Es tab)&&(kh st st.heap.length 0 P' ks P' ks&&lm st.heap.length P' ks)&&P.follows .mixedOrders,fD tab (List.replicate ops.length true)with
  | true,some UW=>Ba ops m st ks tab (qf (Es tab) m)∧Gd P nt ops Us tab tab∧nS UW k
  | _,_=>False
theorem tx (f:Nat→Bool) (C':Array Bool) (hf:∀j,f j=C'.getD j false):∀m,gZ ((List.range m).map f)=Az C' m
 | 0=>rfl
 | m+1=>by
  have ih:=tx f C' hf m
  unfold gZ at ih ⊢
  rw[TL,RO,Tq,RV,ih,Az,← hf m,SJ,R4]
  cases f m<;>rfl
theorem Gf (l:List Bool) (n:Nat):gZ (l++List.replicate n false)=gZ l+n:=by
 unfold gZ
 rw[Tq,RV]
 congr 1
 rw[List.filter_eq_self.2 (fun x hx=>by rw[RS hx];rfl),RC]
theorem Ev.dwT {id:Nat} {ops:List Oper} {st:St} {Q:Exit→St→Prop} (Us:List (Nat×Ov)) (m:Nat) (tab:wU) (h:Bb C.P C.nt ops Us m tab st (fun UW=>Q .normal UW)):Ev C (.region id ops.toArray true) Q st:=by
 unfold Bb at h
 obtain⟨P',ks,UL,VB,_,_,hK,Yz⟩:=C5 (ops.take m) 0 [] [] rfl rfl h
 simp only[Sp]at UL VB Yz
 cases hb:HL C.nt ops m (Es tab)&&(kh st st.heap.length 0 P' ks P' ks&&lm st.heap.length P' ks)&&C.P.follows .mixedOrders with
 | false=>rw[hb]at hK;exact hK.elim
 | true =>
 cases he:fD tab (List.replicate ops.length true)with
 | none=>rw[hb,he]at hK;exact hK.elim
 | some UW =>
 rw[hb,he]at hK
 simp only[RA]at hb
 obtain⟨⟨hdw,VG,UO⟩,YO⟩:=hb
 unfold HL at hdw
 simp only[RA]at hdw
 obtain⟨⟨⟨⟨Yr,WD⟩,YM⟩,YN⟩,XH⟩:=hdw
 have Ul:ops.toArray.size=ops.length:=by simp
 obtain⟨X6,htl⟩:=A9 WD
 rw[Ul]at X6
 obtain⟨hj,htab,WE⟩:=hK
 rw[mQ]at WE
 refine Ev.dwG Us m (Es tab) X6 UL VB Yz Yr YM YN XH VG UO YO (fun i hi hil j hj hl=>htl i hi (by rw[Ul];exact hil) j hj hl) ?_
 intro C' S μ a' w hls hcl hRL hall U'
 have UK:∀i,(((List.range m).map fun j=>C'.getD j false)++List.replicate (ops.length-m) false).getD i false=C'.getD i false:=by
  intro i
  by_cases hi:i<m
  ·rw[Sk,RP (by simpa using hi),← Sk]
   exact dh C' m i hi
  ·rw[Sk,RT (by simpa using Nat.le_of_not_lt hi),SR,U' i (by omega)]
   split<;>rfl
 have hclos:Et ops ((List.range m).map fun j=>C'.getD j false)=true:=by
  unfold Et
  simp only[R7,SD,RJ,List.length_range,Sh,Sj]
  intro i hi
  rw[dh C' m i hi]
  cases hl:C'.getD i false
  ·exact .inl rfl
  ·refine .inr ?_
   split
   ·rename_i o ho
    simp only[R7,Tv,Sh,Sj]
    intro e hee
    cases XC:Region.binds .any e
    ·exact .inl rfl
    ·have hon:=hcl i o hl ho e hee XC
     have:e.on<m:=by
      refine Nat.lt_of_not_le fun hle=>?_
      rw[U' e.on hle]at hon;cases hon
     exact .inr (by rw[dh C' m _ this];exact hon)
   ·rfl
 obtain⟨s,Ur,Vs⟩:=sI hj (vO (fun j=>C'.getD j false) m hall) hclos
 have XB:=hRL.keep (s.env.map (·.1))
 have e2:(⟨mN (s.env.map (·.1)) (eB (ops.take m) st ks ((List.range m).map fun j=>C'.getD j false)).env,(eB (ops.take m) st ks ((List.range m).map fun j=>C'.getD j false)).heap⟩:St)=s:=Vs
 rw[e2]at XB
 exact HK (Q:=Q) Us tab XH he htab WE _ _ C' s S μ a' w (by rw[Gf,tx _ C' (fun _=>rfl)]) (by simp;omega) hls (fun i=>(UK i).symm) Ur XB
theorem Gg {P:Program} {nt:Nat} {ops:List Oper} {Us:List (Nat×Ov)} {m:Nat} {tab:wU} {st:St} {k k':St→Prop} (h:Bb P nt ops Us m tab st k) (hk:∀st,k st→k' st):Bb P nt ops Us m tab st k':=by
 unfold Bb at h ⊢
 refine qV (fun a b hq=>?_) _ _ _ _ h
 split at hq
 ·exact⟨hq.1,hq.2.1,by have:=hq.2.2;rw[mQ]at this ⊢;exact hk _ this⟩
 ·exact hq.elim
end
end Go.Proofs.YtckgpflobhpnpaaGreat
