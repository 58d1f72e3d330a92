/-
  Regions Pc Po their order: new boxes may be used at once. Generic: over any program.
-/
import Derived.Test.YtgmpoenfoacofaaQKb
namespace Go.Proofs.Ytgmpoenfoacofaa
open Go.RowKit
set_option linter.unusedVariables false
set_option linter.unusedSimpArgs false
mutual
def nD:D→(D→Prop)→Prop
 | .v x,k=>nV x (fun x=>k (.v x))
 | .agg cs,k=>nL cs (fun cs=>k (.agg cs))
 | .tup cs,k=>nL cs (fun cs=>k (.tup cs))
 | .fn f a b,k=>nL a (fun a=>nL b (fun b=>k (.fn f a b)))
 | .nils,k=>k .nils
 | .own i,k=>k (.own i)
 | .ptr i a b c,k=>k (.ptr i a b c)
 | .iptr cs o,k=>k (.iptr cs o)
 | .yld i,k=>k (.yld i)
 | .capd x,k=>k (.capd x)
 | .gr g r,k=>k (.gr g r)
 | .pre i sz sh enc d l,k=>k (.pre i sz sh enc d l)
 | .junk,k=>k .junk
def nV:V→(V→Prop)→Prop
 | .int a n,k=>k (.int a n)
 | .bool b,k=>k (.bool b)
 | .str s,k=>k (.str s)
 | .sl sz enc d l,k=>k (.sl sz enc d l)
 | .mp es,k=>k (.mp es)
 | .nilf,k=>k .nilf
 | .nsl,k=>k .nsl
 | .esl,k=>k .esl
 | .sm true enc d l,k=>k (.sm true enc d l)
 | .sm false enc d l,k=>k (.sm false enc d l)
 | .nmp,k=>k .nmp
 | .fnv f,k=>k (.fnv f)
def nL:List D→(List D→Prop)→Prop
 | [],k=>k []
 | d::r,k=>nD d (fun d=>nL r (fun r=>k (d::r)))
end
theorem HI:∀(x:V) (k:V→Prop),nV x k=k x:=by
 intro x k
 cases x with
 | sm ag enc d l=>cases ag<;>rfl
 | _=>rfl
mutual
theorem zN:∀(d:D) (k:D→Prop),nD d k=k d
 | .v x,k=>HI x _
 | .agg cs,k=>tY cs _
 | .tup cs,k=>tY cs _
 | .fn f a b,k=>(tY a _).trans (tY b _)
 | .nils,k=>rfl
 | .own i,k=>rfl
 | .ptr i a b c,k=>rfl
 | .iptr cs o,k=>rfl
 | .yld i,k=>rfl
 | .capd x,k=>rfl
 | .gr g r,k=>rfl
 | .pre i sz sh enc d l,k=>rfl
 | .junk,k=>rfl
theorem tY:∀(l:List D) (k:List D→Prop),nL l k=k l
 | [],k=>rfl
 | d::r,k=>(zN d _).trans (tY r _)
end
def nE:List (Nat×D)→(List (Nat×D)→Prop)→Prop
 | [],k=>k []
 | (t,d)::r,k=>nD d (fun d=>nE r (fun r=>k ((t,d)::r)))
theorem Gg:∀(l:List (Nat×D)) (k:List (Nat×D)→Prop),nE l k=k l
 | [],k=>rfl
 | (t,d)::r,k=>(zN d _).trans (Gg r _)
def nB:am→(am→Prop)→Prop
 | .dead,k=>k .dead
 | .var T cs,k=>nL cs (fun cs=>k (.var T cs))
 | .arr E sz enc d l,k=>k (.arr E sz enc d l)
 | .loop l tm nt env ps a b s p,k=>k (.loop l tm nt env ps a b s p)
 | .frame tm env,k=>k (.frame tm env)
 | .ro E sz enc d l,k=>k (.ro E sz enc d l)
 | .mpb t ag enc d l,k=>k (.mpb t ag enc d l)
 | .arrD E sz n gs cell,k=>k (.arrD E sz n gs cell)
 | .grp n f,k=>k (.grp n f)
 | .nest E sz n ce m f,k=>k (.nest E sz n ce m f)
theorem CX (b:am) (k:am→Prop):nB b k=k b:=by
 cases b with
 | var T cs=>exact tY cs _
 | _=>rfl
def nH:List am→(List am→Prop)→Prop
 | [],k=>k []
 | b::r,k=>nB b (fun b=>nH r (fun r=>k (b::r)))
theorem Gi:∀(l:List am) (k:List am→Prop),nH l k=k l
 | [],k=>rfl
 | b::r,k=>(CX b _).trans (Gi r _)
def nS (st:St) (k:St→Prop):Prop:=nE st.env (fun e=>nH st.heap (fun h=>k ⟨e,h⟩))
theorem ke (st:St) (k:St→Prop):nS st k=k st:=(Gg _ _).trans (Gi _ _)
def vo (P:Program) (nt:Nat) (ops:List Oper) (M7:List (Nat×Ov)):Nat→List Oper→St→(St→Prop)→Prop
 | _,[],st,k=>k st
 | i,o::r,st,k=>match eH ops st o with
  | some true=>match l5 P nt (j8 M7 i) o st with
   | (Nt,p1)=>p1∧vo P nt ops M7 (i+1) r Nt k
  | some false=>match j9 nt st o.dst with
   | (Nt,p1)=>p1∧vo P nt ops M7 (i+1) r Nt k
  | none=>False
theorem qx {P:Program} {nt:Nat} {ops:List Oper} {M7:List (Nat×Ov)}:∀(r:List Oper) (i:Nat) (st:St) (k:St→Prop),vo P nt ops M7 i r st k→(cG P nt ops M7 i r st).2∧k (cG P nt ops M7 i r st).1
 | [],i,st,k,h=>⟨trivial,h⟩
 | o::r,i,st,k,h=>by
  unfold vo at h
  unfold cG
  split at h
  ·rename_i hg
   rw[hg]
   simp only
   generalize hq:l5 P nt (j8 M7 i) o st=q at h
   obtain⟨Nt,p1⟩:=q
   obtain⟨h1,h2⟩:=h
   have h3:=qx r (i+1) Nt k h2
   exact⟨⟨h1,h3.1⟩,h3.2⟩
  ·rename_i hg
   rw[hg]
   simp only
   generalize hq:j9 nt st o.dst=q at h
   obtain⟨Nt,p1⟩:=q
   obtain⟨h1,h2⟩:=h
   have h3:=qx r (i+1) Nt k h2
   exact⟨⟨h1,h3.1⟩,h3.2⟩
  ·exact h.elim
structure Mk:Type 1 where
 make ::
 d:D
 b:am
 kl:Option Nat
abbrev kf (d:D) (b:am):Mk:=.make d b none
def Mk.kil (k:Mk):Option Nat:=match k.b with | .var _ _=>none | _=>k.kl
def Mk.fil (k:Mk):Option Nat:=match k.b with | .var _ _=>k.kl | _=>none
theorem GD {k:Mk} {i:Nat} (h:k.kil=some i):k.kl=some i:=by
 unfold Mk.kil at h
 split at h
 ·cases h
 ·exact h
theorem rK {k:Mk} {i:Nat} (h:k.fil=some i):k.kl=some i:=by
 unfold Mk.fil at h
 split at h
 ·exact h
 ·cases h
theorem rL {k:Mk} (h:k.kl=none):k.fil=none:=by
 unfold Mk.fil
 split
 ·exact h
 ·rfl
theorem E4 {k:Mk} (h:k.b.isOwn=true∨k.b=.dead):k.fil=none:=by
 unfold Mk.fil
 split
 ·rename_i T cs hb
  rcases h with h | h<;>rw[hb]at h<;>cases h
 ·rfl
theorem GE {k:Mk} (h:k.fil=none):k.kil=k.kl:=by
 unfold Mk.fil at h
 unfold Mk.kil
 cases hb:k.b<;>rw[hb]at h<;>first | rfl | exact h.symm
def nK:Option Nat→(Option Nat→Prop)→Prop
 | none,k=>k none
 | some i,k=>k (some i)
theorem Gj (o:Option Nat) (k:Option Nat→Prop):nK o k=k o:=by cases o<;>rfl
def E5 (H:List am) (fz:Bool) (E sz:Nat) {α:Type} (enc:α→List V) (d:α) (l:List α) (kl:Option Nat) (p:Prop):Option (Mk×Prop):=match fz with
 | false=>some (.make (.own H.length) (.arr E sz enc d l) kl,p)
 | true=>some (.make (.v (.sl sz enc d l)) .dead kl,p)
def fF:Option (Mk×Prop):=some (kf .junk .dead,False)
def CY (P:Program) (H:List am) (fz:Bool) (E sz:Nat) {α:Type} (enc:α→List V) (d:α) (l:List α) (t:TypeId) (s x:D):Option (Mk×Prop):=match P.underlying t with
 | some (.slice E0)=>match fe P E0,rr H (ap P E0) x with
  | some z,some new=>match bL P E0&&Nat.beq z.length (ap P E0)&&Nat.ble 1 (ap P E0)&&Nat.ble (d8 P E0) 1024&&(Nat.beq E E0&&Nat.beq sz (ap P E0))with
   | true=>match s with
    | .own id=>match H[id]? with
     | some (.arr E' Nk PU _ l0)=>match Nat.beq E' E0&&Nat.beq Nk (ap P E0)&&D.free id x with
      | true=>E5 H fz E sz enc d l (some id) (l0.length+new.length≤137438953472∧l0.map PU++new=l.map enc)
      | false=>fF
     | _=>fF
    | .nils=>E5 H fz E sz enc d l none (new.length≤137438953472∧new=l.map enc)
    | _=>fF
   | false=>fF
  | _,_=>fF
 | _=>fF
def CZ (P:Program) (H:List am) (ρ:Operand→D) (ov:Ov) (op:Op):Option (Mk×Prop):=match op with
 | .call ⟨.value f,args,_⟩=>match ov,ρ f with
  | .ownd q' r B,.fn (.func g) first cap=>match gY P g&&(ye r&&(B.isOwn&&d7 (first++args.toList.map ρ++cap)))with
   | true=>some (kf (r.up H.length) B,qt P g H (first++args.toList.map ρ++cap) q' r B)
   | false=>fF
  | .ownc (some q') r (.arr E sz enc d l),.fn (.func g) first cap=>match gY P g with
   | true=>some (kf (.v (.sl sz enc d l)) .dead,r=.own 0∧lV (.arr E sz enc d l)∧tE H (first++args.toList.map ρ++cap) q'∧ai P g q' [] false (.own 0) [.arr E sz enc d l])
   | false=>fF
  | _,_=>none
 | .call ⟨.builtin .append,args,PN⟩=>match ov,args.toList,PN.toList with
  | .app fz E sz enc d l,[s,x],[t,t']=>match Nat.beq t t' with
   | true=>CY P H fz E sz enc d l t (ρ s) (ρ x)
   | false=>fF
  | _,_,_=>none
 | .buildSlice t len MS=>match ov with
  | .app false E sz enc d l=>match oS P H (.box E sz enc d l) t len (MS.toList.map fun p=>(p.1,ρ p.2))with
   | (.v _,p)=>some (kf (.own H.length) (.arr E sz enc d l),p)
   | _=>fF
  | _=>none
 | _=>none
def E6 (P:Program) (H:List am) (ρ:Operand→D) (ov:Ov) (op:Op):Mk×Prop :=
 match op with
 | .alloc T=>match fe P T with
  | some z=>match D.freeL H.length z with
   | true=>(kf (.ptr H.length 0 0 0) (.var T z),True)
   | false=>(kf (.junk) (.dead),False)
  | none=>(kf (.junk) (.dead),False)
 | .box T x=>match ij H (ρ x)with
  | some cs=>match D.freeL H.length cs with
   | true=>(kf (.ptr H.length 0 0 0) (.var T cs),True)
   | false=>(kf (.junk) (.dead),False)
  | none=>(kf (.junk) (.dead),False)
 | .makeSlice t l c=>match P.underlying t,ρ l,ρ c with
  | some (.slice E),.v (.int _ n),.v (.int _ m)=>match fe P E with
   | some z=>match bL P E&&Nat.beq z.length (ap P E)&&Nat.ble 1 (ap P E)&&Nat.ble (d8 P E) 1024 with
    | true=>match ov with
     | .box E' Nk MW d' l'=>match Nat.beq E E'&&Nat.beq (ap P E) Nk with
      | true=>(kf (.own H.length) (.arr E (ap P E) MW d' l'),(0≤n∧n≤m∧m≤137438953472)∧l'.length=n.toNat∧∀x∈l',dG z (MW x))
      | false=>(kf (.junk) (.dead),False)
     | .frz E' Nk MW d' l'=>match Nat.beq E E'&&Nat.beq (ap P E) Nk with
      | true=>(kf (.v (.sl (ap P E) MW d' l')) (.dead),(0≤n∧n≤m∧m≤137438953472)∧l'.length=n.toNat∧∀x∈l',dG z (MW x))
      | false=>(kf (.junk) (.dead),False)
     | _=>(kf (.junk) (.dead),False)
    | false=>(kf (.junk) (.dead),False)
   | none=>(kf (.junk) (.dead),False)
  | _,_,_=>(kf (.junk) (.dead),False)
 | .makeMap t none=>match ov with
  | .mbox t' ag enc d _=>match Nat.beq t t' with
   | true=>(kf (.own H.length) (.mpb t ag enc d []),True)
   | false=>(kf (.junk) (.dead),False)
  | _=>(kf (.junk) (.dead),False)
 | op=>match CZ P H ρ ov op with
  | some q=>q
  | none=>match IZ P H ρ ov op with
   | (d,p)=>(kf (d) (.dead),p)
def i9:Op→Bool
 | .store _ _ _=>true
 | _=>false
def ym (P:Program) (H:List am) (t:TypeId) (a x:D):Mk×Prop:=match a,ij [] x with
 | .ptr id i _ L',some new=>match H[id]? with
  | some (.var T cs)=>match bL P t&&Nat.beq new.length (ap P t)&&new.all (rn [])&&(Nat.beq i 0&&Nat.ble (L'+new.length) cs.length)with
   | true=>(.make (.tup []) (.var T (d6 cs new L')) (some id),True)
   | false=>(kf .junk .dead,False)
  | _=>(kf .junk .dead,False)
 | _,_=>(kf .junk .dead,False)
def rM (P:Program) (H:List am) (ρ:Operand→D) (ov:Ov) (op:Op):Mk×Prop:=match op with
 | .store t a x=>ym P H t (ρ a) (ρ x)
 | op=>E6 P H ρ ov op
theorem C0 {P:Program} {H:List am} {ρ:Operand→D} {ov:Ov} {op:Op} (h:i9 op=false):rM P H ρ ov op=E6 P H ρ ov op:=by
 cases op<;>first | rfl | cases h
theorem yn {x:D} {new:List D} (h:ij [] x=some new) (H:List am):ij H x=some new:=by
 cases x<;>first | exact h | (simp[ij]at h)
theorem C2 {x:D} (h:rn [] x=true) (H:List am):rn H x=true:=by
 cases x<;>first | exact h | (simp[rn]at h)
theorem E7 {new:List D} (h:new.all (rn [])=true) (H:List am):new.all (rn H)=true:=by
 rw[K2]at h ⊢
 exact fun x hx=>C2 (h x hx) H
theorem yo {P:Program} {H:List am} {t:TypeId} {a x:D} {k:Mk} {p:Prop} (h:ym P H t a x=(k,p)) (hp:p) :
  ∃(id:Nat) (T:TypeId) (cs Sl:List D),H[id]?=some (.var T cs)∧k=.make (.tup []) (.var T Sl) (some id) ∧
   ∀(st:St),st.heap[id]?=some (.var T cs)→rq P st .none t a x=(⟨st.env,st.heap.set id (.var T Sl)⟩,True):=by
 unfold ym at h
 split at h
 ·rename_i id i sz L' new Nb
  split at h
  ·rename_i T cs G'
   split at h
   ·rename_i hc
    simp only[KJ]at h
    obtain⟨rfl,rfl⟩:=h
    refine⟨id,T,cs,_,G',rfl,fun st NR=>?_⟩
    simp only[KD]at hc
    obtain⟨⟨⟨h1,h2⟩,h3⟩,h4,h5⟩:=hc
    unfold rq
    rw[yn Nb st.heap]
    simp only[h1,h2,E7 h3 st.heap,Bool.and_self,L9,NR,h4,h5]
   ·cases h;exact hp.elim
  ·cases h;exact hp.elim
 ·cases h;exact hp.elim
section
variable {P:Program} {S:Nat→Prop} {μ:Nat→Value} {w:World}
theorem wJ {E:TypeId} {z:List D} {i:TypeInfo} {v:Value} {n m:Int} {α:Type} {enc:α→List V} {d:α} {l:List α} {μ':Nat→Value} (hz:fe P E=some z) (hi:P.info? E=some i) (hv:i.zero=some v) (Pd:z=v.cells.toList.map D.ofVal1) (M0:i.size=ap P E)
  (NS:z.length=ap P E) (Nl:1≤ap P E) (h0:0≤n) (PO:n≤m) (hm:m≤137438953472) (MZ:l.length=n.toNat) (Oh:∀x∈l,dG z (enc x)) :
  az S μ' (w.alloc (.cells (madeCells v.cells (m.toNat*i.size)) E)) (.slice (some ⟨w.heap.size,0,none⟩) n.toNat m.toNat) (.arr E (ap P E) enc d l):=by
 have QC:aE S μ' w z v.cells:=by
  rw[Pd]
  refine⟨by simp,fun j y u hy hu=>?_⟩
  simp only[KX,Ld,hu,Lj,KP]at hy
  subst hy
  exact ah.ofVal1 S μ' w u
 have Od:v.cells.size=ap P E:=by rw[QC.1,NS]
 refine az.arr_mk ?_
 refine⟨fun k x hx=>?_,(madeCells v.cells (m.toNat*i.size)).toList.take (n.toNat*ap P E),?_,fun k x j y hx hy=>?_⟩
 ·obtain⟨q,hq,rfl⟩:=cO hx
  rw[← (dP (Oh q (Lb hq))).1,NS]
 ·have hle:n.toNat*ap P E≤m.toNat*i.size:=by rw[M0];exact K3 _ (by omega)
  refine⟨by simp[size_madeCells,MZ];omega,.inr ⟨w.heap.size,m.toNat,madeCells v.cells (m.toNat*i.size),by simp[MZ],Mf _,LS w _,by simp[MZ];omega,by simp only[maxLen];omega,by rw[size_madeCells,M0],by simp[MZ]⟩⟩
 ·obtain⟨q,hq,rfl⟩:=cO hx
  have NY:k<n.toNat:=by rw[← MZ];exact(KE.1 hq).1
  obtain⟨r1,r2⟩:=dP (Oh q (Lb hq))
  obtain⟨d,hd,Q2⟩:=r2 j y hy
  have hj:j<ap P E:=by rw[← NS];exact(KE.1 hd).1
  have hjv:j<v.cells.size:=by omega
  have PB:(k+1)*ap P E≤n.toNat*ap P E:=K3 _ NY
  rw[LN]at PB
  have hle:n.toNat*ap P E≤m.toNat*i.size:=by rw[M0];exact K3 _ (by omega)
  refine⟨v.cells[j],?_,(j7 Q2 (QC.2 j d _ hd (K0 hjv))).stable (fun _ h _=>h) (fun b hb hl=>LU w _ b hl) (by simp)⟩
  rw[K4,KT (by omega),Ld]
  unfold madeCells
  rw[LP,Array.getElem?_range,KT (by omega)]
  simp only[Lj,KP]
  rw[Od,Nat.mul_add_mod_of_lt' hj]
  simp[hjv]
def GF (S:Nat→Prop) (μ:Nat→Value) (w:World) (H:List am) (k:Mk) (u:Value) (w':World):Prop :=
 (k.kl=none∧Below w.heap.size w w'∧((k.b=.dead∧ah (fun b=>S b∨w.heap.size≤b) μ w' k.d u)∨(∃obj,k.b.live=true∧w'=w.alloc obj∧az S (aM μ H.length u) w' u k.b∧ah S (aM μ H.length u) w' k.d u∧∀b,bi u b→b=w.heap.size) ∨
  (∃(S2:Nat→Prop) (μ1:Nat→Value) (u0:Value),k.b.isOwn=true∧(∀b,S b→S2 b)∧(∀b,S2 b→S b∨w.heap.size≤b)∧(∀b,S2 b→b<w'.heap.size)∧az S2 μ1 w' u0 k.b∧ah S2 (aM μ H.length u0) w' k.d u∧∀b,bi u0 b→w.heap.size≤b∧¬S2 b))) ∨
 (∃(id:Nat) (A B:am),k.kl=some id∧H[id]?=some A∧A.isArr=true∧B.isArr=true∧w.grownBy w' (aA (μ id))∧az S μ w' u B∧(∀b,bi u b→aA (μ id)=some b∨w.heap.size≤b) ∧
  ((k.b=B∧k.d=.own H.length)∨∃(E sz:Nat) (α:Type) (enc:α→List V) (d:α) (l:List α),B=.arr E sz enc d l∧k.b=.dead∧k.d=.v (.sl sz enc d l)))
theorem yp {H:List am} (hH:aV S μ w H) {E0 QP:Nat} {α:Type} {PU:α→List V} {d0:α} {l0:List α} {t:TypeId} {len:Nat} {MS:List (Nat×D)} {MY:List (Nat×Value)} (h1:MS.map (·.1)=MY.map (·.1))
  (h2:∀(j:Nat) (x:Nat×D) (u:Nat×Value),MS[j]?=some x→MY[j]?=some u→ah S μ w x.2 u.2) (hS:∀b,S b→b<w.heap.size) {d:D} {p:Prop} (hp:oS P H (.box E0 QP PU d0 l0) t len MS=(d,p)) (D':p) (NF:∃x,d=.v x) :
  ∃vs,(Instr.buildSlice t len MY.toArray).run P w=.ok (.slice (some ⟨w.heap.size,0,none⟩) len len) (w.alloc (.cells vs E0))∧az S μ (w.alloc (.cells vs E0)) (.slice (some ⟨w.heap.size,0,none⟩) len len) (.arr E0 QP PU d0 l0):=by
 unfold oS at hp
 split at hp
 ·rename_i E hu
  split at hp
  ·rename_i z hz
   split at hp
   ·rename_i hc
    simp only[KD,KU,LJ]at hc
    obtain⟨⟨⟨hk,NS⟩,Nl⟩,Pe⟩:=hc
    obtain⟨i,v,hi,hv,Pd,M0,RR⟩:=eY hz
    split at hp
    ·rename_i cells hf
     have QC:aE S μ w z v.cells:=by
      rw[Pd]
      refine⟨by simp,fun j y u hy hu=>?_⟩
      simp only[KX,Ld,hu,Lj,KP]at hy
      subst hy
      exact ah.ofVal1 S μ w u
     have PE:=oP (P:=P) QC NS (by omega) len
     obtain⟨vs,OJ,Od⟩:=dM hH MS MY _ cells _ h1 h2 PE hf
     rw[← M0]at OJ
     have M3:=gf (P:=P) (w:=w) hu hi hv (by rw[M0];exact Pe) OJ
     have hcl:cells.length=len*ap P E:=by
      have:∀(MS:List (Nat×D)) (c0 OU:List D),fc H (fun i=>some (i*ap P E,ap P E)) c0 MS=some OU→OU.length=c0.length:=by
       intro MS
       induction MS with
       | nil=>intro c0 OU h;simp only[fc,KP]at h;rw[h]
       | cons q r ih =>
        intro c0 OU h
        obtain⟨k,x⟩:=q
        unfold fc at h
        split at h
        ·split at h
         ·rename_i M8
          simp only[KD,LJ]at M8
          rw[ih _ _ h]
          simp[d6]
          omega
         ·cases h
        ·cases h
      rw[this _ _ _ hf]
      simp[NS]
     have MZ:len≤maxLen:=by
      have:len*1≤len*ap P E:=Mu _ Nl
      simp only[maxLen]
      omega
     simp only at hp
     split at hp
     ·rename_i hc
      simp only[KD,KU]at hc
      obtain⟨rfl,rfl⟩:=hc
      simp only[KJ]at hp
      obtain⟨rfl,rfl⟩:=hp
      refine⟨vs,M3,?_⟩
      obtain⟨q1,q2⟩:=i5 D'
      have hA:dg S (w.alloc (.cells vs E)) E (ap P E) (l0.map PU) (.slice (some ⟨w.heap.size,0,none⟩) len len):=by
       refine qv Od hcl MZ (by rw[← q1];simp[lZ]) (fun i x hx=>?_) hS
       obtain⟨r,hr,Ng⟩:=q2 i x hx
       obtain⟨r1,r2⟩:=dP Ng
       obtain⟨NN,rfl⟩:=iw _ _ _ hr
       refine⟨?_,fun j y hy=>?_⟩
       ·rw[← r1,KV,K7,hcl]
        have:(i+1)*ap P E≤len*ap P E:=K3 _ NN
        rw[LN]at this
        omega
       ·obtain⟨d,hd,Q2⟩:=r2 j y hy
        exact⟨d,i7 hr hd,fun u hu=>j7 Q2 hu⟩
      exact hA.box rfl
     ·cases hp;exact D'.elim
    ·cases hp;exact D'.elim
   ·cases hp;exact D'.elim
  ·cases hp;exact D'.elim
 ·cases hp;exact D'.elim
theorem wK {H:List am} {fz:Bool} {E sz:Nat} {α:Type} {enc:α→List V} {d:α} {l:List α} {kl:Option Nat} {q:Prop} {k:Mk} {p:Prop} (h:E5 H fz E sz enc d l kl q=some (k,p)) :
  p=q∧k.kl=kl∧((k.b=.arr E sz enc d l∧k.d=.own H.length)∨(k.b=.dead∧k.d=.v (.sl sz enc d l))):=by
 unfold E5 at h
 cases fz<;>simp only[KP,KJ]at h<;>obtain⟨rfl,rfl⟩:=h
 ·exact⟨rfl,rfl,.inl ⟨rfl,rfl⟩⟩
 ·exact⟨rfl,rfl,.inr ⟨rfl,rfl⟩⟩
theorem cx {k:Mk} {p:Prop} (h:fF=some (k,p)):p=False:=by
 simp only[fF,KP,KJ]at h
 exact h.2.symm
theorem wL {H:List am} (hH:aV S μ w H) (hS:∀b,S b→b<w.heap.size) {fz:Bool} {E sz:Nat} {α:Type} {enc:α→List V} {d:α} {l:List α} {t ty:TypeId} {s x:D} {us ux:Value} (hs:ah S μ w s us) (hx:ah S μ w x ux) {k:Mk} {p:Prop}
  (hp:CY P H fz E sz enc d l t s x=some (k,p)) (D':p):∃u w',(Builtin.append_ #[t,t] ty #[us,ux]).run P w=.ok u w'∧GF S μ w H k u w':=by
 unfold CY at hp
 split at hp
 case h_2=>rw[cx hp]at D';exact D'.elim
 rename_i E0 hu
 split at hp
 case h_2=>rw[cx hp]at D';exact D'.elim
 rename_i z new hz Nb
 split at hp
 case h_2=>rw[cx hp]at D';exact D'.elim
 rename_i M8
 simp only[KD,KU,LJ]at M8
 obtain⟨⟨⟨⟨hk,NS⟩,Nl⟩,QE⟩,rfl,rfl⟩:=M8
 obtain⟨i,v,hi,hv,Pd,M0,RR⟩:=eY hz
 have Od:v.cells.size=i.size:=by rw[M0,← NS,Pd];simp
 obtain⟨pa,c,M4,rfl,n1,n2,n3,n4,n5,n6⟩:=fl hH Nl Nb hx
 rw[← M0]at n2 n6 n5
 have bytes:∀k,k≤137438953472→k*i.bytes≤140737488355328:=by
  intro k hk
  have:k*i.bytes≤137438953472*1024:=ME hk (by omega)
  omega
 split at hp
 ·rename_i id
  split at hp
  case h_2=>rw[cx hp]at D';exact D'.elim
  rename_i E' Nk β PU d0 l0 G'
  split at hp
  case h_2=>rw[cx hp]at D';exact D'.elim
  rename_i Qk
  simp only[KD,KU]at Qk
  obtain⟨⟨rfl,rfl⟩,hfx⟩:=Qk
  obtain⟨rfl,NY,hval⟩:=wK hp
  obtain⟨MZ,RH⟩:=D'
  have Nj:=a6 hs
  subst Nj
  obtain⟨r0,xs,r1,r2⟩:=dg.of (hH.box id _ G')
  simp only[KM]at r1
  have PV:l0.length+new.length≤maxLen:=by simp only[maxLen];omega
  obtain⟨v',w',M3,ho,hg,MX⟩:=cX (P:=P) (w:=w) t ty E' i v hu hi hv Od (by rw[M0];exact r1) n1 n2 n3 n4 PV (bytes _ MZ)
  have MT:(μ id).ownBlock=aA (μ id):=by
   obtain⟨p',c',hm,_⟩:=bv (hH.box id _ G')
   rw[hm]
   cases p'<;>rfl
  have OK:∀b,S b→b<w.heap.size→w'.heap[b]?=w.heap[b]?:=fun b hb hl=>hg.block b hl (fun e=>hH.notS id _ b G' rfl (.inl (by rw[← MT];exact e.symm)) hb)
  have hA:dg S w' E' (ap P E') (l0.map PU++new) v':=by
   rw[M0]at ho n2 n5 n6
   refine dg.append r0 (by rw[r1.1];simp) (fun k x j y hx hy=>?_) n5 (fun k x j y hx hy=>?_) (by simpa using ho)
   ·obtain⟨z,hz,hr⟩:=r2 k x j y hx hy
    exact⟨z,hz,hr.stable (fun _ h _=>h) OK hg.size⟩
   ·obtain⟨z,hz,hr⟩:=n6 k x j y hx hy
    exact⟨z,hz,hr.stable (fun _ h _=>h) OK hg.size⟩
  rw[RH]at hA
  have hB:az S μ w' v' (.arr E' (ap P E') enc d l):=hA.box rfl
  have Q3:∀b,bi v' b→aA (μ id)=some b∨w.heap.size≤b:=by
   intro b hb
   have hb:=hb.bl (by rcases ho.2 with ⟨rfl,_⟩ | ⟨g,cap,Na,rfl,_⟩<;>rfl)
   have OV:v'.ownBlock=aA v':=by
    rcases ho.2 with ⟨rfl,_⟩ | ⟨g,cap,Na,rfl,_⟩<;>rfl
   rcases MX with MX | MX
   ·exact .inl (by rw[← MT,← MX,OV];exact hb)
   ·rw[OV,hb]at MX
    cases MX
    exact .inr (KI _)
  refine⟨v',w',M3,.inr ⟨id,_,_,NY,G',rfl,rfl,by rw[← MT];exact hg,hB,Q3,?_⟩⟩
  rcases hval with ⟨e1,e2⟩ | ⟨e1,e2⟩
  ·exact .inl ⟨e1,e2⟩
  ·exact .inr ⟨_,_,_,_,_,_,rfl,e1,e2⟩
 ·obtain⟨rfl,NY,hval⟩:=wK hp
  obtain⟨MZ,RH⟩:=D'
  cases hs
  obtain⟨v',w',M3,ho,hg,MX⟩:=cX (P:=P) (w:=w) t ty E i v hu hi hv Od (LW w 0 E i.size) n1 n2 n3 n4 (by simp only[maxLen];omega) (bytes _ (by omega))
  have PW:w.grownBy w' none:=hg
  have OK:∀b,S b→b<w.heap.size→w'.heap[b]?=w.heap[b]?:=fun b hb hl=>PW.block b hl (by simp)
  have hA:dg S w' E (ap P E) ([]++new) v':=by
   rw[M0]at ho n2 n5 n6
   refine dg.append (xs:=[]) (fun k x hx=>by simp at hx) (by simp) (fun k x j y hx=>by simp at hx) n5 (fun k x j y hx hy=>?_) (by simpa using ho)
   obtain⟨z,hz,hr⟩:=n6 k x j y hx hy
   exact⟨z,hz,hr.stable (fun _ h _=>h) OK PW.size⟩
  rw[LQ,RH]at hA
  have hB:az S μ w' v' (.arr E (ap P E) enc d l):=hA.box rfl
  have hvb:∀b,bi v' b→w.heap.size≤b:=by
   intro b hb
   have hb:=hb.bl (by rcases ho.2 with ⟨rfl,_⟩ | ⟨g,cap,Na,rfl,_⟩<;>rfl)
   have OV:v'.ownBlock=aA v':=by
    rcases ho.2 with ⟨rfl,_⟩ | ⟨g,cap,Na,rfl,_⟩<;>rfl
   rcases MX with MX | MX
   ·rw[OV,hb]at MX;cases MX
   ·rw[OV,hb]at MX;cases MX;exact KI _
  have Oz:Below w.heap.size w w':=⟨PW.os,PW.tape,PW.output,PW.size,fun k hk=>PW.block k hk (by simp)⟩
  refine⟨v',w',M3,.inl ⟨NY,Oz,?_⟩⟩
  rcases hval with ⟨e1,e2⟩ | ⟨e1,e2⟩
  ·refine .inr (.inr ⟨S,μ,v',by rw[e1];rfl,fun _ h=>h,fun _ h=>.inl h,fun b hb=>LA (hS b hb) PW.size,by rw[e1];exact hB,?_,fun b hb=>⟨hvb b hb,fun hSb=>by have:=hS b hSb;have:=hvb b hb;omega⟩⟩)
   rw[e2]
   have:=ah.own (S:=S) (μ:=aM μ H.length v') (w:=w') H.length
   rwa [ao]at this
  ·refine .inl ⟨e1,?_⟩
   rw[e2]
   exact .v _ _ (db (S':=fun b=>S b∨w.heap.size≤b) hB (fun b hb=>Or.inl hb) (fun b hb=>Or.inr (hvb b hb)) (fun b hb=>LA (hS b hb) PW.size))
 ·rw[cx hp]at D';exact D'.elim
theorem wM {H:List am} (hH:aV S μ w H) (hS:∀b,S b→b<w.heap.size) (hG:er S w) {ρ:Operand→D} {ρ':Operand→Value} (hρ:∀x,ah S μ w (ρ x) (ρ' x)) {ov:Ov} {o:Oper} {k:Mk} {p:Prop} (hp:CZ P H ρ ov o.op=some (k,p)) (D':p)
  {R:Value→World→Prop} (hR:∀u w',GF S μ w H k u w'→R u w'):lK P R ((execOp ρ' o).run P w):=by
 unfold CZ at hp
 split at hp
 ·rename_i f args PN ho
  split at hp
  ·rename_i q' r B g first cap hf
   split at hp
   ·rename_i hc
    simp only[KD]at hc
    obtain⟨Pp,hr,So,N1⟩:=hc
    simp only[KP,KJ]at hp
    obtain⟨rfl,rfl⟩:=hp
    have N5:=hf ▸ hρ f
    generalize NZ:ρ' f=uf at N5
    cases N5 with
    | fn _ _ _ us vs h1 h2 h3 h4 =>
     have M3:(execOp ρ' o).run P w=.ok (.enter g (us++args.map ρ'++vs)) w:=by
      simp[execOp,ho,resolve,NZ,Deferred.ofValue,invoke,bk Pp]
     rw[M3]
     have NV:aE S μ w (args.toList.map ρ) (args.map ρ'):=by
      refine⟨by simp,fun j y z hy hz=>?_⟩
      simp only[KX,Ld,LP]at hy hz
      cases hj:args[j]? with
      | none=>rw[hj]at hy;cases hy
      | some x=>rw[hj]at hy hz;simp at hy hz;subst hy hz;exact hρ x
     have hall:=aE.app (aE.app ⟨h1,h2⟩ NV) ⟨h3,h4⟩
     obtain⟨Ql,hc',Q4⟩:∃Ql,ai P g Ql [] false r [B]∧aE S μ w Ql (us++args.map ρ'++vs):=by
      cases q' with
      | none=>exact⟨_,D',hall⟩
      | some q'=>exact⟨q',D'.2,i3 hH (fun _ h=>h) hS (.inr N1) D'.1 hall⟩
     refine lK.enter ((hc' S μ w _ hS hG ⟨fun id B hB=>by simp at hB,fun i j A B b hA=>by simp at hA,fun i A b hA=>by simp at hA⟩ Q4).mono ?_)
     rintro e w' ⟨u,μ',S',rfl,q1,q2,q3,q4,q5,q6,q7,q8,q9,q10,q11,_⟩
     have hl:B.live=true:=by cases B<;>first | rfl | cases So
     refine⟨u,rfl,hR u w' (.inl ⟨rfl,⟨q1,q2,q3,q4,fun k hk=>q5 k hk (fun i A hA=>by simp at hA)⟩,.inr (.inr ⟨S',μ',μ' 0,So,q6,q7,q8,q10.box 0 B rfl,yf q9 hr (ao _ _ _),fun b hb=>⟨?_,q10.notS 0 B b rfl hl hb⟩⟩)⟩)⟩
     rcases q11 0 B b rfl hl hb with hb | ⟨j,A',Nr,_⟩
     ·exact hb
     ·simp at Nr
   ·rw[cx hp]at D';exact D'.elim
  ·rename_i q' r E sz α enc d l g first cap hf
   split at hp
   ·rename_i Pp
    simp only[KP,KJ]at hp
    obtain⟨rfl,rfl⟩:=hp
    obtain⟨_,RS,hco,hc'⟩:=D'
    have N5:=hf ▸ hρ f
    generalize NZ:ρ' f=uf at N5
    cases N5 with
    | fn _ _ _ us vs h1 h2 h3 h4 =>
     have M3:(execOp ρ' o).run P w=.ok (.enter g (us++args.map ρ'++vs)) w:=by
      simp[execOp,ho,resolve,NZ,Deferred.ofValue,invoke,bk Pp]
     rw[M3]
     have NV:aE S μ w (args.toList.map ρ) (args.map ρ'):=by
      refine⟨by simp,fun j y z hy hz=>?_⟩
      simp only[KX,Ld,LP]at hy hz
      cases hj:args[j]? with
      | none=>rw[hj]at hy;cases hy
      | some x=>rw[hj]at hy hz;simp at hy hz;subst hy hz;exact hρ x
     have hall:=aE.app (aE.app ⟨h1,h2⟩ NV) ⟨h3,h4⟩
     have hSc:∀b,(S b∨∃(i:Nat) (A:am),H[i]?=some A∧A.mem=true∧bi (μ i) b)→b<w.heap.size:=by
      rintro b (hb | ⟨i,A,hA,hl,hb⟩)
      ·exact hS b hb
      ·exact(hH.box i A hA).ltM hl b hb
     have Q4:=i3 (S':=fun b=>S b∨∃(i:Nat) (A:am),H[i]?=some A∧A.mem=true∧bi (μ i) b) hH (fun b hb=>.inl hb) hS (.inl (fun i A b hA hl hb=>.inr ⟨i,A,hA,hl,hb⟩)) hco hall
     refine lK.enter ((hc' _ μ w _ hSc (hG.stable (fun b hb _=>.inl hb) (fun _ _ _=>rfl) (KI _)) ⟨fun id B hB=>by simp at hB,fun i j A B b hA=>by simp at hA,fun i A b hA=>by simp at hA⟩ Q4).mono ?_)
     rintro e w' ⟨u,μ',S',rfl,q1,q2,q3,q4,q5,q6,q7,q8,q9,q10,q11,_⟩
     have hu:=a6 q9
     subst hu
     have hB:az S μ w' (μ' 0) (.arr E sz enc d l):=(q10.box 0 _ rfl).flat RS
     refine⟨_,rfl,hR _ w' (.inl ⟨rfl,⟨q1,q2,q3,q4,fun k hk=>q5 k hk (fun i A hA=>by simp at hA)⟩,.inl ⟨rfl,.v _ _ (rh hB (fun b hb=>Or.inl hb) (fun b hb=>Or.inr ?_))⟩⟩)⟩
     rcases q11 0 _ b rfl rfl hb with hb | ⟨j,A',Nr,_⟩
     ·exact hb
     ·simp at Nr
   ·rw[cx hp]at D';exact D'.elim
  ·cases hp
 ·rename_i args PN ho
  split at hp
  ·rename_i fz E sz α enc d l s x t t' ha ht
   split at hp
   ·rename_i hc
    rw[KU]at hc
    subst hc
    have ea:args=#[s,x]:=Mp (by simpa using ha)
    have et:PN=#[t,t]:=Mp (by simpa using ht)
    subst ea et
    obtain⟨u,w',h1,h2⟩:=wL (ty:=o.type) hH hS (hρ s) (hρ x) hp D'
    refine lK.of (v:=u) (w':=w') ?_ (hR u w' h2)
    simp only[execOp,ho,resolve,invoke,builtin,Md,LD,Lk,KH,KZ,KG,h1]
   ·rw[cx hp]at D';exact D'.elim
  ·cases hp
 ·rename_i t len MS ho
  split at hp
  ·rename_i E sz α enc d l
   split at hp
   ·rename_i y q hq
    simp only[KP,KJ]at hp
    obtain⟨rfl,rfl⟩:=hp
    obtain⟨vs,h1,h2⟩:=yp hH (MY:=MS.toList.map fun p=>(p.1,ρ' p.2)) (by simp) (fun j x u hx hu=>by
     simp only[KX,Ld]at hx hu
     cases hj:MS[j]? with
     | none=>rw[hj]at hx;cases hx
     | some q=>rw[hj]at hx hu;simp at hx hu;subst hx hu;exact hρ q.2) hS hq D' ⟨_,rfl⟩
    have he:MS.map (fun (i,x)=>(i,ρ' x))=(MS.toList.map fun p=>(p.1,ρ' p.2)).toArray:=Mp (by simp)
    rw[← he]at h1
    refine lK.of (v:=.slice (some ⟨w.heap.size,0,none⟩) len len) (w':=w.alloc (.cells vs E)) ?_ (hR _ _ (.inl ⟨rfl,(ML _ _).alloc (KI _) _,.inr (.inl ⟨_,rfl,rfl,h2.arrMu rfl,?_,fun b hb=>by simp[bi,aA]at hb;exact hb.symm⟩)⟩))
    ·simp only[execOp,ho,KH,h1,KG,KZ]
    ·have:=ah.own (S:=S) (μ:=aM μ H.length (Value.slice (some ⟨w.heap.size,0,none⟩) len len)) (w:=w.alloc (.cells vs E)) H.length
     rwa [ao]at this
   ·rw[cx hp]at D';exact D'.elim
  ·cases hp
 ·cases hp
theorem yq {H:List am} (hH:aV S μ w H) (hS:∀b,S b→b<w.heap.size) (hG:er S w) {ρ:Operand→D} {ρ':Operand→Value} (hρ:∀x,ah S μ w (ρ x) (ρ' x)) {ov:Ov} {o:Oper} {k:Mk} {p:Prop} (hp:E6 P H ρ ov o.op=(k,p)) (D':p)
  {R:Value→World→Prop} (hR:∀u w',GF S μ w H k u w'→R u w'):lK P R ((execOp ρ' o).run P w):=by
 unfold E6 at hp
 split at hp
 ·rename_i T ho
  split at hp
  ·rename_i z hz
   split at hp
   case h_2=>cases hp;exact D'.elim
   rename_i Pb
   simp only[KJ]at hp
   obtain⟨rfl,rfl⟩:=hp
   obtain⟨v,OA,Pf⟩:=ff (P:=P) (S:=S) (μ:=μ) (w:=w) hz
   refine lK.of (v:=.pointer (some ⟨w.heap.size,0,none⟩)) (w':=w.alloc (.cells v.cells T)) ?_ (hR _ _ (.inl ⟨rfl,(ML _ _).alloc (KI _) _,.inr (.inl ⟨_,rfl,rfl,?_,?_,fun b hb=>by simp[bi,aA]at hb;exact hb.symm⟩)⟩))
   ·simp[execOp,ho,Instr.alloc,KH,OA,newVar,newRow,newObj,Sem.run]
   ·refine⟨w.heap.size,v.cells,rfl,LS w _,Pf.1,fun j y x hy hx=>?_⟩
    exact(Pf.2 j y x hy hx).stable (fun _ h _=>h) (fun b hb hl=>LU w _ b hl) (by simp) (fun id M5=>av _ _ (fun e=>by rw[e,D.freeL_get Pb hy]at M5;cases M5))
   ·exact .ptr _ 0 0 0 _ (by rw[ao];rfl)
  ·cases hp;exact D'.elim
 ·rename_i T x ho
  split at hp
  ·rename_i cs hcs
   split at hp
   case h_2=>cases hp;exact D'.elim
   rename_i Pb
   simp only[KJ]at hp
   obtain⟨rfl,rfl⟩:=hp
   have Pf:=fL hH (hρ x) hcs
   refine lK.of (v:=.pointer (some ⟨w.heap.size,0,none⟩)) (w':=w.alloc (.cells (ρ' x).cells T)) ?_ (hR _ _ (.inl ⟨rfl,(ML _ _).alloc (KI _) _,.inr (.inl ⟨_,rfl,rfl,?_,?_,fun b hb=>by simp[bi,aA]at hb;exact hb.symm⟩)⟩))
   ·simp[execOp,ho,Instr.box,newVar,newRow,newObj,Sem.run]
   ·refine⟨w.heap.size,(ρ' x).cells,rfl,LS w _,Pf.1,fun j y x hy hx=>?_⟩
    exact(Pf.2 j y x hy hx).stable (fun _ h _=>h) (fun b hb hl=>LU w _ b hl) (by simp) (fun id M5=>av _ _ (fun e=>by rw[e,D.freeL_get Pb hy]at M5;cases M5))
   ·exact .ptr _ 0 0 0 _ (by rw[ao];rfl)
  ·cases hp;exact D'.elim
 ·rename_i t l c ho
  split at hp
  ·rename_i E kl n kc m hu OB hc0
   split at hp
   ·rename_i z hz
    split at hp
    ·rename_i M8
     simp only[KD,KU,LJ]at M8
     obtain⟨⟨⟨hk,NS⟩,Nl⟩,QE⟩:=M8
     obtain⟨i,v,hi,hv,Pd,M0,RR⟩:=eY hz
     have hl:=hρ l
     have hc:=hρ c
     rw[OB]at hl
     rw[hc0]at hc
     have OW:(0≤n∧n≤m∧m≤137438953472)→(execOp ρ' o).run P w=.ok (.value (.slice (some ⟨w.heap.size,0,none⟩) n.toNat m.toNat)) (w.alloc (.cells (madeCells v.cells (m.toNat*i.size)) E)):=by
      rintro⟨h0,PO,hm⟩
      have hbm:(i.bytes:Int)*m≤281474976710656:=by
       have h9:(i.bytes:Int)≤1024:=by omega
       have:(i.bytes:Int)*m≤1024*m:=Int.mul_le_mul_of_nonneg_right h9 (by omega)
       omega
      have M3:=run_make (P:=P) w t E i v hu hi hv kl kc n m h0 PO hbm (by omega)
      rw[← bp hl,← bp hc]at M3
      simp only[execOp,ho,KH,M3,KG,KZ]
     split at hp
     ·rename_i E' Nk α MW d' l'
      split at hp
      ·rename_i Qk
       simp only[KD,KU]at Qk
       obtain⟨rfl,rfl⟩:=Qk
       simp only[KJ]at hp
       obtain⟨rfl,rfl⟩:=hp
       obtain⟨PO,MZ,Oh⟩:=D'
       refine lK.of (OW PO) (hR _ _ (.inl ⟨rfl,(ML _ _).alloc (KI _) _,.inr (.inl ⟨_,rfl,rfl,wJ hz hi hv Pd M0 NS Nl PO.1 PO.2.1 PO.2.2 MZ Oh,?_,fun b hb=>by simp[bi,aA]at hb;exact hb.symm⟩)⟩))
       have:=ah.own (S:=S) (μ:=aM μ H.length (Value.slice (some ⟨w.heap.size,0,none⟩) n.toNat m.toNat)) (w:=w.alloc (.cells (madeCells v.cells (m.toNat*i.size)) E)) H.length
       rwa [ao]at this
      ·cases hp;exact D'.elim
     ·rename_i E' Nk α MW d' l'
      split at hp
      ·rename_i Qk
       simp only[KD,KU]at Qk
       obtain⟨rfl,rfl⟩:=Qk
       simp only[KJ]at hp
       obtain⟨rfl,rfl⟩:=hp
       obtain⟨PO,MZ,Oh⟩:=D'
       have hB:az S μ (w.alloc (.cells (madeCells v.cells (m.toNat*i.size)) E)) (.slice (some ⟨w.heap.size,0,none⟩) n.toNat m.toNat) (.arr E (ap P E) MW d' l'):=wJ hz hi hv Pd M0 NS Nl PO.1 PO.2.1 PO.2.2 MZ Oh
       refine lK.of (OW PO) (hR _ _ (.inl ⟨rfl,(ML _ _).alloc (KI _) _,.inl ⟨rfl,.v _ _ (db (S':=fun b=>S b∨w.heap.size≤b) hB (fun b hb=>Or.inl hb) (fun b hb=>Or.inr (by simp[bi,aA]at hb;omega)) (fun b hb=>by have:=hS b hb;simp;omega))⟩⟩))
      ·cases hp;exact D'.elim
     ·cases hp;exact D'.elim
    ·cases hp;exact D'.elim
   ·cases hp;exact D'.elim
  ·cases hp;exact D'.elim
 ·rename_i t ho
  split at hp
  ·rename_i t' ag α enc d l
   split at hp
   ·simp only[KJ]at hp
    obtain⟨rfl,rfl⟩:=hp
    refine lK.of (v:=.map (some w.heap.size)) (w':=w.alloc (.map #[] 0)) ?_ (hR _ _ (.inl ⟨rfl,(ML _ _).alloc (KI _) _,.inr (.inl ⟨_,rfl,rfl,?_,?_,fun b hb=>by simp[bi,aA]at hb;exact hb.symm⟩)⟩))
    ·simp[execOp,ho,Instr.makeMap,newObj,Sem.run]
    ·exact⟨w.heap.size,#[],0,rfl,LS w _,rfl,fun i k x hx=>by simp at hx⟩
    ·have:=ah.own (S:=S) (μ:=aM μ H.length (.map (some w.heap.size))) (w:=w.alloc (.map #[] 0)) H.length
     rwa [ao]at this
   ·cases hp;exact D'.elim
  ·cases hp;exact D'.elim
 ·rename_i h1 h2 h3 h4
  split at hp
  ·rename_i q hq
   obtain⟨k',p'⟩:=q
   simp only[KJ]at hp
   obtain⟨rfl,rfl⟩:=hp
   exact wM hH hS hG hρ hq D' hR
  generalize hq:IZ P H ρ ov o.op=q at hp
  obtain⟨d,q⟩:=q
  simp only[KJ]at hp
  obtain⟨rfl,rfl⟩:=hp
  refine Bj hH hS hG hρ hq D' ?_ (fun u w' hb hd=>hR u w' (.inl ⟨rfl,hb,.inl ⟨rfl,hd⟩⟩))
  unfold GB
  split
  ·rename_i T ho;exact(h1 T ho).elim
  ·rfl
end
def GG:List Bool→List Bool→List Bool
 | a::q',b::bs=>(a||b)::GG q' bs
 | [],bs=>bs
 | q',[]=>q'
def tZ:Nat→List Bool
 | 0=>[true]
 | n+1=>false::tZ n
def fO (MR:List (List Bool)):List Edge→List Bool
 | []=>[]
 | e::r=>if Region.binds .any e then GG (GG (tZ e.on) (MR.getD e.on [])) (fO MR r)else fO MR r
theorem vp:∀(a b:List Bool) (j:Nat),(GG a b).getD j false=(a.getD j false||b.getD j false)
 | a::q',b::bs,0=>rfl
 | a::q',b::bs,j+1=>by simpa[GG]using vp q' bs j
 | [],bs,j=>by simp[GG]
 | a::q',[],j=>by simp[GG]
theorem t0:∀(n j:Nat),(tZ n).getD j false=true→j=n
 | 0,0,_=>rfl
 | 0,j+1,h=>by simp[tZ]at h
 | n+1,0,h=>by simp[tZ]at h
 | n+1,j+1,h=>by have:=t0 n j (by simpa[tZ]using h);omega
theorem nf {MR:List (List Bool)} {j:Nat}:∀{es:List Edge},(fO MR es).getD j false=true→∃e∈es,Region.binds .any e=true∧(j=e.on∨(MR.getD e.on []).getD j false=true)
 | [],h=>by simp[fO]at h
 | e::r,h=>by
  unfold fO at h
  split at h
  ·rename_i hb
   rw[vp,vp]at h
   simp only[Lf]at h
   rcases h with (h | h) | h
   ·exact⟨e,Lg ..,hb,.inl (t0 _ _ h)⟩
   ·exact⟨e,Lg ..,hb,.inr h⟩
   ·obtain⟨e',h1,h2⟩:=nf h
    exact⟨e',Lc _ h1,h2⟩
  ·obtain⟨e',h1,h2⟩:=nf h
   exact⟨e',Lc _ h1,h2⟩
def jG:List Oper→List Mk→List Bool→List (Nat×D)
 | o::os,k::ks,b::bs=>match b,o.dst with
  | true,some t=>(t,k.d)::jG os ks bs
  | _,_=>jG os ks bs
 | _,_,_=>[]
def ik (id:Nat):List Mk→List Bool→Bool
 | k::ks,true::bs=>(match k.kil with | some i=>Nat.beq i id | none=>false)||ik id ks bs
 | _::ks,false::bs=>ik id ks bs
 | _,_=>false
def iz (id:Nat) (bs:List Bool):Nat→List Mk→Option am
 | _,[]=>none
 | p,k::ks=>match k.fil,bs.getD p false with
  | some i,true=>(match Nat.beq i id with | true=>some k.b | false=>iz id bs (p+1) ks)
  | _,_=>iz id bs (p+1) ks
def iA (id:Nat) (ks:List Mk) (bs:List Bool):Option am:=iz id bs 0 ks
def HJ (PP:List Mk) (PQ:List Bool) (id:Nat) (k:Mk):am:=match ik id PP PQ,k.fil,iA id PP PQ with
 | false,none,some B=>B
 | false,none,none=>k.b
 | _,_,_=>.dead
def gi (PP:List Mk) (PQ:List Bool):Nat→List Mk→List Bool→List am
 | _,[],_=>[]
 | id,_::ks,[]=>.dead::gi PP PQ (id+1) ks []
 | id,k::ks,true::bs=>HJ PP PQ id k::gi PP PQ (id+1) ks bs
 | id,_::ks,false::bs=>.dead::gi PP PQ (id+1) ks bs
def cM (n0:Nat) (ks:List Mk) (bs:List Bool):List am:=gi ks bs n0 ks bs
theorem eI {id:Nat} {bs:List Bool} {B:am}:∀{ks:List Mk} {p0:Nat},iz id bs p0 ks=some B→∃(p:Nat) (k:Mk),ks[p]?=some k∧bs.getD (p0+p) false=true∧k.fil=some id∧B=k.b
 | [],p0,h=>by simp[iz]at h
 | k::ks,p0,h=>by
  unfold iz at h
  have go:iz id bs (p0+1) ks=some B→∃(p:Nat) (k':Mk),(k::ks)[p]?=some k'∧bs.getD (p0+p) false=true∧k'.fil=some id∧B=k'.b:=fun h=>by
   obtain⟨p,k',h1,h2,h3⟩:=eI h
   exact⟨p+1,k',by simpa using h1,by rw[show p0+(p+1)=p0+1+p by omega];exact h2,h3⟩
  split at h
  ·rename_i i hf hb
   split at h
   ·rename_i he
    rw[KU]at he
    cases h
    exact⟨0,k,rfl,hb,by rw[hf,he],rfl⟩
   ·exact go h
  ·exact go h
theorem ja {id:Nat} {bs:List Bool}:∀{ks:List Mk} {p0:Nat},iz id bs p0 ks=none→∀(p:Nat) (k:Mk),ks[p]?=some k→bs.getD (p0+p) false=true→k.fil=some id→False
 | [],p0,h,p,k,h1,_,_=>by simp at h1
 | k'::ks,p0,h,p,k,h1,h2,h3=>by
  unfold iz at h
  cases p with
  | zero =>
   simp at h1;subst h1
   rw[h3,show bs.getD p0 false=true from h2]at h
   simp at h
  | succ p =>
   have h4:iz id bs (p0+1) ks=none:=by
    split at h
    ·split at h
     ·cases h
     ·exact h
    ·exact h
   exact ja h4 p k (by simpa using h1) (by rw[show p0+1+p=p0+(p+1) by omega];exact h2) h3
theorem pD {id:Nat} {bs bs':List Bool}:∀{ks:List Mk} {p0:Nat},(∀(p:Nat) (k:Mk),ks[p]?=some k→k.fil=some id→bs.getD (p0+p) false=bs'.getD (p0+p) false)→iz id bs p0 ks=iz id bs' p0 ks
 | [],p0,h=>rfl
 | k::ks,p0,h=>by
  have ih:=pD (id:=id) (bs:=bs) (bs':=bs') (ks:=ks) (p0:=p0+1) (fun p k' h1 h2=>by
   have:=h (p+1) k' (by simpa using h1) h2
   rwa [show p0+(p+1)=p0+1+p by omega]at this)
  unfold iz
  cases hf:k.fil with
  | none=>simp only;exact ih
  | some i =>
   by_cases e:i=id
   ·have:=h 0 k rfl (by rw[hf,e])
    rw[Ma]at this
    rw[this]
    subst e
    cases bs'.getD p0 false
    ·exact ih
    ·simp
   ·have e2:Nat.beq i id=false:=by
     cases hb:Nat.beq i id
     ·rfl
     ·rw[KU]at hb;exact(e hb).elim
    cases bs.getD p0 false<;>cases bs'.getD p0 false<;>simp only[e2]<;>exact ih
theorem ng {id:Nat}:∀{ks:List Mk} {bs:List Bool},ik id ks bs=true→∃(p:Nat) (k:Mk),ks[p]?=some k∧bs.getD p false=true∧k.kil=some id
 | [],bs,h=>by simp[ik]at h
 | k::ks,[],h=>by simp[ik]at h
 | k::ks,true::bs,h=>by
  unfold ik at h
  rw[Lf]at h
  rcases h with h | h
  ·split at h
   ·rename_i i hk;rw[KU]at h;exact⟨0,k,rfl,rfl,by rw[hk,h]⟩
   ·cases h
  ·obtain⟨p,k',h1,h2,h3⟩:=ng h
   exact⟨p+1,k',h1,h2,h3⟩
 | k::ks,false::bs,h=>by
  unfold ik at h
  obtain⟨p,k',h1,h2,h3⟩:=ng h
  exact⟨p+1,k',h1,h2,h3⟩
theorem qy {id:Nat}:∀{ks:List Mk} {bs:List Bool} {p:Nat} {k:Mk},ks[p]?=some k→bs.getD p false=true→k.kil=some id→ik id ks bs=true
 | [],bs,p,k,h,_,_=>by simp at h
 | k'::ks,[],p,k,_,h,_=>by simp at h
 | k'::ks,b::bs,0,k,h1,h2,h3=>by
  simp at h1 h2
  subst h1 h2
  unfold ik
  rw[h3]
  simp
 | k'::ks,b::bs,p+1,k,h1,h2,h3=>by
  have:=qy (ks:=ks) (bs:=bs) (p:=p) (by simpa using h1) (by simpa using h2) h3
  cases b
  ·unfold ik;exact this
  ·unfold ik;rw[this,Bool.or_true]
theorem eJ {t:Nat} {d:D}:∀{os:List Oper} {ks:List Mk} {bs:List Bool},(t,d)∈jG os ks bs→∃(j:Nat) (o:Oper) (k:Mk),os[j]?=some o∧ks[j]?=some k∧bs.getD j false=true∧o.dst=some t∧d=k.d
 | o::os,k::ks,b::bs,h=>by
  unfold jG at h
  split at h
  ·rename_i t' hd
   rcases Lv.1 h with h | h
   ·cases h;exact⟨0,o,k,rfl,rfl,rfl,hd,rfl⟩
   ·obtain⟨j,o',k',h1⟩:=eJ h;exact⟨j+1,o',k',h1⟩
  ·obtain⟨j,o',k',h1⟩:=eJ h;exact⟨j+1,o',k',h1⟩
 | [],_,_,h=>by simp[jG]at h
 | _::_,[],_,h=>by simp[jG]at h
 | _::_,_::_,[],h=>by simp[jG]at h
theorem kP:∀{os:List Oper} {ks:List Mk} {bs:List Bool} (j:Nat) {o:Oper} {k:Mk} {t:Nat},os[j]?=some o→ks[j]?=some k→bs.getD j false=true→o.dst=some t→(t,k.d)∈jG os ks bs
 | o::os,k::ks,b::bs,0,o',k',t,h1,h2,h3,h4=>by
  simp at h1 h2 h3;subst h1 h2 h3
  unfold jG
  rw[h4]
  exact Lg ..
 | o::os,k::ks,b::bs,j+1,o',k',t,h1,h2,h3,h4=>by
  have:=kP (os:=os) (ks:=ks) (bs:=bs) j (by simpa using h1) (by simpa using h2) (by simpa using h3) h4
  unfold jG
  split
  ·exact Lc _ this
  ·exact this
 | [],_,_,_,_,_,_,h1,_,_,_=>by simp at h1
 | _::_,[],_,_,_,_,_,_,h2,_,_=>by simp at h2
 | _::_,_::_,[],_,_,_,_,_,_,h3,_=>by simp at h3
theorem fP {PP:List Mk} {PQ:List Bool}:∀(n:Nat) (ks:List Mk) (bs:List Bool),(gi PP PQ n ks bs).length=ks.length
 | _,[],_=>rfl
 | n,_::ks,[]=>by simp[gi,fP (n+1) ks]
 | n,_::ks,true::bs=>by simp[gi,fP (n+1) ks]
 | n,_::ks,false::bs=>by simp[gi,fP (n+1) ks]
theorem cP (n:Nat) (ks:List Mk) (bs:List Bool):(cM n ks bs).length=ks.length:=fP _ _ _
theorem kQ {PP:List Mk} {PQ:List Bool}:∀(n:Nat) (ks:List Mk) (bs:List Bool) (j:Nat) (k:Mk),ks[j]?=some k→(gi PP PQ n ks bs)[j]?=some (if bs.getD j false=true then HJ PP PQ (n+j) k else .dead)
 | n,_::ks,[],0,k,h=>by simp[gi]
 | n,_::ks,[],j+1,k,h=>by simpa[gi]using kQ (n+1) ks [] j k (by simpa using h)
 | n,k'::ks,true::bs,0,k,h=>by
  simp at h;subst h
  simp[gi]
 | n,_::ks,true::bs,j+1,k,h=>by
  have:=kQ (PP:=PP) (PQ:=PQ) (n+1) ks bs j k (by simpa using h)
  rw[show n+1+j=n+(j+1) by omega]at this
  simpa[gi]using this
 | n,_::ks,false::bs,0,k,h=>by simp[gi]
 | n,_::ks,false::bs,j+1,k,h=>by
  have:=kQ (PP:=PP) (PQ:=PQ) (n+1) ks bs j k (by simpa using h)
  rw[show n+1+j=n+(j+1) by omega]at this
  simpa[gi]using this
 | _,[],_,_,_,h=>by simp at h
theorem kR (n:Nat) (ks:List Mk) (bs:List Bool) (j:Nat) (k:Mk) (h:ks[j]?=some k):(cM n ks bs)[j]?=some (if bs.getD j false=true then HJ ks bs (n+j) k else .dead):=kQ n ks bs j k h
theorem jb {n:Nat} {ks:List Mk} {bs:List Bool} {j:Nat} {k:Mk} {B:am} (h:ks[j]?=some k) (hB:(cM n ks bs)[j]?=some B) :
  B=.dead∨(bs.getD j false=true∧ik (n+j) ks bs=false∧k.fil=none∧((iA (n+j) ks bs=none∧B=k.b)∨iA (n+j) ks bs=some B)):=by
 rw[kR _ _ _ _ _ h]at hB
 split at hB
 ·rename_i hb
  simp only[KP]at hB
  unfold HJ at hB
  split at hB
  ·rename_i B0 h1 h2 h3;exact .inr ⟨hb,h1,h2,.inr (by rw[h3,hB])⟩
  ·rename_i h1 h2 h3;exact .inr ⟨hb,h1,h2,.inl ⟨h3,hB.symm⟩⟩
  ·exact .inl hB.symm
 ·cases hB;exact .inl rfl
theorem rN {n:Nat} {ks:List Mk} {bs:List Bool} {j:Nat} {k:Mk} {B:am} (h:ks[j]?=some k) (h1:bs.getD j false=true) (h2:ik (n+j) ks bs=false) (h3:k.fil=none) (h4:(iA (n+j) ks bs=none∧B=k.b)∨iA (n+j) ks bs=some B) :
  (cM n ks bs)[j]?=some B:=by
 rw[kR _ _ _ _ _ h,KT h1]
 unfold HJ
 rw[h2,h3]
 rcases h4 with ⟨h5,rfl⟩ | h5
 ·rw[h5]
 ·rw[h5]
def t1 (os:List Oper):List (Nat×D)→List (Nat×D)
 | []=>[]
 | (t,d)::r=>if os.any (fun o=>match o.dst with | some s=>Nat.beq s t | none=>false)then t1 os r else (t,d)::t1 os r
theorem iB {os:List Oper} {t:Nat} {d:D}:∀{env:List (Nat×D)},(t,d)∈t1 os env→(t,d)∈env∧∀o∈os,o.dst≠some t
 | (s,e)::r,h=>by
  unfold t1 at h
  split at h
  ·obtain⟨h1,h2⟩:=iB h;exact⟨Lc _ h1,h2⟩
  ·rename_i hn
   rcases Lv.1 h with h | h
   ·cases h
    refine⟨Lg ..,fun o ho he=>hn ?_⟩
    rw[List.any_eq_true]
    exact⟨o,ho,by rw[he];simp⟩
   ·obtain⟨h1,h2⟩:=iB h;exact⟨Lc _ h1,h2⟩
def de (os:List Oper) (st:St) (ks:List Mk) (anc:List Bool):St:=⟨t1 os st.env++jG os ks anc,st.heap++cM st.heap.length ks anc⟩
def EO (P:Program) (ops os:List Oper) (st:St) (M7:List (Nat×Ov)):Nat→List Oper→List (List Bool)→List Mk→(List (List Bool)→List Mk→Prop)→Prop
 | _,[],MR,ks,K=>K MR ks
 | i,o::r,MR,ks,K =>
  match eH ops (de os st ks (fO MR o.after.toList)) o with
  | some true=>match rM P (de os st ks (fO MR o.after.toList)).heap (dA (de os st ks (fO MR o.after.toList)).env) (j8 M7 i) o.op with
   | (k,p)=>p∧nD k.d (fun d=>nB k.b (fun b=>nK k.kl (fun kl=>EO P ops os st M7 (i+1) r (MR++[fO MR o.after.toList]) (ks++[.make d b kl]) K)))
  | some false=>EO P ops os st M7 (i+1) r (MR++[fO MR o.after.toList]) (ks++[kf (.tup []) .dead]) K
  | none=>False
def iC (st:St) (n0:Nat):Nat→List (List Bool)→List Mk→List (List Bool)→List Mk→Bool
 | i,a::q',k::ks,MR,mks=>(match k.b,k.kl with
   | .dead,none=>true
   | _,_=>bj (n0+i) st.env&&aP (n0+i) st.heap&&freeM i (n0+i) 0 MR mks)&&iC st n0 (i+1) q' ks MR mks
 | _,_,_,_,_=>true
where freeM (i id:Nat):Nat→List (List Bool)→List Mk→Bool
 | j,a::q',k::ks=>(Nat.beq j i||a.getD i false||(D.free id k.d&&am.free id k.b))&&freeM i id (j+1) q' ks
 | _,_,_=>true
def t4:List Oper→Bool
 | []=>true
 | o::r=>(match o.dst with | some t=>r.all (fun o'=>match o'.dst with | some s=>!(Nat.beq s t) | none=>true) | none=>true)&&t4 r
def kS (nt:Nat):List Oper→Bool
 | []=>true
 | o::r=>(match o.dst with | some t=>Nat.blt t nt&&!(i9 o.op) | none=>i9 o.op)&&kS nt r
def rO:py:={ K:=fun _=>.grow,F:=fun _ _ _ _=>True,ins:=fun _=>[] }
def GH (nt:Nat) (ops:List Oper) (m:Nat):Bool :=
 F9 ops.toArray rO ⟨Array.replicate nt undef,[]⟩&&zi ops.toArray m&&kS nt (ops.take m)&&t4 (ops.take m)&&ops.all (fun o=>!cg o)
def jc (n0:Nat) (MR:List (List Bool)) (ks:List Mk):Bool:=(List.range ks.length).all fun p=>match (ks.getD p (kf .junk .dead)).kl with
 | none=>true
 | some id=>Nat.ble n0 id&&(MR.getD p []).getD (id-n0) false&&((List.range ks.length).all fun i=>Nat.beq i p||!((MR.getD i []).getD (id-n0) false)||(MR.getD i []).getD p false||(MR.getD p []).getD i false)&&(List.range ks.length).all fun i=>Nat.beq i p||(match (ks.getD i (kf .junk .dead)).kl with | some j=>!(Nat.beq j id) | none=>true)
theorem gj {n0:Nat} {MR:List (List Bool)} {ks:List Mk} (h:jc n0 MR ks=true) {p:Nat} {k:Mk} (hp:ks[p]?=some k) {id:Nat} (hk:k.kl=some id) :
  n0≤id∧(MR.getD p []).getD (id-n0) false=true∧∀i,i<ks.length→i≠p→(MR.getD i []).getD (id-n0) false=true→(MR.getD i []).getD p false=true∨(MR.getD p []).getD i false=true:=by
 unfold jc at h
 rw[K2]at h
 have PF:p<ks.length:=(KE.1 hp).1
 have h1:=h p (LG.2 PF)
 have e:ks.getD p (kf .junk .dead)=k:=by rw[List.getD,hp];rfl
 rw[e,hk]at h1
 simp only[KD]at h1
 have h1:=h1.1
 simp only[LJ,K2,LG,Lf,KU,K5]at h1
 refine⟨h1.1.1,h1.1.2,fun i hi NF ha=>?_⟩
 rcases h1.2 i hi with ((h2 | h2) | h2) | h2
 ·exact absurd h2 NF
 ·rw[ha]at h2;cases h2
 ·exact .inl h2
 ·exact .inr h2
theorem rP {n0:Nat} {MR:List (List Bool)} {ks:List Mk} (h:jc n0 MR ks=true) {p q:Nat} {k k':Mk} (hp:ks[p]?=some k) (hq:ks[q]?=some k') {id:Nat} (hk:k.kl=some id) (NH:k'.kl=some id):p=q:=by
 unfold jc at h
 rw[K2]at h
 have PF:p<ks.length:=(KE.1 hp).1
 have PR:q<ks.length:=(KE.1 hq).1
 have h1:=h p (LG.2 PF)
 have e:ks.getD p (kf .junk .dead)=k:=by rw[List.getD,hp];rfl
 rw[e,hk]at h1
 simp only[KD]at h1
 have h2:=h1.2
 rw[K2]at h2
 have h3:=h2 q (LG.2 PR)
 have e2:ks.getD q (kf .junk .dead)=k':=by rw[List.getD,hq];rfl
 rw[e2,NH]at h3
 simp only[Lf,KU,K5]at h3
 rcases h3 with h3 | h3
 ·exact h3.symm
 ·have:Nat.beq id id=true:=by rw[KU]
  rw[this]at h3;cases h3
def GI (P:Program) (nt:Nat) (ops:List Oper) (M7:List (Nat×Ov)) (m:Nat) (st:St) (k:St→Prop):Prop :=
 EO P ops (ops.take m) st M7 0 (ops.take m) [] [] fun MR ks =>
  match GH nt ops m&&(iC st st.heap.length 0 MR ks MR ks&&jc st.heap.length MR ks)&&P.follows .mixedOrders with
  | true=>vo P nt ops M7 m (ops.drop m) ⟨t1 (ops.take m) st.env++jG (ops.take m) ks (List.replicate m true),st.heap++cM st.heap.length ks (List.replicate m true)⟩ k
  | false=>False
theorem oV {P:Program} {nt:Nat} {ops:List Oper} {M7:List (Nat×Ov)} {k k':St→Prop} (hk:∀st,k st→k' st):∀(r:List Oper) (i:Nat) (st:St),vo P nt ops M7 i r st k→vo P nt ops M7 i r st k'
 | [],i,st,h=>hk _ h
 | o::r,i,st,h=>by
  unfold vo at h ⊢
  split at h
  ·rename_i hg;exact⟨h.1,oV hk r (i+1) _ h.2⟩
  ·rename_i hg;exact⟨h.1,oV hk r (i+1) _ h.2⟩
  ·exact h.elim
theorem nh {P:Program} {ops os:List Oper} {st:St} {M7:List (Nat×Ov)} {K K':List (List Bool)→List Mk→Prop} (hk:∀a b,K a b→K' a b):∀(r:List Oper) (i:Nat) (MR:List (List Bool)) (ks:List Mk),EO P ops os st M7 i r MR ks K→EO P ops os st M7 i r MR ks K'
 | [],i,MR,ks,h=>hk _ _ h
 | o::r,i,MR,ks,h=>by
  unfold EO at h ⊢
  split at h
  ·rename_i hg
   refine⟨h.1,?_⟩
   have h2:=h.2
   rw[zN,CX,Gj]at h2 ⊢
   exact nh hk r (i+1) _ _ h2
  ·exact nh hk r (i+1) _ _ h
  ·exact h.elim
theorem C3 {P:Program} {nt:Nat} {ops:List Oper} {M7:List (Nat×Ov)} {m:Nat} {st:St} {k k':St→Prop} (h:GI P nt ops M7 m st k) (hk:∀st,k st→k' st):GI P nt ops M7 m st k':=by
 unfold GI at h ⊢
 refine nh (fun a b hq=>?_) _ _ _ _ h
 split at hq
 ·exact oV hk _ _ _ hq
 ·exact hq.elim
section
variable {C:jC}
theorem yr {P:Program} {ops os:List Oper} {st:St} {M7:List (Nat×Ov)} {K:List (List Bool)→List Mk→Prop}:∀(r:List Oper) (i:Nat) (MR:List (List Bool)) (ks:List Mk),MR.length=i→ks.length=i→EO P ops os st M7 i r MR ks K →
  ∃(Nc:List (List Bool)) (OX:List Mk),Nc.length=i+r.length∧OX.length=i+r.length∧(∃x,Nc=MR++x)∧(∃y,OX=ks++y)∧K Nc OX ∧
   ∀(j:Nat) (o:Oper),r[j]?=some o→(Nc.getD (i+j) [])=fO (Nc.take (i+j)) o.after.toList ∧
    ((eH ops (de os st (OX.take (i+j)) (Nc.getD (i+j) [])) o=some true∧∃k p,rM P (de os st (OX.take (i+j)) (Nc.getD (i+j) [])).heap (dA (de os st (OX.take (i+j)) (Nc.getD (i+j) [])).env) (j8 M7 (i+j)) o.op=(k,p)∧p∧OX[i+j]?=some k) ∨
     (eH ops (de os st (OX.take (i+j)) (Nc.getD (i+j) [])) o=some false∧OX[i+j]?=some (kf (.tup []) .dead)))
 | [],i,MR,ks,h1,h2,h=>⟨MR,ks,by simp[h1],by simp[h2],⟨[],by simp⟩,⟨[],by simp⟩,h,fun j o ho=>by simp at ho⟩
 | o::r,i,MR,ks,h1,h2,h=>by
  unfold EO at h
  have RT:∀(k:Mk),EO P ops os st M7 (i+1) r (MR++[fO MR o.after.toList]) (ks++[k]) K →
    ((eH ops (de os st ks (fO MR o.after.toList)) o=some true∧∃p,rM P (de os st ks (fO MR o.after.toList)).heap (dA (de os st ks (fO MR o.after.toList)).env) (j8 M7 i) o.op=(k,p)∧p)∨(eH ops (de os st ks (fO MR o.after.toList)) o=some false∧k=kf (.tup []) .dead)) →
    ∃(Nc:List (List Bool)) (OX:List Mk),Nc.length=i+(o::r).length∧OX.length=i+(o::r).length∧(∃x,Nc=MR++x)∧(∃y,OX=ks++y)∧K Nc OX ∧
     ∀(j:Nat) (o':Oper),(o::r)[j]?=some o'→(Nc.getD (i+j) [])=fO (Nc.take (i+j)) o'.after.toList ∧
      ((eH ops (de os st (OX.take (i+j)) (Nc.getD (i+j) [])) o'=some true∧∃k p,rM P (de os st (OX.take (i+j)) (Nc.getD (i+j) [])).heap (dA (de os st (OX.take (i+j)) (Nc.getD (i+j) [])).env) (j8 M7 (i+j)) o'.op=(k,p)∧p∧OX[i+j]?=some k) ∨
       (eH ops (de os st (OX.take (i+j)) (Nc.getD (i+j) [])) o'=some false∧OX[i+j]?=some (kf (.tup []) .dead))):=by
   intro k hk hc
   obtain⟨Nc,OX,q1,q2,⟨x,q3⟩,⟨y,q4⟩,q5,q6⟩:=yr r (i+1) _ _ (by simp[h1]) (by simp[h2]) hk
   refine⟨Nc,OX,by rw[q1,K1];omega,by rw[q2,K1];omega,⟨_,by rw[q3,Ls]⟩,⟨_,by rw[q4,Ls]⟩,q5,fun j o' NT=>?_⟩
   cases j with
   | zero =>
    simp at NT
    subst NT
    have ea:Nc.getD (i+0) []=fO MR o.after.toList:=by
     rw[q3];unfold List.getD
     rw[Ls,KR (by omega)]
     simp[h1]
    have et:Nc.take (i+0)=MR:=by rw[q3,Ls,Ma,← h1,Ml]
    have ek:OX.take (i+0)=ks:=by rw[q4,Ls,Ma,← h2,Ml]
    have eg:OX[i+0]?=some k:=by
     rw[q4,Ls,KR (by omega)]
     simp[h2]
    rw[ea,et,ek,eg]
    refine⟨rfl,?_⟩
    rcases hc with ⟨c1,p,c2,c3⟩ | ⟨c1,rfl⟩
    ·exact .inl ⟨c1,k,p,c2,c3,rfl⟩
    ·exact .inr ⟨c1,rfl⟩
   | succ j =>
    have:=q6 j o' (by simpa using NT)
    rwa [show i+1+j=i+(j+1)from by omega]at this
  split at h
  ·rename_i hg
   generalize hq:rM P (de os st ks (fO MR o.after.toList)).heap (dA (de os st ks (fO MR o.after.toList)).env) (j8 M7 i) o.op=q at h
   obtain⟨k,p⟩:=q
   obtain⟨hp,hk⟩:=h
   rw[zN,CX,Gj]at hk
   exact RT k hk (.inl ⟨hg,p,hq,hp⟩)
  ·rename_i hg
   exact RT _ h (.inr ⟨hg,rfl⟩)
  ·exact h.elim
theorem wN {α:Type _} {l:List α} {i:Nat} {x:α} (h:l[i]?=some x):l.set i x=l:=by
 apply List.ext_getElem?
 intro j
 by_cases hj:i=j
 ·subst hj
  rw[KY (KE.1 h).1,h]
 ·rw[KW hj]
theorem wO {id:Nat}:∀{env:List (Nat×D)},(∀t d,(t,d)∈env→D.free id d=true)→bj id env=true
 | [],_=>rfl
 | (t,d)::r,h=>by
  simp only[bj,KD]
  exact⟨h t d (Lg ..),wO (fun t d hm=>h t d (Lc _ hm))⟩
theorem ni {id:Nat}:∀{H:List am},(∀(j:Nat) (B:am),H[j]?=some B→am.free id B=true)→aP id H=true
 | [],_=>rfl
 | B::r,h=>by
  simp only[aP,KD]
  exact⟨h 0 B rfl,ni (fun j B hB=>h (j+1) B (by simpa using hB))⟩
theorem iE {t s:Nat} {d:D}:∀{env:List (Nat×D)},(s,d)∈env→s≠t→(s,d)∈pC env t
 | (q,e)::r,h,hn=>by
  unfold pC
  rcases Lv.1 h with h | h
  ·cases h
   split
   ·rename_i hq;rw[KU]at hq;exact(hn hq).elim
   ·exact Lg ..
  ·split
   ·exact iE h hn
   ·exact Lc _ (iE h hn)
theorem t5 {i id:Nat}:∀{q':List (List Bool)} {ks:List Mk} {j0:Nat},iC.freeM i id j0 q' ks=true→∀(j:Nat) (a:List Bool) (k:Mk),q'[j]?=some a→ks[j]?=some k→j0+j=i∨a.getD i false=true∨(D.free id k.d=true∧am.free id k.b=true)
 | a::q',k::ks,j0,h,0,a',k',h1,h2=>by
  simp at h1 h2;subst h1 h2
  unfold iC.freeM at h
  simp only[KD,Lf,KU]at h
  rcases h.1 with (h3 | h3) | h3
  ·exact .inl (by omega)
  ·exact .inr (.inl h3)
  ·exact .inr (.inr h3)
 | a::q',k::ks,j0,h,j+1,a',k',h1,h2=>by
  unfold iC.freeM at h
  simp only[KD]at h
  have:=t5 h.2 j a' k' (by simpa using h1) (by simpa using h2)
  rcases this with h3 | h3
  ·exact .inl (by omega)
  ·exact .inr h3
 | [],_,_,_,_,_,_,h1,_=>by simp at h1
 | _::_,[],_,_,_,_,_,_,h2=>by simp at h2
theorem t6 {st:St} {n0:Nat} {MR:List (List Bool)} {mks:List Mk}:∀{q':List (List Bool)} {ks:List Mk} {i0:Nat},iC st n0 i0 q' ks MR mks=true→∀(i:Nat) (a:List Bool) (k:Mk),q'[i]?=some a→ks[i]?=some k→k.b.live=true∨k.kl.isSome=true →
  bj (n0+(i0+i)) st.env=true∧aP (n0+(i0+i)) st.heap=true∧iC.freeM (i0+i) (n0+(i0+i)) 0 MR mks=true
 | a::q',k::ks,i0,h,0,a',k',h1,h2,hl=>by
  simp at h1 h2;subst h1 h2
  unfold iC at h
  simp only[KD]at h
  have h3:=h.1
  split at h3
  ·rename_i hb OC;rw[hb,OC]at hl;rcases hl with hl | hl<;>cases hl
  ·simp only[KD]at h3
   exact⟨h3.1.1,h3.1.2,h3.2⟩
 | a::q',k::ks,i0,h,i+1,a',k',h1,h2,hl=>by
  unfold iC at h
  simp only[KD]at h
  have:=t6 h.2 i a' k' (by simpa using h1) (by simpa using h2) hl
  rwa [show i0+1+i=i0+(i+1)from by omega]at this
 | [],_,_,_,_,_,_,h1,_,_=>by simp at h1
 | _::_,[],_,_,_,_,_,_,h2,_=>by simp at h2
theorem t7:∀{os:List Oper},t4 os=true→∀(i j:Nat) (o o':Oper) (t:Nat),os[i]?=some o→os[j]?=some o'→o.dst=some t→o'.dst=some t→i=j
 | x::r,h,i,j,o,o',t,hi,hj,h1,h2=>by
  unfold t4 at h
  simp only[KD]at h
  have key:∀(k:Nat) (y z:Oper),r[k]?=some y→z=x→z.dst=some t→y.dst=some t→False:=by
   intro k y z hy hz hd hd2
   subst hz
   have h3:=h.1
   rw[hd]at h3
   simp only[K2]at h3
   have:=h3 y (Lb hy)
   rw[hd2]at this
   simp at this
  cases i with
  | zero =>
   cases j with
   | zero=>rfl
   | succ j=>simp at hi hj;exact(key j o' o hj hi.symm h1 h2).elim
  | succ i =>
   cases j with
   | zero=>simp at hi hj;exact(key i o o' hi hj.symm h2 h1).elim
   | succ j=>simp at hi hj;rw[t7 h.2 i j o o' t hi hj h1 h2]
 | [],_,i,_,_,_,_,hi,_,_,_=>by simp at hi
theorem mD {ops:List Oper} {MR:List (List Bool)} {m:Nat} {ls:Array Bool} (hcl:∀i o,ls.getD i false=true→ops[i]?=some o→∀e∈o.after,Region.binds .any e=true→ls.getD e.on false=true)
  (M6:∀i o,ops[i]?=some o→∀e∈o.after,Region.binds .any e=true→e.on<i) (hm:m≤ops.length)
  (PX:∀(j:Nat) (o:Oper),(ops.take m)[j]?=some o→MR.getD j []=fO (MR.take j) o.after.toList) (NA:MR.length=m) :
  ∀(i:Nat) (o:Oper),i<m→ops[i]?=some o→(∀e∈o.after,Region.binds .any e=true→ls.getD e.on false=true)→∀j,(MR.getD i []).getD j false=true→ls.getD j false=true:=by
 intro i
 induction i using Nat.strongRecOn with
 | _ i ih =>
  intro o hi ho hr j hj
  rw[PX i o (by rw[K4,KT hi];exact ho)]at hj
  obtain⟨e,he,hb,hc⟩:=nf hj
  have Qm:e∈o.after:=by simpa using he
  have hlst:=hr e Qm hb
  have hei:=M6 i o ho e Qm hb
  rcases hc with rfl | hc
  ·exact hlst
  ·have e2:(MR.take i).getD e.on []=MR.getD e.on []:=by
    unfold List.getD;rw[K4,KT hei]
   rw[e2]at hc
   have hoe:ops[e.on]?=some (ops[e.on]'(by omega)):=KF (by omega)
   exact ih e.on hei _ (by omega) hoe (hcl e.on _ hlst hoe) j hc
theorem ck (C':Array Bool) (m j:Nat) (h:j<m):((List.range m).map fun j=>C'.getD j false).getD j false=C'.getD j false:=by
 simp[List.getD,h]
theorem oW (C':Array Bool) (m j:Nat) (h:m≤j):((List.range m).map fun j=>C'.getD j false).getD j false=false:=by
 simp[List.getD,h]
theorem C4 {ops:List Oper} {MR:List (List Bool)} {m:Nat} (M6:∀i o,ops[i]?=some o→∀e∈o.after,Region.binds .any e=true→e.on<i) (hm:m≤ops.length)
  (PX:∀(j:Nat) (o:Oper),(ops.take m)[j]?=some o→MR.getD j []=fO (MR.take j) o.after.toList):∀(i:Nat),i<m→∀j,(MR.getD i []).getD j false=true→j<i:=by
 intro i
 induction i using Nat.strongRecOn with
 | _ i ih =>
  intro hi j hj
  have hoi:ops[i]?=some (ops[i]'(by omega)):=KF (by omega)
  rw[PX i _ (by rw[K4,KT hi];exact hoi)]at hj
  obtain⟨e,he,hb,hc⟩:=nf hj
  have Qm:e∈(ops[i]'(by omega)).after:=by simpa using he
  have hei:=M6 i _ hoi e Qm hb
  rcases hc with rfl | hc
  ·exact hei
  ·have e2:(MR.take i).getD e.on []=MR.getD e.on []:=by
    unfold List.getD;rw[K4,KT hei]
   rw[e2]at hc
   have:=ih e.on hei (by omega) j hc
   omega
theorem rQ {id:Nat} {x:Fz}:∀{env:List (Nat×D)} {t:Nat} {d:D},(t,d)∈env→(t,cj id x d)∈f9 id x env
 | (s,e)::r,t,d,h=>by
  rcases Lv.1 h with h | h
  ·cases h;exact Lg ..
  ·exact Lc _ (rQ h)
theorem aK.addAt {S:Nat→Prop} {μ:Nat→Value} {st:St} {a:Act} {w:World} (h:aK C S μ st a w) {id:Nat} (hd:st.heap[id]?=some .dead) (hf:bj id st.env=true) (hh:aP id st.heap=true) {B:am} {u:Value} (RU:B.isOwn=true) {μ1:Nat→Value} (G':az S μ1 w u B)
  (Nb:∀b,bi u b→C.W.heap.size≤b∧¬S b∧∀(i:Nat) (A:am),st.heap[i]?=some A→A.live=true→¬bi (μ i) b):aK C S (aM μ id u) ⟨st.env,st.heap.set id B⟩ a w:=by
 have M':∀i,i≠id→aM μ id u i=μ i:=fun i hi=>av _ _ hi
 have M6:id<st.heap.length:=(KE.1 hd).1
 have N6:∀(i:Nat) (A:am),(st.heap.set id B)[i]?=some A→(i≠id∧st.heap[i]?=some A)∨(i=id∧A=B):=by
  intro i A hA
  by_cases hi:i=id
  ·subst hi
   rw[KY M6]at hA
   exact .inr ⟨rfl,by cases hA;rfl⟩
  ·rw[KW (MP hi)]at hA
   exact .inl ⟨hi,hA⟩
 refine⟨h.os,h.tape,h.output,h.size,h.old,h.mono,h.new,h.slt,?_,⟨?_,?_,?_⟩,?_,?_,h.tsize,?_⟩
 ·intro t d hm
  obtain⟨q1,q2⟩:=h.env t d hm
  exact⟨q1,q2.stable (fun _ h _=>h) (fun _ _ _=>rfl) (KI _) (fun id M5=>av _ _ (fun e=>by rw[e,cE hf hm]at M5;cases M5))⟩
 ·intro i A hA
  rcases N6 i A hA with ⟨hi,hA⟩ | ⟨rfl,rfl⟩
  ·rw[M' i hi]
   exact(h.heap.box i A hA).stable (fun _ h _=>h) (fun _ _ _=>rfl) (KI _) (fun id M5=>av _ _ (fun e=>by rw[e,b8 hh hA]at M5;cases M5)) (fun _ _=>rfl)
  ·rw[ao]
   exact G'.arrMu RU
 ·intro i j A A' b hA Nr la QQ hb Nn
  have g1:=N6 i A hA
  have g2:=N6 j A' Nr
  clear hA Nr
  rcases g1 with ⟨hi,hA⟩ | ⟨ei,eA⟩<;>rcases g2 with ⟨hj,Nr⟩ | ⟨ej,eA'⟩
  ·rw[M' i hi]at hb;rw[M' j hj]at Nn
   exact h.heap.apart i j A A' b hA Nr la QQ hb Nn
  ·rw[M' i hi]at hb;rw[ej,ao]at Nn
   exact((Nb b Nn).2.2 i A hA la hb).elim
  ·rw[M' j hj]at Nn;rw[ei,ao]at hb
   exact((Nb b hb).2.2 j A' Nr QQ Nn).elim
  ·rw[ei,ej]
 ·intro i A b hA la hb
  rcases N6 i A hA with ⟨hi,hA⟩ | ⟨rfl,rfl⟩
  ·rw[M' i hi]at hb
   exact h.heap.notS i A b hA la hb
  ·rw[ao]at hb
   exact(Nb b hb).2.1
 ·intro i A b hA la hb
  rcases N6 i A hA with ⟨hi,hA⟩ | ⟨rfl,rfl⟩
  ·rw[M' i hi]at hb
   exact h.may i A b hA la hb
  ·rw[ao]at hb
   exact(Nb b hb).1
 ·obtain⟨mk,e1,e2,e3⟩:=h.defers
  refine⟨mk,e1,e2,fun b hb=>?_⟩
  obtain⟨g1,g2,g3,g4⟩:=e3 b hb
  refine⟨g1,g2,g3,fun i A hA la Oe=>?_⟩
  rcases N6 i A hA with ⟨hi,hA⟩ | ⟨rfl,rfl⟩
  ·rw[M' i hi]at Oe
   exact g4 i A hA la Oe
  ·rw[ao]at Oe
   obtain⟨cs,T,x,hh2⟩:=G'.ownBlk RU Oe
   rw[hh2]at g1
   simp at g1
 ·intro i A b hA la hb
  rcases N6 i A hA with ⟨hi,hA⟩ | ⟨rfl,rfl⟩
  ·rw[M' i hi]at hb
   exact h.ro i A b hA la hb
  ·cases A<;>first | (cases RU;done) | cases la
theorem aK.alias {S:Nat→Prop} {μ:Nat→Value} {st:St} {a:Act} {w:World} (h:aK C S μ st a w) {q p:Nat} {A:am} (hq:st.heap[q]?=some A) (hA:A.isArr=true) (hp:st.heap[p]?=some .dead) (hf:bj p st.env=true) (hh:aP p st.heap=true) :
  aK C S (aM μ p (μ q)) ⟨st.env,(st.heap.set q .dead).set p A⟩ a w:=by
 have hl:A.live=true:=by cases A<;>first | rfl | cases hA
 have hqp:q≠p:=fun e=>by subst e;rw[hq]at hp;cases hp;cases hl
 have hqL:q<st.heap.length:=(KE.1 hq).1
 have hpL:p<st.heap.length:=(KE.1 hp).1
 have h1:aK C S μ ⟨st.env,st.heap.set q .dead⟩ a w:=h.heapTo (fun i B hB=>by
  by_cases e:i=q
  ·subst e;rw[KY hqL]at hB;cases hB;exact .inl rfl
  ·rw[KW (MP e)]at hB;exact .inr hB)
 have PD:(st.heap.set q .dead)[p]?=some .dead:=by rw[KW hqp];exact hp
 have hh1:aP p (st.heap.set q .dead)=true:=ni (fun i B hB=>by
  by_cases e:i=q
  ·subst e;rw[KY hqL]at hB;cases hB;rfl
  ·rw[KW (MP e)]at hB;exact b8 hh hB)
 refine h1.addAt PD hf hh1 (am.isOwn_arr hA) (h.heap.box q A hq) (fun b hb=>⟨h.may q A b hq hl hb,h.heap.notS q A b hq hl hb,fun i B hB lB Oe=>?_⟩)
 have Nf:(st.heap.set q .dead)[i]?=some B:=hB
 by_cases e:i=q
 ·subst e;rw[KY hqL]at Nf;cases Nf;cases lB
 ·rw[KW (MP e)]at Nf
  exact e (h.heap.apart i q B A b Nf hq lB hl Oe hb)
theorem zO {ops:List Oper} {st:St} {Q:Exit→St→Prop} (M7:List (Nat×Ov)) (m:Nat) (NO:Nat→Bool) {MR:List (List Bool)} {ks:List Mk} (Qn:m≤ops.length)
  (NA:MR.length=(ops.take m).length) (NY:ks.length=(ops.take m).length)
  (RI:∀(j:Nat) (o:Oper),(ops.take m)[j]?=some o→(MR.getD j [])=fO (MR.take j) o.after.toList ∧
    ((eH ops (de (ops.take m) st (ks.take j) (MR.getD j [])) o=some true∧∃k p,rM C.P (de (ops.take m) st (ks.take j) (MR.getD j [])).heap (dA (de (ops.take m) st (ks.take j) (MR.getD j [])).env) (j8 M7 j) o.op=(k,p)∧p∧ks[j]?=some k) ∨
     (eH ops (de (ops.take m) st (ks.take j) (MR.getD j [])) o=some false∧ks[j]?=some (kf (.tup []) .dead))))
  (QF:F9 ops.toArray rO ⟨Array.replicate C.nt undef,[]⟩=true) (Q5:kS C.nt (ops.take m)=true) (Q6:t4 (ops.take m)=true) (PY:ops.all (fun o=>!cg o)=true)
  (N7:iC st st.heap.length 0 MR ks MR ks=true) (Np:jc st.heap.length MR ks=true) (PG:C.P.follows .mixedOrders=true)
  (htailL:∀i,m≤i→i<ops.length→∀j,j<m→NO j=false→cf ops.toArray i j=true)
  (Sp:∀(C':Array Bool) (S:Nat→Prop) (μ:Nat→Value) (a':Act) (w:World),C'.size=ops.length →
    (∀i o,C'.getD i false=true→ops[i]?=some o→∀e∈o.after,Region.binds .any e=true→C'.getD e.on false=true)→aK C S μ (de (ops.take m) st ks ((List.range m).map fun j=>C'.getD j false)) a' w →
    (∀j,j<m→NO j=false→C'.getD j false=true)→(∀i,m≤i→C'.getD i false=false) →
    wpAnyIn (jP C.rd) 0 C.P .any ops.toArray (fun e a' w'=>∃I' S' μ',Q e I'∧aK C S' μ' I' a' w') (wb C' m+(ops.length-m)) C' a' w) :
  ∀(a:Act) (w:World) (S:Nat→Prop) (μ:Nat→Value),aK C S μ st a w→wpAnyIn (jP C.rd) 0 C.P .any ops.toArray (fun e a' w'=>∃I' S' μ',Q e I'∧aK C S' μ' I' a' w') ops.toArray.size (Array.replicate ops.toArray.size false) a w.drew:=fun a w S μ hR=>by
 have hnd:zl ops.toArray:=fun i o ho=>by
  rw[K2]at PY
  have:=PY o (Lb (by simpa using ho))
  simpa using this
 have hml:(ops.take m).length=m:=by rw[KV];omega
 rw[hml]at NA NY
 have OD:EM ops.toArray rO a:=wg (wI QF (by simp[hR.tsize]) rfl rfl)
 have QR:∀(k:Nat) (o:Oper),k<m→ops[k]?=some o→(ops.take m)[k]?=some o:=fun k o hk ho=>by rw[K4,KT hk];exact ho
 have M0:ops.toArray.size=ops.length:=by simp
 have hdsts:∀(k:Nat) (o:Oper),k<m→ops[k]?=some o→(∃t,o.dst=some t∧t<C.nt∧i9 o.op=false)∨(o.dst=none∧i9 o.op=true):=by
  have key:∀(l:List Oper),kS C.nt l=true→∀(k:Nat) (o:Oper),l[k]?=some o→(∃t,o.dst=some t∧t<C.nt∧i9 o.op=false)∨(o.dst=none∧i9 o.op=true):=by
   intro l
   induction l with
   | nil=>intro _ k o ho;simp at ho
   | cons x r ih =>
    intro hd k o ho
    unfold kS at hd
    simp only[KD]at hd
    cases k with
    | zero =>
     simp at ho;subst ho
     have h1:=hd.1
     split at h1
     ·rename_i t ht;simp only[KD,K5]at h1;exact .inl ⟨t,ht,by simpa using h1.1,h1.2⟩
     ·rename_i ht;exact .inr ⟨ht,h1⟩
    | succ k=>exact ih hd.2 k o (by simpa using ho)
  exact fun k o hk ho=>key _ Q5 k o (QR k o hk ho)
 let M9:Array Bool→List Bool:=fun C'=>(List.range m).map fun j=>C'.getD j false
 have main:∀(fuel:Nat) (C':Array Bool) (env:Nat→Value) (S:Nat→Prop) (μ:Nat→Value) (a':Act) (w:World),jO ops.toArray a C' env a'→aK C S μ (de (ops.take m) st ks (M9 C')) a' w→wb C' m=fuel→(∀i,m≤i→C'.getD i false=false) →
   wpAnyIn (jP C.rd) 0 C.P .any ops.toArray (fun e a' w'=>∃I' S' μ',Q e I'∧aK C S' μ' I' a' w') (fuel+(ops.toArray.size-m)) C' a' w:=by
  intro fuel
  induction fuel with
  | zero =>
   intro C' env S μ a' w hF hRL hu N1
   have hj:=Sp C' S μ a' w (by rw[hF.lsize];exact M0) (fun i o hl ho e he hb=>hF.closed i o hl (by simpa using ho) e he hb) hRL (fun j hj _=>wi C' m hu j hj) N1
   rw[hu]at hj
   rw[M0]
   exact hj
  | succ fuel ih =>
   intro C' env S μ a' w hF hRL hu N1
   by_cases hnlate:∀j,j<m→NO j=false→C'.getD j false=true
   ·rw[show fuel+1=wb C' m from hu.symm,M0]
    exact Sp C' S μ a' w (by rw[hF.lsize];exact M0) (fun i o hl ho e he hb=>hF.closed i o hl (by simpa using ho) e he hb) hRL hnlate N1
   obtain⟨k0,hk01,hk0l,hk02⟩:∃k,k<m∧NO k=false∧C'.getD k false=false:=by
    refine Classical.byContradiction fun hn=>hnlate fun j hj hl=>?_
    cases h:C'.getD j false
    ·exact(hn ⟨j,hj,hl,h⟩).elim
    ·rfl
   have hex:∃k,k<m∧C'.getD k false=false:=⟨k0,hk01,hk02⟩
   rw[show fuel+1+(ops.toArray.size-m)=(fuel+(ops.toArray.size-m))+1 from by omega]
   refine⟨fun Pq=>?_,fun i hi=>?_⟩
   ·obtain⟨k,Pu,Ou⟩:=hex
    have:=oB OD C' hF.lsize Pq k (by omega)
    rw[Ou]at this
    cases this
   obtain⟨NC,o,ho,hr⟩:=(bB C' hF.lsize i).1 hi
   have M6:i<ops.toArray.size:=(KQ.1 ho).1
   have QG:i<C'.size:=by rw[hF.lsize];exact M6
   have QH:i<m:=by
    refine LH fun hn=>?_
    have:=eW hF.closed 12 i k0 (fun o' NT=>by rw[ho]at NT;cases NT;exact hr) (htailL i (by omega) (by rw[← M0];exact M6) k0 hk01 hk0l)
    rw[hk02]at this
    cases this
   have hu':wb (C'.setIfInBounds i true) m=fuel:=by
    have:=zh C' i QG NC m
    rw[KT QH]at this
    omega
   have hno':∀k,m≤k→(C'.setIfInBounds i true).getD k false=false:=fun k hk=>by
    rw[aL _ _ _ QG,KK (by omega)]
    exact N1 k hk
   have NT:ops[i]?=some o:=by simpa using ho
   obtain⟨han,Qo⟩:=RI i o (QR i o QH NT)
   have PX:∀j,(MR.getD i []).getD j false=true→C'.getD j false=true :=
    mD (ops:=ops) (fun i o hl ho e he hb=>hF.closed i o hl (by simpa using ho) e he hb) (fun i o ho e he hb=>OD.top i o (by simpa using ho) e he hb) Qn (fun j o ho=>(RI j o ho).1) NA i o QH NT hr
   have hgi:(M9 C').getD i false=false:=by rw[ck C' m i QH];exact NC
   have hltE:∀i o,ops[i]?=some o→∀e∈o.after,Region.binds .any e=true→e.on<i:=fun i o ho e he hb=>OD.top i o (by simpa using ho) e he hb
   have Pv:∀(j:Nat) (o:Oper),(ops.take m)[j]?=some o→MR.getD j []=fO (MR.take j) o.after.toList:=fun j o ho=>(RI j o ho).1
   have Q7:∀(p:Nat),C'.getD p false=true→p<m→∀j,(MR.getD p []).getD j false=true→C'.getD j false=true:=fun p hp PZ j hj =>
    mD (ops:=ops) (MR:=MR) (m:=m) (ls:=C') (fun i o hl ho e he hb=>hF.closed i o hl (by simpa using ho) e he hb) hltE Qn Pv NA p _ PZ (KF (by omega))
     (hF.closed p _ hp (by simp)) j hj
   have hthere:∀(q:Nat),q<m→(MR.getD i []).getD q false=true→ik (st.heap.length+q) (ks.take i) (MR.getD i [])=false→ik (st.heap.length+q) ks (M9 C')=false:=by
    intro q hqm hanq Sq
    cases hd:ik (st.heap.length+q) ks (M9 C')
    ·rfl
    obtain⟨p,kp,p1,p2,p3⟩:=ng hd
    have PZ:p<m:=by have:=(KE.1 p1).1;omega
    rw[ck C' m p PZ]at p2
    obtain⟨_,_,k3⟩:=gj Np p1 (GD p3)
    have hip:i≠p:=fun e=>by rw[← e,NC]at p2;cases p2
    rcases k3 i (by omega) hip (by rw[Mv];exact hanq)with k4 | k4
    ·have hpi:=C4 hltE Qn Pv i QH p k4
     rw[qy (ks:=ks.take i) (bs:=MR.getD i []) (p:=p) (k:=kp) (by rw[K4,KT hpi];exact p1) k4 p3]at Sq
     cases Sq
    ·have:=Q7 p p2 PZ i k4
     rw[NC]at this;cases this
   have hfillv:∀(q:Nat),q<m→(MR.getD i []).getD q false=true→iA (st.heap.length+q) (ks.take i) (MR.getD i [])=iA (st.heap.length+q) ks (M9 C'):=by
    intro q hqm hanq
    cases hv:iA (st.heap.length+q) (ks.take i) (MR.getD i [])with
    | none =>
     cases ha:iA (st.heap.length+q) ks (M9 C')with
     | none=>rfl
     | some B =>
      exfalso
      obtain⟨p,kp,p1,p2,p3,_⟩:=eI ha
      rw[Li]at p2
      have PZ:p<m:=by have:=(KE.1 p1).1;omega
      rw[ck C' m p PZ]at p2
      obtain⟨_,_,k3⟩:=gj Np p1 (rK p3)
      have hip:i≠p:=fun e=>by rw[← e,NC]at p2;cases p2
      rcases k3 i (by omega) hip (by rw[Mv];exact hanq)with k4 | k4
      ·have hpi:=C4 hltE Qn Pv i QH p k4
       exact ja hv p kp (by rw[K4,KT hpi];exact p1) (by rw[Li];exact k4) p3
      ·have:=Q7 p p2 PZ i k4
       rw[NC]at this;cases this
    | some B =>
     obtain⟨p,kp,p1,p2,p3,p4⟩:=eI hv
     rw[Li]at p2
     have hpi:p<i:=by have:=(KE.1 p1).1;rw[KV]at this;omega
     rw[K4,KT hpi]at p1
     have hlp:(M9 C').getD p false=true:=by rw[ck C' m p (by omega)];exact PX p p2
     cases ha:iA (st.heap.length+q) ks (M9 C')with
     | none=>exact(ja ha p kp p1 (by rw[Li];exact hlp) p3).elim
     | some B' =>
      obtain⟨p',kp',r1,r2,r3,r4⟩:=eI ha
      have e:=rP Np p1 r1 (rK p3) (rK r3)
      subst e
      rw[p1]at r1
      cases r1
      rw[p4,r4]
   let sti:=de (ops.take m) st (ks.take i) (MR.getD i [])
   have Q8:∀(j:Nat) (B:am),sti.heap[j]?=some B→B=.dead∨(de (ops.take m) st ks (M9 C')).heap[j]?=some B:=by
     intro j B hB
     show B=.dead∨(st.heap++cM st.heap.length ks (M9 C'))[j]?=some B
     have Nf:(st.heap++cM st.heap.length (ks.take i) (MR.getD i []))[j]?=some B:=hB
     by_cases hj:j<st.heap.length
     ·rw[KL hj]at Nf ⊢;exact .inr Nf
     ·rw[KR (by omega)]at Nf ⊢
      generalize hjj:j-st.heap.length=q at Nf ⊢
      have PR:q<(ks.take i).length:=by
       have:=(KE.1 Nf).1
       rwa [cP]at this
      have PH:(ks.take i)[q]?=some ((ks.take i)[q]):=KF PR
      have hqi:q<i:=by rw[KV]at PR;omega
      have hkq2:ks[q]?=some ((ks.take i)[q]):=by rw[← PH,K4,KT hqi]
      rcases jb PH Nf with h0 | ⟨g1,g2,g3,g4⟩
      ·exact .inl h0
      ·refine .inr (rN hkq2 (by rw[ck C' m q (by omega)];exact PX q g1) (hthere q (by omega) g1 g2) g3 ?_)
       rw[hfillv q (by omega) g1]at g4
       exact g4
   have RJ:aK C S μ sti a' w:=by
    have h1:=hRL.weak (env:=sti.env) (fun s d hm=>.inr ?_)
    ·exact h1.heapTo Q8
    ·rcases LL.1 hm with hm | hm
     ·exact LC _ hm
     ·obtain⟨j,oj,kj,q1,q2,q3,q4,rfl⟩:=eJ hm
      have NB:j<i:=by
       have:=(KE.1 q2).1
       rw[KV]at this;omega
      refine Lx _ (kP j q1 (by rw[← q2,K4,KT NB]) ?_ q4)
      rw[ck C' m j (by omega)]
      exact PX j q3
   have hlenk:(cM st.heap.length (ks.take i) (MR.getD i [])).length=i:=by rw[cP,KV];omega
   have hsl:sti.heap.length=st.heap.length+i:=by
    show(st.heap++_).length=_
    rw[KN,hlenk]
   have RV:∀j,(M9 (C'.setIfInBounds i true)).getD j false=(if j=i then true else (M9 C').getD j false):=by
    intro j
    by_cases hj:j<m
    ·rw[ck _ m j hj,ck _ m j hj,aL _ _ _ QG]
    ·rw[oW _ m j (by omega),oW _ m j (by omega),KK (by omega)]
   have NW:∃k,ks[i]?=some k:=⟨_,KF (by omega)⟩
   obtain⟨ki,NW⟩:=NW
   have Sr:∀(q:Nat),ik (st.heap.length+q) ks (M9 (C'.setIfInBounds i true))=false→ik (st.heap.length+q) ks (M9 C')=false:=by
    intro q hq
    cases hd:ik (st.heap.length+q) ks (M9 C')
    ·rfl
    ·obtain⟨p,kp,p1,p2,p3⟩:=ng hd
     have:=qy (bs:=M9 (C'.setIfInBounds i true)) p1 (by rw[RV];split;rfl;exact p2) p3
     rw[this]at hq;cases hq
   have Q9:∀(q:Nat),ki.fil≠some (st.heap.length+q)→iA (st.heap.length+q) ks (M9 C')=iA (st.heap.length+q) ks (M9 (C'.setIfInBounds i true)):=by
    intro q hq
    refine pD (fun p kp p1 p2=>?_)
    rw[Li,RV,KK]
    rintro rfl
    rw[NW]at p1
    cases p1
    exact hq p2
   have Nb:ki.fil=none→∀(q:Nat) (B:am),(cM st.heap.length ks (M9 (C'.setIfInBounds i true)))[q]?=some B→B=.dead∨(q=i∧B=ki.b)∨(q≠i∧(cM st.heap.length ks (M9 C'))[q]?=some B∧ik (st.heap.length+q) ks (M9 (C'.setIfInBounds i true))=false):=by
    intro PS q B hB
    have PR:q<ks.length:=by
     have:=(KE.1 hB).1
     rwa [cP]at this
    have PH:ks[q]?=some ks[q]:=KF PR
    rcases jb PH hB with h0 | ⟨g1,g2,g3,g4⟩
    ·exact .inl h0
    by_cases e:q=i
    ·subst e
     rw[NW]at PH
     rcases g4 with ⟨_,g5⟩ | g5
     ·refine .inr (.inl ⟨rfl,?_⟩)
      rw[g5]
      simp only[KP]at PH
      rw[← PH]
     ·exfalso
      obtain⟨p,kp,p1,p2,p3,_⟩:=eI g5
      rw[Li,RV]at p2
      obtain⟨_,k2,_⟩:=gj Np p1 (rK p3)
      rw[Mv]at k2
      by_cases hpq:p=q
      ·subst hpq
       rw[NW]at p1
       cases p1
       rw[PS]at p3;cases p3
      ·rw[KK hpq]at p2
       have PZ:p<m:=by have:=(KE.1 p1).1;omega
       rw[ck C' m p PZ]at p2
       have:=Q7 p p2 PZ q k2
       rw[NC]at this;cases this
    ·refine .inr (.inr ⟨e,rN PH ?_ (Sr q g2) g3 ?_,g2⟩)
     ·have e2:=RV q
      rw[KK e]at e2
      rw[← e2];exact g1
     ·rw[Q9 q (by rw[PS];simp)];exact g4
   have Ra:∀(t:Nat),o.dst=some t→∀(S':Nat→Prop) (μ':Nat→Value) (u:Value) (w':World) (OL:List (Nat×D)) (H':List am),aK C S' μ' ⟨OL,H'⟩ (a'.put o.dst u) w'→(∀s d,(s,d)∈(de (ops.take m) st ks (M9 C')).env→s≠t→(s,d)∈OL)→(t,ki.d)∈OL →
     (∀(j:Nat) (B:am),(de (ops.take m) st ks (M9 (C'.setIfInBounds i true))).heap[j]?=some B→B=.dead∨H'[j]?=some B)→aK C S' μ' (de (ops.take m) st ks (M9 (C'.setIfInBounds i true))) (a'.put o.dst u) w':=by
    intro t Qp S' μ' u w' OL H' Nx he1 he2 hH
    have h2:=Nx.weak (env:=(de (ops.take m) st ks (M9 (C'.setIfInBounds i true))).env) (fun s d hm=>.inr ?_)
    ·exact h2.heapTo hH
    ·rcases LL.1 hm with hm | hm
     ·refine he1 s d (LC _ hm) ?_
      rintro rfl
      exact(iB hm).2 o (Lb (QR i o QH NT)) Qp
     ·obtain⟨j,oj,kj,q1,q2,q3,q4,rfl⟩:=eJ hm
      by_cases hj:j=i
      ·subst hj
       rw[NW]at q2;cases q2
       rw[QR j o QH NT]at q1;cases q1
       rw[Qp]at q4;cases q4
       exact he2
      ·rw[RV,KK hj]at q3
       refine he1 s kj.d (Lx _ (kP j q1 q2 q3 q4)) ?_
       rintro rfl
       exact hj (t7 Q6 j i oj o s q1 (QR i o QH NT) q4 Qp)
   have Ss:(de (ops.take m) st ks (M9 C')).heap.length=st.heap.length+ks.length:=by
    show(st.heap++cM st.heap.length ks (M9 C')).length=_
    rw[KN,cP]
   have RK:i<ks.length:=(KE.1 NW).1
   have RX:∀(t:Nat),o.dst=some t→t<C.nt→ki.fil=none→∀(S':Nat→Prop) (μ':Nat→Value) (u:Value) (w':World) (H':List am),aK C S' μ' ⟨(de (ops.take m) st ks (M9 C')).env,H'⟩ a' w'→H'=(de (ops.take m) st ks (M9 C')).heap.set (st.heap.length+i) ki.b→ah S' μ' w' ki.d u→aK C S' μ' (de (ops.take m) st ks (M9 (C'.setIfInBounds i true))) (a'.put o.dst u) w':=by
    intro t Qp htn PS S' μ' u w' H' Nx hH' hd
    subst hH'
    have h1:=Nx.put htn hd
    rw[← Qp]at h1
    refine Ra t Qp S' μ' u w' _ _ h1 (fun s d hm hs=>Lc _ (iE hm hs)) (Lg ..) (fun j B hB=>?_)
    show B=.dead∨((de (ops.take m) st ks (M9 C')).heap.set (st.heap.length+i) ki.b)[j]?=some B
    have Nf:(st.heap++cM st.heap.length ks (M9 (C'.setIfInBounds i true)))[j]?=some B:=hB
    by_cases Qq:j<st.heap.length
    ·rw[KL Qq]at Nf
     rw[KW (by omega)]
     refine .inr ?_
     show(st.heap++cM st.heap.length ks (M9 C'))[j]?=some B
     rw[KL Qq];exact Nf
    ·rw[KR (by omega)]at Nf
     rcases Nb PS _ B Nf with h1 | ⟨h1,rfl⟩ | ⟨h1,h2,_⟩
     ·exact .inl h1
     ·rw[show j=st.heap.length+i by omega,KY (by rw[Ss];omega)]
      exact .inr rfl
     ·rw[KW (by omega)]
      refine .inr ?_
      show(st.heap++cM st.heap.length ks (M9 C'))[j]?=some B
      rw[KR (by omega)];exact h2
   have N':(de (ops.take m) st ks (M9 C')).heap[st.heap.length+i]?=some .dead:=by
    show(st.heap++cM st.heap.length ks (M9 C'))[st.heap.length+i]?=some .dead
    rw[KR (by omega),Mv,kR _ _ _ _ _ NW,KK (by rw[hgi];simp)]
   have next:∀(S':Nat→Prop) (μ':Nat→Value) (u:Value) (w':World),aK C S' μ' (de (ops.take m) st ks (M9 (C'.setIfInBounds i true))) (a'.put o.dst u) w' →
     wpAnyIn (jP C.rd) 0 C.P .any ops.toArray (fun e a' w'=>∃I' S' μ',Q e I'∧aK C S' μ' I' a' w') (fuel+(ops.toArray.size-m)) (C'.setIfInBounds i true) (a'.put o.dst u) w' :=
    fun S' μ' u w' Nx=>ih _ _ S' μ' _ w' (hF.step OD ho NC hr u) Nx hu' hno'
   have Su:∀(S':Nat→Prop) (μ':Nat→Value) (w':World) (H':List am),o.dst=none→aK C S' μ' ⟨(de (ops.take m) st ks (M9 C')).env,H'⟩ a' w' →
     (∀(j:Nat) (B:am),(de (ops.take m) st ks (M9 (C'.setIfInBounds i true))).heap[j]?=some B→B=.dead∨H'[j]?=some B)→aK C S' μ' (de (ops.take m) st ks (M9 (C'.setIfInBounds i true))) a' w':=by
    intro S' μ' w' H' hdn Nx hH
    have h2:=Nx.weak (env:=(de (ops.take m) st ks (M9 (C'.setIfInBounds i true))).env) (fun s d hm=>.inr ?_)
    ·exact h2.heapTo hH
    ·rcases LL.1 hm with hm | hm
     ·exact LC _ hm
     ·obtain⟨j,oj,kj,q1,q2,q3,q4,rfl⟩:=eJ hm
      by_cases hj:j=i
      ·subst hj
       rw[QR j o QH NT]at q1;cases q1
       rw[hdn]at q4;cases q4
      ·rw[RV,KK hj]at q3
       exact Lx _ (kP j q1 q2 q3 q4)
   unfold wpOpIn
   simp only[ho]
   rcases hdsts i o QH NT with ⟨t,Qp,htn,hns⟩ | ⟨hdn,NR⟩
   rotate_left
   ·-- a store Pc fills
    have Rb:∀(S':Nat→Prop) (μ':Nat→Value) (w':World),aK C S' μ' (de (ops.take m) st ks (M9 (C'.setIfInBounds i true))) a' w' →
      wpAnyIn (jP C.rd) 0 C.P .any ops.toArray (fun e a' w'=>∃I' S' μ',Q e I'∧aK C S' μ' I' a' w') (fuel+(ops.toArray.size-m)) (C'.setIfInBounds i true) a' w':=by
     intro S' μ' w' Nx
     have Oi:a'.put o.dst undef=a':=by rw[hdn];rfl
     have h1:=next S' μ' undef w' (by rw[Oi];exact Nx)
     rw[Oi]at h1
     exact h1
    have NG:ki.fil=none→ki.b=.dead→∀(j:Nat) (B:am),(de (ops.take m) st ks (M9 (C'.setIfInBounds i true))).heap[j]?=some B→B=.dead∨(de (ops.take m) st ks (M9 C')).heap[j]?=some B:=by
     intro PS hbd j B hB
     have Nf:(st.heap++cM st.heap.length ks (M9 (C'.setIfInBounds i true)))[j]?=some B:=hB
     show B=.dead∨(st.heap++cM st.heap.length ks (M9 C'))[j]?=some B
     by_cases Qq:j<st.heap.length
     ·rw[KL Qq]at Nf ⊢;exact .inr Nf
     ·rw[KR (by omega)]at Nf ⊢
      rcases Nb PS _ B Nf with h1 | ⟨_,h1⟩ | ⟨_,h2,_⟩
      ·exact .inl h1
      ·rw[hbd]at h1;exact .inl h1
      ·exact .inr h2
    rcases Qo with ⟨hg,k,p,hq,hp,hk⟩ | ⟨hg,hk⟩
    ·rw[NW]at hk
     cases hk
     rw[KT (by rw[bJ RJ hg])]
     cases N0:o.op<;>rw[N0]at NR<;>try (cases NR)
     rename_i ty ad x
     rw[N0]at hq
     obtain⟨id,T,cs,Sl,f1,f2,f3⟩:=yo hq hp
     have f1':(de (ops.take m) st ks (M9 C')).heap[id]?=some (.var T cs):=(Q8 id _ f1).resolve_left (by simp)
     obtain⟨w',h1,h2⟩:=na hRL (RJ.eval ad) (RJ.eval x) (f3 _ f1') trivial
     have hr:(execOp a'.eval o).run C.P w=.ok .skip w':=by
      simp only[execOp,N0,KH,h1,KG,KZ]
     have Sv:ki.b=.var T Sl:=by rw[f2]
     have NY:ki.kl=some id:=by rw[f2]
     have hkf:ki.fil=some id:=by unfold Mk.fil;rw[Sv];exact NY
     obtain⟨k1,k2,_⟩:=gj Np NW NY
     refine Hw hnd ho ?_
     rw[hr,Oper.uponIn_skip,hdn]
     refine Rb S μ w' (Su S μ w' _ hdn h2 (fun j B hB=>?_))
     have Nf:(st.heap++cM st.heap.length ks (M9 (C'.setIfInBounds i true)))[j]?=some B:=hB
     have hidl:id<(de (ops.take m) st ks (M9 C')).heap.length:=(KE.1 f1').1
     by_cases Qq:j<st.heap.length
     ·rw[KL Qq]at Nf
      rw[KW (by omega)]
      refine .inr ?_
      show(st.heap++cM st.heap.length ks (M9 C'))[j]?=some B
      rw[KL Qq];exact Nf
     ·rw[KR (by omega)]at Nf
      generalize hjq:j-st.heap.length=q at Nf
      have hje:j=st.heap.length+q:=by omega
      have PR:q<ks.length:=by
       have:=(KE.1 Nf).1
       rwa [cP]at this
      have PH:ks[q]?=some ks[q]:=KF PR
      rcases jb PH Nf with h0 | ⟨g1,g2,g3,g4⟩
      ·exact .inl h0
      have hqi:q≠i:=fun e=>by
       subst e
       rw[NW]at PH
       simp only[KP]at PH
       rw[← PH,hkf]at g3;cases g3
      by_cases e:j=id
      ·refine .inr ?_
       rw[e,KY hidl]
       have hfi:iA (st.heap.length+q) ks (M9 (C'.setIfInBounds i true))=some B→B=ki.b:=fun g5=>by
        obtain⟨p',kp,p1,p2,p3,p4⟩:=eI g5
        have e3:=rP Np p1 NW (rK p3) (by rw[NY,← e,hje])
        subst e3
        rw[NW]at p1
        cases p1
        exact p4
       rcases g4 with ⟨g5,_⟩ | g5
       ·exact(ja g5 i ki NW (by rw[Li,RV,KT rfl]) (by rw[hkf,← e,hje])).elim
       ·rw[hfi g5,Sv]
      ·rw[KW (MP e)]
       refine .inr ?_
       show(st.heap++cM st.heap.length ks (M9 C'))[j]?=some B
       rw[KR (by omega),hjq]
       refine rN PH ?_ (Sr q g2) g3 ?_
       ·have e2:=RV q
        rw[KK hqi]at e2
        rw[← e2];exact g1
       ·rw[Q9 q (by rw[hkf,← hje];intro h;cases h;exact e rfl)];exact g4
    ·rw[NW]at hk
     cases hk
     rw[KK (by rw[bJ RJ hg];simp)]
     have h9:=Rb S μ w (Su S μ w _ hdn hRL (NG rfl rfl))
     refine⟨fun f _=>mf C.rd f,?_⟩
     rw[hdn]
     exact h9
   rcases Qo with ⟨hg,k,p,hq,hp,hk⟩ | ⟨hg,hk⟩
   ·rw[NW]at hk
    cases hk
    rw[KT (by rw[bJ RJ hg])]
    have RY:ki.b.live=true∨ki.kl.isSome=true→bj (st.heap.length+i) (de (ops.take m) st ks (M9 C')).env=true∧aP (st.heap.length+i) (de (ops.take m) st ks (M9 C')).heap=true:=by
     intro NJ
     obtain⟨f1,f2,f3⟩:=t6 N7 i _ ki (KF (show i<MR.length by omega)) NW NJ
     rw[Li]at f1 f2 f3
     have Pb:∀(j:Nat) (k:Mk),ks[j]?=some k→(M9 C').getD j false=true→D.free (st.heap.length+i) k.d=true∧am.free (st.heap.length+i) k.b=true:=by
      intro j k hkj hlj
      have hjm:j<m:=by have:=(KE.1 hkj).1;omega
      rw[ck C' m j hjm]at hlj
      rcases t5 f3 j _ k (KF (show j<MR.length by omega)) hkj with h1 | h1 | h1
      ·rw[Li]at h1;subst h1;rw[NC]at hlj;cases hlj
      ·exfalso
       have Sw:ops[j]?=some (ops[j]'(by omega)):=KF (by omega)
       have:=mD (ops:=ops) (MR:=MR) (m:=m) (ls:=C') (fun i o hl ho e he hb=>hF.closed i o hl (by simpa using ho) e he hb) (fun i o ho e he hb=>OD.top i o (by simpa using ho) e he hb) Qn (fun j o ho=>(RI j o ho).1) NA j _ hjm Sw
        (hF.closed j _ hlj (by simp)) i (by
         have e:MR.getD j []=MR[j]'(by omega):=by simp[List.getD,KF (show j<MR.length by omega)]
         rw[e];exact h1)
       rw[NC]at this;cases this
      ·exact h1
     refine⟨wO (fun s d hm=>?_),ni (fun j B hB=>?_)⟩
     ·rcases LL.1 hm with hm | hm
      ·exact cE f1 (iB hm).1
      ·obtain⟨j,oj,kj,q1,q2,q3,q4,rfl⟩:=eJ hm
       exact(Pb j kj q2 q3).1
     ·have Nf:(st.heap++cM st.heap.length ks (M9 C'))[j]?=some B:=hB
      by_cases Qq:j<st.heap.length
      ·rw[KL Qq]at Nf;exact b8 f2 Nf
      ·rw[KR (by omega)]at Nf
       generalize Pg:j-st.heap.length=q at Nf
       have PR:q<ks.length:=by
        have:=(KE.1 Nf).1
        rwa [cP]at this
       have PH:ks[q]?=some ks[q]:=KF PR
       rcases jb PH Nf with rfl | ⟨g1,_,_,g4⟩
       ·rfl
       ·rcases g4 with ⟨_,rfl⟩ | g5
        ·exact(Pb q _ PH g1).2
        ·obtain⟨p',kp,p1,p2,_,rfl⟩:=eI g5
         rw[Li]at p2
         exact(Pb p' kp p1 p2).2
    have hkill:∀(u:Value) (w':World) (Ph:Nat) (A0 B0:am),ki.kl=some Ph→sti.heap[Ph]?=some A0→A0.isArr=true→B0.isArr=true→w.grownBy w' (aA (μ Ph))→az S μ w' u B0→(∀b,bi u b→aA (μ Ph)=some b∨w.heap.size≤b) →
      ((ki.b=B0∧ki.d=.own sti.heap.length)∨∃(E sz:Nat) (α:Type) (enc:α→List V) (d:α) (l:List α),B0=.arr E sz enc d l∧ki.b=.dead∧ki.d=.v (.sl sz enc d l))→∃S' μ',aK C S' μ' (de (ops.take m) st ks (M9 (C'.setIfInBounds i true))) (a'.put o.dst u) w':=by
     intro u w' Ph A0 B0 NY hA0 hAa Qr OM G' MX hval
     obtain⟨k1,k2,_⟩:=gj Np NW NY
     have PS:ki.fil=none:=E4 (by
      rcases hval with ⟨e1,_⟩ | ⟨_,_,_,_,_,_,_,e1,_⟩
      ·exact .inl (by rw[e1];exact(am.isOwn_arr Qr))
      ·exact .inr e1)
     obtain⟨f1,f2⟩:=RY (.inr (by rw[NY];rfl))
     have RL:A0.live=true:=by cases A0<;>first | rfl | cases hAa
     have QS:B0.live=true:=by cases B0<;>first | rfl | cases Qr
     have RZ:(de (ops.take m) st ks (M9 C')).heap[Ph]?=some A0:=by
      refine(Q8 Ph A0 hA0).resolve_left (fun e=>?_)
      rw[e]at RL;cases RL
     have NF:Ph≠st.heap.length+i:=fun e=>by rw[e,N']at RZ;cases RZ;cases RL
     have h1:=hRL.alias RZ hAa N' f1 f2
     have hPl:st.heap.length+i<(de (ops.take m) st ks (M9 C')).heap.length:=by rw[Ss];omega
     have hidl:Ph<(de (ops.take m) st ks (M9 C')).heap.length:=(KE.1 RZ).1
     let H1:=((de (ops.take m) st ks (M9 C')).heap.set Ph .dead).set (st.heap.length+i) A0
     have hH1P:H1[st.heap.length+i]?=some A0:=KY (by rw[LF];exact hPl)
     have hH1:∀j,j≠st.heap.length+i→j≠Ph→H1[j]?=(de (ops.take m) st ks (M9 C')).heap[j]?:=fun j h1 h2=>by
      show(((de (ops.take m) st ks (M9 C')).heap.set Ph .dead).set (st.heap.length+i) A0)[j]?=_
      rw[KW (MP h1),KW (MP h2)]
     have hfH1:aP (st.heap.length+i) H1=true:=ni (fun j B hB=>by
      by_cases e1:j=st.heap.length+i
      ·rw[e1,hH1P]at hB;cases hB;cases A0<;>first | rfl | cases hAa
      ·by_cases e2:j=Ph
       ·subst e2
        have:H1[j]?=some .dead:=by
         show(((de (ops.take m) st ks (M9 C')).heap.set j .dead).set (st.heap.length+i) A0)[j]?=_
         rw[KW (MP e1),KY hidl]
        rw[this]at hB;cases hB;rfl
       ·rw[hH1 j e1 e2]at hB;exact b8 f2 hB)
     have h2:=h1.upd0 (id:=st.heap.length+i) (B:=B0) (row:=aA (μ Ph)) (u:=u) OM (fun k hk=>⟨A0,hH1P,RL,by rw[ao];exact .inl hk⟩) (by show _≤H1.length;simp[H1];omega) (G'.arrMu (am.isOwn_arr Qr)) MX (.inr ⟨f1,hfH1⟩) (jQ Qr)
     have QI:bc H1 (st.heap.length+i) B0=H1.set (st.heap.length+i) B0:=by
      unfold bc
      rw[KK (by
       intro hh;rw[KU]at hh
       have:H1.length=(de (ops.take m) st ks (M9 C')).heap.length:=by simp[H1]
       omega)]
     have R0:aK C S (aM (aM μ (st.heap.length+i) (μ Ph)) (st.heap.length+i) u) ⟨(de (ops.take m) st ks (M9 C')).env,H1.set (st.heap.length+i) B0⟩ a' w':=by rw[← QI];exact h2
     have MT:ah S (aM (aM μ (st.heap.length+i) (μ Ph)) (st.heap.length+i) u) w' (.own (st.heap.length+i)) u:=by
      have:=ah.own (S:=S) (μ:=aM (aM μ (st.heap.length+i) (μ Ph)) (st.heap.length+i) u) (w:=w') (st.heap.length+i)
      rwa [ao]at this
     have h3:=R0.put htn MT
     rw[← Qp]at h3
     have hH1l:H1.length=(de (ops.take m) st ks (M9 C')).heap.length:=by simp[H1]
     have Rc:∀(j:Nat) (B:am),(de (ops.take m) st ks (M9 (C'.setIfInBounds i true))).heap[j]?=some B→B=.dead∨(j=st.heap.length+i∧B=ki.b)∨(j≠st.heap.length+i∧H1[j]?=some B∧am.free (st.heap.length+i) B=true):=by
      intro j B hB
      have Nf:(st.heap++cM st.heap.length ks (M9 (C'.setIfInBounds i true)))[j]?=some B:=hB
      by_cases Qq:j<st.heap.length
      ·rw[KL Qq]at Nf
       have Rd:(de (ops.take m) st ks (M9 C')).heap[j]?=some B:=by
        show(st.heap++cM st.heap.length ks (M9 C'))[j]?=some B
        rw[KL Qq];exact Nf
       exact .inr (.inr ⟨by omega,by rw[hH1 j (by omega) (by omega)];exact Rd,b8 f2 Rd⟩)
      ·rw[KR (by omega)]at Nf
       rcases Nb PS _ B Nf with q1 | ⟨q1,rfl⟩ | ⟨q1,q2,q3⟩
       ·exact .inl q1
       ·exact .inr (.inl ⟨by omega,rfl⟩)
       ·have Rd:(de (ops.take m) st ks (M9 C')).heap[j]?=some B:=by
         show(st.heap++cM st.heap.length ks (M9 C'))[j]?=some B
         rw[KR (by omega)];exact q2
        have hjid:j≠Ph:=fun e=>by
         rw[show st.heap.length+(j-st.heap.length)=Ph by omega,qy (bs:=M9 (C'.setIfInBounds i true)) NW (by rw[RV,KT rfl]) (by rw[GE PS];exact NY)]at q3
         cases q3
        exact .inr (.inr ⟨by omega,by rw[hH1 j (by omega) hjid];exact Rd,b8 f2 Rd⟩)
     rcases hval with ⟨e1,e2⟩ | ⟨E,sz,α,enc,d,l,rfl,e1,e2⟩
     ·refine⟨_,_,Ra t Qp S _ u w' _ _ h3 (fun s d hm hs=>Lc _ (iE hm hs)) (by rw[e2,hsl];exact Lg ..) (fun j B hB=>?_)⟩
      rcases Rc j B hB with q1 | ⟨rfl,rfl⟩ | ⟨q1,q2,_⟩
      ·exact .inl q1
      ·refine .inr ?_
       rw[KY (by rw[hH1l];exact hPl),e1]
      ·refine .inr ?_
       rw[KW (MP q1)];exact q2
     ·have QT:(H1.set (st.heap.length+i) (am.arr E sz enc d l))[st.heap.length+i]?=some (am.arr E sz enc d l):=KY (by rw[hH1l];exact hPl)
      obtain⟨S3,h4⟩:=h3.freezeZ (id:=st.heap.length+i) (Z:=am.arr E sz enc d l) (z:=.sl (.sl sz enc d l)) QT rfl (db (h3.heap.box _ _ QT) (fun b hb=>.inl hb) (fun b hb=>.inr hb) h3.slt)
      refine⟨S3,_,Ra t Qp S3 _ u w' _ _ h4 (fun s d' hm hs=>?_) ?_ (fun j B hB=>?_)⟩
      ·have:=rQ (id:=st.heap.length+i) (x:=.sl (.sl sz enc d l)) (Lc (t,D.own (st.heap.length+i)) (iE (t:=t) hm hs))
       rwa [oL d' (cE f1 hm)]at this
      ·have:=rQ (id:=st.heap.length+i) (x:=.sl (.sl sz enc d l)) (Lg (a:=(t,D.own (st.heap.length+i))) (l:=pC (de (ops.take m) st ks (M9 C')).env t))
       have e:cj (st.heap.length+i) (.sl (.sl sz enc d l)) (.own (st.heap.length+i))=.v (.sl sz enc d l):=by simp[cj,Fz.own]
       rw[e2,← e]
       exact this
      ·rcases Rc j B hB with q1 | ⟨_,rfl⟩ | ⟨q1,q2,q3⟩
       ·exact .inl q1
       ·exact .inl e1
       ·refine .inr ?_
        show((bz (st.heap.length+i) (.sl (.sl sz enc d l)) (H1.set (st.heap.length+i) (am.arr E sz enc d l))).set (st.heap.length+i) .dead)[j]?=some B
        rw[KW (MP q1),fh,KW (MP q1),q2,Lj,tI B q3]
    rw[C0 hns]at hq
    refine Hw hnd ho (lK.uponIn (yq RJ.heap RJ.slt RJ.glob (fun x=>RJ.eval x) hq hp (R:=fun u w'=>∃S' μ',aK C S' μ' (de (ops.take m) st ks (M9 (C'.setIfInBounds i true))) (a'.put o.dst u) w') ?_) (fun u w' hex=>?_))
    ·rintro u w' (⟨NY,Oz,hc⟩ | ⟨Ph,A0,B0,NY,hA0,hAa,Qr,OM,G',MX,hval⟩)
     rotate_left
     ·exact hkill u w' Ph A0 B0 NY hA0 hAa Qr OM G' MX hval
     rcases hc with ⟨hbd,hd⟩ | ⟨obj,NJ,rfl,G',hd,MX⟩ | ⟨S2,μ1,u0,So,s1,s2,s3,G',hd,MX⟩
     ·-- no box
      refine⟨fun b=>S b∨(w.heap.size≤b∧b<w'.heap.size),μ,RX t Qp htn (rL NY) _ μ u w' (H':=(de (ops.take m) st ks (M9 C')).heap.set (st.heap.length+i) ki.b) ?_ rfl ?_⟩
      ·rw[hbd,wN N']
       exact hRL.grow Oz.os Oz.tape Oz.output Oz.size Oz.block (fun b hb=>.inl hb) (fun b hb=>hb.imp (fun h=>h) (fun h=>h.1)) (fun b hb=>by
        rcases hb with hb | hb
        ·exact LA (hRL.slt b hb) Oz.size
        ·exact hb.2)
      ·exact hd.stable (fun b hb hl=>hb.imp (fun h=>h) (fun h=>⟨h,hl⟩)) (fun _ _ _=>rfl) (KI _) (fun _ _=>rfl)
     ·-- a new box
      rw[hsl]at G' hd
      refine⟨S,aM μ (st.heap.length+i) u,RX t Qp htn (rL NY) S _ u _ (H':=bc (de (ops.take m) st ks (M9 C')).heap (st.heap.length+i) ki.b) ?_ ?_ hd⟩
      ·refine hRL.upd0 (LR w obj none) (fun k hk=>by cases hk) ?_ G' (fun b hb=>.inr (by rw[MX b hb];exact KI _)) ?_ (A4 NJ)
       ·have:=(KE.1 N').1;omega
       ·refine .inr ?_
        exact RY (.inl NJ)
      ·unfold bc
       rw[KK (by
        have:=(KE.1 N').1
        intro hh;rw[KU]at hh;omega)]
     ·-- a box Pc a call hands over
      rw[hsl]at hd
      have NJ:ki.b.live=true:=by cases Sv:ki.b<;>first | rfl | (rw[Sv]at So;cases So)
      refine⟨S2,aM μ (st.heap.length+i) u0,RX t Qp htn (rL NY) S2 _ u _ (H':=(de (ops.take m) st ks (M9 C')).heap.set (st.heap.length+i) ki.b) ?_ rfl hd⟩
      have hG:aK C S2 μ (de (ops.take m) st ks (M9 C')) a' w':=hRL.grow Oz.os Oz.tape Oz.output Oz.size Oz.block s1 s2 s3
      refine hG.addAt N' (RY (.inl NJ)).1 (RY (.inl NJ)).2 So G' (fun b hb=>?_)
      obtain⟨k1,k2⟩:=MX b hb
      refine⟨LO hRL.size k1,k2,fun j A hA la Oe=>?_⟩
      have:=(hRL.heap.box j A hA).lt la b Oe
      omega
    ·obtain⟨S',μ',Nx⟩:=hex
     exact next S' μ' u w' Nx
   ·rw[NW]at hk
    cases hk
    rw[KK (by rw[bJ RJ hg];simp)]
    refine⟨fun f _=>mf C.rd f,next S μ undef w (RX t Qp htn rfl S μ undef w (H':=(de (ops.take m) st ks (M9 C')).heap.set (st.heap.length+i) .dead) ?_ rfl (.tup [] #[] rfl (fun j y u hy _=>by simp at hy)))⟩
    rw[wN N']
    exact hRL
 have h0:aK C S μ (de (ops.take m) st ks (M9 (Array.replicate ops.toArray.size false))) a w.drew:=by
  have hd:aK C S μ st a w.drew:=hR.grow rfl rfl rfl (KI _) (fun _ _=>rfl) (fun _ h=>h) (fun _ h=>.inl h) hR.slt
  have hf:∀j,(M9 (Array.replicate ops.toArray.size false)).getD j false=false:=by
   intro j
   by_cases hj:j<m
   ·rw[ck _ m j hj];simp[Array.getD]
   ·exact oW _ m j (by omega)
  have h1:=hd.weak (env:=(de (ops.take m) st ks (M9 (Array.replicate ops.toArray.size false))).env) (fun s d hm=>.inr ?_)
  ·refine h1.heapTo (fun j B hB=>?_)
   have Nf:(st.heap++cM st.heap.length ks (M9 (Array.replicate ops.toArray.size false)))[j]?=some B:=hB
   by_cases hj:j<st.heap.length
   ·rw[KL hj]at Nf;exact .inr Nf
   ·rw[KR (by omega)]at Nf
    generalize hjj:j-st.heap.length=q at Nf
    have PR:q<ks.length:=by
     have:=(KE.1 Nf).1
     rwa [cP]at this
    rw[kR _ _ _ _ _ (KF PR),hf q,KK (by simp)]at Nf
    cases Nf
    exact .inl rfl
  ·rcases LL.1 hm with hm | hm
   ·exact(iB hm).1
   ·obtain⟨j,oj,kj,q1,q2,q3,q4,rfl⟩:=eJ hm
    rw[hf j]at q3;cases q3
 have key:=main m (Array.replicate ops.toArray.size false) (fun _=>undef) S μ a w.drew ?_ h0 (lP _ _ (by rw[M0];exact Qn)) (fun i _=>by simp[Array.getD])
 ·rw[show m+(ops.toArray.size-m)=ops.toArray.size from by rw[M0];omega]at key
  exact key
 ·have hf:∀k,(Array.replicate ops.toArray.size false).getD k false=true→False:=by
   intro k hk
   simp[Array.getD]at hk
  exact⟨by simp,fun i o h=>(hf i h).elim,rfl,rfl,fun _ _=>rfl,fun j t h=>(hf j h).elim⟩
theorem Ev.dw {id:Nat} {ops:List Oper} {st:St} {Q:Exit→St→Prop} (M7:List (Nat×Ov)) (m:Nat) (h:GI C.P C.nt ops M7 m st (fun Nt=>Q .normal Nt)):Ev C (.region id ops.toArray true) Q st:=by
 unfold GI at h
 obtain⟨MR,ks,NA,NY,_,_,hK,RI⟩:=yr (ops.take m) 0 [] [] rfl rfl h
 simp only[Li]at NA NY RI
 cases hb:GH C.nt ops m&&(iC st st.heap.length 0 MR ks MR ks&&jc st.heap.length MR ks)&&C.P.follows .mixedOrders with
 | false=>rw[hb]at hK;exact hK.elim
 | true =>
 rw[hb]at hK
 simp only[KD]at hb
 obtain⟨⟨hdw,N7,Np⟩,PG⟩:=hb
 unfold GH at hdw
 simp only[KD]at hdw
 obtain⟨⟨⟨⟨QF,OY⟩,Q5⟩,Q6⟩,PY⟩:=hdw
 have Qn:m≤ops.length:=by have:=(md OY).1;simpa using this
 have M0:ops.toArray.size=ops.length:=by simp
 obtain⟨htp,htq⟩:=qx _ _ _ _ hK
 refine fun a w S μ hR=>wpIn_region_any PG (zO M7 m (fun _=>false) Qn NA NY RI QF Q5 Q6 PY N7 Np PG (fun i hi RK j hj _=>(md OY).2 i hi (by rw[M0];exact RK) j (by omega)) ?_ a w S μ hR)
 clear hR
 intro C' S μ a' w hls hcl hRL hall N1
 have hall:∀i,i<m→C'.getD i false=true:=fun i hi=>hall i hi rfl
 have OD:EM ops.toArray rO a':=wg (wI QF (by simp[hRL.tsize]) rfl rfl)
 have hu:wb C' m=0:=by
  have:∀n,n≤m→wb C' n=0:=by
   intro n
   induction n with
   | zero=>intro _;rfl
   | succ n ihn=>intro PO;simp[wb,ihn (by omega),hall n (by omega)]
  exact this m (KI _)
 rw[hu,Li,← M0]
 refine uR OD OY (ops.toArray.size-m) m C' a' w (KI _) (by omega) (by rw[hls,M0]) hall N1 ?_
 have el:((List.range m).map fun j=>C'.getD j false)=List.replicate m true:=by
  apply Mw
  ·simp
  ·intro j h1 h2
   simp only[List.getElem_map,List.getElem_range,List.getElem_replicate]
   exact hall j (by simpa using h1)
 rw[el]at hRL
 have hl:=nc (Q:=fun e a' w'=>∃I' S' μ',Q e I'∧aK C S' μ' I' a' w') (ops.drop m) m _ S μ _ w _ hRL rfl htp (fun S' μ' a' w' Nx=>⟨_,S',μ',htq,Nx⟩)
 have e:=wpOpsIn_eq_wpListIn (F:=jP C.rd) (n:=0) (P:=C.P) (ops:=ops.toArray) (Q:=fun e a' w'=>∃I' S' μ',Q e I'∧aK C S' μ' I' a' w') (ops.drop m) m (fun j=>by simp)
 rw[K7]at e
 rw[M0,e]
 exact hl
theorem C5 {ops:List Oper} {Q:Exit→St→Prop} (M7:List (Nat×Ov)) (tab:qw) {I':St} (hnd:ops.all (fun o=>!cg o)=true) (he:dQ tab (List.replicate ops.length true)=some I') (hp:Bk C.P C.nt ops M7 tab tab) (hq:Q .normal I'):∀(fuel:Nat) (ls:List Bool) (C':Array Bool) (s:St) (S:Nat→Prop) (μ:Nat→Value) (a:Act) (w:World),fm ls=fuel→ls.length=ops.length→C'.size=ops.length→(∀i,C'.getD i false=ls.getD i false) →
   dQ tab ls=some s→aK C S μ s a w→wpAnyIn (jP C.rd) 0 C.P .any ops.toArray (fun e a' w'=>∃I' S' μ',Q e I'∧aK C S' μ' I' a' w') fuel C' a w:=by
 have M0:ops.toArray.size=ops.length:=by simp
 intro fuel
 induction fuel with
 | zero =>
  intro ls C' s S μ a w hf hl hls hg hs hR
  have hall:=rI hf
  have NI:=dH hall
  rw[hl]at NI
  refine⟨LX.2 (fun i hi=>?_),?_⟩
  ·obtain⟨h1,o,ho,_⟩:=(bB C' (by rw[hls,M0]) i).1 hi
   have NK:i<ops.length:=by simpa using(KQ.1 ho).1
   have hb:(List.replicate ops.length true).getD i false=true:=by simp[List.getD,LK,NK]
   rw[hg,NI,hb]at h1
   cases h1
  ·rw[NI,he]at hs
   cases hs
   exact⟨_,S,μ,hq,hR⟩
 | succ fuel ih =>
  intro ls C' s S μ a w hf hl hls hg hs hR
  have OE:=rH hp (oT hs)
  have Qs:ls.all id=false:=by
   cases hb:ls.all id
   ·rfl
   ·rw[dH hb]at hf
    simp[fm]at hf
  unfold vn at OE
  rw[KK (by rw[Qs];simp)]at OE
  have P0:∀i,i∈Region.ready .any ops.toArray C'↔i∈gg ops ls:=by
   intro i
   rw[bB C' (by rw[hls,M0]) i]
   unfold gg
   rw[Mz,LG]
   unfold GC
   constructor
   ·rintro⟨h1,o,ho,h2⟩
    have NT:ops[i]?=some o:=by simpa using ho
    refine⟨(KE.1 NT).1,?_⟩
    rw[← hg,h1,NT]
    simp only[Bool.not_false,L0,K2,Mn,Lf,K5]
    intro e he
    cases hb:Region.binds .any e
    ·exact .inl rfl
    ·exact .inr (by rw[← hg];exact h2 e he hb)
   ·rintro⟨h1,h2⟩
    rw[KD]at h2
    obtain⟨h2,h3⟩:=h2
    rw[KF h1]at h3
    refine⟨by rw[hg];simpa using h2,ops[i],by simp[KF h1],fun e he hb=>?_⟩
    simp only[K2,Mn,Lf,K5]at h3
    rcases h3 e he with h4 | h4
    ·rw[hb]at h4;cases h4
    ·rw[hg];exact h4
  have Re:∀i,i∈gg ops ls→tW C.P C.nt ops M7 tab ls s i:=by
   intro i hi
   cases hr:gg ops ls with
   | nil=>rw[hr]at hi;cases hi
   | cons j r =>
    rw[hr]at OE hi
    exact mC OE hi
  refine⟨fun Pq=>?_,fun i hi=>?_⟩
  ·exfalso
   cases hr:gg ops ls with
   | nil=>rw[hr]at OE;exact OE
   | cons j r =>
    have:j∈Region.ready .any ops.toArray C':=(P0 j).2 (by rw[hr];exact Lg ..)
    rw[Pq]at this
    cases this
  ·have hi2:=(P0 i).1 hi
   have NR:=Re i hi2
   obtain⟨NC,o,ho,_⟩:=(bB C' (by rw[hls,M0]) i).1 hi
   have NT:ops[i]?=some o:=by simpa using ho
   have M6:i<ops.length:=(KE.1 NT).1
   unfold tW at NR
   rw[NT]at NR
   simp only at NR
   generalize hsq:cG C.P C.nt ops M7 i [o] s=q at NR
   obtain⟨s1,p1⟩:=q
   simp only at NR
   split at NR
   ·rename_i s2 Pw
    obtain⟨Ou,PD⟩:=NR
    have next:∀S' μ' a' w',aK C S' μ' s1 a' w'→wpAnyIn (jP C.rd) 0 C.P .any ops.toArray (fun e a' w'=>∃I' S' μ',Q e I'∧aK C S' μ' I' a' w') fuel (C'.setIfInBounds i true) a' w':=by
     intro S' μ' a' w' Nx
     have Qt:=Nx.keep (s2.env.map (·.1))
     have e2:(⟨ka (s2.env.map (·.1)) s1.env,s1.heap⟩:St)=s2:=Ou
     rw[e2]at Qt
     refine ih (ls.set i true) (C'.setIfInBounds i true) s2 S' μ' a' w' ?_ (by simpa using hl) (by simpa using hls) ?_ Pw Qt
     ·have:=oU (ls:=ls) (i:=i) (by omega) (by rw[← hg];exact NC)
      omega
     ·intro j
      rw[aL _ _ _ (by omega)]
      split
      ·rename_i hj
       rw[hj]
       unfold List.getD
       rw[KY (show i<ls.length by omega)]
       rfl
      ·rename_i hj
       rw[hg]
       unfold List.getD
       rw[KW (by omega)]
    have hdef:cg o=false:=by
     rw[K2]at hnd
     have:=hnd o (Lb NT)
     simpa using this
    unfold cG at hsq
    unfold wpOpIn
    rw[ho]
    simp only
    split at hsq
    ·rename_i RM
     rw[KT (bJ hR RM)]
     generalize OO:l5 C.P C.nt (j8 M7 i) o s=q1 at hsq
     obtain⟨s1',p1'⟩:=q1
     simp only[cG,KJ]at hsq
     obtain⟨rfl,rfl⟩:=hsq
     exact qk hdef (kd hR OO PD.1 next)
    ·rename_i RM
     rw[KK (by rw[bJ hR RM];simp)]
     generalize OO:j9 C.nt s o.dst=q1 at hsq
     obtain⟨s1',p1'⟩:=q1
     simp only[cG,KJ]at hsq
     obtain⟨rfl,rfl⟩:=hsq
     refine⟨fun f _=>mf C.rd f,?_⟩
     unfold j9 at OO
     refine next S μ _ _ (hR.ePut OO PD.1 ?_).2
     exact .tup [] #[] rfl (fun j y u hy _=>by simp at hy)
    ·simp only[aF,KJ]at hsq
     rw[← hsq.2]at PD
     exact PD.elim
   ·exact NR.elim
def zP (tab:qw) (j:Nat):Bool:=tab.any (fun e=>!(e.1.getD j false))
def yu (ops:Array Oper) (m:Nat) (NO:Nat→Bool):Bool:=decide (m≤ops.size)&&(List.range ops.size).all fun k=>decide (k<m)||(List.range m).all fun j=>NO j||cf ops k j
theorem wP {ops:Array Oper} {m:Nat} {NO:Nat→Bool} (h:yu ops m NO=true):m≤ops.size∧∀k,m≤k→k<ops.size→∀j,j<m→NO j=false→cf ops k j=true:=by
 unfold yu at h
 simp only[KD,Lu,K2,LG,Lf]at h
 exact⟨h.1,fun k hk hkn j hj hl=>((h.2 k hkn).resolve_left (by omega) j hj).resolve_left (by rw[hl];simp)⟩
def mE (NO:Nat→Bool):Nat→List (List Bool)
 | 0=>[[]]
 | m+1=>match NO m with
  | true=>(mE NO m).map (·++[true])++(mE NO m).map (·++[false])
  | false=>(mE NO m).map (·++[true])
theorem rR {NO:Nat→Bool} (f:Nat→Bool):∀(m:Nat),(∀j,j<m→NO j=false→f j=true)→(List.range m).map f∈mE NO m
 | 0,_=>by simp[mE]
 | m+1,h=>by
  have ih:=rR f m (fun j hj=>h j (by omega))
  rw[List.range_succ,K8,mE]
  split
  ·rename_i hl
   cases hf:f m
   ·exact Lx _ (MM.2 ⟨_,ih,by simp[hf]⟩)
   ·exact LC _ (MM.2 ⟨_,ih,by simp[hf]⟩)
  ·rename_i hl
   exact MM.2 ⟨_,ih,by simp[h m (by omega) hl]⟩
def zQ (ops:List Oper) (ls:List Bool):Bool:=(List.range ls.length).all fun i=>!(ls.getD i false)||(match ops[i]? with | some o=>o.after.toList.all (fun e=>!Region.binds .any e||ls.getD e.on false) | none=>true)
def wQ (ops:List Oper) (m:Nat) (st:St) (ks:List Mk) (tab:qw):List (List Bool)→Prop
 | []=>True
 | l::r=>match zQ ops l with
  | true=>match dQ tab (l++List.replicate (ops.length-m) false)with
   | some s=>rG (de (ops.take m) st ks l) s=s∧wQ ops m st ks tab r
   | none=>False
  | false=>wQ ops m st ks tab r
theorem oX {ops:List Oper} {m:Nat} {st:St} {ks:List Mk} {tab:qw}:∀{r:List (List Bool)} {l:List Bool},wQ ops m st ks tab r→l∈r→zQ ops l=true→∃s,dQ tab (l++List.replicate (ops.length-m) false)=some s∧rG (de (ops.take m) st ks l) s=s
 | x::r,l,h,hm,hc=>by
  unfold wQ at h
  rcases Lv.1 hm with e | hm
  ·subst e
   rw[hc]at h
   simp only at h
   split at h
   ·rename_i s hs;exact⟨s,hs,h.1⟩
   ·exact h.elim
  ·split at h
   ·split at h
    ·exact oX h.2 hm hc
    ·exact h.elim
   ·exact oX h hm hc
def C6 (nt:Nat) (ops:List Oper) (m:Nat) (NO:Nat→Bool):Bool :=
 F9 ops.toArray rO ⟨Array.replicate nt undef,[]⟩&&yu ops.toArray m NO&&kS nt (ops.take m)&&t4 (ops.take m)&&ops.all (fun o=>!cg o)
def pZ (P:Program) (nt:Nat) (ops:List Oper) (M7:List (Nat×Ov)) (m:Nat) (tab:qw) (st:St) (k:St→Prop):Prop :=
 EO P ops (ops.take m) st M7 0 (ops.take m) [] [] fun MR ks =>
  match C6 nt ops m (zP tab)&&(iC st st.heap.length 0 MR ks MR ks&&jc st.heap.length MR ks)&&P.follows .mixedOrders,dQ tab (List.replicate ops.length true)with
  | true,some Nt=>wQ ops m st ks tab (mE (zP tab) m)∧Bk P nt ops M7 tab tab∧nS Nt k
  | _,_=>False
theorem pE (f:Nat→Bool) (C':Array Bool) (hf:∀j,f j=C'.getD j false):∀m,fm ((List.range m).map f)=wb C' m
 | 0=>rfl
 | m+1=>by
  have ih:=pE f C' hf m
  unfold fm at ih ⊢
  rw[List.range_succ,K8,List.filter_append,KN,ih,wb,← hf m,LD,Lk]
  cases f m<;>rfl
theorem Bn (l:List Bool) (n:Nat):fm (l++List.replicate n false)=fm l+n:=by
 unfold fm
 rw[List.filter_append,KN]
 congr 1
 rw[List.filter_eq_self.2 (fun x hx=>by rw[Ln hx];rfl),Ll]
theorem vq {ops:List Oper} {st:St} {Q:Exit→St→Prop} (M7:List (Nat×Ov)) (m:Nat) (tab:qw) (h:pZ C.P C.nt ops M7 m tab st (fun Nt=>Q .normal Nt)):C.P.follows .mixedOrders=true ∧
  ∀(a:Act) (w:World) (S:Nat→Prop) (μ:Nat→Value),aK C S μ st a w→wpAnyIn (jP C.rd) 0 C.P .any ops.toArray (fun e a' w'=>∃I' S' μ',Q e I'∧aK C S' μ' I' a' w') ops.toArray.size (Array.replicate ops.toArray.size false) a w.drew:=by
 unfold pZ at h
 obtain⟨MR,ks,NA,NY,_,_,hK,RI⟩:=yr (ops.take m) 0 [] [] rfl rfl h
 simp only[Li]at NA NY RI
 cases hb:C6 C.nt ops m (zP tab)&&(iC st st.heap.length 0 MR ks MR ks&&jc st.heap.length MR ks)&&C.P.follows .mixedOrders with
 | false=>rw[hb]at hK;exact hK.elim
 | true =>
 cases he:dQ tab (List.replicate ops.length true)with
 | none=>rw[hb,he]at hK;exact hK.elim
 | some Nt =>
 rw[hb,he]at hK
 simp only[KD]at hb
 obtain⟨⟨hdw,N7,Np⟩,PG⟩:=hb
 unfold C6 at hdw
 simp only[KD]at hdw
 obtain⟨⟨⟨⟨QF,OY⟩,Q5⟩,Q6⟩,PY⟩:=hdw
 have M0:ops.toArray.size=ops.length:=by simp
 obtain⟨Qn,htl⟩:=wP OY
 rw[M0]at Qn
 obtain⟨hj,htab,hend⟩:=hK
 rw[ke]at hend
 refine⟨PG,zO M7 m (zP tab) Qn NA NY RI QF Q5 Q6 PY N7 Np PG (fun i hi RK j hj hl=>htl i hi (by rw[M0];exact RK) j hj hl) ?_⟩
 intro C' S μ a' w hls hcl hRL hall N1
 have Nh:∀i,(((List.range m).map fun j=>C'.getD j false)++List.replicate (ops.length-m) false).getD i false=C'.getD i false:=by
  intro i
  by_cases hi:i<m
  ·rw[L5,KL (by simpa using hi),← L5]
   exact ck C' m i hi
  ·rw[L5,KR (by simpa using Nat.le_of_not_lt hi),LK,N1 i (by omega)]
   split<;>rfl
 have hclos:zQ ops ((List.range m).map fun j=>C'.getD j false)=true:=by
  unfold zQ
  simp only[K2,LG,KM,List.length_range,Lf,K5]
  intro i hi
  rw[ck C' m i hi]
  cases hl:C'.getD i false
  ·exact .inl rfl
  ·refine .inr ?_
   split
   ·rename_i o ho
    simp only[K2,Mn,Lf,K5]
    intro e hee
    cases QU:Region.binds .any e
    ·exact .inl rfl
    ·have hon:=hcl i o hl ho e hee QU
     have:e.on<m:=by
      refine Nat.lt_of_not_le fun hle=>?_
      rw[N1 e.on hle]at hon;cases hon
     exact .inr (by rw[ck C' m _ this];exact hon)
   ·rfl
 obtain⟨s,Nl,Pw⟩:=oX hj (rR (fun j=>C'.getD j false) m hall) hclos
 have Qt:=hRL.keep (s.env.map (·.1))
 have e2:(⟨ka (s.env.map (·.1)) (de (ops.take m) st ks ((List.range m).map fun j=>C'.getD j false)).env,(de (ops.take m) st ks ((List.range m).map fun j=>C'.getD j false)).heap⟩:St)=s:=Pw
 rw[e2]at Qt
 exact C5 (Q:=Q) M7 tab PY he htab hend _ _ C' s S μ a' w (by rw[Bn,pE _ C' (fun _=>rfl)]) (by simp;omega) hls (fun i=>(Nh i).symm) Nl Qt
theorem Ev.dwT {id:Nat} {ops:List Oper} {st:St} {Q:Exit→St→Prop} (M7:List (Nat×Ov)) (m:Nat) (tab:qw) (h:pZ C.P C.nt ops M7 m tab st (fun Nt=>Q .normal Nt)):Ev C (.region id ops.toArray true) Q st :=
 fun a w S μ hR=>wpIn_region_any (vq M7 m tab h).1 ((vq M7 m tab h).2 a w S μ hR)
def lL (i:Nat):List Nat→Nat
 | []=>0
 | x::r=>match Nat.beq x i with | true=>0 | false=>lL i r+1
def yv (π:List Nat) (o:Oper):Oper:=⟨o.dst,o.op,o.type,o.pos,(o.after.toList.map fun e=>⟨lL e.on π,e.ground⟩).toArray,none⟩
def ep (π:List Nat) (ops:List Oper):List Oper:=π.map fun i=>match ops[i]? with | some o=>yv π o | none=>default
def mG (π:List Nat) (ops:List Oper):Bool :=
 Nat.beq π.length ops.length&&((List.range ops.length).all (fun i=>(Nat.blt (lL i π) ops.length&&Nat.beq (π.getD (lL i π) 0) i)&&(Nat.blt (π.getD i 0) ops.length&&Nat.beq (lL (π.getD i 0) π) i))&&ops.all (fun o=>o.guard.isNone&&o.after.toList.all (fun e=>Nat.blt e.on ops.length)))
theorem C7 {F:Fence} {n:Nat} {P:Program} {Q:Exit→Act→World→Prop} {π:List Nat} {ops:List Oper} (OD:mG π ops=true):∀(fuel:Nat) (C' M2:Array Bool) (a:Act) (w:World),C'.size=ops.length→M2.size=ops.length →
  (∀i,i<ops.length→C'.getD i false=M2.getD (lL i π) false)→wpAnyIn F n P .any (ep π ops).toArray Q fuel M2 a w→wpAnyIn F n P .any ops.toArray Q fuel C' a w:=by
 unfold mG at OD
 simp only[KD,KU,K2,LG,Mq]at OD
 obtain⟨hL,hI,hO⟩:=OD
 have PF:(ep π ops).length=ops.length:=by unfold ep;rw[KM];exact hL
 have Nh:∀j,j<ops.length→π[j]?=some (π.getD j 0):=fun j hj=>by
  rw[L5,KF (by omega)];rfl
 have N0:∀i o,ops[i]?=some o→(ep π ops)[lL i π]?=some (yv π o):=fun i o ho=>by
  have hi:i<ops.length:=(KE.1 ho).1
  unfold ep
  rw[KX,Nh _ (hI i hi).1.1,(hI i hi).1.2,Lj,ho]
 intro fuel
 have P1:∀(C' M2:Array Bool),C'.size=ops.length→M2.size=ops.length→(∀i,i<ops.length→C'.getD i false=M2.getD (lL i π) false) →
   ∀i,i<ops.length→(i∈Region.ready .any ops.toArray C'↔lL i π∈Region.ready .any (ep π ops).toArray M2):=by
  intro C' M2 h1 h2 h3 i hi
  have hoi:ops[i]?=some ops[i]:=KF hi
  have Sw:=N0 i _ hoi
  rw[bB C' (by simpa using h1) i,bB M2 (by simpa[PF]using h2) (lL i π),h3 i hi]
  constructor
  ·rintro⟨q1,o,ho,q2⟩
   simp only[L1]at ho
   rw[hoi]at ho
   cases ho
   refine⟨q1,yv π ops[i],by rw[L1];exact Sw,fun e he hb=>?_⟩
   simp only[yv,List.mem_toArray,MM]at he
   obtain⟨e0,he0,rfl⟩:=he
   have M6:=(hO _ (Mx hi)).2 e0 he0
   rw[← h3 _ M6]
   exact q2 e0 (by simpa using he0) hb
  ·rintro⟨q1,o,ho,q2⟩
   simp only[L1]at ho
   rw[Sw]at ho
   cases ho
   refine⟨q1,ops[i],by rw[L1];exact hoi,fun e he hb=>?_⟩
   have he0:e∈ops[i].after.toList:=by simpa using he
   have M6:=(hO _ (Mx hi)).2 e he0
   rw[h3 _ M6]
   exact q2 ⟨lL e.on π,e.ground⟩ (by simp only[yv,List.mem_toArray,MM];exact⟨e,he0,rfl⟩) hb
 have Pq:∀(C' M2:Array Bool),C'.size=ops.length→M2.size=ops.length→(∀i,i<ops.length→C'.getD i false=M2.getD (lL i π) false) →
   Region.ready .any ops.toArray C'=[]→Region.ready .any (ep π ops).toArray M2=[]:=by
  intro C' M2 h1 h2 h3 hn
  refine LX.2 fun j hj=>?_
  obtain⟨_,o,ho,_⟩:=(bB M2 (by simpa[PF]using h2) j).1 hj
  have hjl:j<ops.length:=by
   have:=(KQ.1 ho).1
   simpa[PF]using this
  have:=(P1 C' M2 h1 h2 h3 (π.getD j 0) (hI j hjl).2.1).2 (by rw[(hI j hjl).2.2];exact hj)
  rw[hn]at this
  cases this
 induction fuel with
 | zero =>
  intro C' M2 a w h1 h2 h3 h
  refine⟨LX.2 fun i hi=>?_,h.2⟩
  obtain⟨_,o,ho,_⟩:=(bB C' (by simpa using h1) i).1 hi
  have RK:i<ops.length:=by
   have:=(KQ.1 ho).1
   simpa using this
  have:=(P1 C' M2 h1 h2 h3 i RK).1 hi
  rw[h.1]at this
  cases this
 | succ fuel ih =>
  intro C' M2 a w h1 h2 h3 h
  refine⟨fun hn=>h.1 (Pq C' M2 h1 h2 h3 hn),fun i hi=>?_⟩
  obtain⟨_,o,ho,_⟩:=(bB C' (by simpa using h1) i).1 hi
  have RK:i<ops.length:=by
   have:=(KQ.1 ho).1
   simpa using this
  have NT:ops[i]?=some o:=by simpa using ho
  have hh:=h.2 _ ((P1 C' M2 h1 h2 h3 i RK).1 hi)
  have Sw:=N0 i o NT
  have hg:o.guard=none:=by simpa using(hO o (Lb NT)).1
  have QI:∀k,k<ops.length→(C'.setIfInBounds i true).getD k false=(M2.setIfInBounds (lL i π) true).getD (lL k π) false:=by
   intro k hk
   rw[aL _ _ _ (by omega),aL _ _ _ (by rw[h2];exact(hI i RK).1.1)]
   by_cases e:k=i
   ·rw[KT e,e,KT rfl]
   ·rw[KK e,KK (fun e2=>e (by rw[← (hI k hk).1.2,e2,(hI i RK).1.2])),h3 k hk]
  have hK:∀a w,wpAnyIn F n P .any (ep π ops).toArray Q fuel (M2.setIfInBounds (lL i π) true) a w→wpAnyIn F n P .any ops.toArray Q fuel (C'.setIfInBounds i true) a w :=
   fun a w hq=>ih _ _ a w (by simpa using h1) (by simpa using h2) QI hq
  unfold wpOpIn at hh ⊢
  have e1:(ep π ops).toArray[lL i π]?=some (yv π o):=by rw[L1];exact Sw
  rw[e1]at hh
  rw[ho]
  have w1:Region.wanted (yv π o) (yielded (ep π ops).toArray a.tmps)=true:=rfl
  have w2:Region.wanted o (yielded ops.toArray a.tmps)=true:=by unfold Region.wanted;rw[hg]
  simp only[w1,w2,L9]at hh ⊢
  exact Oper.wpIn_mono (o:=o) hK hh
theorem Ev.dwTP {id:Nat} {ops:List Oper} {st:St} {Q:Exit→St→Prop} (M7:List (Nat×Ov)) (m:Nat) (tab:qw) (π:List Nat) (hπ:mG π ops=true) (h:pZ C.P C.nt (ep π ops) M7 m tab st (fun Nt=>Q .normal Nt)):Ev C (.region id ops.toArray true) Q st:=by
 obtain⟨PG,hany⟩:=vq M7 m tab h
 intro a w S μ hR
 have PF:(ep π ops).length=ops.length:=by
  unfold mG at hπ
  simp only[KD,KU]at hπ
  unfold ep;rw[KM];exact hπ.1
 have h1:=hany a w S μ hR
 rw[show(ep π ops).toArray.size=ops.toArray.size from by simp[PF]]at h1
 refine wpIn_region_any PG (C7 hπ _ _ _ a w.drew (by simp) (by simp) (fun i hi=>?_) h1)
 simp[Array.getD]
theorem t8 {P:Program} {nt:Nat} {ops:List Oper} {M7:List (Nat×Ov)} {m:Nat} {tab:qw} {st:St} {k k':St→Prop} (h:pZ P nt ops M7 m tab st k) (hk:∀st,k st→k' st):pZ P nt ops M7 m tab st k':=by
 unfold pZ at h ⊢
 refine nh (fun a b hq=>?_) _ _ _ _ h
 split at hq
 ·exact⟨hq.1,hq.2.1,by have:=hq.2.2;rw[ke]at this ⊢;exact hk _ this⟩
 ·exact hq.elim
end
end Go.Proofs.Ytgmpoenfoacofaa
