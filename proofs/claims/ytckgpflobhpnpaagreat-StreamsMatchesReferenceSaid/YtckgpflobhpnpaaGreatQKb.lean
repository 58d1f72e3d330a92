/-
  Walks on pure data: U5,rules,regions. Generic: over any program.
-/
import Derived.Test.YtckgpflobhpnpaaGreatQKa
namespace Go.Proofs.YtckgpflobhpnpaaGreat
open Go.RowKit
set_option linter.unusedVariables false
set_option linter.unusedSimpArgs false
inductive Ov:Type 1
 | none
 | val (d:D)
 | lift (d:D)
 | box (E:TypeId) (sz:Nat) {α:Type} (enc:α→List V) (d:α) (l:List α)
 | call (q':Option (List D)) (al:Bool) (r:D)
 | callr (id:Nat) (q':List D) (r:D)
 | frz (E:TypeId) (sz:Nat) {α:Type} (enc:α→List V) (d:α) (l:List α)
 | inl (r:D) (env:List (Nat×D)) (H:List ap)
 | inls (r:D)
 | yld (b:Bool) (env:List (Nat×D)) (H:List ap)
 | idx (i:Option Nat)
 | ent (d:D)
 | callg (q':Option (List D)) (al:Bool) (r:D)
 | ownc (q':Option (List D)) (r:D) (B:ap)
 | ownd (q':Option (List D)) (r:D) (B:ap)
 | apf (E sz:Nat) {α:Type} (enc:α→List V) (d:α) (l:List α)
 | mbox (t:TypeId) (ag:Bool) {α:Type} (enc:α→List V) (d:α) (l:List (ByteArray×α))
 | app (fz:Bool) (E sz:Nat) {α:Type} (enc:α→List V) (d:α) (l:List α)
 | cells (gs:List Nat) (cell:Nat→Nat→D)
def vo (H:List ap):D→Bool
 | .agg _=>false
 | .tup _=>false
 | .junk=>false
 | .own id=>match H[id]? with | some (.arr _ _ _ _ _)=>true | some (.ro _ _ _ _ _)=>true | some (.mpb _ _ _ _ _)=>true | some (.arrD _ _ _ _ _)=>true | _=>false
 | _=>true
abbrev R2:=St×Prop
def aV (st:St):R2:=(st,False)
def Ob:D→Option V
 | .v x=>some x
 | .nils=>some (.sl 0 (α:=Unit) (fun _=>[]) () [])
 | _=>none
def AR:List D→Option (List V)
 | []=>some []
 | d::r=>match Ob d,AR r with
  | some x,some xs=>some (x::xs)
  | _,_=>none
def vp:List (List D)→Option (List (List V))
 | []=>some []
 | d::r=>match AR d,vp r with
  | some x,some xs=>some (x::xs)
  | _,_=>none
def Kd:D→V→Prop
 | .v x,y=>D6 x y
 | .nils,.sl _ _ _ l=>l=[]
 | .nils,.nsl=>True
 | _,_=>False
def cg:List D→List V→Prop
 | [],[]=>True
 | d::ds,v::vs=>Kd d v∧cg ds vs
 | _,_=>False
def ai:List (List D)→List (List V)→Prop
 | [],[]=>True
 | d::ds,v::vs=>cg d v∧ai ds vs
 | _,_=>False
def pF (E sz:Nat) (L:List (List V)):Ov→ap×Prop
 | .box E' UR Up d' l'=>if Nat.beq E E'&&Nat.beq sz UR then (.arr E sz Up d' l',L=l'.map Up)else (.dead,False)
 | _=>(.arr E sz (α:=Nat) (fun i=>L.getD i []) 0 (List.range L.length),True)
def newBox (st:St) (nt:Nat) (dst:Option Nat) (B:ap) (d:D) (p:Prop):R2 :=
 match dst with
 | some t=>if Nat.blt t nt&&b9 st.heap.length st.env&&bQ st.heap.length st.heap then (⟨AN st.env t d,st.heap++[B]⟩,p)else aV st
 | none=>aV st
def eVar (nt:Nat) (st:St) (dst:Option Nat) (T:TypeId) (cs:List D):R2 :=
 if D.freeL st.heap.length cs then newBox st nt dst (.var T cs) (.ptr st.heap.length 0 0 0) True else aV st
def mJ (sz n i M':Nat) (new:List D) (Wu:List Nat) (cell Ub:Nat→Nat→D):Prop :=
 ∀i' j,i'<n→j<sz→Ub i' j=(if i'=i∧M'≤j∧j<M'+new.length then new.getD (j-M') .junk else cell i' j)∧∀id,Wu.all (fun g=>!(Nat.beq g id))=true→(Ub i' j).free id=true
def vq (P:Program) (st:St) (ov:Ov) (t:TypeId) (a x:D):R2 :=
 match a,jP st.heap x with
 | .ptr id i sz M',some new =>
  if cN P t&&Nat.beq new.length (aE P t)&&new.all (vo st.heap)then
   match st.heap[id]? with
   | some (.var T cs)=>if Nat.beq i 0&&Nat.ble (M'+new.length) cs.length then (⟨st.env,st.heap.set id (.var T (fM cs new M'))⟩,True)else aV st
   | some (.arr E UR enc d l)=>match AR new with
    | some nv=>if Nat.beq sz UR&&Nat.ble (M'+nv.length) sz then
      match pF E sz ((l.map enc).set i ((enc (l.getD i d)).take M'++nv++(enc (l.getD i d)).drop (M'+nv.length))) ov with
      | (B,p)=>(⟨st.env,st.heap.set id B⟩,i<l.length∧p)
     else aV st
    | none=>aV st
   | some (.arrD E UR n _ cell)=>match ov with
    | .cells Wu Ub=>if Nat.beq sz UR&&Nat.ble (M'+new.length) sz then (⟨st.env,st.heap.set id (.arrD E sz n Wu Ub)⟩,i<n∧mJ sz n i M' new Wu cell Ub)else aV st
    | _=>aV st
   | _=>aV st
  else aV st
 | _,_=>aV st
def pG (sz n:Nat) (cells:List D):List (List D):=(List.range n).map fun i=>(cells.drop (i*sz)).take sz
def sy (P:Program) (nt:Nat) (st:St) (ov:Ov) (dst:Option Nat) (t:TypeId) (len:Nat) (T6:List (Nat×D)):R2 :=
 match P.underlying t with
 | some (.slice E)=>match i5 P E with
  | some z=>if cN P E&&Nat.beq z.length (aE P E)&&Nat.ble 1 (aE P E)&&Nat.ble (len*aE P E) 4096 then
    match gT st.heap (fun i=>some (i*aE P E,aE P E)) (List.replicate len z).flatten T6 with
    | some cells=>match ov with
     | .box E' UR Up d' l'=>if Nat.beq E E'&&Nat.beq (aE P E) UR then newBox st nt dst (.arr E (aE P E) Up d' l') (.own st.heap.length) (ai (pG (aE P E) len cells) (l'.map Up))else aV st
     | .cells gs cell=>if gs.all (fun g=>Nat.blt g st.heap.length)&&cells.all (vo st.heap)then newBox st nt dst (.arrD E (aE P E) len gs cell) (.own st.heap.length) (∀i j,i<len→j<aE P E→cell i j=cells.getD (i*aE P E+j) .junk∧∀k,gs.all (fun g=>!(Nat.beq g k))=true→(cell i j).free k=true)else aV st
     | _=>match vp (pG (aE P E) len cells)with
      | some L=>newBox st nt dst (.arr E (aE P E) (α:=Nat) (fun i=>L.getD i []) 0 (List.range L.length)) (.own st.heap.length) True
      | none=>aV st
    | none=>aV st
   else aV st
  | none=>aV st
 | _=>aV st
def i8 (P:Program) (t:TypeId):Nat:=((P.info? t).map (·.bytes)).getD 0
def xy (P:Program) (nt:Nat) (st:St) (ov:Ov) (dst:Option Nat) (t:TypeId) (l c:D):R2 :=
 match P.underlying t,l,c with
 | some (.slice E),.v (.int _ n),.v (.int _ m)=>match i5 P E with
  | some z=>if cN P E&&Nat.beq z.length (aE P E)&&Nat.ble 1 (aE P E)&&Nat.ble (i8 P E) 1024 then
    match ov with
    | .box E' UR Up d' l'=>if Nat.beq E E'&&Nat.beq (aE P E) UR then newBox st nt dst (.arr E (aE P E) Up d' l') (.own st.heap.length) ((0≤n∧n≤m∧m≤137438953472)∧l'.length=n.toNat∧∀x∈l',cg z (Up x))else aV st
    | _=>aV st
   else aV st
  | none=>aV st
 | _,_,_=>aV st
def AU (H:List ap) (sz:Nat):D→Option (List (List V))
 | .v (.sl UR enc _ l)=>if Nat.beq sz UR then some (l.map enc)else none
 | .own id=>match H[id]? with
  | some (.arr _ UR enc _ l)=>if Nat.beq sz UR then some (l.map enc)else none
  | _=>none
 | .nils=>some []
 | .v .nsl=>some []
 | .v .esl=>some []
 | _=>none
def yV (P:Program) (nt:Nat) (st:St) (ov:Ov) (dst:Option Nat) (t:TypeId) (s x:D):R2 :=
 match P.underlying t with
 | some (.slice E)=>match i5 P E,AU st.heap (aE P E) x with
  | some z,some new=>if cN P E&&Nat.beq z.length (aE P E)&&Nat.ble 1 (aE P E)&&Nat.ble (i8 P E) 1024 then
    match s with
    | .own id=>match st.heap[id]?,dst with
     | some (.arr E' UR enc d l),some td=>if Nat.beq E E'&&Nat.beq UR (aE P E)&&Nat.blt td nt&&D.free id x then
       match pF E UR (l.map enc++new) ov with
       | (B,p)=>(⟨AN (ms id st.env) td (.own id),ck (cf id st.heap) id B⟩,l.length+new.length≤137438953472∧p)
      else aV st
     | _,_=>aV st
    | .nils=>match pF E (aE P E) new ov with
     | (B,p)=>newBox st nt dst B (.own st.heap.length) (new.length≤137438953472∧p)
    | .capd (.sl UR enc _ l)=>if Nat.beq UR (aE P E)then
      match pF E (aE P E) (l.map enc++new) ov with
      | (B,p)=>newBox st nt dst B (.own st.heap.length) (0<new.length∧l.length+new.length≤137438953472∧p)
     else aV st
    | _=>aV st
   else aV st
  | _,_=>aV st
 | _=>aV st
def PI (ag:Bool) (x:D):Option (List V):=if ag then (match x with | .agg ds=>AR ds | _=>none)else (Ob x).map fun v=>[v]
def yW (P:Program) (st:St) (ov:Ov) (t:TypeId) (m k x:D):R2:=aV st
def vt (P:Program) (nt:Nat) (st:St) (ov:Ov) (dst:Option Nat) (t:TypeId) (s x:D):R2 :=
 match P.underlying t,s,x,dst with
 | some (.slice E),.own id,.own iy,some td=>match i5 P E,st.heap[id]?,st.heap[iy]?,ov with
  | some z,some (.arrD E1 sz1 n _ cell),some (.arrD _ Ye m _ cell2),.cells Wu Ub =>
   if (cN P E&&Nat.beq z.length (aE P E)&&Nat.ble 1 (aE P E)&&Nat.ble (i8 P E) 1024)&&(Nat.beq E E1&&Nat.beq sz1 (aE P E)&&Nat.beq Ye (aE P E))&&Nat.blt td nt then
    (⟨AN (ms id st.env) td (.own id),ck (cf id st.heap) id (.arrD E (aE P E) (n+m) Wu Ub)⟩,n+m≤137438953472∧∀i j,i<n+m→j<aE P E→Ub i j=(if i<n then cell i j else cell2 (i-n) j)∧(Ub i j).free id=true∧∀k,Wu.all (fun g=>!(Nat.beq g k))=true→(Ub i j).free k=true)
   else aV st
  | _,_,_,_=>aV st
 | _,_,_,_=>aV st
def vu (P:Program) (nt:Nat) (st:St) (ov:Ov) (dst:Option Nat) (t:TypeId) (s x:D):R2:=aV st
def ePut (nt:Nat) (st:St) (dst:Option Nat) (d:D) (p:Prop):R2 :=
 match dst with
 | some t=>if Nat.blt t nt then (⟨AN st.env t d,st.heap⟩,p)else aV st
 | none=>(st,p)
def Eh (P:Program) (nt:Nat) (st:St) (dst:Option Nat) (t:TypeId) (x ix:D) (i:Option Nat):R2 :=
 match P.underlying t,x,ix with
 | some (.map K E),.v (.mp es),.v (.int k n)=>match P.underlying K,k with
  | some (.int .i64),.i64=>match i with
   | some j=>match es[j]? with
    | some e=>ePut nt st dst (.tup [D.ofVal e.2,.v (.bool true)]) (n=e.1∧∀e'∈es.take j,n≠e'.1)
    | none=>aV st
   | none=>match (P.info? E).bind (·.zero)with
    | some z=>ePut nt st dst (.tup [D.ofVal z,.v (.bool false)]) (∀e'∈es,n≠e'.1)
    | none=>aV st
  | _,_=>aV st
 | _,_,_=>aV st
def Oc (P:Program) (nt:Nat) (st:St) (dst:Option Nat) (t:TypeId) (x ix:D) (d:D):R2 :=
 match P.underlying t,x,ix with
 | some (.map K E),.v (.mp es),.v (.int k n)=>match P.underlying K,k with
  | some (.int .i64),.i64=>ePut nt st dst (.tup [d,.v (.bool true)]) (∃(j:Nat) (e:Int×Value),es[j]?=some e∧n=e.1∧(∀e'∈es.take j,n≠e'.1)∧p6 (D.ofVal e.2) d)
  | _,_=>aV st
 | _,_,_=>aV st
def gX (P:Program) (f:FuncId):Bool:=match P.funcs[f]? with
 | some fn=>!(fn.name == "runtime.NumGoroutine")&&!fn.body.isNone
 | none=>false
def qa:Option ap→Bool
 | some .dead=>true
 | _=>false
def Od (P:Program) (fn:Func) (r:D) (H:List ap):Exit→St→Prop
 | .normal,st=>gW P fn st∧p6 (iJ P fn st) r∧st.heap.take H.length=H
 | .ret,st=>gW P fn st∧p6 (iJ P fn st) r∧st.heap.take H.length=H
 | _,_=>False
def fO (P:Program) (g:FuncId) (ds:List D) (H:List ap) (r:D) (H':List ap):Prop :=
 ∃fn c,P.funcs[g]?=some fn∧fn.body=some c∧Nat.ble ds.length fn.ntmps=true ∧
  ∀C:kU,C.P=P→C.nt=fn.ntmps→C.rd=none→Ev C c (Od P fn r H') ⟨i7 0 ds,H⟩
def qN:Exit→LoopState
 | .normal=>.ready
 | _=>.done
def ut:Exit→Option Code
 | .ret=>some .ret
 | .exit i=>some (.exit i)
 | _=>none
def CQ:Exit→Option Bool
 | .normal=>some true
 | .ret=>some false
 | .exit _=>some false
 | _=>none
def yX (id l:Nat) (b:Bool) (H:List ap) (e:Exit) (st:St):Prop :=
 match st.heap[id]? with
 | some (.loop l' tm nt env ps q' bd _ _)=>l'=l∧CQ e=some b∧(st.heap.set id (.loop l' tm nt env ps q' bd (qN e) (ut e))).take H.length=H
 | _=>False
def CR (C:kU) (body:Code) (id l:Nat) (b:Bool) (H:List ap):Exit→St→Prop
 | .normal,st=>match st.heap[id]? with
  | some (.loop l' tm nt env ps q' bd .ready none)=>l'=l∧Ev C body (yX id l b H) ⟨st.env,st.heap.set id (.loop l' tm nt env ps q' bd .busy none)⟩
  | _=>False
 | _,_=>False
def qO (P:Program) (l nt:Nat) (assign body:Code) (st:St) (id:Nat) (b:Bool) (H:List ap):Prop :=
 ∀C:kU,C.P=P→C.nt=nt→C.rd=some l→Ev C assign (CR C body id l b H) st
def Ei:List Nat→List D→List (Nat×D)→List (Nat×D)
 | p::ps,d::ds,env=>Ei ps ds (AN env p d)
 | _,_,env=>env
def Hq (P:Program) (nt:Nat) (st:St) (dst:Option Nat) (g:FuncId) (ds:List D) (r:D) (env:List (Nat×D)) (H:List ap):R2 :=
 if gX P g&&b9 st.heap.length st.env&&bQ st.heap.length st.heap&&qa H[st.heap.length]? then
  ePut nt ⟨env,H⟩ dst r (∀tm:Array Value,fO P g ds (st.heap++[.frame tm st.env]) r (H.set st.heap.length (.frame tm env)))
 else aV st
def Ke (P:Program) (g:FuncId) (ds:List D) (H:List ap) (env:List (Nat×D)) (r:D):Prop:=∀tm:Array Value,fO P g ds (H++[.frame tm env]) r (H++[.frame tm env])
def Hr (P:Program) (nt:Nat) (st:St) (dst:Option Nat) (g:FuncId) (ds:List D) (r:D):R2 :=
 if gX P g&&b9 st.heap.length st.env&&bQ st.heap.length st.heap then ePut nt ⟨st.env,st.heap++[.dead]⟩ dst r (Ke P g ds st.heap st.env r)else aV st
theorem Hs {P:Program} {nt:Nat} {st T4:St} {dst:Option Nat} {g:FuncId} {ds:List D} {r:D} {p:Prop} (h:Hr P nt st dst g ds r=(T4,p)) (hp:p) :
  ∃p',Hq P nt st dst g ds r st.env (st.heap++[.dead])=(T4,p')∧p':=by
 unfold Hr at h
 unfold Hq
 have hd:qa (st.heap++[ap.dead])[st.heap.length]?=true:=by simp[qa]
 have hs:∀B,(st.heap++[ap.dead]).set st.heap.length B=st.heap++[B]:=by intro B;simp
 split at h
 ·rename_i hc
  rw[RH (by rw[hc,hd];rfl)]
  unfold ePut at h ⊢
  cases dst with
  | none =>
   simp only[RI]at h
   obtain⟨rfl,rfl⟩:=h
   exact⟨_,rfl,fun tm=>by rw[hs];exact hp _⟩
  | some t =>
   simp only at h ⊢
   split at h
   ·rename_i ht
    simp only[RI]at h
    obtain⟨rfl,rfl⟩:=h
    rw[RH ht]
    exact⟨_,rfl,fun tm=>by rw[hs];exact hp _⟩
   ·simp only[aV,RI]at h
    obtain⟨_,rfl⟩:=h
    exact hp.elim
 ·simp only[aV,RI]at h
  obtain⟨_,rfl⟩:=h
  exact hp.elim
def CT (P:Program) (nt:Nat) (st:St) (dst:Option Nat) (id:Nat) (ds:List D) (b:Bool) (env:List (Nat×D)) (H:List ap):R2 :=
 match st.heap[id]? with
 | some (.loop l tm ZB Y5 ps q' body .ready none) =>
  if b9 st.heap.length st.env&&bQ st.heap.length st.heap&&qa H[st.heap.length]?&&Nat.beq ps.length ds.length&&ps.all (fun p=>Nat.blt p ZB)then
   ePut nt ⟨env,H⟩ dst (.v (.bool b)) (∀tmF:Array Value,qO P l ZB q' body ⟨Ei ps ds Y5,st.heap++[.frame tmF st.env]⟩ id b (H.set st.heap.length (.frame tmF env)))
  else aV st
 | _=>aV st
def Ht (P:Program) (nt:Nat) (st:St) (ov:Ov) (dst:Option Nat) (f:D) (ds:List D):R2 :=
 match f with
 | .fn (.func g) first cap=>match ov with
  | .call q' al r=>if gX P g&&eV r&&(!al||fN (first++ds++cap))then
    ePut nt st dst r (p8 P g st.heap (first++ds++cap) q' al r)
   else aV st
  | .callr id q' r=>if gX P g&&eV r then ePut nt st dst r (ld P g st.heap (first++ds++cap) id q' r)else aV st
  | .callg q' al r=>if eV r&&(!al||fN (first++ds++cap))then
    ePut nt st dst r (gX P g=true∧p8 P g st.heap (first++ds++cap) q' al r)
   else aV st
  | .inl r env H=>Hq P nt st dst g (first++ds++cap) r env H
  | .inls r=>Hr P nt st dst g (first++ds++cap) r
  | .ownc q' r B=>if gX P g&&CM r&&b9 st.heap.length st.env&&bQ st.heap.length st.heap then
    ePut nt ⟨st.env,st.heap++[B]⟩ dst (r.up st.heap.length) (yU P g st.heap (first++ds++cap) q' r B)
   else aV st
  | .ownd q' r B=>if gX P g&&(CM r&&(B.isOwn&&fN (first++ds++cap)))&&b9 st.heap.length st.env&&bQ st.heap.length st.heap then
    ePut nt ⟨st.env,st.heap++[B]⟩ dst (r.up st.heap.length) (ur P g st.heap (first++ds++cap) q' r B)
   else aV st
  | _=>aV st
 | .yld id=>match ov with
  | .yld b env H=>CT P nt st dst id ds b env H
  | _=>aV st
 | _=>aV st
def vw (nt:Nat) (st:St) (ov:Ov) (dst:Option Nat) (r:R1):R2 :=
 match ov with
 | .val d'=>ePut nt st dst d' (r.2∧p6 r.1 d')
 | .lift d'=>ePut nt st dst d' (r.2∧xo r.1 d')
 | _=>ePut nt st dst r.1 r.2
def pH (P:Program) (nt:Nat) (ov:Ov) (o:Oper) (st:St):R2 :=
 match o.op with
 | .alloc T=>match i5 P T with
  | some z=>eVar nt st o.dst T z
  | none=>aV st
 | .box T x=>match jP st.heap (eX st.env x)with
  | some cs=>eVar nt st o.dst T cs
  | none=>aV st
 | .store t a x=>match o.dst with
  | none=>vq P st ov t (eX st.env a) (eX st.env x)
  | some _=>aV st
 | .buildSlice t len T6=>match ov with
  | .frz E sz enc d l=>match sy P nt st (.box E sz enc d l) o.dst t len (T6.toList.map fun p=>(p.1,eX st.env p.2))with
   | (UW,p)=>match ol st.heap.length UW with
    | some Yc=>(Yc,p)
    | none=>aV st
  | _=>sy P nt st ov o.dst t len (T6.toList.map fun p=>(p.1,eX st.env p.2))
 | .makeSlice t l c=>match ov with
  | .frz E sz enc d l'=>match xy P nt st (.box E sz enc d l') o.dst t (eX st.env l) (eX st.env c)with
   | (UW,p)=>match ol st.heap.length UW with
    | some Yc=>(Yc,p)
    | none=>aV st
  | _=>xy P nt st ov o.dst t (eX st.env l) (eX st.env c)
 | .call ⟨.builtin .append,args,Xr⟩=>match args.toList,Xr.toList with
  | [s,x],[t,t']=>if Nat.beq t t' then (match ov with | .apf _ _ _ _ _=>vu P nt st ov o.dst t (eX st.env s) (eX st.env x) | .cells _ _=>vt P nt st ov o.dst t (eX st.env s) (eX st.env x) | _=>yV P nt st ov o.dst t (eX st.env s) (eX st.env x))else aV st
  | _,_=>aV st
 | .call ⟨.value f,args,_⟩=>Ht P nt st ov o.dst (eX st.env f) (args.toList.map (eX st.env))
 | .lookup t x ix true=>match ov with
  | .idx i=>Eh P nt st o.dst t (eX st.env x) (eX st.env ix) i
  | .ent d=>Oc P nt st o.dst t (eX st.env x) (eX st.env ix) d
  | _=>vw nt st ov o.dst (gg P st.heap (eX st.env) o.op)
 | .makeMap t none=>match ov with
  | .mbox t' ag enc d _=>if Nat.beq t t' then newBox st nt o.dst (.mpb t ag enc d []) (.own st.heap.length) True else aV st
  | _=>aV st
 | .mapUpdate t m k x=>match o.dst with
  | none=>yW P st ov t (eX st.env m) (eX st.env k) (eX st.env x)
  | some _=>aV st
 | op=>vw nt st ov o.dst (gg P st.heap (eX st.env) op)
section
variable {C:kU} {S:Nat→Prop} {μ:Nat→Value} {st T4:St} {a:Act} {w w':World} {p:Prop}
theorem bc.newBox (h:bc C S μ st a w) {dst:Option Nat} {B:ap} {d:D} {q:Prop} (hp:newBox st C.nt dst B d q=(T4,p)) (G':p) (hg:w.grownBy w' none) {u:Value}
  (N':aH S (aZ μ st.heap.length u) w' u B) (Uj:∀b,bL u b→w.heap.size≤b) {v:Value} (hv:an S (aZ μ st.heap.length u) w' d v) (U9:B.isRo=false:=by rfl) :
  q∧bc C S (aZ μ st.heap.length u) T4 (a.put dst v) w':=by
 unfold Proofs.YtckgpflobhpnpaaGreat.newBox at hp
 split at hp
 ·split at hp
  ·rename_i t hc
   simp only[RA,TS]at hc
   simp only[RI]at hp
   obtain⟨rfl,rfl⟩:=hp
   refine⟨G',?_⟩
   have:=(h.upd (id:=st.heap.length) (B:=B) (u:=u) hg (fun k hk=>by cases hk) (RD _) N' (fun b hb=>.inr (Uj b hb)) (.inr ⟨fun A hA=>by simp at hA,hc.1.2,hc.2⟩) U9).put hc.1.1 hv
   rw[show ck st.heap st.heap.length B=st.heap++[B]from by simp[ck]]at this
   exact this
  ·simp only[aV,RI]at hp
   rw[← hp.2]at G'
   exact G'.elim
 ·simp only[aV,RI]at hp
  rw[← hp.2]at G'
  exact G'.elim
theorem bc.eVar (h:bc C S μ st a w) {dst:Option Nat} {T:TypeId} {cs:List D} {vs:Array Value} (hp:eVar C.nt st dst T cs=(T4,p)) (G':p) (hr:aM S μ w cs vs) :
  bc C S (aZ μ st.heap.length (.pointer (some ⟨w.heap.size,0,none⟩))) T4 (a.put dst (.pointer (some ⟨w.heap.size,0,none⟩))) (w.alloc (.cells vs T)):=by
 unfold Proofs.YtckgpflobhpnpaaGreat.eVar at hp
 split at hp
 ·rename_i hf
  have hg:=SW w (.cells vs T) none
  refine(h.newBox hp G' hg ⟨w.heap.size,vs,rfl,SF w _,hr.1,fun j y x hy hx=>?_⟩ (fun b hb=>by simp[bL,aI]at hb;omega) ?_).2
  ·refine(hr.2 j y x hy hx).stable (fun _ h _=>h) (fun b _ hb=>hg.block b hb (by simp)) hg.size (fun id Uh=>?_)
   refine aG _ _ (fun e=>?_)
   rw[e,D.freeL_get hf hy]at Uh
   cases Uh
  ·have:=an.ptr (S:=S) (μ:=aZ μ st.heap.length (.pointer (some ⟨w.heap.size,0,none⟩))) (w:=w.alloc (.cells vs T)) st.heap.length 0 0 0 w.heap.size (by rw[ay];rfl)
   simpa using this
 ·simp only[aV,RI]at hp
  rw[← hp.2]at G'
  exact G'.elim
theorem qP:∀{ds:List D} {xs:List V},AR ds=some xs→ds.length=xs.length∧∀(j:Nat) (x:V),xs[j]?=some x→∃d,ds[j]?=some d∧Ob d=some x
 | [],xs,h=>by
  simp only[AR,RM]at h
  subst h
  exact⟨rfl,fun j x hx=>by simp at hx⟩
 | d::r,xs,h=>by
  unfold AR at h
  split at h
  ·rename_i y ys hy hys
   simp only[RM]at h
   subst h
   obtain⟨h1,h2⟩:=qP hys
   refine⟨by simp[h1],fun j x hx=>?_⟩
   cases j with
   | zero=>simp at hx;subst hx;exact⟨d,rfl,hy⟩
   | succ j=>simpa using h2 j x (by simpa using hx)
  ·cases h
theorem Ej {d:D} {x:V} {u:Value} (h:Ob d=some x) (hd:an S μ w d u):dM S w x u:=by
 unfold Ob at h
 split at h
 ·cases h;exact bv hd
 ·cases h
  cases hd
  exact .nil _ _ _ _ _ (by simp[maxLen]) (fun _=>rfl)
 ·cases h
theorem mK {d:D} {x:V} {u:Value} (h:Kd d x) (hd:an S μ w d u):dM S w x u:=by
 unfold Kd at h
 split at h
 ·exact uj h (bv hd)
 ·subst h
  cases hd
  exact .nil _ _ _ _ _ (by simp[maxLen]) (fun _=>rfl)
 ·cases hd
  exact .nsl
 ·exact h.elim
theorem fC:∀{ds:List D} {xs:List V},cg ds xs→ds.length=xs.length∧∀(j:Nat) (x:V),xs[j]?=some x→∃d,ds[j]?=some d∧Kd d x
 | [],[],_=>⟨rfl,fun j x hx=>by simp at hx⟩
 | [],_::_,h=>h.elim
 | _::_,[],h=>h.elim
 | d::r,y::ys,h=>by
  obtain⟨h1,h2⟩:=fC h.2
  refine⟨by simp[h1],fun j x hx=>?_⟩
  cases j with
  | zero=>simp at hx;subst hx;exact⟨d,rfl,h.1⟩
  | succ j=>simpa using h2 j x (by simpa using hx)
theorem lf:∀{ds:List (List D)} {xs:List (List V)},ai ds xs→ds.length=xs.length∧∀(j:Nat) (x:List V),xs[j]?=some x→∃d,ds[j]?=some d∧cg d x
 | [],[],_=>⟨rfl,fun j x hx=>by simp at hx⟩
 | [],_::_,h=>h.elim
 | _::_,[],h=>h.elim
 | d::r,y::ys,h=>by
  obtain⟨h1,h2⟩:=lf h.2
  refine⟨by simp[h1],fun j x hx=>?_⟩
  cases j with
  | zero=>simp at hx;subst hx;exact⟨d,rfl,h.1⟩
  | succ j=>simpa using h2 j x (by simpa using hx)
theorem vx:∀{ds:List (List D)} {xs:List (List V)},vp ds=some xs→ds.length=xs.length∧∀(j:Nat) (x:List V),xs[j]?=some x→∃d,ds[j]?=some d∧AR d=some x
 | [],xs,h=>by
  simp only[vp,RM]at h
  subst h
  exact⟨rfl,fun j x hx=>by simp at hx⟩
 | d::r,xs,h=>by
  unfold vp at h
  split at h
  ·rename_i y ys hy hys
   simp only[RM]at h
   subst h
   obtain⟨h1,h2⟩:=vx hys
   refine⟨by simp[h1],fun j x hx=>?_⟩
   cases j with
   | zero=>simp at hx;subst hx;exact⟨d,rfl,hy⟩
   | succ j=>simpa using h2 j x (by simpa using hx)
  ·cases h
def gt (S:Nat→Prop) (w:World) (E sz:Nat) (L:List (List V)) (u:Value):Prop :=
 (∀(i:Nat) (x:List V),L[i]?=some x→x.length=sz)∧∃xs,w.ownsRow 0 E sz u L.length xs∧∀(i:Nat) (x:List V) (j:Nat) (y:V),L[i]?=some x→x[j]?=some y→∃z,xs[i*sz+j]?=some z∧dM S w y z
theorem gt.box {E sz:Nat} {L:List (List V)} {u:Value} (h:gt S w E sz L u) {α:Type} {enc:α→List V} {d:α} {l:List α} (he:L=l.map enc):aH S μ w u (.arr E sz enc d l):=by
 subst he
 obtain⟨h0,xs,h1,h2⟩:=h
 exact⟨fun i x hx=>h0 i _ (yQ hx),xs,by simpa using h1,fun i x j y hx hy=>h2 i _ j y (yQ hx) hy⟩
theorem gt.of {E sz:Nat} {u:Value} {α:Type} {enc:α→List V} {d:α} {l:List α} (h:aH S μ w u (.arr E sz enc d l)):gt S w E sz (l.map enc) u:=by
 obtain⟨h0,xs,h1,h2⟩:=h
 refine⟨fun i x hx=>?_,xs,by simpa using h1,fun i x j y hx hy=>?_⟩
 ·obtain⟨z,hz,rfl⟩:=eN hx
  exact h0 i z hz
 ·obtain⟨z,hz,rfl⟩:=eN hx
  exact h2 i z j y hz hy
theorem xz (L:List (List V)):(List.range L.length).map (fun i=>L.getD i [])=L:=by
 refine Tm (by simp) (fun i h1 h2=>?_)
 simp[List.getD,h2]
theorem oo {E sz:Nat} {L:List (List V)} {ov:Ov} {B:ap} {q:Prop} {u:Value} (h:pF E sz L ov=(B,q)) (hq:q) (hb:gt S w E sz L u):aH S μ w u B∧B.isArr=true:=by
 unfold pF at h
 split at h
 ·split at h
  ·rename_i hc
   simp only[RI]at h
   obtain⟨rfl,rfl⟩:=h
   exact⟨hb.box hq,rfl⟩
  ·cases h;exact hq.elim
 ·cases h;exact⟨hb.box (xz L).symm,rfl⟩
theorem Hu {H:List ap} (hH:bp S μ w H) {d:D} {u:Value} (h:vo H d=true) (hd:an S μ w d u):u.oneCell'=true:=by
 cases hd with
 | v x u h=>exact h.one
 | nils=>rfl
 | own id =>
  unfold vo at h
  simp only at h
  split at h
  ·rename_i E sz α enc d l hb
   obtain⟨p,c,hu,_⟩:=cD (hH.box id _ hb)
   rw[hu]
   rfl
  ·rename_i E sz α enc d l hb
   obtain⟨p,c,hu,_⟩:=cD (hH.box id _ hb).ro_arr
   rw[hu]
   rfl
  ·rename_i t ag α enc d l hb
   obtain⟨b,arr,clock,hu,_⟩:=hH.box id _ hb
   rw[hu]
   rfl
  ·rename_i E sz m gs cell hb
   obtain⟨p,c,hu,_⟩:=ft (hH.box id _ hb)
   rw[hu]
   rfl
  ·cases h
 | ptr=>rfl
 | capd=>rfl
 | gr _ _ _ _ _ _ h=>exact h
 | iptr=>rfl
 | agg=>cases h
 | tup=>cases h
 | fn=>rfl
 | yld=>rfl
 | junk=>cases h
theorem Ek {H:List ap} (hH:bp S μ w H) {cs:List D} {us:Array Value} (hr:aM S μ w cs us) (hall:cs.all (vo H)=true):∀z∈us.toList,z.oneCell'=true:=by
 intro z hz
 obtain⟨j,hj,e⟩:=Tf hz
 have Yd:j<us.size:=by simpa using hj
 have hc:j<cs.length:=by have:=hr.1;omega
 rw[R7]at hall
 exact Hu hH (hall _ (Tp hc)) (hr.2 j cs[j] z (RB hc) (by rw[← e];simp[Yd]))
end
end Go.Proofs.YtckgpflobhpnpaaGreat
namespace Go.Proofs.YtckgpflobhpnpaaGreat
open Go.RowKit
set_option linter.unusedVariables false
set_option linter.unusedSimpArgs false
section
variable {C:kU} {S:Nat→Prop} {μ:Nat→Value} {st T4:St} {a:Act} {w w':World} {p:Prop}
theorem fP (w:World) (g:Nat) (cs:Array Value):w.grownBy (w.setRow g cs) (some g) :=
 ⟨rfl,rfl,rfl,by simp[World.setRow],fun k _ hk=>setRow_other w g k _ (fun e=>hk (by rw[e]))⟩
theorem iX (μ:Nat→Value) (id:Nat):aZ μ id (μ id)=μ:=by
 funext i
 unfold aZ
 split
 ·rename_i h;rw[h]
 ·rfl
theorem gY {α:Type _} (cs new:List α) (M' j:Nat) (ho:M'+new.length≤cs.length) :
  (cs.take M'++new++cs.drop (M'+new.length))[j]?=if M'≤j∧j<M'+new.length then new[j-M']? else cs[j]?:=by
 by_cases hc:M'≤j∧j<M'+new.length
 ·rw[RH hc,RP (by simp;omega),RT (by simp;omega)]
  congr 1
  simp
  omega
 ·rw[RE hc]
  by_cases hj:j<M'
  ·rw[RP (by simp;omega),RP (by simp;omega),R8,RH hj]
  ·rw[RT (by simp;omega),SV]
   simp only[RV,RZ]
   rw[show M'+new.length+(j-(min M' cs.length+new.length))=j from by omega]
theorem qQ (h:bc C S μ st a w) {ov:Ov} {t:TypeId} {ad x:D} {uad ux:Value} (had:an S μ w ad uad) (hx:an S μ w x ux) (hp:vq C.P st ov t ad x=(T4,p)) (G':p) :
  ∃w',(Instr.storeAt t uad ux).run C.P w=.ok () w'∧bc C S μ T4 a w':=by
 unfold vq at hp
 split at hp
 ·rename_i id i sz M' new UE
  split at hp
  ·rename_i hc
   simp only[RA,RY]at hc
   obtain⟨⟨hk,hl⟩,V2⟩:=hc
   obtain⟨b,hb,rfl⟩:=oe had
   have US:=iG h.heap hx UE
   have Yf:=Ek h.heap US V2
   have Uo:∀(UH:Array Value) (T:TypeId),w.heap[b]?=some (.cells UH T (0,0))→i*sz+M'+new.length≤UH.size →
     (Instr.storeAt t (.pointer (some ⟨b,i*sz+M',none⟩)) ux).run C.P w=.ok () (w.setRow b (UH.toList.take (i*sz+M')++ux.cells.toList++UH.toList.drop (i*sz+M'+ux.cells.toList.length)).toArray):=by
    intro UH T XO UF
    have Uz:=run_storeCells_at C.P b (i*sz+M') T ux.cells.toList 0 UH w XO (by simp[US.1];exact UF) Yf
    simp only[SY]at Uz
    simp only[Instr.storeAt,Instr.sureAddr,RG,R5,RF]
    unfold storeVar
    simp only[RG,d9 hk,RF]
    rw[RE (by rw[US.1,hl];simp)]
    exact Uz
   split at hp
   ·rename_i T cs N'
    split at hp
    ·rename_i hc
     simp only[RA,RY,SM]at hc
     obtain⟨rfl,UF⟩:=hc
     simp only[RI]at hp
     obtain⟨rfl,_⟩:=hp
     obtain⟨b',vs,hm,q1,q2,q3⟩:=h.heap.box id _ N'
     have hbb:b'=b:=by rw[hm]at hb;simpa[bL,aI]using hb
     subst hbb
     refine⟨_,Uo vs T q1 (by omega),?_⟩
     simp only[Nat.zero_mul,Sp]
     have Uh:id<st.heap.length:=(Rz.1 N').1
     have hu:=h.upd (id:=id) (u:=μ id) (B:=.var T (fM cs new M')) (row:=some b') (fP w b' (vs.toList.take M'++ux.cells.toList++vs.toList.drop (M'+ux.cells.toList.length)).toArray)
      (fun k hk=>⟨_,N',rfl,by cases hk;exact .inl hb⟩) (by omega) ?_ (fun k hk=>.inl (hk.one hb)) (.inl ⟨rfl,.inl rfl⟩)
     ·rw[iX]at hu
      have he:ck st.heap id (.var T (fM cs new M'))=st.heap.set id (.var T (fM cs new M')):=by
       unfold ck
       rw[RE (by rw[RY];omega)]
      rwa [he]at hu
     ·rw[iX]
      refine⟨b',_,hm,setRow_heap w b' vs _ T (0,0) q1,?_,fun j y z hy hz=>?_⟩
      ·have:=US.1
       simp only[TN,RV,RZ,Sd,TQ,fM]
       omega
      ·have Ul:=US.1
       simp only[List.getElem?_toArray]at hz
       rw[gY _ _ _ _ (by simp;omega)]at hz
       unfold fM at hy
       rw[gY _ _ _ _ UF]at hy
       have hS:∀k,S k→k<w.heap.size→(w.setRow b' (vs.toList.take M'++ux.cells.toList++vs.toList.drop (M'+ux.cells.toList.length)).toArray).heap[k]?=w.heap[k]?:=fun k hk _ =>
        setRow_other w b' k _ (fun e=>h.heap.notS id _ b' N' rfl (.inl hb) (e ▸ hk))
       have hss:w.heap.size≤(w.setRow b' (vs.toList.take M'++ux.cells.toList++vs.toList.drop (M'+ux.cells.toList.length)).toArray).heap.size:=by simp[World.setRow]
       by_cases hcj:M'≤j∧j<M'+new.length
       ·rw[RH hcj]at hy
        rw[RH (by simp;omega)]at hz
        exact(US.2 _ _ _ hy (by simpa using hz)).stable (fun _ h _=>h) hS hss (fun _ _=>rfl)
       ·rw[RE hcj]at hy
        rw[RE (by simp;omega)]at hz
        exact(q3 _ _ _ hy (by simpa using hz)).stable (fun _ h _=>h) hS hss (fun _ _=>rfl)
    ·cases hp;exact G'.elim
   ·rename_i E UR α enc d l N'
    split at hp
    ·rename_i nv hnv
     split at hp
     ·rename_i hc
      simp only[RA,RY,SM]at hc
      obtain⟨rfl,UF⟩:=hc
      generalize hq:pF E sz ((l.map enc).set i ((enc (l.getD i d)).take M'++nv++(enc (l.getD i d)).drop (M'+nv.length))) ov=q at hp
      obtain⟨B,q⟩:=q
      simp only[RI]at hp
      obtain⟨rfl,rfl⟩:=hp
      obtain⟨hi,ZV⟩:=G'
      obtain⟨r0,xs,r1,r2⟩:=h.heap.box id _ N'
      have hnvl:=(qP hnv).1
      have hx0:l[i]?=some (l.getD i d):=by rw[dF _ _ hi];exact RB hi
      have YC:=r0 i _ hx0
      have ZW:(i+1)*sz≤l.length*sz:=R9 _ hi
      rw[SL]at ZW
      obtain⟨g,cap,UH,hm,-,hh,hn,WN,hcs,WB⟩:∃g cap UH,μ id=.slice (some ⟨g,0,none⟩) l.length cap∧0≤g∧w.heap[g]?=some (.cells UH E (0,0))∧l.length≤cap∧cap≤maxLen∧UH.size=cap*sz∧UH.toList.take (l.length*sz)=xs:=by
       rcases r1.2 with ⟨_,h0⟩ | h1
       ·omega
       ·exact h1
      have hgb:g=b:=by rw[hm]at hb;simpa[bL,aI]using hb
      subst hgb
      have XP:l.length*sz≤cap*sz:=R9 _ hn
      refine⟨_,Uo UH E hh (by omega),?_⟩
      have Uh:id<st.heap.length:=(Rz.1 N').1
      have Ul:=US.1
      have hfit':i*sz+M'+new.length≤UH.size:=by omega
      generalize UA:(UH.toList.take (i*sz+M')++ux.cells.toList++UH.toList.drop (i*sz+M'+ux.cells.toList.length))=row
      have V3:∀j,row[j]?=if i*sz+M'≤j∧j<i*sz+M'+new.length then ux.cells[j-(i*sz+M')]? else UH[j]?:=by
       intro j
       rw[← UA,gY _ _ _ _ (by simp;omega)]
       simp[Ul]
      have V4:row.length=UH.size:=by
       rw[← UA]
       simp only[RV,RZ,Sd,TQ]
       omega
      have hS:∀k,S k→k<w.heap.size→(w.setRow g row.toArray).heap[k]?=w.heap[k]?:=fun k hk _ =>
       setRow_other w g k _ (fun e=>h.heap.notS id _ g N' rfl (.inl hb) (e ▸ hk))
      have hss:w.heap.size≤(w.setRow g row.toArray).heap.size:=by simp[World.setRow]
      have hA:gt S (w.setRow g row.toArray) E sz ((l.map enc).set i ((enc (l.getD i d)).take M'++nv++(enc (l.getD i d)).drop (M'+nv.length))) (μ id):=by
       refine⟨fun k x hx=>?_,row.take (l.length*sz),?_,fun k x j y hx hy=>?_⟩
       ·by_cases Vy:i=k
        ·subst Vy
         rw[RR (by simpa using hi)]at hx
         cases hx
         simp only[RV,RZ,Sd]
         omega
        ·rw[RQ Vy]at hx
         obtain⟨z,hz,rfl⟩:=eN hx
         exact r0 k z hz
       ·simp only[Sw,RJ]
        refine⟨by rw[RZ,V4];omega,.inr ⟨g,cap,row.toArray,hm,Su _,setRow_heap w g UH _ E (0,0) hh,hn,WN,by simp[V4,hcs],by simp⟩⟩
       ·have V8:k<l.length:=by
         have:=(Rz.1 hx).1
         simpa using this
        have WY:(k+1)*sz≤l.length*sz:=R9 _ V8
        rw[SL]at WY
        have old:∀(z:α) (j:Nat) (y:V),l[k]?=some z→(enc z)[j]?=some y→¬(i*sz+M'≤k*sz+j∧k*sz+j<i*sz+M'+new.length) →
          ∃u,(row.take (l.length*sz))[k*sz+j]?=some u∧dM S (w.setRow g row.toArray) y u:=by
         intro z j y hz hy U'
         obtain⟨u,hu,hr⟩:=r2 k z j y hz hy
         have hj:=(Rz.1 hy).1
         have VA:=r0 k z hz
         refine⟨u,?_,hr.stable (fun _ h _=>h) hS hss⟩
         rw[R8,RH (by omega),V3,RE U']
         rw[← WB,R8,RH (by omega)]at hu
         simpa using hu
        by_cases Vy:i=k
        ·subst Vy
         rw[RR (by simpa using hi)]at hx
         cases hx
         rw[gY _ _ _ _ (by omega)]at hy
         by_cases hcj:M'≤j∧j<M'+nv.length
         ·rw[RH hcj]at hy
          obtain⟨d',hd',htv⟩:=(qP hnv).2 _ _ hy
          have hju:j-M'<ux.cells.size:=by omega
          refine⟨ux.cells[j-M'],?_,?_⟩
          ·rw[R8,RH (by omega),V3,RH (by omega),show i*sz+j-(i*sz+M')=j-M' from by omega]
           exact R0 hju
          ·exact(Ej htv (US.2 _ _ _ hd' (R0 hju))).stable (fun _ h _=>h) hS hss
         ·rw[RE hcj]at hy
          exact old _ j y hx0 hy (by omega)
        ·rw[RQ Vy]at hx
         obtain⟨z,hz,rfl⟩:=eN hx
         have hj:=(Rz.1 hy).1
         have VA:=r0 k z hz
         refine old z j y hz hy ?_
         rintro⟨c1,c2⟩
         rcases Nat.lt_or_ge k i with Un | hge
         ·have:(k+1)*sz≤i*sz:=R9 _ Un
          rw[SL]at this
          omega
         ·have:(i+1)*sz≤k*sz:=R9 _ (by omega)
          rw[SL]at this
          omega
      obtain⟨hB,Ya⟩:=oo (μ:=μ) hq ZV hA
      have hu:=h.upd (id:=id) (u:=μ id) (B:=B) (row:=some g) (fP w g row.toArray)
       (fun k hk=>⟨_,N',rfl,by cases hk;exact .inl hb⟩) (by omega) (by rw[iX];exact hB) (fun k hk=>.inl (hk.one hb)) (.inl ⟨rfl,.inr ⟨_,N',rfl⟩⟩) (mD Ya)
      rw[iX]at hu
      have he:ck st.heap id B=st.heap.set id B:=by
       unfold ck
       rw[RE (by rw[RY];omega)]
      rwa [he]at hu
     ·cases hp;exact G'.elim
    ·cases hp;exact G'.elim
   ·rename_i E UR n gs cell N'
    split at hp
    ·rename_i Wu Ub
     split at hp
     ·rename_i hc
      simp only[RA,RY,SM]at hc
      obtain⟨rfl,UF⟩:=hc
      simp only[RI]at hp
      obtain⟨rfl,rfl⟩:=hp
      obtain⟨hi,Uz⟩:=G'
      obtain⟨r0,xs,r1,r2⟩:=h.heap.box id _ N'
      have ZW:(i+1)*sz≤n*sz:=R9 _ hi
      rw[SL]at ZW
      obtain⟨g,cap,UH,hm,-,hh,hn,WN,hcs,WB⟩:∃g cap UH,μ id=.slice (some ⟨g,0,none⟩) n cap∧0≤g∧w.heap[g]?=some (.cells UH E (0,0))∧n≤cap∧cap≤maxLen∧UH.size=cap*sz∧UH.toList.take (n*sz)=xs:=by
       rcases r1.2 with ⟨_,h0⟩ | h1
       ·omega
       ·exact h1
      have hgb:g=b:=by rw[hm]at hb;simpa[bL,aI]using hb
      subst hgb
      have XP:n*sz≤cap*sz:=R9 _ hn
      refine⟨_,Uo UH E hh (by omega),?_⟩
      have Uh:id<st.heap.length:=(Rz.1 N').1
      have Ul:=US.1
      have hfit':i*sz+M'+new.length≤UH.size:=by omega
      generalize UA:(UH.toList.take (i*sz+M')++ux.cells.toList++UH.toList.drop (i*sz+M'+ux.cells.toList.length))=row
      have V3:∀j,row[j]?=if i*sz+M'≤j∧j<i*sz+M'+new.length then ux.cells[j-(i*sz+M')]? else UH[j]?:=by
       intro j
       rw[← UA,gY _ _ _ _ (by simp;omega)]
       simp[Ul]
      have V4:row.length=UH.size:=by
       rw[← UA]
       simp only[RV,RZ,Sd,TQ]
       omega
      have hS:∀k,S k→k<w.heap.size→(w.setRow g row.toArray).heap[k]?=w.heap[k]?:=fun k hk _ =>
       setRow_other w g k _ (fun e=>h.heap.notS id _ g N' rfl (.inl hb) (e ▸ hk))
      have hss:w.heap.size≤(w.setRow g row.toArray).heap.size:=by simp[World.setRow]
      have hB:aH S μ (w.setRow g row.toArray) (μ id) (.arrD E sz n Wu Ub):=by
       refine⟨fun i' j k Vc hj hk=>(Uz i' j Vc hj).2 k hk,row.take (n*sz),⟨by rw[RZ,V4];omega,.inr ⟨g,cap,row.toArray,hm,Su _,setRow_heap w g UH _ E (0,0) hh,hn,WN,by simp[V4,hcs],by simp⟩⟩,fun i' j Vc hj=>?_⟩
       have WY:(i'+1)*sz≤n*sz:=R9 _ Vc
       rw[SL]at WY
       rw[(Uz i' j Vc hj).1]
       by_cases hcj:i'=i∧M'≤j∧j<M'+new.length
       ·rw[RH hcj]
        obtain⟨rfl,c1,c2⟩:=hcj
        have hju:j-M'<ux.cells.size:=by omega
        refine⟨ux.cells[j-M'],?_,Yf _ (by simp),?_⟩
        ·rw[R8,RH (by omega),V3,RH (by omega),show i'*sz+j-(i'*sz+M')=j-M' from by omega]
         exact R0 hju
        ·have hn':new[j-M']?=some (new.getD (j-M') .junk):=by rw[dF _ _ (by omega)];exact RB (by omega)
         exact(US.2 _ _ _ hn' (R0 hju)).stable (fun _ h _=>h) hS hss (fun _ _=>rfl)
       ·rw[RE hcj]
        obtain⟨z,hz,ho,hr⟩:=r2 i' j Vc hj
        refine⟨z,?_,ho,hr.stable (fun _ h _=>h) hS hss (fun _ _=>rfl)⟩
        rw[R8,RH (by omega),V3,RE]
        ·rw[← WB,R8,RH (by omega)]at hz
         simpa using hz
        ·rintro⟨c1,c2⟩
         rcases Nat.lt_trichotomy i' i with Un | Zv | hgt
         ·have:(i'+1)*sz≤i*sz:=R9 _ Un
          rw[SL]at this
          omega
         ·subst Zv
          exact hcj ⟨rfl,by omega,by omega⟩
         ·have:(i+1)*sz≤i'*sz:=R9 _ hgt
          rw[SL]at this
          omega
      have hu:=h.upd (id:=id) (u:=μ id) (B:=.arrD E sz n Wu Ub) (row:=some g) (fP w g row.toArray)
       (fun k hk=>⟨_,N',rfl,by cases hk;exact .inl hb⟩) (by omega) (by rw[iX];exact hB) (fun k hk=>.inl (hk.one hb)) (.inl ⟨rfl,.inl rfl⟩)
      rw[iX]at hu
      have he:ck st.heap id (.arrD E sz n Wu Ub)=st.heap.set id (.arrD E sz n Wu Ub):=by
       unfold ck
       rw[RE (by rw[RY];omega)]
      rwa [he]at hu
     ·cases hp;exact G'.elim
    ·cases hp;exact G'.elim
   ·cases hp;exact G'.elim
  ·cases hp;exact G'.elim
 ·cases hp;exact G'.elim
end
end Go.Proofs.YtckgpflobhpnpaaGreat
namespace Go.Proofs.YtckgpflobhpnpaaGreat
open Go.RowKit
set_option linter.unusedVariables false
set_option linter.unusedSimpArgs false
section
variable {C:kU} {S:Nat→Prop} {μ:Nat→Value} {st T4:St} {a:Act} {w w':World} {p:Prop}
theorem jy {P:Program} {E:TypeId} {z:List D} (hz:i5 P E=some z):∃(i:TypeInfo) (v:Value),P.info? E=some i∧i.zero=some v∧z=v.cells.toList.map D.ofVal1∧i.size=aE P E∧i.bytes=i8 P E:=by
 unfold i5 at hz
 cases hi:P.info? E with
 | none=>simp[hi]at hz
 | some i =>
  cases hv:i.zero with
  | none=>simp[hi,hv]at hz
  | some v =>
   simp only[hi,hv,Tn,Sr,RM]at hz
   exact⟨i,v,rfl,hv,hz.symm,by simp[aE,hi],by simp[i8,hi]⟩
theorem xA {k sz:Nat} (h:0<sz):k=(k / sz)*sz+k%sz:=by
 have:=Nat.div_add_mod k sz
 rw[Nat.mul_comm]at this
 omega
theorem AV {α:Type _} (z:List α) (sz:Nat) (hz:z.length=sz) (hs:0<sz):∀(n k:Nat),(List.replicate n z).flatten[k]?=if k<n*sz then z[k%sz]? else none
 | 0,k=>by simp
 | n+1,k=>by
  rw[List.replicate_succ,List.flatten_cons,SL]
  by_cases hk:k<sz
  ·rw[RP (by omega),RH (by omega),Nat.mod_eq_of_lt hk]
  ·rw[RT (by omega),AV z sz hz hs n (k-z.length),hz]
   by_cases V0:k<n*sz+sz
   ·rw[RH (by omega),RH V0]
    congr 1
    rw[← Nat.mod_eq_sub_mod (by omega)]
   ·rw[RE (by omega),RE V0]
theorem sA {P:Program} {z:List D} {zv:Array Value} (hz:aM S μ w z zv) {sz:Nat} (VA:z.length=sz) (hs:0<sz) (n:Nat):aM S μ w (List.replicate n z).flatten ((Array.range (n*sz)).map (zv[·%zv.size]!)):=by
 have hl:(List.replicate n z).flatten.length=n*sz:=by simp[VA]
 refine⟨by simp[hl],fun j y u hy hu=>?_⟩
 have hj:j<n*sz:=by rw[← hl];exact(Rz.1 hy).1
 rw[AV z sz VA hs,RH hj]at hy
 have hm:j%sz<zv.size:=by rw[hz.1,VA];exact Nat.mod_lt _ hs
 simp only[SP,Array.getElem?_range,hj,Tj,Sr,RM]at hu
 refine hz.2 (j%sz) y u hy ?_
 rw[← hu,hz.1,VA]
 simp[hm]
theorem kd (sz n:Nat) (cells:List D) {i:Nat} {x:List D} (h:(pG sz n cells)[i]?=some x):i<n∧x=(cells.drop (i*sz)).take sz:=by
 unfold pG at h
 obtain⟨k,hk,rfl⟩:=eN h
 have hi:=(Rz.1 hk)
 obtain⟨h1,h2⟩:=hi
 simp at h1 h2
 subst h2
 exact⟨h1,rfl⟩
theorem uu {E sz n:Nat} {cells:List D} {vs:Array Value} (hr:aM S μ w cells vs) (hl:cells.length=n*sz) (hn:n≤maxLen) {L:List (List V)} (hLl:L.length=n)
  (hL:∀(i:Nat) (x:List V),L[i]?=some x→x.length=sz∧∀(j:Nat) (y:V),x[j]?=some y→∃d,cells[i*sz+j]?=some d∧∀u,an S μ w d u→dM S w y u)
  (hS:∀b,S b→b<w.heap.size):gt S (w.alloc (.cells vs E)) E sz L (.slice (some ⟨w.heap.size,0,none⟩) n n):=by
 subst hLl
 refine⟨fun i x hx=>(hL i x hx).1,vs.toList,World.ownsRow_lit w vs L.length (Su _) hn (by rw[hr.1,hl]),fun i x j y hx hy=>?_⟩
 obtain⟨d,hd,Vk⟩:=(hL i x hx).2 j y hy
 have Un:i*sz+j<vs.size:=by rw[hr.1];exact(Rz.1 hd).1
 refine⟨vs[i*sz+j],by simp[Un],?_⟩
 exact(Vk _ (hr.2 _ _ _ hd (R0 Un))).stable (fun _ h _=>h) (fun b hb hl=>Below.heap_alloc w _ b hl) (by simp)
theorem i9 {P:Program} {t E:TypeId} {len:Nat} {Ue:List (Nat×Value)} {i:TypeInfo} {v:Value} (hu:P.underlying t=some (.slice E)) (hi:P.info? E=some i) (hv:i.zero=some v) (WN:len*i.size≤4096)
  {cells:Array Value} (hf:Instr.fill (fun k=>some (k*i.size,i.size)) ((Array.range (len*i.size)).map (v.cells[·%v.cells.size]!)) Ue=some cells) :
  (Instr.buildSlice t len Ue.toArray).run P w=.ok (.slice (some ⟨w.heap.size,0,none⟩) len len) (w.alloc (.cells cells E)):=by
 by_cases hn:len*i.size=0
 ·have e0:(Array.range (len*i.size)).map (v.cells[·%v.cells.size]!)=#[]:=by rw[hn];simp[Array.range_zero']
  rw[e0]at hf
  have e1:∀f:Nat→Value,(Array.range 0).map f=#[]:=fun f=>by simp[Array.range_zero']
  unfold Instr.buildSlice
  simp only[RG,Sl hu,RF,sizeOf,typeInfo,program]
  simp only[Sem.run,hi,R5,RF]
  rw[RE (by omega),RH hn]
  simp only[R5,RF,hn,e1,hf]
  simp[newRow,newObj,Sem.run]
 ·unfold Instr.buildSlice
  simp only[RG,Sl hu,RF,sizeOf,typeInfo,program]
  simp only[Sem.run,hi,R5,RF]
  rw[RE (by omega),RE hn]
  have hz:(zeroValue E).run P w=.ok v w:=by simp[zeroValue,typeInfo,hi,hv,RG]
  simp only[RG,hz,R5,RF,hf]
  simp[newRow,newObj,Sem.run]
end
end Go.Proofs.YtckgpflobhpnpaaGreat
namespace Go.Proofs.YtckgpflobhpnpaaGreat
open Go.RowKit
set_option linter.unusedVariables false
set_option linter.unusedSimpArgs false
section
variable {C:kU} {S:Nat→Prop} {μ:Nat→Value} {st T4:St} {a:Act} {w w':World} {p:Prop}
theorem au {X:Prop} (hp:aV st=(T4,p)) (G':p):X:=by
 simp only[aV,RI]at hp
 rw[← hp.2]at G'
 exact G'.elim
theorem lg {sz n:Nat} {cells:List D} {i j:Nat} {x:List D} {d:D} (h:(pG sz n cells)[i]?=some x) (hd:x[j]?=some d):cells[i*sz+j]?=some d:=by
 obtain⟨_,rfl⟩:=kd sz n cells h
 rw[R8]at hd
 split at hd
 ·rw[SV]at hd;exact hd
 ·cases hd
theorem yY (h:bc C S μ st a w) {ov:Ov} {dst:Option Nat} {t:TypeId} {len:Nat} {T6:List (Nat×D)} {Ue:List (Nat×Value)} (h1:T6.map (·.1)=Ue.map (·.1))
  (h2:∀(j:Nat) (x:Nat×D) (u:Nat×Value),T6[j]?=some x→Ue[j]?=some u→an S μ w x.2 u.2) (hp:sy C.P C.nt st ov dst t len T6=(T4,p)) (G':p) :
  ∃u w' μ',(Instr.buildSlice t len Ue.toArray).run C.P w=.ok u w'∧bc C S μ' T4 (a.put dst u) w':=by
 unfold sy at hp
 split at hp
 ·rename_i E hu
  split at hp
  ·rename_i z hz
   split at hp
   ·rename_i hc
    simp only[RA,RY,SM]at hc
    obtain⟨⟨⟨hk,VA⟩,Ur⟩,WN⟩:=hc
    obtain⟨i,v,hi,hv,Xd,Ul,hby⟩:=jy hz
    split at hp
    ·rename_i cells hf
     have Yp:aM S μ w z v.cells:=by
      obtain⟨v',hv',hr⟩:=gU (P:=C.P) (S:=S) (μ:=μ) (w:=w) hz
      have:v'=v:=by
       have:(zeroValue E).run C.P w=.ok v w:=by simp[zeroValue,typeInfo,hi,hv,RG]
       rw[this]at hv'
       cases hv'
       rfl
      rwa [this]at hr
     have Xe:=sA (P:=C.P) Yp VA (by omega) len
     obtain⟨vs,Wj,VM⟩:=fA h.heap T6 Ue _ cells _ h1 h2 Xe hf
     rw[← Ul]at Wj
     have Uo:=i9 (P:=C.P) (w:=w) hu hi hv (by rw[Ul];exact WN) Wj
     have hcl:cells.length=len*aE C.P E:=by
      have:∀(T6:List (Nat×D)) (c0 Wt:List D),gT st.heap (fun i=>some (i*aE C.P E,aE C.P E)) c0 T6=some Wt→Wt.length=c0.length:=by
       intro T6
       induction T6 with
       | nil=>intro c0 Wt h;simp only[gT,RM]at h;rw[h]
       | cons q r ih =>
        intro c0 Wt h
        obtain⟨k,x⟩:=q
        unfold gT at h
        split at h
        ·split at h
         ·rename_i UB
          simp only[RA,SM]at UB
          rw[ih _ _ h]
          simp[fM]
          omega
         ·cases h
        ·cases h
      rw[this _ _ _ hf]
      simp[VA]
     have Ud:len≤maxLen:=by
      have:len*1≤len*aE C.P E:=TE _ Ur
      simp only[maxLen]
      omega
     have ZI:∀(L:List (List V)) (B:ap) (q:Prop),newBox st C.nt dst B (.own st.heap.length) q=(T4,p)→(q→gt S (w.alloc (.cells vs E)) E (aE C.P E) L (.slice (some ⟨w.heap.size,0,none⟩) len len)∧(gt S (w.alloc (.cells vs E)) E (aE C.P E) L (.slice (some ⟨w.heap.size,0,none⟩) len len)→aH S (aZ μ st.heap.length (.slice (some ⟨w.heap.size,0,none⟩) len len)) (w.alloc (.cells vs E)) (.slice (some ⟨w.heap.size,0,none⟩) len len) B))→B.isRo=false →
       ∃u w' μ',(Instr.buildSlice t len Ue.toArray).run C.P w=.ok u w'∧bc C S μ' T4 (a.put dst u) w':=by
      intro L B q hp hB U9
      have hq:q:=by
       unfold newBox at hp
       split at hp
       ·split at hp
        ·simp only[RI]at hp;rw[← hp.2]at G';exact G'
        ·exact au hp G'
       ·exact au hp G'
      obtain⟨b1,b2⟩:=hB hq
      refine⟨_,_,_,Uo,(h.newBox hp G' (SW w _ none) (b2 b1) (fun b hb=>by simp[bL,aI]at hb;omega) ?_ U9).2⟩
      have:=an.own (S:=S) (μ:=aZ μ st.heap.length (.slice (some ⟨w.heap.size,0,none⟩) len len)) (w:=w.alloc (.cells vs E)) st.heap.length
      rwa [ay]at this
     split at hp
     ·rename_i E' UR α Up d' l'
      split at hp
      ·rename_i hc
       simp only[RA,RY]at hc
       obtain⟨rfl,rfl⟩:=hc
       refine ZI (l'.map Up) _ _ hp (fun hq=>⟨?_,fun hA=>hA.box rfl⟩) rfl
       obtain⟨q1,q2⟩:=lf hq
       refine uu VM hcl Ud (by rw[← q1];simp[pG]) (fun i x hx=>?_) h.slt
       obtain⟨r,hr,UA⟩:=q2 i x hx
       obtain⟨r1,r2⟩:=fC UA
       obtain⟨hin,rfl⟩:=kd _ _ _ hr
       refine⟨?_,fun j y hy=>?_⟩
       ·rw[← r1,RZ,Sd,hcl]
        have:(i+1)*aE C.P E≤len*aE C.P E:=R9 _ hin
        rw[SL]at this
        omega
       ·obtain⟨d,hd,YI⟩:=r2 j y hy
        exact⟨d,lg hr hd,fun u hu=>mK YI hu⟩
      ·exact au hp G'
     ·rename_i gs cell
      split at hp
      ·rename_i WM
       simp only[RA]at WM
       obtain⟨hgs,V2⟩:=WM
       have hq:∀i j,i<len→j<aE C.P E→cell i j=cells.getD (i*aE C.P E+j) .junk∧∀k,gs.all (fun g=>!(Nat.beq g k))=true→(cell i j).free k=true:=by
        have Vo:=hp
        unfold newBox at Vo
        split at Vo
        ·split at Vo
         ·simp only[RI]at Vo;rw[← Vo.2]at G';exact G'
         ·exact au Vo G'
        ·exact au Vo G'
       have UE:gs.all (fun g=>!(Nat.beq g st.heap.length))=true:=by
        rw[R7]at hgs ⊢
        intro g hg
        have:=hgs g hg
        rw[TS]at this
        exact yP (by omega)
       have YY:vs.size=len*aE C.P E:=by rw[VM.1,hcl]
       have Xv:∀b,S b→b<w.heap.size→(w.alloc (.cells vs E)).heap[b]?=w.heap[b]?:=fun b _ hl=>(SW w (.cells vs E) none).block b hl (by simp)
       refine⟨_,_,_,Uo,(h.newBox hp G' (SW w _ none) (u:=.slice (some ⟨w.heap.size,0,none⟩) len len) ⟨fun i j k hi hj hk=>(hq i j hi hj).2 k hk,vs.toList,⟨by simp[YY],.inr ⟨w.heap.size,len,vs,rfl,Su _,SF w _,RD _,Ud,YY,by rw[Th (by simp[YY])]⟩⟩,fun i j hi hj=>?_⟩ (fun b hb=>by simp[bL,aI]at hb;omega) ?_ rfl).2⟩
       ·have WY:(i+1)*aE C.P E≤len*aE C.P E:=R9 _ hi
        rw[SL]at WY
        have Un:i*aE C.P E+j<vs.size:=by omega
        have ZX:i*aE C.P E+j<cells.length:=by omega
        have hz1:vs[i*aE C.P E+j]?=some vs[i*aE C.P E+j]:=R0 Un
        refine⟨vs[i*aE C.P E+j],by simp[Un],Ek h.heap VM V2 _ (by simp),?_⟩
        have XQ:cells[i*aE C.P E+j]?=some (cells.getD (i*aE C.P E+j) .junk):=by rw[dF _ _ ZX];exact RB ZX
        have hd:=VM.2 _ _ _ XQ hz1
        rw[← (hq i j hi hj).1]at hd
        exact hd.stable (fun _ h _=>h) Xv (SW w (.cells vs E) none).size (fun id Uh=>aG _ _ (fun e=>by rw[e,(hq i j hi hj).2 _ UE]at Uh;cases Uh))
       ·have:=an.own (S:=S) (μ:=aZ μ st.heap.length (.slice (some ⟨w.heap.size,0,none⟩) len len)) (w:=w.alloc (.cells vs E)) st.heap.length
        rwa [ay]at this
      ·exact au hp G'
     ·split at hp
      ·rename_i L hL
       refine ZI L _ _ hp (fun _=>⟨?_,fun hA=>hA.box (xz L).symm⟩) rfl
       obtain⟨q1,q2⟩:=vx hL
       refine uu VM hcl Ud (by rw[← q1];simp[pG]) (fun i x hx=>?_) h.slt
       obtain⟨r,hr,UA⟩:=q2 i x hx
       obtain⟨r1,r2⟩:=qP UA
       obtain⟨hin,rfl⟩:=kd _ _ _ hr
       refine⟨?_,fun j y hy=>?_⟩
       ·rw[← r1,RZ,Sd,hcl]
        have:(i+1)*aE C.P E≤len*aE C.P E:=R9 _ hin
        rw[SL]at this
        omega
       ·obtain⟨d,hd,YI⟩:=r2 j y hy
        exact⟨d,lg hr hd,fun u hu=>Ej YI hu⟩
      ·exact au hp G'
    ·exact au hp G'
   ·exact au hp G'
  ·exact au hp G'
 ·exact au hp G'
theorem _root_.Nat.mul_add_mod_of_lt' {k sz j:Nat} (h:j<sz):(k*sz+j)%sz=j:=by
 rw[Nat.mul_comm,Nat.mul_add_mod,Nat.mod_eq_of_lt h]
theorem aH.arr_mk {E sz:Nat} {u:Value} {α:Type} {enc:α→List V} {d:α} {l:List α} (h:gt S w E sz (l.map enc) u):aH S μ w u (.arr E sz enc d l):=h.box rfl
theorem AW (h:bc C S μ st a w) {ov:Ov} {dst:Option Nat} {t:TypeId} {l c:D} {ul uc:Value} (hl:an S μ w l ul) (hc:an S μ w c uc) (hp:xy C.P C.nt st ov dst t l c=(T4,p)) (G':p) :
  ∃u w' μ',(Instr.makeSlice t ul uc).run C.P w=.ok u w'∧bc C S μ' T4 (a.put dst u) w':=by
 unfold xy at hp
 split at hp
 ·rename_i E kl n kc m hu
  split at hp
  ·rename_i z hz
   split at hp
   ·rename_i UB
    simp only[RA,RY,SM]at UB
    obtain⟨⟨⟨hk,VA⟩,Ur⟩,ZH⟩:=UB
    obtain⟨i,v,hi,hv,Xd,Ul,hby⟩:=jy hz
    rw[bW hl,bW hc]
    split at hp
    ·rename_i E' UR α Up d' l'
     split at hp
     ·rename_i Xu
      simp only[RA,RY]at Xu
      obtain⟨rfl,rfl⟩:=Xu
      have hq:(0≤n∧n≤m∧m≤137438953472)∧l'.length=n.toNat∧∀x∈l',cg z (Up x):=by
       have Vo:=hp
       unfold newBox at Vo
       split at Vo
       ·split at Vo
        ·simp only[RI]at Vo;rw[← Vo.2]at G';exact G'
        ·exact au Vo G'
       ·exact au Vo G'
      obtain⟨⟨h0,Xs,hm⟩,Ud,VZ⟩:=hq
      have hbm:(i.bytes:Int)*m≤281474976710656:=by
       have h9:(i.bytes:Int)≤1024:=by omega
       have:(i.bytes:Int)*m≤1024*m:=Int.mul_le_mul_of_nonneg_right h9 (by omega)
       omega
      have Uo:=run_make (P:=C.P) w t E i v hu hi hv kl kc n m h0 Xs hbm (by omega)
      refine⟨_,_,_,Uo,(h.newBox (u:=.slice (some ⟨w.heap.size,0,none⟩) n.toNat m.toNat) hp G' (SW w _ none) (aH.arr_mk ?_) (fun b hb=>by simp[bL,aI]at hb;omega) ?_).2⟩
      ·have Yp:aM S μ w z v.cells:=by
        rw[Xd]
        refine⟨by simp,fun j y u hy hu=>?_⟩
        simp only[R3,Si,hu,Sr,RM]at hy
        subst hy
        exact an.ofVal1 S μ w u
       have VM:v.cells.size=aE C.P E:=by rw[Yp.1,VA]
       refine⟨fun k x hx=>?_,(madeCells v.cells (m.toNat*i.size)).toList.take (n.toNat*aE C.P E),?_,fun k x j y hx hy=>?_⟩
       ·obtain⟨q,hq,rfl⟩:=eN hx
        rw[← (fC (VZ q (Sf hq))).1,VA]
       ·have hle:n.toNat*aE C.P E≤m.toNat*i.size:=by rw[Ul];exact R9 _ (by omega)
        refine⟨by simp[size_madeCells,Ud];omega,.inr ⟨w.heap.size,m.toNat,madeCells v.cells (m.toNat*i.size),by simp[Ud],Su _,SF w _,by simp[Ud];omega,by simp only[maxLen];omega,by rw[size_madeCells,Ul],by simp[Ud]⟩⟩
       ·obtain⟨q,hq,rfl⟩:=eN hx
        have VB:k<n.toNat:=by rw[← Ud];exact(Rz.1 hq).1
        obtain⟨r1,r2⟩:=fC (VZ q (Sf hq))
        obtain⟨d,hd,YI⟩:=r2 j y hy
        have hj:j<aE C.P E:=by rw[← VA];exact(Rz.1 hd).1
        have hjv:j<v.cells.size:=by omega
        have Xt:(k+1)*aE C.P E≤n.toNat*aE C.P E:=R9 _ VB
        rw[SL]at Xt
        have hle:n.toNat*aE C.P E≤m.toNat*i.size:=by rw[Ul];exact R9 _ (by omega)
        refine⟨v.cells[j],?_,(mK YI (Yp.2 j d _ hd (R0 hjv))).stable (fun _ h _=>h) (fun b hb hl=>Below.heap_alloc w _ b hl) (by simp)⟩
        rw[R8,RH (by omega),Si]
        unfold madeCells
        rw[SP,Array.getElem?_range,RH (by omega)]
        simp only[Sr,RM]
        rw[VM,Nat.mul_add_mod_of_lt' hj]
        simp[hjv]
      ·have:=an.own (S:=S) (μ:=aZ μ st.heap.length (.slice (some ⟨w.heap.size,0,none⟩) n.toNat m.toNat)) (w:=w.alloc (.cells (madeCells v.cells (m.toNat*i.size)) E)) st.heap.length
       rwa [ay]at this
     ·exact au hp G'
    ·exact au hp G'
   ·exact au hp G'
  ·exact au hp G'
 ·exact au hp G'
end
end Go.Proofs.YtckgpflobhpnpaaGreat
namespace Go.Proofs.YtckgpflobhpnpaaGreat
open Go.RowKit
set_option linter.unusedVariables false
set_option linter.unusedSimpArgs false
section
variable {P:Program} {S:Nat→Prop} {μ:Nat→Value} {w:World}
theorem ed (t ty e:TypeId) (i:TypeInfo) (z:Value) (ht:P.underlying t=some (.slice e)) (hi:P.info? e=some i) (hz:i.zero=some z) (hzs:z.cells.size=i.size)
  {v:Value} {n:Nat} {xs:List Value} (Uc:w.ownsRow 0 e i.size v n xs) {pa:Option Addr} {m c:Nat} {Uw:List Value} (hpa:pa=none→c=0∧m=0)
  (hl:Uw.length=m*i.size) (Y6:∀ad,pa=some ad→∀(j:Nat) (u:Value),Uw[j]?=some u→w.cell? (ad.add j)=some u) (h1:∀u∈Uw,u.oneCell'=true)
  (h63:n+m≤maxLen) (WI:(n+m)*i.bytes≤140737488355328) :
  ∃v' w',(Builtin.append_ #[t,t] ty #[v,.slice pa m c]).run P w=.ok v' w'∧w'.ownsRow 0 e i.size v' (n+m) (xs++Uw)∧w.grownBy w' v.ownBlock∧(v'.ownBlock=v.ownBlock∨v'.ownBlock=some w.heap.size):=by
 cases pa with
 | none =>
  obtain⟨rfl,rfl⟩:=hpa rfl
  have hn:Uw=[]:=So (by simpa using hl)
  subst hn
  exact⟨v,w,run_append_owned_none (P:=P) w 0 t ty e i i.size ht hi v n xs Uc,by simpa using Uc,⟨rfl,rfl,rfl,RD _,fun _ _ _=>rfl⟩,.inl rfl⟩
 | some ad =>
  have hnw:=Y6 ad rfl
  have hsmall:n+m≤9223372036854775807:=by simp only[maxLen]at h63;omega
  have Ud:(xs++Uw).length=(n+m)*i.size:=by rw[RV,Uc.1,hl,TZ]
  have Xk:∀(old:Nat) (row:Option Nat),
    (w.drew.alloc (.cells (xs.toArray++Uw.toArray++Builtin.zeroCells z.cells (grownCap w (n+m) old e-(n+m))) e)).ownsRow 0 e i.size
     (.slice (some ⟨w.heap.size,0,none⟩) (n+m) (grownCap w (n+m) old e)) (n+m) (xs++Uw) ∧
    w.grownBy (w.drew.alloc (.cells (xs.toArray++Uw.toArray++Builtin.zeroCells z.cells (grownCap w (n+m) old e-(n+m))) e)) row:=by
   intro old row
   have hge:=grownCap_ge w (n+m) old e
   have XP:grownCap w (n+m) old e≤maxLen:=grownCap_le_maxLen w (n+m) old e h63
   refine⟨⟨Ud,.inr ⟨w.heap.size,_,_,rfl,Su _,SF w.drew _,hge,XP,?_,?_⟩⟩,⟨rfl,rfl,rfl,by simp,fun k hk _=>Below.heap_alloc w.drew _ k hk⟩⟩
   ·simp only[Array.size_append,TN,size_zeroCells,hzs,Uc.1,hl,← TZ]
    congr 1
    omega
   ·simp only[Array.toList_append,SB]
    rw[← SB,← Ud]
    exact TW
  rcases Uc.2 with ⟨rfl,rfl⟩ | ⟨g,cap,UH,rfl,VD,hg,hnc,XP,hcs,Y7⟩
  ·have hx:xs=[]:=So (by simpa using Uc.1)
   subst hx
   by_cases hm:m=0
   ·subst hm
    have hn:Uw=[]:=So (by simpa using hl)
    subst hn
    refine⟨.slice none 0 0,w,?_,Td w 0 e i.size,⟨rfl,rfl,rfl,RD _,fun _ _ _=>rfl⟩,.inl rfl⟩
    simp[Builtin.append_,Sl ht,sizeOf,typeInfo,hi,Builtin.lenOf,Builtin.firstCells,loadCells,loadCellsFrom]
   ·have hr:=run_append_nil (P:=P) w t ty e i z ht hi hz ad m c Uw hl hnw (by omega) (by omega) (by have hb:=WI;simp only[Sp]at hb;omega)
    have Xh:=Xk 0 (Value.ownBlock (.slice none 0 0))
    simp only[Sp,TK,Array.empty_append]at Xh ⊢
    exact⟨_,_,hr,Xh.1,Xh.2,.inr rfl⟩
  ·by_cases hroom:n+m≤cap
   ·have UF:n*i.size+Uw.length≤UH.size:=by rw[hl,hcs,← TZ];exact R9 _ hroom
    have hr:=run_append_room (P:=P) w t ty e i ht hi g n cap UH hg ad m c Uw hl hnw h1 hroom UF
    refine⟨_,_,hr,⟨Ud,.inr ⟨g,cap,_,rfl,VD,setRow_heap w g UH _ e _ hg,hroom,XP,?_,?_⟩⟩,fP w g _,.inl rfl⟩
    ·simp only[TN,RV,RZ,Sd,TQ]
     omega
    ·rw[Y7,← Ud]
     exact TW
   ·have holds:∀j u,xs[j]?=some u→w.cell? ((⟨g,0,none⟩:Addr).add j)=some u:=Uc.cells (g:=g) rfl
    have hr:=run_append_grow (P:=P) w t ty e i z ht hi hz ⟨g,0,none⟩ n cap xs Uc.1 holds ad m c Uw hl hnw (by omega) (by omega) (growslice_fits (by omega) WI)
    have Xh:=Xk cap (Value.ownBlock (.slice (some ⟨g,0,none⟩) n cap))
    exact⟨_,_,hr,Xh.1,Xh.2,.inr rfl⟩
theorem mL {H:List ap} (hH:bp S μ w H) {sz:Nat} (hs:1≤sz) {x:D} {new:List (List V)} {ux:Value} (hn:AU H sz x=some new) (hx:an S μ w x ux) :
  ∃(pa:Option Addr) (c:Nat) (Uw:List Value),ux=.slice pa new.length c∧(pa=none→c=0∧new.length=0)∧Uw.length=new.length*sz ∧
   (∀ad,pa=some ad→∀(j:Nat) (u:Value),Uw[j]?=some u→w.cell? (ad.add j)=some u)∧(∀u∈Uw,u.oneCell'=true) ∧
   (∀(i:Nat) (x:List V),new[i]?=some x→x.length=sz)∧∀(i:Nat) (x:List V) (j:Nat) (y:V),new[i]?=some x→x[j]?=some y→∃z,Uw[i*sz+j]?=some z∧dM S w y z:=by
 have key:∀(Uw:List Value),Uw.length=new.length*sz→(∀(i:Nat) (x:List V),new[i]?=some x→x.length=sz) →
   (∀(i:Nat) (x:List V) (j:Nat) (y:V),new[i]?=some x→x[j]?=some y→∃z,Uw[i*sz+j]?=some z∧dM S w y z)→∀u∈Uw,u.oneCell'=true:=by
  intro Uw hl h0 h2 u hu
  obtain⟨k,hk,rfl⟩:=Tf hu
  have hi:k / sz<new.length:=by
   rw[Nat.div_lt_iff_lt_mul (by omega)]
   omega
  have hj:k%sz<new[k / sz].length:=by
   rw[h0 _ _ (RB hi)]
   exact Nat.mod_lt _ (by omega)
  obtain⟨z,hz,hr⟩:=h2 _ _ _ _ (RB hi) (RB hj)
  rw[← xA (by omega)]at hz
  rw[RB hk]at hz
  cases hz
  exact hr.one
 unfold AU at hn
 split at hn
 ·rename_i UR α enc d l
  split at hn
  ·rename_i Ul
   rw[RY]at Ul
   subst Ul
   cases hn
   obtain⟨p,c,rfl,h1,h2,h3,h4⟩:=fJ (bv hx)
   by_cases h0:0<l.length
   ·obtain⟨b,M',us,rfl,q1,q2,q3,q4,q5⟩:=h4 h0
    have hz:∀(k:Nat),k<l.length*sz→∃(z:α) (y:V),l[k / sz]?=some z∧(enc z)[k%sz]?=some y:=by
     intro k hk
     have hi:k / sz<l.length:=by rw[Nat.div_lt_iff_lt_mul (by omega)];exact hk
     have VA:=q3 _ _ (RB hi)
     have hj:k%sz<(enc l[k / sz]).length:=by rw[VA];exact Nat.mod_lt _ (by omega)
     exact⟨_,_,RB hi,RB hj⟩
    have r0:∀(i:Nat) (x:List V),(l.map enc)[i]?=some x→x.length=sz:=fun i x hx=>by obtain⟨z,hz,rfl⟩:=eN hx;exact q3 i z hz
    have r2:∀(i:Nat) (x:List V) (j:Nat) (y:V),(l.map enc)[i]?=some x→x[j]?=some y→∃z,((List.range (l.length*sz)).map fun k=>us (k / sz) (k%sz))[i*sz+j]?=some z∧dM S w y z:=by
     intro i x j y hx hy
     have hi:i<l.length:=by have:=(Rz.1 hx).1;simpa using this
     have V8:=r0 i x hx
     have hj:j<sz:=by rw[← V8];exact(Rz.1 hy).1
     obtain⟨z,hz,rfl⟩:=eN hx
     have hm:(i+1)*sz≤l.length*sz:=R9 _ hi
     rw[SL]at hm
     refine⟨us i j,?_,q5 i z j y hz hy⟩
     rw[R3,List.getElem?_range (by omega)]
     simp only[Sr,RM]
     rw[Nat.mul_add_mod_of_lt' hj,Nat.mul_comm i sz,Nat.mul_add_div (by omega),Nat.div_eq_of_lt hj,SY]
    refine⟨some ⟨b,M',none⟩,c,(List.range (l.length*sz)).map fun k=>us (k / sz) (k%sz),by simp,(fun h=>by cases h),by simp,?_,key _ (by simp) r0 r2,r0,r2⟩
    rintro ad ZY j u hu
    cases ZY
    obtain⟨k,hk,rfl⟩:=eN hu
    obtain⟨h5,h6⟩:=Rz.1 hk
    simp at h5 h6
    subst h6
    obtain⟨z,y,hz1,hz2⟩:=hz j h5
    rw[dP,← q4 _ _ _ _ hz1 hz2,← xA (by omega)]
   ·have hl:l=[]:=So (by omega)
    subst hl
    exact⟨p,c,[],rfl,fun h=>⟨h3 h,rfl⟩,by simp,fun ad _ j u hu=>by simp at hu,fun u hu=>by simp at hu,fun i x hx=>by simp at hx,fun i x j y hx=>by simp at hx⟩
  ·cases hn
 ·rename_i id
  split at hn
  ·rename_i E UR α enc d l N'
   split at hn
   ·rename_i Ul
    rw[RY]at Ul
    subst Ul
    cases hn
    rw[bX hx]
    have hA:=gt.of (hH.box id _ N')
    obtain⟨p,c,hm,q1,q2,q3,q4⟩:=cD (hH.box id _ N')
    obtain⟨r0,xs,r1,r2⟩:=hA
    refine⟨p,c,xs,by rw[hm];simp,fun hp=>⟨q3 hp,by rw[RJ];have:=q3 hp;omega⟩,r1.1,?_,key xs r1.1 r0 r2,r0,r2⟩
    rintro ad rfl j u hu
    by_cases h0:0<l.length
    ·obtain⟨g,hg⟩:=q4 h0
     cases hg
     rw[dP,Sp]
     exact j9 r1 (by rw[hm];rfl) j u hu
    ·have:xs.length=0:=by rw[r1.1,RJ,show l.length=0 from by omega];simp
     have hxs:xs=[]:=So this
     subst hxs
     simp at hu
   ·cases hn
  ·cases hn
 ·cases hn
  cases hx
  exact⟨none,0,[],rfl,fun _=>⟨rfl,rfl⟩,by simp,fun ad h=>(by cases h),fun u hu=>by simp at hu,fun i x hx=>by simp at hx,fun i x j y hx=>by simp at hx⟩
 ·cases hn
  have hx:=bv hx
  cases hx
  exact⟨none,0,[],rfl,fun _=>⟨rfl,rfl⟩,by simp,fun ad h=>(by cases h),fun u hu=>by simp at hu,fun i x hx=>by simp at hx,fun i x j y hx=>by simp at hx⟩
 ·cases hn
  have hx:=bv hx
  cases hx with
  | esl p c hc=>exact⟨some p,c,[],rfl,fun h=>(by cases h),by simp,fun ad h j u hu=>by simp at hu,fun u hu=>by simp at hu,fun i x hx=>by simp at hx,fun i x j y hx=>by simp at hx⟩
 ·cases hn
theorem gt.append {w':World} {E sz:Nat} {L new:List (List V)} {u':Value} {xs Uw:List Value} (h0:∀(i:Nat) (x:List V),L[i]?=some x→x.length=sz) (V8:xs.length=L.length*sz)
  (h2:∀(i:Nat) (x:List V) (j:Nat) (y:V),L[i]?=some x→x[j]?=some y→∃z,xs[i*sz+j]?=some z∧dM S w' y z)
  (n0:∀(i:Nat) (x:List V),new[i]?=some x→x.length=sz)
  (n2:∀(i:Nat) (x:List V) (j:Nat) (y:V),new[i]?=some x→x[j]?=some y→∃z,Uw[i*sz+j]?=some z∧dM S w' y z)
  (ho:w'.ownsRow 0 E sz u' (L.length+new.length) (xs++Uw)):gt S w' E sz (L++new) u':=by
 refine⟨fun i x hx=>?_,xs++Uw,by rw[RV];exact ho,fun i x j y hx hy=>?_⟩
 ·by_cases hi:i<L.length
  ·rw[RP hi]at hx;exact h0 i x hx
  ·rw[RT (by omega)]at hx;exact n0 _ x hx
 ·by_cases hi:i<L.length
  ·rw[RP hi]at hx
   obtain⟨z,hz,hr⟩:=h2 i x j y hx hy
   exact⟨z,by rw[RP (Rz.1 hz).1];exact hz,hr⟩
  ·rw[RT (by omega)]at hx
   obtain⟨z,hz,hr⟩:=n2 _ x j y hx hy
   refine⟨z,?_,hr⟩
   have hm:L.length*sz≤i*sz:=R9 _ (by omega)
   rw[RT (by omega),V8]
   rw[Nat.sub_mul]at hz
   rw[← hz]
   congr 1
   omega
theorem tZ (t ty e:TypeId) (i:TypeInfo) (z:Value) (ht:P.underlying t=some (.slice e)) (hi:P.info? e=some i) (hz:i.zero=some z) (hzs:z.cells.size=i.size)
  {p:Option Addr} {n:Nat} {xs:List Value} (hpn:p=none→n=0) (V8:xs.length=n*i.size) (holds:∀ad,p=some ad→∀(j:Nat) (u:Value),xs[j]?=some u→w.cell? (ad.add j)=some u) {pa:Option Addr} {m c:Nat} {Uw:List Value} (hpa:pa=none→c=0∧m=0)
  (hl:Uw.length=m*i.size) (Y6:∀ad,pa=some ad→∀(j:Nat) (u:Value),Uw[j]?=some u→w.cell? (ad.add j)=some u) (hm0:0<m)
  (h63:n+m≤maxLen) (WI:(n+m)*i.bytes≤140737488355328) :
  ∃v' w',(Builtin.append_ #[t,t] ty #[.slice p n n,.slice pa m c]).run P w=.ok v' w'∧w'.ownsRow 0 e i.size v' (n+m) (xs++Uw)∧w.grownBy w' none∧v'.ownBlock=some w.heap.size:=by
 cases pa with
 | none=>have:=(hpa rfl).2;omega
 | some ad =>
  have hnw:=Y6 ad rfl
  have hsmall:n+m≤9223372036854775807:=by simp only[maxLen]at h63;omega
  have Ud:(xs++Uw).length=(n+m)*i.size:=by rw[RV,V8,hl,TZ]
  have Xk:∀(old:Nat) (row:Option Nat),
    (w.drew.alloc (.cells (xs.toArray++Uw.toArray++Builtin.zeroCells z.cells (grownCap w (n+m) old e-(n+m))) e)).ownsRow 0 e i.size
     (.slice (some ⟨w.heap.size,0,none⟩) (n+m) (grownCap w (n+m) old e)) (n+m) (xs++Uw) ∧
    w.grownBy (w.drew.alloc (.cells (xs.toArray++Uw.toArray++Builtin.zeroCells z.cells (grownCap w (n+m) old e-(n+m))) e)) row:=by
   intro old row
   have hge:=grownCap_ge w (n+m) old e
   have XP:grownCap w (n+m) old e≤maxLen:=grownCap_le_maxLen w (n+m) old e h63
   refine⟨⟨Ud,.inr ⟨w.heap.size,_,_,rfl,Su _,SF w.drew _,hge,XP,?_,?_⟩⟩,⟨rfl,rfl,rfl,by simp,fun k hk _=>Below.heap_alloc w.drew _ k hk⟩⟩
   ·simp only[Array.size_append,TN,size_zeroCells,hzs,V8,hl,← TZ]
    congr 1
    omega
   ·simp only[Array.toList_append,SB]
    rw[← SB,← Ud]
    exact TW
  cases p with
  | none =>
   have hn:=hpn rfl
   subst hn
   have hx:xs=[]:=So (by simpa using V8)
   subst hx
   have hr:=run_append_nil (P:=P) w t ty e i z ht hi hz ad m c Uw hl hnw (by omega) (by omega) (by have hb:=WI;simp only[Sp]at hb;omega)
   have Xh:=Xk 0 none
   simp only[Sp,TK,Array.empty_append]at Xh ⊢
   exact⟨_,_,hr,Xh.1,Xh.2,rfl⟩
  | some b =>
   have hr:=run_append_grow (P:=P) w t ty e i z ht hi hz b n n xs V8 (holds b rfl) ad m c Uw hl hnw (by omega) (by omega) (growslice_fits (by omega) WI)
   have Xh:=Xk n none
   exact⟨_,_,hr,Xh.1,Xh.2,rfl⟩
end
section
variable {C:kU} {S:Nat→Prop} {μ:Nat→Value} {st T4:St} {a:Act} {w w':World} {p:Prop}
theorem wY (h:bc C S μ st a w) {ov:Ov} {dst:Option Nat} {t ty:TypeId} {s x:D} {us ux:Value} (hs:an S μ w s us) (hx:an S μ w x ux) (hp:yV C.P C.nt st ov dst t s x=(T4,p)) (G':p) :
  ∃u w' μ',(Builtin.append_ #[t,t] ty #[us,ux]).run C.P w=.ok u w'∧bc C S μ' T4 (a.put dst u) w':=by
 unfold yV at hp
 split at hp
 ·rename_i E hu
  split at hp
  ·rename_i z new hz UE
   split at hp
   ·rename_i UB
    simp only[RA,RY,SM]at UB
    obtain⟨⟨⟨hk,VA⟩,Ur⟩,ZH⟩:=UB
    obtain⟨i,v,hi,hv,Xd,Ul,hby⟩:=jy hz
    have VM:v.cells.size=i.size:=by rw[Ul,← VA,Xd];simp
    obtain⟨pa,c,Uw,rfl,n1,n2,n3,n4,n5,n6⟩:=mL h.heap Ur UE hx
    rw[← Ul]at n2 n6 n5
    have bytes:∀k,k≤137438953472→k*i.bytes≤140737488355328:=by
     intro k hk
     have:k*i.bytes≤137438953472*1024:=Tt hk (by omega)
     omega
    split at hp
    ·rename_i id
     split at hp
     ·rename_i E' UR α enc d l td N'
      split at hp
      ·rename_i Xu
       simp only[RA,RY,TS]at Xu
       obtain⟨⟨⟨rfl,rfl⟩,htd⟩,hfx⟩:=Xu
       generalize hq:pF E (aE C.P E) (l.map enc++new) ov=q at hp
       obtain⟨B,q⟩:=q
       simp only[RI]at hp
       obtain⟨rfl,rfl⟩:=hp
       obtain⟨Ud,ZV⟩:=G'
       have UG:=bX hs
       subst UG
       obtain⟨r0,xs,r1,r2⟩:=gt.of (h.heap.box id _ N')
       simp only[RJ]at r1
       have hmax:l.length+new.length≤maxLen:=by simp only[maxLen];omega
       obtain⟨v',w',Uo,ho,hg,Uj⟩:=ed (P:=C.P) (w:=w) t ty E i v hu hi hv VM (by rw[Ul];exact r1) n1 n2 n3 n4 hmax (bytes _ Ud)
       have Uc:(μ id).ownBlock=aI (μ id):=by
        obtain⟨p',c',hm,_⟩:=cD (h.heap.box id _ N')
        rw[hm]
        cases p'<;>rfl
       have Uh:id<st.heap.length:=(Rz.1 N').1
       have Xv:∀b,S b→b<w.heap.size→w'.heap[b]?=w.heap[b]?:=fun b hb hl=>hg.block b hl (fun e=>h.heap.notS id _ b N' rfl (.inl (by rw[← Uc];exact e.symm)) hb)
       have hA:gt S w' E (aE C.P E) (l.map enc++new) v':=by
        rw[Ul]at ho n2 n5 n6
        refine gt.append r0 (by rw[r1.1];simp) (fun k x j y hx hy=>?_) n5 (fun k x j y hx hy=>?_) (by simpa using ho)
        ·obtain⟨z,hz,hr⟩:=r2 k x j y hx hy
         exact⟨z,hz,hr.stable (fun _ h _=>h) Xv hg.size⟩
        ·obtain⟨z,hz,hr⟩:=n6 k x j y hx hy
         exact⟨z,hz,hr.stable (fun _ h _=>h) Xv hg.size⟩
       obtain⟨hB,Ya⟩:=oo (μ:=aZ μ id v') hq ZV hA
       have hK:=h.kill id
       have Yg:(cf id st.heap)[id]?=some (.arr E (aE C.P E) enc d l):=by rw[eK,N'];rfl
       have YJ:∀b,bL v' b→(μ id).ownBlock=some b∨w.heap.size≤b:=by
        intro b hb
        have hb:=hb.bl (by rcases ho.2 with ⟨rfl,_⟩ | ⟨g,cap,UH,rfl,_⟩<;>rfl)
        have V7:v'.ownBlock=aI v':=by
         rcases ho.2 with ⟨rfl,_⟩ | ⟨g,cap,UH,rfl,_⟩<;>rfl
        rcases Uj with Uj | Uj
        ·exact .inl (by rw[← Uj,V7];exact hb)
        ·rw[V7,hb]at Uj
         cases Uj
         exact .inr (RD _)
       have WH:=hK.upd (id:=id) (B:=B) (row:=(μ id).ownBlock) (u:=v') hg (fun k hk=>⟨_,Yg,rfl,.inl (by rw[← Uc];exact hk)⟩) (by show id≤(cf id st.heap).length;rw[bZ];omega)
        hB YJ (.inr ⟨fun A hA=>by have UT:(cf id st.heap)[id]?=some A:=hA;rw[Yg]at UT;cases UT;rfl,kX id _,kY id _⟩) (mD Ya)
       refine⟨v',w',_,Uo,WH.put htd ?_⟩
       have:=an.own (S:=S) (μ:=aZ μ id v') (w:=w') id
       rwa [ay]at this
      ·exact au hp G'
     ·exact au hp G'
    ·generalize hq:pF E (aE C.P E) new ov=q at hp
     obtain⟨B,q⟩:=q
     simp only at hp
     have Wn:new.length≤137438953472∧q:=by
      have Vo:=hp
      unfold newBox at Vo
      split at Vo
      ·split at Vo
       ·simp only[RI]at Vo;rw[← Vo.2]at G';exact G'
       ·exact au Vo G'
      ·exact au Vo G'
     obtain⟨Ud,ZV⟩:=Wn
     cases hs
     obtain⟨v',w',Uo,ho,hg,Uj⟩:=ed (P:=C.P) (w:=w) t ty E i v hu hi hv VM (Td w 0 E i.size) n1 n2 n3 n4 (by simp only[maxLen];omega) (bytes _ (by omega))
     have Yq:w.grownBy w' none:=hg
     have Xv:∀b,S b→b<w.heap.size→w'.heap[b]?=w.heap[b]?:=fun b hb hl=>Yq.block b hl (by simp)
     have hA:gt S w' E (aE C.P E) ([]++new) v':=by
      rw[Ul]at ho n2 n5 n6
      refine gt.append (xs:=[]) (fun k x hx=>by simp at hx) (by simp) (fun k x j y hx=>by simp at hx) n5 (fun k x j y hx hy=>?_) (by simpa using ho)
      obtain⟨z,hz,hr⟩:=n6 k x j y hx hy
      exact⟨z,hz,hr.stable (fun _ h _=>h) Xv Yq.size⟩
     rw[TK]at hA
     obtain⟨hB,Ya⟩:=oo (μ:=aZ μ st.heap.length v') hq ZV hA
     refine⟨v',w',_,Uo,(h.newBox hp G' Yq hB (fun b hb=>?_) ?_ (mD Ya)).2⟩
     ·have hb:=hb.bl (by rcases ho.2 with ⟨rfl,_⟩ | ⟨g,cap,UH,rfl,_⟩<;>rfl)
      have V7:v'.ownBlock=aI v':=by
       rcases ho.2 with ⟨rfl,_⟩ | ⟨g,cap,UH,rfl,_⟩<;>rfl
      rcases Uj with Uj | Uj
      ·rw[V7,hb]at Uj;cases Uj
      ·rw[V7,hb]at Uj;cases Uj;exact RD _
     ·have:=an.own (S:=S) (μ:=aZ μ st.heap.length v') (w:=w') st.heap.length
      rwa [ay]at this
    ·rename_i UR α enc d0 l
     split at hp
     ·rename_i ZS
      rw[RY]at ZS
      subst ZS
      generalize hq:pF E (aE C.P E) (l.map enc++new) ov=q at hp
      obtain⟨B,q⟩:=q
      simp only at hp
      have Wn:0<new.length∧l.length+new.length≤137438953472∧q:=by
       have Vo:=hp
       unfold newBox at Vo
       split at Vo
       ·split at Vo
        ·simp only[RI]at Vo;rw[← Vo.2]at G';exact G'
        ·exact au Vo G'
       ·exact au Vo G'
      obtain⟨XM,Ud,ZV⟩:=Wn
      cases hs with
      | capd _ p n Vk =>
       obtain⟨pq,cq,xs,he,x0,x1,x2,_,Vw,x3⟩:=mL h.heap Ur (new:=l.map enc) (x:=.v (.sl (aE C.P E) enc d0 l)) (by simp[AU]) (.v _ _ Vk)
       simp only[Value.slice.injEq,RJ]at he x1
       obtain⟨rfl,rfl,rfl⟩:=he
       rw[← Ul]at x1
       obtain⟨v',w',Uo,ho,hg,Uj⟩:=tZ (P:=C.P) (w:=w) t ty E i v hu hi hv VM (p:=p) (n:=l.length) (xs:=xs) (fun e=>by have:=(x0 e).2;simpa using this) x1 x2 n1 n2 n3 XM (by simp only[maxLen];omega) (bytes _ Ud)
       have Xv:∀b,S b→b<w.heap.size→w'.heap[b]?=w.heap[b]?:=fun b hb hl=>hg.block b hl (by simp)
       have hA:gt S w' E (aE C.P E) (l.map enc++new) v':=by
        rw[Ul]at ho n2 n5 n6 x1
        refine gt.append Vw (by rw[x1];simp) (fun k x j y hx hy=>?_) n5 (fun k x j y hx hy=>?_) (by simpa using ho)
        ·obtain⟨z,hz,hr⟩:=x3 k x j y hx hy
         exact⟨z,hz,hr.stable (fun _ h _=>h) Xv hg.size⟩
        ·obtain⟨z,hz,hr⟩:=n6 k x j y hx hy
         exact⟨z,hz,hr.stable (fun _ h _=>h) Xv hg.size⟩
       obtain⟨hB,Ya⟩:=oo (μ:=aZ μ st.heap.length v') hq ZV hA
       refine⟨v',w',_,Uo,(h.newBox hp G' hg hB (fun b hb=>?_) ?_ (mD Ya)).2⟩
       ·have hb:=hb.bl (by rcases ho.2 with ⟨rfl,_⟩ | ⟨g,cap,UH,rfl,_⟩<;>rfl)
        have V7:v'.ownBlock=aI v':=by
         rcases ho.2 with ⟨rfl,_⟩ | ⟨g,cap,UH,rfl,_⟩<;>rfl
        rw[V7,hb]at Uj
        cases Uj
        exact RD _
       ·have:=an.own (S:=S) (μ:=aZ μ st.heap.length v') (w:=w') st.heap.length
        rwa [ay]at this
     ·exact au hp G'
    ·exact au hp G'
   ·exact au hp G'
  ·exact au hp G'
 ·exact au hp G'
theorem vy (h:bc C S μ st a w) {ov:Ov} {dst:Option Nat} {t ty:TypeId} {s x:D} {us ux:Value} (hs:an S μ w s us) (hx:an S μ w x ux) (hp:vt C.P C.nt st ov dst t s x=(T4,p)) (G':p) :
  ∃u w' μ',(Builtin.append_ #[t,t] ty #[us,ux]).run C.P w=.ok u w'∧bc C S μ' T4 (a.put dst u) w':=by
 unfold vt at hp
 split at hp
 ·rename_i E id iy td hu
  split at hp
  ·rename_i z E1 sz1 n gs cell E2 Ye m gs2 cell2 Wu Ub hz N' hboy
   split at hp
   ·rename_i UB
    simp only[RA,RY,SM,TS]at UB
    obtain⟨⟨⟨⟨⟨hk,VA⟩,Ur⟩,ZH⟩,⟨rfl,rfl⟩,rfl⟩,htd⟩:=UB
    obtain⟨i,v,hi,hv,Xd,Ul,hby⟩:=jy hz
    have VM:v.cells.size=i.size:=by rw[Ul,← VA,Xd];simp
    simp only[RI]at hp
    obtain⟨rfl,rfl⟩:=hp
    obtain⟨Ud,Vd⟩:=G'
    have UG:=bX hs
    subst UG
    have hux:=bX hx
    subst hux
    have bytes:∀k,k≤137438953472→k*i.bytes≤140737488355328:=by
     intro k hk
     have:k*i.bytes≤137438953472*1024:=Tt hk (by omega)
     omega
    obtain⟨r0,xs,r1,r2⟩:=h.heap.box id _ N'
    obtain⟨q0,ys,q1,q2⟩:=h.heap.box iy _ hboy
    obtain⟨pa,c,hmu,hnc,XP,hpn,hpp⟩:=ft (h.heap.box iy _ hboy)
    have Yf:∀u∈ys,u.oneCell'=true:=by
     intro u hu
     obtain⟨k,hk,hku⟩:=Tf hu
     have hyl:=q1.1
     have V0:k<m*aE C.P E:=by omega
     have hdm:=Nat.div_add_mod k (aE C.P E)
     have hml:=Nat.mod_lt k (show 0<aE C.P E by omega)
     have hdl:k / aE C.P E<m:=Nat.div_lt_of_lt_mul (by rw[Nat.mul_comm];exact V0)
     obtain⟨z,hz,ho,_⟩:=q2 (k / aE C.P E) (k%aE C.P E) hdl hml
     rw[Nat.mul_comm,hdm,RB hk,hku]at hz
     cases hz
     exact ho
    have ZZ:∀ad,pa=some ad→∀(j:Nat) (u:Value),ys[j]?=some u→w.cell? (ad.add j)=some u:=by
     intro ad had j u hj
     rcases q1.2 with ⟨hv0,_⟩ | ⟨g,cap,UH,hv0,_⟩
     ·rw[hmu,had]at hv0
      cases hv0
     ·have Vf:=hv0
      rw[hmu]at Vf
      simp only[Value.slice.injEq]at Vf
      rw[had,RM]at Vf
      rw[Vf.1]
      exact q1.cells (g:=g) (by rw[hv0];rfl) j u hj
    rw[hmu]
    obtain⟨v',w',Uo,ho,hg,Uj⟩:=ed (P:=C.P) (w:=w) t ty E i v hu hi hv VM (by rw[Ul];exact r1) (fun e=>⟨hpn e,by
      rcases Nat.eq_zero_or_pos m with h0 | h0
      ·exact h0
      ·obtain⟨g,hg⟩:=hpp h0;rw[hg]at e;cases e⟩) (by rw[Ul];exact q1.1) ZZ Yf (by simp only[maxLen];omega) (bytes _ Ud)
    have Uc:(μ id).ownBlock=aI (μ id):=by
     obtain⟨p',c',hm,_⟩:=ft (h.heap.box id _ N')
     rw[hm]
     cases p'<;>rfl
    have Uh:id<st.heap.length:=(Rz.1 N').1
    have Xv:∀b,S b→b<w.heap.size→w'.heap[b]?=w.heap[b]?:=fun b hb hl=>hg.block b hl (fun e=>h.heap.notS id _ b N' rfl (.inl (by rw[← Uc];exact e.symm)) hb)
    have Uz:∀(d:D) (u:Value),an S μ w d u→d.free id=true→an S (aZ μ id v') w' d u:=fun d u hd hf=>hd.stable (fun _ h _=>h) Xv hg.size (fun k hk=>aG _ _ (fun e=>by rw[e,hf]at hk;cases hk))
    rw[Ul]at ho
    have hB:aH S (aZ μ id v') w' v' (.arrD E (aE C.P E) (n+m) Wu Ub):=by
     refine⟨fun i j k hi hj hk=>(Vd i j hi hj).2.2 k hk,xs++ys,ho,fun i j hi hj=>?_⟩
     obtain⟨e1,e2,_⟩:=Vd i j hi hj
     by_cases hin:i<n
     ·rw[RH hin]at e1
      obtain⟨z,hz,h1,hr⟩:=r2 i j hin hj
      refine⟨z,?_,h1,Uz _ _ (by rw[e1];exact hr) e2⟩
      rw[RP (Rz.1 hz).1]
      exact hz
     ·rw[RE hin]at e1
      obtain⟨z,hz,h1,hr⟩:=q2 (i-n) j (by omega) hj
      refine⟨z,?_,h1,Uz _ _ (by rw[e1];exact hr) e2⟩
      have ZW:n*aE C.P E≤i*aE C.P E:=R9 _ (by omega)
      have V8:=r1.1
      rw[RT (by omega),V8,show i*aE C.P E+j-n*aE C.P E=(i-n)*aE C.P E+j by rw[Nat.sub_mul];omega]
      exact hz
    have hK:=h.kill id
    have Yg:∃A,(cf id st.heap)[id]?=some A∧A.live=true:=by
     refine⟨ap.kill id (.arrD E (aE C.P E) n gs cell),by rw[eK,N'];rfl,?_⟩
     simp only[ap.kill]
     split<;>rfl
    have YJ:∀b,bL v' b→(μ id).ownBlock=some b∨w.heap.size≤b:=by
     intro b hb
     have hb:=hb.bl (by rcases ho.2 with ⟨rfl,_⟩ | ⟨g,cap,UH,rfl,_⟩<;>rfl)
     have V7:v'.ownBlock=aI v':=by
      rcases ho.2 with ⟨rfl,_⟩ | ⟨g,cap,UH,rfl,_⟩<;>rfl
     rcases Uj with Uj | Uj
     ·exact .inl (by rw[← Uj,V7];exact hb)
     ·rw[V7,hb]at Uj
      cases Uj
      exact .inr (RD _)
    obtain⟨A,hA1,ZJ⟩:=Yg
    have WH:=hK.upd0 (id:=id) (B:=.arrD E (aE C.P E) (n+m) Wu Ub) (row:=(μ id).ownBlock) (u:=v') hg (fun k hk=>⟨A,hA1,ZJ,.inl (by rw[← Uc];exact hk)⟩) (by show id≤(cf id st.heap).length;rw[bZ];omega)
     hB YJ (.inr ⟨kX id _,kY id _⟩) rfl
    refine⟨v',w',_,Uo,WH.put htd ?_⟩
    have:=an.own (S:=S) (μ:=aZ μ id v') (w:=w') id
    rwa [ay]at this
   ·exact au hp G'
  ·exact au hp G'
 ·exact au hp G'
theorem vz (h:bc C S μ st a w) {ov:Ov} {dst:Option Nat} {t ty:TypeId} {s x:D} {us ux:Value} (hs:an S μ w s us) (hx:an S μ w x ux) (hp:vu C.P C.nt st ov dst t s x=(T4,p)) (G':p) :
  ∃u w' S' μ',(Builtin.append_ #[t,t] ty #[us,ux]).run C.P w=.ok u w'∧bc C S' μ' T4 (a.put dst u) w':=by
 unfold vu at hp
 exact au hp G'
end
end Go.Proofs.YtckgpflobhpnpaaGreat
namespace Go.Proofs.YtckgpflobhpnpaaGreat
open Go.RowKit
set_option linter.unusedVariables false
set_option linter.unusedSimpArgs false
section
variable {C:kU} {S:Nat→Prop} {μ:Nat→Value} {st T4:St} {a:Act} {w w':World} {p:Prop}
theorem bc.ePut (h:bc C S μ st a w) {dst:Option Nat} {d:D} {q:Prop} {u:Value} (hp:ePut C.nt st dst d q=(T4,p)) (G':p) (hd:an S μ w d u):q∧bc C S μ T4 (a.put dst u) w:=by
 unfold Proofs.YtckgpflobhpnpaaGreat.ePut at hp
 split at hp
 ·split at hp
  ·rename_i t ht
   rw[TS]at ht
   simp only[RI]at hp
   obtain⟨rfl,rfl⟩:=hp
   exact⟨G',h.put ht hd⟩
  ·exact au hp G'
 ·simp only[RI]at hp
  obtain⟨rfl,rfl⟩:=hp
  exact⟨G',h⟩
theorem aM.evals (h:bc C S μ st a w) (args:Array Operand):aM S μ w (args.toList.map (eX st.env)) (args.map a.eval):=by
 refine⟨by simp,fun j y z hy hz=>?_⟩
 simp only[R3,Si,SP]at hy hz
 cases hj:args[j]? with
 | none=>rw[hj]at hy;cases hy
 | some x=>rw[hj]at hy hz;simp at hy hz;subst hy hz;exact h.eval x
theorem aM.app {cs ds:List D} {us vs:Array Value} (h:aM S μ w cs us) (k:aM S μ w ds vs):aM S μ w (cs++ds) (us++vs):=by
 refine⟨by simp[h.1,k.1],fun j y z hy hz=>?_⟩
 by_cases hj:j<cs.length
 ·rw[RP hj]at hy
  rw[Array.getElem?_append_left (by rw[h.1];exact hj)]at hz
  exact h.2 j y z hy hz
 ·rw[RT (by omega)]at hy
  rw[Array.getElem?_append_right (by rw[h.1];omega),h.1]at hz
  exact k.2 _ y z hy hz
theorem bG {P:Program} {f:FuncId} (h:gX P f=true) (args:Array Value) (w:World):(callFunc f args).run P w=.ok (.enter f args) w:=by
 unfold gX at h
 cases hf:P.funcs[f]? with
 | none=>rw[hf]at h;cases h
 | some fn =>
  rw[hf]at h
  simp only[RA,Sj]at h
  have n1:fn.name ≠ "runtime.NumGoroutine" := by simpa using h.1
  have n2:fn.body≠none:=fun e=>by rw[e]at h;simp at h
  simp[callFunc,program,Sem.run,hf,n1,n2]
theorem ez {nt:Nat} {dst:Option Nat} {d:D} {q:Prop} (hp:ePut nt st dst d q=(T4,p)) (G':p):q:=by
 unfold ePut at hp
 split at hp
 ·split at hp
  ·simp only[RI]at hp;rw[← hp.2]at G';exact G'
  ·exact au hp G'
 ·simp only[RI]at hp;rw[← hp.2]at G';exact G'
theorem lh (w:World):w.grownBy w none:=⟨rfl,rfl,rfl,RD _,fun _ _ _=>rfl⟩
theorem bc.pushFrame (h:bc C S μ st a w) (hf:b9 st.heap.length st.env=true) (hh:bQ st.heap.length st.heap=true) :
  bc C S (aZ μ st.heap.length (.bool true)) ⟨st.env,st.heap++[.frame a.tmps st.env]⟩ a w:=by
 have:=h.upd (id:=st.heap.length) (B:=.frame a.tmps st.env) (row:=none) (u:=.bool true) (lh w) (fun k hk=>by cases hk) (RD _)
  ⟨rfl,fun t d hm=>?_⟩ (fun b hb=>by simp[bL,aI]at hb) (.inr ⟨fun A hA=>by simp at hA,hf,hh⟩)
 ·rw[show ck st.heap st.heap.length (.frame a.tmps st.env)=st.heap++[.frame a.tmps st.env]from by simp[ck]]at this
  exact this
 ·obtain⟨q1,q2⟩:=h.env t d hm
  refine⟨by rw[h.tsize];exact q1,q2.stable (fun _ h _=>h) (fun _ _ _=>rfl) (RD _) (fun i hi=>aG _ _ (fun e=>?_))⟩
  subst e
  rw[ct hf hm]at hi
  cases hi
theorem bc.loopTo (h:bc C S μ st a w) {id l:Nat} {tm:Array Value} {nt:Nat} {env:List (Nat×D)} {ps:List Nat} {q' bd:Code} {s:LoopState} {pe:Option Code} (N':st.heap[id]?=some (.loop l tm nt env ps q' bd s pe)) (s':LoopState) (pe':Option Code) :
  ∃r:Loop,w.heap[l]?=some (.loop r)∧r.state=s∧r.pending=pe∧r.params=ps.toArray∧r.assign=q'∧r.body=bd∧r.tmps=tm∧tm.size=nt ∧
   bc C S μ ⟨st.env,st.heap.set id (.loop l tm nt env ps q' bd s' pe')⟩ a (w.putObj l (.loop { r with state:=s',pending:=pe' })):=by
 obtain⟨r,hμ,g1,g2,g3,g4,g5,g6,g7,g8,g9⟩:=h.heap.box id _ N'
 have Uh:id<st.heap.length:=(Rz.1 N').1
 have hll:l<w.heap.size:=(RU.1 g1).1
 refine⟨r,g1,g2,g3,g4,g5,g6,g7,g8,?_⟩
 have hblk0:aI (μ id)=some l:=by rw[hμ];rfl
 have Uj:bL (μ id) l:=.inl hblk0
 have hg:w.grownBy (w.putObj l (.loop { r with state:=s',pending:=pe' })) (some l):=⟨rfl,rfl,rfl,by rw[World.putObj_size];exact RD _,fun k _ hk=>World.putObj_heap_other (fun e=>hk (by rw[e]))⟩
 have hSl:¬S l:=h.heap.notS id _ l N' rfl Uj
 have:=h.upd (id:=id) (B:=.loop l tm nt env ps q' bd s' pe') (row:=some l) (u:=μ id) hg (fun k hk=>⟨_,N',rfl,by cases hk;exact Uj⟩) (Nat.le_of_lt Uh) ?_ (fun b hb=>.inl (hb.one hblk0)) (.inl ⟨rfl,.inl rfl⟩)
 ·have e1:aZ μ id (μ id)=μ:=by funext i;unfold aZ;split<;>simp_all
  rw[e1]at this
  have e2:ck st.heap id (.loop l tm nt env ps q' bd s' pe')=st.heap.set id (.loop l tm nt env ps q' bd s' pe'):=by
   unfold ck
   have:Nat.beq id st.heap.length=false:=by
    cases hb:Nat.beq id st.heap.length
    ·rfl
    ·rw[RY]at hb;omega
   rw[this]
   rfl
  rw[e2]at this
  exact this
 ·have e1:aZ μ id (μ id)=μ:=by funext i;unfold aZ;split<;>simp_all
  rw[e1]
  refine⟨_,hμ,World.putObj_heap_same hll,rfl,rfl,g4,g5,g6,g7,g8,fun t d hm=>?_⟩
  obtain⟨q1,q2⟩:=g9 t d hm
  refine⟨q1,q2.stable (fun _ h _=>h) (fun b hb _=>World.putObj_heap_other (fun e=>hSl (e ▸ hb))) (by rw[World.putObj_size];exact RD _) (fun _ _=>rfl)⟩
theorem F8 {H:List ap} {n:Nat} (h:qa H[n]?=true):n<H.length∧H[n]?=some .dead:=by
 unfold qa at h
 split at h
 ·rename_i hh;exact⟨(Rz.1 hh).1,hh⟩
 ·cases h
theorem El {H L:List ap} {n:Nat} {F:ap} (hd:qa H[n]?=true) (ht:L.take (H.set n F).length=H.set n F):L[n]?=some F∧∀(i:Nat) (B:ap),H[i]?=some B→B=.dead∨L[i]?=some B:=by
 obtain⟨h1,h2⟩:=F8 hd
 have key:∀i,i<H.length→L[i]?=(H.set n F)[i]?:=fun i hi=>by
  rw[← ht,R8,RH (by simpa using hi)]
 refine⟨by rw[key n h1,RR h1],fun i B hB=>?_⟩
 have hi:i<H.length:=(Rz.1 hB).1
 by_cases e:i=n
 ·subst e
  rw[h2]at hB
  cases hB
  exact .inl rfl
 ·rw[key i hi,RQ (fun h=>e h.symm)]
  exact .inr hB
theorem vA (h:bc C S μ st a w) {dst:Option Nat} {g:FuncId} {ds:List D} {r:D} {env:List (Nat×D)} {H:List ap} {us:Array Value} (UG:∀(μ1:Nat→Value) (H1:List ap),bc C S μ1 ⟨st.env,H1⟩ a w→aM S μ1 w ds us)
  (hp:Hq C.P C.nt st dst g ds r env H=(T4,p)) (G':p) {K:Act→World→Prop} (hK:∀S' μ' a' w',bc C S' μ' T4 a' w'→K a' w'):gX C.P g=true∧Calls C.P g us w (fun e w'=>∃u,e=.returned u∧K (a.put dst u) w'):=by
 unfold Hq at hp
 split at hp
 ·rename_i hc
  simp only[RA]at hc
  obtain⟨⟨⟨Wx,Vu⟩,Y8⟩,YN⟩:=hc
  refine⟨Wx,?_⟩
  obtain⟨fn,c,hf,hb,hn,hev⟩:=ez hp G' a.tmps
  rw[SM]at hn
  have h1:=h.pushFrame Vu Y8
  obtain⟨mk,d1,d2,d3⟩:=h1.defers
  have Vk:=UG _ _ h1
  let C1:kU:=⟨C.P,C.W,C.S0,fn.ntmps,mk++C.susp,none,C.g⟩
  have hR:bc C1 S (aZ μ st.heap.length (.bool true)) ⟨i7 0 ds,st.heap++[.frame a.tmps st.env]⟩ (vn us fn.ntmps) w :=
   h1.turn (C1:=C1) (mk:=mk) (mk1:=[]) d2 d3 rfl rfl rfl (qL Vk.1 hn) (uq Vk hn)
  refine(jx (C:=C1) hf hb rfl hR (hev C1 rfl rfl rfl) (fun e T4 hq=>?_)).mono ?_
  ·cases e<;>first | exact⟨.inl rfl,hq.1⟩ | exact⟨.inr rfl,hq.1⟩ | exact hq.elim
  rintro e w' ⟨u,e0,UW,S',μ',a1,rfl,V1,Z0,Z1⟩
  refine⟨u,rfl,?_⟩
  have Wn:p6 (iJ C.P fn UW) r∧UW.heap.take (H.set st.heap.length (.frame a.tmps env)).length=H.set st.heap.length (.frame a.tmps env):=by
   cases e0<;>first | exact V1.2 | exact V1.elim
  obtain⟨N',Y9⟩:=El YN Wn.2
  obtain⟨_,XK⟩:=Z0.heap.box _ _ N'
  have WW:=Z0.back (C:=C) (a:=a) (mk:=mk) rfl rfl rfl d1 h.tsize (env:=env) (fun t d hm=>by
   have:=XK t d hm
   rw[h.tsize]at this
   exact this)
  have WM:=WW.heapTo (H:=H) Y9
  exact hK _ _ _ _ (WM.ePut hp G' (qG Wn.1 Z1)).2
 ·exact au hp G'
theorem F9 {S:Nat→Prop} {μ:Nat→Value} {w:World} {nt:Nat}:∀(ps:List Nat) (ds:List D) (us:List Value) (env:List (Nat×D)) (tm:Array Value),ds.length=us.length→(∀(j:Nat) (y:D) (u:Value),ds[j]?=some y→us[j]?=some u→an S μ w y u)→tm.size=nt→ps.all (fun p=>Nat.blt p nt)=true →
  (∀(t:Nat) (d:D),(t,d)∈env→t<nt∧an S μ w d (tm.getD t undef)) →
  ((ps.zip us).foldl (fun (tmps:Array Value) (x:Nat×Value)=>tmps.setIfInBounds x.1 x.2) tm).size=nt ∧
  ∀(t:Nat) (d:D),(t,d)∈Ei ps ds env→t<nt∧an S μ w d (((ps.zip us).foldl (fun (tmps:Array Value) (x:Nat×Value)=>tmps.setIfInBounds x.1 x.2) tm).getD t undef):=by
 intro ps
 induction ps with
 | nil=>intro ds us env tm _ _ hs _ he;exact⟨hs,fun t d hm=>he t d (by cases ds<;>exact hm)⟩
 | cons p ps ih =>
  intro ds us env tm hl hd hs hp he
  cases ds with
  | nil =>
   cases us with
   | nil=>exact⟨hs,fun t d hm=>he t d hm⟩
   | cons u us=>simp at hl
  | cons d0 ds =>
   cases us with
   | nil=>simp at hl
   | cons u us =>
    simp only[TD,RA,TS]at hp
    refine ih ds us (AN env p d0) (tm.setIfInBounds p u) (by simpa using hl) (fun j y v hy hv=>hd (j+1) y v (by simpa using hy) (by simpa using hv)) (by simpa using hs) hp.2 (fun t d hm=>?_)
    rcases Sq.1 hm with hm | hm
    ·cases hm
     refine⟨hp.1,?_⟩
     have:(tm.setIfInBounds p u).getD p undef=u:=by
      have hts:p<tm.size:=by omega
      simp[hts]
     rw[this]
     exact hd 0 d0 u rfl rfl
    ·obtain⟨h1,h2⟩:=gi hm
     obtain⟨q1,q2⟩:=he t d h1
     refine⟨q1,?_⟩
     have:(tm.setIfInBounds p u).getD t undef=tm.getD t undef:=by
      simp only[Sx]
      rw[SE (fun e=>h2 e.symm)]
     rw[this]
     exact q2
theorem yZ (h:bc C S μ st a w) {o:Oper} {f:Operand} {args:Array Operand} {Xr:Array TypeId} (ho:o.op=.call ⟨.value f,args,Xr⟩) {id:Nat} (hf:eX st.env f=.yld id) {b:Bool} {env:List (Nat×D)} {H:List ap}
  (hp:CT C.P C.nt st o.dst id (args.toList.map (eX st.env)) b env H=(T4,p)) (G':p) {K:Act→World→Prop} {Q:Exit→Act→World→Prop} (hK:∀S' μ' a' w',bc C S' μ' T4 a' w'→K a' w') :
  o.uponIn (od C.rd) 0 C.P a K Q ((execOp a.eval o).run C.P w):=by
 unfold CT at hp
 split at hp
 ·rename_i l tm ZB Y5 ps q' body N'
  split at hp
  ·rename_i hc
   simp only[RA,RY]at hc
   obtain⟨⟨⟨⟨Vu,Y8⟩,YN⟩,Xf⟩,Yh⟩:=hc
   have hq:=ez hp G' a.tmps
   have Uh:id<st.heap.length:=(Rz.1 N').1
   have VF:an S μ w (.yld id) (a.eval f):=hf ▸ h.eval f
   obtain⟨r0,hμ0,g1,g2,g3,g4,g5,g6,g7,g8,g9⟩:=h.heap.box id _ N'
   have hfe':a.eval f=.func (.yield l) #[] #[]:=by
    generalize a.eval f=uf at VF
    cases VF with
    | yld _ l' hl =>
     rw[hμ0]at hl
     simp[bL,aI]at hl
     rw[hl]
   have Ul:(args.map a.eval).size=r0.params.size:=by
    rw[g4]
    simp only[Array.size_map,TN]
    simpa using Xf.symm
   have Uo:(execOp a.eval o).run C.P w=.ok (.round l r0.fn ((r0.params.zip (args.map a.eval)).foldl (fun tmps (t,a)=>tmps.setIfInBounds t a) r0.tmps) r0.assign r0.body) w:=by
    have:=run_yield (P:=C.P) g1 Ul
    simp[execOp,ho,resolve,hfe',Deferred.ofValue,invoke,this]
   rw[Uo,Oper.uponIn_round]
   refine⟨fun hx=>(by rw[xj]at hx;cases hx),?_⟩
   have h1:=h.pushFrame Vu Y8
   have hid1:(st.heap++[ap.frame a.tmps st.env])[id]?=some (.loop l tm ZB Y5 ps q' body .ready none):=by rw[RP Uh];exact N'
   obtain⟨mk,d1,d2,d3⟩:=h1.defers
   let C1:kU:=⟨C.P,C.W,C.S0,ZB,mk++C.susp,some l,C.g⟩
   have hfen:(od C.rd).inRound l=od (some l):=by cases C.rd<;>rfl
   have hargs:=aM.evals h1 args
   obtain⟨r2,_,m1,_,_,_,_,_,m7,m8,m9⟩:=h1.heap.box id _ hid1
   have Z2:=F9 (S:=S) (w:=w) ps (args.toList.map (eX st.env)) (args.map a.eval).toList Y5 tm (by simp) (fun j y u hy hu=>hargs.2 j y u hy (by simpa using hu)) g8 Yh m9
   have hfold:(r0.params.zip (args.map a.eval)).foldl (fun tmps (t,a)=>tmps.setIfInBounds t a) r0.tmps=(ps.zip (args.map a.eval).toList).foldl (fun (tmps:Array Value) (x:Nat×Value)=>tmps.setIfInBounds x.1 x.2) tm:=by
    rw[← Array.foldl_toList,Array.toList_zip,g4,g7]
   rw[hfold,g5,g6]
   have h3:bc C1 S _ ⟨Ei ps (args.toList.map (eX st.env)) Y5,st.heap++[ap.frame a.tmps st.env]⟩ { tmps:=(ps.zip (args.map a.eval).toList).foldl (fun (tmps:Array Value) (x:Nat×Value)=>tmps.setIfInBounds x.1 x.2) tm,defers:=[] } w :=
    h1.turn (C1:=C1) (mk:=mk) (mk1:=[]) d2 d3 rfl rfl rfl Z2.1 Z2.2
   refine roundIn_of_wpIn (pV _ _) ?_
   rw[hfen]
   refine wpIn_mono (hq C1 rfl rfl rfl _ _ _ _ h3) ?_
   rintro e1 a1 w1 ⟨sta,Sa,μa,hqa,hRa⟩
   cases e1<;>first | exact hqa.elim | skip
   simp only[CR]at hqa
   split at hqa
   case h_2=>exact hqa.elim
   rename_i l1 UM nt1 env1 ps1 as1 bd1 hbxa
   obtain⟨rfl,hqb⟩:=hqa
   obtain⟨r,k1,k2,k3,k4,k5,k6,k7,k8,h2⟩:=hRa.loopTo hbxa .busy none
   have hbeg:(Instr.beginRound l1).run C.P w1=.ok () (w1.putObj l1 (.loop { r with state:=.busy,pending:=none })):=by
    rw[run_beginRound k1 k2]
    rw[show({ r with state:=.busy }:Loop)={ r with state:=.busy,pending:=none } from by rw[← k3]]
   refine⟨_,hbeg,?_⟩
   refine wpIn_mono (hqb _ _ _ _ h2) ?_
   rintro e a' w' ⟨UW,S',μ',V1,Z0⟩
   unfold yX at V1
   split at V1
   ·rename_i l2 V9 nt2 env2 ps2 as2 bd2 s2 p2 XI
    obtain⟨rfl,Z3,Y7⟩:=V1
    have ZI:∀XR:Option Code,CQ e=some XR.isNone→qN e=(if XR.isNone then .ready else .done)→ut e=XR→∃v w2,(Instr.endRound l2 XR).run C.P w'=.ok v w2∧K (a.put o.dst v) w2:=by
     intro XR j1 j2 j3
     obtain⟨r3,n1,n2,n3,n4,n5,n6,n7,n8,h4⟩:=Z0.loopTo XI (qN e) (ut e)
     refine⟨_,_,run_endRound XR n1,?_⟩
     obtain⟨hbf,Y9⟩:=El YN Y7
     obtain⟨_,XK⟩:=h4.heap.box _ _ hbf
     have WW:=h4.back (C:=C) (a:=a) (mk:=mk) rfl rfl rfl d1 h.tsize (env:=env) (fun t d hm=>by
      have:=XK t d hm
      rw[h.tsize]at this
      exact this)
     have WM:=WW.heapTo (H:=H) Y9
     rw[j2,j3]at WM
     have ZU:b=XR.isNone:=by rw[Z3]at j1;exact Option.some.inj j1
     refine hK _ _ _ _ (WM.ePut hp G' ?_).2
     rw[← ZU]
     exact .v _ _ (.bool b)
    cases e with
    | normal=>exact ZI none rfl rfl rfl
    | ret=>exact ZI (some .ret) rfl rfl rfl
    | exit i=>exact ZI (some (.exit i)) rfl rfl rfl
    | goto i=>cases Z3
    | panic ch=>cases Z3
    | outgrown=>cases Z3
   ·exact V1.elim
  ·exact au hp G'
 ·exact au hp G'
end
end Go.Proofs.YtckgpflobhpnpaaGreat
namespace Go.Proofs.YtckgpflobhpnpaaGreat
open Go.RowKit
set_option linter.unusedVariables false
set_option linter.unusedSimpArgs false
def pz:List (Nat×Ov)→Nat→Ov
 | [],_=>.none
 | (j,o)::r,i=>if Nat.beq j i then o else pz r i
def gu (ops:List Oper) (st:St) (o:Oper):Option Bool :=
 match o.guard with
 | none=>some true
 | some (g,Ve)=>match (ops[g]?).bind (·.dst)with
  | some t=>match pD st.env t with
   | .v (.bool b)=>some (b==Ve)
   | .tup []=>some false
   | _=>none
  | none=>none
def mM (nt:Nat) (st:St) (dst:Option Nat):R2:=ePut nt st dst (.tup []) True
def dQ (P:Program) (nt:Nat) (ops:List Oper) (Us:List (Nat×Ov)):Nat→List Oper→St→R2
 | _,[],st=>(st,True)
 | i,o::r,st=>match gu ops st o with
  | some true=>match pH P nt (pz Us i) o st with
   | (UW,p1)=>match dQ P nt ops Us (i+1) r UW with
    | (Yc,p2)=>(Yc,p1∧p2)
  | some false=>match mM nt st o.dst with
   | (UW,p1)=>match dQ P nt ops Us (i+1) r UW with
    | (Yc,p2)=>(Yc,p1∧p2)
  | none=>aV st
def Hv:List (Nat×D)→Nat→Bool
 | [],_=>false
 | (s,_)::r,t=>Nat.beq s t||Hv r t
def mN (keep:List Nat) (env:List (Nat×D)):List (Nat×D) :=
 match keep with
 | []=>[]
 | t::r=>if Hv env t then (t,pD env t)::mN r env else mN r env
theorem vB:∀{env:List (Nat×D)} {t:Nat},Hv env t=true→∃e,(t,e)∈env
 | (s,e)::r,t,h=>by
  unfold Hv at h
  cases hs:Nat.beq s t
  ·rw[hs,Bool.false_or]at h
   obtain⟨e',h'⟩:=vB h
   exact⟨e',Sb _ h'⟩
  ·rw[RY]at hs
   subst hs
   exact⟨e,Se ..⟩
theorem sB {env:List (Nat×D)}:∀{keep:List Nat} {t:Nat} {d:D},(t,d)∈mN keep env→d=.junk∧(∃e,(t,e)∈env)∨(t,d)∈env
 | [],t,d,h=>by cases h
 | s::r,t,d,h=>by
  unfold mN at h
  split at h
  ·rename_i hh
   rcases Sq.1 h with h | h
   ·cases h
    rcases ss (env:=env) (t:=s)with h1 | h1
    ·exact .inl ⟨h1,vB hh⟩
    ·exact .inr h1
   ·exact sB h
  ·exact sB h
section
variable {C:kU} {S:Nat→Prop} {μ:Nat→Value} {st T4:St} {a:Act} {w w':World} {p:Prop}
theorem AX (h:bc C S μ st a w) {ov:Ov} {o:Oper} {f:Operand} {args:Array Operand} {Xr:Array TypeId} (ho:o.op=.call ⟨.value f,args,Xr⟩)
  (hp:Ht C.P C.nt st ov o.dst (eX st.env f) (args.toList.map (eX st.env))=(T4,p)) (G':p) {K:Act→World→Prop} {Q:Exit→Act→World→Prop} (hK:∀S' μ' a' w',bc C S' μ' T4 a' w'→K a' w') :
  o.uponIn (od C.rd) 0 C.P a K Q ((execOp a.eval o).run C.P w):=by
 unfold Ht at hp
 split at hp
 ·rename_i g first cap hf
  have VF:=hf ▸ h.eval f
  split at hp
  ·rename_i q' al r
   split at hp
   ·rename_i hc
    simp only[RA,Sh,Sj]at hc
    obtain⟨⟨Wx,hr⟩,UL⟩:=hc
    have Vv:=aM.evals h args
    refine jv ?_
    generalize Vu:a.eval f=uf at VF
    cases VF with
    | fn _ _ _ us vs h1 h2 h3 h4 =>
     have Uo:(execOp a.eval o).run C.P w=.ok (.enter g (us++args.map a.eval++vs)) w:=by
      simp[execOp,ho,resolve,Vu,Deferred.ofValue,invoke,bG Wx]
     rw[Uo,TB]
     have hall:aM S μ w (first++args.toList.map (eX st.env)++cap) (us++args.map a.eval++vs):=(aM.app (aM.app ⟨h1,h2⟩ Vv) ⟨h3,h4⟩)
     have hq:p8 C.P g st.heap (first++args.toList.map (eX st.env)++cap) q' al r:=ez hp G'
     refine(h.callPure hq hall UL hr (K:=fun u w'=>K (a.put o.dst u) w') ?_).mono ?_
     ·intro S' u w' hR hd
      exact hK _ _ _ _ (hR.ePut hp G' hd).2
     ·rintro e w' ⟨u,rfl,hu⟩
      exact hu
   ·exact au hp G'
  ·rename_i id q' r
   split at hp
   ·rename_i hc
    simp only[RA]at hc
    obtain⟨Wx,hr⟩:=hc
    have Vv:=aM.evals h args
    refine jv ?_
    generalize Vu:a.eval f=uf at VF
    cases VF with
    | fn _ _ _ us vs h1 h2 h3 h4 =>
     have Uo:(execOp a.eval o).run C.P w=.ok (.enter g (us++args.map a.eval++vs)) w:=by
      simp[execOp,ho,resolve,Vu,Deferred.ofValue,invoke,bG Wx]
     rw[Uo,TB]
     have hall:aM S μ w (first++args.toList.map (eX st.env)++cap) (us++args.map a.eval++vs):=(aM.app (aM.app ⟨h1,h2⟩ Vv) ⟨h3,h4⟩)
     have hq:ld C.P g st.heap (first++args.toList.map (eX st.env)++cap) id q' r:=ez hp G'
     refine(h.callR hq hall hr (K:=fun u w'=>K (a.put o.dst u) w') ?_).mono ?_
     ·intro S' u w' hR hd
      exact hK _ _ _ _ (hR.ePut hp G' hd).2
     ·rintro e w' ⟨u,rfl,hu⟩
      exact hu
   ·exact au hp G'
  ·rename_i q' al r
   split at hp
   ·rename_i hc
    simp only[RA,Sh,Sj]at hc
    obtain⟨hr,UL⟩:=hc
    have Wx:=(ez hp G').1
    have Vv:=aM.evals h args
    refine jv ?_
    generalize Vu:a.eval f=uf at VF
    cases VF with
    | fn _ _ _ us vs h1 h2 h3 h4 =>
     have Uo:(execOp a.eval o).run C.P w=.ok (.enter g (us++args.map a.eval++vs)) w:=by
      simp[execOp,ho,resolve,Vu,Deferred.ofValue,invoke,bG Wx]
     rw[Uo,TB]
     have hall:aM S μ w (first++args.toList.map (eX st.env)++cap) (us++args.map a.eval++vs):=(aM.app (aM.app ⟨h1,h2⟩ Vv) ⟨h3,h4⟩)
     have hq:p8 C.P g st.heap (first++args.toList.map (eX st.env)++cap) q' al r:=(ez hp G').2
     refine(h.callPure hq hall UL hr (K:=fun u w'=>K (a.put o.dst u) w') ?_).mono ?_
     ·intro S' u w' hR hd
      exact hK _ _ _ _ (hR.ePut hp G' hd).2
     ·rintro e w' ⟨u,rfl,hu⟩
      exact hu
   ·exact au hp G'
  ·rename_i r env H
   generalize Vu:a.eval f=uf at VF
   cases VF with
   | fn _ _ _ us vs h1 h2 h3 h4 =>
    have hs:=vA (us:=us++args.map a.eval++vs) h (fun μ1 H1 h'=>by
     have Za:an S μ1 w (.fn (.func g) first cap) (a.eval f):=hf ▸ h'.eval f
     rw[Vu]at Za
     cases Za with
     | fn _ _ _ _ _ q1 q2 q3 q4=>exact aM.app (aM.app ⟨q1,q2⟩ (aM.evals h' args)) ⟨q3,q4⟩) hp G' (K:=K) hK
    have Uo:(execOp a.eval o).run C.P w=.ok (.enter g (us++args.map a.eval++vs)) w:=by
     simp[execOp,ho,resolve,Vu,Deferred.ofValue,invoke,bG hs.1]
    refine jv ?_
    rw[Uo,TB]
    refine hs.2.mono ?_
    rintro e w' ⟨u,rfl,hu⟩
    exact hu
  ·rename_i r
   obtain⟨p',Vo,hob'⟩:=Hs hp G'
   generalize Vu:a.eval f=uf at VF
   cases VF with
   | fn _ _ _ us vs h1 h2 h3 h4 =>
    have hs:=vA (us:=us++args.map a.eval++vs) h (fun μ1 H1 h'=>by
     have Za:an S μ1 w (.fn (.func g) first cap) (a.eval f):=hf ▸ h'.eval f
     rw[Vu]at Za
     cases Za with
     | fn _ _ _ _ _ q1 q2 q3 q4=>exact aM.app (aM.app ⟨q1,q2⟩ (aM.evals h' args)) ⟨q3,q4⟩) Vo hob' (K:=K) hK
    have Uo:(execOp a.eval o).run C.P w=.ok (.enter g (us++args.map a.eval++vs)) w:=by
     simp[execOp,ho,resolve,Vu,Deferred.ofValue,invoke,bG hs.1]
    refine jv ?_
    rw[Uo,TB]
    refine hs.2.mono ?_
    rintro e w' ⟨u,rfl,hu⟩
    exact hu
  ·rename_i q' r B
   split at hp
   ·rename_i hc
    simp only[RA]at hc
    obtain⟨⟨⟨Wx,hr⟩,hfe1⟩,Y8⟩:=hc
    have Vv:=aM.evals h args
    refine jv ?_
    generalize Vu:a.eval f=uf at VF
    cases VF with
    | fn _ _ _ us vs h1 h2 h3 h4 =>
     have Uo:(execOp a.eval o).run C.P w=.ok (.enter g (us++args.map a.eval++vs)) w:=by
      simp[execOp,ho,resolve,Vu,Deferred.ofValue,invoke,bG Wx]
     rw[Uo,TB]
     have hall:aM S μ w (first++args.toList.map (eX st.env)++cap) (us++args.map a.eval++vs):=(aM.app (aM.app ⟨h1,h2⟩ Vv) ⟨h3,h4⟩)
     have hq:yU C.P g st.heap (first++args.toList.map (eX st.env)++cap) q' r B:=ez hp G'
     refine(h.callOwn hq hall hr hfe1 Y8 (K:=fun u w'=>K (a.put o.dst u) w') ?_).mono ?_
     ·intro S' μ' u w' hR hd
      exact hK _ _ _ _ (hR.ePut hp G' hd).2
     ·rintro e w' ⟨u,rfl,hu⟩
      exact hu
   ·exact au hp G'
  ·rename_i q' r B
   split at hp
   ·rename_i hc
    simp only[RA]at hc
    obtain⟨⟨⟨Wx,hr,hBA,U'⟩,hfe1⟩,Y8⟩:=hc
    have Vv:=aM.evals h args
    refine jv ?_
    generalize Vu:a.eval f=uf at VF
    cases VF with
    | fn _ _ _ us vs h1 h2 h3 h4 =>
     have Uo:(execOp a.eval o).run C.P w=.ok (.enter g (us++args.map a.eval++vs)) w:=by
      simp[execOp,ho,resolve,Vu,Deferred.ofValue,invoke,bG Wx]
     rw[Uo,TB]
     have hall:aM S μ w (first++args.toList.map (eX st.env)++cap) (us++args.map a.eval++vs):=(aM.app (aM.app ⟨h1,h2⟩ Vv) ⟨h3,h4⟩)
     have hq:ur C.P g st.heap (first++args.toList.map (eX st.env)++cap) q' r B:=ez hp G'
     refine(h.callDeep hq hall hr hBA U' hfe1 Y8 (K:=fun u w'=>K (a.put o.dst u) w') ?_).mono ?_
     ·intro S' μ' u w' hR hd
      exact hK _ _ _ _ (hR.ePut hp G' hd).2
     ·rintro e w' ⟨u,rfl,hu⟩
      exact hu
   ·exact au hp G'
  ·exact au hp G'
 ·rename_i id hf
  split at hp
  ·exact yZ h ho hf hp G' hK
  ·exact au hp G'
 ·exact au hp G'
theorem mO (k:Int):∀(arr:List MapEntry) (es:List (Int×Value)) (n j:Nat) (e:Int×Value),arr.map (fun e=>(e.key,e.val))=es.map (fun e=>(Value.int .i64 e.1,e.2))→es[j]?=some e→k=e.1→(∀e'∈es.take j,k≠e'.1) →
  Instr.findNow (.int .i64) (.int .i64 k) arr n=some (some (n+j,e.2))
 | [],es,n,j,e,h,he,_,_=>by
  have:es=[]:=by simpa using h.symm
  rw[this]at he;simp at he
 | a::arr,[],n,j,e,h,he,_,_=>by simp at he
 | a::arr,x::es,n,0,e,h,he,hk,_=>by
  simp only[SJ,SN,RI]at h
  simp at he
  subst he
  unfold Instr.findNow
  rw[h.1.1,h.1.2]
  simp[Instr.sameNow,hk]
 | a::arr,x::es,n,j+1,e,h,he,hk,ha=>by
  simp only[SJ,SN,RI]at h
  have Vh:k≠x.1:=ha x (by simp)
  unfold Instr.findNow
  rw[h.1.1]
  have:(k==x.1)=false:=beq_eq_false_iff_ne.2 Vh
  simp only[Instr.sameNow,this,Tj]
  rw[mO k arr es (n+1) j e h.2 (by simpa using he) hk (fun e' WX=>ha e' (by simp[WX])),show n+1+j=n+(j+1)from by omega]
theorem qR (k:Int):∀(arr:List MapEntry) (es:List (Int×Value)) (n:Nat),arr.map (fun e=>(e.key,e.val))=es.map (fun e=>(Value.int .i64 e.1,e.2))→(∀e'∈es,k≠e'.1)→Instr.findNow (.int .i64) (.int .i64 k) arr n=some none
 | [],es,n,h,_=>by simp[Instr.findNow]
 | a::arr,[],n,h,_=>by simp at h
 | a::arr,x::es,n,h,ha=>by
  simp only[SJ,SN,RI]at h
  have Vh:k≠x.1:=ha x (by simp)
  unfold Instr.findNow
  rw[h.1.1]
  have:(k==x.1)=false:=beq_eq_false_iff_ne.2 Vh
  simp only[Instr.sameNow,this,Tj]
  exact qR k arr es (n+1) h.2 (fun e' WX=>ha e' (by simp[WX]))
theorem qb {P:Program} {w:World} {t K E:TypeId} {b clock:Nat} {arr:Array MapEntry} {n:Int} (ht:P.underlying t=some (.map K E)) (hK:P.underlying K=some (.int .i64)) (hb:w.heap[b]?=some (.map arr clock)) {r:Option (Nat×Value)} (hf:Instr.findNow (.int .i64) (.int .i64 n) arr.toList 0=some r) {z:Value} (hz:r=none→(zeroValue E).run P w=.ok z w) :
  (Instr.lookup t (.map (some b)) (.int .i64 n) true).run P w=.ok (.tuple #[match r with | some (_,v)=>v | none=>z,.bool r.isSome]) w:=by
 have hu:(underlying t).run P w=.ok (.map K E) w:=by simp[underlying,ht,RG,Sem.run]
 have WH:(underlying K).run P w=.ok (.int .i64) w:=by simp[underlying,hK,RG,Sem.run]
 have hg:(getObj b).run P w=.ok (.map arr clock) w:=by simp[getObj,Sem.run,hb]
 have hc:(Instr.checkKey arr.isEmpty 10000 K (.int .i64 n)).run P w=.ok () w:=by
  rw[show(10000:Nat)=9999+1 from rfl]
  unfold Instr.checkKey
  simp[RG,WH]
 have hk:(Instr.findKey K (.int .i64 n) arr.toList).run P w=.ok r w:=by
  simp[Instr.findKey,RG,WH,hf]
 cases r with
 | some q =>
  obtain⟨i,v⟩:=q
  simp[Instr.lookup,RG,hu,hg,hc,hk]
 | none =>
  simp[Instr.lookup,RG,hu,hg,hc,hk,hz rfl]
theorem wZ (h:bc C S μ st a w) {ov:Ov} {t:TypeId} {m k x:D} {um uk ux:Value} (hm:an S μ w m um) (hk:an S μ w k uk) (hx:an S μ w x ux) (hp:yW C.P st ov t m k x=(T4,p)) (G':p) :
  ∃w',(Instr.mapUpdate t um uk ux).run C.P w=.ok () w'∧bc C S μ T4 a w':=by
 unfold yW at hp
 exact au hp G'
theorem mP (h:bc C S μ st a w) {ov:Ov} {o:Oper} (hp:pH C.P C.nt ov o st=(T4,p)) (G':p) {K:Act→World→Prop} {Q:Exit→Act→World→Prop}
  (hK:∀S' μ' a' w',bc C S' μ' T4 a' w'→K a' w'):o.uponIn (od C.rd) 0 C.P a K Q ((execOp a.eval o).run C.P w):=by
 have hv:∀(s:Sem Value) (u:Value) (w':World),s.run C.P w=.ok u w'→(do pure (.value (← s)):Sem Next).run C.P w=.ok (.value u) w':=by
  intro s u w' h
  simp only[RG,h,RF,R5]
 have val:∀(u:Value) (w':World) (μ':Nat→Value),(execOp a.eval o).run C.P w=.ok (.value u) w'→bc C S μ' T4 (a.put o.dst u) w'→o.uponIn (od C.rd) 0 C.P a K Q ((execOp a.eval o).run C.P w):=by
  intro u w' μ' hr hR
  rw[hr,Oper.uponIn_value]
  exact hK _ _ _ _ hR
 have hpure:vw C.nt st ov o.dst (gg C.P st.heap (eX st.env) o.op)=(T4,p)→o.uponIn (od C.rd) 0 C.P a K Q ((execOp a.eval o).run C.P w):=by
  intro hp
  generalize hq:gg C.P st.heap (eX st.env) o.op=q at hp
  obtain⟨d,q⟩:=q
  unfold vw at hp
  split at hp
  ·rename_i d' _
   have hqq:q∧p6 d d':=by
    unfold ePut at hp
    split at hp
    ·split at hp
     ·simp only[RI]at hp;rw[← hp.2]at G';exact G'
     ·exact au hp G'
    ·simp only[RI]at hp;rw[← hp.2]at G';exact G'
   obtain⟨u,h1,h2⟩:=iH h.heap h.eval hq hqq.1
   exact val u w μ h1 (h.ePut hp G' (qG hqq.2 h2)).2
  ·rename_i d' _
   have hqq:q∧xo d d':=by
    unfold ePut at hp
    split at hp
    ·split at hp
     ·simp only[RI]at hp;rw[← hp.2]at G';exact G'
     ·exact au hp G'
    ·simp only[RI]at hp;rw[← hp.2]at G';exact G'
   obtain⟨u,h1,h2⟩:=iH h.heap h.eval hq hqq.1
   exact val u w μ h1 (h.ePut hp G' (hqq.2 _ _ _ _ h2)).2
  ·have hqq:q:=by
    unfold ePut at hp
    split at hp
    ·split at hp
     ·simp only[RI]at hp;rw[← hp.2]at G';exact G'
     ·exact au hp G'
    ·simp only[RI]at hp;rw[← hp.2]at G';exact G'
   obtain⟨u,h1,h2⟩:=iH h.heap h.eval hq hqq
   exact val u w μ h1 (h.ePut hp G' h2).2
 unfold pH at hp
 split at hp
 ·rename_i T ho
  split at hp
  ·rename_i z hz
   obtain⟨v,Vf,Wy⟩:=gU (P:=C.P) (S:=S) (μ:=μ) (w:=w) hz
   refine val _ _ _ ?_ (h.eVar hp G' Wy)
   simp[execOp,ho,Instr.alloc,RG,Vf,newVar,newRow,newObj,Sem.run]
  ·exact au hp G'
 ·rename_i T x ho
  split at hp
  ·rename_i cs hcs
   refine val _ _ _ ?_ (h.eVar hp G' (iG h.heap (h.eval x) hcs))
   simp[execOp,ho,Instr.box,newVar,newRow,newObj,Sem.run]
  ·exact au hp G'
 ·rename_i t ad x ho
  split at hp
  ·rename_i hd
   obtain⟨w',h1,h2⟩:=qQ h (h.eval ad) (h.eval x) hp G'
   have hr:(execOp a.eval o).run C.P w=.ok .skip w':=by
    simp only[execOp,ho,RG,h1,RF,R5]
   rw[hr,Oper.uponIn_skip,hd]
   exact hK _ _ _ _ h2
  ·exact au hp G'
 ·rename_i t len T6 ho
  have Wz:∀(ov:Ov) (UW:St) (p1:Prop),sy C.P C.nt st ov o.dst t len (T6.toList.map fun p=>(p.1,eX st.env p.2))=(UW,p1)→p1→∃u w' μ',(execOp a.eval o).run C.P w=.ok (.value u) w'∧bc C S μ' UW (a.put o.dst u) w':=by
   intro ov UW p1 hp G'
   obtain⟨u,w',μ',h1,h2⟩:=yY h (Ue:=T6.toList.map fun p=>(p.1,a.eval p.2)) (by simp) (fun j x u hx hu=>by
    simp only[R3,Si]at hx hu
    cases hj:T6[j]? with
    | none=>rw[hj]at hx;cases hx
    | some q=>rw[hj]at hx hu;simp at hx hu;subst hx hu;exact h.eval q.2) hp G'
   refine⟨u,w',μ',?_,h2⟩
   have he:T6.map (fun (i,x)=>(i,a.eval x))=(T6.toList.map fun p=>(p.1,a.eval p.2)).toArray:=TA (by simp)
   rw[← he]at h1
   simp only[execOp,ho,RG,h1,RF,R5]
  split at hp
  ·generalize hq:sy C.P C.nt st _ o.dst t len _=q at hp
   obtain⟨UW,p1⟩:=q
   simp only at hp
   split at hp
   ·rename_i Yc hfz
    simp only[RI]at hp
    obtain⟨rfl,rfl⟩:=hp
    obtain⟨u,w',μ',e1,e2⟩:=Wz _ _ _ hq G'
    obtain⟨S2,e3⟩:=e2.freeze hfz
    rw[e1,Oper.uponIn_value]
    exact hK _ _ _ _ e3
   ·exact au hp G'
  ·obtain⟨u,w',μ',e1,e2⟩:=Wz _ _ _ hp G'
   exact val u w' μ' e1 e2
 ·rename_i t l c ho
  have Wz:∀(ov:Ov) (UW:St) (p1:Prop),xy C.P C.nt st ov o.dst t (eX st.env l) (eX st.env c)=(UW,p1)→p1→∃u w' μ',(execOp a.eval o).run C.P w=.ok (.value u) w'∧bc C S μ' UW (a.put o.dst u) w':=by
   intro ov UW p1 hp G'
   obtain⟨u,w',μ',h1,h2⟩:=AW h (h.eval l) (h.eval c) hp G'
   refine⟨u,w',μ',?_,h2⟩
   simp only[execOp,ho,RG,h1,RF,R5]
  split at hp
  ·generalize hq:xy C.P C.nt st _ o.dst t _ _=q at hp
   obtain⟨UW,p1⟩:=q
   simp only at hp
   split at hp
   ·rename_i Yc hfz
    simp only[RI]at hp
    obtain⟨rfl,rfl⟩:=hp
    obtain⟨u,w',μ',e1,e2⟩:=Wz _ _ _ hq G'
    obtain⟨S2,e3⟩:=e2.freeze hfz
    rw[e1,Oper.uponIn_value]
    exact hK _ _ _ _ e3
   ·exact au hp G'
  ·obtain⟨u,w',μ',e1,e2⟩:=Wz _ _ _ hp G'
   exact val u w' μ' e1 e2
 ·rename_i args Xr ho
  split at hp
  ·rename_i s x t t' ha ht
   split at hp
   ·rename_i hc
    rw[RY]at hc
    subst hc
    have ea:args=#[s,x]:=TA (by simpa using ha)
    have et:Xr=#[t,t]:=TA (by simpa using ht)
    subst ea et
    split at hp
    ·obtain⟨u,w',S',μ',h1,h2⟩:=vz h (ty:=o.type) (h.eval s) (h.eval x) hp G'
     have hr:(execOp a.eval o).run C.P w=.ok (.value u) w':=by
      simp only[execOp,ho,resolve,invoke,builtin,Tl,SJ,R4,RG,R5,RF,h1]
     rw[hr,Oper.uponIn_value]
     exact hK _ _ _ _ h2
    ·obtain⟨u,w',μ',h1,h2⟩:=vy h (ty:=o.type) (h.eval s) (h.eval x) hp G'
     refine val u w' μ' ?_ h2
     simp only[execOp,ho,resolve,invoke,builtin,Tl,SJ,R4,RG,R5,RF,h1]
    ·obtain⟨u,w',μ',h1,h2⟩:=wY h (ty:=o.type) (h.eval s) (h.eval x) hp G'
     refine val u w' μ' ?_ h2
     simp only[execOp,ho,resolve,invoke,builtin,Tl,SJ,R4,RG,R5,RF,h1]
   ·exact au hp G'
  ·exact au hp G'
 ·rename_i f args Xr ho
  exact AX h ho hp G' hK
 ·rename_i t x ix ho
  split at hp
  ·rename_i i
   unfold Eh at hp
   generalize hx:eX st.env x=dx at hp
   generalize hix:eX st.env ix=dix at hp
   split at hp
   ·rename_i K E es k n hu
    split at hp
    ·rename_i hK2
     have hxr:=h.eval x
     have hir:=h.eval ix
     rw[hx]at hxr
     rw[hix]at hir
     have hiv:a.eval ix=.int .i64 n:=(show ∀u,dM S w (.int .i64 n) u→u=.int .i64 n from fun u h=>by cases h;rfl) _ (bv hir)
     obtain⟨b,clock,arr,e1,e2,e3⟩:∃(b clock:Nat) (arr:Array MapEntry),a.eval x=.map (some b)∧w.heap[b]?=some (.map arr clock)∧arr.toList.map (fun e=>(e.key,e.val))=es.map (fun e=>(Value.int .i64 e.1,e.2)):=by
      have:=bv hxr
      generalize a.eval x=u at this
      cases this with
      | mp _ b clock arr q1 q2 q3 q4=>exact⟨b,clock,arr,rfl,q3,q4⟩
     split at hp
     ·rename_i j
      split at hp
      ·rename_i e he
       have hq:=ez hp G'
       have hr:=qb hu hK2 e2 (mO n arr.toList es 0 j e e3 he hq.1 hq.2) (z:=undef) (fun h=>by cases h)
       refine val (.tuple #[e.2,.bool true]) w μ ?_ (h.ePut hp G' (.tup _ _ rfl (fun i y u hy hu=>?_))).2
       ·simp only[execOp,ho,e1,hiv,RG,hr,RF,R5,Option.isSome_some]
       ·match i with
        | 0=>simp at hy hu;subst hy hu;exact an.ofVal _ _ _ _
        | 1=>simp at hy hu;subst hy hu;exact .v _ _ (.bool _)
        | i+2=>simp at hy
      ·exact au hp G'
     ·split at hp
      ·rename_i z hz
       have hq:=ez hp G'
       have Yp:(zeroValue E).run C.P w=.ok z w:=by
        cases hi:C.P.info? E with
        | none=>simp[hi]at hz
        | some i0 =>
         simp only[hi,Tn]at hz
         simp[zeroValue,typeInfo,hi,hz,RG]
       have hr:=qb hu hK2 e2 (qR n arr.toList es 0 e3 hq) (z:=z) (fun _=>Yp)
       refine val (.tuple #[z,.bool false]) w μ ?_ (h.ePut hp G' (.tup _ _ rfl (fun i y u hy hu=>?_))).2
       ·simp only[execOp,ho,e1,hiv,RG,hr,RF,R5,Option.isSome_none]
       ·match i with
        | 0=>simp at hy hu;subst hy hu;exact an.ofVal _ _ _ _
        | 1=>simp at hy hu;subst hy hu;exact .v _ _ (.bool _)
        | i+2=>simp at hy
      ·exact au hp G'
    ·exact au hp G'
   ·exact au hp G'
  ·rename_i d
   unfold Oc at hp
   generalize hx:eX st.env x=dx at hp
   generalize hix:eX st.env ix=dix at hp
   split at hp
   ·rename_i K E es k n hu
    split at hp
    ·rename_i hK2
     have hxr:=h.eval x
     have hir:=h.eval ix
     rw[hx]at hxr
     rw[hix]at hir
     have hiv:a.eval ix=.int .i64 n:=(show ∀u,dM S w (.int .i64 n) u→u=.int .i64 n from fun u h=>by cases h;rfl) _ (bv hir)
     obtain⟨b,clock,arr,e1,e2,e3⟩:∃(b clock:Nat) (arr:Array MapEntry),a.eval x=.map (some b)∧w.heap[b]?=some (.map arr clock)∧arr.toList.map (fun e=>(e.key,e.val))=es.map (fun e=>(Value.int .i64 e.1,e.2)):=by
      have:=bv hxr
      generalize a.eval x=u at this
      cases this with
      | mp _ b clock arr q1 q2 q3 q4=>exact⟨b,clock,arr,rfl,q3,q4⟩
     obtain⟨j,e,he,V1,Wn,hq3⟩:=ez hp G'
     have hr:=qb hu hK2 e2 (mO n arr.toList es 0 j e e3 he V1 Wn) (z:=undef) (fun h=>by cases h)
     refine val (.tuple #[e.2,.bool true]) w μ ?_ (h.ePut hp G' (.tup _ _ rfl (fun i y u hy hu=>?_))).2
     ·simp only[execOp,ho,e1,hiv,RG,hr,RF,R5,Option.isSome_some]
     ·match i with
      | 0=>simp at hy hu;subst hy hu;exact qG hq3 (an.ofVal _ _ _ _)
      | 1=>simp at hy hu;subst hy hu;exact .v _ _ (.bool _)
      | i+2=>simp at hy
    ·exact au hp G'
   ·exact au hp G'
  ·exact hpure hp
 ·rename_i t ho
  split at hp
  ·rename_i t' ag α enc d l
   split at hp
   ·obtain⟨_,hR⟩:=h.newBox (u:=.map (some w.heap.size)) (w':=w.alloc (.map #[] 0)) hp G' (SW w _ none) ⟨w.heap.size,#[],0,rfl,SF w _,rfl,fun i k x hx=>by simp at hx⟩ (fun b hb=>by simp[bL,aI]at hb;omega) (v:=.map (some w.heap.size)) (by
     have:=an.own (S:=S) (μ:=aZ μ st.heap.length (.map (some w.heap.size))) (w:=w.alloc (.map #[] 0)) st.heap.length
     rwa [ay]at this)
    refine val _ _ _ ?_ hR
    simp[execOp,ho,Instr.makeMap,newObj,Sem.run]
   ·exact au hp G'
  ·exact au hp G'
 ·rename_i t m k x ho
  split at hp
  ·rename_i hd
   obtain⟨w',h1,h2⟩:=wZ h (h.eval m) (h.eval k) (h.eval x) hp G'
   have hr:(execOp a.eval o).run C.P w=.ok .skip w':=by
    simp only[execOp,ho,RG,h1,RF,R5]
   rw[hr,Oper.uponIn_skip,hd]
   exact hK _ _ _ _ h2
  ·exact au hp G'
 ·exact hpure hp
theorem cy (h:bc C S μ st a w) {ops:List Oper} {o:Oper} {b:Bool} (hg:gu ops st o=some b):Region.wanted o (yielded ops.toArray a.tmps)=b:=by
 unfold gu at hg
 unfold Region.wanted
 cases Zz:o.guard with
 | none=>rw[Zz]at hg;cases hg;rfl
 | some q =>
  obtain⟨g,Ve⟩:=q
  rw[Zz]at hg
  simp only at hg ⊢
  split at hg
  ·rename_i t ht
   have hv:=h.eval (.tmp t)
   have hy:yielded ops.toArray a.tmps g=match a.tmps[t]? with | some (.bool b)=>some b | _=>none:=by
    unfold yielded
    simp only[List.getElem?_toArray,ht,Tn]
    rfl
   rw[hy]
   simp only[eX]at hv
   split at hg
   ·rename_i c hl
    rw[hl]at hv
    have:=fK hv
    simp only[Act.eval,Sx]at this
    cases hq:a.tmps[t]? with
    | none=>rw[hq]at this;simp[undef]at this
    | some u =>
     rw[hq]at this
     simp at this
     subst this
     cases hg
     cases c<;>cases Ve<;>rfl
   ·rename_i hl
    rw[hl]at hv
    obtain⟨us,hu,h1,_⟩:=ud hv
    simp only[Act.eval,Sx]at hu
    cases hg
    cases hq:a.tmps[t]? with
    | none=>cases Ve<;>rfl
    | some u =>
     rw[hq]at hu
     simp at hu
     subst hu
     cases Ve<;>rfl
   ·cases hg
  ·cases hg
theorem AY {P:Program} {nt:Nat} {ov:Ov} {o:Oper} (hd:dg o=true) (hp:pH P nt ov o st=(T4,p)) (G':p):False:=by
 unfold dg at hd
 split at hd
 ·rename_i c ho
  unfold pH at hp
  rw[ho]at hp
  simp only[gg]at hp
  unfold vw at hp
  split at hp
  ·exact(ez hp G').1
  ·exact(ez hp G').1
  ·exact ez hp G'
 ·cases hd
theorem qS {ops:List Oper} {Us:List (Nat×Ov)} {Q:Exit→Act→World→Prop}:∀(l:List Oper) (i:Nat) (st:St) (S:Nat→Prop) (μ:Nat→Value) (a:Act) (w:World) (p:Prop),bc C S μ st a w→dQ C.P C.nt ops Us i l st=(T4,p)→p →
  (∀S' μ' a' w',bc C S' μ' T4 a' w'→Q .normal a' w')→wpListIn (od C.rd) 0 C.P ops.toArray Q l a w:=by
 intro l
 induction l with
 | nil =>
  intro i st S μ a w p h hp G' hK
  simp only[dQ,RI]at hp
  obtain⟨rfl,_⟩:=hp
  exact hK _ _ _ _ h
 | cons o r ih =>
  intro i st S μ a w p h hp G' hK
  unfold dQ at hp
  unfold wpListIn
  split at hp
  ·rename_i hg
   rw[RH (cy h hg)]
   generalize hq:pH C.P C.nt (pz Us i) o st=q at hp
   obtain⟨UW,p1⟩:=q
   simp only at hp
   generalize Wn:dQ C.P C.nt ops Us (i+1) r UW=q2 at hp
   obtain⟨Yc,p2⟩:=q2
   simp only[RI]at hp
   obtain⟨rfl,rfl⟩:=hp
   have hnd:dg o=false:=by
    cases hd:dg o
    ·rfl
    ·exact(AY hd hq G'.1).elim
   refine ub hnd (mP h hq G'.1 (fun S' μ' a' w' hR=>?_))
   exact ih (i+1) UW S' μ' a' w' p2 hR Wn G'.2 hK
  ·rename_i hg
   rw[RE (by rw[cy h hg];simp)]
   refine⟨fun f _=>pV _ f,?_⟩
   generalize hq:mM C.nt st o.dst=q at hp
   obtain⟨UW,p1⟩:=q
   simp only at hp
   generalize Wn:dQ C.P C.nt ops Us (i+1) r UW=q2 at hp
   obtain⟨Yc,p2⟩:=q2
   simp only[RI]at hp
   obtain⟨rfl,rfl⟩:=hp
   exact ih (i+1) UW _ _ _ _ p2 (h.ePut hq G'.1 (.tup [] #[] rfl (fun j y u hy _=>by simp at hy))).2 Wn G'.2 hK
  ·exact au hp G'
end
end Go.Proofs.YtckgpflobhpnpaaGreat
namespace Go.Proofs.YtckgpflobhpnpaaGreat
open Go.RowKit
set_option linter.unusedVariables false
set_option linter.unusedSimpArgs false
@[reducible] def thenQ (next:St→Prop) (Q:Exit→St→Prop):Exit→St→Prop
 | .normal,st=>next st
 | e,st=>Q e st
@[reducible] def blockQ (id:Nat) (Q:Exit→St→Prop):Exit→St→Prop
 | .exit i,st=>if Nat.beq i id then Q .normal st else Q (.exit i) st
 | e,st=>Q e st
section
variable {C:kU} {st:St} {Q:Exit→St→Prop}
theorem Ev.mono {c:Code} {Q':Exit→St→Prop} (h:Ev C c Q st) (hq:∀e T4,Q e T4→Q' e T4):Ev C c Q' st :=
 fun a w S μ hR=>wpIn_mono (h a w S μ hR) fun e a' w' ⟨T4,S',μ',q,r⟩=>⟨T4,S',μ',hq e T4 q,r⟩
theorem Ev.skip (h:Q .normal st):Ev C .skip Q st:=fun a w S μ hR=>wpIn_skip ⟨st,S,μ,h,hR⟩
theorem Ev.label {l:Nat} (h:Q .normal st):Ev C (.label l) Q st:=fun a w S μ hR=>wpIn_label ⟨st,S,μ,h,hR⟩
theorem Ev.exit {id:Nat} (h:Q (.exit id) st):Ev C (.exit id) Q st:=fun a w S μ hR=>wpIn_exit ⟨st,S,μ,h,hR⟩
theorem Ev.ret (h:Q .ret st):Ev C .ret Q st:=fun a w S μ hR=>wpIn_ret ⟨st,S,μ,h,hR⟩
theorem Ev.seq {x y:Code} (h:Ev C x (thenQ (Ev C y Q) Q) st):Ev C (.seq x y) Q st:=fun a w S μ hR=>by
 refine wpIn_seq (wpIn_mono (h a w S μ hR) ?_)
 rintro e a' w' ⟨T4,S',μ',hq,U0⟩
 cases e with
 | normal=>exact hq a' w' S' μ' U0
 | exit id=>exact⟨T4,S',μ',hq,U0⟩
 | goto l=>exact⟨T4,S',μ',hq,U0⟩
 | ret=>exact⟨T4,S',μ',hq,U0⟩
 | panic ch=>exact⟨T4,S',μ',hq,U0⟩
 | outgrown=>exact⟨T4,S',μ',hq,U0⟩
theorem Ev.cond {c:Operand} {x y:Code} (b:Bool) (hc:eX st.env c=.v (.bool b)) (hx:b=true→Ev C x Q st) (hy:b=false→Ev C y Q st):Ev C (.cond c x y) Q st:=fun a w S μ hR =>
 wpIn_cond_split (t:=b) (fK (hc ▸ hR.eval c)) (fun h=>hx h a w S μ hR) (fun h=>hy h a w S μ hR)
theorem Ev.block {id:Nat} {c:Code} (h:Ev C c (blockQ id Q) st):Ev C (.block id c) Q st:=fun a w S μ hR=>by
 refine wpIn_block (wpIn_mono (h a w S μ hR) ?_)
 rintro e a' w' ⟨T4,S',μ',hq,U0⟩
 cases e with
 | exit i =>
  simp only[blockQ]at hq
  simp only[Exit.inBlock]
  by_cases hi:i=id
  ·rw[RH hi]
   rw[RH (by rw[RY];exact hi)]at hq
   exact⟨T4,S',μ',hq,U0⟩
  ·rw[RE hi]
   rw[RE (by rw[RY];exact hi)]at hq
   exact⟨T4,S',μ',hq,U0⟩
 | normal=>exact⟨T4,S',μ',hq,U0⟩
 | goto l=>exact⟨T4,S',μ',hq,U0⟩
 | ret=>exact⟨T4,S',μ',hq,U0⟩
 | panic ch=>exact⟨T4,S',μ',hq,U0⟩
 | outgrown=>exact⟨T4,S',μ',hq,U0⟩
theorem li {R:Nat→Prop} (h:∃n,R n):∃n,R n∧∀m,R m→n≤m:=by
 obtain⟨n,hn⟩:=h
 induction n using Nat.strongRecOn with
 | _ n ih =>
  by_cases hm:∃m,m<n∧R m
  ·obtain⟨m,h1,h2⟩:=hm
   exact ih m h1 h2
  ·exact⟨n,hn,fun m hR=>by
    refine SI fun Un=>hm ⟨m,by omega,hR⟩⟩
theorem bc.keep {S:Nat→Prop} {μ:Nat→Value} {a:Act} {w:World} (h:bc C S μ st a w) (keep:List Nat):bc C S μ ⟨mN keep st.env,st.heap⟩ a w :=
 h.weak (fun t d hm=>sB hm)
def keepS (keep:List Nat) (n:Nat) (st:St):St:=⟨mN keep st.env,st.heap.take n⟩
theorem bc.keepS {S:Nat→Prop} {μ:Nat→Value} {a:Act} {w:World} (h:bc C S μ st a w) (keep:List Nat) (n:Nat):bc C S μ (keepS keep n st) a w :=
 (h.keep keep).heapTo (fun i A hA=>.inr (by
  rw[R8]at hA
  split at hA
  ·exact hA
  ·cases hA))
theorem Ev.keep {c:Code} (keep:List Nat) (n:Nat) {T4:St} (h:Proofs.YtckgpflobhpnpaaGreat.keepS keep n st=T4) (he:Ev C c Q T4):Ev C c Q st:=fun a w S μ hR=>by
 subst h
 exact he a w S μ (hR.keepS keep n)
theorem Ev.loop {σ:Type _} (keep:List Nat) (n:Nat) (mk:σ→St) (inv:σ→Prop) (m:σ→Nat) {c:Code} (s0:σ) (h0:Proofs.YtckgpflobhpnpaaGreat.keepS keep n st=mk s0) (hi:inv s0)
  (round:∀s,inv s→Ev C c (thenQ (fun T4=>∃s',Proofs.YtckgpflobhpnpaaGreat.keepS keep n T4=mk s'∧inv s'∧m s'<m s) Q) (mk s)):Ev C (.loop c) Q st:=fun a w S μ hR=>by
 have hR0:=hR.keepS keep n
 rw[h0]at hR0
 let R:Act→World→Nat→Prop:=fun a w n=>∃(s:σ) (S:Nat→Prop) (μ:Nat→Value),inv s∧m s=n∧bc C S μ (mk s) a w
 let M:Act→World→Nat:=fun a w=>@dite _ (∃n,R a w n) (Classical.propDecidable _) (fun h=>Classical.choose (li h)) (fun _=>0)
 have hM:∀a w,(∃n,R a w n)→R a w (M a w)∧∀n,R a w n→M a w≤n:=by
  intro a w h
  have:M a w=Classical.choose (li h):=dif_pos h
  rw[this]
  exact Classical.choose_spec (li h)
 refine wpIn_loop (fun a w=>∃n,R a w n) M ⟨m s0,s0,S,μ,hi,rfl,hR0⟩ ?_
 intro a w hI
 obtain⟨⟨s,S',μ',h1,h2,h3⟩,_⟩:=hM a w hI
 refine wpIn_mono (round s h1 a w S' μ' h3) ?_
 rintro e a' w' ⟨T4,S2,μ2,hq,U0⟩
 cases e with
 | normal =>
  obtain⟨s',hk,q1,q2⟩:=hq
  have XB:=U0.keepS keep n
  rw[hk]at XB
  have hex:∃n,R a' w' n:=⟨m s',s',S2,μ2,q1,rfl,XB⟩
  refine⟨hex,?_⟩
  have:=(hM a' w' hex).2 (m s') ⟨s',S2,μ2,q1,rfl,XB⟩
  omega
 | exit id=>exact⟨T4,S2,μ2,hq,U0⟩
 | goto l=>exact⟨T4,S2,μ2,hq,U0⟩
 | ret=>exact⟨T4,S2,μ2,hq,U0⟩
 | panic ch=>exact⟨T4,S2,μ2,hq,U0⟩
 | outgrown=>exact⟨T4,S2,μ2,hq,U0⟩
theorem Ev.cut {σ:Type _} (keep:List Nat) (n:Nat) (mk:σ→St) (inv:σ→Prop) {x y:Code} (hx:Ev C x (thenQ (fun T4=>∃s,Proofs.YtckgpflobhpnpaaGreat.keepS keep n T4=mk s∧inv s) Q) st) (hy:∀s,inv s→Ev C y Q (mk s)):Ev C (.seq x y) Q st :=
 Ev.seq (hx.mono (fun e T4 hq=>by
  cases e with
  | normal =>
   obtain⟨s,h1,h2⟩:=hq
   exact Ev.keep keep n h1 (hy s h2)
  | exit id=>exact hq
  | goto l=>exact hq
  | ret=>exact hq
  | panic ch=>exact hq
  | outgrown=>exact hq))
end
def V.scal:V→Bool
 | .sl _ _ _ _=>false
 | .mp _=>false
 | .sm _ _ _ _=>false
 | _=>true
def NW:D→D→Prop
 | .own _,.v (.sl _ enc _ l)=>∀z∈l,(enc z).all V.scal=true
 | _,.v (.sl _ _ _ l)=>l=[]
 | _,.v (.mp _)=>False
 | _,.v (.sm _ _ _ _)=>False
 | _,.v _=>True
 | _,.nils=>True
 | _,_=>False
def PJ:List D→List D→Prop
 | [],[]=>True
 | x::xs,y::ys=>NW x y∧PJ xs ys
 | _,_=>False
def Mo:D→D→Prop
 | .agg xs,.agg ys=>PJ xs ys
 | x,y=>NW x y
def PB:List D→List D→Prop
 | [],[]=>True
 | x::xs,y::ys=>Mo x y∧PB xs ys
 | _,_=>False
def AZ (al:Bool) (H:List ap):D→D→Prop
 | .tup xs,.tup ys=>N8 H xs ys∧(al=true∨PB xs ys)
 | x,y=>LJ H x y∧(al=true∨Mo x y)
section
variable {P:Program} {S:Nat→Prop} {μ:Nat→Value} {w:World}
theorem A1 {x:V} {u:Value} (h:dM S w x u) (hs:x.scal=true) (S':Nat→Prop):dM S' w x u:=by
 cases h with
 | int=>exact .int _ _
 | bool=>exact .bool _
 | str=>exact .str _
 | nil=>cases hs
 | row=>cases hs
 | mp=>cases hs
 | nilf=>exact .nilf
 | nsl=>exact .nsl
 | esl p c h=>exact .esl p c h
 | smn=>cases hs
 | sm=>cases hs
 | nmp=>exact .nmp
 | fnv f=>exact .fnv f
theorem Ga {sz:Nat} {α:Type} {enc:α→List V} {d:α} {l:List α} {u:Value} {S':Nat→Prop} (h:dM S w (.sl sz enc d l) u) (hs:∀z∈l,(enc z).all V.scal=true) (hb:∀b,bL u b→S' b):dM S' w (.sl sz enc d l) u:=by
 obtain⟨p,c,rfl,h1,h2,h3,h4⟩:=fJ h
 refine p5 rfl h1 h2 h3 (fun h0=>?_)
 obtain⟨b,M',us,rfl,q1,q2,q3,q4,q5⟩:=h4 h0
 refine⟨b,M',us,rfl,hb b (.inl rfl),q2,q3,q4,fun i x j y hx hy=>A1 (q5 i x j y hx hy) ?_ S'⟩
 have:=hs x (Sf hx)
 rw[R7]at this
 exact this y (Sf hy)
theorem Em {H:List ap} {S':Nat→Prop} (hH:bp S μ w H) (UY:∀b,S b→b<w.heap.size) {x y:D} (Uc:∀(i:Nat) (A:ap) (b:Nat),H[i]?=some A→A.isArr=true→bL (μ i) b→S' b)
  {u:Value} (he:J0 H x y) (hf:NW x y) (h:an S μ w x u):an S' μ w y u:=by
 have h2:an (fun b=>S b∨S' b) μ w y u:=oh hH (fun b hb=>.inl hb) UY (.inl fun i A b h1 h2 h3=>.inr (Uc i A b h1 h2 h3)) he h
 unfold NW at hf
 split at hf
 ·rename_i id sz α enc d l
  refine .v _ _ (Ga (bv h2) hf ?_)
  unfold J0 at he
  simp only at he
  split at he
  ·rename_i E UR β Up d' l' hb
   rw[bX h]
   exact fun b UN=>Uc id _ b hb rfl UN
  ·exact he.elim
 ·subst hf
  obtain⟨p,c,rfl,h1,h3,h4,h5⟩:=fJ (bv h2)
  exact .v _ _ (.nil _ _ _ _ _ h3 h4)
 ·exact hf.elim
 ·exact hf.elim
 ·rename_i v h3 h4 h5 h6
  refine .v _ _ (A1 (bv h2) ?_ _)
  cases v with
  | sl sz enc d l=>first | exact(h3 _ _ _ _ _ rfl).elim | exact(h4 _ _ _ _ _ rfl).elim | exact(h5 _ _ _ _ _ rfl).elim
  | mp es=>first | exact(h3 _ rfl).elim | exact(h4 _ rfl).elim | exact(h5 _ rfl).elim | exact(h6 _ rfl).elim
  | sm ag enc d l=>first | exact(h3 _ _ _ _ _ rfl).elim | exact(h4 _ _ _ _ _ rfl).elim | exact(h5 _ _ _ _ _ rfl).elim | exact(h6 _ _ _ _ _ rfl).elim
  | nmp=>rfl
  | fnv=>rfl
  | int=>rfl
  | bool=>rfl
  | str=>rfl
  | nilf=>rfl
  | nsl=>rfl
  | esl=>first | exact(h3 rfl).elim | exact(h4 rfl).elim | exact(h5 rfl).elim | rfl
 ·cases h2
  exact .nils
 ·exact hf.elim
theorem Eo:∀{xs ys:List D},PJ xs ys→∀(j:Nat) (x y:D),xs[j]?=some x→ys[j]?=some y→NW x y
 | [],[],_,j,x,y,hx,_=>by simp at hx
 | [],_::_,h,_,_,_,_,_=>h.elim
 | _::_,[],h,_,_,_,_,_=>h.elim
 | x::xs,y::ys,h,0,_,_,hx,hy=>by simp at hx hy;subst hx hy;exact h.1
 | x::xs,y::ys,h,j+1,x',y',hx,hy=>Eo h.2 j x' y' (by simpa using hx) (by simpa using hy)
theorem Ep:∀{xs ys:List D},PB xs ys→∀(j:Nat) (x y:D),xs[j]?=some x→ys[j]?=some y→Mo x y
 | [],[],_,j,x,y,hx,_=>by simp at hx
 | [],_::_,h,_,_,_,_,_=>h.elim
 | _::_,[],h,_,_,_,_,_=>h.elim
 | x::xs,y::ys,h,0,_,_,hx,hy=>by simp at hx hy;subst hx hy;exact h.1
 | x::xs,y::ys,h,j+1,x',y',hx,hy=>Ep h.2 j x' y' (by simpa using hx) (by simpa using hy)
theorem xB {al:Bool} {H:List ap} {S' Sn:Nat→Prop} (hH:bp S μ w H) (UY:∀b,S b→b<w.heap.size) (hS:∀b,S b→S' b)
  (VI:∀(i:Nat) (A:ap) (b:Nat),H[i]?=some A→A.isArr=true→bL (μ i) b→S' b) (Uc:∀(i:Nat) (A:ap) (b:Nat),H[i]?=some A→A.isArr=true→bL (μ i) b→Sn b)
  (UL:al=true→∀b,S' b→Sn b) {x y:D} {u:Value} (he:LJ H x y) (hf:al=true∨Mo x y) (h:an S μ w x u):an Sn μ w y u:=by
 rcases hf with hf | hf
 ·have:an S' μ w y u:=by
   have h1:aM S' μ w [y] #[u]:=Ka (ds:=[x]) hH hS UY (.inl VI) ⟨he,trivial⟩ ⟨rfl,fun j a b ha hb=>by
    cases j with
    | zero=>simp at ha hb;subst ha hb;exact h
    | succ j=>simp at ha⟩
   exact h1.2 0 y u rfl rfl
  exact this.stable (fun b hb _=>UL hf b hb) (fun _ _ _=>rfl) (RD _) (fun _ _=>rfl)
 ·unfold LJ at he
  split at he
  ·rename_i xs ys
   obtain⟨us,rfl,q1,q2⟩:=fm h
   obtain⟨r1,r2⟩:=uo he
   refine .agg _ _ (by rw[← r1];exact q1) (fun k z v hz hv=>?_)
   obtain⟨x',WR,XN⟩:=r2 k z hz
   exact Em hH UY Uc XN (Eo hf k x' z WR hz) (q2 k x' v WR hv)
  ·rename_i Vh
   have hf':NW x y:=by
    unfold Mo at hf
    split at hf
    ·rename_i xs ys
     exact(Vh xs ys rfl rfl).elim
    ·exact hf
   exact Em hH UY Uc he hf' h
theorem Hw {al:Bool} {H:List ap} {S' Sn:Nat→Prop} (hH:bp S μ w H) (UY:∀b,S b→b<w.heap.size) (hS:∀b,S b→S' b)
  (VI:∀(i:Nat) (A:ap) (b:Nat),H[i]?=some A→A.isArr=true→bL (μ i) b→S' b) (Uc:∀(i:Nat) (A:ap) (b:Nat),H[i]?=some A→A.isArr=true→bL (μ i) b→Sn b)
  (UL:al=true→∀b,S' b→Sn b) {x y:D} {u:Value} (he:AZ al H x y) (h:an S μ w x u):an Sn μ w y u:=by
 unfold AZ at he
 split at he
 ·rename_i xs ys
  obtain⟨us,rfl,q1,q2⟩:=ud h
  obtain⟨r1,r2⟩:=yR he.1
  refine .tup _ _ (by rw[← r1];exact q1) (fun k z v hz hv=>?_)
  obtain⟨x',WR,XN⟩:=r2 k z hz
  exact xB hH UY hS VI Uc UL XN (he.2.imp id fun hf=>Ep hf k x' z WR hz) (q2 k x' v WR hv)
 ·exact xB hH UY hS VI Uc UL he.1 he.2 h
def Oe (P:Program) (fn:Func) (al:Bool) (r:D):Exit→St→Prop
 | .normal,st=>gW P fn st∧AZ al st.heap (iJ P fn st) r
 | .ret,st=>gW P fn st∧AZ al st.heap (iJ P fn st) r
 | _,_=>False
theorem ah.of_ev {f:FuncId} {fn:Func} {c:Code} {q':List D} {al:Bool} {r:D} (hf:P.funcs[f]?=some fn) (hb:fn.body=some c) (hn:Nat.ble q'.length fn.ntmps=true) (hr:eV r=true)
  (h:∀C:kU,C.P=P→C.nt=fn.ntmps→C.rd=none→Ev C c (Oe P fn al r) ⟨i7 0 q',[]⟩):ah P f q' [] al r []:=by
 intro S μ w us hS hG hH UG
 rw[SM]at hn
 let C:kU:=⟨P,w,S,fn.ntmps,[],none,hG⟩
 have hrel:bc C S μ ⟨i7 0 q',[]⟩ (vn us fn.ntmps) w :=
  ⟨rfl,rfl,rfl,RD _,fun _ _=>rfl,fun _ h=>h,fun _ h=>.inl h,hS,uq UG hn,⟨fun id B hB=>by simp at hB,fun i j A B b hA=>by simp at hA,fun i A b hA=>by simp at hA⟩,fun i A b hA=>by simp at hA,⟨[],rfl,by simp[C],fun b hb=>by simp[C]at hb⟩,qL UG.1 hn,fun i A b hA=>by simp at hA⟩
 refine(jx (C:=C) hf hb rfl hrel (h C rfl rfl rfl) (fun e T4 hq=>?_)).mono ?_
 ·cases e<;>first | exact⟨.inl rfl,hq.1⟩ | exact⟨.inr rfl,hq.1⟩ | exact hq.elim
 rintro e w' ⟨u,e0,T4,S',μ',a',rfl,hq,hR,hx⟩
 have hq:AZ al T4.heap (iJ P fn T4) r:=by
  cases e0<;>first | exact hq.2 | exact hq.elim
 refine⟨u,μ',fun b=>S' b∨∃(i:Nat) (A:ap),T4.heap[i]?=some A∧A.isArr=true∧bL (μ' i) b,rfl,hR.os,hR.tape,hR.output,hR.size,fun k hk _=>hR.old k hk,fun b hb=>.inl (hR.mono b hb),?_,?_,?_,
   ⟨fun id B hB=>by simp at hB,fun i j A B b hA=>by simp at hA,fun i A b hA=>by simp at hA⟩,fun i A b hA=>by simp at hA,fun i A hA=>by simp at hA⟩
 ·rintro b (hb | ⟨i,A,h1,h2,h3⟩)
  ·exact hR.new b hb
  ·exact .inr (hR.may i A b h1 (by cases A<;>first | rfl | cases h2) h3)
 ·rintro b (hb | ⟨i,A,h1,h2,h3⟩)
  ·exact hR.slt b hb
  ·exact(hR.heap.box i A h1).lt (by cases A<;>first | rfl | cases h2) b h3
 ·refine Hw hR.heap hR.slt (S':=fun b=>S' b∨∃(i:Nat) (A:ap),T4.heap[i]?=some A∧A.isArr=true∧bL (μ' i) b) (fun b hb=>.inl hb) (fun i A b h1 h2 h3=>.inr ⟨i,A,h1,h2,h3⟩) (fun i A b h1 h2 h3=>⟨.inr ⟨i,A,h1,h2,h3⟩,.inr ?_⟩) (fun ha b hb=>⟨hb,.inl ha⟩) hq hx
  exact hR.may i A b h1 (by cases A<;>first | rfl | cases h2) h3
end
def Hx:Option Code→Option Exit
 | none=>some .normal
 | some .ret=>some .ret
 | some (.exit i)=>some (.exit i)
 | _=>none
def CU:LoopState→Bool
 | .busy=>true
 | _=>false
def CV (id l nt:Nat) (tm:Array Value) (Q:Exit→St→Prop):Exit→St→Prop:=fun e st =>
 (e=.normal∨e=.ret)∧match st.heap[id]? with
  | some (.loop l' tm' nt' env _ _ _ s p)=>l'=l∧tm'=tm∧nt'=nt∧CU s=false∧match Hx p with
   | some e'=>Q e' ⟨env,st.heap.set id .dead⟩
   | none=>False
  | _=>False
section
variable {C:kU} {st:St} {Q:Exit→St→Prop}
theorem Ev.range {g:Operand} {ps:List Nat} {assign body:Code} {YD:FuncId} {first cap:List D} {fn:Func} {c:Code} (Xj:C.rd=none) (hg:eX st.env g=.fn (.func YD) first cap) (hf:C.P.funcs[YD]?=some fn) (hb:fn.body=some c)
  (Wx:gX C.P YD=true) (hn:Nat.ble (first.length+1+cap.length) fn.ntmps=true) (hres:fn.results.toList=[]) (Vu:b9 st.heap.length st.env=true) (Y8:bQ st.heap.length st.heap=true)
  (h:∀(C1:kU) (l:Nat) (tm:Array Value) (W1 bd:Code),W1=assign→bd=body→C1.P=C.P→C1.nt=fn.ntmps→C1.rd=none→Ev C1 c (CV st.heap.length l C.nt tm Q) ⟨i7 0 (first++[.yld st.heap.length]++cap),st.heap++[.loop l tm C.nt st.env ps W1 bd .ready none]⟩) :
  Ev C (.rangeFunc g ps.toArray assign body) Q st:=by
 intro a w S μ hR
 rw[SM]at hn
 have hfen:od C.rd=Fence.wide:=by rw[Xj];rfl
 rw[hfen]
 refine wpIn_rangeFunc (fun fnid _=>?_)
 let w1:=(w.alloc (.deferred (some []))).alloc (.loop { state:=.ready,pending:=none,fn:=fnid,tmps:=a.tmps,params:=ps.toArray,assign:=assign,body:=body,defers:=w.heap.size })
 have hsz1:w1.heap.size=w.heap.size+2:=by
  show((w.heap.push _).push _).size=_
  simp
 have XS:w.grownBy w1 none:=⟨rfl,rfl,rfl,by omega,fun k hk _=>by
  show((w.heap.push _).push _)[k]?=_
  rw[S5,RE (by simp;omega),S5,RE (by omega)]⟩
 have Wl:w1.heap[w.heap.size]?=some (.deferred (some [])):=by
  show((w.heap.push _).push _)[w.heap.size]?=_
  rw[S5,RE (by simp),S5,RH rfl]
 have Vw:w1.heap[w.heap.size+1]?=some (.loop { state:=.ready,pending:=none,fn:=fnid,tmps:=a.tmps,params:=ps.toArray,assign:=assign,body:=body,defers:=w.heap.size }):=by
  show((w.heap.push _).push _)[w.heap.size+1]?=_
  rw[S5,RH (by simp)]
 have h1:=hR.upd (id:=st.heap.length) (B:=.loop (w.heap.size+1) a.tmps C.nt st.env ps assign body .ready none) (row:=none) (u:=.pointer (some ⟨w.heap.size+1,0,none⟩)) XS (fun k hk=>by cases hk) (RD _)
  ⟨_,rfl,Vw,rfl,rfl,rfl,rfl,rfl,rfl,hR.tsize,fun t d hm=>?_⟩ (fun b hb=>by simp[bL,aI]at hb;exact .inr (by omega)) (.inr ⟨fun A hA=>by simp at hA,Vu,Y8⟩)
 rotate_left
 ·obtain⟨q1,q2⟩:=hR.env t d hm
  refine⟨q1,q2.stable (fun _ h _=>h) (fun b hb hl=>XS.block b hl (by simp)) XS.size (fun i hi=>aG _ _ (fun e=>?_))⟩
  subst e
  rw[ct Vu hm]at hi
  cases hi
 rw[show ck st.heap st.heap.length (.loop (w.heap.size+1) a.tmps C.nt st.env ps assign body .ready none)=st.heap++[.loop (w.heap.size+1) a.tmps C.nt st.env ps assign body .ready none]from by simp[ck]]at h1
 obtain⟨mk,d1,d2,d3⟩:=h1.defers
 have hWle:C.W.heap.size≤w.heap.size:=hR.size
 have U8:∀(i:Nat) (A:ap) (b:Nat),(st.heap++[ap.loop (w.heap.size+1) a.tmps C.nt st.env ps assign body .ready none])[i]?=some A→A.live=true→bL (aZ μ st.heap.length (.pointer (some ⟨w.heap.size+1,0,none⟩)) i) b→b≠w.heap.size:=by
  intro i A b hA hl hb e
  by_cases hi:i<st.heap.length
  ·rw[RP hi]at hA
   rw[aG _ _ (by omega)]at hb
   have:=(hR.heap.box i A hA).lt hl b hb
   omega
  ·have Yb:i=st.heap.length:=by
    have:=(Rz.1 hA).1
    simp at this
    omega
   subst Yb
   rw[ay]at hb
   simp[bL,aI]at hb
   omega
 have UE:∀b∈(w.heap.size::mk)++C.susp,w1.heap[b]?=some (.deferred (some []))∧C.W.heap.size≤b∧¬S b∧∀(i:Nat) (A:ap),(st.heap++[ap.loop (w.heap.size+1) a.tmps C.nt st.env ps assign body .ready none])[i]?=some A→A.live=true→¬bL (aZ μ st.heap.length (.pointer (some ⟨w.heap.size+1,0,none⟩)) i) b:=by
  intro b hb
  rw[To]at hb
  rcases Sq.1 hb with rfl | hb
  ·exact⟨Wl,hWle,fun hS=>by have:=hR.slt _ hS;omega,fun i A hA hl Vn=>U8 i A _ hA hl Vn rfl⟩
  ·exact d3 b hb
 have hnd:((w.heap.size::mk)++C.susp).Nodup:=by
  rw[To]
  refine List.nodup_cons.2 ⟨fun hm=>?_,d2⟩
  obtain⟨mk0,e1,e2,e3⟩:=hR.defers
  have:mk=mk0:=by
   have:mk.map AP=mk0.map AP:=by
    have x1:a.defers=mk.map AP:=d1
    have x2:a.defers=mk0.map AP:=e1
    rw[← x1,x2]
   exact List.map_inj_right (fun x y WQ=>by simpa[AP]using WQ) |>.1 this
  subst this
  have:=(RU.1 (e3 _ hm).1).1
  omega
 have Vk:∃us vs,a.eval g=.func (.func YD) us vs∧aM S (aZ μ st.heap.length (.pointer (some ⟨w.heap.size+1,0,none⟩))) w1 (first++[.yld st.heap.length]++cap) (us++#[.func (.yield (w.heap.size+1)) #[] #[]]++vs):=by
  have hgv:an S _ w1 (.fn (.func YD) first cap) (a.eval g):=hg ▸ h1.eval g
  generalize a.eval g=ug at hgv
  cases hgv with
  | fn _ _ _ us vs q1 q2 q3 q4 =>
   refine⟨us,vs,rfl,aM.app (aM.app ⟨q1,q2⟩ ⟨rfl,fun j y u hy hu=>?_⟩) ⟨q3,q4⟩⟩
   cases j with
   | zero =>
    simp at hy hu
    subst hy hu
    exact .yld _ _ (by rw[ay];rfl)
   | succ j=>simp at hy
 obtain⟨us,vs,hge,Vk⟩:=Vk
 have Ud:(first++[D.yld st.heap.length]++cap).length≤fn.ntmps:=by simp;omega
 let C1:kU:=⟨C.P,C.W,C.S0,fn.ntmps,(w.heap.size::mk)++C.susp,none,C.g⟩
 have Z0:bc C1 S _ ⟨i7 0 (first++[.yld st.heap.length]++cap),st.heap++[.loop (w.heap.size+1) a.tmps C.nt st.env ps assign body .ready none]⟩ (vn (us++#[.func (.yield (w.heap.size+1)) #[] #[]]++vs) fn.ntmps) w1 :=
  h1.turn (C1:=C1) (mk:=mk) (mk1:=[]) hnd UE rfl rfl rfl (qL Vk.1 Ud) (uq Vk Ud)
 refine⟨w.heap.size+1,[{ target:=.collected w.heap.size,args:=#[] }],w1,{ target:=.fn (.func YD) vs,args:=us++#[.func (.yield (w.heap.size+1)) #[] #[]] },w1,YD,us++#[.func (.yield (w.heap.size+1)) #[] #[]]++vs,w1,run_enterLoop_outer fnid a.tmps ps.toArray assign body,?_,fun _ _=>trivial,?_,fun hx=>(by cases hx),?_⟩
 ·show(Deferred.ofValue (a.eval g) (#[Operand.const (.func (.yield (w.heap.size+1)) #[] #[])].map a.eval)).run C.P w1=_
  rw[hge]
  simp[Deferred.ofValue,Act.eval]
 ·simp[invoke,bG Wx]
 refine callsIn_wide.2 ((jx (C:=C1) hf hb rfl Z0 (h C1 (w.heap.size+1) a.tmps assign body rfl rfl rfl rfl rfl) (fun e T4 hq=>⟨hq.1,by unfold gW;rw[hres];trivial⟩)).mono ?_)
 rintro e w' ⟨u,e0,T4,S',μ',a',rfl,hq,XB,_⟩
 obtain⟨_,hq⟩:=hq
 split at hq
 ·rename_i l2 V9 nt2 env2 ps2 as2 bd2 s2 p2 XI
  obtain⟨rfl,rfl,rfl,hbusy,hq⟩:=hq
  obtain⟨r2,n1,n2,n3,n4,n5,n6,n7,n8,h4⟩:=XB.loopTo XI .exhausted p2
  have Uz:r2.state≠.busy:=fun e=>by rw[n2]at e;rw[e]at hbusy;cases hbusy
  have WE:(Instr.endLoop (w.heap.size+1)).run C.P w'=.ok p2 (w'.putObj (w.heap.size+1) (.loop { r2 with state:=.exhausted,pending:=p2 })):=by
   rw[run_endLoop n1 Uz,← n3]
  have Uh:st.heap.length<T4.heap.length:=(Rz.1 XI).1
  obtain⟨_,_,_,_,_,_,_,_,_,_,XK⟩:=h4.heap.box st.heap.length _ (RR Uh)
  have WW:=h4.back (C:=C) (a:={ a with defers:=[{ target:=.collected w.heap.size,args:=#[] }]++a.defers }) (mk:=w.heap.size::mk) rfl rfl rfl (by simp[d1]) hR.tsize (env:=env2) XK
  have WM:=WW.heapTo (H:=T4.heap.set st.heap.length .dead) (fun i B hB=>by
   by_cases hi:i=st.heap.length
   ·subst hi
    rw[RR Uh]at hB
    cases hB
    exact .inl rfl
   ·rw[RQ (fun e=>hi e.symm)]at hB
    refine .inr ?_
    rw[RQ (fun e=>hi e.symm)]
    exact hB)
  refine⟨p2,_,WE,?_⟩
  cases p2 with
  | none=>exact⟨_,_,_,hq,WM⟩
  | some c2 =>
   cases c2<;>first | exact hq.elim | skip
   ·exact wpIn_exit ⟨_,_,_,hq,WM⟩
   ·exact wpIn_ret ⟨_,_,_,hq,WM⟩
 ·exact hq.elim
end
end Go.Proofs.YtckgpflobhpnpaaGreat
namespace Go.Proofs.YtckgpflobhpnpaaGreat
open Go.RowKit
set_option linter.unusedVariables false
set_option linter.unusedSimpArgs false
def Hy:List Oper→Nat→Nat→Option Nat
 | _,0,_=>none
 | ops,i+1,t=>match (ops[i]?).bind (·.dst)with
  | some s=>if Nat.beq s t then some i else Hy ops i t
  | none=>Hy ops i t
def Hz (op:Op):List Tmp:=op.operands.toList.filterMap fun | .tmp t=>some t | _=>none
def sC (P:Program) (H:List ap) (ov:Ov) (t:TypeId) (len:Nat) (T6:List (Nat×D)):R1 :=
 match P.underlying t with
 | some (.slice E)=>match i5 P E with
  | some z=>if cN P E&&Nat.beq z.length (aE P E)&&Nat.ble 1 (aE P E)&&Nat.ble (len*aE P E) 4096 then
    match gT H (fun i=>some (i*aE P E,aE P E)) (List.replicate len z).flatten T6 with
    | some cells=>match ov with
     | .box E' UR Up d' l'=>if Nat.beq E E'&&Nat.beq (aE P E) UR then (.v (.sl (aE P E) Up d' l'),ai (pG (aE P E) len cells) (l'.map Up))else aN
     | _=>aN
    | none=>aN
   else aN
  | none=>aN
 | _=>aN
def LK (P:Program) (H:List ap) (ov:Ov) (f:D) (ds:List D):R1 :=
 match f,ov with
 | .fn (.func g) first cap,.callr id q' r=>if gX P g&&eV r then (r,ld P g H (first++ds++cap) id q' r)else aN
 | .fn (.func g) first cap,.call q' al r=>if gX P g&&eV r&&(!al||fN (first++ds++cap))then (r,p8 P g H (first++ds++cap) q' al r)else aN
 | _,_=>aN
def Og (P:Program) (T:TypeId):Option (Array Value):=((P.info? T).bind (·.zero)).map (·.cells)
def Mp (o:Oper):Option TypeId:=match o.op with | .alloc T=>some T | _=>none
def PC (P:Program) (H:List ap) (ρ:Operand→D) (ov:Ov) (op:Op):R1 :=
 match op with
 | .alloc T=>match Og P T with | some _=>(.junk,True) | none=>aN
 | .buildSlice t len T6=>sC P H ov t len (T6.toList.map fun p=>(p.1,ρ p.2))
 | .call ⟨.value f,args,_⟩=>LK P H ov (ρ f) (args.toList.map ρ)
 | op=>match ov with
  | .val d'=>(d',(gg P H ρ op).2∧p6 (gg P H ρ op).1 d')
  | .lift d'=>(d',(gg P H ρ op).2∧xo (gg P H ρ op).1 d')
  | _=>gg P H ρ op
def Q4 (ops:List Oper) (i:Nat) (o:Oper):List (Tmp×Option Nat) :=
 (Hz o.op).map fun t=>(t,Hy ops i t)
section
variable {P:Program} {S:Nat→Prop} {μ:Nat→Value} {w:World}
theorem A2 {ops:Array Oper} {sp sp':tp} {base Yi:Act} (h:LC ops sp base=true) (hs:Yi.tmps.size=base.tmps.size) (hk:sp'.K=sp.K) (hi:sp'.ins=sp.ins):LC ops sp' Yi=true:=by
 have e1:N1 ops sp'=N1 ops sp:=by
  funext i p
  unfold N1
  rw[hk]
 have:∀i,He ops sp' Yi i=He ops sp base i:=by
  intro i
  unfold He
  rw[hs,hk,hi,e1]
 unfold LC at h ⊢
 rw[show He ops sp' Yi=He ops sp base from funext this]
 exact h
end
end Go.Proofs.YtckgpflobhpnpaaGreat
namespace Go.Proofs.YtckgpflobhpnpaaGreat
open Go.RowKit
set_option linter.unusedVariables false
set_option linter.unusedSimpArgs false
section
variable {P:Program} {S:Nat→Prop} {μ:Nat→Value} {w:World}
theorem bp.mono {S':Nat→Prop} {w':World} {H:List ap} (h:bp S μ w H) (hS:∀b,S b→b<w.heap.size→S' b) (hb:Below w.heap.size w w') (hn:∀b,b<w.heap.size→S' b→S b):bp S' μ w' H:=by
 refine⟨fun i A hA=>?_,h.apart,fun i A b hA hl UN hs=>?_⟩
 ·rcases A.three with rfl | hl | hl
  ·trivial
  ·exact(h.box i A hA).stable hS (fun b _ hl=>hb.block b hl) hb.size (fun _ _=>rfl) (fun b UN=>hb.block b ((h.box i A hA).lt hl b UN))
  ·exact(h.box i A hA).stable hS (fun b _ hl=>hb.block b hl) hb.size (fun _ _=>rfl) (fun b UN=>hb.block b ((h.box i A hA).ltR hl b UN))
 ·have Un:=(h.box i A hA).lt hl b UN
  exact h.notS i A b hA hl UN (hn b Un hs)
theorem y2 {H:List ap} (hH:bp S μ w H) (hS:∀b,S b→b<w.heap.size) {ov:Ov} {t:TypeId} {len:Nat} {T6:List (Nat×D)} {Ue:List (Nat×Value)} (h1:T6.map (·.1)=Ue.map (·.1))
  (h2:∀(j:Nat) (x:Nat×D) (u:Nat×Value),T6[j]?=some x→Ue[j]?=some u→an S μ w x.2 u.2) {d:D} {p:Prop} (hp:sC P H ov t len T6=(d,p)) (G':p) :
  ∃u vs E,(Instr.buildSlice t len Ue.toArray).run P w=.ok u (w.alloc (.cells vs E))∧an (fun b=>S b∨b=w.heap.size) μ (w.alloc (.cells vs E)) d u:=by
 unfold sC at hp
 split at hp
 ·rename_i E hu
  split at hp
  ·rename_i z hz
   split at hp
   ·rename_i hc
    simp only[RA,RY,SM]at hc
    obtain⟨⟨⟨hk,VA⟩,Ur⟩,WN⟩:=hc
    obtain⟨i,v,hi,hv,Xd,Ul,hby⟩:=jy hz
    split at hp
    ·rename_i cells hf
     have Yp:aM S μ w z v.cells:=by
      rw[Xd]
      refine⟨by simp,fun j y u hy hu=>?_⟩
      simp only[R3,Si,hu,Sr,RM]at hy
      subst hy
      exact an.ofVal1 S μ w u
     have Xe:=sA (P:=P) Yp VA (by omega) len
     obtain⟨vs,Wj,VM⟩:=fA hH T6 Ue _ cells _ h1 h2 Xe hf
     rw[← Ul]at Wj
     have Uo:=i9 (P:=P) (w:=w) hu hi hv (by rw[Ul];exact WN) Wj
     have hcl:cells.length=len*aE P E:=by
      have:∀(T6:List (Nat×D)) (c0 Wt:List D),gT H (fun i=>some (i*aE P E,aE P E)) c0 T6=some Wt→Wt.length=c0.length:=by
       intro T6
       induction T6 with
       | nil=>intro c0 Wt h;simp only[gT,RM]at h;rw[h]
       | cons q r ih =>
        intro c0 Wt h
        obtain⟨k,x⟩:=q
        unfold gT at h
        split at h
        ·split at h
         ·rename_i UB
          simp only[RA,SM]at UB
          rw[ih _ _ h]
          simp[fM]
          omega
         ·cases h
        ·cases h
      rw[this _ _ _ hf]
      simp[VA]
     have Ud:len≤maxLen:=by
      have:len*1≤len*aE P E:=TE _ Ur
      simp only[maxLen]
      omega
     split at hp
     ·rename_i E' UR α Up d' l'
      split at hp
      ·rename_i hc
       simp only[RA,RY]at hc
       obtain⟨rfl,rfl⟩:=hc
       simp only[RI]at hp
       obtain⟨rfl,rfl⟩:=hp
       refine⟨_,vs,E,Uo,.v _ _ ?_⟩
       obtain⟨q1,q2⟩:=lf G'
       have hA:gt S (w.alloc (.cells vs E)) E (aE P E) (l'.map Up) (.slice (some ⟨w.heap.size,0,none⟩) len len):=by
        refine uu VM hcl Ud (by rw[← q1];simp[pG]) (fun i x hx=>?_) hS
        obtain⟨r,hr,UA⟩:=q2 i x hx
        obtain⟨r1,r2⟩:=fC UA
        obtain⟨hin,rfl⟩:=kd _ _ _ hr
        refine⟨?_,fun j y hy=>?_⟩
        ·rw[← r1,RZ,Sd,hcl]
         have:(i+1)*aE P E≤len*aE P E:=R9 _ hin
         rw[SL]at this
         omega
        ·obtain⟨d,hd,YI⟩:=r2 j y hy
         exact⟨d,lg hr hd,fun u hu=>mK YI hu⟩
       have hB:aH S μ (w.alloc (.cells vs E)) (.slice (some ⟨w.heap.size,0,none⟩) len len) (.arr E (aE P E) Up d' l'):=hA.box rfl
       exact iI hB (fun b hb=>.inl hb) (fun b hb=>.inr (by simp[bL,aI]at hb;omega)) (fun b hb=>by have:=hS b hb;simp;omega)
      ·cases hp;exact G'.elim
     ·cases hp;exact G'.elim
    ·cases hp;exact G'.elim
   ·cases hp;exact G'.elim
  ·cases hp;exact G'.elim
 ·cases hp;exact G'.elim
theorem HA {H:List ap} (hH:bp S μ w H) (hS:∀b,S b→b<w.heap.size) (hG:gf S w) {f:FuncId} {ds:List D} {q':Option (List D)} {al:Bool} {r:D} {us:Array Value} (hc:p8 P f H ds q' al r) (UG:aM S μ w ds us)
  (UL:al=false∨fN ds=true) (hr:eV r=true) :
  Calls P f us w (fun e w'=>∃u,e=.returned u∧Below w.heap.size w w'∧an (fun b=>S b∨w.heap.size≤b) μ w' r u):=by
 have Wz:∀(X4:List D) (S1:Nat→Prop),ah P f X4 [] al r []→(∀b,S1 b→b<w.heap.size)→(∀b,S b→S1 b)→(al=true→∀b,S1 b→S b)→aM S1 μ w X4 us →
   Calls P f us w (fun e w'=>∃u,e=.returned u∧Below w.heap.size w w'∧an (fun b=>S b∨w.heap.size≤b) μ w' r u):=by
  intro X4 S1 hc h2 h1 h3 UG
  refine(hc S1 μ w us h2 (hG.stable (fun b hb _=>h1 b hb) (fun _ _ _=>rfl) (RD _)) ⟨fun id B hB=>by simp at hB,fun i j A B b hA=>by simp at hA,fun i A b hA=>by simp at hA⟩ UG).mono ?_
  rintro e w' ⟨u,μ',S',rfl,q1,q2,q3,q4,q5,q6,q7,q8,q9,_⟩
  refine⟨u,rfl,⟨q1,q2,q3,q4,fun k hk=>q5 k hk (fun i A hA=>by simp at hA)⟩,q9.stable ?_ (fun _ _ _=>rfl) (RD _) (fun id Uh=>by rw[gl id r hr]at Uh;cases Uh)⟩
  rintro b ⟨hb,WW⟩ _
  rcases q7 b hb with ZU | ZU
  ·rcases WW with WW | WW
   ·exact .inl (h3 WW b ZU)
   ·exact .inr WW
  ·exact .inr ZU
 cases q' with
 | none=>exact Wz ds S hc hS (fun _ h=>h) (fun _ _ h=>h) UG
 | some q' =>
  obtain⟨YL,hc⟩:=hc
  refine Wz q' (fun b=>S b∨(al=false∧∃(i:Nat) (A:ap),H[i]?=some A∧A.mem=true∧bL (μ i) b)) hc ?_ (fun b hb=>.inl hb) ?_ ?_
  ·rintro b (hb | ⟨_,i,A,hA,hl,hb⟩)
   ·exact hS b hb
   ·exact(hH.box i A hA).lt (ap.mem_live hl) b hb
  ·rintro h b (hb | ⟨h0,_⟩)
   ·exact hb
   ·rw[h]at h0;cases h0
  ·refine kZ hH (fun b hb=>.inl hb) hS ?_ YL UG
   rcases UL with UL | UL
   ·exact .inl (fun i A b hA hl hb=>.inr ⟨UL,i,A,hA,hl,hb⟩)
   ·exact .inr UL
theorem Gb {H:List ap} (hH:bp S μ w H) (hS:∀b,S b→b<w.heap.size) (hG:gf S w) {f:FuncId} {ds:List D} {id:Nat} {q':List D} {r:D} {us:Array Value} (hc:ld P f H ds id q' r) (UG:aM S μ w ds us) (hr:eV r=true) :
  Calls P f us w (fun e w'=>∃u,e=.returned u∧Below w.heap.size w w'∧an (fun b=>S b∨w.heap.size≤b) μ w' r u):=by
 unfold ld at hc
 split at hc
 ·rename_i B hB
  obtain⟨hra,hc⟩:=hc
  cases XI:H[id]? with
  | none=>rw[XI]at hB;cases hB
  | some A =>
   rw[XI]at hB
   obtain⟨U9,N'⟩:=xt (μ':=fun _=>μ id) hB (hH.box id A XI)
   have hl:B.live=false:=by cases B<;>first | rfl | cases U9
   refine(hc S (fun _=>μ id) w us hS hG (Ed U9 N') (Ec hra UG)).mono ?_
   rintro e w' ⟨u,μ',S',rfl,q1,q2,q3,q4,q5,q6,q7,q8,q9,_⟩
   refine⟨u,rfl,⟨q1,q2,q3,q4,fun k hk=>q5 k hk (fun i A hA la=>?_)⟩,q9.stable (fun b hb _=>q7 b hb.1) (fun _ _ _=>rfl) (RD _) (fun id Uh=>by rw[gl id r hr]at Uh;cases Uh)⟩
   match i with
   | 0=>simp at hA;rw[← hA,hl]at la;cases la
   | i+1=>simp at hA
 ·exact hc.elim
theorem Gc {H:List ap} (hH:bp S μ w H) (hS:∀b,S b→b<w.heap.size) (hG:gf S w) {ρ:Operand→D} {ρ':Operand→Value} (hρ:∀x,an S μ w (ρ x) (ρ' x)) {ov:Ov} {o:Oper} {d:D} {p:Prop} (hp:PC P H ρ ov o.op=(d,p)) (G':p) (YB:Mp o=none)
  {R:Value→World→Prop} (hR:∀u w',Below w.heap.size w w'→an (fun b=>S b∨w.heap.size≤b) μ w' d u→R u w'):pu P R ((execOp ρ' o).run P w):=by
 unfold PC at hp
 split at hp
 ·rename_i ho
  unfold Mp at YB
  rw[ho]at YB
  cases YB
 ·rename_i t len T6 ho
  obtain⟨u,vs,E,h1,h2⟩:=y2 hH hS (Ue:=T6.toList.map fun p=>(p.1,ρ' p.2)) (by simp) (fun j x u hx hu=>by
   simp only[R3,Si]at hx hu
   cases hj:T6[j]? with
   | none=>rw[hj]at hx;cases hx
   | some q=>rw[hj]at hx hu;simp at hx hu;subst hx hu;exact hρ q.2) hp G'
  have he:T6.map (fun (i,x)=>(i,ρ' x))=(T6.toList.map fun p=>(p.1,ρ' p.2)).toArray:=TA (by simp)
  rw[← he]at h1
  refine pu.of (v:=u) (w':=w.alloc (.cells vs E)) ?_ (hR _ _ ((Below.refl _ _).alloc (RD _) _) (h2.stable ?_ (fun _ _ _=>rfl) (RD _) (fun _ _=>rfl)))
  ·simp only[execOp,ho,RG,h1,RF,R5]
  ·rintro b (hb | rfl) _
   ·exact .inl hb
   ·exact .inr (RD _)
 ·rename_i f args Xr ho
  unfold LK at hp
  split at hp
  ·rename_i g first cap id q' r hf
   split at hp
   ·rename_i hc
    simp only[RA]at hc
    obtain⟨Wx,hr⟩:=hc
    simp only[RI]at hp
    obtain⟨rfl,rfl⟩:=hp
    have VF:=hf ▸ hρ f
    generalize Vu:ρ' f=uf at VF
    cases VF with
    | fn _ _ _ us vs h1 h2 h3 h4 =>
     have Uo:(execOp ρ' o).run P w=.ok (.enter g (us++args.map ρ'++vs)) w:=by
      simp[execOp,ho,resolve,Vu,Deferred.ofValue,invoke,bG Wx]
     rw[Uo]
     have Vv:aM S μ w (args.toList.map ρ) (args.map ρ'):=by
      refine⟨by simp,fun j y z hy hz=>?_⟩
      simp only[R3,Si,SP]at hy hz
      cases hj:args[j]? with
      | none=>rw[hj]at hy;cases hy
      | some x=>rw[hj]at hy hz;simp at hy hz;subst hy hz;exact hρ x
     refine pu.enter ((Gb hH hS hG G' (aM.app (aM.app ⟨h1,h2⟩ Vv) ⟨h3,h4⟩) hr).mono ?_)
     rintro e w' ⟨u,rfl,hb,hd⟩
     exact⟨u,rfl,hR u w' hb hd⟩
   ·cases hp;exact G'.elim
  ·rename_i g first cap q' al r hf
   split at hp
   ·rename_i hc
    simp only[RA,Sh,Sj]at hc
    obtain⟨⟨Wx,hr⟩,UL⟩:=hc
    simp only[RI]at hp
    obtain⟨rfl,rfl⟩:=hp
    have VF:=hf ▸ hρ f
    generalize Vu:ρ' f=uf at VF
    cases VF with
    | fn _ _ _ us vs h1 h2 h3 h4 =>
     have Uo:(execOp ρ' o).run P w=.ok (.enter g (us++args.map ρ'++vs)) w:=by
      simp[execOp,ho,resolve,Vu,Deferred.ofValue,invoke,bG Wx]
     rw[Uo]
     have Vv:aM S μ w (args.toList.map ρ) (args.map ρ'):=by
      refine⟨by simp,fun j y z hy hz=>?_⟩
      simp only[R3,Si,SP]at hy hz
      cases hj:args[j]? with
      | none=>rw[hj]at hy;cases hy
      | some x=>rw[hj]at hy hz;simp at hy hz;subst hy hz;exact hρ x
     refine pu.enter ((HA hH hS hG G' (aM.app (aM.app ⟨h1,h2⟩ Vv) ⟨h3,h4⟩) UL hr).mono ?_)
     rintro e w' ⟨u,rfl,hb,hd⟩
     exact⟨u,rfl,hR u w' hb hd⟩
   ·cases hp;exact G'.elim
  ·cases hp;exact G'.elim
 ·have key:∀d0,(∃q,gg P H ρ o.op=(d0,q)∧q)→(∀u,an S μ w d0 u→an S μ w d u)→pu P R ((execOp ρ' o).run P w):=by
   rintro d0 ⟨q,hq,Wn⟩ hd
   obtain⟨u,h1,h2⟩:=iH hH hρ hq Wn
   exact pu.of h1 (hR u w (Below.refl _ _) ((hd u h2).stable (fun b hb _=>.inl hb) (fun _ _ _=>rfl) (RD _) (fun _ _=>rfl)))
  split at hp
  ·simp only[RI]at hp
   obtain⟨rfl,rfl⟩:=hp
   exact key _ ⟨_,rfl,G'.1⟩ (fun u hu=>qG G'.2 hu)
  ·simp only[RI]at hp
   obtain⟨rfl,rfl⟩:=hp
   exact key _ ⟨_,rfl,G'.1⟩ (fun u hu=>G'.2 _ _ _ _ hu)
  ·exact key d ⟨p,hp,G'⟩ (fun _ h=>h)
end
end Go.Proofs.YtckgpflobhpnpaaGreat
namespace Go.Proofs.YtckgpflobhpnpaaGreat
open Go.RowKit
set_option linter.unusedVariables false
set_option linter.unusedSimpArgs false
theorem Ev.freeze {C:kU} {st:St} {Q:Exit→St→Prop} {c:Code} (id:Nat) {T4:St} (h:ol id st=some T4) (he:Ev C c Q T4):Ev C c Q st:=fun a w S μ hR=>by
 obtain⟨S',U0⟩:=hR.freeze h
 exact he a w S' μ U0
end Go.Proofs.YtckgpflobhpnpaaGreat
namespace Go.Proofs.YtckgpflobhpnpaaGreat
open Go.RowKit
set_option linter.unusedVariables false
set_option linter.unusedSimpArgs false
def CW (id j E sz:Nat) {α:Type} (enc:α→List V) (d:α) (st:St):Option St :=
 if b9 st.heap.length st.env&&bQ st.heap.length st.heap then
  match st.heap[id]? with
  | some (.var T cs)=>match cs[j]? with
   | some .nils=>some ⟨st.env,st.heap.set id (.var T (cs.set j (.own st.heap.length)))++[.arr E sz enc d []]⟩
   | _=>none
  | _=>none
 else none
def adoptE (t E sz:Nat) {α:Type} (enc:α→List V) (d:α) (st:St):Option St :=
 if b9 st.heap.length st.env&&bQ st.heap.length st.heap&&Hv st.env t then
  match pD st.env t with
  | .nils=>some ⟨AN st.env t (.own st.heap.length),st.heap++[.arr E sz enc d []]⟩
  | _=>none
 else none
section
variable {C:kU} {S:Nat→Prop} {μ:Nat→Value} {st:St} {a:Act} {w:World} {Q:Exit→St→Prop}
theorem bc.addNil (h:bc C S μ st a w) (hf:b9 st.heap.length st.env=true) (hh:bQ st.heap.length st.heap=true) (E sz:Nat) {α:Type} (enc:α→List V) (d:α) :
  bc C S (aZ μ st.heap.length (.slice none 0 0)) ⟨st.env,st.heap++[.arr E sz enc d []]⟩ a w:=by
 have:=h.upd (id:=st.heap.length) (B:=.arr E sz enc d []) (row:=none) (u:=.slice none 0 0) (lh w) (fun k hk=>by cases hk) (RD _)
  ⟨fun i x hx=>by simp at hx,[],Td w 0 E sz,fun i x j y hx=>by simp at hx⟩ (fun b hb=>by simp[bL,aI]at hb) (.inr ⟨fun A hA=>by simp at hA,hf,hh⟩)
 rw[show ck st.heap st.heap.length (.arr E sz enc d [])=st.heap++[.arr E sz enc d []]from by simp[ck]]at this
 exact this
theorem bc.boxTo (h:bc C S μ st a w) {id:Nat} {A B:ap} (hA:st.heap[id]?=some A) (XA:A.live=true) (hk:B.isArr=false∨A.isArr=true) (hB:aH S μ w (μ id) B) (U9:B.isRo=false:=by rfl):bc C S μ ⟨st.env,st.heap.set id B⟩ a w:=by
 have Uh:id<st.heap.length:=(Rz.1 hA).1
 have hg:∀(i:Nat) (X:ap),(st.heap.set id B)[i]?=some X→(i=id∧X=B)∨st.heap[i]?=some X:=by
  intro i X hX
  by_cases hi:i=id
  ·subst hi
   rw[RR Uh]at hX
   cases hX
   exact .inl ⟨rfl,rfl⟩
  ·rw[RQ (fun e=>hi e.symm)]at hX
   exact .inr hX
 have hl:∀(i:Nat) (X:ap),(st.heap.set id B)[i]?=some X→X.live=true→∃Y,st.heap[i]?=some Y∧Y.live=true:=by
  intro i X hX hXl
  rcases hg i X hX with ⟨rfl,rfl⟩ | YX
  ·exact⟨A,hA,XA⟩
  ·exact⟨X,YX,hXl⟩
 refine⟨h.os,h.tape,h.output,h.size,h.old,h.mono,h.new,h.slt,h.env,⟨fun i X hX=>?_,fun i k X Y b hX hY lX lY=>?_,fun i X b hX lX=>?_⟩,fun i X b hX lX=>?_,?_,h.tsize,fun i X b hX lX=>?_⟩
 ·rcases hg i X hX with ⟨rfl,rfl⟩ | YX
  ·exact hB
  ·exact h.heap.box i X YX
 ·obtain⟨X',q1,q2⟩:=hl i X hX lX
  obtain⟨Y',q3,q4⟩:=hl k Y hY lY
  exact h.heap.apart i k X' Y' b q1 q3 q2 q4
 ·obtain⟨X',q1,q2⟩:=hl i X hX lX
  exact h.heap.notS i X' b q1 q2
 ·obtain⟨X',q1,q2⟩:=hl i X hX lX
  exact h.may i X' b q1 q2
 ·obtain⟨mk,d1,d2,d3⟩:=h.defers
  refine⟨mk,d1,d2,fun b hb=>?_⟩
  obtain⟨q1,q2,q3,q4⟩:=d3 b hb
  refine⟨q1,q2,q3,fun i X hX lX=>?_⟩
  obtain⟨X',q5,q6⟩:=hl i X hX lX
  exact q4 i X' q5 q6
 ·rcases hg i X hX with ⟨rfl,rfl⟩ | YX
  ·rw[U9]at lX;cases lX
  ·exact h.ro i X b YX lX
theorem Ev.adopt {c:Code} (id j E sz:Nat) {α:Type} (enc:α→List V) (d:α) {T4:St} (h:CW id j E sz enc d st=some T4) (he:Ev C c Q T4):Ev C c Q st:=fun a w S μ hR=>by
 unfold CW at h
 split at h
 ·rename_i hc
  simp only[RA]at hc
  split at h
  ·rename_i T cs N'
   split at h
   ·rename_i hj
    simp only[RM]at h
    subst h
    have Uh:id<st.heap.length:=(Rz.1 N').1
    have h1:=hR.addNil hc.1 hc.2 E sz enc d
    have hbox1:(st.heap++[ap.arr E sz enc d []])[id]?=some (.var T cs):=by rw[RP Uh];exact N'
    have hB:=h1.heap.box id _ hbox1
    have h2:=h1.boxTo hbox1 rfl (B:=.var T (cs.set j (.own st.heap.length))) (.inl rfl) (by
     obtain⟨b,vs,e1,e2,e3,e4⟩:=hB
     refine⟨b,vs,e1,e2,by rw[Sw];exact e3,fun k y x hy hx=>?_⟩
     by_cases hk:k=j
     ·subst hk
      have Un:k<cs.length:=(Rz.1 hj).1
      rw[RR Un]at hy
      cases hy
      have:=e4 k _ x hj hx
      cases this
      have ho:=an.own (S:=S) (μ:=aZ μ st.heap.length (.slice none 0 0)) (w:=w) st.heap.length
      rwa [ay]at ho
     ·rw[RQ (fun e=>hk e.symm)]at hy
      exact e4 k y x hy hx)
    have e3:(st.heap++[ap.arr E sz enc d []]).set id (.var T (cs.set j (.own st.heap.length)))=st.heap.set id (.var T (cs.set j (.own st.heap.length)))++[ap.arr E sz enc d []]:=by
     rw[List.set_append,RH Uh]
    simp only at h2
    rw[e3]at h2
    exact he a w S _ h2
   ·cases h
  ·cases h
 ·cases h
theorem Ev.adoptE {c:Code} (t E sz:Nat) {α:Type} (enc:α→List V) (d:α) {T4:St} (h:Proofs.YtckgpflobhpnpaaGreat.adoptE t E sz enc d st=some T4) (he:Ev C c Q T4):Ev C c Q st:=fun a w S μ hR=>by
 unfold Proofs.YtckgpflobhpnpaaGreat.adoptE at h
 split at h
 ·rename_i hc
  simp only[RA]at hc
  split at h
  ·rename_i hj
   simp only[RM]at h
   subst h
   have h1:=hR.addNil hc.1.1 hc.1.2 E sz enc d
   have hv:=h1.eval (.tmp t)
   simp only[eX]at hv
   rw[hj]at hv
   obtain⟨e0,hm⟩:=vB hc.2
   refine he a w S _ ⟨h1.os,h1.tape,h1.output,h1.size,h1.old,h1.mono,h1.new,h1.slt,fun s e hs=>?_,h1.heap,h1.may,h1.defers,h1.tsize,h1.ro⟩
   rcases Sq.1 hs with hs | hs
   ·cases hs
    refine⟨(h1.env t e0 hm).1,?_⟩
    have ho:=an.own (S:=S) (μ:=aZ μ st.heap.length (.slice none 0 0)) (w:=w) st.heap.length
    rw[ay]at ho
    generalize hu:a.eval (.tmp t)=u at hv
    cases hv
    have:a.tmps.getD t undef=.slice none 0 0:=hu
    rw[this]
    exact ho
   ·exact h1.env s e (gi hs).1
  ·cases h
 ·cases h
end
end Go.Proofs.YtckgpflobhpnpaaGreat
namespace Go.Proofs.YtckgpflobhpnpaaGreat
open Go.RowKit
set_option linter.unusedVariables false
set_option linter.unusedSimpArgs false
abbrev wU:=List (List Bool×St)
def fD:wU→List Bool→Option St
 | [],_=>none
 | (l,s)::r,k=>if decide (l=k)then some s else fD r k
def Mq (ops:List Oper) (ls:List Bool) (i:Nat):Bool:=!ls.getD i false&&(match ops[i]? with | some o=>o.after.toList.all (fun e=>!Region.binds .any e||ls.getD e.on false) | none=>false)
def ja (ops:List Oper) (ls:List Bool):List Nat:=(List.range ops.length).filter (Mq ops ls)
def vC (s1 s2:St):St:=⟨mN (s2.env.map (·.1)) s1.env,s1.heap⟩
def xC (P:Program) (nt:Nat) (ops:List Oper) (Us:List (Nat×Ov)) (tab:wU) (ls:List Bool) (st:St) (i:Nat):Prop :=
 match ops[i]? with
 | some o=>match dQ P nt ops Us i [o] st with
  | (s1,p)=>match fD tab (ls.set i true)with
   | some s2=>vC s1 s2=s2∧p
   | none=>False
 | none=>False
def CX (P:Program) (nt:Nat) (ops:List Oper) (Us:List (Nat×Ov)) (tab:wU) (ls:List Bool) (st:St):List Nat→Prop
 | []=>True
 | i::r=>xC P nt ops Us tab ls st i∧CX P nt ops Us tab ls st r
def y3 (P:Program) (nt:Nat) (ops:List Oper) (Us:List (Nat×Ov)) (tab:wU) (ls:List Bool) (st:St):Prop :=
 if ls.all id then True else match ja ops ls with
  | []=>False
  | l=>CX P nt ops Us tab ls st l
def Gd (P:Program) (nt:Nat) (ops:List Oper) (Us:List (Nat×Ov)) (tab:wU):wU→Prop
 | []=>True
 | (ls,st)::r=>y3 P nt ops Us tab ls st∧Gd P nt ops Us tab r
theorem sD:∀{tab:wU} {k:List Bool} {s:St},fD tab k=some s→(k,s)∈tab
 | (l,t)::r,k,s,h=>by
  unfold fD at h
  split at h
  ·rename_i hl
   cases h
   rw[ST hl]
   exact Se ..
  ·exact Sb _ (sD h)
theorem vD {P:Program} {nt:Nat} {ops:List Oper} {Us:List (Nat×Ov)} {tab:wU}:∀{l:wU} {k:List Bool} {s:St},Gd P nt ops Us tab l→(k,s)∈l→y3 P nt ops Us tab k s
 | (a,t)::r,k,s,h,hm=>by
  rcases Sq.1 hm with hm | hm
  ·cases hm;exact h.1
  ·exact vD h.2 hm
theorem qc {P:Program} {nt:Nat} {ops:List Oper} {Us:List (Nat×Ov)} {tab:wU} {ls:List Bool} {st:St}:∀{l:List Nat} {i:Nat},CX P nt ops Us tab ls st l→i∈l→xC P nt ops Us tab ls st i
 | a::r,i,h,hm=>by
  rcases Sq.1 hm with hm | hm
  ·cases hm;exact h.1
  ·exact qc h.2 hm
section
variable {C:kU} {st T4:St} {Q:Exit→St→Prop}
def gZ (ls:List Bool):Nat:=(ls.filter (!·)).length
theorem sF:∀{ls:List Bool} {i:Nat},i<ls.length→ls.getD i false=false→gZ (ls.set i true)+1=gZ ls
 | b::ls,0,_,h=>by
  simp at h
  subst h
  simp[gZ]
 | b::ls,i+1,hi,h=>by
  have:=sF (ls:=ls) (i:=i) (by simpa using hi) (by simpa using h)
  cases b<;>simp[gZ]at this ⊢<;>omega
theorem vE:∀{ls:List Bool},gZ ls=0→ls.all id=true
 | [],_=>rfl
 | true::ls,h=>by simp[gZ]at h ⊢;simpa using h
 | false::ls,h=>by simp[gZ]at h
theorem ff:∀{ls:List Bool},ls.all id=true→ls=List.replicate ls.length true
 | [],_=>rfl
 | true::ls,h=>by
  have:=ff (ls:=ls) (by simpa using h)
  rw[RK,List.replicate_succ,← this]
 | false::ls,h=>by simp at h
theorem Ev.any {rid:Nat} {ops:List Oper} (Us:List (Nat×Ov)) (tab:wU) {VY:St} {p:Prop} (hm:C.P.follows .mixedOrders=true) (hnd:ops.all (fun o=>!dg o)=true) (h0:fD tab (List.replicate ops.length false)=some VY) (hk:vC st VY=VY)
  (he:fD tab (List.replicate ops.length true)=some T4) (h:Gd C.P C.nt ops Us tab tab=p) (hp:p) (hq:Q .normal T4):Ev C (.region rid ops.toArray true) Q st:=fun a w S μ hR=>by
 subst h
 have Ul:ops.toArray.size=ops.length:=by simp
 have main:∀(fuel:Nat) (ls:List Bool) (C':Array Bool) (s:St) (S:Nat→Prop) (μ:Nat→Value) (a:Act) (w:World),gZ ls=fuel→ls.length=ops.length→C'.size=ops.length→(∀i,C'.getD i false=ls.getD i false) →
   fD tab ls=some s→bc C S μ s a w→wpAnyIn (od C.rd) 0 C.P .any ops.toArray (fun e a' w'=>∃T4 S' μ',Q e T4∧bc C S' μ' T4 a' w') fuel C' a w:=by
  intro fuel
  induction fuel with
  | zero =>
   intro ls C' s S μ a w hf hl hls hg hs hR
   have hall:=vE hf
   have Vk:=ff hall
   rw[hl]at Vk
   refine⟨List.eq_nil_iff_forall_not_mem.2 (fun i hi=>?_),?_⟩
   ·obtain⟨h1,o,ho,_⟩:=(dK C' (by rw[hls,Ul]) i).1 hi
    have Vc:i<ops.length:=by simpa using(RU.1 ho).1
    have hb:(List.replicate ops.length true).getD i false=true:=by simp[List.getD,SR,Vc]
    rw[hg,Vk,hb]at h1
    cases h1
   ·rw[Vk,he]at hs
    cases hs
    exact⟨_,S,μ,hq,hR⟩
  | succ fuel ih =>
   intro ls C' s S μ a w hf hl hls hg hs hR
   have Wa:=vD hp (sD hs)
   have YB:ls.all id=false:=by
    cases hb:ls.all id
    ·rfl
    ·rw[ff hb]at hf
     simp[gZ]at hf
   unfold y3 at Wa
   rw[RE (by rw[YB];simp)]at Wa
   have XJ:∀i,i∈Region.ready .any ops.toArray C'↔i∈ja ops ls:=by
    intro i
    rw[dK C' (by rw[hls,Ul]) i]
    unfold ja
    rw[Ta,SD]
    unfold Mq
    constructor
    ·rintro⟨h1,o,ho,h2⟩
     have Vx:ops[i]?=some o:=by simpa using ho
     refine⟨(Rz.1 Vx).1,?_⟩
     rw[← hg,h1,Vx]
     simp only[Bool.not_false,Tc,R7,Tv,Sh,Sj]
     intro e he
     cases hb:Region.binds .any e
     ·exact .inl rfl
     ·exact .inr (by rw[← hg];exact h2 e he hb)
    ·rintro⟨h1,h2⟩
     rw[RA]at h2
     obtain⟨h2,h3⟩:=h2
     rw[RB h1]at h3
     refine⟨by rw[hg];simpa using h2,ops[i],by simp[RB h1],fun e he hb=>?_⟩
     simp only[R7,Tv,Sh,Sj]at h3
     rcases h3 e he with h4 | h4
     ·rw[hb]at h4;cases h4
     ·rw[hg];exact h4
   have YW:∀i,i∈ja ops ls→xC C.P C.nt ops Us tab ls s i:=by
    intro i hi
    cases hr:ja ops ls with
    | nil=>rw[hr]at hi;cases hi
    | cons j r =>
     rw[hr]at Wa hi
     exact qc Wa hi
   refine⟨fun WC=>?_,fun i hi=>?_⟩
   ·exfalso
    cases hr:ja ops ls with
    | nil=>rw[hr]at Wa;exact Wa
    | cons j r =>
     have:j∈Region.ready .any ops.toArray C':=(XJ j).2 (by rw[hr];exact Se ..)
     rw[WC]at this
     cases this
   ·have Yb:=(XJ i).1 hi
    have Uz:=YW i Yb
    obtain⟨UU,o,ho,_⟩:=(dK C' (by rw[hls,Ul]) i).1 hi
    have Vx:ops[i]?=some o:=by simpa using ho
    have Un:i<ops.length:=(Rz.1 Vx).1
    unfold xC at Uz
    rw[Vx]at Uz
    simp only at Uz
    generalize hsq:dQ C.P C.nt ops Us i [o] s=q at Uz
    obtain⟨s1,p1⟩:=q
    simp only at Uz
    split at Uz
    ·rename_i s2 Vs
     obtain⟨V0,Xc⟩:=Uz
     have next:∀S' μ' a' w',bc C S' μ' s1 a' w'→wpAnyIn (od C.rd) 0 C.P .any ops.toArray (fun e a' w'=>∃T4 S' μ',Q e T4∧bc C S' μ' T4 a' w') fuel (C'.setIfInBounds i true) a' w':=by
      intro S' μ' a' w' U0
      have XB:=U0.keep (s2.env.map (·.1))
      have e2:(⟨mN (s2.env.map (·.1)) s1.env,s1.heap⟩:St)=s2:=V0
      rw[e2]at XB
      refine ih (ls.set i true) (C'.setIfInBounds i true) s2 S' μ' a' w' ?_ (by simpa using hl) (by simpa using hls) ?_ Vs XB
      ·have:=sF (ls:=ls) (i:=i) (by omega) (by rw[← hg];exact UU)
       omega
      ·intro j
       rw[ba _ _ _ (by omega)]
       split
       ·rename_i hj
        rw[hj]
        unfold List.getD
        rw[RR (show i<ls.length by omega)]
        rfl
       ·rename_i hj
        rw[hg]
        unfold List.getD
        rw[RQ (by omega)]
     have hdef:dg o=false:=by
      rw[R7]at hnd
      have:=hnd o (Sf Vx)
      simpa using this
     unfold dQ at hsq
     unfold wpOpIn
     rw[ho]
     simp only
     split at hsq
     ·rename_i Zz
      rw[RH (cy hR Zz)]
      generalize V1:pH C.P C.nt (pz Us i) o s=q1 at hsq
      obtain⟨s1',p1'⟩:=q1
      simp only[dQ,RI]at hsq
      obtain⟨rfl,rfl⟩:=hsq
      exact ub hdef (mP hR V1 Xc.1 next)
     ·rename_i Zz
      rw[RE (by rw[cy hR Zz];simp)]
      generalize V1:mM C.nt s o.dst=q1 at hsq
      obtain⟨s1',p1'⟩:=q1
      simp only[dQ,RI]at hsq
      obtain⟨rfl,rfl⟩:=hsq
      refine⟨fun f _=>pV C.rd f,?_⟩
      unfold mM at V1
      refine next S μ _ _ (hR.ePut V1 Xc.1 ?_).2
      exact .tup [] #[] rfl (fun j y u hy _=>by simp at hy)
     ·simp only[aV,RI]at hsq
      rw[← hsq.2]at Xc
      exact Xc.elim
    ·exact Uz.elim
 refine wpIn_region_any hm ?_
 have hR0:bc C S μ st a { w with drawn:=w.drawn+1 }:=hR.grow rfl rfl rfl (RD _) (fun _ _=>rfl) (fun b hb=>hb) (fun b hb=>.inl hb) (fun b hb=>hR.slt b hb)
 have Z0:=hR0.keep (VY.env.map (·.1))
 have e0:(⟨mN (VY.env.map (·.1)) st.env,st.heap⟩:St)=VY:=hk
 rw[e0]at Z0
 refine main ops.toArray.size (List.replicate ops.length false) (Array.replicate ops.toArray.size false) VY S μ a _ (by rw[Ul];simp[gZ]) (by simp) (by simp) (fun i=>by simp[Array.getD,List.getD,SR];split<;>rfl) h0 Z0
end
end Go.Proofs.YtckgpflobhpnpaaGreat
namespace Go.Proofs.YtckgpflobhpnpaaGreat
open Go.RowKit
set_option linter.unusedVariables false
set_option linter.unusedSimpArgs false
def vG (id:Nat):List D→List D→Prop
 | [],[]=>True
 | .own i::cs,.own j::ds=>i=id∧j=0∧vG id cs ds
 | c::cs,d::ds=>(scal c&&scal d)=true∧p6 c d∧vG id cs ds
 | _,_=>False
def CY (id:Nat):D→D→Prop
 | .own i,.own j=>i=id∧j=0
 | .gr i r,.gr j s=>i=id∧j=0∧r=s
 | .agg cs,.agg ds=>vG id cs ds
 | _,_=>False
section
variable {P:Program} {C:kU} {S:Nat→Prop} {μ:Nat→Value} {st:St} {a:Act} {w:World} {Q:Exit→St→Prop}
theorem Ge {S S2:Nat→Prop} {μ μ2:Nat→Value} {w:World} {c d:D} {u:Value} (h:an S μ w c u) (hs:(scal c&&scal d)=true) (he:p6 c d):an S2 μ2 w d u:=by
 simp only[RA]at hs
 have h2:an S μ w d u:=qG he h
 cases d<;>first | (cases hs.2;done) | skip
 cases h2 with
 | v _ _ h=>exact .v _ _ (h.flat hs.2)
theorem xD {S S2:Nat→Prop} {μ:Nat→Value} {w:World} {id:Nat}:∀{cs ds:List D},vG id cs ds→cs.length=ds.length∧∀(j:Nat) (c d:D) (u:Value),cs[j]?=some c→ds[j]?=some d→an S μ w c u→an S2 (fun _=>μ id) w d u
 | [],[],_=>⟨rfl,fun j c d u hc=>by simp at hc⟩
 | [],_::_,h=>by simp[vG]at h
 | c::cs,[],h=>by cases c<;>simp[vG]at h
 | c::cs,d::ds,h=>by
  have key:((c=.own id∧d=.own 0)∨((scal c&&scal d)=true∧p6 c d))∧vG id cs ds:=by
   cases c<;>first | (obtain⟨h1,h2,h3⟩:=h;exact⟨.inr ⟨h1,h2⟩,h3⟩) | skip
   rename_i i
   cases d<;>first | (obtain⟨h1,h2,h3⟩:=h;cases h1;done) | skip
   obtain⟨rfl,rfl,h3⟩:=h
   exact⟨.inl ⟨rfl,rfl⟩,h3⟩
  obtain⟨q1,q2⟩:=xD (S:=S) (S2:=S2) (μ:=μ) (w:=w) key.2
  refine⟨by simp[q1],fun j x y u hx hy hu=>?_⟩
  match j with
  | 0 =>
   simp at hx hy
   subst hx hy
   rcases key.1 with ⟨rfl,rfl⟩ | ⟨k1,k2⟩
   ·cases hu
    exact an.own (μ:=fun _=>μ id) 0
   ·exact Ge hu k1 k2
  | j+1=>exact q2 j x y u (by simpa using hx) (by simpa using hy) hu
theorem HB {S S2:Nat→Prop} {μ:Nat→Value} {w:World} {id:Nat} {d r:D} {u:Value} (h:an S μ w d u) (hr:CY id d r):an S2 (fun _=>μ id) w r u:=by
 cases d<;>cases r<;>first | (simp[CY]at hr;done) | skip
 ·obtain⟨rfl,rfl⟩:=hr
  cases h
  exact an.own (μ:=fun _=>μ _) 0
 ·obtain⟨q1,q2⟩:=xD (S:=S) (S2:=S2) (μ:=μ) (w:=w) hr
  cases h with
  | agg _ us h1 h2 =>
   refine .agg _ us (by omega) (fun j y x hy hx=>?_)
   have hj:j<us.size:=(RU.1 hx).1
   rename_i cs ds
   have hc:cs[j]?=some cs[j]:=RB (by omega)
   exact q2 j _ y x hc hy (h2 j _ x hc hx)
 ·obtain⟨rfl,rfl,rfl⟩:=hr
  cases h with
  | gr _ _ us _ h1 h2 h3=>exact .gr 0 _ us u h1 h2 h3
theorem Ev.move {c:Code} (j i:Nat) {T4:St} (h:Eg j i st=some T4) (he:Ev C c Q T4):Ev C c Q st:=fun a w S μ hR=>he a w S _ (hR.move h)
end
end Go.Proofs.YtckgpflobhpnpaaGreat
namespace Go.Proofs.YtckgpflobhpnpaaGreat
open Go.RowKit
set_option linter.unusedVariables false
set_option linter.unusedSimpArgs false
abbrev dI (k:IntKind) (n:Int):D:=.v (.int k n)
abbrev dB (b:Bool):D:=.v (.bool b)
abbrev dS (s:ByteArray):D:=.v (.str s)
abbrev dL {α:Type} (sz:Nat) (enc:α→List V) (d:α) (l:List α):D:=.v (.sl sz enc d l)
abbrev i6 (n:Int):D:=.v (.int .i64 n)
def ab (k:IntKind) (n:Int):List V:=[.int k n]
def aL (b:Bool):List V:=[.bool b]
def dc (s:ByteArray):List V:=[.str s]
abbrev LI (l:List Int):D:=.v (.sl 1 (ab .i64) 0 l)
abbrev LY (l:List Int):D:=.v (.sl 1 (ab .u8) 0 l)
abbrev LB (l:List Bool):D:=.v (.sl 1 aL false l)
def bm:Nat→Nat→List Bool
 | 0,_=>[]
 | n+1,k=>(k%2==1)::bm n (k / 2)
theorem oK:True:=⟨⟩
abbrev sE (s:St) (p:Prop):Prop:=s=s∧p∧True
theorem G6 {x y:Int} (h:x=y) (h1:-9223372036854775808≤y) (h2:y≤9223372036854775807):IntKind.i64.wrap x=y:=by
 rw[h,IntKind.wrap_i64];omega
theorem Kf {x y:Int} (h:x=y) (h1:0≤y) (h2:y≤18446744073709551615):IntKind.u64.wrap x=y:=by
 rw[h,IntKind.wrap_u64];omega
theorem Q5 {x y:Int} (h:x=y) (h1:0≤y) (h2:y≤255):IntKind.u8.wrap x=y:=by
 rw[h,IntKind.wrap_u8'];omega
end Go.Proofs.YtckgpflobhpnpaaGreat
