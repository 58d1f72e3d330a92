/-
  Walks on pure data: Xn,rules,regions. Generic: over any program.
-/
import Derived.Test.YtnlmlkbaflmgcaaGreatQKa
namespace Go.Proofs.YtnlmlkbaflmgcaaGreat
open Go.RowKit
set_option linter.unusedVariables false
set_option linter.unusedSimpArgs false
inductive Ov:Type 1
 | none
 | val (d:D)
 | lift (d:D)
 | box (E:TypeId) (sz:Nat) {α:Type} (enc:α→List V) (d:α) (l:List α)
 | call (q':Option (List D)) (al:Bool) (r:D)
 | callr (id:Nat) (q':List D) (r:D)
 | frz (E:TypeId) (sz:Nat) {α:Type} (enc:α→List V) (d:α) (l:List α)
 | inl (r:D) (env:List (Nat×D)) (H:List aC)
 | inls (r:D)
 | yld (b:Bool) (env:List (Nat×D)) (H:List aC)
 | idx (i:Option Nat)
 | ent (d:D)
 | callg (q':Option (List D)) (al:Bool) (r:D)
 | ownc (q':Option (List D)) (r:D) (B:aC)
 | ownd (q':Option (List D)) (r:D) (B:aC)
 | apf (E sz:Nat) {α:Type} (enc:α→List V) (d:α) (l:List α)
 | mbox (t:TypeId) (ag:Bool) {α:Type} (enc:α→List V) (d:α) (l:List (ByteArray×α))
 | app (fz:Bool) (E sz:Nat) {α:Type} (enc:α→List V) (d:α) (l:List α)
 | cells (gs:List Nat) (cell:Nat→Nat→D)
def v4 (H:List aC):D→Bool
 | .agg _=>false
 | .tup _=>false
 | .junk=>false
 | .own id=>match H[id]? with | some (.arr _ _ _ _ _)=>true | some (.ro _ _ _ _ _)=>true | some (.mpb _ _ _ _ _)=>true | some (.arrD _ _ _ _ _)=>true | _=>false
 | _=>true
abbrev R2:=St×Prop
def a8 (st:St):R2:=(st,False)
def PD:D→Option V
 | .v x=>some x
 | .nils=>some (.sl 0 (α:=Unit) (fun _=>[]) () [])
 | _=>none
def Bb:List D→Option (List V)
 | []=>some []
 | d::r=>match PD d,Bb r with
  | some x,some xs=>some (x::xs)
  | _,_=>none
def v5:List (List D)→Option (List (List V))
 | []=>some []
 | d::r=>match Bb d,v5 r with
  | some x,some xs=>some (x::xs)
  | _,_=>none
def Lj:D→V→Prop
 | .v x,y=>AU x y
 | .nils,.sl _ _ _ l=>l=[]
 | .nils,.nsl=>True
 | _,_=>False
def dt:List D→List V→Prop
 | [],[]=>True
 | d::ds,v::vs=>Lj d v∧dt ds vs
 | _,_=>False
def am:List (List D)→List (List V)→Prop
 | [],[]=>True
 | d::ds,v::vs=>dt d v∧am ds vs
 | _,_=>False
def qg (E sz:Nat) (L:List (List V)):Ov→aC×Prop
 | .box E' W9 WF d' l'=>if Nat.beq E E'&&Nat.beq sz W9 then (.arr E sz WF d' l',L=l'.map WF)else (.dead,False)
 | _=>(.arr E sz (α:=Nat) (fun i=>L.getD i []) 0 (List.range L.length),True)
def newBox (st:St) (nt:Nat) (dst:Option Nat) (B:aC) (d:D) (p:Prop):R2 :=
 match dst with
 | some t=>if Nat.blt t nt&&cE st.heap.length st.env&&cF st.heap.length st.heap then (⟨A7 st.env t d,st.heap++[B]⟩,p)else a8 st
 | none=>a8 st
def eVar (nt:Nat) (st:St) (dst:Option Nat) (T:TypeId) (cs:List D):R2 :=
 if D.freeL st.heap.length cs then newBox st nt dst (.var T cs) (.ptr st.heap.length 0 0 0) True else a8 st
def NT (sz n i J':Nat) (new:List D) (YB:List Nat) (cell U':Nat→Nat→D):Prop :=
 ∀i' j,i'<n→j<sz→U' i' j=(if i'=i∧J'≤j∧j<J'+new.length then new.getD (j-J') .junk else cell i' j)∧∀id,YB.all (fun g=>!(Nat.beq g id))=true→(U' i' j).free id=true
def v6 (P:Program) (st:St) (ov:Ov) (t:TypeId) (a x:D):R2 :=
 match a,kE st.heap x with
 | .ptr id i sz J',some new =>
  if dh P t&&Nat.beq new.length (aH P t)&&new.all (v4 st.heap)then
   match st.heap[id]? with
   | some (.var T cs)=>if Nat.beq i 0&&Nat.ble (J'+new.length) cs.length then (⟨st.env,st.heap.set id (.var T (gf cs new J'))⟩,True)else a8 st
   | some (.arr E W9 enc d l)=>match Bb new with
    | some nv=>if Nat.beq sz W9&&Nat.ble (J'+nv.length) sz then
      match qg E sz ((l.map enc).set i ((enc (l.getD i d)).take J'++nv++(enc (l.getD i d)).drop (J'+nv.length))) ov with
      | (B,p)=>(⟨st.env,st.heap.set id B⟩,i<l.length∧p)
     else a8 st
    | none=>a8 st
   | some (.arrD E W9 n _ cell)=>match ov with
    | .cells YB U'=>if Nat.beq sz W9&&Nat.ble (J'+new.length) sz then (⟨st.env,st.heap.set id (.arrD E sz n YB U')⟩,i<n∧NT sz n i J' new YB cell U')else a8 st
    | _=>a8 st
   | _=>a8 st
  else a8 st
 | _,_=>a8 st
def qh (sz n:Nat) (cells:List D):List (List D):=(List.range n).map fun i=>(cells.drop (i*sz)).take sz
def ts (P:Program) (nt:Nat) (st:St) (ov:Ov) (dst:Option Nat) (t:TypeId) (len:Nat) (M':List (Nat×D)):R2 :=
 match P.underlying t with
 | some (.slice E)=>match ju P E with
  | some z=>if dh P E&&Nat.beq z.length (aH P E)&&Nat.ble 1 (aH P E)&&Nat.ble (len*aH P E) 4096 then
    match im st.heap (fun i=>some (i*aH P E,aH P E)) (List.replicate len z).flatten M' with
    | some cells=>match ov with
     | .box E' W9 WF d' l'=>if Nat.beq E E'&&Nat.beq (aH P E) W9 then newBox st nt dst (.arr E (aH P E) WF d' l') (.own st.heap.length) (am (qh (aH P E) len cells) (l'.map WF))else a8 st
     | .cells gs cell=>if gs.all (fun g=>Nat.blt g st.heap.length)&&cells.all (v4 st.heap)then newBox st nt dst (.arrD E (aH P E) len gs cell) (.own st.heap.length) (∀i j,i<len→j<aH P E→cell i j=cells.getD (i*aH P E+j) .junk∧∀k,gs.all (fun g=>!(Nat.beq g k))=true→(cell i j).free k=true)else a8 st
     | _=>match v5 (qh (aH P E) len cells)with
      | some L=>newBox st nt dst (.arr E (aH P E) (α:=Nat) (fun i=>L.getD i []) 0 (List.range L.length)) (.own st.heap.length) True
      | none=>a8 st
    | none=>a8 st
   else a8 st
  | none=>a8 st
 | _=>a8 st
def jv (P:Program) (t:TypeId):Nat:=((P.info? t).map (·.bytes)).getD 0
def xR (P:Program) (nt:Nat) (st:St) (ov:Ov) (dst:Option Nat) (t:TypeId) (l c:D):R2 :=
 match P.underlying t,l,c with
 | some (.slice E),.v (.int _ n),.v (.int _ m)=>match ju P E with
  | some z=>if dh P E&&Nat.beq z.length (aH P E)&&Nat.ble 1 (aH P E)&&Nat.ble (jv P E) 1024 then
    match ov with
    | .box E' W9 WF d' l'=>if Nat.beq E E'&&Nat.beq (aH P E) W9 then newBox st nt dst (.arr E (aH P E) WF d' l') (.own st.heap.length) ((0≤n∧n≤m∧m≤137438953472)∧l'.length=n.toNat∧∀x∈l',dt z (WF x))else a8 st
    | _=>a8 st
   else a8 st
  | none=>a8 st
 | _,_,_=>a8 st
def Bc (H:List aC) (sz:Nat):D→Option (List (List V))
 | .v (.sl W9 enc _ l)=>if Nat.beq sz W9 then some (l.map enc)else none
 | .own id=>match H[id]? with
  | some (.arr _ W9 enc _ l)=>if Nat.beq sz W9 then some (l.map enc)else none
  | _=>none
 | .nils=>some []
 | .v .nsl=>some []
 | .v .esl=>some []
 | _=>none
def zw (P:Program) (nt:Nat) (st:St) (ov:Ov) (dst:Option Nat) (t:TypeId) (s x:D):R2 :=
 match P.underlying t with
 | some (.slice E)=>match ju P E,Bc st.heap (aH P E) x with
  | some z,some new=>if dh P E&&Nat.beq z.length (aH P E)&&Nat.ble 1 (aH P E)&&Nat.ble (jv P E) 1024 then
    match s with
    | .own id=>match st.heap[id]?,dst with
     | some (.arr E' W9 enc d l),some td=>if Nat.beq E E'&&Nat.beq W9 (aH P E)&&Nat.blt td nt&&D.free id x then
       match qg E W9 (l.map enc++new) ov with
       | (B,p)=>(⟨A7 (mZ id st.env) td (.own id),cA (di id st.heap) id B⟩,l.length+new.length≤137438953472∧p)
      else a8 st
     | _,_=>a8 st
    | .nils=>match qg E (aH P E) new ov with
     | (B,p)=>newBox st nt dst B (.own st.heap.length) (new.length≤137438953472∧p)
    | .capd (.sl W9 enc _ l)=>if Nat.beq W9 (aH P E)then
      match qg E (aH P E) (l.map enc++new) ov with
      | (B,p)=>newBox st nt dst B (.own st.heap.length) (0<new.length∧l.length+new.length≤137438953472∧p)
     else a8 st
    | _=>a8 st
   else a8 st
  | _,_=>a8 st
 | _=>a8 st
def Df (ag:Bool) (x:D):Option (List V):=if ag then (match x with | .agg ds=>Bb ds | _=>none)else (PD x).map fun v=>[v]
def zx (P:Program) (st:St) (ov:Ov) (t:TypeId) (m k x:D):R2 :=
 match P.underlying t,m,k with
 | some (.map K E),.own id,.v (.str k)=>match P.underlying K,st.heap[id]?,ov with
  | some .string,some (.mpb t' ag enc d l),.mbox t2 ag2 X4 d2 l2=>match Df ag x with
   | some vs=>if Nat.beq t t'&&Nat.beq t t2&&(ag==ag2)then (⟨st.env,st.heap.set id (.mpb t ag X4 d2 l2)⟩,eP (l.map fun p=>(p.1,enc p.2)) k vs=l2.map fun p=>(p.1,X4 p.2))else a8 st
   | none=>a8 st
  | _,_,_=>a8 st
 | _,_,_=>a8 st
def v7 (P:Program) (nt:Nat) (st:St) (ov:Ov) (dst:Option Nat) (t:TypeId) (s x:D):R2 :=
 match P.underlying t,s,x,dst with
 | some (.slice E),.own id,.own iy,some td=>match ju P E,st.heap[id]?,st.heap[iy]?,ov with
  | some z,some (.arrD E1 sz1 n _ cell),some (.arrD _ Z6 m _ cell2),.cells YB U' =>
   if (dh P E&&Nat.beq z.length (aH P E)&&Nat.ble 1 (aH P E)&&Nat.ble (jv P E) 1024)&&(Nat.beq E E1&&Nat.beq sz1 (aH P E)&&Nat.beq Z6 (aH P E))&&Nat.blt td nt then
    (⟨A7 (mZ id st.env) td (.own id),cA (di id st.heap) id (.arrD E (aH P E) (n+m) YB U')⟩,n+m≤137438953472∧∀i j,i<n+m→j<aH P E→U' i j=(if i<n then cell i j else cell2 (i-n) j)∧(U' i j).free id=true∧∀k,YB.all (fun g=>!(Nat.beq g k))=true→(U' i j).free k=true)
   else a8 st
  | _,_,_,_=>a8 st
 | _,_,_,_=>a8 st
def v8 (P:Program) (nt:Nat) (st:St) (ov:Ov) (dst:Option Nat) (t:TypeId) (s x:D):R2:=a8 st
def ePut (nt:Nat) (st:St) (dst:Option Nat) (d:D) (p:Prop):R2 :=
 match dst with
 | some t=>if Nat.blt t nt then (⟨A7 st.env t d,st.heap⟩,p)else a8 st
 | none=>(st,p)
def ET (P:Program) (nt:Nat) (st:St) (dst:Option Nat) (t:TypeId) (x ix:D) (i:Option Nat):R2 :=
 match P.underlying t,x,ix with
 | some (.map K E),.v (.mp es),.v (.int k n)=>match P.underlying K,k with
  | some (.int .i64),.i64=>match i with
   | some j=>match es[j]? with
    | some e=>ePut nt st dst (.tup [D.ofVal e.2,.v (.bool true)]) (n=e.1∧∀e'∈es.take j,n≠e'.1)
    | none=>a8 st
   | none=>match (P.info? E).bind (·.zero)with
    | some z=>ePut nt st dst (.tup [D.ofVal z,.v (.bool false)]) (∀e'∈es,n≠e'.1)
    | none=>a8 st
  | _,_=>a8 st
 | _,_,_=>a8 st
def PS (P:Program) (nt:Nat) (st:St) (dst:Option Nat) (t:TypeId) (x ix:D) (d:D):R2 :=
 match P.underlying t,x,ix with
 | some (.map K E),.v (.mp es),.v (.int k n)=>match P.underlying K,k with
  | some (.int .i64),.i64=>ePut nt st dst (.tup [d,.v (.bool true)]) (∃(j:Nat) (e:Int×Value),es[j]?=some e∧n=e.1∧(∀e'∈es.take j,n≠e'.1)∧xh (D.ofVal e.2) d)
  | _,_=>a8 st
 | _,_,_=>a8 st
def j7 (P:Program) (f:FuncId):Bool:=match P.funcs[f]? with
 | some fn=>!(fn.name == "runtime.NumGoroutine")&&!fn.body.isNone
 | none=>false
def qM:Option aC→Bool
 | some .dead=>true
 | _=>false
def PT (P:Program) (fn:Func) (r:D) (H:List aC):Exit→St→Prop
 | .normal,st=>iU P fn st∧xh (i2 P fn st) r∧st.heap.take H.length=H
 | .ret,st=>iU P fn st∧xh (i2 P fn st) r∧st.heap.take H.length=H
 | _,_=>False
def j8 (P:Program) (g:FuncId) (ds:List D) (H:List aC) (r:D) (H':List aC):Prop :=
 ∃fn c,P.funcs[g]?=some fn∧fn.body=some c∧Nat.ble ds.length fn.ntmps=true ∧
  ∀C:ns,C.P=P→C.nt=fn.ntmps→C.rd=none→Ev C c (PT P fn r H') ⟨m4 0 ds,H⟩
def v9:Exit→LoopState
 | .normal=>.ready
 | _=>.done
def zy:Exit→Option Code
 | .ret=>some .ret
 | .exit i=>some (.exit i)
 | _=>none
def Ij:Exit→Option Bool
 | .normal=>some true
 | .ret=>some false
 | .exit _=>some false
 | _=>none
def Ik (id l:Nat) (b:Bool) (H:List aC) (e:Exit) (st:St):Prop :=
 match st.heap[id]? with
 | some (.loop l' tm nt env ps q' bd _ _)=>l'=l∧Ij e=some b∧(st.heap.set id (.loop l' tm nt env ps q' bd (v9 e) (zy e))).take H.length=H
 | _=>False
def Il (C:ns) (body:Code) (id l:Nat) (b:Bool) (H:List aC):Exit→St→Prop
 | .normal,st=>match st.heap[id]? with
  | some (.loop l' tm nt env ps q' bd .ready none)=>l'=l∧Ev C body (Ik id l b H) ⟨st.env,st.heap.set id (.loop l' tm nt env ps q' bd .busy none)⟩
  | _=>False
 | _,_=>False
def Lk (P:Program) (l nt:Nat) (assign body:Code) (st:St) (id:Nat) (b:Bool) (H:List aC):Prop :=
 ∀C:ns,C.P=P→C.nt=nt→C.rd=some l→Ev C assign (Il C body id l b H) st
def EU:List Nat→List D→List (Nat×D)→List (Nat×D)
 | p::ps,d::ds,env=>EU ps ds (A7 env p d)
 | _,_,env=>env
def Im (P:Program) (nt:Nat) (st:St) (dst:Option Nat) (g:FuncId) (ds:List D) (r:D) (env:List (Nat×D)) (H:List aC):R2 :=
 if j7 P g&&cE st.heap.length st.env&&cF st.heap.length st.heap&&qM H[st.heap.length]? then
  ePut nt ⟨env,H⟩ dst r (∀tm:Array Value,j8 P g ds (st.heap++[.frame tm st.env]) r (H.set st.heap.length (.frame tm env)))
 else a8 st
def PU (P:Program) (g:FuncId) (ds:List D) (H:List aC) (env:List (Nat×D)) (r:D):Prop:=∀tm:Array Value,j8 P g ds (H++[.frame tm env]) r (H++[.frame tm env])
def Io (P:Program) (nt:Nat) (st:St) (dst:Option Nat) (g:FuncId) (ds:List D) (r:D):R2 :=
 if j7 P g&&cE st.heap.length st.env&&cF st.heap.length st.heap then ePut nt ⟨st.env,st.heap++[.dead]⟩ dst r (PU P g ds st.heap st.env r)else a8 st
theorem Ip {P:Program} {nt:Nat} {st P':St} {dst:Option Nat} {g:FuncId} {ds:List D} {r:D} {p:Prop} (h:Io P nt st dst g ds r=(P',p)) (hp:p) :
  ∃p',Im P nt st dst g ds r st.env (st.heap++[.dead])=(P',p')∧p':=by
 unfold Io at h
 unfold Im
 have hd:qM (st.heap++[aC.dead])[st.heap.length]?=true:=by simp[qM]
 have hs:∀B,(st.heap++[aC.dead]).set st.heap.length B=st.heap++[B]:=by intro B;simp
 split at h
 ·rename_i hc
  rw[Uw (by rw[hc,hd];rfl)]
  unfold ePut at h ⊢
  cases dst with
  | none =>
   simp only[Ux]at h
   obtain⟨rfl,rfl⟩:=h
   exact⟨_,rfl,fun tm=>by rw[hs];exact hp _⟩
  | some t =>
   simp only at h ⊢
   split at h
   ·rename_i ht
    simp only[Ux]at h
    obtain⟨rfl,rfl⟩:=h
    rw[Uw ht]
    exact⟨_,rfl,fun tm=>by rw[hs];exact hp _⟩
   ·simp only[a8,Ux]at h
    obtain⟨_,rfl⟩:=h
    exact hp.elim
 ·simp only[a8,Ux]at h
  obtain⟨_,rfl⟩:=h
  exact hp.elim
def Dg (P:Program) (nt:Nat) (st:St) (dst:Option Nat) (id:Nat) (ds:List D) (b:Bool) (env:List (Nat×D)) (H:List aC):R2 :=
 match st.heap[id]? with
 | some (.loop l tm ntL envL ps q' body .ready none) =>
  if cE st.heap.length st.env&&cF st.heap.length st.heap&&qM H[st.heap.length]?&&Nat.beq ps.length ds.length&&ps.all (fun p=>Nat.blt p ntL)then
   ePut nt ⟨env,H⟩ dst (.v (.bool b)) (∀tmF:Array Value,Lk P l ntL q' body ⟨EU ps ds envL,st.heap++[.frame tmF st.env]⟩ id b (H.set st.heap.length (.frame tmF env)))
  else a8 st
 | _=>a8 st
def Iq (P:Program) (nt:Nat) (st:St) (ov:Ov) (dst:Option Nat) (f:D) (ds:List D):R2 :=
 match f with
 | .fn (.func g) first cap=>match ov with
  | .call q' al r=>if j7 P g&&fm r&&(!al||gg (first++ds++cap))then
    ePut nt st dst r (qK P g st.heap (first++ds++cap) q' al r)
   else a8 st
  | .callr id q' r=>if j7 P g&&fm r then ePut nt st dst r (lO P g st.heap (first++ds++cap) id q' r)else a8 st
  | .callg q' al r=>if fm r&&(!al||gg (first++ds++cap))then
    ePut nt st dst r (j7 P g=true∧qK P g st.heap (first++ds++cap) q' al r)
   else a8 st
  | .inl r env H=>Im P nt st dst g (first++ds++cap) r env H
  | .inls r=>Io P nt st dst g (first++ds++cap) r
  | .ownc q' r B=>if j7 P g&&Dd r&&cE st.heap.length st.env&&cF st.heap.length st.heap then
    ePut nt ⟨st.env,st.heap++[B]⟩ dst (r.up st.heap.length) (zu P g st.heap (first++ds++cap) q' r B)
   else a8 st
  | .ownd q' r B=>if j7 P g&&(Dd r&&(B.isOwn&&gg (first++ds++cap)))&&cE st.heap.length st.env&&cF st.heap.length st.heap then
    ePut nt ⟨st.env,st.heap++[B]⟩ dst (r.up st.heap.length) (vp P g st.heap (first++ds++cap) q' r B)
   else a8 st
  | _=>a8 st
 | .yld id=>match ov with
  | .yld b env H=>Dg P nt st dst id ds b env H
  | _=>a8 st
 | _=>a8 st
def wa (nt:Nat) (st:St) (ov:Ov) (dst:Option Nat) (r:R1):R2 :=
 match ov with
 | .val d'=>ePut nt st dst d' (r.2∧xh r.1 d')
 | .lift d'=>ePut nt st dst d' (r.2∧dC r.1 d')
 | _=>ePut nt st dst r.1 r.2
def rN (P:Program) (nt:Nat) (ov:Ov) (o:Oper) (st:St):R2 :=
 match o.op with
 | .alloc T=>match ju P T with
  | some z=>eVar nt st o.dst T z
  | none=>a8 st
 | .box T x=>match kE st.heap (fF st.env x)with
  | some cs=>eVar nt st o.dst T cs
  | none=>a8 st
 | .store t a x=>match o.dst with
  | none=>v6 P st ov t (fF st.env a) (fF st.env x)
  | some _=>a8 st
 | .buildSlice t len M'=>match ov with
  | .frz E sz enc d l=>match ts P nt st (.box E sz enc d l) o.dst t len (M'.toList.map fun p=>(p.1,fF st.env p.2))with
   | (Xl,p)=>match oQ st.heap.length Xl with
    | some Z3=>(Z3,p)
    | none=>a8 st
  | _=>ts P nt st ov o.dst t len (M'.toList.map fun p=>(p.1,fF st.env p.2))
 | .makeSlice t l c=>match ov with
  | .frz E sz enc d l'=>match xR P nt st (.box E sz enc d l') o.dst t (fF st.env l) (fF st.env c)with
   | (Xl,p)=>match oQ st.heap.length Xl with
    | some Z3=>(Z3,p)
    | none=>a8 st
  | _=>xR P nt st ov o.dst t (fF st.env l) (fF st.env c)
 | .call ⟨.builtin .append,args,Zw⟩=>match args.toList,Zw.toList with
  | [s,x],[t,t']=>if Nat.beq t t' then (match ov with | .apf _ _ _ _ _=>v8 P nt st ov o.dst t (fF st.env s) (fF st.env x) | .cells _ _=>v7 P nt st ov o.dst t (fF st.env s) (fF st.env x) | _=>zw P nt st ov o.dst t (fF st.env s) (fF st.env x))else a8 st
  | _,_=>a8 st
 | .call ⟨.value f,args,_⟩=>Iq P nt st ov o.dst (fF st.env f) (args.toList.map (fF st.env))
 | .lookup t x ix true=>match ov with
  | .idx i=>ET P nt st o.dst t (fF st.env x) (fF st.env ix) i
  | .ent d=>PS P nt st o.dst t (fF st.env x) (fF st.env ix) d
  | _=>wa nt st ov o.dst (gI P st.heap (fF st.env) o.op)
 | .makeMap t none=>match ov with
  | .mbox t' ag enc d _=>if Nat.beq t t' then newBox st nt o.dst (.mpb t ag enc d []) (.own st.heap.length) True else a8 st
  | _=>a8 st
 | .mapUpdate t m k x=>match o.dst with
  | none=>zx P st ov t (fF st.env m) (fF st.env k) (fF st.env x)
  | some _=>a8 st
 | op=>wa nt st ov o.dst (gI P st.heap (fF st.env) op)
section
variable {C:ns} {S:Nat→Prop} {μ:Nat→Value} {st P':St} {a:Act} {w w':World} {p:Prop}
theorem bk.newBox (h:bk C S μ st a w) {dst:Option Nat} {B:aC} {d:D} {q:Prop} (hp:newBox st C.nt dst B d q=(P',p)) (D':p) (hg:w.grownBy w' none) {u:Value}
  (I':aN S (br μ st.heap.length u) w' u B) (WB:∀b,cx u b→w.heap.size≤b) {v:Value} (hv:aq S (br μ st.heap.length u) w' d v) (X3:B.isRo=false:=by rfl) :
  q∧bk C S (br μ st.heap.length u) P' (a.put dst v) w':=by
 unfold Proofs.YtnlmlkbaflmgcaaGreat.newBox at hp
 split at hp
 ·split at hp
  ·rename_i t hc
   simp only[Uo,Ws]at hc
   simp only[Ux]at hp
   obtain⟨rfl,rfl⟩:=hp
   refine⟨D',?_⟩
   have:=(h.upd (id:=st.heap.length) (B:=B) (u:=u) hg (fun k hk=>by cases hk) (Ut _) I' (fun b hb=>.inr (WB b hb)) (.inr ⟨fun A hA=>by simp at hA,hc.1.2,hc.2⟩) X3).put hc.1.1 hv
   rw[show cA st.heap st.heap.length B=st.heap++[B]from by simp[cA]]at this
   exact this
  ·simp only[a8,Ux]at hp
   rw[← hp.2]at D'
   exact D'.elim
 ·simp only[a8,Ux]at hp
  rw[← hp.2]at D'
  exact D'.elim
theorem bk.eVar (h:bk C S μ st a w) {dst:Option Nat} {T:TypeId} {cs:List D} {vs:Array Value} (hp:eVar C.nt st dst T cs=(P',p)) (D':p) (hr:aU S μ w cs vs) :
  bk C S (br μ st.heap.length (.pointer (some ⟨w.heap.size,0,none⟩))) P' (a.put dst (.pointer (some ⟨w.heap.size,0,none⟩))) (w.alloc (.cells vs T)):=by
 unfold Proofs.YtnlmlkbaflmgcaaGreat.eVar at hp
 split at hp
 ·rename_i hf
  have hg:=VE w (.cells vs T) none
  refine(h.newBox hp D' hg ⟨w.heap.size,vs,rfl,Vx w _,hr.1,fun j y x hy hx=>?_⟩ (fun b hb=>by simp[cx,aO]at hb;omega) ?_).2
  ·refine(hr.2 j y x hy hx).stable (fun _ h _=>h) (fun b _ hb=>hg.block b hb (by simp)) hg.size (fun id WG=>?_)
   refine aP _ _ (fun e=>?_)
   rw[e,D.freeL_get hf hy]at WG
   cases WG
  ·have:=aq.ptr (S:=S) (μ:=br μ st.heap.length (.pointer (some ⟨w.heap.size,0,none⟩))) (w:=w.alloc (.cells vs T)) st.heap.length 0 0 0 w.heap.size (by rw[aG];rfl)
   simpa using this
 ·simp only[a8,Ux]at hp
  rw[← hp.2]at D'
  exact D'.elim
theorem nC:∀{ds:List D} {xs:List V},Bb ds=some xs→ds.length=xs.length∧∀(j:Nat) (x:V),xs[j]?=some x→∃d,ds[j]?=some d∧PD d=some x
 | [],xs,h=>by
  simp only[Bb,UA]at h
  subst h
  exact⟨rfl,fun j x hx=>by simp at hx⟩
 | d::r,xs,h=>by
  unfold Bb at h
  split at h
  ·rename_i y ys hy hys
   simp only[UA]at h
   subst h
   obtain⟨h1,h2⟩:=nC hys
   refine⟨by simp[h1],fun j x hx=>?_⟩
   cases j with
   | zero=>simp at hx;subst hx;exact⟨d,rfl,hy⟩
   | succ j=>simpa using h2 j x (by simpa using hx)
  ·cases h
theorem vq {d:D} {x:V} {u:Value} (h:PD d=some x) (hd:aq S μ w d u):eh S w x u:=by
 unfold PD at h
 split at h
 ·cases h;exact bL hd
 ·cases h
  cases hd
  exact .nil _ _ _ _ _ (by simp[maxLen]) (fun _=>rfl)
 ·cases h
theorem nG {d:D} {x:V} {u:Value} (h:Lj d x) (hd:aq S μ w d u):eh S w x u:=by
 unfold Lj at h
 split at h
 ·exact vj h (bL hd)
 ·subst h
  cases hd
  exact .nil _ _ _ _ _ (by simp[maxLen]) (fun _=>rfl)
 ·cases hd
  exact .nsl
 ·exact h.elim
theorem fU:∀{ds:List D} {xs:List V},dt ds xs→ds.length=xs.length∧∀(j:Nat) (x:V),xs[j]?=some x→∃d,ds[j]?=some d∧Lj d x
 | [],[],_=>⟨rfl,fun j x hx=>by simp at hx⟩
 | [],_::_,h=>h.elim
 | _::_,[],h=>h.elim
 | d::r,y::ys,h=>by
  obtain⟨h1,h2⟩:=fU h.2
  refine⟨by simp[h1],fun j x hx=>?_⟩
  cases j with
  | zero=>simp at hx;subst hx;exact⟨d,rfl,h.1⟩
  | succ j=>simpa using h2 j x (by simpa using hx)
theorem lP:∀{ds:List (List D)} {xs:List (List V)},am ds xs→ds.length=xs.length∧∀(j:Nat) (x:List V),xs[j]?=some x→∃d,ds[j]?=some d∧dt d x
 | [],[],_=>⟨rfl,fun j x hx=>by simp at hx⟩
 | [],_::_,h=>h.elim
 | _::_,[],h=>h.elim
 | d::r,y::ys,h=>by
  obtain⟨h1,h2⟩:=lP h.2
  refine⟨by simp[h1],fun j x hx=>?_⟩
  cases j with
  | zero=>simp at hx;subst hx;exact⟨d,rfl,h.1⟩
  | succ j=>simpa using h2 j x (by simpa using hx)
theorem wb:∀{ds:List (List D)} {xs:List (List V)},v5 ds=some xs→ds.length=xs.length∧∀(j:Nat) (x:List V),xs[j]?=some x→∃d,ds[j]?=some d∧Bb d=some x
 | [],xs,h=>by
  simp only[v5,UA]at h
  subst h
  exact⟨rfl,fun j x hx=>by simp at hx⟩
 | d::r,xs,h=>by
  unfold v5 at h
  split at h
  ·rename_i y ys hy hys
   simp only[UA]at h
   subst h
   obtain⟨h1,h2⟩:=wb hys
   refine⟨by simp[h1],fun j x hx=>?_⟩
   cases j with
   | zero=>simp at hx;subst hx;exact⟨d,rfl,hy⟩
   | succ j=>simpa using h2 j x (by simpa using hx)
  ·cases h
def gR (S:Nat→Prop) (w:World) (E sz:Nat) (L:List (List V)) (u:Value):Prop :=
 (∀(i:Nat) (x:List V),L[i]?=some x→x.length=sz)∧∃xs,w.ownsRow 0 E sz u L.length xs∧∀(i:Nat) (x:List V) (j:Nat) (y:V),L[i]?=some x→x[j]?=some y→∃z,xs[i*sz+j]?=some z∧eh S w y z
theorem gR.box {E sz:Nat} {L:List (List V)} {u:Value} (h:gR S w E sz L u) {α:Type} {enc:α→List V} {d:α} {l:List α} (he:L=l.map enc):aN S μ w u (.arr E sz enc d l):=by
 subst he
 obtain⟨h0,xs,h1,h2⟩:=h
 exact⟨fun i x hx=>h0 i _ (zo hx),xs,by simpa using h1,fun i x j y hx hy=>h2 i _ j y (zo hx) hy⟩
theorem gR.of {E sz:Nat} {u:Value} {α:Type} {enc:α→List V} {d:α} {l:List α} (h:aN S μ w u (.arr E sz enc d l)):gR S w E sz (l.map enc) u:=by
 obtain⟨h0,xs,h1,h2⟩:=h
 refine⟨fun i x hx=>?_,xs,by simpa using h1,fun i x j y hx hy=>?_⟩
 ·obtain⟨z,hz,rfl⟩:=eS hx
  exact h0 i z hz
 ·obtain⟨z,hz,rfl⟩:=eS hx
  exact h2 i z j y hz hy
theorem xS (L:List (List V)):(List.range L.length).map (fun i=>L.getD i [])=L:=by
 refine Vt (by simp) (fun i h1 h2=>?_)
 simp[List.getD,h2]
theorem oS {E sz:Nat} {L:List (List V)} {ov:Ov} {B:aC} {q:Prop} {u:Value} (h:qg E sz L ov=(B,q)) (hq:q) (hb:gR S w E sz L u):aN S μ w u B∧B.isArr=true:=by
 unfold qg at h
 split at h
 ·split at h
  ·rename_i hc
   simp only[Ux]at h
   obtain⟨rfl,rfl⟩:=h
   exact⟨hb.box hq,rfl⟩
  ·cases h;exact hq.elim
 ·cases h;exact⟨hb.box (xS L).symm,rfl⟩
theorem Ir {H:List aC} (hH:bz S μ w H) {d:D} {u:Value} (h:v4 H d=true) (hd:aq S μ w d u):u.oneCell'=true:=by
 cases hd with
 | v x u h=>exact h.one
 | nils=>rfl
 | own id =>
  unfold v4 at h
  simp only at h
  split at h
  ·rename_i E sz α enc d l hb
   obtain⟨p,c,hu,_⟩:=cN (hH.box id _ hb)
   rw[hu]
   rfl
  ·rename_i E sz α enc d l hb
   obtain⟨p,c,hu,_⟩:=cN (hH.box id _ hb).ro_arr
   rw[hu]
   rfl
  ·rename_i t ag α enc d l hb
   obtain⟨b,arr,clock,hu,_⟩:=hH.box id _ hb
   rw[hu]
   rfl
  ·rename_i E sz m gs cell hb
   obtain⟨p,c,hu,_⟩:=gH (hH.box id _ hb)
   rw[hu]
   rfl
  ·cases h
 | ptr=>rfl
 | capd=>rfl
 | gr _ _ _ _ _ _ h=>exact h
 | iptr=>rfl
 | agg=>cases h
 | tup=>cases h
 | fn=>rfl
 | yld=>rfl
 | junk=>cases h
theorem EV {H:List aC} (hH:bz S μ w H) {cs:List D} {us:Array Value} (hr:aU S μ w cs us) (hall:cs.all (v4 H)=true):∀z∈us.toList,z.oneCell'=true:=by
 intro z hz
 obtain⟨j,hj,e⟩:=VT hz
 have Z4:j<us.size:=by simpa using hj
 have hc:j<cs.length:=by have:=hr.1;omega
 rw[UU]at hall
 exact Ir hH (hall _ (V0 hc)) (hr.2 j cs[j] z (Uq hc) (by rw[← e];simp[Z4]))
end
section
variable {C:ns} {S:Nat→Prop} {μ:Nat→Value} {st P':St} {a:Act} {w w':World} {p:Prop}
theorem gi (w:World) (g:Nat) (cs:Array Value):w.grownBy (w.setRow g cs) (some g) :=
 ⟨rfl,rfl,rfl,by simp[World.setRow],fun k _ hk=>setRow_other w g k _ (fun e=>hk (by rw[e]))⟩
theorem fV (μ:Nat→Value) (id:Nat):br μ id (μ id)=μ:=by
 funext i
 unfold br
 split
 ·rename_i h;rw[h]
 ·rfl
theorem iq {α:Type _} (cs new:List α) (J' j:Nat) (ho:J'+new.length≤cs.length) :
  (cs.take J'++new++cs.drop (J'+new.length))[j]?=if J'≤j∧j<J'+new.length then new[j-J']? else cs[j]?:=by
 by_cases hc:J'≤j∧j<J'+new.length
 ·rw[Uw hc,UD (by simp;omega),UE (by simp;omega)]
  congr 1
  simp
  omega
 ·rw[Ur hc]
  by_cases hj:j<J'
  ·rw[UD (by simp;omega),UD (by simp;omega),UP,Uw hj]
  ·rw[UE (by simp;omega),VB]
   simp only[UK,UG]
   rw[show J'+new.length+(j-(min J' cs.length+new.length))=j from by omega]
theorem rO (h:bk C S μ st a w) {ov:Ov} {t:TypeId} {ad x:D} {uad ux:Value} (had:aq S μ w ad uad) (hx:aq S μ w x ux) (hp:v6 C.P st ov t ad x=(P',p)) (D':p) :
  ∃w',(Instr.storeAt t uad ux).run C.P w=.ok () w'∧bk C S μ P' a w':=by
 unfold v6 at hp
 split at hp
 ·rename_i id i sz J' new W2
  split at hp
  ·rename_i hc
   simp only[Uo,UH]at hc
   obtain⟨⟨hk,hl⟩,YG⟩:=hc
   obtain⟨b,hb,rfl⟩:=oM had
   have Xb:=iZ h.heap hx W2
   have Z8:=EV h.heap Xb YG
   have WH:∀(W1:Array Value) (T:TypeId),w.heap[b]?=some (.cells W1 T (0,0))→i*sz+J'+new.length≤W1.size →
     (Instr.storeAt t (.pointer (some ⟨b,i*sz+J',none⟩)) ux).run C.P w=.ok () (w.setRow b (W1.toList.take (i*sz+J')++ux.cells.toList++W1.toList.drop (i*sz+J'+ux.cells.toList.length)).toArray):=by
    intro W1 T hcur WY
    have Xv:=run_storeCells_at C.P b (i*sz+J') T ux.cells.toList 0 W1 w hcur (by simp[Xb.1];exact WY) Z8
    simp only[VM]at Xv
    simp only[Instr.storeAt,Instr.sureAddr,Uv,UL,Uu]
    unfold storeVar
    simp only[Uv,eC hk,Uu]
    rw[Ur (by rw[Xb.1,hl];simp)]
    exact Xv
   split at hp
   ·rename_i T cs I'
    split at hp
    ·rename_i hc
     simp only[Uo,UH,Vv]at hc
     obtain⟨rfl,WY⟩:=hc
     simp only[Ux]at hp
     obtain⟨rfl,_⟩:=hp
     obtain⟨b',vs,hm,q1,q2,q3⟩:=h.heap.box id _ I'
     have hbb:b'=b:=by rw[hm]at hb;simpa[cx,aO]using hb
     subst hbb
     refine⟨_,WH vs T q1 (by omega),?_⟩
     simp only[Nat.zero_mul,U5]
     have WG:id<st.heap.length:=(Up.1 I').1
     have hu:=h.upd (id:=id) (u:=μ id) (B:=.var T (gf cs new J')) (row:=some b') (gi w b' (vs.toList.take J'++ux.cells.toList++vs.toList.drop (J'+ux.cells.toList.length)).toArray)
      (fun k hk=>⟨_,I',rfl,by cases hk;exact .inl hb⟩) (by omega) ?_ (fun k hk=>.inl (hk.one hb)) (.inl ⟨rfl,.inl rfl⟩)
     ·rw[fV]at hu
      have he:cA st.heap id (.var T (gf cs new J'))=st.heap.set id (.var T (gf cs new J')):=by
       unfold cA
       rw[Ur (by rw[UH];omega)]
      rwa [he]at hu
     ·rw[fV]
      refine⟨b',_,hm,setRow_heap w b' vs _ T (0,0) q1,?_,fun j y z hy hz=>?_⟩
      ·have:=Xb.1
       simp only[Wh,UK,UG,UW,VU,gf]
       omega
      ·have WE:=Xb.1
       simp only[List.getElem?_toArray]at hz
       rw[iq _ _ _ _ (by simp;omega)]at hz
       unfold gf at hy
       rw[iq _ _ _ _ WY]at hy
       have hS:∀k,S k→k<w.heap.size→(w.setRow b' (vs.toList.take J'++ux.cells.toList++vs.toList.drop (J'+ux.cells.toList.length)).toArray).heap[k]?=w.heap[k]?:=fun k hk _ =>
        setRow_other w b' k _ (fun e=>h.heap.notS id _ b' I' rfl (.inl hb) (e ▸ hk))
       have hss:w.heap.size≤(w.setRow b' (vs.toList.take J'++ux.cells.toList++vs.toList.drop (J'+ux.cells.toList.length)).toArray).heap.size:=by simp[World.setRow]
       by_cases hcj:J'≤j∧j<J'+new.length
       ·rw[Uw hcj]at hy
        rw[Uw (by simp;omega)]at hz
        exact(Xb.2 _ _ _ hy (by simpa using hz)).stable (fun _ h _=>h) hS hss (fun _ _=>rfl)
       ·rw[Ur hcj]at hy
        rw[Ur (by simp;omega)]at hz
        exact(q3 _ _ _ hy (by simpa using hz)).stable (fun _ h _=>h) hS hss (fun _ _=>rfl)
    ·cases hp;exact D'.elim
   ·rename_i E W9 α enc d l I'
    split at hp
    ·rename_i nv hnv
     split at hp
     ·rename_i hc
      simp only[Uo,UH,Vv]at hc
      obtain⟨rfl,WY⟩:=hc
      generalize hq:qg E sz ((l.map enc).set i ((enc (l.getD i d)).take J'++nv++(enc (l.getD i d)).drop (J'+nv.length))) ov=q at hp
      obtain⟨B,q⟩:=q
      simp only[Ux]at hp
      obtain⟨rfl,rfl⟩:=hp
      obtain⟨hi,hq'⟩:=D'
      obtain⟨r0,xs,r1,r2⟩:=h.heap.box id _ I'
      have hnvl:=(nC hnv).1
      have hx0:l[i]?=some (l.getD i d):=by rw[bJ _ _ hi];exact Uq hi
      have hel:=r0 i _ hx0
      have hmul:(i+1)*sz≤l.length*sz:=UO _ hi
      rw[Vw]at hmul
      obtain⟨g,cap,W1,hm,-,hh,hn,Xg,hcs,ZA⟩:∃g cap W1,μ id=.slice (some ⟨g,0,none⟩) l.length cap∧0≤g∧w.heap[g]?=some (.cells W1 E (0,0))∧l.length≤cap∧cap≤maxLen∧W1.size=cap*sz∧W1.toList.take (l.length*sz)=xs:=by
       rcases r1.2 with ⟨_,h0⟩ | h1
       ·omega
       ·exact h1
      have hgb:g=b:=by rw[hm]at hb;simpa[cx,aO]using hb
      subst hgb
      have ZO:l.length*sz≤cap*sz:=UO _ hn
      refine⟨_,WH W1 E hh (by omega),?_⟩
      have WG:id<st.heap.length:=(Up.1 I').1
      have WE:=Xb.1
      have hfit':i*sz+J'+new.length≤W1.size:=by omega
      generalize W0:(W1.toList.take (i*sz+J')++ux.cells.toList++W1.toList.drop (i*sz+J'+ux.cells.toList.length))=row
      have Yb:∀j,row[j]?=if i*sz+J'≤j∧j<i*sz+J'+new.length then ux.cells[j-(i*sz+J')]? else W1[j]?:=by
       intro j
       rw[← W0,iq _ _ _ _ (by simp;omega)]
       simp[WE]
      have Yc:row.length=W1.size:=by
       rw[← W0]
       simp only[UK,UG,UW,VU]
       omega
      have hS:∀k,S k→k<w.heap.size→(w.setRow g row.toArray).heap[k]?=w.heap[k]?:=fun k hk _ =>
       setRow_other w g k _ (fun e=>h.heap.notS id _ g I' rfl (.inl hb) (e ▸ hk))
      have hss:w.heap.size≤(w.setRow g row.toArray).heap.size:=by simp[World.setRow]
      have hA:gR S (w.setRow g row.toArray) E sz ((l.map enc).set i ((enc (l.getD i d)).take J'++nv++(enc (l.getD i d)).drop (J'+nv.length))) (μ id):=by
       refine⟨fun k x hx=>?_,row.take (l.length*sz),?_,fun k x j y hx hy=>?_⟩
       ·by_cases XM:i=k
        ·subst XM
         rw[UI (by simpa using hi)]at hx
         cases hx
         simp only[UK,UG,UW]
         omega
        ·rw[UF XM]at hx
         obtain⟨z,hz,rfl⟩:=eS hx
         exact r0 k z hz
       ·simp only[UQ,UB]
        refine⟨by rw[UG,Yc];omega,.inr ⟨g,cap,row.toArray,hm,Vs _,setRow_heap w g W1 _ E (0,0) hh,hn,Xg,by simp[Yc,hcs],by simp⟩⟩
       ·have Yd:k<l.length:=by
         have:=(Up.1 hx).1
         simpa using this
        have Zd:(k+1)*sz≤l.length*sz:=UO _ Yd
        rw[Vw]at Zd
        have old:∀(z:α) (j:Nat) (y:V),l[k]?=some z→(enc z)[j]?=some y→¬(i*sz+J'≤k*sz+j∧k*sz+j<i*sz+J'+new.length) →
          ∃u,(row.take (l.length*sz))[k*sz+j]?=some u∧eh S (w.setRow g row.toArray) y u:=by
         intro z j y hz hy Xu
         obtain⟨u,hu,hr⟩:=r2 k z j y hz hy
         have hj:=(Up.1 hy).1
         have XQ:=r0 k z hz
         refine⟨u,?_,hr.stable (fun _ h _=>h) hS hss⟩
         rw[UP,Uw (by omega),Yb,Ur Xu]
         rw[← ZA,UP,Uw (by omega)]at hu
         simpa using hu
        by_cases XM:i=k
        ·subst XM
         rw[UI (by simpa using hi)]at hx
         cases hx
         rw[iq _ _ _ _ (by omega)]at hy
         by_cases hcj:J'≤j∧j<J'+nv.length
         ·rw[Uw hcj]at hy
          obtain⟨d',hd',htv⟩:=(nC hnv).2 _ _ hy
          have hju:j-J'<ux.cells.size:=by omega
          refine⟨ux.cells[j-J'],?_,?_⟩
          ·rw[UP,Uw (by omega),Yb,Uw (by omega),show i*sz+j-(i*sz+J')=j-J' from by omega]
           exact UM hju
          ·exact(vq htv (Xb.2 _ _ _ hd' (UM hju))).stable (fun _ h _=>h) hS hss
         ·rw[Ur hcj]at hy
          exact old _ j y hx0 hy (by omega)
        ·rw[UF XM]at hx
         obtain⟨z,hz,rfl⟩:=eS hx
         have hj:=(Up.1 hy).1
         have XQ:=r0 k z hz
         refine old z j y hz hy ?_
         rintro⟨c1,c2⟩
         rcases Nat.lt_or_ge k i with WL | hge
         ·have:(k+1)*sz≤i*sz:=UO _ WL
          rw[Vw]at this
          omega
         ·have:(i+1)*sz≤k*sz:=UO _ (by omega)
          rw[Vw]at this
          omega
      obtain⟨hB,Z2⟩:=oS (μ:=μ) hq hq' hA
      have hu:=h.upd (id:=id) (u:=μ id) (B:=B) (row:=some g) (gi w g row.toArray)
       (fun k hk=>⟨_,I',rfl,by cases hk;exact .inl hb⟩) (by omega) (by rw[fV];exact hB) (fun k hk=>.inl (hk.one hb)) (.inl ⟨rfl,.inr ⟨_,I',rfl⟩⟩) (nq Z2)
      rw[fV]at hu
      have he:cA st.heap id B=st.heap.set id B:=by
       unfold cA
       rw[Ur (by rw[UH];omega)]
      rwa [he]at hu
     ·cases hp;exact D'.elim
    ·cases hp;exact D'.elim
   ·rename_i E W9 n gs cell I'
    split at hp
    ·rename_i YB U'
     split at hp
     ·rename_i hc
      simp only[Uo,UH,Vv]at hc
      obtain⟨rfl,WY⟩:=hc
      simp only[Ux]at hp
      obtain⟨rfl,rfl⟩:=hp
      obtain⟨hi,Xv⟩:=D'
      obtain⟨r0,xs,r1,r2⟩:=h.heap.box id _ I'
      have hmul:(i+1)*sz≤n*sz:=UO _ hi
      rw[Vw]at hmul
      obtain⟨g,cap,W1,hm,-,hh,hn,Xg,hcs,ZA⟩:∃g cap W1,μ id=.slice (some ⟨g,0,none⟩) n cap∧0≤g∧w.heap[g]?=some (.cells W1 E (0,0))∧n≤cap∧cap≤maxLen∧W1.size=cap*sz∧W1.toList.take (n*sz)=xs:=by
       rcases r1.2 with ⟨_,h0⟩ | h1
       ·omega
       ·exact h1
      have hgb:g=b:=by rw[hm]at hb;simpa[cx,aO]using hb
      subst hgb
      have ZO:n*sz≤cap*sz:=UO _ hn
      refine⟨_,WH W1 E hh (by omega),?_⟩
      have WG:id<st.heap.length:=(Up.1 I').1
      have WE:=Xb.1
      have hfit':i*sz+J'+new.length≤W1.size:=by omega
      generalize W0:(W1.toList.take (i*sz+J')++ux.cells.toList++W1.toList.drop (i*sz+J'+ux.cells.toList.length))=row
      have Yb:∀j,row[j]?=if i*sz+J'≤j∧j<i*sz+J'+new.length then ux.cells[j-(i*sz+J')]? else W1[j]?:=by
       intro j
       rw[← W0,iq _ _ _ _ (by simp;omega)]
       simp[WE]
      have Yc:row.length=W1.size:=by
       rw[← W0]
       simp only[UK,UG,UW,VU]
       omega
      have hS:∀k,S k→k<w.heap.size→(w.setRow g row.toArray).heap[k]?=w.heap[k]?:=fun k hk _ =>
       setRow_other w g k _ (fun e=>h.heap.notS id _ g I' rfl (.inl hb) (e ▸ hk))
      have hss:w.heap.size≤(w.setRow g row.toArray).heap.size:=by simp[World.setRow]
      have hB:aN S μ (w.setRow g row.toArray) (μ id) (.arrD E sz n YB U'):=by
       refine⟨fun i' j k Xz hj hk=>(Xv i' j Xz hj).2 k hk,row.take (n*sz),⟨by rw[UG,Yc];omega,.inr ⟨g,cap,row.toArray,hm,Vs _,setRow_heap w g W1 _ E (0,0) hh,hn,Xg,by simp[Yc,hcs],by simp⟩⟩,fun i' j Xz hj=>?_⟩
       have Zd:(i'+1)*sz≤n*sz:=UO _ Xz
       rw[Vw]at Zd
       rw[(Xv i' j Xz hj).1]
       by_cases hcj:i'=i∧J'≤j∧j<J'+new.length
       ·rw[Uw hcj]
        obtain⟨rfl,c1,c2⟩:=hcj
        have hju:j-J'<ux.cells.size:=by omega
        refine⟨ux.cells[j-J'],?_,Z8 _ (by simp),?_⟩
        ·rw[UP,Uw (by omega),Yb,Uw (by omega),show i'*sz+j-(i'*sz+J')=j-J' from by omega]
         exact UM hju
        ·have hn':new[j-J']?=some (new.getD (j-J') .junk):=by rw[bJ _ _ (by omega)];exact Uq (by omega)
         exact(Xb.2 _ _ _ hn' (UM hju)).stable (fun _ h _=>h) hS hss (fun _ _=>rfl)
       ·rw[Ur hcj]
        obtain⟨z,hz,ho,hr⟩:=r2 i' j Xz hj
        refine⟨z,?_,ho,hr.stable (fun _ h _=>h) hS hss (fun _ _=>rfl)⟩
        rw[UP,Uw (by omega),Yb,Ur]
        ·rw[← ZA,UP,Uw (by omega)]at hz
         simpa using hz
        ·rintro⟨c1,c2⟩
         rcases Nat.lt_trichotomy i' i with WL | heq | hgt
         ·have:(i'+1)*sz≤i*sz:=UO _ WL
          rw[Vw]at this
          omega
         ·subst heq
          exact hcj ⟨rfl,by omega,by omega⟩
         ·have:(i+1)*sz≤i'*sz:=UO _ hgt
          rw[Vw]at this
          omega
      have hu:=h.upd (id:=id) (u:=μ id) (B:=.arrD E sz n YB U') (row:=some g) (gi w g row.toArray)
       (fun k hk=>⟨_,I',rfl,by cases hk;exact .inl hb⟩) (by omega) (by rw[fV];exact hB) (fun k hk=>.inl (hk.one hb)) (.inl ⟨rfl,.inl rfl⟩)
      rw[fV]at hu
      have he:cA st.heap id (.arrD E sz n YB U')=st.heap.set id (.arrD E sz n YB U'):=by
       unfold cA
       rw[Ur (by rw[UH];omega)]
      rwa [he]at hu
     ·cases hp;exact D'.elim
    ·cases hp;exact D'.elim
   ·cases hp;exact D'.elim
  ·cases hp;exact D'.elim
 ·cases hp;exact D'.elim
end
section
variable {C:ns} {S:Nat→Prop} {μ:Nat→Value} {st P':St} {a:Act} {w w':World} {p:Prop}
theorem j9 {P:Program} {E:TypeId} {z:List D} (hz:ju P E=some z):∃(i:TypeInfo) (v:Value),P.info? E=some i∧i.zero=some v∧z=v.cells.toList.map D.ofVal1∧i.size=aH P E∧i.bytes=jv P E:=by
 unfold ju at hz
 cases hi:P.info? E with
 | none=>simp[hi]at hz
 | some i =>
  cases hv:i.zero with
  | none=>simp[hi,hv]at hz
  | some v =>
   simp only[hi,hv,VZ,U4,UA]at hz
   exact⟨i,v,rfl,hv,hz.symm,by simp[aH,hi],by simp[jv,hi]⟩
theorem xT {k sz:Nat} (h:0<sz):k=(k / sz)*sz+k%sz:=by
 have:=Nat.div_add_mod k sz
 rw[Nat.mul_comm]at this
 omega
theorem Bd {α:Type _} (z:List α) (sz:Nat) (hz:z.length=sz) (hs:0<sz):∀(n k:Nat),(List.replicate n z).flatten[k]?=if k<n*sz then z[k%sz]? else none
 | 0,k=>by simp
 | n+1,k=>by
  rw[List.replicate_succ,List.flatten_cons,Vw]
  by_cases hk:k<sz
  ·rw[UD (by omega),Uw (by omega),Nat.mod_eq_of_lt hk]
  ·rw[UE (by omega),Bd z sz hz hs n (k-z.length),hz]
   by_cases Ys:k<n*sz+sz
   ·rw[Uw (by omega),Uw Ys]
    congr 1
    rw[← Nat.mod_eq_sub_mod (by omega)]
   ·rw[Ur (by omega),Ur Ys]
theorem tu {P:Program} {z:List D} {zv:Array Value} (hz:aU S μ w z zv) {sz:Nat} (XQ:z.length=sz) (hs:0<sz) (n:Nat):aU S μ w (List.replicate n z).flatten ((Array.range (n*sz)).map (zv[·%zv.size]!)):=by
 have hl:(List.replicate n z).flatten.length=n*sz:=by simp[XQ]
 refine⟨by simp[hl],fun j y u hy hu=>?_⟩
 have hj:j<n*sz:=by rw[← hl];exact(Up.1 hy).1
 rw[Bd z sz XQ hs,Uw hj]at hy
 have hm:j%sz<zv.size:=by rw[hz.1,XQ];exact Nat.mod_lt _ hs
 simp only[VA,Array.getElem?_range,hj,V5,U4,UA]at hu
 refine hz.2 (j%sz) y u hy ?_
 rw[← hu,hz.1,XQ]
 simp[hm]
theorem kV (sz n:Nat) (cells:List D) {i:Nat} {x:List D} (h:(qh sz n cells)[i]?=some x):i<n∧x=(cells.drop (i*sz)).take sz:=by
 unfold qh at h
 obtain⟨k,hk,rfl⟩:=eS h
 have hi:=(Up.1 hk)
 obtain⟨h1,h2⟩:=hi
 simp at h1 h2
 subst h2
 exact⟨h1,rfl⟩
theorem vt {E sz n:Nat} {cells:List D} {vs:Array Value} (hr:aU S μ w cells vs) (hl:cells.length=n*sz) (hn:n≤maxLen) {L:List (List V)} (hLl:L.length=n)
  (hL:∀(i:Nat) (x:List V),L[i]?=some x→x.length=sz∧∀(j:Nat) (y:V),x[j]?=some y→∃d,cells[i*sz+j]?=some d∧∀u,aq S μ w d u→eh S w y u)
  (hS:∀b,S b→b<w.heap.size):gR S (w.alloc (.cells vs E)) E sz L (.slice (some ⟨w.heap.size,0,none⟩) n n):=by
 subst hLl
 refine⟨fun i x hx=>(hL i x hx).1,vs.toList,World.ownsRow_lit w vs L.length (Vs _) hn (by rw[hr.1,hl]),fun i x j y hx hy=>?_⟩
 obtain⟨d,hd,YW⟩:=(hL i x hx).2 j y hy
 have WL:i*sz+j<vs.size:=by rw[hr.1];exact(Up.1 hd).1
 refine⟨vs[i*sz+j],by simp[WL],?_⟩
 exact(YW _ (hr.2 _ _ _ hd (UM WL))).stable (fun _ h _=>h) (fun b hb hl=>VD w _ b hl) (by simp)
theorem jw {P:Program} {t E:TypeId} {len:Nat} {Wz:List (Nat×Value)} {i:TypeInfo} {v:Value} (hu:P.underlying t=some (.slice E)) (hi:P.info? E=some i) (hv:i.zero=some v) (Xg:len*i.size≤4096)
  {cells:Array Value} (hf:Instr.fill (fun k=>some (k*i.size,i.size)) ((Array.range (len*i.size)).map (v.cells[·%v.cells.size]!)) Wz=some cells) :
  (Instr.buildSlice t len Wz.toArray).run P w=.ok (.slice (some ⟨w.heap.size,0,none⟩) len len) (w.alloc (.cells cells E)):=by
 by_cases hn:len*i.size=0
 ·have e0:(Array.range (len*i.size)).map (v.cells[·%v.cells.size]!)=#[]:=by rw[hn];simp[Array.range_zero']
  rw[e0]at hf
  have e1:∀f:Nat→Value,(Array.range 0).map f=#[]:=fun f=>by simp[Array.range_zero']
  unfold Instr.buildSlice
  simp only[Uv,UZ hu,Uu,sizeOf,typeInfo,program]
  simp only[Sem.run,hi,UL,Uu]
  rw[Ur (by omega),Uw hn]
  simp only[UL,Uu,hn,e1,hf]
  simp[newRow,newObj,Sem.run]
 ·unfold Instr.buildSlice
  simp only[Uv,UZ hu,Uu,sizeOf,typeInfo,program]
  simp only[Sem.run,hi,UL,Uu]
  rw[Ur (by omega),Ur hn]
  have hz:(zeroValue E).run P w=.ok v w:=by simp[zeroValue,typeInfo,hi,hv,Uv]
  simp only[Uv,hz,UL,Uu,hf]
  simp[newRow,newObj,Sem.run]
end
section
variable {C:ns} {S:Nat→Prop} {μ:Nat→Value} {st P':St} {a:Act} {w w':World} {p:Prop}
theorem aA {X:Prop} (hp:a8 st=(P',p)) (D':p):X:=by
 simp only[a8,Ux]at hp
 rw[← hp.2]at D'
 exact D'.elim
theorem lQ {sz n:Nat} {cells:List D} {i j:Nat} {x:List D} {d:D} (h:(qh sz n cells)[i]?=some x) (hd:x[j]?=some d):cells[i*sz+j]?=some d:=by
 obtain⟨_,rfl⟩:=kV sz n cells h
 rw[UP]at hd
 split at hd
 ·rw[VB]at hd;exact hd
 ·cases hd
theorem zz (h:bk C S μ st a w) {ov:Ov} {dst:Option Nat} {t:TypeId} {len:Nat} {M':List (Nat×D)} {Wz:List (Nat×Value)} (h1:M'.map (·.1)=Wz.map (·.1))
  (h2:∀(j:Nat) (x:Nat×D) (u:Nat×Value),M'[j]?=some x→Wz[j]?=some u→aq S μ w x.2 u.2) (hp:ts C.P C.nt st ov dst t len M'=(P',p)) (D':p) :
  ∃u w' μ',(Instr.buildSlice t len Wz.toArray).run C.P w=.ok u w'∧bk C S μ' P' (a.put dst u) w':=by
 unfold ts at hp
 split at hp
 ·rename_i E hu
  split at hp
  ·rename_i z hz
   split at hp
   ·rename_i hc
    simp only[Uo,UH,Vv]at hc
    obtain⟨⟨⟨hk,XQ⟩,WN⟩,Xg⟩:=hc
    obtain⟨i,v,hi,hv,Ze,WE,hby⟩:=j9 hz
    split at hp
    ·rename_i cells hf
     have hzr:aU S μ w z v.cells:=by
      obtain⟨v',hv',hr⟩:=io (P:=C.P) (S:=S) (μ:=μ) (w:=w) hz
      have:v'=v:=by
       have:(zeroValue E).run C.P w=.ok v w:=by simp[zeroValue,typeInfo,hi,hv,Uv]
       rw[this]at hv'
       cases hv'
       rfl
      rwa [this]at hr
     have Zf:=tu (P:=C.P) hzr XQ (by omega) len
     obtain⟨vs,Yo,Yn⟩:=fS h.heap M' Wz _ cells _ h1 h2 Zf hf
     rw[← WE]at Yo
     have WH:=jw (P:=C.P) (w:=w) hu hi hv (by rw[WE];exact Xg) Yo
     have hcl:cells.length=len*aH C.P E:=by
      have:∀(M':List (Nat×D)) (c0 Yz:List D),im st.heap (fun i=>some (i*aH C.P E,aH C.P E)) c0 M'=some Yz→Yz.length=c0.length:=by
       intro M'
       induction M' with
       | nil=>intro c0 Yz h;simp only[im,UA]at h;rw[h]
       | cons q r ih =>
        intro c0 Yz h
        obtain⟨k,x⟩:=q
        unfold im at h
        split at h
        ·split at h
         ·rename_i WV
          simp only[Uo,Vv]at WV
          rw[ih _ _ h]
          simp[gf]
          omega
         ·cases h
        ·cases h
      rw[this _ _ _ hf]
      simp[XQ]
     have WA:len≤maxLen:=by
      have:len*1≤len*aH C.P E:=V9 _ WN
      simp only[maxLen]
      omega
     have fin:∀(L:List (List V)) (B:aC) (q:Prop),newBox st C.nt dst B (.own st.heap.length) q=(P',p)→(q→gR S (w.alloc (.cells vs E)) E (aH C.P E) L (.slice (some ⟨w.heap.size,0,none⟩) len len)∧(gR S (w.alloc (.cells vs E)) E (aH C.P E) L (.slice (some ⟨w.heap.size,0,none⟩) len len)→aN S (br μ st.heap.length (.slice (some ⟨w.heap.size,0,none⟩) len len)) (w.alloc (.cells vs E)) (.slice (some ⟨w.heap.size,0,none⟩) len len) B))→B.isRo=false →
       ∃u w' μ',(Instr.buildSlice t len Wz.toArray).run C.P w=.ok u w'∧bk C S μ' P' (a.put dst u) w':=by
      intro L B q hp hB X3
      have hq:q:=by
       unfold newBox at hp
       split at hp
       ·split at hp
        ·simp only[Ux]at hp;rw[← hp.2]at D';exact D'
        ·exact aA hp D'
       ·exact aA hp D'
      obtain⟨b1,b2⟩:=hB hq
      refine⟨_,_,_,WH,(h.newBox hp D' (VE w _ none) (b2 b1) (fun b hb=>by simp[cx,aO]at hb;omega) ?_ X3).2⟩
      have:=aq.own (S:=S) (μ:=br μ st.heap.length (.slice (some ⟨w.heap.size,0,none⟩) len len)) (w:=w.alloc (.cells vs E)) st.heap.length
      rwa [aG]at this
     split at hp
     ·rename_i E' W9 α WF d' l'
      split at hp
      ·rename_i hc
       simp only[Uo,UH]at hc
       obtain⟨rfl,rfl⟩:=hc
       refine fin (l'.map WF) _ _ hp (fun hq=>⟨?_,fun hA=>hA.box rfl⟩) rfl
       obtain⟨q1,q2⟩:=lP hq
       refine vt Yn hcl WA (by rw[← q1];simp[qh]) (fun i x hx=>?_) h.slt
       obtain⟨r,hr,W0⟩:=q2 i x hx
       obtain⟨r1,r2⟩:=fU W0
       obtain⟨hin,rfl⟩:=kV _ _ _ hr
       refine⟨?_,fun j y hy=>?_⟩
       ·rw[← r1,UG,UW,hcl]
        have:(i+1)*aH C.P E≤len*aH C.P E:=UO _ hin
        rw[Vw]at this
        omega
       ·obtain⟨d,hd,hdy⟩:=r2 j y hy
        exact⟨d,lQ hr hd,fun u hu=>nG hdy hu⟩
      ·exact aA hp D'
     ·rename_i gs cell
      split at hp
      ·rename_i hc2
       simp only[Uo]at hc2
       obtain⟨hgs,YG⟩:=hc2
       have hq:∀i j,i<len→j<aH C.P E→cell i j=cells.getD (i*aH C.P E+j) .junk∧∀k,gs.all (fun g=>!(Nat.beq g k))=true→(cell i j).free k=true:=by
        have XS:=hp
        unfold newBox at XS
        split at XS
        ·split at XS
         ·simp only[Ux]at XS;rw[← XS.2]at D';exact D'
         ·exact aA XS D'
        ·exact aA XS D'
       have W2:gs.all (fun g=>!(Nat.beq g st.heap.length))=true:=by
        rw[UU]at hgs ⊢
        intro g hg
        have:=hgs g hg
        rw[Ws]at this
        exact zn (by omega)
       have hvl:vs.size=len*aH C.P E:=by rw[Yn.1,hcl]
       have Zb:∀b,S b→b<w.heap.size→(w.alloc (.cells vs E)).heap[b]?=w.heap[b]?:=fun b _ hl=>(VE w (.cells vs E) none).block b hl (by simp)
       refine⟨_,_,_,WH,(h.newBox hp D' (VE w _ none) (u:=.slice (some ⟨w.heap.size,0,none⟩) len len) ⟨fun i j k hi hj hk=>(hq i j hi hj).2 k hk,vs.toList,⟨by simp[hvl],.inr ⟨w.heap.size,len,vs,rfl,Vs _,Vx w _,Ut _,WA,hvl,by rw[VV (by simp[hvl])]⟩⟩,fun i j hi hj=>?_⟩ (fun b hb=>by simp[cx,aO]at hb;omega) ?_ rfl).2⟩
       ·have Zd:(i+1)*aH C.P E≤len*aH C.P E:=UO _ hi
        rw[Vw]at Zd
        have WL:i*aH C.P E+j<vs.size:=by omega
        have hlt2:i*aH C.P E+j<cells.length:=by omega
        have hz1:vs[i*aH C.P E+j]?=some vs[i*aH C.P E+j]:=UM WL
        refine⟨vs[i*aH C.P E+j],by simp[WL],EV h.heap Yn YG _ (by simp),?_⟩
        have hcg:cells[i*aH C.P E+j]?=some (cells.getD (i*aH C.P E+j) .junk):=by rw[bJ _ _ hlt2];exact Uq hlt2
        have hd:=Yn.2 _ _ _ hcg hz1
        rw[← (hq i j hi hj).1]at hd
        exact hd.stable (fun _ h _=>h) Zb (VE w (.cells vs E) none).size (fun id WG=>aP _ _ (fun e=>by rw[e,(hq i j hi hj).2 _ W2]at WG;cases WG))
       ·have:=aq.own (S:=S) (μ:=br μ st.heap.length (.slice (some ⟨w.heap.size,0,none⟩) len len)) (w:=w.alloc (.cells vs E)) st.heap.length
        rwa [aG]at this
      ·exact aA hp D'
     ·split at hp
      ·rename_i L hL
       refine fin L _ _ hp (fun _=>⟨?_,fun hA=>hA.box (xS L).symm⟩) rfl
       obtain⟨q1,q2⟩:=wb hL
       refine vt Yn hcl WA (by rw[← q1];simp[qh]) (fun i x hx=>?_) h.slt
       obtain⟨r,hr,W0⟩:=q2 i x hx
       obtain⟨r1,r2⟩:=nC W0
       obtain⟨hin,rfl⟩:=kV _ _ _ hr
       refine⟨?_,fun j y hy=>?_⟩
       ·rw[← r1,UG,UW,hcl]
        have:(i+1)*aH C.P E≤len*aH C.P E:=UO _ hin
        rw[Vw]at this
        omega
       ·obtain⟨d,hd,hdy⟩:=r2 j y hy
        exact⟨d,lQ hr hd,fun u hu=>vq hdy hu⟩
      ·exact aA hp D'
    ·exact aA hp D'
   ·exact aA hp D'
  ·exact aA hp D'
 ·exact aA hp D'
theorem _root_.Nat.mul_add_mod_of_lt' {k sz j:Nat} (h:j<sz):(k*sz+j)%sz=j:=by
 rw[Nat.mul_comm,Nat.mul_add_mod,Nat.mod_eq_of_lt h]
theorem aN.arr_mk {E sz:Nat} {u:Value} {α:Type} {enc:α→List V} {d:α} {l:List α} (h:gR S w E sz (l.map enc) u):aN S μ w u (.arr E sz enc d l):=h.box rfl
theorem Be (h:bk C S μ st a w) {ov:Ov} {dst:Option Nat} {t:TypeId} {l c:D} {ul uc:Value} (hl:aq S μ w l ul) (hc:aq S μ w c uc) (hp:xR C.P C.nt st ov dst t l c=(P',p)) (D':p) :
  ∃u w' μ',(Instr.makeSlice t ul uc).run C.P w=.ok u w'∧bk C S μ' P' (a.put dst u) w':=by
 unfold xR at hp
 split at hp
 ·rename_i E kl n kc m hu
  split at hp
  ·rename_i z hz
   split at hp
   ·rename_i WV
    simp only[Uo,UH,Vv]at WV
    obtain⟨⟨⟨hk,XQ⟩,WN⟩,hby1⟩:=WV
    obtain⟨i,v,hi,hv,Ze,WE,hby⟩:=j9 hz
    rw[b6 hl,b6 hc]
    split at hp
    ·rename_i E' W9 α WF d' l'
     split at hp
     ·rename_i ZY
      simp only[Uo,UH]at ZY
      obtain⟨rfl,rfl⟩:=ZY
      have hq:(0≤n∧n≤m∧m≤137438953472)∧l'.length=n.toNat∧∀x∈l',dt z (WF x):=by
       have XS:=hp
       unfold newBox at XS
       split at XS
       ·split at XS
        ·simp only[Ux]at XS;rw[← XS.2]at D';exact D'
        ·exact aA XS D'
       ·exact aA XS D'
      obtain⟨⟨h0,XX,hm⟩,WA,X9⟩:=hq
      have hbm:(i.bytes:Int)*m≤281474976710656:=by
       have h9:(i.bytes:Int)≤1024:=by omega
       have:(i.bytes:Int)*m≤1024*m:=Int.mul_le_mul_of_nonneg_right h9 (by omega)
       omega
      have WH:=run_make (P:=C.P) w t E i v hu hi hv kl kc n m h0 XX hbm (by omega)
      refine⟨_,_,_,WH,(h.newBox (u:=.slice (some ⟨w.heap.size,0,none⟩) n.toNat m.toNat) hp D' (VE w _ none) (aN.arr_mk ?_) (fun b hb=>by simp[cx,aO]at hb;omega) ?_).2⟩
      ·have hzr:aU S μ w z v.cells:=by
        rw[Ze]
        refine⟨by simp,fun j y u hy hu=>?_⟩
        simp only[UJ,UY,hu,U4,UA]at hy
        subst hy
        exact aq.ofVal1 S μ w u
       have Yn:v.cells.size=aH C.P E:=by rw[hzr.1,XQ]
       refine⟨fun k x hx=>?_,(madeCells v.cells (m.toNat*i.size)).toList.take (n.toNat*aH C.P E),?_,fun k x j y hx hy=>?_⟩
       ·obtain⟨q,hq,rfl⟩:=eS hx
        rw[← (fU (X9 q (UV hq))).1,XQ]
       ·have hle:n.toNat*aH C.P E≤m.toNat*i.size:=by rw[WE];exact UO _ (by omega)
        refine⟨by simp[size_madeCells,WA];omega,.inr ⟨w.heap.size,m.toNat,madeCells v.cells (m.toNat*i.size),by simp[WA],Vs _,Vx w _,by simp[WA];omega,by simp only[maxLen];omega,by rw[size_madeCells,WE],by simp[WA]⟩⟩
       ·obtain⟨q,hq,rfl⟩:=eS hx
        have XL:k<n.toNat:=by rw[← WA];exact(Up.1 hq).1
        obtain⟨r1,r2⟩:=fU (X9 q (UV hq))
        obtain⟨d,hd,hdy⟩:=r2 j y hy
        have hj:j<aH C.P E:=by rw[← XQ];exact(Up.1 hd).1
        have hjv:j<v.cells.size:=by omega
        have Za:(k+1)*aH C.P E≤n.toNat*aH C.P E:=UO _ XL
        rw[Vw]at Za
        have hle:n.toNat*aH C.P E≤m.toNat*i.size:=by rw[WE];exact UO _ (by omega)
        refine⟨v.cells[j],?_,(nG hdy (hzr.2 j d _ hd (UM hjv))).stable (fun _ h _=>h) (fun b hb hl=>VD w _ b hl) (by simp)⟩
        rw[UP,Uw (by omega),UY]
        unfold madeCells
        rw[VA,Array.getElem?_range,Uw (by omega)]
        simp only[U4,UA]
        rw[Yn,Nat.mul_add_mod_of_lt' hj]
        simp[hjv]
      ·have:=aq.own (S:=S) (μ:=br μ st.heap.length (.slice (some ⟨w.heap.size,0,none⟩) n.toNat m.toNat)) (w:=w.alloc (.cells (madeCells v.cells (m.toNat*i.size)) E)) st.heap.length
       rwa [aG]at this
     ·exact aA hp D'
    ·exact aA hp D'
   ·exact aA hp D'
  ·exact aA hp D'
 ·exact aA hp D'
end
section
variable {P:Program} {S:Nat→Prop} {μ:Nat→Value} {w:World}
theorem eE (t ty e:TypeId) (i:TypeInfo) (z:Value) (ht:P.underlying t=some (.slice e)) (hi:P.info? e=some i) (hz:i.zero=some z) (hzs:z.cells.size=i.size)
  {v:Value} {n:Nat} {xs:List Value} (V':w.ownsRow 0 e i.size v n xs) {pa:Option Addr} {m c:Nat} {WQ:List Value} (hpa:pa=none→c=0∧m=0)
  (hl:WQ.length=m*i.size) (hnews:∀ad,pa=some ad→∀(j:Nat) (u:Value),WQ[j]?=some u→w.cell? (ad.add j)=some u) (h1:∀u∈WQ,u.oneCell'=true)
  (h63:n+m≤maxLen) (YJ:(n+m)*i.bytes≤140737488355328) :
  ∃v' w',(Builtin.append_ #[t,t] ty #[v,.slice pa m c]).run P w=.ok v' w'∧w'.ownsRow 0 e i.size v' (n+m) (xs++WQ)∧w.grownBy w' v.ownBlock∧(v'.ownBlock=v.ownBlock∨v'.ownBlock=some w.heap.size):=by
 cases pa with
 | none =>
  obtain⟨rfl,rfl⟩:=hpa rfl
  have hn:WQ=[]:=U0 (by simpa using hl)
  subst hn
  exact⟨v,w,run_append_owned_none (P:=P) w 0 t ty e i i.size ht hi v n xs V',by simpa using V',⟨rfl,rfl,rfl,Ut _,fun _ _ _=>rfl⟩,.inl rfl⟩
 | some ad =>
  have hnw:=hnews ad rfl
  have hsmall:n+m≤9223372036854775807:=by simp only[maxLen]at h63;omega
  have WA:(xs++WQ).length=(n+m)*i.size:=by rw[UK,V'.1,hl,Wy]
  have Zn:∀(old:Nat) (row:Option Nat),
    (w.drew.alloc (.cells (xs.toArray++WQ.toArray++Builtin.zeroCells z.cells (grownCap w (n+m) old e-(n+m))) e)).ownsRow 0 e i.size
     (.slice (some ⟨w.heap.size,0,none⟩) (n+m) (grownCap w (n+m) old e)) (n+m) (xs++WQ) ∧
    w.grownBy (w.drew.alloc (.cells (xs.toArray++WQ.toArray++Builtin.zeroCells z.cells (grownCap w (n+m) old e-(n+m))) e)) row:=by
   intro old row
   have hge:=grownCap_ge w (n+m) old e
   have ZO:grownCap w (n+m) old e≤maxLen:=grownCap_le_maxLen w (n+m) old e h63
   refine⟨⟨WA,.inr ⟨w.heap.size,_,_,rfl,Vs _,Vx w.drew _,hge,ZO,?_,?_⟩⟩,⟨rfl,rfl,rfl,by simp,fun k hk _=>VD w.drew _ k hk⟩⟩
   ·simp only[Array.size_append,Wh,size_zeroCells,hzs,V'.1,hl,← Wy]
    congr 1
    omega
   ·simp only[Array.toList_append,Vf]
    rw[← Vf,← WA]
    exact Wt
  rcases V'.2 with ⟨rfl,rfl⟩ | ⟨g,cap,W1,rfl,YC,hg,hnc,ZO,hcs,htake⟩
  ·have hx:xs=[]:=U0 (by simpa using V'.1)
   subst hx
   by_cases hm:m=0
   ·subst hm
    have hn:WQ=[]:=U0 (by simpa using hl)
    subst hn
    refine⟨.slice none 0 0,w,?_,VS w 0 e i.size,⟨rfl,rfl,rfl,Ut _,fun _ _ _=>rfl⟩,.inl rfl⟩
    simp[Builtin.append_,UZ ht,sizeOf,typeInfo,hi,Builtin.lenOf,Builtin.firstCells,loadCells,loadCellsFrom]
   ·have hr:=run_append_nil (P:=P) w t ty e i z ht hi hz ad m c WQ hl hnw (by omega) (by omega) (by have hb:=YJ;simp only[U5]at hb;omega)
    have Zj:=Zn 0 (Value.ownBlock (.slice none 0 0))
    simp only[U5,V6,Array.empty_append]at Zj ⊢
    exact⟨_,_,hr,Zj.1,Zj.2,.inr rfl⟩
  ·by_cases hroom:n+m≤cap
   ·have WY:n*i.size+WQ.length≤W1.size:=by rw[hl,hcs,← Wy];exact UO _ hroom
    have hr:=run_append_room (P:=P) w t ty e i ht hi g n cap W1 hg ad m c WQ hl hnw h1 hroom WY
    refine⟨_,_,hr,⟨WA,.inr ⟨g,cap,_,rfl,YC,setRow_heap w g W1 _ e _ hg,hroom,ZO,?_,?_⟩⟩,gi w g _,.inl rfl⟩
    ·simp only[Wh,UK,UG,UW,VU]
     omega
    ·rw[htake,← WA]
     exact Wt
   ·have holds:∀j u,xs[j]?=some u→w.cell? ((⟨g,0,none⟩:Addr).add j)=some u:=V'.cells (g:=g) rfl
    have hr:=run_append_grow (P:=P) w t ty e i z ht hi hz ⟨g,0,none⟩ n cap xs V'.1 holds ad m c WQ hl hnw (by omega) (by omega) (growslice_fits (by omega) YJ)
    have Zj:=Zn cap (Value.ownBlock (.slice (some ⟨g,0,none⟩) n cap))
    exact⟨_,_,hr,Zj.1,Zj.2,.inr rfl⟩
theorem nI {H:List aC} (hH:bz S μ w H) {sz:Nat} (hs:1≤sz) {x:D} {new:List (List V)} {ux:Value} (hn:Bc H sz x=some new) (hx:aq S μ w x ux) :
  ∃(pa:Option Addr) (c:Nat) (WQ:List Value),ux=.slice pa new.length c∧(pa=none→c=0∧new.length=0)∧WQ.length=new.length*sz ∧
   (∀ad,pa=some ad→∀(j:Nat) (u:Value),WQ[j]?=some u→w.cell? (ad.add j)=some u)∧(∀u∈WQ,u.oneCell'=true) ∧
   (∀(i:Nat) (x:List V),new[i]?=some x→x.length=sz)∧∀(i:Nat) (x:List V) (j:Nat) (y:V),new[i]?=some x→x[j]?=some y→∃z,WQ[i*sz+j]?=some z∧eh S w y z:=by
 have key:∀(WQ:List Value),WQ.length=new.length*sz→(∀(i:Nat) (x:List V),new[i]?=some x→x.length=sz) →
   (∀(i:Nat) (x:List V) (j:Nat) (y:V),new[i]?=some x→x[j]?=some y→∃z,WQ[i*sz+j]?=some z∧eh S w y z)→∀u∈WQ,u.oneCell'=true:=by
  intro WQ hl h0 h2 u hu
  obtain⟨k,hk,rfl⟩:=VT hu
  have hi:k / sz<new.length:=by
   rw[Nat.div_lt_iff_lt_mul (by omega)]
   omega
  have hj:k%sz<new[k / sz].length:=by
   rw[h0 _ _ (Uq hi)]
   exact Nat.mod_lt _ (by omega)
  obtain⟨z,hz,hr⟩:=h2 _ _ _ _ (Uq hi) (Uq hj)
  rw[← xT (by omega)]at hz
  rw[Uq hk]at hz
  cases hz
  exact hr.one
 unfold Bc at hn
 split at hn
 ·rename_i W9 α enc d l
  split at hn
  ·rename_i WE
   rw[UH]at WE
   subst WE
   cases hn
   obtain⟨p,c,rfl,h1,h2,h3,h4⟩:=ib (bL hx)
   by_cases h0:0<l.length
   ·obtain⟨b,J',us,rfl,q1,q2,q3,q4,q5⟩:=h4 h0
    have hz:∀(k:Nat),k<l.length*sz→∃(z:α) (y:V),l[k / sz]?=some z∧(enc z)[k%sz]?=some y:=by
     intro k hk
     have hi:k / sz<l.length:=by rw[Nat.div_lt_iff_lt_mul (by omega)];exact hk
     have XQ:=q3 _ _ (Uq hi)
     have hj:k%sz<(enc l[k / sz]).length:=by rw[XQ];exact Nat.mod_lt _ (by omega)
     exact⟨_,_,Uq hi,Uq hj⟩
    have r0:∀(i:Nat) (x:List V),(l.map enc)[i]?=some x→x.length=sz:=fun i x hx=>by obtain⟨z,hz,rfl⟩:=eS hx;exact q3 i z hz
    have r2:∀(i:Nat) (x:List V) (j:Nat) (y:V),(l.map enc)[i]?=some x→x[j]?=some y→∃z,((List.range (l.length*sz)).map fun k=>us (k / sz) (k%sz))[i*sz+j]?=some z∧eh S w y z:=by
     intro i x j y hx hy
     have hi:i<l.length:=by have:=(Up.1 hx).1;simpa using this
     have Yd:=r0 i x hx
     have hj:j<sz:=by rw[← Yd];exact(Up.1 hy).1
     obtain⟨z,hz,rfl⟩:=eS hx
     have hm:(i+1)*sz≤l.length*sz:=UO _ hi
     rw[Vw]at hm
     refine⟨us i j,?_,q5 i z j y hz hy⟩
     rw[UJ,List.getElem?_range (by omega)]
     simp only[U4,UA]
     rw[Nat.mul_add_mod_of_lt' hj,Nat.mul_comm i sz,Nat.mul_add_div (by omega),Nat.div_eq_of_lt hj,VM]
    refine⟨some ⟨b,J',none⟩,c,(List.range (l.length*sz)).map fun k=>us (k / sz) (k%sz),by simp,(fun h=>by cases h),by simp,?_,key _ (by simp) r0 r2,r0,r2⟩
    rintro ad hadd j u hu
    cases hadd
    obtain⟨k,hk,rfl⟩:=eS hu
    obtain⟨h5,h6⟩:=Up.1 hk
    simp at h5 h6
    subst h6
    obtain⟨z,y,hz1,hz2⟩:=hz j h5
    rw[dY,← q4 _ _ _ _ hz1 hz2,← xT (by omega)]
   ·have hl:l=[]:=U0 (by omega)
    subst hl
    exact⟨p,c,[],rfl,fun h=>⟨h3 h,rfl⟩,by simp,fun ad _ j u hu=>by simp at hu,fun u hu=>by simp at hu,fun i x hx=>by simp at hx,fun i x j y hx=>by simp at hx⟩
  ·cases hn
 ·rename_i id
  split at hn
  ·rename_i E W9 α enc d l I'
   split at hn
   ·rename_i WE
    rw[UH]at WE
    subst WE
    cases hn
    rw[cj hx]
    have hA:=gR.of (hH.box id _ I')
    obtain⟨p,c,hm,q1,q2,q3,q4⟩:=cN (hH.box id _ I')
    obtain⟨r0,xs,r1,r2⟩:=hA
    refine⟨p,c,xs,by rw[hm];simp,fun hp=>⟨q3 hp,by rw[UB];have:=q3 hp;omega⟩,r1.1,?_,key xs r1.1 r0 r2,r0,r2⟩
    rintro ad rfl j u hu
    by_cases h0:0<l.length
    ·obtain⟨g,hg⟩:=q4 h0
     cases hg
     rw[dY,U5]
     exact kS r1 (by rw[hm];rfl) j u hu
    ·have:xs.length=0:=by rw[r1.1,UB,show l.length=0 from by omega];simp
     have hxs:xs=[]:=U0 this
     subst hxs
     simp at hu
   ·cases hn
  ·cases hn
 ·cases hn
  cases hx
  exact⟨none,0,[],rfl,fun _=>⟨rfl,rfl⟩,by simp,fun ad h=>(by cases h),fun u hu=>by simp at hu,fun i x hx=>by simp at hx,fun i x j y hx=>by simp at hx⟩
 ·cases hn
  have hx:=bL hx
  cases hx
  exact⟨none,0,[],rfl,fun _=>⟨rfl,rfl⟩,by simp,fun ad h=>(by cases h),fun u hu=>by simp at hu,fun i x hx=>by simp at hx,fun i x j y hx=>by simp at hx⟩
 ·cases hn
  have hx:=bL hx
  cases hx with
  | esl p c hc=>exact⟨some p,c,[],rfl,fun h=>(by cases h),by simp,fun ad h j u hu=>by simp at hu,fun u hu=>by simp at hu,fun i x hx=>by simp at hx,fun i x j y hx=>by simp at hx⟩
 ·cases hn
theorem gR.append {w':World} {E sz:Nat} {L new:List (List V)} {u':Value} {xs WQ:List Value} (h0:∀(i:Nat) (x:List V),L[i]?=some x→x.length=sz) (Yd:xs.length=L.length*sz)
  (h2:∀(i:Nat) (x:List V) (j:Nat) (y:V),L[i]?=some x→x[j]?=some y→∃z,xs[i*sz+j]?=some z∧eh S w' y z)
  (n0:∀(i:Nat) (x:List V),new[i]?=some x→x.length=sz)
  (n2:∀(i:Nat) (x:List V) (j:Nat) (y:V),new[i]?=some x→x[j]?=some y→∃z,WQ[i*sz+j]?=some z∧eh S w' y z)
  (ho:w'.ownsRow 0 E sz u' (L.length+new.length) (xs++WQ)):gR S w' E sz (L++new) u':=by
 refine⟨fun i x hx=>?_,xs++WQ,by rw[UK];exact ho,fun i x j y hx hy=>?_⟩
 ·by_cases hi:i<L.length
  ·rw[UD hi]at hx;exact h0 i x hx
  ·rw[UE (by omega)]at hx;exact n0 _ x hx
 ·by_cases hi:i<L.length
  ·rw[UD hi]at hx
   obtain⟨z,hz,hr⟩:=h2 i x j y hx hy
   exact⟨z,by rw[UD (Up.1 hz).1];exact hz,hr⟩
  ·rw[UE (by omega)]at hx
   obtain⟨z,hz,hr⟩:=n2 _ x j y hx hy
   refine⟨z,?_,hr⟩
   have hm:L.length*sz≤i*sz:=UO _ (by omega)
   rw[UE (by omega),Yd]
   rw[Nat.sub_mul]at hz
   rw[← hz]
   congr 1
   omega
theorem u3 (t ty e:TypeId) (i:TypeInfo) (z:Value) (ht:P.underlying t=some (.slice e)) (hi:P.info? e=some i) (hz:i.zero=some z) (hzs:z.cells.size=i.size)
  {p:Option Addr} {n:Nat} {xs:List Value} (hpn:p=none→n=0) (Yd:xs.length=n*i.size) (holds:∀ad,p=some ad→∀(j:Nat) (u:Value),xs[j]?=some u→w.cell? (ad.add j)=some u) {pa:Option Addr} {m c:Nat} {WQ:List Value} (hpa:pa=none→c=0∧m=0)
  (hl:WQ.length=m*i.size) (hnews:∀ad,pa=some ad→∀(j:Nat) (u:Value),WQ[j]?=some u→w.cell? (ad.add j)=some u) (hm0:0<m)
  (h63:n+m≤maxLen) (YJ:(n+m)*i.bytes≤140737488355328) :
  ∃v' w',(Builtin.append_ #[t,t] ty #[.slice p n n,.slice pa m c]).run P w=.ok v' w'∧w'.ownsRow 0 e i.size v' (n+m) (xs++WQ)∧w.grownBy w' none∧v'.ownBlock=some w.heap.size:=by
 cases pa with
 | none=>have:=(hpa rfl).2;omega
 | some ad =>
  have hnw:=hnews ad rfl
  have hsmall:n+m≤9223372036854775807:=by simp only[maxLen]at h63;omega
  have WA:(xs++WQ).length=(n+m)*i.size:=by rw[UK,Yd,hl,Wy]
  have Zn:∀(old:Nat) (row:Option Nat),
    (w.drew.alloc (.cells (xs.toArray++WQ.toArray++Builtin.zeroCells z.cells (grownCap w (n+m) old e-(n+m))) e)).ownsRow 0 e i.size
     (.slice (some ⟨w.heap.size,0,none⟩) (n+m) (grownCap w (n+m) old e)) (n+m) (xs++WQ) ∧
    w.grownBy (w.drew.alloc (.cells (xs.toArray++WQ.toArray++Builtin.zeroCells z.cells (grownCap w (n+m) old e-(n+m))) e)) row:=by
   intro old row
   have hge:=grownCap_ge w (n+m) old e
   have ZO:grownCap w (n+m) old e≤maxLen:=grownCap_le_maxLen w (n+m) old e h63
   refine⟨⟨WA,.inr ⟨w.heap.size,_,_,rfl,Vs _,Vx w.drew _,hge,ZO,?_,?_⟩⟩,⟨rfl,rfl,rfl,by simp,fun k hk _=>VD w.drew _ k hk⟩⟩
   ·simp only[Array.size_append,Wh,size_zeroCells,hzs,Yd,hl,← Wy]
    congr 1
    omega
   ·simp only[Array.toList_append,Vf]
    rw[← Vf,← WA]
    exact Wt
  cases p with
  | none =>
   have hn:=hpn rfl
   subst hn
   have hx:xs=[]:=U0 (by simpa using Yd)
   subst hx
   have hr:=run_append_nil (P:=P) w t ty e i z ht hi hz ad m c WQ hl hnw (by omega) (by omega) (by have hb:=YJ;simp only[U5]at hb;omega)
   have Zj:=Zn 0 none
   simp only[U5,V6,Array.empty_append]at Zj ⊢
   exact⟨_,_,hr,Zj.1,Zj.2,rfl⟩
  | some b =>
   have hr:=run_append_grow (P:=P) w t ty e i z ht hi hz b n n xs Yd (holds b rfl) ad m c WQ hl hnw (by omega) (by omega) (growslice_fits (by omega) YJ)
   have Zj:=Zn n none
   exact⟨_,_,hr,Zj.1,Zj.2,rfl⟩
end
section
variable {C:ns} {S:Nat→Prop} {μ:Nat→Value} {st P':St} {a:Act} {w w':World} {p:Prop}
theorem xo (h:bk C S μ st a w) {ov:Ov} {dst:Option Nat} {t ty:TypeId} {s x:D} {us ux:Value} (hs:aq S μ w s us) (hx:aq S μ w x ux) (hp:zw C.P C.nt st ov dst t s x=(P',p)) (D':p) :
  ∃u w' μ',(Builtin.append_ #[t,t] ty #[us,ux]).run C.P w=.ok u w'∧bk C S μ' P' (a.put dst u) w':=by
 unfold zw at hp
 split at hp
 ·rename_i E hu
  split at hp
  ·rename_i z new hz W2
   split at hp
   ·rename_i WV
    simp only[Uo,UH,Vv]at WV
    obtain⟨⟨⟨hk,XQ⟩,WN⟩,hby1⟩:=WV
    obtain⟨i,v,hi,hv,Ze,WE,hby⟩:=j9 hz
    have Yn:v.cells.size=i.size:=by rw[WE,← XQ,Ze];simp
    obtain⟨pa,c,WQ,rfl,n1,n2,n3,n4,n5,n6⟩:=nI h.heap WN W2 hx
    rw[← WE]at n2 n6 n5
    have bytes:∀k,k≤137438953472→k*i.bytes≤140737488355328:=by
     intro k hk
     have:k*i.bytes≤137438953472*1024:=Nat.mul_le_mul hk (by omega)
     omega
    split at hp
    ·rename_i id
     split at hp
     ·rename_i E' W9 α enc d l td I'
      split at hp
      ·rename_i ZY
       simp only[Uo,UH,Ws]at ZY
       obtain⟨⟨⟨rfl,rfl⟩,htd⟩,hfx⟩:=ZY
       generalize hq:qg E (aH C.P E) (l.map enc++new) ov=q at hp
       obtain⟨B,q⟩:=q
       simp only[Ux]at hp
       obtain⟨rfl,rfl⟩:=hp
       obtain⟨WA,hq'⟩:=D'
       have WX:=cj hs
       subst WX
       obtain⟨r0,xs,r1,r2⟩:=gR.of (h.heap.box id _ I')
       simp only[UB]at r1
       have hmax:l.length+new.length≤maxLen:=by simp only[maxLen];omega
       obtain⟨v',w',WH,ho,hg,WB⟩:=eE (P:=C.P) (w:=w) t ty E i v hu hi hv Yn (by rw[WE];exact r1) n1 n2 n3 n4 hmax (bytes _ WA)
       have V':(μ id).ownBlock=aO (μ id):=by
        obtain⟨p',c',hm,_⟩:=cN (h.heap.box id _ I')
        rw[hm]
        cases p'<;>rfl
       have WG:id<st.heap.length:=(Up.1 I').1
       have Zb:∀b,S b→b<w.heap.size→w'.heap[b]?=w.heap[b]?:=fun b hb hl=>hg.block b hl (fun e=>h.heap.notS id _ b I' rfl (.inl (by rw[← V'];exact e.symm)) hb)
       have hA:gR S w' E (aH C.P E) (l.map enc++new) v':=by
        rw[WE]at ho n2 n5 n6
        refine gR.append r0 (by rw[r1.1];simp) (fun k x j y hx hy=>?_) n5 (fun k x j y hx hy=>?_) (by simpa using ho)
        ·obtain⟨z,hz,hr⟩:=r2 k x j y hx hy
         exact⟨z,hz,hr.stable (fun _ h _=>h) Zb hg.size⟩
        ·obtain⟨z,hz,hr⟩:=n6 k x j y hx hy
         exact⟨z,hz,hr.stable (fun _ h _=>h) Zb hg.size⟩
       obtain⟨hB,Z2⟩:=oS (μ:=br μ id v') hq hq' hA
       have hK:=h.kill id
       have Z9:(di id st.heap)[id]?=some (.arr E (aH C.P E) enc d l):=by rw[gM,I'];rfl
       have hv'b:∀b,cx v' b→(μ id).ownBlock=some b∨w.heap.size≤b:=by
        intro b hb
        have hb:=hb.bl (by rcases ho.2 with ⟨rfl,_⟩ | ⟨g,cap,W1,rfl,_⟩<;>rfl)
        have Zx:v'.ownBlock=aO v':=by
         rcases ho.2 with ⟨rfl,_⟩ | ⟨g,cap,W1,rfl,_⟩<;>rfl
        rcases WB with WB | WB
        ·exact .inl (by rw[← WB,Zx];exact hb)
        ·rw[Zx,hb]at WB
         cases WB
         exact .inr (Ut _)
       have Yq:=hK.upd (id:=id) (B:=B) (row:=(μ id).ownBlock) (u:=v') hg (fun k hk=>⟨_,Z9,rfl,.inl (by rw[← V'];exact hk)⟩) (by show id≤(di id st.heap).length;rw[dc];omega)
        hB hv'b (.inr ⟨fun A hA=>by have Xf:(di id st.heap)[id]?=some A:=hA;rw[Z9]at Xf;cases Xf;rfl,lM id _,lN id _⟩) (nq Z2)
       refine⟨v',w',_,WH,Yq.put htd ?_⟩
       have:=aq.own (S:=S) (μ:=br μ id v') (w:=w') id
       rwa [aG]at this
      ·exact aA hp D'
     ·exact aA hp D'
    ·generalize hq:qg E (aH C.P E) new ov=q at hp
     obtain⟨B,q⟩:=q
     simp only at hp
     have Yi:new.length≤137438953472∧q:=by
      have XS:=hp
      unfold newBox at XS
      split at XS
      ·split at XS
       ·simp only[Ux]at XS;rw[← XS.2]at D';exact D'
       ·exact aA XS D'
      ·exact aA XS D'
     obtain⟨WA,hq'⟩:=Yi
     cases hs
     obtain⟨v',w',WH,ho,hg,WB⟩:=eE (P:=C.P) (w:=w) t ty E i v hu hi hv Yn (VS w 0 E i.size) n1 n2 n3 n4 (by simp only[maxLen];omega) (bytes _ (by omega))
     have hg':w.grownBy w' none:=hg
     have Zb:∀b,S b→b<w.heap.size→w'.heap[b]?=w.heap[b]?:=fun b hb hl=>hg'.block b hl (by simp)
     have hA:gR S w' E (aH C.P E) ([]++new) v':=by
      rw[WE]at ho n2 n5 n6
      refine gR.append (xs:=[]) (fun k x hx=>by simp at hx) (by simp) (fun k x j y hx=>by simp at hx) n5 (fun k x j y hx hy=>?_) (by simpa using ho)
      obtain⟨z,hz,hr⟩:=n6 k x j y hx hy
      exact⟨z,hz,hr.stable (fun _ h _=>h) Zb hg'.size⟩
     rw[V6]at hA
     obtain⟨hB,Z2⟩:=oS (μ:=br μ st.heap.length v') hq hq' hA
     refine⟨v',w',_,WH,(h.newBox hp D' hg' hB (fun b hb=>?_) ?_ (nq Z2)).2⟩
     ·have hb:=hb.bl (by rcases ho.2 with ⟨rfl,_⟩ | ⟨g,cap,W1,rfl,_⟩<;>rfl)
      have Zx:v'.ownBlock=aO v':=by
       rcases ho.2 with ⟨rfl,_⟩ | ⟨g,cap,W1,rfl,_⟩<;>rfl
      rcases WB with WB | WB
      ·rw[Zx,hb]at WB;cases WB
      ·rw[Zx,hb]at WB;cases WB;exact Ut _
     ·have:=aq.own (S:=S) (μ:=br μ st.heap.length v') (w:=w') st.heap.length
      rwa [aG]at this
    ·rename_i W9 α enc d0 l
     split at hp
     ·rename_i hsz'
      rw[UH]at hsz'
      subst hsz'
      generalize hq:qg E (aH C.P E) (l.map enc++new) ov=q at hp
      obtain⟨B,q⟩:=q
      simp only at hp
      have Yi:0<new.length∧l.length+new.length≤137438953472∧q:=by
       have XS:=hp
       unfold newBox at XS
       split at XS
       ·split at XS
        ·simp only[Ux]at XS;rw[← XS.2]at D';exact D'
        ·exact aA XS D'
       ·exact aA XS D'
      obtain⟨ZL,WA,hq'⟩:=Yi
      cases hs with
      | capd _ p n YW =>
       obtain⟨pq,cq,xs,he,x0,x1,x2,_,Yr,x3⟩:=nI h.heap WN (new:=l.map enc) (x:=.v (.sl (aH C.P E) enc d0 l)) (by simp[Bc]) (.v _ _ YW)
       simp only[Value.slice.injEq,UB]at he x1
       obtain⟨rfl,rfl,rfl⟩:=he
       rw[← WE]at x1
       obtain⟨v',w',WH,ho,hg,WB⟩:=u3 (P:=C.P) (w:=w) t ty E i v hu hi hv Yn (p:=p) (n:=l.length) (xs:=xs) (fun e=>by have:=(x0 e).2;simpa using this) x1 x2 n1 n2 n3 ZL (by simp only[maxLen];omega) (bytes _ WA)
       have Zb:∀b,S b→b<w.heap.size→w'.heap[b]?=w.heap[b]?:=fun b hb hl=>hg.block b hl (by simp)
       have hA:gR S w' E (aH C.P E) (l.map enc++new) v':=by
        rw[WE]at ho n2 n5 n6 x1
        refine gR.append Yr (by rw[x1];simp) (fun k x j y hx hy=>?_) n5 (fun k x j y hx hy=>?_) (by simpa using ho)
        ·obtain⟨z,hz,hr⟩:=x3 k x j y hx hy
         exact⟨z,hz,hr.stable (fun _ h _=>h) Zb hg.size⟩
        ·obtain⟨z,hz,hr⟩:=n6 k x j y hx hy
         exact⟨z,hz,hr.stable (fun _ h _=>h) Zb hg.size⟩
       obtain⟨hB,Z2⟩:=oS (μ:=br μ st.heap.length v') hq hq' hA
       refine⟨v',w',_,WH,(h.newBox hp D' hg hB (fun b hb=>?_) ?_ (nq Z2)).2⟩
       ·have hb:=hb.bl (by rcases ho.2 with ⟨rfl,_⟩ | ⟨g,cap,W1,rfl,_⟩<;>rfl)
        have Zx:v'.ownBlock=aO v':=by
         rcases ho.2 with ⟨rfl,_⟩ | ⟨g,cap,W1,rfl,_⟩<;>rfl
        rw[Zx,hb]at WB
        cases WB
        exact Ut _
       ·have:=aq.own (S:=S) (μ:=br μ st.heap.length v') (w:=w') st.heap.length
        rwa [aG]at this
     ·exact aA hp D'
    ·exact aA hp D'
   ·exact aA hp D'
  ·exact aA hp D'
 ·exact aA hp D'
theorem wc (h:bk C S μ st a w) {ov:Ov} {dst:Option Nat} {t ty:TypeId} {s x:D} {us ux:Value} (hs:aq S μ w s us) (hx:aq S μ w x ux) (hp:v7 C.P C.nt st ov dst t s x=(P',p)) (D':p) :
  ∃u w' μ',(Builtin.append_ #[t,t] ty #[us,ux]).run C.P w=.ok u w'∧bk C S μ' P' (a.put dst u) w':=by
 unfold v7 at hp
 split at hp
 ·rename_i E id iy td hu
  split at hp
  ·rename_i z E1 sz1 n gs cell E2 Z6 m gs2 cell2 YB U' hz I' hboy
   split at hp
   ·rename_i WV
    simp only[Uo,UH,Vv,Ws]at WV
    obtain⟨⟨⟨⟨⟨hk,XQ⟩,WN⟩,hby1⟩,⟨rfl,rfl⟩,rfl⟩,htd⟩:=WV
    obtain⟨i,v,hi,hv,Ze,WE,hby⟩:=j9 hz
    have Yn:v.cells.size=i.size:=by rw[WE,← XQ,Ze];simp
    simp only[Ux]at hp
    obtain⟨rfl,rfl⟩:=hp
    obtain⟨WA,Xy⟩:=D'
    have WX:=cj hs
    subst WX
    have hux:=cj hx
    subst hux
    have bytes:∀k,k≤137438953472→k*i.bytes≤140737488355328:=by
     intro k hk
     have:k*i.bytes≤137438953472*1024:=Nat.mul_le_mul hk (by omega)
     omega
    obtain⟨r0,xs,r1,r2⟩:=h.heap.box id _ I'
    obtain⟨q0,ys,q1,q2⟩:=h.heap.box iy _ hboy
    obtain⟨pa,c,hmu,hnc,ZO,hpn,hpp⟩:=gH (h.heap.box iy _ hboy)
    have Z8:∀u∈ys,u.oneCell'=true:=by
     intro u hu
     obtain⟨k,hk,hku⟩:=VT hu
     have hyl:=q1.1
     have Ys:k<m*aH C.P E:=by omega
     have hdm:=Nat.div_add_mod k (aH C.P E)
     have hml:=Nat.mod_lt k (show 0<aH C.P E by omega)
     have hdl:k / aH C.P E<m:=Nat.div_lt_of_lt_mul (by rw[Nat.mul_comm];exact Ys)
     obtain⟨z,hz,ho,_⟩:=q2 (k / aH C.P E) (k%aH C.P E) hdl hml
     rw[Nat.mul_comm,hdm,Uq hk,hku]at hz
     cases hz
     exact ho
    have hcellsy:∀ad,pa=some ad→∀(j:Nat) (u:Value),ys[j]?=some u→w.cell? (ad.add j)=some u:=by
     intro ad had j u hj
     rcases q1.2 with ⟨hv0,_⟩ | ⟨g,cap,W1,hv0,_⟩
     ·rw[hmu,had]at hv0
      cases hv0
     ·have YA:=hv0
      rw[hmu]at YA
      simp only[Value.slice.injEq]at YA
      rw[had,UA]at YA
      rw[YA.1]
      exact q1.cells (g:=g) (by rw[hv0];rfl) j u hj
    rw[hmu]
    obtain⟨v',w',WH,ho,hg,WB⟩:=eE (P:=C.P) (w:=w) t ty E i v hu hi hv Yn (by rw[WE];exact r1) (fun e=>⟨hpn e,by
      rcases Nat.eq_zero_or_pos m with h0 | h0
      ·exact h0
      ·obtain⟨g,hg⟩:=hpp h0;rw[hg]at e;cases e⟩) (by rw[WE];exact q1.1) hcellsy Z8 (by simp only[maxLen];omega) (bytes _ WA)
    have V':(μ id).ownBlock=aO (μ id):=by
     obtain⟨p',c',hm,_⟩:=gH (h.heap.box id _ I')
     rw[hm]
     cases p'<;>rfl
    have WG:id<st.heap.length:=(Up.1 I').1
    have Zb:∀b,S b→b<w.heap.size→w'.heap[b]?=w.heap[b]?:=fun b hb hl=>hg.block b hl (fun e=>h.heap.notS id _ b I' rfl (.inl (by rw[← V'];exact e.symm)) hb)
    have Xv:∀(d:D) (u:Value),aq S μ w d u→d.free id=true→aq S (br μ id v') w' d u:=fun d u hd hf=>hd.stable (fun _ h _=>h) Zb hg.size (fun k hk=>aP _ _ (fun e=>by rw[e,hf]at hk;cases hk))
    rw[WE]at ho
    have hB:aN S (br μ id v') w' v' (.arrD E (aH C.P E) (n+m) YB U'):=by
     refine⟨fun i j k hi hj hk=>(Xy i j hi hj).2.2 k hk,xs++ys,ho,fun i j hi hj=>?_⟩
     obtain⟨e1,e2,_⟩:=Xy i j hi hj
     by_cases hin:i<n
     ·rw[Uw hin]at e1
      obtain⟨z,hz,h1,hr⟩:=r2 i j hin hj
      refine⟨z,?_,h1,Xv _ _ (by rw[e1];exact hr) e2⟩
      rw[UD (Up.1 hz).1]
      exact hz
     ·rw[Ur hin]at e1
      obtain⟨z,hz,h1,hr⟩:=q2 (i-n) j (by omega) hj
      refine⟨z,?_,h1,Xv _ _ (by rw[e1];exact hr) e2⟩
      have hmul:n*aH C.P E≤i*aH C.P E:=UO _ (by omega)
      have Yd:=r1.1
      rw[UE (by omega),Yd,show i*aH C.P E+j-n*aH C.P E=(i-n)*aH C.P E+j by rw[Nat.sub_mul];omega]
      exact hz
    have hK:=h.kill id
    have Z9:∃A,(di id st.heap)[id]?=some A∧A.live=true:=by
     refine⟨aC.kill id (.arrD E (aH C.P E) n gs cell),by rw[gM,I'];rfl,?_⟩
     simp only[aC.kill]
     split<;>rfl
    have hv'b:∀b,cx v' b→(μ id).ownBlock=some b∨w.heap.size≤b:=by
     intro b hb
     have hb:=hb.bl (by rcases ho.2 with ⟨rfl,_⟩ | ⟨g,cap,W1,rfl,_⟩<;>rfl)
     have Zx:v'.ownBlock=aO v':=by
      rcases ho.2 with ⟨rfl,_⟩ | ⟨g,cap,W1,rfl,_⟩<;>rfl
     rcases WB with WB | WB
     ·exact .inl (by rw[← WB,Zx];exact hb)
     ·rw[Zx,hb]at WB
      cases WB
      exact .inr (Ut _)
    obtain⟨A,hA1,hA2⟩:=Z9
    have Yq:=hK.upd0 (id:=id) (B:=.arrD E (aH C.P E) (n+m) YB U') (row:=(μ id).ownBlock) (u:=v') hg (fun k hk=>⟨A,hA1,hA2,.inl (by rw[← V'];exact hk)⟩) (by show id≤(di id st.heap).length;rw[dc];omega)
     hB hv'b (.inr ⟨lM id _,lN id _⟩) rfl
    refine⟨v',w',_,WH,Yq.put htd ?_⟩
    have:=aq.own (S:=S) (μ:=br μ id v') (w:=w') id
    rwa [aG]at this
   ·exact aA hp D'
  ·exact aA hp D'
 ·exact aA hp D'
theorem we (h:bk C S μ st a w) {ov:Ov} {dst:Option Nat} {t ty:TypeId} {s x:D} {us ux:Value} (hs:aq S μ w s us) (hx:aq S μ w x ux) (hp:v8 C.P C.nt st ov dst t s x=(P',p)) (D':p) :
  ∃u w' S' μ',(Builtin.append_ #[t,t] ty #[us,ux]).run C.P w=.ok u w'∧bk C S' μ' P' (a.put dst u) w':=by
 unfold v8 at hp
 exact aA hp D'
end
section
variable {C:ns} {S:Nat→Prop} {μ:Nat→Value} {st P':St} {a:Act} {w w':World} {p:Prop}
theorem bk.ePut (h:bk C S μ st a w) {dst:Option Nat} {d:D} {q:Prop} {u:Value} (hp:ePut C.nt st dst d q=(P',p)) (D':p) (hd:aq S μ w d u):q∧bk C S μ P' (a.put dst u) w:=by
 unfold Proofs.YtnlmlkbaflmgcaaGreat.ePut at hp
 split at hp
 ·split at hp
  ·rename_i t ht
   rw[Ws]at ht
   simp only[Ux]at hp
   obtain⟨rfl,rfl⟩:=hp
   exact⟨D',h.put ht hd⟩
  ·exact aA hp D'
 ·simp only[Ux]at hp
  obtain⟨rfl,rfl⟩:=hp
  exact⟨D',h⟩
theorem aU.evals (h:bk C S μ st a w) (args:Array Operand):aU S μ w (args.toList.map (fF st.env)) (args.map a.eval):=by
 refine⟨by simp,fun j y z hy hz=>?_⟩
 simp only[UJ,UY,VA]at hy hz
 cases hj:args[j]? with
 | none=>rw[hj]at hy;cases hy
 | some x=>rw[hj]at hy hz;simp at hy hz;subst hy hz;exact h.eval x
theorem aU.app {cs ds:List D} {us vs:Array Value} (h:aU S μ w cs us) (k:aU S μ w ds vs):aU S μ w (cs++ds) (us++vs):=by
 refine⟨by simp[h.1,k.1],fun j y z hy hz=>?_⟩
 by_cases hj:j<cs.length
 ·rw[UD hj]at hy
  rw[Array.getElem?_append_left (by rw[h.1];exact hj)]at hz
  exact h.2 j y z hy hz
 ·rw[UE (by omega)]at hy
  rw[Array.getElem?_append_right (by rw[h.1];omega),h.1]at hz
  exact k.2 _ y z hy hz
theorem ct {P:Program} {f:FuncId} (h:j7 P f=true) (args:Array Value) (w:World):(callFunc f args).run P w=.ok (.enter f args) w:=by
 unfold j7 at h
 cases hf:P.funcs[f]? with
 | none=>rw[hf]at h;cases h
 | some fn =>
  rw[hf]at h
  simp only[Uo,U2]at h
  have n1:fn.name ≠ "runtime.NumGoroutine" := by simpa using h.1
  have n2:fn.body≠none:=fun e=>by rw[e]at h;simp at h
  simp[callFunc,program,Sem.run,hf,n1,n2]
theorem eT {nt:Nat} {dst:Option Nat} {d:D} {q:Prop} (hp:ePut nt st dst d q=(P',p)) (D':p):q:=by
 unfold ePut at hp
 split at hp
 ·split at hp
  ·simp only[Ux]at hp;rw[← hp.2]at D';exact D'
  ·exact aA hp D'
 ·simp only[Ux]at hp;rw[← hp.2]at D';exact D'
theorem lR (w:World):w.grownBy w none:=⟨rfl,rfl,rfl,Ut _,fun _ _ _=>rfl⟩
theorem bk.pushFrame (h:bk C S μ st a w) (hf:cE st.heap.length st.env=true) (hh:cF st.heap.length st.heap=true) :
  bk C S (br μ st.heap.length (.bool true)) ⟨st.env,st.heap++[.frame a.tmps st.env]⟩ a w:=by
 have:=h.upd (id:=st.heap.length) (B:=.frame a.tmps st.env) (row:=none) (u:=.bool true) (lR w) (fun k hk=>by cases hk) (Ut _)
  ⟨rfl,fun t d hm=>?_⟩ (fun b hb=>by simp[cx,aO]at hb) (.inr ⟨fun A hA=>by simp at hA,hf,hh⟩)
 ·rw[show cA st.heap st.heap.length (.frame a.tmps st.env)=st.heap++[.frame a.tmps st.env]from by simp[cA]]at this
  exact this
 ·obtain⟨q1,q2⟩:=h.env t d hm
  refine⟨by rw[h.tsize];exact q1,q2.stable (fun _ h _=>h) (fun _ _ _=>rfl) (Ut _) (fun i hi=>aP _ _ (fun e=>?_))⟩
  subst e
  rw[eH hf hm]at hi
  cases hi
theorem bk.loopTo (h:bk C S μ st a w) {id l:Nat} {tm:Array Value} {nt:Nat} {env:List (Nat×D)} {ps:List Nat} {q' bd:Code} {s:LoopState} {pe:Option Code} (I':st.heap[id]?=some (.loop l tm nt env ps q' bd s pe)) (s':LoopState) (pe':Option Code) :
  ∃r:Loop,w.heap[l]?=some (.loop r)∧r.state=s∧r.pending=pe∧r.params=ps.toArray∧r.assign=q'∧r.body=bd∧r.tmps=tm∧tm.size=nt ∧
   bk C S μ ⟨st.env,st.heap.set id (.loop l tm nt env ps q' bd s' pe')⟩ a (w.putObj l (.loop { r with state:=s',pending:=pe' })):=by
 obtain⟨r,hμ,g1,g2,g3,g4,g5,g6,g7,g8,g9⟩:=h.heap.box id _ I'
 have WG:id<st.heap.length:=(Up.1 I').1
 have hll:l<w.heap.size:=(UC.1 g1).1
 refine⟨r,g1,g2,g3,g4,g5,g6,g7,g8,?_⟩
 have Zo:aO (μ id)=some l:=by rw[hμ];rfl
 have WB:cx (μ id) l:=.inl Zo
 have hg:w.grownBy (w.putObj l (.loop { r with state:=s',pending:=pe' })) (some l):=⟨rfl,rfl,rfl,by rw[Wg];exact Ut _,fun k _ hk=>VQ (fun e=>hk (by rw[e]))⟩
 have hSl:¬S l:=h.heap.notS id _ l I' rfl WB
 have:=h.upd (id:=id) (B:=.loop l tm nt env ps q' bd s' pe') (row:=some l) (u:=μ id) hg (fun k hk=>⟨_,I',rfl,by cases hk;exact WB⟩) (Nat.le_of_lt WG) ?_ (fun b hb=>.inl (hb.one Zo)) (.inl ⟨rfl,.inl rfl⟩)
 ·have e1:br μ id (μ id)=μ:=by funext i;unfold br;split<;>simp_all
  rw[e1]at this
  have e2:cA st.heap id (.loop l tm nt env ps q' bd s' pe')=st.heap.set id (.loop l tm nt env ps q' bd s' pe'):=by
   unfold cA
   have:Nat.beq id st.heap.length=false:=by
    cases hb:Nat.beq id st.heap.length
    ·rfl
    ·rw[UH]at hb;omega
   rw[this]
   rfl
  rw[e2]at this
  exact this
 ·have e1:br μ id (μ id)=μ:=by funext i;unfold br;split<;>simp_all
  rw[e1]
  refine⟨_,hμ,World.putObj_heap_same hll,rfl,rfl,g4,g5,g6,g7,g8,fun t d hm=>?_⟩
  obtain⟨q1,q2⟩:=g9 t d hm
  refine⟨q1,q2.stable (fun _ h _=>h) (fun b hb _=>VQ (fun e=>hSl (e ▸ hb))) (by rw[Wg];exact Ut _) (fun _ _=>rfl)⟩
theorem GX {H:List aC} {n:Nat} (h:qM H[n]?=true):n<H.length∧H[n]?=some .dead:=by
 unfold qM at h
 split at h
 ·rename_i hh;exact⟨(Up.1 hh).1,hh⟩
 ·cases h
theorem EW {H L:List aC} {n:Nat} {F:aC} (hd:qM H[n]?=true) (ht:L.take (H.set n F).length=H.set n F):L[n]?=some F∧∀(i:Nat) (B:aC),H[i]?=some B→B=.dead∨L[i]?=some B:=by
 obtain⟨h1,h2⟩:=GX hd
 have key:∀i,i<H.length→L[i]?=(H.set n F)[i]?:=fun i hi=>by
  rw[← ht,UP,Uw (by simpa using hi)]
 refine⟨by rw[key n h1,UI h1],fun i B hB=>?_⟩
 have hi:i<H.length:=(Up.1 hB).1
 by_cases e:i=n
 ·subst e
  rw[h2]at hB
  cases hB
  exact .inl rfl
 ·rw[key i hi,UF (fun h=>e h.symm)]
  exact .inr hB
theorem wg (h:bk C S μ st a w) {dst:Option Nat} {g:FuncId} {ds:List D} {r:D} {env:List (Nat×D)} {H:List aC} {us:Array Value} (WX:∀(μ1:Nat→Value) (H1:List aC),bk C S μ1 ⟨st.env,H1⟩ a w→aU S μ1 w ds us)
  (hp:Im C.P C.nt st dst g ds r env H=(P',p)) (D':p) {K:Act→World→Prop} (hK:∀S' μ' a' w',bk C S' μ' P' a' w'→K a' w'):j7 C.P g=true∧Calls C.P g us w (fun e w'=>∃u,e=.returned u∧K (a.put dst u) w'):=by
 unfold Im at hp
 split at hp
 ·rename_i hc
  simp only[Uo]at hc
  obtain⟨⟨⟨Zg,XR⟩,hfh⟩,hdd⟩:=hc
  refine⟨Zg,?_⟩
  obtain⟨fn,c,hf,hb,hn,hev⟩:=eT hp D' a.tmps
  rw[Vv]at hn
  have h1:=h.pushFrame XR hfh
  obtain⟨mk,d1,d2,d3⟩:=h1.defers
  have YW:=WX _ _ h1
  let C1:ns:=⟨C.P,C.W,C.S0,fn.ntmps,mk++C.susp,none,C.g⟩
  have hR:bk C1 S (br μ st.heap.length (.bool true)) ⟨m4 0 ds,st.heap++[.frame a.tmps st.env]⟩ (xM us fn.ntmps) w :=
   h1.turn (C1:=C1) (mk:=mk) (mk1:=[]) d2 d3 rfl rfl rfl (v3 YW.1 hn) (zt YW hn)
  refine(nz (C:=C1) hf hb rfl hR (hev C1 rfl rfl rfl) (fun e P' hq=>?_)).mono ?_
  ·cases e<;>first | exact⟨.inl rfl,hq.1⟩ | exact⟨.inr rfl,hq.1⟩ | exact hq.elim
  rintro e w' ⟨u,e0,Xl,S',μ',a1,rfl,Yv,hR1,hd1⟩
  refine⟨u,rfl,?_⟩
  have Yi:xh (i2 C.P fn Xl) r∧Xl.heap.take (H.set st.heap.length (.frame a.tmps env)).length=H.set st.heap.length (.frame a.tmps env):=by
   cases e0<;>first | exact Yv.2 | exact Yv.elim
  obtain⟨I',hrest⟩:=EW hdd Yi.2
  obtain⟨_,henv⟩:=hR1.heap.box _ _ I'
  have X7:=hR1.back (C:=C) (a:=a) (mk:=mk) rfl rfl rfl d1 h.tsize (env:=env) (fun t d hm=>by
   have:=henv t d hm
   rw[h.tsize]at this
   exact this)
  have hc2:=X7.heapTo (H:=H) hrest
  exact hK _ _ _ _ (hc2.ePut hp D' (rH Yi.1 hd1)).2
 ·exact aA hp D'
theorem GY {S:Nat→Prop} {μ:Nat→Value} {w:World} {nt:Nat}:∀(ps:List Nat) (ds:List D) (us:List Value) (env:List (Nat×D)) (tm:Array Value),ds.length=us.length→(∀(j:Nat) (y:D) (u:Value),ds[j]?=some y→us[j]?=some u→aq S μ w y u)→tm.size=nt→ps.all (fun p=>Nat.blt p nt)=true →
  (∀(t:Nat) (d:D),(t,d)∈env→t<nt∧aq S μ w d (tm.getD t undef)) →
  ((ps.zip us).foldl (fun (tmps:Array Value) (x:Nat×Value)=>tmps.setIfInBounds x.1 x.2) tm).size=nt ∧
  ∀(t:Nat) (d:D),(t,d)∈EU ps ds env→t<nt∧aq S μ w d (((ps.zip us).foldl (fun (tmps:Array Value) (x:Nat×Value)=>tmps.setIfInBounds x.1 x.2) tm).getD t undef):=by
 intro ps
 induction ps with
 | nil=>intro ds us env tm _ _ hs _ he;exact⟨hs,fun t d hm=>he t d (by cases ds<;>exact hm)⟩
 | cons p ps ih =>
  intro ds us env tm hl hd hs hp he
  cases ds with
  | nil =>
   cases us with
   | nil=>exact⟨hs,fun t d hm=>he t d hm⟩
   | cons u us=>simp at hl
  | cons d0 ds =>
   cases us with
   | nil=>simp at hl
   | cons u us =>
    simp only[We,Uo,Ws]at hp
    refine ih ds us (A7 env p d0) (tm.setIfInBounds p u) (by simpa using hl) (fun j y v hy hv=>hd (j+1) y v (by simpa using hy) (by simpa using hv)) (by simpa using hs) hp.2 (fun t d hm=>?_)
    rcases Vh.1 hm with hm | hm
    ·cases hm
     refine⟨hp.1,?_⟩
     have:(tm.setIfInBounds p u).getD p undef=u:=by
      have hts:p<tm.size:=by omega
      simp[hts]
     rw[this]
     exact hd 0 d0 u rfl rfl
    ·obtain⟨h1,h2⟩:=gJ hm
     obtain⟨q1,q2⟩:=he t d h1
     refine⟨q1,?_⟩
     have:(tm.setIfInBounds p u).getD t undef=tm.getD t undef:=by
      simp only[Vb]
      rw[Vk (fun e=>h2 e.symm)]
     rw[this]
     exact q2
theorem zA (h:bk C S μ st a w) {o:Oper} {f:Operand} {args:Array Operand} {Zw:Array TypeId} (ho:o.op=.call ⟨.value f,args,Zw⟩) {id:Nat} (hf:fF st.env f=.yld id) {b:Bool} {env:List (Nat×D)} {H:List aC}
  (hp:Dg C.P C.nt st o.dst id (args.toList.map (fF st.env)) b env H=(P',p)) (D':p) {K:Act→World→Prop} {Q:Exit→Act→World→Prop} (hK:∀S' μ' a' w',bk C S' μ' P' a' w'→K a' w') :
  o.uponIn (qE C.rd) 0 C.P a K Q ((execOp a.eval o).run C.P w):=by
 unfold Dg at hp
 split at hp
 ·rename_i l tm ntL envL ps q' body I'
  split at hp
  ·rename_i hc
   simp only[Uo,UH]at hc
   obtain⟨⟨⟨⟨XR,hfh⟩,hdd⟩,Yg⟩,hps⟩:=hc
   have hq:=eT hp D' a.tmps
   have WG:id<st.heap.length:=(Up.1 I').1
   have Ya:aq S μ w (.yld id) (a.eval f):=hf ▸ h.eval f
   obtain⟨r0,hμ0,g1,g2,g3,g4,g5,g6,g7,g8,g9⟩:=h.heap.box id _ I'
   have hfe':a.eval f=.func (.yield l) #[] #[]:=by
    generalize a.eval f=uf at Ya
    cases Ya with
    | yld _ l' hl =>
     rw[hμ0]at hl
     simp[cx,aO]at hl
     rw[hl]
   have WE:(args.map a.eval).size=r0.params.size:=by
    rw[g4]
    simp only[Array.size_map,Wh]
    simpa using Yg.symm
   have WH:(execOp a.eval o).run C.P w=.ok (.round l r0.fn ((r0.params.zip (args.map a.eval)).foldl (fun tmps (t,a)=>tmps.setIfInBounds t a) r0.tmps) r0.assign r0.body) w:=by
    have:=run_yield (P:=C.P) g1 WE
    simp[execOp,ho,resolve,hfe',Deferred.ofValue,invoke,this]
   rw[WH,Oper.uponIn_round]
   refine⟨fun hx=>(by rw[xB]at hx;cases hx),?_⟩
   have h1:=h.pushFrame XR hfh
   have hid1:(st.heap++[aC.frame a.tmps st.env])[id]?=some (.loop l tm ntL envL ps q' body .ready none):=by rw[UD WG];exact I'
   obtain⟨mk,d1,d2,d3⟩:=h1.defers
   let C1:ns:=⟨C.P,C.W,C.S0,ntL,mk++C.susp,some l,C.g⟩
   have hfen:(qE C.rd).inRound l=qE (some l):=by cases C.rd<;>rfl
   have hargs:=aU.evals h1 args
   obtain⟨r2,_,m1,_,_,_,_,_,m7,m8,m9⟩:=h1.heap.box id _ hid1
   have hpe:=GY (S:=S) (w:=w) ps (args.toList.map (fF st.env)) (args.map a.eval).toList envL tm (by simp) (fun j y u hy hu=>hargs.2 j y u hy (by simpa using hu)) g8 hps m9
   have hfold:(r0.params.zip (args.map a.eval)).foldl (fun tmps (t,a)=>tmps.setIfInBounds t a) r0.tmps=(ps.zip (args.map a.eval).toList).foldl (fun (tmps:Array Value) (x:Nat×Value)=>tmps.setIfInBounds x.1 x.2) tm:=by
    rw[← Array.foldl_toList,Array.toList_zip,g4,g7]
   rw[hfold,g5,g6]
   have h3:bk C1 S _ ⟨EU ps (args.toList.map (fF st.env)) envL,st.heap++[aC.frame a.tmps st.env]⟩ { tmps:=(ps.zip (args.map a.eval).toList).foldl (fun (tmps:Array Value) (x:Nat×Value)=>tmps.setIfInBounds x.1 x.2) tm,defers:=[] } w :=
    h1.turn (C1:=C1) (mk:=mk) (mk1:=[]) d2 d3 rfl rfl rfl hpe.1 hpe.2
   refine roundIn_of_wpIn (te _ _) ?_
   rw[hfen]
   refine wpIn_mono (hq C1 rfl rfl rfl _ _ _ _ h3) ?_
   rintro e1 a1 w1 ⟨sta,Sa,μa,hqa,hRa⟩
   cases e1<;>first | exact hqa.elim | skip
   simp only[Il]at hqa
   split at hqa
   case h_2=>exact hqa.elim
   rename_i l1 ZP nt1 env1 ps1 as1 bd1 hbxa
   obtain⟨rfl,hqb⟩:=hqa
   obtain⟨r,k1,k2,k3,k4,k5,k6,k7,k8,h2⟩:=hRa.loopTo hbxa .busy none
   have hbeg:(Instr.beginRound l1).run C.P w1=.ok () (w1.putObj l1 (.loop { r with state:=.busy,pending:=none })):=by
    rw[run_beginRound k1 k2]
    rw[show({ r with state:=.busy }:Loop)={ r with state:=.busy,pending:=none } from by rw[← k3]]
   refine⟨_,hbeg,?_⟩
   refine wpIn_mono (hqb _ _ _ _ h2) ?_
   rintro e a' w' ⟨Xl,S',μ',Yv,hR1⟩
   unfold Ik at Yv
   split at Yv
   ·rename_i l2 tm2 nt2 env2 ps2 as2 bd2 s2 p2 hbx
    obtain⟨rfl,hans,htake⟩:=Yv
    have fin:∀ZQ:Option Code,Ij e=some ZQ.isNone→v9 e=(if ZQ.isNone then .ready else .done)→zy e=ZQ→∃v w2,(Instr.endRound l2 ZQ).run C.P w'=.ok v w2∧K (a.put o.dst v) w2:=by
     intro ZQ j1 j2 j3
     obtain⟨r3,n1,n2,n3,n4,n5,n6,n7,n8,h4⟩:=hR1.loopTo hbx (v9 e) (zy e)
     refine⟨_,_,run_endRound ZQ n1,?_⟩
     obtain⟨hbf,hrest⟩:=EW hdd htake
     obtain⟨_,henv⟩:=h4.heap.box _ _ hbf
     have X7:=h4.back (C:=C) (a:=a) (mk:=mk) rfl rfl rfl d1 h.tsize (env:=env) (fun t d hm=>by
      have:=henv t d hm
      rw[h.tsize]at this
      exact this)
     have hc2:=X7.heapTo (H:=H) hrest
     rw[j2,j3]at hc2
     have hb3:b=ZQ.isNone:=by rw[hans]at j1;exact Option.some.inj j1
     refine hK _ _ _ _ (hc2.ePut hp D' ?_).2
     rw[← hb3]
     exact .v _ _ (.bool b)
    cases e with
    | normal=>exact fin none rfl rfl rfl
    | ret=>exact fin (some .ret) rfl rfl rfl
    | exit i=>exact fin (some (.exit i)) rfl rfl rfl
    | goto i=>cases hans
    | panic ch=>cases hans
    | outgrown=>cases hans
   ·exact Yv.elim
  ·exact aA hp D'
 ·exact aA hp D'
end
def qN:List (Nat×Ov)→Nat→Ov
 | [],_=>.none
 | (j,o)::r,i=>if Nat.beq j i then o else qN r i
def gS (ops:List Oper) (st:St) (o:Oper):Option Bool :=
 match o.guard with
 | none=>some true
 | some (g,XA)=>match (ops[g]?).bind (·.dst)with
  | some t=>match qe st.env t with
   | .v (.bool b)=>some (b==XA)
   | .tup []=>some false
   | _=>none
  | none=>none
def tv (nt:Nat) (st:St) (dst:Option Nat):R2:=ePut nt st dst (.tup []) True
def fv (P:Program) (nt:Nat) (ops:List Oper) (WS:List (Nat×Ov)):Nat→List Oper→St→R2
 | _,[],st=>(st,True)
 | i,o::r,st=>match gS ops st o with
  | some true=>match rN P nt (qN WS i) o st with
   | (Xl,p1)=>match fv P nt ops WS (i+1) r Xl with
    | (Z3,p2)=>(Z3,p1∧p2)
  | some false=>match tv nt st o.dst with
   | (Xl,p1)=>match fv P nt ops WS (i+1) r Xl with
    | (Z3,p2)=>(Z3,p1∧p2)
  | none=>a8 st
def It:List (Nat×D)→Nat→Bool
 | [],_=>false
 | (s,_)::r,t=>Nat.beq s t||It r t
def rP (keep:List Nat) (env:List (Nat×D)):List (Nat×D) :=
 match keep with
 | []=>[]
 | t::r=>if It env t then (t,qe env t)::rP r env else rP r env
theorem wh:∀{env:List (Nat×D)} {t:Nat},It env t=true→∃e,(t,e)∈env
 | (s,e)::r,t,h=>by
  unfold It at h
  cases hs:Nat.beq s t
  ·rw[hs,Bool.false_or]at h
   obtain⟨e',h'⟩:=wh h
   exact⟨e',UT _ h'⟩
  ·rw[UH]at hs
   subst hs
   exact⟨e,UX ..⟩
theorem tx {env:List (Nat×D)}:∀{keep:List Nat} {t:Nat} {d:D},(t,d)∈rP keep env→d=.junk∧(∃e,(t,e)∈env)∨(t,d)∈env
 | [],t,d,h=>by cases h
 | s::r,t,d,h=>by
  unfold rP at h
  split at h
  ·rename_i hh
   rcases Vh.1 h with h | h
   ·cases h
    rcases tn (env:=env) (t:=s)with h1 | h1
    ·exact .inl ⟨h1,wh hh⟩
    ·exact .inr h1
   ·exact tx h
  ·exact tx h
section
variable {C:ns} {S:Nat→Prop} {μ:Nat→Value} {st P':St} {a:Act} {w w':World} {p:Prop}
theorem Bf (h:bk C S μ st a w) {ov:Ov} {o:Oper} {f:Operand} {args:Array Operand} {Zw:Array TypeId} (ho:o.op=.call ⟨.value f,args,Zw⟩)
  (hp:Iq C.P C.nt st ov o.dst (fF st.env f) (args.toList.map (fF st.env))=(P',p)) (D':p) {K:Act→World→Prop} {Q:Exit→Act→World→Prop} (hK:∀S' μ' a' w',bk C S' μ' P' a' w'→K a' w') :
  o.uponIn (qE C.rd) 0 C.P a K Q ((execOp a.eval o).run C.P w):=by
 unfold Iq at hp
 split at hp
 ·rename_i g first cap hf
  have Ya:=hf ▸ h.eval f
  split at hp
  ·rename_i q' al r
   split at hp
   ·rename_i hc
    simp only[Uo,U3,U2]at hc
    obtain⟨⟨Zg,hr⟩,Xm⟩:=hc
    have X1:=aU.evals h args
    refine j4 ?_
    generalize XR:a.eval f=uf at Ya
    cases Ya with
    | fn _ _ _ us vs h1 h2 h3 h4 =>
     have WH:(execOp a.eval o).run C.P w=.ok (.enter g (us++args.map a.eval++vs)) w:=by
      simp[execOp,ho,resolve,XR,Deferred.ofValue,invoke,ct Zg]
     rw[WH,V8]
     have hall:aU S μ w (first++args.toList.map (fF st.env)++cap) (us++args.map a.eval++vs):=(aU.app (aU.app ⟨h1,h2⟩ X1) ⟨h3,h4⟩)
     have hq:qK C.P g st.heap (first++args.toList.map (fF st.env)++cap) q' al r:=eT hp D'
     refine(h.callPure hq hall Xm hr (K:=fun u w'=>K (a.put o.dst u) w') ?_).mono ?_
     ·intro S' u w' hR hd
      exact hK _ _ _ _ (hR.ePut hp D' hd).2
     ·rintro e w' ⟨u,rfl,hu⟩
      exact hu
   ·exact aA hp D'
  ·rename_i id q' r
   split at hp
   ·rename_i hc
    simp only[Uo]at hc
    obtain⟨Zg,hr⟩:=hc
    have X1:=aU.evals h args
    refine j4 ?_
    generalize XR:a.eval f=uf at Ya
    cases Ya with
    | fn _ _ _ us vs h1 h2 h3 h4 =>
     have WH:(execOp a.eval o).run C.P w=.ok (.enter g (us++args.map a.eval++vs)) w:=by
      simp[execOp,ho,resolve,XR,Deferred.ofValue,invoke,ct Zg]
     rw[WH,V8]
     have hall:aU S μ w (first++args.toList.map (fF st.env)++cap) (us++args.map a.eval++vs):=(aU.app (aU.app ⟨h1,h2⟩ X1) ⟨h3,h4⟩)
     have hq:lO C.P g st.heap (first++args.toList.map (fF st.env)++cap) id q' r:=eT hp D'
     refine(h.callR hq hall hr (K:=fun u w'=>K (a.put o.dst u) w') ?_).mono ?_
     ·intro S' u w' hR hd
      exact hK _ _ _ _ (hR.ePut hp D' hd).2
     ·rintro e w' ⟨u,rfl,hu⟩
      exact hu
   ·exact aA hp D'
  ·rename_i q' al r
   split at hp
   ·rename_i hc
    simp only[Uo,U3,U2]at hc
    obtain⟨hr,Xm⟩:=hc
    have Zg:=(eT hp D').1
    have X1:=aU.evals h args
    refine j4 ?_
    generalize XR:a.eval f=uf at Ya
    cases Ya with
    | fn _ _ _ us vs h1 h2 h3 h4 =>
     have WH:(execOp a.eval o).run C.P w=.ok (.enter g (us++args.map a.eval++vs)) w:=by
      simp[execOp,ho,resolve,XR,Deferred.ofValue,invoke,ct Zg]
     rw[WH,V8]
     have hall:aU S μ w (first++args.toList.map (fF st.env)++cap) (us++args.map a.eval++vs):=(aU.app (aU.app ⟨h1,h2⟩ X1) ⟨h3,h4⟩)
     have hq:qK C.P g st.heap (first++args.toList.map (fF st.env)++cap) q' al r:=(eT hp D').2
     refine(h.callPure hq hall Xm hr (K:=fun u w'=>K (a.put o.dst u) w') ?_).mono ?_
     ·intro S' u w' hR hd
      exact hK _ _ _ _ (hR.ePut hp D' hd).2
     ·rintro e w' ⟨u,rfl,hu⟩
      exact hu
   ·exact aA hp D'
  ·rename_i r env H
   generalize XR:a.eval f=uf at Ya
   cases Ya with
   | fn _ _ _ us vs h1 h2 h3 h4 =>
    have hs:=wg (us:=us++args.map a.eval++vs) h (fun μ1 H1 h'=>by
     have hfv':aq S μ1 w (.fn (.func g) first cap) (a.eval f):=hf ▸ h'.eval f
     rw[XR]at hfv'
     cases hfv' with
     | fn _ _ _ _ _ q1 q2 q3 q4=>exact aU.app (aU.app ⟨q1,q2⟩ (aU.evals h' args)) ⟨q3,q4⟩) hp D' (K:=K) hK
    have WH:(execOp a.eval o).run C.P w=.ok (.enter g (us++args.map a.eval++vs)) w:=by
     simp[execOp,ho,resolve,XR,Deferred.ofValue,invoke,ct hs.1]
    refine j4 ?_
    rw[WH,V8]
    refine hs.2.mono ?_
    rintro e w' ⟨u,rfl,hu⟩
    exact hu
  ·rename_i r
   obtain⟨p',XS,hob'⟩:=Ip hp D'
   generalize XR:a.eval f=uf at Ya
   cases Ya with
   | fn _ _ _ us vs h1 h2 h3 h4 =>
    have hs:=wg (us:=us++args.map a.eval++vs) h (fun μ1 H1 h'=>by
     have hfv':aq S μ1 w (.fn (.func g) first cap) (a.eval f):=hf ▸ h'.eval f
     rw[XR]at hfv'
     cases hfv' with
     | fn _ _ _ _ _ q1 q2 q3 q4=>exact aU.app (aU.app ⟨q1,q2⟩ (aU.evals h' args)) ⟨q3,q4⟩) XS hob' (K:=K) hK
    have WH:(execOp a.eval o).run C.P w=.ok (.enter g (us++args.map a.eval++vs)) w:=by
     simp[execOp,ho,resolve,XR,Deferred.ofValue,invoke,ct hs.1]
    refine j4 ?_
    rw[WH,V8]
    refine hs.2.mono ?_
    rintro e w' ⟨u,rfl,hu⟩
    exact hu
  ·rename_i q' r B
   split at hp
   ·rename_i hc
    simp only[Uo]at hc
    obtain⟨⟨⟨Zg,hr⟩,hfe1⟩,hfh⟩:=hc
    have X1:=aU.evals h args
    refine j4 ?_
    generalize XR:a.eval f=uf at Ya
    cases Ya with
    | fn _ _ _ us vs h1 h2 h3 h4 =>
     have WH:(execOp a.eval o).run C.P w=.ok (.enter g (us++args.map a.eval++vs)) w:=by
      simp[execOp,ho,resolve,XR,Deferred.ofValue,invoke,ct Zg]
     rw[WH,V8]
     have hall:aU S μ w (first++args.toList.map (fF st.env)++cap) (us++args.map a.eval++vs):=(aU.app (aU.app ⟨h1,h2⟩ X1) ⟨h3,h4⟩)
     have hq:zu C.P g st.heap (first++args.toList.map (fF st.env)++cap) q' r B:=eT hp D'
     refine(h.callOwn hq hall hr hfe1 hfh (K:=fun u w'=>K (a.put o.dst u) w') ?_).mono ?_
     ·intro S' μ' u w' hR hd
      exact hK _ _ _ _ (hR.ePut hp D' hd).2
     ·rintro e w' ⟨u,rfl,hu⟩
      exact hu
   ·exact aA hp D'
  ·rename_i q' r B
   split at hp
   ·rename_i hc
    simp only[Uo]at hc
    obtain⟨⟨⟨Zg,hr,hBA,Xu⟩,hfe1⟩,hfh⟩:=hc
    have X1:=aU.evals h args
    refine j4 ?_
    generalize XR:a.eval f=uf at Ya
    cases Ya with
    | fn _ _ _ us vs h1 h2 h3 h4 =>
     have WH:(execOp a.eval o).run C.P w=.ok (.enter g (us++args.map a.eval++vs)) w:=by
      simp[execOp,ho,resolve,XR,Deferred.ofValue,invoke,ct Zg]
     rw[WH,V8]
     have hall:aU S μ w (first++args.toList.map (fF st.env)++cap) (us++args.map a.eval++vs):=(aU.app (aU.app ⟨h1,h2⟩ X1) ⟨h3,h4⟩)
     have hq:vp C.P g st.heap (first++args.toList.map (fF st.env)++cap) q' r B:=eT hp D'
     refine(h.callDeep hq hall hr hBA Xu hfe1 hfh (K:=fun u w'=>K (a.put o.dst u) w') ?_).mono ?_
     ·intro S' μ' u w' hR hd
      exact hK _ _ _ _ (hR.ePut hp D' hd).2
     ·rintro e w' ⟨u,rfl,hu⟩
      exact hu
   ·exact aA hp D'
  ·exact aA hp D'
 ·rename_i id hf
  split at hp
  ·exact zA h ho hf hp D' hK
  ·exact aA hp D'
 ·exact aA hp D'
theorem nJ (k:Int):∀(arr:List MapEntry) (es:List (Int×Value)) (n j:Nat) (e:Int×Value),arr.map (fun e=>(e.key,e.val))=es.map (fun e=>(Value.int .i64 e.1,e.2))→es[j]?=some e→k=e.1→(∀e'∈es.take j,k≠e'.1) →
  Instr.findNow (.int .i64) (.int .i64 k) arr n=some (some (n+j,e.2))
 | [],es,n,j,e,h,he,_,_=>by
  have:es=[]:=by simpa using h.symm
  rw[this]at he;simp at he
 | a::arr,[],n,j,e,h,he,_,_=>by simp at he
 | a::arr,x::es,n,0,e,h,he,hk,_=>by
  simp only[Vn,Vm,Ux]at h
  simp at he
  subst he
  unfold Instr.findNow
  rw[h.1.1,h.1.2]
  simp[Instr.sameNow,hk]
 | a::arr,x::es,n,j+1,e,h,he,hk,ha=>by
  simp only[Vn,Vm,Ux]at h
  have Xt:k≠x.1:=ha x (by simp)
  unfold Instr.findNow
  rw[h.1.1]
  have:(k==x.1)=false:=beq_eq_false_iff_ne.2 Xt
  simp only[Instr.sameNow,this,V5]
  rw[nJ k arr es (n+1) j e h.2 (by simpa using he) hk (fun e' Y0=>ha e' (by simp[Y0])),show n+1+j=n+(j+1)from by omega]
theorem rQ (k:Int):∀(arr:List MapEntry) (es:List (Int×Value)) (n:Nat),arr.map (fun e=>(e.key,e.val))=es.map (fun e=>(Value.int .i64 e.1,e.2))→(∀e'∈es,k≠e'.1)→Instr.findNow (.int .i64) (.int .i64 k) arr n=some none
 | [],es,n,h,_=>by simp[Instr.findNow]
 | a::arr,[],n,h,_=>by simp at h
 | a::arr,x::es,n,h,ha=>by
  simp only[Vn,Vm,Ux]at h
  have Xt:k≠x.1:=ha x (by simp)
  unfold Instr.findNow
  rw[h.1.1]
  have:(k==x.1)=false:=beq_eq_false_iff_ne.2 Xt
  simp only[Instr.sameNow,this,V5]
  exact rQ k arr es (n+1) h.2 (fun e' Y0=>ha e' (by simp[Y0]))
theorem qO {P:Program} {w:World} {t K E:TypeId} {b clock:Nat} {arr:Array MapEntry} {n:Int} (ht:P.underlying t=some (.map K E)) (hK:P.underlying K=some (.int .i64)) (hb:w.heap[b]?=some (.map arr clock)) {r:Option (Nat×Value)} (hf:Instr.findNow (.int .i64) (.int .i64 n) arr.toList 0=some r) {z:Value} (hz:r=none→(zeroValue E).run P w=.ok z w) :
  (Instr.lookup t (.map (some b)) (.int .i64 n) true).run P w=.ok (.tuple #[match r with | some (_,v)=>v | none=>z,.bool r.isSome]) w:=by
 have hu:(underlying t).run P w=.ok (.map K E) w:=by simp[underlying,ht,Uv,Sem.run]
 have Yq:(underlying K).run P w=.ok (.int .i64) w:=by simp[underlying,hK,Uv,Sem.run]
 have hg:(getObj b).run P w=.ok (.map arr clock) w:=by simp[getObj,Sem.run,hb]
 have hc:(Instr.checkKey arr.isEmpty 10000 K (.int .i64 n)).run P w=.ok () w:=by
  rw[show(10000:Nat)=9999+1 from rfl]
  unfold Instr.checkKey
  simp[Uv,Yq]
 have hk:(Instr.findKey K (.int .i64 n) arr.toList).run P w=.ok r w:=by
  simp[Instr.findKey,Uv,Yq,hf]
 cases r with
 | some q =>
  obtain⟨i,v⟩:=q
  simp[Instr.lookup,Uv,hu,hg,hc,hk]
 | none =>
  simp[Instr.lookup,Uv,hu,hg,hc,hk,hz rfl]
theorem qi {P:Program} {w:World} {t K E:TypeId} {b clock:Nat} {arr:Array MapEntry} {k:ByteArray} {v:Value} (ht:P.underlying t=some (.map K E)) (hK:P.underlying K=some .string) (hb:w.heap[b]?=some (.map arr clock)) {r:Option (Nat×Value)} (hf:Instr.findNow .string (.string k) arr.toList 0=some r)
  (hr:∀i u,r=some (i,u)→∃e,arr[i]?=some e∧e.key=.string k) :
  (Instr.mapUpdate t (.map (some b)) (.string k) v).run P w=.ok () (w.putObj b (match r with | some (i,_)=>.map (arr.modify i fun e=>{ e with key:=.string k,val:=v }) clock | none=>.map (arr.push ⟨.string k,v,clock⟩) (clock+1))):=by
 have hu:(underlying t).run P w=.ok (.map K E) w:=by simp[underlying,ht,Uv,Sem.run]
 have Yq:(underlying K).run P w=.ok .string w:=by simp[underlying,hK,Uv,Sem.run]
 have hg:(getObj b).run P w=.ok (.map arr clock) w:=by simp[getObj,Sem.run,hb]
 have hc:(Instr.checkKey false 10000 K (.string k)).run P w=.ok () w:=by
  rw[show(10000:Nat)=9999+1 from rfl]
  unfold Instr.checkKey
  simp[Uv,Yq]
 have hk:(Instr.findKey K (.string k) arr.toList).run P w=.ok r w:=by
  simp[Instr.findKey,Uv,Yq,hf]
 have hs:∀o:Obj,(setObj b o).run P w=.ok () (w.putObj b o):=by
  intro o
  unfold setObj Sem.run
  rw[hb]
  rfl
 cases r with
 | some q =>
  obtain⟨i,u⟩:=q
  obtain⟨e,he,hek⟩:=hr i u rfl
  have Za:(Instr.keyThatStays (((arr[i]?).map (·.key)).getD (.string k)) (.string k)).run P w=.ok (.string k) w:=by
   rw[he]
   simp only[U4,Wk,hek]
   unfold Instr.keyThatStays
   rw[Uw (by show(k==k)=true;rw[TD];exact Uz rfl)]
   rfl
  simp only[Instr.mapUpdate,Uv,hu,hg,hc,hk,Uu,Za,hs]
 | none =>
  simp only[Instr.mapUpdate,Uv,hu,hg,hc,hk,Uu,hs]
theorem Dh {ag:Bool} {x:D} {vs:List V} {u:Value} (h:Df ag x=some vs) (hx:aq S μ w x u):(ag=false→vs.length=1)∧aq S μ w (gE ag vs) u:=by
 unfold Df at h
 cases ag
 ·simp only[Vi,V2]at h
  cases hv:PD x with
  | none=>rw[hv]at h;cases h
  | some v =>
   rw[hv]at h
   cases h
   exact⟨fun _=>rfl,.v _ _ (vq hv hx)⟩
 ·simp only[V5]at h
  split at h
  ·rename_i ds
   obtain⟨us,rfl,h1,h2⟩:=eO hx
   obtain⟨q1,q2⟩:=nC h
   refine⟨(fun h=>by cases h),?_⟩
   show aq S μ w (.agg (vs.map D.v)) _
   refine .agg _ _ (by rw[UB,← q1];exact h1) (fun j y u hy hu=>?_)
   obtain⟨v,hv,rfl⟩:=eS hy
   obtain⟨d,hd,hdv⟩:=q2 j v hv
   exact .v _ _ (vq hdv (h2 j d u hd hu))
  ·cases h
theorem xp (h:bk C S μ st a w) {ov:Ov} {t:TypeId} {m k x:D} {um uk ux:Value} (hm:aq S μ w m um) (hk:aq S μ w k uk) (hx:aq S μ w x ux) (hp:zx C.P st ov t m k x=(P',p)) (D':p) :
  ∃w',(Instr.mapUpdate t um uk ux).run C.P w=.ok () w'∧bk C S μ P' a w':=by
 unfold zx at hp
 split at hp
 ·rename_i K E id ks hu
  split at hp
  ·rename_i t' ag α enc d l t2 ag2 β X4 d2 l2 hK I'
   split at hp
   ·rename_i vs Yn
    split at hp
    ·rename_i hc
     simp only[Uo,UH,beq_iff_eq]at hc
     obtain⟨⟨rfl,rfl⟩,rfl⟩:=hc
     simp only[Ux]at hp
     obtain⟨rfl,rfl⟩:=hp
     have e1:=cj hm
     have e2:=ga hk
     subst e1 e2
     obtain⟨b,arr,clock,hmu,hb,ZN⟩:=h.heap.box id _ I'
     obtain⟨m1,m2⟩:=xI ZN
     obtain⟨x1,x2⟩:=Dh Yn hx
     have Zo:aO (μ id)=some b:=by rw[hmu];rfl
     have WB:cx (μ id) b:=.inl Zo
     have WG:id<st.heap.length:=(Up.1 I').1
     have key:∀(o:Obj) (ZR:Array MapEntry) (YK:Nat),o=.map ZR YK→(ZR.size=(eP (l.map fun p=>(p.1,enc p.2)) ks vs).length) →
       (∀(i:Nat) (k':ByteArray) (y:List V),(eP (l.map fun p=>(p.1,enc p.2)) ks vs)[i]?=some (k',y)→∃e,ZR[i]?=some e∧e.key=.string k'∧(ag=false→y.length=1)∧aq S μ w (gE ag y) e.val) →
       bk C S μ ⟨st.env,st.heap.set id (.mpb t ag X4 d2 l2)⟩ a (w.putObj b o):=by
      intro o ZR YK ho hl hh
      subst ho
      have Zb:∀k,S k→k<w.heap.size→(w.putObj b (.map ZR YK)).heap[k]?=w.heap[k]?:=fun k hk _=>VQ (fun e=>h.heap.notS id _ b I' rfl WB (e ▸ hk))
      have hu:=h.upd (id:=id) (u:=μ id) (B:=.mpb t ag X4 d2 l2) (row:=some b) (w':=w.putObj b (.map ZR YK)) ⟨rfl,rfl,rfl,by rw[Wg];exact Ut _,fun k hk hkb=>VQ (fun e=>hkb (by rw[e]))⟩
       (fun k hk=>⟨_,I',rfl,by cases hk;exact WB⟩) (by omega) ?_ (fun k hk=>.inl (hk.one Zo)) (.inl ⟨rfl,.inl rfl⟩)
      ·rw[fV]at hu
       have he:cA st.heap id (.mpb t ag X4 d2 l2)=st.heap.set id (.mpb t ag X4 d2 l2):=by
        unfold cA
        rw[Ur (by rw[UH];omega)]
       rwa [he]at hu
      ·rw[fV]
       refine⟨b,ZR,YK,hmu,World.putObj_heap_same (UC.1 hb).1,by rw[hl,D',UB],fun i k' y hy=>?_⟩
       have hy2:(eP (l.map fun p=>(p.1,enc p.2)) ks vs)[i]?=some (k',X4 y):=by rw[D',UJ,hy,U4]
       obtain⟨e,q1,q2,q3,q4⟩:=hh i k' _ hy2
       exact⟨e,q1,q2,q3,q4.stable (fun _ h _=>h) Zb (by rw[Wg];exact Ut _) (fun id hf=>by rw[xC]at hf)⟩
     have m3:∀(i:Nat) (k':ByteArray) (y:List V),(l.map fun p=>(p.1,enc p.2))[i]?=some (k',y)→∃e,arr.toList[i]?=some e∧e.key=.string k'∧((ag=false→y.length=1)∧aq S μ w (gE ag y) e.val):=by
      intro i k' y hy
      rw[UJ]at hy
      cases hc:l[i]? with
      | none=>rw[hc]at hy;cases hy
      | some q =>
       rw[hc]at hy
       cases hy
       exact m2 i q.1 q.2 hc
     rw[hmu]
     rcases Ib (R:=fun y v=>(ag=false→y.length=1)∧aq S μ w (gE ag y) v) [] ks (l.map fun p=>(p.1,enc p.2)) arr.toList 0 (by rw[m1,UB]) m3 with ⟨h1,h0,h2,h3⟩ | ⟨h1,i,e,y,h2,h3,h4,h5,h6,h7,h8⟩
     ·refine⟨_,qi hu hK hb h2 (fun i u hh=>by cases hh),key _ _ _ rfl ?_ ?_⟩
      ·rw[h3,Array.size_push,UK,UB]
       simpa using m1
      ·intro i k' y hy
       rw[h3]at hy
       by_cases hi:i<l.length
       ·rw[UD (by rw[UB];exact hi)]at hy
        obtain⟨e,q1,q2,q3⟩:=m3 i k' y hy
        refine⟨e,?_,q2,q3⟩
        rw[Array.getElem?_push,Ur (by have h99:arr.size=l.length:=(by simpa using m1);omega)]
        simpa using q1
       ·rw[UE (by rw[UB];omega)]at hy
        have hi0:i-(l.map fun p=>(p.1,enc p.2)).length=0:=by
         rcases Nat.eq_zero_or_pos (i-(l.map fun p=>(p.1,enc p.2)).length)with h | h
         ·exact h
         ·rw[U1 (by simp;rw[UB]at h;omega)]at hy;cases hy
        rw[hi0]at hy
        cases hy
        have W8:i=arr.size:=by rw[UB]at hi0;have h98:arr.size=l.length:=(by simpa using m1);omega
        exact⟨_,by rw[Array.getElem?_push,Uw W8],rfl,x1,x2⟩
     ·have hia:i<arr.size:=by have:=(Up.1 h3).1;simpa using this
      refine⟨_,qi hu hK hb h6 (fun i' u hh=>by cases hh;exact⟨e,by simpa using h3,h4⟩),key _ _ _ rfl ?_ ?_⟩
      ·rw[h8,UQ,UB]
       simpa using m1
      ·intro j k' y' hy
       rw[h8,Wf]at hy
       rw[U5,Array.getElem?_modify]
       by_cases hij:i=j
       ·subst hij
        rw[Uw rfl,Uw (Up.1 h2).1]at hy
        cases hy
        rw[Uw rfl,show arr[i]?=some e by simpa using h3]
        exact⟨_,rfl,rfl,x1,x2⟩
       ·rw[Ur hij]at hy
        rw[Ur hij]
        obtain⟨e',q1,q2,q3⟩:=m3 j k' y' hy
        exact⟨e',by simpa using q1,q2,q3⟩
    ·exact aA hp D'
   ·exact aA hp D'
  ·exact aA hp D'
 ·exact aA hp D'
theorem uC (h:bk C S μ st a w) {ov:Ov} {o:Oper} (hp:rN C.P C.nt ov o st=(P',p)) (D':p) {K:Act→World→Prop} {Q:Exit→Act→World→Prop}
  (hK:∀S' μ' a' w',bk C S' μ' P' a' w'→K a' w'):o.uponIn (qE C.rd) 0 C.P a K Q ((execOp a.eval o).run C.P w):=by
 have hv:∀(s:Sem Value) (u:Value) (w':World),s.run C.P w=.ok u w'→(do pure (.value (← s)):Sem Next).run C.P w=.ok (.value u) w':=by
  intro s u w' h
  simp only[Uv,h,Uu,UL]
 have val:∀(u:Value) (w':World) (μ':Nat→Value),(execOp a.eval o).run C.P w=.ok (.value u) w'→bk C S μ' P' (a.put o.dst u) w'→o.uponIn (qE C.rd) 0 C.P a K Q ((execOp a.eval o).run C.P w):=by
  intro u w' μ' hr hR
  rw[hr,Oper.uponIn_value]
  exact hK _ _ _ _ hR
 have hpure:wa C.nt st ov o.dst (gI C.P st.heap (fF st.env) o.op)=(P',p)→o.uponIn (qE C.rd) 0 C.P a K Q ((execOp a.eval o).run C.P w):=by
  intro hp
  generalize hq:gI C.P st.heap (fF st.env) o.op=q at hp
  obtain⟨d,q⟩:=q
  unfold wa at hp
  split at hp
  ·rename_i d' _
   have hqq:q∧xh d d':=by
    unfold ePut at hp
    split at hp
    ·split at hp
     ·simp only[Ux]at hp;rw[← hp.2]at D';exact D'
     ·exact aA hp D'
    ·simp only[Ux]at hp;rw[← hp.2]at D';exact D'
   obtain⟨u,h1,h2⟩:=i1 h.heap h.eval hq hqq.1
   exact val u w μ h1 (h.ePut hp D' (rH hqq.2 h2)).2
  ·rename_i d' _
   have hqq:q∧dC d d':=by
    unfold ePut at hp
    split at hp
    ·split at hp
     ·simp only[Ux]at hp;rw[← hp.2]at D';exact D'
     ·exact aA hp D'
    ·simp only[Ux]at hp;rw[← hp.2]at D';exact D'
   obtain⟨u,h1,h2⟩:=i1 h.heap h.eval hq hqq.1
   exact val u w μ h1 (h.ePut hp D' (hqq.2 _ _ _ _ h2)).2
  ·have hqq:q:=by
    unfold ePut at hp
    split at hp
    ·split at hp
     ·simp only[Ux]at hp;rw[← hp.2]at D';exact D'
     ·exact aA hp D'
    ·simp only[Ux]at hp;rw[← hp.2]at D';exact D'
   obtain⟨u,h1,h2⟩:=i1 h.heap h.eval hq hqq
   exact val u w μ h1 (h.ePut hp D' h2).2
 unfold rN at hp
 split at hp
 ·rename_i T ho
  split at hp
  ·rename_i z hz
   obtain⟨v,YA,Zc⟩:=io (P:=C.P) (S:=S) (μ:=μ) (w:=w) hz
   refine val _ _ _ ?_ (h.eVar hp D' Zc)
   simp[execOp,ho,Instr.alloc,Uv,YA,newVar,newRow,newObj,Sem.run]
  ·exact aA hp D'
 ·rename_i T x ho
  split at hp
  ·rename_i cs hcs
   refine val _ _ _ ?_ (h.eVar hp D' (iZ h.heap (h.eval x) hcs))
   simp[execOp,ho,Instr.box,newVar,newRow,newObj,Sem.run]
  ·exact aA hp D'
 ·rename_i t ad x ho
  split at hp
  ·rename_i hd
   obtain⟨w',h1,h2⟩:=rO h (h.eval ad) (h.eval x) hp D'
   have hr:(execOp a.eval o).run C.P w=.ok .skip w':=by
    simp only[execOp,ho,Uv,h1,Uu,UL]
   rw[hr,Oper.uponIn_skip,hd]
   exact hK _ _ _ _ h2
  ·exact aA hp D'
 ·rename_i t len M' ho
  have YE:∀(ov:Ov) (Xl:St) (p1:Prop),ts C.P C.nt st ov o.dst t len (M'.toList.map fun p=>(p.1,fF st.env p.2))=(Xl,p1)→p1→∃u w' μ',(execOp a.eval o).run C.P w=.ok (.value u) w'∧bk C S μ' Xl (a.put o.dst u) w':=by
   intro ov Xl p1 hp D'
   obtain⟨u,w',μ',h1,h2⟩:=zz h (Wz:=M'.toList.map fun p=>(p.1,a.eval p.2)) (by simp) (fun j x u hx hu=>by
    simp only[UJ,UY]at hx hu
    cases hj:M'[j]? with
    | none=>rw[hj]at hx;cases hx
    | some q=>rw[hj]at hx hu;simp at hx hu;subst hx hu;exact h.eval q.2) hp D'
   refine⟨u,w',μ',?_,h2⟩
   have he:M'.map (fun (i,x)=>(i,a.eval x))=(M'.toList.map fun p=>(p.1,a.eval p.2)).toArray:=V7 (by simp)
   rw[← he]at h1
   simp only[execOp,ho,Uv,h1,Uu,UL]
  split at hp
  ·generalize hq:ts C.P C.nt st _ o.dst t len _=q at hp
   obtain⟨Xl,p1⟩:=q
   simp only at hp
   split at hp
   ·rename_i Z3 hfz
    simp only[Ux]at hp
    obtain⟨rfl,rfl⟩:=hp
    obtain⟨u,w',μ',e1,e2⟩:=YE _ _ _ hq D'
    obtain⟨S2,e3⟩:=e2.freeze hfz
    rw[e1,Oper.uponIn_value]
    exact hK _ _ _ _ e3
   ·exact aA hp D'
  ·obtain⟨u,w',μ',e1,e2⟩:=YE _ _ _ hp D'
   exact val u w' μ' e1 e2
 ·rename_i t l c ho
  have YE:∀(ov:Ov) (Xl:St) (p1:Prop),xR C.P C.nt st ov o.dst t (fF st.env l) (fF st.env c)=(Xl,p1)→p1→∃u w' μ',(execOp a.eval o).run C.P w=.ok (.value u) w'∧bk C S μ' Xl (a.put o.dst u) w':=by
   intro ov Xl p1 hp D'
   obtain⟨u,w',μ',h1,h2⟩:=Be h (h.eval l) (h.eval c) hp D'
   refine⟨u,w',μ',?_,h2⟩
   simp only[execOp,ho,Uv,h1,Uu,UL]
  split at hp
  ·generalize hq:xR C.P C.nt st _ o.dst t _ _=q at hp
   obtain⟨Xl,p1⟩:=q
   simp only at hp
   split at hp
   ·rename_i Z3 hfz
    simp only[Ux]at hp
    obtain⟨rfl,rfl⟩:=hp
    obtain⟨u,w',μ',e1,e2⟩:=YE _ _ _ hq D'
    obtain⟨S2,e3⟩:=e2.freeze hfz
    rw[e1,Oper.uponIn_value]
    exact hK _ _ _ _ e3
   ·exact aA hp D'
  ·obtain⟨u,w',μ',e1,e2⟩:=YE _ _ _ hp D'
   exact val u w' μ' e1 e2
 ·rename_i args Zw ho
  split at hp
  ·rename_i s x t t' ha ht
   split at hp
   ·rename_i hc
    rw[UH]at hc
    subst hc
    have ea:args=#[s,x]:=V7 (by simpa using ha)
    have et:Zw=#[t,t]:=V7 (by simpa using ht)
    subst ea et
    split at hp
    ·obtain⟨u,w',S',μ',h1,h2⟩:=we h (ty:=o.type) (h.eval s) (h.eval x) hp D'
     have hr:(execOp a.eval o).run C.P w=.ok (.value u) w':=by
      simp only[execOp,ho,resolve,invoke,builtin,VX,Vn,VL,Uv,UL,Uu,h1]
     rw[hr,Oper.uponIn_value]
     exact hK _ _ _ _ h2
    ·obtain⟨u,w',μ',h1,h2⟩:=wc h (ty:=o.type) (h.eval s) (h.eval x) hp D'
     refine val u w' μ' ?_ h2
     simp only[execOp,ho,resolve,invoke,builtin,VX,Vn,VL,Uv,UL,Uu,h1]
    ·obtain⟨u,w',μ',h1,h2⟩:=xo h (ty:=o.type) (h.eval s) (h.eval x) hp D'
     refine val u w' μ' ?_ h2
     simp only[execOp,ho,resolve,invoke,builtin,VX,Vn,VL,Uv,UL,Uu,h1]
   ·exact aA hp D'
  ·exact aA hp D'
 ·rename_i f args Zw ho
  exact Bf h ho hp D' hK
 ·rename_i t x ix ho
  split at hp
  ·rename_i i
   unfold ET at hp
   generalize hx:fF st.env x=dx at hp
   generalize hix:fF st.env ix=dix at hp
   split at hp
   ·rename_i K E es k n hu
    split at hp
    ·rename_i hK2
     have hxr:=h.eval x
     have hir:=h.eval ix
     rw[hx]at hxr
     rw[hix]at hir
     have hiv:a.eval ix=.int .i64 n:=(show ∀u,eh S w (.int .i64 n) u→u=.int .i64 n from fun u h=>by cases h;rfl) _ (bL hir)
     obtain⟨b,clock,arr,e1,e2,e3⟩:∃(b clock:Nat) (arr:Array MapEntry),a.eval x=.map (some b)∧w.heap[b]?=some (.map arr clock)∧arr.toList.map (fun e=>(e.key,e.val))=es.map (fun e=>(Value.int .i64 e.1,e.2)):=by
      have:=bL hxr
      generalize a.eval x=u at this
      cases this with
      | mp _ b clock arr q1 q2 q3 q4=>exact⟨b,clock,arr,rfl,q3,q4⟩
     split at hp
     ·rename_i j
      split at hp
      ·rename_i e he
       have hq:=eT hp D'
       have hr:=qO hu hK2 e2 (nJ n arr.toList es 0 j e e3 he hq.1 hq.2) (z:=undef) (fun h=>by cases h)
       refine val (.tuple #[e.2,.bool true]) w μ ?_ (h.ePut hp D' (.tup _ _ rfl (fun i y u hy hu=>?_))).2
       ·simp only[execOp,ho,e1,hiv,Uv,hr,Uu,UL,Option.isSome_some]
       ·match i with
        | 0=>simp at hy hu;subst hy hu;exact aq.ofVal _ _ _ _
        | 1=>simp at hy hu;subst hy hu;exact .v _ _ (.bool _)
        | i+2=>simp at hy
      ·exact aA hp D'
     ·split at hp
      ·rename_i z hz
       have hq:=eT hp D'
       have hzr:(zeroValue E).run C.P w=.ok z w:=by
        cases hi:C.P.info? E with
        | none=>simp[hi]at hz
        | some i0 =>
         simp only[hi,VZ]at hz
         simp[zeroValue,typeInfo,hi,hz,Uv]
       have hr:=qO hu hK2 e2 (rQ n arr.toList es 0 e3 hq) (z:=z) (fun _=>hzr)
       refine val (.tuple #[z,.bool false]) w μ ?_ (h.ePut hp D' (.tup _ _ rfl (fun i y u hy hu=>?_))).2
       ·simp only[execOp,ho,e1,hiv,Uv,hr,Uu,UL,Option.isSome_none]
       ·match i with
        | 0=>simp at hy hu;subst hy hu;exact aq.ofVal _ _ _ _
        | 1=>simp at hy hu;subst hy hu;exact .v _ _ (.bool _)
        | i+2=>simp at hy
      ·exact aA hp D'
    ·exact aA hp D'
   ·exact aA hp D'
  ·rename_i d
   unfold PS at hp
   generalize hx:fF st.env x=dx at hp
   generalize hix:fF st.env ix=dix at hp
   split at hp
   ·rename_i K E es k n hu
    split at hp
    ·rename_i hK2
     have hxr:=h.eval x
     have hir:=h.eval ix
     rw[hx]at hxr
     rw[hix]at hir
     have hiv:a.eval ix=.int .i64 n:=(show ∀u,eh S w (.int .i64 n) u→u=.int .i64 n from fun u h=>by cases h;rfl) _ (bL hir)
     obtain⟨b,clock,arr,e1,e2,e3⟩:∃(b clock:Nat) (arr:Array MapEntry),a.eval x=.map (some b)∧w.heap[b]?=some (.map arr clock)∧arr.toList.map (fun e=>(e.key,e.val))=es.map (fun e=>(Value.int .i64 e.1,e.2)):=by
      have:=bL hxr
      generalize a.eval x=u at this
      cases this with
      | mp _ b clock arr q1 q2 q3 q4=>exact⟨b,clock,arr,rfl,q3,q4⟩
     obtain⟨j,e,he,Yv,Yi,hq3⟩:=eT hp D'
     have hr:=qO hu hK2 e2 (nJ n arr.toList es 0 j e e3 he Yv Yi) (z:=undef) (fun h=>by cases h)
     refine val (.tuple #[e.2,.bool true]) w μ ?_ (h.ePut hp D' (.tup _ _ rfl (fun i y u hy hu=>?_))).2
     ·simp only[execOp,ho,e1,hiv,Uv,hr,Uu,UL,Option.isSome_some]
     ·match i with
      | 0=>simp at hy hu;subst hy hu;exact rH hq3 (aq.ofVal _ _ _ _)
      | 1=>simp at hy hu;subst hy hu;exact .v _ _ (.bool _)
      | i+2=>simp at hy
    ·exact aA hp D'
   ·exact aA hp D'
  ·exact hpure hp
 ·rename_i t ho
  split at hp
  ·rename_i t' ag α enc d l
   split at hp
   ·obtain⟨_,hR⟩:=h.newBox (u:=.map (some w.heap.size)) (w':=w.alloc (.map #[] 0)) hp D' (VE w _ none) ⟨w.heap.size,#[],0,rfl,Vx w _,rfl,fun i k x hx=>by simp at hx⟩ (fun b hb=>by simp[cx,aO]at hb;omega) (v:=.map (some w.heap.size)) (by
     have:=aq.own (S:=S) (μ:=br μ st.heap.length (.map (some w.heap.size))) (w:=w.alloc (.map #[] 0)) st.heap.length
     rwa [aG]at this)
    refine val _ _ _ ?_ hR
    simp[execOp,ho,Instr.makeMap,newObj,Sem.run]
   ·exact aA hp D'
  ·exact aA hp D'
 ·rename_i t m k x ho
  split at hp
  ·rename_i hd
   obtain⟨w',h1,h2⟩:=xp h (h.eval m) (h.eval k) (h.eval x) hp D'
   have hr:(execOp a.eval o).run C.P w=.ok .skip w':=by
    simp only[execOp,ho,Uv,h1,Uu,UL]
   rw[hr,Oper.uponIn_skip,hd]
   exact hK _ _ _ _ h2
  ·exact aA hp D'
 ·exact hpure hp
theorem dH (h:bk C S μ st a w) {ops:List Oper} {o:Oper} {b:Bool} (hg:gS ops st o=some b):Region.wanted o (yielded ops.toArray a.tmps)=b:=by
 unfold gS at hg
 unfold Region.wanted
 cases hgd:o.guard with
 | none=>rw[hgd]at hg;cases hg;rfl
 | some q =>
  obtain⟨g,XA⟩:=q
  rw[hgd]at hg
  simp only at hg ⊢
  split at hg
  ·rename_i t ht
   have hv:=h.eval (.tmp t)
   have hy:yielded ops.toArray a.tmps g=match a.tmps[t]? with | some (.bool b)=>some b | _=>none:=by
    unfold yielded
    simp only[List.getElem?_toArray,ht,VZ]
    rfl
   rw[hy]
   simp only[fF]at hv
   split at hg
   ·rename_i c hl
    rw[hl]at hv
    have:=f9 hv
    simp only[Act.eval,Vb]at this
    cases hq:a.tmps[t]? with
    | none=>rw[hq]at this;simp[undef]at this
    | some u =>
     rw[hq]at this
     simp at this
     subst this
     cases hg
     cases c<;>cases XA<;>rfl
   ·rename_i hl
    rw[hl]at hv
    obtain⟨us,hu,h1,_⟩:=vf hv
    simp only[Act.eval,Vb]at hu
    cases hg
    cases hq:a.tmps[t]? with
    | none=>cases XA<;>rfl
    | some u =>
     rw[hq]at hu
     simp at hu
     subst hu
     cases XA<;>rfl
   ·cases hg
  ·cases hg
theorem Bg {P:Program} {nt:Nat} {ov:Ov} {o:Oper} (hd:eN o=true) (hp:rN P nt ov o st=(P',p)) (D':p):False:=by
 unfold eN at hd
 split at hd
 ·rename_i c ho
  unfold rN at hp
  rw[ho]at hp
  simp only[gI]at hp
  unfold wa at hp
  split at hp
  ·exact(eT hp D').1
  ·exact(eT hp D').1
  ·exact eT hp D'
 ·cases hd
theorem rR {ops:List Oper} {WS:List (Nat×Ov)} {Q:Exit→Act→World→Prop}:∀(l:List Oper) (i:Nat) (st:St) (S:Nat→Prop) (μ:Nat→Value) (a:Act) (w:World) (p:Prop),bk C S μ st a w→fv C.P C.nt ops WS i l st=(P',p)→p →
  (∀S' μ' a' w',bk C S' μ' P' a' w'→Q .normal a' w')→wpListIn (qE C.rd) 0 C.P ops.toArray Q l a w:=by
 intro l
 induction l with
 | nil =>
  intro i st S μ a w p h hp D' hK
  simp only[fv,Ux]at hp
  obtain⟨rfl,_⟩:=hp
  exact hK _ _ _ _ h
 | cons o r ih =>
  intro i st S μ a w p h hp D' hK
  unfold fv at hp
  unfold wpListIn
  split at hp
  ·rename_i hg
   rw[Uw (dH h hg)]
   generalize hq:rN C.P C.nt (qN WS i) o st=q at hp
   obtain⟨Xl,p1⟩:=q
   simp only at hp
   generalize Yi:fv C.P C.nt ops WS (i+1) r Xl=q2 at hp
   obtain⟨Z3,p2⟩:=q2
   simp only[Ux]at hp
   obtain⟨rfl,rfl⟩:=hp
   have hnd:eN o=false:=by
    cases hd:eN o
    ·rfl
    ·exact(Bg hd hq D'.1).elim
   refine y8 hnd (uC h hq D'.1 (fun S' μ' a' w' hR=>?_))
   exact ih (i+1) Xl S' μ' a' w' p2 hR Yi D'.2 hK
  ·rename_i hg
   rw[Ur (by rw[dH h hg];simp)]
   refine⟨fun f _=>te _ f,?_⟩
   generalize hq:tv C.nt st o.dst=q at hp
   obtain⟨Xl,p1⟩:=q
   simp only at hp
   generalize Yi:fv C.P C.nt ops WS (i+1) r Xl=q2 at hp
   obtain⟨Z3,p2⟩:=q2
   simp only[Ux]at hp
   obtain⟨rfl,rfl⟩:=hp
   exact ih (i+1) Xl _ _ _ _ p2 (h.ePut hq D'.1 (.tup [] #[] rfl (fun j y u hy _=>by simp at hy))).2 Yi D'.2 hK
  ·exact aA hp D'
end
@[reducible] def thenQ (next:St→Prop) (Q:Exit→St→Prop):Exit→St→Prop
 | .normal,st=>next st
 | e,st=>Q e st
@[reducible] def blockQ (id:Nat) (Q:Exit→St→Prop):Exit→St→Prop
 | .exit i,st=>if Nat.beq i id then Q .normal st else Q (.exit i) st
 | e,st=>Q e st
section
variable {C:ns} {st:St} {Q:Exit→St→Prop}
theorem Ev.mono {c:Code} {Q':Exit→St→Prop} (h:Ev C c Q st) (hq:∀e P',Q e P'→Q' e P'):Ev C c Q' st :=
 fun a w S μ hR=>wpIn_mono (h a w S μ hR) fun e a' w' ⟨P',S',μ',q,r⟩=>⟨P',S',μ',hq e P' q,r⟩
theorem Ev.skip (h:Q .normal st):Ev C .skip Q st:=fun a w S μ hR=>wpIn_skip ⟨st,S,μ,h,hR⟩
theorem Ev.label {l:Nat} (h:Q .normal st):Ev C (.label l) Q st:=fun a w S μ hR=>wpIn_label ⟨st,S,μ,h,hR⟩
theorem Ev.exit {id:Nat} (h:Q (.exit id) st):Ev C (.exit id) Q st:=fun a w S μ hR=>wpIn_exit ⟨st,S,μ,h,hR⟩
theorem Ev.ret (h:Q .ret st):Ev C .ret Q st:=fun a w S μ hR=>wpIn_ret ⟨st,S,μ,h,hR⟩
theorem Ev.seq {x y:Code} (h:Ev C x (thenQ (Ev C y Q) Q) st):Ev C (.seq x y) Q st:=fun a w S μ hR=>by
 refine wpIn_seq (wpIn_mono (h a w S μ hR) ?_)
 rintro e a' w' ⟨P',S',μ',hq,Xj⟩
 cases e with
 | normal=>exact hq a' w' S' μ' Xj
 | exit id=>exact⟨P',S',μ',hq,Xj⟩
 | goto l=>exact⟨P',S',μ',hq,Xj⟩
 | ret=>exact⟨P',S',μ',hq,Xj⟩
 | panic ch=>exact⟨P',S',μ',hq,Xj⟩
 | outgrown=>exact⟨P',S',μ',hq,Xj⟩
theorem Ev.cond {c:Operand} {x y:Code} (b:Bool) (hc:fF st.env c=.v (.bool b)) (hx:b=true→Ev C x Q st) (hy:b=false→Ev C y Q st):Ev C (.cond c x y) Q st:=fun a w S μ hR =>
 wpIn_cond_split (t:=b) (f9 (hc ▸ hR.eval c)) (fun h=>hx h a w S μ hR) (fun h=>hy h a w S μ hR)
theorem Ev.block {id:Nat} {c:Code} (h:Ev C c (blockQ id Q) st):Ev C (.block id c) Q st:=fun a w S μ hR=>by
 refine wpIn_block (wpIn_mono (h a w S μ hR) ?_)
 rintro e a' w' ⟨P',S',μ',hq,Xj⟩
 cases e with
 | exit i =>
  simp only[blockQ]at hq
  simp only[Exit.inBlock]
  by_cases hi:i=id
  ·rw[Uw hi]
   rw[Uw (by rw[UH];exact hi)]at hq
   exact⟨P',S',μ',hq,Xj⟩
  ·rw[Ur hi]
   rw[Ur (by rw[UH];exact hi)]at hq
   exact⟨P',S',μ',hq,Xj⟩
 | normal=>exact⟨P',S',μ',hq,Xj⟩
 | goto l=>exact⟨P',S',μ',hq,Xj⟩
 | ret=>exact⟨P',S',μ',hq,Xj⟩
 | panic ch=>exact⟨P',S',μ',hq,Xj⟩
 | outgrown=>exact⟨P',S',μ',hq,Xj⟩
theorem lS {R:Nat→Prop} (h:∃n,R n):∃n,R n∧∀m,R m→n≤m:=by
 obtain⟨n,hn⟩:=h
 induction n using Nat.strongRecOn with
 | _ n ih =>
  by_cases hm:∃m,m<n∧R m
  ·obtain⟨m,h1,h2⟩:=hm
   exact ih m h1 h2
  ·exact⟨n,hn,fun m hR=>by
    refine Vr fun WL=>hm ⟨m,by omega,hR⟩⟩
theorem bk.keep {S:Nat→Prop} {μ:Nat→Value} {a:Act} {w:World} (h:bk C S μ st a w) (keep:List Nat):bk C S μ ⟨rP keep st.env,st.heap⟩ a w :=
 h.weak (fun t d hm=>tx hm)
def keepS (keep:List Nat) (n:Nat) (st:St):St:=⟨rP keep st.env,st.heap.take n⟩
theorem bk.keepS {S:Nat→Prop} {μ:Nat→Value} {a:Act} {w:World} (h:bk C S μ st a w) (keep:List Nat) (n:Nat):bk C S μ (keepS keep n st) a w :=
 (h.keep keep).heapTo (fun i A hA=>.inr (by
  rw[UP]at hA
  split at hA
  ·exact hA
  ·cases hA))
theorem Ev.keep {c:Code} (keep:List Nat) (n:Nat) {P':St} (h:Proofs.YtnlmlkbaflmgcaaGreat.keepS keep n st=P') (he:Ev C c Q P'):Ev C c Q st:=fun a w S μ hR=>by
 subst h
 exact he a w S μ (hR.keepS keep n)
theorem Ev.loop {σ:Type _} (keep:List Nat) (n:Nat) (mk:σ→St) (inv:σ→Prop) (m:σ→Nat) {c:Code} (s0:σ) (h0:Proofs.YtnlmlkbaflmgcaaGreat.keepS keep n st=mk s0) (hi:inv s0)
  (round:∀s,inv s→Ev C c (thenQ (fun P'=>∃s',Proofs.YtnlmlkbaflmgcaaGreat.keepS keep n P'=mk s'∧inv s'∧m s'<m s) Q) (mk s)):Ev C (.loop c) Q st:=fun a w S μ hR=>by
 have hR0:=hR.keepS keep n
 rw[h0]at hR0
 let R:Act→World→Nat→Prop:=fun a w n=>∃(s:σ) (S:Nat→Prop) (μ:Nat→Value),inv s∧m s=n∧bk C S μ (mk s) a w
 let M:Act→World→Nat:=fun a w=>@dite _ (∃n,R a w n) (Classical.propDecidable _) (fun h=>Classical.choose (lS h)) (fun _=>0)
 have hM:∀a w,(∃n,R a w n)→R a w (M a w)∧∀n,R a w n→M a w≤n:=by
  intro a w h
  have:M a w=Classical.choose (lS h):=dif_pos h
  rw[this]
  exact Classical.choose_spec (lS h)
 refine wpIn_loop (fun a w=>∃n,R a w n) M ⟨m s0,s0,S,μ,hi,rfl,hR0⟩ ?_
 intro a w hI
 obtain⟨⟨s,S',μ',h1,h2,h3⟩,_⟩:=hM a w hI
 refine wpIn_mono (round s h1 a w S' μ' h3) ?_
 rintro e a' w' ⟨P',S2,μ2,hq,Xj⟩
 cases e with
 | normal =>
  obtain⟨s',hk,q1,q2⟩:=hq
  have hR2:=Xj.keepS keep n
  rw[hk]at hR2
  have hex:∃n,R a' w' n:=⟨m s',s',S2,μ2,q1,rfl,hR2⟩
  refine⟨hex,?_⟩
  have:=(hM a' w' hex).2 (m s') ⟨s',S2,μ2,q1,rfl,hR2⟩
  omega
 | exit id=>exact⟨P',S2,μ2,hq,Xj⟩
 | goto l=>exact⟨P',S2,μ2,hq,Xj⟩
 | ret=>exact⟨P',S2,μ2,hq,Xj⟩
 | panic ch=>exact⟨P',S2,μ2,hq,Xj⟩
 | outgrown=>exact⟨P',S2,μ2,hq,Xj⟩
theorem Ev.cut {σ:Type _} (keep:List Nat) (n:Nat) (mk:σ→St) (inv:σ→Prop) {x y:Code} (hx:Ev C x (thenQ (fun P'=>∃s,Proofs.YtnlmlkbaflmgcaaGreat.keepS keep n P'=mk s∧inv s) Q) st) (hy:∀s,inv s→Ev C y Q (mk s)):Ev C (.seq x y) Q st :=
 Ev.seq (hx.mono (fun e P' hq=>by
  cases e with
  | normal =>
   obtain⟨s,h1,h2⟩:=hq
   exact Ev.keep keep n h1 (hy s h2)
  | exit id=>exact hq
  | goto l=>exact hq
  | ret=>exact hq
  | panic ch=>exact hq
  | outgrown=>exact hq))
end
def V.scal:V→Bool
 | .sl _ _ _ _=>false
 | .mp _=>false
 | .sm _ _ _ _=>false
 | _=>true
def PE:D→D→Prop
 | .own _,.v (.sl _ enc _ l)=>∀z∈l,(enc z).all V.scal=true
 | _,.v (.sl _ _ _ l)=>l=[]
 | _,.v (.mp _)=>False
 | _,.v (.sm _ _ _ _)=>False
 | _,.v _=>True
 | _,.nils=>True
 | _,_=>False
def Rt:List D→List D→Prop
 | [],[]=>True
 | x::xs,y::ys=>PE x y∧Rt xs ys
 | _,_=>False
def NU:D→D→Prop
 | .agg xs,.agg ys=>Rt xs ys
 | x,y=>PE x y
def Rm:List D→List D→Prop
 | [],[]=>True
 | x::xs,y::ys=>NU x y∧Rm xs ys
 | _,_=>False
def Bh (al:Bool) (H:List aC):D→D→Prop
 | .tup xs,.tup ys=>PP H xs ys∧(al=true∨Rm xs ys)
 | x,y=>M8 H x y∧(al=true∨NU x y)
section
variable {P:Program} {S:Nat→Prop} {μ:Nat→Value} {w:World}
theorem Bi {x:V} {u:Value} (h:eh S w x u) (hs:x.scal=true) (S':Nat→Prop):eh S' w x u:=by
 cases h with
 | int=>exact .int _ _
 | bool=>exact .bool _
 | str=>exact .str _
 | nil=>cases hs
 | row=>cases hs
 | mp=>cases hs
 | nilf=>exact .nilf
 | nsl=>exact .nsl
 | esl p c h=>exact .esl p c h
 | smn=>cases hs
 | sm=>cases hs
 | nmp=>exact .nmp
 | fnv f=>exact .fnv f
theorem GZ {sz:Nat} {α:Type} {enc:α→List V} {d:α} {l:List α} {u:Value} {S':Nat→Prop} (h:eh S w (.sl sz enc d l) u) (hs:∀z∈l,(enc z).all V.scal=true) (hb:∀b,cx u b→S' b):eh S' w (.sl sz enc d l) u:=by
 obtain⟨p,c,rfl,h1,h2,h3,h4⟩:=ib h
 refine qI rfl h1 h2 h3 (fun h0=>?_)
 obtain⟨b,J',us,rfl,q1,q2,q3,q4,q5⟩:=h4 h0
 refine⟨b,J',us,rfl,hb b (.inl rfl),q2,q3,q4,fun i x j y hx hy=>Bi (q5 i x j y hx hy) ?_ S'⟩
 have:=hs x (UV hx)
 rw[UU]at this
 exact this y (UV hy)
theorem EX {H:List aC} {S':Nat→Prop} (hH:bz S μ w H) (Xc:∀b,S b→b<w.heap.size) {x y:D} (V':∀(i:Nat) (A:aC) (b:Nat),H[i]?=some A→A.isArr=true→cx (μ i) b→S' b)
  {u:Value} (he:K7 H x y) (hf:PE x y) (h:aq S μ w x u):aq S' μ w y u:=by
 have h2:aq (fun b=>S b∨S' b) μ w y u:=oO hH (fun b hb=>.inl hb) Xc (.inl fun i A b h1 h2 h3=>.inr (V' i A b h1 h2 h3)) he h
 unfold PE at hf
 split at hf
 ·rename_i id sz α enc d l
  refine .v _ _ (GZ (bL h2) hf ?_)
  unfold K7 at he
  simp only at he
  split at he
  ·rename_i E W9 β WF d' l' hb
   rw[cj h]
   exact fun b Xa=>V' id _ b hb rfl Xa
  ·exact he.elim
 ·subst hf
  obtain⟨p,c,rfl,h1,h3,h4,h5⟩:=ib (bL h2)
  exact .v _ _ (.nil _ _ _ _ _ h3 h4)
 ·exact hf.elim
 ·exact hf.elim
 ·rename_i v h3 h4 h5 h6
  refine .v _ _ (Bi (bL h2) ?_ _)
  cases v with
  | sl sz enc d l=>first | exact(h3 _ _ _ _ _ rfl).elim | exact(h4 _ _ _ _ _ rfl).elim | exact(h5 _ _ _ _ _ rfl).elim
  | mp es=>first | exact(h3 _ rfl).elim | exact(h4 _ rfl).elim | exact(h5 _ rfl).elim | exact(h6 _ rfl).elim
  | sm ag enc d l=>first | exact(h3 _ _ _ _ _ rfl).elim | exact(h4 _ _ _ _ _ rfl).elim | exact(h5 _ _ _ _ _ rfl).elim | exact(h6 _ _ _ _ _ rfl).elim
  | nmp=>rfl
  | fnv=>rfl
  | int=>rfl
  | bool=>rfl
  | str=>rfl
  | nilf=>rfl
  | nsl=>rfl
  | esl=>first | exact(h3 rfl).elim | exact(h4 rfl).elim | exact(h5 rfl).elim | rfl
 ·cases h2
  exact .nils
 ·exact hf.elim
theorem EY:∀{xs ys:List D},Rt xs ys→∀(j:Nat) (x y:D),xs[j]?=some x→ys[j]?=some y→PE x y
 | [],[],_,j,x,y,hx,_=>by simp at hx
 | [],_::_,h,_,_,_,_,_=>h.elim
 | _::_,[],h,_,_,_,_,_=>h.elim
 | x::xs,y::ys,h,0,_,_,hx,hy=>by simp at hx hy;subst hx hy;exact h.1
 | x::xs,y::ys,h,j+1,x',y',hx,hy=>EY h.2 j x' y' (by simpa using hx) (by simpa using hy)
theorem EZ:∀{xs ys:List D},Rm xs ys→∀(j:Nat) (x y:D),xs[j]?=some x→ys[j]?=some y→NU x y
 | [],[],_,j,x,y,hx,_=>by simp at hx
 | [],_::_,h,_,_,_,_,_=>h.elim
 | _::_,[],h,_,_,_,_,_=>h.elim
 | x::xs,y::ys,h,0,_,_,hx,hy=>by simp at hx hy;subst hx hy;exact h.1
 | x::xs,y::ys,h,j+1,x',y',hx,hy=>EZ h.2 j x' y' (by simpa using hx) (by simpa using hy)
theorem xU {al:Bool} {H:List aC} {S' Sn:Nat→Prop} (hH:bz S μ w H) (Xc:∀b,S b→b<w.heap.size) (hS:∀b,S b→S' b)
  (X0:∀(i:Nat) (A:aC) (b:Nat),H[i]?=some A→A.isArr=true→cx (μ i) b→S' b) (V':∀(i:Nat) (A:aC) (b:Nat),H[i]?=some A→A.isArr=true→cx (μ i) b→Sn b)
  (Xm:al=true→∀b,S' b→Sn b) {x y:D} {u:Value} (he:M8 H x y) (hf:al=true∨NU x y) (h:aq S μ w x u):aq Sn μ w y u:=by
 rcases hf with hf | hf
 ·have:aq S' μ w y u:=by
   have h1:aU S' μ w [y] #[u]:=Lg (ds:=[x]) hH hS Xc (.inl X0) ⟨he,trivial⟩ ⟨rfl,fun j a b ha hb=>by
    cases j with
    | zero=>simp at ha hb;subst ha hb;exact h
    | succ j=>simp at ha⟩
   exact h1.2 0 y u rfl rfl
  exact this.stable (fun b hb _=>Xm hf b hb) (fun _ _ _=>rfl) (Ut _) (fun _ _=>rfl)
 ·unfold M8 at he
  split at he
  ·rename_i xs ys
   obtain⟨us,rfl,q1,q2⟩:=eO h
   obtain⟨r1,r2⟩:=vo he
   refine .agg _ _ (by rw[← r1];exact q1) (fun k z v hz hv=>?_)
   obtain⟨x',YV,ZM⟩:=r2 k z hz
   exact EX hH Xc V' ZM (EY hf k x' z YV hz) (q2 k x' v YV hv)
  ·rename_i Xt
   have hf':PE x y:=by
    unfold NU at hf
    split at hf
    ·rename_i xs ys
     exact(Xt xs ys rfl rfl).elim
    ·exact hf
   exact EX hH Xc V' he hf' h
theorem Iu {al:Bool} {H:List aC} {S' Sn:Nat→Prop} (hH:bz S μ w H) (Xc:∀b,S b→b<w.heap.size) (hS:∀b,S b→S' b)
  (X0:∀(i:Nat) (A:aC) (b:Nat),H[i]?=some A→A.isArr=true→cx (μ i) b→S' b) (V':∀(i:Nat) (A:aC) (b:Nat),H[i]?=some A→A.isArr=true→cx (μ i) b→Sn b)
  (Xm:al=true→∀b,S' b→Sn b) {x y:D} {u:Value} (he:Bh al H x y) (h:aq S μ w x u):aq Sn μ w y u:=by
 unfold Bh at he
 split at he
 ·rename_i xs ys
  obtain⟨us,rfl,q1,q2⟩:=vf h
  obtain⟨r1,r2⟩:=zp he.1
  refine .tup _ _ (by rw[← r1];exact q1) (fun k z v hz hv=>?_)
  obtain⟨x',YV,ZM⟩:=r2 k z hz
  exact xU hH Xc hS X0 V' Xm ZM (he.2.imp id fun hf=>EZ hf k x' z YV hz) (q2 k x' v YV hv)
 ·exact xU hH Xc hS X0 V' Xm he.1 he.2 h
def PV (P:Program) (fn:Func) (al:Bool) (r:D):Exit→St→Prop
 | .normal,st=>iU P fn st∧Bh al st.heap (i2 P fn st) r
 | .ret,st=>iU P fn st∧Bh al st.heap (i2 P fn st) r
 | _,_=>False
theorem ah.of_ev {f:FuncId} {fn:Func} {c:Code} {q':List D} {al:Bool} {r:D} (hf:P.funcs[f]?=some fn) (hb:fn.body=some c) (hn:Nat.ble q'.length fn.ntmps=true) (hr:fm r=true)
  (h:∀C:ns,C.P=P→C.nt=fn.ntmps→C.rd=none→Ev C c (PV P fn al r) ⟨m4 0 q',[]⟩):ah P f q' [] al r []:=by
 intro S μ w us hS hG hH WX
 rw[Vv]at hn
 let C:ns:=⟨P,w,S,fn.ntmps,[],none,hG⟩
 have hrel:bk C S μ ⟨m4 0 q',[]⟩ (xM us fn.ntmps) w :=
  ⟨rfl,rfl,rfl,Ut _,fun _ _=>rfl,fun _ h=>h,fun _ h=>.inl h,hS,zt WX hn,⟨fun id B hB=>by simp at hB,fun i j A B b hA=>by simp at hA,fun i A b hA=>by simp at hA⟩,fun i A b hA=>by simp at hA,⟨[],rfl,by simp[C],fun b hb=>by simp[C]at hb⟩,v3 WX.1 hn,fun i A b hA=>by simp at hA⟩
 refine(nz (C:=C) hf hb rfl hrel (h C rfl rfl rfl) (fun e P' hq=>?_)).mono ?_
 ·cases e<;>first | exact⟨.inl rfl,hq.1⟩ | exact⟨.inr rfl,hq.1⟩ | exact hq.elim
 rintro e w' ⟨u,e0,P',S',μ',a',rfl,hq,hR,hx⟩
 have hq:Bh al P'.heap (i2 P fn P') r:=by
  cases e0<;>first | exact hq.2 | exact hq.elim
 refine⟨u,μ',fun b=>S' b∨∃(i:Nat) (A:aC),P'.heap[i]?=some A∧A.isArr=true∧cx (μ' i) b,rfl,hR.os,hR.tape,hR.output,hR.size,fun k hk _=>hR.old k hk,fun b hb=>.inl (hR.mono b hb),?_,?_,?_,
   ⟨fun id B hB=>by simp at hB,fun i j A B b hA=>by simp at hA,fun i A b hA=>by simp at hA⟩,fun i A b hA=>by simp at hA,fun i A hA=>by simp at hA⟩
 ·rintro b (hb | ⟨i,A,h1,h2,h3⟩)
  ·exact hR.new b hb
  ·exact .inr (hR.may i A b h1 (by cases A<;>first | rfl | cases h2) h3)
 ·rintro b (hb | ⟨i,A,h1,h2,h3⟩)
  ·exact hR.slt b hb
  ·exact(hR.heap.box i A h1).lt (by cases A<;>first | rfl | cases h2) b h3
 ·refine Iu hR.heap hR.slt (S':=fun b=>S' b∨∃(i:Nat) (A:aC),P'.heap[i]?=some A∧A.isArr=true∧cx (μ' i) b) (fun b hb=>.inl hb) (fun i A b h1 h2 h3=>.inr ⟨i,A,h1,h2,h3⟩) (fun i A b h1 h2 h3=>⟨.inr ⟨i,A,h1,h2,h3⟩,.inr ?_⟩) (fun ha b hb=>⟨hb,.inl ha⟩) hq hx
  exact hR.may i A b h1 (by cases A<;>first | rfl | cases h2) h3
end
def Iv:List Oper→Nat→Nat→Option Nat
 | _,0,_=>none
 | ops,i+1,t=>match (ops[i]?).bind (·.dst)with
  | some s=>if Nat.beq s t then some i else Iv ops i t
  | none=>Iv ops i t
def Iw (op:Op):List Tmp:=op.operands.toList.filterMap fun | .tmp t=>some t | _=>none
def tz (P:Program) (H:List aC) (ov:Ov) (t:TypeId) (len:Nat) (M':List (Nat×D)):R1 :=
 match P.underlying t with
 | some (.slice E)=>match ju P E with
  | some z=>if dh P E&&Nat.beq z.length (aH P E)&&Nat.ble 1 (aH P E)&&Nat.ble (len*aH P E) 4096 then
    match im H (fun i=>some (i*aH P E,aH P E)) (List.replicate len z).flatten M' with
    | some cells=>match ov with
     | .box E' W9 WF d' l'=>if Nat.beq E E'&&Nat.beq (aH P E) W9 then (.v (.sl (aH P E) WF d' l'),am (qh (aH P E) len cells) (l'.map WF))else aR
     | _=>aR
    | none=>aR
   else aR
  | none=>aR
 | _=>aR
def M9 (P:Program) (H:List aC) (ov:Ov) (f:D) (ds:List D):R1 :=
 match f,ov with
 | .fn (.func g) first cap,.callr id q' r=>if j7 P g&&fm r then (r,lO P g H (first++ds++cap) id q' r)else aR
 | .fn (.func g) first cap,.call q' al r=>if j7 P g&&fm r&&(!al||gg (first++ds++cap))then (r,qK P g H (first++ds++cap) q' al r)else aR
 | _,_=>aR
def PW (P:Program) (T:TypeId):Option (Array Value):=((P.info? T).bind (·.zero)).map (·.cells)
def NV (o:Oper):Option TypeId:=match o.op with | .alloc T=>some T | _=>none
def Rn (P:Program) (H:List aC) (ρ:Operand→D) (ov:Ov) (op:Op):R1 :=
 match op with
 | .alloc T=>match PW P T with | some _=>(.junk,True) | none=>aR
 | .buildSlice t len M'=>tz P H ov t len (M'.toList.map fun p=>(p.1,ρ p.2))
 | .call ⟨.value f,args,_⟩=>M9 P H ov (ρ f) (args.toList.map ρ)
 | op=>match ov with
  | .val d'=>(d',(gI P H ρ op).2∧xh (gI P H ρ op).1 d')
  | .lift d'=>(d',(gI P H ρ op).2∧dC (gI P H ρ op).1 d')
  | _=>gI P H ρ op
def TF (ops:List Oper) (i:Nat) (o:Oper):List (Tmp×Option Nat) :=
 (Iw o.op).map fun t=>(t,Iv ops i t)
section
variable {P:Program} {S:Nat→Prop} {μ:Nat→Value} {w:World}
theorem Bj {ops:Array Oper} {sp sp':uv} {base Z':Act} (h:NN ops sp base=true) (hs:Z'.tmps.size=base.tmps.size) (hk:sp'.K=sp.K) (hi:sp'.ins=sp.ins):NN ops sp' Z'=true:=by
 have e1:PI ops sp'=PI ops sp:=by
  funext i p
  unfold PI
  rw[hk]
 have:∀i,H4 ops sp' Z' i=H4 ops sp base i:=by
  intro i
  unfold H4
  rw[hs,hk,hi,e1]
 unfold NN at h ⊢
 rw[show H4 ops sp' Z'=H4 ops sp base from funext this]
 exact h
end
section
variable {P:Program} {S:Nat→Prop} {μ:Nat→Value} {w:World}
theorem bz.mono {S':Nat→Prop} {w':World} {H:List aC} (h:bz S μ w H) (hS:∀b,S b→b<w.heap.size→S' b) (hb:Below w.heap.size w w') (hn:∀b,b<w.heap.size→S' b→S b):bz S' μ w' H:=by
 refine⟨fun i A hA=>?_,h.apart,fun i A b hA hl Xa hs=>?_⟩
 ·rcases A.three with rfl | hl | hl
  ·trivial
  ·exact(h.box i A hA).stable hS (fun b _ hl=>hb.block b hl) hb.size (fun _ _=>rfl) (fun b Xa=>hb.block b ((h.box i A hA).lt hl b Xa))
  ·exact(h.box i A hA).stable hS (fun b _ hl=>hb.block b hl) hb.size (fun _ _=>rfl) (fun b Xa=>hb.block b ((h.box i A hA).ltR hl b Xa))
 ·have WL:=(h.box i A hA).lt hl b Xa
  exact h.notS i A b hA hl Xa (hn b WL hs)
theorem zB {H:List aC} (hH:bz S μ w H) (hS:∀b,S b→b<w.heap.size) {ov:Ov} {t:TypeId} {len:Nat} {M':List (Nat×D)} {Wz:List (Nat×Value)} (h1:M'.map (·.1)=Wz.map (·.1))
  (h2:∀(j:Nat) (x:Nat×D) (u:Nat×Value),M'[j]?=some x→Wz[j]?=some u→aq S μ w x.2 u.2) {d:D} {p:Prop} (hp:tz P H ov t len M'=(d,p)) (D':p) :
  ∃u vs E,(Instr.buildSlice t len Wz.toArray).run P w=.ok u (w.alloc (.cells vs E))∧aq (fun b=>S b∨b=w.heap.size) μ (w.alloc (.cells vs E)) d u:=by
 unfold tz at hp
 split at hp
 ·rename_i E hu
  split at hp
  ·rename_i z hz
   split at hp
   ·rename_i hc
    simp only[Uo,UH,Vv]at hc
    obtain⟨⟨⟨hk,XQ⟩,WN⟩,Xg⟩:=hc
    obtain⟨i,v,hi,hv,Ze,WE,hby⟩:=j9 hz
    split at hp
    ·rename_i cells hf
     have hzr:aU S μ w z v.cells:=by
      rw[Ze]
      refine⟨by simp,fun j y u hy hu=>?_⟩
      simp only[UJ,UY,hu,U4,UA]at hy
      subst hy
      exact aq.ofVal1 S μ w u
     have Zf:=tu (P:=P) hzr XQ (by omega) len
     obtain⟨vs,Yo,Yn⟩:=fS hH M' Wz _ cells _ h1 h2 Zf hf
     rw[← WE]at Yo
     have WH:=jw (P:=P) (w:=w) hu hi hv (by rw[WE];exact Xg) Yo
     have hcl:cells.length=len*aH P E:=by
      have:∀(M':List (Nat×D)) (c0 Yz:List D),im H (fun i=>some (i*aH P E,aH P E)) c0 M'=some Yz→Yz.length=c0.length:=by
       intro M'
       induction M' with
       | nil=>intro c0 Yz h;simp only[im,UA]at h;rw[h]
       | cons q r ih =>
        intro c0 Yz h
        obtain⟨k,x⟩:=q
        unfold im at h
        split at h
        ·split at h
         ·rename_i WV
          simp only[Uo,Vv]at WV
          rw[ih _ _ h]
          simp[gf]
          omega
         ·cases h
        ·cases h
      rw[this _ _ _ hf]
      simp[XQ]
     have WA:len≤maxLen:=by
      have:len*1≤len*aH P E:=V9 _ WN
      simp only[maxLen]
      omega
     split at hp
     ·rename_i E' W9 α WF d' l'
      split at hp
      ·rename_i hc
       simp only[Uo,UH]at hc
       obtain⟨rfl,rfl⟩:=hc
       simp only[Ux]at hp
       obtain⟨rfl,rfl⟩:=hp
       refine⟨_,vs,E,WH,.v _ _ ?_⟩
       obtain⟨q1,q2⟩:=lP D'
       have hA:gR S (w.alloc (.cells vs E)) E (aH P E) (l'.map WF) (.slice (some ⟨w.heap.size,0,none⟩) len len):=by
        refine vt Yn hcl WA (by rw[← q1];simp[qh]) (fun i x hx=>?_) hS
        obtain⟨r,hr,W0⟩:=q2 i x hx
        obtain⟨r1,r2⟩:=fU W0
        obtain⟨hin,rfl⟩:=kV _ _ _ hr
        refine⟨?_,fun j y hy=>?_⟩
        ·rw[← r1,UG,UW,hcl]
         have:(i+1)*aH P E≤len*aH P E:=UO _ hin
         rw[Vw]at this
         omega
        ·obtain⟨d,hd,hdy⟩:=r2 j y hy
         exact⟨d,lQ hr hd,fun u hu=>nG hdy hu⟩
       have hB:aN S μ (w.alloc (.cells vs E)) (.slice (some ⟨w.heap.size,0,none⟩) len len) (.arr E (aH P E) WF d' l'):=hA.box rfl
       exact j6 hB (fun b hb=>.inl hb) (fun b hb=>.inr (by simp[cx,aO]at hb;omega)) (fun b hb=>by have:=hS b hb;simp;omega)
      ·cases hp;exact D'.elim
     ·cases hp;exact D'.elim
    ·cases hp;exact D'.elim
   ·cases hp;exact D'.elim
  ·cases hp;exact D'.elim
 ·cases hp;exact D'.elim
theorem Ix {H:List aC} (hH:bz S μ w H) (hS:∀b,S b→b<w.heap.size) (hG:gG S w) {f:FuncId} {ds:List D} {q':Option (List D)} {al:Bool} {r:D} {us:Array Value} (hc:qK P f H ds q' al r) (WX:aU S μ w ds us)
  (Xm:al=false∨gg ds=true) (hr:fm r=true) :
  Calls P f us w (fun e w'=>∃u,e=.returned u∧Below w.heap.size w w'∧aq (fun b=>S b∨w.heap.size≤b) μ w' r u):=by
 have YE:∀(ZZ:List D) (S1:Nat→Prop),ah P f ZZ [] al r []→(∀b,S1 b→b<w.heap.size)→(∀b,S b→S1 b)→(al=true→∀b,S1 b→S b)→aU S1 μ w ZZ us →
   Calls P f us w (fun e w'=>∃u,e=.returned u∧Below w.heap.size w w'∧aq (fun b=>S b∨w.heap.size≤b) μ w' r u):=by
  intro ZZ S1 hc h2 h1 h3 WX
  refine(hc S1 μ w us h2 (hG.stable (fun b hb _=>h1 b hb) (fun _ _ _=>rfl) (Ut _)) ⟨fun id B hB=>by simp at hB,fun i j A B b hA=>by simp at hA,fun i A b hA=>by simp at hA⟩ WX).mono ?_
  rintro e w' ⟨u,μ',S',rfl,q1,q2,q3,q4,q5,q6,q7,q8,q9,_⟩
  refine⟨u,rfl,⟨q1,q2,q3,q4,fun k hk=>q5 k hk (fun i A hA=>by simp at hA)⟩,q9.stable ?_ (fun _ _ _=>rfl) (Ut _) (fun id WG=>by rw[gP id r hr]at WG;cases WG)⟩
  rintro b ⟨hb,X7⟩ _
  rcases q7 b hb with hb3 | hb3
  ·rcases X7 with X7 | X7
   ·exact .inl (h3 X7 b hb3)
   ·exact .inr X7
  ·exact .inr hb3
 cases q' with
 | none=>exact YE ds S hc hS (fun _ h=>h) (fun _ _ h=>h) WX
 | some q' =>
  obtain⟨Z7,hc⟩:=hc
  refine YE q' (fun b=>S b∨(al=false∧∃(i:Nat) (A:aC),H[i]?=some A∧A.mem=true∧cx (μ i) b)) hc ?_ (fun b hb=>.inl hb) ?_ ?_
  ·rintro b (hb | ⟨_,i,A,hA,hl,hb⟩)
   ·exact hS b hb
   ·exact(hH.box i A hA).lt (aC.mem_live hl) b hb
  ·rintro h b (hb | ⟨h0,_⟩)
   ·exact hb
   ·rw[h]at h0;cases h0
  ·refine oP hH (fun b hb=>.inl hb) hS ?_ Z7 WX
   rcases Xm with Xm | Xm
   ·exact .inl (fun i A b hA hl hb=>.inr ⟨Xm,i,A,hA,hl,hb⟩)
   ·exact .inr Xm
theorem G0 {H:List aC} (hH:bz S μ w H) (hS:∀b,S b→b<w.heap.size) (hG:gG S w) {f:FuncId} {ds:List D} {id:Nat} {q':List D} {r:D} {us:Array Value} (hc:lO P f H ds id q' r) (WX:aU S μ w ds us) (hr:fm r=true) :
  Calls P f us w (fun e w'=>∃u,e=.returned u∧Below w.heap.size w w'∧aq (fun b=>S b∨w.heap.size≤b) μ w' r u):=by
 unfold lO at hc
 split at hc
 ·rename_i B hB
  obtain⟨hra,hc⟩:=hc
  cases hbx:H[id]? with
  | none=>rw[hbx]at hB;cases hB
  | some A =>
   rw[hbx]at hB
   obtain⟨X3,I'⟩:=xK (μ':=fun _=>μ id) hB (hH.box id A hbx)
   have hl:B.live=false:=by cases B<;>first | rfl | cases X3
   refine(hc S (fun _=>μ id) w us hS hG (EO X3 I') (EN hra WX)).mono ?_
   rintro e w' ⟨u,μ',S',rfl,q1,q2,q3,q4,q5,q6,q7,q8,q9,_⟩
   refine⟨u,rfl,⟨q1,q2,q3,q4,fun k hk=>q5 k hk (fun i A hA la=>?_)⟩,q9.stable (fun b hb _=>q7 b hb.1) (fun _ _ _=>rfl) (Ut _) (fun id WG=>by rw[gP id r hr]at WG;cases WG)⟩
   match i with
   | 0=>simp at hA;rw[← hA,hl]at la;cases la
   | i+1=>simp at hA
 ·exact hc.elim
theorem G1 {H:List aC} (hH:bz S μ w H) (hS:∀b,S b→b<w.heap.size) (hG:gG S w) {ρ:Operand→D} {ρ':Operand→Value} (hρ:∀x,aq S μ w (ρ x) (ρ' x)) {ov:Ov} {o:Oper} {d:D} {p:Prop} (hp:Rn P H ρ ov o.op=(d,p)) (D':p) (hna:NV o=none)
  {R:Value→World→Prop} (hR:∀u w',Below w.heap.size w w'→aq (fun b=>S b∨w.heap.size≤b) μ w' d u→R u w'):qa P R ((execOp ρ' o).run P w):=by
 unfold Rn at hp
 split at hp
 ·rename_i ho
  unfold NV at hna
  rw[ho]at hna
  cases hna
 ·rename_i t len M' ho
  obtain⟨u,vs,E,h1,h2⟩:=zB hH hS (Wz:=M'.toList.map fun p=>(p.1,ρ' p.2)) (by simp) (fun j x u hx hu=>by
   simp only[UJ,UY]at hx hu
   cases hj:M'[j]? with
   | none=>rw[hj]at hx;cases hx
   | some q=>rw[hj]at hx hu;simp at hx hu;subst hx hu;exact hρ q.2) hp D'
  have he:M'.map (fun (i,x)=>(i,ρ' x))=(M'.toList.map fun p=>(p.1,ρ' p.2)).toArray:=V7 (by simp)
  rw[← he]at h1
  refine qa.of (v:=u) (w':=w.alloc (.cells vs E)) ?_ (hR _ _ ((Wm _ _).alloc (Ut _) _) (h2.stable ?_ (fun _ _ _=>rfl) (Ut _) (fun _ _=>rfl)))
  ·simp only[execOp,ho,Uv,h1,Uu,UL]
  ·rintro b (hb | rfl) _
   ·exact .inl hb
   ·exact .inr (Ut _)
 ·rename_i f args Zw ho
  unfold M9 at hp
  split at hp
  ·rename_i g first cap id q' r hf
   split at hp
   ·rename_i hc
    simp only[Uo]at hc
    obtain⟨Zg,hr⟩:=hc
    simp only[Ux]at hp
    obtain⟨rfl,rfl⟩:=hp
    have Ya:=hf ▸ hρ f
    generalize XR:ρ' f=uf at Ya
    cases Ya with
    | fn _ _ _ us vs h1 h2 h3 h4 =>
     have WH:(execOp ρ' o).run P w=.ok (.enter g (us++args.map ρ'++vs)) w:=by
      simp[execOp,ho,resolve,XR,Deferred.ofValue,invoke,ct Zg]
     rw[WH]
     have X1:aU S μ w (args.toList.map ρ) (args.map ρ'):=by
      refine⟨by simp,fun j y z hy hz=>?_⟩
      simp only[UJ,UY,VA]at hy hz
      cases hj:args[j]? with
      | none=>rw[hj]at hy;cases hy
      | some x=>rw[hj]at hy hz;simp at hy hz;subst hy hz;exact hρ x
     refine qa.enter ((G0 hH hS hG D' (aU.app (aU.app ⟨h1,h2⟩ X1) ⟨h3,h4⟩) hr).mono ?_)
     rintro e w' ⟨u,rfl,hb,hd⟩
     exact⟨u,rfl,hR u w' hb hd⟩
   ·cases hp;exact D'.elim
  ·rename_i g first cap q' al r hf
   split at hp
   ·rename_i hc
    simp only[Uo,U3,U2]at hc
    obtain⟨⟨Zg,hr⟩,Xm⟩:=hc
    simp only[Ux]at hp
    obtain⟨rfl,rfl⟩:=hp
    have Ya:=hf ▸ hρ f
    generalize XR:ρ' f=uf at Ya
    cases Ya with
    | fn _ _ _ us vs h1 h2 h3 h4 =>
     have WH:(execOp ρ' o).run P w=.ok (.enter g (us++args.map ρ'++vs)) w:=by
      simp[execOp,ho,resolve,XR,Deferred.ofValue,invoke,ct Zg]
     rw[WH]
     have X1:aU S μ w (args.toList.map ρ) (args.map ρ'):=by
      refine⟨by simp,fun j y z hy hz=>?_⟩
      simp only[UJ,UY,VA]at hy hz
      cases hj:args[j]? with
      | none=>rw[hj]at hy;cases hy
      | some x=>rw[hj]at hy hz;simp at hy hz;subst hy hz;exact hρ x
     refine qa.enter ((Ix hH hS hG D' (aU.app (aU.app ⟨h1,h2⟩ X1) ⟨h3,h4⟩) Xm hr).mono ?_)
     rintro e w' ⟨u,rfl,hb,hd⟩
     exact⟨u,rfl,hR u w' hb hd⟩
   ·cases hp;exact D'.elim
  ·cases hp;exact D'.elim
 ·have key:∀d0,(∃q,gI P H ρ o.op=(d0,q)∧q)→(∀u,aq S μ w d0 u→aq S μ w d u)→qa P R ((execOp ρ' o).run P w):=by
   rintro d0 ⟨q,hq,Yi⟩ hd
   obtain⟨u,h1,h2⟩:=i1 hH hρ hq Yi
   exact qa.of h1 (hR u w (Wm _ _) ((hd u h2).stable (fun b hb _=>.inl hb) (fun _ _ _=>rfl) (Ut _) (fun _ _=>rfl)))
  split at hp
  ·simp only[Ux]at hp
   obtain⟨rfl,rfl⟩:=hp
   exact key _ ⟨_,rfl,D'.1⟩ (fun u hu=>rH D'.2 hu)
  ·simp only[Ux]at hp
   obtain⟨rfl,rfl⟩:=hp
   exact key _ ⟨_,rfl,D'.1⟩ (fun u hu=>D'.2 _ _ _ _ hu)
  ·exact key d ⟨p,hp,D'⟩ (fun _ h=>h)
end
theorem Ev.freeze {C:ns} {st:St} {Q:Exit→St→Prop} {c:Code} (id:Nat) {P':St} (h:oQ id st=some P') (he:Ev C c Q P'):Ev C c Q st:=fun a w S μ hR=>by
 obtain⟨S',Xj⟩:=hR.freeze h
 exact he a w S' μ Xj
def Di (id j E sz:Nat) {α:Type} (enc:α→List V) (d:α) (st:St):Option St :=
 if cE st.heap.length st.env&&cF st.heap.length st.heap then
  match st.heap[id]? with
  | some (.var T cs)=>match cs[j]? with
   | some .nils=>some ⟨st.env,st.heap.set id (.var T (cs.set j (.own st.heap.length)))++[.arr E sz enc d []]⟩
   | _=>none
  | _=>none
 else none
def adoptE (t E sz:Nat) {α:Type} (enc:α→List V) (d:α) (st:St):Option St :=
 if cE st.heap.length st.env&&cF st.heap.length st.heap&&It st.env t then
  match qe st.env t with
  | .nils=>some ⟨A7 st.env t (.own st.heap.length),st.heap++[.arr E sz enc d []]⟩
  | _=>none
 else none
section
variable {C:ns} {S:Nat→Prop} {μ:Nat→Value} {st:St} {a:Act} {w:World} {Q:Exit→St→Prop}
theorem bk.addNil (h:bk C S μ st a w) (hf:cE st.heap.length st.env=true) (hh:cF st.heap.length st.heap=true) (E sz:Nat) {α:Type} (enc:α→List V) (d:α) :
  bk C S (br μ st.heap.length (.slice none 0 0)) ⟨st.env,st.heap++[.arr E sz enc d []]⟩ a w:=by
 have:=h.upd (id:=st.heap.length) (B:=.arr E sz enc d []) (row:=none) (u:=.slice none 0 0) (lR w) (fun k hk=>by cases hk) (Ut _)
  ⟨fun i x hx=>by simp at hx,[],VS w 0 E sz,fun i x j y hx=>by simp at hx⟩ (fun b hb=>by simp[cx,aO]at hb) (.inr ⟨fun A hA=>by simp at hA,hf,hh⟩)
 rw[show cA st.heap st.heap.length (.arr E sz enc d [])=st.heap++[.arr E sz enc d []]from by simp[cA]]at this
 exact this
theorem bk.boxTo (h:bk C S μ st a w) {id:Nat} {A B:aC} (hA:st.heap[id]?=some A) (hAl:A.live=true) (hk:B.isArr=false∨A.isArr=true) (hB:aN S μ w (μ id) B) (X3:B.isRo=false:=by rfl):bk C S μ ⟨st.env,st.heap.set id B⟩ a w:=by
 have WG:id<st.heap.length:=(Up.1 hA).1
 have hg:∀(i:Nat) (X:aC),(st.heap.set id B)[i]?=some X→(i=id∧X=B)∨st.heap[i]?=some X:=by
  intro i X hX
  by_cases hi:i=id
  ·subst hi
   rw[UI WG]at hX
   cases hX
   exact .inl ⟨rfl,rfl⟩
  ·rw[UF (fun e=>hi e.symm)]at hX
   exact .inr hX
 have hl:∀(i:Nat) (X:aC),(st.heap.set id B)[i]?=some X→X.live=true→∃Y,st.heap[i]?=some Y∧Y.live=true:=by
  intro i X hX hXl
  rcases hg i X hX with ⟨rfl,rfl⟩ | hX'
  ·exact⟨A,hA,hAl⟩
  ·exact⟨X,hX',hXl⟩
 refine⟨h.os,h.tape,h.output,h.size,h.old,h.mono,h.new,h.slt,h.env,⟨fun i X hX=>?_,fun i k X Y b hX hY lX lY=>?_,fun i X b hX lX=>?_⟩,fun i X b hX lX=>?_,?_,h.tsize,fun i X b hX lX=>?_⟩
 ·rcases hg i X hX with ⟨rfl,rfl⟩ | hX'
  ·exact hB
  ·exact h.heap.box i X hX'
 ·obtain⟨X',q1,q2⟩:=hl i X hX lX
  obtain⟨Y',q3,q4⟩:=hl k Y hY lY
  exact h.heap.apart i k X' Y' b q1 q3 q2 q4
 ·obtain⟨X',q1,q2⟩:=hl i X hX lX
  exact h.heap.notS i X' b q1 q2
 ·obtain⟨X',q1,q2⟩:=hl i X hX lX
  exact h.may i X' b q1 q2
 ·obtain⟨mk,d1,d2,d3⟩:=h.defers
  refine⟨mk,d1,d2,fun b hb=>?_⟩
  obtain⟨q1,q2,q3,q4⟩:=d3 b hb
  refine⟨q1,q2,q3,fun i X hX lX=>?_⟩
  obtain⟨X',q5,q6⟩:=hl i X hX lX
  exact q4 i X' q5 q6
 ·rcases hg i X hX with ⟨rfl,rfl⟩ | hX'
  ·rw[X3]at lX;cases lX
  ·exact h.ro i X b hX' lX
theorem Ev.adopt {c:Code} (id j E sz:Nat) {α:Type} (enc:α→List V) (d:α) {P':St} (h:Di id j E sz enc d st=some P') (he:Ev C c Q P'):Ev C c Q st:=fun a w S μ hR=>by
 unfold Di at h
 split at h
 ·rename_i hc
  simp only[Uo]at hc
  split at h
  ·rename_i T cs I'
   split at h
   ·rename_i hj
    simp only[UA]at h
    subst h
    have WG:id<st.heap.length:=(Up.1 I').1
    have h1:=hR.addNil hc.1 hc.2 E sz enc d
    have hbox1:(st.heap++[aC.arr E sz enc d []])[id]?=some (.var T cs):=by rw[UD WG];exact I'
    have hB:=h1.heap.box id _ hbox1
    have h2:=h1.boxTo hbox1 rfl (B:=.var T (cs.set j (.own st.heap.length))) (.inl rfl) (by
     obtain⟨b,vs,e1,e2,e3,e4⟩:=hB
     refine⟨b,vs,e1,e2,by rw[UQ];exact e3,fun k y x hy hx=>?_⟩
     by_cases hk:k=j
     ·subst hk
      have WL:k<cs.length:=(Up.1 hj).1
      rw[UI WL]at hy
      cases hy
      have:=e4 k _ x hj hx
      cases this
      have ho:=aq.own (S:=S) (μ:=br μ st.heap.length (.slice none 0 0)) (w:=w) st.heap.length
      rwa [aG]at ho
     ·rw[UF (fun e=>hk e.symm)]at hy
      exact e4 k y x hy hx)
    have e3:(st.heap++[aC.arr E sz enc d []]).set id (.var T (cs.set j (.own st.heap.length)))=st.heap.set id (.var T (cs.set j (.own st.heap.length)))++[aC.arr E sz enc d []]:=by
     rw[List.set_append,Uw WG]
    simp only at h2
    rw[e3]at h2
    exact he a w S _ h2
   ·cases h
  ·cases h
 ·cases h
theorem Ev.adoptE {c:Code} (t E sz:Nat) {α:Type} (enc:α→List V) (d:α) {P':St} (h:Proofs.YtnlmlkbaflmgcaaGreat.adoptE t E sz enc d st=some P') (he:Ev C c Q P'):Ev C c Q st:=fun a w S μ hR=>by
 unfold Proofs.YtnlmlkbaflmgcaaGreat.adoptE at h
 split at h
 ·rename_i hc
  simp only[Uo]at hc
  split at h
  ·rename_i hj
   simp only[UA]at h
   subst h
   have h1:=hR.addNil hc.1.1 hc.1.2 E sz enc d
   have hv:=h1.eval (.tmp t)
   simp only[fF]at hv
   rw[hj]at hv
   obtain⟨e0,hm⟩:=wh hc.2
   refine he a w S _ ⟨h1.os,h1.tape,h1.output,h1.size,h1.old,h1.mono,h1.new,h1.slt,fun s e hs=>?_,h1.heap,h1.may,h1.defers,h1.tsize,h1.ro⟩
   rcases Vh.1 hs with hs | hs
   ·cases hs
    refine⟨(h1.env t e0 hm).1,?_⟩
    have ho:=aq.own (S:=S) (μ:=br μ st.heap.length (.slice none 0 0)) (w:=w) st.heap.length
    rw[aG]at ho
    generalize hu:a.eval (.tmp t)=u at hv
    cases hv
    have:a.tmps.getD t undef=.slice none 0 0:=hu
    rw[this]
    exact ho
   ·exact h1.env s e (gJ hs).1
  ·cases h
 ·cases h
end
abbrev Dj:=List (List Bool×St)
def ka:Dj→List Bool→Option St
 | [],_=>none
 | (l,s)::r,k=>if decide (l=k)then some s else ka r k
def PX (ops:List Oper) (ls:List Bool) (i:Nat):Bool:=!ls.getD i false&&(match ops[i]? with | some o=>o.after.toList.all (fun e=>!Region.binds .any e||ls.getD e.on false) | none=>false)
def tA (ops:List Oper) (ls:List Bool):List Nat:=(List.range ops.length).filter (PX ops ls)
def Dk (s1 s2:St):St:=⟨rP (s2.env.map (·.1)) s1.env,s1.heap⟩
def E3 (P:Program) (nt:Nat) (ops:List Oper) (WS:List (Nat×Ov)) (tab:Dj) (ls:List Bool) (st:St) (i:Nat):Prop :=
 match ops[i]? with
 | some o=>match fv P nt ops WS i [o] st with
  | (s1,p)=>match ka tab (ls.set i true)with
   | some s2=>Dk s1 s2=s2∧p
   | none=>False
 | none=>False
def Dl (P:Program) (nt:Nat) (ops:List Oper) (WS:List (Nat×Ov)) (tab:Dj) (ls:List Bool) (st:St):List Nat→Prop
 | []=>True
 | i::r=>E3 P nt ops WS tab ls st i∧Dl P nt ops WS tab ls st r
def Dm (P:Program) (nt:Nat) (ops:List Oper) (WS:List (Nat×Ov)) (tab:Dj) (ls:List Bool) (st:St):Prop :=
 if ls.all id then True else match tA ops ls with
  | []=>False
  | l=>Dl P nt ops WS tab ls st l
def Ll (P:Program) (nt:Nat) (ops:List Oper) (WS:List (Nat×Ov)) (tab:Dj):Dj→Prop
 | []=>True
 | (ls,st)::r=>Dm P nt ops WS tab ls st∧Ll P nt ops WS tab r
theorem xV:∀{tab:Dj} {k:List Bool} {s:St},ka tab k=some s→(k,s)∈tab
 | (l,t)::r,k,s,h=>by
  unfold ka at h
  split at h
  ·rename_i hl
   cases h
   rw[VF hl]
   exact UX ..
  ·exact UT _ (xV h)
theorem Bk {P:Program} {nt:Nat} {ops:List Oper} {WS:List (Nat×Ov)} {tab:Dj}:∀{l:Dj} {k:List Bool} {s:St},Ll P nt ops WS tab l→(k,s)∈l→Dm P nt ops WS tab k s
 | (a,t)::r,k,s,h,hm=>by
  rcases Vh.1 hm with hm | hm
  ·cases hm;exact h.1
  ·exact Bk h.2 hm
theorem wi {P:Program} {nt:Nat} {ops:List Oper} {WS:List (Nat×Ov)} {tab:Dj} {ls:List Bool} {st:St}:∀{l:List Nat} {i:Nat},Dl P nt ops WS tab ls st l→i∈l→E3 P nt ops WS tab ls st i
 | a::r,i,h,hm=>by
  rcases Vh.1 hm with hm | hm
  ·cases hm;exact h.1
  ·exact wi h.2 hm
section
variable {C:ns} {st P':St} {Q:Exit→St→Prop}
def qj (ls:List Bool):Nat:=(ls.filter (!·)).length
theorem xW:∀{ls:List Bool} {i:Nat},i<ls.length→ls.getD i false=false→qj (ls.set i true)+1=qj ls
 | b::ls,0,_,h=>by
  simp at h
  subst h
  simp[qj]
 | b::ls,i+1,hi,h=>by
  have:=xW (ls:=ls) (i:=i) (by simpa using hi) (by simpa using h)
  cases b<;>simp[qj]at this ⊢<;>omega
theorem Dn:∀{ls:List Bool},qj ls=0→ls.all id=true
 | [],_=>rfl
 | true::ls,h=>by simp[qj]at h ⊢;simpa using h
 | false::ls,h=>by simp[qj]at h
theorem kF:∀{ls:List Bool},ls.all id=true→ls=List.replicate ls.length true
 | [],_=>rfl
 | true::ls,h=>by
  have:=kF (ls:=ls) (by simpa using h)
  rw[Ve,List.replicate_succ,← this]
 | false::ls,h=>by simp at h
theorem Ev.any {rid:Nat} {ops:List Oper} (WS:List (Nat×Ov)) (tab:Dj) {st0:St} {p:Prop} (hm:C.P.follows .mixedOrders=true) (hnd:ops.all (fun o=>!eN o)=true) (h0:ka tab (List.replicate ops.length false)=some st0) (hk:Dk st st0=st0)
  (he:ka tab (List.replicate ops.length true)=some P') (h:Ll C.P C.nt ops WS tab tab=p) (hp:p) (hq:Q .normal P'):Ev C (.region rid ops.toArray true) Q st:=fun a w S μ hR=>by
 subst h
 have WE:ops.toArray.size=ops.length:=by simp
 have main:∀(fuel:Nat) (ls:List Bool) (C':Array Bool) (s:St) (S:Nat→Prop) (μ:Nat→Value) (a:Act) (w:World),qj ls=fuel→ls.length=ops.length→C'.size=ops.length→(∀i,C'.getD i false=ls.getD i false) →
   ka tab ls=some s→bk C S μ s a w→wpAnyIn (qE C.rd) 0 C.P .any ops.toArray (fun e a' w'=>∃P' S' μ',Q e P'∧bk C S' μ' P' a' w') fuel C' a w:=by
  intro fuel
  induction fuel with
  | zero =>
   intro ls C' s S μ a w hf hl hls hg hs hR
   have hall:=Dn hf
   have YW:=kF hall
   rw[hl]at YW
   refine⟨List.eq_nil_iff_forall_not_mem.2 (fun i hi=>?_),?_⟩
   ·obtain⟨h1,o,ho,_⟩:=(fQ C' (by rw[hls,WE]) i).1 hi
    have Xz:i<ops.length:=by simpa using(UC.1 ho).1
    have hb:(List.replicate ops.length true).getD i false=true:=by simp[List.getD,VR,Xz]
    rw[hg,YW,hb]at h1
    cases h1
   ·rw[YW,he]at hs
    cases hs
    exact⟨_,S,μ,hq,hR⟩
  | succ fuel ih =>
   intro ls C' s S μ a w hf hl hls hg hs hR
   have hent:=Bk hp (xV hs)
   have hna:ls.all id=false:=by
    cases hb:ls.all id
    ·rfl
    ·rw[kF hb]at hf
     simp[qj]at hf
   unfold Dm at hent
   rw[Ur (by rw[hna];simp)]at hent
   have hmem:∀i,i∈Region.ready .any ops.toArray C'↔i∈tA ops ls:=by
    intro i
    rw[fQ C' (by rw[hls,WE]) i]
    unfold tA
    rw[Wp,Va]
    unfold PX
    constructor
    ·rintro⟨h1,o,ho,h2⟩
     have Yh:ops[i]?=some o:=by simpa using ho
     refine⟨(Up.1 Yh).1,?_⟩
     rw[← hg,h1,Yh]
     simp only[Bool.not_false,Ww,UU,Array.mem_toList_iff,U3,U2]
     intro e he
     cases hb:Region.binds .any e
     ·exact .inl rfl
     ·exact .inr (by rw[← hg];exact h2 e he hb)
    ·rintro⟨h1,h2⟩
     rw[Uo]at h2
     obtain⟨h2,h3⟩:=h2
     rw[Uq h1]at h3
     refine⟨by rw[hg];simpa using h2,ops[i],by simp[Uq h1],fun e he hb=>?_⟩
     simp only[UU,Array.mem_toList_iff,U3,U2]at h3
     rcases h3 e he with h4 | h4
     ·rw[hb]at h4;cases h4
     ·rw[hg];exact h4
   have hent2:∀i,i∈tA ops ls→E3 C.P C.nt ops WS tab ls s i:=by
    intro i hi
    cases hr:tA ops ls with
    | nil=>rw[hr]at hi;cases hi
    | cons j r =>
     rw[hr]at hent hi
     exact wi hent hi
   refine⟨fun hnil=>?_,fun i hi=>?_⟩
   ·exfalso
    cases hr:tA ops ls with
    | nil=>rw[hr]at hent;exact hent
    | cons j r =>
     have:j∈Region.ready .any ops.toArray C':=(hmem j).2 (by rw[hr];exact UX ..)
     rw[hnil]at this
     cases this
   ·have hi2:=(hmem i).1 hi
    have Xv:=hent2 i hi2
    obtain⟨Xo,o,ho,_⟩:=(fQ C' (by rw[hls,WE]) i).1 hi
    have Yh:ops[i]?=some o:=by simpa using ho
    have WL:i<ops.length:=(Up.1 Yh).1
    unfold E3 at Xv
    rw[Yh]at Xv
    simp only at Xv
    generalize hsq:fv C.P C.nt ops WS i [o] s=q at Xv
    obtain⟨s1,p1⟩:=q
    simp only at Xv
    split at Xv
    ·rename_i s2 XH
     obtain⟨Ys,hp1⟩:=Xv
     have next:∀S' μ' a' w',bk C S' μ' s1 a' w'→wpAnyIn (qE C.rd) 0 C.P .any ops.toArray (fun e a' w'=>∃P' S' μ',Q e P'∧bk C S' μ' P' a' w') fuel (C'.setIfInBounds i true) a' w':=by
      intro S' μ' a' w' Xj
      have hR2:=Xj.keep (s2.env.map (·.1))
      have e2:(⟨rP (s2.env.map (·.1)) s1.env,s1.heap⟩:St)=s2:=Ys
      rw[e2]at hR2
      refine ih (ls.set i true) (C'.setIfInBounds i true) s2 S' μ' a' w' ?_ (by simpa using hl) (by simpa using hls) ?_ XH hR2
      ·have:=xW (ls:=ls) (i:=i) (by omega) (by rw[← hg];exact Xo)
       omega
      ·intro j
       rw[bj _ _ _ (by omega)]
       split
       ·rename_i hj
        rw[hj]
        unfold List.getD
        rw[UI (show i<ls.length by omega)]
        rfl
       ·rename_i hj
        rw[hg]
        unfold List.getD
        rw[UF (by omega)]
     have hdef:eN o=false:=by
      rw[UU]at hnd
      have:=hnd o (UV Yh)
      simpa using this
     unfold fv at hsq
     unfold wpOpIn
     rw[ho]
     simp only
     split at hsq
     ·rename_i hgd
      rw[Uw (dH hR hgd)]
      generalize Yv:rN C.P C.nt (qN WS i) o s=q1 at hsq
      obtain⟨s1',p1'⟩:=q1
      simp only[fv,Ux]at hsq
      obtain⟨rfl,rfl⟩:=hsq
      exact y8 hdef (uC hR Yv hp1.1 next)
     ·rename_i hgd
      rw[Ur (by rw[dH hR hgd];simp)]
      generalize Yv:tv C.nt s o.dst=q1 at hsq
      obtain⟨s1',p1'⟩:=q1
      simp only[fv,Ux]at hsq
      obtain⟨rfl,rfl⟩:=hsq
      refine⟨fun f _=>te C.rd f,?_⟩
      unfold tv at Yv
      refine next S μ _ _ (hR.ePut Yv hp1.1 ?_).2
      exact .tup [] #[] rfl (fun j y u hy _=>by simp at hy)
     ·simp only[a8,Ux]at hsq
      rw[← hsq.2]at hp1
      exact hp1.elim
    ·exact Xv.elim
 refine wpIn_region_any hm ?_
 have hR0:bk C S μ st a { w with drawn:=w.drawn+1 }:=hR.grow rfl rfl rfl (Ut _) (fun _ _=>rfl) (fun b hb=>hb) (fun b hb=>.inl hb) (fun b hb=>hR.slt b hb)
 have hR1:=hR0.keep (st0.env.map (·.1))
 have e0:(⟨rP (st0.env.map (·.1)) st.env,st.heap⟩:St)=st0:=hk
 rw[e0]at hR1
 refine main ops.toArray.size (List.replicate ops.length false) (Array.replicate ops.toArray.size false) st0 S μ a _ (by rw[WE];simp[qj]) (by simp) (by simp) (fun i=>by simp[Array.getD,List.getD,VR];split<;>rfl) h0 hR1
end
def wj (id:Nat):List D→List D→Prop
 | [],[]=>True
 | .own i::cs,.own j::ds=>i=id∧j=0∧wj id cs ds
 | c::cs,d::ds=>(scal c&&scal d)=true∧xh c d∧wj id cs ds
 | _,_=>False
def Dp (id:Nat):D→D→Prop
 | .own i,.own j=>i=id∧j=0
 | .gr i r,.gr j s=>i=id∧j=0∧r=s
 | .agg cs,.agg ds=>wj id cs ds
 | _,_=>False
section
variable {P:Program} {C:ns} {S:Nat→Prop} {μ:Nat→Value} {st:St} {a:Act} {w:World} {Q:Exit→St→Prop}
theorem G2 {S S2:Nat→Prop} {μ μ2:Nat→Value} {w:World} {c d:D} {u:Value} (h:aq S μ w c u) (hs:(scal c&&scal d)=true) (he:xh c d):aq S2 μ2 w d u:=by
 simp only[Uo]at hs
 have h2:aq S μ w d u:=rH he h
 cases d<;>first | (cases hs.2;done) | skip
 cases h2 with
 | v _ _ h=>exact .v _ _ (h.flat hs.2)
theorem xX {S S2:Nat→Prop} {μ:Nat→Value} {w:World} {id:Nat}:∀{cs ds:List D},wj id cs ds→cs.length=ds.length∧∀(j:Nat) (c d:D) (u:Value),cs[j]?=some c→ds[j]?=some d→aq S μ w c u→aq S2 (fun _=>μ id) w d u
 | [],[],_=>⟨rfl,fun j c d u hc=>by simp at hc⟩
 | [],_::_,h=>by simp[wj]at h
 | c::cs,[],h=>by cases c<;>simp[wj]at h
 | c::cs,d::ds,h=>by
  have key:((c=.own id∧d=.own 0)∨((scal c&&scal d)=true∧xh c d))∧wj id cs ds:=by
   cases c<;>first | (obtain⟨h1,h2,h3⟩:=h;exact⟨.inr ⟨h1,h2⟩,h3⟩) | skip
   rename_i i
   cases d<;>first | (obtain⟨h1,h2,h3⟩:=h;cases h1;done) | skip
   obtain⟨rfl,rfl,h3⟩:=h
   exact⟨.inl ⟨rfl,rfl⟩,h3⟩
  obtain⟨q1,q2⟩:=xX (S:=S) (S2:=S2) (μ:=μ) (w:=w) key.2
  refine⟨by simp[q1],fun j x y u hx hy hu=>?_⟩
  match j with
  | 0 =>
   simp at hx hy
   subst hx hy
   rcases key.1 with ⟨rfl,rfl⟩ | ⟨k1,k2⟩
   ·cases hu
    exact aq.own (μ:=fun _=>μ id) 0
   ·exact G2 hu k1 k2
  | j+1=>exact q2 j x y u (by simpa using hx) (by simpa using hy) hu
theorem Iy {S S2:Nat→Prop} {μ:Nat→Value} {w:World} {id:Nat} {d r:D} {u:Value} (h:aq S μ w d u) (hr:Dp id d r):aq S2 (fun _=>μ id) w r u:=by
 cases d<;>cases r<;>first | (simp[Dp]at hr;done) | skip
 ·obtain⟨rfl,rfl⟩:=hr
  cases h
  exact aq.own (μ:=fun _=>μ _) 0
 ·obtain⟨q1,q2⟩:=xX (S:=S) (S2:=S2) (μ:=μ) (w:=w) hr
  cases h with
  | agg _ us h1 h2 =>
   refine .agg _ us (by omega) (fun j y x hy hx=>?_)
   have hj:j<us.size:=(UC.1 hx).1
   rename_i cs ds
   have hc:cs[j]?=some cs[j]:=Uq (by omega)
   exact q2 j _ y x hc hy (h2 j _ x hc hx)
 ·obtain⟨rfl,rfl,rfl⟩:=hr
  cases h with
  | gr _ _ us _ h1 h2 h3=>exact .gr 0 _ us u h1 h2 h3
theorem Ev.move {c:Code} (j i:Nat) {P':St} (h:ES j i st=some P') (he:Ev C c Q P'):Ev C c Q st:=fun a w S μ hR=>he a w S _ (hR.move h)
end
abbrev dI (k:IntKind) (n:Int):D:=.v (.int k n)
abbrev dB (b:Bool):D:=.v (.bool b)
abbrev dS (s:ByteArray):D:=.v (.str s)
abbrev dL {α:Type} (sz:Nat) (enc:α→List V) (d:α) (l:List α):D:=.v (.sl sz enc d l)
abbrev i6 (n:Int):D:=.v (.int .i64 n)
def ab (k:IntKind) (n:Int):List V:=[.int k n]
def ba (b:Bool):List V:=[.bool b]
def eo (s:ByteArray):List V:=[.str s]
abbrev LI (l:List Int):D:=.v (.sl 1 (ab .i64) 0 l)
abbrev LY (l:List Int):D:=.v (.sl 1 (ab .u8) 0 l)
abbrev LB (l:List Bool):D:=.v (.sl 1 ba false l)
def bm:Nat→Nat→List Bool
 | 0,_=>[]
 | n+1,k=>(k%2==1)::bm n (k / 2)
theorem oK:True:=⟨⟩
abbrev sE (s:St) (p:Prop):Prop:=s=s∧p∧True
theorem uD {x y:Int} (h:x=y) (h1:-9223372036854775808≤y) (h2:y≤9223372036854775807):IntKind.i64.wrap x=y:=by
 rw[h,IntKind.wrap_i64];omega
theorem G3 {x y:Int} (h:x=y) (h1:0≤y) (h2:y≤18446744073709551615):IntKind.u64.wrap x=y:=by
 rw[h,IntKind.wrap_u64];omega
theorem Ru {x y:Int} (h:x=y) (h1:0≤y) (h2:y≤255):IntKind.u8.wrap x=y:=by
 rw[h,IntKind.wrap_u8'];omega
end Go.Proofs.YtnlmlkbaflmgcaaGreat
