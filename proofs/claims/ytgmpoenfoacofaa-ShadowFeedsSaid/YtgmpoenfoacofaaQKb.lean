/-
  Walks on pure data: operations,rules,regions. Generic: over any program.
-/
import Derived.Test.YtgmpoenfoacofaaQKa
namespace Go.Proofs.Ytgmpoenfoacofaa
open Go.RowKit
set_option linter.unusedVariables false
set_option linter.unusedSimpArgs false
inductive Ov:Type 1
 | none
 | val (d:D)
 | lift (d:D)
 | box (E:TypeId) (sz:Nat) {α:Type} (enc:α→List V) (d:α) (l:List α)
 | call (q':Option (List D)) (al:Bool) (r:D)
 | callr (id:Nat) (q':List D) (r:D)
 | frz (E:TypeId) (sz:Nat) {α:Type} (enc:α→List V) (d:α) (l:List α)
 | inl (r:D) (env:List (Nat×D)) (H:List am)
 | inls (r:D)
 | yld (b:Bool) (env:List (Nat×D)) (H:List am)
 | idx (i:Option Nat)
 | ent (d:D)
 | callg (q':Option (List D)) (al:Bool) (r:D)
 | ownc (q':Option (List D)) (r:D) (B:am)
 | ownd (q':Option (List D)) (r:D) (B:am)
 | apf (E sz:Nat) {α:Type} (enc:α→List V) (d:α) (l:List α)
 | apq (E sz:Nat) {α:Type} (enc:α→List V) (d:α) (l:List α)
 | mbox (t:TypeId) (ag:Bool) {α:Type} (enc:α→List V) (d:α) (l:List (ByteArray×α))
 | app (fz:Bool) (E sz:Nat) {α:Type} (enc:α→List V) (d:α) (l:List α)
 | cells (gs:List Nat) (cell:Nat→Nat→D)
def rn (H:List am):D→Bool
 | .agg _=>false
 | .tup _=>false
 | .junk=>false
 | .own id=>match H[id]? with | some (.arr _ _ _ _ _)=>true | some (.ro _ _ _ _ _)=>true | some (.mpb _ _ _ _ _)=>true | some (.arrD _ _ _ _ _)=>true | _=>false
 | _=>true
abbrev R2:=St×Prop
def aF (st:St):R2:=(st,False)
def Hq:D→Option V
 | .v x=>some x
 | .nils=>some (.sl 0 (α:=Unit) (fun _=>[]) () [])
 | _=>none
def wz:List D→Option (List V)
 | []=>some []
 | d::r=>match Hq d,wz r with
  | some x,some xs=>some (x::xs)
  | _,_=>none
def rp:List (List D)→Option (List (List V))
 | []=>some []
 | d::r=>match wz d,rp r with
  | some x,some xs=>some (x::xs)
  | _,_=>none
def EZ:D→V→Prop
 | .v x,y=>yc x y
 | .nils,.sl _ _ _ l=>l=[]
 | .nils,.nsl=>True
 | _,_=>False
def dG:List D→List V→Prop
 | [],[]=>True
 | d::ds,v::vs=>EZ d v∧dG ds vs
 | _,_=>False
def an:List (List D)→List (List V)→Prop
 | [],[]=>True
 | d::ds,v::vs=>dG d v∧an ds vs
 | _,_=>False
def lW (E sz:Nat) (L:List (List V)):Ov→am×Prop
 | .box E' Nk MW d' l'=>if Nat.beq E E'&&Nat.beq sz Nk then (.arr E sz MW d' l',L=l'.map MW)else (.dead,False)
 | _=>(.arr E sz (α:=Nat) (fun i=>L.getD i []) 0 (List.range L.length),True)
def newBox (st:St) (nt:Nat) (dst:Option Nat) (B:am) (d:D) (p:Prop):R2 :=
 match dst with
 | some t=>if Nat.blt t nt&&bj st.heap.length st.env&&aP st.heap.length st.heap then (⟨pX st.env t d,st.heap++[B]⟩,p)else aF st
 | none=>aF st
def eVar (nt:Nat) (st:St) (dst:Option Nat) (T:TypeId) (cs:List D):R2 :=
 if D.freeL st.heap.length cs then newBox st nt dst (.var T cs) (.ptr st.heap.length 0 0 0) True else aF st
def eVarAt (nt:Nat) (st:St) (dst:Option Nat) (id:Nat) (T:TypeId) (cs:List D):R2 :=
 match dst with
 | some t=>if Nat.blt t nt&&(Nat.blt id st.heap.length&&(bj id st.env&&aP id st.heap))&&D.freeL id cs then (⟨pX st.env t (.ptr id 0 0 0),st.heap.set id (.var T cs)⟩,True)else aF st
 | none=>aF st
def Gy (sz n i L':Nat) (new:List D) (P9:List Nat) (cell M1:Nat→Nat→D):Prop :=
 ∀i' j,i'<n→j<sz→M1 i' j=(if i'=i∧L'≤j∧j<L'+new.length then new.getD (j-L') .junk else cell i' j)∧∀id,P9.all (fun g=>!(Nat.beq g id))=true→(M1 i' j).free id=true
def rq (P:Program) (st:St) (ov:Ov) (t:TypeId) (a x:D):R2 :=
 match a,ij st.heap x with
 | .ptr id i sz L',some new =>
  if bL P t&&Nat.beq new.length (ap P t)&&new.all (rn st.heap)then
   match st.heap[id]? with
   | some (.var T cs)=>if Nat.beq i 0&&Nat.ble (L'+new.length) cs.length then (⟨st.env,st.heap.set id (.var T (d6 cs new L'))⟩,True)else aF st
   | some (.arr E Nk enc d l)=>match wz new with
    | some nv=>if Nat.beq sz Nk&&Nat.ble (L'+nv.length) sz then
      match lW E sz ((l.map enc).set i ((enc (l.getD i d)).take L'++nv++(enc (l.getD i d)).drop (L'+nv.length))) ov with
      | (B,p)=>(⟨st.env,st.heap.set id B⟩,i<l.length∧p)
     else aF st
    | none=>aF st
   | some (.arrD E Nk n _ cell)=>match ov with
    | .cells P9 M1=>if Nat.beq sz Nk&&Nat.ble (L'+new.length) sz then (⟨st.env,st.heap.set id (.arrD E sz n P9 M1)⟩,i<n∧Gy sz n i L' new P9 cell M1)else aF st
    | _=>aF st
   | _=>aF st
  else aF st
 | _,_=>aF st
def lZ (sz n:Nat) (cells:List D):List (List D):=(List.range n).map fun i=>(cells.drop (i*sz)).take sz
def oO (P:Program) (nt:Nat) (st:St) (ov:Ov) (dst:Option Nat) (t:TypeId) (len:Nat) (MS:List (Nat×D)):R2 :=
 match P.underlying t with
 | some (.slice E)=>match fe P E with
  | some z=>if bL P E&&Nat.beq z.length (ap P E)&&Nat.ble 1 (ap P E)&&Nat.ble (len*ap P E) 4096 then
    match fc st.heap (fun i=>some (i*ap P E,ap P E)) (List.replicate len z).flatten MS with
    | some cells=>match ov with
     | .box E' Nk MW d' l'=>if Nat.beq E E'&&Nat.beq (ap P E) Nk then newBox st nt dst (.arr E (ap P E) MW d' l') (.own st.heap.length) (an (lZ (ap P E) len cells) (l'.map MW))else aF st
     | .cells gs cell=>if gs.all (fun g=>Nat.blt g st.heap.length)&&cells.all (rn st.heap)then newBox st nt dst (.arrD E (ap P E) len gs cell) (.own st.heap.length) (∀i j,i<len→j<ap P E→cell i j=cells.getD (i*ap P E+j) .junk∧∀k,gs.all (fun g=>!(Nat.beq g k))=true→(cell i j).free k=true)else aF st
     | _=>match rp (lZ (ap P E) len cells)with
      | some L=>newBox st nt dst (.arr E (ap P E) (α:=Nat) (fun i=>L.getD i []) 0 (List.range L.length)) (.own st.heap.length) True
      | none=>aF st
    | none=>aF st
   else aF st
  | none=>aF st
 | _=>aF st
def d8 (P:Program) (t:TypeId):Nat:=((P.info? t).map (·.bytes)).getD 0
def tS (P:Program) (nt:Nat) (st:St) (ov:Ov) (dst:Option Nat) (t:TypeId) (l c:D):R2 :=
 match P.underlying t,l,c with
 | some (.slice E),.v (.int _ n),.v (.int _ m)=>match fe P E with
  | some z=>if bL P E&&Nat.beq z.length (ap P E)&&Nat.ble 1 (ap P E)&&Nat.ble (d8 P E) 1024 then
    match ov with
    | .box E' Nk MW d' l'=>if Nat.beq E E'&&Nat.beq (ap P E) Nk then newBox st nt dst (.arr E (ap P E) MW d' l') (.own st.heap.length) ((0≤n∧n≤m∧m≤137438953472)∧l'.length=n.toNat∧∀x∈l',dG z (MW x))else aF st
    | _=>aF st
   else aF st
  | none=>aF st
 | _,_,_=>aF st
def rr (H:List am) (sz:Nat):D→Option (List (List V))
 | .v (.sl Nk enc _ l)=>if Nat.beq sz Nk then some (l.map enc)else none
 | .own id=>match H[id]? with
  | some (.arr _ Nk enc _ l)=>if Nat.beq sz Nk then some (l.map enc)else none
  | _=>none
 | .nils=>some []
 | .v .nsl=>some []
 | .v .esl=>some []
 | _=>none
def vb (P:Program) (nt:Nat) (st:St) (ov:Ov) (dst:Option Nat) (t:TypeId) (s x:D):R2 :=
 match P.underlying t with
 | some (.slice E)=>match fe P E,rr st.heap (ap P E) x with
  | some z,some new=>if bL P E&&Nat.beq z.length (ap P E)&&Nat.ble 1 (ap P E)&&Nat.ble (d8 P E) 1024 then
    match s with
    | .own id=>match st.heap[id]?,dst with
     | some (.arr E' Nk enc d l),some td=>if Nat.beq E E'&&Nat.beq Nk (ap P E)&&Nat.blt td nt&&D.free id x then
       match lW E Nk (l.map enc++new) ov with
       | (B,p)=>(⟨pX (jE id st.env) td (.own id),bc (bS id st.heap) id B⟩,l.length+new.length≤137438953472∧p)
      else aF st
     | _,_=>aF st
    | .nils=>match lW E (ap P E) new ov with
     | (B,p)=>newBox st nt dst B (.own st.heap.length) (new.length≤137438953472∧p)
    | .capd (.sl Nk enc _ l)=>if Nat.beq Nk (ap P E)then
      match lW E (ap P E) (l.map enc++new) ov with
      | (B,p)=>newBox st nt dst B (.own st.heap.length) (0<new.length∧l.length+new.length≤137438953472∧p)
     else aF st
    | _=>aF st
   else aF st
  | _,_=>aF st
 | _=>aF st
def yg (ag:Bool) (x:D):Option (List V):=if ag then (match x with | .agg ds=>wz ds | _=>none)else (Hq x).map fun v=>[v]
def ve (P:Program) (st:St) (ov:Ov) (t:TypeId) (m k x:D):R2 :=
 match P.underlying t,m,k with
 | some (.map K E),.own id,.v (.str k)=>match P.underlying K,st.heap[id]?,ov with
  | some .string,some (.mpb t' ag enc d l),.mbox t2 ag2 Oa d2 l2=>match yg ag x with
   | some vs=>if Nat.beq t t'&&Nat.beq t t2&&(ag==ag2)then (⟨st.env,st.heap.set id (.mpb t ag Oa d2 l2)⟩,lR (l.map fun p=>(p.1,enc p.2)) k vs=l2.map fun p=>(p.1,Oa p.2))else aF st
   | none=>aF st
  | _,_,_=>aF st
 | _,_,_=>aF st
def rt (P:Program) (nt:Nat) (st:St) (ov:Ov) (dst:Option Nat) (t:TypeId) (s x:D):R2 :=
 match P.underlying t,s,x,dst with
 | some (.slice E),.own id,.own iy,some td=>match fe P E,st.heap[id]?,st.heap[iy]?,ov with
  | some z,some (.arrD E1 sz1 n _ cell),some (.arrD _ Qv m _ SC),.cells P9 M1 =>
   if (bL P E&&Nat.beq z.length (ap P E)&&Nat.ble 1 (ap P E)&&Nat.ble (d8 P E) 1024)&&(Nat.beq E E1&&Nat.beq sz1 (ap P E)&&Nat.beq Qv (ap P E))&&Nat.blt td nt then
    (⟨pX (jE id st.env) td (.own id),bc (bS id st.heap) id (.arrD E (ap P E) (n+m) P9 M1)⟩,n+m≤137438953472∧∀i j,i<n+m→j<ap P E→M1 i j=(if i<n then cell i j else SC (i-n) j)∧(M1 i j).free id=true∧∀k,P9.all (fun g=>!(Nat.beq g k))=true→(M1 i j).free k=true)
   else aF st
  | _,_,_,_=>aF st
 | _,_,_,_=>aF st
def ru (P:Program) (nt:Nat) (st:St) (ov:Ov) (dst:Option Nat) (t:TypeId) (s x:D):R2 :=
 match P.underlying t,s,dst with
 | some (.slice E),.own id,some td=>match fe P E,rr st.heap (ap P E) x,st.heap[id]?,ov with
  | some z,some new,some (.arr E0 QP enc d l),.apq E' Nk MW d' l' =>
   if (bL P E&&Nat.beq z.length (ap P E)&&Nat.ble 1 (ap P E)&&Nat.ble (d8 P E) 1024)&&(Nat.beq E E0&&Nat.beq QP (ap P E)&&Nat.beq E E'&&Nat.beq Nk (ap P E))&&(Nat.blt td nt&&bj st.heap.length st.env&&aP st.heap.length st.heap&&(a9 id st.heap&&bj id (f9 id (.nw st.heap.length) st.env)&&aP id (bz id (.nw st.heap.length) st.heap)))then
    (⟨pX (f9 id (.nw id) st.env) td (.own id),(bz id (.nw id) st.heap).set id (.arr E Nk MW d' l')++[.dead]⟩,l.length+new.length≤137438953472∧l.map enc++new=l'.map MW∧yd QP (l.map enc) (m4 id st.env++jV id st.heap))
   else aF st
  | _,_,_,_=>aF st
 | _,_,_=>aF st
def rx (P:Program) (nt:Nat) (st:St) (ov:Ov) (dst:Option Nat) (t:TypeId) (s x:D):R2 :=
 match P.underlying t,s,dst with
 | some (.slice E),.own id,some td=>match fe P E,rr st.heap (ap P E) x,st.heap[id]?,ov with
  | some z,some new,some (.arr E0 QP enc d l),.apf E' Nk MW d' l' =>
   if (bL P E&&Nat.beq z.length (ap P E)&&Nat.ble 1 (ap P E)&&Nat.ble (d8 P E) 1024)&&(Nat.beq E E0&&Nat.beq QP (ap P E)&&Nat.beq E E'&&Nat.beq Nk (ap P E))&&(Nat.blt td nt&&bj st.heap.length st.env&&aP st.heap.length st.heap)then
    (⟨pX (f9 id (.sl (.sl QP enc d l)) st.env) td (.v (.sl QP MW d' l')),(bz id (.sl (.sl QP enc d l)) st.heap).set id .dead++[.dead]⟩,l.length+new.length≤137438953472∧l.map enc++new=l'.map MW)
   else aF st
  | _,_,_,_=>aF st
 | _,_,_=>aF st
def ePut (nt:Nat) (st:St) (dst:Option Nat) (d:D) (p:Prop):R2 :=
 match dst with
 | some t=>if Nat.blt t nt then (⟨pX st.env t d,st.heap⟩,p)else aF st
 | none=>(st,p)
def zG (P:Program) (nt:Nat) (st:St) (dst:Option Nat) (t:TypeId) (x ix:D) (i:Option Nat):R2 :=
 match P.underlying t,x,ix with
 | some (.map K E),.v (.mp es),.v (.int k n)=>match P.underlying K,k with
  | some (.int .i64),.i64=>match i with
   | some j=>match es[j]? with
    | some e=>ePut nt st dst (.tup [D.ofVal e.2,.v (.bool true)]) (n=e.1∧∀e'∈es.take j,n≠e'.1)
    | none=>aF st
   | none=>match (P.info? E).bind (·.zero)with
    | some z=>ePut nt st dst (.tup [D.ofVal z,.v (.bool false)]) (∀e'∈es,n≠e'.1)
    | none=>aF st
  | _,_=>aF st
 | _,_,_=>aF st
def HF (P:Program) (nt:Nat) (st:St) (dst:Option Nat) (t:TypeId) (x ix:D) (d:D):R2 :=
 match P.underlying t,x,ix with
 | some (.map K E),.v (.mp es),.v (.int k n)=>match P.underlying K,k with
  | some (.int .i64),.i64=>ePut nt st dst (.tup [d,.v (.bool true)]) (∃(j:Nat) (e:Int×Value),es[j]?=some e∧n=e.1∧(∀e'∈es.take j,n≠e'.1)∧xM (D.ofVal e.2) d)
  | _,_=>aF st
 | _,_,_=>aF st
def gY (P:Program) (f:FuncId):Bool:=match P.funcs[f]? with
 | some fn=>!(fn.name == "runtime.NumGoroutine")&&!fn.body.isNone
 | none=>false
def mz:Option am→Bool
 | some .dead=>true
 | _=>false
def HG (P:Program) (fn:Func) (r:D) (H:List am):Exit→St→Prop
 | .normal,st=>fJ P fn st∧xM (fD P fn st) r∧st.heap.take H.length=H
 | .ret,st=>fJ P fn st∧xM (fD P fn st) r∧st.heap.take H.length=H
 | _,_=>False
def j5 (P:Program) (g:FuncId) (ds:List D) (H:List am) (r:D) (H':List am):Prop :=
 ∃fn c,P.funcs[g]?=some fn∧fn.body=some c∧Nat.ble ds.length fn.ntmps=true ∧
  ∀C:jC,C.P=P→C.nt=fn.ntmps→C.rd=none→Ev C c (HG P fn r H') ⟨ge 0 ds,H⟩
def ry:Exit→LoopState
 | .normal=>.ready
 | _=>.done
def vf:Exit→Option Code
 | .ret=>some .ret
 | .exit i=>some (.exit i)
 | _=>none
def CA:Exit→Option Bool
 | .normal=>some true
 | .ret=>some false
 | .exit _=>some false
 | _=>none
def CE (id l:Nat) (b:Bool) (H:List am) (e:Exit) (st:St):Prop :=
 match st.heap[id]? with
 | some (.loop l' tm nt env ps q' bd _ _)=>l'=l∧CA e=some b∧(st.heap.set id (.loop l' tm nt env ps q' bd (ry e) (vf e))).take H.length=H
 | _=>False
def CF (C:jC) (body:Code) (id l:Nat) (b:Bool) (H:List am):Exit→St→Prop
 | .normal,st=>match st.heap[id]? with
  | some (.loop l' tm nt env ps q' bd .ready none)=>l'=l∧Ev C body (CE id l b H) ⟨st.env,st.heap.set id (.loop l' tm nt env ps q' bd .busy none)⟩
  | _=>False
 | _,_=>False
def E3 (P:Program) (l nt:Nat) (assign body:Code) (st:St) (id:Nat) (b:Bool) (H:List am):Prop :=
 ∀C:jC,C.P=P→C.nt=nt→C.rd=some l→Ev C assign (CF C body id l b H) st
def zH:List Nat→List D→List (Nat×D)→List (Nat×D)
 | p::ps,d::ds,env=>zH ps ds (pX env p d)
 | _,_,env=>env
def CG (P:Program) (nt:Nat) (st:St) (dst:Option Nat) (g:FuncId) (ds:List D) (r:D) (env:List (Nat×D)) (H:List am):R2 :=
 if gY P g&&bj st.heap.length st.env&&aP st.heap.length st.heap&&mz H[st.heap.length]? then
  ePut nt ⟨env,H⟩ dst r (∀tm:Array Value,j5 P g ds (st.heap++[.frame tm st.env]) r (H.set st.heap.length (.frame tm env)))
 else aF st
def I8 (P:Program) (g:FuncId) (ds:List D) (H:List am) (env:List (Nat×D)) (r:D):Prop:=∀tm:Array Value,j5 P g ds (H++[.frame tm env]) r (H++[.frame tm env])
def CH (P:Program) (nt:Nat) (st:St) (dst:Option Nat) (g:FuncId) (ds:List D) (r:D):R2 :=
 if gY P g&&bj st.heap.length st.env&&aP st.heap.length st.heap then ePut nt ⟨st.env,st.heap++[.dead]⟩ dst r (I8 P g ds st.heap st.env r)else aF st
theorem CI {P:Program} {nt:Nat} {st I':St} {dst:Option Nat} {g:FuncId} {ds:List D} {r:D} {p:Prop} (h:CH P nt st dst g ds r=(I',p)) (hp:p) :
  ∃p',CG P nt st dst g ds r st.env (st.heap++[.dead])=(I',p')∧p':=by
 unfold CH at h
 unfold CG
 have hd:mz (st.heap++[am.dead])[st.heap.length]?=true:=by simp[mz]
 have hs:∀B,(st.heap++[am.dead]).set st.heap.length B=st.heap++[B]:=by intro B;simp
 split at h
 ·rename_i hc
  rw[KT (by rw[hc,hd];rfl)]
  unfold ePut at h ⊢
  cases dst with
  | none =>
   simp only[KJ]at h
   obtain⟨rfl,rfl⟩:=h
   exact⟨_,rfl,fun tm=>by rw[hs];exact hp _⟩
  | some t =>
   simp only at h ⊢
   split at h
   ·rename_i ht
    simp only[KJ]at h
    obtain⟨rfl,rfl⟩:=h
    rw[KT ht]
    exact⟨_,rfl,fun tm=>by rw[hs];exact hp _⟩
   ·simp only[aF,KJ]at h
    obtain⟨_,rfl⟩:=h
    exact hp.elim
 ·simp only[aF,KJ]at h
  obtain⟨_,rfl⟩:=h
  exact hp.elim
def yh (P:Program) (nt:Nat) (st:St) (dst:Option Nat) (id:Nat) (ds:List D) (b:Bool) (env:List (Nat×D)) (H:List am):R2 :=
 match st.heap[id]? with
 | some (.loop l tm ntL Ro ps q' body .ready none) =>
  if bj st.heap.length st.env&&aP st.heap.length st.heap&&mz H[st.heap.length]?&&Nat.beq ps.length ds.length&&ps.all (fun p=>Nat.blt p ntL)then
   ePut nt ⟨env,H⟩ dst (.v (.bool b)) (∀tmF:Array Value,E3 P l ntL q' body ⟨zH ps ds Ro,st.heap++[.frame tmF st.env]⟩ id b (H.set st.heap.length (.frame tmF env)))
  else aF st
 | _=>aF st
def CJ (P:Program) (nt:Nat) (st:St) (ov:Ov) (dst:Option Nat) (f:D) (ds:List D):R2 :=
 match f with
 | .fn (.func g) first cap=>match ov with
  | .call q' al r=>if gY P g&&da r&&(!al||d7 (first++ds++cap))then
    ePut nt st dst r (mr P g st.heap (first++ds++cap) q' al r)
   else aF st
  | .callr id q' r=>if gY P g&&da r then ePut nt st dst r (i4 P g st.heap (first++ds++cap) id q' r)else aF st
  | .callg q' al r=>if da r&&(!al||d7 (first++ds++cap))then
    ePut nt st dst r (gY P g=true∧mr P g st.heap (first++ds++cap) q' al r)
   else aF st
  | .inl r env H=>CG P nt st dst g (first++ds++cap) r env H
  | .inls r=>CH P nt st dst g (first++ds++cap) r
  | .ownc q' r B=>if gY P g&&ye r&&bj st.heap.length st.env&&aP st.heap.length st.heap then
    ePut nt ⟨st.env,st.heap++[B]⟩ dst (r.up st.heap.length) (u9 P g st.heap (first++ds++cap) q' r B)
   else aF st
  | .ownd q' r B=>if gY P g&&(ye r&&(B.isOwn&&d7 (first++ds++cap)))&&bj st.heap.length st.env&&aP st.heap.length st.heap then
    ePut nt ⟨st.env,st.heap++[B]⟩ dst (r.up st.heap.length) (qt P g st.heap (first++ds++cap) q' r B)
   else aF st
  | _=>aF st
 | .yld id=>match ov with
  | .yld b env H=>yh P nt st dst id ds b env H
  | _=>aF st
 | _=>aF st
def rz (nt:Nat) (st:St) (ov:Ov) (dst:Option Nat) (r:R1):R2 :=
 match ov with
 | .val d'=>ePut nt st dst d' (r.2∧xM r.1 d')
 | .lift d'=>ePut nt st dst d' (r.2∧tA r.1 d')
 | _=>ePut nt st dst r.1 r.2
def l5 (P:Program) (nt:Nat) (ov:Ov) (o:Oper) (st:St):R2 :=
 match o.op with
 | .alloc T=>match fe P T with
  | some z=>(match ov with | .idx (some id)=>eVarAt nt st o.dst id T z | _=>eVar nt st o.dst T z)
  | none=>aF st
 | .box T x=>match ij st.heap (dA st.env x)with
  | some cs=>eVar nt st o.dst T cs
  | none=>aF st
 | .store t a x=>match o.dst with
  | none=>rq P st ov t (dA st.env a) (dA st.env x)
  | some _=>aF st
 | .buildSlice t len MS=>match ov with
  | .frz E sz enc d l=>match oO P nt st (.box E sz enc d l) o.dst t len (MS.toList.map fun p=>(p.1,dA st.env p.2))with
   | (Nt,p)=>match kM st.heap.length Nt with
    | some Qu=>(Qu,p)
    | none=>aF st
  | _=>oO P nt st ov o.dst t len (MS.toList.map fun p=>(p.1,dA st.env p.2))
 | .makeSlice t l c=>match ov with
  | .frz E sz enc d l'=>match tS P nt st (.box E sz enc d l') o.dst t (dA st.env l) (dA st.env c)with
   | (Nt,p)=>match kM st.heap.length Nt with
    | some Qu=>(Qu,p)
    | none=>aF st
  | _=>tS P nt st ov o.dst t (dA st.env l) (dA st.env c)
 | .call ⟨.builtin .append,args,PN⟩=>match args.toList,PN.toList with
  | [s,x],[t,t']=>if Nat.beq t t' then (match ov with | .apf _ _ _ _ _=>rx P nt st ov o.dst t (dA st.env s) (dA st.env x) | .cells _ _=>rt P nt st ov o.dst t (dA st.env s) (dA st.env x) | .apq _ _ _ _ _=>ru P nt st ov o.dst t (dA st.env s) (dA st.env x) | _=>vb P nt st ov o.dst t (dA st.env s) (dA st.env x))else aF st
  | _,_=>aF st
 | .call ⟨.value f,args,_⟩=>CJ P nt st ov o.dst (dA st.env f) (args.toList.map (dA st.env))
 | .lookup t x ix true=>match ov with
  | .idx i=>zG P nt st o.dst t (dA st.env x) (dA st.env ix) i
  | .ent d=>HF P nt st o.dst t (dA st.env x) (dA st.env ix) d
  | _=>rz nt st ov o.dst (ew P st.heap (dA st.env) o.op)
 | .makeMap t none=>match ov with
  | .mbox t' ag enc d _=>if Nat.beq t t' then newBox st nt o.dst (.mpb t ag enc d []) (.own st.heap.length) True else aF st
  | _=>aF st
 | .mapUpdate t m k x=>match o.dst with
  | none=>ve P st ov t (dA st.env m) (dA st.env k) (dA st.env x)
  | some _=>aF st
 | op=>rz nt st ov o.dst (ew P st.heap (dA st.env) op)
section
variable {C:jC} {S:Nat→Prop} {μ:Nat→Value} {st I':St} {a:Act} {w w':World} {p:Prop}
theorem aK.newBox (h:aK C S μ st a w) {dst:Option Nat} {B:am} {d:D} {q:Prop} (hp:newBox st C.nt dst B d q=(I',p)) (D':p) (hg:w.grownBy w' none) {u:Value}
  (G':az S (aM μ st.heap.length u) w' u B) (MX:∀b,bi u b→w.heap.size≤b) {v:Value} (hv:ah S (aM μ st.heap.length u) w' d v) (Oj:B.isRo=false:=by rfl) :
  q∧aK C S (aM μ st.heap.length u) I' (a.put dst v) w':=by
 unfold Proofs.Ytgmpoenfoacofaa.newBox at hp
 split at hp
 ·split at hp
  ·rename_i t hc
   simp only[KD,Mq]at hc
   simp only[KJ]at hp
   obtain⟨rfl,rfl⟩:=hp
   refine⟨D',?_⟩
   have:=(h.upd (id:=st.heap.length) (B:=B) (u:=u) hg (fun k hk=>by cases hk) (KI _) G' (fun b hb=>.inr (MX b hb)) (.inr ⟨fun A hA=>by simp at hA,hc.1.2,hc.2⟩) Oj).put hc.1.1 hv
   rw[show bc st.heap st.heap.length B=st.heap++[B]from by simp[bc]]at this
   exact this
  ·simp only[aF,KJ]at hp
   rw[← hp.2]at D'
   exact D'.elim
 ·simp only[aF,KJ]at hp
  rw[← hp.2]at D'
  exact D'.elim
theorem aK.eVar (h:aK C S μ st a w) {dst:Option Nat} {T:TypeId} {cs:List D} {vs:Array Value} (hp:eVar C.nt st dst T cs=(I',p)) (D':p) (hr:aE S μ w cs vs) :
  aK C S (aM μ st.heap.length (.pointer (some ⟨w.heap.size,0,none⟩))) I' (a.put dst (.pointer (some ⟨w.heap.size,0,none⟩))) (w.alloc (.cells vs T)):=by
 unfold Proofs.Ytgmpoenfoacofaa.eVar at hp
 split at hp
 ·rename_i hf
  have hg:=LR w (.cells vs T) none
  refine(h.newBox hp D' hg ⟨w.heap.size,vs,rfl,LS w _,hr.1,fun j y x hy hx=>?_⟩ (fun b hb=>by simp[bi,aA]at hb;omega) ?_).2
  ·refine(hr.2 j y x hy hx).stable (fun _ h _=>h) (fun b _ hb=>hg.block b hb (by simp)) hg.size (fun id M5=>?_)
   refine av _ _ (fun e=>?_)
   rw[e,D.freeL_get hf hy]at M5
   cases M5
  ·have:=ah.ptr (S:=S) (μ:=aM μ st.heap.length (.pointer (some ⟨w.heap.size,0,none⟩))) (w:=w.alloc (.cells vs T)) st.heap.length 0 0 0 w.heap.size (by rw[ao];rfl)
   simpa using this
 ·simp only[aF,KJ]at hp
  rw[← hp.2]at D'
  exact D'.elim
theorem aK.eVarAt (h:aK C S μ st a w) {dst:Option Nat} {id:Nat} {T:TypeId} {cs:List D} {vs:Array Value} (hp:eVarAt C.nt st dst id T cs=(I',p)) (D':p) (hr:aE S μ w cs vs) :
  aK C S (aM μ id (.pointer (some ⟨w.heap.size,0,none⟩))) I' (a.put dst (.pointer (some ⟨w.heap.size,0,none⟩))) (w.alloc (.cells vs T)):=by
 unfold Proofs.Ytgmpoenfoacofaa.eVarAt at hp
 split at hp
 ·rename_i t
  split at hp
  ·rename_i hc
   simp only[KD,Mq]at hc
   obtain⟨⟨hc1,P',hc3,hc4⟩,hf⟩:=hc
   simp only[KJ]at hp
   obtain⟨rfl,rfl⟩:=hp
   have hg:=LR w (.cells vs T) none
   have h1:=h.upd0 (id:=id) (B:=.var T cs) (u:=.pointer (some ⟨w.heap.size,0,none⟩)) hg (fun k hk=>by cases hk) (Nat.le_of_lt P') ⟨w.heap.size,vs,rfl,LS w _,hr.1,fun j y x hy hx=>by
    refine(hr.2 j y x hy hx).stable (fun _ h _=>h) (fun b _ hb=>hg.block b hb (by simp)) hg.size (fun id' M5=>?_)
    refine av _ _ (fun e=>?_)
    rw[e,D.freeL_get hf hy]at M5
    cases M5⟩ (fun b hb=>by simp[bi,aA]at hb;omega) (.inr ⟨hc3,hc4⟩)
   have h2:=h1.put hc1 (d:=.ptr id 0 0 0) (u:=.pointer (some ⟨w.heap.size,0,none⟩)) (by
    have:=ah.ptr (S:=S) (μ:=aM μ id (.pointer (some ⟨w.heap.size,0,none⟩))) (w:=w.alloc (.cells vs T)) id 0 0 0 w.heap.size (by rw[ao];rfl)
    simpa using this)
   rw[show bc st.heap id (.var T cs)=st.heap.set id (.var T cs)from by
    unfold bc
    rw[KK (by intro hh;rw[KU]at hh;omega)]]at h2
   exact h2
  ·simp only[aF,KJ]at hp
   rw[← hp.2]at D'
   exact D'.elim
 ·simp only[aF,KJ]at hp
  rw[← hp.2]at D'
  exact D'.elim
theorem j6:∀{ds:List D} {xs:List V},wz ds=some xs→ds.length=xs.length∧∀(j:Nat) (x:V),xs[j]?=some x→∃d,ds[j]?=some d∧Hq d=some x
 | [],xs,h=>by
  simp only[wz,KP]at h
  subst h
  exact⟨rfl,fun j x hx=>by simp at hx⟩
 | d::r,xs,h=>by
  unfold wz at h
  split at h
  ·rename_i y ys hy hys
   simp only[KP]at h
   subst h
   obtain⟨h1,h2⟩:=j6 hys
   refine⟨by simp[h1],fun j x hx=>?_⟩
   cases j with
   | zero=>simp at hx;subst hx;exact⟨d,rfl,hy⟩
   | succ j=>simpa using h2 j x (by simpa using hx)
  ·cases h
theorem qu {d:D} {x:V} {u:Value} (h:Hq d=some x) (hd:ah S μ w d u):ci S w x u:=by
 unfold Hq at h
 split at h
 ·cases h;exact ba hd
 ·cases h
  cases hd
  exact .nil _ _ _ _ _ (by simp[maxLen]) (fun _=>rfl)
 ·cases h
theorem j7 {d:D} {x:V} {u:Value} (h:EZ d x) (hd:ah S μ w d u):ci S w x u:=by
 unfold EZ at h
 split at h
 ·exact mX h (ba hd)
 ·subst h
  cases hd
  exact .nil _ _ _ _ _ (by simp[maxLen]) (fun _=>rfl)
 ·cases hd
  exact .nsl
 ·exact h.elim
theorem dP:∀{ds:List D} {xs:List V},dG ds xs→ds.length=xs.length∧∀(j:Nat) (x:V),xs[j]?=some x→∃d,ds[j]?=some d∧EZ d x
 | [],[],_=>⟨rfl,fun j x hx=>by simp at hx⟩
 | [],_::_,h=>h.elim
 | _::_,[],h=>h.elim
 | d::r,y::ys,h=>by
  obtain⟨h1,h2⟩:=dP h.2
  refine⟨by simp[h1],fun j x hx=>?_⟩
  cases j with
  | zero=>simp at hx;subst hx;exact⟨d,rfl,h.1⟩
  | succ j=>simpa using h2 j x (by simpa using hx)
theorem i5:∀{ds:List (List D)} {xs:List (List V)},an ds xs→ds.length=xs.length∧∀(j:Nat) (x:List V),xs[j]?=some x→∃d,ds[j]?=some d∧dG d x
 | [],[],_=>⟨rfl,fun j x hx=>by simp at hx⟩
 | [],_::_,h=>h.elim
 | _::_,[],h=>h.elim
 | d::r,y::ys,h=>by
  obtain⟨h1,h2⟩:=i5 h.2
  refine⟨by simp[h1],fun j x hx=>?_⟩
  cases j with
  | zero=>simp at hx;subst hx;exact⟨d,rfl,h.1⟩
  | succ j=>simpa using h2 j x (by simpa using hx)
theorem rA:∀{ds:List (List D)} {xs:List (List V)},rp ds=some xs→ds.length=xs.length∧∀(j:Nat) (x:List V),xs[j]?=some x→∃d,ds[j]?=some d∧wz d=some x
 | [],xs,h=>by
  simp only[rp,KP]at h
  subst h
  exact⟨rfl,fun j x hx=>by simp at hx⟩
 | d::r,xs,h=>by
  unfold rp at h
  split at h
  ·rename_i y ys hy hys
   simp only[KP]at h
   subst h
   obtain⟨h1,h2⟩:=rA hys
   refine⟨by simp[h1],fun j x hx=>?_⟩
   cases j with
   | zero=>simp at hx;subst hx;exact⟨d,rfl,hy⟩
   | succ j=>simpa using h2 j x (by simpa using hx)
  ·cases h
def dg (S:Nat→Prop) (w:World) (E sz:Nat) (L:List (List V)) (u:Value):Prop :=
 (∀(i:Nat) (x:List V),L[i]?=some x→x.length=sz)∧∃xs,w.ownsRow 0 E sz u L.length xs∧∀(i:Nat) (x:List V) (j:Nat) (y:V),L[i]?=some x→x[j]?=some y→∃z,xs[i*sz+j]?=some z∧ci S w y z
theorem dg.box {E sz:Nat} {L:List (List V)} {u:Value} (h:dg S w E sz L u) {α:Type} {enc:α→List V} {d:α} {l:List α} (he:L=l.map enc):az S μ w u (.arr E sz enc d l):=by
 subst he
 obtain⟨h0,xs,h1,h2⟩:=h
 exact⟨fun i x hx=>h0 i _ (qp hx),xs,by simpa using h1,fun i x j y hx hy=>h2 i _ j y (qp hx) hy⟩
theorem dg.of {E sz:Nat} {u:Value} {α:Type} {enc:α→List V} {d:α} {l:List α} (h:az S μ w u (.arr E sz enc d l)):dg S w E sz (l.map enc) u:=by
 obtain⟨h0,xs,h1,h2⟩:=h
 refine⟨fun i x hx=>?_,xs,by simpa using h1,fun i x j y hx hy=>?_⟩
 ·obtain⟨z,hz,rfl⟩:=cO hx
  exact h0 i z hz
 ·obtain⟨z,hz,rfl⟩:=cO hx
  exact h2 i z j y hz hy
theorem tT (L:List (List V)):(List.range L.length).map (fun i=>L.getD i [])=L:=by
 refine Mw (by simp) (fun i h1 h2=>?_)
 simp[List.getD,h2]
theorem kO {E sz:Nat} {L:List (List V)} {ov:Ov} {B:am} {q:Prop} {u:Value} (h:lW E sz L ov=(B,q)) (hq:q) (hb:dg S w E sz L u):az S μ w u B∧B.isArr=true:=by
 unfold lW at h
 split at h
 ·split at h
  ·rename_i hc
   simp only[KJ]at h
   obtain⟨rfl,rfl⟩:=h
   exact⟨hb.box hq,rfl⟩
  ·cases h;exact hq.elim
 ·cases h;exact⟨hb.box (tT L).symm,rfl⟩
theorem CL {H:List am} (hH:aV S μ w H) {d:D} {u:Value} (h:rn H d=true) (hd:ah S μ w d u):u.oneCell'=true:=by
 cases hd with
 | v x u h=>exact h.one
 | nils=>rfl
 | own id =>
  unfold rn at h
  simp only at h
  split at h
  ·rename_i E sz α enc d l hb
   obtain⟨p,c,hu,_⟩:=bv (hH.box id _ hb)
   rw[hu]
   rfl
  ·rename_i E sz α enc d l hb
   obtain⟨p,c,hu,_⟩:=bv (hH.box id _ hb).ro_arr
   rw[hu]
   rfl
  ·rename_i t ag α enc d l hb
   obtain⟨b,arr,clock,hu,_⟩:=hH.box id _ hb
   rw[hu]
   rfl
  ·rename_i E sz m gs cell hb
   obtain⟨p,c,hu,_⟩:=eu (hH.box id _ hb)
   rw[hu]
   rfl
  ·cases h
 | ptr=>rfl
 | capd=>rfl
 | gr _ _ _ _ _ _ h=>exact h
 | preA=>rfl
 | preB _ _ _ _ _ _ _ h=>exact h.one
 | iptr=>rfl
 | agg=>cases h
 | tup=>cases h
 | fn=>rfl
 | yld=>rfl
 | junk=>cases h
theorem zI {H:List am} (hH:aV S μ w H) {cs:List D} {us:Array Value} (hr:aE S μ w cs us) (hall:cs.all (rn H)=true):∀z∈us.toList,z.oneCell'=true:=by
 intro z hz
 obtain⟨j,hj,e⟩:=MI hz
 have Rp:j<us.size:=by simpa using hj
 have hc:j<cs.length:=by have:=hr.1;omega
 rw[K2]at hall
 exact CL hH (hall _ (Mx hc)) (hr.2 j cs[j] z (KF hc) (by rw[← e];simp[Rp]))
end
section
variable {C:jC} {S:Nat→Prop} {μ:Nat→Value} {st I':St} {a:Act} {w w':World} {p:Prop}
theorem dh (w:World) (g:Nat) (cs:Array Value):w.grownBy (w.setRow g cs) (some g) :=
 ⟨rfl,rfl,rfl,by simp[World.setRow],fun k _ hk=>setRow_other w g k _ (fun e=>hk (by rw[e]))⟩
theorem c6 (μ:Nat→Value) (id:Nat):aM μ id (μ id)=μ:=by
 funext i
 unfold aM
 split
 ·rename_i h;rw[h]
 ·rfl
theorem fk {α:Type _} (cs new:List α) (L' j:Nat) (ho:L'+new.length≤cs.length) :
  (cs.take L'++new++cs.drop (L'+new.length))[j]?=if L'≤j∧j<L'+new.length then new[j-L']? else cs[j]?:=by
 by_cases hc:L'≤j∧j<L'+new.length
 ·rw[KT hc,KL (by simp;omega),KR (by simp;omega)]
  congr 1
  simp
  omega
 ·rw[KK hc]
  by_cases hj:j<L'
  ·rw[KL (by simp;omega),KL (by simp;omega),K4,KT hj]
  ·rw[KR (by simp;omega),LZ]
   simp only[KN,KV]
   rw[show L'+new.length+(j-(min L' cs.length+new.length))=j from by omega]
theorem na (h:aK C S μ st a w) {ov:Ov} {t:TypeId} {ad x:D} {uad ux:Value} (had:ah S μ w ad uad) (hx:ah S μ w x ux) (hp:rq C.P st ov t ad x=(I',p)) (D':p) :
  ∃w',(Instr.storeAt t uad ux).run C.P w=.ok () w'∧aK C S μ I' a w':=by
 unfold rq at hp
 split at hp
 ·rename_i id i sz L' new Nb
  split at hp
  ·rename_i hc
   simp only[KD,KU]at hc
   obtain⟨⟨hk,hl⟩,OP⟩:=hc
   obtain⟨b,hb,rfl⟩:=kK had
   have Nv:=fL h.heap hx Nb
   have Qw:=zI h.heap Nv OP
   have M3:∀(Na:Array Value) (T:TypeId),w.heap[b]?=some (.cells Na T (0,0))→i*sz+L'+new.length≤Na.size →
     (Instr.storeAt t (.pointer (some ⟨b,i*sz+L',none⟩)) ux).run C.P w=.ok () (w.setRow b (Na.toList.take (i*sz+L')++ux.cells.toList++Na.toList.drop (i*sz+L'+ux.cells.toList.length)).toArray):=by
    intro Na T hcur Nd
    have NR:=run_storeCells_at C.P b (i*sz+L') T ux.cells.toList 0 Na w hcur (by simp[Nv.1];exact Nd) Qw
    simp only[Ma]at NR
    simp only[Instr.storeAt,Instr.sureAddr,KH,KZ,KG]
    unfold storeVar
    simp only[KH,cV hk,KG]
    rw[KK (by rw[Nv.1,hl];simp)]
    exact NR
   split at hp
   ·rename_i T cs G'
    split at hp
    ·rename_i hc
     simp only[KD,KU,LJ]at hc
     obtain⟨rfl,Nd⟩:=hc
     simp only[KJ]at hp
     obtain⟨rfl,_⟩:=hp
     obtain⟨b',vs,hm,q1,q2,q3⟩:=h.heap.box id _ G'
     have hbb:b'=b:=by rw[hm]at hb;simpa[bi,aA]using hb
     subst hbb
     refine⟨_,M3 vs T q1 (by omega),?_⟩
     simp only[Nat.zero_mul,Li]
     have M5:id<st.heap.length:=(KE.1 G').1
     have hu:=h.upd (id:=id) (u:=μ id) (B:=.var T (d6 cs new L')) (row:=some b') (dh w b' (vs.toList.take L'++ux.cells.toList++vs.toList.drop (L'+ux.cells.toList.length)).toArray)
      (fun k hk=>⟨_,G',rfl,by cases hk;exact .inl hb⟩) (by omega) ?_ (fun k hk=>.inl (hk.one hb)) (.inl ⟨rfl,.inl rfl⟩)
     ·rw[c6]at hu
      have he:bc st.heap id (.var T (d6 cs new L'))=st.heap.set id (.var T (d6 cs new L')):=by
       unfold bc
       rw[KK (by rw[KU];omega)]
      rwa [he]at hu
     ·rw[c6]
      refine⟨b',_,hm,setRow_heap w b' vs _ T (0,0) q1,?_,fun j y z hy hz=>?_⟩
      ·have:=Nv.1
       simp only[L7,KN,KV,K7,Mg,d6]
       omega
      ·have M0:=Nv.1
       simp only[L1]at hz
       rw[fk _ _ _ _ (by simp;omega)]at hz
       unfold d6 at hy
       rw[fk _ _ _ _ Nd]at hy
       have hS:∀k,S k→k<w.heap.size→(w.setRow b' (vs.toList.take L'++ux.cells.toList++vs.toList.drop (L'+ux.cells.toList.length)).toArray).heap[k]?=w.heap[k]?:=fun k hk _ =>
        setRow_other w b' k _ (fun e=>h.heap.notS id _ b' G' rfl (.inl hb) (e ▸ hk))
       have SD:w.heap.size≤(w.setRow b' (vs.toList.take L'++ux.cells.toList++vs.toList.drop (L'+ux.cells.toList.length)).toArray).heap.size:=by simp[World.setRow]
       by_cases hcj:L'≤j∧j<L'+new.length
       ·rw[KT hcj]at hy
        rw[KT (by simp;omega)]at hz
        exact(Nv.2 _ _ _ hy (by simpa using hz)).stable (fun _ h _=>h) hS SD (fun _ _=>rfl)
       ·rw[KK hcj]at hy
        rw[KK (by simp;omega)]at hz
        exact(q3 _ _ _ hy (by simpa using hz)).stable (fun _ h _=>h) hS SD (fun _ _=>rfl)
    ·cases hp;exact D'.elim
   ·rename_i E Nk α enc d l G'
    split at hp
    ·rename_i nv hnv
     split at hp
     ·rename_i hc
      simp only[KD,KU,LJ]at hc
      obtain⟨rfl,Nd⟩:=hc
      generalize hq:lW E sz ((l.map enc).set i ((enc (l.getD i d)).take L'++nv++(enc (l.getD i d)).drop (L'+nv.length))) ov=q at hp
      obtain⟨B,q⟩:=q
      simp only[KJ]at hp
      obtain⟨rfl,rfl⟩:=hp
      obtain⟨hi,R7⟩:=D'
      obtain⟨r0,xs,r1,r2⟩:=h.heap.box id _ G'
      have hnvl:=(j6 hnv).1
      have hx0:l[i]?=some (l.getD i d):=by rw[eX _ _ hi];exact KF hi
      have hel:=r0 i _ hx0
      have R8:(i+1)*sz≤l.length*sz:=K3 _ hi
      rw[LN]at R8
      obtain⟨g,cap,Na,hm,-,hh,hn,Pe,hcs,QR⟩:∃g cap Na,μ id=.slice (some ⟨g,0,none⟩) l.length cap∧0≤g∧w.heap[g]?=some (.cells Na E (0,0))∧l.length≤cap∧cap≤maxLen∧Na.size=cap*sz∧Na.toList.take (l.length*sz)=xs:=by
       rcases r1.2 with ⟨_,h0⟩ | h1
       ·omega
       ·exact h1
      have hgb:g=b:=by rw[hm]at hb;simpa[bi,aA]using hb
      subst hgb
      have Pl:l.length*sz≤cap*sz:=K3 _ hn
      refine⟨_,M3 Na E hh (by omega),?_⟩
      have M5:id<st.heap.length:=(KE.1 G').1
      have M0:=Nv.1
      have hfit':i*sz+L'+new.length≤Na.size:=by omega
      generalize Ng:(Na.toList.take (i*sz+L')++ux.cells.toList++Na.toList.drop (i*sz+L'+ux.cells.toList.length))=row
      have Ok:∀j,row[j]?=if i*sz+L'≤j∧j<i*sz+L'+new.length then ux.cells[j-(i*sz+L')]? else Na[j]?:=by
       intro j
       rw[← Ng,fk _ _ _ _ (by simp;omega)]
       simp[M0]
      have Ol:row.length=Na.size:=by
       rw[← Ng]
       simp only[KN,KV,K7,Mg]
       omega
      have hS:∀k,S k→k<w.heap.size→(w.setRow g row.toArray).heap[k]?=w.heap[k]?:=fun k hk _ =>
       setRow_other w g k _ (fun e=>h.heap.notS id _ g G' rfl (.inl hb) (e ▸ hk))
      have SD:w.heap.size≤(w.setRow g row.toArray).heap.size:=by simp[World.setRow]
      have hA:dg S (w.setRow g row.toArray) E sz ((l.map enc).set i ((enc (l.getD i d)).take L'++nv++(enc (l.getD i d)).drop (L'+nv.length))) (μ id):=by
       refine⟨fun k x hx=>?_,row.take (l.length*sz),?_,fun k x j y hx hy=>?_⟩
       ·by_cases NW:i=k
        ·subst NW
         rw[KY (by simpa using hi)]at hx
         cases hx
         simp only[KN,KV,K7]
         omega
        ·rw[KW NW]at hx
         obtain⟨z,hz,rfl⟩:=cO hx
         exact r0 k z hz
       ·simp only[LF,KM]
        refine⟨by rw[KV,Ol];omega,.inr ⟨g,cap,row.toArray,hm,Mf _,setRow_heap w g Na _ E (0,0) hh,hn,Pe,by simp[Ol,hcs],by simp⟩⟩
       ·have QW:k<l.length:=by
         have:=(KE.1 hx).1
         simpa using this
        have Pu:(k+1)*sz≤l.length*sz:=K3 _ QW
        rw[LN]at Pu
        have old:∀(z:α) (j:Nat) (y:V),l[k]?=some z→(enc z)[j]?=some y→¬(i*sz+L'≤k*sz+j∧k*sz+j<i*sz+L'+new.length) →
          ∃u,(row.take (l.length*sz))[k*sz+j]?=some u∧ci S (w.setRow g row.toArray) y u:=by
         intro z j y hz hy N1
         obtain⟨u,hu,hr⟩:=r2 k z j y hz hy
         have hj:=(KE.1 hy).1
         have NS:=r0 k z hz
         refine⟨u,?_,hr.stable (fun _ h _=>h) hS SD⟩
         rw[K4,KT (by omega),Ok,KK N1]
         rw[← QR,K4,KT (by omega)]at hu
         simpa using hu
        by_cases NW:i=k
        ·subst NW
         rw[KY (by simpa using hi)]at hx
         cases hx
         rw[fk _ _ _ _ (by omega)]at hy
         by_cases hcj:L'≤j∧j<L'+nv.length
         ·rw[KT hcj]at hy
          obtain⟨d',hd',htv⟩:=(j6 hnv).2 _ _ hy
          have hju:j-L'<ux.cells.size:=by omega
          refine⟨ux.cells[j-L'],?_,?_⟩
          ·rw[K4,KT (by omega),Ok,KT (by omega),show i*sz+j-(i*sz+L')=j-L' from by omega]
           exact K0 hju
          ·exact(qu htv (Nv.2 _ _ _ hd' (K0 hju))).stable (fun _ h _=>h) hS SD
         ·rw[KK hcj]at hy
          exact old _ j y hx0 hy (by omega)
        ·rw[KW NW]at hx
         obtain⟨z,hz,rfl⟩:=cO hx
         have hj:=(KE.1 hy).1
         have NS:=r0 k z hz
         refine old z j y hz hy ?_
         rintro⟨c1,c2⟩
         rcases Nat.lt_or_ge k i with M6 | hge
         ·have:(k+1)*sz≤i*sz:=K3 _ M6
          rw[LN]at this
          omega
         ·have:(i+1)*sz≤k*sz:=K3 _ (by omega)
          rw[LN]at this
          omega
      obtain⟨hB,Qr⟩:=kO (μ:=μ) hq R7 hA
      have hu:=h.upd (id:=id) (u:=μ id) (B:=B) (row:=some g) (dh w g row.toArray)
       (fun k hk=>⟨_,G',rfl,by cases hk;exact .inl hb⟩) (by omega) (by rw[c6];exact hB) (fun k hk=>.inl (hk.one hb)) (.inl ⟨rfl,.inr ⟨_,G',rfl⟩⟩) (jQ Qr)
      rw[c6]at hu
      have he:bc st.heap id B=st.heap.set id B:=by
       unfold bc
       rw[KK (by rw[KU];omega)]
      rwa [he]at hu
     ·cases hp;exact D'.elim
    ·cases hp;exact D'.elim
   ·rename_i E Nk n gs cell G'
    split at hp
    ·rename_i P9 M1
     split at hp
     ·rename_i hc
      simp only[KD,KU,LJ]at hc
      obtain⟨rfl,Nd⟩:=hc
      simp only[KJ]at hp
      obtain⟨rfl,rfl⟩:=hp
      obtain⟨hi,NR⟩:=D'
      obtain⟨r0,xs,r1,r2⟩:=h.heap.box id _ G'
      have R8:(i+1)*sz≤n*sz:=K3 _ hi
      rw[LN]at R8
      obtain⟨g,cap,Na,hm,-,hh,hn,Pe,hcs,QR⟩:∃g cap Na,μ id=.slice (some ⟨g,0,none⟩) n cap∧0≤g∧w.heap[g]?=some (.cells Na E (0,0))∧n≤cap∧cap≤maxLen∧Na.size=cap*sz∧Na.toList.take (n*sz)=xs:=by
       rcases r1.2 with ⟨_,h0⟩ | h1
       ·omega
       ·exact h1
      have hgb:g=b:=by rw[hm]at hb;simpa[bi,aA]using hb
      subst hgb
      have Pl:n*sz≤cap*sz:=K3 _ hn
      refine⟨_,M3 Na E hh (by omega),?_⟩
      have M5:id<st.heap.length:=(KE.1 G').1
      have M0:=Nv.1
      have hfit':i*sz+L'+new.length≤Na.size:=by omega
      generalize Ng:(Na.toList.take (i*sz+L')++ux.cells.toList++Na.toList.drop (i*sz+L'+ux.cells.toList.length))=row
      have Ok:∀j,row[j]?=if i*sz+L'≤j∧j<i*sz+L'+new.length then ux.cells[j-(i*sz+L')]? else Na[j]?:=by
       intro j
       rw[← Ng,fk _ _ _ _ (by simp;omega)]
       simp[M0]
      have Ol:row.length=Na.size:=by
       rw[← Ng]
       simp only[KN,KV,K7,Mg]
       omega
      have hS:∀k,S k→k<w.heap.size→(w.setRow g row.toArray).heap[k]?=w.heap[k]?:=fun k hk _ =>
       setRow_other w g k _ (fun e=>h.heap.notS id _ g G' rfl (.inl hb) (e ▸ hk))
      have SD:w.heap.size≤(w.setRow g row.toArray).heap.size:=by simp[World.setRow]
      have hB:az S μ (w.setRow g row.toArray) (μ id) (.arrD E sz n P9 M1):=by
       refine⟨fun i' j k NK hj hk=>(NR i' j NK hj).2 k hk,row.take (n*sz),⟨by rw[KV,Ol];omega,.inr ⟨g,cap,row.toArray,hm,Mf _,setRow_heap w g Na _ E (0,0) hh,hn,Pe,by simp[Ol,hcs],by simp⟩⟩,fun i' j NK hj=>?_⟩
       have Pu:(i'+1)*sz≤n*sz:=K3 _ NK
       rw[LN]at Pu
       rw[(NR i' j NK hj).1]
       by_cases hcj:i'=i∧L'≤j∧j<L'+new.length
       ·rw[KT hcj]
        obtain⟨rfl,c1,c2⟩:=hcj
        have hju:j-L'<ux.cells.size:=by omega
        refine⟨ux.cells[j-L'],?_,Qw _ (by simp),?_⟩
        ·rw[K4,KT (by omega),Ok,KT (by omega),show i'*sz+j-(i'*sz+L')=j-L' from by omega]
         exact K0 hju
        ·have hn':new[j-L']?=some (new.getD (j-L') .junk):=by rw[eX _ _ (by omega)];exact KF (by omega)
         exact(Nv.2 _ _ _ hn' (K0 hju)).stable (fun _ h _=>h) hS SD (fun _ _=>rfl)
       ·rw[KK hcj]
        obtain⟨z,hz,ho,hr⟩:=r2 i' j NK hj
        refine⟨z,?_,ho,hr.stable (fun _ h _=>h) hS SD (fun _ _=>rfl)⟩
        rw[K4,KT (by omega),Ok,KK]
        ·rw[← QR,K4,KT (by omega)]at hz
         simpa using hz
        ·rintro⟨c1,c2⟩
         rcases Nat.lt_trichotomy i' i with M6 | RH | hgt
         ·have:(i'+1)*sz≤i*sz:=K3 _ M6
          rw[LN]at this
          omega
         ·subst RH
          exact hcj ⟨rfl,by omega,by omega⟩
         ·have:(i+1)*sz≤i'*sz:=K3 _ hgt
          rw[LN]at this
          omega
      have hu:=h.upd (id:=id) (u:=μ id) (B:=.arrD E sz n P9 M1) (row:=some g) (dh w g row.toArray)
       (fun k hk=>⟨_,G',rfl,by cases hk;exact .inl hb⟩) (by omega) (by rw[c6];exact hB) (fun k hk=>.inl (hk.one hb)) (.inl ⟨rfl,.inl rfl⟩)
      rw[c6]at hu
      have he:bc st.heap id (.arrD E sz n P9 M1)=st.heap.set id (.arrD E sz n P9 M1):=by
       unfold bc
       rw[KK (by rw[KU];omega)]
      rwa [he]at hu
     ·cases hp;exact D'.elim
    ·cases hp;exact D'.elim
   ·cases hp;exact D'.elim
  ·cases hp;exact D'.elim
 ·cases hp;exact D'.elim
end
section
variable {C:jC} {S:Nat→Prop} {μ:Nat→Value} {st I':St} {a:Act} {w w':World} {p:Prop}
theorem eY {P:Program} {E:TypeId} {z:List D} (hz:fe P E=some z):∃(i:TypeInfo) (v:Value),P.info? E=some i∧i.zero=some v∧z=v.cells.toList.map D.ofVal1∧i.size=ap P E∧i.bytes=d8 P E:=by
 unfold fe at hz
 cases hi:P.info? E with
 | none=>simp[hi]at hz
 | some i =>
  cases hv:i.zero with
  | none=>simp[hi,hv]at hz
  | some v =>
   simp only[hi,hv,Mi,Lj,KP]at hz
   exact⟨i,v,rfl,hv,hz.symm,by simp[ap,hi],by simp[d8,hi]⟩
theorem tU {k sz:Nat} (h:0<sz):k=(k / sz)*sz+k%sz:=by
 have:=Nat.div_add_mod k sz
 rw[Nat.mul_comm]at this
 omega
theorem wC {α:Type _} (z:List α) (sz:Nat) (hz:z.length=sz) (hs:0<sz):∀(n k:Nat),(List.replicate n z).flatten[k]?=if k<n*sz then z[k%sz]? else none
 | 0,k=>by simp
 | n+1,k=>by
  rw[List.replicate_succ,List.flatten_cons,LN]
  by_cases hk:k<sz
  ·rw[KL (by omega),KT (by omega),Nat.mod_eq_of_lt hk]
  ·rw[KR (by omega),wC z sz hz hs n (k-z.length),hz]
   by_cases Ou:k<n*sz+sz
   ·rw[KT (by omega),KT Ou]
    congr 1
    rw[← Nat.mod_eq_sub_mod (by omega)]
   ·rw[KK (by omega),KK Ou]
theorem oP {P:Program} {z:List D} {zv:Array Value} (hz:aE S μ w z zv) {sz:Nat} (NS:z.length=sz) (hs:0<sz) (n:Nat):aE S μ w (List.replicate n z).flatten ((Array.range (n*sz)).map (zv[·%zv.size]!)):=by
 have hl:(List.replicate n z).flatten.length=n*sz:=by simp[NS]
 refine⟨by simp[hl],fun j y u hy hu=>?_⟩
 have hj:j<n*sz:=by rw[← hl];exact(KE.1 hy).1
 rw[wC z sz NS hs,KT hj]at hy
 have hm:j%sz<zv.size:=by rw[hz.1,NS];exact Nat.mod_lt _ hs
 simp only[LP,Array.getElem?_range,hj,L9,Lj,KP]at hu
 refine hz.2 (j%sz) y u hy ?_
 rw[← hu,hz.1,NS]
 simp[hm]
theorem iw (sz n:Nat) (cells:List D) {i:Nat} {x:List D} (h:(lZ sz n cells)[i]?=some x):i<n∧x=(cells.drop (i*sz)).take sz:=by
 unfold lZ at h
 obtain⟨k,hk,rfl⟩:=cO h
 have hi:=(KE.1 hk)
 obtain⟨h1,h2⟩:=hi
 simp at h1 h2
 subst h2
 exact⟨h1,rfl⟩
theorem qv {E sz n:Nat} {cells:List D} {vs:Array Value} (hr:aE S μ w cells vs) (hl:cells.length=n*sz) (hn:n≤maxLen) {L:List (List V)} (hLl:L.length=n)
  (hL:∀(i:Nat) (x:List V),L[i]?=some x→x.length=sz∧∀(j:Nat) (y:V),x[j]?=some y→∃d,cells[i*sz+j]?=some d∧∀u,ah S μ w d u→ci S w y u)
  (hS:∀b,S b→b<w.heap.size):dg S (w.alloc (.cells vs E)) E sz L (.slice (some ⟨w.heap.size,0,none⟩) n n):=by
 subst hLl
 refine⟨fun i x hx=>(hL i x hx).1,vs.toList,World.ownsRow_lit w vs L.length (Mf _) hn (by rw[hr.1,hl]),fun i x j y hx hy=>?_⟩
 obtain⟨d,hd,NI⟩:=(hL i x hx).2 j y hy
 have M6:i*sz+j<vs.size:=by rw[hr.1];exact(KE.1 hd).1
 refine⟨vs[i*sz+j],by simp[M6],?_⟩
 exact(NI _ (hr.2 _ _ _ hd (K0 M6))).stable (fun _ h _=>h) (fun b hb hl=>LU w _ b hl) (by simp)
theorem gf {P:Program} {t E:TypeId} {len:Nat} {MY:List (Nat×Value)} {i:TypeInfo} {v:Value} (hu:P.underlying t=some (.slice E)) (hi:P.info? E=some i) (hv:i.zero=some v) (Pe:len*i.size≤4096)
  {cells:Array Value} (hf:Instr.fill (fun k=>some (k*i.size,i.size)) ((Array.range (len*i.size)).map (v.cells[·%v.cells.size]!)) MY=some cells) :
  (Instr.buildSlice t len MY.toArray).run P w=.ok (.slice (some ⟨w.heap.size,0,none⟩) len len) (w.alloc (.cells cells E)):=by
 by_cases hn:len*i.size=0
 ·have e0:(Array.range (len*i.size)).map (v.cells[·%v.cells.size]!)=#[]:=by rw[hn];simp[Array.range_zero']
  rw[e0]at hf
  have e1:∀f:Nat→Value,(Array.range 0).map f=#[]:=fun f=>by simp[Array.range_zero']
  unfold Instr.buildSlice
  simp only[KH,Lh hu,KG,sizeOf,typeInfo,program]
  simp only[Sem.run,hi,KZ,KG]
  rw[KK (by omega),KT hn]
  simp only[KZ,KG,hn,e1,hf]
  simp[newRow,newObj,Sem.run]
 ·unfold Instr.buildSlice
  simp only[KH,Lh hu,KG,sizeOf,typeInfo,program]
  simp only[Sem.run,hi,KZ,KG]
  rw[KK (by omega),KK hn]
  have hz:(zeroValue E).run P w=.ok v w:=by simp[zeroValue,typeInfo,hi,hv,KH]
  simp only[KH,hz,KZ,KG,hf]
  simp[newRow,newObj,Sem.run]
end
section
variable {C:jC} {S:Nat→Prop} {μ:Nat→Value} {st I':St} {a:Act} {w w':World} {p:Prop}
theorem ak {X:Prop} (hp:aF st=(I',p)) (D':p):X:=by
 simp only[aF,KJ]at hp
 rw[← hp.2]at D'
 exact D'.elim
theorem i7 {sz n:Nat} {cells:List D} {i j:Nat} {x:List D} {d:D} (h:(lZ sz n cells)[i]?=some x) (hd:x[j]?=some d):cells[i*sz+j]?=some d:=by
 obtain⟨_,rfl⟩:=iw sz n cells h
 rw[K4]at hd
 split at hd
 ·rw[LZ]at hd;exact hd
 ·cases hd
theorem vg (h:aK C S μ st a w) {ov:Ov} {dst:Option Nat} {t:TypeId} {len:Nat} {MS:List (Nat×D)} {MY:List (Nat×Value)} (h1:MS.map (·.1)=MY.map (·.1))
  (h2:∀(j:Nat) (x:Nat×D) (u:Nat×Value),MS[j]?=some x→MY[j]?=some u→ah S μ w x.2 u.2) (hp:oO C.P C.nt st ov dst t len MS=(I',p)) (D':p) :
  ∃u w' μ',(Instr.buildSlice t len MY.toArray).run C.P w=.ok u w'∧aK C S μ' I' (a.put dst u) w':=by
 unfold oO at hp
 split at hp
 ·rename_i E hu
  split at hp
  ·rename_i z hz
   split at hp
   ·rename_i hc
    simp only[KD,KU,LJ]at hc
    obtain⟨⟨⟨hk,NS⟩,Nl⟩,Pe⟩:=hc
    obtain⟨i,v,hi,hv,Pd,M0,RR⟩:=eY hz
    split at hp
    ·rename_i cells hf
     have QC:aE S μ w z v.cells:=by
      obtain⟨v',hv',hr⟩:=ff (P:=C.P) (S:=S) (μ:=μ) (w:=w) hz
      have:v'=v:=by
       have:(zeroValue E).run C.P w=.ok v w:=by simp[zeroValue,typeInfo,hi,hv,KH]
       rw[this]at hv'
       cases hv'
       rfl
      rwa [this]at hr
     have PE:=oP (P:=C.P) QC NS (by omega) len
     obtain⟨vs,OJ,Od⟩:=dM h.heap MS MY _ cells _ h1 h2 PE hf
     rw[← M0]at OJ
     have M3:=gf (P:=C.P) (w:=w) hu hi hv (by rw[M0];exact Pe) OJ
     have hcl:cells.length=len*ap C.P E:=by
      have:∀(MS:List (Nat×D)) (c0 OU:List D),fc st.heap (fun i=>some (i*ap C.P E,ap C.P E)) c0 MS=some OU→OU.length=c0.length:=by
       intro MS
       induction MS with
       | nil=>intro c0 OU h;simp only[fc,KP]at h;rw[h]
       | cons q r ih =>
        intro c0 OU h
        obtain⟨k,x⟩:=q
        unfold fc at h
        split at h
        ·split at h
         ·rename_i M8
          simp only[KD,LJ]at M8
          rw[ih _ _ h]
          simp[d6]
          omega
         ·cases h
        ·cases h
      rw[this _ _ _ hf]
      simp[NS]
     have MZ:len≤maxLen:=by
      have:len*1≤len*ap C.P E:=Mu _ Nl
      simp only[maxLen]
      omega
     have RT:∀(L:List (List V)) (B:am) (q:Prop),newBox st C.nt dst B (.own st.heap.length) q=(I',p)→(q→dg S (w.alloc (.cells vs E)) E (ap C.P E) L (.slice (some ⟨w.heap.size,0,none⟩) len len)∧(dg S (w.alloc (.cells vs E)) E (ap C.P E) L (.slice (some ⟨w.heap.size,0,none⟩) len len)→az S (aM μ st.heap.length (.slice (some ⟨w.heap.size,0,none⟩) len len)) (w.alloc (.cells vs E)) (.slice (some ⟨w.heap.size,0,none⟩) len len) B))→B.isRo=false →
       ∃u w' μ',(Instr.buildSlice t len MY.toArray).run C.P w=.ok u w'∧aK C S μ' I' (a.put dst u) w':=by
      intro L B q hp hB Oj
      have hq:q:=by
       unfold newBox at hp
       split at hp
       ·split at hp
        ·simp only[KJ]at hp;rw[← hp.2]at D';exact D'
        ·exact ak hp D'
       ·exact ak hp D'
      obtain⟨b1,b2⟩:=hB hq
      refine⟨_,_,_,M3,(h.newBox hp D' (LR w _ none) (b2 b1) (fun b hb=>by simp[bi,aA]at hb;omega) ?_ Oj).2⟩
      have:=ah.own (S:=S) (μ:=aM μ st.heap.length (.slice (some ⟨w.heap.size,0,none⟩) len len)) (w:=w.alloc (.cells vs E)) st.heap.length
      rwa [ao]at this
     split at hp
     ·rename_i E' Nk α MW d' l'
      split at hp
      ·rename_i hc
       simp only[KD,KU]at hc
       obtain⟨rfl,rfl⟩:=hc
       refine RT (l'.map MW) _ _ hp (fun hq=>⟨?_,fun hA=>hA.box rfl⟩) rfl
       obtain⟨q1,q2⟩:=i5 hq
       refine qv Od hcl MZ (by rw[← q1];simp[lZ]) (fun i x hx=>?_) h.slt
       obtain⟨r,hr,Ng⟩:=q2 i x hx
       obtain⟨r1,r2⟩:=dP Ng
       obtain⟨NN,rfl⟩:=iw _ _ _ hr
       refine⟨?_,fun j y hy=>?_⟩
       ·rw[← r1,KV,K7,hcl]
        have:(i+1)*ap C.P E≤len*ap C.P E:=K3 _ NN
        rw[LN]at this
        omega
       ·obtain⟨d,hd,Q2⟩:=r2 j y hy
        exact⟨d,i7 hr hd,fun u hu=>j7 Q2 hu⟩
      ·exact ak hp D'
     ·rename_i gs cell
      split at hp
      ·rename_i P'
       simp only[KD]at P'
       obtain⟨hgs,OP⟩:=P'
       have hq:∀i j,i<len→j<ap C.P E→cell i j=cells.getD (i*ap C.P E+j) .junk∧∀k,gs.all (fun g=>!(Nat.beq g k))=true→(cell i j).free k=true:=by
        have N3:=hp
        unfold newBox at N3
        split at N3
        ·split at N3
         ·simp only[KJ]at N3;rw[← N3.2]at D';exact D'
         ·exact ak N3 D'
        ·exact ak N3 D'
       have Nb:gs.all (fun g=>!(Nat.beq g st.heap.length))=true:=by
        rw[K2]at hgs ⊢
        intro g hg
        have:=hgs g hg
        rw[Mq]at this
        exact u4 (by omega)
       have hvl:vs.size=len*ap C.P E:=by rw[Od.1,hcl]
       have OK:∀b,S b→b<w.heap.size→(w.alloc (.cells vs E)).heap[b]?=w.heap[b]?:=fun b _ hl=>(LR w (.cells vs E) none).block b hl (by simp)
       refine⟨_,_,_,M3,(h.newBox hp D' (LR w _ none) (u:=.slice (some ⟨w.heap.size,0,none⟩) len len) ⟨fun i j k hi hj hk=>(hq i j hi hj).2 k hk,vs.toList,⟨by simp[hvl],.inr ⟨w.heap.size,len,vs,rfl,Mf _,LS w _,KI _,MZ,hvl,by rw[Mh (by simp[hvl])]⟩⟩,fun i j hi hj=>?_⟩ (fun b hb=>by simp[bi,aA]at hb;omega) ?_ rfl).2⟩
       ·have Pu:(i+1)*ap C.P E≤len*ap C.P E:=K3 _ hi
        rw[LN]at Pu
        have M6:i*ap C.P E+j<vs.size:=by omega
        have hlt2:i*ap C.P E+j<cells.length:=by omega
        have Sy:vs[i*ap C.P E+j]?=some vs[i*ap C.P E+j]:=K0 M6
        refine⟨vs[i*ap C.P E+j],by simp[M6],zI h.heap Od OP _ (by simp),?_⟩
        have hcg:cells[i*ap C.P E+j]?=some (cells.getD (i*ap C.P E+j) .junk):=by rw[eX _ _ hlt2];exact KF hlt2
        have hd:=Od.2 _ _ _ hcg Sy
        rw[← (hq i j hi hj).1]at hd
        exact hd.stable (fun _ h _=>h) OK (LR w (.cells vs E) none).size (fun id M5=>av _ _ (fun e=>by rw[e,(hq i j hi hj).2 _ Nb]at M5;cases M5))
       ·have:=ah.own (S:=S) (μ:=aM μ st.heap.length (.slice (some ⟨w.heap.size,0,none⟩) len len)) (w:=w.alloc (.cells vs E)) st.heap.length
        rwa [ao]at this
      ·exact ak hp D'
     ·split at hp
      ·rename_i L hL
       refine RT L _ _ hp (fun _=>⟨?_,fun hA=>hA.box (tT L).symm⟩) rfl
       obtain⟨q1,q2⟩:=rA hL
       refine qv Od hcl MZ (by rw[← q1];simp[lZ]) (fun i x hx=>?_) h.slt
       obtain⟨r,hr,Ng⟩:=q2 i x hx
       obtain⟨r1,r2⟩:=j6 Ng
       obtain⟨NN,rfl⟩:=iw _ _ _ hr
       refine⟨?_,fun j y hy=>?_⟩
       ·rw[← r1,KV,K7,hcl]
        have:(i+1)*ap C.P E≤len*ap C.P E:=K3 _ NN
        rw[LN]at this
        omega
       ·obtain⟨d,hd,Q2⟩:=r2 j y hy
        exact⟨d,i7 hr hd,fun u hu=>qu Q2 hu⟩
      ·exact ak hp D'
    ·exact ak hp D'
   ·exact ak hp D'
  ·exact ak hp D'
 ·exact ak hp D'
theorem _root_.Nat.mul_add_mod_of_lt' {k sz j:Nat} (h:j<sz):(k*sz+j)%sz=j:=by
 rw[Nat.mul_comm,Nat.mul_add_mod,Nat.mod_eq_of_lt h]
theorem az.arr_mk {E sz:Nat} {u:Value} {α:Type} {enc:α→List V} {d:α} {l:List α} (h:dg S w E sz (l.map enc) u):az S μ w u (.arr E sz enc d l):=h.box rfl
theorem wD (h:aK C S μ st a w) {ov:Ov} {dst:Option Nat} {t:TypeId} {l c:D} {ul uc:Value} (hl:ah S μ w l ul) (hc:ah S μ w c uc) (hp:tS C.P C.nt st ov dst t l c=(I',p)) (D':p) :
  ∃u w' μ',(Instr.makeSlice t ul uc).run C.P w=.ok u w'∧aK C S μ' I' (a.put dst u) w':=by
 unfold tS at hp
 split at hp
 ·rename_i E kl n kc m hu
  split at hp
  ·rename_i z hz
   split at hp
   ·rename_i M8
    simp only[KD,KU,LJ]at M8
    obtain⟨⟨⟨hk,NS⟩,Nl⟩,QE⟩:=M8
    obtain⟨i,v,hi,hv,Pd,M0,RR⟩:=eY hz
    rw[bp hl,bp hc]
    split at hp
    ·rename_i E' Nk α MW d' l'
     split at hp
     ·rename_i Qk
      simp only[KD,KU]at Qk
      obtain⟨rfl,rfl⟩:=Qk
      have hq:(0≤n∧n≤m∧m≤137438953472)∧l'.length=n.toNat∧∀x∈l',dG z (MW x):=by
       have N3:=hp
       unfold newBox at N3
       split at N3
       ·split at N3
        ·simp only[KJ]at N3;rw[← N3.2]at D';exact D'
        ·exact ak N3 D'
       ·exact ak N3 D'
      obtain⟨⟨h0,PO,hm⟩,MZ,Oh⟩:=hq
      have hbm:(i.bytes:Int)*m≤281474976710656:=by
       have h9:(i.bytes:Int)≤1024:=by omega
       have:(i.bytes:Int)*m≤1024*m:=Int.mul_le_mul_of_nonneg_right h9 (by omega)
       omega
      have M3:=run_make (P:=C.P) w t E i v hu hi hv kl kc n m h0 PO hbm (by omega)
      refine⟨_,_,_,M3,(h.newBox (u:=.slice (some ⟨w.heap.size,0,none⟩) n.toNat m.toNat) hp D' (LR w _ none) (az.arr_mk ?_) (fun b hb=>by simp[bi,aA]at hb;omega) ?_).2⟩
      ·have QC:aE S μ w z v.cells:=by
        rw[Pd]
        refine⟨by simp,fun j y u hy hu=>?_⟩
        simp only[KX,Ld,hu,Lj,KP]at hy
        subst hy
        exact ah.ofVal1 S μ w u
       have Od:v.cells.size=ap C.P E:=by rw[QC.1,NS]
       refine⟨fun k x hx=>?_,(madeCells v.cells (m.toNat*i.size)).toList.take (n.toNat*ap C.P E),?_,fun k x j y hx hy=>?_⟩
       ·obtain⟨q,hq,rfl⟩:=cO hx
        rw[← (dP (Oh q (Lb hq))).1,NS]
       ·have hle:n.toNat*ap C.P E≤m.toNat*i.size:=by rw[M0];exact K3 _ (by omega)
        refine⟨by simp[size_madeCells,MZ];omega,.inr ⟨w.heap.size,m.toNat,madeCells v.cells (m.toNat*i.size),by simp[MZ],Mf _,LS w _,by simp[MZ];omega,by simp only[maxLen];omega,by rw[size_madeCells,M0],by simp[MZ]⟩⟩
       ·obtain⟨q,hq,rfl⟩:=cO hx
        have NY:k<n.toNat:=by rw[← MZ];exact(KE.1 hq).1
        obtain⟨r1,r2⟩:=dP (Oh q (Lb hq))
        obtain⟨d,hd,Q2⟩:=r2 j y hy
        have hj:j<ap C.P E:=by rw[← NS];exact(KE.1 hd).1
        have hjv:j<v.cells.size:=by omega
        have PB:(k+1)*ap C.P E≤n.toNat*ap C.P E:=K3 _ NY
        rw[LN]at PB
        have hle:n.toNat*ap C.P E≤m.toNat*i.size:=by rw[M0];exact K3 _ (by omega)
        refine⟨v.cells[j],?_,(j7 Q2 (QC.2 j d _ hd (K0 hjv))).stable (fun _ h _=>h) (fun b hb hl=>LU w _ b hl) (by simp)⟩
        rw[K4,KT (by omega),Ld]
        unfold madeCells
        rw[LP,Array.getElem?_range,KT (by omega)]
        simp only[Lj,KP]
        rw[Od,Nat.mul_add_mod_of_lt' hj]
        simp[hjv]
      ·have:=ah.own (S:=S) (μ:=aM μ st.heap.length (.slice (some ⟨w.heap.size,0,none⟩) n.toNat m.toNat)) (w:=w.alloc (.cells (madeCells v.cells (m.toNat*i.size)) E)) st.heap.length
       rwa [ao]at this
     ·exact ak hp D'
    ·exact ak hp D'
   ·exact ak hp D'
  ·exact ak hp D'
 ·exact ak hp D'
end
section
variable {P:Program} {S:Nat→Prop} {μ:Nat→Value} {w:World}
theorem cX (t ty e:TypeId) (i:TypeInfo) (z:Value) (ht:P.underlying t=some (.slice e)) (hi:P.info? e=some i) (hz:i.zero=some z) (hzs:z.cells.size=i.size)
  {v:Value} {n:Nat} {xs:List Value} (MT:w.ownsRow 0 e i.size v n xs) {pa:Option Addr} {m c:Nat} {M4:List Value} (hpa:pa=none→c=0∧m=0)
  (hl:M4.length=m*i.size) (PI:∀ad,pa=some ad→∀(j:Nat) (u:Value),M4[j]?=some u→w.cell? (ad.add j)=some u) (h1:∀u∈M4,u.oneCell'=true)
  (SE:n+m≤maxLen) (NX:(n+m)*i.bytes≤140737488355328) :
  ∃v' w',(Builtin.append_ #[t,t] ty #[v,.slice pa m c]).run P w=.ok v' w'∧w'.ownsRow 0 e i.size v' (n+m) (xs++M4)∧w.grownBy w' v.ownBlock∧(v'.ownBlock=v.ownBlock∨v'.ownBlock=some w.heap.size):=by
 cases pa with
 | none =>
  obtain⟨rfl,rfl⟩:=hpa rfl
  have hn:M4=[]:=La (by simpa using hl)
  subst hn
  exact⟨v,w,run_append_owned_none (P:=P) w 0 t ty e i i.size ht hi v n xs MT,by simpa using MT,⟨rfl,rfl,rfl,KI _,fun _ _ _=>rfl⟩,.inl rfl⟩
 | some ad =>
  have QX:=PI ad rfl
  have Rq:n+m≤9223372036854775807:=by simp only[maxLen]at SE;omega
  have MZ:(xs++M4).length=(n+m)*i.size:=by rw[KN,MT.1,hl,MA]
  have Om:∀(old:Nat) (row:Option Nat),
    (w.drew.alloc (.cells (xs.toArray++M4.toArray++Builtin.zeroCells z.cells (grownCap w (n+m) old e-(n+m))) e)).ownsRow 0 e i.size
     (.slice (some ⟨w.heap.size,0,none⟩) (n+m) (grownCap w (n+m) old e)) (n+m) (xs++M4) ∧
    w.grownBy (w.drew.alloc (.cells (xs.toArray++M4.toArray++Builtin.zeroCells z.cells (grownCap w (n+m) old e-(n+m))) e)) row:=by
   intro old row
   have hge:=grownCap_ge w (n+m) old e
   have Pl:grownCap w (n+m) old e≤maxLen:=grownCap_le_maxLen w (n+m) old e SE
   refine⟨⟨MZ,.inr ⟨w.heap.size,_,_,rfl,Mf _,LS w.drew _,hge,Pl,?_,?_⟩⟩,⟨rfl,rfl,rfl,by simp,fun k hk _=>LU w.drew _ k hk⟩⟩
   ·simp only[Array.size_append,L7,size_zeroCells,hzs,MT.1,hl,← MA]
    congr 1
    omega
   ·simp only[Array.toList_append,Ls]
    rw[← Ls,← MZ]
    exact Ml
  rcases MT.2 with ⟨rfl,rfl⟩ | ⟨g,cap,Na,rfl,Ow,hg,hnc,Pl,hcs,O1⟩
  ·have hx:xs=[]:=La (by simpa using MT.1)
   subst hx
   by_cases hm:m=0
   ·subst hm
    have hn:M4=[]:=La (by simpa using hl)
    subst hn
    refine⟨.slice none 0 0,w,?_,LW w 0 e i.size,⟨rfl,rfl,rfl,KI _,fun _ _ _=>rfl⟩,.inl rfl⟩
    simp[Builtin.append_,Lh ht,sizeOf,typeInfo,hi,Builtin.lenOf,Builtin.firstCells,loadCells,loadCellsFrom]
   ·have hr:=run_append_nil (P:=P) w t ty e i z ht hi hz ad m c M4 hl QX (by omega) (by omega) (by have hb:=NX;simp only[Li]at hb;omega)
    have OM:=Om 0 (Value.ownBlock (.slice none 0 0))
    simp only[Li,LQ,Array.empty_append]at OM ⊢
    exact⟨_,_,hr,OM.1,OM.2,.inr rfl⟩
  ·by_cases hroom:n+m≤cap
   ·have Nd:n*i.size+M4.length≤Na.size:=by rw[hl,hcs,← MA];exact K3 _ hroom
    have hr:=run_append_room (P:=P) w t ty e i ht hi g n cap Na hg ad m c M4 hl QX h1 hroom Nd
    refine⟨_,_,hr,⟨MZ,.inr ⟨g,cap,_,rfl,Ow,setRow_heap w g Na _ e _ hg,hroom,Pl,?_,?_⟩⟩,dh w g _,.inl rfl⟩
    ·simp only[L7,KN,KV,K7,Mg]
     omega
    ·rw[O1,← MZ]
     exact Ml
   ·have holds:∀j u,xs[j]?=some u→w.cell? ((⟨g,0,none⟩:Addr).add j)=some u:=MT.cells (g:=g) rfl
    have hr:=run_append_grow (P:=P) w t ty e i z ht hi hz ⟨g,0,none⟩ n cap xs MT.1 holds ad m c M4 hl QX (by omega) (by omega) (growslice_fits (by omega) NX)
    have OM:=Om cap (Value.ownBlock (.slice (some ⟨g,0,none⟩) n cap))
    exact⟨_,_,hr,OM.1,OM.2,.inr rfl⟩
theorem jF (t ty e:TypeId) (i:TypeInfo) (z:Value) (ht:P.underlying t=some (.slice e)) (hi:P.info? e=some i) (hz:i.zero=some z) (hzs:z.cells.size=i.size)
  {v:Value} {n:Nat} {xs:List Value} (MT:w.ownsRow 0 e i.size v n xs) {pa:Option Addr} {m c:Nat} {M4:List Value} (hpa:pa=none→c=0∧m=0)
  (hl:M4.length=m*i.size) (PI:∀ad,pa=some ad→∀(j:Nat) (u:Value),M4[j]?=some u→w.cell? (ad.add j)=some u) (h1:∀u∈M4,u.oneCell'=true)
  (SE:n+m≤maxLen) (NX:(n+m)*i.bytes≤140737488355328) :
  ∃v' w',(Builtin.append_ #[t,t] ty #[v,.slice pa m c]).run P w=.ok v' w'∧w'.ownsRow 0 e i.size v' (n+m) (xs++M4)∧w.grownBy w' v.ownBlock∧(v'.ownBlock=v.ownBlock∨(v'.ownBlock=some w.heap.size∧w.grownBy w' none))∧w'.ownsRow 0 e i.size v n xs:=by
 cases pa with
 | none =>
  obtain⟨rfl,rfl⟩:=hpa rfl
  have hn:M4=[]:=La (by simpa using hl)
  subst hn
  exact⟨v,w,run_append_owned_none (P:=P) w 0 t ty e i i.size ht hi v n xs MT,by simpa using MT,⟨rfl,rfl,rfl,KI _,fun _ _ _=>rfl⟩,.inl rfl,MT⟩
 | some ad =>
  have QX:=PI ad rfl
  have Rq:n+m≤9223372036854775807:=by simp only[maxLen]at SE;omega
  have MZ:(xs++M4).length=(n+m)*i.size:=by rw[KN,MT.1,hl,MA]
  have Om:∀(old:Nat) (row:Option Nat),
    (w.drew.alloc (.cells (xs.toArray++M4.toArray++Builtin.zeroCells z.cells (grownCap w (n+m) old e-(n+m))) e)).ownsRow 0 e i.size
     (.slice (some ⟨w.heap.size,0,none⟩) (n+m) (grownCap w (n+m) old e)) (n+m) (xs++M4) ∧
    w.grownBy (w.drew.alloc (.cells (xs.toArray++M4.toArray++Builtin.zeroCells z.cells (grownCap w (n+m) old e-(n+m))) e)) row:=by
   intro old row
   have hge:=grownCap_ge w (n+m) old e
   have Pl:grownCap w (n+m) old e≤maxLen:=grownCap_le_maxLen w (n+m) old e SE
   refine⟨⟨MZ,.inr ⟨w.heap.size,_,_,rfl,Mf _,LS w.drew _,hge,Pl,?_,?_⟩⟩,⟨rfl,rfl,rfl,by simp,fun k hk _=>LU w.drew _ k hk⟩⟩
   ·simp only[Array.size_append,L7,size_zeroCells,hzs,MT.1,hl,← MA]
    congr 1
    omega
   ·simp only[Array.toList_append,Ls]
    rw[← Ls,← MZ]
    exact Ml
  rcases MT.2 with ⟨rfl,rfl⟩ | ⟨g,cap,Na,rfl,Ow,hg,hnc,Pl,hcs,O1⟩
  ·have hx:xs=[]:=La (by simpa using MT.1)
   subst hx
   by_cases hm:m=0
   ·subst hm
    have hn:M4=[]:=La (by simpa using hl)
    subst hn
    refine⟨.slice none 0 0,w,?_,LW w 0 e i.size,⟨rfl,rfl,rfl,KI _,fun _ _ _=>rfl⟩,.inl rfl,LW w 0 e i.size⟩
    simp[Builtin.append_,Lh ht,sizeOf,typeInfo,hi,Builtin.lenOf,Builtin.firstCells,loadCells,loadCellsFrom]
   ·have hr:=run_append_nil (P:=P) w t ty e i z ht hi hz ad m c M4 hl QX (by omega) (by omega) (by have hb:=NX;simp only[Li]at hb;omega)
    have OM:=Om 0 (Value.ownBlock (.slice none 0 0))
    simp only[Li,LQ,Array.empty_append]at OM ⊢
    exact⟨_,_,hr,OM.1,OM.2,.inr ⟨rfl,OM.2⟩,LW _ 0 e i.size⟩
  ·by_cases hroom:n+m≤cap
   ·have Nd:n*i.size+M4.length≤Na.size:=by rw[hl,hcs,← MA];exact K3 _ hroom
    have hr:=run_append_room (P:=P) w t ty e i ht hi g n cap Na hg ad m c M4 hl QX h1 hroom Nd
    refine⟨_,_,hr,⟨MZ,.inr ⟨g,cap,_,rfl,Ow,setRow_heap w g Na _ e _ hg,hroom,Pl,?_,?_⟩⟩,dh w g _,.inl rfl,⟨MT.1,.inr ⟨g,cap,_,rfl,Ow,setRow_heap w g Na _ e _ hg,hnc,Pl,?_,?_⟩⟩⟩
    ·simp only[L7,KN,KV,K7,Mg]
     omega
    ·rw[O1,← MZ]
     exact Ml
    ·simp only[L7,KN,KV,K7,Mg]
     omega
    ·rw[O1]
     simp only[Ls]
     rw[← MT.1]
     exact Ml
   ·have holds:∀j u,xs[j]?=some u→w.cell? ((⟨g,0,none⟩:Addr).add j)=some u:=MT.cells (g:=g) rfl
    have hr:=run_append_grow (P:=P) w t ty e i z ht hi hz ⟨g,0,none⟩ n cap xs MT.1 holds ad m c M4 hl QX (by omega) (by omega) (growslice_fits (by omega) NX)
    have OM:=Om cap (Value.ownBlock (.slice (some ⟨g,0,none⟩) n cap))
    have QK:=(Om cap none).2
    exact⟨_,_,hr,OM.1,OM.2,.inr ⟨rfl,QK⟩,⟨MT.1,.inr ⟨g,cap,Na,rfl,Ow,by rw[QK.block g (KQ.1 hg).1 (by simp)];exact hg,hnc,Pl,hcs,O1⟩⟩⟩
theorem fl {H:List am} (hH:aV S μ w H) {sz:Nat} (hs:1≤sz) {x:D} {new:List (List V)} {ux:Value} (hn:rr H sz x=some new) (hx:ah S μ w x ux) :
  ∃(pa:Option Addr) (c:Nat) (M4:List Value),ux=.slice pa new.length c∧(pa=none→c=0∧new.length=0)∧M4.length=new.length*sz ∧
   (∀ad,pa=some ad→∀(j:Nat) (u:Value),M4[j]?=some u→w.cell? (ad.add j)=some u)∧(∀u∈M4,u.oneCell'=true) ∧
   (∀(i:Nat) (x:List V),new[i]?=some x→x.length=sz)∧∀(i:Nat) (x:List V) (j:Nat) (y:V),new[i]?=some x→x[j]?=some y→∃z,M4[i*sz+j]?=some z∧ci S w y z:=by
 have key:∀(M4:List Value),M4.length=new.length*sz→(∀(i:Nat) (x:List V),new[i]?=some x→x.length=sz) →
   (∀(i:Nat) (x:List V) (j:Nat) (y:V),new[i]?=some x→x[j]?=some y→∃z,M4[i*sz+j]?=some z∧ci S w y z)→∀u∈M4,u.oneCell'=true:=by
  intro M4 hl h0 h2 u hu
  obtain⟨k,hk,rfl⟩:=MI hu
  have hi:k / sz<new.length:=by
   rw[Nat.div_lt_iff_lt_mul (by omega)]
   omega
  have hj:k%sz<new[k / sz].length:=by
   rw[h0 _ _ (KF hi)]
   exact Nat.mod_lt _ (by omega)
  obtain⟨z,hz,hr⟩:=h2 _ _ _ _ (KF hi) (KF hj)
  rw[← tU (by omega)]at hz
  rw[KF hk]at hz
  cases hz
  exact hr.one
 unfold rr at hn
 split at hn
 ·rename_i Nk α enc d l
  split at hn
  ·rename_i M0
   rw[KU]at M0
   subst M0
   cases hn
   obtain⟨p,c,rfl,h1,h2,h3,h4⟩:=dY (ba hx)
   by_cases h0:0<l.length
   ·obtain⟨b,L',us,rfl,q1,q2,q3,q4,q5⟩:=h4 h0
    have hz:∀(k:Nat),k<l.length*sz→∃(z:α) (y:V),l[k / sz]?=some z∧(enc z)[k%sz]?=some y:=by
     intro k hk
     have hi:k / sz<l.length:=by rw[Nat.div_lt_iff_lt_mul (by omega)];exact hk
     have NS:=q3 _ _ (KF hi)
     have hj:k%sz<(enc l[k / sz]).length:=by rw[NS];exact Nat.mod_lt _ (by omega)
     exact⟨_,_,KF hi,KF hj⟩
    have r0:∀(i:Nat) (x:List V),(l.map enc)[i]?=some x→x.length=sz:=fun i x hx=>by obtain⟨z,hz,rfl⟩:=cO hx;exact q3 i z hz
    have r2:∀(i:Nat) (x:List V) (j:Nat) (y:V),(l.map enc)[i]?=some x→x[j]?=some y→∃z,((List.range (l.length*sz)).map fun k=>us (k / sz) (k%sz))[i*sz+j]?=some z∧ci S w y z:=by
     intro i x j y hx hy
     have hi:i<l.length:=by have:=(KE.1 hx).1;simpa using this
     have QW:=r0 i x hx
     have hj:j<sz:=by rw[← QW];exact(KE.1 hy).1
     obtain⟨z,hz,rfl⟩:=cO hx
     have hm:(i+1)*sz≤l.length*sz:=K3 _ hi
     rw[LN]at hm
     refine⟨us i j,?_,q5 i z j y hz hy⟩
     rw[KX,List.getElem?_range (by omega)]
     simp only[Lj,KP]
     rw[Nat.mul_add_mod_of_lt' hj,Nat.mul_comm i sz,Nat.mul_add_div (by omega),Nat.div_eq_of_lt hj,Ma]
    refine⟨some ⟨b,L',none⟩,c,(List.range (l.length*sz)).map fun k=>us (k / sz) (k%sz),by simp,(fun h=>by cases h),by simp,?_,key _ (by simp) r0 r2,r0,r2⟩
    rintro ad R9 j u hu
    cases R9
    obtain⟨k,hk,rfl⟩:=cO hu
    obtain⟨h5,h6⟩:=KE.1 hk
    simp at h5 h6
    subst h6
    obtain⟨z,y,Sy,hz2⟩:=hz j h5
    rw[cF,← q4 _ _ _ _ Sy hz2,← tU (by omega)]
   ·have hl:l=[]:=La (by omega)
    subst hl
    exact⟨p,c,[],rfl,fun h=>⟨h3 h,rfl⟩,by simp,fun ad _ j u hu=>by simp at hu,fun u hu=>by simp at hu,fun i x hx=>by simp at hx,fun i x j y hx=>by simp at hx⟩
  ·cases hn
 ·rename_i id
  split at hn
  ·rename_i E Nk α enc d l G'
   split at hn
   ·rename_i M0
    rw[KU]at M0
    subst M0
    cases hn
    rw[a6 hx]
    have hA:=dg.of (hH.box id _ G')
    obtain⟨p,c,hm,q1,q2,q3,q4⟩:=bv (hH.box id _ G')
    obtain⟨r0,xs,r1,r2⟩:=hA
    refine⟨p,c,xs,by rw[hm];simp,fun hp=>⟨q3 hp,by rw[KM];have:=q3 hp;omega⟩,r1.1,?_,key xs r1.1 r0 r2,r0,r2⟩
    rintro ad rfl j u hu
    by_cases h0:0<l.length
    ·obtain⟨g,hg⟩:=q4 h0
     cases hg
     rw[cF,Li]
     exact ir r1 (by rw[hm];rfl) j u hu
    ·have:xs.length=0:=by rw[r1.1,KM,show l.length=0 from by omega];simp
     have R6:xs=[]:=La this
     subst R6
     simp at hu
   ·cases hn
  ·cases hn
 ·cases hn
  cases hx
  exact⟨none,0,[],rfl,fun _=>⟨rfl,rfl⟩,by simp,fun ad h=>(by cases h),fun u hu=>by simp at hu,fun i x hx=>by simp at hx,fun i x j y hx=>by simp at hx⟩
 ·cases hn
  have hx:=ba hx
  cases hx
  exact⟨none,0,[],rfl,fun _=>⟨rfl,rfl⟩,by simp,fun ad h=>(by cases h),fun u hu=>by simp at hu,fun i x hx=>by simp at hx,fun i x j y hx=>by simp at hx⟩
 ·cases hn
  have hx:=ba hx
  cases hx with
  | esl p c hc=>exact⟨some p,c,[],rfl,fun h=>(by cases h),by simp,fun ad h j u hu=>by simp at hu,fun u hu=>by simp at hu,fun i x hx=>by simp at hx,fun i x j y hx=>by simp at hx⟩
 ·cases hn
theorem dg.append {w':World} {E sz:Nat} {L new:List (List V)} {u':Value} {xs M4:List Value} (h0:∀(i:Nat) (x:List V),L[i]?=some x→x.length=sz) (QW:xs.length=L.length*sz)
  (h2:∀(i:Nat) (x:List V) (j:Nat) (y:V),L[i]?=some x→x[j]?=some y→∃z,xs[i*sz+j]?=some z∧ci S w' y z)
  (n0:∀(i:Nat) (x:List V),new[i]?=some x→x.length=sz)
  (n2:∀(i:Nat) (x:List V) (j:Nat) (y:V),new[i]?=some x→x[j]?=some y→∃z,M4[i*sz+j]?=some z∧ci S w' y z)
  (ho:w'.ownsRow 0 E sz u' (L.length+new.length) (xs++M4)):dg S w' E sz (L++new) u':=by
 refine⟨fun i x hx=>?_,xs++M4,by rw[KN];exact ho,fun i x j y hx hy=>?_⟩
 ·by_cases hi:i<L.length
  ·rw[KL hi]at hx;exact h0 i x hx
  ·rw[KR (by omega)]at hx;exact n0 _ x hx
 ·by_cases hi:i<L.length
  ·rw[KL hi]at hx
   obtain⟨z,hz,hr⟩:=h2 i x j y hx hy
   exact⟨z,by rw[KL (KE.1 hz).1];exact hz,hr⟩
  ·rw[KR (by omega)]at hx
   obtain⟨z,hz,hr⟩:=n2 _ x j y hx hy
   refine⟨z,?_,hr⟩
   have hm:L.length*sz≤i*sz:=K3 _ (by omega)
   rw[KR (by omega),QW]
   rw[Nat.sub_mul]at hz
   rw[← hz]
   congr 1
   omega
theorem pY (t ty e:TypeId) (i:TypeInfo) (z:Value) (ht:P.underlying t=some (.slice e)) (hi:P.info? e=some i) (hz:i.zero=some z) (hzs:z.cells.size=i.size)
  {p:Option Addr} {n:Nat} {xs:List Value} (hpn:p=none→n=0) (QW:xs.length=n*i.size) (holds:∀ad,p=some ad→∀(j:Nat) (u:Value),xs[j]?=some u→w.cell? (ad.add j)=some u) {pa:Option Addr} {m c:Nat} {M4:List Value} (hpa:pa=none→c=0∧m=0)
  (hl:M4.length=m*i.size) (PI:∀ad,pa=some ad→∀(j:Nat) (u:Value),M4[j]?=some u→w.cell? (ad.add j)=some u) (hm0:0<m)
  (SE:n+m≤maxLen) (NX:(n+m)*i.bytes≤140737488355328) :
  ∃v' w',(Builtin.append_ #[t,t] ty #[.slice p n n,.slice pa m c]).run P w=.ok v' w'∧w'.ownsRow 0 e i.size v' (n+m) (xs++M4)∧w.grownBy w' none∧v'.ownBlock=some w.heap.size:=by
 cases pa with
 | none=>have:=(hpa rfl).2;omega
 | some ad =>
  have QX:=PI ad rfl
  have Rq:n+m≤9223372036854775807:=by simp only[maxLen]at SE;omega
  have MZ:(xs++M4).length=(n+m)*i.size:=by rw[KN,QW,hl,MA]
  have Om:∀(old:Nat) (row:Option Nat),
    (w.drew.alloc (.cells (xs.toArray++M4.toArray++Builtin.zeroCells z.cells (grownCap w (n+m) old e-(n+m))) e)).ownsRow 0 e i.size
     (.slice (some ⟨w.heap.size,0,none⟩) (n+m) (grownCap w (n+m) old e)) (n+m) (xs++M4) ∧
    w.grownBy (w.drew.alloc (.cells (xs.toArray++M4.toArray++Builtin.zeroCells z.cells (grownCap w (n+m) old e-(n+m))) e)) row:=by
   intro old row
   have hge:=grownCap_ge w (n+m) old e
   have Pl:grownCap w (n+m) old e≤maxLen:=grownCap_le_maxLen w (n+m) old e SE
   refine⟨⟨MZ,.inr ⟨w.heap.size,_,_,rfl,Mf _,LS w.drew _,hge,Pl,?_,?_⟩⟩,⟨rfl,rfl,rfl,by simp,fun k hk _=>LU w.drew _ k hk⟩⟩
   ·simp only[Array.size_append,L7,size_zeroCells,hzs,QW,hl,← MA]
    congr 1
    omega
   ·simp only[Array.toList_append,Ls]
    rw[← Ls,← MZ]
    exact Ml
  cases p with
  | none =>
   have hn:=hpn rfl
   subst hn
   have hx:xs=[]:=La (by simpa using QW)
   subst hx
   have hr:=run_append_nil (P:=P) w t ty e i z ht hi hz ad m c M4 hl QX (by omega) (by omega) (by have hb:=NX;simp only[Li]at hb;omega)
   have OM:=Om 0 none
   simp only[Li,LQ,Array.empty_append]at OM ⊢
   exact⟨_,_,hr,OM.1,OM.2,rfl⟩
  | some b =>
   have hr:=run_append_grow (P:=P) w t ty e i z ht hi hz b n n xs QW (holds b rfl) ad m c M4 hl QX (by omega) (by omega) (growslice_fits (by omega) NX)
   have OM:=Om n none
   exact⟨_,_,hr,OM.1,OM.2,rfl⟩
end
section
variable {C:jC} {S:Nat→Prop} {μ:Nat→Value} {st I':St} {a:Act} {w w':World} {p:Prop}
theorem ta (h:aK C S μ st a w) {ov:Ov} {dst:Option Nat} {t ty:TypeId} {s x:D} {us ux:Value} (hs:ah S μ w s us) (hx:ah S μ w x ux) (hp:vb C.P C.nt st ov dst t s x=(I',p)) (D':p) :
  ∃u w' μ',(Builtin.append_ #[t,t] ty #[us,ux]).run C.P w=.ok u w'∧aK C S μ' I' (a.put dst u) w':=by
 unfold vb at hp
 split at hp
 ·rename_i E hu
  split at hp
  ·rename_i z new hz Nb
   split at hp
   ·rename_i M8
    simp only[KD,KU,LJ]at M8
    obtain⟨⟨⟨hk,NS⟩,Nl⟩,QE⟩:=M8
    obtain⟨i,v,hi,hv,Pd,M0,RR⟩:=eY hz
    have Od:v.cells.size=i.size:=by rw[M0,← NS,Pd];simp
    obtain⟨pa,c,M4,rfl,n1,n2,n3,n4,n5,n6⟩:=fl h.heap Nl Nb hx
    rw[← M0]at n2 n6 n5
    have bytes:∀k,k≤137438953472→k*i.bytes≤140737488355328:=by
     intro k hk
     have:k*i.bytes≤137438953472*1024:=ME hk (by omega)
     omega
    split at hp
    ·rename_i id
     split at hp
     ·rename_i E' Nk α enc d l td G'
      split at hp
      ·rename_i Qk
       simp only[KD,KU,Mq]at Qk
       obtain⟨⟨⟨rfl,rfl⟩,Rr⟩,hfx⟩:=Qk
       generalize hq:lW E (ap C.P E) (l.map enc++new) ov=q at hp
       obtain⟨B,q⟩:=q
       simp only[KJ]at hp
       obtain⟨rfl,rfl⟩:=hp
       obtain⟨MZ,R7⟩:=D'
       have Nj:=a6 hs
       subst Nj
       obtain⟨r0,xs,r1,r2⟩:=dg.of (h.heap.box id _ G')
       simp only[KM]at r1
       have PV:l.length+new.length≤maxLen:=by simp only[maxLen];omega
       obtain⟨v',w',M3,ho,hg,MX⟩:=cX (P:=C.P) (w:=w) t ty E i v hu hi hv Od (by rw[M0];exact r1) n1 n2 n3 n4 PV (bytes _ MZ)
       have MT:(μ id).ownBlock=aA (μ id):=by
        obtain⟨p',c',hm,_⟩:=bv (h.heap.box id _ G')
        rw[hm]
        cases p'<;>rfl
       have M5:id<st.heap.length:=(KE.1 G').1
       have OK:∀b,S b→b<w.heap.size→w'.heap[b]?=w.heap[b]?:=fun b hb hl=>hg.block b hl (fun e=>h.heap.notS id _ b G' rfl (.inl (by rw[← MT];exact e.symm)) hb)
       have hA:dg S w' E (ap C.P E) (l.map enc++new) v':=by
        rw[M0]at ho n2 n5 n6
        refine dg.append r0 (by rw[r1.1];simp) (fun k x j y hx hy=>?_) n5 (fun k x j y hx hy=>?_) (by simpa using ho)
        ·obtain⟨z,hz,hr⟩:=r2 k x j y hx hy
         exact⟨z,hz,hr.stable (fun _ h _=>h) OK hg.size⟩
        ·obtain⟨z,hz,hr⟩:=n6 k x j y hx hy
         exact⟨z,hz,hr.stable (fun _ h _=>h) OK hg.size⟩
       obtain⟨hB,Qr⟩:=kO (μ:=aM μ id v') hq R7 hA
       have hK:=h.kill id
       have Qx:(bS id st.heap)[id]?=some (.arr E (ap C.P E) enc d l):=by rw[ez,G'];rfl
       have Q3:∀b,bi v' b→(μ id).ownBlock=some b∨w.heap.size≤b:=by
        intro b hb
        have hb:=hb.bl (by rcases ho.2 with ⟨rfl,_⟩ | ⟨g,cap,Na,rfl,_⟩<;>rfl)
        have OV:v'.ownBlock=aA v':=by
         rcases ho.2 with ⟨rfl,_⟩ | ⟨g,cap,Na,rfl,_⟩<;>rfl
        rcases MX with MX | MX
        ·exact .inl (by rw[← MX,OV];exact hb)
        ·rw[OV,hb]at MX
         cases MX
         exact .inr (KI _)
       have N2:=hK.upd (id:=id) (B:=B) (row:=(μ id).ownBlock) (u:=v') hg (fun k hk=>⟨_,Qx,rfl,.inl (by rw[← MT];exact hk)⟩) (by show id≤(bS id st.heap).length;rw[bR];omega)
        hB Q3 (.inr ⟨fun A hA=>by have Nr:(bS id st.heap)[id]?=some A:=hA;rw[Qx]at Nr;cases Nr;rfl,i1 id _,i2 id _⟩) (jQ Qr)
       refine⟨v',w',_,M3,N2.put Rr ?_⟩
       have:=ah.own (S:=S) (μ:=aM μ id v') (w:=w') id
       rwa [ao]at this
      ·exact ak hp D'
     ·exact ak hp D'
    ·generalize hq:lW E (ap C.P E) new ov=q at hp
     obtain⟨B,q⟩:=q
     simp only at hp
     have Pg:new.length≤137438953472∧q:=by
      have N3:=hp
      unfold newBox at N3
      split at N3
      ·split at N3
       ·simp only[KJ]at N3;rw[← N3.2]at D';exact D'
       ·exact ak N3 D'
      ·exact ak N3 D'
     obtain⟨MZ,R7⟩:=Pg
     cases hs
     obtain⟨v',w',M3,ho,hg,MX⟩:=cX (P:=C.P) (w:=w) t ty E i v hu hi hv Od (LW w 0 E i.size) n1 n2 n3 n4 (by simp only[maxLen];omega) (bytes _ (by omega))
     have PW:w.grownBy w' none:=hg
     have OK:∀b,S b→b<w.heap.size→w'.heap[b]?=w.heap[b]?:=fun b hb hl=>PW.block b hl (by simp)
     have hA:dg S w' E (ap C.P E) ([]++new) v':=by
      rw[M0]at ho n2 n5 n6
      refine dg.append (xs:=[]) (fun k x hx=>by simp at hx) (by simp) (fun k x j y hx=>by simp at hx) n5 (fun k x j y hx hy=>?_) (by simpa using ho)
      obtain⟨z,hz,hr⟩:=n6 k x j y hx hy
      exact⟨z,hz,hr.stable (fun _ h _=>h) OK PW.size⟩
     rw[LQ]at hA
     obtain⟨hB,Qr⟩:=kO (μ:=aM μ st.heap.length v') hq R7 hA
     refine⟨v',w',_,M3,(h.newBox hp D' PW hB (fun b hb=>?_) ?_ (jQ Qr)).2⟩
     ·have hb:=hb.bl (by rcases ho.2 with ⟨rfl,_⟩ | ⟨g,cap,Na,rfl,_⟩<;>rfl)
      have OV:v'.ownBlock=aA v':=by
       rcases ho.2 with ⟨rfl,_⟩ | ⟨g,cap,Na,rfl,_⟩<;>rfl
      rcases MX with MX | MX
      ·rw[OV,hb]at MX;cases MX
      ·rw[OV,hb]at MX;cases MX;exact KI _
     ·have:=ah.own (S:=S) (μ:=aM μ st.heap.length v') (w:=w') st.heap.length
      rwa [ao]at this
    ·rename_i Nk α enc d0 l
     split at hp
     ·rename_i R4
      rw[KU]at R4
      subst R4
      generalize hq:lW E (ap C.P E) (l.map enc++new) ov=q at hp
      obtain⟨B,q⟩:=q
      simp only at hp
      have Pg:0<new.length∧l.length+new.length≤137438953472∧q:=by
       have N3:=hp
       unfold newBox at N3
       split at N3
       ·split at N3
        ·simp only[KJ]at N3;rw[← N3.2]at D';exact D'
        ·exact ak N3 D'
       ·exact ak N3 D'
      obtain⟨P6,MZ,R7⟩:=Pg
      cases hs with
      | capd _ p n NI =>
       obtain⟨pq,cq,xs,he,x0,x1,x2,_,OB,x3⟩:=fl h.heap Nl (new:=l.map enc) (x:=.v (.sl (ap C.P E) enc d0 l)) (by simp[rr]) (.v _ _ NI)
       simp only[Value.slice.injEq,KM]at he x1
       obtain⟨rfl,rfl,rfl⟩:=he
       rw[← M0]at x1
       obtain⟨v',w',M3,ho,hg,MX⟩:=pY (P:=C.P) (w:=w) t ty E i v hu hi hv Od (p:=p) (n:=l.length) (xs:=xs) (fun e=>by have:=(x0 e).2;simpa using this) x1 x2 n1 n2 n3 P6 (by simp only[maxLen];omega) (bytes _ MZ)
       have OK:∀b,S b→b<w.heap.size→w'.heap[b]?=w.heap[b]?:=fun b hb hl=>hg.block b hl (by simp)
       have hA:dg S w' E (ap C.P E) (l.map enc++new) v':=by
        rw[M0]at ho n2 n5 n6 x1
        refine dg.append OB (by rw[x1];simp) (fun k x j y hx hy=>?_) n5 (fun k x j y hx hy=>?_) (by simpa using ho)
        ·obtain⟨z,hz,hr⟩:=x3 k x j y hx hy
         exact⟨z,hz,hr.stable (fun _ h _=>h) OK hg.size⟩
        ·obtain⟨z,hz,hr⟩:=n6 k x j y hx hy
         exact⟨z,hz,hr.stable (fun _ h _=>h) OK hg.size⟩
       obtain⟨hB,Qr⟩:=kO (μ:=aM μ st.heap.length v') hq R7 hA
       refine⟨v',w',_,M3,(h.newBox hp D' hg hB (fun b hb=>?_) ?_ (jQ Qr)).2⟩
       ·have hb:=hb.bl (by rcases ho.2 with ⟨rfl,_⟩ | ⟨g,cap,Na,rfl,_⟩<;>rfl)
        have OV:v'.ownBlock=aA v':=by
         rcases ho.2 with ⟨rfl,_⟩ | ⟨g,cap,Na,rfl,_⟩<;>rfl
        rw[OV,hb]at MX
        cases MX
        exact KI _
       ·have:=ah.own (S:=S) (μ:=aM μ st.heap.length v') (w:=w') st.heap.length
        rwa [ao]at this
     ·exact ak hp D'
    ·exact ak hp D'
   ·exact ak hp D'
  ·exact ak hp D'
 ·exact ak hp D'
theorem rB (h:aK C S μ st a w) {ov:Ov} {dst:Option Nat} {t ty:TypeId} {s x:D} {us ux:Value} (hs:ah S μ w s us) (hx:ah S μ w x ux) (hp:rt C.P C.nt st ov dst t s x=(I',p)) (D':p) :
  ∃u w' μ',(Builtin.append_ #[t,t] ty #[us,ux]).run C.P w=.ok u w'∧aK C S μ' I' (a.put dst u) w':=by
 unfold rt at hp
 split at hp
 ·rename_i E id iy td hu
  split at hp
  ·rename_i z E1 sz1 n gs cell E2 Qv m gs2 SC P9 M1 hz G' hboy
   split at hp
   ·rename_i M8
    simp only[KD,KU,LJ,Mq]at M8
    obtain⟨⟨⟨⟨⟨hk,NS⟩,Nl⟩,QE⟩,⟨rfl,rfl⟩,rfl⟩,Rr⟩:=M8
    obtain⟨i,v,hi,hv,Pd,M0,RR⟩:=eY hz
    have Od:v.cells.size=i.size:=by rw[M0,← NS,Pd];simp
    simp only[KJ]at hp
    obtain⟨rfl,rfl⟩:=hp
    obtain⟨MZ,NL⟩:=D'
    have Nj:=a6 hs
    subst Nj
    have hux:=a6 hx
    subst hux
    have bytes:∀k,k≤137438953472→k*i.bytes≤140737488355328:=by
     intro k hk
     have:k*i.bytes≤137438953472*1024:=ME hk (by omega)
     omega
    obtain⟨r0,xs,r1,r2⟩:=h.heap.box id _ G'
    obtain⟨q0,ys,q1,q2⟩:=h.heap.box iy _ hboy
    obtain⟨pa,c,hmu,hnc,Pl,hpn,hpp⟩:=eu (h.heap.box iy _ hboy)
    have Qw:∀u∈ys,u.oneCell'=true:=by
     intro u hu
     obtain⟨k,hk,hku⟩:=MI hu
     have hyl:=q1.1
     have Ou:k<m*ap C.P E:=by omega
     have hdm:=Nat.div_add_mod k (ap C.P E)
     have hml:=Nat.mod_lt k (show 0<ap C.P E by omega)
     have hdl:k / ap C.P E<m:=Nat.div_lt_of_lt_mul (by rw[Nat.mul_comm];exact Ou)
     obtain⟨z,hz,ho,_⟩:=q2 (k / ap C.P E) (k%ap C.P E) hdl hml
     rw[Nat.mul_comm,hdm,KF hk,hku]at hz
     cases hz
     exact ho
    have R':∀ad,pa=some ad→∀(j:Nat) (u:Value),ys[j]?=some u→w.cell? (ad.add j)=some u:=by
     intro ad had j u hj
     rcases q1.2 with ⟨hv0,_⟩ | ⟨g,cap,Na,hv0,_⟩
     ·rw[hmu,had]at hv0
      cases hv0
     ·have OA:=hv0
      rw[hmu]at OA
      simp only[Value.slice.injEq]at OA
      rw[had,KP]at OA
      rw[OA.1]
      exact q1.cells (g:=g) (by rw[hv0];rfl) j u hj
    rw[hmu]
    obtain⟨v',w',M3,ho,hg,MX⟩:=cX (P:=C.P) (w:=w) t ty E i v hu hi hv Od (by rw[M0];exact r1) (fun e=>⟨hpn e,by
      rcases Nat.eq_zero_or_pos m with h0 | h0
      ·exact h0
      ·obtain⟨g,hg⟩:=hpp h0;rw[hg]at e;cases e⟩) (by rw[M0];exact q1.1) R' Qw (by simp only[maxLen];omega) (bytes _ MZ)
    have MT:(μ id).ownBlock=aA (μ id):=by
     obtain⟨p',c',hm,_⟩:=eu (h.heap.box id _ G')
     rw[hm]
     cases p'<;>rfl
    have M5:id<st.heap.length:=(KE.1 G').1
    have OK:∀b,S b→b<w.heap.size→w'.heap[b]?=w.heap[b]?:=fun b hb hl=>hg.block b hl (fun e=>h.heap.notS id _ b G' rfl (.inl (by rw[← MT];exact e.symm)) hb)
    have NR:∀(d:D) (u:Value),ah S μ w d u→d.free id=true→ah S (aM μ id v') w' d u:=fun d u hd hf=>hd.stable (fun _ h _=>h) OK hg.size (fun k hk=>av _ _ (fun e=>by rw[e,hf]at hk;cases hk))
    rw[M0]at ho
    have hB:az S (aM μ id v') w' v' (.arrD E (ap C.P E) (n+m) P9 M1):=by
     refine⟨fun i j k hi hj hk=>(NL i j hi hj).2.2 k hk,xs++ys,ho,fun i j hi hj=>?_⟩
     obtain⟨e1,e2,_⟩:=NL i j hi hj
     by_cases NN:i<n
     ·rw[KT NN]at e1
      obtain⟨z,hz,h1,hr⟩:=r2 i j NN hj
      refine⟨z,?_,h1,NR _ _ (by rw[e1];exact hr) e2⟩
      rw[KL (KE.1 hz).1]
      exact hz
     ·rw[KK NN]at e1
      obtain⟨z,hz,h1,hr⟩:=q2 (i-n) j (by omega) hj
      refine⟨z,?_,h1,NR _ _ (by rw[e1];exact hr) e2⟩
      have R8:n*ap C.P E≤i*ap C.P E:=K3 _ (by omega)
      have QW:=r1.1
      rw[KR (by omega),QW,show i*ap C.P E+j-n*ap C.P E=(i-n)*ap C.P E+j by rw[Nat.sub_mul];omega]
      exact hz
    have hK:=h.kill id
    have Qx:∃A,(bS id st.heap)[id]?=some A∧A.live=true:=by
     refine⟨am.kill id (.arrD E (ap C.P E) n gs cell),by rw[ez,G'];rfl,?_⟩
     simp only[am.kill]
     split<;>rfl
    have Q3:∀b,bi v' b→(μ id).ownBlock=some b∨w.heap.size≤b:=by
     intro b hb
     have hb:=hb.bl (by rcases ho.2 with ⟨rfl,_⟩ | ⟨g,cap,Na,rfl,_⟩<;>rfl)
     have OV:v'.ownBlock=aA v':=by
      rcases ho.2 with ⟨rfl,_⟩ | ⟨g,cap,Na,rfl,_⟩<;>rfl
     rcases MX with MX | MX
     ·exact .inl (by rw[← MX,OV];exact hb)
     ·rw[OV,hb]at MX
      cases MX
      exact .inr (KI _)
    obtain⟨A,hA1,RU⟩:=Qx
    have N2:=hK.upd0 (id:=id) (B:=.arrD E (ap C.P E) (n+m) P9 M1) (row:=(μ id).ownBlock) (u:=v') hg (fun k hk=>⟨A,hA1,RU,.inl (by rw[← MT];exact hk)⟩) (by show id≤(bS id st.heap).length;rw[bR];omega)
     hB Q3 (.inr ⟨i1 id _,i2 id _⟩) rfl
    refine⟨v',w',_,M3,N2.put Rr ?_⟩
    have:=ah.own (S:=S) (μ:=aM μ id v') (w:=w') id
    rwa [ao]at this
   ·exact ak hp D'
  ·exact ak hp D'
 ·exact ak hp D'
theorem Be {S:Nat→Prop} {w:World} {sz:Nat} {α β:Type} {enc:α→List V} {d:α} {l:List α} {MW:β→List V} {d':β} {l':List β} {t:List (List V)} {g n m c c':Nat} (h:ci S w (.sl sz enc d l) (.slice (some ⟨g,0,none⟩) m c')) (he:l.map enc=l'.map MW++t) (hn:n=l'.length) (hc:n≤c) (hm:c≤maxLen):ci S w (.sl sz MW d' l') (.slice (some ⟨g,0,none⟩) n c):=by
 obtain⟨p,c0,e,h1,h2,h3,h4⟩:=dY h
 cases e
 refine jR hn (by omega) hm (fun e=>by cases e) (fun h0=>?_)
 have hle:l'.length≤l.length:=by have:=congrArg List.length he;simp only[KM,KN]at this;omega
 obtain⟨b,L',us,q1,q2,q3,q4,q5,q6⟩:=h4 (by omega)
 have back:∀(i:Nat) (x:β),l'[i]?=some x→∃y,l[i]?=some y∧enc y=MW x:=fun i x hx=>cO (by
  rw[he,KL (by rw[KM];exact(KE.1 hx).1)];exact qp hx)
 refine⟨b,L',us,q1,q2,q3,fun i x hx=>?_,fun i x j y hx hy=>?_,fun i x j y hx hy=>?_⟩
 ·obtain⟨z,hz,e⟩:=back i x hx
  rw[← e];exact q4 i z hz
 ·obtain⟨z,hz,e⟩:=back i x hx
  exact q5 i z j y hz (by rw[e];exact hy)
 ·obtain⟨z,hz,e⟩:=back i x hx
  exact q6 i z j y hz (by rw[e];exact hy)
theorem rC (h:aK C S μ st a w) {ov:Ov} {dst:Option Nat} {t ty:TypeId} {s x:D} {us ux:Value} (hs:ah S μ w s us) (hx:ah S μ w x ux) (hp:ru C.P C.nt st ov dst t s x=(I',p)) (D':p) :
  ∃u w' S' μ',(Builtin.append_ #[t,t] ty #[us,ux]).run C.P w=.ok u w'∧aK C S' μ' I' (a.put dst u) w':=by
 unfold ru at hp
 split at hp
 ·rename_i E id td hu
  split at hp
  ·rename_i z new E0 QP α enc d l E' Nk β MW d' l' hz Nb G'
   split at hp
   ·rename_i M8
    simp only[KD,KU,LJ,Mq]at M8
    obtain⟨⟨⟨⟨⟨hk,NS⟩,Nl⟩,QE⟩,⟨⟨rfl,rfl⟩,rfl⟩,rfl⟩,⟨⟨Rr,NZ⟩,QY⟩,⟨Qs,O2⟩,hih⟩:=M8
    simp only[KJ]at hp
    obtain⟨rfl,rfl⟩:=hp
    obtain⟨MZ,RN,hall⟩:=D'
    obtain⟨i,v,hi,hv,Pd,M0,RR⟩:=eY hz
    have Od:v.cells.size=i.size:=by rw[M0,← NS,Pd];simp
    obtain⟨pa,c,M4,rfl,n1,n2,n3,n4,n5,n6⟩:=fl h.heap Nl Nb hx
    rw[← M0]at n2 n6 n5
    have bytes:∀k,k≤137438953472→k*i.bytes≤140737488355328:=by
     intro k hk
     have:k*i.bytes≤137438953472*1024:=ME hk (by omega)
     omega
    have Nj:=a6 hs
    subst Nj
    have Ox:=h.heap.box id _ G'
    obtain⟨r0,xs,r1,r2⟩:=dg.of Ox
    simp only[KM]at r1
    have PV:l.length+new.length≤maxLen:=by simp only[maxLen];omega
    obtain⟨v',w',M3,ho,hg,MX,QL⟩:=jF (P:=C.P) (w:=w) t ty E i v hu hi hv Od (by rw[M0];exact r1) n1 n2 n3 n4 PV (bytes _ MZ)
    obtain⟨p0,c0,hm0,b1,b2,b3,b4⟩:=bv Ox
    have OP:(μ id).oneCell'=true:=by rw[hm0];rfl
    have MT:(μ id).ownBlock=aA (μ id):=by rw[hm0];cases p0<;>rfl
    have hvo:v'.oneCell'=true:=by rcases ho.2 with ⟨rfl,_⟩ | ⟨g,cap,Na,rfl,_⟩<;>rfl
    have OV:v'.ownBlock=aA v':=by
     rcases ho.2 with ⟨rfl,_⟩ | ⟨g,cap,Na,rfl,_⟩<;>rfl
    have M5:id<st.heap.length:=(KE.1 G').1
    have OK:∀b,S b→b<w.heap.size→w'.heap[b]?=w.heap[b]?:=fun b hb hl=>hg.block b hl (fun e=>h.heap.notS id _ b G' rfl (.inl (by rw[← MT];exact e.symm)) hb)
    have hA:dg S w' E (ap C.P E) (l.map enc++new) v':=by
     rw[M0]at ho n2 n5 n6
     refine dg.append r0 (by rw[r1.1];simp) (fun k x j y hx hy=>?_) n5 (fun k x j y hx hy=>?_) (by simpa using ho)
     ·obtain⟨z,hz,hr⟩:=r2 k x j y hx hy
      exact⟨z,hz,hr.stable (fun _ h _=>h) OK hg.size⟩
     ·obtain⟨z,hz,hr⟩:=n6 k x j y hx hy
      exact⟨z,hz,hr.stable (fun _ h _=>h) OK hg.size⟩
    have hq0:∀A,(st.heap++[am.dead])[st.heap.length]?=some A→A=.dead:=fun A hA=>by simp at hA;exact hA.symm
    have hqf:aP st.heap.length (st.heap++[am.dead])=true:=oM QY rfl
    have h0:∀u,aK C S (aM μ st.heap.length u) ⟨st.env,st.heap++[.dead]⟩ a w:=fun u=>aK.ghost (h.heapTo (H:=st.heap++[.dead]) (fun i B hB=>by
     by_cases hi:i<st.heap.length
     ·rw[KL hi]at hB;exact .inr hB
     ·rw[KR (by omega)]at hB
      cases hq:i-st.heap.length with
      | zero=>rw[hq]at hB;cases hB;exact .inl rfl
      | succ n=>rw[hq]at hB;simp at hB)) u hq0 NZ hqf
    have NF:id≠st.heap.length:=by omega
    have OC:(st.heap++[am.dead])[id]?=some (.arr E (ap C.P E) enc d l):=by rw[KL M5];exact G'
    have hn2:a9 id (st.heap++[am.dead])=true:=rk Qs rfl
    have hfD:aP id (bz id (.nw st.heap.length) (st.heap++[am.dead]))=true:=by rw[jW];exact oM hih rfl
    have PZ:∀q,q∈m4 id st.env∨q∈jV id (st.heap++[am.dead])→q∈m4 id st.env++jV id st.heap:=fun q hq=>by
     rcases hq with hq | hq
     ·exact LC _ hq
     ·rcases tM hq with hq | hq
      ·exact Lx _ hq
      ·simp[ww]at hq
    have SF:∀X:am,((bz id (.nw st.heap.length) (st.heap++[am.dead])).set id X).length=st.heap.length+1:=fun X=>by rw[LF,jX,KN];rfl
    have SG:∀X:am,dU st.heap.length (.nw id) X=X→bz st.heap.length (.nw id) ((bz id (.nw st.heap.length) (st.heap++[am.dead])).set id X)=(bz id (.nw id) st.heap).set id X++[.dead]:=fun X hX=>by
     rw[wx hX,tL hqf hn2,jW,List.set_append_left _ _ (by rw[jX];exact M5)]
     rfl
    have QI:∀X B:am,bc ((bz id (.nw st.heap.length) (st.heap++[am.dead])).set id X) id B=(bz id (.nw st.heap.length) (st.heap++[am.dead])).set id B:=fun X B=>by
     unfold bc
     rw[KK (by rw[KU,SF];omega),List.set_set]
    have hfs:∀X:am,am.free id X=true→aP id ((bz id (.nw st.heap.length) (st.heap++[am.dead])).set id X)=true:=fun X hX=>tN hfD hX
    have hnoq:∀X:am,(∀(E sz n:Nat) (gs:List Nat) (cell:Nat→Nat→D),X≠.arrD E sz n gs cell)→a9 st.heap.length ((bz id (.nw st.heap.length) (st.heap++[am.dead])).set id X)=true:=fun X hX=>my (mu (jY hqf)) hX
    rcases MX with MX | ⟨MX,QK⟩
    ·-- in its O0
     have k1:=h0 (μ id)
     have Rs:aM μ st.heap.length (μ id) id=μ id:=av _ _ NF
     have k2:=k1.recast (id:=id) (x:=.nw st.heap.length) trivial hn2 (fun q _ _ g n c e _ _ _=>.inl (by rw[ao];rw[Rs]at e;exact e))
     have QJ:(bz id (.nw st.heap.length) (st.heap++[am.dead]))[id]?=some (.arr E (ap C.P E) enc d l):=by rw[fh,OC];rfl
     have e0:(bz id (.nw st.heap.length) (st.heap++[am.dead])).set id (.arr E (ap C.P E) enc d l)=bz id (.nw st.heap.length) (st.heap++[am.dead]):=List.ext_getElem? (fun j=>by
       rw[Ms]
       by_cases hj:id=j
       ·subst hj;rw[KT rfl,KT (KE.1 QJ).1];exact QJ.symm
       ·rw[KK hj])
     have k3:=k2.upd0 (id:=id) (B:=.arr E (ap C.P E) MW d' l') (row:=(μ id).ownBlock) (u:=v') hg (fun k hk=>⟨_,QJ,rfl,.inl (by rw[Rs,← MT];exact hk)⟩) (by show id≤(bz id _ _).length;rw[jX,KN];omega)
      (hA.box RN) (fun b hb=>.inl (by rw[← MX,OV];exact hb.bl hvo)) (.inr ⟨O2,hfD⟩) rfl
     have e1:bc (bz id (.nw st.heap.length) (st.heap++[am.dead])) id (.arr E (ap C.P E) MW d' l')=(bz id (.nw st.heap.length) (st.heap++[am.dead])).set id (.arr E (ap C.P E) MW d' l'):=by rw[← e0,QI,List.set_set]
     rw[e1]at k3
     have k4:=k3.recast (id:=st.heap.length) (x:=.nw id) trivial (hnoq _ (fun E sz n gs cell e=>by cases e)) (fun q _ _ g n c e _ _ _=>.inl (by
      rw[ao,← OV,MX,MT]
      rw[av _ _ (fun e=>NF e.symm),ao]at e
      exact e))
     simp only[SG _ (show dU st.heap.length (.nw id) (am.arr E (ap C.P E) MW d' l')=_ from rfl),iv NZ]at k4
     refine⟨v',w',_,_,M3,k4.put Rr ?_⟩
     have:=ah.own (S:=S) (μ:=aM (aM μ st.heap.length (μ id)) id v') (w:=w') id
     rwa [ao]at this
    ·-- in a new block
     have k1:=h0 (.bool true)
     have Rs:aM μ st.heap.length (.bool true) id=μ id:=av _ _ NF
     have NI:ci (fun b=>S b∨bi (aM μ st.heap.length (.bool true) id) b) w (.sl (ap C.P E) enc d l) (μ id):=db (μ:=μ) Ox (fun b hb=>.inl hb) (fun b hb=>.inr (by rw[Rs];exact hb)) h.slt
     have k2:=k1.freezeX (id:=id) (z:=.nw st.heap.length) OC rfl trivial (fun _=>hn2) (fun q hq hsh g n c e en ec em=>.inr (by
      obtain⟨e1,t,e2⟩:=rj hall (PZ q hq) hsh
      rw[Rs,hm0]at e
      cases p0 with
      | none=>cases e
      | some ad =>
       rw[hm0]at NI
       rw[e1]
       by_cases OB:0<l.length
       ·obtain⟨g',PW⟩:=b4 OB
        cases PW
        cases e
        exact Be NI e2 en ec em
       ·have hq0:q.l=[]:=by
         have h1:=congrArg List.length e2
         simp only[KM,KN]at h1
         exact La (by omega)
        rw[hq0]at en ⊢
        subst en
        exact .nil _ _ _ _ _ em (fun e=>by cases e)))
     have Nr:dg (fun b=>S b∨bi (aM μ st.heap.length (.bool true) id) b) w' E (ap C.P E) (l.map enc++new) v':=by
      obtain⟨y0,ys,y1,y2⟩:=hA
      exact⟨y0,ys,y1,fun k x j y hx hy=>by
       obtain⟨z,hz,hr⟩:=y2 k x j y hx hy
       exact⟨z,hz,hr.stable (fun b hb _=>.inl hb) (fun _ _ _=>rfl) (KI _)⟩⟩
     have k3:=k2.upd0 (id:=id) (B:=.arr E (ap C.P E) MW d' l') (row:=none) (u:=v') QK (fun k hk=>by cases hk) (by show id≤List.length _;rw[SF];omega)
      (Nr.box RN) (fun b hb=>.inr (by have hb:=hb.bl hvo;rw[OV,hb]at MX;cases MX;exact KI _)) (.inr ⟨O2,hfs _ rfl⟩) rfl
     simp only[QI]at k3
     have k4:=k3.recast (id:=st.heap.length) (x:=.nw id) trivial (hnoq _ (fun E sz n gs cell e=>by cases e)) (fun q _ _ g n c e _ _ _=>by
      rw[av _ _ (fun e=>NF e.symm),ao]at e
      cases e)
     simp only[SG _ (show dU st.heap.length (.nw id) (am.arr E (ap C.P E) MW d' l')=_ from rfl),iv NZ]at k4
     refine⟨v',w',_,_,M3,k4.put Rr ?_⟩
     have:=ah.own (S:=fun b=>S b∨bi (aM μ st.heap.length (.bool true) id) b) (μ:=aM (aM μ st.heap.length (.bool true)) id v') (w:=w') id
     rwa [ao]at this
   ·exact ak hp D'
  ·exact ak hp D'
 ·exact ak hp D'
theorem aK.bothF {Sx:Nat→Prop} (hR:aK C Sx μ ⟨st.env,st.heap++[.dead]⟩ a w) {id E sz td:Nat} {α β:Type} {enc:α→List V} {d:α} {l:List α} {MW:β→List V} {d':β} {l':List β} (G':st.heap[id]?=some (.arr E sz enc d l)) (Rr:td<C.nt) {v:Value}
  (hv:ci (fun b=>Sx b∨bi (μ id) b) w (.sl sz MW d' l') v):∃S',aK C S' μ ⟨pX (f9 id (.sl (.sl sz enc d l)) st.env) td (.v (.sl sz MW d' l')),(bz id (.sl (.sl sz enc d l)) st.heap).set id .dead++[.dead]⟩ (a.put (some td) v) w:=by
 have M5:id<st.heap.length:=(KE.1 G').1
 have OC:(st.heap++[am.dead])[id]?=some (.arr E sz enc d l):=by rw[KL M5];exact G'
 have h1:=hR.freezeX (id:=id) (z:=.sl (.sl sz enc d l)) OC rfl (db (hR.heap.box id _ OC) (fun b hb=>.inl hb) (fun b hb=>.inr hb) hR.slt) (fun e=>by cases e) (fun p _=>s9.triv rfl p)
 have h2:=h1.put Rr (.v _ _ hv)
 have e:(bz id (.sl (.sl sz enc d l)) (st.heap++[am.dead])).set id .dead=(bz id (.sl (.sl sz enc d l)) st.heap).set id .dead++[.dead]:=by
  rw[jW,List.set_append_left _ _ (by rw[jX];exact M5)]
  rfl
 rw[← e]
 exact⟨_,h2⟩
theorem rD (h:aK C S μ st a w) {ov:Ov} {dst:Option Nat} {t ty:TypeId} {s x:D} {us ux:Value} (hs:ah S μ w s us) (hx:ah S μ w x ux) (hp:rx C.P C.nt st ov dst t s x=(I',p)) (D':p) :
  ∃u w' S' μ',(Builtin.append_ #[t,t] ty #[us,ux]).run C.P w=.ok u w'∧aK C S' μ' I' (a.put dst u) w':=by
 unfold rx at hp
 split at hp
 ·rename_i E id td hu
  split at hp
  ·rename_i z new E0 QP α enc d l E' Nk β MW d' l' hz Nb G'
   split at hp
   ·rename_i M8
    simp only[KD,KU,LJ,Mq]at M8
    obtain⟨⟨⟨⟨⟨hk,NS⟩,Nl⟩,QE⟩,⟨⟨rfl,rfl⟩,rfl⟩,rfl⟩,⟨Rr,NZ⟩,QY⟩:=M8
    simp only[KJ]at hp
    obtain⟨rfl,rfl⟩:=hp
    obtain⟨MZ,RN⟩:=D'
    obtain⟨i,v,hi,hv,Pd,M0,RR⟩:=eY hz
    have Od:v.cells.size=i.size:=by rw[M0,← NS,Pd];simp
    obtain⟨pa,c,M4,rfl,n1,n2,n3,n4,n5,n6⟩:=fl h.heap Nl Nb hx
    rw[← M0]at n2 n6 n5
    have bytes:∀k,k≤137438953472→k*i.bytes≤140737488355328:=by
     intro k hk
     have:k*i.bytes≤137438953472*1024:=ME hk (by omega)
     omega
    have Nj:=a6 hs
    subst Nj
    have Ox:=h.heap.box id _ G'
    obtain⟨r0,xs,r1,r2⟩:=dg.of Ox
    simp only[KM]at r1
    have PV:l.length+new.length≤maxLen:=by simp only[maxLen];omega
    obtain⟨v',w',M3,ho,hg,MX,QL⟩:=jF (P:=C.P) (w:=w) t ty E i v hu hi hv Od (by rw[M0];exact r1) n1 n2 n3 n4 PV (bytes _ MZ)
    have MT:(μ id).ownBlock=aA (μ id):=by
     obtain⟨p',c',hm,_⟩:=bv Ox
     rw[hm]
     cases p'<;>rfl
    have OV:v'.ownBlock=aA v':=by
     rcases ho.2 with ⟨rfl,_⟩ | ⟨g,cap,Na,rfl,_⟩<;>rfl
    have M5:id<st.heap.length:=(KE.1 G').1
    have OK:∀b,S b→b<w.heap.size→w'.heap[b]?=w.heap[b]?:=fun b hb hl=>hg.block b hl (fun e=>h.heap.notS id _ b G' rfl (.inl (by rw[← MT];exact e.symm)) hb)
    have hA:dg S w' E (ap C.P E) (l.map enc++new) v':=by
     rw[M0]at ho n2 n5 n6
     refine dg.append r0 (by rw[r1.1];simp) (fun k x j y hx hy=>?_) n5 (fun k x j y hx hy=>?_) (by simpa using ho)
     ·obtain⟨z,hz,hr⟩:=r2 k x j y hx hy
      exact⟨z,hz,hr.stable (fun _ h _=>h) OK hg.size⟩
     ·obtain⟨z,hz,hr⟩:=n6 k x j y hx hy
      exact⟨z,hz,hr.stable (fun _ h _=>h) OK hg.size⟩
    have hA0:dg S w' E (ap C.P E) (l.map enc) (μ id):=by
     refine⟨r0,xs,by rw[M0]at QL;simpa using QL,fun k x j y hx hy=>?_⟩
     obtain⟨z,hz,hr⟩:=r2 k x j y hx hy
     exact⟨z,hz,hr.stable (fun _ h _=>h) OK hg.size⟩
    rcases MX with MX | ⟨MX,QK⟩
    ·-- in its O0,or nothing at all
     have N2:=h.upd (id:=id) (B:=.arr E (ap C.P E) enc d l) (row:=(μ id).ownBlock) (u:=μ id) hg (fun k hk=>⟨_,G',rfl,.inl (by rw[← MT];exact hk)⟩) (by omega)
      (by rw[c6];exact hA0.box rfl) (fun b hb=>.inl (by rw[MT];exact hb.bl (by obtain⟨p',c',hm,_⟩:=bv Ox;rw[hm];rfl))) (.inl ⟨rfl,.inr ⟨_,G',rfl⟩⟩)
     rw[c6]at N2
     have he:bc st.heap id (.arr E (ap C.P E) enc d l)=st.heap:=by
      unfold bc
      rw[KK (by rw[KU];omega)]
      exact List.ext_getElem? (fun j=>by
       rw[Ms]
       by_cases hj:id=j
       ·subst hj;rw[KT rfl,KT M5];exact G'.symm
       ·rw[KK hj])
     rw[he]at N2
     have hu3:=N2.heapTo (H:=st.heap++[.dead]) (fun i B hB=>by
      by_cases hi:i<st.heap.length
      ·rw[KL hi]at hB;exact .inr hB
      ·rw[KR (by omega)]at hB
       cases hq:i-st.heap.length with
       | zero=>rw[hq]at hB;cases hB;exact .inl rfl
       | succ n=>rw[hq]at hB;simp at hB)
     have NI:ci (fun b=>S b∨bi (μ id) b) w' (.sl (ap C.P E) MW d' l') v':=db (μ:=μ) (hA.box RN) (fun b hb=>.inl hb) (fun b hb=>.inr (.inl (by rw[← MT,← MX,OV];exact hb.bl (by rcases ho.2 with ⟨rfl,_⟩ | ⟨g,cap,Na,rfl,_⟩<;>rfl)))) N2.slt
     obtain⟨S',hR⟩:=aK.bothF (st:=st) hu3 G' Rr NI
     exact⟨v',w',S',μ,M3,hR⟩
    ·-- in a new block
     have N2:=h.upd (id:=st.heap.length) (B:=.arr E (ap C.P E) MW d' l') (row:=none) (u:=v') QK (fun k hk=>by cases hk) (KI _)
      (hA.box RN) (fun b hb=>.inr (by have hb:=hb.bl (by rcases ho.2 with ⟨rfl,_⟩ | ⟨g,cap,Na,rfl,_⟩<;>rfl);rw[OV,hb]at MX;cases MX;exact KI _)) (.inr ⟨fun A hA=>by simp at hA,NZ,QY⟩)
     rw[show bc st.heap st.heap.length (.arr E (ap C.P E) MW d' l')=st.heap++[.arr E (ap C.P E) MW d' l']from by simp[bc]]at N2
     have OC:(st.heap++[am.arr E (ap C.P E) MW d' l'])[st.heap.length]?=some (.arr E (ap C.P E) MW d' l'):=by simp
     have hr2:=db (S':=fun b=>S b∨bi (aM μ st.heap.length v' st.heap.length) b) (N2.heap.box _ _ OC) (fun b hb=>.inl hb) (fun b hb=>.inr hb) N2.slt
     have hu3:=N2.freezeX (id:=st.heap.length) (z:=.sl (.sl (ap C.P E) MW d' l')) OC rfl hr2 (fun e=>by cases e) (fun p _=>s9.triv rfl p)
     have e1:f9 st.heap.length (.sl (.sl (ap C.P E) MW d' l')) st.env=st.env:=kN NZ
     have e2:(bz st.heap.length (.sl (.sl (ap C.P E) MW d' l')) (st.heap++[am.arr E (ap C.P E) MW d' l'])).set st.heap.length .dead=st.heap++[.dead]:=by
      rw[jW,tJ QY]
      simp[bz,dU]
     simp only[e1,e2]at hu3
     rw[ao]at hr2
     have NI:ci (fun b=>(S b∨bi (aM μ st.heap.length v' st.heap.length) b)∨bi (aM μ st.heap.length v' id) b) w' (.sl (ap C.P E) MW d' l') v':=by
      rw[ao]
      exact hr2.stable (fun b hb _=>.inl hb) (fun _ _ _=>rfl) (KI _)
     obtain⟨S',hR⟩:=aK.bothF (st:=st) hu3 G' Rr NI
     exact⟨v',w',S',_,M3,hR⟩
   ·exact ak hp D'
  ·exact ak hp D'
 ·exact ak hp D'
end
section
variable {C:jC} {S:Nat→Prop} {μ:Nat→Value} {st I':St} {a:Act} {w w':World} {p:Prop}
theorem aK.ePut (h:aK C S μ st a w) {dst:Option Nat} {d:D} {q:Prop} {u:Value} (hp:ePut C.nt st dst d q=(I',p)) (D':p) (hd:ah S μ w d u):q∧aK C S μ I' (a.put dst u) w:=by
 unfold Proofs.Ytgmpoenfoacofaa.ePut at hp
 split at hp
 ·split at hp
  ·rename_i t ht
   rw[Mq]at ht
   simp only[KJ]at hp
   obtain⟨rfl,rfl⟩:=hp
   exact⟨D',h.put ht hd⟩
  ·exact ak hp D'
 ·simp only[KJ]at hp
  obtain⟨rfl,rfl⟩:=hp
  exact⟨D',h⟩
theorem aE.evals (h:aK C S μ st a w) (args:Array Operand):aE S μ w (args.toList.map (dA st.env)) (args.map a.eval):=by
 refine⟨by simp,fun j y z hy hz=>?_⟩
 simp only[KX,Ld,LP]at hy hz
 cases hj:args[j]? with
 | none=>rw[hj]at hy;cases hy
 | some x=>rw[hj]at hy hz;simp at hy hz;subst hy hz;exact h.eval x
theorem aE.app {cs ds:List D} {us vs:Array Value} (h:aE S μ w cs us) (k:aE S μ w ds vs):aE S μ w (cs++ds) (us++vs):=by
 refine⟨by simp[h.1,k.1],fun j y z hy hz=>?_⟩
 by_cases hj:j<cs.length
 ·rw[KL hj]at hy
  rw[Array.getElem?_append_left (by rw[h.1];exact hj)]at hz
  exact h.2 j y z hy hz
 ·rw[KR (by omega)]at hy
  rw[Array.getElem?_append_right (by rw[h.1];omega),h.1]at hz
  exact k.2 _ y z hy hz
theorem bk {P:Program} {f:FuncId} (h:gY P f=true) (args:Array Value) (w:World):(callFunc f args).run P w=.ok (.enter f args) w:=by
 unfold gY at h
 cases hf:P.funcs[f]? with
 | none=>rw[hf]at h;cases h
 | some fn =>
  rw[hf]at h
  simp only[KD,K5]at h
  have n1:fn.name ≠ "runtime.NumGoroutine" := by simpa using h.1
  have n2:fn.body≠none:=fun e=>by rw[e]at h;simp at h
  simp[callFunc,program,Sem.run,hf,n1,n2]
theorem dc {nt:Nat} {dst:Option Nat} {d:D} {q:Prop} (hp:ePut nt st dst d q=(I',p)) (D':p):q:=by
 unfold ePut at hp
 split at hp
 ·split at hp
  ·simp only[KJ]at hp;rw[← hp.2]at D';exact D'
  ·exact ak hp D'
 ·simp only[KJ]at hp;rw[← hp.2]at D';exact D'
theorem mA (w:World):w.grownBy w none:=⟨rfl,rfl,rfl,KI _,fun _ _ _=>rfl⟩
theorem aK.pushFrame (h:aK C S μ st a w) (hf:bj st.heap.length st.env=true) (hh:aP st.heap.length st.heap=true) :
  aK C S (aM μ st.heap.length (.bool true)) ⟨st.env,st.heap++[.frame a.tmps st.env]⟩ a w:=by
 have:=h.upd (id:=st.heap.length) (B:=.frame a.tmps st.env) (row:=none) (u:=.bool true) (mA w) (fun k hk=>by cases hk) (KI _)
  ⟨rfl,fun t d hm=>?_⟩ (fun b hb=>by simp[bi,aA]at hb) (.inr ⟨fun A hA=>by simp at hA,hf,hh⟩)
 ·rw[show bc st.heap st.heap.length (.frame a.tmps st.env)=st.heap++[.frame a.tmps st.env]from by simp[bc]]at this
  exact this
 ·obtain⟨q1,q2⟩:=h.env t d hm
  refine⟨by rw[h.tsize];exact q1,q2.stable (fun _ h _=>h) (fun _ _ _=>rfl) (KI _) (fun i hi=>av _ _ (fun e=>?_))⟩
  subst e
  rw[cE hf hm]at hi
  cases hi
theorem aK.loopTo (h:aK C S μ st a w) {id l:Nat} {tm:Array Value} {nt:Nat} {env:List (Nat×D)} {ps:List Nat} {q' bd:Code} {s:LoopState} {pe:Option Code} (G':st.heap[id]?=some (.loop l tm nt env ps q' bd s pe)) (s':LoopState) (pe':Option Code) :
  ∃r:Loop,w.heap[l]?=some (.loop r)∧r.state=s∧r.pending=pe∧r.params=ps.toArray∧r.assign=q'∧r.body=bd∧r.tmps=tm∧tm.size=nt ∧
   aK C S μ ⟨st.env,st.heap.set id (.loop l tm nt env ps q' bd s' pe')⟩ a (w.putObj l (.loop { r with state:=s',pending:=pe' })):=by
 obtain⟨r,hμ,g1,g2,g3,g4,g5,g6,g7,g8,g9⟩:=h.heap.box id _ G'
 have M5:id<st.heap.length:=(KE.1 G').1
 have RN:l<w.heap.size:=(KQ.1 g1).1
 refine⟨r,g1,g2,g3,g4,g5,g6,g7,g8,?_⟩
 have PJ:aA (μ id)=some l:=by rw[hμ];rfl
 have MX:bi (μ id) l:=.inl PJ
 have hg:w.grownBy (w.putObj l (.loop { r with state:=s',pending:=pe' })) (some l):=⟨rfl,rfl,rfl,by rw[MB];exact KI _,fun k _ hk=>Me (fun e=>hk (by rw[e]))⟩
 have hSl:¬S l:=h.heap.notS id _ l G' rfl MX
 have:=h.upd (id:=id) (B:=.loop l tm nt env ps q' bd s' pe') (row:=some l) (u:=μ id) hg (fun k hk=>⟨_,G',rfl,by cases hk;exact MX⟩) (Nat.le_of_lt M5) ?_ (fun b hb=>.inl (hb.one PJ)) (.inl ⟨rfl,.inl rfl⟩)
 ·have e1:aM μ id (μ id)=μ:=by funext i;unfold aM;split<;>simp_all
  rw[e1]at this
  have e2:bc st.heap id (.loop l tm nt env ps q' bd s' pe')=st.heap.set id (.loop l tm nt env ps q' bd s' pe'):=by
   unfold bc
   have:Nat.beq id st.heap.length=false:=by
    cases hb:Nat.beq id st.heap.length
    ·rfl
    ·rw[KU]at hb;omega
   rw[this]
   rfl
  rw[e2]at this
  exact this
 ·have e1:aM μ id (μ id)=μ:=by funext i;unfold aM;split<;>simp_all
  rw[e1]
  refine⟨_,hμ,World.putObj_heap_same RN,rfl,rfl,g4,g5,g6,g7,g8,fun t d hm=>?_⟩
  obtain⟨q1,q2⟩:=g9 t d hm
  refine⟨q1,q2.stable (fun _ h _=>h) (fun b hb _=>Me (fun e=>hSl (e ▸ hb))) (by rw[MB];exact KI _) (fun _ _=>rfl)⟩
theorem Bf {H:List am} {n:Nat} (h:mz H[n]?=true):n<H.length∧H[n]?=some .dead:=by
 unfold mz at h
 split at h
 ·rename_i hh;exact⟨(KE.1 hh).1,hh⟩
 ·cases h
theorem zJ {H L:List am} {n:Nat} {F:am} (hd:mz H[n]?=true) (ht:L.take (H.set n F).length=H.set n F):L[n]?=some F∧∀(i:Nat) (B:am),H[i]?=some B→B=.dead∨L[i]?=some B:=by
 obtain⟨h1,h2⟩:=Bf hd
 have key:∀i,i<H.length→L[i]?=(H.set n F)[i]?:=fun i hi=>by
  rw[← ht,K4,KT (by simpa using hi)]
 refine⟨by rw[key n h1,KY h1],fun i B hB=>?_⟩
 have hi:i<H.length:=(KE.1 hB).1
 by_cases e:i=n
 ·subst e
  rw[h2]at hB
  cases hB
  exact .inl rfl
 ·rw[key i hi,KW (fun h=>e h.symm)]
  exact .inr hB
theorem rE (h:aK C S μ st a w) {dst:Option Nat} {g:FuncId} {ds:List D} {r:D} {env:List (Nat×D)} {H:List am} {us:Array Value} (Nj:∀(μ1:Nat→Value) (H1:List am),aK C S μ1 ⟨st.env,H1⟩ a w→aE S μ1 w ds us)
  (hp:CG C.P C.nt st dst g ds r env H=(I',p)) (D':p) {K:Act→World→Prop} (hK:∀S' μ' a' w',aK C S' μ' I' a' w'→K a' w'):gY C.P g=true∧Calls C.P g us w (fun e w'=>∃u,e=.returned u∧K (a.put dst u) w'):=by
 unfold CG at hp
 split at hp
 ·rename_i hc
  simp only[KD]at hc
  obtain⟨⟨⟨Pp,NZ⟩,QY⟩,Q6⟩:=hc
  refine⟨Pp,?_⟩
  obtain⟨fn,c,hf,hb,hn,hev⟩:=dc hp D' a.tmps
  rw[LJ]at hn
  have h1:=h.pushFrame NZ QY
  obtain⟨mk,d1,d2,d3⟩:=h1.defers
  have NI:=Nj _ _ h1
  let C1:jC:=⟨C.P,C.W,C.S0,fn.ntmps,mk++C.susp,none,C.g⟩
  have hR:aK C1 S (aM μ st.heap.length (.bool true)) ⟨ge 0 ds,st.heap++[.frame a.tmps st.env]⟩ (rm us fn.ntmps) w :=
   h1.turn (C1:=C1) (mk:=mk) (mk1:=[]) d2 d3 rfl rfl rfl (m6 NI.1 hn) (qs NI hn)
  refine(gX (C:=C1) hf hb rfl hR (hev C1 rfl rfl rfl) (fun e I' hq=>?_)).mono ?_
  ·cases e<;>first | exact⟨.inl rfl,hq.1⟩ | exact⟨.inr rfl,hq.1⟩ | exact hq.elim
  rintro e w' ⟨u,e0,Nt,S',μ',a1,rfl,OO,hR1,hd1⟩
  refine⟨u,rfl,?_⟩
  have Pg:xM (fD C.P fn Nt) r∧Nt.heap.take (H.set st.heap.length (.frame a.tmps env)).length=H.set st.heap.length (.frame a.tmps env):=by
   cases e0<;>first | exact OO.2 | exact OO.elim
  obtain⟨G',Rt⟩:=zJ Q6 Pg.2
  obtain⟨_,Rm⟩:=hR1.heap.box _ _ G'
  have OC:=hR1.back (C:=C) (a:=a) (mk:=mk) rfl rfl rfl d1 h.tsize (env:=env) (fun t d hm=>by
   have:=Rm t d hm
   rw[h.tsize]at this
   exact this)
  have P':=OC.heapTo (H:=H) Rt
  exact hK _ _ _ _ (P'.ePut hp D' (mY Pg.1 hd1)).2
 ·exact ak hp D'
theorem Bg {S:Nat→Prop} {μ:Nat→Value} {w:World} {nt:Nat}:∀(ps:List Nat) (ds:List D) (us:List Value) (env:List (Nat×D)) (tm:Array Value),ds.length=us.length→(∀(j:Nat) (y:D) (u:Value),ds[j]?=some y→us[j]?=some u→ah S μ w y u)→tm.size=nt→ps.all (fun p=>Nat.blt p nt)=true →
  (∀(t:Nat) (d:D),(t,d)∈env→t<nt∧ah S μ w d (tm.getD t undef)) →
  ((ps.zip us).foldl (fun (tmps:Array Value) (x:Nat×Value)=>tmps.setIfInBounds x.1 x.2) tm).size=nt ∧
  ∀(t:Nat) (d:D),(t,d)∈zH ps ds env→t<nt∧ah S μ w d (((ps.zip us).foldl (fun (tmps:Array Value) (x:Nat×Value)=>tmps.setIfInBounds x.1 x.2) tm).getD t undef):=by
 intro ps
 induction ps with
 | nil=>intro ds us env tm _ _ hs _ he;exact⟨hs,fun t d hm=>he t d (by cases ds<;>exact hm)⟩
 | cons p ps ih =>
  intro ds us env tm hl hd hs hp he
  cases ds with
  | nil =>
   cases us with
   | nil=>exact⟨hs,fun t d hm=>he t d hm⟩
   | cons u us=>simp at hl
  | cons d0 ds =>
   cases us with
   | nil=>simp at hl
   | cons u us =>
    simp only[List.all_cons,KD,Mq]at hp
    refine ih ds us (pX env p d0) (tm.setIfInBounds p u) (by simpa using hl) (fun j y v hy hv=>hd (j+1) y v (by simpa using hy) (by simpa using hv)) (by simpa using hs) hp.2 (fun t d hm=>?_)
    rcases Lv.1 hm with hm | hm
    ·cases hm
     refine⟨hp.1,?_⟩
     have:(tm.setIfInBounds p u).getD p undef=u:=by
      have hts:p<tm.size:=by omega
      simp[hts]
     rw[this]
     exact hd 0 d0 u rfl rfl
    ·obtain⟨h1,h2⟩:=ex hm
     obtain⟨q1,q2⟩:=he t d h1
     refine⟨q1,?_⟩
     have:(tm.setIfInBounds p u).getD t undef=tm.getD t undef:=by
      simp only[Lr]
      rw[Lz (fun e=>h2 e.symm)]
     rw[this]
     exact q2
theorem vi (h:aK C S μ st a w) {o:Oper} {f:Operand} {args:Array Operand} {PN:Array TypeId} (ho:o.op=.call ⟨.value f,args,PN⟩) {id:Nat} (hf:dA st.env f=.yld id) {b:Bool} {env:List (Nat×D)} {H:List am}
  (hp:yh C.P C.nt st o.dst id (args.toList.map (dA st.env)) b env H=(I',p)) (D':p) {K:Act→World→Prop} {Q:Exit→Act→World→Prop} (hK:∀S' μ' a' w',aK C S' μ' I' a' w'→K a' w') :
  o.uponIn (jP C.rd) 0 C.P a K Q ((execOp a.eval o).run C.P w):=by
 unfold yh at hp
 split at hp
 ·rename_i l tm ntL Ro ps q' body G'
  split at hp
  ·rename_i hc
   simp only[KD,KU]at hc
   obtain⟨⟨⟨⟨NZ,QY⟩,Q6⟩,PF⟩,hps⟩:=hc
   have hq:=dc hp D' a.tmps
   have M5:id<st.heap.length:=(KE.1 G').1
   have N5:ah S μ w (.yld id) (a.eval f):=hf ▸ h.eval f
   obtain⟨r0,hμ0,g1,g2,g3,g4,g5,g6,g7,g8,g9⟩:=h.heap.box id _ G'
   have hfe':a.eval f=.func (.yield l) #[] #[]:=by
    generalize a.eval f=uf at N5
    cases N5 with
    | yld _ l' hl =>
     rw[hμ0]at hl
     simp[bi,aA]at hl
     rw[hl]
   have M0:(args.map a.eval).size=r0.params.size:=by
    rw[g4]
    simp only[Array.size_map,L7]
    simpa using PF.symm
   have M3:(execOp a.eval o).run C.P w=.ok (.round l r0.fn ((r0.params.zip (args.map a.eval)).foldl (fun tmps (t,a)=>tmps.setIfInBounds t a) r0.tmps) r0.assign r0.body) w:=by
    have:=run_yield (P:=C.P) g1 M0
    simp[execOp,ho,resolve,hfe',Deferred.ofValue,invoke,this]
   rw[M3,Oper.uponIn_round]
   refine⟨fun hx=>(by rw[tr]at hx;cases hx),?_⟩
   have h1:=h.pushFrame NZ QY
   have hid1:(st.heap++[am.frame a.tmps st.env])[id]?=some (.loop l tm ntL Ro ps q' body .ready none):=by rw[KL M5];exact G'
   obtain⟨mk,d1,d2,d3⟩:=h1.defers
   let C1:jC:=⟨C.P,C.W,C.S0,ntL,mk++C.susp,some l,C.g⟩
   have hfen:(jP C.rd).inRound l=jP (some l):=by cases C.rd<;>rfl
   have hargs:=aE.evals h1 args
   obtain⟨r2,_,m1,_,_,_,_,_,m7,m8,m9⟩:=h1.heap.box id _ hid1
   have hpe:=Bg (S:=S) (w:=w) ps (args.toList.map (dA st.env)) (args.map a.eval).toList Ro tm (by simp) (fun j y u hy hu=>hargs.2 j y u hy (by simpa using hu)) g8 hps m9
   have hfold:(r0.params.zip (args.map a.eval)).foldl (fun tmps (t,a)=>tmps.setIfInBounds t a) r0.tmps=(ps.zip (args.map a.eval).toList).foldl (fun (tmps:Array Value) (x:Nat×Value)=>tmps.setIfInBounds x.1 x.2) tm:=by
    rw[← Array.foldl_toList,Array.toList_zip,g4,g7]
   rw[hfold,g5,g6]
   have h3:aK C1 S _ ⟨zH ps (args.toList.map (dA st.env)) Ro,st.heap++[am.frame a.tmps st.env]⟩ { tmps:=(ps.zip (args.map a.eval).toList).foldl (fun (tmps:Array Value) (x:Nat×Value)=>tmps.setIfInBounds x.1 x.2) tm,defers:=[] } w :=
    h1.turn (C1:=C1) (mk:=mk) (mk1:=[]) d2 d3 rfl rfl rfl hpe.1 hpe.2
   refine roundIn_of_wpIn (mf _ _) ?_
   rw[hfen]
   refine wpIn_mono (hq C1 rfl rfl rfl _ _ _ _ h3) ?_
   rintro e1 a1 w1 ⟨sta,Sa,μa,hqa,hRa⟩
   cases e1<;>first | exact hqa.elim | skip
   simp only[CF]at hqa
   split at hqa
   case h_2=>exact hqa.elim
   rename_i l1 tm1 nt1 env1 ps1 as1 bd1 hbxa
   obtain⟨rfl,hqb⟩:=hqa
   obtain⟨r,k1,k2,k3,k4,k5,k6,k7,k8,h2⟩:=hRa.loopTo hbxa .busy none
   have hbeg:(Instr.beginRound l1).run C.P w1=.ok () (w1.putObj l1 (.loop { r with state:=.busy,pending:=none })):=by
    rw[run_beginRound k1 k2]
    rw[show({ r with state:=.busy }:Loop)={ r with state:=.busy,pending:=none } from by rw[← k3]]
   refine⟨_,hbeg,?_⟩
   refine wpIn_mono (hqb _ _ _ _ h2) ?_
   rintro e a' w' ⟨Nt,S',μ',OO,hR1⟩
   unfold CE at OO
   split at OO
   ·rename_i l2 tm2 nt2 env2 ps2 as2 bd2 s2 p2 QT
    obtain⟨rfl,Sb,O1⟩:=OO
    have RT:∀Qa:Option Code,CA e=some Qa.isNone→ry e=(if Qa.isNone then .ready else .done)→vf e=Qa→∃v w2,(Instr.endRound l2 Qa).run C.P w'=.ok v w2∧K (a.put o.dst v) w2:=by
     intro Qa j1 j2 j3
     obtain⟨r3,n1,n2,n3,n4,n5,n6,n7,n8,h4⟩:=hR1.loopTo QT (ry e) (vf e)
     refine⟨_,_,run_endRound Qa n1,?_⟩
     obtain⟨hbf,Rt⟩:=zJ Q6 O1
     obtain⟨_,Rm⟩:=h4.heap.box _ _ hbf
     have OC:=h4.back (C:=C) (a:=a) (mk:=mk) rfl rfl rfl d1 h.tsize (env:=env) (fun t d hm=>by
      have:=Rm t d hm
      rw[h.tsize]at this
      exact this)
     have P':=OC.heapTo (H:=H) Rt
     rw[j2,j3]at P'
     have QJ:b=Qa.isNone:=by rw[Sb]at j1;exact Option.some.inj j1
     refine hK _ _ _ _ (P'.ePut hp D' ?_).2
     rw[← QJ]
     exact .v _ _ (.bool b)
    cases e with
    | normal=>exact RT none rfl rfl rfl
    | ret=>exact RT (some .ret) rfl rfl rfl
    | exit i=>exact RT (some (.exit i)) rfl rfl rfl
    | goto i=>cases Sb
    | panic ch=>cases Sb
    | outgrown=>cases Sb
   ·exact OO.elim
  ·exact ak hp D'
 ·exact ak hp D'
end
def j8:List (Nat×Ov)→Nat→Ov
 | [],_=>.none
 | (j,o)::r,i=>if Nat.beq j i then o else j8 r i
def eH (ops:List Oper) (st:St) (o:Oper):Option Bool :=
 match o.guard with
 | none=>some true
 | some (g,NM)=>match (ops[g]?).bind (·.dst)with
  | some t=>match lS st.env t with
   | .v (.bool b)=>some (b==NM)
   | .tup []=>some false
   | _=>none
  | none=>none
def j9 (nt:Nat) (st:St) (dst:Option Nat):R2:=ePut nt st dst (.tup []) True
def cG (P:Program) (nt:Nat) (ops:List Oper) (M7:List (Nat×Ov)):Nat→List Oper→St→R2
 | _,[],st=>(st,True)
 | i,o::r,st=>match eH ops st o with
  | some true=>match l5 P nt (j8 M7 i) o st with
   | (Nt,p1)=>match cG P nt ops M7 (i+1) r Nt with
    | (Qu,p2)=>(Qu,p1∧p2)
  | some false=>match j9 nt st o.dst with
   | (Nt,p1)=>match cG P nt ops M7 (i+1) r Nt with
    | (Qu,p2)=>(Qu,p1∧p2)
  | none=>aF st
def CM:List (Nat×D)→Nat→Bool
 | [],_=>false
 | (s,_)::r,t=>Nat.beq s t||CM r t
def ka (keep:List Nat) (env:List (Nat×D)):List (Nat×D) :=
 match keep with
 | []=>[]
 | t::r=>if CM env t then (t,lS env t)::ka r env else ka r env
theorem rF:∀{env:List (Nat×D)} {t:Nat},CM env t=true→∃e,(t,e)∈env
 | (s,e)::r,t,h=>by
  unfold CM at h
  cases hs:Nat.beq s t
  ·rw[hs,Bool.false_or]at h
   obtain⟨e',h'⟩:=rF h
   exact⟨e',Lc _ h'⟩
  ·rw[KU]at hs
   subst hs
   exact⟨e,Lg ..⟩
theorem oQ {env:List (Nat×D)}:∀{keep:List Nat} {t:Nat} {d:D},(t,d)∈ka keep env→d=.junk∧(∃e,(t,e)∈env)∨(t,d)∈env
 | [],t,d,h=>by cases h
 | s::r,t,d,h=>by
  unfold ka at h
  split at h
  ·rename_i hh
   rcases Lv.1 h with h | h
   ·cases h
    rcases oI (env:=env) (t:=s)with h1 | h1
    ·exact .inl ⟨h1,rF hh⟩
    ·exact .inr h1
   ·exact oQ h
  ·exact oQ h
section
variable {C:jC} {S:Nat→Prop} {μ:Nat→Value} {st I':St} {a:Act} {w w':World} {p:Prop}
theorem wE (h:aK C S μ st a w) {ov:Ov} {o:Oper} {f:Operand} {args:Array Operand} {PN:Array TypeId} (ho:o.op=.call ⟨.value f,args,PN⟩)
  (hp:CJ C.P C.nt st ov o.dst (dA st.env f) (args.toList.map (dA st.env))=(I',p)) (D':p) {K:Act→World→Prop} {Q:Exit→Act→World→Prop} (hK:∀S' μ' a' w',aK C S' μ' I' a' w'→K a' w') :
  o.uponIn (jP C.rd) 0 C.P a K Q ((execOp a.eval o).run C.P w):=by
 unfold CJ at hp
 split at hp
 ·rename_i g first cap hf
  have N5:=hf ▸ h.eval f
  split at hp
  ·rename_i q' al r
   split at hp
   ·rename_i hc
    simp only[KD,Lf,K5]at hc
    obtain⟨⟨Pp,hr⟩,NA⟩:=hc
    have NV:=aE.evals h args
    refine gV ?_
    generalize NZ:a.eval f=uf at N5
    cases N5 with
    | fn _ _ _ us vs h1 h2 h3 h4 =>
     have M3:(execOp a.eval o).run C.P w=.ok (.enter g (us++args.map a.eval++vs)) w:=by
      simp[execOp,ho,resolve,NZ,Deferred.ofValue,invoke,bk Pp]
     rw[M3,Mt]
     have hall:aE S μ w (first++args.toList.map (dA st.env)++cap) (us++args.map a.eval++vs):=(aE.app (aE.app ⟨h1,h2⟩ NV) ⟨h3,h4⟩)
     have hq:mr C.P g st.heap (first++args.toList.map (dA st.env)++cap) q' al r:=dc hp D'
     refine(h.callPure hq hall NA hr (K:=fun u w'=>K (a.put o.dst u) w') ?_).mono ?_
     ·intro S' u w' hR hd
      exact hK _ _ _ _ (hR.ePut hp D' hd).2
     ·rintro e w' ⟨u,rfl,hu⟩
      exact hu
   ·exact ak hp D'
  ·rename_i id q' r
   split at hp
   ·rename_i hc
    simp only[KD]at hc
    obtain⟨Pp,hr⟩:=hc
    have NV:=aE.evals h args
    refine gV ?_
    generalize NZ:a.eval f=uf at N5
    cases N5 with
    | fn _ _ _ us vs h1 h2 h3 h4 =>
     have M3:(execOp a.eval o).run C.P w=.ok (.enter g (us++args.map a.eval++vs)) w:=by
      simp[execOp,ho,resolve,NZ,Deferred.ofValue,invoke,bk Pp]
     rw[M3,Mt]
     have hall:aE S μ w (first++args.toList.map (dA st.env)++cap) (us++args.map a.eval++vs):=(aE.app (aE.app ⟨h1,h2⟩ NV) ⟨h3,h4⟩)
     have hq:i4 C.P g st.heap (first++args.toList.map (dA st.env)++cap) id q' r:=dc hp D'
     refine(h.callR hq hall hr (K:=fun u w'=>K (a.put o.dst u) w') ?_).mono ?_
     ·intro S' u w' hR hd
      exact hK _ _ _ _ (hR.ePut hp D' hd).2
     ·rintro e w' ⟨u,rfl,hu⟩
      exact hu
   ·exact ak hp D'
  ·rename_i q' al r
   split at hp
   ·rename_i hc
    simp only[KD,Lf,K5]at hc
    obtain⟨hr,NA⟩:=hc
    have Pp:=(dc hp D').1
    have NV:=aE.evals h args
    refine gV ?_
    generalize NZ:a.eval f=uf at N5
    cases N5 with
    | fn _ _ _ us vs h1 h2 h3 h4 =>
     have M3:(execOp a.eval o).run C.P w=.ok (.enter g (us++args.map a.eval++vs)) w:=by
      simp[execOp,ho,resolve,NZ,Deferred.ofValue,invoke,bk Pp]
     rw[M3,Mt]
     have hall:aE S μ w (first++args.toList.map (dA st.env)++cap) (us++args.map a.eval++vs):=(aE.app (aE.app ⟨h1,h2⟩ NV) ⟨h3,h4⟩)
     have hq:mr C.P g st.heap (first++args.toList.map (dA st.env)++cap) q' al r:=(dc hp D').2
     refine(h.callPure hq hall NA hr (K:=fun u w'=>K (a.put o.dst u) w') ?_).mono ?_
     ·intro S' u w' hR hd
      exact hK _ _ _ _ (hR.ePut hp D' hd).2
     ·rintro e w' ⟨u,rfl,hu⟩
      exact hu
   ·exact ak hp D'
  ·rename_i r env H
   generalize NZ:a.eval f=uf at N5
   cases N5 with
   | fn _ _ _ us vs h1 h2 h3 h4 =>
    have hs:=rE (us:=us++args.map a.eval++vs) h (fun μ1 H1 h'=>by
     have Ru:ah S μ1 w (.fn (.func g) first cap) (a.eval f):=hf ▸ h'.eval f
     rw[NZ]at Ru
     cases Ru with
     | fn _ _ _ _ _ q1 q2 q3 q4=>exact aE.app (aE.app ⟨q1,q2⟩ (aE.evals h' args)) ⟨q3,q4⟩) hp D' (K:=K) hK
    have M3:(execOp a.eval o).run C.P w=.ok (.enter g (us++args.map a.eval++vs)) w:=by
     simp[execOp,ho,resolve,NZ,Deferred.ofValue,invoke,bk hs.1]
    refine gV ?_
    rw[M3,Mt]
    refine hs.2.mono ?_
    rintro e w' ⟨u,rfl,hu⟩
    exact hu
  ·rename_i r
   obtain⟨p',N3,hob'⟩:=CI hp D'
   generalize NZ:a.eval f=uf at N5
   cases N5 with
   | fn _ _ _ us vs h1 h2 h3 h4 =>
    have hs:=rE (us:=us++args.map a.eval++vs) h (fun μ1 H1 h'=>by
     have Ru:ah S μ1 w (.fn (.func g) first cap) (a.eval f):=hf ▸ h'.eval f
     rw[NZ]at Ru
     cases Ru with
     | fn _ _ _ _ _ q1 q2 q3 q4=>exact aE.app (aE.app ⟨q1,q2⟩ (aE.evals h' args)) ⟨q3,q4⟩) N3 hob' (K:=K) hK
    have M3:(execOp a.eval o).run C.P w=.ok (.enter g (us++args.map a.eval++vs)) w:=by
     simp[execOp,ho,resolve,NZ,Deferred.ofValue,invoke,bk hs.1]
    refine gV ?_
    rw[M3,Mt]
    refine hs.2.mono ?_
    rintro e w' ⟨u,rfl,hu⟩
    exact hu
  ·rename_i q' r B
   split at hp
   ·rename_i hc
    simp only[KD]at hc
    obtain⟨⟨⟨Pp,hr⟩,hfe1⟩,QY⟩:=hc
    have NV:=aE.evals h args
    refine gV ?_
    generalize NZ:a.eval f=uf at N5
    cases N5 with
    | fn _ _ _ us vs h1 h2 h3 h4 =>
     have M3:(execOp a.eval o).run C.P w=.ok (.enter g (us++args.map a.eval++vs)) w:=by
      simp[execOp,ho,resolve,NZ,Deferred.ofValue,invoke,bk Pp]
     rw[M3,Mt]
     have hall:aE S μ w (first++args.toList.map (dA st.env)++cap) (us++args.map a.eval++vs):=(aE.app (aE.app ⟨h1,h2⟩ NV) ⟨h3,h4⟩)
     have hq:u9 C.P g st.heap (first++args.toList.map (dA st.env)++cap) q' r B:=dc hp D'
     refine(h.callOwn hq hall hr hfe1 QY (K:=fun u w'=>K (a.put o.dst u) w') ?_).mono ?_
     ·intro S' μ' u w' hR hd
      exact hK _ _ _ _ (hR.ePut hp D' hd).2
     ·rintro e w' ⟨u,rfl,hu⟩
      exact hu
   ·exact ak hp D'
  ·rename_i q' r B
   split at hp
   ·rename_i hc
    simp only[KD]at hc
    obtain⟨⟨⟨Pp,hr,So,N1⟩,hfe1⟩,QY⟩:=hc
    have NV:=aE.evals h args
    refine gV ?_
    generalize NZ:a.eval f=uf at N5
    cases N5 with
    | fn _ _ _ us vs h1 h2 h3 h4 =>
     have M3:(execOp a.eval o).run C.P w=.ok (.enter g (us++args.map a.eval++vs)) w:=by
      simp[execOp,ho,resolve,NZ,Deferred.ofValue,invoke,bk Pp]
     rw[M3,Mt]
     have hall:aE S μ w (first++args.toList.map (dA st.env)++cap) (us++args.map a.eval++vs):=(aE.app (aE.app ⟨h1,h2⟩ NV) ⟨h3,h4⟩)
     have hq:qt C.P g st.heap (first++args.toList.map (dA st.env)++cap) q' r B:=dc hp D'
     refine(h.callDeep hq hall hr So N1 hfe1 QY (K:=fun u w'=>K (a.put o.dst u) w') ?_).mono ?_
     ·intro S' μ' u w' hR hd
      exact hK _ _ _ _ (hR.ePut hp D' hd).2
     ·rintro e w' ⟨u,rfl,hu⟩
      exact hu
   ·exact ak hp D'
  ·exact ak hp D'
 ·rename_i id hf
  split at hp
  ·exact vi h ho hf hp D' hK
  ·exact ak hp D'
 ·exact ak hp D'
theorem kb (k:Int):∀(arr:List MapEntry) (es:List (Int×Value)) (n j:Nat) (e:Int×Value),arr.map (fun e=>(e.key,e.val))=es.map (fun e=>(Value.int .i64 e.1,e.2))→es[j]?=some e→k=e.1→(∀e'∈es.take j,k≠e'.1) →
  Instr.findNow (.int .i64) (.int .i64 k) arr n=some (some (n+j,e.2))
 | [],es,n,j,e,h,he,_,_=>by
  have:es=[]:=by simpa using h.symm
  rw[this]at he;simp at he
 | a::arr,[],n,j,e,h,he,_,_=>by simp at he
 | a::arr,x::es,n,0,e,h,he,hk,_=>by
  simp only[LD,LM,KJ]at h
  simp at he
  subst he
  unfold Instr.findNow
  rw[h.1.1,h.1.2]
  simp[Instr.sameNow,hk]
 | a::arr,x::es,n,j+1,e,h,he,hk,ha=>by
  simp only[LD,LM,KJ]at h
  have NF:k≠x.1:=ha x (by simp)
  unfold Instr.findNow
  rw[h.1.1]
  have:(k==x.1)=false:=beq_eq_false_iff_ne.2 NF
  simp only[Instr.sameNow,this,L9]
  rw[kb k arr es (n+1) j e h.2 (by simpa using he) hk (fun e' Qm=>ha e' (by simp[Qm])),show n+1+j=n+(j+1)from by omega]
theorem nb (k:Int):∀(arr:List MapEntry) (es:List (Int×Value)) (n:Nat),arr.map (fun e=>(e.key,e.val))=es.map (fun e=>(Value.int .i64 e.1,e.2))→(∀e'∈es,k≠e'.1)→Instr.findNow (.int .i64) (.int .i64 k) arr n=some none
 | [],es,n,h,_=>by simp[Instr.findNow]
 | a::arr,[],n,h,_=>by simp at h
 | a::arr,x::es,n,h,ha=>by
  simp only[LD,LM,KJ]at h
  have NF:k≠x.1:=ha x (by simp)
  unfold Instr.findNow
  rw[h.1.1]
  have:(k==x.1)=false:=beq_eq_false_iff_ne.2 NF
  simp only[Instr.sameNow,this,L9]
  exact nb k arr es (n+1) h.2 (fun e' Qm=>ha e' (by simp[Qm]))
theorem mB {P:Program} {w:World} {t K E:TypeId} {b clock:Nat} {arr:Array MapEntry} {n:Int} (ht:P.underlying t=some (.map K E)) (hK:P.underlying K=some (.int .i64)) (hb:w.heap[b]?=some (.map arr clock)) {r:Option (Nat×Value)} (hf:Instr.findNow (.int .i64) (.int .i64 n) arr.toList 0=some r) {z:Value} (hz:r=none→(zeroValue E).run P w=.ok z w) :
  (Instr.lookup t (.map (some b)) (.int .i64 n) true).run P w=.ok (.tuple #[match r with | some (_,v)=>v | none=>z,.bool r.isSome]) w:=by
 have hu:(underlying t).run P w=.ok (.map K E) w:=by simp[underlying,ht,KH,Sem.run]
 have N2:(underlying K).run P w=.ok (.int .i64) w:=by simp[underlying,hK,KH,Sem.run]
 have hg:(getObj b).run P w=.ok (.map arr clock) w:=by simp[getObj,Sem.run,hb]
 have hc:(Instr.checkKey arr.isEmpty 10000 K (.int .i64 n)).run P w=.ok () w:=by
  rw[show(10000:Nat)=9999+1 from rfl]
  unfold Instr.checkKey
  simp[KH,N2]
 have hk:(Instr.findKey K (.int .i64 n) arr.toList).run P w=.ok r w:=by
  simp[Instr.findKey,KH,N2,hf]
 cases r with
 | some q =>
  obtain⟨i,v⟩:=q
  simp[Instr.lookup,KH,hu,hg,hc,hk]
 | none =>
  simp[Instr.lookup,KH,hu,hg,hc,hk,hz rfl]
theorem l6 {P:Program} {w:World} {t K E:TypeId} {b clock:Nat} {arr:Array MapEntry} {k:ByteArray} {v:Value} (ht:P.underlying t=some (.map K E)) (hK:P.underlying K=some .string) (hb:w.heap[b]?=some (.map arr clock)) {r:Option (Nat×Value)} (hf:Instr.findNow .string (.string k) arr.toList 0=some r)
  (hr:∀i u,r=some (i,u)→∃e,arr[i]?=some e∧e.key=.string k) :
  (Instr.mapUpdate t (.map (some b)) (.string k) v).run P w=.ok () (w.putObj b (match r with | some (i,_)=>.map (arr.modify i fun e=>{ e with key:=.string k,val:=v }) clock | none=>.map (arr.push ⟨.string k,v,clock⟩) (clock+1))):=by
 have hu:(underlying t).run P w=.ok (.map K E) w:=by simp[underlying,ht,KH,Sem.run]
 have N2:(underlying K).run P w=.ok .string w:=by simp[underlying,hK,KH,Sem.run]
 have hg:(getObj b).run P w=.ok (.map arr clock) w:=by simp[getObj,Sem.run,hb]
 have hc:(Instr.checkKey false 10000 K (.string k)).run P w=.ok () w:=by
  rw[show(10000:Nat)=9999+1 from rfl]
  unfold Instr.checkKey
  simp[KH,N2]
 have hk:(Instr.findKey K (.string k) arr.toList).run P w=.ok r w:=by
  simp[Instr.findKey,KH,N2,hf]
 have hs:∀o:Obj,(setObj b o).run P w=.ok () (w.putObj b o):=by
  intro o
  unfold setObj Sem.run
  rw[hb]
  rfl
 cases r with
 | some q =>
  obtain⟨i,u⟩:=q
  obtain⟨e,he,hek⟩:=hr i u rfl
  have PB:(Instr.keyThatStays (((arr[i]?).map (·.key)).getD (.string k)) (.string k)).run P w=.ok (.string k) w:=by
   rw[he]
   simp only[Lj,MG,hek]
   unfold Instr.keyThatStays
   rw[KT (by show(k==k)=true;rw[J2];exact KO rfl)]
   rfl
  simp only[Instr.mapUpdate,KH,hu,hg,hc,hk,KG,PB,hs]
 | none =>
  simp only[Instr.mapUpdate,KH,hu,hg,hc,hk,KG,hs]
theorem yi {ag:Bool} {x:D} {vs:List V} {u:Value} (h:yg ag x=some vs) (hx:ah S μ w x u):(ag=false→vs.length=1)∧ah S μ w (iX ag vs) u:=by
 unfold yg at h
 cases ag
 ·simp only[Lm,L6]at h
  cases hv:Hq x with
  | none=>rw[hv]at h;cases h
  | some v =>
   rw[hv]at h
   cases h
   exact⟨fun _=>rfl,.v _ _ (qu hv hx)⟩
 ·simp only[L9]at h
  split at h
  ·rename_i ds
   obtain⟨us,rfl,h1,h2⟩:=dr hx
   obtain⟨q1,q2⟩:=j6 h
   refine⟨(fun h=>by cases h),?_⟩
   show ah S μ w (.agg (vs.map D.v)) _
   refine .agg _ _ (by rw[KM,← q1];exact h1) (fun j y u hy hu=>?_)
   obtain⟨v,hv,rfl⟩:=cO hy
   obtain⟨d,hd,hdv⟩:=q2 j v hv
   exact .v _ _ (qu hdv (h2 j d u hd hu))
  ·cases h
theorem tb (h:aK C S μ st a w) {ov:Ov} {t:TypeId} {m k x:D} {um uk ux:Value} (hm:ah S μ w m um) (hk:ah S μ w k uk) (hx:ah S μ w x ux) (hp:ve C.P st ov t m k x=(I',p)) (D':p) :
  ∃w',(Instr.mapUpdate t um uk ux).run C.P w=.ok () w'∧aK C S μ I' a w':=by
 unfold ve at hp
 split at hp
 ·rename_i K E id ks hu
  split at hp
  ·rename_i t' ag α enc d l t2 ag2 β Oa d2 l2 hK G'
   split at hp
   ·rename_i vs Od
    split at hp
    ·rename_i hc
     simp only[KD,KU,beq_iff_eq]at hc
     obtain⟨⟨rfl,rfl⟩,rfl⟩:=hc
     simp only[KJ]at hp
     obtain⟨rfl,rfl⟩:=hp
     have e1:=a6 hm
     have e2:=d4 hk
     subst e1 e2
     obtain⟨b,arr,clock,hmu,hb,P8⟩:=h.heap.box id _ G'
     obtain⟨m1,m2⟩:=tC P8
     obtain⟨x1,x2⟩:=yi Od hx
     have PJ:aA (μ id)=some b:=by rw[hmu];rfl
     have MX:bi (μ id) b:=.inl PJ
     have M5:id<st.heap.length:=(KE.1 G').1
     have key:∀(o:Obj) (Qb:Array MapEntry) (O3:Nat),o=.map Qb O3→(Qb.size=(lR (l.map fun p=>(p.1,enc p.2)) ks vs).length) →
       (∀(i:Nat) (k':ByteArray) (y:List V),(lR (l.map fun p=>(p.1,enc p.2)) ks vs)[i]?=some (k',y)→∃e,Qb[i]?=some e∧e.key=.string k'∧(ag=false→y.length=1)∧ah S μ w (iX ag y) e.val) →
       aK C S μ ⟨st.env,st.heap.set id (.mpb t ag Oa d2 l2)⟩ a (w.putObj b o):=by
      intro o Qb O3 ho hl hh
      subst ho
      have OK:∀k,S k→k<w.heap.size→(w.putObj b (.map Qb O3)).heap[k]?=w.heap[k]?:=fun k hk _=>Me (fun e=>h.heap.notS id _ b G' rfl MX (e ▸ hk))
      have hu:=h.upd (id:=id) (u:=μ id) (B:=.mpb t ag Oa d2 l2) (row:=some b) (w':=w.putObj b (.map Qb O3)) ⟨rfl,rfl,rfl,by rw[MB];exact KI _,fun k hk Sv=>Me (fun e=>Sv (by rw[e]))⟩
       (fun k hk=>⟨_,G',rfl,by cases hk;exact MX⟩) (by omega) ?_ (fun k hk=>.inl (hk.one PJ)) (.inl ⟨rfl,.inl rfl⟩)
      ·rw[c6]at hu
       have he:bc st.heap id (.mpb t ag Oa d2 l2)=st.heap.set id (.mpb t ag Oa d2 l2):=by
        unfold bc
        rw[KK (by rw[KU];omega)]
       rwa [he]at hu
      ·rw[c6]
       refine⟨b,Qb,O3,hmu,World.putObj_heap_same (KQ.1 hb).1,by rw[hl,D',KM],fun i k' y hy=>?_⟩
       have hy2:(lR (l.map fun p=>(p.1,enc p.2)) ks vs)[i]?=some (k',Oa y):=by rw[D',KX,hy,Lj]
       obtain⟨e,q1,q2,q3,q4⟩:=hh i k' _ hy2
       exact⟨e,q1,q2,q3,q4.stable (fun _ h _=>h) OK (by rw[MB];exact KI _) (fun id hf=>by rw[ts]at hf)⟩
     have m3:∀(i:Nat) (k':ByteArray) (y:List V),(l.map fun p=>(p.1,enc p.2))[i]?=some (k',y)→∃e,arr.toList[i]?=some e∧e.key=.string k'∧((ag=false→y.length=1)∧ah S μ w (iX ag y) e.val):=by
      intro i k' y hy
      rw[KX]at hy
      cases hc:l[i]? with
      | none=>rw[hc]at hy;cases hy
      | some q =>
       rw[hc]at hy
       cases hy
       exact m2 i q.1 q.2 hc
     rw[hmu]
     rcases Cs (R:=fun y v=>(ag=false→y.length=1)∧ah S μ w (iX ag y) v) [] ks (l.map fun p=>(p.1,enc p.2)) arr.toList 0 (by rw[m1,KM]) m3 with ⟨h1,h0,h2,h3⟩ | ⟨h1,i,e,y,h2,h3,h4,h5,h6,h7,h8⟩
     ·refine⟨_,l6 hu hK hb h2 (fun i u hh=>by cases hh),key _ _ _ rfl ?_ ?_⟩
      ·rw[h3,Array.size_push,KN,KM]
       simpa using m1
      ·intro i k' y hy
       rw[h3]at hy
       by_cases hi:i<l.length
       ·rw[KL (by rw[KM];exact hi)]at hy
        obtain⟨e,q1,q2,q3⟩:=m3 i k' y hy
        refine⟨e,?_,q2,q3⟩
        rw[Array.getElem?_push,KK (by have h99:arr.size=l.length:=(by simpa using m1);omega)]
        simpa using q1
       ·rw[KR (by rw[KM];omega)]at hy
        have hi0:i-(l.map fun p=>(p.1,enc p.2)).length=0:=by
         rcases Nat.eq_zero_or_pos (i-(l.map fun p=>(p.1,enc p.2)).length)with h | h
         ·exact h
         ·rw[Lo (by simp;rw[KM]at h;omega)]at hy;cases hy
        rw[hi0]at hy
        cases hy
        have O2:i=arr.size:=by rw[KM]at hi0;have h98:arr.size=l.length:=(by simpa using m1);omega
        exact⟨_,by rw[Array.getElem?_push,KT O2],rfl,x1,x2⟩
     ·have hia:i<arr.size:=by have:=(KE.1 h3).1;simpa using this
      refine⟨_,l6 hu hK hb h6 (fun i' u hh=>by cases hh;exact⟨e,by simpa using h3,h4⟩),key _ _ _ rfl ?_ ?_⟩
      ·rw[h8,LF,KM]
       simpa using m1
      ·intro j k' y' hy
       rw[h8,Ms]at hy
       rw[Li,Array.getElem?_modify]
       by_cases hij:i=j
       ·subst hij
        rw[KT rfl,KT (KE.1 h2).1]at hy
        cases hy
        rw[KT rfl,show arr[i]?=some e by simpa using h3]
        exact⟨_,rfl,rfl,x1,x2⟩
       ·rw[KK hij]at hy
        rw[KK hij]
        obtain⟨e',q1,q2,q3⟩:=m3 j k' y' hy
        exact⟨e',by simpa using q1,q2,q3⟩
    ·exact ak hp D'
   ·exact ak hp D'
  ·exact ak hp D'
 ·exact ak hp D'
theorem kd (h:aK C S μ st a w) {ov:Ov} {o:Oper} (hp:l5 C.P C.nt ov o st=(I',p)) (D':p) {K:Act→World→Prop} {Q:Exit→Act→World→Prop}
  (hK:∀S' μ' a' w',aK C S' μ' I' a' w'→K a' w'):o.uponIn (jP C.rd) 0 C.P a K Q ((execOp a.eval o).run C.P w):=by
 have hv:∀(s:Sem Value) (u:Value) (w':World),s.run C.P w=.ok u w'→(do pure (.value (← s)):Sem Next).run C.P w=.ok (.value u) w':=by
  intro s u w' h
  simp only[KH,h,KG,KZ]
 have val:∀(u:Value) (w':World) (μ':Nat→Value),(execOp a.eval o).run C.P w=.ok (.value u) w'→aK C S μ' I' (a.put o.dst u) w'→o.uponIn (jP C.rd) 0 C.P a K Q ((execOp a.eval o).run C.P w):=by
  intro u w' μ' hr hR
  rw[hr,MC]
  exact hK _ _ _ _ hR
 have SI:rz C.nt st ov o.dst (ew C.P st.heap (dA st.env) o.op)=(I',p)→o.uponIn (jP C.rd) 0 C.P a K Q ((execOp a.eval o).run C.P w):=by
  intro hp
  generalize hq:ew C.P st.heap (dA st.env) o.op=q at hp
  obtain⟨d,q⟩:=q
  unfold rz at hp
  split at hp
  ·rename_i d' _
   have hqq:q∧xM d d':=by
    unfold ePut at hp
    split at hp
    ·split at hp
     ·simp only[KJ]at hp;rw[← hp.2]at D';exact D'
     ·exact ak hp D'
    ·simp only[KJ]at hp;rw[← hp.2]at D';exact D'
   obtain⟨u,h1,h2⟩:=fM h.heap h.eval hq hqq.1
   exact val u w μ h1 (h.ePut hp D' (mY hqq.2 h2)).2
  ·rename_i d' _
   have hqq:q∧tA d d':=by
    unfold ePut at hp
    split at hp
    ·split at hp
     ·simp only[KJ]at hp;rw[← hp.2]at D';exact D'
     ·exact ak hp D'
    ·simp only[KJ]at hp;rw[← hp.2]at D';exact D'
   obtain⟨u,h1,h2⟩:=fM h.heap h.eval hq hqq.1
   exact val u w μ h1 (h.ePut hp D' (hqq.2 _ _ _ _ h2)).2
  ·have hqq:q:=by
    unfold ePut at hp
    split at hp
    ·split at hp
     ·simp only[KJ]at hp;rw[← hp.2]at D';exact D'
     ·exact ak hp D'
    ·simp only[KJ]at hp;rw[← hp.2]at D';exact D'
   obtain⟨u,h1,h2⟩:=fM h.heap h.eval hq hqq
   exact val u w μ h1 (h.ePut hp D' h2).2
 unfold l5 at hp
 split at hp
 ·rename_i T ho
  split at hp
  ·rename_i z hz
   obtain⟨v,OA,Pf⟩:=ff (P:=C.P) (S:=S) (μ:=μ) (w:=w) hz
   split at hp
   ·refine val _ _ _ ?_ (h.eVarAt hp D' Pf)
    simp[execOp,ho,Instr.alloc,KH,OA,newVar,newRow,newObj,Sem.run]
   ·refine val _ _ _ ?_ (h.eVar hp D' Pf)
    simp[execOp,ho,Instr.alloc,KH,OA,newVar,newRow,newObj,Sem.run]
  ·exact ak hp D'
 ·rename_i T x ho
  split at hp
  ·rename_i cs hcs
   refine val _ _ _ ?_ (h.eVar hp D' (fL h.heap (h.eval x) hcs))
   simp[execOp,ho,Instr.box,newVar,newRow,newObj,Sem.run]
  ·exact ak hp D'
 ·rename_i t ad x ho
  split at hp
  ·rename_i hd
   obtain⟨w',h1,h2⟩:=na h (h.eval ad) (h.eval x) hp D'
   have hr:(execOp a.eval o).run C.P w=.ok .skip w':=by
    simp only[execOp,ho,KH,h1,KG,KZ]
   rw[hr,Oper.uponIn_skip,hd]
   exact hK _ _ _ _ h2
  ·exact ak hp D'
 ·rename_i t len MS ho
  have OW:∀(ov:Ov) (Nt:St) (p1:Prop),oO C.P C.nt st ov o.dst t len (MS.toList.map fun p=>(p.1,dA st.env p.2))=(Nt,p1)→p1→∃u w' μ',(execOp a.eval o).run C.P w=.ok (.value u) w'∧aK C S μ' Nt (a.put o.dst u) w':=by
   intro ov Nt p1 hp D'
   obtain⟨u,w',μ',h1,h2⟩:=vg h (MY:=MS.toList.map fun p=>(p.1,a.eval p.2)) (by simp) (fun j x u hx hu=>by
    simp only[KX,Ld]at hx hu
    cases hj:MS[j]? with
    | none=>rw[hj]at hx;cases hx
    | some q=>rw[hj]at hx hu;simp at hx hu;subst hx hu;exact h.eval q.2) hp D'
   refine⟨u,w',μ',?_,h2⟩
   have he:MS.map (fun (i,x)=>(i,a.eval x))=(MS.toList.map fun p=>(p.1,a.eval p.2)).toArray:=Mp (by simp)
   rw[← he]at h1
   simp only[execOp,ho,KH,h1,KG,KZ]
  split at hp
  ·generalize hq:oO C.P C.nt st _ o.dst t len _=q at hp
   obtain⟨Nt,p1⟩:=q
   simp only at hp
   split at hp
   ·rename_i Qu hfz
    simp only[KJ]at hp
    obtain⟨rfl,rfl⟩:=hp
    obtain⟨u,w',μ',e1,e2⟩:=OW _ _ _ hq D'
    obtain⟨S2,e3⟩:=e2.freeze hfz
    rw[e1,MC]
    exact hK _ _ _ _ e3
   ·exact ak hp D'
  ·obtain⟨u,w',μ',e1,e2⟩:=OW _ _ _ hp D'
   exact val u w' μ' e1 e2
 ·rename_i t l c ho
  have OW:∀(ov:Ov) (Nt:St) (p1:Prop),tS C.P C.nt st ov o.dst t (dA st.env l) (dA st.env c)=(Nt,p1)→p1→∃u w' μ',(execOp a.eval o).run C.P w=.ok (.value u) w'∧aK C S μ' Nt (a.put o.dst u) w':=by
   intro ov Nt p1 hp D'
   obtain⟨u,w',μ',h1,h2⟩:=wD h (h.eval l) (h.eval c) hp D'
   refine⟨u,w',μ',?_,h2⟩
   simp only[execOp,ho,KH,h1,KG,KZ]
  split at hp
  ·generalize hq:tS C.P C.nt st _ o.dst t _ _=q at hp
   obtain⟨Nt,p1⟩:=q
   simp only at hp
   split at hp
   ·rename_i Qu hfz
    simp only[KJ]at hp
    obtain⟨rfl,rfl⟩:=hp
    obtain⟨u,w',μ',e1,e2⟩:=OW _ _ _ hq D'
    obtain⟨S2,e3⟩:=e2.freeze hfz
    rw[e1,MC]
    exact hK _ _ _ _ e3
   ·exact ak hp D'
  ·obtain⟨u,w',μ',e1,e2⟩:=OW _ _ _ hp D'
   exact val u w' μ' e1 e2
 ·rename_i args PN ho
  split at hp
  ·rename_i s x t t' ha ht
   split at hp
   ·rename_i hc
    rw[KU]at hc
    subst hc
    have ea:args=#[s,x]:=Mp (by simpa using ha)
    have et:PN=#[t,t]:=Mp (by simpa using ht)
    subst ea et
    split at hp
    ·obtain⟨u,w',S',μ',h1,h2⟩:=rD h (ty:=o.type) (h.eval s) (h.eval x) hp D'
     have hr:(execOp a.eval o).run C.P w=.ok (.value u) w':=by
      simp only[execOp,ho,resolve,invoke,builtin,Md,LD,Lk,KH,KZ,KG,h1]
     rw[hr,MC]
     exact hK _ _ _ _ h2
    ·obtain⟨u,w',μ',h1,h2⟩:=rB h (ty:=o.type) (h.eval s) (h.eval x) hp D'
     refine val u w' μ' ?_ h2
     simp only[execOp,ho,resolve,invoke,builtin,Md,LD,Lk,KH,KZ,KG,h1]
    ·obtain⟨u,w',S',μ',h1,h2⟩:=rC h (ty:=o.type) (h.eval s) (h.eval x) hp D'
     have hr:(execOp a.eval o).run C.P w=.ok (.value u) w':=by
      simp only[execOp,ho,resolve,invoke,builtin,Md,LD,Lk,KH,KZ,KG,h1]
     rw[hr,MC]
     exact hK _ _ _ _ h2
    ·obtain⟨u,w',μ',h1,h2⟩:=ta h (ty:=o.type) (h.eval s) (h.eval x) hp D'
     refine val u w' μ' ?_ h2
     simp only[execOp,ho,resolve,invoke,builtin,Md,LD,Lk,KH,KZ,KG,h1]
   ·exact ak hp D'
  ·exact ak hp D'
 ·rename_i f args PN ho
  exact wE h ho hp D' hK
 ·rename_i t x ix ho
  split at hp
  ·rename_i i
   unfold zG at hp
   generalize hx:dA st.env x=dx at hp
   generalize hix:dA st.env ix=dix at hp
   split at hp
   ·rename_i K E es k n hu
    split at hp
    ·rename_i hK2
     have hxr:=h.eval x
     have hir:=h.eval ix
     rw[hx]at hxr
     rw[hix]at hir
     have hiv:a.eval ix=.int .i64 n:=(show ∀u,ci S w (.int .i64 n) u→u=.int .i64 n from fun u h=>by cases h;rfl) _ (ba hir)
     obtain⟨b,clock,arr,e1,e2,e3⟩:∃(b clock:Nat) (arr:Array MapEntry),a.eval x=.map (some b)∧w.heap[b]?=some (.map arr clock)∧arr.toList.map (fun e=>(e.key,e.val))=es.map (fun e=>(Value.int .i64 e.1,e.2)):=by
      have:=ba hxr
      generalize a.eval x=u at this
      cases this with
      | mp _ b clock arr q1 q2 q3 q4=>exact⟨b,clock,arr,rfl,q3,q4⟩
     split at hp
     ·rename_i j
      split at hp
      ·rename_i e he
       have hq:=dc hp D'
       have hr:=mB hu hK2 e2 (kb n arr.toList es 0 j e e3 he hq.1 hq.2) (z:=undef) (fun h=>by cases h)
       refine val (.tuple #[e.2,.bool true]) w μ ?_ (h.ePut hp D' (.tup _ _ rfl (fun i y u hy hu=>?_))).2
       ·simp only[execOp,ho,e1,hiv,KH,hr,KG,KZ,Option.isSome_some]
       ·match i with
        | 0=>simp at hy hu;subst hy hu;exact ah.ofVal _ _ _ _
        | 1=>simp at hy hu;subst hy hu;exact .v _ _ (.bool _)
        | i+2=>simp at hy
      ·exact ak hp D'
     ·split at hp
      ·rename_i z hz
       have hq:=dc hp D'
       have QC:(zeroValue E).run C.P w=.ok z w:=by
        cases hi:C.P.info? E with
        | none=>simp[hi]at hz
        | some i0 =>
         simp only[hi,Mi]at hz
         simp[zeroValue,typeInfo,hi,hz,KH]
       have hr:=mB hu hK2 e2 (nb n arr.toList es 0 e3 hq) (z:=z) (fun _=>QC)
       refine val (.tuple #[z,.bool false]) w μ ?_ (h.ePut hp D' (.tup _ _ rfl (fun i y u hy hu=>?_))).2
       ·simp only[execOp,ho,e1,hiv,KH,hr,KG,KZ,Option.isSome_none]
       ·match i with
        | 0=>simp at hy hu;subst hy hu;exact ah.ofVal _ _ _ _
        | 1=>simp at hy hu;subst hy hu;exact .v _ _ (.bool _)
        | i+2=>simp at hy
      ·exact ak hp D'
    ·exact ak hp D'
   ·exact ak hp D'
  ·rename_i d
   unfold HF at hp
   generalize hx:dA st.env x=dx at hp
   generalize hix:dA st.env ix=dix at hp
   split at hp
   ·rename_i K E es k n hu
    split at hp
    ·rename_i hK2
     have hxr:=h.eval x
     have hir:=h.eval ix
     rw[hx]at hxr
     rw[hix]at hir
     have hiv:a.eval ix=.int .i64 n:=(show ∀u,ci S w (.int .i64 n) u→u=.int .i64 n from fun u h=>by cases h;rfl) _ (ba hir)
     obtain⟨b,clock,arr,e1,e2,e3⟩:∃(b clock:Nat) (arr:Array MapEntry),a.eval x=.map (some b)∧w.heap[b]?=some (.map arr clock)∧arr.toList.map (fun e=>(e.key,e.val))=es.map (fun e=>(Value.int .i64 e.1,e.2)):=by
      have:=ba hxr
      generalize a.eval x=u at this
      cases this with
      | mp _ b clock arr q1 q2 q3 q4=>exact⟨b,clock,arr,rfl,q3,q4⟩
     obtain⟨j,e,he,OO,Pg,hq3⟩:=dc hp D'
     have hr:=mB hu hK2 e2 (kb n arr.toList es 0 j e e3 he OO Pg) (z:=undef) (fun h=>by cases h)
     refine val (.tuple #[e.2,.bool true]) w μ ?_ (h.ePut hp D' (.tup _ _ rfl (fun i y u hy hu=>?_))).2
     ·simp only[execOp,ho,e1,hiv,KH,hr,KG,KZ,Option.isSome_some]
     ·match i with
      | 0=>simp at hy hu;subst hy hu;exact mY hq3 (ah.ofVal _ _ _ _)
      | 1=>simp at hy hu;subst hy hu;exact .v _ _ (.bool _)
      | i+2=>simp at hy
    ·exact ak hp D'
   ·exact ak hp D'
  ·exact SI hp
 ·rename_i t ho
  split at hp
  ·rename_i t' ag α enc d l
   split at hp
   ·obtain⟨_,hR⟩:=h.newBox (u:=.map (some w.heap.size)) (w':=w.alloc (.map #[] 0)) hp D' (LR w _ none) ⟨w.heap.size,#[],0,rfl,LS w _,rfl,fun i k x hx=>by simp at hx⟩ (fun b hb=>by simp[bi,aA]at hb;omega) (v:=.map (some w.heap.size)) (by
     have:=ah.own (S:=S) (μ:=aM μ st.heap.length (.map (some w.heap.size))) (w:=w.alloc (.map #[] 0)) st.heap.length
     rwa [ao]at this)
    refine val _ _ _ ?_ hR
    simp[execOp,ho,Instr.makeMap,newObj,Sem.run]
   ·exact ak hp D'
  ·exact ak hp D'
 ·rename_i t m k x ho
  split at hp
  ·rename_i hd
   obtain⟨w',h1,h2⟩:=tb h (h.eval m) (h.eval k) (h.eval x) hp D'
   have hr:(execOp a.eval o).run C.P w=.ok .skip w':=by
    simp only[execOp,ho,KH,h1,KG,KZ]
   rw[hr,Oper.uponIn_skip,hd]
   exact hK _ _ _ _ h2
  ·exact ak hp D'
 ·exact SI hp
theorem bJ (h:aK C S μ st a w) {ops:List Oper} {o:Oper} {b:Bool} (hg:eH ops st o=some b):Region.wanted o (yielded ops.toArray a.tmps)=b:=by
 unfold eH at hg
 unfold Region.wanted
 cases RM:o.guard with
 | none=>rw[RM]at hg;cases hg;rfl
 | some q =>
  obtain⟨g,NM⟩:=q
  rw[RM]at hg
  simp only at hg ⊢
  split at hg
  ·rename_i t ht
   have hv:=h.eval (.tmp t)
   have hy:yielded ops.toArray a.tmps g=match a.tmps[t]? with | some (.bool b)=>some b | _=>none:=by
    unfold yielded
    simp only[L1,ht,Mi]
    rfl
   rw[hy]
   simp only[dA]at hv
   split at hg
   ·rename_i c hl
    rw[hl]at hv
    have:=dZ hv
    simp only[Act.eval,Lr]at this
    cases hq:a.tmps[t]? with
    | none=>rw[hq]at this;simp[undef]at this
    | some u =>
     rw[hq]at this
     simp at this
     subst this
     cases hg
     cases c<;>cases NM<;>rfl
   ·rename_i hl
    rw[hl]at hv
    obtain⟨us,hu,h1,_⟩:=ql hv
    simp only[Act.eval,Lr]at hu
    cases hg
    cases hq:a.tmps[t]? with
    | none=>cases NM<;>rfl
    | some u =>
     rw[hq]at hu
     simp at hu
     subst hu
     cases NM<;>rfl
   ·cases hg
  ·cases hg
theorem wF {P:Program} {nt:Nat} {ov:Ov} {o:Oper} (hd:cg o=true) (hp:l5 P nt ov o st=(I',p)) (D':p):False:=by
 unfold cg at hd
 split at hd
 ·rename_i c ho
  unfold l5 at hp
  rw[ho]at hp
  simp only[ew]at hp
  unfold rz at hp
  split at hp
  ·exact(dc hp D').1
  ·exact(dc hp D').1
  ·exact dc hp D'
 ·cases hd
theorem nc {ops:List Oper} {M7:List (Nat×Ov)} {Q:Exit→Act→World→Prop}:∀(l:List Oper) (i:Nat) (st:St) (S:Nat→Prop) (μ:Nat→Value) (a:Act) (w:World) (p:Prop),aK C S μ st a w→cG C.P C.nt ops M7 i l st=(I',p)→p →
  (∀S' μ' a' w',aK C S' μ' I' a' w'→Q .normal a' w')→wpListIn (jP C.rd) 0 C.P ops.toArray Q l a w:=by
 intro l
 induction l with
 | nil =>
  intro i st S μ a w p h hp D' hK
  simp only[cG,KJ]at hp
  obtain⟨rfl,_⟩:=hp
  exact hK _ _ _ _ h
 | cons o r ih =>
  intro i st S μ a w p h hp D' hK
  unfold cG at hp
  unfold wpListIn
  split at hp
  ·rename_i hg
   rw[KT (bJ h hg)]
   generalize hq:l5 C.P C.nt (j8 M7 i) o st=q at hp
   obtain⟨Nt,p1⟩:=q
   simp only at hp
   generalize Pg:cG C.P C.nt ops M7 (i+1) r Nt=q2 at hp
   obtain⟨Qu,p2⟩:=q2
   simp only[KJ]at hp
   obtain⟨rfl,rfl⟩:=hp
   have hnd:cg o=false:=by
    cases hd:cg o
    ·rfl
    ·exact(wF hd hq D'.1).elim
   refine qk hnd (kd h hq D'.1 (fun S' μ' a' w' hR=>?_))
   exact ih (i+1) Nt S' μ' a' w' p2 hR Pg D'.2 hK
  ·rename_i hg
   rw[KK (by rw[bJ h hg];simp)]
   refine⟨fun f _=>mf _ f,?_⟩
   generalize hq:j9 C.nt st o.dst=q at hp
   obtain⟨Nt,p1⟩:=q
   simp only at hp
   generalize Pg:cG C.P C.nt ops M7 (i+1) r Nt=q2 at hp
   obtain⟨Qu,p2⟩:=q2
   simp only[KJ]at hp
   obtain⟨rfl,rfl⟩:=hp
   exact ih (i+1) Nt _ _ _ _ p2 (h.ePut hq D'.1 (.tup [] #[] rfl (fun j y u hy _=>by simp at hy))).2 Pg D'.2 hK
  ·exact ak hp D'
end
@[reducible] def thenQ (next:St→Prop) (Q:Exit→St→Prop):Exit→St→Prop
 | .normal,st=>next st
 | e,st=>Q e st
@[reducible] def blockQ (id:Nat) (Q:Exit→St→Prop):Exit→St→Prop
 | .exit i,st=>if Nat.beq i id then Q .normal st else Q (.exit i) st
 | e,st=>Q e st
section
variable {C:jC} {st:St} {Q:Exit→St→Prop}
theorem Ev.mono {c:Code} {Q':Exit→St→Prop} (h:Ev C c Q st) (hq:∀e I',Q e I'→Q' e I'):Ev C c Q' st :=
 fun a w S μ hR=>wpIn_mono (h a w S μ hR) fun e a' w' ⟨I',S',μ',q,r⟩=>⟨I',S',μ',hq e I' q,r⟩
theorem Ev.skip (h:Q .normal st):Ev C .skip Q st:=fun a w S μ hR=>wpIn_skip ⟨st,S,μ,h,hR⟩
theorem Ev.label {l:Nat} (h:Q .normal st):Ev C (.label l) Q st:=fun a w S μ hR=>wpIn_label ⟨st,S,μ,h,hR⟩
theorem Ev.exit {id:Nat} (h:Q (.exit id) st):Ev C (.exit id) Q st:=fun a w S μ hR=>wpIn_exit ⟨st,S,μ,h,hR⟩
theorem Ev.ret (h:Q .ret st):Ev C .ret Q st:=fun a w S μ hR=>wpIn_ret ⟨st,S,μ,h,hR⟩
theorem Ev.seq {x y:Code} (h:Ev C x (thenQ (Ev C y Q) Q) st):Ev C (.seq x y) Q st:=fun a w S μ hR=>by
 refine wpIn_seq (wpIn_mono (h a w S μ hR) ?_)
 rintro e a' w' ⟨I',S',μ',hq,Nx⟩
 cases e with
 | normal=>exact hq a' w' S' μ' Nx
 | exit id=>exact⟨I',S',μ',hq,Nx⟩
 | goto l=>exact⟨I',S',μ',hq,Nx⟩
 | ret=>exact⟨I',S',μ',hq,Nx⟩
 | panic ch=>exact⟨I',S',μ',hq,Nx⟩
 | outgrown=>exact⟨I',S',μ',hq,Nx⟩
theorem Ev.cond {c:Operand} {x y:Code} (b:Bool) (hc:dA st.env c=.v (.bool b)) (hx:b=true→Ev C x Q st) (hy:b=false→Ev C y Q st):Ev C (.cond c x y) Q st:=fun a w S μ hR =>
 wpIn_cond_split (t:=b) (dZ (hc ▸ hR.eval c)) (fun h=>hx h a w S μ hR) (fun h=>hy h a w S μ hR)
theorem Ev.block {id:Nat} {c:Code} (h:Ev C c (blockQ id Q) st):Ev C (.block id c) Q st:=fun a w S μ hR=>by
 refine wpIn_block (wpIn_mono (h a w S μ hR) ?_)
 rintro e a' w' ⟨I',S',μ',hq,Nx⟩
 cases e with
 | exit i =>
  simp only[blockQ]at hq
  simp only[Exit.inBlock]
  by_cases hi:i=id
  ·rw[KT hi]
   rw[KT (by rw[KU];exact hi)]at hq
   exact⟨I',S',μ',hq,Nx⟩
  ·rw[KK hi]
   rw[KK (by rw[KU];exact hi)]at hq
   exact⟨I',S',μ',hq,Nx⟩
 | normal=>exact⟨I',S',μ',hq,Nx⟩
 | goto l=>exact⟨I',S',μ',hq,Nx⟩
 | ret=>exact⟨I',S',μ',hq,Nx⟩
 | panic ch=>exact⟨I',S',μ',hq,Nx⟩
 | outgrown=>exact⟨I',S',μ',hq,Nx⟩
theorem i8 {R:Nat→Prop} (h:∃n,R n):∃n,R n∧∀m,R m→n≤m:=by
 obtain⟨n,hn⟩:=h
 induction n using Nat.strongRecOn with
 | _ n ih =>
  by_cases hm:∃m,m<n∧R m
  ·obtain⟨m,h1,h2⟩:=hm
   exact ih m h1 h2
  ·exact⟨n,hn,fun m hR=>by
    refine LH fun M6=>hm ⟨m,by omega,hR⟩⟩
theorem aK.keep {S:Nat→Prop} {μ:Nat→Value} {a:Act} {w:World} (h:aK C S μ st a w) (keep:List Nat):aK C S μ ⟨ka keep st.env,st.heap⟩ a w :=
 h.weak (fun t d hm=>oQ hm)
def keepS (keep:List Nat) (n:Nat) (st:St):St:=⟨ka keep st.env,st.heap.take n⟩
theorem aK.keepS {S:Nat→Prop} {μ:Nat→Value} {a:Act} {w:World} (h:aK C S μ st a w) (keep:List Nat) (n:Nat):aK C S μ (keepS keep n st) a w :=
 (h.keep keep).heapTo (fun i A hA=>.inr (by
  rw[K4]at hA
  split at hA
  ·exact hA
  ·cases hA))
theorem Ev.keep {c:Code} (keep:List Nat) (n:Nat) {I':St} (h:Proofs.Ytgmpoenfoacofaa.keepS keep n st=I') (he:Ev C c Q I'):Ev C c Q st:=fun a w S μ hR=>by
 subst h
 exact he a w S μ (hR.keepS keep n)
theorem Ev.loop {σ:Type _} (keep:List Nat) (n:Nat) (mk:σ→St) (inv:σ→Prop) (m:σ→Nat) {c:Code} (s0:σ) (h0:Proofs.Ytgmpoenfoacofaa.keepS keep n st=mk s0) (hi:inv s0)
  (round:∀s,inv s→Ev C c (thenQ (fun I'=>∃s',Proofs.Ytgmpoenfoacofaa.keepS keep n I'=mk s'∧inv s'∧m s'<m s) Q) (mk s)):Ev C (.loop c) Q st:=fun a w S μ hR=>by
 have hR0:=hR.keepS keep n
 rw[h0]at hR0
 let R:Act→World→Nat→Prop:=fun a w n=>∃(s:σ) (S:Nat→Prop) (μ:Nat→Value),inv s∧m s=n∧aK C S μ (mk s) a w
 let M:Act→World→Nat:=fun a w=>@dite _ (∃n,R a w n) (Classical.propDecidable _) (fun h=>Classical.choose (i8 h)) (fun _=>0)
 have hM:∀a w,(∃n,R a w n)→R a w (M a w)∧∀n,R a w n→M a w≤n:=by
  intro a w h
  have:M a w=Classical.choose (i8 h):=dif_pos h
  rw[this]
  exact Classical.choose_spec (i8 h)
 refine wpIn_loop (fun a w=>∃n,R a w n) M ⟨m s0,s0,S,μ,hi,rfl,hR0⟩ ?_
 intro a w hI
 obtain⟨⟨s,S',μ',h1,h2,h3⟩,_⟩:=hM a w hI
 refine wpIn_mono (round s h1 a w S' μ' h3) ?_
 rintro e a' w' ⟨I',S2,μ2,hq,Nx⟩
 cases e with
 | normal =>
  obtain⟨s',hk,q1,q2⟩:=hq
  have Qt:=Nx.keepS keep n
  rw[hk]at Qt
  have hex:∃n,R a' w' n:=⟨m s',s',S2,μ2,q1,rfl,Qt⟩
  refine⟨hex,?_⟩
  have:=(hM a' w' hex).2 (m s') ⟨s',S2,μ2,q1,rfl,Qt⟩
  omega
 | exit id=>exact⟨I',S2,μ2,hq,Nx⟩
 | goto l=>exact⟨I',S2,μ2,hq,Nx⟩
 | ret=>exact⟨I',S2,μ2,hq,Nx⟩
 | panic ch=>exact⟨I',S2,μ2,hq,Nx⟩
 | outgrown=>exact⟨I',S2,μ2,hq,Nx⟩
theorem Ev.cut {σ:Type _} (keep:List Nat) (n:Nat) (mk:σ→St) (inv:σ→Prop) {x y:Code} (hx:Ev C x (thenQ (fun I'=>∃s,Proofs.Ytgmpoenfoacofaa.keepS keep n I'=mk s∧inv s) Q) st) (hy:∀s,inv s→Ev C y Q (mk s)):Ev C (.seq x y) Q st :=
 Ev.seq (hx.mono (fun e I' hq=>by
  cases e with
  | normal =>
   obtain⟨s,h1,h2⟩:=hq
   exact Ev.keep keep n h1 (hy s h2)
  | exit id=>exact hq
  | goto l=>exact hq
  | ret=>exact hq
  | panic ch=>exact hq
  | outgrown=>exact hq))
end
def V.scal:V→Bool
 | .sl _ _ _ _=>false
 | .mp _=>false
 | .sm _ _ _ _=>false
 | _=>true
def Hr:D→D→Prop
 | .own _,.v (.sl _ enc _ l)=>∀z∈l,(enc z).all V.scal=true
 | _,.v (.sl _ _ _ l)=>l=[]
 | _,.v (.mp _)=>False
 | _,.v (.sm _ _ _ _)=>False
 | _,.v _=>True
 | _,.nils=>True
 | _,_=>False
def I9:List D→List D→Prop
 | [],[]=>True
 | x::xs,y::ys=>Hr x y∧I9 xs ys
 | _,_=>False
def Gz:D→D→Prop
 | .agg xs,.agg ys=>I9 xs ys
 | x,y=>Hr x y
def IY:List D→List D→Prop
 | [],[]=>True
 | x::xs,y::ys=>Gz x y∧IY xs ys
 | _,_=>False
def vj (al:Bool) (H:List am):D→D→Prop
 | .tup xs,.tup ys=>HC H xs ys∧(al=true∨IY xs ys)
 | x,y=>Gd H x y∧(al=true∨Gz x y)
section
variable {P:Program} {S:Nat→Prop} {μ:Nat→Value} {w:World}
theorem wG {x:V} {u:Value} (h:ci S w x u) (hs:x.scal=true) (S':Nat→Prop):ci S' w x u:=by
 cases h with
 | int=>exact .int _ _
 | bool=>exact .bool _
 | str=>exact .str _
 | nil=>cases hs
 | row=>cases hs
 | mp=>cases hs
 | nilf=>exact .nilf
 | nsl=>exact .nsl
 | esl p c h=>exact .esl p c h
 | smn=>cases hs
 | sm=>cases hs
 | nmp=>exact .nmp
 | fnv f=>exact .fnv f
theorem Bh {sz:Nat} {α:Type} {enc:α→List V} {d:α} {l:List α} {u:Value} {S':Nat→Prop} (h:ci S w (.sl sz enc d l) u) (hs:∀z∈l,(enc z).all V.scal=true) (hb:∀b,bi u b→S' b):ci S' w (.sl sz enc d l) u:=by
 obtain⟨p,c,rfl,h1,h2,h3,h4⟩:=dY h
 refine jR rfl h1 h2 h3 (fun h0=>?_)
 obtain⟨b,L',us,rfl,q1,q2,q3,q4,q5⟩:=h4 h0
 refine⟨b,L',us,rfl,hb b (.inl rfl),q2,q3,q4,fun i x j y hx hy=>wG (q5 i x j y hx hy) ?_ S'⟩
 have:=hs x (Lb hx)
 rw[K2]at this
 exact this y (Lb hy)
theorem zK {H:List am} {S':Nat→Prop} (hH:aV S μ w H) (Nu:∀b,S b→b<w.heap.size) {x y:D} (MT:∀(i:Nat) (A:am) (b:Nat),H[i]?=some A→A.isArr=true→bi (μ i) b→S' b)
  {u:Value} (he:EN H x y) (hf:Hr x y) (h:ah S μ w x u):ah S' μ w y u:=by
 have h2:ah (fun b=>S b∨S' b) μ w y u:=kL hH (fun b hb=>.inl hb) Nu (.inl fun i A b h1 h2 h3=>.inr (MT i A b h1 h2 h3)) he h
 unfold Hr at hf
 split at hf
 ·rename_i id sz α enc d l
  refine .v _ _ (Bh (ba h2) hf ?_)
  unfold EN at he
  simp only at he
  split at he
  ·rename_i E Nk β MW d' l' hb
   rw[a6 h]
   exact fun b Nn=>MT id _ b hb rfl Nn
  ·exact he.elim
 ·subst hf
  obtain⟨p,c,rfl,h1,h3,h4,h5⟩:=dY (ba h2)
  exact .v _ _ (.nil _ _ _ _ _ h3 h4)
 ·exact hf.elim
 ·exact hf.elim
 ·rename_i v h3 h4 h5 h6
  refine .v _ _ (wG (ba h2) ?_ _)
  cases v with
  | sl sz enc d l=>first | exact(h3 _ _ _ _ _ rfl).elim | exact(h4 _ _ _ _ _ rfl).elim | exact(h5 _ _ _ _ _ rfl).elim
  | mp es=>first | exact(h3 _ rfl).elim | exact(h4 _ rfl).elim | exact(h5 _ rfl).elim | exact(h6 _ rfl).elim
  | sm ag enc d l=>first | exact(h3 _ _ _ _ _ rfl).elim | exact(h4 _ _ _ _ _ rfl).elim | exact(h5 _ _ _ _ _ rfl).elim | exact(h6 _ _ _ _ _ rfl).elim
  | nmp=>rfl
  | fnv=>rfl
  | int=>rfl
  | bool=>rfl
  | str=>rfl
  | nilf=>rfl
  | nsl=>rfl
  | esl=>first | exact(h3 rfl).elim | exact(h4 rfl).elim | exact(h5 rfl).elim | rfl
 ·cases h2
  exact .nils
 ·exact hf.elim
theorem zL:∀{xs ys:List D},I9 xs ys→∀(j:Nat) (x y:D),xs[j]?=some x→ys[j]?=some y→Hr x y
 | [],[],_,j,x,y,hx,_=>by simp at hx
 | [],_::_,h,_,_,_,_,_=>h.elim
 | _::_,[],h,_,_,_,_,_=>h.elim
 | x::xs,y::ys,h,0,_,_,hx,hy=>by simp at hx hy;subst hx hy;exact h.1
 | x::xs,y::ys,h,j+1,x',y',hx,hy=>zL h.2 j x' y' (by simpa using hx) (by simpa using hy)
theorem zM:∀{xs ys:List D},IY xs ys→∀(j:Nat) (x y:D),xs[j]?=some x→ys[j]?=some y→Gz x y
 | [],[],_,j,x,y,hx,_=>by simp at hx
 | [],_::_,h,_,_,_,_,_=>h.elim
 | _::_,[],h,_,_,_,_,_=>h.elim
 | x::xs,y::ys,h,0,_,_,hx,hy=>by simp at hx hy;subst hx hy;exact h.1
 | x::xs,y::ys,h,j+1,x',y',hx,hy=>zM h.2 j x' y' (by simpa using hx) (by simpa using hy)
theorem tV {al:Bool} {H:List am} {S' Sn:Nat→Prop} (hH:aV S μ w H) (Nu:∀b,S b→b<w.heap.size) (hS:∀b,S b→S' b)
  (N9:∀(i:Nat) (A:am) (b:Nat),H[i]?=some A→A.isArr=true→bi (μ i) b→S' b) (MT:∀(i:Nat) (A:am) (b:Nat),H[i]?=some A→A.isArr=true→bi (μ i) b→Sn b)
  (NA:al=true→∀b,S' b→Sn b) {x y:D} {u:Value} (he:Gd H x y) (hf:al=true∨Gz x y) (h:ah S μ w x u):ah Sn μ w y u:=by
 rcases hf with hf | hf
 ·have:ah S' μ w y u:=by
   have h1:aE S' μ w [y] #[u]:=EW (ds:=[x]) hH hS Nu (.inl N9) ⟨he,trivial⟩ ⟨rfl,fun j a b ha hb=>by
    cases j with
    | zero=>simp at ha hb;subst ha hb;exact h
    | succ j=>simp at ha⟩
   exact h1.2 0 y u rfl rfl
  exact this.stable (fun b hb _=>NA hf b hb) (fun _ _ _=>rfl) (KI _) (fun _ _=>rfl)
 ·unfold Gd at he
  split at he
  ·rename_i xs ys
   obtain⟨us,rfl,q1,q2⟩:=dr h
   obtain⟨r1,r2⟩:=qr he
   refine .agg _ _ (by rw[← r1];exact q1) (fun k z v hz hv=>?_)
   obtain⟨x',Pk,P7⟩:=r2 k z hz
   exact zK hH Nu MT P7 (zL hf k x' z Pk hz) (q2 k x' v Pk hv)
  ·rename_i NF
   have hf':Hr x y:=by
    unfold Gz at hf
    split at hf
    ·rename_i xs ys
     exact(NF xs ys rfl rfl).elim
    ·exact hf
   exact zK hH Nu MT he hf' h
theorem wH {al:Bool} {H:List am} {S' Sn:Nat→Prop} (hH:aV S μ w H) (Nu:∀b,S b→b<w.heap.size) (hS:∀b,S b→S' b)
  (N9:∀(i:Nat) (A:am) (b:Nat),H[i]?=some A→A.isArr=true→bi (μ i) b→S' b) (MT:∀(i:Nat) (A:am) (b:Nat),H[i]?=some A→A.isArr=true→bi (μ i) b→Sn b)
  (NA:al=true→∀b,S' b→Sn b) {x y:D} {u:Value} (he:vj al H x y) (h:ah S μ w x u):ah Sn μ w y u:=by
 unfold vj at he
 split at he
 ·rename_i xs ys
  obtain⟨us,rfl,q1,q2⟩:=ql h
  obtain⟨r1,r2⟩:=u5 he.1
  refine .tup _ _ (by rw[← r1];exact q1) (fun k z v hz hv=>?_)
  obtain⟨x',Pk,P7⟩:=r2 k z hz
  exact tV hH Nu hS N9 MT NA P7 (he.2.imp id fun hf=>zM hf k x' z Pk hz) (q2 k x' v Pk hv)
 ·exact tV hH Nu hS N9 MT NA he.1 he.2 h
def GA (P:Program) (fn:Func) (al:Bool) (r:D):Exit→St→Prop
 | .normal,st=>fJ P fn st∧vj al st.heap (fD P fn st) r
 | .ret,st=>fJ P fn st∧vj al st.heap (fD P fn st) r
 | _,_=>False
theorem ai.of_ev {f:FuncId} {fn:Func} {c:Code} {q':List D} {al:Bool} {r:D} (hf:P.funcs[f]?=some fn) (hb:fn.body=some c) (hn:Nat.ble q'.length fn.ntmps=true) (hr:da r=true)
  (h:∀C:jC,C.P=P→C.nt=fn.ntmps→C.rd=none→Ev C c (GA P fn al r) ⟨ge 0 q',[]⟩):ai P f q' [] al r []:=by
 intro S μ w us hS hG hH Nj
 rw[LJ]at hn
 let C:jC:=⟨P,w,S,fn.ntmps,[],none,hG⟩
 have Rv:aK C S μ ⟨ge 0 q',[]⟩ (rm us fn.ntmps) w :=
  ⟨rfl,rfl,rfl,KI _,fun _ _=>rfl,fun _ h=>h,fun _ h=>.inl h,hS,qs Nj hn,⟨fun id B hB=>by simp at hB,fun i j A B b hA=>by simp at hA,fun i A b hA=>by simp at hA⟩,fun i A b hA=>by simp at hA,⟨[],rfl,by simp[C],fun b hb=>by simp[C]at hb⟩,m6 Nj.1 hn,fun i A b hA=>by simp at hA⟩
 refine(gX (C:=C) hf hb rfl Rv (h C rfl rfl rfl) (fun e I' hq=>?_)).mono ?_
 ·cases e<;>first | exact⟨.inl rfl,hq.1⟩ | exact⟨.inr rfl,hq.1⟩ | exact hq.elim
 rintro e w' ⟨u,e0,I',S',μ',a',rfl,hq,hR,hx⟩
 have hq:vj al I'.heap (fD P fn I') r:=by
  cases e0<;>first | exact hq.2 | exact hq.elim
 refine⟨u,μ',fun b=>S' b∨∃(i:Nat) (A:am),I'.heap[i]?=some A∧A.isArr=true∧bi (μ' i) b,rfl,hR.os,hR.tape,hR.output,hR.size,fun k hk _=>hR.old k hk,fun b hb=>.inl (hR.mono b hb),?_,?_,?_,
   ⟨fun id B hB=>by simp at hB,fun i j A B b hA=>by simp at hA,fun i A b hA=>by simp at hA⟩,fun i A b hA=>by simp at hA,fun i A hA=>by simp at hA⟩
 ·rintro b (hb | ⟨i,A,h1,h2,h3⟩)
  ·exact hR.new b hb
  ·exact .inr (hR.may i A b h1 (by cases A<;>first | rfl | cases h2) h3)
 ·rintro b (hb | ⟨i,A,h1,h2,h3⟩)
  ·exact hR.slt b hb
  ·exact(hR.heap.box i A h1).lt (by cases A<;>first | rfl | cases h2) b h3
 ·refine wH hR.heap hR.slt (S':=fun b=>S' b∨∃(i:Nat) (A:am),I'.heap[i]?=some A∧A.isArr=true∧bi (μ' i) b) (fun b hb=>.inl hb) (fun i A b h1 h2 h3=>.inr ⟨i,A,h1,h2,h3⟩) (fun i A b h1 h2 h3=>⟨.inr ⟨i,A,h1,h2,h3⟩,.inr ?_⟩) (fun ha b hb=>⟨hb,.inl ha⟩) hq hx
  exact hR.may i A b h1 (by cases A<;>first | rfl | cases h2) h3
theorem ai.of_evR {f:FuncId} {fn:Func} {c:Code} {q':List D} {r:D} {B:am} (hf:P.funcs[f]?=some fn) (hb:fn.body=some c) (hn:Nat.ble q'.length fn.ntmps=true) (hr:da r=true) (hB:B.isRo=true)
  (h:∀C:jC,C.P=P→C.nt=fn.ntmps→C.rd=none→Ev C c (GA P fn true r) ⟨ge 0 q',[B]⟩):ai P f q' [B] true r []:=by
 intro S μ w us hS hG hH Nj
 rw[LJ]at hn
 let C:jC:=⟨P,w,S,fn.ntmps,[],none,hG⟩
 have hl:B.live=false:=by cases B<;>first | rfl | cases hB
 have one:∀(i:Nat) (A:am),[B][i]?=some A→i=0∧A=B:=fun i A hA=>by
  match i with
  | 0=>simp at hA;exact⟨rfl,hA.symm⟩
  | i+1=>simp at hA
 have Rv:aK C S μ ⟨ge 0 q',[B]⟩ (rm us fn.ntmps) w :=
  ⟨rfl,rfl,rfl,KI _,fun _ _=>rfl,fun _ h=>h,fun _ h=>.inl h,hS,qs Nj hn,hH,fun i A b hA la=>by (rw[(one i A hA).2,hl]at la;cases la),⟨[],rfl,by simp[C],fun b hb=>by simp[C]at hb⟩,m6 Nj.1 hn,fun i A b hA la hb=>(hH.box i A hA).ltR la b hb⟩
 refine(gX (C:=C) hf hb rfl Rv (h C rfl rfl rfl) (fun e I' hq=>?_)).mono ?_
 ·cases e<;>first | exact⟨.inl rfl,hq.1⟩ | exact⟨.inr rfl,hq.1⟩ | exact hq.elim
 rintro e w' ⟨u,e0,I',S',μ',a',rfl,hq,hR,hx⟩
 have hq:vj true I'.heap (fD P fn I') r:=by
  cases e0<;>first | exact hq.2 | exact hq.elim
 refine⟨u,μ',fun b=>S' b∨∃(i:Nat) (A:am),I'.heap[i]?=some A∧A.isArr=true∧bi (μ' i) b,rfl,hR.os,hR.tape,hR.output,hR.size,fun k hk _=>hR.old k hk,fun b hb=>.inl (hR.mono b hb),?_,?_,?_,
   ⟨fun id B hB=>by simp at hB,fun i j A B b hA=>by simp at hA,fun i A b hA=>by simp at hA⟩,fun i A b hA=>by simp at hA,fun i A hA _ la=>by (rw[(one i A hA).2,hl]at la;cases la)⟩
 ·rintro b (hb | ⟨i,A,h1,h2,h3⟩)
  ·exact hR.new b hb
  ·exact .inr (hR.may i A b h1 (by cases A<;>first | rfl | cases h2) h3)
 ·rintro b (hb | ⟨i,A,h1,h2,h3⟩)
  ·exact hR.slt b hb
  ·exact(hR.heap.box i A h1).lt (by cases A<;>first | rfl | cases h2) b h3
 ·refine wH hR.heap hR.slt (S':=fun b=>S' b∨∃(i:Nat) (A:am),I'.heap[i]?=some A∧A.isArr=true∧bi (μ' i) b) (fun b hb=>.inl hb) (fun i A b h1 h2 h3=>.inr ⟨i,A,h1,h2,h3⟩) (fun i A b h1 h2 h3=>⟨.inr ⟨i,A,h1,h2,h3⟩,.inr ?_⟩) (fun ha b hb=>⟨hb,.inl ha⟩) hq hx
  exact hR.may i A b h1 (by cases A<;>first | rfl | cases h2) h3
end
def CP:List Oper→Nat→Nat→Option Nat
 | _,0,_=>none
 | ops,i+1,t=>match (ops[i]?).bind (·.dst)with
  | some s=>if Nat.beq s t then some i else CP ops i t
  | none=>CP ops i t
def CQ (op:Op):List Tmp:=op.operands.toList.filterMap fun | .tmp t=>some t | _=>none
def oS (P:Program) (H:List am) (ov:Ov) (t:TypeId) (len:Nat) (MS:List (Nat×D)):R1 :=
 match P.underlying t with
 | some (.slice E)=>match fe P E with
  | some z=>if bL P E&&Nat.beq z.length (ap P E)&&Nat.ble 1 (ap P E)&&Nat.ble (len*ap P E) 4096 then
    match fc H (fun i=>some (i*ap P E,ap P E)) (List.replicate len z).flatten MS with
    | some cells=>match ov with
     | .box E' Nk MW d' l'=>if Nat.beq E E'&&Nat.beq (ap P E) Nk then (.v (.sl (ap P E) MW d' l'),an (lZ (ap P E) len cells) (l'.map MW))else aG
     | _=>aG
    | none=>aG
   else aG
  | none=>aG
 | _=>aG
def Gf (P:Program) (H:List am) (ov:Ov) (f:D) (ds:List D):R1 :=
 match f,ov with
 | .fn (.func g) first cap,.callr id q' r=>if gY P g&&da r then (r,i4 P g H (first++ds++cap) id q' r)else aG
 | .fn (.func g) first cap,.call q' al r=>if gY P g&&da r&&(!al||d7 (first++ds++cap))then (r,mr P g H (first++ds++cap) q' al r)else aG
 | _,_=>aG
def HH (P:Program) (T:TypeId):Option (Array Value):=((P.info? T).bind (·.zero)).map (·.cells)
def GB (o:Oper):Option TypeId:=match o.op with | .alloc T=>some T | _=>none
def IZ (P:Program) (H:List am) (ρ:Operand→D) (ov:Ov) (op:Op):R1 :=
 match op with
 | .alloc T=>match HH P T with | some _=>(.junk,True) | none=>aG
 | .buildSlice t len MS=>oS P H ov t len (MS.toList.map fun p=>(p.1,ρ p.2))
 | .call ⟨.value f,args,_⟩=>Gf P H ov (ρ f) (args.toList.map ρ)
 | op=>match ov with
  | .val d'=>(d',(ew P H ρ op).2∧xM (ew P H ρ op).1 d')
  | .lift d'=>(d',(ew P H ρ op).2∧tA (ew P H ρ op).1 d')
  | _=>ew P H ρ op
def J4 (ops:List Oper) (i:Nat) (o:Oper):List (Tmp×Option Nat) :=
 (CQ o.op).map fun t=>(t,CP ops i t)
section
variable {P:Program} {S:Nat→Prop} {μ:Nat→Value} {w:World}
theorem wI {ops:Array Oper} {sp sp':py} {base Qy:Act} (h:F9 ops sp base=true) (hs:Qy.tmps.size=base.tmps.size) (hk:sp'.K=sp.K) (hi:sp'.ins=sp.ins):F9 ops sp' Qy=true:=by
 have e1:Hv ops sp'=Hv ops sp:=by
  funext i p
  unfold Hv
  rw[hk]
 have:∀i,Cl ops sp' Qy i=Cl ops sp base i:=by
  intro i
  unfold Cl
  rw[hs,hk,hi,e1]
 unfold F9 at h ⊢
 rw[show Cl ops sp' Qy=Cl ops sp base from funext this]
 exact h
end
section
variable {P:Program} {S:Nat→Prop} {μ:Nat→Value} {w:World}
theorem aV.mono {S':Nat→Prop} {w':World} {H:List am} (h:aV S μ w H) (hS:∀b,S b→b<w.heap.size→S' b) (hb:Below w.heap.size w w') (hn:∀b,b<w.heap.size→S' b→S b):aV S' μ w' H:=by
 refine⟨fun i A hA=>?_,h.apart,fun i A b hA hl Nn hs=>?_⟩
 ·rcases A.three with rfl | hl | hl
  ·trivial
  ·exact(h.box i A hA).stable hS (fun b _ hl=>hb.block b hl) hb.size (fun _ _=>rfl) (fun b Nn=>hb.block b ((h.box i A hA).lt hl b Nn))
  ·exact(h.box i A hA).stable hS (fun b _ hl=>hb.block b hl) hb.size (fun _ _=>rfl) (fun b Nn=>hb.block b ((h.box i A hA).ltR hl b Nn))
 ·have M6:=(h.box i A hA).lt hl b Nn
  exact h.notS i A b hA hl Nn (hn b M6 hs)
theorem vk {H:List am} (hH:aV S μ w H) (hS:∀b,S b→b<w.heap.size) {ov:Ov} {t:TypeId} {len:Nat} {MS:List (Nat×D)} {MY:List (Nat×Value)} (h1:MS.map (·.1)=MY.map (·.1))
  (h2:∀(j:Nat) (x:Nat×D) (u:Nat×Value),MS[j]?=some x→MY[j]?=some u→ah S μ w x.2 u.2) {d:D} {p:Prop} (hp:oS P H ov t len MS=(d,p)) (D':p) :
  ∃u vs E,(Instr.buildSlice t len MY.toArray).run P w=.ok u (w.alloc (.cells vs E))∧ah (fun b=>S b∨b=w.heap.size) μ (w.alloc (.cells vs E)) d u:=by
 unfold oS at hp
 split at hp
 ·rename_i E hu
  split at hp
  ·rename_i z hz
   split at hp
   ·rename_i hc
    simp only[KD,KU,LJ]at hc
    obtain⟨⟨⟨hk,NS⟩,Nl⟩,Pe⟩:=hc
    obtain⟨i,v,hi,hv,Pd,M0,RR⟩:=eY hz
    split at hp
    ·rename_i cells hf
     have QC:aE S μ w z v.cells:=by
      rw[Pd]
      refine⟨by simp,fun j y u hy hu=>?_⟩
      simp only[KX,Ld,hu,Lj,KP]at hy
      subst hy
      exact ah.ofVal1 S μ w u
     have PE:=oP (P:=P) QC NS (by omega) len
     obtain⟨vs,OJ,Od⟩:=dM hH MS MY _ cells _ h1 h2 PE hf
     rw[← M0]at OJ
     have M3:=gf (P:=P) (w:=w) hu hi hv (by rw[M0];exact Pe) OJ
     have hcl:cells.length=len*ap P E:=by
      have:∀(MS:List (Nat×D)) (c0 OU:List D),fc H (fun i=>some (i*ap P E,ap P E)) c0 MS=some OU→OU.length=c0.length:=by
       intro MS
       induction MS with
       | nil=>intro c0 OU h;simp only[fc,KP]at h;rw[h]
       | cons q r ih =>
        intro c0 OU h
        obtain⟨k,x⟩:=q
        unfold fc at h
        split at h
        ·split at h
         ·rename_i M8
          simp only[KD,LJ]at M8
          rw[ih _ _ h]
          simp[d6]
          omega
         ·cases h
        ·cases h
      rw[this _ _ _ hf]
      simp[NS]
     have MZ:len≤maxLen:=by
      have:len*1≤len*ap P E:=Mu _ Nl
      simp only[maxLen]
      omega
     split at hp
     ·rename_i E' Nk α MW d' l'
      split at hp
      ·rename_i hc
       simp only[KD,KU]at hc
       obtain⟨rfl,rfl⟩:=hc
       simp only[KJ]at hp
       obtain⟨rfl,rfl⟩:=hp
       refine⟨_,vs,E,M3,.v _ _ ?_⟩
       obtain⟨q1,q2⟩:=i5 D'
       have hA:dg S (w.alloc (.cells vs E)) E (ap P E) (l'.map MW) (.slice (some ⟨w.heap.size,0,none⟩) len len):=by
        refine qv Od hcl MZ (by rw[← q1];simp[lZ]) (fun i x hx=>?_) hS
        obtain⟨r,hr,Ng⟩:=q2 i x hx
        obtain⟨r1,r2⟩:=dP Ng
        obtain⟨NN,rfl⟩:=iw _ _ _ hr
        refine⟨?_,fun j y hy=>?_⟩
        ·rw[← r1,KV,K7,hcl]
         have:(i+1)*ap P E≤len*ap P E:=K3 _ NN
         rw[LN]at this
         omega
        ·obtain⟨d,hd,Q2⟩:=r2 j y hy
         exact⟨d,i7 hr hd,fun u hu=>j7 Q2 hu⟩
       have hB:az S μ (w.alloc (.cells vs E)) (.slice (some ⟨w.heap.size,0,none⟩) len len) (.arr E (ap P E) MW d' l'):=hA.box rfl
       exact db hB (fun b hb=>.inl hb) (fun b hb=>.inr (by simp[bi,aA]at hb;omega)) (fun b hb=>by have:=hS b hb;simp;omega)
      ·cases hp;exact D'.elim
     ·cases hp;exact D'.elim
    ·cases hp;exact D'.elim
   ·cases hp;exact D'.elim
  ·cases hp;exact D'.elim
 ·cases hp;exact D'.elim
theorem CT {H:List am} (hH:aV S μ w H) (hS:∀b,S b→b<w.heap.size) (hG:er S w) {f:FuncId} {ds:List D} {q':Option (List D)} {al:Bool} {r:D} {us:Array Value} (hc:mr P f H ds q' al r) (Nj:aE S μ w ds us)
  (NA:al=false∨d7 ds=true) (hr:da r=true) :
  Calls P f us w (fun e w'=>∃u,e=.returned u∧Below w.heap.size w w'∧ah (fun b=>S b∨w.heap.size≤b) μ w' r u):=by
 have OW:∀(Ql:List D) (S1:Nat→Prop),ai P f Ql [] al r []→(∀b,S1 b→b<w.heap.size)→(∀b,S b→S1 b)→(al=true→∀b,S1 b→S b)→aE S1 μ w Ql us →
   Calls P f us w (fun e w'=>∃u,e=.returned u∧Below w.heap.size w w'∧ah (fun b=>S b∨w.heap.size≤b) μ w' r u):=by
  intro Ql S1 hc h2 h1 h3 Nj
  refine(hc S1 μ w us h2 (hG.stable (fun b hb _=>h1 b hb) (fun _ _ _=>rfl) (KI _)) ⟨fun id B hB=>by simp at hB,fun i j A B b hA=>by simp at hA,fun i A b hA=>by simp at hA⟩ Nj).mono ?_
  rintro e w' ⟨u,μ',S',rfl,q1,q2,q3,q4,q5,q6,q7,q8,q9,_⟩
  refine⟨u,rfl,⟨q1,q2,q3,q4,fun k hk=>q5 k hk (fun i A hA=>by simp at hA)⟩,q9.stable ?_ (fun _ _ _=>rfl) (KI _) (fun id M5=>by rw[eD id r hr]at M5;cases M5)⟩
  rintro b ⟨hb,OC⟩ _
  rcases q7 b hb with QJ | QJ
  ·rcases OC with OC | OC
   ·exact .inl (h3 OC b QJ)
   ·exact .inr OC
  ·exact .inr QJ
 cases q' with
 | none=>exact OW ds S hc hS (fun _ h=>h) (fun _ _ h=>h) Nj
 | some q' =>
  obtain⟨hco,hc⟩:=hc
  refine OW q' (fun b=>S b∨(al=false∧∃(i:Nat) (A:am),H[i]?=some A∧A.mem=true∧bi (μ i) b)) hc ?_ (fun b hb=>.inl hb) ?_ ?_
  ·rintro b (hb | ⟨_,i,A,hA,hl,hb⟩)
   ·exact hS b hb
   ·exact(hH.box i A hA).ltM hl b hb
  ·rintro h b (hb | ⟨h0,_⟩)
   ·exact hb
   ·rw[h]at h0;cases h0
  ·refine i3 hH (fun b hb=>.inl hb) hS ?_ hco Nj
   rcases NA with NA | NA
   ·exact .inl (fun i A b hA hl hb=>.inr ⟨NA,i,A,hA,hl,hb⟩)
   ·exact .inr NA
theorem Bi {H:List am} (hH:aV S μ w H) (hS:∀b,S b→b<w.heap.size) (hG:er S w) {f:FuncId} {ds:List D} {id:Nat} {q':List D} {r:D} {us:Array Value} (hc:i4 P f H ds id q' r) (Nj:aE S μ w ds us) (hr:da r=true) :
  Calls P f us w (fun e w'=>∃u,e=.returned u∧Below w.heap.size w w'∧ah (fun b=>S b∨w.heap.size≤b) μ w' r u):=by
 unfold i4 at hc
 split at hc
 ·rename_i B hB
  obtain⟨hra,hc⟩:=hc
  cases QT:H[id]? with
  | none=>rw[QT]at hB;cases hB
  | some A =>
   rw[QT]at hB
   obtain⟨Oj,G'⟩:=tF (μ':=fun _=>μ id) hB (hH.box id A QT)
   have hl:B.live=false:=by cases B<;>first | rfl | cases Oj
   refine(hc S (fun _=>μ id) w us hS hG (zB Oj G') (zA hra Nj)).mono ?_
   rintro e w' ⟨u,μ',S',rfl,q1,q2,q3,q4,q5,q6,q7,q8,q9,_⟩
   refine⟨u,rfl,⟨q1,q2,q3,q4,fun k hk=>q5 k hk (fun i A hA la=>?_)⟩,q9.stable (fun b hb _=>q7 b hb.1) (fun _ _ _=>rfl) (KI _) (fun id M5=>by rw[eD id r hr]at M5;cases M5)⟩
   match i with
   | 0=>simp at hA;rw[← hA,hl]at la;cases la
   | i+1=>simp at hA
 ·exact hc.elim
theorem Bj {H:List am} (hH:aV S μ w H) (hS:∀b,S b→b<w.heap.size) (hG:er S w) {ρ:Operand→D} {ρ':Operand→Value} (hρ:∀x,ah S μ w (ρ x) (ρ' x)) {ov:Ov} {o:Oper} {d:D} {p:Prop} (hp:IZ P H ρ ov o.op=(d,p)) (D':p) (Qs:GB o=none)
  {R:Value→World→Prop} (hR:∀u w',Below w.heap.size w w'→ah (fun b=>S b∨w.heap.size≤b) μ w' d u→R u w'):lK P R ((execOp ρ' o).run P w):=by
 unfold IZ at hp
 split at hp
 ·rename_i ho
  unfold GB at Qs
  rw[ho]at Qs
  cases Qs
 ·rename_i t len MS ho
  obtain⟨u,vs,E,h1,h2⟩:=vk hH hS (MY:=MS.toList.map fun p=>(p.1,ρ' p.2)) (by simp) (fun j x u hx hu=>by
   simp only[KX,Ld]at hx hu
   cases hj:MS[j]? with
   | none=>rw[hj]at hx;cases hx
   | some q=>rw[hj]at hx hu;simp at hx hu;subst hx hu;exact hρ q.2) hp D'
  have he:MS.map (fun (i,x)=>(i,ρ' x))=(MS.toList.map fun p=>(p.1,ρ' p.2)).toArray:=Mp (by simp)
  rw[← he]at h1
  refine lK.of (v:=u) (w':=w.alloc (.cells vs E)) ?_ (hR _ _ ((ML _ _).alloc (KI _) _) (h2.stable ?_ (fun _ _ _=>rfl) (KI _) (fun _ _=>rfl)))
  ·simp only[execOp,ho,KH,h1,KG,KZ]
  ·rintro b (hb | rfl) _
   ·exact .inl hb
   ·exact .inr (KI _)
 ·rename_i f args PN ho
  unfold Gf at hp
  split at hp
  ·rename_i g first cap id q' r hf
   split at hp
   ·rename_i hc
    simp only[KD]at hc
    obtain⟨Pp,hr⟩:=hc
    simp only[KJ]at hp
    obtain⟨rfl,rfl⟩:=hp
    have N5:=hf ▸ hρ f
    generalize NZ:ρ' f=uf at N5
    cases N5 with
    | fn _ _ _ us vs h1 h2 h3 h4 =>
     have M3:(execOp ρ' o).run P w=.ok (.enter g (us++args.map ρ'++vs)) w:=by
      simp[execOp,ho,resolve,NZ,Deferred.ofValue,invoke,bk Pp]
     rw[M3]
     have NV:aE S μ w (args.toList.map ρ) (args.map ρ'):=by
      refine⟨by simp,fun j y z hy hz=>?_⟩
      simp only[KX,Ld,LP]at hy hz
      cases hj:args[j]? with
      | none=>rw[hj]at hy;cases hy
      | some x=>rw[hj]at hy hz;simp at hy hz;subst hy hz;exact hρ x
     refine lK.enter ((Bi hH hS hG D' (aE.app (aE.app ⟨h1,h2⟩ NV) ⟨h3,h4⟩) hr).mono ?_)
     rintro e w' ⟨u,rfl,hb,hd⟩
     exact⟨u,rfl,hR u w' hb hd⟩
   ·cases hp;exact D'.elim
  ·rename_i g first cap q' al r hf
   split at hp
   ·rename_i hc
    simp only[KD,Lf,K5]at hc
    obtain⟨⟨Pp,hr⟩,NA⟩:=hc
    simp only[KJ]at hp
    obtain⟨rfl,rfl⟩:=hp
    have N5:=hf ▸ hρ f
    generalize NZ:ρ' f=uf at N5
    cases N5 with
    | fn _ _ _ us vs h1 h2 h3 h4 =>
     have M3:(execOp ρ' o).run P w=.ok (.enter g (us++args.map ρ'++vs)) w:=by
      simp[execOp,ho,resolve,NZ,Deferred.ofValue,invoke,bk Pp]
     rw[M3]
     have NV:aE S μ w (args.toList.map ρ) (args.map ρ'):=by
      refine⟨by simp,fun j y z hy hz=>?_⟩
      simp only[KX,Ld,LP]at hy hz
      cases hj:args[j]? with
      | none=>rw[hj]at hy;cases hy
      | some x=>rw[hj]at hy hz;simp at hy hz;subst hy hz;exact hρ x
     refine lK.enter ((CT hH hS hG D' (aE.app (aE.app ⟨h1,h2⟩ NV) ⟨h3,h4⟩) NA hr).mono ?_)
     rintro e w' ⟨u,rfl,hb,hd⟩
     exact⟨u,rfl,hR u w' hb hd⟩
   ·cases hp;exact D'.elim
  ·cases hp;exact D'.elim
 ·have key:∀d0,(∃q,ew P H ρ o.op=(d0,q)∧q)→(∀u,ah S μ w d0 u→ah S μ w d u)→lK P R ((execOp ρ' o).run P w):=by
   rintro d0 ⟨q,hq,Pg⟩ hd
   obtain⟨u,h1,h2⟩:=fM hH hρ hq Pg
   exact lK.of h1 (hR u w (ML _ _) ((hd u h2).stable (fun b hb _=>.inl hb) (fun _ _ _=>rfl) (KI _) (fun _ _=>rfl)))
  split at hp
  ·simp only[KJ]at hp
   obtain⟨rfl,rfl⟩:=hp
   exact key _ ⟨_,rfl,D'.1⟩ (fun u hu=>mY D'.2 hu)
  ·simp only[KJ]at hp
   obtain⟨rfl,rfl⟩:=hp
   exact key _ ⟨_,rfl,D'.1⟩ (fun u hu=>D'.2 _ _ _ _ hu)
  ·exact key d ⟨p,hp,D'⟩ (fun _ h=>h)
end
theorem Ev.freeze {C:jC} {st:St} {Q:Exit→St→Prop} {c:Code} (id:Nat) {I':St} (h:kM id st=some I') (he:Ev C c Q I'):Ev C c Q st:=fun a w S μ hR=>by
 obtain⟨S',Nx⟩:=hR.freeze h
 exact he a w S' μ Nx
def yj (id j E sz:Nat) {α:Type} (enc:α→List V) (d:α) (st:St):Option St :=
 if bj st.heap.length st.env&&aP st.heap.length st.heap then
  match st.heap[id]? with
  | some (.var T cs)=>match cs[j]? with
   | some .nils=>some ⟨st.env,st.heap.set id (.var T (cs.set j (.own st.heap.length)))++[.arr E sz enc d []]⟩
   | _=>none
  | _=>none
 else none
def adoptE (t E sz:Nat) {α:Type} (enc:α→List V) (d:α) (st:St):Option St :=
 if bj st.heap.length st.env&&aP st.heap.length st.heap&&CM st.env t then
  match lS st.env t with
  | .nils=>some ⟨pX st.env t (.own st.heap.length),st.heap++[.arr E sz enc d []]⟩
  | _=>none
 else none
section
variable {C:jC} {S:Nat→Prop} {μ:Nat→Value} {st:St} {a:Act} {w:World} {Q:Exit→St→Prop}
theorem aK.addNil (h:aK C S μ st a w) (hf:bj st.heap.length st.env=true) (hh:aP st.heap.length st.heap=true) (E sz:Nat) {α:Type} (enc:α→List V) (d:α) :
  aK C S (aM μ st.heap.length (.slice none 0 0)) ⟨st.env,st.heap++[.arr E sz enc d []]⟩ a w:=by
 have:=h.upd (id:=st.heap.length) (B:=.arr E sz enc d []) (row:=none) (u:=.slice none 0 0) (mA w) (fun k hk=>by cases hk) (KI _)
  ⟨fun i x hx=>by simp at hx,[],LW w 0 E sz,fun i x j y hx=>by simp at hx⟩ (fun b hb=>by simp[bi,aA]at hb) (.inr ⟨fun A hA=>by simp at hA,hf,hh⟩)
 rw[show bc st.heap st.heap.length (.arr E sz enc d [])=st.heap++[.arr E sz enc d []]from by simp[bc]]at this
 exact this
theorem aK.boxTo (h:aK C S μ st a w) {id:Nat} {A B:am} (hA:st.heap[id]?=some A) (RL:A.live=true) (hk:B.isArr=false∨A.isArr=true) (hB:az S μ w (μ id) B) (Oj:B.isRo=false:=by rfl):aK C S μ ⟨st.env,st.heap.set id B⟩ a w:=by
 have M5:id<st.heap.length:=(KE.1 hA).1
 have hg:∀(i:Nat) (X:am),(st.heap.set id B)[i]?=some X→(i=id∧X=B)∨st.heap[i]?=some X:=by
  intro i X hX
  by_cases hi:i=id
  ·subst hi
   rw[KY M5]at hX
   cases hX
   exact .inl ⟨rfl,rfl⟩
  ·rw[KW (fun e=>hi e.symm)]at hX
   exact .inr hX
 have hl:∀(i:Nat) (X:am),(st.heap.set id B)[i]?=some X→X.live=true→∃Y,st.heap[i]?=some Y∧Y.live=true:=by
  intro i X hX hXl
  rcases hg i X hX with ⟨rfl,rfl⟩ | hX'
  ·exact⟨A,hA,RL⟩
  ·exact⟨X,hX',hXl⟩
 refine⟨h.os,h.tape,h.output,h.size,h.old,h.mono,h.new,h.slt,h.env,⟨fun i X hX=>?_,fun i k X Y b hX hY lX lY=>?_,fun i X b hX lX=>?_⟩,fun i X b hX lX=>?_,?_,h.tsize,fun i X b hX lX=>?_⟩
 ·rcases hg i X hX with ⟨rfl,rfl⟩ | hX'
  ·exact hB
  ·exact h.heap.box i X hX'
 ·obtain⟨X',q1,q2⟩:=hl i X hX lX
  obtain⟨Y',q3,q4⟩:=hl k Y hY lY
  exact h.heap.apart i k X' Y' b q1 q3 q2 q4
 ·obtain⟨X',q1,q2⟩:=hl i X hX lX
  exact h.heap.notS i X' b q1 q2
 ·obtain⟨X',q1,q2⟩:=hl i X hX lX
  exact h.may i X' b q1 q2
 ·obtain⟨mk,d1,d2,d3⟩:=h.defers
  refine⟨mk,d1,d2,fun b hb=>?_⟩
  obtain⟨q1,q2,q3,q4⟩:=d3 b hb
  refine⟨q1,q2,q3,fun i X hX lX=>?_⟩
  obtain⟨X',q5,q6⟩:=hl i X hX lX
  exact q4 i X' q5 q6
 ·rcases hg i X hX with ⟨rfl,rfl⟩ | hX'
  ·rw[Oj]at lX;cases lX
  ·exact h.ro i X b hX' lX
theorem Ev.adopt {c:Code} (id j E sz:Nat) {α:Type} (enc:α→List V) (d:α) {I':St} (h:yj id j E sz enc d st=some I') (he:Ev C c Q I'):Ev C c Q st:=fun a w S μ hR=>by
 unfold yj at h
 split at h
 ·rename_i hc
  simp only[KD]at hc
  split at h
  ·rename_i T cs G'
   split at h
   ·rename_i hj
    simp only[KP]at h
    subst h
    have M5:id<st.heap.length:=(KE.1 G').1
    have h1:=hR.addNil hc.1 hc.2 E sz enc d
    have SJ:(st.heap++[am.arr E sz enc d []])[id]?=some (.var T cs):=by rw[KL M5];exact G'
    have hB:=h1.heap.box id _ SJ
    have h2:=h1.boxTo SJ rfl (B:=.var T (cs.set j (.own st.heap.length))) (.inl rfl) (by
     obtain⟨b,vs,e1,e2,e3,e4⟩:=hB
     refine⟨b,vs,e1,e2,by rw[LF];exact e3,fun k y x hy hx=>?_⟩
     by_cases hk:k=j
     ·subst hk
      have M6:k<cs.length:=(KE.1 hj).1
      rw[KY M6]at hy
      cases hy
      have:=e4 k _ x hj hx
      cases this
      have ho:=ah.own (S:=S) (μ:=aM μ st.heap.length (.slice none 0 0)) (w:=w) st.heap.length
      rwa [ao]at ho
     ·rw[KW (fun e=>hk e.symm)]at hy
      exact e4 k y x hy hx)
    have e3:(st.heap++[am.arr E sz enc d []]).set id (.var T (cs.set j (.own st.heap.length)))=st.heap.set id (.var T (cs.set j (.own st.heap.length)))++[am.arr E sz enc d []]:=by
     rw[List.set_append,KT M5]
    simp only at h2
    rw[e3]at h2
    exact he a w S _ h2
   ·cases h
  ·cases h
 ·cases h
theorem Ev.adoptE {c:Code} (t E sz:Nat) {α:Type} (enc:α→List V) (d:α) {I':St} (h:Proofs.Ytgmpoenfoacofaa.adoptE t E sz enc d st=some I') (he:Ev C c Q I'):Ev C c Q st:=fun a w S μ hR=>by
 unfold Proofs.Ytgmpoenfoacofaa.adoptE at h
 split at h
 ·rename_i hc
  simp only[KD]at hc
  split at h
  ·rename_i hj
   simp only[KP]at h
   subst h
   have h1:=hR.addNil hc.1.1 hc.1.2 E sz enc d
   have hv:=h1.eval (.tmp t)
   simp only[dA]at hv
   rw[hj]at hv
   obtain⟨e0,hm⟩:=rF hc.2
   refine he a w S _ ⟨h1.os,h1.tape,h1.output,h1.size,h1.old,h1.mono,h1.new,h1.slt,fun s e hs=>?_,h1.heap,h1.may,h1.defers,h1.tsize,h1.ro⟩
   rcases Lv.1 hs with hs | hs
   ·cases hs
    refine⟨(h1.env t e0 hm).1,?_⟩
    have ho:=ah.own (S:=S) (μ:=aM μ st.heap.length (.slice none 0 0)) (w:=w) st.heap.length
    rw[ao]at ho
    generalize hu:a.eval (.tmp t)=u at hv
    cases hv
    have:a.tmps.getD t undef=.slice none 0 0:=hu
    rw[this]
    exact ho
   ·exact h1.env s e (ex hs).1
  ·cases h
 ·cases h
end
abbrev qw:=List (List Bool×St)
def dQ:qw→List Bool→Option St
 | [],_=>none
 | (l,s)::r,k=>if decide (l=k)then some s else dQ r k
def GC (ops:List Oper) (ls:List Bool) (i:Nat):Bool:=!ls.getD i false&&(match ops[i]? with | some o=>o.after.toList.all (fun e=>!Region.binds .any e||ls.getD e.on false) | none=>false)
def gg (ops:List Oper) (ls:List Bool):List Nat:=(List.range ops.length).filter (GC ops ls)
def rG (s1 s2:St):St:=⟨ka (s2.env.map (·.1)) s1.env,s1.heap⟩
def tW (P:Program) (nt:Nat) (ops:List Oper) (M7:List (Nat×Ov)) (tab:qw) (ls:List Bool) (st:St) (i:Nat):Prop :=
 match ops[i]? with
 | some o=>match cG P nt ops M7 i [o] st with
  | (s1,p)=>match dQ tab (ls.set i true)with
   | some s2=>rG s1 s2=s2∧p
   | none=>False
 | none=>False
def yk (P:Program) (nt:Nat) (ops:List Oper) (M7:List (Nat×Ov)) (tab:qw) (ls:List Bool) (st:St):List Nat→Prop
 | []=>True
 | i::r=>tW P nt ops M7 tab ls st i∧yk P nt ops M7 tab ls st r
def vn (P:Program) (nt:Nat) (ops:List Oper) (M7:List (Nat×Ov)) (tab:qw) (ls:List Bool) (st:St):Prop :=
 if ls.all id then True else match gg ops ls with
  | []=>False
  | l=>yk P nt ops M7 tab ls st l
def Bk (P:Program) (nt:Nat) (ops:List Oper) (M7:List (Nat×Ov)) (tab:qw):qw→Prop
 | []=>True
 | (ls,st)::r=>vn P nt ops M7 tab ls st∧Bk P nt ops M7 tab r
theorem oT:∀{tab:qw} {k:List Bool} {s:St},dQ tab k=some s→(k,s)∈tab
 | (l,t)::r,k,s,h=>by
  unfold dQ at h
  split at h
  ·rename_i hl
   cases h
   rw[L8 hl]
   exact Lg ..
  ·exact Lc _ (oT h)
theorem rH {P:Program} {nt:Nat} {ops:List Oper} {M7:List (Nat×Ov)} {tab:qw}:∀{l:qw} {k:List Bool} {s:St},Bk P nt ops M7 tab l→(k,s)∈l→vn P nt ops M7 tab k s
 | (a,t)::r,k,s,h,hm=>by
  rcases Lv.1 hm with hm | hm
  ·cases hm;exact h.1
  ·exact rH h.2 hm
theorem mC {P:Program} {nt:Nat} {ops:List Oper} {M7:List (Nat×Ov)} {tab:qw} {ls:List Bool} {st:St}:∀{l:List Nat} {i:Nat},yk P nt ops M7 tab ls st l→i∈l→tW P nt ops M7 tab ls st i
 | a::r,i,h,hm=>by
  rcases Lv.1 hm with hm | hm
  ·cases hm;exact h.1
  ·exact mC h.2 hm
section
variable {C:jC} {st I':St} {Q:Exit→St→Prop}
def fm (ls:List Bool):Nat:=(ls.filter (!·)).length
theorem oU:∀{ls:List Bool} {i:Nat},i<ls.length→ls.getD i false=false→fm (ls.set i true)+1=fm ls
 | b::ls,0,_,h=>by
  simp at h
  subst h
  simp[fm]
 | b::ls,i+1,hi,h=>by
  have:=oU (ls:=ls) (i:=i) (by simpa using hi) (by simpa using h)
  cases b<;>simp[fm]at this ⊢<;>omega
theorem rI:∀{ls:List Bool},fm ls=0→ls.all id=true
 | [],_=>rfl
 | true::ls,h=>by simp[fm]at h ⊢;simpa using h
 | false::ls,h=>by simp[fm]at h
theorem dH:∀{ls:List Bool},ls.all id=true→ls=List.replicate ls.length true
 | [],_=>rfl
 | true::ls,h=>by
  have:=dH (ls:=ls) (by simpa using h)
  rw[K1,List.replicate_succ,← this]
 | false::ls,h=>by simp at h
theorem Ev.any {rid:Nat} {ops:List Oper} (M7:List (Nat×Ov)) (tab:qw) {Rx:St} {p:Prop} (hm:C.P.follows .mixedOrders=true) (hnd:ops.all (fun o=>!cg o)=true) (h0:dQ tab (List.replicate ops.length false)=some Rx) (hk:rG st Rx=Rx)
  (he:dQ tab (List.replicate ops.length true)=some I') (h:Bk C.P C.nt ops M7 tab tab=p) (hp:p) (hq:Q .normal I'):Ev C (.region rid ops.toArray true) Q st:=fun a w S μ hR=>by
 subst h
 have M0:ops.toArray.size=ops.length:=by simp
 have main:∀(fuel:Nat) (ls:List Bool) (C':Array Bool) (s:St) (S:Nat→Prop) (μ:Nat→Value) (a:Act) (w:World),fm ls=fuel→ls.length=ops.length→C'.size=ops.length→(∀i,C'.getD i false=ls.getD i false) →
   dQ tab ls=some s→aK C S μ s a w→wpAnyIn (jP C.rd) 0 C.P .any ops.toArray (fun e a' w'=>∃I' S' μ',Q e I'∧aK C S' μ' I' a' w') fuel C' a w:=by
  intro fuel
  induction fuel with
  | zero =>
   intro ls C' s S μ a w hf hl hls hg hs hR
   have hall:=rI hf
   have NI:=dH hall
   rw[hl]at NI
   refine⟨LX.2 (fun i hi=>?_),?_⟩
   ·obtain⟨h1,o,ho,_⟩:=(bB C' (by rw[hls,M0]) i).1 hi
    have NK:i<ops.length:=by simpa using(KQ.1 ho).1
    have hb:(List.replicate ops.length true).getD i false=true:=by simp[List.getD,LK,NK]
    rw[hg,NI,hb]at h1
    cases h1
   ·rw[NI,he]at hs
    cases hs
    exact⟨_,S,μ,hq,hR⟩
  | succ fuel ih =>
   intro ls C' s S μ a w hf hl hls hg hs hR
   have OE:=rH hp (oT hs)
   have Qs:ls.all id=false:=by
    cases hb:ls.all id
    ·rfl
    ·rw[dH hb]at hf
     simp[fm]at hf
   unfold vn at OE
   rw[KK (by rw[Qs];simp)]at OE
   have P0:∀i,i∈Region.ready .any ops.toArray C'↔i∈gg ops ls:=by
    intro i
    rw[bB C' (by rw[hls,M0]) i]
    unfold gg
    rw[Mz,LG]
    unfold GC
    constructor
    ·rintro⟨h1,o,ho,h2⟩
     have NT:ops[i]?=some o:=by simpa using ho
     refine⟨(KE.1 NT).1,?_⟩
     rw[← hg,h1,NT]
     simp only[Bool.not_false,L0,K2,Mn,Lf,K5]
     intro e he
     cases hb:Region.binds .any e
     ·exact .inl rfl
     ·exact .inr (by rw[← hg];exact h2 e he hb)
    ·rintro⟨h1,h2⟩
     rw[KD]at h2
     obtain⟨h2,h3⟩:=h2
     rw[KF h1]at h3
     refine⟨by rw[hg];simpa using h2,ops[i],by simp[KF h1],fun e he hb=>?_⟩
     simp only[K2,Mn,Lf,K5]at h3
     rcases h3 e he with h4 | h4
     ·rw[hb]at h4;cases h4
     ·rw[hg];exact h4
   have Re:∀i,i∈gg ops ls→tW C.P C.nt ops M7 tab ls s i:=by
    intro i hi
    cases hr:gg ops ls with
    | nil=>rw[hr]at hi;cases hi
    | cons j r =>
     rw[hr]at OE hi
     exact mC OE hi
   refine⟨fun Pq=>?_,fun i hi=>?_⟩
   ·exfalso
    cases hr:gg ops ls with
    | nil=>rw[hr]at OE;exact OE
    | cons j r =>
     have:j∈Region.ready .any ops.toArray C':=(P0 j).2 (by rw[hr];exact Lg ..)
     rw[Pq]at this
     cases this
   ·have hi2:=(P0 i).1 hi
    have NR:=Re i hi2
    obtain⟨NC,o,ho,_⟩:=(bB C' (by rw[hls,M0]) i).1 hi
    have NT:ops[i]?=some o:=by simpa using ho
    have M6:i<ops.length:=(KE.1 NT).1
    unfold tW at NR
    rw[NT]at NR
    simp only at NR
    generalize hsq:cG C.P C.nt ops M7 i [o] s=q at NR
    obtain⟨s1,p1⟩:=q
    simp only at NR
    split at NR
    ·rename_i s2 Pw
     obtain⟨Ou,PD⟩:=NR
     have next:∀S' μ' a' w',aK C S' μ' s1 a' w'→wpAnyIn (jP C.rd) 0 C.P .any ops.toArray (fun e a' w'=>∃I' S' μ',Q e I'∧aK C S' μ' I' a' w') fuel (C'.setIfInBounds i true) a' w':=by
      intro S' μ' a' w' Nx
      have Qt:=Nx.keep (s2.env.map (·.1))
      have e2:(⟨ka (s2.env.map (·.1)) s1.env,s1.heap⟩:St)=s2:=Ou
      rw[e2]at Qt
      refine ih (ls.set i true) (C'.setIfInBounds i true) s2 S' μ' a' w' ?_ (by simpa using hl) (by simpa using hls) ?_ Pw Qt
      ·have:=oU (ls:=ls) (i:=i) (by omega) (by rw[← hg];exact NC)
       omega
      ·intro j
       rw[aL _ _ _ (by omega)]
       split
       ·rename_i hj
        rw[hj]
        unfold List.getD
        rw[KY (show i<ls.length by omega)]
        rfl
       ·rename_i hj
        rw[hg]
        unfold List.getD
        rw[KW (by omega)]
     have hdef:cg o=false:=by
      rw[K2]at hnd
      have:=hnd o (Lb NT)
      simpa using this
     unfold cG at hsq
     unfold wpOpIn
     rw[ho]
     simp only
     split at hsq
     ·rename_i RM
      rw[KT (bJ hR RM)]
      generalize OO:l5 C.P C.nt (j8 M7 i) o s=q1 at hsq
      obtain⟨s1',p1'⟩:=q1
      simp only[cG,KJ]at hsq
      obtain⟨rfl,rfl⟩:=hsq
      exact qk hdef (kd hR OO PD.1 next)
     ·rename_i RM
      rw[KK (by rw[bJ hR RM];simp)]
      generalize OO:j9 C.nt s o.dst=q1 at hsq
      obtain⟨s1',p1'⟩:=q1
      simp only[cG,KJ]at hsq
      obtain⟨rfl,rfl⟩:=hsq
      refine⟨fun f _=>mf C.rd f,?_⟩
      unfold j9 at OO
      refine next S μ _ _ (hR.ePut OO PD.1 ?_).2
      exact .tup [] #[] rfl (fun j y u hy _=>by simp at hy)
     ·simp only[aF,KJ]at hsq
      rw[← hsq.2]at PD
      exact PD.elim
    ·exact NR.elim
 refine wpIn_region_any hm ?_
 have hR0:aK C S μ st a { w with drawn:=w.drawn+1 }:=hR.grow rfl rfl rfl (KI _) (fun _ _=>rfl) (fun b hb=>hb) (fun b hb=>.inl hb) (fun b hb=>hR.slt b hb)
 have hR1:=hR0.keep (Rx.env.map (·.1))
 have e0:(⟨ka (Rx.env.map (·.1)) st.env,st.heap⟩:St)=Rx:=hk
 rw[e0]at hR1
 refine main ops.toArray.size (List.replicate ops.length false) (Array.replicate ops.toArray.size false) Rx S μ a _ (by rw[M0];simp[fm]) (by simp) (by simp) (fun i=>by simp[Array.getD,List.getD,LK];split<;>rfl) h0 hR1
end
def rJ (id:Nat):List D→List D→Prop
 | [],[]=>True
 | .own i::cs,.own j::ds=>i=id∧j=0∧rJ id cs ds
 | c::cs,d::ds=>(scal c&&scal d)=true∧xM c d∧rJ id cs ds
 | _,_=>False
def yl (id:Nat):D→D→Prop
 | .own i,.own j=>i=id∧j=0
 | .gr i r,.gr j s=>i=id∧j=0∧r=s
 | .agg cs,.agg ds=>rJ id cs ds
 | _,_=>False
section
variable {P:Program} {C:jC} {S:Nat→Prop} {μ:Nat→Value} {st:St} {a:Act} {w:World} {Q:Exit→St→Prop}
theorem Bl {S S2:Nat→Prop} {μ μ2:Nat→Value} {w:World} {c d:D} {u:Value} (h:ah S μ w c u) (hs:(scal c&&scal d)=true) (he:xM c d):ah S2 μ2 w d u:=by
 simp only[KD]at hs
 have h2:ah S μ w d u:=mY he h
 cases d<;>first | (cases hs.2;done) | skip
 cases h2 with
 | v _ _ h=>exact .v _ _ (h.flat hs.2)
theorem tX {S S2:Nat→Prop} {μ:Nat→Value} {w:World} {id:Nat}:∀{cs ds:List D},rJ id cs ds→cs.length=ds.length∧∀(j:Nat) (c d:D) (u:Value),cs[j]?=some c→ds[j]?=some d→ah S μ w c u→ah S2 (fun _=>μ id) w d u
 | [],[],_=>⟨rfl,fun j c d u hc=>by simp at hc⟩
 | [],_::_,h=>by simp[rJ]at h
 | c::cs,[],h=>by cases c<;>simp[rJ]at h
 | c::cs,d::ds,h=>by
  have key:((c=.own id∧d=.own 0)∨((scal c&&scal d)=true∧xM c d))∧rJ id cs ds:=by
   cases c<;>first | (obtain⟨h1,h2,h3⟩:=h;exact⟨.inr ⟨h1,h2⟩,h3⟩) | skip
   rename_i i
   cases d<;>first | (obtain⟨h1,h2,h3⟩:=h;cases h1;done) | skip
   obtain⟨rfl,rfl,h3⟩:=h
   exact⟨.inl ⟨rfl,rfl⟩,h3⟩
  obtain⟨q1,q2⟩:=tX (S:=S) (S2:=S2) (μ:=μ) (w:=w) key.2
  refine⟨by simp[q1],fun j x y u hx hy hu=>?_⟩
  match j with
  | 0 =>
   simp at hx hy
   subst hx hy
   rcases key.1 with ⟨rfl,rfl⟩ | ⟨k1,k2⟩
   ·cases hu
    exact ah.own (μ:=fun _=>μ id) 0
   ·exact Bl hu k1 k2
  | j+1=>exact q2 j x y u (by simpa using hx) (by simpa using hy) hu
theorem CU {S S2:Nat→Prop} {μ:Nat→Value} {w:World} {id:Nat} {d r:D} {u:Value} (h:ah S μ w d u) (hr:yl id d r):ah S2 (fun _=>μ id) w r u:=by
 cases d<;>cases r<;>first | (simp[yl]at hr;done) | skip
 ·obtain⟨rfl,rfl⟩:=hr
  cases h
  exact ah.own (μ:=fun _=>μ _) 0
 ·obtain⟨q1,q2⟩:=tX (S:=S) (S2:=S2) (μ:=μ) (w:=w) hr
  cases h with
  | agg _ us h1 h2 =>
   refine .agg _ us (by omega) (fun j y x hy hx=>?_)
   have hj:j<us.size:=(KQ.1 hx).1
   rename_i cs ds
   have hc:cs[j]?=some cs[j]:=KF (by omega)
   exact q2 j _ y x hc hy (h2 j _ x hc hx)
 ·obtain⟨rfl,rfl,rfl⟩:=hr
  cases h with
  | gr _ _ us _ h1 h2 h3=>exact .gr 0 _ us u h1 h2 h3
theorem Ev.move {c:Code} (j i:Nat) {I':St} (h:zF j i st=some I') (he:Ev C c Q I'):Ev C c Q st:=fun a w S μ hR=>he a w S _ (hR.move h)
end
abbrev dI (k:IntKind) (n:Int):D:=.v (.int k n)
abbrev dB (b:Bool):D:=.v (.bool b)
abbrev dS (s:ByteArray):D:=.v (.str s)
abbrev dL {α:Type} (sz:Nat) (enc:α→List V) (d:α) (l:List α):D:=.v (.sl sz enc d l)
abbrev i6 (n:Int):D:=.v (.int .i64 n)
def ab (k:IntKind) (n:Int):List V:=[.int k n]
def bC (b:Bool):List V:=[.bool b]
def tc (s:ByteArray):List V:=[.str s]
abbrev LI (l:List Int):D:=.v (.sl 1 (ab .i64) 0 l)
abbrev LY (l:List Int):D:=.v (.sl 1 (ab .u8) 0 l)
abbrev LB (l:List Bool):D:=.v (.sl 1 bC false l)
def bm:Nat→Nat→List Bool
 | 0,_=>[]
 | n+1,k=>(k%2==1)::bm n (k / 2)
theorem CV {E:TypeId} {k:IntKind} {l:List Int}:lV (.arr E 1 (ab k) 0 l):=fun x _ y hy=>by simp[ab]at hy;rw[hy];rfl
theorem oK:True:=⟨⟩
abbrev sE (s:St) (p:Prop):Prop:=s=s∧p∧True
theorem Bm {x y:Int} (h:x=y) (h1:-9223372036854775808≤y) (h2:y≤9223372036854775807):IntKind.i64.wrap x=y:=by
 rw[h,IntKind.wrap_i64];omega
theorem CW {x y:Int} (h:x=y) (h1:0≤y) (h2:y≤18446744073709551615):IntKind.u64.wrap x=y:=by
 rw[h,IntKind.wrap_u64];omega
theorem J5 {x y:Int} (h:x=y) (h1:0≤y) (h2:y≤255):IntKind.u8.wrap x=y:=by
 rw[h,IntKind.wrap_u8'];omega
end Go.Proofs.Ytgmpoenfoacofaa
