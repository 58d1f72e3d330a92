/-
  Walks on pure data: Q3,rules,regions. Generic: over any program.
-/
import Derived.Test.YtcejcppjedhicaaQKa
namespace Go.Proofs.Ytcejcppjedhicaa
open Go.RowKit
set_option linter.unusedVariables false
set_option linter.unusedSimpArgs false
inductive Ov:Type 1
 | none
 | val (d:D)
 | lift (d:D)
 | box (E:TypeId) (sz:Nat) {α:Type} (enc:α→List V) (d:α) (l:List α)
 | call (q':Option (List D)) (al:Bool) (r:D)
 | callr (id:Nat) (q':List D) (r:D)
 | frz (E:TypeId) (sz:Nat) {α:Type} (enc:α→List V) (d:α) (l:List α)
 | inl (r:D) (env:List (Nat×D)) (H:List ak)
 | inls (r:D)
 | yld (b:Bool) (env:List (Nat×D)) (H:List ak)
 | idx (i:Option Nat)
 | ent (d:D)
 | callg (q':Option (List D)) (al:Bool) (r:D)
 | ownc (q':Option (List D)) (r:D) (B:ak)
 | ownd (q':Option (List D)) (r:D) (B:ak)
 | apf (E sz:Nat) {α:Type} (enc:α→List V) (d:α) (l:List α)
 | apq (E sz:Nat) {α:Type} (enc:α→List V) (d:α) (l:List α)
 | mbox (t:TypeId) (ag:Bool) {α:Type} (enc:α→List V) (d:α) (l:List (ByteArray×α))
 | app (fz:Bool) (E sz:Nat) {α:Type} (enc:α→List V) (d:α) (l:List α)
 | cells (gs:List Nat) (cell:Nat→Nat→D)
def ts (H:List ak):D→Bool
 | .agg _=>false
 | .tup _=>false
 | .junk=>false
 | .own id=>match H[id]? with | some (.arr _ _ _ _ _)=>true | some (.ro _ _ _ _ _)=>true | some (.mpb _ _ _ _ _)=>true | some (.arrD _ _ _ _ _)=>true | _=>false
 | _=>true
abbrev R2:=St×Prop
def aL (st:St):R2:=(st,False)
def Ky:D→Option V
 | .v x=>some x
 | .nils=>some (.sl 0 (α:=Unit) (fun _=>[]) () [])
 | _=>none
def yz:List D→Option (List V)
 | []=>some []
 | d::r=>match Ky d,yz r with
  | some x,some xs=>some (x::xs)
  | _,_=>none
def tu:List (List D)→Option (List (List V))
 | []=>some []
 | d::r=>match yz d,tu r with
  | some x,some xs=>some (x::xs)
  | _,_=>none
def G6:D→V→Prop
 | .v x,y=>El x y
 | .nils,.sl _ _ _ l=>l=[]
 | .nils,.nsl=>True
 | _,_=>False
def dp:List D→List V→Prop
 | [],[]=>True
 | d::ds,v::vs=>G6 d v∧dp ds vs
 | _,_=>False
def av:List (List D)→List (List V)→Prop
 | [],[]=>True
 | d::ds,v::vs=>dp d v∧av ds vs
 | _,_=>False
def nI (E sz:Nat) (L:List (List V)):Ov→ak×Prop
 | .box E' QK Qb d' l'=>if Nat.beq E E'&&Nat.beq sz QK then (.arr E sz Qb d' l',L=l'.map Qb)else (.dead,False)
 | _=>(.arr E sz (α:=Nat) (fun i=>L.getD i []) 0 (List.range L.length),True)
def newBox (st:St) (nt:Nat) (dst:Option Nat) (B:ak) (d:D) (p:Prop):R2 :=
 match dst with
 | some t=>if Nat.blt t nt&&bv st.heap.length st.env&&aY st.heap.length st.heap then (⟨sd st.env t d,st.heap++[B]⟩,p)else aL st
 | none=>aL st
def eVar (nt:Nat) (st:St) (dst:Option Nat) (T:TypeId) (cs:List D):R2 :=
 if D.freeL st.heap.length cs then newBox st nt dst (.var T cs) (.ptr st.heap.length 0 0 0) True else aL st
def eVarAt (nt:Nat) (st:St) (dst:Option Nat) (id:Nat) (T:TypeId) (cs:List D):R2 :=
 match dst with
 | some t=>if Nat.blt t nt&&(Nat.blt id st.heap.length&&(bv id st.env&&aY id st.heap))&&D.freeL id cs then (⟨sd st.env t (.ptr id 0 0 0),st.heap.set id (.var T cs)⟩,True)else aL st
 | none=>aL st
def tv (sz n i I':Nat) (new:List D) (Sy:List Nat) (cell Qg:Nat→Nat→D):Prop :=
 ∀i' j,i'<n→j<sz→Qg i' j=(if i'=i∧I'≤j∧j<I'+new.length then new.getD (j-I') .junk else cell i' j)∧∀id,Sy.all (fun g=>!(Nat.beq g id))=true→(Qg i' j).free id=true
def tx (P:Program) (st:St) (ov:Ov) (t:TypeId) (a x:D):R2 :=
 match a,i4 st.heap x with
 | .ptr id i sz I',some new =>
  if ca P t&&Nat.beq new.length (az P t)&&new.all (ts st.heap)then
   match st.heap[id]? with
   | some (.var T cs)=>if Nat.beq i 0&&Nat.ble (I'+new.length) cs.length then (⟨st.env,st.heap.set id (.var T (e9 cs new I'))⟩,True)else aL st
   | some (.arr E QK enc d l)=>match yz new with
    | some nv=>if Nat.beq sz QK&&Nat.ble (I'+nv.length) sz then
      match nI E sz ((l.map enc).set i ((enc (l.getD i d)).take I'++nv++(enc (l.getD i d)).drop (I'+nv.length))) ov with
      | (B,p)=>(⟨st.env,st.heap.set id B⟩,i<l.length∧p)
     else aL st
    | none=>aL st
   | some (.arrD E QK n _ cell)=>match ov with
    | .cells Sy Qg=>if Nat.beq sz QK&&Nat.ble (I'+new.length) sz then (⟨st.env,st.heap.set id (.arrD E sz n Sy Qg)⟩,i<n∧tv sz n i I' new Sy cell Qg)else aL st
    | _=>aL st
   | _=>aL st
  else aL st
 | _,_=>aL st
def nJ (sz n:Nat) (cells:List D):List (List D):=(List.range n).map fun i=>(cells.drop (i*sz)).take sz
def qD (P:Program) (nt:Nat) (st:St) (ov:Ov) (dst:Option Nat) (t:TypeId) (len:Nat) (P8:List (Nat×D)):R2 :=
 match P.underlying t with
 | some (.slice E)=>match ga P E with
  | some z=>if ca P E&&Nat.beq z.length (az P E)&&Nat.ble 1 (az P E)&&Nat.ble (len*az P E) 4096 then
    match f9 st.heap (fun i=>some (i*az P E,az P E)) (List.replicate len z).flatten P8 with
    | some cells=>match ov with
     | .box E' QK Qb d' l'=>if Nat.beq E E'&&Nat.beq (az P E) QK then newBox st nt dst (.arr E (az P E) Qb d' l') (.own st.heap.length) (av (nJ (az P E) len cells) (l'.map Qb))else aL st
     | .cells gs cell=>if gs.all (fun g=>Nat.blt g st.heap.length)&&cells.all (ts st.heap)then newBox st nt dst (.arrD E (az P E) len gs cell) (.own st.heap.length) (∀i j,i<len→j<az P E→cell i j=cells.getD (i*az P E+j) .junk∧∀k,gs.all (fun g=>!(Nat.beq g k))=true→(cell i j).free k=true)else aL st
     | _=>match tu (nJ (az P E) len cells)with
      | some L=>newBox st nt dst (.arr E (az P E) (α:=Nat) (fun i=>L.getD i []) 0 (List.range L.length)) (.own st.heap.length) True
      | none=>aL st
    | none=>aL st
   else aL st
  | none=>aL st
 | _=>aL st
def fb (P:Program) (t:TypeId):Nat:=((P.info? t).map (·.bytes)).getD 0
def vN (P:Program) (nt:Nat) (st:St) (ov:Ov) (dst:Option Nat) (t:TypeId) (l c:D):R2 :=
 match P.underlying t,l,c with
 | some (.slice E),.v (.int _ n),.v (.int _ m)=>match ga P E with
  | some z=>if ca P E&&Nat.beq z.length (az P E)&&Nat.ble 1 (az P E)&&Nat.ble (fb P E) 1024 then
    match ov with
    | .box E' QK Qb d' l'=>if Nat.beq E E'&&Nat.beq (az P E) QK then newBox st nt dst (.arr E (az P E) Qb d' l') (.own st.heap.length) ((0≤n∧n≤m∧m≤137438953472)∧l'.length=n.toNat∧∀x∈l',dp z (Qb x))else aL st
    | _=>aL st
   else aL st
  | none=>aL st
 | _,_,_=>aL st
def tz (H:List ak) (sz:Nat):D→Option (List (List V))
 | .v (.sl QK enc _ l)=>if Nat.beq sz QK then some (l.map enc)else none
 | .own id=>match H[id]? with
  | some (.arr _ QK enc _ l)=>if Nat.beq sz QK then some (l.map enc)else none
  | _=>none
 | .nils=>some []
 | .v .nsl=>some []
 | .v .esl=>some []
 | _=>none
def xf (P:Program) (nt:Nat) (st:St) (ov:Ov) (dst:Option Nat) (t:TypeId) (s x:D):R2 :=
 match P.underlying t with
 | some (.slice E)=>match ga P E,tz st.heap (az P E) x with
  | some z,some new=>if ca P E&&Nat.beq z.length (az P E)&&Nat.ble 1 (az P E)&&Nat.ble (fb P E) 1024 then
    match s with
    | .own id=>match st.heap[id]?,dst with
     | some (.arr E' QK enc d l),some td=>if Nat.beq E E'&&Nat.beq QK (az P E)&&Nat.blt td nt&&D.free id x then
       match nI E QK (l.map enc++new) ov with
       | (B,p)=>(⟨sd (kE id st.env) td (.own id),bh (bN id st.heap) id B⟩,l.length+new.length≤137438953472∧p)
      else aL st
     | _,_=>aL st
    | .nils=>match nI E (az P E) new ov with
     | (B,p)=>newBox st nt dst B (.own st.heap.length) (new.length≤137438953472∧p)
    | .capd (.sl QK enc _ l)=>if Nat.beq QK (az P E)then
      match nI E (az P E) (l.map enc++new) ov with
      | (B,p)=>newBox st nt dst B (.own st.heap.length) (0<new.length∧l.length+new.length≤137438953472∧p)
     else aL st
    | _=>aL st
   else aL st
  | _,_=>aL st
 | _=>aL st
def Aq (ag:Bool) (x:D):Option (List V):=if ag then (match x with | .agg ds=>yz ds | _=>none)else (Ky x).map fun v=>[v]
def xg (P:Program) (st:St) (ov:Ov) (t:TypeId) (m k x:D):R2 :=
 match P.underlying t,m,k with
 | some (.map K E),.own id,.v (.str k)=>match P.underlying K,st.heap[id]?,ov with
  | some .string,some (.mpb t' ag enc d l),.mbox t2 ag2 RS d2 l2=>match Aq ag x with
   | some vs=>if Nat.beq t t'&&Nat.beq t t2&&(ag==ag2)then (⟨st.env,st.heap.set id (.mpb t ag RS d2 l2)⟩,nA (l.map fun p=>(p.1,enc p.2)) k vs=l2.map fun p=>(p.1,RS p.2))else aL st
   | none=>aL st
  | _,_,_=>aL st
 | _,_,_=>aL st
def tA (P:Program) (nt:Nat) (st:St) (ov:Ov) (dst:Option Nat) (t:TypeId) (s x:D):R2 :=
 match P.underlying t,s,x,dst with
 | some (.slice E),.own id,.own iy,some td=>match ga P E,st.heap[id]?,st.heap[iy]?,ov with
  | some z,some (.arrD E1 sz1 n _ cell),some (.arrD _ Us m _ Wp),.cells Sy Qg =>
   if (ca P E&&Nat.beq z.length (az P E)&&Nat.ble 1 (az P E)&&Nat.ble (fb P E) 1024)&&(Nat.beq E E1&&Nat.beq sz1 (az P E)&&Nat.beq Us (az P E))&&Nat.blt td nt then
    (⟨sd (kE id st.env) td (.own id),bh (bN id st.heap) id (.arrD E (az P E) (n+m) Sy Qg)⟩,n+m≤137438953472∧∀i j,i<n+m→j<az P E→Qg i j=(if i<n then cell i j else Wp (i-n) j)∧(Qg i j).free id=true∧∀k,Sy.all (fun g=>!(Nat.beq g k))=true→(Qg i j).free k=true)
   else aL st
  | _,_,_,_=>aL st
 | _,_,_,_=>aL st
def tB (P:Program) (nt:Nat) (st:St) (ov:Ov) (dst:Option Nat) (t:TypeId) (s x:D):R2 :=
 match P.underlying t,s,dst with
 | some (.slice E),.own id,some td=>match ga P E,tz st.heap (az P E) x,st.heap[id]?,ov with
  | some z,some new,some (.arr E0 UM enc d l),.apq E' QK Qb d' l' =>
   if (ca P E&&Nat.beq z.length (az P E)&&Nat.ble 1 (az P E)&&Nat.ble (fb P E) 1024)&&(Nat.beq E E0&&Nat.beq UM (az P E)&&Nat.beq E E'&&Nat.beq QK (az P E))&&(Nat.blt td nt&&bv st.heap.length st.env&&aY st.heap.length st.heap&&(br id st.heap&&bv id (ic id (.nw st.heap.length) st.env)&&aY id (bO id (.nw st.heap.length) st.heap)))then
    (⟨sd (ic id (.nw id) st.env) td (.own id),(bO id (.nw id) st.heap).set id (.arr E QK Qb d' l')++[.dead]⟩,l.length+new.length≤137438953472∧l.map enc++new=l'.map Qb∧An UM (l.map enc) (pb id st.env++kT id st.heap))
   else aL st
  | _,_,_,_=>aL st
 | _,_,_=>aL st
def tC (P:Program) (nt:Nat) (st:St) (ov:Ov) (dst:Option Nat) (t:TypeId) (s x:D):R2 :=
 match P.underlying t,s,dst with
 | some (.slice E),.own id,some td=>match ga P E,tz st.heap (az P E) x,st.heap[id]?,ov with
  | some z,some new,some (.arr E0 UM enc d l),.apf E' QK Qb d' l' =>
   if (ca P E&&Nat.beq z.length (az P E)&&Nat.ble 1 (az P E)&&Nat.ble (fb P E) 1024)&&(Nat.beq E E0&&Nat.beq UM (az P E)&&Nat.beq E E'&&Nat.beq QK (az P E))&&(Nat.blt td nt&&bv st.heap.length st.env&&aY st.heap.length st.heap)then
    (⟨sd (ic id (.sl (.sl UM enc d l)) st.env) td (.v (.sl UM Qb d' l')),(bO id (.sl (.sl UM enc d l)) st.heap).set id .dead++[.dead]⟩,l.length+new.length≤137438953472∧l.map enc++new=l'.map Qb)
   else aL st
  | _,_,_,_=>aL st
 | _,_,_=>aL st
def ePut (nt:Nat) (st:St) (dst:Option Nat) (d:D) (p:Prop):R2 :=
 match dst with
 | some t=>if Nat.blt t nt then (⟨sd st.env t d,st.heap⟩,p)else aL st
 | none=>(st,p)
def BV (P:Program) (nt:Nat) (st:St) (dst:Option Nat) (t:TypeId) (x ix:D) (i:Option Nat):R2 :=
 match P.underlying t,x,ix with
 | some (.map K E),.v (.mp es),.v (.int k n)=>match P.underlying K,k with
  | some (.int .i64),.i64=>match i with
   | some j=>match es[j]? with
    | some e=>ePut nt st dst (.tup [D.ofVal e.2,.v (.bool true)]) (n=e.1∧∀e'∈es.take j,n≠e'.1)
    | none=>aL st
   | none=>match (P.info? E).bind (·.zero)with
    | some z=>ePut nt st dst (.tup [D.ofVal z,.v (.bool false)]) (∀e'∈es,n≠e'.1)
    | none=>aL st
  | _,_=>aL st
 | _,_,_=>aL st
def KO (P:Program) (nt:Nat) (st:St) (dst:Option Nat) (t:TypeId) (x ix:D) (d:D):R2 :=
 match P.underlying t,x,ix with
 | some (.map K E),.v (.mp es),.v (.int k n)=>match P.underlying K,k with
  | some (.int .i64),.i64=>ePut nt st dst (.tup [d,.v (.bool true)]) (∃(j:Nat) (e:Int×Value),es[j]?=some e∧n=e.1∧(∀e'∈es.take j,n≠e'.1)∧qp (D.ofVal e.2) d)
  | _,_=>aL st
 | _,_,_=>aL st
def gi (P:Program) (f:FuncId):Bool:=match P.funcs[f]? with
 | some fn=>!(fn.name == "runtime.NumGoroutine")&&!fn.body.isNone
 | none=>false
def oz:Option ak→Bool
 | some .dead=>true
 | _=>false
def KP (P:Program) (fn:Func) (r:D) (H:List ak):Exit→St→Prop
 | .normal,st=>gg P fn st∧qp (gO P fn st) r∧st.heap.take H.length=H
 | .ret,st=>gg P fn st∧qp (gO P fn st) r∧st.heap.take H.length=H
 | _,_=>False
def gj (P:Program) (g:FuncId) (ds:List D) (H:List ak) (r:D) (H':List ak):Prop :=
 ∃fn c,P.funcs[g]?=some fn∧fn.body=some c∧Nat.ble ds.length fn.ntmps=true ∧
  ∀C:jB,C.P=P→C.nt=fn.ntmps→C.rd=none→Ev C c (KP P fn r H') ⟨ii 0 ds,H⟩
def ph:Exit→LoopState
 | .normal=>.ready
 | _=>.done
def sH:Exit→Option Code
 | .ret=>some .ret
 | .exit i=>some (.exit i)
 | _=>none
def Ar:Exit→Option Bool
 | .normal=>some true
 | .ret=>some false
 | .exit _=>some false
 | _=>none
def xh (id l:Nat) (b:Bool) (H:List ak) (e:Exit) (st:St):Prop :=
 match st.heap[id]? with
 | some (.loop l' tm nt env ps q' bd _ _)=>l'=l∧Ar e=some b∧(st.heap.set id (.loop l' tm nt env ps q' bd (ph e) (sH e))).take H.length=H
 | _=>False
def Au (C:jB) (body:Code) (id l:Nat) (b:Bool) (H:List ak):Exit→St→Prop
 | .normal,st=>match st.heap[id]? with
  | some (.loop l' tm nt env ps q' bd .ready none)=>l'=l∧Ev C body (xh id l b H) ⟨st.env,st.heap.set id (.loop l' tm nt env ps q' bd .busy none)⟩
  | _=>False
 | _,_=>False
def pi (P:Program) (l nt:Nat) (assign body:Code) (st:St) (id:Nat) (b:Bool) (H:List ak):Prop :=
 ∀C:jB,C.P=P→C.nt=nt→C.rd=some l→Ev C assign (Au C body id l b H) st
def BW:List Nat→List D→List (Nat×D)→List (Nat×D)
 | p::ps,d::ds,env=>BW ps ds (sd env p d)
 | _,_,env=>env
def EG (P:Program) (nt:Nat) (st:St) (dst:Option Nat) (g:FuncId) (ds:List D) (r:D) (env:List (Nat×D)) (H:List ak):R2 :=
 if gi P g&&bv st.heap.length st.env&&aY st.heap.length st.heap&&oz H[st.heap.length]? then
  ePut nt ⟨env,H⟩ dst r (∀tm:Array Value,gj P g ds (st.heap++[.frame tm st.env]) r (H.set st.heap.length (.frame tm env)))
 else aL st
def G7 (P:Program) (g:FuncId) (ds:List D) (H:List ak) (env:List (Nat×D)) (r:D):Prop:=∀tm:Array Value,gj P g ds (H++[.frame tm env]) r (H++[.frame tm env])
def EH (P:Program) (nt:Nat) (st:St) (dst:Option Nat) (g:FuncId) (ds:List D) (r:D):R2 :=
 if gi P g&&bv st.heap.length st.env&&aY st.heap.length st.heap then ePut nt ⟨st.env,st.heap++[.dead]⟩ dst r (G7 P g ds st.heap st.env r)else aL st
theorem EI {P:Program} {nt:Nat} {st J':St} {dst:Option Nat} {g:FuncId} {ds:List D} {r:D} {p:Prop} (h:EH P nt st dst g ds r=(J',p)) (hp:p) :
  ∃p',EG P nt st dst g ds r st.env (st.heap++[.dead])=(J',p')∧p':=by
 unfold EH at h
 unfold EG
 have hd:oz (st.heap++[ak.dead])[st.heap.length]?=true:=by simp[oz]
 have hs:∀B,(st.heap++[ak.dead]).set st.heap.length B=st.heap++[B]:=by intro B;simp
 split at h
 ·rename_i hc
  rw[NT (by rw[hc,hd];rfl)]
  unfold ePut at h ⊢
  cases dst with
  | none =>
   simp only[NS]at h
   obtain⟨rfl,rfl⟩:=h
   exact⟨_,rfl,fun tm=>by rw[hs];exact hp _⟩
  | some t =>
   simp only at h ⊢
   split at h
   ·rename_i ht
    simp only[NS]at h
    obtain⟨rfl,rfl⟩:=h
    rw[NT ht]
    exact⟨_,rfl,fun tm=>by rw[hs];exact hp _⟩
   ·simp only[aL,NS]at h
    obtain⟨_,rfl⟩:=h
    exact hp.elim
 ·simp only[aL,NS]at h
  obtain⟨_,rfl⟩:=h
  exact hp.elim
def Av (P:Program) (nt:Nat) (st:St) (dst:Option Nat) (id:Nat) (ds:List D) (b:Bool) (env:List (Nat×D)) (H:List ak):R2 :=
 match st.heap[id]? with
 | some (.loop l tm VE Vf ps q' body .ready none) =>
  if bv st.heap.length st.env&&aY st.heap.length st.heap&&oz H[st.heap.length]?&&Nat.beq ps.length ds.length&&ps.all (fun p=>Nat.blt p VE)then
   ePut nt ⟨env,H⟩ dst (.v (.bool b)) (∀tmF:Array Value,pi P l VE q' body ⟨BW ps ds Vf,st.heap++[.frame tmF st.env]⟩ id b (H.set st.heap.length (.frame tmF env)))
  else aL st
 | _=>aL st
def EJ (P:Program) (nt:Nat) (st:St) (ov:Ov) (dst:Option Nat) (f:D) (ds:List D):R2 :=
 match f with
 | .fn (.func g) first cap=>match ov with
  | .call q' al r=>if gi P g&&ed r&&(!al||fa (first++ds++cap))then
    ePut nt st dst r (oo P g st.heap (first++ds++cap) q' al r)
   else aL st
  | .callr id q' r=>if gi P g&&ed r then ePut nt st dst r (jJ P g st.heap (first++ds++cap) id q' r)else aL st
  | .callg q' al r=>if ed r&&(!al||fa (first++ds++cap))then
    ePut nt st dst r (gi P g=true∧oo P g st.heap (first++ds++cap) q' al r)
   else aL st
  | .inl r env H=>EG P nt st dst g (first++ds++cap) r env H
  | .inls r=>EH P nt st dst g (first++ds++cap) r
  | .ownc q' r B=>if gi P g&&Ao r&&bv st.heap.length st.env&&aY st.heap.length st.heap then
    ePut nt ⟨st.env,st.heap++[B]⟩ dst (r.up st.heap.length) (xe P g st.heap (first++ds++cap) q' r B)
   else aL st
  | .ownd q' r B=>if gi P g&&(Ao r&&(B.isOwn&&fa (first++ds++cap)))&&bv st.heap.length st.env&&aY st.heap.length st.heap then
    ePut nt ⟨st.env,st.heap++[B]⟩ dst (r.up st.heap.length) (sG P g st.heap (first++ds++cap) q' r B)
   else aL st
  | _=>aL st
 | .yld id=>match ov with
  | .yld b env H=>Av P nt st dst id ds b env H
  | _=>aL st
 | _=>aL st
def tD (nt:Nat) (st:St) (ov:Ov) (dst:Option Nat) (r:R1):R2 :=
 match ov with
 | .val d'=>ePut nt st dst d' (r.2∧qp r.1 d')
 | .lift d'=>ePut nt st dst d' (r.2∧vu r.1 d')
 | _=>ePut nt st dst r.1 r.2
def nM (P:Program) (nt:Nat) (ov:Ov) (o:Oper) (st:St):R2 :=
 match o.op with
 | .alloc T=>match ga P T with
  | some z=>(match ov with | .idx (some id)=>eVarAt nt st o.dst id T z | _=>eVar nt st o.dst T z)
  | none=>aL st
 | .box T x=>match i4 st.heap (dW st.env x)with
  | some cs=>eVar nt st o.dst T cs
  | none=>aL st
 | .store t a x=>match o.dst with
  | none=>tx P st ov t (dW st.env a) (dW st.env x)
  | some _=>aL st
 | .buildSlice t len P8=>match ov with
  | .frz E sz enc d l=>match qD P nt st (.box E sz enc d l) o.dst t len (P8.toList.map fun p=>(p.1,dW st.env p.2))with
   | (QR,p)=>match mi st.heap.length QR with
    | some Uq=>(Uq,p)
    | none=>aL st
  | _=>qD P nt st ov o.dst t len (P8.toList.map fun p=>(p.1,dW st.env p.2))
 | .makeSlice t l c=>match ov with
  | .frz E sz enc d l'=>match vN P nt st (.box E sz enc d l') o.dst t (dW st.env l) (dW st.env c)with
   | (QR,p)=>match mi st.heap.length QR with
    | some Uq=>(Uq,p)
    | none=>aL st
  | _=>vN P nt st ov o.dst t (dW st.env l) (dW st.env c)
 | .call ⟨.builtin .append,args,Tz⟩=>match args.toList,Tz.toList with
  | [s,x],[t,t']=>if Nat.beq t t' then (match ov with | .apf _ _ _ _ _=>tC P nt st ov o.dst t (dW st.env s) (dW st.env x) | .cells _ _=>tA P nt st ov o.dst t (dW st.env s) (dW st.env x) | .apq _ _ _ _ _=>tB P nt st ov o.dst t (dW st.env s) (dW st.env x) | _=>xf P nt st ov o.dst t (dW st.env s) (dW st.env x))else aL st
  | _,_=>aL st
 | .call ⟨.value f,args,_⟩=>EJ P nt st ov o.dst (dW st.env f) (args.toList.map (dW st.env))
 | .lookup t x ix true=>match ov with
  | .idx i=>BV P nt st o.dst t (dW st.env x) (dW st.env ix) i
  | .ent d=>KO P nt st o.dst t (dW st.env x) (dW st.env ix) d
  | _=>tD nt st ov o.dst (fA P st.heap (dW st.env) o.op)
 | .makeMap t none=>match ov with
  | .mbox t' ag enc d _=>if Nat.beq t t' then newBox st nt o.dst (.mpb t ag enc d []) (.own st.heap.length) True else aL st
  | _=>aL st
 | .mapUpdate t m k x=>match o.dst with
  | none=>xg P st ov t (dW st.env m) (dW st.env k) (dW st.env x)
  | some _=>aL st
 | op=>tD nt st ov o.dst (fA P st.heap (dW st.env) op)
section
variable {C:jB} {S:Nat→Prop} {μ:Nat→Value} {st J':St} {a:Act} {w w':World} {p:Prop}
theorem aU.newBox (h:aU C S μ st a w) {dst:Option Nat} {B:ak} {d:D} {q:Prop} (hp:newBox st C.nt dst B d q=(J',p)) (D':p) (hg:w.grownBy w' none) {u:Value}
  (G':aG S (aO μ st.heap.length u) w' u B) (Qd:∀b,bu u b→w.heap.size≤b) {v:Value} (hv:ai S (aO μ st.heap.length u) w' d v) (Rc:B.isRo=false:=by rfl) :
  q∧aU C S (aO μ st.heap.length u) J' (a.put dst v) w':=by
 unfold Proofs.Ytcejcppjedhicaa.newBox at hp
 split at hp
 ·split at hp
  ·rename_i t hc
   simp only[NK,PA]at hc
   simp only[NS]at hp
   obtain⟨rfl,rfl⟩:=hp
   refine⟨D',?_⟩
   have:=(h.upd (id:=st.heap.length) (B:=B) (u:=u) hg (fun k hk=>by cases hk) (NN _) G' (fun b hb=>.inr (Qd b hb)) (.inr ⟨fun A hA=>by simp at hA,hc.1.2,hc.2⟩) Rc).put hc.1.1 hv
   rw[show bh st.heap st.heap.length B=st.heap++[B]from by simp[bh]]at this
   exact this
  ·simp only[aL,NS]at hp
   rw[← hp.2]at D'
   exact D'.elim
 ·simp only[aL,NS]at hp
  rw[← hp.2]at D'
  exact D'.elim
theorem aU.eVar (h:aU C S μ st a w) {dst:Option Nat} {T:TypeId} {cs:List D} {vs:Array Value} (hp:eVar C.nt st dst T cs=(J',p)) (D':p) (hr:aK S μ w cs vs) :
  aU C S (aO μ st.heap.length (.pointer (some ⟨w.heap.size,0,none⟩))) J' (a.put dst (.pointer (some ⟨w.heap.size,0,none⟩))) (w.alloc (.cells vs T)):=by
 unfold Proofs.Ytcejcppjedhicaa.eVar at hp
 split at hp
 ·rename_i hf
  have hg:=O2 w (.cells vs T) none
  refine(h.newBox hp D' hg ⟨w.heap.size,vs,rfl,OM w _,hr.1,fun j y x hy hx=>?_⟩ (fun b hb=>by simp[bu,aF]at hb;omega) ?_).2
  ·refine(hr.2 j y x hy hx).stable (fun _ h _=>h) (fun b _ hb=>hg.block b hb (by simp)) hg.size (fun id Qh=>?_)
   refine aA _ _ (fun e=>?_)
   rw[e,D.freeL_get hf hy]at Qh
   cases Qh
  ·have:=ai.ptr (S:=S) (μ:=aO μ st.heap.length (.pointer (some ⟨w.heap.size,0,none⟩))) (w:=w.alloc (.cells vs T)) st.heap.length 0 0 0 w.heap.size (by rw[ar];rfl)
   simpa using this
 ·simp only[aL,NS]at hp
  rw[← hp.2]at D'
  exact D'.elim
theorem aU.eVarAt (h:aU C S μ st a w) {dst:Option Nat} {id:Nat} {T:TypeId} {cs:List D} {vs:Array Value} (hp:eVarAt C.nt st dst id T cs=(J',p)) (D':p) (hr:aK S μ w cs vs) :
  aU C S (aO μ id (.pointer (some ⟨w.heap.size,0,none⟩))) J' (a.put dst (.pointer (some ⟨w.heap.size,0,none⟩))) (w.alloc (.cells vs T)):=by
 unfold Proofs.Ytcejcppjedhicaa.eVarAt at hp
 split at hp
 ·rename_i t
  split at hp
  ·rename_i hc
   simp only[NK,PA]at hc
   obtain⟨⟨RH,TM,hc3,hc4⟩,hf⟩:=hc
   simp only[NS]at hp
   obtain⟨rfl,rfl⟩:=hp
   have hg:=O2 w (.cells vs T) none
   have h1:=h.upd0 (id:=id) (B:=.var T cs) (u:=.pointer (some ⟨w.heap.size,0,none⟩)) hg (fun k hk=>by cases hk) (Nat.le_of_lt TM) ⟨w.heap.size,vs,rfl,OM w _,hr.1,fun j y x hy hx=>by
    refine(hr.2 j y x hy hx).stable (fun _ h _=>h) (fun b _ hb=>hg.block b hb (by simp)) hg.size (fun id' Qh=>?_)
    refine aA _ _ (fun e=>?_)
    rw[e,D.freeL_get hf hy]at Qh
    cases Qh⟩ (fun b hb=>by simp[bu,aF]at hb;omega) (.inr ⟨hc3,hc4⟩)
   have h2:=h1.put RH (d:=.ptr id 0 0 0) (u:=.pointer (some ⟨w.heap.size,0,none⟩)) (by
    have:=ai.ptr (S:=S) (μ:=aO μ id (.pointer (some ⟨w.heap.size,0,none⟩))) (w:=w.alloc (.cells vs T)) id 0 0 0 w.heap.size (by rw[ar];rfl)
    simpa using this)
   rw[show bh st.heap id (.var T cs)=st.heap.set id (.var T cs)from by
    unfold bh
    rw[NQ (by intro hh;rw[N2]at hh;omega)]]at h2
   exact h2
  ·simp only[aL,NS]at hp
   rw[← hp.2]at D'
   exact D'.elim
 ·simp only[aL,NS]at hp
  rw[← hp.2]at D'
  exact D'.elim
theorem kY:∀{ds:List D} {xs:List V},yz ds=some xs→ds.length=xs.length∧∀(j:Nat) (x:V),xs[j]?=some x→∃d,ds[j]?=some d∧Ky d=some x
 | [],xs,h=>by
  simp only[yz,NW]at h
  subst h
  exact⟨rfl,fun j x hx=>by simp at hx⟩
 | d::r,xs,h=>by
  unfold yz at h
  split at h
  ·rename_i y ys hy hys
   simp only[NW]at h
   subst h
   obtain⟨h1,h2⟩:=kY hys
   refine⟨by simp[h1],fun j x hx=>?_⟩
   cases j with
   | zero=>simp at hx;subst hx;exact⟨d,rfl,hy⟩
   | succ j=>simpa using h2 j x (by simpa using hx)
  ·cases h
theorem sI {d:D} {x:V} {u:Value} (h:Ky d=some x) (hd:ai S μ w d u):cz S w x u:=by
 unfold Ky at h
 split at h
 ·cases h;exact bg hd
 ·cases h
  cases hd
  exact .nil _ _ _ _ _ (by simp[maxLen]) (fun _=>rfl)
 ·cases h
theorem kZ {d:D} {x:V} {u:Value} (h:G6 d x) (hd:ai S μ w d u):cz S w x u:=by
 unfold G6 at h
 split at h
 ·exact o7 h (bg hd)
 ·subst h
  cases hd
  exact .nil _ _ _ _ _ (by simp[maxLen]) (fun _=>rfl)
 ·cases hd
  exact .nsl
 ·exact h.elim
theorem eK:∀{ds:List D} {xs:List V},dp ds xs→ds.length=xs.length∧∀(j:Nat) (x:V),xs[j]?=some x→∃d,ds[j]?=some d∧G6 d x
 | [],[],_=>⟨rfl,fun j x hx=>by simp at hx⟩
 | [],_::_,h=>h.elim
 | _::_,[],h=>h.elim
 | d::r,y::ys,h=>by
  obtain⟨h1,h2⟩:=eK h.2
  refine⟨by simp[h1],fun j x hx=>?_⟩
  cases j with
  | zero=>simp at hx;subst hx;exact⟨d,rfl,h.1⟩
  | succ j=>simpa using h2 j x (by simpa using hx)
theorem jK:∀{ds:List (List D)} {xs:List (List V)},av ds xs→ds.length=xs.length∧∀(j:Nat) (x:List V),xs[j]?=some x→∃d,ds[j]?=some d∧dp d x
 | [],[],_=>⟨rfl,fun j x hx=>by simp at hx⟩
 | [],_::_,h=>h.elim
 | _::_,[],h=>h.elim
 | d::r,y::ys,h=>by
  obtain⟨h1,h2⟩:=jK h.2
  refine⟨by simp[h1],fun j x hx=>?_⟩
  cases j with
  | zero=>simp at hx;subst hx;exact⟨d,rfl,h.1⟩
  | succ j=>simpa using h2 j x (by simpa using hx)
theorem tE:∀{ds:List (List D)} {xs:List (List V)},tu ds=some xs→ds.length=xs.length∧∀(j:Nat) (x:List V),xs[j]?=some x→∃d,ds[j]?=some d∧yz d=some x
 | [],xs,h=>by
  simp only[tu,NW]at h
  subst h
  exact⟨rfl,fun j x hx=>by simp at hx⟩
 | d::r,xs,h=>by
  unfold tu at h
  split at h
  ·rename_i y ys hy hys
   simp only[NW]at h
   subst h
   obtain⟨h1,h2⟩:=tE hys
   refine⟨by simp[h1],fun j x hx=>?_⟩
   cases j with
   | zero=>simp at hx;subst hx;exact⟨d,rfl,hy⟩
   | succ j=>simpa using h2 j x (by simpa using hx)
  ·cases h
def dK (S:Nat→Prop) (w:World) (E sz:Nat) (L:List (List V)) (u:Value):Prop :=
 (∀(i:Nat) (x:List V),L[i]?=some x→x.length=sz)∧∃xs,w.ownsRow 0 E sz u L.length xs∧∀(i:Nat) (x:List V) (j:Nat) (y:V),L[i]?=some x→x[j]?=some y→∃z,xs[i*sz+j]?=some z∧cz S w y z
theorem dK.box {E sz:Nat} {L:List (List V)} {u:Value} (h:dK S w E sz L u) {α:Type} {enc:α→List V} {d:α} {l:List α} (he:L=l.map enc):aG S μ w u (.arr E sz enc d l):=by
 subst he
 obtain⟨h0,xs,h1,h2⟩:=h
 exact⟨fun i x hx=>h0 i _ (sB hx),xs,by simpa using h1,fun i x j y hx hy=>h2 i _ j y (sB hx) hy⟩
theorem dK.of {E sz:Nat} {u:Value} {α:Type} {enc:α→List V} {d:α} {l:List α} (h:aG S μ w u (.arr E sz enc d l)):dK S w E sz (l.map enc) u:=by
 obtain⟨h0,xs,h1,h2⟩:=h
 refine⟨fun i x hx=>?_,xs,by simpa using h1,fun i x j y hx hy=>?_⟩
 ·obtain⟨z,hz,rfl⟩:=dg hx
  exact h0 i z hz
 ·obtain⟨z,hz,rfl⟩:=dg hx
  exact h2 i z j y hz hy
theorem vO (L:List (List V)):(List.range L.length).map (fun i=>L.getD i [])=L:=by
 refine Pj (by simp) (fun i h1 h2=>?_)
 simp[List.getD,h2]
theorem mm {E sz:Nat} {L:List (List V)} {ov:Ov} {B:ak} {q:Prop} {u:Value} (h:nI E sz L ov=(B,q)) (hq:q) (hb:dK S w E sz L u):aG S μ w u B∧B.isArr=true:=by
 unfold nI at h
 split at h
 ·split at h
  ·rename_i hc
   simp only[NS]at h
   obtain⟨rfl,rfl⟩:=h
   exact⟨hb.box hq,rfl⟩
  ·cases h;exact hq.elim
 ·cases h;exact⟨hb.box (vO L).symm,rfl⟩
theorem EK {H:List ak} (hH:a9 S μ w H) {d:D} {u:Value} (h:ts H d=true) (hd:ai S μ w d u):u.oneCell'=true:=by
 cases hd with
 | v x u h=>exact h.one
 | nils=>rfl
 | own id =>
  unfold ts at h
  simp only at h
  split at h
  ·rename_i E sz α enc d l hb
   obtain⟨p,c,hu,_⟩:=bK (hH.box id _ hb)
   rw[hu]
   rfl
  ·rename_i E sz α enc d l hb
   obtain⟨p,c,hu,_⟩:=bK (hH.box id _ hb).ro_arr
   rw[hu]
   rfl
  ·rename_i t ag α enc d l hb
   obtain⟨b,arr,clock,hu,_⟩:=hH.box id _ hb
   rw[hu]
   rfl
  ·rename_i E sz m gs cell hb
   obtain⟨p,c,hu,_⟩:=eH (hH.box id _ hb)
   rw[hu]
   rfl
  ·cases h
 | ptr=>rfl
 | capd=>rfl
 | gr _ _ _ _ _ _ h=>exact h
 | preA=>rfl
 | preB _ _ _ _ _ _ _ h=>exact h.one
 | iptr=>rfl
 | agg=>cases h
 | tup=>cases h
 | fn=>rfl
 | yld=>rfl
 | junk=>cases h
theorem BX {H:List ak} (hH:a9 S μ w H) {cs:List D} {us:Array Value} (hr:aK S μ w cs us) (hall:cs.all (ts H)=true):∀z∈us.toList,z.oneCell'=true:=by
 intro z hz
 obtain⟨j,hj,e⟩:=PQ hz
 have Ur:j<us.size:=by simpa using hj
 have hc:j<cs.length:=by have:=hr.1;omega
 rw[Oa]at hall
 exact EK hH (hall _ (Pq hc)) (hr.2 j cs[j] z (NM hc) (by rw[← e];simp[Ur]))
end
section
variable {C:jB} {S:Nat→Prop} {μ:Nat→Value} {st J':St} {a:Act} {w w':World} {p:Prop}
theorem dM (w:World) (g:Nat) (cs:Array Value):w.grownBy (w.setRow g cs) (some g) :=
 ⟨rfl,rfl,rfl,by simp[World.setRow],fun k _ hk=>setRow_other w g k _ (fun e=>hk (by rw[e]))⟩
theorem du (μ:Nat→Value) (id:Nat):aO μ id (μ id)=μ:=by
 funext i
 unfold aO
 split
 ·rename_i h;rw[h]
 ·rfl
theorem gk {α:Type _} (cs new:List α) (I' j:Nat) (ho:I'+new.length≤cs.length) :
  (cs.take I'++new++cs.drop (I'+new.length))[j]?=if I'≤j∧j<I'+new.length then new[j-I']? else cs[j]?:=by
 by_cases hc:I'≤j∧j<I'+new.length
 ·rw[NT hc,NU (by simp;omega),NX (by simp;omega)]
  congr 1
  simp
  omega
 ·rw[NQ hc]
  by_cases hj:j<I'
  ·rw[NU (by simp;omega),NU (by simp;omega),Ob,NT hj]
  ·rw[NX (by simp;omega),O6]
   simp only[NY,N3]
   rw[show I'+new.length+(j-(min I' cs.length+new.length))=j from by omega]
theorem pj (h:aU C S μ st a w) {ov:Ov} {t:TypeId} {ad x:D} {uad ux:Value} (had:ai S μ w ad uad) (hx:ai S μ w x ux) (hp:tx C.P st ov t ad x=(J',p)) (D':p) :
  ∃w',(Instr.storeAt t uad ux).run C.P w=.ok () w'∧aU C S μ J' a w':=by
 unfold tx at hp
 split at hp
 ·rename_i id i sz I' new Qv
  split at hp
  ·rename_i hc
   simp only[NK,N2]at hc
   obtain⟨⟨hk,hl⟩,Sf⟩:=hc
   obtain⟨b,hb,rfl⟩:=md had
   have QV:=gL h.heap hx Qv
   have Uu:=BX h.heap QV Sf
   have Qp:∀(Qz:Array Value) (T:TypeId),w.heap[b]?=some (.cells Qz T (0,0))→i*sz+I'+new.length≤Qz.size →
     (Instr.storeAt t (.pointer (some ⟨b,i*sz+I',none⟩)) ux).run C.P w=.ok () (w.setRow b (Qz.toList.take (i*sz+I')++ux.cells.toList++Qz.toList.drop (i*sz+I'+ux.cells.toList.length)).toArray):=by
    intro Qz T Sh Tb
    have QU:=run_storeCells_at C.P b (i*sz+I') T ux.cells.toList 0 Qz w Sh (by simp[QV.1];exact Tb) Uu
    simp only[Ph]at QU
    simp only[Instr.storeAt,Instr.sureAddr,NP,N6,NO]
    unfold storeVar
    simp only[NP,dm hk,NO]
    rw[NQ (by rw[QV.1,hl];simp)]
    exact QU
   split at hp
   ·rename_i T cs G'
    split at hp
    ·rename_i hc
     simp only[NK,N2,OY]at hc
     obtain⟨rfl,Tb⟩:=hc
     simp only[NS]at hp
     obtain⟨rfl,_⟩:=hp
     obtain⟨b',vs,hm,q1,q2,q3⟩:=h.heap.box id _ G'
     have hbb:b'=b:=by rw[hm]at hb;simpa[bu,aF]using hb
     subst hbb
     refine⟨_,Qp vs T q1 (by omega),?_⟩
     simp only[Nat.zero_mul,OA]
     have Qh:id<st.heap.length:=(NL.1 G').1
     have hu:=h.upd (id:=id) (u:=μ id) (B:=.var T (e9 cs new I')) (row:=some b') (dM w b' (vs.toList.take I'++ux.cells.toList++vs.toList.drop (I'+ux.cells.toList.length)).toArray)
      (fun k hk=>⟨_,G',rfl,by cases hk;exact .inl hb⟩) (by omega) ?_ (fun k hk=>.inl (hk.one hb)) (.inl ⟨rfl,.inl rfl⟩)
     ·rw[du]at hu
      have he:bh st.heap id (.var T (e9 cs new I'))=st.heap.set id (.var T (e9 cs new I')):=by
       unfold bh
       rw[NQ (by rw[N2];omega)]
      rwa [he]at hu
     ·rw[du]
      refine⟨b',_,hm,setRow_heap w b' vs _ T (0,0) q1,?_,fun j y z hy hz=>?_⟩
      ·have:=QV.1
       simp only[Pl,NY,N3,N9,Py,e9]
       omega
      ·have Qk:=QV.1
       simp only[Pc]at hz
       rw[gk _ _ _ _ (by simp;omega)]at hz
       unfold e9 at hy
       rw[gk _ _ _ _ Tb]at hy
       have hS:∀k,S k→k<w.heap.size→(w.setRow b' (vs.toList.take I'++ux.cells.toList++vs.toList.drop (I'+ux.cells.toList.length)).toArray).heap[k]?=w.heap[k]?:=fun k hk _ =>
        setRow_other w b' k _ (fun e=>h.heap.notS id _ b' G' rfl (.inl hb) (e ▸ hk))
       have VF:w.heap.size≤(w.setRow b' (vs.toList.take I'++ux.cells.toList++vs.toList.drop (I'+ux.cells.toList.length)).toArray).heap.size:=by simp[World.setRow]
       by_cases hcj:I'≤j∧j<I'+new.length
       ·rw[NT hcj]at hy
        rw[NT (by simp;omega)]at hz
        exact(QV.2 _ _ _ hy (by simpa using hz)).stable (fun _ h _=>h) hS VF (fun _ _=>rfl)
       ·rw[NQ hcj]at hy
        rw[NQ (by simp;omega)]at hz
        exact(q3 _ _ _ hy (by simpa using hz)).stable (fun _ h _=>h) hS VF (fun _ _=>rfl)
    ·cases hp;exact D'.elim
   ·rename_i E QK α enc d l G'
    split at hp
    ·rename_i nv hnv
     split at hp
     ·rename_i hc
      simp only[NK,N2,OY]at hc
      obtain⟨rfl,Tb⟩:=hc
      generalize hq:nI E sz ((l.map enc).set i ((enc (l.getD i d)).take I'++nv++(enc (l.getD i d)).drop (I'+nv.length))) ov=q at hp
      obtain⟨B,q⟩:=q
      simp only[NS]at hp
      obtain⟨rfl,rfl⟩:=hp
      obtain⟨hi,VW⟩:=D'
      obtain⟨r0,xs,r1,r2⟩:=h.heap.box id _ G'
      have hnvl:=(kY hnv).1
      have Wi:l[i]?=some (l.getD i d):=by rw[cO _ _ hi];exact NM hi
      have VC:=r0 i _ Wi
      have VX:(i+1)*sz≤l.length*sz:=N8 _ hi
      rw[O0]at VX
      obtain⟨g,cap,Qz,hm,-,hh,hn,ST,hcs,Tp⟩:∃g cap Qz,μ id=.slice (some ⟨g,0,none⟩) l.length cap∧0≤g∧w.heap[g]?=some (.cells Qz E (0,0))∧l.length≤cap∧cap≤maxLen∧Qz.size=cap*sz∧Qz.toList.take (l.length*sz)=xs:=by
       rcases r1.2 with ⟨_,h0⟩ | h1
       ·omega
       ·exact h1
      have hgb:g=b:=by rw[hm]at hb;simpa[bu,aF]using hb
      subst hgb
      have T5:l.length*sz≤cap*sz:=N8 _ hn
      refine⟨_,Qp Qz E hh (by omega),?_⟩
      have Qh:id<st.heap.length:=(NL.1 G').1
      have Qk:=QV.1
      have hfit':i*sz+I'+new.length≤Qz.size:=by omega
      generalize QA:(Qz.toList.take (i*sz+I')++ux.cells.toList++Qz.toList.drop (i*sz+I'+ux.cells.toList.length))=row
      have R0:∀j,row[j]?=if i*sz+I'≤j∧j<i*sz+I'+new.length then ux.cells[j-(i*sz+I')]? else Qz[j]?:=by
       intro j
       rw[← QA,gk _ _ _ _ (by simp;omega)]
       simp[Qk]
      have R3:row.length=Qz.size:=by
       rw[← QA]
       simp only[NY,N3,N9,Py]
       omega
      have hS:∀k,S k→k<w.heap.size→(w.setRow g row.toArray).heap[k]?=w.heap[k]?:=fun k hk _ =>
       setRow_other w g k _ (fun e=>h.heap.notS id _ g G' rfl (.inl hb) (e ▸ hk))
      have VF:w.heap.size≤(w.setRow g row.toArray).heap.size:=by simp[World.setRow]
      have hA:dK S (w.setRow g row.toArray) E sz ((l.map enc).set i ((enc (l.getD i d)).take I'++nv++(enc (l.getD i d)).drop (I'+nv.length))) (μ id):=by
       refine⟨fun k x hx=>?_,row.take (l.length*sz),?_,fun k x j y hx hy=>?_⟩
       ·by_cases RC:i=k
        ·subst RC
         rw[N0 (by simpa using hi)]at hx
         cases hx
         simp only[NY,N3,N9]
         omega
        ·rw[NZ RC]at hx
         obtain⟨z,hz,rfl⟩:=dg hx
         exact r0 k z hz
       ·simp only[Ok,N1]
        refine⟨by rw[N3,R3];omega,.inr ⟨g,cap,row.toArray,hm,Oy _,setRow_heap w g Qz _ E (0,0) hh,hn,ST,by simp[R3,hcs],by simp⟩⟩
       ·have R7:k<l.length:=by
         have:=(NL.1 hx).1
         simpa using this
        have TE:(k+1)*sz≤l.length*sz:=N8 _ R7
        rw[O0]at TE
        have old:∀(z:α) (j:Nat) (y:V),l[k]?=some z→(enc z)[j]?=some y→¬(i*sz+I'≤k*sz+j∧k*sz+j<i*sz+I'+new.length) →
          ∃u,(row.take (l.length*sz))[k*sz+j]?=some u∧cz S (w.setRow g row.toArray) y u:=by
         intro z j y hz hy RZ
         obtain⟨u,hu,hr⟩:=r2 k z j y hz hy
         have hj:=(NL.1 hy).1
         have Rp:=r0 k z hz
         refine⟨u,?_,hr.stable (fun _ h _=>h) hS VF⟩
         rw[Ob,NT (by omega),R0,NQ RZ]
         rw[← Tp,Ob,NT (by omega)]at hu
         simpa using hu
        by_cases RC:i=k
        ·subst RC
         rw[N0 (by simpa using hi)]at hx
         cases hx
         rw[gk _ _ _ _ (by omega)]at hy
         by_cases hcj:I'≤j∧j<I'+nv.length
         ·rw[NT hcj]at hy
          obtain⟨d',hd',htv⟩:=(kY hnv).2 _ _ hy
          have hju:j-I'<ux.cells.size:=by omega
          refine⟨ux.cells[j-I'],?_,?_⟩
          ·rw[Ob,NT (by omega),R0,NT (by omega),show i*sz+j-(i*sz+I')=j-I' from by omega]
           exact N7 hju
          ·exact(sI htv (QV.2 _ _ _ hd' (N7 hju))).stable (fun _ h _=>h) hS VF
         ·rw[NQ hcj]at hy
          exact old _ j y Wi hy (by omega)
        ·rw[NZ RC]at hx
         obtain⟨z,hz,rfl⟩:=dg hx
         have hj:=(NL.1 hy).1
         have Rp:=r0 k z hz
         refine old z j y hz hy ?_
         rintro⟨c1,c2⟩
         rcases Nat.lt_or_ge k i with Ql | Wq
         ·have:(k+1)*sz≤i*sz:=N8 _ Ql
          rw[O0]at this
          omega
         ·have:(i+1)*sz≤k*sz:=N8 _ (by omega)
          rw[O0]at this
          omega
      obtain⟨hB,Uo⟩:=mm (μ:=μ) hq VW hA
      have hu:=h.upd (id:=id) (u:=μ id) (B:=B) (row:=some g) (dM w g row.toArray)
       (fun k hk=>⟨_,G',rfl,by cases hk;exact .inl hb⟩) (by omega) (by rw[du];exact hB) (fun k hk=>.inl (hk.one hb)) (.inl ⟨rfl,.inr ⟨_,G',rfl⟩⟩) (kO Uo)
      rw[du]at hu
      have he:bh st.heap id B=st.heap.set id B:=by
       unfold bh
       rw[NQ (by rw[N2];omega)]
      rwa [he]at hu
     ·cases hp;exact D'.elim
    ·cases hp;exact D'.elim
   ·rename_i E QK n gs cell G'
    split at hp
    ·rename_i Sy Qg
     split at hp
     ·rename_i hc
      simp only[NK,N2,OY]at hc
      obtain⟨rfl,Tb⟩:=hc
      simp only[NS]at hp
      obtain⟨rfl,rfl⟩:=hp
      obtain⟨hi,QU⟩:=D'
      obtain⟨r0,xs,r1,r2⟩:=h.heap.box id _ G'
      have VX:(i+1)*sz≤n*sz:=N8 _ hi
      rw[O0]at VX
      obtain⟨g,cap,Qz,hm,-,hh,hn,ST,hcs,Tp⟩:∃g cap Qz,μ id=.slice (some ⟨g,0,none⟩) n cap∧0≤g∧w.heap[g]?=some (.cells Qz E (0,0))∧n≤cap∧cap≤maxLen∧Qz.size=cap*sz∧Qz.toList.take (n*sz)=xs:=by
       rcases r1.2 with ⟨_,h0⟩ | h1
       ·omega
       ·exact h1
      have hgb:g=b:=by rw[hm]at hb;simpa[bu,aF]using hb
      subst hgb
      have T5:n*sz≤cap*sz:=N8 _ hn
      refine⟨_,Qp Qz E hh (by omega),?_⟩
      have Qh:id<st.heap.length:=(NL.1 G').1
      have Qk:=QV.1
      have hfit':i*sz+I'+new.length≤Qz.size:=by omega
      generalize QA:(Qz.toList.take (i*sz+I')++ux.cells.toList++Qz.toList.drop (i*sz+I'+ux.cells.toList.length))=row
      have R0:∀j,row[j]?=if i*sz+I'≤j∧j<i*sz+I'+new.length then ux.cells[j-(i*sz+I')]? else Qz[j]?:=by
       intro j
       rw[← QA,gk _ _ _ _ (by simp;omega)]
       simp[Qk]
      have R3:row.length=Qz.size:=by
       rw[← QA]
       simp only[NY,N3,N9,Py]
       omega
      have hS:∀k,S k→k<w.heap.size→(w.setRow g row.toArray).heap[k]?=w.heap[k]?:=fun k hk _ =>
       setRow_other w g k _ (fun e=>h.heap.notS id _ g G' rfl (.inl hb) (e ▸ hk))
      have VF:w.heap.size≤(w.setRow g row.toArray).heap.size:=by simp[World.setRow]
      have hB:aG S μ (w.setRow g row.toArray) (μ id) (.arrD E sz n Sy Qg):=by
       refine⟨fun i' j k Ri hj hk=>(QU i' j Ri hj).2 k hk,row.take (n*sz),⟨by rw[N3,R3];omega,.inr ⟨g,cap,row.toArray,hm,Oy _,setRow_heap w g Qz _ E (0,0) hh,hn,ST,by simp[R3,hcs],by simp⟩⟩,fun i' j Ri hj=>?_⟩
       have TE:(i'+1)*sz≤n*sz:=N8 _ Ri
       rw[O0]at TE
       rw[(QU i' j Ri hj).1]
       by_cases hcj:i'=i∧I'≤j∧j<I'+new.length
       ·rw[NT hcj]
        obtain⟨rfl,c1,c2⟩:=hcj
        have hju:j-I'<ux.cells.size:=by omega
        refine⟨ux.cells[j-I'],?_,Uu _ (by simp),?_⟩
        ·rw[Ob,NT (by omega),R0,NT (by omega),show i'*sz+j-(i'*sz+I')=j-I' from by omega]
         exact N7 hju
        ·have hn':new[j-I']?=some (new.getD (j-I') .junk):=by rw[cO _ _ (by omega)];exact NM (by omega)
         exact(QV.2 _ _ _ hn' (N7 hju)).stable (fun _ h _=>h) hS VF (fun _ _=>rfl)
       ·rw[NQ hcj]
        obtain⟨z,hz,ho,hr⟩:=r2 i' j Ri hj
        refine⟨z,?_,ho,hr.stable (fun _ h _=>h) hS VF (fun _ _=>rfl)⟩
        rw[Ob,NT (by omega),R0,NQ]
        ·rw[← Tp,Ob,NT (by omega)]at hz
         simpa using hz
        ·rintro⟨c1,c2⟩
         rcases Nat.lt_trichotomy i' i with Ql | UN | hgt
         ·have:(i'+1)*sz≤i*sz:=N8 _ Ql
          rw[O0]at this
          omega
         ·subst UN
          exact hcj ⟨rfl,by omega,by omega⟩
         ·have:(i+1)*sz≤i'*sz:=N8 _ hgt
          rw[O0]at this
          omega
      have hu:=h.upd (id:=id) (u:=μ id) (B:=.arrD E sz n Sy Qg) (row:=some g) (dM w g row.toArray)
       (fun k hk=>⟨_,G',rfl,by cases hk;exact .inl hb⟩) (by omega) (by rw[du];exact hB) (fun k hk=>.inl (hk.one hb)) (.inl ⟨rfl,.inl rfl⟩)
      rw[du]at hu
      have he:bh st.heap id (.arrD E sz n Sy Qg)=st.heap.set id (.arrD E sz n Sy Qg):=by
       unfold bh
       rw[NQ (by rw[N2];omega)]
      rwa [he]at hu
     ·cases hp;exact D'.elim
    ·cases hp;exact D'.elim
   ·cases hp;exact D'.elim
  ·cases hp;exact D'.elim
 ·cases hp;exact D'.elim
end
section
variable {C:jB} {S:Nat→Prop} {μ:Nat→Value} {st J':St} {a:Act} {w w':World} {p:Prop}
theorem f5 {P:Program} {E:TypeId} {z:List D} (hz:ga P E=some z):∃(i:TypeInfo) (v:Value),P.info? E=some i∧i.zero=some v∧z=v.cells.toList.map D.ofVal1∧i.size=az P E∧i.bytes=fb P E:=by
 unfold ga at hz
 cases hi:P.info? E with
 | none=>simp[hi]at hz
 | some i =>
  cases hv:i.zero with
  | none=>simp[hi,hv]at hz
  | some v =>
   simp only[hi,hv,PB,Oz,NW]at hz
   exact⟨i,v,rfl,hv,hz.symm,by simp[az,hi],by simp[fb,hi]⟩
theorem vP {k sz:Nat} (h:0<sz):k=(k / sz)*sz+k%sz:=by
 have:=Nat.div_add_mod k sz
 rw[Nat.mul_comm]at this
 omega
theorem yA {α:Type _} (z:List α) (sz:Nat) (hz:z.length=sz) (hs:0<sz):∀(n k:Nat),(List.replicate n z).flatten[k]?=if k<n*sz then z[k%sz]? else none
 | 0,k=>by simp
 | n+1,k=>by
  rw[List.replicate_succ,List.flatten_cons,O0]
  by_cases hk:k<sz
  ·rw[NU (by omega),NT (by omega),Nat.mod_eq_of_lt hk]
  ·rw[NX (by omega),yA z sz hz hs n (k-z.length),hz]
   by_cases Sp:k<n*sz+sz
   ·rw[NT (by omega),NT Sp]
    congr 1
    rw[← Nat.mod_eq_sub_mod (by omega)]
   ·rw[NQ (by omega),NQ Sp]
theorem qE {P:Program} {z:List D} {zv:Array Value} (hz:aK S μ w z zv) {sz:Nat} (Rp:z.length=sz) (hs:0<sz) (n:Nat):aK S μ w (List.replicate n z).flatten ((Array.range (n*sz)).map (zv[·%zv.size]!)):=by
 have hl:(List.replicate n z).flatten.length=n*sz:=by simp[Rp]
 refine⟨by simp[hl],fun j y u hy hu=>?_⟩
 have hj:j<n*sz:=by rw[← hl];exact(NL.1 hy).1
 rw[yA z sz Rp hs,NT hj]at hy
 have hm:j%sz<zv.size:=by rw[hz.1,Rp];exact Nat.mod_lt _ hs
 simp only[O1,Array.getElem?_range,hj,Pe,Oz,NW]at hu
 refine hz.2 (j%sz) y u hy ?_
 rw[← hu,hz.1,Rp]
 simp[hm]
theorem jj (sz n:Nat) (cells:List D) {i:Nat} {x:List D} (h:(nJ sz n cells)[i]?=some x):i<n∧x=(cells.drop (i*sz)).take sz:=by
 unfold nJ at h
 obtain⟨k,hk,rfl⟩:=dg h
 have hi:=(NL.1 hk)
 obtain⟨h1,h2⟩:=hi
 simp at h1 h2
 subst h2
 exact⟨h1,rfl⟩
theorem sJ {E sz n:Nat} {cells:List D} {vs:Array Value} (hr:aK S μ w cells vs) (hl:cells.length=n*sz) (hn:n≤maxLen) {L:List (List V)} (hLl:L.length=n)
  (hL:∀(i:Nat) (x:List V),L[i]?=some x→x.length=sz∧∀(j:Nat) (y:V),x[j]?=some y→∃d,cells[i*sz+j]?=some d∧∀u,ai S μ w d u→cz S w y u)
  (hS:∀b,S b→b<w.heap.size):dK S (w.alloc (.cells vs E)) E sz L (.slice (some ⟨w.heap.size,0,none⟩) n n):=by
 subst hLl
 refine⟨fun i x hx=>(hL i x hx).1,vs.toList,World.ownsRow_lit w vs L.length (Oy _) hn (by rw[hr.1,hl]),fun i x j y hx hy=>?_⟩
 obtain⟨d,hd,QY⟩:=(hL i x hx).2 j y hy
 have Ql:i*sz+j<vs.size:=by rw[hr.1];exact(NL.1 hd).1
 refine⟨vs[i*sz+j],by simp[Ql],?_⟩
 exact(QY _ (hr.2 _ _ _ hd (N7 Ql))).stable (fun _ h _=>h) (fun b hb hl=>Below.heap_alloc w _ b hl) (by simp)
theorem ij {P:Program} {t E:TypeId} {len:Nat} {Qj:List (Nat×Value)} {i:TypeInfo} {v:Value} (hu:P.underlying t=some (.slice E)) (hi:P.info? E=some i) (hv:i.zero=some v) (ST:len*i.size≤4096)
  {cells:Array Value} (hf:Instr.fill (fun k=>some (k*i.size,i.size)) ((Array.range (len*i.size)).map (v.cells[·%v.cells.size]!)) Qj=some cells) :
  (Instr.buildSlice t len Qj.toArray).run P w=.ok (.slice (some ⟨w.heap.size,0,none⟩) len len) (w.alloc (.cells cells E)):=by
 by_cases hn:len*i.size=0
 ·have e0:(Array.range (len*i.size)).map (v.cells[·%v.cells.size]!)=#[]:=by rw[hn];simp[Array.range_zero']
  rw[e0]at hf
  have e1:∀f:Nat→Value,(Array.range 0).map f=#[]:=fun f=>by simp[Array.range_zero']
  unfold Instr.buildSlice
  simp only[NP,Ou hu,NO,sizeOf,typeInfo,program]
  simp only[Sem.run,hi,N6,NO]
  rw[NQ (by omega),NT hn]
  simp only[N6,NO,hn,e1,hf]
  simp[newRow,newObj,Sem.run]
 ·unfold Instr.buildSlice
  simp only[NP,Ou hu,NO,sizeOf,typeInfo,program]
  simp only[Sem.run,hi,N6,NO]
  rw[NQ (by omega),NQ hn]
  have hz:(zeroValue E).run P w=.ok v w:=by simp[zeroValue,typeInfo,hi,hv,NP]
  simp only[NP,hz,N6,NO,hf]
  simp[newRow,newObj,Sem.run]
end
section
variable {C:jB} {S:Nat→Prop} {μ:Nat→Value} {st J':St} {a:Act} {w w':World} {p:Prop}
theorem aq {X:Prop} (hp:aL st=(J',p)) (D':p):X:=by
 simp only[aL,NS]at hp
 rw[← hp.2]at D'
 exact D'.elim
theorem jL {sz n:Nat} {cells:List D} {i j:Nat} {x:List D} {d:D} (h:(nJ sz n cells)[i]?=some x) (hd:x[j]?=some d):cells[i*sz+j]?=some d:=by
 obtain⟨_,rfl⟩:=jj sz n cells h
 rw[Ob]at hd
 split at hd
 ·rw[O6]at hd;exact hd
 ·cases hd
theorem xi (h:aU C S μ st a w) {ov:Ov} {dst:Option Nat} {t:TypeId} {len:Nat} {P8:List (Nat×D)} {Qj:List (Nat×Value)} (h1:P8.map (·.1)=Qj.map (·.1))
  (h2:∀(j:Nat) (x:Nat×D) (u:Nat×Value),P8[j]?=some x→Qj[j]?=some u→ai S μ w x.2 u.2) (hp:qD C.P C.nt st ov dst t len P8=(J',p)) (D':p) :
  ∃u w' μ',(Instr.buildSlice t len Qj.toArray).run C.P w=.ok u w'∧aU C S μ' J' (a.put dst u) w':=by
 unfold qD at hp
 split at hp
 ·rename_i E hu
  split at hp
  ·rename_i z hz
   split at hp
   ·rename_i hc
    simp only[NK,N2,OY]at hc
    obtain⟨⟨⟨hk,Rp⟩,Qy⟩,ST⟩:=hc
    obtain⟨i,v,hi,hv,SS,Qk,VK⟩:=f5 hz
    split at hp
    ·rename_i cells hf
     have UA:aK S μ w z v.cells:=by
      obtain⟨v',hv',hr⟩:=gd (P:=C.P) (S:=S) (μ:=μ) (w:=w) hz
      have:v'=v:=by
       have:(zeroValue E).run C.P w=.ok v w:=by simp[zeroValue,typeInfo,hi,hv,NP]
       rw[this]at hv'
       cases hv'
       rfl
      rwa [this]at hr
     have Tm:=qE (P:=C.P) UA Rp (by omega) len
     obtain⟨vs,Sk,Rr⟩:=eJ h.heap P8 Qj _ cells _ h1 h2 Tm hf
     rw[← Qk]at Sk
     have Qp:=ij (P:=C.P) (w:=w) hu hi hv (by rw[Qk];exact ST) Sk
     have hcl:cells.length=len*az C.P E:=by
      have:∀(P8:List (Nat×D)) (c0 SU:List D),f9 st.heap (fun i=>some (i*az C.P E,az C.P E)) c0 P8=some SU→SU.length=c0.length:=by
       intro P8
       induction P8 with
       | nil=>intro c0 SU h;simp only[f9,NW]at h;rw[h]
       | cons q r ih =>
        intro c0 SU h
        obtain⟨k,x⟩:=q
        unfold f9 at h
        split at h
        ·split at h
         ·rename_i Qt
          simp only[NK,OY]at Qt
          rw[ih _ _ h]
          simp[e9]
          omega
         ·cases h
        ·cases h
      rw[this _ _ _ hf]
      simp[Rp]
     have Qi:len≤maxLen:=by
      have:len*1≤len*az C.P E:=PM _ Qy
      simp only[maxLen]
      omega
     have VL:∀(L:List (List V)) (B:ak) (q:Prop),newBox st C.nt dst B (.own st.heap.length) q=(J',p)→(q→dK S (w.alloc (.cells vs E)) E (az C.P E) L (.slice (some ⟨w.heap.size,0,none⟩) len len)∧(dK S (w.alloc (.cells vs E)) E (az C.P E) L (.slice (some ⟨w.heap.size,0,none⟩) len len)→aG S (aO μ st.heap.length (.slice (some ⟨w.heap.size,0,none⟩) len len)) (w.alloc (.cells vs E)) (.slice (some ⟨w.heap.size,0,none⟩) len len) B))→B.isRo=false →
       ∃u w' μ',(Instr.buildSlice t len Qj.toArray).run C.P w=.ok u w'∧aU C S μ' J' (a.put dst u) w':=by
      intro L B q hp hB Rc
      have hq:q:=by
       unfold newBox at hp
       split at hp
       ·split at hp
        ·simp only[NS]at hp;rw[← hp.2]at D';exact D'
        ·exact aq hp D'
       ·exact aq hp D'
      obtain⟨b1,b2⟩:=hB hq
      refine⟨_,_,_,Qp,(h.newBox hp D' (O2 w _ none) (b2 b1) (fun b hb=>by simp[bu,aF]at hb;omega) ?_ Rc).2⟩
      have:=ai.own (S:=S) (μ:=aO μ st.heap.length (.slice (some ⟨w.heap.size,0,none⟩) len len)) (w:=w.alloc (.cells vs E)) st.heap.length
      rwa [ar]at this
     split at hp
     ·rename_i E' QK α Qb d' l'
      split at hp
      ·rename_i hc
       simp only[NK,N2]at hc
       obtain⟨rfl,rfl⟩:=hc
       refine VL (l'.map Qb) _ _ hp (fun hq=>⟨?_,fun hA=>hA.box rfl⟩) rfl
       obtain⟨q1,q2⟩:=jK hq
       refine sJ Rr hcl Qi (by rw[← q1];simp[nJ]) (fun i x hx=>?_) h.slt
       obtain⟨r,hr,QA⟩:=q2 i x hx
       obtain⟨r1,r2⟩:=eK QA
       obtain⟨hin,rfl⟩:=jj _ _ _ hr
       refine⟨?_,fun j y hy=>?_⟩
       ·rw[← r1,N3,N9,hcl]
        have:(i+1)*az C.P E≤len*az C.P E:=N8 _ hin
        rw[O0]at this
        omega
       ·obtain⟨d,hd,UX⟩:=r2 j y hy
        exact⟨d,jL hr hd,fun u hu=>kZ UX hu⟩
      ·exact aq hp D'
     ·rename_i gs cell
      split at hp
      ·rename_i TM
       simp only[NK]at TM
       obtain⟨hgs,Sf⟩:=TM
       have hq:∀i j,i<len→j<az C.P E→cell i j=cells.getD (i*az C.P E+j) .junk∧∀k,gs.all (fun g=>!(Nat.beq g k))=true→(cell i j).free k=true:=by
        have Ru:=hp
        unfold newBox at Ru
        split at Ru
        ·split at Ru
         ·simp only[NS]at Ru;rw[← Ru.2]at D';exact D'
         ·exact aq Ru D'
        ·exact aq Ru D'
       have Qv:gs.all (fun g=>!(Nat.beq g st.heap.length))=true:=by
        rw[Oa]at hgs ⊢
        intro g hg
        have:=hgs g hg
        rw[PA]at this
        exact xa (by omega)
       have hvl:vs.size=len*az C.P E:=by rw[Rr.1,hcl]
       have So:∀b,S b→b<w.heap.size→(w.alloc (.cells vs E)).heap[b]?=w.heap[b]?:=fun b _ hl=>(O2 w (.cells vs E) none).block b hl (by simp)
       refine⟨_,_,_,Qp,(h.newBox hp D' (O2 w _ none) (u:=.slice (some ⟨w.heap.size,0,none⟩) len len) ⟨fun i j k hi hj hk=>(hq i j hi hj).2 k hk,vs.toList,⟨by simp[hvl],.inr ⟨w.heap.size,len,vs,rfl,Oy _,OM w _,NN _,Qi,hvl,by rw[List.take_of_length_le (by simp[hvl])]⟩⟩,fun i j hi hj=>?_⟩ (fun b hb=>by simp[bu,aF]at hb;omega) ?_ rfl).2⟩
       ·have TE:(i+1)*az C.P E≤len*az C.P E:=N8 _ hi
        rw[O0]at TE
        have Ql:i*az C.P E+j<vs.size:=by omega
        have UK:i*az C.P E+j<cells.length:=by omega
        have Wk:vs[i*az C.P E+j]?=some vs[i*az C.P E+j]:=N7 Ql
        refine⟨vs[i*az C.P E+j],by simp[Ql],BX h.heap Rr Sf _ (by simp),?_⟩
        have hcg:cells[i*az C.P E+j]?=some (cells.getD (i*az C.P E+j) .junk):=by rw[cO _ _ UK];exact NM UK
        have hd:=Rr.2 _ _ _ hcg Wk
        rw[← (hq i j hi hj).1]at hd
        exact hd.stable (fun _ h _=>h) So (O2 w (.cells vs E) none).size (fun id Qh=>aA _ _ (fun e=>by rw[e,(hq i j hi hj).2 _ Qv]at Qh;cases Qh))
       ·have:=ai.own (S:=S) (μ:=aO μ st.heap.length (.slice (some ⟨w.heap.size,0,none⟩) len len)) (w:=w.alloc (.cells vs E)) st.heap.length
        rwa [ar]at this
      ·exact aq hp D'
     ·split at hp
      ·rename_i L hL
       refine VL L _ _ hp (fun _=>⟨?_,fun hA=>hA.box (vO L).symm⟩) rfl
       obtain⟨q1,q2⟩:=tE hL
       refine sJ Rr hcl Qi (by rw[← q1];simp[nJ]) (fun i x hx=>?_) h.slt
       obtain⟨r,hr,QA⟩:=q2 i x hx
       obtain⟨r1,r2⟩:=kY QA
       obtain⟨hin,rfl⟩:=jj _ _ _ hr
       refine⟨?_,fun j y hy=>?_⟩
       ·rw[← r1,N3,N9,hcl]
        have:(i+1)*az C.P E≤len*az C.P E:=N8 _ hin
        rw[O0]at this
        omega
       ·obtain⟨d,hd,UX⟩:=r2 j y hy
        exact⟨d,jL hr hd,fun u hu=>sI UX hu⟩
      ·exact aq hp D'
    ·exact aq hp D'
   ·exact aq hp D'
  ·exact aq hp D'
 ·exact aq hp D'
theorem _root_.Nat.mul_add_mod_of_lt' {k sz j:Nat} (h:j<sz):(k*sz+j)%sz=j:=by
 rw[Nat.mul_comm,Nat.mul_add_mod,Nat.mod_eq_of_lt h]
theorem aG.arr_mk {E sz:Nat} {u:Value} {α:Type} {enc:α→List V} {d:α} {l:List α} (h:dK S w E sz (l.map enc) u):aG S μ w u (.arr E sz enc d l):=h.box rfl
theorem yB (h:aU C S μ st a w) {ov:Ov} {dst:Option Nat} {t:TypeId} {l c:D} {ul uc:Value} (hl:ai S μ w l ul) (hc:ai S μ w c uc) (hp:vN C.P C.nt st ov dst t l c=(J',p)) (D':p) :
  ∃u w' μ',(Instr.makeSlice t ul uc).run C.P w=.ok u w'∧aU C S μ' J' (a.put dst u) w':=by
 unfold vN at hp
 split at hp
 ·rename_i E kl n kc m hu
  split at hp
  ·rename_i z hz
   split at hp
   ·rename_i Qt
    simp only[NK,N2,OY]at Qt
    obtain⟨⟨⟨hk,Rp⟩,Qy⟩,UB⟩:=Qt
    obtain⟨i,v,hi,hv,SS,Qk,VK⟩:=f5 hz
    rw[bM hl,bM hc]
    split at hp
    ·rename_i E' QK α Qb d' l'
     split at hp
     ·rename_i Ui
      simp only[NK,N2]at Ui
      obtain⟨rfl,rfl⟩:=Ui
      have hq:(0≤n∧n≤m∧m≤137438953472)∧l'.length=n.toNat∧∀x∈l',dp z (Qb x):=by
       have Ru:=hp
       unfold newBox at Ru
       split at Ru
       ·split at Ru
        ·simp only[NS]at Ru;rw[← Ru.2]at D';exact D'
        ·exact aq Ru D'
       ·exact aq Ru D'
      obtain⟨⟨h0,TA,hm⟩,Qi,RY⟩:=hq
      have hbm:(i.bytes:Int)*m≤281474976710656:=by
       have h9:(i.bytes:Int)≤1024:=by omega
       have:(i.bytes:Int)*m≤1024*m:=Int.mul_le_mul_of_nonneg_right h9 (by omega)
       omega
      have Qp:=run_make (P:=C.P) w t E i v hu hi hv kl kc n m h0 TA hbm (by omega)
      refine⟨_,_,_,Qp,(h.newBox (u:=.slice (some ⟨w.heap.size,0,none⟩) n.toNat m.toNat) hp D' (O2 w _ none) (aG.arr_mk ?_) (fun b hb=>by simp[bu,aF]at hb;omega) ?_).2⟩
      ·have UA:aK S μ w z v.cells:=by
        rw[SS]
        refine⟨by simp,fun j y u hy hu=>?_⟩
        simp only[N4,Oo,hu,Oz,NW]at hy
        subst hy
        exact ai.ofVal1 S μ w u
       have Rr:v.cells.size=az C.P E:=by rw[UA.1,Rp]
       refine⟨fun k x hx=>?_,(madeCells v.cells (m.toNat*i.size)).toList.take (n.toNat*az C.P E),?_,fun k x j y hx hy=>?_⟩
       ·obtain⟨q,hq,rfl⟩:=dg hx
        rw[← (eK (RY q (Oh hq))).1,Rp]
       ·have UW:n.toNat*az C.P E≤m.toNat*i.size:=by rw[Qk];exact N8 _ (by omega)
        refine⟨by simp[size_madeCells,Qi];omega,.inr ⟨w.heap.size,m.toNat,madeCells v.cells (m.toNat*i.size),by simp[Qi],Oy _,OM w _,by simp[Qi];omega,by simp only[maxLen];omega,by rw[size_madeCells,Qk],by simp[Qi]⟩⟩
       ·obtain⟨q,hq,rfl⟩:=dg hx
        have RA:k<n.toNat:=by rw[← Qi];exact(NL.1 hq).1
        obtain⟨r1,r2⟩:=eK (RY q (Oh hq))
        obtain⟨d,hd,UX⟩:=r2 j y hy
        have hj:j<az C.P E:=by rw[← Rp];exact(NL.1 hd).1
        have hjv:j<v.cells.size:=by omega
        have Tg:(k+1)*az C.P E≤n.toNat*az C.P E:=N8 _ RA
        rw[O0]at Tg
        have UW:n.toNat*az C.P E≤m.toNat*i.size:=by rw[Qk];exact N8 _ (by omega)
        refine⟨v.cells[j],?_,(kZ UX (UA.2 j d _ hd (N7 hjv))).stable (fun _ h _=>h) (fun b hb hl=>Below.heap_alloc w _ b hl) (by simp)⟩
        rw[Ob,NT (by omega),Oo]
        unfold madeCells
        rw[O1,Array.getElem?_range,NT (by omega)]
        simp only[Oz,NW]
        rw[Rr,Nat.mul_add_mod_of_lt' hj]
        simp[hjv]
      ·have:=ai.own (S:=S) (μ:=aO μ st.heap.length (.slice (some ⟨w.heap.size,0,none⟩) n.toNat m.toNat)) (w:=w.alloc (.cells (madeCells v.cells (m.toNat*i.size)) E)) st.heap.length
       rwa [ar]at this
     ·exact aq hp D'
    ·exact aq hp D'
   ·exact aq hp D'
  ·exact aq hp D'
 ·exact aq hp D'
end
section
variable {P:Program} {S:Nat→Prop} {μ:Nat→Value} {w:World}
theorem dq (t ty e:TypeId) (i:TypeInfo) (z:Value) (ht:P.underlying t=some (.slice e)) (hi:P.info? e=some i) (hz:i.zero=some z) (hzs:z.cells.size=i.size)
  {v:Value} {n:Nat} {xs:List Value} (P9:w.ownsRow 0 e i.size v n xs) {pa:Option Addr} {m c:Nat} {Qq:List Value} (hpa:pa=none→c=0∧m=0)
  (hl:Qq.length=m*i.size) (Ts:∀ad,pa=some ad→∀(j:Nat) (u:Value),Qq[j]?=some u→w.cell? (ad.add j)=some u) (h1:∀u∈Qq,u.oneCell'=true)
  (Wr:n+m≤maxLen) (RD:(n+m)*i.bytes≤140737488355328) :
  ∃v' w',(Builtin.append_ #[t,t] ty #[v,.slice pa m c]).run P w=.ok v' w'∧w'.ownsRow 0 e i.size v' (n+m) (xs++Qq)∧w.grownBy w' v.ownBlock∧(v'.ownBlock=v.ownBlock∨v'.ownBlock=some w.heap.size):=by
 cases pa with
 | none =>
  obtain⟨rfl,rfl⟩:=hpa rfl
  have hn:Qq=[]:=Oj (by simpa using hl)
  subst hn
  exact⟨v,w,run_append_owned_none (P:=P) w 0 t ty e i i.size ht hi v n xs P9,by simpa using P9,⟨rfl,rfl,rfl,NN _,fun _ _ _=>rfl⟩,.inl rfl⟩
 | some ad =>
  have VG:=Ts ad rfl
  have Vg:n+m≤9223372036854775807:=by simp only[maxLen]at Wr;omega
  have Qi:(xs++Qq).length=(n+m)*i.size:=by rw[NY,P9.1,hl,PW]
  have R4:∀(old:Nat) (row:Option Nat),
    (w.drew.alloc (.cells (xs.toArray++Qq.toArray++Builtin.zeroCells z.cells (grownCap w (n+m) old e-(n+m))) e)).ownsRow 0 e i.size
     (.slice (some ⟨w.heap.size,0,none⟩) (n+m) (grownCap w (n+m) old e)) (n+m) (xs++Qq) ∧
    w.grownBy (w.drew.alloc (.cells (xs.toArray++Qq.toArray++Builtin.zeroCells z.cells (grownCap w (n+m) old e-(n+m))) e)) row:=by
   intro old row
   have Wq:=grownCap_ge w (n+m) old e
   have T5:grownCap w (n+m) old e≤maxLen:=grownCap_le_maxLen w (n+m) old e Wr
   refine⟨⟨Qi,.inr ⟨w.heap.size,_,_,rfl,Oy _,OM w.drew _,Wq,T5,?_,?_⟩⟩,⟨rfl,rfl,rfl,by simp,fun k hk _=>Below.heap_alloc w.drew _ k hk⟩⟩
   ·simp only[Array.size_append,Pl,size_zeroCells,hzs,P9.1,hl,← PW]
    congr 1
    omega
   ·simp only[Array.toList_append,OE]
    rw[← OE,← Qi]
    exact PF
  rcases P9.2 with ⟨rfl,rfl⟩ | ⟨g,cap,Qz,rfl,Rt,hg,hnc,T5,hcs,SL⟩
  ·have hx:xs=[]:=Oj (by simpa using P9.1)
   subst hx
   by_cases hm:m=0
   ·subst hm
    have hn:Qq=[]:=Oj (by simpa using hl)
    subst hn
    refine⟨.slice none 0 0,w,?_,Pa w 0 e i.size,⟨rfl,rfl,rfl,NN _,fun _ _ _=>rfl⟩,.inl rfl⟩
    simp[Builtin.append_,Ou ht,sizeOf,typeInfo,hi,Builtin.lenOf,Builtin.firstCells,loadCells,loadCellsFrom]
   ·have hr:=run_append_nil (P:=P) w t ty e i z ht hi hz ad m c Qq hl VG (by omega) (by omega) (by have hb:=RD;simp only[OA]at hb;omega)
    have Sr:=R4 0 (Value.ownBlock (.slice none 0 0))
    simp only[OA,OU,Array.empty_append]at Sr ⊢
    exact⟨_,_,hr,Sr.1,Sr.2,.inr rfl⟩
  ·by_cases hroom:n+m≤cap
   ·have Tb:n*i.size+Qq.length≤Qz.size:=by rw[hl,hcs,← PW];exact N8 _ hroom
    have hr:=run_append_room (P:=P) w t ty e i ht hi g n cap Qz hg ad m c Qq hl VG h1 hroom Tb
    refine⟨_,_,hr,⟨Qi,.inr ⟨g,cap,_,rfl,Rt,setRow_heap w g Qz _ e _ hg,hroom,T5,?_,?_⟩⟩,dM w g _,.inl rfl⟩
    ·simp only[Pl,NY,N3,N9,Py]
     omega
    ·rw[SL,← Qi]
     exact PF
   ·have holds:∀j u,xs[j]?=some u→w.cell? ((⟨g,0,none⟩:Addr).add j)=some u:=P9.cells (g:=g) rfl
    have hr:=run_append_grow (P:=P) w t ty e i z ht hi hz ⟨g,0,none⟩ n cap xs P9.1 holds ad m c Qq hl VG (by omega) (by omega) (growslice_fits (by omega) RD)
    have Sr:=R4 cap (Value.ownBlock (.slice (some ⟨g,0,none⟩) n cap))
    exact⟨_,_,hr,Sr.1,Sr.2,.inr rfl⟩
theorem kF (t ty e:TypeId) (i:TypeInfo) (z:Value) (ht:P.underlying t=some (.slice e)) (hi:P.info? e=some i) (hz:i.zero=some z) (hzs:z.cells.size=i.size)
  {v:Value} {n:Nat} {xs:List Value} (P9:w.ownsRow 0 e i.size v n xs) {pa:Option Addr} {m c:Nat} {Qq:List Value} (hpa:pa=none→c=0∧m=0)
  (hl:Qq.length=m*i.size) (Ts:∀ad,pa=some ad→∀(j:Nat) (u:Value),Qq[j]?=some u→w.cell? (ad.add j)=some u) (h1:∀u∈Qq,u.oneCell'=true)
  (Wr:n+m≤maxLen) (RD:(n+m)*i.bytes≤140737488355328) :
  ∃v' w',(Builtin.append_ #[t,t] ty #[v,.slice pa m c]).run P w=.ok v' w'∧w'.ownsRow 0 e i.size v' (n+m) (xs++Qq)∧w.grownBy w' v.ownBlock∧(v'.ownBlock=v.ownBlock∨(v'.ownBlock=some w.heap.size∧w.grownBy w' none))∧w'.ownsRow 0 e i.size v n xs:=by
 cases pa with
 | none =>
  obtain⟨rfl,rfl⟩:=hpa rfl
  have hn:Qq=[]:=Oj (by simpa using hl)
  subst hn
  exact⟨v,w,run_append_owned_none (P:=P) w 0 t ty e i i.size ht hi v n xs P9,by simpa using P9,⟨rfl,rfl,rfl,NN _,fun _ _ _=>rfl⟩,.inl rfl,P9⟩
 | some ad =>
  have VG:=Ts ad rfl
  have Vg:n+m≤9223372036854775807:=by simp only[maxLen]at Wr;omega
  have Qi:(xs++Qq).length=(n+m)*i.size:=by rw[NY,P9.1,hl,PW]
  have R4:∀(old:Nat) (row:Option Nat),
    (w.drew.alloc (.cells (xs.toArray++Qq.toArray++Builtin.zeroCells z.cells (grownCap w (n+m) old e-(n+m))) e)).ownsRow 0 e i.size
     (.slice (some ⟨w.heap.size,0,none⟩) (n+m) (grownCap w (n+m) old e)) (n+m) (xs++Qq) ∧
    w.grownBy (w.drew.alloc (.cells (xs.toArray++Qq.toArray++Builtin.zeroCells z.cells (grownCap w (n+m) old e-(n+m))) e)) row:=by
   intro old row
   have Wq:=grownCap_ge w (n+m) old e
   have T5:grownCap w (n+m) old e≤maxLen:=grownCap_le_maxLen w (n+m) old e Wr
   refine⟨⟨Qi,.inr ⟨w.heap.size,_,_,rfl,Oy _,OM w.drew _,Wq,T5,?_,?_⟩⟩,⟨rfl,rfl,rfl,by simp,fun k hk _=>Below.heap_alloc w.drew _ k hk⟩⟩
   ·simp only[Array.size_append,Pl,size_zeroCells,hzs,P9.1,hl,← PW]
    congr 1
    omega
   ·simp only[Array.toList_append,OE]
    rw[← OE,← Qi]
    exact PF
  rcases P9.2 with ⟨rfl,rfl⟩ | ⟨g,cap,Qz,rfl,Rt,hg,hnc,T5,hcs,SL⟩
  ·have hx:xs=[]:=Oj (by simpa using P9.1)
   subst hx
   by_cases hm:m=0
   ·subst hm
    have hn:Qq=[]:=Oj (by simpa using hl)
    subst hn
    refine⟨.slice none 0 0,w,?_,Pa w 0 e i.size,⟨rfl,rfl,rfl,NN _,fun _ _ _=>rfl⟩,.inl rfl,Pa w 0 e i.size⟩
    simp[Builtin.append_,Ou ht,sizeOf,typeInfo,hi,Builtin.lenOf,Builtin.firstCells,loadCells,loadCellsFrom]
   ·have hr:=run_append_nil (P:=P) w t ty e i z ht hi hz ad m c Qq hl VG (by omega) (by omega) (by have hb:=RD;simp only[OA]at hb;omega)
    have Sr:=R4 0 (Value.ownBlock (.slice none 0 0))
    simp only[OA,OU,Array.empty_append]at Sr ⊢
    exact⟨_,_,hr,Sr.1,Sr.2,.inr ⟨rfl,Sr.2⟩,Pa _ 0 e i.size⟩
  ·by_cases hroom:n+m≤cap
   ·have Tb:n*i.size+Qq.length≤Qz.size:=by rw[hl,hcs,← PW];exact N8 _ hroom
    have hr:=run_append_room (P:=P) w t ty e i ht hi g n cap Qz hg ad m c Qq hl VG h1 hroom Tb
    refine⟨_,_,hr,⟨Qi,.inr ⟨g,cap,_,rfl,Rt,setRow_heap w g Qz _ e _ hg,hroom,T5,?_,?_⟩⟩,dM w g _,.inl rfl,⟨P9.1,.inr ⟨g,cap,_,rfl,Rt,setRow_heap w g Qz _ e _ hg,hnc,T5,?_,?_⟩⟩⟩
    ·simp only[Pl,NY,N3,N9,Py]
     omega
    ·rw[SL,← Qi]
     exact PF
    ·simp only[Pl,NY,N3,N9,Py]
     omega
    ·rw[SL]
     simp only[OE]
     rw[← P9.1]
     exact PF
   ·have holds:∀j u,xs[j]?=some u→w.cell? ((⟨g,0,none⟩:Addr).add j)=some u:=P9.cells (g:=g) rfl
    have hr:=run_append_grow (P:=P) w t ty e i z ht hi hz ⟨g,0,none⟩ n cap xs P9.1 holds ad m c Qq hl VG (by omega) (by omega) (growslice_fits (by omega) RD)
    have Sr:=R4 cap (Value.ownBlock (.slice (some ⟨g,0,none⟩) n cap))
    have hgn:=(R4 cap none).2
    exact⟨_,_,hr,Sr.1,Sr.2,.inr ⟨rfl,hgn⟩,⟨P9.1,.inr ⟨g,cap,Qz,rfl,Rt,by rw[hgn.block g (NV.1 hg).1 (by simp)];exact hg,hnc,T5,hcs,SL⟩⟩⟩
theorem gl {H:List ak} (hH:a9 S μ w H) {sz:Nat} (hs:1≤sz) {x:D} {new:List (List V)} {ux:Value} (hn:tz H sz x=some new) (hx:ai S μ w x ux) :
  ∃(pa:Option Addr) (c:Nat) (Qq:List Value),ux=.slice pa new.length c∧(pa=none→c=0∧new.length=0)∧Qq.length=new.length*sz ∧
   (∀ad,pa=some ad→∀(j:Nat) (u:Value),Qq[j]?=some u→w.cell? (ad.add j)=some u)∧(∀u∈Qq,u.oneCell'=true) ∧
   (∀(i:Nat) (x:List V),new[i]?=some x→x.length=sz)∧∀(i:Nat) (x:List V) (j:Nat) (y:V),new[i]?=some x→x[j]?=some y→∃z,Qq[i*sz+j]?=some z∧cz S w y z:=by
 have key:∀(Qq:List Value),Qq.length=new.length*sz→(∀(i:Nat) (x:List V),new[i]?=some x→x.length=sz) →
   (∀(i:Nat) (x:List V) (j:Nat) (y:V),new[i]?=some x→x[j]?=some y→∃z,Qq[i*sz+j]?=some z∧cz S w y z)→∀u∈Qq,u.oneCell'=true:=by
  intro Qq hl h0 h2 u hu
  obtain⟨k,hk,rfl⟩:=PQ hu
  have hi:k / sz<new.length:=by
   rw[Nat.div_lt_iff_lt_mul (by omega)]
   omega
  have hj:k%sz<new[k / sz].length:=by
   rw[h0 _ _ (NM hi)]
   exact Nat.mod_lt _ (by omega)
  obtain⟨z,hz,hr⟩:=h2 _ _ _ _ (NM hi) (NM hj)
  rw[← vP (by omega)]at hz
  rw[NM hk]at hz
  cases hz
  exact hr.one
 unfold tz at hn
 split at hn
 ·rename_i QK α enc d l
  split at hn
  ·rename_i Qk
   rw[N2]at Qk
   subst Qk
   cases hn
   obtain⟨p,c,rfl,h1,h2,h3,h4⟩:=eF (bg hx)
   by_cases h0:0<l.length
   ·obtain⟨b,I',us,rfl,q1,q2,q3,q4,q5⟩:=h4 h0
    have hz:∀(k:Nat),k<l.length*sz→∃(z:α) (y:V),l[k / sz]?=some z∧(enc z)[k%sz]?=some y:=by
     intro k hk
     have hi:k / sz<l.length:=by rw[Nat.div_lt_iff_lt_mul (by omega)];exact hk
     have Rp:=q3 _ _ (NM hi)
     have hj:k%sz<(enc l[k / sz]).length:=by rw[Rp];exact Nat.mod_lt _ (by omega)
     exact⟨_,_,NM hi,NM hj⟩
    have r0:∀(i:Nat) (x:List V),(l.map enc)[i]?=some x→x.length=sz:=fun i x hx=>by obtain⟨z,hz,rfl⟩:=dg hx;exact q3 i z hz
    have r2:∀(i:Nat) (x:List V) (j:Nat) (y:V),(l.map enc)[i]?=some x→x[j]?=some y→∃z,((List.range (l.length*sz)).map fun k=>us (k / sz) (k%sz))[i*sz+j]?=some z∧cz S w y z:=by
     intro i x j y hx hy
     have hi:i<l.length:=by have:=(NL.1 hx).1;simpa using this
     have R7:=r0 i x hx
     have hj:j<sz:=by rw[← R7];exact(NL.1 hy).1
     obtain⟨z,hz,rfl⟩:=dg hx
     have hm:(i+1)*sz≤l.length*sz:=N8 _ hi
     rw[O0]at hm
     refine⟨us i j,?_,q5 i z j y hz hy⟩
     rw[N4,List.getElem?_range (by omega)]
     simp only[Oz,NW]
     rw[Nat.mul_add_mod_of_lt' hj,Nat.mul_comm i sz,Nat.mul_add_div (by omega),Nat.div_eq_of_lt hj,Ph]
    refine⟨some ⟨b,I',none⟩,c,(List.range (l.length*sz)).map fun k=>us (k / sz) (k%sz),by simp,(fun h=>by cases h),by simp,?_,key _ (by simp) r0 r2,r0,r2⟩
    rintro ad VY j u hu
    cases VY
    obtain⟨k,hk,rfl⟩:=dg hu
    obtain⟨h5,h6⟩:=NL.1 hk
    simp at h5 h6
    subst h6
    obtain⟨z,y,Wk,hz2⟩:=hz j h5
    rw[cQ,← q4 _ _ _ _ Wk hz2,← vP (by omega)]
   ·have hl:l=[]:=Oj (by omega)
    subst hl
    exact⟨p,c,[],rfl,fun h=>⟨h3 h,rfl⟩,by simp,fun ad _ j u hu=>by simp at hu,fun u hu=>by simp at hu,fun i x hx=>by simp at hx,fun i x j y hx=>by simp at hx⟩
  ·cases hn
 ·rename_i id
  split at hn
  ·rename_i E QK α enc d l G'
   split at hn
   ·rename_i Qk
    rw[N2]at Qk
    subst Qk
    cases hn
    rw[bq hx]
    have hA:=dK.of (hH.box id _ G')
    obtain⟨p,c,hm,q1,q2,q3,q4⟩:=bK (hH.box id _ G')
    obtain⟨r0,xs,r1,r2⟩:=hA
    refine⟨p,c,xs,by rw[hm];simp,fun hp=>⟨q3 hp,by rw[N1];have:=q3 hp;omega⟩,r1.1,?_,key xs r1.1 r0 r2,r0,r2⟩
    rintro ad rfl j u hu
    by_cases h0:0<l.length
    ·obtain⟨g,hg⟩:=q4 h0
     cases hg
     rw[cQ,OA]
     exact jf r1 (by rw[hm];rfl) j u hu
    ·have:xs.length=0:=by rw[r1.1,N1,show l.length=0 from by omega];simp
     have VV:xs=[]:=Oj this
     subst VV
     simp at hu
   ·cases hn
  ·cases hn
 ·cases hn
  cases hx
  exact⟨none,0,[],rfl,fun _=>⟨rfl,rfl⟩,by simp,fun ad h=>(by cases h),fun u hu=>by simp at hu,fun i x hx=>by simp at hx,fun i x j y hx=>by simp at hx⟩
 ·cases hn
  have hx:=bg hx
  cases hx
  exact⟨none,0,[],rfl,fun _=>⟨rfl,rfl⟩,by simp,fun ad h=>(by cases h),fun u hu=>by simp at hu,fun i x hx=>by simp at hx,fun i x j y hx=>by simp at hx⟩
 ·cases hn
  have hx:=bg hx
  cases hx with
  | esl p c hc=>exact⟨some p,c,[],rfl,fun h=>(by cases h),by simp,fun ad h j u hu=>by simp at hu,fun u hu=>by simp at hu,fun i x hx=>by simp at hx,fun i x j y hx=>by simp at hx⟩
 ·cases hn
theorem dK.append {w':World} {E sz:Nat} {L new:List (List V)} {u':Value} {xs Qq:List Value} (h0:∀(i:Nat) (x:List V),L[i]?=some x→x.length=sz) (R7:xs.length=L.length*sz)
  (h2:∀(i:Nat) (x:List V) (j:Nat) (y:V),L[i]?=some x→x[j]?=some y→∃z,xs[i*sz+j]?=some z∧cz S w' y z)
  (n0:∀(i:Nat) (x:List V),new[i]?=some x→x.length=sz)
  (n2:∀(i:Nat) (x:List V) (j:Nat) (y:V),new[i]?=some x→x[j]?=some y→∃z,Qq[i*sz+j]?=some z∧cz S w' y z)
  (ho:w'.ownsRow 0 E sz u' (L.length+new.length) (xs++Qq)):dK S w' E sz (L++new) u':=by
 refine⟨fun i x hx=>?_,xs++Qq,by rw[NY];exact ho,fun i x j y hx hy=>?_⟩
 ·by_cases hi:i<L.length
  ·rw[NU hi]at hx;exact h0 i x hx
  ·rw[NX (by omega)]at hx;exact n0 _ x hx
 ·by_cases hi:i<L.length
  ·rw[NU hi]at hx
   obtain⟨z,hz,hr⟩:=h2 i x j y hx hy
   exact⟨z,by rw[NU (NL.1 hz).1];exact hz,hr⟩
  ·rw[NX (by omega)]at hx
   obtain⟨z,hz,hr⟩:=n2 _ x j y hx hy
   refine⟨z,?_,hr⟩
   have hm:L.length*sz≤i*sz:=N8 _ (by omega)
   rw[NX (by omega),R7]
   rw[Nat.sub_mul]at hz
   rw[← hz]
   congr 1
   omega
theorem sg (t ty e:TypeId) (i:TypeInfo) (z:Value) (ht:P.underlying t=some (.slice e)) (hi:P.info? e=some i) (hz:i.zero=some z) (hzs:z.cells.size=i.size)
  {p:Option Addr} {n:Nat} {xs:List Value} (hpn:p=none→n=0) (R7:xs.length=n*i.size) (holds:∀ad,p=some ad→∀(j:Nat) (u:Value),xs[j]?=some u→w.cell? (ad.add j)=some u) {pa:Option Addr} {m c:Nat} {Qq:List Value} (hpa:pa=none→c=0∧m=0)
  (hl:Qq.length=m*i.size) (Ts:∀ad,pa=some ad→∀(j:Nat) (u:Value),Qq[j]?=some u→w.cell? (ad.add j)=some u) (hm0:0<m)
  (Wr:n+m≤maxLen) (RD:(n+m)*i.bytes≤140737488355328) :
  ∃v' w',(Builtin.append_ #[t,t] ty #[.slice p n n,.slice pa m c]).run P w=.ok v' w'∧w'.ownsRow 0 e i.size v' (n+m) (xs++Qq)∧w.grownBy w' none∧v'.ownBlock=some w.heap.size:=by
 cases pa with
 | none=>have:=(hpa rfl).2;omega
 | some ad =>
  have VG:=Ts ad rfl
  have Vg:n+m≤9223372036854775807:=by simp only[maxLen]at Wr;omega
  have Qi:(xs++Qq).length=(n+m)*i.size:=by rw[NY,R7,hl,PW]
  have R4:∀(old:Nat) (row:Option Nat),
    (w.drew.alloc (.cells (xs.toArray++Qq.toArray++Builtin.zeroCells z.cells (grownCap w (n+m) old e-(n+m))) e)).ownsRow 0 e i.size
     (.slice (some ⟨w.heap.size,0,none⟩) (n+m) (grownCap w (n+m) old e)) (n+m) (xs++Qq) ∧
    w.grownBy (w.drew.alloc (.cells (xs.toArray++Qq.toArray++Builtin.zeroCells z.cells (grownCap w (n+m) old e-(n+m))) e)) row:=by
   intro old row
   have Wq:=grownCap_ge w (n+m) old e
   have T5:grownCap w (n+m) old e≤maxLen:=grownCap_le_maxLen w (n+m) old e Wr
   refine⟨⟨Qi,.inr ⟨w.heap.size,_,_,rfl,Oy _,OM w.drew _,Wq,T5,?_,?_⟩⟩,⟨rfl,rfl,rfl,by simp,fun k hk _=>Below.heap_alloc w.drew _ k hk⟩⟩
   ·simp only[Array.size_append,Pl,size_zeroCells,hzs,R7,hl,← PW]
    congr 1
    omega
   ·simp only[Array.toList_append,OE]
    rw[← OE,← Qi]
    exact PF
  cases p with
  | none =>
   have hn:=hpn rfl
   subst hn
   have hx:xs=[]:=Oj (by simpa using R7)
   subst hx
   have hr:=run_append_nil (P:=P) w t ty e i z ht hi hz ad m c Qq hl VG (by omega) (by omega) (by have hb:=RD;simp only[OA]at hb;omega)
   have Sr:=R4 0 none
   simp only[OA,OU,Array.empty_append]at Sr ⊢
   exact⟨_,_,hr,Sr.1,Sr.2,rfl⟩
  | some b =>
   have hr:=run_append_grow (P:=P) w t ty e i z ht hi hz b n n xs R7 (holds b rfl) ad m c Qq hl VG (by omega) (by omega) (growslice_fits (by omega) RD)
   have Sr:=R4 n none
   exact⟨_,_,hr,Sr.1,Sr.2,rfl⟩
end
section
variable {C:jB} {S:Nat→Prop} {μ:Nat→Value} {st J':St} {a:Act} {w w':World} {p:Prop}
theorem u9 (h:aU C S μ st a w) {ov:Ov} {dst:Option Nat} {t ty:TypeId} {s x:D} {us ux:Value} (hs:ai S μ w s us) (hx:ai S μ w x ux) (hp:xf C.P C.nt st ov dst t s x=(J',p)) (D':p) :
  ∃u w' μ',(Builtin.append_ #[t,t] ty #[us,ux]).run C.P w=.ok u w'∧aU C S μ' J' (a.put dst u) w':=by
 unfold xf at hp
 split at hp
 ·rename_i E hu
  split at hp
  ·rename_i z new hz Qv
   split at hp
   ·rename_i Qt
    simp only[NK,N2,OY]at Qt
    obtain⟨⟨⟨hk,Rp⟩,Qy⟩,UB⟩:=Qt
    obtain⟨i,v,hi,hv,SS,Qk,VK⟩:=f5 hz
    have Rr:v.cells.size=i.size:=by rw[Qk,← Rp,SS];simp
    obtain⟨pa,c,Qq,rfl,n1,n2,n3,n4,n5,n6⟩:=gl h.heap Qy Qv hx
    rw[← Qk]at n2 n6 n5
    have bytes:∀k,k≤137438953472→k*i.bytes≤140737488355328:=by
     intro k hk
     have:k*i.bytes≤137438953472*1024:=PS hk (by omega)
     omega
    split at hp
    ·rename_i id
     split at hp
     ·rename_i E' QK α enc d l td G'
      split at hp
      ·rename_i Ui
       simp only[NK,N2,PA]at Ui
       obtain⟨⟨⟨rfl,rfl⟩,Vh⟩,hfx⟩:=Ui
       generalize hq:nI E (az C.P E) (l.map enc++new) ov=q at hp
       obtain⟨B,q⟩:=q
       simp only[NS]at hp
       obtain⟨rfl,rfl⟩:=hp
       obtain⟨Qi,VW⟩:=D'
       have QF:=bq hs
       subst QF
       obtain⟨r0,xs,r1,r2⟩:=dK.of (h.heap.box id _ G')
       simp only[N1]at r1
       have TP:l.length+new.length≤maxLen:=by simp only[maxLen];omega
       obtain⟨v',w',Qp,ho,hg,Qd⟩:=dq (P:=C.P) (w:=w) t ty E i v hu hi hv Rr (by rw[Qk];exact r1) n1 n2 n3 n4 TP (bytes _ Qi)
       have P9:(μ id).ownBlock=aF (μ id):=by
        obtain⟨p',c',hm,_⟩:=bK (h.heap.box id _ G')
        rw[hm]
        cases p'<;>rfl
       have Qh:id<st.heap.length:=(NL.1 G').1
       have So:∀b,S b→b<w.heap.size→w'.heap[b]?=w.heap[b]?:=fun b hb hl=>hg.block b hl (fun e=>h.heap.notS id _ b G' rfl (.inl (by rw[← P9];exact e.symm)) hb)
       have hA:dK S w' E (az C.P E) (l.map enc++new) v':=by
        rw[Qk]at ho n2 n5 n6
        refine dK.append r0 (by rw[r1.1];simp) (fun k x j y hx hy=>?_) n5 (fun k x j y hx hy=>?_) (by simpa using ho)
        ·obtain⟨z,hz,hr⟩:=r2 k x j y hx hy
         exact⟨z,hz,hr.stable (fun _ h _=>h) So hg.size⟩
        ·obtain⟨z,hz,hr⟩:=n6 k x j y hx hy
         exact⟨z,hz,hr.stable (fun _ h _=>h) So hg.size⟩
       obtain⟨hB,Uo⟩:=mm (μ:=aO μ id v') hq VW hA
       have hK:=h.kill id
       have Uv:(bN id st.heap)[id]?=some (.arr E (az C.P E) enc d l):=by rw[dX,G'];rfl
       have UY:∀b,bu v' b→(μ id).ownBlock=some b∨w.heap.size≤b:=by
        intro b hb
        have hb:=hb.bl (by rcases ho.2 with ⟨rfl,_⟩ | ⟨g,cap,Qz,rfl,_⟩<;>rfl)
        have SB:v'.ownBlock=aF v':=by
         rcases ho.2 with ⟨rfl,_⟩ | ⟨g,cap,Qz,rfl,_⟩<;>rfl
        rcases Qd with Qd | Qd
        ·exact .inl (by rw[← Qd,SB];exact hb)
        ·rw[SB,hb]at Qd
         cases Qd
         exact .inr (NN _)
       have Rz:=hK.upd (id:=id) (B:=B) (row:=(μ id).ownBlock) (u:=v') hg (fun k hk=>⟨_,Uv,rfl,.inl (by rw[← P9];exact hk)⟩) (by show id≤(bN id st.heap).length;rw[bH];omega)
        hB UY (.inr ⟨fun A hA=>by have QQ:(bN id st.heap)[id]?=some A:=hA;rw[Uv]at QQ;cases QQ;rfl,jG id _,jH id _⟩) (kO Uo)
       refine⟨v',w',_,Qp,Rz.put Vh ?_⟩
       have:=ai.own (S:=S) (μ:=aO μ id v') (w:=w') id
       rwa [ar]at this
      ·exact aq hp D'
     ·exact aq hp D'
    ·generalize hq:nI E (az C.P E) new ov=q at hp
     obtain⟨B,q⟩:=q
     simp only at hp
     have Sl:new.length≤137438953472∧q:=by
      have Ru:=hp
      unfold newBox at Ru
      split at Ru
      ·split at Ru
       ·simp only[NS]at Ru;rw[← Ru.2]at D';exact D'
       ·exact aq Ru D'
      ·exact aq Ru D'
     obtain⟨Qi,VW⟩:=Sl
     cases hs
     obtain⟨v',w',Qp,ho,hg,Qd⟩:=dq (P:=C.P) (w:=w) t ty E i v hu hi hv Rr (Pa w 0 E i.size) n1 n2 n3 n4 (by simp only[maxLen];omega) (bytes _ (by omega))
     have TQ:w.grownBy w' none:=hg
     have So:∀b,S b→b<w.heap.size→w'.heap[b]?=w.heap[b]?:=fun b hb hl=>TQ.block b hl (by simp)
     have hA:dK S w' E (az C.P E) ([]++new) v':=by
      rw[Qk]at ho n2 n5 n6
      refine dK.append (xs:=[]) (fun k x hx=>by simp at hx) (by simp) (fun k x j y hx=>by simp at hx) n5 (fun k x j y hx hy=>?_) (by simpa using ho)
      obtain⟨z,hz,hr⟩:=n6 k x j y hx hy
      exact⟨z,hz,hr.stable (fun _ h _=>h) So TQ.size⟩
     rw[OU]at hA
     obtain⟨hB,Uo⟩:=mm (μ:=aO μ st.heap.length v') hq VW hA
     refine⟨v',w',_,Qp,(h.newBox hp D' TQ hB (fun b hb=>?_) ?_ (kO Uo)).2⟩
     ·have hb:=hb.bl (by rcases ho.2 with ⟨rfl,_⟩ | ⟨g,cap,Qz,rfl,_⟩<;>rfl)
      have SB:v'.ownBlock=aF v':=by
       rcases ho.2 with ⟨rfl,_⟩ | ⟨g,cap,Qz,rfl,_⟩<;>rfl
      rcases Qd with Qd | Qd
      ·rw[SB,hb]at Qd;cases Qd
      ·rw[SB,hb]at Qd;cases Qd;exact NN _
     ·have:=ai.own (S:=S) (μ:=aO μ st.heap.length v') (w:=w') st.heap.length
      rwa [ar]at this
    ·rename_i QK α enc d0 l
     split at hp
     ·rename_i VT
      rw[N2]at VT
      subst VT
      generalize hq:nI E (az C.P E) (l.map enc++new) ov=q at hp
      obtain⟨B,q⟩:=q
      simp only at hp
      have Sl:0<new.length∧l.length+new.length≤137438953472∧q:=by
       have Ru:=hp
       unfold newBox at Ru
       split at Ru
       ·split at Ru
        ·simp only[NS]at Ru;rw[← Ru.2]at D';exact D'
        ·exact aq Ru D'
       ·exact aq Ru D'
      obtain⟨SZ,Qi,VW⟩:=Sl
      cases hs with
      | capd _ p n QY =>
       obtain⟨pq,cq,xs,he,x0,x1,x2,_,SD,x3⟩:=gl h.heap Qy (new:=l.map enc) (x:=.v (.sl (az C.P E) enc d0 l)) (by simp[tz]) (.v _ _ QY)
       simp only[Value.slice.injEq,N1]at he x1
       obtain⟨rfl,rfl,rfl⟩:=he
       rw[← Qk]at x1
       obtain⟨v',w',Qp,ho,hg,Qd⟩:=sg (P:=C.P) (w:=w) t ty E i v hu hi hv Rr (p:=p) (n:=l.length) (xs:=xs) (fun e=>by have:=(x0 e).2;simpa using this) x1 x2 n1 n2 n3 SZ (by simp only[maxLen];omega) (bytes _ Qi)
       have So:∀b,S b→b<w.heap.size→w'.heap[b]?=w.heap[b]?:=fun b hb hl=>hg.block b hl (by simp)
       have hA:dK S w' E (az C.P E) (l.map enc++new) v':=by
        rw[Qk]at ho n2 n5 n6 x1
        refine dK.append SD (by rw[x1];simp) (fun k x j y hx hy=>?_) n5 (fun k x j y hx hy=>?_) (by simpa using ho)
        ·obtain⟨z,hz,hr⟩:=x3 k x j y hx hy
         exact⟨z,hz,hr.stable (fun _ h _=>h) So hg.size⟩
        ·obtain⟨z,hz,hr⟩:=n6 k x j y hx hy
         exact⟨z,hz,hr.stable (fun _ h _=>h) So hg.size⟩
       obtain⟨hB,Uo⟩:=mm (μ:=aO μ st.heap.length v') hq VW hA
       refine⟨v',w',_,Qp,(h.newBox hp D' hg hB (fun b hb=>?_) ?_ (kO Uo)).2⟩
       ·have hb:=hb.bl (by rcases ho.2 with ⟨rfl,_⟩ | ⟨g,cap,Qz,rfl,_⟩<;>rfl)
        have SB:v'.ownBlock=aF v':=by
         rcases ho.2 with ⟨rfl,_⟩ | ⟨g,cap,Qz,rfl,_⟩<;>rfl
        rw[SB,hb]at Qd
        cases Qd
        exact NN _
       ·have:=ai.own (S:=S) (μ:=aO μ st.heap.length v') (w:=w') st.heap.length
        rwa [ar]at this
     ·exact aq hp D'
    ·exact aq hp D'
   ·exact aq hp D'
  ·exact aq hp D'
 ·exact aq hp D'
theorem tF (h:aU C S μ st a w) {ov:Ov} {dst:Option Nat} {t ty:TypeId} {s x:D} {us ux:Value} (hs:ai S μ w s us) (hx:ai S μ w x ux) (hp:tA C.P C.nt st ov dst t s x=(J',p)) (D':p) :
  ∃u w' μ',(Builtin.append_ #[t,t] ty #[us,ux]).run C.P w=.ok u w'∧aU C S μ' J' (a.put dst u) w':=by
 unfold tA at hp
 split at hp
 ·rename_i E id iy td hu
  split at hp
  ·rename_i z E1 sz1 n gs cell E2 Us m gs2 Wp Sy Qg hz G' hboy
   split at hp
   ·rename_i Qt
    simp only[NK,N2,OY,PA]at Qt
    obtain⟨⟨⟨⟨⟨hk,Rp⟩,Qy⟩,UB⟩,⟨rfl,rfl⟩,rfl⟩,Vh⟩:=Qt
    obtain⟨i,v,hi,hv,SS,Qk,VK⟩:=f5 hz
    have Rr:v.cells.size=i.size:=by rw[Qk,← Rp,SS];simp
    simp only[NS]at hp
    obtain⟨rfl,rfl⟩:=hp
    obtain⟨Qi,Rj⟩:=D'
    have QF:=bq hs
    subst QF
    have hux:=bq hx
    subst hux
    have bytes:∀k,k≤137438953472→k*i.bytes≤140737488355328:=by
     intro k hk
     have:k*i.bytes≤137438953472*1024:=PS hk (by omega)
     omega
    obtain⟨r0,xs,r1,r2⟩:=h.heap.box id _ G'
    obtain⟨q0,ys,q1,q2⟩:=h.heap.box iy _ hboy
    obtain⟨pa,c,hmu,hnc,T5,hpn,hpp⟩:=eH (h.heap.box iy _ hboy)
    have Uu:∀u∈ys,u.oneCell'=true:=by
     intro u hu
     obtain⟨k,hk,hku⟩:=PQ hu
     have hyl:=q1.1
     have Sp:k<m*az C.P E:=by omega
     have hdm:=Nat.div_add_mod k (az C.P E)
     have hml:=Nat.mod_lt k (show 0<az C.P E by omega)
     have hdl:k / az C.P E<m:=Nat.div_lt_of_lt_mul (by rw[Nat.mul_comm];exact Sp)
     obtain⟨z,hz,ho,_⟩:=q2 (k / az C.P E) (k%az C.P E) hdl hml
     rw[Nat.mul_comm,hdm,NM hk,hku]at hz
     cases hz
     exact ho
    have VZ:∀ad,pa=some ad→∀(j:Nat) (u:Value),ys[j]?=some u→w.cell? (ad.add j)=some u:=by
     intro ad had j u hj
     rcases q1.2 with ⟨hv0,_⟩ | ⟨g,cap,Qz,hv0,_⟩
     ·rw[hmu,had]at hv0
      cases hv0
     ·have Rm:=hv0
      rw[hmu]at Rm
      simp only[Value.slice.injEq]at Rm
      rw[had,NW]at Rm
      rw[Rm.1]
      exact q1.cells (g:=g) (by rw[hv0];rfl) j u hj
    rw[hmu]
    obtain⟨v',w',Qp,ho,hg,Qd⟩:=dq (P:=C.P) (w:=w) t ty E i v hu hi hv Rr (by rw[Qk];exact r1) (fun e=>⟨hpn e,by
      rcases Nat.eq_zero_or_pos m with h0 | h0
      ·exact h0
      ·obtain⟨g,hg⟩:=hpp h0;rw[hg]at e;cases e⟩) (by rw[Qk];exact q1.1) VZ Uu (by simp only[maxLen];omega) (bytes _ Qi)
    have P9:(μ id).ownBlock=aF (μ id):=by
     obtain⟨p',c',hm,_⟩:=eH (h.heap.box id _ G')
     rw[hm]
     cases p'<;>rfl
    have Qh:id<st.heap.length:=(NL.1 G').1
    have So:∀b,S b→b<w.heap.size→w'.heap[b]?=w.heap[b]?:=fun b hb hl=>hg.block b hl (fun e=>h.heap.notS id _ b G' rfl (.inl (by rw[← P9];exact e.symm)) hb)
    have QU:∀(d:D) (u:Value),ai S μ w d u→d.free id=true→ai S (aO μ id v') w' d u:=fun d u hd hf=>hd.stable (fun _ h _=>h) So hg.size (fun k hk=>aA _ _ (fun e=>by rw[e,hf]at hk;cases hk))
    rw[Qk]at ho
    have hB:aG S (aO μ id v') w' v' (.arrD E (az C.P E) (n+m) Sy Qg):=by
     refine⟨fun i j k hi hj hk=>(Rj i j hi hj).2.2 k hk,xs++ys,ho,fun i j hi hj=>?_⟩
     obtain⟨e1,e2,_⟩:=Rj i j hi hj
     by_cases hin:i<n
     ·rw[NT hin]at e1
      obtain⟨z,hz,h1,hr⟩:=r2 i j hin hj
      refine⟨z,?_,h1,QU _ _ (by rw[e1];exact hr) e2⟩
      rw[NU (NL.1 hz).1]
      exact hz
     ·rw[NQ hin]at e1
      obtain⟨z,hz,h1,hr⟩:=q2 (i-n) j (by omega) hj
      refine⟨z,?_,h1,QU _ _ (by rw[e1];exact hr) e2⟩
      have VX:n*az C.P E≤i*az C.P E:=N8 _ (by omega)
      have R7:=r1.1
      rw[NX (by omega),R7,show i*az C.P E+j-n*az C.P E=(i-n)*az C.P E+j by rw[Nat.sub_mul];omega]
      exact hz
    have hK:=h.kill id
    have Uv:∃A,(bN id st.heap)[id]?=some A∧A.live=true:=by
     refine⟨ak.kill id (.arrD E (az C.P E) n gs cell),by rw[dX,G'];rfl,?_⟩
     simp only[ak.kill]
     split<;>rfl
    have UY:∀b,bu v' b→(μ id).ownBlock=some b∨w.heap.size≤b:=by
     intro b hb
     have hb:=hb.bl (by rcases ho.2 with ⟨rfl,_⟩ | ⟨g,cap,Qz,rfl,_⟩<;>rfl)
     have SB:v'.ownBlock=aF v':=by
      rcases ho.2 with ⟨rfl,_⟩ | ⟨g,cap,Qz,rfl,_⟩<;>rfl
     rcases Qd with Qd | Qd
     ·exact .inl (by rw[← Qd,SB];exact hb)
     ·rw[SB,hb]at Qd
      cases Qd
      exact .inr (NN _)
    obtain⟨A,hA1,VM⟩:=Uv
    have Rz:=hK.upd0 (id:=id) (B:=.arrD E (az C.P E) (n+m) Sy Qg) (row:=(μ id).ownBlock) (u:=v') hg (fun k hk=>⟨A,hA1,VM,.inl (by rw[← P9];exact hk)⟩) (by show id≤(bN id st.heap).length;rw[bH];omega)
     hB UY (.inr ⟨jG id _,jH id _⟩) rfl
    refine⟨v',w',_,Qp,Rz.put Vh ?_⟩
    have:=ai.own (S:=S) (μ:=aO μ id v') (w:=w') id
    rwa [ar]at this
   ·exact aq hp D'
  ·exact aq hp D'
 ·exact aq hp D'
theorem Du {S:Nat→Prop} {w:World} {sz:Nat} {α β:Type} {enc:α→List V} {d:α} {l:List α} {Qb:β→List V} {d':β} {l':List β} {t:List (List V)} {g n m c c':Nat} (h:cz S w (.sl sz enc d l) (.slice (some ⟨g,0,none⟩) m c')) (he:l.map enc=l'.map Qb++t) (hn:n=l'.length) (hc:n≤c) (hm:c≤maxLen):cz S w (.sl sz Qb d' l') (.slice (some ⟨g,0,none⟩) n c):=by
 obtain⟨p,c0,e,h1,h2,h3,h4⟩:=eF h
 cases e
 refine kP hn (by omega) hm (fun e=>by cases e) (fun h0=>?_)
 have UW:l'.length≤l.length:=by have:=congrArg List.length he;simp only[N1,NY]at this;omega
 obtain⟨b,I',us,q1,q2,q3,q4,q5,q6⟩:=h4 (by omega)
 have back:∀(i:Nat) (x:β),l'[i]?=some x→∃y,l[i]?=some y∧enc y=Qb x:=fun i x hx=>dg (by
  rw[he,NU (by rw[N1];exact(NL.1 hx).1)];exact sB hx)
 refine⟨b,I',us,q1,q2,q3,fun i x hx=>?_,fun i x j y hx hy=>?_,fun i x j y hx hy=>?_⟩
 ·obtain⟨z,hz,e⟩:=back i x hx
  rw[← e];exact q4 i z hz
 ·obtain⟨z,hz,e⟩:=back i x hx
  exact q5 i z j y hz (by rw[e];exact hy)
 ·obtain⟨z,hz,e⟩:=back i x hx
  exact q6 i z j y hz (by rw[e];exact hy)
theorem tG (h:aU C S μ st a w) {ov:Ov} {dst:Option Nat} {t ty:TypeId} {s x:D} {us ux:Value} (hs:ai S μ w s us) (hx:ai S μ w x ux) (hp:tB C.P C.nt st ov dst t s x=(J',p)) (D':p) :
  ∃u w' S' μ',(Builtin.append_ #[t,t] ty #[us,ux]).run C.P w=.ok u w'∧aU C S' μ' J' (a.put dst u) w':=by
 unfold tB at hp
 split at hp
 ·rename_i E id td hu
  split at hp
  ·rename_i z new E0 UM α enc d l E' QK β Qb d' l' hz Qv G'
   split at hp
   ·rename_i Qt
    simp only[NK,N2,OY,PA]at Qt
    obtain⟨⟨⟨⟨⟨hk,Rp⟩,Qy⟩,UB⟩,⟨⟨rfl,rfl⟩,rfl⟩,rfl⟩,⟨⟨Vh,Rh⟩,TN⟩,⟨Up,SA⟩,hih⟩:=Qt
    simp only[NS]at hp
    obtain⟨rfl,rfl⟩:=hp
    obtain⟨Qi,hll,hall⟩:=D'
    obtain⟨i,v,hi,hv,SS,Qk,VK⟩:=f5 hz
    have Rr:v.cells.size=i.size:=by rw[Qk,← Rp,SS];simp
    obtain⟨pa,c,Qq,rfl,n1,n2,n3,n4,n5,n6⟩:=gl h.heap Qy Qv hx
    rw[← Qk]at n2 n6 n5
    have bytes:∀k,k≤137438953472→k*i.bytes≤140737488355328:=by
     intro k hk
     have:k*i.bytes≤137438953472*1024:=PS hk (by omega)
     omega
    have QF:=bq hs
    subst QF
    have Q1:=h.heap.box id _ G'
    obtain⟨r0,xs,r1,r2⟩:=dK.of Q1
    simp only[N1]at r1
    have TP:l.length+new.length≤maxLen:=by simp only[maxLen];omega
    obtain⟨v',w',Qp,ho,hg,Qd,ho2⟩:=kF (P:=C.P) (w:=w) t ty E i v hu hi hv Rr (by rw[Qk];exact r1) n1 n2 n3 n4 TP (bytes _ Qi)
    obtain⟨p0,c0,hm0,b1,b2,b3,b4⟩:=bK Q1
    have Sf:(μ id).oneCell'=true:=by rw[hm0];rfl
    have P9:(μ id).ownBlock=aF (μ id):=by rw[hm0];cases p0<;>rfl
    have hvo:v'.oneCell'=true:=by rcases ho.2 with ⟨rfl,_⟩ | ⟨g,cap,Qz,rfl,_⟩<;>rfl
    have SB:v'.ownBlock=aF v':=by
     rcases ho.2 with ⟨rfl,_⟩ | ⟨g,cap,Qz,rfl,_⟩<;>rfl
    have Qh:id<st.heap.length:=(NL.1 G').1
    have So:∀b,S b→b<w.heap.size→w'.heap[b]?=w.heap[b]?:=fun b hb hl=>hg.block b hl (fun e=>h.heap.notS id _ b G' rfl (.inl (by rw[← P9];exact e.symm)) hb)
    have hA:dK S w' E (az C.P E) (l.map enc++new) v':=by
     rw[Qk]at ho n2 n5 n6
     refine dK.append r0 (by rw[r1.1];simp) (fun k x j y hx hy=>?_) n5 (fun k x j y hx hy=>?_) (by simpa using ho)
     ·obtain⟨z,hz,hr⟩:=r2 k x j y hx hy
      exact⟨z,hz,hr.stable (fun _ h _=>h) So hg.size⟩
     ·obtain⟨z,hz,hr⟩:=n6 k x j y hx hy
      exact⟨z,hz,hr.stable (fun _ h _=>h) So hg.size⟩
    have hq0:∀A,(st.heap++[ak.dead])[st.heap.length]?=some A→A=.dead:=fun A hA=>by simp at hA;exact hA.symm
    have RI:aY st.heap.length (st.heap++[ak.dead])=true:=qC TN rfl
    have h0:∀u,aU C S (aO μ st.heap.length u) ⟨st.env,st.heap++[.dead]⟩ a w:=fun u=>aU.ghost (h.heapTo (H:=st.heap++[.dead]) (fun i B hB=>by
     by_cases hi:i<st.heap.length
     ·rw[NU hi]at hB;exact .inr hB
     ·rw[NX (by omega)]at hB
      cases hq:i-st.heap.length with
      | zero=>rw[hq]at hB;cases hB;exact .inl rfl
      | succ n=>rw[hq]at hB;simp at hB)) u hq0 Rh RI
    have QI:id≠st.heap.length:=by omega
    have RU:(st.heap++[ak.dead])[id]?=some (.arr E (az C.P E) enc d l):=by rw[NU Qh];exact G'
    have Ws:br id (st.heap++[ak.dead])=true:=tn Up rfl
    have hfD:aY id (bO id (.nw st.heap.length) (st.heap++[ak.dead]))=true:=by rw[kU];exact qC hih rfl
    have TU:∀q,q∈pb id st.env∨q∈kT id (st.heap++[ak.dead])→q∈pb id st.env++kT id st.heap:=fun q hq=>by
     rcases hq with hq | hq
     ·exact OS _ hq
     ·rcases vH hq with hq | hq
      ·exact OK _ hq
      ·simp[yv]at hq
    have Wt:∀X:ak,((bO id (.nw st.heap.length) (st.heap++[ak.dead])).set id X).length=st.heap.length+1:=fun X=>by rw[Ok,kV,NY];rfl
    have Wu:∀X:ak,eR st.heap.length (.nw id) X=X→bO st.heap.length (.nw id) ((bO id (.nw st.heap.length) (st.heap++[ak.dead])).set id X)=(bO id (.nw id) st.heap).set id X++[.dead]:=fun X hX=>by
     rw[yw hX,vG RI Ws,kU,List.set_append_left _ _ (by rw[kV];exact Qh)]
     rfl
    have UG:∀X B:ak,bh ((bO id (.nw st.heap.length) (st.heap++[ak.dead])).set id X) id B=(bO id (.nw st.heap.length) (st.heap++[ak.dead])).set id B:=fun X B=>by
     unfold bh
     rw[NQ (by rw[N2,Wt];omega),List.set_set]
    have hfs:∀X:ak,ak.free id X=true→aY id ((bO id (.nw st.heap.length) (st.heap++[ak.dead])).set id X)=true:=fun X hX=>vI hfD hX
    have hnoq:∀X:ak,(∀(E sz n:Nat) (gs:List Nat) (cell:Nat→Nat→D),X≠.arrD E sz n gs cell)→br st.heap.length ((bO id (.nw st.heap.length) (st.heap++[ak.dead])).set id X)=true:=fun X hX=>ow (ou (kW RI)) hX
    rcases Qd with Qd | ⟨Qd,hgn⟩
    ·-- in its SK
     have k1:=h0 (μ id)
     have Vi:aO μ st.heap.length (μ id) id=μ id:=aA _ _ QI
     have k2:=k1.recast (id:=id) (x:=.nw st.heap.length) trivial Ws (fun q _ _ g n c e _ _ _=>.inl (by rw[ar];rw[Vi]at e;exact e))
     have UJ:(bO id (.nw st.heap.length) (st.heap++[ak.dead]))[id]?=some (.arr E (az C.P E) enc d l):=by rw[gf,RU];rfl
     have e0:(bO id (.nw st.heap.length) (st.heap++[ak.dead])).set id (.arr E (az C.P E) enc d l)=bO id (.nw st.heap.length) (st.heap++[ak.dead]):=List.ext_getElem? (fun j=>by
       rw[P0]
       by_cases hj:id=j
       ·subst hj;rw[NT rfl,NT (NL.1 UJ).1];exact UJ.symm
       ·rw[NQ hj])
     have k3:=k2.upd0 (id:=id) (B:=.arr E (az C.P E) Qb d' l') (row:=(μ id).ownBlock) (u:=v') hg (fun k hk=>⟨_,UJ,rfl,.inl (by rw[Vi,← P9];exact hk)⟩) (by show id≤(bO id _ _).length;rw[kV,NY];omega)
      (hA.box hll) (fun b hb=>.inl (by rw[← Qd,SB];exact hb.bl hvo)) (.inr ⟨SA,hfD⟩) rfl
     have e1:bh (bO id (.nw st.heap.length) (st.heap++[ak.dead])) id (.arr E (az C.P E) Qb d' l')=(bO id (.nw st.heap.length) (st.heap++[ak.dead])).set id (.arr E (az C.P E) Qb d' l'):=by rw[← e0,UG,List.set_set]
     rw[e1]at k3
     have k4:=k3.recast (id:=st.heap.length) (x:=.nw id) trivial (hnoq _ (fun E sz n gs cell e=>by cases e)) (fun q _ _ g n c e _ _ _=>.inl (by
      rw[ar,← SB,Qd,P9]
      rw[aA _ _ (fun e=>QI e.symm),ar]at e
      exact e))
     simp only[Wu _ (show eR st.heap.length (.nw id) (ak.arr E (az C.P E) Qb d' l')=_ from rfl),ji Rh]at k4
     refine⟨v',w',_,_,Qp,k4.put Vh ?_⟩
     have:=ai.own (S:=S) (μ:=aO (aO μ st.heap.length (μ id)) id v') (w:=w') id
     rwa [ar]at this
    ·-- in a new block
     have k1:=h0 (.bool true)
     have Vi:aO μ st.heap.length (.bool true) id=μ id:=aA _ _ QI
     have QY:cz (fun b=>S b∨bu (aO μ st.heap.length (.bool true) id) b) w (.sl (az C.P E) enc d l) (μ id):=dh (μ:=μ) Q1 (fun b hb=>.inl hb) (fun b hb=>.inr (by rw[Vi];exact hb)) h.slt
     have k2:=k1.freezeX (id:=id) (z:=.nw st.heap.length) RU rfl trivial (fun _=>Ws) (fun q hq hsh g n c e en ec em=>.inr (by
      obtain⟨e1,t,e2⟩:=tj hall (TU q hq) hsh
      rw[Vi,hm0]at e
      cases p0 with
      | none=>cases e
      | some ad =>
       rw[hm0]at QY
       rw[e1]
       by_cases SD:0<l.length
       ·obtain⟨g',TQ⟩:=b4 SD
        cases TQ
        cases e
        exact Du QY e2 en ec em
       ·have hq0:q.l=[]:=by
         have h1:=congrArg List.length e2
         simp only[N1,NY]at h1
         exact Oj (by omega)
        rw[hq0]at en ⊢
        subst en
        exact .nil _ _ _ _ _ em (fun e=>by cases e)))
     have QQ:dK (fun b=>S b∨bu (aO μ st.heap.length (.bool true) id) b) w' E (az C.P E) (l.map enc++new) v':=by
      obtain⟨y0,ys,y1,y2⟩:=hA
      exact⟨y0,ys,y1,fun k x j y hx hy=>by
       obtain⟨z,hz,hr⟩:=y2 k x j y hx hy
       exact⟨z,hz,hr.stable (fun b hb _=>.inl hb) (fun _ _ _=>rfl) (NN _)⟩⟩
     have k3:=k2.upd0 (id:=id) (B:=.arr E (az C.P E) Qb d' l') (row:=none) (u:=v') hgn (fun k hk=>by cases hk) (by show id≤List.length _;rw[Wt];omega)
      (QQ.box hll) (fun b hb=>.inr (by have hb:=hb.bl hvo;rw[SB,hb]at Qd;cases Qd;exact NN _)) (.inr ⟨SA,hfs _ rfl⟩) rfl
     simp only[UG]at k3
     have k4:=k3.recast (id:=st.heap.length) (x:=.nw id) trivial (hnoq _ (fun E sz n gs cell e=>by cases e)) (fun q _ _ g n c e _ _ _=>by
      rw[aA _ _ (fun e=>QI e.symm),ar]at e
      cases e)
     simp only[Wu _ (show eR st.heap.length (.nw id) (ak.arr E (az C.P E) Qb d' l')=_ from rfl),ji Rh]at k4
     refine⟨v',w',_,_,Qp,k4.put Vh ?_⟩
     have:=ai.own (S:=fun b=>S b∨bu (aO μ st.heap.length (.bool true) id) b) (μ:=aO (aO μ st.heap.length (.bool true)) id v') (w:=w') id
     rwa [ar]at this
   ·exact aq hp D'
  ·exact aq hp D'
 ·exact aq hp D'
theorem aU.bothF {Sx:Nat→Prop} (hR:aU C Sx μ ⟨st.env,st.heap++[.dead]⟩ a w) {id E sz td:Nat} {α β:Type} {enc:α→List V} {d:α} {l:List α} {Qb:β→List V} {d':β} {l':List β} (G':st.heap[id]?=some (.arr E sz enc d l)) (Vh:td<C.nt) {v:Value}
  (hv:cz (fun b=>Sx b∨bu (μ id) b) w (.sl sz Qb d' l') v):∃S',aU C S' μ ⟨sd (ic id (.sl (.sl sz enc d l)) st.env) td (.v (.sl sz Qb d' l')),(bO id (.sl (.sl sz enc d l)) st.heap).set id .dead++[.dead]⟩ (a.put (some td) v) w:=by
 have Qh:id<st.heap.length:=(NL.1 G').1
 have RU:(st.heap++[ak.dead])[id]?=some (.arr E sz enc d l):=by rw[NU Qh];exact G'
 have h1:=hR.freezeX (id:=id) (z:=.sl (.sl sz enc d l)) RU rfl (dh (hR.heap.box id _ RU) (fun b hb=>.inl hb) (fun b hb=>.inr hb) hR.slt) (fun e=>by cases e) (fun p _=>u7.triv rfl p)
 have h2:=h1.put Vh (.v _ _ hv)
 have e:(bO id (.sl (.sl sz enc d l)) (st.heap++[ak.dead])).set id .dead=(bO id (.sl (.sl sz enc d l)) st.heap).set id .dead++[.dead]:=by
  rw[kU,List.set_append_left _ _ (by rw[kV];exact Qh)]
  rfl
 rw[← e]
 exact⟨_,h2⟩
theorem tH (h:aU C S μ st a w) {ov:Ov} {dst:Option Nat} {t ty:TypeId} {s x:D} {us ux:Value} (hs:ai S μ w s us) (hx:ai S μ w x ux) (hp:tC C.P C.nt st ov dst t s x=(J',p)) (D':p) :
  ∃u w' S' μ',(Builtin.append_ #[t,t] ty #[us,ux]).run C.P w=.ok u w'∧aU C S' μ' J' (a.put dst u) w':=by
 unfold tC at hp
 split at hp
 ·rename_i E id td hu
  split at hp
  ·rename_i z new E0 UM α enc d l E' QK β Qb d' l' hz Qv G'
   split at hp
   ·rename_i Qt
    simp only[NK,N2,OY,PA]at Qt
    obtain⟨⟨⟨⟨⟨hk,Rp⟩,Qy⟩,UB⟩,⟨⟨rfl,rfl⟩,rfl⟩,rfl⟩,⟨Vh,Rh⟩,TN⟩:=Qt
    simp only[NS]at hp
    obtain⟨rfl,rfl⟩:=hp
    obtain⟨Qi,hll⟩:=D'
    obtain⟨i,v,hi,hv,SS,Qk,VK⟩:=f5 hz
    have Rr:v.cells.size=i.size:=by rw[Qk,← Rp,SS];simp
    obtain⟨pa,c,Qq,rfl,n1,n2,n3,n4,n5,n6⟩:=gl h.heap Qy Qv hx
    rw[← Qk]at n2 n6 n5
    have bytes:∀k,k≤137438953472→k*i.bytes≤140737488355328:=by
     intro k hk
     have:k*i.bytes≤137438953472*1024:=PS hk (by omega)
     omega
    have QF:=bq hs
    subst QF
    have Q1:=h.heap.box id _ G'
    obtain⟨r0,xs,r1,r2⟩:=dK.of Q1
    simp only[N1]at r1
    have TP:l.length+new.length≤maxLen:=by simp only[maxLen];omega
    obtain⟨v',w',Qp,ho,hg,Qd,ho2⟩:=kF (P:=C.P) (w:=w) t ty E i v hu hi hv Rr (by rw[Qk];exact r1) n1 n2 n3 n4 TP (bytes _ Qi)
    have P9:(μ id).ownBlock=aF (μ id):=by
     obtain⟨p',c',hm,_⟩:=bK Q1
     rw[hm]
     cases p'<;>rfl
    have SB:v'.ownBlock=aF v':=by
     rcases ho.2 with ⟨rfl,_⟩ | ⟨g,cap,Qz,rfl,_⟩<;>rfl
    have Qh:id<st.heap.length:=(NL.1 G').1
    have So:∀b,S b→b<w.heap.size→w'.heap[b]?=w.heap[b]?:=fun b hb hl=>hg.block b hl (fun e=>h.heap.notS id _ b G' rfl (.inl (by rw[← P9];exact e.symm)) hb)
    have hA:dK S w' E (az C.P E) (l.map enc++new) v':=by
     rw[Qk]at ho n2 n5 n6
     refine dK.append r0 (by rw[r1.1];simp) (fun k x j y hx hy=>?_) n5 (fun k x j y hx hy=>?_) (by simpa using ho)
     ·obtain⟨z,hz,hr⟩:=r2 k x j y hx hy
      exact⟨z,hz,hr.stable (fun _ h _=>h) So hg.size⟩
     ·obtain⟨z,hz,hr⟩:=n6 k x j y hx hy
      exact⟨z,hz,hr.stable (fun _ h _=>h) So hg.size⟩
    have hA0:dK S w' E (az C.P E) (l.map enc) (μ id):=by
     refine⟨r0,xs,by rw[Qk]at ho2;simpa using ho2,fun k x j y hx hy=>?_⟩
     obtain⟨z,hz,hr⟩:=r2 k x j y hx hy
     exact⟨z,hz,hr.stable (fun _ h _=>h) So hg.size⟩
    rcases Qd with Qd | ⟨Qd,hgn⟩
    ·-- in its SK,or nothing at all
     have Rz:=h.upd (id:=id) (B:=.arr E (az C.P E) enc d l) (row:=(μ id).ownBlock) (u:=μ id) hg (fun k hk=>⟨_,G',rfl,.inl (by rw[← P9];exact hk)⟩) (by omega)
      (by rw[du];exact hA0.box rfl) (fun b hb=>.inl (by rw[P9];exact hb.bl (by obtain⟨p',c',hm,_⟩:=bK Q1;rw[hm];rfl))) (.inl ⟨rfl,.inr ⟨_,G',rfl⟩⟩)
     rw[du]at Rz
     have he:bh st.heap id (.arr E (az C.P E) enc d l)=st.heap:=by
      unfold bh
      rw[NQ (by rw[N2];omega)]
      exact List.ext_getElem? (fun j=>by
       rw[P0]
       by_cases hj:id=j
       ·subst hj;rw[NT rfl,NT Qh];exact G'.symm
       ·rw[NQ hj])
     rw[he]at Rz
     have hu3:=Rz.heapTo (H:=st.heap++[.dead]) (fun i B hB=>by
      by_cases hi:i<st.heap.length
      ·rw[NU hi]at hB;exact .inr hB
      ·rw[NX (by omega)]at hB
       cases hq:i-st.heap.length with
       | zero=>rw[hq]at hB;cases hB;exact .inl rfl
       | succ n=>rw[hq]at hB;simp at hB)
     have QY:cz (fun b=>S b∨bu (μ id) b) w' (.sl (az C.P E) Qb d' l') v':=dh (μ:=μ) (hA.box hll) (fun b hb=>.inl hb) (fun b hb=>.inr (.inl (by rw[← P9,← Qd,SB];exact hb.bl (by rcases ho.2 with ⟨rfl,_⟩ | ⟨g,cap,Qz,rfl,_⟩<;>rfl)))) Rz.slt
     obtain⟨S',hR⟩:=aU.bothF (st:=st) hu3 G' Vh QY
     exact⟨v',w',S',μ,Qp,hR⟩
    ·-- in a new block
     have Rz:=h.upd (id:=st.heap.length) (B:=.arr E (az C.P E) Qb d' l') (row:=none) (u:=v') hgn (fun k hk=>by cases hk) (NN _)
      (hA.box hll) (fun b hb=>.inr (by have hb:=hb.bl (by rcases ho.2 with ⟨rfl,_⟩ | ⟨g,cap,Qz,rfl,_⟩<;>rfl);rw[SB,hb]at Qd;cases Qd;exact NN _)) (.inr ⟨fun A hA=>by simp at hA,Rh,TN⟩)
     rw[show bh st.heap st.heap.length (.arr E (az C.P E) Qb d' l')=st.heap++[.arr E (az C.P E) Qb d' l']from by simp[bh]]at Rz
     have RU:(st.heap++[ak.arr E (az C.P E) Qb d' l'])[st.heap.length]?=some (.arr E (az C.P E) Qb d' l'):=by simp
     have hr2:=dh (S':=fun b=>S b∨bu (aO μ st.heap.length v' st.heap.length) b) (Rz.heap.box _ _ RU) (fun b hb=>.inl hb) (fun b hb=>.inr hb) Rz.slt
     have hu3:=Rz.freezeX (id:=st.heap.length) (z:=.sl (.sl (az C.P E) Qb d' l')) RU rfl hr2 (fun e=>by cases e) (fun p _=>u7.triv rfl p)
     have e1:ic st.heap.length (.sl (.sl (az C.P E) Qb d' l')) st.env=st.env:=mj Rh
     have e2:(bO st.heap.length (.sl (.sl (az C.P E) Qb d' l')) (st.heap++[ak.arr E (az C.P E) Qb d' l'])).set st.heap.length .dead=st.heap++[.dead]:=by
      rw[kU,vD TN]
      simp[bO,eR]
     simp only[e1,e2]at hu3
     rw[ar]at hr2
     have QY:cz (fun b=>(S b∨bu (aO μ st.heap.length v' st.heap.length) b)∨bu (aO μ st.heap.length v' id) b) w' (.sl (az C.P E) Qb d' l') v':=by
      rw[ar]
      exact hr2.stable (fun b hb _=>.inl hb) (fun _ _ _=>rfl) (NN _)
     obtain⟨S',hR⟩:=aU.bothF (st:=st) hu3 G' Vh QY
     exact⟨v',w',S',_,Qp,hR⟩
   ·exact aq hp D'
  ·exact aq hp D'
 ·exact aq hp D'
end
section
variable {C:jB} {S:Nat→Prop} {μ:Nat→Value} {st J':St} {a:Act} {w w':World} {p:Prop}
theorem aU.ePut (h:aU C S μ st a w) {dst:Option Nat} {d:D} {q:Prop} {u:Value} (hp:ePut C.nt st dst d q=(J',p)) (D':p) (hd:ai S μ w d u):q∧aU C S μ J' (a.put dst u) w:=by
 unfold Proofs.Ytcejcppjedhicaa.ePut at hp
 split at hp
 ·split at hp
  ·rename_i t ht
   rw[PA]at ht
   simp only[NS]at hp
   obtain⟨rfl,rfl⟩:=hp
   exact⟨D',h.put ht hd⟩
  ·exact aq hp D'
 ·simp only[NS]at hp
  obtain⟨rfl,rfl⟩:=hp
  exact⟨D',h⟩
theorem aK.evals (h:aU C S μ st a w) (args:Array Operand):aK S μ w (args.toList.map (dW st.env)) (args.map a.eval):=by
 refine⟨by simp,fun j y z hy hz=>?_⟩
 simp only[N4,Oo,O1]at hy hz
 cases hj:args[j]? with
 | none=>rw[hj]at hy;cases hy
 | some x=>rw[hj]at hy hz;simp at hy hz;subst hy hz;exact h.eval x
theorem aK.app {cs ds:List D} {us vs:Array Value} (h:aK S μ w cs us) (k:aK S μ w ds vs):aK S μ w (cs++ds) (us++vs):=by
 refine⟨by simp[h.1,k.1],fun j y z hy hz=>?_⟩
 by_cases hj:j<cs.length
 ·rw[NU hj]at hy
  rw[Array.getElem?_append_left (by rw[h.1];exact hj)]at hz
  exact h.2 j y z hy hz
 ·rw[NX (by omega)]at hy
  rw[Array.getElem?_append_right (by rw[h.1];omega),h.1]at hz
  exact k.2 _ y z hy hz
theorem bA {P:Program} {f:FuncId} (h:gi P f=true) (args:Array Value) (w:World):(callFunc f args).run P w=.ok (.enter f args) w:=by
 unfold gi at h
 cases hf:P.funcs[f]? with
 | none=>rw[hf]at h;cases h
 | some fn =>
  rw[hf]at h
  simp only[NK,Oc]at h
  have n1:fn.name ≠ "runtime.NumGoroutine" := by simpa using h.1
  have n2:fn.body≠none:=fun e=>by rw[e]at h;simp at h
  simp[callFunc,program,Sem.run,hf,n1,n2]
theorem dF {nt:Nat} {dst:Option Nat} {d:D} {q:Prop} (hp:ePut nt st dst d q=(J',p)) (D':p):q:=by
 unfold ePut at hp
 split at hp
 ·split at hp
  ·simp only[NS]at hp;rw[← hp.2]at D';exact D'
  ·exact aq hp D'
 ·simp only[NS]at hp;rw[← hp.2]at D';exact D'
theorem oA (w:World):w.grownBy w none:=⟨rfl,rfl,rfl,NN _,fun _ _ _=>rfl⟩
theorem aU.pushFrame (h:aU C S μ st a w) (hf:bv st.heap.length st.env=true) (hh:aY st.heap.length st.heap=true) :
  aU C S (aO μ st.heap.length (.bool true)) ⟨st.env,st.heap++[.frame a.tmps st.env]⟩ a w:=by
 have:=h.upd (id:=st.heap.length) (B:=.frame a.tmps st.env) (row:=none) (u:=.bool true) (oA w) (fun k hk=>by cases hk) (NN _)
  ⟨rfl,fun t d hm=>?_⟩ (fun b hb=>by simp[bu,aF]at hb) (.inr ⟨fun A hA=>by simp at hA,hf,hh⟩)
 ·rw[show bh st.heap st.heap.length (.frame a.tmps st.env)=st.heap++[.frame a.tmps st.env]from by simp[bh]]at this
  exact this
 ·obtain⟨q1,q2⟩:=h.env t d hm
  refine⟨by rw[h.tsize];exact q1,q2.stable (fun _ h _=>h) (fun _ _ _=>rfl) (NN _) (fun i hi=>aA _ _ (fun e=>?_))⟩
  subst e
  rw[bR hf hm]at hi
  cases hi
theorem aU.loopTo (h:aU C S μ st a w) {id l:Nat} {tm:Array Value} {nt:Nat} {env:List (Nat×D)} {ps:List Nat} {q' bd:Code} {s:LoopState} {pe:Option Code} (G':st.heap[id]?=some (.loop l tm nt env ps q' bd s pe)) (s':LoopState) (pe':Option Code) :
  ∃r:Loop,w.heap[l]?=some (.loop r)∧r.state=s∧r.pending=pe∧r.params=ps.toArray∧r.assign=q'∧r.body=bd∧r.tmps=tm∧tm.size=nt ∧
   aU C S μ ⟨st.env,st.heap.set id (.loop l tm nt env ps q' bd s' pe')⟩ a (w.putObj l (.loop { r with state:=s',pending:=pe' })):=by
 obtain⟨r,hμ,g1,g2,g3,g4,g5,g6,g7,g8,g9⟩:=h.heap.box id _ G'
 have Qh:id<st.heap.length:=(NL.1 G').1
 have hll:l<w.heap.size:=(NV.1 g1).1
 refine⟨r,g1,g2,g3,g4,g5,g6,g7,g8,?_⟩
 have Tt:aF (μ id)=some l:=by rw[hμ];rfl
 have Qd:bu (μ id) l:=.inl Tt
 have hg:w.grownBy (w.putObj l (.loop { r with state:=s',pending:=pe' })) (some l):=⟨rfl,rfl,rfl,by rw[PZ];exact NN _,fun k _ hk=>Px (fun e=>hk (by rw[e]))⟩
 have hSl:¬S l:=h.heap.notS id _ l G' rfl Qd
 have:=h.upd (id:=id) (B:=.loop l tm nt env ps q' bd s' pe') (row:=some l) (u:=μ id) hg (fun k hk=>⟨_,G',rfl,by cases hk;exact Qd⟩) (Nat.le_of_lt Qh) ?_ (fun b hb=>.inl (hb.one Tt)) (.inl ⟨rfl,.inl rfl⟩)
 ·have e1:aO μ id (μ id)=μ:=by funext i;unfold aO;split<;>simp_all
  rw[e1]at this
  have e2:bh st.heap id (.loop l tm nt env ps q' bd s' pe')=st.heap.set id (.loop l tm nt env ps q' bd s' pe'):=by
   unfold bh
   have:Nat.beq id st.heap.length=false:=by
    cases hb:Nat.beq id st.heap.length
    ·rfl
    ·rw[N2]at hb;omega
   rw[this]
   rfl
  rw[e2]at this
  exact this
 ·have e1:aO μ id (μ id)=μ:=by funext i;unfold aO;split<;>simp_all
  rw[e1]
  refine⟨_,hμ,World.putObj_heap_same hll,rfl,rfl,g4,g5,g6,g7,g8,fun t d hm=>?_⟩
  obtain⟨q1,q2⟩:=g9 t d hm
  refine⟨q1,q2.stable (fun _ h _=>h) (fun b hb _=>Px (fun e=>hSl (e ▸ hb))) (by rw[PZ];exact NN _) (fun _ _=>rfl)⟩
theorem Dv {H:List ak} {n:Nat} (h:oz H[n]?=true):n<H.length∧H[n]?=some .dead:=by
 unfold oz at h
 split at h
 ·rename_i hh;exact⟨(NL.1 hh).1,hh⟩
 ·cases h
theorem BZ {H L:List ak} {n:Nat} {F:ak} (hd:oz H[n]?=true) (ht:L.take (H.set n F).length=H.set n F):L[n]?=some F∧∀(i:Nat) (B:ak),H[i]?=some B→B=.dead∨L[i]?=some B:=by
 obtain⟨h1,h2⟩:=Dv hd
 have key:∀i,i<H.length→L[i]?=(H.set n F)[i]?:=fun i hi=>by
  rw[← ht,Ob,NT (by simpa using hi)]
 refine⟨by rw[key n h1,N0 h1],fun i B hB=>?_⟩
 have hi:i<H.length:=(NL.1 hB).1
 by_cases e:i=n
 ·subst e
  rw[h2]at hB
  cases hB
  exact .inl rfl
 ·rw[key i hi,NZ (fun h=>e h.symm)]
  exact .inr hB
theorem tI (h:aU C S μ st a w) {dst:Option Nat} {g:FuncId} {ds:List D} {r:D} {env:List (Nat×D)} {H:List ak} {us:Array Value} (QF:∀(μ1:Nat→Value) (H1:List ak),aU C S μ1 ⟨st.env,H1⟩ a w→aK S μ1 w ds us)
  (hp:EG C.P C.nt st dst g ds r env H=(J',p)) (D':p) {K:Act→World→Prop} (hK:∀S' μ' a' w',aU C S' μ' J' a' w'→K a' w'):gi C.P g=true∧Calls C.P g us w (fun e w'=>∃u,e=.returned u∧K (a.put dst u) w'):=by
 unfold EG at hp
 split at hp
 ·rename_i hc
  simp only[NK]at hc
  obtain⟨⟨⟨SC,Rh⟩,TN⟩,U1⟩:=hc
  refine⟨SC,?_⟩
  obtain⟨fn,c,hf,hb,hn,hev⟩:=dF hp D' a.tmps
  rw[OY]at hn
  have h1:=h.pushFrame Rh TN
  obtain⟨mk,d1,d2,d3⟩:=h1.defers
  have QY:=QF _ _ h1
  let C1:jB:=⟨C.P,C.W,C.S0,fn.ntmps,mk++C.susp,none,C.g⟩
  have hR:aU C1 S (aO μ st.heap.length (.bool true)) ⟨ii 0 ds,st.heap++[.frame a.tmps st.env]⟩ (tp us fn.ntmps) w :=
   h1.turn (C1:=C1) (mk:=mk) (Wo:=[]) d2 d3 rfl rfl rfl (pg QY.1 hn) (sF QY hn)
  refine(iK (C:=C1) hf hb rfl hR (hev C1 rfl rfl rfl) (fun e J' hq=>?_)).mono ?_
  ·cases e<;>first | exact⟨.inl rfl,hq.1⟩ | exact⟨.inr rfl,hq.1⟩ | exact hq.elim
  rintro e w' ⟨u,e0,QR,S',μ',a1,rfl,Se,V0,hd1⟩
  refine⟨u,rfl,?_⟩
  have Sl:qp (gO C.P fn QR) r∧QR.heap.take (H.set st.heap.length (.frame a.tmps env)).length=H.set st.heap.length (.frame a.tmps env):=by
   cases e0<;>first | exact Se.2 | exact Se.elim
  obtain⟨G',Vj⟩:=BZ U1 Sl.2
  obtain⟨_,T4⟩:=V0.heap.box _ _ G'
  have RU:=V0.back (C:=C) (a:=a) (mk:=mk) rfl rfl rfl d1 h.tsize (env:=env) (fun t d hm=>by
   have:=T4 t d hm
   rw[h.tsize]at this
   exact this)
  have TM:=RU.heapTo (H:=H) Vj
  exact hK _ _ _ _ (TM.ePut hp D' (o8 Sl.1 hd1)).2
 ·exact aq hp D'
theorem Dw {S:Nat→Prop} {μ:Nat→Value} {w:World} {nt:Nat}:∀(ps:List Nat) (ds:List D) (us:List Value) (env:List (Nat×D)) (tm:Array Value),ds.length=us.length→(∀(j:Nat) (y:D) (u:Value),ds[j]?=some y→us[j]?=some u→ai S μ w y u)→tm.size=nt→ps.all (fun p=>Nat.blt p nt)=true →
  (∀(t:Nat) (d:D),(t,d)∈env→t<nt∧ai S μ w d (tm.getD t undef)) →
  ((ps.zip us).foldl (fun (tmps:Array Value) (x:Nat×Value)=>tmps.setIfInBounds x.1 x.2) tm).size=nt ∧
  ∀(t:Nat) (d:D),(t,d)∈BW ps ds env→t<nt∧ai S μ w d (((ps.zip us).foldl (fun (tmps:Array Value) (x:Nat×Value)=>tmps.setIfInBounds x.1 x.2) tm).getD t undef):=by
 intro ps
 induction ps with
 | nil=>intro ds us env tm _ _ hs _ he;exact⟨hs,fun t d hm=>he t d (by cases ds<;>exact hm)⟩
 | cons p ps ih =>
  intro ds us env tm hl hd hs hp he
  cases ds with
  | nil =>
   cases us with
   | nil=>exact⟨hs,fun t d hm=>he t d hm⟩
   | cons u us=>simp at hl
  | cons d0 ds =>
   cases us with
   | nil=>simp at hl
   | cons u us =>
    simp only[PX,NK,PA]at hp
    refine ih ds us (sd env p d0) (tm.setIfInBounds p u) (by simpa using hl) (fun j y v hy hv=>hd (j+1) y v (by simpa using hy) (by simpa using hv)) (by simpa using hs) hp.2 (fun t d hm=>?_)
    rcases OB.1 hm with hm | hm
    ·cases hm
     refine⟨hp.1,?_⟩
     have:(tm.setIfInBounds p u).getD p undef=u:=by
      have hts:p<tm.size:=by omega
      simp[hts]
     rw[this]
     exact hd 0 d0 u rfl rfl
    ·obtain⟨h1,h2⟩:=fB hm
     obtain⟨q1,q2⟩:=he t d h1
     refine⟨q1,?_⟩
     have:(tm.setIfInBounds p u).getD t undef=tm.getD t undef:=by
      simp only[OH]
      rw[OP (fun e=>h2 e.symm)]
     rw[this]
     exact q2
theorem xj (h:aU C S μ st a w) {o:Oper} {f:Operand} {args:Array Operand} {Tz:Array TypeId} (ho:o.op=.call ⟨.value f,args,Tz⟩) {id:Nat} (hf:dW st.env f=.yld id) {b:Bool} {env:List (Nat×D)} {H:List ak}
  (hp:Av C.P C.nt st o.dst id (args.toList.map (dW st.env)) b env H=(J',p)) (D':p) {K:Act→World→Prop} {Q:Exit→Act→World→Prop} (hK:∀S' μ' a' w',aU C S' μ' J' a' w'→K a' w') :
  o.uponIn (kL C.rd) 0 C.P a K Q ((execOp a.eval o).run C.P w):=by
 unfold Av at hp
 split at hp
 ·rename_i l tm VE Vf ps q' body G'
  split at hp
  ·rename_i hc
   simp only[NK,N2]at hc
   obtain⟨⟨⟨⟨Rh,TN⟩,U1⟩,Tn⟩,hps⟩:=hc
   have hq:=dF hp D' a.tmps
   have Qh:id<st.heap.length:=(NL.1 G').1
   have RJ:ai S μ w (.yld id) (a.eval f):=hf ▸ h.eval f
   obtain⟨r0,hμ0,g1,g2,g3,g4,g5,g6,g7,g8,g9⟩:=h.heap.box id _ G'
   have hfe':a.eval f=.func (.yield l) #[] #[]:=by
    generalize a.eval f=uf at RJ
    cases RJ with
    | yld _ l' hl =>
     rw[hμ0]at hl
     simp[bu,aF]at hl
     rw[hl]
   have Qk:(args.map a.eval).size=r0.params.size:=by
    rw[g4]
    simp only[Array.size_map,Pl]
    simpa using Tn.symm
   have Qp:(execOp a.eval o).run C.P w=.ok (.round l r0.fn ((r0.params.zip (args.map a.eval)).foldl (fun tmps (t,a)=>tmps.setIfInBounds t a) r0.tmps) r0.assign r0.body) w:=by
    have:=run_yield (P:=C.P) g1 Qk
    simp[execOp,ho,resolve,hfe',Deferred.ofValue,invoke,this]
   rw[Qp,Oper.uponIn_round]
   refine⟨fun hx=>(by rw[vl]at hx;cases hx),?_⟩
   have h1:=h.pushFrame Rh TN
   have hid1:(st.heap++[ak.frame a.tmps st.env])[id]?=some (.loop l tm VE Vf ps q' body .ready none):=by rw[NU Qh];exact G'
   obtain⟨mk,d1,d2,d3⟩:=h1.defers
   let C1:jB:=⟨C.P,C.W,C.S0,VE,mk++C.susp,some l,C.g⟩
   have hfen:(kL C.rd).inRound l=kL (some l):=by cases C.rd<;>rfl
   have hargs:=aK.evals h1 args
   obtain⟨r2,_,m1,_,_,_,_,_,m7,m8,m9⟩:=h1.heap.box id _ hid1
   have hpe:=Dw (S:=S) (w:=w) ps (args.toList.map (dW st.env)) (args.map a.eval).toList Vf tm (by simp) (fun j y u hy hu=>hargs.2 j y u hy (by simpa using hu)) g8 hps m9
   have hfold:(r0.params.zip (args.map a.eval)).foldl (fun tmps (t,a)=>tmps.setIfInBounds t a) r0.tmps=(ps.zip (args.map a.eval).toList).foldl (fun (tmps:Array Value) (x:Nat×Value)=>tmps.setIfInBounds x.1 x.2) tm:=by
    rw[← Array.foldl_toList,Array.toList_zip,g4,g7]
   rw[hfold,g5,g6]
   have h3:aU C1 S _ ⟨BW ps (args.toList.map (dW st.env)) Vf,st.heap++[ak.frame a.tmps st.env]⟩ { tmps:=(ps.zip (args.map a.eval).toList).foldl (fun (tmps:Array Value) (x:Nat×Value)=>tmps.setIfInBounds x.1 x.2) tm,defers:=[] } w :=
    h1.turn (C1:=C1) (mk:=mk) (Wo:=[]) d2 d3 rfl rfl rfl hpe.1 hpe.2
   refine roundIn_of_wpIn (oe _ _) ?_
   rw[hfen]
   refine wpIn_mono (hq C1 rfl rfl rfl _ _ _ _ h3) ?_
   rintro e1 a1 w1 ⟨sta,Sa,μa,hqa,hRa⟩
   cases e1<;>first | exact hqa.elim | skip
   simp only[Au]at hqa
   split at hqa
   case h_2=>exact hqa.elim
   rename_i l1 Rk nt1 env1 ps1 as1 bd1 hbxa
   obtain⟨rfl,hqb⟩:=hqa
   obtain⟨r,k1,k2,k3,k4,k5,k6,k7,k8,h2⟩:=hRa.loopTo hbxa .busy none
   have hbeg:(Instr.beginRound l1).run C.P w1=.ok () (w1.putObj l1 (.loop { r with state:=.busy,pending:=none })):=by
    rw[run_beginRound k1 k2]
    rw[show({ r with state:=.busy }:Loop)={ r with state:=.busy,pending:=none } from by rw[← k3]]
   refine⟨_,hbeg,?_⟩
   refine wpIn_mono (hqb _ _ _ _ h2) ?_
   rintro e a' w' ⟨QR,S',μ',Se,V0⟩
   unfold xh at Se
   split at Se
   ·rename_i l2 Sv nt2 env2 ps2 as2 bd2 s2 p2 TV
    obtain⟨rfl,V1,SL⟩:=Se
    have VL:∀T6:Option Code,Ar e=some T6.isNone→ph e=(if T6.isNone then .ready else .done)→sH e=T6→∃v w2,(Instr.endRound l2 T6).run C.P w'=.ok v w2∧K (a.put o.dst v) w2:=by
     intro T6 j1 j2 j3
     obtain⟨r3,n1,n2,n3,n4,n5,n6,n7,n8,h4⟩:=V0.loopTo TV (ph e) (sH e)
     refine⟨_,_,run_endRound T6 n1,?_⟩
     obtain⟨Wv,Vj⟩:=BZ U1 SL
     obtain⟨_,T4⟩:=h4.heap.box _ _ Wv
     have RU:=h4.back (C:=C) (a:=a) (mk:=mk) rfl rfl rfl d1 h.tsize (env:=env) (fun t d hm=>by
      have:=T4 t d hm
      rw[h.tsize]at this
      exact this)
     have TM:=RU.heapTo (H:=H) Vj
     rw[j2,j3]at TM
     have UJ:b=T6.isNone:=by rw[V1]at j1;exact Option.some.inj j1
     refine hK _ _ _ _ (TM.ePut hp D' ?_).2
     rw[← UJ]
     exact .v _ _ (.bool b)
    cases e with
    | normal=>exact VL none rfl rfl rfl
    | ret=>exact VL (some .ret) rfl rfl rfl
    | exit i=>exact VL (some (.exit i)) rfl rfl rfl
    | goto i=>cases V1
    | panic ch=>cases V1
    | outgrown=>cases V1
   ·exact Se.elim
  ·exact aq hp D'
 ·exact aq hp D'
end
def ld:List (Nat×Ov)→Nat→Ov
 | [],_=>.none
 | (j,o)::r,i=>if Nat.beq j i then o else ld r i
def fK (ops:List Oper) (st:St) (o:Oper):Option Bool :=
 match o.guard with
 | none=>some true
 | some (g,Rl)=>match (ops[g]?).bind (·.dst)with
  | some t=>match nC st.env t with
   | .v (.bool b)=>some (b==Rl)
   | .tup []=>some false
   | _=>none
  | none=>none
def lf (nt:Nat) (st:St) (dst:Option Nat):R2:=ePut nt st dst (.tup []) True
def cR (P:Program) (nt:Nat) (ops:List Oper) (Qs:List (Nat×Ov)):Nat→List Oper→St→R2
 | _,[],st=>(st,True)
 | i,o::r,st=>match fK ops st o with
  | some true=>match nM P nt (ld Qs i) o st with
   | (QR,p1)=>match cR P nt ops Qs (i+1) r QR with
    | (Uq,p2)=>(Uq,p1∧p2)
  | some false=>match lf nt st o.dst with
   | (QR,p1)=>match cR P nt ops Qs (i+1) r QR with
    | (Uq,p2)=>(Uq,p1∧p2)
  | none=>aL st
def EL:List (Nat×D)→Nat→Bool
 | [],_=>false
 | (s,_)::r,t=>Nat.beq s t||EL r t
def lg (keep:List Nat) (env:List (Nat×D)):List (Nat×D) :=
 match keep with
 | []=>[]
 | t::r=>if EL env t then (t,nC env t)::lg r env else lg r env
theorem tJ:∀{env:List (Nat×D)} {t:Nat},EL env t=true→∃e,(t,e)∈env
 | (s,e)::r,t,h=>by
  unfold EL at h
  cases hs:Nat.beq s t
  ·rw[hs,Bool.false_or]at h
   obtain⟨e',h'⟩:=tJ h
   exact⟨e',Oe _ h'⟩
  ·rw[N2]at hs
   subst hs
   exact⟨e,Oi ..⟩
theorem qF {env:List (Nat×D)}:∀{keep:List Nat} {t:Nat} {d:D},(t,d)∈lg keep env→d=.junk∧(∃e,(t,e)∈env)∨(t,d)∈env
 | [],t,d,h=>by cases h
 | s::r,t,d,h=>by
  unfold lg at h
  split at h
  ·rename_i hh
   rcases OB.1 h with h | h
   ·cases h
    rcases qz (env:=env) (t:=s)with h1 | h1
    ·exact .inl ⟨h1,tJ hh⟩
    ·exact .inr h1
   ·exact qF h
  ·exact qF h
section
variable {C:jB} {S:Nat→Prop} {μ:Nat→Value} {st J':St} {a:Act} {w w':World} {p:Prop}
theorem yC (h:aU C S μ st a w) {ov:Ov} {o:Oper} {f:Operand} {args:Array Operand} {Tz:Array TypeId} (ho:o.op=.call ⟨.value f,args,Tz⟩)
  (hp:EJ C.P C.nt st ov o.dst (dW st.env f) (args.toList.map (dW st.env))=(J',p)) (D':p) {K:Act→World→Prop} {Q:Exit→Act→World→Prop} (hK:∀S' μ' a' w',aU C S' μ' J' a' w'→K a' w') :
  o.uponIn (kL C.rd) 0 C.P a K Q ((execOp a.eval o).run C.P w):=by
 unfold EJ at hp
 split at hp
 ·rename_i g first cap hf
  have RJ:=hf ▸ h.eval f
  split at hp
  ·rename_i q' al r
   split at hp
   ·rename_i hc
    simp only[NK,Oq,Oc]at hc
    obtain⟨⟨SC,hr⟩,QG⟩:=hc
    have RB:=aK.evals h args
    refine iI ?_
    generalize Rh:a.eval f=uf at RJ
    cases RJ with
    | fn _ _ _ us vs h1 h2 h3 h4 =>
     have Qp:(execOp a.eval o).run C.P w=.ok (.enter g (us++args.map a.eval++vs)) w:=by
      simp[execOp,ho,resolve,Rh,Deferred.ofValue,invoke,bA SC]
     rw[Qp,PK]
     have hall:aK S μ w (first++args.toList.map (dW st.env)++cap) (us++args.map a.eval++vs):=(aK.app (aK.app ⟨h1,h2⟩ RB) ⟨h3,h4⟩)
     have hq:oo C.P g st.heap (first++args.toList.map (dW st.env)++cap) q' al r:=dF hp D'
     refine(h.callPure hq hall QG hr (K:=fun u w'=>K (a.put o.dst u) w') ?_).mono ?_
     ·intro S' u w' hR hd
      exact hK _ _ _ _ (hR.ePut hp D' hd).2
     ·rintro e w' ⟨u,rfl,hu⟩
      exact hu
   ·exact aq hp D'
  ·rename_i id q' r
   split at hp
   ·rename_i hc
    simp only[NK]at hc
    obtain⟨SC,hr⟩:=hc
    have RB:=aK.evals h args
    refine iI ?_
    generalize Rh:a.eval f=uf at RJ
    cases RJ with
    | fn _ _ _ us vs h1 h2 h3 h4 =>
     have Qp:(execOp a.eval o).run C.P w=.ok (.enter g (us++args.map a.eval++vs)) w:=by
      simp[execOp,ho,resolve,Rh,Deferred.ofValue,invoke,bA SC]
     rw[Qp,PK]
     have hall:aK S μ w (first++args.toList.map (dW st.env)++cap) (us++args.map a.eval++vs):=(aK.app (aK.app ⟨h1,h2⟩ RB) ⟨h3,h4⟩)
     have hq:jJ C.P g st.heap (first++args.toList.map (dW st.env)++cap) id q' r:=dF hp D'
     refine(h.callR hq hall hr (K:=fun u w'=>K (a.put o.dst u) w') ?_).mono ?_
     ·intro S' u w' hR hd
      exact hK _ _ _ _ (hR.ePut hp D' hd).2
     ·rintro e w' ⟨u,rfl,hu⟩
      exact hu
   ·exact aq hp D'
  ·rename_i q' al r
   split at hp
   ·rename_i hc
    simp only[NK,Oq,Oc]at hc
    obtain⟨hr,QG⟩:=hc
    have SC:=(dF hp D').1
    have RB:=aK.evals h args
    refine iI ?_
    generalize Rh:a.eval f=uf at RJ
    cases RJ with
    | fn _ _ _ us vs h1 h2 h3 h4 =>
     have Qp:(execOp a.eval o).run C.P w=.ok (.enter g (us++args.map a.eval++vs)) w:=by
      simp[execOp,ho,resolve,Rh,Deferred.ofValue,invoke,bA SC]
     rw[Qp,PK]
     have hall:aK S μ w (first++args.toList.map (dW st.env)++cap) (us++args.map a.eval++vs):=(aK.app (aK.app ⟨h1,h2⟩ RB) ⟨h3,h4⟩)
     have hq:oo C.P g st.heap (first++args.toList.map (dW st.env)++cap) q' al r:=(dF hp D').2
     refine(h.callPure hq hall QG hr (K:=fun u w'=>K (a.put o.dst u) w') ?_).mono ?_
     ·intro S' u w' hR hd
      exact hK _ _ _ _ (hR.ePut hp D' hd).2
     ·rintro e w' ⟨u,rfl,hu⟩
      exact hu
   ·exact aq hp D'
  ·rename_i r env H
   generalize Rh:a.eval f=uf at RJ
   cases RJ with
   | fn _ _ _ us vs h1 h2 h3 h4 =>
    have hs:=tI (us:=us++args.map a.eval++vs) h (fun μ1 H1 h'=>by
     have Vk:ai S μ1 w (.fn (.func g) first cap) (a.eval f):=hf ▸ h'.eval f
     rw[Rh]at Vk
     cases Vk with
     | fn _ _ _ _ _ q1 q2 q3 q4=>exact aK.app (aK.app ⟨q1,q2⟩ (aK.evals h' args)) ⟨q3,q4⟩) hp D' (K:=K) hK
    have Qp:(execOp a.eval o).run C.P w=.ok (.enter g (us++args.map a.eval++vs)) w:=by
     simp[execOp,ho,resolve,Rh,Deferred.ofValue,invoke,bA hs.1]
    refine iI ?_
    rw[Qp,PK]
    refine hs.2.mono ?_
    rintro e w' ⟨u,rfl,hu⟩
    exact hu
  ·rename_i r
   obtain⟨p',Ru,hob'⟩:=EI hp D'
   generalize Rh:a.eval f=uf at RJ
   cases RJ with
   | fn _ _ _ us vs h1 h2 h3 h4 =>
    have hs:=tI (us:=us++args.map a.eval++vs) h (fun μ1 H1 h'=>by
     have Vk:ai S μ1 w (.fn (.func g) first cap) (a.eval f):=hf ▸ h'.eval f
     rw[Rh]at Vk
     cases Vk with
     | fn _ _ _ _ _ q1 q2 q3 q4=>exact aK.app (aK.app ⟨q1,q2⟩ (aK.evals h' args)) ⟨q3,q4⟩) Ru hob' (K:=K) hK
    have Qp:(execOp a.eval o).run C.P w=.ok (.enter g (us++args.map a.eval++vs)) w:=by
     simp[execOp,ho,resolve,Rh,Deferred.ofValue,invoke,bA hs.1]
    refine iI ?_
    rw[Qp,PK]
    refine hs.2.mono ?_
    rintro e w' ⟨u,rfl,hu⟩
    exact hu
  ·rename_i q' r B
   split at hp
   ·rename_i hc
    simp only[NK]at hc
    obtain⟨⟨⟨SC,hr⟩,hfe1⟩,TN⟩:=hc
    have RB:=aK.evals h args
    refine iI ?_
    generalize Rh:a.eval f=uf at RJ
    cases RJ with
    | fn _ _ _ us vs h1 h2 h3 h4 =>
     have Qp:(execOp a.eval o).run C.P w=.ok (.enter g (us++args.map a.eval++vs)) w:=by
      simp[execOp,ho,resolve,Rh,Deferred.ofValue,invoke,bA SC]
     rw[Qp,PK]
     have hall:aK S μ w (first++args.toList.map (dW st.env)++cap) (us++args.map a.eval++vs):=(aK.app (aK.app ⟨h1,h2⟩ RB) ⟨h3,h4⟩)
     have hq:xe C.P g st.heap (first++args.toList.map (dW st.env)++cap) q' r B:=dF hp D'
     refine(h.callOwn hq hall hr hfe1 TN (K:=fun u w'=>K (a.put o.dst u) w') ?_).mono ?_
     ·intro S' μ' u w' hR hd
      exact hK _ _ _ _ (hR.ePut hp D' hd).2
     ·rintro e w' ⟨u,rfl,hu⟩
      exact hu
   ·exact aq hp D'
  ·rename_i q' r B
   split at hp
   ·rename_i hc
    simp only[NK]at hc
    obtain⟨⟨⟨SC,hr,V8,RZ⟩,hfe1⟩,TN⟩:=hc
    have RB:=aK.evals h args
    refine iI ?_
    generalize Rh:a.eval f=uf at RJ
    cases RJ with
    | fn _ _ _ us vs h1 h2 h3 h4 =>
     have Qp:(execOp a.eval o).run C.P w=.ok (.enter g (us++args.map a.eval++vs)) w:=by
      simp[execOp,ho,resolve,Rh,Deferred.ofValue,invoke,bA SC]
     rw[Qp,PK]
     have hall:aK S μ w (first++args.toList.map (dW st.env)++cap) (us++args.map a.eval++vs):=(aK.app (aK.app ⟨h1,h2⟩ RB) ⟨h3,h4⟩)
     have hq:sG C.P g st.heap (first++args.toList.map (dW st.env)++cap) q' r B:=dF hp D'
     refine(h.callDeep hq hall hr V8 RZ hfe1 TN (K:=fun u w'=>K (a.put o.dst u) w') ?_).mono ?_
     ·intro S' μ' u w' hR hd
      exact hK _ _ _ _ (hR.ePut hp D' hd).2
     ·rintro e w' ⟨u,rfl,hu⟩
      exact hu
   ·exact aq hp D'
  ·exact aq hp D'
 ·rename_i id hf
  split at hp
  ·exact xj h ho hf hp D' hK
  ·exact aq hp D'
 ·exact aq hp D'
theorem lh (k:Int):∀(arr:List MapEntry) (es:List (Int×Value)) (n j:Nat) (e:Int×Value),arr.map (fun e=>(e.key,e.val))=es.map (fun e=>(Value.int .i64 e.1,e.2))→es[j]?=some e→k=e.1→(∀e'∈es.take j,k≠e'.1) →
  Instr.findNow (.int .i64) (.int .i64 k) arr n=some (some (n+j,e.2))
 | [],es,n,j,e,h,he,_,_=>by
  have:es=[]:=by simpa using h.symm
  rw[this]at he;simp at he
 | a::arr,[],n,j,e,h,he,_,_=>by simp at he
 | a::arr,x::es,n,0,e,h,he,hk,_=>by
  simp only[OQ,Pn,NS]at h
  simp at he
  subst he
  unfold Instr.findNow
  rw[h.1.1,h.1.2]
  simp[Instr.sameNow,hk]
 | a::arr,x::es,n,j+1,e,h,he,hk,ha=>by
  simp only[OQ,Pn,NS]at h
  have QI:k≠x.1:=ha x (by simp)
  unfold Instr.findNow
  rw[h.1.1]
  have:(k==x.1)=false:=beq_eq_false_iff_ne.2 QI
  simp only[Instr.sameNow,this,Pe]
  rw[lh k arr es (n+1) j e h.2 (by simpa using he) hk (fun e' TD=>ha e' (by simp[TD])),show n+1+j=n+(j+1)from by omega]
theorem pk (k:Int):∀(arr:List MapEntry) (es:List (Int×Value)) (n:Nat),arr.map (fun e=>(e.key,e.val))=es.map (fun e=>(Value.int .i64 e.1,e.2))→(∀e'∈es,k≠e'.1)→Instr.findNow (.int .i64) (.int .i64 k) arr n=some none
 | [],es,n,h,_=>by simp[Instr.findNow]
 | a::arr,[],n,h,_=>by simp at h
 | a::arr,x::es,n,h,ha=>by
  simp only[OQ,Pn,NS]at h
  have QI:k≠x.1:=ha x (by simp)
  unfold Instr.findNow
  rw[h.1.1]
  have:(k==x.1)=false:=beq_eq_false_iff_ne.2 QI
  simp only[Instr.sameNow,this,Pe]
  exact pk k arr es (n+1) h.2 (fun e' TD=>ha e' (by simp[TD]))
theorem oB {P:Program} {w:World} {t K E:TypeId} {b clock:Nat} {arr:Array MapEntry} {n:Int} (ht:P.underlying t=some (.map K E)) (hK:P.underlying K=some (.int .i64)) (hb:w.heap[b]?=some (.map arr clock)) {r:Option (Nat×Value)} (hf:Instr.findNow (.int .i64) (.int .i64 n) arr.toList 0=some r) {z:Value} (hz:r=none→(zeroValue E).run P w=.ok z w) :
  (Instr.lookup t (.map (some b)) (.int .i64 n) true).run P w=.ok (.tuple #[match r with | some (_,v)=>v | none=>z,.bool r.isSome]) w:=by
 have hu:(underlying t).run P w=.ok (.map K E) w:=by simp[underlying,ht,NP,Sem.run]
 have Rz:(underlying K).run P w=.ok (.int .i64) w:=by simp[underlying,hK,NP,Sem.run]
 have hg:(getObj b).run P w=.ok (.map arr clock) w:=by simp[getObj,Sem.run,hb]
 have hc:(Instr.checkKey arr.isEmpty 10000 K (.int .i64 n)).run P w=.ok () w:=by
  rw[show(10000:Nat)=9999+1 from rfl]
  unfold Instr.checkKey
  simp[NP,Rz]
 have hk:(Instr.findKey K (.int .i64 n) arr.toList).run P w=.ok r w:=by
  simp[Instr.findKey,NP,Rz,hf]
 cases r with
 | some q =>
  obtain⟨i,v⟩:=q
  simp[Instr.lookup,NP,hu,hg,hc,hk]
 | none =>
  simp[Instr.lookup,NP,hu,hg,hc,hk,hz rfl]
theorem nN {P:Program} {w:World} {t K E:TypeId} {b clock:Nat} {arr:Array MapEntry} {k:ByteArray} {v:Value} (ht:P.underlying t=some (.map K E)) (hK:P.underlying K=some .string) (hb:w.heap[b]?=some (.map arr clock)) {r:Option (Nat×Value)} (hf:Instr.findNow .string (.string k) arr.toList 0=some r)
  (hr:∀i u,r=some (i,u)→∃e,arr[i]?=some e∧e.key=.string k) :
  (Instr.mapUpdate t (.map (some b)) (.string k) v).run P w=.ok () (w.putObj b (match r with | some (i,_)=>.map (arr.modify i fun e=>{ e with key:=.string k,val:=v }) clock | none=>.map (arr.push ⟨.string k,v,clock⟩) (clock+1))):=by
 have hu:(underlying t).run P w=.ok (.map K E) w:=by simp[underlying,ht,NP,Sem.run]
 have Rz:(underlying K).run P w=.ok .string w:=by simp[underlying,hK,NP,Sem.run]
 have hg:(getObj b).run P w=.ok (.map arr clock) w:=by simp[getObj,Sem.run,hb]
 have hc:(Instr.checkKey false 10000 K (.string k)).run P w=.ok () w:=by
  rw[show(10000:Nat)=9999+1 from rfl]
  unfold Instr.checkKey
  simp[NP,Rz]
 have hk:(Instr.findKey K (.string k) arr.toList).run P w=.ok r w:=by
  simp[Instr.findKey,NP,Rz,hf]
 have hs:∀o:Obj,(setObj b o).run P w=.ok () (w.putObj b o):=by
  intro o
  unfold setObj Sem.run
  rw[hb]
  rfl
 cases r with
 | some q =>
  obtain⟨i,u⟩:=q
  obtain⟨e,he,hek⟩:=hr i u rfl
  have Tg:(Instr.keyThatStays (((arr[i]?).map (·.key)).getD (.string k)) (.string k)).run P w=.ok (.string k) w:=by
   rw[he]
   simp only[Oz,P3,hek]
   unfold Instr.keyThatStays
   rw[NT (by show(k==k)=true;rw[MW];exact Og rfl)]
   rfl
  simp only[Instr.mapUpdate,NP,hu,hg,hc,hk,NO,Tg,hs]
 | none =>
  simp only[Instr.mapUpdate,NP,hu,hg,hc,hk,NO,hs]
theorem Aw {ag:Bool} {x:D} {vs:List V} {u:Value} (h:Aq ag x=some vs) (hx:ai S μ w x u):(ag=false→vs.length=1)∧ai S μ w (jD ag vs) u:=by
 unfold Aq at h
 cases ag
 ·simp only[OC,Pf]at h
  cases hv:Ky x with
  | none=>rw[hv]at h;cases h
  | some v =>
   rw[hv]at h
   cases h
   exact⟨fun _=>rfl,.v _ _ (sI hv hx)⟩
 ·simp only[Pe]at h
  split at h
  ·rename_i ds
   obtain⟨us,rfl,h1,h2⟩:=dV hx
   obtain⟨q1,q2⟩:=kY h
   refine⟨(fun h=>by cases h),?_⟩
   show ai S μ w (.agg (vs.map D.v)) _
   refine .agg _ _ (by rw[N1,← q1];exact h1) (fun j y u hy hu=>?_)
   obtain⟨v,hv,rfl⟩:=dg hy
   obtain⟨d,hd,hdv⟩:=q2 j v hv
   exact .v _ _ (sI hdv (h2 j d u hd hu))
  ·cases h
theorem vd (h:aU C S μ st a w) {ov:Ov} {t:TypeId} {m k x:D} {um uk ux:Value} (hm:ai S μ w m um) (hk:ai S μ w k uk) (hx:ai S μ w x ux) (hp:xg C.P st ov t m k x=(J',p)) (D':p) :
  ∃w',(Instr.mapUpdate t um uk ux).run C.P w=.ok () w'∧aU C S μ J' a w':=by
 unfold xg at hp
 split at hp
 ·rename_i K E id ks hu
  split at hp
  ·rename_i t' ag α enc d l t2 ag2 β RS d2 l2 hK G'
   split at hp
   ·rename_i vs Rr
    split at hp
    ·rename_i hc
     simp only[NK,N2,P5]at hc
     obtain⟨⟨rfl,rfl⟩,rfl⟩:=hc
     simp only[NS]at hp
     obtain⟨rfl,rfl⟩:=hp
     have e1:=bq hm
     have e2:=eZ hk
     subst e1 e2
     obtain⟨b,arr,clock,hmu,hb,T3⟩:=h.heap.box id _ G'
     obtain⟨m1,m2⟩:=vx T3
     obtain⟨x1,x2⟩:=Aw Rr hx
     have Tt:aF (μ id)=some b:=by rw[hmu];rfl
     have Qd:bu (μ id) b:=.inl Tt
     have Qh:id<st.heap.length:=(NL.1 G').1
     have key:∀(o:Obj) (T7:Array MapEntry) (SM:Nat),o=.map T7 SM→(T7.size=(nA (l.map fun p=>(p.1,enc p.2)) ks vs).length) →
       (∀(i:Nat) (k':ByteArray) (y:List V),(nA (l.map fun p=>(p.1,enc p.2)) ks vs)[i]?=some (k',y)→∃e,T7[i]?=some e∧e.key=.string k'∧(ag=false→y.length=1)∧ai S μ w (jD ag y) e.val) →
       aU C S μ ⟨st.env,st.heap.set id (.mpb t ag RS d2 l2)⟩ a (w.putObj b o):=by
      intro o T7 SM ho hl hh
      subst ho
      have So:∀k,S k→k<w.heap.size→(w.putObj b (.map T7 SM)).heap[k]?=w.heap[k]?:=fun k hk _=>Px (fun e=>h.heap.notS id _ b G' rfl Qd (e ▸ hk))
      have hu:=h.upd (id:=id) (u:=μ id) (B:=.mpb t ag RS d2 l2) (row:=some b) (w':=w.putObj b (.map T7 SM)) ⟨rfl,rfl,rfl,by rw[PZ];exact NN _,fun k hk Wd=>Px (fun e=>Wd (by rw[e]))⟩
       (fun k hk=>⟨_,G',rfl,by cases hk;exact Qd⟩) (by omega) ?_ (fun k hk=>.inl (hk.one Tt)) (.inl ⟨rfl,.inl rfl⟩)
      ·rw[du]at hu
       have he:bh st.heap id (.mpb t ag RS d2 l2)=st.heap.set id (.mpb t ag RS d2 l2):=by
        unfold bh
        rw[NQ (by rw[N2];omega)]
       rwa [he]at hu
      ·rw[du]
       refine⟨b,T7,SM,hmu,World.putObj_heap_same (NV.1 hb).1,by rw[hl,D',N1],fun i k' y hy=>?_⟩
       have hy2:(nA (l.map fun p=>(p.1,enc p.2)) ks vs)[i]?=some (k',RS y):=by rw[D',N4,hy,Oz]
       obtain⟨e,q1,q2,q3,q4⟩:=hh i k' _ hy2
       exact⟨e,q1,q2,q3,q4.stable (fun _ h _=>h) So (by rw[PZ];exact NN _) (fun id hf=>by rw[vn]at hf)⟩
     have m3:∀(i:Nat) (k':ByteArray) (y:List V),(l.map fun p=>(p.1,enc p.2))[i]?=some (k',y)→∃e,arr.toList[i]?=some e∧e.key=.string k'∧((ag=false→y.length=1)∧ai S μ w (jD ag y) e.val):=by
      intro i k' y hy
      rw[N4]at hy
      cases hc:l[i]? with
      | none=>rw[hc]at hy;cases hy
      | some q =>
       rw[hc]at hy
       cases hy
       exact m2 i q.1 q.2 hc
     rw[hmu]
     rcases EA (R:=fun y v=>(ag=false→y.length=1)∧ai S μ w (jD ag y) v) [] ks (l.map fun p=>(p.1,enc p.2)) arr.toList 0 (by rw[m1,N1]) m3 with ⟨h1,h0,h2,h3⟩ | ⟨h1,i,e,y,h2,h3,h4,h5,h6,h7,h8⟩
     ·refine⟨_,nN hu hK hb h2 (fun i u hh=>by cases hh),key _ _ _ rfl ?_ ?_⟩
      ·rw[h3,Array.size_push,NY,N1]
       simpa using m1
      ·intro i k' y hy
       rw[h3]at hy
       by_cases hi:i<l.length
       ·rw[NU (by rw[N1];exact hi)]at hy
        obtain⟨e,q1,q2,q3⟩:=m3 i k' y hy
        refine⟨e,?_,q2,q3⟩
        rw[O3,NQ (by have h99:arr.size=l.length:=(by simpa using m1);omega)]
        simpa using q1
       ·rw[NX (by rw[N1];omega)]at hy
        have hi0:i-(l.map fun p=>(p.1,enc p.2)).length=0:=by
         rcases Nat.eq_zero_or_pos (i-(l.map fun p=>(p.1,enc p.2)).length)with h | h
         ·exact h
         ·rw[OL (by simp;rw[N1]at h;omega)]at hy;cases hy
        rw[hi0]at hy
        cases hy
        have SA:i=arr.size:=by rw[N1]at hi0;have h98:arr.size=l.length:=(by simpa using m1);omega
        exact⟨_,by rw[O3,NT SA],rfl,x1,x2⟩
     ·have hia:i<arr.size:=by have:=(NL.1 h3).1;simpa using this
      refine⟨_,nN hu hK hb h6 (fun i' u hh=>by cases hh;exact⟨e,by simpa using h3,h4⟩),key _ _ _ rfl ?_ ?_⟩
      ·rw[h8,Ok,N1]
       simpa using m1
      ·intro j k' y' hy
       rw[h8,P0]at hy
       rw[OA,Array.getElem?_modify]
       by_cases VD:i=j
       ·subst VD
        rw[NT rfl,NT (NL.1 h2).1]at hy
        cases hy
        rw[NT rfl,show arr[i]?=some e by simpa using h3]
        exact⟨_,rfl,rfl,x1,x2⟩
       ·rw[NQ VD]at hy
        rw[NQ VD]
        obtain⟨e',q1,q2,q3⟩:=m3 j k' y' hy
        exact⟨e',by simpa using q1,q2,q3⟩
    ·exact aq hp D'
   ·exact aq hp D'
  ·exact aq hp D'
 ·exact aq hp D'
theorem li (h:aU C S μ st a w) {ov:Ov} {o:Oper} (hp:nM C.P C.nt ov o st=(J',p)) (D':p) {K:Act→World→Prop} {Q:Exit→Act→World→Prop}
  (hK:∀S' μ' a' w',aU C S' μ' J' a' w'→K a' w'):o.uponIn (kL C.rd) 0 C.P a K Q ((execOp a.eval o).run C.P w):=by
 have hv:∀(s:Sem Value) (u:Value) (w':World),s.run C.P w=.ok u w'→(do pure (.value (← s)):Sem Next).run C.P w=.ok (.value u) w':=by
  intro s u w' h
  simp only[NP,h,NO,N6]
 have val:∀(u:Value) (w':World) (μ':Nat→Value),(execOp a.eval o).run C.P w=.ok (.value u) w'→aU C S μ' J' (a.put o.dst u) w'→o.uponIn (kL C.rd) 0 C.P a K Q ((execOp a.eval o).run C.P w):=by
  intro u w' μ' hr hR
  rw[hr,P1]
  exact hK _ _ _ _ hR
 have Ww:tD C.nt st ov o.dst (fA C.P st.heap (dW st.env) o.op)=(J',p)→o.uponIn (kL C.rd) 0 C.P a K Q ((execOp a.eval o).run C.P w):=by
  intro hp
  generalize hq:fA C.P st.heap (dW st.env) o.op=q at hp
  obtain⟨d,q⟩:=q
  unfold tD at hp
  split at hp
  ·rename_i d' _
   have hqq:q∧qp d d':=by
    unfold ePut at hp
    split at hp
    ·split at hp
     ·simp only[NS]at hp;rw[← hp.2]at D';exact D'
     ·exact aq hp D'
    ·simp only[NS]at hp;rw[← hp.2]at D';exact D'
   obtain⟨u,h1,h2⟩:=gM h.heap h.eval hq hqq.1
   exact val u w μ h1 (h.ePut hp D' (o8 hqq.2 h2)).2
  ·rename_i d' _
   have hqq:q∧vu d d':=by
    unfold ePut at hp
    split at hp
    ·split at hp
     ·simp only[NS]at hp;rw[← hp.2]at D';exact D'
     ·exact aq hp D'
    ·simp only[NS]at hp;rw[← hp.2]at D';exact D'
   obtain⟨u,h1,h2⟩:=gM h.heap h.eval hq hqq.1
   exact val u w μ h1 (h.ePut hp D' (hqq.2 _ _ _ _ h2)).2
  ·have hqq:q:=by
    unfold ePut at hp
    split at hp
    ·split at hp
     ·simp only[NS]at hp;rw[← hp.2]at D';exact D'
     ·exact aq hp D'
    ·simp only[NS]at hp;rw[← hp.2]at D';exact D'
   obtain⟨u,h1,h2⟩:=gM h.heap h.eval hq hqq
   exact val u w μ h1 (h.ePut hp D' h2).2
 unfold nM at hp
 split at hp
 ·rename_i T ho
  split at hp
  ·rename_i z hz
   obtain⟨v,Rm,Sw⟩:=gd (P:=C.P) (S:=S) (μ:=μ) (w:=w) hz
   split at hp
   ·refine val _ _ _ ?_ (h.eVarAt hp D' Sw)
    simp[execOp,ho,Instr.alloc,NP,Rm,newVar,newRow,newObj,Sem.run]
   ·refine val _ _ _ ?_ (h.eVar hp D' Sw)
    simp[execOp,ho,Instr.alloc,NP,Rm,newVar,newRow,newObj,Sem.run]
  ·exact aq hp D'
 ·rename_i T x ho
  split at hp
  ·rename_i cs hcs
   refine val _ _ _ ?_ (h.eVar hp D' (gL h.heap (h.eval x) hcs))
   simp[execOp,ho,Instr.box,newVar,newRow,newObj,Sem.run]
  ·exact aq hp D'
 ·rename_i t ad x ho
  split at hp
  ·rename_i hd
   obtain⟨w',h1,h2⟩:=pj h (h.eval ad) (h.eval x) hp D'
   have hr:(execOp a.eval o).run C.P w=.ok .skip w':=by
    simp only[execOp,ho,NP,h1,NO,N6]
   rw[hr,Oper.uponIn_skip,hd]
   exact hK _ _ _ _ h2
  ·exact aq hp D'
 ·rename_i t len P8 ho
  have SE:∀(ov:Ov) (QR:St) (p1:Prop),qD C.P C.nt st ov o.dst t len (P8.toList.map fun p=>(p.1,dW st.env p.2))=(QR,p1)→p1→∃u w' μ',(execOp a.eval o).run C.P w=.ok (.value u) w'∧aU C S μ' QR (a.put o.dst u) w':=by
   intro ov QR p1 hp D'
   obtain⟨u,w',μ',h1,h2⟩:=xi h (Qj:=P8.toList.map fun p=>(p.1,a.eval p.2)) (by simp) (fun j x u hx hu=>by
    simp only[N4,Oo]at hx hu
    cases hj:P8[j]? with
    | none=>rw[hj]at hx;cases hx
    | some q=>rw[hj]at hx hu;simp at hx hu;subst hx hu;exact h.eval q.2) hp D'
   refine⟨u,w',μ',?_,h2⟩
   have he:P8.map (fun (i,x)=>(i,a.eval x))=(P8.toList.map fun p=>(p.1,a.eval p.2)).toArray:=PJ (by simp)
   rw[← he]at h1
   simp only[execOp,ho,NP,h1,NO,N6]
  split at hp
  ·generalize hq:qD C.P C.nt st _ o.dst t len _=q at hp
   obtain⟨QR,p1⟩:=q
   simp only at hp
   split at hp
   ·rename_i Uq hfz
    simp only[NS]at hp
    obtain⟨rfl,rfl⟩:=hp
    obtain⟨u,w',μ',e1,e2⟩:=SE _ _ _ hq D'
    obtain⟨S2,e3⟩:=e2.freeze hfz
    rw[e1,P1]
    exact hK _ _ _ _ e3
   ·exact aq hp D'
  ·obtain⟨u,w',μ',e1,e2⟩:=SE _ _ _ hp D'
   exact val u w' μ' e1 e2
 ·rename_i t l c ho
  have SE:∀(ov:Ov) (QR:St) (p1:Prop),vN C.P C.nt st ov o.dst t (dW st.env l) (dW st.env c)=(QR,p1)→p1→∃u w' μ',(execOp a.eval o).run C.P w=.ok (.value u) w'∧aU C S μ' QR (a.put o.dst u) w':=by
   intro ov QR p1 hp D'
   obtain⟨u,w',μ',h1,h2⟩:=yB h (h.eval l) (h.eval c) hp D'
   refine⟨u,w',μ',?_,h2⟩
   simp only[execOp,ho,NP,h1,NO,N6]
  split at hp
  ·generalize hq:vN C.P C.nt st _ o.dst t _ _=q at hp
   obtain⟨QR,p1⟩:=q
   simp only at hp
   split at hp
   ·rename_i Uq hfz
    simp only[NS]at hp
    obtain⟨rfl,rfl⟩:=hp
    obtain⟨u,w',μ',e1,e2⟩:=SE _ _ _ hq D'
    obtain⟨S2,e3⟩:=e2.freeze hfz
    rw[e1,P1]
    exact hK _ _ _ _ e3
   ·exact aq hp D'
  ·obtain⟨u,w',μ',e1,e2⟩:=SE _ _ _ hp D'
   exact val u w' μ' e1 e2
 ·rename_i args Tz ho
  split at hp
  ·rename_i s x t t' ha ht
   split at hp
   ·rename_i hc
    rw[N2]at hc
    subst hc
    have ea:args=#[s,x]:=PJ (by simpa using ha)
    have et:Tz=#[t,t]:=PJ (by simpa using ht)
    subst ea et
    split at hp
    ·obtain⟨u,w',S',μ',h1,h2⟩:=tH h (ty:=o.type) (h.eval s) (h.eval x) hp D'
     have hr:(execOp a.eval o).run C.P w=.ok (.value u) w':=by
      simp only[execOp,ho,resolve,invoke,builtin,Pp,OQ,OG,NP,N6,NO,h1]
     rw[hr,P1]
     exact hK _ _ _ _ h2
    ·obtain⟨u,w',μ',h1,h2⟩:=tF h (ty:=o.type) (h.eval s) (h.eval x) hp D'
     refine val u w' μ' ?_ h2
     simp only[execOp,ho,resolve,invoke,builtin,Pp,OQ,OG,NP,N6,NO,h1]
    ·obtain⟨u,w',S',μ',h1,h2⟩:=tG h (ty:=o.type) (h.eval s) (h.eval x) hp D'
     have hr:(execOp a.eval o).run C.P w=.ok (.value u) w':=by
      simp only[execOp,ho,resolve,invoke,builtin,Pp,OQ,OG,NP,N6,NO,h1]
     rw[hr,P1]
     exact hK _ _ _ _ h2
    ·obtain⟨u,w',μ',h1,h2⟩:=u9 h (ty:=o.type) (h.eval s) (h.eval x) hp D'
     refine val u w' μ' ?_ h2
     simp only[execOp,ho,resolve,invoke,builtin,Pp,OQ,OG,NP,N6,NO,h1]
   ·exact aq hp D'
  ·exact aq hp D'
 ·rename_i f args Tz ho
  exact yC h ho hp D' hK
 ·rename_i t x ix ho
  split at hp
  ·rename_i i
   unfold BV at hp
   generalize hx:dW st.env x=dx at hp
   generalize hix:dW st.env ix=dix at hp
   split at hp
   ·rename_i K E es k n hu
    split at hp
    ·rename_i hK2
     have hxr:=h.eval x
     have hir:=h.eval ix
     rw[hx]at hxr
     rw[hix]at hir
     have hiv:a.eval ix=.int .i64 n:=(show ∀u,cz S w (.int .i64 n) u→u=.int .i64 n from fun u h=>by cases h;rfl) _ (bg hir)
     obtain⟨b,clock,arr,e1,e2,e3⟩:∃(b clock:Nat) (arr:Array MapEntry),a.eval x=.map (some b)∧w.heap[b]?=some (.map arr clock)∧arr.toList.map (fun e=>(e.key,e.val))=es.map (fun e=>(Value.int .i64 e.1,e.2)):=by
      have:=bg hxr
      generalize a.eval x=u at this
      cases this with
      | mp _ b clock arr q1 q2 q3 q4=>exact⟨b,clock,arr,rfl,q3,q4⟩
     split at hp
     ·rename_i j
      split at hp
      ·rename_i e he
       have hq:=dF hp D'
       have hr:=oB hu hK2 e2 (lh n arr.toList es 0 j e e3 he hq.1 hq.2) (z:=undef) (fun h=>by cases h)
       refine val (.tuple #[e.2,.bool true]) w μ ?_ (h.ePut hp D' (.tup _ _ rfl (fun i y u hy hu=>?_))).2
       ·simp only[execOp,ho,e1,hiv,NP,hr,NO,N6,Option.isSome_some]
       ·match i with
        | 0=>simp at hy hu;subst hy hu;exact ai.ofVal _ _ _ _
        | 1=>simp at hy hu;subst hy hu;exact .v _ _ (.bool _)
        | i+2=>simp at hy
      ·exact aq hp D'
     ·split at hp
      ·rename_i z hz
       have hq:=dF hp D'
       have UA:(zeroValue E).run C.P w=.ok z w:=by
        cases hi:C.P.info? E with
        | none=>simp[hi]at hz
        | some i0 =>
         simp only[hi,PB]at hz
         simp[zeroValue,typeInfo,hi,hz,NP]
       have hr:=oB hu hK2 e2 (pk n arr.toList es 0 e3 hq) (z:=z) (fun _=>UA)
       refine val (.tuple #[z,.bool false]) w μ ?_ (h.ePut hp D' (.tup _ _ rfl (fun i y u hy hu=>?_))).2
       ·simp only[execOp,ho,e1,hiv,NP,hr,NO,N6,Option.isSome_none]
       ·match i with
        | 0=>simp at hy hu;subst hy hu;exact ai.ofVal _ _ _ _
        | 1=>simp at hy hu;subst hy hu;exact .v _ _ (.bool _)
        | i+2=>simp at hy
      ·exact aq hp D'
    ·exact aq hp D'
   ·exact aq hp D'
  ·rename_i d
   unfold KO at hp
   generalize hx:dW st.env x=dx at hp
   generalize hix:dW st.env ix=dix at hp
   split at hp
   ·rename_i K E es k n hu
    split at hp
    ·rename_i hK2
     have hxr:=h.eval x
     have hir:=h.eval ix
     rw[hx]at hxr
     rw[hix]at hir
     have hiv:a.eval ix=.int .i64 n:=(show ∀u,cz S w (.int .i64 n) u→u=.int .i64 n from fun u h=>by cases h;rfl) _ (bg hir)
     obtain⟨b,clock,arr,e1,e2,e3⟩:∃(b clock:Nat) (arr:Array MapEntry),a.eval x=.map (some b)∧w.heap[b]?=some (.map arr clock)∧arr.toList.map (fun e=>(e.key,e.val))=es.map (fun e=>(Value.int .i64 e.1,e.2)):=by
      have:=bg hxr
      generalize a.eval x=u at this
      cases this with
      | mp _ b clock arr q1 q2 q3 q4=>exact⟨b,clock,arr,rfl,q3,q4⟩
     obtain⟨j,e,he,Se,Sl,hq3⟩:=dF hp D'
     have hr:=oB hu hK2 e2 (lh n arr.toList es 0 j e e3 he Se Sl) (z:=undef) (fun h=>by cases h)
     refine val (.tuple #[e.2,.bool true]) w μ ?_ (h.ePut hp D' (.tup _ _ rfl (fun i y u hy hu=>?_))).2
     ·simp only[execOp,ho,e1,hiv,NP,hr,NO,N6,Option.isSome_some]
     ·match i with
      | 0=>simp at hy hu;subst hy hu;exact o8 hq3 (ai.ofVal _ _ _ _)
      | 1=>simp at hy hu;subst hy hu;exact .v _ _ (.bool _)
      | i+2=>simp at hy
    ·exact aq hp D'
   ·exact aq hp D'
  ·exact Ww hp
 ·rename_i t ho
  split at hp
  ·rename_i t' ag α enc d l
   split at hp
   ·obtain⟨_,hR⟩:=h.newBox (u:=.map (some w.heap.size)) (w':=w.alloc (.map #[] 0)) hp D' (O2 w _ none) ⟨w.heap.size,#[],0,rfl,OM w _,rfl,fun i k x hx=>by simp at hx⟩ (fun b hb=>by simp[bu,aF]at hb;omega) (v:=.map (some w.heap.size)) (by
     have:=ai.own (S:=S) (μ:=aO μ st.heap.length (.map (some w.heap.size))) (w:=w.alloc (.map #[] 0)) st.heap.length
     rwa [ar]at this)
    refine val _ _ _ ?_ hR
    simp[execOp,ho,Instr.makeMap,newObj,Sem.run]
   ·exact aq hp D'
  ·exact aq hp D'
 ·rename_i t m k x ho
  split at hp
  ·rename_i hd
   obtain⟨w',h1,h2⟩:=vd h (h.eval m) (h.eval k) (h.eval x) hp D'
   have hr:(execOp a.eval o).run C.P w=.ok .skip w':=by
    simp only[execOp,ho,NP,h1,NO,N6]
   rw[hr,Oper.uponIn_skip,hd]
   exact hK _ _ _ _ h2
  ·exact aq hp D'
 ·exact Ww hp
theorem b5 (h:aU C S μ st a w) {ops:List Oper} {o:Oper} {b:Bool} (hg:fK ops st o=some b):Region.wanted o (yielded ops.toArray a.tmps)=b:=by
 unfold fK at hg
 unfold Region.wanted
 cases VB:o.guard with
 | none=>rw[VB]at hg;cases hg;rfl
 | some q =>
  obtain⟨g,Rl⟩:=q
  rw[VB]at hg
  simp only at hg ⊢
  split at hg
  ·rename_i t ht
   have hv:=h.eval (.tmp t)
   have hy:yielded ops.toArray a.tmps g=match a.tmps[t]? with | some (.bool b)=>some b | _=>none:=by
    unfold yielded
    simp only[Pc,ht,PB]
    rfl
   rw[hy]
   simp only[dW]at hv
   split at hg
   ·rename_i c hl
    rw[hl]at hv
    have:=eY hv
    simp only[Act.eval,OH]at this
    cases hq:a.tmps[t]? with
    | none=>rw[hq]at this;simp[undef]at this
    | some u =>
     rw[hq]at this
     simp at this
     subst this
     cases hg
     cases c<;>cases Rl<;>rfl
   ·rename_i hl
    rw[hl]at hv
    obtain⟨us,hu,h1,_⟩:=sy hv
    simp only[Act.eval,OH]at hu
    cases hg
    cases hq:a.tmps[t]? with
    | none=>cases Rl<;>rfl
    | some u =>
     rw[hq]at hu
     simp at hu
     subst hu
     cases Rl<;>rfl
   ·cases hg
  ·cases hg
theorem yD {P:Program} {nt:Nat} {ov:Ov} {o:Oper} (hd:cH o=true) (hp:nM P nt ov o st=(J',p)) (D':p):False:=by
 unfold cH at hd
 split at hd
 ·rename_i c ho
  unfold nM at hp
  rw[ho]at hp
  simp only[fA]at hp
  unfold tD at hp
  split at hp
  ·exact(dF hp D').1
  ·exact(dF hp D').1
  ·exact dF hp D'
 ·cases hd
theorem pm {ops:List Oper} {Qs:List (Nat×Ov)} {Q:Exit→Act→World→Prop}:∀(l:List Oper) (i:Nat) (st:St) (S:Nat→Prop) (μ:Nat→Value) (a:Act) (w:World) (p:Prop),aU C S μ st a w→cR C.P C.nt ops Qs i l st=(J',p)→p →
  (∀S' μ' a' w',aU C S' μ' J' a' w'→Q .normal a' w')→wpListIn (kL C.rd) 0 C.P ops.toArray Q l a w:=by
 intro l
 induction l with
 | nil =>
  intro i st S μ a w p h hp D' hK
  simp only[cR,NS]at hp
  obtain⟨rfl,_⟩:=hp
  exact hK _ _ _ _ h
 | cons o r ih =>
  intro i st S μ a w p h hp D' hK
  unfold cR at hp
  unfold wpListIn
  split at hp
  ·rename_i hg
   rw[NT (b5 h hg)]
   generalize hq:nM C.P C.nt (ld Qs i) o st=q at hp
   obtain⟨QR,p1⟩:=q
   simp only at hp
   generalize Sl:cR C.P C.nt ops Qs (i+1) r QR=q2 at hp
   obtain⟨Uq,p2⟩:=q2
   simp only[NS]at hp
   obtain⟨rfl,rfl⟩:=hp
   have hnd:cH o=false:=by
    cases hd:cH o
    ·rfl
    ·exact(yD hd hq D'.1).elim
   refine sx hnd (li h hq D'.1 (fun S' μ' a' w' hR=>?_))
   exact ih (i+1) QR S' μ' a' w' p2 hR Sl D'.2 hK
  ·rename_i hg
   rw[NQ (by rw[b5 h hg];simp)]
   refine⟨fun f _=>oe _ f,?_⟩
   generalize hq:lf C.nt st o.dst=q at hp
   obtain⟨QR,p1⟩:=q
   simp only at hp
   generalize Sl:cR C.P C.nt ops Qs (i+1) r QR=q2 at hp
   obtain⟨Uq,p2⟩:=q2
   simp only[NS]at hp
   obtain⟨rfl,rfl⟩:=hp
   exact ih (i+1) QR _ _ _ _ p2 (h.ePut hq D'.1 (.tup [] #[] rfl (fun j y u hy _=>by simp at hy))).2 Sl D'.2 hK
  ·exact aq hp D'
end
@[reducible] def thenQ (next:St→Prop) (Q:Exit→St→Prop):Exit→St→Prop
 | .normal,st=>next st
 | e,st=>Q e st
@[reducible] def blockQ (id:Nat) (Q:Exit→St→Prop):Exit→St→Prop
 | .exit i,st=>if Nat.beq i id then Q .normal st else Q (.exit i) st
 | e,st=>Q e st
section
variable {C:jB} {st:St} {Q:Exit→St→Prop}
theorem Ev.mono {c:Code} {Q':Exit→St→Prop} (h:Ev C c Q st) (hq:∀e J',Q e J'→Q' e J'):Ev C c Q' st :=
 fun a w S μ hR=>wpIn_mono (h a w S μ hR) fun e a' w' ⟨J',S',μ',q,r⟩=>⟨J',S',μ',hq e J' q,r⟩
theorem Ev.skip (h:Q .normal st):Ev C .skip Q st:=fun a w S μ hR=>wpIn_skip ⟨st,S,μ,h,hR⟩
theorem Ev.label {l:Nat} (h:Q .normal st):Ev C (.label l) Q st:=fun a w S μ hR=>wpIn_label ⟨st,S,μ,h,hR⟩
theorem Ev.exit {id:Nat} (h:Q (.exit id) st):Ev C (.exit id) Q st:=fun a w S μ hR=>wpIn_exit ⟨st,S,μ,h,hR⟩
theorem Ev.ret (h:Q .ret st):Ev C .ret Q st:=fun a w S μ hR=>wpIn_ret ⟨st,S,μ,h,hR⟩
theorem Ev.seq {x y:Code} (h:Ev C x (thenQ (Ev C y Q) Q) st):Ev C (.seq x y) Q st:=fun a w S μ hR=>by
 refine wpIn_seq (wpIn_mono (h a w S μ hR) ?_)
 rintro e a' w' ⟨J',S',μ',hq,QZ⟩
 cases e with
 | normal=>exact hq a' w' S' μ' QZ
 | exit id=>exact⟨J',S',μ',hq,QZ⟩
 | goto l=>exact⟨J',S',μ',hq,QZ⟩
 | ret=>exact⟨J',S',μ',hq,QZ⟩
 | panic ch=>exact⟨J',S',μ',hq,QZ⟩
 | outgrown=>exact⟨J',S',μ',hq,QZ⟩
theorem Ev.cond {c:Operand} {x y:Code} (b:Bool) (hc:dW st.env c=.v (.bool b)) (hx:b=true→Ev C x Q st) (hy:b=false→Ev C y Q st):Ev C (.cond c x y) Q st:=fun a w S μ hR =>
 wpIn_cond_split (t:=b) (eY (hc ▸ hR.eval c)) (fun h=>hx h a w S μ hR) (fun h=>hy h a w S μ hR)
theorem Ev.block {id:Nat} {c:Code} (h:Ev C c (blockQ id Q) st):Ev C (.block id c) Q st:=fun a w S μ hR=>by
 refine wpIn_block (wpIn_mono (h a w S μ hR) ?_)
 rintro e a' w' ⟨J',S',μ',hq,QZ⟩
 cases e with
 | exit i =>
  simp only[blockQ]at hq
  simp only[Exit.inBlock]
  by_cases hi:i=id
  ·rw[NT hi]
   rw[NT (by rw[N2];exact hi)]at hq
   exact⟨J',S',μ',hq,QZ⟩
  ·rw[NQ hi]
   rw[NQ (by rw[N2];exact hi)]at hq
   exact⟨J',S',μ',hq,QZ⟩
 | normal=>exact⟨J',S',μ',hq,QZ⟩
 | goto l=>exact⟨J',S',μ',hq,QZ⟩
 | ret=>exact⟨J',S',μ',hq,QZ⟩
 | panic ch=>exact⟨J',S',μ',hq,QZ⟩
 | outgrown=>exact⟨J',S',μ',hq,QZ⟩
theorem jM {R:Nat→Prop} (h:∃n,R n):∃n,R n∧∀m,R m→n≤m:=by
 obtain⟨n,hn⟩:=h
 induction n using Nat.strongRecOn with
 | _ n ih =>
  by_cases hm:∃m,m<n∧R m
  ·obtain⟨m,h1,h2⟩:=hm
   exact ih m h1 h2
  ·exact⟨n,hn,fun m hR=>by
    refine OX fun Ql=>hm ⟨m,by omega,hR⟩⟩
theorem aU.keep {S:Nat→Prop} {μ:Nat→Value} {a:Act} {w:World} (h:aU C S μ st a w) (keep:List Nat):aU C S μ ⟨lg keep st.env,st.heap⟩ a w :=
 h.weak (fun t d hm=>qF hm)
def keepS (keep:List Nat) (n:Nat) (st:St):St:=⟨lg keep st.env,st.heap.take n⟩
theorem aU.keepS {S:Nat→Prop} {μ:Nat→Value} {a:Act} {w:World} (h:aU C S μ st a w) (keep:List Nat) (n:Nat):aU C S μ (keepS keep n st) a w :=
 (h.keep keep).heapTo (fun i A hA=>.inr (by
  rw[Ob]at hA
  split at hA
  ·exact hA
  ·cases hA))
theorem Ev.keep {c:Code} (keep:List Nat) (n:Nat) {J':St} (h:Proofs.Ytcejcppjedhicaa.keepS keep n st=J') (he:Ev C c Q J'):Ev C c Q st:=fun a w S μ hR=>by
 subst h
 exact he a w S μ (hR.keepS keep n)
theorem Ev.loop {σ:Type _} (keep:List Nat) (n:Nat) (mk:σ→St) (inv:σ→Prop) (m:σ→Nat) {c:Code} (s0:σ) (h0:Proofs.Ytcejcppjedhicaa.keepS keep n st=mk s0) (hi:inv s0)
  (round:∀s,inv s→Ev C c (thenQ (fun J'=>∃s',Proofs.Ytcejcppjedhicaa.keepS keep n J'=mk s'∧inv s'∧m s'<m s) Q) (mk s)):Ev C (.loop c) Q st:=fun a w S μ hR=>by
 have hR0:=hR.keepS keep n
 rw[h0]at hR0
 let R:Act→World→Nat→Prop:=fun a w n=>∃(s:σ) (S:Nat→Prop) (μ:Nat→Value),inv s∧m s=n∧aU C S μ (mk s) a w
 let M:Act→World→Nat:=fun a w=>@dite _ (∃n,R a w n) (Classical.propDecidable _) (fun h=>Classical.choose (jM h)) (fun _=>0)
 have hM:∀a w,(∃n,R a w n)→R a w (M a w)∧∀n,R a w n→M a w≤n:=by
  intro a w h
  have:M a w=Classical.choose (jM h):=dif_pos h
  rw[this]
  exact Classical.choose_spec (jM h)
 refine wpIn_loop (fun a w=>∃n,R a w n) M ⟨m s0,s0,S,μ,hi,rfl,hR0⟩ ?_
 intro a w hI
 obtain⟨⟨s,S',μ',h1,h2,h3⟩,_⟩:=hM a w hI
 refine wpIn_mono (round s h1 a w S' μ' h3) ?_
 rintro e a' w' ⟨J',S2,μ2,hq,QZ⟩
 cases e with
 | normal =>
  obtain⟨s',hk,q1,q2⟩:=hq
  have TI:=QZ.keepS keep n
  rw[hk]at TI
  have Ul:∃n,R a' w' n:=⟨m s',s',S2,μ2,q1,rfl,TI⟩
  refine⟨Ul,?_⟩
  have:=(hM a' w' Ul).2 (m s') ⟨s',S2,μ2,q1,rfl,TI⟩
  omega
 | exit id=>exact⟨J',S2,μ2,hq,QZ⟩
 | goto l=>exact⟨J',S2,μ2,hq,QZ⟩
 | ret=>exact⟨J',S2,μ2,hq,QZ⟩
 | panic ch=>exact⟨J',S2,μ2,hq,QZ⟩
 | outgrown=>exact⟨J',S2,μ2,hq,QZ⟩
theorem Ev.cut {σ:Type _} (keep:List Nat) (n:Nat) (mk:σ→St) (inv:σ→Prop) {x y:Code} (hx:Ev C x (thenQ (fun J'=>∃s,Proofs.Ytcejcppjedhicaa.keepS keep n J'=mk s∧inv s) Q) st) (hy:∀s,inv s→Ev C y Q (mk s)):Ev C (.seq x y) Q st :=
 Ev.seq (hx.mono (fun e J' hq=>by
  cases e with
  | normal =>
   obtain⟨s,h1,h2⟩:=hq
   exact Ev.keep keep n h1 (hy s h2)
  | exit id=>exact hq
  | goto l=>exact hq
  | ret=>exact hq
  | panic ch=>exact hq
  | outgrown=>exact hq))
end
def V.scal:V→Bool
 | .sl _ _ _ _=>false
 | .mp _=>false
 | .sm _ _ _ _=>false
 | _=>true
def Kz:D→D→Prop
 | .own _,.v (.sl _ enc _ l)=>∀z∈l,(enc z).all V.scal=true
 | _,.v (.sl _ _ _ l)=>l=[]
 | _,.v (.mp _)=>False
 | _,.v (.sm _ _ _ _)=>False
 | _,.v _=>True
 | _,.nils=>True
 | _,_=>False
def Me:List D→List D→Prop
 | [],[]=>True
 | x::xs,y::ys=>Kz x y∧Me xs ys
 | _,_=>False
def I8:D→D→Prop
 | .agg xs,.agg ys=>Me xs ys
 | x,y=>Kz x y
def L6:List D→List D→Prop
 | [],[]=>True
 | x::xs,y::ys=>I8 x y∧L6 xs ys
 | _,_=>False
def yE (al:Bool) (H:List ak):D→D→Prop
 | .tup xs,.tup ys=>KL H xs ys∧(al=true∨L6 xs ys)
 | x,y=>Iz H x y∧(al=true∨I8 x y)
section
variable {P:Program} {S:Nat→Prop} {μ:Nat→Value} {w:World}
theorem yF {x:V} {u:Value} (h:cz S w x u) (hs:x.scal=true) (S':Nat→Prop):cz S' w x u:=by
 cases h with
 | int=>exact .int _ _
 | bool=>exact .bool _
 | str=>exact .str _
 | nil=>cases hs
 | row=>cases hs
 | mp=>cases hs
 | nilf=>exact .nilf
 | nsl=>exact .nsl
 | esl p c h=>exact .esl p c h
 | smn=>cases hs
 | sm=>cases hs
 | nmp=>exact .nmp
 | fnv f=>exact .fnv f
theorem Dx {sz:Nat} {α:Type} {enc:α→List V} {d:α} {l:List α} {u:Value} {S':Nat→Prop} (h:cz S w (.sl sz enc d l) u) (hs:∀z∈l,(enc z).all V.scal=true) (hb:∀b,bu u b→S' b):cz S' w (.sl sz enc d l) u:=by
 obtain⟨p,c,rfl,h1,h2,h3,h4⟩:=eF h
 refine kP rfl h1 h2 h3 (fun h0=>?_)
 obtain⟨b,I',us,rfl,q1,q2,q3,q4,q5⟩:=h4 h0
 refine⟨b,I',us,rfl,hb b (.inl rfl),q2,q3,q4,fun i x j y hx hy=>yF (q5 i x j y hx hy) ?_ S'⟩
 have:=hs x (Oh hx)
 rw[Oa]at this
 exact this y (Oh hy)
theorem B1 {H:List ak} {S':Nat→Prop} (hH:a9 S μ w H) (QS:∀b,S b→b<w.heap.size) {x y:D} (P9:∀(i:Nat) (A:ak) (b:Nat),H[i]?=some A→A.isArr=true→bu (μ i) b→S' b)
  {u:Value} (he:GV H x y) (hf:Kz x y) (h:ai S μ w x u):ai S' μ w y u:=by
 have h2:ai (fun b=>S b∨S' b) μ w y u:=mh hH (fun b hb=>.inl hb) QS (.inl fun i A b h1 h2 h3=>.inr (P9 i A b h1 h2 h3)) he h
 unfold Kz at hf
 split at hf
 ·rename_i id sz α enc d l
  refine .v _ _ (Dx (bg h2) hf ?_)
  unfold GV at he
  simp only at he
  split at he
  ·rename_i E QK β Qb d' l' hb
   rw[bq h]
   exact fun b QJ=>P9 id _ b hb rfl QJ
  ·exact he.elim
 ·subst hf
  obtain⟨p,c,rfl,h1,h3,h4,h5⟩:=eF (bg h2)
  exact .v _ _ (.nil _ _ _ _ _ h3 h4)
 ·exact hf.elim
 ·exact hf.elim
 ·rename_i v h3 h4 h5 h6
  refine .v _ _ (yF (bg h2) ?_ _)
  cases v with
  | sl sz enc d l=>first | exact(h3 _ _ _ _ _ rfl).elim | exact(h4 _ _ _ _ _ rfl).elim | exact(h5 _ _ _ _ _ rfl).elim
  | mp es=>first | exact(h3 _ rfl).elim | exact(h4 _ rfl).elim | exact(h5 _ rfl).elim | exact(h6 _ rfl).elim
  | sm ag enc d l=>first | exact(h3 _ _ _ _ _ rfl).elim | exact(h4 _ _ _ _ _ rfl).elim | exact(h5 _ _ _ _ _ rfl).elim | exact(h6 _ _ _ _ _ rfl).elim
  | nmp=>rfl
  | fnv=>rfl
  | int=>rfl
  | bool=>rfl
  | str=>rfl
  | nilf=>rfl
  | nsl=>rfl
  | esl=>first | exact(h3 rfl).elim | exact(h4 rfl).elim | exact(h5 rfl).elim | rfl
 ·cases h2
  exact .nils
 ·exact hf.elim
theorem B2:∀{xs ys:List D},Me xs ys→∀(j:Nat) (x y:D),xs[j]?=some x→ys[j]?=some y→Kz x y
 | [],[],_,j,x,y,hx,_=>by simp at hx
 | [],_::_,h,_,_,_,_,_=>h.elim
 | _::_,[],h,_,_,_,_,_=>h.elim
 | x::xs,y::ys,h,0,_,_,hx,hy=>by simp at hx hy;subst hx hy;exact h.1
 | x::xs,y::ys,h,j+1,x',y',hx,hy=>B2 h.2 j x' y' (by simpa using hx) (by simpa using hy)
theorem B3:∀{xs ys:List D},L6 xs ys→∀(j:Nat) (x y:D),xs[j]?=some x→ys[j]?=some y→I8 x y
 | [],[],_,j,x,y,hx,_=>by simp at hx
 | [],_::_,h,_,_,_,_,_=>h.elim
 | _::_,[],h,_,_,_,_,_=>h.elim
 | x::xs,y::ys,h,0,_,_,hx,hy=>by simp at hx hy;subst hx hy;exact h.1
 | x::xs,y::ys,h,j+1,x',y',hx,hy=>B3 h.2 j x' y' (by simpa using hx) (by simpa using hy)
theorem vQ {al:Bool} {H:List ak} {S' Sn:Nat→Prop} (hH:a9 S μ w H) (QS:∀b,S b→b<w.heap.size) (hS:∀b,S b→S' b)
  (RM:∀(i:Nat) (A:ak) (b:Nat),H[i]?=some A→A.isArr=true→bu (μ i) b→S' b) (P9:∀(i:Nat) (A:ak) (b:Nat),H[i]?=some A→A.isArr=true→bu (μ i) b→Sn b)
  (QG:al=true→∀b,S' b→Sn b) {x y:D} {u:Value} (he:Iz H x y) (hf:al=true∨I8 x y) (h:ai S μ w x u):ai Sn μ w y u:=by
 rcases hf with hf | hf
 ·have:ai S' μ w y u:=by
   have h1:aK S' μ w [y] #[u]:=G3 (ds:=[x]) hH hS QS (.inl RM) ⟨he,trivial⟩ ⟨rfl,fun j a b ha hb=>by
    cases j with
    | zero=>simp at ha hb;subst ha hb;exact h
    | succ j=>simp at ha⟩
   exact h1.2 0 y u rfl rfl
  exact this.stable (fun b hb _=>QG hf b hb) (fun _ _ _=>rfl) (NN _) (fun _ _=>rfl)
 ·unfold Iz at he
  split at he
  ·rename_i xs ys
   obtain⟨us,rfl,q1,q2⟩:=dV h
   obtain⟨r1,r2⟩:=sD he
   refine .agg _ _ (by rw[← r1];exact q1) (fun k z v hz hv=>?_)
   obtain⟨x',S4,TZ⟩:=r2 k z hz
   exact B1 hH QS P9 TZ (B2 hf k x' z S4 hz) (q2 k x' v S4 hv)
  ·rename_i QI
   have TL:Kz x y:=by
    unfold I8 at hf
    split at hf
    ·rename_i xs ys
     exact(QI xs ys rfl rfl).elim
    ·exact hf
   exact B1 hH QS P9 he TL h
theorem EM {al:Bool} {H:List ak} {S' Sn:Nat→Prop} (hH:a9 S μ w H) (QS:∀b,S b→b<w.heap.size) (hS:∀b,S b→S' b)
  (RM:∀(i:Nat) (A:ak) (b:Nat),H[i]?=some A→A.isArr=true→bu (μ i) b→S' b) (P9:∀(i:Nat) (A:ak) (b:Nat),H[i]?=some A→A.isArr=true→bu (μ i) b→Sn b)
  (QG:al=true→∀b,S' b→Sn b) {x y:D} {u:Value} (he:yE al H x y) (h:ai S μ w x u):ai Sn μ w y u:=by
 unfold yE at he
 split at he
 ·rename_i xs ys
  obtain⟨us,rfl,q1,q2⟩:=sy h
  obtain⟨r1,r2⟩:=xb he.1
  refine .tup _ _ (by rw[← r1];exact q1) (fun k z v hz hv=>?_)
  obtain⟨x',S4,TZ⟩:=r2 k z hz
  exact vQ hH QS hS RM P9 QG TZ (he.2.imp id fun hf=>B3 hf k x' z S4 hz) (q2 k x' v S4 hv)
 ·exact vQ hH QS hS RM P9 QG he.1 he.2 h
def KQ (P:Program) (fn:Func) (al:Bool) (r:D):Exit→St→Prop
 | .normal,st=>gg P fn st∧yE al st.heap (gO P fn st) r
 | .ret,st=>gg P fn st∧yE al st.heap (gO P fn st) r
 | _,_=>False
theorem ap.of_ev {f:FuncId} {fn:Func} {c:Code} {q':List D} {al:Bool} {r:D} (hf:P.funcs[f]?=some fn) (hb:fn.body=some c) (hn:Nat.ble q'.length fn.ntmps=true) (hr:ed r=true)
  (h:∀C:jB,C.P=P→C.nt=fn.ntmps→C.rd=none→Ev C c (KQ P fn al r) ⟨ii 0 q',[]⟩):ap P f q' [] al r []:=by
 intro S μ w us hS hG hH QF
 rw[OY]at hn
 let C:jB:=⟨P,w,S,fn.ntmps,[],none,hG⟩
 have hrel:aU C S μ ⟨ii 0 q',[]⟩ (tp us fn.ntmps) w :=
  ⟨rfl,rfl,rfl,NN _,fun _ _=>rfl,fun _ h=>h,fun _ h=>.inl h,hS,sF QF hn,⟨fun id B hB=>by simp at hB,fun i j A B b hA=>by simp at hA,fun i A b hA=>by simp at hA⟩,fun i A b hA=>by simp at hA,⟨[],rfl,by simp[C],fun b hb=>by simp[C]at hb⟩,pg QF.1 hn,fun i A b hA=>by simp at hA⟩
 refine(iK (C:=C) hf hb rfl hrel (h C rfl rfl rfl) (fun e J' hq=>?_)).mono ?_
 ·cases e<;>first | exact⟨.inl rfl,hq.1⟩ | exact⟨.inr rfl,hq.1⟩ | exact hq.elim
 rintro e w' ⟨u,e0,J',S',μ',a',rfl,hq,hR,hx⟩
 have hq:yE al J'.heap (gO P fn J') r:=by
  cases e0<;>first | exact hq.2 | exact hq.elim
 refine⟨u,μ',fun b=>S' b∨∃(i:Nat) (A:ak),J'.heap[i]?=some A∧A.isArr=true∧bu (μ' i) b,rfl,hR.os,hR.tape,hR.output,hR.size,fun k hk _=>hR.old k hk,fun b hb=>.inl (hR.mono b hb),?_,?_,?_,
   ⟨fun id B hB=>by simp at hB,fun i j A B b hA=>by simp at hA,fun i A b hA=>by simp at hA⟩,fun i A b hA=>by simp at hA,fun i A hA=>by simp at hA⟩
 ·rintro b (hb | ⟨i,A,h1,h2,h3⟩)
  ·exact hR.new b hb
  ·exact .inr (hR.may i A b h1 (by cases A<;>first | rfl | cases h2) h3)
 ·rintro b (hb | ⟨i,A,h1,h2,h3⟩)
  ·exact hR.slt b hb
  ·exact(hR.heap.box i A h1).lt (by cases A<;>first | rfl | cases h2) b h3
 ·refine EM hR.heap hR.slt (S':=fun b=>S' b∨∃(i:Nat) (A:ak),J'.heap[i]?=some A∧A.isArr=true∧bu (μ' i) b) (fun b hb=>.inl hb) (fun i A b h1 h2 h3=>.inr ⟨i,A,h1,h2,h3⟩) (fun i A b h1 h2 h3=>⟨.inr ⟨i,A,h1,h2,h3⟩,.inr ?_⟩) (fun ha b hb=>⟨hb,.inl ha⟩) hq hx
  exact hR.may i A b h1 (by cases A<;>first | rfl | cases h2) h3
end
def EN:Option Code→Option Exit
 | none=>some .normal
 | some .ret=>some .ret
 | some (.exit i)=>some (.exit i)
 | _=>none
def Ax:LoopState→Bool
 | .busy=>true
 | _=>false
def Ay (id l nt:Nat) (tm:Array Value) (Q:Exit→St→Prop):Exit→St→Prop:=fun e st =>
 (e=.normal∨e=.ret)∧match st.heap[id]? with
  | some (.loop l' tm' nt' env _ _ _ s p)=>l'=l∧tm'=tm∧nt'=nt∧Ax s=false∧match EN p with
   | some e'=>Q e' ⟨env,st.heap.set id .dead⟩
   | none=>False
  | _=>False
section
variable {C:jB} {st:St} {Q:Exit→St→Prop}
theorem Ev.range {g:Operand} {ps:List Nat} {assign body:Code} {US:FuncId} {first cap:List D} {fn:Func} {c:Code} (Vd:C.rd=none) (hg:dW st.env g=.fn (.func US) first cap) (hf:C.P.funcs[US]?=some fn) (hb:fn.body=some c)
  (SC:gi C.P US=true) (hn:Nat.ble (first.length+1+cap.length) fn.ntmps=true) (hres:fn.results.toList=[]) (Rh:bv st.heap.length st.env=true) (TN:aY st.heap.length st.heap=true)
  (h:∀(C1:jB) (l:Nat) (tm:Array Value) (S7 bd:Code),S7=assign→bd=body→C1.P=C.P→C1.nt=fn.ntmps→C1.rd=none→Ev C1 c (Ay st.heap.length l C.nt tm Q) ⟨ii 0 (first++[.yld st.heap.length]++cap),st.heap++[.loop l tm C.nt st.env ps S7 bd .ready none]⟩) :
  Ev C (.rangeFunc g ps.toArray assign body) Q st:=by
 intro a w S μ hR
 rw[OY]at hn
 have hfen:kL C.rd=Fence.wide:=by rw[Vd];rfl
 rw[hfen]
 refine wpIn_rangeFunc (fun fnid _=>?_)
 let w1:=(w.alloc (.deferred (some []))).alloc (.loop { state:=.ready,pending:=none,fn:=fnid,tmps:=a.tmps,params:=ps.toArray,assign:=assign,body:=body,defers:=w.heap.size })
 have hsz1:w1.heap.size=w.heap.size+2:=by
  show((w.heap.push _).push _).size=_
  simp
 have T8:w.grownBy w1 none:=⟨rfl,rfl,rfl,by omega,fun k hk _=>by
  show((w.heap.push _).push _)[k]?=_
  rw[O3,NQ (by simp;omega),O3,NQ (by omega)]⟩
 have Sz:w1.heap[w.heap.size]?=some (.deferred (some [])):=by
  show((w.heap.push _).push _)[w.heap.size]?=_
  rw[O3,NQ (by simp),O3,NT rfl]
 have SD:w1.heap[w.heap.size+1]?=some (.loop { state:=.ready,pending:=none,fn:=fnid,tmps:=a.tmps,params:=ps.toArray,assign:=assign,body:=body,defers:=w.heap.size }):=by
  show((w.heap.push _).push _)[w.heap.size+1]?=_
  rw[O3,NT (by simp)]
 have h1:=hR.upd (id:=st.heap.length) (B:=.loop (w.heap.size+1) a.tmps C.nt st.env ps assign body .ready none) (row:=none) (u:=.pointer (some ⟨w.heap.size+1,0,none⟩)) T8 (fun k hk=>by cases hk) (NN _)
  ⟨_,rfl,SD,rfl,rfl,rfl,rfl,rfl,rfl,hR.tsize,fun t d hm=>?_⟩ (fun b hb=>by simp[bu,aF]at hb;exact .inr (by omega)) (.inr ⟨fun A hA=>by simp at hA,Rh,TN⟩)
 rotate_left
 ·obtain⟨q1,q2⟩:=hR.env t d hm
  refine⟨q1,q2.stable (fun _ h _=>h) (fun b hb hl=>T8.block b hl (by simp)) T8.size (fun i hi=>aA _ _ (fun e=>?_))⟩
  subst e
  rw[bR Rh hm]at hi
  cases hi
 rw[show bh st.heap st.heap.length (.loop (w.heap.size+1) a.tmps C.nt st.env ps assign body .ready none)=st.heap++[.loop (w.heap.size+1) a.tmps C.nt st.env ps assign body .ready none]from by simp[bh]]at h1
 obtain⟨mk,d1,d2,d3⟩:=h1.defers
 have hWle:C.W.heap.size≤w.heap.size:=hR.size
 have Q5:∀(i:Nat) (A:ak) (b:Nat),(st.heap++[ak.loop (w.heap.size+1) a.tmps C.nt st.env ps assign body .ready none])[i]?=some A→A.live=true→bu (aO μ st.heap.length (.pointer (some ⟨w.heap.size+1,0,none⟩)) i) b→b≠w.heap.size:=by
  intro i A b hA hl hb e
  by_cases hi:i<st.heap.length
  ·rw[NU hi]at hA
   rw[aA _ _ (by omega)]at hb
   have:=(hR.heap.box i A hA).lt hl b hb
   omega
  ·have hi2:i=st.heap.length:=by
    have:=(NL.1 hA).1
    simp at this
    omega
   subst hi2
   rw[ar]at hb
   simp[bu,aF]at hb
   omega
 have Qv:∀b∈(w.heap.size::mk)++C.susp,w1.heap[b]?=some (.deferred (some []))∧C.W.heap.size≤b∧¬S b∧∀(i:Nat) (A:ak),(st.heap++[ak.loop (w.heap.size+1) a.tmps C.nt st.env ps assign body .ready none])[i]?=some A→A.live=true→¬bu (aO μ st.heap.length (.pointer (some ⟨w.heap.size+1,0,none⟩)) i) b:=by
  intro b hb
  rw[Pu]at hb
  rcases OB.1 hb with rfl | hb
  ·exact⟨Sz,hWle,fun hS=>by have:=hR.slt _ hS;omega,fun i A hA hl RF=>Q5 i A _ hA hl RF rfl⟩
  ·exact d3 b hb
 have hnd:((w.heap.size::mk)++C.susp).Nodup:=by
  rw[Pu]
  refine List.nodup_cons.2 ⟨fun hm=>?_,d2⟩
  obtain⟨mk0,e1,e2,e3⟩:=hR.defers
  have:mk=mk0:=by
   have:mk.map yx=mk0.map yx:=by
    have x1:a.defers=mk.map yx:=d1
    have x2:a.defers=mk0.map yx:=e1
    rw[← x1,x2]
   exact List.map_inj_right (fun x y SY=>by simpa[yx]using SY) |>.1 this
  subst this
  have:=(NV.1 (e3 _ hm).1).1
  omega
 have QY:∃us vs,a.eval g=.func (.func US) us vs∧aK S (aO μ st.heap.length (.pointer (some ⟨w.heap.size+1,0,none⟩))) w1 (first++[.yld st.heap.length]++cap) (us++#[.func (.yield (w.heap.size+1)) #[] #[]]++vs):=by
  have hgv:ai S _ w1 (.fn (.func US) first cap) (a.eval g):=hg ▸ h1.eval g
  generalize a.eval g=ug at hgv
  cases hgv with
  | fn _ _ _ us vs q1 q2 q3 q4 =>
   refine⟨us,vs,rfl,aK.app (aK.app ⟨q1,q2⟩ ⟨rfl,fun j y u hy hu=>?_⟩) ⟨q3,q4⟩⟩
   cases j with
   | zero =>
    simp at hy hu
    subst hy hu
    exact .yld _ _ (by rw[ar];rfl)
   | succ j=>simp at hy
 obtain⟨us,vs,Wq,QY⟩:=QY
 have Qi:(first++[D.yld st.heap.length]++cap).length≤fn.ntmps:=by simp;omega
 let C1:jB:=⟨C.P,C.W,C.S0,fn.ntmps,(w.heap.size::mk)++C.susp,none,C.g⟩
 have V0:aU C1 S _ ⟨ii 0 (first++[.yld st.heap.length]++cap),st.heap++[.loop (w.heap.size+1) a.tmps C.nt st.env ps assign body .ready none]⟩ (tp (us++#[.func (.yield (w.heap.size+1)) #[] #[]]++vs) fn.ntmps) w1 :=
  h1.turn (C1:=C1) (mk:=mk) (Wo:=[]) hnd Qv rfl rfl rfl (pg QY.1 Qi) (sF QY Qi)
 refine⟨w.heap.size+1,[{ target:=.collected w.heap.size,args:=#[] }],w1,{ target:=.fn (.func US) vs,args:=us++#[.func (.yield (w.heap.size+1)) #[] #[]] },w1,US,us++#[.func (.yield (w.heap.size+1)) #[] #[]]++vs,w1,run_enterLoop_outer fnid a.tmps ps.toArray assign body,?_,fun _ _=>trivial,?_,fun hx=>(by cases hx),?_⟩
 ·show(Deferred.ofValue (a.eval g) (#[Operand.const (.func (.yield (w.heap.size+1)) #[] #[])].map a.eval)).run C.P w1=_
  rw[Wq]
  simp[Deferred.ofValue,Act.eval]
 ·simp[invoke,bA SC]
 refine callsIn_wide.2 ((iK (C:=C1) hf hb rfl V0 (h C1 (w.heap.size+1) a.tmps assign body rfl rfl rfl rfl rfl) (fun e J' hq=>⟨hq.1,by unfold gg;rw[hres];trivial⟩)).mono ?_)
 rintro e w' ⟨u,e0,J',S',μ',a',rfl,hq,TI,_⟩
 obtain⟨_,hq⟩:=hq
 split at hq
 ·rename_i l2 Sv nt2 env2 ps2 as2 bd2 s2 p2 TV
  obtain⟨rfl,rfl,rfl,Wx,hq⟩:=hq
  obtain⟨r2,n1,n2,n3,n4,n5,n6,n7,n8,h4⟩:=TI.loopTo TV .exhausted p2
  have QU:r2.state≠.busy:=fun e=>by rw[n2]at e;rw[e]at Wx;cases Wx
  have UH:(Instr.endLoop (w.heap.size+1)).run C.P w'=.ok p2 (w'.putObj (w.heap.size+1) (.loop { r2 with state:=.exhausted,pending:=p2 })):=by
   rw[run_endLoop n1 QU,← n3]
  have Qh:st.heap.length<J'.heap.length:=(NL.1 TV).1
  obtain⟨_,_,_,_,_,_,_,_,_,_,T4⟩:=h4.heap.box st.heap.length _ (N0 Qh)
  have RU:=h4.back (C:=C) (a:={ a with defers:=[{ target:=.collected w.heap.size,args:=#[] }]++a.defers }) (mk:=w.heap.size::mk) rfl rfl rfl (by simp[d1]) hR.tsize (env:=env2) T4
  have TM:=RU.heapTo (H:=J'.heap.set st.heap.length .dead) (fun i B hB=>by
   by_cases hi:i=st.heap.length
   ·subst hi
    rw[N0 Qh]at hB
    cases hB
    exact .inl rfl
   ·rw[NZ (fun e=>hi e.symm)]at hB
    refine .inr ?_
    rw[NZ (fun e=>hi e.symm)]
    exact hB)
  refine⟨p2,_,UH,?_⟩
  cases p2 with
  | none=>exact⟨_,_,_,hq,TM⟩
  | some c2 =>
   cases c2<;>first | exact hq.elim | skip
   ·exact wpIn_exit ⟨_,_,_,hq,TM⟩
   ·exact wpIn_ret ⟨_,_,_,hq,TM⟩
 ·exact hq.elim
end
def EO:List Oper→Nat→Nat→Option Nat
 | _,0,_=>none
 | ops,i+1,t=>match (ops[i]?).bind (·.dst)with
  | some s=>if Nat.beq s t then some i else EO ops i t
  | none=>EO ops i t
def EP (op:Op):List Tmp:=op.operands.toList.filterMap fun | .tmp t=>some t | _=>none
def qG (P:Program) (H:List ak) (ov:Ov) (t:TypeId) (len:Nat) (P8:List (Nat×D)):R1 :=
 match P.underlying t with
 | some (.slice E)=>match ga P E with
  | some z=>if ca P E&&Nat.beq z.length (az P E)&&Nat.ble 1 (az P E)&&Nat.ble (len*az P E) 4096 then
    match f9 H (fun i=>some (i*az P E,az P E)) (List.replicate len z).flatten P8 with
    | some cells=>match ov with
     | .box E' QK Qb d' l'=>if Nat.beq E E'&&Nat.beq (az P E) QK then (.v (.sl (az P E) Qb d' l'),av (nJ (az P E) len cells) (l'.map Qb))else aM
     | _=>aM
    | none=>aM
   else aM
  | none=>aM
 | _=>aM
def IA (P:Program) (H:List ak) (ov:Ov) (f:D) (ds:List D):R1 :=
 match f,ov with
 | .fn (.func g) first cap,.callr id q' r=>if gi P g&&ed r then (r,jJ P g H (first++ds++cap) id q' r)else aM
 | .fn (.func g) first cap,.call q' al r=>if gi P g&&ed r&&(!al||fa (first++ds++cap))then (r,oo P g H (first++ds++cap) q' al r)else aM
 | _,_=>aM
def KR (P:Program) (T:TypeId):Option (Array Value):=((P.info? T).bind (·.zero)).map (·.cells)
def I9 (o:Oper):Option TypeId:=match o.op with | .alloc T=>some T | _=>none
def L7 (P:Program) (H:List ak) (ρ:Operand→D) (ov:Ov) (op:Op):R1 :=
 match op with
 | .alloc T=>match KR P T with | some _=>(.junk,True) | none=>aM
 | .buildSlice t len P8=>qG P H ov t len (P8.toList.map fun p=>(p.1,ρ p.2))
 | .call ⟨.value f,args,_⟩=>IA P H ov (ρ f) (args.toList.map ρ)
 | op=>match ov with
  | .val d'=>(d',(fA P H ρ op).2∧qp (fA P H ρ op).1 d')
  | .lift d'=>(d',(fA P H ρ op).2∧vu (fA P H ρ op).1 d')
  | _=>fA P H ρ op
def MY (ops:List Oper) (i:Nat) (o:Oper):List (Tmp×Option Nat) :=
 (EP o.op).map fun t=>(t,EO ops i t)
section
variable {P:Program} {S:Nat→Prop} {μ:Nat→Value} {w:World}
theorem yG {ops:Array Oper} {sp sp':rG} {base Uw:Act} (h:Iu ops sp base=true) (hs:Uw.tmps.size=base.tmps.size) (hk:sp'.K=sp.K) (hi:sp'.ins=sp.ins):Iu ops sp' Uw=true:=by
 have e1:KE ops sp'=KE ops sp:=by
  funext i p
  unfold KE
  rw[hk]
 have:∀i,Er ops sp' Uw i=Er ops sp base i:=by
  intro i
  unfold Er
  rw[hs,hk,hi,e1]
 unfold Iu at h ⊢
 rw[show Er ops sp' Uw=Er ops sp base from funext this]
 exact h
end
section
variable {P:Program} {S:Nat→Prop} {μ:Nat→Value} {w:World}
theorem a9.mono {S':Nat→Prop} {w':World} {H:List ak} (h:a9 S μ w H) (hS:∀b,S b→b<w.heap.size→S' b) (hb:Below w.heap.size w w') (hn:∀b,b<w.heap.size→S' b→S b):a9 S' μ w' H:=by
 refine⟨fun i A hA=>?_,h.apart,fun i A b hA hl QJ hs=>?_⟩
 ·rcases A.three with rfl | hl | hl
  ·trivial
  ·exact(h.box i A hA).stable hS (fun b _ hl=>hb.block b hl) hb.size (fun _ _=>rfl) (fun b QJ=>hb.block b ((h.box i A hA).lt hl b QJ))
  ·exact(h.box i A hA).stable hS (fun b _ hl=>hb.block b hl) hb.size (fun _ _=>rfl) (fun b QJ=>hb.block b ((h.box i A hA).ltR hl b QJ))
 ·have Ql:=(h.box i A hA).lt hl b QJ
  exact h.notS i A b hA hl QJ (hn b Ql hs)
theorem xk {H:List ak} (hH:a9 S μ w H) (hS:∀b,S b→b<w.heap.size) {ov:Ov} {t:TypeId} {len:Nat} {P8:List (Nat×D)} {Qj:List (Nat×Value)} (h1:P8.map (·.1)=Qj.map (·.1))
  (h2:∀(j:Nat) (x:Nat×D) (u:Nat×Value),P8[j]?=some x→Qj[j]?=some u→ai S μ w x.2 u.2) {d:D} {p:Prop} (hp:qG P H ov t len P8=(d,p)) (D':p) :
  ∃u vs E,(Instr.buildSlice t len Qj.toArray).run P w=.ok u (w.alloc (.cells vs E))∧ai (fun b=>S b∨b=w.heap.size) μ (w.alloc (.cells vs E)) d u:=by
 unfold qG at hp
 split at hp
 ·rename_i E hu
  split at hp
  ·rename_i z hz
   split at hp
   ·rename_i hc
    simp only[NK,N2,OY]at hc
    obtain⟨⟨⟨hk,Rp⟩,Qy⟩,ST⟩:=hc
    obtain⟨i,v,hi,hv,SS,Qk,VK⟩:=f5 hz
    split at hp
    ·rename_i cells hf
     have UA:aK S μ w z v.cells:=by
      rw[SS]
      refine⟨by simp,fun j y u hy hu=>?_⟩
      simp only[N4,Oo,hu,Oz,NW]at hy
      subst hy
      exact ai.ofVal1 S μ w u
     have Tm:=qE (P:=P) UA Rp (by omega) len
     obtain⟨vs,Sk,Rr⟩:=eJ hH P8 Qj _ cells _ h1 h2 Tm hf
     rw[← Qk]at Sk
     have Qp:=ij (P:=P) (w:=w) hu hi hv (by rw[Qk];exact ST) Sk
     have hcl:cells.length=len*az P E:=by
      have:∀(P8:List (Nat×D)) (c0 SU:List D),f9 H (fun i=>some (i*az P E,az P E)) c0 P8=some SU→SU.length=c0.length:=by
       intro P8
       induction P8 with
       | nil=>intro c0 SU h;simp only[f9,NW]at h;rw[h]
       | cons q r ih =>
        intro c0 SU h
        obtain⟨k,x⟩:=q
        unfold f9 at h
        split at h
        ·split at h
         ·rename_i Qt
          simp only[NK,OY]at Qt
          rw[ih _ _ h]
          simp[e9]
          omega
         ·cases h
        ·cases h
      rw[this _ _ _ hf]
      simp[Rp]
     have Qi:len≤maxLen:=by
      have:len*1≤len*az P E:=PM _ Qy
      simp only[maxLen]
      omega
     split at hp
     ·rename_i E' QK α Qb d' l'
      split at hp
      ·rename_i hc
       simp only[NK,N2]at hc
       obtain⟨rfl,rfl⟩:=hc
       simp only[NS]at hp
       obtain⟨rfl,rfl⟩:=hp
       refine⟨_,vs,E,Qp,.v _ _ ?_⟩
       obtain⟨q1,q2⟩:=jK D'
       have hA:dK S (w.alloc (.cells vs E)) E (az P E) (l'.map Qb) (.slice (some ⟨w.heap.size,0,none⟩) len len):=by
        refine sJ Rr hcl Qi (by rw[← q1];simp[nJ]) (fun i x hx=>?_) hS
        obtain⟨r,hr,QA⟩:=q2 i x hx
        obtain⟨r1,r2⟩:=eK QA
        obtain⟨hin,rfl⟩:=jj _ _ _ hr
        refine⟨?_,fun j y hy=>?_⟩
        ·rw[← r1,N3,N9,hcl]
         have:(i+1)*az P E≤len*az P E:=N8 _ hin
         rw[O0]at this
         omega
        ·obtain⟨d,hd,UX⟩:=r2 j y hy
         exact⟨d,jL hr hd,fun u hu=>kZ UX hu⟩
       have hB:aG S μ (w.alloc (.cells vs E)) (.slice (some ⟨w.heap.size,0,none⟩) len len) (.arr E (az P E) Qb d' l'):=hA.box rfl
       exact dh hB (fun b hb=>.inl hb) (fun b hb=>.inr (by simp[bu,aF]at hb;omega)) (fun b hb=>by have:=hS b hb;simp;omega)
      ·cases hp;exact D'.elim
     ·cases hp;exact D'.elim
    ·cases hp;exact D'.elim
   ·cases hp;exact D'.elim
  ·cases hp;exact D'.elim
 ·cases hp;exact D'.elim
theorem ER {H:List ak} (hH:a9 S μ w H) (hS:∀b,S b→b<w.heap.size) (hG:fy S w) {f:FuncId} {ds:List D} {q':Option (List D)} {al:Bool} {r:D} {us:Array Value} (hc:oo P f H ds q' al r) (QF:aK S μ w ds us)
  (QG:al=false∨fa ds=true) (hr:ed r=true) :
  Calls P f us w (fun e w'=>∃u,e=.returned u∧Below w.heap.size w w'∧ai (fun b=>S b∨w.heap.size≤b) μ w' r u):=by
 have SE:∀(Uj:List D) (S1:Nat→Prop),ap P f Uj [] al r []→(∀b,S1 b→b<w.heap.size)→(∀b,S b→S1 b)→(al=true→∀b,S1 b→S b)→aK S1 μ w Uj us →
   Calls P f us w (fun e w'=>∃u,e=.returned u∧Below w.heap.size w w'∧ai (fun b=>S b∨w.heap.size≤b) μ w' r u):=by
  intro Uj S1 hc h2 h1 h3 QF
  refine(hc S1 μ w us h2 (hG.stable (fun b hb _=>h1 b hb) (fun _ _ _=>rfl) (NN _)) ⟨fun id B hB=>by simp at hB,fun i j A B b hA=>by simp at hA,fun i A b hA=>by simp at hA⟩ QF).mono ?_
  rintro e w' ⟨u,μ',S',rfl,q1,q2,q3,q4,q5,q6,q7,q8,q9,_⟩
  refine⟨u,rfl,⟨q1,q2,q3,q4,fun k hk=>q5 k hk (fun i A hA=>by simp at hA)⟩,q9.stable ?_ (fun _ _ _=>rfl) (NN _) (fun id Qh=>by rw[fF id r hr]at Qh;cases Qh)⟩
  rintro b ⟨hb,RU⟩ _
  rcases q7 b hb with UJ | UJ
  ·rcases RU with RU | RU
   ·exact .inl (h3 RU b UJ)
   ·exact .inr RU
  ·exact .inr UJ
 cases q' with
 | none=>exact SE ds S hc hS (fun _ h=>h) (fun _ _ h=>h) QF
 | some q' =>
  obtain⟨hco,hc⟩:=hc
  refine SE q' (fun b=>S b∨(al=false∧∃(i:Nat) (A:ak),H[i]?=some A∧A.mem=true∧bu (μ i) b)) hc ?_ (fun b hb=>.inl hb) ?_ ?_
  ·rintro b (hb | ⟨_,i,A,hA,hl,hb⟩)
   ·exact hS b hb
   ·exact(hH.box i A hA).ltM hl b hb
  ·rintro h b (hb | ⟨h0,_⟩)
   ·exact hb
   ·rw[h]at h0;cases h0
  ·refine jI hH (fun b hb=>.inl hb) hS ?_ hco QF
   rcases QG with QG | QG
   ·exact .inl (fun i A b hA hl hb=>.inr ⟨QG,i,A,hA,hl,hb⟩)
   ·exact .inr QG
theorem Dy {H:List ak} (hH:a9 S μ w H) (hS:∀b,S b→b<w.heap.size) (hG:fy S w) {f:FuncId} {ds:List D} {id:Nat} {q':List D} {r:D} {us:Array Value} (hc:jJ P f H ds id q' r) (QF:aK S μ w ds us) (hr:ed r=true) :
  Calls P f us w (fun e w'=>∃u,e=.returned u∧Below w.heap.size w w'∧ai (fun b=>S b∨w.heap.size≤b) μ w' r u):=by
 unfold jJ at hc
 split at hc
 ·rename_i B hB
  obtain⟨hra,hc⟩:=hc
  cases TV:H[id]? with
  | none=>rw[TV]at hB;cases hB
  | some A =>
   rw[TV]at hB
   obtain⟨Rc,G'⟩:=vz (μ':=fun _=>μ id) hB (hH.box id A TV)
   have hl:B.live=false:=by cases B<;>first | rfl | cases Rc
   refine(hc S (fun _=>μ id) w us hS hG (BQ Rc G') (BP hra QF)).mono ?_
   rintro e w' ⟨u,μ',S',rfl,q1,q2,q3,q4,q5,q6,q7,q8,q9,_⟩
   refine⟨u,rfl,⟨q1,q2,q3,q4,fun k hk=>q5 k hk (fun i A hA la=>?_)⟩,q9.stable (fun b hb _=>q7 b hb.1) (fun _ _ _=>rfl) (NN _) (fun id Qh=>by rw[fF id r hr]at Qh;cases Qh)⟩
   match i with
   | 0=>simp at hA;rw[← hA,hl]at la;cases la
   | i+1=>simp at hA
 ·exact hc.elim
theorem Dz {H:List ak} (hH:a9 S μ w H) (hS:∀b,S b→b<w.heap.size) (hG:fy S w) {ρ:Operand→D} {ρ':Operand→Value} (hρ:∀x,ai S μ w (ρ x) (ρ' x)) {ov:Ov} {o:Oper} {d:D} {p:Prop} (hp:L7 P H ρ ov o.op=(d,p)) (D':p) (Up:I9 o=none)
  {R:Value→World→Prop} (hR:∀u w',Below w.heap.size w w'→ai (fun b=>S b∨w.heap.size≤b) μ w' d u→R u w'):nk P R ((execOp ρ' o).run P w):=by
 unfold L7 at hp
 split at hp
 ·rename_i ho
  unfold I9 at Up
  rw[ho]at Up
  cases Up
 ·rename_i t len P8 ho
  obtain⟨u,vs,E,h1,h2⟩:=xk hH hS (Qj:=P8.toList.map fun p=>(p.1,ρ' p.2)) (by simp) (fun j x u hx hu=>by
   simp only[N4,Oo]at hx hu
   cases hj:P8[j]? with
   | none=>rw[hj]at hx;cases hx
   | some q=>rw[hj]at hx hu;simp at hx hu;subst hx hu;exact hρ q.2) hp D'
  have he:P8.map (fun (i,x)=>(i,ρ' x))=(P8.toList.map fun p=>(p.1,ρ' p.2)).toArray:=PJ (by simp)
  rw[← he]at h1
  refine nk.of (v:=u) (w':=w.alloc (.cells vs E)) ?_ (hR _ _ ((Below.refl _ _).alloc (NN _) _) (h2.stable ?_ (fun _ _ _=>rfl) (NN _) (fun _ _=>rfl)))
  ·simp only[execOp,ho,NP,h1,NO,N6]
  ·rintro b (hb | rfl) _
   ·exact .inl hb
   ·exact .inr (NN _)
 ·rename_i f args Tz ho
  unfold IA at hp
  split at hp
  ·rename_i g first cap id q' r hf
   split at hp
   ·rename_i hc
    simp only[NK]at hc
    obtain⟨SC,hr⟩:=hc
    simp only[NS]at hp
    obtain⟨rfl,rfl⟩:=hp
    have RJ:=hf ▸ hρ f
    generalize Rh:ρ' f=uf at RJ
    cases RJ with
    | fn _ _ _ us vs h1 h2 h3 h4 =>
     have Qp:(execOp ρ' o).run P w=.ok (.enter g (us++args.map ρ'++vs)) w:=by
      simp[execOp,ho,resolve,Rh,Deferred.ofValue,invoke,bA SC]
     rw[Qp]
     have RB:aK S μ w (args.toList.map ρ) (args.map ρ'):=by
      refine⟨by simp,fun j y z hy hz=>?_⟩
      simp only[N4,Oo,O1]at hy hz
      cases hj:args[j]? with
      | none=>rw[hj]at hy;cases hy
      | some x=>rw[hj]at hy hz;simp at hy hz;subst hy hz;exact hρ x
     refine nk.enter ((Dy hH hS hG D' (aK.app (aK.app ⟨h1,h2⟩ RB) ⟨h3,h4⟩) hr).mono ?_)
     rintro e w' ⟨u,rfl,hb,hd⟩
     exact⟨u,rfl,hR u w' hb hd⟩
   ·cases hp;exact D'.elim
  ·rename_i g first cap q' al r hf
   split at hp
   ·rename_i hc
    simp only[NK,Oq,Oc]at hc
    obtain⟨⟨SC,hr⟩,QG⟩:=hc
    simp only[NS]at hp
    obtain⟨rfl,rfl⟩:=hp
    have RJ:=hf ▸ hρ f
    generalize Rh:ρ' f=uf at RJ
    cases RJ with
    | fn _ _ _ us vs h1 h2 h3 h4 =>
     have Qp:(execOp ρ' o).run P w=.ok (.enter g (us++args.map ρ'++vs)) w:=by
      simp[execOp,ho,resolve,Rh,Deferred.ofValue,invoke,bA SC]
     rw[Qp]
     have RB:aK S μ w (args.toList.map ρ) (args.map ρ'):=by
      refine⟨by simp,fun j y z hy hz=>?_⟩
      simp only[N4,Oo,O1]at hy hz
      cases hj:args[j]? with
      | none=>rw[hj]at hy;cases hy
      | some x=>rw[hj]at hy hz;simp at hy hz;subst hy hz;exact hρ x
     refine nk.enter ((ER hH hS hG D' (aK.app (aK.app ⟨h1,h2⟩ RB) ⟨h3,h4⟩) QG hr).mono ?_)
     rintro e w' ⟨u,rfl,hb,hd⟩
     exact⟨u,rfl,hR u w' hb hd⟩
   ·cases hp;exact D'.elim
  ·cases hp;exact D'.elim
 ·have key:∀d0,(∃q,fA P H ρ o.op=(d0,q)∧q)→(∀u,ai S μ w d0 u→ai S μ w d u)→nk P R ((execOp ρ' o).run P w):=by
   rintro d0 ⟨q,hq,Sl⟩ hd
   obtain⟨u,h1,h2⟩:=gM hH hρ hq Sl
   exact nk.of h1 (hR u w (Below.refl _ _) ((hd u h2).stable (fun b hb _=>.inl hb) (fun _ _ _=>rfl) (NN _) (fun _ _=>rfl)))
  split at hp
  ·simp only[NS]at hp
   obtain⟨rfl,rfl⟩:=hp
   exact key _ ⟨_,rfl,D'.1⟩ (fun u hu=>o8 D'.2 hu)
  ·simp only[NS]at hp
   obtain⟨rfl,rfl⟩:=hp
   exact key _ ⟨_,rfl,D'.1⟩ (fun u hu=>D'.2 _ _ _ _ hu)
  ·exact key d ⟨p,hp,D'⟩ (fun _ h=>h)
end
theorem Ev.freeze {C:jB} {st:St} {Q:Exit→St→Prop} {c:Code} (id:Nat) {J':St} (h:mi id st=some J') (he:Ev C c Q J'):Ev C c Q st:=fun a w S μ hR=>by
 obtain⟨S',QZ⟩:=hR.freeze h
 exact he a w S' μ QZ
def Az (id j E sz:Nat) {α:Type} (enc:α→List V) (d:α) (st:St):Option St :=
 if bv st.heap.length st.env&&aY st.heap.length st.heap then
  match st.heap[id]? with
  | some (.var T cs)=>match cs[j]? with
   | some .nils=>some ⟨st.env,st.heap.set id (.var T (cs.set j (.own st.heap.length)))++[.arr E sz enc d []]⟩
   | _=>none
  | _=>none
 else none
def adoptE (t E sz:Nat) {α:Type} (enc:α→List V) (d:α) (st:St):Option St :=
 if bv st.heap.length st.env&&aY st.heap.length st.heap&&EL st.env t then
  match nC st.env t with
  | .nils=>some ⟨sd st.env t (.own st.heap.length),st.heap++[.arr E sz enc d []]⟩
  | _=>none
 else none
section
variable {C:jB} {S:Nat→Prop} {μ:Nat→Value} {st:St} {a:Act} {w:World} {Q:Exit→St→Prop}
theorem aU.addNil (h:aU C S μ st a w) (hf:bv st.heap.length st.env=true) (hh:aY st.heap.length st.heap=true) (E sz:Nat) {α:Type} (enc:α→List V) (d:α) :
  aU C S (aO μ st.heap.length (.slice none 0 0)) ⟨st.env,st.heap++[.arr E sz enc d []]⟩ a w:=by
 have:=h.upd (id:=st.heap.length) (B:=.arr E sz enc d []) (row:=none) (u:=.slice none 0 0) (oA w) (fun k hk=>by cases hk) (NN _)
  ⟨fun i x hx=>by simp at hx,[],Pa w 0 E sz,fun i x j y hx=>by simp at hx⟩ (fun b hb=>by simp[bu,aF]at hb) (.inr ⟨fun A hA=>by simp at hA,hf,hh⟩)
 rw[show bh st.heap st.heap.length (.arr E sz enc d [])=st.heap++[.arr E sz enc d []]from by simp[bh]]at this
 exact this
theorem aU.boxTo (h:aU C S μ st a w) {id:Nat} {A B:ak} (hA:st.heap[id]?=some A) (TH:A.live=true) (hk:B.isArr=false∨A.isArr=true) (hB:aG S μ w (μ id) B) (Rc:B.isRo=false:=by rfl):aU C S μ ⟨st.env,st.heap.set id B⟩ a w:=by
 have Qh:id<st.heap.length:=(NL.1 hA).1
 have hg:∀(i:Nat) (X:ak),(st.heap.set id B)[i]?=some X→(i=id∧X=B)∨st.heap[i]?=some X:=by
  intro i X hX
  by_cases hi:i=id
  ·subst hi
   rw[N0 Qh]at hX
   cases hX
   exact .inl ⟨rfl,rfl⟩
  ·rw[NZ (fun e=>hi e.symm)]at hX
   exact .inr hX
 have hl:∀(i:Nat) (X:ak),(st.heap.set id B)[i]?=some X→X.live=true→∃Y,st.heap[i]?=some Y∧Y.live=true:=by
  intro i X hX hXl
  rcases hg i X hX with ⟨rfl,rfl⟩ | U9
  ·exact⟨A,hA,TH⟩
  ·exact⟨X,U9,hXl⟩
 refine⟨h.os,h.tape,h.output,h.size,h.old,h.mono,h.new,h.slt,h.env,⟨fun i X hX=>?_,fun i k X Y b hX hY lX lY=>?_,fun i X b hX lX=>?_⟩,fun i X b hX lX=>?_,?_,h.tsize,fun i X b hX lX=>?_⟩
 ·rcases hg i X hX with ⟨rfl,rfl⟩ | U9
  ·exact hB
  ·exact h.heap.box i X U9
 ·obtain⟨X',q1,q2⟩:=hl i X hX lX
  obtain⟨Y',q3,q4⟩:=hl k Y hY lY
  exact h.heap.apart i k X' Y' b q1 q3 q2 q4
 ·obtain⟨X',q1,q2⟩:=hl i X hX lX
  exact h.heap.notS i X' b q1 q2
 ·obtain⟨X',q1,q2⟩:=hl i X hX lX
  exact h.may i X' b q1 q2
 ·obtain⟨mk,d1,d2,d3⟩:=h.defers
  refine⟨mk,d1,d2,fun b hb=>?_⟩
  obtain⟨q1,q2,q3,q4⟩:=d3 b hb
  refine⟨q1,q2,q3,fun i X hX lX=>?_⟩
  obtain⟨X',q5,q6⟩:=hl i X hX lX
  exact q4 i X' q5 q6
 ·rcases hg i X hX with ⟨rfl,rfl⟩ | U9
  ·rw[Rc]at lX;cases lX
  ·exact h.ro i X b U9 lX
theorem Ev.adopt {c:Code} (id j E sz:Nat) {α:Type} (enc:α→List V) (d:α) {J':St} (h:Az id j E sz enc d st=some J') (he:Ev C c Q J'):Ev C c Q st:=fun a w S μ hR=>by
 unfold Az at h
 split at h
 ·rename_i hc
  simp only[NK]at hc
  split at h
  ·rename_i T cs G'
   split at h
   ·rename_i hj
    simp only[NW]at h
    subst h
    have Qh:id<st.heap.length:=(NL.1 G').1
    have h1:=hR.addNil hc.1 hc.2 E sz enc d
    have Wy:(st.heap++[ak.arr E sz enc d []])[id]?=some (.var T cs):=by rw[NU Qh];exact G'
    have hB:=h1.heap.box id _ Wy
    have h2:=h1.boxTo Wy rfl (B:=.var T (cs.set j (.own st.heap.length))) (.inl rfl) (by
     obtain⟨b,vs,e1,e2,e3,e4⟩:=hB
     refine⟨b,vs,e1,e2,by rw[Ok];exact e3,fun k y x hy hx=>?_⟩
     by_cases hk:k=j
     ·subst hk
      have Ql:k<cs.length:=(NL.1 hj).1
      rw[N0 Ql]at hy
      cases hy
      have:=e4 k _ x hj hx
      cases this
      have ho:=ai.own (S:=S) (μ:=aO μ st.heap.length (.slice none 0 0)) (w:=w) st.heap.length
      rwa [ar]at ho
     ·rw[NZ (fun e=>hk e.symm)]at hy
      exact e4 k y x hy hx)
    have e3:(st.heap++[ak.arr E sz enc d []]).set id (.var T (cs.set j (.own st.heap.length)))=st.heap.set id (.var T (cs.set j (.own st.heap.length)))++[ak.arr E sz enc d []]:=by
     rw[List.set_append,NT Qh]
    simp only at h2
    rw[e3]at h2
    exact he a w S _ h2
   ·cases h
  ·cases h
 ·cases h
theorem Ev.adoptE {c:Code} (t E sz:Nat) {α:Type} (enc:α→List V) (d:α) {J':St} (h:Proofs.Ytcejcppjedhicaa.adoptE t E sz enc d st=some J') (he:Ev C c Q J'):Ev C c Q st:=fun a w S μ hR=>by
 unfold Proofs.Ytcejcppjedhicaa.adoptE at h
 split at h
 ·rename_i hc
  simp only[NK]at hc
  split at h
  ·rename_i hj
   simp only[NW]at h
   subst h
   have h1:=hR.addNil hc.1.1 hc.1.2 E sz enc d
   have hv:=h1.eval (.tmp t)
   simp only[dW]at hv
   rw[hj]at hv
   obtain⟨e0,hm⟩:=tJ hc.2
   refine he a w S _ ⟨h1.os,h1.tape,h1.output,h1.size,h1.old,h1.mono,h1.new,h1.slt,fun s e hs=>?_,h1.heap,h1.may,h1.defers,h1.tsize,h1.ro⟩
   rcases OB.1 hs with hs | hs
   ·cases hs
    refine⟨(h1.env t e0 hm).1,?_⟩
    have ho:=ai.own (S:=S) (μ:=aO μ st.heap.length (.slice none 0 0)) (w:=w) st.heap.length
    rw[ar]at ho
    generalize hu:a.eval (.tmp t)=u at hv
    cases hv
    have:a.tmps.getD t undef=.slice none 0 0:=hu
    rw[this]
    exact ho
   ·exact h1.env s e (fB hs).1
  ·cases h
 ·cases h
end
abbrev sK:=List (List Bool×St)
def eL:sK→List Bool→Option St
 | [],_=>none
 | (l,s)::r,k=>if decide (l=k)then some s else eL r k
def Ja (ops:List Oper) (ls:List Bool) (i:Nat):Bool:=!ls.getD i false&&(match ops[i]? with | some o=>o.after.toList.all (fun e=>!Region.binds .any e||ls.getD e.on false) | none=>false)
def ik (ops:List Oper) (ls:List Bool):List Nat:=(List.range ops.length).filter (Ja ops ls)
def tK (s1 s2:St):St:=⟨lg (s2.env.map (·.1)) s1.env,s1.heap⟩
def vR (P:Program) (nt:Nat) (ops:List Oper) (Qs:List (Nat×Ov)) (tab:sK) (ls:List Bool) (st:St) (i:Nat):Prop :=
 match ops[i]? with
 | some o=>match cR P nt ops Qs i [o] st with
  | (s1,p)=>match eL tab (ls.set i true)with
   | some s2=>tK s1 s2=s2∧p
   | none=>False
 | none=>False
def AA (P:Program) (nt:Nat) (ops:List Oper) (Qs:List (Nat×Ov)) (tab:sK) (ls:List Bool) (st:St):List Nat→Prop
 | []=>True
 | i::r=>vR P nt ops Qs tab ls st i∧AA P nt ops Qs tab ls st r
def xl (P:Program) (nt:Nat) (ops:List Oper) (Qs:List (Nat×Ov)) (tab:sK) (ls:List Bool) (st:St):Prop :=
 if ls.all id then True else match ik ops ls with
  | []=>False
  | l=>AA P nt ops Qs tab ls st l
def DA (P:Program) (nt:Nat) (ops:List Oper) (Qs:List (Nat×Ov)) (tab:sK):sK→Prop
 | []=>True
 | (ls,st)::r=>xl P nt ops Qs tab ls st∧DA P nt ops Qs tab r
theorem qH:∀{tab:sK} {k:List Bool} {s:St},eL tab k=some s→(k,s)∈tab
 | (l,t)::r,k,s,h=>by
  unfold eL at h
  split at h
  ·rename_i hl
   cases h
   rw[O4 hl]
   exact Oi ..
  ·exact Oe _ (qH h)
theorem tL {P:Program} {nt:Nat} {ops:List Oper} {Qs:List (Nat×Ov)} {tab:sK}:∀{l:sK} {k:List Bool} {s:St},DA P nt ops Qs tab l→(k,s)∈l→xl P nt ops Qs tab k s
 | (a,t)::r,k,s,h,hm=>by
  rcases OB.1 hm with hm | hm
  ·cases hm;exact h.1
  ·exact tL h.2 hm
theorem oC {P:Program} {nt:Nat} {ops:List Oper} {Qs:List (Nat×Ov)} {tab:sK} {ls:List Bool} {st:St}:∀{l:List Nat} {i:Nat},AA P nt ops Qs tab ls st l→i∈l→vR P nt ops Qs tab ls st i
 | a::r,i,h,hm=>by
  rcases OB.1 hm with hm | hm
  ·cases hm;exact h.1
  ·exact oC h.2 hm
section
variable {C:jB} {st J':St} {Q:Exit→St→Prop}
def gm (ls:List Bool):Nat:=(ls.filter (!·)).length
theorem qI:∀{ls:List Bool} {i:Nat},i<ls.length→ls.getD i false=false→gm (ls.set i true)+1=gm ls
 | b::ls,0,_,h=>by
  simp at h
  subst h
  simp[gm]
 | b::ls,i+1,hi,h=>by
  have:=qI (ls:=ls) (i:=i) (by simpa using hi) (by simpa using h)
  cases b<;>simp[gm]at this ⊢<;>omega
theorem tM:∀{ls:List Bool},gm ls=0→ls.all id=true
 | [],_=>rfl
 | true::ls,h=>by simp[gm]at h ⊢;simpa using h
 | false::ls,h=>by simp[gm]at h
theorem ew:∀{ls:List Bool},ls.all id=true→ls=List.replicate ls.length true
 | [],_=>rfl
 | true::ls,h=>by
  have:=ew (ls:=ls) (by simpa using h)
  rw[Ow,List.replicate_succ,← this]
 | false::ls,h=>by simp at h
theorem Ev.any {rid:Nat} {ops:List Oper} (Qs:List (Nat×Ov)) (tab:sK) {RX:St} {p:Prop} (hm:C.P.follows .mixedOrders=true) (hnd:ops.all (fun o=>!cH o)=true) (h0:eL tab (List.replicate ops.length false)=some RX) (hk:tK st RX=RX)
  (he:eL tab (List.replicate ops.length true)=some J') (h:DA C.P C.nt ops Qs tab tab=p) (hp:p) (hq:Q .normal J'):Ev C (.region rid ops.toArray true) Q st:=fun a w S μ hR=>by
 subst h
 have Qk:ops.toArray.size=ops.length:=by simp
 have main:∀(fuel:Nat) (ls:List Bool) (C':Array Bool) (s:St) (S:Nat→Prop) (μ:Nat→Value) (a:Act) (w:World),gm ls=fuel→ls.length=ops.length→C'.size=ops.length→(∀i,C'.getD i false=ls.getD i false) →
   eL tab ls=some s→aU C S μ s a w→wpAnyIn (kL C.rd) 0 C.P .any ops.toArray (fun e a' w'=>∃J' S' μ',Q e J'∧aU C S' μ' J' a' w') fuel C' a w:=by
  intro fuel
  induction fuel with
  | zero =>
   intro ls C' s S μ a w hf hl hls hg hs hR
   have hall:=tM hf
   have QY:=ew hall
   rw[hl]at QY
   refine⟨O5.2 (fun i hi=>?_),?_⟩
   ·obtain⟨h1,o,ho,_⟩:=(bQ C' (by rw[hls,Qk]) i).1 hi
    have Ri:i<ops.length:=by simpa using(NV.1 ho).1
    have hb:(List.replicate ops.length true).getD i false=true:=by simp[List.getD,OW,Ri]
    rw[hg,QY,hb]at h1
    cases h1
   ·rw[QY,he]at hs
    cases hs
    exact⟨_,S,μ,hq,hR⟩
  | succ fuel ih =>
   intro ls C' s S μ a w hf hl hls hg hs hR
   have Sd:=tL hp (qH hs)
   have Up:ls.all id=false:=by
    cases hb:ls.all id
    ·rfl
    ·rw[ew hb]at hf
     simp[gm]at hf
   unfold xl at Sd
   rw[NQ (by rw[Up];simp)]at Sd
   have TW:∀i,i∈Region.ready .any ops.toArray C'↔i∈ik ops ls:=by
    intro i
    rw[bQ C' (by rw[hls,Qk]) i]
    unfold ik
    rw[PV,OJ]
    unfold Ja
    constructor
    ·rintro⟨h1,o,ho,h2⟩
     have Rq:ops[i]?=some o:=by simpa using ho
     refine⟨(NL.1 Rq).1,?_⟩
     rw[← hg,h1,Rq]
     simp only[Bool.not_false,Pw,Oa,PG,Oq,Oc]
     intro e he
     cases hb:Region.binds .any e
     ·exact .inl rfl
     ·exact .inr (by rw[← hg];exact h2 e he hb)
    ·rintro⟨h1,h2⟩
     rw[NK]at h2
     obtain⟨h2,h3⟩:=h2
     rw[NM h1]at h3
     refine⟨by rw[hg];simpa using h2,ops[i],by simp[NM h1],fun e he hb=>?_⟩
     simp only[Oa,PG,Oq,Oc]at h3
     rcases h3 e he with h4 | h4
     ·rw[hb]at h4;cases h4
     ·rw[hg];exact h4
   have U8:∀i,i∈ik ops ls→vR C.P C.nt ops Qs tab ls s i:=by
    intro i hi
    cases hr:ik ops ls with
    | nil=>rw[hr]at hi;cases hi
    | cons j r =>
     rw[hr]at Sd hi
     exact oC Sd hi
   refine⟨fun Sb=>?_,fun i hi=>?_⟩
   ·exfalso
    cases hr:ik ops ls with
    | nil=>rw[hr]at Sd;exact Sd
    | cons j r =>
     have:j∈Region.ready .any ops.toArray C':=(TW j).2 (by rw[hr];exact Oi ..)
     rw[Sb]at this
     cases this
   ·have hi2:=(TW i).1 hi
    have QU:=U8 i hi2
    obtain⟨Re,o,ho,_⟩:=(bQ C' (by rw[hls,Qk]) i).1 hi
    have Rq:ops[i]?=some o:=by simpa using ho
    have Ql:i<ops.length:=(NL.1 Rq).1
    unfold vR at QU
    rw[Rq]at QU
    simp only at QU
    generalize hsq:cR C.P C.nt ops Qs i [o] s=q at QU
    obtain⟨s1,p1⟩:=q
    simp only at QU
    split at QU
    ·rename_i s2 Ss
     obtain⟨Sp,Tl⟩:=QU
     have next:∀S' μ' a' w',aU C S' μ' s1 a' w'→wpAnyIn (kL C.rd) 0 C.P .any ops.toArray (fun e a' w'=>∃J' S' μ',Q e J'∧aU C S' μ' J' a' w') fuel (C'.setIfInBounds i true) a' w':=by
      intro S' μ' a' w' QZ
      have TI:=QZ.keep (s2.env.map (·.1))
      have e2:(⟨lg (s2.env.map (·.1)) s1.env,s1.heap⟩:St)=s2:=Sp
      rw[e2]at TI
      refine ih (ls.set i true) (C'.setIfInBounds i true) s2 S' μ' a' w' ?_ (by simpa using hl) (by simpa using hls) ?_ Ss TI
      ·have:=qI (ls:=ls) (i:=i) (by omega) (by rw[← hg];exact Re)
       omega
      ·intro j
       rw[aV _ _ _ (by omega)]
       split
       ·rename_i hj
        rw[hj]
        unfold List.getD
        rw[N0 (show i<ls.length by omega)]
        rfl
       ·rename_i hj
        rw[hg]
        unfold List.getD
        rw[NZ (by omega)]
     have hdef:cH o=false:=by
      rw[Oa]at hnd
      have:=hnd o (Oh Rq)
      simpa using this
     unfold cR at hsq
     unfold wpOpIn
     rw[ho]
     simp only
     split at hsq
     ·rename_i VB
      rw[NT (b5 hR VB)]
      generalize Se:nM C.P C.nt (ld Qs i) o s=q1 at hsq
      obtain⟨s1',p1'⟩:=q1
      simp only[cR,NS]at hsq
      obtain⟨rfl,rfl⟩:=hsq
      exact sx hdef (li hR Se Tl.1 next)
     ·rename_i VB
      rw[NQ (by rw[b5 hR VB];simp)]
      generalize Se:lf C.nt s o.dst=q1 at hsq
      obtain⟨s1',p1'⟩:=q1
      simp only[cR,NS]at hsq
      obtain⟨rfl,rfl⟩:=hsq
      refine⟨fun f _=>oe C.rd f,?_⟩
      unfold lf at Se
      refine next S μ _ _ (hR.ePut Se Tl.1 ?_).2
      exact .tup [] #[] rfl (fun j y u hy _=>by simp at hy)
     ·simp only[aL,NS]at hsq
      rw[← hsq.2]at Tl
      exact Tl.elim
    ·exact QU.elim
 refine wpIn_region_any hm ?_
 have hR0:aU C S μ st a { w with drawn:=w.drawn+1 }:=hR.grow rfl rfl rfl (NN _) (fun _ _=>rfl) (fun b hb=>hb) (fun b hb=>.inl hb) (fun b hb=>hR.slt b hb)
 have V0:=hR0.keep (RX.env.map (·.1))
 have e0:(⟨lg (RX.env.map (·.1)) st.env,st.heap⟩:St)=RX:=hk
 rw[e0]at V0
 refine main ops.toArray.size (List.replicate ops.length false) (Array.replicate ops.toArray.size false) RX S μ a _ (by rw[Qk];simp[gm]) (by simp) (by simp) (fun i=>by simp[Array.getD,List.getD,OW];split<;>rfl) h0 V0
end
def tN (id:Nat):List D→List D→Prop
 | [],[]=>True
 | .own i::cs,.own j::ds=>i=id∧j=0∧tN id cs ds
 | c::cs,d::ds=>(scal c&&scal d)=true∧qp c d∧tN id cs ds
 | _,_=>False
def AB (id:Nat):D→D→Prop
 | .own i,.own j=>i=id∧j=0
 | .gr i r,.gr j s=>i=id∧j=0∧r=s
 | .agg cs,.agg ds=>tN id cs ds
 | _,_=>False
section
variable {P:Program} {C:jB} {S:Nat→Prop} {μ:Nat→Value} {st:St} {a:Act} {w:World} {Q:Exit→St→Prop}
theorem DB {S S2:Nat→Prop} {μ μ2:Nat→Value} {w:World} {c d:D} {u:Value} (h:ai S μ w c u) (hs:(scal c&&scal d)=true) (he:qp c d):ai S2 μ2 w d u:=by
 simp only[NK]at hs
 have h2:ai S μ w d u:=o8 he h
 cases d<;>first | (cases hs.2;done) | skip
 cases h2 with
 | v _ _ h=>exact .v _ _ (h.flat hs.2)
theorem vS {S S2:Nat→Prop} {μ:Nat→Value} {w:World} {id:Nat}:∀{cs ds:List D},tN id cs ds→cs.length=ds.length∧∀(j:Nat) (c d:D) (u:Value),cs[j]?=some c→ds[j]?=some d→ai S μ w c u→ai S2 (fun _=>μ id) w d u
 | [],[],_=>⟨rfl,fun j c d u hc=>by simp at hc⟩
 | [],_::_,h=>by simp[tN]at h
 | c::cs,[],h=>by cases c<;>simp[tN]at h
 | c::cs,d::ds,h=>by
  have key:((c=.own id∧d=.own 0)∨((scal c&&scal d)=true∧qp c d))∧tN id cs ds:=by
   cases c<;>first | (obtain⟨h1,h2,h3⟩:=h;exact⟨.inr ⟨h1,h2⟩,h3⟩) | skip
   rename_i i
   cases d<;>first | (obtain⟨h1,h2,h3⟩:=h;cases h1;done) | skip
   obtain⟨rfl,rfl,h3⟩:=h
   exact⟨.inl ⟨rfl,rfl⟩,h3⟩
  obtain⟨q1,q2⟩:=vS (S:=S) (S2:=S2) (μ:=μ) (w:=w) key.2
  refine⟨by simp[q1],fun j x y u hx hy hu=>?_⟩
  match j with
  | 0 =>
   simp at hx hy
   subst hx hy
   rcases key.1 with ⟨rfl,rfl⟩ | ⟨k1,k2⟩
   ·cases hu
    exact ai.own (μ:=fun _=>μ id) 0
   ·exact DB hu k1 k2
  | j+1=>exact q2 j x y u (by simpa using hx) (by simpa using hy) hu
theorem ES {S S2:Nat→Prop} {μ:Nat→Value} {w:World} {id:Nat} {d r:D} {u:Value} (h:ai S μ w d u) (hr:AB id d r):ai S2 (fun _=>μ id) w r u:=by
 cases d<;>cases r<;>first | (simp[AB]at hr;done) | skip
 ·obtain⟨rfl,rfl⟩:=hr
  cases h
  exact ai.own (μ:=fun _=>μ _) 0
 ·obtain⟨q1,q2⟩:=vS (S:=S) (S2:=S2) (μ:=μ) (w:=w) hr
  cases h with
  | agg _ us h1 h2 =>
   refine .agg _ us (by omega) (fun j y x hy hx=>?_)
   have hj:j<us.size:=(NV.1 hx).1
   rename_i cs ds
   have hc:cs[j]?=some cs[j]:=NM (by omega)
   exact q2 j _ y x hc hy (h2 j _ x hc hx)
 ·obtain⟨rfl,rfl,rfl⟩:=hr
  cases h with
  | gr _ _ us _ h1 h2 h3=>exact .gr 0 _ us u h1 h2 h3
theorem Ev.move {c:Code} (j i:Nat) {J':St} (h:BU j i st=some J') (he:Ev C c Q J'):Ev C c Q st:=fun a w S μ hR=>he a w S _ (hR.move h)
end
abbrev dI (k:IntKind) (n:Int):D:=.v (.int k n)
abbrev dB (b:Bool):D:=.v (.bool b)
abbrev dS (s:ByteArray):D:=.v (.str s)
abbrev dL {α:Type} (sz:Nat) (enc:α→List V) (d:α) (l:List α):D:=.v (.sl sz enc d l)
abbrev i6 (n:Int):D:=.v (.int .i64 n)
def ac (k:IntKind) (n:Int):List V:=[.int k n]
def ck (b:Bool):List V:=[.bool b]
def eS (s:ByteArray):List V:=[.str s]
abbrev LI (l:List Int):D:=.v (.sl 1 (ac .i64) 0 l)
abbrev LY (l:List Int):D:=.v (.sl 1 (ac .u8) 0 l)
abbrev LB (l:List Bool):D:=.v (.sl 1 ck false l)
def bm:Nat→Nat→List Bool
 | 0,_=>[]
 | n+1,k=>(k%2==1)::bm n (k / 2)
theorem oK:True:=⟨⟩
abbrev sE (s:St) (p:Prop):Prop:=s=s∧p∧True
theorem IB {x y:Int} (h:x=y) (h1:-9223372036854775808≤y) (h2:y≤9223372036854775807):IntKind.i64.wrap x=y:=by
 rw[h,IntKind.wrap_i64];omega
theorem Jb {x y:Int} (h:x=y) (h1:0≤y) (h2:y≤18446744073709551615):IntKind.u64.wrap x=y:=by
 rw[h,IntKind.wrap_u64];omega
theorem MZ {x y:Int} (h:x=y) (h1:0≤y) (h2:y≤255):IntKind.u8.wrap x=y:=by
 rw[h,IntKind.wrap_u8'];omega
end Go.Proofs.Ytcejcppjedhicaa
