/-
  Walks on pure data: operations,rules,regions. Generic: over any program.
-/
import Derived.Test.YtnlmlkbaflmgcaaQKa
namespace Go.Proofs.Ytnlmlkbaflmgcaa
open Go.RowKit
set_option linter.unusedVariables false
set_option linter.unusedSimpArgs false
inductive Ov:Type 1
 | none
 | val (d:D)
 | lift (d:D)
 | box (E:TypeId) (sz:Nat) {α:Type} (enc:α→List V) (d:α) (l:List α)
 | call (q':Option (List D)) (al:Bool) (r:D)
 | callr (id:Nat) (q':List D) (r:D)
 | frz (E:TypeId) (sz:Nat) {α:Type} (enc:α→List V) (d:α) (l:List α)
 | inl (r:D) (env:List (Nat×D)) (H:List ax)
 | inls (r:D)
 | yld (b:Bool) (env:List (Nat×D)) (H:List ax)
 | idx (i:Option Nat)
 | ent (d:D)
 | callg (q':Option (List D)) (al:Bool) (r:D)
 | ownc (q':Option (List D)) (r:D) (B:ax)
 | ownd (q':Option (List D)) (r:D) (B:ax)
 | apf (E sz:Nat) {α:Type} (enc:α→List V) (d:α) (l:List α)
 | mbox (t:TypeId) (ag:Bool) {α:Type} (enc:α→List V) (d:α) (l:List (ByteArray×α))
 | app (fz:Bool) (E sz:Nat) {α:Type} (enc:α→List V) (d:α) (l:List α)
 | cells (gs:List Nat) (cell:Nat→Nat→D)
def sQ (H:List ax):D→Bool
 | .agg _=>false
 | .tup _=>false
 | .junk=>false
 | .own id=>match H[id]? with | some (.arr _ _ _ _ _)=>true | some (.ro _ _ _ _ _)=>true | some (.mpb _ _ _ _ _)=>true | some (.arrD _ _ _ _ _)=>true | _=>false
 | _=>true
abbrev R2:=St×Prop
def aW (st:St):R2:=(st,False)
def Ld:D→Option V
 | .v x=>some x
 | .nils=>some (.sl 0 (α:=Unit) (fun _=>[]) () [])
 | _=>none
def xT:List D→Option (List V)
 | []=>some []
 | d::r=>match Ld d,xT r with
  | some x,some xs=>some (x::xs)
  | _,_=>none
def sR:List (List D)→Option (List (List V))
 | []=>some []
 | d::r=>match xT d,sR r with
  | some x,some xs=>some (x::xs)
  | _,_=>none
def Hn:D→V→Prop
 | .v x,y=>xD x y
 | .nils,.sl _ _ _ l=>l=[]
 | .nils,.nsl=>True
 | _,_=>False
def dV:List D→List V→Prop
 | [],[]=>True
 | d::ds,v::vs=>Hn d v∧dV ds vs
 | _,_=>False
def an:List (List D)→List (List V)→Prop
 | [],[]=>True
 | d::ds,v::vs=>dV d v∧an ds vs
 | _,_=>False
def nN (E sz:Nat) (L:List (List V)):Ov→ax×Prop
 | .box E' RY Rz d' l'=>if Nat.beq E E'&&Nat.beq sz RY then (.arr E sz Rz d' l',L=l'.map Rz)else (.dead,False)
 | _=>(.arr E sz (α:=Nat) (fun i=>L.getD i []) 0 (List.range L.length),True)
def newBox (st:St) (nt:Nat) (dst:Option Nat) (B:ax) (d:D) (p:Prop):R2 :=
 match dst with
 | some t=>if Nat.blt t nt&&bO st.heap.length st.env&&bL st.heap.length st.heap then (⟨uu st.env t d,st.heap++[B]⟩,p)else aW st
 | none=>aW st
def eVar (nt:Nat) (st:St) (dst:Option Nat) (T:TypeId) (cs:List D):R2 :=
 if D.freeL st.heap.length cs then newBox st nt dst (.var T cs) (.ptr st.heap.length 0 0 0) True else aW st
def JQ (sz n i I':Nat) (new:List D) (TC:List Nat) (cell Rv:Nat→Nat→D):Prop :=
 ∀i' j,i'<n→j<sz→Rv i' j=(if i'=i∧I'≤j∧j<I'+new.length then new.getD (j-I') .junk else cell i' j)∧∀id,TC.all (fun g=>!(Nat.beq g id))=true→(Rv i' j).free id=true
def sS (P:Program) (st:St) (ov:Ov) (t:TypeId) (a x:D):R2 :=
 match a,jw st.heap x with
 | .ptr id i sz I',some new =>
  if ca P t&&Nat.beq new.length (ay P t)&&new.all (sQ st.heap)then
   match st.heap[id]? with
   | some (.var T cs)=>if Nat.beq i 0&&Nat.ble (I'+new.length) cs.length then (⟨st.env,st.heap.set id (.var T (fo cs new I'))⟩,True)else aW st
   | some (.arr E RY enc d l)=>match xT new with
    | some nv=>if Nat.beq sz RY&&Nat.ble (I'+nv.length) sz then
      match nN E sz ((l.map enc).set i ((enc (l.getD i d)).take I'++nv++(enc (l.getD i d)).drop (I'+nv.length))) ov with
      | (B,p)=>(⟨st.env,st.heap.set id B⟩,i<l.length∧p)
     else aW st
    | none=>aW st
   | some (.arrD E RY n _ cell)=>match ov with
    | .cells TC Rv=>if Nat.beq sz RY&&Nat.ble (I'+new.length) sz then (⟨st.env,st.heap.set id (.arrD E sz n TC Rv)⟩,i<n∧JQ sz n i I' new TC cell Rv)else aW st
    | _=>aW st
   | _=>aW st
  else aW st
 | _,_=>aW st
def nO (sz n:Nat) (cells:List D):List (List D):=(List.range n).map fun i=>(cells.drop (i*sz)).take sz
def qe (P:Program) (nt:Nat) (st:St) (ov:Ov) (dst:Option Nat) (t:TypeId) (len:Nat) (M':List (Nat×D)):R2 :=
 match P.underlying t with
 | some (.slice E)=>match gS P E with
  | some z=>if ca P E&&Nat.beq z.length (ay P E)&&Nat.ble 1 (ay P E)&&Nat.ble (len*ay P E) 4096 then
    match gq st.heap (fun i=>some (i*ay P E,ay P E)) (List.replicate len z).flatten M' with
    | some cells=>match ov with
     | .box E' RY Rz d' l'=>if Nat.beq E E'&&Nat.beq (ay P E) RY then newBox st nt dst (.arr E (ay P E) Rz d' l') (.own st.heap.length) (an (nO (ay P E) len cells) (l'.map Rz))else aW st
     | .cells gs cell=>if gs.all (fun g=>Nat.blt g st.heap.length)&&cells.all (sQ st.heap)then newBox st nt dst (.arrD E (ay P E) len gs cell) (.own st.heap.length) (∀i j,i<len→j<ay P E→cell i j=cells.getD (i*ay P E+j) .junk∧∀k,gs.all (fun g=>!(Nat.beq g k))=true→(cell i j).free k=true)else aW st
     | _=>match sR (nO (ay P E) len cells)with
      | some L=>newBox st nt dst (.arr E (ay P E) (α:=Nat) (fun i=>L.getD i []) 0 (List.range L.length)) (.own st.heap.length) True
      | none=>aW st
    | none=>aW st
   else aW st
  | none=>aW st
 | _=>aW st
def gv (P:Program) (t:TypeId):Nat:=((P.info? t).map (·.bytes)).getD 0
def u3 (P:Program) (nt:Nat) (st:St) (ov:Ov) (dst:Option Nat) (t:TypeId) (l c:D):R2 :=
 match P.underlying t,l,c with
 | some (.slice E),.v (.int _ n),.v (.int _ m)=>match gS P E with
  | some z=>if ca P E&&Nat.beq z.length (ay P E)&&Nat.ble 1 (ay P E)&&Nat.ble (gv P E) 1024 then
    match ov with
    | .box E' RY Rz d' l'=>if Nat.beq E E'&&Nat.beq (ay P E) RY then newBox st nt dst (.arr E (ay P E) Rz d' l') (.own st.heap.length) ((0≤n∧n≤m∧m≤137438953472)∧l'.length=n.toNat∧∀x∈l',dV z (Rz x))else aW st
    | _=>aW st
   else aW st
  | none=>aW st
 | _,_,_=>aW st
def u4 (H:List ax) (sz:Nat):D→Option (List (List V))
 | .v (.sl RY enc _ l)=>if Nat.beq sz RY then some (l.map enc)else none
 | .own id=>match H[id]? with
  | some (.arr _ RY enc _ l)=>if Nat.beq sz RY then some (l.map enc)else none
  | _=>none
 | .nils=>some []
 | .v .nsl=>some []
 | .v .esl=>some []
 | _=>none
def wC (P:Program) (nt:Nat) (st:St) (ov:Ov) (dst:Option Nat) (t:TypeId) (s x:D):R2 :=
 match P.underlying t with
 | some (.slice E)=>match gS P E,u4 st.heap (ay P E) x with
  | some z,some new=>if ca P E&&Nat.beq z.length (ay P E)&&Nat.ble 1 (ay P E)&&Nat.ble (gv P E) 1024 then
    match s with
    | .own id=>match st.heap[id]?,dst with
     | some (.arr E' RY enc d l),some td=>if Nat.beq E E'&&Nat.beq RY (ay P E)&&Nat.blt td nt&&D.free id x then
       match nN E RY (l.map enc++new) ov with
       | (B,p)=>(⟨uu (kU id st.env) td (.own id),bD (cj id st.heap) id B⟩,l.length+new.length≤137438953472∧p)
      else aW st
     | _,_=>aW st
    | .nils=>match nN E (ay P E) new ov with
     | (B,p)=>newBox st nt dst B (.own st.heap.length) (new.length≤137438953472∧p)
    | .capd (.sl RY enc _ l)=>if Nat.beq RY (ay P E)then
      match nN E (ay P E) (l.map enc++new) ov with
      | (B,p)=>newBox st nt dst B (.own st.heap.length) (0<new.length∧l.length+new.length≤137438953472∧p)
     else aW st
    | _=>aW st
   else aW st
  | _,_=>aW st
 | _=>aW st
def zX (ag:Bool) (x:D):Option (List V):=if ag then (match x with | .agg ds=>xT ds | _=>none)else (Ld x).map fun v=>[v]
def wD (P:Program) (st:St) (ov:Ov) (t:TypeId) (m k x:D):R2 :=
 match P.underlying t,m,k with
 | some (.map K E),.own id,.v (.str k)=>match P.underlying K,st.heap[id]?,ov with
  | some .string,some (.mpb t' ag enc d l),.mbox t2 ag2 S5 d2 l2=>match zX ag x with
   | some vs=>if Nat.beq t t'&&Nat.beq t t2&&(ag==ag2)then (⟨st.env,st.heap.set id (.mpb t ag S5 d2 l2)⟩,dJ (l.map fun p=>(p.1,enc p.2)) k vs=l2.map fun p=>(p.1,S5 p.2))else aW st
   | none=>aW st
  | _,_,_=>aW st
 | _,_,_=>aW st
def sT (P:Program) (nt:Nat) (st:St) (ov:Ov) (dst:Option Nat) (t:TypeId) (s x:D):R2 :=
 match P.underlying t,s,x,dst with
 | some (.slice E),.own id,.own iy,some td=>match gS P E,st.heap[id]?,st.heap[iy]?,ov with
  | some z,some (.arrD E1 sz1 n _ cell),some (.arrD _ Vb m _ Xi),.cells TC Rv =>
   if (ca P E&&Nat.beq z.length (ay P E)&&Nat.ble 1 (ay P E)&&Nat.ble (gv P E) 1024)&&(Nat.beq E E1&&Nat.beq sz1 (ay P E)&&Nat.beq Vb (ay P E))&&Nat.blt td nt then
    (⟨uu (kU id st.env) td (.own id),bD (cj id st.heap) id (.arrD E (ay P E) (n+m) TC Rv)⟩,n+m≤137438953472∧∀i j,i<n+m→j<ay P E→Rv i j=(if i<n then cell i j else Xi (i-n) j)∧(Rv i j).free id=true∧∀k,TC.all (fun g=>!(Nat.beq g k))=true→(Rv i j).free k=true)
   else aW st
  | _,_,_,_=>aW st
 | _,_,_,_=>aW st
def sU (P:Program) (nt:Nat) (st:St) (ov:Ov) (dst:Option Nat) (t:TypeId) (s x:D):R2 :=
 match P.underlying t,s,dst with
 | some (.slice E),.own id,some td=>match gS P E,u4 st.heap (ay P E) x,st.heap[id]?,ov with
  | some z,some new,some (.arr E0 W3 enc d l),.apf E' RY Rz d' l' =>
   if (ca P E&&Nat.beq z.length (ay P E)&&Nat.ble 1 (ay P E)&&Nat.ble (gv P E) 1024)&&(Nat.beq E E0&&Nat.beq W3 (ay P E)&&Nat.beq E E'&&Nat.beq RY (ay P E))&&(Nat.blt td nt&&bO st.heap.length st.env&&bL st.heap.length st.heap)then
    (⟨uu (ns id (.sl (.sl W3 enc d l)) st.env) td (.v (.sl W3 Rz d' l')),(fc id (.sl (.sl W3 enc d l)) st.heap).set id .dead++[.dead]⟩,l.length+new.length≤137438953472∧l.map enc++new=l'.map Rz)
   else aW st
  | _,_,_,_=>aW st
 | _,_,_=>aW st
def ePut (nt:Nat) (st:St) (dst:Option Nat) (d:D) (p:Prop):R2 :=
 match dst with
 | some t=>if Nat.blt t nt then (⟨uu st.env t d,st.heap⟩,p)else aW st
 | none=>(st,p)
def Bp (P:Program) (nt:Nat) (st:St) (dst:Option Nat) (t:TypeId) (x ix:D) (i:Option Nat):R2 :=
 match P.underlying t,x,ix with
 | some (.map K E),.v (.mp es),.v (.int k n)=>match P.underlying K,k with
  | some (.int .i64),.i64=>match i with
   | some j=>match es[j]? with
    | some e=>ePut nt st dst (.tup [D.ofVal e.2,.v (.bool true)]) (n=e.1∧∀e'∈es.take j,n≠e'.1)
    | none=>aW st
   | none=>match (P.info? E).bind (·.zero)with
    | some z=>ePut nt st dst (.tup [D.ofVal z,.v (.bool false)]) (∀e'∈es,n≠e'.1)
    | none=>aW st
  | _,_=>aW st
 | _,_,_=>aW st
def Lu (P:Program) (nt:Nat) (st:St) (dst:Option Nat) (t:TypeId) (x ix:D) (d:D):R2 :=
 match P.underlying t,x,ix with
 | some (.map K E),.v (.mp es),.v (.int k n)=>match P.underlying K,k with
  | some (.int .i64),.i64=>ePut nt st dst (.tup [d,.v (.bool true)]) (∃(j:Nat) (e:Int×Value),es[j]?=some e∧n=e.1∧(∀e'∈es.take j,n≠e'.1)∧zy (D.ofVal e.2) d)
  | _,_=>aW st
 | _,_,_=>aW st
def jh (P:Program) (f:FuncId):Bool:=match P.funcs[f]? with
 | some fn=>!(fn.name == "runtime.NumGoroutine")&&!fn.body.isNone
 | none=>false
def oC:Option ax→Bool
 | some .dead=>true
 | _=>false
def Lv (P:Program) (fn:Func) (r:D) (H:List ax):Exit→St→Prop
 | .normal,st=>gT P fn st∧zy (hC P fn st) r∧st.heap.take H.length=H
 | .ret,st=>gT P fn st∧zy (hC P fn st) r∧st.heap.take H.length=H
 | _,_=>False
def sV (P:Program) (g:FuncId) (ds:List D) (H:List ax) (r:D) (H':List ax):Prop :=
 ∃fn c,P.funcs[g]?=some fn∧fn.body=some c∧Nat.ble ds.length fn.ntmps=true ∧
  ∀C:li,C.P=P→C.nt=fn.ntmps→C.rd=none→Ev C c (Lv P fn r H') ⟨kV 0 ds,H⟩
def sW:Exit→LoopState
 | .normal=>.ready
 | _=>.done
def wE:Exit→Option Code
 | .ret=>some .ret
 | .exit i=>some (.exit i)
 | _=>none
def EC:Exit→Option Bool
 | .normal=>some true
 | .ret=>some false
 | .exit _=>some false
 | _=>none
def ED (id l:Nat) (b:Bool) (H:List ax) (e:Exit) (st:St):Prop :=
 match st.heap[id]? with
 | some (.loop l' tm nt env ps q' bd _ _)=>l'=l∧EC e=some b∧(st.heap.set id (.loop l' tm nt env ps q' bd (sW e) (wE e))).take H.length=H
 | _=>False
def EE (C:li) (body:Code) (id l:Nat) (b:Bool) (H:List ax):Exit→St→Prop
 | .normal,st=>match st.heap[id]? with
  | some (.loop l' tm nt env ps q' bd .ready none)=>l'=l∧Ev C body (ED id l b H) ⟨st.env,st.heap.set id (.loop l' tm nt env ps q' bd .busy none)⟩
  | _=>False
 | _,_=>False
def Ho (P:Program) (l nt:Nat) (assign body:Code) (st:St) (id:Nat) (b:Bool) (H:List ax):Prop :=
 ∀C:li,C.P=P→C.nt=nt→C.rd=some l→Ev C assign (EE C body id l b H) st
def Bq:List Nat→List D→List (Nat×D)→List (Nat×D)
 | p::ps,d::ds,env=>Bq ps ds (uu env p d)
 | _,_,env=>env
def EF (P:Program) (nt:Nat) (st:St) (dst:Option Nat) (g:FuncId) (ds:List D) (r:D) (env:List (Nat×D)) (H:List ax):R2 :=
 if jh P g&&bO st.heap.length st.env&&bL st.heap.length st.heap&&oC H[st.heap.length]? then
  ePut nt ⟨env,H⟩ dst r (∀tm:Array Value,sV P g ds (st.heap++[.frame tm st.env]) r (H.set st.heap.length (.frame tm env)))
 else aW st
def M7 (P:Program) (g:FuncId) (ds:List D) (H:List ax) (env:List (Nat×D)) (r:D):Prop:=∀tm:Array Value,sV P g ds (H++[.frame tm env]) r (H++[.frame tm env])
def EG (P:Program) (nt:Nat) (st:St) (dst:Option Nat) (g:FuncId) (ds:List D) (r:D):R2 :=
 if jh P g&&bO st.heap.length st.env&&bL st.heap.length st.heap then ePut nt ⟨st.env,st.heap++[.dead]⟩ dst r (M7 P g ds st.heap st.env r)else aW st
theorem EH {P:Program} {nt:Nat} {st L':St} {dst:Option Nat} {g:FuncId} {ds:List D} {r:D} {p:Prop} (h:EG P nt st dst g ds r=(L',p)) (hp:p) :
  ∃p',EF P nt st dst g ds r st.env (st.heap++[.dead])=(L',p')∧p':=by
 unfold EG at h
 unfold EF
 have hd:oC (st.heap++[ax.dead])[st.heap.length]?=true:=by simp[oC]
 have hs:∀B,(st.heap++[ax.dead]).set st.heap.length B=st.heap++[B]:=by intro B;simp
 split at h
 ·rename_i hc
  rw[Pn (by rw[hc,hd];rfl)]
  unfold ePut at h ⊢
  cases dst with
  | none =>
   simp only[Po]at h
   obtain⟨rfl,rfl⟩:=h
   exact⟨_,rfl,fun tm=>by rw[hs];exact hp _⟩
  | some t =>
   simp only at h ⊢
   split at h
   ·rename_i ht
    simp only[Po]at h
    obtain⟨rfl,rfl⟩:=h
    rw[Pn ht]
    exact⟨_,rfl,fun tm=>by rw[hs];exact hp _⟩
   ·simp only[aW,Po]at h
    obtain⟨_,rfl⟩:=h
    exact hp.elim
 ·simp only[aW,Po]at h
  obtain⟨_,rfl⟩:=h
  exact hp.elim
def zY (P:Program) (nt:Nat) (st:St) (dst:Option Nat) (id:Nat) (ds:List D) (b:Bool) (env:List (Nat×D)) (H:List ax):R2 :=
 match st.heap[id]? with
 | some (.loop l tm ntL V5 ps q' body .ready none) =>
  if bO st.heap.length st.env&&bL st.heap.length st.heap&&oC H[st.heap.length]?&&Nat.beq ps.length ds.length&&ps.all (fun p=>Nat.blt p ntL)then
   ePut nt ⟨env,H⟩ dst (.v (.bool b)) (∀tmF:Array Value,Ho P l ntL q' body ⟨Bq ps ds V5,st.heap++[.frame tmF st.env]⟩ id b (H.set st.heap.length (.frame tmF env)))
  else aW st
 | _=>aW st
def EI (P:Program) (nt:Nat) (st:St) (ov:Ov) (dst:Option Nat) (f:D) (ds:List D):R2 :=
 match f with
 | .fn (.func g) first cap=>match ov with
  | .call q' al r=>if jh P g&&ef r&&(!al||fp (first++ds++cap))then
    ePut nt st dst r (oz P g st.heap (first++ds++cap) q' al r)
   else aW st
  | .callr id q' r=>if jh P g&&ef r then ePut nt st dst r (ka P g st.heap (first++ds++cap) id q' r)else aW st
  | .callg q' al r=>if ef r&&(!al||fp (first++ds++cap))then
    ePut nt st dst r (jh P g=true∧oz P g st.heap (first++ds++cap) q' al r)
   else aW st
  | .inl r env H=>EF P nt st dst g (first++ds++cap) r env H
  | .inls r=>EG P nt st dst g (first++ds++cap) r
  | .ownc q' r B=>if jh P g&&zV r&&bO st.heap.length st.env&&bL st.heap.length st.heap then
    ePut nt ⟨st.env,st.heap++[B]⟩ dst (r.up st.heap.length) (wA P g st.heap (first++ds++cap) q' r B)
   else aW st
  | .ownd q' r B=>if jh P g&&(zV r&&(B.isOwn&&fp (first++ds++cap)))&&bO st.heap.length st.env&&bL st.heap.length st.heap then
    ePut nt ⟨st.env,st.heap++[B]⟩ dst (r.up st.heap.length) (rU P g st.heap (first++ds++cap) q' r B)
   else aW st
  | _=>aW st
 | .yld id=>match ov with
  | .yld b env H=>zY P nt st dst id ds b env H
  | _=>aW st
 | _=>aW st
def sX (nt:Nat) (st:St) (ov:Ov) (dst:Option Nat) (r:R1):R2 :=
 match ov with
 | .val d'=>ePut nt st dst d' (r.2∧zy r.1 d')
 | .lift d'=>ePut nt st dst d' (r.2∧cA r.1 d')
 | _=>ePut nt st dst r.1 r.2
def nP (P:Program) (nt:Nat) (ov:Ov) (o:Oper) (st:St):R2 :=
 match o.op with
 | .alloc T=>match gS P T with
  | some z=>eVar nt st o.dst T z
  | none=>aW st
 | .box T x=>match jw st.heap (eE st.env x)with
  | some cs=>eVar nt st o.dst T cs
  | none=>aW st
 | .store t a x=>match o.dst with
  | none=>sS P st ov t (eE st.env a) (eE st.env x)
  | some _=>aW st
 | .buildSlice t len M'=>match ov with
  | .frz E sz enc d l=>match qe P nt st (.box E sz enc d l) o.dst t len (M'.toList.map fun p=>(p.1,eE st.env p.2))with
   | (R5,p)=>match md st.heap.length R5 with
    | some Va=>(Va,p)
    | none=>aW st
  | _=>qe P nt st ov o.dst t len (M'.toList.map fun p=>(p.1,eE st.env p.2))
 | .makeSlice t l c=>match ov with
  | .frz E sz enc d l'=>match u3 P nt st (.box E sz enc d l') o.dst t (eE st.env l) (eE st.env c)with
   | (R5,p)=>match md st.heap.length R5 with
    | some Va=>(Va,p)
    | none=>aW st
  | _=>u3 P nt st ov o.dst t (eE st.env l) (eE st.env c)
 | .call ⟨.builtin .append,args,UC⟩=>match args.toList,UC.toList with
  | [s,x],[t,t']=>if Nat.beq t t' then (match ov with | .apf _ _ _ _ _=>sU P nt st ov o.dst t (eE st.env s) (eE st.env x) | .cells _ _=>sT P nt st ov o.dst t (eE st.env s) (eE st.env x) | _=>wC P nt st ov o.dst t (eE st.env s) (eE st.env x))else aW st
  | _,_=>aW st
 | .call ⟨.value f,args,_⟩=>EI P nt st ov o.dst (eE st.env f) (args.toList.map (eE st.env))
 | .lookup t x ix true=>match ov with
  | .idx i=>Bp P nt st o.dst t (eE st.env x) (eE st.env ix) i
  | .ent d=>Lu P nt st o.dst t (eE st.env x) (eE st.env ix) d
  | _=>sX nt st ov o.dst (fK P st.heap (eE st.env) o.op)
 | .makeMap t none=>match ov with
  | .mbox t' ag enc d _=>if Nat.beq t t' then newBox st nt o.dst (.mpb t ag enc d []) (.own st.heap.length) True else aW st
  | _=>aW st
 | .mapUpdate t m k x=>match o.dst with
  | none=>wD P st ov t (eE st.env m) (eE st.env k) (eE st.env x)
  | some _=>aW st
 | op=>sX nt st ov o.dst (fK P st.heap (eE st.env) op)
section
variable {C:li} {S:Nat→Prop} {μ:Nat→Value} {st L':St} {a:Act} {w w':World} {p:Prop}
theorem a5.newBox (h:a5 C S μ st a w) {dst:Option Nat} {B:ax} {d:D} {q:Prop} (hp:newBox st C.nt dst B d q=(L',p)) (D':p) (hg:w.grownBy w' none) {u:Value}
  (G':aJ S (a7 μ st.heap.length u) w' u B) (Rx:∀b,bI u b→w.heap.size≤b) {v:Value} (hv:ao S (a7 μ st.heap.length u) w' d v) (S4:B.isRo=false:=by rfl) :
  q∧a5 C S (a7 μ st.heap.length u) L' (a.put dst v) w':=by
 unfold Proofs.Ytnlmlkbaflmgcaa.newBox at hp
 split at hp
 ·split at hp
  ·rename_i t hc
   simp only[Pg,Rm]at hc
   simp only[Po]at hp
   obtain⟨rfl,rfl⟩:=hp
   refine⟨D',?_⟩
   have:=(h.upd (id:=st.heap.length) (B:=B) (u:=u) hg (fun k hk=>by cases hk) (Pl _) G' (fun b hb=>.inr (Rx b hb)) (.inr ⟨fun A hA=>by simp at hA,hc.1.2,hc.2⟩) S4).put hc.1.1 hv
   rw[show bD st.heap st.heap.length B=st.heap++[B]from by simp[bD]]at this
   exact this
  ·simp only[aW,Po]at hp
   rw[← hp.2]at D'
   exact D'.elim
 ·simp only[aW,Po]at hp
  rw[← hp.2]at D'
  exact D'.elim
theorem a5.eVar (h:a5 C S μ st a w) {dst:Option Nat} {T:TypeId} {cs:List D} {vs:Array Value} (hp:eVar C.nt st dst T cs=(L',p)) (D':p) (hr:aO S μ w cs vs) :
  a5 C S (a7 μ st.heap.length (.pointer (some ⟨w.heap.size,0,none⟩))) L' (a.put dst (.pointer (some ⟨w.heap.size,0,none⟩))) (w.alloc (.cells vs T)):=by
 unfold Proofs.Ytnlmlkbaflmgcaa.eVar at hp
 split at hp
 ·rename_i hf
  have hg:=QA w (.cells vs T) none
  refine(h.newBox hp D' hg ⟨w.heap.size,vs,rfl,Qx w _,hr.1,fun j y x hy hx=>?_⟩ (fun b hb=>by simp[bI,aM]at hb;omega) ?_).2
  ·refine(hr.2 j y x hy hx).stable (fun _ h _=>h) (fun b _ hb=>hg.block b hb (by simp)) hg.size (fun id RE=>?_)
   refine aL _ _ (fun e=>?_)
   rw[e,D.freeL_get hf hy]at RE
   cases RE
  ·have:=ao.ptr (S:=S) (μ:=a7 μ st.heap.length (.pointer (some ⟨w.heap.size,0,none⟩))) (w:=w.alloc (.cells vs T)) st.heap.length 0 0 0 w.heap.size (by rw[az];rfl)
   simpa using this
 ·simp only[aW,Po]at hp
  rw[← hp.2]at D'
  exact D'.elim
theorem lv:∀{ds:List D} {xs:List V},xT ds=some xs→ds.length=xs.length∧∀(j:Nat) (x:V),xs[j]?=some x→∃d,ds[j]?=some d∧Ld d=some x
 | [],xs,h=>by
  simp only[xT,Pu]at h
  subst h
  exact⟨rfl,fun j x hx=>by simp at hx⟩
 | d::r,xs,h=>by
  unfold xT at h
  split at h
  ·rename_i y ys hy hys
   simp only[Pu]at h
   subst h
   obtain⟨h1,h2⟩:=lv hys
   refine⟨by simp[h1],fun j x hx=>?_⟩
   cases j with
   | zero=>simp at hx;subst hx;exact⟨d,rfl,hy⟩
   | succ j=>simpa using h2 j x (by simpa using hx)
  ·cases h
theorem rV {d:D} {x:V} {u:Value} (h:Ld d=some x) (hd:ao S μ w d u):dg S w x u:=by
 unfold Ld at h
 split at h
 ·cases h;exact bn hd
 ·cases h
  cases hd
  exact .nil _ _ _ _ _ (by simp[maxLen]) (fun _=>rfl)
 ·cases h
theorem lw {d:D} {x:V} {u:Value} (h:Hn d x) (hd:ao S μ w d u):dg S w x u:=by
 unfold Hn at h
 split at h
 ·exact rR h (bn hd)
 ·subst h
  cases hd
  exact .nil _ _ _ _ _ (by simp[maxLen]) (fun _=>rfl)
 ·cases hd
  exact .nsl
 ·exact h.elim
theorem eX:∀{ds:List D} {xs:List V},dV ds xs→ds.length=xs.length∧∀(j:Nat) (x:V),xs[j]?=some x→∃d,ds[j]?=some d∧Hn d x
 | [],[],_=>⟨rfl,fun j x hx=>by simp at hx⟩
 | [],_::_,h=>h.elim
 | _::_,[],h=>h.elim
 | d::r,y::ys,h=>by
  obtain⟨h1,h2⟩:=eX h.2
  refine⟨by simp[h1],fun j x hx=>?_⟩
  cases j with
  | zero=>simp at hx;subst hx;exact⟨d,rfl,h.1⟩
  | succ j=>simpa using h2 j x (by simpa using hx)
theorem kb:∀{ds:List (List D)} {xs:List (List V)},an ds xs→ds.length=xs.length∧∀(j:Nat) (x:List V),xs[j]?=some x→∃d,ds[j]?=some d∧dV d x
 | [],[],_=>⟨rfl,fun j x hx=>by simp at hx⟩
 | [],_::_,h=>h.elim
 | _::_,[],h=>h.elim
 | d::r,y::ys,h=>by
  obtain⟨h1,h2⟩:=kb h.2
  refine⟨by simp[h1],fun j x hx=>?_⟩
  cases j with
  | zero=>simp at hx;subst hx;exact⟨d,rfl,h.1⟩
  | succ j=>simpa using h2 j x (by simpa using hx)
theorem sY:∀{ds:List (List D)} {xs:List (List V)},sR ds=some xs→ds.length=xs.length∧∀(j:Nat) (x:List V),xs[j]?=some x→∃d,ds[j]?=some d∧xT d=some x
 | [],xs,h=>by
  simp only[sR,Pu]at h
  subst h
  exact⟨rfl,fun j x hx=>by simp at hx⟩
 | d::r,xs,h=>by
  unfold sR at h
  split at h
  ·rename_i y ys hy hys
   simp only[Pu]at h
   subst h
   obtain⟨h1,h2⟩:=sY hys
   refine⟨by simp[h1],fun j x hx=>?_⟩
   cases j with
   | zero=>simp at hx;subst hx;exact⟨d,rfl,hy⟩
   | succ j=>simpa using h2 j x (by simpa using hx)
  ·cases h
def eM (S:Nat→Prop) (w:World) (E sz:Nat) (L:List (List V)) (u:Value):Prop :=
 (∀(i:Nat) (x:List V),L[i]?=some x→x.length=sz)∧∃xs,w.ownsRow 0 E sz u L.length xs∧∀(i:Nat) (x:List V) (j:Nat) (y:V),L[i]?=some x→x[j]?=some y→∃z,xs[i*sz+j]?=some z∧dg S w y z
theorem eM.box {E sz:Nat} {L:List (List V)} {u:Value} (h:eM S w E sz L u) {α:Type} {enc:α→List V} {d:α} {l:List α} (he:L=l.map enc):aJ S μ w u (.arr E sz enc d l):=by
 subst he
 obtain⟨h0,xs,h1,h2⟩:=h
 exact⟨fun i x hx=>h0 i _ (wv hx),xs,by simpa using h1,fun i x j y hx hy=>h2 i _ j y (wv hx) hy⟩
theorem eM.of {E sz:Nat} {u:Value} {α:Type} {enc:α→List V} {d:α} {l:List α} (h:aJ S μ w u (.arr E sz enc d l)):eM S w E sz (l.map enc) u:=by
 obtain⟨h0,xs,h1,h2⟩:=h
 refine⟨fun i x hx=>?_,xs,by simpa using h1,fun i x j y hx hy=>?_⟩
 ·obtain⟨z,hz,rfl⟩:=dK hx
  exact h0 i z hz
 ·obtain⟨z,hz,rfl⟩:=dK hx
  exact h2 i z j y hz hy
theorem u5 (L:List (List V)):(List.range L.length).map (fun i=>L.getD i [])=L:=by
 refine Qq (by simp) (fun i h1 h2=>?_)
 simp[List.getD,h2]
theorem mh {E sz:Nat} {L:List (List V)} {ov:Ov} {B:ax} {q:Prop} {u:Value} (h:nN E sz L ov=(B,q)) (hq:q) (hb:eM S w E sz L u):aJ S μ w u B∧B.isArr=true:=by
 unfold nN at h
 split at h
 ·split at h
  ·rename_i hc
   simp only[Po]at h
   obtain⟨rfl,rfl⟩:=h
   exact⟨hb.box hq,rfl⟩
  ·cases h;exact hq.elim
 ·cases h;exact⟨hb.box (u5 L).symm,rfl⟩
theorem EJ {H:List ax} (hH:be S μ w H) {d:D} {u:Value} (h:sQ H d=true) (hd:ao S μ w d u):u.oneCell'=true:=by
 cases hd with
 | v x u h=>exact h.one
 | nils=>rfl
 | own id =>
  unfold sQ at h
  simp only at h
  split at h
  ·rename_i E sz α enc d l hb
   obtain⟨p,c,hu,_⟩:=bN (hH.box id _ hb)
   rw[hu]
   rfl
  ·rename_i E sz α enc d l hb
   obtain⟨p,c,hu,_⟩:=bN (hH.box id _ hb).ro_arr
   rw[hu]
   rfl
  ·rename_i t ag α enc d l hb
   obtain⟨b,arr,clock,hu,_⟩:=hH.box id _ hb
   rw[hu]
   rfl
  ·rename_i E sz m gs cell hb
   obtain⟨p,c,hu,_⟩:=fJ (hH.box id _ hb)
   rw[hu]
   rfl
  ·cases h
 | ptr=>rfl
 | capd=>rfl
 | gr _ _ _ _ _ _ h=>exact h
 | iptr=>rfl
 | agg=>cases h
 | tup=>cases h
 | fn=>rfl
 | yld=>rfl
 | junk=>cases h
theorem Br {H:List ax} (hH:be S μ w H) {cs:List D} {us:Array Value} (hr:aO S μ w cs us) (hall:cs.all (sQ H)=true):∀z∈us.toList,z.oneCell'=true:=by
 intro z hz
 obtain⟨j,hj,e⟩:=QK hz
 have TB:j<us.size:=by simpa using hj
 have hc:j<cs.length:=by have:=hr.1;omega
 rw[PH]at hall
 exact EJ hH (hall _ (QX hc)) (hr.2 j cs[j] z (Ph hc) (by rw[← e];simp[TB]))
end
end Go.Proofs.Ytnlmlkbaflmgcaa
namespace Go.Proofs.Ytnlmlkbaflmgcaa
open Go.RowKit
set_option linter.unusedVariables false
set_option linter.unusedSimpArgs false
section
variable {C:li} {S:Nat→Prop} {μ:Nat→Value} {st L':St} {a:Act} {w w':World} {p:Prop}
theorem dW (w:World) (g:Nat) (cs:Array Value):w.grownBy (w.setRow g cs) (some g) :=
 ⟨rfl,rfl,rfl,by simp[World.setRow],fun k _ hk=>setRow_other w g k _ (fun e=>hk (by rw[e]))⟩
theorem dz (μ:Nat→Value) (id:Nat):a7 μ id (μ id)=μ:=by
 funext i
 unfold a7
 split
 ·rename_i h;rw[h]
 ·rfl
theorem gw {α:Type _} (cs new:List α) (I' j:Nat) (ho:I'+new.length≤cs.length) :
  (cs.take I'++new++cs.drop (I'+new.length))[j]?=if I'≤j∧j<I'+new.length then new[j-I']? else cs[j]?:=by
 by_cases hc:I'≤j∧j<I'+new.length
 ·rw[Pn hc,Pw (by simp;omega),Pz (by simp;omega)]
  congr 1
  simp
  omega
 ·rw[Pj hc]
  by_cases hj:j<I'
  ·rw[Pw (by simp;omega),Pw (by simp;omega),PK,Pn hj]
  ·rw[Pz (by simp;omega),Qv]
   simp only[PG,PD]
   rw[show I'+new.length+(j-(min I' cs.length+new.length))=j from by omega]
theorem pk (h:a5 C S μ st a w) {ov:Ov} {t:TypeId} {ad x:D} {uad ux:Value} (had:ao S μ w ad uad) (hx:ao S μ w x ux) (hp:sS C.P st ov t ad x=(L',p)) (D':p) :
  ∃w',(Instr.storeAt t uad ux).run C.P w=.ok () w'∧a5 C S μ L' a w':=by
 unfold sS at hp
 split at hp
 ·rename_i id i sz I' new RR
  split at hp
  ·rename_i hc
   simp only[Pg,PC]at hc
   obtain⟨⟨hk,hl⟩,TK⟩:=hc
   obtain⟨b,hb,rfl⟩:=mb had
   have R0:=gY h.heap hx RR
   have Vc:=Br h.heap R0 TK
   have RD:∀(RN:Array Value) (T:TypeId),w.heap[b]?=some (.cells RN T (0,0))→i*sz+I'+new.length≤RN.size →
     (Instr.storeAt t (.pointer (some ⟨b,i*sz+I',none⟩)) ux).run C.P w=.ok () (w.setRow b (RN.toList.take (i*sz+I')++ux.cells.toList++RN.toList.drop (i*sz+I'+ux.cells.toList.length)).toArray):=by
    intro RN T hcur RP
    have Sj:=run_storeCells_at C.P b (i*sz+I') T ux.cells.toList 0 RN w hcur (by simp[R0.1];exact RP) Vc
    simp only[QO]at Sj
    simp only[Instr.storeAt,Instr.sureAddr,Pm,PF,Pk]
    unfold storeVar
    simp only[Pm,dq hk,Pk]
    rw[Pj (by rw[R0.1,hl];simp)]
    exact Sj
   split at hp
   ·rename_i T cs G'
    split at hp
    ·rename_i hc
     simp only[Pg,PC,Qm]at hc
     obtain⟨rfl,RP⟩:=hc
     simp only[Po]at hp
     obtain⟨rfl,_⟩:=hp
     obtain⟨b',vs,hm,q1,q2,q3⟩:=h.heap.box id _ G'
     have hbb:b'=b:=by rw[hm]at hb;simpa[bI,aM]using hb
     subst hbb
     refine⟨_,RD vs T q1 (by omega),?_⟩
     simp only[Nat.zero_mul,PX]
     have RE:id<st.heap.length:=(Pf.1 G').1
     have hu:=h.upd (id:=id) (u:=μ id) (B:=.var T (fo cs new I')) (row:=some b') (dW w b' (vs.toList.take I'++ux.cells.toList++vs.toList.drop (I'+ux.cells.toList.length)).toArray)
      (fun k hk=>⟨_,G',rfl,by cases hk;exact .inl hb⟩) (by omega) ?_ (fun k hk=>.inl (hk.one hb)) (.inl ⟨rfl,.inl rfl⟩)
     ·rw[dz]at hu
      have he:bD st.heap id (.var T (fo cs new I'))=st.heap.set id (.var T (fo cs new I')):=by
       unfold bD
       rw[Pj (by rw[PC];omega)]
      rwa [he]at hu
     ·rw[dz]
      refine⟨b',_,hm,setRow_heap w b' vs _ T (0,0) q1,?_,fun j y z hy hz=>?_⟩
      ·have:=R0.1
       simp only[QL,PG,PD,PQ,QB,fo]
       omega
      ·have RB:=R0.1
       simp only[List.getElem?_toArray]at hz
       rw[gw _ _ _ _ (by simp;omega)]at hz
       unfold fo at hy
       rw[gw _ _ _ _ RP]at hy
       have hS:∀k,S k→k<w.heap.size→(w.setRow b' (vs.toList.take I'++ux.cells.toList++vs.toList.drop (I'+ux.cells.toList.length)).toArray).heap[k]?=w.heap[k]?:=fun k hk _ =>
        setRow_other w b' k _ (fun e=>h.heap.notS id _ b' G' rfl (.inl hb) (e ▸ hk))
       have Xj:w.heap.size≤(w.setRow b' (vs.toList.take I'++ux.cells.toList++vs.toList.drop (I'+ux.cells.toList.length)).toArray).heap.size:=by simp[World.setRow]
       by_cases hcj:I'≤j∧j<I'+new.length
       ·rw[Pn hcj]at hy
        rw[Pn (by simp;omega)]at hz
        exact(R0.2 _ _ _ hy (by simpa using hz)).stable (fun _ h _=>h) hS Xj (fun _ _=>rfl)
       ·rw[Pj hcj]at hy
        rw[Pj (by simp;omega)]at hz
        exact(q3 _ _ _ hy (by simpa using hz)).stable (fun _ h _=>h) hS Xj (fun _ _=>rfl)
    ·cases hp;exact D'.elim
   ·rename_i E RY α enc d l G'
    split at hp
    ·rename_i nv hnv
     split at hp
     ·rename_i hc
      simp only[Pg,PC,Qm]at hc
      obtain⟨rfl,RP⟩:=hc
      generalize hq:nN E sz ((l.map enc).set i ((enc (l.getD i d)).take I'++nv++(enc (l.getD i d)).drop (I'+nv.length))) ov=q at hp
      obtain⟨B,q⟩:=q
      simp only[Po]at hp
      obtain⟨rfl,rfl⟩:=hp
      obtain⟨hi,WM⟩:=D'
      obtain⟨r0,xs,r1,r2⟩:=h.heap.box id _ G'
      have hnvl:=(lv hnv).1
      have hx0:l[i]?=some (l.getD i d):=by rw[bk _ _ hi];exact Ph hi
      have hel:=r0 i _ hx0
      have WN:(i+1)*sz≤l.length*sz:=PI _ hi
      rw[Qo]at WN
      obtain⟨g,cap,RN,hm,-,hh,hn,R',hcs,Vy⟩:∃g cap RN,μ id=.slice (some ⟨g,0,none⟩) l.length cap∧0≤g∧w.heap[g]?=some (.cells RN E (0,0))∧l.length≤cap∧cap≤maxLen∧RN.size=cap*sz∧RN.toList.take (l.length*sz)=xs:=by
       rcases r1.2 with ⟨_,h0⟩ | h1
       ·omega
       ·exact h1
      have hgb:g=b:=by rw[hm]at hb;simpa[bI,aM]using hb
      subst hgb
      have T5:l.length*sz≤cap*sz:=PI _ hn
      refine⟨_,RD RN E hh (by omega),?_⟩
      have RE:id<st.heap.length:=(Pf.1 G').1
      have RB:=R0.1
      have hfit':i*sz+I'+new.length≤RN.size:=by omega
      generalize RS:(RN.toList.take (i*sz+I')++ux.cells.toList++RN.toList.drop (i*sz+I'+ux.cells.toList.length))=row
      have Tc:∀j,row[j]?=if i*sz+I'≤j∧j<i*sz+I'+new.length then ux.cells[j-(i*sz+I')]? else RN[j]?:=by
       intro j
       rw[← RS,gw _ _ _ _ (by simp;omega)]
       simp[RB]
      have Td:row.length=RN.size:=by
       rw[← RS]
       simp only[PG,PD,PQ,QB]
       omega
      have hS:∀k,S k→k<w.heap.size→(w.setRow g row.toArray).heap[k]?=w.heap[k]?:=fun k hk _ =>
       setRow_other w g k _ (fun e=>h.heap.notS id _ g G' rfl (.inl hb) (e ▸ hk))
      have Xj:w.heap.size≤(w.setRow g row.toArray).heap.size:=by simp[World.setRow]
      have hA:eM S (w.setRow g row.toArray) E sz ((l.map enc).set i ((enc (l.getD i d)).take I'++nv++(enc (l.getD i d)).drop (I'+nv.length))) (μ id):=by
       refine⟨fun k x hx=>?_,row.take (l.length*sz),?_,fun k x j y hx hy=>?_⟩
       ·by_cases SI:i=k
        ·subst SI
         rw[PB (by simpa using hi)]at hx
         cases hx
         simp only[PG,PD,PQ]
         omega
        ·rw[PA SI]at hx
         obtain⟨z,hz,rfl⟩:=dK hx
         exact r0 k z hz
       ·simp only[PO,Py]
        refine⟨by rw[PD,Td];omega,.inr ⟨g,cap,row.toArray,hm,Qb _,setRow_heap w g RN _ E (0,0) hh,hn,R',by simp[Td,hcs],by simp⟩⟩
       ·have Vp:k<l.length:=by
         have:=(Pf.1 hx).1
         simpa using this
        have Um:(k+1)*sz≤l.length*sz:=PI _ Vp
        rw[Qo]at Um
        have old:∀(z:α) (j:Nat) (y:V),l[k]?=some z→(enc z)[j]?=some y→¬(i*sz+I'≤k*sz+j∧k*sz+j<i*sz+I'+new.length) →
          ∃u,(row.take (l.length*sz))[k*sz+j]?=some u∧dg S (w.setRow g row.toArray) y u:=by
         intro z j y hz hy SM
         obtain⟨u,hu,hr⟩:=r2 k z j y hz hy
         have hj:=(Pf.1 hy).1
         have SC:=r0 k z hz
         refine⟨u,?_,hr.stable (fun _ h _=>h) hS Xj⟩
         rw[PK,Pn (by omega),Tc,Pj SM]
         rw[← Vy,PK,Pn (by omega)]at hu
         simpa using hu
        by_cases SI:i=k
        ·subst SI
         rw[PB (by simpa using hi)]at hx
         cases hx
         rw[gw _ _ _ _ (by omega)]at hy
         by_cases hcj:I'≤j∧j<I'+nv.length
         ·rw[Pn hcj]at hy
          obtain⟨d',hd',htv⟩:=(lv hnv).2 _ _ hy
          have hju:j-I'<ux.cells.size:=by omega
          refine⟨ux.cells[j-I'],?_,?_⟩
          ·rw[PK,Pn (by omega),Tc,Pn (by omega),show i*sz+j-(i*sz+I')=j-I' from by omega]
           exact PJ hju
          ·exact(rV htv (R0.2 _ _ _ hd' (PJ hju))).stable (fun _ h _=>h) hS Xj
         ·rw[Pj hcj]at hy
          exact old _ j y hx0 hy (by omega)
        ·rw[PA SI]at hx
         obtain⟨z,hz,rfl⟩:=dK hx
         have hj:=(Pf.1 hy).1
         have SC:=r0 k z hz
         refine old z j y hz hy ?_
         rintro⟨c1,c2⟩
         rcases Nat.lt_or_ge k i with RF | hge
         ·have:(k+1)*sz≤i*sz:=PI _ RF
          rw[Qo]at this
          omega
         ·have:(i+1)*sz≤k*sz:=PI _ (by omega)
          rw[Qo]at this
          omega
      obtain⟨hB,U9⟩:=mh (μ:=μ) hq WM hA
      have hu:=h.upd (id:=id) (u:=μ id) (B:=B) (row:=some g) (dW w g row.toArray)
       (fun k hk=>⟨_,G',rfl,by cases hk;exact .inl hb⟩) (by omega) (by rw[dz];exact hB) (fun k hk=>.inl (hk.one hb)) (.inl ⟨rfl,.inr ⟨_,G',rfl⟩⟩) (lh U9)
      rw[dz]at hu
      have he:bD st.heap id B=st.heap.set id B:=by
       unfold bD
       rw[Pj (by rw[PC];omega)]
      rwa [he]at hu
     ·cases hp;exact D'.elim
    ·cases hp;exact D'.elim
   ·rename_i E RY n gs cell G'
    split at hp
    ·rename_i TC Rv
     split at hp
     ·rename_i hc
      simp only[Pg,PC,Qm]at hc
      obtain⟨rfl,RP⟩:=hc
      simp only[Po]at hp
      obtain⟨rfl,rfl⟩:=hp
      obtain⟨hi,Sj⟩:=D'
      obtain⟨r0,xs,r1,r2⟩:=h.heap.box id _ G'
      have WN:(i+1)*sz≤n*sz:=PI _ hi
      rw[Qo]at WN
      obtain⟨g,cap,RN,hm,-,hh,hn,R',hcs,Vy⟩:∃g cap RN,μ id=.slice (some ⟨g,0,none⟩) n cap∧0≤g∧w.heap[g]?=some (.cells RN E (0,0))∧n≤cap∧cap≤maxLen∧RN.size=cap*sz∧RN.toList.take (n*sz)=xs:=by
       rcases r1.2 with ⟨_,h0⟩ | h1
       ·omega
       ·exact h1
      have hgb:g=b:=by rw[hm]at hb;simpa[bI,aM]using hb
      subst hgb
      have T5:n*sz≤cap*sz:=PI _ hn
      refine⟨_,RD RN E hh (by omega),?_⟩
      have RE:id<st.heap.length:=(Pf.1 G').1
      have RB:=R0.1
      have hfit':i*sz+I'+new.length≤RN.size:=by omega
      generalize RS:(RN.toList.take (i*sz+I')++ux.cells.toList++RN.toList.drop (i*sz+I'+ux.cells.toList.length))=row
      have Tc:∀j,row[j]?=if i*sz+I'≤j∧j<i*sz+I'+new.length then ux.cells[j-(i*sz+I')]? else RN[j]?:=by
       intro j
       rw[← RS,gw _ _ _ _ (by simp;omega)]
       simp[RB]
      have Td:row.length=RN.size:=by
       rw[← RS]
       simp only[PG,PD,PQ,QB]
       omega
      have hS:∀k,S k→k<w.heap.size→(w.setRow g row.toArray).heap[k]?=w.heap[k]?:=fun k hk _ =>
       setRow_other w g k _ (fun e=>h.heap.notS id _ g G' rfl (.inl hb) (e ▸ hk))
      have Xj:w.heap.size≤(w.setRow g row.toArray).heap.size:=by simp[World.setRow]
      have hB:aJ S μ (w.setRow g row.toArray) (μ id) (.arrD E sz n TC Rv):=by
       refine⟨fun i' j k Sk hj hk=>(Sj i' j Sk hj).2 k hk,row.take (n*sz),⟨by rw[PD,Td];omega,.inr ⟨g,cap,row.toArray,hm,Qb _,setRow_heap w g RN _ E (0,0) hh,hn,R',by simp[Td,hcs],by simp⟩⟩,fun i' j Sk hj=>?_⟩
       have Um:(i'+1)*sz≤n*sz:=PI _ Sk
       rw[Qo]at Um
       rw[(Sj i' j Sk hj).1]
       by_cases hcj:i'=i∧I'≤j∧j<I'+new.length
       ·rw[Pn hcj]
        obtain⟨rfl,c1,c2⟩:=hcj
        have hju:j-I'<ux.cells.size:=by omega
        refine⟨ux.cells[j-I'],?_,Vc _ (by simp),?_⟩
        ·rw[PK,Pn (by omega),Tc,Pn (by omega),show i'*sz+j-(i'*sz+I')=j-I' from by omega]
         exact PJ hju
        ·have hn':new[j-I']?=some (new.getD (j-I') .junk):=by rw[bk _ _ (by omega)];exact Ph (by omega)
         exact(R0.2 _ _ _ hn' (PJ hju)).stable (fun _ h _=>h) hS Xj (fun _ _=>rfl)
       ·rw[Pj hcj]
        obtain⟨z,hz,ho,hr⟩:=r2 i' j Sk hj
        refine⟨z,?_,ho,hr.stable (fun _ h _=>h) hS Xj (fun _ _=>rfl)⟩
        rw[PK,Pn (by omega),Tc,Pj]
        ·rw[← Vy,PK,Pn (by omega)]at hz
         simpa using hz
        ·rintro⟨c1,c2⟩
         rcases Nat.lt_trichotomy i' i with RF | Ws | hgt
         ·have:(i'+1)*sz≤i*sz:=PI _ RF
          rw[Qo]at this
          omega
         ·subst Ws
          exact hcj ⟨rfl,by omega,by omega⟩
         ·have:(i+1)*sz≤i'*sz:=PI _ hgt
          rw[Qo]at this
          omega
      have hu:=h.upd (id:=id) (u:=μ id) (B:=.arrD E sz n TC Rv) (row:=some g) (dW w g row.toArray)
       (fun k hk=>⟨_,G',rfl,by cases hk;exact .inl hb⟩) (by omega) (by rw[dz];exact hB) (fun k hk=>.inl (hk.one hb)) (.inl ⟨rfl,.inl rfl⟩)
      rw[dz]at hu
      have he:bD st.heap id (.arrD E sz n TC Rv)=st.heap.set id (.arrD E sz n TC Rv):=by
       unfold bD
       rw[Pj (by rw[PC];omega)]
      rwa [he]at hu
     ·cases hp;exact D'.elim
    ·cases hp;exact D'.elim
   ·cases hp;exact D'.elim
  ·cases hp;exact D'.elim
 ·cases hp;exact D'.elim
end
end Go.Proofs.Ytnlmlkbaflmgcaa
namespace Go.Proofs.Ytnlmlkbaflmgcaa
open Go.RowKit
set_option linter.unusedVariables false
set_option linter.unusedSimpArgs false
section
variable {C:li} {S:Nat→Prop} {μ:Nat→Value} {st L':St} {a:Act} {w w':World} {p:Prop}
theorem hD {P:Program} {E:TypeId} {z:List D} (hz:gS P E=some z):∃(i:TypeInfo) (v:Value),P.info? E=some i∧i.zero=some v∧z=v.cells.toList.map D.ofVal1∧i.size=ay P E∧i.bytes=gv P E:=by
 unfold gS at hz
 cases hi:P.info? E with
 | none=>simp[hi]at hz
 | some i =>
  cases hv:i.zero with
  | none=>simp[hi,hv]at hz
  | some v =>
   simp only[hi,hv,QW,PY,Pu]at hz
   exact⟨i,v,rfl,hv,hz.symm,by simp[ay,hi],by simp[gv,hi]⟩
theorem u6 {k sz:Nat} (h:0<sz):k=(k / sz)*sz+k%sz:=by
 have:=Nat.div_add_mod k sz
 rw[Nat.mul_comm]at this
 omega
theorem xU {α:Type _} (z:List α) (sz:Nat) (hz:z.length=sz) (hs:0<sz):∀(n k:Nat),(List.replicate n z).flatten[k]?=if k<n*sz then z[k%sz]? else none
 | 0,k=>by simp
 | n+1,k=>by
  rw[List.replicate_succ,List.flatten_cons,Qo]
  by_cases hk:k<sz
  ·rw[Pw (by omega),Pn (by omega),Nat.mod_eq_of_lt hk]
  ·rw[Pz (by omega),xU z sz hz hs n (k-z.length),hz]
   by_cases Tl:k<n*sz+sz
   ·rw[Pn (by omega),Pn Tl]
    congr 1
    rw[← Nat.mod_eq_sub_mod (by omega)]
   ·rw[Pj (by omega),Pj Tl]
theorem qf {P:Program} {z:List D} {zv:Array Value} (hz:aO S μ w z zv) {sz:Nat} (SC:z.length=sz) (hs:0<sz) (n:Nat):aO S μ w (List.replicate n z).flatten ((Array.range (n*sz)).map (zv[·%zv.size]!)):=by
 have hl:(List.replicate n z).flatten.length=n*sz:=by simp[SC]
 refine⟨by simp[hl],fun j y u hy hu=>?_⟩
 have hj:j<n*sz:=by rw[← hl];exact(Pf.1 hy).1
 rw[xU z sz SC hs,Pn hj]at hy
 have hm:j%sz<zv.size:=by rw[hz.1,SC];exact Nat.mod_lt _ hs
 simp only[Qp,Array.getElem?_range,hj,Q7,PY,Pu]at hu
 refine hz.2 (j%sz) y u hy ?_
 rw[← hu,hz.1,SC]
 simp[hm]
theorem jF (sz n:Nat) (cells:List D) {i:Nat} {x:List D} (h:(nO sz n cells)[i]?=some x):i<n∧x=(cells.drop (i*sz)).take sz:=by
 unfold nO at h
 obtain⟨k,hk,rfl⟩:=dK h
 have hi:=(Pf.1 hk)
 obtain⟨h1,h2⟩:=hi
 simp at h1 h2
 subst h2
 exact⟨h1,rfl⟩
theorem rX {E sz n:Nat} {cells:List D} {vs:Array Value} (hr:aO S μ w cells vs) (hl:cells.length=n*sz) (hn:n≤maxLen) {L:List (List V)} (hLl:L.length=n)
  (hL:∀(i:Nat) (x:List V),L[i]?=some x→x.length=sz∧∀(j:Nat) (y:V),x[j]?=some y→∃d,cells[i*sz+j]?=some d∧∀u,ao S μ w d u→dg S w y u)
  (hS:∀b,S b→b<w.heap.size):eM S (w.alloc (.cells vs E)) E sz L (.slice (some ⟨w.heap.size,0,none⟩) n n):=by
 subst hLl
 refine⟨fun i x hx=>(hL i x hx).1,vs.toList,World.ownsRow_lit w vs L.length (Qb _) hn (by rw[hr.1,hl]),fun i x j y hx hy=>?_⟩
 obtain⟨d,hd,SA⟩:=(hL i x hx).2 j y hy
 have RF:i*sz+j<vs.size:=by rw[hr.1];exact(Pf.1 hd).1
 refine⟨vs[i*sz+j],by simp[RF],?_⟩
 exact(SA _ (hr.2 _ _ _ hd (PJ RF))).stable (fun _ h _=>h) (fun b hb hl=>Qz w _ b hl) (by simp)
theorem iw {P:Program} {t E:TypeId} {len:Nat} {Ry:List (Nat×Value)} {i:TypeInfo} {v:Value} (hu:P.underlying t=some (.slice E)) (hi:P.info? E=some i) (hv:i.zero=some v) (R':len*i.size≤4096)
  {cells:Array Value} (hf:Instr.fill (fun k=>some (k*i.size,i.size)) ((Array.range (len*i.size)).map (v.cells[·%v.cells.size]!)) Ry=some cells) :
  (Instr.buildSlice t len Ry.toArray).run P w=.ok (.slice (some ⟨w.heap.size,0,none⟩) len len) (w.alloc (.cells cells E)):=by
 by_cases hn:len*i.size=0
 ·have e0:(Array.range (len*i.size)).map (v.cells[·%v.cells.size]!)=#[]:=by rw[hn];simp[Array.range_zero']
  rw[e0]at hf
  have e1:∀f:Nat→Value,(Array.range 0).map f=#[]:=fun f=>by simp[Array.range_zero']
  unfold Instr.buildSlice
  simp only[Pm,PV hu,Pk,sizeOf,typeInfo,program]
  simp only[Sem.run,hi,PF,Pk]
  rw[Pj (by omega),Pn hn]
  simp only[PF,Pk,hn,e1,hf]
  simp[newRow,newObj,Sem.run]
 ·unfold Instr.buildSlice
  simp only[Pm,PV hu,Pk,sizeOf,typeInfo,program]
  simp only[Sem.run,hi,PF,Pk]
  rw[Pj (by omega),Pj hn]
  have hz:(zeroValue E).run P w=.ok v w:=by simp[zeroValue,typeInfo,hi,hv,Pm]
  simp only[Pm,hz,PF,Pk,hf]
  simp[newRow,newObj,Sem.run]
end
end Go.Proofs.Ytnlmlkbaflmgcaa
namespace Go.Proofs.Ytnlmlkbaflmgcaa
open Go.RowKit
set_option linter.unusedVariables false
set_option linter.unusedSimpArgs false
section
variable {C:li} {S:Nat→Prop} {μ:Nat→Value} {st L':St} {a:Act} {w w':World} {p:Prop}
theorem ar {X:Prop} (hp:aW st=(L',p)) (D':p):X:=by
 simp only[aW,Po]at hp
 rw[← hp.2]at D'
 exact D'.elim
theorem kd {sz n:Nat} {cells:List D} {i j:Nat} {x:List D} {d:D} (h:(nO sz n cells)[i]?=some x) (hd:x[j]?=some d):cells[i*sz+j]?=some d:=by
 obtain⟨_,rfl⟩:=jF sz n cells h
 rw[PK]at hd
 split at hd
 ·rw[Qv]at hd;exact hd
 ·cases hd
theorem wF (h:a5 C S μ st a w) {ov:Ov} {dst:Option Nat} {t:TypeId} {len:Nat} {M':List (Nat×D)} {Ry:List (Nat×Value)} (h1:M'.map (·.1)=Ry.map (·.1))
  (h2:∀(j:Nat) (x:Nat×D) (u:Nat×Value),M'[j]?=some x→Ry[j]?=some u→ao S μ w x.2 u.2) (hp:qe C.P C.nt st ov dst t len M'=(L',p)) (D':p) :
  ∃u w' μ',(Instr.buildSlice t len Ry.toArray).run C.P w=.ok u w'∧a5 C S μ' L' (a.put dst u) w':=by
 unfold qe at hp
 split at hp
 ·rename_i E hu
  split at hp
  ·rename_i z hz
   split at hp
   ·rename_i hc
    simp only[Pg,PC,Qm]at hc
    obtain⟨⟨⟨hk,SC⟩,RQ⟩,R'⟩:=hc
    obtain⟨i,v,hi,hv,Ua,RB,W4⟩:=hD hz
    split at hp
    ·rename_i cells hf
     have Vj:aO S μ w z v.cells:=by
      obtain⟨v',hv',hr⟩:=gt (P:=C.P) (S:=S) (μ:=μ) (w:=w) hz
      have:v'=v:=by
       have:(zeroValue E).run C.P w=.ok v w:=by simp[zeroValue,typeInfo,hi,hv,Pm]
       rw[this]at hv'
       cases hv'
       rfl
      rwa [this]at hr
     have Up:=qf (P:=C.P) Vj SC (by omega) len
     obtain⟨vs,Tr,Tf⟩:=eV h.heap M' Ry _ cells _ h1 h2 Up hf
     rw[← RB]at Tr
     have RD:=iw (P:=C.P) (w:=w) hu hi hv (by rw[RB];exact R') Tr
     have hcl:cells.length=len*ay C.P E:=by
      have:∀(M':List (Nat×D)) (c0 TF:List D),gq st.heap (fun i=>some (i*ay C.P E,ay C.P E)) c0 M'=some TF→TF.length=c0.length:=by
       intro M'
       induction M' with
       | nil=>intro c0 TF h;simp only[gq,Pu]at h;rw[h]
       | cons q r ih =>
        intro c0 TF h
        obtain⟨k,x⟩:=q
        unfold gq at h
        split at h
        ·split at h
         ·rename_i RK
          simp only[Pg,Qm]at RK
          rw[ih _ _ h]
          simp[fo]
          omega
         ·cases h
        ·cases h
      rw[this _ _ _ hf]
      simp[SC]
     have RA:len≤maxLen:=by
      have:len*1≤len*ay C.P E:=Q8 _ RQ
      simp only[maxLen]
      omega
     have WC:∀(L:List (List V)) (B:ax) (q:Prop),newBox st C.nt dst B (.own st.heap.length) q=(L',p)→(q→eM S (w.alloc (.cells vs E)) E (ay C.P E) L (.slice (some ⟨w.heap.size,0,none⟩) len len)∧(eM S (w.alloc (.cells vs E)) E (ay C.P E) L (.slice (some ⟨w.heap.size,0,none⟩) len len)→aJ S (a7 μ st.heap.length (.slice (some ⟨w.heap.size,0,none⟩) len len)) (w.alloc (.cells vs E)) (.slice (some ⟨w.heap.size,0,none⟩) len len) B))→B.isRo=false →
       ∃u w' μ',(Instr.buildSlice t len Ry.toArray).run C.P w=.ok u w'∧a5 C S μ' L' (a.put dst u) w':=by
      intro L B q hp hB S4
      have hq:q:=by
       unfold newBox at hp
       split at hp
       ·split at hp
        ·simp only[Po]at hp;rw[← hp.2]at D';exact D'
        ·exact ar hp D'
       ·exact ar hp D'
      obtain⟨b1,b2⟩:=hB hq
      refine⟨_,_,_,RD,(h.newBox hp D' (QA w _ none) (b2 b1) (fun b hb=>by simp[bI,aM]at hb;omega) ?_ S4).2⟩
      have:=ao.own (S:=S) (μ:=a7 μ st.heap.length (.slice (some ⟨w.heap.size,0,none⟩) len len)) (w:=w.alloc (.cells vs E)) st.heap.length
      rwa [az]at this
     split at hp
     ·rename_i E' RY α Rz d' l'
      split at hp
      ·rename_i hc
       simp only[Pg,PC]at hc
       obtain⟨rfl,rfl⟩:=hc
       refine WC (l'.map Rz) _ _ hp (fun hq=>⟨?_,fun hA=>hA.box rfl⟩) rfl
       obtain⟨q1,q2⟩:=kb hq
       refine rX Tf hcl RA (by rw[← q1];simp[nO]) (fun i x hx=>?_) h.slt
       obtain⟨r,hr,RS⟩:=q2 i x hx
       obtain⟨r1,r2⟩:=eX RS
       obtain⟨So,rfl⟩:=jF _ _ _ hr
       refine⟨?_,fun j y hy=>?_⟩
       ·rw[← r1,PD,PQ,hcl]
        have:(i+1)*ay C.P E≤len*ay C.P E:=PI _ So
        rw[Qo]at this
        omega
       ·obtain⟨d,hd,VJ⟩:=r2 j y hy
        exact⟨d,kd hr hd,fun u hu=>lw VJ hu⟩
      ·exact ar hp D'
     ·rename_i gs cell
      split at hp
      ·rename_i Vq
       simp only[Pg]at Vq
       obtain⟨VG,TK⟩:=Vq
       have hq:∀i j,i<len→j<ay C.P E→cell i j=cells.getD (i*ay C.P E+j) .junk∧∀k,gs.all (fun g=>!(Nat.beq g k))=true→(cell i j).free k=true:=by
        have SO:=hp
        unfold newBox at SO
        split at SO
        ·split at SO
         ·simp only[Po]at SO;rw[← SO.2]at D';exact D'
         ·exact ar SO D'
        ·exact ar SO D'
       have RR:gs.all (fun g=>!(Nat.beq g st.heap.length))=true:=by
        rw[PH]at VG ⊢
        intro g hg
        have:=VG g hg
        rw[Rm]at this
        exact wu (by omega)
       have hvl:vs.size=len*ay C.P E:=by rw[Tf.1,hcl]
       have TU:∀b,S b→b<w.heap.size→(w.alloc (.cells vs E)).heap[b]?=w.heap[b]?:=fun b _ hl=>(QA w (.cells vs E) none).block b hl (by simp)
       refine⟨_,_,_,RD,(h.newBox hp D' (QA w _ none) (u:=.slice (some ⟨w.heap.size,0,none⟩) len len) ⟨fun i j k hi hj hk=>(hq i j hi hj).2 k hk,vs.toList,⟨by simp[hvl],.inr ⟨w.heap.size,len,vs,rfl,Qb _,Qx w _,Pl _,RA,hvl,by rw[Rb (by simp[hvl])]⟩⟩,fun i j hi hj=>?_⟩ (fun b hb=>by simp[bI,aM]at hb;omega) ?_ rfl).2⟩
       ·have Um:(i+1)*ay C.P E≤len*ay C.P E:=PI _ hi
        rw[Qo]at Um
        have RF:i*ay C.P E+j<vs.size:=by omega
        have hlt2:i*ay C.P E+j<cells.length:=by omega
        have Xe:vs[i*ay C.P E+j]?=some vs[i*ay C.P E+j]:=PJ RF
        refine⟨vs[i*ay C.P E+j],by simp[RF],Br h.heap Tf TK _ (by simp),?_⟩
        have hcg:cells[i*ay C.P E+j]?=some (cells.getD (i*ay C.P E+j) .junk):=by rw[bk _ _ hlt2];exact Ph hlt2
        have hd:=Tf.2 _ _ _ hcg Xe
        rw[← (hq i j hi hj).1]at hd
        exact hd.stable (fun _ h _=>h) TU (QA w (.cells vs E) none).size (fun id RE=>aL _ _ (fun e=>by rw[e,(hq i j hi hj).2 _ RR]at RE;cases RE))
       ·have:=ao.own (S:=S) (μ:=a7 μ st.heap.length (.slice (some ⟨w.heap.size,0,none⟩) len len)) (w:=w.alloc (.cells vs E)) st.heap.length
        rwa [az]at this
      ·exact ar hp D'
     ·split at hp
      ·rename_i L hL
       refine WC L _ _ hp (fun _=>⟨?_,fun hA=>hA.box (u5 L).symm⟩) rfl
       obtain⟨q1,q2⟩:=sY hL
       refine rX Tf hcl RA (by rw[← q1];simp[nO]) (fun i x hx=>?_) h.slt
       obtain⟨r,hr,RS⟩:=q2 i x hx
       obtain⟨r1,r2⟩:=lv RS
       obtain⟨So,rfl⟩:=jF _ _ _ hr
       refine⟨?_,fun j y hy=>?_⟩
       ·rw[← r1,PD,PQ,hcl]
        have:(i+1)*ay C.P E≤len*ay C.P E:=PI _ So
        rw[Qo]at this
        omega
       ·obtain⟨d,hd,VJ⟩:=r2 j y hy
        exact⟨d,kd hr hd,fun u hu=>rV VJ hu⟩
      ·exact ar hp D'
    ·exact ar hp D'
   ·exact ar hp D'
  ·exact ar hp D'
 ·exact ar hp D'
theorem _root_.Nat.mul_add_mod_of_lt' {k sz j:Nat} (h:j<sz):(k*sz+j)%sz=j:=by
 rw[Nat.mul_comm,Nat.mul_add_mod,Nat.mod_eq_of_lt h]
theorem aJ.arr_mk {E sz:Nat} {u:Value} {α:Type} {enc:α→List V} {d:α} {l:List α} (h:eM S w E sz (l.map enc) u):aJ S μ w u (.arr E sz enc d l):=h.box rfl
theorem xV (h:a5 C S μ st a w) {ov:Ov} {dst:Option Nat} {t:TypeId} {l c:D} {ul uc:Value} (hl:ao S μ w l ul) (hc:ao S μ w c uc) (hp:u3 C.P C.nt st ov dst t l c=(L',p)) (D':p) :
  ∃u w' μ',(Instr.makeSlice t ul uc).run C.P w=.ok u w'∧a5 C S μ' L' (a.put dst u) w':=by
 unfold u3 at hp
 split at hp
 ·rename_i E kl n kc m hu
  split at hp
  ·rename_i z hz
   split at hp
   ·rename_i RK
    simp only[Pg,PC,Qm]at RK
    obtain⟨⟨⟨hk,SC⟩,RQ⟩,VK⟩:=RK
    obtain⟨i,v,hi,hv,Ua,RB,W4⟩:=hD hz
    rw[bJ hl,bJ hc]
    split at hp
    ·rename_i E' RY α Rz d' l'
     split at hp
     ·rename_i U4
      simp only[Pg,PC]at U4
      obtain⟨rfl,rfl⟩:=U4
      have hq:(0≤n∧n≤m∧m≤137438953472)∧l'.length=n.toNat∧∀x∈l',dV z (Rz x):=by
       have SO:=hp
       unfold newBox at SO
       split at SO
       ·split at SO
        ·simp only[Po]at SO;rw[← SO.2]at D';exact D'
        ·exact ar SO D'
       ·exact ar SO D'
      obtain⟨⟨h0,SR,hm⟩,RA,Ta⟩:=hq
      have hbm:(i.bytes:Int)*m≤281474976710656:=by
       have h9:(i.bytes:Int)≤1024:=by omega
       have:(i.bytes:Int)*m≤1024*m:=Int.mul_le_mul_of_nonneg_right h9 (by omega)
       omega
      have RD:=run_make (P:=C.P) w t E i v hu hi hv kl kc n m h0 SR hbm (by omega)
      refine⟨_,_,_,RD,(h.newBox (u:=.slice (some ⟨w.heap.size,0,none⟩) n.toNat m.toNat) hp D' (QA w _ none) (aJ.arr_mk ?_) (fun b hb=>by simp[bI,aM]at hb;omega) ?_).2⟩
      ·have Vj:aO S μ w z v.cells:=by
        rw[Ua]
        refine⟨by simp,fun j y u hy hu=>?_⟩
        simp only[PE,PU,hu,PY,Pu]at hy
        subst hy
        exact ao.ofVal1 S μ w u
       have Tf:v.cells.size=ay C.P E:=by rw[Vj.1,SC]
       refine⟨fun k x hx=>?_,(madeCells v.cells (m.toNat*i.size)).toList.take (n.toNat*ay C.P E),?_,fun k x j y hx hy=>?_⟩
       ·obtain⟨q,hq,rfl⟩:=dK hx
        rw[← (eX (Ta q (PM hq))).1,SC]
       ·have hle:n.toNat*ay C.P E≤m.toNat*i.size:=by rw[RB];exact PI _ (by omega)
        refine⟨by simp[size_madeCells,RA];omega,.inr ⟨w.heap.size,m.toNat,madeCells v.cells (m.toNat*i.size),by simp[RA],Qb _,Qx w _,by simp[RA];omega,by simp only[maxLen];omega,by rw[size_madeCells,RB],by simp[RA]⟩⟩
       ·obtain⟨q,hq,rfl⟩:=dK hx
        have Sw:k<n.toNat:=by rw[← RA];exact(Pf.1 hq).1
        obtain⟨r1,r2⟩:=eX (Ta q (PM hq))
        obtain⟨d,hd,VJ⟩:=r2 j y hy
        have hj:j<ay C.P E:=by rw[← SC];exact(Pf.1 hd).1
        have hjv:j<v.cells.size:=by omega
        have Uk:(k+1)*ay C.P E≤n.toNat*ay C.P E:=PI _ Sw
        rw[Qo]at Uk
        have hle:n.toNat*ay C.P E≤m.toNat*i.size:=by rw[RB];exact PI _ (by omega)
        refine⟨v.cells[j],?_,(lw VJ (Vj.2 j d _ hd (PJ hjv))).stable (fun _ h _=>h) (fun b hb hl=>Qz w _ b hl) (by simp)⟩
        rw[PK,Pn (by omega),PU]
        unfold madeCells
        rw[Qp,Array.getElem?_range,Pn (by omega)]
        simp only[PY,Pu]
        rw[Tf,Nat.mul_add_mod_of_lt' hj]
        simp[hjv]
      ·have:=ao.own (S:=S) (μ:=a7 μ st.heap.length (.slice (some ⟨w.heap.size,0,none⟩) n.toNat m.toNat)) (w:=w.alloc (.cells (madeCells v.cells (m.toNat*i.size)) E)) st.heap.length
       rwa [az]at this
     ·exact ar hp D'
    ·exact ar hp D'
   ·exact ar hp D'
  ·exact ar hp D'
 ·exact ar hp D'
end
end Go.Proofs.Ytnlmlkbaflmgcaa
namespace Go.Proofs.Ytnlmlkbaflmgcaa
open Go.RowKit
set_option linter.unusedVariables false
set_option linter.unusedSimpArgs false
section
variable {P:Program} {S:Nat→Prop} {μ:Nat→Value} {w:World}
theorem dt (t ty e:TypeId) (i:TypeInfo) (z:Value) (ht:P.underlying t=some (.slice e)) (hi:P.info? e=some i) (hz:i.zero=some z) (hzs:z.cells.size=i.size)
  {v:Value} {n:Nat} {xs:List Value} (P':w.ownsRow 0 e i.size v n xs) {pa:Option Addr} {m c:Nat} {RC:List Value} (hpa:pa=none→c=0∧m=0)
  (hl:RC.length=m*i.size) (Us:∀ad,pa=some ad→∀(j:Nat) (u:Value),RC[j]?=some u→w.cell? (ad.add j)=some u) (h1:∀u∈RC,u.oneCell'=true)
  (Xk:n+m≤maxLen) (SJ:(n+m)*i.bytes≤140737488355328) :
  ∃v' w',(Builtin.append_ #[t,t] ty #[v,.slice pa m c]).run P w=.ok v' w'∧w'.ownsRow 0 e i.size v' (n+m) (xs++RC)∧w.grownBy w' v.ownBlock∧(v'.ownBlock=v.ownBlock∨v'.ownBlock=some w.heap.size):=by
 cases pa with
 | none =>
  obtain⟨rfl,rfl⟩:=hpa rfl
  have hn:RC=[]:=PL (by simpa using hl)
  subst hn
  exact⟨v,w,run_append_owned_none (P:=P) w 0 t ty e i i.size ht hi v n xs P',by simpa using P',⟨rfl,rfl,rfl,Pl _,fun _ _ _=>rfl⟩,.inl rfl⟩
 | some ad =>
  have VH:=Us ad rfl
  have V6:n+m≤9223372036854775807:=by simp only[maxLen]at Xk;omega
  have RA:(xs++RC).length=(n+m)*i.size:=by rw[PG,P'.1,hl,Re]
  have Te:∀(old:Nat) (row:Option Nat),
    (w.drew.alloc (.cells (xs.toArray++RC.toArray++Builtin.zeroCells z.cells (grownCap w (n+m) old e-(n+m))) e)).ownsRow 0 e i.size
     (.slice (some ⟨w.heap.size,0,none⟩) (n+m) (grownCap w (n+m) old e)) (n+m) (xs++RC) ∧
    w.grownBy (w.drew.alloc (.cells (xs.toArray++RC.toArray++Builtin.zeroCells z.cells (grownCap w (n+m) old e-(n+m))) e)) row:=by
   intro old row
   have hge:=grownCap_ge w (n+m) old e
   have T5:grownCap w (n+m) old e≤maxLen:=grownCap_le_maxLen w (n+m) old e Xk
   refine⟨⟨RA,.inr ⟨w.heap.size,_,_,rfl,Qb _,Qx w.drew _,hge,T5,?_,?_⟩⟩,⟨rfl,rfl,rfl,by simp,fun k hk _=>Qz w.drew _ k hk⟩⟩
   ·simp only[Array.size_append,QL,size_zeroCells,hzs,P'.1,hl,← Re]
    congr 1
    omega
   ·simp only[Array.toList_append,P3]
    rw[← P3,← RA]
    exact Q0
  rcases P'.2 with ⟨rfl,rfl⟩ | ⟨g,cap,RN,rfl,Th,hg,Xl,T5,hcs,TM⟩
  ·have hx:xs=[]:=PL (by simpa using P'.1)
   subst hx
   by_cases hm:m=0
   ·subst hm
    have hn:RC=[]:=PL (by simpa using hl)
    subst hn
    refine⟨.slice none 0 0,w,?_,QC w 0 e i.size,⟨rfl,rfl,rfl,Pl _,fun _ _ _=>rfl⟩,.inl rfl⟩
    simp[Builtin.append_,PV ht,sizeOf,typeInfo,hi,Builtin.lenOf,Builtin.firstCells,loadCells,loadCellsFrom]
   ·have hr:=run_append_nil (P:=P) w t ty e i z ht hi hz ad m c RC hl VH (by omega) (by omega) (by have hb:=SJ;simp only[PX]at hb;omega)
    have Tv:=Te 0 (Value.ownBlock (.slice none 0 0))
    simp only[PX,QS,Array.empty_append]at Tv ⊢
    exact⟨_,_,hr,Tv.1,Tv.2,.inr rfl⟩
  ·by_cases hroom:n+m≤cap
   ·have RP:n*i.size+RC.length≤RN.size:=by rw[hl,hcs,← Re];exact PI _ hroom
    have hr:=run_append_room (P:=P) w t ty e i ht hi g n cap RN hg ad m c RC hl VH h1 hroom RP
    refine⟨_,_,hr,⟨RA,.inr ⟨g,cap,_,rfl,Th,setRow_heap w g RN _ e _ hg,hroom,T5,?_,?_⟩⟩,dW w g _,.inl rfl⟩
    ·simp only[QL,PG,PD,PQ,QB]
     omega
    ·rw[TM,← RA]
     exact Q0
   ·have holds:∀j u,xs[j]?=some u→w.cell? ((⟨g,0,none⟩:Addr).add j)=some u:=P'.cells (g:=g) rfl
    have hr:=run_append_grow (P:=P) w t ty e i z ht hi hz ⟨g,0,none⟩ n cap xs P'.1 holds ad m c RC hl VH (by omega) (by omega) (growslice_fits (by omega) SJ)
    have Tv:=Te cap (Value.ownBlock (.slice (some ⟨g,0,none⟩) n cap))
    exact⟨_,_,hr,Tv.1,Tv.2,.inr rfl⟩
theorem rB (t ty e:TypeId) (i:TypeInfo) (z:Value) (ht:P.underlying t=some (.slice e)) (hi:P.info? e=some i) (hz:i.zero=some z) (hzs:z.cells.size=i.size)
  {v:Value} {n:Nat} {xs:List Value} (P':w.ownsRow 0 e i.size v n xs) {pa:Option Addr} {m c:Nat} {RC:List Value} (hpa:pa=none→c=0∧m=0)
  (hl:RC.length=m*i.size) (Us:∀ad,pa=some ad→∀(j:Nat) (u:Value),RC[j]?=some u→w.cell? (ad.add j)=some u) (h1:∀u∈RC,u.oneCell'=true)
  (Xk:n+m≤maxLen) (SJ:(n+m)*i.bytes≤140737488355328) :
  ∃v' w',(Builtin.append_ #[t,t] ty #[v,.slice pa m c]).run P w=.ok v' w'∧w'.ownsRow 0 e i.size v' (n+m) (xs++RC)∧w.grownBy w' v.ownBlock∧(v'.ownBlock=v.ownBlock∨(v'.ownBlock=some w.heap.size∧w.grownBy w' none))∧w'.ownsRow 0 e i.size v n xs:=by
 cases pa with
 | none =>
  obtain⟨rfl,rfl⟩:=hpa rfl
  have hn:RC=[]:=PL (by simpa using hl)
  subst hn
  exact⟨v,w,run_append_owned_none (P:=P) w 0 t ty e i i.size ht hi v n xs P',by simpa using P',⟨rfl,rfl,rfl,Pl _,fun _ _ _=>rfl⟩,.inl rfl,P'⟩
 | some ad =>
  have VH:=Us ad rfl
  have V6:n+m≤9223372036854775807:=by simp only[maxLen]at Xk;omega
  have RA:(xs++RC).length=(n+m)*i.size:=by rw[PG,P'.1,hl,Re]
  have Te:∀(old:Nat) (row:Option Nat),
    (w.drew.alloc (.cells (xs.toArray++RC.toArray++Builtin.zeroCells z.cells (grownCap w (n+m) old e-(n+m))) e)).ownsRow 0 e i.size
     (.slice (some ⟨w.heap.size,0,none⟩) (n+m) (grownCap w (n+m) old e)) (n+m) (xs++RC) ∧
    w.grownBy (w.drew.alloc (.cells (xs.toArray++RC.toArray++Builtin.zeroCells z.cells (grownCap w (n+m) old e-(n+m))) e)) row:=by
   intro old row
   have hge:=grownCap_ge w (n+m) old e
   have T5:grownCap w (n+m) old e≤maxLen:=grownCap_le_maxLen w (n+m) old e Xk
   refine⟨⟨RA,.inr ⟨w.heap.size,_,_,rfl,Qb _,Qx w.drew _,hge,T5,?_,?_⟩⟩,⟨rfl,rfl,rfl,by simp,fun k hk _=>Qz w.drew _ k hk⟩⟩
   ·simp only[Array.size_append,QL,size_zeroCells,hzs,P'.1,hl,← Re]
    congr 1
    omega
   ·simp only[Array.toList_append,P3]
    rw[← P3,← RA]
    exact Q0
  rcases P'.2 with ⟨rfl,rfl⟩ | ⟨g,cap,RN,rfl,Th,hg,Xl,T5,hcs,TM⟩
  ·have hx:xs=[]:=PL (by simpa using P'.1)
   subst hx
   by_cases hm:m=0
   ·subst hm
    have hn:RC=[]:=PL (by simpa using hl)
    subst hn
    refine⟨.slice none 0 0,w,?_,QC w 0 e i.size,⟨rfl,rfl,rfl,Pl _,fun _ _ _=>rfl⟩,.inl rfl,QC w 0 e i.size⟩
    simp[Builtin.append_,PV ht,sizeOf,typeInfo,hi,Builtin.lenOf,Builtin.firstCells,loadCells,loadCellsFrom]
   ·have hr:=run_append_nil (P:=P) w t ty e i z ht hi hz ad m c RC hl VH (by omega) (by omega) (by have hb:=SJ;simp only[PX]at hb;omega)
    have Tv:=Te 0 (Value.ownBlock (.slice none 0 0))
    simp only[PX,QS,Array.empty_append]at Tv ⊢
    exact⟨_,_,hr,Tv.1,Tv.2,.inr ⟨rfl,Tv.2⟩,QC _ 0 e i.size⟩
  ·by_cases hroom:n+m≤cap
   ·have RP:n*i.size+RC.length≤RN.size:=by rw[hl,hcs,← Re];exact PI _ hroom
    have hr:=run_append_room (P:=P) w t ty e i ht hi g n cap RN hg ad m c RC hl VH h1 hroom RP
    refine⟨_,_,hr,⟨RA,.inr ⟨g,cap,_,rfl,Th,setRow_heap w g RN _ e _ hg,hroom,T5,?_,?_⟩⟩,dW w g _,.inl rfl,⟨P'.1,.inr ⟨g,cap,_,rfl,Th,setRow_heap w g RN _ e _ hg,Xl,T5,?_,?_⟩⟩⟩
    ·simp only[QL,PG,PD,PQ,QB]
     omega
    ·rw[TM,← RA]
     exact Q0
    ·simp only[QL,PG,PD,PQ,QB]
     omega
    ·rw[TM]
     simp only[P3]
     rw[← P'.1]
     exact Q0
   ·have holds:∀j u,xs[j]?=some u→w.cell? ((⟨g,0,none⟩:Addr).add j)=some u:=P'.cells (g:=g) rfl
    have hr:=run_append_grow (P:=P) w t ty e i z ht hi hz ⟨g,0,none⟩ n cap xs P'.1 holds ad m c RC hl VH (by omega) (by omega) (growslice_fits (by omega) SJ)
    have Tv:=Te cap (Value.ownBlock (.slice (some ⟨g,0,none⟩) n cap))
    have Vr:=(Te cap none).2
    exact⟨_,_,hr,Tv.1,Tv.2,.inr ⟨rfl,Vr⟩,⟨P'.1,.inr ⟨g,cap,RN,rfl,Th,by rw[Vr.block g (Px.1 hg).1 (by simp)];exact hg,Xl,T5,hcs,TM⟩⟩⟩
theorem ji {H:List ax} (hH:be S μ w H) {sz:Nat} (hs:1≤sz) {x:D} {new:List (List V)} {ux:Value} (hn:u4 H sz x=some new) (hx:ao S μ w x ux) :
  ∃(pa:Option Addr) (c:Nat) (RC:List Value),ux=.slice pa new.length c∧(pa=none→c=0∧new.length=0)∧RC.length=new.length*sz ∧
   (∀ad,pa=some ad→∀(j:Nat) (u:Value),RC[j]?=some u→w.cell? (ad.add j)=some u)∧(∀u∈RC,u.oneCell'=true) ∧
   (∀(i:Nat) (x:List V),new[i]?=some x→x.length=sz)∧∀(i:Nat) (x:List V) (j:Nat) (y:V),new[i]?=some x→x[j]?=some y→∃z,RC[i*sz+j]?=some z∧dg S w y z:=by
 have key:∀(RC:List Value),RC.length=new.length*sz→(∀(i:Nat) (x:List V),new[i]?=some x→x.length=sz) →
   (∀(i:Nat) (x:List V) (j:Nat) (y:V),new[i]?=some x→x[j]?=some y→∃z,RC[i*sz+j]?=some z∧dg S w y z)→∀u∈RC,u.oneCell'=true:=by
  intro RC hl h0 h2 u hu
  obtain⟨k,hk,rfl⟩:=QK hu
  have hi:k / sz<new.length:=by
   rw[Nat.div_lt_iff_lt_mul (by omega)]
   omega
  have hj:k%sz<new[k / sz].length:=by
   rw[h0 _ _ (Ph hi)]
   exact Nat.mod_lt _ (by omega)
  obtain⟨z,hz,hr⟩:=h2 _ _ _ _ (Ph hi) (Ph hj)
  rw[← u6 (by omega)]at hz
  rw[Ph hk]at hz
  cases hz
  exact hr.one
 unfold u4 at hn
 split at hn
 ·rename_i RY α enc d l
  split at hn
  ·rename_i RB
   rw[PC]at RB
   subst RB
   cases hn
   obtain⟨p,c,rfl,h1,h2,h3,h4⟩:=gb (bn hx)
   by_cases h0:0<l.length
   ·obtain⟨b,I',us,rfl,q1,q2,q3,q4,q5⟩:=h4 h0
    have hz:∀(k:Nat),k<l.length*sz→∃(z:α) (y:V),l[k / sz]?=some z∧(enc z)[k%sz]?=some y:=by
     intro k hk
     have hi:k / sz<l.length:=by rw[Nat.div_lt_iff_lt_mul (by omega)];exact hk
     have SC:=q3 _ _ (Ph hi)
     have hj:k%sz<(enc l[k / sz]).length:=by rw[SC];exact Nat.mod_lt _ (by omega)
     exact⟨_,_,Ph hi,Ph hj⟩
    have r0:∀(i:Nat) (x:List V),(l.map enc)[i]?=some x→x.length=sz:=fun i x hx=>by obtain⟨z,hz,rfl⟩:=dK hx;exact q3 i z hz
    have r2:∀(i:Nat) (x:List V) (j:Nat) (y:V),(l.map enc)[i]?=some x→x[j]?=some y→∃z,((List.range (l.length*sz)).map fun k=>us (k / sz) (k%sz))[i*sz+j]?=some z∧dg S w y z:=by
     intro i x j y hx hy
     have hi:i<l.length:=by have:=(Pf.1 hx).1;simpa using this
     have Vp:=r0 i x hx
     have hj:j<sz:=by rw[← Vp];exact(Pf.1 hy).1
     obtain⟨z,hz,rfl⟩:=dK hx
     have hm:(i+1)*sz≤l.length*sz:=PI _ hi
     rw[Qo]at hm
     refine⟨us i j,?_,q5 i z j y hz hy⟩
     rw[PE,List.getElem?_range (by omega)]
     simp only[PY,Pu]
     rw[Nat.mul_add_mod_of_lt' hj,Nat.mul_comm i sz,Nat.mul_add_div (by omega),Nat.div_eq_of_lt hj,QO]
    refine⟨some ⟨b,I',none⟩,c,(List.range (l.length*sz)).map fun k=>us (k / sz) (k%sz),by simp,(fun h=>by cases h),by simp,?_,key _ (by simp) r0 r2,r0,r2⟩
    rintro ad WO j u hu
    cases WO
    obtain⟨k,hk,rfl⟩:=dK hu
    obtain⟨h5,h6⟩:=Pf.1 hk
    simp at h5 h6
    subst h6
    obtain⟨z,y,Xe,hz2⟩:=hz j h5
    rw[cW,← q4 _ _ _ _ Xe hz2,← u6 (by omega)]
   ·have hl:l=[]:=PL (by omega)
    subst hl
    exact⟨p,c,[],rfl,fun h=>⟨h3 h,rfl⟩,by simp,fun ad _ j u hu=>by simp at hu,fun u hu=>by simp at hu,fun i x hx=>by simp at hx,fun i x j y hx=>by simp at hx⟩
  ·cases hn
 ·rename_i id
  split at hn
  ·rename_i E RY α enc d l G'
   split at hn
   ·rename_i RB
    rw[PC]at RB
    subst RB
    cases hn
    rw[bA hx]
    have hA:=eM.of (hH.box id _ G')
    obtain⟨p,c,hm,q1,q2,q3,q4⟩:=bN (hH.box id _ G')
    obtain⟨r0,xs,r1,r2⟩:=hA
    refine⟨p,c,xs,by rw[hm];simp,fun hp=>⟨q3 hp,by rw[Py];have:=q3 hp;omega⟩,r1.1,?_,key xs r1.1 r0 r2,r0,r2⟩
    rintro ad rfl j u hu
    by_cases h0:0<l.length
    ·obtain⟨g,hg⟩:=q4 h0
     cases hg
     rw[cW,PX]
     exact jC r1 (by rw[hm];rfl) j u hu
    ·have:xs.length=0:=by rw[r1.1,Py,show l.length=0 from by omega];simp
     have hxs:xs=[]:=PL this
     subst hxs
     simp at hu
   ·cases hn
  ·cases hn
 ·cases hn
  cases hx
  exact⟨none,0,[],rfl,fun _=>⟨rfl,rfl⟩,by simp,fun ad h=>(by cases h),fun u hu=>by simp at hu,fun i x hx=>by simp at hx,fun i x j y hx=>by simp at hx⟩
 ·cases hn
  have hx:=bn hx
  cases hx
  exact⟨none,0,[],rfl,fun _=>⟨rfl,rfl⟩,by simp,fun ad h=>(by cases h),fun u hu=>by simp at hu,fun i x hx=>by simp at hx,fun i x j y hx=>by simp at hx⟩
 ·cases hn
  have hx:=bn hx
  cases hx with
  | esl p c hc=>exact⟨some p,c,[],rfl,fun h=>(by cases h),by simp,fun ad h j u hu=>by simp at hu,fun u hu=>by simp at hu,fun i x hx=>by simp at hx,fun i x j y hx=>by simp at hx⟩
 ·cases hn
theorem eM.append {w':World} {E sz:Nat} {L new:List (List V)} {u':Value} {xs RC:List Value} (h0:∀(i:Nat) (x:List V),L[i]?=some x→x.length=sz) (Vp:xs.length=L.length*sz)
  (h2:∀(i:Nat) (x:List V) (j:Nat) (y:V),L[i]?=some x→x[j]?=some y→∃z,xs[i*sz+j]?=some z∧dg S w' y z)
  (n0:∀(i:Nat) (x:List V),new[i]?=some x→x.length=sz)
  (n2:∀(i:Nat) (x:List V) (j:Nat) (y:V),new[i]?=some x→x[j]?=some y→∃z,RC[i*sz+j]?=some z∧dg S w' y z)
  (ho:w'.ownsRow 0 E sz u' (L.length+new.length) (xs++RC)):eM S w' E sz (L++new) u':=by
 refine⟨fun i x hx=>?_,xs++RC,by rw[PG];exact ho,fun i x j y hx hy=>?_⟩
 ·by_cases hi:i<L.length
  ·rw[Pw hi]at hx;exact h0 i x hx
  ·rw[Pz (by omega)]at hx;exact n0 _ x hx
 ·by_cases hi:i<L.length
  ·rw[Pw hi]at hx
   obtain⟨z,hz,hr⟩:=h2 i x j y hx hy
   exact⟨z,by rw[Pw (Pf.1 hz).1];exact hz,hr⟩
  ·rw[Pz (by omega)]at hx
   obtain⟨z,hz,hr⟩:=n2 _ x j y hx hy
   refine⟨z,?_,hr⟩
   have hm:L.length*sz≤i*sz:=PI _ (by omega)
   rw[Pz (by omega),Vp]
   rw[Nat.sub_mul]at hz
   rw[← hz]
   congr 1
   omega
theorem rD (t ty e:TypeId) (i:TypeInfo) (z:Value) (ht:P.underlying t=some (.slice e)) (hi:P.info? e=some i) (hz:i.zero=some z) (hzs:z.cells.size=i.size)
  {p:Option Addr} {n:Nat} {xs:List Value} (hpn:p=none→n=0) (Vp:xs.length=n*i.size) (holds:∀ad,p=some ad→∀(j:Nat) (u:Value),xs[j]?=some u→w.cell? (ad.add j)=some u) {pa:Option Addr} {m c:Nat} {RC:List Value} (hpa:pa=none→c=0∧m=0)
  (hl:RC.length=m*i.size) (Us:∀ad,pa=some ad→∀(j:Nat) (u:Value),RC[j]?=some u→w.cell? (ad.add j)=some u) (hm0:0<m)
  (Xk:n+m≤maxLen) (SJ:(n+m)*i.bytes≤140737488355328) :
  ∃v' w',(Builtin.append_ #[t,t] ty #[.slice p n n,.slice pa m c]).run P w=.ok v' w'∧w'.ownsRow 0 e i.size v' (n+m) (xs++RC)∧w.grownBy w' none∧v'.ownBlock=some w.heap.size:=by
 cases pa with
 | none=>have:=(hpa rfl).2;omega
 | some ad =>
  have VH:=Us ad rfl
  have V6:n+m≤9223372036854775807:=by simp only[maxLen]at Xk;omega
  have RA:(xs++RC).length=(n+m)*i.size:=by rw[PG,Vp,hl,Re]
  have Te:∀(old:Nat) (row:Option Nat),
    (w.drew.alloc (.cells (xs.toArray++RC.toArray++Builtin.zeroCells z.cells (grownCap w (n+m) old e-(n+m))) e)).ownsRow 0 e i.size
     (.slice (some ⟨w.heap.size,0,none⟩) (n+m) (grownCap w (n+m) old e)) (n+m) (xs++RC) ∧
    w.grownBy (w.drew.alloc (.cells (xs.toArray++RC.toArray++Builtin.zeroCells z.cells (grownCap w (n+m) old e-(n+m))) e)) row:=by
   intro old row
   have hge:=grownCap_ge w (n+m) old e
   have T5:grownCap w (n+m) old e≤maxLen:=grownCap_le_maxLen w (n+m) old e Xk
   refine⟨⟨RA,.inr ⟨w.heap.size,_,_,rfl,Qb _,Qx w.drew _,hge,T5,?_,?_⟩⟩,⟨rfl,rfl,rfl,by simp,fun k hk _=>Qz w.drew _ k hk⟩⟩
   ·simp only[Array.size_append,QL,size_zeroCells,hzs,Vp,hl,← Re]
    congr 1
    omega
   ·simp only[Array.toList_append,P3]
    rw[← P3,← RA]
    exact Q0
  cases p with
  | none =>
   have hn:=hpn rfl
   subst hn
   have hx:xs=[]:=PL (by simpa using Vp)
   subst hx
   have hr:=run_append_nil (P:=P) w t ty e i z ht hi hz ad m c RC hl VH (by omega) (by omega) (by have hb:=SJ;simp only[PX]at hb;omega)
   have Tv:=Te 0 none
   simp only[PX,QS,Array.empty_append]at Tv ⊢
   exact⟨_,_,hr,Tv.1,Tv.2,rfl⟩
  | some b =>
   have hr:=run_append_grow (P:=P) w t ty e i z ht hi hz b n n xs Vp (holds b rfl) ad m c RC hl VH (by omega) (by omega) (growslice_fits (by omega) SJ)
   have Tv:=Te n none
   exact⟨_,_,hr,Tv.1,Tv.2,rfl⟩
end
section
variable {C:li} {S:Nat→Prop} {μ:Nat→Value} {st L':St} {a:Act} {w w':World} {p:Prop}
theorem uv (h:a5 C S μ st a w) {ov:Ov} {dst:Option Nat} {t ty:TypeId} {s x:D} {us ux:Value} (hs:ao S μ w s us) (hx:ao S μ w x ux) (hp:wC C.P C.nt st ov dst t s x=(L',p)) (D':p) :
  ∃u w' μ',(Builtin.append_ #[t,t] ty #[us,ux]).run C.P w=.ok u w'∧a5 C S μ' L' (a.put dst u) w':=by
 unfold wC at hp
 split at hp
 ·rename_i E hu
  split at hp
  ·rename_i z new hz RR
   split at hp
   ·rename_i RK
    simp only[Pg,PC,Qm]at RK
    obtain⟨⟨⟨hk,SC⟩,RQ⟩,VK⟩:=RK
    obtain⟨i,v,hi,hv,Ua,RB,W4⟩:=hD hz
    have Tf:v.cells.size=i.size:=by rw[RB,← SC,Ua];simp
    obtain⟨pa,c,RC,rfl,n1,n2,n3,n4,n5,n6⟩:=ji h.heap RQ RR hx
    rw[← RB]at n2 n6 n5
    have bytes:∀k,k≤137438953472→k*i.bytes≤140737488355328:=by
     intro k hk
     have:k*i.bytes≤137438953472*1024:=Rq hk (by omega)
     omega
    split at hp
    ·rename_i id
     split at hp
     ·rename_i E' RY α enc d l td G'
      split at hp
      ·rename_i U4
       simp only[Pg,PC,Rm]at U4
       obtain⟨⟨⟨rfl,rfl⟩,Xm⟩,hfx⟩:=U4
       generalize hq:nN E (ay C.P E) (l.map enc++new) ov=q at hp
       obtain⟨B,q⟩:=q
       simp only[Po]at hp
       obtain⟨rfl,rfl⟩:=hp
       obtain⟨RA,WM⟩:=D'
       have RU:=bA hs
       subst RU
       obtain⟨r0,xs,r1,r2⟩:=eM.of (h.heap.box id _ G')
       simp only[Py]at r1
       have VL:l.length+new.length≤maxLen:=by simp only[maxLen];omega
       obtain⟨v',w',RD,ho,hg,Rx⟩:=dt (P:=C.P) (w:=w) t ty E i v hu hi hv Tf (by rw[RB];exact r1) n1 n2 n3 n4 VL (bytes _ RA)
       have P':(μ id).ownBlock=aM (μ id):=by
        obtain⟨p',c',hm,_⟩:=bN (h.heap.box id _ G')
        rw[hm]
        cases p'<;>rfl
       have RE:id<st.heap.length:=(Pf.1 G').1
       have TU:∀b,S b→b<w.heap.size→w'.heap[b]?=w.heap[b]?:=fun b hb hl=>hg.block b hl (fun e=>h.heap.notS id _ b G' rfl (.inl (by rw[← P'];exact e.symm)) hb)
       have hA:eM S w' E (ay C.P E) (l.map enc++new) v':=by
        rw[RB]at ho n2 n5 n6
        refine eM.append r0 (by rw[r1.1];simp) (fun k x j y hx hy=>?_) n5 (fun k x j y hx hy=>?_) (by simpa using ho)
        ·obtain⟨z,hz,hr⟩:=r2 k x j y hx hy
         exact⟨z,hz,hr.stable (fun _ h _=>h) TU hg.size⟩
        ·obtain⟨z,hz,hr⟩:=n6 k x j y hx hy
         exact⟨z,hz,hr.stable (fun _ h _=>h) TU hg.size⟩
       obtain⟨hB,U9⟩:=mh (μ:=a7 μ id v') hq WM hA
       have hK:=h.kill id
       have Vd:(cj id st.heap)[id]?=some (.arr E (ay C.P E) enc d l):=by rw[fO,G'];rfl
       have VM:∀b,bI v' b→(μ id).ownBlock=some b∨w.heap.size≤b:=by
        intro b hb
        have hb:=hb.bl (by rcases ho.2 with ⟨rfl,_⟩ | ⟨g,cap,RN,rfl,_⟩<;>rfl)
        have Ub:v'.ownBlock=aM v':=by
         rcases ho.2 with ⟨rfl,_⟩ | ⟨g,cap,RN,rfl,_⟩<;>rfl
        rcases Rx with Rx | Rx
        ·exact .inl (by rw[← Rx,Ub];exact hb)
        ·rw[Ub,hb]at Rx
         cases Rx
         exact .inr (Pl _)
       have SN:=hK.upd (id:=id) (B:=B) (row:=(μ id).ownBlock) (u:=v') hg (fun k hk=>⟨_,Vd,rfl,.inl (by rw[← P'];exact hk)⟩) (by show id≤(cj id st.heap).length;rw[cb];omega)
        hB VM (.inr ⟨fun A hA=>by have R4:(cj id st.heap)[id]?=some A:=hA;rw[Vd]at R4;cases R4;rfl,j7 id _,j8 id _⟩) (lh U9)
       refine⟨v',w',_,RD,SN.put Xm ?_⟩
       have:=ao.own (S:=S) (μ:=a7 μ id v') (w:=w') id
       rwa [az]at this
      ·exact ar hp D'
     ·exact ar hp D'
    ·generalize hq:nN E (ay C.P E) new ov=q at hp
     obtain⟨B,q⟩:=q
     simp only at hp
     have Tg:new.length≤137438953472∧q:=by
      have SO:=hp
      unfold newBox at SO
      split at SO
      ·split at SO
       ·simp only[Po]at SO;rw[← SO.2]at D';exact D'
       ·exact ar SO D'
      ·exact ar SO D'
     obtain⟨RA,WM⟩:=Tg
     cases hs
     obtain⟨v',w',RD,ho,hg,Rx⟩:=dt (P:=C.P) (w:=w) t ty E i v hu hi hv Tf (QC w 0 E i.size) n1 n2 n3 n4 (by simp only[maxLen];omega) (bytes _ (by omega))
     have Vk:w.grownBy w' none:=hg
     have TU:∀b,S b→b<w.heap.size→w'.heap[b]?=w.heap[b]?:=fun b hb hl=>Vk.block b hl (by simp)
     have hA:eM S w' E (ay C.P E) ([]++new) v':=by
      rw[RB]at ho n2 n5 n6
      refine eM.append (xs:=[]) (fun k x hx=>by simp at hx) (by simp) (fun k x j y hx=>by simp at hx) n5 (fun k x j y hx hy=>?_) (by simpa using ho)
      obtain⟨z,hz,hr⟩:=n6 k x j y hx hy
      exact⟨z,hz,hr.stable (fun _ h _=>h) TU Vk.size⟩
     rw[QS]at hA
     obtain⟨hB,U9⟩:=mh (μ:=a7 μ st.heap.length v') hq WM hA
     refine⟨v',w',_,RD,(h.newBox hp D' Vk hB (fun b hb=>?_) ?_ (lh U9)).2⟩
     ·have hb:=hb.bl (by rcases ho.2 with ⟨rfl,_⟩ | ⟨g,cap,RN,rfl,_⟩<;>rfl)
      have Ub:v'.ownBlock=aM v':=by
       rcases ho.2 with ⟨rfl,_⟩ | ⟨g,cap,RN,rfl,_⟩<;>rfl
      rcases Rx with Rx | Rx
      ·rw[Ub,hb]at Rx;cases Rx
      ·rw[Ub,hb]at Rx;cases Rx;exact Pl _
     ·have:=ao.own (S:=S) (μ:=a7 μ st.heap.length v') (w:=w') st.heap.length
      rwa [az]at this
    ·rename_i RY α enc d0 l
     split at hp
     ·rename_i WK
      rw[PC]at WK
      subst WK
      generalize hq:nN E (ay C.P E) (l.map enc++new) ov=q at hp
      obtain⟨B,q⟩:=q
      simp only at hp
      have Tg:0<new.length∧l.length+new.length≤137438953472∧q:=by
       have SO:=hp
       unfold newBox at SO
       split at SO
       ·split at SO
        ·simp only[Po]at SO;rw[← SO.2]at D';exact D'
        ·exact ar SO D'
       ·exact ar SO D'
      obtain⟨UT,RA,WM⟩:=Tg
      cases hs with
      | capd _ p n SA =>
       obtain⟨pq,cq,xs,he,x0,x1,x2,_,Ts,x3⟩:=ji h.heap RQ (new:=l.map enc) (x:=.v (.sl (ay C.P E) enc d0 l)) (by simp[u4]) (.v _ _ SA)
       simp only[Value.slice.injEq,Py]at he x1
       obtain⟨rfl,rfl,rfl⟩:=he
       rw[← RB]at x1
       obtain⟨v',w',RD,ho,hg,Rx⟩:=rD (P:=C.P) (w:=w) t ty E i v hu hi hv Tf (p:=p) (n:=l.length) (xs:=xs) (fun e=>by have:=(x0 e).2;simpa using this) x1 x2 n1 n2 n3 UT (by simp only[maxLen];omega) (bytes _ RA)
       have TU:∀b,S b→b<w.heap.size→w'.heap[b]?=w.heap[b]?:=fun b hb hl=>hg.block b hl (by simp)
       have hA:eM S w' E (ay C.P E) (l.map enc++new) v':=by
        rw[RB]at ho n2 n5 n6 x1
        refine eM.append Ts (by rw[x1];simp) (fun k x j y hx hy=>?_) n5 (fun k x j y hx hy=>?_) (by simpa using ho)
        ·obtain⟨z,hz,hr⟩:=x3 k x j y hx hy
         exact⟨z,hz,hr.stable (fun _ h _=>h) TU hg.size⟩
        ·obtain⟨z,hz,hr⟩:=n6 k x j y hx hy
         exact⟨z,hz,hr.stable (fun _ h _=>h) TU hg.size⟩
       obtain⟨hB,U9⟩:=mh (μ:=a7 μ st.heap.length v') hq WM hA
       refine⟨v',w',_,RD,(h.newBox hp D' hg hB (fun b hb=>?_) ?_ (lh U9)).2⟩
       ·have hb:=hb.bl (by rcases ho.2 with ⟨rfl,_⟩ | ⟨g,cap,RN,rfl,_⟩<;>rfl)
        have Ub:v'.ownBlock=aM v':=by
         rcases ho.2 with ⟨rfl,_⟩ | ⟨g,cap,RN,rfl,_⟩<;>rfl
        rw[Ub,hb]at Rx
        cases Rx
        exact Pl _
       ·have:=ao.own (S:=S) (μ:=a7 μ st.heap.length v') (w:=w') st.heap.length
        rwa [az]at this
     ·exact ar hp D'
    ·exact ar hp D'
   ·exact ar hp D'
  ·exact ar hp D'
 ·exact ar hp D'
theorem sZ (h:a5 C S μ st a w) {ov:Ov} {dst:Option Nat} {t ty:TypeId} {s x:D} {us ux:Value} (hs:ao S μ w s us) (hx:ao S μ w x ux) (hp:sT C.P C.nt st ov dst t s x=(L',p)) (D':p) :
  ∃u w' μ',(Builtin.append_ #[t,t] ty #[us,ux]).run C.P w=.ok u w'∧a5 C S μ' L' (a.put dst u) w':=by
 unfold sT at hp
 split at hp
 ·rename_i E id iy td hu
  split at hp
  ·rename_i z E1 sz1 n gs cell E2 Vb m gs2 Xi TC Rv hz G' hboy
   split at hp
   ·rename_i RK
    simp only[Pg,PC,Qm,Rm]at RK
    obtain⟨⟨⟨⟨⟨hk,SC⟩,RQ⟩,VK⟩,⟨rfl,rfl⟩,rfl⟩,Xm⟩:=RK
    obtain⟨i,v,hi,hv,Ua,RB,W4⟩:=hD hz
    have Tf:v.cells.size=i.size:=by rw[RB,← SC,Ua];simp
    simp only[Po]at hp
    obtain⟨rfl,rfl⟩:=hp
    obtain⟨RA,Sq⟩:=D'
    have RU:=bA hs
    subst RU
    have hux:=bA hx
    subst hux
    have bytes:∀k,k≤137438953472→k*i.bytes≤140737488355328:=by
     intro k hk
     have:k*i.bytes≤137438953472*1024:=Rq hk (by omega)
     omega
    obtain⟨r0,xs,r1,r2⟩:=h.heap.box id _ G'
    obtain⟨q0,ys,q1,q2⟩:=h.heap.box iy _ hboy
    obtain⟨pa,c,hmu,Xl,T5,hpn,hpp⟩:=fJ (h.heap.box iy _ hboy)
    have Vc:∀u∈ys,u.oneCell'=true:=by
     intro u hu
     obtain⟨k,hk,hku⟩:=QK hu
     have hyl:=q1.1
     have Tl:k<m*ay C.P E:=by omega
     have hdm:=Nat.div_add_mod k (ay C.P E)
     have W8:=Nat.mod_lt k (show 0<ay C.P E by omega)
     have hdl:k / ay C.P E<m:=Nat.div_lt_of_lt_mul (by rw[Nat.mul_comm];exact Tl)
     obtain⟨z,hz,ho,_⟩:=q2 (k / ay C.P E) (k%ay C.P E) hdl W8
     rw[Nat.mul_comm,hdm,Ph hk,hku]at hz
     cases hz
     exact ho
    have WP:∀ad,pa=some ad→∀(j:Nat) (u:Value),ys[j]?=some u→w.cell? (ad.add j)=some u:=by
     intro ad had j u hj
     rcases q1.2 with ⟨hv0,_⟩ | ⟨g,cap,RN,hv0,_⟩
     ·rw[hmu,had]at hv0
      cases hv0
     ·have TW:=hv0
      rw[hmu]at TW
      simp only[Value.slice.injEq]at TW
      rw[had,Pu]at TW
      rw[TW.1]
      exact q1.cells (g:=g) (by rw[hv0];rfl) j u hj
    rw[hmu]
    obtain⟨v',w',RD,ho,hg,Rx⟩:=dt (P:=C.P) (w:=w) t ty E i v hu hi hv Tf (by rw[RB];exact r1) (fun e=>⟨hpn e,by
      rcases Nat.eq_zero_or_pos m with h0 | h0
      ·exact h0
      ·obtain⟨g,hg⟩:=hpp h0;rw[hg]at e;cases e⟩) (by rw[RB];exact q1.1) WP Vc (by simp only[maxLen];omega) (bytes _ RA)
    have P':(μ id).ownBlock=aM (μ id):=by
     obtain⟨p',c',hm,_⟩:=fJ (h.heap.box id _ G')
     rw[hm]
     cases p'<;>rfl
    have RE:id<st.heap.length:=(Pf.1 G').1
    have TU:∀b,S b→b<w.heap.size→w'.heap[b]?=w.heap[b]?:=fun b hb hl=>hg.block b hl (fun e=>h.heap.notS id _ b G' rfl (.inl (by rw[← P'];exact e.symm)) hb)
    have Sj:∀(d:D) (u:Value),ao S μ w d u→d.free id=true→ao S (a7 μ id v') w' d u:=fun d u hd hf=>hd.stable (fun _ h _=>h) TU hg.size (fun k hk=>aL _ _ (fun e=>by rw[e,hf]at hk;cases hk))
    rw[RB]at ho
    have hB:aJ S (a7 μ id v') w' v' (.arrD E (ay C.P E) (n+m) TC Rv):=by
     refine⟨fun i j k hi hj hk=>(Sq i j hi hj).2.2 k hk,xs++ys,ho,fun i j hi hj=>?_⟩
     obtain⟨e1,e2,_⟩:=Sq i j hi hj
     by_cases So:i<n
     ·rw[Pn So]at e1
      obtain⟨z,hz,h1,hr⟩:=r2 i j So hj
      refine⟨z,?_,h1,Sj _ _ (by rw[e1];exact hr) e2⟩
      rw[Pw (Pf.1 hz).1]
      exact hz
     ·rw[Pj So]at e1
      obtain⟨z,hz,h1,hr⟩:=q2 (i-n) j (by omega) hj
      refine⟨z,?_,h1,Sj _ _ (by rw[e1];exact hr) e2⟩
      have WN:n*ay C.P E≤i*ay C.P E:=PI _ (by omega)
      have Vp:=r1.1
      rw[Pz (by omega),Vp,show i*ay C.P E+j-n*ay C.P E=(i-n)*ay C.P E+j by rw[Nat.sub_mul];omega]
      exact hz
    have hK:=h.kill id
    have Vd:∃A,(cj id st.heap)[id]?=some A∧A.live=true:=by
     refine⟨ax.kill id (.arrD E (ay C.P E) n gs cell),by rw[fO,G'];rfl,?_⟩
     simp only[ax.kill]
     split<;>rfl
    have VM:∀b,bI v' b→(μ id).ownBlock=some b∨w.heap.size≤b:=by
     intro b hb
     have hb:=hb.bl (by rcases ho.2 with ⟨rfl,_⟩ | ⟨g,cap,RN,rfl,_⟩<;>rfl)
     have Ub:v'.ownBlock=aM v':=by
      rcases ho.2 with ⟨rfl,_⟩ | ⟨g,cap,RN,rfl,_⟩<;>rfl
     rcases Rx with Rx | Rx
     ·exact .inl (by rw[← Rx,Ub];exact hb)
     ·rw[Ub,hb]at Rx
      cases Rx
      exact .inr (Pl _)
    obtain⟨A,hA1,WD⟩:=Vd
    have SN:=hK.upd0 (id:=id) (B:=.arrD E (ay C.P E) (n+m) TC Rv) (row:=(μ id).ownBlock) (u:=v') hg (fun k hk=>⟨A,hA1,WD,.inl (by rw[← P'];exact hk)⟩) (by show id≤(cj id st.heap).length;rw[cb];omega)
     hB VM (.inr ⟨j7 id _,j8 id _⟩) rfl
    refine⟨v',w',_,RD,SN.put Xm ?_⟩
    have:=ao.own (S:=S) (μ:=a7 μ id v') (w:=w') id
    rwa [az]at this
   ·exact ar hp D'
  ·exact ar hp D'
 ·exact ar hp D'
theorem a5.bothF {Sx:Nat→Prop} (hR:a5 C Sx μ ⟨st.env,st.heap++[.dead]⟩ a w) {id E sz td:Nat} {α β:Type} {enc:α→List V} {d:α} {l:List α} {Rz:β→List V} {d':β} {l':List β} (G':st.heap[id]?=some (.arr E sz enc d l)) (Xm:td<C.nt) {v:Value}
  (hv:dg (fun b=>Sx b∨bI (μ id) b) w (.sl sz Rz d' l') v):∃S',a5 C S' μ ⟨uu (ns id (.sl (.sl sz enc d l)) st.env) td (.v (.sl sz Rz d' l')),(fc id (.sl (.sl sz enc d l)) st.heap).set id .dead++[.dead]⟩ (a.put (some td) v) w:=by
 have RE:id<st.heap.length:=(Pf.1 G').1
 have SD:(st.heap++[ax.dead])[id]?=some (.arr E sz enc d l):=by rw[Pw RE];exact G'
 have h1:=hR.freezeX (id:=id) (z:=.sl (.sl sz enc d l)) SD rfl (fq (hR.heap.box id _ SD) (fun b hb=>.inl hb) (fun b hb=>.inr hb) hR.slt)
 have h2:=h1.put Xm (.v _ _ hv)
 have e:(fc id (.sl (.sl sz enc d l)) (st.heap++[ax.dead])).set id .dead=(fc id (.sl (.sl sz enc d l)) st.heap).set id .dead++[.dead]:=by
  rw[sN,List.set_append_left _ _ (by rw[xR];exact RE)]
  rfl
 rw[← e]
 exact⟨_,h2⟩
theorem s4 (h:a5 C S μ st a w) {ov:Ov} {dst:Option Nat} {t ty:TypeId} {s x:D} {us ux:Value} (hs:ao S μ w s us) (hx:ao S μ w x ux) (hp:sU C.P C.nt st ov dst t s x=(L',p)) (D':p) :
  ∃u w' S' μ',(Builtin.append_ #[t,t] ty #[us,ux]).run C.P w=.ok u w'∧a5 C S' μ' L' (a.put dst u) w':=by
 unfold sU at hp
 split at hp
 ·rename_i E id td hu
  split at hp
  ·rename_i z new E0 W3 α enc d l E' RY β Rz d' l' hz RR G'
   split at hp
   ·rename_i RK
    simp only[Pg,PC,Qm,Rm]at RK
    obtain⟨⟨⟨⟨⟨hk,SC⟩,RQ⟩,VK⟩,⟨⟨rfl,rfl⟩,rfl⟩,rfl⟩,⟨Xm,Sy⟩,Wy⟩:=RK
    simp only[Po]at hp
    obtain⟨rfl,rfl⟩:=hp
    obtain⟨RA,hll⟩:=D'
    obtain⟨i,v,hi,hv,Ua,RB,W4⟩:=hD hz
    have Tf:v.cells.size=i.size:=by rw[RB,← SC,Ua];simp
    obtain⟨pa,c,RC,rfl,n1,n2,n3,n4,n5,n6⟩:=ji h.heap RQ RR hx
    rw[← RB]at n2 n6 n5
    have bytes:∀k,k≤137438953472→k*i.bytes≤140737488355328:=by
     intro k hk
     have:k*i.bytes≤137438953472*1024:=Rq hk (by omega)
     omega
    have RU:=bA hs
    subst RU
    have TD:=h.heap.box id _ G'
    obtain⟨r0,xs,r1,r2⟩:=eM.of TD
    simp only[Py]at r1
    have VL:l.length+new.length≤maxLen:=by simp only[maxLen];omega
    obtain⟨v',w',RD,ho,hg,Rx,ho2⟩:=rB (P:=C.P) (w:=w) t ty E i v hu hi hv Tf (by rw[RB];exact r1) n1 n2 n3 n4 VL (bytes _ RA)
    have P':(μ id).ownBlock=aM (μ id):=by
     obtain⟨p',c',hm,_⟩:=bN TD
     rw[hm]
     cases p'<;>rfl
    have Ub:v'.ownBlock=aM v':=by
     rcases ho.2 with ⟨rfl,_⟩ | ⟨g,cap,RN,rfl,_⟩<;>rfl
    have RE:id<st.heap.length:=(Pf.1 G').1
    have TU:∀b,S b→b<w.heap.size→w'.heap[b]?=w.heap[b]?:=fun b hb hl=>hg.block b hl (fun e=>h.heap.notS id _ b G' rfl (.inl (by rw[← P'];exact e.symm)) hb)
    have hA:eM S w' E (ay C.P E) (l.map enc++new) v':=by
     rw[RB]at ho n2 n5 n6
     refine eM.append r0 (by rw[r1.1];simp) (fun k x j y hx hy=>?_) n5 (fun k x j y hx hy=>?_) (by simpa using ho)
     ·obtain⟨z,hz,hr⟩:=r2 k x j y hx hy
      exact⟨z,hz,hr.stable (fun _ h _=>h) TU hg.size⟩
     ·obtain⟨z,hz,hr⟩:=n6 k x j y hx hy
      exact⟨z,hz,hr.stable (fun _ h _=>h) TU hg.size⟩
    have hA0:eM S w' E (ay C.P E) (l.map enc) (μ id):=by
     refine⟨r0,xs,by rw[RB]at ho2;simpa using ho2,fun k x j y hx hy=>?_⟩
     obtain⟨z,hz,hr⟩:=r2 k x j y hx hy
     exact⟨z,hz,hr.stable (fun _ h _=>h) TU hg.size⟩
    rcases Rx with Rx | ⟨Rx,Vr⟩
    ·-- in its T8,or nothing at all
     have SN:=h.upd (id:=id) (B:=.arr E (ay C.P E) enc d l) (row:=(μ id).ownBlock) (u:=μ id) hg (fun k hk=>⟨_,G',rfl,.inl (by rw[← P'];exact hk)⟩) (by omega)
      (by rw[dz];exact hA0.box rfl) (fun b hb=>.inl (by rw[P'];exact hb.bl (by obtain⟨p',c',hm,_⟩:=bN TD;rw[hm];rfl))) (.inl ⟨rfl,.inr ⟨_,G',rfl⟩⟩)
     rw[dz]at SN
     have he:bD st.heap id (.arr E (ay C.P E) enc d l)=st.heap:=by
      unfold bD
      rw[Pj (by rw[PC];omega)]
      exact List.ext_getElem? (fun j=>by
       rw[Q4]
       by_cases hj:id=j
       ·subst hj;rw[Pn rfl,Pn RE];exact G'.symm
       ·rw[Pj hj])
     rw[he]at SN
     have hu3:=SN.heapTo (H:=st.heap++[.dead]) (fun i B hB=>by
      by_cases hi:i<st.heap.length
      ·rw[Pw hi]at hB;exact .inr hB
      ·rw[Pz (by omega)]at hB
       cases hq:i-st.heap.length with
       | zero=>rw[hq]at hB;cases hB;exact .inl rfl
       | succ n=>rw[hq]at hB;simp at hB)
     have SA:dg (fun b=>S b∨bI (μ id) b) w' (.sl (ay C.P E) Rz d' l') v':=fq (μ:=μ) (hA.box hll) (fun b hb=>.inl hb) (fun b hb=>.inr (.inl (by rw[← P',← Rx,Ub];exact hb.bl (by rcases ho.2 with ⟨rfl,_⟩ | ⟨g,cap,RN,rfl,_⟩<;>rfl)))) SN.slt
     obtain⟨S',hR⟩:=a5.bothF (st:=st) hu3 G' Xm SA
     exact⟨v',w',S',μ,RD,hR⟩
    ·-- in a new block
     have SN:=h.upd (id:=st.heap.length) (B:=.arr E (ay C.P E) Rz d' l') (row:=none) (u:=v') Vr (fun k hk=>by cases hk) (Pl _)
      (hA.box hll) (fun b hb=>.inr (by have hb:=hb.bl (by rcases ho.2 with ⟨rfl,_⟩ | ⟨g,cap,RN,rfl,_⟩<;>rfl);rw[Ub,hb]at Rx;cases Rx;exact Pl _)) (.inr ⟨fun A hA=>by simp at hA,Sy,Wy⟩)
     rw[show bD st.heap st.heap.length (.arr E (ay C.P E) Rz d' l')=st.heap++[.arr E (ay C.P E) Rz d' l']from by simp[bD]]at SN
     have SD:(st.heap++[ax.arr E (ay C.P E) Rz d' l'])[st.heap.length]?=some (.arr E (ay C.P E) Rz d' l'):=by simp
     have hr2:=fq (S':=fun b=>S b∨bI (a7 μ st.heap.length v' st.heap.length) b) (SN.heap.box _ _ SD) (fun b hb=>.inl hb) (fun b hb=>.inr hb) SN.slt
     have hu3:=SN.freezeX (id:=st.heap.length) (z:=.sl (.sl (ay C.P E) Rz d' l')) SD rfl hr2
     have e1:ns st.heap.length (.sl (.sl (ay C.P E) Rz d' l')) st.env=st.env:=mf Sy
     have e2:(fc st.heap.length (.sl (.sl (ay C.P E) Rz d' l')) (st.heap++[ax.arr E (ay C.P E) Rz d' l'])).set st.heap.length .dead=st.heap++[.dead]:=by
      rw[sN,uW Wy]
      simp[fc,oA]
     simp only[e1,e2]at hu3
     rw[az]at hr2
     have SA:dg (fun b=>(S b∨bI (a7 μ st.heap.length v' st.heap.length) b)∨bI (a7 μ st.heap.length v' id) b) w' (.sl (ay C.P E) Rz d' l') v':=by
      rw[az]
      exact hr2.stable (fun b hb _=>.inl hb) (fun _ _ _=>rfl) (Pl _)
     obtain⟨S',hR⟩:=a5.bothF (st:=st) hu3 G' Xm SA
     exact⟨v',w',S',_,RD,hR⟩
   ·exact ar hp D'
  ·exact ar hp D'
 ·exact ar hp D'
end
end Go.Proofs.Ytnlmlkbaflmgcaa
namespace Go.Proofs.Ytnlmlkbaflmgcaa
open Go.RowKit
set_option linter.unusedVariables false
set_option linter.unusedSimpArgs false
section
variable {C:li} {S:Nat→Prop} {μ:Nat→Value} {st L':St} {a:Act} {w w':World} {p:Prop}
theorem a5.ePut (h:a5 C S μ st a w) {dst:Option Nat} {d:D} {q:Prop} {u:Value} (hp:ePut C.nt st dst d q=(L',p)) (D':p) (hd:ao S μ w d u):q∧a5 C S μ L' (a.put dst u) w:=by
 unfold Proofs.Ytnlmlkbaflmgcaa.ePut at hp
 split at hp
 ·split at hp
  ·rename_i t ht
   rw[Rm]at ht
   simp only[Po]at hp
   obtain⟨rfl,rfl⟩:=hp
   exact⟨D',h.put ht hd⟩
  ·exact ar hp D'
 ·simp only[Po]at hp
  obtain⟨rfl,rfl⟩:=hp
  exact⟨D',h⟩
theorem aO.evals (h:a5 C S μ st a w) (args:Array Operand):aO S μ w (args.toList.map (eE st.env)) (args.map a.eval):=by
 refine⟨by simp,fun j y z hy hz=>?_⟩
 simp only[PE,PU,Qp]at hy hz
 cases hj:args[j]? with
 | none=>rw[hj]at hy;cases hy
 | some x=>rw[hj]at hy hz;simp at hy hz;subst hy hz;exact h.eval x
theorem aO.app {cs ds:List D} {us vs:Array Value} (h:aO S μ w cs us) (k:aO S μ w ds vs):aO S μ w (cs++ds) (us++vs):=by
 refine⟨by simp[h.1,k.1],fun j y z hy hz=>?_⟩
 by_cases hj:j<cs.length
 ·rw[Pw hj]at hy
  rw[Array.getElem?_append_left (by rw[h.1];exact hj)]at hz
  exact h.2 j y z hy hz
 ·rw[Pz (by omega)]at hy
  rw[Array.getElem?_append_right (by rw[h.1];omega),h.1]at hz
  exact k.2 _ y z hy hz
theorem bE {P:Program} {f:FuncId} (h:jh P f=true) (args:Array Value) (w:World):(callFunc f args).run P w=.ok (.enter f args) w:=by
 unfold jh at h
 cases hf:P.funcs[f]? with
 | none=>rw[hf]at h;cases h
 | some fn =>
  rw[hf]at h
  simp only[Pg,PR]at h
  have n1:fn.name ≠ "runtime.NumGoroutine" := by simpa using h.1
  have n2:fn.body≠none:=fun e=>by rw[e]at h;simp at h
  simp[callFunc,program,Sem.run,hf,n1,n2]
theorem dM {nt:Nat} {dst:Option Nat} {d:D} {q:Prop} (hp:ePut nt st dst d q=(L',p)) (D':p):q:=by
 unfold ePut at hp
 split at hp
 ·split at hp
  ·simp only[Po]at hp;rw[← hp.2]at D';exact D'
  ·exact ar hp D'
 ·simp only[Po]at hp;rw[← hp.2]at D';exact D'
theorem oD (w:World):w.grownBy w none:=⟨rfl,rfl,rfl,Pl _,fun _ _ _=>rfl⟩
theorem a5.pushFrame (h:a5 C S μ st a w) (hf:bO st.heap.length st.env=true) (hh:bL st.heap.length st.heap=true) :
  a5 C S (a7 μ st.heap.length (.bool true)) ⟨st.env,st.heap++[.frame a.tmps st.env]⟩ a w:=by
 have:=h.upd (id:=st.heap.length) (B:=.frame a.tmps st.env) (row:=none) (u:=.bool true) (oD w) (fun k hk=>by cases hk) (Pl _)
  ⟨rfl,fun t d hm=>?_⟩ (fun b hb=>by simp[bI,aM]at hb) (.inr ⟨fun A hA=>by simp at hA,hf,hh⟩)
 ·rw[show bD st.heap st.heap.length (.frame a.tmps st.env)=st.heap++[.frame a.tmps st.env]from by simp[bD]]at this
  exact this
 ·obtain⟨q1,q2⟩:=h.env t d hm
  refine⟨by rw[h.tsize];exact q1,q2.stable (fun _ h _=>h) (fun _ _ _=>rfl) (Pl _) (fun i hi=>aL _ _ (fun e=>?_))⟩
  subst e
  rw[dy hf hm]at hi
  cases hi
theorem a5.loopTo (h:a5 C S μ st a w) {id l:Nat} {tm:Array Value} {nt:Nat} {env:List (Nat×D)} {ps:List Nat} {q' bd:Code} {s:LoopState} {pe:Option Code} (G':st.heap[id]?=some (.loop l tm nt env ps q' bd s pe)) (s':LoopState) (pe':Option Code) :
  ∃r:Loop,w.heap[l]?=some (.loop r)∧r.state=s∧r.pending=pe∧r.params=ps.toArray∧r.assign=q'∧r.body=bd∧r.tmps=tm∧tm.size=nt ∧
   a5 C S μ ⟨st.env,st.heap.set id (.loop l tm nt env ps q' bd s' pe')⟩ a (w.putObj l (.loop { r with state:=s',pending:=pe' })):=by
 obtain⟨r,hμ,g1,g2,g3,g4,g5,g6,g7,g8,g9⟩:=h.heap.box id _ G'
 have RE:id<st.heap.length:=(Pf.1 G').1
 have hll:l<w.heap.size:=(Px.1 g1).1
 refine⟨r,g1,g2,g3,g4,g5,g6,g7,g8,?_⟩
 have Ut:aM (μ id)=some l:=by rw[hμ];rfl
 have Rx:bI (μ id) l:=.inl Ut
 have hg:w.grownBy (w.putObj l (.loop { r with state:=s',pending:=pe' })) (some l):=⟨rfl,rfl,rfl,by rw[Rh];exact Pl _,fun k _ hk=>QQ (fun e=>hk (by rw[e]))⟩
 have hSl:¬S l:=h.heap.notS id _ l G' rfl Rx
 have:=h.upd (id:=id) (B:=.loop l tm nt env ps q' bd s' pe') (row:=some l) (u:=μ id) hg (fun k hk=>⟨_,G',rfl,by cases hk;exact Rx⟩) (Nat.le_of_lt RE) ?_ (fun b hb=>.inl (hb.one Ut)) (.inl ⟨rfl,.inl rfl⟩)
 ·have e1:a7 μ id (μ id)=μ:=by funext i;unfold a7;split<;>simp_all
  rw[e1]at this
  have e2:bD st.heap id (.loop l tm nt env ps q' bd s' pe')=st.heap.set id (.loop l tm nt env ps q' bd s' pe'):=by
   unfold bD
   have:Nat.beq id st.heap.length=false:=by
    cases hb:Nat.beq id st.heap.length
    ·rfl
    ·rw[PC]at hb;omega
   rw[this]
   rfl
  rw[e2]at this
  exact this
 ·have e1:a7 μ id (μ id)=μ:=by funext i;unfold a7;split<;>simp_all
  rw[e1]
  refine⟨_,hμ,World.putObj_heap_same hll,rfl,rfl,g4,g5,g6,g7,g8,fun t d hm=>?_⟩
  obtain⟨q1,q2⟩:=g9 t d hm
  refine⟨q1,q2.stable (fun _ h _=>h) (fun b hb _=>QQ (fun e=>hSl (e ▸ hb))) (by rw[Rh];exact Pl _) (fun _ _=>rfl)⟩
theorem Dq {H:List ax} {n:Nat} (h:oC H[n]?=true):n<H.length∧H[n]?=some .dead:=by
 unfold oC at h
 split at h
 ·rename_i hh;exact⟨(Pf.1 hh).1,hh⟩
 ·cases h
theorem Bs {H L:List ax} {n:Nat} {F:ax} (hd:oC H[n]?=true) (ht:L.take (H.set n F).length=H.set n F):L[n]?=some F∧∀(i:Nat) (B:ax),H[i]?=some B→B=.dead∨L[i]?=some B:=by
 obtain⟨h1,h2⟩:=Dq hd
 have key:∀i,i<H.length→L[i]?=(H.set n F)[i]?:=fun i hi=>by
  rw[← ht,PK,Pn (by simpa using hi)]
 refine⟨by rw[key n h1,PB h1],fun i B hB=>?_⟩
 have hi:i<H.length:=(Pf.1 hB).1
 by_cases e:i=n
 ·subst e
  rw[h2]at hB
  cases hB
  exact .inl rfl
 ·rw[key i hi,PA (fun h=>e h.symm)]
  exact .inr hB
theorem s5 (h:a5 C S μ st a w) {dst:Option Nat} {g:FuncId} {ds:List D} {r:D} {env:List (Nat×D)} {H:List ax} {us:Array Value} (RU:∀(μ1:Nat→Value) (H1:List ax),a5 C S μ1 ⟨st.env,H1⟩ a w→aO S μ1 w ds us)
  (hp:EF C.P C.nt st dst g ds r env H=(L',p)) (D':p) {K:Act→World→Prop} (hK:∀S' μ' a' w',a5 C S' μ' L' a' w'→K a' w'):jh C.P g=true∧Calls C.P g us w (fun e w'=>∃u,e=.returned u∧K (a.put dst u) w'):=by
 unfold EF at hp
 split at hp
 ·rename_i hc
  simp only[Pg]at hc
  obtain⟨⟨⟨Uc,Sy⟩,Wy⟩,VP⟩:=hc
  refine⟨Uc,?_⟩
  obtain⟨fn,c,hf,hb,hn,hev⟩:=dM hp D' a.tmps
  rw[Qm]at hn
  have h1:=h.pushFrame Sy Wy
  obtain⟨mk,d1,d2,d3⟩:=h1.defers
  have SA:=RU _ _ h1
  let C1:li:=⟨C.P,C.W,C.S0,fn.ntmps,mk++C.susp,none,C.g⟩
  have hR:a5 C1 S (a7 μ st.heap.length (.bool true)) ⟨kV 0 ds,st.heap++[.frame a.tmps st.env]⟩ (uY us fn.ntmps) w :=
   h1.turn (C1:=C1) (mk:=mk) (mk1:=[]) d2 d3 rfl rfl rfl (sO SA.1 hn) (wz SA hn)
  refine(lq (C:=C1) hf hb rfl hR (hev C1 rfl rfl rfl) (fun e L' hq=>?_)).mono ?_
  ·cases e<;>first | exact⟨.inl rfl,hq.1⟩ | exact⟨.inr rfl,hq.1⟩ | exact hq.elim
  rintro e w' ⟨u,e0,R5,S',μ',a1,rfl,S9,hR1,hd1⟩
  refine⟨u,rfl,?_⟩
  have Tg:zy (hC C.P fn R5) r∧R5.heap.take (H.set st.heap.length (.frame a.tmps env)).length=H.set st.heap.length (.frame a.tmps env):=by
   cases e0<;>first | exact S9.2 | exact S9.elim
  obtain⟨G',V7⟩:=Bs VP Tg.2
  obtain⟨_,VY⟩:=hR1.heap.box _ _ G'
  have SD:=hR1.back (C:=C) (a:=a) (mk:=mk) rfl rfl rfl d1 h.tsize (env:=env) (fun t d hm=>by
   have:=VY t d hm
   rw[h.tsize]at this
   exact this)
  have Vq:=SD.heapTo (H:=H) V7
  exact hK _ _ _ _ (Vq.ePut hp D' (pg Tg.1 hd1)).2
 ·exact ar hp D'
theorem Dr {S:Nat→Prop} {μ:Nat→Value} {w:World} {nt:Nat}:∀(ps:List Nat) (ds:List D) (us:List Value) (env:List (Nat×D)) (tm:Array Value),ds.length=us.length→(∀(j:Nat) (y:D) (u:Value),ds[j]?=some y→us[j]?=some u→ao S μ w y u)→tm.size=nt→ps.all (fun p=>Nat.blt p nt)=true →
  (∀(t:Nat) (d:D),(t,d)∈env→t<nt∧ao S μ w d (tm.getD t undef)) →
  ((ps.zip us).foldl (fun (tmps:Array Value) (x:Nat×Value)=>tmps.setIfInBounds x.1 x.2) tm).size=nt ∧
  ∀(t:Nat) (d:D),(t,d)∈Bq ps ds env→t<nt∧ao S μ w d (((ps.zip us).foldl (fun (tmps:Array Value) (x:Nat×Value)=>tmps.setIfInBounds x.1 x.2) tm).getD t undef):=by
 intro ps
 induction ps with
 | nil=>intro ds us env tm _ _ hs _ he;exact⟨hs,fun t d hm=>he t d (by cases ds<;>exact hm)⟩
 | cons p ps ih =>
  intro ds us env tm hl hd hs hp he
  cases ds with
  | nil =>
   cases us with
   | nil=>exact⟨hs,fun t d hm=>he t d hm⟩
   | cons u us=>simp at hl
  | cons d0 ds =>
   cases us with
   | nil=>simp at hl
   | cons u us =>
    simp only[Rn,Pg,Rm]at hp
    refine ih ds us (uu env p d0) (tm.setIfInBounds p u) (by simpa using hl) (fun j y v hy hv=>hd (j+1) y v (by simpa using hy) (by simpa using hv)) (by simpa using hs) hp.2 (fun t d hm=>?_)
    rcases Qf.1 hm with hm | hm
    ·cases hm
     refine⟨hp.1,?_⟩
     have:(tm.setIfInBounds p u).getD p undef=u:=by
      have hts:p<tm.size:=by omega
      simp[hts]
     rw[this]
     exact hd 0 d0 u rfl rfl
    ·obtain⟨h1,h2⟩:=fL hm
     obtain⟨q1,q2⟩:=he t d h1
     refine⟨q1,?_⟩
     have:(tm.setIfInBounds p u).getD t undef=tm.getD t undef:=by
      simp only[P6]
      rw[Qg (fun e=>h2 e.symm)]
     rw[this]
     exact q2
theorem wG (h:a5 C S μ st a w) {o:Oper} {f:Operand} {args:Array Operand} {UC:Array TypeId} (ho:o.op=.call ⟨.value f,args,UC⟩) {id:Nat} (hf:eE st.env f=.yld id) {b:Bool} {env:List (Nat×D)} {H:List ax}
  (hp:zY C.P C.nt st o.dst id (args.toList.map (eE st.env)) b env H=(L',p)) (D':p) {K:Act→World→Prop} {Q:Exit→Act→World→Prop} (hK:∀S' μ' a' w',a5 C S' μ' L' a' w'→K a' w') :
  o.uponIn (nk C.rd) 0 C.P a K Q ((execOp a.eval o).run C.P w):=by
 unfold zY at hp
 split at hp
 ·rename_i l tm ntL V5 ps q' body G'
  split at hp
  ·rename_i hc
   simp only[Pg,PC]at hc
   obtain⟨⟨⟨⟨Sy,Wy⟩,VP⟩,Tt⟩,hps⟩:=hc
   have hq:=dM hp D' a.tmps
   have RE:id<st.heap.length:=(Pf.1 G').1
   have SS:ao S μ w (.yld id) (a.eval f):=hf ▸ h.eval f
   obtain⟨r0,hμ0,g1,g2,g3,g4,g5,g6,g7,g8,g9⟩:=h.heap.box id _ G'
   have hfe':a.eval f=.func (.yield l) #[] #[]:=by
    generalize a.eval f=uf at SS
    cases SS with
    | yld _ l' hl =>
     rw[hμ0]at hl
     simp[bI,aM]at hl
     rw[hl]
   have RB:(args.map a.eval).size=r0.params.size:=by
    rw[g4]
    simp only[Array.size_map,QL]
    simpa using Tt.symm
   have RD:(execOp a.eval o).run C.P w=.ok (.round l r0.fn ((r0.params.zip (args.map a.eval)).foldl (fun tmps (t,a)=>tmps.setIfInBounds t a) r0.tmps) r0.assign r0.body) w:=by
    have:=run_yield (P:=C.P) g1 RB
    simp[execOp,ho,resolve,hfe',Deferred.ofValue,invoke,this]
   rw[RD,Oper.uponIn_round]
   refine⟨fun hx=>(by rw[uL]at hx;cases hx),?_⟩
   have h1:=h.pushFrame Sy Wy
   have hid1:(st.heap++[ax.frame a.tmps st.env])[id]?=some (.loop l tm ntL V5 ps q' body .ready none):=by rw[Pw RE];exact G'
   obtain⟨mk,d1,d2,d3⟩:=h1.defers
   let C1:li:=⟨C.P,C.W,C.S0,ntL,mk++C.susp,some l,C.g⟩
   have hfen:(nk C.rd).inRound l=nk (some l):=by cases C.rd<;>rfl
   have hargs:=aO.evals h1 args
   obtain⟨r2,_,m1,_,_,_,_,_,m7,m8,m9⟩:=h1.heap.box id _ hid1
   have hpe:=Dr (S:=S) (w:=w) ps (args.toList.map (eE st.env)) (args.map a.eval).toList V5 tm (by simp) (fun j y u hy hu=>hargs.2 j y u hy (by simpa using hu)) g8 hps m9
   have hfold:(r0.params.zip (args.map a.eval)).foldl (fun tmps (t,a)=>tmps.setIfInBounds t a) r0.tmps=(ps.zip (args.map a.eval).toList).foldl (fun (tmps:Array Value) (x:Nat×Value)=>tmps.setIfInBounds x.1 x.2) tm:=by
    rw[← Array.foldl_toList,Array.toList_zip,g4,g7]
   rw[hfold,g5,g6]
   have h3:a5 C1 S _ ⟨Bq ps (args.toList.map (eE st.env)) V5,st.heap++[ax.frame a.tmps st.env]⟩ { tmps:=(ps.zip (args.map a.eval).toList).foldl (fun (tmps:Array Value) (x:Nat×Value)=>tmps.setIfInBounds x.1 x.2) tm,defers:=[] } w :=
    h1.turn (C1:=C1) (mk:=mk) (mk1:=[]) d2 d3 rfl rfl rfl hpe.1 hpe.2
   refine roundIn_of_wpIn (oi _ _) ?_
   rw[hfen]
   refine wpIn_mono (hq C1 rfl rfl rfl _ _ _ _ h3) ?_
   rintro e1 a1 w1 ⟨sta,Sa,μa,hqa,hRa⟩
   cases e1<;>first | exact hqa.elim | skip
   simp only[EE]at hqa
   split at hqa
   case h_2=>exact hqa.elim
   rename_i l1 tm1 nt1 env1 ps1 as1 bd1 hbxa
   obtain⟨rfl,hqb⟩:=hqa
   obtain⟨r,k1,k2,k3,k4,k5,k6,k7,k8,h2⟩:=hRa.loopTo hbxa .busy none
   have hbeg:(Instr.beginRound l1).run C.P w1=.ok () (w1.putObj l1 (.loop { r with state:=.busy,pending:=none })):=by
    rw[run_beginRound k1 k2]
    rw[show({ r with state:=.busy }:Loop)={ r with state:=.busy,pending:=none } from by rw[← k3]]
   refine⟨_,hbeg,?_⟩
   refine wpIn_mono (hqb _ _ _ _ h2) ?_
   rintro e a' w' ⟨R5,S',μ',S9,hR1⟩
   unfold ED at S9
   split at S9
   ·rename_i l2 tm2 nt2 env2 ps2 as2 bd2 s2 p2 VB
    obtain⟨rfl,WQ,TM⟩:=S9
    have WC:∀UW:Option Code,EC e=some UW.isNone→sW e=(if UW.isNone then .ready else .done)→wE e=UW→∃v w2,(Instr.endRound l2 UW).run C.P w'=.ok v w2∧K (a.put o.dst v) w2:=by
     intro UW j1 j2 j3
     obtain⟨r3,n1,n2,n3,n4,n5,n6,n7,n8,h4⟩:=hR1.loopTo VB (sW e) (wE e)
     refine⟨_,_,run_endRound UW n1,?_⟩
     obtain⟨hbf,V7⟩:=Bs VP TM
     obtain⟨_,VY⟩:=h4.heap.box _ _ hbf
     have SD:=h4.back (C:=C) (a:=a) (mk:=mk) rfl rfl rfl d1 h.tsize (env:=env) (fun t d hm=>by
      have:=VY t d hm
      rw[h.tsize]at this
      exact this)
     have Vq:=SD.heapTo (H:=H) V7
     rw[j2,j3]at Vq
     have Wx:b=UW.isNone:=by rw[WQ]at j1;exact Option.some.inj j1
     refine hK _ _ _ _ (Vq.ePut hp D' ?_).2
     rw[← Wx]
     exact .v _ _ (.bool b)
    cases e with
    | normal=>exact WC none rfl rfl rfl
    | ret=>exact WC (some .ret) rfl rfl rfl
    | exit i=>exact WC (some (.exit i)) rfl rfl rfl
    | goto i=>cases WQ
    | panic ch=>cases WQ
    | outgrown=>cases WQ
   ·exact S9.elim
  ·exact ar hp D'
 ·exact ar hp D'
end
end Go.Proofs.Ytnlmlkbaflmgcaa
namespace Go.Proofs.Ytnlmlkbaflmgcaa
open Go.RowKit
set_option linter.unusedVariables false
set_option linter.unusedSimpArgs false
def nw:List (Nat×Ov)→Nat→Ov
 | [],_=>.none
 | (j,o)::r,i=>if Nat.beq j i then o else nw r i
def fU (ops:List Oper) (st:St) (o:Oper):Option Bool :=
 match o.guard with
 | none=>some true
 | some (g,Ss)=>match (ops[g]?).bind (·.dst)with
  | some t=>match nJ st.env t with
   | .v (.bool b)=>some (b==Ss)
   | .tup []=>some false
   | _=>none
  | none=>none
def lx (nt:Nat) (st:St) (dst:Option Nat):R2:=ePut nt st dst (.tup []) True
def cY (P:Program) (nt:Nat) (ops:List Oper) (RI:List (Nat×Ov)):Nat→List Oper→St→R2
 | _,[],st=>(st,True)
 | i,o::r,st=>match fU ops st o with
  | some true=>match nP P nt (nw RI i) o st with
   | (R5,p1)=>match cY P nt ops RI (i+1) r R5 with
    | (Va,p2)=>(Va,p1∧p2)
  | some false=>match lx nt st o.dst with
   | (R5,p1)=>match cY P nt ops RI (i+1) r R5 with
    | (Va,p2)=>(Va,p1∧p2)
  | none=>aW st
def EK:List (Nat×D)→Nat→Bool
 | [],_=>false
 | (s,_)::r,t=>Nat.beq s t||EK r t
def ly (keep:List Nat) (env:List (Nat×D)):List (Nat×D) :=
 match keep with
 | []=>[]
 | t::r=>if EK env t then (t,nJ env t)::ly r env else ly r env
theorem s6:∀{env:List (Nat×D)} {t:Nat},EK env t=true→∃e,(t,e)∈env
 | (s,e)::r,t,h=>by
  unfold EK at h
  cases hs:Nat.beq s t
  ·rw[hs,Bool.false_or]at h
   obtain⟨e',h'⟩:=s6 h
   exact⟨e',PN _ h'⟩
  ·rw[PC]at hs
   subst hs
   exact⟨e,PT ..⟩
theorem qg {env:List (Nat×D)}:∀{keep:List Nat} {t:Nat} {d:D},(t,d)∈ly keep env→d=.junk∧(∃e,(t,e)∈env)∨(t,d)∈env
 | [],t,d,h=>by cases h
 | s::r,t,d,h=>by
  unfold ly at h
  split at h
  ·rename_i hh
   rcases Qf.1 h with h | h
   ·cases h
    rcases qb (env:=env) (t:=s)with h1 | h1
    ·exact .inl ⟨h1,s6 hh⟩
    ·exact .inr h1
   ·exact qg h
  ·exact qg h
section
variable {C:li} {S:Nat→Prop} {μ:Nat→Value} {st L':St} {a:Act} {w w':World} {p:Prop}
theorem xW (h:a5 C S μ st a w) {ov:Ov} {o:Oper} {f:Operand} {args:Array Operand} {UC:Array TypeId} (ho:o.op=.call ⟨.value f,args,UC⟩)
  (hp:EI C.P C.nt st ov o.dst (eE st.env f) (args.toList.map (eE st.env))=(L',p)) (D':p) {K:Act→World→Prop} {Q:Exit→Act→World→Prop} (hK:∀S' μ' a' w',a5 C S' μ' L' a' w'→K a' w') :
  o.uponIn (nk C.rd) 0 C.P a K Q ((execOp a.eval o).run C.P w):=by
 unfold EI at hp
 split at hp
 ·rename_i g first cap hf
  have SS:=hf ▸ h.eval f
  split at hp
  ·rename_i q' al r
   split at hp
   ·rename_i hc
    simp only[Pg,PS,PR]at hc
    obtain⟨⟨Uc,hr⟩,Sb⟩:=hc
    have SF:=aO.evals h args
    refine jf ?_
    generalize Sy:a.eval f=uf at SS
    cases SS with
    | fn _ _ _ us vs h1 h2 h3 h4 =>
     have RD:(execOp a.eval o).run C.P w=.ok (.enter g (us++args.map a.eval++vs)) w:=by
      simp[execOp,ho,resolve,Sy,Deferred.ofValue,invoke,bE Uc]
     rw[RD,Q6]
     have hall:aO S μ w (first++args.toList.map (eE st.env)++cap) (us++args.map a.eval++vs):=(aO.app (aO.app ⟨h1,h2⟩ SF) ⟨h3,h4⟩)
     have hq:oz C.P g st.heap (first++args.toList.map (eE st.env)++cap) q' al r:=dM hp D'
     refine(h.callPure hq hall Sb hr (K:=fun u w'=>K (a.put o.dst u) w') ?_).mono ?_
     ·intro S' u w' hR hd
      exact hK _ _ _ _ (hR.ePut hp D' hd).2
     ·rintro e w' ⟨u,rfl,hu⟩
      exact hu
   ·exact ar hp D'
  ·rename_i id q' r
   split at hp
   ·rename_i hc
    simp only[Pg]at hc
    obtain⟨Uc,hr⟩:=hc
    have SF:=aO.evals h args
    refine jf ?_
    generalize Sy:a.eval f=uf at SS
    cases SS with
    | fn _ _ _ us vs h1 h2 h3 h4 =>
     have RD:(execOp a.eval o).run C.P w=.ok (.enter g (us++args.map a.eval++vs)) w:=by
      simp[execOp,ho,resolve,Sy,Deferred.ofValue,invoke,bE Uc]
     rw[RD,Q6]
     have hall:aO S μ w (first++args.toList.map (eE st.env)++cap) (us++args.map a.eval++vs):=(aO.app (aO.app ⟨h1,h2⟩ SF) ⟨h3,h4⟩)
     have hq:ka C.P g st.heap (first++args.toList.map (eE st.env)++cap) id q' r:=dM hp D'
     refine(h.callR hq hall hr (K:=fun u w'=>K (a.put o.dst u) w') ?_).mono ?_
     ·intro S' u w' hR hd
      exact hK _ _ _ _ (hR.ePut hp D' hd).2
     ·rintro e w' ⟨u,rfl,hu⟩
      exact hu
   ·exact ar hp D'
  ·rename_i q' al r
   split at hp
   ·rename_i hc
    simp only[Pg,PS,PR]at hc
    obtain⟨hr,Sb⟩:=hc
    have Uc:=(dM hp D').1
    have SF:=aO.evals h args
    refine jf ?_
    generalize Sy:a.eval f=uf at SS
    cases SS with
    | fn _ _ _ us vs h1 h2 h3 h4 =>
     have RD:(execOp a.eval o).run C.P w=.ok (.enter g (us++args.map a.eval++vs)) w:=by
      simp[execOp,ho,resolve,Sy,Deferred.ofValue,invoke,bE Uc]
     rw[RD,Q6]
     have hall:aO S μ w (first++args.toList.map (eE st.env)++cap) (us++args.map a.eval++vs):=(aO.app (aO.app ⟨h1,h2⟩ SF) ⟨h3,h4⟩)
     have hq:oz C.P g st.heap (first++args.toList.map (eE st.env)++cap) q' al r:=(dM hp D').2
     refine(h.callPure hq hall Sb hr (K:=fun u w'=>K (a.put o.dst u) w') ?_).mono ?_
     ·intro S' u w' hR hd
      exact hK _ _ _ _ (hR.ePut hp D' hd).2
     ·rintro e w' ⟨u,rfl,hu⟩
      exact hu
   ·exact ar hp D'
  ·rename_i r env H
   generalize Sy:a.eval f=uf at SS
   cases SS with
   | fn _ _ _ us vs h1 h2 h3 h4 =>
    have hs:=s5 (us:=us++args.map a.eval++vs) h (fun μ1 H1 h'=>by
     have V8:ao S μ1 w (.fn (.func g) first cap) (a.eval f):=hf ▸ h'.eval f
     rw[Sy]at V8
     cases V8 with
     | fn _ _ _ _ _ q1 q2 q3 q4=>exact aO.app (aO.app ⟨q1,q2⟩ (aO.evals h' args)) ⟨q3,q4⟩) hp D' (K:=K) hK
    have RD:(execOp a.eval o).run C.P w=.ok (.enter g (us++args.map a.eval++vs)) w:=by
     simp[execOp,ho,resolve,Sy,Deferred.ofValue,invoke,bE hs.1]
    refine jf ?_
    rw[RD,Q6]
    refine hs.2.mono ?_
    rintro e w' ⟨u,rfl,hu⟩
    exact hu
  ·rename_i r
   obtain⟨p',SO,hob'⟩:=EH hp D'
   generalize Sy:a.eval f=uf at SS
   cases SS with
   | fn _ _ _ us vs h1 h2 h3 h4 =>
    have hs:=s5 (us:=us++args.map a.eval++vs) h (fun μ1 H1 h'=>by
     have V8:ao S μ1 w (.fn (.func g) first cap) (a.eval f):=hf ▸ h'.eval f
     rw[Sy]at V8
     cases V8 with
     | fn _ _ _ _ _ q1 q2 q3 q4=>exact aO.app (aO.app ⟨q1,q2⟩ (aO.evals h' args)) ⟨q3,q4⟩) SO hob' (K:=K) hK
    have RD:(execOp a.eval o).run C.P w=.ok (.enter g (us++args.map a.eval++vs)) w:=by
     simp[execOp,ho,resolve,Sy,Deferred.ofValue,invoke,bE hs.1]
    refine jf ?_
    rw[RD,Q6]
    refine hs.2.mono ?_
    rintro e w' ⟨u,rfl,hu⟩
    exact hu
  ·rename_i q' r B
   split at hp
   ·rename_i hc
    simp only[Pg]at hc
    obtain⟨⟨⟨Uc,hr⟩,hfe1⟩,Wy⟩:=hc
    have SF:=aO.evals h args
    refine jf ?_
    generalize Sy:a.eval f=uf at SS
    cases SS with
    | fn _ _ _ us vs h1 h2 h3 h4 =>
     have RD:(execOp a.eval o).run C.P w=.ok (.enter g (us++args.map a.eval++vs)) w:=by
      simp[execOp,ho,resolve,Sy,Deferred.ofValue,invoke,bE Uc]
     rw[RD,Q6]
     have hall:aO S μ w (first++args.toList.map (eE st.env)++cap) (us++args.map a.eval++vs):=(aO.app (aO.app ⟨h1,h2⟩ SF) ⟨h3,h4⟩)
     have hq:wA C.P g st.heap (first++args.toList.map (eE st.env)++cap) q' r B:=dM hp D'
     refine(h.callOwn hq hall hr hfe1 Wy (K:=fun u w'=>K (a.put o.dst u) w') ?_).mono ?_
     ·intro S' μ' u w' hR hd
      exact hK _ _ _ _ (hR.ePut hp D' hd).2
     ·rintro e w' ⟨u,rfl,hu⟩
      exact hu
   ·exact ar hp D'
  ·rename_i q' r B
   split at hp
   ·rename_i hc
    simp only[Pg]at hc
    obtain⟨⟨⟨Uc,hr,W5,SM⟩,hfe1⟩,Wy⟩:=hc
    have SF:=aO.evals h args
    refine jf ?_
    generalize Sy:a.eval f=uf at SS
    cases SS with
    | fn _ _ _ us vs h1 h2 h3 h4 =>
     have RD:(execOp a.eval o).run C.P w=.ok (.enter g (us++args.map a.eval++vs)) w:=by
      simp[execOp,ho,resolve,Sy,Deferred.ofValue,invoke,bE Uc]
     rw[RD,Q6]
     have hall:aO S μ w (first++args.toList.map (eE st.env)++cap) (us++args.map a.eval++vs):=(aO.app (aO.app ⟨h1,h2⟩ SF) ⟨h3,h4⟩)
     have hq:rU C.P g st.heap (first++args.toList.map (eE st.env)++cap) q' r B:=dM hp D'
     refine(h.callDeep hq hall hr W5 SM hfe1 Wy (K:=fun u w'=>K (a.put o.dst u) w') ?_).mono ?_
     ·intro S' μ' u w' hR hd
      exact hK _ _ _ _ (hR.ePut hp D' hd).2
     ·rintro e w' ⟨u,rfl,hu⟩
      exact hu
   ·exact ar hp D'
  ·exact ar hp D'
 ·rename_i id hf
  split at hp
  ·exact wG h ho hf hp D' hK
  ·exact ar hp D'
 ·exact ar hp D'
theorem lz (k:Int):∀(arr:List MapEntry) (es:List (Int×Value)) (n j:Nat) (e:Int×Value),arr.map (fun e=>(e.key,e.val))=es.map (fun e=>(Value.int .i64 e.1,e.2))→es[j]?=some e→k=e.1→(∀e'∈es.take j,k≠e'.1) →
  Instr.findNow (.int .i64) (.int .i64 k) arr n=some (some (n+j,e.2))
 | [],es,n,j,e,h,he,_,_=>by
  have:es=[]:=by simpa using h.symm
  rw[this]at he;simp at he
 | a::arr,[],n,j,e,h,he,_,_=>by simp at he
 | a::arr,x::es,n,0,e,h,he,hk,_=>by
  simp only[Qe,Qj,Po]at h
  simp at he
  subst he
  unfold Instr.findNow
  rw[h.1.1,h.1.2]
  simp[Instr.sameNow,hk]
 | a::arr,x::es,n,j+1,e,h,he,hk,ha=>by
  simp only[Qe,Qj,Po]at h
  have Sm:k≠x.1:=ha x (by simp)
  unfold Instr.findNow
  rw[h.1.1]
  have:(k==x.1)=false:=beq_eq_false_iff_ne.2 Sm
  simp only[Instr.sameNow,this,Q7]
  rw[lz k arr es (n+1) j e h.2 (by simpa using he) hk (fun e' U6=>ha e' (by simp[U6])),show n+1+j=n+(j+1)from by omega]
theorem pm (k:Int):∀(arr:List MapEntry) (es:List (Int×Value)) (n:Nat),arr.map (fun e=>(e.key,e.val))=es.map (fun e=>(Value.int .i64 e.1,e.2))→(∀e'∈es,k≠e'.1)→Instr.findNow (.int .i64) (.int .i64 k) arr n=some none
 | [],es,n,h,_=>by simp[Instr.findNow]
 | a::arr,[],n,h,_=>by simp at h
 | a::arr,x::es,n,h,ha=>by
  simp only[Qe,Qj,Po]at h
  have Sm:k≠x.1:=ha x (by simp)
  unfold Instr.findNow
  rw[h.1.1]
  have:(k==x.1)=false:=beq_eq_false_iff_ne.2 Sm
  simp only[Instr.sameNow,this,Q7]
  exact pm k arr es (n+1) h.2 (fun e' U6=>ha e' (by simp[U6]))
theorem oE {P:Program} {w:World} {t K E:TypeId} {b clock:Nat} {arr:Array MapEntry} {n:Int} (ht:P.underlying t=some (.map K E)) (hK:P.underlying K=some (.int .i64)) (hb:w.heap[b]?=some (.map arr clock)) {r:Option (Nat×Value)} (hf:Instr.findNow (.int .i64) (.int .i64 n) arr.toList 0=some r) {z:Value} (hz:r=none→(zeroValue E).run P w=.ok z w) :
  (Instr.lookup t (.map (some b)) (.int .i64 n) true).run P w=.ok (.tuple #[match r with | some (_,v)=>v | none=>z,.bool r.isSome]) w:=by
 have hu:(underlying t).run P w=.ok (.map K E) w:=by simp[underlying,ht,Pm,Sem.run]
 have SN:(underlying K).run P w=.ok (.int .i64) w:=by simp[underlying,hK,Pm,Sem.run]
 have hg:(getObj b).run P w=.ok (.map arr clock) w:=by simp[getObj,Sem.run,hb]
 have hc:(Instr.checkKey arr.isEmpty 10000 K (.int .i64 n)).run P w=.ok () w:=by
  rw[show(10000:Nat)=9999+1 from rfl]
  unfold Instr.checkKey
  simp[Pm,SN]
 have hk:(Instr.findKey K (.int .i64 n) arr.toList).run P w=.ok r w:=by
  simp[Instr.findKey,Pm,SN,hf]
 cases r with
 | some q =>
  obtain⟨i,v⟩:=q
  simp[Instr.lookup,Pm,hu,hg,hc,hk]
 | none =>
  simp[Instr.lookup,Pm,hu,hg,hc,hk,hz rfl]
theorem nQ {P:Program} {w:World} {t K E:TypeId} {b clock:Nat} {arr:Array MapEntry} {k:ByteArray} {v:Value} (ht:P.underlying t=some (.map K E)) (hK:P.underlying K=some .string) (hb:w.heap[b]?=some (.map arr clock)) {r:Option (Nat×Value)} (hf:Instr.findNow .string (.string k) arr.toList 0=some r)
  (hr:∀i u,r=some (i,u)→∃e,arr[i]?=some e∧e.key=.string k) :
  (Instr.mapUpdate t (.map (some b)) (.string k) v).run P w=.ok () (w.putObj b (match r with | some (i,_)=>.map (arr.modify i fun e=>{ e with key:=.string k,val:=v }) clock | none=>.map (arr.push ⟨.string k,v,clock⟩) (clock+1))):=by
 have hu:(underlying t).run P w=.ok (.map K E) w:=by simp[underlying,ht,Pm,Sem.run]
 have SN:(underlying K).run P w=.ok .string w:=by simp[underlying,hK,Pm,Sem.run]
 have hg:(getObj b).run P w=.ok (.map arr clock) w:=by simp[getObj,Sem.run,hb]
 have hc:(Instr.checkKey false 10000 K (.string k)).run P w=.ok () w:=by
  rw[show(10000:Nat)=9999+1 from rfl]
  unfold Instr.checkKey
  simp[Pm,SN]
 have hk:(Instr.findKey K (.string k) arr.toList).run P w=.ok r w:=by
  simp[Instr.findKey,Pm,SN,hf]
 have hs:∀o:Obj,(setObj b o).run P w=.ok () (w.putObj b o):=by
  intro o
  unfold setObj Sem.run
  rw[hb]
  rfl
 cases r with
 | some q =>
  obtain⟨i,u⟩:=q
  obtain⟨e,he,hek⟩:=hr i u rfl
  have Uk:(Instr.keyThatStays (((arr[i]?).map (·.key)).getD (.string k)) (.string k)).run P w=.ok (.string k) w:=by
   rw[he]
   simp only[PY,Rk,hek]
   unfold Instr.keyThatStays
   rw[Pn (by show(k==k)=true;rw[Ox];exact Pq rfl)]
   rfl
  simp only[Instr.mapUpdate,Pm,hu,hg,hc,hk,Pk,Uk,hs]
 | none =>
  simp only[Instr.mapUpdate,Pm,hu,hg,hc,hk,Pk,hs]
theorem zZ {ag:Bool} {x:D} {vs:List V} {u:Value} (h:zX ag x=some vs) (hx:ao S μ w x u):(ag=false→vs.length=1)∧ao S μ w (fF ag vs) u:=by
 unfold zX at h
 cases ag
 ·simp only[Qc,QY]at h
  cases hv:Ld x with
  | none=>rw[hv]at h;cases h
  | some v =>
   rw[hv]at h
   cases h
   exact⟨fun _=>rfl,.v _ _ (rV hv hx)⟩
 ·simp only[Q7]at h
  split at h
  ·rename_i ds
   obtain⟨us,rfl,h1,h2⟩:=dH hx
   obtain⟨q1,q2⟩:=lv h
   refine⟨(fun h=>by cases h),?_⟩
   show ao S μ w (.agg (vs.map D.v)) _
   refine .agg _ _ (by rw[Py,← q1];exact h1) (fun j y u hy hu=>?_)
   obtain⟨v,hv,rfl⟩:=dK hy
   obtain⟨d,hd,hdv⟩:=q2 j v hv
   exact .v _ _ (rV hdv (h2 j d u hd hu))
  ·cases h
theorem uw (h:a5 C S μ st a w) {ov:Ov} {t:TypeId} {m k x:D} {um uk ux:Value} (hm:ao S μ w m um) (hk:ao S μ w k uk) (hx:ao S μ w x ux) (hp:wD C.P st ov t m k x=(L',p)) (D':p) :
  ∃w',(Instr.mapUpdate t um uk ux).run C.P w=.ok () w'∧a5 C S μ L' a w':=by
 unfold wD at hp
 split at hp
 ·rename_i K E id ks hu
  split at hp
  ·rename_i t' ag α enc d l t2 ag2 β S5 d2 l2 hK G'
   split at hp
   ·rename_i vs Tf
    split at hp
    ·rename_i hc
     simp only[Pg,PC,beq_iff_eq]at hc
     obtain⟨⟨rfl,rfl⟩,rfl⟩:=hc
     simp only[Po]at hp
     obtain⟨rfl,rfl⟩:=hp
     have e1:=bA hm
     have e2:=fl hk
     subst e1 e2
     obtain⟨b,arr,clock,hmu,hb,UV⟩:=h.heap.box id _ G'
     obtain⟨m1,m2⟩:=uS UV
     obtain⟨x1,x2⟩:=zZ Tf hx
     have Ut:aM (μ id)=some b:=by rw[hmu];rfl
     have Rx:bI (μ id) b:=.inl Ut
     have RE:id<st.heap.length:=(Pf.1 G').1
     have key:∀(o:Obj) (UX:Array MapEntry) (TN:Nat),o=.map UX TN→(UX.size=(dJ (l.map fun p=>(p.1,enc p.2)) ks vs).length) →
       (∀(i:Nat) (k':ByteArray) (y:List V),(dJ (l.map fun p=>(p.1,enc p.2)) ks vs)[i]?=some (k',y)→∃e,UX[i]?=some e∧e.key=.string k'∧(ag=false→y.length=1)∧ao S μ w (fF ag y) e.val) →
       a5 C S μ ⟨st.env,st.heap.set id (.mpb t ag S5 d2 l2)⟩ a (w.putObj b o):=by
      intro o UX TN ho hl hh
      subst ho
      have TU:∀k,S k→k<w.heap.size→(w.putObj b (.map UX TN)).heap[k]?=w.heap[k]?:=fun k hk _=>QQ (fun e=>h.heap.notS id _ b G' rfl Rx (e ▸ hk))
      have hu:=h.upd (id:=id) (u:=μ id) (B:=.mpb t ag S5 d2 l2) (row:=some b) (w':=w.putObj b (.map UX TN)) ⟨rfl,rfl,rfl,by rw[Rh];exact Pl _,fun k hk Xd=>QQ (fun e=>Xd (by rw[e]))⟩
       (fun k hk=>⟨_,G',rfl,by cases hk;exact Rx⟩) (by omega) ?_ (fun k hk=>.inl (hk.one Ut)) (.inl ⟨rfl,.inl rfl⟩)
      ·rw[dz]at hu
       have he:bD st.heap id (.mpb t ag S5 d2 l2)=st.heap.set id (.mpb t ag S5 d2 l2):=by
        unfold bD
        rw[Pj (by rw[PC];omega)]
       rwa [he]at hu
      ·rw[dz]
       refine⟨b,UX,TN,hmu,World.putObj_heap_same (Px.1 hb).1,by rw[hl,D',Py],fun i k' y hy=>?_⟩
       have hy2:(dJ (l.map fun p=>(p.1,enc p.2)) ks vs)[i]?=some (k',S5 y):=by rw[D',PE,hy,PY]
       obtain⟨e,q1,q2,q3,q4⟩:=hh i k' _ hy2
       exact⟨e,q1,q2,q3,q4.stable (fun _ h _=>h) TU (by rw[Rh];exact Pl _) (fun id hf=>by rw[uM]at hf)⟩
     have m3:∀(i:Nat) (k':ByteArray) (y:List V),(l.map fun p=>(p.1,enc p.2))[i]?=some (k',y)→∃e,arr.toList[i]?=some e∧e.key=.string k'∧((ag=false→y.length=1)∧ao S μ w (fF ag y) e.val):=by
      intro i k' y hy
      rw[PE]at hy
      cases hc:l[i]? with
      | none=>rw[hc]at hy;cases hy
      | some q =>
       rw[hc]at hy
       cases hy
       exact m2 i q.1 q.2 hc
     rw[hmu]
     rcases Eu (R:=fun y v=>(ag=false→y.length=1)∧ao S μ w (fF ag y) v) [] ks (l.map fun p=>(p.1,enc p.2)) arr.toList 0 (by rw[m1,Py]) m3 with ⟨h1,h0,h2,h3⟩ | ⟨h1,i,e,y,h2,h3,h4,h5,h6,h7,h8⟩
     ·refine⟨_,nQ hu hK hb h2 (fun i u hh=>by cases hh),key _ _ _ rfl ?_ ?_⟩
      ·rw[h3,Array.size_push,PG,Py]
       simpa using m1
      ·intro i k' y hy
       rw[h3]at hy
       by_cases hi:i<l.length
       ·rw[Pw (by rw[Py];exact hi)]at hy
        obtain⟨e,q1,q2,q3⟩:=m3 i k' y hy
        refine⟨e,?_,q2,q3⟩
        rw[Array.getElem?_push,Pj (by have h99:arr.size=l.length:=(by simpa using m1);omega)]
        simpa using q1
       ·rw[Pz (by rw[Py];omega)]at hy
        have hi0:i-(l.map fun p=>(p.1,enc p.2)).length=0:=by
         rcases Nat.eq_zero_or_pos (i-(l.map fun p=>(p.1,enc p.2)).length)with h | h
         ·exact h
         ·rw[P2 (by simp;rw[Py]at h;omega)]at hy;cases hy
        rw[hi0]at hy
        cases hy
        have SK:i=arr.size:=by rw[Py]at hi0;have h98:arr.size=l.length:=(by simpa using m1);omega
        exact⟨_,by rw[Array.getElem?_push,Pn SK],rfl,x1,x2⟩
     ·have hia:i<arr.size:=by have:=(Pf.1 h3).1;simpa using this
      refine⟨_,nQ hu hK hb h6 (fun i' u hh=>by cases hh;exact⟨e,by simpa using h3,h4⟩),key _ _ _ rfl ?_ ?_⟩
      ·rw[h8,PO,Py]
       simpa using m1
      ·intro j k' y' hy
       rw[h8,Q4]at hy
       rw[PX,Array.getElem?_modify]
       by_cases hij:i=j
       ·subst hij
        rw[Pn rfl,Pn (Pf.1 h2).1]at hy
        cases hy
        rw[Pn rfl,show arr[i]?=some e by simpa using h3]
        exact⟨_,rfl,rfl,x1,x2⟩
       ·rw[Pj hij]at hy
        rw[Pj hij]
        obtain⟨e',q1,q2,q3⟩:=m3 j k' y' hy
        exact⟨e',by simpa using q1,q2,q3⟩
    ·exact ar hp D'
   ·exact ar hp D'
  ·exact ar hp D'
 ·exact ar hp D'
theorem lC (h:a5 C S μ st a w) {ov:Ov} {o:Oper} (hp:nP C.P C.nt ov o st=(L',p)) (D':p) {K:Act→World→Prop} {Q:Exit→Act→World→Prop}
  (hK:∀S' μ' a' w',a5 C S' μ' L' a' w'→K a' w'):o.uponIn (nk C.rd) 0 C.P a K Q ((execOp a.eval o).run C.P w):=by
 have hv:∀(s:Sem Value) (u:Value) (w':World),s.run C.P w=.ok u w'→(do pure (.value (← s)):Sem Next).run C.P w=.ok (.value u) w':=by
  intro s u w' h
  simp only[Pm,h,Pk,PF]
 have val:∀(u:Value) (w':World) (μ':Nat→Value),(execOp a.eval o).run C.P w=.ok (.value u) w'→a5 C S μ' L' (a.put o.dst u) w'→o.uponIn (nk C.rd) 0 C.P a K Q ((execOp a.eval o).run C.P w):=by
  intro u w' μ' hr hR
  rw[hr,Oper.uponIn_value]
  exact hK _ _ _ _ hR
 have Xn:sX C.nt st ov o.dst (fK C.P st.heap (eE st.env) o.op)=(L',p)→o.uponIn (nk C.rd) 0 C.P a K Q ((execOp a.eval o).run C.P w):=by
  intro hp
  generalize hq:fK C.P st.heap (eE st.env) o.op=q at hp
  obtain⟨d,q⟩:=q
  unfold sX at hp
  split at hp
  ·rename_i d' _
   have hqq:q∧zy d d':=by
    unfold ePut at hp
    split at hp
    ·split at hp
     ·simp only[Po]at hp;rw[← hp.2]at D';exact D'
     ·exact ar hp D'
    ·simp only[Po]at hp;rw[← hp.2]at D';exact D'
   obtain⟨u,h1,h2⟩:=gZ h.heap h.eval hq hqq.1
   exact val u w μ h1 (h.ePut hp D' (pg hqq.2 h2)).2
  ·rename_i d' _
   have hqq:q∧cA d d':=by
    unfold ePut at hp
    split at hp
    ·split at hp
     ·simp only[Po]at hp;rw[← hp.2]at D';exact D'
     ·exact ar hp D'
    ·simp only[Po]at hp;rw[← hp.2]at D';exact D'
   obtain⟨u,h1,h2⟩:=gZ h.heap h.eval hq hqq.1
   exact val u w μ h1 (h.ePut hp D' (hqq.2 _ _ _ _ h2)).2
  ·have hqq:q:=by
    unfold ePut at hp
    split at hp
    ·split at hp
     ·simp only[Po]at hp;rw[← hp.2]at D';exact D'
     ·exact ar hp D'
    ·simp only[Po]at hp;rw[← hp.2]at D';exact D'
   obtain⟨u,h1,h2⟩:=gZ h.heap h.eval hq hqq
   exact val u w μ h1 (h.ePut hp D' h2).2
 unfold nP at hp
 split at hp
 ·rename_i T ho
  split at hp
  ·rename_i z hz
   obtain⟨v,TW,Ul⟩:=gt (P:=C.P) (S:=S) (μ:=μ) (w:=w) hz
   refine val _ _ _ ?_ (h.eVar hp D' Ul)
   simp[execOp,ho,Instr.alloc,Pm,TW,newVar,newRow,newObj,Sem.run]
  ·exact ar hp D'
 ·rename_i T x ho
  split at hp
  ·rename_i cs hcs
   refine val _ _ _ ?_ (h.eVar hp D' (gY h.heap (h.eval x) hcs))
   simp[execOp,ho,Instr.box,newVar,newRow,newObj,Sem.run]
  ·exact ar hp D'
 ·rename_i t ad x ho
  split at hp
  ·rename_i hd
   obtain⟨w',h1,h2⟩:=pk h (h.eval ad) (h.eval x) hp D'
   have hr:(execOp a.eval o).run C.P w=.ok .skip w':=by
    simp only[execOp,ho,Pm,h1,Pk,PF]
   rw[hr,Oper.uponIn_skip,hd]
   exact hK _ _ _ _ h2
  ·exact ar hp D'
 ·rename_i t len M' ho
  have TG:∀(ov:Ov) (R5:St) (p1:Prop),qe C.P C.nt st ov o.dst t len (M'.toList.map fun p=>(p.1,eE st.env p.2))=(R5,p1)→p1→∃u w' μ',(execOp a.eval o).run C.P w=.ok (.value u) w'∧a5 C S μ' R5 (a.put o.dst u) w':=by
   intro ov R5 p1 hp D'
   obtain⟨u,w',μ',h1,h2⟩:=wF h (Ry:=M'.toList.map fun p=>(p.1,a.eval p.2)) (by simp) (fun j x u hx hu=>by
    simp only[PE,PU]at hx hu
    cases hj:M'[j]? with
    | none=>rw[hj]at hx;cases hx
    | some q=>rw[hj]at hx hu;simp at hx hu;subst hx hu;exact h.eval q.2) hp D'
   refine⟨u,w',μ',?_,h2⟩
   have he:M'.map (fun (i,x)=>(i,a.eval x))=(M'.toList.map fun p=>(p.1,a.eval p.2)).toArray:=Q2 (by simp)
   rw[← he]at h1
   simp only[execOp,ho,Pm,h1,Pk,PF]
  split at hp
  ·generalize hq:qe C.P C.nt st _ o.dst t len _=q at hp
   obtain⟨R5,p1⟩:=q
   simp only at hp
   split at hp
   ·rename_i Va hfz
    simp only[Po]at hp
    obtain⟨rfl,rfl⟩:=hp
    obtain⟨u,w',μ',e1,e2⟩:=TG _ _ _ hq D'
    obtain⟨S2,e3⟩:=e2.freeze hfz
    rw[e1,Oper.uponIn_value]
    exact hK _ _ _ _ e3
   ·exact ar hp D'
  ·obtain⟨u,w',μ',e1,e2⟩:=TG _ _ _ hp D'
   exact val u w' μ' e1 e2
 ·rename_i t l c ho
  have TG:∀(ov:Ov) (R5:St) (p1:Prop),u3 C.P C.nt st ov o.dst t (eE st.env l) (eE st.env c)=(R5,p1)→p1→∃u w' μ',(execOp a.eval o).run C.P w=.ok (.value u) w'∧a5 C S μ' R5 (a.put o.dst u) w':=by
   intro ov R5 p1 hp D'
   obtain⟨u,w',μ',h1,h2⟩:=xV h (h.eval l) (h.eval c) hp D'
   refine⟨u,w',μ',?_,h2⟩
   simp only[execOp,ho,Pm,h1,Pk,PF]
  split at hp
  ·generalize hq:u3 C.P C.nt st _ o.dst t _ _=q at hp
   obtain⟨R5,p1⟩:=q
   simp only at hp
   split at hp
   ·rename_i Va hfz
    simp only[Po]at hp
    obtain⟨rfl,rfl⟩:=hp
    obtain⟨u,w',μ',e1,e2⟩:=TG _ _ _ hq D'
    obtain⟨S2,e3⟩:=e2.freeze hfz
    rw[e1,Oper.uponIn_value]
    exact hK _ _ _ _ e3
   ·exact ar hp D'
  ·obtain⟨u,w',μ',e1,e2⟩:=TG _ _ _ hp D'
   exact val u w' μ' e1 e2
 ·rename_i args UC ho
  split at hp
  ·rename_i s x t t' ha ht
   split at hp
   ·rename_i hc
    rw[PC]at hc
    subst hc
    have ea:args=#[s,x]:=Q2 (by simpa using ha)
    have et:UC=#[t,t]:=Q2 (by simpa using ht)
    subst ea et
    split at hp
    ·obtain⟨u,w',S',μ',h1,h2⟩:=s4 h (ty:=o.type) (h.eval s) (h.eval x) hp D'
     have hr:(execOp a.eval o).run C.P w=.ok (.value u) w':=by
      simp only[execOp,ho,resolve,invoke,builtin,QU,Qe,QJ,Pm,PF,Pk,h1]
     rw[hr,Oper.uponIn_value]
     exact hK _ _ _ _ h2
    ·obtain⟨u,w',μ',h1,h2⟩:=sZ h (ty:=o.type) (h.eval s) (h.eval x) hp D'
     refine val u w' μ' ?_ h2
     simp only[execOp,ho,resolve,invoke,builtin,QU,Qe,QJ,Pm,PF,Pk,h1]
    ·obtain⟨u,w',μ',h1,h2⟩:=uv h (ty:=o.type) (h.eval s) (h.eval x) hp D'
     refine val u w' μ' ?_ h2
     simp only[execOp,ho,resolve,invoke,builtin,QU,Qe,QJ,Pm,PF,Pk,h1]
   ·exact ar hp D'
  ·exact ar hp D'
 ·rename_i f args UC ho
  exact xW h ho hp D' hK
 ·rename_i t x ix ho
  split at hp
  ·rename_i i
   unfold Bp at hp
   generalize hx:eE st.env x=dx at hp
   generalize hix:eE st.env ix=dix at hp
   split at hp
   ·rename_i K E es k n hu
    split at hp
    ·rename_i hK2
     have hxr:=h.eval x
     have hir:=h.eval ix
     rw[hx]at hxr
     rw[hix]at hir
     have hiv:a.eval ix=.int .i64 n:=(show ∀u,dg S w (.int .i64 n) u→u=.int .i64 n from fun u h=>by cases h;rfl) _ (bn hir)
     obtain⟨b,clock,arr,e1,e2,e3⟩:∃(b clock:Nat) (arr:Array MapEntry),a.eval x=.map (some b)∧w.heap[b]?=some (.map arr clock)∧arr.toList.map (fun e=>(e.key,e.val))=es.map (fun e=>(Value.int .i64 e.1,e.2)):=by
      have:=bn hxr
      generalize a.eval x=u at this
      cases this with
      | mp _ b clock arr q1 q2 q3 q4=>exact⟨b,clock,arr,rfl,q3,q4⟩
     split at hp
     ·rename_i j
      split at hp
      ·rename_i e he
       have hq:=dM hp D'
       have hr:=oE hu hK2 e2 (lz n arr.toList es 0 j e e3 he hq.1 hq.2) (z:=undef) (fun h=>by cases h)
       refine val (.tuple #[e.2,.bool true]) w μ ?_ (h.ePut hp D' (.tup _ _ rfl (fun i y u hy hu=>?_))).2
       ·simp only[execOp,ho,e1,hiv,Pm,hr,Pk,PF,Option.isSome_some]
       ·match i with
        | 0=>simp at hy hu;subst hy hu;exact ao.ofVal _ _ _ _
        | 1=>simp at hy hu;subst hy hu;exact .v _ _ (.bool _)
        | i+2=>simp at hy
      ·exact ar hp D'
     ·split at hp
      ·rename_i z hz
       have hq:=dM hp D'
       have Vj:(zeroValue E).run C.P w=.ok z w:=by
        cases hi:C.P.info? E with
        | none=>simp[hi]at hz
        | some i0 =>
         simp only[hi,QW]at hz
         simp[zeroValue,typeInfo,hi,hz,Pm]
       have hr:=oE hu hK2 e2 (pm n arr.toList es 0 e3 hq) (z:=z) (fun _=>Vj)
       refine val (.tuple #[z,.bool false]) w μ ?_ (h.ePut hp D' (.tup _ _ rfl (fun i y u hy hu=>?_))).2
       ·simp only[execOp,ho,e1,hiv,Pm,hr,Pk,PF,Option.isSome_none]
       ·match i with
        | 0=>simp at hy hu;subst hy hu;exact ao.ofVal _ _ _ _
        | 1=>simp at hy hu;subst hy hu;exact .v _ _ (.bool _)
        | i+2=>simp at hy
      ·exact ar hp D'
    ·exact ar hp D'
   ·exact ar hp D'
  ·rename_i d
   unfold Lu at hp
   generalize hx:eE st.env x=dx at hp
   generalize hix:eE st.env ix=dix at hp
   split at hp
   ·rename_i K E es k n hu
    split at hp
    ·rename_i hK2
     have hxr:=h.eval x
     have hir:=h.eval ix
     rw[hx]at hxr
     rw[hix]at hir
     have hiv:a.eval ix=.int .i64 n:=(show ∀u,dg S w (.int .i64 n) u→u=.int .i64 n from fun u h=>by cases h;rfl) _ (bn hir)
     obtain⟨b,clock,arr,e1,e2,e3⟩:∃(b clock:Nat) (arr:Array MapEntry),a.eval x=.map (some b)∧w.heap[b]?=some (.map arr clock)∧arr.toList.map (fun e=>(e.key,e.val))=es.map (fun e=>(Value.int .i64 e.1,e.2)):=by
      have:=bn hxr
      generalize a.eval x=u at this
      cases this with
      | mp _ b clock arr q1 q2 q3 q4=>exact⟨b,clock,arr,rfl,q3,q4⟩
     obtain⟨j,e,he,S9,Tg,hq3⟩:=dM hp D'
     have hr:=oE hu hK2 e2 (lz n arr.toList es 0 j e e3 he S9 Tg) (z:=undef) (fun h=>by cases h)
     refine val (.tuple #[e.2,.bool true]) w μ ?_ (h.ePut hp D' (.tup _ _ rfl (fun i y u hy hu=>?_))).2
     ·simp only[execOp,ho,e1,hiv,Pm,hr,Pk,PF,Option.isSome_some]
     ·match i with
      | 0=>simp at hy hu;subst hy hu;exact pg hq3 (ao.ofVal _ _ _ _)
      | 1=>simp at hy hu;subst hy hu;exact .v _ _ (.bool _)
      | i+2=>simp at hy
    ·exact ar hp D'
   ·exact ar hp D'
  ·exact Xn hp
 ·rename_i t ho
  split at hp
  ·rename_i t' ag α enc d l
   split at hp
   ·obtain⟨_,hR⟩:=h.newBox (u:=.map (some w.heap.size)) (w':=w.alloc (.map #[] 0)) hp D' (QA w _ none) ⟨w.heap.size,#[],0,rfl,Qx w _,rfl,fun i k x hx=>by simp at hx⟩ (fun b hb=>by simp[bI,aM]at hb;omega) (v:=.map (some w.heap.size)) (by
     have:=ao.own (S:=S) (μ:=a7 μ st.heap.length (.map (some w.heap.size))) (w:=w.alloc (.map #[] 0)) st.heap.length
     rwa [az]at this)
    refine val _ _ _ ?_ hR
    simp[execOp,ho,Instr.makeMap,newObj,Sem.run]
   ·exact ar hp D'
  ·exact ar hp D'
 ·rename_i t m k x ho
  split at hp
  ·rename_i hd
   obtain⟨w',h1,h2⟩:=uw h (h.eval m) (h.eval k) (h.eval x) hp D'
   have hr:(execOp a.eval o).run C.P w=.ok .skip w':=by
    simp only[execOp,ho,Pm,h1,Pk,PF]
   rw[hr,Oper.uponIn_skip,hd]
   exact hK _ _ _ _ h2
  ·exact ar hp D'
 ·exact Xn hp
theorem bZ (h:a5 C S μ st a w) {ops:List Oper} {o:Oper} {b:Bool} (hg:fU ops st o=some b):Region.wanted o (yielded ops.toArray a.tmps)=b:=by
 unfold fU at hg
 unfold Region.wanted
 cases Ww:o.guard with
 | none=>rw[Ww]at hg;cases hg;rfl
 | some q =>
  obtain⟨g,Ss⟩:=q
  rw[Ww]at hg
  simp only at hg ⊢
  split at hg
  ·rename_i t ht
   have hv:=h.eval (.tmp t)
   have hy:yielded ops.toArray a.tmps g=match a.tmps[t]? with | some (.bool b)=>some b | _=>none:=by
    unfold yielded
    simp only[List.getElem?_toArray,ht,QW]
    rfl
   rw[hy]
   simp only[eE]at hv
   split at hg
   ·rename_i c hl
    rw[hl]at hv
    have:=fk hv
    simp only[Act.eval,P6]at this
    cases hq:a.tmps[t]? with
    | none=>rw[hq]at this;simp[undef]at this
    | some u =>
     rw[hq]at this
     simp at this
     subst this
     cases hg
     cases c<;>cases Ss<;>rfl
   ·rename_i hl
    rw[hl]at hv
    obtain⟨us,hu,h1,_⟩:=rO hv
    simp only[Act.eval,P6]at hu
    cases hg
    cases hq:a.tmps[t]? with
    | none=>cases Ss<;>rfl
    | some u =>
     rw[hq]at hu
     simp at hu
     subst hu
     cases Ss<;>rfl
   ·cases hg
  ·cases hg
theorem xX {P:Program} {nt:Nat} {ov:Ov} {o:Oper} (hd:cF o=true) (hp:nP P nt ov o st=(L',p)) (D':p):False:=by
 unfold cF at hd
 split at hd
 ·rename_i c ho
  unfold nP at hp
  rw[ho]at hp
  simp only[fK]at hp
  unfold sX at hp
  split at hp
  ·exact(dM hp D').1
  ·exact(dM hp D').1
  ·exact dM hp D'
 ·cases hd
theorem po {ops:List Oper} {RI:List (Nat×Ov)} {Q:Exit→Act→World→Prop}:∀(l:List Oper) (i:Nat) (st:St) (S:Nat→Prop) (μ:Nat→Value) (a:Act) (w:World) (p:Prop),a5 C S μ st a w→cY C.P C.nt ops RI i l st=(L',p)→p →
  (∀S' μ' a' w',a5 C S' μ' L' a' w'→Q .normal a' w')→wpListIn (nk C.rd) 0 C.P ops.toArray Q l a w:=by
 intro l
 induction l with
 | nil =>
  intro i st S μ a w p h hp D' hK
  simp only[cY,Po]at hp
  obtain⟨rfl,_⟩:=hp
  exact hK _ _ _ _ h
 | cons o r ih =>
  intro i st S μ a w p h hp D' hK
  unfold cY at hp
  unfold wpListIn
  split at hp
  ·rename_i hg
   rw[Pn (bZ h hg)]
   generalize hq:nP C.P C.nt (nw RI i) o st=q at hp
   obtain⟨R5,p1⟩:=q
   simp only at hp
   generalize Tg:cY C.P C.nt ops RI (i+1) r R5=q2 at hp
   obtain⟨Va,p2⟩:=q2
   simp only[Po]at hp
   obtain⟨rfl,rfl⟩:=hp
   have hnd:cF o=false:=by
    cases hd:cF o
    ·rfl
    ·exact(xX hd hq D'.1).elim
   refine rN hnd (lC h hq D'.1 (fun S' μ' a' w' hR=>?_))
   exact ih (i+1) R5 S' μ' a' w' p2 hR Tg D'.2 hK
  ·rename_i hg
   rw[Pj (by rw[bZ h hg];simp)]
   refine⟨fun f _=>oi _ f,?_⟩
   generalize hq:lx C.nt st o.dst=q at hp
   obtain⟨R5,p1⟩:=q
   simp only at hp
   generalize Tg:cY C.P C.nt ops RI (i+1) r R5=q2 at hp
   obtain⟨Va,p2⟩:=q2
   simp only[Po]at hp
   obtain⟨rfl,rfl⟩:=hp
   exact ih (i+1) R5 _ _ _ _ p2 (h.ePut hq D'.1 (.tup [] #[] rfl (fun j y u hy _=>by simp at hy))).2 Tg D'.2 hK
  ·exact ar hp D'
end
end Go.Proofs.Ytnlmlkbaflmgcaa
namespace Go.Proofs.Ytnlmlkbaflmgcaa
open Go.RowKit
set_option linter.unusedVariables false
set_option linter.unusedSimpArgs false
@[reducible] def thenQ (next:St→Prop) (Q:Exit→St→Prop):Exit→St→Prop
 | .normal,st=>next st
 | e,st=>Q e st
@[reducible] def blockQ (id:Nat) (Q:Exit→St→Prop):Exit→St→Prop
 | .exit i,st=>if Nat.beq i id then Q .normal st else Q (.exit i) st
 | e,st=>Q e st
section
variable {C:li} {st:St} {Q:Exit→St→Prop}
theorem Ev.mono {c:Code} {Q':Exit→St→Prop} (h:Ev C c Q st) (hq:∀e L',Q e L'→Q' e L'):Ev C c Q' st :=
 fun a w S μ hR=>wpIn_mono (h a w S μ hR) fun e a' w' ⟨L',S',μ',q,r⟩=>⟨L',S',μ',hq e L' q,r⟩
theorem Ev.skip (h:Q .normal st):Ev C .skip Q st:=fun a w S μ hR=>wpIn_skip ⟨st,S,μ,h,hR⟩
theorem Ev.label {l:Nat} (h:Q .normal st):Ev C (.label l) Q st:=fun a w S μ hR=>wpIn_label ⟨st,S,μ,h,hR⟩
theorem Ev.exit {id:Nat} (h:Q (.exit id) st):Ev C (.exit id) Q st:=fun a w S μ hR=>wpIn_exit ⟨st,S,μ,h,hR⟩
theorem Ev.ret (h:Q .ret st):Ev C .ret Q st:=fun a w S μ hR=>wpIn_ret ⟨st,S,μ,h,hR⟩
theorem Ev.seq {x y:Code} (h:Ev C x (thenQ (Ev C y Q) Q) st):Ev C (.seq x y) Q st:=fun a w S μ hR=>by
 refine wpIn_seq (wpIn_mono (h a w S μ hR) ?_)
 rintro e a' w' ⟨L',S',μ',hq,R9⟩
 cases e with
 | normal=>exact hq a' w' S' μ' R9
 | exit id=>exact⟨L',S',μ',hq,R9⟩
 | goto l=>exact⟨L',S',μ',hq,R9⟩
 | ret=>exact⟨L',S',μ',hq,R9⟩
 | panic ch=>exact⟨L',S',μ',hq,R9⟩
 | outgrown=>exact⟨L',S',μ',hq,R9⟩
theorem Ev.cond {c:Operand} {x y:Code} (b:Bool) (hc:eE st.env c=.v (.bool b)) (hx:b=true→Ev C x Q st) (hy:b=false→Ev C y Q st):Ev C (.cond c x y) Q st:=fun a w S μ hR =>
 wpIn_cond_split (t:=b) (fk (hc ▸ hR.eval c)) (fun h=>hx h a w S μ hR) (fun h=>hy h a w S μ hR)
theorem Ev.block {id:Nat} {c:Code} (h:Ev C c (blockQ id Q) st):Ev C (.block id c) Q st:=fun a w S μ hR=>by
 refine wpIn_block (wpIn_mono (h a w S μ hR) ?_)
 rintro e a' w' ⟨L',S',μ',hq,R9⟩
 cases e with
 | exit i =>
  simp only[blockQ]at hq
  simp only[Exit.inBlock]
  by_cases hi:i=id
  ·rw[Pn hi]
   rw[Pn (by rw[PC];exact hi)]at hq
   exact⟨L',S',μ',hq,R9⟩
  ·rw[Pj hi]
   rw[Pj (by rw[PC];exact hi)]at hq
   exact⟨L',S',μ',hq,R9⟩
 | normal=>exact⟨L',S',μ',hq,R9⟩
 | goto l=>exact⟨L',S',μ',hq,R9⟩
 | ret=>exact⟨L',S',μ',hq,R9⟩
 | panic ch=>exact⟨L',S',μ',hq,R9⟩
 | outgrown=>exact⟨L',S',μ',hq,R9⟩
theorem ke {R:Nat→Prop} (h:∃n,R n):∃n,R n∧∀m,R m→n≤m:=by
 obtain⟨n,hn⟩:=h
 induction n using Nat.strongRecOn with
 | _ n ih =>
  by_cases hm:∃m,m<n∧R m
  ·obtain⟨m,h1,h2⟩:=hm
   exact ih m h1 h2
  ·exact⟨n,hn,fun m hR=>by
    refine Ql fun RF=>hm ⟨m,by omega,hR⟩⟩
theorem a5.keep {S:Nat→Prop} {μ:Nat→Value} {a:Act} {w:World} (h:a5 C S μ st a w) (keep:List Nat):a5 C S μ ⟨ly keep st.env,st.heap⟩ a w :=
 h.weak (fun t d hm=>qg hm)
def keepS (keep:List Nat) (n:Nat) (st:St):St:=⟨ly keep st.env,st.heap.take n⟩
theorem a5.keepS {S:Nat→Prop} {μ:Nat→Value} {a:Act} {w:World} (h:a5 C S μ st a w) (keep:List Nat) (n:Nat):a5 C S μ (keepS keep n st) a w :=
 (h.keep keep).heapTo (fun i A hA=>.inr (by
  rw[PK]at hA
  split at hA
  ·exact hA
  ·cases hA))
theorem Ev.keep {c:Code} (keep:List Nat) (n:Nat) {L':St} (h:Proofs.Ytnlmlkbaflmgcaa.keepS keep n st=L') (he:Ev C c Q L'):Ev C c Q st:=fun a w S μ hR=>by
 subst h
 exact he a w S μ (hR.keepS keep n)
theorem Ev.loop {σ:Type _} (keep:List Nat) (n:Nat) (mk:σ→St) (inv:σ→Prop) (m:σ→Nat) {c:Code} (s0:σ) (h0:Proofs.Ytnlmlkbaflmgcaa.keepS keep n st=mk s0) (hi:inv s0)
  (round:∀s,inv s→Ev C c (thenQ (fun L'=>∃s',Proofs.Ytnlmlkbaflmgcaa.keepS keep n L'=mk s'∧inv s'∧m s'<m s) Q) (mk s)):Ev C (.loop c) Q st:=fun a w S μ hR=>by
 have hR0:=hR.keepS keep n
 rw[h0]at hR0
 let R:Act→World→Nat→Prop:=fun a w n=>∃(s:σ) (S:Nat→Prop) (μ:Nat→Value),inv s∧m s=n∧a5 C S μ (mk s) a w
 let M:Act→World→Nat:=fun a w=>@dite _ (∃n,R a w n) (Classical.propDecidable _) (fun h=>Classical.choose (ke h)) (fun _=>0)
 have hM:∀a w,(∃n,R a w n)→R a w (M a w)∧∀n,R a w n→M a w≤n:=by
  intro a w h
  have:M a w=Classical.choose (ke h):=dif_pos h
  rw[this]
  exact Classical.choose_spec (ke h)
 refine wpIn_loop (fun a w=>∃n,R a w n) M ⟨m s0,s0,S,μ,hi,rfl,hR0⟩ ?_
 intro a w hI
 obtain⟨⟨s,S',μ',h1,h2,h3⟩,_⟩:=hM a w hI
 refine wpIn_mono (round s h1 a w S' μ' h3) ?_
 rintro e a' w' ⟨L',S2,μ2,hq,R9⟩
 cases e with
 | normal =>
  obtain⟨s',hk,q1,q2⟩:=hq
  have U':=R9.keepS keep n
  rw[hk]at U'
  have hex:∃n,R a' w' n:=⟨m s',s',S2,μ2,q1,rfl,U'⟩
  refine⟨hex,?_⟩
  have:=(hM a' w' hex).2 (m s') ⟨s',S2,μ2,q1,rfl,U'⟩
  omega
 | exit id=>exact⟨L',S2,μ2,hq,R9⟩
 | goto l=>exact⟨L',S2,μ2,hq,R9⟩
 | ret=>exact⟨L',S2,μ2,hq,R9⟩
 | panic ch=>exact⟨L',S2,μ2,hq,R9⟩
 | outgrown=>exact⟨L',S2,μ2,hq,R9⟩
theorem Ev.cut {σ:Type _} (keep:List Nat) (n:Nat) (mk:σ→St) (inv:σ→Prop) {x y:Code} (hx:Ev C x (thenQ (fun L'=>∃s,Proofs.Ytnlmlkbaflmgcaa.keepS keep n L'=mk s∧inv s) Q) st) (hy:∀s,inv s→Ev C y Q (mk s)):Ev C (.seq x y) Q st :=
 Ev.seq (hx.mono (fun e L' hq=>by
  cases e with
  | normal =>
   obtain⟨s,h1,h2⟩:=hq
   exact Ev.keep keep n h1 (hy s h2)
  | exit id=>exact hq
  | goto l=>exact hq
  | ret=>exact hq
  | panic ch=>exact hq
  | outgrown=>exact hq))
end
def V.scal:V→Bool
 | .sl _ _ _ _=>false
 | .mp _=>false
 | .sm _ _ _ _=>false
 | _=>true
def Lf:D→D→Prop
 | .own _,.v (.sl _ enc _ l)=>∀z∈l,(enc z).all V.scal=true
 | _,.v (.sl _ _ _ l)=>l=[]
 | _,.v (.mp _)=>False
 | _,.v (.sm _ _ _ _)=>False
 | _,.v _=>True
 | _,.nils=>True
 | _,_=>False
def M8:List D→List D→Prop
 | [],[]=>True
 | x::xs,y::ys=>Lf x y∧M8 xs ys
 | _,_=>False
def JR:D→D→Prop
 | .agg xs,.agg ys=>M8 xs ys
 | x,y=>Lf x y
def MZ:List D→List D→Prop
 | [],[]=>True
 | x::xs,y::ys=>JR x y∧MZ xs ys
 | _,_=>False
def xY (al:Bool) (H:List ax):D→D→Prop
 | .tup xs,.tup ys=>Lq H xs ys∧(al=true∨MZ xs ys)
 | x,y=>Je H x y∧(al=true∨JR x y)
section
variable {P:Program} {S:Nat→Prop} {μ:Nat→Value} {w:World}
theorem xZ {x:V} {u:Value} (h:dg S w x u) (hs:x.scal=true) (S':Nat→Prop):dg S' w x u:=by
 cases h with
 | int=>exact .int _ _
 | bool=>exact .bool _
 | str=>exact .str _
 | nil=>cases hs
 | row=>cases hs
 | mp=>cases hs
 | nilf=>exact .nilf
 | nsl=>exact .nsl
 | esl p c h=>exact .esl p c h
 | smn=>cases hs
 | sm=>cases hs
 | nmp=>exact .nmp
 | fnv f=>exact .fnv f
theorem Ds {sz:Nat} {α:Type} {enc:α→List V} {d:α} {l:List α} {u:Value} {S':Nat→Prop} (h:dg S w (.sl sz enc d l) u) (hs:∀z∈l,(enc z).all V.scal=true) (hb:∀b,bI u b→S' b):dg S' w (.sl sz enc d l) u:=by
 obtain⟨p,c,rfl,h1,h2,h3,h4⟩:=gb h
 refine ou rfl h1 h2 h3 (fun h0=>?_)
 obtain⟨b,I',us,rfl,q1,q2,q3,q4,q5⟩:=h4 h0
 refine⟨b,I',us,rfl,hb b (.inl rfl),q2,q3,q4,fun i x j y hx hy=>xZ (q5 i x j y hx hy) ?_ S'⟩
 have:=hs x (PM hx)
 rw[PH]at this
 exact this y (PM hy)
theorem Bt {H:List ax} {S':Nat→Prop} (hH:be S μ w H) (R7:∀b,S b→b<w.heap.size) {x y:D} (P':∀(i:Nat) (A:ax) (b:Nat),H[i]?=some A→A.isArr=true→bI (μ i) b→S' b)
  {u:Value} (he:Ha H x y) (hf:Lf x y) (h:ao S μ w x u):ao S' μ w y u:=by
 have h2:ao (fun b=>S b∨S' b) μ w y u:=mc hH (fun b hb=>.inl hb) R7 (.inl fun i A b h1 h2 h3=>.inr (P' i A b h1 h2 h3)) he h
 unfold Lf at hf
 split at hf
 ·rename_i id sz α enc d l
  refine .v _ _ (Ds (bn h2) hf ?_)
  unfold Ha at he
  simp only at he
  split at he
  ·rename_i E RY β Rz d' l' hb
   rw[bA h]
   exact fun b R6=>P' id _ b hb rfl R6
  ·exact he.elim
 ·subst hf
  obtain⟨p,c,rfl,h1,h3,h4,h5⟩:=gb (bn h2)
  exact .v _ _ (.nil _ _ _ _ _ h3 h4)
 ·exact hf.elim
 ·exact hf.elim
 ·rename_i v h3 h4 h5 h6
  refine .v _ _ (xZ (bn h2) ?_ _)
  cases v with
  | sl sz enc d l=>first | exact(h3 _ _ _ _ _ rfl).elim | exact(h4 _ _ _ _ _ rfl).elim | exact(h5 _ _ _ _ _ rfl).elim
  | mp es=>first | exact(h3 _ rfl).elim | exact(h4 _ rfl).elim | exact(h5 _ rfl).elim | exact(h6 _ rfl).elim
  | sm ag enc d l=>first | exact(h3 _ _ _ _ _ rfl).elim | exact(h4 _ _ _ _ _ rfl).elim | exact(h5 _ _ _ _ _ rfl).elim | exact(h6 _ _ _ _ _ rfl).elim
  | nmp=>rfl
  | fnv=>rfl
  | int=>rfl
  | bool=>rfl
  | str=>rfl
  | nilf=>rfl
  | nsl=>rfl
  | esl=>first | exact(h3 rfl).elim | exact(h4 rfl).elim | exact(h5 rfl).elim | rfl
 ·cases h2
  exact .nils
 ·exact hf.elim
theorem Bu:∀{xs ys:List D},M8 xs ys→∀(j:Nat) (x y:D),xs[j]?=some x→ys[j]?=some y→Lf x y
 | [],[],_,j,x,y,hx,_=>by simp at hx
 | [],_::_,h,_,_,_,_,_=>h.elim
 | _::_,[],h,_,_,_,_,_=>h.elim
 | x::xs,y::ys,h,0,_,_,hx,hy=>by simp at hx hy;subst hx hy;exact h.1
 | x::xs,y::ys,h,j+1,x',y',hx,hy=>Bu h.2 j x' y' (by simpa using hx) (by simpa using hy)
theorem Bv:∀{xs ys:List D},MZ xs ys→∀(j:Nat) (x y:D),xs[j]?=some x→ys[j]?=some y→JR x y
 | [],[],_,j,x,y,hx,_=>by simp at hx
 | [],_::_,h,_,_,_,_,_=>h.elim
 | _::_,[],h,_,_,_,_,_=>h.elim
 | x::xs,y::ys,h,0,_,_,hx,hy=>by simp at hx hy;subst hx hy;exact h.1
 | x::xs,y::ys,h,j+1,x',y',hx,hy=>Bv h.2 j x' y' (by simpa using hx) (by simpa using hy)
theorem u7 {al:Bool} {H:List ax} {S' Sn:Nat→Prop} (hH:be S μ w H) (R7:∀b,S b→b<w.heap.size) (hS:∀b,S b→S' b)
  (SX:∀(i:Nat) (A:ax) (b:Nat),H[i]?=some A→A.isArr=true→bI (μ i) b→S' b) (P':∀(i:Nat) (A:ax) (b:Nat),H[i]?=some A→A.isArr=true→bI (μ i) b→Sn b)
  (Sb:al=true→∀b,S' b→Sn b) {x y:D} {u:Value} (he:Je H x y) (hf:al=true∨JR x y) (h:ao S μ w x u):ao Sn μ w y u:=by
 rcases hf with hf | hf
 ·have:ao S' μ w y u:=by
   have h1:aO S' μ w [y] #[u]:=Hk (ds:=[x]) hH hS R7 (.inl SX) ⟨he,trivial⟩ ⟨rfl,fun j a b ha hb=>by
    cases j with
    | zero=>simp at ha hb;subst ha hb;exact h
    | succ j=>simp at ha⟩
   exact h1.2 0 y u rfl rfl
  exact this.stable (fun b hb _=>Sb hf b hb) (fun _ _ _=>rfl) (Pl _) (fun _ _=>rfl)
 ·unfold Je at he
  split at he
  ·rename_i xs ys
   obtain⟨us,rfl,q1,q2⟩:=dH h
   obtain⟨r1,r2⟩:=rT he
   refine .agg _ _ (by rw[← r1];exact q1) (fun k z v hz hv=>?_)
   obtain⟨x',T3,UU⟩:=r2 k z hz
   exact Bt hH R7 P' UU (Bu hf k x' z T3 hz) (q2 k x' v T3 hv)
  ·rename_i Sm
   have hf':Lf x y:=by
    unfold JR at hf
    split at hf
    ·rename_i xs ys
     exact(Sm xs ys rfl rfl).elim
    ·exact hf
   exact Bt hH R7 P' he hf' h
theorem EL {al:Bool} {H:List ax} {S' Sn:Nat→Prop} (hH:be S μ w H) (R7:∀b,S b→b<w.heap.size) (hS:∀b,S b→S' b)
  (SX:∀(i:Nat) (A:ax) (b:Nat),H[i]?=some A→A.isArr=true→bI (μ i) b→S' b) (P':∀(i:Nat) (A:ax) (b:Nat),H[i]?=some A→A.isArr=true→bI (μ i) b→Sn b)
  (Sb:al=true→∀b,S' b→Sn b) {x y:D} {u:Value} (he:xY al H x y) (h:ao S μ w x u):ao Sn μ w y u:=by
 unfold xY at he
 split at he
 ·rename_i xs ys
  obtain⟨us,rfl,q1,q2⟩:=rO h
  obtain⟨r1,r2⟩:=ww he.1
  refine .tup _ _ (by rw[← r1];exact q1) (fun k z v hz hv=>?_)
  obtain⟨x',T3,UU⟩:=r2 k z hz
  exact u7 hH R7 hS SX P' Sb UU (he.2.imp id fun hf=>Bv hf k x' z T3 hz) (q2 k x' v T3 hv)
 ·exact u7 hH R7 hS SX P' Sb he.1 he.2 h
def Lw (P:Program) (fn:Func) (al:Bool) (r:D):Exit→St→Prop
 | .normal,st=>gT P fn st∧xY al st.heap (hC P fn st) r
 | .ret,st=>gT P fn st∧xY al st.heap (hC P fn st) r
 | _,_=>False
theorem aq.of_ev {f:FuncId} {fn:Func} {c:Code} {q':List D} {al:Bool} {r:D} (hf:P.funcs[f]?=some fn) (hb:fn.body=some c) (hn:Nat.ble q'.length fn.ntmps=true) (hr:ef r=true)
  (h:∀C:li,C.P=P→C.nt=fn.ntmps→C.rd=none→Ev C c (Lw P fn al r) ⟨kV 0 q',[]⟩):aq P f q' [] al r []:=by
 intro S μ w us hS hG hH RU
 rw[Qm]at hn
 let C:li:=⟨P,w,S,fn.ntmps,[],none,hG⟩
 have hrel:a5 C S μ ⟨kV 0 q',[]⟩ (uY us fn.ntmps) w :=
  ⟨rfl,rfl,rfl,Pl _,fun _ _=>rfl,fun _ h=>h,fun _ h=>.inl h,hS,wz RU hn,⟨fun id B hB=>by simp at hB,fun i j A B b hA=>by simp at hA,fun i A b hA=>by simp at hA⟩,fun i A b hA=>by simp at hA,⟨[],rfl,by simp[C],fun b hb=>by simp[C]at hb⟩,sO RU.1 hn,fun i A b hA=>by simp at hA⟩
 refine(lq (C:=C) hf hb rfl hrel (h C rfl rfl rfl) (fun e L' hq=>?_)).mono ?_
 ·cases e<;>first | exact⟨.inl rfl,hq.1⟩ | exact⟨.inr rfl,hq.1⟩ | exact hq.elim
 rintro e w' ⟨u,e0,L',S',μ',a',rfl,hq,hR,hx⟩
 have hq:xY al L'.heap (hC P fn L') r:=by
  cases e0<;>first | exact hq.2 | exact hq.elim
 refine⟨u,μ',fun b=>S' b∨∃(i:Nat) (A:ax),L'.heap[i]?=some A∧A.isArr=true∧bI (μ' i) b,rfl,hR.os,hR.tape,hR.output,hR.size,fun k hk _=>hR.old k hk,fun b hb=>.inl (hR.mono b hb),?_,?_,?_,
   ⟨fun id B hB=>by simp at hB,fun i j A B b hA=>by simp at hA,fun i A b hA=>by simp at hA⟩,fun i A b hA=>by simp at hA,fun i A hA=>by simp at hA⟩
 ·rintro b (hb | ⟨i,A,h1,h2,h3⟩)
  ·exact hR.new b hb
  ·exact .inr (hR.may i A b h1 (by cases A<;>first | rfl | cases h2) h3)
 ·rintro b (hb | ⟨i,A,h1,h2,h3⟩)
  ·exact hR.slt b hb
  ·exact(hR.heap.box i A h1).lt (by cases A<;>first | rfl | cases h2) b h3
 ·refine EL hR.heap hR.slt (S':=fun b=>S' b∨∃(i:Nat) (A:ax),L'.heap[i]?=some A∧A.isArr=true∧bI (μ' i) b) (fun b hb=>.inl hb) (fun i A b h1 h2 h3=>.inr ⟨i,A,h1,h2,h3⟩) (fun i A b h1 h2 h3=>⟨.inr ⟨i,A,h1,h2,h3⟩,.inr ?_⟩) (fun ha b hb=>⟨hb,.inl ha⟩) hq hx
  exact hR.may i A b h1 (by cases A<;>first | rfl | cases h2) h3
end
end Go.Proofs.Ytnlmlkbaflmgcaa
namespace Go.Proofs.Ytnlmlkbaflmgcaa
open Go.RowKit
set_option linter.unusedVariables false
set_option linter.unusedSimpArgs false
def EM:List Oper→Nat→Nat→Option Nat
 | _,0,_=>none
 | ops,i+1,t=>match (ops[i]?).bind (·.dst)with
  | some s=>if Nat.beq s t then some i else EM ops i t
  | none=>EM ops i t
def EN (op:Op):List Tmp:=op.operands.toList.filterMap fun | .tmp t=>some t | _=>none
def qh (P:Program) (H:List ax) (ov:Ov) (t:TypeId) (len:Nat) (M':List (Nat×D)):R1 :=
 match P.underlying t with
 | some (.slice E)=>match gS P E with
  | some z=>if ca P E&&Nat.beq z.length (ay P E)&&Nat.ble 1 (ay P E)&&Nat.ble (len*ay P E) 4096 then
    match gq H (fun i=>some (i*ay P E,ay P E)) (List.replicate len z).flatten M' with
    | some cells=>match ov with
     | .box E' RY Rz d' l'=>if Nat.beq E E'&&Nat.beq (ay P E) RY then (.v (.sl (ay P E) Rz d' l'),an (nO (ay P E) len cells) (l'.map Rz))else aP
     | _=>aP
    | none=>aP
   else aP
  | none=>aP
 | _=>aP
def Jf (P:Program) (H:List ax) (ov:Ov) (f:D) (ds:List D):R1 :=
 match f,ov with
 | .fn (.func g) first cap,.callr id q' r=>if jh P g&&ef r then (r,ka P g H (first++ds++cap) id q' r)else aP
 | .fn (.func g) first cap,.call q' al r=>if jh P g&&ef r&&(!al||fp (first++ds++cap))then (r,oz P g H (first++ds++cap) q' al r)else aP
 | _,_=>aP
def Lx (P:Program) (T:TypeId):Option (Array Value):=((P.info? T).bind (·.zero)).map (·.cells)
def JS (o:Oper):Option TypeId:=match o.op with | .alloc T=>some T | _=>none
def M0 (P:Program) (H:List ax) (ρ:Operand→D) (ov:Ov) (op:Op):R1 :=
 match op with
 | .alloc T=>match Lx P T with | some _=>(.junk,True) | none=>aP
 | .buildSlice t len M'=>qh P H ov t len (M'.toList.map fun p=>(p.1,ρ p.2))
 | .call ⟨.value f,args,_⟩=>Jf P H ov (ρ f) (args.toList.map ρ)
 | op=>match ov with
  | .val d'=>(d',(fK P H ρ op).2∧zy (fK P H ρ op).1 d')
  | .lift d'=>(d',(fK P H ρ op).2∧cA (fK P H ρ op).1 d')
  | _=>fK P H ρ op
def Oz (ops:List Oper) (i:Nat) (o:Oper):List (Tmp×Option Nat) :=
 (EN o.op).map fun t=>(t,EM ops i t)
section
variable {P:Program} {S:Nat→Prop} {μ:Nat→Value} {w:World}
theorem x4 {ops:Array Oper} {sp sp':qV} {base Ve:Act} (h:Ja ops sp base=true) (hs:Ve.tmps.size=base.tmps.size) (hk:sp'.K=sp.K) (hi:sp'.ins=sp.ins):Ja ops sp' Ve=true:=by
 have e1:Li ops sp'=Li ops sp:=by
  funext i p
  unfold Li
  rw[hk]
 have:∀i,El ops sp' Ve i=El ops sp base i:=by
  intro i
  unfold El
  rw[hs,hk,hi,e1]
 unfold Ja at h ⊢
 rw[show El ops sp' Ve=El ops sp base from funext this]
 exact h
end
end Go.Proofs.Ytnlmlkbaflmgcaa
namespace Go.Proofs.Ytnlmlkbaflmgcaa
open Go.RowKit
set_option linter.unusedVariables false
set_option linter.unusedSimpArgs false
section
variable {P:Program} {S:Nat→Prop} {μ:Nat→Value} {w:World}
theorem be.mono {S':Nat→Prop} {w':World} {H:List ax} (h:be S μ w H) (hS:∀b,S b→b<w.heap.size→S' b) (hb:Below w.heap.size w w') (hn:∀b,b<w.heap.size→S' b→S b):be S' μ w' H:=by
 refine⟨fun i A hA=>?_,h.apart,fun i A b hA hl R6 hs=>?_⟩
 ·rcases A.three with rfl | hl | hl
  ·trivial
  ·exact(h.box i A hA).stable hS (fun b _ hl=>hb.block b hl) hb.size (fun _ _=>rfl) (fun b R6=>hb.block b ((h.box i A hA).lt hl b R6))
  ·exact(h.box i A hA).stable hS (fun b _ hl=>hb.block b hl) hb.size (fun _ _=>rfl) (fun b R6=>hb.block b ((h.box i A hA).ltR hl b R6))
 ·have RF:=(h.box i A hA).lt hl b R6
  exact h.notS i A b hA hl R6 (hn b RF hs)
theorem wH {H:List ax} (hH:be S μ w H) (hS:∀b,S b→b<w.heap.size) {ov:Ov} {t:TypeId} {len:Nat} {M':List (Nat×D)} {Ry:List (Nat×Value)} (h1:M'.map (·.1)=Ry.map (·.1))
  (h2:∀(j:Nat) (x:Nat×D) (u:Nat×Value),M'[j]?=some x→Ry[j]?=some u→ao S μ w x.2 u.2) {d:D} {p:Prop} (hp:qh P H ov t len M'=(d,p)) (D':p) :
  ∃u vs E,(Instr.buildSlice t len Ry.toArray).run P w=.ok u (w.alloc (.cells vs E))∧ao (fun b=>S b∨b=w.heap.size) μ (w.alloc (.cells vs E)) d u:=by
 unfold qh at hp
 split at hp
 ·rename_i E hu
  split at hp
  ·rename_i z hz
   split at hp
   ·rename_i hc
    simp only[Pg,PC,Qm]at hc
    obtain⟨⟨⟨hk,SC⟩,RQ⟩,R'⟩:=hc
    obtain⟨i,v,hi,hv,Ua,RB,W4⟩:=hD hz
    split at hp
    ·rename_i cells hf
     have Vj:aO S μ w z v.cells:=by
      rw[Ua]
      refine⟨by simp,fun j y u hy hu=>?_⟩
      simp only[PE,PU,hu,PY,Pu]at hy
      subst hy
      exact ao.ofVal1 S μ w u
     have Up:=qf (P:=P) Vj SC (by omega) len
     obtain⟨vs,Tr,Tf⟩:=eV hH M' Ry _ cells _ h1 h2 Up hf
     rw[← RB]at Tr
     have RD:=iw (P:=P) (w:=w) hu hi hv (by rw[RB];exact R') Tr
     have hcl:cells.length=len*ay P E:=by
      have:∀(M':List (Nat×D)) (c0 TF:List D),gq H (fun i=>some (i*ay P E,ay P E)) c0 M'=some TF→TF.length=c0.length:=by
       intro M'
       induction M' with
       | nil=>intro c0 TF h;simp only[gq,Pu]at h;rw[h]
       | cons q r ih =>
        intro c0 TF h
        obtain⟨k,x⟩:=q
        unfold gq at h
        split at h
        ·split at h
         ·rename_i RK
          simp only[Pg,Qm]at RK
          rw[ih _ _ h]
          simp[fo]
          omega
         ·cases h
        ·cases h
      rw[this _ _ _ hf]
      simp[SC]
     have RA:len≤maxLen:=by
      have:len*1≤len*ay P E:=Q8 _ RQ
      simp only[maxLen]
      omega
     split at hp
     ·rename_i E' RY α Rz d' l'
      split at hp
      ·rename_i hc
       simp only[Pg,PC]at hc
       obtain⟨rfl,rfl⟩:=hc
       simp only[Po]at hp
       obtain⟨rfl,rfl⟩:=hp
       refine⟨_,vs,E,RD,.v _ _ ?_⟩
       obtain⟨q1,q2⟩:=kb D'
       have hA:eM S (w.alloc (.cells vs E)) E (ay P E) (l'.map Rz) (.slice (some ⟨w.heap.size,0,none⟩) len len):=by
        refine rX Tf hcl RA (by rw[← q1];simp[nO]) (fun i x hx=>?_) hS
        obtain⟨r,hr,RS⟩:=q2 i x hx
        obtain⟨r1,r2⟩:=eX RS
        obtain⟨So,rfl⟩:=jF _ _ _ hr
        refine⟨?_,fun j y hy=>?_⟩
        ·rw[← r1,PD,PQ,hcl]
         have:(i+1)*ay P E≤len*ay P E:=PI _ So
         rw[Qo]at this
         omega
        ·obtain⟨d,hd,VJ⟩:=r2 j y hy
         exact⟨d,kd hr hd,fun u hu=>lw VJ hu⟩
       have hB:aJ S μ (w.alloc (.cells vs E)) (.slice (some ⟨w.heap.size,0,none⟩) len len) (.arr E (ay P E) Rz d' l'):=hA.box rfl
       exact fq hB (fun b hb=>.inl hb) (fun b hb=>.inr (by simp[bI,aM]at hb;omega)) (fun b hb=>by have:=hS b hb;simp;omega)
      ·cases hp;exact D'.elim
     ·cases hp;exact D'.elim
    ·cases hp;exact D'.elim
   ·cases hp;exact D'.elim
  ·cases hp;exact D'.elim
 ·cases hp;exact D'.elim
theorem EO {H:List ax} (hH:be S μ w H) (hS:∀b,S b→b<w.heap.size) (hG:fI S w) {f:FuncId} {ds:List D} {q':Option (List D)} {al:Bool} {r:D} {us:Array Value} (hc:oz P f H ds q' al r) (RU:aO S μ w ds us)
  (Sb:al=false∨fp ds=true) (hr:ef r=true) :
  Calls P f us w (fun e w'=>∃u,e=.returned u∧Below w.heap.size w w'∧ao (fun b=>S b∨w.heap.size≤b) μ w' r u):=by
 have TG:∀(U5:List D) (S1:Nat→Prop),aq P f U5 [] al r []→(∀b,S1 b→b<w.heap.size)→(∀b,S b→S1 b)→(al=true→∀b,S1 b→S b)→aO S1 μ w U5 us →
   Calls P f us w (fun e w'=>∃u,e=.returned u∧Below w.heap.size w w'∧ao (fun b=>S b∨w.heap.size≤b) μ w' r u):=by
  intro U5 S1 hc h2 h1 h3 RU
  refine(hc S1 μ w us h2 (hG.stable (fun b hb _=>h1 b hb) (fun _ _ _=>rfl) (Pl _)) ⟨fun id B hB=>by simp at hB,fun i j A B b hA=>by simp at hA,fun i A b hA=>by simp at hA⟩ RU).mono ?_
  rintro e w' ⟨u,μ',S',rfl,q1,q2,q3,q4,q5,q6,q7,q8,q9,_⟩
  refine⟨u,rfl,⟨q1,q2,q3,q4,fun k hk=>q5 k hk (fun i A hA=>by simp at hA)⟩,q9.stable ?_ (fun _ _ _=>rfl) (Pl _) (fun id RE=>by rw[fS id r hr]at RE;cases RE)⟩
  rintro b ⟨hb,SD⟩ _
  rcases q7 b hb with Wx | Wx
  ·rcases SD with SD | SD
   ·exact .inl (h3 SD b Wx)
   ·exact .inr SD
  ·exact .inr Wx
 cases q' with
 | none=>exact TG ds S hc hS (fun _ h=>h) (fun _ _ h=>h) RU
 | some q' =>
  obtain⟨TA,hc⟩:=hc
  refine TG q' (fun b=>S b∨(al=false∧∃(i:Nat) (A:ax),H[i]?=some A∧A.mem=true∧bI (μ i) b)) hc ?_ (fun b hb=>.inl hb) ?_ ?_
  ·rintro b (hb | ⟨_,i,A,hA,hl,hb⟩)
   ·exact hS b hb
   ·exact(hH.box i A hA).lt (ax.mem_live hl) b hb
  ·rintro h b (hb | ⟨h0,_⟩)
   ·exact hb
   ·rw[h]at h0;cases h0
  ·refine j9 hH (fun b hb=>.inl hb) hS ?_ TA RU
   rcases Sb with Sb | Sb
   ·exact .inl (fun i A b hA hl hb=>.inr ⟨Sb,i,A,hA,hl,hb⟩)
   ·exact .inr Sb
theorem Dt {H:List ax} (hH:be S μ w H) (hS:∀b,S b→b<w.heap.size) (hG:fI S w) {f:FuncId} {ds:List D} {id:Nat} {q':List D} {r:D} {us:Array Value} (hc:ka P f H ds id q' r) (RU:aO S μ w ds us) (hr:ef r=true) :
  Calls P f us w (fun e w'=>∃u,e=.returned u∧Below w.heap.size w w'∧ao (fun b=>S b∨w.heap.size≤b) μ w' r u):=by
 unfold ka at hc
 split at hc
 ·rename_i B hB
  obtain⟨hra,hc⟩:=hc
  cases VB:H[id]? with
  | none=>rw[VB]at hB;cases hB
  | some A =>
   rw[VB]at hB
   obtain⟨S4,G'⟩:=uU (μ':=fun _=>μ id) hB (hH.box id A VB)
   have hl:B.live=false:=by cases B<;>first | rfl | cases S4
   refine(hc S (fun _=>μ id) w us hS hG (Bl S4 G') (Bk hra RU)).mono ?_
   rintro e w' ⟨u,μ',S',rfl,q1,q2,q3,q4,q5,q6,q7,q8,q9,_⟩
   refine⟨u,rfl,⟨q1,q2,q3,q4,fun k hk=>q5 k hk (fun i A hA la=>?_)⟩,q9.stable (fun b hb _=>q7 b hb.1) (fun _ _ _=>rfl) (Pl _) (fun id RE=>by rw[fS id r hr]at RE;cases RE)⟩
   match i with
   | 0=>simp at hA;rw[← hA,hl]at la;cases la
   | i+1=>simp at hA
 ·exact hc.elim
theorem Du {H:List ax} (hH:be S μ w H) (hS:∀b,S b→b<w.heap.size) (hG:fI S w) {ρ:Operand→D} {ρ':Operand→Value} (hρ:∀x,ao S μ w (ρ x) (ρ' x)) {ov:Ov} {o:Oper} {d:D} {p:Prop} (hp:M0 P H ρ ov o.op=(d,p)) (D':p) (VC:JS o=none)
  {R:Value→World→Prop} (hR:∀u w',Below w.heap.size w w'→ao (fun b=>S b∨w.heap.size≤b) μ w' d u→R u w'):nj P R ((execOp ρ' o).run P w):=by
 unfold M0 at hp
 split at hp
 ·rename_i ho
  unfold JS at VC
  rw[ho]at VC
  cases VC
 ·rename_i t len M' ho
  obtain⟨u,vs,E,h1,h2⟩:=wH hH hS (Ry:=M'.toList.map fun p=>(p.1,ρ' p.2)) (by simp) (fun j x u hx hu=>by
   simp only[PE,PU]at hx hu
   cases hj:M'[j]? with
   | none=>rw[hj]at hx;cases hx
   | some q=>rw[hj]at hx hu;simp at hx hu;subst hx hu;exact hρ q.2) hp D'
  have he:M'.map (fun (i,x)=>(i,ρ' x))=(M'.toList.map fun p=>(p.1,ρ' p.2)).toArray:=Q2 (by simp)
  rw[← he]at h1
  refine nj.of (v:=u) (w':=w.alloc (.cells vs E)) ?_ (hR _ _ ((Rp _ _).alloc (Pl _) _) (h2.stable ?_ (fun _ _ _=>rfl) (Pl _) (fun _ _=>rfl)))
  ·simp only[execOp,ho,Pm,h1,Pk,PF]
  ·rintro b (hb | rfl) _
   ·exact .inl hb
   ·exact .inr (Pl _)
 ·rename_i f args UC ho
  unfold Jf at hp
  split at hp
  ·rename_i g first cap id q' r hf
   split at hp
   ·rename_i hc
    simp only[Pg]at hc
    obtain⟨Uc,hr⟩:=hc
    simp only[Po]at hp
    obtain⟨rfl,rfl⟩:=hp
    have SS:=hf ▸ hρ f
    generalize Sy:ρ' f=uf at SS
    cases SS with
    | fn _ _ _ us vs h1 h2 h3 h4 =>
     have RD:(execOp ρ' o).run P w=.ok (.enter g (us++args.map ρ'++vs)) w:=by
      simp[execOp,ho,resolve,Sy,Deferred.ofValue,invoke,bE Uc]
     rw[RD]
     have SF:aO S μ w (args.toList.map ρ) (args.map ρ'):=by
      refine⟨by simp,fun j y z hy hz=>?_⟩
      simp only[PE,PU,Qp]at hy hz
      cases hj:args[j]? with
      | none=>rw[hj]at hy;cases hy
      | some x=>rw[hj]at hy hz;simp at hy hz;subst hy hz;exact hρ x
     refine nj.enter ((Dt hH hS hG D' (aO.app (aO.app ⟨h1,h2⟩ SF) ⟨h3,h4⟩) hr).mono ?_)
     rintro e w' ⟨u,rfl,hb,hd⟩
     exact⟨u,rfl,hR u w' hb hd⟩
   ·cases hp;exact D'.elim
  ·rename_i g first cap q' al r hf
   split at hp
   ·rename_i hc
    simp only[Pg,PS,PR]at hc
    obtain⟨⟨Uc,hr⟩,Sb⟩:=hc
    simp only[Po]at hp
    obtain⟨rfl,rfl⟩:=hp
    have SS:=hf ▸ hρ f
    generalize Sy:ρ' f=uf at SS
    cases SS with
    | fn _ _ _ us vs h1 h2 h3 h4 =>
     have RD:(execOp ρ' o).run P w=.ok (.enter g (us++args.map ρ'++vs)) w:=by
      simp[execOp,ho,resolve,Sy,Deferred.ofValue,invoke,bE Uc]
     rw[RD]
     have SF:aO S μ w (args.toList.map ρ) (args.map ρ'):=by
      refine⟨by simp,fun j y z hy hz=>?_⟩
      simp only[PE,PU,Qp]at hy hz
      cases hj:args[j]? with
      | none=>rw[hj]at hy;cases hy
      | some x=>rw[hj]at hy hz;simp at hy hz;subst hy hz;exact hρ x
     refine nj.enter ((EO hH hS hG D' (aO.app (aO.app ⟨h1,h2⟩ SF) ⟨h3,h4⟩) Sb hr).mono ?_)
     rintro e w' ⟨u,rfl,hb,hd⟩
     exact⟨u,rfl,hR u w' hb hd⟩
   ·cases hp;exact D'.elim
  ·cases hp;exact D'.elim
 ·have key:∀d0,(∃q,fK P H ρ o.op=(d0,q)∧q)→(∀u,ao S μ w d0 u→ao S μ w d u)→nj P R ((execOp ρ' o).run P w):=by
   rintro d0 ⟨q,hq,Tg⟩ hd
   obtain⟨u,h1,h2⟩:=gZ hH hρ hq Tg
   exact nj.of h1 (hR u w (Rp _ _) ((hd u h2).stable (fun b hb _=>.inl hb) (fun _ _ _=>rfl) (Pl _) (fun _ _=>rfl)))
  split at hp
  ·simp only[Po]at hp
   obtain⟨rfl,rfl⟩:=hp
   exact key _ ⟨_,rfl,D'.1⟩ (fun u hu=>pg D'.2 hu)
  ·simp only[Po]at hp
   obtain⟨rfl,rfl⟩:=hp
   exact key _ ⟨_,rfl,D'.1⟩ (fun u hu=>D'.2 _ _ _ _ hu)
  ·exact key d ⟨p,hp,D'⟩ (fun _ h=>h)
end
end Go.Proofs.Ytnlmlkbaflmgcaa
namespace Go.Proofs.Ytnlmlkbaflmgcaa
open Go.RowKit
set_option linter.unusedVariables false
set_option linter.unusedSimpArgs false
theorem Ev.freeze {C:li} {st:St} {Q:Exit→St→Prop} {c:Code} (id:Nat) {L':St} (h:md id st=some L') (he:Ev C c Q L'):Ev C c Q st:=fun a w S μ hR=>by
 obtain⟨S',R9⟩:=hR.freeze h
 exact he a w S' μ R9
end Go.Proofs.Ytnlmlkbaflmgcaa
namespace Go.Proofs.Ytnlmlkbaflmgcaa
open Go.RowKit
set_option linter.unusedVariables false
set_option linter.unusedSimpArgs false
def z3 (id j E sz:Nat) {α:Type} (enc:α→List V) (d:α) (st:St):Option St :=
 if bO st.heap.length st.env&&bL st.heap.length st.heap then
  match st.heap[id]? with
  | some (.var T cs)=>match cs[j]? with
   | some .nils=>some ⟨st.env,st.heap.set id (.var T (cs.set j (.own st.heap.length)))++[.arr E sz enc d []]⟩
   | _=>none
  | _=>none
 else none
def adoptE (t E sz:Nat) {α:Type} (enc:α→List V) (d:α) (st:St):Option St :=
 if bO st.heap.length st.env&&bL st.heap.length st.heap&&EK st.env t then
  match nJ st.env t with
  | .nils=>some ⟨uu st.env t (.own st.heap.length),st.heap++[.arr E sz enc d []]⟩
  | _=>none
 else none
section
variable {C:li} {S:Nat→Prop} {μ:Nat→Value} {st:St} {a:Act} {w:World} {Q:Exit→St→Prop}
theorem a5.addNil (h:a5 C S μ st a w) (hf:bO st.heap.length st.env=true) (hh:bL st.heap.length st.heap=true) (E sz:Nat) {α:Type} (enc:α→List V) (d:α) :
  a5 C S (a7 μ st.heap.length (.slice none 0 0)) ⟨st.env,st.heap++[.arr E sz enc d []]⟩ a w:=by
 have:=h.upd (id:=st.heap.length) (B:=.arr E sz enc d []) (row:=none) (u:=.slice none 0 0) (oD w) (fun k hk=>by cases hk) (Pl _)
  ⟨fun i x hx=>by simp at hx,[],QC w 0 E sz,fun i x j y hx=>by simp at hx⟩ (fun b hb=>by simp[bI,aM]at hb) (.inr ⟨fun A hA=>by simp at hA,hf,hh⟩)
 rw[show bD st.heap st.heap.length (.arr E sz enc d [])=st.heap++[.arr E sz enc d []]from by simp[bD]]at this
 exact this
theorem a5.boxTo (h:a5 C S μ st a w) {id:Nat} {A B:ax} (hA:st.heap[id]?=some A) (Vz:A.live=true) (hk:B.isArr=false∨A.isArr=true) (hB:aJ S μ w (μ id) B) (S4:B.isRo=false:=by rfl):a5 C S μ ⟨st.env,st.heap.set id B⟩ a w:=by
 have RE:id<st.heap.length:=(Pf.1 hA).1
 have hg:∀(i:Nat) (X:ax),(st.heap.set id B)[i]?=some X→(i=id∧X=B)∨st.heap[i]?=some X:=by
  intro i X hX
  by_cases hi:i=id
  ·subst hi
   rw[PB RE]at hX
   cases hX
   exact .inl ⟨rfl,rfl⟩
  ·rw[PA (fun e=>hi e.symm)]at hX
   exact .inr hX
 have hl:∀(i:Nat) (X:ax),(st.heap.set id B)[i]?=some X→X.live=true→∃Y,st.heap[i]?=some Y∧Y.live=true:=by
  intro i X hX hXl
  rcases hg i X hX with ⟨rfl,rfl⟩ | VZ
  ·exact⟨A,hA,Vz⟩
  ·exact⟨X,VZ,hXl⟩
 refine⟨h.os,h.tape,h.output,h.size,h.old,h.mono,h.new,h.slt,h.env,⟨fun i X hX=>?_,fun i k X Y b hX hY lX lY=>?_,fun i X b hX lX=>?_⟩,fun i X b hX lX=>?_,?_,h.tsize,fun i X b hX lX=>?_⟩
 ·rcases hg i X hX with ⟨rfl,rfl⟩ | VZ
  ·exact hB
  ·exact h.heap.box i X VZ
 ·obtain⟨X',q1,q2⟩:=hl i X hX lX
  obtain⟨Y',q3,q4⟩:=hl k Y hY lY
  exact h.heap.apart i k X' Y' b q1 q3 q2 q4
 ·obtain⟨X',q1,q2⟩:=hl i X hX lX
  exact h.heap.notS i X' b q1 q2
 ·obtain⟨X',q1,q2⟩:=hl i X hX lX
  exact h.may i X' b q1 q2
 ·obtain⟨mk,d1,d2,d3⟩:=h.defers
  refine⟨mk,d1,d2,fun b hb=>?_⟩
  obtain⟨q1,q2,q3,q4⟩:=d3 b hb
  refine⟨q1,q2,q3,fun i X hX lX=>?_⟩
  obtain⟨X',q5,q6⟩:=hl i X hX lX
  exact q4 i X' q5 q6
 ·rcases hg i X hX with ⟨rfl,rfl⟩ | VZ
  ·rw[S4]at lX;cases lX
  ·exact h.ro i X b VZ lX
theorem Ev.adopt {c:Code} (id j E sz:Nat) {α:Type} (enc:α→List V) (d:α) {L':St} (h:z3 id j E sz enc d st=some L') (he:Ev C c Q L'):Ev C c Q st:=fun a w S μ hR=>by
 unfold z3 at h
 split at h
 ·rename_i hc
  simp only[Pg]at hc
  split at h
  ·rename_i T cs G'
   split at h
   ·rename_i hj
    simp only[Pu]at h
    subst h
    have RE:id<st.heap.length:=(Pf.1 G').1
    have h1:=hR.addNil hc.1 hc.2 E sz enc d
    have Xo:(st.heap++[ax.arr E sz enc d []])[id]?=some (.var T cs):=by rw[Pw RE];exact G'
    have hB:=h1.heap.box id _ Xo
    have h2:=h1.boxTo Xo rfl (B:=.var T (cs.set j (.own st.heap.length))) (.inl rfl) (by
     obtain⟨b,vs,e1,e2,e3,e4⟩:=hB
     refine⟨b,vs,e1,e2,by rw[PO];exact e3,fun k y x hy hx=>?_⟩
     by_cases hk:k=j
     ·subst hk
      have RF:k<cs.length:=(Pf.1 hj).1
      rw[PB RF]at hy
      cases hy
      have:=e4 k _ x hj hx
      cases this
      have ho:=ao.own (S:=S) (μ:=a7 μ st.heap.length (.slice none 0 0)) (w:=w) st.heap.length
      rwa [az]at ho
     ·rw[PA (fun e=>hk e.symm)]at hy
      exact e4 k y x hy hx)
    have e3:(st.heap++[ax.arr E sz enc d []]).set id (.var T (cs.set j (.own st.heap.length)))=st.heap.set id (.var T (cs.set j (.own st.heap.length)))++[ax.arr E sz enc d []]:=by
     rw[List.set_append,Pn RE]
    simp only at h2
    rw[e3]at h2
    exact he a w S _ h2
   ·cases h
  ·cases h
 ·cases h
theorem Ev.adoptE {c:Code} (t E sz:Nat) {α:Type} (enc:α→List V) (d:α) {L':St} (h:Proofs.Ytnlmlkbaflmgcaa.adoptE t E sz enc d st=some L') (he:Ev C c Q L'):Ev C c Q st:=fun a w S μ hR=>by
 unfold Proofs.Ytnlmlkbaflmgcaa.adoptE at h
 split at h
 ·rename_i hc
  simp only[Pg]at hc
  split at h
  ·rename_i hj
   simp only[Pu]at h
   subst h
   have h1:=hR.addNil hc.1.1 hc.1.2 E sz enc d
   have hv:=h1.eval (.tmp t)
   simp only[eE]at hv
   rw[hj]at hv
   obtain⟨e0,hm⟩:=s6 hc.2
   refine he a w S _ ⟨h1.os,h1.tape,h1.output,h1.size,h1.old,h1.mono,h1.new,h1.slt,fun s e hs=>?_,h1.heap,h1.may,h1.defers,h1.tsize,h1.ro⟩
   rcases Qf.1 hs with hs | hs
   ·cases hs
    refine⟨(h1.env t e0 hm).1,?_⟩
    have ho:=ao.own (S:=S) (μ:=a7 μ st.heap.length (.slice none 0 0)) (w:=w) st.heap.length
    rw[az]at ho
    generalize hu:a.eval (.tmp t)=u at hv
    cases hv
    have:a.tmps.getD t undef=.slice none 0 0:=hu
    rw[this]
    exact ho
   ·exact h1.env s e (fL hs).1
  ·cases h
 ·cases h
end
end Go.Proofs.Ytnlmlkbaflmgcaa
namespace Go.Proofs.Ytnlmlkbaflmgcaa
open Go.RowKit
set_option linter.unusedVariables false
set_option linter.unusedSimpArgs false
abbrev ud:=List (List Bool×St)
def eY:ud→List Bool→Option St
 | [],_=>none
 | (l,s)::r,k=>if decide (l=k)then some s else eY r k
def JT (ops:List Oper) (ls:List Bool) (i:Nat):Bool:=!ls.getD i false&&(match ops[i]? with | some o=>o.after.toList.all (fun e=>!Region.binds .any e||ls.getD e.on false) | none=>false)
def iz (ops:List Oper) (ls:List Bool):List Nat:=(List.range ops.length).filter (JT ops ls)
def s7 (s1 s2:St):St:=⟨ly (s2.env.map (·.1)) s1.env,s1.heap⟩
def u9 (P:Program) (nt:Nat) (ops:List Oper) (RI:List (Nat×Ov)) (tab:ud) (ls:List Bool) (st:St) (i:Nat):Prop :=
 match ops[i]? with
 | some o=>match cY P nt ops RI i [o] st with
  | (s1,p)=>match eY tab (ls.set i true)with
   | some s2=>s7 s1 s2=s2∧p
   | none=>False
 | none=>False
def z4 (P:Program) (nt:Nat) (ops:List Oper) (RI:List (Nat×Ov)) (tab:ud) (ls:List Bool) (st:St):List Nat→Prop
 | []=>True
 | i::r=>u9 P nt ops RI tab ls st i∧z4 P nt ops RI tab ls st r
def wI (P:Program) (nt:Nat) (ops:List Oper) (RI:List (Nat×Ov)) (tab:ud) (ls:List Bool) (st:St):Prop :=
 if ls.all id then True else match iz ops ls with
  | []=>False
  | l=>z4 P nt ops RI tab ls st l
def Dv (P:Program) (nt:Nat) (ops:List Oper) (RI:List (Nat×Ov)) (tab:ud):ud→Prop
 | []=>True
 | (ls,st)::r=>wI P nt ops RI tab ls st∧Dv P nt ops RI tab r
theorem qi:∀{tab:ud} {k:List Bool} {s:St},eY tab k=some s→(k,s)∈tab
 | (l,t)::r,k,s,h=>by
  unfold eY at h
  split at h
  ·rename_i hl
   cases h
   rw[Qt hl]
   exact PT ..
  ·exact PN _ (qi h)
theorem s8 {P:Program} {nt:Nat} {ops:List Oper} {RI:List (Nat×Ov)} {tab:ud}:∀{l:ud} {k:List Bool} {s:St},Dv P nt ops RI tab l→(k,s)∈l→wI P nt ops RI tab k s
 | (a,t)::r,k,s,h,hm=>by
  rcases Qf.1 hm with hm | hm
  ·cases hm;exact h.1
  ·exact s8 h.2 hm
theorem oG {P:Program} {nt:Nat} {ops:List Oper} {RI:List (Nat×Ov)} {tab:ud} {ls:List Bool} {st:St}:∀{l:List Nat} {i:Nat},z4 P nt ops RI tab ls st l→i∈l→u9 P nt ops RI tab ls st i
 | a::r,i,h,hm=>by
  rcases Qf.1 hm with hm | hm
  ·cases hm;exact h.1
  ·exact oG h.2 hm
section
variable {C:li} {st L':St} {Q:Exit→St→Prop}
def gx (ls:List Bool):Nat:=(ls.filter (!·)).length
theorem qj:∀{ls:List Bool} {i:Nat},i<ls.length→ls.getD i false=false→gx (ls.set i true)+1=gx ls
 | b::ls,0,_,h=>by
  simp at h
  subst h
  simp[gx]
 | b::ls,i+1,hi,h=>by
  have:=qj (ls:=ls) (i:=i) (by simpa using hi) (by simpa using h)
  cases b<;>simp[gx]at this ⊢<;>omega
theorem s9:∀{ls:List Bool},gx ls=0→ls.all id=true
 | [],_=>rfl
 | true::ls,h=>by simp[gx]at h ⊢;simpa using h
 | false::ls,h=>by simp[gx]at h
theorem eG:∀{ls:List Bool},ls.all id=true→ls=List.replicate ls.length true
 | [],_=>rfl
 | true::ls,h=>by
  have:=eG (ls:=ls) (by simpa using h)
  rw[P8,List.replicate_succ,← this]
 | false::ls,h=>by simp at h
theorem Ev.any {rid:Nat} {ops:List Oper} (RI:List (Nat×Ov)) (tab:ud) {V9:St} {p:Prop} (hm:C.P.follows .mixedOrders=true) (hnd:ops.all (fun o=>!cF o)=true) (h0:eY tab (List.replicate ops.length false)=some V9) (hk:s7 st V9=V9)
  (he:eY tab (List.replicate ops.length true)=some L') (h:Dv C.P C.nt ops RI tab tab=p) (hp:p) (hq:Q .normal L'):Ev C (.region rid ops.toArray true) Q st:=fun a w S μ hR=>by
 subst h
 have RB:ops.toArray.size=ops.length:=by simp
 have main:∀(fuel:Nat) (ls:List Bool) (C':Array Bool) (s:St) (S:Nat→Prop) (μ:Nat→Value) (a:Act) (w:World),gx ls=fuel→ls.length=ops.length→C'.size=ops.length→(∀i,C'.getD i false=ls.getD i false) →
   eY tab ls=some s→a5 C S μ s a w→wpAnyIn (nk C.rd) 0 C.P .any ops.toArray (fun e a' w'=>∃L' S' μ',Q e L'∧a5 C S' μ' L' a' w') fuel C' a w:=by
  intro fuel
  induction fuel with
  | zero =>
   intro ls C' s S μ a w hf hl T7 hg hs hR
   have hall:=s9 hf
   have SA:=eG hall
   rw[hl]at SA
   refine⟨List.eq_nil_iff_forall_not_mem.2 (fun i hi=>?_),?_⟩
   ·obtain⟨h1,o,ho,_⟩:=(cV C' (by rw[T7,RB]) i).1 hi
    have Sk:i<ops.length:=by simpa using(Px.1 ho).1
    have hb:(List.replicate ops.length true).getD i false=true:=by simp[List.getD,Qs,Sk]
    rw[hg,SA,hb]at h1
    cases h1
   ·rw[SA,he]at hs
    cases hs
    exact⟨_,S,μ,hq,hR⟩
  | succ fuel ih =>
   intro ls C' s S μ a w hf hl T7 hg hs hR
   have Tm:=s8 hp (qi hs)
   have VC:ls.all id=false:=by
    cases hb:ls.all id
    ·rfl
    ·rw[eG hb]at hf
     simp[gx]at hf
   unfold wI at Tm
   rw[Pj (by rw[VC];simp)]at Tm
   have UO:∀i,i∈Region.ready .any ops.toArray C'↔i∈iz ops ls:=by
    intro i
    rw[cV C' (by rw[T7,RB]) i]
    unfold iz
    rw[Rd,P1]
    unfold JT
    constructor
    ·rintro⟨h1,o,ho,h2⟩
     have SG:ops[i]?=some o:=by simpa using ho
     refine⟨(Pf.1 SG).1,?_⟩
     rw[← hg,h1,SG]
     simp only[Bool.not_false,Bool.true_and,PH,Q1,PS,PR]
     intro e he
     cases hb:Region.binds .any e
     ·exact .inl rfl
     ·exact .inr (by rw[← hg];exact h2 e he hb)
    ·rintro⟨h1,h2⟩
     rw[Pg]at h2
     obtain⟨h2,h3⟩:=h2
     rw[Ph h1]at h3
     refine⟨by rw[hg];simpa using h2,ops[i],by simp[Ph h1],fun e he hb=>?_⟩
     simp only[PH,Q1,PS,PR]at h3
     rcases h3 e he with h4 | h4
     ·rw[hb]at h4;cases h4
     ·rw[hg];exact h4
   have VX:∀i,i∈iz ops ls→u9 C.P C.nt ops RI tab ls s i:=by
    intro i hi
    cases hr:iz ops ls with
    | nil=>rw[hr]at hi;cases hi
    | cons j r =>
     rw[hr]at Tm hi
     exact oG Tm hi
   refine⟨fun UM=>?_,fun i hi=>?_⟩
   ·exfalso
    cases hr:iz ops ls with
    | nil=>rw[hr]at Tm;exact Tm
    | cons j r =>
     have:j∈Region.ready .any ops.toArray C':=(UO j).2 (by rw[hr];exact PT ..)
     rw[UM]at this
     cases this
   ·have hi2:=(UO i).1 hi
    have Sj:=VX i hi2
    obtain⟨Sh,o,ho,_⟩:=(cV C' (by rw[T7,RB]) i).1 hi
    have SG:ops[i]?=some o:=by simpa using ho
    have RF:i<ops.length:=(Pf.1 SG).1
    unfold u9 at Sj
    rw[SG]at Sj
    simp only at Sj
    generalize hsq:cY C.P C.nt ops RI i [o] s=q at Sj
    obtain⟨s1,p1⟩:=q
    simp only at Sj
    split at Sj
    ·rename_i s2 SZ
     obtain⟨Tl,Uo⟩:=Sj
     have next:∀S' μ' a' w',a5 C S' μ' s1 a' w'→wpAnyIn (nk C.rd) 0 C.P .any ops.toArray (fun e a' w'=>∃L' S' μ',Q e L'∧a5 C S' μ' L' a' w') fuel (C'.setIfInBounds i true) a' w':=by
      intro S' μ' a' w' R9
      have U':=R9.keep (s2.env.map (·.1))
      have e2:(⟨ly (s2.env.map (·.1)) s1.env,s1.heap⟩:St)=s2:=Tl
      rw[e2]at U'
      refine ih (ls.set i true) (C'.setIfInBounds i true) s2 S' μ' a' w' ?_ (by simpa using hl) (by simpa using T7) ?_ SZ U'
      ·have:=qj (ls:=ls) (i:=i) (by omega) (by rw[← hg];exact Sh)
       omega
      ·intro j
       rw[a6 _ _ _ (by omega)]
       split
       ·rename_i hj
        rw[hj]
        unfold List.getD
        rw[PB (show i<ls.length by omega)]
        rfl
       ·rename_i hj
        rw[hg]
        unfold List.getD
        rw[PA (by omega)]
     have hdef:cF o=false:=by
      rw[PH]at hnd
      have:=hnd o (PM SG)
      simpa using this
     unfold cY at hsq
     unfold wpOpIn
     rw[ho]
     simp only
     split at hsq
     ·rename_i Ww
      rw[Pn (bZ hR Ww)]
      generalize S9:nP C.P C.nt (nw RI i) o s=q1 at hsq
      obtain⟨s1',p1'⟩:=q1
      simp only[cY,Po]at hsq
      obtain⟨rfl,rfl⟩:=hsq
      exact rN hdef (lC hR S9 Uo.1 next)
     ·rename_i Ww
      rw[Pj (by rw[bZ hR Ww];simp)]
      generalize S9:lx C.nt s o.dst=q1 at hsq
      obtain⟨s1',p1'⟩:=q1
      simp only[cY,Po]at hsq
      obtain⟨rfl,rfl⟩:=hsq
      refine⟨fun f _=>oi C.rd f,?_⟩
      unfold lx at S9
      refine next S μ _ _ (hR.ePut S9 Uo.1 ?_).2
      exact .tup [] #[] rfl (fun j y u hy _=>by simp at hy)
     ·simp only[aW,Po]at hsq
      rw[← hsq.2]at Uo
      exact Uo.elim
    ·exact Sj.elim
 refine wpIn_region_any hm ?_
 have hR0:a5 C S μ st a { w with drawn:=w.drawn+1 }:=hR.grow rfl rfl rfl (Pl _) (fun _ _=>rfl) (fun b hb=>hb) (fun b hb=>.inl hb) (fun b hb=>hR.slt b hb)
 have hR1:=hR0.keep (V9.env.map (·.1))
 have e0:(⟨ly (V9.env.map (·.1)) st.env,st.heap⟩:St)=V9:=hk
 rw[e0]at hR1
 refine main ops.toArray.size (List.replicate ops.length false) (Array.replicate ops.toArray.size false) V9 S μ a _ (by rw[RB];simp[gx]) (by simp) (by simp) (fun i=>by simp[Array.getD,List.getD,Qs];split<;>rfl) h0 hR1
end
end Go.Proofs.Ytnlmlkbaflmgcaa
namespace Go.Proofs.Ytnlmlkbaflmgcaa
open Go.RowKit
set_option linter.unusedVariables false
set_option linter.unusedSimpArgs false
def ta (id:Nat):List D→List D→Prop
 | [],[]=>True
 | .own i::cs,.own j::ds=>i=id∧j=0∧ta id cs ds
 | c::cs,d::ds=>(scal c&&scal d)=true∧zy c d∧ta id cs ds
 | _,_=>False
def z5 (id:Nat):D→D→Prop
 | .own i,.own j=>i=id∧j=0
 | .gr i r,.gr j s=>i=id∧j=0∧r=s
 | .agg cs,.agg ds=>ta id cs ds
 | _,_=>False
section
variable {P:Program} {C:li} {S:Nat→Prop} {μ:Nat→Value} {st:St} {a:Act} {w:World} {Q:Exit→St→Prop}
theorem Dw {S S2:Nat→Prop} {μ μ2:Nat→Value} {w:World} {c d:D} {u:Value} (h:ao S μ w c u) (hs:(scal c&&scal d)=true) (he:zy c d):ao S2 μ2 w d u:=by
 simp only[Pg]at hs
 have h2:ao S μ w d u:=pg he h
 cases d<;>first | (cases hs.2;done) | skip
 cases h2 with
 | v _ _ h=>exact .v _ _ (h.flat hs.2)
theorem vb {S S2:Nat→Prop} {μ:Nat→Value} {w:World} {id:Nat}:∀{cs ds:List D},ta id cs ds→cs.length=ds.length∧∀(j:Nat) (c d:D) (u:Value),cs[j]?=some c→ds[j]?=some d→ao S μ w c u→ao S2 (fun _=>μ id) w d u
 | [],[],_=>⟨rfl,fun j c d u hc=>by simp at hc⟩
 | [],_::_,h=>by simp[ta]at h
 | c::cs,[],h=>by cases c<;>simp[ta]at h
 | c::cs,d::ds,h=>by
  have key:((c=.own id∧d=.own 0)∨((scal c&&scal d)=true∧zy c d))∧ta id cs ds:=by
   cases c<;>first | (obtain⟨h1,h2,h3⟩:=h;exact⟨.inr ⟨h1,h2⟩,h3⟩) | skip
   rename_i i
   cases d<;>first | (obtain⟨h1,h2,h3⟩:=h;cases h1;done) | skip
   obtain⟨rfl,rfl,h3⟩:=h
   exact⟨.inl ⟨rfl,rfl⟩,h3⟩
  obtain⟨q1,q2⟩:=vb (S:=S) (S2:=S2) (μ:=μ) (w:=w) key.2
  refine⟨by simp[q1],fun j x y u hx hy hu=>?_⟩
  match j with
  | 0 =>
   simp at hx hy
   subst hx hy
   rcases key.1 with ⟨rfl,rfl⟩ | ⟨k1,k2⟩
   ·cases hu
    exact ao.own (μ:=fun _=>μ id) 0
   ·exact Dw hu k1 k2
  | j+1=>exact q2 j x y u (by simpa using hx) (by simpa using hy) hu
theorem EP {S S2:Nat→Prop} {μ:Nat→Value} {w:World} {id:Nat} {d r:D} {u:Value} (h:ao S μ w d u) (hr:z5 id d r):ao S2 (fun _=>μ id) w r u:=by
 cases d<;>cases r<;>first | (simp[z5]at hr;done) | skip
 ·obtain⟨rfl,rfl⟩:=hr
  cases h
  exact ao.own (μ:=fun _=>μ _) 0
 ·obtain⟨q1,q2⟩:=vb (S:=S) (S2:=S2) (μ:=μ) (w:=w) hr
  cases h with
  | agg _ us h1 h2 =>
   refine .agg _ us (by omega) (fun j y x hy hx=>?_)
   have hj:j<us.size:=(Px.1 hx).1
   rename_i cs ds
   have hc:cs[j]?=some cs[j]:=Ph (by omega)
   exact q2 j _ y x hc hy (h2 j _ x hc hx)
 ·obtain⟨rfl,rfl,rfl⟩:=hr
  cases h with
  | gr _ _ us _ h1 h2 h3=>exact .gr 0 _ us u h1 h2 h3
theorem Ev.move {c:Code} (j i:Nat) {L':St} (h:Bo j i st=some L') (he:Ev C c Q L'):Ev C c Q st:=fun a w S μ hR=>he a w S _ (hR.move h)
end
end Go.Proofs.Ytnlmlkbaflmgcaa
namespace Go.Proofs.Ytnlmlkbaflmgcaa
open Go.RowKit
set_option linter.unusedVariables false
set_option linter.unusedSimpArgs false
abbrev dI (k:IntKind) (n:Int):D:=.v (.int k n)
abbrev dB (b:Bool):D:=.v (.bool b)
abbrev dS (s:ByteArray):D:=.v (.str s)
abbrev dL {α:Type} (sz:Nat) (enc:α→List V) (d:α) (l:List α):D:=.v (.sl sz enc d l)
abbrev i6 (n:Int):D:=.v (.int .i64 n)
def aa (k:IntKind) (n:Int):List V:=[.int k n]
def bR (b:Bool):List V:=[.bool b]
def dk (s:ByteArray):List V:=[.str s]
abbrev LI (l:List Int):D:=.v (.sl 1 (aa .i64) 0 l)
abbrev LY (l:List Int):D:=.v (.sl 1 (aa .u8) 0 l)
abbrev LB (l:List Bool):D:=.v (.sl 1 bR false l)
theorem oK:True:=⟨⟩
theorem rY {x y:Int} (h:x=y) (h1:-9223372036854775808≤y) (h2:y≤9223372036854775807):IntKind.i64.wrap x=y:=by
 rw[h,IntKind.wrap_i64];omega
theorem Dx {x y:Int} (h:x=y) (h1:0≤y) (h2:y≤18446744073709551615):IntKind.u64.wrap x=y:=by
 rw[h,IntKind.wrap_u64];omega
theorem M9 {x y:Int} (h:x=y) (h1:0≤y) (h2:y≤255):IntKind.u8.wrap x=y:=by
 rw[h,IntKind.wrap_u8'];omega
end Go.Proofs.Ytnlmlkbaflmgcaa
