/-
  Walks on pure data: operations, rules, regions. Generic: over any program.
-/
import Derived.Test.YtckgpflobhpnpaaGreatQKa
import Derived.Laws.MakeOwn
import Derived.Laws.OwnMore
import Derived.KernelRfl
import Derived.Laws.Bits64
import Derived.Laws.BitsAllLaws
namespace Go.Proofs.YtckgpflobhpnpaaGreat
open Go.RowKit
set_option linter.unusedVariables false
set_option linter.unusedSimpArgs false
inductive Ov:Type 1
 | none
 | val (d:D)
 | lift (d:D)
 | box (E:TypeId) (sz:Nat) {α:Type} (enc:α→List V) (d:α) (l:List α)
 | call (as:Option (List D)) (al:Bool) (r:D)
 | callr (id:Nat) (as:List D) (r:D)
 | frz (E:TypeId) (sz:Nat) {α:Type} (enc:α→List V) (d:α) (l:List α)
 | inl (r:D) (env:List (Nat×D)) (H:List aq)
 | inls (r:D)
 | yld (b:Bool) (env:List (Nat×D)) (H:List aq)
 | idx (i:Option Nat)
 | ent (d:D)
 | callg (as:Option (List D)) (al:Bool) (r:D)
 | ownc (as:Option (List D)) (r:D) (B:aq)
 | ownd (as:Option (List D)) (r:D) (B:aq)
 | apf (E sz:Nat) {α:Type} (enc:α→List V) (d:α) (l:List α)
 | mbox (t:TypeId) (ag:Bool) {α:Type} (enc:α→List V) (d:α) (l:List (ByteArray×α))
 | app (fz:Bool) (E sz:Nat) {α:Type} (enc:α→List V) (d:α) (l:List α)
 | cells (gs:List Nat) (cell:Nat→Nat→D)
def vE (H:List aq):D→Bool
 | .agg _=>false
 | .tup _=>false
 | .junk=>false
 | .own id=>match H[id]? with | some (.arr _ _ _ _ _)=>true | some (.ro _ _ _ _ _)=>true | some (.mpb _ _ _ _ _)=>true | some (.arrD _ _ _ _ _)=>true | _=>false
 | _=>true
abbrev R2:=St×Prop
def aQ (st:St):R2:=(st, False)
def Ln:D→Option V
 | .v x=>some x
 | .nils=>some (.sl 0 (α:=Unit) (fun _=>[]) () [])
 | _=>none
def y4:List D→Option (List V)
 | []=>some []
 | d::r=>match Ln d, y4 r with
  | some x, some xs=>some (x::xs)
  | _, _=>none
def uq:List (List D)→Option (List (List V))
 | []=>some []
 | d::r=>match y4 d, uq r with
  | some x, some xs=>some (x::xs)
  | _, _=>none
def HN:D→V→Prop
 | .v x, y=>HG x y
 | .nils, .sl _ _ _ l=>l=[]
 | .nils, .nsl=>True
 | _, _=>False
def cS:List D→List V→Prop
 | [], []=>True
 | d::ds, v::vs=>HN d v∧cS ds vs
 | _, _=>False
def an:List (List D)→List (List V)→Prop
 | [], []=>True
 | d::ds, v::vs=>cS d v∧an ds vs
 | _, _=>False
def o9 (E sz:Nat) (L:List (List V)):Ov→aq×Prop
 | .box E' sz' enc' d' l'=>if Nat.beq E E'&&Nat.beq sz sz' then (.arr E sz enc' d' l', L=l'.map enc')else (.dead, False)
 | _=>(.arr E sz (α:=Nat) (fun i=>L.getD i []) 0 (List.range L.length), True)
def newBox (st:St) (nt:Nat) (dst:Option Nat) (B:aq) (d:D) (p:Prop):R2 :=
 match dst with
 | some t=>if Nat.blt t nt&&bN st.heap.length st.env&&bx st.heap.length st.heap then (⟨xt st.env t d, st.heap++[B]⟩, p)else aQ st
 | none=>aQ st
def eVar (nt:Nat) (st:St) (dst:Option Nat) (T:TypeId) (cs:List D):R2 :=
 if D.freeL st.heap.length cs then newBox st nt dst (.var T cs) (.ptr st.heap.length 0 0 0) True else aQ st
def rQ (sz n i off:Nat) (new:List D) (gs':List Nat) (cell cell':Nat→Nat→D):Prop :=
 ∀i' j, i'<n→j<sz→cell' i' j=(if i'=i∧off≤j∧j<off+new.length then new.getD (j-off) .junk else cell i' j)∧∀id, gs'.all (fun g=>!(Nat.beq g id))=true→(cell' i' j).free id=true
def ur (P:Program) (st:St) (ov:Ov) (t:TypeId) (a x:D):R2 :=
 match a, jC st.heap x with
 | .ptr id i sz off, some new =>
  if ct P t&&Nat.beq new.length (aD P t)&&new.all (vE st.heap)then
   match st.heap[id]? with
   | some (.var T cs)=>if Nat.beq i 0&&Nat.ble (off+new.length) cs.length then (⟨st.env, st.heap.set id (.var T (fk cs new off))⟩, True)else aQ st
   | some (.arr E sz' enc d l)=>match y4 new with
    | some nv=>if Nat.beq sz sz'&&Nat.ble (off+nv.length) sz then
      match o9 E sz ((l.map enc).set i ((enc (l.getD i d)).take off++nv++(enc (l.getD i d)).drop (off+nv.length))) ov with
      | (B, p)=>(⟨st.env, st.heap.set id B⟩, i<l.length∧p)
     else aQ st
    | none=>aQ st
   | some (.arrD E sz' n _ cell)=>match ov with
    | .cells gs' cell'=>if Nat.beq sz sz'&&Nat.ble (off+new.length) sz then (⟨st.env, st.heap.set id (.arrD E sz n gs' cell')⟩, i<n∧rQ sz n i off new gs' cell cell')else aQ st
    | _=>aQ st
   | _=>aQ st
  else aQ st
 | _, _=>aQ st
def pb (sz n:Nat) (cells:List D):List (List D):=(List.range n).map fun i=>(cells.drop (i*sz)).take sz
def rR (P:Program) (nt:Nat) (st:St) (ov:Ov) (dst:Option Nat) (t:TypeId) (len:Nat) (parts:List (Nat×D)):R2 :=
 match P.underlying t with
 | some (.slice E)=>match iB P E with
  | some z=>if ct P E&&Nat.beq z.length (aD P E)&&Nat.ble 1 (aD P E)&&Nat.ble (len*aD P E) 4096 then
    match gz st.heap (fun i=>some (i*aD P E, aD P E)) (List.replicate len z).flatten parts with
    | some cells=>match ov with
     | .box E' sz' enc' d' l'=>if Nat.beq E E'&&Nat.beq (aD P E) sz' then newBox st nt dst (.arr E (aD P E) enc' d' l') (.own st.heap.length) (an (pb (aD P E) len cells) (l'.map enc'))else aQ st
     | _=>match uq (pb (aD P E) len cells)with
      | some L=>newBox st nt dst (.arr E (aD P E) (α:=Nat) (fun i=>L.getD i []) 0 (List.range L.length)) (.own st.heap.length) True
      | none=>aQ st
    | none=>aQ st
   else aQ st
  | none=>aQ st
 | _=>aQ st
def iE (P:Program) (t:TypeId):Nat:=((P.info? t).map (·.bytes)).getD 0
def we (P:Program) (nt:Nat) (st:St) (ov:Ov) (dst:Option Nat) (t:TypeId) (l c:D):R2 :=
 match P.underlying t, l, c with
 | some (.slice E), .v (.int _ n), .v (.int _ m)=>match iB P E with
  | some z=>if ct P E&&Nat.beq z.length (aD P E)&&Nat.ble 1 (aD P E)&&Nat.ble (iE P E) 1024 then
    match ov with
    | .box E' sz' enc' d' l'=>if Nat.beq E E'&&Nat.beq (aD P E) sz' then newBox st nt dst (.arr E (aD P E) enc' d' l') (.own st.heap.length) ((0≤n∧n≤m∧m≤137438953472)∧l'.length=n.toNat∧∀x∈l', cS z (enc' x))else aQ st
    | _=>aQ st
   else aQ st
  | none=>aQ st
 | _, _, _=>aQ st
def wg (H:List aq) (sz:Nat):D→Option (List (List V))
 | .v (.sl sz' enc _ l)=>if Nat.beq sz sz' then some (l.map enc)else none
 | .own id=>match H[id]? with
  | some (.arr _ sz' enc _ l)=>if Nat.beq sz sz' then some (l.map enc)else none
  | _=>none
 | .nils=>some []
 | .v .nsl=>some []
 | .v .esl=>some []
 | _=>none
def xA (P:Program) (nt:Nat) (st:St) (ov:Ov) (dst:Option Nat) (t:TypeId) (s x:D):R2 :=
 match P.underlying t with
 | some (.slice E)=>match iB P E, wg st.heap (aD P E) x with
  | some z, some new=>if ct P E&&Nat.beq z.length (aD P E)&&Nat.ble 1 (aD P E)&&Nat.ble (iE P E) 1024 then
    match s with
    | .own id=>match st.heap[id]?, dst with
     | some (.arr E' sz' enc d l), some td=>if Nat.beq E E'&&Nat.beq sz' (aD P E)&&Nat.blt td nt&&D.free id x then
       match o9 E sz' (l.map enc++new) ov with
       | (B, p)=>(⟨xt (l6 id st.env) td (.own id), bG (bX id st.heap) id B⟩, l.length+new.length≤137438953472∧p)
      else aQ st
     | _, _=>aQ st
    | .nils=>match o9 E (aD P E) new ov with
     | (B, p)=>newBox st nt dst B (.own st.heap.length) (new.length≤137438953472∧p)
    | .capd (.sl sz' enc _ l)=>if Nat.beq sz' (aD P E)then
      match o9 E (aD P E) (l.map enc++new) ov with
      | (B, p)=>newBox st nt dst B (.own st.heap.length) (0<new.length∧l.length+new.length≤137438953472∧p)
     else aQ st
    | _=>aQ st
   else aQ st
  | _, _=>aQ st
 | _=>aQ st
def AI (ag:Bool) (x:D):Option (List V):=if ag then (match x with | .agg ds=>y4 ds | _=>none)else (Ln x).map fun v=>[v]
def xB (P:Program) (st:St) (ov:Ov) (t:TypeId) (m k x:D):R2 :=
 match P.underlying t, m, k with
 | some (.map K E), .own id, .v (.str k)=>match P.underlying K, st.heap[id]?, ov with
  | some .string, some (.mpb t' ag enc d l), .mbox t2 ag2 enc2 d2 l2=>match AI ag x with
   | some vs=>if Nat.beq t t'&&Nat.beq t t2&&(ag==ag2)then (⟨st.env, st.heap.set id (.mpb t ag enc2 d2 l2)⟩, o6 (l.map fun p=>(p.1, enc p.2)) k vs=l2.map fun p=>(p.1, enc2 p.2))else aQ st
   | none=>aQ st
  | _, _, _=>aQ st
 | _, _, _=>aQ st
def ut (P:Program) (nt:Nat) (st:St) (ov:Ov) (dst:Option Nat) (t:TypeId) (s x:D):R2 :=
 match P.underlying t, s, dst with
 | some (.slice E), .own id, some td=>match iB P E, wg st.heap (aD P E) x, st.heap[id]?, ov with
  | some z, some new, some (.arr E0 sz0 enc d l), .apf E' sz' enc' d' l' =>
   if (ct P E&&Nat.beq z.length (aD P E)&&Nat.ble 1 (aD P E)&&Nat.ble (iE P E) 1024)&&(Nat.beq E E0&&Nat.beq sz0 (aD P E)&&Nat.beq E E'&&Nat.beq sz' (aD P E))&&(Nat.blt td nt&&bN st.heap.length st.env&&bx st.heap.length st.heap)then
    (⟨xt (oJ id (.sl (.sl sz0 enc d l)) st.env) td (.v (.sl sz0 enc' d' l')), (fb id (.sl (.sl sz0 enc d l)) st.heap).set id .dead++[.dead]⟩, l.length+new.length≤137438953472∧l.map enc++new=l'.map enc')
   else aQ st
  | _, _, _, _=>aQ st
 | _, _, _=>aQ st
def ePut (nt:Nat) (st:St) (dst:Option Nat) (d:D) (p:Prop):R2 :=
 match dst with
 | some t=>if Nat.blt t nt then (⟨xt st.env t d, st.heap⟩, p)else aQ st
 | none=>(st, p)
def Ck (P:Program) (nt:Nat) (st:St) (dst:Option Nat) (t:TypeId) (x ix:D) (i:Option Nat):R2 :=
 match P.underlying t, x, ix with
 | some (.map K E), .v (.mp es), .v (.int k n)=>match P.underlying K, k with
  | some (.int .i64), .i64=>match i with
   | some j=>match es[j]? with
    | some e=>ePut nt st dst (.tup [D.ofVal e.2, .v (.bool true)]) (n=e.1∧∀e'∈es.take j, n≠e'.1)
    | none=>aQ st
   | none=>match (P.info? E).bind (·.zero)with
    | some z=>ePut nt st dst (.tup [D.ofVal z, .v (.bool false)]) (∀e'∈es, n≠e'.1)
    | none=>aQ st
  | _, _=>aQ st
 | _, _, _=>aQ st
def LH (P:Program) (nt:Nat) (st:St) (dst:Option Nat) (t:TypeId) (x ix:D) (d:D):R2 :=
 match P.underlying t, x, ix with
 | some (.map K E), .v (.mp es), .v (.int k n)=>match P.underlying K, k with
  | some (.int .i64), .i64=>ePut nt st dst (.tup [d, .v (.bool true)]) (∃(j:Nat) (e:Int×Value), es[j]?=some e∧n=e.1∧(∀e'∈es.take j, n≠e'.1)∧ql (D.ofVal e.2) d)
  | _, _=>aQ st
 | _, _, _=>aQ st
def hC (P:Program) (f:FuncId):Bool:=match P.funcs[f]? with
 | some fn=>!(fn.name == "runtime.NumGoroutine")&&!fn.body.isNone
 | none=>false
def pL:Option aq→Bool
 | some .dead=>true
 | _=>false
def LJ (P:Program) (fn:Func) (r:D) (H:List aq):Exit→St→Prop
 | .normal, st=>gC P fn st∧ql (hJ P fn st) r∧st.heap.take H.length=H
 | .ret, st=>gC P fn st∧ql (hJ P fn st) r∧st.heap.take H.length=H
 | _, _=>False
def fV (P:Program) (g:FuncId) (ds:List D) (H:List aq) (r:D) (H':List aq):Prop :=
 ∃fn c, P.funcs[g]?=some fn∧fn.body=some c∧Nat.ble ds.length fn.ntmps=true ∧
  ∀C:lC, C.P=P→C.nt=fn.ntmps→C.rd=none→Ev C c (LJ P fn r H') ⟨iC 0 ds, H⟩
def qt:Exit→LoopState
 | .normal=>.ready
 | _=>.done
def tz:Exit→Option Code
 | .ret=>some .ret
 | .exit i=>some (.exit i)
 | _=>none
def AJ:Exit→Option Bool
 | .normal=>some true
 | .ret=>some false
 | .exit _=>some false
 | _=>none
def xC (id l:Nat) (b:Bool) (H:List aq) (e:Exit) (st:St):Prop :=
 match st.heap[id]? with
 | some (.loop l' tm nt env ps as bd _ _)=>l'=l∧AJ e=some b∧(st.heap.set id (.loop l' tm nt env ps as bd (qt e) (tz e))).take H.length=H
 | _=>False
def AK (C:lC) (body:Code) (id l:Nat) (b:Bool) (H:List aq):Exit→St→Prop
 | .normal, st=>match st.heap[id]? with
  | some (.loop l' tm nt env ps as bd .ready none)=>l'=l∧Ev C body (xC id l b H) ⟨st.env, st.heap.set id (.loop l' tm nt env ps as bd .busy none)⟩
  | _=>False
 | _, _=>False
def qu (P:Program) (l nt:Nat) (assign body:Code) (st:St) (id:Nat) (b:Bool) (H:List aq):Prop :=
 ∀C:lC, C.P=P→C.nt=nt→C.rd=some l→Ev C assign (AK C body id l b H) st
def Cl:List Nat→List D→List (Nat×D)→List (Nat×D)
 | p::ps, d::ds, env=>Cl ps ds (xt env p d)
 | _, _, env=>env
def E5 (P:Program) (nt:Nat) (st:St) (dst:Option Nat) (g:FuncId) (ds:List D) (r:D) (env:List (Nat×D)) (H:List aq):R2 :=
 if hC P g&&bN st.heap.length st.env&&bx st.heap.length st.heap&&pL H[st.heap.length]? then
  ePut nt ⟨env, H⟩ dst r (∀tm:Array Value, fV P g ds (st.heap++[.frame tm st.env]) r (H.set st.heap.length (.frame tm env)))
 else aQ st
def HO (P:Program) (g:FuncId) (ds:List D) (H:List aq) (env:List (Nat×D)) (r:D):Prop:=∀tm:Array Value, fV P g ds (H++[.frame tm env]) r (H++[.frame tm env])
def E6 (P:Program) (nt:Nat) (st:St) (dst:Option Nat) (g:FuncId) (ds:List D) (r:D):R2 :=
 if hC P g&&bN st.heap.length st.env&&bx st.heap.length st.heap then ePut nt ⟨st.env, st.heap++[.dead]⟩ dst r (HO P g ds st.heap st.env r)else aQ st
theorem E7 {P:Program} {nt:Nat} {st st':St} {dst:Option Nat} {g:FuncId} {ds:List D} {r:D} {p:Prop} (h:E6 P nt st dst g ds r=(st', p)) (hp:p) :
  ∃p', E5 P nt st dst g ds r st.env (st.heap++[.dead])=(st', p')∧p':=by
 unfold E6 at h
 unfold E5
 have hd:pL (st.heap++[aq.dead])[st.heap.length]?=true:=by simp[pL]
 have hs:∀B, (st.heap++[aq.dead]).set st.heap.length B=st.heap++[B]:=by intro B;simp
 split at h
 ·rename_i hc
  rw[if_pos (by rw[hc, hd];rfl)]
  unfold ePut at h ⊢
  cases dst with
  | none =>
   simp only[Prod.mk.injEq]at h
   obtain⟨rfl, rfl⟩:=h
   exact⟨_, rfl, fun tm=>by rw[hs];exact hp _⟩
  | some t =>
   simp only at h ⊢
   split at h
   ·rename_i ht
    simp only[Prod.mk.injEq]at h
    obtain⟨rfl, rfl⟩:=h
    rw[if_pos ht]
    exact⟨_, rfl, fun tm=>by rw[hs];exact hp _⟩
   ·simp only[aQ, Prod.mk.injEq]at h
    obtain⟨_, rfl⟩:=h
    exact hp.elim
 ·simp only[aQ, Prod.mk.injEq]at h
  obtain⟨_, rfl⟩:=h
  exact hp.elim
def AL (P:Program) (nt:Nat) (st:St) (dst:Option Nat) (id:Nat) (ds:List D) (b:Bool) (env:List (Nat×D)) (H:List aq):R2 :=
 match st.heap[id]? with
 | some (.loop l tm ntL envL ps as body .ready none) =>
  if bN st.heap.length st.env&&bx st.heap.length st.heap&&pL H[st.heap.length]?&&Nat.beq ps.length ds.length&&ps.all (fun p=>Nat.blt p ntL)then
   ePut nt ⟨env, H⟩ dst (.v (.bool b)) (∀tmF:Array Value, qu P l ntL as body ⟨Cl ps ds envL, st.heap++[.frame tmF st.env]⟩ id b (H.set st.heap.length (.frame tmF env)))
  else aQ st
 | _=>aQ st
def E8 (P:Program) (nt:Nat) (st:St) (ov:Ov) (dst:Option Nat) (f:D) (ds:List D):R2 :=
 match f with
 | .fn (.func g) first cap=>match ov with
  | .call as al r=>if hC P g&&er r&&(!al||fl (first++ds++cap))then
    ePut nt st dst r (pI P g st.heap (first++ds++cap) as al r)
   else aQ st
  | .callr id as r=>if hC P g&&er r then ePut nt st dst r (kA P g st.heap (first++ds++cap) id as r)else aQ st
  | .callg as al r=>if er r&&(!al||fl (first++ds++cap))then
    ePut nt st dst r (hC P g=true∧pI P g st.heap (first++ds++cap) as al r)
   else aQ st
  | .inl r env H=>E5 P nt st dst g (first++ds++cap) r env H
  | .inls r=>E6 P nt st dst g (first++ds++cap) r
  | .ownc as r B=>if hC P g&&AF r&&bN st.heap.length st.env&&bx st.heap.length st.heap then
    ePut nt ⟨st.env, st.heap++[B]⟩ dst (r.up st.heap.length) (xz P g st.heap (first++ds++cap) as r B)
   else aQ st
  | .ownd as r B=>if hC P g&&(AF r&&(B.isOwn&&fl (first++ds++cap)))&&bN st.heap.length st.env&&bx st.heap.length st.heap then
    ePut nt ⟨st.env, st.heap++[B]⟩ dst (r.up st.heap.length) (tx P g st.heap (first++ds++cap) as r B)
   else aQ st
  | _=>aQ st
 | .yld id=>match ov with
  | .yld b env H=>AL P nt st dst id ds b env H
  | _=>aQ st
 | _=>aQ st
def uu (nt:Nat) (st:St) (ov:Ov) (dst:Option Nat) (r:R1):R2 :=
 match ov with
 | .val d'=>ePut nt st dst d' (r.2∧ql r.1 d')
 | .lift d'=>ePut nt st dst d' (r.2∧vY r.1 d')
 | _=>ePut nt st dst r.1 r.2
def pc (P:Program) (nt:Nat) (ov:Ov) (o:Oper) (st:St):R2 :=
 match o.op with
 | .alloc T=>match iB P T with
  | some z=>eVar nt st o.dst T z
  | none=>aQ st
 | .box T x=>match jC st.heap (eB st.env x)with
  | some cs=>eVar nt st o.dst T cs
  | none=>aQ st
 | .store t a x=>match o.dst with
  | none=>ur P st ov t (eB st.env a) (eB st.env x)
  | some _=>aQ st
 | .buildSlice t len parts=>match ov with
  | .frz E sz enc d l=>match rR P nt st (.box E sz enc d l) o.dst t len (parts.toList.map fun p=>(p.1, eB st.env p.2))with
   | (st1, p)=>match nq st.heap.length st1 with
    | some st2=>(st2, p)
    | none=>aQ st
  | _=>rR P nt st ov o.dst t len (parts.toList.map fun p=>(p.1, eB st.env p.2))
 | .makeSlice t l c=>match ov with
  | .frz E sz enc d l'=>match we P nt st (.box E sz enc d l') o.dst t (eB st.env l) (eB st.env c)with
   | (st1, p)=>match nq st.heap.length st1 with
    | some st2=>(st2, p)
    | none=>aQ st
  | _=>we P nt st ov o.dst t (eB st.env l) (eB st.env c)
 | .call ⟨.builtin .append, args, ats⟩=>match args.toList, ats.toList with
  | [s, x], [t, t']=>if Nat.beq t t' then (match ov with | .apf _ _ _ _ _=>ut P nt st ov o.dst t (eB st.env s) (eB st.env x) | _=>xA P nt st ov o.dst t (eB st.env s) (eB st.env x))else aQ st
  | _, _=>aQ st
 | .call ⟨.value f, args, _⟩=>E8 P nt st ov o.dst (eB st.env f) (args.toList.map (eB st.env))
 | .lookup t x ix true=>match ov with
  | .idx i=>Ck P nt st o.dst t (eB st.env x) (eB st.env ix) i
  | .ent d=>LH P nt st o.dst t (eB st.env x) (eB st.env ix) d
  | _=>uu nt st ov o.dst (fX P st.heap (eB st.env) o.op)
 | .makeMap t none=>match ov with
  | .mbox t' ag enc d _=>if Nat.beq t t' then newBox st nt o.dst (.mpb t ag enc d []) (.own st.heap.length) True else aQ st
  | _=>aQ st
 | .mapUpdate t m k x=>match o.dst with
  | none=>xB P st ov t (eB st.env m) (eB st.env k) (eB st.env x)
  | some _=>aQ st
 | op=>uu nt st ov o.dst (fX P st.heap (eB st.env) op)
section
variable {C:lC} {S:Nat→Prop} {μ:Nat→Value} {st st':St} {a:Act} {w w':World} {p:Prop}
theorem aX.newBox (h:aX C S μ st a w) {dst:Option Nat} {B:aq} {d:D} {q:Prop} (hp:newBox st C.nt dst B d q=(st', p)) (hob:p) (hg:w.grownBy w' none) {u:Value}
  (hbox:aJ S (aV μ st.heap.length u) w' u B) (hblk:∀b, bE u b→w.heap.size≤b) {v:Value} (hv:ak S (aV μ st.heap.length u) w' d v) (hro:B.isRo=false:=by rfl) :
  q∧aX C S (aV μ st.heap.length u) st' (a.put dst v) w':=by
 unfold Proofs.YtckgpflobhpnpaaGreat.newBox at hp
 split at hp
 ·split at hp
  ·rename_i t hc
   simp only[Bool.and_eq_true, Nat.blt_eq]at hc
   simp only[Prod.mk.injEq]at hp
   obtain⟨rfl, rfl⟩:=hp
   refine⟨hob, ?_⟩
   have:=(h.upd (id:=st.heap.length) (B:=B) (u:=u) hg (fun k hk=>by cases hk) (Nat.le_refl _) hbox (fun b hb=>.inr (hblk b hb)) (.inr ⟨fun A hA=>by simp at hA, hc.1.2, hc.2⟩) hro).put hc.1.1 hv
   rw[show bG st.heap st.heap.length B=st.heap++[B]from by simp[bG]]at this
   exact this
  ·simp only[aQ, Prod.mk.injEq]at hp
   rw[← hp.2]at hob
   exact hob.elim
 ·simp only[aQ, Prod.mk.injEq]at hp
  rw[← hp.2]at hob
  exact hob.elim
theorem aX.eVar (h:aX C S μ st a w) {dst:Option Nat} {T:TypeId} {cs:List D} {vs:Array Value} (hp:eVar C.nt st dst T cs=(st', p)) (hob:p) (hr:aM S μ w cs vs) :
  aX C S (aV μ st.heap.length (.pointer (some ⟨w.heap.size, 0, none⟩))) st' (a.put dst (.pointer (some ⟨w.heap.size, 0, none⟩))) (w.alloc (.cells vs T)):=by
 unfold Proofs.YtckgpflobhpnpaaGreat.eVar at hp
 split at hp
 ·rename_i hf
  have hg:=World.grownBy_alloc w (.cells vs T) none
  refine(h.newBox hp hob hg ⟨w.heap.size, vs, rfl, heap_alloc_new w _, hr.1, fun j y x hy hx=>?_⟩ (fun b hb=>by simp[bE, aG]at hb;omega) ?_).2
  ·refine(hr.2 j y x hy hx).stable (fun _ h _=>h) (fun b _ hb=>hg.block b hb (by simp)) hg.size (fun id hid=>?_)
   refine aF _ _ (fun e=>?_)
   rw[e, D.freeL_get hf hy]at hid
   cases hid
  ·have:=ak.ptr (S:=S) (μ:=aV μ st.heap.length (.pointer (some ⟨w.heap.size, 0, none⟩))) (w:=w.alloc (.cells vs T)) st.heap.length 0 0 0 w.heap.size (by rw[av];rfl)
   simpa using this
 ·simp only[aQ, Prod.mk.injEq]at hp
  rw[← hp.2]at hob
  exact hob.elim
theorem l8:∀{ds:List D} {xs:List V}, y4 ds=some xs→ds.length=xs.length∧∀(j:Nat) (x:V), xs[j]?=some x→∃d, ds[j]?=some d∧Ln d=some x
 | [], xs, h=>by
  simp only[y4, Option.some.injEq]at h
  subst h
  exact⟨rfl, fun j x hx=>by simp at hx⟩
 | d::r, xs, h=>by
  unfold y4 at h
  split at h
  ·rename_i y ys hy hys
   simp only[Option.some.injEq]at h
   subst h
   obtain⟨h1, h2⟩:=l8 hys
   refine⟨by simp[h1], fun j x hx=>?_⟩
   cases j with
   | zero=>simp at hx;subst hx;exact⟨d, rfl, hy⟩
   | succ j=>simpa using h2 j x (by simpa using hx)
  ·cases h
theorem tA {d:D} {x:V} {u:Value} (h:Ln d=some x) (hd:ak S μ w d u):de S w x u:=by
 unfold Ln at h
 split at h
 ·cases h;exact bg hd
 ·cases h
  cases hd
  exact .nil _ _ _ _ _ (by simp[maxLen]) (fun _=>rfl)
 ·cases h
theorem l9 {d:D} {x:V} {u:Value} (h:HN d x) (hd:ak S μ w d u):de S w x u:=by
 unfold HN at h
 split at h
 ·exact xv h (bg hd)
 ·subst h
  cases hd
  exact .nil _ _ _ _ _ (by simp[maxLen]) (fun _=>rfl)
 ·cases hd
  exact .nsl
 ·exact h.elim
theorem eZ:∀{ds:List D} {xs:List V}, cS ds xs→ds.length=xs.length∧∀(j:Nat) (x:V), xs[j]?=some x→∃d, ds[j]?=some d∧HN d x
 | [], [], _=>⟨rfl, fun j x hx=>by simp at hx⟩
 | [], _::_, h=>h.elim
 | _::_, [], h=>h.elim
 | d::r, y::ys, h=>by
  obtain⟨h1, h2⟩:=eZ h.2
  refine⟨by simp[h1], fun j x hx=>?_⟩
  cases j with
  | zero=>simp at hx;subst hx;exact⟨d, rfl, h.1⟩
  | succ j=>simpa using h2 j x (by simpa using hx)
theorem kB:∀{ds:List (List D)} {xs:List (List V)}, an ds xs→ds.length=xs.length∧∀(j:Nat) (x:List V), xs[j]?=some x→∃d, ds[j]?=some d∧cS d x
 | [], [], _=>⟨rfl, fun j x hx=>by simp at hx⟩
 | [], _::_, h=>h.elim
 | _::_, [], h=>h.elim
 | d::r, y::ys, h=>by
  obtain⟨h1, h2⟩:=kB h.2
  refine⟨by simp[h1], fun j x hx=>?_⟩
  cases j with
  | zero=>simp at hx;subst hx;exact⟨d, rfl, h.1⟩
  | succ j=>simpa using h2 j x (by simpa using hx)
theorem uw:∀{ds:List (List D)} {xs:List (List V)}, uq ds=some xs→ds.length=xs.length∧∀(j:Nat) (x:List V), xs[j]?=some x→∃d, ds[j]?=some d∧y4 d=some x
 | [], xs, h=>by
  simp only[uq, Option.some.injEq]at h
  subst h
  exact⟨rfl, fun j x hx=>by simp at hx⟩
 | d::r, xs, h=>by
  unfold uq at h
  split at h
  ·rename_i y ys hy hys
   simp only[Option.some.injEq]at h
   subst h
   obtain⟨h1, h2⟩:=uw hys
   refine⟨by simp[h1], fun j x hx=>?_⟩
   cases j with
   | zero=>simp at hx;subst hx;exact⟨d, rfl, hy⟩
   | succ j=>simpa using h2 j x (by simpa using hx)
  ·cases h
def eM (S:Nat→Prop) (w:World) (E sz:Nat) (L:List (List V)) (u:Value):Prop :=
 (∀(i:Nat) (x:List V), L[i]?=some x→x.length=sz)∧∃xs, w.ownsRow 0 E sz u L.length xs∧∀(i:Nat) (x:List V) (j:Nat) (y:V), L[i]?=some x→x[j]?=some y→∃z, xs[i*sz+j]?=some z∧de S w y z
theorem eM.box {E sz:Nat} {L:List (List V)} {u:Value} (h:eM S w E sz L u) {α:Type} {enc:α→List V} {d:α} {l:List α} (he:L=l.map enc):aJ S μ w u (.arr E sz enc d l):=by
 subst he
 obtain⟨h0, xs, h1, h2⟩:=h
 exact⟨fun i x hx=>h0 i _ (xu hx), xs, by simpa using h1, fun i x j y hx hy=>h2 i _ j y (xu hx) hy⟩
theorem eM.of {E sz:Nat} {u:Value} {α:Type} {enc:α→List V} {d:α} {l:List α} (h:aJ S μ w u (.arr E sz enc d l)):eM S w E sz (l.map enc) u:=by
 obtain⟨h0, xs, h1, h2⟩:=h
 refine⟨fun i x hx=>?_, xs, by simpa using h1, fun i x j y hx hy=>?_⟩
 ·obtain⟨z, hz, rfl⟩:=dH hx
  exact h0 i z hz
 ·obtain⟨z, hz, rfl⟩:=dH hx
  exact h2 i z j y hz hy
theorem wh (L:List (List V)):(List.range L.length).map (fun i=>L.getD i [])=L:=by
 refine List.ext_getElem (by simp) (fun i h1 h2=>?_)
 simp[List.getD, h2]
theorem ns {E sz:Nat} {L:List (List V)} {ov:Ov} {B:aq} {q:Prop} {u:Value} (h:o9 E sz L ov=(B, q)) (hq:q) (hb:eM S w E sz L u):aJ S μ w u B∧B.isArr=true:=by
 unfold o9 at h
 split at h
 ·split at h
  ·rename_i hc
   simp only[Prod.mk.injEq]at h
   obtain⟨rfl, rfl⟩:=h
   exact⟨hb.box hq, rfl⟩
  ·cases h;exact hq.elim
 ·cases h;exact⟨hb.box (wh L).symm, rfl⟩
theorem E9 {H:List aq} (hH:a9 S μ w H) {d:D} {u:Value} (h:vE H d=true) (hd:ak S μ w d u):u.oneCell'=true:=by
 cases hd with
 | v x u h=>exact h.one
 | nils=>rfl
 | own id =>
  unfold vE at h
  simp only at h
  split at h
  ·rename_i E sz α enc d l hb
   obtain⟨p, c, hu, _⟩:=b6 (hH.box id _ hb)
   rw[hu]
   rfl
  ·rename_i E sz α enc d l hb
   obtain⟨p, c, hu, _⟩:=b6 (hH.box id _ hb).ro_arr
   rw[hu]
   rfl
  ·rename_i t ag α enc d l hb
   obtain⟨b, arr, clock, hu, _⟩:=hH.box id _ hb
   rw[hu]
   rfl
  ·rename_i E sz m gs cell hb
   obtain⟨p, c, hu, _⟩:=iA (hH.box id _ hb)
   rw[hu]
   rfl
  ·cases h
 | ptr=>rfl
 | capd=>rfl
 | gr _ _ _ _ _ _ h=>exact h
 | iptr=>rfl
 | agg=>cases h
 | tup=>cases h
 | fn=>rfl
 | yld=>rfl
 | junk=>cases h
theorem HP {H:List aq} (hH:a9 S μ w H) {cs:List D} {us:Array Value} (hr:aM S μ w cs us) (hall:cs.all (vE H)=true):∀z∈us.toList, z.oneCell'=true:=by
 intro z hz
 obtain⟨j, hj, e⟩:=List.getElem_of_mem hz
 have hj':j<us.size:=by simpa using hj
 have hc:j<cs.length:=by have:=hr.1;omega
 rw[List.all_eq_true]at hall
 exact E9 hH (hall _ (List.getElem_mem hc)) (hr.2 j cs[j] z (List.getElem?_eq_getElem hc) (by rw[← e];simp[hj']))
end
end Go.Proofs.YtckgpflobhpnpaaGreat
namespace Go.Proofs.YtckgpflobhpnpaaGreat
open Go.RowKit
set_option linter.unusedVariables false
set_option linter.unusedSimpArgs false
section
variable {C:lC} {S:Nat→Prop} {μ:Nat→Value} {st st':St} {a:Act} {w w':World} {p:Prop}
theorem dT (w:World) (g:Nat) (cs:Array Value):w.grownBy (w.setRow g cs) (some g) :=
 ⟨rfl, rfl, rfl, by simp[World.setRow], fun k _ hk=>setRow_other w g k _ (fun e=>hk (by rw[e]))⟩
theorem dy (μ:Nat→Value) (id:Nat):aV μ id (μ id)=μ:=by
 funext i
 unfold aV
 split
 ·rename_i h;rw[h]
 ·rfl
theorem gD {α:Type _} (cs new:List α) (off j:Nat) (ho:off+new.length≤cs.length) :
  (cs.take off++new++cs.drop (off+new.length))[j]?=if off≤j∧j<off+new.length then new[j-off]? else cs[j]?:=by
 by_cases hc:off≤j∧j<off+new.length
 ·rw[if_pos hc, List.getElem?_append_left (by simp;omega), List.getElem?_append_right (by simp;omega)]
  congr 1
  simp
  omega
 ·rw[if_neg hc]
  by_cases hj:j<off
  ·rw[List.getElem?_append_left (by simp;omega), List.getElem?_append_left (by simp;omega), List.getElem?_take, if_pos hj]
  ·rw[List.getElem?_append_right (by simp;omega), List.getElem?_drop]
   simp only[List.length_append, List.length_take]
   rw[show off+new.length+(j-(min off cs.length+new.length))=j from by omega]
theorem qv (h:aX C S μ st a w) {ov:Ov} {t:TypeId} {ad x:D} {uad ux:Value} (had:ak S μ w ad uad) (hx:ak S μ w x ux) (hp:ur C.P st ov t ad x=(st', p)) (hob:p) :
  ∃w', (Instr.storeAt t uad ux).run C.P w=.ok () w'∧aX C S μ st' a w':=by
 unfold ur at hp
 split at hp
 ·rename_i id i sz off new hnew
  split at hp
  ·rename_i hc
   simp only[Bool.and_eq_true, Nat.beq_eq]at hc
   obtain⟨⟨hk, hl⟩, hone⟩:=hc
   obtain⟨b, hb, rfl⟩:=nj had
   have hcells:=hD h.heap hx hnew
   have hones:=HP h.heap hcells hone
   have hrun:∀(cur:Array Value) (T:TypeId), w.heap[b]?=some (.cells cur T (0, 0))→i*sz+off+new.length≤cur.size →
     (Instr.storeAt t (.pointer (some ⟨b, i*sz+off, none⟩)) ux).run C.P w=.ok () (w.setRow b (cur.toList.take (i*sz+off)++ux.cells.toList++cur.toList.drop (i*sz+off+ux.cells.toList.length)).toArray):=by
    intro cur T hcur hfit
    have hst:=run_storeCells_at C.P b (i*sz+off) T ux.cells.toList 0 cur w hcur (by simp[hcells.1];exact hfit) hones
    simp only[Nat.add_zero]at hst
    simp only[Instr.storeAt, Instr.sureAddr, Sem.run_bind, Sem.run_pure, Result.andThen_ok]
    unfold storeVar
    simp only[Sem.run_bind, dn hk, Result.andThen_ok]
    rw[if_neg (by rw[hcells.1, hl];simp)]
    exact hst
   split at hp
   ·rename_i T cs hbox
    split at hp
    ·rename_i hc
     simp only[Bool.and_eq_true, Nat.beq_eq, Nat.ble_eq]at hc
     obtain⟨rfl, hfit⟩:=hc
     simp only[Prod.mk.injEq]at hp
     obtain⟨rfl, _⟩:=hp
     obtain⟨b', vs, hm, q1, q2, q3⟩:=h.heap.box id _ hbox
     have hbb:b'=b:=by rw[hm]at hb;simpa[bE, aG]using hb
     subst hbb
     refine⟨_, hrun vs T q1 (by omega), ?_⟩
     simp only[Nat.zero_mul, Nat.zero_add]
     have hid:id<st.heap.length:=(List.getElem?_eq_some_iff.1 hbox).1
     have hu:=h.upd (id:=id) (u:=μ id) (B:=.var T (fk cs new off)) (row:=some b') (dT w b' (vs.toList.take off++ux.cells.toList++vs.toList.drop (off+ux.cells.toList.length)).toArray)
      (fun k hk=>⟨_, hbox, rfl, by cases hk;exact .inl hb⟩) (by omega) ?_ (fun k hk=>.inl (hk.one hb)) (.inl ⟨rfl, .inl rfl⟩)
     ·rw[dy]at hu
      have he:bG st.heap id (.var T (fk cs new off))=st.heap.set id (.var T (fk cs new off)):=by
       unfold bG
       rw[if_neg (by rw[Nat.beq_eq];omega)]
      rwa [he]at hu
     ·rw[dy]
      refine⟨b', _, hm, setRow_heap w b' vs _ T (0, 0) q1, ?_, fun j y z hy hz=>?_⟩
      ·have:=hcells.1
       simp only[List.size_toArray, List.length_append, List.length_take, List.length_drop, Array.length_toList, fk]
       omega
      ·have hsz:=hcells.1
       simp only[List.getElem?_toArray]at hz
       rw[gD _ _ _ _ (by simp;omega)]at hz
       unfold fk at hy
       rw[gD _ _ _ _ hfit]at hy
       have hS:∀k, S k→k<w.heap.size→(w.setRow b' (vs.toList.take off++ux.cells.toList++vs.toList.drop (off+ux.cells.toList.length)).toArray).heap[k]?=w.heap[k]?:=fun k hk _ =>
        setRow_other w b' k _ (fun e=>h.heap.notS id _ b' hbox rfl (.inl hb) (e ▸ hk))
       have hss:w.heap.size≤(w.setRow b' (vs.toList.take off++ux.cells.toList++vs.toList.drop (off+ux.cells.toList.length)).toArray).heap.size:=by simp[World.setRow]
       by_cases hcj:off≤j∧j<off+new.length
       ·rw[if_pos hcj]at hy
        rw[if_pos (by simp;omega)]at hz
        exact(hcells.2 _ _ _ hy (by simpa using hz)).stable (fun _ h _=>h) hS hss (fun _ _=>rfl)
       ·rw[if_neg hcj]at hy
        rw[if_neg (by simp;omega)]at hz
        exact(q3 _ _ _ hy (by simpa using hz)).stable (fun _ h _=>h) hS hss (fun _ _=>rfl)
    ·cases hp;exact hob.elim
   ·rename_i E sz' α enc d l hbox
    split at hp
    ·rename_i nv hnv
     split at hp
     ·rename_i hc
      simp only[Bool.and_eq_true, Nat.beq_eq, Nat.ble_eq]at hc
      obtain⟨rfl, hfit⟩:=hc
      generalize hq:o9 E sz ((l.map enc).set i ((enc (l.getD i d)).take off++nv++(enc (l.getD i d)).drop (off+nv.length))) ov=q at hp
      obtain⟨B, q⟩:=q
      simp only[Prod.mk.injEq]at hp
      obtain⟨rfl, rfl⟩:=hp
      obtain⟨hi, hq'⟩:=hob
      obtain⟨r0, xs, r1, r2⟩:=h.heap.box id _ hbox
      have hnvl:=(l8 hnv).1
      have hx0:l[i]?=some (l.getD i d):=by rw[d9 _ _ hi];exact List.getElem?_eq_getElem hi
      have hel:=r0 i _ hx0
      have hmul:(i+1)*sz≤l.length*sz:=Nat.mul_le_mul_right _ hi
      rw[Nat.succ_mul]at hmul
      obtain⟨g, cap, cur, hm, -, hh, hn, hcap, hcs, htk⟩:∃g cap cur, μ id=.slice (some ⟨g, 0, none⟩) l.length cap∧0≤g∧w.heap[g]?=some (.cells cur E (0, 0))∧l.length≤cap∧cap≤maxLen∧cur.size=cap*sz∧cur.toList.take (l.length*sz)=xs:=by
       rcases r1.2 with ⟨_, h0⟩ | h1
       ·omega
       ·exact h1
      have hgb:g=b:=by rw[hm]at hb;simpa[bE, aG]using hb
      subst hgb
      have hcm:l.length*sz≤cap*sz:=Nat.mul_le_mul_right _ hn
      refine⟨_, hrun cur E hh (by omega), ?_⟩
      have hid:id<st.heap.length:=(List.getElem?_eq_some_iff.1 hbox).1
      have hsz:=hcells.1
      have hfit':i*sz+off+new.length≤cur.size:=by omega
      generalize hrow:(cur.toList.take (i*sz+off)++ux.cells.toList++cur.toList.drop (i*sz+off+ux.cells.toList.length))=row
      have hrowget:∀j, row[j]?=if i*sz+off≤j∧j<i*sz+off+new.length then ux.cells[j-(i*sz+off)]? else cur[j]?:=by
       intro j
       rw[← hrow, gD _ _ _ _ (by simp;omega)]
       simp[hsz]
      have hrowlen:row.length=cur.size:=by
       rw[← hrow]
       simp only[List.length_append, List.length_take, List.length_drop, Array.length_toList]
       omega
      have hS:∀k, S k→k<w.heap.size→(w.setRow g row.toArray).heap[k]?=w.heap[k]?:=fun k hk _ =>
       setRow_other w g k _ (fun e=>h.heap.notS id _ g hbox rfl (.inl hb) (e ▸ hk))
      have hss:w.heap.size≤(w.setRow g row.toArray).heap.size:=by simp[World.setRow]
      have hA:eM S (w.setRow g row.toArray) E sz ((l.map enc).set i ((enc (l.getD i d)).take off++nv++(enc (l.getD i d)).drop (off+nv.length))) (μ id):=by
       refine⟨fun k x hx=>?_, row.take (l.length*sz), ?_, fun k x j y hx hy=>?_⟩
       ·by_cases hki:i=k
        ·subst hki
         rw[List.getElem?_set_self (by simpa using hi)]at hx
         cases hx
         simp only[List.length_append, List.length_take, List.length_drop]
         omega
        ·rw[List.getElem?_set_ne hki]at hx
         obtain⟨z, hz, rfl⟩:=dH hx
         exact r0 k z hz
       ·simp only[List.length_set, List.length_map]
        refine⟨by rw[List.length_take, hrowlen];omega, .inr ⟨g, cap, row.toArray, hm, Nat.zero_le _, setRow_heap w g cur _ E (0, 0) hh, hn, hcap, by simp[hrowlen, hcs], by simp⟩⟩
       ·have hxl:k<l.length:=by
         have:=(List.getElem?_eq_some_iff.1 hx).1
         simpa using this
        have hk1:(k+1)*sz≤l.length*sz:=Nat.mul_le_mul_right _ hxl
        rw[Nat.succ_mul]at hk1
        have old:∀(z:α) (j:Nat) (y:V), l[k]?=some z→(enc z)[j]?=some y→¬(i*sz+off≤k*sz+j∧k*sz+j<i*sz+off+new.length) →
          ∃u, (row.take (l.length*sz))[k*sz+j]?=some u∧de S (w.setRow g row.toArray) y u:=by
         intro z j y hz hy hno
         obtain⟨u, hu, hr⟩:=r2 k z j y hz hy
         have hj:=(List.getElem?_eq_some_iff.1 hy).1
         have hzl:=r0 k z hz
         refine⟨u, ?_, hr.stable (fun _ h _=>h) hS hss⟩
         rw[List.getElem?_take, if_pos (by omega), hrowget, if_neg hno]
         rw[← htk, List.getElem?_take, if_pos (by omega)]at hu
         simpa using hu
        by_cases hki:i=k
        ·subst hki
         rw[List.getElem?_set_self (by simpa using hi)]at hx
         cases hx
         rw[gD _ _ _ _ (by omega)]at hy
         by_cases hcj:off≤j∧j<off+nv.length
         ·rw[if_pos hcj]at hy
          obtain⟨d', hd', htv⟩:=(l8 hnv).2 _ _ hy
          have hju:j-off<ux.cells.size:=by omega
          refine⟨ux.cells[j-off], ?_, ?_⟩
          ·rw[List.getElem?_take, if_pos (by omega), hrowget, if_pos (by omega), show i*sz+j-(i*sz+off)=j-off from by omega]
           exact Array.getElem?_eq_getElem hju
          ·exact(tA htv (hcells.2 _ _ _ hd' (Array.getElem?_eq_getElem hju))).stable (fun _ h _=>h) hS hss
         ·rw[if_neg hcj]at hy
          exact old _ j y hx0 hy (by omega)
        ·rw[List.getElem?_set_ne hki]at hx
         obtain⟨z, hz, rfl⟩:=dH hx
         have hj:=(List.getElem?_eq_some_iff.1 hy).1
         have hzl:=r0 k z hz
         refine old z j y hz hy ?_
         rintro⟨c1, c2⟩
         rcases Nat.lt_or_ge k i with hlt | hge
         ·have:(k+1)*sz≤i*sz:=Nat.mul_le_mul_right _ hlt
          rw[Nat.succ_mul]at this
          omega
         ·have:(i+1)*sz≤k*sz:=Nat.mul_le_mul_right _ (by omega)
          rw[Nat.succ_mul]at this
          omega
      obtain⟨hB, hBa⟩:=ns (μ:=μ) hq hq' hA
      have hu:=h.upd (id:=id) (u:=μ id) (B:=B) (row:=some g) (dT w g row.toArray)
       (fun k hk=>⟨_, hbox, rfl, by cases hk;exact .inl hb⟩) (by omega) (by rw[dy];exact hB) (fun k hk=>.inl (hk.one hb)) (.inl ⟨rfl, .inr ⟨_, hbox, rfl⟩⟩) (lV hBa)
      rw[dy]at hu
      have he:bG st.heap id B=st.heap.set id B:=by
       unfold bG
       rw[if_neg (by rw[Nat.beq_eq];omega)]
      rwa [he]at hu
     ·cases hp;exact hob.elim
    ·cases hp;exact hob.elim
   ·rename_i E sz' n gs cell hbox
    split at hp
    ·rename_i gs' cell'
     split at hp
     ·rename_i hc
      simp only[Bool.and_eq_true, Nat.beq_eq, Nat.ble_eq]at hc
      obtain⟨rfl, hfit⟩:=hc
      simp only[Prod.mk.injEq]at hp
      obtain⟨rfl, rfl⟩:=hp
      obtain⟨hi, hst⟩:=hob
      obtain⟨r0, xs, r1, r2⟩:=h.heap.box id _ hbox
      have hmul:(i+1)*sz≤n*sz:=Nat.mul_le_mul_right _ hi
      rw[Nat.succ_mul]at hmul
      obtain⟨g, cap, cur, hm, -, hh, hn, hcap, hcs, htk⟩:∃g cap cur, μ id=.slice (some ⟨g, 0, none⟩) n cap∧0≤g∧w.heap[g]?=some (.cells cur E (0, 0))∧n≤cap∧cap≤maxLen∧cur.size=cap*sz∧cur.toList.take (n*sz)=xs:=by
       rcases r1.2 with ⟨_, h0⟩ | h1
       ·omega
       ·exact h1
      have hgb:g=b:=by rw[hm]at hb;simpa[bE, aG]using hb
      subst hgb
      have hcm:n*sz≤cap*sz:=Nat.mul_le_mul_right _ hn
      refine⟨_, hrun cur E hh (by omega), ?_⟩
      have hid:id<st.heap.length:=(List.getElem?_eq_some_iff.1 hbox).1
      have hsz:=hcells.1
      have hfit':i*sz+off+new.length≤cur.size:=by omega
      generalize hrow:(cur.toList.take (i*sz+off)++ux.cells.toList++cur.toList.drop (i*sz+off+ux.cells.toList.length))=row
      have hrowget:∀j, row[j]?=if i*sz+off≤j∧j<i*sz+off+new.length then ux.cells[j-(i*sz+off)]? else cur[j]?:=by
       intro j
       rw[← hrow, gD _ _ _ _ (by simp;omega)]
       simp[hsz]
      have hrowlen:row.length=cur.size:=by
       rw[← hrow]
       simp only[List.length_append, List.length_take, List.length_drop, Array.length_toList]
       omega
      have hS:∀k, S k→k<w.heap.size→(w.setRow g row.toArray).heap[k]?=w.heap[k]?:=fun k hk _ =>
       setRow_other w g k _ (fun e=>h.heap.notS id _ g hbox rfl (.inl hb) (e ▸ hk))
      have hss:w.heap.size≤(w.setRow g row.toArray).heap.size:=by simp[World.setRow]
      have hB:aJ S μ (w.setRow g row.toArray) (μ id) (.arrD E sz n gs' cell'):=by
       refine⟨fun i' j k hi' hj hk=>(hst i' j hi' hj).2 k hk, row.take (n*sz), ⟨by rw[List.length_take, hrowlen];omega, .inr ⟨g, cap, row.toArray, hm, Nat.zero_le _, setRow_heap w g cur _ E (0, 0) hh, hn, hcap, by simp[hrowlen, hcs], by simp⟩⟩, fun i' j hi' hj=>?_⟩
       have hk1:(i'+1)*sz≤n*sz:=Nat.mul_le_mul_right _ hi'
       rw[Nat.succ_mul]at hk1
       rw[(hst i' j hi' hj).1]
       by_cases hcj:i'=i∧off≤j∧j<off+new.length
       ·rw[if_pos hcj]
        obtain⟨rfl, c1, c2⟩:=hcj
        have hju:j-off<ux.cells.size:=by omega
        refine⟨ux.cells[j-off], ?_, hones _ (by simp), ?_⟩
        ·rw[List.getElem?_take, if_pos (by omega), hrowget, if_pos (by omega), show i'*sz+j-(i'*sz+off)=j-off from by omega]
         exact Array.getElem?_eq_getElem hju
        ·have hn':new[j-off]?=some (new.getD (j-off) .junk):=by rw[d9 _ _ (by omega)];exact List.getElem?_eq_getElem (by omega)
         exact(hcells.2 _ _ _ hn' (Array.getElem?_eq_getElem hju)).stable (fun _ h _=>h) hS hss (fun _ _=>rfl)
       ·rw[if_neg hcj]
        obtain⟨z, hz, ho, hr⟩:=r2 i' j hi' hj
        refine⟨z, ?_, ho, hr.stable (fun _ h _=>h) hS hss (fun _ _=>rfl)⟩
        rw[List.getElem?_take, if_pos (by omega), hrowget, if_neg]
        ·rw[← htk, List.getElem?_take, if_pos (by omega)]at hz
         simpa using hz
        ·rintro⟨c1, c2⟩
         rcases Nat.lt_trichotomy i' i with hlt | heq | hgt
         ·have:(i'+1)*sz≤i*sz:=Nat.mul_le_mul_right _ hlt
          rw[Nat.succ_mul]at this
          omega
         ·subst heq
          exact hcj ⟨rfl, by omega, by omega⟩
         ·have:(i+1)*sz≤i'*sz:=Nat.mul_le_mul_right _ hgt
          rw[Nat.succ_mul]at this
          omega
      have hu:=h.upd (id:=id) (u:=μ id) (B:=.arrD E sz n gs' cell') (row:=some g) (dT w g row.toArray)
       (fun k hk=>⟨_, hbox, rfl, by cases hk;exact .inl hb⟩) (by omega) (by rw[dy];exact hB) (fun k hk=>.inl (hk.one hb)) (.inl ⟨rfl, .inl rfl⟩)
      rw[dy]at hu
      have he:bG st.heap id (.arrD E sz n gs' cell')=st.heap.set id (.arrD E sz n gs' cell'):=by
       unfold bG
       rw[if_neg (by rw[Nat.beq_eq];omega)]
      rwa [he]at hu
     ·cases hp;exact hob.elim
    ·cases hp;exact hob.elim
   ·cases hp;exact hob.elim
  ·cases hp;exact hob.elim
 ·cases hp;exact hob.elim
end
end Go.Proofs.YtckgpflobhpnpaaGreat
namespace Go.Proofs.YtckgpflobhpnpaaGreat
open Go.RowKit
set_option linter.unusedVariables false
set_option linter.unusedSimpArgs false
section
variable {C:lC} {S:Nat→Prop} {μ:Nat→Value} {st st':St} {a:Act} {w w':World} {p:Prop}
theorem jk {P:Program} {E:TypeId} {z:List D} (hz:iB P E=some z):∃(i:TypeInfo) (v:Value), P.info? E=some i∧i.zero=some v∧z=v.cells.toList.map D.ofVal1∧i.size=aD P E∧i.bytes=iE P E:=by
 unfold iB at hz
 cases hi:P.info? E with
 | none=>simp[hi]at hz
 | some i =>
  cases hv:i.zero with
  | none=>simp[hi, hv]at hz
  | some v =>
   simp only[hi, hv, Option.bind_some, Option.map_some, Option.some.injEq]at hz
   exact⟨i, v, rfl, hv, hz.symm, by simp[aD, hi], by simp[iE, hi]⟩
theorem wi {k sz:Nat} (h:0<sz):k=(k / sz)*sz+k%sz:=by
 have:=Nat.div_add_mod k sz
 rw[Nat.mul_comm]at this
 omega
theorem y5 {α:Type _} (z:List α) (sz:Nat) (hz:z.length=sz) (hs:0<sz):∀(n k:Nat), (List.replicate n z).flatten[k]?=if k<n*sz then z[k%sz]? else none
 | 0, k=>by simp
 | n+1, k=>by
  rw[List.replicate_succ, List.flatten_cons, Nat.succ_mul]
  by_cases hk:k<sz
  ·rw[List.getElem?_append_left (by omega), if_pos (by omega), Nat.mod_eq_of_lt hk]
  ·rw[List.getElem?_append_right (by omega), y5 z sz hz hs n (k-z.length), hz]
   by_cases hk2:k<n*sz+sz
   ·rw[if_pos (by omega), if_pos hk2]
    congr 1
    rw[← Nat.mod_eq_sub_mod (by omega)]
   ·rw[if_neg (by omega), if_neg hk2]
theorem rS {P:Program} {z:List D} {zv:Array Value} (hz:aM S μ w z zv) {sz:Nat} (hzl:z.length=sz) (hs:0<sz) (n:Nat):aM S μ w (List.replicate n z).flatten ((Array.range (n*sz)).map (zv[·%zv.size]!)):=by
 have hl:(List.replicate n z).flatten.length=n*sz:=by simp[hzl]
 refine⟨by simp[hl], fun j y u hy hu=>?_⟩
 have hj:j<n*sz:=by rw[← hl];exact(List.getElem?_eq_some_iff.1 hy).1
 rw[y5 z sz hzl hs, if_pos hj]at hy
 have hm:j%sz<zv.size:=by rw[hz.1, hzl];exact Nat.mod_lt _ hs
 simp only[Array.getElem?_map, Array.getElem?_range, hj, if_true, Option.map_some, Option.some.injEq]at hu
 refine hz.2 (j%sz) y u hy ?_
 rw[← hu, hz.1, hzl]
 simp[hm]
theorem jR (sz n:Nat) (cells:List D) {i:Nat} {x:List D} (h:(pb sz n cells)[i]?=some x):i<n∧x=(cells.drop (i*sz)).take sz:=by
 unfold pb at h
 obtain⟨k, hk, rfl⟩:=dH h
 have hi:=(List.getElem?_eq_some_iff.1 hk)
 obtain⟨h1, h2⟩:=hi
 simp at h1 h2
 subst h2
 exact⟨h1, rfl⟩
theorem tB {E sz n:Nat} {cells:List D} {vs:Array Value} (hr:aM S μ w cells vs) (hl:cells.length=n*sz) (hn:n≤maxLen) {L:List (List V)} (hLl:L.length=n)
  (hL:∀(i:Nat) (x:List V), L[i]?=some x→x.length=sz∧∀(j:Nat) (y:V), x[j]?=some y→∃d, cells[i*sz+j]?=some d∧∀u, ak S μ w d u→de S w y u)
  (hS:∀b, S b→b<w.heap.size):eM S (w.alloc (.cells vs E)) E sz L (.slice (some ⟨w.heap.size, 0, none⟩) n n):=by
 subst hLl
 refine⟨fun i x hx=>(hL i x hx).1, vs.toList, World.ownsRow_lit w vs L.length (Nat.zero_le _) hn (by rw[hr.1, hl]), fun i x j y hx hy=>?_⟩
 obtain⟨d, hd, hrep⟩:=(hL i x hx).2 j y hy
 have hlt:i*sz+j<vs.size:=by rw[hr.1];exact(List.getElem?_eq_some_iff.1 hd).1
 refine⟨vs[i*sz+j], by simp[hlt], ?_⟩
 exact(hrep _ (hr.2 _ _ _ hd (Array.getElem?_eq_getElem hlt))).stable (fun _ h _=>h) (fun b hb hl=>Below.heap_alloc w _ b hl) (by simp)
theorem iG {P:Program} {t E:TypeId} {len:Nat} {uparts:List (Nat×Value)} {i:TypeInfo} {v:Value} (hu:P.underlying t=some (.slice E)) (hi:P.info? E=some i) (hv:i.zero=some v) (hcap:len*i.size≤4096)
  {cells:Array Value} (hf:Instr.fill (fun k=>some (k*i.size, i.size)) ((Array.range (len*i.size)).map (v.cells[·%v.cells.size]!)) uparts=some cells) :
  (Instr.buildSlice t len uparts.toArray).run P w=.ok (.slice (some ⟨w.heap.size, 0, none⟩) len len) (w.alloc (.cells cells E)):=by
 by_cases hn:len*i.size=0
 ·have e0:(Array.range (len*i.size)).map (v.cells[·%v.cells.size]!)=#[]:=by rw[hn];simp[Array.range_zero']
  rw[e0]at hf
  have e1:∀f:Nat→Value, (Array.range 0).map f=#[]:=fun f=>by simp[Array.range_zero']
  unfold Instr.buildSlice
  simp only[Sem.run_bind, run_underlying hu, Result.andThen_ok, sizeOf, typeInfo, program]
  simp only[Sem.run, hi, Sem.run_pure, Result.andThen_ok]
  rw[if_neg (by omega), if_pos hn]
  simp only[Sem.run_pure, Result.andThen_ok, hn, e1, hf]
  simp[newRow, newObj, Sem.run]
 ·unfold Instr.buildSlice
  simp only[Sem.run_bind, run_underlying hu, Result.andThen_ok, sizeOf, typeInfo, program]
  simp only[Sem.run, hi, Sem.run_pure, Result.andThen_ok]
  rw[if_neg (by omega), if_neg hn]
  have hz:(zeroValue E).run P w=.ok v w:=by simp[zeroValue, typeInfo, hi, hv, Sem.run_bind]
  simp only[Sem.run_bind, hz, Sem.run_pure, Result.andThen_ok, hf]
  simp[newRow, newObj, Sem.run]
end
end Go.Proofs.YtckgpflobhpnpaaGreat
namespace Go.Proofs.YtckgpflobhpnpaaGreat
open Go.RowKit
set_option linter.unusedVariables false
set_option linter.unusedSimpArgs false
section
variable {C:lC} {S:Nat→Prop} {μ:Nat→Value} {st st':St} {a:Act} {w w':World} {p:Prop}
theorem au {X:Prop} (hp:aQ st=(st', p)) (hob:p):X:=by
 simp only[aQ, Prod.mk.injEq]at hp
 rw[← hp.2]at hob
 exact hob.elim
theorem kC {sz n:Nat} {cells:List D} {i j:Nat} {x:List D} {d:D} (h:(pb sz n cells)[i]?=some x) (hd:x[j]?=some d):cells[i*sz+j]?=some d:=by
 obtain⟨_, rfl⟩:=jR sz n cells h
 rw[List.getElem?_take]at hd
 split at hd
 ·rw[List.getElem?_drop]at hd;exact hd
 ·cases hd
theorem xD (h:aX C S μ st a w) {ov:Ov} {dst:Option Nat} {t:TypeId} {len:Nat} {parts:List (Nat×D)} {uparts:List (Nat×Value)} (h1:parts.map (·.1)=uparts.map (·.1))
  (h2:∀(j:Nat) (x:Nat×D) (u:Nat×Value), parts[j]?=some x→uparts[j]?=some u→ak S μ w x.2 u.2) (hp:rR C.P C.nt st ov dst t len parts=(st', p)) (hob:p) :
  ∃u w' μ', (Instr.buildSlice t len uparts.toArray).run C.P w=.ok u w'∧aX C S μ' st' (a.put dst u) w':=by
 unfold rR at hp
 split at hp
 ·rename_i E hu
  split at hp
  ·rename_i z hz
   split at hp
   ·rename_i hc
    simp only[Bool.and_eq_true, Nat.beq_eq, Nat.ble_eq]at hc
    obtain⟨⟨⟨hk, hzl⟩, hs1⟩, hcap⟩:=hc
    obtain⟨i, v, hi, hv, hzz, hsz, hby⟩:=jk hz
    split at hp
    ·rename_i cells hf
     have hzr:aM S μ w z v.cells:=by
      obtain⟨v', hv', hr⟩:=gA (P:=C.P) (S:=S) (μ:=μ) (w:=w) hz
      have:v'=v:=by
       have:(zeroValue E).run C.P w=.ok v w:=by simp[zeroValue, typeInfo, hi, hv, Sem.run_bind]
       rw[this]at hv'
       cases hv'
       rfl
      rwa [this]at hr
     have hflat:=rS (P:=C.P) hzr hzl (by omega) len
     obtain⟨vs, hfill, hvs⟩:=eW h.heap parts uparts _ cells _ h1 h2 hflat hf
     rw[← hsz]at hfill
     have hrun:=iG (P:=C.P) (w:=w) hu hi hv (by rw[hsz];exact hcap) hfill
     have hcl:cells.length=len*aD C.P E:=by
      have:∀(parts:List (Nat×D)) (c0 out:List D), gz st.heap (fun i=>some (i*aD C.P E, aD C.P E)) c0 parts=some out→out.length=c0.length:=by
       intro parts
       induction parts with
       | nil=>intro c0 out h;simp only[gz, Option.some.injEq]at h;rw[h]
       | cons q r ih =>
        intro c0 out h
        obtain⟨k, x⟩:=q
        unfold gz at h
        split at h
        ·split at h
         ·rename_i hcond
          simp only[Bool.and_eq_true, Nat.ble_eq]at hcond
          rw[ih _ _ h]
          simp[fk]
          omega
         ·cases h
        ·cases h
      rw[this _ _ _ hf]
      simp[hzl]
     have hlen:len≤maxLen:=by
      have:len*1≤len*aD C.P E:=Nat.mul_le_mul_left _ hs1
      simp only[maxLen]
      omega
     have fin:∀(L:List (List V)) (B:aq) (q:Prop), newBox st C.nt dst B (.own st.heap.length) q=(st', p)→(q→eM S (w.alloc (.cells vs E)) E (aD C.P E) L (.slice (some ⟨w.heap.size, 0, none⟩) len len)∧(eM S (w.alloc (.cells vs E)) E (aD C.P E) L (.slice (some ⟨w.heap.size, 0, none⟩) len len)→aJ S (aV μ st.heap.length (.slice (some ⟨w.heap.size, 0, none⟩) len len)) (w.alloc (.cells vs E)) (.slice (some ⟨w.heap.size, 0, none⟩) len len) B))→B.isRo=false →
       ∃u w' μ', (Instr.buildSlice t len uparts.toArray).run C.P w=.ok u w'∧aX C S μ' st' (a.put dst u) w':=by
      intro L B q hp hB hro
      have hq:q:=by
       unfold newBox at hp
       split at hp
       ·split at hp
        ·simp only[Prod.mk.injEq]at hp;rw[← hp.2]at hob;exact hob
        ·exact au hp hob
       ·exact au hp hob
      obtain⟨b1, b2⟩:=hB hq
      refine⟨_, _, _, hrun, (h.newBox hp hob (World.grownBy_alloc w _ none) (b2 b1) (fun b hb=>by simp[bE, aG]at hb;omega) ?_ hro).2⟩
      have:=ak.own (S:=S) (μ:=aV μ st.heap.length (.slice (some ⟨w.heap.size, 0, none⟩) len len)) (w:=w.alloc (.cells vs E)) st.heap.length
      rwa [av]at this
     split at hp
     ·rename_i E' sz' α enc' d' l'
      split at hp
      ·rename_i hc
       simp only[Bool.and_eq_true, Nat.beq_eq]at hc
       obtain⟨rfl, rfl⟩:=hc
       refine fin (l'.map enc') _ _ hp (fun hq=>⟨?_, fun hA=>hA.box rfl⟩) rfl
       obtain⟨q1, q2⟩:=kB hq
       refine tB hvs hcl hlen (by rw[← q1];simp[pb]) (fun i x hx=>?_) h.slt
       obtain⟨r, hr, hrow⟩:=q2 i x hx
       obtain⟨r1, r2⟩:=eZ hrow
       obtain⟨hin, rfl⟩:=jR _ _ _ hr
       refine⟨?_, fun j y hy=>?_⟩
       ·rw[← r1, List.length_take, List.length_drop, hcl]
        have:(i+1)*aD C.P E≤len*aD C.P E:=Nat.mul_le_mul_right _ hin
        rw[Nat.succ_mul]at this
        omega
       ·obtain⟨d, hd, hdy⟩:=r2 j y hy
        exact⟨d, kC hr hd, fun u hu=>l9 hdy hu⟩
      ·exact au hp hob
     ·split at hp
      ·rename_i L hL
       refine fin L _ _ hp (fun _=>⟨?_, fun hA=>hA.box (wh L).symm⟩) rfl
       obtain⟨q1, q2⟩:=uw hL
       refine tB hvs hcl hlen (by rw[← q1];simp[pb]) (fun i x hx=>?_) h.slt
       obtain⟨r, hr, hrow⟩:=q2 i x hx
       obtain⟨r1, r2⟩:=l8 hrow
       obtain⟨hin, rfl⟩:=jR _ _ _ hr
       refine⟨?_, fun j y hy=>?_⟩
       ·rw[← r1, List.length_take, List.length_drop, hcl]
        have:(i+1)*aD C.P E≤len*aD C.P E:=Nat.mul_le_mul_right _ hin
        rw[Nat.succ_mul]at this
        omega
       ·obtain⟨d, hd, hdy⟩:=r2 j y hy
        exact⟨d, kC hr hd, fun u hu=>tA hdy hu⟩
      ·exact au hp hob
    ·exact au hp hob
   ·exact au hp hob
  ·exact au hp hob
 ·exact au hp hob
theorem _root_.Nat.mul_add_mod_of_lt' {k sz j:Nat} (h:j<sz):(k*sz+j)%sz=j:=by
 rw[Nat.mul_comm, Nat.mul_add_mod, Nat.mod_eq_of_lt h]
theorem aJ.arr_mk {E sz:Nat} {u:Value} {α:Type} {enc:α→List V} {d:α} {l:List α} (h:eM S w E sz (l.map enc) u):aJ S μ w u (.arr E sz enc d l):=h.box rfl
theorem y6 (h:aX C S μ st a w) {ov:Ov} {dst:Option Nat} {t:TypeId} {l c:D} {ul uc:Value} (hl:ak S μ w l ul) (hc:ak S μ w c uc) (hp:we C.P C.nt st ov dst t l c=(st', p)) (hob:p) :
  ∃u w' μ', (Instr.makeSlice t ul uc).run C.P w=.ok u w'∧aX C S μ' st' (a.put dst u) w':=by
 unfold we at hp
 split at hp
 ·rename_i E kl n kc m hu
  split at hp
  ·rename_i z hz
   split at hp
   ·rename_i hcond
    simp only[Bool.and_eq_true, Nat.beq_eq, Nat.ble_eq]at hcond
    obtain⟨⟨⟨hk, hzl⟩, hs1⟩, hby1⟩:=hcond
    obtain⟨i, v, hi, hv, hzz, hsz, hby⟩:=jk hz
    rw[bM hl, bM hc]
    split at hp
    ·rename_i E' sz' α enc' d' l'
     split at hp
     ·rename_i hcc
      simp only[Bool.and_eq_true, Nat.beq_eq]at hcc
      obtain⟨rfl, rfl⟩:=hcc
      have hq:(0≤n∧n≤m∧m≤137438953472)∧l'.length=n.toNat∧∀x∈l', cS z (enc' x):=by
       have hp':=hp
       unfold newBox at hp'
       split at hp'
       ·split at hp'
        ·simp only[Prod.mk.injEq]at hp';rw[← hp'.2]at hob;exact hob
        ·exact au hp' hob
       ·exact au hp' hob
      obtain⟨⟨h0, hnm, hm⟩, hlen, hrows⟩:=hq
      have hbm:(i.bytes:Int)*m≤281474976710656:=by
       have h9:(i.bytes:Int)≤1024:=by omega
       have:(i.bytes:Int)*m≤1024*m:=Int.mul_le_mul_of_nonneg_right h9 (by omega)
       omega
      have hrun:=run_make (P:=C.P) w t E i v hu hi hv kl kc n m h0 hnm hbm (by omega)
      refine⟨_, _, _, hrun, (h.newBox (u:=.slice (some ⟨w.heap.size, 0, none⟩) n.toNat m.toNat) hp hob (World.grownBy_alloc w _ none) (aJ.arr_mk ?_) (fun b hb=>by simp[bE, aG]at hb;omega) ?_).2⟩
      ·have hzr:aM S μ w z v.cells:=by
        rw[hzz]
        refine⟨by simp, fun j y u hy hu=>?_⟩
        simp only[List.getElem?_map, Array.getElem?_toList, hu, Option.map_some, Option.some.injEq]at hy
        subst hy
        exact ak.ofVal1 S μ w u
       have hvs:v.cells.size=aD C.P E:=by rw[hzr.1, hzl]
       refine⟨fun k x hx=>?_, (madeCells v.cells (m.toNat*i.size)).toList.take (n.toNat*aD C.P E), ?_, fun k x j y hx hy=>?_⟩
       ·obtain⟨q, hq, rfl⟩:=dH hx
        rw[← (eZ (hrows q (List.mem_of_getElem? hq))).1, hzl]
       ·have hle:n.toNat*aD C.P E≤m.toNat*i.size:=by rw[hsz];exact Nat.mul_le_mul_right _ (by omega)
        refine⟨by simp[size_madeCells, hlen];omega, .inr ⟨w.heap.size, m.toNat, madeCells v.cells (m.toNat*i.size), by simp[hlen], Nat.zero_le _, heap_alloc_new w _, by simp[hlen];omega, by simp only[maxLen];omega, by rw[size_madeCells, hsz], by simp[hlen]⟩⟩
       ·obtain⟨q, hq, rfl⟩:=dH hx
        have hkl:k<n.toNat:=by rw[← hlen];exact(List.getElem?_eq_some_iff.1 hq).1
        obtain⟨r1, r2⟩:=eZ (hrows q (List.mem_of_getElem? hq))
        obtain⟨d, hd, hdy⟩:=r2 j y hy
        have hj:j<aD C.P E:=by rw[← hzl];exact(List.getElem?_eq_some_iff.1 hd).1
        have hjv:j<v.cells.size:=by omega
        have hkk:(k+1)*aD C.P E≤n.toNat*aD C.P E:=Nat.mul_le_mul_right _ hkl
        rw[Nat.succ_mul]at hkk
        have hle:n.toNat*aD C.P E≤m.toNat*i.size:=by rw[hsz];exact Nat.mul_le_mul_right _ (by omega)
        refine⟨v.cells[j], ?_, (l9 hdy (hzr.2 j d _ hd (Array.getElem?_eq_getElem hjv))).stable (fun _ h _=>h) (fun b hb hl=>Below.heap_alloc w _ b hl) (by simp)⟩
        rw[List.getElem?_take, if_pos (by omega), Array.getElem?_toList]
        unfold madeCells
        rw[Array.getElem?_map, Array.getElem?_range, if_pos (by omega)]
        simp only[Option.map_some, Option.some.injEq]
        rw[hvs, Nat.mul_add_mod_of_lt' hj]
        simp[hjv]
      ·have:=ak.own (S:=S) (μ:=aV μ st.heap.length (.slice (some ⟨w.heap.size, 0, none⟩) n.toNat m.toNat)) (w:=w.alloc (.cells (madeCells v.cells (m.toNat*i.size)) E)) st.heap.length
       rwa [av]at this
     ·exact au hp hob
    ·exact au hp hob
   ·exact au hp hob
  ·exact au hp hob
 ·exact au hp hob
end
end Go.Proofs.YtckgpflobhpnpaaGreat
namespace Go.Proofs.YtckgpflobhpnpaaGreat
open Go.RowKit
set_option linter.unusedVariables false
set_option linter.unusedSimpArgs false
section
variable {P:Program} {S:Nat→Prop} {μ:Nat→Value} {w:World}
theorem eJ (t ty e:TypeId) (i:TypeInfo) (z:Value) (ht:P.underlying t=some (.slice e)) (hi:P.info? e=some i) (hz:i.zero=some z) (hzs:z.cells.size=i.size)
  {v:Value} {n:Nat} {xs:List Value} (hown:w.ownsRow 0 e i.size v n xs) {pa:Option Addr} {m c:Nat} {news:List Value} (hpa:pa=none→c=0∧m=0)
  (hl:news.length=m*i.size) (hnews:∀ad, pa=some ad→∀(j:Nat) (u:Value), news[j]?=some u→w.cell? (ad.add j)=some u) (h1:∀u∈news, u.oneCell'=true)
  (h63:n+m≤maxLen) (hbytes:(n+m)*i.bytes≤140737488355328) :
  ∃v' w', (Builtin.append_ #[t, t] ty #[v, .slice pa m c]).run P w=.ok v' w'∧w'.ownsRow 0 e i.size v' (n+m) (xs++news)∧w.grownBy w' v.ownBlock∧(v'.ownBlock=v.ownBlock∨v'.ownBlock=some w.heap.size):=by
 cases pa with
 | none =>
  obtain⟨rfl, rfl⟩:=hpa rfl
  have hn:news=[]:=List.eq_nil_of_length_eq_zero (by simpa using hl)
  subst hn
  exact⟨v, w, run_append_owned_none (P:=P) w 0 t ty e i i.size ht hi v n xs hown, by simpa using hown, ⟨rfl, rfl, rfl, Nat.le_refl _, fun _ _ _=>rfl⟩, .inl rfl⟩
 | some ad =>
  have hnw:=hnews ad rfl
  have hsmall:n+m≤9223372036854775807:=by simp only[maxLen]at h63;omega
  have hlen:(xs++news).length=(n+m)*i.size:=by rw[List.length_append, hown.1, hl, Nat.add_mul]
  have grown:∀(old:Nat) (row:Option Nat),
    (w.drew.alloc (.cells (xs.toArray++news.toArray++Builtin.zeroCells z.cells (grownCap w (n+m) old e-(n+m))) e)).ownsRow 0 e i.size
     (.slice (some ⟨w.heap.size, 0, none⟩) (n+m) (grownCap w (n+m) old e)) (n+m) (xs++news) ∧
    w.grownBy (w.drew.alloc (.cells (xs.toArray++news.toArray++Builtin.zeroCells z.cells (grownCap w (n+m) old e-(n+m))) e)) row:=by
   intro old row
   have hge:=grownCap_ge w (n+m) old e
   have hcm:grownCap w (n+m) old e≤maxLen:=grownCap_le_maxLen w (n+m) old e h63
   refine⟨⟨hlen, .inr ⟨w.heap.size, _, _, rfl, Nat.zero_le _, heap_alloc_new w.drew _, hge, hcm, ?_, ?_⟩⟩, ⟨rfl, rfl, rfl, by simp, fun k hk _=>Below.heap_alloc w.drew _ k hk⟩⟩
   ·simp only[Array.size_append, List.size_toArray, size_zeroCells, hzs, hown.1, hl, ← Nat.add_mul]
    congr 1
    omega
   ·simp only[Array.toList_append, List.append_assoc]
    rw[← List.append_assoc, ← hlen]
    exact List.take_left
  rcases hown.2 with ⟨rfl, rfl⟩ | ⟨g, cap, cur, rfl, hbg, hg, hnc, hcm, hcs, htake⟩
  ·have hx:xs=[]:=List.eq_nil_of_length_eq_zero (by simpa using hown.1)
   subst hx
   by_cases hm:m=0
   ·subst hm
    have hn:news=[]:=List.eq_nil_of_length_eq_zero (by simpa using hl)
    subst hn
    refine⟨.slice none 0 0, w, ?_, World.ownsRow_nil w 0 e i.size, ⟨rfl, rfl, rfl, Nat.le_refl _, fun _ _ _=>rfl⟩, .inl rfl⟩
    simp[Builtin.append_, run_underlying ht, sizeOf, typeInfo, hi, Builtin.lenOf, Builtin.firstCells, loadCells, loadCellsFrom]
   ·have hr:=run_append_nil (P:=P) w t ty e i z ht hi hz ad m c news hl hnw (by omega) (by omega) (by have hb:=hbytes;simp only[Nat.zero_add]at hb;omega)
    have hgr:=grown 0 (Value.ownBlock (.slice none 0 0))
    simp only[Nat.zero_add, List.nil_append, Array.empty_append]at hgr ⊢
    exact⟨_, _, hr, hgr.1, hgr.2, .inr rfl⟩
  ·by_cases hroom:n+m≤cap
   ·have hfit:n*i.size+news.length≤cur.size:=by rw[hl, hcs, ← Nat.add_mul];exact Nat.mul_le_mul_right _ hroom
    have hr:=run_append_room (P:=P) w t ty e i ht hi g n cap cur hg ad m c news hl hnw h1 hroom hfit
    refine⟨_, _, hr, ⟨hlen, .inr ⟨g, cap, _, rfl, hbg, setRow_heap w g cur _ e _ hg, hroom, hcm, ?_, ?_⟩⟩, dT w g _, .inl rfl⟩
    ·simp only[List.size_toArray, List.length_append, List.length_take, List.length_drop, Array.length_toList]
     omega
    ·rw[htake, ← hlen]
     exact List.take_left
   ·have holds:∀j u, xs[j]?=some u→w.cell? ((⟨g, 0, none⟩:Addr).add j)=some u:=hown.cells (g:=g) rfl
    have hr:=run_append_grow (P:=P) w t ty e i z ht hi hz ⟨g, 0, none⟩ n cap xs hown.1 holds ad m c news hl hnw (by omega) (by omega) (growslice_fits (by omega) hbytes)
    have hgr:=grown cap (Value.ownBlock (.slice (some ⟨g, 0, none⟩) n cap))
    exact⟨_, _, hr, hgr.1, hgr.2, .inr rfl⟩
theorem tb (t ty e:TypeId) (i:TypeInfo) (z:Value) (ht:P.underlying t=some (.slice e)) (hi:P.info? e=some i) (hz:i.zero=some z) (hzs:z.cells.size=i.size)
  {v:Value} {n:Nat} {xs:List Value} (hown:w.ownsRow 0 e i.size v n xs) {pa:Option Addr} {m c:Nat} {news:List Value} (hpa:pa=none→c=0∧m=0)
  (hl:news.length=m*i.size) (hnews:∀ad, pa=some ad→∀(j:Nat) (u:Value), news[j]?=some u→w.cell? (ad.add j)=some u) (h1:∀u∈news, u.oneCell'=true)
  (h63:n+m≤maxLen) (hbytes:(n+m)*i.bytes≤140737488355328) :
  ∃v' w', (Builtin.append_ #[t, t] ty #[v, .slice pa m c]).run P w=.ok v' w'∧w'.ownsRow 0 e i.size v' (n+m) (xs++news)∧w.grownBy w' v.ownBlock∧(v'.ownBlock=v.ownBlock∨(v'.ownBlock=some w.heap.size∧w.grownBy w' none))∧w'.ownsRow 0 e i.size v n xs:=by
 cases pa with
 | none =>
  obtain⟨rfl, rfl⟩:=hpa rfl
  have hn:news=[]:=List.eq_nil_of_length_eq_zero (by simpa using hl)
  subst hn
  exact⟨v, w, run_append_owned_none (P:=P) w 0 t ty e i i.size ht hi v n xs hown, by simpa using hown, ⟨rfl, rfl, rfl, Nat.le_refl _, fun _ _ _=>rfl⟩, .inl rfl, hown⟩
 | some ad =>
  have hnw:=hnews ad rfl
  have hsmall:n+m≤9223372036854775807:=by simp only[maxLen]at h63;omega
  have hlen:(xs++news).length=(n+m)*i.size:=by rw[List.length_append, hown.1, hl, Nat.add_mul]
  have grown:∀(old:Nat) (row:Option Nat),
    (w.drew.alloc (.cells (xs.toArray++news.toArray++Builtin.zeroCells z.cells (grownCap w (n+m) old e-(n+m))) e)).ownsRow 0 e i.size
     (.slice (some ⟨w.heap.size, 0, none⟩) (n+m) (grownCap w (n+m) old e)) (n+m) (xs++news) ∧
    w.grownBy (w.drew.alloc (.cells (xs.toArray++news.toArray++Builtin.zeroCells z.cells (grownCap w (n+m) old e-(n+m))) e)) row:=by
   intro old row
   have hge:=grownCap_ge w (n+m) old e
   have hcm:grownCap w (n+m) old e≤maxLen:=grownCap_le_maxLen w (n+m) old e h63
   refine⟨⟨hlen, .inr ⟨w.heap.size, _, _, rfl, Nat.zero_le _, heap_alloc_new w.drew _, hge, hcm, ?_, ?_⟩⟩, ⟨rfl, rfl, rfl, by simp, fun k hk _=>Below.heap_alloc w.drew _ k hk⟩⟩
   ·simp only[Array.size_append, List.size_toArray, size_zeroCells, hzs, hown.1, hl, ← Nat.add_mul]
    congr 1
    omega
   ·simp only[Array.toList_append, List.append_assoc]
    rw[← List.append_assoc, ← hlen]
    exact List.take_left
  rcases hown.2 with ⟨rfl, rfl⟩ | ⟨g, cap, cur, rfl, hbg, hg, hnc, hcm, hcs, htake⟩
  ·have hx:xs=[]:=List.eq_nil_of_length_eq_zero (by simpa using hown.1)
   subst hx
   by_cases hm:m=0
   ·subst hm
    have hn:news=[]:=List.eq_nil_of_length_eq_zero (by simpa using hl)
    subst hn
    refine⟨.slice none 0 0, w, ?_, World.ownsRow_nil w 0 e i.size, ⟨rfl, rfl, rfl, Nat.le_refl _, fun _ _ _=>rfl⟩, .inl rfl, World.ownsRow_nil w 0 e i.size⟩
    simp[Builtin.append_, run_underlying ht, sizeOf, typeInfo, hi, Builtin.lenOf, Builtin.firstCells, loadCells, loadCellsFrom]
   ·have hr:=run_append_nil (P:=P) w t ty e i z ht hi hz ad m c news hl hnw (by omega) (by omega) (by have hb:=hbytes;simp only[Nat.zero_add]at hb;omega)
    have hgr:=grown 0 (Value.ownBlock (.slice none 0 0))
    simp only[Nat.zero_add, List.nil_append, Array.empty_append]at hgr ⊢
    exact⟨_, _, hr, hgr.1, hgr.2, .inr ⟨rfl, hgr.2⟩, World.ownsRow_nil _ 0 e i.size⟩
  ·by_cases hroom:n+m≤cap
   ·have hfit:n*i.size+news.length≤cur.size:=by rw[hl, hcs, ← Nat.add_mul];exact Nat.mul_le_mul_right _ hroom
    have hr:=run_append_room (P:=P) w t ty e i ht hi g n cap cur hg ad m c news hl hnw h1 hroom hfit
    refine⟨_, _, hr, ⟨hlen, .inr ⟨g, cap, _, rfl, hbg, setRow_heap w g cur _ e _ hg, hroom, hcm, ?_, ?_⟩⟩, dT w g _, .inl rfl, ⟨hown.1, .inr ⟨g, cap, _, rfl, hbg, setRow_heap w g cur _ e _ hg, hnc, hcm, ?_, ?_⟩⟩⟩
    ·simp only[List.size_toArray, List.length_append, List.length_take, List.length_drop, Array.length_toList]
     omega
    ·rw[htake, ← hlen]
     exact List.take_left
    ·simp only[List.size_toArray, List.length_append, List.length_take, List.length_drop, Array.length_toList]
     omega
    ·rw[htake]
     simp only[List.append_assoc]
     rw[← hown.1]
     exact List.take_left
   ·have holds:∀j u, xs[j]?=some u→w.cell? ((⟨g, 0, none⟩:Addr).add j)=some u:=hown.cells (g:=g) rfl
    have hr:=run_append_grow (P:=P) w t ty e i z ht hi hz ⟨g, 0, none⟩ n cap xs hown.1 holds ad m c news hl hnw (by omega) (by omega) (growslice_fits (by omega) hbytes)
    have hgr:=grown cap (Value.ownBlock (.slice (some ⟨g, 0, none⟩) n cap))
    have hgn:=(grown cap none).2
    exact⟨_, _, hr, hgr.1, hgr.2, .inr ⟨rfl, hgn⟩, ⟨hown.1, .inr ⟨g, cap, cur, rfl, hbg, by rw[hgn.block g (Array.getElem?_eq_some_iff.1 hg).1 (by simp)];exact hg, hnc, hcm, hcs, htake⟩⟩⟩
theorem jl {H:List aq} (hH:a9 S μ w H) {sz:Nat} (hs:1≤sz) {x:D} {new:List (List V)} {ux:Value} (hn:wg H sz x=some new) (hx:ak S μ w x ux) :
  ∃(pa:Option Addr) (c:Nat) (news:List Value), ux=.slice pa new.length c∧(pa=none→c=0∧new.length=0)∧news.length=new.length*sz ∧
   (∀ad, pa=some ad→∀(j:Nat) (u:Value), news[j]?=some u→w.cell? (ad.add j)=some u)∧(∀u∈news, u.oneCell'=true) ∧
   (∀(i:Nat) (x:List V), new[i]?=some x→x.length=sz)∧∀(i:Nat) (x:List V) (j:Nat) (y:V), new[i]?=some x→x[j]?=some y→∃z, news[i*sz+j]?=some z∧de S w y z:=by
 have key:∀(news:List Value), news.length=new.length*sz→(∀(i:Nat) (x:List V), new[i]?=some x→x.length=sz) →
   (∀(i:Nat) (x:List V) (j:Nat) (y:V), new[i]?=some x→x[j]?=some y→∃z, news[i*sz+j]?=some z∧de S w y z)→∀u∈news, u.oneCell'=true:=by
  intro news hl h0 h2 u hu
  obtain⟨k, hk, rfl⟩:=List.getElem_of_mem hu
  have hi:k / sz<new.length:=by
   rw[Nat.div_lt_iff_lt_mul (by omega)]
   omega
  have hj:k%sz<new[k / sz].length:=by
   rw[h0 _ _ (List.getElem?_eq_getElem hi)]
   exact Nat.mod_lt _ (by omega)
  obtain⟨z, hz, hr⟩:=h2 _ _ _ _ (List.getElem?_eq_getElem hi) (List.getElem?_eq_getElem hj)
  rw[← wi (by omega)]at hz
  rw[List.getElem?_eq_getElem hk]at hz
  cases hz
  exact hr.one
 unfold wg at hn
 split at hn
 ·rename_i sz' α enc d l
  split at hn
  ·rename_i hsz
   rw[Nat.beq_eq]at hsz
   subst hsz
   cases hn
   obtain⟨p, c, rfl, h1, h2, h3, h4⟩:=fe (bg hx)
   by_cases h0:0<l.length
   ·obtain⟨b, off, us, rfl, q1, q2, q3, q4, q5⟩:=h4 h0
    have hz:∀(k:Nat), k<l.length*sz→∃(z:α) (y:V), l[k / sz]?=some z∧(enc z)[k%sz]?=some y:=by
     intro k hk
     have hi:k / sz<l.length:=by rw[Nat.div_lt_iff_lt_mul (by omega)];exact hk
     have hzl:=q3 _ _ (List.getElem?_eq_getElem hi)
     have hj:k%sz<(enc l[k / sz]).length:=by rw[hzl];exact Nat.mod_lt _ (by omega)
     exact⟨_, _, List.getElem?_eq_getElem hi, List.getElem?_eq_getElem hj⟩
    have r0:∀(i:Nat) (x:List V), (l.map enc)[i]?=some x→x.length=sz:=fun i x hx=>by obtain⟨z, hz, rfl⟩:=dH hx;exact q3 i z hz
    have r2:∀(i:Nat) (x:List V) (j:Nat) (y:V), (l.map enc)[i]?=some x→x[j]?=some y→∃z, ((List.range (l.length*sz)).map fun k=>us (k / sz) (k%sz))[i*sz+j]?=some z∧de S w y z:=by
     intro i x j y hx hy
     have hi:i<l.length:=by have:=(List.getElem?_eq_some_iff.1 hx).1;simpa using this
     have hxl:=r0 i x hx
     have hj:j<sz:=by rw[← hxl];exact(List.getElem?_eq_some_iff.1 hy).1
     obtain⟨z, hz, rfl⟩:=dH hx
     have hm:(i+1)*sz≤l.length*sz:=Nat.mul_le_mul_right _ hi
     rw[Nat.succ_mul]at hm
     refine⟨us i j, ?_, q5 i z j y hz hy⟩
     rw[List.getElem?_map, List.getElem?_range (by omega)]
     simp only[Option.map_some, Option.some.injEq]
     rw[Nat.mul_add_mod_of_lt' hj, Nat.mul_comm i sz, Nat.mul_add_div (by omega), Nat.div_eq_of_lt hj, Nat.add_zero]
    refine⟨some ⟨b, off, none⟩, c, (List.range (l.length*sz)).map fun k=>us (k / sz) (k%sz), by simp, (fun h=>by cases h), by simp, ?_, key _ (by simp) r0 r2, r0, r2⟩
    rintro ad hadd j u hu
    cases hadd
    obtain⟨k, hk, rfl⟩:=dH hu
    obtain⟨h5, h6⟩:=List.getElem?_eq_some_iff.1 hk
    simp at h5 h6
    subst h6
    obtain⟨z, y, hz1, hz2⟩:=hz j h5
    rw[cZ, ← q4 _ _ _ _ hz1 hz2, ← wi (by omega)]
   ·have hl:l=[]:=List.eq_nil_of_length_eq_zero (by omega)
    subst hl
    exact⟨p, c, [], rfl, fun h=>⟨h3 h, rfl⟩, by simp, fun ad _ j u hu=>by simp at hu, fun u hu=>by simp at hu, fun i x hx=>by simp at hx, fun i x j y hx=>by simp at hx⟩
  ·cases hn
 ·rename_i id
  split at hn
  ·rename_i E sz' α enc d l hbox
   split at hn
   ·rename_i hsz
    rw[Nat.beq_eq]at hsz
    subst hsz
    cases hn
    rw[bQ hx]
    have hA:=eM.of (hH.box id _ hbox)
    obtain⟨p, c, hm, q1, q2, q3, q4⟩:=b6 (hH.box id _ hbox)
    obtain⟨r0, xs, r1, r2⟩:=hA
    refine⟨p, c, xs, by rw[hm];simp, fun hp=>⟨q3 hp, by rw[List.length_map];have:=q3 hp;omega⟩, r1.1, ?_, key xs r1.1 r0 r2, r0, r2⟩
    rintro ad rfl j u hu
    by_cases h0:0<l.length
    ·obtain⟨g, hg⟩:=q4 h0
     cases hg
     rw[cZ, Nat.zero_add]
     exact ni r1 (by rw[hm];rfl) j u hu
    ·have:xs.length=0:=by rw[r1.1, List.length_map, show l.length=0 from by omega];simp
     have hxs:xs=[]:=List.eq_nil_of_length_eq_zero this
     subst hxs
     simp at hu
   ·cases hn
  ·cases hn
 ·cases hn
  cases hx
  exact⟨none, 0, [], rfl, fun _=>⟨rfl, rfl⟩, by simp, fun ad h=>(by cases h), fun u hu=>by simp at hu, fun i x hx=>by simp at hx, fun i x j y hx=>by simp at hx⟩
 ·cases hn
  have hx:=bg hx
  cases hx
  exact⟨none, 0, [], rfl, fun _=>⟨rfl, rfl⟩, by simp, fun ad h=>(by cases h), fun u hu=>by simp at hu, fun i x hx=>by simp at hx, fun i x j y hx=>by simp at hx⟩
 ·cases hn
  have hx:=bg hx
  cases hx with
  | esl p c hc=>exact⟨some p, c, [], rfl, fun h=>(by cases h), by simp, fun ad h j u hu=>by simp at hu, fun u hu=>by simp at hu, fun i x hx=>by simp at hx, fun i x j y hx=>by simp at hx⟩
 ·cases hn
theorem eM.append {w':World} {E sz:Nat} {L new:List (List V)} {u':Value} {xs news:List Value} (h0:∀(i:Nat) (x:List V), L[i]?=some x→x.length=sz) (hxl:xs.length=L.length*sz)
  (h2:∀(i:Nat) (x:List V) (j:Nat) (y:V), L[i]?=some x→x[j]?=some y→∃z, xs[i*sz+j]?=some z∧de S w' y z)
  (n0:∀(i:Nat) (x:List V), new[i]?=some x→x.length=sz)
  (n2:∀(i:Nat) (x:List V) (j:Nat) (y:V), new[i]?=some x→x[j]?=some y→∃z, news[i*sz+j]?=some z∧de S w' y z)
  (ho:w'.ownsRow 0 E sz u' (L.length+new.length) (xs++news)):eM S w' E sz (L++new) u':=by
 refine⟨fun i x hx=>?_, xs++news, by rw[List.length_append];exact ho, fun i x j y hx hy=>?_⟩
 ·by_cases hi:i<L.length
  ·rw[List.getElem?_append_left hi]at hx;exact h0 i x hx
  ·rw[List.getElem?_append_right (by omega)]at hx;exact n0 _ x hx
 ·by_cases hi:i<L.length
  ·rw[List.getElem?_append_left hi]at hx
   obtain⟨z, hz, hr⟩:=h2 i x j y hx hy
   exact⟨z, by rw[List.getElem?_append_left (List.getElem?_eq_some_iff.1 hz).1];exact hz, hr⟩
  ·rw[List.getElem?_append_right (by omega)]at hx
   obtain⟨z, hz, hr⟩:=n2 _ x j y hx hy
   refine⟨z, ?_, hr⟩
   have hm:L.length*sz≤i*sz:=Nat.mul_le_mul_right _ (by omega)
   rw[List.getElem?_append_right (by omega), hxl]
   rw[Nat.sub_mul]at hz
   rw[← hz]
   congr 1
   omega
theorem tc (t ty e:TypeId) (i:TypeInfo) (z:Value) (ht:P.underlying t=some (.slice e)) (hi:P.info? e=some i) (hz:i.zero=some z) (hzs:z.cells.size=i.size)
  {p:Option Addr} {n:Nat} {xs:List Value} (hpn:p=none→n=0) (hxl:xs.length=n*i.size) (holds:∀ad, p=some ad→∀(j:Nat) (u:Value), xs[j]?=some u→w.cell? (ad.add j)=some u) {pa:Option Addr} {m c:Nat} {news:List Value} (hpa:pa=none→c=0∧m=0)
  (hl:news.length=m*i.size) (hnews:∀ad, pa=some ad→∀(j:Nat) (u:Value), news[j]?=some u→w.cell? (ad.add j)=some u) (hm0:0<m)
  (h63:n+m≤maxLen) (hbytes:(n+m)*i.bytes≤140737488355328) :
  ∃v' w', (Builtin.append_ #[t, t] ty #[.slice p n n, .slice pa m c]).run P w=.ok v' w'∧w'.ownsRow 0 e i.size v' (n+m) (xs++news)∧w.grownBy w' none∧v'.ownBlock=some w.heap.size:=by
 cases pa with
 | none=>have:=(hpa rfl).2;omega
 | some ad =>
  have hnw:=hnews ad rfl
  have hsmall:n+m≤9223372036854775807:=by simp only[maxLen]at h63;omega
  have hlen:(xs++news).length=(n+m)*i.size:=by rw[List.length_append, hxl, hl, Nat.add_mul]
  have grown:∀(old:Nat) (row:Option Nat),
    (w.drew.alloc (.cells (xs.toArray++news.toArray++Builtin.zeroCells z.cells (grownCap w (n+m) old e-(n+m))) e)).ownsRow 0 e i.size
     (.slice (some ⟨w.heap.size, 0, none⟩) (n+m) (grownCap w (n+m) old e)) (n+m) (xs++news) ∧
    w.grownBy (w.drew.alloc (.cells (xs.toArray++news.toArray++Builtin.zeroCells z.cells (grownCap w (n+m) old e-(n+m))) e)) row:=by
   intro old row
   have hge:=grownCap_ge w (n+m) old e
   have hcm:grownCap w (n+m) old e≤maxLen:=grownCap_le_maxLen w (n+m) old e h63
   refine⟨⟨hlen, .inr ⟨w.heap.size, _, _, rfl, Nat.zero_le _, heap_alloc_new w.drew _, hge, hcm, ?_, ?_⟩⟩, ⟨rfl, rfl, rfl, by simp, fun k hk _=>Below.heap_alloc w.drew _ k hk⟩⟩
   ·simp only[Array.size_append, List.size_toArray, size_zeroCells, hzs, hxl, hl, ← Nat.add_mul]
    congr 1
    omega
   ·simp only[Array.toList_append, List.append_assoc]
    rw[← List.append_assoc, ← hlen]
    exact List.take_left
  cases p with
  | none =>
   have hn:=hpn rfl
   subst hn
   have hx:xs=[]:=List.eq_nil_of_length_eq_zero (by simpa using hxl)
   subst hx
   have hr:=run_append_nil (P:=P) w t ty e i z ht hi hz ad m c news hl hnw (by omega) (by omega) (by have hb:=hbytes;simp only[Nat.zero_add]at hb;omega)
   have hgr:=grown 0 none
   simp only[Nat.zero_add, List.nil_append, Array.empty_append]at hgr ⊢
   exact⟨_, _, hr, hgr.1, hgr.2, rfl⟩
  | some b =>
   have hr:=run_append_grow (P:=P) w t ty e i z ht hi hz b n n xs hxl (holds b rfl) ad m c news hl hnw (by omega) (by omega) (growslice_fits (by omega) hbytes)
   have hgr:=grown n none
   exact⟨_, _, hr, hgr.1, hgr.2, rfl⟩
end
section
variable {C:lC} {S:Nat→Prop} {μ:Nat→Value} {st st':St} {a:Act} {w w':World} {p:Prop}
theorem vG (h:aX C S μ st a w) {ov:Ov} {dst:Option Nat} {t ty:TypeId} {s x:D} {us ux:Value} (hs:ak S μ w s us) (hx:ak S μ w x ux) (hp:xA C.P C.nt st ov dst t s x=(st', p)) (hob:p) :
  ∃u w' μ', (Builtin.append_ #[t, t] ty #[us, ux]).run C.P w=.ok u w'∧aX C S μ' st' (a.put dst u) w':=by
 unfold xA at hp
 split at hp
 ·rename_i E hu
  split at hp
  ·rename_i z new hz hnew
   split at hp
   ·rename_i hcond
    simp only[Bool.and_eq_true, Nat.beq_eq, Nat.ble_eq]at hcond
    obtain⟨⟨⟨hk, hzl⟩, hs1⟩, hby1⟩:=hcond
    obtain⟨i, v, hi, hv, hzz, hsz, hby⟩:=jk hz
    have hvs:v.cells.size=i.size:=by rw[hsz, ← hzl, hzz];simp
    obtain⟨pa, c, news, rfl, n1, n2, n3, n4, n5, n6⟩:=jl h.heap hs1 hnew hx
    rw[← hsz]at n2 n6 n5
    have bytes:∀k, k≤137438953472→k*i.bytes≤140737488355328:=by
     intro k hk
     have:k*i.bytes≤137438953472*1024:=Nat.mul_le_mul hk (by omega)
     omega
    split at hp
    ·rename_i id
     split at hp
     ·rename_i E' sz' α enc d l td hbox
      split at hp
      ·rename_i hcc
       simp only[Bool.and_eq_true, Nat.beq_eq, Nat.blt_eq]at hcc
       obtain⟨⟨⟨rfl, rfl⟩, htd⟩, hfx⟩:=hcc
       generalize hq:o9 E (aD C.P E) (l.map enc++new) ov=q at hp
       obtain⟨B, q⟩:=q
       simp only[Prod.mk.injEq]at hp
       obtain⟨rfl, rfl⟩:=hp
       obtain⟨hlen, hq'⟩:=hob
       have hus:=bQ hs
       subst hus
       obtain⟨r0, xs, r1, r2⟩:=eM.of (h.heap.box id _ hbox)
       simp only[List.length_map]at r1
       have hmax:l.length+new.length≤maxLen:=by simp only[maxLen];omega
       obtain⟨v', w', hrun, ho, hg, hblk⟩:=eJ (P:=C.P) (w:=w) t ty E i v hu hi hv hvs (by rw[hsz];exact r1) n1 n2 n3 n4 hmax (bytes _ hlen)
       have hown:(μ id).ownBlock=aG (μ id):=by
        obtain⟨p', c', hm, _⟩:=b6 (h.heap.box id _ hbox)
        rw[hm]
        cases p'<;>rfl
       have hid:id<st.heap.length:=(List.getElem?_eq_some_iff.1 hbox).1
       have hSw:∀b, S b→b<w.heap.size→w'.heap[b]?=w.heap[b]?:=fun b hb hl=>hg.block b hl (fun e=>h.heap.notS id _ b hbox rfl (.inl (by rw[← hown];exact e.symm)) hb)
       have hA:eM S w' E (aD C.P E) (l.map enc++new) v':=by
        rw[hsz]at ho n2 n5 n6
        refine eM.append r0 (by rw[r1.1];simp) (fun k x j y hx hy=>?_) n5 (fun k x j y hx hy=>?_) (by simpa using ho)
        ·obtain⟨z, hz, hr⟩:=r2 k x j y hx hy
         exact⟨z, hz, hr.stable (fun _ h _=>h) hSw hg.size⟩
        ·obtain⟨z, hz, hr⟩:=n6 k x j y hx hy
         exact⟨z, hz, hr.stable (fun _ h _=>h) hSw hg.size⟩
       obtain⟨hB, hBa⟩:=ns (μ:=aV μ id v') hq hq' hA
       have hK:=h.kill id
       have hboxK:(bX id st.heap)[id]?=some (.arr E (aD C.P E) enc d l):=by rw[eX, hbox];rfl
       have hv'b:∀b, bE v' b→(μ id).ownBlock=some b∨w.heap.size≤b:=by
        intro b hb
        have hb:=hb.bl (by rcases ho.2 with ⟨rfl, _⟩ | ⟨g, cap, cur, rfl, _⟩<;>rfl)
        have hvv:v'.ownBlock=aG v':=by
         rcases ho.2 with ⟨rfl, _⟩ | ⟨g, cap, cur, rfl, _⟩<;>rfl
        rcases hblk with hblk | hblk
        ·exact .inl (by rw[← hblk, hvv];exact hb)
        ·rw[hvv, hb]at hblk
         cases hblk
         exact .inr (Nat.le_refl _)
       have hu2:=hK.upd (id:=id) (B:=B) (row:=(μ id).ownBlock) (u:=v') hg (fun k hk=>⟨_, hboxK, rfl, .inl (by rw[← hown];exact hk)⟩) (by show id≤(bX id st.heap).length;rw[bR];omega)
        hB hv'b (.inr ⟨fun A hA=>by have hA':(bX id st.heap)[id]?=some A:=hA;rw[hboxK]at hA';cases hA';rfl, pF id _, pG id _⟩) (lV hBa)
       refine⟨v', w', _, hrun, hu2.put htd ?_⟩
       have:=ak.own (S:=S) (μ:=aV μ id v') (w:=w') id
       rwa [av]at this
      ·exact au hp hob
     ·exact au hp hob
    ·generalize hq:o9 E (aD C.P E) new ov=q at hp
     obtain⟨B, q⟩:=q
     simp only at hp
     have hq2:new.length≤137438953472∧q:=by
      have hp':=hp
      unfold newBox at hp'
      split at hp'
      ·split at hp'
       ·simp only[Prod.mk.injEq]at hp';rw[← hp'.2]at hob;exact hob
       ·exact au hp' hob
      ·exact au hp' hob
     obtain⟨hlen, hq'⟩:=hq2
     cases hs
     obtain⟨v', w', hrun, ho, hg, hblk⟩:=eJ (P:=C.P) (w:=w) t ty E i v hu hi hv hvs (World.ownsRow_nil w 0 E i.size) n1 n2 n3 n4 (by simp only[maxLen];omega) (bytes _ (by omega))
     have hg':w.grownBy w' none:=hg
     have hSw:∀b, S b→b<w.heap.size→w'.heap[b]?=w.heap[b]?:=fun b hb hl=>hg'.block b hl (by simp)
     have hA:eM S w' E (aD C.P E) ([]++new) v':=by
      rw[hsz]at ho n2 n5 n6
      refine eM.append (xs:=[]) (fun k x hx=>by simp at hx) (by simp) (fun k x j y hx=>by simp at hx) n5 (fun k x j y hx hy=>?_) (by simpa using ho)
      obtain⟨z, hz, hr⟩:=n6 k x j y hx hy
      exact⟨z, hz, hr.stable (fun _ h _=>h) hSw hg'.size⟩
     rw[List.nil_append]at hA
     obtain⟨hB, hBa⟩:=ns (μ:=aV μ st.heap.length v') hq hq' hA
     refine⟨v', w', _, hrun, (h.newBox hp hob hg' hB (fun b hb=>?_) ?_ (lV hBa)).2⟩
     ·have hb:=hb.bl (by rcases ho.2 with ⟨rfl, _⟩ | ⟨g, cap, cur, rfl, _⟩<;>rfl)
      have hvv:v'.ownBlock=aG v':=by
       rcases ho.2 with ⟨rfl, _⟩ | ⟨g, cap, cur, rfl, _⟩<;>rfl
      rcases hblk with hblk | hblk
      ·rw[hvv, hb]at hblk;cases hblk
      ·rw[hvv, hb]at hblk;cases hblk;exact Nat.le_refl _
     ·have:=ak.own (S:=S) (μ:=aV μ st.heap.length v') (w:=w') st.heap.length
      rwa [av]at this
    ·rename_i sz' α enc d0 l
     split at hp
     ·rename_i hsz'
      rw[Nat.beq_eq]at hsz'
      subst hsz'
      generalize hq:o9 E (aD C.P E) (l.map enc++new) ov=q at hp
      obtain⟨B, q⟩:=q
      simp only at hp
      have hq2:0<new.length∧l.length+new.length≤137438953472∧q:=by
       have hp':=hp
       unfold newBox at hp'
       split at hp'
       ·split at hp'
        ·simp only[Prod.mk.injEq]at hp';rw[← hp'.2]at hob;exact hob
        ·exact au hp' hob
       ·exact au hp' hob
      obtain⟨hpos, hlen, hq'⟩:=hq2
      cases hs with
      | capd _ p n hrep =>
       obtain⟨pq, cq, xs, he, x0, x1, x2, _, hl0, x3⟩:=jl h.heap hs1 (new:=l.map enc) (x:=.v (.sl (aD C.P E) enc d0 l)) (by simp[wg]) (.v _ _ hrep)
       simp only[Value.slice.injEq, List.length_map]at he x1
       obtain⟨rfl, rfl, rfl⟩:=he
       rw[← hsz]at x1
       obtain⟨v', w', hrun, ho, hg, hblk⟩:=tc (P:=C.P) (w:=w) t ty E i v hu hi hv hvs (p:=p) (n:=l.length) (xs:=xs) (fun e=>by have:=(x0 e).2;simpa using this) x1 x2 n1 n2 n3 hpos (by simp only[maxLen];omega) (bytes _ hlen)
       have hSw:∀b, S b→b<w.heap.size→w'.heap[b]?=w.heap[b]?:=fun b hb hl=>hg.block b hl (by simp)
       have hA:eM S w' E (aD C.P E) (l.map enc++new) v':=by
        rw[hsz]at ho n2 n5 n6 x1
        refine eM.append hl0 (by rw[x1];simp) (fun k x j y hx hy=>?_) n5 (fun k x j y hx hy=>?_) (by simpa using ho)
        ·obtain⟨z, hz, hr⟩:=x3 k x j y hx hy
         exact⟨z, hz, hr.stable (fun _ h _=>h) hSw hg.size⟩
        ·obtain⟨z, hz, hr⟩:=n6 k x j y hx hy
         exact⟨z, hz, hr.stable (fun _ h _=>h) hSw hg.size⟩
       obtain⟨hB, hBa⟩:=ns (μ:=aV μ st.heap.length v') hq hq' hA
       refine⟨v', w', _, hrun, (h.newBox hp hob hg hB (fun b hb=>?_) ?_ (lV hBa)).2⟩
       ·have hb:=hb.bl (by rcases ho.2 with ⟨rfl, _⟩ | ⟨g, cap, cur, rfl, _⟩<;>rfl)
        have hvv:v'.ownBlock=aG v':=by
         rcases ho.2 with ⟨rfl, _⟩ | ⟨g, cap, cur, rfl, _⟩<;>rfl
        rw[hvv, hb]at hblk
        cases hblk
        exact Nat.le_refl _
       ·have:=ak.own (S:=S) (μ:=aV μ st.heap.length v') (w:=w') st.heap.length
        rwa [av]at this
     ·exact au hp hob
    ·exact au hp hob
   ·exact au hp hob
  ·exact au hp hob
 ·exact au hp hob
theorem aX.bothF {Sx:Nat→Prop} (hR:aX C Sx μ ⟨st.env, st.heap++[.dead]⟩ a w) {id E sz td:Nat} {α β:Type} {enc:α→List V} {d:α} {l:List α} {enc':β→List V} {d':β} {l':List β} (hbox:st.heap[id]?=some (.arr E sz enc d l)) (htd:td<C.nt) {v:Value}
  (hv:de (fun b=>Sx b∨bE (μ id) b) w (.sl sz enc' d' l') v):∃S', aX C S' μ ⟨xt (oJ id (.sl (.sl sz enc d l)) st.env) td (.v (.sl sz enc' d' l')), (fb id (.sl (.sl sz enc d l)) st.heap).set id .dead++[.dead]⟩ (a.put (some td) v) w:=by
 have hid:id<st.heap.length:=(List.getElem?_eq_some_iff.1 hbox).1
 have hb2:(st.heap++[aq.dead])[id]?=some (.arr E sz enc d l):=by rw[List.getElem?_append_left hid];exact hbox
 have h1:=hR.freezeX (id:=id) (z:=.sl (.sl sz enc d l)) hb2 rfl (eI (hR.heap.box id _ hb2) (fun b hb=>.inl hb) (fun b hb=>.inr hb) hR.slt)
 have h2:=h1.put htd (.v _ _ hv)
 have e:(fb id (.sl (.sl sz enc d l)) (st.heap++[aq.dead])).set id .dead=(fb id (.sl (.sl sz enc d l)) st.heap).set id .dead++[.dead]:=by
  rw[un, List.set_append_left _ _ (by rw[yZ];exact hid)]
  rfl
 rw[← e]
 exact⟨_, h2⟩
theorem uz (h:aX C S μ st a w) {ov:Ov} {dst:Option Nat} {t ty:TypeId} {s x:D} {us ux:Value} (hs:ak S μ w s us) (hx:ak S μ w x ux) (hp:ut C.P C.nt st ov dst t s x=(st', p)) (hob:p) :
  ∃u w' S' μ', (Builtin.append_ #[t, t] ty #[us, ux]).run C.P w=.ok u w'∧aX C S' μ' st' (a.put dst u) w':=by
 unfold ut at hp
 split at hp
 ·rename_i E id td hu
  split at hp
  ·rename_i z new E0 sz0 α enc d l E' sz' β enc' d' l' hz hnew hbox
   split at hp
   ·rename_i hcond
    simp only[Bool.and_eq_true, Nat.beq_eq, Nat.ble_eq, Nat.blt_eq]at hcond
    obtain⟨⟨⟨⟨⟨hk, hzl⟩, hs1⟩, hby1⟩, ⟨⟨rfl, rfl⟩, rfl⟩, rfl⟩, ⟨htd, hfe⟩, hfh⟩:=hcond
    simp only[Prod.mk.injEq]at hp
    obtain⟨rfl, rfl⟩:=hp
    obtain⟨hlen, hll⟩:=hob
    obtain⟨i, v, hi, hv, hzz, hsz, hby⟩:=jk hz
    have hvs:v.cells.size=i.size:=by rw[hsz, ← hzl, hzz];simp
    obtain⟨pa, c, news, rfl, n1, n2, n3, n4, n5, n6⟩:=jl h.heap hs1 hnew hx
    rw[← hsz]at n2 n6 n5
    have bytes:∀k, k≤137438953472→k*i.bytes≤140737488355328:=by
     intro k hk
     have:k*i.bytes≤137438953472*1024:=Nat.mul_le_mul hk (by omega)
     omega
    have hus:=bQ hs
    subst hus
    have hB0:=h.heap.box id _ hbox
    obtain⟨r0, xs, r1, r2⟩:=eM.of hB0
    simp only[List.length_map]at r1
    have hmax:l.length+new.length≤maxLen:=by simp only[maxLen];omega
    obtain⟨v', w', hrun, ho, hg, hblk, ho2⟩:=tb (P:=C.P) (w:=w) t ty E i v hu hi hv hvs (by rw[hsz];exact r1) n1 n2 n3 n4 hmax (bytes _ hlen)
    have hown:(μ id).ownBlock=aG (μ id):=by
     obtain⟨p', c', hm, _⟩:=b6 hB0
     rw[hm]
     cases p'<;>rfl
    have hvv:v'.ownBlock=aG v':=by
     rcases ho.2 with ⟨rfl, _⟩ | ⟨g, cap, cur, rfl, _⟩<;>rfl
    have hid:id<st.heap.length:=(List.getElem?_eq_some_iff.1 hbox).1
    have hSw:∀b, S b→b<w.heap.size→w'.heap[b]?=w.heap[b]?:=fun b hb hl=>hg.block b hl (fun e=>h.heap.notS id _ b hbox rfl (.inl (by rw[← hown];exact e.symm)) hb)
    have hA:eM S w' E (aD C.P E) (l.map enc++new) v':=by
     rw[hsz]at ho n2 n5 n6
     refine eM.append r0 (by rw[r1.1];simp) (fun k x j y hx hy=>?_) n5 (fun k x j y hx hy=>?_) (by simpa using ho)
     ·obtain⟨z, hz, hr⟩:=r2 k x j y hx hy
      exact⟨z, hz, hr.stable (fun _ h _=>h) hSw hg.size⟩
     ·obtain⟨z, hz, hr⟩:=n6 k x j y hx hy
      exact⟨z, hz, hr.stable (fun _ h _=>h) hSw hg.size⟩
    have hA0:eM S w' E (aD C.P E) (l.map enc) (μ id):=by
     refine⟨r0, xs, by rw[hsz]at ho2;simpa using ho2, fun k x j y hx hy=>?_⟩
     obtain⟨z, hz, hr⟩:=r2 k x j y hx hy
     exact⟨z, hz, hr.stable (fun _ h _=>h) hSw hg.size⟩
    rcases hblk with hblk | ⟨hblk, hgn⟩
    ·-- in its place, or nothing at all
     have hu2:=h.upd (id:=id) (B:=.arr E (aD C.P E) enc d l) (row:=(μ id).ownBlock) (u:=μ id) hg (fun k hk=>⟨_, hbox, rfl, .inl (by rw[← hown];exact hk)⟩) (by omega)
      (by rw[dy];exact hA0.box rfl) (fun b hb=>.inl (by rw[hown];exact hb.bl (by obtain⟨p', c', hm, _⟩:=b6 hB0;rw[hm];rfl))) (.inl ⟨rfl, .inr ⟨_, hbox, rfl⟩⟩)
     rw[dy]at hu2
     have he:bG st.heap id (.arr E (aD C.P E) enc d l)=st.heap:=by
      unfold bG
      rw[if_neg (by rw[Nat.beq_eq];omega)]
      exact List.ext_getElem? (fun j=>by
       rw[List.getElem?_set]
       by_cases hj:id=j
       ·subst hj;rw[if_pos rfl, if_pos hid];exact hbox.symm
       ·rw[if_neg hj])
     rw[he]at hu2
     have hu3:=hu2.heapTo (H:=st.heap++[.dead]) (fun i B hB=>by
      by_cases hi:i<st.heap.length
      ·rw[List.getElem?_append_left hi]at hB;exact .inr hB
      ·rw[List.getElem?_append_right (by omega)]at hB
       cases hq:i-st.heap.length with
       | zero=>rw[hq]at hB;cases hB;exact .inl rfl
       | succ n=>rw[hq]at hB;simp at hB)
     have hrep:de (fun b=>S b∨bE (μ id) b) w' (.sl (aD C.P E) enc' d' l') v':=eI (μ:=μ) (hA.box hll) (fun b hb=>.inl hb) (fun b hb=>.inr (.inl (by rw[← hown, ← hblk, hvv];exact hb.bl (by rcases ho.2 with ⟨rfl, _⟩ | ⟨g, cap, cur, rfl, _⟩<;>rfl)))) hu2.slt
     obtain⟨S', hR⟩:=aX.bothF (st:=st) hu3 hbox htd hrep
     exact⟨v', w', S', μ, hrun, hR⟩
    ·-- in a new block
     have hu2:=h.upd (id:=st.heap.length) (B:=.arr E (aD C.P E) enc' d' l') (row:=none) (u:=v') hgn (fun k hk=>by cases hk) (Nat.le_refl _)
      (hA.box hll) (fun b hb=>.inr (by have hb:=hb.bl (by rcases ho.2 with ⟨rfl, _⟩ | ⟨g, cap, cur, rfl, _⟩<;>rfl);rw[hvv, hb]at hblk;cases hblk;exact Nat.le_refl _)) (.inr ⟨fun A hA=>by simp at hA, hfe, hfh⟩)
     rw[show bG st.heap st.heap.length (.arr E (aD C.P E) enc' d' l')=st.heap++[.arr E (aD C.P E) enc' d' l']from by simp[bG]]at hu2
     have hb2:(st.heap++[aq.arr E (aD C.P E) enc' d' l'])[st.heap.length]?=some (.arr E (aD C.P E) enc' d' l'):=by simp
     have hr2:=eI (S':=fun b=>S b∨bE (aV μ st.heap.length v' st.heap.length) b) (hu2.heap.box _ _ hb2) (fun b hb=>.inl hb) (fun b hb=>.inr hb) hu2.slt
     have hu3:=hu2.freezeX (id:=st.heap.length) (z:=.sl (.sl (aD C.P E) enc' d' l')) hb2 rfl hr2
     have e1:oJ st.heap.length (.sl (.sl (aD C.P E) enc' d' l')) st.env=st.env:=nr hfe
     have e2:(fb st.heap.length (.sl (.sl (aD C.P E) enc' d' l')) (st.heap++[aq.arr E (aD C.P E) enc' d' l'])).set st.heap.length .dead=st.heap++[.dead]:=by
      rw[un, v7 hfh]
      simp[fb, pJ]
     simp only[e1, e2]at hu3
     rw[av]at hr2
     have hrep:de (fun b=>(S b∨bE (aV μ st.heap.length v' st.heap.length) b)∨bE (aV μ st.heap.length v' id) b) w' (.sl (aD C.P E) enc' d' l') v':=by
      rw[av]
      exact hr2.stable (fun b hb _=>.inl hb) (fun _ _ _=>rfl) (Nat.le_refl _)
     obtain⟨S', hR⟩:=aX.bothF (st:=st) hu3 hbox htd hrep
     exact⟨v', w', S', _, hrun, hR⟩
   ·exact au hp hob
  ·exact au hp hob
 ·exact au hp hob
end
end Go.Proofs.YtckgpflobhpnpaaGreat
namespace Go.Proofs.YtckgpflobhpnpaaGreat
open Go.RowKit
set_option linter.unusedVariables false
set_option linter.unusedSimpArgs false
section
variable {C:lC} {S:Nat→Prop} {μ:Nat→Value} {st st':St} {a:Act} {w w':World} {p:Prop}
theorem aX.ePut (h:aX C S μ st a w) {dst:Option Nat} {d:D} {q:Prop} {u:Value} (hp:ePut C.nt st dst d q=(st', p)) (hob:p) (hd:ak S μ w d u):q∧aX C S μ st' (a.put dst u) w:=by
 unfold Proofs.YtckgpflobhpnpaaGreat.ePut at hp
 split at hp
 ·split at hp
  ·rename_i t ht
   rw[Nat.blt_eq]at ht
   simp only[Prod.mk.injEq]at hp
   obtain⟨rfl, rfl⟩:=hp
   exact⟨hob, h.put ht hd⟩
  ·exact au hp hob
 ·simp only[Prod.mk.injEq]at hp
  obtain⟨rfl, rfl⟩:=hp
  exact⟨hob, h⟩
theorem aM.evals (h:aX C S μ st a w) (args:Array Operand):aM S μ w (args.toList.map (eB st.env)) (args.map a.eval):=by
 refine⟨by simp, fun j y z hy hz=>?_⟩
 simp only[List.getElem?_map, Array.getElem?_toList, Array.getElem?_map]at hy hz
 cases hj:args[j]? with
 | none=>rw[hj]at hy;cases hy
 | some x=>rw[hj]at hy hz;simp at hy hz;subst hy hz;exact h.eval x
theorem aM.app {cs ds:List D} {us vs:Array Value} (h:aM S μ w cs us) (k:aM S μ w ds vs):aM S μ w (cs++ds) (us++vs):=by
 refine⟨by simp[h.1, k.1], fun j y z hy hz=>?_⟩
 by_cases hj:j<cs.length
 ·rw[List.getElem?_append_left hj]at hy
  rw[Array.getElem?_append_left (by rw[h.1];exact hj)]at hz
  exact h.2 j y z hy hz
 ·rw[List.getElem?_append_right (by omega)]at hy
  rw[Array.getElem?_append_right (by rw[h.1];omega), h.1]at hz
  exact k.2 _ y z hy hz
theorem bI {P:Program} {f:FuncId} (h:hC P f=true) (args:Array Value) (w:World):(callFunc f args).run P w=.ok (.enter f args) w:=by
 unfold hC at h
 cases hf:P.funcs[f]? with
 | none=>rw[hf]at h;cases h
 | some fn =>
  rw[hf]at h
  simp only[Bool.and_eq_true, Bool.not_eq_true']at h
  have n1:fn.name ≠ "runtime.NumGoroutine" := by simpa using h.1
  have n2:fn.body≠none:=fun e=>by rw[e]at h;simp at h
  simp[callFunc, program, Sem.run, hf, n1, n2]
theorem dJ {nt:Nat} {dst:Option Nat} {d:D} {q:Prop} (hp:ePut nt st dst d q=(st', p)) (hob:p):q:=by
 unfold ePut at hp
 split at hp
 ·split at hp
  ·simp only[Prod.mk.injEq]at hp;rw[← hp.2]at hob;exact hob
  ·exact au hp hob
 ·simp only[Prod.mk.injEq]at hp;rw[← hp.2]at hob;exact hob
theorem kD (w:World):w.grownBy w none:=⟨rfl, rfl, rfl, Nat.le_refl _, fun _ _ _=>rfl⟩
theorem aX.pushFrame (h:aX C S μ st a w) (hf:bN st.heap.length st.env=true) (hh:bx st.heap.length st.heap=true) :
  aX C S (aV μ st.heap.length (.bool true)) ⟨st.env, st.heap++[.frame a.tmps st.env]⟩ a w:=by
 have:=h.upd (id:=st.heap.length) (B:=.frame a.tmps st.env) (row:=none) (u:=.bool true) (kD w) (fun k hk=>by cases hk) (Nat.le_refl _)
  ⟨rfl, fun t d hm=>?_⟩ (fun b hb=>by simp[bE, aG]at hb) (.inr ⟨fun A hA=>by simp at hA, hf, hh⟩)
 ·rw[show bG st.heap st.heap.length (.frame a.tmps st.env)=st.heap++[.frame a.tmps st.env]from by simp[bG]]at this
  exact this
 ·obtain⟨q1, q2⟩:=h.env t d hm
  refine⟨by rw[h.tsize];exact q1, q2.stable (fun _ h _=>h) (fun _ _ _=>rfl) (Nat.le_refl _) (fun i hi=>aF _ _ (fun e=>?_))⟩
  subst e
  rw[b5 hf hm]at hi
  cases hi
theorem aX.loopTo (h:aX C S μ st a w) {id l:Nat} {tm:Array Value} {nt:Nat} {env:List (Nat×D)} {ps:List Nat} {as bd:Code} {s:LoopState} {pe:Option Code} (hbox:st.heap[id]?=some (.loop l tm nt env ps as bd s pe)) (s':LoopState) (pe':Option Code) :
  ∃r:Loop, w.heap[l]?=some (.loop r)∧r.state=s∧r.pending=pe∧r.params=ps.toArray∧r.assign=as∧r.body=bd∧r.tmps=tm∧tm.size=nt ∧
   aX C S μ ⟨st.env, st.heap.set id (.loop l tm nt env ps as bd s' pe')⟩ a (w.putObj l (.loop { r with state:=s', pending:=pe' })):=by
 obtain⟨r, hμ, g1, g2, g3, g4, g5, g6, g7, g8, g9⟩:=h.heap.box id _ hbox
 have hid:id<st.heap.length:=(List.getElem?_eq_some_iff.1 hbox).1
 have hll:l<w.heap.size:=(Array.getElem?_eq_some_iff.1 g1).1
 refine⟨r, g1, g2, g3, g4, g5, g6, g7, g8, ?_⟩
 have hblk0:aG (μ id)=some l:=by rw[hμ];rfl
 have hblk:bE (μ id) l:=.inl hblk0
 have hg:w.grownBy (w.putObj l (.loop { r with state:=s', pending:=pe' })) (some l):=⟨rfl, rfl, rfl, by rw[World.putObj_size];exact Nat.le_refl _, fun k _ hk=>World.putObj_heap_other (fun e=>hk (by rw[e]))⟩
 have hSl:¬S l:=h.heap.notS id _ l hbox rfl hblk
 have:=h.upd (id:=id) (B:=.loop l tm nt env ps as bd s' pe') (row:=some l) (u:=μ id) hg (fun k hk=>⟨_, hbox, rfl, by cases hk;exact hblk⟩) (Nat.le_of_lt hid) ?_ (fun b hb=>.inl (hb.one hblk0)) (.inl ⟨rfl, .inl rfl⟩)
 ·have e1:aV μ id (μ id)=μ:=by funext i;unfold aV;split<;>simp_all
  rw[e1]at this
  have e2:bG st.heap id (.loop l tm nt env ps as bd s' pe')=st.heap.set id (.loop l tm nt env ps as bd s' pe'):=by
   unfold bG
   have:Nat.beq id st.heap.length=false:=by
    cases hb:Nat.beq id st.heap.length
    ·rfl
    ·rw[Nat.beq_eq]at hb;omega
   rw[this]
   rfl
  rw[e2]at this
  exact this
 ·have e1:aV μ id (μ id)=μ:=by funext i;unfold aV;split<;>simp_all
  rw[e1]
  refine⟨_, hμ, World.putObj_heap_same hll, rfl, rfl, g4, g5, g6, g7, g8, fun t d hm=>?_⟩
  obtain⟨q1, q2⟩:=g9 t d hm
  refine⟨q1, q2.stable (fun _ h _=>h) (fun b hb _=>World.putObj_heap_other (fun e=>hSl (e ▸ hb))) (by rw[World.putObj_size];exact Nat.le_refl _) (fun _ _=>rfl)⟩
theorem DS {H:List aq} {n:Nat} (h:pL H[n]?=true):n<H.length∧H[n]?=some .dead:=by
 unfold pL at h
 split at h
 ·rename_i hh;exact⟨(List.getElem?_eq_some_iff.1 hh).1, hh⟩
 ·cases h
theorem Cm {H L:List aq} {n:Nat} {F:aq} (hd:pL H[n]?=true) (ht:L.take (H.set n F).length=H.set n F):L[n]?=some F∧∀(i:Nat) (B:aq), H[i]?=some B→B=.dead∨L[i]?=some B:=by
 obtain⟨h1, h2⟩:=DS hd
 have key:∀i, i<H.length→L[i]?=(H.set n F)[i]?:=fun i hi=>by
  rw[← ht, List.getElem?_take, if_pos (by simpa using hi)]
 refine⟨by rw[key n h1, List.getElem?_set_self h1], fun i B hB=>?_⟩
 have hi:i<H.length:=(List.getElem?_eq_some_iff.1 hB).1
 by_cases e:i=n
 ·subst e
  rw[h2]at hB
  cases hB
  exact .inl rfl
 ·rw[key i hi, List.getElem?_set_ne (fun h=>e h.symm)]
  exact .inr hB
theorem uA (h:aX C S μ st a w) {dst:Option Nat} {g:FuncId} {ds:List D} {r:D} {env:List (Nat×D)} {H:List aq} {us:Array Value} (hus:∀(μ1:Nat→Value) (H1:List aq), aX C S μ1 ⟨st.env, H1⟩ a w→aM S μ1 w ds us)
  (hp:E5 C.P C.nt st dst g ds r env H=(st', p)) (hob:p) {K:Act→World→Prop} (hK:∀S' μ' a' w', aX C S' μ' st' a' w'→K a' w'):hC C.P g=true∧Calls C.P g us w (fun e w'=>∃u, e=.returned u∧K (a.put dst u) w'):=by
 unfold E5 at hp
 split at hp
 ·rename_i hc
  simp only[Bool.and_eq_true]at hc
  obtain⟨⟨⟨hgo, hfe⟩, hfh⟩, hdd⟩:=hc
  refine⟨hgo, ?_⟩
  obtain⟨fn, c, hf, hb, hn, hev⟩:=dJ hp hob a.tmps
  rw[Nat.ble_eq]at hn
  have h1:=h.pushFrame hfe hfh
  obtain⟨mk, d1, d2, d3⟩:=h1.defers
  have hrep:=hus _ _ h1
  let C1:lC:=⟨C.P, C.W, C.S0, fn.ntmps, mk++C.susp, none⟩
  have hR:aX C1 S (aV μ st.heap.length (.bool true)) ⟨iC 0 ds, st.heap++[.frame a.tmps st.env]⟩ (uo us fn.ntmps) w :=
   h1.turn (C1:=C1) (mk:=mk) (mk1:=[]) d2 d3 rfl rfl rfl (qs hrep.1 hn) (tv hrep hn)
  refine(jj (C:=C1) hf hb rfl hR (hev C1 rfl rfl rfl) (fun e st' hq=>?_)).mono ?_
  ·cases e<;>first | exact⟨.inl rfl, hq.1⟩ | exact⟨.inr rfl, hq.1⟩ | exact hq.elim
  rintro e w' ⟨u, e0, st1, S', μ', a1, rfl, hq1, hR1, hd1⟩
  refine⟨u, rfl, ?_⟩
  have hq2:ql (hJ C.P fn st1) r∧st1.heap.take (H.set st.heap.length (.frame a.tmps env)).length=H.set st.heap.length (.frame a.tmps env):=by
   cases e0<;>first | exact hq1.2 | exact hq1.elim
  obtain⟨hbox, hrest⟩:=Cm hdd hq2.2
  obtain⟨_, henv⟩:=hR1.heap.box _ _ hbox
  have hb2:=hR1.back (C:=C) (a:=a) (mk:=mk) rfl rfl rfl d1 h.tsize (env:=env) (fun t d hm=>by
   have:=henv t d hm
   rw[h.tsize]at this
   exact this)
  have hc2:=hb2.heapTo (H:=H) hrest
  exact hK _ _ _ _ (hc2.ePut hp hob (qn hq2.1 hd1)).2
 ·exact au hp hob
theorem DT {S:Nat→Prop} {μ:Nat→Value} {w:World} {nt:Nat}:∀(ps:List Nat) (ds:List D) (us:List Value) (env:List (Nat×D)) (tm:Array Value), ds.length=us.length→(∀(j:Nat) (y:D) (u:Value), ds[j]?=some y→us[j]?=some u→ak S μ w y u)→tm.size=nt→ps.all (fun p=>Nat.blt p nt)=true →
  (∀(t:Nat) (d:D), (t, d)∈env→t<nt∧ak S μ w d (tm.getD t undef)) →
  ((ps.zip us).foldl (fun (tmps:Array Value) (x:Nat×Value)=>tmps.setIfInBounds x.1 x.2) tm).size=nt ∧
  ∀(t:Nat) (d:D), (t, d)∈Cl ps ds env→t<nt∧ak S μ w d (((ps.zip us).foldl (fun (tmps:Array Value) (x:Nat×Value)=>tmps.setIfInBounds x.1 x.2) tm).getD t undef):=by
 intro ps
 induction ps with
 | nil=>intro ds us env tm _ _ hs _ he;exact⟨hs, fun t d hm=>he t d (by cases ds<;>exact hm)⟩
 | cons p ps ih =>
  intro ds us env tm hl hd hs hp he
  cases ds with
  | nil =>
   cases us with
   | nil=>exact⟨hs, fun t d hm=>he t d hm⟩
   | cons u us=>simp at hl
  | cons d0 ds =>
   cases us with
   | nil=>simp at hl
   | cons u us =>
    simp only[List.all_cons, Bool.and_eq_true, Nat.blt_eq]at hp
    refine ih ds us (xt env p d0) (tm.setIfInBounds p u) (by simpa using hl) (fun j y v hy hv=>hd (j+1) y v (by simpa using hy) (by simpa using hv)) (by simpa using hs) hp.2 (fun t d hm=>?_)
    rcases List.mem_cons.1 hm with hm | hm
    ·cases hm
     refine⟨hp.1, ?_⟩
     have:(tm.setIfInBounds p u).getD p undef=u:=by
      have hts:p<tm.size:=by omega
      simp[hts]
     rw[this]
     exact hd 0 d0 u rfl rfl
    ·obtain⟨h1, h2⟩:=fY hm
     obtain⟨q1, q2⟩:=he t d h1
     refine⟨q1, ?_⟩
     have:(tm.setIfInBounds p u).getD t undef=tm.getD t undef:=by
      simp only[Array.getD_eq_getD_getElem?]
      rw[Array.getElem?_setIfInBounds_ne (fun e=>h2 e.symm)]
     rw[this]
     exact q2
theorem xE (h:aX C S μ st a w) {o:Oper} {f:Operand} {args:Array Operand} {ats:Array TypeId} (ho:o.op=.call ⟨.value f, args, ats⟩) {id:Nat} (hf:eB st.env f=.yld id) {b:Bool} {env:List (Nat×D)} {H:List aq}
  (hp:AL C.P C.nt st o.dst id (args.toList.map (eB st.env)) b env H=(st', p)) (hob:p) {K:Act→World→Prop} {Q:Exit→Act→World→Prop} (hK:∀S' μ' a' w', aX C S' μ' st' a' w'→K a' w') :
  o.uponIn (nh C.rd) 0 C.P a K Q ((execOp a.eval o).run C.P w):=by
 unfold AL at hp
 split at hp
 ·rename_i l tm ntL envL ps as body hbox
  split at hp
  ·rename_i hc
   simp only[Bool.and_eq_true, Nat.beq_eq]at hc
   obtain⟨⟨⟨⟨hfe, hfh⟩, hdd⟩, hpl⟩, hps⟩:=hc
   have hq:=dJ hp hob a.tmps
   have hid:id<st.heap.length:=(List.getElem?_eq_some_iff.1 hbox).1
   have hfv:ak S μ w (.yld id) (a.eval f):=hf ▸ h.eval f
   obtain⟨r0, hμ0, g1, g2, g3, g4, g5, g6, g7, g8, g9⟩:=h.heap.box id _ hbox
   have hfe':a.eval f=.func (.yield l) #[] #[]:=by
    generalize a.eval f=uf at hfv
    cases hfv with
    | yld _ l' hl =>
     rw[hμ0]at hl
     simp[bE, aG]at hl
     rw[hl]
   have hsz:(args.map a.eval).size=r0.params.size:=by
    rw[g4]
    simp only[Array.size_map, List.size_toArray]
    simpa using hpl.symm
   have hrun:(execOp a.eval o).run C.P w=.ok (.round l r0.fn ((r0.params.zip (args.map a.eval)).foldl (fun tmps (t, a)=>tmps.setIfInBounds t a) r0.tmps) r0.assign r0.body) w:=by
    have:=run_yield (P:=C.P) g1 hsz
    simp[execOp, ho, resolve, hfe', Deferred.ofValue, invoke, this]
   rw[hrun, Oper.uponIn_round]
   refine⟨fun hx=>(by rw[vR]at hx;cases hx), ?_⟩
   have h1:=h.pushFrame hfe hfh
   have hid1:(st.heap++[aq.frame a.tmps st.env])[id]?=some (.loop l tm ntL envL ps as body .ready none):=by rw[List.getElem?_append_left hid];exact hbox
   obtain⟨mk, d1, d2, d3⟩:=h1.defers
   let C1:lC:=⟨C.P, C.W, C.S0, ntL, mk++C.susp, some l⟩
   have hfen:(nh C.rd).inRound l=nh (some l):=by cases C.rd<;>rfl
   have hargs:=aM.evals h1 args
   obtain⟨r2, _, m1, _, _, _, _, _, m7, m8, m9⟩:=h1.heap.box id _ hid1
   have hpe:=DT (S:=S) (w:=w) ps (args.toList.map (eB st.env)) (args.map a.eval).toList envL tm (by simp) (fun j y u hy hu=>hargs.2 j y u hy (by simpa using hu)) g8 hps m9
   have hfold:(r0.params.zip (args.map a.eval)).foldl (fun tmps (t, a)=>tmps.setIfInBounds t a) r0.tmps=(ps.zip (args.map a.eval).toList).foldl (fun (tmps:Array Value) (x:Nat×Value)=>tmps.setIfInBounds x.1 x.2) tm:=by
    rw[← Array.foldl_toList, Array.toList_zip, g4, g7]
   rw[hfold, g5, g6]
   have h3:aX C1 S _ ⟨Cl ps (args.toList.map (eB st.env)) envL, st.heap++[aq.frame a.tmps st.env]⟩ { tmps:=(ps.zip (args.map a.eval).toList).foldl (fun (tmps:Array Value) (x:Nat×Value)=>tmps.setIfInBounds x.1 x.2) tm, defers:=[] } w :=
    h1.turn (C1:=C1) (mk:=mk) (mk1:=[]) d2 d3 rfl rfl rfl hpe.1 hpe.2
   refine roundIn_of_wpIn (pB _ _) ?_
   rw[hfen]
   refine wpIn_mono (hq C1 rfl rfl rfl _ _ _ _ h3) ?_
   rintro e1 a1 w1 ⟨sta, Sa, μa, hqa, hRa⟩
   cases e1<;>first | exact hqa.elim | skip
   simp only[AK]at hqa
   split at hqa
   case h_2=>exact hqa.elim
   rename_i l1 tm1 nt1 env1 ps1 as1 bd1 hbxa
   obtain⟨rfl, hqb⟩:=hqa
   obtain⟨r, k1, k2, k3, k4, k5, k6, k7, k8, h2⟩:=hRa.loopTo hbxa .busy none
   have hbeg:(Instr.beginRound l1).run C.P w1=.ok () (w1.putObj l1 (.loop { r with state:=.busy, pending:=none })):=by
    rw[run_beginRound k1 k2]
    rw[show({ r with state:=.busy }:Loop)={ r with state:=.busy, pending:=none } from by rw[← k3]]
   refine⟨_, hbeg, ?_⟩
   refine wpIn_mono (hqb _ _ _ _ h2) ?_
   rintro e a' w' ⟨st1, S', μ', hq1, hR1⟩
   unfold xC at hq1
   split at hq1
   ·rename_i l2 tm2 nt2 env2 ps2 as2 bd2 s2 p2 hbx
    obtain⟨rfl, hans, htake⟩:=hq1
    have fin:∀jump:Option Code, AJ e=some jump.isNone→qt e=(if jump.isNone then .ready else .done)→tz e=jump→∃v w2, (Instr.endRound l2 jump).run C.P w'=.ok v w2∧K (a.put o.dst v) w2:=by
     intro jump j1 j2 j3
     obtain⟨r3, n1, n2, n3, n4, n5, n6, n7, n8, h4⟩:=hR1.loopTo hbx (qt e) (tz e)
     refine⟨_, _, run_endRound jump n1, ?_⟩
     obtain⟨hbf, hrest⟩:=Cm hdd htake
     obtain⟨_, henv⟩:=h4.heap.box _ _ hbf
     have hb2:=h4.back (C:=C) (a:=a) (mk:=mk) rfl rfl rfl d1 h.tsize (env:=env) (fun t d hm=>by
      have:=henv t d hm
      rw[h.tsize]at this
      exact this)
     have hc2:=hb2.heapTo (H:=H) hrest
     rw[j2, j3]at hc2
     have hb3:b=jump.isNone:=by rw[hans]at j1;exact Option.some.inj j1
     refine hK _ _ _ _ (hc2.ePut hp hob ?_).2
     rw[← hb3]
     exact .v _ _ (.bool b)
    cases e with
    | normal=>exact fin none rfl rfl rfl
    | ret=>exact fin (some .ret) rfl rfl rfl
    | exit i=>exact fin (some (.exit i)) rfl rfl rfl
    | goto i=>cases hans
    | panic ch=>cases hans
    | outgrown=>cases hans
   ·exact hq1.elim
  ·exact au hp hob
 ·exact au hp hob
end
end Go.Proofs.YtckgpflobhpnpaaGreat
namespace Go.Proofs.YtckgpflobhpnpaaGreat
open Go.RowKit
set_option linter.unusedVariables false
set_option linter.unusedSimpArgs false
def oL:List (Nat×Ov)→Nat→Ov
 | [], _=>.none
 | (j, o)::r, i=>if Nat.beq j i then o else oL r i
def f8 (ops:List Oper) (st:St) (o:Oper):Option Bool :=
 match o.guard with
 | none=>some true
 | some (g, want)=>match (ops[g]?).bind (·.dst)with
  | some t=>match o7 st.env t with
   | .v (.bool b)=>some (b==want)
   | .tup []=>some false
   | _=>none
  | none=>none
def mb (nt:Nat) (st:St) (dst:Option Nat):R2:=ePut nt st dst (.tup []) True
def c5 (P:Program) (nt:Nat) (ops:List Oper) (ovs:List (Nat×Ov)):Nat→List Oper→St→R2
 | _, [], st=>(st, True)
 | i, o::r, st=>match f8 ops st o with
  | some true=>match pc P nt (oL ovs i) o st with
   | (st1, p1)=>match c5 P nt ops ovs (i+1) r st1 with
    | (st2, p2)=>(st2, p1∧p2)
  | some false=>match mb nt st o.dst with
   | (st1, p1)=>match c5 P nt ops ovs (i+1) r st1 with
    | (st2, p2)=>(st2, p1∧p2)
  | none=>aQ st
def Fa:List (Nat×D)→Nat→Bool
 | [], _=>false
 | (s, _)::r, t=>Nat.beq s t||Fa r t
def mc (keep:List Nat) (env:List (Nat×D)):List (Nat×D) :=
 match keep with
 | []=>[]
 | t::r=>if Fa env t then (t, o7 env t)::mc r env else mc r env
theorem uB:∀{env:List (Nat×D)} {t:Nat}, Fa env t=true→∃e, (t, e)∈env
 | (s, e)::r, t, h=>by
  unfold Fa at h
  cases hs:Nat.beq s t
  ·rw[hs, Bool.false_or]at h
   obtain⟨e', h'⟩:=uB h
   exact⟨e', List.mem_cons_of_mem _ h'⟩
  ·rw[Nat.beq_eq]at hs
   subst hs
   exact⟨e, List.mem_cons_self ..⟩
theorem rT {env:List (Nat×D)}:∀{keep:List Nat} {t:Nat} {d:D}, (t, d)∈mc keep env→d=.junk∧(∃e, (t, e)∈env)∨(t, d)∈env
 | [], t, d, h=>by cases h
 | s::r, t, d, h=>by
  unfold mc at h
  split at h
  ·rename_i hh
   rcases List.mem_cons.1 h with h | h
   ·cases h
    rcases rO (env:=env) (t:=s)with h1 | h1
    ·exact .inl ⟨h1, uB hh⟩
    ·exact .inr h1
   ·exact rT h
  ·exact rT h
section
variable {C:lC} {S:Nat→Prop} {μ:Nat→Value} {st st':St} {a:Act} {w w':World} {p:Prop}
theorem y7 (h:aX C S μ st a w) {ov:Ov} {o:Oper} {f:Operand} {args:Array Operand} {ats:Array TypeId} (ho:o.op=.call ⟨.value f, args, ats⟩)
  (hp:E8 C.P C.nt st ov o.dst (eB st.env f) (args.toList.map (eB st.env))=(st', p)) (hob:p) {K:Act→World→Prop} {Q:Exit→Act→World→Prop} (hK:∀S' μ' a' w', aX C S' μ' st' a' w'→K a' w') :
  o.uponIn (nh C.rd) 0 C.P a K Q ((execOp a.eval o).run C.P w):=by
 unfold E8 at hp
 split at hp
 ·rename_i g first cap hf
  have hfv:=hf ▸ h.eval f
  split at hp
  ·rename_i as al r
   split at hp
   ·rename_i hc
    simp only[Bool.and_eq_true, Bool.or_eq_true, Bool.not_eq_true']at hc
    obtain⟨⟨hgo, hr⟩, hal⟩:=hc
    have harg:=aM.evals h args
    refine jh ?_
    generalize hfe:a.eval f=uf at hfv
    cases hfv with
    | fn _ _ _ us vs h1 h2 h3 h4 =>
     have hrun:(execOp a.eval o).run C.P w=.ok (.enter g (us++args.map a.eval++vs)) w:=by
      simp[execOp, ho, resolve, hfe, Deferred.ofValue, invoke, bI hgo]
     rw[hrun, Oper.upon_enter]
     have hall:aM S μ w (first++args.toList.map (eB st.env)++cap) (us++args.map a.eval++vs):=(aM.app (aM.app ⟨h1, h2⟩ harg) ⟨h3, h4⟩)
     have hq:pI C.P g st.heap (first++args.toList.map (eB st.env)++cap) as al r:=dJ hp hob
     refine(h.callPure hq hall hal hr (K:=fun u w'=>K (a.put o.dst u) w') ?_).mono ?_
     ·intro S' u w' hR hd
      exact hK _ _ _ _ (hR.ePut hp hob hd).2
     ·rintro e w' ⟨u, rfl, hu⟩
      exact hu
   ·exact au hp hob
  ·rename_i id as r
   split at hp
   ·rename_i hc
    simp only[Bool.and_eq_true]at hc
    obtain⟨hgo, hr⟩:=hc
    have harg:=aM.evals h args
    refine jh ?_
    generalize hfe:a.eval f=uf at hfv
    cases hfv with
    | fn _ _ _ us vs h1 h2 h3 h4 =>
     have hrun:(execOp a.eval o).run C.P w=.ok (.enter g (us++args.map a.eval++vs)) w:=by
      simp[execOp, ho, resolve, hfe, Deferred.ofValue, invoke, bI hgo]
     rw[hrun, Oper.upon_enter]
     have hall:aM S μ w (first++args.toList.map (eB st.env)++cap) (us++args.map a.eval++vs):=(aM.app (aM.app ⟨h1, h2⟩ harg) ⟨h3, h4⟩)
     have hq:kA C.P g st.heap (first++args.toList.map (eB st.env)++cap) id as r:=dJ hp hob
     refine(h.callR hq hall hr (K:=fun u w'=>K (a.put o.dst u) w') ?_).mono ?_
     ·intro S' u w' hR hd
      exact hK _ _ _ _ (hR.ePut hp hob hd).2
     ·rintro e w' ⟨u, rfl, hu⟩
      exact hu
   ·exact au hp hob
  ·rename_i as al r
   split at hp
   ·rename_i hc
    simp only[Bool.and_eq_true, Bool.or_eq_true, Bool.not_eq_true']at hc
    obtain⟨hr, hal⟩:=hc
    have hgo:=(dJ hp hob).1
    have harg:=aM.evals h args
    refine jh ?_
    generalize hfe:a.eval f=uf at hfv
    cases hfv with
    | fn _ _ _ us vs h1 h2 h3 h4 =>
     have hrun:(execOp a.eval o).run C.P w=.ok (.enter g (us++args.map a.eval++vs)) w:=by
      simp[execOp, ho, resolve, hfe, Deferred.ofValue, invoke, bI hgo]
     rw[hrun, Oper.upon_enter]
     have hall:aM S μ w (first++args.toList.map (eB st.env)++cap) (us++args.map a.eval++vs):=(aM.app (aM.app ⟨h1, h2⟩ harg) ⟨h3, h4⟩)
     have hq:pI C.P g st.heap (first++args.toList.map (eB st.env)++cap) as al r:=(dJ hp hob).2
     refine(h.callPure hq hall hal hr (K:=fun u w'=>K (a.put o.dst u) w') ?_).mono ?_
     ·intro S' u w' hR hd
      exact hK _ _ _ _ (hR.ePut hp hob hd).2
     ·rintro e w' ⟨u, rfl, hu⟩
      exact hu
   ·exact au hp hob
  ·rename_i r env H
   generalize hfe:a.eval f=uf at hfv
   cases hfv with
   | fn _ _ _ us vs h1 h2 h3 h4 =>
    have hs:=uA (us:=us++args.map a.eval++vs) h (fun μ1 H1 h'=>by
     have hfv':ak S μ1 w (.fn (.func g) first cap) (a.eval f):=hf ▸ h'.eval f
     rw[hfe]at hfv'
     cases hfv' with
     | fn _ _ _ _ _ q1 q2 q3 q4=>exact aM.app (aM.app ⟨q1, q2⟩ (aM.evals h' args)) ⟨q3, q4⟩) hp hob (K:=K) hK
    have hrun:(execOp a.eval o).run C.P w=.ok (.enter g (us++args.map a.eval++vs)) w:=by
     simp[execOp, ho, resolve, hfe, Deferred.ofValue, invoke, bI hs.1]
    refine jh ?_
    rw[hrun, Oper.upon_enter]
    refine hs.2.mono ?_
    rintro e w' ⟨u, rfl, hu⟩
    exact hu
  ·rename_i r
   obtain⟨p', hp', hob'⟩:=E7 hp hob
   generalize hfe:a.eval f=uf at hfv
   cases hfv with
   | fn _ _ _ us vs h1 h2 h3 h4 =>
    have hs:=uA (us:=us++args.map a.eval++vs) h (fun μ1 H1 h'=>by
     have hfv':ak S μ1 w (.fn (.func g) first cap) (a.eval f):=hf ▸ h'.eval f
     rw[hfe]at hfv'
     cases hfv' with
     | fn _ _ _ _ _ q1 q2 q3 q4=>exact aM.app (aM.app ⟨q1, q2⟩ (aM.evals h' args)) ⟨q3, q4⟩) hp' hob' (K:=K) hK
    have hrun:(execOp a.eval o).run C.P w=.ok (.enter g (us++args.map a.eval++vs)) w:=by
     simp[execOp, ho, resolve, hfe, Deferred.ofValue, invoke, bI hs.1]
    refine jh ?_
    rw[hrun, Oper.upon_enter]
    refine hs.2.mono ?_
    rintro e w' ⟨u, rfl, hu⟩
    exact hu
  ·rename_i as r B
   split at hp
   ·rename_i hc
    simp only[Bool.and_eq_true]at hc
    obtain⟨⟨⟨hgo, hr⟩, hfe1⟩, hfh⟩:=hc
    have harg:=aM.evals h args
    refine jh ?_
    generalize hfe:a.eval f=uf at hfv
    cases hfv with
    | fn _ _ _ us vs h1 h2 h3 h4 =>
     have hrun:(execOp a.eval o).run C.P w=.ok (.enter g (us++args.map a.eval++vs)) w:=by
      simp[execOp, ho, resolve, hfe, Deferred.ofValue, invoke, bI hgo]
     rw[hrun, Oper.upon_enter]
     have hall:aM S μ w (first++args.toList.map (eB st.env)++cap) (us++args.map a.eval++vs):=(aM.app (aM.app ⟨h1, h2⟩ harg) ⟨h3, h4⟩)
     have hq:xz C.P g st.heap (first++args.toList.map (eB st.env)++cap) as r B:=dJ hp hob
     refine(h.callOwn hq hall hr hfe1 hfh (K:=fun u w'=>K (a.put o.dst u) w') ?_).mono ?_
     ·intro S' μ' u w' hR hd
      exact hK _ _ _ _ (hR.ePut hp hob hd).2
     ·rintro e w' ⟨u, rfl, hu⟩
      exact hu
   ·exact au hp hob
  ·rename_i as r B
   split at hp
   ·rename_i hc
    simp only[Bool.and_eq_true]at hc
    obtain⟨⟨⟨hgo, hr, hBA, hno⟩, hfe1⟩, hfh⟩:=hc
    have harg:=aM.evals h args
    refine jh ?_
    generalize hfe:a.eval f=uf at hfv
    cases hfv with
    | fn _ _ _ us vs h1 h2 h3 h4 =>
     have hrun:(execOp a.eval o).run C.P w=.ok (.enter g (us++args.map a.eval++vs)) w:=by
      simp[execOp, ho, resolve, hfe, Deferred.ofValue, invoke, bI hgo]
     rw[hrun, Oper.upon_enter]
     have hall:aM S μ w (first++args.toList.map (eB st.env)++cap) (us++args.map a.eval++vs):=(aM.app (aM.app ⟨h1, h2⟩ harg) ⟨h3, h4⟩)
     have hq:tx C.P g st.heap (first++args.toList.map (eB st.env)++cap) as r B:=dJ hp hob
     refine(h.callDeep hq hall hr hBA hno hfe1 hfh (K:=fun u w'=>K (a.put o.dst u) w') ?_).mono ?_
     ·intro S' μ' u w' hR hd
      exact hK _ _ _ _ (hR.ePut hp hob hd).2
     ·rintro e w' ⟨u, rfl, hu⟩
      exact hu
   ·exact au hp hob
  ·exact au hp hob
 ·rename_i id hf
  split at hp
  ·exact xE h ho hf hp hob hK
  ·exact au hp hob
 ·exact au hp hob
theorem md (k:Int):∀(arr:List MapEntry) (es:List (Int×Value)) (n j:Nat) (e:Int×Value), arr.map (fun e=>(e.key, e.val))=es.map (fun e=>(Value.int .i64 e.1, e.2))→es[j]?=some e→k=e.1→(∀e'∈es.take j, k≠e'.1) →
  Instr.findNow (.int .i64) (.int .i64 k) arr n=some (some (n+j, e.2))
 | [], es, n, j, e, h, he, _, _=>by
  have:es=[]:=by simpa using h.symm
  rw[this]at he;simp at he
 | a::arr, [], n, j, e, h, he, _, _=>by simp at he
 | a::arr, x::es, n, 0, e, h, he, hk, _=>by
  simp only[List.map_cons, List.cons.injEq, Prod.mk.injEq]at h
  simp at he
  subst he
  unfold Instr.findNow
  rw[h.1.1, h.1.2]
  simp[Instr.sameNow, hk]
 | a::arr, x::es, n, j+1, e, h, he, hk, ha=>by
  simp only[List.map_cons, List.cons.injEq, Prod.mk.injEq]at h
  have hne:k≠x.1:=ha x (by simp)
  unfold Instr.findNow
  rw[h.1.1]
  have:(k==x.1)=false:=beq_eq_false_iff_ne.2 hne
  simp only[Instr.sameNow, this, if_true]
  rw[md k arr es (n+1) j e h.2 (by simpa using he) hk (fun e' he'=>ha e' (by simp[he'])), show n+1+j=n+(j+1)from by omega]
theorem qw (k:Int):∀(arr:List MapEntry) (es:List (Int×Value)) (n:Nat), arr.map (fun e=>(e.key, e.val))=es.map (fun e=>(Value.int .i64 e.1, e.2))→(∀e'∈es, k≠e'.1)→Instr.findNow (.int .i64) (.int .i64 k) arr n=some none
 | [], es, n, h, _=>by simp[Instr.findNow]
 | a::arr, [], n, h, _=>by simp at h
 | a::arr, x::es, n, h, ha=>by
  simp only[List.map_cons, List.cons.injEq, Prod.mk.injEq]at h
  have hne:k≠x.1:=ha x (by simp)
  unfold Instr.findNow
  rw[h.1.1]
  have:(k==x.1)=false:=beq_eq_false_iff_ne.2 hne
  simp only[Instr.sameNow, this, if_true]
  exact qw k arr es (n+1) h.2 (fun e' he'=>ha e' (by simp[he']))
theorem pM {P:Program} {w:World} {t K E:TypeId} {b clock:Nat} {arr:Array MapEntry} {n:Int} (ht:P.underlying t=some (.map K E)) (hK:P.underlying K=some (.int .i64)) (hb:w.heap[b]?=some (.map arr clock)) {r:Option (Nat×Value)} (hf:Instr.findNow (.int .i64) (.int .i64 n) arr.toList 0=some r) {z:Value} (hz:r=none→(zeroValue E).run P w=.ok z w) :
  (Instr.lookup t (.map (some b)) (.int .i64 n) true).run P w=.ok (.tuple #[match r with | some (_, v)=>v | none=>z, .bool r.isSome]) w:=by
 have hu:(underlying t).run P w=.ok (.map K E) w:=by simp[underlying, ht, Sem.run_bind, Sem.run]
 have hu2:(underlying K).run P w=.ok (.int .i64) w:=by simp[underlying, hK, Sem.run_bind, Sem.run]
 have hg:(getObj b).run P w=.ok (.map arr clock) w:=by simp[getObj, Sem.run, hb]
 have hc:(Instr.checkKey arr.isEmpty 10000 K (.int .i64 n)).run P w=.ok () w:=by
  rw[show(10000:Nat)=9999+1 from rfl]
  unfold Instr.checkKey
  simp[Sem.run_bind, hu2]
 have hk:(Instr.findKey K (.int .i64 n) arr.toList).run P w=.ok r w:=by
  simp[Instr.findKey, Sem.run_bind, hu2, hf]
 cases r with
 | some q =>
  obtain⟨i, v⟩:=q
  simp[Instr.lookup, Sem.run_bind, hu, hg, hc, hk]
 | none =>
  simp[Instr.lookup, Sem.run_bind, hu, hg, hc, hk, hz rfl]
theorem pg {P:Program} {w:World} {t K E:TypeId} {b clock:Nat} {arr:Array MapEntry} {k:ByteArray} {v:Value} (ht:P.underlying t=some (.map K E)) (hK:P.underlying K=some .string) (hb:w.heap[b]?=some (.map arr clock)) {r:Option (Nat×Value)} (hf:Instr.findNow .string (.string k) arr.toList 0=some r)
  (hr:∀i u, r=some (i, u)→∃e, arr[i]?=some e∧e.key=.string k) :
  (Instr.mapUpdate t (.map (some b)) (.string k) v).run P w=.ok () (w.putObj b (match r with | some (i, _)=>.map (arr.modify i fun e=>{ e with key:=.string k, val:=v }) clock | none=>.map (arr.push ⟨.string k, v, clock⟩) (clock+1))):=by
 have hu:(underlying t).run P w=.ok (.map K E) w:=by simp[underlying, ht, Sem.run_bind, Sem.run]
 have hu2:(underlying K).run P w=.ok .string w:=by simp[underlying, hK, Sem.run_bind, Sem.run]
 have hg:(getObj b).run P w=.ok (.map arr clock) w:=by simp[getObj, Sem.run, hb]
 have hc:(Instr.checkKey false 10000 K (.string k)).run P w=.ok () w:=by
  rw[show(10000:Nat)=9999+1 from rfl]
  unfold Instr.checkKey
  simp[Sem.run_bind, hu2]
 have hk:(Instr.findKey K (.string k) arr.toList).run P w=.ok r w:=by
  simp[Instr.findKey, Sem.run_bind, hu2, hf]
 have hs:∀o:Obj, (setObj b o).run P w=.ok () (w.putObj b o):=by
  intro o
  unfold setObj Sem.run
  rw[hb]
  rfl
 cases r with
 | some q =>
  obtain⟨i, u⟩:=q
  obtain⟨e, he, hek⟩:=hr i u rfl
  have hkk:(Instr.keyThatStays (((arr[i]?).map (·.key)).getD (.string k)) (.string k)).run P w=.ok (.string k) w:=by
   rw[he]
   simp only[Option.map_some, Option.getD_some, hek]
   unfold Instr.keyThatStays
   rw[if_pos (by show(k==k)=true;rw[Oo];exact decide_eq_true rfl)]
   rfl
  simp only[Instr.mapUpdate, Sem.run_bind, hu, hg, hc, hk, Result.andThen_ok, hkk, hs]
 | none =>
  simp only[Instr.mapUpdate, Sem.run_bind, hu, hg, hc, hk, Result.andThen_ok, hs]
theorem AM {ag:Bool} {x:D} {vs:List V} {u:Value} (h:AI ag x=some vs) (hx:ak S μ w x u):(ag=false→vs.length=1)∧ak S μ w (kx ag vs) u:=by
 unfold AI at h
 cases ag
 ·simp only[Bool.false_eq_true, if_false]at h
  cases hv:Ln x with
  | none=>rw[hv]at h;cases h
  | some v =>
   rw[hv]at h
   cases h
   exact⟨fun _=>rfl, .v _ _ (tA hv hx)⟩
 ·simp only[if_true]at h
  split at h
  ·rename_i ds
   obtain⟨us, rfl, h1, h2⟩:=ec hx
   obtain⟨q1, q2⟩:=l8 h
   refine⟨(fun h=>by cases h), ?_⟩
   show ak S μ w (.agg (vs.map D.v)) _
   refine .agg _ _ (by rw[List.length_map, ← q1];exact h1) (fun j y u hy hu=>?_)
   obtain⟨v, hv, rfl⟩:=dH hy
   obtain⟨d, hd, hdv⟩:=q2 j v hv
   exact .v _ _ (tA hdv (h2 j d u hd hu))
  ·cases h
theorem vH (h:aX C S μ st a w) {ov:Ov} {t:TypeId} {m k x:D} {um uk ux:Value} (hm:ak S μ w m um) (hk:ak S μ w k uk) (hx:ak S μ w x ux) (hp:xB C.P st ov t m k x=(st', p)) (hob:p) :
  ∃w', (Instr.mapUpdate t um uk ux).run C.P w=.ok () w'∧aX C S μ st' a w':=by
 unfold xB at hp
 split at hp
 ·rename_i K E id ks hu
  split at hp
  ·rename_i t' ag α enc d l t2 ag2 β enc2 d2 l2 hK hbox
   split at hp
   ·rename_i vs hvs
    split at hp
    ·rename_i hc
     simp only[Bool.and_eq_true, Nat.beq_eq, beq_iff_eq]at hc
     obtain⟨⟨rfl, rfl⟩, rfl⟩:=hc
     simp only[Prod.mk.injEq]at hp
     obtain⟨rfl, rfl⟩:=hp
     have e1:=bQ hm
     have e2:=fg hk
     subst e1 e2
     obtain⟨b, arr, clock, hmu, hb, hmap⟩:=h.heap.box id _ hbox
     obtain⟨m1, m2⟩:=v3 hmap
     obtain⟨x1, x2⟩:=AM hvs hx
     have hblk0:aG (μ id)=some b:=by rw[hmu];rfl
     have hblk:bE (μ id) b:=.inl hblk0
     have hid:id<st.heap.length:=(List.getElem?_eq_some_iff.1 hbox).1
     have key:∀(o:Obj) (arr':Array MapEntry) (clock':Nat), o=.map arr' clock'→(arr'.size=(o6 (l.map fun p=>(p.1, enc p.2)) ks vs).length) →
       (∀(i:Nat) (k':ByteArray) (y:List V), (o6 (l.map fun p=>(p.1, enc p.2)) ks vs)[i]?=some (k', y)→∃e, arr'[i]?=some e∧e.key=.string k'∧(ag=false→y.length=1)∧ak S μ w (kx ag y) e.val) →
       aX C S μ ⟨st.env, st.heap.set id (.mpb t ag enc2 d2 l2)⟩ a (w.putObj b o):=by
      intro o arr' clock' ho hl hh
      subst ho
      have hSw:∀k, S k→k<w.heap.size→(w.putObj b (.map arr' clock')).heap[k]?=w.heap[k]?:=fun k hk _=>World.putObj_heap_other (fun e=>h.heap.notS id _ b hbox rfl hblk (e ▸ hk))
      have hu:=h.upd (id:=id) (u:=μ id) (B:=.mpb t ag enc2 d2 l2) (row:=some b) (w':=w.putObj b (.map arr' clock')) ⟨rfl, rfl, rfl, by rw[World.putObj_size];exact Nat.le_refl _, fun k hk hkb=>World.putObj_heap_other (fun e=>hkb (by rw[e]))⟩
       (fun k hk=>⟨_, hbox, rfl, by cases hk;exact hblk⟩) (by omega) ?_ (fun k hk=>.inl (hk.one hblk0)) (.inl ⟨rfl, .inl rfl⟩)
      ·rw[dy]at hu
       have he:bG st.heap id (.mpb t ag enc2 d2 l2)=st.heap.set id (.mpb t ag enc2 d2 l2):=by
        unfold bG
        rw[if_neg (by rw[Nat.beq_eq];omega)]
       rwa [he]at hu
      ·rw[dy]
       refine⟨b, arr', clock', hmu, World.putObj_heap_same (Array.getElem?_eq_some_iff.1 hb).1, by rw[hl, hob, List.length_map], fun i k' y hy=>?_⟩
       have hy2:(o6 (l.map fun p=>(p.1, enc p.2)) ks vs)[i]?=some (k', enc2 y):=by rw[hob, List.getElem?_map, hy, Option.map_some]
       obtain⟨e, q1, q2, q3, q4⟩:=hh i k' _ hy2
       exact⟨e, q1, q2, q3, q4.stable (fun _ h _=>h) hSw (by rw[World.putObj_size];exact Nat.le_refl _) (fun id hf=>by rw[vS]at hf)⟩
     have m3:∀(i:Nat) (k':ByteArray) (y:List V), (l.map fun p=>(p.1, enc p.2))[i]?=some (k', y)→∃e, arr.toList[i]?=some e∧e.key=.string k'∧((ag=false→y.length=1)∧ak S μ w (kx ag y) e.val):=by
      intro i k' y hy
      rw[List.getElem?_map]at hy
      cases hc:l[i]? with
      | none=>rw[hc]at hy;cases hy
      | some q =>
       rw[hc]at hy
       cases hy
       exact m2 i q.1 q.2 hc
     rw[hmu]
     rcases EZ (R:=fun y v=>(ag=false→y.length=1)∧ak S μ w (kx ag y) v) [] ks (l.map fun p=>(p.1, enc p.2)) arr.toList 0 (by rw[m1, List.length_map]) m3 with ⟨h1, h0, h2, h3⟩ | ⟨h1, i, e, y, h2, h3, h4, h5, h6, h7, h8⟩
     ·refine⟨_, pg hu hK hb h2 (fun i u hh=>by cases hh), key _ _ _ rfl ?_ ?_⟩
      ·rw[h3, Array.size_push, List.length_append, List.length_map]
       simpa using m1
      ·intro i k' y hy
       rw[h3]at hy
       by_cases hi:i<l.length
       ·rw[List.getElem?_append_left (by rw[List.length_map];exact hi)]at hy
        obtain⟨e, q1, q2, q3⟩:=m3 i k' y hy
        refine⟨e, ?_, q2, q3⟩
        rw[Array.getElem?_push, if_neg (by have h99:arr.size=l.length:=(by simpa using m1);omega)]
        simpa using q1
       ·rw[List.getElem?_append_right (by rw[List.length_map];omega)]at hy
        have hi0:i-(l.map fun p=>(p.1, enc p.2)).length=0:=by
         rcases Nat.eq_zero_or_pos (i-(l.map fun p=>(p.1, enc p.2)).length)with h | h
         ·exact h
         ·rw[List.getElem?_eq_none (by simp;rw[List.length_map]at h;omega)]at hy;cases hy
        rw[hi0]at hy
        cases hy
        have hie:i=arr.size:=by rw[List.length_map]at hi0;have h98:arr.size=l.length:=(by simpa using m1);omega
        exact⟨_, by rw[Array.getElem?_push, if_pos hie], rfl, x1, x2⟩
     ·have hia:i<arr.size:=by have:=(List.getElem?_eq_some_iff.1 h3).1;simpa using this
      refine⟨_, pg hu hK hb h6 (fun i' u hh=>by cases hh;exact⟨e, by simpa using h3, h4⟩), key _ _ _ rfl ?_ ?_⟩
      ·rw[h8, List.length_set, List.length_map]
       simpa using m1
      ·intro j k' y' hy
       rw[h8, List.getElem?_set]at hy
       rw[Nat.zero_add, Array.getElem?_modify]
       by_cases hij:i=j
       ·subst hij
        rw[if_pos rfl, if_pos (List.getElem?_eq_some_iff.1 h2).1]at hy
        cases hy
        rw[if_pos rfl, show arr[i]?=some e by simpa using h3]
        exact⟨_, rfl, rfl, x1, x2⟩
       ·rw[if_neg hij]at hy
        rw[if_neg hij]
        obtain⟨e', q1, q2, q3⟩:=m3 j k' y' hy
        exact⟨e', by simpa using q1, q2, q3⟩
    ·exact au hp hob
   ·exact au hp hob
  ·exact au hp hob
 ·exact au hp hob
theorem mf (h:aX C S μ st a w) {ov:Ov} {o:Oper} (hp:pc C.P C.nt ov o st=(st', p)) (hob:p) {K:Act→World→Prop} {Q:Exit→Act→World→Prop}
  (hK:∀S' μ' a' w', aX C S' μ' st' a' w'→K a' w'):o.uponIn (nh C.rd) 0 C.P a K Q ((execOp a.eval o).run C.P w):=by
 have hv:∀(s:Sem Value) (u:Value) (w':World), s.run C.P w=.ok u w'→(do pure (.value (← s)):Sem Next).run C.P w=.ok (.value u) w':=by
  intro s u w' h
  simp only[Sem.run_bind, h, Result.andThen_ok, Sem.run_pure]
 have val:∀(u:Value) (w':World) (μ':Nat→Value), (execOp a.eval o).run C.P w=.ok (.value u) w'→aX C S μ' st' (a.put o.dst u) w'→o.uponIn (nh C.rd) 0 C.P a K Q ((execOp a.eval o).run C.P w):=by
  intro u w' μ' hr hR
  rw[hr, Oper.uponIn_value]
  exact hK _ _ _ _ hR
 have hpure:uu C.nt st ov o.dst (fX C.P st.heap (eB st.env) o.op)=(st', p)→o.uponIn (nh C.rd) 0 C.P a K Q ((execOp a.eval o).run C.P w):=by
  intro hp
  generalize hq:fX C.P st.heap (eB st.env) o.op=q at hp
  obtain⟨d, q⟩:=q
  unfold uu at hp
  split at hp
  ·rename_i d' _
   have hqq:q∧ql d d':=by
    unfold ePut at hp
    split at hp
    ·split at hp
     ·simp only[Prod.mk.injEq]at hp;rw[← hp.2]at hob;exact hob
     ·exact au hp hob
    ·simp only[Prod.mk.injEq]at hp;rw[← hp.2]at hob;exact hob
   obtain⟨u, h1, h2⟩:=hE h.heap h.eval hq hqq.1
   exact val u w μ h1 (h.ePut hp hob (qn hqq.2 h2)).2
  ·rename_i d' _
   have hqq:q∧vY d d':=by
    unfold ePut at hp
    split at hp
    ·split at hp
     ·simp only[Prod.mk.injEq]at hp;rw[← hp.2]at hob;exact hob
     ·exact au hp hob
    ·simp only[Prod.mk.injEq]at hp;rw[← hp.2]at hob;exact hob
   obtain⟨u, h1, h2⟩:=hE h.heap h.eval hq hqq.1
   exact val u w μ h1 (h.ePut hp hob (hqq.2 _ _ _ _ h2)).2
  ·have hqq:q:=by
    unfold ePut at hp
    split at hp
    ·split at hp
     ·simp only[Prod.mk.injEq]at hp;rw[← hp.2]at hob;exact hob
     ·exact au hp hob
    ·simp only[Prod.mk.injEq]at hp;rw[← hp.2]at hob;exact hob
   obtain⟨u, h1, h2⟩:=hE h.heap h.eval hq hqq
   exact val u w μ h1 (h.ePut hp hob h2).2
 unfold pc at hp
 split at hp
 ·rename_i T ho
  split at hp
  ·rename_i z hz
   obtain⟨v, hv1, hv2⟩:=gA (P:=C.P) (S:=S) (μ:=μ) (w:=w) hz
   refine val _ _ _ ?_ (h.eVar hp hob hv2)
   simp[execOp, ho, Instr.alloc, Sem.run_bind, hv1, newVar, newRow, newObj, Sem.run]
  ·exact au hp hob
 ·rename_i T x ho
  split at hp
  ·rename_i cs hcs
   refine val _ _ _ ?_ (h.eVar hp hob (hD h.heap (h.eval x) hcs))
   simp[execOp, ho, Instr.box, newVar, newRow, newObj, Sem.run]
  ·exact au hp hob
 ·rename_i t ad x ho
  split at hp
  ·rename_i hd
   obtain⟨w', h1, h2⟩:=qv h (h.eval ad) (h.eval x) hp hob
   have hr:(execOp a.eval o).run C.P w=.ok .skip w':=by
    simp only[execOp, ho, Sem.run_bind, h1, Result.andThen_ok, Sem.run_pure]
   rw[hr, Oper.uponIn_skip, hd]
   exact hK _ _ _ _ h2
  ·exact au hp hob
 ·rename_i t len parts ho
  have core:∀(ov:Ov) (st1:St) (p1:Prop), rR C.P C.nt st ov o.dst t len (parts.toList.map fun p=>(p.1, eB st.env p.2))=(st1, p1)→p1→∃u w' μ', (execOp a.eval o).run C.P w=.ok (.value u) w'∧aX C S μ' st1 (a.put o.dst u) w':=by
   intro ov st1 p1 hp hob
   obtain⟨u, w', μ', h1, h2⟩:=xD h (uparts:=parts.toList.map fun p=>(p.1, a.eval p.2)) (by simp) (fun j x u hx hu=>by
    simp only[List.getElem?_map, Array.getElem?_toList]at hx hu
    cases hj:parts[j]? with
    | none=>rw[hj]at hx;cases hx
    | some q=>rw[hj]at hx hu;simp at hx hu;subst hx hu;exact h.eval q.2) hp hob
   refine⟨u, w', μ', ?_, h2⟩
   have he:parts.map (fun (i, x)=>(i, a.eval x))=(parts.toList.map fun p=>(p.1, a.eval p.2)).toArray:=Array.ext' (by simp)
   rw[← he]at h1
   simp only[execOp, ho, Sem.run_bind, h1, Result.andThen_ok, Sem.run_pure]
  split at hp
  ·generalize hq:rR C.P C.nt st _ o.dst t len _=q at hp
   obtain⟨st1, p1⟩:=q
   simp only at hp
   split at hp
   ·rename_i st2 hfz
    simp only[Prod.mk.injEq]at hp
    obtain⟨rfl, rfl⟩:=hp
    obtain⟨u, w', μ', e1, e2⟩:=core _ _ _ hq hob
    obtain⟨S2, e3⟩:=e2.freeze hfz
    rw[e1, Oper.uponIn_value]
    exact hK _ _ _ _ e3
   ·exact au hp hob
  ·obtain⟨u, w', μ', e1, e2⟩:=core _ _ _ hp hob
   exact val u w' μ' e1 e2
 ·rename_i t l c ho
  have core:∀(ov:Ov) (st1:St) (p1:Prop), we C.P C.nt st ov o.dst t (eB st.env l) (eB st.env c)=(st1, p1)→p1→∃u w' μ', (execOp a.eval o).run C.P w=.ok (.value u) w'∧aX C S μ' st1 (a.put o.dst u) w':=by
   intro ov st1 p1 hp hob
   obtain⟨u, w', μ', h1, h2⟩:=y6 h (h.eval l) (h.eval c) hp hob
   refine⟨u, w', μ', ?_, h2⟩
   simp only[execOp, ho, Sem.run_bind, h1, Result.andThen_ok, Sem.run_pure]
  split at hp
  ·generalize hq:we C.P C.nt st _ o.dst t _ _=q at hp
   obtain⟨st1, p1⟩:=q
   simp only at hp
   split at hp
   ·rename_i st2 hfz
    simp only[Prod.mk.injEq]at hp
    obtain⟨rfl, rfl⟩:=hp
    obtain⟨u, w', μ', e1, e2⟩:=core _ _ _ hq hob
    obtain⟨S2, e3⟩:=e2.freeze hfz
    rw[e1, Oper.uponIn_value]
    exact hK _ _ _ _ e3
   ·exact au hp hob
  ·obtain⟨u, w', μ', e1, e2⟩:=core _ _ _ hp hob
   exact val u w' μ' e1 e2
 ·rename_i args ats ho
  split at hp
  ·rename_i s x t t' ha ht
   split at hp
   ·rename_i hc
    rw[Nat.beq_eq]at hc
    subst hc
    have ea:args=#[s, x]:=Array.ext' (by simpa using ha)
    have et:ats=#[t, t]:=Array.ext' (by simpa using ht)
    subst ea et
    split at hp
    ·obtain⟨u, w', S', μ', h1, h2⟩:=uz h (ty:=o.type) (h.eval s) (h.eval x) hp hob
     have hr:(execOp a.eval o).run C.P w=.ok (.value u) w':=by
      simp only[execOp, ho, resolve, invoke, builtin, List.map_toArray, List.map_cons, List.map_nil, Sem.run_bind, Sem.run_pure, Result.andThen_ok, h1]
     rw[hr, Oper.uponIn_value]
     exact hK _ _ _ _ h2
    ·obtain⟨u, w', μ', h1, h2⟩:=vG h (ty:=o.type) (h.eval s) (h.eval x) hp hob
     refine val u w' μ' ?_ h2
     simp only[execOp, ho, resolve, invoke, builtin, List.map_toArray, List.map_cons, List.map_nil, Sem.run_bind, Sem.run_pure, Result.andThen_ok, h1]
   ·exact au hp hob
  ·exact au hp hob
 ·rename_i f args ats ho
  exact y7 h ho hp hob hK
 ·rename_i t x ix ho
  split at hp
  ·rename_i i
   unfold Ck at hp
   generalize hx:eB st.env x=dx at hp
   generalize hix:eB st.env ix=dix at hp
   split at hp
   ·rename_i K E es k n hu
    split at hp
    ·rename_i hK2
     have hxr:=h.eval x
     have hir:=h.eval ix
     rw[hx]at hxr
     rw[hix]at hir
     have hiv:a.eval ix=.int .i64 n:=(show ∀u, de S w (.int .i64 n) u→u=.int .i64 n from fun u h=>by cases h;rfl) _ (bg hir)
     obtain⟨b, clock, arr, e1, e2, e3⟩:∃(b clock:Nat) (arr:Array MapEntry), a.eval x=.map (some b)∧w.heap[b]?=some (.map arr clock)∧arr.toList.map (fun e=>(e.key, e.val))=es.map (fun e=>(Value.int .i64 e.1, e.2)):=by
      have:=bg hxr
      generalize a.eval x=u at this
      cases this with
      | mp _ b clock arr q1 q2 q3 q4=>exact⟨b, clock, arr, rfl, q3, q4⟩
     split at hp
     ·rename_i j
      split at hp
      ·rename_i e he
       have hq:=dJ hp hob
       have hr:=pM hu hK2 e2 (md n arr.toList es 0 j e e3 he hq.1 hq.2) (z:=undef) (fun h=>by cases h)
       refine val (.tuple #[e.2, .bool true]) w μ ?_ (h.ePut hp hob (.tup _ _ rfl (fun i y u hy hu=>?_))).2
       ·simp only[execOp, ho, e1, hiv, Sem.run_bind, hr, Result.andThen_ok, Sem.run_pure, Option.isSome_some]
       ·match i with
        | 0=>simp at hy hu;subst hy hu;exact ak.ofVal _ _ _ _
        | 1=>simp at hy hu;subst hy hu;exact .v _ _ (.bool _)
        | i+2=>simp at hy
      ·exact au hp hob
     ·split at hp
      ·rename_i z hz
       have hq:=dJ hp hob
       have hzr:(zeroValue E).run C.P w=.ok z w:=by
        cases hi:C.P.info? E with
        | none=>simp[hi]at hz
        | some i0 =>
         simp only[hi, Option.bind_some]at hz
         simp[zeroValue, typeInfo, hi, hz, Sem.run_bind]
       have hr:=pM hu hK2 e2 (qw n arr.toList es 0 e3 hq) (z:=z) (fun _=>hzr)
       refine val (.tuple #[z, .bool false]) w μ ?_ (h.ePut hp hob (.tup _ _ rfl (fun i y u hy hu=>?_))).2
       ·simp only[execOp, ho, e1, hiv, Sem.run_bind, hr, Result.andThen_ok, Sem.run_pure, Option.isSome_none]
       ·match i with
        | 0=>simp at hy hu;subst hy hu;exact ak.ofVal _ _ _ _
        | 1=>simp at hy hu;subst hy hu;exact .v _ _ (.bool _)
        | i+2=>simp at hy
      ·exact au hp hob
    ·exact au hp hob
   ·exact au hp hob
  ·rename_i d
   unfold LH at hp
   generalize hx:eB st.env x=dx at hp
   generalize hix:eB st.env ix=dix at hp
   split at hp
   ·rename_i K E es k n hu
    split at hp
    ·rename_i hK2
     have hxr:=h.eval x
     have hir:=h.eval ix
     rw[hx]at hxr
     rw[hix]at hir
     have hiv:a.eval ix=.int .i64 n:=(show ∀u, de S w (.int .i64 n) u→u=.int .i64 n from fun u h=>by cases h;rfl) _ (bg hir)
     obtain⟨b, clock, arr, e1, e2, e3⟩:∃(b clock:Nat) (arr:Array MapEntry), a.eval x=.map (some b)∧w.heap[b]?=some (.map arr clock)∧arr.toList.map (fun e=>(e.key, e.val))=es.map (fun e=>(Value.int .i64 e.1, e.2)):=by
      have:=bg hxr
      generalize a.eval x=u at this
      cases this with
      | mp _ b clock arr q1 q2 q3 q4=>exact⟨b, clock, arr, rfl, q3, q4⟩
     obtain⟨j, e, he, hq1, hq2, hq3⟩:=dJ hp hob
     have hr:=pM hu hK2 e2 (md n arr.toList es 0 j e e3 he hq1 hq2) (z:=undef) (fun h=>by cases h)
     refine val (.tuple #[e.2, .bool true]) w μ ?_ (h.ePut hp hob (.tup _ _ rfl (fun i y u hy hu=>?_))).2
     ·simp only[execOp, ho, e1, hiv, Sem.run_bind, hr, Result.andThen_ok, Sem.run_pure, Option.isSome_some]
     ·match i with
      | 0=>simp at hy hu;subst hy hu;exact qn hq3 (ak.ofVal _ _ _ _)
      | 1=>simp at hy hu;subst hy hu;exact .v _ _ (.bool _)
      | i+2=>simp at hy
    ·exact au hp hob
   ·exact au hp hob
  ·exact hpure hp
 ·rename_i t ho
  split at hp
  ·rename_i t' ag α enc d l
   split at hp
   ·obtain⟨_, hR⟩:=h.newBox (u:=.map (some w.heap.size)) (w':=w.alloc (.map #[] 0)) hp hob (World.grownBy_alloc w _ none) ⟨w.heap.size, #[], 0, rfl, heap_alloc_new w _, rfl, fun i k x hx=>by simp at hx⟩ (fun b hb=>by simp[bE, aG]at hb;omega) (v:=.map (some w.heap.size)) (by
     have:=ak.own (S:=S) (μ:=aV μ st.heap.length (.map (some w.heap.size))) (w:=w.alloc (.map #[] 0)) st.heap.length
     rwa [av]at this)
    refine val _ _ _ ?_ hR
    simp[execOp, ho, Instr.makeMap, newObj, Sem.run]
   ·exact au hp hob
  ·exact au hp hob
 ·rename_i t m k x ho
  split at hp
  ·rename_i hd
   obtain⟨w', h1, h2⟩:=vH h (h.eval m) (h.eval k) (h.eval x) hp hob
   have hr:(execOp a.eval o).run C.P w=.ok .skip w':=by
    simp only[execOp, ho, Sem.run_bind, h1, Result.andThen_ok, Sem.run_pure]
   rw[hr, Oper.uponIn_skip, hd]
   exact hK _ _ _ _ h2
  ·exact au hp hob
 ·exact hpure hp
theorem b8 (h:aX C S μ st a w) {ops:List Oper} {o:Oper} {b:Bool} (hg:f8 ops st o=some b):Region.wanted o (yielded ops.toArray a.tmps)=b:=by
 unfold f8 at hg
 unfold Region.wanted
 cases hgd:o.guard with
 | none=>rw[hgd]at hg;cases hg;rfl
 | some q =>
  obtain⟨g, want⟩:=q
  rw[hgd]at hg
  simp only at hg ⊢
  split at hg
  ·rename_i t ht
   have hv:=h.eval (.tmp t)
   have hy:yielded ops.toArray a.tmps g=match a.tmps[t]? with | some (.bool b)=>some b | _=>none:=by
    unfold yielded
    simp only[List.getElem?_toArray, ht, Option.bind_some]
    rfl
   rw[hy]
   simp only[eB]at hv
   split at hg
   ·rename_i c hl
    rw[hl]at hv
    have:=ff hv
    simp only[Act.eval, Array.getD_eq_getD_getElem?]at this
    cases hq:a.tmps[t]? with
    | none=>rw[hq]at this;simp[undef]at this
    | some u =>
     rw[hq]at this
     simp at this
     subst this
     cases hg
     cases c<;>cases want<;>rfl
   ·rename_i hl
    rw[hl]at hv
    obtain⟨us, hu, h1, _⟩:=tq hv
    simp only[Act.eval, Array.getD_eq_getD_getElem?]at hu
    cases hg
    cases hq:a.tmps[t]? with
    | none=>cases want<;>rfl
    | some u =>
     rw[hq]at hu
     simp at hu
     subst hu
     cases want<;>rfl
   ·cases hg
  ·cases hg
theorem y8 {P:Program} {nt:Nat} {ov:Ov} {o:Oper} (hd:cI o=true) (hp:pc P nt ov o st=(st', p)) (hob:p):False:=by
 unfold cI at hd
 split at hd
 ·rename_i c ho
  unfold pc at hp
  rw[ho]at hp
  simp only[fX]at hp
  unfold uu at hp
  split at hp
  ·exact(dJ hp hob).1
  ·exact(dJ hp hob).1
  ·exact dJ hp hob
 ·cases hd
theorem qx {ops:List Oper} {ovs:List (Nat×Ov)} {Q:Exit→Act→World→Prop}:∀(l:List Oper) (i:Nat) (st:St) (S:Nat→Prop) (μ:Nat→Value) (a:Act) (w:World) (p:Prop), aX C S μ st a w→c5 C.P C.nt ops ovs i l st=(st', p)→p →
  (∀S' μ' a' w', aX C S' μ' st' a' w'→Q .normal a' w')→wpListIn (nh C.rd) 0 C.P ops.toArray Q l a w:=by
 intro l
 induction l with
 | nil =>
  intro i st S μ a w p h hp hob hK
  simp only[c5, Prod.mk.injEq]at hp
  obtain⟨rfl, _⟩:=hp
  exact hK _ _ _ _ h
 | cons o r ih =>
  intro i st S μ a w p h hp hob hK
  unfold c5 at hp
  unfold wpListIn
  split at hp
  ·rename_i hg
   rw[if_pos (b8 h hg)]
   generalize hq:pc C.P C.nt (oL ovs i) o st=q at hp
   obtain⟨st1, p1⟩:=q
   simp only at hp
   generalize hq2:c5 C.P C.nt ops ovs (i+1) r st1=q2 at hp
   obtain⟨st2, p2⟩:=q2
   simp only[Prod.mk.injEq]at hp
   obtain⟨rfl, rfl⟩:=hp
   have hnd:cI o=false:=by
    cases hd:cI o
    ·rfl
    ·exact(y8 hd hq hob.1).elim
   refine tp hnd (mf h hq hob.1 (fun S' μ' a' w' hR=>?_))
   exact ih (i+1) st1 S' μ' a' w' p2 hR hq2 hob.2 hK
  ·rename_i hg
   rw[if_neg (by rw[b8 h hg];simp)]
   refine⟨fun f _=>pB _ f, ?_⟩
   generalize hq:mb C.nt st o.dst=q at hp
   obtain⟨st1, p1⟩:=q
   simp only at hp
   generalize hq2:c5 C.P C.nt ops ovs (i+1) r st1=q2 at hp
   obtain⟨st2, p2⟩:=q2
   simp only[Prod.mk.injEq]at hp
   obtain⟨rfl, rfl⟩:=hp
   exact ih (i+1) st1 _ _ _ _ p2 (h.ePut hq hob.1 (.tup [] #[] rfl (fun j y u hy _=>by simp at hy))).2 hq2 hob.2 hK
  ·exact au hp hob
end
end Go.Proofs.YtckgpflobhpnpaaGreat
namespace Go.Proofs.YtckgpflobhpnpaaGreat
open Go.RowKit
set_option linter.unusedVariables false
set_option linter.unusedSimpArgs false
@[reducible] def thenQ (next:St→Prop) (Q:Exit→St→Prop):Exit→St→Prop
 | .normal, st=>next st
 | e, st=>Q e st
@[reducible] def blockQ (id:Nat) (Q:Exit→St→Prop):Exit→St→Prop
 | .exit i, st=>if Nat.beq i id then Q .normal st else Q (.exit i) st
 | e, st=>Q e st
section
variable {C:lC} {st:St} {Q:Exit→St→Prop}
theorem Ev.mono {c:Code} {Q':Exit→St→Prop} (h:Ev C c Q st) (hq:∀e st', Q e st'→Q' e st'):Ev C c Q' st :=
 fun a w S μ hR=>wpIn_mono (h a w S μ hR) fun e a' w' ⟨st', S', μ', q, r⟩=>⟨st', S', μ', hq e st' q, r⟩
theorem Ev.skip (h:Q .normal st):Ev C .skip Q st:=fun a w S μ hR=>wpIn_skip ⟨st, S, μ, h, hR⟩
theorem Ev.label {l:Nat} (h:Q .normal st):Ev C (.label l) Q st:=fun a w S μ hR=>wpIn_label ⟨st, S, μ, h, hR⟩
theorem Ev.exit {id:Nat} (h:Q (.exit id) st):Ev C (.exit id) Q st:=fun a w S μ hR=>wpIn_exit ⟨st, S, μ, h, hR⟩
theorem Ev.ret (h:Q .ret st):Ev C .ret Q st:=fun a w S μ hR=>wpIn_ret ⟨st, S, μ, h, hR⟩
theorem Ev.seq {x y:Code} (h:Ev C x (thenQ (Ev C y Q) Q) st):Ev C (.seq x y) Q st:=fun a w S μ hR=>by
 refine wpIn_seq (wpIn_mono (h a w S μ hR) ?_)
 rintro e a' w' ⟨st', S', μ', hq, hR'⟩
 cases e with
 | normal=>exact hq a' w' S' μ' hR'
 | exit id=>exact⟨st', S', μ', hq, hR'⟩
 | goto l=>exact⟨st', S', μ', hq, hR'⟩
 | ret=>exact⟨st', S', μ', hq, hR'⟩
 | panic ch=>exact⟨st', S', μ', hq, hR'⟩
 | outgrown=>exact⟨st', S', μ', hq, hR'⟩
theorem Ev.cond {c:Operand} {x y:Code} (b:Bool) (hc:eB st.env c=.v (.bool b)) (hx:b=true→Ev C x Q st) (hy:b=false→Ev C y Q st):Ev C (.cond c x y) Q st:=fun a w S μ hR =>
 wpIn_cond_split (t:=b) (ff (hc ▸ hR.eval c)) (fun h=>hx h a w S μ hR) (fun h=>hy h a w S μ hR)
theorem Ev.block {id:Nat} {c:Code} (h:Ev C c (blockQ id Q) st):Ev C (.block id c) Q st:=fun a w S μ hR=>by
 refine wpIn_block (wpIn_mono (h a w S μ hR) ?_)
 rintro e a' w' ⟨st', S', μ', hq, hR'⟩
 cases e with
 | exit i =>
  simp only[blockQ]at hq
  simp only[Exit.inBlock]
  by_cases hi:i=id
  ·rw[if_pos hi]
   rw[if_pos (by rw[Nat.beq_eq];exact hi)]at hq
   exact⟨st', S', μ', hq, hR'⟩
  ·rw[if_neg hi]
   rw[if_neg (by rw[Nat.beq_eq];exact hi)]at hq
   exact⟨st', S', μ', hq, hR'⟩
 | normal=>exact⟨st', S', μ', hq, hR'⟩
 | goto l=>exact⟨st', S', μ', hq, hR'⟩
 | ret=>exact⟨st', S', μ', hq, hR'⟩
 | panic ch=>exact⟨st', S', μ', hq, hR'⟩
 | outgrown=>exact⟨st', S', μ', hq, hR'⟩
theorem kE {R:Nat→Prop} (h:∃n, R n):∃n, R n∧∀m, R m→n≤m:=by
 obtain⟨n, hn⟩:=h
 induction n using Nat.strongRecOn with
 | _ n ih =>
  by_cases hm:∃m, m<n∧R m
  ·obtain⟨m, h1, h2⟩:=hm
   exact ih m h1 h2
  ·exact⟨n, hn, fun m hR=>by
    refine Decidable.byContradiction fun hlt=>hm ⟨m, by omega, hR⟩⟩
theorem aX.keep {S:Nat→Prop} {μ:Nat→Value} {a:Act} {w:World} (h:aX C S μ st a w) (keep:List Nat):aX C S μ ⟨mc keep st.env, st.heap⟩ a w :=
 h.weak (fun t d hm=>rT hm)
def keepS (keep:List Nat) (n:Nat) (st:St):St:=⟨mc keep st.env, st.heap.take n⟩
theorem aX.keepS {S:Nat→Prop} {μ:Nat→Value} {a:Act} {w:World} (h:aX C S μ st a w) (keep:List Nat) (n:Nat):aX C S μ (keepS keep n st) a w :=
 (h.keep keep).heapTo (fun i A hA=>.inr (by
  rw[List.getElem?_take]at hA
  split at hA
  ·exact hA
  ·cases hA))
theorem Ev.keep {c:Code} (keep:List Nat) (n:Nat) {st':St} (h:Proofs.YtckgpflobhpnpaaGreat.keepS keep n st=st') (he:Ev C c Q st'):Ev C c Q st:=fun a w S μ hR=>by
 subst h
 exact he a w S μ (hR.keepS keep n)
theorem Ev.loop {σ:Type _} (keep:List Nat) (n:Nat) (mk:σ→St) (inv:σ→Prop) (m:σ→Nat) {c:Code} (s0:σ) (h0:Proofs.YtckgpflobhpnpaaGreat.keepS keep n st=mk s0) (hi:inv s0)
  (round:∀s, inv s→Ev C c (thenQ (fun st'=>∃s', Proofs.YtckgpflobhpnpaaGreat.keepS keep n st'=mk s'∧inv s'∧m s'<m s) Q) (mk s)):Ev C (.loop c) Q st:=fun a w S μ hR=>by
 have hR0:=hR.keepS keep n
 rw[h0]at hR0
 let R:Act→World→Nat→Prop:=fun a w n=>∃(s:σ) (S:Nat→Prop) (μ:Nat→Value), inv s∧m s=n∧aX C S μ (mk s) a w
 let M:Act→World→Nat:=fun a w=>@dite _ (∃n, R a w n) (Classical.propDecidable _) (fun h=>Classical.choose (kE h)) (fun _=>0)
 have hM:∀a w, (∃n, R a w n)→R a w (M a w)∧∀n, R a w n→M a w≤n:=by
  intro a w h
  have:M a w=Classical.choose (kE h):=dif_pos h
  rw[this]
  exact Classical.choose_spec (kE h)
 refine wpIn_loop (fun a w=>∃n, R a w n) M ⟨m s0, s0, S, μ, hi, rfl, hR0⟩ ?_
 intro a w hI
 obtain⟨⟨s, S', μ', h1, h2, h3⟩, _⟩:=hM a w hI
 refine wpIn_mono (round s h1 a w S' μ' h3) ?_
 rintro e a' w' ⟨st', S2, μ2, hq, hR'⟩
 cases e with
 | normal =>
  obtain⟨s', hk, q1, q2⟩:=hq
  have hR2:=hR'.keepS keep n
  rw[hk]at hR2
  have hex:∃n, R a' w' n:=⟨m s', s', S2, μ2, q1, rfl, hR2⟩
  refine⟨hex, ?_⟩
  have:=(hM a' w' hex).2 (m s') ⟨s', S2, μ2, q1, rfl, hR2⟩
  omega
 | exit id=>exact⟨st', S2, μ2, hq, hR'⟩
 | goto l=>exact⟨st', S2, μ2, hq, hR'⟩
 | ret=>exact⟨st', S2, μ2, hq, hR'⟩
 | panic ch=>exact⟨st', S2, μ2, hq, hR'⟩
 | outgrown=>exact⟨st', S2, μ2, hq, hR'⟩
theorem Ev.cut {σ:Type _} (keep:List Nat) (n:Nat) (mk:σ→St) (inv:σ→Prop) {x y:Code} (hx:Ev C x (thenQ (fun st'=>∃s, Proofs.YtckgpflobhpnpaaGreat.keepS keep n st'=mk s∧inv s) Q) st) (hy:∀s, inv s→Ev C y Q (mk s)):Ev C (.seq x y) Q st :=
 Ev.seq (hx.mono (fun e st' hq=>by
  cases e with
  | normal =>
   obtain⟨s, h1, h2⟩:=hq
   exact Ev.keep keep n h1 (hy s h2)
  | exit id=>exact hq
  | goto l=>exact hq
  | ret=>exact hq
  | panic ch=>exact hq
  | outgrown=>exact hq))
end
def V.scal:V→Bool
 | .sl _ _ _ _=>false
 | .mp _=>false
 | .sm _ _ _ _=>false
 | _=>true
def Lo:D→D→Prop
 | .own _, .v (.sl _ enc _ l)=>∀z∈l, (enc z).all V.scal=true
 | _, .v (.sl _ _ _ l)=>l=[]
 | _, .v (.mp _)=>False
 | _, .v (.sm _ _ _ _)=>False
 | _, .v _=>True
 | _, .nils=>True
 | _, _=>False
def M7:List D→List D→Prop
 | [], []=>True
 | x::xs, y::ys=>Lo x y∧M7 xs ys
 | _, _=>False
def JR:D→D→Prop
 | .agg xs, .agg ys=>M7 xs ys
 | x, y=>Lo x y
def M0:List D→List D→Prop
 | [], []=>True
 | x::xs, y::ys=>JR x y∧M0 xs ys
 | _, _=>False
def y9 (al:Bool) (H:List aq):D→D→Prop
 | .tup xs, .tup ys=>LD H xs ys∧(al=true∨M0 xs ys)
 | x, y=>Jh H x y∧(al=true∨JR x y)
section
variable {P:Program} {S:Nat→Prop} {μ:Nat→Value} {w:World}
theorem za {x:V} {u:Value} (h:de S w x u) (hs:x.scal=true) (S':Nat→Prop):de S' w x u:=by
 cases h with
 | int=>exact .int _ _
 | bool=>exact .bool _
 | str=>exact .str _
 | nil=>cases hs
 | row=>cases hs
 | mp=>cases hs
 | nilf=>exact .nilf
 | nsl=>exact .nsl
 | esl p c h=>exact .esl p c h
 | smn=>cases hs
 | sm=>cases hs
 | nmp=>exact .nmp
theorem DU {sz:Nat} {α:Type} {enc:α→List V} {d:α} {l:List α} {u:Value} {S':Nat→Prop} (h:de S w (.sl sz enc d l) u) (hs:∀z∈l, (enc z).all V.scal=true) (hb:∀b, bE u b→S' b):de S' w (.sl sz enc d l) u:=by
 obtain⟨p, c, rfl, h1, h2, h3, h4⟩:=fe h
 refine rL rfl h1 h2 h3 (fun h0=>?_)
 obtain⟨b, off, us, rfl, q1, q2, q3, q4, q5⟩:=h4 h0
 refine⟨b, off, us, rfl, hb b (.inl rfl), q2, q3, q4, fun i x j y hx hy=>za (q5 i x j y hx hy) ?_ S'⟩
 have:=hs x (List.mem_of_getElem? hx)
 rw[List.all_eq_true]at this
 exact this y (List.mem_of_getElem? hy)
theorem Cn {H:List aq} {S':Nat→Prop} (hH:a9 S μ w H) (hslt:∀b, S b→b<w.heap.size) {x y:D} (hown:∀(i:Nat) (A:aq) (b:Nat), H[i]?=some A→A.isArr=true→bE (μ i) b→S' b)
  {u:Value} (he:HI H x y) (hf:Lo x y) (h:ak S μ w x u):ak S' μ w y u:=by
 have h2:ak (fun b=>S b∨S' b) μ w y u:=qo hH (fun b hb=>.inl hb) hslt (.inl fun i A b h1 h2 h3=>.inr (hown i A b h1 h2 h3)) he h
 unfold Lo at hf
 split at hf
 ·rename_i id sz α enc d l
  refine .v _ _ (DU (bg h2) hf ?_)
  unfold HI at he
  simp only at he
  split at he
  ·rename_i E sz' β enc' d' l' hb
   rw[bQ h]
   exact fun b hb'=>hown id _ b hb rfl hb'
  ·exact he.elim
 ·subst hf
  obtain⟨p, c, rfl, h1, h3, h4, h5⟩:=fe (bg h2)
  exact .v _ _ (.nil _ _ _ _ _ h3 h4)
 ·exact hf.elim
 ·exact hf.elim
 ·rename_i v h3 h4 h5 h6
  refine .v _ _ (za (bg h2) ?_ _)
  cases v with
  | sl sz enc d l=>first | exact(h3 _ _ _ _ _ rfl).elim | exact(h4 _ _ _ _ _ rfl).elim | exact(h5 _ _ _ _ _ rfl).elim
  | mp es=>first | exact(h3 _ rfl).elim | exact(h4 _ rfl).elim | exact(h5 _ rfl).elim | exact(h6 _ rfl).elim
  | sm ag enc d l=>first | exact(h3 _ _ _ _ _ rfl).elim | exact(h4 _ _ _ _ _ rfl).elim | exact(h5 _ _ _ _ _ rfl).elim | exact(h6 _ _ _ _ _ rfl).elim
  | nmp=>rfl
  | int=>rfl
  | bool=>rfl
  | str=>rfl
  | nilf=>rfl
  | nsl=>rfl
  | esl=>first | exact(h3 rfl).elim | exact(h4 rfl).elim | exact(h5 rfl).elim | rfl
 ·cases h2
  exact .nils
 ·exact hf.elim
theorem Co:∀{xs ys:List D}, M7 xs ys→∀(j:Nat) (x y:D), xs[j]?=some x→ys[j]?=some y→Lo x y
 | [], [], _, j, x, y, hx, _=>by simp at hx
 | [], _::_, h, _, _, _, _, _=>h.elim
 | _::_, [], h, _, _, _, _, _=>h.elim
 | x::xs, y::ys, h, 0, _, _, hx, hy=>by simp at hx hy;subst hx hy;exact h.1
 | x::xs, y::ys, h, j+1, x', y', hx, hy=>Co h.2 j x' y' (by simpa using hx) (by simpa using hy)
theorem Cp:∀{xs ys:List D}, M0 xs ys→∀(j:Nat) (x y:D), xs[j]?=some x→ys[j]?=some y→JR x y
 | [], [], _, j, x, y, hx, _=>by simp at hx
 | [], _::_, h, _, _, _, _, _=>h.elim
 | _::_, [], h, _, _, _, _, _=>h.elim
 | x::xs, y::ys, h, 0, _, _, hx, hy=>by simp at hx hy;subst hx hy;exact h.1
 | x::xs, y::ys, h, j+1, x', y', hx, hy=>Cp h.2 j x' y' (by simpa using hx) (by simpa using hy)
theorem wj {al:Bool} {H:List aq} {S' Sn:Nat→Prop} (hH:a9 S μ w H) (hslt:∀b, S b→b<w.heap.size) (hS:∀b, S b→S' b)
  (hown':∀(i:Nat) (A:aq) (b:Nat), H[i]?=some A→A.isArr=true→bE (μ i) b→S' b) (hown:∀(i:Nat) (A:aq) (b:Nat), H[i]?=some A→A.isArr=true→bE (μ i) b→Sn b)
  (hal:al=true→∀b, S' b→Sn b) {x y:D} {u:Value} (he:Jh H x y) (hf:al=true∨JR x y) (h:ak S μ w x u):ak Sn μ w y u:=by
 rcases hf with hf | hf
 ·have:ak S' μ w y u:=by
   have h1:aM S' μ w [y] #[u]:=HK (ds:=[x]) hH hS hslt (.inl hown') ⟨he, trivial⟩ ⟨rfl, fun j a b ha hb=>by
    cases j with
    | zero=>simp at ha hb;subst ha hb;exact h
    | succ j=>simp at ha⟩
   exact h1.2 0 y u rfl rfl
  exact this.stable (fun b hb _=>hal hf b hb) (fun _ _ _=>rfl) (Nat.le_refl _) (fun _ _=>rfl)
 ·unfold Jh at he
  split at he
  ·rename_i xs ys
   obtain⟨us, rfl, q1, q2⟩:=ec h
   obtain⟨r1, r2⟩:=tu he
   refine .agg _ _ (by rw[← r1];exact q1) (fun k z v hz hv=>?_)
   obtain⟨x', hx1, hx2⟩:=r2 k z hz
   exact Cn hH hslt hown hx2 (Co hf k x' z hx1 hz) (q2 k x' v hx1 hv)
  ·rename_i hne
   have hf':Lo x y:=by
    unfold JR at hf
    split at hf
    ·rename_i xs ys
     exact(hne xs ys rfl rfl).elim
    ·exact hf
   exact Cn hH hslt hown he hf' h
theorem Fb {al:Bool} {H:List aq} {S' Sn:Nat→Prop} (hH:a9 S μ w H) (hslt:∀b, S b→b<w.heap.size) (hS:∀b, S b→S' b)
  (hown':∀(i:Nat) (A:aq) (b:Nat), H[i]?=some A→A.isArr=true→bE (μ i) b→S' b) (hown:∀(i:Nat) (A:aq) (b:Nat), H[i]?=some A→A.isArr=true→bE (μ i) b→Sn b)
  (hal:al=true→∀b, S' b→Sn b) {x y:D} {u:Value} (he:y9 al H x y) (h:ak S μ w x u):ak Sn μ w y u:=by
 unfold y9 at he
 split at he
 ·rename_i xs ys
  obtain⟨us, rfl, q1, q2⟩:=tq h
  obtain⟨r1, r2⟩:=xw he.1
  refine .tup _ _ (by rw[← r1];exact q1) (fun k z v hz hv=>?_)
  obtain⟨x', hx1, hx2⟩:=r2 k z hz
  exact wj hH hslt hS hown' hown hal hx2 (he.2.imp id fun hf=>Cp hf k x' z hx1 hz) (q2 k x' v hx1 hv)
 ·exact wj hH hslt hS hown' hown hal he.1 he.2 h
def LK (P:Program) (fn:Func) (al:Bool) (r:D):Exit→St→Prop
 | .normal, st=>gC P fn st∧y9 al st.heap (hJ P fn st) r
 | .ret, st=>gC P fn st∧y9 al st.heap (hJ P fn st) r
 | _, _=>False
theorem ai.of_ev {f:FuncId} {fn:Func} {c:Code} {as:List D} {al:Bool} {r:D} (hf:P.funcs[f]?=some fn) (hb:fn.body=some c) (hn:Nat.ble as.length fn.ntmps=true) (hr:er r=true)
  (h:∀C:lC, C.P=P→C.nt=fn.ntmps→C.rd=none→Ev C c (LK P fn al r) ⟨iC 0 as, []⟩):ai P f as [] al r []:=by
 intro S μ w us hS hH hus
 rw[Nat.ble_eq]at hn
 let C:lC:=⟨P, w, S, fn.ntmps, [], none⟩
 have hrel:aX C S μ ⟨iC 0 as, []⟩ (uo us fn.ntmps) w :=
  ⟨rfl, rfl, rfl, Nat.le_refl _, fun _ _=>rfl, fun _ h=>h, fun _ h=>.inl h, hS, tv hus hn, ⟨fun id B hB=>by simp at hB, fun i j A B b hA=>by simp at hA, fun i A b hA=>by simp at hA⟩, fun i A b hA=>by simp at hA, ⟨[], rfl, by simp[C], fun b hb=>by simp[C]at hb⟩, qs hus.1 hn, fun i A b hA=>by simp at hA⟩
 refine(jj (C:=C) hf hb rfl hrel (h C rfl rfl rfl) (fun e st' hq=>?_)).mono ?_
 ·cases e<;>first | exact⟨.inl rfl, hq.1⟩ | exact⟨.inr rfl, hq.1⟩ | exact hq.elim
 rintro e w' ⟨u, e0, st', S', μ', a', rfl, hq, hR, hx⟩
 have hq:y9 al st'.heap (hJ P fn st') r:=by
  cases e0<;>first | exact hq.2 | exact hq.elim
 refine⟨u, μ', fun b=>S' b∨∃(i:Nat) (A:aq), st'.heap[i]?=some A∧A.isArr=true∧bE (μ' i) b, rfl, hR.os, hR.tape, hR.output, hR.size, fun k hk _=>hR.old k hk, fun b hb=>.inl (hR.mono b hb), ?_, ?_, ?_,
   ⟨fun id B hB=>by simp at hB, fun i j A B b hA=>by simp at hA, fun i A b hA=>by simp at hA⟩, fun i A b hA=>by simp at hA, fun i A hA=>by simp at hA⟩
 ·rintro b (hb | ⟨i, A, h1, h2, h3⟩)
  ·exact hR.new b hb
  ·exact .inr (hR.may i A b h1 (by cases A<;>first | rfl | cases h2) h3)
 ·rintro b (hb | ⟨i, A, h1, h2, h3⟩)
  ·exact hR.slt b hb
  ·exact(hR.heap.box i A h1).lt (by cases A<;>first | rfl | cases h2) b h3
 ·refine Fb hR.heap hR.slt (S':=fun b=>S' b∨∃(i:Nat) (A:aq), st'.heap[i]?=some A∧A.isArr=true∧bE (μ' i) b) (fun b hb=>.inl hb) (fun i A b h1 h2 h3=>.inr ⟨i, A, h1, h2, h3⟩) (fun i A b h1 h2 h3=>⟨.inr ⟨i, A, h1, h2, h3⟩, .inr ?_⟩) (fun ha b hb=>⟨hb, .inl ha⟩) hq hx
  exact hR.may i A b h1 (by cases A<;>first | rfl | cases h2) h3
end
def Fc:Option Code→Option Exit
 | none=>some .normal
 | some .ret=>some .ret
 | some (.exit i)=>some (.exit i)
 | _=>none
def AN:LoopState→Bool
 | .busy=>true
 | _=>false
def AO (id l nt:Nat) (tm:Array Value) (Q:Exit→St→Prop):Exit→St→Prop:=fun e st =>
 (e=.normal∨e=.ret)∧match st.heap[id]? with
  | some (.loop l' tm' nt' env _ _ _ s p)=>l'=l∧tm'=tm∧nt'=nt∧AN s=false∧match Fc p with
   | some e'=>Q e' ⟨env, st.heap.set id .dead⟩
   | none=>False
  | _=>False
section
variable {C:lC} {st:St} {Q:Exit→St→Prop}
theorem Ev.range {g:Operand} {ps:List Nat} {assign body:Code} {gid:FuncId} {first cap:List D} {fn:Func} {c:Code} (hrd:C.rd=none) (hg:eB st.env g=.fn (.func gid) first cap) (hf:C.P.funcs[gid]?=some fn) (hb:fn.body=some c)
  (hgo:hC C.P gid=true) (hn:Nat.ble (first.length+1+cap.length) fn.ntmps=true) (hres:fn.results.toList=[]) (hfe:bN st.heap.length st.env=true) (hfh:bx st.heap.length st.heap=true)
  (h:∀(C1:lC) (l:Nat) (tm:Array Value) (asg bd:Code), asg=assign→bd=body→C1.P=C.P→C1.nt=fn.ntmps→C1.rd=none→Ev C1 c (AO st.heap.length l C.nt tm Q) ⟨iC 0 (first++[.yld st.heap.length]++cap), st.heap++[.loop l tm C.nt st.env ps asg bd .ready none]⟩) :
  Ev C (.rangeFunc g ps.toArray assign body) Q st:=by
 intro a w S μ hR
 rw[Nat.ble_eq]at hn
 have hfen:nh C.rd=Fence.wide:=by rw[hrd];rfl
 rw[hfen]
 refine wpIn_rangeFunc (fun fnid _=>?_)
 let w1:=(w.alloc (.deferred (some []))).alloc (.loop { state:=.ready, pending:=none, fn:=fnid, tmps:=a.tmps, params:=ps.toArray, assign:=assign, body:=body, defers:=w.heap.size })
 have hsz1:w1.heap.size=w.heap.size+2:=by
  show((w.heap.push _).push _).size=_
  simp
 have hgrown:w.grownBy w1 none:=⟨rfl, rfl, rfl, by omega, fun k hk _=>by
  show((w.heap.push _).push _)[k]?=_
  rw[Array.getElem?_push, if_neg (by simp;omega), Array.getElem?_push, if_neg (by omega)]⟩
 have hb0:w1.heap[w.heap.size]?=some (.deferred (some [])):=by
  show((w.heap.push _).push _)[w.heap.size]?=_
  rw[Array.getElem?_push, if_neg (by simp), Array.getElem?_push, if_pos rfl]
 have hl0:w1.heap[w.heap.size+1]?=some (.loop { state:=.ready, pending:=none, fn:=fnid, tmps:=a.tmps, params:=ps.toArray, assign:=assign, body:=body, defers:=w.heap.size }):=by
  show((w.heap.push _).push _)[w.heap.size+1]?=_
  rw[Array.getElem?_push, if_pos (by simp)]
 have h1:=hR.upd (id:=st.heap.length) (B:=.loop (w.heap.size+1) a.tmps C.nt st.env ps assign body .ready none) (row:=none) (u:=.pointer (some ⟨w.heap.size+1, 0, none⟩)) hgrown (fun k hk=>by cases hk) (Nat.le_refl _)
  ⟨_, rfl, hl0, rfl, rfl, rfl, rfl, rfl, rfl, hR.tsize, fun t d hm=>?_⟩ (fun b hb=>by simp[bE, aG]at hb;exact .inr (by omega)) (.inr ⟨fun A hA=>by simp at hA, hfe, hfh⟩)
 rotate_left
 ·obtain⟨q1, q2⟩:=hR.env t d hm
  refine⟨q1, q2.stable (fun _ h _=>h) (fun b hb hl=>hgrown.block b hl (by simp)) hgrown.size (fun i hi=>aF _ _ (fun e=>?_))⟩
  subst e
  rw[b5 hfe hm]at hi
  cases hi
 rw[show bG st.heap st.heap.length (.loop (w.heap.size+1) a.tmps C.nt st.env ps assign body .ready none)=st.heap++[.loop (w.heap.size+1) a.tmps C.nt st.env ps assign body .ready none]from by simp[bG]]at h1
 obtain⟨mk, d1, d2, d3⟩:=h1.defers
 have hWle:C.W.heap.size≤w.heap.size:=hR.size
 have hlive:∀(i:Nat) (A:aq) (b:Nat), (st.heap++[aq.loop (w.heap.size+1) a.tmps C.nt st.env ps assign body .ready none])[i]?=some A→A.live=true→bE (aV μ st.heap.length (.pointer (some ⟨w.heap.size+1, 0, none⟩)) i) b→b≠w.heap.size:=by
  intro i A b hA hl hb e
  by_cases hi:i<st.heap.length
  ·rw[List.getElem?_append_left hi]at hA
   rw[aF _ _ (by omega)]at hb
   have:=(hR.heap.box i A hA).lt hl b hb
   omega
  ·have hi2:i=st.heap.length:=by
    have:=(List.getElem?_eq_some_iff.1 hA).1
    simp at this
    omega
   subst hi2
   rw[av]at hb
   simp[bE, aG]at hb
   omega
 have hnew:∀b∈(w.heap.size::mk)++C.susp, w1.heap[b]?=some (.deferred (some []))∧C.W.heap.size≤b∧¬S b∧∀(i:Nat) (A:aq), (st.heap++[aq.loop (w.heap.size+1) a.tmps C.nt st.env ps assign body .ready none])[i]?=some A→A.live=true→¬bE (aV μ st.heap.length (.pointer (some ⟨w.heap.size+1, 0, none⟩)) i) b:=by
  intro b hb
  rw[List.cons_append]at hb
  rcases List.mem_cons.1 hb with rfl | hb
  ·exact⟨hb0, hWle, fun hS=>by have:=hR.slt _ hS;omega, fun i A hA hl hbk=>hlive i A _ hA hl hbk rfl⟩
  ·exact d3 b hb
 have hnd:((w.heap.size::mk)++C.susp).Nodup:=by
  rw[List.cons_append]
  refine List.nodup_cons.2 ⟨fun hm=>?_, d2⟩
  obtain⟨mk0, e1, e2, e3⟩:=hR.defers
  have:mk=mk0:=by
   have:mk.map y2=mk0.map y2:=by
    have x1:a.defers=mk.map y2:=d1
    have x2:a.defers=mk0.map y2:=e1
    rw[← x1, x2]
   exact List.map_inj_right (fun x y hxy=>by simpa[y2]using hxy) |>.1 this
  subst this
  have:=(Array.getElem?_eq_some_iff.1 (e3 _ hm).1).1
  omega
 have hrep:∃us vs, a.eval g=.func (.func gid) us vs∧aM S (aV μ st.heap.length (.pointer (some ⟨w.heap.size+1, 0, none⟩))) w1 (first++[.yld st.heap.length]++cap) (us++#[.func (.yield (w.heap.size+1)) #[] #[]]++vs):=by
  have hgv:ak S _ w1 (.fn (.func gid) first cap) (a.eval g):=hg ▸ h1.eval g
  generalize a.eval g=ug at hgv
  cases hgv with
  | fn _ _ _ us vs q1 q2 q3 q4 =>
   refine⟨us, vs, rfl, aM.app (aM.app ⟨q1, q2⟩ ⟨rfl, fun j y u hy hu=>?_⟩) ⟨q3, q4⟩⟩
   cases j with
   | zero =>
    simp at hy hu
    subst hy hu
    exact .yld _ _ (by rw[av];rfl)
   | succ j=>simp at hy
 obtain⟨us, vs, hge, hrep⟩:=hrep
 have hlen:(first++[D.yld st.heap.length]++cap).length≤fn.ntmps:=by simp;omega
 let C1:lC:=⟨C.P, C.W, C.S0, fn.ntmps, (w.heap.size::mk)++C.susp, none⟩
 have hR1:aX C1 S _ ⟨iC 0 (first++[.yld st.heap.length]++cap), st.heap++[.loop (w.heap.size+1) a.tmps C.nt st.env ps assign body .ready none]⟩ (uo (us++#[.func (.yield (w.heap.size+1)) #[] #[]]++vs) fn.ntmps) w1 :=
  h1.turn (C1:=C1) (mk:=mk) (mk1:=[]) hnd hnew rfl rfl rfl (qs hrep.1 hlen) (tv hrep hlen)
 refine⟨w.heap.size+1, [{ target:=.collected w.heap.size, args:=#[] }], w1, { target:=.fn (.func gid) vs, args:=us++#[.func (.yield (w.heap.size+1)) #[] #[]] }, w1, gid, us++#[.func (.yield (w.heap.size+1)) #[] #[]]++vs, w1, run_enterLoop_outer fnid a.tmps ps.toArray assign body, ?_, fun _ _=>trivial, ?_, fun hx=>(by cases hx), ?_⟩
 ·show(Deferred.ofValue (a.eval g) (#[Operand.const (.func (.yield (w.heap.size+1)) #[] #[])].map a.eval)).run C.P w1=_
  rw[hge]
  simp[Deferred.ofValue, Act.eval]
 ·simp[invoke, bI hgo]
 refine callsIn_wide.2 ((jj (C:=C1) hf hb rfl hR1 (h C1 (w.heap.size+1) a.tmps assign body rfl rfl rfl rfl rfl) (fun e st' hq=>⟨hq.1, by unfold gC;rw[hres];trivial⟩)).mono ?_)
 rintro e w' ⟨u, e0, st', S', μ', a', rfl, hq, hR2, _⟩
 obtain⟨_, hq⟩:=hq
 split at hq
 ·rename_i l2 tm2 nt2 env2 ps2 as2 bd2 s2 p2 hbx
  obtain⟨rfl, rfl, rfl, hbusy, hq⟩:=hq
  obtain⟨r2, n1, n2, n3, n4, n5, n6, n7, n8, h4⟩:=hR2.loopTo hbx .exhausted p2
  have hst:r2.state≠.busy:=fun e=>by rw[n2]at e;rw[e]at hbusy;cases hbusy
  have hend:(Instr.endLoop (w.heap.size+1)).run C.P w'=.ok p2 (w'.putObj (w.heap.size+1) (.loop { r2 with state:=.exhausted, pending:=p2 })):=by
   rw[run_endLoop n1 hst, ← n3]
  have hid:st.heap.length<st'.heap.length:=(List.getElem?_eq_some_iff.1 hbx).1
  obtain⟨_, _, _, _, _, _, _, _, _, _, henv⟩:=h4.heap.box st.heap.length _ (List.getElem?_set_self hid)
  have hb2:=h4.back (C:=C) (a:={ a with defers:=[{ target:=.collected w.heap.size, args:=#[] }]++a.defers }) (mk:=w.heap.size::mk) rfl rfl rfl (by simp[d1]) hR.tsize (env:=env2) henv
  have hc2:=hb2.heapTo (H:=st'.heap.set st.heap.length .dead) (fun i B hB=>by
   by_cases hi:i=st.heap.length
   ·subst hi
    rw[List.getElem?_set_self hid]at hB
    cases hB
    exact .inl rfl
   ·rw[List.getElem?_set_ne (fun e=>hi e.symm)]at hB
    refine .inr ?_
    rw[List.getElem?_set_ne (fun e=>hi e.symm)]
    exact hB)
  refine⟨p2, _, hend, ?_⟩
  cases p2 with
  | none=>exact⟨_, _, _, hq, hc2⟩
  | some c2 =>
   cases c2<;>first | exact hq.elim | skip
   ·exact wpIn_exit ⟨_, _, _, hq, hc2⟩
   ·exact wpIn_ret ⟨_, _, _, hq, hc2⟩
 ·exact hq.elim
end
end Go.Proofs.YtckgpflobhpnpaaGreat
namespace Go.Proofs.YtckgpflobhpnpaaGreat
open Go.RowKit
set_option linter.unusedVariables false
set_option linter.unusedSimpArgs false
def Fd:List Oper→Nat→Nat→Option Nat
 | _, 0, _=>none
 | ops, i+1, t=>match (ops[i]?).bind (·.dst)with
  | some s=>if Nat.beq s t then some i else Fd ops i t
  | none=>Fd ops i t
def Fe (op:Op):List Tmp:=op.operands.toList.filterMap fun | .tmp t=>some t | _=>none
def rU (P:Program) (H:List aq) (ov:Ov) (t:TypeId) (len:Nat) (parts:List (Nat×D)):R1 :=
 match P.underlying t with
 | some (.slice E)=>match iB P E with
  | some z=>if ct P E&&Nat.beq z.length (aD P E)&&Nat.ble 1 (aD P E)&&Nat.ble (len*aD P E) 4096 then
    match gz H (fun i=>some (i*aD P E, aD P E)) (List.replicate len z).flatten parts with
    | some cells=>match ov with
     | .box E' sz' enc' d' l'=>if Nat.beq E E'&&Nat.beq (aD P E) sz' then (.v (.sl (aD P E) enc' d' l'), an (pb (aD P E) len cells) (l'.map enc'))else aN
     | _=>aN
    | none=>aN
   else aN
  | none=>aN
 | _=>aN
def Ji (P:Program) (H:List aq) (ov:Ov) (f:D) (ds:List D):R1 :=
 match f, ov with
 | .fn (.func g) first cap, .callr id as r=>if hC P g&&er r then (r, kA P g H (first++ds++cap) id as r)else aN
 | .fn (.func g) first cap, .call as al r=>if hC P g&&er r&&(!al||fl (first++ds++cap))then (r, pI P g H (first++ds++cap) as al r)else aN
 | _, _=>aN
def LL (P:Program) (T:TypeId):Option (Array Value):=((P.info? T).bind (·.zero)).map (·.cells)
def JS (o:Oper):Option TypeId:=match o.op with | .alloc T=>some T | _=>none
def M1 (P:Program) (H:List aq) (ρ:Operand→D) (ov:Ov) (op:Op):R1 :=
 match op with
 | .alloc T=>match LL P T with | some _=>(.junk, True) | none=>aN
 | .buildSlice t len parts=>rU P H ov t len (parts.toList.map fun p=>(p.1, ρ p.2))
 | .call ⟨.value f, args, _⟩=>Ji P H ov (ρ f) (args.toList.map ρ)
 | op=>match ov with
  | .val d'=>(d', (fX P H ρ op).2∧ql (fX P H ρ op).1 d')
  | .lift d'=>(d', (fX P H ρ op).2∧vY (fX P H ρ op).1 d')
  | _=>fX P H ρ op
def Ot (ops:List Oper) (i:Nat) (o:Oper):List (Tmp×Option Nat) :=
 (Fe o.op).map fun t=>(t, Fd ops i t)
section
variable {P:Program} {S:Nat→Prop} {μ:Nat→Value} {w:World}
theorem zb {ops:Array Oper} {sp sp':sG} {base base':Act} (h:Jc ops sp base=true) (hs:base'.tmps.size=base.tmps.size) (hk:sp'.K=sp.K) (hi:sp'.ins=sp.ins):Jc ops sp' base'=true:=by
 have e1:Lv ops sp'=Lv ops sp:=by
  funext i p
  unfold Lv
  rw[hk]
 have:∀i, ES ops sp' base' i=ES ops sp base i:=by
  intro i
  unfold ES
  rw[hs, hk, hi, e1]
 unfold Jc at h ⊢
 rw[show ES ops sp' base'=ES ops sp base from funext this]
 exact h
end
end Go.Proofs.YtckgpflobhpnpaaGreat
namespace Go.Proofs.YtckgpflobhpnpaaGreat
open Go.RowKit
set_option linter.unusedVariables false
set_option linter.unusedSimpArgs false
section
variable {P:Program} {S:Nat→Prop} {μ:Nat→Value} {w:World}
theorem a9.mono {S':Nat→Prop} {w':World} {H:List aq} (h:a9 S μ w H) (hS:∀b, S b→b<w.heap.size→S' b) (hb:Below w.heap.size w w') (hn:∀b, b<w.heap.size→S' b→S b):a9 S' μ w' H:=by
 refine⟨fun i A hA=>?_, h.apart, fun i A b hA hl hb' hs=>?_⟩
 ·rcases A.three with rfl | hl | hl
  ·trivial
  ·exact(h.box i A hA).stable hS (fun b _ hl=>hb.block b hl) hb.size (fun _ _=>rfl) (fun b hb'=>hb.block b ((h.box i A hA).lt hl b hb'))
  ·exact(h.box i A hA).stable hS (fun b _ hl=>hb.block b hl) hb.size (fun _ _=>rfl) (fun b hb'=>hb.block b ((h.box i A hA).ltR hl b hb'))
 ·have hlt:=(h.box i A hA).lt hl b hb'
  exact h.notS i A b hA hl hb' (hn b hlt hs)
theorem xF {H:List aq} (hH:a9 S μ w H) (hS:∀b, S b→b<w.heap.size) {ov:Ov} {t:TypeId} {len:Nat} {parts:List (Nat×D)} {uparts:List (Nat×Value)} (h1:parts.map (·.1)=uparts.map (·.1))
  (h2:∀(j:Nat) (x:Nat×D) (u:Nat×Value), parts[j]?=some x→uparts[j]?=some u→ak S μ w x.2 u.2) {d:D} {p:Prop} (hp:rU P H ov t len parts=(d, p)) (hob:p) :
  ∃u vs E, (Instr.buildSlice t len uparts.toArray).run P w=.ok u (w.alloc (.cells vs E))∧ak (fun b=>S b∨b=w.heap.size) μ (w.alloc (.cells vs E)) d u:=by
 unfold rU at hp
 split at hp
 ·rename_i E hu
  split at hp
  ·rename_i z hz
   split at hp
   ·rename_i hc
    simp only[Bool.and_eq_true, Nat.beq_eq, Nat.ble_eq]at hc
    obtain⟨⟨⟨hk, hzl⟩, hs1⟩, hcap⟩:=hc
    obtain⟨i, v, hi, hv, hzz, hsz, hby⟩:=jk hz
    split at hp
    ·rename_i cells hf
     have hzr:aM S μ w z v.cells:=by
      rw[hzz]
      refine⟨by simp, fun j y u hy hu=>?_⟩
      simp only[List.getElem?_map, Array.getElem?_toList, hu, Option.map_some, Option.some.injEq]at hy
      subst hy
      exact ak.ofVal1 S μ w u
     have hflat:=rS (P:=P) hzr hzl (by omega) len
     obtain⟨vs, hfill, hvs⟩:=eW hH parts uparts _ cells _ h1 h2 hflat hf
     rw[← hsz]at hfill
     have hrun:=iG (P:=P) (w:=w) hu hi hv (by rw[hsz];exact hcap) hfill
     have hcl:cells.length=len*aD P E:=by
      have:∀(parts:List (Nat×D)) (c0 out:List D), gz H (fun i=>some (i*aD P E, aD P E)) c0 parts=some out→out.length=c0.length:=by
       intro parts
       induction parts with
       | nil=>intro c0 out h;simp only[gz, Option.some.injEq]at h;rw[h]
       | cons q r ih =>
        intro c0 out h
        obtain⟨k, x⟩:=q
        unfold gz at h
        split at h
        ·split at h
         ·rename_i hcond
          simp only[Bool.and_eq_true, Nat.ble_eq]at hcond
          rw[ih _ _ h]
          simp[fk]
          omega
         ·cases h
        ·cases h
      rw[this _ _ _ hf]
      simp[hzl]
     have hlen:len≤maxLen:=by
      have:len*1≤len*aD P E:=Nat.mul_le_mul_left _ hs1
      simp only[maxLen]
      omega
     split at hp
     ·rename_i E' sz' α enc' d' l'
      split at hp
      ·rename_i hc
       simp only[Bool.and_eq_true, Nat.beq_eq]at hc
       obtain⟨rfl, rfl⟩:=hc
       simp only[Prod.mk.injEq]at hp
       obtain⟨rfl, rfl⟩:=hp
       refine⟨_, vs, E, hrun, .v _ _ ?_⟩
       obtain⟨q1, q2⟩:=kB hob
       have hA:eM S (w.alloc (.cells vs E)) E (aD P E) (l'.map enc') (.slice (some ⟨w.heap.size, 0, none⟩) len len):=by
        refine tB hvs hcl hlen (by rw[← q1];simp[pb]) (fun i x hx=>?_) hS
        obtain⟨r, hr, hrow⟩:=q2 i x hx
        obtain⟨r1, r2⟩:=eZ hrow
        obtain⟨hin, rfl⟩:=jR _ _ _ hr
        refine⟨?_, fun j y hy=>?_⟩
        ·rw[← r1, List.length_take, List.length_drop, hcl]
         have:(i+1)*aD P E≤len*aD P E:=Nat.mul_le_mul_right _ hin
         rw[Nat.succ_mul]at this
         omega
        ·obtain⟨d, hd, hdy⟩:=r2 j y hy
         exact⟨d, kC hr hd, fun u hu=>l9 hdy hu⟩
       have hB:aJ S μ (w.alloc (.cells vs E)) (.slice (some ⟨w.heap.size, 0, none⟩) len len) (.arr E (aD P E) enc' d' l'):=hA.box rfl
       exact eI hB (fun b hb=>.inl hb) (fun b hb=>.inr (by simp[bE, aG]at hb;omega)) (fun b hb=>by have:=hS b hb;simp;omega)
      ·cases hp;exact hob.elim
     ·cases hp;exact hob.elim
    ·cases hp;exact hob.elim
   ·cases hp;exact hob.elim
  ·cases hp;exact hob.elim
 ·cases hp;exact hob.elim
theorem Ff {H:List aq} (hH:a9 S μ w H) (hS:∀b, S b→b<w.heap.size) {f:FuncId} {ds:List D} {as:Option (List D)} {al:Bool} {r:D} {us:Array Value} (hc:pI P f H ds as al r) (hus:aM S μ w ds us)
  (hal:al=false∨fl ds=true) (hr:er r=true) :
  Calls P f us w (fun e w'=>∃u, e=.returned u∧Below w.heap.size w w'∧ak (fun b=>S b∨w.heap.size≤b) μ w' r u):=by
 have core:∀(as':List D) (S1:Nat→Prop), ai P f as' [] al r []→(∀b, S1 b→b<w.heap.size)→(al=true→∀b, S1 b→S b)→aM S1 μ w as' us →
   Calls P f us w (fun e w'=>∃u, e=.returned u∧Below w.heap.size w w'∧ak (fun b=>S b∨w.heap.size≤b) μ w' r u):=by
  intro as' S1 hc h2 h3 hus
  refine(hc S1 μ w us h2 ⟨fun id B hB=>by simp at hB, fun i j A B b hA=>by simp at hA, fun i A b hA=>by simp at hA⟩ hus).mono ?_
  rintro e w' ⟨u, μ', S', rfl, q1, q2, q3, q4, q5, q6, q7, q8, q9, _⟩
  refine⟨u, rfl, ⟨q1, q2, q3, q4, fun k hk=>q5 k hk (fun i A hA=>by simp at hA)⟩, q9.stable ?_ (fun _ _ _=>rfl) (Nat.le_refl _) (fun id hid=>by rw[f6 id r hr]at hid;cases hid)⟩
  rintro b ⟨hb, hb2⟩ _
  rcases q7 b hb with hb3 | hb3
  ·rcases hb2 with hb2 | hb2
   ·exact .inl (h3 hb2 b hb3)
   ·exact .inr hb2
  ·exact .inr hb3
 cases as with
 | none=>exact core ds S hc hS (fun _ _ h=>h) hus
 | some as =>
  obtain⟨hco, hc⟩:=hc
  refine core as (fun b=>S b∨(al=false∧∃(i:Nat) (A:aq), H[i]?=some A∧A.mem=true∧bE (μ i) b)) hc ?_ ?_ ?_
  ·rintro b (hb | ⟨_, i, A, hA, hl, hb⟩)
   ·exact hS b hb
   ·exact(hH.box i A hA).lt (aq.mem_live hl) b hb
  ·rintro h b (hb | ⟨h0, _⟩)
   ·exact hb
   ·rw[h]at h0;cases h0
  ·refine np hH (fun b hb=>.inl hb) hS ?_ hco hus
   rcases hal with hal | hal
   ·exact .inl (fun i A b hA hl hb=>.inr ⟨hal, i, A, hA, hl, hb⟩)
   ·exact .inr hal
theorem DV {H:List aq} (hH:a9 S μ w H) (hS:∀b, S b→b<w.heap.size) {f:FuncId} {ds:List D} {id:Nat} {as:List D} {r:D} {us:Array Value} (hc:kA P f H ds id as r) (hus:aM S μ w ds us) (hr:er r=true) :
  Calls P f us w (fun e w'=>∃u, e=.returned u∧Below w.heap.size w w'∧ak (fun b=>S b∨w.heap.size≤b) μ w' r u):=by
 unfold kA at hc
 split at hc
 ·rename_i B hB
  obtain⟨hra, hc⟩:=hc
  cases hbx:H[id]? with
  | none=>rw[hbx]at hB;cases hB
  | some A =>
   rw[hbx]at hB
   obtain⟨hro, hbox⟩:=v5 (μ':=fun _=>μ id) hB (hH.box id A hbx)
   have hl:B.live=false:=by cases B<;>first | rfl | cases hro
   refine(hc S (fun _=>μ id) w us hS (Cd hro hbox) (Cc hra hus)).mono ?_
   rintro e w' ⟨u, μ', S', rfl, q1, q2, q3, q4, q5, q6, q7, q8, q9, _⟩
   refine⟨u, rfl, ⟨q1, q2, q3, q4, fun k hk=>q5 k hk (fun i A hA la=>?_)⟩, q9.stable (fun b hb _=>q7 b hb.1) (fun _ _ _=>rfl) (Nat.le_refl _) (fun id hid=>by rw[f6 id r hr]at hid;cases hid)⟩
   match i with
   | 0=>simp at hA;rw[← hA, hl]at la;cases la
   | i+1=>simp at hA
 ·exact hc.elim
theorem DW {H:List aq} (hH:a9 S μ w H) (hS:∀b, S b→b<w.heap.size) {ρ:Operand→D} {ρ':Operand→Value} (hρ:∀x, ak S μ w (ρ x) (ρ' x)) {ov:Ov} {o:Oper} {d:D} {p:Prop} (hp:M1 P H ρ ov o.op=(d, p)) (hob:p) (hna:JS o=none)
  {R:Value→World→Prop} (hR:∀u w', Below w.heap.size w w'→ak (fun b=>S b∨w.heap.size≤b) μ w' d u→R u w'):oY P R ((execOp ρ' o).run P w):=by
 unfold M1 at hp
 split at hp
 ·rename_i ho
  unfold JS at hna
  rw[ho]at hna
  cases hna
 ·rename_i t len parts ho
  obtain⟨u, vs, E, h1, h2⟩:=xF hH hS (uparts:=parts.toList.map fun p=>(p.1, ρ' p.2)) (by simp) (fun j x u hx hu=>by
   simp only[List.getElem?_map, Array.getElem?_toList]at hx hu
   cases hj:parts[j]? with
   | none=>rw[hj]at hx;cases hx
   | some q=>rw[hj]at hx hu;simp at hx hu;subst hx hu;exact hρ q.2) hp hob
  have he:parts.map (fun (i, x)=>(i, ρ' x))=(parts.toList.map fun p=>(p.1, ρ' p.2)).toArray:=Array.ext' (by simp)
  rw[← he]at h1
  refine oY.of (v:=u) (w':=w.alloc (.cells vs E)) ?_ (hR _ _ ((Below.refl _ _).alloc (Nat.le_refl _) _) (h2.stable ?_ (fun _ _ _=>rfl) (Nat.le_refl _) (fun _ _=>rfl)))
  ·simp only[execOp, ho, Sem.run_bind, h1, Result.andThen_ok, Sem.run_pure]
  ·rintro b (hb | rfl) _
   ·exact .inl hb
   ·exact .inr (Nat.le_refl _)
 ·rename_i f args ats ho
  unfold Ji at hp
  split at hp
  ·rename_i g first cap id as r hf
   split at hp
   ·rename_i hc
    simp only[Bool.and_eq_true]at hc
    obtain⟨hgo, hr⟩:=hc
    simp only[Prod.mk.injEq]at hp
    obtain⟨rfl, rfl⟩:=hp
    have hfv:=hf ▸ hρ f
    generalize hfe:ρ' f=uf at hfv
    cases hfv with
    | fn _ _ _ us vs h1 h2 h3 h4 =>
     have hrun:(execOp ρ' o).run P w=.ok (.enter g (us++args.map ρ'++vs)) w:=by
      simp[execOp, ho, resolve, hfe, Deferred.ofValue, invoke, bI hgo]
     rw[hrun]
     have harg:aM S μ w (args.toList.map ρ) (args.map ρ'):=by
      refine⟨by simp, fun j y z hy hz=>?_⟩
      simp only[List.getElem?_map, Array.getElem?_toList, Array.getElem?_map]at hy hz
      cases hj:args[j]? with
      | none=>rw[hj]at hy;cases hy
      | some x=>rw[hj]at hy hz;simp at hy hz;subst hy hz;exact hρ x
     refine oY.enter ((DV hH hS hob (aM.app (aM.app ⟨h1, h2⟩ harg) ⟨h3, h4⟩) hr).mono ?_)
     rintro e w' ⟨u, rfl, hb, hd⟩
     exact⟨u, rfl, hR u w' hb hd⟩
   ·cases hp;exact hob.elim
  ·rename_i g first cap as al r hf
   split at hp
   ·rename_i hc
    simp only[Bool.and_eq_true, Bool.or_eq_true, Bool.not_eq_true']at hc
    obtain⟨⟨hgo, hr⟩, hal⟩:=hc
    simp only[Prod.mk.injEq]at hp
    obtain⟨rfl, rfl⟩:=hp
    have hfv:=hf ▸ hρ f
    generalize hfe:ρ' f=uf at hfv
    cases hfv with
    | fn _ _ _ us vs h1 h2 h3 h4 =>
     have hrun:(execOp ρ' o).run P w=.ok (.enter g (us++args.map ρ'++vs)) w:=by
      simp[execOp, ho, resolve, hfe, Deferred.ofValue, invoke, bI hgo]
     rw[hrun]
     have harg:aM S μ w (args.toList.map ρ) (args.map ρ'):=by
      refine⟨by simp, fun j y z hy hz=>?_⟩
      simp only[List.getElem?_map, Array.getElem?_toList, Array.getElem?_map]at hy hz
      cases hj:args[j]? with
      | none=>rw[hj]at hy;cases hy
      | some x=>rw[hj]at hy hz;simp at hy hz;subst hy hz;exact hρ x
     refine oY.enter ((Ff hH hS hob (aM.app (aM.app ⟨h1, h2⟩ harg) ⟨h3, h4⟩) hal hr).mono ?_)
     rintro e w' ⟨u, rfl, hb, hd⟩
     exact⟨u, rfl, hR u w' hb hd⟩
   ·cases hp;exact hob.elim
  ·cases hp;exact hob.elim
 ·have key:∀d0, (∃q, fX P H ρ o.op=(d0, q)∧q)→(∀u, ak S μ w d0 u→ak S μ w d u)→oY P R ((execOp ρ' o).run P w):=by
   rintro d0 ⟨q, hq, hq2⟩ hd
   obtain⟨u, h1, h2⟩:=hE hH hρ hq hq2
   exact oY.of h1 (hR u w (Below.refl _ _) ((hd u h2).stable (fun b hb _=>.inl hb) (fun _ _ _=>rfl) (Nat.le_refl _) (fun _ _=>rfl)))
  split at hp
  ·simp only[Prod.mk.injEq]at hp
   obtain⟨rfl, rfl⟩:=hp
   exact key _ ⟨_, rfl, hob.1⟩ (fun u hu=>qn hob.2 hu)
  ·simp only[Prod.mk.injEq]at hp
   obtain⟨rfl, rfl⟩:=hp
   exact key _ ⟨_, rfl, hob.1⟩ (fun u hu=>hob.2 _ _ _ _ hu)
  ·exact key d ⟨p, hp, hob⟩ (fun _ h=>h)
end
end Go.Proofs.YtckgpflobhpnpaaGreat
namespace Go.Proofs.YtckgpflobhpnpaaGreat
open Go.RowKit
set_option linter.unusedVariables false
set_option linter.unusedSimpArgs false
theorem Ev.freeze {C:lC} {st:St} {Q:Exit→St→Prop} {c:Code} (id:Nat) {st':St} (h:nq id st=some st') (he:Ev C c Q st'):Ev C c Q st:=fun a w S μ hR=>by
 obtain⟨S', hR'⟩:=hR.freeze h
 exact he a w S' μ hR'
end Go.Proofs.YtckgpflobhpnpaaGreat
namespace Go.Proofs.YtckgpflobhpnpaaGreat
open Go.RowKit
set_option linter.unusedVariables false
set_option linter.unusedSimpArgs false
def AP (id j E sz:Nat) {α:Type} (enc:α→List V) (d:α) (st:St):Option St :=
 if bN st.heap.length st.env&&bx st.heap.length st.heap then
  match st.heap[id]? with
  | some (.var T cs)=>match cs[j]? with
   | some .nils=>some ⟨st.env, st.heap.set id (.var T (cs.set j (.own st.heap.length)))++[.arr E sz enc d []]⟩
   | _=>none
  | _=>none
 else none
def adoptE (t E sz:Nat) {α:Type} (enc:α→List V) (d:α) (st:St):Option St :=
 if bN st.heap.length st.env&&bx st.heap.length st.heap&&Fa st.env t then
  match o7 st.env t with
  | .nils=>some ⟨xt st.env t (.own st.heap.length), st.heap++[.arr E sz enc d []]⟩
  | _=>none
 else none
section
variable {C:lC} {S:Nat→Prop} {μ:Nat→Value} {st:St} {a:Act} {w:World} {Q:Exit→St→Prop}
theorem aX.addNil (h:aX C S μ st a w) (hf:bN st.heap.length st.env=true) (hh:bx st.heap.length st.heap=true) (E sz:Nat) {α:Type} (enc:α→List V) (d:α) :
  aX C S (aV μ st.heap.length (.slice none 0 0)) ⟨st.env, st.heap++[.arr E sz enc d []]⟩ a w:=by
 have:=h.upd (id:=st.heap.length) (B:=.arr E sz enc d []) (row:=none) (u:=.slice none 0 0) (kD w) (fun k hk=>by cases hk) (Nat.le_refl _)
  ⟨fun i x hx=>by simp at hx, [], World.ownsRow_nil w 0 E sz, fun i x j y hx=>by simp at hx⟩ (fun b hb=>by simp[bE, aG]at hb) (.inr ⟨fun A hA=>by simp at hA, hf, hh⟩)
 rw[show bG st.heap st.heap.length (.arr E sz enc d [])=st.heap++[.arr E sz enc d []]from by simp[bG]]at this
 exact this
theorem aX.boxTo (h:aX C S μ st a w) {id:Nat} {A B:aq} (hA:st.heap[id]?=some A) (hAl:A.live=true) (hk:B.isArr=false∨A.isArr=true) (hB:aJ S μ w (μ id) B) (hro:B.isRo=false:=by rfl):aX C S μ ⟨st.env, st.heap.set id B⟩ a w:=by
 have hid:id<st.heap.length:=(List.getElem?_eq_some_iff.1 hA).1
 have hg:∀(i:Nat) (X:aq), (st.heap.set id B)[i]?=some X→(i=id∧X=B)∨st.heap[i]?=some X:=by
  intro i X hX
  by_cases hi:i=id
  ·subst hi
   rw[List.getElem?_set_self hid]at hX
   cases hX
   exact .inl ⟨rfl, rfl⟩
  ·rw[List.getElem?_set_ne (fun e=>hi e.symm)]at hX
   exact .inr hX
 have hl:∀(i:Nat) (X:aq), (st.heap.set id B)[i]?=some X→X.live=true→∃Y, st.heap[i]?=some Y∧Y.live=true:=by
  intro i X hX hXl
  rcases hg i X hX with ⟨rfl, rfl⟩ | hX'
  ·exact⟨A, hA, hAl⟩
  ·exact⟨X, hX', hXl⟩
 refine⟨h.os, h.tape, h.output, h.size, h.old, h.mono, h.new, h.slt, h.env, ⟨fun i X hX=>?_, fun i k X Y b hX hY lX lY=>?_, fun i X b hX lX=>?_⟩, fun i X b hX lX=>?_, ?_, h.tsize, fun i X b hX lX=>?_⟩
 ·rcases hg i X hX with ⟨rfl, rfl⟩ | hX'
  ·exact hB
  ·exact h.heap.box i X hX'
 ·obtain⟨X', q1, q2⟩:=hl i X hX lX
  obtain⟨Y', q3, q4⟩:=hl k Y hY lY
  exact h.heap.apart i k X' Y' b q1 q3 q2 q4
 ·obtain⟨X', q1, q2⟩:=hl i X hX lX
  exact h.heap.notS i X' b q1 q2
 ·obtain⟨X', q1, q2⟩:=hl i X hX lX
  exact h.may i X' b q1 q2
 ·obtain⟨mk, d1, d2, d3⟩:=h.defers
  refine⟨mk, d1, d2, fun b hb=>?_⟩
  obtain⟨q1, q2, q3, q4⟩:=d3 b hb
  refine⟨q1, q2, q3, fun i X hX lX=>?_⟩
  obtain⟨X', q5, q6⟩:=hl i X hX lX
  exact q4 i X' q5 q6
 ·rcases hg i X hX with ⟨rfl, rfl⟩ | hX'
  ·rw[hro]at lX;cases lX
  ·exact h.ro i X b hX' lX
theorem Ev.adopt {c:Code} (id j E sz:Nat) {α:Type} (enc:α→List V) (d:α) {st':St} (h:AP id j E sz enc d st=some st') (he:Ev C c Q st'):Ev C c Q st:=fun a w S μ hR=>by
 unfold AP at h
 split at h
 ·rename_i hc
  simp only[Bool.and_eq_true]at hc
  split at h
  ·rename_i T cs hbox
   split at h
   ·rename_i hj
    simp only[Option.some.injEq]at h
    subst h
    have hid:id<st.heap.length:=(List.getElem?_eq_some_iff.1 hbox).1
    have h1:=hR.addNil hc.1 hc.2 E sz enc d
    have hbox1:(st.heap++[aq.arr E sz enc d []])[id]?=some (.var T cs):=by rw[List.getElem?_append_left hid];exact hbox
    have hB:=h1.heap.box id _ hbox1
    have h2:=h1.boxTo hbox1 rfl (B:=.var T (cs.set j (.own st.heap.length))) (.inl rfl) (by
     obtain⟨b, vs, e1, e2, e3, e4⟩:=hB
     refine⟨b, vs, e1, e2, by rw[List.length_set];exact e3, fun k y x hy hx=>?_⟩
     by_cases hk:k=j
     ·subst hk
      have hlt:k<cs.length:=(List.getElem?_eq_some_iff.1 hj).1
      rw[List.getElem?_set_self hlt]at hy
      cases hy
      have:=e4 k _ x hj hx
      cases this
      have ho:=ak.own (S:=S) (μ:=aV μ st.heap.length (.slice none 0 0)) (w:=w) st.heap.length
      rwa [av]at ho
     ·rw[List.getElem?_set_ne (fun e=>hk e.symm)]at hy
      exact e4 k y x hy hx)
    have e3:(st.heap++[aq.arr E sz enc d []]).set id (.var T (cs.set j (.own st.heap.length)))=st.heap.set id (.var T (cs.set j (.own st.heap.length)))++[aq.arr E sz enc d []]:=by
     rw[List.set_append, if_pos hid]
    simp only at h2
    rw[e3]at h2
    exact he a w S _ h2
   ·cases h
  ·cases h
 ·cases h
theorem Ev.adoptE {c:Code} (t E sz:Nat) {α:Type} (enc:α→List V) (d:α) {st':St} (h:Proofs.YtckgpflobhpnpaaGreat.adoptE t E sz enc d st=some st') (he:Ev C c Q st'):Ev C c Q st:=fun a w S μ hR=>by
 unfold Proofs.YtckgpflobhpnpaaGreat.adoptE at h
 split at h
 ·rename_i hc
  simp only[Bool.and_eq_true]at hc
  split at h
  ·rename_i hj
   simp only[Option.some.injEq]at h
   subst h
   have h1:=hR.addNil hc.1.1 hc.1.2 E sz enc d
   have hv:=h1.eval (.tmp t)
   simp only[eB]at hv
   rw[hj]at hv
   obtain⟨e0, hm⟩:=uB hc.2
   refine he a w S _ ⟨h1.os, h1.tape, h1.output, h1.size, h1.old, h1.mono, h1.new, h1.slt, fun s e hs=>?_, h1.heap, h1.may, h1.defers, h1.tsize, h1.ro⟩
   rcases List.mem_cons.1 hs with hs | hs
   ·cases hs
    refine⟨(h1.env t e0 hm).1, ?_⟩
    have ho:=ak.own (S:=S) (μ:=aV μ st.heap.length (.slice none 0 0)) (w:=w) st.heap.length
    rw[av]at ho
    generalize hu:a.eval (.tmp t)=u at hv
    cases hv
    have:a.tmps.getD t undef=.slice none 0 0:=hu
    rw[this]
    exact ho
   ·exact h1.env s e (fY hs).1
  ·cases h
 ·cases h
end
end Go.Proofs.YtckgpflobhpnpaaGreat
namespace Go.Proofs.YtckgpflobhpnpaaGreat
open Go.RowKit
set_option linter.unusedVariables false
set_option linter.unusedSimpArgs false
abbrev vB:=List (List Bool×St)
def e7:vB→List Bool→Option St
 | [], _=>none
 | (l, s)::r, k=>if decide (l=k)then some s else e7 r k
def JT (ops:List Oper) (ls:List Bool) (i:Nat):Bool:=!ls.getD i false&&(match ops[i]? with | some o=>o.after.toList.all (fun e=>!Region.binds .any e||ls.getD e.on false) | none=>false)
def iH (ops:List Oper) (ls:List Bool):List Nat:=(List.range ops.length).filter (JT ops ls)
def uC (s1 s2:St):St:=⟨mc (s2.env.map (·.1)) s1.env, s1.heap⟩
def wk (P:Program) (nt:Nat) (ops:List Oper) (ovs:List (Nat×Ov)) (tab:vB) (ls:List Bool) (st:St) (i:Nat):Prop :=
 match ops[i]? with
 | some o=>match c5 P nt ops ovs i [o] st with
  | (s1, p)=>match e7 tab (ls.set i true)with
   | some s2=>uC s1 s2=s2∧p
   | none=>False
 | none=>False
def AQ (P:Program) (nt:Nat) (ops:List Oper) (ovs:List (Nat×Ov)) (tab:vB) (ls:List Bool) (st:St):List Nat→Prop
 | []=>True
 | i::r=>wk P nt ops ovs tab ls st i∧AQ P nt ops ovs tab ls st r
def xG (P:Program) (nt:Nat) (ops:List Oper) (ovs:List (Nat×Ov)) (tab:vB) (ls:List Bool) (st:St):Prop :=
 if ls.all id then True else match iH ops ls with
  | []=>False
  | l=>AQ P nt ops ovs tab ls st l
def DX (P:Program) (nt:Nat) (ops:List Oper) (ovs:List (Nat×Ov)) (tab:vB):vB→Prop
 | []=>True
 | (ls, st)::r=>xG P nt ops ovs tab ls st∧DX P nt ops ovs tab r
theorem rV:∀{tab:vB} {k:List Bool} {s:St}, e7 tab k=some s→(k, s)∈tab
 | (l, t)::r, k, s, h=>by
  unfold e7 at h
  split at h
  ·rename_i hl
   cases h
   rw[of_decide_eq_true hl]
   exact List.mem_cons_self ..
  ·exact List.mem_cons_of_mem _ (rV h)
theorem uD {P:Program} {nt:Nat} {ops:List Oper} {ovs:List (Nat×Ov)} {tab:vB}:∀{l:vB} {k:List Bool} {s:St}, DX P nt ops ovs tab l→(k, s)∈l→xG P nt ops ovs tab k s
 | (a, t)::r, k, s, h, hm=>by
  rcases List.mem_cons.1 hm with hm | hm
  ·cases hm;exact h.1
  ·exact uD h.2 hm
theorem pN {P:Program} {nt:Nat} {ops:List Oper} {ovs:List (Nat×Ov)} {tab:vB} {ls:List Bool} {st:St}:∀{l:List Nat} {i:Nat}, AQ P nt ops ovs tab ls st l→i∈l→wk P nt ops ovs tab ls st i
 | a::r, i, h, hm=>by
  rcases List.mem_cons.1 hm with hm | hm
  ·cases hm;exact h.1
  ·exact pN h.2 hm
section
variable {C:lC} {st st':St} {Q:Exit→St→Prop}
def gE (ls:List Bool):Nat:=(ls.filter (!·)).length
theorem rX:∀{ls:List Bool} {i:Nat}, i<ls.length→ls.getD i false=false→gE (ls.set i true)+1=gE ls
 | b::ls, 0, _, h=>by
  simp at h
  subst h
  simp[gE]
 | b::ls, i+1, hi, h=>by
  have:=rX (ls:=ls) (i:=i) (by simpa using hi) (by simpa using h)
  cases b<;>simp[gE]at this ⊢<;>omega
theorem uE:∀{ls:List Bool}, gE ls=0→ls.all id=true
 | [], _=>rfl
 | true::ls, h=>by simp[gE]at h ⊢;simpa using h
 | false::ls, h=>by simp[gE]at h
theorem eC:∀{ls:List Bool}, ls.all id=true→ls=List.replicate ls.length true
 | [], _=>rfl
 | true::ls, h=>by
  have:=eC (ls:=ls) (by simpa using h)
  rw[List.length_cons, List.replicate_succ, ← this]
 | false::ls, h=>by simp at h
theorem Ev.any {rid:Nat} {ops:List Oper} (ovs:List (Nat×Ov)) (tab:vB) {st0:St} {p:Prop} (hm:C.P.follows .mixedOrders=true) (hnd:ops.all (fun o=>!cI o)=true) (h0:e7 tab (List.replicate ops.length false)=some st0) (hk:uC st st0=st0)
  (he:e7 tab (List.replicate ops.length true)=some st') (h:DX C.P C.nt ops ovs tab tab=p) (hp:p) (hq:Q .normal st'):Ev C (.region rid ops.toArray true) Q st:=fun a w S μ hR=>by
 subst h
 have hsz:ops.toArray.size=ops.length:=by simp
 have main:∀(fuel:Nat) (ls:List Bool) (listed:Array Bool) (s:St) (S:Nat→Prop) (μ:Nat→Value) (a:Act) (w:World), gE ls=fuel→ls.length=ops.length→listed.size=ops.length→(∀i, listed.getD i false=ls.getD i false) →
   e7 tab ls=some s→aX C S μ s a w→wpAnyIn (nh C.rd) 0 C.P .any ops.toArray (fun e a' w'=>∃st' S' μ', Q e st'∧aX C S' μ' st' a' w') fuel listed a w:=by
  intro fuel
  induction fuel with
  | zero =>
   intro ls listed s S μ a w hf hl hls hg hs hR
   have hall:=uE hf
   have hrep:=eC hall
   rw[hl]at hrep
   refine⟨List.eq_nil_iff_forall_not_mem.2 (fun i hi=>?_), ?_⟩
   ·obtain⟨h1, o, ho, _⟩:=(cY listed (by rw[hls, hsz]) i).1 hi
    have hi':i<ops.length:=by simpa using(Array.getElem?_eq_some_iff.1 ho).1
    have hb:(List.replicate ops.length true).getD i false=true:=by simp[List.getD, List.getElem?_replicate, hi']
    rw[hg, hrep, hb]at h1
    cases h1
   ·rw[hrep, he]at hs
    cases hs
    exact⟨_, S, μ, hq, hR⟩
  | succ fuel ih =>
   intro ls listed s S μ a w hf hl hls hg hs hR
   have hent:=uD hp (rV hs)
   have hna:ls.all id=false:=by
    cases hb:ls.all id
    ·rfl
    ·rw[eC hb]at hf
     simp[gE]at hf
   unfold xG at hent
   rw[if_neg (by rw[hna];simp)]at hent
   have hmem:∀i, i∈Region.ready .any ops.toArray listed↔i∈iH ops ls:=by
    intro i
    rw[cY listed (by rw[hls, hsz]) i]
    unfold iH
    rw[List.mem_filter, List.mem_range]
    unfold JT
    constructor
    ·rintro⟨h1, o, ho, h2⟩
     have ho':ops[i]?=some o:=by simpa using ho
     refine⟨(List.getElem?_eq_some_iff.1 ho').1, ?_⟩
     rw[← hg, h1, ho']
     simp only[Bool.not_false, Bool.true_and, List.all_eq_true, Array.mem_toList_iff, Bool.or_eq_true, Bool.not_eq_true']
     intro e he
     cases hb:Region.binds .any e
     ·exact .inl rfl
     ·exact .inr (by rw[← hg];exact h2 e he hb)
    ·rintro⟨h1, h2⟩
     rw[Bool.and_eq_true]at h2
     obtain⟨h2, h3⟩:=h2
     rw[List.getElem?_eq_getElem h1]at h3
     refine⟨by rw[hg];simpa using h2, ops[i], by simp[List.getElem?_eq_getElem h1], fun e he hb=>?_⟩
     simp only[List.all_eq_true, Array.mem_toList_iff, Bool.or_eq_true, Bool.not_eq_true']at h3
     rcases h3 e he with h4 | h4
     ·rw[hb]at h4;cases h4
     ·rw[hg];exact h4
   have hent2:∀i, i∈iH ops ls→wk C.P C.nt ops ovs tab ls s i:=by
    intro i hi
    cases hr:iH ops ls with
    | nil=>rw[hr]at hi;cases hi
    | cons j r =>
     rw[hr]at hent hi
     exact pN hent hi
   refine⟨fun hnil=>?_, fun i hi=>?_⟩
   ·exfalso
    cases hr:iH ops ls with
    | nil=>rw[hr]at hent;exact hent
    | cons j r =>
     have:j∈Region.ready .any ops.toArray listed:=(hmem j).2 (by rw[hr];exact List.mem_cons_self ..)
     rw[hnil]at this
     cases this
   ·have hi2:=(hmem i).1 hi
    have hst:=hent2 i hi2
    obtain⟨hnl, o, ho, _⟩:=(cY listed (by rw[hls, hsz]) i).1 hi
    have ho':ops[i]?=some o:=by simpa using ho
    have hlt:i<ops.length:=(List.getElem?_eq_some_iff.1 ho').1
    unfold wk at hst
    rw[ho']at hst
    simp only at hst
    generalize hsq:c5 C.P C.nt ops ovs i [o] s=q at hst
    obtain⟨s1, p1⟩:=q
    simp only at hst
    split at hst
    ·rename_i s2 hs2
     obtain⟨hk2, hp1⟩:=hst
     have next:∀S' μ' a' w', aX C S' μ' s1 a' w'→wpAnyIn (nh C.rd) 0 C.P .any ops.toArray (fun e a' w'=>∃st' S' μ', Q e st'∧aX C S' μ' st' a' w') fuel (listed.setIfInBounds i true) a' w':=by
      intro S' μ' a' w' hR'
      have hR2:=hR'.keep (s2.env.map (·.1))
      have e2:(⟨mc (s2.env.map (·.1)) s1.env, s1.heap⟩:St)=s2:=hk2
      rw[e2]at hR2
      refine ih (ls.set i true) (listed.setIfInBounds i true) s2 S' μ' a' w' ?_ (by simpa using hl) (by simpa using hls) ?_ hs2 hR2
      ·have:=rX (ls:=ls) (i:=i) (by omega) (by rw[← hg];exact hnl)
       omega
      ·intro j
       rw[aW _ _ _ (by omega)]
       split
       ·rename_i hj
        rw[hj]
        unfold List.getD
        rw[List.getElem?_set_self (show i<ls.length by omega)]
        rfl
       ·rename_i hj
        rw[hg]
        unfold List.getD
        rw[List.getElem?_set_ne (by omega)]
     have hdef:cI o=false:=by
      rw[List.all_eq_true]at hnd
      have:=hnd o (List.mem_of_getElem? ho')
      simpa using this
     unfold c5 at hsq
     unfold wpOpIn
     rw[ho]
     simp only
     split at hsq
     ·rename_i hgd
      rw[if_pos (b8 hR hgd)]
      generalize hq1:pc C.P C.nt (oL ovs i) o s=q1 at hsq
      obtain⟨s1', p1'⟩:=q1
      simp only[c5, Prod.mk.injEq]at hsq
      obtain⟨rfl, rfl⟩:=hsq
      exact tp hdef (mf hR hq1 hp1.1 next)
     ·rename_i hgd
      rw[if_neg (by rw[b8 hR hgd];simp)]
      generalize hq1:mb C.nt s o.dst=q1 at hsq
      obtain⟨s1', p1'⟩:=q1
      simp only[c5, Prod.mk.injEq]at hsq
      obtain⟨rfl, rfl⟩:=hsq
      refine⟨fun f _=>pB C.rd f, ?_⟩
      unfold mb at hq1
      refine next S μ _ _ (hR.ePut hq1 hp1.1 ?_).2
      exact .tup [] #[] rfl (fun j y u hy _=>by simp at hy)
     ·simp only[aQ, Prod.mk.injEq]at hsq
      rw[← hsq.2]at hp1
      exact hp1.elim
    ·exact hst.elim
 refine wpIn_region_any hm ?_
 have hR0:aX C S μ st a { w with drawn:=w.drawn+1 }:=hR.grow rfl rfl rfl (Nat.le_refl _) (fun _ _=>rfl) (fun b hb=>hb) (fun b hb=>.inl hb) (fun b hb=>hR.slt b hb)
 have hR1:=hR0.keep (st0.env.map (·.1))
 have e0:(⟨mc (st0.env.map (·.1)) st.env, st.heap⟩:St)=st0:=hk
 rw[e0]at hR1
 refine main ops.toArray.size (List.replicate ops.length false) (Array.replicate ops.toArray.size false) st0 S μ a _ (by rw[hsz];simp[gE]) (by simp) (by simp) (fun i=>by simp[Array.getD, List.getD, List.getElem?_replicate];split<;>rfl) h0 hR1
end
end Go.Proofs.YtckgpflobhpnpaaGreat
namespace Go.Proofs.YtckgpflobhpnpaaGreat
open Go.RowKit
set_option linter.unusedVariables false
set_option linter.unusedSimpArgs false
def uF (id:Nat):List D→List D→Prop
 | [], []=>True
 | .own i::cs, .own j::ds=>i=id∧j=0∧uF id cs ds
 | c::cs, d::ds=>(scal c&&scal d)=true∧ql c d∧uF id cs ds
 | _, _=>False
def AR (id:Nat):D→D→Prop
 | .own i, .own j=>i=id∧j=0
 | .gr i r, .gr j s=>i=id∧j=0∧r=s
 | .agg cs, .agg ds=>uF id cs ds
 | _, _=>False
section
variable {P:Program} {C:lC} {S:Nat→Prop} {μ:Nat→Value} {st:St} {a:Act} {w:World} {Q:Exit→St→Prop}
theorem DY {S S2:Nat→Prop} {μ μ2:Nat→Value} {w:World} {c d:D} {u:Value} (h:ak S μ w c u) (hs:(scal c&&scal d)=true) (he:ql c d):ak S2 μ2 w d u:=by
 simp only[Bool.and_eq_true]at hs
 have h2:ak S μ w d u:=qn he h
 cases d<;>first | (cases hs.2;done) | skip
 cases h2 with
 | v _ _ h=>exact .v _ _ (h.flat hs.2)
theorem wl {S S2:Nat→Prop} {μ:Nat→Value} {w:World} {id:Nat}:∀{cs ds:List D}, uF id cs ds→cs.length=ds.length∧∀(j:Nat) (c d:D) (u:Value), cs[j]?=some c→ds[j]?=some d→ak S μ w c u→ak S2 (fun _=>μ id) w d u
 | [], [], _=>⟨rfl, fun j c d u hc=>by simp at hc⟩
 | [], _::_, h=>by simp[uF]at h
 | c::cs, [], h=>by cases c<;>simp[uF]at h
 | c::cs, d::ds, h=>by
  have key:((c=.own id∧d=.own 0)∨((scal c&&scal d)=true∧ql c d))∧uF id cs ds:=by
   cases c<;>first | (obtain⟨h1, h2, h3⟩:=h;exact⟨.inr ⟨h1, h2⟩, h3⟩) | skip
   rename_i i
   cases d<;>first | (obtain⟨h1, h2, h3⟩:=h;cases h1;done) | skip
   obtain⟨rfl, rfl, h3⟩:=h
   exact⟨.inl ⟨rfl, rfl⟩, h3⟩
  obtain⟨q1, q2⟩:=wl (S:=S) (S2:=S2) (μ:=μ) (w:=w) key.2
  refine⟨by simp[q1], fun j x y u hx hy hu=>?_⟩
  match j with
  | 0 =>
   simp at hx hy
   subst hx hy
   rcases key.1 with ⟨rfl, rfl⟩ | ⟨k1, k2⟩
   ·cases hu
    exact ak.own (μ:=fun _=>μ id) 0
   ·exact DY hu k1 k2
  | j+1=>exact q2 j x y u (by simpa using hx) (by simpa using hy) hu
theorem Fg {S S2:Nat→Prop} {μ:Nat→Value} {w:World} {id:Nat} {d r:D} {u:Value} (h:ak S μ w d u) (hr:AR id d r):ak S2 (fun _=>μ id) w r u:=by
 cases d<;>cases r<;>first | (simp[AR]at hr;done) | skip
 ·obtain⟨rfl, rfl⟩:=hr
  cases h
  exact ak.own (μ:=fun _=>μ _) 0
 ·obtain⟨q1, q2⟩:=wl (S:=S) (S2:=S2) (μ:=μ) (w:=w) hr
  cases h with
  | agg _ us h1 h2 =>
   refine .agg _ us (by omega) (fun j y x hy hx=>?_)
   have hj:j<us.size:=(Array.getElem?_eq_some_iff.1 hx).1
   rename_i cs ds
   have hc:cs[j]?=some cs[j]:=List.getElem?_eq_getElem (by omega)
   exact q2 j _ y x hc hy (h2 j _ x hc hx)
 ·obtain⟨rfl, rfl, rfl⟩:=hr
  cases h with
  | gr _ _ us _ h1 h2 h3=>exact .gr 0 _ us u h1 h2 h3
theorem Ev.move {c:Code} (j i:Nat) {st':St} (h:Cj j i st=some st') (he:Ev C c Q st'):Ev C c Q st:=fun a w S μ hR=>he a w S _ (hR.move h)
end
end Go.Proofs.YtckgpflobhpnpaaGreat
namespace Go.Proofs.YtckgpflobhpnpaaGreat
open Go.RowKit
set_option linter.unusedVariables false
set_option linter.unusedSimpArgs false
abbrev dI (k:IntKind) (n:Int):D:=.v (.int k n)
abbrev dB (b:Bool):D:=.v (.bool b)
abbrev dS (s:ByteArray):D:=.v (.str s)
abbrev dL {α:Type} (sz:Nat) (enc:α→List V) (d:α) (l:List α):D:=.v (.sl sz enc d l)
abbrev i6 (n:Int):D:=.v (.int .i64 n)
def ab (k:IntKind) (n:Int):List V:=[.int k n]
def be (b:Bool):List V:=[.bool b]
def oM (s:ByteArray):List V:=[.str s]
abbrev LI (l:List Int):D:=.v (.sl 1 (ab .i64) 0 l)
abbrev LY (l:List Int):D:=.v (.sl 1 (ab .u8) 0 l)
abbrev LB (l:List Bool):D:=.v (.sl 1 be false l)
def bm:Nat→Nat→List Bool
 | 0, _=>[]
 | n+1, k=>(k%2==1)::bm n (k / 2)
theorem oK:True:=⟨⟩
abbrev sE (s:St) (p:Prop):Prop:=s=s∧p∧True
theorem Hw {x y:Int} (h:x=y) (h1:-9223372036854775808≤y) (h2:y≤9223372036854775807):IntKind.i64.wrap x=y:=by
 rw[h, IntKind.wrap_i64];omega
theorem JU {x y:Int} (h:x=y) (h1:0≤y) (h2:y≤18446744073709551615):IntKind.u64.wrap x=y:=by
 rw[h, IntKind.wrap_u64];omega
theorem Ou {x y:Int} (h:x=y) (h1:0≤y) (h2:y≤255):IntKind.u8.wrap x=y:=by
 rw[h, IntKind.wrap_u8'];omega
end Go.Proofs.YtckgpflobhpnpaaGreat
