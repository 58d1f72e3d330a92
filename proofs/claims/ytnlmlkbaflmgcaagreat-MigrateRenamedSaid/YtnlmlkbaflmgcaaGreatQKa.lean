/-
  Values,memory and effects on pure data. Generic: over any program.
-/
import Derived.Test.YtnlmlkbaflmgcaaGreatQGlb
namespace Go.Proofs.YtnlmlkbaflmgcaaGreat
open Go.RowKit
set_option linter.unusedVariables false
set_option linter.unusedSimpArgs false
def qE:Option Nat→Fence
 | none=>Fence.wide
 | some l=>Fence.wide.inRound l
theorem te (rd:Option Nat) (f:FuncId):(qE rd).fn f:=by cases rd<;>trivial
theorem xB (rd:Option Nat):(qE rd).depth=none:=by cases rd<;>rfl
theorem CW (P:Program) (rd:Option Nat):Machine.fenced P (qE rd)=Machine.fenced P Fence.wide:=by cases rd<;>rfl
theorem AY {rd:Option Nat} {n:Nat} {P:Program} {f:FuncId} {args:Array Value} {w:World} {R:Ending→World→Prop} (h:Calls P f args w R):CallsIn (qE rd) n P f args w R:=by
 have h':CallsIn Fence.wide n P f args w R:=callsIn_wide.2 h
 cases rd with
 | none=>exact h'
 | some l=>exact h'.inRound l
theorem CX {rd:Option Nat} {n:Nat} {P:Program} {row:String} {args:Array Value} {w:World} {R:Value→World→Prop} (h:Rows P row args w R):RowsIn (qE rd) n P row args w R :=
 fun c cs _=>let ⟨v,w',r,s⟩:=h c cs;⟨v,w',r,by rw[CW];exact stepsIn_wide.2 s⟩
theorem j4 {rd:Option Nat} {P:Program} {o:Oper} {a:Act} {K:Act→World→Prop} {Q:Exit→Act→World→Prop} {r:Result Next} (h:o.upon P a K Q r):o.uponIn (qE rd) 0 P a K Q r:=by
 have hd:(qE rd).depth.isSome=true→1≤0:=fun h=>by rw[xB]at h;cases h
 cases r with
 | ok x w' =>
  cases x<;>simp only[Oper.upon]at h<;>simp only[Oper.uponIn]<;>first
   | exact h
   | exact⟨hd,AY h⟩
   | exact⟨hd,CX h⟩
   | exact h.elim
 | halt x w'=>cases x<;>simp only[Oper.upon]at h<;>simp only[Oper.uponIn]<;>exact h
def eN (o:Oper):Bool :=
 match o.op with
 | .defer _=>true
 | _=>false
def EB (ops:Array Oper):Prop:=∀(i:Nat) (o:Oper),ops[i]?=some o→eN o=false
theorem GJ {o:Oper} (h:eN o=false) (rd:Option Nat) (ρ:Operand→Value):o.semAt rd ρ=execOp ρ o:=by
 cases rd with
 | none=>exact Oper.semAt_none ..
 | some l =>
  refine Oper.semAt_some l ρ o (fun c hc=>?_)
  unfold eN at h
  rw[hc]at h
  cases h
theorem y8 {rd:Option Nat} {P:Program} {o:Oper} {a:Act} {w:World} {K:Act→World→Prop} {Q:Exit→Act→World→Prop} (hd:eN o=false) (h:o.uponIn (qE rd) 0 P a K Q ((execOp a.eval o).run P w)):o.wpIn (qE rd) 0 P a w K Q :=
 ⟨fun f _=>te rd f,by rw[GJ hd];exact h⟩
theorem PJ {rd:Option Nat} {P:Program} {ops:Array Oper} {i:Nat} {o:Oper} {a:Act} {w:World} {K:Act→World→Prop} {Q:Exit→Act→World→Prop} (hnd:EB ops) (ho:ops[i]?=some o) (h:o.uponIn (qE rd) 0 P a K Q ((execOp a.eval o).run P w)):o.wpIn (qE rd) 0 P a w K Q :=
 y8 (hnd i o ho) h
theorem qa.uponIn {rd:Option Nat} {P:Program} {R:Value→World→Prop} {o:Oper} {a:Act} {next:Act→World→Prop} {Q:Exit→Act→World→Prop} {r:Result Next}
  (h:qa P R r) (hn:∀v w',R v w'→next (a.put o.dst v) w'):o.uponIn (qE rd) 0 P a next Q r:=j4 (h.upon hn)
section
variable {P:Program} {ops:Array Oper} {sp:uv} {base:Act} {w0:World} {rd:Option Nat}
theorem y9 {Q:Exit→Act→World→Prop} (XG:K6 ops sp base) {m0:Nat} (Zk:Ez ops m0=true):∀(fuel m:Nat) (C':Array Bool) (a:Act) (w:World),m0≤m→m+fuel=ops.size→C'.size=ops.size →
  (∀i,i<m→C'.getD i false=true)→(∀i,m≤i→C'.getD i false=false) →
  wpOpsIn (qE rd) 0 P ops Q (List.range' m fuel) a w→wpAnyIn (qE rd) 0 P .any ops Q fuel C' a w:=by
 obtain⟨_,ht⟩:=qD Zk
 intro fuel
 induction fuel with
 | zero =>
  intro m C' a w hm hmn hs hall Xu h
  refine⟨List.eq_nil_iff_forall_not_mem.2 (fun i hi=>?_),by simpa[wpOpsIn]using h⟩
  obtain⟨h1,o,ho,_⟩:=(fQ C' hs i).1 hi
  have:=(UC.1 ho).1
  rw[hall i (by omega)]at h1
  cases h1
 | succ fuel ih =>
  intro m C' a w hm hmn hs hall Xu h
  have hmlt:m<ops.size:=by omega
  have ho:ops[m]?=some ops[m]:=UM hmlt
  have Zl:m∈Region.ready .any ops C':=(fQ C' hs m).2 ⟨Xu m (Ut _),_,ho,fun e he hb=>hall _ (by have:=XG.top m _ ho e he hb;omega)⟩
  refine⟨fun hnil=>(by rw[hnil]at Zl;cases Zl),fun i hi=>?_⟩
  obtain⟨Xo,o,hio,hr⟩:=(fQ C' hs i).1 hi
  have him:i=m:=by
   have hilt:=(UC.1 hio).1
   have h1:m≤i:=by
    refine Vr fun hn=>?_
    rw[hall i (by omega)]at Xo
    cases Xo
   refine Vr fun hn=>?_
   have hb:=ht i (by omega) hilt m (by omega)
   have:=ia (C':=C') (fun k ok hk hok' e he hbe=>by
    have hkm:k<m:=by
     refine Vr fun hn=>?_
     rw[Xu k (by omega)]at hk
     cases hk
    have:=XG.top k ok hok' e he hbe
    exact hall _ (by omega)) 12 i m (fun o' Yh=>by rw[hio]at Yh;cases Yh;exact hr) hb
   rw[Xu m (Ut _)]at this
   cases this
  subst him
  rw[List.range'_succ,wpOpsIn_cons]at h
  refine wpOpIn_mono (fun a w h=>?_) h
  have hlt':i<C'.size:=by omega
  refine ih (i+1) _ a w (by omega) (by omega) (by simpa using hs) (fun k hk=>?_) (fun k hk=>?_) h
  ·rw[bj _ _ _ hlt']
   split
   ·rfl
   ·exact hall k (by omega)
  ·rw[bj _ _ _ hlt',Ur (by omega)]
   exact Xu k (by omega)
end
inductive V:Type 1
 | int (k:IntKind) (n:Int)
 | bool (b:Bool)
 | str (s:ByteArray)
 | sl (sz:Nat) {α:Type} (enc:α→List V) (d:α) (l:List α)
 | mp (es:List (Int×Value))
 | nilf
 | nsl
 | esl
 | sm (ag:Bool) {α:Type} (enc:α→List V) (d:α) (l:List (ByteArray×α))
 | nmp
 | fnv (f:FuncId)
def EC (ag:Bool) (n:Nat) (v:Value) (f:Nat→Value):Prop:=if ag=true then ∃us:Array Value,v=.agg us∧us.size=n∧∀j,j<n→us[j]?=some (f j)else n=1∧v=f 0
inductive eh (S:Nat→Prop) (w:World):V→Value→Prop
 | int (k:IntKind) (n:Int):eh S w (.int k n) (.int k n)
 | bool (b:Bool):eh S w (.bool b) (.bool b)
 | str (s:ByteArray):eh S w (.str s) (.string s)
 | nil (sz:Nat) {α:Type} (enc:α→List V) (d:α) (p:Option Addr) (c:Nat):c≤maxLen→(p=none→c=0)→eh S w (.sl sz enc d []) (.slice p 0 c)
 | row (sz:Nat) {α:Type} (enc:α→List V) (d:α) (l:List α) (b J' c n:Nat) (us:Nat→Nat→Value):S b→b<w.heap.size→n=l.length→n≤c→c≤maxLen →
   (∀(i:Nat) (x:α),l[i]?=some x→(enc x).length=sz) →
   (∀(i:Nat) (x:α) (j:Nat) (y:V),l[i]?=some x→(enc x)[j]?=some y→w.cell? ⟨b,J'+(i*sz+j),none⟩=some (us i j)) →
   (∀(i:Nat) (x:α) (j:Nat) (y:V),l[i]?=some x→(enc x)[j]?=some y→eh S w y (us i j))→eh S w (.sl sz enc d l) (.slice (some ⟨b,J',none⟩) n c)
 | mp (es:List (Int×Value)) (b clock:Nat) (arr:Array MapEntry):S b→b<w.heap.size→w.heap[b]?=some (.map arr clock)→arr.toList.map (fun e=>(e.key,e.val))=es.map (fun e=>(Value.int .i64 e.1,e.2))→eh S w (.mp es) (.map (some b))
 | nilf:eh S w .nilf .nilFunc
 | nsl:eh S w .nsl (.slice none 0 0)
 | esl (p:Addr) (c:Nat):c≤maxLen→eh S w .esl (.slice (some p) 0 c)
 | smn (ag:Bool) {α:Type} (enc:α→List V) (d:α):eh S w (.sm ag enc d []) (.map none)
 | sm (ag:Bool) {α:Type} (enc:α→List V) (d:α) (l:List (ByteArray×α)) (b clock:Nat) (arr:Array MapEntry) (us:Nat→Nat→Value):S b→b<w.heap.size→w.heap[b]?=some (.map arr clock)→arr.size=l.length →
   (∀(i:Nat) (k:ByteArray) (x:α),l[i]?=some (k,x)→∃e,arr[i]?=some e∧e.key=.string k∧EC ag (enc x).length e.val (us i)) →
   (∀(i:Nat) (k:ByteArray) (x:α) (j:Nat) (y:V),l[i]?=some (k,x)→(enc x)[j]?=some y→eh S w y (us i j))→eh S w (.sm ag enc d l) (.map (some b))
 | nmp:eh S w .nmp (.map none)
 | fnv (f:FuncId):eh S w (.fnv f) (.func (.func f) #[] #[])
theorem eh.stable {S S':Nat→Prop} {w w':World} {x:V} {u:Value} (h:eh S w x u) (hS:∀b,S b→b<w.heap.size→S' b)
  (hw:∀b,S b→b<w.heap.size→w'.heap[b]?=w.heap[b]?) (WE:w.heap.size≤w'.heap.size):eh S' w' x u:=by
 induction h with
 | int k n=>exact .int k n
 | bool b=>exact .bool b
 | str s=>exact .str s
 | nil sz enc d p c h1 h2=>exact .nil sz enc d p c h1 h2
 | row sz enc d l b J' c n us h1 h2 h3 h4 h5 h6 h7 _ ih =>
  exact .row sz enc d l b J' c n us (hS b h1 h2) (by omega) h3 h4 h5 h6 (fun i x j y hx hy=>by rw[← h7 i x j y hx hy];exact Wi (hw b h1 h2)) ih
 | nilf=>exact .nilf
 | nsl=>exact .nsl
 | esl p c h=>exact .esl p c h
 | mp es b clock arr h1 h2 h3 h4=>exact .mp es b clock arr (hS b h1 h2) (by omega) (by rw[hw b h1 h2];exact h3) h4
 | smn ag enc d=>exact .smn ag enc d
 | sm ag enc d l b clock arr us h1 h2 h3 h4 h5 _ ih=>exact .sm ag enc d l b clock arr us (hS b h1 h2) (by omega) (by rw[hw b h1 h2];exact h3) h4 h5 ih
 | nmp=>exact .nmp
 | fnv f=>exact .fnv f
theorem eh.one {S:Nat→Prop} {w:World} {x:V} {u:Value} (h:eh S w x u):u.oneCell'=true:=by
 cases h<;>rfl
inductive D:Type 1
 | v (x:V)
 | nils
 | own (id:Nat)
 | ptr (id i sz J':Nat)
 | iptr (cs:List V) (J':Nat)
 | agg (cs:List D)
 | tup (cs:List D)
 | fn (f:Fn) (first cap:List D)
 | yld (id:Nat)
 | capd (x:V)
 | gr (g r:Nat)
 | junk
mutual
def D.free (id:Nat):D→Bool
 | .own i=>!(Nat.beq i id)
 | .ptr i _ _ _=>!(Nat.beq i id)
 | .agg cs=>D.freeL id cs
 | .tup cs=>D.freeL id cs
 | .fn _ a b=>D.freeL id a&&D.freeL id b
 | .yld i=>!(Nat.beq i id)
 | .gr i _=>!(Nat.beq i id)
 | _=>true
def D.freeL (id:Nat):List D→Bool
 | []=>true
 | c::cs=>D.free id c&&D.freeL id cs
end
def aO:Value→Option Nat
 | .pointer (some a)=>some a.block
 | .slice (some a) _ _=>some a.block
 | .map (some b)=>some b
 | _=>none
def cx (u:Value) (b:Nat):Prop:=aO u=some b∨∃us:Array Value,u=.tuple us∧∃(k:Nat) (x:Value),us[k]?=some x∧aO x=some b
theorem cx.one {u:Value} {b k:Nat} (hk:cx u k) (h:aO u=some b):some b=some k:=by
 rcases hk with hk | ⟨us,rfl,_⟩
 ·rw[← h,← hk]
 ·cases h
theorem cx.bl {u:Value} {b:Nat} (hk:cx u b) (h:u.oneCell'=true):aO u=some b:=by
 rcases hk with hk | ⟨us,rfl,_⟩
 ·exact hk
 ·cases h
theorem cx.of {u:Value} {b:Nat} (h:aO u=some b):cx u b:=.inl h
inductive aq (S:Nat→Prop) (μ:Nat→Value) (w:World):D→Value→Prop
 | v (x:V) (u:Value):eh S w x u→aq S μ w (.v x) u
 | nils:aq S μ w .nils (.slice none 0 0)
 | own (id:Nat):aq S μ w (.own id) (μ id)
 | ptr (id i sz J' b:Nat):aO (μ id)=some b→aq S μ w (.ptr id i sz J') (.pointer (some ⟨b,i*sz+J',none⟩))
 | iptr (cs:List V) (J' b o:Nat) (us:Nat→Value):S b→b<w.heap.size→(∀(j:Nat) (y:V),cs[j]?=some y→w.cell? ⟨b,o+j,none⟩=some (us j)) →
   (∀(j:Nat) (y:V),cs[j]?=some y→eh S w y (us j))→aq S μ w (.iptr cs J') (.pointer (some ⟨b,o+J',none⟩))
 | agg (cs:List D) (us:Array Value):us.size=cs.length→(∀(j:Nat) (y:D) (u:Value),cs[j]?=some y→us[j]?=some u→aq S μ w y u)→aq S μ w (.agg cs) (.agg us)
 | tup (cs:List D) (us:Array Value):us.size=cs.length→(∀(j:Nat) (y:D) (u:Value),cs[j]?=some y→us[j]?=some u→aq S μ w y u)→aq S μ w (.tup cs) (.tuple us)
 | fn (f:Fn) (first cap:List D) (us vs:Array Value):us.size=first.length→(∀(j:Nat) (y:D) (u:Value),first[j]?=some y→us[j]?=some u→aq S μ w y u) →
   vs.size=cap.length→(∀(j:Nat) (y:D) (u:Value),cap[j]?=some y→vs[j]?=some u→aq S μ w y u)→aq S μ w (.fn f first cap) (.func f us vs)
 | yld (id l:Nat):aO (μ id)=some l→aq S μ w (.yld id) (.func (.yield l) #[] #[])
 | capd (x:V) (p:Option Addr) (n:Nat):eh S w x (.slice p n n)→aq S μ w (.capd x) (.slice p n n)
 | gr (g r:Nat) (us:Array Value) (u:Value):μ g=.tuple us→us[r]?=some u→u.oneCell'=true→aq S μ w (.gr g r) u
 | junk (u:Value):aq S μ w .junk u
theorem D.freeL_get {id:Nat}:∀{cs:List D} {j:Nat} {y:D},D.freeL id cs=true→cs[j]?=some y→D.free id y=true
 | [],_,_,_,h=>by simp at h
 | c::cs,0,y,h,hy=>by
  simp only[D.freeL,Uo]at h
  simp at hy
  subst hy
  exact h.1
 | c::cs,j+1,y,h,hy=>by
  simp only[D.freeL,Uo]at h
  exact D.freeL_get h.2 (by simpa using hy)
theorem aq.stable {S S':Nat→Prop} {μ μ':Nat→Value} {w w':World} {d:D} {u:Value} (h:aq S μ w d u) (hS:∀b,S b→b<w.heap.size→S' b)
  (hw:∀b,S b→b<w.heap.size→w'.heap[b]?=w.heap[b]?) (WE:w.heap.size≤w'.heap.size) (hμ:∀id,d.free id=false→μ' id=μ id):aq S' μ' w' d u:=by
 induction h with
 | v x u h=>exact .v x u (h.stable hS hw WE)
 | nils=>exact .nils
 | own id=>rw[← hμ id (by simp[D.free])];exact .own id
 | ptr id i sz J' b h=>exact .ptr id i sz J' b (by rw[hμ id (by simp[D.free])];exact h)
 | yld id l h=>exact .yld id l (by rw[hμ id (by simp[D.free])];exact h)
 | iptr cs J' b o us h1 h2 h3 h4=>exact .iptr cs J' b o us (hS b h1 h2) (by omega) (fun j y hy=>by rw[← h3 j y hy];exact Wi (hw b h1 h2)) (fun j y hy=>(h4 j y hy).stable hS hw WE)
 | agg cs us h1 _ ih =>
  refine .agg cs us h1 (fun j y u hy hu=>ih j y u hy hu (fun id hf=>hμ id ?_))
  simp only[D.free]
  cases hc:D.freeL id cs
  ·rfl
  ·rw[D.freeL_get hc hy]at hf;cases hf
 | tup cs us h1 _ ih =>
  refine .tup cs us h1 (fun j y u hy hu=>ih j y u hy hu (fun id hf=>hμ id ?_))
  simp only[D.free]
  cases hc:D.freeL id cs
  ·rfl
  ·rw[D.freeL_get hc hy]at hf;cases hf
 | fn f a b us vs h1 _ h2 _ ih1 ih2 =>
  refine .fn f a b us vs h1 (fun j y u hy hu=>ih1 j y u hy hu (fun id hf=>hμ id ?_)) h2 (fun j y u hy hu=>ih2 j y u hy hu (fun id hf=>hμ id ?_))
  ·simp only[D.free]
   cases hc:D.freeL id a
   ·rfl
   ·rw[D.freeL_get hc hy]at hf;cases hf
  ·simp only[D.free]
   cases hc:D.freeL id b
   ·simp
   ·rw[D.freeL_get hc hy]at hf;cases hf
 | capd x p n h=>exact .capd x p n (h.stable hS hw WE)
 | gr g r us u h h1 h2=>exact .gr g r us u (by rw[hμ g (by simp[D.free])];exact h) h1 h2
 | junk u=>exact .junk u
def D.one:D→Bool
 | .agg _=>false
 | .tup _=>false
 | .junk=>false
 | .own _=>true
 | _=>true
structure ry:Type 1 where
 E:TypeId
 sz:Nat
 α:Type
 enc:α→List V
 d:α
 l:List α
inductive Ce:Type 1
 | v (x:V)
 | me (r:Nat)
inductive aC:Type 1
 | dead
 | var (T:TypeId) (cs:List D)
 | arr (E:TypeId) (sz:Nat) {α:Type} (enc:α→List V) (d:α) (l:List α)
 | loop (l:Nat) (tm:Array Value) (nt:Nat) (env:List (Nat×D)) (ps:List Nat) (assign body:Code) (state:LoopState) (pending:Option Code)
 | frame (tm:Array Value) (env:List (Nat×D))
 | ro (E:TypeId) (sz:Nat) {α:Type} (enc:α→List V) (d:α) (l:List α)
 | mpb (t:TypeId) (ag:Bool) {α:Type} (enc:α→List V) (d:α) (l:List (ByteArray×α))
 | arrD (E:TypeId) (sz n:Nat) (gs:List Nat) (cell:Nat→Nat→D)
 | grp (n:Nat) (f:Nat→ry)
 | nest (E:TypeId) (sz n:Nat) (ce:Nat→Nat→Ce) (m:Nat) (f:Nat→ry)
def cE (id:Nat):List (Nat×D)→Bool
 | []=>true
 | (_,d)::r=>D.free id d&&cE id r
theorem eH {id:Nat}:∀{env:List (Nat×D)} {t:Nat} {d:D},cE id env=true→(t,d)∈env→D.free id d=true
 | (s,e)::r,t,d,h,hm=>by
  simp only[cE,Uo]at h
  rcases Vh.1 hm with hm | hm
  ·cases hm;exact h.1
  ·exact eH h.2 hm
def gE (ag:Bool) (cs:List V):D:=if ag then .agg (cs.map D.v)else (cs.map D.v).getD 0 .junk
theorem xC (ag:Bool) (cs:List V) (id:Nat):D.free id (gE ag cs)=true:=by
 have hL:∀cs:List V,D.freeL id (cs.map D.v)=true:=by
  intro cs
  induction cs with
  | nil=>rfl
  | cons c r ih=>rw[Vn,D.freeL,ih];rfl
 unfold gE
 split
 ·rw[D.free];exact hL cs
 ·cases cs<;>rfl
def ED (S:Nat→Prop) (μ:Nat→Value) (w:World) (ag:Bool) {α:Type} (enc:α→List V) (l:List (ByteArray×α)) (arr:Array MapEntry):Prop :=
 arr.size=l.length∧∀(i:Nat) (k:ByteArray) (x:α),l[i]?=some (k,x)→∃e,arr[i]?=some e∧e.key=.string k∧(ag=false→(enc x).length=1)∧aq S μ w (gE ag (enc x)) e.val
def tf (S:Nat→Prop) (w:World) (u:Value) (x:ry):Prop:=(∀(i:Nat) (y:x.α),x.l[i]?=some y→(x.enc y).length=x.sz)∧∃xs,w.ownsRow 0 x.E x.sz u x.l.length xs∧∀(i:Nat) (z:x.α) (j:Nat) (y:V),x.l[i]?=some z→(x.enc z)[j]?=some y→∃v,xs[i*x.sz+j]?=some v∧eh S w y v
def PK (S:Nat→Prop) (w:World) (us:Array Value):Ce→Value→Prop
 | .v x,z=>eh S w x z
 | .me r,z=>us[r+1]?=some z
def aN (S:Nat→Prop) (μ:Nat→Value) (w:World) (u:Value):aC→Prop
 | .dead=>True
 | .var T cs=>∃b vs,u=.pointer (some ⟨b,0,none⟩)∧w.heap[b]?=some (.cells vs T (0,0))∧vs.size=cs.length∧∀(j:Nat) (y:D) (x:Value),cs[j]?=some y→vs[j]?=some x→aq S μ w y x
 | .arr (α:=α) E sz enc _ l=>(∀(i:Nat) (x:α),l[i]?=some x→(enc x).length=sz)∧∃xs,w.ownsRow 0 E sz u l.length xs∧∀(i:Nat) (x:α) (j:Nat) (y:V),l[i]?=some x→(enc x)[j]?=some y→∃z,xs[i*sz+j]?=some z∧eh S w y z
 | .loop l tm nt env ps assign body state pending=>∃(r:Loop),u=.pointer (some ⟨l,0,none⟩)∧w.heap[l]?=some (.loop r)∧r.state=state∧r.pending=pending∧r.params=ps.toArray∧r.assign=assign∧r.body=body∧r.tmps=tm∧tm.size=nt ∧
   ∀(t:Nat) (d:D),(t,d)∈env→t<nt∧aq S μ w d (tm.getD t undef)
 | .frame tm env=>u=.bool true∧∀(t:Nat) (d:D),(t,d)∈env→t<tm.size∧aq S μ w d (tm.getD t undef)
 | .ro (α:=α) E sz enc _ l=>(∀(i:Nat) (x:α),l[i]?=some x→(enc x).length=sz)∧∃xs,w.ownsRow 0 E sz u l.length xs∧∀(i:Nat) (x:α) (j:Nat) (y:V),l[i]?=some x→(enc x)[j]?=some y→∃z,xs[i*sz+j]?=some z∧eh S w y z
 | .mpb t ag enc _ l=>∃b arr clock,u=.map (some b)∧w.heap[b]?=some (.map arr clock)∧ED S μ w ag enc l arr
 | .arrD E sz n gs cell=>(∀(i j id:Nat),i<n→j<sz→gs.all (fun g=>!(Nat.beq g id))=true→(cell i j).free id=true)∧∃xs,w.ownsRow 0 E sz u n xs∧∀(i j:Nat),i<n→j<sz→∃z,xs[i*sz+j]?=some z∧z.oneCell'=true∧aq S μ w (cell i j) z
 | .grp n f=>∃us:Array Value,u=.tuple us∧us.size=n∧(∀(r:Nat) (v:Value),us[r]?=some v→v.oneCell'=true∧tf S w v (f r))∧∀(r r':Nat) (v v':Value) (b:Nat),us[r]?=some v→us[r']?=some v'→aO v=some b→aO v'=some b→r=r'
 | .nest E sz n ce m f=>∃us:Array Value,u=.tuple us∧us.size=m+1∧(∃(v0:Value) (xs:List Value),us[0]?=some v0∧v0.oneCell'=true∧w.ownsRow 0 E sz v0 n xs∧∀(i j:Nat),i<n→j<sz→∃z,xs[i*sz+j]?=some z∧z.oneCell'=true∧PK S w us (ce i j) z) ∧
   (∀(r:Nat) (v:Value),us[r+1]?=some v→v.oneCell'=true∧tf S w v (f r))∧∀(r r':Nat) (v v':Value) (b:Nat),us[r]?=some v→us[r']?=some v'→aO v=some b→aO v'=some b→r=r'
def aC.live:aC→Bool
 | .dead=>false
 | .ro _ _ _ _ _=>false
 | _=>true
def aC.isRo:aC→Bool
 | .ro _ _ _ _ _=>true
 | _=>false
theorem aC.three (A:aC):A=.dead∨A.live=true∨A.isRo=true:=by
 cases A<;>first | exact .inl rfl | exact .inr (.inl rfl) | exact .inr (.inr rfl)
def aC.isArr:aC→Bool
 | .arr _ _ _ _ _=>true
 | _=>false
def aC.isOwn:aC→Bool
 | .arr _ _ _ _ _=>true
 | .nest _ _ _ _ _ _=>true
 | _=>false
theorem aC.isOwn_arr {B:aC} (h:B.isArr=true):B.isOwn=true:=by cases B<;>first | rfl | cases h
theorem GK {B:aC} (h:B.live=true):B.isRo=false:=by cases B<;>first | rfl | cases h
theorem nq {B:aC} (h:B.isArr=true):B.isRo=false:=by cases B<;>first | rfl | cases h
def aC.free (id:Nat):aC→Bool
 | .var _ cs=>D.freeL id cs
 | .loop _ _ _ env _ _ _ _ _=>cE id env
 | .frame _ env=>cE id env
 | .arrD _ _ _ gs _=>gs.all (fun g=>!(Nat.beq g id))
 | _=>true
theorem tf.stable {S S':Nat→Prop} {w w':World} {u:Value} {x:ry} (h:tf S w u x) (hS:∀b,S b→b<w.heap.size→S' b)
  (hw:∀b,S b→b<w.heap.size→w'.heap[b]?=w.heap[b]?) (WE:w.heap.size≤w'.heap.size) (hb:∀b,aO u=some b→w'.heap[b]?=w.heap[b]?):tf S' w' u x:=by
 obtain⟨h0,xs,⟨h1,h2⟩,h3⟩:=h
 refine⟨h0,xs,⟨h1,?_⟩,fun i x j y hx hy=>?_⟩
 ·rcases h2 with h2 | ⟨g,cap,W1,rfl,hg,hh,r⟩
  ·exact .inl h2
  ·exact .inr ⟨g,cap,W1,rfl,hg,by rw[hb g rfl];exact hh,r⟩
 ·obtain⟨z,hz,hr⟩:=h3 i x j y hx hy
  exact⟨z,hz,hr.stable hS hw WE⟩
theorem vV {w w':World} {E sz n:Nat} {u:Value} {xs:List Value} (h:w.ownsRow 0 E sz u n xs) (hb:∀b,aO u=some b→w'.heap[b]?=w.heap[b]?):w'.ownsRow 0 E sz u n xs:=by
 obtain⟨h1,h2⟩:=h
 refine⟨h1,?_⟩
 rcases h2 with h2 | ⟨g,cap,W1,rfl,hg,hh,r⟩
 ·exact .inl h2
 ·exact .inr ⟨g,cap,W1,rfl,hg,by rw[hb g rfl];exact hh,r⟩
theorem aN.stable {S S':Nat→Prop} {μ μ':Nat→Value} {w w':World} {u:Value} {B:aC} (h:aN S μ w u B) (hS:∀b,S b→b<w.heap.size→S' b)
  (hw:∀b,S b→b<w.heap.size→w'.heap[b]?=w.heap[b]?) (WE:w.heap.size≤w'.heap.size) (hμ:∀id,B.free id=false→μ' id=μ id)
  (Xa:∀b,cx u b→w'.heap[b]?=w.heap[b]?):aN S' μ' w' u B:=by
 have hb:∀b,aO u=some b→w'.heap[b]?=w.heap[b]?:=fun b h=>Xa b (.of h)
 cases B with
 | dead=>trivial
 | var T cs =>
  obtain⟨b,vs,rfl,h1,h2,h3⟩:=h
  refine⟨b,vs,rfl,by rw[hb b rfl];exact h1,h2,fun j y x hy hx=>(h3 j y x hy hx).stable hS hw WE (fun id hf=>hμ id ?_)⟩
  simp only[aC.free]
  cases hc:D.freeL id cs
  ·rfl
  ·rw[D.freeL_get hc hy]at hf;cases hf
 | arr E sz enc d l =>
  obtain⟨h0,xs,⟨h1,h2⟩,h3⟩:=h
  refine⟨h0,xs,⟨h1,?_⟩,fun i x j y hx hy=>?_⟩
  ·rcases h2 with h2 | ⟨g,cap,W1,rfl,hg,hh,r⟩
   ·exact .inl h2
   ·exact .inr ⟨g,cap,W1,rfl,hg,by rw[hb g rfl];exact hh,r⟩
  ·obtain⟨z,hz,hr⟩:=h3 i x j y hx hy
   exact⟨z,hz,hr.stable hS hw WE⟩
 | loop l tm nt env ps assign body state pending =>
  obtain⟨r,rfl,h1,h2,h3,h4,h5,h6,h7,h7',h8⟩:=h
  refine⟨r,rfl,by rw[hb l rfl];exact h1,h2,h3,h4,h5,h6,h7,h7',fun t d hm=>?_⟩
  obtain⟨q1,q2⟩:=h8 t d hm
  refine⟨q1,q2.stable hS hw WE (fun id hf=>hμ id ?_)⟩
  simp only[aC.free]
  cases hc:cE id env
  ·rfl
  ·rw[eH hc hm]at hf;cases hf
 | frame tm env =>
  obtain⟨rfl,h8⟩:=h
  refine⟨rfl,fun t d hm=>?_⟩
  obtain⟨q1,q2⟩:=h8 t d hm
  refine⟨q1,q2.stable hS hw WE (fun id hf=>hμ id ?_)⟩
  simp only[aC.free]
  cases hc:cE id env
  ·rfl
  ·rw[eH hc hm]at hf;cases hf
 | ro E sz enc d l =>
  obtain⟨h0,xs,⟨h1,h2⟩,h3⟩:=h
  refine⟨h0,xs,⟨h1,?_⟩,fun i x j y hx hy=>?_⟩
  ·rcases h2 with h2 | ⟨g,cap,W1,rfl,hg,hh,r⟩
   ·exact .inl h2
   ·exact .inr ⟨g,cap,W1,rfl,hg,by rw[hb g rfl];exact hh,r⟩
  ·obtain⟨z,hz,hr⟩:=h3 i x j y hx hy
   exact⟨z,hz,hr.stable hS hw WE⟩
 | mpb t ag enc d l =>
  obtain⟨b,arr,clock,rfl,h1,h2,h3⟩:=h
  refine⟨b,arr,clock,rfl,by rw[hb b rfl];exact h1,h2,fun i k x hx=>?_⟩
  obtain⟨e,q1,q2,q4,q3⟩:=h3 i k x hx
  exact⟨e,q1,q2,q4,q3.stable hS hw WE (fun id hf=>by rw[xC]at hf;cases hf)⟩
 | arrD E sz n gs cell =>
  obtain⟨h0,xs,⟨h1,h2⟩,h3⟩:=h
  refine⟨h0,xs,⟨h1,?_⟩,fun i j hi hj=>?_⟩
  ·rcases h2 with h2 | ⟨g,cap,W1,rfl,hg,hh,r⟩
   ·exact .inl h2
   ·exact .inr ⟨g,cap,W1,rfl,hg,by rw[hb g rfl];exact hh,r⟩
  ·obtain⟨z,hz,ho,hr⟩:=h3 i j hi hj
   refine⟨z,hz,ho,hr.stable hS hw WE (fun id hf=>hμ id ?_)⟩
   simp only[aC.free]
   cases hc:gs.all (fun g=>!(Nat.beq g id))
   ·rfl
   ·rw[h0 i j id hi hj hc]at hf;cases hf
 | grp n f =>
  obtain⟨us,rfl,h1,h2,h3⟩:=h
  exact⟨us,rfl,h1,fun r v hv=>⟨(h2 r v hv).1,(h2 r v hv).2.stable hS hw WE (fun b hb''=>Xa b (.inr ⟨us,rfl,r,v,hv,hb''⟩))⟩,h3⟩
 | nest E sz n ce m f =>
  obtain⟨us,rfl,h1,⟨v0,xs,g1,g2,g3,g4⟩,h2,h3⟩:=h
  refine⟨us,rfl,h1,⟨v0,xs,g1,g2,vV g3 (fun b hb''=>Xa b (.inr ⟨us,rfl,0,v0,g1,hb''⟩)),fun i j hi hj=>?_⟩,fun r v hv=>⟨(h2 r v hv).1,(h2 r v hv).2.stable hS hw WE (fun b hb''=>Xa b (.inr ⟨us,rfl,r+1,v,hv,hb''⟩))⟩,h3⟩
  obtain⟨z,q1,q2,q3⟩:=g4 i j hi hj
  refine⟨z,q1,q2,?_⟩
  cases hc:ce i j with
  | v x=>rw[hc]at q3;exact q3.stable hS hw WE
  | me r=>rw[hc]at q3;exact q3
theorem aN.ro_arr {S:Nat→Prop} {μ:Nat→Value} {w:World} {u:Value} {E sz:Nat} {α:Type} {enc:α→List V} {d:α} {l:List α} (h:aN S μ w u (.ro E sz enc d l)):aN S μ w u (.arr E sz enc d l):=h
theorem aN.lt {S:Nat→Prop} {μ:Nat→Value} {w:World} {u:Value} {B:aC} (h:aN S μ w u B) (hl:B.live=true):∀b,cx u b→b<w.heap.size:=by
 intro b hb
 cases B with
 | dead=>cases hl
 | var T cs =>
  obtain⟨b',vs,rfl,h1,_⟩:=h
  simp[cx,aO]at hb
  subst hb
  exact(UC.1 h1).1
 | arr E sz enc d l =>
  obtain⟨_,xs,⟨h1,h2⟩,_⟩:=h
  rcases h2 with ⟨rfl,_⟩ | ⟨g,cap,W1,rfl,hg,hh,r⟩
  ·simp[cx,aO]at hb
  ·simp[cx,aO]at hb
   subst hb
   exact(UC.1 hh).1
 | loop l tm nt env ps assign body state pending =>
  obtain⟨r,rfl,h1,_⟩:=h
  simp[cx,aO]at hb
  subst hb
  exact(UC.1 h1).1
 | frame tm env =>
  obtain⟨rfl,_⟩:=h
  simp[cx,aO]at hb
 | ro E sz enc d l=>cases hl
 | mpb t ag enc d l =>
  obtain⟨b',arr,clock,rfl,h1,_⟩:=h
  simp[cx,aO]at hb
  subst hb
  exact(UC.1 h1).1
 | arrD E sz n gs cell =>
  obtain⟨_,xs,⟨h1,h2⟩,_⟩:=h
  rcases h2 with ⟨rfl,_⟩ | ⟨g,cap,W1,rfl,hg,hh,r⟩
  ·simp[cx,aO]at hb
  ·simp[cx,aO]at hb
   subst hb
   exact(UC.1 hh).1
 | grp n f =>
  obtain⟨us,rfl,h1,h2,h3⟩:=h
  rcases hb with hb | ⟨XZ,he,k,x,hx,hb⟩
  ·simp[aO]at hb
  ·cases he
   obtain⟨_,_,xs,⟨_,h2⟩,_⟩:=h2 k x hx
   rcases h2 with ⟨rfl,_⟩ | ⟨g,cap,W1,rfl,hg,hh,r⟩
   ·simp[aO]at hb
   ·simp[aO]at hb
    subst hb
    exact(UC.1 hh).1
 | nest E sz n ce m f =>
  obtain⟨us,rfl,h1,⟨v0,xs,g1,g2,g3,g4⟩,h2,h3⟩:=h
  rcases hb with hb | ⟨XZ,he,k,x,hx,hb⟩
  ·simp[aO]at hb
  ·cases he
   have key:∃E' W9 n' xs',w.ownsRow 0 E' W9 x n' xs':=by
    cases k with
    | zero=>rw[g1]at hx;cases hx;exact⟨_,_,_,_,g3⟩
    | succ k=>obtain⟨_,_,xs,h,_⟩:=h2 k x hx;exact⟨_,_,_,_,h⟩
   obtain⟨E',W9,n',xs',_,h2⟩:=key
   rcases h2 with ⟨rfl,_⟩ | ⟨g,cap,W1,rfl,hg,hh,r⟩
   ·simp[aO]at hb
   ·simp[aO]at hb
    subst hb
    exact(UC.1 hh).1
theorem aN.ltR {S:Nat→Prop} {μ:Nat→Value} {w:World} {u:Value} {B:aC} (h:aN S μ w u B) (hr:B.isRo=true):∀b,cx u b→b<w.heap.size:=by
 cases B<;>first | (cases hr;done) | skip
 exact h.ro_arr.lt rfl
structure bz (S:Nat→Prop) (μ:Nat→Value) (w:World) (H:List aC):Prop where
 box:∀(id:Nat) (B:aC),H[id]?=some B→aN S μ w (μ id) B
 apart:∀(i j:Nat) (A B:aC) (b:Nat),H[i]?=some A→H[j]?=some B→A.live=true→B.live=true→cx (μ i) b→cx (μ j) b→i=j
 notS:∀(i:Nat) (A:aC) (b:Nat),H[i]?=some A→A.live=true→cx (μ i) b→¬S b
def gK:List (Nat×List V):=TC.map fun p=>(p.1,p.2.map fun o=>o.elim .nilf V.fnv)
def gG (S:Nat→Prop) (w:World):Prop:=∀(g:Nat) (cs:List V),(g,cs)∈gK→S g∧g<w.heap.size∧∀(j:Nat) (y:V),cs[j]?=some y→∃u,w.cell? ⟨g,j,none⟩=some u∧eh S w y u
theorem gG.stable {S S':Nat→Prop} {w w':World} (h:gG S w) (hS:∀b,S b→b<w.heap.size→S' b)
  (hw:∀b,S b→b<w.heap.size→w'.heap[b]?=w.heap[b]?) (WE:w.heap.size≤w'.heap.size):gG S' w':=fun g cs hm=>by
 obtain⟨h1,h2,h3⟩:=h g cs hm
 refine⟨hS g h1 h2,by omega,fun j y hy=>?_⟩
 obtain⟨u,hu,hr⟩:=h3 j y hy
 exact⟨u,by rw[← hu];exact Wi (hw g h1 h2),hr.stable hS hw WE⟩
theorem GL {S:Nat→Prop} {w:World} (h:TC=[]):gG S w:=fun g cs hm=>by
 unfold gK at hm;rw[h]at hm;cases hm
structure ns where
 P:Program
 W:World
 S0:Nat→Prop
 nt:Nat
 susp:List Nat
 rd:Option Nat
 g:gG S0 W
structure St:Type 1 where
 env:List (Nat×D)
 heap:List aC
structure bk (C:ns) (S:Nat→Prop) (μ:Nat→Value) (st:St) (a:Act) (w:World):Prop where
 os:w.os=C.W.os
 tape:w.tape=C.W.tape
 output:w.output=C.W.output
 size:C.W.heap.size≤w.heap.size
 old:∀k,k<C.W.heap.size→w.heap[k]?=C.W.heap[k]?
 mono:∀b,C.S0 b→S b
 new:∀b,S b→C.S0 b∨C.W.heap.size≤b
 slt:∀b,S b→b<w.heap.size
 env:∀(t:Nat) (d:D),(t,d)∈st.env→t<C.nt∧aq S μ w d (a.tmps.getD t undef)
 heap:bz S μ w st.heap
 may:∀(i:Nat) (A:aC) (b:Nat),st.heap[i]?=some A→A.live=true→cx (μ i) b→C.W.heap.size≤b
 defers:∃mk:List Nat,a.defers=mk.map (fun b=>{ target:=.collected b,args:=#[] })∧(mk++C.susp).Nodup∧∀b∈mk++C.susp,w.heap[b]?=some (.deferred (some []))∧C.W.heap.size≤b∧¬S b∧∀(i:Nat) (A:aC),st.heap[i]?=some A→A.live=true→¬cx (μ i) b
 tsize:a.tmps.size=C.nt
 ro:∀(i:Nat) (A:aC) (b:Nat),st.heap[i]?=some A→A.isRo=true→cx (μ i) b→b<C.W.heap.size
theorem bk.glob {C:ns} {S:Nat→Prop} {μ:Nat→Value} {st:St} {a:Act} {w:World} (h:bk C S μ st a w):gG S w :=
 C.g.stable (fun b hb _=>h.mono b hb) (fun b _ hb=>h.old b hb) h.size
def D.ofVal1:Value→D
 | .int k n=>.v (.int k n)
 | .bool b=>.v (.bool b)
 | .string s=>.v (.str s)
 | .slice none 0 0=>.nils
 | .nilFunc=>.v .nilf
 | .map none=>.v .nmp
 | .func f a b=>if a.isEmpty&&b.isEmpty then .fn f [] []else .junk
 | _=>.junk
def D.ofVal:Value→D
 | .agg us=>.agg (us.toList.map D.ofVal1)
 | u=>D.ofVal1 u
theorem bJ {α:Type _} (l:List α) (d:α) {i:Nat} (h:i<l.length):l.getD i d=l[i]:=by simp[List.getD,h]
theorem aq.ofVal1 (S:Nat→Prop) (μ:Nat→Value) (w:World) (u:Value):aq S μ w (D.ofVal1 u) u:=by
 unfold D.ofVal1
 split
 ·exact .v _ _ (.int _ _)
 ·exact .v _ _ (.bool _)
 ·exact .v _ _ (.str _)
 ·exact .nils
 ·exact .v _ _ .nilf
 ·exact .v _ _ .nmp
 ·split
  ·rename_i f a b h
   simp only[Uo,Array.isEmpty_iff]at h
   obtain⟨rfl,rfl⟩:=h
   exact .fn f [] [] #[] #[] rfl (fun j y u h=>by simp at h) rfl (fun j y u h=>by simp at h)
  ·exact .junk _
 ·exact .junk _
theorem aq.ofVal (S:Nat→Prop) (μ:Nat→Value) (w:World) (u:Value):aq S μ w (D.ofVal u) u:=by
 unfold D.ofVal
 split
 ·rename_i us
  refine .agg _ us (by simp) (fun j y u hy hu=>?_)
  simp only[UJ,UY,hu,U4,UA]at hy
  subst hy
  exact aq.ofVal1 S μ w u
 ·exact aq.ofVal1 S μ w _
abbrev R1:=D×Prop
def aR:R1:=(.junk,False)
def aH (P:Program) (t:TypeId):Nat:=((P.info? t).map (·.size)).getD 0
def xD (P:Program) (t:TypeId):Bool:=match P.underlying t with | some (.struct _)=>true | some (.array _ _)=>true | _=>false
def dh (P:Program) (t:TypeId):Bool:=(P.info? t).isSome&&(P.underlying t).isSome
def dP (P:Program) (t:TypeId) (cs:List D) (J':Nat):R1 :=
 if dh P t&&Nat.ble (J'+aH P t) cs.length&&(xD P t||Nat.beq (aH P t) 1)then
  (if xD P t then .agg ((cs.drop J').take (aH P t))else cs.getD J' .junk,True)
 else aR
def EE (P:Program) (t:TypeId) (H:List aC):D→R1
 | .ptr id i sz J'=>match H[id]? with
  | some (.var _ cs)=>if Nat.beq i 0 then dP P t cs J' else aR
  | some (.arr _ W9 enc d l)=>if Nat.beq sz W9 then
    (match dP P t ((enc (l.getD i d)).map D.v) J' with | (x,p)=>(x,i<l.length∧p))else aR
  | some (.ro _ W9 enc d l)=>if Nat.beq sz W9 then
    (match dP P t ((enc (l.getD i d)).map D.v) J' with | (x,p)=>(x,i<l.length∧p))else aR
  | some (.arrD _ W9 n _ cell)=>if Nat.beq sz W9 then
    (match dP P t ((List.range sz).map (cell i)) J' with | (x,p)=>(x,i<n∧p))else aR
  | _=>aR
 | .iptr cs J'=>dP P t (cs.map D.v) J'
 | _=>aR
section
variable {P:Program} {S:Nat→Prop} {μ:Nat→Value} {w:World}
theorem eC {t:TypeId} (h:dh P t=true) (w:World):(sizeOf t).run P w=.ok (aH P t) w:=by
 unfold dh at h
 cases hi:P.info? t with
 | none=>simp[hi]at h
 | some i=>simp[sizeOf,typeInfo,hi,aH]
theorem xE {t:TypeId} (h:dh P t=true) (w:World):(isAgg t).run P w=.ok (xD P t) w:=by
 unfold dh at h
 cases hu:P.underlying t with
 | none=>simp[hu]at h
 | some d =>
  unfold isAgg
  simp only[Uv,UZ hu,Uu]
  unfold xD
  rw[hu]
  cases d<;>rfl
def lK (S:Nat→Prop) (μ:Nat→Value) (w:World) (b o:Nat) (cs:List D):Prop :=
 ∀(j:Nat) (y:D),cs[j]?=some y→∃u,w.cell? ⟨b,o+j,none⟩=some u∧aq S μ w y u
theorem dY (b o i:Nat):(⟨b,o,none⟩:Addr).add i=⟨b,o+i,none⟩:=by unfold Addr.add;split<;>simp_all
theorem j5 {b o:Nat} {cs:List D} (h:lK S μ w b o cs):∀(n i:Nat) (WU:Array Value),i+n≤cs.length →
  ∃us:Array Value,(loadCellsFrom ⟨b,o,none⟩ i n WU).run P w=.ok (WU++us) w∧us.size=n∧∀(j:Nat) (y:D) (u:Value),cs[i+j]?=some y→us[j]?=some u→aq S μ w y u
 | 0,i,WU,_=>⟨#[],by simp[loadCellsFrom],rfl,fun j y u _ hu=>by simp at hu⟩
 | n+1,i,WU,hl=>by
  have hi:i<cs.length:=by omega
  obtain⟨u,hu,hr⟩:=h i cs[i] (Uq hi)
  obtain⟨us,h1,h2,h3⟩:=j5 h n (i+1) (WU.push u) (by omega)
  refine⟨#[u]++us,?_,by simp[h2];omega,fun j y x hy hx=>?_⟩
  ·have hld:(load ⟨b,o+i,none⟩).run P w=.ok u w:=by simp[load,Sem.run,hu]
   rw[loadCellsFrom,dY,Uv,hld,Uu,h1]
   congr 1
   rw[Array.push_eq_append,Array.append_assoc]
  ·cases j with
   | zero =>
    have YH:x=u:=by
     rw[Array.getElem?_append_left (by simp)]at hx
     simpa using hx.symm
    rw[YH]
    rw[VM,Uq hi]at hy
    cases hy
    exact hr
   | succ j =>
    refine h3 j y x (by rw[show i+1+j=i+(j+1)from by omega];exact hy) ?_
    rw[Array.getElem?_append_right (by simp)]at hx
    simpa using hx
theorem ik {t:TypeId} {cs:List D} {J' b o:Nat} {d:D} {p:Prop} (hp:dP P t cs J'=(d,p)) (D':p) (h:lK S μ w b o cs) :
  ∃u,(loadVar t ⟨b,o+J',none⟩).run P w=.ok u w∧aq S μ w d u:=by
 unfold dP at hp
 split at hp
 ·rename_i hc
  simp only[Uo,U3,Vv,UH]at hc
  obtain⟨⟨hk,hl⟩,hs⟩:=hc
  simp only[Ux]at hp
  obtain⟨rfl,_⟩:=hp
  have h':lK S μ w b (o+J') (cs.drop J'):=fun j y hy=>by
   rw[VB]at hy
   rw[Nat.add_assoc]
   exact h _ _ hy
  unfold loadVar
  simp only[Uv,xE hk,Uu]
  cases ha:xD P t
  ·simp only[Vi,V2]
   rw[ha]at hs
   have WN:aH P t=1:=by simpa using hs
   have WL:J'<cs.length:=by omega
   obtain⟨u,hu,hr⟩:=h J' cs[J'] (Uq WL)
   refine⟨u,by simp[load,Sem.run,hu],?_⟩
   rw[bJ _ _ WL]
   exact hr
  ·simp only[V5]
   obtain⟨us,h1,h2,h3⟩:=j5 (P:=P) h' (aH P t) 0 #[] (by rw[UW];omega)
   refine⟨.agg us,?_,.agg _ _ (by rw[h2,UG,UW];omega) (fun j y u hy hu=>h3 j y u ?_ hu)⟩
   ·simp only[Uv,eC hk,Uu,loadCells,h1,UL,Array.empty_append]
   ·rw[UP]at hy
    split at hy
    ·simpa using hy
    ·cases hy
 ·simp only[aR,Ux]at hp
  obtain⟨_,rfl⟩:=hp
  exact D'.elim
theorem kS {E sz n:Nat} {u:Value} {xs:List Value} (h:w.ownsRow 0 E sz u n xs) {b:Nat} (hb:aO u=some b):∀j z,xs[j]?=some z→w.cell? ⟨b,j,none⟩=some z:=by
 intro j z hz
 have D':u.ownBlock=some b:=by
  cases u<;>simp[aO]at hb ⊢
  ·obtain⟨h1,h2⟩:=h
   rcases h2 with ⟨h2,_⟩ | ⟨_,_,_,h2,_⟩<;>cases h2
  ·rename_i a len cap
   cases a with
   | none=>simp at hb
   | some a=>simp at hb;simp[Value.ownBlock,hb]
  ·obtain⟨h1,h2⟩:=h
   rcases h2 with ⟨h2,_⟩ | ⟨_,_,_,h2,_⟩<;>cases h2
 have:=h.cells D' j z hz
 rwa [dY,U5]at this
theorem aN.arr_cells {E sz:Nat} {α:Type} {enc:α→List V} {d:α} {l:List α} {u:Value} (h:aN S μ w u (.arr E sz enc d l)) {b i:Nat} (hb:aO u=some b) (hi:i<l.length) :
  lK S μ w b (i*sz) ((enc (l.getD i d)).map D.v):=by
 obtain⟨h0,xs,h1,h2⟩:=h
 intro j y hy
 rw[UJ]at hy
 have hx:l[i]?=some (l.getD i d):=by rw[bJ _ _ hi];exact Uq hi
 cases he:(enc (l.getD i d))[j]? with
 | none=>rw[he]at hy;cases hy
 | some z =>
  rw[he]at hy
  simp only[U4,UA]at hy
  subst hy
  obtain⟨q,hq,hr⟩:=h2 i _ j z hx he
  exact⟨q,kS h1 hb _ _ hq,.v _ _ hr⟩
theorem aN.arrD_cells {E sz n:Nat} {gs:List Nat} {cell:Nat→Nat→D} {u:Value} (h:aN S μ w u (.arrD E sz n gs cell)) {b i:Nat} (hb:aO u=some b) (hi:i<n) :
  lK S μ w b (i*sz) ((List.range sz).map (cell i)):=by
 obtain⟨h0,xs,h1,h2⟩:=h
 intro j y hy
 rw[UJ]at hy
 by_cases hj:j<sz
 ·rw[List.getElem?_range hj]at hy
  simp only[U4,UA]at hy
  subst hy
  obtain⟨z,hz,_,hr⟩:=h2 i j hi hj
  exact⟨z,kS h1 hb _ _ hz,hr⟩
 ·rw[U1 (by simp;omega)]at hy
  cases hy
theorem aN.var_cells {T:TypeId} {cs:List D} {u:Value} (h:aN S μ w u (.var T cs)) {b:Nat} (hb:aO u=some b):lK S μ w b 0 cs:=by
 obtain⟨b',vs,rfl,h1,h2,h3⟩:=h
 simp[aO]at hb
 subst hb
 intro j y hy
 have hj:=(Up.1 hy).1
 have hv:vs[j]?=some vs[j]:=UM (by omega)
 refine⟨vs[j],?_,h3 j y _ hy hv⟩
 simp[World.cell?,h1,hv]
theorem vW {cs:List V} {J':Nat} {u:Value} (h:aq S μ w (.iptr cs J') u):∃b o,u=.pointer (some ⟨b,o+J',none⟩)∧lK S μ w b o (cs.map D.v):=by
 cases h with
 | iptr _ _ b o us h1 h2 h3 h4 =>
  refine⟨b,o,rfl,fun j y hy=>?_⟩
  rw[UJ]at hy
  cases he:cs[j]? with
  | none=>rw[he]at hy;cases hy
  | some z =>
   rw[he]at hy
   simp only[U4,UA]at hy
   subst hy
   exact⟨_,h3 j z he,.v _ _ (h4 j z he)⟩
theorem oM {id i sz J':Nat} {u:Value} (h:aq S μ w (.ptr id i sz J') u):∃b,aO (μ id)=some b∧u=.pointer (some ⟨b,i*sz+J',none⟩):=by
 cases h with
 | ptr _ _ _ _ b h=>exact⟨b,h,rfl⟩
theorem uw {t:TypeId} {H:List aC} (hH:bz S μ w H) {a d:D} {p:Prop} {ua:Value} (ha:aq S μ w a ua) (hp:EE P t H a=(d,p)) (D':p) :
  ∃u,(Instr.loadAt t ua).run P w=.ok u w∧aq S μ w d u:=by
 unfold EE at hp
 split at hp
 ·rename_i id i sz J'
  obtain⟨b,hb,rfl⟩:=oM ha
  split at hp
  ·rename_i T cs I'
   split at hp
   ·rename_i hi
    simp only[UH]at hi
    subst hi
    obtain⟨u,h1,h2⟩:=ik (P:=P) hp D' ((hH.box id _ I').var_cells hb)
    refine⟨u,?_,h2⟩
    simpa[Instr.loadAt,Instr.sureAddr]using h1
   ·cases hp;exact D'.elim
  ·rename_i E W9 enc d' l I'
   split at hp
   ·rename_i hs
    simp only[UH]at hs
    subst hs
    generalize hq:dP P t ((enc (l.getD i d')).map D.v) J'=q at hp
    obtain⟨x,p'⟩:=q
    simp only[Ux]at hp
    obtain⟨rfl,rfl⟩:=hp
    obtain⟨u,h1,h2⟩:=ik (P:=P) hq D'.2 ((hH.box id _ I').arr_cells hb D'.1)
    refine⟨u,?_,h2⟩
    simpa[Instr.loadAt,Instr.sureAddr]using h1
   ·cases hp;exact D'.elim
  ·rename_i E W9 enc d' l I'
   split at hp
   ·rename_i hs
    simp only[UH]at hs
    subst hs
    generalize hq:dP P t ((enc (l.getD i d')).map D.v) J'=q at hp
    obtain⟨x,p'⟩:=q
    simp only[Ux]at hp
    obtain⟨rfl,rfl⟩:=hp
    obtain⟨u,h1,h2⟩:=ik (P:=P) hq D'.2 ((hH.box id _ I').ro_arr.arr_cells hb D'.1)
    refine⟨u,?_,h2⟩
    simpa[Instr.loadAt,Instr.sureAddr]using h1
   ·cases hp;exact D'.elim
  ·rename_i E W9 n gs cell I'
   split at hp
   ·rename_i hs
    simp only[UH]at hs
    subst hs
    generalize hq:dP P t ((List.range sz).map (cell i)) J'=q at hp
    obtain⟨x,p'⟩:=q
    simp only[Ux]at hp
    obtain⟨rfl,rfl⟩:=hp
    obtain⟨u,h1,h2⟩:=ik (P:=P) hq D'.2 ((hH.box id _ I').arrD_cells hb D'.1)
    refine⟨u,?_,h2⟩
    simpa[Instr.loadAt,Instr.sureAddr]using h1
   ·cases hp;exact D'.elim
  ·cases hp;exact D'.elim
 ·rename_i cs J'
  obtain⟨b,o,rfl,hc⟩:=vW ha
  obtain⟨u,h1,h2⟩:=ik (P:=P) hp D' hc
  refine⟨u,?_,h2⟩
  simpa[Instr.loadAt,Instr.sureAddr]using h1
 ·cases hp;exact D'.elim
end
def vX (n:Nat):D→R1
 | .ptr id i sz J'=>(.ptr id i sz (J'+n),True)
 | .iptr cs J'=>(.iptr cs (J'+n),True)
 | _=>aR
def qF (P:Program) (s:TypeId) (x:D) (f:Nat):R1 :=
 match P.underlying s with
 | some (.struct fs)=>match fs[f]? with
  | some fld=>if dh P fld.type&&!(Nat.beq (aH P fld.type) 0)then vX fld.offset x else aR
  | none=>aR
 | _=>aR
def qG (P:Program) (t:TypeId) (H:List aC) (x i:D):R1 :=
 match P.underlying t,x,i with
 | some (.slice e),.v (.sl sz enc d l),.v (.int _ n)=>if dh P e&&Nat.beq (aH P e) sz then (.iptr (enc (l.getD n.toNat d)) 0,0≤n∧n<l.length)else aR
 | some (.slice e),.own id,.v (.int _ n)=>match H[id]? with
  | some (.arr _ sz _ _ l)=>if dh P e&&Nat.beq (aH P e) sz then (.ptr id n.toNat sz 0,0≤n∧n<l.length)else aR
  | some (.ro _ sz _ _ l)=>if dh P e&&Nat.beq (aH P e) sz then (.ptr id n.toNat sz 0,0≤n∧n<l.length)else aR
  | some (.arrD _ sz m _ _)=>if dh P e&&Nat.beq (aH P e) sz then (.ptr id n.toNat sz 0,0≤n∧n<(m:Int))else aR
  | _=>aR
 | some (.array len e),x,.v (.int _ n)=>if dh P e then (match vX (n.toNat*aH P e) x with | (y,p)=>(y,(0≤n∧n<(len:Int))∧p))else aR
 | _,_,_=>aR
def CY (P:Program) (t:TypeId) (x:D) (f:Nat):R1 :=
 match P.underlying t,x with
 | some (.struct fs),.agg cs=>match fs[f]? with
  | some fld=>dP P fld.type cs fld.offset
  | none=>aR
 | _,_=>aR
def CZ (P:Program) (t:TypeId) (x i:D):R1 :=
 match P.underlying t,x,i with
 | some (.array len e),.agg cs,.v (.int _ n)=>(match dP P e cs (n.toNat*aH P e)with | (y,p)=>(y,(0≤n∧n<(len:Int))∧p))
 | some .string,.v (.str s),.v (.int _ n)=>(.v (.int .u8 ((s[n.toNat]?).getD 0).toNat),0≤n∧n<s.size)
 | _,_,_=>aR
def Lc:D→Int
 | .v (.int _ n)=>n
 | _=>0
def C0:D→Bool
 | .v (.int _ _)=>true
 | _=>false
def qH:Option D→Int
 | some d=>Lc d
 | none=>0
def iT (n:Int):Option D→Int
 | some d=>Lc d
 | none=>n
def za:Option D→Bool
 | some d=>C0 d
 | none=>true
def zb {α:Type} (l:List α):Option D→List α
 | some h=>l.take (Lc h).toNat
 | none=>l
def zc (P:Program) (t:TypeId) (x:D) (lo hi mx:Option D):R1 :=
 match P.underlying t,x,lo,hi,mx with
 | some (.slice e),.v (.sl sz enc d l),none,some (.v (.int _ h)),some (.v (.int _ k))=>if dh P e&&Nat.beq (aH P e) sz then
   (.capd (.sl sz enc d (l.take h.toNat)),0≤h∧h≤l.length∧k=h)else aR
 | _,_,_,_,_=>aR
def tg:List V→Option (IntKind×List Int)
 | [.int k n]=>some (k,[n])
 | .int k n::r=>match tg r with
  | some (k',l)=>if k==k' then some (k,n::l)else none
  | none=>none
 | _=>none
def C2 (P:Program) (t:TypeId) (x:D) (lo hi mx:Option D):R1 :=
 if mx.isSome then zc P t x lo hi mx else
 if za lo&&za hi&&mx.isNone then
  match P.underlying t,x with
  | some (.slice e),.v (.sl sz enc d l)=>if dh P e&&Nat.beq (aH P e) sz then
    (.v (.sl sz enc d ((zb l hi).drop (qH lo).toNat)),0≤qH lo∧qH lo≤iT l.length hi∧iT l.length hi≤l.length)else aR
  | some .string,.v (.str s)=>(.v (.str (s.extract (qH lo).toNat (iT s.size hi).toNat)),0≤qH lo∧qH lo≤iT s.size hi∧iT s.size hi≤s.size)
  | some (.array n e),.iptr cs J'=>match tg cs with
   | some (k,l)=>if dh P e&&Nat.beq (aH P e) 1&&Nat.beq l.length n&&Nat.beq J' 0&&Nat.ble n maxLen then
     (.v (.sl 1 (fun x:Int=>[.int k x]) 0 ((zb l hi).drop (qH lo).toNat)),0≤qH lo∧qH lo≤iT l.length hi∧iT l.length hi≤l.length)else aR
   | none=>aR
  | _,_=>aR
 else aR
section
variable {P:Program} {S:Nat→Prop} {μ:Nat→Value} {w:World}
theorem rE {n:Nat} {x d:D} {p:Prop} {ux:Value} (hx:aq S μ w x ux) (hp:vX n x=(d,p)) (D':p) :
  ∃b o,ux=.pointer (some ⟨b,o,none⟩)∧aq S μ w d (.pointer (some ⟨b,o+n,none⟩)):=by
 unfold vX at hp
 split at hp
 ·rename_i id i sz J'
  obtain⟨b,hb,rfl⟩:=oM hx
  cases hp
  exact⟨b,_,rfl,by rw[Nat.add_assoc];exact .ptr _ _ _ _ _ hb⟩
 ·rename_i cs J'
  cases hp
  cases hx with
  | iptr _ _ b o us h1 h2 h3 h4=>exact⟨b,_,rfl,by rw[Nat.add_assoc];exact .iptr cs _ b o us h1 h2 h3 h4⟩
 ·cases hp;exact D'.elim
theorem th {s:TypeId} {x d:D} {f:Nat} {p:Prop} {ux:Value} (hx:aq S μ w x ux) (hp:qF P s x f=(d,p)) (D':p) :
  ∃u,(Instr.fieldAt s ux f).run P w=.ok u w∧aq S μ w d u:=by
 unfold qF at hp
 split at hp
 ·rename_i fs hu
  split at hp
  ·rename_i fld hf
   split at hp
   ·rename_i hc
    simp only[Uo,U2,UH]at hc
    obtain⟨hk,hz⟩:=hc
    have hz:aH P fld.type≠0:=by
     intro e
     rw[e]at hz
     cases hz
    obtain⟨b,o,rfl,hd⟩:=rE hx hp D'
    refine⟨_,?_,hd⟩
    have hr:(fieldPlace ⟨b,o,none⟩ fld).run P w=.ok ⟨b,o+fld.offset,none⟩ w:=by
     unfold fieldPlace
     simp only[Uv,eC hk,Uu]
     rw[Ur hz,UL,dY]
    simp only[Instr.fieldAt,Uv,UZ hu,Uu,hf,Instr.sureAddr,UL,hr]
   ·cases hp;exact D'.elim
  ·cases hp;exact D'.elim
 ·cases hp;exact D'.elim
theorem ib {sz:Nat} {α:Type} {enc:α→List V} {d:α} {l:List α} {u:Value} (h:eh S w (.sl sz enc d l) u) :
  ∃p c,u=.slice p l.length c∧l.length≤c∧c≤maxLen∧(p=none→c=0)∧(0<l.length→∃(b J':Nat) (us:Nat→Nat→Value),p=some ⟨b,J',none⟩∧S b∧b<w.heap.size ∧
   (∀(i:Nat) (x:α),l[i]?=some x→(enc x).length=sz) ∧
   (∀(i:Nat) (x:α) (j:Nat) (y:V),l[i]?=some x→(enc x)[j]?=some y→w.cell? ⟨b,J'+(i*sz+j),none⟩=some (us i j)) ∧
   (∀(i:Nat) (x:α) (j:Nat) (y:V),l[i]?=some x→(enc x)[j]?=some y→eh S w y (us i j))):=by
 generalize hv:V.sl sz enc d l=v at h
 cases h with
 | int k n=>cases hv
 | bool b=>cases hv
 | str s=>cases hv
 | mp=>cases hv
 | nilf=>cases hv
 | nsl=>cases hv
 | esl=>cases hv
 | smn=>cases hv
 | sm=>cases hv
 | nmp=>cases hv
 | fnv=>cases hv
 | nil W9 WF d' p c h1 h2 =>
  cases hv
  exact⟨p,c,rfl,Vs _,h1,h2,fun h=>absurd h (by simp)⟩
 | row W9 WF d' l' b J' c n us h1 h2 h3 h4 h5 h6 h7 h8 =>
  cases hv
  subst h3
  exact⟨_,c,rfl,h4,h5,(fun h=>by cases h),fun _=>⟨b,J',us,rfl,h1,h2,h6,h7,h8⟩⟩
theorem qI {sz:Nat} {α:Type} {enc:α→List V} {d:α} {l:List α} {p:Option Addr} {n c:Nat} (hn:n=l.length) (h1:l.length≤c) (h2:c≤maxLen) (h3:p=none→c=0)
  (h:0<l.length→∃(b J':Nat) (us:Nat→Nat→Value),p=some ⟨b,J',none⟩∧S b∧b<w.heap.size ∧
   (∀(i:Nat) (x:α),l[i]?=some x→(enc x).length=sz) ∧
   (∀(i:Nat) (x:α) (j:Nat) (y:V),l[i]?=some x→(enc x)[j]?=some y→w.cell? ⟨b,J'+(i*sz+j),none⟩=some (us i j)) ∧
   (∀(i:Nat) (x:α) (j:Nat) (y:V),l[i]?=some x→(enc x)[j]?=some y→eh S w y (us i j))):eh S w (.sl sz enc d l) (.slice p n c):=by
 subst hn
 cases l with
 | nil=>exact .nil sz enc d p c h2 h3
 | cons x l =>
  obtain⟨b,J',us,rfl,q1,q2,q3,q4,q5⟩:=h (by simp)
  exact .row sz enc d _ b J' c _ us q1 q2 rfl h1 h2 q3 q4 q5
theorem cN {E sz:Nat} {α:Type} {enc:α→List V} {d:α} {l:List α} {u:Value} (h:aN S μ w u (.arr E sz enc d l)) :
  ∃p c,u=.slice p l.length c∧l.length≤c∧c≤maxLen∧(p=none→c=0)∧(0<l.length→∃g,p=some ⟨g,0,none⟩):=by
 obtain⟨_,xs,⟨h1,h2⟩,_⟩:=h
 rcases h2 with ⟨rfl,hl⟩ | ⟨g,cap,W1,rfl,hg,hh,q1,q2,_⟩
 ·exact⟨none,0,by rw[hl],by omega,by simp[maxLen],fun _=>rfl,fun h=>by omega⟩
 ·exact⟨_,cap,rfl,q1,q2,(fun h=>by cases h),fun _=>⟨g,rfl⟩⟩
theorem gH {E sz n:Nat} {gs:List Nat} {cell:Nat→Nat→D} {u:Value} (h:aN S μ w u (.arrD E sz n gs cell)) :
  ∃p c,u=.slice p n c∧n≤c∧c≤maxLen∧(p=none→c=0)∧(0<n→∃g,p=some ⟨g,0,none⟩):=by
 obtain⟨_,xs,⟨h1,h2⟩,_⟩:=h
 rcases h2 with ⟨rfl,hl⟩ | ⟨g,cap,W1,rfl,hg,hh,q1,q2,_⟩
 ·exact⟨none,0,by rw[hl],by omega,by simp[maxLen],fun _=>rfl,fun h=>by omega⟩
 ·exact⟨_,cap,rfl,q1,q2,(fun h=>by cases h),fun _=>⟨g,rfl⟩⟩
theorem b6 {k:IntKind} {n:Int} {u:Value} (h:aq S μ w (.v (.int k n)) u):u=.int k n:=by
 cases h with | v _ _ h=>cases h;rfl
theorem f9 {b:Bool} {u:Value} (h:aq S μ w (.v (.bool b)) u):u=.bool b:=by
 cases h with | v _ _ h=>cases h;rfl
theorem ga {s:ByteArray} {u:Value} (h:aq S μ w (.v (.str s)) u):u=.string s:=by
 cases h with | v _ _ h=>cases h;rfl
theorem bL {x:V} {u:Value} (h:aq S μ w (.v x) u):eh S w x u:=by
 cases h with | v _ _ h=>exact h
theorem cj {id:Nat} {u:Value} (h:aq S μ w (.own id) u):u=μ id:=by
 cases h;rfl
theorem gb {t e:TypeId} {p:Addr} {len c:Nat} {k:IntKind} {n:Int} (hu:P.underlying t=some (.slice e)) (hk:dh P e=true) (h0:0≤n) (h1:n<len) :
  (Instr.indexAt t (.slice (some p) len c) (.int k n)).run P w=.ok (.pointer (some (p.add (n.toNat*aH P e)))) w:=by
 unfold Instr.indexAt
 simp only[asIntOf,Uv,UL,Uu,UZ hu]
 rw[Uw ⟨h0,h1⟩]
 simp only[Uv,eC hk,Uu,UL]
theorem u1 {t e:TypeId} {p:Addr} {len:Nat} {k:IntKind} {n:Int} (hu:P.underlying t=some (.array len e)) (hk:dh P e=true) (h0:0≤n) (h1:n<len) :
  (Instr.indexAt t (.pointer (some p)) (.int k n)).run P w=.ok (.pointer (some (p.add (n.toNat*aH P e)))) w:=by
 unfold Instr.indexAt
 simp only[asIntOf,Uv,UL,Uu,UZ hu,Instr.sureAddr]
 rw[Uw ⟨h0,h1⟩]
 simp only[Uv,eC hk,Uu,UL]
theorem ti {t:TypeId} {H:List aC} (hH:bz S μ w H) {x i d:D} {p:Prop} {ux ui:Value} (hx:aq S μ w x ux) (hi:aq S μ w i ui) (hp:qG P t H x i=(d,p)) (D':p) :
  ∃u,(Instr.indexAt t ux ui).run P w=.ok u w∧aq S μ w d u:=by
 unfold qG at hp
 split at hp
 ·rename_i e sz α enc d' l k n hu
  split at hp
  ·rename_i hc
   simp only[Uo,UH]at hc
   obtain⟨hk,rfl⟩:=hc
   simp only[Ux]at hp
   obtain⟨rfl,rfl⟩:=hp
   obtain⟨h0,h1⟩:=D'
   rw[b6 hi]
   obtain⟨q,c,rfl,q1,q2,q3,q4⟩:=ib (bL hx)
   obtain⟨b,J',us,rfl,r1,r2,r3,r4,r5⟩:=q4 (by omega)
   refine⟨_,gb hu hk h0 (by omega),?_⟩
   have hl:l[n.toNat]?=some (l.getD n.toNat d'):=by rw[bJ _ _ (by omega)];exact Uq (by omega)
   rw[dY]
   have:=aq.iptr (S:=S) (μ:=μ) (w:=w) (enc (l.getD n.toNat d')) 0 b (J'+n.toNat*aH P e) (us n.toNat) r1 r2 (fun j y hy=>by rw[Nat.add_assoc];exact r4 _ _ _ _ hl hy) (fun j y hy=>r5 _ _ _ _ hl hy)
   rwa [VM]at this
  ·cases hp;exact D'.elim
 ·rename_i e id k n hu
  split at hp
  ·rename_i E sz α enc d' l I'
   split at hp
   ·rename_i hc
    simp only[Uo,UH]at hc
    obtain⟨hk,rfl⟩:=hc
    simp only[Ux]at hp
    obtain⟨rfl,rfl⟩:=hp
    obtain⟨h0,h1⟩:=D'
    rw[b6 hi,cj hx]
    obtain⟨q,c,hm,q1,q2,q3,q4⟩:=cN (hH.box id _ I')
    obtain⟨g,rfl⟩:=q4 (by omega)
    rw[hm]
    refine⟨_,gb hu hk h0 (by omega),?_⟩
    rw[dY,U5]
    have:=aq.ptr (S:=S) (w:=w) id n.toNat (aH P e) 0 g (by rw[hm];rfl:aO (μ id)=some g)
    rwa [VM]at this
   ·cases hp;exact D'.elim
  ·rename_i E sz α enc d' l I'
   split at hp
   ·rename_i hc
    simp only[Uo,UH]at hc
    obtain⟨hk,rfl⟩:=hc
    simp only[Ux]at hp
    obtain⟨rfl,rfl⟩:=hp
    obtain⟨h0,h1⟩:=D'
    rw[b6 hi,cj hx]
    obtain⟨q,c,hm,q1,q2,q3,q4⟩:=cN (hH.box id _ I').ro_arr
    obtain⟨g,rfl⟩:=q4 (by omega)
    rw[hm]
    refine⟨_,gb hu hk h0 (by omega),?_⟩
    rw[dY,U5]
    have:=aq.ptr (S:=S) (w:=w) id n.toNat (aH P e) 0 g (by rw[hm];rfl:aO (μ id)=some g)
    rwa [VM]at this
   ·cases hp;exact D'.elim
  ·rename_i E sz m gs cell I'
   split at hp
   ·rename_i hc
    simp only[Uo,UH]at hc
    obtain⟨hk,rfl⟩:=hc
    simp only[Ux]at hp
    obtain⟨rfl,rfl⟩:=hp
    obtain⟨h0,h1⟩:=D'
    rw[b6 hi,cj hx]
    obtain⟨q,c,hm,q1,q2,q3,q4⟩:=gH (hH.box id _ I')
    obtain⟨g,rfl⟩:=q4 (by omega)
    rw[hm]
    refine⟨_,gb hu hk h0 (by omega),?_⟩
    rw[dY,U5]
    have:=aq.ptr (S:=S) (w:=w) id n.toNat (aH P e) 0 g (by rw[hm];rfl:aO (μ id)=some g)
    rwa [VM]at this
   ·cases hp;exact D'.elim
  ·cases hp;exact D'.elim
 ·rename_i x _ _ _ len e k n hu
  split at hp
  ·rename_i hk
   generalize hq:vX (n.toNat*aH P e) x=q at hp
   obtain⟨y,p'⟩:=q
   simp only[Ux]at hp
   obtain⟨rfl,rfl⟩:=hp
   obtain⟨⟨h0,h1⟩,D'⟩:=D'
   obtain⟨b,o,rfl,hd⟩:=rE hx hq D'
   rw[b6 hi]
   exact⟨_,u1 hu hk h0 (by omega),by rw[dY];exact hd⟩
  ·cases hp;exact D'.elim
 ·cases hp;exact D'.elim
theorem il {t:TypeId} {cs:List D} {us:Array Value} {J':Nat} {d:D} {p:Prop} (hs:us.size=cs.length) (h:∀(j:Nat) (y:D) (u:Value),cs[j]?=some y→us[j]?=some u→aq S μ w y u)
  (hp:dP P t cs J'=(d,p)) (D':p):∃u,(part t us J').run P w=.ok u w∧aq S μ w d u:=by
 unfold dP at hp
 split at hp
 ·rename_i hc
  simp only[Uo,U3,Vv,UH]at hc
  obtain⟨⟨hk,hl⟩,hz⟩:=hc
  simp only[Ux]at hp
  obtain⟨rfl,_⟩:=hp
  unfold part
  simp only[Uv,xE hk,Uu]
  cases ha:xD P t
  ·simp only[Vi,V2]
   rw[ha]at hz
   have WN:aH P t=1:=by simpa using hz
   have WL:J'<cs.length:=by omega
   have hu:us[J']?=some us[J']:=UM (by omega)
   refine⟨us[J'],by rw[hu];rfl,?_⟩
   rw[bJ _ _ WL]
   exact h J' _ _ (Uq WL) hu
  ·simp only[V5]
   refine⟨.agg (us.extract J' (J'+aH P t)),by simp only[Uv,eC hk,Uu,UL],.agg _ _ ?_ (fun j y u hy hu=>?_)⟩
   ·simp;omega
   ·rw[UP]at hy
    split at hy
    ·rename_i hj
     rw[VB]at hy
     rw[Array.getElem?_extract,Uw (by omega)]at hu
     exact h _ _ _ hy hu
    ·cases hy
 ·simp only[aR,Ux]at hp
  obtain⟨_,rfl⟩:=hp
  exact D'.elim
theorem eO {cs:List D} {u:Value} (h:aq S μ w (.agg cs) u):∃us:Array Value,u=.agg us∧us.size=cs.length∧∀(j:Nat) (y:D) (u:Value),cs[j]?=some y→us[j]?=some u→aq S μ w y u:=by
 cases h with | agg _ us h1 h2=>exact⟨us,rfl,h1,h2⟩
theorem vf {cs:List D} {u:Value} (h:aq S μ w (.tup cs) u):∃us:Array Value,u=.tuple us∧us.size=cs.length∧∀(j:Nat) (y:D) (u:Value),cs[j]?=some y→us[j]?=some u→aq S μ w y u:=by
 cases h with | tup _ us h1 h2=>exact⟨us,rfl,h1,h2⟩
theorem zd {t:TypeId} {x d:D} {f:Nat} {p:Prop} {ux:Value} (hx:aq S μ w x ux) (hp:CY P t x f=(d,p)) (D':p) :
  ∃u,(Instr.field t ux f).run P w=.ok u w∧aq S μ w d u:=by
 unfold CY at hp
 split at hp
 ·rename_i fs cs hu
  split at hp
  ·rename_i fld hf
   obtain⟨us,rfl,h1,h2⟩:=eO hx
   obtain⟨u,h3,h4⟩:=il (P:=P) h1 h2 hp D'
   exact⟨u,by simp only[Instr.field,Uv,UZ hu,Uu,hf,asAgg,UL,h3],h4⟩
  ·cases hp;exact D'.elim
 ·cases hp;exact D'.elim
theorem ze {t:TypeId} {x i d:D} {p:Prop} {ux ui:Value} (hx:aq S μ w x ux) (hi:aq S μ w i ui) (hp:CZ P t x i=(d,p)) (D':p) :
  ∃u,(Instr.index t ux ui).run P w=.ok u w∧aq S μ w d u:=by
 unfold CZ at hp
 split at hp
 ·rename_i len e cs k n hu
  generalize hq:dP P e cs (n.toNat*aH P e)=q at hp
  obtain⟨y,p'⟩:=q
  simp only[Ux]at hp
  obtain⟨rfl,rfl⟩:=hp
  obtain⟨⟨h0,h1⟩,D'⟩:=D'
  rw[b6 hi]
  obtain⟨us,rfl,h2,h3⟩:=eO hx
  have hk:dh P e=true:=by
   unfold dP at hq
   split at hq
   ·rename_i hc
    simp only[Uo]at hc
    exact hc.1.1
   ·cases hq;exact D'.elim
  obtain⟨u,h4,h5⟩:=il (P:=P) h2 h3 hq D'
  refine⟨u,?_,h5⟩
  unfold Instr.index
  simp only[asIntOf,Uv,UL,Uu,UZ hu]
  rw[Uw ⟨h0,h1⟩]
  simp only[Uv,eC hk,Uu,h4]
 ·rename_i s k n hu
  simp only[Ux]at hp
  obtain⟨rfl,rfl⟩:=hp
  obtain⟨h0,h1⟩:=D'
  rw[b6 hi,ga hx]
  have hn:n.toNat<s.size:=by omega
  have hs:s[n.toNat]?=some s[n.toNat]:=by simp[hn]
  refine⟨.int .u8 (s[n.toNat]).toNat,?_,?_⟩
  ·unfold Instr.index
   simp only[asIntOf,Uv,UL,Uu,UZ hu]
   rw[Uw h0,hs]
   rfl
  ·rw[hs]
   exact .v _ _ (.int _ _)
 ·cases hp;exact D'.elim
end
def C3 (op:BinOp) (k:IntKind) (a b:Int):R1 :=
 match op with
 | .add=>(.v (.int k (k.wrap (a+b))),True)
 | .sub=>(.v (.int k (k.wrap (a-b))),True)
 | .mul=>(.v (.int k (k.wrap (a*b))),True)
 | .quo=>(.v (.int k (k.wrap (a.tdiv b))),b≠0)
 | .rem=>(.v (.int k (a.tmod b)),b≠0)
 | .and=>(.v (.int k (k.wrap (BitVec.ofInt k.bits a &&& BitVec.ofInt k.bits b).toNat)),True)
 | .or=>(.v (.int k (k.wrap (BitVec.ofInt k.bits a ||| BitVec.ofInt k.bits b).toNat)),True)
 | .xor=>(.v (.int k (k.wrap (BitVec.ofInt k.bits a ^^^ BitVec.ofInt k.bits b).toNat)),True)
 | .andNot=>(.v (.int k (k.wrap (BitVec.ofInt k.bits a &&& ~~~(BitVec.ofInt k.bits b)).toNat)),True)
 | .eql=>(.v (.bool (a==b)),True)
 | .neq=>(.v (.bool (a != b)),True)
 | .lss=>(.v (.bool (decide (a<b))),True)
 | .leq=>(.v (.bool (decide (a≤b))),True)
 | .gtr=>(.v (.bool (decide (a>b))),True)
 | .geq=>(.v (.bool (decide (a≥b))),True)
 | _=>aR
def EF:BinOp→Bool | .shl=>true | .shr=>true | _=>false
def C4 (op:BinOp) (k:IntKind) (a b:Int):R1 :=
 match op with
 | .shl=>(.v (.int k (k.wrap (a*2^min b.toNat k.bits))),0≤b)
 | .shr=>(.v (.int k (a.fdiv (2^min b.toNat k.bits))),0≤b)
 | _=>aR
def NO (op:BinOp) (x y:ByteArray):R1 :=
 match op with
 | .add=>(.v (.str (x++y)),((x.size+y.size:Nat):Int)≤IntKind.i64.max)
 | .eql=>(.v (.bool (x.toList==y.toList)),True)
 | .neq=>(.v (.bool (!(x.toList==y.toList))),True)
 | _=>aR
def H7:Option TypeDesc→D→D→Option Bool
 | some (.int _),.v (.int k a),.v (.int k' b)=>if k==k' then some (a==b)else none
 | some .bool,.v (.bool a),.v (.bool b)=>some (a==b)
 | some .string,.v (.str a),.v (.str b)=>some (a.toList==b.toList)
 | _,_,_=>none
def vg (P:Program) (xs ys:List D) (f:Field):Option Bool :=
 if f.name ≠ "_" then H7 (P.underlying f.type) (dP P f.type xs f.offset).1 (dP P f.type ys f.offset).1 else none
def nw (P:Program) (xs ys:List D):List Field→Option Bool
 | []=>some true
 | [f]=>vg P xs ys f
 | f::fs=>match vg P xs ys f,nw P xs ys fs with
  | some a,some b=>some (a&&b)
  | _,_=>none
def xF (P:Program) (t:TypeId):Bool:=match P.underlying t with | some (.struct _)=>true | _=>false
def M5 (P:Program) (op:BinOp) (t:TypeId) (xs ys:List D):R1 :=
 if !P.stoodInHeld t&&!P.eqGuardType P.depth t&&xF P t then
  match nw P xs ys (P.fieldsOf t).toList,op with
  | some b,.eql=>(.v (.bool b),True)
  | some b,.neq=>(.v (.bool (!b)),True)
  | _,_=>aR
 else aR
def H8:D→Option (Bool×Prop)
 | .nils=>some (true,True)
 | .v .nsl=>some (true,True)
 | .v .esl=>some (false,True)
 | .v (.sl _ _ _ l)=>some (false,l≠[])
 | _=>none
def C5:D→Option Bool
 | .v .nilf=>some true
 | .fn _ _ _=>some false
 | _=>none
def vY (P:Program) (t:TypeId):Bool:=match P.underlying t with | some (.slice _)=>true | _=>false
def zf (P:Program) (t:TypeId):Bool:=match P.underlying t with | some (.func _ _ _)=>true | _=>false
def AZ (op:BinOp) (b:Bool) (p:Prop):R1:=match op with
 | .eql=>(.v (.bool b),p)
 | .neq=>(.v (.bool (!b)),p)
 | _=>aR
def NP (P:Program) (op:BinOp) (t:TypeId) (x y:D):R1 :=
 match x,y with
 | .v (.int k a),.v (.int k' b)=>if EF op then C4 op k a b else if k==k' then C3 op k a b else aR
 | .v (.str a),.v (.str b)=>NO op a b
 | .v (.bool a),.v (.bool b)=>match P.underlying t with
  | some .bool=>(match op with | .eql=>(.v (.bool (a==b)),True) | .neq=>(.v (.bool (!(a==b))),True) | _=>aR)
  | _=>aR
 | .agg xs,.agg ys=>M5 P op t xs ys
 | x,.nils=>match H8 x with
  | some (b,p)=>if vY P t then AZ op b p else aR
  | none=>aR
 | x,.v .nilf=>match C5 x with
  | some b=>if zf P t then AZ op b True else aR
  | none=>aR
 | _,_=>aR
def Rq (op:UnOp) (x:D):R1 :=
 match op,x with
 | .neg,.v (.int k n)=>(.v (.int k (k.wrap (0-n))),True)
 | .xor,.v (.int k n)=>(.v (.int k (k.wrap (BitVec.ofInt k.bits (if k.signed then -1 else k.max) ^^^ BitVec.ofInt k.bits n).toNat)),True)
 | .not,.v (.bool b)=>(.v (.bool (!b)),True)
 | _,_=>aR
def H9 (P:Program) (src dst:TypeId) (x:D):R1 :=
 if dh P src then
  match P.underlying dst,x with
  | some (.int k),.v (.int _ n)=>(match P.underlying src with | some .string=>aR | _=>(.v (.int k (k.wrap n)),True))
  | some .string,.v (.str s)=>(.v (.str s),True)
  | _,_=>aR
 else aR
def NQ (P:Program) (t:TypeId) (H:List aC) (x:D):R1 :=
 match P.underlying t,x with
 | some .string,.v (.str s)=>(.v (.int .i64 (s.size:Int)),True)
 | some (.array n _),_=>(.v (.int .i64 (n:Int)),True)
 | some (.slice _),.v (.sl _ _ _ l)=>(.v (.int .i64 (l.length:Int)),True)
 | some (.slice _),.nils=>(.v (.int .i64 0),True)
 | some (.slice _),.v .nsl=>(.v (.int .i64 0),True)
 | some (.slice _),.v .esl=>(.v (.int .i64 0),True)
 | some (.slice _),.own id=>match H[id]? with
  | some (.arr _ _ _ _ l)=>(.v (.int .i64 (l.length:Int)),True)
  | some (.ro _ _ _ _ l)=>(.v (.int .i64 (l.length:Int)),True)
  | some (.arrD _ _ m _ _)=>(.v (.int .i64 (m:Int)),True)
  | _=>aR
 | _,_=>aR
def A1 (x y:Int):Int:=if y<x then y else x
def NR (x y:Int):Int:=if y>x then y else x
section
variable {P:Program} {S:Nat→Prop} {μ:Nat→Value} {w:World}
def Ri (n:Nat) (hi:Option Value) (h:Nat):Prop:=match hi with | none=>h=n | some v=>∃k,v=.int k h
def PL (lo:Option Value) (l:Nat):Prop:=match lo with | none=>l=0 | some v=>∃k,v=.int k l
theorem iK {is:Bool} {n c l h:Nat} {lo hi:Option Value} (hh:Ri n hi h) (hl:PL lo l) (h1:l≤h) (h2:h≤c) :
  (Instr.sliceBounds is n c lo hi none).run P w=.ok (l,h,c) w:=by
 have sb:∀(k:IntKind) (x y:Nat) (ZH:BoundsCode),x≤y→(Instr.sliceBound (.int k (x:Int)) y ZH).run P w=.ok x w:=by
  intro k x y ZH Y3
  unfold Instr.sliceBound
  simp only[asIntOf,Uv,UL,Uu]
  rw[Uw ⟨by omega,by omega⟩]
  simp
 unfold Instr.sliceBounds
 cases hi with
 | none =>
  simp only[Ri]at hh
  subst hh
  cases lo with
  | none =>
   simp only[PL]at hl
   subst hl
   simp[Uv]
  | some v =>
   obtain⟨k,rfl⟩:=hl
   simp[Uv,sb _ _ _ _ h1]
 | some v =>
  obtain⟨k,rfl⟩:=hh
  cases lo with
  | none =>
   simp only[PL]at hl
   subst hl
   simp[Uv,sb _ _ _ _ h2]
  | some v =>
   obtain⟨k,rfl⟩:=hl
   simp[Uv,sb _ _ _ _ h2,sb _ _ _ _ h1]
def rF (S:Nat→Prop) (μ:Nat→Value) (w:World):Option D→Option Value→Prop
 | none,none=>True
 | some d,some u=>aq S μ w d u
 | _,_=>False
theorem vZ {d:D} (h:C0 d=true):∃k n,d=.v (.int k n)∧Lc d=n:=by
 unfold C0 at h
 split at h
 ·exact⟨_,_,rfl,rfl⟩
 ·cases h
theorem C6 {lo:Option D} {ul:Option Value} (h:rF S μ w lo ul) (hi:za lo=true) (h0:0≤qH lo):PL ul (qH lo).toNat:=by
 cases lo with
 | none=>cases ul with
  | none=>simp[PL,qH]
  | some _=>exact h.elim
 | some d=>cases ul with
  | none=>exact h.elim
  | some u =>
   obtain⟨k,n,rfl,hn⟩:=vZ hi
   simp only[qH]at h0 ⊢
   rw[hn]at h0 ⊢
   rw[b6 h]
   exact⟨k,by rw[Int.toNat_of_nonneg h0]⟩
theorem C7 {hi:Option D} {uh:Option Value} {n:Nat} (h:rF S μ w hi uh) (Xz:za hi=true) (h0:0≤iT n hi):Ri n uh (iT n hi).toNat:=by
 cases hi with
 | none=>cases uh with
  | none=>simp[Ri,iT]
  | some _=>exact h.elim
 | some d=>cases uh with
  | none=>exact h.elim
  | some u =>
   obtain⟨k,m,rfl,hn⟩:=vZ Xz
   simp only[iT]at h0 ⊢
   rw[hn]at h0 ⊢
   rw[b6 h]
   exact⟨k,by rw[Int.toNat_of_nonneg h0]⟩
theorem xG {α:Type} (l:List α) (hi:Option D) (h:iT l.length hi≤l.length):zb l hi=l.take (iT l.length hi).toNat:=by
 cases hi with
 | none=>simp[zb,iT]
 | some d=>rfl
theorem xm {t:TypeId} {x d:D} {lo hi mx:Option D} {p:Prop} {ux:Value} {ul uh um:Option Value} (hx:aq S μ w x ux) (hl:rF S μ w lo ul) (hh:rF S μ w hi uh) (hm:rF S μ w mx um)
  (hp:zc P t x lo hi mx=(d,p)) (D':p):∃u,(Instr.sliceAt t ux ul uh um).run P w=.ok u w∧aq S μ w d u:=by
 unfold zc at hp
 split at hp
 ·rename_i e sz α enc d' l k1 h' k2 h hu
  split at hp
  ·rename_i hc
   simp only[Uo,UH]at hc
   obtain⟨hk,rfl⟩:=hc
   simp only[Ux]at hp
   obtain⟨rfl,rfl⟩:=hp
   obtain⟨h0,h1,rfl⟩:=D'
   obtain⟨q,c,rfl,q1,q2,q3,q4⟩:=ib (bL hx)
   have hul:ul=none:=by cases ul with | none=>rfl | some _=>exact hl.elim
   subst hul
   cases uh with
   | none=>exact hh.elim
   | some vh =>
    cases um with
    | none=>exact hm.elim
    | some vm =>
     have ev:vh=.int k1 h:=by
      have:=bL hh
      cases this
      rfl
     have em:vm=.int k2 h:=by
      have:=bL hm
      cases this
      rfl
     subst ev em
     have sb:∀(k:IntKind) (y:Nat) (ZH:BoundsCode),h.toNat≤y→(Instr.sliceBound (.int k h) y ZH).run P w=.ok h.toNat w:=by
      intro k y ZH Y3
      unfold Instr.sliceBound
      simp only[asIntOf,Uv,UL,Uu]
      rw[Uw ⟨by omega,by omega⟩]
      simp
     have hr:(Instr.sliceBounds true l.length c none (some (.int k1 h)) (some (.int k2 h))).run P w=.ok (0,h.toNat,h.toNat) w:=by
      unfold Instr.sliceBounds
      simp[Uv,sb k2 c _ (by omega),sb k1 h.toNat _ (Ut _)]
     refine⟨.slice (if h.toNat=0 then q else q.map (·.add (0*aH P e))) h.toNat h.toNat,?_,.capd _ _ _ (qI ?_ (by rw[UG];omega) (by omega) ?_ (fun ZL=>?_))⟩
     ·unfold Instr.sliceAt
      simp only[Uv,UZ hu,Uu]
      unfold Instr.slice
      simp only[Uv,UZ hu,Uu,hr,eC hk,UL,Nat.sub_zero]
     ·rw[UG];omega
     ·intro hn
      by_cases hca:h.toNat=0
      ·exact hca
      ·rw[Ur hca]at hn
       have:=q3 (by simpa using hn)
       omega
     ·rw[UG]at ZL
      obtain⟨bb,J',us,rfl,r1,r2,r3,r4,r5⟩:=q4 (by omega)
      have W7:∀(i:Nat) (x:α),(l.take h.toNat)[i]?=some x→l[i]?=some x:=by
       intro i x hx
       rw[UP]at hx
       split at hx
       ·exact hx
       ·cases hx
      refine⟨bb,J',us,?_,r1,r2,fun i x hx=>r3 _ x (W7 i x hx),fun i x j y hx hy=>r4 _ x j y (W7 i x hx) hy,fun i x j y hx hy=>r5 _ x j y (W7 i x hx) hy⟩
      rw[Ur (by omega)]
      simp[dY]
  ·cases hp;exact D'.elim
 ·cases hp;exact D'.elim
theorem EG:∀{cs:List V} {k:IntKind} {l:List Int},tg cs=some (k,l)→cs=l.map (fun x=>.int k x)
 | [],k,l,h=>by simp[tg]at h
 | [.int k0 n],k,l,h=>by simp[tg]at h;obtain⟨rfl,rfl⟩:=h;rfl
 | .int k0 n::y::r,k,l,h=>by
  unfold tg at h
  ·split at h
   ·rename_i k' l' hr
    split at h
    ·rename_i hk
     have hk:k0=k':=by simpa using hk
     cases h
     have:=EG hr
     subst hk
     rw[this];rfl
    ·cases h
   ·cases h
 | .bool _::_,_,_,h=>by simp[tg]at h
 | .str _::_,_,_,h=>by simp[tg]at h
 | .sl _ _ _ _::_,_,_,h=>by simp[tg]at h
 | .mp _::_,_,_,h=>by simp[tg]at h
 | .nilf::_,_,_,h=>by simp[tg]at h
 | .nsl::_,_,_,h=>by simp[tg]at h
 | .esl::_,_,_,h=>by simp[tg]at h
theorem zg {t:TypeId} {x d:D} {lo hi mx:Option D} {p:Prop} {ux:Value} {ul uh um:Option Value} (hx:aq S μ w x ux) (hl:rF S μ w lo ul) (hh:rF S μ w hi uh) (hm:rF S μ w mx um)
  (hp:C2 P t x lo hi mx=(d,p)) (D':p):∃u,(Instr.sliceAt t ux ul uh um).run P w=.ok u w∧aq S μ w d u:=by
 unfold C2 at hp
 split at hp
 ·exact xm hx hl hh hm hp D'
 split at hp
 ·rename_i hc
  simp only[Uo]at hc
  obtain⟨⟨c1,c2⟩,c3⟩:=hc
  have hmx:mx=none:=by simpa using c3
  subst hmx
  have hum:um=none:=by cases um with | none=>rfl | some _=>exact hm.elim
  subst hum
  split at hp
  ·rename_i e sz α enc d' l hu
   split at hp
   ·rename_i hc
    simp only[Uo,UH]at hc
    obtain⟨hk,rfl⟩:=hc
    simp only[Ux]at hp
    obtain⟨rfl,rfl⟩:=hp
    obtain⟨h0,h1,h2⟩:=D'
    obtain⟨q,c,rfl,q1,q2,q3,q4⟩:=ib (bL hx)
    have hr:=iK (P:=P) (w:=w) (is:=true) (c:=c) (C7 (n:=l.length) hh c2 (by omega)) (C6 hl c1 h0) (by omega) (by omega)
    rw[xG _ _ h2]
    generalize hLo:(qH lo).toNat=a at *
    generalize hHi:(iT l.length hi).toNat=b at *
    have hab:a≤b:=by omega
    have hbl:b≤l.length:=by omega
    refine⟨.slice (if c=a then q else q.map (·.add (a*aH P e))) (b-a) (c-a),?_,.v _ _ (qI ?_ ?_ (by omega) ?_ (fun ZL=>?_))⟩
    ·unfold Instr.sliceAt
     simp only[Uv,UZ hu,Uu]
     unfold Instr.slice
     simp only[Uv,UZ hu,Uu,hr,eC hk,UL]
    ·rw[UW,UG];omega
    ·rw[UW,UG];omega
    ·intro hn
     by_cases hca:c=a
     ·omega
     ·rw[Ur hca]at hn
      have:=q3 (by simpa using hn)
      omega
    ·rw[UW,UG]at ZL
     obtain⟨bb,J',us,rfl,r1,r2,r3,r4,r5⟩:=q4 (by omega)
     have W7:∀(i:Nat) (x:α),((l.take b).drop a)[i]?=some x→l[a+i]?=some x:=by
      intro i x hx
      rw[VB,UP]at hx
      split at hx
      ·exact hx
      ·cases hx
     refine⟨bb,J'+a*aH P e,fun i j=>us (a+i) j,?_,r1,r2,fun i x hx=>r3 _ x (W7 i x hx),fun i x j y hx hy=>?_,fun i x j y hx hy=>r5 _ x j y (W7 i x hx) hy⟩
     ·rw[Ur (by omega)]
      simp[dY]
     ·have:=r4 (a+i) x j y (W7 i x hx) hy
      rw[← this]
      congr 2
      rw[Wy]
      omega
   ·cases hp;exact D'.elim
  ·rename_i s hu
   simp only[Ux]at hp
   obtain⟨rfl,rfl⟩:=hp
   obtain⟨h0,h1,h2⟩:=D'
   rw[ga hx]
   have hr:=iK (P:=P) (w:=w) (is:=false) (c:=s.size) (C7 (n:=s.size) hh c2 (by omega)) (C6 hl c1 h0) (by omega) (by omega)
   refine⟨_,?_,.v _ _ (.str _)⟩
   unfold Instr.sliceAt
   simp only[Uv,UZ hu,Uu]
   unfold Instr.slice
   simp only[Uv,UZ hu,Uu,hr,Option.isSome_none,Vi,V2,UL]
  ·rename_i n e cs J' hu
   split at hp
   ·rename_i k l W0
    split at hp
    ·rename_i hc
     simp only[Uo,UH,Vv]at hc
     obtain⟨⟨⟨⟨hk,WE⟩,hln⟩,rfl⟩,hmx⟩:=hc
     simp only[Ux]at hp
     obtain⟨rfl,rfl⟩:=hp
     obtain⟨h0,h1,h2⟩:=D'
     have hcs:=EG W0
     subst hcs
     subst hln
     obtain⟨b,o,rfl,q2⟩:∃b o,ux=.pointer (some ⟨b,o+0,none⟩)∧aq S μ w (.iptr (l.map (fun x=>.int k x)) 0) ux:=by
      cases hx with
      | iptr _ _ b o us g1 g2 g3 g4=>exact⟨b,o,rfl,.iptr _ _ b o us g1 g2 g3 g4⟩
     have hr:=iK (P:=P) (w:=w) (is:=false) (c:=l.length) (C7 (n:=l.length) hh c2 (by omega)) (C6 hl c1 h0) (by omega) (by omega)
     rw[xG _ _ h2]
     generalize hLo:(qH lo).toNat=a at *
     generalize hHi:(iT l.length hi).toNat=c at *
     have hab:a≤c:=by omega
     have hbl:c≤l.length:=by omega
     have hq:∃(b' o':Nat) (us:Nat→Value),(⟨b,o+0,none⟩:Addr)=⟨b',o'+0,none⟩∧S b'∧b'<w.heap.size∧(∀(j:Nat) (y:V),(l.map (fun x=>V.int k x))[j]?=some y→w.cell? ⟨b',o'+j,none⟩=some (us j))∧(∀(j:Nat) (y:V),(l.map (fun x=>V.int k x))[j]?=some y→eh S w y (us j)):=by
      generalize hd:D.iptr (l.map (fun x=>.int k x)) 0=dd at q2
      generalize hv:Value.pointer (some ⟨b,o+0,none⟩)=vv at q2
      cases q2 with
      | iptr cs' off' b' o' us g1 g2 g3 g4 =>
       cases hd
       simp only[Value.pointer.injEq,UA]at hv
       exact⟨b',o',us,hv,g1,g2,g3,g4⟩
      | _=>cases hd
     obtain⟨b',o',us,he,g1,g2,g3,g4⟩:=hq
     rw[he]
     refine⟨.slice (some (if l.length=a then ⟨b',o'+0,none⟩else (⟨b',o'+0,none⟩:Addr).add (a*aH P e))) (c-a) (l.length-a),?_,.v _ _ (qI ?_ ?_ (by omega) (by intro h;cases h) (fun ZL=>?_))⟩
     ·unfold Instr.sliceAt
      simp only[Uv,UZ hu,Uu,Instr.sureAddr,UL,hr,eC hk]
     ·rw[UW,UG];omega
     ·rw[UW,UG];omega
     ·rw[UW,UG]at ZL
      have W7:∀(i:Nat) (x:Int),((l.take c).drop a)[i]?=some x→l[a+i]?=some x:=by
       intro i x hx
       rw[VB,UP]at hx
       split at hx
       ·exact hx
       ·cases hx
      refine⟨b',o'+a,fun i j=>us (a+i),?_,g1,g2,fun i x _=>rfl,fun i x j y hx hy=>?_,fun i x j y hx hy=>?_⟩
      ·rw[Ur (by omega),WE]
       simp[dY]
      ·have hj:j=0∧y=.int k x:=by
        cases j with
        | zero=>exact⟨rfl,by simpa using hy.symm⟩
        | succ j=>simp at hy
       obtain⟨rfl,rfl⟩:=hj
       have:=g3 (a+i) (.int k x) (by rw[UJ,W7 i x hx];rfl)
       rw[← this]
       congr 2
       omega
      ·have hj:y=.int k x:=by
        cases j with
        | zero=>simpa using hy.symm
        | succ j=>simp at hy
       subst hj
       exact g4 (a+i) _ (by rw[UJ,W7 i x hx];rfl)
    ·cases hp;exact D'.elim
   ·cases hp;exact D'.elim
  ·cases hp;exact D'.elim
 ·cases hp;exact D'.elim
theorem GM {op:BinOp} {k:IntKind} {a b:Int} {d:D} {p:Prop} (hs:EF op=false) (hp:C3 op k a b=(d,p)) (D':p) (t:TypeId) :
  ∃u,(binOp op t (.int k a) (.int k b)).run P w=.ok u w∧aq S μ w d u:=by
 unfold C3 at hp
 cases op<;>simp only[aR,Ux]at hp<;>obtain⟨rfl,rfl⟩:=hp <;>
  first
  | exact D'.elim
  | (refine⟨_,?_,.v _ _ (.int _ _)⟩;simp only[binOp,Op.intArith,Op.intDiv,Op.intBits,ne_eq,not_true_eq_false,V2,UL];done)
  | (refine⟨_,?_,.v _ _ (.int _ _)⟩;simp only[binOp,Op.intDiv,ne_eq,not_true_eq_false,V2];rw[Ur D'];rfl)
  | (refine⟨_,?_,.v _ _ (.bool _)⟩;simp only[binOp,Op.intCmp,ne_eq,not_true_eq_false,V2,UL];done)
theorem C8 {op:BinOp} {k k':IntKind} {a b:Int} {d:D} {p:Prop} (hp:C4 op k a b=(d,p)) (D':p) (t:TypeId) :
  ∃u,(binOp op t (.int k a) (.int k' b)).run P w=.ok u w∧aq S μ w d u:=by
 unfold C4 at hp
 cases op<;>simp only[aR,Ux]at hp<;>obtain⟨rfl,rfl⟩:=hp <;>
  first
  | exact D'.elim
  | (refine⟨_,?_,.v _ _ (.int _ _)⟩;simp only[binOp,Op.shift];rw[Ur (by omega)];rfl)
theorem Ia {op:BinOp} {a b:ByteArray} {d:D} {p:Prop} (hp:NO op a b=(d,p)) (D':p) (t:TypeId) :
  ∃u,(binOp op t (.string a) (.string b)).run P w=.ok u w∧aq S μ w d u:=by
 unfold NO at hp
 cases op<;>simp only[aR,Ux]at hp<;>obtain⟨rfl,rfl⟩:=hp <;>
  first
  | exact D'.elim
  | (refine⟨_,?_,.v _ _ (.bool _)⟩;simp only[binOp,Op.stringOp];rfl)
  | (refine⟨_,?_,.v _ _ (.str _)⟩;simp only[binOp,Op.stringOp];rw[Ur (by omega)];rfl)
theorem eD {op:BinOp} {t:TypeId} {x y:Operand} {a b:Value} (h:∀us,a≠.agg us) (h':a≠.nilIface):(eqGuard op t x y a b).run P w=.ok () w:=by
 unfold eqGuard
 cases a<;>first | exact absurd rfl h' | exact absurd rfl (h _) | (split<;>rfl)
theorem jd {t:TypeId} {cs:List D} {J':Nat} {x:V} (h:(dP P t cs J').1=.v x):dP P t cs J'=(.v x,True):=by
 unfold dP at h ⊢
 split
 ·rename_i hc;rw[Uw hc]at h;exact Prod.ext h rfl
 ·rename_i hc;rw[Ur hc]at h;cases h
theorem qc {xs ys:List D} {us vs:Array Value} (hx:us.size=xs.length∧∀(j:Nat) (y:D) (u:Value),xs[j]?=some y→us[j]?=some u→aq S μ w y u) (hy:vs.size=ys.length∧∀(j:Nat) (y:D) (u:Value),ys[j]?=some y→vs[j]?=some u→aq S μ w y u)
  {f:Field} {b:Bool} (h:vg P xs ys f=some b) (d:Nat):f.name ≠ "_" ∧ ∃u v,(part f.type us f.offset).run P w=.ok u w∧(part f.type vs f.offset).run P w=.ok v w∧(Op.equalIn (d+1) f.type u v).run P w=.ok b w:=by
 unfold vg at h
 split at h
 ·rename_i hn
  refine⟨hn,?_⟩
  unfold H7 at h
  split at h
  ·rename_i k0 k a k' c hu h1 h2
   obtain⟨u,hu1,Yq⟩:=il hx.1 hx.2 (jd h1) trivial
   obtain⟨v,YA,Zc⟩:=il hy.1 hy.2 (jd h2) trivial
   rw[b6 Yq]at hu1;rw[b6 Zc]at YA
   split at h
   ·rename_i hk
    have Xr:k=k':=by simpa using hk
    subst Xr
    cases h
    exact⟨_,_,hu1,YA,run_equalIn_int w d f.type k k0 a c hu⟩
   ·cases h
  ·rename_i a c hu h1 h2
   obtain⟨u,hu1,Yq⟩:=il hx.1 hx.2 (jd h1) trivial
   obtain⟨v,YA,Zc⟩:=il hy.1 hy.2 (jd h2) trivial
   rw[f9 Yq]at hu1;rw[f9 Zc]at YA
   cases h
   exact⟨_,_,hu1,YA,run_equalIn_bool' w d f.type a c hu⟩
  ·rename_i a c hu h1 h2
   obtain⟨u,hu1,Yq⟩:=il hx.1 hx.2 (jd h1) trivial
   obtain⟨v,YA,Zc⟩:=il hy.1 hy.2 (jd h2) trivial
   rw[ga Yq]at hu1;rw[ga Zc]at YA
   cases h
   exact⟨_,_,hu1,YA,run_equalIn_string w d f.type a c hu⟩
  ·cases h
 ·cases h
theorem nx {xs ys:List D} {us vs:Array Value} (hx:us.size=xs.length∧∀(j:Nat) (y:D) (u:Value),xs[j]?=some y→us[j]?=some u→aq S μ w y u) (hy:vs.size=ys.length∧∀(j:Nat) (y:D) (u:Value),ys[j]?=some y→vs[j]?=some u→aq S μ w y u) (d:Nat) :
  ∀(fs:List Field) (b:Bool),nw P xs ys fs=some b→(Op.eqFields (d+1) us vs fs).run P w=.ok b w
 | [],b,h=>by cases h;simp[Op.eqFields]
 | [f],b,h=>by
  obtain⟨hn,u,v,h1,h2,h3⟩:=qc hx hy h d
  cases b<;>simp[Op.eqFields,hn,Uv,h1,h2,h3]
 | f::g::fs,b,h=>by
  unfold nw at h
  split at h
  ·rename_i a c ha hc
   cases h
   obtain⟨hn,u,v,h1,h2,h3⟩:=qc hx hy ha d
   have ih:=nx hx hy d (g::fs) c hc
   unfold Op.eqFields
   cases a
   ·simp[hn,Uv,h1,h2,h3]
   ·simp only[ne_eq,hn,not_false_eq_true,V5,Uv,h1,h2,h3,Uu,Bool.not_true,Vi,V2,Ww]
    exact ih
  ·cases h
theorem zh {t:TypeId} (h:vY P t=true):∃e,P.underlying t=some (.slice e):=by
 unfold vY at h
 split at h
 ·exact⟨_,by assumption⟩
 ·cases h
theorem A2 {t:TypeId} (h:zf P t=true):∃a b c,P.underlying t=some (.func a b c):=by
 unfold zf at h
 split at h
 ·exact⟨_,_,_,by assumption⟩
 ·cases h
theorem A3 {x:D} {ux:Value} {b:Bool} {q:Prop} (hx:aq S μ w x ux) (hq:H8 x=some (b,q)) (h:q):∃r n c,ux=.slice r n c∧r.isNone=b:=by
 unfold H8 at hq
 split at hq
 ·cases hq;cases hx;exact⟨_,_,_,rfl,rfl⟩
 ·cases hq;have hx:=bL hx;cases hx;exact⟨_,_,_,rfl,rfl⟩
 ·cases hq;have hx:=bL hx;cases hx;exact⟨_,_,_,rfl,rfl⟩
 ·rename_i sz α enc d l
  cases hq
  obtain⟨p,c,rfl,_,_,_,h4⟩:=ib (bL hx)
  obtain⟨b,J',us,rfl,_⟩:=h4 (List.length_pos_iff.2 h)
  exact⟨_,_,_,rfl,rfl⟩
 ·cases hq
theorem zk {x:D} {ux:Value} {b:Bool} (hx:aq S μ w x ux) (hq:C5 x=some b):(b=true∧ux=.nilFunc)∨(b=false∧∃f us vs,ux=.func f us vs):=by
 unfold C5 at hq
 split at hq
 ·cases hq;have hx:=bL hx;cases hx;exact .inl ⟨rfl,rfl⟩
 ·cases hq;cases hx;exact .inr ⟨rfl,_,_,_,rfl⟩
 ·cases hq
theorem tj {op:BinOp} {t:TypeId} {b:Bool} {q p:Prop} {d:D} {ux uy:Value} (hp:AZ op b q=(d,p)) (D':p) (he:(Op.equal t ux uy).run P w=.ok b w) (hx:∀k n,ux≠.int k n:=by intros;intro h;cases h) (hf:∀k n,ux≠.float k n:=by intros;intro h;cases h)
  (hc:∀k a b,ux≠.complex k a b:=by intros;intro h;cases h) (hs:∀s,ux≠.string s:=by intros;intro h;cases h):∃u,(binOp op t ux uy).run P w=.ok u w∧aq S μ w d u:=by
 unfold AZ at hp
 split at hp
 ·cases hp
  refine⟨.bool b,?_,.v _ _ (.bool _)⟩
  unfold binOp
  cases ux<;>first | exact absurd rfl (hx _ _) | exact absurd rfl (hf _ _) | exact absurd rfl (hc _ _ _) | exact absurd rfl (hs _) | simp only[Uv,he,Uu,UL]
 ·cases hp
  refine⟨.bool (!b),?_,.v _ _ (.bool _)⟩
  unfold binOp
  cases ux<;>first | exact absurd rfl (hx _ _) | exact absurd rfl (hf _ _) | exact absurd rfl (hc _ _ _) | exact absurd rfl (hs _) | simp only[Uv,he,Uu,UL]
 ·cases hp;exact D'.elim
theorem C9 {op:BinOp} {t:TypeId} {x y d:D} {p:Prop} {ux uy:Value} (ox oy:Operand) (hx:aq S μ w x ux) (hy:aq S μ w y uy) (hp:NP P op t x y=(d,p)) (D':p) :
  ∃u,(do eqGuard op t ox oy ux uy;binOp op t ux uy:Sem Value).run P w=.ok u w∧aq S μ w d u:=by
 unfold NP at hp
 split at hp
 ·rename_i k a k' b
  rw[b6 hx,b6 hy]
  simp only[Uv,eD (P:=P) (w:=w) (a:=.int k a) (fun _ h=>by cases h) (fun h=>by cases h),Uu]
  split at hp
  ·exact C8 hp D' t
  ·rename_i hs
   split at hp
   ·rename_i hk
    have:k=k':=by simpa using hk
    subst this
    exact GM (by simpa using hs) hp D' t
   ·cases hp;exact D'.elim
 ·rename_i a b
  rw[ga hx,ga hy]
  simp only[Uv,eD (P:=P) (w:=w) (a:=.string a) (fun _ h=>by cases h) (fun h=>by cases h),Uu]
  exact Ia hp D' t
 ·rename_i a b
  rw[f9 hx,f9 hy]
  simp only[Uv,eD (P:=P) (w:=w) (a:=.bool a) (fun _ h=>by cases h) (fun h=>by cases h),Uu]
  split at hp
  ·rename_i hu
   have he:(Op.equal t (.bool a) (.bool b)).run P w=.ok (a==b) w:=by
    unfold Op.equal
    rw[show Op.maxDepth=9999+1 from rfl,Op.equalIn]
    simp only[Uv,UZ hu,Uu,UL]
   cases op<;>simp only[aR,Ux]at hp<;>obtain⟨rfl,rfl⟩:=hp <;>
    first
    | exact D'.elim
    | (refine⟨_,?_,.v _ _ (.bool _)⟩;simp only[binOp,Uv,he,Uu,UL])
  ·cases hp;exact D'.elim
 ·rename_i xs ys
  obtain⟨us,rfl,YV,ZM⟩:=eO hx
  obtain⟨vs,rfl,hy1,hy2⟩:=eO hy
  unfold M5 at hp
  split at hp
  ·rename_i hc
   simp only[Uo,U2]at hc
   obtain⟨⟨hs,hg⟩,ht⟩:=hc
   have hu:P.underlying t=some (.struct (P.fieldsOf t)):=by
    unfold xF at ht
    unfold Program.fieldsOf
    split at ht
    ·rename_i fs hfs;rw[hfs]
    ·cases ht
   have he:∀b,nw P xs ys (P.fieldsOf t).toList=some b→(Op.equalIn 10000 t (.agg us) (.agg vs)).run P w=.ok b w:=fun b hb=>by
    rw[show(10000:Nat)=9999+1 from rfl,run_equalIn_agg w 9999 t us vs hu hs]
    exact nx ⟨YV,ZM⟩ ⟨hy1,hy2⟩ 9998 _ b hb
   simp only[Uv,run_eqGuard_agg (P:=P) w op t ox oy us vs hg,Uu]
   split at hp
   ·rename_i b hb
    cases hp
    exact⟨_,by rw[run_eql_struct,he b hb,Uu],.v _ _ (.bool _)⟩
   ·rename_i b hb
    cases hp
    exact⟨_,by rw[run_neq_struct,he b hb,Uu],.v _ _ (.bool _)⟩
   ·cases hp;exact D'.elim
  ·cases hp;exact D'.elim
 ·cases hy
  split at hp
  ·rename_i b q hq
   split at hp
   ·rename_i ht
    obtain⟨e,he⟩:=zh ht
    have hob':q:=by
     unfold AZ at hp
     split at hp<;>cases hp<;>first | exact D' | exact D'.elim
    obtain⟨r,n,c,rfl,hr⟩:=A3 hx hq hob'
    simp only[Uv,eD (P:=P) (w:=w) (a:=.slice r n c) (fun _ h=>by cases h) (fun h=>by cases h),Uu]
    have heq:(Op.equal t (.slice r n c) (.slice none 0 0)).run P w=.ok b w:=by
     unfold Op.equal
     rw[show Op.maxDepth=9999+1 from rfl,Op.equalIn]
     simp only[Uv,UZ he,Uu]
     cases r<;>simp at hr<;>subst hr<;>rfl
    exact tj hp D' heq
   ·cases hp;exact D'.elim
  ·cases hp;exact D'.elim
 ·have hy2:=bL hy
  cases hy2
  split at hp
  ·rename_i b hq
   split at hp
   ·rename_i ht
    obtain⟨e1,e2,e3,he⟩:=A2 ht
    have hu:(b=true∧ux=.nilFunc)∨(b=false∧∃f us vs,ux=.func f us vs):=zk hx hq
    have heq:(Op.equal t ux .nilFunc).run P w=.ok b w:=by
     unfold Op.equal
     rw[show Op.maxDepth=9999+1 from rfl,Op.equalIn]
     simp only[Uv,UZ he,Uu]
     rcases hu with ⟨rfl,rfl⟩ | ⟨rfl,f,us,vs,rfl⟩<;>rfl
    rw[Uv,eD (P:=P) (w:=w) (a:=ux) (fun _ h=>by rcases hu with ⟨_,rfl⟩ | ⟨_,f,us,vs,rfl⟩<;>cases h) (fun h=>by rcases hu with ⟨_,rfl⟩ | ⟨_,f,us,vs,rfl⟩<;>cases h),Uu]
    rcases hu with ⟨h1,rfl⟩ | ⟨h1,f,us,vs,rfl⟩
    ·exact tj hp D' heq
    ·exact tj hp D' heq
   ·cases hp;exact D'.elim
  ·cases hp;exact D'.elim
 ·cases hp;exact D'.elim
theorem GN {op:UnOp} {x d:D} {p:Prop} {ux:Value} (hx:aq S μ w x ux) (hp:Rq op x=(d,p)) (D':p) :
  ∃u,(Op.unary op ux).run P w=.ok u w∧aq S μ w d u:=by
 unfold Rq at hp
 split at hp
 ·cases hp;rw[b6 hx];exact⟨_,rfl,.v _ _ (.int _ _)⟩
 ·cases hp;rw[b6 hx];exact⟨_,rfl,.v _ _ (.int _ _)⟩
 ·cases hp;rw[f9 hx];exact⟨_,rfl,.v _ _ (.bool _)⟩
 ·cases hp;exact D'.elim
theorem A4 {src dst:TypeId} {x d:D} {p:Prop} {ux:Value} (hx:aq S μ w x ux) (hp:H9 P src dst x=(d,p)) (D':p) :
  ∃u,(convert src dst ux).run P w=.ok u w∧aq S μ w d u:=by
 unfold H9 at hp
 split at hp
 ·rename_i hk
  unfold dh at hk
  simp only[Uo,Option.isSome_iff_exists]at hk
  obtain⟨_,s,hs⟩:=hk
  split at hp
  ·rename_i k k' n hd
   rw[b6 hx]
   split at hp
   ·cases hp;exact D'.elim
   ·cases hp
    refine⟨_,?_,.v _ _ (.int _ _)⟩
    unfold convert
    simp only[Uv,UZ hs,UZ hd,Uu,Conv.intToInt]
    rfl
  ·rename_i s' hd
   cases hp
   rw[ga hx]
   refine⟨_,?_,.v _ _ (.str _)⟩
   unfold convert
   simp only[Uv,UZ hs,UZ hd,Uu]
   rfl
  ·cases hp;exact D'.elim
 ·cases hp;exact D'.elim
theorem Da {t ty:TypeId} {H:List aC} (hH:bz S μ w H) {x d:D} {p:Prop} {ux:Value} (hx:aq S μ w x ux) (hp:NQ P t H x=(d,p)) (D':p) :
  ∃u,(Builtin.len_ #[t] ty #[ux]).run P w=.ok u w∧aq S μ w d u:=by
 have sl:∀(e:TypeId) (q:Option Addr) (n c:Nat),P.underlying t=some (.slice e)→(Builtin.len_ #[t] ty #[.slice q n c]).run P w=.ok (.int .i64 n) w:=by
  intro e q n c hu
  simp[Builtin.len_,Uv,UZ hu,goInt]
 unfold NQ at hp
 split at hp
 ·rename_i s hu
  cases hp
  rw[ga hx]
  exact⟨_,by simp[Builtin.len_,Uv,UZ hu,goInt],.v _ _ (.int _ _)⟩
 ·rename_i n e hu
  cases hp
  exact⟨_,by simp[Builtin.len_,Uv,UZ hu,goInt],.v _ _ (.int _ _)⟩
 ·rename_i e sz α enc d' l hu
  cases hp
  obtain⟨q,c,rfl,_⟩:=ib (bL hx)
  exact⟨_,sl _ _ _ _ hu,.v _ _ (.int _ _)⟩
 ·rename_i e hu
  cases hp
  cases hx
  exact⟨_,sl _ _ _ _ hu,.v _ _ (.int _ _)⟩
 ·rename_i e hu
  cases hp
  have hx:=bL hx
  cases hx
  exact⟨_,sl _ _ _ _ hu,.v _ _ (.int _ _)⟩
 ·rename_i e hu
  cases hp
  have hx:=bL hx
  cases hx
  exact⟨_,sl _ _ _ _ hu,.v _ _ (.int _ _)⟩
 ·rename_i e id hu
  split at hp
  ·rename_i E sz α enc d' l hb
   cases hp
   rw[cj hx]
   obtain⟨q,c,hm,_⟩:=cN (hH.box id _ hb)
   rw[hm]
   exact⟨_,sl _ _ _ _ hu,.v _ _ (.int _ _)⟩
  ·rename_i E sz α enc d' l hb
   cases hp
   rw[cj hx]
   obtain⟨q,c,hm,_⟩:=cN (hH.box id _ hb).ro_arr
   rw[hm]
   exact⟨_,sl _ _ _ _ hu,.v _ _ (.int _ _)⟩
  ·rename_i E sz m gs cell hb
   cases hp
   rw[cj hx]
   obtain⟨q,c,hm,_⟩:=gH (hH.box id _ hb)
   rw[hm]
   exact⟨_,sl _ _ _ _ hu,.v _ _ (.int _ _)⟩
  ·cases hp;exact D'.elim
 ·cases hp;exact D'.elim
end
def kE (H:List aC):D→Option (List D)
 | .agg cs=>some cs
 | .tup _=>none
 | .junk=>none
 | .own id=>match H[id]? with | some (.arr _ _ _ _ _)=>some [.own id] | some (.ro _ _ _ _ _)=>some [.own id] | some (.mpb _ _ _ _ _)=>some [.own id] | some (.arrD _ _ _ _ _)=>some [.own id] | _=>none
 | d=>some [d]
def gf (cs new:List D) (J':Nat):List D:=cs.take J'++new++cs.drop (J'+new.length)
def im (H:List aC) (Zm:Nat→Option (Nat×Nat)) (cells:List D):List (Nat×D)→Option (List D)
 | []=>some cells
 | (i,x)::rest=>match Zm i,kE H x with
  | some (J',size),some new=>if Nat.beq new.length size&&Nat.ble (J'+new.length) cells.length then im H Zm (gf cells new J') rest else none
  | _,_=>none
def ju (P:Program) (t:TypeId):Option (List D):=((P.info? t).bind (·.zero)).map fun z=>z.cells.toList.map D.ofVal1
def Db (P:Program) (H:List aC) (t:TypeId) (M':List (Nat×D)):R1 :=
 match ju P t,P.underlying t with
 | some z,some (.struct fs)=>if fs.all (fun f=>dh P f.type)then
   match im H (fun i=>(fs[i]?).map fun f=>(f.offset,aH P f.type)) z M' with
   | some cs=>(.agg cs,True)
   | none=>aR
  else aR
 | some z,some (.array _ e)=>if dh P e then
   match im H (fun i=>some (i*aH P e,aH P e)) z M' with
   | some cs=>(.agg cs,True)
   | none=>aR
  else aR
 | _,_=>aR
def Rj (f:Int→Int→Int) (x y:D):R1 :=
 match x,y with
 | .v (.int k a),.v (.int _ b)=>(.v (.int k (f a b)),True)
 | _,_=>aR
def M6 (c a b:D):R1 :=
 match c with
 | .v (.bool t)=>(match t with | true=>a | false=>b,True)
 | _=>aR
def PM:D→R1
 | .ptr id i sz J'=>(.ptr id i sz J',True)
 | .iptr cs J'=>(.iptr cs J',True)
 | .fn (.func f) a b=>(.fn (.func f) a b,True)
 | .yld id=>(.yld id,True)
 | _=>aR
def A5 (x:D) (i:Nat):R1 :=
 match x with
 | .tup cs=>if Nat.blt i cs.length then (cs.getD i .junk,True)else aR
 | _=>aR
def dC (x y:D):Prop:=∀(S:Nat→Prop) (μ:Nat→Value) (w:World) (u:Value),aq S μ w x u→aq S μ w y u
theorem dC.refl (x:D):dC x x:=fun _ _ _ _ h=>h
def ak {α:Type _} (d:α):List (ByteArray×α)→ByteArray→α
 | [],_=>d
 | (k',x)::r,k=>if k=k' then x else ak d r k
def bc {α:Type _}:List (ByteArray×α)→ByteArray→Bool
 | [],_=>false
 | (k',_)::r,k=>if k=k' then true else bc r k
def eP {α:Type _}:List (ByteArray×α)→ByteArray→α→List (ByteArray×α)
 | [],k,x=>[(k,x)]
 | (k',y)::r,k,x=>if k=k' then (k,x)::r else (k',y)::eP r k x
theorem ny {α β:Type _} (f:α→β) (x:α) (k:ByteArray):∀l:List (ByteArray×α),eP (l.map fun p=>(p.1,f p.2)) k (f x)=(eP l k x).map fun p=>(p.1,f p.2)
 | []=>rfl
 | (k',y)::r=>by
  rw[Vn,eP,eP]
  split
  ·rw[Vn]
  ·rw[Vn,ny f x k r]
theorem TD (a b:ByteArray):(a==b)=decide (a=b):=by
 cases a with | mk x=>cases b with | mk y =>
 show(x==y)=_
 by_cases h:x=y
 ·subst h;simp
 ·rw[Uy (by simpa using h)];exact beq_eq_false_iff_ne.2 h
theorem M7 (a b:ByteArray):Instr.sameNow .string (.string a) (.string b)=some (decide (a=b)):=by
 show some (a==b)=_
 rw[TD]
theorem Ib {α:Type _} {R:α→Value→Prop} (d:α) (k:ByteArray):∀(l:List (ByteArray×α)) (arr:List MapEntry) (n:Nat),arr.length=l.length→(∀(i:Nat) (k':ByteArray) (x:α),l[i]?=some (k',x)→∃e,arr[i]?=some e∧e.key=.string k'∧R x e.val) →
  (bc l k=false∧ak d l k=d∧Instr.findNow .string (.string k) arr n=some none∧∀x,eP l k x=l++[(k,x)]) ∨
  (bc l k=true∧∃(i:Nat) (e:MapEntry) (y:α),l[i]?=some (k,y)∧arr[i]?=some e∧e.key=.string k∧R y e.val∧Instr.findNow .string (.string k) arr n=some (some (n+i,e.val))∧ak d l k=y∧∀x,eP l k x=l.set i (k,x))
 | [],arr,n,hl,_=>by
  have:arr=[]:=List.length_eq_zero_iff.1 hl
  subst this
  exact .inl ⟨rfl,rfl,by simp[Instr.findNow],fun x=>rfl⟩
 | (k',x)::r,[],n,hl,_=>by simp at hl
 | (k',x)::r,a::arr,n,hl,h=>by
  obtain⟨e,he,hk,hr⟩:=h 0 k' x rfl
  simp only[List.getElem?_cons_zero,UA]at he
  subst he
  by_cases Za:k=k'
  ·subst Za
   refine .inr ⟨by rw[bc,Uw rfl],0,a,x,rfl,rfl,hk,hr,?_,by rw[ak,Uw rfl],fun y=>by rw[eP,Uw rfl];rfl⟩
   unfold Instr.findNow
   rw[hk,M7,Uz rfl]
   rfl
  ·have hf:Instr.findNow .string (.string k) (a::arr) n=Instr.findNow .string (.string k) arr (n+1):=by
    conv=>lhs;unfold Instr.findNow
    rw[hk,M7,Uy Za]
   rw[hf,bc,Ur Za,ak,Ur Za]
   rcases Ib d k r arr (n+1) (by simpa using hl) (fun i k' x hx=>by simpa using h (i+1) k' x (by simpa using hx))with ⟨h1,h0,h2,h3⟩ | ⟨h1,i,e,y,h2,h3,h4,h5,h6,h7,h8⟩
   ·exact .inl ⟨h1,h0,h2,fun y=>by rw[eP,Ur Za,h3];rfl⟩
   ·exact .inr ⟨h1,i+1,e,y,by simpa using h2,by simpa using h3,h4,h5,by rw[h6,show n+1+i=n+(i+1) by omega],h7,fun y=>by rw[eP,Ur Za,h8];rfl⟩
def xH (P:Program) (t:TypeId):Option D:=((P.info? t).bind (·.zero)).map D.ofVal
def zl (P:Program) (H:List aC) (t:TypeId) (x ix:D) (c:Bool):R1 :=
 match P.underlying t,x,ix with
 | some (.map K E),.own id,.v (.str k)=>match P.underlying K,xH P E,H[id]? with
  | some .string,some z,some (.mpb t' ag enc d l) =>
   if Nat.beq t t' then (if c then .tup [gE ag (enc (ak d l k)),.v (.bool (bc l k))]else gE ag (enc (ak d l k)),dC z (gE ag (enc d)))else aR
  | _,_,_=>aR
 | some (.map K E),.v (.sm ag enc d l),.v (.str k)=>match P.underlying K,xH P E with
  | some .string,some z=>(if c then .tup [gE ag (enc (ak d l k)),.v (.bool (bc l k))]else gE ag (enc (ak d l k)),dC z (gE ag (enc d))∧(ag=false→∀p∈l,(enc p.2).length=1))
  | _,_=>aR
 | _,_,_=>aR
def gI (P:Program) (H:List aC) (ρ:Operand→D) (op:Op):R1 :=
 match op with
 | .move x=>(ρ x,True)
 | .assign x=>(ρ x,True)
 | .pick c a b=>M6 (ρ c) (ρ a) (ρ b)
 | .load t a=>EE P t H (ρ a)
 | .nilCheck x=>PM (ρ x)
 | .binOp op t x y _=>NP P op t (ρ x) (ρ y)
 | .unOp op _ x=>Rq op (ρ x)
 | .convert src dst x=>H9 P src dst (ρ x)
 | .makeFunc fn first cap=>(.fn fn (first.toList.map ρ) (cap.toList.map ρ),True)
 | .slice t x lo hi mx=>C2 P t (ρ x) (lo.map ρ) (hi.map ρ) (mx.map ρ)
 | .fieldAddr s x f=>qF P s (ρ x) f
 | .field t x f=>CY P t (ρ x) f
 | .indexAddr t x i=>qG P t H (ρ x) (ρ i)
 | .index t x i=>CZ P t (ρ x) (ρ i)
 | .extract x i=>A5 (ρ x) i
 | .build t M'=>Db P H t (M'.toList.map fun p=>(p.1,ρ p.2))
 | .lookup t x ix c=>zl P H t (ρ x) (ρ ix) c
 | .call c=>match c.callee with
  | .builtin .len=>match c.args.toList,c.argTypes.toList with
   | [x],[t]=>NQ P t H (ρ x)
   | _,_=>aR
  | .builtin .min=>match c.args.toList with
   | [x,y]=>Rj A1 (ρ x) (ρ y)
   | _=>aR
  | .builtin .max=>match c.args.toList with
   | [x,y]=>Rj NR (ρ x) (ρ y)
   | _=>aR
  | _=>aR
 | _=>aR
section
variable {P:Program} {S:Nat→Prop} {μ:Nat→Value} {w:World}
theorem eh.cells {x:V} {u:Value} (h:eh S w x u):u.cells=#[u]:=by cases h<;>rfl
theorem iZ {H:List aC} (hH:bz S μ w H) {d:D} {u:Value} {cs:List D} (hd:aq S μ w d u) (hc:kE H d=some cs) :
  u.cells.size=cs.length∧∀(j:Nat) (y:D) (z:Value),cs[j]?=some y→u.cells[j]?=some z→aq S μ w y z:=by
 have one:∀(d:D) (u:Value),aq S μ w d u→u.cells=#[u]→cs=[d]→u.cells.size=cs.length∧∀(j:Nat) (y:D) (z:Value),cs[j]?=some y→u.cells[j]?=some z→aq S μ w y z:=by
  rintro d u hd hu rfl
  rw[hu]
  refine⟨rfl,fun j y z hy hz=>?_⟩
  cases j with
  | zero=>simp at hy hz;subst hy hz;exact hd
  | succ j=>simp at hy
 unfold kE at hc
 split at hc
 ·cases hc
  obtain⟨us,rfl,h1,h2⟩:=eO hd
  exact⟨h1,h2⟩
 ·cases hc
 ·cases hc
 ·split at hc
  ·rename_i E sz α enc d' l hb
   cases hc
   obtain⟨q,c,hm,_⟩:=cN (hH.box _ _ hb)
   have hu:=cj hd
   exact one _ _ hd (by rw[hu,hm];rfl) rfl
  ·rename_i E sz α enc d' l hb
   cases hc
   obtain⟨q,c,hm,_⟩:=cN (hH.box _ _ hb).ro_arr
   have hu:=cj hd
   exact one _ _ hd (by rw[hu,hm];rfl) rfl
  ·rename_i t ag α enc d' l hb
   cases hc
   obtain⟨b,arr,clock,hm,_⟩:=hH.box _ _ hb
   have hu:=cj hd
   exact one _ _ hd (by rw[hu,hm];rfl) rfl
  ·rename_i E sz m gs cell hb
   cases hc
   obtain⟨q,c,hm,_⟩:=gH (hH.box _ _ hb)
   have hu:=cj hd
   exact one _ _ hd (by rw[hu,hm];rfl) rfl
  ·cases hc
 ·rename_i h1 h2 h3 h4
  cases hc
  refine one _ _ hd ?_ rfl
  cases hd with
  | v x u h=>exact h.cells
  | nils=>rfl
  | own id=>exact absurd rfl (h4 id)
  | ptr=>rfl
  | iptr=>rfl
  | agg cs us _ _=>exact absurd rfl (h1 cs)
  | tup cs us _ _=>exact absurd rfl (h2 cs)
  | fn=>rfl
  | yld=>rfl
  | capd=>rfl
  | gr g r us u _ _ h=>cases u<;>first | rfl | cases h
  | junk u=>exact absurd rfl h3
def aU (S:Nat→Prop) (μ:Nat→Value) (w:World) (cs:List D) (us:Array Value):Prop :=
 us.size=cs.length∧∀(j:Nat) (y:D) (z:Value),cs[j]?=some y→us[j]?=some z→aq S μ w y z
theorem Ld (new:Array Value) (cells:Array Value) (J':Nat):∀(n:Nat),n≤new.size→J'+new.size≤cells.size →
  ((new.toList.zipIdx.take n).foldl (fun cs (p:Value×Nat)=>cs.setIfInBounds (J'+p.2) p.1) cells).size=cells.size ∧
  ∀j,((new.toList.zipIdx.take n).foldl (fun cs (p:Value×Nat)=>cs.setIfInBounds (J'+p.2) p.1) cells)[j]?=if J'≤j∧j<J'+n then new[j-J']? else cells[j]?:=by
 intro n
 induction n with
 | zero=>intro _ _;exact⟨by simp,fun j=>by rw[Ur (by omega)];simp⟩
 | succ n ih =>
  intro hn ho
  obtain⟨h1,h2⟩:=ih (by omega) ho
  have ht:new.toList.zipIdx.take (n+1)=new.toList.zipIdx.take n++[(new[n]'(by omega),n)]:=by
   rw[VK (by simp;omega)]
   congr 1
   simp
  rw[ht,Vy]
  simp only[List.foldl_cons,List.foldl_nil]
  refine⟨by rw[Array.size_setIfInBounds];exact h1,fun j=>?_⟩
  by_cases hj:j=J'+n
  ·subst hj
   rw[Array.getElem?_setIfInBounds_self_of_lt (by omega),Uw (by omega),show J'+n-J'=n from by omega]
   simp
  ·rw[Vk (by omega),h2 j]
   by_cases hc:J'≤j∧j<J'+n
   ·rw[Uw hc,Uw (by omega)]
   ·rw[Ur hc,Ur (by omega)]
theorem A6 {cs new:List D} {us vs:Array Value} {J':Nat} (h:aU S μ w cs us) (hn:aU S μ w new vs) (ho:J'+new.length≤cs.length) :
  aU S μ w (gf cs new J') (vs.zipIdx.foldl (fun cs (c,j)=>cs.setIfInBounds (J'+j) c) us):=by
 have e:vs.zipIdx.foldl (fun cs (c,j)=>cs.setIfInBounds (J'+j) c) us=(vs.toList.zipIdx.take vs.size).foldl (fun cs (p:Value×Nat)=>cs.setIfInBounds (J'+p.2) p.1) us:=by
  rw[← Array.foldl_toList,Array.toList_zipIdx,VV (by simp)]
 obtain⟨h1,h2⟩:=Ld vs us J' vs.size (Ut _) (by rw[hn.1,h.1];exact ho)
 rw[← e]at h1 h2
 refine⟨by rw[h1,h.1];simp[gf];omega,fun j y z hy hz=>?_⟩
 rw[h2 j]at hz
 unfold gf at hy
 by_cases hc:J'≤j∧j<J'+vs.size
 ·rw[Uw hc]at hz
  refine hn.2 (j-J') y z ?_ hz
  rw[UD (by simp;have:=hn.1;omega),UE (by simp;omega)]at hy
  rw[UG,Nat.min_eq_left (by omega)]at hy
  exact hy
 ·rw[Ur hc]at hz
  refine h.2 j y z ?_ hz
  have hs:=hn.1
  by_cases hj:j<J'
  ·rw[UD (by simp;omega),UD (by simp;omega),UP,Uw hj]at hy
   exact hy
  ·rw[UE (by simp;omega),VB]at hy
   simp only[UK,UG]at hy
   rw[show J'+new.length+(j-(min J' cs.length+new.length))=j from by omega]at hy
   exact hy
theorem fS {H:List aC} (hH:bz S μ w H) {Zm:Nat→Option (Nat×Nat)}:∀(M':List (Nat×D)) (Wz:List (Nat×Value)) (cells Yz:List D) (us:Array Value),
  M'.map (·.1)=Wz.map (·.1)→(∀(j:Nat) (x:Nat×D) (u:Nat×Value),M'[j]?=some x→Wz[j]?=some u→aq S μ w x.2 u.2) →
  aU S μ w cells us→im H Zm cells M'=some Yz→∃vs,Instr.fill Zm us Wz=some vs∧aU S μ w Yz vs
 | [],[],cells,Yz,us,_,_,hc,hf=>by
  simp only[im,UA]at hf
  subst hf
  exact⟨us,rfl,hc⟩
 | [],_::_,_,_,_,h,_,_,_=>by simp at h
 | _::_,[],_,_,_,h,_,_,_=>by simp at h
 | (i,x)::M',(i',u)::Wz,cells,Yz,us,hi,hr,hc,hf=>by
  simp only[Vn,Vm]at hi
  obtain⟨rfl,hi⟩:=hi
  unfold im at hf
  split at hf
  ·rename_i J' size new hp hn
   split at hf
   ·rename_i WV
    simp only[Uo,UH,Vv]at WV
    obtain⟨hl,ho⟩:=WV
    have Xb:=iZ hH (hr 0 _ _ rfl rfl) hn
    obtain⟨vs,h1,h2⟩:=fS hH M' Wz _ Yz _ hi (fun j x u hx hu=>hr (j+1) x u (by simpa using hx) (by simpa using hu)) (A6 hc Xb ho) hf
    refine⟨vs,?_,h2⟩
    unfold Instr.fill
    rw[hp]
    dsimp only
    have h9:u.cells.size=new.length:=Xb.1
    have h8:us.size=cells.length:=hc.1
    rw[Ur (by simp only[U3,U8];omega)]
    exact h1
   ·cases hf
  ·cases hf
theorem io {t:TypeId} {z:List D} (h:ju P t=some z):∃v,(zeroValue t).run P w=.ok v w∧aU S μ w z v.cells:=by
 unfold ju at h
 cases hi:P.info? t with
 | none=>simp[hi]at h
 | some i =>
  cases hz:i.zero with
  | none=>simp[hi,hz]at h
  | some v =>
   simp only[hi,hz,VZ,U4,UA]at h
   subst h
   refine⟨v,by simp[zeroValue,typeInfo,hi,hz,Uv],by simp,fun j y u hy hu=>?_⟩
   simp only[UJ,UY,hu,U4,UA]at hy
   subst hy
   exact aq.ofVal1 S μ w u
theorem mY:∀(l:List Field),l.all (fun f=>dh P f.type)=true→(l.mapM (fun f=>do pure (f.offset,← sizeOf f.type):Field→Sem (Nat×Nat))).run P w=.ok (l.map fun f=>(f.offset,aH P f.type)) w
 | [],_=>rfl
 | f::l,h=>by
  simp only[We,Uo]at h
  have:=mY l h.2
  simp only[List.mapM_cons,Uv,eC h.1,Uu,UL,this,Vn]
theorem zm {H:List aC} (hH:bz S μ w H) {t:TypeId} {M':List (Nat×D)} {Wz:List (Nat×Value)} {d:D} {p:Prop} (h1:M'.map (·.1)=Wz.map (·.1))
  (h2:∀(j:Nat) (x:Nat×D) (u:Nat×Value),M'[j]?=some x→Wz[j]?=some u→aq S μ w x.2 u.2) (hp:Db P H t M'=(d,p)) (D':p) :
  ∃u,(Instr.build t Wz.toArray).run P w=.ok u w∧aq S μ w d u:=by
 unfold Db at hp
 split at hp
 ·rename_i z fs hz hu
  split at hp
  ·rename_i hall
   split at hp
   ·rename_i cs hf
    cases hp
    obtain⟨v,hv,hr⟩:=io (S:=S) (μ:=μ) (w:=w) hz
    obtain⟨vs,h3,h4⟩:=fS hH M' Wz z cs v.cells h1 h2 hr hf
    refine⟨.agg vs,?_,.agg _ _ h4.1 h4.2⟩
    have hall':fs.toList.all (fun f=>dh P f.type)=true:=by simpa using hall
    have hm:=mY (P:=P) (w:=w) fs.toList hall'
    have hm2:(fs.mapM (fun f=>do pure (f.offset,← sizeOf f.type):Field→Sem (Nat×Nat))).run P w=.ok (fs.toList.map fun f=>(f.offset,aH P f.type)).toArray w:=by
     rw[Array.mapM_eq_mapM_toList]
     have hb:∀(s:Sem (List (Nat×Nat))) (r:List (Nat×Nat)),s.run P w=.ok r w→((s.bind (Sem.pure ∘ List.toArray)):Sem (Array (Nat×Nat))).run P w=.ok r.toArray w:=by
      intro s r h
      show Sem.run P (s >>= (Sem.pure ∘ List.toArray)) w=_
      rw[Uv,h]
      rfl
     exact hb _ _ hm
    unfold Instr.build
    simp only[Uv,hv,UZ hu,Uu,hm2]
    have Yg:(fun (i:Nat)=>((fs.toList.map fun (f:Field)=>(f.offset,aH P f.type)).toArray)[i]?)=fun (i:Nat)=>(fs[i]?).map fun (f:Field)=>(f.offset,aH P f.type):=by
     funext i
     simp
    rw[Yg,h3]
    rfl
   ·cases hp;exact D'.elim
  ·cases hp;exact D'.elim
 ·rename_i z n e hz hu
  split at hp
  ·rename_i hk
   split at hp
   ·rename_i cs hf
    cases hp
    obtain⟨v,hv,hr⟩:=io (S:=S) (μ:=μ) (w:=w) hz
    obtain⟨vs,h3,h4⟩:=fS hH M' Wz z cs v.cells h1 h2 hr hf
    refine⟨.agg vs,?_,.agg _ _ h4.1 h4.2⟩
    unfold Instr.build
    simp only[Uv,hv,UZ hu,Uu,eC hk]
    rw[h3]
    rfl
   ·cases hp;exact D'.elim
  ·cases hp;exact D'.elim
 ·cases hp;exact D'.elim
theorem uz {w:World} {t K E:TypeId} {b clock:Nat} {arr:Array MapEntry} {k:ByteArray} (ht:P.underlying t=some (.map K E)) (hK:P.underlying K=some .string) (hb:w.heap[b]?=some (.map arr clock)) {r:Option (Nat×Value)} (hf:Instr.findNow .string (.string k) arr.toList 0=some r) {z:Value} (hz:r=none→(zeroValue E).run P w=.ok z w) (c:Bool) :
  (Instr.lookup t (.map (some b)) (.string k) c).run P w=.ok (if c then .tuple #[match r with | some (_,v)=>v | none=>z,.bool r.isSome]else match r with | some (_,v)=>v | none=>z) w:=by
 have hu:(underlying t).run P w=.ok (.map K E) w:=by simp[underlying,ht,Uv,Sem.run]
 have Yq:(underlying K).run P w=.ok .string w:=by simp[underlying,hK,Uv,Sem.run]
 have hg:(getObj b).run P w=.ok (.map arr clock) w:=by simp[getObj,Sem.run,hb]
 have hc:(Instr.checkKey arr.isEmpty 10000 K (.string k)).run P w=.ok () w:=by
  rw[show(10000:Nat)=9999+1 from rfl]
  unfold Instr.checkKey
  simp[Uv,Yq]
 have hk:(Instr.findKey K (.string k) arr.toList).run P w=.ok r w:=by
  simp[Instr.findKey,Uv,Yq,hf]
 cases r with
 | some q =>
  obtain⟨i,v⟩:=q
  cases c<;>simp[Instr.lookup,Uv,hu,hg,hc,hk]
 | none =>
  cases c<;>simp[Instr.lookup,Uv,hu,hg,hc,hk,hz rfl]
theorem xI {ag:Bool} {α:Type} {enc:α→List V} {l:List (ByteArray×α)} {arr:Array MapEntry} (h:ED S μ w ag enc l arr):arr.toList.length=l.length∧∀(i:Nat) (k':ByteArray) (x:α),l[i]?=some (k',x)→∃e,arr.toList[i]?=some e∧e.key=.string k'∧((ag=false→(enc x).length=1)∧aq S μ w (gE ag (enc x)) e.val) :=
 ⟨by simpa using h.1,fun i k' x hx=>by
  obtain⟨e,h1,h2,h3⟩:=h.2 i k' x hx
  exact⟨e,by simpa using h1,h2,h3⟩⟩
theorem GP {E:TypeId} {z:D} (hz:xH P E=some z):∃v,(zeroValue E).run P w=.ok v w∧aq S μ w z v:=by
 unfold xH at hz
 cases hi:P.info? E with
 | none=>simp[hi]at hz
 | some i =>
  cases hv:i.zero with
  | none=>simp[hi,hv]at hz
  | some v =>
   simp only[hi,hv,VZ,U4,UA]at hz
   refine⟨v,?_,hz ▸ aq.ofVal S μ w v⟩
   simp[zeroValue,typeInfo,hi,hv,Uv,Sem.run]
theorem Ic {ag:Bool} {α:Type} {enc:α→List V} {l:List (ByteArray×α)} {arr:Array MapEntry} {us:Nat→Nat→Value} (h4:arr.size=l.length) (h5:∀(i:Nat) (k:ByteArray) (x:α),l[i]?=some (k,x)→∃e,arr[i]?=some e∧e.key=.string k∧EC ag (enc x).length e.val (us i)) (h6:∀(i:Nat) (k:ByteArray) (x:α) (j:Nat) (y:V),l[i]?=some (k,x)→(enc x)[j]?=some y→eh S w y (us i j)) (h7:ag=false→∀p∈l,(enc p.2).length=1):ED S μ w ag enc l arr:=by
 refine⟨h4,fun i k x hx=>?_⟩
 obtain⟨e,e1,e2,e3⟩:=h5 i k x hx
 refine⟨e,e1,e2,fun ha=>h7 ha _ (UV hx),?_⟩
 unfold EC at e3
 cases ag
 ·simp only[Vi,V2]at e3
  have hl:=e3.1
  match hq:enc x,hl with
  | [y],_ =>
   rw[e3.2]
   exact .v _ _ (h6 i k x 0 y hx (by rw[hq];rfl))
 ·simp only[V5]at e3
  obtain⟨a,ha,hs,hg⟩:=e3
  rw[ha]
  show aq S μ w (.agg ((enc x).map D.v)) _
  refine .agg _ _ (by rw[UB];exact hs) (fun j y u hy hu=>?_)
  rw[UJ]at hy
  cases hq:(enc x)[j]? with
  | none=>rw[hq]at hy;cases hy
  | some v =>
   rw[hq]at hy
   cases hy
   have:=hg j (Up.1 hq).1
   rw[this]at hu
   cases hu
   exact .v _ _ (h6 i k x j v hx hq)
theorem EH {t K E:TypeId} {b clock:Nat} {arr:Array MapEntry} {ag:Bool} {α:Type} {enc:α→List V} {d0:α} {l:List (ByteArray×α)} {k:ByteArray} {c:Bool} {z:D} (hu:P.underlying t=some (.map K E)) (hK:P.underlying K=some .string) (hz:xH P E=some z) (hb:w.heap[b]?=some (.map arr clock)) (ZN:ED S μ w ag enc l arr) (D':dC z (gE ag (enc d0))) :
  ∃u,(Instr.lookup t (.map (some b)) (.string k) c).run P w=.ok u w∧aq S μ w (if c then .tup [gE ag (enc (ak d0 l k)),.v (.bool (bc l k))]else gE ag (enc (ak d0 l k))) u:=by
 obtain⟨m1,m2⟩:=xI ZN
 have hzv:∃v,(zeroValue E).run P w=.ok v w∧aq S μ w z v:=by
  unfold xH at hz
  cases hi:P.info? E with
  | none=>simp[hi]at hz
  | some i =>
   cases hv:i.zero with
   | none=>simp[hi,hv]at hz
   | some v =>
    simp only[hi,hv,VZ,U4,UA]at hz
    refine⟨v,?_,hz ▸ aq.ofVal S μ w v⟩
    simp[zeroValue,typeInfo,hi,hv,Uv,Sem.run]
 obtain⟨zv,hz1,hz2⟩:=hzv
 rcases Ib (R:=fun x v=>(ag=false→(enc x).length=1)∧aq S μ w (gE ag (enc x)) v) d0 k l arr.toList 0 m1 m2 with ⟨h1,h0,h2,h3⟩ | ⟨h1,i,e,y,h2,h3,h4,h5,h6,h7,h8⟩
 ·have hr:=uz (P:=P) hu hK hb h2 (z:=zv) (fun _=>hz1) c
  refine⟨_,hr,?_⟩
  rw[h0,h1]
  have hd:=D' S μ w zv hz2
  cases c
  ·exact hd
  ·refine .tup _ _ rfl (fun j y u hy hu=>?_)
   match j,hy,hu with
   | 0,hy,hu=>cases hy;cases hu;exact hd
   | 1,hy,hu=>cases hy;cases hu;exact .v _ _ (.bool _)
   | j+2,hy,hu=>simp at hy
 ·have hr:=uz (P:=P) hu hK hb h6 (z:=undef) (fun h=>by cases h) c
  refine⟨_,hr,?_⟩
  rw[h7,h1]
  cases c
  ·exact h5.2
  ·refine .tup _ _ rfl (fun j y u hy hu=>?_)
   match j,hy,hu with
   | 0,hy,hu=>cases hy;cases hu;exact h5.2
   | 1,hy,hu=>cases hy;cases hu;exact .v _ _ (.bool _)
   | j+2,hy,hu=>simp at hy
theorem xn {H:List aC} (hH:bz S μ w H) {t:TypeId} {x ix:D} {ux ui:Value} {c:Bool} {d:D} {p:Prop} (hx:aq S μ w x ux) (hi:aq S μ w ix ui) (hp:zl P H t x ix c=(d,p)) (D':p) :
  ∃u,(Instr.lookup t ux ui c).run P w=.ok u w∧aq S μ w d u:=by
 unfold zl at hp
 split at hp
 ·rename_i K E id k hu
  split at hp
  ·rename_i z t' ag α enc d0 l hK hz I'
   split at hp
   ·cases hp
    have e1:=cj hx
    have e2:=ga hi
    subst e1 e2
    obtain⟨b,arr,clock,hm,hb,ZN⟩:=hH.box id _ I'
    rw[hm]
    exact EH hu hK hz hb ZN D'
   ·cases hp;exact D'.elim
  ·cases hp;exact D'.elim
 ·rename_i K E ag α enc d0 l k hu
  split at hp
  ·rename_i z hK hz
   cases hp
   have e2:=ga hi
   subst e2
   have hr:=bL hx
   cases hr with
   | smn =>
    obtain⟨zv,hz1,hz2⟩:=GP (P:=P) (S:=S) (μ:=μ) (w:=w) hz
    have hu1:(underlying t).run P w=.ok (.map K E) w:=by simp[underlying,hu,Uv,Sem.run]
    have Yq:(underlying K).run P w=.ok .string w:=by simp[underlying,hK,Uv,Sem.run]
    have hc:(Instr.checkKey true 10000 K (.string k)).run P w=.ok () w:=by
     rw[show(10000:Nat)=9999+1 from rfl]
     unfold Instr.checkKey
     simp[Uv,Yq]
    have hf:(Instr.findKey K (.string k) ([]:List MapEntry)).run P w=.ok none w:=by simp[Instr.findKey,Uv,Yq,Instr.findNow]
    have hd:=D'.1 S μ w zv hz2
    cases c
    ·exact⟨zv,by simp[Instr.lookup,Uv,hu1,hc,hf,hz1],hd⟩
    ·refine⟨.tuple #[zv,.bool false],by simp[Instr.lookup,Uv,hu1,hc,hf,hz1],.tup _ _ rfl (fun j y u hy hu=>?_)⟩
     match j,hy,hu with
     | 0,hy,hu=>cases hy;cases hu;exact hd
     | 1,hy,hu=>cases hy;cases hu;exact .v _ _ (.bool _)
     | j+2,hy,hu=>simp at hy
   | sm _ _ _ _ b clock arr us h1 h2 h3 h4 h5 h6 =>
    exact EH hu hK hz h3 (Ic h4 h5 h6 D'.2) D'.1
  ·cases hp;exact D'.elim
 ·cases hp;exact D'.elim
theorem i1 {H:List aC} (hH:bz S μ w H) {ρ:Operand→D} {ρ':Operand→Value} (hρ:∀x,aq S μ w (ρ x) (ρ' x)) {o:Oper} {d:D} {p:Prop} (hp:gI P H ρ o.op=(d,p)) (D':p) :
  ∃u,(execOp ρ' o).run P w=.ok (.value u) w∧aq S μ w d u:=by
 have hv:∀(s:Sem Value) (u:Value),s.run P w=.ok u w→(do pure (.value (← s)):Sem Next).run P w=.ok (.value u) w:=by
  intro s u h
  simp only[Uv,h,Uu,UL]
 have hO:∀x:Option Operand,rF S μ w (x.map ρ) (x.map ρ'):=by
  intro x
  cases x with
  | none=>trivial
  | some x=>exact hρ x
 unfold gI at hp
 unfold execOp
 generalize ho:o.op=op at *
 cases op<;>(try simp only at hp)<;>(try (simp only[aR,Ux]at hp;obtain⟨_,rfl⟩:=hp;exact D'.elim))
 case move x=>cases hp;exact⟨_,rfl,hρ x⟩
 case assign x=>cases hp;exact⟨_,rfl,hρ x⟩
 case pick c a b =>
  unfold M6 at hp
  split at hp
  ·rename_i t hc
   have hb:=f9 (hc ▸ hρ c)
   cases t<;>cases hp
   ·exact⟨ρ' b,by simp only[Uv,hb,asBool,UL,Uu];rfl,hρ b⟩
   ·exact⟨ρ' a,by simp only[Uv,hb,asBool,UL,Uu];rfl,hρ a⟩
  ·cases hp;exact D'.elim
 case load t a =>
  obtain⟨u,h1,h2⟩:=uw hH (hρ a) hp D'
  exact⟨u,hv _ _ h1,h2⟩
 case nilCheck x =>
  have hx:=hρ x
  dsimp only
  unfold PM at hp
  split at hp
  ·rename_i hq
   cases hp
   rw[hq]at hx
   obtain⟨b,hb,e⟩:=oM hx
   rw[e]at hx ⊢
   exact⟨_,rfl,hx⟩
  ·rename_i hq
   cases hp
   rw[hq]at hx
   obtain⟨b,o',e,_⟩:=vW hx
   rw[e]at hx ⊢
   exact⟨_,rfl,hx⟩
  ·rename_i f a b hq
   cases hp
   rw[hq]at hx
   generalize ρ' x=u at *
   cases hx with
   | fn _ _ _ us vs h1 h2 h3 h4=>exact⟨_,rfl,.fn _ _ _ us vs h1 h2 h3 h4⟩
  ·rename_i id hq
   cases hp
   rw[hq]at hx
   generalize ρ' x=u at *
   cases hx with
   | yld _ l h1=>exact⟨_,rfl,.yld _ l h1⟩
  ·cases hp;exact D'.elim
 case binOp op t x y yt =>
  obtain⟨u,h1,h2⟩:=C9 x y (hρ x) (hρ y) hp D'
  exact⟨u,hv _ _ h1,h2⟩
 case unOp op t x =>
  obtain⟨u,h1,h2⟩:=GN (P:=P) (hρ x) hp D'
  exact⟨u,hv _ _ h1,h2⟩
 case convert src dst x =>
  obtain⟨u,h1,h2⟩:=A4 (hρ x) hp D'
  exact⟨u,hv _ _ h1,h2⟩
 case makeFunc fn first cap =>
  cases hp
  refine⟨_,hv _ _ rfl,.fn _ _ _ _ _ (by simp) (fun j y u hy hu=>?_) (by simp) (fun j y u hy hu=>?_)⟩
  ·simp only[UJ,UY,VA]at hy hu
   cases hj:first[j]? with
   | none=>rw[hj]at hy;cases hy
   | some x=>rw[hj]at hy hu;simp at hy hu;subst hy hu;exact hρ x
  ·simp only[UJ,UY,VA]at hy hu
   cases hj:cap[j]? with
   | none=>rw[hj]at hy;cases hy
   | some x=>rw[hj]at hy hu;simp at hy hu;subst hy hu;exact hρ x
 case slice t x lo hi mx =>
  obtain⟨u,h1,h2⟩:=zg (hρ x) (hO lo) (hO hi) (hO mx) hp D'
  exact⟨u,hv _ _ h1,h2⟩
 case fieldAddr s x f =>
  obtain⟨u,h1,h2⟩:=th (hρ x) hp D'
  exact⟨u,hv _ _ h1,h2⟩
 case field t x f =>
  obtain⟨u,h1,h2⟩:=zd (hρ x) hp D'
  exact⟨u,hv _ _ h1,h2⟩
 case indexAddr t x i =>
  obtain⟨u,h1,h2⟩:=ti hH (hρ x) (hρ i) hp D'
  exact⟨u,hv _ _ h1,h2⟩
 case index t x i =>
  obtain⟨u,h1,h2⟩:=ze (hρ x) (hρ i) hp D'
  exact⟨u,hv _ _ h1,h2⟩
 case lookup t x ix c =>
  obtain⟨u,h1,h2⟩:=xn hH (hρ x) (hρ ix) hp D'
  exact⟨u,hv _ _ h1,h2⟩
 case extract x i =>
  have hx:=hρ x
  unfold A5 at hp
  split at hp
  ·rename_i cs hq
   split at hp
   ·rename_i hi
    cases hp
    rw[hq]at hx
    obtain⟨us,e,h1,h2⟩:=vf hx
    rw[Ws]at hi
    have hu:us[i]?=some us[i]:=UM (by omega)
    refine⟨us[i],hv _ _ (by rw[e];simp only[Instr.extract,hu];rfl),?_⟩
    rw[bJ _ _ hi]
    exact h2 i _ _ (Uq hi) hu
   ·cases hp;exact D'.elim
  ·cases hp;exact D'.elim
 case build t M' =>
  obtain⟨u,h1,h2⟩:=zm (P:=P) hH (Wz:=M'.toList.map fun p=>(p.1,ρ' p.2)) (by simp) (fun j x u hx hu=>by
   simp only[UJ,UY]at hx hu
   cases hj:M'[j]? with
   | none=>rw[hj]at hx;cases hx
   | some q=>rw[hj]at hx hu;simp at hx hu;subst hx hu;exact hρ q.2) hp D'
  refine⟨u,hv _ _ ?_,h2⟩
  rw[← h1]
  congr 2
  exact(V7 (by simp))
 case call c =>
  obtain⟨callee,args,Zw⟩:=c
  simp only at hp
  split at hp
  ·rename_i hcal
   split at hp
   ·rename_i x t ha ht
    obtain⟨u,h1,h2⟩:=Da (P:=P) (ty:=o.type) hH (hρ x) hp D'
    refine⟨u,?_,h2⟩
    have ea:args=#[x]:=V7 (by simpa using ha)
    have et:Zw=#[t]:=V7 (by simpa using ht)
    subst ea et
    simp only[resolve,invoke,builtin,VX,Vn,VL,Uv,UL,Uu,h1]
   ·cases hp;exact D'.elim
  ·split at hp
   ·rename_i x y ha
    have ea:args=#[x,y]:=V7 (by simpa using ha)
    subst ea
    unfold Rj at hp
    split at hp
    ·rename_i k a k' b Yv Yi
     cases hp
     have e1:=b6 (Yv ▸ hρ x)
     have e2:=b6 (Yi ▸ hρ y)
     refine⟨.int k (A1 a b),?_,.v _ _ (.int _ _)⟩
     simp only[resolve,invoke,builtin,VX,Vn,VL,Uv,UL,Uu,e1,e2,Builtin.min_,List.foldlM_cons,List.foldlM_nil,Builtin.min2]
     rfl
    ·cases hp;exact D'.elim
   ·cases hp;exact D'.elim
  ·split at hp
   ·rename_i x y ha
    have ea:args=#[x,y]:=V7 (by simpa using ha)
    subst ea
    unfold Rj at hp
    split at hp
    ·rename_i k a k' b Yv Yi
     cases hp
     have e1:=b6 (Yv ▸ hρ x)
     have e2:=b6 (Yi ▸ hρ y)
     refine⟨.int k (NR a b),?_,.v _ _ (.int _ _)⟩
     simp only[resolve,invoke,builtin,VX,Vn,VL,Uv,UL,Uu,e1,e2,Builtin.max_,List.foldlM_cons,List.foldlM_nil,Builtin.max2]
     rfl
    ·cases hp;exact D'.elim
   ·cases hp;exact D'.elim
  ·cases hp;exact D'.elim
end
def qe:List (Nat×D)→Nat→D
 | [],_=>.junk
 | (s,d)::r,t=>if Nat.beq s t then d else qe r t
def uA:List (Nat×D)→Nat→List (Nat×D)
 | [],_=>[]
 | (s,d)::r,t=>if Nat.beq s t then uA r t else (s,d)::uA r t
def A7 (env:List (Nat×D)) (t:Nat) (d:D):List (Nat×D):=(t,d)::uA env t
def Ie (g:Nat):D:=match gK.find? (fun p=>Nat.beq p.1 g)with
 | some p=>.iptr p.2 0
 | none=>.junk
def fF (env:List (Nat×D)):Operand→D
 | .tmp t=>qe env t
 | .const v=>D.ofVal v
 | .func f=>.fn (.func f) [] []
 | .global g=>Ie g
theorem tn:∀{env:List (Nat×D)} {t:Nat},qe env t=.junk∨(t,qe env t)∈env
 | [],t=>.inl rfl
 | (s,d)::r,t=>by
  unfold qe
  cases h:Nat.beq s t
  ·simp only[Vi,V2]
   rcases tn (env:=r) (t:=t)with h | h
   ·exact .inl h
   ·exact .inr (UT _ h)
  ·simp only[V5]
   rw[UH]at h
   subst h
   exact .inr (UX ..)
theorem gJ:∀{env:List (Nat×D)} {t s:Nat} {d:D},(s,d)∈uA env t→(s,d)∈env∧s≠t
 | [],t,s,d,h=>by cases h
 | (s',d')::r,t,s,d,h=>by
  unfold uA at h
  cases hb:Nat.beq s' t
  ·simp only[hb,Vi,V2]at h
   rcases Vh.1 h with h | h
   ·cases h
    refine⟨UX ..,fun e=>?_⟩
    subst e
    rw[Nat.beq_refl]at hb
    cases hb
   ·exact⟨UT _ (gJ h).1,(gJ h).2⟩
  ·simp only[hb,V5]at h
   exact⟨UT _ (gJ h).1,(gJ h).2⟩
def br (μ:Nat→Value) (id:Nat) (u:Value):Nat→Value:=fun i=>if i=id then u else μ i
theorem aG (μ:Nat→Value) (id:Nat) (u:Value):br μ id u id=u:=Uw rfl
theorem aP (μ:Nat→Value) {id i:Nat} (u:Value) (h:i≠id):br μ id u i=μ i:=Ur h
theorem zn {a b:Nat} (h:a≠b):(!(Nat.beq a b))=true:=by
 cases hb:Nat.beq a b
 ·rfl
 ·exact absurd (by rwa [UH]at hb) h
def cF (id:Nat):List aC→Bool
 | []=>true
 | B::r=>aC.free id B&&cF id r
theorem dZ {id:Nat}:∀{H:List aC} {i:Nat} {B:aC},cF id H=true→H[i]?=some B→aC.free id B=true
 | B'::r,0,B,h,hm=>by
  simp only[cF,Uo]at h
  simp at hm
  subst hm
  exact h.1
 | B'::r,i+1,B,h,hm=>by
  simp only[cF,Uo]at h
  exact dZ h.2 (by simpa using hm)
def killD (id:Nat) (d:D):D:=if D.free id d then d else .junk
def mZ (id:Nat):List (Nat×D)→List (Nat×D)
 | []=>[]
 | (t,d)::r=>(t,killD id d)::mZ id r
def qf (id:Nat):List D→List D
 | []=>[]
 | d::r=>killD id d::qf id r
def aC.kill (id:Nat):aC→aC
 | .dead=>.dead
 | .var T cs=>.var T (qf id cs)
 | .arr E sz enc d l=>.arr E sz enc d l
 | .loop l tm nt env ps assign body state pending=>.loop l tm nt (mZ id env) ps assign body state pending
 | .frame tm env=>.frame tm (mZ id env)
 | .ro E sz enc d l=>.ro E sz enc d l
 | .mpb t ag enc d l=>.mpb t ag enc d l
 | .arrD E sz n gs cell=>if gs.all (fun g=>!(Nat.beq g id))then .arrD E sz n gs cell else .arrD E sz n (gs.filter (fun g=>!(Nat.beq g id))) (fun i j=>killD id (cell i j))
 | .grp n f=>.grp n f
 | .nest E sz n ce m f=>.nest E sz n ce m f
def di (id:Nat):List aC→List aC
 | []=>[]
 | B::r=>B.kill id::di id r
theorem lL (id:Nat) (d:D):D.free id (killD id d)=true:=by
 unfold killD
 cases h:D.free id d
 ·rfl
 ·simpa using h
theorem lM (id:Nat):∀env,cE id (mZ id env)=true
 | []=>rfl
 | (t,d)::r=>by simp[mZ,cE,lL,lM id r]
theorem v2 (id:Nat):∀cs,D.freeL id (qf id cs)=true
 | []=>rfl
 | d::r=>by simp[qf,D.freeL,lL,v2 id r]
theorem lN (id:Nat):∀H,cF id (di id H)=true
 | []=>rfl
 | B::r=>by
  simp only[di,cF,lN id r,Wo]
  cases B<;>first | (simp[aC.kill,aC.free,v2,lM];done) | skip
  rename_i E sz n gs cell
  simp only[aC.kill]
  split
  ·rename_i h;exact h
  ·simp[aC.free]
theorem gL {id:Nat}:∀{env:List (Nat×D)} {t:Nat} {d:D},(t,d)∈mZ id env→∃e,(t,e)∈env∧d=killD id e
 | (s,e)::r,t,d,h=>by
  rcases Vh.1 h with h | h
  ·cases h;exact⟨e,UX ..,rfl⟩
  ·obtain⟨e',h1,h2⟩:=gL h
   exact⟨e',UT _ h1,h2⟩
theorem xJ (id:Nat):∀(cs:List D) (j:Nat),(qf id cs)[j]?=(cs[j]?).map (killD id)
 | [],j=>by simp[qf]
 | d::r,0=>by simp[qf]
 | d::r,j+1=>by simp[qf,xJ id r j]
theorem rG (id:Nat):∀cs,(qf id cs).length=cs.length
 | []=>rfl
 | d::r=>by simp[qf,rG id r]
theorem gM (id:Nat):∀(H:List aC) (j:Nat),(di id H)[j]?=(H[j]?).map (aC.kill id)
 | [],j=>by simp[di]
 | d::r,0=>by simp[di]
 | d::r,j+1=>by simp[di,gM id r j]
theorem dc (id:Nat):∀H,(di id H).length=H.length
 | []=>rfl
 | d::r=>by simp[di,dc id r]
theorem gN (id:Nat) (B:aC):(B.kill id).live=B.live:=by cases B<;>first | rfl | (simp only[aC.kill];split<;>rfl)
theorem vi (id:Nat) (B:aC):(B.kill id).isRo=B.isRo:=by cases B<;>first | rfl | (simp only[aC.kill];split<;>rfl)
def St.kill (id:Nat) (st:St):St:=⟨mZ id st.env,di id st.heap⟩
def cA (H:List aC) (id:Nat) (B:aC):List aC:=if Nat.beq id H.length then H++[B]else H.set id B
theorem gO {H:List aC} {id:Nat} {B:aC} (WG:id≤H.length) (i:Nat):(cA H id B)[i]?=if i=id then some B else H[i]?:=by
 unfold cA
 cases h:Nat.beq id H.length
 ·have Xt:id≠H.length:=fun e=>by rw[e,Nat.beq_refl]at h;cases h
  simp only[Vi,V2]
  by_cases hi:i=id
  ·subst hi
   rw[Uw rfl,UI (by omega)]
  ·rw[Ur hi,UF (fun e=>hi e.symm)]
 ·simp only[V5]
  rw[UH]at h
  subst h
  by_cases hi:i=H.length
  ·subst hi
   simp
  ·rw[Ur hi]
   by_cases hl:i<H.length
   ·rw[UD hl]
   ·rw[U1 (by simp;omega),U1 (by omega)]
section
variable {C:ns} {S:Nat→Prop} {μ:Nat→Value} {st:St} {a:Act} {w w':World}
theorem bk.eval (h:bk C S μ st a w) (x:Operand):aq S μ w (fF st.env x) (a.eval x):=by
 cases x with
 | tmp t =>
  rcases tn (env:=st.env) (t:=t)with h1 | h1
  ·simp only[fF]
   rw[h1]
   exact .junk _
  ·exact(h.env _ _ h1).2
 | const v=>exact aq.ofVal S μ w v
 | func f=>exact .fn _ _ _ #[] #[] rfl (fun j y u hy _=>by simp at hy) rfl (fun j y u hy _=>by simp at hy)
 | global g =>
  show aq S μ w (Ie g) _
  unfold Ie
  split
  ·rename_i p hf
   have hm:=List.mem_of_find?_eq_some hf
   have hg:p.1=g:=by have:=List.find?_some hf;rwa [UH]at this
   obtain⟨p1,cs⟩:=p
   simp only at hg hm ⊢
   subst hg
   obtain⟨h1,h2,h3⟩:=h.glob p1 cs hm
   refine aq.iptr cs 0 p1 0 (fun j=>(w.cell? ⟨p1,j,none⟩).getD undef) h1 h2 (fun j y hy=>?_) (fun j y hy=>?_)
   ·obtain⟨u,hu,_⟩:=h3 j y hy
    rw[U5,hu];rfl
   ·obtain⟨u,hu,hr⟩:=h3 j y hy
    rw[hu];exact hr
  ·exact .junk _
theorem bk.put (h:bk C S μ st a w) {t:Nat} {d:D} {u:Value} (ht:t<C.nt) (hd:aq S μ w d u):bk C S μ ⟨A7 st.env t d,st.heap⟩ (a.put (some t) u) w:=by
 refine⟨h.os,h.tape,h.output,h.size,h.old,h.mono,h.new,h.slt,?_,h.heap,h.may,h.defers,by simp[Act.put,h.tsize],h.ro⟩
 intro s e hm
 rcases Vh.1 hm with hm | hm
 ·cases hm
  refine⟨ht,?_⟩
  have:(a.put (some t) u).tmps.getD t undef=u:=by
   have hts:t<a.tmps.size:=by rw[h.tsize];exact ht
   simp[Act.put,hts]
  rw[this]
  exact hd
 ·obtain⟨h1,h2⟩:=gJ hm
  obtain⟨q1,q2⟩:=h.env s e h1
  refine⟨q1,?_⟩
  have:(a.put (some t) u).tmps.getD s undef=a.tmps.getD s undef:=by
   simp only[Act.put,Vb]
   rw[Vk (fun e=>h2 e.symm)]
  rw[this]
  exact q2
theorem bk.weak (h:bk C S μ st a w) {env:List (Nat×D)} (he:∀t d,(t,d)∈env→d=.junk∧(∃e,(t,e)∈st.env)∨(t,d)∈st.env):bk C S μ ⟨env,st.heap⟩ a w :=
 ⟨h.os,h.tape,h.output,h.size,h.old,h.mono,h.new,h.slt,fun t d hm=>by
  rcases he t d hm with ⟨rfl,e,h1⟩ | h1
  ·exact⟨(h.env t e h1).1,.junk _⟩
  ·exact h.env t d h1,h.heap,h.may,h.defers,h.tsize,h.ro⟩
theorem aq.killD {d:D} {u:Value} {id:Nat} (h:aq S μ w d u):aq S μ w (killD id d) u:=by
 unfold Proofs.YtnlmlkbaflmgcaaGreat.killD
 split
 ·exact h
 ·exact .junk _
theorem aN.kill {u:Value} {B:aC} {id:Nat} (h:aN S μ w u B):aN S μ w u (B.kill id):=by
 cases B with
 | dead=>trivial
 | arr E sz enc d l=>exact h
 | ro E sz enc d l=>exact h
 | mpb t ag enc d l=>exact h
 | grp n f=>exact h
 | nest E sz n ce m f=>exact h
 | arrD E sz n gs cell =>
  simp only[aC.kill]
  split
  ·exact h
  ·obtain⟨h0,xs,h1,h3⟩:=h
   refine⟨fun i j k hi hj hk=>?_,xs,h1,fun i j hi hj=>?_⟩
   ·show D.free k (if D.free id (cell i j)=true then cell i j else .junk)=true
    split
    ·rename_i hf
     by_cases e:k=id
     ·subst e;exact hf
     ·refine h0 i j k hi hj (UU.2 fun g hg=>?_)
      by_cases e':g=id
      ·subst e'
       exact zn (fun h=>e h.symm)
      ·exact UU.1 hk g (Wp.2 ⟨hg,zn e'⟩)
    ·rfl
   ·obtain⟨z,hz,ho,hr⟩:=h3 i j hi hj
    exact⟨z,hz,ho,hr.killD⟩
 | var T cs =>
  obtain⟨b,vs,rfl,h1,h2,h3⟩:=h
  refine⟨b,vs,rfl,h1,by rw[rG];exact h2,fun j y x hy hx=>?_⟩
  rw[xJ]at hy
  cases hc:cs[j]? with
  | none=>rw[hc]at hy;cases hy
  | some e =>
   rw[hc]at hy
   simp only[U4,UA]at hy
   subst hy
   unfold killD
   split
   ·exact h3 j e x hc hx
   ·exact .junk _
 | loop l tm nt env ps assign body state pending =>
  obtain⟨r,rfl,h1,h2,h3,h4,h5,h6,h7,h7',h8⟩:=h
  refine⟨r,rfl,h1,h2,h3,h4,h5,h6,h7,h7',fun t d hm=>?_⟩
  obtain⟨e,q1,rfl⟩:=gL hm
  obtain⟨q2,q3⟩:=h8 t e q1
  refine⟨q2,?_⟩
  exact q3.killD
 | frame tm env =>
  obtain⟨rfl,h8⟩:=h
  refine⟨rfl,fun t d hm=>?_⟩
  obtain⟨e,q1,rfl⟩:=gL hm
  obtain⟨q2,q3⟩:=h8 t e q1
  refine⟨q2,?_⟩
  exact q3.killD
theorem bk.kill (h:bk C S μ st a w) (id:Nat):bk C S μ (st.kill id) a w:=by
 have hg:∀(i:Nat) (A:aC),(di id st.heap)[i]?=some A→∃B,st.heap[i]?=some B∧A=B.kill id:=by
  intro i A hA
  rw[gM]at hA
  cases hc:st.heap[i]? with
  | none=>rw[hc]at hA;cases hA
  | some B=>rw[hc]at hA;simp at hA;exact⟨B,rfl,hA.symm⟩
 refine⟨h.os,h.tape,h.output,h.size,h.old,h.mono,h.new,h.slt,?_,⟨?_,?_,?_⟩,?_,?_,h.tsize,?_⟩
 ·intro t d hm
  obtain⟨e,h1,rfl⟩:=gL hm
  obtain⟨q1,q2⟩:=h.env t e h1
  refine⟨q1,?_⟩
  unfold killD
  split
  ·exact q2
  ·exact .junk _
 ·intro i A hA
  obtain⟨B,hB,rfl⟩:=hg i A hA
  exact(h.heap.box i B hB).kill
 ·intro i j A B b hA hB la lb
  obtain⟨A',Xf,rfl⟩:=hg i A hA
  obtain⟨B',W3,rfl⟩:=hg j B hB
  rw[gN]at la lb
  exact h.heap.apart i j A' B' b Xf W3 la lb
 ·intro i A b hA la
  obtain⟨A',Xf,rfl⟩:=hg i A hA
  rw[gN]at la
  exact h.heap.notS i A' b Xf la
 ·intro i A b hA la
  obtain⟨A',Xf,rfl⟩:=hg i A hA
  rw[gN]at la
  exact h.may i A' b Xf la
 ·obtain⟨mk,d1,d2,d3⟩:=h.defers
  refine⟨mk,d1,d2,fun b hb=>?_⟩
  obtain⟨q1,q2,q3,q4⟩:=d3 b hb
  refine⟨q1,q2,q3,fun i A hA hl=>?_⟩
  obtain⟨A',Xf,rfl⟩:=hg i A hA
  rw[gN]at hl
  exact q4 i A' Xf hl
 ·intro i A b hA la
  obtain⟨A',Xf,rfl⟩:=hg i A hA
  rw[vi]at la
  exact h.ro i A' b Xf la
theorem bk.upd0 {id:Nat} {B:aC} {row:Option Nat} {u:Value} (h:bk C S μ st a w) (hg:w.grownBy w' row) (W0:∀k,row=some k→∃A,st.heap[id]?=some A∧A.live=true∧cx (μ id) k)
  (WG:id≤st.heap.length) (I':aN S (br μ id u) w' u B) (WB:∀b,cx u b→row=some b∨w.heap.size≤b)
  (Yp:μ id=u∨(cE id st.env=true∧cF id st.heap=true)) (X3:B.isRo=false:=by rfl):bk C S (br μ id u) ⟨st.env,cA st.heap id B⟩ a w':=by
 have hSrow:∀k,row=some k→¬S k:=fun k hk=>by
  obtain⟨A,h1,h2,h3⟩:=W0 k hk
  exact h.heap.notS id A k h1 h2 h3
 have hS:∀b,S b→w'.heap[b]?=w.heap[b]?:=fun b hb=>hg.block b (h.slt b hb) (fun e=>hSrow b e.symm hb)
 have hμd:∀d:D,(μ id=u∨D.free id d=true)→∀i,d.free i=false→br μ id u i=μ i:=by
  intro d hd i hi
  by_cases e:i=id
  ·subst e
   rcases hd with hd | hd
   ·rw[aG];exact hd.symm
   ·rw[hd]at hi;cases hi
  ·exact aP _ _ e
 have hBother:∀(i:Nat) (A:aC),i≠id→st.heap[i]?=some A→A.live=true→∀b,cx (μ i) b→w'.heap[b]?=w.heap[b]?:=by
  intro i A hi hA hl b hb
  refine hg.block b ((h.heap.box i A hA).lt hl b hb) (fun e=>?_)
  obtain⟨A',h1,h2,h3⟩:=W0 b e.symm
  exact hi (h.heap.apart i id A A' b hA h1 hl h2 hb h3)
 refine⟨hg.os.trans h.os,hg.tape.trans h.tape,hg.output.trans h.output,U6 h.size hg.size,?_,h.mono,h.new,fun b hb=>Vl (h.slt b hb) hg.size,?_,⟨?_,?_,?_⟩,?_,?_,h.tsize,?_⟩
 ·intro k hk
  rw[hg.block k (Vl hk h.size) (fun e=>?_)]
  ·exact h.old k hk
  ·obtain⟨A',h1,h2,h3⟩:=W0 k e.symm
   have h4:=h.may id A' k h1 h2 h3
   omega
 ·intro t d hm
  obtain⟨q1,q2⟩:=h.env t d hm
  exact⟨q1,q2.stable (fun _ h _=>h) (fun b hb _=>hS b hb) hg.size (hμd d (Yp.imp (fun h=>h) fun hf=>eH hf.1 hm))⟩
 ·intro i A hA
  rw[gO WG]at hA
  by_cases hi:i=id
  ·rw[Uw hi]at hA
   cases hA
   subst hi
   rw[aG]
   exact I'
  ·rw[Ur hi]at hA
   rw[aP _ _ hi]
   have key:(∀b,cx (μ i) b→w'.heap[b]?=w.heap[b]?)→aN S (br μ id u) w' (μ i) A:=fun hbo=>by
    refine(h.heap.box i A hA).stable (fun _ h _=>h) (fun b hb _=>hS b hb) hg.size (fun j hj=>?_) hbo
    by_cases e:j=id
    ·subst e
     rcases Yp with hf | hf
     ·rw[aG];exact hf.symm
     ·rw[dZ hf.2 hA]at hj;cases hj
    ·exact aP _ _ e
   rcases A.three with rfl | hl | hl
   ·trivial
   ·exact key (hBother i A hi hA hl)
   ·refine key (fun b hb=>hg.block b ((h.heap.box i A hA).ltR hl b hb) (fun e=>?_))
    obtain⟨A',h1,h2,h3⟩:=W0 b e.symm
    have h4:=h.may id A' b h1 h2 h3
    have h5:=h.ro i A b hA hl hb
    omega
 ·intro i j A A' b hA Xf la la' hb Xa
  rw[gO WG]at hA Xf
  have key:∀(i j:Nat) (A:aC),i≠id→st.heap[i]?=some A→A.live=true→cx (μ i) b→cx u b→False:=by
   intro i j A hi hA la hb hu
   have WL:=(h.heap.box i A hA).lt la b hb
   rcases WB b hu with hr | hr
   ·obtain⟨A',h1,h2,h3⟩:=W0 b hr
    exact hi (h.heap.apart i id A A' b hA h1 la h2 hb h3)
   ·omega
  by_cases hi:i=id
  ·by_cases hj:j=id
   ·rw[hi,hj]
   ·rw[Ur hj]at Xf
    rw[aP _ _ hj]at Xa
    rw[hi,aG]at hb
    exact(key j i A' hj Xf la' Xa hb).elim
  ·rw[Ur hi]at hA
   rw[aP _ _ hi]at hb
   by_cases hj:j=id
   ·rw[hj,aG]at Xa
    exact(key i j A hi hA la hb Xa).elim
   ·rw[Ur hj]at Xf
    rw[aP _ _ hj]at Xa
    exact h.heap.apart i j A A' b hA Xf la la' hb Xa
 ·intro i A b hA la hb hSb
  rw[gO WG]at hA
  by_cases hi:i=id
  ·rw[hi,aG]at hb
   rcases WB b hb with hr | hr
   ·exact hSrow b hr hSb
   ·have:=h.slt b hSb;omega
  ·rw[Ur hi]at hA
   rw[aP _ _ hi]at hb
   exact h.heap.notS i A b hA la hb hSb
 ·intro i A b hA la hb
  rw[gO WG]at hA
  by_cases hi:i=id
  ·rw[hi,aG]at hb
   rcases WB b hb with hr | hr
   ·obtain⟨A',h1,h2,h3⟩:=W0 b hr
    exact h.may id A' b h1 h2 h3
   ·exact U6 h.size hr
  ·rw[Ur hi]at hA
   rw[aP _ _ hi]at hb
   exact h.may i A b hA la hb
 ·obtain⟨mk,d1,d2,d3⟩:=h.defers
  refine⟨mk,d1,d2,fun b hb=>?_⟩
  obtain⟨q1,q2,q3,q4⟩:=d3 b hb
  have WL:b<w.heap.size:=(UC.1 q1).1
  have hnr:some b≠row:=fun e=>by
   obtain⟨A',r1,r2,r3⟩:=W0 b e.symm
   exact q4 id A' r1 r2 r3
  refine⟨by rw[hg.block b WL hnr];exact q1,q2,q3,fun i A hA hl hbi=>?_⟩
  rw[gO WG]at hA
  by_cases hi:i=id
  ·rw[hi,aG]at hbi
   rcases WB b hbi with hr | hr
   ·exact hnr hr.symm
   ·omega
  ·rw[Ur hi]at hA
   rw[aP _ _ hi]at hbi
   exact q4 i A hA hl hbi
 ·intro i A b hA la hb
  rw[gO WG]at hA
  by_cases hi:i=id
  ·rw[Uw hi]at hA
   cases hA
   rw[X3]at la
   cases la
  ·rw[Ur hi]at hA
   rw[aP _ _ hi]at hb
   exact h.ro i A b hA la hb
theorem bk.upd {id:Nat} {B:aC} {row:Option Nat} {u:Value} (h:bk C S μ st a w) (hg:w.grownBy w' row) (W0:∀k,row=some k→∃A,st.heap[id]?=some A∧A.live=true∧cx (μ id) k)
  (WG:id≤st.heap.length) (I':aN S (br μ id u) w' u B) (WB:∀b,cx u b→row=some b∨w.heap.size≤b)
  (Yp:(μ id=u∧(B.isArr=false∨∃A,st.heap[id]?=some A∧A.isArr=true))∨((∀A,st.heap[id]?=some A→A.isArr=true)∧cE id st.env=true∧cF id st.heap=true)) (X3:B.isRo=false:=by rfl):bk C S (br μ id u) ⟨st.env,cA st.heap id B⟩ a w':=h.upd0 hg W0 WG I' WB (Yp.imp (fun hf=>hf.1) fun hf=>hf.2) X3
end
def AU:V→V→Prop
 | .int k a,.int k' b=>if k==k' then a=b else False
 | .bool a,.bool b=>a=b
 | .str a,.str b=>a=b
 | .nilf,.nilf=>True
 | .nsl,.nsl=>True
 | .nsl,.sl _ _ _ l=>l=[]
 | .esl,.esl=>True
 | .esl,.sl _ _ _ l=>l=[]
 | .sl sz enc _ l,.sl W9 WF _ l'=>if Nat.beq sz W9 then l.map enc=l'.map WF else False
 | .sm ag enc _ l,.sm ag' WF _ l'=>if ag==ag' then l.map (fun p=>(p.1,enc p.2))=l'.map (fun p=>(p.1,WF p.2))else False
 | .nmp,.nmp=>True
 | .fnv f,.fnv g=>if Nat.beq f g then True else False
 | .nmp,.sm _ _ _ l=>l=[]
 | _,_=>False
def Ig:V→Prop
 | .nsl=>True
 | _=>False
def u2:D→D→Prop
 | .v x,.v y=>AU x y
 | .nils,.v (.sl _ _ _ l)=>l=[]
 | .nils,.v .nsl=>True
 | .v x,.nils=>Ig x
 | .iptr cs J',.iptr cs' off'=>if Nat.beq J' off' then cs=cs' else False
 | _,.junk=>True
 | x,y=>x=y
def PN:List D→List D→Prop
 | [],[]=>True
 | x::xs,y::ys=>u2 x y∧PN xs ys
 | _,_=>False
def xh:D→D→Prop
 | .agg xs,.agg ys=>PN xs ys
 | .tup xs,.tup ys=>PN xs ys
 | x,y=>u2 x y
def K7 (H:List aC):D→D→Prop
 | .own id,.v y=>match H[id]? with
  | some (.arr _ sz enc d l)=>AU (.sl sz enc d l) y
  | _=>False
 | x,y=>u2 x y
def PO (H:List aC):List D→List D→Prop
 | [],[]=>True
 | x::xs,y::ys=>K7 H x y∧PO H xs ys
 | _,_=>False
def M8 (H:List aC):D→D→Prop
 | .agg xs,.agg ys=>PO H xs ys
 | x,y=>K7 H x y
def PP (H:List aC):List D→List D→Prop
 | [],[]=>True
 | x::xs,y::ys=>M8 H x y∧PP H xs ys
 | _,_=>False
def Dc (H:List aC):List D→Option (List V)
 | []=>some []
 | .v x::r=>match Dc H r with | some xs=>some (x::xs) | none=>none
 | .nils::r=>match Dc H r with | some xs=>some (.nsl::xs) | none=>none
 | .own id::r=>match H[id]? with
  | some (.arr _ sz enc d l)=>(match Dc H r with | some xs=>some (.sl sz enc d l::xs) | none=>none)
  | _=>none
 | _=>none
def PC (H:List aC):D→D→Prop
 | .ptr id i _ J',.iptr cs o=>match H[id]? with
  | some (.var _ bcs)=>(match Nat.beq i 0&&Nat.beq J' o,Dc H bcs with | true,some vs=>vs=cs | _,_=>False)
  | _=>False
 | .own id,.v y=>match H[id]? with
  | some (.arrD _ sz n _ cell)=>sz=1∧∃(g m:Nat) (f:Nat→ry) (E2 Z6:Nat) (β:Type) (X4:β→List V) (d2:β) (l:List (List β)),H[g]?=some (.grp m f)∧n=l.length∧n≤m∧(∀i,i<n→cell i 0=.gr g i∧f i=⟨E2,Z6,β,X4,d2,l.getD i []⟩)∧AU (.sl 1 (fun r=>[V.sl Z6 X4 d2 r]) [] l) y
  | _=>K7 H (.own id) (.v y)
 | x,y=>K7 H x y
def PQ (H:List aC):List D→List D→Prop
 | [],[]=>True
 | x::xs,y::ys=>PC H x y∧PQ H xs ys
 | _,_=>False
def Rk (H:List aC):D→D→Prop
 | .agg xs,.agg ys=>PO H xs ys
 | .fn f a b,.fn f' a' b'=>f=f'∧PQ H a a'∧PQ H b b'
 | x,y=>PC H x y
def uB (H:List aC):List D→List D→Prop
 | [],[]=>True
 | x::xs,y::ys=>Rk H x y∧uB H xs ys
 | _,_=>False
def D.isOwn:D→Bool
 | .own _=>true
 | .ptr _ _ _ _=>true
 | _=>false
def gg:List D→Bool
 | []=>true
 | .own _::_=>false
 | .ptr _ _ _ _::_=>false
 | .agg cs::r=>cs.all (fun c=>!c.isOwn)&&gg r
 | .fn _ a b::r=>a.all (fun c=>!c.isOwn)&&(b.all (fun c=>!c.isOwn)&&gg r)
 | _::r=>gg r
def aC.mem:aC→Bool
 | .arr _ _ _ _ _=>true
 | .var _ _=>true
 | .arrD _ _ _ _ _=>true
 | .grp _ _=>true
 | _=>false
theorem aC.mem_live {B:aC} (h:B.mem=true):B.live=true:=by cases B<;>first | rfl | cases h
theorem aC.arr_mem {B:aC} (h:B.isArr=true):B.mem=true:=by cases B<;>first | rfl | cases h
mutual
def fm:D→Bool
 | .own _=>false
 | .ptr _ _ _ _=>false
 | .agg cs=>qJ cs
 | .tup cs=>qJ cs
 | .fn _ a b=>qJ a&&qJ b
 | .yld _=>false
 | .gr _ _=>false
 | _=>true
def qJ:List D→Bool
 | []=>true
 | c::cs=>fm c&&qJ cs
end
mutual
theorem gP (id:Nat):∀d:D,fm d=true→D.free id d=true
 | .own _,h=>by simp[fm]at h
 | .ptr _ _ _ _,h=>by simp[fm]at h
 | .agg cs,h=>by simp only[fm]at h;simp only[D.free];exact ip id cs h
 | .tup cs,h=>by simp only[fm]at h;simp only[D.free];exact ip id cs h
 | .fn _ a b,h=>by
  simp only[fm,Uo]at h
  simp only[D.free,Uo]
  exact⟨ip id a h.1,ip id b h.2⟩
 | .yld _,h=>by simp[fm]at h
 | .gr _ _,h=>by simp[fm]at h
 | .v _,_=>rfl
 | .nils,_=>rfl
 | .iptr _ _,_=>rfl
 | .capd _,_=>rfl
 | .junk,_=>rfl
theorem ip (id:Nat):∀cs:List D,qJ cs=true→D.freeL id cs=true
 | [],_=>rfl
 | c::cs,h=>by
  simp only[qJ,Uo]at h
  simp only[D.freeL,Uo]
  exact⟨gP id c h.1,ip id cs h.2⟩
end
def ah (P:Program) (f:FuncId) (q':List D) (H:List aC) (al:Bool) (r:D) (H':List aC):Prop :=
 ∀(S:Nat→Prop) (μ:Nat→Value) (w:World) (us:Array Value),(∀b,S b→b<w.heap.size)→gG S w→bz S μ w H→aU S μ w q' us →
  Calls P f us w (fun e w'=>∃(u:Value) (μ':Nat→Value) (S':Nat→Prop),e=.returned u∧w'.os=w.os∧w'.tape=w.tape∧w'.output=w.output∧w.heap.size≤w'.heap.size ∧
   (∀k,k<w.heap.size→(∀(i:Nat) (A:aC),H[i]?=some A→A.live=true→¬cx (μ i) k)→w'.heap[k]?=w.heap[k]?) ∧
   (∀b,S b→S' b)∧(∀b,S' b→S b∨w.heap.size≤b)∧(∀b,S' b→b<w'.heap.size) ∧
   aq (fun b=>S' b∧(al=true∨w.heap.size≤b)) μ' w' r u∧bz S' μ' w' H' ∧
   (∀(i:Nat) (A:aC) (b:Nat),H'[i]?=some A→A.live=true→cx (μ' i) b→w.heap.size≤b∨∃(j:Nat) (A':aC),H[j]?=some A'∧A'.live=true∧cx (μ j) b) ∧
   (∀(i:Nat) (A:aC),H[i]?=some A→A.isArr=false→A.live=true→μ' i=μ i))
section
variable {P:Program} {S:Nat→Prop} {μ:Nat→Value} {w:World}
theorem zo {α β:Type _} {f:α→β} {l:List α} {i:Nat} {x:α} (h:l[i]?=some x):(l.map f)[i]?=some (f x):=by rw[UJ,h];rfl
theorem eS {α β:Type _} {f:α→β} {l:List α} {i:Nat} {y:β} (h:(l.map f)[i]?=some y):∃x,l[i]?=some x∧f x=y:=by
 rw[UJ]at h
 cases hx:l[i]? with
 | none=>rw[hx]at h;cases h
 | some x=>rw[hx]at h;simp at h;exact⟨x,rfl,h⟩
theorem GQ {sz:Nat} {α β:Type} {enc:α→List V} {d:α} {l:List α} {WF:β→List V} {d':β} {l':List β} {u:Value} (h:eh S w (.sl sz enc d l) u) (he:l.map enc=l'.map WF) :
  eh S w (.sl sz WF d' l') u:=by
 have WA:l.length=l'.length:=by have:=congrArg List.length he;simpa using this
 obtain⟨p,c,rfl,h1,h2,h3,h4⟩:=ib h
 refine qI WA (by omega) h2 h3 (fun h0=>?_)
 obtain⟨b,J',us,q1,q2,q3,q4,q5,q6⟩:=h4 (by omega)
 have back:∀(i:Nat) (x:β),l'[i]?=some x→∃y,l[i]?=some y∧enc y=WF x:=fun i x hx=>eS (by rw[he];exact zo hx)
 refine⟨b,J',us,q1,q2,q3,fun i x hx=>?_,fun i x j y hx hy=>?_,fun i x j y hx hy=>?_⟩
 ·obtain⟨z,hz,e⟩:=back i x hx
  rw[← e];exact q4 i z hz
 ·obtain⟨z,hz,e⟩:=back i x hx
  exact q5 i z j y hz (by rw[e];exact hy)
 ·obtain⟨z,hz,e⟩:=back i x hx
  exact q6 i z j y hz (by rw[e];exact hy)
theorem GR {ag:Bool} {α β:Type} {enc:α→List V} {WF:β→List V} {d:α} {d':β} {l:List (ByteArray×α)} {l':List (ByteArray×β)} {u:Value} (h:eh S w (.sm ag enc d l) u) (he:l.map (fun p=>(p.1,enc p.2))=l'.map (fun p=>(p.1,WF p.2))):eh S w (.sm ag WF d' l') u:=by
 have WA:l.length=l'.length:=by have:=congrArg List.length he;simpa using this
 have back:∀(i:Nat) (k:ByteArray) (y:β),l'[i]?=some (k,y)→∃x,l[i]?=some (k,x)∧enc x=WF y:=fun i k y hy=>by
  have h1:(l'.map (fun p=>(p.1,WF p.2)))[i]?=some (k,WF y):=by rw[UJ,hy];rfl
  rw[← he,UJ]at h1
  cases hq:l[i]? with
  | none=>rw[hq]at h1;cases h1
  | some q =>
   rw[hq]at h1
   simp only[U4,UA,Ux]at h1
   exact⟨q.2,by rw[← h1.1],h1.2⟩
 cases h with
 | smn =>
  have:l'=[]:=U0 (by rw[← WA];rfl)
  subst this
  exact .smn _ _ _
 | sm _ _ _ _ b clock arr us h1 h2 h3 h4 h5 h6 =>
  refine .sm _ _ _ _ b clock arr us h1 h2 h3 (by rw[h4,WA]) (fun i k y hy=>?_) (fun i k y j z hy hz=>?_)
  ·obtain⟨x,hx,e⟩:=back i k y hy
   rw[← e];exact h5 i k x hx
  ·obtain⟨x,hx,e⟩:=back i k y hy
   exact h6 i k x j z hx (by rw[e];exact hz)
theorem vj {x y:V} {u:Value} (he:AU x y) (h:eh S w x u):eh S w y u:=by
 unfold AU at he
 split at he
 ·split at he
  ·rename_i hk
   rw[beq_iff_eq]at hk
   subst he hk
   exact h
  ·exact he.elim
 ·subst he;exact h
 ·subst he;exact h
 ·exact h
 ·exact h
 ·subst he;cases h;exact .nil _ _ _ _ _ (by simp[maxLen]) (fun _=>rfl)
 ·exact h
 ·subst he;cases h with
  | esl p c hc=>exact .nil _ _ _ _ _ hc (fun h=>by cases h)
 ·split at he
  ·rename_i hs
   rw[UH]at hs
   subst hs
   exact GQ h he
  ·exact he.elim
 ·split at he
  ·rename_i hs
   rw[beq_iff_eq]at hs
   subst hs
   exact GR h he
  ·exact he.elim
 ·exact h
 ·split at he
  ·rename_i hk
   rw[UH]at hk
   subst hk;exact h
  ·exact he.elim
 ·subst he;cases h;exact .smn _ _ _
 ·exact he.elim
theorem vk {x y:D} {u:Value} (he:u2 x y) (h:aq S μ w x u):aq S μ w y u:=by
 unfold u2 at he
 split at he
 ·exact .v _ _ (vj he (bL h))
 ·subst he
  cases h
  exact .v _ _ (.nil _ _ _ _ _ (by simp[maxLen]) (fun _=>rfl))
 ·cases h
  exact .v _ _ .nsl
 ·have h:=bL h
  unfold Ig at he
  split at he
  ·cases h;exact .nils
  ·exact he.elim
 ·split at he
  ·rename_i hs
   rw[UH]at hs
   subst he hs
   exact h
  ·exact he.elim
 ·exact .junk _
 ·subst he;exact h
theorem EI:∀{xs ys:List D} {us:Array Value},PN xs ys→aU S μ w xs us→aU S μ w ys us
 | xs,ys,us,he,h=>by
  have key:∀(xs ys:List D),PN xs ys→xs.length=ys.length∧∀(j:Nat) (y:D),ys[j]?=some y→∃x,xs[j]?=some x∧u2 x y:=by
   intro xs
   induction xs with
   | nil =>
    intro ys h
    cases ys with
    | nil=>exact⟨rfl,fun j y hy=>by simp at hy⟩
    | cons _ _=>exact h.elim
   | cons x xs ih =>
    intro ys h
    cases ys with
    | nil=>exact h.elim
    | cons y ys =>
     obtain⟨h1,h2⟩:=ih ys h.2
     refine⟨by simp[h1],fun j z hz=>?_⟩
     cases j with
     | zero=>simp at hz;subst hz;exact⟨x,rfl,h.1⟩
     | succ j=>simpa using h2 j z (by simpa using hz)
  obtain⟨h1,h2⟩:=key xs ys he
  exact⟨by rw[← h1];exact h.1,fun j y u hy hu=>by
   obtain⟨x,hx,Y3⟩:=h2 j y hy
   exact vk Y3 (h.2 j x u hx hu)⟩
theorem rH {x y:D} {u:Value} (he:xh x y) (h:aq S μ w x u):aq S μ w y u:=by
 unfold xh at he
 split at he
 ·obtain⟨us,rfl,h1,h2⟩:=eO h
  obtain⟨q1,q2⟩:=EI he ⟨h1,h2⟩
  exact .agg _ _ q1 q2
 ·obtain⟨us,rfl,h1,h2⟩:=vf h
  obtain⟨q1,q2⟩:=EI he ⟨h1,h2⟩
  exact .tup _ _ q1 q2
 ·exact vk he h
theorem Lf {S':Nat→Prop} {t:TypeId} {ag:Bool} {α:Type} {enc:α→List V} {d:α} {l:List (ByteArray×α)} {u:Value} (h:aN S μ w u (.mpb t ag enc d l)) (hS:∀b,S b→S' b) (V':∀b,cx u b→S' b):eh S' w (.sm ag enc d l) u:=by
 obtain⟨b,arr,clock,rfl,hb,hl,hh⟩:=h
 have st:∀{y:V} {z:Value},eh S w y z→eh S' w y z:=fun h=>h.stable (fun b hb _=>hS b hb) (fun _ _ _=>rfl) (Ut _)
 refine .sm ag enc d l b clock arr (fun i j=>if ag=true then (match (arr.getD i default).val with | .agg a=>a.getD j undef | _=>undef)else (arr.getD i default).val) (V' b (.inl rfl)) (UC.1 hb).1 hb hl (fun i k x hx=>?_) (fun i k x j y hx hy=>?_)
 ·obtain⟨e,e1,e2,e3,e4⟩:=hh i k x hx
  refine⟨e,e1,e2,?_⟩
  have hg:arr.getD i default=e:=by simp[Vb,e1]
  unfold EC
  cases ag
  ·simp only[Vi,V2]
   exact⟨e3 rfl,by rw[hg]⟩
  ·simp only[V5]
   obtain⟨a,ha,h1,h2⟩:=eO (show aq S μ w (.agg ((enc x).map D.v)) e.val from e4)
   rw[UB]at h1
   refine⟨a,ha,h1,fun j hj=>?_⟩
   rw[hg,ha]
   simp[Vb,UM (show j<a.size by omega)]
 ·obtain⟨e,e1,e2,e3,e4⟩:=hh i k x hx
  have hg:arr.getD i default=e:=by simp[Vb,e1]
  cases ag
  ·simp only[Vi,V2]
   rw[hg]
   have YI:=e3 rfl
   have hj:j=0:=by have:=(Up.1 hy).1;omega
   subst hj
   match hq:enc x,YI,hy with
   | [y'],_,hy =>
    cases hy
    have e4:aq S μ w (gE false (enc x)) e.val:=e4
    rw[hq]at e4
    exact st (bL e4)
  ·simp only[V5]
   obtain⟨a,ha,h1,h2⟩:=eO (show aq S μ w (.agg ((enc x).map D.v)) e.val from e4)
   rw[UB]at h1
   have hj:=(Up.1 hy).1
   rw[hg,ha]
   have hu:a[j]?=some (a.getD j undef):=by simp[Vb,UM (show j<a.size by omega)]
   exact st (bL (h2 j (.v y) _ (by rw[UJ,hy];rfl) hu))
theorem A8 {S':Nat→Prop} {E sz:Nat} {α:Type} {enc:α→List V} {d:α} {l:List α} {u:Value} (h:aN S μ w u (.arr E sz enc d l)) (hS:∀b,S b→S' b) (V':∀b,cx u b→S' b):eh S' w (.sl sz enc d l) u:=by
 have WL:=h.lt rfl
 obtain⟨p,c,hu,q1,q2,q3,q4⟩:=cN h
 subst hu
 refine qI rfl q1 q2 q3 (fun h0=>?_)
 obtain⟨g,rfl⟩:=q4 h0
 obtain⟨r1,xs,r2,r3⟩:=h
 refine⟨g,0,fun i j=>xs.getD (i*sz+j) undef,rfl,V' g (.inl rfl),WL g (.inl rfl),r1,fun i x j y hx hy=>?_,fun i x j y hx hy=>?_⟩
 ·obtain⟨z,hz,_⟩:=r3 i x j y hx hy
  rw[U5,kS r2 (b:=g) rfl _ _ hz]
  simp[List.getD,hz]
 ·obtain⟨z,hz,hr⟩:=r3 i x j y hx hy
  have:xs.getD (i*sz+j) undef=z:=by simp[List.getD,hz]
  show eh S' w y (xs.getD (i*sz+j) undef)
  rw[this]
  exact hr.stable (fun b hb _=>hS b hb) (fun _ _ _=>rfl) (Ut _)
theorem j6 {S':Nat→Prop} {E sz:Nat} {α:Type} {enc:α→List V} {d:α} {l:List α} {u:Value} (h:aN S μ w u (.arr E sz enc d l)) (hS:∀b,S b→S' b) (V':∀b,cx u b→S' b)
  (Xc:∀b,S b→b<w.heap.size):eh S' w (.sl sz enc d l) u:=by
 have WL:=h.lt rfl
 obtain⟨p,c,hu,q1,q2,q3,q4⟩:=cN h
 subst hu
 refine qI rfl q1 q2 q3 (fun h0=>?_)
 obtain⟨g,rfl⟩:=q4 h0
 obtain⟨r1,xs,r2,r3⟩:=h
 refine⟨g,0,fun i j=>xs.getD (i*sz+j) undef,rfl,V' g (.inl rfl),WL g (.inl rfl),r1,fun i x j y hx hy=>?_,fun i x j y hx hy=>?_⟩
 ·obtain⟨z,hz,_⟩:=r3 i x j y hx hy
  rw[U5,kS r2 (b:=g) rfl _ _ hz]
  simp[List.getD,hz]
 ·obtain⟨z,hz,hr⟩:=r3 i x j y hx hy
  have:xs.getD (i*sz+j) undef=z:=by simp[List.getD,hz]
  show eh S' w y (xs.getD (i*sz+j) undef)
  rw[this]
  exact hr.stable (fun b hb _=>hS b hb) (fun _ _ _=>rfl) (Ut _)
theorem oO {H:List aC} {S':Nat→Prop} (hH:bz S μ w H) (hS:∀b,S b→S' b) (Xc:∀b,S b→b<w.heap.size) {x y:D} (V':(∀(i:Nat) (A:aC) (b:Nat),H[i]?=some A→A.isArr=true→cx (μ i) b→S' b)∨x.isOwn=false) {u:Value} (he:K7 H x y) (h:aq S μ w x u):aq S' μ w y u:=by
 unfold K7 at he
 split at he
 ·rename_i id y
  split at he
  ·rename_i E sz α enc d l hb
   have hu:=cj h
   subst hu
   have ho:∀b,cx (μ id) b→S' b:=fun b Xa=>by
    rcases V' with V' | V'
    ·exact V' id _ b hb rfl Xa
    ·cases V'
   exact .v _ _ (vj he (j6 (hH.box id _ hb) hS ho Xc))
  ·exact he.elim
 ·exact vk he (h.stable (fun b hb _=>hS b hb) (fun _ _ _=>rfl) (Ut _) (fun _ _=>rfl))
theorem vo {H:List aC}:∀{xs ys:List D},PO H xs ys→xs.length=ys.length∧∀(j:Nat) (y:D),ys[j]?=some y→∃x,xs[j]?=some x∧K7 H x y
 | [],[],_=>⟨rfl,fun j y hy=>by simp at hy⟩
 | [],_::_,h=>h.elim
 | _::_,[],h=>h.elim
 | x::xs,y::ys,h=>by
  obtain⟨h1,h2⟩:=vo h.2
  refine⟨by simp[h1],fun j z hz=>?_⟩
  cases j with
  | zero=>simp at hz;subst hz;exact⟨x,rfl,h.1⟩
  | succ j=>simpa using h2 j z (by simpa using hz)
theorem zp {H:List aC}:∀{xs ys:List D},PP H xs ys→xs.length=ys.length∧∀(j:Nat) (y:D),ys[j]?=some y→∃x,xs[j]?=some x∧M8 H x y
 | [],[],_=>⟨rfl,fun j y hy=>by simp at hy⟩
 | [],_::_,h=>h.elim
 | _::_,[],h=>h.elim
 | x::xs,y::ys,h=>by
  obtain⟨h1,h2⟩:=zp h.2
  refine⟨by simp[h1],fun j z hz=>?_⟩
  cases j with
  | zero=>simp at hz;subst hz;exact⟨x,rfl,h.1⟩
  | succ j=>simpa using h2 j z (by simpa using hz)
theorem gQ:∀{l:List D},gg l=true→∀(j:Nat) (x:D),l[j]?=some x→x.isOwn=false∧(∀cs,x=.agg cs→∀c∈cs,D.isOwn c=false)∧∀f a b,x=.fn f a b→(∀c∈a,D.isOwn c=false)∧∀c∈b,D.isOwn c=false
 | [],_,j,x,hx=>by simp at hx
 | d::l,h,j,x,hx=>by
  have hl:gg l=true:=by
   cases d<;>simp_all [gg]
  cases j with
  | zero =>
   simp at hx
   subst hx
   refine⟨by cases d<;>first | rfl | (simp[gg]at h),?_,?_⟩
   ·rintro cs rfl c hc
    simp only[gg,Uo,UU]at h
    simpa using h.1 c hc
   ·rintro f a b rfl
    simp only[gg,Uo,UU]at h
    exact⟨fun c hc=>by simpa using h.1 c hc,fun c hc=>by simpa using h.2.1 c hc⟩
  | succ j=>exact gQ hl j x (by simpa using hx)
theorem Lg {H:List aC} {S':Nat→Prop} (hH:bz S μ w H) (hS:∀b,S b→S' b) (Xc:∀b,S b→b<w.heap.size) {ds q':List D}
  (V':(∀(i:Nat) (A:aC) (b:Nat),H[i]?=some A→A.isArr=true→cx (μ i) b→S' b)∨gg ds=true) {us:Array Value} (he:PP H ds q') (h:aU S μ w ds us):aU S' μ w q' us:=by
 obtain⟨h1,h2⟩:=zp he
 refine⟨by rw[← h1];exact h.1,fun j y u hy hu=>?_⟩
 obtain⟨x,hx,Y3⟩:=h2 j y hy
 have YH:=h.2 j x u hx hu
 unfold M8 at Y3
 split at Y3
 ·rename_i xs ys
  obtain⟨vs,rfl,q1,q2⟩:=eO YH
  obtain⟨r1,r2⟩:=vo Y3
  refine .agg _ _ (by rw[← r1];exact q1) (fun k z v hz hv=>?_)
  obtain⟨x',YV,ZM⟩:=r2 k z hz
  exact oO hH hS Xc (V'.imp id fun hn=>(gQ hn j _ hx).2.1 _ rfl x' (UV YV)) ZM (q2 k x' v YV hv)
 ·exact oO hH hS Xc (V'.imp id fun hn=>(gQ hn j _ hx).1) Y3 YH
theorem A9 {H:List aC} {S':Nat→Prop} (hH:bz S μ w H) (hS:∀b,S b→S' b) (Xc:∀b,S b→b<w.heap.size) (V':∀(i:Nat) (A:aC) (b:Nat),H[i]?=some A→A.mem=true→cx (μ i) b→S' b) :
  ∀{cs:List D} {vs:List V},Dc H cs=some vs→vs.length=cs.length∧∀(j:Nat) (y:V),vs[j]?=some y→∃x,cs[j]?=some x∧∀u,aq S μ w x u→eh S' w y u
 | [],vs,h=>by cases h;exact⟨rfl,fun j y hy=>by simp at hy⟩
 | c::r,vs,h=>by
  have key:∃y0 ys,vs=y0::ys∧Dc H r=some ys∧∀u,aq S μ w c u→eh S' w y0 u:=by
   unfold Dc at h
   split at h
   ·rename_i he
    cases he
   ·rename_i x r' he
    cases he
    split at h
    ·rename_i xs hxs
     cases h
     exact⟨_,_,rfl,hxs,fun u hu=>(bL hu).stable (fun b hb _=>hS b hb) (fun _ _ _=>rfl) (Ut _)⟩
    ·cases h
   ·rename_i r' he
    cases he
    split at h
    ·rename_i xs hxs
     cases h
     exact⟨_,_,rfl,hxs,fun u hu=>by cases hu;exact .nsl⟩
    ·cases h
   ·rename_i id r' he
    cases he
    split at h
    ·rename_i E sz α enc d l hb
     split at h
     ·rename_i xs hxs
      cases h
      exact⟨_,_,rfl,hxs,fun u hu=>by rw[cj hu];exact j6 (hH.box id _ hb) hS (fun b Xa=>V' id _ b hb rfl Xa) Xc⟩
     ·cases h
    ·cases h
   ·cases h
  obtain⟨y0,ys,rfl,h1,h2⟩:=key
  obtain⟨q1,q2⟩:=A9 hH hS Xc V' h1
  refine⟨by simp[q1],fun j y hy=>?_⟩
  cases j with
  | zero=>simp at hy;subst hy;exact⟨c,rfl,h2⟩
  | succ j=>simpa using q2 j y (by simpa using hy)
theorem zq {H:List aC} {S':Nat→Prop} (hH:bz S μ w H) (hS:∀b,S b→S' b) (Xc:∀b,S b→b<w.heap.size) {x y:D} (V':(∀(i:Nat) (A:aC) (b:Nat),H[i]?=some A→A.mem=true→cx (μ i) b→S' b)∨x.isOwn=false) {u:Value} (he:PC H x y) (h:aq S μ w x u):aq S' μ w y u:=by
 unfold PC at he
 split at he
 ·rename_i id i sz J' cs o
  split at he
  ·rename_i T bcs hb
   have X0:∀(i:Nat) (A:aC) (b:Nat),H[i]?=some A→A.mem=true→cx (μ i) b→S' b:=by
    rcases V' with V' | V'
    ·exact V'
    ·cases V'
   split at he
   ·rename_i vs hc hv
    subst he
    simp only[Uo,UH]at hc
    obtain⟨rfl,rfl⟩:=hc
    obtain⟨b,XK,rfl⟩:=oM h
    obtain⟨b',us,hu,h1,h2,h3⟩:=hH.box id _ hb
    rw[hu]at XK
    simp[cx,aO]at XK
    subst XK
    obtain⟨q1,q2⟩:=A9 hH hS Xc X0 hv
    have WL:b'<w.heap.size:=(UC.1 h1).1
    have:=aq.iptr (S:=S') (μ:=μ) (w:=w) vs J' b' 0 (fun j=>us.getD j undef) (X0 id _ b' hb rfl (by rw[hu];exact .inl rfl)) WL (fun j y hy=>?_) (fun j y hy=>?_)
    ·simpa using this
    ·have hj:j<us.size:=by rw[h2,← q1];exact(Up.1 hy).1
     unfold World.cell?
     simp only[U5,h1]
     simp[Array.getD,hj]
    ·obtain⟨x,hx,hr⟩:=q2 j y hy
     have hj:j<us.size:=by rw[h2,← q1];exact(Up.1 hy).1
     have Yq:us[j]?=some (us.getD j undef):=by simp[Array.getD,hj]
     exact hr _ (h3 j x _ hx Yq)
   ·exact he.elim
  ·exact he.elim
 ·rename_i id y
  split at he
  ·rename_i E sz n gs cell hb
   obtain⟨rfl,g,m,f,E2,Z6,β,X4,d2,l,hg,rfl,XX,Xy,hy⟩:=he
   have X0:∀(i:Nat) (A:aC) (b:Nat),H[i]?=some A→A.mem=true→cx (μ i) b→S' b:=by
    rcases V' with V' | V'
    ·exact V'
    ·cases V'
   have hu:=cj h
   subst hu
   obtain⟨r0,xs,r1,r2⟩:=hH.box id _ hb
   obtain⟨us,hgu,WE,W0,_⟩:=hH.box g _ hg
   have hB:aN S' μ w (μ id) (.arr E 1 (fun r=>[V.sl Z6 X4 d2 r]) [] l):=by
    refine⟨fun i x _=>rfl,xs,r1,fun i x j v hx hv=>?_⟩
    have hi:i<l.length:=(Up.1 hx).1
    have hj:j=0:=by
     have:=(Up.1 hv).1
     simp at this
     omega
    subst hj
    simp only[List.getElem?_cons_zero,UA]at hv
    subst hv
    obtain⟨z,hz,_,hd⟩:=r2 i 0 hi (by omega)
    rw[(Xy i hi).1]at hd
    refine⟨z,hz,?_⟩
    cases hd with
    | gr _ _ XZ _ h1 h2 h3 =>
     rw[hgu]at h1
     cases h1
     have hrr:=(W0 i z h2).2
     rw[(Xy i hi).2,show l.getD i []=x by rw[bJ _ _ hi];exact(Up.1 hx).2]at hrr
     exact A8 (μ:=μ) (E:=E2) hrr hS (fun b Xa=>X0 g _ b hg rfl (by
      rw[hgu]
      exact .inr ⟨us,rfl,i,z,h2,Xa.bl h3⟩))
   exact .v _ _ (vj hy (A8 hB (fun _ h=>h) (fun b Xa=>X0 id _ b hb rfl Xa)))
  ·exact oO hH hS Xc (V'.imp (fun hn i A b h1 h2 h3=>hn i A b h1 (aC.arr_mem h2) h3) (fun z=>z)) he h
 ·exact oO hH hS Xc (V'.imp (fun hn i A b h1 h2 h3=>hn i A b h1 (aC.arr_mem h2) h3) id) he h
theorem zs {H:List aC}:∀{xs ys:List D},PQ H xs ys→xs.length=ys.length∧∀(j:Nat) (y:D),ys[j]?=some y→∃x,xs[j]?=some x∧PC H x y
 | [],[],_=>⟨rfl,fun j y hy=>by simp at hy⟩
 | [],_::_,h=>h.elim
 | _::_,[],h=>h.elim
 | x::xs,y::ys,h=>by
  obtain⟨h1,h2⟩:=zs h.2
  refine⟨by simp[h1],fun j z hz=>?_⟩
  cases j with
  | zero=>simp at hz;subst hz;exact⟨x,rfl,h.1⟩
  | succ j=>simpa using h2 j z (by simpa using hz)
theorem EJ {H:List aC}:∀{xs ys:List D},uB H xs ys→xs.length=ys.length∧∀(j:Nat) (y:D),ys[j]?=some y→∃x,xs[j]?=some x∧Rk H x y
 | [],[],_=>⟨rfl,fun j y hy=>by simp at hy⟩
 | [],_::_,h=>h.elim
 | _::_,[],h=>h.elim
 | x::xs,y::ys,h=>by
  obtain⟨h1,h2⟩:=EJ h.2
  refine⟨by simp[h1],fun j z hz=>?_⟩
  cases j with
  | zero=>simp at hz;subst hz;exact⟨x,rfl,h.1⟩
  | succ j=>simpa using h2 j z (by simpa using hz)
theorem oP {H:List aC} {S':Nat→Prop} (hH:bz S μ w H) (hS:∀b,S b→S' b) (Xc:∀b,S b→b<w.heap.size) {ds q':List D}
  (V':(∀(i:Nat) (A:aC) (b:Nat),H[i]?=some A→A.mem=true→cx (μ i) b→S' b)∨gg ds=true) {us:Array Value} (he:uB H ds q') (h:aU S μ w ds us):aU S' μ w q' us:=by
 obtain⟨h1,h2⟩:=EJ he
 refine⟨by rw[← h1];exact h.1,fun j y u hy hu=>?_⟩
 obtain⟨x,hx,Y3⟩:=h2 j y hy
 have YH:=h.2 j x u hx hu
 unfold Rk at Y3
 split at Y3
 ·rename_i xs ys
  obtain⟨vs,rfl,q1,q2⟩:=eO YH
  obtain⟨r1,r2⟩:=vo Y3
  refine .agg _ _ (by rw[← r1];exact q1) (fun k z v hz hv=>?_)
  obtain⟨x',YV,ZM⟩:=r2 k z hz
  refine oO hH hS Xc ?_ ZM (q2 k x' v YV hv)
  rcases V' with V' | hn
  ·exact .inl (fun i A b h1 h2 h3=>V' i A b h1 (aC.arr_mem h2) h3)
  ·exact .inr ((gQ hn j _ hx).2.1 _ rfl x' (UV YV))
 ·rename_i f a b f' a' b'
  obtain⟨rfl,ha,hb⟩:=Y3
  obtain⟨a1,a2⟩:=zs ha
  obtain⟨b1,b2⟩:=zs hb
  cases YH with
  | fn _ _ _ us vs q1 q2 q3 q4 =>
   refine .fn _ _ _ us vs (by rw[← a1];exact q1) (fun k z v hz hv=>?_) (by rw[← b1];exact q3) (fun k z v hz hv=>?_)
   ·obtain⟨x',YV,ZM⟩:=a2 k z hz
    exact zq hH hS Xc (V'.imp id fun hn=>((gQ hn j _ hx).2.2 _ _ _ rfl).1 x' (UV YV)) ZM (q2 k x' v YV hv)
   ·obtain⟨x',YV,ZM⟩:=b2 k z hz
    exact zq hH hS Xc (V'.imp id fun hn=>((gQ hn j _ hx).2.2 _ _ _ rfl).2 x' (UV YV)) ZM (q4 k x' v YV hv)
 ·exact zq hH hS Xc (V'.imp id fun hn=>(gQ hn j _ hx).1) Y3 YH
end
section
variable {C:ns} {S:Nat→Prop} {μ:Nat→Value} {st:St} {a:Act} {w w':World}
theorem bk.grow (h:bk C S μ st a w) {S':Nat→Prop} (h1:w'.os=w.os) (h2:w'.tape=w.tape) (h3:w'.output=w.output) (h4:w.heap.size≤w'.heap.size) (h5:∀k,k<w.heap.size→w'.heap[k]?=w.heap[k]?)
  (h6:∀b,S b→S' b) (h7:∀b,S' b→S b∨w.heap.size≤b) (h8:∀b,S' b→b<w'.heap.size):bk C S' μ st a w':=by
 have WB:∀(i:Nat) (A:aC),st.heap[i]?=some A→A.live=true→∀b,cx (μ i) b→w'.heap[b]?=w.heap[b]?:=fun i A hA hl b hb=>h5 b ((h.heap.box i A hA).lt hl b hb)
 refine⟨h1.trans h.os,h2.trans h.tape,h3.trans h.output,U6 h.size h4,fun k hk=>by rw[h5 k (Vl hk h.size)];exact h.old k hk,fun b hb=>h6 b (h.mono b hb),?_,h8,?_,⟨?_,h.heap.apart,?_⟩,h.may,?_,h.tsize,h.ro⟩
 ·intro b hb
  rcases h7 b hb with hb | hb
  ·exact h.new b hb
  ·exact .inr (U6 h.size hb)
 ·intro t d hm
  obtain⟨q1,q2⟩:=h.env t d hm
  exact⟨q1,q2.stable (fun b hb _=>h6 b hb) (fun b hb hl=>h5 b hl) h4 (fun _ _=>rfl)⟩
 ·intro i A hA
  rcases A.three with rfl | hl | hl
  ·trivial
  ·exact(h.heap.box i A hA).stable (fun b hb _=>h6 b hb) (fun b hb hl=>h5 b hl) h4 (fun _ _=>rfl) (WB i A hA hl)
  ·exact(h.heap.box i A hA).stable (fun b hb _=>h6 b hb) (fun b hb hl=>h5 b hl) h4 (fun _ _=>rfl) (fun b hb=>h5 b ((h.heap.box i A hA).ltR hl b hb))
 ·intro i A b hA hl hb hS
  rcases h7 b hS with hS | hS
  ·exact h.heap.notS i A b hA hl hb hS
  ·have:=(h.heap.box i A hA).lt hl b hb
   omega
 ·obtain⟨mk,d1,d2,d3⟩:=h.defers
  refine⟨mk,d1,d2,fun b hb=>?_⟩
  obtain⟨q1,q2,q3,q4⟩:=d3 b hb
  have WL:b<w.heap.size:=(UC.1 q1).1
  exact⟨by rw[h5 b WL];exact q1,q2,fun Xa=>(h7 b Xa).elim q3 (fun h=>by omega),q4⟩
theorem bk.callCore (h:bk C S μ st a w) {f:FuncId} {q':List D} {al:Bool} {r:D} {us:Array Value} (hc:ah C.P f q' [] al r []) {S1:Nat→Prop} (h1:∀b,S b→S1 b) (h2:∀b,S1 b→b<w.heap.size)
  (h3:al=true→∀b,S1 b→S b) (WX:aU S1 μ w q' us) (hr:fm r=true) {K:Value→World→Prop} (hK:∀S' u w',bk C S' μ st a w'→aq S' μ w' r u→K u w') :
  Calls C.P f us w (fun e w'=>∃u,e=.returned u∧K u w'):=by
 have slt:=h.slt
 refine(hc S1 μ w us h2 (h.glob.stable (fun b hb _=>h1 b hb) (fun _ _ _=>rfl) (Ut _)) ⟨fun id B hB=>by simp at hB,fun i j A B b hA=>by simp at hA,fun i A b hA=>by simp at hA⟩ WX).mono ?_
 rintro e w' ⟨u,μ',S',rfl,q1,q2,q3,q4,q5,q6,q7,q8,q9,_⟩
 refine⟨u,rfl,hK (fun b=>S b∨(S' b∧w.heap.size≤b)) u w' (h.grow q1 q2 q3 q4 (fun k hk=>q5 k hk (fun i A hA=>by simp at hA)) (fun b hb=>.inl hb) ?_ ?_) ?_⟩
 ·rintro b (hb | ⟨_,hb⟩)
  ·exact .inl hb
  ·exact .inr hb
 ·rintro b (hb | ⟨hb,_⟩)
  ·exact Vl (slt b hb) q4
  ·exact q8 b hb
 ·refine q9.stable ?_ (fun _ _ _=>rfl) (Ut _) (fun id WG=>by rw[gP id r hr]at WG;cases WG)
  rintro b ⟨hb,X7⟩ _
  rcases q7 b hb with hb3 | hb3
  ·rcases X7 with X7 | X7
   ·exact .inl (h3 X7 b hb3)
   ·exact .inr ⟨hb,X7⟩
  ·exact .inr ⟨hb,hb3⟩
def qK (P:Program) (g:FuncId) (H:List aC) (ds:List D) (q':Option (List D)) (al:Bool) (r:D):Prop :=
 match q' with
 | none=>ah P g ds [] al r []
 | some q'=>uB H ds q'∧ah P g q' [] al r []
theorem bk.callPure (h:bk C S μ st a w) {f:FuncId} {ds:List D} {q':Option (List D)} {al:Bool} {r:D} {us:Array Value} (hc:qK C.P f st.heap ds q' al r) (WX:aU S μ w ds us) (Xm:al=false∨gg ds=true)
  (hr:fm r=true) {K:Value→World→Prop} (hK:∀S' u w',bk C S' μ st a w'→aq S' μ w' r u→K u w') :
  Calls C.P f us w (fun e w'=>∃u,e=.returned u∧K u w'):=by
 cases q' with
 | none=>exact h.callCore hc (fun _ h=>h) h.slt (fun _ _ h=>h) WX hr hK
 | some q' =>
  obtain⟨Z7,hc⟩:=hc
  have slt:=h.slt
  have hSc:∀b,(S b∨(al=false∧∃(i:Nat) (A:aC),st.heap[i]?=some A∧A.mem=true∧cx (μ i) b))→b<w.heap.size:=by
   rintro b (hb | ⟨_,i,A,hA,hl,hb⟩)
   ·exact slt b hb
   ·exact(h.heap.box i A hA).lt (aC.mem_live hl) b hb
  refine h.callCore hc (S1:=fun b=>S b∨(al=false∧∃(i:Nat) (A:aC),st.heap[i]?=some A∧A.mem=true∧cx (μ i) b)) (fun b hb=>.inl hb) hSc ?_ ?_ hr hK
  ·rintro Xm b (hb | ⟨h0,_⟩)
   ·exact hb
   ·rw[Xm]at h0;cases h0
  ·refine oP h.heap (fun b hb=>.inl hb) slt ?_ Z7 WX
   rcases Xm with Xm | Xm
   ·exact .inl (fun i A b hA hl hb=>.inr ⟨Xm,i,A,hA,hl,hb⟩)
   ·exact .inr Xm
def PR (id:Nat):D→D→Prop
 | .own i,.own j=>i=id∧j=0
 | .own _,.junk=>True
 | .own _,_=>False
 | x,y=>fm y=true∧u2 x y
def Rr (id:Nat):List D→List D→Prop
 | [],[]=>True
 | x::xs,y::ys=>PR id x y∧Rr id xs ys
 | _,_=>False
def Rs (id:Nat):D→D→Prop
 | .agg xs,.agg ys=>Rr id xs ys
 | x,y=>PR id x y
def Rl (id:Nat):List D→List D→Prop
 | [],[]=>True
 | x::xs,y::ys=>Rs id x y∧Rl id xs ys
 | _,_=>False
theorem EK {S:Nat→Prop} {μ:Nat→Value} {w:World} {id:Nat} {x y:D} {u:Value} (h:PR id x y) (hx:aq S μ w x u):aq S (fun _=>μ id) w y u:=by
 unfold PR at h
 split at h
 ·obtain⟨rfl,rfl⟩:=h
  cases hx
  exact aq.own (μ:=fun _=>μ _) 0
 ·exact .junk _
 ·exact h.elim
 ·exact(vk h.2 hx).stable (fun _ h _=>h) (fun _ _ _=>rfl) (Ut _) (fun i hi=>by rw[gP i _ h.1]at hi;cases hi)
theorem EL {id:Nat}:∀{xs ys:List D},Rr id xs ys→xs.length=ys.length∧∀(j:Nat) (y:D),ys[j]?=some y→∃x,xs[j]?=some x∧PR id x y
 | [],[],_=>⟨rfl,fun j y hy=>by simp at hy⟩
 | [],_::_,h=>h.elim
 | _::_,[],h=>h.elim
 | x::xs,y::ys,h=>by
  obtain⟨h1,h2⟩:=EL h.2
  refine⟨by simp[h1],fun j z hz=>?_⟩
  cases j with
  | zero=>simp at hz;subst hz;exact⟨x,rfl,h.1⟩
  | succ j=>simpa using h2 j z (by simpa using hz)
theorem EM {id:Nat}:∀{xs ys:List D},Rl id xs ys→xs.length=ys.length∧∀(j:Nat) (y:D),ys[j]?=some y→∃x,xs[j]?=some x∧Rs id x y
 | [],[],_=>⟨rfl,fun j y hy=>by simp at hy⟩
 | [],_::_,h=>h.elim
 | _::_,[],h=>h.elim
 | x::xs,y::ys,h=>by
  obtain⟨h1,h2⟩:=EM h.2
  refine⟨by simp[h1],fun j z hz=>?_⟩
  cases j with
  | zero=>simp at hz;subst hz;exact⟨x,rfl,h.1⟩
  | succ j=>simpa using h2 j z (by simpa using hz)
theorem EN {S:Nat→Prop} {μ:Nat→Value} {w:World} {id:Nat} {ds q':List D} {us:Array Value} (he:Rl id ds q') (h:aU S μ w ds us):aU S (fun _=>μ id) w q' us:=by
 obtain⟨h1,h2⟩:=EM he
 refine⟨by rw[← h1];exact h.1,fun j y u hy hu=>?_⟩
 obtain⟨x,hx,Y3⟩:=h2 j y hy
 have YH:=h.2 j x u hx hu
 unfold Rs at Y3
 split at Y3
 ·obtain⟨vs,rfl,q1,q2⟩:=eO YH
  obtain⟨r1,r2⟩:=EL Y3
  refine .agg _ _ (by rw[← r1];exact q1) (fun k z v hz hv=>?_)
  obtain⟨x',YV,ZM⟩:=r2 k z hz
  exact EK ZM (q2 k x' v YV hv)
 ·exact EK Y3 YH
def Ih:Option aC→Option aC
 | some (.arr E sz enc d l)=>some (.ro E sz enc d l)
 | some (.ro E sz enc d l)=>some (.ro E sz enc d l)
 | _=>none
theorem xK {S:Nat→Prop} {μ μ':Nat→Value} {w:World} {u:Value} {A B:aC} (h:Ih (some A)=some B) (hA:aN S μ w u A):B.isRo=true∧aN S μ' w u B:=by
 unfold Ih at h
 split at h
 ·rename_i e;cases e;cases h;exact⟨rfl,hA⟩
 ·rename_i e;cases e;cases h;exact⟨rfl,hA⟩
 ·cases h
def lO (P:Program) (g:FuncId) (H:List aC) (ds:List D) (id:Nat) (q':List D) (r:D):Prop :=
 match Ih H[id]? with
 | some B=>Rl id ds q'∧ah P g q' [B] true r []
 | none=>False
theorem EO {S:Nat→Prop} {μ:Nat→Value} {w:World} {B:aC} (hr:B.isRo=true) (h:aN S μ w (μ 0) B):bz S μ w [B]:=by
 have hl:B.live=false:=by cases B<;>first | rfl | cases hr
 have one:∀(i:Nat) (A:aC),[B][i]?=some A→i=0∧A=B:=fun i A hA=>by
  match i with
  | 0=>simp at hA;exact⟨rfl,hA.symm⟩
  | i+1=>simp at hA
 refine⟨fun i A hA=>?_,fun i j A A' b hA _ la=>?_,fun i A b hA la=>?_⟩
 ·obtain⟨rfl,rfl⟩:=one i A hA;exact h
 ·rw[(one i A hA).2,hl]at la;cases la
 ·rw[(one i A hA).2,hl]at la;cases la
theorem bk.callR (h:bk C S μ st a w) {f:FuncId} {ds:List D} {id:Nat} {q':List D} {r:D} {us:Array Value} (hc:lO C.P f st.heap ds id q' r) (WX:aU S μ w ds us)
  (hr:fm r=true) {K:Value→World→Prop} (hK:∀S' u w',bk C S' μ st a w'→aq S' μ w' r u→K u w') :
  Calls C.P f us w (fun e w'=>∃u,e=.returned u∧K u w'):=by
 unfold lO at hc
 split at hc
 ·rename_i B hB
  obtain⟨hra,hc⟩:=hc
  cases hbx:st.heap[id]? with
  | none=>rw[hbx]at hB;cases hB
  | some A =>
   rw[hbx]at hB
   obtain⟨X3,I'⟩:=xK (μ':=fun _=>μ id) hB (h.heap.box id A hbx)
   have hl:B.live=false:=by cases B<;>first | rfl | cases X3
   have slt:=h.slt
   refine(hc S (fun _=>μ id) w us slt h.glob (EO X3 I') (EN hra WX)).mono ?_
   rintro e w' ⟨u,μ',S',rfl,q1,q2,q3,q4,q5,q6,q7,q8,q9,_⟩
   have nolive:∀(k i:Nat) (A:aC),[B][i]?=some A→A.live=true→¬cx ((fun _=>μ id) i) k:=fun k i A hA la=>by
    match i with
    | 0=>simp at hA;rw[← hA,hl]at la;cases la
    | i+1=>simp at hA
   refine⟨u,rfl,hK S' u w' (h.grow q1 q2 q3 q4 (fun k hk=>q5 k hk (nolive k)) q6 q7 q8) ?_⟩
   exact q9.stable (fun b hb _=>hb.1) (fun _ _ _=>rfl) (Ut _) (fun id WG=>by rw[gP id r hr]at WG;cases WG)
 ·exact hc.elim
end
inductive Fz:Type 1
 | sl (x:V)
 | vr (cs:List V)
 | gs (f:Nat→V)
def Fz.own:Fz→D
 | .sl x=>.v x
 | .vr _=>.junk
 | .gs _=>.junk
def Fz.gr:Fz→Nat→D
 | .gs f,r=>.v (f r)
 | _,_=>.junk
def Fz.ptr:Fz→Nat→Nat→D
 | .sl _,_,_=>.junk
 | .gs _,_,_=>.junk
 | .vr cs,k,J'=>if Nat.beq k 0 then .iptr cs J' else .junk
mutual
def fG (id:Nat) (x:Fz):D→D
 | .own i=>if Nat.beq i id then x.own else .own i
 | .agg cs=>.agg (p5 id x cs)
 | .tup cs=>.tup (p5 id x cs)
 | .ptr i k sz J'=>if Nat.beq i id then x.ptr k J' else .ptr i k sz J'
 | .fn f a b=>.fn f (p5 id x a) (p5 id x b)
 | .v y=>.v y
 | .nils=>.nils
 | .iptr cs J'=>.iptr cs J'
 | .yld i=>.yld i
 | .capd y=>.capd y
 | .gr i r=>if Nat.beq i id then x.gr r else .gr i r
 | .junk=>.junk
def p5 (id:Nat) (x:Fz):List D→List D
 | []=>[]
 | d::r=>fG id x d::p5 id x r
end
def tp (id:Nat) (x:Fz):List (Nat×D)→List (Nat×D)
 | []=>[]
 | (t,d)::r=>(t,fG id x d)::tp id x r
def rI (id:Nat) (x:Fz):aC→aC
 | .var T cs=>.var T (p5 id x cs)
 | .loop l tm nt env ps q' bd s p=>.loop l tm nt (tp id x env) ps q' bd s p
 | .frame tm env=>.frame tm (tp id x env)
 | .ro E sz enc d l=>.ro E sz enc d l
 | .dead=>.dead
 | .arr E sz enc d l=>.arr E sz enc d l
 | .mpb t ag enc d l=>.mpb t ag enc d l
 | .arrD E sz n gs cell=>if gs.all (fun g=>!(Nat.beq g id))then .arrD E sz n gs cell else .arrD E sz n gs (fun i j=>fG id x (cell i j))
 | .grp n f=>.grp n f
 | .nest E sz n ce m f=>.nest E sz n ce m f
def p6 (id:Nat) (x:Fz):List aC→List aC
 | []=>[]
 | B::r=>rI id x B::p6 id x r
def qL:List D→Option (List V)
 | []=>some []
 | .v x::r=>match qL r with
  | some vs=>some (x::vs)
  | none=>none
 | _::_=>none
theorem EP:∀{cs:List D} {vs:List V},qL cs=some vs→cs=vs.map D.v
 | [],vs,h=>by simp[qL]at h;subst h;rfl
 | .v x::r,vs,h=>by
  unfold qL at h
  split at h
  ·rename_i vs' h'
   cases h
   rw[EP h'];rfl
  ·cases h
 | .nils::_,_,h=>by simp[qL]at h
 | .own _::_,_,h=>by simp[qL]at h
 | .ptr _ _ _ _::_,_,h=>by simp[qL]at h
 | .iptr _ _::_,_,h=>by simp[qL]at h
 | .agg _::_,_,h=>by simp[qL]at h
 | .tup _::_,_,h=>by simp[qL]at h
 | .fn _ _ _::_,_,h=>by simp[qL]at h
 | .yld _::_,_,h=>by simp[qL]at h
 | .capd _::_,_,h=>by simp[qL]at h
 | .junk::_,_,h=>by simp[qL]at h
def oQ (id:Nat) (st:St):Option St :=
 match st.heap[id]? with
 | some (.arr _ sz enc d l)=>some ⟨tp id (.sl (.sl sz enc d l)) st.env,(p6 id (.sl (.sl sz enc d l)) st.heap).set id .dead⟩
 | some (.var _ cs)=>match qL cs with
  | some vs=>some ⟨tp id (.vr vs) st.env,(p6 id (.vr vs) st.heap).set id .dead⟩
  | none=>none
 | some (.mpb _ ag enc d l)=>some ⟨tp id (.sl (.sm ag enc d l)) st.env,(p6 id (.sl (.sm ag enc d l)) st.heap).set id .dead⟩
 | some (.grp _ f)=>some ⟨tp id (.gs fun r=>.sl (f r).sz (f r).enc (f r).d (f r).l) st.env,(p6 id (.gs fun r=>.sl (f r).sz (f r).enc (f r).d (f r).l) st.heap).set id .dead⟩
 | _=>none
section
variable {P:Program} {S S':Nat→Prop} {μ:Nat→Value} {w:World} {id:Nat} {x:Fz}
def NS (S':Nat→Prop) (μ:Nat→Value) (w:World) (id:Nat):Fz→Prop
 | .sl x=>eh S' w x (μ id)
 | .gs f=>∀(us:Array Value),μ id=.tuple us→∀(r:Nat) (u:Value),us[r]?=some u→eh S' w (f r) u
 | .vr cs=>∀(b J':Nat),aO (μ id)=some b→aq S' μ w (.iptr cs J') (.pointer (some ⟨b,J',none⟩))
theorem kT:∀(cs:List D) (j:Nat),(p5 id x cs)[j]?=(cs[j]?).map (fG id x)
 | [],j=>by simp[p5]
 | d::r,0=>by simp[p5]
 | d::r,j+1=>by simp[p5,kT r j]
theorem fT:∀(cs:List D),(p5 id x cs).length=cs.length
 | []=>rfl
 | d::r=>by simp[p5,fT r]
theorem kU:∀(H:List aC) (j:Nat),(p6 id x H)[j]?=(H[j]?).map (rI id x)
 | [],j=>by simp[p6]
 | d::r,0=>by simp[p6]
 | d::r,j+1=>by simp[p6,kU r j]
theorem rJ:∀{env:List (Nat×D)} {t:Nat} {d:D},(t,d)∈tp id x env→∃e,(t,e)∈env∧d=fG id x e
 | (s,e)::r,t,d,h=>by
  rcases Vh.1 h with h | h
  ·cases h;exact⟨e,UX ..,rfl⟩
  ·obtain⟨e',h1,h2⟩:=rJ h
   exact⟨e',UT _ h1,h2⟩
theorem rL (hx:NS S' μ w id x) (hS:∀b,S b→S' b) {d:D} {u:Value} (h:aq S μ w d u):aq S' μ w (fG id x d) u:=by
 induction h with
 | v y u h=>exact .v y u (h.stable (fun b hb _=>hS b hb) (fun _ _ _=>rfl) (Ut _))
 | nils=>exact .nils
 | own i =>
  unfold fG
  split
  ·rename_i hi
   rw[UH]at hi
   subst hi
   cases x with
   | sl x=>exact .v _ _ hx
   | vr cs=>exact .junk _
   | gs f=>exact .junk _
  ·exact .own i
 | ptr i k sz J' b h =>
  unfold fG
  split
  ·rename_i hi
   rw[UH]at hi
   subst hi
   cases x with
   | sl x=>exact .junk _
   | gs f=>exact .junk _
   | vr cs =>
    unfold Fz.ptr
    simp only
    split
    ·rename_i hk
     rw[UH]at hk
     subst hk
     rw[Nat.zero_mul,U5]
     exact hx b J' h
    ·exact .junk _
  ·exact .ptr i k sz J' b h
 | iptr cs J' b o us h1 h2 h3 h4=>exact .iptr cs J' b o us (hS b h1) h2 h3 (fun j y hy=>(h4 j y hy).stable (fun b hb _=>hS b hb) (fun _ _ _=>rfl) (Ut _))
 | agg cs us h1 _ ih =>
  refine .agg _ us (by rw[fT];exact h1) (fun j y u hy hu=>?_)
  rw[kT]at hy
  cases hc:cs[j]? with
  | none=>rw[hc]at hy;cases hy
  | some e=>rw[hc]at hy;simp at hy;subst hy;exact ih j e u hc hu
 | tup cs us h1 _ ih =>
  refine .tup _ us (by rw[fT];exact h1) (fun j y u hy hu=>?_)
  rw[kT]at hy
  cases hc:cs[j]? with
  | none=>rw[hc]at hy;cases hy
  | some e=>rw[hc]at hy;simp at hy;subst hy;exact ih j e u hc hu
 | fn f a b us vs h1 _ h2 _ ih1 ih2 =>
  refine .fn f _ _ us vs (by rw[fT];exact h1) (fun j y u hy hu=>?_) (by rw[fT];exact h2) (fun j y u hy hu=>?_)
  ·rw[kT]at hy
   cases hc:a[j]? with
   | none=>rw[hc]at hy;cases hy
   | some e=>rw[hc]at hy;simp at hy;subst hy;exact ih1 j e u hc hu
  ·rw[kT]at hy
   cases hc:b[j]? with
   | none=>rw[hc]at hy;cases hy
   | some e=>rw[hc]at hy;simp at hy;subst hy;exact ih2 j e u hc hu
 | junk u=>exact .junk u
 | yld i l h=>exact .yld i l h
 | capd y p n h=>exact .capd y p n (h.stable (fun b hb _=>hS b hb) (fun _ _ _=>rfl) (Ut _))
 | gr g r us u h h1 h2 =>
  unfold fG
  split
  ·rename_i hi
   rw[UH]at hi
   subst hi
   cases x with
   | gs f=>exact .v _ _ (hx us h r u h1)
   | _=>exact .junk _
  ·exact .gr g r us u h h1 h2
end
mutual
theorem ER {id k:Nat} {x:Fz}:∀d:D,D.free k d=true→D.free k (fG id x d)=true
 | .own i,h=>by
  unfold fG
  split
  ·cases x<;>rfl
  ·exact h
 | .ptr i k' sz J',h=>by
  unfold fG
  split
  ·cases x<;>first | rfl | (simp only[Fz.ptr];split<;>rfl)
  ·exact h
 | .gr i r,h=>by
  unfold fG
  split
  ·cases x<;>rfl
  ·exact h
 | .agg cs,h=>by simp only[fG,D.free];exact rM cs (by simpa only [D.free]using h)
 | .tup cs,h=>by simp only[fG,D.free];exact rM cs (by simpa only [D.free]using h)
 | .fn f a b,h=>by
  simp only[D.free,Uo]at h
  simp only[fG,D.free,Uo]
  exact⟨rM a h.1,rM b h.2⟩
 | .yld i,h=>h
 | .v _,_=>rfl
 | .nils,_=>rfl
 | .iptr _ _,_=>rfl
 | .capd _,_=>rfl
 | .junk,_=>rfl
theorem rM {id k:Nat} {x:Fz}:∀cs:List D,D.freeL k cs=true→D.freeL k (p5 id x cs)=true
 | [],_=>rfl
 | c::cs,h=>by
  simp only[D.freeL,Uo]at h
  simp only[p5,D.freeL,Uo]
  exact⟨ER c h.1,rM cs h.2⟩
end
theorem GS {id:Nat} {x:Fz} (B:aC):(rI id x B).live=B.live:=by cases B<;>first | rfl | (simp only[rI];split<;>rfl)
theorem Lh {id:Nat} {x:Fz} (B:aC):(rI id x B).isRo=B.isRo:=by cases B<;>first | rfl | (simp only[rI];split<;>rfl)
theorem GT {id:Nat} {x:Fz} {B:aC} (h:B.isRo=true):rI id x B=B:=by cases B<;>first | rfl | cases h
section
variable {C:ns} {st:St}
theorem bk.freezeX {S:Nat→Prop} {μ:Nat→Value} {a:Act} {w:World} (hR:bk C S μ st a w) {id:Nat} {Z:aC} {z:Fz} (I':st.heap[id]?=some Z) (hZ:Z.live=true) (hx:NS (fun b=>S b∨cx (μ id) b) μ w id z) :
  bk C (fun b=>S b∨cx (μ id) b) μ ⟨tp id z st.env,(p6 id z st.heap).set id .dead⟩ a w:=by
  have hB:=hR.heap.box id _ I'
  have W2:∀b,cx (μ id) b→C.W.heap.size≤b:=fun b hb=>hR.may id _ b I' hZ hb
  have WL:∀b,cx (μ id) b→b<w.heap.size:=hB.lt hZ
  let S':Nat→Prop:=fun b=>S b∨cx (μ id) b
  have WG:id<st.heap.length:=(Up.1 I').1
  have W7:∀(i:Nat) (A:aC),((p6 id z st.heap).set id .dead)[i]?=some A→A.live=true→i≠id∧∃B,st.heap[i]?=some B∧A=rI id z B∧B.live=true:=by
   intro i A hA hl
   by_cases hi:i=id
   ·subst hi
    rw[UI (by
     have:(p6 i z st.heap)[i]?=(st.heap[i]?).map _:=kU st.heap i
     rw[I']at this
     exact(Up.1 this).1)]at hA
    cases hA
    cases hl
   ·rw[UF (fun e=>hi e.symm),kU]at hA
    cases hc:st.heap[i]? with
    | none=>rw[hc]at hA;cases hA
    | some B =>
     rw[hc]at hA
     simp at hA
     refine⟨hi,B,rfl,hA.symm,?_⟩
     subst hA
     rwa [GS]at hl
  have hgetR:∀(i:Nat) (A:aC),((p6 id z st.heap).set id .dead)[i]?=some A→A.isRo=true→i≠id∧st.heap[i]?=some A:=by
   intro i A hA hl
   by_cases hi:i=id
   ·subst hi
    rw[UI (by
     have:(p6 i z st.heap)[i]?=(st.heap[i]?).map _:=kU st.heap i
     rw[I']at this
     exact(Up.1 this).1)]at hA
    cases hA
    cases hl
   ·rw[UF (fun e=>hi e.symm),kU]at hA
    cases hc:st.heap[i]? with
    | none=>rw[hc]at hA;cases hA
    | some B =>
     rw[hc]at hA
     simp at hA
     refine⟨hi,?_⟩
     subst hA
     rw[Lh]at hl
     rw[GT hl]
  show bk C S' μ _ a w
  refine⟨hR.os,hR.tape,hR.output,hR.size,hR.old,fun b hb=>.inl (hR.mono b hb),?_,?_,?_,⟨?_,?_,?_⟩,?_,?_,hR.tsize,?_⟩
  ·rintro b (hb | hb)
   ·exact hR.new b hb
   ·exact .inr (W2 b hb)
  ·rintro b (hb | hb)
   ·exact hR.slt b hb
   ·exact WL b hb
  ·intro t e hm
   obtain⟨e',h1,rfl⟩:=rJ hm
   obtain⟨q1,q2⟩:=hR.env t e' h1
   exact⟨q1,rL hx (fun b hb=>.inl hb) q2⟩
  ·intro i A hA
   rcases A.three with rfl | hl | hl
   ·trivial
   rotate_left
   ·obtain⟨hi,Xf⟩:=hgetR i A hA hl
    exact(hR.heap.box i A Xf).stable (fun b hb _=>.inl hb) (fun _ _ _=>rfl) (Ut _) (fun _ _=>rfl) (fun _ _=>rfl) 
   ·obtain⟨hi,B,W3,rfl,hBl⟩:=W7 i A hA hl
    have hb:=hR.heap.box i B W3
    cases B with
    | dead=>cases hBl
    | ro=>cases hBl
    | arr E2 Z6 X4 d2 l2 =>
     exact hb.stable (fun b hb _=>.inl hb) (fun _ _ _=>rfl) (Ut _) (fun _ _=>rfl) (fun _ _=>rfl)
    | mpb t2 ag2 X4 d2 l2 =>
     exact hb.stable (fun b hb _=>.inl hb) (fun _ _ _=>rfl) (Ut _) (fun _ _=>rfl) (fun _ _=>rfl)
    | nest E2 Z6 n ce m f=>exact hb.stable (fun b hb _=>.inl hb) (fun _ _ _=>rfl) (Ut _) (fun _ _=>rfl) (fun _ _=>rfl)
    | grp n f=>exact hb.stable (fun b hb _=>.inl hb) (fun _ _ _=>rfl) (Ut _) (fun _ _=>rfl) (fun _ _=>rfl)
    | arrD E2 Z6 n gs cell =>
     simp only[rI]
     split
     ·exact hb.stable (fun b hb _=>.inl hb) (fun _ _ _=>rfl) (Ut _) (fun _ _=>rfl) (fun _ _=>rfl)
     ·obtain⟨h0,xs,h1,h3⟩:=hb
      refine⟨fun i j k hi hj hk=>ER _ (h0 i j k hi hj hk),xs,h1,fun i j hi hj=>?_⟩
      obtain⟨v,hv,ho,hr⟩:=h3 i j hi hj
      exact⟨v,hv,ho,rL hx (fun b hb=>.inl hb) hr⟩
    | var T cs =>
     obtain⟨b,vs,e,q1,q2,q3⟩:=hb
     refine⟨b,vs,e,q1,by rw[fT];exact q2,fun j y z hy hz=>?_⟩
     rw[kT]at hy
     cases hc:cs[j]? with
     | none=>rw[hc]at hy;cases hy
     | some y'=>rw[hc]at hy;simp at hy;subst hy;exact rL hx (fun b hb=>.inl hb) (q3 j y' z hc hz)
    | loop l tm nt env ps q' bd s pe =>
     obtain⟨r,h0,h1,h2,h3,h4,h5,h6,h7,h8,h9⟩:=hb
     refine⟨r,h0,h1,h2,h3,h4,h5,h6,h7,h8,fun t e hm=>?_⟩
     obtain⟨e',k1,rfl⟩:=rJ hm
     exact⟨(h9 t e' k1).1,rL hx (fun b hb=>.inl hb) (h9 t e' k1).2⟩
    | frame tm env =>
     obtain⟨h1,h9⟩:=hb
     refine⟨h1,fun t e hm=>?_⟩
     obtain⟨e',k1,rfl⟩:=rJ hm
     exact⟨(h9 t e' k1).1,rL hx (fun b hb=>.inl hb) (h9 t e' k1).2⟩
  ·intro i j A A' b hA Xf hl hl'
   obtain⟨_,B,hB1,_,hBl⟩:=W7 i A hA hl
   obtain⟨_,B',hB2,_,hBl'⟩:=W7 j A' Xf hl'
   exact hR.heap.apart i j B B' b hB1 hB2 hBl hBl'
  ·intro i A b hA hl hb hs
   obtain⟨hi,B,hB1,_,hBl⟩:=W7 i A hA hl
   rcases hs with hs | hs
   ·exact hR.heap.notS i B b hB1 hBl hb hs
   ·exact hi (hR.heap.apart i id B _ b hB1 I' hBl hZ hb hs)
  ·intro i A b hA hl hb
   obtain⟨hi,B,hB1,_,hBl⟩:=W7 i A hA hl
   exact hR.may i B b hB1 hBl hb
  ·obtain⟨mk,d1,d2,d3⟩:=hR.defers
   refine⟨mk,d1,d2,fun b hb=>?_⟩
   obtain⟨q1,q2,q3,q4⟩:=d3 b hb
   refine⟨q1,q2,fun hs=>?_,fun i A hA hl=>?_⟩
   ·rcases hs with hs | hs
    ·exact q3 hs
    ·exact q4 id _ I' hZ hs
   ·obtain⟨hi,B,hB1,_,hBl⟩:=W7 i A hA hl
    exact q4 i B hB1 hBl
  ·intro i A b hA hl
   obtain⟨hi,Xf⟩:=hgetR i A hA hl
   exact hR.ro i A b Xf hl
theorem bk.freezeZ {S:Nat→Prop} {μ:Nat→Value} {a:Act} {w:World} (hR:bk C S μ st a w) {id:Nat} {Z:aC} {z:Fz} (I':st.heap[id]?=some Z) (hZ:Z.live=true) (hx:NS (fun b=>S b∨cx (μ id) b) μ w id z) :
  ∃S',bk C S' μ ⟨tp id z st.env,(p6 id z st.heap).set id .dead⟩ a w:=⟨_,hR.freezeX I' hZ hx⟩
theorem bk.freeze {S:Nat→Prop} {μ:Nat→Value} {a:Act} {w:World} (hR:bk C S μ st a w) {id:Nat} {P':St} (h:oQ id st=some P'):∃S',bk C S' μ P' a w:=by
 unfold oQ at h
 split at h
 ·rename_i E sz α enc d l I'
  simp only[UA]at h
  subst h
  exact hR.freezeZ I' rfl (j6 (hR.heap.box id _ I') (fun b hb=>.inl hb) (fun b hb=>.inr hb) hR.slt)
 ·rename_i T cs I'
  split at h
  ·rename_i vs Yn
   simp only[UA]at h
   subst h
   have hc:=EP Yn
   subst hc
   refine hR.freezeZ I' rfl (fun b J' hb=>?_)
   have hB:=hR.heap.box id _ I'
   have WL:b<w.heap.size:=hB.lt rfl b (.inl hb)
   have Xy:=hB.var_cells hb
   have hv:∀(j:Nat) (y:V),vs[j]?=some y→w.cell? ⟨b,0+j,none⟩=some ((w.cell? ⟨b,0+j,none⟩).getD undef)∧eh S w y ((w.cell? ⟨b,0+j,none⟩).getD undef):=by
    intro j y hy
    obtain⟨u,h1,h2⟩:=Xy j (.v y) (by rw[UJ,hy];rfl)
    rw[h1]
    exact⟨rfl,bL h2⟩
   have:=aq.iptr (S:=fun b=>S b∨cx (μ id) b) (μ:=μ) (w:=w) vs J' b 0 (fun j=>(w.cell? ⟨b,0+j,none⟩).getD undef) (.inr (.inl hb)) WL (fun j y hy=>(hv j y hy).1) (fun j y hy=>(hv j y hy).2.stable (fun b hb _=>.inl hb) (fun _ _ _=>rfl) (Ut _))
   rwa [U5]at this
  ·cases h
 ·rename_i t ag α enc d l I'
  simp only[UA]at h
  subst h
  exact hR.freezeZ I' rfl (Lf (hR.heap.box id _ I') (fun b hb=>.inl hb) (fun b hb=>.inr hb))
 ·rename_i n f I'
  simp only[UA]at h
  subst h
  refine hR.freezeZ I' rfl (fun us WX r u hu=>?_)
  obtain⟨XZ,e,_,h2,_⟩:=hR.heap.box id _ I'
  rw[WX]at e
  cases e
  exact j6 (μ:=μ) (E:=(f r).E) (h2 r u hu).2 (fun b hb=>.inl hb) (fun b hb=>.inr (by
   rcases hb with hb | ⟨vs,e,k,x,hk,hx⟩
   ·exact .inr ⟨us,WX,r,u,hu,hb⟩
   ·subst e;have:=(h2 r _ hu).1;cases this)) hR.slt
 ·cases h
mutual
theorem tq {id:Nat} {x:Fz}:∀d:D,D.free id d=true→fG id x d=d
 | .own i,h=>by
  simp only[D.free,U2]at h
  simp only[fG,h,Vi,V2]
 | .ptr i k sz J',h=>by
  simp only[D.free,U2]at h
  simp only[fG,h,Vi,V2]
 | .agg cs,h=>by simp only[D.free]at h;simp only[fG,je cs h]
 | .tup cs,h=>by simp only[D.free]at h;simp only[fG,je cs h]
 | .fn f a b,h=>by simp only[D.free,Uo]at h;simp only[fG,je a h.1,je b h.2]
 | .v _,_=>rfl
 | .nils,_=>rfl
 | .iptr _ _,_=>rfl
 | .yld _,_=>rfl
 | .capd _,_=>rfl
 | .gr i r,h=>by
  simp only[D.free,U2]at h
  simp only[fG,h,Vi,V2]
 | .junk,_=>rfl
theorem je {id:Nat} {x:Fz}:∀cs:List D,D.freeL id cs=true→p5 id x cs=cs
 | [],_=>rfl
 | c::cs,h=>by
  simp only[D.freeL,Uo]at h
  simp only[p5,tq c h.1,je cs h.2]
end
theorem tr {id:Nat} {x:Fz}:∀{env:List (Nat×D)},cE id env=true→tp id x env=env
 | [],_=>rfl
 | (t,d)::r,h=>by
  simp only[cE,Uo]at h
  simp only[tp,tq d h.1,tr h.2]
theorem GU {id:Nat} {x:Fz} (B:aC) (h:aC.free id B=true):rI id x B=B:=by
 cases B with
 | var T cs=>simp only[aC.free]at h;simp only[rI,je cs h]
 | loop l tm nt env ps a b s p=>simp only[aC.free]at h;simp only[rI,tr h]
 | frame tm env=>simp only[aC.free]at h;simp only[rI,tr h]
 | arrD E sz n gs cell=>simp only[aC.free]at h;simp only[rI,h,V5]
 | _=>rfl
end
def Ev (C:ns) (c:Code) (Q:Exit→St→Prop) (st:St):Prop :=
 ∀(a:Act) (w:World) (S:Nat→Prop) (μ:Nat→Value),bk C S μ st a w→c.wpIn (qE C.rd) 0 C.P (fun e a' w'=>∃P' S' μ',Q e P'∧bk C S' μ' P' a' w') a w
def GV (P:Program) (st:St):ResultVar→R1
 | .tmp t=>(qe st.env t,True)
 | .cell a T=>match qe st.env a with
  | .ptr id i sz J'=>EE P T st.heap (.ptr id i sz J')
  | _=>aR
def resL (P:Program) (st:St):List ResultVar→List D×Prop
 | []=>([],True)
 | r::rs=>match GV P st r with
  | (d,p)=>match resL P st rs with
   | (ds,q)=>(d::ds,p∧q)
def GW (P:Program) (rs:List ResultVar) (st:St):R1 :=
 match resL P st rs with
 | ([d],p)=>(d,p)
 | (ds,p)=>(.tup ds,p)
def iU (P:Program) (fn:Func) (st:St):Prop:=(GW P fn.results.toList st).2
def i2 (P:Program) (fn:Func) (st:St):D:=(GW P fn.results.toList st).1
section
variable {C:ns} {S:Nat→Prop} {μ:Nat→Value} {st:St} {a:Act} {w:World}
theorem bk.resL (h:bk C S μ st a w):∀(rs:List ResultVar) (ds:List D) (p:Prop),Proofs.YtnlmlkbaflmgcaaGreat.resL C.P st rs=(ds,p)→p →
  ∃us:List Value,(rs.mapM (fun r=>(match r with
   | .tmp t=>pure (a.tmps.getD t undef)
   | .cell x t=>do loadVar t (← asAddr (a.tmps.getD x undef)):Sem Value))).run C.P w=.ok us w∧us.length=ds.length∧∀(j:Nat) (y:D) (u:Value),ds[j]?=some y→us[j]?=some u→aq S μ w y u:=by
 intro rs
 induction rs with
 | nil =>
  intro ds p hp _
  simp only[Proofs.YtnlmlkbaflmgcaaGreat.resL,Ux]at hp
  obtain⟨rfl,_⟩:=hp
  exact⟨[],rfl,rfl,fun j y u hy=>by simp at hy⟩
 | cons r rs ih =>
  intro ds p hp D'
  unfold Proofs.YtnlmlkbaflmgcaaGreat.resL at hp
  generalize h1:GV C.P st r=q1 at hp
  obtain⟨d1,p1⟩:=q1
  simp only at hp
  generalize h2:Proofs.YtnlmlkbaflmgcaaGreat.resL C.P st rs=q2 at hp
  obtain⟨ds2,p2⟩:=q2
  simp only[Ux]at hp
  obtain⟨rfl,rfl⟩:=hp
  obtain⟨us,e1,e2,e3⟩:=ih ds2 p2 h2 D'.2
  have YG:∃u,((match r with
   | .tmp t=>pure (a.tmps.getD t undef)
   | .cell x t=>do loadVar t (← asAddr (a.tmps.getD x undef)):Sem Value)).run C.P w=.ok u w∧aq S μ w d1 u:=by
   cases r with
   | tmp t =>
    simp only[GV,Ux]at h1
    obtain⟨rfl,_⟩:=h1
    exact⟨_,rfl,h.eval (.tmp t)⟩
   | cell x T =>
    unfold GV at h1
    simp only at h1
    split at h1
    ·rename_i id i sz J' hl
     have hv:=h.eval (.tmp x)
     simp only[fF]at hv
     rw[hl]at hv
     obtain⟨u,r1,r2⟩:=uw h.heap hv h1 D'.1
     obtain⟨b,_,hu⟩:=oM hv
     refine⟨u,?_,r2⟩
     have he:a.tmps.getD x undef=.pointer (some ⟨b,i*sz+J',none⟩):=hu
     rw[hu]at r1
     simp only[he]
     simp only[Instr.loadAt,Instr.sureAddr,Uv,UL,Uu]at r1
     simp only[asAddr,Uv,UL,Uu]
     exact r1
    ·cases h1;exact D'.1.elim
  obtain⟨u,f1,f2⟩:=YG
  refine⟨u::us,?_,by simp[e2],fun j y v hy hv=>?_⟩
  ·simp only[List.mapM_cons,Uv,f1,Uu,e1,UL]
  ·cases j with
   | zero=>simp at hy hv;subst hy hv;exact f2
   | succ j=>exact e3 j y v (by simpa using hy) (by simpa using hv)
theorem bk.results (h:bk C S μ st a w) {fn:Func} (D':iU C.P fn st):∃u,(results fn a.tmps).run C.P w=.ok u w∧aq S μ w (i2 C.P fn st) u:=by
 unfold iU at D'
 unfold i2
 generalize hq:Proofs.YtnlmlkbaflmgcaaGreat.resL C.P st fn.results.toList=q at D' ⊢
 obtain⟨ds,p⟩:=q
 have hp:p:=by
  unfold GW at D'
  rw[hq]at D'
  split at D'<;>rename_i he<;>cases he<;>exact D'
 obtain⟨us,e1,e2,e3⟩:=h.resL _ _ _ hq hp
 have hm:(fn.results.mapM (fun r=>(match r with
   | .tmp t=>pure (a.tmps.getD t undef)
   | .cell x t=>do loadVar t (← asAddr (a.tmps.getD x undef)):Sem Value))).run C.P w=.ok us.toArray w:=by
  rw[Array.mapM_eq_mapM_toList]
  have hb:∀(s:Sem (List Value)) (r:List Value),s.run C.P w=.ok r w→((s.bind (Sem.pure ∘ List.toArray)):Sem (Array Value)).run C.P w=.ok r.toArray w:=by
   intro s r h
   show Sem.run C.P (s >>= (Sem.pure ∘ List.toArray)) w=_
   rw[Uv,h]
   rfl
  exact hb _ _ e1
 refine⟨if h:us.toArray.size=1 then us.toArray[0]else .tuple us.toArray,?_,?_⟩
 ·unfold Go.results
  rw[Uv]
  refine(congrArg (fun r=>Result.andThen r _) hm).trans ?_
  rfl
 ·unfold GW
  rw[hq]
  cases ds with
  | nil =>
   have:us=[]:=U0 e2
   subst this
   exact .tup _ _ rfl (fun j y u hy=>by simp at hy)
  | cons d ds =>
   cases ds with
   | nil =>
    obtain⟨u,rfl⟩:=List.length_eq_one_iff.1 (by simpa using e2)
    exact e3 0 d u rfl rfl
   | cons d2 ds =>
    rw[dif_neg (by simp[e2])]
    exact .tup _ _ (by simp[e2]) (fun j y u hy hu=>e3 j y u hy (by simpa using hu))
end
def m4:Nat→List D→List (Nat×D)
 | _,[]=>[]
 | i,d::r=>(i,d)::m4 (i+1) r
theorem xL:∀{ds:List D} {i t:Nat} {d:D},(t,d)∈m4 i ds→i≤t∧ds[t-i]?=some d
 | d'::r,i,t,d,h=>by
  rcases Vh.1 h with h | h
  ·cases h;exact⟨Ut _,by simp⟩
  ·obtain⟨h1,h2⟩:=xL h
   refine⟨by omega,?_⟩
   rw[show t-i=(t-(i+1))+1 from by omega]
   simpa using h2
def xM (us:Array Value) (nt:Nat):Act:={ tmps:=us++Array.replicate (nt-us.size) undef,defers:=[] }
section
variable {C C1:ns} {S:Nat→Prop} {μ:Nat→Value} {st:St} {a a1:Act} {w w':World}
theorem bk.turn (h:bk C S μ st a w) {mk mk1:List Nat} (d2:(mk1++C1.susp).Nodup)
  (d3:∀b∈mk1++C1.susp,w.heap[b]?=some (.deferred (some []))∧C.W.heap.size≤b∧¬S b∧∀(i:Nat) (A:aC),st.heap[i]?=some A→A.live=true→¬cx (μ i) b)
  (hW:C1.W=C.W) (hS:C1.S0=C.S0) (hd:a1.defers=mk1.map fun b=>{ target:=.collected b,args:=#[] }) (ht:a1.tmps.size=C1.nt) {env1:List (Nat×D)}
  (he:∀(t:Nat) (d:D),(t,d)∈env1→t<C1.nt∧aq S μ w d (a1.tmps.getD t undef)):bk C1 S μ ⟨env1,st.heap⟩ a1 w :=
 ⟨by rw[hW];exact h.os,by rw[hW];exact h.tape,by rw[hW];exact h.output,by rw[hW];exact h.size,by rw[hW];exact h.old,by rw[hS];exact h.mono,by rw[hS,hW];exact h.new,h.slt,he,h.heap,by rw[hW];exact h.may,
  ⟨mk1,hd,d2,by rw[hW];exact d3⟩,ht,by rw[hW];exact h.ro⟩
theorem bk.back (h:bk C1 S μ st a1 w) {mk:List Nat} (hW:C1.W=C.W) (hS:C1.S0=C.S0) (hs:C1.susp=mk++C.susp) (hd:a.defers=mk.map fun b=>{ target:=.collected b,args:=#[] }) (ht:a.tmps.size=C.nt)
  {env:List (Nat×D)} (he:∀(t:Nat) (d:D),(t,d)∈env→t<C.nt∧aq S μ w d (a.tmps.getD t undef)):bk C S μ ⟨env,st.heap⟩ a w:=by
 obtain⟨mk',e1,e2,e3⟩:=h.defers
 rw[hs]at e2 e3
 exact h.turn (mk:=mk') (mk1:=mk) (List.nodup_append.1 e2).2.1 (fun b hb=>e3 b (V1 _ hb)) hW.symm hS.symm hd ht he
theorem bk.heapTo (h:bk C S μ st a w) {H:List aC} (hH:∀(i:Nat) (B:aC),H[i]?=some B→B=.dead∨st.heap[i]?=some B):bk C S μ ⟨st.env,H⟩ a w:=by
 have live:∀(i:Nat) (B:aC),H[i]?=some B→B.live=true→st.heap[i]?=some B:=fun i B hB hl=>by
  rcases hH i B hB with rfl | h1
  ·cases hl
  ·exact h1
 refine⟨h.os,h.tape,h.output,h.size,h.old,h.mono,h.new,h.slt,h.env,⟨fun i B hB=>?_,fun i j A B b hA hB la lb=>h.heap.apart i j A B b (live i A hA la) (live j B hB lb) la lb,fun i A b hA la=>h.heap.notS i A b (live i A hA la) la⟩,
  fun i A b hA la=>h.may i A b (live i A hA la) la,?_,h.tsize,fun i A b hA la=>?_⟩
 ·rcases hH i B hB with rfl | h1
  ·trivial
  ·exact h.heap.box i B h1
 ·obtain⟨mk,d1,d2,d3⟩:=h.defers
  refine⟨mk,d1,d2,fun b hb=>?_⟩
  obtain⟨q1,q2,q3,q4⟩:=d3 b hb
  exact⟨q1,q2,q3,fun i A hA hl=>q4 i A (live i A hA hl) hl⟩
 ·rcases hH i A hA with rfl | h1
  ·cases la
  ·exact h.ro i A b h1 la
theorem bk.shut (h:bk C S μ st a w) {b:Nat} {ds:List Deferred} (hd:a.defers={ target:=.collected b,args:=#[] }::ds) :
  w.heap[b]?=some (.deferred (some []))∧bk C S μ st { a with defers:=ds } (w.putObj b (.deferred none)):=by
 obtain⟨mk,d1,d2,d3⟩:=h.defers
 cases mk with
 | nil=>rw[hd]at d1;cases d1
 | cons b' mk =>
  rw[hd]at d1
  simp only[Vn,Vm,Deferred.mk.injEq,Target.collected.injEq,Wu]at d1
  obtain⟨rfl,d1⟩:=d1
  obtain⟨q1,q2,q3,q4⟩:=d3 b (by simp)
  have WL:b<w.heap.size:=(UC.1 q1).1
  have Xt:∀k,k≠b→(w.putObj b (.deferred none)).heap[k]?=w.heap[k]?:=fun k hk=>VQ hk
  have hS:∀k,S k→(w.putObj b (.deferred none)).heap[k]?=w.heap[k]?:=fun k hk=>Xt k (fun e=>q3 (e ▸ hk))
  have WE:(w.putObj b (.deferred none)).heap.size=w.heap.size:=Wg
  refine⟨q1,h.os,h.tape,h.output,by rw[WE];exact h.size,fun k hk=>by rw[Xt k (by omega)];exact h.old k hk,h.mono,h.new,fun k hk=>by rw[WE];exact h.slt k hk,fun t d hm=>?_,⟨fun i A hA=>?_,h.heap.apart,h.heap.notS⟩,h.may,⟨mk,d1,?_,fun k hk=>?_⟩,h.tsize,h.ro⟩
  ·obtain⟨r1,r2⟩:=h.env t d hm
   exact⟨r1,r2.stable (fun _ h _=>h) (fun k hk _=>hS k hk) (by rw[WE];exact Ut _) (fun _ _=>rfl)⟩
  ·rcases A.three with rfl | hl | hl
   ·trivial
   ·exact(h.heap.box i A hA).stable (fun _ h _=>h) (fun k hk _=>hS k hk) (by rw[WE];exact Ut _) (fun _ _=>rfl) (fun k hk=>Xt k (fun e=>q4 i A hA hl (e ▸ hk)))
   ·exact(h.heap.box i A hA).stable (fun _ h _=>h) (fun k hk _=>hS k hk) (by rw[WE];exact Ut _) (fun _ _=>rfl) (fun k hk=>Xt k (fun e=>by have:=h.ro i A k hA hl hk;omega))
  ·rw[List.cons_append]at d2
   exact(List.nodup_cons.1 d2).2
  ·obtain⟨r1,r2,r3,r4⟩:=d3 k (by rw[List.cons_append];exact UT _ hk)
   have hkb:k≠b:=fun e=>by
    rw[List.cons_append]at d2
    exact(List.nodup_cons.1 d2).1 (e ▸ hk)
   exact⟨by rw[Xt k hkb];exact r1,r2,r3,r4⟩
theorem bk.leaves {fn:Func} (D':iU C.P fn st) {F:Fence} {R:Ending→World→Prop}:∀(ds:List Deferred) (a:Act) (w:World),a.defers=ds→bk C S μ st a w →
  (∀w' a' u,bk C S μ st a' w'→aq S μ w' (i2 C.P fn st) u→R (.returned u) w')→LeavesInM F 0 C.P fn a.tmps R ds .returning w
 | [],a,w,hd,h,hK=>by
  obtain⟨u,h1,h2⟩:=h.results D'
  exact⟨u,h1,hK w a u h h2⟩
 | d::ds,a,w,hd,h,hK=>by
  have hdd:∃b,d={ target:=.collected b,args:=#[] }:=by
   obtain⟨mk,d1,_⟩:=h.defers
   rw[hd]at d1
   cases mk with
   | nil=>cases d1
   | cons b mk=>exact⟨b,by simp only[Vn,Vm]at d1;exact d1.1⟩
  obtain⟨b,rfl⟩:=hdd
  obtain⟨q1,q2⟩:=h.shut hd
  refine⟨by simp,.inl ⟨b,_,rfl,run_takeDeferred q1,?_⟩⟩
  exact bk.leaves D' ds { a with defers:=ds } _ rfl q2 hK
theorem nz {f:FuncId} {fn:Func} {c:Code} (hf:C.P.funcs[f]?=some fn) (hb:fn.body=some c) (hrd:C.rd=none) {us:Array Value} {Q:Exit→St→Prop}
  (hR:bk C S μ st (xM us fn.ntmps) w) (hev:Ev C c Q st) (hQ:∀e P',Q e P'→(e=.normal∨e=.ret)∧iU C.P fn P') :
  Calls C.P f us w (fun e w'=>∃u e0 P' S' μ' a',e=.returned u∧Q e0 P'∧bk C S' μ' P' a' w'∧aq S' μ' w' (i2 C.P fn P') u):=by
 have h:=hev _ w S μ hR
 rw[hrd]at h
 refine callsIn_wide.1 (callsIn_of_wp_marks (n:=0) hf hb trivial (wpIn_mono h ?_))
 rintro e a' w' ⟨P',S',μ',hq,Xj⟩
 obtain⟨he,D'⟩:=hQ e P' hq
 have key:LeavesInM Fence.wide 0 C.P fn a'.tmps (fun e w'=>∃u e0 P' S' μ' a',e=.returned u∧Q e0 P'∧bk C S' μ' P' a' w'∧aq S' μ' w' (i2 C.P fn P') u) a'.defers .returning w' :=
  Xj.leaves D' a'.defers a' w' rfl (fun w2 a2 u hR2 hu=>⟨u,e,P',S',μ',a2,rfl,hq,hR2,hu⟩)
 rcases he with rfl | rfl
 ·exact key
 ·exact key
end
theorem zt {S:Nat→Prop} {μ:Nat→Value} {w:World} {ds:List D} {us:Array Value} (h:aU S μ w ds us) {nt:Nat} (hn:ds.length≤nt):∀(t:Nat) (d:D),(t,d)∈m4 0 ds→t<nt∧aq S μ w d ((xM us nt).tmps.getD t undef):=by
 intro t d hm
 obtain⟨_,h2⟩:=xL hm
 rw[Nat.sub_zero]at h2
 have ht:=(Up.1 h2).1
 refine⟨by omega,?_⟩
 have WL:t<us.size:=by rw[h.1];exact ht
 have:(us++Array.replicate (nt-us.size) undef).getD t undef=us[t]:=by
  simp only[Vb]
  rw[Array.getElem?_append_left WL]
  simp[WL]
 show aq S μ w d ((us++Array.replicate (nt-us.size) undef).getD t undef)
 rw[this]
 exact h.2 t d _ h2 (UM WL)
theorem v3 {ds:List D} {us:Array Value} (h:us.size=ds.length) {nt:Nat} (hn:ds.length≤nt):(xM us nt).tmps.size=nt:=by
 show(us++Array.replicate (nt-us.size) undef).size=nt
 simp
 omega
def V.flat:V→Bool
 | .int _ _=>true
 | .bool _=>true
 | .str _=>true
 | .nilf=>true
 | _=>false
def xN:aC→Prop
 | .arr _ _ enc _ l=>∀x∈l,∀y∈enc x,y.flat=true
 | _=>False
theorem eh.flat {S S':Nat→Prop} {w:World} {x:V} {u:Value} (h:eh S w x u) (hx:x.flat=true):eh S' w x u:=by
 cases h<;>first | (cases hx;done) | constructor
theorem aN.flat {S S':Nat→Prop} {μ μ':Nat→Value} {w:World} {u:Value} {B:aC} (h:aN S μ w u B) (hB:xN B):aN S' μ' w u B:=by
 cases B with
 | arr E sz enc d l =>
  obtain⟨h0,xs,h1,h3⟩:=h
  refine⟨h0,xs,h1,fun i x j y hx hy=>?_⟩
  obtain⟨z,hz,hr⟩:=h3 i x j y hx hy
  exact⟨z,hz,hr.flat (hB x (UV hx) y (UV hy))⟩
 | _=>exact hB.elim
theorem xO {B:aC} (h:xN B):B.isArr=true:=by
 cases B<;>first | rfl | exact h.elim
def scal:D→Bool
 | .v x=>x.flat
 | _=>false
def xP:List D→Bool
 | []=>true
 | .own i::cs=>Nat.beq i 0&&xP cs
 | c::cs=>scal c&&xP cs
def Dd:D→Bool
 | .own i=>Nat.beq i 0
 | .gr i _=>Nat.beq i 0
 | .agg cs=>xP cs
 | _=>false
def TE (n:Nat):D→D
 | .own _=>.own n
 | d=>d
def D.up (n:Nat):D→D
 | .own _=>.own n
 | .gr _ r=>.gr n r
 | .agg cs=>.agg (cs.map (TE n))
 | d=>d
theorem xQ:∀{cs:List D} {j:Nat} {c:D},xP cs=true→cs[j]?=some c→c=.own 0∨scal c=true
 | [],j,c,_,h=>by simp at h
 | x::cs,0,c,h,hc=>by
  simp at hc
  subst hc
  cases x<;>simp only[xP,Uo]at h<;>first | exact .inr h.1 | (have:=UH.mp h.1;subst this;exact .inl rfl)
 | x::cs,j+1,c,h,hc=>by
  refine xQ (cs:=cs) (j:=j) ?_ (by simpa using hc)
  cases x<;>simp only[xP,Uo]at h<;>exact h.2
theorem Li {S S':Nat→Prop} {μ μ':Nat→Value} {w:World} {c:D} {u:Value} {n:Nat} (h:aq S μ w c u) (hc:c=.own 0∨scal c=true) (hm:μ' n=μ 0):aq S' μ' w (TE n c) u:=by
 rcases hc with rfl | hc
 ·cases h
  rw[← hm]
  exact .own n
 ·cases c<;>first | cases hc | skip
  cases h with
  | v _ _ h=>exact .v _ _ (h.flat hc)
theorem De {S S':Nat→Prop} {μ μ':Nat→Value} {w:World} {r:D} {u:Value} {n:Nat} (h:aq S μ w r u) (hr:Dd r=true) (hm:μ' n=μ 0):aq S' μ' w (r.up n) u:=by
 cases r<;>first | cases hr | skip
 ·rename_i i
  have:=UH.mp hr
  subst this
  cases h
  rw[← hm]
  exact .own n
 ·rename_i cs
  cases h with
  | agg _ us h1 h2 =>
   refine .agg _ us (by rw[UB];exact h1) (fun j y x hy hx=>?_)
   rw[UJ,Option.map_eq_some_iff]at hy
   obtain⟨c,hc,rfl⟩:=hy
   exact Li (h2 j c x hc hx) (xQ hr hc) hm
 ·rename_i i r
  have:=UH.mp hr
  subst this
  cases h with
  | gr _ _ us _ h1 h2 h3=>exact .gr n r us u (by rw[hm];exact h1) h2 h3
theorem aN.arrMu {S:Nat→Prop} {μ μ':Nat→Value} {w:World} {u:Value} {B:aC} (h:aN S μ w u B) (hB:B.isOwn=true):aN S μ' w u B:=by
 cases B<;>first | (cases hB;done) | exact h
theorem nA {w:World} {E sz n b:Nat} {u:Value} {xs:List Value} (h:w.ownsRow 0 E sz u n xs) (hb:aO u=some b):∃cs T x,w.heap[b]?=some (.cells cs T x):=by
 obtain⟨_,h2⟩:=h
 rcases h2 with ⟨rfl,_⟩ | ⟨g,cap,W1,rfl,hg,hh2,r⟩
 ·simp[aO]at hb
 ·simp[aO]at hb
  subst hb
  exact⟨_,_,_,hh2⟩
theorem aN.ownBlk {S:Nat→Prop} {μ:Nat→Value} {w:World} {u:Value} {B:aC} {b:Nat} (h:aN S μ w u B) (hB:B.isOwn=true) (hb:cx u b):∃cs T x,w.heap[b]?=some (.cells cs T x):=by
 cases B<;>first | (cases hB;done) | skip
 ·obtain⟨_,xs,h2,_⟩:=h
  refine nA h2 ?_
  rcases hb with hb | ⟨us,rfl,_⟩
  ·exact hb
  ·rcases h2.2 with ⟨h2,_⟩ | ⟨_,_,_,h2,_⟩<;>cases h2
 ·obtain⟨us,rfl,h1,⟨v0,xs,g1,g2,g3,g4⟩,h2,h3⟩:=h
  rcases hb with hb | ⟨XZ,he,k,x,hx,hb⟩
  ·simp[aO]at hb
  ·cases he
   cases k with
   | zero=>rw[g1]at hx;cases hx;exact nA g3 hb
   | succ k=>obtain⟨_,_,xs,h,_⟩:=h2 k x hx;exact nA h hb
section
variable {C:ns} {S:Nat→Prop} {μ:Nat→Value} {st:St} {a:Act} {w:World}
theorem bk.addBoxA (h:bk C S μ st a w) (hf:cE st.heap.length st.env=true) (hh:cF st.heap.length st.heap=true) {B:aC} {u:Value} (hA2:B.isOwn=true) {μ1:Nat→Value} (I':aN S μ1 w u B)
  (W2:∀b,cx u b→C.W.heap.size≤b∧¬S b∧∀(i:Nat) (A:aC),st.heap[i]?=some A→A.live=true→¬cx (μ i) b):bk C S (br μ st.heap.length u) ⟨st.env,st.heap++[B]⟩ a w:=by
 have WR:∀i,i<st.heap.length→br μ st.heap.length u i=μ i:=fun i hi=>aP _ _ (by omega)
 have XY:∀(i:Nat) (A:aC),(st.heap++[B])[i]?=some A→(i<st.heap.length∧st.heap[i]?=some A)∨(i=st.heap.length∧A=B):=by
  intro i A hA
  by_cases hi:i<st.heap.length
  ·rw[UD hi]at hA
   exact .inl ⟨hi,hA⟩
  ·rw[UE (by omega)]at hA
   by_cases e:i-st.heap.length=0
   ·rw[e]at hA
    simp at hA
    exact .inr ⟨by omega,hA.symm⟩
   ·obtain⟨k,hk⟩:∃k,i-st.heap.length=k+1:=⟨i-st.heap.length-1,by omega⟩
    rw[hk]at hA
    simp at hA
 refine⟨h.os,h.tape,h.output,h.size,h.old,h.mono,h.new,h.slt,?_,⟨?_,?_,?_⟩,?_,?_,h.tsize,?_⟩
 ·intro t d hm
  obtain⟨q1,q2⟩:=h.env t d hm
  exact⟨q1,q2.stable (fun _ h _=>h) (fun _ _ _=>rfl) (Ut _) (fun id WG=>aP _ _ (fun e=>by rw[e,eH hf hm]at WG;cases WG))⟩
 ·intro i A hA
  rcases XY i A hA with ⟨hi,hA⟩ | ⟨rfl,rfl⟩
  ·rw[WR i hi]
   exact(h.heap.box i A hA).stable (fun _ h _=>h) (fun _ _ _=>rfl) (Ut _) (fun id WG=>aP _ _ (fun e=>by rw[e,dZ hh hA]at WG;cases WG)) (fun _ _=>rfl)
  ·rw[aG]
   exact I'.arrMu hA2
 ·intro i j A A' b hA Xf la la' hb Xa
  have g1:=XY i A hA
  have g2:=XY j A' Xf
  clear hA Xf
  rcases g1 with ⟨hi,hA⟩ | ⟨ei,eA⟩<;>rcases g2 with ⟨hj,Xf⟩ | ⟨ej,eA'⟩
  ·rw[WR i hi]at hb;rw[WR j hj]at Xa
   exact h.heap.apart i j A A' b hA Xf la la' hb Xa
  ·rw[WR i hi]at hb;rw[ej,aG]at Xa
   exact((W2 b Xa).2.2 i A hA la hb).elim
  ·rw[WR j hj]at Xa;rw[ei,aG]at hb
   exact((W2 b hb).2.2 j A' Xf la' Xa).elim
  ·rw[ei,ej]
 ·intro i A b hA la hb
  rcases XY i A hA with ⟨hi,hA⟩ | ⟨rfl,rfl⟩
  ·rw[WR i hi]at hb
   exact h.heap.notS i A b hA la hb
  ·rw[aG]at hb
   exact(W2 b hb).2.1
 ·intro i A b hA la hb
  rcases XY i A hA with ⟨hi,hA⟩ | ⟨rfl,rfl⟩
  ·rw[WR i hi]at hb
   exact h.may i A b hA la hb
  ·rw[aG]at hb
   exact(W2 b hb).1
 ·obtain⟨mk,e1,e2,e3⟩:=h.defers
  refine⟨mk,e1,e2,fun b hb=>?_⟩
  obtain⟨g1,g2,g3,g4⟩:=e3 b hb
  refine⟨g1,g2,g3,fun i A hA la XK=>?_⟩
  rcases XY i A hA with ⟨hi,hA⟩ | ⟨rfl,rfl⟩
  ·rw[WR i hi]at XK
   exact g4 i A hA la XK
  ·rw[aG]at XK
   obtain⟨cs,T,x,hh2⟩:=I'.ownBlk hA2 XK
   rw[hh2]at g1
   simp at g1
 ·intro i A b hA la hb
  rcases XY i A hA with ⟨hi,hA⟩ | ⟨rfl,rfl⟩
  ·rw[WR i hi]at hb
   exact h.ro i A b hA la hb
  ·cases A<;>first | (cases hA2;done) | cases la
theorem bk.addBox (h:bk C S μ st a w) (hf:cE st.heap.length st.env=true) (hh:cF st.heap.length st.heap=true) {B:aC} {u:Value} (hfl:xN B) {S1:Nat→Prop} {μ1:Nat→Value} (I':aN S1 μ1 w u B)
  (W2:∀b,cx u b→C.W.heap.size≤b∧¬S b∧∀(i:Nat) (A:aC),st.heap[i]?=some A→A.live=true→¬cx (μ i) b):bk C S (br μ st.heap.length u) ⟨st.env,st.heap++[B]⟩ a w :=
 h.addBoxA hf hh (aC.isOwn_arr (xO hfl)) (μ1:=μ) (I'.flat hfl) W2
def zu (P:Program) (g:FuncId) (H:List aC) (ds:List D) (q':Option (List D)) (r:D) (B:aC):Prop :=
 match q' with
 | none=>xN B∧ah P g ds [] false r [B]
 | some q'=>xN B∧uB H ds q'∧ah P g q' [] false r [B]
theorem bk.callCoreO (h:bk C S μ st a w) {f:FuncId} {q':List D} {r:D} {B:aC} {us:Array Value} (hfl:xN B) (hc:ah C.P f q' [] false r [B]) {S1:Nat→Prop} (h1:∀b,S b→S1 b) (h2:∀b,S1 b→b<w.heap.size)
  (WX:aU S1 μ w q' us) (hr:Dd r=true) (hf:cE st.heap.length st.env=true) (hh:cF st.heap.length st.heap=true) {K:Value→World→Prop} (hK:∀S' μ' u w',bk C S' μ' ⟨st.env,st.heap++[B]⟩ a w'→aq S' μ' w' (r.up st.heap.length) u→K u w') :
  Calls C.P f us w (fun e w'=>∃u,e=.returned u∧K u w'):=by
 have slt:=h.slt
 refine(hc S1 μ w us h2 (h.glob.stable (fun b hb _=>h1 b hb) (fun _ _ _=>rfl) (Ut _)) ⟨fun id B hB=>by simp at hB,fun i j A B b hA=>by simp at hA,fun i A b hA=>by simp at hA⟩ WX).mono ?_
 rintro e w' ⟨u,μ',S',rfl,q1,q2,q3,q4,q5,q6,q7,q8,q9,q10,q11,_⟩
 have hR:bk C S μ st a w':=h.grow q1 q2 q3 q4 (fun k hk=>q5 k hk (fun i A hA=>by simp at hA)) (fun b hb=>hb) (fun b hb=>.inl hb) (fun b hb=>Vl (slt b hb) q4)
 have I':=q10.box 0 B rfl
 have hl:B.live=true:=by have:=xO hfl;cases B<;>first | rfl | cases this
 refine⟨u,rfl,hK S (br μ st.heap.length (μ' 0)) u w' (hR.addBox hf hh hfl I' (fun b hb=>?_)) (De q9 hr (aG _ _ _))⟩
 have W2:w.heap.size≤b:=by
  rcases q11 0 B b rfl hl hb with hb | ⟨j,A',Xf,_⟩
  ·exact hb
  ·simp at Xf
 refine⟨U6 h.size W2,fun hS=>by have:=slt b hS;omega,fun i A hA la XK=>?_⟩
 have:=(h.heap.box i A hA).lt la b XK
 omega
theorem bk.callOwn (h:bk C S μ st a w) {f:FuncId} {ds:List D} {q':Option (List D)} {r:D} {B:aC} {us:Array Value} (hc:zu C.P f st.heap ds q' r B) (WX:aU S μ w ds us) (hr:Dd r=true)
  (hf:cE st.heap.length st.env=true) (hh:cF st.heap.length st.heap=true) {K:Value→World→Prop} (hK:∀S' μ' u w',bk C S' μ' ⟨st.env,st.heap++[B]⟩ a w'→aq S' μ' w' (r.up st.heap.length) u→K u w') :
  Calls C.P f us w (fun e w'=>∃u,e=.returned u∧K u w'):=by
 cases q' with
 | none=>exact h.callCoreO hc.1 hc.2 (fun _ h=>h) h.slt WX hr hf hh hK
 | some q' =>
  obtain⟨hfl,Z7,hc⟩:=hc
  have slt:=h.slt
  have hSc:∀b,(S b∨∃(i:Nat) (A:aC),st.heap[i]?=some A∧A.mem=true∧cx (μ i) b)→b<w.heap.size:=by
   rintro b (hb | ⟨i,A,hA,hl,hb⟩)
   ·exact slt b hb
   ·exact(h.heap.box i A hA).lt (aC.mem_live hl) b hb
  refine h.callCoreO hfl hc (S1:=fun b=>S b∨∃(i:Nat) (A:aC),st.heap[i]?=some A∧A.mem=true∧cx (μ i) b) (fun b hb=>.inl hb) hSc ?_ hr hf hh hK
  exact oP h.heap (fun b hb=>.inl hb) slt (.inl (fun i A b hA hl hb=>.inr ⟨i,A,hA,hl,hb⟩)) Z7 WX
def vp (P:Program) (g:FuncId) (H:List aC) (ds:List D) (q':Option (List D)) (r:D) (B:aC):Prop :=
 match q' with
 | none=>ah P g ds [] false r [B]
 | some q'=>uB H ds q'∧ah P g q' [] false r [B]
theorem bk.callDeep (h:bk C S μ st a w) {f:FuncId} {ds:List D} {q':Option (List D)} {r:D} {B:aC} {us:Array Value} (hc:vp C.P f st.heap ds q' r B) (WX:aU S μ w ds us) (hr:Dd r=true) (hB:B.isOwn=true) (Xu:gg ds=true)
  (hf:cE st.heap.length st.env=true) (hh:cF st.heap.length st.heap=true) {K:Value→World→Prop} (hK:∀S' μ' u w',bk C S' μ' ⟨st.env,st.heap++[B]⟩ a w'→aq S' μ' w' (r.up st.heap.length) u→K u w') :
  Calls C.P f us w (fun e w'=>∃u,e=.returned u∧K u w'):=by
 obtain⟨ZZ,hc',hus'⟩:∃ZZ,ah C.P f ZZ [] false r [B]∧aU S μ w ZZ us:=by
  cases q' with
  | none=>exact⟨ds,hc,WX⟩
  | some q'=>exact⟨q',hc.2,oP h.heap (fun _ h=>h) h.slt (.inr Xu) hc.1 WX⟩
 have slt:=h.slt
 refine(hc' S μ w us slt h.glob ⟨fun id B hB=>by simp at hB,fun i j A B b hA=>by simp at hA,fun i A b hA=>by simp at hA⟩ hus').mono ?_
 rintro e w' ⟨u,μ',S',rfl,q1,q2,q3,q4,q5,q6,q7,q8,q9,q10,q11,_⟩
 have hR:bk C S' μ st a w':=h.grow q1 q2 q3 q4 (fun k hk=>q5 k hk (fun i A hA=>by simp at hA)) q6 q7 q8
 have I':=q10.box 0 B rfl
 have hl:B.live=true:=by cases B<;>first | rfl | cases hB
 refine⟨u,rfl,hK S' (br μ st.heap.length (μ' 0)) u w' (hR.addBoxA hf hh hB I' (fun b hb=>?_)) (De q9 hr (aG _ _ _))⟩
 have W2:w.heap.size≤b:=by
  rcases q11 0 B b rfl hl hb with hb | ⟨j,A',Xf,_⟩
  ·exact hb
  ·simp at Xf
 refine⟨U6 h.size W2,q10.notS 0 B b rfl hl hb,fun i A hA la XK=>?_⟩
 have:=(h.heap.box i A hA).lt la b XK
 omega
def Ii (j i:Nat):List (Nat×D)→Option (List (Nat×D))
 | []=>some []
 | (t,d)::r=>match Ii j i r with
  | some r'=>match d with
   | .own k=>if Nat.beq k j then some ((t,.own i)::r')else if Nat.beq k i then none else some ((t,.own k)::r')
   | d=>if D.free j d&&D.free i d then some ((t,d)::r')else none
  | none=>none
theorem Ba {j i:Nat}:∀{env Yt:List (Nat×D)} {t:Nat} {d':D},Ii j i env=some Yt→(t,d')∈Yt→∃d,(t,d)∈env∧((d=.own j∧d'=.own i)∨(d'=d∧D.free j d=true∧D.free i d=true))
 | [],Yt,t,d',h,hm=>by
  simp only[Ii,UA]at h
  subst h
  simp at hm
 | (s,e)::r,Yt,t,d',h,hm=>by
  unfold Ii at h
  split at h
  ·rename_i r' hr'
   have tail:(t,d')∈r'→∃d,(t,d)∈(s,e)::r∧((d=.own j∧d'=.own i)∨(d'=d∧D.free j d=true∧D.free i d=true)):=fun hm=>by
    obtain⟨d,h1,h2⟩:=Ba hr' hm
    exact⟨d,UT _ h1,h2⟩
   split at h
   ·rename_i k
    split at h
    ·rename_i hk
     simp only[UA]at h
     subst h
     rcases Vh.1 hm with hm | hm
     ·cases hm
      have:=UH.mp hk
      subst this
      exact⟨_,UX ..,.inl ⟨rfl,rfl⟩⟩
     ·exact tail hm
    ·rename_i hk
     split at h
     ·cases h
     ·rename_i Ys
      simp only[UA]at h
      subst h
      rcases Vh.1 hm with hm | hm
      ·cases hm
       refine⟨_,UX ..,.inr ⟨rfl,?_,?_⟩⟩
       ·simp only[D.free];simp only[Wc]at hk;rw[hk];rfl
       ·simp only[D.free];simp only[Wc]at Ys;rw[Ys];rfl
      ·exact tail hm
   ·split at h
    ·rename_i hc
     simp only[Uo]at hc
     simp only[UA]at h
     subst h
     rcases Vh.1 hm with hm | hm
     ·cases hm
      exact⟨_,UX ..,.inr ⟨rfl,hc.1,hc.2⟩⟩
     ·exact tail hm
    ·cases h
  ·cases h
def ES (j i:Nat) (st:St):Option St :=
 if cF i st.heap&&cF j st.heap&&!(Nat.beq i j)&&Nat.blt i st.heap.length then
  match st.heap[j]? with
  | some (.arr E sz enc d l)=>match Ii j i st.env with
   | some env=>some ⟨env,(st.heap.set i (.arr E sz enc d l)).set j .dead⟩
   | none=>none
  | _=>none
 else none
theorem bk.move (h:bk C S μ st a w) {j i:Nat} {P':St} (hm:ES j i st=some P'):bk C S (br μ i (μ j)) P' a w:=by
 unfold ES at hm
 split at hm
 ·rename_i hc
  simp only[Uo,U2,Ws]at hc
  obtain⟨⟨⟨fi,fj⟩,hij⟩,WL⟩:=hc
  have hij:i≠j:=fun e=>by rw[e]at hij;simp at hij
  split at hm
  ·rename_i E sz α enc d l hj
   split at hm
   ·rename_i env he
    simp only[UA]at hm
    subst hm
    have hjl:j<st.heap.length:=(Up.1 hj).1
    have XY:∀(k:Nat) (A:aC),((st.heap.set i (aC.arr E sz enc d l)).set j .dead)[k]?=some A→(k=j∧A=.dead)∨(k=i∧A=aC.arr E sz enc d l)∨(k≠i∧k≠j∧st.heap[k]?=some A):=by
     intro k A hA
     by_cases e1:k=j
     ·subst e1
      rw[UI (by rw[UQ];exact hjl)]at hA
      exact .inl ⟨rfl,by cases hA;rfl⟩
     ·rw[UF (fun e=>e1 e.symm)]at hA
      by_cases e2:k=i
      ·subst e2
       rw[UI WL]at hA
       exact .inr (.inl ⟨rfl,by cases hA;rfl⟩)
      ·rw[UF (fun e=>e2 e.symm)]at hA
       exact .inr (.inr ⟨e2,e1,hA⟩)
    have Xx:(aC.arr E sz enc d l).live=true:=rfl
    have oth:∀k,k≠i→br μ i (μ j) k=μ k:=fun k hk=>aP _ _ hk
    refine⟨h.os,h.tape,h.output,h.size,h.old,h.mono,h.new,h.slt,?_,⟨?_,?_,?_⟩,?_,?_,h.tsize,?_⟩
    ·intro t d' hmem
     obtain⟨d0,h0,hd⟩:=Ba he hmem
     obtain⟨q1,q2⟩:=h.env t d0 h0
     refine⟨q1,?_⟩
     rcases hd with ⟨rfl,rfl⟩ | ⟨rfl,g1,g2⟩
     ·generalize hu:a.tmps.getD t undef=u at q2
      cases q2
      have:=aq.own (S:=S) (μ:=br μ i (μ j)) (w:=w) i
      rwa [aG]at this
     ·exact q2.stable (fun _ h _=>h) (fun _ _ _=>rfl) (Ut _) (fun id WG=>oth id (fun e=>by rw[e,g2]at WG;cases WG))
    ·intro k A hA
     rcases XY k A hA with ⟨rfl,rfl⟩ | ⟨rfl,rfl⟩ | ⟨h1,h2,hA⟩
     ·trivial
     ·rw[aG]
      exact(h.heap.box j _ hj).stable (fun _ h _=>h) (fun _ _ _=>rfl) (Ut _) (fun id WG=>by cases WG) (fun _ _=>rfl)
     ·rw[oth k h1]
      exact(h.heap.box k A hA).stable (fun _ h _=>h) (fun _ _ _=>rfl) (Ut _) (fun id WG=>oth id (fun e=>by rw[e,dZ fi hA]at WG;cases WG)) (fun _ _=>rfl)
    ·intro k m A A' b hA Xf la la' hb Xa
     have g1:=XY k A hA
     have g2:=XY m A' Xf
     clear hA Xf
     rcases g1 with ⟨rfl,rfl⟩ | ⟨rfl,rfl⟩ | ⟨h1,h2,hA⟩<;>rcases g2 with ⟨rfl,rfl⟩ | ⟨rfl,rfl⟩ | ⟨h3,h4,Xf⟩<;>first | (cases la;done) | (cases la';done) | rfl | skip
     ·rw[aG]at hb;rw[oth m h3]at Xa
      exact(h4 (h.heap.apart j m _ _ b hj Xf Xx la' hb Xa).symm).elim
     ·rw[aG]at Xa;rw[oth k h1]at hb
      exact(h2 (h.heap.apart k j _ _ b hA hj la Xx hb Xa)).elim
     ·rw[oth k h1]at hb;rw[oth m h3]at Xa
      exact h.heap.apart k m A A' b hA Xf la la' hb Xa
    ·intro k A b hA la hb
     rcases XY k A hA with ⟨rfl,rfl⟩ | ⟨rfl,rfl⟩ | ⟨h1,h2,hA⟩
     ·cases la
     ·rw[aG]at hb;exact h.heap.notS j _ b hj Xx hb
     ·rw[oth k h1]at hb;exact h.heap.notS k A b hA la hb
    ·intro k A b hA la hb
     rcases XY k A hA with ⟨rfl,rfl⟩ | ⟨rfl,rfl⟩ | ⟨h1,h2,hA⟩
     ·cases la
     ·rw[aG]at hb;exact h.may j _ b hj Xx hb
     ·rw[oth k h1]at hb;exact h.may k A b hA la hb
    ·obtain⟨mk,e1,e2,e3⟩:=h.defers
     refine⟨mk,e1,e2,fun b hb=>?_⟩
     obtain⟨g1,g2,g3,g4⟩:=e3 b hb
     refine⟨g1,g2,g3,fun k A hA la XK=>?_⟩
     rcases XY k A hA with ⟨rfl,rfl⟩ | ⟨rfl,rfl⟩ | ⟨h1,h2,hA⟩
     ·cases la
     ·rw[aG]at XK;exact g4 j _ hj Xx XK
     ·rw[oth k h1]at XK;exact g4 k A hA la XK
    ·intro k A b hA la hb
     rcases XY k A hA with ⟨rfl,rfl⟩ | ⟨rfl,rfl⟩ | ⟨h1,h2,hA⟩
     ·cases la
     ·cases la
     ·rw[oth k h1]at hb;exact h.ro k A b hA la hb
   ·cases hm
  ·cases hm
 ·cases hm
end
end Go.Proofs.YtnlmlkbaflmgcaaGreat
