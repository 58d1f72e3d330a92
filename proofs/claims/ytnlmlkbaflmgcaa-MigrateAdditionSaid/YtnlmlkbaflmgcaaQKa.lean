/-
  Values,memory and effects on pure data. Generic: over any program.
-/
import Derived.Test.YtnlmlkbaflmgcaaQGlb
namespace Go.Proofs.Ytnlmlkbaflmgcaa
open Go.RowKit
set_option linter.unusedVariables false
set_option linter.unusedSimpArgs false
def nk:Option Nat→Fence
 | none=>Fence.wide
 | some l=>Fence.wide.inRound l
theorem oi (rd:Option Nat) (f:FuncId):(nk rd).fn f:=by cases rd<;>trivial
theorem uL (rd:Option Nat):(nk rd).depth=none:=by cases rd<;>rfl
theorem zF (P:Program) (rd:Option Nat):Machine.fenced P (nk rd)=Machine.fenced P Fence.wide:=by cases rd<;>rfl
theorem xJ {rd:Option Nat} {n:Nat} {P:Program} {f:FuncId} {args:Array Value} {w:World} {R:Ending→World→Prop} (h:Calls P f args w R):CallsIn (nk rd) n P f args w R:=by
 have h':CallsIn Fence.wide n P f args w R:=callsIn_wide.2 h
 cases rd with
 | none=>exact h'
 | some l=>exact h'.inRound l
theorem zG {rd:Option Nat} {n:Nat} {P:Program} {row:String} {args:Array Value} {w:World} {R:Value→World→Prop} (h:Rows P row args w R):RowsIn (nk rd) n P row args w R :=
 fun c cs _=>let ⟨v,w',r,s⟩:=h c cs;⟨v,w',r,by rw[zF];exact stepsIn_wide.2 s⟩
theorem jf {rd:Option Nat} {P:Program} {o:Oper} {a:Act} {K:Act→World→Prop} {Q:Exit→Act→World→Prop} {r:Result Next} (h:o.upon P a K Q r):o.uponIn (nk rd) 0 P a K Q r:=by
 have hd:(nk rd).depth.isSome=true→1≤0:=fun h=>by rw[uL]at h;cases h
 cases r with
 | ok x w' =>
  cases x<;>simp only[Oper.upon]at h<;>simp only[Oper.uponIn]<;>first
   | exact h
   | exact⟨hd,xJ h⟩
   | exact⟨hd,zG h⟩
   | exact h.elim
 | halt x w'=>cases x<;>simp only[Oper.upon]at h<;>simp only[Oper.uponIn]<;>exact h
def cF (o:Oper):Bool :=
 match o.op with
 | .defer _=>true
 | _=>false
def A8 (ops:Array Oper):Prop:=∀(i:Nat) (o:Oper),ops[i]?=some o→cF o=false
theorem Dc {o:Oper} (h:cF o=false) (rd:Option Nat) (ρ:Operand→Value):o.semAt rd ρ=execOp ρ o:=by
 cases rd with
 | none=>exact Oper.semAt_none ..
 | some l =>
  refine Oper.semAt_some l ρ o (fun c hc=>?_)
  unfold cF at h
  rw[hc]at h
  cases h
theorem rN {rd:Option Nat} {P:Program} {o:Oper} {a:Act} {w:World} {K:Act→World→Prop} {Q:Exit→Act→World→Prop} (hd:cF o=false) (h:o.uponIn (nk rd) 0 P a K Q ((execOp a.eval o).run P w)):o.wpIn (nk rd) 0 P a w K Q :=
 ⟨fun f _=>oi rd f,by rw[Dc hd];exact h⟩
theorem Lj {rd:Option Nat} {P:Program} {ops:Array Oper} {i:Nat} {o:Oper} {a:Act} {w:World} {K:Act→World→Prop} {Q:Exit→Act→World→Prop} (hnd:A8 ops) (ho:ops[i]?=some o) (h:o.uponIn (nk rd) 0 P a K Q ((execOp a.eval o).run P w)):o.wpIn (nk rd) 0 P a w K Q :=
 rN (hnd i o ho) h
theorem nj.uponIn {rd:Option Nat} {P:Program} {R:Value→World→Prop} {o:Oper} {a:Act} {next:Act→World→Prop} {Q:Exit→Act→World→Prop} {r:Result Next}
  (h:nj P R r) (hn:∀v w',R v w'→next (a.put o.dst v) w'):o.uponIn (nk rd) 0 P a next Q r:=jf (h.upon hn)
section
variable {P:Program} {ops:Array Oper} {sp:qV} {base:Act} {w0:World} {rd:Option Nat}
theorem we {Q:Exit→Act→World→Prop} (TI:G9 ops sp base) {m0:Nat} (TJ:A6 ops m0=true):∀(fuel m:Nat) (C':Array Bool) (a:Act) (w:World),m0≤m→m+fuel=ops.size→C'.size=ops.size →
  (∀i,i<m→C'.getD i false=true)→(∀i,m≤i→C'.getD i false=false) →
  wpOpsIn (nk rd) 0 P ops Q (List.range' m fuel) a w→wpAnyIn (nk rd) 0 P .any ops Q fuel C' a w:=by
 obtain⟨_,ht⟩:=oh TJ
 intro fuel
 induction fuel with
 | zero =>
  intro m C' a w hm UK hs hall SM h
  refine⟨List.eq_nil_iff_forall_not_mem.2 (fun i hi=>?_),by simpa[wpOpsIn]using h⟩
  obtain⟨h1,o,ho,_⟩:=(cV C' hs i).1 hi
  have:=(Px.1 ho).1
  rw[hall i (by omega)]at h1
  cases h1
 | succ fuel ih =>
  intro m C' a w hm UK hs hall SM h
  have hmlt:m<ops.size:=by omega
  have ho:ops[m]?=some ops[m]:=PJ hmlt
  have Ur:m∈Region.ready .any ops C':=(cV C' hs m).2 ⟨SM m (Pl _),_,ho,fun e he hb=>hall _ (by have:=TI.top m _ ho e he hb;omega)⟩
  refine⟨fun UM=>(by rw[UM]at Ur;cases Ur),fun i hi=>?_⟩
  obtain⟨Sh,o,hio,hr⟩:=(cV C' hs i).1 hi
  have Vo:i=m:=by
   have hilt:=(Px.1 hio).1
   have h1:m≤i:=by
    refine Ql fun hn=>?_
    rw[hall i (by omega)]at Sh
    cases Sh
   refine Ql fun hn=>?_
   have hb:=ht i (by omega) hilt m (by omega)
   have:=ga (C':=C') (fun k ok hk V1 e he hbe=>by
    have hkm:k<m:=by
     refine Ql fun hn=>?_
     rw[SM k (by omega)]at hk
     cases hk
    have:=TI.top k ok V1 e he hbe
    exact hall _ (by omega)) 12 i m (fun o' SG=>by rw[hio]at SG;cases SG;exact hr) hb
   rw[SM m (Pl _)]at this
   cases this
  subst Vo
  rw[List.range'_succ,wpOpsIn_cons]at h
  refine wpOpIn_mono (fun a w h=>?_) h
  have Vn:i<C'.size:=by omega
  refine ih (i+1) _ a w (by omega) (by omega) (by simpa using hs) (fun k hk=>?_) (fun k hk=>?_) h
  ·rw[a6 _ _ _ Vn]
   split
   ·rfl
   ·exact hall k (by omega)
  ·rw[a6 _ _ _ Vn,Pj (by omega)]
   exact SM k (by omega)
end
end Go.Proofs.Ytnlmlkbaflmgcaa
namespace Go.Proofs.Ytnlmlkbaflmgcaa
open Go.RowKit
set_option linter.unusedVariables false
set_option linter.unusedSimpArgs false
inductive V:Type 1
 | int (k:IntKind) (n:Int)
 | bool (b:Bool)
 | str (s:ByteArray)
 | sl (sz:Nat) {α:Type} (enc:α→List V) (d:α) (l:List α)
 | mp (es:List (Int×Value))
 | nilf
 | nsl
 | esl
 | sm (ag:Bool) {α:Type} (enc:α→List V) (d:α) (l:List (ByteArray×α))
 | nmp
 | fnv (f:FuncId)
def A9 (ag:Bool) (n:Nat) (v:Value) (f:Nat→Value):Prop:=if ag=true then ∃us:Array Value,v=.agg us∧us.size=n∧∀j,j<n→us[j]?=some (f j)else n=1∧v=f 0
inductive dg (S:Nat→Prop) (w:World):V→Value→Prop
 | int (k:IntKind) (n:Int):dg S w (.int k n) (.int k n)
 | bool (b:Bool):dg S w (.bool b) (.bool b)
 | str (s:ByteArray):dg S w (.str s) (.string s)
 | nil (sz:Nat) {α:Type} (enc:α→List V) (d:α) (p:Option Addr) (c:Nat):c≤maxLen→(p=none→c=0)→dg S w (.sl sz enc d []) (.slice p 0 c)
 | row (sz:Nat) {α:Type} (enc:α→List V) (d:α) (l:List α) (b I' c n:Nat) (us:Nat→Nat→Value):S b→b<w.heap.size→n=l.length→n≤c→c≤maxLen →
   (∀(i:Nat) (x:α),l[i]?=some x→(enc x).length=sz) →
   (∀(i:Nat) (x:α) (j:Nat) (y:V),l[i]?=some x→(enc x)[j]?=some y→w.cell? ⟨b,I'+(i*sz+j),none⟩=some (us i j)) →
   (∀(i:Nat) (x:α) (j:Nat) (y:V),l[i]?=some x→(enc x)[j]?=some y→dg S w y (us i j))→dg S w (.sl sz enc d l) (.slice (some ⟨b,I',none⟩) n c)
 | mp (es:List (Int×Value)) (b clock:Nat) (arr:Array MapEntry):S b→b<w.heap.size→w.heap[b]?=some (.map arr clock)→arr.toList.map (fun e=>(e.key,e.val))=es.map (fun e=>(Value.int .i64 e.1,e.2))→dg S w (.mp es) (.map (some b))
 | nilf:dg S w .nilf .nilFunc
 | nsl:dg S w .nsl (.slice none 0 0)
 | esl (p:Addr) (c:Nat):c≤maxLen→dg S w .esl (.slice (some p) 0 c)
 | smn (ag:Bool) {α:Type} (enc:α→List V) (d:α):dg S w (.sm ag enc d []) (.map none)
 | sm (ag:Bool) {α:Type} (enc:α→List V) (d:α) (l:List (ByteArray×α)) (b clock:Nat) (arr:Array MapEntry) (us:Nat→Nat→Value):S b→b<w.heap.size→w.heap[b]?=some (.map arr clock)→arr.size=l.length →
   (∀(i:Nat) (k:ByteArray) (x:α),l[i]?=some (k,x)→∃e,arr[i]?=some e∧e.key=.string k∧A9 ag (enc x).length e.val (us i)) →
   (∀(i:Nat) (k:ByteArray) (x:α) (j:Nat) (y:V),l[i]?=some (k,x)→(enc x)[j]?=some y→dg S w y (us i j))→dg S w (.sm ag enc d l) (.map (some b))
 | nmp:dg S w .nmp (.map none)
 | fnv (f:FuncId):dg S w (.fnv f) (.func (.func f) #[] #[])
theorem dg.stable {S S':Nat→Prop} {w w':World} {x:V} {u:Value} (h:dg S w x u) (hS:∀b,S b→b<w.heap.size→S' b)
  (hw:∀b,S b→b<w.heap.size→w'.heap[b]?=w.heap[b]?) (RB:w.heap.size≤w'.heap.size):dg S' w' x u:=by
 induction h with
 | int k n=>exact .int k n
 | bool b=>exact .bool b
 | str s=>exact .str s
 | nil sz enc d p c h1 h2=>exact .nil sz enc d p c h1 h2
 | row sz enc d l b I' c n us h1 h2 h3 h4 h5 h6 h7 _ ih =>
  exact .row sz enc d l b I' c n us (hS b h1 h2) (by omega) h3 h4 h5 h6 (fun i x j y hx hy=>by rw[← h7 i x j y hx hy];exact Ri (hw b h1 h2)) ih
 | nilf=>exact .nilf
 | nsl=>exact .nsl
 | esl p c h=>exact .esl p c h
 | mp es b clock arr h1 h2 h3 h4=>exact .mp es b clock arr (hS b h1 h2) (by omega) (by rw[hw b h1 h2];exact h3) h4
 | smn ag enc d=>exact .smn ag enc d
 | sm ag enc d l b clock arr us h1 h2 h3 h4 h5 _ ih=>exact .sm ag enc d l b clock arr us (hS b h1 h2) (by omega) (by rw[hw b h1 h2];exact h3) h4 h5 ih
 | nmp=>exact .nmp
 | fnv f=>exact .fnv f
theorem dg.one {S:Nat→Prop} {w:World} {x:V} {u:Value} (h:dg S w x u):u.oneCell'=true:=by
 cases h<;>rfl
inductive D:Type 1
 | v (x:V)
 | nils
 | own (id:Nat)
 | ptr (id i sz I':Nat)
 | iptr (cs:List V) (I':Nat)
 | agg (cs:List D)
 | tup (cs:List D)
 | fn (f:Fn) (first cap:List D)
 | yld (id:Nat)
 | capd (x:V)
 | gr (g r:Nat)
 | junk
mutual
def D.free (id:Nat):D→Bool
 | .own i=>!(Nat.beq i id)
 | .ptr i _ _ _=>!(Nat.beq i id)
 | .agg cs=>D.freeL id cs
 | .tup cs=>D.freeL id cs
 | .fn _ a b=>D.freeL id a&&D.freeL id b
 | .yld i=>!(Nat.beq i id)
 | .gr i _=>!(Nat.beq i id)
 | _=>true
def D.freeL (id:Nat):List D→Bool
 | []=>true
 | c::cs=>D.free id c&&D.freeL id cs
end
def aM:Value→Option Nat
 | .pointer (some a)=>some a.block
 | .slice (some a) _ _=>some a.block
 | .map (some b)=>some b
 | _=>none
def bI (u:Value) (b:Nat):Prop:=aM u=some b∨∃us:Array Value,u=.tuple us∧∃(k:Nat) (x:Value),us[k]?=some x∧aM x=some b
theorem bI.one {u:Value} {b k:Nat} (hk:bI u k) (h:aM u=some b):some b=some k:=by
 rcases hk with hk | ⟨us,rfl,_⟩
 ·rw[← h,← hk]
 ·cases h
theorem bI.bl {u:Value} {b:Nat} (hk:bI u b) (h:u.oneCell'=true):aM u=some b:=by
 rcases hk with hk | ⟨us,rfl,_⟩
 ·exact hk
 ·cases h
theorem bI.of {u:Value} {b:Nat} (h:aM u=some b):bI u b:=.inl h
inductive ao (S:Nat→Prop) (μ:Nat→Value) (w:World):D→Value→Prop
 | v (x:V) (u:Value):dg S w x u→ao S μ w (.v x) u
 | nils:ao S μ w .nils (.slice none 0 0)
 | own (id:Nat):ao S μ w (.own id) (μ id)
 | ptr (id i sz I' b:Nat):aM (μ id)=some b→ao S μ w (.ptr id i sz I') (.pointer (some ⟨b,i*sz+I',none⟩))
 | iptr (cs:List V) (I' b o:Nat) (us:Nat→Value):S b→b<w.heap.size→(∀(j:Nat) (y:V),cs[j]?=some y→w.cell? ⟨b,o+j,none⟩=some (us j)) →
   (∀(j:Nat) (y:V),cs[j]?=some y→dg S w y (us j))→ao S μ w (.iptr cs I') (.pointer (some ⟨b,o+I',none⟩))
 | agg (cs:List D) (us:Array Value):us.size=cs.length→(∀(j:Nat) (y:D) (u:Value),cs[j]?=some y→us[j]?=some u→ao S μ w y u)→ao S μ w (.agg cs) (.agg us)
 | tup (cs:List D) (us:Array Value):us.size=cs.length→(∀(j:Nat) (y:D) (u:Value),cs[j]?=some y→us[j]?=some u→ao S μ w y u)→ao S μ w (.tup cs) (.tuple us)
 | fn (f:Fn) (first cap:List D) (us vs:Array Value):us.size=first.length→(∀(j:Nat) (y:D) (u:Value),first[j]?=some y→us[j]?=some u→ao S μ w y u) →
   vs.size=cap.length→(∀(j:Nat) (y:D) (u:Value),cap[j]?=some y→vs[j]?=some u→ao S μ w y u)→ao S μ w (.fn f first cap) (.func f us vs)
 | yld (id l:Nat):aM (μ id)=some l→ao S μ w (.yld id) (.func (.yield l) #[] #[])
 | capd (x:V) (p:Option Addr) (n:Nat):dg S w x (.slice p n n)→ao S μ w (.capd x) (.slice p n n)
 | gr (g r:Nat) (us:Array Value) (u:Value):μ g=.tuple us→us[r]?=some u→u.oneCell'=true→ao S μ w (.gr g r) u
 | junk (u:Value):ao S μ w .junk u
theorem D.freeL_get {id:Nat}:∀{cs:List D} {j:Nat} {y:D},D.freeL id cs=true→cs[j]?=some y→D.free id y=true
 | [],_,_,_,h=>by simp at h
 | c::cs,0,y,h,hy=>by
  simp only[D.freeL,Pg]at h
  simp at hy
  subst hy
  exact h.1
 | c::cs,j+1,y,h,hy=>by
  simp only[D.freeL,Pg]at h
  exact D.freeL_get h.2 (by simpa using hy)
theorem ao.stable {S S':Nat→Prop} {μ μ':Nat→Value} {w w':World} {d:D} {u:Value} (h:ao S μ w d u) (hS:∀b,S b→b<w.heap.size→S' b)
  (hw:∀b,S b→b<w.heap.size→w'.heap[b]?=w.heap[b]?) (RB:w.heap.size≤w'.heap.size) (hμ:∀id,d.free id=false→μ' id=μ id):ao S' μ' w' d u:=by
 induction h with
 | v x u h=>exact .v x u (h.stable hS hw RB)
 | nils=>exact .nils
 | own id=>rw[← hμ id (by simp[D.free])];exact .own id
 | ptr id i sz I' b h=>exact .ptr id i sz I' b (by rw[hμ id (by simp[D.free])];exact h)
 | yld id l h=>exact .yld id l (by rw[hμ id (by simp[D.free])];exact h)
 | iptr cs I' b o us h1 h2 h3 h4=>exact .iptr cs I' b o us (hS b h1 h2) (by omega) (fun j y hy=>by rw[← h3 j y hy];exact Ri (hw b h1 h2)) (fun j y hy=>(h4 j y hy).stable hS hw RB)
 | agg cs us h1 _ ih =>
  refine .agg cs us h1 (fun j y u hy hu=>ih j y u hy hu (fun id hf=>hμ id ?_))
  simp only[D.free]
  cases hc:D.freeL id cs
  ·rfl
  ·rw[D.freeL_get hc hy]at hf;cases hf
 | tup cs us h1 _ ih =>
  refine .tup cs us h1 (fun j y u hy hu=>ih j y u hy hu (fun id hf=>hμ id ?_))
  simp only[D.free]
  cases hc:D.freeL id cs
  ·rfl
  ·rw[D.freeL_get hc hy]at hf;cases hf
 | fn f a b us vs h1 _ h2 _ ih1 ih2 =>
  refine .fn f a b us vs h1 (fun j y u hy hu=>ih1 j y u hy hu (fun id hf=>hμ id ?_)) h2 (fun j y u hy hu=>ih2 j y u hy hu (fun id hf=>hμ id ?_))
  ·simp only[D.free]
   cases hc:D.freeL id a
   ·rfl
   ·rw[D.freeL_get hc hy]at hf;cases hf
  ·simp only[D.free]
   cases hc:D.freeL id b
   ·simp
   ·rw[D.freeL_get hc hy]at hf;cases hf
 | capd x p n h=>exact .capd x p n (h.stable hS hw RB)
 | gr g r us u h h1 h2=>exact .gr g r us u (by rw[hμ g (by simp[D.free])];exact h) h1 h2
 | junk u=>exact .junk u
def D.one:D→Bool
 | .agg _=>false
 | .tup _=>false
 | .junk=>false
 | .own _=>true
 | _=>true
structure oZ:Type 1 where
 E:TypeId
 sz:Nat
 α:Type
 enc:α→List V
 d:α
 l:List α
inductive Ce:Type 1
 | v (x:V)
 | me (r:Nat)
inductive ax:Type 1
 | dead
 | var (T:TypeId) (cs:List D)
 | arr (E:TypeId) (sz:Nat) {α:Type} (enc:α→List V) (d:α) (l:List α)
 | loop (l:Nat) (tm:Array Value) (nt:Nat) (env:List (Nat×D)) (ps:List Nat) (assign body:Code) (state:LoopState) (pending:Option Code)
 | frame (tm:Array Value) (env:List (Nat×D))
 | ro (E:TypeId) (sz:Nat) {α:Type} (enc:α→List V) (d:α) (l:List α)
 | mpb (t:TypeId) (ag:Bool) {α:Type} (enc:α→List V) (d:α) (l:List (ByteArray×α))
 | arrD (E:TypeId) (sz n:Nat) (gs:List Nat) (cell:Nat→Nat→D)
 | grp (n:Nat) (f:Nat→oZ)
 | nest (E:TypeId) (sz n:Nat) (ce:Nat→Nat→Ce) (m:Nat) (f:Nat→oZ)
def bO (id:Nat):List (Nat×D)→Bool
 | []=>true
 | (_,d)::r=>D.free id d&&bO id r
theorem dy {id:Nat}:∀{env:List (Nat×D)} {t:Nat} {d:D},bO id env=true→(t,d)∈env→D.free id d=true
 | (s,e)::r,t,d,h,hm=>by
  simp only[bO,Pg]at h
  rcases Qf.1 hm with hm | hm
  ·cases hm;exact h.1
  ·exact dy h.2 hm
def fF (ag:Bool) (cs:List V):D:=if ag then .agg (cs.map D.v)else (cs.map D.v).getD 0 .junk
theorem uM (ag:Bool) (cs:List V) (id:Nat):D.free id (fF ag cs)=true:=by
 have hL:∀cs:List V,D.freeL id (cs.map D.v)=true:=by
  intro cs
  induction cs with
  | nil=>rfl
  | cons c r ih=>rw[Qe,D.freeL,ih];rfl
 unfold fF
 split
 ·rw[D.free];exact hL cs
 ·cases cs<;>rfl
def Ba (S:Nat→Prop) (μ:Nat→Value) (w:World) (ag:Bool) {α:Type} (enc:α→List V) (l:List (ByteArray×α)) (arr:Array MapEntry):Prop :=
 arr.size=l.length∧∀(i:Nat) (k:ByteArray) (x:α),l[i]?=some (k,x)→∃e,arr[i]?=some e∧e.key=.string k∧(ag=false→(enc x).length=1)∧ao S μ w (fF ag (enc x)) e.val
def p6 (S:Nat→Prop) (w:World) (u:Value) (x:oZ):Prop:=(∀(i:Nat) (y:x.α),x.l[i]?=some y→(x.enc y).length=x.sz)∧∃xs,w.ownsRow 0 x.E x.sz u x.l.length xs∧∀(i:Nat) (z:x.α) (j:Nat) (y:V),x.l[i]?=some z→(x.enc z)[j]?=some y→∃v,xs[i*x.sz+j]?=some v∧dg S w y v
def Lk (S:Nat→Prop) (w:World) (us:Array Value):Ce→Value→Prop
 | .v x,z=>dg S w x z
 | .me r,z=>us[r+1]?=some z
def aJ (S:Nat→Prop) (μ:Nat→Value) (w:World) (u:Value):ax→Prop
 | .dead=>True
 | .var T cs=>∃b vs,u=.pointer (some ⟨b,0,none⟩)∧w.heap[b]?=some (.cells vs T (0,0))∧vs.size=cs.length∧∀(j:Nat) (y:D) (x:Value),cs[j]?=some y→vs[j]?=some x→ao S μ w y x
 | .arr (α:=α) E sz enc _ l=>(∀(i:Nat) (x:α),l[i]?=some x→(enc x).length=sz)∧∃xs,w.ownsRow 0 E sz u l.length xs∧∀(i:Nat) (x:α) (j:Nat) (y:V),l[i]?=some x→(enc x)[j]?=some y→∃z,xs[i*sz+j]?=some z∧dg S w y z
 | .loop l tm nt env ps assign body state pending=>∃(r:Loop),u=.pointer (some ⟨l,0,none⟩)∧w.heap[l]?=some (.loop r)∧r.state=state∧r.pending=pending∧r.params=ps.toArray∧r.assign=assign∧r.body=body∧r.tmps=tm∧tm.size=nt ∧
   ∀(t:Nat) (d:D),(t,d)∈env→t<nt∧ao S μ w d (tm.getD t undef)
 | .frame tm env=>u=.bool true∧∀(t:Nat) (d:D),(t,d)∈env→t<tm.size∧ao S μ w d (tm.getD t undef)
 | .ro (α:=α) E sz enc _ l=>(∀(i:Nat) (x:α),l[i]?=some x→(enc x).length=sz)∧∃xs,w.ownsRow 0 E sz u l.length xs∧∀(i:Nat) (x:α) (j:Nat) (y:V),l[i]?=some x→(enc x)[j]?=some y→∃z,xs[i*sz+j]?=some z∧dg S w y z
 | .mpb t ag enc _ l=>∃b arr clock,u=.map (some b)∧w.heap[b]?=some (.map arr clock)∧Ba S μ w ag enc l arr
 | .arrD E sz n gs cell=>(∀(i j id:Nat),i<n→j<sz→gs.all (fun g=>!(Nat.beq g id))=true→(cell i j).free id=true)∧∃xs,w.ownsRow 0 E sz u n xs∧∀(i j:Nat),i<n→j<sz→∃z,xs[i*sz+j]?=some z∧z.oneCell'=true∧ao S μ w (cell i j) z
 | .grp n f=>∃us:Array Value,u=.tuple us∧us.size=n∧(∀(r:Nat) (v:Value),us[r]?=some v→v.oneCell'=true∧p6 S w v (f r))∧∀(r r':Nat) (v v':Value) (b:Nat),us[r]?=some v→us[r']?=some v'→aM v=some b→aM v'=some b→r=r'
 | .nest E sz n ce m f=>∃us:Array Value,u=.tuple us∧us.size=m+1∧(∃(v0:Value) (xs:List Value),us[0]?=some v0∧v0.oneCell'=true∧w.ownsRow 0 E sz v0 n xs∧∀(i j:Nat),i<n→j<sz→∃z,xs[i*sz+j]?=some z∧z.oneCell'=true∧Lk S w us (ce i j) z) ∧
   (∀(r:Nat) (v:Value),us[r+1]?=some v→v.oneCell'=true∧p6 S w v (f r))∧∀(r r':Nat) (v v':Value) (b:Nat),us[r]?=some v→us[r']?=some v'→aM v=some b→aM v'=some b→r=r'
def ax.live:ax→Bool
 | .dead=>false
 | .ro _ _ _ _ _=>false
 | _=>true
def ax.isRo:ax→Bool
 | .ro _ _ _ _ _=>true
 | _=>false
theorem ax.three (A:ax):A=.dead∨A.live=true∨A.isRo=true:=by
 cases A<;>first | exact .inl rfl | exact .inr (.inl rfl) | exact .inr (.inr rfl)
def ax.isArr:ax→Bool
 | .arr _ _ _ _ _=>true
 | _=>false
def ax.isOwn:ax→Bool
 | .arr _ _ _ _ _=>true
 | .nest _ _ _ _ _ _=>true
 | _=>false
theorem ax.isOwn_arr {B:ax} (h:B.isArr=true):B.isOwn=true:=by cases B<;>first | rfl | cases h
theorem Dd {B:ax} (h:B.live=true):B.isRo=false:=by cases B<;>first | rfl | cases h
theorem lh {B:ax} (h:B.isArr=true):B.isRo=false:=by cases B<;>first | rfl | cases h
def ax.free (id:Nat):ax→Bool
 | .var _ cs=>D.freeL id cs
 | .loop _ _ _ env _ _ _ _ _=>bO id env
 | .frame _ env=>bO id env
 | .arrD _ _ _ gs _=>gs.all (fun g=>!(Nat.beq g id))
 | _=>true
theorem p6.stable {S S':Nat→Prop} {w w':World} {u:Value} {x:oZ} (h:p6 S w u x) (hS:∀b,S b→b<w.heap.size→S' b)
  (hw:∀b,S b→b<w.heap.size→w'.heap[b]?=w.heap[b]?) (RB:w.heap.size≤w'.heap.size) (hb:∀b,aM u=some b→w'.heap[b]?=w.heap[b]?):p6 S' w' u x:=by
 obtain⟨h0,xs,⟨h1,h2⟩,h3⟩:=h
 refine⟨h0,xs,⟨h1,?_⟩,fun i x j y hx hy=>?_⟩
 ·rcases h2 with h2 | ⟨g,cap,RN,rfl,hg,hh,r⟩
  ·exact .inl h2
  ·exact .inr ⟨g,cap,RN,rfl,hg,by rw[hb g rfl];exact hh,r⟩
 ·obtain⟨z,hz,hr⟩:=h3 i x j y hx hy
  exact⟨z,hz,hr.stable hS hw RB⟩
theorem sG {w w':World} {E sz n:Nat} {u:Value} {xs:List Value} (h:w.ownsRow 0 E sz u n xs) (hb:∀b,aM u=some b→w'.heap[b]?=w.heap[b]?):w'.ownsRow 0 E sz u n xs:=by
 obtain⟨h1,h2⟩:=h
 refine⟨h1,?_⟩
 rcases h2 with h2 | ⟨g,cap,RN,rfl,hg,hh,r⟩
 ·exact .inl h2
 ·exact .inr ⟨g,cap,RN,rfl,hg,by rw[hb g rfl];exact hh,r⟩
theorem aJ.stable {S S':Nat→Prop} {μ μ':Nat→Value} {w w':World} {u:Value} {B:ax} (h:aJ S μ w u B) (hS:∀b,S b→b<w.heap.size→S' b)
  (hw:∀b,S b→b<w.heap.size→w'.heap[b]?=w.heap[b]?) (RB:w.heap.size≤w'.heap.size) (hμ:∀id,B.free id=false→μ' id=μ id)
  (R6:∀b,bI u b→w'.heap[b]?=w.heap[b]?):aJ S' μ' w' u B:=by
 have hb:∀b,aM u=some b→w'.heap[b]?=w.heap[b]?:=fun b h=>R6 b (.of h)
 cases B with
 | dead=>trivial
 | var T cs =>
  obtain⟨b,vs,rfl,h1,h2,h3⟩:=h
  refine⟨b,vs,rfl,by rw[hb b rfl];exact h1,h2,fun j y x hy hx=>(h3 j y x hy hx).stable hS hw RB (fun id hf=>hμ id ?_)⟩
  simp only[ax.free]
  cases hc:D.freeL id cs
  ·rfl
  ·rw[D.freeL_get hc hy]at hf;cases hf
 | arr E sz enc d l =>
  obtain⟨h0,xs,⟨h1,h2⟩,h3⟩:=h
  refine⟨h0,xs,⟨h1,?_⟩,fun i x j y hx hy=>?_⟩
  ·rcases h2 with h2 | ⟨g,cap,RN,rfl,hg,hh,r⟩
   ·exact .inl h2
   ·exact .inr ⟨g,cap,RN,rfl,hg,by rw[hb g rfl];exact hh,r⟩
  ·obtain⟨z,hz,hr⟩:=h3 i x j y hx hy
   exact⟨z,hz,hr.stable hS hw RB⟩
 | loop l tm nt env ps assign body state pending =>
  obtain⟨r,rfl,h1,h2,h3,h4,h5,h6,h7,h7',h8⟩:=h
  refine⟨r,rfl,by rw[hb l rfl];exact h1,h2,h3,h4,h5,h6,h7,h7',fun t d hm=>?_⟩
  obtain⟨q1,q2⟩:=h8 t d hm
  refine⟨q1,q2.stable hS hw RB (fun id hf=>hμ id ?_)⟩
  simp only[ax.free]
  cases hc:bO id env
  ·rfl
  ·rw[dy hc hm]at hf;cases hf
 | frame tm env =>
  obtain⟨rfl,h8⟩:=h
  refine⟨rfl,fun t d hm=>?_⟩
  obtain⟨q1,q2⟩:=h8 t d hm
  refine⟨q1,q2.stable hS hw RB (fun id hf=>hμ id ?_)⟩
  simp only[ax.free]
  cases hc:bO id env
  ·rfl
  ·rw[dy hc hm]at hf;cases hf
 | ro E sz enc d l =>
  obtain⟨h0,xs,⟨h1,h2⟩,h3⟩:=h
  refine⟨h0,xs,⟨h1,?_⟩,fun i x j y hx hy=>?_⟩
  ·rcases h2 with h2 | ⟨g,cap,RN,rfl,hg,hh,r⟩
   ·exact .inl h2
   ·exact .inr ⟨g,cap,RN,rfl,hg,by rw[hb g rfl];exact hh,r⟩
  ·obtain⟨z,hz,hr⟩:=h3 i x j y hx hy
   exact⟨z,hz,hr.stable hS hw RB⟩
 | mpb t ag enc d l =>
  obtain⟨b,arr,clock,rfl,h1,h2,h3⟩:=h
  refine⟨b,arr,clock,rfl,by rw[hb b rfl];exact h1,h2,fun i k x hx=>?_⟩
  obtain⟨e,q1,q2,q4,q3⟩:=h3 i k x hx
  exact⟨e,q1,q2,q4,q3.stable hS hw RB (fun id hf=>by rw[uM]at hf;cases hf)⟩
 | arrD E sz n gs cell =>
  obtain⟨h0,xs,⟨h1,h2⟩,h3⟩:=h
  refine⟨h0,xs,⟨h1,?_⟩,fun i j hi hj=>?_⟩
  ·rcases h2 with h2 | ⟨g,cap,RN,rfl,hg,hh,r⟩
   ·exact .inl h2
   ·exact .inr ⟨g,cap,RN,rfl,hg,by rw[hb g rfl];exact hh,r⟩
  ·obtain⟨z,hz,ho,hr⟩:=h3 i j hi hj
   refine⟨z,hz,ho,hr.stable hS hw RB (fun id hf=>hμ id ?_)⟩
   simp only[ax.free]
   cases hc:gs.all (fun g=>!(Nat.beq g id))
   ·rfl
   ·rw[h0 i j id hi hj hc]at hf;cases hf
 | grp n f =>
  obtain⟨us,rfl,h1,h2,h3⟩:=h
  exact⟨us,rfl,h1,fun r v hv=>⟨(h2 r v hv).1,(h2 r v hv).2.stable hS hw RB (fun b V2=>R6 b (.inr ⟨us,rfl,r,v,hv,V2⟩))⟩,h3⟩
 | nest E sz n ce m f =>
  obtain⟨us,rfl,h1,⟨v0,xs,g1,g2,g3,g4⟩,h2,h3⟩:=h
  refine⟨us,rfl,h1,⟨v0,xs,g1,g2,sG g3 (fun b V2=>R6 b (.inr ⟨us,rfl,0,v0,g1,V2⟩)),fun i j hi hj=>?_⟩,fun r v hv=>⟨(h2 r v hv).1,(h2 r v hv).2.stable hS hw RB (fun b V2=>R6 b (.inr ⟨us,rfl,r+1,v,hv,V2⟩))⟩,h3⟩
  obtain⟨z,q1,q2,q3⟩:=g4 i j hi hj
  refine⟨z,q1,q2,?_⟩
  cases hc:ce i j with
  | v x=>rw[hc]at q3;exact q3.stable hS hw RB
  | me r=>rw[hc]at q3;exact q3
theorem aJ.ro_arr {S:Nat→Prop} {μ:Nat→Value} {w:World} {u:Value} {E sz:Nat} {α:Type} {enc:α→List V} {d:α} {l:List α} (h:aJ S μ w u (.ro E sz enc d l)):aJ S μ w u (.arr E sz enc d l):=h
theorem aJ.lt {S:Nat→Prop} {μ:Nat→Value} {w:World} {u:Value} {B:ax} (h:aJ S μ w u B) (hl:B.live=true):∀b,bI u b→b<w.heap.size:=by
 intro b hb
 cases B with
 | dead=>cases hl
 | var T cs =>
  obtain⟨b',vs,rfl,h1,_⟩:=h
  simp[bI,aM]at hb
  subst hb
  exact(Px.1 h1).1
 | arr E sz enc d l =>
  obtain⟨_,xs,⟨h1,h2⟩,_⟩:=h
  rcases h2 with ⟨rfl,_⟩ | ⟨g,cap,RN,rfl,hg,hh,r⟩
  ·simp[bI,aM]at hb
  ·simp[bI,aM]at hb
   subst hb
   exact(Px.1 hh).1
 | loop l tm nt env ps assign body state pending =>
  obtain⟨r,rfl,h1,_⟩:=h
  simp[bI,aM]at hb
  subst hb
  exact(Px.1 h1).1
 | frame tm env =>
  obtain⟨rfl,_⟩:=h
  simp[bI,aM]at hb
 | ro E sz enc d l=>cases hl
 | mpb t ag enc d l =>
  obtain⟨b',arr,clock,rfl,h1,_⟩:=h
  simp[bI,aM]at hb
  subst hb
  exact(Px.1 h1).1
 | arrD E sz n gs cell =>
  obtain⟨_,xs,⟨h1,h2⟩,_⟩:=h
  rcases h2 with ⟨rfl,_⟩ | ⟨g,cap,RN,rfl,hg,hh,r⟩
  ·simp[bI,aM]at hb
  ·simp[bI,aM]at hb
   subst hb
   exact(Px.1 hh).1
 | grp n f =>
  obtain⟨us,rfl,h1,h2,h3⟩:=h
  rcases hb with hb | ⟨SW,he,k,x,hx,hb⟩
  ·simp[aM]at hb
  ·cases he
   obtain⟨_,_,xs,⟨_,h2⟩,_⟩:=h2 k x hx
   rcases h2 with ⟨rfl,_⟩ | ⟨g,cap,RN,rfl,hg,hh,r⟩
   ·simp[aM]at hb
   ·simp[aM]at hb
    subst hb
    exact(Px.1 hh).1
 | nest E sz n ce m f =>
  obtain⟨us,rfl,h1,⟨v0,xs,g1,g2,g3,g4⟩,h2,h3⟩:=h
  rcases hb with hb | ⟨SW,he,k,x,hx,hb⟩
  ·simp[aM]at hb
  ·cases he
   have key:∃E' RY n' xs',w.ownsRow 0 E' RY x n' xs':=by
    cases k with
    | zero=>rw[g1]at hx;cases hx;exact⟨_,_,_,_,g3⟩
    | succ k=>obtain⟨_,_,xs,h,_⟩:=h2 k x hx;exact⟨_,_,_,_,h⟩
   obtain⟨E',RY,n',xs',_,h2⟩:=key
   rcases h2 with ⟨rfl,_⟩ | ⟨g,cap,RN,rfl,hg,hh,r⟩
   ·simp[aM]at hb
   ·simp[aM]at hb
    subst hb
    exact(Px.1 hh).1
theorem aJ.ltR {S:Nat→Prop} {μ:Nat→Value} {w:World} {u:Value} {B:ax} (h:aJ S μ w u B) (hr:B.isRo=true):∀b,bI u b→b<w.heap.size:=by
 cases B<;>first | (cases hr;done) | skip
 exact h.ro_arr.lt rfl
structure be (S:Nat→Prop) (μ:Nat→Value) (w:World) (H:List ax):Prop where
 box:∀(id:Nat) (B:ax),H[id]?=some B→aJ S μ w (μ id) B
 apart:∀(i j:Nat) (A B:ax) (b:Nat),H[i]?=some A→H[j]?=some B→A.live=true→B.live=true→bI (μ i) b→bI (μ j) b→i=j
 notS:∀(i:Nat) (A:ax) (b:Nat),H[i]?=some A→A.live=true→bI (μ i) b→¬S b
def gK:List (Nat×List V):=Ow.map fun p=>(p.1,p.2.map fun o=>o.elim .nilf V.fnv)
def fI (S:Nat→Prop) (w:World):Prop:=∀(g:Nat) (cs:List V),(g,cs)∈gK→S g∧g<w.heap.size∧∀(j:Nat) (y:V),cs[j]?=some y→∃u,w.cell? ⟨g,j,none⟩=some u∧dg S w y u
theorem fI.stable {S S':Nat→Prop} {w w':World} (h:fI S w) (hS:∀b,S b→b<w.heap.size→S' b)
  (hw:∀b,S b→b<w.heap.size→w'.heap[b]?=w.heap[b]?) (RB:w.heap.size≤w'.heap.size):fI S' w':=fun g cs hm=>by
 obtain⟨h1,h2,h3⟩:=h g cs hm
 refine⟨hS g h1 h2,by omega,fun j y hy=>?_⟩
 obtain⟨u,hu,hr⟩:=h3 j y hy
 exact⟨u,by rw[← hu];exact Ri (hw g h1 h2),hr.stable hS hw RB⟩
theorem De {S:Nat→Prop} {w:World} (h:Ow=[]):fI S w:=fun g cs hm=>by
 unfold gK at hm;rw[h]at hm;cases hm
structure li where
 P:Program
 W:World
 S0:Nat→Prop
 nt:Nat
 susp:List Nat
 rd:Option Nat
 g:fI S0 W
structure St:Type 1 where
 env:List (Nat×D)
 heap:List ax
structure a5 (C:li) (S:Nat→Prop) (μ:Nat→Value) (st:St) (a:Act) (w:World):Prop where
 os:w.os=C.W.os
 tape:w.tape=C.W.tape
 output:w.output=C.W.output
 size:C.W.heap.size≤w.heap.size
 old:∀k,k<C.W.heap.size→w.heap[k]?=C.W.heap[k]?
 mono:∀b,C.S0 b→S b
 new:∀b,S b→C.S0 b∨C.W.heap.size≤b
 slt:∀b,S b→b<w.heap.size
 env:∀(t:Nat) (d:D),(t,d)∈st.env→t<C.nt∧ao S μ w d (a.tmps.getD t undef)
 heap:be S μ w st.heap
 may:∀(i:Nat) (A:ax) (b:Nat),st.heap[i]?=some A→A.live=true→bI (μ i) b→C.W.heap.size≤b
 defers:∃mk:List Nat,a.defers=mk.map (fun b=>{ target:=.collected b,args:=#[] })∧(mk++C.susp).Nodup∧∀b∈mk++C.susp,w.heap[b]?=some (.deferred (some []))∧C.W.heap.size≤b∧¬S b∧∀(i:Nat) (A:ax),st.heap[i]?=some A→A.live=true→¬bI (μ i) b
 tsize:a.tmps.size=C.nt
 ro:∀(i:Nat) (A:ax) (b:Nat),st.heap[i]?=some A→A.isRo=true→bI (μ i) b→b<C.W.heap.size
theorem a5.glob {C:li} {S:Nat→Prop} {μ:Nat→Value} {st:St} {a:Act} {w:World} (h:a5 C S μ st a w):fI S w :=
 C.g.stable (fun b hb _=>h.mono b hb) (fun b _ hb=>h.old b hb) h.size
end Go.Proofs.Ytnlmlkbaflmgcaa
namespace Go.Proofs.Ytnlmlkbaflmgcaa
open Go.RowKit
set_option linter.unusedVariables false
set_option linter.unusedSimpArgs false
def D.ofVal1:Value→D
 | .int k n=>.v (.int k n)
 | .bool b=>.v (.bool b)
 | .string s=>.v (.str s)
 | .slice none 0 0=>.nils
 | .nilFunc=>.v .nilf
 | .map none=>.v .nmp
 | .func f a b=>if a.isEmpty&&b.isEmpty then .fn f [] []else .junk
 | _=>.junk
def D.ofVal:Value→D
 | .agg us=>.agg (us.toList.map D.ofVal1)
 | u=>D.ofVal1 u
theorem bk {α:Type _} (l:List α) (d:α) {i:Nat} (h:i<l.length):l.getD i d=l[i]:=by simp[List.getD,h]
theorem ao.ofVal1 (S:Nat→Prop) (μ:Nat→Value) (w:World) (u:Value):ao S μ w (D.ofVal1 u) u:=by
 unfold D.ofVal1
 split
 ·exact .v _ _ (.int _ _)
 ·exact .v _ _ (.bool _)
 ·exact .v _ _ (.str _)
 ·exact .nils
 ·exact .v _ _ .nilf
 ·exact .v _ _ .nmp
 ·split
  ·rename_i f a b h
   simp only[Pg,Array.isEmpty_iff]at h
   obtain⟨rfl,rfl⟩:=h
   exact .fn f [] [] #[] #[] rfl (fun j y u h=>by simp at h) rfl (fun j y u h=>by simp at h)
  ·exact .junk _
 ·exact .junk _
theorem ao.ofVal (S:Nat→Prop) (μ:Nat→Value) (w:World) (u:Value):ao S μ w (D.ofVal u) u:=by
 unfold D.ofVal
 split
 ·rename_i us
  refine .agg _ us (by simp) (fun j y u hy hu=>?_)
  simp only[PE,PU,hu,PY,Pu]at hy
  subst hy
  exact ao.ofVal1 S μ w u
 ·exact ao.ofVal1 S μ w _
abbrev R1:=D×Prop
def aP:R1:=(.junk,False)
def ay (P:Program) (t:TypeId):Nat:=((P.info? t).map (·.size)).getD 0
def uN (P:Program) (t:TypeId):Bool:=match P.underlying t with | some (.struct _)=>true | some (.array _ _)=>true | _=>false
def ca (P:Program) (t:TypeId):Bool:=(P.info? t).isSome&&(P.underlying t).isSome
def cM (P:Program) (t:TypeId) (cs:List D) (I':Nat):R1 :=
 if ca P t&&Nat.ble (I'+ay P t) cs.length&&(uN P t||Nat.beq (ay P t) 1)then
  (if uN P t then .agg ((cs.drop I').take (ay P t))else cs.getD I' .junk,True)
 else aP
def Bb (P:Program) (t:TypeId) (H:List ax):D→R1
 | .ptr id i sz I'=>match H[id]? with
  | some (.var _ cs)=>if Nat.beq i 0 then cM P t cs I' else aP
  | some (.arr _ RY enc d l)=>if Nat.beq sz RY then
    (match cM P t ((enc (l.getD i d)).map D.v) I' with | (x,p)=>(x,i<l.length∧p))else aP
  | some (.ro _ RY enc d l)=>if Nat.beq sz RY then
    (match cM P t ((enc (l.getD i d)).map D.v) I' with | (x,p)=>(x,i<l.length∧p))else aP
  | some (.arrD _ RY n _ cell)=>if Nat.beq sz RY then
    (match cM P t ((List.range sz).map (cell i)) I' with | (x,p)=>(x,i<n∧p))else aP
  | _=>aP
 | .iptr cs I'=>cM P t (cs.map D.v) I'
 | _=>aP
section
variable {P:Program} {S:Nat→Prop} {μ:Nat→Value} {w:World}
theorem dq {t:TypeId} (h:ca P t=true) (w:World):(sizeOf t).run P w=.ok (ay P t) w:=by
 unfold ca at h
 cases hi:P.info? t with
 | none=>simp[hi]at h
 | some i=>simp[sizeOf,typeInfo,hi,ay]
theorem uO {t:TypeId} (h:ca P t=true) (w:World):(isAgg t).run P w=.ok (uN P t) w:=by
 unfold ca at h
 cases hu:P.underlying t with
 | none=>simp[hu]at h
 | some d =>
  unfold isAgg
  simp only[Pm,PV hu,Pk]
  unfold uN
  rw[hu]
  cases d<;>rfl
def j5 (S:Nat→Prop) (μ:Nat→Value) (w:World) (b o:Nat) (cs:List D):Prop :=
 ∀(j:Nat) (y:D),cs[j]?=some y→∃u,w.cell? ⟨b,o+j,none⟩=some u∧ao S μ w y u
theorem cW (b o i:Nat):(⟨b,o,none⟩:Addr).add i=⟨b,o+i,none⟩:=by unfold Addr.add;split<;>simp_all
theorem jg {b o:Nat} {cs:List D} (h:j5 S μ w b o cs):∀(n i:Nat) (RM:Array Value),i+n≤cs.length →
  ∃us:Array Value,(loadCellsFrom ⟨b,o,none⟩ i n RM).run P w=.ok (RM++us) w∧us.size=n∧∀(j:Nat) (y:D) (u:Value),cs[i+j]?=some y→us[j]?=some u→ao S μ w y u
 | 0,i,RM,_=>⟨#[],by simp[loadCellsFrom],rfl,fun j y u _ hu=>by simp at hu⟩
 | n+1,i,RM,hl=>by
  have hi:i<cs.length:=by omega
  obtain⟨u,hu,hr⟩:=h i cs[i] (Ph hi)
  obtain⟨us,h1,h2,h3⟩:=jg h n (i+1) (RM.push u) (by omega)
  refine⟨#[u]++us,?_,by simp[h2];omega,fun j y x hy hx=>?_⟩
  ·have hld:(load ⟨b,o+i,none⟩).run P w=.ok u w:=by simp[load,Sem.run,hu]
   rw[loadCellsFrom,cW,Pm,hld,Pk,h1]
   congr 1
   rw[Array.push_eq_append,Array.append_assoc]
  ·cases j with
   | zero =>
    have TL:x=u:=by
     rw[Array.getElem?_append_left (by simp)]at hx
     simpa using hx.symm
    rw[TL]
    rw[QO,Ph hi]at hy
    cases hy
    exact hr
   | succ j =>
    refine h3 j y x (by rw[show i+1+j=i+(j+1)from by omega];exact hy) ?_
    rw[Array.getElem?_append_right (by simp)]at hx
    simpa using hx
theorem gk {t:TypeId} {cs:List D} {I' b o:Nat} {d:D} {p:Prop} (hp:cM P t cs I'=(d,p)) (D':p) (h:j5 S μ w b o cs) :
  ∃u,(loadVar t ⟨b,o+I',none⟩).run P w=.ok u w∧ao S μ w d u:=by
 unfold cM at hp
 split at hp
 ·rename_i hc
  simp only[Pg,PS,Qm,PC]at hc
  obtain⟨⟨hk,hl⟩,hs⟩:=hc
  simp only[Po]at hp
  obtain⟨rfl,_⟩:=hp
  have h':j5 S μ w b (o+I') (cs.drop I'):=fun j y hy=>by
   rw[Qv]at hy
   rw[Nat.add_assoc]
   exact h _ _ hy
  unfold loadVar
  simp only[Pm,uO hk,Pk]
  cases ha:uN P t
  ·simp only[Qc,QY]
   rw[ha]at hs
   have RQ:ay P t=1:=by simpa using hs
   have RF:I'<cs.length:=by omega
   obtain⟨u,hu,hr⟩:=h I' cs[I'] (Ph RF)
   refine⟨u,by simp[load,Sem.run,hu],?_⟩
   rw[bk _ _ RF]
   exact hr
  ·simp only[Q7]
   obtain⟨us,h1,h2,h3⟩:=jg (P:=P) h' (ay P t) 0 #[] (by rw[PQ];omega)
   refine⟨.agg us,?_,.agg _ _ (by rw[h2,PD,PQ];omega) (fun j y u hy hu=>h3 j y u ?_ hu)⟩
   ·simp only[Pm,dq hk,Pk,loadCells,h1,PF,Array.empty_append]
   ·rw[PK]at hy
    split at hy
    ·simpa using hy
    ·cases hy
 ·simp only[aP,Po]at hp
  obtain⟨_,rfl⟩:=hp
  exact D'.elim
theorem jC {E sz n:Nat} {u:Value} {xs:List Value} (h:w.ownsRow 0 E sz u n xs) {b:Nat} (hb:aM u=some b):∀j z,xs[j]?=some z→w.cell? ⟨b,j,none⟩=some z:=by
 intro j z hz
 have D':u.ownBlock=some b:=by
  cases u<;>simp[aM]at hb ⊢
  ·obtain⟨h1,h2⟩:=h
   rcases h2 with ⟨h2,_⟩ | ⟨_,_,_,h2,_⟩<;>cases h2
  ·rename_i a len cap
   cases a with
   | none=>simp at hb
   | some a=>simp at hb;simp[Value.ownBlock,hb]
  ·obtain⟨h1,h2⟩:=h
   rcases h2 with ⟨h2,_⟩ | ⟨_,_,_,h2,_⟩<;>cases h2
 have:=h.cells D' j z hz
 rwa [cW,PX]at this
theorem aJ.arr_cells {E sz:Nat} {α:Type} {enc:α→List V} {d:α} {l:List α} {u:Value} (h:aJ S μ w u (.arr E sz enc d l)) {b i:Nat} (hb:aM u=some b) (hi:i<l.length) :
  j5 S μ w b (i*sz) ((enc (l.getD i d)).map D.v):=by
 obtain⟨h0,xs,h1,h2⟩:=h
 intro j y hy
 rw[PE]at hy
 have hx:l[i]?=some (l.getD i d):=by rw[bk _ _ hi];exact Ph hi
 cases he:(enc (l.getD i d))[j]? with
 | none=>rw[he]at hy;cases hy
 | some z =>
  rw[he]at hy
  simp only[PY,Pu]at hy
  subst hy
  obtain⟨q,hq,hr⟩:=h2 i _ j z hx he
  exact⟨q,jC h1 hb _ _ hq,.v _ _ hr⟩
theorem aJ.arrD_cells {E sz n:Nat} {gs:List Nat} {cell:Nat→Nat→D} {u:Value} (h:aJ S μ w u (.arrD E sz n gs cell)) {b i:Nat} (hb:aM u=some b) (hi:i<n) :
  j5 S μ w b (i*sz) ((List.range sz).map (cell i)):=by
 obtain⟨h0,xs,h1,h2⟩:=h
 intro j y hy
 rw[PE]at hy
 by_cases hj:j<sz
 ·rw[List.getElem?_range hj]at hy
  simp only[PY,Pu]at hy
  subst hy
  obtain⟨z,hz,_,hr⟩:=h2 i j hi hj
  exact⟨z,jC h1 hb _ _ hz,hr⟩
 ·rw[P2 (by simp;omega)]at hy
  cases hy
theorem aJ.var_cells {T:TypeId} {cs:List D} {u:Value} (h:aJ S μ w u (.var T cs)) {b:Nat} (hb:aM u=some b):j5 S μ w b 0 cs:=by
 obtain⟨b',vs,rfl,h1,h2,h3⟩:=h
 simp[aM]at hb
 subst hb
 intro j y hy
 have hj:=(Pf.1 hy).1
 have hv:vs[j]?=some vs[j]:=PJ (by omega)
 refine⟨vs[j],?_,h3 j y _ hy hv⟩
 simp[World.cell?,h1,hv]
theorem sH {cs:List V} {I':Nat} {u:Value} (h:ao S μ w (.iptr cs I') u):∃b o,u=.pointer (some ⟨b,o+I',none⟩)∧j5 S μ w b o (cs.map D.v):=by
 cases h with
 | iptr _ _ b o us h1 h2 h3 h4 =>
  refine⟨b,o,rfl,fun j y hy=>?_⟩
  rw[PE]at hy
  cases he:cs[j]? with
  | none=>rw[he]at hy;cases hy
  | some z =>
   rw[he]at hy
   simp only[PY,Pu]at hy
   subst hy
   exact⟨_,h3 j z he,.v _ _ (h4 j z he)⟩
theorem mb {id i sz I':Nat} {u:Value} (h:ao S μ w (.ptr id i sz I') u):∃b,aM (μ id)=some b∧u=.pointer (some ⟨b,i*sz+I',none⟩):=by
 cases h with
 | ptr _ _ _ _ b h=>exact⟨b,h,rfl⟩
theorem qW {t:TypeId} {H:List ax} (hH:be S μ w H) {a d:D} {p:Prop} {ua:Value} (ha:ao S μ w a ua) (hp:Bb P t H a=(d,p)) (D':p) :
  ∃u,(Instr.loadAt t ua).run P w=.ok u w∧ao S μ w d u:=by
 unfold Bb at hp
 split at hp
 ·rename_i id i sz I'
  obtain⟨b,hb,rfl⟩:=mb ha
  split at hp
  ·rename_i T cs G'
   split at hp
   ·rename_i hi
    simp only[PC]at hi
    subst hi
    obtain⟨u,h1,h2⟩:=gk (P:=P) hp D' ((hH.box id _ G').var_cells hb)
    refine⟨u,?_,h2⟩
    simpa[Instr.loadAt,Instr.sureAddr]using h1
   ·cases hp;exact D'.elim
  ·rename_i E RY enc d' l G'
   split at hp
   ·rename_i hs
    simp only[PC]at hs
    subst hs
    generalize hq:cM P t ((enc (l.getD i d')).map D.v) I'=q at hp
    obtain⟨x,p'⟩:=q
    simp only[Po]at hp
    obtain⟨rfl,rfl⟩:=hp
    obtain⟨u,h1,h2⟩:=gk (P:=P) hq D'.2 ((hH.box id _ G').arr_cells hb D'.1)
    refine⟨u,?_,h2⟩
    simpa[Instr.loadAt,Instr.sureAddr]using h1
   ·cases hp;exact D'.elim
  ·rename_i E RY enc d' l G'
   split at hp
   ·rename_i hs
    simp only[PC]at hs
    subst hs
    generalize hq:cM P t ((enc (l.getD i d')).map D.v) I'=q at hp
    obtain⟨x,p'⟩:=q
    simp only[Po]at hp
    obtain⟨rfl,rfl⟩:=hp
    obtain⟨u,h1,h2⟩:=gk (P:=P) hq D'.2 ((hH.box id _ G').ro_arr.arr_cells hb D'.1)
    refine⟨u,?_,h2⟩
    simpa[Instr.loadAt,Instr.sureAddr]using h1
   ·cases hp;exact D'.elim
  ·rename_i E RY n gs cell G'
   split at hp
   ·rename_i hs
    simp only[PC]at hs
    subst hs
    generalize hq:cM P t ((List.range sz).map (cell i)) I'=q at hp
    obtain⟨x,p'⟩:=q
    simp only[Po]at hp
    obtain⟨rfl,rfl⟩:=hp
    obtain⟨u,h1,h2⟩:=gk (P:=P) hq D'.2 ((hH.box id _ G').arrD_cells hb D'.1)
    refine⟨u,?_,h2⟩
    simpa[Instr.loadAt,Instr.sureAddr]using h1
   ·cases hp;exact D'.elim
  ·cases hp;exact D'.elim
 ·rename_i cs I'
  obtain⟨b,o,rfl,hc⟩:=sH ha
  obtain⟨u,h1,h2⟩:=gk (P:=P) hp D' hc
  refine⟨u,?_,h2⟩
  simpa[Instr.loadAt,Instr.sureAddr]using h1
 ·cases hp;exact D'.elim
end
end Go.Proofs.Ytnlmlkbaflmgcaa
namespace Go.Proofs.Ytnlmlkbaflmgcaa
open Go.RowKit
set_option linter.unusedVariables false
set_option linter.unusedSimpArgs false
def sI (n:Nat):D→R1
 | .ptr id i sz I'=>(.ptr id i sz (I'+n),True)
 | .iptr cs I'=>(.iptr cs (I'+n),True)
 | _=>aP
def oo (P:Program) (s:TypeId) (x:D) (f:Nat):R1 :=
 match P.underlying s with
 | some (.struct fs)=>match fs[f]? with
  | some V3=>if ca P V3.type&&!(Nat.beq (ay P V3.type) 0)then sI V3.offset x else aP
  | none=>aP
 | _=>aP
def oq (P:Program) (t:TypeId) (H:List ax) (x i:D):R1 :=
 match P.underlying t,x,i with
 | some (.slice e),.v (.sl sz enc d l),.v (.int _ n)=>if ca P e&&Nat.beq (ay P e) sz then (.iptr (enc (l.getD n.toNat d)) 0,0≤n∧n<l.length)else aP
 | some (.slice e),.own id,.v (.int _ n)=>match H[id]? with
  | some (.arr _ sz _ _ l)=>if ca P e&&Nat.beq (ay P e) sz then (.ptr id n.toNat sz 0,0≤n∧n<l.length)else aP
  | some (.ro _ sz _ _ l)=>if ca P e&&Nat.beq (ay P e) sz then (.ptr id n.toNat sz 0,0≤n∧n<l.length)else aP
  | some (.arrD _ sz m _ _)=>if ca P e&&Nat.beq (ay P e) sz then (.ptr id n.toNat sz 0,0≤n∧n<(m:Int))else aP
  | _=>aP
 | some (.array len e),x,.v (.int _ n)=>if ca P e then (match sI (n.toNat*ay P e) x with | (y,p)=>(y,(0≤n∧n<(len:Int))∧p))else aP
 | _,_,_=>aP
def zH (P:Program) (t:TypeId) (x:D) (f:Nat):R1 :=
 match P.underlying t,x with
 | some (.struct fs),.agg cs=>match fs[f]? with
  | some V3=>cM P V3.type cs V3.offset
  | none=>aP
 | _,_=>aP
def zI (P:Program) (t:TypeId) (x i:D):R1 :=
 match P.underlying t,x,i with
 | some (.array len e),.agg cs,.v (.int _ n)=>(match cM P e cs (n.toNat*ay P e)with | (y,p)=>(y,(0≤n∧n<(len:Int))∧p))
 | some .string,.v (.str s),.v (.int _ n)=>(.v (.int .u8 ((s[n.toNat]?).getD 0).toNat),0≤n∧n<s.size)
 | _,_,_=>aP
def Hh:D→Int
 | .v (.int _ n)=>n
 | _=>0
def zJ:D→Bool
 | .v (.int _ _)=>true
 | _=>false
def ot:Option D→Int
 | some d=>Hh d
 | none=>0
def gR (n:Int):Option D→Int
 | some d=>Hh d
 | none=>n
def wg:Option D→Bool
 | some d=>zJ d
 | none=>true
def wh {α:Type} (l:List α):Option D→List α
 | some h=>l.take (Hh h).toNat
 | none=>l
def wi (P:Program) (t:TypeId) (x:D) (lo hi mx:Option D):R1 :=
 match P.underlying t,x,lo,hi,mx with
 | some (.slice e),.v (.sl sz enc d l),none,some (.v (.int _ h)),some (.v (.int _ k))=>if ca P e&&Nat.beq (ay P e) sz then
   (.capd (.sl sz enc d (l.take h.toNat)),0≤h∧h≤l.length∧k=h)else aP
 | _,_,_,_,_=>aP
def p7:List V→Option (IntKind×List Int)
 | [.int k n]=>some (k,[n])
 | .int k n::r=>match p7 r with
  | some (k',l)=>if k==k' then some (k,n::l)else none
  | none=>none
 | _=>none
def zK (P:Program) (t:TypeId) (x:D) (lo hi mx:Option D):R1 :=
 if mx.isSome then wi P t x lo hi mx else
 if wg lo&&wg hi&&mx.isNone then
  match P.underlying t,x with
  | some (.slice e),.v (.sl sz enc d l)=>if ca P e&&Nat.beq (ay P e) sz then
    (.v (.sl sz enc d ((wh l hi).drop (ot lo).toNat)),0≤ot lo∧ot lo≤gR l.length hi∧gR l.length hi≤l.length)else aP
  | some .string,.v (.str s)=>(.v (.str (s.extract (ot lo).toNat (gR s.size hi).toNat)),0≤ot lo∧ot lo≤gR s.size hi∧gR s.size hi≤s.size)
  | some (.array n e),.iptr cs I'=>match p7 cs with
   | some (k,l)=>if ca P e&&Nat.beq (ay P e) 1&&Nat.beq l.length n&&Nat.beq I' 0&&Nat.ble n maxLen then
     (.v (.sl 1 (fun x:Int=>[.int k x]) 0 ((wh l hi).drop (ot lo).toNat)),0≤ot lo∧ot lo≤gR l.length hi∧gR l.length hi≤l.length)else aP
   | none=>aP
  | _,_=>aP
 else aP
section
variable {P:Program} {S:Nat→Prop} {μ:Nat→Value} {w:World}
theorem o9 {n:Nat} {x d:D} {p:Prop} {ux:Value} (hx:ao S μ w x ux) (hp:sI n x=(d,p)) (D':p) :
  ∃b o,ux=.pointer (some ⟨b,o,none⟩)∧ao S μ w d (.pointer (some ⟨b,o+n,none⟩)):=by
 unfold sI at hp
 split at hp
 ·rename_i id i sz I'
  obtain⟨b,hb,rfl⟩:=mb hx
  cases hp
  exact⟨b,_,rfl,by rw[Nat.add_assoc];exact .ptr _ _ _ _ _ hb⟩
 ·rename_i cs I'
  cases hp
  cases hx with
  | iptr _ _ b o us h1 h2 h3 h4=>exact⟨b,_,rfl,by rw[Nat.add_assoc];exact .iptr cs _ b o us h1 h2 h3 h4⟩
 ·cases hp;exact D'.elim
theorem p8 {s:TypeId} {x d:D} {f:Nat} {p:Prop} {ux:Value} (hx:ao S μ w x ux) (hp:oo P s x f=(d,p)) (D':p) :
  ∃u,(Instr.fieldAt s ux f).run P w=.ok u w∧ao S μ w d u:=by
 unfold oo at hp
 split at hp
 ·rename_i fs hu
  split at hp
  ·rename_i V3 hf
   split at hp
   ·rename_i hc
    simp only[Pg,PR,PC]at hc
    obtain⟨hk,hz⟩:=hc
    have hz:ay P V3.type≠0:=by
     intro e
     rw[e]at hz
     cases hz
    obtain⟨b,o,rfl,hd⟩:=o9 hx hp D'
    refine⟨_,?_,hd⟩
    have hr:(fieldPlace ⟨b,o,none⟩ V3).run P w=.ok ⟨b,o+V3.offset,none⟩ w:=by
     unfold fieldPlace
     simp only[Pm,dq hk,Pk]
     rw[Pj hz,PF,cW]
    simp only[Instr.fieldAt,Pm,PV hu,Pk,hf,Instr.sureAddr,PF,hr]
   ·cases hp;exact D'.elim
  ·cases hp;exact D'.elim
 ·cases hp;exact D'.elim
theorem gb {sz:Nat} {α:Type} {enc:α→List V} {d:α} {l:List α} {u:Value} (h:dg S w (.sl sz enc d l) u) :
  ∃p c,u=.slice p l.length c∧l.length≤c∧c≤maxLen∧(p=none→c=0)∧(0<l.length→∃(b I':Nat) (us:Nat→Nat→Value),p=some ⟨b,I',none⟩∧S b∧b<w.heap.size ∧
   (∀(i:Nat) (x:α),l[i]?=some x→(enc x).length=sz) ∧
   (∀(i:Nat) (x:α) (j:Nat) (y:V),l[i]?=some x→(enc x)[j]?=some y→w.cell? ⟨b,I'+(i*sz+j),none⟩=some (us i j)) ∧
   (∀(i:Nat) (x:α) (j:Nat) (y:V),l[i]?=some x→(enc x)[j]?=some y→dg S w y (us i j))):=by
 generalize hv:V.sl sz enc d l=v at h
 cases h with
 | int k n=>cases hv
 | bool b=>cases hv
 | str s=>cases hv
 | mp=>cases hv
 | nilf=>cases hv
 | nsl=>cases hv
 | esl=>cases hv
 | smn=>cases hv
 | sm=>cases hv
 | nmp=>cases hv
 | fnv=>cases hv
 | nil RY Rz d' p c h1 h2 =>
  cases hv
  exact⟨p,c,rfl,Qb _,h1,h2,fun h=>absurd h (by simp)⟩
 | row RY Rz d' l' b I' c n us h1 h2 h3 h4 h5 h6 h7 h8 =>
  cases hv
  subst h3
  exact⟨_,c,rfl,h4,h5,(fun h=>by cases h),fun _=>⟨b,I',us,rfl,h1,h2,h6,h7,h8⟩⟩
theorem ou {sz:Nat} {α:Type} {enc:α→List V} {d:α} {l:List α} {p:Option Addr} {n c:Nat} (hn:n=l.length) (h1:l.length≤c) (h2:c≤maxLen) (h3:p=none→c=0)
  (h:0<l.length→∃(b I':Nat) (us:Nat→Nat→Value),p=some ⟨b,I',none⟩∧S b∧b<w.heap.size ∧
   (∀(i:Nat) (x:α),l[i]?=some x→(enc x).length=sz) ∧
   (∀(i:Nat) (x:α) (j:Nat) (y:V),l[i]?=some x→(enc x)[j]?=some y→w.cell? ⟨b,I'+(i*sz+j),none⟩=some (us i j)) ∧
   (∀(i:Nat) (x:α) (j:Nat) (y:V),l[i]?=some x→(enc x)[j]?=some y→dg S w y (us i j))):dg S w (.sl sz enc d l) (.slice p n c):=by
 subst hn
 cases l with
 | nil=>exact .nil sz enc d p c h2 h3
 | cons x l =>
  obtain⟨b,I',us,rfl,q1,q2,q3,q4,q5⟩:=h (by simp)
  exact .row sz enc d _ b I' c _ us q1 q2 rfl h1 h2 q3 q4 q5
theorem bN {E sz:Nat} {α:Type} {enc:α→List V} {d:α} {l:List α} {u:Value} (h:aJ S μ w u (.arr E sz enc d l)) :
  ∃p c,u=.slice p l.length c∧l.length≤c∧c≤maxLen∧(p=none→c=0)∧(0<l.length→∃g,p=some ⟨g,0,none⟩):=by
 obtain⟨_,xs,⟨h1,h2⟩,_⟩:=h
 rcases h2 with ⟨rfl,hl⟩ | ⟨g,cap,RN,rfl,hg,hh,q1,q2,_⟩
 ·exact⟨none,0,by rw[hl],by omega,by simp[maxLen],fun _=>rfl,fun h=>by omega⟩
 ·exact⟨_,cap,rfl,q1,q2,(fun h=>by cases h),fun _=>⟨g,rfl⟩⟩
theorem fJ {E sz n:Nat} {gs:List Nat} {cell:Nat→Nat→D} {u:Value} (h:aJ S μ w u (.arrD E sz n gs cell)) :
  ∃p c,u=.slice p n c∧n≤c∧c≤maxLen∧(p=none→c=0)∧(0<n→∃g,p=some ⟨g,0,none⟩):=by
 obtain⟨_,xs,⟨h1,h2⟩,_⟩:=h
 rcases h2 with ⟨rfl,hl⟩ | ⟨g,cap,RN,rfl,hg,hh,q1,q2,_⟩
 ·exact⟨none,0,by rw[hl],by omega,by simp[maxLen],fun _=>rfl,fun h=>by omega⟩
 ·exact⟨_,cap,rfl,q1,q2,(fun h=>by cases h),fun _=>⟨g,rfl⟩⟩
theorem bJ {k:IntKind} {n:Int} {u:Value} (h:ao S μ w (.v (.int k n)) u):u=.int k n:=by
 cases h with | v _ _ h=>cases h;rfl
theorem fk {b:Bool} {u:Value} (h:ao S μ w (.v (.bool b)) u):u=.bool b:=by
 cases h with | v _ _ h=>cases h;rfl
theorem fl {s:ByteArray} {u:Value} (h:ao S μ w (.v (.str s)) u):u=.string s:=by
 cases h with | v _ _ h=>cases h;rfl
theorem bn {x:V} {u:Value} (h:ao S μ w (.v x) u):dg S w x u:=by
 cases h with | v _ _ h=>exact h
theorem bA {id:Nat} {u:Value} (h:ao S μ w (.own id) u):u=μ id:=by
 cases h;rfl
theorem fm {t e:TypeId} {p:Addr} {len c:Nat} {k:IntKind} {n:Int} (hu:P.underlying t=some (.slice e)) (hk:ca P e=true) (h0:0≤n) (h1:n<len) :
  (Instr.indexAt t (.slice (some p) len c) (.int k n)).run P w=.ok (.pointer (some (p.add (n.toNat*ay P e)))) w:=by
 unfold Instr.indexAt
 simp only[asIntOf,Pm,PF,Pk,PV hu]
 rw[Pn ⟨h0,h1⟩]
 simp only[Pm,dq hk,Pk,PF]
theorem rx {t e:TypeId} {p:Addr} {len:Nat} {k:IntKind} {n:Int} (hu:P.underlying t=some (.array len e)) (hk:ca P e=true) (h0:0≤n) (h1:n<len) :
  (Instr.indexAt t (.pointer (some p)) (.int k n)).run P w=.ok (.pointer (some (p.add (n.toNat*ay P e)))) w:=by
 unfold Instr.indexAt
 simp only[asIntOf,Pm,PF,Pk,PV hu,Instr.sureAddr]
 rw[Pn ⟨h0,h1⟩]
 simp only[Pm,dq hk,Pk,PF]
theorem p9 {t:TypeId} {H:List ax} (hH:be S μ w H) {x i d:D} {p:Prop} {ux ui:Value} (hx:ao S μ w x ux) (hi:ao S μ w i ui) (hp:oq P t H x i=(d,p)) (D':p) :
  ∃u,(Instr.indexAt t ux ui).run P w=.ok u w∧ao S μ w d u:=by
 unfold oq at hp
 split at hp
 ·rename_i e sz α enc d' l k n hu
  split at hp
  ·rename_i hc
   simp only[Pg,PC]at hc
   obtain⟨hk,rfl⟩:=hc
   simp only[Po]at hp
   obtain⟨rfl,rfl⟩:=hp
   obtain⟨h0,h1⟩:=D'
   rw[bJ hi]
   obtain⟨q,c,rfl,q1,q2,q3,q4⟩:=gb (bn hx)
   obtain⟨b,I',us,rfl,r1,r2,r3,r4,r5⟩:=q4 (by omega)
   refine⟨_,fm hu hk h0 (by omega),?_⟩
   have hl:l[n.toNat]?=some (l.getD n.toNat d'):=by rw[bk _ _ (by omega)];exact Ph (by omega)
   rw[cW]
   have:=ao.iptr (S:=S) (μ:=μ) (w:=w) (enc (l.getD n.toNat d')) 0 b (I'+n.toNat*ay P e) (us n.toNat) r1 r2 (fun j y hy=>by rw[Nat.add_assoc];exact r4 _ _ _ _ hl hy) (fun j y hy=>r5 _ _ _ _ hl hy)
   rwa [QO]at this
  ·cases hp;exact D'.elim
 ·rename_i e id k n hu
  split at hp
  ·rename_i E sz α enc d' l G'
   split at hp
   ·rename_i hc
    simp only[Pg,PC]at hc
    obtain⟨hk,rfl⟩:=hc
    simp only[Po]at hp
    obtain⟨rfl,rfl⟩:=hp
    obtain⟨h0,h1⟩:=D'
    rw[bJ hi,bA hx]
    obtain⟨q,c,hm,q1,q2,q3,q4⟩:=bN (hH.box id _ G')
    obtain⟨g,rfl⟩:=q4 (by omega)
    rw[hm]
    refine⟨_,fm hu hk h0 (by omega),?_⟩
    rw[cW,PX]
    have:=ao.ptr (S:=S) (w:=w) id n.toNat (ay P e) 0 g (by rw[hm];rfl:aM (μ id)=some g)
    rwa [QO]at this
   ·cases hp;exact D'.elim
  ·rename_i E sz α enc d' l G'
   split at hp
   ·rename_i hc
    simp only[Pg,PC]at hc
    obtain⟨hk,rfl⟩:=hc
    simp only[Po]at hp
    obtain⟨rfl,rfl⟩:=hp
    obtain⟨h0,h1⟩:=D'
    rw[bJ hi,bA hx]
    obtain⟨q,c,hm,q1,q2,q3,q4⟩:=bN (hH.box id _ G').ro_arr
    obtain⟨g,rfl⟩:=q4 (by omega)
    rw[hm]
    refine⟨_,fm hu hk h0 (by omega),?_⟩
    rw[cW,PX]
    have:=ao.ptr (S:=S) (w:=w) id n.toNat (ay P e) 0 g (by rw[hm];rfl:aM (μ id)=some g)
    rwa [QO]at this
   ·cases hp;exact D'.elim
  ·rename_i E sz m gs cell G'
   split at hp
   ·rename_i hc
    simp only[Pg,PC]at hc
    obtain⟨hk,rfl⟩:=hc
    simp only[Po]at hp
    obtain⟨rfl,rfl⟩:=hp
    obtain⟨h0,h1⟩:=D'
    rw[bJ hi,bA hx]
    obtain⟨q,c,hm,q1,q2,q3,q4⟩:=fJ (hH.box id _ G')
    obtain⟨g,rfl⟩:=q4 (by omega)
    rw[hm]
    refine⟨_,fm hu hk h0 (by omega),?_⟩
    rw[cW,PX]
    have:=ao.ptr (S:=S) (w:=w) id n.toNat (ay P e) 0 g (by rw[hm];rfl:aM (μ id)=some g)
    rwa [QO]at this
   ·cases hp;exact D'.elim
  ·cases hp;exact D'.elim
 ·rename_i x _ _ _ len e k n hu
  split at hp
  ·rename_i hk
   generalize hq:sI (n.toNat*ay P e) x=q at hp
   obtain⟨y,p'⟩:=q
   simp only[Po]at hp
   obtain⟨rfl,rfl⟩:=hp
   obtain⟨⟨h0,h1⟩,D'⟩:=D'
   obtain⟨b,o,rfl,hd⟩:=o9 hx hq D'
   rw[bJ hi]
   exact⟨_,rx hu hk h0 (by omega),by rw[cW];exact hd⟩
  ·cases hp;exact D'.elim
 ·cases hp;exact D'.elim
theorem gm {t:TypeId} {cs:List D} {us:Array Value} {I':Nat} {d:D} {p:Prop} (hs:us.size=cs.length) (h:∀(j:Nat) (y:D) (u:Value),cs[j]?=some y→us[j]?=some u→ao S μ w y u)
  (hp:cM P t cs I'=(d,p)) (D':p):∃u,(part t us I').run P w=.ok u w∧ao S μ w d u:=by
 unfold cM at hp
 split at hp
 ·rename_i hc
  simp only[Pg,PS,Qm,PC]at hc
  obtain⟨⟨hk,hl⟩,hz⟩:=hc
  simp only[Po]at hp
  obtain⟨rfl,_⟩:=hp
  unfold part
  simp only[Pm,uO hk,Pk]
  cases ha:uN P t
  ·simp only[Qc,QY]
   rw[ha]at hz
   have RQ:ay P t=1:=by simpa using hz
   have RF:I'<cs.length:=by omega
   have hu:us[I']?=some us[I']:=PJ (by omega)
   refine⟨us[I'],by rw[hu];rfl,?_⟩
   rw[bk _ _ RF]
   exact h I' _ _ (Ph RF) hu
  ·simp only[Q7]
   refine⟨.agg (us.extract I' (I'+ay P t)),by simp only[Pm,dq hk,Pk,PF],.agg _ _ ?_ (fun j y u hy hu=>?_)⟩
   ·simp;omega
   ·rw[PK]at hy
    split at hy
    ·rename_i hj
     rw[Qv]at hy
     rw[Array.getElem?_extract,Pn (by omega)]at hu
     exact h _ _ _ hy hu
    ·cases hy
 ·simp only[aP,Po]at hp
  obtain⟨_,rfl⟩:=hp
  exact D'.elim
theorem dH {cs:List D} {u:Value} (h:ao S μ w (.agg cs) u):∃us:Array Value,u=.agg us∧us.size=cs.length∧∀(j:Nat) (y:D) (u:Value),cs[j]?=some y→us[j]?=some u→ao S μ w y u:=by
 cases h with | agg _ us h1 h2=>exact⟨us,rfl,h1,h2⟩
theorem rO {cs:List D} {u:Value} (h:ao S μ w (.tup cs) u):∃us:Array Value,u=.tuple us∧us.size=cs.length∧∀(j:Nat) (y:D) (u:Value),cs[j]?=some y→us[j]?=some u→ao S μ w y u:=by
 cases h with | tup _ us h1 h2=>exact⟨us,rfl,h1,h2⟩
theorem wj {t:TypeId} {x d:D} {f:Nat} {p:Prop} {ux:Value} (hx:ao S μ w x ux) (hp:zH P t x f=(d,p)) (D':p) :
  ∃u,(Instr.field t ux f).run P w=.ok u w∧ao S μ w d u:=by
 unfold zH at hp
 split at hp
 ·rename_i fs cs hu
  split at hp
  ·rename_i V3 hf
   obtain⟨us,rfl,h1,h2⟩:=dH hx
   obtain⟨u,h3,h4⟩:=gm (P:=P) h1 h2 hp D'
   exact⟨u,by simp only[Instr.field,Pm,PV hu,Pk,hf,asAgg,PF,h3],h4⟩
  ·cases hp;exact D'.elim
 ·cases hp;exact D'.elim
theorem wk {t:TypeId} {x i d:D} {p:Prop} {ux ui:Value} (hx:ao S μ w x ux) (hi:ao S μ w i ui) (hp:zI P t x i=(d,p)) (D':p) :
  ∃u,(Instr.index t ux ui).run P w=.ok u w∧ao S μ w d u:=by
 unfold zI at hp
 split at hp
 ·rename_i len e cs k n hu
  generalize hq:cM P e cs (n.toNat*ay P e)=q at hp
  obtain⟨y,p'⟩:=q
  simp only[Po]at hp
  obtain⟨rfl,rfl⟩:=hp
  obtain⟨⟨h0,h1⟩,D'⟩:=D'
  rw[bJ hi]
  obtain⟨us,rfl,h2,h3⟩:=dH hx
  have hk:ca P e=true:=by
   unfold cM at hq
   split at hq
   ·rename_i hc
    simp only[Pg]at hc
    exact hc.1.1
   ·cases hq;exact D'.elim
  obtain⟨u,h4,h5⟩:=gm (P:=P) h2 h3 hq D'
  refine⟨u,?_,h5⟩
  unfold Instr.index
  simp only[asIntOf,Pm,PF,Pk,PV hu]
  rw[Pn ⟨h0,h1⟩]
  simp only[Pm,dq hk,Pk,h4]
 ·rename_i s k n hu
  simp only[Po]at hp
  obtain⟨rfl,rfl⟩:=hp
  obtain⟨h0,h1⟩:=D'
  rw[bJ hi,fl hx]
  have hn:n.toNat<s.size:=by omega
  have hs:s[n.toNat]?=some s[n.toNat]:=by simp[hn]
  refine⟨.int .u8 (s[n.toNat]).toNat,?_,?_⟩
  ·unfold Instr.index
   simp only[asIntOf,Pm,PF,Pk,PV hu]
   rw[Pn h0,hs]
   rfl
  ·rw[hs]
   exact .v _ _ (.int _ _)
 ·cases hp;exact D'.elim
end
end Go.Proofs.Ytnlmlkbaflmgcaa
namespace Go.Proofs.Ytnlmlkbaflmgcaa
open Go.RowKit
set_option linter.unusedVariables false
set_option linter.unusedSimpArgs false
def zL (op:BinOp) (k:IntKind) (a b:Int):R1 :=
 match op with
 | .add=>(.v (.int k (k.wrap (a+b))),True)
 | .sub=>(.v (.int k (k.wrap (a-b))),True)
 | .mul=>(.v (.int k (k.wrap (a*b))),True)
 | .quo=>(.v (.int k (k.wrap (a.tdiv b))),b≠0)
 | .rem=>(.v (.int k (a.tmod b)),b≠0)
 | .and=>(.v (.int k (k.wrap (BitVec.ofInt k.bits a &&& BitVec.ofInt k.bits b).toNat)),True)
 | .or=>(.v (.int k (k.wrap (BitVec.ofInt k.bits a ||| BitVec.ofInt k.bits b).toNat)),True)
 | .xor=>(.v (.int k (k.wrap (BitVec.ofInt k.bits a ^^^ BitVec.ofInt k.bits b).toNat)),True)
 | .andNot=>(.v (.int k (k.wrap (BitVec.ofInt k.bits a &&& ~~~(BitVec.ofInt k.bits b)).toNat)),True)
 | .eql=>(.v (.bool (a==b)),True)
 | .neq=>(.v (.bool (a != b)),True)
 | .lss=>(.v (.bool (decide (a<b))),True)
 | .leq=>(.v (.bool (decide (a≤b))),True)
 | .gtr=>(.v (.bool (decide (a>b))),True)
 | .geq=>(.v (.bool (decide (a≥b))),True)
 | _=>aP
def Bc:BinOp→Bool | .shl=>true | .shr=>true | _=>false
def zM (op:BinOp) (k:IntKind) (a b:Int):R1 :=
 match op with
 | .shl=>(.v (.int k (k.wrap (a*2^min b.toNat k.bits))),0≤b)
 | .shr=>(.v (.int k (a.fdiv (2^min b.toNat k.bits))),0≤b)
 | _=>aP
def JL (op:BinOp) (x y:ByteArray):R1 :=
 match op with
 | .add=>(.v (.str (x++y)),((x.size+y.size:Nat):Int)≤IntKind.i64.max)
 | .eql=>(.v (.bool (x.toList==y.toList)),True)
 | .neq=>(.v (.bool (!(x.toList==y.toList))),True)
 | _=>aP
def Ep:Option TypeDesc→D→D→Option Bool
 | some (.int _),.v (.int k a),.v (.int k' b)=>if k==k' then some (a==b)else none
 | some .bool,.v (.bool a),.v (.bool b)=>some (a==b)
 | some .string,.v (.str a),.v (.str b)=>some (a.toList==b.toList)
 | _,_,_=>none
def rP (P:Program) (xs ys:List D) (f:Field):Option Bool :=
 if f.name ≠ "_" then Ep (P.underlying f.type) (cM P f.type xs f.offset).1 (cM P f.type ys f.offset).1 else none
def lj (P:Program) (xs ys:List D):List Field→Option Bool
 | []=>some true
 | [f]=>rP P xs ys f
 | f::fs=>match rP P xs ys f,lj P xs ys fs with
  | some a,some b=>some (a&&b)
  | _,_=>none
def uP (P:Program) (t:TypeId):Bool:=match P.underlying t with | some (.struct _)=>true | _=>false
def Jb (P:Program) (op:BinOp) (t:TypeId) (xs ys:List D):R1 :=
 if !P.stoodInHeld t&&!P.eqGuardType P.depth t&&uP P t then
  match lj P xs ys (P.fieldsOf t).toList,op with
  | some b,.eql=>(.v (.bool b),True)
  | some b,.neq=>(.v (.bool (!b)),True)
  | _,_=>aP
 else aP
def Er:D→Option (Bool×Prop)
 | .nils=>some (true,True)
 | .v .nsl=>some (true,True)
 | .v .esl=>some (false,True)
 | .v (.sl _ _ _ l)=>some (false,l≠[])
 | _=>none
def zN:D→Option Bool
 | .v .nilf=>some true
 | .fn _ _ _=>some false
 | _=>none
def sJ (P:Program) (t:TypeId):Bool:=match P.underlying t with | some (.slice _)=>true | _=>false
def wm (P:Program) (t:TypeId):Bool:=match P.underlying t with | some (.func _ _ _)=>true | _=>false
def xK (op:BinOp) (b:Bool) (p:Prop):R1:=match op with
 | .eql=>(.v (.bool b),p)
 | .neq=>(.v (.bool (!b)),p)
 | _=>aP
def JM (P:Program) (op:BinOp) (t:TypeId) (x y:D):R1 :=
 match x,y with
 | .v (.int k a),.v (.int k' b)=>if Bc op then zM op k a b else if k==k' then zL op k a b else aP
 | .v (.str a),.v (.str b)=>JL op a b
 | .v (.bool a),.v (.bool b)=>match P.underlying t with
  | some .bool=>(match op with | .eql=>(.v (.bool (a==b)),True) | .neq=>(.v (.bool (!(a==b))),True) | _=>aP)
  | _=>aP
 | .agg xs,.agg ys=>Jb P op t xs ys
 | x,.nils=>match Er x with
  | some (b,p)=>if sJ P t then xK op b p else aP
  | none=>aP
 | x,.v .nilf=>match zN x with
  | some b=>if wm P t then xK op b True else aP
  | none=>aP
 | _,_=>aP
def M4 (op:UnOp) (x:D):R1 :=
 match op,x with
 | .neg,.v (.int k n)=>(.v (.int k (k.wrap (0-n))),True)
 | .xor,.v (.int k n)=>(.v (.int k (k.wrap (BitVec.ofInt k.bits (if k.signed then -1 else k.max) ^^^ BitVec.ofInt k.bits n).toNat)),True)
 | .not,.v (.bool b)=>(.v (.bool (!b)),True)
 | _,_=>aP
def Es (P:Program) (src dst:TypeId) (x:D):R1 :=
 if ca P src then
  match P.underlying dst,x with
  | some (.int k),.v (.int _ n)=>(match P.underlying src with | some .string=>aP | _=>(.v (.int k (k.wrap n)),True))
  | some .string,.v (.str s)=>(.v (.str s),True)
  | _,_=>aP
 else aP
def JN (P:Program) (t:TypeId) (H:List ax) (x:D):R1 :=
 match P.underlying t,x with
 | some .string,.v (.str s)=>(.v (.int .i64 (s.size:Int)),True)
 | some (.array n _),_=>(.v (.int .i64 (n:Int)),True)
 | some (.slice _),.v (.sl _ _ _ l)=>(.v (.int .i64 (l.length:Int)),True)
 | some (.slice _),.nils=>(.v (.int .i64 0),True)
 | some (.slice _),.v .nsl=>(.v (.int .i64 0),True)
 | some (.slice _),.v .esl=>(.v (.int .i64 0),True)
 | some (.slice _),.own id=>match H[id]? with
  | some (.arr _ _ _ _ l)=>(.v (.int .i64 (l.length:Int)),True)
  | some (.ro _ _ _ _ l)=>(.v (.int .i64 (l.length:Int)),True)
  | some (.arrD _ _ m _ _)=>(.v (.int .i64 (m:Int)),True)
  | _=>aP
 | _,_=>aP
def Df (x y:Int):Int:=if y<x then y else x
def JO (x y:Int):Int:=if y>x then y else x
section
variable {P:Program} {S:Nat→Prop} {μ:Nat→Value} {w:World}
def MV (n:Nat) (hi:Option Value) (h:Nat):Prop:=match hi with | none=>h=n | some v=>∃k,v=.int k h
def Ll (lo:Option Value) (l:Nat):Prop:=match lo with | none=>l=0 | some v=>∃k,v=.int k l
theorem gL {is:Bool} {n c l h:Nat} {lo hi:Option Value} (hh:MV n hi h) (hl:Ll lo l) (h1:l≤h) (h2:h≤c) :
  (Instr.sliceBounds is n c lo hi none).run P w=.ok (l,h,c) w:=by
 have sb:∀(k:IntKind) (x y:Nat) (UP:BoundsCode),x≤y→(Instr.sliceBound (.int k (x:Int)) y UP).run P w=.ok x w:=by
  intro k x y UP Ue
  unfold Instr.sliceBound
  simp only[asIntOf,Pm,PF,Pk]
  rw[Pn ⟨by omega,by omega⟩]
  simp
 unfold Instr.sliceBounds
 cases hi with
 | none =>
  simp only[MV]at hh
  subst hh
  cases lo with
  | none =>
   simp only[Ll]at hl
   subst hl
   simp[Pm]
  | some v =>
   obtain⟨k,rfl⟩:=hl
   simp[Pm,sb _ _ _ _ h1]
 | some v =>
  obtain⟨k,rfl⟩:=hh
  cases lo with
  | none =>
   simp only[Ll]at hl
   subst hl
   simp[Pm,sb _ _ _ _ h2]
  | some v =>
   obtain⟨k,rfl⟩:=hl
   simp[Pm,sb _ _ _ _ h2,sb _ _ _ _ h1]
def pb (S:Nat→Prop) (μ:Nat→Value) (w:World):Option D→Option Value→Prop
 | none,none=>True
 | some d,some u=>ao S μ w d u
 | _,_=>False
theorem sK {d:D} (h:zJ d=true):∃k n,d=.v (.int k n)∧Hh d=n:=by
 unfold zJ at h
 split at h
 ·exact⟨_,_,rfl,rfl⟩
 ·cases h
theorem zO {lo:Option D} {ul:Option Value} (h:pb S μ w lo ul) (hi:wg lo=true) (h0:0≤ot lo):Ll ul (ot lo).toNat:=by
 cases lo with
 | none=>cases ul with
  | none=>simp[Ll,ot]
  | some _=>exact h.elim
 | some d=>cases ul with
  | none=>exact h.elim
  | some u =>
   obtain⟨k,n,rfl,hn⟩:=sK hi
   simp only[ot]at h0 ⊢
   rw[hn]at h0 ⊢
   rw[bJ h]
   exact⟨k,by rw[Int.toNat_of_nonneg h0]⟩
theorem zP {hi:Option D} {uh:Option Value} {n:Nat} (h:pb S μ w hi uh) (Sk:wg hi=true) (h0:0≤gR n hi):MV n uh (gR n hi).toNat:=by
 cases hi with
 | none=>cases uh with
  | none=>simp[MV,gR]
  | some _=>exact h.elim
 | some d=>cases uh with
  | none=>exact h.elim
  | some u =>
   obtain⟨k,m,rfl,hn⟩:=sK Sk
   simp only[gR]at h0 ⊢
   rw[hn]at h0 ⊢
   rw[bJ h]
   exact⟨k,by rw[Int.toNat_of_nonneg h0]⟩
theorem uQ {α:Type} (l:List α) (hi:Option D) (h:gR l.length hi≤l.length):wh l hi=l.take (gR l.length hi).toNat:=by
 cases hi with
 | none=>simp[wh,gR]
 | some d=>rfl
theorem ur {t:TypeId} {x d:D} {lo hi mx:Option D} {p:Prop} {ux:Value} {ul uh um:Option Value} (hx:ao S μ w x ux) (hl:pb S μ w lo ul) (hh:pb S μ w hi uh) (hm:pb S μ w mx um)
  (hp:wi P t x lo hi mx=(d,p)) (D':p):∃u,(Instr.sliceAt t ux ul uh um).run P w=.ok u w∧ao S μ w d u:=by
 unfold wi at hp
 split at hp
 ·rename_i e sz α enc d' l k1 h' k2 h hu
  split at hp
  ·rename_i hc
   simp only[Pg,PC]at hc
   obtain⟨hk,rfl⟩:=hc
   simp only[Po]at hp
   obtain⟨rfl,rfl⟩:=hp
   obtain⟨h0,h1,rfl⟩:=D'
   obtain⟨q,c,rfl,q1,q2,q3,q4⟩:=gb (bn hx)
   have hul:ul=none:=by cases ul with | none=>rfl | some _=>exact hl.elim
   subst hul
   cases uh with
   | none=>exact hh.elim
   | some vh =>
    cases um with
    | none=>exact hm.elim
    | some vm =>
     have ev:vh=.int k1 h:=by
      have:=bn hh
      cases this
      rfl
     have em:vm=.int k2 h:=by
      have:=bn hm
      cases this
      rfl
     subst ev em
     have sb:∀(k:IntKind) (y:Nat) (UP:BoundsCode),h.toNat≤y→(Instr.sliceBound (.int k h) y UP).run P w=.ok h.toNat w:=by
      intro k y UP Ue
      unfold Instr.sliceBound
      simp only[asIntOf,Pm,PF,Pk]
      rw[Pn ⟨by omega,by omega⟩]
      simp
     have hr:(Instr.sliceBounds true l.length c none (some (.int k1 h)) (some (.int k2 h))).run P w=.ok (0,h.toNat,h.toNat) w:=by
      unfold Instr.sliceBounds
      simp[Pm,sb k2 c _ (by omega),sb k1 h.toNat _ (Pl _)]
     refine⟨.slice (if h.toNat=0 then q else q.map (·.add (0*ay P e))) h.toNat h.toNat,?_,.capd _ _ _ (ou ?_ (by rw[PD];omega) (by omega) ?_ (fun UT=>?_))⟩
     ·unfold Instr.sliceAt
      simp only[Pm,PV hu,Pk]
      unfold Instr.slice
      simp only[Pm,PV hu,Pk,hr,dq hk,PF,Nat.sub_zero]
     ·rw[PD];omega
     ·intro hn
      by_cases hca:h.toNat=0
      ·exact hca
      ·rw[Pj hca]at hn
       have:=q3 (by simpa using hn)
       omega
     ·rw[PD]at UT
      obtain⟨bb,I',us,rfl,r1,r2,r3,r4,r5⟩:=q4 (by omega)
      have RT:∀(i:Nat) (x:α),(l.take h.toNat)[i]?=some x→l[i]?=some x:=by
       intro i x hx
       rw[PK]at hx
       split at hx
       ·exact hx
       ·cases hx
      refine⟨bb,I',us,?_,r1,r2,fun i x hx=>r3 _ x (RT i x hx),fun i x j y hx hy=>r4 _ x j y (RT i x hx) hy,fun i x j y hx hy=>r5 _ x j y (RT i x hx) hy⟩
      rw[Pj (by omega)]
      simp[cW]
  ·cases hp;exact D'.elim
 ·cases hp;exact D'.elim
theorem Bd:∀{cs:List V} {k:IntKind} {l:List Int},p7 cs=some (k,l)→cs=l.map (fun x=>.int k x)
 | [],k,l,h=>by simp[p7]at h
 | [.int k0 n],k,l,h=>by simp[p7]at h;obtain⟨rfl,rfl⟩:=h;rfl
 | .int k0 n::y::r,k,l,h=>by
  unfold p7 at h
  ·split at h
   ·rename_i k' l' hr
    split at h
    ·rename_i hk
     have hk:k0=k':=by simpa using hk
     cases h
     have:=Bd hr
     subst hk
     rw[this];rfl
    ·cases h
   ·cases h
 | .bool _::_,_,_,h=>by simp[p7]at h
 | .str _::_,_,_,h=>by simp[p7]at h
 | .sl _ _ _ _::_,_,_,h=>by simp[p7]at h
 | .mp _::_,_,_,h=>by simp[p7]at h
 | .nilf::_,_,_,h=>by simp[p7]at h
 | .nsl::_,_,_,h=>by simp[p7]at h
 | .esl::_,_,_,h=>by simp[p7]at h
theorem wn {t:TypeId} {x d:D} {lo hi mx:Option D} {p:Prop} {ux:Value} {ul uh um:Option Value} (hx:ao S μ w x ux) (hl:pb S μ w lo ul) (hh:pb S μ w hi uh) (hm:pb S μ w mx um)
  (hp:zK P t x lo hi mx=(d,p)) (D':p):∃u,(Instr.sliceAt t ux ul uh um).run P w=.ok u w∧ao S μ w d u:=by
 unfold zK at hp
 split at hp
 ·exact ur hx hl hh hm hp D'
 split at hp
 ·rename_i hc
  simp only[Pg]at hc
  obtain⟨⟨c1,c2⟩,c3⟩:=hc
  have hmx:mx=none:=by simpa using c3
  subst hmx
  have hum:um=none:=by cases um with | none=>rfl | some _=>exact hm.elim
  subst hum
  split at hp
  ·rename_i e sz α enc d' l hu
   split at hp
   ·rename_i hc
    simp only[Pg,PC]at hc
    obtain⟨hk,rfl⟩:=hc
    simp only[Po]at hp
    obtain⟨rfl,rfl⟩:=hp
    obtain⟨h0,h1,h2⟩:=D'
    obtain⟨q,c,rfl,q1,q2,q3,q4⟩:=gb (bn hx)
    have hr:=gL (P:=P) (w:=w) (is:=true) (c:=c) (zP (n:=l.length) hh c2 (by omega)) (zO hl c1 h0) (by omega) (by omega)
    rw[uQ _ _ h2]
    generalize hLo:(ot lo).toNat=a at *
    generalize hHi:(gR l.length hi).toNat=b at *
    have hab:a≤b:=by omega
    have hbl:b≤l.length:=by omega
    refine⟨.slice (if c=a then q else q.map (·.add (a*ay P e))) (b-a) (c-a),?_,.v _ _ (ou ?_ ?_ (by omega) ?_ (fun UT=>?_))⟩
    ·unfold Instr.sliceAt
     simp only[Pm,PV hu,Pk]
     unfold Instr.slice
     simp only[Pm,PV hu,Pk,hr,dq hk,PF]
    ·rw[PQ,PD];omega
    ·rw[PQ,PD];omega
    ·intro hn
     by_cases hca:c=a
     ·omega
     ·rw[Pj hca]at hn
      have:=q3 (by simpa using hn)
      omega
    ·rw[PQ,PD]at UT
     obtain⟨bb,I',us,rfl,r1,r2,r3,r4,r5⟩:=q4 (by omega)
     have RT:∀(i:Nat) (x:α),((l.take b).drop a)[i]?=some x→l[a+i]?=some x:=by
      intro i x hx
      rw[Qv,PK]at hx
      split at hx
      ·exact hx
      ·cases hx
     refine⟨bb,I'+a*ay P e,fun i j=>us (a+i) j,?_,r1,r2,fun i x hx=>r3 _ x (RT i x hx),fun i x j y hx hy=>?_,fun i x j y hx hy=>r5 _ x j y (RT i x hx) hy⟩
     ·rw[Pj (by omega)]
      simp[cW]
     ·have:=r4 (a+i) x j y (RT i x hx) hy
      rw[← this]
      congr 2
      rw[Re]
      omega
   ·cases hp;exact D'.elim
  ·rename_i s hu
   simp only[Po]at hp
   obtain⟨rfl,rfl⟩:=hp
   obtain⟨h0,h1,h2⟩:=D'
   rw[fl hx]
   have hr:=gL (P:=P) (w:=w) (is:=false) (c:=s.size) (zP (n:=s.size) hh c2 (by omega)) (zO hl c1 h0) (by omega) (by omega)
   refine⟨_,?_,.v _ _ (.str _)⟩
   unfold Instr.sliceAt
   simp only[Pm,PV hu,Pk]
   unfold Instr.slice
   simp only[Pm,PV hu,Pk,hr,Option.isSome_none,Qc,QY,PF]
  ·rename_i n e cs I' hu
   split at hp
   ·rename_i k l RS
    split at hp
    ·rename_i hc
     simp only[Pg,PC,Qm]at hc
     obtain⟨⟨⟨⟨hk,RB⟩,hln⟩,rfl⟩,hmx⟩:=hc
     simp only[Po]at hp
     obtain⟨rfl,rfl⟩:=hp
     obtain⟨h0,h1,h2⟩:=D'
     have hcs:=Bd RS
     subst hcs
     subst hln
     obtain⟨b,o,rfl,q2⟩:∃b o,ux=.pointer (some ⟨b,o+0,none⟩)∧ao S μ w (.iptr (l.map (fun x=>.int k x)) 0) ux:=by
      cases hx with
      | iptr _ _ b o us g1 g2 g3 g4=>exact⟨b,o,rfl,.iptr _ _ b o us g1 g2 g3 g4⟩
     have hr:=gL (P:=P) (w:=w) (is:=false) (c:=l.length) (zP (n:=l.length) hh c2 (by omega)) (zO hl c1 h0) (by omega) (by omega)
     rw[uQ _ _ h2]
     generalize hLo:(ot lo).toNat=a at *
     generalize hHi:(gR l.length hi).toNat=c at *
     have hab:a≤c:=by omega
     have hbl:c≤l.length:=by omega
     have hq:∃(b' o':Nat) (us:Nat→Value),(⟨b,o+0,none⟩:Addr)=⟨b',o'+0,none⟩∧S b'∧b'<w.heap.size∧(∀(j:Nat) (y:V),(l.map (fun x=>V.int k x))[j]?=some y→w.cell? ⟨b',o'+j,none⟩=some (us j))∧(∀(j:Nat) (y:V),(l.map (fun x=>V.int k x))[j]?=some y→dg S w y (us j)):=by
      generalize hd:D.iptr (l.map (fun x=>.int k x)) 0=dd at q2
      generalize hv:Value.pointer (some ⟨b,o+0,none⟩)=vv at q2
      cases q2 with
      | iptr W2 off' b' o' us g1 g2 g3 g4 =>
       cases hd
       simp only[Value.pointer.injEq,Pu]at hv
       exact⟨b',o',us,hv,g1,g2,g3,g4⟩
      | _=>cases hd
     obtain⟨b',o',us,he,g1,g2,g3,g4⟩:=hq
     rw[he]
     refine⟨.slice (some (if l.length=a then ⟨b',o'+0,none⟩else (⟨b',o'+0,none⟩:Addr).add (a*ay P e))) (c-a) (l.length-a),?_,.v _ _ (ou ?_ ?_ (by omega) (by intro h;cases h) (fun UT=>?_))⟩
     ·unfold Instr.sliceAt
      simp only[Pm,PV hu,Pk,Instr.sureAddr,PF,hr,dq hk]
     ·rw[PQ,PD];omega
     ·rw[PQ,PD];omega
     ·rw[PQ,PD]at UT
      have RT:∀(i:Nat) (x:Int),((l.take c).drop a)[i]?=some x→l[a+i]?=some x:=by
       intro i x hx
       rw[Qv,PK]at hx
       split at hx
       ·exact hx
       ·cases hx
      refine⟨b',o'+a,fun i j=>us (a+i),?_,g1,g2,fun i x _=>rfl,fun i x j y hx hy=>?_,fun i x j y hx hy=>?_⟩
      ·rw[Pj (by omega),RB]
       simp[cW]
      ·have hj:j=0∧y=.int k x:=by
        cases j with
        | zero=>exact⟨rfl,by simpa using hy.symm⟩
        | succ j=>simp at hy
       obtain⟨rfl,rfl⟩:=hj
       have:=g3 (a+i) (.int k x) (by rw[PE,RT i x hx];rfl)
       rw[← this]
       congr 2
       omega
      ·have hj:y=.int k x:=by
        cases j with
        | zero=>simpa using hy.symm
        | succ j=>simp at hy
       subst hj
       exact g4 (a+i) _ (by rw[PE,RT i x hx];rfl)
    ·cases hp;exact D'.elim
   ·cases hp;exact D'.elim
  ·cases hp;exact D'.elim
 ·cases hp;exact D'.elim
theorem Dg {op:BinOp} {k:IntKind} {a b:Int} {d:D} {p:Prop} (hs:Bc op=false) (hp:zL op k a b=(d,p)) (D':p) (t:TypeId) :
  ∃u,(binOp op t (.int k a) (.int k b)).run P w=.ok u w∧ao S μ w d u:=by
 unfold zL at hp
 cases op<;>simp only[aP,Po]at hp<;>obtain⟨rfl,rfl⟩:=hp <;>
  first
  | exact D'.elim
  | (refine⟨_,?_,.v _ _ (.int _ _)⟩;simp only[binOp,Op.intArith,Op.intDiv,Op.intBits,ne_eq,not_true_eq_false,QY,PF];done)
  | (refine⟨_,?_,.v _ _ (.int _ _)⟩;simp only[binOp,Op.intDiv,ne_eq,not_true_eq_false,QY];rw[Pj D'];rfl)
  | (refine⟨_,?_,.v _ _ (.bool _)⟩;simp only[binOp,Op.intCmp,ne_eq,not_true_eq_false,QY,PF];done)
theorem zQ {op:BinOp} {k k':IntKind} {a b:Int} {d:D} {p:Prop} (hp:zM op k a b=(d,p)) (D':p) (t:TypeId) :
  ∃u,(binOp op t (.int k a) (.int k' b)).run P w=.ok u w∧ao S μ w d u:=by
 unfold zM at hp
 cases op<;>simp only[aP,Po]at hp<;>obtain⟨rfl,rfl⟩:=hp <;>
  first
  | exact D'.elim
  | (refine⟨_,?_,.v _ _ (.int _ _)⟩;simp only[binOp,Op.shift];rw[Pj (by omega)];rfl)
theorem Et {op:BinOp} {a b:ByteArray} {d:D} {p:Prop} (hp:JL op a b=(d,p)) (D':p) (t:TypeId) :
  ∃u,(binOp op t (.string a) (.string b)).run P w=.ok u w∧ao S μ w d u:=by
 unfold JL at hp
 cases op<;>simp only[aP,Po]at hp<;>obtain⟨rfl,rfl⟩:=hp <;>
  first
  | exact D'.elim
  | (refine⟨_,?_,.v _ _ (.bool _)⟩;simp only[binOp,Op.stringOp];rfl)
  | (refine⟨_,?_,.v _ _ (.str _)⟩;simp only[binOp,Op.stringOp];rw[Pj (by omega)];rfl)
theorem dr {op:BinOp} {t:TypeId} {x y:Operand} {a b:Value} (h:∀us,a≠.agg us) (h':a≠.nilIface):(eqGuard op t x y a b).run P w=.ok () w:=by
 unfold eqGuard
 cases a<;>first | exact absurd rfl h' | exact absurd rfl (h _) | (split<;>rfl)
theorem ic {t:TypeId} {cs:List D} {I':Nat} {x:V} (h:(cM P t cs I').1=.v x):cM P t cs I'=(.v x,True):=by
 unfold cM at h ⊢
 split
 ·rename_i hc;rw[Pn hc]at h;exact Prod.ext h rfl
 ·rename_i hc;rw[Pj hc]at h;cases h
theorem nI {xs ys:List D} {us vs:Array Value} (hx:us.size=xs.length∧∀(j:Nat) (y:D) (u:Value),xs[j]?=some y→us[j]?=some u→ao S μ w y u) (hy:vs.size=ys.length∧∀(j:Nat) (y:D) (u:Value),ys[j]?=some y→vs[j]?=some u→ao S μ w y u)
  {f:Field} {b:Bool} (h:rP P xs ys f=some b) (d:Nat):f.name ≠ "_" ∧ ∃u v,(part f.type us f.offset).run P w=.ok u w∧(part f.type vs f.offset).run P w=.ok v w∧(Op.equalIn (d+1) f.type u v).run P w=.ok b w:=by
 unfold rP at h
 split at h
 ·rename_i hn
  refine⟨hn,?_⟩
  unfold Ep at h
  split at h
  ·rename_i k0 k a k' c hu h1 h2
   obtain⟨u,V4,SN⟩:=gm hx.1 hx.2 (ic h1) trivial
   obtain⟨v,TW,Ul⟩:=gm hy.1 hy.2 (ic h2) trivial
   rw[bJ SN]at V4;rw[bJ Ul]at TW
   split at h
   ·rename_i hk
    have Si:k=k':=by simpa using hk
    subst Si
    cases h
    exact⟨_,_,V4,TW,run_equalIn_int w d f.type k k0 a c hu⟩
   ·cases h
  ·rename_i a c hu h1 h2
   obtain⟨u,V4,SN⟩:=gm hx.1 hx.2 (ic h1) trivial
   obtain⟨v,TW,Ul⟩:=gm hy.1 hy.2 (ic h2) trivial
   rw[fk SN]at V4;rw[fk Ul]at TW
   cases h
   exact⟨_,_,V4,TW,run_equalIn_bool' w d f.type a c hu⟩
  ·rename_i a c hu h1 h2
   obtain⟨u,V4,SN⟩:=gm hx.1 hx.2 (ic h1) trivial
   obtain⟨v,TW,Ul⟩:=gm hy.1 hy.2 (ic h2) trivial
   rw[fl SN]at V4;rw[fl Ul]at TW
   cases h
   exact⟨_,_,V4,TW,run_equalIn_string w d f.type a c hu⟩
  ·cases h
 ·cases h
theorem ll {xs ys:List D} {us vs:Array Value} (hx:us.size=xs.length∧∀(j:Nat) (y:D) (u:Value),xs[j]?=some y→us[j]?=some u→ao S μ w y u) (hy:vs.size=ys.length∧∀(j:Nat) (y:D) (u:Value),ys[j]?=some y→vs[j]?=some u→ao S μ w y u) (d:Nat) :
  ∀(fs:List Field) (b:Bool),lj P xs ys fs=some b→(Op.eqFields (d+1) us vs fs).run P w=.ok b w
 | [],b,h=>by cases h;simp[Op.eqFields]
 | [f],b,h=>by
  obtain⟨hn,u,v,h1,h2,h3⟩:=nI hx hy h d
  cases b<;>simp[Op.eqFields,hn,Pm,h1,h2,h3]
 | f::g::fs,b,h=>by
  unfold lj at h
  split at h
  ·rename_i a c ha hc
   cases h
   obtain⟨hn,u,v,h1,h2,h3⟩:=nI hx hy ha d
   have ih:=ll hx hy d (g::fs) c hc
   unfold Op.eqFields
   cases a
   ·simp[hn,Pm,h1,h2,h3]
   ·simp only[ne_eq,hn,not_false_eq_true,Q7,Pm,h1,h2,h3,Pk,Bool.not_true,Qc,QY,Bool.true_and]
    exact ih
  ·cases h
theorem wo {t:TypeId} (h:sJ P t=true):∃e,P.underlying t=some (.slice e):=by
 unfold sJ at h
 split at h
 ·exact⟨_,by assumption⟩
 ·cases h
theorem xL {t:TypeId} (h:wm P t=true):∃a b c,P.underlying t=some (.func a b c):=by
 unfold wm at h
 split at h
 ·exact⟨_,_,_,by assumption⟩
 ·cases h
theorem xM {x:D} {ux:Value} {b:Bool} {q:Prop} (hx:ao S μ w x ux) (hq:Er x=some (b,q)) (h:q):∃r n c,ux=.slice r n c∧r.isNone=b:=by
 unfold Er at hq
 split at hq
 ·cases hq;cases hx;exact⟨_,_,_,rfl,rfl⟩
 ·cases hq;have hx:=bn hx;cases hx;exact⟨_,_,_,rfl,rfl⟩
 ·cases hq;have hx:=bn hx;cases hx;exact⟨_,_,_,rfl,rfl⟩
 ·rename_i sz α enc d l
  cases hq
  obtain⟨p,c,rfl,_,_,_,h4⟩:=gb (bn hx)
  obtain⟨b,I',us,rfl,_⟩:=h4 (List.length_pos_iff.2 h)
  exact⟨_,_,_,rfl,rfl⟩
 ·cases hq
theorem wp {x:D} {ux:Value} {b:Bool} (hx:ao S μ w x ux) (hq:zN x=some b):(b=true∧ux=.nilFunc)∨(b=false∧∃f us vs,ux=.func f us vs):=by
 unfold zN at hq
 split at hq
 ·cases hq;have hx:=bn hx;cases hx;exact .inl ⟨rfl,rfl⟩
 ·cases hq;cases hx;exact .inr ⟨rfl,_,_,_,rfl⟩
 ·cases hq
theorem qa {op:BinOp} {t:TypeId} {b:Bool} {q p:Prop} {d:D} {ux uy:Value} (hp:xK op b q=(d,p)) (D':p) (he:(Op.equal t ux uy).run P w=.ok b w) (hx:∀k n,ux≠.int k n:=by intros;intro h;cases h) (hf:∀k n,ux≠.float k n:=by intros;intro h;cases h)
  (hc:∀k a b,ux≠.complex k a b:=by intros;intro h;cases h) (hs:∀s,ux≠.string s:=by intros;intro h;cases h):∃u,(binOp op t ux uy).run P w=.ok u w∧ao S μ w d u:=by
 unfold xK at hp
 split at hp
 ·cases hp
  refine⟨.bool b,?_,.v _ _ (.bool _)⟩
  unfold binOp
  cases ux<;>first | exact absurd rfl (hx _ _) | exact absurd rfl (hf _ _) | exact absurd rfl (hc _ _ _) | exact absurd rfl (hs _) | simp only[Pm,he,Pk,PF]
 ·cases hp
  refine⟨.bool (!b),?_,.v _ _ (.bool _)⟩
  unfold binOp
  cases ux<;>first | exact absurd rfl (hx _ _) | exact absurd rfl (hf _ _) | exact absurd rfl (hc _ _ _) | exact absurd rfl (hs _) | simp only[Pm,he,Pk,PF]
 ·cases hp;exact D'.elim
theorem zR {op:BinOp} {t:TypeId} {x y d:D} {p:Prop} {ux uy:Value} (ox oy:Operand) (hx:ao S μ w x ux) (hy:ao S μ w y uy) (hp:JM P op t x y=(d,p)) (D':p) :
  ∃u,(do eqGuard op t ox oy ux uy;binOp op t ux uy:Sem Value).run P w=.ok u w∧ao S μ w d u:=by
 unfold JM at hp
 split at hp
 ·rename_i k a k' b
  rw[bJ hx,bJ hy]
  simp only[Pm,dr (P:=P) (w:=w) (a:=.int k a) (fun _ h=>by cases h) (fun h=>by cases h),Pk]
  split at hp
  ·exact zQ hp D' t
  ·rename_i hs
   split at hp
   ·rename_i hk
    have:k=k':=by simpa using hk
    subst this
    exact Dg (by simpa using hs) hp D' t
   ·cases hp;exact D'.elim
 ·rename_i a b
  rw[fl hx,fl hy]
  simp only[Pm,dr (P:=P) (w:=w) (a:=.string a) (fun _ h=>by cases h) (fun h=>by cases h),Pk]
  exact Et hp D' t
 ·rename_i a b
  rw[fk hx,fk hy]
  simp only[Pm,dr (P:=P) (w:=w) (a:=.bool a) (fun _ h=>by cases h) (fun h=>by cases h),Pk]
  split at hp
  ·rename_i hu
   have he:(Op.equal t (.bool a) (.bool b)).run P w=.ok (a==b) w:=by
    unfold Op.equal
    rw[show Op.maxDepth=9999+1 from rfl,Op.equalIn]
    simp only[Pm,PV hu,Pk,PF]
   cases op<;>simp only[aP,Po]at hp<;>obtain⟨rfl,rfl⟩:=hp <;>
    first
    | exact D'.elim
    | (refine⟨_,?_,.v _ _ (.bool _)⟩;simp only[binOp,Pm,he,Pk,PF])
  ·cases hp;exact D'.elim
 ·rename_i xs ys
  obtain⟨us,rfl,T3,UU⟩:=dH hx
  obtain⟨vs,rfl,hy1,hy2⟩:=dH hy
  unfold Jb at hp
  split at hp
  ·rename_i hc
   simp only[Pg,PR]at hc
   obtain⟨⟨hs,hg⟩,ht⟩:=hc
   have hu:P.underlying t=some (.struct (P.fieldsOf t)):=by
    unfold uP at ht
    unfold Program.fieldsOf
    split at ht
    ·rename_i fs hfs;rw[hfs]
    ·cases ht
   have he:∀b,lj P xs ys (P.fieldsOf t).toList=some b→(Op.equalIn 10000 t (.agg us) (.agg vs)).run P w=.ok b w:=fun b hb=>by
    rw[show(10000:Nat)=9999+1 from rfl,run_equalIn_agg w 9999 t us vs hu hs]
    exact ll ⟨T3,UU⟩ ⟨hy1,hy2⟩ 9998 _ b hb
   simp only[Pm,run_eqGuard_agg (P:=P) w op t ox oy us vs hg,Pk]
   split at hp
   ·rename_i b hb
    cases hp
    exact⟨_,by rw[run_eql_struct,he b hb,Pk],.v _ _ (.bool _)⟩
   ·rename_i b hb
    cases hp
    exact⟨_,by rw[run_neq_struct,he b hb,Pk],.v _ _ (.bool _)⟩
   ·cases hp;exact D'.elim
  ·cases hp;exact D'.elim
 ·cases hy
  split at hp
  ·rename_i b q hq
   split at hp
   ·rename_i ht
    obtain⟨e,he⟩:=wo ht
    have hob':q:=by
     unfold xK at hp
     split at hp<;>cases hp<;>first | exact D' | exact D'.elim
    obtain⟨r,n,c,rfl,hr⟩:=xM hx hq hob'
    simp only[Pm,dr (P:=P) (w:=w) (a:=.slice r n c) (fun _ h=>by cases h) (fun h=>by cases h),Pk]
    have Ws:(Op.equal t (.slice r n c) (.slice none 0 0)).run P w=.ok b w:=by
     unfold Op.equal
     rw[show Op.maxDepth=9999+1 from rfl,Op.equalIn]
     simp only[Pm,PV he,Pk]
     cases r<;>simp at hr<;>subst hr<;>rfl
    exact qa hp D' Ws
   ·cases hp;exact D'.elim
  ·cases hp;exact D'.elim
 ·have hy2:=bn hy
  cases hy2
  split at hp
  ·rename_i b hq
   split at hp
   ·rename_i ht
    obtain⟨e1,e2,e3,he⟩:=xL ht
    have hu:(b=true∧ux=.nilFunc)∨(b=false∧∃f us vs,ux=.func f us vs):=wp hx hq
    have Ws:(Op.equal t ux .nilFunc).run P w=.ok b w:=by
     unfold Op.equal
     rw[show Op.maxDepth=9999+1 from rfl,Op.equalIn]
     simp only[Pm,PV he,Pk]
     rcases hu with ⟨rfl,rfl⟩ | ⟨rfl,f,us,vs,rfl⟩<;>rfl
    rw[Pm,dr (P:=P) (w:=w) (a:=ux) (fun _ h=>by rcases hu with ⟨_,rfl⟩ | ⟨_,f,us,vs,rfl⟩<;>cases h) (fun h=>by rcases hu with ⟨_,rfl⟩ | ⟨_,f,us,vs,rfl⟩<;>cases h),Pk]
    rcases hu with ⟨h1,rfl⟩ | ⟨h1,f,us,vs,rfl⟩
    ·exact qa hp D' Ws
    ·exact qa hp D' Ws
   ·cases hp;exact D'.elim
  ·cases hp;exact D'.elim
 ·cases hp;exact D'.elim
theorem Dh {op:UnOp} {x d:D} {p:Prop} {ux:Value} (hx:ao S μ w x ux) (hp:M4 op x=(d,p)) (D':p) :
  ∃u,(Op.unary op ux).run P w=.ok u w∧ao S μ w d u:=by
 unfold M4 at hp
 split at hp
 ·cases hp;rw[bJ hx];exact⟨_,rfl,.v _ _ (.int _ _)⟩
 ·cases hp;rw[bJ hx];exact⟨_,rfl,.v _ _ (.int _ _)⟩
 ·cases hp;rw[fk hx];exact⟨_,rfl,.v _ _ (.bool _)⟩
 ·cases hp;exact D'.elim
theorem xN {src dst:TypeId} {x d:D} {p:Prop} {ux:Value} (hx:ao S μ w x ux) (hp:Es P src dst x=(d,p)) (D':p) :
  ∃u,(convert src dst ux).run P w=.ok u w∧ao S μ w d u:=by
 unfold Es at hp
 split at hp
 ·rename_i hk
  unfold ca at hk
  simp only[Pg,Option.isSome_iff_exists]at hk
  obtain⟨_,s,hs⟩:=hk
  split at hp
  ·rename_i k k' n hd
   rw[bJ hx]
   split at hp
   ·cases hp;exact D'.elim
   ·cases hp
    refine⟨_,?_,.v _ _ (.int _ _)⟩
    unfold convert
    simp only[Pm,PV hs,PV hd,Pk,Conv.intToInt]
    rfl
  ·rename_i s' hd
   cases hp
   rw[fl hx]
   refine⟨_,?_,.v _ _ (.str _)⟩
   unfold convert
   simp only[Pm,PV hs,PV hd,Pk]
   rfl
  ·cases hp;exact D'.elim
 ·cases hp;exact D'.elim
theorem zS {t ty:TypeId} {H:List ax} (hH:be S μ w H) {x d:D} {p:Prop} {ux:Value} (hx:ao S μ w x ux) (hp:JN P t H x=(d,p)) (D':p) :
  ∃u,(Builtin.len_ #[t] ty #[ux]).run P w=.ok u w∧ao S μ w d u:=by
 have sl:∀(e:TypeId) (q:Option Addr) (n c:Nat),P.underlying t=some (.slice e)→(Builtin.len_ #[t] ty #[.slice q n c]).run P w=.ok (.int .i64 n) w:=by
  intro e q n c hu
  simp[Builtin.len_,Pm,PV hu,goInt]
 unfold JN at hp
 split at hp
 ·rename_i s hu
  cases hp
  rw[fl hx]
  exact⟨_,by simp[Builtin.len_,Pm,PV hu,goInt],.v _ _ (.int _ _)⟩
 ·rename_i n e hu
  cases hp
  exact⟨_,by simp[Builtin.len_,Pm,PV hu,goInt],.v _ _ (.int _ _)⟩
 ·rename_i e sz α enc d' l hu
  cases hp
  obtain⟨q,c,rfl,_⟩:=gb (bn hx)
  exact⟨_,sl _ _ _ _ hu,.v _ _ (.int _ _)⟩
 ·rename_i e hu
  cases hp
  cases hx
  exact⟨_,sl _ _ _ _ hu,.v _ _ (.int _ _)⟩
 ·rename_i e hu
  cases hp
  have hx:=bn hx
  cases hx
  exact⟨_,sl _ _ _ _ hu,.v _ _ (.int _ _)⟩
 ·rename_i e hu
  cases hp
  have hx:=bn hx
  cases hx
  exact⟨_,sl _ _ _ _ hu,.v _ _ (.int _ _)⟩
 ·rename_i e id hu
  split at hp
  ·rename_i E sz α enc d' l hb
   cases hp
   rw[bA hx]
   obtain⟨q,c,hm,_⟩:=bN (hH.box id _ hb)
   rw[hm]
   exact⟨_,sl _ _ _ _ hu,.v _ _ (.int _ _)⟩
  ·rename_i E sz α enc d' l hb
   cases hp
   rw[bA hx]
   obtain⟨q,c,hm,_⟩:=bN (hH.box id _ hb).ro_arr
   rw[hm]
   exact⟨_,sl _ _ _ _ hu,.v _ _ (.int _ _)⟩
  ·rename_i E sz m gs cell hb
   cases hp
   rw[bA hx]
   obtain⟨q,c,hm,_⟩:=fJ (hH.box id _ hb)
   rw[hm]
   exact⟨_,sl _ _ _ _ hu,.v _ _ (.int _ _)⟩
  ·cases hp;exact D'.elim
 ·cases hp;exact D'.elim
end
end Go.Proofs.Ytnlmlkbaflmgcaa
namespace Go.Proofs.Ytnlmlkbaflmgcaa
open Go.RowKit
set_option linter.unusedVariables false
set_option linter.unusedSimpArgs false
def jw (H:List ax):D→Option (List D)
 | .agg cs=>some cs
 | .tup _=>none
 | .junk=>none
 | .own id=>match H[id]? with | some (.arr _ _ _ _ _)=>some [.own id] | some (.ro _ _ _ _ _)=>some [.own id] | some (.mpb _ _ _ _ _)=>some [.own id] | some (.arrD _ _ _ _ _)=>some [.own id] | _=>none
 | d=>some [d]
def fo (cs new:List D) (I':Nat):List D:=cs.take I'++new++cs.drop (I'+new.length)
def gq (H:List ax) (T8:Nat→Option (Nat×Nat)) (cells:List D):List (Nat×D)→Option (List D)
 | []=>some cells
 | (i,x)::rest=>match T8 i,jw H x with
  | some (I',size),some new=>if Nat.beq new.length size&&Nat.ble (I'+new.length) cells.length then gq H T8 (fo cells new I') rest else none
  | _,_=>none
def gS (P:Program) (t:TypeId):Option (List D):=((P.info? t).bind (·.zero)).map fun z=>z.cells.toList.map D.ofVal1
def zT (P:Program) (H:List ax) (t:TypeId) (M':List (Nat×D)):R1 :=
 match gS P t,P.underlying t with
 | some z,some (.struct fs)=>if fs.all (fun f=>ca P f.type)then
   match gq H (fun i=>(fs[i]?).map fun f=>(f.offset,ay P f.type)) z M' with
   | some cs=>(.agg cs,True)
   | none=>aP
  else aP
 | some z,some (.array _ e)=>if ca P e then
   match gq H (fun i=>some (i*ay P e,ay P e)) z M' with
   | some cs=>(.agg cs,True)
   | none=>aP
  else aP
 | _,_=>aP
def MW (f:Int→Int→Int) (x y:D):R1 :=
 match x,y with
 | .v (.int k a),.v (.int _ b)=>(.v (.int k (f a b)),True)
 | _,_=>aP
def Jc (c a b:D):R1 :=
 match c with
 | .v (.bool t)=>(match t with | true=>a | false=>b,True)
 | _=>aP
def Lm:D→R1
 | .ptr id i sz I'=>(.ptr id i sz I',True)
 | .iptr cs I'=>(.iptr cs I',True)
 | .fn (.func f) a b=>(.fn (.func f) a b,True)
 | .yld id=>(.yld id,True)
 | _=>aP
def xO (x:D) (i:Nat):R1 :=
 match x with
 | .tup cs=>if Nat.blt i cs.length then (cs.getD i .junk,True)else aP
 | _=>aP
def cA (x y:D):Prop:=∀(S:Nat→Prop) (μ:Nat→Value) (w:World) (u:Value),ao S μ w x u→ao S μ w y u
theorem cA.refl (x:D):cA x x:=fun _ _ _ _ h=>h
def ai {α:Type _} (d:α):List (ByteArray×α)→ByteArray→α
 | [],_=>d
 | (k',x)::r,k=>if k=k' then x else ai d r k
def aX {α:Type _}:List (ByteArray×α)→ByteArray→Bool
 | [],_=>false
 | (k',_)::r,k=>if k=k' then true else aX r k
def dJ {α:Type _}:List (ByteArray×α)→ByteArray→α→List (ByteArray×α)
 | [],k,x=>[(k,x)]
 | (k',y)::r,k,x=>if k=k' then (k,x)::r else (k',y)::dJ r k x
theorem ln {α β:Type _} (f:α→β) (x:α) (k:ByteArray):∀l:List (ByteArray×α),dJ (l.map fun p=>(p.1,f p.2)) k (f x)=(dJ l k x).map fun p=>(p.1,f p.2)
 | []=>rfl
 | (k',y)::r=>by
  rw[Qe,dJ,dJ]
  split
  ·rw[Qe]
  ·rw[Qe,ln f x k r]
theorem Ox (a b:ByteArray):(a==b)=decide (a=b):=by
 cases a with | mk x=>cases b with | mk y =>
 show(x==y)=_
 by_cases h:x=y
 ·subst h;simp
 ·rw[Pv (by simpa using h)];exact beq_eq_false_iff_ne.2 h
theorem Jd (a b:ByteArray):Instr.sameNow .string (.string a) (.string b)=some (decide (a=b)):=by
 show some (a==b)=_
 rw[Ox]
theorem Eu {α:Type _} {R:α→Value→Prop} (d:α) (k:ByteArray):∀(l:List (ByteArray×α)) (arr:List MapEntry) (n:Nat),arr.length=l.length→(∀(i:Nat) (k':ByteArray) (x:α),l[i]?=some (k',x)→∃e,arr[i]?=some e∧e.key=.string k'∧R x e.val) →
  (aX l k=false∧ai d l k=d∧Instr.findNow .string (.string k) arr n=some none∧∀x,dJ l k x=l++[(k,x)]) ∨
  (aX l k=true∧∃(i:Nat) (e:MapEntry) (y:α),l[i]?=some (k,y)∧arr[i]?=some e∧e.key=.string k∧R y e.val∧Instr.findNow .string (.string k) arr n=some (some (n+i,e.val))∧ai d l k=y∧∀x,dJ l k x=l.set i (k,x))
 | [],arr,n,hl,_=>by
  have:arr=[]:=List.length_eq_zero_iff.1 hl
  subst this
  exact .inl ⟨rfl,rfl,by simp[Instr.findNow],fun x=>rfl⟩
 | (k',x)::r,[],n,hl,_=>by simp at hl
 | (k',x)::r,a::arr,n,hl,h=>by
  obtain⟨e,he,hk,hr⟩:=h 0 k' x rfl
  simp only[List.getElem?_cons_zero,Pu]at he
  subst he
  by_cases Uk:k=k'
  ·subst Uk
   refine .inr ⟨by rw[aX,Pn rfl],0,a,x,rfl,rfl,hk,hr,?_,by rw[ai,Pn rfl],fun y=>by rw[dJ,Pn rfl];rfl⟩
   unfold Instr.findNow
   rw[hk,Jd,Pq rfl]
   rfl
  ·have hf:Instr.findNow .string (.string k) (a::arr) n=Instr.findNow .string (.string k) arr (n+1):=by
    conv=>lhs;unfold Instr.findNow
    rw[hk,Jd,Pv Uk]
   rw[hf,aX,Pj Uk,ai,Pj Uk]
   rcases Eu d k r arr (n+1) (by simpa using hl) (fun i k' x hx=>by simpa using h (i+1) k' x (by simpa using hx))with ⟨h1,h0,h2,h3⟩ | ⟨h1,i,e,y,h2,h3,h4,h5,h6,h7,h8⟩
   ·exact .inl ⟨h1,h0,h2,fun y=>by rw[dJ,Pj Uk,h3];rfl⟩
   ·exact .inr ⟨h1,i+1,e,y,by simpa using h2,by simpa using h3,h4,h5,by rw[h6,show n+1+i=n+(i+1) by omega],h7,fun y=>by rw[dJ,Pj Uk,h8];rfl⟩
def uR (P:Program) (t:TypeId):Option D:=((P.info? t).bind (·.zero)).map D.ofVal
def wq (P:Program) (H:List ax) (t:TypeId) (x ix:D) (c:Bool):R1 :=
 match P.underlying t,x,ix with
 | some (.map K E),.own id,.v (.str k)=>match P.underlying K,uR P E,H[id]? with
  | some .string,some z,some (.mpb t' ag enc d l) =>
   if Nat.beq t t' then (if c then .tup [fF ag (enc (ai d l k)),.v (.bool (aX l k))]else fF ag (enc (ai d l k)),cA z (fF ag (enc d)))else aP
  | _,_,_=>aP
 | some (.map K E),.v (.sm ag enc d l),.v (.str k)=>match P.underlying K,uR P E with
  | some .string,some z=>(if c then .tup [fF ag (enc (ai d l k)),.v (.bool (aX l k))]else fF ag (enc (ai d l k)),cA z (fF ag (enc d))∧(ag=false→∀p∈l,(enc p.2).length=1))
  | _,_=>aP
 | _,_,_=>aP
def fK (P:Program) (H:List ax) (ρ:Operand→D) (op:Op):R1 :=
 match op with
 | .move x=>(ρ x,True)
 | .assign x=>(ρ x,True)
 | .pick c a b=>Jc (ρ c) (ρ a) (ρ b)
 | .load t a=>Bb P t H (ρ a)
 | .nilCheck x=>Lm (ρ x)
 | .binOp op t x y _=>JM P op t (ρ x) (ρ y)
 | .unOp op _ x=>M4 op (ρ x)
 | .convert src dst x=>Es P src dst (ρ x)
 | .makeFunc fn first cap=>(.fn fn (first.toList.map ρ) (cap.toList.map ρ),True)
 | .slice t x lo hi mx=>zK P t (ρ x) (lo.map ρ) (hi.map ρ) (mx.map ρ)
 | .fieldAddr s x f=>oo P s (ρ x) f
 | .field t x f=>zH P t (ρ x) f
 | .indexAddr t x i=>oq P t H (ρ x) (ρ i)
 | .index t x i=>zI P t (ρ x) (ρ i)
 | .extract x i=>xO (ρ x) i
 | .build t M'=>zT P H t (M'.toList.map fun p=>(p.1,ρ p.2))
 | .lookup t x ix c=>wq P H t (ρ x) (ρ ix) c
 | .call c=>match c.callee with
  | .builtin .len=>match c.args.toList,c.argTypes.toList with
   | [x],[t]=>JN P t H (ρ x)
   | _,_=>aP
  | .builtin .min=>match c.args.toList with
   | [x,y]=>MW Df (ρ x) (ρ y)
   | _=>aP
  | .builtin .max=>match c.args.toList with
   | [x,y]=>MW JO (ρ x) (ρ y)
   | _=>aP
  | _=>aP
 | _=>aP
section
variable {P:Program} {S:Nat→Prop} {μ:Nat→Value} {w:World}
theorem dg.cells {x:V} {u:Value} (h:dg S w x u):u.cells=#[u]:=by cases h<;>rfl
theorem gY {H:List ax} (hH:be S μ w H) {d:D} {u:Value} {cs:List D} (hd:ao S μ w d u) (hc:jw H d=some cs) :
  u.cells.size=cs.length∧∀(j:Nat) (y:D) (z:Value),cs[j]?=some y→u.cells[j]?=some z→ao S μ w y z:=by
 have one:∀(d:D) (u:Value),ao S μ w d u→u.cells=#[u]→cs=[d]→u.cells.size=cs.length∧∀(j:Nat) (y:D) (z:Value),cs[j]?=some y→u.cells[j]?=some z→ao S μ w y z:=by
  rintro d u hd hu rfl
  rw[hu]
  refine⟨rfl,fun j y z hy hz=>?_⟩
  cases j with
  | zero=>simp at hy hz;subst hy hz;exact hd
  | succ j=>simp at hy
 unfold jw at hc
 split at hc
 ·cases hc
  obtain⟨us,rfl,h1,h2⟩:=dH hd
  exact⟨h1,h2⟩
 ·cases hc
 ·cases hc
 ·split at hc
  ·rename_i E sz α enc d' l hb
   cases hc
   obtain⟨q,c,hm,_⟩:=bN (hH.box _ _ hb)
   have hu:=bA hd
   exact one _ _ hd (by rw[hu,hm];rfl) rfl
  ·rename_i E sz α enc d' l hb
   cases hc
   obtain⟨q,c,hm,_⟩:=bN (hH.box _ _ hb).ro_arr
   have hu:=bA hd
   exact one _ _ hd (by rw[hu,hm];rfl) rfl
  ·rename_i t ag α enc d' l hb
   cases hc
   obtain⟨b,arr,clock,hm,_⟩:=hH.box _ _ hb
   have hu:=bA hd
   exact one _ _ hd (by rw[hu,hm];rfl) rfl
  ·rename_i E sz m gs cell hb
   cases hc
   obtain⟨q,c,hm,_⟩:=fJ (hH.box _ _ hb)
   have hu:=bA hd
   exact one _ _ hd (by rw[hu,hm];rfl) rfl
  ·cases hc
 ·rename_i h1 h2 h3 h4
  cases hc
  refine one _ _ hd ?_ rfl
  cases hd with
  | v x u h=>exact h.cells
  | nils=>rfl
  | own id=>exact absurd rfl (h4 id)
  | ptr=>rfl
  | iptr=>rfl
  | agg cs us _ _=>exact absurd rfl (h1 cs)
  | tup cs us _ _=>exact absurd rfl (h2 cs)
  | fn=>rfl
  | yld=>rfl
  | capd=>rfl
  | gr g r us u _ _ h=>cases u<;>first | rfl | cases h
  | junk u=>exact absurd rfl h3
def aO (S:Nat→Prop) (μ:Nat→Value) (w:World) (cs:List D) (us:Array Value):Prop :=
 us.size=cs.length∧∀(j:Nat) (y:D) (z:Value),cs[j]?=some y→us[j]?=some z→ao S μ w y z
theorem Hi (new:Array Value) (cells:Array Value) (I':Nat):∀(n:Nat),n≤new.size→I'+new.size≤cells.size →
  ((new.toList.zipIdx.take n).foldl (fun cs (p:Value×Nat)=>cs.setIfInBounds (I'+p.2) p.1) cells).size=cells.size ∧
  ∀j,((new.toList.zipIdx.take n).foldl (fun cs (p:Value×Nat)=>cs.setIfInBounds (I'+p.2) p.1) cells)[j]?=if I'≤j∧j<I'+n then new[j-I']? else cells[j]?:=by
 intro n
 induction n with
 | zero=>intro _ _;exact⟨by simp,fun j=>by rw[Pj (by omega)];simp⟩
 | succ n ih =>
  intro hn ho
  obtain⟨h1,h2⟩:=ih (by omega) ho
  have ht:new.toList.zipIdx.take (n+1)=new.toList.zipIdx.take n++[(new[n]'(by omega),n)]:=by
   rw[List.take_succ_eq_append_getElem (by simp;omega)]
   congr 1
   simp
  rw[ht,Q5]
  simp only[List.foldl_cons,List.foldl_nil]
  refine⟨by rw[Array.size_setIfInBounds];exact h1,fun j=>?_⟩
  by_cases hj:j=I'+n
  ·subst hj
   rw[Array.getElem?_setIfInBounds_self_of_lt (by omega),Pn (by omega),show I'+n-I'=n from by omega]
   simp
  ·rw[Qg (by omega),h2 j]
   by_cases hc:I'≤j∧j<I'+n
   ·rw[Pn hc,Pn (by omega)]
   ·rw[Pj hc,Pj (by omega)]
theorem xP {cs new:List D} {us vs:Array Value} {I':Nat} (h:aO S μ w cs us) (hn:aO S μ w new vs) (ho:I'+new.length≤cs.length) :
  aO S μ w (fo cs new I') (vs.zipIdx.foldl (fun cs (c,j)=>cs.setIfInBounds (I'+j) c) us):=by
 have e:vs.zipIdx.foldl (fun cs (c,j)=>cs.setIfInBounds (I'+j) c) us=(vs.toList.zipIdx.take vs.size).foldl (fun cs (p:Value×Nat)=>cs.setIfInBounds (I'+p.2) p.1) us:=by
  rw[← Array.foldl_toList,Array.toList_zipIdx,Rb (by simp)]
 obtain⟨h1,h2⟩:=Hi vs us I' vs.size (Pl _) (by rw[hn.1,h.1];exact ho)
 rw[← e]at h1 h2
 refine⟨by rw[h1,h.1];simp[fo];omega,fun j y z hy hz=>?_⟩
 rw[h2 j]at hz
 unfold fo at hy
 by_cases hc:I'≤j∧j<I'+vs.size
 ·rw[Pn hc]at hz
  refine hn.2 (j-I') y z ?_ hz
  rw[Pw (by simp;have:=hn.1;omega),Pz (by simp;omega)]at hy
  rw[PD,Nat.min_eq_left (by omega)]at hy
  exact hy
 ·rw[Pj hc]at hz
  refine h.2 j y z ?_ hz
  have hs:=hn.1
  by_cases hj:j<I'
  ·rw[Pw (by simp;omega),Pw (by simp;omega),PK,Pn hj]at hy
   exact hy
  ·rw[Pz (by simp;omega),Qv]at hy
   simp only[PG,PD]at hy
   rw[show I'+new.length+(j-(min I' cs.length+new.length))=j from by omega]at hy
   exact hy
theorem eV {H:List ax} (hH:be S μ w H) {T8:Nat→Option (Nat×Nat)}:∀(M':List (Nat×D)) (Ry:List (Nat×Value)) (cells TF:List D) (us:Array Value),
  M'.map (·.1)=Ry.map (·.1)→(∀(j:Nat) (x:Nat×D) (u:Nat×Value),M'[j]?=some x→Ry[j]?=some u→ao S μ w x.2 u.2) →
  aO S μ w cells us→gq H T8 cells M'=some TF→∃vs,Instr.fill T8 us Ry=some vs∧aO S μ w TF vs
 | [],[],cells,TF,us,_,_,hc,hf=>by
  simp only[gq,Pu]at hf
  subst hf
  exact⟨us,rfl,hc⟩
 | [],_::_,_,_,_,h,_,_,_=>by simp at h
 | _::_,[],_,_,_,h,_,_,_=>by simp at h
 | (i,x)::M',(i',u)::Ry,cells,TF,us,hi,hr,hc,hf=>by
  simp only[Qe,Qj]at hi
  obtain⟨rfl,hi⟩:=hi
  unfold gq at hf
  split at hf
  ·rename_i I' size new hp hn
   split at hf
   ·rename_i RK
    simp only[Pg,PC,Qm]at RK
    obtain⟨hl,ho⟩:=RK
    have R0:=gY hH (hr 0 _ _ rfl rfl) hn
    obtain⟨vs,h1,h2⟩:=eV hH M' Ry _ TF _ hi (fun j x u hx hu=>hr (j+1) x u (by simpa using hx) (by simpa using hu)) (xP hc R0 ho) hf
    refine⟨vs,?_,h2⟩
    unfold Instr.fill
    rw[hp]
    dsimp only
    have h9:u.cells.size=new.length:=R0.1
    have h8:us.size=cells.length:=hc.1
    rw[Pj (by simp only[PS,P5];omega)]
    exact h1
   ·cases hf
  ·cases hf
theorem gt {t:TypeId} {z:List D} (h:gS P t=some z):∃v,(zeroValue t).run P w=.ok v w∧aO S μ w z v.cells:=by
 unfold gS at h
 cases hi:P.info? t with
 | none=>simp[hi]at h
 | some i =>
  cases hz:i.zero with
  | none=>simp[hi,hz]at h
  | some v =>
   simp only[hi,hz,QW,PY,Pu]at h
   subst h
   refine⟨v,by simp[zeroValue,typeInfo,hi,hz,Pm],by simp,fun j y u hy hu=>?_⟩
   simp only[PE,PU,hu,PY,Pu]at hy
   subst hy
   exact ao.ofVal1 S μ w u
theorem kT:∀(l:List Field),l.all (fun f=>ca P f.type)=true→(l.mapM (fun f=>do pure (f.offset,← sizeOf f.type):Field→Sem (Nat×Nat))).run P w=.ok (l.map fun f=>(f.offset,ay P f.type)) w
 | [],_=>rfl
 | f::l,h=>by
  simp only[Rn,Pg]at h
  have:=kT l h.2
  simp only[List.mapM_cons,Pm,dq h.1,Pk,PF,this,Qe]
theorem wt {H:List ax} (hH:be S μ w H) {t:TypeId} {M':List (Nat×D)} {Ry:List (Nat×Value)} {d:D} {p:Prop} (h1:M'.map (·.1)=Ry.map (·.1))
  (h2:∀(j:Nat) (x:Nat×D) (u:Nat×Value),M'[j]?=some x→Ry[j]?=some u→ao S μ w x.2 u.2) (hp:zT P H t M'=(d,p)) (D':p) :
  ∃u,(Instr.build t Ry.toArray).run P w=.ok u w∧ao S μ w d u:=by
 unfold zT at hp
 split at hp
 ·rename_i z fs hz hu
  split at hp
  ·rename_i hall
   split at hp
   ·rename_i cs hf
    cases hp
    obtain⟨v,hv,hr⟩:=gt (S:=S) (μ:=μ) (w:=w) hz
    obtain⟨vs,h3,h4⟩:=eV hH M' Ry z cs v.cells h1 h2 hr hf
    refine⟨.agg vs,?_,.agg _ _ h4.1 h4.2⟩
    have hall':fs.toList.all (fun f=>ca P f.type)=true:=by simpa using hall
    have hm:=kT (P:=P) (w:=w) fs.toList hall'
    have hm2:(fs.mapM (fun f=>do pure (f.offset,← sizeOf f.type):Field→Sem (Nat×Nat))).run P w=.ok (fs.toList.map fun f=>(f.offset,ay P f.type)).toArray w:=by
     rw[Array.mapM_eq_mapM_toList]
     have hb:∀(s:Sem (List (Nat×Nat))) (r:List (Nat×Nat)),s.run P w=.ok r w→((s.bind (Sem.pure ∘ List.toArray)):Sem (Array (Nat×Nat))).run P w=.ok r.toArray w:=by
      intro s r h
      show Sem.run P (s >>= (Sem.pure ∘ List.toArray)) w=_
      rw[Pm,h]
      rfl
     exact hb _ _ hm
    unfold Instr.build
    simp only[Pm,hv,PV hu,Pk,hm2]
    have Tt:(fun (i:Nat)=>((fs.toList.map fun (f:Field)=>(f.offset,ay P f.type)).toArray)[i]?)=fun (i:Nat)=>(fs[i]?).map fun (f:Field)=>(f.offset,ay P f.type):=by
     funext i
     simp
    rw[Tt,h3]
    rfl
   ·cases hp;exact D'.elim
  ·cases hp;exact D'.elim
 ·rename_i z n e hz hu
  split at hp
  ·rename_i hk
   split at hp
   ·rename_i cs hf
    cases hp
    obtain⟨v,hv,hr⟩:=gt (S:=S) (μ:=μ) (w:=w) hz
    obtain⟨vs,h3,h4⟩:=eV hH M' Ry z cs v.cells h1 h2 hr hf
    refine⟨.agg vs,?_,.agg _ _ h4.1 h4.2⟩
    unfold Instr.build
    simp only[Pm,hv,PV hu,Pk,dq hk]
    rw[h3]
    rfl
   ·cases hp;exact D'.elim
  ·cases hp;exact D'.elim
 ·cases hp;exact D'.elim
theorem qX {w:World} {t K E:TypeId} {b clock:Nat} {arr:Array MapEntry} {k:ByteArray} (ht:P.underlying t=some (.map K E)) (hK:P.underlying K=some .string) (hb:w.heap[b]?=some (.map arr clock)) {r:Option (Nat×Value)} (hf:Instr.findNow .string (.string k) arr.toList 0=some r) {z:Value} (hz:r=none→(zeroValue E).run P w=.ok z w) (c:Bool) :
  (Instr.lookup t (.map (some b)) (.string k) c).run P w=.ok (if c then .tuple #[match r with | some (_,v)=>v | none=>z,.bool r.isSome]else match r with | some (_,v)=>v | none=>z) w:=by
 have hu:(underlying t).run P w=.ok (.map K E) w:=by simp[underlying,ht,Pm,Sem.run]
 have SN:(underlying K).run P w=.ok .string w:=by simp[underlying,hK,Pm,Sem.run]
 have hg:(getObj b).run P w=.ok (.map arr clock) w:=by simp[getObj,Sem.run,hb]
 have hc:(Instr.checkKey arr.isEmpty 10000 K (.string k)).run P w=.ok () w:=by
  rw[show(10000:Nat)=9999+1 from rfl]
  unfold Instr.checkKey
  simp[Pm,SN]
 have hk:(Instr.findKey K (.string k) arr.toList).run P w=.ok r w:=by
  simp[Instr.findKey,Pm,SN,hf]
 cases r with
 | some q =>
  obtain⟨i,v⟩:=q
  cases c<;>simp[Instr.lookup,Pm,hu,hg,hc,hk]
 | none =>
  cases c<;>simp[Instr.lookup,Pm,hu,hg,hc,hk,hz rfl]
theorem uS {ag:Bool} {α:Type} {enc:α→List V} {l:List (ByteArray×α)} {arr:Array MapEntry} (h:Ba S μ w ag enc l arr):arr.toList.length=l.length∧∀(i:Nat) (k':ByteArray) (x:α),l[i]?=some (k',x)→∃e,arr.toList[i]?=some e∧e.key=.string k'∧((ag=false→(enc x).length=1)∧ao S μ w (fF ag (enc x)) e.val) :=
 ⟨by simpa using h.1,fun i k' x hx=>by
  obtain⟨e,h1,h2,h3⟩:=h.2 i k' x hx
  exact⟨e,by simpa using h1,h2,h3⟩⟩
theorem Di {E:TypeId} {z:D} (hz:uR P E=some z):∃v,(zeroValue E).run P w=.ok v w∧ao S μ w z v:=by
 unfold uR at hz
 cases hi:P.info? E with
 | none=>simp[hi]at hz
 | some i =>
  cases hv:i.zero with
  | none=>simp[hi,hv]at hz
  | some v =>
   simp only[hi,hv,QW,PY,Pu]at hz
   refine⟨v,?_,hz ▸ ao.ofVal S μ w v⟩
   simp[zeroValue,typeInfo,hi,hv,Pm,Sem.run]
theorem Ew {ag:Bool} {α:Type} {enc:α→List V} {l:List (ByteArray×α)} {arr:Array MapEntry} {us:Nat→Nat→Value} (h4:arr.size=l.length) (h5:∀(i:Nat) (k:ByteArray) (x:α),l[i]?=some (k,x)→∃e,arr[i]?=some e∧e.key=.string k∧A9 ag (enc x).length e.val (us i)) (h6:∀(i:Nat) (k:ByteArray) (x:α) (j:Nat) (y:V),l[i]?=some (k,x)→(enc x)[j]?=some y→dg S w y (us i j)) (h7:ag=false→∀p∈l,(enc p.2).length=1):Ba S μ w ag enc l arr:=by
 refine⟨h4,fun i k x hx=>?_⟩
 obtain⟨e,e1,e2,e3⟩:=h5 i k x hx
 refine⟨e,e1,e2,fun ha=>h7 ha _ (PM hx),?_⟩
 unfold A9 at e3
 cases ag
 ·simp only[Qc,QY]at e3
  have hl:=e3.1
  match hq:enc x,hl with
  | [y],_ =>
   rw[e3.2]
   exact .v _ _ (h6 i k x 0 y hx (by rw[hq];rfl))
 ·simp only[Q7]at e3
  obtain⟨a,ha,hs,hg⟩:=e3
  rw[ha]
  show ao S μ w (.agg ((enc x).map D.v)) _
  refine .agg _ _ (by rw[Py];exact hs) (fun j y u hy hu=>?_)
  rw[PE]at hy
  cases hq:(enc x)[j]? with
  | none=>rw[hq]at hy;cases hy
  | some v =>
   rw[hq]at hy
   cases hy
   have:=hg j (Pf.1 hq).1
   rw[this]at hu
   cases hu
   exact .v _ _ (h6 i k x j v hx hq)
theorem Be {t K E:TypeId} {b clock:Nat} {arr:Array MapEntry} {ag:Bool} {α:Type} {enc:α→List V} {d0:α} {l:List (ByteArray×α)} {k:ByteArray} {c:Bool} {z:D} (hu:P.underlying t=some (.map K E)) (hK:P.underlying K=some .string) (hz:uR P E=some z) (hb:w.heap[b]?=some (.map arr clock)) (UV:Ba S μ w ag enc l arr) (D':cA z (fF ag (enc d0))) :
  ∃u,(Instr.lookup t (.map (some b)) (.string k) c).run P w=.ok u w∧ao S μ w (if c then .tup [fF ag (enc (ai d0 l k)),.v (.bool (aX l k))]else fF ag (enc (ai d0 l k))) u:=by
 obtain⟨m1,m2⟩:=uS UV
 have hzv:∃v,(zeroValue E).run P w=.ok v w∧ao S μ w z v:=by
  unfold uR at hz
  cases hi:P.info? E with
  | none=>simp[hi]at hz
  | some i =>
   cases hv:i.zero with
   | none=>simp[hi,hv]at hz
   | some v =>
    simp only[hi,hv,QW,PY,Pu]at hz
    refine⟨v,?_,hz ▸ ao.ofVal S μ w v⟩
    simp[zeroValue,typeInfo,hi,hv,Pm,Sem.run]
 obtain⟨zv,Xe,hz2⟩:=hzv
 rcases Eu (R:=fun x v=>(ag=false→(enc x).length=1)∧ao S μ w (fF ag (enc x)) v) d0 k l arr.toList 0 m1 m2 with ⟨h1,h0,h2,h3⟩ | ⟨h1,i,e,y,h2,h3,h4,h5,h6,h7,h8⟩
 ·have hr:=qX (P:=P) hu hK hb h2 (z:=zv) (fun _=>Xe) c
  refine⟨_,hr,?_⟩
  rw[h0,h1]
  have hd:=D' S μ w zv hz2
  cases c
  ·exact hd
  ·refine .tup _ _ rfl (fun j y u hy hu=>?_)
   match j,hy,hu with
   | 0,hy,hu=>cases hy;cases hu;exact hd
   | 1,hy,hu=>cases hy;cases hu;exact .v _ _ (.bool _)
   | j+2,hy,hu=>simp at hy
 ·have hr:=qX (P:=P) hu hK hb h6 (z:=undef) (fun h=>by cases h) c
  refine⟨_,hr,?_⟩
  rw[h7,h1]
  cases c
  ·exact h5.2
  ·refine .tup _ _ rfl (fun j y u hy hu=>?_)
   match j,hy,hu with
   | 0,hy,hu=>cases hy;cases hu;exact h5.2
   | 1,hy,hu=>cases hy;cases hu;exact .v _ _ (.bool _)
   | j+2,hy,hu=>simp at hy
theorem ut {H:List ax} (hH:be S μ w H) {t:TypeId} {x ix:D} {ux ui:Value} {c:Bool} {d:D} {p:Prop} (hx:ao S μ w x ux) (hi:ao S μ w ix ui) (hp:wq P H t x ix c=(d,p)) (D':p) :
  ∃u,(Instr.lookup t ux ui c).run P w=.ok u w∧ao S μ w d u:=by
 unfold wq at hp
 split at hp
 ·rename_i K E id k hu
  split at hp
  ·rename_i z t' ag α enc d0 l hK hz G'
   split at hp
   ·cases hp
    have e1:=bA hx
    have e2:=fl hi
    subst e1 e2
    obtain⟨b,arr,clock,hm,hb,UV⟩:=hH.box id _ G'
    rw[hm]
    exact Be hu hK hz hb UV D'
   ·cases hp;exact D'.elim
  ·cases hp;exact D'.elim
 ·rename_i K E ag α enc d0 l k hu
  split at hp
  ·rename_i z hK hz
   cases hp
   have e2:=fl hi
   subst e2
   have hr:=bn hx
   cases hr with
   | smn =>
    obtain⟨zv,Xe,hz2⟩:=Di (P:=P) (S:=S) (μ:=μ) (w:=w) hz
    have V4:(underlying t).run P w=.ok (.map K E) w:=by simp[underlying,hu,Pm,Sem.run]
    have SN:(underlying K).run P w=.ok .string w:=by simp[underlying,hK,Pm,Sem.run]
    have hc:(Instr.checkKey true 10000 K (.string k)).run P w=.ok () w:=by
     rw[show(10000:Nat)=9999+1 from rfl]
     unfold Instr.checkKey
     simp[Pm,SN]
    have hf:(Instr.findKey K (.string k) ([]:List MapEntry)).run P w=.ok none w:=by simp[Instr.findKey,Pm,SN,Instr.findNow]
    have hd:=D'.1 S μ w zv hz2
    cases c
    ·exact⟨zv,by simp[Instr.lookup,Pm,V4,hc,hf,Xe],hd⟩
    ·refine⟨.tuple #[zv,.bool false],by simp[Instr.lookup,Pm,V4,hc,hf,Xe],.tup _ _ rfl (fun j y u hy hu=>?_)⟩
     match j,hy,hu with
     | 0,hy,hu=>cases hy;cases hu;exact hd
     | 1,hy,hu=>cases hy;cases hu;exact .v _ _ (.bool _)
     | j+2,hy,hu=>simp at hy
   | sm _ _ _ _ b clock arr us h1 h2 h3 h4 h5 h6 =>
    exact Be hu hK hz h3 (Ew h4 h5 h6 D'.2) D'.1
  ·cases hp;exact D'.elim
 ·cases hp;exact D'.elim
theorem gZ {H:List ax} (hH:be S μ w H) {ρ:Operand→D} {ρ':Operand→Value} (hρ:∀x,ao S μ w (ρ x) (ρ' x)) {o:Oper} {d:D} {p:Prop} (hp:fK P H ρ o.op=(d,p)) (D':p) :
  ∃u,(execOp ρ' o).run P w=.ok (.value u) w∧ao S μ w d u:=by
 have hv:∀(s:Sem Value) (u:Value),s.run P w=.ok u w→(do pure (.value (← s)):Sem Next).run P w=.ok (.value u) w:=by
  intro s u h
  simp only[Pm,h,Pk,PF]
 have hO:∀x:Option Operand,pb S μ w (x.map ρ) (x.map ρ'):=by
  intro x
  cases x with
  | none=>trivial
  | some x=>exact hρ x
 unfold fK at hp
 unfold execOp
 generalize ho:o.op=op at *
 cases op<;>(try simp only at hp)<;>(try (simp only[aP,Po]at hp;obtain⟨_,rfl⟩:=hp;exact D'.elim))
 case move x=>cases hp;exact⟨_,rfl,hρ x⟩
 case assign x=>cases hp;exact⟨_,rfl,hρ x⟩
 case pick c a b =>
  unfold Jc at hp
  split at hp
  ·rename_i t hc
   have hb:=fk (hc ▸ hρ c)
   cases t<;>cases hp
   ·exact⟨ρ' b,by simp only[Pm,hb,asBool,PF,Pk];rfl,hρ b⟩
   ·exact⟨ρ' a,by simp only[Pm,hb,asBool,PF,Pk];rfl,hρ a⟩
  ·cases hp;exact D'.elim
 case load t a =>
  obtain⟨u,h1,h2⟩:=qW hH (hρ a) hp D'
  exact⟨u,hv _ _ h1,h2⟩
 case nilCheck x =>
  have hx:=hρ x
  dsimp only
  unfold Lm at hp
  split at hp
  ·rename_i hq
   cases hp
   rw[hq]at hx
   obtain⟨b,hb,e⟩:=mb hx
   rw[e]at hx ⊢
   exact⟨_,rfl,hx⟩
  ·rename_i hq
   cases hp
   rw[hq]at hx
   obtain⟨b,o',e,_⟩:=sH hx
   rw[e]at hx ⊢
   exact⟨_,rfl,hx⟩
  ·rename_i f a b hq
   cases hp
   rw[hq]at hx
   generalize ρ' x=u at *
   cases hx with
   | fn _ _ _ us vs h1 h2 h3 h4=>exact⟨_,rfl,.fn _ _ _ us vs h1 h2 h3 h4⟩
  ·rename_i id hq
   cases hp
   rw[hq]at hx
   generalize ρ' x=u at *
   cases hx with
   | yld _ l h1=>exact⟨_,rfl,.yld _ l h1⟩
  ·cases hp;exact D'.elim
 case binOp op t x y yt =>
  obtain⟨u,h1,h2⟩:=zR x y (hρ x) (hρ y) hp D'
  exact⟨u,hv _ _ h1,h2⟩
 case unOp op t x =>
  obtain⟨u,h1,h2⟩:=Dh (P:=P) (hρ x) hp D'
  exact⟨u,hv _ _ h1,h2⟩
 case convert src dst x =>
  obtain⟨u,h1,h2⟩:=xN (hρ x) hp D'
  exact⟨u,hv _ _ h1,h2⟩
 case makeFunc fn first cap =>
  cases hp
  refine⟨_,hv _ _ rfl,.fn _ _ _ _ _ (by simp) (fun j y u hy hu=>?_) (by simp) (fun j y u hy hu=>?_)⟩
  ·simp only[PE,PU,Qp]at hy hu
   cases hj:first[j]? with
   | none=>rw[hj]at hy;cases hy
   | some x=>rw[hj]at hy hu;simp at hy hu;subst hy hu;exact hρ x
  ·simp only[PE,PU,Qp]at hy hu
   cases hj:cap[j]? with
   | none=>rw[hj]at hy;cases hy
   | some x=>rw[hj]at hy hu;simp at hy hu;subst hy hu;exact hρ x
 case slice t x lo hi mx =>
  obtain⟨u,h1,h2⟩:=wn (hρ x) (hO lo) (hO hi) (hO mx) hp D'
  exact⟨u,hv _ _ h1,h2⟩
 case fieldAddr s x f =>
  obtain⟨u,h1,h2⟩:=p8 (hρ x) hp D'
  exact⟨u,hv _ _ h1,h2⟩
 case field t x f =>
  obtain⟨u,h1,h2⟩:=wj (hρ x) hp D'
  exact⟨u,hv _ _ h1,h2⟩
 case indexAddr t x i =>
  obtain⟨u,h1,h2⟩:=p9 hH (hρ x) (hρ i) hp D'
  exact⟨u,hv _ _ h1,h2⟩
 case index t x i =>
  obtain⟨u,h1,h2⟩:=wk (hρ x) (hρ i) hp D'
  exact⟨u,hv _ _ h1,h2⟩
 case lookup t x ix c =>
  obtain⟨u,h1,h2⟩:=ut hH (hρ x) (hρ ix) hp D'
  exact⟨u,hv _ _ h1,h2⟩
 case extract x i =>
  have hx:=hρ x
  unfold xO at hp
  split at hp
  ·rename_i cs hq
   split at hp
   ·rename_i hi
    cases hp
    rw[hq]at hx
    obtain⟨us,e,h1,h2⟩:=rO hx
    rw[Rm]at hi
    have hu:us[i]?=some us[i]:=PJ (by omega)
    refine⟨us[i],hv _ _ (by rw[e];simp only[Instr.extract,hu];rfl),?_⟩
    rw[bk _ _ hi]
    exact h2 i _ _ (Ph hi) hu
   ·cases hp;exact D'.elim
  ·cases hp;exact D'.elim
 case build t M' =>
  obtain⟨u,h1,h2⟩:=wt (P:=P) hH (Ry:=M'.toList.map fun p=>(p.1,ρ' p.2)) (by simp) (fun j x u hx hu=>by
   simp only[PE,PU]at hx hu
   cases hj:M'[j]? with
   | none=>rw[hj]at hx;cases hx
   | some q=>rw[hj]at hx hu;simp at hx hu;subst hx hu;exact hρ q.2) hp D'
  refine⟨u,hv _ _ ?_,h2⟩
  rw[← h1]
  congr 2
  exact(Q2 (by simp))
 case call c =>
  obtain⟨callee,args,UC⟩:=c
  simp only at hp
  split at hp
  ·rename_i hcal
   split at hp
   ·rename_i x t ha ht
    obtain⟨u,h1,h2⟩:=zS (P:=P) (ty:=o.type) hH (hρ x) hp D'
    refine⟨u,?_,h2⟩
    have ea:args=#[x]:=Q2 (by simpa using ha)
    have et:UC=#[t]:=Q2 (by simpa using ht)
    subst ea et
    simp only[resolve,invoke,builtin,QU,Qe,QJ,Pm,PF,Pk,h1]
   ·cases hp;exact D'.elim
  ·split at hp
   ·rename_i x y ha
    have ea:args=#[x,y]:=Q2 (by simpa using ha)
    subst ea
    unfold MW at hp
    split at hp
    ·rename_i k a k' b S9 Tg
     cases hp
     have e1:=bJ (S9 ▸ hρ x)
     have e2:=bJ (Tg ▸ hρ y)
     refine⟨.int k (Df a b),?_,.v _ _ (.int _ _)⟩
     simp only[resolve,invoke,builtin,QU,Qe,QJ,Pm,PF,Pk,e1,e2,Builtin.min_,List.foldlM_cons,List.foldlM_nil,Builtin.min2]
     rfl
    ·cases hp;exact D'.elim
   ·cases hp;exact D'.elim
  ·split at hp
   ·rename_i x y ha
    have ea:args=#[x,y]:=Q2 (by simpa using ha)
    subst ea
    unfold MW at hp
    split at hp
    ·rename_i k a k' b S9 Tg
     cases hp
     have e1:=bJ (S9 ▸ hρ x)
     have e2:=bJ (Tg ▸ hρ y)
     refine⟨.int k (JO a b),?_,.v _ _ (.int _ _)⟩
     simp only[resolve,invoke,builtin,QU,Qe,QJ,Pm,PF,Pk,e1,e2,Builtin.max_,List.foldlM_cons,List.foldlM_nil,Builtin.max2]
     rfl
    ·cases hp;exact D'.elim
   ·cases hp;exact D'.elim
  ·cases hp;exact D'.elim
end
end Go.Proofs.Ytnlmlkbaflmgcaa
namespace Go.Proofs.Ytnlmlkbaflmgcaa
open Go.RowKit
set_option linter.unusedVariables false
set_option linter.unusedSimpArgs false
def nJ:List (Nat×D)→Nat→D
 | [],_=>.junk
 | (s,d)::r,t=>if Nat.beq s t then d else nJ r t
def qY:List (Nat×D)→Nat→List (Nat×D)
 | [],_=>[]
 | (s,d)::r,t=>if Nat.beq s t then qY r t else (s,d)::qY r t
def uu (env:List (Nat×D)) (t:Nat) (d:D):List (Nat×D):=(t,d)::qY env t
def Ey (g:Nat):D:=match gK.find? (fun p=>Nat.beq p.1 g)with
 | some p=>.iptr p.2 0
 | none=>.junk
def eE (env:List (Nat×D)):Operand→D
 | .tmp t=>nJ env t
 | .const v=>D.ofVal v
 | .func f=>.fn (.func f) [] []
 | .global g=>Ey g
theorem qb:∀{env:List (Nat×D)} {t:Nat},nJ env t=.junk∨(t,nJ env t)∈env
 | [],t=>.inl rfl
 | (s,d)::r,t=>by
  unfold nJ
  cases h:Nat.beq s t
  ·simp only[Qc,QY]
   rcases qb (env:=r) (t:=t)with h | h
   ·exact .inl h
   ·exact .inr (PN _ h)
  ·simp only[Q7]
   rw[PC]at h
   subst h
   exact .inr (PT ..)
theorem fL:∀{env:List (Nat×D)} {t s:Nat} {d:D},(s,d)∈qY env t→(s,d)∈env∧s≠t
 | [],t,s,d,h=>by cases h
 | (s',d')::r,t,s,d,h=>by
  unfold qY at h
  cases hb:Nat.beq s' t
  ·simp only[hb,Qc,QY]at h
   rcases Qf.1 h with h | h
   ·cases h
    refine⟨PT ..,fun e=>?_⟩
    subst e
    rw[Nat.beq_refl]at hb
    cases hb
   ·exact⟨PN _ (fL h).1,(fL h).2⟩
  ·simp only[hb,Q7]at h
   exact⟨PN _ (fL h).1,(fL h).2⟩
def a7 (μ:Nat→Value) (id:Nat) (u:Value):Nat→Value:=fun i=>if i=id then u else μ i
theorem az (μ:Nat→Value) (id:Nat) (u:Value):a7 μ id u id=u:=Pn rfl
theorem aL (μ:Nat→Value) {id i:Nat} (u:Value) (h:i≠id):a7 μ id u i=μ i:=Pj h
theorem wu {a b:Nat} (h:a≠b):(!(Nat.beq a b))=true:=by
 cases hb:Nat.beq a b
 ·rfl
 ·exact absurd (by rwa [PC]at hb) h
def bL (id:Nat):List ax→Bool
 | []=>true
 | B::r=>ax.free id B&&bL id r
theorem cX {id:Nat}:∀{H:List ax} {i:Nat} {B:ax},bL id H=true→H[i]?=some B→ax.free id B=true
 | B'::r,0,B,h,hm=>by
  simp only[bL,Pg]at h
  simp at hm
  subst hm
  exact h.1
 | B'::r,i+1,B,h,hm=>by
  simp only[bL,Pg]at h
  exact cX h.2 (by simpa using hm)
def killD (id:Nat) (d:D):D:=if D.free id d then d else .junk
def kU (id:Nat):List (Nat×D)→List (Nat×D)
 | []=>[]
 | (t,d)::r=>(t,killD id d)::kU id r
def nM (id:Nat):List D→List D
 | []=>[]
 | d::r=>killD id d::nM id r
def ax.kill (id:Nat):ax→ax
 | .dead=>.dead
 | .var T cs=>.var T (nM id cs)
 | .arr E sz enc d l=>.arr E sz enc d l
 | .loop l tm nt env ps assign body state pending=>.loop l tm nt (kU id env) ps assign body state pending
 | .frame tm env=>.frame tm (kU id env)
 | .ro E sz enc d l=>.ro E sz enc d l
 | .mpb t ag enc d l=>.mpb t ag enc d l
 | .arrD E sz n gs cell=>if gs.all (fun g=>!(Nat.beq g id))then .arrD E sz n gs cell else .arrD E sz n (gs.filter (fun g=>!(Nat.beq g id))) (fun i j=>killD id (cell i j))
 | .grp n f=>.grp n f
 | .nest E sz n ce m f=>.nest E sz n ce m f
def cj (id:Nat):List ax→List ax
 | []=>[]
 | B::r=>B.kill id::cj id r
theorem j6 (id:Nat) (d:D):D.free id (killD id d)=true:=by
 unfold killD
 cases h:D.free id d
 ·rfl
 ·simpa using h
theorem j7 (id:Nat):∀env,bO id (kU id env)=true
 | []=>rfl
 | (t,d)::r=>by simp[kU,bO,j6,j7 id r]
theorem sL (id:Nat):∀cs,D.freeL id (nM id cs)=true
 | []=>rfl
 | d::r=>by simp[nM,D.freeL,j6,sL id r]
theorem j8 (id:Nat):∀H,bL id (cj id H)=true
 | []=>rfl
 | B::r=>by
  simp only[cj,bL,j8 id r,Bool.and_true]
  cases B<;>first | (simp[ax.kill,ax.free,sL,j7];done) | skip
  rename_i E sz n gs cell
  simp only[ax.kill]
  split
  ·rename_i h;exact h
  ·simp[ax.free]
theorem fN {id:Nat}:∀{env:List (Nat×D)} {t:Nat} {d:D},(t,d)∈kU id env→∃e,(t,e)∈env∧d=killD id e
 | (s,e)::r,t,d,h=>by
  rcases Qf.1 h with h | h
  ·cases h;exact⟨e,PT ..,rfl⟩
  ·obtain⟨e',h1,h2⟩:=fN h
   exact⟨e',PN _ h1,h2⟩
theorem uT (id:Nat):∀(cs:List D) (j:Nat),(nM id cs)[j]?=(cs[j]?).map (killD id)
 | [],j=>by simp[nM]
 | d::r,0=>by simp[nM]
 | d::r,j+1=>by simp[nM,uT id r j]
theorem pc (id:Nat):∀cs,(nM id cs).length=cs.length
 | []=>rfl
 | d::r=>by simp[nM,pc id r]
theorem fO (id:Nat):∀(H:List ax) (j:Nat),(cj id H)[j]?=(H[j]?).map (ax.kill id)
 | [],j=>by simp[cj]
 | d::r,0=>by simp[cj]
 | d::r,j+1=>by simp[cj,fO id r j]
theorem cb (id:Nat):∀H,(cj id H).length=H.length
 | []=>rfl
 | d::r=>by simp[cj,cb id r]
theorem fP (id:Nat) (B:ax):(B.kill id).live=B.live:=by cases B<;>first | rfl | (simp only[ax.kill];split<;>rfl)
theorem rQ (id:Nat) (B:ax):(B.kill id).isRo=B.isRo:=by cases B<;>first | rfl | (simp only[ax.kill];split<;>rfl)
def St.kill (id:Nat) (st:St):St:=⟨kU id st.env,cj id st.heap⟩
def bD (H:List ax) (id:Nat) (B:ax):List ax:=if Nat.beq id H.length then H++[B]else H.set id B
theorem fQ {H:List ax} {id:Nat} {B:ax} (RE:id≤H.length) (i:Nat):(bD H id B)[i]?=if i=id then some B else H[i]?:=by
 unfold bD
 cases h:Nat.beq id H.length
 ·have Sm:id≠H.length:=fun e=>by rw[e,Nat.beq_refl]at h;cases h
  simp only[Qc,QY]
  by_cases hi:i=id
  ·subst hi
   rw[Pn rfl,PB (by omega)]
  ·rw[Pj hi,PA (fun e=>hi e.symm)]
 ·simp only[Q7]
  rw[PC]at h
  subst h
  by_cases hi:i=H.length
  ·subst hi
   simp
  ·rw[Pj hi]
   by_cases hl:i<H.length
   ·rw[Pw hl]
   ·rw[P2 (by simp;omega),P2 (by omega)]
section
variable {C:li} {S:Nat→Prop} {μ:Nat→Value} {st:St} {a:Act} {w w':World}
theorem a5.eval (h:a5 C S μ st a w) (x:Operand):ao S μ w (eE st.env x) (a.eval x):=by
 cases x with
 | tmp t =>
  rcases qb (env:=st.env) (t:=t)with h1 | h1
  ·simp only[eE]
   rw[h1]
   exact .junk _
  ·exact(h.env _ _ h1).2
 | const v=>exact ao.ofVal S μ w v
 | func f=>exact .fn _ _ _ #[] #[] rfl (fun j y u hy _=>by simp at hy) rfl (fun j y u hy _=>by simp at hy)
 | global g =>
  show ao S μ w (Ey g) _
  unfold Ey
  split
  ·rename_i p hf
   have hm:=List.mem_of_find?_eq_some hf
   have hg:p.1=g:=by have:=List.find?_some hf;rwa [PC]at this
   obtain⟨p1,cs⟩:=p
   simp only at hg hm ⊢
   subst hg
   obtain⟨h1,h2,h3⟩:=h.glob p1 cs hm
   refine ao.iptr cs 0 p1 0 (fun j=>(w.cell? ⟨p1,j,none⟩).getD undef) h1 h2 (fun j y hy=>?_) (fun j y hy=>?_)
   ·obtain⟨u,hu,_⟩:=h3 j y hy
    rw[PX,hu];rfl
   ·obtain⟨u,hu,hr⟩:=h3 j y hy
    rw[hu];exact hr
  ·exact .junk _
theorem a5.put (h:a5 C S μ st a w) {t:Nat} {d:D} {u:Value} (ht:t<C.nt) (hd:ao S μ w d u):a5 C S μ ⟨uu st.env t d,st.heap⟩ (a.put (some t) u) w:=by
 refine⟨h.os,h.tape,h.output,h.size,h.old,h.mono,h.new,h.slt,?_,h.heap,h.may,h.defers,by simp[Act.put,h.tsize],h.ro⟩
 intro s e hm
 rcases Qf.1 hm with hm | hm
 ·cases hm
  refine⟨ht,?_⟩
  have:(a.put (some t) u).tmps.getD t undef=u:=by
   have hts:t<a.tmps.size:=by rw[h.tsize];exact ht
   simp[Act.put,hts]
  rw[this]
  exact hd
 ·obtain⟨h1,h2⟩:=fL hm
  obtain⟨q1,q2⟩:=h.env s e h1
  refine⟨q1,?_⟩
  have:(a.put (some t) u).tmps.getD s undef=a.tmps.getD s undef:=by
   simp only[Act.put,P6]
   rw[Qg (fun e=>h2 e.symm)]
  rw[this]
  exact q2
theorem a5.weak (h:a5 C S μ st a w) {env:List (Nat×D)} (he:∀t d,(t,d)∈env→d=.junk∧(∃e,(t,e)∈st.env)∨(t,d)∈st.env):a5 C S μ ⟨env,st.heap⟩ a w :=
 ⟨h.os,h.tape,h.output,h.size,h.old,h.mono,h.new,h.slt,fun t d hm=>by
  rcases he t d hm with ⟨rfl,e,h1⟩ | h1
  ·exact⟨(h.env t e h1).1,.junk _⟩
  ·exact h.env t d h1,h.heap,h.may,h.defers,h.tsize,h.ro⟩
theorem ao.killD {d:D} {u:Value} {id:Nat} (h:ao S μ w d u):ao S μ w (killD id d) u:=by
 unfold Proofs.Ytnlmlkbaflmgcaa.killD
 split
 ·exact h
 ·exact .junk _
theorem aJ.kill {u:Value} {B:ax} {id:Nat} (h:aJ S μ w u B):aJ S μ w u (B.kill id):=by
 cases B with
 | dead=>trivial
 | arr E sz enc d l=>exact h
 | ro E sz enc d l=>exact h
 | mpb t ag enc d l=>exact h
 | grp n f=>exact h
 | nest E sz n ce m f=>exact h
 | arrD E sz n gs cell =>
  simp only[ax.kill]
  split
  ·exact h
  ·obtain⟨h0,xs,h1,h3⟩:=h
   refine⟨fun i j k hi hj hk=>?_,xs,h1,fun i j hi hj=>?_⟩
   ·show D.free k (if D.free id (cell i j)=true then cell i j else .junk)=true
    split
    ·rename_i hf
     by_cases e:k=id
     ·subst e;exact hf
     ·refine h0 i j k hi hj (PH.2 fun g hg=>?_)
      by_cases e':g=id
      ·subst e'
       exact wu (fun h=>e h.symm)
      ·exact PH.1 hk g (Rd.2 ⟨hg,wu e'⟩)
    ·rfl
   ·obtain⟨z,hz,ho,hr⟩:=h3 i j hi hj
    exact⟨z,hz,ho,hr.killD⟩
 | var T cs =>
  obtain⟨b,vs,rfl,h1,h2,h3⟩:=h
  refine⟨b,vs,rfl,h1,by rw[pc];exact h2,fun j y x hy hx=>?_⟩
  rw[uT]at hy
  cases hc:cs[j]? with
  | none=>rw[hc]at hy;cases hy
  | some e =>
   rw[hc]at hy
   simp only[PY,Pu]at hy
   subst hy
   unfold killD
   split
   ·exact h3 j e x hc hx
   ·exact .junk _
 | loop l tm nt env ps assign body state pending =>
  obtain⟨r,rfl,h1,h2,h3,h4,h5,h6,h7,h7',h8⟩:=h
  refine⟨r,rfl,h1,h2,h3,h4,h5,h6,h7,h7',fun t d hm=>?_⟩
  obtain⟨e,q1,rfl⟩:=fN hm
  obtain⟨q2,q3⟩:=h8 t e q1
  refine⟨q2,?_⟩
  exact q3.killD
 | frame tm env =>
  obtain⟨rfl,h8⟩:=h
  refine⟨rfl,fun t d hm=>?_⟩
  obtain⟨e,q1,rfl⟩:=fN hm
  obtain⟨q2,q3⟩:=h8 t e q1
  refine⟨q2,?_⟩
  exact q3.killD
theorem a5.kill (h:a5 C S μ st a w) (id:Nat):a5 C S μ (st.kill id) a w:=by
 have hg:∀(i:Nat) (A:ax),(cj id st.heap)[i]?=some A→∃B,st.heap[i]?=some B∧A=B.kill id:=by
  intro i A hA
  rw[fO]at hA
  cases hc:st.heap[i]? with
  | none=>rw[hc]at hA;cases hA
  | some B=>rw[hc]at hA;simp at hA;exact⟨B,rfl,hA.symm⟩
 refine⟨h.os,h.tape,h.output,h.size,h.old,h.mono,h.new,h.slt,?_,⟨?_,?_,?_⟩,?_,?_,h.tsize,?_⟩
 ·intro t d hm
  obtain⟨e,h1,rfl⟩:=fN hm
  obtain⟨q1,q2⟩:=h.env t e h1
  refine⟨q1,?_⟩
  unfold killD
  split
  ·exact q2
  ·exact .junk _
 ·intro i A hA
  obtain⟨B,hB,rfl⟩:=hg i A hA
  exact(h.heap.box i B hB).kill
 ·intro i j A B b hA hB la lb
  obtain⟨A',R4,rfl⟩:=hg i A hA
  obtain⟨B',RZ,rfl⟩:=hg j B hB
  rw[fP]at la lb
  exact h.heap.apart i j A' B' b R4 RZ la lb
 ·intro i A b hA la
  obtain⟨A',R4,rfl⟩:=hg i A hA
  rw[fP]at la
  exact h.heap.notS i A' b R4 la
 ·intro i A b hA la
  obtain⟨A',R4,rfl⟩:=hg i A hA
  rw[fP]at la
  exact h.may i A' b R4 la
 ·obtain⟨mk,d1,d2,d3⟩:=h.defers
  refine⟨mk,d1,d2,fun b hb=>?_⟩
  obtain⟨q1,q2,q3,q4⟩:=d3 b hb
  refine⟨q1,q2,q3,fun i A hA hl=>?_⟩
  obtain⟨A',R4,rfl⟩:=hg i A hA
  rw[fP]at hl
  exact q4 i A' R4 hl
 ·intro i A b hA la
  obtain⟨A',R4,rfl⟩:=hg i A hA
  rw[rQ]at la
  exact h.ro i A' b R4 la
theorem a5.upd0 {id:Nat} {B:ax} {row:Option Nat} {u:Value} (h:a5 C S μ st a w) (hg:w.grownBy w' row) (RS:∀k,row=some k→∃A,st.heap[id]?=some A∧A.live=true∧bI (μ id) k)
  (RE:id≤st.heap.length) (G':aJ S (a7 μ id u) w' u B) (Rx:∀b,bI u b→row=some b∨w.heap.size≤b)
  (SV:μ id=u∨(bO id st.env=true∧bL id st.heap=true)) (S4:B.isRo=false:=by rfl):a5 C S (a7 μ id u) ⟨st.env,bD st.heap id B⟩ a w':=by
 have Xf:∀k,row=some k→¬S k:=fun k hk=>by
  obtain⟨A,h1,h2,h3⟩:=RS k hk
  exact h.heap.notS id A k h1 h2 h3
 have hS:∀b,S b→w'.heap[b]?=w.heap[b]?:=fun b hb=>hg.block b (h.slt b hb) (fun e=>Xf b e.symm hb)
 have hμd:∀d:D,(μ id=u∨D.free id d=true)→∀i,d.free i=false→a7 μ id u i=μ i:=by
  intro d hd i hi
  by_cases e:i=id
  ·subst e
   rcases hd with hd | hd
   ·rw[az];exact hd.symm
   ·rw[hd]at hi;cases hi
  ·exact aL _ _ e
 have WL:∀(i:Nat) (A:ax),i≠id→st.heap[i]?=some A→A.live=true→∀b,bI (μ i) b→w'.heap[b]?=w.heap[b]?:=by
  intro i A hi hA hl b hb
  refine hg.block b ((h.heap.box i A hA).lt hl b hb) (fun e=>?_)
  obtain⟨A',h1,h2,h3⟩:=RS b e.symm
  exact hi (h.heap.apart i id A A' b hA h1 hl h2 hb h3)
 refine⟨hg.os.trans h.os,hg.tape.trans h.tape,hg.output.trans h.output,PZ h.size hg.size,?_,h.mono,h.new,fun b hb=>Qi (h.slt b hb) hg.size,?_,⟨?_,?_,?_⟩,?_,?_,h.tsize,?_⟩
 ·intro k hk
  rw[hg.block k (Qi hk h.size) (fun e=>?_)]
  ·exact h.old k hk
  ·obtain⟨A',h1,h2,h3⟩:=RS k e.symm
   have h4:=h.may id A' k h1 h2 h3
   omega
 ·intro t d hm
  obtain⟨q1,q2⟩:=h.env t d hm
  exact⟨q1,q2.stable (fun _ h _=>h) (fun b hb _=>hS b hb) hg.size (hμd d (SV.imp (fun h=>h) fun hf=>dy hf.1 hm))⟩
 ·intro i A hA
  rw[fQ RE]at hA
  by_cases hi:i=id
  ·rw[Pn hi]at hA
   cases hA
   subst hi
   rw[az]
   exact G'
  ·rw[Pj hi]at hA
   rw[aL _ _ hi]
   have key:(∀b,bI (μ i) b→w'.heap[b]?=w.heap[b]?)→aJ S (a7 μ id u) w' (μ i) A:=fun hbo=>by
    refine(h.heap.box i A hA).stable (fun _ h _=>h) (fun b hb _=>hS b hb) hg.size (fun j hj=>?_) hbo
    by_cases e:j=id
    ·subst e
     rcases SV with hf | hf
     ·rw[az];exact hf.symm
     ·rw[cX hf.2 hA]at hj;cases hj
    ·exact aL _ _ e
   rcases A.three with rfl | hl | hl
   ·trivial
   ·exact key (WL i A hi hA hl)
   ·refine key (fun b hb=>hg.block b ((h.heap.box i A hA).ltR hl b hb) (fun e=>?_))
    obtain⟨A',h1,h2,h3⟩:=RS b e.symm
    have h4:=h.may id A' b h1 h2 h3
    have h5:=h.ro i A b hA hl hb
    omega
 ·intro i j A A' b hA R4 la Vx hb R6
  rw[fQ RE]at hA R4
  have key:∀(i j:Nat) (A:ax),i≠id→st.heap[i]?=some A→A.live=true→bI (μ i) b→bI u b→False:=by
   intro i j A hi hA la hb hu
   have RF:=(h.heap.box i A hA).lt la b hb
   rcases Rx b hu with hr | hr
   ·obtain⟨A',h1,h2,h3⟩:=RS b hr
    exact hi (h.heap.apart i id A A' b hA h1 la h2 hb h3)
   ·omega
  by_cases hi:i=id
  ·by_cases hj:j=id
   ·rw[hi,hj]
   ·rw[Pj hj]at R4
    rw[aL _ _ hj]at R6
    rw[hi,az]at hb
    exact(key j i A' hj R4 Vx R6 hb).elim
  ·rw[Pj hi]at hA
   rw[aL _ _ hi]at hb
   by_cases hj:j=id
   ·rw[hj,az]at R6
    exact(key i j A hi hA la hb R6).elim
   ·rw[Pj hj]at R4
    rw[aL _ _ hj]at R6
    exact h.heap.apart i j A A' b hA R4 la Vx hb R6
 ·intro i A b hA la hb hSb
  rw[fQ RE]at hA
  by_cases hi:i=id
  ·rw[hi,az]at hb
   rcases Rx b hb with hr | hr
   ·exact Xf b hr hSb
   ·have:=h.slt b hSb;omega
  ·rw[Pj hi]at hA
   rw[aL _ _ hi]at hb
   exact h.heap.notS i A b hA la hb hSb
 ·intro i A b hA la hb
  rw[fQ RE]at hA
  by_cases hi:i=id
  ·rw[hi,az]at hb
   rcases Rx b hb with hr | hr
   ·obtain⟨A',h1,h2,h3⟩:=RS b hr
    exact h.may id A' b h1 h2 h3
   ·exact PZ h.size hr
  ·rw[Pj hi]at hA
   rw[aL _ _ hi]at hb
   exact h.may i A b hA la hb
 ·obtain⟨mk,d1,d2,d3⟩:=h.defers
  refine⟨mk,d1,d2,fun b hb=>?_⟩
  obtain⟨q1,q2,q3,q4⟩:=d3 b hb
  have RF:b<w.heap.size:=(Px.1 q1).1
  have hnr:some b≠row:=fun e=>by
   obtain⟨A',r1,r2,r3⟩:=RS b e.symm
   exact q4 id A' r1 r2 r3
  refine⟨by rw[hg.block b RF hnr];exact q1,q2,q3,fun i A hA hl VD=>?_⟩
  rw[fQ RE]at hA
  by_cases hi:i=id
  ·rw[hi,az]at VD
   rcases Rx b VD with hr | hr
   ·exact hnr hr.symm
   ·omega
  ·rw[Pj hi]at hA
   rw[aL _ _ hi]at VD
   exact q4 i A hA hl VD
 ·intro i A b hA la hb
  rw[fQ RE]at hA
  by_cases hi:i=id
  ·rw[Pn hi]at hA
   cases hA
   rw[S4]at la
   cases la
  ·rw[Pj hi]at hA
   rw[aL _ _ hi]at hb
   exact h.ro i A b hA la hb
theorem a5.upd {id:Nat} {B:ax} {row:Option Nat} {u:Value} (h:a5 C S μ st a w) (hg:w.grownBy w' row) (RS:∀k,row=some k→∃A,st.heap[id]?=some A∧A.live=true∧bI (μ id) k)
  (RE:id≤st.heap.length) (G':aJ S (a7 μ id u) w' u B) (Rx:∀b,bI u b→row=some b∨w.heap.size≤b)
  (SV:(μ id=u∧(B.isArr=false∨∃A,st.heap[id]?=some A∧A.isArr=true))∨((∀A,st.heap[id]?=some A→A.isArr=true)∧bO id st.env=true∧bL id st.heap=true)) (S4:B.isRo=false:=by rfl):a5 C S (a7 μ id u) ⟨st.env,bD st.heap id B⟩ a w':=h.upd0 hg RS RE G' Rx (SV.imp (fun hf=>hf.1) fun hf=>hf.2) S4
end
end Go.Proofs.Ytnlmlkbaflmgcaa
namespace Go.Proofs.Ytnlmlkbaflmgcaa
open Go.RowKit
set_option linter.unusedVariables false
set_option linter.unusedSimpArgs false
def xD:V→V→Prop
 | .int k a,.int k' b=>if k==k' then a=b else False
 | .bool a,.bool b=>a=b
 | .str a,.str b=>a=b
 | .nilf,.nilf=>True
 | .nsl,.nsl=>True
 | .nsl,.sl _ _ _ l=>l=[]
 | .esl,.esl=>True
 | .esl,.sl _ _ _ l=>l=[]
 | .sl sz enc _ l,.sl RY Rz _ l'=>if Nat.beq sz RY then l.map enc=l'.map Rz else False
 | .sm ag enc _ l,.sm ag' Rz _ l'=>if ag==ag' then l.map (fun p=>(p.1,enc p.2))=l'.map (fun p=>(p.1,Rz p.2))else False
 | .nmp,.nmp=>True
 | .fnv f,.fnv g=>if Nat.beq f g then True else False
 | .nmp,.sm _ _ _ l=>l=[]
 | _,_=>False
def Ez:V→Prop
 | .nsl=>True
 | _=>False
def ry:D→D→Prop
 | .v x,.v y=>xD x y
 | .nils,.v (.sl _ _ _ l)=>l=[]
 | .nils,.v .nsl=>True
 | .v x,.nils=>Ez x
 | .iptr cs I',.iptr W2 off'=>if Nat.beq I' off' then cs=W2 else False
 | _,.junk=>True
 | x,y=>x=y
def Ln:List D→List D→Prop
 | [],[]=>True
 | x::xs,y::ys=>ry x y∧Ln xs ys
 | _,_=>False
def zy:D→D→Prop
 | .agg xs,.agg ys=>Ln xs ys
 | .tup xs,.tup ys=>Ln xs ys
 | x,y=>ry x y
def Ha (H:List ax):D→D→Prop
 | .own id,.v y=>match H[id]? with
  | some (.arr _ sz enc d l)=>xD (.sl sz enc d l) y
  | _=>False
 | x,y=>ry x y
def Lo (H:List ax):List D→List D→Prop
 | [],[]=>True
 | x::xs,y::ys=>Ha H x y∧Lo H xs ys
 | _,_=>False
def Je (H:List ax):D→D→Prop
 | .agg xs,.agg ys=>Lo H xs ys
 | x,y=>Ha H x y
def Lq (H:List ax):List D→List D→Prop
 | [],[]=>True
 | x::xs,y::ys=>Je H x y∧Lq H xs ys
 | _,_=>False
def zU (H:List ax):List D→Option (List V)
 | []=>some []
 | .v x::r=>match zU H r with | some xs=>some (x::xs) | none=>none
 | .nils::r=>match zU H r with | some xs=>some (.nsl::xs) | none=>none
 | .own id::r=>match H[id]? with
  | some (.arr _ sz enc d l)=>(match zU H r with | some xs=>some (.sl sz enc d l::xs) | none=>none)
  | _=>none
 | _=>none
def Lc (H:List ax):D→D→Prop
 | .ptr id i _ I',.iptr cs o=>match H[id]? with
  | some (.var _ bcs)=>(match Nat.beq i 0&&Nat.beq I' o,zU H bcs with | true,some vs=>vs=cs | _,_=>False)
  | _=>False
 | .own id,.v y=>match H[id]? with
  | some (.arrD _ sz n _ cell)=>sz=1∧∃(g m:Nat) (f:Nat→oZ) (E2 Vb:Nat) (β:Type) (S5:β→List V) (d2:β) (l:List (List β)),H[g]?=some (.grp m f)∧n=l.length∧n≤m∧(∀i,i<n→cell i 0=.gr g i∧f i=⟨E2,Vb,β,S5,d2,l.getD i []⟩)∧xD (.sl 1 (fun r=>[V.sl Vb S5 d2 r]) [] l) y
  | _=>Ha H (.own id) (.v y)
 | x,y=>Ha H x y
def Lr (H:List ax):List D→List D→Prop
 | [],[]=>True
 | x::xs,y::ys=>Lc H x y∧Lr H xs ys
 | _,_=>False
def MX (H:List ax):D→D→Prop
 | .agg xs,.agg ys=>Lo H xs ys
 | .fn f a b,.fn f' a' b'=>f=f'∧Lr H a a'∧Lr H b b'
 | x,y=>Lc H x y
def rz (H:List ax):List D→List D→Prop
 | [],[]=>True
 | x::xs,y::ys=>MX H x y∧rz H xs ys
 | _,_=>False
def D.isOwn:D→Bool
 | .own _=>true
 | .ptr _ _ _ _=>true
 | _=>false
def fp:List D→Bool
 | []=>true
 | .own _::_=>false
 | .ptr _ _ _ _::_=>false
 | .agg cs::r=>cs.all (fun c=>!c.isOwn)&&fp r
 | .fn _ a b::r=>a.all (fun c=>!c.isOwn)&&(b.all (fun c=>!c.isOwn)&&fp r)
 | _::r=>fp r
def ax.mem:ax→Bool
 | .arr _ _ _ _ _=>true
 | .var _ _=>true
 | .arrD _ _ _ _ _=>true
 | .grp _ _=>true
 | _=>false
theorem ax.mem_live {B:ax} (h:B.mem=true):B.live=true:=by cases B<;>first | rfl | cases h
theorem ax.arr_mem {B:ax} (h:B.isArr=true):B.mem=true:=by cases B<;>first | rfl | cases h
mutual
def ef:D→Bool
 | .own _=>false
 | .ptr _ _ _ _=>false
 | .agg cs=>ow cs
 | .tup cs=>ow cs
 | .fn _ a b=>ow a&&ow b
 | .yld _=>false
 | .gr _ _=>false
 | _=>true
def ow:List D→Bool
 | []=>true
 | c::cs=>ef c&&ow cs
end
mutual
theorem fS (id:Nat):∀d:D,ef d=true→D.free id d=true
 | .own _,h=>by simp[ef]at h
 | .ptr _ _ _ _,h=>by simp[ef]at h
 | .agg cs,h=>by simp only[ef]at h;simp only[D.free];exact gu id cs h
 | .tup cs,h=>by simp only[ef]at h;simp only[D.free];exact gu id cs h
 | .fn _ a b,h=>by
  simp only[ef,Pg]at h
  simp only[D.free,Pg]
  exact⟨gu id a h.1,gu id b h.2⟩
 | .yld _,h=>by simp[ef]at h
 | .gr _ _,h=>by simp[ef]at h
 | .v _,_=>rfl
 | .nils,_=>rfl
 | .iptr _ _,_=>rfl
 | .capd _,_=>rfl
 | .junk,_=>rfl
theorem gu (id:Nat):∀cs:List D,ow cs=true→D.freeL id cs=true
 | [],_=>rfl
 | c::cs,h=>by
  simp only[ow,Pg]at h
  simp only[D.freeL,Pg]
  exact⟨fS id c h.1,gu id cs h.2⟩
end
def aq (P:Program) (f:FuncId) (q':List D) (H:List ax) (al:Bool) (r:D) (H':List ax):Prop :=
 ∀(S:Nat→Prop) (μ:Nat→Value) (w:World) (us:Array Value),(∀b,S b→b<w.heap.size)→fI S w→be S μ w H→aO S μ w q' us →
  Calls P f us w (fun e w'=>∃(u:Value) (μ':Nat→Value) (S':Nat→Prop),e=.returned u∧w'.os=w.os∧w'.tape=w.tape∧w'.output=w.output∧w.heap.size≤w'.heap.size ∧
   (∀k,k<w.heap.size→(∀(i:Nat) (A:ax),H[i]?=some A→A.live=true→¬bI (μ i) k)→w'.heap[k]?=w.heap[k]?) ∧
   (∀b,S b→S' b)∧(∀b,S' b→S b∨w.heap.size≤b)∧(∀b,S' b→b<w'.heap.size) ∧
   ao (fun b=>S' b∧(al=true∨w.heap.size≤b)) μ' w' r u∧be S' μ' w' H' ∧
   (∀(i:Nat) (A:ax) (b:Nat),H'[i]?=some A→A.live=true→bI (μ' i) b→w.heap.size≤b∨∃(j:Nat) (A':ax),H[j]?=some A'∧A'.live=true∧bI (μ j) b) ∧
   (∀(i:Nat) (A:ax),H[i]?=some A→A.isArr=false→A.live=true→μ' i=μ i))
section
variable {P:Program} {S:Nat→Prop} {μ:Nat→Value} {w:World}
theorem wv {α β:Type _} {f:α→β} {l:List α} {i:Nat} {x:α} (h:l[i]?=some x):(l.map f)[i]?=some (f x):=by rw[PE,h];rfl
theorem dK {α β:Type _} {f:α→β} {l:List α} {i:Nat} {y:β} (h:(l.map f)[i]?=some y):∃x,l[i]?=some x∧f x=y:=by
 rw[PE]at h
 cases hx:l[i]? with
 | none=>rw[hx]at h;cases h
 | some x=>rw[hx]at h;simp at h;exact⟨x,rfl,h⟩
theorem Dj {sz:Nat} {α β:Type} {enc:α→List V} {d:α} {l:List α} {Rz:β→List V} {d':β} {l':List β} {u:Value} (h:dg S w (.sl sz enc d l) u) (he:l.map enc=l'.map Rz) :
  dg S w (.sl sz Rz d' l') u:=by
 have RA:l.length=l'.length:=by have:=congrArg List.length he;simpa using this
 obtain⟨p,c,rfl,h1,h2,h3,h4⟩:=gb h
 refine ou RA (by omega) h2 h3 (fun h0=>?_)
 obtain⟨b,I',us,q1,q2,q3,q4,q5,q6⟩:=h4 (by omega)
 have back:∀(i:Nat) (x:β),l'[i]?=some x→∃y,l[i]?=some y∧enc y=Rz x:=fun i x hx=>dK (by rw[he];exact wv hx)
 refine⟨b,I',us,q1,q2,q3,fun i x hx=>?_,fun i x j y hx hy=>?_,fun i x j y hx hy=>?_⟩
 ·obtain⟨z,hz,e⟩:=back i x hx
  rw[← e];exact q4 i z hz
 ·obtain⟨z,hz,e⟩:=back i x hx
  exact q5 i z j y hz (by rw[e];exact hy)
 ·obtain⟨z,hz,e⟩:=back i x hx
  exact q6 i z j y hz (by rw[e];exact hy)
theorem Dk {ag:Bool} {α β:Type} {enc:α→List V} {Rz:β→List V} {d:α} {d':β} {l:List (ByteArray×α)} {l':List (ByteArray×β)} {u:Value} (h:dg S w (.sm ag enc d l) u) (he:l.map (fun p=>(p.1,enc p.2))=l'.map (fun p=>(p.1,Rz p.2))):dg S w (.sm ag Rz d' l') u:=by
 have RA:l.length=l'.length:=by have:=congrArg List.length he;simpa using this
 have back:∀(i:Nat) (k:ByteArray) (y:β),l'[i]?=some (k,y)→∃x,l[i]?=some (k,x)∧enc x=Rz y:=fun i k y hy=>by
  have h1:(l'.map (fun p=>(p.1,Rz p.2)))[i]?=some (k,Rz y):=by rw[PE,hy];rfl
  rw[← he,PE]at h1
  cases hq:l[i]? with
  | none=>rw[hq]at h1;cases h1
  | some q =>
   rw[hq]at h1
   simp only[PY,Pu,Po]at h1
   exact⟨q.2,by rw[← h1.1],h1.2⟩
 cases h with
 | smn =>
  have:l'=[]:=PL (by rw[← RA];rfl)
  subst this
  exact .smn _ _ _
 | sm _ _ _ _ b clock arr us h1 h2 h3 h4 h5 h6 =>
  refine .sm _ _ _ _ b clock arr us h1 h2 h3 (by rw[h4,RA]) (fun i k y hy=>?_) (fun i k y j z hy hz=>?_)
  ·obtain⟨x,hx,e⟩:=back i k y hy
   rw[← e];exact h5 i k x hx
  ·obtain⟨x,hx,e⟩:=back i k y hy
   exact h6 i k x j z hx (by rw[e];exact hz)
theorem rR {x y:V} {u:Value} (he:xD x y) (h:dg S w x u):dg S w y u:=by
 unfold xD at he
 split at he
 ·split at he
  ·rename_i hk
   rw[beq_iff_eq]at hk
   subst he hk
   exact h
  ·exact he.elim
 ·subst he;exact h
 ·subst he;exact h
 ·exact h
 ·exact h
 ·subst he;cases h;exact .nil _ _ _ _ _ (by simp[maxLen]) (fun _=>rfl)
 ·exact h
 ·subst he;cases h with
  | esl p c hc=>exact .nil _ _ _ _ _ hc (fun h=>by cases h)
 ·split at he
  ·rename_i hs
   rw[PC]at hs
   subst hs
   exact Dj h he
  ·exact he.elim
 ·split at he
  ·rename_i hs
   rw[beq_iff_eq]at hs
   subst hs
   exact Dk h he
  ·exact he.elim
 ·exact h
 ·split at he
  ·rename_i hk
   rw[PC]at hk
   subst hk;exact h
  ·exact he.elim
 ·subst he;cases h;exact .smn _ _ _
 ·exact he.elim
theorem rS {x y:D} {u:Value} (he:ry x y) (h:ao S μ w x u):ao S μ w y u:=by
 unfold ry at he
 split at he
 ·exact .v _ _ (rR he (bn h))
 ·subst he
  cases h
  exact .v _ _ (.nil _ _ _ _ _ (by simp[maxLen]) (fun _=>rfl))
 ·cases h
  exact .v _ _ .nsl
 ·have h:=bn h
  unfold Ez at he
  split at he
  ·cases h;exact .nils
  ·exact he.elim
 ·split at he
  ·rename_i hs
   rw[PC]at hs
   subst he hs
   exact h
  ·exact he.elim
 ·exact .junk _
 ·subst he;exact h
theorem Bf:∀{xs ys:List D} {us:Array Value},Ln xs ys→aO S μ w xs us→aO S μ w ys us
 | xs,ys,us,he,h=>by
  have key:∀(xs ys:List D),Ln xs ys→xs.length=ys.length∧∀(j:Nat) (y:D),ys[j]?=some y→∃x,xs[j]?=some x∧ry x y:=by
   intro xs
   induction xs with
   | nil =>
    intro ys h
    cases ys with
    | nil=>exact⟨rfl,fun j y hy=>by simp at hy⟩
    | cons _ _=>exact h.elim
   | cons x xs ih =>
    intro ys h
    cases ys with
    | nil=>exact h.elim
    | cons y ys =>
     obtain⟨h1,h2⟩:=ih ys h.2
     refine⟨by simp[h1],fun j z hz=>?_⟩
     cases j with
     | zero=>simp at hz;subst hz;exact⟨x,rfl,h.1⟩
     | succ j=>simpa using h2 j z (by simpa using hz)
  obtain⟨h1,h2⟩:=key xs ys he
  exact⟨by rw[← h1];exact h.1,fun j y u hy hu=>by
   obtain⟨x,hx,Ue⟩:=h2 j y hy
   exact rS Ue (h.2 j x u hx hu)⟩
theorem pg {x y:D} {u:Value} (he:zy x y) (h:ao S μ w x u):ao S μ w y u:=by
 unfold zy at he
 split at he
 ·obtain⟨us,rfl,h1,h2⟩:=dH h
  obtain⟨q1,q2⟩:=Bf he ⟨h1,h2⟩
  exact .agg _ _ q1 q2
 ·obtain⟨us,rfl,h1,h2⟩:=rO h
  obtain⟨q1,q2⟩:=Bf he ⟨h1,h2⟩
  exact .tup _ _ q1 q2
 ·exact rS he h
theorem Hj {S':Nat→Prop} {t:TypeId} {ag:Bool} {α:Type} {enc:α→List V} {d:α} {l:List (ByteArray×α)} {u:Value} (h:aJ S μ w u (.mpb t ag enc d l)) (hS:∀b,S b→S' b) (P':∀b,bI u b→S' b):dg S' w (.sm ag enc d l) u:=by
 obtain⟨b,arr,clock,rfl,hb,hl,hh⟩:=h
 have st:∀{y:V} {z:Value},dg S w y z→dg S' w y z:=fun h=>h.stable (fun b hb _=>hS b hb) (fun _ _ _=>rfl) (Pl _)
 refine .sm ag enc d l b clock arr (fun i j=>if ag=true then (match (arr.getD i default).val with | .agg a=>a.getD j undef | _=>undef)else (arr.getD i default).val) (P' b (.inl rfl)) (Px.1 hb).1 hb hl (fun i k x hx=>?_) (fun i k x j y hx hy=>?_)
 ·obtain⟨e,e1,e2,e3,e4⟩:=hh i k x hx
  refine⟨e,e1,e2,?_⟩
  have hg:arr.getD i default=e:=by simp[P6,e1]
  unfold A9
  cases ag
  ·simp only[Qc,QY]
   exact⟨e3 rfl,by rw[hg]⟩
  ·simp only[Q7]
   obtain⟨a,ha,h1,h2⟩:=dH (show ao S μ w (.agg ((enc x).map D.v)) e.val from e4)
   rw[Py]at h1
   refine⟨a,ha,h1,fun j hj=>?_⟩
   rw[hg,ha]
   simp[P6,PJ (show j<a.size by omega)]
 ·obtain⟨e,e1,e2,e3,e4⟩:=hh i k x hx
  have hg:arr.getD i default=e:=by simp[P6,e1]
  cases ag
  ·simp only[Qc,QY]
   rw[hg]
   have T4:=e3 rfl
   have hj:j=0:=by have:=(Pf.1 hy).1;omega
   subst hj
   match hq:enc x,T4,hy with
   | [y'],_,hy =>
    cases hy
    have e4:ao S μ w (fF false (enc x)) e.val:=e4
    rw[hq]at e4
    exact st (bn e4)
  ·simp only[Q7]
   obtain⟨a,ha,h1,h2⟩:=dH (show ao S μ w (.agg ((enc x).map D.v)) e.val from e4)
   rw[Py]at h1
   have hj:=(Pf.1 hy).1
   rw[hg,ha]
   have hu:a[j]?=some (a.getD j undef):=by simp[P6,PJ (show j<a.size by omega)]
   exact st (bn (h2 j (.v y) _ (by rw[PE,hy];rfl) hu))
theorem sM {S':Nat→Prop} {E sz:Nat} {α:Type} {enc:α→List V} {d:α} {l:List α} {u:Value} (h:aJ S μ w u (.arr E sz enc d l)) (hS:∀b,S b→S' b) (P':∀b,bI u b→S' b):dg S' w (.sl sz enc d l) u:=by
 have RF:=h.lt rfl
 obtain⟨p,c,hu,q1,q2,q3,q4⟩:=bN h
 subst hu
 refine ou rfl q1 q2 q3 (fun h0=>?_)
 obtain⟨g,rfl⟩:=q4 h0
 obtain⟨r1,xs,r2,r3⟩:=h
 refine⟨g,0,fun i j=>xs.getD (i*sz+j) undef,rfl,P' g (.inl rfl),RF g (.inl rfl),r1,fun i x j y hx hy=>?_,fun i x j y hx hy=>?_⟩
 ·obtain⟨z,hz,_⟩:=r3 i x j y hx hy
  rw[PX,jC r2 (b:=g) rfl _ _ hz]
  simp[List.getD,hz]
 ·obtain⟨z,hz,hr⟩:=r3 i x j y hx hy
  have:xs.getD (i*sz+j) undef=z:=by simp[List.getD,hz]
  show dg S' w y (xs.getD (i*sz+j) undef)
  rw[this]
  exact hr.stable (fun b hb _=>hS b hb) (fun _ _ _=>rfl) (Pl _)
theorem fq {S':Nat→Prop} {E sz:Nat} {α:Type} {enc:α→List V} {d:α} {l:List α} {u:Value} (h:aJ S μ w u (.arr E sz enc d l)) (hS:∀b,S b→S' b) (P':∀b,bI u b→S' b)
  (R7:∀b,S b→b<w.heap.size):dg S' w (.sl sz enc d l) u:=by
 have RF:=h.lt rfl
 obtain⟨p,c,hu,q1,q2,q3,q4⟩:=bN h
 subst hu
 refine ou rfl q1 q2 q3 (fun h0=>?_)
 obtain⟨g,rfl⟩:=q4 h0
 obtain⟨r1,xs,r2,r3⟩:=h
 refine⟨g,0,fun i j=>xs.getD (i*sz+j) undef,rfl,P' g (.inl rfl),RF g (.inl rfl),r1,fun i x j y hx hy=>?_,fun i x j y hx hy=>?_⟩
 ·obtain⟨z,hz,_⟩:=r3 i x j y hx hy
  rw[PX,jC r2 (b:=g) rfl _ _ hz]
  simp[List.getD,hz]
 ·obtain⟨z,hz,hr⟩:=r3 i x j y hx hy
  have:xs.getD (i*sz+j) undef=z:=by simp[List.getD,hz]
  show dg S' w y (xs.getD (i*sz+j) undef)
  rw[this]
  exact hr.stable (fun b hb _=>hS b hb) (fun _ _ _=>rfl) (Pl _)
theorem mc {H:List ax} {S':Nat→Prop} (hH:be S μ w H) (hS:∀b,S b→S' b) (R7:∀b,S b→b<w.heap.size) {x y:D} (P':(∀(i:Nat) (A:ax) (b:Nat),H[i]?=some A→A.isArr=true→bI (μ i) b→S' b)∨x.isOwn=false) {u:Value} (he:Ha H x y) (h:ao S μ w x u):ao S' μ w y u:=by
 unfold Ha at he
 split at he
 ·rename_i id y
  split at he
  ·rename_i E sz α enc d l hb
   have hu:=bA h
   subst hu
   have ho:∀b,bI (μ id) b→S' b:=fun b R6=>by
    rcases P' with P' | P'
    ·exact P' id _ b hb rfl R6
    ·cases P'
   exact .v _ _ (rR he (fq (hH.box id _ hb) hS ho R7))
  ·exact he.elim
 ·exact rS he (h.stable (fun b hb _=>hS b hb) (fun _ _ _=>rfl) (Pl _) (fun _ _=>rfl))
theorem rT {H:List ax}:∀{xs ys:List D},Lo H xs ys→xs.length=ys.length∧∀(j:Nat) (y:D),ys[j]?=some y→∃x,xs[j]?=some x∧Ha H x y
 | [],[],_=>⟨rfl,fun j y hy=>by simp at hy⟩
 | [],_::_,h=>h.elim
 | _::_,[],h=>h.elim
 | x::xs,y::ys,h=>by
  obtain⟨h1,h2⟩:=rT h.2
  refine⟨by simp[h1],fun j z hz=>?_⟩
  cases j with
  | zero=>simp at hz;subst hz;exact⟨x,rfl,h.1⟩
  | succ j=>simpa using h2 j z (by simpa using hz)
theorem ww {H:List ax}:∀{xs ys:List D},Lq H xs ys→xs.length=ys.length∧∀(j:Nat) (y:D),ys[j]?=some y→∃x,xs[j]?=some x∧Je H x y
 | [],[],_=>⟨rfl,fun j y hy=>by simp at hy⟩
 | [],_::_,h=>h.elim
 | _::_,[],h=>h.elim
 | x::xs,y::ys,h=>by
  obtain⟨h1,h2⟩:=ww h.2
  refine⟨by simp[h1],fun j z hz=>?_⟩
  cases j with
  | zero=>simp at hz;subst hz;exact⟨x,rfl,h.1⟩
  | succ j=>simpa using h2 j z (by simpa using hz)
theorem fT:∀{l:List D},fp l=true→∀(j:Nat) (x:D),l[j]?=some x→x.isOwn=false∧(∀cs,x=.agg cs→∀c∈cs,D.isOwn c=false)∧∀f a b,x=.fn f a b→(∀c∈a,D.isOwn c=false)∧∀c∈b,D.isOwn c=false
 | [],_,j,x,hx=>by simp at hx
 | d::l,h,j,x,hx=>by
  have hl:fp l=true:=by
   cases d<;>simp_all [fp]
  cases j with
  | zero =>
   simp at hx
   subst hx
   refine⟨by cases d<;>first | rfl | (simp[fp]at h),?_,?_⟩
   ·rintro cs rfl c hc
    simp only[fp,Pg,PH]at h
    simpa using h.1 c hc
   ·rintro f a b rfl
    simp only[fp,Pg,PH]at h
    exact⟨fun c hc=>by simpa using h.1 c hc,fun c hc=>by simpa using h.2.1 c hc⟩
  | succ j=>exact fT hl j x (by simpa using hx)
theorem Hk {H:List ax} {S':Nat→Prop} (hH:be S μ w H) (hS:∀b,S b→S' b) (R7:∀b,S b→b<w.heap.size) {ds q':List D}
  (P':(∀(i:Nat) (A:ax) (b:Nat),H[i]?=some A→A.isArr=true→bI (μ i) b→S' b)∨fp ds=true) {us:Array Value} (he:Lq H ds q') (h:aO S μ w ds us):aO S' μ w q' us:=by
 obtain⟨h1,h2⟩:=ww he
 refine⟨by rw[← h1];exact h.1,fun j y u hy hu=>?_⟩
 obtain⟨x,hx,Ue⟩:=h2 j y hy
 have TL:=h.2 j x u hx hu
 unfold Je at Ue
 split at Ue
 ·rename_i xs ys
  obtain⟨vs,rfl,q1,q2⟩:=dH TL
  obtain⟨r1,r2⟩:=rT Ue
  refine .agg _ _ (by rw[← r1];exact q1) (fun k z v hz hv=>?_)
  obtain⟨x',T3,UU⟩:=r2 k z hz
  exact mc hH hS R7 (P'.imp id fun hn=>(fT hn j _ hx).2.1 _ rfl x' (PM T3)) UU (q2 k x' v T3 hv)
 ·exact mc hH hS R7 (P'.imp id fun hn=>(fT hn j _ hx).1) Ue TL
theorem xQ {H:List ax} {S':Nat→Prop} (hH:be S μ w H) (hS:∀b,S b→S' b) (R7:∀b,S b→b<w.heap.size) (P':∀(i:Nat) (A:ax) (b:Nat),H[i]?=some A→A.mem=true→bI (μ i) b→S' b) :
  ∀{cs:List D} {vs:List V},zU H cs=some vs→vs.length=cs.length∧∀(j:Nat) (y:V),vs[j]?=some y→∃x,cs[j]?=some x∧∀u,ao S μ w x u→dg S' w y u
 | [],vs,h=>by cases h;exact⟨rfl,fun j y hy=>by simp at hy⟩
 | c::r,vs,h=>by
  have key:∃y0 ys,vs=y0::ys∧zU H r=some ys∧∀u,ao S μ w c u→dg S' w y0 u:=by
   unfold zU at h
   split at h
   ·rename_i he
    cases he
   ·rename_i x r' he
    cases he
    split at h
    ·rename_i xs hxs
     cases h
     exact⟨_,_,rfl,hxs,fun u hu=>(bn hu).stable (fun b hb _=>hS b hb) (fun _ _ _=>rfl) (Pl _)⟩
    ·cases h
   ·rename_i r' he
    cases he
    split at h
    ·rename_i xs hxs
     cases h
     exact⟨_,_,rfl,hxs,fun u hu=>by cases hu;exact .nsl⟩
    ·cases h
   ·rename_i id r' he
    cases he
    split at h
    ·rename_i E sz α enc d l hb
     split at h
     ·rename_i xs hxs
      cases h
      exact⟨_,_,rfl,hxs,fun u hu=>by rw[bA hu];exact fq (hH.box id _ hb) hS (fun b R6=>P' id _ b hb rfl R6) R7⟩
     ·cases h
    ·cases h
   ·cases h
  obtain⟨y0,ys,rfl,h1,h2⟩:=key
  obtain⟨q1,q2⟩:=xQ hH hS R7 P' h1
  refine⟨by simp[q1],fun j y hy=>?_⟩
  cases j with
  | zero=>simp at hy;subst hy;exact⟨c,rfl,h2⟩
  | succ j=>simpa using q2 j y (by simpa using hy)
theorem wx {H:List ax} {S':Nat→Prop} (hH:be S μ w H) (hS:∀b,S b→S' b) (R7:∀b,S b→b<w.heap.size) {x y:D} (P':(∀(i:Nat) (A:ax) (b:Nat),H[i]?=some A→A.mem=true→bI (μ i) b→S' b)∨x.isOwn=false) {u:Value} (he:Lc H x y) (h:ao S μ w x u):ao S' μ w y u:=by
 unfold Lc at he
 split at he
 ·rename_i id i sz I' cs o
  split at he
  ·rename_i T bcs hb
   have SX:∀(i:Nat) (A:ax) (b:Nat),H[i]?=some A→A.mem=true→bI (μ i) b→S' b:=by
    rcases P' with P' | P'
    ·exact P'
    ·cases P'
   split at he
   ·rename_i vs hc hv
    subst he
    simp only[Pg,PC]at hc
    obtain⟨rfl,rfl⟩:=hc
    obtain⟨b,SU,rfl⟩:=mb h
    obtain⟨b',us,hu,h1,h2,h3⟩:=hH.box id _ hb
    rw[hu]at SU
    simp[bI,aM]at SU
    subst SU
    obtain⟨q1,q2⟩:=xQ hH hS R7 SX hv
    have RF:b'<w.heap.size:=(Px.1 h1).1
    have:=ao.iptr (S:=S') (μ:=μ) (w:=w) vs I' b' 0 (fun j=>us.getD j undef) (SX id _ b' hb rfl (by rw[hu];exact .inl rfl)) RF (fun j y hy=>?_) (fun j y hy=>?_)
    ·simpa using this
    ·have hj:j<us.size:=by rw[h2,← q1];exact(Pf.1 hy).1
     unfold World.cell?
     simp only[PX,h1]
     simp[Array.getD,hj]
    ·obtain⟨x,hx,hr⟩:=q2 j y hy
     have hj:j<us.size:=by rw[h2,← q1];exact(Pf.1 hy).1
     have SN:us[j]?=some (us.getD j undef):=by simp[Array.getD,hj]
     exact hr _ (h3 j x _ hx SN)
   ·exact he.elim
  ·exact he.elim
 ·rename_i id y
  split at he
  ·rename_i E sz n gs cell hb
   obtain⟨rfl,g,m,f,E2,Vb,β,S5,d2,l,hg,rfl,SR,Sq,hy⟩:=he
   have SX:∀(i:Nat) (A:ax) (b:Nat),H[i]?=some A→A.mem=true→bI (μ i) b→S' b:=by
    rcases P' with P' | P'
    ·exact P'
    ·cases P'
   have hu:=bA h
   subst hu
   obtain⟨r0,xs,r1,r2⟩:=hH.box id _ hb
   obtain⟨us,hgu,RB,RS,_⟩:=hH.box g _ hg
   have hB:aJ S' μ w (μ id) (.arr E 1 (fun r=>[V.sl Vb S5 d2 r]) [] l):=by
    refine⟨fun i x _=>rfl,xs,r1,fun i x j v hx hv=>?_⟩
    have hi:i<l.length:=(Pf.1 hx).1
    have hj:j=0:=by
     have:=(Pf.1 hv).1
     simp at this
     omega
    subst hj
    simp only[List.getElem?_cons_zero,Pu]at hv
    subst hv
    obtain⟨z,hz,_,hd⟩:=r2 i 0 hi (by omega)
    rw[(Sq i hi).1]at hd
    refine⟨z,hz,?_⟩
    cases hd with
    | gr _ _ SW _ h1 h2 h3 =>
     rw[hgu]at h1
     cases h1
     have hrr:=(RS i z h2).2
     rw[(Sq i hi).2,show l.getD i []=x by rw[bk _ _ hi];exact(Pf.1 hx).2]at hrr
     exact sM (μ:=μ) (E:=E2) hrr hS (fun b R6=>SX g _ b hg rfl (by
      rw[hgu]
      exact .inr ⟨us,rfl,i,z,h2,R6.bl h3⟩))
   exact .v _ _ (rR hy (sM hB (fun _ h=>h) (fun b R6=>SX id _ b hb rfl R6)))
  ·exact mc hH hS R7 (P'.imp (fun hn i A b h1 h2 h3=>hn i A b h1 (ax.arr_mem h2) h3) (fun z=>z)) he h
 ·exact mc hH hS R7 (P'.imp (fun hn i A b h1 h2 h3=>hn i A b h1 (ax.arr_mem h2) h3) id) he h
theorem wy {H:List ax}:∀{xs ys:List D},Lr H xs ys→xs.length=ys.length∧∀(j:Nat) (y:D),ys[j]?=some y→∃x,xs[j]?=some x∧Lc H x y
 | [],[],_=>⟨rfl,fun j y hy=>by simp at hy⟩
 | [],_::_,h=>h.elim
 | _::_,[],h=>h.elim
 | x::xs,y::ys,h=>by
  obtain⟨h1,h2⟩:=wy h.2
  refine⟨by simp[h1],fun j z hz=>?_⟩
  cases j with
  | zero=>simp at hz;subst hz;exact⟨x,rfl,h.1⟩
  | succ j=>simpa using h2 j z (by simpa using hz)
theorem Bg {H:List ax}:∀{xs ys:List D},rz H xs ys→xs.length=ys.length∧∀(j:Nat) (y:D),ys[j]?=some y→∃x,xs[j]?=some x∧MX H x y
 | [],[],_=>⟨rfl,fun j y hy=>by simp at hy⟩
 | [],_::_,h=>h.elim
 | _::_,[],h=>h.elim
 | x::xs,y::ys,h=>by
  obtain⟨h1,h2⟩:=Bg h.2
  refine⟨by simp[h1],fun j z hz=>?_⟩
  cases j with
  | zero=>simp at hz;subst hz;exact⟨x,rfl,h.1⟩
  | succ j=>simpa using h2 j z (by simpa using hz)
theorem j9 {H:List ax} {S':Nat→Prop} (hH:be S μ w H) (hS:∀b,S b→S' b) (R7:∀b,S b→b<w.heap.size) {ds q':List D}
  (P':(∀(i:Nat) (A:ax) (b:Nat),H[i]?=some A→A.mem=true→bI (μ i) b→S' b)∨fp ds=true) {us:Array Value} (he:rz H ds q') (h:aO S μ w ds us):aO S' μ w q' us:=by
 obtain⟨h1,h2⟩:=Bg he
 refine⟨by rw[← h1];exact h.1,fun j y u hy hu=>?_⟩
 obtain⟨x,hx,Ue⟩:=h2 j y hy
 have TL:=h.2 j x u hx hu
 unfold MX at Ue
 split at Ue
 ·rename_i xs ys
  obtain⟨vs,rfl,q1,q2⟩:=dH TL
  obtain⟨r1,r2⟩:=rT Ue
  refine .agg _ _ (by rw[← r1];exact q1) (fun k z v hz hv=>?_)
  obtain⟨x',T3,UU⟩:=r2 k z hz
  refine mc hH hS R7 ?_ UU (q2 k x' v T3 hv)
  rcases P' with P' | hn
  ·exact .inl (fun i A b h1 h2 h3=>P' i A b h1 (ax.arr_mem h2) h3)
  ·exact .inr ((fT hn j _ hx).2.1 _ rfl x' (PM T3))
 ·rename_i f a b f' a' b'
  obtain⟨rfl,ha,hb⟩:=Ue
  obtain⟨a1,a2⟩:=wy ha
  obtain⟨b1,b2⟩:=wy hb
  cases TL with
  | fn _ _ _ us vs q1 q2 q3 q4 =>
   refine .fn _ _ _ us vs (by rw[← a1];exact q1) (fun k z v hz hv=>?_) (by rw[← b1];exact q3) (fun k z v hz hv=>?_)
   ·obtain⟨x',T3,UU⟩:=a2 k z hz
    exact wx hH hS R7 (P'.imp id fun hn=>((fT hn j _ hx).2.2 _ _ _ rfl).1 x' (PM T3)) UU (q2 k x' v T3 hv)
   ·obtain⟨x',T3,UU⟩:=b2 k z hz
    exact wx hH hS R7 (P'.imp id fun hn=>((fT hn j _ hx).2.2 _ _ _ rfl).2 x' (PM T3)) UU (q4 k x' v T3 hv)
 ·exact wx hH hS R7 (P'.imp id fun hn=>(fT hn j _ hx).1) Ue TL
end
section
variable {C:li} {S:Nat→Prop} {μ:Nat→Value} {st:St} {a:Act} {w w':World}
theorem a5.grow (h:a5 C S μ st a w) {S':Nat→Prop} (h1:w'.os=w.os) (h2:w'.tape=w.tape) (h3:w'.output=w.output) (h4:w.heap.size≤w'.heap.size) (h5:∀k,k<w.heap.size→w'.heap[k]?=w.heap[k]?)
  (h6:∀b,S b→S' b) (h7:∀b,S' b→S b∨w.heap.size≤b) (h8:∀b,S' b→b<w'.heap.size):a5 C S' μ st a w':=by
 have Rx:∀(i:Nat) (A:ax),st.heap[i]?=some A→A.live=true→∀b,bI (μ i) b→w'.heap[b]?=w.heap[b]?:=fun i A hA hl b hb=>h5 b ((h.heap.box i A hA).lt hl b hb)
 refine⟨h1.trans h.os,h2.trans h.tape,h3.trans h.output,PZ h.size h4,fun k hk=>by rw[h5 k (Qi hk h.size)];exact h.old k hk,fun b hb=>h6 b (h.mono b hb),?_,h8,?_,⟨?_,h.heap.apart,?_⟩,h.may,?_,h.tsize,h.ro⟩
 ·intro b hb
  rcases h7 b hb with hb | hb
  ·exact h.new b hb
  ·exact .inr (PZ h.size hb)
 ·intro t d hm
  obtain⟨q1,q2⟩:=h.env t d hm
  exact⟨q1,q2.stable (fun b hb _=>h6 b hb) (fun b hb hl=>h5 b hl) h4 (fun _ _=>rfl)⟩
 ·intro i A hA
  rcases A.three with rfl | hl | hl
  ·trivial
  ·exact(h.heap.box i A hA).stable (fun b hb _=>h6 b hb) (fun b hb hl=>h5 b hl) h4 (fun _ _=>rfl) (Rx i A hA hl)
  ·exact(h.heap.box i A hA).stable (fun b hb _=>h6 b hb) (fun b hb hl=>h5 b hl) h4 (fun _ _=>rfl) (fun b hb=>h5 b ((h.heap.box i A hA).ltR hl b hb))
 ·intro i A b hA hl hb hS
  rcases h7 b hS with hS | hS
  ·exact h.heap.notS i A b hA hl hb hS
  ·have:=(h.heap.box i A hA).lt hl b hb
   omega
 ·obtain⟨mk,d1,d2,d3⟩:=h.defers
  refine⟨mk,d1,d2,fun b hb=>?_⟩
  obtain⟨q1,q2,q3,q4⟩:=d3 b hb
  have RF:b<w.heap.size:=(Px.1 q1).1
  exact⟨by rw[h5 b RF];exact q1,q2,fun R6=>(h7 b R6).elim q3 (fun h=>by omega),q4⟩
theorem a5.callCore (h:a5 C S μ st a w) {f:FuncId} {q':List D} {al:Bool} {r:D} {us:Array Value} (hc:aq C.P f q' [] al r []) {S1:Nat→Prop} (h1:∀b,S b→S1 b) (h2:∀b,S1 b→b<w.heap.size)
  (h3:al=true→∀b,S1 b→S b) (RU:aO S1 μ w q' us) (hr:ef r=true) {K:Value→World→Prop} (hK:∀S' u w',a5 C S' μ st a w'→ao S' μ w' r u→K u w') :
  Calls C.P f us w (fun e w'=>∃u,e=.returned u∧K u w'):=by
 have slt:=h.slt
 refine(hc S1 μ w us h2 (h.glob.stable (fun b hb _=>h1 b hb) (fun _ _ _=>rfl) (Pl _)) ⟨fun id B hB=>by simp at hB,fun i j A B b hA=>by simp at hA,fun i A b hA=>by simp at hA⟩ RU).mono ?_
 rintro e w' ⟨u,μ',S',rfl,q1,q2,q3,q4,q5,q6,q7,q8,q9,_⟩
 refine⟨u,rfl,hK (fun b=>S b∨(S' b∧w.heap.size≤b)) u w' (h.grow q1 q2 q3 q4 (fun k hk=>q5 k hk (fun i A hA=>by simp at hA)) (fun b hb=>.inl hb) ?_ ?_) ?_⟩
 ·rintro b (hb | ⟨_,hb⟩)
  ·exact .inl hb
  ·exact .inr hb
 ·rintro b (hb | ⟨hb,_⟩)
  ·exact Qi (slt b hb) q4
  ·exact q8 b hb
 ·refine q9.stable ?_ (fun _ _ _=>rfl) (Pl _) (fun id RE=>by rw[fS id r hr]at RE;cases RE)
  rintro b ⟨hb,SD⟩ _
  rcases q7 b hb with Wx | Wx
  ·rcases SD with SD | SD
   ·exact .inl (h3 SD b Wx)
   ·exact .inr ⟨hb,SD⟩
  ·exact .inr ⟨hb,Wx⟩
def oz (P:Program) (g:FuncId) (H:List ax) (ds:List D) (q':Option (List D)) (al:Bool) (r:D):Prop :=
 match q' with
 | none=>aq P g ds [] al r []
 | some q'=>rz H ds q'∧aq P g q' [] al r []
theorem a5.callPure (h:a5 C S μ st a w) {f:FuncId} {ds:List D} {q':Option (List D)} {al:Bool} {r:D} {us:Array Value} (hc:oz C.P f st.heap ds q' al r) (RU:aO S μ w ds us) (Sb:al=false∨fp ds=true)
  (hr:ef r=true) {K:Value→World→Prop} (hK:∀S' u w',a5 C S' μ st a w'→ao S' μ w' r u→K u w') :
  Calls C.P f us w (fun e w'=>∃u,e=.returned u∧K u w'):=by
 cases q' with
 | none=>exact h.callCore hc (fun _ h=>h) h.slt (fun _ _ h=>h) RU hr hK
 | some q' =>
  obtain⟨TA,hc⟩:=hc
  have slt:=h.slt
  have hSc:∀b,(S b∨(al=false∧∃(i:Nat) (A:ax),st.heap[i]?=some A∧A.mem=true∧bI (μ i) b))→b<w.heap.size:=by
   rintro b (hb | ⟨_,i,A,hA,hl,hb⟩)
   ·exact slt b hb
   ·exact(h.heap.box i A hA).lt (ax.mem_live hl) b hb
  refine h.callCore hc (S1:=fun b=>S b∨(al=false∧∃(i:Nat) (A:ax),st.heap[i]?=some A∧A.mem=true∧bI (μ i) b)) (fun b hb=>.inl hb) hSc ?_ ?_ hr hK
  ·rintro Sb b (hb | ⟨h0,_⟩)
   ·exact hb
   ·rw[Sb]at h0;cases h0
  ·refine j9 h.heap (fun b hb=>.inl hb) slt ?_ TA RU
   rcases Sb with Sb | Sb
   ·exact .inl (fun i A b hA hl hb=>.inr ⟨Sb,i,A,hA,hl,hb⟩)
   ·exact .inr Sb
def Ls (id:Nat):D→D→Prop
 | .own i,.own j=>i=id∧j=0
 | .own _,.junk=>True
 | .own _,_=>False
 | x,y=>ef y=true∧ry x y
def M5 (id:Nat):List D→List D→Prop
 | [],[]=>True
 | x::xs,y::ys=>Ls id x y∧M5 id xs ys
 | _,_=>False
def M6 (id:Nat):D→D→Prop
 | .agg xs,.agg ys=>M5 id xs ys
 | x,y=>Ls id x y
def MY (id:Nat):List D→List D→Prop
 | [],[]=>True
 | x::xs,y::ys=>M6 id x y∧MY id xs ys
 | _,_=>False
theorem Bh {S:Nat→Prop} {μ:Nat→Value} {w:World} {id:Nat} {x y:D} {u:Value} (h:Ls id x y) (hx:ao S μ w x u):ao S (fun _=>μ id) w y u:=by
 unfold Ls at h
 split at h
 ·obtain⟨rfl,rfl⟩:=h
  cases hx
  exact ao.own (μ:=fun _=>μ _) 0
 ·exact .junk _
 ·exact h.elim
 ·exact(rS h.2 hx).stable (fun _ h _=>h) (fun _ _ _=>rfl) (Pl _) (fun i hi=>by rw[fS i _ h.1]at hi;cases hi)
theorem Bi {id:Nat}:∀{xs ys:List D},M5 id xs ys→xs.length=ys.length∧∀(j:Nat) (y:D),ys[j]?=some y→∃x,xs[j]?=some x∧Ls id x y
 | [],[],_=>⟨rfl,fun j y hy=>by simp at hy⟩
 | [],_::_,h=>h.elim
 | _::_,[],h=>h.elim
 | x::xs,y::ys,h=>by
  obtain⟨h1,h2⟩:=Bi h.2
  refine⟨by simp[h1],fun j z hz=>?_⟩
  cases j with
  | zero=>simp at hz;subst hz;exact⟨x,rfl,h.1⟩
  | succ j=>simpa using h2 j z (by simpa using hz)
theorem Bj {id:Nat}:∀{xs ys:List D},MY id xs ys→xs.length=ys.length∧∀(j:Nat) (y:D),ys[j]?=some y→∃x,xs[j]?=some x∧M6 id x y
 | [],[],_=>⟨rfl,fun j y hy=>by simp at hy⟩
 | [],_::_,h=>h.elim
 | _::_,[],h=>h.elim
 | x::xs,y::ys,h=>by
  obtain⟨h1,h2⟩:=Bj h.2
  refine⟨by simp[h1],fun j z hz=>?_⟩
  cases j with
  | zero=>simp at hz;subst hz;exact⟨x,rfl,h.1⟩
  | succ j=>simpa using h2 j z (by simpa using hz)
theorem Bk {S:Nat→Prop} {μ:Nat→Value} {w:World} {id:Nat} {ds q':List D} {us:Array Value} (he:MY id ds q') (h:aO S μ w ds us):aO S (fun _=>μ id) w q' us:=by
 obtain⟨h1,h2⟩:=Bj he
 refine⟨by rw[← h1];exact h.1,fun j y u hy hu=>?_⟩
 obtain⟨x,hx,Ue⟩:=h2 j y hy
 have TL:=h.2 j x u hx hu
 unfold M6 at Ue
 split at Ue
 ·obtain⟨vs,rfl,q1,q2⟩:=dH TL
  obtain⟨r1,r2⟩:=Bi Ue
  refine .agg _ _ (by rw[← r1];exact q1) (fun k z v hz hv=>?_)
  obtain⟨x',T3,UU⟩:=r2 k z hz
  exact Bh UU (q2 k x' v T3 hv)
 ·exact Bh Ue TL
def EA:Option ax→Option ax
 | some (.arr E sz enc d l)=>some (.ro E sz enc d l)
 | some (.ro E sz enc d l)=>some (.ro E sz enc d l)
 | _=>none
theorem uU {S:Nat→Prop} {μ μ':Nat→Value} {w:World} {u:Value} {A B:ax} (h:EA (some A)=some B) (hA:aJ S μ w u A):B.isRo=true∧aJ S μ' w u B:=by
 unfold EA at h
 split at h
 ·rename_i e;cases e;cases h;exact⟨rfl,hA⟩
 ·rename_i e;cases e;cases h;exact⟨rfl,hA⟩
 ·cases h
def ka (P:Program) (g:FuncId) (H:List ax) (ds:List D) (id:Nat) (q':List D) (r:D):Prop :=
 match EA H[id]? with
 | some B=>MY id ds q'∧aq P g q' [B] true r []
 | none=>False
theorem Bl {S:Nat→Prop} {μ:Nat→Value} {w:World} {B:ax} (hr:B.isRo=true) (h:aJ S μ w (μ 0) B):be S μ w [B]:=by
 have hl:B.live=false:=by cases B<;>first | rfl | cases hr
 have one:∀(i:Nat) (A:ax),[B][i]?=some A→i=0∧A=B:=fun i A hA=>by
  match i with
  | 0=>simp at hA;exact⟨rfl,hA.symm⟩
  | i+1=>simp at hA
 refine⟨fun i A hA=>?_,fun i j A A' b hA _ la=>?_,fun i A b hA la=>?_⟩
 ·obtain⟨rfl,rfl⟩:=one i A hA;exact h
 ·rw[(one i A hA).2,hl]at la;cases la
 ·rw[(one i A hA).2,hl]at la;cases la
theorem a5.callR (h:a5 C S μ st a w) {f:FuncId} {ds:List D} {id:Nat} {q':List D} {r:D} {us:Array Value} (hc:ka C.P f st.heap ds id q' r) (RU:aO S μ w ds us)
  (hr:ef r=true) {K:Value→World→Prop} (hK:∀S' u w',a5 C S' μ st a w'→ao S' μ w' r u→K u w') :
  Calls C.P f us w (fun e w'=>∃u,e=.returned u∧K u w'):=by
 unfold ka at hc
 split at hc
 ·rename_i B hB
  obtain⟨hra,hc⟩:=hc
  cases VB:st.heap[id]? with
  | none=>rw[VB]at hB;cases hB
  | some A =>
   rw[VB]at hB
   obtain⟨S4,G'⟩:=uU (μ':=fun _=>μ id) hB (h.heap.box id A VB)
   have hl:B.live=false:=by cases B<;>first | rfl | cases S4
   have slt:=h.slt
   refine(hc S (fun _=>μ id) w us slt h.glob (Bl S4 G') (Bk hra RU)).mono ?_
   rintro e w' ⟨u,μ',S',rfl,q1,q2,q3,q4,q5,q6,q7,q8,q9,_⟩
   have nolive:∀(k i:Nat) (A:ax),[B][i]?=some A→A.live=true→¬bI ((fun _=>μ id) i) k:=fun k i A hA la=>by
    match i with
    | 0=>simp at hA;rw[← hA,hl]at la;cases la
    | i+1=>simp at hA
   refine⟨u,rfl,hK S' u w' (h.grow q1 q2 q3 q4 (fun k hk=>q5 k hk (nolive k)) q6 q7 q8) ?_⟩
   exact q9.stable (fun b hb _=>hb.1) (fun _ _ _=>rfl) (Pl _) (fun id RE=>by rw[fS id r hr]at RE;cases RE)
 ·exact hc.elim
end
end Go.Proofs.Ytnlmlkbaflmgcaa
namespace Go.Proofs.Ytnlmlkbaflmgcaa
open Go.RowKit
set_option linter.unusedVariables false
set_option linter.unusedSimpArgs false
inductive Fz:Type 1
 | sl (x:V)
 | vr (cs:List V)
 | gs (f:Nat→V)
def Fz.own:Fz→D
 | .sl x=>.v x
 | .vr _=>.junk
 | .gs _=>.junk
def Fz.gr:Fz→Nat→D
 | .gs f,r=>.v (f r)
 | _,_=>.junk
def Fz.ptr:Fz→Nat→Nat→D
 | .sl _,_,_=>.junk
 | .gs _,_,_=>.junk
 | .vr cs,k,I'=>if Nat.beq k 0 then .iptr cs I' else .junk
mutual
def eF (id:Nat) (x:Fz):D→D
 | .own i=>if Nat.beq i id then x.own else .own i
 | .agg cs=>.agg (nq id x cs)
 | .tup cs=>.tup (nq id x cs)
 | .ptr i k sz I'=>if Nat.beq i id then x.ptr k I' else .ptr i k sz I'
 | .fn f a b=>.fn f (nq id x a) (nq id x b)
 | .v y=>.v y
 | .nils=>.nils
 | .iptr cs I'=>.iptr cs I'
 | .yld i=>.yld i
 | .capd y=>.capd y
 | .gr i r=>if Nat.beq i id then x.gr r else .gr i r
 | .junk=>.junk
def nq (id:Nat) (x:Fz):List D→List D
 | []=>[]
 | d::r=>eF id x d::nq id x r
end
def ns (id:Nat) (x:Fz):List (Nat×D)→List (Nat×D)
 | []=>[]
 | (t,d)::r=>(t,eF id x d)::ns id x r
def oA (id:Nat) (x:Fz):ax→ax
 | .var T cs=>.var T (nq id x cs)
 | .loop l tm nt env ps q' bd s p=>.loop l tm nt (ns id x env) ps q' bd s p
 | .frame tm env=>.frame tm (ns id x env)
 | .ro E sz enc d l=>.ro E sz enc d l
 | .dead=>.dead
 | .arr E sz enc d l=>.arr E sz enc d l
 | .mpb t ag enc d l=>.mpb t ag enc d l
 | .arrD E sz n gs cell=>if gs.all (fun g=>!(Nat.beq g id))then .arrD E sz n gs cell else .arrD E sz n gs (fun i j=>eF id x (cell i j))
 | .grp n f=>.grp n f
 | .nest E sz n ce m f=>.nest E sz n ce m f
def fc (id:Nat) (x:Fz):List ax→List ax
 | []=>[]
 | B::r=>oA id x B::fc id x r
def oB:List D→Option (List V)
 | []=>some []
 | .v x::r=>match oB r with
  | some vs=>some (x::vs)
  | none=>none
 | _::_=>none
theorem Bm:∀{cs:List D} {vs:List V},oB cs=some vs→cs=vs.map D.v
 | [],vs,h=>by simp[oB]at h;subst h;rfl
 | .v x::r,vs,h=>by
  unfold oB at h
  split at h
  ·rename_i vs' h'
   cases h
   rw[Bm h'];rfl
  ·cases h
 | .nils::_,_,h=>by simp[oB]at h
 | .own _::_,_,h=>by simp[oB]at h
 | .ptr _ _ _ _::_,_,h=>by simp[oB]at h
 | .iptr _ _::_,_,h=>by simp[oB]at h
 | .agg _::_,_,h=>by simp[oB]at h
 | .tup _::_,_,h=>by simp[oB]at h
 | .fn _ _ _::_,_,h=>by simp[oB]at h
 | .yld _::_,_,h=>by simp[oB]at h
 | .capd _::_,_,h=>by simp[oB]at h
 | .junk::_,_,h=>by simp[oB]at h
def md (id:Nat) (st:St):Option St :=
 match st.heap[id]? with
 | some (.arr _ sz enc d l)=>some ⟨ns id (.sl (.sl sz enc d l)) st.env,(fc id (.sl (.sl sz enc d l)) st.heap).set id .dead⟩
 | some (.var _ cs)=>match oB cs with
  | some vs=>some ⟨ns id (.vr vs) st.env,(fc id (.vr vs) st.heap).set id .dead⟩
  | none=>none
 | some (.mpb _ ag enc d l)=>some ⟨ns id (.sl (.sm ag enc d l)) st.env,(fc id (.sl (.sm ag enc d l)) st.heap).set id .dead⟩
 | some (.grp _ f)=>some ⟨ns id (.gs fun r=>.sl (f r).sz (f r).enc (f r).d (f r).l) st.env,(fc id (.gs fun r=>.sl (f r).sz (f r).enc (f r).d (f r).l) st.heap).set id .dead⟩
 | _=>none
section
variable {P:Program} {S S':Nat→Prop} {μ:Nat→Value} {w:World} {id:Nat} {x:Fz}
def JP (S':Nat→Prop) (μ:Nat→Value) (w:World) (id:Nat):Fz→Prop
 | .sl x=>dg S' w x (μ id)
 | .gs f=>∀(us:Array Value),μ id=.tuple us→∀(r:Nat) (u:Value),us[r]?=some u→dg S' w (f r) u
 | .vr cs=>∀(b I':Nat),aM (μ id)=some b→ao S' μ w (.iptr cs I') (.pointer (some ⟨b,I',none⟩))
theorem jD:∀(cs:List D) (j:Nat),(nq id x cs)[j]?=(cs[j]?).map (eF id x)
 | [],j=>by simp[nq]
 | d::r,0=>by simp[nq]
 | d::r,j+1=>by simp[nq,jD r j]
theorem eW:∀(cs:List D),(nq id x cs).length=cs.length
 | []=>rfl
 | d::r=>by simp[nq,eW r]
theorem jE:∀(H:List ax) (j:Nat),(fc id x H)[j]?=(H[j]?).map (oA id x)
 | [],j=>by simp[fc]
 | d::r,0=>by simp[fc]
 | d::r,j+1=>by simp[fc,jE r j]
theorem ph:∀{env:List (Nat×D)} {t:Nat} {d:D},(t,d)∈ns id x env→∃e,(t,e)∈env∧d=eF id x e
 | (s,e)::r,t,d,h=>by
  rcases Qf.1 h with h | h
  ·cases h;exact⟨e,PT ..,rfl⟩
  ·obtain⟨e',h1,h2⟩:=ph h
   exact⟨e',PN _ h1,h2⟩
theorem pi (hx:JP S' μ w id x) (hS:∀b,S b→S' b) {d:D} {u:Value} (h:ao S μ w d u):ao S' μ w (eF id x d) u:=by
 induction h with
 | v y u h=>exact .v y u (h.stable (fun b hb _=>hS b hb) (fun _ _ _=>rfl) (Pl _))
 | nils=>exact .nils
 | own i =>
  unfold eF
  split
  ·rename_i hi
   rw[PC]at hi
   subst hi
   cases x with
   | sl x=>exact .v _ _ hx
   | vr cs=>exact .junk _
   | gs f=>exact .junk _
  ·exact .own i
 | ptr i k sz I' b h =>
  unfold eF
  split
  ·rename_i hi
   rw[PC]at hi
   subst hi
   cases x with
   | sl x=>exact .junk _
   | gs f=>exact .junk _
   | vr cs =>
    unfold Fz.ptr
    simp only
    split
    ·rename_i hk
     rw[PC]at hk
     subst hk
     rw[Nat.zero_mul,PX]
     exact hx b I' h
    ·exact .junk _
  ·exact .ptr i k sz I' b h
 | iptr cs I' b o us h1 h2 h3 h4=>exact .iptr cs I' b o us (hS b h1) h2 h3 (fun j y hy=>(h4 j y hy).stable (fun b hb _=>hS b hb) (fun _ _ _=>rfl) (Pl _))
 | agg cs us h1 _ ih =>
  refine .agg _ us (by rw[eW];exact h1) (fun j y u hy hu=>?_)
  rw[jD]at hy
  cases hc:cs[j]? with
  | none=>rw[hc]at hy;cases hy
  | some e=>rw[hc]at hy;simp at hy;subst hy;exact ih j e u hc hu
 | tup cs us h1 _ ih =>
  refine .tup _ us (by rw[eW];exact h1) (fun j y u hy hu=>?_)
  rw[jD]at hy
  cases hc:cs[j]? with
  | none=>rw[hc]at hy;cases hy
  | some e=>rw[hc]at hy;simp at hy;subst hy;exact ih j e u hc hu
 | fn f a b us vs h1 _ h2 _ ih1 ih2 =>
  refine .fn f _ _ us vs (by rw[eW];exact h1) (fun j y u hy hu=>?_) (by rw[eW];exact h2) (fun j y u hy hu=>?_)
  ·rw[jD]at hy
   cases hc:a[j]? with
   | none=>rw[hc]at hy;cases hy
   | some e=>rw[hc]at hy;simp at hy;subst hy;exact ih1 j e u hc hu
  ·rw[jD]at hy
   cases hc:b[j]? with
   | none=>rw[hc]at hy;cases hy
   | some e=>rw[hc]at hy;simp at hy;subst hy;exact ih2 j e u hc hu
 | junk u=>exact .junk u
 | yld i l h=>exact .yld i l h
 | capd y p n h=>exact .capd y p n (h.stable (fun b hb _=>hS b hb) (fun _ _ _=>rfl) (Pl _))
 | gr g r us u h h1 h2 =>
  unfold eF
  split
  ·rename_i hi
   rw[PC]at hi
   subst hi
   cases x with
   | gs f=>exact .v _ _ (hx us h r u h1)
   | _=>exact .junk _
  ·exact .gr g r us u h h1 h2
end
mutual
theorem Bn {id k:Nat} {x:Fz}:∀d:D,D.free k d=true→D.free k (eF id x d)=true
 | .own i,h=>by
  unfold eF
  split
  ·cases x<;>rfl
  ·exact h
 | .ptr i k' sz I',h=>by
  unfold eF
  split
  ·cases x<;>first | rfl | (simp only[Fz.ptr];split<;>rfl)
  ·exact h
 | .gr i r,h=>by
  unfold eF
  split
  ·cases x<;>rfl
  ·exact h
 | .agg cs,h=>by simp only[eF,D.free];exact pj cs (by simpa only [D.free]using h)
 | .tup cs,h=>by simp only[eF,D.free];exact pj cs (by simpa only [D.free]using h)
 | .fn f a b,h=>by
  simp only[D.free,Pg]at h
  simp only[eF,D.free,Pg]
  exact⟨pj a h.1,pj b h.2⟩
 | .yld i,h=>h
 | .v _,_=>rfl
 | .nils,_=>rfl
 | .iptr _ _,_=>rfl
 | .capd _,_=>rfl
 | .junk,_=>rfl
theorem pj {id k:Nat} {x:Fz}:∀cs:List D,D.freeL k cs=true→D.freeL k (nq id x cs)=true
 | [],_=>rfl
 | c::cs,h=>by
  simp only[D.freeL,Pg]at h
  simp only[nq,D.freeL,Pg]
  exact⟨Bn c h.1,pj cs h.2⟩
end
theorem Dl {id:Nat} {x:Fz} (B:ax):(oA id x B).live=B.live:=by cases B<;>first | rfl | (simp only[oA];split<;>rfl)
theorem Hl {id:Nat} {x:Fz} (B:ax):(oA id x B).isRo=B.isRo:=by cases B<;>first | rfl | (simp only[oA];split<;>rfl)
theorem Dm {id:Nat} {x:Fz} {B:ax} (h:B.isRo=true):oA id x B=B:=by cases B<;>first | rfl | cases h
section
variable {C:li} {st:St}
theorem a5.freezeX {S:Nat→Prop} {μ:Nat→Value} {a:Act} {w:World} (hR:a5 C S μ st a w) {id:Nat} {Z:ax} {z:Fz} (G':st.heap[id]?=some Z) (hZ:Z.live=true) (hx:JP (fun b=>S b∨bI (μ id) b) μ w id z) :
  a5 C (fun b=>S b∨bI (μ id) b) μ ⟨ns id z st.env,(fc id z st.heap).set id .dead⟩ a w:=by
  have hB:=hR.heap.box id _ G'
  have RR:∀b,bI (μ id) b→C.W.heap.size≤b:=fun b hb=>hR.may id _ b G' hZ hb
  have RF:∀b,bI (μ id) b→b<w.heap.size:=hB.lt hZ
  let S':Nat→Prop:=fun b=>S b∨bI (μ id) b
  have RE:id<st.heap.length:=(Pf.1 G').1
  have RT:∀(i:Nat) (A:ax),((fc id z st.heap).set id .dead)[i]?=some A→A.live=true→i≠id∧∃B,st.heap[i]?=some B∧A=oA id z B∧B.live=true:=by
   intro i A hA hl
   by_cases hi:i=id
   ·subst hi
    rw[PB (by
     have:(fc i z st.heap)[i]?=(st.heap[i]?).map _:=jE st.heap i
     rw[G']at this
     exact(Pf.1 this).1)]at hA
    cases hA
    cases hl
   ·rw[PA (fun e=>hi e.symm),jE]at hA
    cases hc:st.heap[i]? with
    | none=>rw[hc]at hA;cases hA
    | some B =>
     rw[hc]at hA
     simp at hA
     refine⟨hi,B,rfl,hA.symm,?_⟩
     subst hA
     rwa [Dl]at hl
  have Xg:∀(i:Nat) (A:ax),((fc id z st.heap).set id .dead)[i]?=some A→A.isRo=true→i≠id∧st.heap[i]?=some A:=by
   intro i A hA hl
   by_cases hi:i=id
   ·subst hi
    rw[PB (by
     have:(fc i z st.heap)[i]?=(st.heap[i]?).map _:=jE st.heap i
     rw[G']at this
     exact(Pf.1 this).1)]at hA
    cases hA
    cases hl
   ·rw[PA (fun e=>hi e.symm),jE]at hA
    cases hc:st.heap[i]? with
    | none=>rw[hc]at hA;cases hA
    | some B =>
     rw[hc]at hA
     simp at hA
     refine⟨hi,?_⟩
     subst hA
     rw[Hl]at hl
     rw[Dm hl]
  show a5 C S' μ _ a w
  refine⟨hR.os,hR.tape,hR.output,hR.size,hR.old,fun b hb=>.inl (hR.mono b hb),?_,?_,?_,⟨?_,?_,?_⟩,?_,?_,hR.tsize,?_⟩
  ·rintro b (hb | hb)
   ·exact hR.new b hb
   ·exact .inr (RR b hb)
  ·rintro b (hb | hb)
   ·exact hR.slt b hb
   ·exact RF b hb
  ·intro t e hm
   obtain⟨e',h1,rfl⟩:=ph hm
   obtain⟨q1,q2⟩:=hR.env t e' h1
   exact⟨q1,pi hx (fun b hb=>.inl hb) q2⟩
  ·intro i A hA
   rcases A.three with rfl | hl | hl
   ·trivial
   rotate_left
   ·obtain⟨hi,R4⟩:=Xg i A hA hl
    exact(hR.heap.box i A R4).stable (fun b hb _=>.inl hb) (fun _ _ _=>rfl) (Pl _) (fun _ _=>rfl) (fun _ _=>rfl) 
   ·obtain⟨hi,B,RZ,rfl,VA⟩:=RT i A hA hl
    have hb:=hR.heap.box i B RZ
    cases B with
    | dead=>cases VA
    | ro=>cases VA
    | arr E2 Vb S5 d2 l2 =>
     exact hb.stable (fun b hb _=>.inl hb) (fun _ _ _=>rfl) (Pl _) (fun _ _=>rfl) (fun _ _=>rfl)
    | mpb t2 ag2 S5 d2 l2 =>
     exact hb.stable (fun b hb _=>.inl hb) (fun _ _ _=>rfl) (Pl _) (fun _ _=>rfl) (fun _ _=>rfl)
    | nest E2 Vb n ce m f=>exact hb.stable (fun b hb _=>.inl hb) (fun _ _ _=>rfl) (Pl _) (fun _ _=>rfl) (fun _ _=>rfl)
    | grp n f=>exact hb.stable (fun b hb _=>.inl hb) (fun _ _ _=>rfl) (Pl _) (fun _ _=>rfl) (fun _ _=>rfl)
    | arrD E2 Vb n gs cell =>
     simp only[oA]
     split
     ·exact hb.stable (fun b hb _=>.inl hb) (fun _ _ _=>rfl) (Pl _) (fun _ _=>rfl) (fun _ _=>rfl)
     ·obtain⟨h0,xs,h1,h3⟩:=hb
      refine⟨fun i j k hi hj hk=>Bn _ (h0 i j k hi hj hk),xs,h1,fun i j hi hj=>?_⟩
      obtain⟨v,hv,ho,hr⟩:=h3 i j hi hj
      exact⟨v,hv,ho,pi hx (fun b hb=>.inl hb) hr⟩
    | var T cs =>
     obtain⟨b,vs,e,q1,q2,q3⟩:=hb
     refine⟨b,vs,e,q1,by rw[eW];exact q2,fun j y z hy hz=>?_⟩
     rw[jD]at hy
     cases hc:cs[j]? with
     | none=>rw[hc]at hy;cases hy
     | some y'=>rw[hc]at hy;simp at hy;subst hy;exact pi hx (fun b hb=>.inl hb) (q3 j y' z hc hz)
    | loop l tm nt env ps q' bd s pe =>
     obtain⟨r,h0,h1,h2,h3,h4,h5,h6,h7,h8,h9⟩:=hb
     refine⟨r,h0,h1,h2,h3,h4,h5,h6,h7,h8,fun t e hm=>?_⟩
     obtain⟨e',k1,rfl⟩:=ph hm
     exact⟨(h9 t e' k1).1,pi hx (fun b hb=>.inl hb) (h9 t e' k1).2⟩
    | frame tm env =>
     obtain⟨h1,h9⟩:=hb
     refine⟨h1,fun t e hm=>?_⟩
     obtain⟨e',k1,rfl⟩:=ph hm
     exact⟨(h9 t e' k1).1,pi hx (fun b hb=>.inl hb) (h9 t e' k1).2⟩
  ·intro i j A A' b hA R4 hl hl'
   obtain⟨_,B,Xh,_,VA⟩:=RT i A hA hl
   obtain⟨_,B',hB2,_,hBl'⟩:=RT j A' R4 hl'
   exact hR.heap.apart i j B B' b Xh hB2 VA hBl'
  ·intro i A b hA hl hb hs
   obtain⟨hi,B,Xh,_,VA⟩:=RT i A hA hl
   rcases hs with hs | hs
   ·exact hR.heap.notS i B b Xh VA hb hs
   ·exact hi (hR.heap.apart i id B _ b Xh G' VA hZ hb hs)
  ·intro i A b hA hl hb
   obtain⟨hi,B,Xh,_,VA⟩:=RT i A hA hl
   exact hR.may i B b Xh VA hb
  ·obtain⟨mk,d1,d2,d3⟩:=hR.defers
   refine⟨mk,d1,d2,fun b hb=>?_⟩
   obtain⟨q1,q2,q3,q4⟩:=d3 b hb
   refine⟨q1,q2,fun hs=>?_,fun i A hA hl=>?_⟩
   ·rcases hs with hs | hs
    ·exact q3 hs
    ·exact q4 id _ G' hZ hs
   ·obtain⟨hi,B,Xh,_,VA⟩:=RT i A hA hl
    exact q4 i B Xh VA
  ·intro i A b hA hl
   obtain⟨hi,R4⟩:=Xg i A hA hl
   exact hR.ro i A b R4 hl
theorem a5.freezeZ {S:Nat→Prop} {μ:Nat→Value} {a:Act} {w:World} (hR:a5 C S μ st a w) {id:Nat} {Z:ax} {z:Fz} (G':st.heap[id]?=some Z) (hZ:Z.live=true) (hx:JP (fun b=>S b∨bI (μ id) b) μ w id z) :
  ∃S',a5 C S' μ ⟨ns id z st.env,(fc id z st.heap).set id .dead⟩ a w:=⟨_,hR.freezeX G' hZ hx⟩
theorem a5.freeze {S:Nat→Prop} {μ:Nat→Value} {a:Act} {w:World} (hR:a5 C S μ st a w) {id:Nat} {L':St} (h:md id st=some L'):∃S',a5 C S' μ L' a w:=by
 unfold md at h
 split at h
 ·rename_i E sz α enc d l G'
  simp only[Pu]at h
  subst h
  exact hR.freezeZ G' rfl (fq (hR.heap.box id _ G') (fun b hb=>.inl hb) (fun b hb=>.inr hb) hR.slt)
 ·rename_i T cs G'
  split at h
  ·rename_i vs Tf
   simp only[Pu]at h
   subst h
   have hc:=Bm Tf
   subst hc
   refine hR.freezeZ G' rfl (fun b I' hb=>?_)
   have hB:=hR.heap.box id _ G'
   have RF:b<w.heap.size:=hB.lt rfl b (.inl hb)
   have Sq:=hB.var_cells hb
   have hv:∀(j:Nat) (y:V),vs[j]?=some y→w.cell? ⟨b,0+j,none⟩=some ((w.cell? ⟨b,0+j,none⟩).getD undef)∧dg S w y ((w.cell? ⟨b,0+j,none⟩).getD undef):=by
    intro j y hy
    obtain⟨u,h1,h2⟩:=Sq j (.v y) (by rw[PE,hy];rfl)
    rw[h1]
    exact⟨rfl,bn h2⟩
   have:=ao.iptr (S:=fun b=>S b∨bI (μ id) b) (μ:=μ) (w:=w) vs I' b 0 (fun j=>(w.cell? ⟨b,0+j,none⟩).getD undef) (.inr (.inl hb)) RF (fun j y hy=>(hv j y hy).1) (fun j y hy=>(hv j y hy).2.stable (fun b hb _=>.inl hb) (fun _ _ _=>rfl) (Pl _))
   rwa [PX]at this
  ·cases h
 ·rename_i t ag α enc d l G'
  simp only[Pu]at h
  subst h
  exact hR.freezeZ G' rfl (Hj (hR.heap.box id _ G') (fun b hb=>.inl hb) (fun b hb=>.inr hb))
 ·rename_i n f G'
  simp only[Pu]at h
  subst h
  refine hR.freezeZ G' rfl (fun us RU r u hu=>?_)
  obtain⟨SW,e,_,h2,_⟩:=hR.heap.box id _ G'
  rw[RU]at e
  cases e
  exact fq (μ:=μ) (E:=(f r).E) (h2 r u hu).2 (fun b hb=>.inl hb) (fun b hb=>.inr (by
   rcases hb with hb | ⟨vs,e,k,x,hk,hx⟩
   ·exact .inr ⟨us,RU,r,u,hu,hb⟩
   ·subst e;have:=(h2 r _ hu).1;cases this)) hR.slt
 ·cases h
mutual
theorem qc {id:Nat} {x:Fz}:∀d:D,D.free id d=true→eF id x d=d
 | .own i,h=>by
  simp only[D.free,PR]at h
  simp only[eF,h,Qc,QY]
 | .ptr i k sz I',h=>by
  simp only[D.free,PR]at h
  simp only[eF,h,Qc,QY]
 | .agg cs,h=>by simp only[D.free]at h;simp only[eF,ie cs h]
 | .tup cs,h=>by simp only[D.free]at h;simp only[eF,ie cs h]
 | .fn f a b,h=>by simp only[D.free,Pg]at h;simp only[eF,ie a h.1,ie b h.2]
 | .v _,_=>rfl
 | .nils,_=>rfl
 | .iptr _ _,_=>rfl
 | .yld _,_=>rfl
 | .capd _,_=>rfl
 | .gr i r,h=>by
  simp only[D.free,PR]at h
  simp only[eF,h,Qc,QY]
 | .junk,_=>rfl
theorem ie {id:Nat} {x:Fz}:∀cs:List D,D.freeL id cs=true→nq id x cs=cs
 | [],_=>rfl
 | c::cs,h=>by
  simp only[D.freeL,Pg]at h
  simp only[nq,qc c h.1,ie cs h.2]
end
theorem mf {id:Nat} {x:Fz}:∀{env:List (Nat×D)},bO id env=true→ns id x env=env
 | [],_=>rfl
 | (t,d)::r,h=>by
  simp only[bO,Pg]at h
  simp only[ns,qc d h.1,mf h.2]
theorem uV {id:Nat} {x:Fz} (B:ax) (h:ax.free id B=true):oA id x B=B:=by
 cases B with
 | var T cs=>simp only[ax.free]at h;simp only[oA,ie cs h]
 | loop l tm nt env ps a b s p=>simp only[ax.free]at h;simp only[oA,mf h]
 | frame tm env=>simp only[ax.free]at h;simp only[oA,mf h]
 | arrD E sz n gs cell=>simp only[ax.free]at h;simp only[oA,h,Q7]
 | _=>rfl
theorem uW {id:Nat} {x:Fz}:∀{H:List ax},bL id H=true→fc id x H=H
 | [],_=>rfl
 | B::r,h=>by
  simp only[bL,Pg]at h
  simp only[fc,uV B h.1,uW h.2]
theorem sN {id:Nat} {x:Fz}:∀(A B:List ax),fc id x (A++B)=fc id x A++fc id x B
 | [],B=>rfl
 | a::A,B=>by simp only[List.cons_append,fc,sN A B]
theorem xR {id:Nat} {x:Fz}:∀(H:List ax),(fc id x H).length=H.length
 | []=>rfl
 | B::r=>by simp[fc,xR r]
end
end Go.Proofs.Ytnlmlkbaflmgcaa
namespace Go.Proofs.Ytnlmlkbaflmgcaa
open Go.RowKit
set_option linter.unusedVariables false
set_option linter.unusedSimpArgs false
def Ev (C:li) (c:Code) (Q:Exit→St→Prop) (st:St):Prop :=
 ∀(a:Act) (w:World) (S:Nat→Prop) (μ:Nat→Value),a5 C S μ st a w→c.wpIn (nk C.rd) 0 C.P (fun e a' w'=>∃L' S' μ',Q e L'∧a5 C S' μ' L' a' w') a w
def Dn (P:Program) (st:St):ResultVar→R1
 | .tmp t=>(nJ st.env t,True)
 | .cell a T=>match nJ st.env a with
  | .ptr id i sz I'=>Bb P T st.heap (.ptr id i sz I')
  | _=>aP
def resL (P:Program) (st:St):List ResultVar→List D×Prop
 | []=>([],True)
 | r::rs=>match Dn P st r with
  | (d,p)=>match resL P st rs with
   | (ds,q)=>(d::ds,p∧q)
def Dp (P:Program) (rs:List ResultVar) (st:St):R1 :=
 match resL P st rs with
 | ([d],p)=>(d,p)
 | (ds,p)=>(.tup ds,p)
def gT (P:Program) (fn:Func) (st:St):Prop:=(Dp P fn.results.toList st).2
def hC (P:Program) (fn:Func) (st:St):D:=(Dp P fn.results.toList st).1
section
variable {C:li} {S:Nat→Prop} {μ:Nat→Value} {st:St} {a:Act} {w:World}
theorem a5.resL (h:a5 C S μ st a w):∀(rs:List ResultVar) (ds:List D) (p:Prop),Proofs.Ytnlmlkbaflmgcaa.resL C.P st rs=(ds,p)→p →
  ∃us:List Value,(rs.mapM (fun r=>(match r with
   | .tmp t=>pure (a.tmps.getD t undef)
   | .cell x t=>do loadVar t (← asAddr (a.tmps.getD x undef)):Sem Value))).run C.P w=.ok us w∧us.length=ds.length∧∀(j:Nat) (y:D) (u:Value),ds[j]?=some y→us[j]?=some u→ao S μ w y u:=by
 intro rs
 induction rs with
 | nil =>
  intro ds p hp _
  simp only[Proofs.Ytnlmlkbaflmgcaa.resL,Po]at hp
  obtain⟨rfl,_⟩:=hp
  exact⟨[],rfl,rfl,fun j y u hy=>by simp at hy⟩
 | cons r rs ih =>
  intro ds p hp D'
  unfold Proofs.Ytnlmlkbaflmgcaa.resL at hp
  generalize h1:Dn C.P st r=q1 at hp
  obtain⟨d1,p1⟩:=q1
  simp only at hp
  generalize h2:Proofs.Ytnlmlkbaflmgcaa.resL C.P st rs=q2 at hp
  obtain⟨ds2,p2⟩:=q2
  simp only[Po]at hp
  obtain⟨rfl,rfl⟩:=hp
  obtain⟨us,e1,e2,e3⟩:=ih ds2 p2 h2 D'.2
  have TK:∃u,((match r with
   | .tmp t=>pure (a.tmps.getD t undef)
   | .cell x t=>do loadVar t (← asAddr (a.tmps.getD x undef)):Sem Value)).run C.P w=.ok u w∧ao S μ w d1 u:=by
   cases r with
   | tmp t =>
    simp only[Dn,Po]at h1
    obtain⟨rfl,_⟩:=h1
    exact⟨_,rfl,h.eval (.tmp t)⟩
   | cell x T =>
    unfold Dn at h1
    simp only at h1
    split at h1
    ·rename_i id i sz I' hl
     have hv:=h.eval (.tmp x)
     simp only[eE]at hv
     rw[hl]at hv
     obtain⟨u,r1,r2⟩:=qW h.heap hv h1 D'.1
     obtain⟨b,_,hu⟩:=mb hv
     refine⟨u,?_,r2⟩
     have he:a.tmps.getD x undef=.pointer (some ⟨b,i*sz+I',none⟩):=hu
     rw[hu]at r1
     simp only[he]
     simp only[Instr.loadAt,Instr.sureAddr,Pm,PF,Pk]at r1
     simp only[asAddr,Pm,PF,Pk]
     exact r1
    ·cases h1;exact D'.1.elim
  obtain⟨u,f1,f2⟩:=TK
  refine⟨u::us,?_,by simp[e2],fun j y v hy hv=>?_⟩
  ·simp only[List.mapM_cons,Pm,f1,Pk,e1,PF]
  ·cases j with
   | zero=>simp at hy hv;subst hy hv;exact f2
   | succ j=>exact e3 j y v (by simpa using hy) (by simpa using hv)
theorem a5.results (h:a5 C S μ st a w) {fn:Func} (D':gT C.P fn st):∃u,(results fn a.tmps).run C.P w=.ok u w∧ao S μ w (hC C.P fn st) u:=by
 unfold gT at D'
 unfold hC
 generalize hq:Proofs.Ytnlmlkbaflmgcaa.resL C.P st fn.results.toList=q at D' ⊢
 obtain⟨ds,p⟩:=q
 have hp:p:=by
  unfold Dp at D'
  rw[hq]at D'
  split at D'<;>rename_i he<;>cases he<;>exact D'
 obtain⟨us,e1,e2,e3⟩:=h.resL _ _ _ hq hp
 have hm:(fn.results.mapM (fun r=>(match r with
   | .tmp t=>pure (a.tmps.getD t undef)
   | .cell x t=>do loadVar t (← asAddr (a.tmps.getD x undef)):Sem Value))).run C.P w=.ok us.toArray w:=by
  rw[Array.mapM_eq_mapM_toList]
  have hb:∀(s:Sem (List Value)) (r:List Value),s.run C.P w=.ok r w→((s.bind (Sem.pure ∘ List.toArray)):Sem (Array Value)).run C.P w=.ok r.toArray w:=by
   intro s r h
   show Sem.run C.P (s >>= (Sem.pure ∘ List.toArray)) w=_
   rw[Pm,h]
   rfl
  exact hb _ _ e1
 refine⟨if h:us.toArray.size=1 then us.toArray[0]else .tuple us.toArray,?_,?_⟩
 ·unfold Go.results
  rw[Pm]
  refine(congrArg (fun r=>Result.andThen r _) hm).trans ?_
  rfl
 ·unfold Dp
  rw[hq]
  cases ds with
  | nil =>
   have:us=[]:=PL e2
   subst this
   exact .tup _ _ rfl (fun j y u hy=>by simp at hy)
  | cons d ds =>
   cases ds with
   | nil =>
    obtain⟨u,rfl⟩:=List.length_eq_one_iff.1 (by simpa using e2)
    exact e3 0 d u rfl rfl
   | cons d2 ds =>
    rw[dif_neg (by simp[e2])]
    exact .tup _ _ (by simp[e2]) (fun j y u hy hu=>e3 j y u hy (by simpa using hu))
end
def kV:Nat→List D→List (Nat×D)
 | _,[]=>[]
 | i,d::r=>(i,d)::kV (i+1) r
theorem uX:∀{ds:List D} {i t:Nat} {d:D},(t,d)∈kV i ds→i≤t∧ds[t-i]?=some d
 | d'::r,i,t,d,h=>by
  rcases Qf.1 h with h | h
  ·cases h;exact⟨Pl _,by simp⟩
  ·obtain⟨h1,h2⟩:=uX h
   refine⟨by omega,?_⟩
   rw[show t-i=(t-(i+1))+1 from by omega]
   simpa using h2
def uY (us:Array Value) (nt:Nat):Act:={ tmps:=us++Array.replicate (nt-us.size) undef,defers:=[] }
section
variable {C C1:li} {S:Nat→Prop} {μ:Nat→Value} {st:St} {a a1:Act} {w w':World}
theorem a5.turn (h:a5 C S μ st a w) {mk mk1:List Nat} (d2:(mk1++C1.susp).Nodup)
  (d3:∀b∈mk1++C1.susp,w.heap[b]?=some (.deferred (some []))∧C.W.heap.size≤b∧¬S b∧∀(i:Nat) (A:ax),st.heap[i]?=some A→A.live=true→¬bI (μ i) b)
  (hW:C1.W=C.W) (hS:C1.S0=C.S0) (hd:a1.defers=mk1.map fun b=>{ target:=.collected b,args:=#[] }) (ht:a1.tmps.size=C1.nt) {env1:List (Nat×D)}
  (he:∀(t:Nat) (d:D),(t,d)∈env1→t<C1.nt∧ao S μ w d (a1.tmps.getD t undef)):a5 C1 S μ ⟨env1,st.heap⟩ a1 w :=
 ⟨by rw[hW];exact h.os,by rw[hW];exact h.tape,by rw[hW];exact h.output,by rw[hW];exact h.size,by rw[hW];exact h.old,by rw[hS];exact h.mono,by rw[hS,hW];exact h.new,h.slt,he,h.heap,by rw[hW];exact h.may,
  ⟨mk1,hd,d2,by rw[hW];exact d3⟩,ht,by rw[hW];exact h.ro⟩
theorem a5.back (h:a5 C1 S μ st a1 w) {mk:List Nat} (hW:C1.W=C.W) (hS:C1.S0=C.S0) (hs:C1.susp=mk++C.susp) (hd:a.defers=mk.map fun b=>{ target:=.collected b,args:=#[] }) (ht:a.tmps.size=C.nt)
  {env:List (Nat×D)} (he:∀(t:Nat) (d:D),(t,d)∈env→t<C.nt∧ao S μ w d (a.tmps.getD t undef)):a5 C S μ ⟨env,st.heap⟩ a w:=by
 obtain⟨mk',e1,e2,e3⟩:=h.defers
 rw[hs]at e2 e3
 exact h.turn (mk:=mk') (mk1:=mk) (List.nodup_append.1 e2).2.1 (fun b hb=>e3 b (QP _ hb)) hW.symm hS.symm hd ht he
theorem a5.heapTo (h:a5 C S μ st a w) {H:List ax} (hH:∀(i:Nat) (B:ax),H[i]?=some B→B=.dead∨st.heap[i]?=some B):a5 C S μ ⟨st.env,H⟩ a w:=by
 have live:∀(i:Nat) (B:ax),H[i]?=some B→B.live=true→st.heap[i]?=some B:=fun i B hB hl=>by
  rcases hH i B hB with rfl | h1
  ·cases hl
  ·exact h1
 refine⟨h.os,h.tape,h.output,h.size,h.old,h.mono,h.new,h.slt,h.env,⟨fun i B hB=>?_,fun i j A B b hA hB la lb=>h.heap.apart i j A B b (live i A hA la) (live j B hB lb) la lb,fun i A b hA la=>h.heap.notS i A b (live i A hA la) la⟩,
  fun i A b hA la=>h.may i A b (live i A hA la) la,?_,h.tsize,fun i A b hA la=>?_⟩
 ·rcases hH i B hB with rfl | h1
  ·trivial
  ·exact h.heap.box i B h1
 ·obtain⟨mk,d1,d2,d3⟩:=h.defers
  refine⟨mk,d1,d2,fun b hb=>?_⟩
  obtain⟨q1,q2,q3,q4⟩:=d3 b hb
  exact⟨q1,q2,q3,fun i A hA hl=>q4 i A (live i A hA hl) hl⟩
 ·rcases hH i A hA with rfl | h1
  ·cases la
  ·exact h.ro i A b h1 la
theorem a5.shut (h:a5 C S μ st a w) {b:Nat} {ds:List Deferred} (hd:a.defers={ target:=.collected b,args:=#[] }::ds) :
  w.heap[b]?=some (.deferred (some []))∧a5 C S μ st { a with defers:=ds } (w.putObj b (.deferred none)):=by
 obtain⟨mk,d1,d2,d3⟩:=h.defers
 cases mk with
 | nil=>rw[hd]at d1;cases d1
 | cons b' mk =>
  rw[hd]at d1
  simp only[Qe,Qj,Deferred.mk.injEq,Target.collected.injEq,Rs]at d1
  obtain⟨rfl,d1⟩:=d1
  obtain⟨q1,q2,q3,q4⟩:=d3 b (by simp)
  have RF:b<w.heap.size:=(Px.1 q1).1
  have Sm:∀k,k≠b→(w.putObj b (.deferred none)).heap[k]?=w.heap[k]?:=fun k hk=>QQ hk
  have hS:∀k,S k→(w.putObj b (.deferred none)).heap[k]?=w.heap[k]?:=fun k hk=>Sm k (fun e=>q3 (e ▸ hk))
  have RB:(w.putObj b (.deferred none)).heap.size=w.heap.size:=Rh
  refine⟨q1,h.os,h.tape,h.output,by rw[RB];exact h.size,fun k hk=>by rw[Sm k (by omega)];exact h.old k hk,h.mono,h.new,fun k hk=>by rw[RB];exact h.slt k hk,fun t d hm=>?_,⟨fun i A hA=>?_,h.heap.apart,h.heap.notS⟩,h.may,⟨mk,d1,?_,fun k hk=>?_⟩,h.tsize,h.ro⟩
  ·obtain⟨r1,r2⟩:=h.env t d hm
   exact⟨r1,r2.stable (fun _ h _=>h) (fun k hk _=>hS k hk) (by rw[RB];exact Pl _) (fun _ _=>rfl)⟩
  ·rcases A.three with rfl | hl | hl
   ·trivial
   ·exact(h.heap.box i A hA).stable (fun _ h _=>h) (fun k hk _=>hS k hk) (by rw[RB];exact Pl _) (fun _ _=>rfl) (fun k hk=>Sm k (fun e=>q4 i A hA hl (e ▸ hk)))
   ·exact(h.heap.box i A hA).stable (fun _ h _=>h) (fun k hk _=>hS k hk) (by rw[RB];exact Pl _) (fun _ _=>rfl) (fun k hk=>Sm k (fun e=>by have:=h.ro i A k hA hl hk;omega))
  ·rw[List.cons_append]at d2
   exact(List.nodup_cons.1 d2).2
  ·obtain⟨r1,r2,r3,r4⟩:=d3 k (by rw[List.cons_append];exact PN _ hk)
   have Xd:k≠b:=fun e=>by
    rw[List.cons_append]at d2
    exact(List.nodup_cons.1 d2).1 (e ▸ hk)
   exact⟨by rw[Sm k Xd];exact r1,r2,r3,r4⟩
theorem a5.leaves {fn:Func} (D':gT C.P fn st) {F:Fence} {R:Ending→World→Prop}:∀(ds:List Deferred) (a:Act) (w:World),a.defers=ds→a5 C S μ st a w →
  (∀w' a' u,a5 C S μ st a' w'→ao S μ w' (hC C.P fn st) u→R (.returned u) w')→LeavesInM F 0 C.P fn a.tmps R ds .returning w
 | [],a,w,hd,h,hK=>by
  obtain⟨u,h1,h2⟩:=h.results D'
  exact⟨u,h1,hK w a u h h2⟩
 | d::ds,a,w,hd,h,hK=>by
  have VP:∃b,d={ target:=.collected b,args:=#[] }:=by
   obtain⟨mk,d1,_⟩:=h.defers
   rw[hd]at d1
   cases mk with
   | nil=>cases d1
   | cons b mk=>exact⟨b,by simp only[Qe,Qj]at d1;exact d1.1⟩
  obtain⟨b,rfl⟩:=VP
  obtain⟨q1,q2⟩:=h.shut hd
  refine⟨by simp,.inl ⟨b,_,rfl,run_takeDeferred q1,?_⟩⟩
  exact a5.leaves D' ds { a with defers:=ds } _ rfl q2 hK
theorem lq {f:FuncId} {fn:Func} {c:Code} (hf:C.P.funcs[f]?=some fn) (hb:fn.body=some c) (hrd:C.rd=none) {us:Array Value} {Q:Exit→St→Prop}
  (hR:a5 C S μ st (uY us fn.ntmps) w) (hev:Ev C c Q st) (hQ:∀e L',Q e L'→(e=.normal∨e=.ret)∧gT C.P fn L') :
  Calls C.P f us w (fun e w'=>∃u e0 L' S' μ' a',e=.returned u∧Q e0 L'∧a5 C S' μ' L' a' w'∧ao S' μ' w' (hC C.P fn L') u):=by
 have h:=hev _ w S μ hR
 rw[hrd]at h
 refine callsIn_wide.1 (callsIn_of_wp_marks (n:=0) hf hb trivial (wpIn_mono h ?_))
 rintro e a' w' ⟨L',S',μ',hq,R9⟩
 obtain⟨he,D'⟩:=hQ e L' hq
 have key:LeavesInM Fence.wide 0 C.P fn a'.tmps (fun e w'=>∃u e0 L' S' μ' a',e=.returned u∧Q e0 L'∧a5 C S' μ' L' a' w'∧ao S' μ' w' (hC C.P fn L') u) a'.defers .returning w' :=
  R9.leaves D' a'.defers a' w' rfl (fun w2 a2 u U' hu=>⟨u,e,L',S',μ',a2,rfl,hq,U',hu⟩)
 rcases he with rfl | rfl
 ·exact key
 ·exact key
end
theorem wz {S:Nat→Prop} {μ:Nat→Value} {w:World} {ds:List D} {us:Array Value} (h:aO S μ w ds us) {nt:Nat} (hn:ds.length≤nt):∀(t:Nat) (d:D),(t,d)∈kV 0 ds→t<nt∧ao S μ w d ((uY us nt).tmps.getD t undef):=by
 intro t d hm
 obtain⟨_,h2⟩:=uX hm
 rw[Nat.sub_zero]at h2
 have ht:=(Pf.1 h2).1
 refine⟨by omega,?_⟩
 have RF:t<us.size:=by rw[h.1];exact ht
 have:(us++Array.replicate (nt-us.size) undef).getD t undef=us[t]:=by
  simp only[P6]
  rw[Array.getElem?_append_left RF]
  simp[RF]
 show ao S μ w d ((us++Array.replicate (nt-us.size) undef).getD t undef)
 rw[this]
 exact h.2 t d _ h2 (PJ RF)
theorem sO {ds:List D} {us:Array Value} (h:us.size=ds.length) {nt:Nat} (hn:ds.length≤nt):(uY us nt).tmps.size=nt:=by
 show(us++Array.replicate (nt-us.size) undef).size=nt
 simp
 omega
end Go.Proofs.Ytnlmlkbaflmgcaa
namespace Go.Proofs.Ytnlmlkbaflmgcaa
open Go.RowKit
set_option linter.unusedVariables false
set_option linter.unusedSimpArgs false
def V.flat:V→Bool
 | .int _ _=>true
 | .bool _=>true
 | .str _=>true
 | .nilf=>true
 | _=>false
def sP:ax→Prop
 | .arr _ _ enc _ l=>∀x∈l,∀y∈enc x,y.flat=true
 | _=>False
theorem dg.flat {S S':Nat→Prop} {w:World} {x:V} {u:Value} (h:dg S w x u) (hx:x.flat=true):dg S' w x u:=by
 cases h<;>first | (cases hx;done) | constructor
theorem aJ.flat {S S':Nat→Prop} {μ μ':Nat→Value} {w:World} {u:Value} {B:ax} (h:aJ S μ w u B) (hB:sP B):aJ S' μ' w u B:=by
 cases B with
 | arr E sz enc d l =>
  obtain⟨h0,xs,h1,h3⟩:=h
  refine⟨h0,xs,h1,fun i x j y hx hy=>?_⟩
  obtain⟨z,hz,hr⟩:=h3 i x j y hx hy
  exact⟨z,hz,hr.flat (hB x (PM hx) y (PM hy))⟩
 | _=>exact hB.elim
theorem uZ {B:ax} (h:sP B):B.isArr=true:=by
 cases B<;>first | rfl | exact h.elim
def scal:D→Bool
 | .v x=>x.flat
 | _=>false
def u1:List D→Bool
 | []=>true
 | .own i::cs=>Nat.beq i 0&&u1 cs
 | c::cs=>scal c&&u1 cs
def zV:D→Bool
 | .own i=>Nat.beq i 0
 | .gr i _=>Nat.beq i 0
 | .agg cs=>u1 cs
 | _=>false
def Oy (n:Nat):D→D
 | .own _=>.own n
 | d=>d
def D.up (n:Nat):D→D
 | .own _=>.own n
 | .gr _ r=>.gr n r
 | .agg cs=>.agg (cs.map (Oy n))
 | d=>d
theorem u2:∀{cs:List D} {j:Nat} {c:D},u1 cs=true→cs[j]?=some c→c=.own 0∨scal c=true
 | [],j,c,_,h=>by simp at h
 | x::cs,0,c,h,hc=>by
  simp at hc
  subst hc
  cases x<;>simp only[u1,Pg]at h<;>first | exact .inr h.1 | (have:=PC.mp h.1;subst this;exact .inl rfl)
 | x::cs,j+1,c,h,hc=>by
  refine u2 (cs:=cs) (j:=j) ?_ (by simpa using hc)
  cases x<;>simp only[u1,Pg]at h<;>exact h.2
theorem Hm {S S':Nat→Prop} {μ μ':Nat→Value} {w:World} {c:D} {u:Value} {n:Nat} (h:ao S μ w c u) (hc:c=.own 0∨scal c=true) (hm:μ' n=μ 0):ao S' μ' w (Oy n c) u:=by
 rcases hc with rfl | hc
 ·cases h
  rw[← hm]
  exact .own n
 ·cases c<;>first | cases hc | skip
  cases h with
  | v _ _ h=>exact .v _ _ (h.flat hc)
theorem zW {S S':Nat→Prop} {μ μ':Nat→Value} {w:World} {r:D} {u:Value} {n:Nat} (h:ao S μ w r u) (hr:zV r=true) (hm:μ' n=μ 0):ao S' μ' w (r.up n) u:=by
 cases r<;>first | cases hr | skip
 ·rename_i i
  have:=PC.mp hr
  subst this
  cases h
  rw[← hm]
  exact .own n
 ·rename_i cs
  cases h with
  | agg _ us h1 h2 =>
   refine .agg _ us (by rw[Py];exact h1) (fun j y x hy hx=>?_)
   rw[PE,Option.map_eq_some_iff]at hy
   obtain⟨c,hc,rfl⟩:=hy
   exact Hm (h2 j c x hc hx) (u2 hr hc) hm
 ·rename_i i r
  have:=PC.mp hr
  subst this
  cases h with
  | gr _ _ us _ h1 h2 h3=>exact .gr n r us u (by rw[hm];exact h1) h2 h3
theorem aJ.arrMu {S:Nat→Prop} {μ μ':Nat→Value} {w:World} {u:Value} {B:ax} (h:aJ S μ w u B) (hB:B.isOwn=true):aJ S μ' w u B:=by
 cases B<;>first | (cases hB;done) | exact h
theorem lu {w:World} {E sz n b:Nat} {u:Value} {xs:List Value} (h:w.ownsRow 0 E sz u n xs) (hb:aM u=some b):∃cs T x,w.heap[b]?=some (.cells cs T x):=by
 obtain⟨_,h2⟩:=h
 rcases h2 with ⟨rfl,_⟩ | ⟨g,cap,RN,rfl,hg,hh2,r⟩
 ·simp[aM]at hb
 ·simp[aM]at hb
  subst hb
  exact⟨_,_,_,hh2⟩
theorem aJ.ownBlk {S:Nat→Prop} {μ:Nat→Value} {w:World} {u:Value} {B:ax} {b:Nat} (h:aJ S μ w u B) (hB:B.isOwn=true) (hb:bI u b):∃cs T x,w.heap[b]?=some (.cells cs T x):=by
 cases B<;>first | (cases hB;done) | skip
 ·obtain⟨_,xs,h2,_⟩:=h
  refine lu h2 ?_
  rcases hb with hb | ⟨us,rfl,_⟩
  ·exact hb
  ·rcases h2.2 with ⟨h2,_⟩ | ⟨_,_,_,h2,_⟩<;>cases h2
 ·obtain⟨us,rfl,h1,⟨v0,xs,g1,g2,g3,g4⟩,h2,h3⟩:=h
  rcases hb with hb | ⟨SW,he,k,x,hx,hb⟩
  ·simp[aM]at hb
  ·cases he
   cases k with
   | zero=>rw[g1]at hx;cases hx;exact lu g3 hb
   | succ k=>obtain⟨_,_,xs,h,_⟩:=h2 k x hx;exact lu h hb
section
variable {C:li} {S:Nat→Prop} {μ:Nat→Value} {st:St} {a:Act} {w:World}
theorem a5.addBoxA (h:a5 C S μ st a w) (hf:bO st.heap.length st.env=true) (hh:bL st.heap.length st.heap=true) {B:ax} {u:Value} (WD:B.isOwn=true) {μ1:Nat→Value} (G':aJ S μ1 w u B)
  (RR:∀b,bI u b→C.W.heap.size≤b∧¬S b∧∀(i:Nat) (A:ax),st.heap[i]?=some A→A.live=true→¬bI (μ i) b):a5 C S (a7 μ st.heap.length u) ⟨st.env,st.heap++[B]⟩ a w:=by
 have RL:∀i,i<st.heap.length→a7 μ st.heap.length u i=μ i:=fun i hi=>aL _ _ (by omega)
 have ST:∀(i:Nat) (A:ax),(st.heap++[B])[i]?=some A→(i<st.heap.length∧st.heap[i]?=some A)∨(i=st.heap.length∧A=B):=by
  intro i A hA
  by_cases hi:i<st.heap.length
  ·rw[Pw hi]at hA
   exact .inl ⟨hi,hA⟩
  ·rw[Pz (by omega)]at hA
   by_cases e:i-st.heap.length=0
   ·rw[e]at hA
    simp at hA
    exact .inr ⟨by omega,hA.symm⟩
   ·obtain⟨k,hk⟩:∃k,i-st.heap.length=k+1:=⟨i-st.heap.length-1,by omega⟩
    rw[hk]at hA
    simp at hA
 refine⟨h.os,h.tape,h.output,h.size,h.old,h.mono,h.new,h.slt,?_,⟨?_,?_,?_⟩,?_,?_,h.tsize,?_⟩
 ·intro t d hm
  obtain⟨q1,q2⟩:=h.env t d hm
  exact⟨q1,q2.stable (fun _ h _=>h) (fun _ _ _=>rfl) (Pl _) (fun id RE=>aL _ _ (fun e=>by rw[e,dy hf hm]at RE;cases RE))⟩
 ·intro i A hA
  rcases ST i A hA with ⟨hi,hA⟩ | ⟨rfl,rfl⟩
  ·rw[RL i hi]
   exact(h.heap.box i A hA).stable (fun _ h _=>h) (fun _ _ _=>rfl) (Pl _) (fun id RE=>aL _ _ (fun e=>by rw[e,cX hh hA]at RE;cases RE)) (fun _ _=>rfl)
  ·rw[az]
   exact G'.arrMu WD
 ·intro i j A A' b hA R4 la Vx hb R6
  have g1:=ST i A hA
  have g2:=ST j A' R4
  clear hA R4
  rcases g1 with ⟨hi,hA⟩ | ⟨ei,eA⟩<;>rcases g2 with ⟨hj,R4⟩ | ⟨ej,eA'⟩
  ·rw[RL i hi]at hb;rw[RL j hj]at R6
   exact h.heap.apart i j A A' b hA R4 la Vx hb R6
  ·rw[RL i hi]at hb;rw[ej,az]at R6
   exact((RR b R6).2.2 i A hA la hb).elim
  ·rw[RL j hj]at R6;rw[ei,az]at hb
   exact((RR b hb).2.2 j A' R4 Vx R6).elim
  ·rw[ei,ej]
 ·intro i A b hA la hb
  rcases ST i A hA with ⟨hi,hA⟩ | ⟨rfl,rfl⟩
  ·rw[RL i hi]at hb
   exact h.heap.notS i A b hA la hb
  ·rw[az]at hb
   exact(RR b hb).2.1
 ·intro i A b hA la hb
  rcases ST i A hA with ⟨hi,hA⟩ | ⟨rfl,rfl⟩
  ·rw[RL i hi]at hb
   exact h.may i A b hA la hb
  ·rw[az]at hb
   exact(RR b hb).1
 ·obtain⟨mk,e1,e2,e3⟩:=h.defers
  refine⟨mk,e1,e2,fun b hb=>?_⟩
  obtain⟨g1,g2,g3,g4⟩:=e3 b hb
  refine⟨g1,g2,g3,fun i A hA la SU=>?_⟩
  rcases ST i A hA with ⟨hi,hA⟩ | ⟨rfl,rfl⟩
  ·rw[RL i hi]at SU
   exact g4 i A hA la SU
  ·rw[az]at SU
   obtain⟨cs,T,x,hh2⟩:=G'.ownBlk WD SU
   rw[hh2]at g1
   simp at g1
 ·intro i A b hA la hb
  rcases ST i A hA with ⟨hi,hA⟩ | ⟨rfl,rfl⟩
  ·rw[RL i hi]at hb
   exact h.ro i A b hA la hb
  ·cases A<;>first | (cases WD;done) | cases la
theorem a5.addBox (h:a5 C S μ st a w) (hf:bO st.heap.length st.env=true) (hh:bL st.heap.length st.heap=true) {B:ax} {u:Value} (WB:sP B) {S1:Nat→Prop} {μ1:Nat→Value} (G':aJ S1 μ1 w u B)
  (RR:∀b,bI u b→C.W.heap.size≤b∧¬S b∧∀(i:Nat) (A:ax),st.heap[i]?=some A→A.live=true→¬bI (μ i) b):a5 C S (a7 μ st.heap.length u) ⟨st.env,st.heap++[B]⟩ a w :=
 h.addBoxA hf hh (ax.isOwn_arr (uZ WB)) (μ1:=μ) (G'.flat WB) RR
def wA (P:Program) (g:FuncId) (H:List ax) (ds:List D) (q':Option (List D)) (r:D) (B:ax):Prop :=
 match q' with
 | none=>sP B∧aq P g ds [] false r [B]
 | some q'=>sP B∧rz H ds q'∧aq P g q' [] false r [B]
theorem a5.callCoreO (h:a5 C S μ st a w) {f:FuncId} {q':List D} {r:D} {B:ax} {us:Array Value} (WB:sP B) (hc:aq C.P f q' [] false r [B]) {S1:Nat→Prop} (h1:∀b,S b→S1 b) (h2:∀b,S1 b→b<w.heap.size)
  (RU:aO S1 μ w q' us) (hr:zV r=true) (hf:bO st.heap.length st.env=true) (hh:bL st.heap.length st.heap=true) {K:Value→World→Prop} (hK:∀S' μ' u w',a5 C S' μ' ⟨st.env,st.heap++[B]⟩ a w'→ao S' μ' w' (r.up st.heap.length) u→K u w') :
  Calls C.P f us w (fun e w'=>∃u,e=.returned u∧K u w'):=by
 have slt:=h.slt
 refine(hc S1 μ w us h2 (h.glob.stable (fun b hb _=>h1 b hb) (fun _ _ _=>rfl) (Pl _)) ⟨fun id B hB=>by simp at hB,fun i j A B b hA=>by simp at hA,fun i A b hA=>by simp at hA⟩ RU).mono ?_
 rintro e w' ⟨u,μ',S',rfl,q1,q2,q3,q4,q5,q6,q7,q8,q9,q10,q11,_⟩
 have hR:a5 C S μ st a w':=h.grow q1 q2 q3 q4 (fun k hk=>q5 k hk (fun i A hA=>by simp at hA)) (fun b hb=>hb) (fun b hb=>.inl hb) (fun b hb=>Qi (slt b hb) q4)
 have G':=q10.box 0 B rfl
 have hl:B.live=true:=by have:=uZ WB;cases B<;>first | rfl | cases this
 refine⟨u,rfl,hK S (a7 μ st.heap.length (μ' 0)) u w' (hR.addBox hf hh WB G' (fun b hb=>?_)) (zW q9 hr (az _ _ _))⟩
 have RR:w.heap.size≤b:=by
  rcases q11 0 B b rfl hl hb with hb | ⟨j,A',R4,_⟩
  ·exact hb
  ·simp at R4
 refine⟨PZ h.size RR,fun hS=>by have:=slt b hS;omega,fun i A hA la SU=>?_⟩
 have:=(h.heap.box i A hA).lt la b SU
 omega
theorem a5.callOwn (h:a5 C S μ st a w) {f:FuncId} {ds:List D} {q':Option (List D)} {r:D} {B:ax} {us:Array Value} (hc:wA C.P f st.heap ds q' r B) (RU:aO S μ w ds us) (hr:zV r=true)
  (hf:bO st.heap.length st.env=true) (hh:bL st.heap.length st.heap=true) {K:Value→World→Prop} (hK:∀S' μ' u w',a5 C S' μ' ⟨st.env,st.heap++[B]⟩ a w'→ao S' μ' w' (r.up st.heap.length) u→K u w') :
  Calls C.P f us w (fun e w'=>∃u,e=.returned u∧K u w'):=by
 cases q' with
 | none=>exact h.callCoreO hc.1 hc.2 (fun _ h=>h) h.slt RU hr hf hh hK
 | some q' =>
  obtain⟨WB,TA,hc⟩:=hc
  have slt:=h.slt
  have hSc:∀b,(S b∨∃(i:Nat) (A:ax),st.heap[i]?=some A∧A.mem=true∧bI (μ i) b)→b<w.heap.size:=by
   rintro b (hb | ⟨i,A,hA,hl,hb⟩)
   ·exact slt b hb
   ·exact(h.heap.box i A hA).lt (ax.mem_live hl) b hb
  refine h.callCoreO WB hc (S1:=fun b=>S b∨∃(i:Nat) (A:ax),st.heap[i]?=some A∧A.mem=true∧bI (μ i) b) (fun b hb=>.inl hb) hSc ?_ hr hf hh hK
  exact j9 h.heap (fun b hb=>.inl hb) slt (.inl (fun i A b hA hl hb=>.inr ⟨i,A,hA,hl,hb⟩)) TA RU
def rU (P:Program) (g:FuncId) (H:List ax) (ds:List D) (q':Option (List D)) (r:D) (B:ax):Prop :=
 match q' with
 | none=>aq P g ds [] false r [B]
 | some q'=>rz H ds q'∧aq P g q' [] false r [B]
theorem a5.callDeep (h:a5 C S μ st a w) {f:FuncId} {ds:List D} {q':Option (List D)} {r:D} {B:ax} {us:Array Value} (hc:rU C.P f st.heap ds q' r B) (RU:aO S μ w ds us) (hr:zV r=true) (hB:B.isOwn=true) (SM:fp ds=true)
  (hf:bO st.heap.length st.env=true) (hh:bL st.heap.length st.heap=true) {K:Value→World→Prop} (hK:∀S' μ' u w',a5 C S' μ' ⟨st.env,st.heap++[B]⟩ a w'→ao S' μ' w' (r.up st.heap.length) u→K u w') :
  Calls C.P f us w (fun e w'=>∃u,e=.returned u∧K u w'):=by
 obtain⟨U5,hc',VN⟩:∃U5,aq C.P f U5 [] false r [B]∧aO S μ w U5 us:=by
  cases q' with
  | none=>exact⟨ds,hc,RU⟩
  | some q'=>exact⟨q',hc.2,j9 h.heap (fun _ h=>h) h.slt (.inr SM) hc.1 RU⟩
 have slt:=h.slt
 refine(hc' S μ w us slt h.glob ⟨fun id B hB=>by simp at hB,fun i j A B b hA=>by simp at hA,fun i A b hA=>by simp at hA⟩ VN).mono ?_
 rintro e w' ⟨u,μ',S',rfl,q1,q2,q3,q4,q5,q6,q7,q8,q9,q10,q11,_⟩
 have hR:a5 C S' μ st a w':=h.grow q1 q2 q3 q4 (fun k hk=>q5 k hk (fun i A hA=>by simp at hA)) q6 q7 q8
 have G':=q10.box 0 B rfl
 have hl:B.live=true:=by cases B<;>first | rfl | cases hB
 refine⟨u,rfl,hK S' (a7 μ st.heap.length (μ' 0)) u w' (hR.addBoxA hf hh hB G' (fun b hb=>?_)) (zW q9 hr (az _ _ _))⟩
 have RR:w.heap.size≤b:=by
  rcases q11 0 B b rfl hl hb with hb | ⟨j,A',R4,_⟩
  ·exact hb
  ·simp at R4
 refine⟨PZ h.size RR,q10.notS 0 B b rfl hl hb,fun i A hA la SU=>?_⟩
 have:=(h.heap.box i A hA).lt la b SU
 omega
def EB (j i:Nat):List (Nat×D)→Option (List (Nat×D))
 | []=>some []
 | (t,d)::r=>match EB j i r with
  | some r'=>match d with
   | .own k=>if Nat.beq k j then some ((t,.own i)::r')else if Nat.beq k i then none else some ((t,.own k)::r')
   | d=>if D.free j d&&D.free i d then some ((t,d)::r')else none
  | none=>none
theorem xS {j i:Nat}:∀{env Tu:List (Nat×D)} {t:Nat} {d':D},EB j i env=some Tu→(t,d')∈Tu→∃d,(t,d)∈env∧((d=.own j∧d'=.own i)∨(d'=d∧D.free j d=true∧D.free i d=true))
 | [],Tu,t,d',h,hm=>by
  simp only[EB,Pu]at h
  subst h
  simp at hm
 | (s,e)::r,Tu,t,d',h,hm=>by
  unfold EB at h
  split at h
  ·rename_i r' hr'
   have tail:(t,d')∈r'→∃d,(t,d)∈(s,e)::r∧((d=.own j∧d'=.own i)∨(d'=d∧D.free j d=true∧D.free i d=true)):=fun hm=>by
    obtain⟨d,h1,h2⟩:=xS hr' hm
    exact⟨d,PN _ h1,h2⟩
   split at h
   ·rename_i k
    split at h
    ·rename_i hk
     simp only[Pu]at h
     subst h
     rcases Qf.1 hm with hm | hm
     ·cases hm
      have:=PC.mp hk
      subst this
      exact⟨_,PT ..,.inl ⟨rfl,rfl⟩⟩
     ·exact tail hm
    ·rename_i hk
     split at h
     ·cases h
     ·rename_i Tl
      simp only[Pu]at h
      subst h
      rcases Qf.1 hm with hm | hm
      ·cases hm
       refine⟨_,PT ..,.inr ⟨rfl,?_,?_⟩⟩
       ·simp only[D.free];simp only[Ra]at hk;rw[hk];rfl
       ·simp only[D.free];simp only[Ra]at Tl;rw[Tl];rfl
      ·exact tail hm
   ·split at h
    ·rename_i hc
     simp only[Pg]at hc
     simp only[Pu]at h
     subst h
     rcases Qf.1 hm with hm | hm
     ·cases hm
      exact⟨_,PT ..,.inr ⟨rfl,hc.1,hc.2⟩⟩
     ·exact tail hm
    ·cases h
  ·cases h
def Bo (j i:Nat) (st:St):Option St :=
 if bL i st.heap&&bL j st.heap&&!(Nat.beq i j)&&Nat.blt i st.heap.length then
  match st.heap[j]? with
  | some (.arr E sz enc d l)=>match EB j i st.env with
   | some env=>some ⟨env,(st.heap.set i (.arr E sz enc d l)).set j .dead⟩
   | none=>none
  | _=>none
 else none
theorem a5.move (h:a5 C S μ st a w) {j i:Nat} {L':St} (hm:Bo j i st=some L'):a5 C S (a7 μ i (μ j)) L' a w:=by
 unfold Bo at hm
 split at hm
 ·rename_i hc
  simp only[Pg,PR,Rm]at hc
  obtain⟨⟨⟨fi,fj⟩,hij⟩,RF⟩:=hc
  have hij:i≠j:=fun e=>by rw[e]at hij;simp at hij
  split at hm
  ·rename_i E sz α enc d l hj
   split at hm
   ·rename_i env he
    simp only[Pu]at hm
    subst hm
    have hjl:j<st.heap.length:=(Pf.1 hj).1
    have ST:∀(k:Nat) (A:ax),((st.heap.set i (ax.arr E sz enc d l)).set j .dead)[k]?=some A→(k=j∧A=.dead)∨(k=i∧A=ax.arr E sz enc d l)∨(k≠i∧k≠j∧st.heap[k]?=some A):=by
     intro k A hA
     by_cases e1:k=j
     ·subst e1
      rw[PB (by rw[PO];exact hjl)]at hA
      exact .inl ⟨rfl,by cases hA;rfl⟩
     ·rw[PA (fun e=>e1 e.symm)]at hA
      by_cases e2:k=i
      ·subst e2
       rw[PB RF]at hA
       exact .inr (.inl ⟨rfl,by cases hA;rfl⟩)
      ·rw[PA (fun e=>e2 e.symm)]at hA
       exact .inr (.inr ⟨e2,e1,hA⟩)
    have Sp:(ax.arr E sz enc d l).live=true:=rfl
    have oth:∀k,k≠i→a7 μ i (μ j) k=μ k:=fun k hk=>aL _ _ hk
    refine⟨h.os,h.tape,h.output,h.size,h.old,h.mono,h.new,h.slt,?_,⟨?_,?_,?_⟩,?_,?_,h.tsize,?_⟩
    ·intro t d' UO
     obtain⟨d0,h0,hd⟩:=xS he UO
     obtain⟨q1,q2⟩:=h.env t d0 h0
     refine⟨q1,?_⟩
     rcases hd with ⟨rfl,rfl⟩ | ⟨rfl,g1,g2⟩
     ·generalize hu:a.tmps.getD t undef=u at q2
      cases q2
      have:=ao.own (S:=S) (μ:=a7 μ i (μ j)) (w:=w) i
      rwa [az]at this
     ·exact q2.stable (fun _ h _=>h) (fun _ _ _=>rfl) (Pl _) (fun id RE=>oth id (fun e=>by rw[e,g2]at RE;cases RE))
    ·intro k A hA
     rcases ST k A hA with ⟨rfl,rfl⟩ | ⟨rfl,rfl⟩ | ⟨h1,h2,hA⟩
     ·trivial
     ·rw[az]
      exact(h.heap.box j _ hj).stable (fun _ h _=>h) (fun _ _ _=>rfl) (Pl _) (fun id RE=>by cases RE) (fun _ _=>rfl)
     ·rw[oth k h1]
      exact(h.heap.box k A hA).stable (fun _ h _=>h) (fun _ _ _=>rfl) (Pl _) (fun id RE=>oth id (fun e=>by rw[e,cX fi hA]at RE;cases RE)) (fun _ _=>rfl)
    ·intro k m A A' b hA R4 la Vx hb R6
     have g1:=ST k A hA
     have g2:=ST m A' R4
     clear hA R4
     rcases g1 with ⟨rfl,rfl⟩ | ⟨rfl,rfl⟩ | ⟨h1,h2,hA⟩<;>rcases g2 with ⟨rfl,rfl⟩ | ⟨rfl,rfl⟩ | ⟨h3,h4,R4⟩<;>first | (cases la;done) | (cases Vx;done) | rfl | skip
     ·rw[az]at hb;rw[oth m h3]at R6
      exact(h4 (h.heap.apart j m _ _ b hj R4 Sp Vx hb R6).symm).elim
     ·rw[az]at R6;rw[oth k h1]at hb
      exact(h2 (h.heap.apart k j _ _ b hA hj la Sp hb R6)).elim
     ·rw[oth k h1]at hb;rw[oth m h3]at R6
      exact h.heap.apart k m A A' b hA R4 la Vx hb R6
    ·intro k A b hA la hb
     rcases ST k A hA with ⟨rfl,rfl⟩ | ⟨rfl,rfl⟩ | ⟨h1,h2,hA⟩
     ·cases la
     ·rw[az]at hb;exact h.heap.notS j _ b hj Sp hb
     ·rw[oth k h1]at hb;exact h.heap.notS k A b hA la hb
    ·intro k A b hA la hb
     rcases ST k A hA with ⟨rfl,rfl⟩ | ⟨rfl,rfl⟩ | ⟨h1,h2,hA⟩
     ·cases la
     ·rw[az]at hb;exact h.may j _ b hj Sp hb
     ·rw[oth k h1]at hb;exact h.may k A b hA la hb
    ·obtain⟨mk,e1,e2,e3⟩:=h.defers
     refine⟨mk,e1,e2,fun b hb=>?_⟩
     obtain⟨g1,g2,g3,g4⟩:=e3 b hb
     refine⟨g1,g2,g3,fun k A hA la SU=>?_⟩
     rcases ST k A hA with ⟨rfl,rfl⟩ | ⟨rfl,rfl⟩ | ⟨h1,h2,hA⟩
     ·cases la
     ·rw[az]at SU;exact g4 j _ hj Sp SU
     ·rw[oth k h1]at SU;exact g4 k A hA la SU
    ·intro k A b hA la hb
     rcases ST k A hA with ⟨rfl,rfl⟩ | ⟨rfl,rfl⟩ | ⟨h1,h2,hA⟩
     ·cases la
     ·cases la
     ·rw[oth k h1]at hb;exact h.ro k A b hA la hb
   ·cases hm
  ·cases hm
 ·cases hm
end
end Go.Proofs.Ytnlmlkbaflmgcaa
