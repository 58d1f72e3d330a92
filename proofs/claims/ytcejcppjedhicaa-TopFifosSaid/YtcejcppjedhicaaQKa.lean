/-
  Values,memory and effects on pure data. Generic: over any program.
-/
import Derived.Test.YtcejcppjedhicaaQGlb
namespace Go.Proofs.Ytcejcppjedhicaa
open Go.RowKit
set_option linter.unusedVariables false
set_option linter.unusedSimpArgs false
def kL:Option Nat→Fence
 | none=>Fence.wide
 | some l=>Fence.wide.inRound l
theorem oe (rd:Option Nat) (f:FuncId):(kL rd).fn f:=by cases rd<;>trivial
theorem vl (rd:Option Nat):(kL rd).depth=none:=by cases rd<;>rfl
theorem z6 (P:Program) (rd:Option Nat):Machine.fenced P (kL rd)=Machine.fenced P Fence.wide:=by cases rd<;>rfl
theorem yi {rd:Option Nat} {n:Nat} {P:Program} {f:FuncId} {args:Array Value} {w:World} {R:Ending→World→Prop} (h:Calls P f args w R):CallsIn (kL rd) n P f args w R:=by
 have h':CallsIn Fence.wide n P f args w R:=callsIn_wide.2 h
 cases rd with
 | none=>exact h'
 | some l=>exact h'.inRound l
theorem z9 {rd:Option Nat} {n:Nat} {P:Program} {row:String} {args:Array Value} {w:World} {R:Value→World→Prop} (h:Rows P row args w R):RowsIn (kL rd) n P row args w R :=
 fun c cs _=>let ⟨v,w',r,s⟩:=h c cs;⟨v,w',r,by rw[z6];exact stepsIn_wide.2 s⟩
theorem iI {rd:Option Nat} {P:Program} {o:Oper} {a:Act} {K:Act→World→Prop} {Q:Exit→Act→World→Prop} {r:Result Next} (h:o.upon P a K Q r):o.uponIn (kL rd) 0 P a K Q r:=by
 have hd:(kL rd).depth.isSome=true→1≤0:=fun h=>by rw[vl]at h;cases h
 cases r with
 | ok x w' =>
  cases x<;>simp only[Oper.upon]at h<;>simp only[Oper.uponIn]<;>first
   | exact h
   | exact⟨hd,yi h⟩
   | exact⟨hd,z9 h⟩
   | exact h.elim
 | halt x w'=>cases x<;>simp only[Oper.upon]at h<;>simp only[Oper.uponIn]<;>exact h
def cH (o:Oper):Bool :=
 match o.op with
 | .defer _=>true
 | _=>false
def BD (ops:Array Oper):Prop:=∀(i:Nat) (o:Oper),ops[i]?=some o→cH o=false
theorem Di {o:Oper} (h:cH o=false) (rd:Option Nat) (ρ:Operand→Value):o.semAt rd ρ=execOp ρ o:=by
 cases rd with
 | none=>exact Oper.semAt_none ..
 | some l =>
  refine Oper.semAt_some l ρ o (fun c hc=>?_)
  unfold cH at h
  rw[hc]at h
  cases h
theorem sx {rd:Option Nat} {P:Program} {o:Oper} {a:Act} {w:World} {K:Act→World→Prop} {Q:Exit→Act→World→Prop} (hd:cH o=false) (h:o.uponIn (kL rd) 0 P a K Q ((execOp a.eval o).run P w)):o.wpIn (kL rd) 0 P a w K Q :=
 ⟨fun f _=>oe rd f,by rw[Di hd];exact h⟩
theorem KF {rd:Option Nat} {P:Program} {ops:Array Oper} {i:Nat} {o:Oper} {a:Act} {w:World} {K:Act→World→Prop} {Q:Exit→Act→World→Prop} (hnd:BD ops) (ho:ops[i]?=some o) (h:o.uponIn (kL rd) 0 P a K Q ((execOp a.eval o).run P w)):o.wpIn (kL rd) 0 P a w K Q :=
 sx (hnd i o ho) h
theorem nk.uponIn {rd:Option Nat} {P:Program} {R:Value→World→Prop} {o:Oper} {a:Act} {next:Act→World→Prop} {Q:Exit→Act→World→Prop} {r:Result Next}
  (h:nk P R r) (hn:∀v w',R v w'→next (a.put o.dst v) w'):o.uponIn (kL rd) 0 P a next Q r:=iI (h.upon hn)
section
variable {P:Program} {ops:Array Oper} {sp:rG} {base:Act} {w0:World} {rd:Option Nat}
theorem wS {Q:Exit→Act→World→Prop} (Rd:GU ops sp base) {m0:Nat} (SG:BB ops m0=true):∀(fuel m:Nat) (C':Array Bool) (a:Act) (w:World),m0≤m→m+fuel=ops.size→C'.size=ops.size →
  (∀i,i<m→C'.getD i false=true)→(∀i,m≤i→C'.getD i false=false) →
  wpOpsIn (kL rd) 0 P ops Q (List.range' m fuel) a w→wpAnyIn (kL rd) 0 P .any ops Q fuel C' a w:=by
 obtain⟨_,ht⟩:=od SG
 intro fuel
 induction fuel with
 | zero =>
  intro m C' a w hm Uk hs hall RZ h
  refine⟨O5.2 (fun i hi=>?_),by simpa[wpOpsIn]using h⟩
  obtain⟨h1,o,ho,_⟩:=(bQ C' hs i).1 hi
  have:=(NV.1 ho).1
  rw[hall i (by omega)]at h1
  cases h1
 | succ fuel ih =>
  intro m C' a w hm Uk hs hall RZ h
  have hmlt:m<ops.size:=by omega
  have ho:ops[m]?=some ops[m]:=N7 hmlt
  have hrm:m∈Region.ready .any ops C':=(bQ C' hs m).2 ⟨RZ m (NN _),_,ho,fun e he hb=>hall _ (by have:=Rd.top m _ ho e he hb;omega)⟩
  refine⟨fun Sb=>(by rw[Sb]at hrm;cases hrm),fun i hi=>?_⟩
  obtain⟨Re,o,hio,hr⟩:=(bQ C' hs i).1 hi
  have UE:i=m:=by
   have hilt:=(NV.1 hio).1
   have h1:m≤i:=by
    refine OX fun hn=>?_
    rw[hall i (by omega)]at Re
    cases Re
   refine OX fun hn=>?_
   have hb:=ht i (by omega) hilt m (by omega)
   have:=f4 (C':=C') (fun k ok hk U' e he hbe=>by
    have hkm:k<m:=by
     refine OX fun hn=>?_
     rw[RZ k (by omega)]at hk
     cases hk
    have:=Rd.top k ok U' e he hbe
    exact hall _ (by omega)) 12 i m (fun o' Rq=>by rw[hio]at Rq;cases Rq;exact hr) hb
   rw[RZ m (NN _)]at this
   cases this
  subst UE
  rw[List.range'_succ,wpOpsIn_cons]at h
  refine wpOpIn_mono (fun a w h=>?_) h
  have UD:i<C'.size:=by omega
  refine ih (i+1) _ a w (by omega) (by omega) (by simpa using hs) (fun k hk=>?_) (fun k hk=>?_) h
  ·rw[aV _ _ _ UD]
   split
   ·rfl
   ·exact hall k (by omega)
  ·rw[aV _ _ _ UD,NQ (by omega)]
   exact RZ k (by omega)
end
inductive V:Type 1
 | int (k:IntKind) (n:Int)
 | bool (b:Bool)
 | str (s:ByteArray)
 | sl (sz:Nat) {α:Type} (enc:α→List V) (d:α) (l:List α)
 | mp (es:List (Int×Value))
 | nilf
 | nsl
 | esl
 | sm (ag:Bool) {α:Type} (enc:α→List V) (d:α) (l:List (ByteArray×α))
 | nmp
 | fnv (f:FuncId)
def BE (ag:Bool) (n:Nat) (v:Value) (f:Nat→Value):Prop:=if ag=true then ∃us:Array Value,v=.agg us∧us.size=n∧∀j,j<n→us[j]?=some (f j)else n=1∧v=f 0
inductive cz (S:Nat→Prop) (w:World):V→Value→Prop
 | int (k:IntKind) (n:Int):cz S w (.int k n) (.int k n)
 | bool (b:Bool):cz S w (.bool b) (.bool b)
 | str (s:ByteArray):cz S w (.str s) (.string s)
 | nil (sz:Nat) {α:Type} (enc:α→List V) (d:α) (p:Option Addr) (c:Nat):c≤maxLen→(p=none→c=0)→cz S w (.sl sz enc d []) (.slice p 0 c)
 | row (sz:Nat) {α:Type} (enc:α→List V) (d:α) (l:List α) (b I' c n:Nat) (us:Nat→Nat→Value):S b→b<w.heap.size→n=l.length→n≤c→c≤maxLen →
   (∀(i:Nat) (x:α),l[i]?=some x→(enc x).length=sz) →
   (∀(i:Nat) (x:α) (j:Nat) (y:V),l[i]?=some x→(enc x)[j]?=some y→w.cell? ⟨b,I'+(i*sz+j),none⟩=some (us i j)) →
   (∀(i:Nat) (x:α) (j:Nat) (y:V),l[i]?=some x→(enc x)[j]?=some y→cz S w y (us i j))→cz S w (.sl sz enc d l) (.slice (some ⟨b,I',none⟩) n c)
 | mp (es:List (Int×Value)) (b clock:Nat) (arr:Array MapEntry):S b→b<w.heap.size→w.heap[b]?=some (.map arr clock)→arr.toList.map (fun e=>(e.key,e.val))=es.map (fun e=>(Value.int .i64 e.1,e.2))→cz S w (.mp es) (.map (some b))
 | nilf:cz S w .nilf .nilFunc
 | nsl:cz S w .nsl (.slice none 0 0)
 | esl (p:Addr) (c:Nat):c≤maxLen→cz S w .esl (.slice (some p) 0 c)
 | smn (ag:Bool) {α:Type} (enc:α→List V) (d:α):cz S w (.sm ag enc d []) (.map none)
 | sm (ag:Bool) {α:Type} (enc:α→List V) (d:α) (l:List (ByteArray×α)) (b clock:Nat) (arr:Array MapEntry) (us:Nat→Nat→Value):S b→b<w.heap.size→w.heap[b]?=some (.map arr clock)→arr.size=l.length →
   (∀(i:Nat) (k:ByteArray) (x:α),l[i]?=some (k,x)→∃e,arr[i]?=some e∧e.key=.string k∧BE ag (enc x).length e.val (us i)) →
   (∀(i:Nat) (k:ByteArray) (x:α) (j:Nat) (y:V),l[i]?=some (k,x)→(enc x)[j]?=some y→cz S w y (us i j))→cz S w (.sm ag enc d l) (.map (some b))
 | nmp:cz S w .nmp (.map none)
 | fnv (f:FuncId):cz S w (.fnv f) (.func (.func f) #[] #[])
theorem cz.stable {S S':Nat→Prop} {w w':World} {x:V} {u:Value} (h:cz S w x u) (hS:∀b,S b→b<w.heap.size→S' b)
  (hw:∀b,S b→b<w.heap.size→w'.heap[b]?=w.heap[b]?) (Qk:w.heap.size≤w'.heap.size):cz S' w' x u:=by
 induction h with
 | int k n=>exact .int k n
 | bool b=>exact .bool b
 | str s=>exact .str s
 | nil sz enc d p c h1 h2=>exact .nil sz enc d p c h1 h2
 | row sz enc d l b I' c n us h1 h2 h3 h4 h5 h6 h7 _ ih =>
  exact .row sz enc d l b I' c n us (hS b h1 h2) (by omega) h3 h4 h5 h6 (fun i x j y hx hy=>by rw[← h7 i x j y hx hy];exact PH (hw b h1 h2)) ih
 | nilf=>exact .nilf
 | nsl=>exact .nsl
 | esl p c h=>exact .esl p c h
 | mp es b clock arr h1 h2 h3 h4=>exact .mp es b clock arr (hS b h1 h2) (by omega) (by rw[hw b h1 h2];exact h3) h4
 | smn ag enc d=>exact .smn ag enc d
 | sm ag enc d l b clock arr us h1 h2 h3 h4 h5 _ ih=>exact .sm ag enc d l b clock arr us (hS b h1 h2) (by omega) (by rw[hw b h1 h2];exact h3) h4 h5 ih
 | nmp=>exact .nmp
 | fnv f=>exact .fnv f
theorem cz.one {S:Nat→Prop} {w:World} {x:V} {u:Value} (h:cz S w x u):u.oneCell'=true:=by
 cases h<;>rfl
inductive D:Type 1
 | v (x:V)
 | nils
 | own (id:Nat)
 | ptr (id i sz I':Nat)
 | iptr (cs:List V) (I':Nat)
 | agg (cs:List D)
 | tup (cs:List D)
 | fn (f:Fn) (first cap:List D)
 | yld (id:Nat)
 | capd (x:V)
 | gr (g r:Nat)
 | pre (id sz:Nat) (sh:Bool) {α:Type} (enc:α→List V) (d:α) (l:List α)
 | junk
mutual
def D.free (id:Nat):D→Bool
 | .own i=>!(Nat.beq i id)
 | .ptr i _ _ _=>!(Nat.beq i id)
 | .agg cs=>D.freeL id cs
 | .tup cs=>D.freeL id cs
 | .fn _ a b=>D.freeL id a&&D.freeL id b
 | .yld i=>!(Nat.beq i id)
 | .gr i _=>!(Nat.beq i id)
 | .pre i _ _ _ _ _=>!(Nat.beq i id)
 | _=>true
def D.freeL (id:Nat):List D→Bool
 | []=>true
 | c::cs=>D.free id c&&D.freeL id cs
end
def aF:Value→Option Nat
 | .pointer (some a)=>some a.block
 | .slice (some a) _ _=>some a.block
 | .map (some b)=>some b
 | _=>none
def bu (u:Value) (b:Nat):Prop:=aF u=some b∨∃us:Array Value,u=.tuple us∧∃(k:Nat) (x:Value),us[k]?=some x∧aF x=some b
theorem bu.one {u:Value} {b k:Nat} (hk:bu u k) (h:aF u=some b):some b=some k:=by
 rcases hk with hk | ⟨us,rfl,_⟩
 ·rw[← h,← hk]
 ·cases h
theorem bu.bl {u:Value} {b:Nat} (hk:bu u b) (h:u.oneCell'=true):aF u=some b:=by
 rcases hk with hk | ⟨us,rfl,_⟩
 ·exact hk
 ·cases h
theorem bu.of {u:Value} {b:Nat} (h:aF u=some b):bu u b:=.inl h
inductive ai (S:Nat→Prop) (μ:Nat→Value) (w:World):D→Value→Prop
 | v (x:V) (u:Value):cz S w x u→ai S μ w (.v x) u
 | nils:ai S μ w .nils (.slice none 0 0)
 | own (id:Nat):ai S μ w (.own id) (μ id)
 | ptr (id i sz I' b:Nat):aF (μ id)=some b→ai S μ w (.ptr id i sz I') (.pointer (some ⟨b,i*sz+I',none⟩))
 | iptr (cs:List V) (I' b o:Nat) (us:Nat→Value):S b→b<w.heap.size→(∀(j:Nat) (y:V),cs[j]?=some y→w.cell? ⟨b,o+j,none⟩=some (us j)) →
   (∀(j:Nat) (y:V),cs[j]?=some y→cz S w y (us j))→ai S μ w (.iptr cs I') (.pointer (some ⟨b,o+I',none⟩))
 | agg (cs:List D) (us:Array Value):us.size=cs.length→(∀(j:Nat) (y:D) (u:Value),cs[j]?=some y→us[j]?=some u→ai S μ w y u)→ai S μ w (.agg cs) (.agg us)
 | tup (cs:List D) (us:Array Value):us.size=cs.length→(∀(j:Nat) (y:D) (u:Value),cs[j]?=some y→us[j]?=some u→ai S μ w y u)→ai S μ w (.tup cs) (.tuple us)
 | fn (f:Fn) (first cap:List D) (us vs:Array Value):us.size=first.length→(∀(j:Nat) (y:D) (u:Value),first[j]?=some y→us[j]?=some u→ai S μ w y u) →
   vs.size=cap.length→(∀(j:Nat) (y:D) (u:Value),cap[j]?=some y→vs[j]?=some u→ai S μ w y u)→ai S μ w (.fn f first cap) (.func f us vs)
 | yld (id l:Nat):aF (μ id)=some l→ai S μ w (.yld id) (.func (.yield l) #[] #[])
 | capd (x:V) (p:Option Addr) (n:Nat):cz S w x (.slice p n n)→ai S μ w (.capd x) (.slice p n n)
 | gr (g r:Nat) (us:Array Value) (u:Value):μ g=.tuple us→us[r]?=some u→u.oneCell'=true→ai S μ w (.gr g r) u
 | preA (id sz:Nat) (sh:Bool) {α:Type} (enc:α→List V) (d:α) (l:List α) (g n c:Nat):sh=true→aF (μ id)=some g→n=l.length→n≤c→c≤maxLen→ai S μ w (.pre id sz sh enc d l) (.slice (some ⟨g,0,none⟩) n c)
 | preB (id sz:Nat) (sh:Bool) {α:Type} (enc:α→List V) (d:α) (l:List α) (u:Value):cz S w (.sl sz enc d l) u→ai S μ w (.pre id sz sh enc d l) u
 | junk (u:Value):ai S μ w .junk u
theorem D.freeL_get {id:Nat}:∀{cs:List D} {j:Nat} {y:D},D.freeL id cs=true→cs[j]?=some y→D.free id y=true
 | [],_,_,_,h=>by simp at h
 | c::cs,0,y,h,hy=>by
  simp only[D.freeL,NK]at h
  simp at hy
  subst hy
  exact h.1
 | c::cs,j+1,y,h,hy=>by
  simp only[D.freeL,NK]at h
  exact D.freeL_get h.2 (by simpa using hy)
theorem ai.stable {S S':Nat→Prop} {μ μ':Nat→Value} {w w':World} {d:D} {u:Value} (h:ai S μ w d u) (hS:∀b,S b→b<w.heap.size→S' b)
  (hw:∀b,S b→b<w.heap.size→w'.heap[b]?=w.heap[b]?) (Qk:w.heap.size≤w'.heap.size) (hμ:∀id,d.free id=false→μ' id=μ id):ai S' μ' w' d u:=by
 induction h with
 | v x u h=>exact .v x u (h.stable hS hw Qk)
 | nils=>exact .nils
 | own id=>rw[← hμ id (by simp[D.free])];exact .own id
 | ptr id i sz I' b h=>exact .ptr id i sz I' b (by rw[hμ id (by simp[D.free])];exact h)
 | yld id l h=>exact .yld id l (by rw[hμ id (by simp[D.free])];exact h)
 | iptr cs I' b o us h1 h2 h3 h4=>exact .iptr cs I' b o us (hS b h1 h2) (by omega) (fun j y hy=>by rw[← h3 j y hy];exact PH (hw b h1 h2)) (fun j y hy=>(h4 j y hy).stable hS hw Qk)
 | agg cs us h1 _ ih =>
  refine .agg cs us h1 (fun j y u hy hu=>ih j y u hy hu (fun id hf=>hμ id ?_))
  simp only[D.free]
  cases hc:D.freeL id cs
  ·rfl
  ·rw[D.freeL_get hc hy]at hf;cases hf
 | tup cs us h1 _ ih =>
  refine .tup cs us h1 (fun j y u hy hu=>ih j y u hy hu (fun id hf=>hμ id ?_))
  simp only[D.free]
  cases hc:D.freeL id cs
  ·rfl
  ·rw[D.freeL_get hc hy]at hf;cases hf
 | fn f a b us vs h1 _ h2 _ UR ih2 =>
  refine .fn f a b us vs h1 (fun j y u hy hu=>UR j y u hy hu (fun id hf=>hμ id ?_)) h2 (fun j y u hy hu=>ih2 j y u hy hu (fun id hf=>hμ id ?_))
  ·simp only[D.free]
   cases hc:D.freeL id a
   ·rfl
   ·rw[D.freeL_get hc hy]at hf;cases hf
  ·simp only[D.free]
   cases hc:D.freeL id b
   ·simp
   ·rw[D.freeL_get hc hy]at hf;cases hf
 | capd x p n h=>exact .capd x p n (h.stable hS hw Qk)
 | gr g r us u h h1 h2=>exact .gr g r us u (by rw[hμ g (by simp[D.free])];exact h) h1 h2
 | preA id sz sh enc d l g n c h0 h1 h2 h3 h4=>exact .preA id sz sh enc d l g n c h0 (by rw[hμ id (by simp[D.free])];exact h1) h2 h3 h4
 | preB id sz sh enc d l u h=>exact .preB id sz sh enc d l u (h.stable hS hw Qk)
 | junk u=>exact .junk u
def D.one:D→Bool
 | .agg _=>false
 | .tup _=>false
 | .junk=>false
 | .own _=>true
 | _=>true
structure qo:Type 1 where
 E:TypeId
 sz:Nat
 α:Type
 enc:α→List V
 d:α
 l:List α
inductive Ce:Type 1
 | v (x:V)
 | me (r:Nat)
inductive ak:Type 1
 | dead
 | var (T:TypeId) (cs:List D)
 | arr (E:TypeId) (sz:Nat) {α:Type} (enc:α→List V) (d:α) (l:List α)
 | loop (l:Nat) (tm:Array Value) (nt:Nat) (env:List (Nat×D)) (ps:List Nat) (assign body:Code) (state:LoopState) (pending:Option Code)
 | frame (tm:Array Value) (env:List (Nat×D))
 | ro (E:TypeId) (sz:Nat) {α:Type} (enc:α→List V) (d:α) (l:List α)
 | mpb (t:TypeId) (ag:Bool) {α:Type} (enc:α→List V) (d:α) (l:List (ByteArray×α))
 | arrD (E:TypeId) (sz n:Nat) (gs:List Nat) (cell:Nat→Nat→D)
 | grp (n:Nat) (f:Nat→qo)
 | nest (E:TypeId) (sz n:Nat) (ce:Nat→Nat→Ce) (m:Nat) (f:Nat→qo)
def bv (id:Nat):List (Nat×D)→Bool
 | []=>true
 | (_,d)::r=>D.free id d&&bv id r
theorem bR {id:Nat}:∀{env:List (Nat×D)} {t:Nat} {d:D},bv id env=true→(t,d)∈env→D.free id d=true
 | (s,e)::r,t,d,h,hm=>by
  simp only[bv,NK]at h
  rcases OB.1 hm with hm | hm
  ·cases hm;exact h.1
  ·exact bR h.2 hm
def jD (ag:Bool) (cs:List V):D:=if ag then .agg (cs.map D.v)else (cs.map D.v).getD 0 .junk
theorem vn (ag:Bool) (cs:List V) (id:Nat):D.free id (jD ag cs)=true:=by
 have hL:∀cs:List V,D.freeL id (cs.map D.v)=true:=by
  intro cs
  induction cs with
  | nil=>rfl
  | cons c r ih=>rw[OQ,D.freeL,ih];rfl
 unfold jD
 split
 ·rw[D.free];exact hL cs
 ·cases cs<;>rfl
def BF (S:Nat→Prop) (μ:Nat→Value) (w:World) (ag:Bool) {α:Type} (enc:α→List V) (l:List (ByteArray×α)) (arr:Array MapEntry):Prop :=
 arr.size=l.length∧∀(i:Nat) (k:ByteArray) (x:α),l[i]?=some (k,x)→∃e,arr[i]?=some e∧e.key=.string k∧(ag=false→(enc x).length=1)∧ai S μ w (jD ag (enc x)) e.val
def qt (S:Nat→Prop) (w:World) (u:Value) (x:qo):Prop:=(∀(i:Nat) (y:x.α),x.l[i]?=some y→(x.enc y).length=x.sz)∧∃xs,w.ownsRow 0 x.E x.sz u x.l.length xs∧∀(i:Nat) (z:x.α) (j:Nat) (y:V),x.l[i]?=some z→(x.enc z)[j]?=some y→∃v,xs[i*x.sz+j]?=some v∧cz S w y v
def KG (S:Nat→Prop) (w:World) (us:Array Value):Ce→Value→Prop
 | .v x,z=>cz S w x z
 | .me r,z=>us[r+1]?=some z
def aG (S:Nat→Prop) (μ:Nat→Value) (w:World) (u:Value):ak→Prop
 | .dead=>True
 | .var T cs=>∃b vs,u=.pointer (some ⟨b,0,none⟩)∧w.heap[b]?=some (.cells vs T (0,0))∧vs.size=cs.length∧∀(j:Nat) (y:D) (x:Value),cs[j]?=some y→vs[j]?=some x→ai S μ w y x
 | .arr (α:=α) E sz enc _ l=>(∀(i:Nat) (x:α),l[i]?=some x→(enc x).length=sz)∧∃xs,w.ownsRow 0 E sz u l.length xs∧∀(i:Nat) (x:α) (j:Nat) (y:V),l[i]?=some x→(enc x)[j]?=some y→∃z,xs[i*sz+j]?=some z∧cz S w y z
 | .loop l tm nt env ps assign body state pending=>∃(r:Loop),u=.pointer (some ⟨l,0,none⟩)∧w.heap[l]?=some (.loop r)∧r.state=state∧r.pending=pending∧r.params=ps.toArray∧r.assign=assign∧r.body=body∧r.tmps=tm∧tm.size=nt ∧
   ∀(t:Nat) (d:D),(t,d)∈env→t<nt∧ai S μ w d (tm.getD t undef)
 | .frame tm env=>u=.bool true∧∀(t:Nat) (d:D),(t,d)∈env→t<tm.size∧ai S μ w d (tm.getD t undef)
 | .ro (α:=α) E sz enc _ l=>(∀(i:Nat) (x:α),l[i]?=some x→(enc x).length=sz)∧∃xs,w.ownsRow 0 E sz u l.length xs∧∀(i:Nat) (x:α) (j:Nat) (y:V),l[i]?=some x→(enc x)[j]?=some y→∃z,xs[i*sz+j]?=some z∧cz S w y z
 | .mpb t ag enc _ l=>∃b arr clock,u=.map (some b)∧w.heap[b]?=some (.map arr clock)∧BF S μ w ag enc l arr
 | .arrD E sz n gs cell=>(∀(i j id:Nat),i<n→j<sz→gs.all (fun g=>!(Nat.beq g id))=true→(cell i j).free id=true)∧∃xs,w.ownsRow 0 E sz u n xs∧∀(i j:Nat),i<n→j<sz→∃z,xs[i*sz+j]?=some z∧z.oneCell'=true∧ai S μ w (cell i j) z
 | .grp n f=>∃us:Array Value,u=.tuple us∧us.size=n∧(∀(r:Nat) (v:Value),us[r]?=some v→v.oneCell'=true∧qt S w v (f r))∧∀(r r':Nat) (v v':Value) (b:Nat),us[r]?=some v→us[r']?=some v'→aF v=some b→aF v'=some b→r=r'
 | .nest E sz n ce m f=>∃us:Array Value,u=.tuple us∧us.size=m+1∧(∃(v0:Value) (xs:List Value),us[0]?=some v0∧v0.oneCell'=true∧w.ownsRow 0 E sz v0 n xs∧∀(i j:Nat),i<n→j<sz→∃z,xs[i*sz+j]?=some z∧z.oneCell'=true∧KG S w us (ce i j) z) ∧
   (∀(r:Nat) (v:Value),us[r+1]?=some v→v.oneCell'=true∧qt S w v (f r))∧∀(r r':Nat) (v v':Value) (b:Nat),us[r]?=some v→us[r']?=some v'→aF v=some b→aF v'=some b→r=r'
def ak.live:ak→Bool
 | .dead=>false
 | .ro _ _ _ _ _=>false
 | _=>true
def ak.isRo:ak→Bool
 | .ro _ _ _ _ _=>true
 | _=>false
theorem ak.three (A:ak):A=.dead∨A.live=true∨A.isRo=true:=by
 cases A<;>first | exact .inl rfl | exact .inr (.inl rfl) | exact .inr (.inr rfl)
def ak.isArr:ak→Bool
 | .arr _ _ _ _ _=>true
 | _=>false
def ak.isOwn:ak→Bool
 | .arr _ _ _ _ _=>true
 | .nest _ _ _ _ _ _=>true
 | _=>false
theorem ak.isOwn_arr {B:ak} (h:B.isArr=true):B.isOwn=true:=by cases B<;>first | rfl | cases h
theorem Dj {B:ak} (h:B.live=true):B.isRo=false:=by cases B<;>first | rfl | cases h
theorem kO {B:ak} (h:B.isArr=true):B.isRo=false:=by cases B<;>first | rfl | cases h
def ak.free (id:Nat):ak→Bool
 | .var _ cs=>D.freeL id cs
 | .loop _ _ _ env _ _ _ _ _=>bv id env
 | .frame _ env=>bv id env
 | .arrD _ _ _ gs _=>gs.all (fun g=>!(Nat.beq g id))
 | _=>true
theorem qt.stable {S S':Nat→Prop} {w w':World} {u:Value} {x:qo} (h:qt S w u x) (hS:∀b,S b→b<w.heap.size→S' b)
  (hw:∀b,S b→b<w.heap.size→w'.heap[b]?=w.heap[b]?) (Qk:w.heap.size≤w'.heap.size) (hb:∀b,aF u=some b→w'.heap[b]?=w.heap[b]?):qt S' w' u x:=by
 obtain⟨h0,xs,⟨h1,h2⟩,h3⟩:=h
 refine⟨h0,xs,⟨h1,?_⟩,fun i x j y hx hy=>?_⟩
 ·rcases h2 with h2 | ⟨g,cap,Qz,rfl,hg,hh,r⟩
  ·exact .inl h2
  ·exact .inr ⟨g,cap,Qz,rfl,hg,by rw[hb g rfl];exact hh,r⟩
 ·obtain⟨z,hz,hr⟩:=h3 i x j y hx hy
  exact⟨z,hz,hr.stable hS hw Qk⟩
theorem ta {w w':World} {E sz n:Nat} {u:Value} {xs:List Value} (h:w.ownsRow 0 E sz u n xs) (hb:∀b,aF u=some b→w'.heap[b]?=w.heap[b]?):w'.ownsRow 0 E sz u n xs:=by
 obtain⟨h1,h2⟩:=h
 refine⟨h1,?_⟩
 rcases h2 with h2 | ⟨g,cap,Qz,rfl,hg,hh,r⟩
 ·exact .inl h2
 ·exact .inr ⟨g,cap,Qz,rfl,hg,by rw[hb g rfl];exact hh,r⟩
theorem aG.stable {S S':Nat→Prop} {μ μ':Nat→Value} {w w':World} {u:Value} {B:ak} (h:aG S μ w u B) (hS:∀b,S b→b<w.heap.size→S' b)
  (hw:∀b,S b→b<w.heap.size→w'.heap[b]?=w.heap[b]?) (Qk:w.heap.size≤w'.heap.size) (hμ:∀id,B.free id=false→μ' id=μ id)
  (QJ:∀b,bu u b→w'.heap[b]?=w.heap[b]?):aG S' μ' w' u B:=by
 have hb:∀b,aF u=some b→w'.heap[b]?=w.heap[b]?:=fun b h=>QJ b (.of h)
 cases B with
 | dead=>trivial
 | var T cs =>
  obtain⟨b,vs,rfl,h1,h2,h3⟩:=h
  refine⟨b,vs,rfl,by rw[hb b rfl];exact h1,h2,fun j y x hy hx=>(h3 j y x hy hx).stable hS hw Qk (fun id hf=>hμ id ?_)⟩
  simp only[ak.free]
  cases hc:D.freeL id cs
  ·rfl
  ·rw[D.freeL_get hc hy]at hf;cases hf
 | arr E sz enc d l =>
  obtain⟨h0,xs,⟨h1,h2⟩,h3⟩:=h
  refine⟨h0,xs,⟨h1,?_⟩,fun i x j y hx hy=>?_⟩
  ·rcases h2 with h2 | ⟨g,cap,Qz,rfl,hg,hh,r⟩
   ·exact .inl h2
   ·exact .inr ⟨g,cap,Qz,rfl,hg,by rw[hb g rfl];exact hh,r⟩
  ·obtain⟨z,hz,hr⟩:=h3 i x j y hx hy
   exact⟨z,hz,hr.stable hS hw Qk⟩
 | loop l tm nt env ps assign body state pending =>
  obtain⟨r,rfl,h1,h2,h3,h4,h5,h6,h7,h7',h8⟩:=h
  refine⟨r,rfl,by rw[hb l rfl];exact h1,h2,h3,h4,h5,h6,h7,h7',fun t d hm=>?_⟩
  obtain⟨q1,q2⟩:=h8 t d hm
  refine⟨q1,q2.stable hS hw Qk (fun id hf=>hμ id ?_)⟩
  simp only[ak.free]
  cases hc:bv id env
  ·rfl
  ·rw[bR hc hm]at hf;cases hf
 | frame tm env =>
  obtain⟨rfl,h8⟩:=h
  refine⟨rfl,fun t d hm=>?_⟩
  obtain⟨q1,q2⟩:=h8 t d hm
  refine⟨q1,q2.stable hS hw Qk (fun id hf=>hμ id ?_)⟩
  simp only[ak.free]
  cases hc:bv id env
  ·rfl
  ·rw[bR hc hm]at hf;cases hf
 | ro E sz enc d l =>
  obtain⟨h0,xs,⟨h1,h2⟩,h3⟩:=h
  refine⟨h0,xs,⟨h1,?_⟩,fun i x j y hx hy=>?_⟩
  ·rcases h2 with h2 | ⟨g,cap,Qz,rfl,hg,hh,r⟩
   ·exact .inl h2
   ·exact .inr ⟨g,cap,Qz,rfl,hg,by rw[hb g rfl];exact hh,r⟩
  ·obtain⟨z,hz,hr⟩:=h3 i x j y hx hy
   exact⟨z,hz,hr.stable hS hw Qk⟩
 | mpb t ag enc d l =>
  obtain⟨b,arr,clock,rfl,h1,h2,h3⟩:=h
  refine⟨b,arr,clock,rfl,by rw[hb b rfl];exact h1,h2,fun i k x hx=>?_⟩
  obtain⟨e,q1,q2,q4,q3⟩:=h3 i k x hx
  exact⟨e,q1,q2,q4,q3.stable hS hw Qk (fun id hf=>by rw[vn]at hf;cases hf)⟩
 | arrD E sz n gs cell =>
  obtain⟨h0,xs,⟨h1,h2⟩,h3⟩:=h
  refine⟨h0,xs,⟨h1,?_⟩,fun i j hi hj=>?_⟩
  ·rcases h2 with h2 | ⟨g,cap,Qz,rfl,hg,hh,r⟩
   ·exact .inl h2
   ·exact .inr ⟨g,cap,Qz,rfl,hg,by rw[hb g rfl];exact hh,r⟩
  ·obtain⟨z,hz,ho,hr⟩:=h3 i j hi hj
   refine⟨z,hz,ho,hr.stable hS hw Qk (fun id hf=>hμ id ?_)⟩
   simp only[ak.free]
   cases hc:gs.all (fun g=>!(Nat.beq g id))
   ·rfl
   ·rw[h0 i j id hi hj hc]at hf;cases hf
 | grp n f =>
  obtain⟨us,rfl,h1,h2,h3⟩:=h
  exact⟨us,rfl,h1,fun r v hv=>⟨(h2 r v hv).1,(h2 r v hv).2.stable hS hw Qk (fun b Va=>QJ b (.inr ⟨us,rfl,r,v,hv,Va⟩))⟩,h3⟩
 | nest E sz n ce m f =>
  obtain⟨us,rfl,h1,⟨v0,xs,g1,g2,g3,g4⟩,h2,h3⟩:=h
  refine⟨us,rfl,h1,⟨v0,xs,g1,g2,ta g3 (fun b Va=>QJ b (.inr ⟨us,rfl,0,v0,g1,Va⟩)),fun i j hi hj=>?_⟩,fun r v hv=>⟨(h2 r v hv).1,(h2 r v hv).2.stable hS hw Qk (fun b Va=>QJ b (.inr ⟨us,rfl,r+1,v,hv,Va⟩))⟩,h3⟩
  obtain⟨z,q1,q2,q3⟩:=g4 i j hi hj
  refine⟨z,q1,q2,?_⟩
  cases hc:ce i j with
  | v x=>rw[hc]at q3;exact q3.stable hS hw Qk
  | me r=>rw[hc]at q3;exact q3
theorem aG.ro_arr {S:Nat→Prop} {μ:Nat→Value} {w:World} {u:Value} {E sz:Nat} {α:Type} {enc:α→List V} {d:α} {l:List α} (h:aG S μ w u (.ro E sz enc d l)):aG S μ w u (.arr E sz enc d l):=h
theorem aG.lt {S:Nat→Prop} {μ:Nat→Value} {w:World} {u:Value} {B:ak} (h:aG S μ w u B) (hl:B.live=true):∀b,bu u b→b<w.heap.size:=by
 intro b hb
 cases B with
 | dead=>cases hl
 | var T cs =>
  obtain⟨b',vs,rfl,h1,_⟩:=h
  simp[bu,aF]at hb
  subst hb
  exact(NV.1 h1).1
 | arr E sz enc d l =>
  obtain⟨_,xs,⟨h1,h2⟩,_⟩:=h
  rcases h2 with ⟨rfl,_⟩ | ⟨g,cap,Qz,rfl,hg,hh,r⟩
  ·simp[bu,aF]at hb
  ·simp[bu,aF]at hb
   subst hb
   exact(NV.1 hh).1
 | loop l tm nt env ps assign body state pending =>
  obtain⟨r,rfl,h1,_⟩:=h
  simp[bu,aF]at hb
  subst hb
  exact(NV.1 h1).1
 | frame tm env =>
  obtain⟨rfl,_⟩:=h
  simp[bu,aF]at hb
 | ro E sz enc d l=>cases hl
 | mpb t ag enc d l =>
  obtain⟨b',arr,clock,rfl,h1,_⟩:=h
  simp[bu,aF]at hb
  subst hb
  exact(NV.1 h1).1
 | arrD E sz n gs cell =>
  obtain⟨_,xs,⟨h1,h2⟩,_⟩:=h
  rcases h2 with ⟨rfl,_⟩ | ⟨g,cap,Qz,rfl,hg,hh,r⟩
  ·simp[bu,aF]at hb
  ·simp[bu,aF]at hb
   subst hb
   exact(NV.1 hh).1
 | grp n f =>
  obtain⟨us,rfl,h1,h2,h3⟩:=h
  rcases hb with hb | ⟨RL,he,k,x,hx,hb⟩
  ·simp[aF]at hb
  ·cases he
   obtain⟨_,_,xs,⟨_,h2⟩,_⟩:=h2 k x hx
   rcases h2 with ⟨rfl,_⟩ | ⟨g,cap,Qz,rfl,hg,hh,r⟩
   ·simp[aF]at hb
   ·simp[aF]at hb
    subst hb
    exact(NV.1 hh).1
 | nest E sz n ce m f =>
  obtain⟨us,rfl,h1,⟨v0,xs,g1,g2,g3,g4⟩,h2,h3⟩:=h
  rcases hb with hb | ⟨RL,he,k,x,hx,hb⟩
  ·simp[aF]at hb
  ·cases he
   have key:∃E' QK n' xs',w.ownsRow 0 E' QK x n' xs':=by
    cases k with
    | zero=>rw[g1]at hx;cases hx;exact⟨_,_,_,_,g3⟩
    | succ k=>obtain⟨_,_,xs,h,_⟩:=h2 k x hx;exact⟨_,_,_,_,h⟩
   obtain⟨E',QK,n',xs',_,h2⟩:=key
   rcases h2 with ⟨rfl,_⟩ | ⟨g,cap,Qz,rfl,hg,hh,r⟩
   ·simp[aF]at hb
   ·simp[aF]at hb
    subst hb
    exact(NV.1 hh).1
theorem aG.ltR {S:Nat→Prop} {μ:Nat→Value} {w:World} {u:Value} {B:ak} (h:aG S μ w u B) (hr:B.isRo=true):∀b,bu u b→b<w.heap.size:=by
 cases B<;>first | (cases hr;done) | skip
 exact h.ro_arr.lt rfl
structure a9 (S:Nat→Prop) (μ:Nat→Value) (w:World) (H:List ak):Prop where
 box:∀(id:Nat) (B:ak),H[id]?=some B→aG S μ w (μ id) B
 apart:∀(i j:Nat) (A B:ak) (b:Nat),H[i]?=some A→H[j]?=some B→A.live=true→B.live=true→bu (μ i) b→bu (μ j) b→i=j
 notS:∀(i:Nat) (A:ak) (b:Nat),H[i]?=some A→A.live=true→bu (μ i) b→¬S b
def gK:List (Nat×List V):=MV.map fun p=>(p.1,p.2.map fun o=>o.elim .nilf V.fnv)
def fy (S:Nat→Prop) (w:World):Prop:=∀(g:Nat) (cs:List V),(g,cs)∈gK→S g∧g<w.heap.size∧∀(j:Nat) (y:V),cs[j]?=some y→∃u,w.cell? ⟨g,j,none⟩=some u∧cz S w y u
theorem fy.stable {S S':Nat→Prop} {w w':World} (h:fy S w) (hS:∀b,S b→b<w.heap.size→S' b)
  (hw:∀b,S b→b<w.heap.size→w'.heap[b]?=w.heap[b]?) (Qk:w.heap.size≤w'.heap.size):fy S' w':=fun g cs hm=>by
 obtain⟨h1,h2,h3⟩:=h g cs hm
 refine⟨hS g h1 h2,by omega,fun j y hy=>?_⟩
 obtain⟨u,hu,hr⟩:=h3 j y hy
 exact⟨u,by rw[← hu];exact PH (hw g h1 h2),hr.stable hS hw Qk⟩
theorem Dk {S:Nat→Prop} {w:World} (h:MV=[]):fy S w:=fun g cs hm=>by
 unfold gK at hm;rw[h]at hm;cases hm
structure jB where
 P:Program
 W:World
 S0:Nat→Prop
 nt:Nat
 susp:List Nat
 rd:Option Nat
 g:fy S0 W
structure St:Type 1 where
 env:List (Nat×D)
 heap:List ak
structure aU (C:jB) (S:Nat→Prop) (μ:Nat→Value) (st:St) (a:Act) (w:World):Prop where
 os:w.os=C.W.os
 tape:w.tape=C.W.tape
 output:w.output=C.W.output
 size:C.W.heap.size≤w.heap.size
 old:∀k,k<C.W.heap.size→w.heap[k]?=C.W.heap[k]?
 mono:∀b,C.S0 b→S b
 new:∀b,S b→C.S0 b∨C.W.heap.size≤b
 slt:∀b,S b→b<w.heap.size
 env:∀(t:Nat) (d:D),(t,d)∈st.env→t<C.nt∧ai S μ w d (a.tmps.getD t undef)
 heap:a9 S μ w st.heap
 may:∀(i:Nat) (A:ak) (b:Nat),st.heap[i]?=some A→A.live=true→bu (μ i) b→C.W.heap.size≤b
 defers:∃mk:List Nat,a.defers=mk.map (fun b=>{ target:=.collected b,args:=#[] })∧(mk++C.susp).Nodup∧∀b∈mk++C.susp,w.heap[b]?=some (.deferred (some []))∧C.W.heap.size≤b∧¬S b∧∀(i:Nat) (A:ak),st.heap[i]?=some A→A.live=true→¬bu (μ i) b
 tsize:a.tmps.size=C.nt
 ro:∀(i:Nat) (A:ak) (b:Nat),st.heap[i]?=some A→A.isRo=true→bu (μ i) b→b<C.W.heap.size
theorem aU.glob {C:jB} {S:Nat→Prop} {μ:Nat→Value} {st:St} {a:Act} {w:World} (h:aU C S μ st a w):fy S w :=
 C.g.stable (fun b hb _=>h.mono b hb) (fun b _ hb=>h.old b hb) h.size
def D.ofVal1:Value→D
 | .int k n=>.v (.int k n)
 | .bool b=>.v (.bool b)
 | .string s=>.v (.str s)
 | .slice none 0 0=>.nils
 | .nilFunc=>.v .nilf
 | .map none=>.v .nmp
 | .func f a b=>if a.isEmpty&&b.isEmpty then .fn f [] []else .junk
 | _=>.junk
def D.ofVal:Value→D
 | .agg us=>.agg (us.toList.map D.ofVal1)
 | u=>D.ofVal1 u
theorem cO {α:Type _} (l:List α) (d:α) {i:Nat} (h:i<l.length):l.getD i d=l[i]:=by simp[List.getD,h]
theorem ai.ofVal1 (S:Nat→Prop) (μ:Nat→Value) (w:World) (u:Value):ai S μ w (D.ofVal1 u) u:=by
 unfold D.ofVal1
 split
 ·exact .v _ _ (.int _ _)
 ·exact .v _ _ (.bool _)
 ·exact .v _ _ (.str _)
 ·exact .nils
 ·exact .v _ _ .nilf
 ·exact .v _ _ .nmp
 ·split
  ·rename_i f a b h
   simp only[NK,Array.isEmpty_iff]at h
   obtain⟨rfl,rfl⟩:=h
   exact .fn f [] [] #[] #[] rfl (fun j y u h=>by simp at h) rfl (fun j y u h=>by simp at h)
  ·exact .junk _
 ·exact .junk _
theorem ai.ofVal (S:Nat→Prop) (μ:Nat→Value) (w:World) (u:Value):ai S μ w (D.ofVal u) u:=by
 unfold D.ofVal
 split
 ·rename_i us
  refine .agg _ us (by simp) (fun j y u hy hu=>?_)
  simp only[N4,Oo,hu,Oz,NW]at hy
  subst hy
  exact ai.ofVal1 S μ w u
 ·exact ai.ofVal1 S μ w _
abbrev R1:=D×Prop
def aM:R1:=(.junk,False)
def az (P:Program) (t:TypeId):Nat:=((P.info? t).map (·.size)).getD 0
def vo (P:Program) (t:TypeId):Bool:=match P.underlying t with | some (.struct _)=>true | some (.array _ _)=>true | _=>false
def ca (P:Program) (t:TypeId):Bool:=(P.info? t).isSome&&(P.underlying t).isSome
def cJ (P:Program) (t:TypeId) (cs:List D) (I':Nat):R1 :=
 if ca P t&&Nat.ble (I'+az P t) cs.length&&(vo P t||Nat.beq (az P t) 1)then
  (if vo P t then .agg ((cs.drop I').take (az P t))else cs.getD I' .junk,True)
 else aM
def BG (P:Program) (t:TypeId) (H:List ak):D→R1
 | .ptr id i sz I'=>match H[id]? with
  | some (.var _ cs)=>if Nat.beq i 0 then cJ P t cs I' else aM
  | some (.arr _ QK enc d l)=>if Nat.beq sz QK then
    (match cJ P t ((enc (l.getD i d)).map D.v) I' with | (x,p)=>(x,i<l.length∧p))else aM
  | some (.ro _ QK enc d l)=>if Nat.beq sz QK then
    (match cJ P t ((enc (l.getD i d)).map D.v) I' with | (x,p)=>(x,i<l.length∧p))else aM
  | some (.arrD _ QK n _ cell)=>if Nat.beq sz QK then
    (match cJ P t ((List.range sz).map (cell i)) I' with | (x,p)=>(x,i<n∧p))else aM
  | _=>aM
 | .iptr cs I'=>cJ P t (cs.map D.v) I'
 | _=>aM
section
variable {P:Program} {S:Nat→Prop} {μ:Nat→Value} {w:World}
theorem dm {t:TypeId} (h:ca P t=true) (w:World):(sizeOf t).run P w=.ok (az P t) w:=by
 unfold ca at h
 cases hi:P.info? t with
 | none=>simp[hi]at h
 | some i=>simp[sizeOf,typeInfo,hi,az]
theorem vp {t:TypeId} (h:ca P t=true) (w:World):(isAgg t).run P w=.ok (vo P t) w:=by
 unfold ca at h
 cases hu:P.underlying t with
 | none=>simp[hu]at h
 | some d =>
  unfold isAgg
  simp only[NP,Ou hu,NO]
  unfold vo
  rw[hu]
  cases d<;>rfl
def jE (S:Nat→Prop) (μ:Nat→Value) (w:World) (b o:Nat) (cs:List D):Prop :=
 ∀(j:Nat) (y:D),cs[j]?=some y→∃u,w.cell? ⟨b,o+j,none⟩=some u∧ai S μ w y u
theorem cQ (b o i:Nat):(⟨b,o,none⟩:Addr).add i=⟨b,o+i,none⟩:=by unfold Addr.add;split<;>simp_all
theorem iJ {b o:Nat} {cs:List D} (h:jE S μ w b o cs):∀(n i:Nat) (QW:Array Value),i+n≤cs.length →
  ∃us:Array Value,(loadCellsFrom ⟨b,o,none⟩ i n QW).run P w=.ok (QW++us) w∧us.size=n∧∀(j:Nat) (y:D) (u:Value),cs[i+j]?=some y→us[j]?=some u→ai S μ w y u
 | 0,i,QW,_=>⟨#[],by simp[loadCellsFrom],rfl,fun j y u _ hu=>by simp at hu⟩
 | n+1,i,QW,hl=>by
  have hi:i<cs.length:=by omega
  obtain⟨u,hu,hr⟩:=h i cs[i] (NM hi)
  obtain⟨us,h1,h2,h3⟩:=iJ h n (i+1) (QW.push u) (by omega)
  refine⟨#[u]++us,?_,by simp[h2];omega,fun j y x hy hx=>?_⟩
  ·have hld:(load ⟨b,o+i,none⟩).run P w=.ok u w:=by simp[load,Sem.run,hu]
   rw[loadCellsFrom,cQ,NP,hld,NO,h1]
   congr 1
   rw[Array.push_eq_append,Array.append_assoc]
  ·cases j with
   | zero =>
    have RV:x=u:=by
     rw[Array.getElem?_append_left (by simp)]at hx
     simpa using hx.symm
    rw[RV]
    rw[Ph,NM hi]at hy
    cases hy
    exact hr
   | succ j =>
    refine h3 j y x (by rw[show i+1+j=i+(j+1)from by omega];exact hy) ?_
    rw[Array.getElem?_append_right (by simp)]at hx
    simpa using hx
theorem f7 {t:TypeId} {cs:List D} {I' b o:Nat} {d:D} {p:Prop} (hp:cJ P t cs I'=(d,p)) (D':p) (h:jE S μ w b o cs) :
  ∃u,(loadVar t ⟨b,o+I',none⟩).run P w=.ok u w∧ai S μ w d u:=by
 unfold cJ at hp
 split at hp
 ·rename_i hc
  simp only[NK,Oq,OY,N2]at hc
  obtain⟨⟨hk,hl⟩,hs⟩:=hc
  simp only[NS]at hp
  obtain⟨rfl,_⟩:=hp
  have h':jE S μ w b (o+I') (cs.drop I'):=fun j y hy=>by
   rw[O6]at hy
   rw[Nat.add_assoc]
   exact h _ _ hy
  unfold loadVar
  simp only[NP,vp hk,NO]
  cases ha:vo P t
  ·simp only[OC,Pf]
   rw[ha]at hs
   have Qy:az P t=1:=by simpa using hs
   have Ql:I'<cs.length:=by omega
   obtain⟨u,hu,hr⟩:=h I' cs[I'] (NM Ql)
   refine⟨u,by simp[load,Sem.run,hu],?_⟩
   rw[cO _ _ Ql]
   exact hr
  ·simp only[Pe]
   obtain⟨us,h1,h2,h3⟩:=iJ (P:=P) h' (az P t) 0 #[] (by rw[N9];omega)
   refine⟨.agg us,?_,.agg _ _ (by rw[h2,N3,N9];omega) (fun j y u hy hu=>h3 j y u ?_ hu)⟩
   ·simp only[NP,dm hk,NO,loadCells,h1,N6,Array.empty_append]
   ·rw[Ob]at hy
    split at hy
    ·simpa using hy
    ·cases hy
 ·simp only[aM,NS]at hp
  obtain⟨_,rfl⟩:=hp
  exact D'.elim
theorem jf {E sz n:Nat} {u:Value} {xs:List Value} (h:w.ownsRow 0 E sz u n xs) {b:Nat} (hb:aF u=some b):∀j z,xs[j]?=some z→w.cell? ⟨b,j,none⟩=some z:=by
 intro j z hz
 have D':u.ownBlock=some b:=by
  cases u<;>simp[aF]at hb ⊢
  ·obtain⟨h1,h2⟩:=h
   rcases h2 with ⟨h2,_⟩ | ⟨_,_,_,h2,_⟩<;>cases h2
  ·rename_i a len cap
   cases a with
   | none=>simp at hb
   | some a=>simp at hb;simp[Value.ownBlock,hb]
  ·obtain⟨h1,h2⟩:=h
   rcases h2 with ⟨h2,_⟩ | ⟨_,_,_,h2,_⟩<;>cases h2
 have:=h.cells D' j z hz
 rwa [cQ,OA]at this
theorem aG.arr_cells {E sz:Nat} {α:Type} {enc:α→List V} {d:α} {l:List α} {u:Value} (h:aG S μ w u (.arr E sz enc d l)) {b i:Nat} (hb:aF u=some b) (hi:i<l.length) :
  jE S μ w b (i*sz) ((enc (l.getD i d)).map D.v):=by
 obtain⟨h0,xs,h1,h2⟩:=h
 intro j y hy
 rw[N4]at hy
 have hx:l[i]?=some (l.getD i d):=by rw[cO _ _ hi];exact NM hi
 cases he:(enc (l.getD i d))[j]? with
 | none=>rw[he]at hy;cases hy
 | some z =>
  rw[he]at hy
  simp only[Oz,NW]at hy
  subst hy
  obtain⟨q,hq,hr⟩:=h2 i _ j z hx he
  exact⟨q,jf h1 hb _ _ hq,.v _ _ hr⟩
theorem aG.arrD_cells {E sz n:Nat} {gs:List Nat} {cell:Nat→Nat→D} {u:Value} (h:aG S μ w u (.arrD E sz n gs cell)) {b i:Nat} (hb:aF u=some b) (hi:i<n) :
  jE S μ w b (i*sz) ((List.range sz).map (cell i)):=by
 obtain⟨h0,xs,h1,h2⟩:=h
 intro j y hy
 rw[N4]at hy
 by_cases hj:j<sz
 ·rw[List.getElem?_range hj]at hy
  simp only[Oz,NW]at hy
  subst hy
  obtain⟨z,hz,_,hr⟩:=h2 i j hi hj
  exact⟨z,jf h1 hb _ _ hz,hr⟩
 ·rw[OL (by simp;omega)]at hy
  cases hy
theorem aG.var_cells {T:TypeId} {cs:List D} {u:Value} (h:aG S μ w u (.var T cs)) {b:Nat} (hb:aF u=some b):jE S μ w b 0 cs:=by
 obtain⟨b',vs,rfl,h1,h2,h3⟩:=h
 simp[aF]at hb
 subst hb
 intro j y hy
 have hj:=(NL.1 hy).1
 have hv:vs[j]?=some vs[j]:=N7 (by omega)
 refine⟨vs[j],?_,h3 j y _ hy hv⟩
 simp[World.cell?,h1,hv]
theorem tb {cs:List V} {I':Nat} {u:Value} (h:ai S μ w (.iptr cs I') u):∃b o,u=.pointer (some ⟨b,o+I',none⟩)∧jE S μ w b o (cs.map D.v):=by
 cases h with
 | iptr _ _ b o us h1 h2 h3 h4 =>
  refine⟨b,o,rfl,fun j y hy=>?_⟩
  rw[N4]at hy
  cases he:cs[j]? with
  | none=>rw[he]at hy;cases hy
  | some z =>
   rw[he]at hy
   simp only[Oz,NW]at hy
   subst hy
   exact⟨_,h3 j z he,.v _ _ (h4 j z he)⟩
theorem md {id i sz I':Nat} {u:Value} (h:ai S μ w (.ptr id i sz I') u):∃b,aF (μ id)=some b∧u=.pointer (some ⟨b,i*sz+I',none⟩):=by
 cases h with
 | ptr _ _ _ _ b h=>exact⟨b,h,rfl⟩
theorem rH {t:TypeId} {H:List ak} (hH:a9 S μ w H) {a d:D} {p:Prop} {ua:Value} (ha:ai S μ w a ua) (hp:BG P t H a=(d,p)) (D':p) :
  ∃u,(Instr.loadAt t ua).run P w=.ok u w∧ai S μ w d u:=by
 unfold BG at hp
 split at hp
 ·rename_i id i sz I'
  obtain⟨b,hb,rfl⟩:=md ha
  split at hp
  ·rename_i T cs G'
   split at hp
   ·rename_i hi
    simp only[N2]at hi
    subst hi
    obtain⟨u,h1,h2⟩:=f7 (P:=P) hp D' ((hH.box id _ G').var_cells hb)
    refine⟨u,?_,h2⟩
    simpa[Instr.loadAt,Instr.sureAddr]using h1
   ·cases hp;exact D'.elim
  ·rename_i E QK enc d' l G'
   split at hp
   ·rename_i hs
    simp only[N2]at hs
    subst hs
    generalize hq:cJ P t ((enc (l.getD i d')).map D.v) I'=q at hp
    obtain⟨x,p'⟩:=q
    simp only[NS]at hp
    obtain⟨rfl,rfl⟩:=hp
    obtain⟨u,h1,h2⟩:=f7 (P:=P) hq D'.2 ((hH.box id _ G').arr_cells hb D'.1)
    refine⟨u,?_,h2⟩
    simpa[Instr.loadAt,Instr.sureAddr]using h1
   ·cases hp;exact D'.elim
  ·rename_i E QK enc d' l G'
   split at hp
   ·rename_i hs
    simp only[N2]at hs
    subst hs
    generalize hq:cJ P t ((enc (l.getD i d')).map D.v) I'=q at hp
    obtain⟨x,p'⟩:=q
    simp only[NS]at hp
    obtain⟨rfl,rfl⟩:=hp
    obtain⟨u,h1,h2⟩:=f7 (P:=P) hq D'.2 ((hH.box id _ G').ro_arr.arr_cells hb D'.1)
    refine⟨u,?_,h2⟩
    simpa[Instr.loadAt,Instr.sureAddr]using h1
   ·cases hp;exact D'.elim
  ·rename_i E QK n gs cell G'
   split at hp
   ·rename_i hs
    simp only[N2]at hs
    subst hs
    generalize hq:cJ P t ((List.range sz).map (cell i)) I'=q at hp
    obtain⟨x,p'⟩:=q
    simp only[NS]at hp
    obtain⟨rfl,rfl⟩:=hp
    obtain⟨u,h1,h2⟩:=f7 (P:=P) hq D'.2 ((hH.box id _ G').arrD_cells hb D'.1)
    refine⟨u,?_,h2⟩
    simpa[Instr.loadAt,Instr.sureAddr]using h1
   ·cases hp;exact D'.elim
  ·cases hp;exact D'.elim
 ·rename_i cs I'
  obtain⟨b,o,rfl,hc⟩:=tb ha
  obtain⟨u,h1,h2⟩:=f7 (P:=P) hp D' hc
  refine⟨u,?_,h2⟩
  simpa[Instr.loadAt,Instr.sureAddr]using h1
 ·cases hp;exact D'.elim
end
def tc (n:Nat):D→R1
 | .ptr id i sz I'=>(.ptr id i sz (I'+n),True)
 | .iptr cs I'=>(.iptr cs (I'+n),True)
 | _=>aM
def og (P:Program) (s:TypeId) (x:D) (f:Nat):R1 :=
 match P.underlying s with
 | some (.struct fs)=>match fs[f]? with
  | some Vb=>if ca P Vb.type&&!(Nat.beq (az P Vb.type) 0)then tc Vb.offset x else aM
  | none=>aM
 | _=>aM
def oh (P:Program) (t:TypeId) (H:List ak) (x i:D):R1 :=
 match P.underlying t,x,i with
 | some (.slice e),.v (.sl sz enc d l),.v (.int _ n)=>if ca P e&&Nat.beq (az P e) sz then (.iptr (enc (l.getD n.toNat d)) 0,0≤n∧n<l.length)else aM
 | some (.slice e),.own id,.v (.int _ n)=>match H[id]? with
  | some (.arr _ sz _ _ l)=>if ca P e&&Nat.beq (az P e) sz then (.ptr id n.toNat sz 0,0≤n∧n<l.length)else aM
  | some (.ro _ sz _ _ l)=>if ca P e&&Nat.beq (az P e) sz then (.ptr id n.toNat sz 0,0≤n∧n<l.length)else aM
  | some (.arrD _ sz m _ _)=>if ca P e&&Nat.beq (az P e) sz then (.ptr id n.toNat sz 0,0≤n∧n<(m:Int))else aM
  | _=>aM
 | some (.array len e),x,.v (.int _ n)=>if ca P e then (match tc (n.toNat*az P e) x with | (y,p)=>(y,(0≤n∧n<(len:Int))∧p))else aM
 | _,_,_=>aM
def Aa (P:Program) (t:TypeId) (x:D) (f:Nat):R1 :=
 match P.underlying t,x with
 | some (.struct fs),.agg cs=>match fs[f]? with
  | some Vb=>cJ P Vb.type cs Vb.offset
  | none=>aM
 | _,_=>aM
def Ab (P:Program) (t:TypeId) (x i:D):R1 :=
 match P.underlying t,x,i with
 | some (.array len e),.agg cs,.v (.int _ n)=>(match cJ P e cs (n.toNat*az P e)with | (y,p)=>(y,(0≤n∧n<(len:Int))∧p))
 | some .string,.v (.str s),.v (.int _ n)=>(.v (.int .u8 ((s[n.toNat]?).getD 0).toNat),0≤n∧n<s.size)
 | _,_,_=>aM
def GY:D→Int
 | .v (.int _ n)=>n
 | _=>0
def Ac:D→Bool
 | .v (.int _ _)=>true
 | _=>false
def oi:Option D→Int
 | some d=>GY d
 | none=>0
def gI (n:Int):Option D→Int
 | some d=>GY d
 | none=>n
def wT:Option D→Bool
 | some d=>Ac d
 | none=>true
def wU {α:Type} (l:List α):Option D→List α
 | some h=>l.take (GY h).toNat
 | none=>l
def wV (P:Program) (t:TypeId) (x:D) (lo hi mx:Option D):R1 :=
 match P.underlying t,x,lo,hi,mx with
 | some (.slice e),.v (.sl sz enc d l),none,some (.v (.int _ h)),some (.v (.int _ k))=>if ca P e&&Nat.beq (az P e) sz then
   (.capd (.sl sz enc d (l.take h.toNat)),0≤h∧h≤l.length∧k=h)else aM
 | _,_,_,_,_=>aM
def qu:List V→Option (IntKind×List Int)
 | [.int k n]=>some (k,[n])
 | .int k n::r=>match qu r with
  | some (k',l)=>if k==k' then some (k,n::l)else none
  | none=>none
 | _=>none
def Ad (P:Program) (t:TypeId) (x:D) (lo hi mx:Option D):R1 :=
 if mx.isSome then wV P t x lo hi mx else
 if wT lo&&wT hi&&mx.isNone then
  match P.underlying t,x with
  | some (.slice e),.v (.sl sz enc d l)=>if ca P e&&Nat.beq (az P e) sz then
    (.v (.sl sz enc d ((wU l hi).drop (oi lo).toNat)),0≤oi lo∧oi lo≤gI l.length hi∧gI l.length hi≤l.length)else aM
  | some .string,.v (.str s)=>(.v (.str (s.extract (oi lo).toNat (gI s.size hi).toNat)),0≤oi lo∧oi lo≤gI s.size hi∧gI s.size hi≤s.size)
  | some (.array n e),.iptr cs I'=>match qu cs with
   | some (k,l)=>if ca P e&&Nat.beq (az P e) 1&&Nat.beq l.length n&&Nat.beq I' 0&&Nat.ble n maxLen then
     (.v (.sl 1 (fun x:Int=>[.int k x]) 0 ((wU l hi).drop (oi lo).toNat)),0≤oi lo∧oi lo≤gI l.length hi∧gI l.length hi≤l.length)else aM
   | none=>aM
  | _,_=>aM
 else aM
section
variable {P:Program} {S:Nat→Prop} {μ:Nat→Value} {w:World}
theorem oY {n:Nat} {x d:D} {p:Prop} {ux:Value} (hx:ai S μ w x ux) (hp:tc n x=(d,p)) (D':p) :
  ∃b o,ux=.pointer (some ⟨b,o,none⟩)∧ai S μ w d (.pointer (some ⟨b,o+n,none⟩)):=by
 unfold tc at hp
 split at hp
 ·rename_i id i sz I'
  obtain⟨b,hb,rfl⟩:=md hx
  cases hp
  exact⟨b,_,rfl,by rw[Nat.add_assoc];exact .ptr _ _ _ _ _ hb⟩
 ·rename_i cs I'
  cases hp
  cases hx with
  | iptr _ _ b o us h1 h2 h3 h4=>exact⟨b,_,rfl,by rw[Nat.add_assoc];exact .iptr cs _ b o us h1 h2 h3 h4⟩
 ·cases hp;exact D'.elim
theorem qv {s:TypeId} {x d:D} {f:Nat} {p:Prop} {ux:Value} (hx:ai S μ w x ux) (hp:og P s x f=(d,p)) (D':p) :
  ∃u,(Instr.fieldAt s ux f).run P w=.ok u w∧ai S μ w d u:=by
 unfold og at hp
 split at hp
 ·rename_i fs hu
  split at hp
  ·rename_i Vb hf
   split at hp
   ·rename_i hc
    simp only[NK,Oc,N2]at hc
    obtain⟨hk,hz⟩:=hc
    have hz:az P Vb.type≠0:=by
     intro e
     rw[e]at hz
     cases hz
    obtain⟨b,o,rfl,hd⟩:=oY hx hp D'
    refine⟨_,?_,hd⟩
    have hr:(fieldPlace ⟨b,o,none⟩ Vb).run P w=.ok ⟨b,o+Vb.offset,none⟩ w:=by
     unfold fieldPlace
     simp only[NP,dm hk,NO]
     rw[NQ hz,N6,cQ]
    simp only[Instr.fieldAt,NP,Ou hu,NO,hf,Instr.sureAddr,N6,hr]
   ·cases hp;exact D'.elim
  ·cases hp;exact D'.elim
 ·cases hp;exact D'.elim
theorem eF {sz:Nat} {α:Type} {enc:α→List V} {d:α} {l:List α} {u:Value} (h:cz S w (.sl sz enc d l) u) :
  ∃p c,u=.slice p l.length c∧l.length≤c∧c≤maxLen∧(p=none→c=0)∧(0<l.length→∃(b I':Nat) (us:Nat→Nat→Value),p=some ⟨b,I',none⟩∧S b∧b<w.heap.size ∧
   (∀(i:Nat) (x:α),l[i]?=some x→(enc x).length=sz) ∧
   (∀(i:Nat) (x:α) (j:Nat) (y:V),l[i]?=some x→(enc x)[j]?=some y→w.cell? ⟨b,I'+(i*sz+j),none⟩=some (us i j)) ∧
   (∀(i:Nat) (x:α) (j:Nat) (y:V),l[i]?=some x→(enc x)[j]?=some y→cz S w y (us i j))):=by
 generalize hv:V.sl sz enc d l=v at h
 cases h with
 | int k n=>cases hv
 | bool b=>cases hv
 | str s=>cases hv
 | mp=>cases hv
 | nilf=>cases hv
 | nsl=>cases hv
 | esl=>cases hv
 | smn=>cases hv
 | sm=>cases hv
 | nmp=>cases hv
 | fnv=>cases hv
 | nil QK Qb d' p c h1 h2 =>
  cases hv
  exact⟨p,c,rfl,Oy _,h1,h2,fun h=>absurd h (by simp)⟩
 | row QK Qb d' l' b I' c n us h1 h2 h3 h4 h5 h6 h7 h8 =>
  cases hv
  subst h3
  exact⟨_,c,rfl,h4,h5,(fun h=>by cases h),fun _=>⟨b,I',us,rfl,h1,h2,h6,h7,h8⟩⟩
theorem kP {sz:Nat} {α:Type} {enc:α→List V} {d:α} {l:List α} {p:Option Addr} {n c:Nat} (hn:n=l.length) (h1:l.length≤c) (h2:c≤maxLen) (h3:p=none→c=0)
  (h:0<l.length→∃(b I':Nat) (us:Nat→Nat→Value),p=some ⟨b,I',none⟩∧S b∧b<w.heap.size ∧
   (∀(i:Nat) (x:α),l[i]?=some x→(enc x).length=sz) ∧
   (∀(i:Nat) (x:α) (j:Nat) (y:V),l[i]?=some x→(enc x)[j]?=some y→w.cell? ⟨b,I'+(i*sz+j),none⟩=some (us i j)) ∧
   (∀(i:Nat) (x:α) (j:Nat) (y:V),l[i]?=some x→(enc x)[j]?=some y→cz S w y (us i j))):cz S w (.sl sz enc d l) (.slice p n c):=by
 subst hn
 cases l with
 | nil=>exact .nil sz enc d p c h2 h3
 | cons x l =>
  obtain⟨b,I',us,rfl,q1,q2,q3,q4,q5⟩:=h (by simp)
  exact .row sz enc d _ b I' c _ us q1 q2 rfl h1 h2 q3 q4 q5
theorem bK {E sz:Nat} {α:Type} {enc:α→List V} {d:α} {l:List α} {u:Value} (h:aG S μ w u (.arr E sz enc d l)) :
  ∃p c,u=.slice p l.length c∧l.length≤c∧c≤maxLen∧(p=none→c=0)∧(0<l.length→∃g,p=some ⟨g,0,none⟩):=by
 obtain⟨_,xs,⟨h1,h2⟩,_⟩:=h
 rcases h2 with ⟨rfl,hl⟩ | ⟨g,cap,Qz,rfl,hg,hh,q1,q2,_⟩
 ·exact⟨none,0,by rw[hl],by omega,by simp[maxLen],fun _=>rfl,fun h=>by omega⟩
 ·exact⟨_,cap,rfl,q1,q2,(fun h=>by cases h),fun _=>⟨g,rfl⟩⟩
theorem eH {E sz n:Nat} {gs:List Nat} {cell:Nat→Nat→D} {u:Value} (h:aG S μ w u (.arrD E sz n gs cell)) :
  ∃p c,u=.slice p n c∧n≤c∧c≤maxLen∧(p=none→c=0)∧(0<n→∃g,p=some ⟨g,0,none⟩):=by
 obtain⟨_,xs,⟨h1,h2⟩,_⟩:=h
 rcases h2 with ⟨rfl,hl⟩ | ⟨g,cap,Qz,rfl,hg,hh,q1,q2,_⟩
 ·exact⟨none,0,by rw[hl],by omega,by simp[maxLen],fun _=>rfl,fun h=>by omega⟩
 ·exact⟨_,cap,rfl,q1,q2,(fun h=>by cases h),fun _=>⟨g,rfl⟩⟩
theorem bM {k:IntKind} {n:Int} {u:Value} (h:ai S μ w (.v (.int k n)) u):u=.int k n:=by
 cases h with | v _ _ h=>cases h;rfl
theorem eY {b:Bool} {u:Value} (h:ai S μ w (.v (.bool b)) u):u=.bool b:=by
 cases h with | v _ _ h=>cases h;rfl
theorem eZ {s:ByteArray} {u:Value} (h:ai S μ w (.v (.str s)) u):u=.string s:=by
 cases h with | v _ _ h=>cases h;rfl
theorem bg {x:V} {u:Value} (h:ai S μ w (.v x) u):cz S w x u:=by
 cases h with | v _ _ h=>exact h
theorem bq {id:Nat} {u:Value} (h:ai S μ w (.own id) u):u=μ id:=by
 cases h;rfl
theorem e7 {t e:TypeId} {p:Addr} {len c:Nat} {k:IntKind} {n:Int} (hu:P.underlying t=some (.slice e)) (hk:ca P e=true) (h0:0≤n) (h1:n<len) :
  (Instr.indexAt t (.slice (some p) len c) (.int k n)).run P w=.ok (.pointer (some (p.add (n.toNat*az P e)))) w:=by
 unfold Instr.indexAt
 simp only[asIntOf,NP,N6,NO,Ou hu]
 rw[NT ⟨h0,h1⟩]
 simp only[NP,dm hk,NO,N6]
theorem sa {t e:TypeId} {p:Addr} {len:Nat} {k:IntKind} {n:Int} (hu:P.underlying t=some (.array len e)) (hk:ca P e=true) (h0:0≤n) (h1:n<len) :
  (Instr.indexAt t (.pointer (some p)) (.int k n)).run P w=.ok (.pointer (some (p.add (n.toNat*az P e)))) w:=by
 unfold Instr.indexAt
 simp only[asIntOf,NP,N6,NO,Ou hu,Instr.sureAddr]
 rw[NT ⟨h0,h1⟩]
 simp only[NP,dm hk,NO,N6]
theorem qx {t:TypeId} {H:List ak} (hH:a9 S μ w H) {x i d:D} {p:Prop} {ux ui:Value} (hx:ai S μ w x ux) (hi:ai S μ w i ui) (hp:oh P t H x i=(d,p)) (D':p) :
  ∃u,(Instr.indexAt t ux ui).run P w=.ok u w∧ai S μ w d u:=by
 unfold oh at hp
 split at hp
 ·rename_i e sz α enc d' l k n hu
  split at hp
  ·rename_i hc
   simp only[NK,N2]at hc
   obtain⟨hk,rfl⟩:=hc
   simp only[NS]at hp
   obtain⟨rfl,rfl⟩:=hp
   obtain⟨h0,h1⟩:=D'
   rw[bM hi]
   obtain⟨q,c,rfl,q1,q2,q3,q4⟩:=eF (bg hx)
   obtain⟨b,I',us,rfl,r1,r2,r3,r4,r5⟩:=q4 (by omega)
   refine⟨_,e7 hu hk h0 (by omega),?_⟩
   have hl:l[n.toNat]?=some (l.getD n.toNat d'):=by rw[cO _ _ (by omega)];exact NM (by omega)
   rw[cQ]
   have:=ai.iptr (S:=S) (μ:=μ) (w:=w) (enc (l.getD n.toNat d')) 0 b (I'+n.toNat*az P e) (us n.toNat) r1 r2 (fun j y hy=>by rw[Nat.add_assoc];exact r4 _ _ _ _ hl hy) (fun j y hy=>r5 _ _ _ _ hl hy)
   rwa [Ph]at this
  ·cases hp;exact D'.elim
 ·rename_i e id k n hu
  split at hp
  ·rename_i E sz α enc d' l G'
   split at hp
   ·rename_i hc
    simp only[NK,N2]at hc
    obtain⟨hk,rfl⟩:=hc
    simp only[NS]at hp
    obtain⟨rfl,rfl⟩:=hp
    obtain⟨h0,h1⟩:=D'
    rw[bM hi,bq hx]
    obtain⟨q,c,hm,q1,q2,q3,q4⟩:=bK (hH.box id _ G')
    obtain⟨g,rfl⟩:=q4 (by omega)
    rw[hm]
    refine⟨_,e7 hu hk h0 (by omega),?_⟩
    rw[cQ,OA]
    have:=ai.ptr (S:=S) (w:=w) id n.toNat (az P e) 0 g (by rw[hm];rfl:aF (μ id)=some g)
    rwa [Ph]at this
   ·cases hp;exact D'.elim
  ·rename_i E sz α enc d' l G'
   split at hp
   ·rename_i hc
    simp only[NK,N2]at hc
    obtain⟨hk,rfl⟩:=hc
    simp only[NS]at hp
    obtain⟨rfl,rfl⟩:=hp
    obtain⟨h0,h1⟩:=D'
    rw[bM hi,bq hx]
    obtain⟨q,c,hm,q1,q2,q3,q4⟩:=bK (hH.box id _ G').ro_arr
    obtain⟨g,rfl⟩:=q4 (by omega)
    rw[hm]
    refine⟨_,e7 hu hk h0 (by omega),?_⟩
    rw[cQ,OA]
    have:=ai.ptr (S:=S) (w:=w) id n.toNat (az P e) 0 g (by rw[hm];rfl:aF (μ id)=some g)
    rwa [Ph]at this
   ·cases hp;exact D'.elim
  ·rename_i E sz m gs cell G'
   split at hp
   ·rename_i hc
    simp only[NK,N2]at hc
    obtain⟨hk,rfl⟩:=hc
    simp only[NS]at hp
    obtain⟨rfl,rfl⟩:=hp
    obtain⟨h0,h1⟩:=D'
    rw[bM hi,bq hx]
    obtain⟨q,c,hm,q1,q2,q3,q4⟩:=eH (hH.box id _ G')
    obtain⟨g,rfl⟩:=q4 (by omega)
    rw[hm]
    refine⟨_,e7 hu hk h0 (by omega),?_⟩
    rw[cQ,OA]
    have:=ai.ptr (S:=S) (w:=w) id n.toNat (az P e) 0 g (by rw[hm];rfl:aF (μ id)=some g)
    rwa [Ph]at this
   ·cases hp;exact D'.elim
  ·cases hp;exact D'.elim
 ·rename_i x _ _ _ len e k n hu
  split at hp
  ·rename_i hk
   generalize hq:tc (n.toNat*az P e) x=q at hp
   obtain⟨y,p'⟩:=q
   simp only[NS]at hp
   obtain⟨rfl,rfl⟩:=hp
   obtain⟨⟨h0,h1⟩,D'⟩:=D'
   obtain⟨b,o,rfl,hd⟩:=oY hx hq D'
   rw[bM hi]
   exact⟨_,sa hu hk h0 (by omega),by rw[cQ];exact hd⟩
  ·cases hp;exact D'.elim
 ·cases hp;exact D'.elim
theorem f8 {t:TypeId} {cs:List D} {us:Array Value} {I':Nat} {d:D} {p:Prop} (hs:us.size=cs.length) (h:∀(j:Nat) (y:D) (u:Value),cs[j]?=some y→us[j]?=some u→ai S μ w y u)
  (hp:cJ P t cs I'=(d,p)) (D':p):∃u,(part t us I').run P w=.ok u w∧ai S μ w d u:=by
 unfold cJ at hp
 split at hp
 ·rename_i hc
  simp only[NK,Oq,OY,N2]at hc
  obtain⟨⟨hk,hl⟩,hz⟩:=hc
  simp only[NS]at hp
  obtain⟨rfl,_⟩:=hp
  unfold part
  simp only[NP,vp hk,NO]
  cases ha:vo P t
  ·simp only[OC,Pf]
   rw[ha]at hz
   have Qy:az P t=1:=by simpa using hz
   have Ql:I'<cs.length:=by omega
   have hu:us[I']?=some us[I']:=N7 (by omega)
   refine⟨us[I'],by rw[hu];rfl,?_⟩
   rw[cO _ _ Ql]
   exact h I' _ _ (NM Ql) hu
  ·simp only[Pe]
   refine⟨.agg (us.extract I' (I'+az P t)),by simp only[NP,dm hk,NO,N6],.agg _ _ ?_ (fun j y u hy hu=>?_)⟩
   ·simp;omega
   ·rw[Ob]at hy
    split at hy
    ·rename_i hj
     rw[O6]at hy
     rw[Array.getElem?_extract,NT (by omega)]at hu
     exact h _ _ _ hy hu
    ·cases hy
 ·simp only[aM,NS]at hp
  obtain⟨_,rfl⟩:=hp
  exact D'.elim
theorem dV {cs:List D} {u:Value} (h:ai S μ w (.agg cs) u):∃us:Array Value,u=.agg us∧us.size=cs.length∧∀(j:Nat) (y:D) (u:Value),cs[j]?=some y→us[j]?=some u→ai S μ w y u:=by
 cases h with | agg _ us h1 h2=>exact⟨us,rfl,h1,h2⟩
theorem sy {cs:List D} {u:Value} (h:ai S μ w (.tup cs) u):∃us:Array Value,u=.tuple us∧us.size=cs.length∧∀(j:Nat) (y:D) (u:Value),cs[j]?=some y→us[j]?=some u→ai S μ w y u:=by
 cases h with | tup _ us h1 h2=>exact⟨us,rfl,h1,h2⟩
theorem wW {t:TypeId} {x d:D} {f:Nat} {p:Prop} {ux:Value} (hx:ai S μ w x ux) (hp:Aa P t x f=(d,p)) (D':p) :
  ∃u,(Instr.field t ux f).run P w=.ok u w∧ai S μ w d u:=by
 unfold Aa at hp
 split at hp
 ·rename_i fs cs hu
  split at hp
  ·rename_i Vb hf
   obtain⟨us,rfl,h1,h2⟩:=dV hx
   obtain⟨u,h3,h4⟩:=f8 (P:=P) h1 h2 hp D'
   exact⟨u,by simp only[Instr.field,NP,Ou hu,NO,hf,asAgg,N6,h3],h4⟩
  ·cases hp;exact D'.elim
 ·cases hp;exact D'.elim
theorem wX {t:TypeId} {x i d:D} {p:Prop} {ux ui:Value} (hx:ai S μ w x ux) (hi:ai S μ w i ui) (hp:Ab P t x i=(d,p)) (D':p) :
  ∃u,(Instr.index t ux ui).run P w=.ok u w∧ai S μ w d u:=by
 unfold Ab at hp
 split at hp
 ·rename_i len e cs k n hu
  generalize hq:cJ P e cs (n.toNat*az P e)=q at hp
  obtain⟨y,p'⟩:=q
  simp only[NS]at hp
  obtain⟨rfl,rfl⟩:=hp
  obtain⟨⟨h0,h1⟩,D'⟩:=D'
  rw[bM hi]
  obtain⟨us,rfl,h2,h3⟩:=dV hx
  have hk:ca P e=true:=by
   unfold cJ at hq
   split at hq
   ·rename_i hc
    simp only[NK]at hc
    exact hc.1.1
   ·cases hq;exact D'.elim
  obtain⟨u,h4,h5⟩:=f8 (P:=P) h2 h3 hq D'
  refine⟨u,?_,h5⟩
  unfold Instr.index
  simp only[asIntOf,NP,N6,NO,Ou hu]
  rw[NT ⟨h0,h1⟩]
  simp only[NP,dm hk,NO,h4]
 ·rename_i s k n hu
  simp only[NS]at hp
  obtain⟨rfl,rfl⟩:=hp
  obtain⟨h0,h1⟩:=D'
  rw[bM hi,eZ hx]
  have hn:n.toNat<s.size:=by omega
  have hs:s[n.toNat]?=some s[n.toNat]:=by simp[hn]
  refine⟨.int .u8 (s[n.toNat]).toNat,?_,?_⟩
  ·unfold Instr.index
   simp only[asIntOf,NP,N6,NO,Ou hu]
   rw[NT h0,hs]
   rfl
  ·rw[hs]
   exact .v _ _ (.int _ _)
 ·cases hp;exact D'.elim
end
def Ae (op:BinOp) (k:IntKind) (a b:Int):R1 :=
 match op with
 | .add=>(.v (.int k (k.wrap (a+b))),True)
 | .sub=>(.v (.int k (k.wrap (a-b))),True)
 | .mul=>(.v (.int k (k.wrap (a*b))),True)
 | .quo=>(.v (.int k (k.wrap (a.tdiv b))),b≠0)
 | .rem=>(.v (.int k (a.tmod b)),b≠0)
 | .and=>(.v (.int k (k.wrap (BitVec.ofInt k.bits a &&& BitVec.ofInt k.bits b).toNat)),True)
 | .or=>(.v (.int k (k.wrap (BitVec.ofInt k.bits a ||| BitVec.ofInt k.bits b).toNat)),True)
 | .xor=>(.v (.int k (k.wrap (BitVec.ofInt k.bits a ^^^ BitVec.ofInt k.bits b).toNat)),True)
 | .andNot=>(.v (.int k (k.wrap (BitVec.ofInt k.bits a &&& ~~~(BitVec.ofInt k.bits b)).toNat)),True)
 | .eql=>(.v (.bool (a==b)),True)
 | .neq=>(.v (.bool (a != b)),True)
 | .lss=>(.v (.bool (decide (a<b))),True)
 | .leq=>(.v (.bool (decide (a≤b))),True)
 | .gtr=>(.v (.bool (decide (a>b))),True)
 | .geq=>(.v (.bool (decide (a≥b))),True)
 | _=>aM
def BH:BinOp→Bool | .shl=>true | .shr=>true | _=>false
def Af (op:BinOp) (k:IntKind) (a b:Int):R1 :=
 match op with
 | .shl=>(.v (.int k (k.wrap (a*2^min b.toNat k.bits))),0≤b)
 | .shr=>(.v (.int k (a.fdiv (2^min b.toNat k.bits))),0≤b)
 | _=>aM
def I5 (op:BinOp) (x y:ByteArray):R1 :=
 match op with
 | .add=>(.v (.str (x++y)),((x.size+y.size:Nat):Int)≤IntKind.i64.max)
 | .eql=>(.v (.bool (x.toList==y.toList)),True)
 | .neq=>(.v (.bool (!(x.toList==y.toList))),True)
 | _=>aM
def Eu:Option TypeDesc→D→D→Option Bool
 | some (.int _),.v (.int k a),.v (.int k' b)=>if k==k' then some (a==b)else none
 | some .bool,.v (.bool a),.v (.bool b)=>some (a==b)
 | some .string,.v (.str a),.v (.str b)=>some (a.toList==b.toList)
 | _,_,_=>none
def sA (P:Program) (xs ys:List D) (f:Field):Option Bool :=
 if f.name ≠ "_" then Eu (P.underlying f.type) (cJ P f.type xs f.offset).1 (cJ P f.type ys f.offset).1 else none
def kQ (P:Program) (xs ys:List D):List Field→Option Bool
 | []=>some true
 | [f]=>sA P xs ys f
 | f::fs=>match sA P xs ys f,kQ P xs ys fs with
  | some a,some b=>some (a&&b)
  | _,_=>none
def vq (P:Program) (t:TypeId):Bool:=match P.underlying t with | some (.struct _)=>true | _=>false
def Iv (P:Program) (op:BinOp) (t:TypeId) (xs ys:List D):R1 :=
 if !P.stoodInHeld t&&!P.eqGuardType P.depth t&&vq P t then
  match kQ P xs ys (P.fieldsOf t).toList,op with
  | some b,.eql=>(.v (.bool b),True)
  | some b,.neq=>(.v (.bool (!b)),True)
  | _,_=>aM
 else aM
def Ew:D→Option (Bool×Prop)
 | .nils=>some (true,True)
 | .v .nsl=>some (true,True)
 | .v .esl=>some (false,True)
 | .v (.sl _ _ _ l)=>some (false,l≠[])
 | _=>none
def Ag:D→Option Bool
 | .v .nilf=>some true
 | .fn _ _ _=>some false
 | _=>none
def te (P:Program) (t:TypeId):Bool:=match P.underlying t with | some (.slice _)=>true | _=>false
def wY (P:Program) (t:TypeId):Bool:=match P.underlying t with | some (.func _ _ _)=>true | _=>false
def yj (op:BinOp) (b:Bool) (p:Prop):R1:=match op with
 | .eql=>(.v (.bool b),p)
 | .neq=>(.v (.bool (!b)),p)
 | _=>aM
def I6 (P:Program) (op:BinOp) (t:TypeId) (x y:D):R1 :=
 match x,y with
 | .v (.int k a),.v (.int k' b)=>if BH op then Af op k a b else if k==k' then Ae op k a b else aM
 | .v (.str a),.v (.str b)=>I5 op a b
 | .v (.bool a),.v (.bool b)=>match P.underlying t with
  | some .bool=>(match op with | .eql=>(.v (.bool (a==b)),True) | .neq=>(.v (.bool (!(a==b))),True) | _=>aM)
  | _=>aM
 | .agg xs,.agg ys=>Iv P op t xs ys
 | x,.nils=>match Ew x with
  | some (b,p)=>if te P t then yj op b p else aM
  | none=>aM
 | x,.v .nilf=>match Ag x with
  | some b=>if wY P t then yj op b True else aM
  | none=>aM
 | _,_=>aM
def Mb (op:UnOp) (x:D):R1 :=
 match op,x with
 | .neg,.v (.int k n)=>(.v (.int k (k.wrap (0-n))),True)
 | .xor,.v (.int k n)=>(.v (.int k (k.wrap (BitVec.ofInt k.bits (if k.signed then -1 else k.max) ^^^ BitVec.ofInt k.bits n).toNat)),True)
 | .not,.v (.bool b)=>(.v (.bool (!b)),True)
 | _,_=>aM
def Ey (P:Program) (src dst:TypeId) (x:D):R1 :=
 if ca P src then
  match P.underlying dst,x with
  | some (.int k),.v (.int _ n)=>(match P.underlying src with | some .string=>aM | _=>(.v (.int k (k.wrap n)),True))
  | some .string,.v (.str s)=>(.v (.str s),True)
  | _,_=>aM
 else aM
def I7 (P:Program) (t:TypeId) (H:List ak) (x:D):R1 :=
 match P.underlying t,x with
 | some .string,.v (.str s)=>(.v (.int .i64 (s.size:Int)),True)
 | some (.array n _),_=>(.v (.int .i64 (n:Int)),True)
 | some (.slice _),.v (.sl _ _ _ l)=>(.v (.int .i64 (l.length:Int)),True)
 | some (.slice _),.nils=>(.v (.int .i64 0),True)
 | some (.slice _),.v .nsl=>(.v (.int .i64 0),True)
 | some (.slice _),.v .esl=>(.v (.int .i64 0),True)
 | some (.slice _),.own id=>match H[id]? with
  | some (.arr _ _ _ _ l)=>(.v (.int .i64 (l.length:Int)),True)
  | some (.ro _ _ _ _ l)=>(.v (.int .i64 (l.length:Int)),True)
  | some (.arrD _ _ m _ _)=>(.v (.int .i64 (m:Int)),True)
  | _=>aM
 | _,_=>aM
def yk (x y:Int):Int:=if y<x then y else x
def GZ (x y:Int):Int:=if y>x then y else x
section
variable {P:Program} {S:Nat→Prop} {μ:Nat→Value} {w:World}
def L2 (n:Nat) (hi:Option Value) (h:Nat):Prop:=match hi with | none=>h=n | some v=>∃k,v=.int k h
def KH (lo:Option Value) (l:Nat):Prop:=match lo with | none=>l=0 | some v=>∃k,v=.int k l
theorem gC {is:Bool} {n c l h:Nat} {lo hi:Option Value} (hh:L2 n hi h) (hl:KH lo l) (h1:l≤h) (h2:h≤c) :
  (Instr.sliceBounds is n c lo hi none).run P w=.ok (l,h,c) w:=by
 have sb:∀(k:IntKind) (x y:Nat) (RG:BoundsCode),x≤y→(Instr.sliceBound (.int k (x:Int)) y RG).run P w=.ok x w:=by
  intro k x y RG SY
  unfold Instr.sliceBound
  simp only[asIntOf,NP,N6,NO]
  rw[NT ⟨by omega,by omega⟩]
  simp
 unfold Instr.sliceBounds
 cases hi with
 | none =>
  simp only[L2]at hh
  subst hh
  cases lo with
  | none =>
   simp only[KH]at hl
   subst hl
   simp[NP]
  | some v =>
   obtain⟨k,rfl⟩:=hl
   simp[NP,sb _ _ _ _ h1]
 | some v =>
  obtain⟨k,rfl⟩:=hh
  cases lo with
  | none =>
   simp only[KH]at hl
   subst hl
   simp[NP,sb _ _ _ _ h2]
  | some v =>
   obtain⟨k,rfl⟩:=hl
   simp[NP,sb _ _ _ _ h2,sb _ _ _ _ h1]
def oZ (S:Nat→Prop) (μ:Nat→Value) (w:World):Option D→Option Value→Prop
 | none,none=>True
 | some d,some u=>ai S μ w d u
 | _,_=>False
theorem tf {d:D} (h:Ac d=true):∃k n,d=.v (.int k n)∧GY d=n:=by
 unfold Ac at h
 split at h
 ·exact⟨_,_,rfl,rfl⟩
 ·cases h
theorem Ah {lo:Option D} {ul:Option Value} (h:oZ S μ w lo ul) (hi:wT lo=true) (h0:0≤oi lo):KH ul (oi lo).toNat:=by
 cases lo with
 | none=>cases ul with
  | none=>simp[KH,oi]
  | some _=>exact h.elim
 | some d=>cases ul with
  | none=>exact h.elim
  | some u =>
   obtain⟨k,n,rfl,hn⟩:=tf hi
   simp only[oi]at h0 ⊢
   rw[hn]at h0 ⊢
   rw[bM h]
   exact⟨k,by rw[PL h0]⟩
theorem Ai {hi:Option D} {uh:Option Value} {n:Nat} (h:oZ S μ w hi uh) (Ri:wT hi=true) (h0:0≤gI n hi):L2 n uh (gI n hi).toNat:=by
 cases hi with
 | none=>cases uh with
  | none=>simp[L2,gI]
  | some _=>exact h.elim
 | some d=>cases uh with
  | none=>exact h.elim
  | some u =>
   obtain⟨k,m,rfl,hn⟩:=tf Ri
   simp only[gI]at h0 ⊢
   rw[hn]at h0 ⊢
   rw[bM h]
   exact⟨k,by rw[PL h0]⟩
theorem vt {α:Type} (l:List α) (hi:Option D) (h:gI l.length hi≤l.length):wU l hi=l.take (gI l.length hi).toNat:=by
 cases hi with
 | none=>simp[wU,gI]
 | some d=>rfl
theorem u5 {t:TypeId} {x d:D} {lo hi mx:Option D} {p:Prop} {ux:Value} {ul uh um:Option Value} (hx:ai S μ w x ux) (hl:oZ S μ w lo ul) (hh:oZ S μ w hi uh) (hm:oZ S μ w mx um)
  (hp:wV P t x lo hi mx=(d,p)) (D':p):∃u,(Instr.sliceAt t ux ul uh um).run P w=.ok u w∧ai S μ w d u:=by
 unfold wV at hp
 split at hp
 ·rename_i e sz α enc d' l k1 h' k2 h hu
  split at hp
  ·rename_i hc
   simp only[NK,N2]at hc
   obtain⟨hk,rfl⟩:=hc
   simp only[NS]at hp
   obtain⟨rfl,rfl⟩:=hp
   obtain⟨h0,h1,rfl⟩:=D'
   obtain⟨q,c,rfl,q1,q2,q3,q4⟩:=eF (bg hx)
   have hul:ul=none:=by cases ul with | none=>rfl | some _=>exact hl.elim
   subst hul
   cases uh with
   | none=>exact hh.elim
   | some vh =>
    cases um with
    | none=>exact hm.elim
    | some vm =>
     have ev:vh=.int k1 h:=by
      have:=bg hh
      cases this
      rfl
     have em:vm=.int k2 h:=by
      have:=bg hm
      cases this
      rfl
     subst ev em
     have sb:∀(k:IntKind) (y:Nat) (RG:BoundsCode),h.toNat≤y→(Instr.sliceBound (.int k h) y RG).run P w=.ok h.toNat w:=by
      intro k y RG SY
      unfold Instr.sliceBound
      simp only[asIntOf,NP,N6,NO]
      rw[NT ⟨by omega,by omega⟩]
      simp
     have hr:(Instr.sliceBounds true l.length c none (some (.int k1 h)) (some (.int k2 h))).run P w=.ok (0,h.toNat,h.toNat) w:=by
      unfold Instr.sliceBounds
      simp[NP,sb k2 c _ (by omega),sb k1 h.toNat _ (NN _)]
     refine⟨.slice (if h.toNat=0 then q else q.map (·.add (0*az P e))) h.toNat h.toNat,?_,.capd _ _ _ (kP ?_ (by rw[N3];omega) (by omega) ?_ (fun SZ=>?_))⟩
     ·unfold Instr.sliceAt
      simp only[NP,Ou hu,NO]
      unfold Instr.slice
      simp only[NP,Ou hu,NO,hr,dm hk,N6,Nat.sub_zero]
     ·rw[N3];omega
     ·intro hn
      by_cases hca:h.toNat=0
      ·exact hca
      ·rw[NQ hca]at hn
       have:=q3 (by simpa using hn)
       omega
     ·rw[N3]at SZ
      obtain⟨bb,I',us,rfl,r1,r2,r3,r4,r5⟩:=q4 (by omega)
      have QN:∀(i:Nat) (x:α),(l.take h.toNat)[i]?=some x→l[i]?=some x:=by
       intro i x hx
       rw[Ob]at hx
       split at hx
       ·exact hx
       ·cases hx
      refine⟨bb,I',us,?_,r1,r2,fun i x hx=>r3 _ x (QN i x hx),fun i x j y hx hy=>r4 _ x j y (QN i x hx) hy,fun i x j y hx hy=>r5 _ x j y (QN i x hx) hy⟩
      rw[NQ (by omega)]
      simp[cQ]
  ·cases hp;exact D'.elim
 ·cases hp;exact D'.elim
theorem BI:∀{cs:List V} {k:IntKind} {l:List Int},qu cs=some (k,l)→cs=l.map (fun x=>.int k x)
 | [],k,l,h=>by simp[qu]at h
 | [.int k0 n],k,l,h=>by simp[qu]at h;obtain⟨rfl,rfl⟩:=h;rfl
 | .int k0 n::y::r,k,l,h=>by
  unfold qu at h
  ·split at h
   ·rename_i k' l' hr
    split at h
    ·rename_i hk
     have hk:k0=k':=by simpa using hk
     cases h
     have:=BI hr
     subst hk
     rw[this];rfl
    ·cases h
   ·cases h
 | .bool _::_,_,_,h=>by simp[qu]at h
 | .str _::_,_,_,h=>by simp[qu]at h
 | .sl _ _ _ _::_,_,_,h=>by simp[qu]at h
 | .mp _::_,_,_,h=>by simp[qu]at h
 | .nilf::_,_,_,h=>by simp[qu]at h
 | .nsl::_,_,_,h=>by simp[qu]at h
 | .esl::_,_,_,h=>by simp[qu]at h
theorem wZ {t:TypeId} {x d:D} {lo hi mx:Option D} {p:Prop} {ux:Value} {ul uh um:Option Value} (hx:ai S μ w x ux) (hl:oZ S μ w lo ul) (hh:oZ S μ w hi uh) (hm:oZ S μ w mx um)
  (hp:Ad P t x lo hi mx=(d,p)) (D':p):∃u,(Instr.sliceAt t ux ul uh um).run P w=.ok u w∧ai S μ w d u:=by
 unfold Ad at hp
 split at hp
 ·exact u5 hx hl hh hm hp D'
 split at hp
 ·rename_i hc
  simp only[NK]at hc
  obtain⟨⟨c1,c2⟩,c3⟩:=hc
  have hmx:mx=none:=by simpa using c3
  subst hmx
  have hum:um=none:=by cases um with | none=>rfl | some _=>exact hm.elim
  subst hum
  split at hp
  ·rename_i e sz α enc d' l hu
   split at hp
   ·rename_i hc
    simp only[NK,N2]at hc
    obtain⟨hk,rfl⟩:=hc
    simp only[NS]at hp
    obtain⟨rfl,rfl⟩:=hp
    obtain⟨h0,h1,h2⟩:=D'
    obtain⟨q,c,rfl,q1,q2,q3,q4⟩:=eF (bg hx)
    have hr:=gC (P:=P) (w:=w) (is:=true) (c:=c) (Ai (n:=l.length) hh c2 (by omega)) (Ah hl c1 h0) (by omega) (by omega)
    rw[vt _ _ h2]
    generalize hLo:(oi lo).toNat=a at *
    generalize hHi:(gI l.length hi).toNat=b at *
    have hab:a≤b:=by omega
    have Tr:b≤l.length:=by omega
    refine⟨.slice (if c=a then q else q.map (·.add (a*az P e))) (b-a) (c-a),?_,.v _ _ (kP ?_ ?_ (by omega) ?_ (fun SZ=>?_))⟩
    ·unfold Instr.sliceAt
     simp only[NP,Ou hu,NO]
     unfold Instr.slice
     simp only[NP,Ou hu,NO,hr,dm hk,N6]
    ·rw[N9,N3];omega
    ·rw[N9,N3];omega
    ·intro hn
     by_cases hca:c=a
     ·omega
     ·rw[NQ hca]at hn
      have:=q3 (by simpa using hn)
      omega
    ·rw[N9,N3]at SZ
     obtain⟨bb,I',us,rfl,r1,r2,r3,r4,r5⟩:=q4 (by omega)
     have QN:∀(i:Nat) (x:α),((l.take b).drop a)[i]?=some x→l[a+i]?=some x:=by
      intro i x hx
      rw[O6,Ob]at hx
      split at hx
      ·exact hx
      ·cases hx
     refine⟨bb,I'+a*az P e,fun i j=>us (a+i) j,?_,r1,r2,fun i x hx=>r3 _ x (QN i x hx),fun i x j y hx hy=>?_,fun i x j y hx hy=>r5 _ x j y (QN i x hx) hy⟩
     ·rw[NQ (by omega)]
      simp[cQ]
     ·have:=r4 (a+i) x j y (QN i x hx) hy
      rw[← this]
      congr 2
      rw[PW]
      omega
   ·cases hp;exact D'.elim
  ·rename_i s hu
   simp only[NS]at hp
   obtain⟨rfl,rfl⟩:=hp
   obtain⟨h0,h1,h2⟩:=D'
   rw[eZ hx]
   have hr:=gC (P:=P) (w:=w) (is:=false) (c:=s.size) (Ai (n:=s.size) hh c2 (by omega)) (Ah hl c1 h0) (by omega) (by omega)
   refine⟨_,?_,.v _ _ (.str _)⟩
   unfold Instr.sliceAt
   simp only[NP,Ou hu,NO]
   unfold Instr.slice
   simp only[NP,Ou hu,NO,hr,Option.isSome_none,OC,Pf,N6]
  ·rename_i n e cs I' hu
   split at hp
   ·rename_i k l QA
    split at hp
    ·rename_i hc
     simp only[NK,N2,OY]at hc
     obtain⟨⟨⟨⟨hk,Qk⟩,hln⟩,rfl⟩,hmx⟩:=hc
     simp only[NS]at hp
     obtain⟨rfl,rfl⟩:=hp
     obtain⟨h0,h1,h2⟩:=D'
     have hcs:=BI QA
     subst hcs
     subst hln
     obtain⟨b,o,rfl,q2⟩:∃b o,ux=.pointer (some ⟨b,o+0,none⟩)∧ai S μ w (.iptr (l.map (fun x=>.int k x)) 0) ux:=by
      cases hx with
      | iptr _ _ b o us g1 g2 g3 g4=>exact⟨b,o,rfl,.iptr _ _ b o us g1 g2 g3 g4⟩
     have hr:=gC (P:=P) (w:=w) (is:=false) (c:=l.length) (Ai (n:=l.length) hh c2 (by omega)) (Ah hl c1 h0) (by omega) (by omega)
     rw[vt _ _ h2]
     generalize hLo:(oi lo).toNat=a at *
     generalize hHi:(gI l.length hi).toNat=c at *
     have hab:a≤c:=by omega
     have Tr:c≤l.length:=by omega
     have hq:∃(b' o':Nat) (us:Nat→Value),(⟨b,o+0,none⟩:Addr)=⟨b',o'+0,none⟩∧S b'∧b'<w.heap.size∧(∀(j:Nat) (y:V),(l.map (fun x=>V.int k x))[j]?=some y→w.cell? ⟨b',o'+j,none⟩=some (us j))∧(∀(j:Nat) (y:V),(l.map (fun x=>V.int k x))[j]?=some y→cz S w y (us j)):=by
      generalize hd:D.iptr (l.map (fun x=>.int k x)) 0=dd at q2
      generalize hv:Value.pointer (some ⟨b,o+0,none⟩)=vv at q2
      cases q2 with
      | iptr UV off' b' o' us g1 g2 g3 g4 =>
       cases hd
       simp only[Value.pointer.injEq,NW]at hv
       exact⟨b',o',us,hv,g1,g2,g3,g4⟩
      | _=>cases hd
     obtain⟨b',o',us,he,g1,g2,g3,g4⟩:=hq
     rw[he]
     refine⟨.slice (some (if l.length=a then ⟨b',o'+0,none⟩else (⟨b',o'+0,none⟩:Addr).add (a*az P e))) (c-a) (l.length-a),?_,.v _ _ (kP ?_ ?_ (by omega) (by intro h;cases h) (fun SZ=>?_))⟩
     ·unfold Instr.sliceAt
      simp only[NP,Ou hu,NO,Instr.sureAddr,N6,hr,dm hk]
     ·rw[N9,N3];omega
     ·rw[N9,N3];omega
     ·rw[N9,N3]at SZ
      have QN:∀(i:Nat) (x:Int),((l.take c).drop a)[i]?=some x→l[a+i]?=some x:=by
       intro i x hx
       rw[O6,Ob]at hx
       split at hx
       ·exact hx
       ·cases hx
      refine⟨b',o'+a,fun i j=>us (a+i),?_,g1,g2,fun i x _=>rfl,fun i x j y hx hy=>?_,fun i x j y hx hy=>?_⟩
      ·rw[NQ (by omega),Qk]
       simp[cQ]
      ·have hj:j=0∧y=.int k x:=by
        cases j with
        | zero=>exact⟨rfl,by simpa using hy.symm⟩
        | succ j=>simp at hy
       obtain⟨rfl,rfl⟩:=hj
       have:=g3 (a+i) (.int k x) (by rw[N4,QN i x hx];rfl)
       rw[← this]
       congr 2
       omega
      ·have hj:y=.int k x:=by
        cases j with
        | zero=>simpa using hy.symm
        | succ j=>simp at hy
       subst hj
       exact g4 (a+i) _ (by rw[N4,QN i x hx];rfl)
    ·cases hp;exact D'.elim
   ·cases hp;exact D'.elim
  ·cases hp;exact D'.elim
 ·cases hp;exact D'.elim
theorem Dl {op:BinOp} {k:IntKind} {a b:Int} {d:D} {p:Prop} (hs:BH op=false) (hp:Ae op k a b=(d,p)) (D':p) (t:TypeId) :
  ∃u,(binOp op t (.int k a) (.int k b)).run P w=.ok u w∧ai S μ w d u:=by
 unfold Ae at hp
 cases op<;>simp only[aM,NS]at hp<;>obtain⟨rfl,rfl⟩:=hp <;>
  first
  | exact D'.elim
  | (refine⟨_,?_,.v _ _ (.int _ _)⟩;simp only[binOp,Op.intArith,Op.intDiv,Op.intBits,ne_eq,not_true_eq_false,Pf,N6];done)
  | (refine⟨_,?_,.v _ _ (.int _ _)⟩;simp only[binOp,Op.intDiv,ne_eq,not_true_eq_false,Pf];rw[NQ D'];rfl)
  | (refine⟨_,?_,.v _ _ (.bool _)⟩;simp only[binOp,Op.intCmp,ne_eq,not_true_eq_false,Pf,N6];done)
theorem Aj {op:BinOp} {k k':IntKind} {a b:Int} {d:D} {p:Prop} (hp:Af op k a b=(d,p)) (D':p) (t:TypeId) :
  ∃u,(binOp op t (.int k a) (.int k' b)).run P w=.ok u w∧ai S μ w d u:=by
 unfold Af at hp
 cases op<;>simp only[aM,NS]at hp<;>obtain⟨rfl,rfl⟩:=hp <;>
  first
  | exact D'.elim
  | (refine⟨_,?_,.v _ _ (.int _ _)⟩;simp only[binOp,Op.shift];rw[NQ (by omega)];rfl)
theorem Ez {op:BinOp} {a b:ByteArray} {d:D} {p:Prop} (hp:I5 op a b=(d,p)) (D':p) (t:TypeId) :
  ∃u,(binOp op t (.string a) (.string b)).run P w=.ok u w∧ai S μ w d u:=by
 unfold I5 at hp
 cases op<;>simp only[aM,NS]at hp<;>obtain⟨rfl,rfl⟩:=hp <;>
  first
  | exact D'.elim
  | (refine⟨_,?_,.v _ _ (.bool _)⟩;simp only[binOp,Op.stringOp];rfl)
  | (refine⟨_,?_,.v _ _ (.str _)⟩;simp only[binOp,Op.stringOp];rw[NQ (by omega)];rfl)
theorem dn {op:BinOp} {t:TypeId} {x y:Operand} {a b:Value} (h:∀us,a≠.agg us) (h':a≠.nilIface):(eqGuard op t x y a b).run P w=.ok () w:=by
 unfold eqGuard
 cases a<;>first | exact absurd rfl h' | exact absurd rfl (h _) | (split<;>rfl)
theorem gX {t:TypeId} {cs:List D} {I':Nat} {x:V} (h:(cJ P t cs I').1=.v x):cJ P t cs I'=(.v x,True):=by
 unfold cJ at h ⊢
 split
 ·rename_i hc;rw[NT hc]at h;exact Prod.ext h rfl
 ·rename_i hc;rw[NQ hc]at h;cases h
theorem nz {xs ys:List D} {us vs:Array Value} (hx:us.size=xs.length∧∀(j:Nat) (y:D) (u:Value),xs[j]?=some y→us[j]?=some u→ai S μ w y u) (hy:vs.size=ys.length∧∀(j:Nat) (y:D) (u:Value),ys[j]?=some y→vs[j]?=some u→ai S μ w y u)
  {f:Field} {b:Bool} (h:sA P xs ys f=some b) (d:Nat):f.name ≠ "_" ∧ ∃u v,(part f.type us f.offset).run P w=.ok u w∧(part f.type vs f.offset).run P w=.ok v w∧(Op.equalIn (d+1) f.type u v).run P w=.ok b w:=by
 unfold sA at h
 split at h
 ·rename_i hn
  refine⟨hn,?_⟩
  unfold Eu at h
  split at h
  ·rename_i k0 k a k' c hu h1 h2
   obtain⟨u,Vc,Rz⟩:=f8 hx.1 hx.2 (gX h1) trivial
   obtain⟨v,Rm,Sw⟩:=f8 hy.1 hy.2 (gX h2) trivial
   rw[bM Rz]at Vc;rw[bM Sw]at Rm
   split at h
   ·rename_i hk
    have QX:k=k':=by simpa using hk
    subst QX
    cases h
    exact⟨_,_,Vc,Rm,run_equalIn_int w d f.type k k0 a c hu⟩
   ·cases h
  ·rename_i a c hu h1 h2
   obtain⟨u,Vc,Rz⟩:=f8 hx.1 hx.2 (gX h1) trivial
   obtain⟨v,Rm,Sw⟩:=f8 hy.1 hy.2 (gX h2) trivial
   rw[eY Rz]at Vc;rw[eY Sw]at Rm
   cases h
   exact⟨_,_,Vc,Rm,run_equalIn_bool' w d f.type a c hu⟩
  ·rename_i a c hu h1 h2
   obtain⟨u,Vc,Rz⟩:=f8 hx.1 hx.2 (gX h1) trivial
   obtain⟨v,Rm,Sw⟩:=f8 hy.1 hy.2 (gX h2) trivial
   rw[eZ Rz]at Vc;rw[eZ Sw]at Rm
   cases h
   exact⟨_,_,Vc,Rm,run_equalIn_string w d f.type a c hu⟩
  ·cases h
 ·cases h
theorem kR {xs ys:List D} {us vs:Array Value} (hx:us.size=xs.length∧∀(j:Nat) (y:D) (u:Value),xs[j]?=some y→us[j]?=some u→ai S μ w y u) (hy:vs.size=ys.length∧∀(j:Nat) (y:D) (u:Value),ys[j]?=some y→vs[j]?=some u→ai S μ w y u) (d:Nat) :
  ∀(fs:List Field) (b:Bool),kQ P xs ys fs=some b→(Op.eqFields (d+1) us vs fs).run P w=.ok b w
 | [],b,h=>by cases h;simp[Op.eqFields]
 | [f],b,h=>by
  obtain⟨hn,u,v,h1,h2,h3⟩:=nz hx hy h d
  cases b<;>simp[Op.eqFields,hn,NP,h1,h2,h3]
 | f::g::fs,b,h=>by
  unfold kQ at h
  split at h
  ·rename_i a c ha hc
   cases h
   obtain⟨hn,u,v,h1,h2,h3⟩:=nz hx hy ha d
   have ih:=kR hx hy d (g::fs) c hc
   unfold Op.eqFields
   cases a
   ·simp[hn,NP,h1,h2,h3]
   ·simp only[ne_eq,hn,not_false_eq_true,Pe,NP,h1,h2,h3,NO,Bool.not_true,OC,Pf,Pw]
    exact ih
  ·cases h
theorem w3 {t:TypeId} (h:te P t=true):∃e,P.underlying t=some (.slice e):=by
 unfold te at h
 split at h
 ·exact⟨_,by assumption⟩
 ·cases h
theorem yl {t:TypeId} (h:wY P t=true):∃a b c,P.underlying t=some (.func a b c):=by
 unfold wY at h
 split at h
 ·exact⟨_,_,_,by assumption⟩
 ·cases h
theorem ym {x:D} {ux:Value} {b:Bool} {q:Prop} (hx:ai S μ w x ux) (hq:Ew x=some (b,q)) (h:q):∃r n c,ux=.slice r n c∧r.isNone=b:=by
 unfold Ew at hq
 split at hq
 ·cases hq;cases hx;exact⟨_,_,_,rfl,rfl⟩
 ·cases hq;have hx:=bg hx;cases hx;exact⟨_,_,_,rfl,rfl⟩
 ·cases hq;have hx:=bg hx;cases hx;exact⟨_,_,_,rfl,rfl⟩
 ·rename_i sz α enc d l
  cases hq
  obtain⟨p,c,rfl,_,_,_,h4⟩:=eF (bg hx)
  obtain⟨b,I',us,rfl,_⟩:=h4 (List.length_pos_iff.2 h)
  exact⟨_,_,_,rfl,rfl⟩
 ·cases hq
theorem w7 {x:D} {ux:Value} {b:Bool} (hx:ai S μ w x ux) (hq:Ag x=some b):(b=true∧ux=.nilFunc)∨(b=false∧∃f us vs,ux=.func f us vs):=by
 unfold Ag at hq
 split at hq
 ·cases hq;have hx:=bg hx;cases hx;exact .inl ⟨rfl,rfl⟩
 ·cases hq;cases hx;exact .inr ⟨rfl,_,_,_,rfl⟩
 ·cases hq
theorem qy {op:BinOp} {t:TypeId} {b:Bool} {q p:Prop} {d:D} {ux uy:Value} (hp:yj op b q=(d,p)) (D':p) (he:(Op.equal t ux uy).run P w=.ok b w) (hx:∀k n,ux≠.int k n:=by intros;intro h;cases h) (hf:∀k n,ux≠.float k n:=by intros;intro h;cases h)
  (hc:∀k a b,ux≠.complex k a b:=by intros;intro h;cases h) (hs:∀s,ux≠.string s:=by intros;intro h;cases h):∃u,(binOp op t ux uy).run P w=.ok u w∧ai S μ w d u:=by
 unfold yj at hp
 split at hp
 ·cases hp
  refine⟨.bool b,?_,.v _ _ (.bool _)⟩
  unfold binOp
  cases ux<;>first | exact absurd rfl (hx _ _) | exact absurd rfl (hf _ _) | exact absurd rfl (hc _ _ _) | exact absurd rfl (hs _) | simp only[NP,he,NO,N6]
 ·cases hp
  refine⟨.bool (!b),?_,.v _ _ (.bool _)⟩
  unfold binOp
  cases ux<;>first | exact absurd rfl (hx _ _) | exact absurd rfl (hf _ _) | exact absurd rfl (hc _ _ _) | exact absurd rfl (hs _) | simp only[NP,he,NO,N6]
 ·cases hp;exact D'.elim
theorem Ak {op:BinOp} {t:TypeId} {x y d:D} {p:Prop} {ux uy:Value} (ox oy:Operand) (hx:ai S μ w x ux) (hy:ai S μ w y uy) (hp:I6 P op t x y=(d,p)) (D':p) :
  ∃u,(do eqGuard op t ox oy ux uy;binOp op t ux uy:Sem Value).run P w=.ok u w∧ai S μ w d u:=by
 unfold I6 at hp
 split at hp
 ·rename_i k a k' b
  rw[bM hx,bM hy]
  simp only[NP,dn (P:=P) (w:=w) (a:=.int k a) (fun _ h=>by cases h) (fun h=>by cases h),NO]
  split at hp
  ·exact Aj hp D' t
  ·rename_i hs
   split at hp
   ·rename_i hk
    have:k=k':=by simpa using hk
    subst this
    exact Dl (by simpa using hs) hp D' t
   ·cases hp;exact D'.elim
 ·rename_i a b
  rw[eZ hx,eZ hy]
  simp only[NP,dn (P:=P) (w:=w) (a:=.string a) (fun _ h=>by cases h) (fun h=>by cases h),NO]
  exact Ez hp D' t
 ·rename_i a b
  rw[eY hx,eY hy]
  simp only[NP,dn (P:=P) (w:=w) (a:=.bool a) (fun _ h=>by cases h) (fun h=>by cases h),NO]
  split at hp
  ·rename_i hu
   have he:(Op.equal t (.bool a) (.bool b)).run P w=.ok (a==b) w:=by
    unfold Op.equal
    rw[show Op.maxDepth=9999+1 from rfl,Op.equalIn]
    simp only[NP,Ou hu,NO,N6]
   cases op<;>simp only[aM,NS]at hp<;>obtain⟨rfl,rfl⟩:=hp <;>
    first
    | exact D'.elim
    | (refine⟨_,?_,.v _ _ (.bool _)⟩;simp only[binOp,NP,he,NO,N6])
  ·cases hp;exact D'.elim
 ·rename_i xs ys
  obtain⟨us,rfl,S4,TZ⟩:=dV hx
  obtain⟨vs,rfl,hy1,hy2⟩:=dV hy
  unfold Iv at hp
  split at hp
  ·rename_i hc
   simp only[NK,Oc]at hc
   obtain⟨⟨hs,hg⟩,ht⟩:=hc
   have hu:P.underlying t=some (.struct (P.fieldsOf t)):=by
    unfold vq at ht
    unfold Program.fieldsOf
    split at ht
    ·rename_i fs hfs;rw[hfs]
    ·cases ht
   have he:∀b,kQ P xs ys (P.fieldsOf t).toList=some b→(Op.equalIn 10000 t (.agg us) (.agg vs)).run P w=.ok b w:=fun b hb=>by
    rw[show(10000:Nat)=9999+1 from rfl,run_equalIn_agg w 9999 t us vs hu hs]
    exact kR ⟨S4,TZ⟩ ⟨hy1,hy2⟩ 9998 _ b hb
   simp only[NP,run_eqGuard_agg (P:=P) w op t ox oy us vs hg,NO]
   split at hp
   ·rename_i b hb
    cases hp
    exact⟨_,by rw[run_eql_struct,he b hb,NO],.v _ _ (.bool _)⟩
   ·rename_i b hb
    cases hp
    exact⟨_,by rw[run_neq_struct,he b hb,NO],.v _ _ (.bool _)⟩
   ·cases hp;exact D'.elim
  ·cases hp;exact D'.elim
 ·cases hy
  split at hp
  ·rename_i b q hq
   split at hp
   ·rename_i ht
    obtain⟨e,he⟩:=w3 ht
    have hob':q:=by
     unfold yj at hp
     split at hp<;>cases hp<;>first | exact D' | exact D'.elim
    obtain⟨r,n,c,rfl,hr⟩:=ym hx hq hob'
    simp only[NP,dn (P:=P) (w:=w) (a:=.slice r n c) (fun _ h=>by cases h) (fun h=>by cases h),NO]
    have UN:(Op.equal t (.slice r n c) (.slice none 0 0)).run P w=.ok b w:=by
     unfold Op.equal
     rw[show Op.maxDepth=9999+1 from rfl,Op.equalIn]
     simp only[NP,Ou he,NO]
     cases r<;>simp at hr<;>subst hr<;>rfl
    exact qy hp D' UN
   ·cases hp;exact D'.elim
  ·cases hp;exact D'.elim
 ·have hy2:=bg hy
  cases hy2
  split at hp
  ·rename_i b hq
   split at hp
   ·rename_i ht
    obtain⟨e1,e2,e3,he⟩:=yl ht
    have hu:(b=true∧ux=.nilFunc)∨(b=false∧∃f us vs,ux=.func f us vs):=w7 hx hq
    have UN:(Op.equal t ux .nilFunc).run P w=.ok b w:=by
     unfold Op.equal
     rw[show Op.maxDepth=9999+1 from rfl,Op.equalIn]
     simp only[NP,Ou he,NO]
     rcases hu with ⟨rfl,rfl⟩ | ⟨rfl,f,us,vs,rfl⟩<;>rfl
    rw[NP,dn (P:=P) (w:=w) (a:=ux) (fun _ h=>by rcases hu with ⟨_,rfl⟩ | ⟨_,f,us,vs,rfl⟩<;>cases h) (fun h=>by rcases hu with ⟨_,rfl⟩ | ⟨_,f,us,vs,rfl⟩<;>cases h),NO]
    rcases hu with ⟨h1,rfl⟩ | ⟨h1,f,us,vs,rfl⟩
    ·exact qy hp D' UN
    ·exact qy hp D' UN
   ·cases hp;exact D'.elim
  ·cases hp;exact D'.elim
 ·cases hp;exact D'.elim
theorem Dm {op:UnOp} {x d:D} {p:Prop} {ux:Value} (hx:ai S μ w x ux) (hp:Mb op x=(d,p)) (D':p) :
  ∃u,(Op.unary op ux).run P w=.ok u w∧ai S μ w d u:=by
 unfold Mb at hp
 split at hp
 ·cases hp;rw[bM hx];exact⟨_,rfl,.v _ _ (.int _ _)⟩
 ·cases hp;rw[bM hx];exact⟨_,rfl,.v _ _ (.int _ _)⟩
 ·cases hp;rw[eY hx];exact⟨_,rfl,.v _ _ (.bool _)⟩
 ·cases hp;exact D'.elim
theorem yn {src dst:TypeId} {x d:D} {p:Prop} {ux:Value} (hx:ai S μ w x ux) (hp:Ey P src dst x=(d,p)) (D':p) :
  ∃u,(convert src dst ux).run P w=.ok u w∧ai S μ w d u:=by
 unfold Ey at hp
 split at hp
 ·rename_i hk
  unfold ca at hk
  simp only[NK,Option.isSome_iff_exists]at hk
  obtain⟨_,s,hs⟩:=hk
  split at hp
  ·rename_i k k' n hd
   rw[bM hx]
   split at hp
   ·cases hp;exact D'.elim
   ·cases hp
    refine⟨_,?_,.v _ _ (.int _ _)⟩
    unfold convert
    simp only[NP,Ou hs,Ou hd,NO,Conv.intToInt]
    rfl
  ·rename_i s' hd
   cases hp
   rw[eZ hx]
   refine⟨_,?_,.v _ _ (.str _)⟩
   unfold convert
   simp only[NP,Ou hs,Ou hd,NO]
   rfl
  ·cases hp;exact D'.elim
 ·cases hp;exact D'.elim
theorem Al {t ty:TypeId} {H:List ak} (hH:a9 S μ w H) {x d:D} {p:Prop} {ux:Value} (hx:ai S μ w x ux) (hp:I7 P t H x=(d,p)) (D':p) :
  ∃u,(Builtin.len_ #[t] ty #[ux]).run P w=.ok u w∧ai S μ w d u:=by
 have sl:∀(e:TypeId) (q:Option Addr) (n c:Nat),P.underlying t=some (.slice e)→(Builtin.len_ #[t] ty #[.slice q n c]).run P w=.ok (.int .i64 n) w:=by
  intro e q n c hu
  simp[Builtin.len_,NP,Ou hu,goInt]
 unfold I7 at hp
 split at hp
 ·rename_i s hu
  cases hp
  rw[eZ hx]
  exact⟨_,by simp[Builtin.len_,NP,Ou hu,goInt],.v _ _ (.int _ _)⟩
 ·rename_i n e hu
  cases hp
  exact⟨_,by simp[Builtin.len_,NP,Ou hu,goInt],.v _ _ (.int _ _)⟩
 ·rename_i e sz α enc d' l hu
  cases hp
  obtain⟨q,c,rfl,_⟩:=eF (bg hx)
  exact⟨_,sl _ _ _ _ hu,.v _ _ (.int _ _)⟩
 ·rename_i e hu
  cases hp
  cases hx
  exact⟨_,sl _ _ _ _ hu,.v _ _ (.int _ _)⟩
 ·rename_i e hu
  cases hp
  have hx:=bg hx
  cases hx
  exact⟨_,sl _ _ _ _ hu,.v _ _ (.int _ _)⟩
 ·rename_i e hu
  cases hp
  have hx:=bg hx
  cases hx
  exact⟨_,sl _ _ _ _ hu,.v _ _ (.int _ _)⟩
 ·rename_i e id hu
  split at hp
  ·rename_i E sz α enc d' l hb
   cases hp
   rw[bq hx]
   obtain⟨q,c,hm,_⟩:=bK (hH.box id _ hb)
   rw[hm]
   exact⟨_,sl _ _ _ _ hu,.v _ _ (.int _ _)⟩
  ·rename_i E sz α enc d' l hb
   cases hp
   rw[bq hx]
   obtain⟨q,c,hm,_⟩:=bK (hH.box id _ hb).ro_arr
   rw[hm]
   exact⟨_,sl _ _ _ _ hu,.v _ _ (.int _ _)⟩
  ·rename_i E sz m gs cell hb
   cases hp
   rw[bq hx]
   obtain⟨q,c,hm,_⟩:=eH (hH.box id _ hb)
   rw[hm]
   exact⟨_,sl _ _ _ _ hu,.v _ _ (.int _ _)⟩
  ·cases hp;exact D'.elim
 ·cases hp;exact D'.elim
end
def i4 (H:List ak):D→Option (List D)
 | .agg cs=>some cs
 | .tup _=>none
 | .junk=>none
 | .own id=>match H[id]? with | some (.arr _ _ _ _ _)=>some [.own id] | some (.ro _ _ _ _ _)=>some [.own id] | some (.mpb _ _ _ _ _)=>some [.own id] | some (.arrD _ _ _ _ _)=>some [.own id] | _=>none
 | d=>some [d]
def e9 (cs new:List D) (I':Nat):List D:=cs.take I'++new++cs.drop (I'+new.length)
def f9 (H:List ak) (SK:Nat→Option (Nat×Nat)) (cells:List D):List (Nat×D)→Option (List D)
 | []=>some cells
 | (i,x)::rest=>match SK i,i4 H x with
  | some (I',size),some new=>if Nat.beq new.length size&&Nat.ble (I'+new.length) cells.length then f9 H SK (e9 cells new I') rest else none
  | _,_=>none
def ga (P:Program) (t:TypeId):Option (List D):=((P.info? t).bind (·.zero)).map fun z=>z.cells.toList.map D.ofVal1
def Am (P:Program) (H:List ak) (t:TypeId) (P8:List (Nat×D)):R1 :=
 match ga P t,P.underlying t with
 | some z,some (.struct fs)=>if fs.all (fun f=>ca P f.type)then
   match f9 H (fun i=>(fs[i]?).map fun f=>(f.offset,az P f.type)) z P8 with
   | some cs=>(.agg cs,True)
   | none=>aM
  else aM
 | some z,some (.array _ e)=>if ca P e then
   match f9 H (fun i=>some (i*az P e,az P e)) z P8 with
   | some cs=>(.agg cs,True)
   | none=>aM
  else aM
 | _,_=>aM
def L3 (f:Int→Int→Int) (x y:D):R1 :=
 match x,y with
 | .v (.int k a),.v (.int _ b)=>(.v (.int k (f a b)),True)
 | _,_=>aM
def Iw (c a b:D):R1 :=
 match c with
 | .v (.bool t)=>(match t with | true=>a | false=>b,True)
 | _=>aM
def KI:D→R1
 | .ptr id i sz I'=>(.ptr id i sz I',True)
 | .iptr cs I'=>(.iptr cs I',True)
 | .fn (.func f) a b=>(.fn (.func f) a b,True)
 | .yld id=>(.yld id,True)
 | _=>aM
def yo (x:D) (i:Nat):R1 :=
 match x with
 | .tup cs=>if Nat.blt i cs.length then (cs.getD i .junk,True)else aM
 | _=>aM
def vu (x y:D):Prop:=∀(S:Nat→Prop) (μ:Nat→Value) (w:World) (u:Value),ai S μ w x u→ai S μ w y u
def kS {α:Type _} (d:α):List (ByteArray×α)→ByteArray→α
 | [],_=>d
 | (k',x)::r,k=>if k=k' then x else kS d r k
def rI {α:Type _}:List (ByteArray×α)→ByteArray→Bool
 | [],_=>false
 | (k',_)::r,k=>if k=k' then true else rI r k
def nA {α:Type _}:List (ByteArray×α)→ByteArray→α→List (ByteArray×α)
 | [],k,x=>[(k,x)]
 | (k',y)::r,k,x=>if k=k' then (k,x)::r else (k',y)::nA r k x
theorem MW (a b:ByteArray):(a==b)=decide (a=b):=by
 cases a with | mk x=>cases b with | mk y =>
 show(x==y)=_
 by_cases h:x=y
 ·subst h;simp
 ·rw[N5 (by simpa using h)];exact beq_eq_false_iff_ne.2 h
theorem Ix (a b:ByteArray):Instr.sameNow .string (.string a) (.string b)=some (decide (a=b)):=by
 show some (a==b)=_
 rw[MW]
theorem EA {α:Type _} {R:α→Value→Prop} (d:α) (k:ByteArray):∀(l:List (ByteArray×α)) (arr:List MapEntry) (n:Nat),arr.length=l.length→(∀(i:Nat) (k':ByteArray) (x:α),l[i]?=some (k',x)→∃e,arr[i]?=some e∧e.key=.string k'∧R x e.val) →
  (rI l k=false∧kS d l k=d∧Instr.findNow .string (.string k) arr n=some none∧∀x,nA l k x=l++[(k,x)]) ∨
  (rI l k=true∧∃(i:Nat) (e:MapEntry) (y:α),l[i]?=some (k,y)∧arr[i]?=some e∧e.key=.string k∧R y e.val∧Instr.findNow .string (.string k) arr n=some (some (n+i,e.val))∧kS d l k=y∧∀x,nA l k x=l.set i (k,x))
 | [],arr,n,hl,_=>by
  have:arr=[]:=List.length_eq_zero_iff.1 hl
  subst this
  exact .inl ⟨rfl,rfl,by simp[Instr.findNow],fun x=>rfl⟩
 | (k',x)::r,[],n,hl,_=>by simp at hl
 | (k',x)::r,a::arr,n,hl,h=>by
  obtain⟨e,he,hk,hr⟩:=h 0 k' x rfl
  simp only[PP,NW]at he
  subst he
  by_cases Tg:k=k'
  ·subst Tg
   refine .inr ⟨by rw[rI,NT rfl],0,a,x,rfl,rfl,hk,hr,?_,by rw[kS,NT rfl],fun y=>by rw[nA,NT rfl];rfl⟩
   unfold Instr.findNow
   rw[hk,Ix,Og rfl]
   rfl
  ·have hf:Instr.findNow .string (.string k) (a::arr) n=Instr.findNow .string (.string k) arr (n+1):=by
    conv=>lhs;unfold Instr.findNow
    rw[hk,Ix,N5 Tg]
   rw[hf,rI,NQ Tg,kS,NQ Tg]
   rcases EA d k r arr (n+1) (by simpa using hl) (fun i k' x hx=>by simpa using h (i+1) k' x (by simpa using hx))with ⟨h1,h0,h2,h3⟩ | ⟨h1,i,e,y,h2,h3,h4,h5,h6,h7,h8⟩
   ·exact .inl ⟨h1,h0,h2,fun y=>by rw[nA,NQ Tg,h3];rfl⟩
   ·exact .inr ⟨h1,i+1,e,y,by simpa using h2,by simpa using h3,h4,h5,by rw[h6,show n+1+i=n+(i+1) by omega],h7,fun y=>by rw[nA,NQ Tg,h8];rfl⟩
def vw (P:Program) (t:TypeId):Option D:=((P.info? t).bind (·.zero)).map D.ofVal
def w8 (P:Program) (H:List ak) (t:TypeId) (x ix:D) (c:Bool):R1 :=
 match P.underlying t,x,ix with
 | some (.map K E),.own id,.v (.str k)=>match P.underlying K,vw P E,H[id]? with
  | some .string,some z,some (.mpb t' ag enc d l) =>
   if Nat.beq t t' then (if c then .tup [jD ag (enc (kS d l k)),.v (.bool (rI l k))]else jD ag (enc (kS d l k)),vu z (jD ag (enc d)))else aM
  | _,_,_=>aM
 | some (.map K E),.v (.sm ag enc d l),.v (.str k)=>match P.underlying K,vw P E with
  | some .string,some z=>(if c then .tup [jD ag (enc (kS d l k)),.v (.bool (rI l k))]else jD ag (enc (kS d l k)),vu z (jD ag (enc d))∧(ag=false→∀p∈l,(enc p.2).length=1))
  | _,_=>aM
 | _,_,_=>aM
def fA (P:Program) (H:List ak) (ρ:Operand→D) (op:Op):R1 :=
 match op with
 | .move x=>(ρ x,True)
 | .assign x=>(ρ x,True)
 | .pick c a b=>Iw (ρ c) (ρ a) (ρ b)
 | .load t a=>BG P t H (ρ a)
 | .nilCheck x=>KI (ρ x)
 | .binOp op t x y _=>I6 P op t (ρ x) (ρ y)
 | .unOp op _ x=>Mb op (ρ x)
 | .convert src dst x=>Ey P src dst (ρ x)
 | .makeFunc fn first cap=>(.fn fn (first.toList.map ρ) (cap.toList.map ρ),True)
 | .slice t x lo hi mx=>Ad P t (ρ x) (lo.map ρ) (hi.map ρ) (mx.map ρ)
 | .fieldAddr s x f=>og P s (ρ x) f
 | .field t x f=>Aa P t (ρ x) f
 | .indexAddr t x i=>oh P t H (ρ x) (ρ i)
 | .index t x i=>Ab P t (ρ x) (ρ i)
 | .extract x i=>yo (ρ x) i
 | .build t P8=>Am P H t (P8.toList.map fun p=>(p.1,ρ p.2))
 | .lookup t x ix c=>w8 P H t (ρ x) (ρ ix) c
 | .call c=>match c.callee with
  | .builtin .len=>match c.args.toList,c.argTypes.toList with
   | [x],[t]=>I7 P t H (ρ x)
   | _,_=>aM
  | .builtin .min=>match c.args.toList with
   | [x,y]=>L3 yk (ρ x) (ρ y)
   | _=>aM
  | .builtin .max=>match c.args.toList with
   | [x,y]=>L3 GZ (ρ x) (ρ y)
   | _=>aM
  | _=>aM
 | _=>aM
section
variable {P:Program} {S:Nat→Prop} {μ:Nat→Value} {w:World}
theorem cz.cells {x:V} {u:Value} (h:cz S w x u):u.cells=#[u]:=by cases h<;>rfl
theorem gL {H:List ak} (hH:a9 S μ w H) {d:D} {u:Value} {cs:List D} (hd:ai S μ w d u) (hc:i4 H d=some cs) :
  u.cells.size=cs.length∧∀(j:Nat) (y:D) (z:Value),cs[j]?=some y→u.cells[j]?=some z→ai S μ w y z:=by
 have one:∀(d:D) (u:Value),ai S μ w d u→u.cells=#[u]→cs=[d]→u.cells.size=cs.length∧∀(j:Nat) (y:D) (z:Value),cs[j]?=some y→u.cells[j]?=some z→ai S μ w y z:=by
  rintro d u hd hu rfl
  rw[hu]
  refine⟨rfl,fun j y z hy hz=>?_⟩
  cases j with
  | zero=>simp at hy hz;subst hy hz;exact hd
  | succ j=>simp at hy
 unfold i4 at hc
 split at hc
 ·cases hc
  obtain⟨us,rfl,h1,h2⟩:=dV hd
  exact⟨h1,h2⟩
 ·cases hc
 ·cases hc
 ·split at hc
  ·rename_i E sz α enc d' l hb
   cases hc
   obtain⟨q,c,hm,_⟩:=bK (hH.box _ _ hb)
   have hu:=bq hd
   exact one _ _ hd (by rw[hu,hm];rfl) rfl
  ·rename_i E sz α enc d' l hb
   cases hc
   obtain⟨q,c,hm,_⟩:=bK (hH.box _ _ hb).ro_arr
   have hu:=bq hd
   exact one _ _ hd (by rw[hu,hm];rfl) rfl
  ·rename_i t ag α enc d' l hb
   cases hc
   obtain⟨b,arr,clock,hm,_⟩:=hH.box _ _ hb
   have hu:=bq hd
   exact one _ _ hd (by rw[hu,hm];rfl) rfl
  ·rename_i E sz m gs cell hb
   cases hc
   obtain⟨q,c,hm,_⟩:=eH (hH.box _ _ hb)
   have hu:=bq hd
   exact one _ _ hd (by rw[hu,hm];rfl) rfl
  ·cases hc
 ·rename_i h1 h2 h3 h4
  cases hc
  refine one _ _ hd ?_ rfl
  cases hd with
  | v x u h=>exact h.cells
  | nils=>rfl
  | own id=>exact absurd rfl (h4 id)
  | ptr=>rfl
  | iptr=>rfl
  | agg cs us _ _=>exact absurd rfl (h1 cs)
  | tup cs us _ _=>exact absurd rfl (h2 cs)
  | fn=>rfl
  | yld=>rfl
  | capd=>rfl
  | gr g r us u _ _ h=>cases u<;>first | rfl | cases h
  | preA=>rfl
  | preB _ _ _ _ _ _ _ h=>exact h.cells
  | junk u=>exact absurd rfl h3
def aK (S:Nat→Prop) (μ:Nat→Value) (w:World) (cs:List D) (us:Array Value):Prop :=
 us.size=cs.length∧∀(j:Nat) (y:D) (z:Value),cs[j]?=some y→us[j]?=some z→ai S μ w y z
theorem G0 (new:Array Value) (cells:Array Value) (I':Nat):∀(n:Nat),n≤new.size→I'+new.size≤cells.size →
  ((new.toList.zipIdx.take n).foldl (fun cs (p:Value×Nat)=>cs.setIfInBounds (I'+p.2) p.1) cells).size=cells.size ∧
  ∀j,((new.toList.zipIdx.take n).foldl (fun cs (p:Value×Nat)=>cs.setIfInBounds (I'+p.2) p.1) cells)[j]?=if I'≤j∧j<I'+n then new[j-I']? else cells[j]?:=by
 intro n
 induction n with
 | zero=>intro _ _;exact⟨by simp,fun j=>by rw[NQ (by omega)];simp⟩
 | succ n ih =>
  intro hn ho
  obtain⟨h1,h2⟩:=ih (by omega) ho
  have ht:new.toList.zipIdx.take (n+1)=new.toList.zipIdx.take n++[(new[n]'(by omega),n)]:=by
   rw[List.take_succ_eq_append_getElem (by simp;omega)]
   congr 1
   simp
  rw[ht,List.foldl_append]
  simp only[List.foldl_cons,List.foldl_nil]
  refine⟨by rw[Array.size_setIfInBounds];exact h1,fun j=>?_⟩
  by_cases hj:j=I'+n
  ·subst hj
   rw[Array.getElem?_setIfInBounds_self_of_lt (by omega),NT (by omega),show I'+n-I'=n from by omega]
   simp
  ·rw[OP (by omega),h2 j]
   by_cases hc:I'≤j∧j<I'+n
   ·rw[NT hc,NT (by omega)]
   ·rw[NQ hc,NQ (by omega)]
theorem yp {cs new:List D} {us vs:Array Value} {I':Nat} (h:aK S μ w cs us) (hn:aK S μ w new vs) (ho:I'+new.length≤cs.length) :
  aK S μ w (e9 cs new I') (vs.zipIdx.foldl (fun cs (c,j)=>cs.setIfInBounds (I'+j) c) us):=by
 have e:vs.zipIdx.foldl (fun cs (c,j)=>cs.setIfInBounds (I'+j) c) us=(vs.toList.zipIdx.take vs.size).foldl (fun cs (p:Value×Nat)=>cs.setIfInBounds (I'+p.2) p.1) us:=by
  rw[← Array.foldl_toList,Array.toList_zipIdx,List.take_of_length_le (by simp)]
 obtain⟨h1,h2⟩:=G0 vs us I' vs.size (NN _) (by rw[hn.1,h.1];exact ho)
 rw[← e]at h1 h2
 refine⟨by rw[h1,h.1];simp[e9];omega,fun j y z hy hz=>?_⟩
 rw[h2 j]at hz
 unfold e9 at hy
 by_cases hc:I'≤j∧j<I'+vs.size
 ·rw[NT hc]at hz
  refine hn.2 (j-I') y z ?_ hz
  rw[NU (by simp;have:=hn.1;omega),NX (by simp;omega)]at hy
  rw[N3,P6 (by omega)]at hy
  exact hy
 ·rw[NQ hc]at hz
  refine h.2 j y z ?_ hz
  have hs:=hn.1
  by_cases hj:j<I'
  ·rw[NU (by simp;omega),NU (by simp;omega),Ob,NT hj]at hy
   exact hy
  ·rw[NX (by simp;omega),O6]at hy
   simp only[NY,N3]at hy
   rw[show I'+new.length+(j-(min I' cs.length+new.length))=j from by omega]at hy
   exact hy
theorem eJ {H:List ak} (hH:a9 S μ w H) {SK:Nat→Option (Nat×Nat)}:∀(P8:List (Nat×D)) (Qj:List (Nat×Value)) (cells SU:List D) (us:Array Value),
  P8.map (·.1)=Qj.map (·.1)→(∀(j:Nat) (x:Nat×D) (u:Nat×Value),P8[j]?=some x→Qj[j]?=some u→ai S μ w x.2 u.2) →
  aK S μ w cells us→f9 H SK cells P8=some SU→∃vs,Instr.fill SK us Qj=some vs∧aK S μ w SU vs
 | [],[],cells,SU,us,_,_,hc,hf=>by
  simp only[f9,NW]at hf
  subst hf
  exact⟨us,rfl,hc⟩
 | [],_::_,_,_,_,h,_,_,_=>by simp at h
 | _::_,[],_,_,_,h,_,_,_=>by simp at h
 | (i,x)::P8,(i',u)::Qj,cells,SU,us,hi,hr,hc,hf=>by
  simp only[OQ,Pn]at hi
  obtain⟨rfl,hi⟩:=hi
  unfold f9 at hf
  split at hf
  ·rename_i I' size new hp hn
   split at hf
   ·rename_i Qt
    simp only[NK,N2,OY]at Qt
    obtain⟨hl,ho⟩:=Qt
    have QV:=gL hH (hr 0 _ _ rfl rfl) hn
    obtain⟨vs,h1,h2⟩:=eJ hH P8 Qj _ SU _ hi (fun j x u hx hu=>hr (j+1) x u (by simpa using hx) (by simpa using hu)) (yp hc QV ho) hf
    refine⟨vs,?_,h2⟩
    unfold Instr.fill
    rw[hp]
    dsimp only
    have h9:u.cells.size=new.length:=QV.1
    have h8:us.size=cells.length:=hc.1
    rw[NQ (by simp only[Oq,OO];omega)]
    exact h1
   ·cases hf
  ·cases hf
theorem gd {t:TypeId} {z:List D} (h:ga P t=some z):∃v,(zeroValue t).run P w=.ok v w∧aK S μ w z v.cells:=by
 unfold ga at h
 cases hi:P.info? t with
 | none=>simp[hi]at h
 | some i =>
  cases hz:i.zero with
  | none=>simp[hi,hz]at h
  | some v =>
   simp only[hi,hz,PB,Oz,NW]at h
   subst h
   refine⟨v,by simp[zeroValue,typeInfo,hi,hz,NP],by simp,fun j y u hy hu=>?_⟩
   simp only[N4,Oo,hu,Oz,NW]at hy
   subst hy
   exact ai.ofVal1 S μ w u
theorem kD:∀(l:List Field),l.all (fun f=>ca P f.type)=true→(l.mapM (fun f=>do pure (f.offset,← sizeOf f.type):Field→Sem (Nat×Nat))).run P w=.ok (l.map fun f=>(f.offset,az P f.type)) w
 | [],_=>rfl
 | f::l,h=>by
  simp only[PX,NK]at h
  have:=kD l h.2
  simp only[List.mapM_cons,NP,dm h.1,NO,N6,this,OQ]
theorem w9 {H:List ak} (hH:a9 S μ w H) {t:TypeId} {P8:List (Nat×D)} {Qj:List (Nat×Value)} {d:D} {p:Prop} (h1:P8.map (·.1)=Qj.map (·.1))
  (h2:∀(j:Nat) (x:Nat×D) (u:Nat×Value),P8[j]?=some x→Qj[j]?=some u→ai S μ w x.2 u.2) (hp:Am P H t P8=(d,p)) (D':p) :
  ∃u,(Instr.build t Qj.toArray).run P w=.ok u w∧ai S μ w d u:=by
 unfold Am at hp
 split at hp
 ·rename_i z fs hz hu
  split at hp
  ·rename_i hall
   split at hp
   ·rename_i cs hf
    cases hp
    obtain⟨v,hv,hr⟩:=gd (S:=S) (μ:=μ) (w:=w) hz
    obtain⟨vs,h3,h4⟩:=eJ hH P8 Qj z cs v.cells h1 h2 hr hf
    refine⟨.agg vs,?_,.agg _ _ h4.1 h4.2⟩
    have hall':fs.toList.all (fun f=>ca P f.type)=true:=by simpa using hall
    have hm:=kD (P:=P) (w:=w) fs.toList hall'
    have hm2:(fs.mapM (fun f=>do pure (f.offset,← sizeOf f.type):Field→Sem (Nat×Nat))).run P w=.ok (fs.toList.map fun f=>(f.offset,az P f.type)).toArray w:=by
     rw[Array.mapM_eq_mapM_toList]
     have hb:∀(s:Sem (List (Nat×Nat))) (r:List (Nat×Nat)),s.run P w=.ok r w→((s.bind (Sem.pure ∘ List.toArray)):Sem (Array (Nat×Nat))).run P w=.ok r.toArray w:=by
      intro s r h
      show Sem.run P (s >>= (Sem.pure ∘ List.toArray)) w=_
      rw[NP,h]
      rfl
     exact hb _ _ hm
    unfold Instr.build
    simp only[NP,hv,Ou hu,NO,hm2]
    have Tn:(fun (i:Nat)=>((fs.toList.map fun (f:Field)=>(f.offset,az P f.type)).toArray)[i]?)=fun (i:Nat)=>(fs[i]?).map fun (f:Field)=>(f.offset,az P f.type):=by
     funext i
     simp
    rw[Tn,h3]
    rfl
   ·cases hp;exact D'.elim
  ·cases hp;exact D'.elim
 ·rename_i z n e hz hu
  split at hp
  ·rename_i hk
   split at hp
   ·rename_i cs hf
    cases hp
    obtain⟨v,hv,hr⟩:=gd (S:=S) (μ:=μ) (w:=w) hz
    obtain⟨vs,h3,h4⟩:=eJ hH P8 Qj z cs v.cells h1 h2 hr hf
    refine⟨.agg vs,?_,.agg _ _ h4.1 h4.2⟩
    unfold Instr.build
    simp only[NP,hv,Ou hu,NO,dm hk]
    rw[h3]
    rfl
   ·cases hp;exact D'.elim
  ·cases hp;exact D'.elim
 ·cases hp;exact D'.elim
theorem rJ {w:World} {t K E:TypeId} {b clock:Nat} {arr:Array MapEntry} {k:ByteArray} (ht:P.underlying t=some (.map K E)) (hK:P.underlying K=some .string) (hb:w.heap[b]?=some (.map arr clock)) {r:Option (Nat×Value)} (hf:Instr.findNow .string (.string k) arr.toList 0=some r) {z:Value} (hz:r=none→(zeroValue E).run P w=.ok z w) (c:Bool) :
  (Instr.lookup t (.map (some b)) (.string k) c).run P w=.ok (if c then .tuple #[match r with | some (_,v)=>v | none=>z,.bool r.isSome]else match r with | some (_,v)=>v | none=>z) w:=by
 have hu:(underlying t).run P w=.ok (.map K E) w:=by simp[underlying,ht,NP,Sem.run]
 have Rz:(underlying K).run P w=.ok .string w:=by simp[underlying,hK,NP,Sem.run]
 have hg:(getObj b).run P w=.ok (.map arr clock) w:=by simp[getObj,Sem.run,hb]
 have hc:(Instr.checkKey arr.isEmpty 10000 K (.string k)).run P w=.ok () w:=by
  rw[show(10000:Nat)=9999+1 from rfl]
  unfold Instr.checkKey
  simp[NP,Rz]
 have hk:(Instr.findKey K (.string k) arr.toList).run P w=.ok r w:=by
  simp[Instr.findKey,NP,Rz,hf]
 cases r with
 | some q =>
  obtain⟨i,v⟩:=q
  cases c<;>simp[Instr.lookup,NP,hu,hg,hc,hk]
 | none =>
  cases c<;>simp[Instr.lookup,NP,hu,hg,hc,hk,hz rfl]
theorem vx {ag:Bool} {α:Type} {enc:α→List V} {l:List (ByteArray×α)} {arr:Array MapEntry} (h:BF S μ w ag enc l arr):arr.toList.length=l.length∧∀(i:Nat) (k':ByteArray) (x:α),l[i]?=some (k',x)→∃e,arr.toList[i]?=some e∧e.key=.string k'∧((ag=false→(enc x).length=1)∧ai S μ w (jD ag (enc x)) e.val) :=
 ⟨by simpa using h.1,fun i k' x hx=>by
  obtain⟨e,h1,h2,h3⟩:=h.2 i k' x hx
  exact⟨e,by simpa using h1,h2,h3⟩⟩
theorem Dn {E:TypeId} {z:D} (hz:vw P E=some z):∃v,(zeroValue E).run P w=.ok v w∧ai S μ w z v:=by
 unfold vw at hz
 cases hi:P.info? E with
 | none=>simp[hi]at hz
 | some i =>
  cases hv:i.zero with
  | none=>simp[hi,hv]at hz
  | some v =>
   simp only[hi,hv,PB,Oz,NW]at hz
   refine⟨v,?_,hz ▸ ai.ofVal S μ w v⟩
   simp[zeroValue,typeInfo,hi,hv,NP,Sem.run]
theorem EB {ag:Bool} {α:Type} {enc:α→List V} {l:List (ByteArray×α)} {arr:Array MapEntry} {us:Nat→Nat→Value} (h4:arr.size=l.length) (h5:∀(i:Nat) (k:ByteArray) (x:α),l[i]?=some (k,x)→∃e,arr[i]?=some e∧e.key=.string k∧BE ag (enc x).length e.val (us i)) (h6:∀(i:Nat) (k:ByteArray) (x:α) (j:Nat) (y:V),l[i]?=some (k,x)→(enc x)[j]?=some y→cz S w y (us i j)) (h7:ag=false→∀p∈l,(enc p.2).length=1):BF S μ w ag enc l arr:=by
 refine⟨h4,fun i k x hx=>?_⟩
 obtain⟨e,e1,e2,e3⟩:=h5 i k x hx
 refine⟨e,e1,e2,fun ha=>h7 ha _ (Oh hx),?_⟩
 unfold BE at e3
 cases ag
 ·simp only[OC,Pf]at e3
  have hl:=e3.1
  match hq:enc x,hl with
  | [y],_ =>
   rw[e3.2]
   exact .v _ _ (h6 i k x 0 y hx (by rw[hq];rfl))
 ·simp only[Pe]at e3
  obtain⟨a,ha,hs,hg⟩:=e3
  rw[ha]
  show ai S μ w (.agg ((enc x).map D.v)) _
  refine .agg _ _ (by rw[N1];exact hs) (fun j y u hy hu=>?_)
  rw[N4]at hy
  cases hq:(enc x)[j]? with
  | none=>rw[hq]at hy;cases hy
  | some v =>
   rw[hq]at hy
   cases hy
   have:=hg j (NL.1 hq).1
   rw[this]at hu
   cases hu
   exact .v _ _ (h6 i k x j v hx hq)
theorem BJ {t K E:TypeId} {b clock:Nat} {arr:Array MapEntry} {ag:Bool} {α:Type} {enc:α→List V} {d0:α} {l:List (ByteArray×α)} {k:ByteArray} {c:Bool} {z:D} (hu:P.underlying t=some (.map K E)) (hK:P.underlying K=some .string) (hz:vw P E=some z) (hb:w.heap[b]?=some (.map arr clock)) (T3:BF S μ w ag enc l arr) (D':vu z (jD ag (enc d0))) :
  ∃u,(Instr.lookup t (.map (some b)) (.string k) c).run P w=.ok u w∧ai S μ w (if c then .tup [jD ag (enc (kS d0 l k)),.v (.bool (rI l k))]else jD ag (enc (kS d0 l k))) u:=by
 obtain⟨m1,m2⟩:=vx T3
 have hzv:∃v,(zeroValue E).run P w=.ok v w∧ai S μ w z v:=by
  unfold vw at hz
  cases hi:P.info? E with
  | none=>simp[hi]at hz
  | some i =>
   cases hv:i.zero with
   | none=>simp[hi,hv]at hz
   | some v =>
    simp only[hi,hv,PB,Oz,NW]at hz
    refine⟨v,?_,hz ▸ ai.ofVal S μ w v⟩
    simp[zeroValue,typeInfo,hi,hv,NP,Sem.run]
 obtain⟨zv,Wk,hz2⟩:=hzv
 rcases EA (R:=fun x v=>(ag=false→(enc x).length=1)∧ai S μ w (jD ag (enc x)) v) d0 k l arr.toList 0 m1 m2 with ⟨h1,h0,h2,h3⟩ | ⟨h1,i,e,y,h2,h3,h4,h5,h6,h7,h8⟩
 ·have hr:=rJ (P:=P) hu hK hb h2 (z:=zv) (fun _=>Wk) c
  refine⟨_,hr,?_⟩
  rw[h0,h1]
  have hd:=D' S μ w zv hz2
  cases c
  ·exact hd
  ·refine .tup _ _ rfl (fun j y u hy hu=>?_)
   match j,hy,hu with
   | 0,hy,hu=>cases hy;cases hu;exact hd
   | 1,hy,hu=>cases hy;cases hu;exact .v _ _ (.bool _)
   | j+2,hy,hu=>simp at hy
 ·have hr:=rJ (P:=P) hu hK hb h6 (z:=undef) (fun h=>by cases h) c
  refine⟨_,hr,?_⟩
  rw[h7,h1]
  cases c
  ·exact h5.2
  ·refine .tup _ _ rfl (fun j y u hy hu=>?_)
   match j,hy,hu with
   | 0,hy,hu=>cases hy;cases hu;exact h5.2
   | 1,hy,hu=>cases hy;cases hu;exact .v _ _ (.bool _)
   | j+2,hy,hu=>simp at hy
theorem u6 {H:List ak} (hH:a9 S μ w H) {t:TypeId} {x ix:D} {ux ui:Value} {c:Bool} {d:D} {p:Prop} (hx:ai S μ w x ux) (hi:ai S μ w ix ui) (hp:w8 P H t x ix c=(d,p)) (D':p) :
  ∃u,(Instr.lookup t ux ui c).run P w=.ok u w∧ai S μ w d u:=by
 unfold w8 at hp
 split at hp
 ·rename_i K E id k hu
  split at hp
  ·rename_i z t' ag α enc d0 l hK hz G'
   split at hp
   ·cases hp
    have e1:=bq hx
    have e2:=eZ hi
    subst e1 e2
    obtain⟨b,arr,clock,hm,hb,T3⟩:=hH.box id _ G'
    rw[hm]
    exact BJ hu hK hz hb T3 D'
   ·cases hp;exact D'.elim
  ·cases hp;exact D'.elim
 ·rename_i K E ag α enc d0 l k hu
  split at hp
  ·rename_i z hK hz
   cases hp
   have e2:=eZ hi
   subst e2
   have hr:=bg hx
   cases hr with
   | smn =>
    obtain⟨zv,Wk,hz2⟩:=Dn (P:=P) (S:=S) (μ:=μ) (w:=w) hz
    have Vc:(underlying t).run P w=.ok (.map K E) w:=by simp[underlying,hu,NP,Sem.run]
    have Rz:(underlying K).run P w=.ok .string w:=by simp[underlying,hK,NP,Sem.run]
    have hc:(Instr.checkKey true 10000 K (.string k)).run P w=.ok () w:=by
     rw[show(10000:Nat)=9999+1 from rfl]
     unfold Instr.checkKey
     simp[NP,Rz]
    have hf:(Instr.findKey K (.string k) ([]:List MapEntry)).run P w=.ok none w:=by simp[Instr.findKey,NP,Rz,Instr.findNow]
    have hd:=D'.1 S μ w zv hz2
    cases c
    ·exact⟨zv,by simp[Instr.lookup,NP,Vc,hc,hf,Wk],hd⟩
    ·refine⟨.tuple #[zv,.bool false],by simp[Instr.lookup,NP,Vc,hc,hf,Wk],.tup _ _ rfl (fun j y u hy hu=>?_)⟩
     match j,hy,hu with
     | 0,hy,hu=>cases hy;cases hu;exact hd
     | 1,hy,hu=>cases hy;cases hu;exact .v _ _ (.bool _)
     | j+2,hy,hu=>simp at hy
   | sm _ _ _ _ b clock arr us h1 h2 h3 h4 h5 h6 =>
    exact BJ hu hK hz h3 (EB h4 h5 h6 D'.2) D'.1
  ·cases hp;exact D'.elim
 ·cases hp;exact D'.elim
theorem gM {H:List ak} (hH:a9 S μ w H) {ρ:Operand→D} {ρ':Operand→Value} (hρ:∀x,ai S μ w (ρ x) (ρ' x)) {o:Oper} {d:D} {p:Prop} (hp:fA P H ρ o.op=(d,p)) (D':p) :
  ∃u,(execOp ρ' o).run P w=.ok (.value u) w∧ai S μ w d u:=by
 have hv:∀(s:Sem Value) (u:Value),s.run P w=.ok u w→(do pure (.value (← s)):Sem Next).run P w=.ok (.value u) w:=by
  intro s u h
  simp only[NP,h,NO,N6]
 have hO:∀x:Option Operand,oZ S μ w (x.map ρ) (x.map ρ'):=by
  intro x
  cases x with
  | none=>trivial
  | some x=>exact hρ x
 unfold fA at hp
 unfold execOp
 generalize ho:o.op=op at *
 cases op<;>(try simp only at hp)<;>(try (simp only[aM,NS]at hp;obtain⟨_,rfl⟩:=hp;exact D'.elim))
 case move x=>cases hp;exact⟨_,rfl,hρ x⟩
 case assign x=>cases hp;exact⟨_,rfl,hρ x⟩
 case pick c a b =>
  unfold Iw at hp
  split at hp
  ·rename_i t hc
   have hb:=eY (hc ▸ hρ c)
   cases t<;>cases hp
   ·exact⟨ρ' b,by simp only[NP,hb,asBool,N6,NO];rfl,hρ b⟩
   ·exact⟨ρ' a,by simp only[NP,hb,asBool,N6,NO];rfl,hρ a⟩
  ·cases hp;exact D'.elim
 case load t a =>
  obtain⟨u,h1,h2⟩:=rH hH (hρ a) hp D'
  exact⟨u,hv _ _ h1,h2⟩
 case nilCheck x =>
  have hx:=hρ x
  dsimp only
  unfold KI at hp
  split at hp
  ·rename_i hq
   cases hp
   rw[hq]at hx
   obtain⟨b,hb,e⟩:=md hx
   rw[e]at hx ⊢
   exact⟨_,rfl,hx⟩
  ·rename_i hq
   cases hp
   rw[hq]at hx
   obtain⟨b,o',e,_⟩:=tb hx
   rw[e]at hx ⊢
   exact⟨_,rfl,hx⟩
  ·rename_i f a b hq
   cases hp
   rw[hq]at hx
   generalize ρ' x=u at *
   cases hx with
   | fn _ _ _ us vs h1 h2 h3 h4=>exact⟨_,rfl,.fn _ _ _ us vs h1 h2 h3 h4⟩
  ·rename_i id hq
   cases hp
   rw[hq]at hx
   generalize ρ' x=u at *
   cases hx with
   | yld _ l h1=>exact⟨_,rfl,.yld _ l h1⟩
  ·cases hp;exact D'.elim
 case binOp op t x y yt =>
  obtain⟨u,h1,h2⟩:=Ak x y (hρ x) (hρ y) hp D'
  exact⟨u,hv _ _ h1,h2⟩
 case unOp op t x =>
  obtain⟨u,h1,h2⟩:=Dm (P:=P) (hρ x) hp D'
  exact⟨u,hv _ _ h1,h2⟩
 case convert src dst x =>
  obtain⟨u,h1,h2⟩:=yn (hρ x) hp D'
  exact⟨u,hv _ _ h1,h2⟩
 case makeFunc fn first cap =>
  cases hp
  refine⟨_,hv _ _ rfl,.fn _ _ _ _ _ (by simp) (fun j y u hy hu=>?_) (by simp) (fun j y u hy hu=>?_)⟩
  ·simp only[N4,Oo,O1]at hy hu
   cases hj:first[j]? with
   | none=>rw[hj]at hy;cases hy
   | some x=>rw[hj]at hy hu;simp at hy hu;subst hy hu;exact hρ x
  ·simp only[N4,Oo,O1]at hy hu
   cases hj:cap[j]? with
   | none=>rw[hj]at hy;cases hy
   | some x=>rw[hj]at hy hu;simp at hy hu;subst hy hu;exact hρ x
 case slice t x lo hi mx =>
  obtain⟨u,h1,h2⟩:=wZ (hρ x) (hO lo) (hO hi) (hO mx) hp D'
  exact⟨u,hv _ _ h1,h2⟩
 case fieldAddr s x f =>
  obtain⟨u,h1,h2⟩:=qv (hρ x) hp D'
  exact⟨u,hv _ _ h1,h2⟩
 case field t x f =>
  obtain⟨u,h1,h2⟩:=wW (hρ x) hp D'
  exact⟨u,hv _ _ h1,h2⟩
 case indexAddr t x i =>
  obtain⟨u,h1,h2⟩:=qx hH (hρ x) (hρ i) hp D'
  exact⟨u,hv _ _ h1,h2⟩
 case index t x i =>
  obtain⟨u,h1,h2⟩:=wX (hρ x) (hρ i) hp D'
  exact⟨u,hv _ _ h1,h2⟩
 case lookup t x ix c =>
  obtain⟨u,h1,h2⟩:=u6 hH (hρ x) (hρ ix) hp D'
  exact⟨u,hv _ _ h1,h2⟩
 case extract x i =>
  have hx:=hρ x
  unfold yo at hp
  split at hp
  ·rename_i cs hq
   split at hp
   ·rename_i hi
    cases hp
    rw[hq]at hx
    obtain⟨us,e,h1,h2⟩:=sy hx
    rw[PA]at hi
    have hu:us[i]?=some us[i]:=N7 (by omega)
    refine⟨us[i],hv _ _ (by rw[e];simp only[Instr.extract,hu];rfl),?_⟩
    rw[cO _ _ hi]
    exact h2 i _ _ (NM hi) hu
   ·cases hp;exact D'.elim
  ·cases hp;exact D'.elim
 case build t P8 =>
  obtain⟨u,h1,h2⟩:=w9 (P:=P) hH (Qj:=P8.toList.map fun p=>(p.1,ρ' p.2)) (by simp) (fun j x u hx hu=>by
   simp only[N4,Oo]at hx hu
   cases hj:P8[j]? with
   | none=>rw[hj]at hx;cases hx
   | some q=>rw[hj]at hx hu;simp at hx hu;subst hx hu;exact hρ q.2) hp D'
  refine⟨u,hv _ _ ?_,h2⟩
  rw[← h1]
  congr 2
  exact(PJ (by simp))
 case call c =>
  obtain⟨callee,args,Tz⟩:=c
  simp only at hp
  split at hp
  ·rename_i hcal
   split at hp
   ·rename_i x t ha ht
    obtain⟨u,h1,h2⟩:=Al (P:=P) (ty:=o.type) hH (hρ x) hp D'
    refine⟨u,?_,h2⟩
    have ea:args=#[x]:=PJ (by simpa using ha)
    have et:Tz=#[t]:=PJ (by simpa using ht)
    subst ea et
    simp only[resolve,invoke,builtin,Pp,OQ,OG,NP,N6,NO,h1]
   ·cases hp;exact D'.elim
  ·split at hp
   ·rename_i x y ha
    have ea:args=#[x,y]:=PJ (by simpa using ha)
    subst ea
    unfold L3 at hp
    split at hp
    ·rename_i k a k' b Se Sl
     cases hp
     have e1:=bM (Se ▸ hρ x)
     have e2:=bM (Sl ▸ hρ y)
     refine⟨.int k (yk a b),?_,.v _ _ (.int _ _)⟩
     simp only[resolve,invoke,builtin,Pp,OQ,OG,NP,N6,NO,e1,e2,Builtin.min_,List.foldlM_cons,List.foldlM_nil,Builtin.min2]
     rfl
    ·cases hp;exact D'.elim
   ·cases hp;exact D'.elim
  ·split at hp
   ·rename_i x y ha
    have ea:args=#[x,y]:=PJ (by simpa using ha)
    subst ea
    unfold L3 at hp
    split at hp
    ·rename_i k a k' b Se Sl
     cases hp
     have e1:=bM (Se ▸ hρ x)
     have e2:=bM (Sl ▸ hρ y)
     refine⟨.int k (GZ a b),?_,.v _ _ (.int _ _)⟩
     simp only[resolve,invoke,builtin,Pp,OQ,OG,NP,N6,NO,e1,e2,Builtin.max_,List.foldlM_cons,List.foldlM_nil,Builtin.max2]
     rfl
    ·cases hp;exact D'.elim
   ·cases hp;exact D'.elim
  ·cases hp;exact D'.elim
end
def nC:List (Nat×D)→Nat→D
 | [],_=>.junk
 | (s,d)::r,t=>if Nat.beq s t then d else nC r t
def rK:List (Nat×D)→Nat→List (Nat×D)
 | [],_=>[]
 | (s,d)::r,t=>if Nat.beq s t then rK r t else (s,d)::rK r t
def sd (env:List (Nat×D)) (t:Nat) (d:D):List (Nat×D):=(t,d)::rK env t
def EC (g:Nat):D:=match gK.find? (fun p=>Nat.beq p.1 g)with
 | some p=>.iptr p.2 0
 | none=>.junk
def dW (env:List (Nat×D)):Operand→D
 | .tmp t=>nC env t
 | .const v=>D.ofVal v
 | .func f=>.fn (.func f) [] []
 | .global g=>EC g
theorem qz:∀{env:List (Nat×D)} {t:Nat},nC env t=.junk∨(t,nC env t)∈env
 | [],t=>.inl rfl
 | (s,d)::r,t=>by
  unfold nC
  cases h:Nat.beq s t
  ·simp only[OC,Pf]
   rcases qz (env:=r) (t:=t)with h | h
   ·exact .inl h
   ·exact .inr (Oe _ h)
  ·simp only[Pe]
   rw[N2]at h
   subst h
   exact .inr (Oi ..)
theorem fB:∀{env:List (Nat×D)} {t s:Nat} {d:D},(s,d)∈rK env t→(s,d)∈env∧s≠t
 | [],t,s,d,h=>by cases h
 | (s',d')::r,t,s,d,h=>by
  unfold rK at h
  cases hb:Nat.beq s' t
  ·simp only[hb,OC,Pf]at h
   rcases OB.1 h with h | h
   ·cases h
    refine⟨Oi ..,fun e=>?_⟩
    subst e
    rw[PE]at hb
    cases hb
   ·exact⟨Oe _ (fB h).1,(fB h).2⟩
  ·simp only[hb,Pe]at h
   exact⟨Oe _ (fB h).1,(fB h).2⟩
def aO (μ:Nat→Value) (id:Nat) (u:Value):Nat→Value:=fun i=>if i=id then u else μ i
theorem ar (μ:Nat→Value) (id:Nat) (u:Value):aO μ id u id=u:=NT rfl
theorem aA (μ:Nat→Value) {id i:Nat} (u:Value) (h:i≠id):aO μ id u i=μ i:=NQ h
theorem xa {a b:Nat} (h:a≠b):(!(Nat.beq a b))=true:=by
 cases hb:Nat.beq a b
 ·rfl
 ·exact absurd (by rwa [N2]at hb) h
def aY (id:Nat):List ak→Bool
 | []=>true
 | B::r=>ak.free id B&&aY id r
theorem bS {id:Nat}:∀{H:List ak} {i:Nat} {B:ak},aY id H=true→H[i]?=some B→ak.free id B=true
 | B'::r,0,B,h,hm=>by
  simp only[aY,NK]at h
  simp at hm
  subst hm
  exact h.1
 | B'::r,i+1,B,h,hm=>by
  simp only[aY,NK]at h
  exact bS h.2 (by simpa using hm)
def killD (id:Nat) (d:D):D:=if D.free id d then d else .junk
def kE (id:Nat):List (Nat×D)→List (Nat×D)
 | []=>[]
 | (t,d)::r=>(t,killD id d)::kE id r
def nG (id:Nat):List D→List D
 | []=>[]
 | d::r=>killD id d::nG id r
def ak.kill (id:Nat):ak→ak
 | .dead=>.dead
 | .var T cs=>.var T (nG id cs)
 | .arr E sz enc d l=>.arr E sz enc d l
 | .loop l tm nt env ps assign body state pending=>.loop l tm nt (kE id env) ps assign body state pending
 | .frame tm env=>.frame tm (kE id env)
 | .ro E sz enc d l=>.ro E sz enc d l
 | .mpb t ag enc d l=>.mpb t ag enc d l
 | .arrD E sz n gs cell=>if gs.all (fun g=>!(Nat.beq g id))then .arrD E sz n gs cell else .arrD E sz n (gs.filter (fun g=>!(Nat.beq g id))) (fun i j=>killD id (cell i j))
 | .grp n f=>.grp n f
 | .nest E sz n ce m f=>.nest E sz n ce m f
def bN (id:Nat):List ak→List ak
 | []=>[]
 | B::r=>B.kill id::bN id r
theorem jF (id:Nat) (d:D):D.free id (killD id d)=true:=by
 unfold killD
 cases h:D.free id d
 ·rfl
 ·simpa using h
theorem jG (id:Nat):∀env,bv id (kE id env)=true
 | []=>rfl
 | (t,d)::r=>by simp[kE,bv,jF,jG id r]
theorem tg (id:Nat):∀cs,D.freeL id (nG id cs)=true
 | []=>rfl
 | d::r=>by simp[nG,D.freeL,jF,tg id r]
theorem jH (id:Nat):∀H,aY id (bN id H)=true
 | []=>rfl
 | B::r=>by
  simp only[bN,aY,jH id r,PD]
  cases B<;>first | (simp[ak.kill,ak.free,tg,jG];done) | skip
  rename_i E sz n gs cell
  simp only[ak.kill]
  split
  ·rename_i h;exact h
  ·simp[ak.free]
theorem fC {id:Nat}:∀{env:List (Nat×D)} {t:Nat} {d:D},(t,d)∈kE id env→∃e,(t,e)∈env∧d=killD id e
 | (s,e)::r,t,d,h=>by
  rcases OB.1 h with h | h
  ·cases h;exact⟨e,Oi ..,rfl⟩
  ·obtain⟨e',h1,h2⟩:=fC h
   exact⟨e',Oe _ h1,h2⟩
theorem vy (id:Nat):∀(cs:List D) (j:Nat),(nG id cs)[j]?=(cs[j]?).map (killD id)
 | [],j=>by simp[nG]
 | d::r,0=>by simp[nG]
 | d::r,j+1=>by simp[nG,vy id r j]
theorem o6 (id:Nat):∀cs,(nG id cs).length=cs.length
 | []=>rfl
 | d::r=>by simp[nG,o6 id r]
theorem dX (id:Nat):∀(H:List ak) (j:Nat),(bN id H)[j]?=(H[j]?).map (ak.kill id)
 | [],j=>by simp[bN]
 | d::r,0=>by simp[bN]
 | d::r,j+1=>by simp[bN,dX id r j]
theorem bH (id:Nat):∀H,(bN id H).length=H.length
 | []=>rfl
 | d::r=>by simp[bN,bH id r]
theorem dY (id:Nat) (B:ak):(B.kill id).live=B.live:=by cases B<;>first | rfl | (simp only[ak.kill];split<;>rfl)
theorem mf (id:Nat) (B:ak):(B.kill id).isRo=B.isRo:=by cases B<;>first | rfl | (simp only[ak.kill];split<;>rfl)
def St.kill (id:Nat) (st:St):St:=⟨kE id st.env,bN id st.heap⟩
def bh (H:List ak) (id:Nat) (B:ak):List ak:=if Nat.beq id H.length then H++[B]else H.set id B
theorem fD {H:List ak} {id:Nat} {B:ak} (Qh:id≤H.length) (i:Nat):(bh H id B)[i]?=if i=id then some B else H[i]?:=by
 unfold bh
 cases h:Nat.beq id H.length
 ·have QI:id≠H.length:=fun e=>by rw[e,PE]at h;cases h
  simp only[OC,Pf]
  by_cases hi:i=id
  ·subst hi
   rw[NT rfl,N0 (by omega)]
  ·rw[NQ hi,NZ (fun e=>hi e.symm)]
 ·simp only[Pe]
  rw[N2]at h
  subst h
  by_cases hi:i=H.length
  ·subst hi
   simp
  ·rw[NQ hi]
   by_cases hl:i<H.length
   ·rw[NU hl]
   ·rw[OL (by simp;omega),OL (by omega)]
section
variable {C:jB} {S:Nat→Prop} {μ:Nat→Value} {st:St} {a:Act} {w w':World}
theorem aU.eval (h:aU C S μ st a w) (x:Operand):ai S μ w (dW st.env x) (a.eval x):=by
 cases x with
 | tmp t =>
  rcases qz (env:=st.env) (t:=t)with h1 | h1
  ·simp only[dW]
   rw[h1]
   exact .junk _
  ·exact(h.env _ _ h1).2
 | const v=>exact ai.ofVal S μ w v
 | func f=>exact .fn _ _ _ #[] #[] rfl (fun j y u hy _=>by simp at hy) rfl (fun j y u hy _=>by simp at hy)
 | global g =>
  show ai S μ w (EC g) _
  unfold EC
  split
  ·rename_i p hf
   have hm:=List.mem_of_find?_eq_some hf
   have hg:p.1=g:=by have:=List.find?_some hf;rwa [N2]at this
   obtain⟨p1,cs⟩:=p
   simp only at hg hm ⊢
   subst hg
   obtain⟨h1,h2,h3⟩:=h.glob p1 cs hm
   refine ai.iptr cs 0 p1 0 (fun j=>(w.cell? ⟨p1,j,none⟩).getD undef) h1 h2 (fun j y hy=>?_) (fun j y hy=>?_)
   ·obtain⟨u,hu,_⟩:=h3 j y hy
    rw[OA,hu];rfl
   ·obtain⟨u,hu,hr⟩:=h3 j y hy
    rw[hu];exact hr
  ·exact .junk _
theorem aU.put (h:aU C S μ st a w) {t:Nat} {d:D} {u:Value} (ht:t<C.nt) (hd:ai S μ w d u):aU C S μ ⟨sd st.env t d,st.heap⟩ (a.put (some t) u) w:=by
 refine⟨h.os,h.tape,h.output,h.size,h.old,h.mono,h.new,h.slt,?_,h.heap,h.may,h.defers,by simp[Act.put,h.tsize],h.ro⟩
 intro s e hm
 rcases OB.1 hm with hm | hm
 ·cases hm
  refine⟨ht,?_⟩
  have:(a.put (some t) u).tmps.getD t undef=u:=by
   have hts:t<a.tmps.size:=by rw[h.tsize];exact ht
   simp[Act.put,hts]
  rw[this]
  exact hd
 ·obtain⟨h1,h2⟩:=fB hm
  obtain⟨q1,q2⟩:=h.env s e h1
  refine⟨q1,?_⟩
  have:(a.put (some t) u).tmps.getD s undef=a.tmps.getD s undef:=by
   simp only[Act.put,OH]
   rw[OP (fun e=>h2 e.symm)]
  rw[this]
  exact q2
theorem aU.weak (h:aU C S μ st a w) {env:List (Nat×D)} (he:∀t d,(t,d)∈env→d=.junk∧(∃e,(t,e)∈st.env)∨(t,d)∈st.env):aU C S μ ⟨env,st.heap⟩ a w :=
 ⟨h.os,h.tape,h.output,h.size,h.old,h.mono,h.new,h.slt,fun t d hm=>by
  rcases he t d hm with ⟨rfl,e,h1⟩ | h1
  ·exact⟨(h.env t e h1).1,.junk _⟩
  ·exact h.env t d h1,h.heap,h.may,h.defers,h.tsize,h.ro⟩
theorem ai.killD {d:D} {u:Value} {id:Nat} (h:ai S μ w d u):ai S μ w (killD id d) u:=by
 unfold Proofs.Ytcejcppjedhicaa.killD
 split
 ·exact h
 ·exact .junk _
theorem aG.kill {u:Value} {B:ak} {id:Nat} (h:aG S μ w u B):aG S μ w u (B.kill id):=by
 cases B with
 | dead=>trivial
 | arr E sz enc d l=>exact h
 | ro E sz enc d l=>exact h
 | mpb t ag enc d l=>exact h
 | grp n f=>exact h
 | nest E sz n ce m f=>exact h
 | arrD E sz n gs cell =>
  simp only[ak.kill]
  split
  ·exact h
  ·obtain⟨h0,xs,h1,h3⟩:=h
   refine⟨fun i j k hi hj hk=>?_,xs,h1,fun i j hi hj=>?_⟩
   ·show D.free k (if D.free id (cell i j)=true then cell i j else .junk)=true
    split
    ·rename_i hf
     by_cases e:k=id
     ·subst e;exact hf
     ·refine h0 i j k hi hj (Oa.2 fun g hg=>?_)
      by_cases e':g=id
      ·subst e'
       exact xa (fun h=>e h.symm)
      ·exact Oa.1 hk g (PV.2 ⟨hg,xa e'⟩)
    ·rfl
   ·obtain⟨z,hz,ho,hr⟩:=h3 i j hi hj
    exact⟨z,hz,ho,hr.killD⟩
 | var T cs =>
  obtain⟨b,vs,rfl,h1,h2,h3⟩:=h
  refine⟨b,vs,rfl,h1,by rw[o6];exact h2,fun j y x hy hx=>?_⟩
  rw[vy]at hy
  cases hc:cs[j]? with
  | none=>rw[hc]at hy;cases hy
  | some e =>
   rw[hc]at hy
   simp only[Oz,NW]at hy
   subst hy
   unfold killD
   split
   ·exact h3 j e x hc hx
   ·exact .junk _
 | loop l tm nt env ps assign body state pending =>
  obtain⟨r,rfl,h1,h2,h3,h4,h5,h6,h7,h7',h8⟩:=h
  refine⟨r,rfl,h1,h2,h3,h4,h5,h6,h7,h7',fun t d hm=>?_⟩
  obtain⟨e,q1,rfl⟩:=fC hm
  obtain⟨q2,q3⟩:=h8 t e q1
  refine⟨q2,?_⟩
  exact q3.killD
 | frame tm env =>
  obtain⟨rfl,h8⟩:=h
  refine⟨rfl,fun t d hm=>?_⟩
  obtain⟨e,q1,rfl⟩:=fC hm
  obtain⟨q2,q3⟩:=h8 t e q1
  refine⟨q2,?_⟩
  exact q3.killD
theorem aU.kill (h:aU C S μ st a w) (id:Nat):aU C S μ (st.kill id) a w:=by
 have hg:∀(i:Nat) (A:ak),(bN id st.heap)[i]?=some A→∃B,st.heap[i]?=some B∧A=B.kill id:=by
  intro i A hA
  rw[dX]at hA
  cases hc:st.heap[i]? with
  | none=>rw[hc]at hA;cases hA
  | some B=>rw[hc]at hA;simp at hA;exact⟨B,rfl,hA.symm⟩
 refine⟨h.os,h.tape,h.output,h.size,h.old,h.mono,h.new,h.slt,?_,⟨?_,?_,?_⟩,?_,?_,h.tsize,?_⟩
 ·intro t d hm
  obtain⟨e,h1,rfl⟩:=fC hm
  obtain⟨q1,q2⟩:=h.env t e h1
  refine⟨q1,?_⟩
  unfold killD
  split
  ·exact q2
  ·exact .junk _
 ·intro i A hA
  obtain⟨B,hB,rfl⟩:=hg i A hA
  exact(h.heap.box i B hB).kill
 ·intro i j A B b hA hB la lb
  obtain⟨A',QQ,rfl⟩:=hg i A hA
  obtain⟨B',QL,rfl⟩:=hg j B hB
  rw[dY]at la lb
  exact h.heap.apart i j A' B' b QQ QL la lb
 ·intro i A b hA la
  obtain⟨A',QQ,rfl⟩:=hg i A hA
  rw[dY]at la
  exact h.heap.notS i A' b QQ la
 ·intro i A b hA la
  obtain⟨A',QQ,rfl⟩:=hg i A hA
  rw[dY]at la
  exact h.may i A' b QQ la
 ·obtain⟨mk,d1,d2,d3⟩:=h.defers
  refine⟨mk,d1,d2,fun b hb=>?_⟩
  obtain⟨q1,q2,q3,q4⟩:=d3 b hb
  refine⟨q1,q2,q3,fun i A hA hl=>?_⟩
  obtain⟨A',QQ,rfl⟩:=hg i A hA
  rw[dY]at hl
  exact q4 i A' QQ hl
 ·intro i A b hA la
  obtain⟨A',QQ,rfl⟩:=hg i A hA
  rw[mf]at la
  exact h.ro i A' b QQ la
theorem aU.upd0 {id:Nat} {B:ak} {row:Option Nat} {u:Value} (h:aU C S μ st a w) (hg:w.grownBy w' row) (QA:∀k,row=some k→∃A,st.heap[id]?=some A∧A.live=true∧bu (μ id) k)
  (Qh:id≤st.heap.length) (G':aG S (aO μ id u) w' u B) (Qd:∀b,bu u b→row=some b∨w.heap.size≤b)
  (RK:μ id=u∨(bv id st.env=true∧aY id st.heap=true)) (Rc:B.isRo=false:=by rfl):aU C S (aO μ id u) ⟨st.env,bh st.heap id B⟩ a w':=by
 have Wl:∀k,row=some k→¬S k:=fun k hk=>by
  obtain⟨A,h1,h2,h3⟩:=QA k hk
  exact h.heap.notS id A k h1 h2 h3
 have hS:∀b,S b→w'.heap[b]?=w.heap[b]?:=fun b hb=>hg.block b (h.slt b hb) (fun e=>Wl b e.symm hb)
 have hμd:∀d:D,(μ id=u∨D.free id d=true)→∀i,d.free i=false→aO μ id u i=μ i:=by
  intro d hd i hi
  by_cases e:i=id
  ·subst e
   rcases hd with hd | hd
   ·rw[ar];exact hd.symm
   ·rw[hd]at hi;cases hi
  ·exact aA _ _ e
 have VU:∀(i:Nat) (A:ak),i≠id→st.heap[i]?=some A→A.live=true→∀b,bu (μ i) b→w'.heap[b]?=w.heap[b]?:=by
  intro i A hi hA hl b hb
  refine hg.block b ((h.heap.box i A hA).lt hl b hb) (fun e=>?_)
  obtain⟨A',h1,h2,h3⟩:=QA b e.symm
  exact hi (h.heap.apart i id A A' b hA h1 hl h2 hb h3)
 refine⟨hg.os.trans h.os,hg.tape.trans h.tape,hg.output.trans h.output,Pb h.size hg.size,?_,h.mono,h.new,fun b hb=>OV (h.slt b hb) hg.size,?_,⟨?_,?_,?_⟩,?_,?_,h.tsize,?_⟩
 ·intro k hk
  rw[hg.block k (OV hk h.size) (fun e=>?_)]
  ·exact h.old k hk
  ·obtain⟨A',h1,h2,h3⟩:=QA k e.symm
   have h4:=h.may id A' k h1 h2 h3
   omega
 ·intro t d hm
  obtain⟨q1,q2⟩:=h.env t d hm
  exact⟨q1,q2.stable (fun _ h _=>h) (fun b hb _=>hS b hb) hg.size (hμd d (RK.imp (fun h=>h) fun hf=>bR hf.1 hm))⟩
 ·intro i A hA
  rw[fD Qh]at hA
  by_cases hi:i=id
  ·rw[NT hi]at hA
   cases hA
   subst hi
   rw[ar]
   exact G'
  ·rw[NQ hi]at hA
   rw[aA _ _ hi]
   have key:(∀b,bu (μ i) b→w'.heap[b]?=w.heap[b]?)→aG S (aO μ id u) w' (μ i) A:=fun hbo=>by
    refine(h.heap.box i A hA).stable (fun _ h _=>h) (fun b hb _=>hS b hb) hg.size (fun j hj=>?_) hbo
    by_cases e:j=id
    ·subst e
     rcases RK with hf | hf
     ·rw[ar];exact hf.symm
     ·rw[bS hf.2 hA]at hj;cases hj
    ·exact aA _ _ e
   rcases A.three with rfl | hl | hl
   ·trivial
   ·exact key (VU i A hi hA hl)
   ·refine key (fun b hb=>hg.block b ((h.heap.box i A hA).ltR hl b hb) (fun e=>?_))
    obtain⟨A',h1,h2,h3⟩:=QA b e.symm
    have h4:=h.may id A' b h1 h2 h3
    have h5:=h.ro i A b hA hl hb
    omega
 ·intro i j A A' b hA QQ la UO hb QJ
  rw[fD Qh]at hA QQ
  have key:∀(i j:Nat) (A:ak),i≠id→st.heap[i]?=some A→A.live=true→bu (μ i) b→bu u b→False:=by
   intro i j A hi hA la hb hu
   have Ql:=(h.heap.box i A hA).lt la b hb
   rcases Qd b hu with hr | hr
   ·obtain⟨A',h1,h2,h3⟩:=QA b hr
    exact hi (h.heap.apart i id A A' b hA h1 la h2 hb h3)
   ·omega
  by_cases hi:i=id
  ·by_cases hj:j=id
   ·rw[hi,hj]
   ·rw[NQ hj]at QQ
    rw[aA _ _ hj]at QJ
    rw[hi,ar]at hb
    exact(key j i A' hj QQ UO QJ hb).elim
  ·rw[NQ hi]at hA
   rw[aA _ _ hi]at hb
   by_cases hj:j=id
   ·rw[hj,ar]at QJ
    exact(key i j A hi hA la hb QJ).elim
   ·rw[NQ hj]at QQ
    rw[aA _ _ hj]at QJ
    exact h.heap.apart i j A A' b hA QQ la UO hb QJ
 ·intro i A b hA la hb hSb
  rw[fD Qh]at hA
  by_cases hi:i=id
  ·rw[hi,ar]at hb
   rcases Qd b hb with hr | hr
   ·exact Wl b hr hSb
   ·have:=h.slt b hSb;omega
  ·rw[NQ hi]at hA
   rw[aA _ _ hi]at hb
   exact h.heap.notS i A b hA la hb hSb
 ·intro i A b hA la hb
  rw[fD Qh]at hA
  by_cases hi:i=id
  ·rw[hi,ar]at hb
   rcases Qd b hb with hr | hr
   ·obtain⟨A',h1,h2,h3⟩:=QA b hr
    exact h.may id A' b h1 h2 h3
   ·exact Pb h.size hr
  ·rw[NQ hi]at hA
   rw[aA _ _ hi]at hb
   exact h.may i A b hA la hb
 ·obtain⟨mk,d1,d2,d3⟩:=h.defers
  refine⟨mk,d1,d2,fun b hb=>?_⟩
  obtain⟨q1,q2,q3,q4⟩:=d3 b hb
  have Ql:b<w.heap.size:=(NV.1 q1).1
  have hnr:some b≠row:=fun e=>by
   obtain⟨A',r1,r2,r3⟩:=QA b e.symm
   exact q4 id A' r1 r2 r3
  refine⟨by rw[hg.block b Ql hnr];exact q1,q2,q3,fun i A hA hl TJ=>?_⟩
  rw[fD Qh]at hA
  by_cases hi:i=id
  ·rw[hi,ar]at TJ
   rcases Qd b TJ with hr | hr
   ·exact hnr hr.symm
   ·omega
  ·rw[NQ hi]at hA
   rw[aA _ _ hi]at TJ
   exact q4 i A hA hl TJ
 ·intro i A b hA la hb
  rw[fD Qh]at hA
  by_cases hi:i=id
  ·rw[NT hi]at hA
   cases hA
   rw[Rc]at la
   cases la
  ·rw[NQ hi]at hA
   rw[aA _ _ hi]at hb
   exact h.ro i A b hA la hb
theorem aU.upd {id:Nat} {B:ak} {row:Option Nat} {u:Value} (h:aU C S μ st a w) (hg:w.grownBy w' row) (QA:∀k,row=some k→∃A,st.heap[id]?=some A∧A.live=true∧bu (μ id) k)
  (Qh:id≤st.heap.length) (G':aG S (aO μ id u) w' u B) (Qd:∀b,bu u b→row=some b∨w.heap.size≤b)
  (RK:(μ id=u∧(B.isArr=false∨∃A,st.heap[id]?=some A∧A.isArr=true))∨((∀A,st.heap[id]?=some A→A.isArr=true)∧bv id st.env=true∧aY id st.heap=true)) (Rc:B.isRo=false:=by rfl):aU C S (aO μ id u) ⟨st.env,bh st.heap id B⟩ a w':=h.upd0 hg QA Qh G' Qd (RK.imp (fun hf=>hf.1) fun hf=>hf.2) Rc
end
def El:V→V→Prop
 | .int k a,.int k' b=>if k==k' then a=b else False
 | .bool a,.bool b=>a=b
 | .str a,.str b=>a=b
 | .nilf,.nilf=>True
 | .nsl,.nsl=>True
 | .nsl,.sl _ _ _ l=>l=[]
 | .esl,.esl=>True
 | .esl,.sl _ _ _ l=>l=[]
 | .sl sz enc _ l,.sl QK Qb _ l'=>if Nat.beq sz QK then l.map enc=l'.map Qb else False
 | .sm ag enc _ l,.sm ag' Qb _ l'=>if ag==ag' then l.map (fun p=>(p.1,enc p.2))=l'.map (fun p=>(p.1,Qb p.2))else False
 | .nmp,.nmp=>True
 | .fnv f,.fnv g=>if Nat.beq f g then True else False
 | .nmp,.sm _ _ _ l=>l=[]
 | _,_=>False
def Iy:V→Prop
 | .nsl=>True
 | _=>False
def G1:D→D→Prop
 | .v x,.v y=>El x y
 | .nils,.v (.sl _ _ _ l)=>l=[]
 | .nils,.v .nsl=>True
 | .v x,.nils=>Iy x
 | .iptr cs I',.iptr UV off'=>if Nat.beq I' off' then cs=UV else False
 | _,.junk=>True
 | x,y=>x=y
def KJ:List D→List D→Prop
 | [],[]=>True
 | x::xs,y::ys=>G1 x y∧KJ xs ys
 | _,_=>False
def qp:D→D→Prop
 | .agg xs,.agg ys=>KJ xs ys
 | .tup xs,.tup ys=>KJ xs ys
 | x,y=>G1 x y
def GV (H:List ak):D→D→Prop
 | .own id,.v y=>match H[id]? with
  | some (.arr _ sz enc d l)=>El (.sl sz enc d l) y
  | _=>False
 | x,y=>G1 x y
def KK (H:List ak):List D→List D→Prop
 | [],[]=>True
 | x::xs,y::ys=>GV H x y∧KK H xs ys
 | _,_=>False
def Iz (H:List ak):D→D→Prop
 | .agg xs,.agg ys=>KK H xs ys
 | x,y=>GV H x y
def KL (H:List ak):List D→List D→Prop
 | [],[]=>True
 | x::xs,y::ys=>Iz H x y∧KL H xs ys
 | _,_=>False
def yq (H:List ak):List D→Option (List V)
 | []=>some []
 | .v x::r=>match yq H r with | some xs=>some (x::xs) | none=>none
 | .nils::r=>match yq H r with | some xs=>some (.nsl::xs) | none=>none
 | .own id::r=>match H[id]? with
  | some (.arr _ sz enc d l)=>(match yq H r with | some xs=>some (.sl sz enc d l::xs) | none=>none)
  | some (.ro _ sz enc d l)=>(match yq H r with | some xs=>some (.sl sz enc d l::xs) | none=>none)
  | _=>none
 | _=>none
def Kx (H:List ak):D→D→Prop
 | .ptr id i _ I',.iptr cs o=>match H[id]? with
  | some (.var _ bcs)=>(match Nat.beq i 0&&Nat.beq I' o,yq H bcs with | true,some vs=>vs=cs | _,_=>False)
  | _=>False
 | .own id,.v y=>match H[id]? with
  | some (.arrD _ sz n _ cell)=>sz=1∧∃(g m:Nat) (f:Nat→qo) (E2 Us:Nat) (β:Type) (RS:β→List V) (d2:β) (l:List (List β)),H[g]?=some (.grp m f)∧n=l.length∧n≤m∧(∀i,i<n→cell i 0=.gr g i∧f i=⟨E2,Us,β,RS,d2,l.getD i []⟩)∧El (.sl 1 (fun r=>[V.sl Us RS d2 r]) [] l) y
  | some (.ro _ sz enc d l)=>El (.sl sz enc d l) y
  | _=>GV H (.own id) (.v y)
 | x,y=>GV H x y
def KM (H:List ak):List D→List D→Prop
 | [],[]=>True
 | x::xs,y::ys=>Kx H x y∧KM H xs ys
 | _,_=>False
def L4 (H:List ak):D→D→Prop
 | .agg xs,.agg ys=>KK H xs ys
 | .fn f a b,.fn f' a' b'=>f=f'∧KM H a a'∧KM H b b'
 | x,y=>Kx H x y
def yr (H:List ak):List D→List D→Prop
 | [],[]=>True
 | x::xs,y::ys=>L4 H x y∧yr H xs ys
 | _,_=>False
def D.isOwn:D→Bool
 | .own _=>true
 | .ptr _ _ _ _=>true
 | _=>false
def fa:List D→Bool
 | []=>true
 | .own _::_=>false
 | .ptr _ _ _ _::_=>false
 | .agg cs::r=>cs.all (fun c=>!c.isOwn)&&fa r
 | .fn _ a b::r=>a.all (fun c=>!c.isOwn)&&(b.all (fun c=>!c.isOwn)&&fa r)
 | _::r=>fa r
def ak.mem:ak→Bool
 | .arr _ _ _ _ _=>true
 | .var _ _=>true
 | .arrD _ _ _ _ _=>true
 | .grp _ _=>true
 | .ro _ _ _ _ _=>true
 | _=>false
theorem aG.ltM {S:Nat→Prop} {μ:Nat→Value} {w:World} {u:Value} {B:ak} (h:aG S μ w u B) (hm:B.mem=true):∀b,bu u b→b<w.heap.size:=by
 cases B<;>first | (cases hm;done) | exact h.lt rfl | exact h.ltR rfl
theorem ak.arr_mem {B:ak} (h:B.isArr=true):B.mem=true:=by cases B<;>first | rfl | cases h
mutual
def ed:D→Bool
 | .own _=>false
 | .ptr _ _ _ _=>false
 | .agg cs=>ol cs
 | .tup cs=>ol cs
 | .fn _ a b=>ol a&&ol b
 | .yld _=>false
 | .gr _ _=>false
 | .pre _ _ _ _ _ _=>false
 | _=>true
def ol:List D→Bool
 | []=>true
 | c::cs=>ed c&&ol cs
end
mutual
theorem fF (id:Nat):∀d:D,ed d=true→D.free id d=true
 | .own _,h=>by simp[ed]at h
 | .ptr _ _ _ _,h=>by simp[ed]at h
 | .agg cs,h=>by simp only[ed]at h;simp only[D.free];exact ge id cs h
 | .tup cs,h=>by simp only[ed]at h;simp only[D.free];exact ge id cs h
 | .fn _ a b,h=>by
  simp only[ed,NK]at h
  simp only[D.free,NK]
  exact⟨ge id a h.1,ge id b h.2⟩
 | .yld _,h=>by simp[ed]at h
 | .gr _ _,h=>by simp[ed]at h
 | .v _,_=>rfl
 | .nils,_=>rfl
 | .iptr _ _,_=>rfl
 | .capd _,_=>rfl
 | .junk,_=>rfl
theorem ge (id:Nat):∀cs:List D,ol cs=true→D.freeL id cs=true
 | [],_=>rfl
 | c::cs,h=>by
  simp only[ol,NK]at h
  simp only[D.freeL,NK]
  exact⟨fF id c h.1,ge id cs h.2⟩
end
def ap (P:Program) (f:FuncId) (q':List D) (H:List ak) (al:Bool) (r:D) (H':List ak):Prop :=
 ∀(S:Nat→Prop) (μ:Nat→Value) (w:World) (us:Array Value),(∀b,S b→b<w.heap.size)→fy S w→a9 S μ w H→aK S μ w q' us →
  Calls P f us w (fun e w'=>∃(u:Value) (μ':Nat→Value) (S':Nat→Prop),e=.returned u∧w'.os=w.os∧w'.tape=w.tape∧w'.output=w.output∧w.heap.size≤w'.heap.size ∧
   (∀k,k<w.heap.size→(∀(i:Nat) (A:ak),H[i]?=some A→A.live=true→¬bu (μ i) k)→w'.heap[k]?=w.heap[k]?) ∧
   (∀b,S b→S' b)∧(∀b,S' b→S b∨w.heap.size≤b)∧(∀b,S' b→b<w'.heap.size) ∧
   ai (fun b=>S' b∧(al=true∨w.heap.size≤b)) μ' w' r u∧a9 S' μ' w' H' ∧
   (∀(i:Nat) (A:ak) (b:Nat),H'[i]?=some A→A.live=true→bu (μ' i) b→w.heap.size≤b∨∃(j:Nat) (A':ak),H[j]?=some A'∧A'.live=true∧bu (μ j) b) ∧
   (∀(i:Nat) (A:ak),H[i]?=some A→A.isArr=false→A.live=true→μ' i=μ i))
section
variable {P:Program} {S:Nat→Prop} {μ:Nat→Value} {w:World}
theorem sB {α β:Type _} {f:α→β} {l:List α} {i:Nat} {x:α} (h:l[i]?=some x):(l.map f)[i]?=some (f x):=by rw[N4,h];rfl
theorem dg {α β:Type _} {f:α→β} {l:List α} {i:Nat} {y:β} (h:(l.map f)[i]?=some y):∃x,l[i]?=some x∧f x=y:=by
 rw[N4]at h
 cases hx:l[i]? with
 | none=>rw[hx]at h;cases h
 | some x=>rw[hx]at h;simp at h;exact⟨x,rfl,h⟩
theorem Dp {sz:Nat} {α β:Type} {enc:α→List V} {d:α} {l:List α} {Qb:β→List V} {d':β} {l':List β} {u:Value} (h:cz S w (.sl sz enc d l) u) (he:l.map enc=l'.map Qb) :
  cz S w (.sl sz Qb d' l') u:=by
 have Qi:l.length=l'.length:=by have:=congrArg List.length he;simpa using this
 obtain⟨p,c,rfl,h1,h2,h3,h4⟩:=eF h
 refine kP Qi (by omega) h2 h3 (fun h0=>?_)
 obtain⟨b,I',us,q1,q2,q3,q4,q5,q6⟩:=h4 (by omega)
 have back:∀(i:Nat) (x:β),l'[i]?=some x→∃y,l[i]?=some y∧enc y=Qb x:=fun i x hx=>dg (by rw[he];exact sB hx)
 refine⟨b,I',us,q1,q2,q3,fun i x hx=>?_,fun i x j y hx hy=>?_,fun i x j y hx hy=>?_⟩
 ·obtain⟨z,hz,e⟩:=back i x hx
  rw[← e];exact q4 i z hz
 ·obtain⟨z,hz,e⟩:=back i x hx
  exact q5 i z j y hz (by rw[e];exact hy)
 ·obtain⟨z,hz,e⟩:=back i x hx
  exact q6 i z j y hz (by rw[e];exact hy)
theorem Dq {ag:Bool} {α β:Type} {enc:α→List V} {Qb:β→List V} {d:α} {d':β} {l:List (ByteArray×α)} {l':List (ByteArray×β)} {u:Value} (h:cz S w (.sm ag enc d l) u) (he:l.map (fun p=>(p.1,enc p.2))=l'.map (fun p=>(p.1,Qb p.2))):cz S w (.sm ag Qb d' l') u:=by
 have Qi:l.length=l'.length:=by have:=congrArg List.length he;simpa using this
 have back:∀(i:Nat) (k:ByteArray) (y:β),l'[i]?=some (k,y)→∃x,l[i]?=some (k,x)∧enc x=Qb y:=fun i k y hy=>by
  have h1:(l'.map (fun p=>(p.1,Qb p.2)))[i]?=some (k,Qb y):=by rw[N4,hy];rfl
  rw[← he,N4]at h1
  cases hq:l[i]? with
  | none=>rw[hq]at h1;cases h1
  | some q =>
   rw[hq]at h1
   simp only[Oz,NW,NS]at h1
   exact⟨q.2,by rw[← h1.1],h1.2⟩
 cases h with
 | smn =>
  have:l'=[]:=Oj (by rw[← Qi];rfl)
  subst this
  exact .smn _ _ _
 | sm _ _ _ _ b clock arr us h1 h2 h3 h4 h5 h6 =>
  refine .sm _ _ _ _ b clock arr us h1 h2 h3 (by rw[h4,Qi]) (fun i k y hy=>?_) (fun i k y j z hy hz=>?_)
  ·obtain⟨x,hx,e⟩:=back i k y hy
   rw[← e];exact h5 i k x hx
  ·obtain⟨x,hx,e⟩:=back i k y hy
   exact h6 i k x j z hx (by rw[e];exact hz)
theorem o7 {x y:V} {u:Value} (he:El x y) (h:cz S w x u):cz S w y u:=by
 unfold El at he
 split at he
 ·split at he
  ·rename_i hk
   rw[P5]at hk
   subst he hk
   exact h
  ·exact he.elim
 ·subst he;exact h
 ·subst he;exact h
 ·exact h
 ·exact h
 ·subst he;cases h;exact .nil _ _ _ _ _ (by simp[maxLen]) (fun _=>rfl)
 ·exact h
 ·subst he;cases h with
  | esl p c hc=>exact .nil _ _ _ _ _ hc (fun h=>by cases h)
 ·split at he
  ·rename_i hs
   rw[N2]at hs
   subst hs
   exact Dp h he
  ·exact he.elim
 ·split at he
  ·rename_i hs
   rw[P5]at hs
   subst hs
   exact Dq h he
  ·exact he.elim
 ·exact h
 ·split at he
  ·rename_i hk
   rw[N2]at hk
   subst hk;exact h
  ·exact he.elim
 ·subst he;cases h;exact .smn _ _ _
 ·exact he.elim
theorem sC {x y:D} {u:Value} (he:G1 x y) (h:ai S μ w x u):ai S μ w y u:=by
 unfold G1 at he
 split at he
 ·exact .v _ _ (o7 he (bg h))
 ·subst he
  cases h
  exact .v _ _ (.nil _ _ _ _ _ (by simp[maxLen]) (fun _=>rfl))
 ·cases h
  exact .v _ _ .nsl
 ·have h:=bg h
  unfold Iy at he
  split at he
  ·cases h;exact .nils
  ·exact he.elim
 ·split at he
  ·rename_i hs
   rw[N2]at hs
   subst he hs
   exact h
  ·exact he.elim
 ·exact .junk _
 ·subst he;exact h
theorem BK:∀{xs ys:List D} {us:Array Value},KJ xs ys→aK S μ w xs us→aK S μ w ys us
 | xs,ys,us,he,h=>by
  have key:∀(xs ys:List D),KJ xs ys→xs.length=ys.length∧∀(j:Nat) (y:D),ys[j]?=some y→∃x,xs[j]?=some x∧G1 x y:=by
   intro xs
   induction xs with
   | nil =>
    intro ys h
    cases ys with
    | nil=>exact⟨rfl,fun j y hy=>by simp at hy⟩
    | cons _ _=>exact h.elim
   | cons x xs ih =>
    intro ys h
    cases ys with
    | nil=>exact h.elim
    | cons y ys =>
     obtain⟨h1,h2⟩:=ih ys h.2
     refine⟨by simp[h1],fun j z hz=>?_⟩
     cases j with
     | zero=>simp at hz;subst hz;exact⟨x,rfl,h.1⟩
     | succ j=>simpa using h2 j z (by simpa using hz)
  obtain⟨h1,h2⟩:=key xs ys he
  exact⟨by rw[← h1];exact h.1,fun j y u hy hu=>by
   obtain⟨x,hx,SY⟩:=h2 j y hy
   exact sC SY (h.2 j x u hx hu)⟩
theorem o8 {x y:D} {u:Value} (he:qp x y) (h:ai S μ w x u):ai S μ w y u:=by
 unfold qp at he
 split at he
 ·obtain⟨us,rfl,h1,h2⟩:=dV h
  obtain⟨q1,q2⟩:=BK he ⟨h1,h2⟩
  exact .agg _ _ q1 q2
 ·obtain⟨us,rfl,h1,h2⟩:=sy h
  obtain⟨q1,q2⟩:=BK he ⟨h1,h2⟩
  exact .tup _ _ q1 q2
 ·exact sC he h
theorem G2 {S':Nat→Prop} {t:TypeId} {ag:Bool} {α:Type} {enc:α→List V} {d:α} {l:List (ByteArray×α)} {u:Value} (h:aG S μ w u (.mpb t ag enc d l)) (hS:∀b,S b→S' b) (P9:∀b,bu u b→S' b):cz S' w (.sm ag enc d l) u:=by
 obtain⟨b,arr,clock,rfl,hb,hl,hh⟩:=h
 have st:∀{y:V} {z:Value},cz S w y z→cz S' w y z:=fun h=>h.stable (fun b hb _=>hS b hb) (fun _ _ _=>rfl) (NN _)
 refine .sm ag enc d l b clock arr (fun i j=>if ag=true then (match (arr.getD i default).val with | .agg a=>a.getD j undef | _=>undef)else (arr.getD i default).val) (P9 b (.inl rfl)) (NV.1 hb).1 hb hl (fun i k x hx=>?_) (fun i k x j y hx hy=>?_)
 ·obtain⟨e,e1,e2,e3,e4⟩:=hh i k x hx
  refine⟨e,e1,e2,?_⟩
  have hg:arr.getD i default=e:=by simp[OH,e1]
  unfold BE
  cases ag
  ·simp only[OC,Pf]
   exact⟨e3 rfl,by rw[hg]⟩
  ·simp only[Pe]
   obtain⟨a,ha,h1,h2⟩:=dV (show ai S μ w (.agg ((enc x).map D.v)) e.val from e4)
   rw[N1]at h1
   refine⟨a,ha,h1,fun j hj=>?_⟩
   rw[hg,ha]
   simp[OH,N7 (show j<a.size by omega)]
 ·obtain⟨e,e1,e2,e3,e4⟩:=hh i k x hx
  have hg:arr.getD i default=e:=by simp[OH,e1]
  cases ag
  ·simp only[OC,Pf]
   rw[hg]
   have Ut:=e3 rfl
   have hj:j=0:=by have:=(NL.1 hy).1;omega
   subst hj
   match hq:enc x,Ut,hy with
   | [y'],_,hy =>
    cases hy
    have e4:ai S μ w (jD false (enc x)) e.val:=e4
    rw[hq]at e4
    exact st (bg e4)
  ·simp only[Pe]
   obtain⟨a,ha,h1,h2⟩:=dV (show ai S μ w (.agg ((enc x).map D.v)) e.val from e4)
   rw[N1]at h1
   have hj:=(NL.1 hy).1
   rw[hg,ha]
   have hu:a[j]?=some (a.getD j undef):=by simp[OH,N7 (show j<a.size by omega)]
   exact st (bg (h2 j (.v y) _ (by rw[N4,hy];rfl) hu))
theorem th {S':Nat→Prop} {E sz:Nat} {α:Type} {enc:α→List V} {d:α} {l:List α} {u:Value} (h:aG S μ w u (.arr E sz enc d l)) (hS:∀b,S b→S' b) (P9:∀b,bu u b→S' b):cz S' w (.sl sz enc d l) u:=by
 have Ql:=h.lt rfl
 obtain⟨p,c,hu,q1,q2,q3,q4⟩:=bK h
 subst hu
 refine kP rfl q1 q2 q3 (fun h0=>?_)
 obtain⟨g,rfl⟩:=q4 h0
 obtain⟨r1,xs,r2,r3⟩:=h
 refine⟨g,0,fun i j=>xs.getD (i*sz+j) undef,rfl,P9 g (.inl rfl),Ql g (.inl rfl),r1,fun i x j y hx hy=>?_,fun i x j y hx hy=>?_⟩
 ·obtain⟨z,hz,_⟩:=r3 i x j y hx hy
  rw[OA,jf r2 (b:=g) rfl _ _ hz]
  simp[List.getD,hz]
 ·obtain⟨z,hz,hr⟩:=r3 i x j y hx hy
  have:xs.getD (i*sz+j) undef=z:=by simp[List.getD,hz]
  show cz S' w y (xs.getD (i*sz+j) undef)
  rw[this]
  exact hr.stable (fun b hb _=>hS b hb) (fun _ _ _=>rfl) (NN _)
theorem dh {S':Nat→Prop} {E sz:Nat} {α:Type} {enc:α→List V} {d:α} {l:List α} {u:Value} (h:aG S μ w u (.arr E sz enc d l)) (hS:∀b,S b→S' b) (P9:∀b,bu u b→S' b)
  (QS:∀b,S b→b<w.heap.size):cz S' w (.sl sz enc d l) u:=by
 have Ql:=h.lt rfl
 obtain⟨p,c,hu,q1,q2,q3,q4⟩:=bK h
 subst hu
 refine kP rfl q1 q2 q3 (fun h0=>?_)
 obtain⟨g,rfl⟩:=q4 h0
 obtain⟨r1,xs,r2,r3⟩:=h
 refine⟨g,0,fun i j=>xs.getD (i*sz+j) undef,rfl,P9 g (.inl rfl),Ql g (.inl rfl),r1,fun i x j y hx hy=>?_,fun i x j y hx hy=>?_⟩
 ·obtain⟨z,hz,_⟩:=r3 i x j y hx hy
  rw[OA,jf r2 (b:=g) rfl _ _ hz]
  simp[List.getD,hz]
 ·obtain⟨z,hz,hr⟩:=r3 i x j y hx hy
  have:xs.getD (i*sz+j) undef=z:=by simp[List.getD,hz]
  show cz S' w y (xs.getD (i*sz+j) undef)
  rw[this]
  exact hr.stable (fun b hb _=>hS b hb) (fun _ _ _=>rfl) (NN _)
theorem mh {H:List ak} {S':Nat→Prop} (hH:a9 S μ w H) (hS:∀b,S b→S' b) (QS:∀b,S b→b<w.heap.size) {x y:D} (P9:(∀(i:Nat) (A:ak) (b:Nat),H[i]?=some A→A.isArr=true→bu (μ i) b→S' b)∨x.isOwn=false) {u:Value} (he:GV H x y) (h:ai S μ w x u):ai S' μ w y u:=by
 unfold GV at he
 split at he
 ·rename_i id y
  split at he
  ·rename_i E sz α enc d l hb
   have hu:=bq h
   subst hu
   have ho:∀b,bu (μ id) b→S' b:=fun b QJ=>by
    rcases P9 with P9 | P9
    ·exact P9 id _ b hb rfl QJ
    ·cases P9
   exact .v _ _ (o7 he (dh (hH.box id _ hb) hS ho QS))
  ·exact he.elim
 ·exact sC he (h.stable (fun b hb _=>hS b hb) (fun _ _ _=>rfl) (NN _) (fun _ _=>rfl))
theorem sD {H:List ak}:∀{xs ys:List D},KK H xs ys→xs.length=ys.length∧∀(j:Nat) (y:D),ys[j]?=some y→∃x,xs[j]?=some x∧GV H x y
 | [],[],_=>⟨rfl,fun j y hy=>by simp at hy⟩
 | [],_::_,h=>h.elim
 | _::_,[],h=>h.elim
 | x::xs,y::ys,h=>by
  obtain⟨h1,h2⟩:=sD h.2
  refine⟨by simp[h1],fun j z hz=>?_⟩
  cases j with
  | zero=>simp at hz;subst hz;exact⟨x,rfl,h.1⟩
  | succ j=>simpa using h2 j z (by simpa using hz)
theorem xb {H:List ak}:∀{xs ys:List D},KL H xs ys→xs.length=ys.length∧∀(j:Nat) (y:D),ys[j]?=some y→∃x,xs[j]?=some x∧Iz H x y
 | [],[],_=>⟨rfl,fun j y hy=>by simp at hy⟩
 | [],_::_,h=>h.elim
 | _::_,[],h=>h.elim
 | x::xs,y::ys,h=>by
  obtain⟨h1,h2⟩:=xb h.2
  refine⟨by simp[h1],fun j z hz=>?_⟩
  cases j with
  | zero=>simp at hz;subst hz;exact⟨x,rfl,h.1⟩
  | succ j=>simpa using h2 j z (by simpa using hz)
theorem fG:∀{l:List D},fa l=true→∀(j:Nat) (x:D),l[j]?=some x→x.isOwn=false∧(∀cs,x=.agg cs→∀c∈cs,D.isOwn c=false)∧∀f a b,x=.fn f a b→(∀c∈a,D.isOwn c=false)∧∀c∈b,D.isOwn c=false
 | [],_,j,x,hx=>by simp at hx
 | d::l,h,j,x,hx=>by
  have hl:fa l=true:=by
   cases d<;>simp_all [fa]
  cases j with
  | zero =>
   simp at hx
   subst hx
   refine⟨by cases d<;>first | rfl | (simp[fa]at h),?_,?_⟩
   ·rintro cs rfl c hc
    simp only[fa,NK,Oa]at h
    simpa using h.1 c hc
   ·rintro f a b rfl
    simp only[fa,NK,Oa]at h
    exact⟨fun c hc=>by simpa using h.1 c hc,fun c hc=>by simpa using h.2.1 c hc⟩
  | succ j=>exact fG hl j x (by simpa using hx)
theorem G3 {H:List ak} {S':Nat→Prop} (hH:a9 S μ w H) (hS:∀b,S b→S' b) (QS:∀b,S b→b<w.heap.size) {ds q':List D}
  (P9:(∀(i:Nat) (A:ak) (b:Nat),H[i]?=some A→A.isArr=true→bu (μ i) b→S' b)∨fa ds=true) {us:Array Value} (he:KL H ds q') (h:aK S μ w ds us):aK S' μ w q' us:=by
 obtain⟨h1,h2⟩:=xb he
 refine⟨by rw[← h1];exact h.1,fun j y u hy hu=>?_⟩
 obtain⟨x,hx,SY⟩:=h2 j y hy
 have RV:=h.2 j x u hx hu
 unfold Iz at SY
 split at SY
 ·rename_i xs ys
  obtain⟨vs,rfl,q1,q2⟩:=dV RV
  obtain⟨r1,r2⟩:=sD SY
  refine .agg _ _ (by rw[← r1];exact q1) (fun k z v hz hv=>?_)
  obtain⟨x',S4,TZ⟩:=r2 k z hz
  exact mh hH hS QS (P9.imp id fun hn=>(fG hn j _ hx).2.1 _ rfl x' (Oh S4)) TZ (q2 k x' v S4 hv)
 ·exact mh hH hS QS (P9.imp id fun hn=>(fG hn j _ hx).1) SY RV
theorem yu {H:List ak} {S':Nat→Prop} (hH:a9 S μ w H) (hS:∀b,S b→S' b) (QS:∀b,S b→b<w.heap.size) (P9:∀(i:Nat) (A:ak) (b:Nat),H[i]?=some A→A.mem=true→bu (μ i) b→S' b) :
  ∀{cs:List D} {vs:List V},yq H cs=some vs→vs.length=cs.length∧∀(j:Nat) (y:V),vs[j]?=some y→∃x,cs[j]?=some x∧∀u,ai S μ w x u→cz S' w y u
 | [],vs,h=>by cases h;exact⟨rfl,fun j y hy=>by simp at hy⟩
 | c::r,vs,h=>by
  have key:∃y0 ys,vs=y0::ys∧yq H r=some ys∧∀u,ai S μ w c u→cz S' w y0 u:=by
   unfold yq at h
   split at h
   ·rename_i he
    cases he
   ·rename_i x r' he
    cases he
    split at h
    ·rename_i xs VV
     cases h
     exact⟨_,_,rfl,VV,fun u hu=>(bg hu).stable (fun b hb _=>hS b hb) (fun _ _ _=>rfl) (NN _)⟩
    ·cases h
   ·rename_i r' he
    cases he
    split at h
    ·rename_i xs VV
     cases h
     exact⟨_,_,rfl,VV,fun u hu=>by cases hu;exact .nsl⟩
    ·cases h
   ·rename_i id r' he
    cases he
    split at h
    ·rename_i E sz α enc d l hb
     split at h
     ·rename_i xs VV
      cases h
      exact⟨_,_,rfl,VV,fun u hu=>by rw[bq hu];exact dh (hH.box id _ hb) hS (fun b QJ=>P9 id _ b hb rfl QJ) QS⟩
     ·cases h
    ·rename_i E sz α enc d l hb
     split at h
     ·rename_i xs VV
      cases h
      exact⟨_,_,rfl,VV,fun u hu=>by rw[bq hu];exact dh (hH.box id _ hb).ro_arr hS (fun b QJ=>P9 id _ b hb rfl QJ) QS⟩
     ·cases h
    ·cases h
   ·cases h
  obtain⟨y0,ys,rfl,h1,h2⟩:=key
  obtain⟨q1,q2⟩:=yu hH hS QS P9 h1
  refine⟨by simp[q1],fun j y hy=>?_⟩
  cases j with
  | zero=>simp at hy;subst hy;exact⟨c,rfl,h2⟩
  | succ j=>simpa using q2 j y (by simpa using hy)
theorem xc {H:List ak} {S':Nat→Prop} (hH:a9 S μ w H) (hS:∀b,S b→S' b) (QS:∀b,S b→b<w.heap.size) {x y:D} (P9:(∀(i:Nat) (A:ak) (b:Nat),H[i]?=some A→A.mem=true→bu (μ i) b→S' b)∨x.isOwn=false) {u:Value} (he:Kx H x y) (h:ai S μ w x u):ai S' μ w y u:=by
 unfold Kx at he
 split at he
 ·rename_i id i sz I' cs o
  split at he
  ·rename_i T bcs hb
   have RM:∀(i:Nat) (A:ak) (b:Nat),H[i]?=some A→A.mem=true→bu (μ i) b→S' b:=by
    rcases P9 with P9 | P9
    ·exact P9
    ·cases P9
   split at he
   ·rename_i vs hc hv
    subst he
    simp only[NK,N2]at hc
    obtain⟨rfl,rfl⟩:=hc
    obtain⟨b,RF,rfl⟩:=md h
    obtain⟨b',us,hu,h1,h2,h3⟩:=hH.box id _ hb
    rw[hu]at RF
    simp[bu,aF]at RF
    subst RF
    obtain⟨q1,q2⟩:=yu hH hS QS RM hv
    have Ql:b'<w.heap.size:=(NV.1 h1).1
    have:=ai.iptr (S:=S') (μ:=μ) (w:=w) vs I' b' 0 (fun j=>us.getD j undef) (RM id _ b' hb rfl (by rw[hu];exact .inl rfl)) Ql (fun j y hy=>?_) (fun j y hy=>?_)
    ·simpa using this
    ·have hj:j<us.size:=by rw[h2,← q1];exact(NL.1 hy).1
     unfold World.cell?
     simp only[OA,h1]
     simp[Array.getD,hj]
    ·obtain⟨x,hx,hr⟩:=q2 j y hy
     have hj:j<us.size:=by rw[h2,← q1];exact(NL.1 hy).1
     have Rz:us[j]?=some (us.getD j undef):=by simp[Array.getD,hj]
     exact hr _ (h3 j x _ hx Rz)
   ·exact he.elim
  ·exact he.elim
 ·rename_i id y
  split at he
  ·rename_i E sz n gs cell hb
   obtain⟨rfl,g,m,f,E2,Us,β,RS,d2,l,hg,rfl,TA,Rj,hy⟩:=he
   have RM:∀(i:Nat) (A:ak) (b:Nat),H[i]?=some A→A.mem=true→bu (μ i) b→S' b:=by
    rcases P9 with P9 | P9
    ·exact P9
    ·cases P9
   have hu:=bq h
   subst hu
   obtain⟨r0,xs,r1,r2⟩:=hH.box id _ hb
   obtain⟨us,hgu,Qk,QA,_⟩:=hH.box g _ hg
   have hB:aG S' μ w (μ id) (.arr E 1 (fun r=>[V.sl Us RS d2 r]) [] l):=by
    refine⟨fun i x _=>rfl,xs,r1,fun i x j v hx hv=>?_⟩
    have hi:i<l.length:=(NL.1 hx).1
    have hj:j=0:=by
     have:=(NL.1 hv).1
     simp at this
     omega
    subst hj
    simp only[PP,NW]at hv
    subst hv
    obtain⟨z,hz,_,hd⟩:=r2 i 0 hi (by omega)
    rw[(Rj i hi).1]at hd
    refine⟨z,hz,?_⟩
    cases hd with
    | gr _ _ RL _ h1 h2 h3 =>
     rw[hgu]at h1
     cases h1
     have hrr:=(QA i z h2).2
     rw[(Rj i hi).2,show l.getD i []=x by rw[cO _ _ hi];exact(NL.1 hx).2]at hrr
     exact th (μ:=μ) (E:=E2) hrr hS (fun b QJ=>RM g _ b hg rfl (by
      rw[hgu]
      exact .inr ⟨us,rfl,i,z,h2,QJ.bl h3⟩))
   exact .v _ _ (o7 hy (th hB (fun _ h=>h) (fun b QJ=>RM id _ b hb rfl QJ)))
  ·rename_i E sz α enc d l hb
   have hu:=bq h
   subst hu
   rcases P9 with P9 | P9
   ·exact .v _ _ (o7 he (dh (hH.box id _ hb).ro_arr hS (fun b QJ=>P9 id _ b hb rfl QJ) QS))
   ·cases P9
  ·exact mh hH hS QS (P9.imp (fun hn i A b h1 h2 h3=>hn i A b h1 (ak.arr_mem h2) h3) (fun z=>z)) he h
 ·exact mh hH hS QS (P9.imp (fun hn i A b h1 h2 h3=>hn i A b h1 (ak.arr_mem h2) h3) id) he h
theorem xd {H:List ak}:∀{xs ys:List D},KM H xs ys→xs.length=ys.length∧∀(j:Nat) (y:D),ys[j]?=some y→∃x,xs[j]?=some x∧Kx H x y
 | [],[],_=>⟨rfl,fun j y hy=>by simp at hy⟩
 | [],_::_,h=>h.elim
 | _::_,[],h=>h.elim
 | x::xs,y::ys,h=>by
  obtain⟨h1,h2⟩:=xd h.2
  refine⟨by simp[h1],fun j z hz=>?_⟩
  cases j with
  | zero=>simp at hz;subst hz;exact⟨x,rfl,h.1⟩
  | succ j=>simpa using h2 j z (by simpa using hz)
theorem BL {H:List ak}:∀{xs ys:List D},yr H xs ys→xs.length=ys.length∧∀(j:Nat) (y:D),ys[j]?=some y→∃x,xs[j]?=some x∧L4 H x y
 | [],[],_=>⟨rfl,fun j y hy=>by simp at hy⟩
 | [],_::_,h=>h.elim
 | _::_,[],h=>h.elim
 | x::xs,y::ys,h=>by
  obtain⟨h1,h2⟩:=BL h.2
  refine⟨by simp[h1],fun j z hz=>?_⟩
  cases j with
  | zero=>simp at hz;subst hz;exact⟨x,rfl,h.1⟩
  | succ j=>simpa using h2 j z (by simpa using hz)
theorem jI {H:List ak} {S':Nat→Prop} (hH:a9 S μ w H) (hS:∀b,S b→S' b) (QS:∀b,S b→b<w.heap.size) {ds q':List D}
  (P9:(∀(i:Nat) (A:ak) (b:Nat),H[i]?=some A→A.mem=true→bu (μ i) b→S' b)∨fa ds=true) {us:Array Value} (he:yr H ds q') (h:aK S μ w ds us):aK S' μ w q' us:=by
 obtain⟨h1,h2⟩:=BL he
 refine⟨by rw[← h1];exact h.1,fun j y u hy hu=>?_⟩
 obtain⟨x,hx,SY⟩:=h2 j y hy
 have RV:=h.2 j x u hx hu
 unfold L4 at SY
 split at SY
 ·rename_i xs ys
  obtain⟨vs,rfl,q1,q2⟩:=dV RV
  obtain⟨r1,r2⟩:=sD SY
  refine .agg _ _ (by rw[← r1];exact q1) (fun k z v hz hv=>?_)
  obtain⟨x',S4,TZ⟩:=r2 k z hz
  refine mh hH hS QS ?_ TZ (q2 k x' v S4 hv)
  rcases P9 with P9 | hn
  ·exact .inl (fun i A b h1 h2 h3=>P9 i A b h1 (ak.arr_mem h2) h3)
  ·exact .inr ((fG hn j _ hx).2.1 _ rfl x' (Oh S4))
 ·rename_i f a b f' a' b'
  obtain⟨rfl,ha,hb⟩:=SY
  obtain⟨a1,a2⟩:=xd ha
  obtain⟨b1,b2⟩:=xd hb
  cases RV with
  | fn _ _ _ us vs q1 q2 q3 q4 =>
   refine .fn _ _ _ us vs (by rw[← a1];exact q1) (fun k z v hz hv=>?_) (by rw[← b1];exact q3) (fun k z v hz hv=>?_)
   ·obtain⟨x',S4,TZ⟩:=a2 k z hz
    exact xc hH hS QS (P9.imp id fun hn=>((fG hn j _ hx).2.2 _ _ _ rfl).1 x' (Oh S4)) TZ (q2 k x' v S4 hv)
   ·obtain⟨x',S4,TZ⟩:=b2 k z hz
    exact xc hH hS QS (P9.imp id fun hn=>((fG hn j _ hx).2.2 _ _ _ rfl).2 x' (Oh S4)) TZ (q4 k x' v S4 hv)
 ·exact xc hH hS QS (P9.imp id fun hn=>(fG hn j _ hx).1) SY RV
end
section
variable {C:jB} {S:Nat→Prop} {μ:Nat→Value} {st:St} {a:Act} {w w':World}
theorem aU.grow (h:aU C S μ st a w) {S':Nat→Prop} (h1:w'.os=w.os) (h2:w'.tape=w.tape) (h3:w'.output=w.output) (h4:w.heap.size≤w'.heap.size) (h5:∀k,k<w.heap.size→w'.heap[k]?=w.heap[k]?)
  (h6:∀b,S b→S' b) (h7:∀b,S' b→S b∨w.heap.size≤b) (h8:∀b,S' b→b<w'.heap.size):aU C S' μ st a w':=by
 have Qd:∀(i:Nat) (A:ak),st.heap[i]?=some A→A.live=true→∀b,bu (μ i) b→w'.heap[b]?=w.heap[b]?:=fun i A hA hl b hb=>h5 b ((h.heap.box i A hA).lt hl b hb)
 refine⟨h1.trans h.os,h2.trans h.tape,h3.trans h.output,Pb h.size h4,fun k hk=>by rw[h5 k (OV hk h.size)];exact h.old k hk,fun b hb=>h6 b (h.mono b hb),?_,h8,?_,⟨?_,h.heap.apart,?_⟩,h.may,?_,h.tsize,h.ro⟩
 ·intro b hb
  rcases h7 b hb with hb | hb
  ·exact h.new b hb
  ·exact .inr (Pb h.size hb)
 ·intro t d hm
  obtain⟨q1,q2⟩:=h.env t d hm
  exact⟨q1,q2.stable (fun b hb _=>h6 b hb) (fun b hb hl=>h5 b hl) h4 (fun _ _=>rfl)⟩
 ·intro i A hA
  rcases A.three with rfl | hl | hl
  ·trivial
  ·exact(h.heap.box i A hA).stable (fun b hb _=>h6 b hb) (fun b hb hl=>h5 b hl) h4 (fun _ _=>rfl) (Qd i A hA hl)
  ·exact(h.heap.box i A hA).stable (fun b hb _=>h6 b hb) (fun b hb hl=>h5 b hl) h4 (fun _ _=>rfl) (fun b hb=>h5 b ((h.heap.box i A hA).ltR hl b hb))
 ·intro i A b hA hl hb hS
  rcases h7 b hS with hS | hS
  ·exact h.heap.notS i A b hA hl hb hS
  ·have:=(h.heap.box i A hA).lt hl b hb
   omega
 ·obtain⟨mk,d1,d2,d3⟩:=h.defers
  refine⟨mk,d1,d2,fun b hb=>?_⟩
  obtain⟨q1,q2,q3,q4⟩:=d3 b hb
  have Ql:b<w.heap.size:=(NV.1 q1).1
  exact⟨by rw[h5 b Ql];exact q1,q2,fun QJ=>(h7 b QJ).elim q3 (fun h=>by omega),q4⟩
theorem aU.callCore (h:aU C S μ st a w) {f:FuncId} {q':List D} {al:Bool} {r:D} {us:Array Value} (hc:ap C.P f q' [] al r []) {S1:Nat→Prop} (h1:∀b,S b→S1 b) (h2:∀b,S1 b→b<w.heap.size)
  (h3:al=true→∀b,S1 b→S b) (QF:aK S1 μ w q' us) (hr:ed r=true) {K:Value→World→Prop} (hK:∀S' u w',aU C S' μ st a w'→ai S' μ w' r u→K u w') :
  Calls C.P f us w (fun e w'=>∃u,e=.returned u∧K u w'):=by
 have slt:=h.slt
 refine(hc S1 μ w us h2 (h.glob.stable (fun b hb _=>h1 b hb) (fun _ _ _=>rfl) (NN _)) ⟨fun id B hB=>by simp at hB,fun i j A B b hA=>by simp at hA,fun i A b hA=>by simp at hA⟩ QF).mono ?_
 rintro e w' ⟨u,μ',S',rfl,q1,q2,q3,q4,q5,q6,q7,q8,q9,_⟩
 refine⟨u,rfl,hK (fun b=>S b∨(S' b∧w.heap.size≤b)) u w' (h.grow q1 q2 q3 q4 (fun k hk=>q5 k hk (fun i A hA=>by simp at hA)) (fun b hb=>.inl hb) ?_ ?_) ?_⟩
 ·rintro b (hb | ⟨_,hb⟩)
  ·exact .inl hb
  ·exact .inr hb
 ·rintro b (hb | ⟨hb,_⟩)
  ·exact OV (slt b hb) q4
  ·exact q8 b hb
 ·refine q9.stable ?_ (fun _ _ _=>rfl) (NN _) (fun id Qh=>by rw[fF id r hr]at Qh;cases Qh)
  rintro b ⟨hb,RU⟩ _
  rcases q7 b hb with UJ | UJ
  ·rcases RU with RU | RU
   ·exact .inl (h3 RU b UJ)
   ·exact .inr ⟨hb,RU⟩
  ·exact .inr ⟨hb,UJ⟩
def oo (P:Program) (g:FuncId) (H:List ak) (ds:List D) (q':Option (List D)) (al:Bool) (r:D):Prop :=
 match q' with
 | none=>ap P g ds [] al r []
 | some q'=>yr H ds q'∧ap P g q' [] al r []
theorem aU.callPure (h:aU C S μ st a w) {f:FuncId} {ds:List D} {q':Option (List D)} {al:Bool} {r:D} {us:Array Value} (hc:oo C.P f st.heap ds q' al r) (QF:aK S μ w ds us) (QG:al=false∨fa ds=true)
  (hr:ed r=true) {K:Value→World→Prop} (hK:∀S' u w',aU C S' μ st a w'→ai S' μ w' r u→K u w') :
  Calls C.P f us w (fun e w'=>∃u,e=.returned u∧K u w'):=by
 cases q' with
 | none=>exact h.callCore hc (fun _ h=>h) h.slt (fun _ _ h=>h) QF hr hK
 | some q' =>
  obtain⟨hco,hc⟩:=hc
  have slt:=h.slt
  have hSc:∀b,(S b∨(al=false∧∃(i:Nat) (A:ak),st.heap[i]?=some A∧A.mem=true∧bu (μ i) b))→b<w.heap.size:=by
   rintro b (hb | ⟨_,i,A,hA,hl,hb⟩)
   ·exact slt b hb
   ·exact(h.heap.box i A hA).ltM hl b hb
  refine h.callCore hc (S1:=fun b=>S b∨(al=false∧∃(i:Nat) (A:ak),st.heap[i]?=some A∧A.mem=true∧bu (μ i) b)) (fun b hb=>.inl hb) hSc ?_ ?_ hr hK
  ·rintro QG b (hb | ⟨h0,_⟩)
   ·exact hb
   ·rw[QG]at h0;cases h0
  ·refine jI h.heap (fun b hb=>.inl hb) slt ?_ hco QF
   rcases QG with QG | QG
   ·exact .inl (fun i A b hA hl hb=>.inr ⟨QG,i,A,hA,hl,hb⟩)
   ·exact .inr QG
def KN (id:Nat):D→D→Prop
 | .own i,.own j=>i=id∧j=0
 | .own _,.junk=>True
 | .own _,_=>False
 | x,y=>ed y=true∧G1 x y
def Mc (id:Nat):List D→List D→Prop
 | [],[]=>True
 | x::xs,y::ys=>KN id x y∧Mc id xs ys
 | _,_=>False
def Md (id:Nat):D→D→Prop
 | .agg xs,.agg ys=>Mc id xs ys
 | x,y=>KN id x y
def L5 (id:Nat):List D→List D→Prop
 | [],[]=>True
 | x::xs,y::ys=>Md id x y∧L5 id xs ys
 | _,_=>False
theorem BM {S:Nat→Prop} {μ:Nat→Value} {w:World} {id:Nat} {x y:D} {u:Value} (h:KN id x y) (hx:ai S μ w x u):ai S (fun _=>μ id) w y u:=by
 unfold KN at h
 split at h
 ·obtain⟨rfl,rfl⟩:=h
  cases hx
  exact ai.own (μ:=fun _=>μ _) 0
 ·exact .junk _
 ·exact h.elim
 ·exact(sC h.2 hx).stable (fun _ h _=>h) (fun _ _ _=>rfl) (NN _) (fun i hi=>by rw[fF i _ h.1]at hi;cases hi)
theorem BN {id:Nat}:∀{xs ys:List D},Mc id xs ys→xs.length=ys.length∧∀(j:Nat) (y:D),ys[j]?=some y→∃x,xs[j]?=some x∧KN id x y
 | [],[],_=>⟨rfl,fun j y hy=>by simp at hy⟩
 | [],_::_,h=>h.elim
 | _::_,[],h=>h.elim
 | x::xs,y::ys,h=>by
  obtain⟨h1,h2⟩:=BN h.2
  refine⟨by simp[h1],fun j z hz=>?_⟩
  cases j with
  | zero=>simp at hz;subst hz;exact⟨x,rfl,h.1⟩
  | succ j=>simpa using h2 j z (by simpa using hz)
theorem BO {id:Nat}:∀{xs ys:List D},L5 id xs ys→xs.length=ys.length∧∀(j:Nat) (y:D),ys[j]?=some y→∃x,xs[j]?=some x∧Md id x y
 | [],[],_=>⟨rfl,fun j y hy=>by simp at hy⟩
 | [],_::_,h=>h.elim
 | _::_,[],h=>h.elim
 | x::xs,y::ys,h=>by
  obtain⟨h1,h2⟩:=BO h.2
  refine⟨by simp[h1],fun j z hz=>?_⟩
  cases j with
  | zero=>simp at hz;subst hz;exact⟨x,rfl,h.1⟩
  | succ j=>simpa using h2 j z (by simpa using hz)
theorem BP {S:Nat→Prop} {μ:Nat→Value} {w:World} {id:Nat} {ds q':List D} {us:Array Value} (he:L5 id ds q') (h:aK S μ w ds us):aK S (fun _=>μ id) w q' us:=by
 obtain⟨h1,h2⟩:=BO he
 refine⟨by rw[← h1];exact h.1,fun j y u hy hu=>?_⟩
 obtain⟨x,hx,SY⟩:=h2 j y hy
 have RV:=h.2 j x u hx hu
 unfold Md at SY
 split at SY
 ·obtain⟨vs,rfl,q1,q2⟩:=dV RV
  obtain⟨r1,r2⟩:=BN SY
  refine .agg _ _ (by rw[← r1];exact q1) (fun k z v hz hv=>?_)
  obtain⟨x',S4,TZ⟩:=r2 k z hz
  exact BM TZ (q2 k x' v S4 hv)
 ·exact BM SY RV
def ED:Option ak→Option ak
 | some (.arr E sz enc d l)=>some (.ro E sz enc d l)
 | some (.ro E sz enc d l)=>some (.ro E sz enc d l)
 | _=>none
theorem vz {S:Nat→Prop} {μ μ':Nat→Value} {w:World} {u:Value} {A B:ak} (h:ED (some A)=some B) (hA:aG S μ w u A):B.isRo=true∧aG S μ' w u B:=by
 unfold ED at h
 split at h
 ·rename_i e;cases e;cases h;exact⟨rfl,hA⟩
 ·rename_i e;cases e;cases h;exact⟨rfl,hA⟩
 ·cases h
def jJ (P:Program) (g:FuncId) (H:List ak) (ds:List D) (id:Nat) (q':List D) (r:D):Prop :=
 match ED H[id]? with
 | some B=>L5 id ds q'∧ap P g q' [B] true r []
 | none=>False
theorem BQ {S:Nat→Prop} {μ:Nat→Value} {w:World} {B:ak} (hr:B.isRo=true) (h:aG S μ w (μ 0) B):a9 S μ w [B]:=by
 have hl:B.live=false:=by cases B<;>first | rfl | cases hr
 have one:∀(i:Nat) (A:ak),[B][i]?=some A→i=0∧A=B:=fun i A hA=>by
  match i with
  | 0=>simp at hA;exact⟨rfl,hA.symm⟩
  | i+1=>simp at hA
 refine⟨fun i A hA=>?_,fun i j A A' b hA _ la=>?_,fun i A b hA la=>?_⟩
 ·obtain⟨rfl,rfl⟩:=one i A hA;exact h
 ·rw[(one i A hA).2,hl]at la;cases la
 ·rw[(one i A hA).2,hl]at la;cases la
theorem aU.callR (h:aU C S μ st a w) {f:FuncId} {ds:List D} {id:Nat} {q':List D} {r:D} {us:Array Value} (hc:jJ C.P f st.heap ds id q' r) (QF:aK S μ w ds us)
  (hr:ed r=true) {K:Value→World→Prop} (hK:∀S' u w',aU C S' μ st a w'→ai S' μ w' r u→K u w') :
  Calls C.P f us w (fun e w'=>∃u,e=.returned u∧K u w'):=by
 unfold jJ at hc
 split at hc
 ·rename_i B hB
  obtain⟨hra,hc⟩:=hc
  cases TV:st.heap[id]? with
  | none=>rw[TV]at hB;cases hB
  | some A =>
   rw[TV]at hB
   obtain⟨Rc,G'⟩:=vz (μ':=fun _=>μ id) hB (h.heap.box id A TV)
   have hl:B.live=false:=by cases B<;>first | rfl | cases Rc
   have slt:=h.slt
   refine(hc S (fun _=>μ id) w us slt h.glob (BQ Rc G') (BP hra QF)).mono ?_
   rintro e w' ⟨u,μ',S',rfl,q1,q2,q3,q4,q5,q6,q7,q8,q9,_⟩
   have nolive:∀(k i:Nat) (A:ak),[B][i]?=some A→A.live=true→¬bu ((fun _=>μ id) i) k:=fun k i A hA la=>by
    match i with
    | 0=>simp at hA;rw[← hA,hl]at la;cases la
    | i+1=>simp at hA
   refine⟨u,rfl,hK S' u w' (h.grow q1 q2 q3 q4 (fun k hk=>q5 k hk (nolive k)) q6 q7 q8) ?_⟩
   exact q9.stable (fun b hb _=>hb.1) (fun _ _ _=>rfl) (NN _) (fun id Qh=>by rw[fF id r hr]at Qh;cases Qh)
 ·exact hc.elim
end
inductive Fz:Type 1
 | sl (x:V)
 | vr (cs:List V)
 | gs (f:Nat→V)
 | nw (q:Nat)
 | sq (x:V)
def Fz.own:Fz→D
 | .sl x=>.v x
 | .vr _=>.junk
 | .gs _=>.junk
 | .nw _=>.junk
 | .sq x=>.v x
def Fz.gr:Fz→Nat→D
 | .gs f,r=>.v (f r)
 | _,_=>.junk
def Fz.ptr:Fz→Nat→Nat→D
 | .sl _,_,_=>.junk
 | .gs _,_,_=>.junk
 | .nw _,_,_=>.junk
 | .sq _,_,_=>.junk
 | .vr cs,k,I'=>if Nat.beq k 0 then .iptr cs I' else .junk
def Fz.pre (sz:Nat) (sh:Bool) {α:Type} (enc:α→List V) (d:α) (l:List α):Fz→D
 | .nw q=>.pre q sz sh enc d l
 | .sq _=>.v (.sl sz enc d l)
 | _=>.junk
def Fz.keep:Fz→Bool
 | .nw _=>true
 | .sq _=>true
 | _=>false
mutual
def cu (id:Nat) (x:Fz):D→D
 | .own i=>if Nat.beq i id then x.own else .own i
 | .agg cs=>.agg (jg id x cs)
 | .tup cs=>.tup (jg id x cs)
 | .ptr i k sz I'=>if Nat.beq i id then x.ptr k I' else .ptr i k sz I'
 | .fn f a b=>.fn f (jg id x a) (jg id x b)
 | .v y=>.v y
 | .nils=>.nils
 | .iptr cs I'=>.iptr cs I'
 | .yld i=>.yld i
 | .capd y=>.capd y
 | .gr i r=>if Nat.beq i id then x.gr r else .gr i r
 | .pre i sz sh enc d l=>if Nat.beq i id then x.pre sz sh enc d l else .pre i sz sh enc d l
 | .junk=>.junk
def jg (id:Nat) (x:Fz):List D→List D
 | []=>[]
 | d::r=>cu id x d::jg id x r
end
def ic (id:Nat) (x:Fz):List (Nat×D)→List (Nat×D)
 | []=>[]
 | (t,d)::r=>(t,cu id x d)::ic id x r
def eR (id:Nat) (x:Fz):ak→ak
 | .var T cs=>.var T (jg id x cs)
 | .loop l tm nt env ps q' bd s p=>.loop l tm nt (ic id x env) ps q' bd s p
 | .frame tm env=>.frame tm (ic id x env)
 | .ro E sz enc d l=>.ro E sz enc d l
 | .dead=>.dead
 | .arr E sz enc d l=>.arr E sz enc d l
 | .mpb t ag enc d l=>.mpb t ag enc d l
 | .arrD E sz n gs cell=>if gs.all (fun g=>!(Nat.beq g id))then .arrD E sz n gs cell else .arrD E sz n gs (fun i j=>cu id x (cell i j))
 | .grp n f=>.grp n f
 | .nest E sz n ce m f=>.nest E sz n ce m f
def bO (id:Nat) (x:Fz):List ak→List ak
 | []=>[]
 | B::r=>eR id x B::bO id x r
structure o9:Type 1 where
 sz:Nat
 sh:Bool
 α:Type
 enc:α→List V
 d:α
 l:List α
mutual
def vA (id:Nat):D→List o9
 | .pre i sz sh enc d l=>if Nat.beq i id then [⟨sz,sh,_,enc,d,l⟩]else []
 | .agg cs=>ti id cs
 | .tup cs=>ti id cs
 | .fn _ a b=>ti id a++ti id b
 | _=>[]
def ti (id:Nat):List D→List o9
 | []=>[]
 | c::cs=>vA id c++ti id cs
end
def pb (id:Nat):List (Nat×D)→List o9
 | []=>[]
 | (_,d)::r=>vA id d++pb id r
def yv (id:Nat):ak→List o9
 | .var _ cs=>ti id cs
 | .loop _ _ _ env _ _ _ _ _=>pb id env
 | .frame _ env=>pb id env
 | _=>[]
def kT (id:Nat):List ak→List o9
 | []=>[]
 | B::r=>yv id B++kT id r
def br (id:Nat):List ak→Bool
 | []=>true
 | .arrD _ _ _ gs _::r=>gs.all (fun g=>!(Nat.beq g id))&&br id r
 | _::r=>br id r
def An (sz:Nat) (cells:List (List V)):List o9→Prop
 | []=>True
 | p::r=>(p.sh=true→p.sz=sz∧∃t,cells=p.l.map p.enc++t)∧An sz cells r
theorem tj {sz:Nat} {cells:List (List V)}:∀{ps:List o9} {p:o9},An sz cells ps→p∈ps→p.sh=true→p.sz=sz∧∃t,cells=p.l.map p.enc++t
 | q::r,p,h,hm=>by
  rcases OB.1 hm with hm | hm
  ·subst hm;exact h.1
  ·exact tj h.2 hm
theorem fI {id:Nat} {p:o9}:∀{cs:List D} {j:Nat} {y:D},cs[j]?=some y→p∈vA id y→p∈ti id cs
 | [],_,_,h,_=>by simp at h
 | c::cs,0,y,h,hp=>by simp at h;subst h;exact OS _ hp
 | c::cs,j+1,y,h,hp=>OK _ (fI (by simpa using h) hp)
theorem fJ {id:Nat} {p:o9}:∀{env:List (Nat×D)} {t:Nat} {d:D},(t,d)∈env→p∈vA id d→p∈pb id env
 | (s,e)::r,t,d,h,hp=>by
  rcases OB.1 h with h | h
  ·cases h;exact OS _ hp
  ·exact OK _ (fJ h hp)
theorem jh {id:Nat} {p:o9}:∀{H:List ak} {j:Nat} {B:ak},H[j]?=some B→p∈yv id B→p∈kT id H
 | [],_,_,h,_=>by simp at h
 | c::cs,0,y,h,hp=>by simp at h;subst h;exact OS _ hp
 | c::cs,j+1,y,h,hp=>OK _ (jh (by simpa using h) hp)
theorem oq {id:Nat}:∀{H:List ak} {j:Nat} {E sz n:Nat} {gs:List Nat} {cell:Nat→Nat→D},br id H=true→H[j]?=some (.arrD E sz n gs cell)→gs.all (fun g=>!(Nat.beq g id))=true
 | [],_,_,_,_,_,_,_,h=>by simp at h
 | B::r,0,E,sz,n,gs,cell,hn,h=>by
  simp at h
  subst h
  simp only[br,NK]at hn
  exact hn.1
 | B::r,j+1,E,sz,n,gs,cell,hn,h=>by
  have hr:br id r=true:=by cases B<;>first | exact hn | (simp only[br,NK]at hn;exact hn.2)
  exact oq hr (by simpa using h)
def ot:List D→Option (List V)
 | []=>some []
 | .v x::r=>match ot r with
  | some vs=>some (x::vs)
  | none=>none
 | _::_=>none
theorem BR:∀{cs:List D} {vs:List V},ot cs=some vs→cs=vs.map D.v
 | [],vs,h=>by simp[ot]at h;subst h;rfl
 | .v x::r,vs,h=>by
  unfold ot at h
  split at h
  ·rename_i vs' h'
   cases h
   rw[BR h'];rfl
  ·cases h
 | .nils::_,_,h=>by simp[ot]at h
 | .own _::_,_,h=>by simp[ot]at h
 | .ptr _ _ _ _::_,_,h=>by simp[ot]at h
 | .iptr _ _::_,_,h=>by simp[ot]at h
 | .agg _::_,_,h=>by simp[ot]at h
 | .tup _::_,_,h=>by simp[ot]at h
 | .fn _ _ _::_,_,h=>by simp[ot]at h
 | .yld _::_,_,h=>by simp[ot]at h
 | .capd _::_,_,h=>by simp[ot]at h
 | .junk::_,_,h=>by simp[ot]at h
def mi (id:Nat) (st:St):Option St :=
 match st.heap[id]? with
 | some (.arr _ sz enc d l)=>some ⟨ic id (.sl (.sl sz enc d l)) st.env,(bO id (.sl (.sl sz enc d l)) st.heap).set id .dead⟩
 | some (.var _ cs)=>match ot cs with
  | some vs=>some ⟨ic id (.vr vs) st.env,(bO id (.vr vs) st.heap).set id .dead⟩
  | none=>none
 | some (.mpb _ ag enc d l)=>some ⟨ic id (.sl (.sm ag enc d l)) st.env,(bO id (.sl (.sm ag enc d l)) st.heap).set id .dead⟩
 | some (.grp _ f)=>some ⟨ic id (.gs fun r=>.sl (f r).sz (f r).enc (f r).d (f r).l) st.env,(bO id (.gs fun r=>.sl (f r).sz (f r).enc (f r).d (f r).l) st.heap).set id .dead⟩
 | _=>none
section
variable {P:Program} {S S':Nat→Prop} {μ:Nat→Value} {w:World} {id:Nat} {x:Fz}
def EE (S':Nat→Prop) (μ:Nat→Value) (w:World) (id:Nat):Fz→Prop
 | .sl x=>cz S' w x (μ id)
 | .gs f=>∀(us:Array Value),μ id=.tuple us→∀(r:Nat) (u:Value),us[r]?=some u→cz S' w (f r) u
 | .vr cs=>∀(b I':Nat),aF (μ id)=some b→ai S' μ w (.iptr cs I') (.pointer (some ⟨b,I',none⟩))
 | .nw _=>True
 | .sq x=>cz S' w x (μ id)
def u7 (S':Nat→Prop) (μ:Nat→Value) (w:World) (id:Nat) (x:Fz) (p:o9):Prop:=match x with
 | .nw q=>p.sh=true→∀(g n c:Nat),aF (μ id)=some g→n=p.l.length→n≤c→c≤maxLen→aF (μ q)=some g∨cz S' w (.sl p.sz p.enc p.d p.l) (.slice (some ⟨g,0,none⟩) n c)
 | .sq _=>p.sh=true→∀(g n c:Nat),aF (μ id)=some g→n=p.l.length→n≤c→c≤maxLen→cz S' w (.sl p.sz p.enc p.d p.l) (.slice (some ⟨g,0,none⟩) n c)
 | _=>True
theorem u7.triv {x:Fz} (h:x.keep=false) (p:o9):u7 S' μ w id x p:=by cases x<;>first | trivial | cases h
theorem ie:∀(cs:List D) (j:Nat),(jg id x cs)[j]?=(cs[j]?).map (cu id x)
 | [],j=>by simp[jg]
 | d::r,0=>by simp[jg]
 | d::r,j+1=>by simp[jg,ie r j]
theorem dJ:∀(cs:List D),(jg id x cs).length=cs.length
 | []=>rfl
 | d::r=>by simp[jg,dJ r]
theorem gf:∀(H:List ak) (j:Nat),(bO id x H)[j]?=(H[j]?).map (eR id x)
 | [],j=>by simp[bO]
 | d::r,0=>by simp[bO]
 | d::r,j+1=>by simp[bO,gf r j]
theorem ig:∀{env:List (Nat×D)} {t:Nat} {d:D},(t,d)∈ic id x env→∃e,(t,e)∈env∧d=cu id x e
 | (s,e)::r,t,d,h=>by
  rcases OB.1 h with h | h
  ·cases h;exact⟨e,Oi ..,rfl⟩
  ·obtain⟨e',h1,h2⟩:=ig h
   exact⟨e',Oe _ h1,h2⟩
theorem gN (hx:EE S' μ w id x) (hS:∀b,S b→S' b) {d:D} {u:Value} (h:ai S μ w d u) (hp:∀p,p∈vA id d→u7 S' μ w id x p):ai S' μ w (cu id x d) u:=by
 induction h with
 | v y u h=>exact .v y u (h.stable (fun b hb _=>hS b hb) (fun _ _ _=>rfl) (NN _))
 | nils=>exact .nils
 | own i =>
  unfold cu
  split
  ·rename_i hi
   rw[N2]at hi
   subst hi
   cases x with
   | sl x=>exact .v _ _ hx
   | vr cs=>exact .junk _
   | gs f=>exact .junk _
   | nw q=>exact .junk _
   | sq x=>exact .v _ _ hx
  ·exact .own i
 | ptr i k sz I' b h =>
  unfold cu
  split
  ·rename_i hi
   rw[N2]at hi
   subst hi
   cases x with
   | sl x=>exact .junk _
   | gs f=>exact .junk _
   | nw q=>exact .junk _
   | sq x=>exact .junk _
   | vr cs =>
    unfold Fz.ptr
    simp only
    split
    ·rename_i hk
     rw[N2]at hk
     subst hk
     rw[Nat.zero_mul,OA]
     exact hx b I' h
    ·exact .junk _
  ·exact .ptr i k sz I' b h
 | iptr cs I' b o us h1 h2 h3 h4=>exact .iptr cs I' b o us (hS b h1) h2 h3 (fun j y hy=>(h4 j y hy).stable (fun b hb _=>hS b hb) (fun _ _ _=>rfl) (NN _))
 | agg cs us h1 _ ih =>
  refine .agg _ us (by rw[dJ];exact h1) (fun j y u hy hu=>?_)
  rw[ie]at hy
  cases hc:cs[j]? with
  | none=>rw[hc]at hy;cases hy
  | some e=>rw[hc]at hy;simp at hy;subst hy;exact ih j e u hc hu (fun p h=>hp p (fI hc h))
 | tup cs us h1 _ ih =>
  refine .tup _ us (by rw[dJ];exact h1) (fun j y u hy hu=>?_)
  rw[ie]at hy
  cases hc:cs[j]? with
  | none=>rw[hc]at hy;cases hy
  | some e=>rw[hc]at hy;simp at hy;subst hy;exact ih j e u hc hu (fun p h=>hp p (fI hc h))
 | fn f a b us vs h1 _ h2 _ UR ih2 =>
  refine .fn f _ _ us vs (by rw[dJ];exact h1) (fun j y u hy hu=>?_) (by rw[dJ];exact h2) (fun j y u hy hu=>?_)
  ·rw[ie]at hy
   cases hc:a[j]? with
   | none=>rw[hc]at hy;cases hy
   | some e=>rw[hc]at hy;simp at hy;subst hy;exact UR j e u hc hu (fun p h=>hp p (OS _ (fI hc h)))
  ·rw[ie]at hy
   cases hc:b[j]? with
   | none=>rw[hc]at hy;cases hy
   | some e=>rw[hc]at hy;simp at hy;subst hy;exact ih2 j e u hc hu (fun p h=>hp p (OK _ (fI hc h)))
 | junk u=>exact .junk u
 | yld i l h=>exact .yld i l h
 | capd y p n h=>exact .capd y p n (h.stable (fun b hb _=>hS b hb) (fun _ _ _=>rfl) (NN _))
 | gr g r us u h h1 h2 =>
  unfold cu
  split
  ·rename_i hi
   rw[N2]at hi
   subst hi
   cases x with
   | gs f=>exact .v _ _ (hx us h r u h1)
   | _=>exact .junk _
  ·exact .gr g r us u h h1 h2
 | preA i sz sh enc d l g n c h0 h1 h2 h3 h4 =>
  unfold cu
  split
  ·rename_i hi
   have hp:=hp ⟨sz,sh,_,enc,d,l⟩ (by simp only[vA,hi,Pe];exact O7.2 rfl)
   rw[N2]at hi
   subst hi
   cases x with
   | nw q =>
    rcases hp h0 g n c h1 h2 h3 h4 with h | h
    ·exact .preA q sz sh enc d l g n c h0 h h2 h3 h4
    ·exact .preB q sz sh enc d l _ h
   | sq x=>exact .v _ _ (hp h0 g n c h1 h2 h3 h4)
   | _=>exact .junk _
  ·exact .preA i sz sh enc d l g n c h0 h1 h2 h3 h4
 | preB i sz sh enc d l u h =>
  unfold cu
  split
  ·cases x with
   | nw q=>exact .preB q sz sh enc d l u (h.stable (fun b hb _=>hS b hb) (fun _ _ _=>rfl) (NN _))
   | sq x=>exact .v _ _ (h.stable (fun b hb _=>hS b hb) (fun _ _ _=>rfl) (NN _))
   | _=>exact .junk _
  ·exact .preB i sz sh enc d l u (h.stable (fun b hb _=>hS b hb) (fun _ _ _=>rfl) (NN _))
end
mutual
theorem BS {id k:Nat} {x:Fz} (hk:∀q,x=.nw q→q≠k):∀d:D,D.free k d=true→D.free k (cu id x d)=true
 | .own i,h=>by
  unfold cu
  split
  ·cases x<;>rfl
  ·exact h
 | .ptr i k' sz I',h=>by
  unfold cu
  split
  ·cases x<;>first | rfl | (simp only[Fz.ptr];split<;>rfl)
  ·exact h
 | .gr i r,h=>by
  unfold cu
  split
  ·cases x<;>rfl
  ·exact h
 | .agg cs,h=>by simp only[cu,D.free];exact pc hk cs (by simpa only [D.free]using h)
 | .tup cs,h=>by simp only[cu,D.free];exact pc hk cs (by simpa only [D.free]using h)
 | .fn f a b,h=>by
  simp only[D.free,NK]at h
  simp only[cu,D.free,NK]
  exact⟨pc hk a h.1,pc hk b h.2⟩
 | .pre i sz sh enc d l,h=>by
  unfold cu
  split
  ·cases x<;>first | rfl | (rename_i q;simp only[Fz.pre,D.free,Oc];cases hb:Nat.beq q k with | false=>rfl | true=>exact absurd (Nat.eq_of_beq_eq_true hb) (hk q rfl))
  ·exact h
 | .yld i,h=>h
 | .v _,_=>rfl
 | .nils,_=>rfl
 | .iptr _ _,_=>rfl
 | .capd _,_=>rfl
 | .junk,_=>rfl
theorem pc {id k:Nat} {x:Fz} (hk:∀q,x=.nw q→q≠k):∀cs:List D,D.freeL k cs=true→D.freeL k (jg id x cs)=true
 | [],_=>rfl
 | c::cs,h=>by
  simp only[D.freeL,NK]at h
  simp only[jg,D.freeL,NK]
  exact⟨BS hk c h.1,pc hk cs h.2⟩
end
theorem qA {id:Nat} {x:Fz} (B:ak):(eR id x B).live=B.live:=by cases B<;>first | rfl | (simp only[eR];split<;>rfl)
theorem BT {id:Nat} {x:Fz} (B:ak):(eR id x B).isRo=B.isRo:=by cases B<;>first | rfl | (simp only[eR];split<;>rfl)
theorem vB {id:Nat} {x:Fz} {B:ak} (h:B.isRo=true):eR id x B=B:=by cases B<;>first | rfl | cases h
section
variable {C:jB} {st:St}
theorem aU.freezeX {S:Nat→Prop} {μ:Nat→Value} {a:Act} {w:World} (hR:aU C S μ st a w) {id:Nat} {Z:ak} {z:Fz} (G':st.heap[id]?=some Z) (hZ:Z.live=true) (hx:EE (fun b=>S b∨bu (μ id) b) μ w id z)
  (hn:z.keep=true→br id st.heap=true) (hp:∀p,p∈pb id st.env∨p∈kT id st.heap→u7 (fun b=>S b∨bu (μ id) b) μ w id z p) :
  aU C (fun b=>S b∨bu (μ id) b) μ ⟨ic id z st.env,(bO id z st.heap).set id .dead⟩ a w:=by
  have hB:=hR.heap.box id _ G'
  have Qv:∀b,bu (μ id) b→C.W.heap.size≤b:=fun b hb=>hR.may id _ b G' hZ hb
  have Ql:∀b,bu (μ id) b→b<w.heap.size:=hB.lt hZ
  let S':Nat→Prop:=fun b=>S b∨bu (μ id) b
  have Qh:id<st.heap.length:=(NL.1 G').1
  have QN:∀(i:Nat) (A:ak),((bO id z st.heap).set id .dead)[i]?=some A→A.live=true→i≠id∧∃B,st.heap[i]?=some B∧A=eR id z B∧B.live=true:=by
   intro i A hA hl
   by_cases hi:i=id
   ·subst hi
    rw[N0 (by
     have:(bO i z st.heap)[i]?=(st.heap[i]?).map _:=gf st.heap i
     rw[G']at this
     exact(NL.1 this).1)]at hA
    cases hA
    cases hl
   ·rw[NZ (fun e=>hi e.symm),gf]at hA
    cases hc:st.heap[i]? with
    | none=>rw[hc]at hA;cases hA
    | some B =>
     rw[hc]at hA
     simp at hA
     refine⟨hi,B,rfl,hA.symm,?_⟩
     subst hA
     rwa [qA]at hl
  have Wm:∀(i:Nat) (A:ak),((bO id z st.heap).set id .dead)[i]?=some A→A.isRo=true→i≠id∧st.heap[i]?=some A:=by
   intro i A hA hl
   by_cases hi:i=id
   ·subst hi
    rw[N0 (by
     have:(bO i z st.heap)[i]?=(st.heap[i]?).map _:=gf st.heap i
     rw[G']at this
     exact(NL.1 this).1)]at hA
    cases hA
    cases hl
   ·rw[NZ (fun e=>hi e.symm),gf]at hA
    cases hc:st.heap[i]? with
    | none=>rw[hc]at hA;cases hA
    | some B =>
     rw[hc]at hA
     simp at hA
     refine⟨hi,?_⟩
     subst hA
     rw[BT]at hl
     rw[vB hl]
  show aU C S' μ _ a w
  refine⟨hR.os,hR.tape,hR.output,hR.size,hR.old,fun b hb=>.inl (hR.mono b hb),?_,?_,?_,⟨?_,?_,?_⟩,?_,?_,hR.tsize,?_⟩
  ·rintro b (hb | hb)
   ·exact hR.new b hb
   ·exact .inr (Qv b hb)
  ·rintro b (hb | hb)
   ·exact hR.slt b hb
   ·exact Ql b hb
  ·intro t e hm
   obtain⟨e',h1,rfl⟩:=ig hm
   obtain⟨q1,q2⟩:=hR.env t e' h1
   exact⟨q1,gN hx (fun b hb=>.inl hb) q2 (fun p h=>hp p (.inl (fJ h1 h)))⟩
  ·intro i A hA
   rcases A.three with rfl | hl | hl
   ·trivial
   rotate_left
   ·obtain⟨hi,QQ⟩:=Wm i A hA hl
    exact(hR.heap.box i A QQ).stable (fun b hb _=>.inl hb) (fun _ _ _=>rfl) (NN _) (fun _ _=>rfl) (fun _ _=>rfl) 
   ·obtain⟨hi,B,QL,rfl,UQ⟩:=QN i A hA hl
    have hb:=hR.heap.box i B QL
    cases B with
    | dead=>cases UQ
    | ro=>cases UQ
    | arr E2 Us RS d2 l2 =>
     exact hb.stable (fun b hb _=>.inl hb) (fun _ _ _=>rfl) (NN _) (fun _ _=>rfl) (fun _ _=>rfl)
    | mpb t2 ag2 RS d2 l2 =>
     exact hb.stable (fun b hb _=>.inl hb) (fun _ _ _=>rfl) (NN _) (fun _ _=>rfl) (fun _ _=>rfl)
    | nest E2 Us n ce m f=>exact hb.stable (fun b hb _=>.inl hb) (fun _ _ _=>rfl) (NN _) (fun _ _=>rfl) (fun _ _=>rfl)
    | grp n f=>exact hb.stable (fun b hb _=>.inl hb) (fun _ _ _=>rfl) (NN _) (fun _ _=>rfl) (fun _ _=>rfl)
    | arrD E2 Us n gs cell =>
     simp only[eR]
     split
     ·exact hb.stable (fun b hb _=>.inl hb) (fun _ _ _=>rfl) (NN _) (fun _ _=>rfl) (fun _ _=>rfl)
     ·rename_i hgs
      have hkf:z.keep=false:=by
       cases hk:z.keep with
       | false=>rfl
       | true=>exact absurd (oq (hn hk) QL) hgs
      obtain⟨h0,xs,h1,h3⟩:=hb
      refine⟨fun i j k hi hj hk=>BS (fun q e=>by subst e;cases hkf) _ (h0 i j k hi hj hk),xs,h1,fun i j hi hj=>?_⟩
      obtain⟨v,hv,ho,hr⟩:=h3 i j hi hj
      exact⟨v,hv,ho,gN hx (fun b hb=>.inl hb) hr (fun p _=>u7.triv hkf p)⟩
    | var T cs =>
     obtain⟨b,vs,e,q1,q2,q3⟩:=hb
     refine⟨b,vs,e,q1,by rw[dJ];exact q2,fun j y z hy hz=>?_⟩
     rw[ie]at hy
     cases hc:cs[j]? with
     | none=>rw[hc]at hy;cases hy
     | some y'=>rw[hc]at hy;simp at hy;subst hy;exact gN hx (fun b hb=>.inl hb) (q3 j y' z hc hz) (fun p h=>hp p (.inr (jh QL (fI hc h))))
    | loop l tm nt env ps q' bd s pe =>
     obtain⟨r,h0,h1,h2,h3,h4,h5,h6,h7,h8,h9⟩:=hb
     refine⟨r,h0,h1,h2,h3,h4,h5,h6,h7,h8,fun t e hm=>?_⟩
     obtain⟨e',k1,rfl⟩:=ig hm
     exact⟨(h9 t e' k1).1,gN hx (fun b hb=>.inl hb) (h9 t e' k1).2 (fun p h=>hp p (.inr (jh QL (fJ k1 h))))⟩
    | frame tm env =>
     obtain⟨h1,h9⟩:=hb
     refine⟨h1,fun t e hm=>?_⟩
     obtain⟨e',k1,rfl⟩:=ig hm
     exact⟨(h9 t e' k1).1,gN hx (fun b hb=>.inl hb) (h9 t e' k1).2 (fun p h=>hp p (.inr (jh QL (fJ k1 h))))⟩
  ·intro i j A A' b hA QQ hl hl'
   obtain⟨_,B,Wn,_,UQ⟩:=QN i A hA hl
   obtain⟨_,B',hB2,_,hBl'⟩:=QN j A' QQ hl'
   exact hR.heap.apart i j B B' b Wn hB2 UQ hBl'
  ·intro i A b hA hl hb hs
   obtain⟨hi,B,Wn,_,UQ⟩:=QN i A hA hl
   rcases hs with hs | hs
   ·exact hR.heap.notS i B b Wn UQ hb hs
   ·exact hi (hR.heap.apart i id B _ b Wn G' UQ hZ hb hs)
  ·intro i A b hA hl hb
   obtain⟨hi,B,Wn,_,UQ⟩:=QN i A hA hl
   exact hR.may i B b Wn UQ hb
  ·obtain⟨mk,d1,d2,d3⟩:=hR.defers
   refine⟨mk,d1,d2,fun b hb=>?_⟩
   obtain⟨q1,q2,q3,q4⟩:=d3 b hb
   refine⟨q1,q2,fun hs=>?_,fun i A hA hl=>?_⟩
   ·rcases hs with hs | hs
    ·exact q3 hs
    ·exact q4 id _ G' hZ hs
   ·obtain⟨hi,B,Wn,_,UQ⟩:=QN i A hA hl
    exact q4 i B Wn UQ
  ·intro i A b hA hl
   obtain⟨hi,QQ⟩:=Wm i A hA hl
   exact hR.ro i A b QQ hl
theorem aU.freezeZ {S:Nat→Prop} {μ:Nat→Value} {a:Act} {w:World} (hR:aU C S μ st a w) {id:Nat} {Z:ak} {z:Fz} (G':st.heap[id]?=some Z) (hZ:Z.live=true) (hx:EE (fun b=>S b∨bu (μ id) b) μ w id z) (hk:z.keep=false:=by rfl) :
  ∃S',aU C S' μ ⟨ic id z st.env,(bO id z st.heap).set id .dead⟩ a w:=⟨_,hR.freezeX G' hZ hx (fun e=>by rw[hk]at e;cases e) (fun p _=>u7.triv hk p)⟩
theorem aU.freeze {S:Nat→Prop} {μ:Nat→Value} {a:Act} {w:World} (hR:aU C S μ st a w) {id:Nat} {J':St} (h:mi id st=some J'):∃S',aU C S' μ J' a w:=by
 unfold mi at h
 split at h
 ·rename_i E sz α enc d l G'
  simp only[NW]at h
  subst h
  exact hR.freezeZ G' rfl (dh (hR.heap.box id _ G') (fun b hb=>.inl hb) (fun b hb=>.inr hb) hR.slt)
 ·rename_i T cs G'
  split at h
  ·rename_i vs Rr
   simp only[NW]at h
   subst h
   have hc:=BR Rr
   subst hc
   refine hR.freezeZ G' rfl (fun b I' hb=>?_)
   have hB:=hR.heap.box id _ G'
   have Ql:b<w.heap.size:=hB.lt rfl b (.inl hb)
   have Rj:=hB.var_cells hb
   have hv:∀(j:Nat) (y:V),vs[j]?=some y→w.cell? ⟨b,0+j,none⟩=some ((w.cell? ⟨b,0+j,none⟩).getD undef)∧cz S w y ((w.cell? ⟨b,0+j,none⟩).getD undef):=by
    intro j y hy
    obtain⟨u,h1,h2⟩:=Rj j (.v y) (by rw[N4,hy];rfl)
    rw[h1]
    exact⟨rfl,bg h2⟩
   have:=ai.iptr (S:=fun b=>S b∨bu (μ id) b) (μ:=μ) (w:=w) vs I' b 0 (fun j=>(w.cell? ⟨b,0+j,none⟩).getD undef) (.inr (.inl hb)) Ql (fun j y hy=>(hv j y hy).1) (fun j y hy=>(hv j y hy).2.stable (fun b hb _=>.inl hb) (fun _ _ _=>rfl) (NN _))
   rwa [OA]at this
  ·cases h
 ·rename_i t ag α enc d l G'
  simp only[NW]at h
  subst h
  exact hR.freezeZ G' rfl (G2 (hR.heap.box id _ G') (fun b hb=>.inl hb) (fun b hb=>.inr hb))
 ·rename_i n f G'
  simp only[NW]at h
  subst h
  refine hR.freezeZ G' rfl (fun us QF r u hu=>?_)
  obtain⟨RL,e,_,h2,_⟩:=hR.heap.box id _ G'
  rw[QF]at e
  cases e
  exact dh (μ:=μ) (E:=(f r).E) (h2 r u hu).2 (fun b hb=>.inl hb) (fun b hb=>.inr (by
   rcases hb with hb | ⟨vs,e,k,x,hk,hx⟩
   ·exact .inr ⟨us,QF,r,u,hu,hb⟩
   ·subst e;have:=(h2 r _ hu).1;cases this)) hR.slt
 ·cases h
mutual
theorem qB {id:Nat} {x:Fz}:∀d:D,D.free id d=true→cu id x d=d
 | .own i,h=>by
  simp only[D.free,Oc]at h
  simp only[cu,h,OC,Pf]
 | .ptr i k sz I',h=>by
  simp only[D.free,Oc]at h
  simp only[cu,h,OC,Pf]
 | .agg cs,h=>by simp only[D.free]at h;simp only[cu,gY cs h]
 | .tup cs,h=>by simp only[D.free]at h;simp only[cu,gY cs h]
 | .fn f a b,h=>by simp only[D.free,NK]at h;simp only[cu,gY a h.1,gY b h.2]
 | .v _,_=>rfl
 | .nils,_=>rfl
 | .iptr _ _,_=>rfl
 | .yld _,_=>rfl
 | .capd _,_=>rfl
 | .gr i r,h=>by
  simp only[D.free,Oc]at h
  simp only[cu,h,OC,Pf]
 | .pre i sz sh enc d l,h=>by
  simp only[D.free,Oc]at h
  simp only[cu,h,OC,Pf]
 | .junk,_=>rfl
theorem gY {id:Nat} {x:Fz}:∀cs:List D,D.freeL id cs=true→jg id x cs=cs
 | [],_=>rfl
 | c::cs,h=>by
  simp only[D.freeL,NK]at h
  simp only[jg,qB c h.1,gY cs h.2]
end
theorem mj {id:Nat} {x:Fz}:∀{env:List (Nat×D)},bv id env=true→ic id x env=env
 | [],_=>rfl
 | (t,d)::r,h=>by
  simp only[bv,NK]at h
  simp only[ic,qB d h.1,mj h.2]
theorem vC {id:Nat} {x:Fz} (B:ak) (h:ak.free id B=true):eR id x B=B:=by
 cases B with
 | var T cs=>simp only[ak.free]at h;simp only[eR,gY cs h]
 | loop l tm nt env ps a b s p=>simp only[ak.free]at h;simp only[eR,mj h]
 | frame tm env=>simp only[ak.free]at h;simp only[eR,mj h]
 | arrD E sz n gs cell=>simp only[ak.free]at h;simp only[eR,h,Pe]
 | _=>rfl
theorem vD {id:Nat} {x:Fz}:∀{H:List ak},aY id H=true→bO id x H=H
 | [],_=>rfl
 | B::r,h=>by
  simp only[aY,NK]at h
  simp only[bO,vC B h.1,vD h.2]
theorem kU {id:Nat} {x:Fz}:∀(A B:List ak),bO id x (A++B)=bO id x A++bO id x B
 | [],B=>rfl
 | a::A,B=>by simp only[Pu,bO,kU A B]
theorem kV {id:Nat} {x:Fz}:∀(H:List ak),(bO id x H).length=H.length
 | []=>rfl
 | B::r=>by simp[bO,kV r]
end
section
variable {C:jB} {S:Nat→Prop} {μ μ':Nat→Value} {st:St} {a:Act} {w:World}
theorem aU.retell (h:aU C S μ st a w) {Sq:List (Nat×D)} {H':List ak} (T4:∀t d,(t,d)∈Sq→∃e,(t,e)∈st.env∧∀u,ai S μ w e u→ai S μ' w d u)
  (G':∀(i:Nat) (B:ak),H'[i]?=some B→aG S μ' w (μ' i) B)
  (P9:∀(i:Nat) (B:ak) (b:Nat),H'[i]?=some B→B.live=true→bu (μ' i) b→∃(j:Nat) (A:ak),st.heap[j]?=some A∧A.live=true∧bu (μ j) b)
  (hap:∀(i j:Nat) (A B:ak) (b:Nat),H'[i]?=some A→H'[j]?=some B→A.live=true→B.live=true→bu (μ' i) b→bu (μ' j) b→i=j)
  (Rc:∀(i:Nat) (B:ak),H'[i]?=some B→B.isRo=true→st.heap[i]?=some B∧μ' i=μ i):aU C S μ' ⟨Sq,H'⟩ a w:=by
 refine⟨h.os,h.tape,h.output,h.size,h.old,h.mono,h.new,h.slt,fun t d hm=>?_,⟨G',hap,fun i A b hA la hb=>?_⟩,fun i A b hA la hb=>?_,?_,h.tsize,fun i A b hA la hb=>?_⟩
 ·obtain⟨e,h1,h2⟩:=T4 t d hm
  obtain⟨q1,q2⟩:=h.env t e h1
  exact⟨q1,h2 _ q2⟩
 ·obtain⟨j,B,h1,h2,h3⟩:=P9 i A b hA la hb
  exact h.heap.notS j B b h1 h2 h3
 ·obtain⟨j,B,h1,h2,h3⟩:=P9 i A b hA la hb
  exact h.may j B b h1 h2 h3
 ·obtain⟨mk,d1,d2,d3⟩:=h.defers
  refine⟨mk,d1,d2,fun b hb=>?_⟩
  obtain⟨q1,q2,q3,q4⟩:=d3 b hb
  refine⟨q1,q2,q3,fun i A hA hl TJ=>?_⟩
  obtain⟨j,B,h1,h2,h3⟩:=P9 i A b hA hl TJ
  exact q4 j B h1 h2 h3
 ·obtain⟨h1,h2⟩:=Rc i A hA la
  rw[h2]at hb
  exact h.ro i A b h1 la hb
theorem aU.ghost {S:Nat→Prop} {μ:Nat→Value} {st:St} {a:Act} {w:World} (h:aU C S μ st a w) {q:Nat} (u:Value) (hq:∀A,st.heap[q]?=some A→A=.dead) (he:bv q st.env=true) (hf:aY q st.heap=true):aU C S (aO μ q u) st a w:=by
 have hs:∀(d:D) (v:Value),D.free q d=true→ai S μ w d v→ai S (aO μ q u) w d v:=fun d v hd hr=>hr.stable (fun _ h _=>h) (fun _ _ _=>rfl) (NN _) (fun k hk=>aA _ _ (fun e=>by rw[e,hd]at hk;cases hk))
 have QI:∀(i:Nat) (B:ak),st.heap[i]?=some B→B≠.dead→i≠q:=fun i B hB hd e=>by subst e;exact hd (hq B hB)
 have hl:∀{B:ak},B.live=true→B≠.dead:=fun h e=>by subst e;cases h
 refine h.retell (fun t d hm=>⟨d,hm,fun v hv=>hs d v (bR he hm) hv⟩) (fun i B hB=>?_) (fun i B b hB hl' hb=>⟨i,B,hB,hl',by rwa [aA _ _ (QI i B hB (hl hl'))]at hb⟩) (fun i j A B b hA hB la lb hi hj=>?_) (fun i B hB hr=>⟨hB,aA _ _ (QI i B hB (fun e=>by subst e;cases hr))⟩)
 ·by_cases hd:B=.dead
  ·subst hd;trivial
  ·rw[aA _ _ (QI i B hB hd)]
   exact(h.heap.box i B hB).stable (fun _ h _=>h) (fun _ _ _=>rfl) (NN _) (fun k hk=>aA _ _ (fun e=>by rw[e,bS hf hB]at hk;cases hk)) (fun _ _=>rfl)
 ·rw[aA _ _ (QI i A hA (hl la))]at hi
  rw[aA _ _ (QI j B hB (hl lb))]at hj
  exact h.heap.apart i j A B b hA hB la lb hi hj
theorem G4 {S:Nat→Prop} {μ:Nat→Value} {w:World} {id:Nat} {x:Fz} (hx:EE S μ w id x) {B:ak} {u:Value} (h:aG S μ w u B) (hp:∀p,p∈yv id B→u7 S μ w id x p) (ha:∀(E sz n:Nat) (gs:List Nat) (cell:Nat→Nat→D),B=.arrD E sz n gs cell→gs.all (fun g=>!(Nat.beq g id))=true):aG S μ w u (eR id x B):=by
 cases B with
 | dead=>exact h
 | ro=>exact h
 | arr=>exact h
 | mpb=>exact h
 | nest=>exact h
 | grp=>exact h
 | arrD E sz n gs cell=>rw[eR,NT (ha E sz n gs cell rfl)];exact h
 | var T cs =>
  obtain⟨b,vs,e,q1,q2,q3⟩:=h
  refine⟨b,vs,e,q1,by rw[dJ];exact q2,fun j y z hy hz=>?_⟩
  rw[ie]at hy
  cases hc:cs[j]? with
  | none=>rw[hc]at hy;cases hy
  | some y'=>rw[hc]at hy;simp at hy;subst hy;exact gN hx (fun b hb=>hb) (q3 j y' z hc hz) (fun p h=>hp p (fI hc h))
 | loop l tm nt env ps q' bd s pe =>
  obtain⟨r,h0,h1,h2,h3,h4,h5,h6,h7,h8,h9⟩:=h
  refine⟨r,h0,h1,h2,h3,h4,h5,h6,h7,h8,fun t e hm=>?_⟩
  obtain⟨e',k1,rfl⟩:=ig hm
  exact⟨(h9 t e' k1).1,gN hx (fun b hb=>hb) (h9 t e' k1).2 (fun p h=>hp p (fJ k1 h))⟩
 | frame tm env =>
  obtain⟨h1,h9⟩:=h
  refine⟨h1,fun t e hm=>?_⟩
  obtain⟨e',k1,rfl⟩:=ig hm
  exact⟨(h9 t e' k1).1,gN hx (fun b hb=>hb) (h9 t e' k1).2 (fun p h=>hp p (fJ k1 h))⟩
theorem aU.recast {S:Nat→Prop} {μ:Nat→Value} {st:St} {a:Act} {w:World} (h:aU C S μ st a w) {id:Nat} {x:Fz} (hx:EE S μ w id x) (hn:br id st.heap=true) (hp:∀p,p∈pb id st.env∨p∈kT id st.heap→u7 S μ w id x p):aU C S μ ⟨ic id x st.env,bO id x st.heap⟩ a w:=by
 have hg:∀(i:Nat) (A:ak),(bO id x st.heap)[i]?=some A→∃B,st.heap[i]?=some B∧A=eR id x B:=by
  intro i A hA
  rw[gf]at hA
  cases hc:st.heap[i]? with
  | none=>rw[hc]at hA;cases hA
  | some B=>rw[hc]at hA;simp at hA;exact⟨B,rfl,hA.symm⟩
 refine h.retell (fun t d hm=>?_) (fun i A hA=>?_) (fun i A b hA hl hb=>?_) (fun i j A A' b hA QQ la lb hi hj=>?_) (fun i A hA hl=>?_)
 ·obtain⟨e,h1,rfl⟩:=ig hm
  exact⟨e,h1,fun u hu=>gN hx (fun b hb=>hb) hu (fun p h=>hp p (.inl (fJ h1 h)))⟩
 ·obtain⟨B,hB,rfl⟩:=hg i A hA
  exact G4 hx (h.heap.box i B hB) (fun p h=>hp p (.inr (jh hB h))) (fun E sz n gs cell e=>oq hn (e ▸ hB))
 ·obtain⟨B,hB,rfl⟩:=hg i A hA
  rw[qA]at hl
  exact⟨i,B,hB,hl,hb⟩
 ·obtain⟨B,hB,rfl⟩:=hg i A hA
  obtain⟨B',QL,rfl⟩:=hg j A' QQ
  rw[qA]at la lb
  exact h.heap.apart i j B B' b hB QL la lb hi hj
 ·obtain⟨B,hB,rfl⟩:=hg i A hA
  rw[BT]at hl
  rw[vB hl]
  exact⟨hB,rfl⟩
mutual
theorem vE {id q:Nat}:∀d:D,D.free q d=true→cu q (.nw id) (cu id (.nw q) d)=cu id (.nw id) d
 | .own i,h=>by
  simp only[D.free,Oc]at h
  by_cases e:Nat.beq i id=true
  ·simp only[cu,e,Pe,Fz.own]
  ·simp only[cu,e,h,OC,Pf]
 | .ptr i k sz I',h=>by
  simp only[D.free,Oc]at h
  by_cases e:Nat.beq i id=true
  ·simp only[cu,e,Pe,Fz.ptr]
  ·simp only[cu,e,h,OC,Pf]
 | .gr i r,h=>by
  simp only[D.free,Oc]at h
  by_cases e:Nat.beq i id=true
  ·simp only[cu,e,Pe,Fz.gr]
  ·simp only[cu,e,h,OC,Pf]
 | .pre i sz sh enc d l,h=>by
  simp only[D.free,Oc]at h
  by_cases e:Nat.beq i id=true
  ·simp only[cu,e,Pe,Fz.pre,PE]
  ·simp only[cu,e,h,OC,Pf]
 | .agg cs,h=>by simp only[D.free]at h;simp only[cu,gZ cs h]
 | .tup cs,h=>by simp only[D.free]at h;simp only[cu,gZ cs h]
 | .fn f a b,h=>by simp only[D.free,NK]at h;simp only[cu,gZ a h.1,gZ b h.2]
 | .yld i,_=>rfl
 | .v _,_=>rfl
 | .nils,_=>rfl
 | .iptr _ _,_=>rfl
 | .capd _,_=>rfl
 | .junk,_=>rfl
theorem gZ {id q:Nat}:∀cs:List D,D.freeL q cs=true→jg q (.nw id) (jg id (.nw q) cs)=jg id (.nw id) cs
 | [],_=>rfl
 | c::cs,h=>by
  simp only[D.freeL,NK]at h
  simp only[jg,vE c h.1,gZ cs h.2]
end
theorem ji {id q:Nat}:∀{env:List (Nat×D)},bv q env=true→ic q (.nw id) (ic id (.nw q) env)=ic id (.nw id) env
 | [],_=>rfl
 | (t,d)::r,h=>by
  simp only[bv,NK]at h
  simp only[ic,vE d h.1,ji h.2]
theorem Dr {id q:Nat} (B:ak) (h:ak.free q B=true) (ha:br id [B]=true):eR q (.nw id) (eR id (.nw q) B)=eR id (.nw id) B:=by
 cases B with
 | var T cs=>simp only[ak.free]at h;simp only[eR,gZ cs h]
 | loop l tm nt env ps a b s p=>simp only[ak.free]at h;simp only[eR,ji h]
 | frame tm env=>simp only[ak.free]at h;simp only[eR,ji h]
 | arrD E sz n gs cell =>
  simp only[ak.free]at h
  simp only[br,PD]at ha
  simp only[eR,h,ha,Pe]
 | _=>rfl
theorem vG {id q:Nat}:∀{H:List ak},aY q H=true→br id H=true→bO q (.nw id) (bO id (.nw q) H)=bO id (.nw id) H
 | [],_,_=>rfl
 | B::r,h,ha=>by
  simp only[aY,NK]at h
  have h1:br id [B]=true∧br id r=true:=by cases B<;>first | exact⟨rfl,ha⟩ | (simp only[br,NK]at ha;exact⟨by simp only[br,PD];exact ha.1,ha.2⟩)
  simp only[bO,Dr B h.1 h1.1,vG h.2 h1.2]
theorem yw {id:Nat} {x:Fz} {B:ak} (hB:eR id x B=B):∀{H:List ak} {k:Nat},bO id x (H.set k B)=(bO id x H).set k B
 | [],_=>rfl
 | A::r,0=>by simp only[List.set_cons_zero,bO,hB]
 | A::r,k+1=>by simp only[List.set_cons_succ,bO,yw hB]
theorem tn {id:Nat}:∀{H:List ak} {B:ak},br id H=true→B=.dead→br id (H++[B])=true
 | [],B,_,e=>by subst e;rfl
 | A::r,B,h,e=>by
  have h1:∀x:List ak,br id (A::r)=true→br id r=true∧(br id x=true→br id (A::x)=true):=fun x ha=>by
   cases A<;>first | exact⟨ha,fun h=>h⟩ | (simp only[br,NK]at ha ⊢;exact⟨ha.2,fun h=>⟨ha.1,h⟩⟩)
  exact(h1 _ h).2 (tn (h1 r h).1 e)
theorem vH {id:Nat} {p:o9}:∀{H:List ak} {B:ak},p∈kT id (H++[B])→p∈kT id H∨p∈yv id B
 | [],B,h=>by simp only[OU,kT,Om]at h;exact .inr h
 | A::r,B,h=>by
  simp only[Pu,kT,OZ]at h
  rcases h with h | h
  ·exact .inl (OS _ h)
  ·rcases vH h with h | h
   ·exact .inl (OK _ h)
   ·exact .inr h
theorem qC {id:Nat}:∀{H:List ak} {B:ak},aY id H=true→ak.free id B=true→aY id (H++[B])=true
 | [],B,_,h=>by simp only[OU,aY,h,PD]
 | A::r,B,h,hb=>by
  simp only[aY,NK]at h
  simp only[Pu,aY,NK]
  exact⟨h.1,qC h.2 hb⟩
theorem vI {id:Nat} {B:ak}:∀{H:List ak} {k:Nat},aY id H=true→ak.free id B=true→aY id (H.set k B)=true
 | [],_,_,_=>rfl
 | A::r,0,h,hb=>by
  simp only[aY,NK]at h
  simp only[List.set_cons_zero,aY,NK]
  exact⟨hb,h.2⟩
 | A::r,k+1,h,hb=>by
  simp only[aY,NK]at h
  simp only[List.set_cons_succ,aY,NK]
  exact⟨h.1,vI h.2 hb⟩
theorem kW {id:Nat}:∀{H:List ak},aY id H=true→br id H=true
 | [],_=>rfl
 | A::r,h=>by
  simp only[aY,NK]at h
  cases A<;>first | exact kW (H:=r) h.2 | (simp only[br,NK];exact⟨by simpa only [ak.free]using h.1,kW (H:=r) h.2⟩)
theorem ou {id k:Nat} {x:Fz}:∀{H:List ak},br id H=true→br id (bO k x H)=true
 | [],_=>rfl
 | A::r,h=>by
  cases A<;>first | exact ou (H:=r) h | (simp only[br,NK]at h;simp only[bO,eR];split<;>(simp only[br,NK];exact⟨h.1,ou h.2⟩))
theorem ow {id:Nat} {B:ak}:∀{H:List ak} {k:Nat},br id H=true→(∀(E sz n:Nat) (gs:List Nat) (cell:Nat→Nat→D),B≠.arrD E sz n gs cell)→br id (H.set k B)=true
 | [],_,_,_=>rfl
 | A::r,0,h,hb=>by
  have h1:br id r=true:=by cases A<;>first | exact h | (simp only[br,NK]at h;exact h.2)
  simp only[List.set_cons_zero]
  cases B<;>first | exact h1 | exact absurd rfl (hb _ _ _ _ _)
 | A::r,k+1,h,hb=>by
  simp only[List.set_cons_succ]
  cases A<;>first | exact ow (H:=r) h hb | (simp only[br,NK]at h ⊢;exact⟨h.1,ow h.2 hb⟩)
end
def Ev (C:jB) (c:Code) (Q:Exit→St→Prop) (st:St):Prop :=
 ∀(a:Act) (w:World) (S:Nat→Prop) (μ:Nat→Value),aU C S μ st a w→c.wpIn (kL C.rd) 0 C.P (fun e a' w'=>∃J' S' μ',Q e J'∧aU C S' μ' J' a' w') a w
def Ds (P:Program) (st:St):ResultVar→R1
 | .tmp t=>(nC st.env t,True)
 | .cell a T=>match nC st.env a with
  | .ptr id i sz I'=>BG P T st.heap (.ptr id i sz I')
  | _=>aM
def resL (P:Program) (st:St):List ResultVar→List D×Prop
 | []=>([],True)
 | r::rs=>match Ds P st r with
  | (d,p)=>match resL P st rs with
   | (ds,q)=>(d::ds,p∧q)
def Dt (P:Program) (rs:List ResultVar) (st:St):R1 :=
 match resL P st rs with
 | ([d],p)=>(d,p)
 | (ds,p)=>(.tup ds,p)
def gg (P:Program) (fn:Func) (st:St):Prop:=(Dt P fn.results.toList st).2
def gO (P:Program) (fn:Func) (st:St):D:=(Dt P fn.results.toList st).1
section
variable {C:jB} {S:Nat→Prop} {μ:Nat→Value} {st:St} {a:Act} {w:World}
theorem aU.resL (h:aU C S μ st a w):∀(rs:List ResultVar) (ds:List D) (p:Prop),Proofs.Ytcejcppjedhicaa.resL C.P st rs=(ds,p)→p →
  ∃us:List Value,(rs.mapM (fun r=>(match r with
   | .tmp t=>pure (a.tmps.getD t undef)
   | .cell x t=>do loadVar t (← asAddr (a.tmps.getD x undef)):Sem Value))).run C.P w=.ok us w∧us.length=ds.length∧∀(j:Nat) (y:D) (u:Value),ds[j]?=some y→us[j]?=some u→ai S μ w y u:=by
 intro rs
 induction rs with
 | nil =>
  intro ds p hp _
  simp only[Proofs.Ytcejcppjedhicaa.resL,NS]at hp
  obtain⟨rfl,_⟩:=hp
  exact⟨[],rfl,rfl,fun j y u hy=>by simp at hy⟩
 | cons r rs ih =>
  intro ds p hp D'
  unfold Proofs.Ytcejcppjedhicaa.resL at hp
  generalize h1:Ds C.P st r=q1 at hp
  obtain⟨d1,p1⟩:=q1
  simp only at hp
  generalize h2:Proofs.Ytcejcppjedhicaa.resL C.P st rs=q2 at hp
  obtain⟨ds2,p2⟩:=q2
  simp only[NS]at hp
  obtain⟨rfl,rfl⟩:=hp
  obtain⟨us,e1,e2,e3⟩:=ih ds2 p2 h2 D'.2
  have Sf:∃u,((match r with
   | .tmp t=>pure (a.tmps.getD t undef)
   | .cell x t=>do loadVar t (← asAddr (a.tmps.getD x undef)):Sem Value)).run C.P w=.ok u w∧ai S μ w d1 u:=by
   cases r with
   | tmp t =>
    simp only[Ds,NS]at h1
    obtain⟨rfl,_⟩:=h1
    exact⟨_,rfl,h.eval (.tmp t)⟩
   | cell x T =>
    unfold Ds at h1
    simp only at h1
    split at h1
    ·rename_i id i sz I' hl
     have hv:=h.eval (.tmp x)
     simp only[dW]at hv
     rw[hl]at hv
     obtain⟨u,r1,r2⟩:=rH h.heap hv h1 D'.1
     obtain⟨b,_,hu⟩:=md hv
     refine⟨u,?_,r2⟩
     have he:a.tmps.getD x undef=.pointer (some ⟨b,i*sz+I',none⟩):=hu
     rw[hu]at r1
     simp only[he]
     simp only[Instr.loadAt,Instr.sureAddr,NP,N6,NO]at r1
     simp only[asAddr,NP,N6,NO]
     exact r1
    ·cases h1;exact D'.1.elim
  obtain⟨u,f1,f2⟩:=Sf
  refine⟨u::us,?_,by simp[e2],fun j y v hy hv=>?_⟩
  ·simp only[List.mapM_cons,NP,f1,NO,e1,N6]
  ·cases j with
   | zero=>simp at hy hv;subst hy hv;exact f2
   | succ j=>exact e3 j y v (by simpa using hy) (by simpa using hv)
theorem aU.results (h:aU C S μ st a w) {fn:Func} (D':gg C.P fn st):∃u,(results fn a.tmps).run C.P w=.ok u w∧ai S μ w (gO C.P fn st) u:=by
 unfold gg at D'
 unfold gO
 generalize hq:Proofs.Ytcejcppjedhicaa.resL C.P st fn.results.toList=q at D' ⊢
 obtain⟨ds,p⟩:=q
 have hp:p:=by
  unfold Dt at D'
  rw[hq]at D'
  split at D'<;>rename_i he<;>cases he<;>exact D'
 obtain⟨us,e1,e2,e3⟩:=h.resL _ _ _ hq hp
 have hm:(fn.results.mapM (fun r=>(match r with
   | .tmp t=>pure (a.tmps.getD t undef)
   | .cell x t=>do loadVar t (← asAddr (a.tmps.getD x undef)):Sem Value))).run C.P w=.ok us.toArray w:=by
  rw[Array.mapM_eq_mapM_toList]
  have hb:∀(s:Sem (List Value)) (r:List Value),s.run C.P w=.ok r w→((s.bind (Sem.pure ∘ List.toArray)):Sem (Array Value)).run C.P w=.ok r.toArray w:=by
   intro s r h
   show Sem.run C.P (s >>= (Sem.pure ∘ List.toArray)) w=_
   rw[NP,h]
   rfl
  exact hb _ _ e1
 refine⟨if h:us.toArray.size=1 then us.toArray[0]else .tuple us.toArray,?_,?_⟩
 ·unfold Go.results
  rw[NP]
  refine(congrArg (fun r=>Result.andThen r _) hm).trans ?_
  rfl
 ·unfold Dt
  rw[hq]
  cases ds with
  | nil =>
   have:us=[]:=Oj e2
   subst this
   exact .tup _ _ rfl (fun j y u hy=>by simp at hy)
  | cons d ds =>
   cases ds with
   | nil =>
    obtain⟨u,rfl⟩:=List.length_eq_one_iff.1 (by simpa using e2)
    exact e3 0 d u rfl rfl
   | cons d2 ds =>
    rw[dif_neg (by simp[e2])]
    exact .tup _ _ (by simp[e2]) (fun j y u hy hu=>e3 j y u hy (by simpa using hu))
end
def ii:Nat→List D→List (Nat×D)
 | _,[]=>[]
 | i,d::r=>(i,d)::ii (i+1) r
theorem vJ:∀{ds:List D} {i t:Nat} {d:D},(t,d)∈ii i ds→i≤t∧ds[t-i]?=some d
 | d'::r,i,t,d,h=>by
  rcases OB.1 h with h | h
  ·cases h;exact⟨NN _,by simp⟩
  ·obtain⟨h1,h2⟩:=vJ h
   refine⟨by omega,?_⟩
   rw[show t-i=(t-(i+1))+1 from by omega]
   simpa using h2
def tp (us:Array Value) (nt:Nat):Act:={ tmps:=us++Array.replicate (nt-us.size) undef,defers:=[] }
def yx (b:Nat):Deferred:={ target:=.collected b,args:=#[] }
section
variable {C C1:jB} {S:Nat→Prop} {μ:Nat→Value} {st:St} {a a1:Act} {w w':World}
theorem aU.turn (h:aU C S μ st a w) {mk Wo:List Nat} (d2:(Wo++C1.susp).Nodup)
  (d3:∀b∈Wo++C1.susp,w.heap[b]?=some (.deferred (some []))∧C.W.heap.size≤b∧¬S b∧∀(i:Nat) (A:ak),st.heap[i]?=some A→A.live=true→¬bu (μ i) b)
  (hW:C1.W=C.W) (hS:C1.S0=C.S0) (hd:a1.defers=Wo.map fun b=>{ target:=.collected b,args:=#[] }) (ht:a1.tmps.size=C1.nt) {env1:List (Nat×D)}
  (he:∀(t:Nat) (d:D),(t,d)∈env1→t<C1.nt∧ai S μ w d (a1.tmps.getD t undef)):aU C1 S μ ⟨env1,st.heap⟩ a1 w :=
 ⟨by rw[hW];exact h.os,by rw[hW];exact h.tape,by rw[hW];exact h.output,by rw[hW];exact h.size,by rw[hW];exact h.old,by rw[hS];exact h.mono,by rw[hS,hW];exact h.new,h.slt,he,h.heap,by rw[hW];exact h.may,
  ⟨Wo,hd,d2,by rw[hW];exact d3⟩,ht,by rw[hW];exact h.ro⟩
theorem aU.back (h:aU C1 S μ st a1 w) {mk:List Nat} (hW:C1.W=C.W) (hS:C1.S0=C.S0) (hs:C1.susp=mk++C.susp) (hd:a.defers=mk.map fun b=>{ target:=.collected b,args:=#[] }) (ht:a.tmps.size=C.nt)
  {env:List (Nat×D)} (he:∀(t:Nat) (d:D),(t,d)∈env→t<C.nt∧ai S μ w d (a.tmps.getD t undef)):aU C S μ ⟨env,st.heap⟩ a w:=by
 obtain⟨mk',e1,e2,e3⟩:=h.defers
 rw[hs]at e2 e3
 exact h.turn (mk:=mk') (Wo:=mk) (List.nodup_append.1 e2).2.1 (fun b hb=>e3 b (OK _ hb)) hW.symm hS.symm hd ht he
theorem aU.heapTo (h:aU C S μ st a w) {H:List ak} (hH:∀(i:Nat) (B:ak),H[i]?=some B→B=.dead∨st.heap[i]?=some B):aU C S μ ⟨st.env,H⟩ a w:=by
 have live:∀(i:Nat) (B:ak),H[i]?=some B→B.live=true→st.heap[i]?=some B:=fun i B hB hl=>by
  rcases hH i B hB with rfl | h1
  ·cases hl
  ·exact h1
 refine⟨h.os,h.tape,h.output,h.size,h.old,h.mono,h.new,h.slt,h.env,⟨fun i B hB=>?_,fun i j A B b hA hB la lb=>h.heap.apart i j A B b (live i A hA la) (live j B hB lb) la lb,fun i A b hA la=>h.heap.notS i A b (live i A hA la) la⟩,
  fun i A b hA la=>h.may i A b (live i A hA la) la,?_,h.tsize,fun i A b hA la=>?_⟩
 ·rcases hH i B hB with rfl | h1
  ·trivial
  ·exact h.heap.box i B h1
 ·obtain⟨mk,d1,d2,d3⟩:=h.defers
  refine⟨mk,d1,d2,fun b hb=>?_⟩
  obtain⟨q1,q2,q3,q4⟩:=d3 b hb
  exact⟨q1,q2,q3,fun i A hA hl=>q4 i A (live i A hA hl) hl⟩
 ·rcases hH i A hA with rfl | h1
  ·cases la
  ·exact h.ro i A b h1 la
theorem aU.shut (h:aU C S μ st a w) {b:Nat} {ds:List Deferred} (hd:a.defers={ target:=.collected b,args:=#[] }::ds) :
  w.heap[b]?=some (.deferred (some []))∧aU C S μ st { a with defers:=ds } (w.putObj b (.deferred none)):=by
 obtain⟨mk,d1,d2,d3⟩:=h.defers
 cases mk with
 | nil=>rw[hd]at d1;cases d1
 | cons b' mk =>
  rw[hd]at d1
  simp only[OQ,Pn,Deferred.mk.injEq,Target.collected.injEq,and_true]at d1
  obtain⟨rfl,d1⟩:=d1
  obtain⟨q1,q2,q3,q4⟩:=d3 b (by simp)
  have Ql:b<w.heap.size:=(NV.1 q1).1
  have QI:∀k,k≠b→(w.putObj b (.deferred none)).heap[k]?=w.heap[k]?:=fun k hk=>Px hk
  have hS:∀k,S k→(w.putObj b (.deferred none)).heap[k]?=w.heap[k]?:=fun k hk=>QI k (fun e=>q3 (e ▸ hk))
  have Qk:(w.putObj b (.deferred none)).heap.size=w.heap.size:=PZ
  refine⟨q1,h.os,h.tape,h.output,by rw[Qk];exact h.size,fun k hk=>by rw[QI k (by omega)];exact h.old k hk,h.mono,h.new,fun k hk=>by rw[Qk];exact h.slt k hk,fun t d hm=>?_,⟨fun i A hA=>?_,h.heap.apart,h.heap.notS⟩,h.may,⟨mk,d1,?_,fun k hk=>?_⟩,h.tsize,h.ro⟩
  ·obtain⟨r1,r2⟩:=h.env t d hm
   exact⟨r1,r2.stable (fun _ h _=>h) (fun k hk _=>hS k hk) (by rw[Qk];exact NN _) (fun _ _=>rfl)⟩
  ·rcases A.three with rfl | hl | hl
   ·trivial
   ·exact(h.heap.box i A hA).stable (fun _ h _=>h) (fun k hk _=>hS k hk) (by rw[Qk];exact NN _) (fun _ _=>rfl) (fun k hk=>QI k (fun e=>q4 i A hA hl (e ▸ hk)))
   ·exact(h.heap.box i A hA).stable (fun _ h _=>h) (fun k hk _=>hS k hk) (by rw[Qk];exact NN _) (fun _ _=>rfl) (fun k hk=>QI k (fun e=>by have:=h.ro i A k hA hl hk;omega))
  ·rw[Pu]at d2
   exact(List.nodup_cons.1 d2).2
  ·obtain⟨r1,r2,r3,r4⟩:=d3 k (by rw[Pu];exact Oe _ hk)
   have Wd:k≠b:=fun e=>by
    rw[Pu]at d2
    exact(List.nodup_cons.1 d2).1 (e ▸ hk)
   exact⟨by rw[QI k Wd];exact r1,r2,r3,r4⟩
theorem aU.leaves {fn:Func} (D':gg C.P fn st) {F:Fence} {R:Ending→World→Prop}:∀(ds:List Deferred) (a:Act) (w:World),a.defers=ds→aU C S μ st a w →
  (∀w' a' u,aU C S μ st a' w'→ai S μ w' (gO C.P fn st) u→R (.returned u) w')→LeavesInM F 0 C.P fn a.tmps R ds .returning w
 | [],a,w,hd,h,hK=>by
  obtain⟨u,h1,h2⟩:=h.results D'
  exact⟨u,h1,hK w a u h h2⟩
 | d::ds,a,w,hd,h,hK=>by
  have U1:∃b,d={ target:=.collected b,args:=#[] }:=by
   obtain⟨mk,d1,_⟩:=h.defers
   rw[hd]at d1
   cases mk with
   | nil=>cases d1
   | cons b mk=>exact⟨b,by simp only[OQ,Pn]at d1;exact d1.1⟩
  obtain⟨b,rfl⟩:=U1
  obtain⟨q1,q2⟩:=h.shut hd
  refine⟨by simp,.inl ⟨b,_,rfl,run_takeDeferred q1,?_⟩⟩
  exact aU.leaves D' ds { a with defers:=ds } _ rfl q2 hK
theorem iK {f:FuncId} {fn:Func} {c:Code} (hf:C.P.funcs[f]?=some fn) (hb:fn.body=some c) (Vd:C.rd=none) {us:Array Value} {Q:Exit→St→Prop}
  (hR:aU C S μ st (tp us fn.ntmps) w) (hev:Ev C c Q st) (hQ:∀e J',Q e J'→(e=.normal∨e=.ret)∧gg C.P fn J') :
  Calls C.P f us w (fun e w'=>∃u e0 J' S' μ' a',e=.returned u∧Q e0 J'∧aU C S' μ' J' a' w'∧ai S' μ' w' (gO C.P fn J') u):=by
 have h:=hev _ w S μ hR
 rw[Vd]at h
 refine callsIn_wide.1 (callsIn_of_wp_marks (n:=0) hf hb trivial (wpIn_mono h ?_))
 rintro e a' w' ⟨J',S',μ',hq,QZ⟩
 obtain⟨he,D'⟩:=hQ e J' hq
 have key:LeavesInM Fence.wide 0 C.P fn a'.tmps (fun e w'=>∃u e0 J' S' μ' a',e=.returned u∧Q e0 J'∧aU C S' μ' J' a' w'∧ai S' μ' w' (gO C.P fn J') u) a'.defers .returning w' :=
  QZ.leaves D' a'.defers a' w' rfl (fun w2 a2 u TI hu=>⟨u,e,J',S',μ',a2,rfl,hq,TI,hu⟩)
 rcases he with rfl | rfl
 ·exact key
 ·exact key
end
theorem sF {S:Nat→Prop} {μ:Nat→Value} {w:World} {ds:List D} {us:Array Value} (h:aK S μ w ds us) {nt:Nat} (hn:ds.length≤nt):∀(t:Nat) (d:D),(t,d)∈ii 0 ds→t<nt∧ai S μ w d ((tp us nt).tmps.getD t undef):=by
 intro t d hm
 obtain⟨_,h2⟩:=vJ hm
 rw[Nat.sub_zero]at h2
 have ht:=(NL.1 h2).1
 refine⟨by omega,?_⟩
 have Ql:t<us.size:=by rw[h.1];exact ht
 have:(us++Array.replicate (nt-us.size) undef).getD t undef=us[t]:=by
  simp only[OH]
  rw[Array.getElem?_append_left Ql]
  simp[Ql]
 show ai S μ w d ((us++Array.replicate (nt-us.size) undef).getD t undef)
 rw[this]
 exact h.2 t d _ h2 (N7 Ql)
theorem pg {ds:List D} {us:Array Value} (h:us.size=ds.length) {nt:Nat} (hn:ds.length≤nt):(tp us nt).tmps.size=nt:=by
 show(us++Array.replicate (nt-us.size) undef).size=nt
 simp
 omega
def V.flat:V→Bool
 | .int _ _=>true
 | .bool _=>true
 | .str _=>true
 | .nilf=>true
 | _=>false
def tr:ak→Prop
 | .arr _ _ enc _ l=>∀x∈l,∀y∈enc x,y.flat=true
 | _=>False
theorem cz.flat {S S':Nat→Prop} {w:World} {x:V} {u:Value} (h:cz S w x u) (hx:x.flat=true):cz S' w x u:=by
 cases h<;>first | (cases hx;done) | constructor
theorem aG.flat {S S':Nat→Prop} {μ μ':Nat→Value} {w:World} {u:Value} {B:ak} (h:aG S μ w u B) (hB:tr B):aG S' μ' w u B:=by
 cases B with
 | arr E sz enc d l =>
  obtain⟨h0,xs,h1,h3⟩:=h
  refine⟨h0,xs,h1,fun i x j y hx hy=>?_⟩
  obtain⟨z,hz,hr⟩:=h3 i x j y hx hy
  exact⟨z,hz,hr.flat (hB x (Oh hx) y (Oh hy))⟩
 | _=>exact hB.elim
theorem vK {B:ak} (h:tr B):B.isArr=true:=by
 cases B<;>first | rfl | exact h.elim
def scal:D→Bool
 | .v x=>x.flat
 | _=>false
def vL:List D→Bool
 | []=>true
 | .own i::cs=>Nat.beq i 0&&vL cs
 | c::cs=>scal c&&vL cs
def Ao:D→Bool
 | .own i=>Nat.beq i 0
 | .gr i _=>Nat.beq i 0
 | .agg cs=>vL cs
 | _=>false
def MX (n:Nat):D→D
 | .own _=>.own n
 | d=>d
def D.up (n:Nat):D→D
 | .own _=>.own n
 | .gr _ r=>.gr n r
 | .agg cs=>.agg (cs.map (MX n))
 | d=>d
theorem vM:∀{cs:List D} {j:Nat} {c:D},vL cs=true→cs[j]?=some c→c=.own 0∨scal c=true
 | [],j,c,_,h=>by simp at h
 | x::cs,0,c,h,hc=>by
  simp at hc
  subst hc
  cases x<;>simp only[vL,NK]at h<;>first | exact .inr h.1 | (have:=N2.mp h.1;subst this;exact .inl rfl)
 | x::cs,j+1,c,h,hc=>by
  refine vM (cs:=cs) (j:=j) ?_ (by simpa using hc)
  cases x<;>simp only[vL,NK]at h<;>exact h.2
theorem G5 {S S':Nat→Prop} {μ μ':Nat→Value} {w:World} {c:D} {u:Value} {n:Nat} (h:ai S μ w c u) (hc:c=.own 0∨scal c=true) (hm:μ' n=μ 0):ai S' μ' w (MX n c) u:=by
 rcases hc with rfl | hc
 ·cases h
  rw[← hm]
  exact .own n
 ·cases c<;>first | cases hc | skip
  cases h with
  | v _ _ h=>exact .v _ _ (h.flat hc)
theorem Ap {S S':Nat→Prop} {μ μ':Nat→Value} {w:World} {r:D} {u:Value} {n:Nat} (h:ai S μ w r u) (hr:Ao r=true) (hm:μ' n=μ 0):ai S' μ' w (r.up n) u:=by
 cases r<;>first | cases hr | skip
 ·rename_i i
  have:=N2.mp hr
  subst this
  cases h
  rw[← hm]
  exact .own n
 ·rename_i cs
  cases h with
  | agg _ us h1 h2 =>
   refine .agg _ us (by rw[N1];exact h1) (fun j y x hy hx=>?_)
   rw[N4,Option.map_eq_some_iff]at hy
   obtain⟨c,hc,rfl⟩:=hy
   exact G5 (h2 j c x hc hx) (vM hr hc) hm
 ·rename_i i r
  have:=N2.mp hr
  subst this
  cases h with
  | gr _ _ us _ h1 h2 h3=>exact .gr n r us u (by rw[hm];exact h1) h2 h3
theorem aG.arrMu {S:Nat→Prop} {μ μ':Nat→Value} {w:World} {u:Value} {B:ak} (h:aG S μ w u B) (hB:B.isOwn=true):aG S μ' w u B:=by
 cases B<;>first | (cases hB;done) | exact h
theorem kX {w:World} {E sz n b:Nat} {u:Value} {xs:List Value} (h:w.ownsRow 0 E sz u n xs) (hb:aF u=some b):∃cs T x,w.heap[b]?=some (.cells cs T x):=by
 obtain⟨_,h2⟩:=h
 rcases h2 with ⟨rfl,_⟩ | ⟨g,cap,Qz,rfl,hg,hh2,r⟩
 ·simp[aF]at hb
 ·simp[aF]at hb
  subst hb
  exact⟨_,_,_,hh2⟩
theorem aG.ownBlk {S:Nat→Prop} {μ:Nat→Value} {w:World} {u:Value} {B:ak} {b:Nat} (h:aG S μ w u B) (hB:B.isOwn=true) (hb:bu u b):∃cs T x,w.heap[b]?=some (.cells cs T x):=by
 cases B<;>first | (cases hB;done) | skip
 ·obtain⟨_,xs,h2,_⟩:=h
  refine kX h2 ?_
  rcases hb with hb | ⟨us,rfl,_⟩
  ·exact hb
  ·rcases h2.2 with ⟨h2,_⟩ | ⟨_,_,_,h2,_⟩<;>cases h2
 ·obtain⟨us,rfl,h1,⟨v0,xs,g1,g2,g3,g4⟩,h2,h3⟩:=h
  rcases hb with hb | ⟨RL,he,k,x,hx,hb⟩
  ·simp[aF]at hb
  ·cases he
   cases k with
   | zero=>rw[g1]at hx;cases hx;exact kX g3 hb
   | succ k=>obtain⟨_,_,xs,h,_⟩:=h2 k x hx;exact kX h hb
section
variable {C:jB} {S:Nat→Prop} {μ:Nat→Value} {st:St} {a:Act} {w:World}
theorem aU.addBoxA (h:aU C S μ st a w) (hf:bv st.heap.length st.env=true) (hh:aY st.heap.length st.heap=true) {B:ak} {u:Value} (VM:B.isOwn=true) {μ1:Nat→Value} (G':aG S μ1 w u B)
  (Qv:∀b,bu u b→C.W.heap.size≤b∧¬S b∧∀(i:Nat) (A:ak),st.heap[i]?=some A→A.live=true→¬bu (μ i) b):aU C S (aO μ st.heap.length u) ⟨st.env,st.heap++[B]⟩ a w:=by
 have Qw:∀i,i<st.heap.length→aO μ st.heap.length u i=μ i:=fun i hi=>aA _ _ (by omega)
 have Q4:∀(i:Nat) (A:ak),(st.heap++[B])[i]?=some A→(i<st.heap.length∧st.heap[i]?=some A)∨(i=st.heap.length∧A=B):=by
  intro i A hA
  by_cases hi:i<st.heap.length
  ·rw[NU hi]at hA
   exact .inl ⟨hi,hA⟩
  ·rw[NX (by omega)]at hA
   by_cases e:i-st.heap.length=0
   ·rw[e]at hA
    simp at hA
    exact .inr ⟨by omega,hA.symm⟩
   ·obtain⟨k,hk⟩:∃k,i-st.heap.length=k+1:=⟨i-st.heap.length-1,by omega⟩
    rw[hk]at hA
    simp at hA
 refine⟨h.os,h.tape,h.output,h.size,h.old,h.mono,h.new,h.slt,?_,⟨?_,?_,?_⟩,?_,?_,h.tsize,?_⟩
 ·intro t d hm
  obtain⟨q1,q2⟩:=h.env t d hm
  exact⟨q1,q2.stable (fun _ h _=>h) (fun _ _ _=>rfl) (NN _) (fun id Qh=>aA _ _ (fun e=>by rw[e,bR hf hm]at Qh;cases Qh))⟩
 ·intro i A hA
  rcases Q4 i A hA with ⟨hi,hA⟩ | ⟨rfl,rfl⟩
  ·rw[Qw i hi]
   exact(h.heap.box i A hA).stable (fun _ h _=>h) (fun _ _ _=>rfl) (NN _) (fun id Qh=>aA _ _ (fun e=>by rw[e,bS hh hA]at Qh;cases Qh)) (fun _ _=>rfl)
  ·rw[ar]
   exact G'.arrMu VM
 ·intro i j A A' b hA QQ la UO hb QJ
  have g1:=Q4 i A hA
  have g2:=Q4 j A' QQ
  clear hA QQ
  rcases g1 with ⟨hi,hA⟩ | ⟨ei,eA⟩<;>rcases g2 with ⟨hj,QQ⟩ | ⟨ej,eA'⟩
  ·rw[Qw i hi]at hb;rw[Qw j hj]at QJ
   exact h.heap.apart i j A A' b hA QQ la UO hb QJ
  ·rw[Qw i hi]at hb;rw[ej,ar]at QJ
   exact((Qv b QJ).2.2 i A hA la hb).elim
  ·rw[Qw j hj]at QJ;rw[ei,ar]at hb
   exact((Qv b hb).2.2 j A' QQ UO QJ).elim
  ·rw[ei,ej]
 ·intro i A b hA la hb
  rcases Q4 i A hA with ⟨hi,hA⟩ | ⟨rfl,rfl⟩
  ·rw[Qw i hi]at hb
   exact h.heap.notS i A b hA la hb
  ·rw[ar]at hb
   exact(Qv b hb).2.1
 ·intro i A b hA la hb
  rcases Q4 i A hA with ⟨hi,hA⟩ | ⟨rfl,rfl⟩
  ·rw[Qw i hi]at hb
   exact h.may i A b hA la hb
  ·rw[ar]at hb
   exact(Qv b hb).1
 ·obtain⟨mk,e1,e2,e3⟩:=h.defers
  refine⟨mk,e1,e2,fun b hb=>?_⟩
  obtain⟨g1,g2,g3,g4⟩:=e3 b hb
  refine⟨g1,g2,g3,fun i A hA la RF=>?_⟩
  rcases Q4 i A hA with ⟨hi,hA⟩ | ⟨rfl,rfl⟩
  ·rw[Qw i hi]at RF
   exact g4 i A hA la RF
  ·rw[ar]at RF
   obtain⟨cs,T,x,hh2⟩:=G'.ownBlk VM RF
   rw[hh2]at g1
   simp at g1
 ·intro i A b hA la hb
  rcases Q4 i A hA with ⟨hi,hA⟩ | ⟨rfl,rfl⟩
  ·rw[Qw i hi]at hb
   exact h.ro i A b hA la hb
  ·cases A<;>first | (cases VM;done) | cases la
theorem aU.addBox (h:aU C S μ st a w) (hf:bv st.heap.length st.env=true) (hh:aY st.heap.length st.heap=true) {B:ak} {u:Value} (Vz:tr B) {S1:Nat→Prop} {μ1:Nat→Value} (G':aG S1 μ1 w u B)
  (Qv:∀b,bu u b→C.W.heap.size≤b∧¬S b∧∀(i:Nat) (A:ak),st.heap[i]?=some A→A.live=true→¬bu (μ i) b):aU C S (aO μ st.heap.length u) ⟨st.env,st.heap++[B]⟩ a w :=
 h.addBoxA hf hh (ak.isOwn_arr (vK Vz)) (μ1:=μ) (G'.flat Vz) Qv
def xe (P:Program) (g:FuncId) (H:List ak) (ds:List D) (q':Option (List D)) (r:D) (B:ak):Prop :=
 match q' with
 | none=>tr B∧ap P g ds [] false r [B]
 | some q'=>tr B∧yr H ds q'∧ap P g q' [] false r [B]
theorem aU.callCoreO (h:aU C S μ st a w) {f:FuncId} {q':List D} {r:D} {B:ak} {us:Array Value} (Vz:tr B) (hc:ap C.P f q' [] false r [B]) {S1:Nat→Prop} (h1:∀b,S b→S1 b) (h2:∀b,S1 b→b<w.heap.size)
  (QF:aK S1 μ w q' us) (hr:Ao r=true) (hf:bv st.heap.length st.env=true) (hh:aY st.heap.length st.heap=true) {K:Value→World→Prop} (hK:∀S' μ' u w',aU C S' μ' ⟨st.env,st.heap++[B]⟩ a w'→ai S' μ' w' (r.up st.heap.length) u→K u w') :
  Calls C.P f us w (fun e w'=>∃u,e=.returned u∧K u w'):=by
 have slt:=h.slt
 refine(hc S1 μ w us h2 (h.glob.stable (fun b hb _=>h1 b hb) (fun _ _ _=>rfl) (NN _)) ⟨fun id B hB=>by simp at hB,fun i j A B b hA=>by simp at hA,fun i A b hA=>by simp at hA⟩ QF).mono ?_
 rintro e w' ⟨u,μ',S',rfl,q1,q2,q3,q4,q5,q6,q7,q8,q9,q10,q11,_⟩
 have hR:aU C S μ st a w':=h.grow q1 q2 q3 q4 (fun k hk=>q5 k hk (fun i A hA=>by simp at hA)) (fun b hb=>hb) (fun b hb=>.inl hb) (fun b hb=>OV (slt b hb) q4)
 have G':=q10.box 0 B rfl
 have hl:B.live=true:=by have:=vK Vz;cases B<;>first | rfl | cases this
 refine⟨u,rfl,hK S (aO μ st.heap.length (μ' 0)) u w' (hR.addBox hf hh Vz G' (fun b hb=>?_)) (Ap q9 hr (ar _ _ _))⟩
 have Qv:w.heap.size≤b:=by
  rcases q11 0 B b rfl hl hb with hb | ⟨j,A',QQ,_⟩
  ·exact hb
  ·simp at QQ
 refine⟨Pb h.size Qv,fun hS=>by have:=slt b hS;omega,fun i A hA la RF=>?_⟩
 have:=(h.heap.box i A hA).lt la b RF
 omega
theorem aU.callOwn (h:aU C S μ st a w) {f:FuncId} {ds:List D} {q':Option (List D)} {r:D} {B:ak} {us:Array Value} (hc:xe C.P f st.heap ds q' r B) (QF:aK S μ w ds us) (hr:Ao r=true)
  (hf:bv st.heap.length st.env=true) (hh:aY st.heap.length st.heap=true) {K:Value→World→Prop} (hK:∀S' μ' u w',aU C S' μ' ⟨st.env,st.heap++[B]⟩ a w'→ai S' μ' w' (r.up st.heap.length) u→K u w') :
  Calls C.P f us w (fun e w'=>∃u,e=.returned u∧K u w'):=by
 cases q' with
 | none=>exact h.callCoreO hc.1 hc.2 (fun _ h=>h) h.slt QF hr hf hh hK
 | some q' =>
  obtain⟨Vz,hco,hc⟩:=hc
  have slt:=h.slt
  have hSc:∀b,(S b∨∃(i:Nat) (A:ak),st.heap[i]?=some A∧A.mem=true∧bu (μ i) b)→b<w.heap.size:=by
   rintro b (hb | ⟨i,A,hA,hl,hb⟩)
   ·exact slt b hb
   ·exact(h.heap.box i A hA).ltM hl b hb
  refine h.callCoreO Vz hc (S1:=fun b=>S b∨∃(i:Nat) (A:ak),st.heap[i]?=some A∧A.mem=true∧bu (μ i) b) (fun b hb=>.inl hb) hSc ?_ hr hf hh hK
  exact jI h.heap (fun b hb=>.inl hb) slt (.inl (fun i A b hA hl hb=>.inr ⟨i,A,hA,hl,hb⟩)) hco QF
def sG (P:Program) (g:FuncId) (H:List ak) (ds:List D) (q':Option (List D)) (r:D) (B:ak):Prop :=
 match q' with
 | none=>ap P g ds [] false r [B]
 | some q'=>yr H ds q'∧ap P g q' [] false r [B]
theorem aU.callDeep (h:aU C S μ st a w) {f:FuncId} {ds:List D} {q':Option (List D)} {r:D} {B:ak} {us:Array Value} (hc:sG C.P f st.heap ds q' r B) (QF:aK S μ w ds us) (hr:Ao r=true) (hB:B.isOwn=true) (RZ:fa ds=true)
  (hf:bv st.heap.length st.env=true) (hh:aY st.heap.length st.heap=true) {K:Value→World→Prop} (hK:∀S' μ' u w',aU C S' μ' ⟨st.env,st.heap++[B]⟩ a w'→ai S' μ' w' (r.up st.heap.length) u→K u w') :
  Calls C.P f us w (fun e w'=>∃u,e=.returned u∧K u w'):=by
 obtain⟨Uj,hc',UZ⟩:∃Uj,ap C.P f Uj [] false r [B]∧aK S μ w Uj us:=by
  cases q' with
  | none=>exact⟨ds,hc,QF⟩
  | some q'=>exact⟨q',hc.2,jI h.heap (fun _ h=>h) h.slt (.inr RZ) hc.1 QF⟩
 have slt:=h.slt
 refine(hc' S μ w us slt h.glob ⟨fun id B hB=>by simp at hB,fun i j A B b hA=>by simp at hA,fun i A b hA=>by simp at hA⟩ UZ).mono ?_
 rintro e w' ⟨u,μ',S',rfl,q1,q2,q3,q4,q5,q6,q7,q8,q9,q10,q11,_⟩
 have hR:aU C S' μ st a w':=h.grow q1 q2 q3 q4 (fun k hk=>q5 k hk (fun i A hA=>by simp at hA)) q6 q7 q8
 have G':=q10.box 0 B rfl
 have hl:B.live=true:=by cases B<;>first | rfl | cases hB
 refine⟨u,rfl,hK S' (aO μ st.heap.length (μ' 0)) u w' (hR.addBoxA hf hh hB G' (fun b hb=>?_)) (Ap q9 hr (ar _ _ _))⟩
 have Qv:w.heap.size≤b:=by
  rcases q11 0 B b rfl hl hb with hb | ⟨j,A',QQ,_⟩
  ·exact hb
  ·simp at QQ
 refine⟨Pb h.size Qv,q10.notS 0 B b rfl hl hb,fun i A hA la RF=>?_⟩
 have:=(h.heap.box i A hA).lt la b RF
 omega
def EF (j i:Nat):List (Nat×D)→Option (List (Nat×D))
 | []=>some []
 | (t,d)::r=>match EF j i r with
  | some r'=>match d with
   | .own k=>if Nat.beq k j then some ((t,.own i)::r')else if Nat.beq k i then none else some ((t,.own k)::r')
   | d=>if D.free j d&&D.free i d then some ((t,d)::r')else none
  | none=>none
theorem yy {j i:Nat}:∀{env Sq:List (Nat×D)} {t:Nat} {d':D},EF j i env=some Sq→(t,d')∈Sq→∃d,(t,d)∈env∧((d=.own j∧d'=.own i)∨(d'=d∧D.free j d=true∧D.free i d=true))
 | [],Sq,t,d',h,hm=>by
  simp only[EF,NW]at h
  subst h
  simp at hm
 | (s,e)::r,Sq,t,d',h,hm=>by
  unfold EF at h
  split at h
  ·rename_i r' hr'
   have tail:(t,d')∈r'→∃d,(t,d)∈(s,e)::r∧((d=.own j∧d'=.own i)∨(d'=d∧D.free j d=true∧D.free i d=true)):=fun hm=>by
    obtain⟨d,h1,h2⟩:=yy hr' hm
    exact⟨d,Oe _ h1,h2⟩
   split at h
   ·rename_i k
    split at h
    ·rename_i hk
     simp only[NW]at h
     subst h
     rcases OB.1 hm with hm | hm
     ·cases hm
      have:=N2.mp hk
      subst this
      exact⟨_,Oi ..,.inl ⟨rfl,rfl⟩⟩
     ·exact tail hm
    ·rename_i hk
     split at h
     ·cases h
     ·rename_i Sp
      simp only[NW]at h
      subst h
      rcases OB.1 hm with hm | hm
      ·cases hm
       refine⟨_,Oi ..,.inr ⟨rfl,?_,?_⟩⟩
       ·simp only[D.free];simp only[P2]at hk;rw[hk];rfl
       ·simp only[D.free];simp only[P2]at Sp;rw[Sp];rfl
      ·exact tail hm
   ·split at h
    ·rename_i hc
     simp only[NK]at hc
     simp only[NW]at h
     subst h
     rcases OB.1 hm with hm | hm
     ·cases hm
      exact⟨_,Oi ..,.inr ⟨rfl,hc.1,hc.2⟩⟩
     ·exact tail hm
    ·cases h
  ·cases h
def BU (j i:Nat) (st:St):Option St :=
 if aY i st.heap&&aY j st.heap&&!(Nat.beq i j)&&Nat.blt i st.heap.length then
  match st.heap[j]? with
  | some (.arr E sz enc d l)=>match EF j i st.env with
   | some env=>some ⟨env,(st.heap.set i (.arr E sz enc d l)).set j .dead⟩
   | none=>none
  | _=>none
 else none
theorem aU.move (h:aU C S μ st a w) {j i:Nat} {J':St} (hm:BU j i st=some J'):aU C S (aO μ i (μ j)) J' a w:=by
 unfold BU at hm
 split at hm
 ·rename_i hc
  simp only[NK,Oc,PA]at hc
  obtain⟨⟨⟨fi,fj⟩,VD⟩,Ql⟩:=hc
  have VD:i≠j:=fun e=>by rw[e]at VD;simp at VD
  split at hm
  ·rename_i E sz α enc d l hj
   split at hm
   ·rename_i env he
    simp only[NW]at hm
    subst hm
    have Th:j<st.heap.length:=(NL.1 hj).1
    have Q4:∀(k:Nat) (A:ak),((st.heap.set i (ak.arr E sz enc d l)).set j .dead)[k]?=some A→(k=j∧A=.dead)∨(k=i∧A=ak.arr E sz enc d l)∨(k≠i∧k≠j∧st.heap[k]?=some A):=by
     intro k A hA
     by_cases e1:k=j
     ·subst e1
      rw[N0 (by rw[Ok];exact Th)]at hA
      exact .inl ⟨rfl,by cases hA;rfl⟩
     ·rw[NZ (fun e=>e1 e.symm)]at hA
      by_cases e2:k=i
      ·subst e2
       rw[N0 Ql]at hA
       exact .inr (.inl ⟨rfl,by cases hA;rfl⟩)
      ·rw[NZ (fun e=>e2 e.symm)]at hA
       exact .inr (.inr ⟨e2,e1,hA⟩)
    have Q5:(ak.arr E sz enc d l).live=true:=rfl
    have Ve:∀k,k≠i→aO μ i (μ j) k=μ k:=fun k hk=>aA _ _ hk
    refine⟨h.os,h.tape,h.output,h.size,h.old,h.mono,h.new,h.slt,?_,⟨?_,?_,?_⟩,?_,?_,h.tsize,?_⟩
    ·intro t d' TW
     obtain⟨d0,h0,hd⟩:=yy he TW
     obtain⟨q1,q2⟩:=h.env t d0 h0
     refine⟨q1,?_⟩
     rcases hd with ⟨rfl,rfl⟩ | ⟨rfl,g1,g2⟩
     ·generalize hu:a.tmps.getD t undef=u at q2
      cases q2
      have:=ai.own (S:=S) (μ:=aO μ i (μ j)) (w:=w) i
      rwa [ar]at this
     ·exact q2.stable (fun _ h _=>h) (fun _ _ _=>rfl) (NN _) (fun id Qh=>Ve id (fun e=>by rw[e,g2]at Qh;cases Qh))
    ·intro k A hA
     rcases Q4 k A hA with ⟨rfl,rfl⟩ | ⟨rfl,rfl⟩ | ⟨h1,h2,hA⟩
     ·trivial
     ·rw[ar]
      exact(h.heap.box j _ hj).stable (fun _ h _=>h) (fun _ _ _=>rfl) (NN _) (fun id Qh=>by cases Qh) (fun _ _=>rfl)
     ·rw[Ve k h1]
      exact(h.heap.box k A hA).stable (fun _ h _=>h) (fun _ _ _=>rfl) (NN _) (fun id Qh=>Ve id (fun e=>by rw[e,bS fi hA]at Qh;cases Qh)) (fun _ _=>rfl)
    ·intro k m A A' b hA QQ la UO hb QJ
     have g1:=Q4 k A hA
     have g2:=Q4 m A' QQ
     clear hA QQ
     rcases g1 with ⟨rfl,rfl⟩ | ⟨rfl,rfl⟩ | ⟨h1,h2,hA⟩<;>rcases g2 with ⟨rfl,rfl⟩ | ⟨rfl,rfl⟩ | ⟨h3,h4,QQ⟩<;>first | (cases la;done) | (cases UO;done) | rfl | skip
     ·rw[ar]at hb;rw[Ve m h3]at QJ
      exact(h4 (h.heap.apart j m _ _ b hj QQ Q5 UO hb QJ).symm).elim
     ·rw[ar]at QJ;rw[Ve k h1]at hb
      exact(h2 (h.heap.apart k j _ _ b hA hj la Q5 hb QJ)).elim
     ·rw[Ve k h1]at hb;rw[Ve m h3]at QJ
      exact h.heap.apart k m A A' b hA QQ la UO hb QJ
    ·intro k A b hA la hb
     rcases Q4 k A hA with ⟨rfl,rfl⟩ | ⟨rfl,rfl⟩ | ⟨h1,h2,hA⟩
     ·cases la
     ·rw[ar]at hb;exact h.heap.notS j _ b hj Q5 hb
     ·rw[Ve k h1]at hb;exact h.heap.notS k A b hA la hb
    ·intro k A b hA la hb
     rcases Q4 k A hA with ⟨rfl,rfl⟩ | ⟨rfl,rfl⟩ | ⟨h1,h2,hA⟩
     ·cases la
     ·rw[ar]at hb;exact h.may j _ b hj Q5 hb
     ·rw[Ve k h1]at hb;exact h.may k A b hA la hb
    ·obtain⟨mk,e1,e2,e3⟩:=h.defers
     refine⟨mk,e1,e2,fun b hb=>?_⟩
     obtain⟨g1,g2,g3,g4⟩:=e3 b hb
     refine⟨g1,g2,g3,fun k A hA la RF=>?_⟩
     rcases Q4 k A hA with ⟨rfl,rfl⟩ | ⟨rfl,rfl⟩ | ⟨h1,h2,hA⟩
     ·cases la
     ·rw[ar]at RF;exact g4 j _ hj Q5 RF
     ·rw[Ve k h1]at RF;exact g4 k A hA la RF
    ·intro k A b hA la hb
     rcases Q4 k A hA with ⟨rfl,rfl⟩ | ⟨rfl,rfl⟩ | ⟨h1,h2,hA⟩
     ·cases la
     ·cases la
     ·rw[Ve k h1]at hb;exact h.ro k A b hA la hb
   ·cases hm
  ·cases hm
 ·cases hm
end
end Go.Proofs.Ytcejcppjedhicaa
